/-
  Walks of the peers' functions.
-/
import Derived.Test.YtmngdgclldkcfaaGreatRows
import Derived.Test.YtmngdgclldkcfaaGreatJ6
import Derived.Test.YtmngdgclldkcfaaGreatJ7
import Derived.Test.YtmngdgclldkcfaaGreatTJ
import Derived.Test.YtmngdgclldkcfaaGreatJ26
set_option linter.unusedVariables false
set_option linter.unusedSimpArgs false
set_option maxRecDepth 20000
set_option maxHeartbeats 4000000
namespace Go.Proofs.YtmngdgclldkcfaaGreat
open Go.Vg
open Enc (R)
theorem ent100:Ent Tryz.prog 100:=en Tryz.func100
theorem ent101:Ent Tryz.prog 101:=en Tryz.func101
theorem ent102:Ent Tryz.prog 102:=en Tryz.func102
theorem ent103:Ent Tryz.prog 103:=en Tryz.func103
theorem ent155:Ent Tryz.prog 155:=en Tryz.func155
theorem ent224:Ent Tryz.prog 224:=en Tryz.func224
theorem ent227:Ent Tryz.prog 227:=en Tryz.func227
theorem ent228:Ent Tryz.prog 228:=en Tryz.func228
theorem ent229:Ent Tryz.prog 229:=en Tryz.func229
theorem ent58:Ent Tryz.prog 58:=en Tryz.func58
theorem ent98:Ent Tryz.prog 98:=en Tryz.func98
theorem ent99:Ent Tryz.prog 99:=en Tryz.func99
instance fd89_0:FdC Tryz.prog 89 0 0:={}
instance fd89_1:FdC Tryz.prog 89 1 1:={}
instance fd89_2:FdC Tryz.prog 89 2 2:={}
instance fd89_3:FdC Tryz.prog 89 3 3:={}
instance fd89_4:FdC Tryz.prog 89 4 4:={}
instance fd89_5:FdC Tryz.prog 89 5 5:={}
instance fd89_6:FdC Tryz.prog 89 6 6:={}
instance fd89_7:FdC Tryz.prog 89 7 7:={}
instance fd89_8:FdC Tryz.prog 89 8 8:={}
instance fd89_9:FdC Tryz.prog 89 9 9:={}
theorem st89:stTy Tryz.prog 89 = some ([.int .i64 0,.int .i64 0,.int .i64 0,.int .i64 0,.int .i64 0,.slice none 0 0,.slice none 0 0,.slice none 0 0,.slice none 0 0,.slice none 0 0,.bool false],[(0,1),(1,1),(2,1),(3,1),(4,1),(5,1),(6,1),(7,1),(8,1),(9,1),(10,1)]):=by kernel_rfl
instance ty86:TyC Tryz.prog 86 (1,false):={}
instance ty87:TyC Tryz.prog 87 (1,false):={}
instance ty89:TyC Tryz.prog 89 (11,true):={}
theorem zr89:zeroOf Tryz.prog 89 = some (.agg #[.int .i64 0,.int .i64 0,.int .i64 0,.int .i64 0,.int .i64 0,.slice none 0 0,.slice none 0 0,.slice none 0 0,.slice none 0 0,.slice none 0 0,.bool false]):=by kernel_rfl
theorem slices_Min_walk (a0_x:List Int) (w:World) {v0:Value} (h0:R (hpOf w) a0_x [v0]) {r:Int} (H:slices_Min a0_x = some r):Calls Tryz.prog 99 #[v0] w fun e w'=>e = .returned (.int .i64 r)∧Ext w w':=by
 have hm0:=R_max h0
 obtain ⟨p0,c0,rfl⟩:=R_form h0
 unfold slices_Min at H
 refine te Tryz.func99 (Sat.start w) ?_
 refine au 2 ?_
 refine T.seq fun _ k2=>au 4 ?_
 refine T.joinE (σ:=Unit) (γ:=Unit) H (fun s=>s) [(0,_)] sb (fun _ _=>[]) (fun _ _=>Sat w []) ?_ ?_
 ·rintro ⟨⟩ ⟨⟩ H
  try dsimp only [Ex.then] at H
  refine Cont.kq [0] ?_
  refine id (k2 _ _ ?_)
  refine T.seq fun _ k4=>T.region (rM rfl ?_)
  obtain ⟨g2,H⟩:=gdE H
  obtain ⟨bl3,ol4,rfl⟩:=R_ptr h0 (ne_of_pos (pos_of g2))
  refine rp (Pu.indexSl sl35.h rfl rfl g2) (rq (Qt.ld0 (α:=Int) (Rd.base h0) ty3.h rfl rfl g2 (by rintro _ _ rfl; rfl)) (rA rfl (RS.nil (k4 _ _ (kq [0,3] ?_)))))
  refine T.seq fun _ k5=>au 2 ?_
  refine T.joinE (σ:=Int) (γ:=Unit) H (fun s=>s) [] trivial (fun v6 _=>[(3,.int .i64 v6)]) (fun v6 _=>Sat w []) ?_ ?_
  ·rintro v6 ⟨⟩ H
   try dsimp only [Ex.then] at H
   refine Cont.kq [3] ?_
   refine id (k5 _ _ ?_)
   refine au 3 ?_
   obtain rfl:=sj H
   refine T.rt (Cont.ret1 rfl rfl fun w' s=>?_)
   exact ⟨rfl,s.ext⟩
  intro z5 hz5 HX5 hJ5
  refine T.block ?_
  refine T.loopA (γ:=Unit) hz5 [(0,_)] (fun (v7,v8) _=>[(3,.int .i64 v7),(4,.int .i64 v8)]) (fun (v7,v8) _=>Sat w []) () sb sb (fun w s=>s) ?_
  rintro ⟨v7,v8⟩ ⟨⟩ y9 H hd5 KL5 hL5
  try dsimp only [Ex.then] at H
  refine kq [3,4,0] ?_
  refine T.seq fun _ k8=>au 5 ?_
  refine T.cP H rfl (fun _ H=>nomatch H) (fun hc10 H=>?_)
  obtain rfl:=hd5 _ H
  refine T.xt (hJ5 _ _ v7 () HX5 trivial sb (fun w s=>s))
 intro z1 H HX1 hJ1
 refine T.cP H rfl (fun _ H=>nomatch H) (fun hc11 H=>?_)
 obtain rfl:=sj H
 refine T.skip (hJ1 _ _ () () HX1 sb trivial (fun w s=>s))
theorem slices_MaxI_walk (a0_x:List Int) (w:World) {v0:Value} (h0:R (hpOf w) a0_x [v0]) {r:Int} (H:slices_MaxI a0_x = some r):Calls Tryz.prog 100 #[v0] w fun e w'=>e = .returned (.int .i64 r)∧Ext w w':=by
 have hm0:=R_max h0
 obtain ⟨p0,c0,rfl⟩:=R_form h0
 unfold slices_MaxI at H
 refine te Tryz.func100 (Sat.start w) ?_
 refine au 2 ?_
 refine T.seq fun _ k2=>au 4 ?_
 refine T.joinE (σ:=Unit) (γ:=Unit) H (fun s=>s) [(0,_)] sb (fun _ _=>[]) (fun _ _=>Sat w []) ?_ ?_
 ·rintro ⟨⟩ ⟨⟩ H
  try dsimp only [Ex.then] at H
  refine Cont.kq [0] ?_
  refine id (k2 _ _ ?_)
  refine T.seq fun _ k4=>T.region (rM rfl ?_)
  obtain ⟨g2,H⟩:=gdE H
  obtain ⟨bl3,ol4,rfl⟩:=R_ptr h0 (ne_of_pos (pos_of g2))
  refine rp (Pu.indexSl sl35.h rfl rfl g2) (rq (Qt.ld0 (α:=Int) (Rd.base h0) ty3.h rfl rfl g2 (by rintro _ _ rfl; rfl)) (rA rfl (RS.nil (k4 _ _ (kq [0,3] ?_)))))
  refine T.seq fun _ k5=>au 2 ?_
  refine T.joinE (σ:=Int) (γ:=Unit) H (fun s=>s) [] trivial (fun v6 _=>[(3,.int .i64 v6)]) (fun v6 _=>Sat w []) ?_ ?_
  ·rintro v6 ⟨⟩ H
   try dsimp only [Ex.then] at H
   refine Cont.kq [3] ?_
   refine id (k5 _ _ ?_)
   refine au 3 ?_
   obtain rfl:=sj H
   refine T.rt (Cont.ret1 rfl rfl fun w' s=>?_)
   exact ⟨rfl,s.ext⟩
  intro z5 hz5 HX5 hJ5
  refine T.block ?_
  refine T.loopA (γ:=Unit) hz5 [(0,_)] (fun (v7,v8) _=>[(3,.int .i64 v7),(4,.int .i64 v8)]) (fun (v7,v8) _=>Sat w []) () sb sb (fun w s=>s) ?_
  rintro ⟨v7,v8⟩ ⟨⟩ y9 H hd5 KL5 hL5
  try dsimp only [Ex.then] at H
  refine kq [3,4,0] ?_
  refine T.seq fun _ k8=>au 5 ?_
  refine T.cP H rfl (fun _ H=>nomatch H) (fun hc10 H=>?_)
  obtain rfl:=hd5 _ H
  refine T.xt (hJ5 _ _ v7 () HX5 trivial sb (fun w s=>s))
 intro z1 H HX1 hJ1
 refine T.cP H rfl (fun _ H=>nomatch H) (fun hc11 H=>?_)
 obtain rfl:=sj H
 refine T.skip (hJ1 _ _ () () HX1 sb trivial (fun w s=>s))
theorem peer_counts_walk (a0_p:Per) (a1_l:List Int) (w:World) {v0 v1 v2 v3 v4 v5:Value} (h0:R (hpOf w) a0_p.mine [v0]) (h1:R (hpOf w) a0_p.inputs [v1]) (h2:R (hpOf w) a0_p.has [v2]) (h3:R (hpOf w) a0_p.acked [v3]) (h4:R (hpOf w) a0_p.hashes [v4]) (h5:R (hpOf w) a1_l [v5]) {r:Bool} (H:peer_counts a0_p a1_l = some r):Calls Tryz.prog 98 #[.agg #[.int .i64 a0_p.id,.int .i64 a0_p.players,.int .i64 a0_p.delay,.int .i64 a0_p.turn,.int .i64 a0_p.said,v0,v1,v2,v3,v4,.bool a0_p.split],v5] w fun e w'=>e = .returned (.bool r)∧Ext w w':=by
 have hm0:=R_max h0
 obtain ⟨p0,c0,rfl⟩:=R_form h0
 have hm1:=R_max h1
 obtain ⟨p1,c1,rfl⟩:=R_form h1
 have hm2:=R_max h2
 obtain ⟨p2,c2,rfl⟩:=R_form h2
 have hm3:=R_max h3
 obtain ⟨p3,c3,rfl⟩:=R_form h3
 have hm4:=R_max h4
 obtain ⟨p4,c4,rfl⟩:=R_form h4
 have hm5:=R_max h5
 obtain ⟨p5,c5,rfl⟩:=R_form h5
 unfold peer_counts at H
 refine te Tryz.func98 (Sat.start w) ?_
 refine T.seq fun _ k1=>T.region (RS.solid (Sd.box (cs:=[_,_,_,_,_,_,_,_,_,_,_]) rfl rfl) rfl rfl fun b1=>rA rfl (RS.nil (k1 _ _ ?_)))
 refine T.seq fun _ k2=>au 4 ?_
 refine T.joinE (σ:=Unit) (γ:=Unit) H Ex.go [(1,_),(2,_)] sb (fun _ _=>[]) (fun _ _=>Sat w [blk b1 [.int .i64 a0_p.id,.int .i64 a0_p.players,.int .i64 a0_p.delay,.int .i64 a0_p.turn,.int .i64 a0_p.said,.slice p0 a0_p.mine.length c0,.slice p1 a0_p.inputs.length c1,.slice p2 a0_p.has.length c2,.slice p3 a0_p.acked.length c3,.slice p4 a0_p.hashes.length c4,.bool a0_p.split] 89]) ?_ ?_
 ·rintro ⟨⟩ ⟨⟩ H
  try dsimp only [Ex.then] at H
  refine Cont.kq [1,2] ?_
  refine id (k2 _ _ ?_)
  refine T.seq fun _ k4=>dr mixed [0,0,0,1,0,0,0,0,1,0,0,1,0,1,0,0,0] ?_
  refine au 6 ?_
  obtain ⟨g5,H⟩:=gdE H
  obtain ⟨g6,H⟩:=gdE H
  refine RD.joinV 10 45 (.bool (decide (((a1_l.length:Int) = a0_p.players)∧((gi a1_l (a0_p.id - 1)) = a0_p.said)))) [] trivial ?_ ?_
  ·refine dp rfl (Pu.assign rfl) (RD.nil (k4 _ _ ?_))
   obtain rfl:=sj H
   refine T.rt (Cont.ret1 rfl rfl fun w' s=>?_)
   exact ⟨rfl,s.ext⟩
  intro hJ4
  refine RD.splitP 35 rfl (fun hc3=>?_) (fun hc3=>?_)
  ·refine au 3 ?_
   refine dp rfl (Pu.subS rfl rfl (g5 hc3)) ?_
   obtain ⟨bl7,ol8,rfl⟩:=R_ptr h5 (ne_of_pos (pos_of (g6 hc3)))
   refine dp rfl (Pu.indexSl sl35.h rfl rfl (g6 hc3)) (dq rfl (Qt.ld0 (α:=Int) (Rd.base h5) ty3.h rfl rfl (g6 hc3) (by rintro _ _ rfl; rfl)) (au 4 ?_))
   exact hJ4 _ ⟨dAndT hc3,trivial⟩
  refine au 10 ?_
  exact hJ4 _ ⟨dAndF hc3,trivial⟩
 intro z2 hz2 HX2 hJ2
 refine T.block ?_
 refine T.loopA (γ:=Unit) hz2 [(1,_),(2,_),(7,_),(8,_)] (fun v9 _=>[(9,.int .i64 v9)]) (fun v9 _=>Sat w [blk b1 [.int .i64 a0_p.id,.int .i64 a0_p.players,.int .i64 a0_p.delay,.int .i64 a0_p.turn,.int .i64 a0_p.said,.slice p0 a0_p.mine.length c0,.slice p1 a0_p.inputs.length c1,.slice p2 a0_p.has.length c2,.slice p3 a0_p.acked.length c3,.slice p4 a0_p.hashes.length c4,.bool a0_p.split] 89]) () sb sb (fun w s=>s) ?_
 rintro v9 ⟨⟩ y10 H hd2 KL2 hL2
 try dsimp only [Ex.then] at H
 refine kq [9,1,2,7,8] ?_
 refine au 2 ?_
 refine T.seq fun _ k6=>?_
 refine T.cP H rfl (fun hc11 H=>?_) (fun hc11 H=>?_)
 ·refine T.skip (k6 _ _ ?_)
  refine T.seq fun _ k7=>T.block (T.seq fun _ k8=>T.region ?_)
  obtain ⟨g12,H⟩:=gdE H
  obtain ⟨bl13,ol14,rfl⟩:=R_ptr h5 (ne_of_pos (pos_of g12))
  refine rp (Pu.indexSl sl35.h rfl rfl g12) (rq (Qt.ld0 (α:=Int) (Rd.base h5) ty3.h rfl rfl g12 (by rintro _ _ rfl; rfl)) (rA rfl (RS.nil (k8 _ _ (kq [1,2,6,7,8,9] ?_)))))
  refine T.seq fun _ k9=>T.region (au 3 ?_)
  obtain ⟨g15,H⟩:=gdE H
  refine rp (Pu.subS rfl rfl g15) (au 2 ?_)
  obtain ⟨g18,H⟩:=gdE H
  refine RS.joinV 6 24 (.bool (decide (((gi a1_l v9) < (a0_p.delay - 1)) ∨ ((a0_p.turn + 16) < (gi a1_l v9))))) [(1,_),(2,_),(6,_),(7,_),(8,_),(9,_)] sb ?_ ?_
  ·refine rM rfl ?_
   refine RS.joinV 3 28 (.bool (decide ((((gi a1_l v9) < (a0_p.delay - 1)) ∨ ((a0_p.turn + 16) < (gi a1_l v9))) ∨ (1099511627776 < (gi a1_l v9))))) [(1,_),(2,_),(7,_),(8,_),(9,_)] sb ?_ ?_
   ·refine RS.nil (k9 _ _ ?_)
    refine T.cP H rfl (fun _ H=>nomatch H) (fun hc21 H=>?_)
    refine T.skip (k7 _ _ ?_)
    refine T.region ?_
    obtain ⟨g22,H⟩:=gdE H
    refine rp (Pu.addS rfl rfl g22) (rM rfl (RS.nil (hL2 _ _ (v9 + 1) () H sb sb (fun w s=>s))))
   intro hJ20
   refine RS.splitP 25 rfl (fun hc19=>?_) (fun hc19=>?_)
   ·refine au 3 ?_
    exact hJ20 _ _ ⟨dOrT hc19,rfl,rfl,rfl,rfl,rfl,trivial⟩ (fun w s=>s)
   refine au 3 ?_
   exact hJ20 _ _ ⟨dOrF hc19,rfl,rfl,rfl,rfl,rfl,trivial⟩ (fun w s=>s)
  intro hJ17
  refine RS.splitP 18 rfl (fun hc16=>?_) (fun hc16=>?_)
  ·refine au 6 ?_
   exact hJ17 _ _ ⟨dOrT hc16,rfl,rfl,rfl,rfl,rfl,rfl,trivial⟩ (fun w s=>s)
  refine au 3 ?_
  refine rp (Pu.addS rfl rfl (g18 hc16)) (au 2 ?_)
  exact hJ17 _ _ ⟨dOrF hc16,rfl,rfl,rfl,rfl,rfl,rfl,trivial⟩ (fun w s=>s)
 obtain rfl:=hd2 _ H
 refine T.xt (hJ2 _ _ () () HX2 sb trivial (fun w s=>s))
theorem peer_mine_walk (a0_p:Per) (w:World) {v0 v1 v2 v3 v4:Value} (h0:R (hpOf w) a0_p.mine [v0]) (h1:R (hpOf w) a0_p.inputs [v1]) (h2:R (hpOf w) a0_p.has [v2]) (h3:R (hpOf w) a0_p.acked [v3]) (h4:R (hpOf w) a0_p.hashes [v4]) {r:Bool} (H:peer_mine a0_p = some r):Calls Tryz.prog 101 #[.agg #[.int .i64 a0_p.id,.int .i64 a0_p.players,.int .i64 a0_p.delay,.int .i64 a0_p.turn,.int .i64 a0_p.said,v0,v1,v2,v3,v4,.bool a0_p.split]] w fun e w'=>e = .returned (.bool r)∧Ext w w':=by
 have hm0:=R_max h0
 obtain ⟨p0,c0,rfl⟩:=R_form h0
 have hm1:=R_max h1
 obtain ⟨p1,c1,rfl⟩:=R_form h1
 have hm2:=R_max h2
 obtain ⟨p2,c2,rfl⟩:=R_form h2
 have hm3:=R_max h3
 obtain ⟨p3,c3,rfl⟩:=R_form h3
 have hm4:=R_max h4
 obtain ⟨p4,c4,rfl⟩:=R_form h4
 unfold peer_mine at H
 refine te Tryz.func101 (Sat.start w) ?_
 refine T.seq fun _ k1=>T.region (RS.solid (Sd.box (cs:=[_,_,_,_,_,_,_,_,_,_,_]) rfl rfl) rfl rfl fun b1=>rA rfl (RS.nil (k1 _ _ ?_)))
 refine T.seq fun _ k2=>T.seq fun _ k3=>dr mixed [0,1,0,0,1,0,1,1,0,0] ?_
 refine au 7 ?_
 obtain ⟨x2,hx2,H⟩:=bindE H
 refine dq rfl (Qt.call (vs:=[_]) ent99 rfl fun w s=>slices_Min_walk a0_p.acked w ((Rd.base h3) w s) hx2) ?_
 obtain ⟨g3,H⟩:=gdE H
 refine dp rfl (Pu.subS rfl rfl g3) (dp rfl (Pu.bin rfl rfl rfl) (RD.nil (k3 _ _ ?_)))
 refine T.cP H rfl (fun _ H=>nomatch H) (fun hc4 H=>?_)
 refine T.skip (k2 _ _ (kq [1] ?_))
 refine T.seq fun _ k5=>au 5 ?_
 refine T.joinE (σ:=Unit) (γ:=Unit) H Ex.go [] trivial (fun _ _=>[]) (fun _ _=>Sat w [blk b1 [.int .i64 a0_p.id,.int .i64 a0_p.players,.int .i64 a0_p.delay,.int .i64 a0_p.turn,.int .i64 a0_p.said,.slice p0 a0_p.mine.length c0,.slice p1 a0_p.inputs.length c1,.slice p2 a0_p.has.length c2,.slice p3 a0_p.acked.length c3,.slice p4 a0_p.hashes.length c4,.bool a0_p.split] 89]) ?_ ?_
 ·rintro ⟨⟩ ⟨⟩ H
  try dsimp only [Ex.then] at H
  refine Cont.kq [] ?_
  refine id (k5 _ _ ?_)
  refine au 2 ?_
  obtain rfl:=sj H
  refine T.rt (Cont.ret1 rfl rfl fun w' s=>?_)
  exact ⟨rfl,s.ext⟩
 intro z5 hz5 HX5 hJ5
 refine T.block ?_
 refine T.loopA (γ:=Unit) hz5 [(1,_),(16,_),(17,_)] (fun v6 _=>[(18,.int .i64 v6)]) (fun v6 _=>Sat w [blk b1 [.int .i64 a0_p.id,.int .i64 a0_p.players,.int .i64 a0_p.delay,.int .i64 a0_p.turn,.int .i64 a0_p.said,.slice p0 a0_p.mine.length c0,.slice p1 a0_p.inputs.length c1,.slice p2 a0_p.has.length c2,.slice p3 a0_p.acked.length c3,.slice p4 a0_p.hashes.length c4,.bool a0_p.split] 89]) () sb sb (fun w s=>s) ?_
 rintro v6 ⟨⟩ y7 H hd5 KL5 hL5
 try dsimp only [Ex.then] at H
 refine kq [18,1,16,17] ?_
 refine au 2 ?_
 refine T.seq fun _ k9=>?_
 refine T.cP H rfl (fun _ H=>nomatch H) (fun hc8 H=>?_)
 obtain rfl:=hd5 _ H
 refine T.xt (hJ5 _ _ () () HX5 trivial trivial (fun w s=>s))
theorem peer_inputs_walk (a0_p:Per) (w:World) {v0 v1 v2 v3 v4:Value} (h0:R (hpOf w) a0_p.mine [v0]) (h1:R (hpOf w) a0_p.inputs [v1]) (h2:R (hpOf w) a0_p.has [v2]) (h3:R (hpOf w) a0_p.acked [v3]) (h4:R (hpOf w) a0_p.hashes [v4]) {r:Bool} (H:peer_inputs a0_p = some r):Calls Tryz.prog 103 #[.agg #[.int .i64 a0_p.id,.int .i64 a0_p.players,.int .i64 a0_p.delay,.int .i64 a0_p.turn,.int .i64 a0_p.said,v0,v1,v2,v3,v4,.bool a0_p.split]] w fun e w'=>e = .returned (.bool r)∧Ext w w':=by
 have hm0:=R_max h0
 obtain ⟨p0,c0,rfl⟩:=R_form h0
 have hm1:=R_max h1
 obtain ⟨p1,c1,rfl⟩:=R_form h1
 have hm2:=R_max h2
 obtain ⟨p2,c2,rfl⟩:=R_form h2
 have hm3:=R_max h3
 obtain ⟨p3,c3,rfl⟩:=R_form h3
 have hm4:=R_max h4
 obtain ⟨p4,c4,rfl⟩:=R_form h4
 unfold peer_inputs at H
 refine te Tryz.func103 (Sat.start w) ?_
 refine T.seq fun _ k1=>T.region (RS.solid (Sd.box (cs:=[_,_,_,_,_,_,_,_,_,_,_]) rfl rfl) rfl rfl fun b1=>rA rfl (RS.nil (k1 _ _ ?_)))
 refine T.seq fun _ k2=>T.seq fun _ k3=>T.region (au 4 ?_)
 refine RS.nil (k3 _ _ (kq [1,6,7,8] ?_))
 refine T.joinE (σ:=Unit) (γ:=Unit) H Ex.go [] trivial (fun _ _=>[]) (fun _ _=>Sat w [blk b1 [.int .i64 a0_p.id,.int .i64 a0_p.players,.int .i64 a0_p.delay,.int .i64 a0_p.turn,.int .i64 a0_p.said,.slice p0 a0_p.mine.length c0,.slice p1 a0_p.inputs.length c1,.slice p2 a0_p.has.length c2,.slice p3 a0_p.acked.length c3,.slice p4 a0_p.hashes.length c4,.bool a0_p.split] 89]) ?_ ?_
 ·rintro ⟨⟩ ⟨⟩ H
  try dsimp only [Ex.then] at H
  refine Cont.kq [] ?_
  refine id (k2 _ _ ?_)
  refine au 2 ?_
  obtain rfl:=sj H
  refine T.rt (Cont.ret1 rfl rfl fun w' s=>?_)
  exact ⟨rfl,s.ext⟩
 intro z2 hz2 HX2 hJ2
 refine T.block ?_
 refine T.loopA (γ:=Unit) hz2 [(1,_),(6,_),(7,_)] (fun v3 _=>[(8,.int .i64 v3)]) (fun v3 _=>Sat w [blk b1 [.int .i64 a0_p.id,.int .i64 a0_p.players,.int .i64 a0_p.delay,.int .i64 a0_p.turn,.int .i64 a0_p.said,.slice p0 a0_p.mine.length c0,.slice p1 a0_p.inputs.length c1,.slice p2 a0_p.has.length c2,.slice p3 a0_p.acked.length c3,.slice p4 a0_p.hashes.length c4,.bool a0_p.split] 89]) () sb sb (fun w s=>s) ?_
 rintro v3 ⟨⟩ y4 H hd2 KL2 hL2
 try dsimp only [Ex.then] at H
 refine kq [8,1,6,7] ?_
 refine au 2 ?_
 refine T.seq fun _ k6=>?_
 refine T.cP H rfl (fun _ H=>nomatch H) (fun hc5 H=>?_)
 obtain rfl:=hd2 _ H
 refine T.xt (hJ2 _ _ () () HX2 trivial trivial (fun w s=>s))
theorem peer_May_walk (a0_p:Per) (w:World) {v0 v1 v2 v3 v4:Value} (h0:R (hpOf w) a0_p.mine [v0]) (h1:R (hpOf w) a0_p.inputs [v1]) (h2:R (hpOf w) a0_p.has [v2]) (h3:R (hpOf w) a0_p.acked [v3]) (h4:R (hpOf w) a0_p.hashes [v4]) {r:Bool} (H:peer_May a0_p = some r):Calls Tryz.prog 58 #[.agg #[.int .i64 a0_p.id,.int .i64 a0_p.players,.int .i64 a0_p.delay,.int .i64 a0_p.turn,.int .i64 a0_p.said,v0,v1,v2,v3,v4,.bool a0_p.split]] w fun e w'=>e = .returned (.bool r)∧Ext w w':=by
 have hm0:=R_max h0
 obtain ⟨p0,c0,rfl⟩:=R_form h0
 have hm1:=R_max h1
 obtain ⟨p1,c1,rfl⟩:=R_form h1
 have hm2:=R_max h2
 obtain ⟨p2,c2,rfl⟩:=R_form h2
 have hm3:=R_max h3
 obtain ⟨p3,c3,rfl⟩:=R_form h3
 have hm4:=R_max h4
 obtain ⟨p4,c4,rfl⟩:=R_form h4
 unfold peer_May at H
 refine te Tryz.func58 (Sat.start w) ?_
 refine T.seq fun _ k1=>T.region (RS.solid (Sd.box (cs:=[_,_,_,_,_,_,_,_,_,_,_]) rfl rfl) rfl rfl fun b1=>rA rfl (RS.nil (k1 _ _ ?_)))
 refine T.seq fun _ k2=>T.seq fun _ k3=>T.region (au 4 ?_)
 refine RS.joinV 4 10 (.bool (decide ((a0_p.players < 1) ∨ (8 < a0_p.players)))) [(1,_)] sb ?_ ?_
 ·refine rM rfl ?_
  refine RS.joinV 4 15 (.bool (decide (((a0_p.players < 1) ∨ (8 < a0_p.players)) ∨ (a0_p.id < 1)))) [(1,_)] sb ?_ ?_
  ·refine rM rfl ?_
   refine RS.joinV 6 22 (.bool (decide ((((a0_p.players < 1) ∨ (8 < a0_p.players)) ∨ (a0_p.id < 1)) ∨ (a0_p.players < a0_p.id)))) [(1,_)] sb ?_ ?_
   ·refine rM rfl ?_
    refine RS.joinV 4 27 (.bool (decide (((((a0_p.players < 1) ∨ (8 < a0_p.players)) ∨ (a0_p.id < 1)) ∨ (a0_p.players < a0_p.id)) ∨ (a0_p.delay < 1)))) [(1,_)] sb ?_ ?_
    ·refine rM rfl ?_
     refine RS.joinV 4 32 (.bool (decide ((((((a0_p.players < 1) ∨ (8 < a0_p.players)) ∨ (a0_p.id < 1)) ∨ (a0_p.players < a0_p.id)) ∨ (a0_p.delay < 1)) ∨ (8 < a0_p.delay)))) [(1,_)] sb ?_ ?_
     ·refine rM rfl ?_
      refine RS.joinV 4 37 (.bool (decide (((((((a0_p.players < 1) ∨ (8 < a0_p.players)) ∨ (a0_p.id < 1)) ∨ (a0_p.players < a0_p.id)) ∨ (a0_p.delay < 1)) ∨ (8 < a0_p.delay)) ∨ (a0_p.turn < 0)))) [(1,_)] sb ?_ ?_
      ·refine rM rfl ?_
       refine RS.joinV 4 42 (.bool (decide ((((((((a0_p.players < 1) ∨ (8 < a0_p.players)) ∨ (a0_p.id < 1)) ∨ (a0_p.players < a0_p.id)) ∨ (a0_p.delay < 1)) ∨ (8 < a0_p.delay)) ∨ (a0_p.turn < 0)) ∨ (1099511627776 < a0_p.turn)))) [(1,_)] sb ?_ ?_
       ·refine RS.nil (k3 _ _ ?_)
        refine T.cP H rfl (fun _ H=>nomatch H) (fun hc16 H=>?_)
        refine T.skip (k2 _ _ ?_)
        refine T.seq fun _ k5=>T.seq fun _ k6=>T.region (au 4 ?_)
        obtain ⟨g17,H⟩:=gdE H
        refine rp (Pu.subS rfl rfl g17) (au 2 ?_)
        obtain ⟨g20,H⟩:=gdE H
        obtain ⟨g21,H⟩:=gdE H
        refine RS.joinV 10 59 (.bool (decide ((a0_p.said < (a0_p.delay - 1)) ∨ (((a0_p.turn + a0_p.delay) - 1) < a0_p.said)))) [(1,_)] sb ?_ ?_
        ·refine rM rfl ?_
         refine RS.joinV 4 64 (.bool (decide (((a0_p.said < (a0_p.delay - 1)) ∨ (((a0_p.turn + a0_p.delay) - 1) < a0_p.said)) ∨ (1099511627776 < a0_p.said)))) [(1,_)] sb ?_ ?_
         ·refine rM rfl ?_
          refine RS.joinB H 6 71 (fun b26=>.bool b26) [(1,_)] sb ?_ ?_
          ·intro b26 H
           refine rM rfl ?_
           refine RS.joinB H 6 78 (fun b29=>.bool b29) [(1,_)] sb ?_ ?_
           ·intro b29 H
            refine RS.nil (k6 _ _ ?_)
            refine T.cB H rfl (fun _ H=>nomatch H) (fun hc30 H=>?_)
            refine T.skip (k5 _ _ ?_)
            refine T.seq fun _ k8=>T.seq fun _ k9=>dr mixed [0,1,1,0,1,0,0,0,0,1,1,0,1,0,0,0,0,1,0,0,0,0,0,1,0,0,1,0,0] ?_
            refine au 2 ?_
            obtain ⟨x31,hx31,H⟩:=bindE H
            refine dq rfl (Qt.call (vs:=[_]) ent99 rfl fun w s=>slices_Min_walk a0_p.has w ((Rd.base h2) w s) hx31) (au 2 ?_)
            obtain ⟨g32,H⟩:=gdE H
            refine dp rfl (Pu.subS rfl rfl g32) (au 2 ?_)
            refine RD.joinB H 7 93 (fun b35=>.bool b35) [(1,_)] sb ?_ ?_
            ·intro b35 H
             refine dp rfl (Pu.move rfl) ?_
             refine RD.joinV 5 99 (.bool (decide ((b35 = true) ∨ (16 < (a0_p.hashes.length:Int))))) [(1,_)] sb ?_ ?_
             ·refine dp rfl (Pu.move rfl) ?_
              refine RD.joinV 7 107 (.bool (decide (((b35 = true) ∨ (16 < (a0_p.hashes.length:Int))) ∨ (a0_p.turn < (a0_p.hashes.length:Int))))) [(1,_)] sb ?_ ?_
              ·refine RD.nil (k9 _ _ ?_)
               refine T.cP H rfl (fun _ H=>nomatch H) (fun hc40 H=>?_)
               refine T.skip (k8 _ _ ?_)
               refine T.seq fun _ k11=>T.region (rq (Qt.ldBA (us:=[_,_,_,_,_,_,_,_,_,_,_]) 0 ty89.h rfl rfl rfl rfl) ?_)
               obtain ⟨x41,hx41,H⟩:=bindE H
               refine rq (Qt.call (vs:=[_]) ent101 rfl fun w s=>peer_mine_walk a0_p w ((Rd.base h0) w s) ((Rd.base h1) w s) ((Rd.base h2) w s) ((Rd.base h3) w s) ((Rd.base h4) w s) hx41) (rM rfl ?_)
               refine RS.joinB H 4 114 (fun b44=>.bool b44) [(1,_)] sb ?_ ?_
               ·intro b44 H
                refine rM rfl ?_
                refine RS.joinB H 3 118 (fun b47=>.bool b47) [] trivial ?_ ?_
                ·intro b47 H
                 refine rA rfl (RS.nil (k11 _ _ ?_))
                 obtain rfl:=sj H
                 refine T.rt (Cont.ret1 rfl rfl fun w' s=>?_)
                 exact ⟨rfl,s.ext⟩
                intro z48 H hJ46
                refine RS.split 115 rfl (fun hc45=>?_) (fun hc45=>?_)
                ·have H:=ifT hc45 H
                 refine rq (Qt.ldBA (us:=[_,_,_,_,_,_,_,_,_,_,_]) 0 ty89.h rfl rfl rfl rfl) ?_
                 obtain ⟨x49,hx49,H⟩:=bindE H
                 refine rq (Qt.call (vs:=[_]) ent103 rfl fun w s=>peer_inputs_walk a0_p w ((Rd.base h0) w s) ((Rd.base h1) w s) ((Rd.base h2) w s) ((Rd.base h3) w s) ((Rd.base h4) w s) hx49) (rp (Pu.pickT rfl rfl) ?_)
                 obtain rfl:=sj H
                 exact hJ46 _ _ sb (fun w s=>s)
                have H:=ifB hc45 H
                refine au 3 ?_
                obtain rfl:=sj H
                exact hJ46 _ _ sb (fun w s=>s)
               intro z50 H hJ43
               refine RS.split 110 rfl (fun hc42=>?_) (fun hc42=>?_)
               ·have H:=ifT hc42 H
                refine au 2 ?_
                obtain ⟨x51,hx51,H⟩:=bindE H
                refine rq (Qt.call (vs:=[_]) ent102 rfl fun w s=>turns_Rising_walk a0_p.inputs w ((Rd.base h1) w s) hx51) (rp (Pu.pickT rfl rfl) ?_)
                obtain rfl:=sj H
                exact hJ43 _ _ sb (fun w s=>s)
               have H:=ifB hc42 H
               refine au 4 ?_
               obtain rfl:=sj H
               exact hJ43 _ _ sb (fun w s=>s)
              intro hJ39
              refine RD.splitP 100 rfl (fun hc38=>?_) (fun hc38=>?_)
              ·refine au 7 ?_
               exact hJ39 _ ⟨dOrT hc38,rfl,trivial⟩
              refine au 7 ?_
              exact hJ39 _ ⟨dOrF hc38,rfl,trivial⟩
             intro hJ37
             refine RD.split 94 rfl (fun hc36=>?_) (fun hc36=>?_)
             ·refine au 5 ?_
              exact hJ37 _ ⟨dOrT hc36,rfl,trivial⟩
             refine au 5 ?_
             exact hJ37 _ ⟨dOrF (bne_of hc36),rfl,trivial⟩
            intro z52 H hJ34
            refine RD.splitP 86 rfl (fun hc33=>?_) (fun hc33=>?_)
            ·have H:=ifT hc33 H
             refine au 7 ?_
             obtain rfl:=sj H
             exact hJ34 _ sb
            have H:=ifF hc33 H
            refine au 2 ?_
            obtain ⟨x53,hx53,H⟩:=bindE H
            refine dq rfl (Qt.call (vs:=[_]) ent100 rfl fun w s=>slices_MaxI_walk a0_p.acked w ((Rd.base h3) w s) hx53) (au 4 ?_)
            obtain rfl:=sj H
            exact hJ34 _ sb
           intro z54 H hJ28
           refine RS.split 72 rfl (fun hc27=>?_) (fun hc27=>?_)
           ·have H:=ifT hc27 H
            refine au 6 ?_
            obtain rfl:=sj H
            exact hJ28 _ _ sb (fun w s=>s)
           have H:=ifB hc27 H
           refine au 3 ?_
           obtain ⟨x55,hx55,H⟩:=bindE H
           refine rq (Qt.call (vs:=[_,_]) ent98 rfl fun w s=>peer_counts_walk a0_p a0_p.acked w ((Rd.base h0) w s) ((Rd.base h1) w s) ((Rd.base h2) w s) ((Rd.base h3) w s) ((Rd.base h4) w s) ((Rd.base h3) w s) hx55) (au 2 ?_)
           obtain rfl:=sj H
           exact hJ28 _ _ sb (fun w s=>s)
          intro z56 H hJ25
          refine RS.splitP 65 rfl (fun hc24=>?_) (fun hc24=>?_)
          ·have H:=ifT hc24 H
           refine au 6 ?_
           obtain rfl:=sj H
           exact hJ25 _ _ sb (fun w s=>s)
          have H:=ifF hc24 H
          refine au 3 ?_
          obtain ⟨x57,hx57,H⟩:=bindE H
          refine rq (Qt.call (vs:=[_,_]) ent98 rfl fun w s=>peer_counts_walk a0_p a0_p.has w ((Rd.base h0) w s) ((Rd.base h1) w s) ((Rd.base h2) w s) ((Rd.base h3) w s) ((Rd.base h4) w s) ((Rd.base h2) w s) hx57) (au 2 ?_)
          obtain rfl:=sj H
          exact hJ25 _ _ sb (fun w s=>s)
         intro hJ23
         refine RS.splitP 60 rfl (fun hc22=>?_) (fun hc22=>?_)
         ·refine au 4 ?_
          exact hJ23 _ _ ⟨dOrT hc22,rfl,trivial⟩ (fun w s=>s)
         refine au 4 ?_
         exact hJ23 _ _ ⟨dOrF hc22,rfl,trivial⟩ (fun w s=>s)
        intro hJ19
        refine RS.splitP 49 rfl (fun hc18=>?_) (fun hc18=>?_)
        ·refine au 10 ?_
         exact hJ19 _ _ ⟨dOrT hc18,rfl,trivial⟩ (fun w s=>s)
        refine au 6 ?_
        refine rp (Pu.addS rfl rfl (g20 hc18)) (rp (Pu.subS rfl rfl (g21 hc18)) (au 2 ?_))
        exact hJ19 _ _ ⟨dOrF hc18,rfl,trivial⟩ (fun w s=>s)
       intro hJ15
       refine RS.splitP 38 rfl (fun hc14=>?_) (fun hc14=>?_)
       ·refine au 4 ?_
        exact hJ15 _ _ ⟨dOrT hc14,rfl,trivial⟩ (fun w s=>s)
       refine au 4 ?_
       exact hJ15 _ _ ⟨dOrF hc14,rfl,trivial⟩ (fun w s=>s)
      intro hJ13
      refine RS.splitP 33 rfl (fun hc12=>?_) (fun hc12=>?_)
      ·refine au 4 ?_
       exact hJ13 _ _ ⟨dOrT hc12,rfl,trivial⟩ (fun w s=>s)
      refine au 4 ?_
      exact hJ13 _ _ ⟨dOrF hc12,rfl,trivial⟩ (fun w s=>s)
     intro hJ11
     refine RS.splitP 28 rfl (fun hc10=>?_) (fun hc10=>?_)
     ·refine au 4 ?_
      exact hJ11 _ _ ⟨dOrT hc10,rfl,trivial⟩ (fun w s=>s)
     refine au 4 ?_
     exact hJ11 _ _ ⟨dOrF hc10,rfl,trivial⟩ (fun w s=>s)
    intro hJ9
    refine RS.splitP 23 rfl (fun hc8=>?_) (fun hc8=>?_)
    ·refine au 4 ?_
     exact hJ9 _ _ ⟨dOrT hc8,rfl,trivial⟩ (fun w s=>s)
    refine au 4 ?_
    exact hJ9 _ _ ⟨dOrF hc8,rfl,trivial⟩ (fun w s=>s)
   intro hJ7
   refine RS.splitP 16 rfl (fun hc6=>?_) (fun hc6=>?_)
   ·refine au 6 ?_
    exact hJ7 _ _ ⟨dOrT hc6,rfl,trivial⟩ (fun w s=>s)
   refine au 6 ?_
   exact hJ7 _ _ ⟨dOrF hc6,rfl,trivial⟩ (fun w s=>s)
  intro hJ5
  refine RS.splitP 11 rfl (fun hc4=>?_) (fun hc4=>?_)
  ·refine au 4 ?_
   exact hJ5 _ _ ⟨dOrT hc4,rfl,trivial⟩ (fun w s=>s)
  refine au 4 ?_
  exact hJ5 _ _ ⟨dOrF hc4,rfl,trivial⟩ (fun w s=>s)
 intro hJ3
 refine RS.splitP 6 rfl (fun hc2=>?_) (fun hc2=>?_)
 ·refine au 4 ?_
  exact hJ3 _ _ ⟨dOrT hc2,rfl,trivial⟩ (fun w s=>s)
 refine au 4 ?_
 exact hJ3 _ _ ⟨dOrF hc2,rfl,trivial⟩ (fun w s=>s)
theorem peer_Own_walk (a0_p:Per) (w:World) {v0 v1 v2 v3 v4:Value} (h0:R (hpOf w) a0_p.mine [v0]) (h1:R (hpOf w) a0_p.inputs [v1]) (h2:R (hpOf w) a0_p.has [v2]) (h3:R (hpOf w) a0_p.acked [v3]) (h4:R (hpOf w) a0_p.hashes [v4]) {r:Per} (H:peer_Own a0_p = some r):Calls Tryz.prog 155 #[.agg #[.int .i64 a0_p.id,.int .i64 a0_p.players,.int .i64 a0_p.delay,.int .i64 a0_p.turn,.int .i64 a0_p.said,v0,v1,v2,v3,v4,.bool a0_p.split]] w fun e w'=>∃ g:(Option Nat × Nat) × (Option Nat × Nat) × (Option Nat × Nat) × (Option Nat × Nat) × (Option Nat × Nat),e = .returned (.agg #[.int .i64 r.id,.int .i64 r.players,.int .i64 r.delay,.int .i64 r.turn,.int .i64 r.said,rowV g.1 r.mine.length,rowV g.2.1 r.inputs.length,rowV g.2.2.1 r.has.length,rowV g.2.2.2.1 r.acked.length,rowV g.2.2.2.2 r.hashes.length,.bool r.split])∧Sat w [drow 210 (rowV g.1 r.mine.length) r.mine,drow 210 (rowV g.2.1 r.inputs.length) r.inputs,row nilH 3 (rowV g.2.2.1 r.has.length) r.has,row nilH 3 (rowV g.2.2.2.1 r.acked.length) r.acked,row nilH 112 (rowV g.2.2.2.2 r.hashes.length) r.hashes] w':=by
 have hm0:=R_max h0
 obtain ⟨p0,c0,rfl⟩:=R_form h0
 have hm1:=R_max h1
 obtain ⟨p1,c1,rfl⟩:=R_form h1
 have hm2:=R_max h2
 obtain ⟨p2,c2,rfl⟩:=R_form h2
 have hm3:=R_max h3
 obtain ⟨p3,c3,rfl⟩:=R_form h3
 have hm4:=R_max h4
 obtain ⟨p4,c4,rfl⟩:=R_form h4
 unfold peer_Own at H
 refine te Tryz.func155 (Sat.start w) ?_
 refine T.seq fun _ k1=>T.region (RS.solid (Sd.box (cs:=[_,_,_,_,_,_,_,_,_,_,_]) rfl rfl) rfl rfl fun b1=>RS.solid (Sd.alloc zr89 rfl) rfl rfl fun b2=>RS.nil (k1 _ _ ?_))
 refine T.seq fun _ k2=>?_
 refine T.drawn (fun _=>True) [(0,.pu),(1,.rd),(3,.pu),(4,.rd),(2,.so),(6,.pu),(5,.so),(7,.br),(8,.pu),(9,.br)] mixed (ClE.sat _ _) (by kernel_rfl) ?_
 refine au 4 ?_
 obtain ⟨x3,hx3,H⟩:=bindE H
 refine RD.solid rfl (.inl rfl) rfl rfl (Sd.callN (vs:=[_]) ent223 rfl (fun w s=>turns_OwnAll_walk a0_p.mine w ((Rd.base h0) w s) hx3)) (fun _=>ClE.sat _ _) (fun _ _ _=>trivial) (fun _ _ _ s=>s.drop1) fun q4=>?_
 refine dp rfl (Pu.fieldAddr fd89_5.h rfl) ?_
 obtain ⟨x5,hx5,H⟩:=bindE H
 refine RD.solid rfl (.inl rfl) rfl rfl (Sd.callN (vs:=[_]) ent223 rfl (fun w s=>turns_OwnAll_walk a0_p.inputs w ((Rd.base h1) w s) hx5)) (fun _=>ClE.sat _ _) (fun _ _ _=>trivial) (fun _ _ _ s=>s.drop1) fun q6=>?_
 refine au 3 ?_
 refine RD.nil (k2 _ _ (kq [1,2] ?_))
 refine T.seq fun _ k3=>?_
 refine T.drawn (fun _=>True) [(0,.pu),(1,.rd),(3,.pu),(4,.rd),(6,.pu),(7,.rd),(2,.so),(9,.pu),(5,.so),(8,.so),(10,.br),(11,.pu),(12,.br),(13,.pu),(14,.br)] mixed (ClE.sat _ _) (by kernel_rfl) ?_
 refine au 6 ?_
 obtain ⟨x7,hx7,H⟩:=bindE H
 refine RD.solid rfl (.inl rfl) rfl rfl (Sd.callN (vs:=[_]) ent222 rfl (fun w s=>slices_Clone_Int_walk a0_p.has w ((Rd.base h2) w s) hx7)) (fun _=>ClE.sat _ _) (fun _ _ _=>trivial) (fun _ _ _ s=>s.drop1) fun q8=>?_
 refine dp rfl (Pu.fieldAddr fd89_7.h rfl) ?_
 obtain ⟨x9,hx9,H⟩:=bindE H
 refine RD.solid rfl (.inl rfl) rfl rfl (Sd.callN (vs:=[_]) ent222 rfl (fun w s=>slices_Clone_Int_walk a0_p.acked w ((Rd.base h3) w s) hx9)) (fun _=>ClE.sat _ _) (fun _ _ _=>trivial) (fun _ _ _ s=>s.drop1) fun q10=>?_
 obtain ⟨x11,hx11,H⟩:=bindE H
 refine RD.solid rfl (.inl rfl) rfl rfl (Sd.callN (vs:=[_]) ent224 rfl (fun w s=>slices_Clone_U64_walk a0_p.hashes w ((Rd.base h4) w s) hx11)) (fun _=>ClE.sat _ _) (fun _ _ _=>trivial) (fun _ _ _ s=>s.drop1) fun q12=>?_
 refine au 5 ?_
 refine RD.nil (k3 _ _ (kq [1,2] ?_))
 refine au 3 ?_
 obtain rfl:=sj H
 refine nz ?_
 refine T.rt (Cont.retC 1 rfl ty89.h rfl rfl rfl fun w' s=>?_)
 exact ⟨⟨q4,q6,q8,q10,q12⟩,rfl,s.pc [2,3,4,5,6]⟩
theorem peer_New_walk (a0_id:Int) (a1_players:Int) (a2_delay:Int) (w:World) {r:Per × Int} (H:peer_New a0_id a1_players a2_delay = some r):Calls Tryz.prog 29 #[.int .i64 a0_id,.int .i64 a1_players,.int .i64 a2_delay] w fun e w'=>∃ g:(Option Nat × Nat) × (Option Nat × Nat) × (Option Nat × Nat) × (Option Nat × Nat) × (Option Nat × Nat),e = .returned (.tuple #[.agg #[.int .i64 r.1.id,.int .i64 r.1.players,.int .i64 r.1.delay,.int .i64 r.1.turn,.int .i64 r.1.said,rowV g.1 r.1.mine.length,rowV g.2.1 r.1.inputs.length,rowV g.2.2.1 r.1.has.length,rowV g.2.2.2.1 r.1.acked.length,rowV g.2.2.2.2 r.1.hashes.length,.bool r.1.split],.int .i64 r.2])∧Sat w [drow 210 (rowV g.1 r.1.mine.length) r.1.mine,drow 210 (rowV g.2.1 r.1.inputs.length) r.1.inputs,row nilH 3 (rowV g.2.2.1 r.1.has.length) r.1.has,row nilH 3 (rowV g.2.2.2.1 r.1.acked.length) r.1.acked,row nilH 112 (rowV g.2.2.2.2 r.1.hashes.length) r.1.hashes] w':=by
 unfold peer_New at H
 refine te Tryz.func29 (Sat.start w) ?_
 refine T.seq fun _ k1=>T.region (RS.solid (Sd.alloc zr89 rfl) rfl rfl fun b1=>rA rfl (RS.nil (k1 _ _ ?_)))
 refine T.seq fun _ k2=>T.region (au 4 ?_)
 refine rp (Pu.subW rfl rfl) (rp (Pu.build (cells:=[_,_,_,_,_,_,_,_,_,_,_]) st89 rfl rfl) (RS.solid (Sd.alloc zr89 rfl) rfl rfl fun b2=>RS.solid (Sd.stB (cs':=[_,_,_,_,_,_,_,_,_,_,_]) 1 ty89.h rfl rfl rfl rfl rfl rfl rfl rfl) rfl rfl fun _=>RS.nil (k2 _ _ (kq [1,2,6,8] ?_))))
 refine T.seq fun _ k3=>T.seq fun _ k4=>T.region (au 3 ?_)
 refine RS.joinV 3 20 (.bool (decide ((1 ≤ a1_players)∧(a1_players ≤ 8)))) [(1,_),(2,_),(6,_),(8,_)] sb ?_ ?_
 ·refine RS.nil (k4 _ _ ?_)
  refine T.cP H rfl (fun hc5 H=>?_) (fun hc5 H=>?_)
  ·refine T.region (rM rfl (rp (Pu.subW rfl rfl) (RS.solid (Sd.litS (cs:=[_]) sl35.h zr3 rfl rfl rfl rfl rfl) rfl rfl fun b6=>?_)))
   refine RS.weakS (fun w s=>s.litRow (α:=Int) (n:=1) 2 ([(w64 (a2_delay - 1))]:List Int) rfl (by decide) rfl ⟨[_],_,rfl,rfl,rfl⟩) ?_
   refine rM rfl ?_
   obtain ⟨x7,hx7,H⟩:=bindE H
   refine RS.solid (Sd.callN (vs:=[_,_]) ent57 rfl (fun w s=>slices_Repeat_Int_walk ([(w64 (a2_delay - 1))]:List Int) a1_players w ((Rd.ofRowN 2 rfl) w s) hx7)) rfl rfl fun q8=>rM rfl (rp (Pu.subW rfl rfl) (RS.solid (Sd.litS (cs:=[_]) sl35.h zr3 rfl rfl rfl rfl rfl) rfl rfl fun b9=>?_))
   refine RS.weakS (fun w s=>s.litRow (α:=Int) (n:=1) 4 ([(w64 (a2_delay - 1))]:List Int) rfl (by decide) rfl ⟨[_],_,rfl,rfl,rfl⟩) ?_
   refine rM rfl ?_
   obtain ⟨x10,hx10,H⟩:=bindE H
   refine RS.solid (Sd.callN (vs:=[_,_]) ent57 rfl (fun w s=>slices_Repeat_Int_walk ([(w64 (a2_delay - 1))]:List Int) a1_players w ((Rd.ofRowN 4 rfl) w s) hx10)) rfl rfl fun q11=>au 4 ?_
   refine RS.nil (k3 _ _ (kq [6,8] ?_))
   refine T.seq fun _ k5=>T.seq fun _ k6=>T.region (rq (Qt.ldBA (us:=[_,_,_,_,_,_,_,_,_,_,_]) 1 ty89.h rfl rfl rfl rfl) ?_)
   obtain ⟨x12,hx12,H⟩:=bindE H
   refine rq (Qt.call (vs:=[_]) ent58 rfl fun w s=>peer_May_walk (⟨a0_id,a1_players,a2_delay,0,(w64 (a2_delay - 1)),[],[],x7,x10,[],false⟩:Per) w ((Rd.nil (α:=Inp)) w s) ((Rd.nil (α:=Inp)) w s) ((Rd.ofRowN 3 rfl) w s) ((Rd.ofRowN 5 rfl) w s) ((Rd.nil (α:=UInt64)) w s) hx12) (rp (Pu.not rfl) (RS.nil (k6 _ _ ?_)))
   refine T.cB H rfl (fun _ H=>nomatch H) (fun hc13 H=>?_)
   refine T.skip (k5 _ _ (kq [6,8] ?_))
   refine au 4 ?_
   obtain rfl:=sj H
   refine T.rt (Cont.retCT 0 rfl ty89.h rfl rfl rfl rfl fun w' s=>?_)
   exact ⟨⟨(none,0),(none,0),q8,q11,(none,0)⟩,rfl,(((s.nilRowG (α:=Inp) 210).nilRowG (α:=Inp) 210).nilRow (α:=UInt64) 112).pick [6,7,3,5,8] (by decide) rfl⟩
  refine T.skip (k3 _ _ (kq [6,8] ?_))
  refine T.seq fun _ k9=>T.seq fun _ k10=>T.region (rq (Qt.ldBA (us:=[_,_,_,_,_,_,_,_,_,_,_]) 1 ty89.h rfl rfl rfl rfl) ?_)
  obtain ⟨x14,hx14,H⟩:=bindE H
  refine rq (Qt.call (vs:=[_]) ent58 rfl fun w s=>peer_May_walk (⟨a0_id,a1_players,a2_delay,0,(w64 (a2_delay - 1)),[],[],[],[],[],false⟩:Per) w ((Rd.nil (α:=Inp)) w s) ((Rd.nil (α:=Inp)) w s) ((Rd.nil (α:=Int)) w s) ((Rd.nil (α:=Int)) w s) ((Rd.nil (α:=UInt64)) w s) hx14) (rp (Pu.not rfl) (RS.nil (k10 _ _ ?_)))
  refine T.cB H rfl (fun _ H=>nomatch H) (fun hc15 H=>?_)
  refine T.skip (k9 _ _ (kq [6,8] ?_))
  refine au 4 ?_
  obtain rfl:=sj H
  refine T.rt (Cont.retCT 0 rfl ty89.h rfl rfl rfl rfl fun w' s=>?_)
  exact ⟨⟨(none,0),(none,0),(none,0),(none,0),(none,0)⟩,rfl,(((((s.nilRowG (α:=Inp) 210).nilRowG (α:=Inp) 210).nilRow (α:=Int) 3).nilRow (α:=Int) 3).nilRow (α:=UInt64) 112).pick [2,3,4,5,6] (by decide) rfl⟩
 intro hJ4
 refine RS.splitP 17 rfl (fun hc3=>?_) (fun hc3=>?_)
 ·refine au 3 ?_
  exact hJ4 _ _ ⟨dAndT hc3,rfl,rfl,rfl,rfl,trivial⟩ (fun w s=>s)
 refine au 3 ?_
 exact hJ4 _ _ ⟨dAndF hc3,rfl,rfl,rfl,rfl,trivial⟩ (fun w s=>s)
theorem peer_can_walk (a0_p:Per) (w:World) {v0 v1 v2 v3 v4:Value} (h0:R (hpOf w) a0_p.mine [v0]) (h1:R (hpOf w) a0_p.inputs [v1]) (h2:R (hpOf w) a0_p.has [v2]) (h3:R (hpOf w) a0_p.acked [v3]) (h4:R (hpOf w) a0_p.hashes [v4]) {r:Bool} (H:peer_can a0_p = some r):Calls Tryz.prog 227 #[.agg #[.int .i64 a0_p.id,.int .i64 a0_p.players,.int .i64 a0_p.delay,.int .i64 a0_p.turn,.int .i64 a0_p.said,v0,v1,v2,v3,v4,.bool a0_p.split]] w fun e w'=>e = .returned (.bool r)∧Ext w w':=by
 have hm0:=R_max h0
 obtain ⟨p0,c0,rfl⟩:=R_form h0
 have hm1:=R_max h1
 obtain ⟨p1,c1,rfl⟩:=R_form h1
 have hm2:=R_max h2
 obtain ⟨p2,c2,rfl⟩:=R_form h2
 have hm3:=R_max h3
 obtain ⟨p3,c3,rfl⟩:=R_form h3
 have hm4:=R_max h4
 obtain ⟨p4,c4,rfl⟩:=R_form h4
 unfold peer_can at H
 refine te Tryz.func227 (Sat.start w) ?_
 refine T.seq fun _ k1=>T.region (RS.solid (Sd.box (cs:=[_,_,_,_,_,_,_,_,_,_,_]) rfl rfl) rfl rfl fun b1=>rA rfl (RS.nil (k1 _ _ ?_)))
 refine T.seq fun _ k2=>dr mixed [0,1,1,0,1,0,0,0,1,0,0,0] ?_
 refine au 2 ?_
 obtain ⟨x2,hx2,H⟩:=bindE H
 refine dq rfl (Qt.call (vs:=[_]) ent99 rfl fun w s=>slices_Min_walk a0_p.has w ((Rd.base h2) w s) hx2) (au 4 ?_)
 refine RD.joinV 4 13 (.bool (decide ((a0_p.turn ≤ x2)∧(a0_p.turn < 1099511627776)))) [(2,_)] sb ?_ ?_
 ·refine dp rfl (Pu.assign rfl) (RD.nil (k2 _ _ ?_))
  obtain rfl:=sj H
  refine T.rt (Cont.ret1 rfl rfl fun w' s=>?_)
  exact ⟨rfl,s.ext⟩
 intro hJ4
 refine RD.splitP 9 rfl (fun hc3=>?_) (fun hc3=>?_)
 ·refine au 4 ?_
  exact hJ4 _ ⟨dAndT hc3,rfl,trivial⟩
 refine au 4 ?_
 exact hJ4 _ ⟨dAndF hc3,rfl,trivial⟩
theorem peer_Ready_walk (a0_p:Per) (w:World) {v0 v1 v2 v3 v4:Value} (h0:R (hpOf w) a0_p.mine [v0]) (h1:R (hpOf w) a0_p.inputs [v1]) (h2:R (hpOf w) a0_p.has [v2]) (h3:R (hpOf w) a0_p.acked [v3]) (h4:R (hpOf w) a0_p.hashes [v4]) {r:List Cmd × Bool × Int} (H:peer_Ready a0_p = some r):Calls Tryz.prog 160 #[.agg #[.int .i64 a0_p.id,.int .i64 a0_p.players,.int .i64 a0_p.delay,.int .i64 a0_p.turn,.int .i64 a0_p.said,v0,v1,v2,v3,v4,.bool a0_p.split]] w fun e w'=>∃ q1:(Option Nat × Nat),e = .returned (.tuple #[rowV q1 r.1.length,.bool r.2.1,.int .i64 r.2.2])∧Sat w [drow 37 (rowV q1 r.1.length) r.1] w':=by
 have hm0:=R_max h0
 obtain ⟨p0,c0,rfl⟩:=R_form h0
 have hm1:=R_max h1
 obtain ⟨p1,c1,rfl⟩:=R_form h1
 have hm2:=R_max h2
 obtain ⟨p2,c2,rfl⟩:=R_form h2
 have hm3:=R_max h3
 obtain ⟨p3,c3,rfl⟩:=R_form h3
 have hm4:=R_max h4
 obtain ⟨p4,c4,rfl⟩:=R_form h4
 unfold peer_Ready at H
 refine te Tryz.func160 (Sat.start w) ?_
 refine T.seq fun _ k1=>T.region (RS.solid (Sd.box (cs:=[_,_,_,_,_,_,_,_,_,_,_]) rfl rfl) rfl rfl fun b1=>au 3 ?_)
 refine RS.nil (k1 _ _ (kq [1] ?_))
 refine T.seq fun _ k2=>T.block (T.seq fun _ k3=>T.region (rq (Qt.ldBA (us:=[_,_,_,_,_,_,_,_,_,_,_]) 0 ty89.h rfl rfl rfl rfl) ?_))
 obtain ⟨x2,hx2,H⟩:=bindE H
 refine rq (Qt.call (vs:=[_]) ent58 rfl fun w s=>peer_May_walk a0_p w ((Rd.base h0) w s) ((Rd.base h1) w s) ((Rd.base h2) w s) ((Rd.base h3) w s) ((Rd.base h4) w s) hx2) (au 2 ?_)
 refine RS.nil (k3 _ _ ?_)
 refine T.cB H rfl (fun _ H=>nomatch H) (fun hc3 H=>?_)
 refine kq [1] ?_
 refine T.seq fun _ k5=>T.region (rq (Qt.ldBA (us:=[_,_,_,_,_,_,_,_,_,_,_]) 0 ty89.h rfl rfl rfl rfl) ?_)
 obtain ⟨x4,hx4,H⟩:=bindE H
 refine rq (Qt.call (vs:=[_]) ent227 rfl fun w s=>peer_can_walk a0_p w ((Rd.base h0) w s) ((Rd.base h1) w s) ((Rd.base h2) w s) ((Rd.base h3) w s) ((Rd.base h4) w s) hx4) (au 2 ?_)
 refine RS.nil (k5 _ _ ?_)
 refine T.cB H rfl (fun hc5 H=>?_) (fun hc5 H=>?_)
 ·refine kq [] ?_
  refine au 4 ?_
  obtain rfl:=sj H
  refine T.rt (Cont.ret3 rfl rfl rfl rfl fun w' s=>?_)
  exact ⟨(none,0),rfl,(s.nilRowG (α:=Cmd) 37).pick [1] (by decide) rfl⟩
 refine T.skip (k2 _ _ (kq [1] ?_))
 refine T.seq fun _ k7=>T.region (au 4 ?_)
 obtain ⟨x6,hx6,H⟩:=bindE H
 refine RS.solid (Sd.callN (vs:=[_,_]) ent228 rfl (fun w s=>turns_Part_walk a0_p.inputs a0_p.turn w ((Rd.base h1) w s) hx6)) rfl rfl fun ⟨q7,q8⟩=>?_
 refine au 5 ?_
 refine RS.nil (k7 _ _ (kq [5] ?_))
 refine T.seq fun _ k8=>T.region (rM rfl ?_)
 obtain ⟨x9,hx9,H⟩:=bindE H
 refine RS.solid (Sd.callN (vs:=[_]) ent229 rfl (fun w s=>turns_All_walk x6.1 w ((Rd.ofG 1 rfl) w s) hx9)) rfl rfl fun q10=>au 3 ?_
 refine RS.nil (k8 _ _ (kq [2,3,4] ?_))
 obtain rfl:=sj H
 refine T.rt (Cont.ret3 rfl rfl rfl rfl fun w' s=>?_)
 exact ⟨q10,rfl,s.pc [3]⟩
theorem peer_Ran_walk (a0_p:Per) (a1_h:UInt64) (w:World) {v0 v1 v2 v3 v4:Value} (h0:R (hpOf w) a0_p.mine [v0]) (h1:R (hpOf w) a0_p.inputs [v1]) (h2:R (hpOf w) a0_p.has [v2]) (h3:R (hpOf w) a0_p.acked [v3]) (h4:R (hpOf w) a0_p.hashes [v4]) {r:Per × Int} (H:peer_Ran a0_p a1_h = some r):Calls Tryz.prog 162 #[.agg #[.int .i64 a0_p.id,.int .i64 a0_p.players,.int .i64 a0_p.delay,.int .i64 a0_p.turn,.int .i64 a0_p.said,v0,v1,v2,v3,v4,.bool a0_p.split],.int .u64 a1_h.toNat] w fun e w'=>∃ g:(Option Nat × Nat) × (Option Nat × Nat) × (Option Nat × Nat) × (Option Nat × Nat) × Value,e = .returned (.tuple #[.agg #[.int .i64 r.1.id,.int .i64 r.1.players,.int .i64 r.1.delay,.int .i64 r.1.turn,.int .i64 r.1.said,rowV g.1 r.1.mine.length,rowV g.2.1 r.1.inputs.length,rowV g.2.2.1 r.1.has.length,rowV g.2.2.2.1 r.1.acked.length,g.2.2.2.2,.bool r.1.split],.int .i64 r.2])∧Sat w [drow 210 (rowV g.1 r.1.mine.length) r.1.mine,drow 210 (rowV g.2.1 r.1.inputs.length) r.1.inputs,row nilH 3 (rowV g.2.2.1 r.1.has.length) r.1.has,row nilH 3 (rowV g.2.2.2.1 r.1.acked.length) r.1.acked,osl 112 (g.2.2.2.2) r.1.hashes] w':=by
 have hm0:=R_max h0
 obtain ⟨p0,c0,rfl⟩:=R_form h0
 have hm1:=R_max h1
 obtain ⟨p1,c1,rfl⟩:=R_form h1
 have hm2:=R_max h2
 obtain ⟨p2,c2,rfl⟩:=R_form h2
 have hm3:=R_max h3
 obtain ⟨p3,c3,rfl⟩:=R_form h3
 have hm4:=R_max h4
 obtain ⟨p4,c4,rfl⟩:=R_form h4
 unfold peer_Ran at H
 refine te Tryz.func162 (Sat.start w) ?_
 refine T.seq fun _ k1=>T.region (RS.solid (Sd.box (cs:=[_,_,_,_,_,_,_,_,_,_,_]) rfl rfl) rfl rfl fun b1=>RS.solid (Sd.alloc zr89 rfl) rfl rfl fun b2=>rA rfl (RS.nil (k1 _ _ ?_)))
 refine T.seq fun _ k2=>T.block (T.seq fun _ k3=>T.region (rq (Qt.ldBA (us:=[_,_,_,_,_,_,_,_,_,_,_]) 0 ty89.h rfl rfl rfl rfl) ?_))
 obtain ⟨x3,hx3,H⟩:=bindE H
 refine rq (Qt.call (vs:=[_]) ent58 rfl fun w s=>peer_May_walk a0_p w ((Rd.base h0) w s) ((Rd.base h1) w s) ((Rd.base h2) w s) ((Rd.base h3) w s) ((Rd.base h4) w s) hx3) (au 2 ?_)
 refine RS.nil (k3 _ _ ?_)
 refine T.cB H rfl (fun _ H=>nomatch H) (fun hc4 H=>?_)
 refine kq [1,2,4] ?_
 refine T.seq fun _ k5=>T.region (rq (Qt.ldBA (us:=[_,_,_,_,_,_,_,_,_,_,_]) 0 ty89.h rfl rfl rfl rfl) ?_)
 obtain ⟨x5,hx5,H⟩:=bindE H
 refine rq (Qt.call (vs:=[_]) ent227 rfl fun w s=>peer_can_walk a0_p w ((Rd.base h0) w s) ((Rd.base h1) w s) ((Rd.base h2) w s) ((Rd.base h3) w s) ((Rd.base h4) w s) hx5) (au 2 ?_)
 refine RS.nil (k5 _ _ ?_)
 refine T.cB H rfl (fun _ H=>nomatch H) (fun hc6 H=>?_)
 refine T.skip (k2 _ _ (kq [1,2,4] ?_))
 refine T.seq fun _ k7=>T.region (rq (Qt.ldBA (us:=[_,_,_,_,_,_,_,_,_,_,_]) 0 ty89.h rfl rfl rfl rfl) ?_)
 obtain ⟨x7,hx7,H⟩:=bindE H
 refine RS.solid (Sd.callN (vs:=[_]) ent155 rfl (fun w s=>peer_Own_walk a0_p w ((Rd.base h0) w s) ((Rd.base h1) w s) ((Rd.base h2) w s) ((Rd.base h3) w s) ((Rd.base h4) w s) hx7)) rfl rfl fun ⟨q8,q9,q10,q11,q12⟩=>?_
 refine RS.solid (Sd.stB (cs':=[_,_,_,_,_,_,_,_,_,_,_]) 0 ty89.h rfl rfl rfl rfl rfl rfl rfl rfl) rfl rfl fun _=>RS.nil (k7 _ _ ?_)
 refine T.seq fun _ k8=>nz ?_
 refine T.region (au 4 ?_)
 obtain ⟨x13,hx13,H⟩:=bindE H
 refine RS.solid (Sd.callN (vs:=[_,_]) ent228 rfl (fun w s=>turns_Part_walk x7.inputs x7.turn w ((Rd.ofG 3 rfl) w s) hx13)) rfl rfl fun ⟨q14,q15⟩=>?_
 refine au 5 ?_
 refine RS.nil (k8 _ _ (kq [1,2,4] ?_))
 refine T.seq fun _ k9=>nz ?_
 refine T.region (au 2 ?_)
 obtain ⟨g16,H⟩:=gdE H
 refine rp (Pu.addS rfl rfl g16) (au 2 ?_)
 refine RS.nil (k9 _ _ (kq [1,2,4] ?_))
 refine T.seq fun _ k10=>T.seq fun _ k11=>nz ?_
 refine T.region (au 3 ?_)
 refine RS.solid (Sd.litS (cs:=[_]) sl87.h zr112 rfl rfl rfl rfl rfl) rfl rfl fun b17=>?_
 obtain ⟨g19,H⟩:=gdE H
 refine RS.solid (Sd.app1c (α:=UInt64) 6 9 a1_h rfl rfl (nilH_lt _) sl87.h zr112 rfl rfl rfl rfl g19 (by decide)) rfl rfl fun q18=>au 2 ?_
 refine RS.nil (k11 _ _ (kq [2,4] ?_))
 refine au 5 ?_
 refine T.cP H rfl (fun _ H=>nomatch H) (fun hc20 H=>?_)
 refine T.skip (k10 _ _ (kq [2,4] ?_))
 refine au 4 ?_
 obtain rfl:=sj H
 refine nz ?_
 refine T.rt (Cont.retCT 1 rfl ty89.h rfl rfl rfl rfl fun w' s=>?_)
 exact ⟨⟨q8,q15,q10,q11,(rowV q18 ((x7.hashes ++ [a1_h]).length))⟩,rfl,(Sat.rowOsl (q:=q18) (m:=(x7.hashes ++ [a1_h]).length) 6 s rfl).pick [2,8,4,5,6] (by decide) rfl⟩
theorem peer_Notes_walk (a0_p:Per) (w:World) {v0 v1 v2 v3 v4:Value} (h0:R (hpOf w) a0_p.mine [v0]) (h1:R (hpOf w) a0_p.inputs [v1]) (h2:R (hpOf w) a0_p.has [v2]) (h3:R (hpOf w) a0_p.acked [v3]) (h4:R (hpOf w) a0_p.hashes [v4]) {r:List Nte × Int} (H:peer_Notes a0_p = some r):Calls Tryz.prog 106 #[.agg #[.int .i64 a0_p.id,.int .i64 a0_p.players,.int .i64 a0_p.delay,.int .i64 a0_p.turn,.int .i64 a0_p.said,v0,v1,v2,v3,v4,.bool a0_p.split]] w fun e w'=>∃ q1:(Option Nat × Nat),e = .returned (.tuple #[rowV q1 r.1.length,.int .i64 r.2])∧Sat w [drow 212 (rowV q1 r.1.length) r.1] w':=by
 have hm0:=R_max h0
 obtain ⟨p0,c0,rfl⟩:=R_form h0
 have hm1:=R_max h1
 obtain ⟨p1,c1,rfl⟩:=R_form h1
 have hm2:=R_max h2
 obtain ⟨p2,c2,rfl⟩:=R_form h2
 have hm3:=R_max h3
 obtain ⟨p3,c3,rfl⟩:=R_form h3
 have hm4:=R_max h4
 obtain ⟨p4,c4,rfl⟩:=R_form h4
 unfold peer_Notes at H
 refine te Tryz.func106 (Sat.start w) ?_
 refine T.seq fun _ k1=>T.region (RS.solid (Sd.box (cs:=[_,_,_,_,_,_,_,_,_,_,_]) rfl rfl) rfl rfl fun b1=>au 2 ?_)
 refine RS.nil (k1 _ _ ?_)
 refine T.seq fun _ k2=>T.seq fun _ k3=>T.region (rq (Qt.ldBA (us:=[_,_,_,_,_,_,_,_,_,_,_]) 0 ty89.h rfl rfl rfl rfl) ?_)
 obtain ⟨x2,hx2,H⟩:=bindE H
 refine rq (Qt.call (vs:=[_]) ent58 rfl fun w s=>peer_May_walk a0_p w ((Rd.base h0) w s) ((Rd.base h1) w s) ((Rd.base h2) w s) ((Rd.base h3) w s) ((Rd.base h4) w s) hx2) (rp (Pu.not rfl) (RS.nil (k3 _ _ ?_)))
 refine T.cB H rfl (fun _ H=>nomatch H) (fun hc3 H=>?_)
 refine T.skip (k2 _ _ (kq [1,2] ?_))
 refine T.seq fun _ k5=>T.seq fun _ k6=>T.region (RS.solid (Sd.alloc zr3 rfl) rfl rfl fun b4=>RS.solid (Sd.stB (cs':=[_]) 1 ty3.h rfl rfl rfl rfl rfl rfl rfl rfl) rfl rfl fun _=>RS.nil (k6 _ _ ?_))
 refine T.joinE (σ:=Int) (γ:=Nat) H (fun s=>s) [] trivial (fun v6 q7=>[(2,.slice none 0 0)]) (fun v6 q7=>Sat w [blk b1 [.int .i64 a0_p.id,.int .i64 a0_p.players,.int .i64 a0_p.delay,.int .i64 a0_p.turn,.int .i64 a0_p.said,.slice p0 a0_p.mine.length c0,.slice p1 a0_p.inputs.length c1,.slice p2 a0_p.has.length c2,.slice p3 a0_p.acked.length c3,.slice p4 a0_p.hashes.length c4,.bool a0_p.split] 89,blk q7 [.int .i64 v6] 3]) ?_ ?_
 ·rintro v6 q7 H
  try dsimp only [Ex.then] at H
  refine Cont.kq [2] ?_
  refine id (k5 _ _ ?_)
  refine au 4 ?_
  obtain rfl:=sj H
  refine T.rt (Cont.ret2 rfl rfl rfl fun w' s=>?_)
  exact ⟨(none,0),rfl,(s.nilRowG (α:=Nte) 212).pick [2] (by decide) rfl⟩
 intro z5 hz5 HX5 hJ5
 refine T.block ?_
 refine T.loopA (γ:=Nat) hz5 [(1,_)] (fun v8 q9=>[(2,.slice none 0 0),(4,.pointer (some ⟨q9,0,none⟩))]) (fun v8 q9=>Sat w [blk b1 [.int .i64 a0_p.id,.int .i64 a0_p.players,.int .i64 a0_p.delay,.int .i64 a0_p.turn,.int .i64 a0_p.said,.slice p0 a0_p.mine.length c0,.slice p1 a0_p.inputs.length c1,.slice p2 a0_p.has.length c2,.slice p3 a0_p.acked.length c3,.slice p4 a0_p.hashes.length c4,.bool a0_p.split] 89,blk q9 [.int .i64 v8] 3]) b4 sb sb (fun w s=>s) ?_
 rintro v8 q9 y10 H hd5 KL5 hL5
 try dsimp only [Ex.then] at H
 refine kq [2,4,1] ?_
 refine T.seq fun _ k8=>au 5 ?_
 refine T.cP H rfl (fun hc11 H=>?_) (fun hc11 H=>?_)
 ·refine T.skip (k8 _ _ (kq [1,2,4] ?_))
  refine T.seq fun _ k10=>T.block (T.seq fun _ k11=>au 5 ?_)
  refine T.cP H rfl (fun hc12 H=>?_) (fun hc12 H=>?_)
  ·refine T.xt (k10 _ _ (kq [1,2,4] ?_))
   refine T.seq fun _ k13=>au 2 ?_
   refine T.region (RS.solid (Sd.alloc zr3 rfl) rfl rfl fun b13=>RS.solid (Sd.stB (cs':=[_]) 2 ty3.h rfl rfl rfl rfl rfl rfl rfl rfl) rfl rfl fun _=>RS.nil (k13 _ _ ?_))
   refine T.region (rq (Qt.ldB 2 ty3.h rfl rfl rfl) ?_)
   obtain ⟨g14,H⟩:=gdE H
   refine rp (Pu.addS rfl rfl g14) (RS.solid (Sd.stB (cs':=[_]) 2 ty3.h rfl rfl rfl rfl rfl rfl rfl rfl) rfl rfl fun _=>RS.nil (hL5 _ _ (v8 + 1) b13 H sb sb (fun w s=>s.pc [0,2])))
  refine T.skip (k11 _ _ (kq [1,2,4] ?_))
  refine T.seq fun _ k15=>?_
  exact nomatch H
 obtain rfl:=hd5 _ H
 refine T.xt (hJ5 _ _ v8 q9 HX5 trivial sb (fun w s=>s))
end Go.Proofs.YtmngdgclldkcfaaGreat
