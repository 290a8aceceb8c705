/-
  Texts of one's own, joined: BH FO NO VY.
-/
import Derived.Test.YtmngdgclldkcfaaGreatRows
import Derived.Test.YtmngdgclldkcfaaGreatJ6
import Derived.Test.YtmngdgclldkcfaaGreatJ7
import Derived.Test.YtmngdgclldkcfaaGreatJ8
import Derived.Test.YtmngdgclldkcfaaGreatJ5
set_option linter.unusedVariables false
set_option linter.unusedSimpArgs false
set_option maxRecDepth 20000
set_option maxHeartbeats 4000000
namespace Go.Proofs.YtmngdgclldkcfaaGreat
open Go.Vg
open Enc (R)
theorem ent112:Ent Tryz.prog 112:=en Tryz.func112
theorem ent164:Ent Tryz.prog 164:=en Tryz.func164
theorem ent165:Ent Tryz.prog 165:=en Tryz.func165
theorem ent166:Ent Tryz.prog 166:=en Tryz.func166
theorem ent167:Ent Tryz.prog 167:=en Tryz.func167
theorem ent168:Ent Tryz.prog 168:=en Tryz.func168
theorem ent183:Ent Tryz.prog 183:=en Tryz.func183
theorem ent236:Ent Tryz.prog 236:=en Tryz.func236
theorem ent237:Ent Tryz.prog 237:=en Tryz.func237
theorem ent257:Ent Tryz.prog 257:=en Tryz.func257
theorem ent258:Ent Tryz.prog 258:=en Tryz.func258
theorem ent259:Ent Tryz.prog 259:=en Tryz.func259
theorem ent260:Ent Tryz.prog 260:=en Tryz.func260
theorem ent291:Ent Tryz.prog 291:=en Tryz.func291
theorem ent292:Ent Tryz.prog 292:=en Tryz.func292
theorem ent74:Ent Tryz.prog 74:=en Tryz.func74
instance fd135_0:FdC Tryz.prog 135 0 0:={}
instance fd135_1:FdC Tryz.prog 135 1 1:={}
instance fd135_2:FdC Tryz.prog 135 2 2:={}
instance fd135_3:FdC Tryz.prog 135 3 3:={}
instance fd135_4:FdC Tryz.prog 135 4 4:={}
instance fd135_5:FdC Tryz.prog 135 5 5:={}
instance ty24:TyC Tryz.prog 24 (3,true):={}
theorem zr4:zeroOf Tryz.prog 4 = some (.bool false):=by kernel_rfl
theorem build_form_walk (a0_b:Bld) (w:World) {r:Bool} (H:build_form a0_b = some r):Calls Tryz.prog 165 #[.agg #[.int .i64 a0_b.id,.int .i64 a0_b.owner,.int .i64 a0_b.x,.int .i64 a0_b.y,.int .i64 a0_b.w,.int .i64 a0_b.h]] w fun e w'=>e = .returned (.bool r)∧Ext w w':=by
 unfold build_form at H
 refine te Tryz.func165 (Sat.start w) ?_
 refine T.seq fun _ k1=>T.region (RS.solid (Sd.box (cs:=[_,_,_,_,_,_]) rfl rfl) rfl rfl fun b1=>rA rfl (RS.nil (k1 _ _ ?_)))
 refine T.seq fun _ k2=>T.region (au 4 ?_)
 refine RS.joinV 4 10 (.bool (decide ((1 ≤ a0_b.id)∧(a0_b.id ≤ 1099511627776)))) [(1,_),(2,_)] sb ?_ ?_
 ·refine rM rfl ?_
  refine RS.joinV 4 15 (.bool (decide (((1 ≤ a0_b.id)∧(a0_b.id ≤ 1099511627776))∧(1 ≤ a0_b.owner)))) [(1,_),(2,_)] sb ?_ ?_
  ·refine rM rfl ?_
   refine RS.joinV 4 20 (.bool (decide ((((1 ≤ a0_b.id)∧(a0_b.id ≤ 1099511627776))∧(1 ≤ a0_b.owner))∧(a0_b.owner ≤ 8)))) [(1,_),(2,_)] sb ?_ ?_
   ·refine rM rfl ?_
    refine RS.joinV 4 25 (.bool (decide (((((1 ≤ a0_b.id)∧(a0_b.id ≤ 1099511627776))∧(1 ≤ a0_b.owner))∧(a0_b.owner ≤ 8))∧(1 ≤ a0_b.w)))) [(1,_),(2,_)] sb ?_ ?_
    ·refine rM rfl ?_
     refine RS.joinV 4 30 (.bool (decide ((((((1 ≤ a0_b.id)∧(a0_b.id ≤ 1099511627776))∧(1 ≤ a0_b.owner))∧(a0_b.owner ≤ 8))∧(1 ≤ a0_b.w))∧(a0_b.w ≤ 4)))) [(1,_),(2,_)] sb ?_ ?_
     ·refine rM rfl ?_
      refine RS.joinV 4 35 (.bool (decide (((((((1 ≤ a0_b.id)∧(a0_b.id ≤ 1099511627776))∧(1 ≤ a0_b.owner))∧(a0_b.owner ≤ 8))∧(1 ≤ a0_b.w))∧(a0_b.w ≤ 4))∧(1 ≤ a0_b.h)))) [(1,_),(2,_)] sb ?_ ?_
      ·refine rM rfl ?_
       refine RS.joinV 4 40 (.bool (decide ((((((((1 ≤ a0_b.id)∧(a0_b.id ≤ 1099511627776))∧(1 ≤ a0_b.owner))∧(a0_b.owner ≤ 8))∧(1 ≤ a0_b.w))∧(a0_b.w ≤ 4))∧(1 ≤ a0_b.h))∧(a0_b.h ≤ 4)))) [(2,_)] sb ?_ ?_
       ·refine rA rfl (RS.nil (k2 _ _ ?_))
        obtain rfl:=sj H
        refine T.rt (Cont.ret1 rfl rfl fun w' s=>?_)
        exact ⟨rfl,s.ext⟩
       intro hJ15
       refine RS.splitP 36 rfl (fun hc14=>?_) (fun hc14=>?_)
       ·refine au 4 ?_
        exact hJ15 _ _ ⟨dAndT hc14,rfl,trivial⟩ (fun w s=>s)
       refine au 4 ?_
       exact hJ15 _ _ ⟨dAndF hc14,rfl,trivial⟩ (fun w s=>s)
      intro hJ13
      refine RS.splitP 31 rfl (fun hc12=>?_) (fun hc12=>?_)
      ·refine au 4 ?_
       exact hJ13 _ _ ⟨dAndT hc12,rfl,rfl,trivial⟩ (fun w s=>s)
      refine au 4 ?_
      exact hJ13 _ _ ⟨dAndF hc12,rfl,rfl,trivial⟩ (fun w s=>s)
     intro hJ11
     refine RS.splitP 26 rfl (fun hc10=>?_) (fun hc10=>?_)
     ·refine au 4 ?_
      exact hJ11 _ _ ⟨dAndT hc10,rfl,rfl,trivial⟩ (fun w s=>s)
     refine au 4 ?_
     exact hJ11 _ _ ⟨dAndF hc10,rfl,rfl,trivial⟩ (fun w s=>s)
    intro hJ9
    refine RS.splitP 21 rfl (fun hc8=>?_) (fun hc8=>?_)
    ·refine au 4 ?_
     exact hJ9 _ _ ⟨dAndT hc8,rfl,rfl,trivial⟩ (fun w s=>s)
    refine au 4 ?_
    exact hJ9 _ _ ⟨dAndF hc8,rfl,rfl,trivial⟩ (fun w s=>s)
   intro hJ7
   refine RS.splitP 16 rfl (fun hc6=>?_) (fun hc6=>?_)
   ·refine au 4 ?_
    exact hJ7 _ _ ⟨dAndT hc6,rfl,rfl,trivial⟩ (fun w s=>s)
   refine au 4 ?_
   exact hJ7 _ _ ⟨dAndF hc6,rfl,rfl,trivial⟩ (fun w s=>s)
  intro hJ5
  refine RS.splitP 11 rfl (fun hc4=>?_) (fun hc4=>?_)
  ·refine au 4 ?_
   exact hJ5 _ _ ⟨dAndT hc4,rfl,rfl,trivial⟩ (fun w s=>s)
  refine au 4 ?_
  exact hJ5 _ _ ⟨dAndF hc4,rfl,rfl,trivial⟩ (fun w s=>s)
 intro hJ3
 refine RS.splitP 6 rfl (fun hc2=>?_) (fun hc2=>?_)
 ·refine au 4 ?_
  exact hJ3 _ _ ⟨dAndT hc2,rfl,rfl,trivial⟩ (fun w s=>s)
 refine au 4 ?_
 exact hJ3 _ _ ⟨dAndF hc2,rfl,rfl,trivial⟩ (fun w s=>s)
theorem build_on_walk (a0_g:Grd) (a1_b:Bld) (w:World) {v0:Value} (h0:R (hpOf w) a0_g.tiles [v0]) {r:Bool} (H:build_on a0_g a1_b = some r):Calls Tryz.prog 166 #[.agg #[.int .i64 a0_g.w,.int .i64 a0_g.h,v0],.agg #[.int .i64 a1_b.id,.int .i64 a1_b.owner,.int .i64 a1_b.x,.int .i64 a1_b.y,.int .i64 a1_b.w,.int .i64 a1_b.h]] w fun e w'=>e = .returned (.bool r)∧Ext w w':=by
 have hm0:=R_max h0
 obtain ⟨p0,c0,rfl⟩:=R_form h0
 unfold build_on at H
 refine te Tryz.func166 (Sat.start w) ?_
 refine T.seq fun _ k1=>T.region (RS.solid (Sd.box (cs:=[_,_,_]) rfl rfl) rfl rfl fun b1=>RS.solid (Sd.box (cs:=[_,_,_,_,_,_]) rfl rfl) rfl rfl fun b2=>rA rfl (RS.nil (k1 _ _ (kq [2,3] ?_))))
 refine T.seq fun _ k2=>T.region (au 4 ?_)
 obtain ⟨g5,H⟩:=gdE H
 refine RS.joinV 9 17 (.bool (decide ((0 ≤ a1_b.x)∧(a1_b.x ≤ (a0_g.w - a1_b.w))))) [(2,_),(3,_)] sb ?_ ?_
 ·refine rM rfl ?_
  refine RS.joinV 4 22 (.bool (decide (((0 ≤ a1_b.x)∧(a1_b.x ≤ (a0_g.w - a1_b.w)))∧(0 ≤ a1_b.y)))) [(2,_),(3,_)] sb ?_ ?_
  ·refine rM rfl ?_
   obtain ⟨g10,H⟩:=gdE H
   refine RS.joinV 9 32 (.bool (decide ((((0 ≤ a1_b.x)∧(a1_b.x ≤ (a0_g.w - a1_b.w)))∧(0 ≤ a1_b.y))∧(a1_b.y ≤ (a0_g.h - a1_b.h))))) [] trivial ?_ ?_
   ·refine rA rfl (RS.nil (k2 _ _ ?_))
    obtain rfl:=sj H
    refine T.rt (Cont.ret1 rfl rfl fun w' s=>?_)
    exact ⟨rfl,s.ext⟩
   intro hJ9
   refine RS.splitP 23 rfl (fun hc8=>?_) (fun hc8=>?_)
   ·refine au 6 ?_
    refine rp (Pu.subS rfl rfl (g10 hc8)) (au 2 ?_)
    exact hJ9 _ _ ⟨dAndT hc8,trivial⟩ (fun w s=>s)
   refine au 9 ?_
   exact hJ9 _ _ ⟨dAndF hc8,trivial⟩ (fun w s=>s)
  intro hJ7
  refine RS.splitP 18 rfl (fun hc6=>?_) (fun hc6=>?_)
  ·refine au 4 ?_
   exact hJ7 _ _ ⟨dAndT hc6,rfl,rfl,trivial⟩ (fun w s=>s)
  refine au 4 ?_
  exact hJ7 _ _ ⟨dAndF hc6,rfl,rfl,trivial⟩ (fun w s=>s)
 intro hJ4
 refine RS.splitP 8 rfl (fun hc3=>?_) (fun hc3=>?_)
 ·refine au 6 ?_
  refine rp (Pu.subS rfl rfl (g5 hc3)) (au 2 ?_)
  exact hJ4 _ _ ⟨dAndT hc3,rfl,rfl,trivial⟩ (fun w s=>s)
 refine au 9 ?_
 exact hJ4 _ _ ⟨dAndF hc3,rfl,rfl,trivial⟩ (fun w s=>s)
theorem build_Tiles_walk (a0_g:Grd) (a1_b:Bld) (w:World) {v0:Value} (h0:R (hpOf w) a0_g.tiles [v0]) {r:List Int} (H:build_Tiles a0_g a1_b = some r):Calls Tryz.prog 168 #[.agg #[.int .i64 a0_g.w,.int .i64 a0_g.h,v0],.agg #[.int .i64 a1_b.id,.int .i64 a1_b.owner,.int .i64 a1_b.x,.int .i64 a1_b.y,.int .i64 a1_b.w,.int .i64 a1_b.h]] w fun e w'=>∃ q1:(Option Nat × Nat),e = .returned (rowV q1 r.length)∧Sat w [row nilH 3 (rowV q1 r.length) r] w':=by
 have hm0:=R_max h0
 obtain ⟨p0,c0,rfl⟩:=R_form h0
 unfold build_Tiles at H
 refine te Tryz.func168 (Sat.start w) ?_
 refine T.seq fun _ k1=>T.region (RS.solid (Sd.box (cs:=[_,_,_]) rfl rfl) rfl rfl fun b1=>RS.solid (Sd.box (cs:=[_,_,_,_,_,_]) rfl rfl) rfl rfl fun b2=>rA rfl (RS.nil (k1 _ _ ?_)))
 refine T.seq fun _ k2=>T.seq fun _ k3=>T.region (au 3 ?_)
 refine RS.nil (k3 _ _ (kq [2,3,4,8,9] ?_))
 refine T.joinE (σ:=List Int) (γ:=(Option Nat × Nat)) H (fun s=>s) [] trivial (fun v4 q5=>[(4,rowV q5 v4.length)]) (fun v4 q5=>Sat w [blk b1 [.int .i64 a0_g.w,.int .i64 a0_g.h,.slice p0 a0_g.tiles.length c0] 24,blk b2 [.int .i64 a1_b.id,.int .i64 a1_b.owner,.int .i64 a1_b.x,.int .i64 a1_b.y,.int .i64 a1_b.w,.int .i64 a1_b.h] 135,row nilH 3 (rowV q5 v4.length) v4]) ?_ ?_
 ·rintro v4 q5 H
  try dsimp only [Ex.then] at H
  refine Cont.kq [4] ?_
  refine id (k2 _ _ ?_)
  refine au 3 ?_
  obtain rfl:=sj H
  refine T.rt (Cont.ret1 rfl rfl fun w' s=>?_)
  exact ⟨q5,rfl,s.pc [2]⟩
 intro z3 hz3 HX3 hJ3
 refine T.block ?_
 refine T.loopA (γ:=(Option Nat × Nat)) hz3 [(2,_),(3,_),(8,_)] (fun (l6,v8) q7=>[(4,rowV q7 l6.length),(9,.int .i64 v8)]) (fun (l6,v8) q7=>Sat w [blk b1 [.int .i64 a0_g.w,.int .i64 a0_g.h,.slice p0 a0_g.tiles.length c0] 24,blk b2 [.int .i64 a1_b.id,.int .i64 a1_b.owner,.int .i64 a1_b.x,.int .i64 a1_b.y,.int .i64 a1_b.w,.int .i64 a1_b.h] 135,row nilH 3 (rowV q7 l6.length) l6]) (none,0) sb sb (fun w s=>(s.nilRow (α:=Int) 3).pick [0,1,2] (by decide) rfl) ?_
 rintro ⟨l6,v8⟩ q7 y9 H hd3 KL3 hL3
 try dsimp only [Ex.then] at H
 refine kq [4,9,2,3,8] ?_
 refine au 2 ?_
 refine T.seq fun _ k6=>?_
 refine T.cP H rfl (fun hc10 H=>?_) (fun hc10 H=>?_)
 ·refine T.skip (k6 _ _ ?_)
  refine T.seq fun _ k7=>T.block (au 3 ?_)
  refine T.seq fun _ k9=>T.region (au 3 ?_)
  refine RS.nil (k9 _ _ (kq [2,3,4,5,8,9,13,14] ?_))
  refine T.joinE (σ:=List Int) (γ:=(Option Nat × Nat)) H (fun s=>s) [(2,_),(3,_),(8,_),(9,_)] sb (fun v12 q13=>[(4,rowV q13 v12.length)]) (fun v12 q13=>Sat w [blk b1 [.int .i64 a0_g.w,.int .i64 a0_g.h,.slice p0 a0_g.tiles.length c0] 24,blk b2 [.int .i64 a1_b.id,.int .i64 a1_b.owner,.int .i64 a1_b.x,.int .i64 a1_b.y,.int .i64 a1_b.w,.int .i64 a1_b.h] 135,row nilH 3 (rowV q13 v12.length) v12]) ?_ ?_
  ·rintro v12 q13 H
   try dsimp only [Ex.then] at H
   refine Cont.kq [4,2,3,8,9] ?_
   refine id (k7 _ _ ?_)
   refine T.region ?_
   obtain ⟨g14,H⟩:=gdE H
   refine rp (Pu.addS rfl rfl g14) (rM rfl (RS.nil (hL3 _ _ (v12,(v8 + 1)) q13 H sb sb (fun w s=>s))))
  intro z11 hz11 HX11 hJ11
  refine T.block ?_
  refine T.loopA (γ:=(Option Nat × Nat)) hz11 [(2,_),(3,_),(5,_),(8,_),(9,_),(13,_)] (fun (v15,l16) q17=>[(4,rowV q17 l16.length),(14,.int .i64 v15)]) (fun (v15,l16) q17=>Sat w [blk b1 [.int .i64 a0_g.w,.int .i64 a0_g.h,.slice p0 a0_g.tiles.length c0] 24,blk b2 [.int .i64 a1_b.id,.int .i64 a1_b.owner,.int .i64 a1_b.x,.int .i64 a1_b.y,.int .i64 a1_b.w,.int .i64 a1_b.h] 135,row nilH 3 (rowV q17 l16.length) l16]) q7 sb sb (fun w s=>s) ?_
  rintro ⟨v15,l16⟩ q17 y18 H hd11 KL11 hL11
  try dsimp only [Ex.then] at H
  refine kq [4,14,2,3,5,8,9,13] ?_
  refine au 2 ?_
  refine T.seq fun _ k11=>?_
  refine T.cP H rfl (fun hc19 H=>?_) (fun hc19 H=>?_)
  ·refine T.skip (k11 _ _ ?_)
   refine T.seq fun _ k12=>T.block (au 3 ?_)
   refine T.region (au 4 ?_)
   obtain ⟨g20,H⟩:=gdE H
   refine rp (Pu.addS rfl rfl g20) (au 5 ?_)
   obtain ⟨g21,H⟩:=gdE H
   refine rp (Pu.addS rfl rfl g21) ?_
   obtain ⟨g22,H⟩:=gdE H
   refine rp (Pu.mulS rfl rfl g22) ?_
   obtain ⟨g23,H⟩:=gdE H
   refine rp (Pu.addS rfl rfl g23) (RS.solid (Sd.litS (cs:=[_]) sl35.h zr3 rfl rfl rfl rfl rfl) rfl rfl fun b24=>?_)
   obtain ⟨g26,H⟩:=gdE H
   refine RS.solid (Sd.app1c (α:=Int) 2 3 ((a1_b.x + v15) + (a0_g.w * (a1_b.y + v8))) rfl rfl (nilH_lt _) sl35.h zr3 rfl rfl rfl rfl g26 (by decide)) rfl rfl fun q25=>rA rfl (RS.nil (k12 _ _ (kq [2,3,4,5,8,9,13,14] ?_)))
   refine T.region ?_
   obtain ⟨g27,H⟩:=gdE H
   refine rp (Pu.addS rfl rfl g27) (rM rfl (RS.nil (hL11 _ _ ((v15 + 1),(l16 ++ [((a1_b.x + v15) + (a0_g.w * (a1_b.y + v8)))])) q25 H sb sb (fun w s=>s.pc [0,1,2]))))
  obtain rfl:=hd11 _ H
  refine T.xt (hJ11 _ _ l16 q17 HX11 sb sb (fun w s=>s))
 obtain rfl:=hd3 _ H
 refine T.xt (hJ3 _ _ l6 q7 HX3 trivial sb (fun w s=>s))
theorem build_firm_1_walk (a0_t:Int) (cv0:Grd) (w:World) {v0:Value} {p1g:Nat} (hb1:blk p1g [.int .i64 cv0.w,.int .i64 cv0.h,v0] 24 (hpOf w)) (h0:R (hpOf w) cv0.tiles [v0]) {r:Bool} (H:build_firm_1 a0_t cv0 = some r):Calls Tryz.prog 237 #[.int .i64 a0_t,.pointer (some ⟨p1g,0,none⟩)] w fun e w'=>e = .returned (.bool r)∧Ext w w':=by
 have hm0:=R_max h0
 obtain ⟨p0,c0,rfl⟩:=R_form h0
 unfold build_firm_1 at H
 refine te Tryz.func237 (Sat.start w) ?_
 refine au 2 ?_
 refine T.seq fun _ k2=>T.region (rp (Pu.fieldAddr fd24_2.h rfl) (rq (Qt.ldX ty22.h rfl hb1 (fun w s=>s.ext) rfl) (rM rfl ?_)))
 obtain ⟨g1,H⟩:=gdE H
 obtain ⟨bl2,ol3,rfl⟩:=R_ptr h0 (ne_of_pos (pos_of g1))
 refine rp (Pu.indexSl sl22.h rfl rfl g1) (rq (Qt.ld0 (α:=UInt8) (Rd.base h0) ty5.h rfl rfl g1 (by rintro _ _ rfl; rfl)) (au 2 ?_))
 refine RS.nil (k2 _ _ (kq [3] ?_))
 obtain rfl:=sj H
 refine T.rt (Cont.ret1 rfl rfl fun w' s=>?_)
 exact ⟨rfl,s.ext⟩
theorem build_firm_walk (a0_g:Grd) (a1_b:Bld) (w:World) {v0:Value} (h0:R (hpOf w) a0_g.tiles [v0]) {r:Bool} (H:build_firm a0_g a1_b = some r):Calls Tryz.prog 167 #[.agg #[.int .i64 a0_g.w,.int .i64 a0_g.h,v0],.agg #[.int .i64 a1_b.id,.int .i64 a1_b.owner,.int .i64 a1_b.x,.int .i64 a1_b.y,.int .i64 a1_b.w,.int .i64 a1_b.h]] w fun e w'=>e = .returned (.bool r)∧Ext w w':=by
 have hm0:=R_max h0
 obtain ⟨p0,c0,rfl⟩:=R_form h0
 unfold build_firm at H
 refine te Tryz.func167 (Sat.start w) ?_
 refine T.seq fun _ k1=>T.region (RS.solid (Sd.box (cs:=[_,_,_]) rfl rfl) rfl rfl fun b1=>RS.solid (Sd.box (cs:=[_,_,_,_,_,_]) rfl rfl) rfl rfl fun b2=>rA rfl (RS.nil (k1 _ _ (kq [2,3] ?_))))
 refine T.seq fun _ k2=>T.region (au 2 ?_)
 obtain ⟨x3,hx3,H⟩:=bindE H
 refine RS.solid (Sd.callN (vs:=[_,_]) ent168 rfl (fun w s=>build_Tiles_walk a0_g a1_b w ((Rd.base h0) w s) hx3)) rfl rfl fun q4=>rp (Pu.makeFunc rfl) ?_
 obtain ⟨x5,hx5,H⟩:=bindE H
 refine rq (Qt.call (vs:=[_,_]) ent236 rfl fun w s=>slices_ContainsFunc_walk x3 (fun y0=>build_firm_1 y0 a0_g) w ((Rd.ofRowN 2 rfl) w s) (⟨237,_,rfl,ent237,fun y0 r w' he hr=>build_firm_1_walk y0 a0_g w' (blk_ext he (blk_of s (k:=0) rfl)) (Enc.mono he.hp ((Rd.base h0) w s)) hr⟩) hx5) (au 2 ?_)
 refine RS.nil (k2 _ _ (kq [4] ?_))
 obtain rfl:=sj H
 refine T.rt (Cont.ret1 rfl rfl fun w' s=>?_)
 exact ⟨rfl,s.ext⟩
theorem build_overlap_walk (a0_a:Bld) (a1_b:Bld) (w:World) {r:Bool} (H:build_overlap a0_a a1_b = some r):Calls Tryz.prog 259 #[.agg #[.int .i64 a0_a.id,.int .i64 a0_a.owner,.int .i64 a0_a.x,.int .i64 a0_a.y,.int .i64 a0_a.w,.int .i64 a0_a.h],.agg #[.int .i64 a1_b.id,.int .i64 a1_b.owner,.int .i64 a1_b.x,.int .i64 a1_b.y,.int .i64 a1_b.w,.int .i64 a1_b.h]] w fun e w'=>e = .returned (.bool r)∧Ext w w':=by
 unfold build_overlap at H
 refine te Tryz.func259 (Sat.start w) ?_
 refine T.seq fun _ k1=>T.region (RS.solid (Sd.box (cs:=[_,_,_,_,_,_]) rfl rfl) rfl rfl fun b1=>RS.solid (Sd.box (cs:=[_,_,_,_,_,_]) rfl rfl) rfl rfl fun b2=>rA rfl (RS.nil (k1 _ _ (kq [2,3] ?_))))
 refine T.seq fun _ k2=>T.region (au 6 ?_)
 obtain ⟨g3,H⟩:=gdE H
 refine rp (Pu.addS rfl rfl g3) (au 2 ?_)
 obtain ⟨g6,H⟩:=gdE H
 refine RS.joinV 9 22 (.bool (decide ((a0_a.x < (a1_b.x + a1_b.w))∧(a1_b.x < (a0_a.x + a0_a.w))))) [(2,_),(3,_)] sb ?_ ?_
 ·refine rM rfl ?_
  obtain ⟨g9,H⟩:=gdE H
  refine RS.joinV 9 32 (.bool (decide (((a0_a.x < (a1_b.x + a1_b.w))∧(a1_b.x < (a0_a.x + a0_a.w)))∧(a0_a.y < (a1_b.y + a1_b.h))))) [(2,_),(3,_)] sb ?_ ?_
  ·refine rM rfl ?_
   obtain ⟨g12,H⟩:=gdE H
   refine RS.joinV 9 42 (.bool (decide ((((a0_a.x < (a1_b.x + a1_b.w))∧(a1_b.x < (a0_a.x + a0_a.w)))∧(a0_a.y < (a1_b.y + a1_b.h)))∧(a1_b.y < (a0_a.y + a0_a.h))))) [] trivial ?_ ?_
   ·refine rA rfl (RS.nil (k2 _ _ ?_))
    obtain rfl:=sj H
    refine T.rt (Cont.ret1 rfl rfl fun w' s=>?_)
    exact ⟨rfl,s.ext⟩
   intro hJ11
   refine RS.splitP 33 rfl (fun hc10=>?_) (fun hc10=>?_)
   ·refine au 6 ?_
    refine rp (Pu.addS rfl rfl (g12 hc10)) (au 2 ?_)
    exact hJ11 _ _ ⟨dAndT hc10,trivial⟩ (fun w s=>s)
   refine au 9 ?_
   exact hJ11 _ _ ⟨dAndF hc10,trivial⟩ (fun w s=>s)
  intro hJ8
  refine RS.splitP 23 rfl (fun hc7=>?_) (fun hc7=>?_)
  ·refine au 6 ?_
   refine rp (Pu.addS rfl rfl (g9 hc7)) (au 2 ?_)
   exact hJ8 _ _ ⟨dAndT hc7,rfl,rfl,trivial⟩ (fun w s=>s)
  refine au 9 ?_
  exact hJ8 _ _ ⟨dAndF hc7,rfl,rfl,trivial⟩ (fun w s=>s)
 intro hJ5
 refine RS.splitP 13 rfl (fun hc4=>?_) (fun hc4=>?_)
 ·refine au 6 ?_
  refine rp (Pu.addS rfl rfl (g6 hc4)) (au 2 ?_)
  exact hJ5 _ _ ⟨dAndT hc4,rfl,rfl,trivial⟩ (fun w s=>s)
 refine au 9 ?_
 exact hJ5 _ _ ⟨dAndF hc4,rfl,rfl,trivial⟩ (fun w s=>s)
theorem build_rising_walk (a0_l:List Bld) (w:World) {v0:Value} (h0:R (hpOf w) a0_l [v0]) {r:Bool} (H:build_rising a0_l = some r):Calls Tryz.prog 164 #[v0] w fun e w'=>e = .returned (.bool r)∧Ext w w':=by
 have hm0:=R_max h0
 obtain ⟨p0,c0,rfl⟩:=R_form h0
 unfold build_rising at H
 refine te Tryz.func164 (Sat.start w) ?_
 refine au 2 ?_
 refine T.seq fun _ k2=>au 2 ?_
 refine T.joinE (σ:=Unit) (γ:=Unit) H Ex.go [] trivial (fun _ _=>[]) (fun _ _=>Sat w []) ?_ ?_
 ·rintro ⟨⟩ ⟨⟩ H
  try dsimp only [Ex.then] at H
  refine Cont.kq [] ?_
  refine id (k2 _ _ ?_)
  refine au 2 ?_
  obtain rfl:=sj H
  refine T.rt (Cont.ret1 rfl rfl fun w' s=>?_)
  exact ⟨rfl,s.ext⟩
 intro z1 hz1 HX1 hJ1
 refine T.block ?_
 refine T.loopA (γ:=Unit) hz1 [(0,_)] (fun v2 _=>[(3,.int .i64 v2)]) (fun v2 _=>Sat w []) () sb sb (fun w s=>s) ?_
 rintro v2 ⟨⟩ y3 H hd1 KL1 hL1
 try dsimp only [Ex.then] at H
 refine kq [3,0] ?_
 refine T.seq fun _ k5=>au 5 ?_
 refine T.cP H rfl (fun _ H=>nomatch H) (fun hc4 H=>?_)
 obtain rfl:=hd1 _ H
 refine T.xt (hJ1 _ _ () () HX1 trivial trivial (fun w s=>s))
theorem build_May_walk (a0_g:Grd) (a1_l:List Bld) (w:World) {v0 v1:Value} (h0:R (hpOf w) a0_g.tiles [v0]) (h1:R (hpOf w) a1_l [v1]) {r:Bool} (H:build_May a0_g a1_l = some r):Calls Tryz.prog 111 #[.agg #[.int .i64 a0_g.w,.int .i64 a0_g.h,v0],v1] w fun e w'=>e = .returned (.bool r)∧Ext w w':=by
 have hm0:=R_max h0
 obtain ⟨p0,c0,rfl⟩:=R_form h0
 have hm1:=R_max h1
 obtain ⟨p1,c1,rfl⟩:=R_form h1
 unfold build_May at H
 refine te Tryz.func111 (Sat.start w) ?_
 refine T.seq fun _ k1=>T.region (RS.solid (Sd.box (cs:=[_,_,_]) rfl rfl) rfl rfl fun b1=>rA rfl (RS.nil (k1 _ _ ?_)))
 refine T.seq fun _ k2=>T.seq fun _ k3=>T.region (au 4 ?_)
 refine RS.joinB H 4 17 (fun b4=>.bool b4) [(1,_),(2,_)] sb ?_ ?_
 ·intro b4 H
  refine RS.nil (k3 _ _ ?_)
  refine T.cB H rfl (fun _ H=>nomatch H) (fun hc5 H=>?_)
  refine T.skip (k2 _ _ ?_)
  refine T.seq fun _ k5=>T.region (au 3 ?_)
  obtain ⟨g7,H⟩:=gdE H
  refine RS.solid (Sd.make (α:=Bool) (B:=nilH) false sl41.h zr4 rfl (by decide) rfl rfl (by omega) (by omega) (by omega)) rfl rfl fun b6=>rA rfl (RS.nil (k5 _ _ (kq [1,2,5] ?_)))
  refine T.seq fun _ k6=>au 4 ?_
  refine T.joinE (σ:=Unit) (γ:=Unit) H Ex.go [] trivial (fun _ _=>[]) (fun _ _=>Sat w [blk b1 [.int .i64 a0_g.w,.int .i64 a0_g.h,.slice p0 a0_g.tiles.length c0] 24,row nilH 4 (rowV (some b6,(a0_g.tiles.length:Int).toNat) ((a0_g.tiles.length:Int).toNat)) (List.replicate (a0_g.tiles.length:Int).toNat false)]) ?_ ?_
  ·rintro ⟨⟩ ⟨⟩ H
   try dsimp only [Ex.then] at H
   refine Cont.kq [] ?_
   refine id (k6 _ _ ?_)
   refine au 2 ?_
   obtain rfl:=sj H
   refine T.rt (Cont.ret1 rfl rfl fun w' s=>?_)
   exact ⟨rfl,s.ext⟩
  intro z8 hz8 HX8 hJ8
  refine T.block ?_
  refine T.loopA (γ:=Unit) hz8 [(2,_),(5,_),(22,_),(23,_)] (fun v9 _=>[(24,.int .i64 v9)]) (fun v9 _=>Sat w [blk b1 [.int .i64 a0_g.w,.int .i64 a0_g.h,.slice p0 a0_g.tiles.length c0] 24,row nilH 4 (rowV (some b6,(a0_g.tiles.length:Int).toNat) ((a0_g.tiles.length:Int).toNat)) (List.replicate (a0_g.tiles.length:Int).toNat false)]) () sb sb (fun w s=>s) ?_
  rintro v9 ⟨⟩ y10 H hd8 KL8 hL8
  try dsimp only [Ex.then] at H
  refine kq [24,2,5,22,23] ?_
  refine au 2 ?_
  refine T.seq fun _ k10=>?_
  refine T.cP H rfl (fun _ H=>nomatch H) (fun hc11 H=>?_)
  obtain rfl:=hd8 _ H
  refine T.xt (hJ8 _ _ () () HX8 trivial trivial (fun w s=>s))
 intro z12 H hJ3
 refine RS.splitP 13 rfl (fun hc2=>?_) (fun hc2=>?_)
 ·have H:=ifT hc2 H
  refine au 4 ?_
  obtain rfl:=sj H
  exact hJ3 _ _ sb (fun w s=>s)
 have H:=ifF hc2 H
 refine rM rfl ?_
 obtain ⟨x13,hx13,H⟩:=bindE H
 refine rq (Qt.call (vs:=[_]) ent164 rfl fun w s=>build_rising_walk a1_l w ((Rd.base h1) w s) hx13) (au 2 ?_)
 obtain rfl:=sj H
 exact hJ3 _ _ sb (fun w s=>s)
theorem build_find_1_walk (a0_b:Bld) (a1_id:Int) (w:World) {r:Int} (H:build_find_1 a0_b a1_id = some r):Calls Tryz.prog 292 #[.agg #[.int .i64 a0_b.id,.int .i64 a0_b.owner,.int .i64 a0_b.x,.int .i64 a0_b.y,.int .i64 a0_b.w,.int .i64 a0_b.h],.int .i64 a1_id] w fun e w'=>e = .returned (.int .i64 r)∧Ext w w':=by
 unfold build_find_1 at H
 refine te Tryz.func292 (Sat.start w) ?_
 refine T.seq fun _ k1=>T.region (RS.solid (Sd.box (cs:=[_,_,_,_,_,_]) rfl rfl) rfl rfl fun b1=>rA rfl (RS.nil (k1 _ _ ?_)))
 refine T.seq fun _ k2=>T.region (au 3 ?_)
 obtain ⟨x2,hx2,H⟩:=bindE H
 refine rq (Qt.call (vs:=[_,_]) ent183 rfl fun w s=>cmp_Compare_walk a0_b.id a1_id w  hx2) (rA rfl (RS.nil (k2 _ _ (kq [4] ?_))))
 obtain rfl:=sj H
 refine T.rt (Cont.ret1 rfl rfl fun w' s=>?_)
 exact ⟨rfl,s.ext⟩
theorem build_find_walk (a0_l:List Bld) (a1_id:Int) (w:World) {v0:Value} (h0:R (hpOf w) a0_l [v0]) {r:Int × Bool} (H:build_find a0_l a1_id = some r):Calls Tryz.prog 257 #[v0,.int .i64 a1_id] w fun e w'=>e = .returned (.tuple #[.int .i64 r.1,.bool r.2])∧Ext w w':=by
 have hm0:=R_max h0
 obtain ⟨p0,c0,rfl⟩:=R_form h0
 unfold build_find at H
 refine te Tryz.func257 (Sat.start w) ?_
 refine au 3 ?_
 refine T.seq fun _ k2=>T.region (au 2 ?_)
 obtain ⟨x1,hx1,H⟩:=bindE H
 refine rq (Qt.call (vs:=[_,_,_]) ent291 rfl fun w s=>slices_BinarySearchFunc_walk a0_l a1_id (fun (y0,y1)=>build_find_1 y0 y1) w ((Rd.base h0) w s) (⟨292,_,rfl,ent292,fun ⟨y0,y1⟩ r w' he hr=>build_find_1_walk y0 y1 w'  hr⟩) hx1) (au 4 ?_)
 refine RS.nil (k2 _ _ (kq [4,5] ?_))
 obtain rfl:=sj H
 refine T.rt (Cont.ret2 rfl rfl rfl fun w' s=>?_)
 exact ⟨rfl,s.ext⟩
theorem build_Put_1_walk (a0_x:Bld) (cv0:Bld) (w:World) {p1g:Nat} (hb1:blk p1g [.int .i64 cv0.id,.int .i64 cv0.owner,.int .i64 cv0.x,.int .i64 cv0.y,.int .i64 cv0.w,.int .i64 cv0.h] 135 (hpOf w)) {r:Bool} (H:build_Put_1 a0_x cv0 = some r):Calls Tryz.prog 258 #[.agg #[.int .i64 a0_x.id,.int .i64 a0_x.owner,.int .i64 a0_x.x,.int .i64 a0_x.y,.int .i64 a0_x.w,.int .i64 a0_x.h],.pointer (some ⟨p1g,0,none⟩)] w fun e w'=>e = .returned (.bool r)∧Ext w w':=by
 unfold build_Put_1 at H
 refine te Tryz.func258 (Sat.start w) ?_
 refine T.seq fun _ k1=>T.region (RS.solid (Sd.box (cs:=[_,_,_,_,_,_]) rfl rfl) rfl rfl fun b1=>rA rfl (RS.nil (k1 _ _ ?_)))
 refine T.seq fun _ k2=>T.region (rq (Qt.ldBA (us:=[_,_,_,_,_,_]) 0 ty135.h rfl rfl rfl rfl) (rq (Qt.ldXA (us:=[_,_,_,_,_,_]) ty135.h rfl hb1 (fun w s=>s.ext) rfl rfl) ?_))
 obtain ⟨x2,hx2,H⟩:=bindE H
 refine rq (Qt.call (vs:=[_,_]) ent259 rfl fun w s=>build_overlap_walk a0_x cv0 w  hx2) (rA rfl (RS.nil (k2 _ _ (kq [3] ?_))))
 obtain rfl:=sj H
 refine T.rt (Cont.ret1 rfl rfl fun w' s=>?_)
 exact ⟨rfl,s.ext⟩
theorem build_Put_walk (a0_g:Grd) (a1_l:List Bld) (a2_b:Bld) (w:World) {v0 v1:Value} (h0:R (hpOf w) a0_g.tiles [v0]) (h1:R (hpOf w) a1_l [v1]) {r:List Bld × Int} (H:build_Put a0_g a1_l a2_b = some r):Calls Tryz.prog 190 #[.agg #[.int .i64 a0_g.w,.int .i64 a0_g.h,v0],v1,.agg #[.int .i64 a2_b.id,.int .i64 a2_b.owner,.int .i64 a2_b.x,.int .i64 a2_b.y,.int .i64 a2_b.w,.int .i64 a2_b.h]] w fun e w'=>∃ q1:(Option Nat × Nat),e = .returned (.tuple #[rowV q1 r.1.length,.int .i64 r.2])∧Sat w [row nilH 135 (rowV q1 r.1.length) r.1] w':=by
 have hm0:=R_max h0
 obtain ⟨p0,c0,rfl⟩:=R_form h0
 have hm1:=R_max h1
 obtain ⟨p1,c1,rfl⟩:=R_form h1
 unfold build_Put at H
 refine te Tryz.func190 (Sat.start w) ?_
 refine T.seq fun _ k1=>T.region (RS.solid (Sd.box (cs:=[_,_,_]) rfl rfl) rfl rfl fun b1=>RS.solid (Sd.box (cs:=[_,_,_,_,_,_]) rfl rfl) rfl rfl fun b2=>au 2 ?_)
 refine RS.nil (k1 _ _ (kq [1,3,5] ?_))
 refine T.seq fun _ k2=>T.region (au 3 ?_)
 obtain ⟨x3,hx3,H⟩:=bindE H
 refine rq (Qt.call (vs:=[_,_]) ent257 rfl fun w s=>build_find_walk a1_l a2_b.id w ((Rd.base h1) w s) hx3) (au 5 ?_)
 refine RS.nil (k2 _ _ (kq [1,3,5,8,9] ?_))
 refine T.seq fun _ k3=>T.block (T.seq fun _ k4=>T.region (rq (Qt.ldBA (us:=[_,_,_,_,_,_]) 1 ty135.h rfl rfl rfl rfl) ?_))
 obtain ⟨x4,hx4,H⟩:=bindE H
 refine rq (Qt.call (vs:=[_]) ent165 rfl fun w s=>build_form_walk a2_b w  hx4) (au 2 ?_)
 refine RS.nil (k4 _ _ ?_)
 refine T.cB H rfl (fun _ H=>nomatch H) (fun hc5 H=>?_)
 refine kq [1,3,5,8,9] ?_
 refine T.seq fun _ k6=>T.region (au 2 ?_)
 obtain ⟨x6,hx6,H⟩:=bindE H
 refine rq (Qt.call (vs:=[_,_]) ent166 rfl fun w s=>build_on_walk a0_g a2_b w ((Rd.base h0) w s) hx6) (au 2 ?_)
 refine RS.nil (k6 _ _ ?_)
 refine T.cB H rfl (fun _ H=>nomatch H) (fun hc7 H=>?_)
 refine kq [1,3,5,8,9] ?_
 refine T.seq fun _ k8=>T.region (au 2 ?_)
 refine RS.joinB H 4 32 (fun b10=>.bool b10) [(1,_),(3,_),(5,_),(8,_)] sb ?_ ?_
 ·intro b10 H
  refine rA rfl (RS.nil (k8 _ _ ?_))
  refine T.cB H rfl (fun _ H=>nomatch H) (fun hc11 H=>?_)
  refine T.seq fun _ k10=>T.region (au 2 ?_)
  obtain ⟨x12,hx12,H⟩:=bindE H
  refine rq (Qt.call (vs:=[_,_]) ent167 rfl fun w s=>build_firm_walk a0_g a2_b w ((Rd.base h0) w s) hx12) (au 2 ?_)
  refine RS.nil (k10 _ _ ?_)
  refine T.cB H rfl (fun _ H=>nomatch H) (fun hc13 H=>?_)
  refine kq [1,5,8] ?_
  refine au 5 ?_
  refine T.cP H rfl (fun _ H=>nomatch H) (fun hc14 H=>?_)
  refine T.skip (k3 _ _ (kq [1,5,8] ?_))
  refine T.joinA (σ:=Int × List Bld) (γ:=(Option Nat × Nat)) H (fun s=>s) [] trivial (fun (v16,v17) q18=>[(6,rowV q18 v17.length),(7,.int .i64 v16)]) (fun (v16,v17) q18=>Sat w [blk b1 [.int .i64 a0_g.w,.int .i64 a0_g.h,.slice p0 a0_g.tiles.length c0] 24,blk b2 [.int .i64 a2_b.id,.int .i64 a2_b.owner,.int .i64 a2_b.x,.int .i64 a2_b.y,.int .i64 a2_b.w,.int .i64 a2_b.h] 135,row nilH 135 (rowV q18 v17.length) v17]) ?_ ?_
  ·rintro ⟨v16,v17⟩ q18 H
   try dsimp only [Ex.then] at H
   refine kq [6,7] ?_
   obtain rfl:=sj H
   refine T.rt (Cont.ret2 rfl rfl rfl fun w' s=>?_)
   exact ⟨q18,rfl,s.pc [2]⟩
  intro z15 H HX15 K14 hJ15
  refine T.drawnTS [0,1] [(0,.pu),(1,.so),(2,.pu),(3,.wk),(4,.so),(5,.br),(6,.pu),(7,.pu)] (.st 0 .pu (.st 2 .pu (.st 3 .wk (.two 1 .so (.st 4 .so (.st 5 .br (.st 6 .pu (.st 7 .pu .nil)))) 4 .so (.st 1 .so (.st 5 .br (.st 6 .pu (.st 7 .pu .nil)))))))) mixed (by kernel_rfl) rfl ?_
  refine RT.p (fun w s=>s.pc [0,1]) rfl (Pu.move rfl) rfl rfl (RT.p (fun w s=>s.pc [0,1]) rfl (Pu.move rfl) rfl rfl ?_)
  refine RT.w (fun w s=>s.pc [0,1]) rfl (Qt.ldBA (us:=[_,_,_,_,_,_]) 1 ty135.h rfl rfl rfl rfl) rfl rfl ?_
  obtain ⟨x19,hx19,H⟩:=bindE H
  obtain ⟨x22,hx22,H⟩:=bindE H
  refine RT.two ?_ ?_
  ·refine RT1.solid rfl (.inl rfl) rfl rfl (Sd.callN (vs:=[_]) ent74 rfl (fun w s=>slices_Clone_Bld_walk a1_l w ((Rd.base h1) w s) hx19)) (fun _=>ClE.sat _ _) (fun _ w s=>s.pc [0,1]) (fun _ _ _ s=>s.drop1) fun q219=>?_
   refine RT.solid rfl (.inl rfl) rfl rfl (Sd.litS (cs:=[_,_,_,_,_,_]) sl49.h zr135 rfl rfl rfl rfl rfl) (fun _=>ClE.sat _ _) (fun _ w s=>s.pc [0,1]) (fun _ _ _ s=>s.drop1) fun b220=>?_
   refine RT.solid rfl (.inr rfl) rfl rfl (Sd.callM 2 ent260 rfl rfl (fun w s=>slices_Insert_walk x19 x3.1 [a2_b] rfl (Rd.rest 3 rfl (by decide) (Rd.ofLit (α:=Bld) (n:=1) (xs:=[a2_b]) 0 rfl (by decide) rfl ⟨[_,_,_,_,_,_],_,rfl,rfl,rfl⟩)) hx22 w s)) (fun _=>ClE.sat _ _) (fun _ w s=>s.pc [0,1]) (fun h=>nomatch h) fun q221=>?_
   refine RT.p (fun w s=>s.pc [0,1]) rfl (Pu.assign rfl) rfl rfl (RT.p (fun w s=>s.pc [0,1]) rfl (Pu.assign rfl) rfl rfl ?_)
   obtain rfl:=sj H
   refine RT.nil (hJ15 _ _ (0,x22) q221 HX15 trivial sb (fun w s=>s.pc [0,1,2]))
  refine RT1.solid rfl (.inl rfl) rfl rfl (Sd.litS (cs:=[_,_,_,_,_,_]) sl49.h zr135 rfl rfl rfl rfl rfl) (fun _=>ClE.sat _ _) (fun _ w s=>s.pc [0,1]) (fun _ _ _ s=>s.drop1) fun b222=>?_
  refine RT.solid rfl (.inl rfl) rfl rfl (Sd.callN (vs:=[_]) ent74 rfl (fun w s=>slices_Clone_Bld_walk a1_l w ((Rd.base h1) w s) hx19)) (fun _=>ClE.sat _ _) (fun _ w s=>s.pc [0,1]) (fun _ _ _ s=>s.drop1) fun q223=>?_
  refine RT.solid rfl (.inr rfl) rfl rfl (Sd.callM 3 ent260 rfl rfl (fun w s=>slices_Insert_walk x19 x3.1 [a2_b] rfl (Rd.rest 2 rfl (by decide) (Rd.ofLit (α:=Bld) (n:=1) (xs:=[a2_b]) 0 rfl (by decide) rfl ⟨[_,_,_,_,_,_],_,rfl,rfl,rfl⟩)) hx22 w s)) (fun _=>ClE.sat _ _) (fun _ w s=>s.pc [0,1]) (fun h=>nomatch h) fun q224=>?_
  refine RT.p (fun w s=>s.pc [0,1]) rfl (Pu.assign rfl) rfl rfl (RT.p (fun w s=>s.pc [0,1]) rfl (Pu.assign rfl) rfl rfl ?_)
  obtain rfl:=sj H
  refine RT.nil (hJ15 _ _ (0,x22) q224 HX15 trivial sb (fun w s=>s.pc [0,1,3]))
 intro z225 H hJ9
 refine RS.split 28 rfl (fun hc8=>?_) (fun hc8=>?_)
 ·have H:=ifT hc8 H
  refine au 4 ?_
  obtain rfl:=sj H
  exact hJ9 _ _ sb (fun w s=>s)
 have H:=ifB hc8 H
 refine rM rfl (rp (Pu.makeFunc rfl) ?_)
 obtain ⟨x226,hx226,H⟩:=bindE H
 refine rq (Qt.call (vs:=[_,_]) ent112 rfl fun w s=>slices_ContainsFuncB_walk a1_l (fun y0=>build_Put_1 y0 a2_b) w ((Rd.base h1) w s) (⟨258,_,rfl,ent258,fun y0 r w' he hr=>build_Put_1_walk y0 a2_b w' (blk_ext he (blk_of s (k:=1) rfl)) hr⟩) hx226) (rp (Pu.pickF rfl rfl) ?_)
 obtain rfl:=sj H
 exact hJ9 _ _ sb (fun w s=>s)
theorem build_Cover_walk (a0_g:Grd) (a1_l:List Bld) (w:World) {v0 v1:Value} (h0:R (hpOf w) a0_g.tiles [v0]) (h1:R (hpOf w) a1_l [v1]) {r:List Bool} (H:build_Cover a0_g a1_l = some r):Calls Tryz.prog 244 #[.agg #[.int .i64 a0_g.w,.int .i64 a0_g.h,v0],v1] w fun e w'=>∃ q1:(Option Nat × Nat),e = .returned (rowV q1 r.length)∧Sat w [row nilH 4 (rowV q1 r.length) r] w':=by
 have hm0:=R_max h0
 obtain ⟨p0,c0,rfl⟩:=R_form h0
 have hm1:=R_max h1
 obtain ⟨p1,c1,rfl⟩:=R_form h1
 unfold build_Cover at H
 refine te Tryz.func244 (Sat.start w) ?_
 refine T.seq fun _ k1=>T.region (RS.solid (Sd.box (cs:=[_,_,_]) rfl rfl) rfl rfl fun b1=>rA rfl (RS.nil (k1 _ _ ?_)))
 refine T.seq fun _ k2=>T.region (au 3 ?_)
 obtain ⟨g3,H⟩:=gdE H
 refine RS.solid (Sd.make (α:=Bool) (B:=nilH) false sl41.h zr4 rfl (by decide) rfl rfl (by omega) (by omega) (by omega)) rfl rfl fun b2=>rA rfl (RS.nil (k2 _ _ (kq [1,2,5] ?_)))
 refine T.seq fun _ k3=>au 4 ?_
 refine T.joinE (σ:=List Bool) (γ:=Unit) H (fun s=>s) [(5,_)] sb (fun v5 _=>[]) (fun v5 _=>Sat w [blk b1 [.int .i64 a0_g.w,.int .i64 a0_g.h,.slice p0 a0_g.tiles.length c0] 24,row nilH 4 (rowV (some b2,(a0_g.tiles.length:Int).toNat) ((a0_g.tiles.length:Int).toNat)) v5]) ?_ ?_
 ·rintro v5 ⟨⟩ H
  try dsimp only [Ex.then] at H
  refine Cont.kq [5] ?_
  refine id (k3 _ _ ?_)
  refine au 3 ?_
  obtain rfl:=sj H
  refine T.rt (Cont.ret1 rfl rfl fun w' s=>?_)
  exact ⟨(some b2,(a0_g.tiles.length:Int).toNat),(by simp only [(s.row_fits (q:=(some b2,(a0_g.tiles.length:Int).toNat)) (m:=(a0_g.tiles.length:Int).toNat) (k:=1) rfl).1]; try rfl),(Sat.relen (q:=(some b2,(a0_g.tiles.length:Int).toNat)) (m:=(a0_g.tiles.length:Int).toNat) 1 s rfl).pick [1] (by decide) rfl⟩
 intro z4 hz4 HX4 hJ4
 refine T.block ?_
 refine T.loopA (γ:=Unit) hz4 [(2,_),(5,_),(14,_),(15,_)] (fun (v6,l7) _=>[(16,.int .i64 v6)]) (fun (v6,l7) _=>Sat w [blk b1 [.int .i64 a0_g.w,.int .i64 a0_g.h,.slice p0 a0_g.tiles.length c0] 24,row nilH 4 (rowV (some b2,(a0_g.tiles.length:Int).toNat) ((a0_g.tiles.length:Int).toNat)) l7]) () sb sb (fun w s=>s) ?_
 rintro ⟨v6,l7⟩ ⟨⟩ y8 H hd4 KL4 hL4
 try dsimp only [Ex.then] at H
 refine kq [16,2,5,14,15] ?_
 refine au 2 ?_
 refine T.seq fun _ k7=>?_
 refine T.cP H rfl (fun hc9 H=>?_) (fun hc9 H=>?_)
 ·refine T.skip (k7 _ _ ?_)
  refine T.seq fun _ k8=>T.block (T.seq fun _ k9=>T.region ?_)
  obtain ⟨g10,H⟩:=gdE H
  obtain ⟨bl11,ol12,rfl⟩:=R_ptr h1 (ne_of_pos (pos_of g10))
  refine rp (Pu.indexSl sl49.h rfl rfl g10) (rq (Qt.ldW (α:=Bld) (cs:=[_,_,_,_,_,_]) (Rd.base h1) ty135.h rfl rfl g10 rfl (by rintro _ _ rfl; rfl)) (RS.solid (Sd.alloc zr135 rfl) rfl rfl fun b13=>RS.solid (Sd.stB (cs':=[_,_,_,_,_,_]) 2 ty135.h rfl rfl rfl rfl rfl rfl rfl rfl) rfl rfl fun _=>RS.nil (k9 _ _ (kq [2,5,7,14,15,16] ?_))))
  refine T.seq fun _ k10=>T.region (au 2 ?_)
  obtain ⟨x14,hx14,H⟩:=bindE H
  refine RS.solid (Sd.callN (vs:=[_,_]) ent168 rfl (fun w s=>build_Tiles_walk a0_g (gi a1_l v6) w ((Rd.base h0) w s) hx14)) rfl rfl fun q15=>au 2 ?_
  refine RS.nil (k10 _ _ (kq [2,5,14,15,16,22,23,24] ?_))
  refine T.joinE (σ:=List Bool) (γ:=Unit) H (fun s=>s) [(2,_),(5,_),(14,_),(15,_),(16,_)] sb (fun v17 _=>[]) (fun v17 _=>Sat w [blk b1 [.int .i64 a0_g.w,.int .i64 a0_g.h,.slice p0 a0_g.tiles.length c0] 24,row nilH 4 (rowV (some b2,(a0_g.tiles.length:Int).toNat) ((a0_g.tiles.length:Int).toNat)) v17,blk b13 [.int .i64 ((gi a1_l v6).id),.int .i64 ((gi a1_l v6).owner),.int .i64 ((gi a1_l v6).x),.int .i64 ((gi a1_l v6).y),.int .i64 ((gi a1_l v6).w),.int .i64 ((gi a1_l v6).h)] 135,row nilH 3 (rowV q15 x14.length) x14]) ?_ ?_
  ·rintro v17 ⟨⟩ H
   try dsimp only [Ex.then] at H
   refine Cont.kq [2,5,14,15,16] ?_
   refine id (k8 _ _ ?_)
   refine T.region ?_
   obtain ⟨g18,H⟩:=gdE H
   refine rp (Pu.addS rfl rfl g18) (rM rfl (RS.nil (hL4 _ _ ((v6 + 1),v17) () H sb sb (fun w s=>s.pc [0,1]))))
  intro z16 hz16 HX16 hJ16
  refine T.block ?_
  refine T.loopA (γ:=Unit) hz16 [(2,_),(5,_),(14,_),(15,_),(16,_),(22,_),(23,_)] (fun (v19,l20) _=>[(24,.int .i64 v19)]) (fun (v19,l20) _=>Sat w [blk b1 [.int .i64 a0_g.w,.int .i64 a0_g.h,.slice p0 a0_g.tiles.length c0] 24,row nilH 4 (rowV (some b2,(a0_g.tiles.length:Int).toNat) ((a0_g.tiles.length:Int).toNat)) l20,blk b13 [.int .i64 ((gi a1_l v6).id),.int .i64 ((gi a1_l v6).owner),.int .i64 ((gi a1_l v6).x),.int .i64 ((gi a1_l v6).y),.int .i64 ((gi a1_l v6).w),.int .i64 ((gi a1_l v6).h)] 135,row nilH 3 (rowV q15 x14.length) x14]) () sb sb (fun w s=>s) ?_
  rintro ⟨v19,l20⟩ ⟨⟩ y21 H hd16 KL16 hL16
  try dsimp only [Ex.then] at H
  refine kq [24,2,5,14,15,16,22,23] ?_
  refine au 2 ?_
  refine T.seq fun _ k12=>?_
  refine T.cP H rfl (fun hc22 H=>?_) (fun hc22 H=>?_)
  ·refine T.skip (k12 _ _ ?_)
   refine T.seq fun _ k13=>T.block (T.seq fun _ k14=>T.region ?_)
   obtain ⟨g23,H⟩:=gdE H
   refine RS.know (p:=∃ g cap,q15 = (some g,cap)) (fun w s=>(s.row_some (k:=3) rfl (pos_of g23))) ?_
   rintro ⟨gg24,cc25,rfl⟩
   refine rp (Pu.indexSl sl35.h rfl rfl g23) (rq (Qt.ld0 (α:=Int) (Rd.ofRowN 3 rfl) ty3.h rfl rfl g23 (by rintro _ _ rfl; rfl)) (rA rfl (RS.nil (k14 _ _ (kq [2,5,9,14,15,16,22,23,24] ?_)))))
   refine T.region (au 2 ?_)
   obtain ⟨g26,H⟩:=gdE H
   refine RS.know (fun w s=>(s.row_fits (q:=(some b2,(a0_g.tiles.length:Int).toNat)) (m:=(a0_g.tiles.length:Int).toNat) (k:=1) rfl)) fun hf27=>?_
   refine rp (Pu.indexSl sl41.h rfl rfl g26) (RS.solid (Sd.st0 (α:=Bool) 1 true rfl ty4.h rfl rfl rfl (idx_of hf27.1 g26) rfl rfl (by decide) rfl (by rintro _ _ rfl; rfl)) rfl rfl fun _=>RS.nil (k13 _ _ (kq [2,5,14,15,16,22,23,24] ?_)))
   refine T.region ?_
   obtain ⟨g28,H⟩:=gdE H
   refine rp (Pu.addS rfl rfl g28) (rM rfl (RS.nil (hL16 _ _ ((v19 + 1),(si l20 (gi x14 v19) true)) () H sb sb (fun w s=>s))))
  obtain rfl:=hd16 _ H
  refine T.xt (hJ16 _ _ l20 () HX16 sb trivial (fun w s=>s))
 obtain rfl:=hd4 _ H
 refine T.xt (hJ4 _ _ l7 () HX4 sb trivial (fun w s=>s))
end Go.Proofs.YtmngdgclldkcfaaGreat
set_option linter.unusedVariables false
set_option linter.unusedSimpArgs false
set_option maxRecDepth 20000
set_option maxHeartbeats 4000000
namespace Go.Proofs.YtmngdgclldkcfaaGreat
open Go.Vg
open Enc (R)
theorem usl41:Tryz.prog.underlying 41 = some (.slice 4):=by kernel_rfl
structure Itm where
 key:Int
 val:Int
 deriving Inhabited,DecidableEq
instance:Enc Itm where
 sz:=2
 R h x cs:=cs = [.int .i64 x.key,.int .i64 x.val]
 len:=fun e=>by rw [e]; rfl
 one:=fun e u hu=>by
  rw [e] at hu; simp only [List.mem_cons,List.not_mem_nil,or_false] at hu
  rcases hu with rfl | rfl
  ·rfl
  ·rfl
 mono:=fun hl e=>e
instance:Flat Itm:=⟨fun h=>h⟩
structure Que where
 l:List Itm
 deriving Inhabited
def Que_ch (g:Nat) (x:Que):Ch:=exch fun q:(Option Nat × Nat)=>stars (blk g [rowV q x.l.length] 443 :: [row nilH 445 (rowV q x.l.length) x.l])
theorem Que_open {w0 w:World} {G:List Ch} {g:Nat} {x:Que} (k:Nat) (hk:G[k]? = some (Que_ch g x)) (h:Sat w0 G w):∃ q:(Option Nat × Nat),Sat w0 (G.set k (blk g [rowV q x.l.length] 443) ++ [row nilH 445 (rowV q x.l.length) x.l]) w:=Sat.openAt (A:=fun q:(Option Nat × Nat)=>blk g [rowV q x.l.length] 443) (L:=fun q:(Option Nat × Nat)=>[row nilH 445 (rowV q x.l.length) x.l]) k hk h
theorem Que_shut {w0 w:World} {R:List Ch} {g:Nat} {x:Que} (q:(Option Nat × Nat)) (h:Sat w0 (R ++ [blk g [rowV q x.l.length] 443,row nilH 445 (rowV q x.l.length) x.l]) w):Sat w0 (Que_ch g x :: R) w:=Sat.toEx (C:=fun q:(Option Nat × Nat)=>stars (blk g [rowV q x.l.length] 443 :: [row nilH 445 (rowV q x.l.length) x.l])) q (Sat.toStars (blk g [rowV q x.l.length] 443 :: [row nilH 445 (rowV q x.l.length) x.l]) (G:=R) h)
structure Net where
 g:Grd
 cls:Int
 free:List Bool
 deriving Inhabited
end Go.Proofs.YtmngdgclldkcfaaGreat
set_option linter.unusedVariables false
set_option linter.unusedSimpArgs false
set_option maxRecDepth 20000
set_option maxHeartbeats 4000000
namespace Go.Proofs.YtmngdgclldkcfaaGreat
open Go.Vg
open Enc (R)
theorem ul112:Tryz.prog.underlying 112 = some (.int .u64):=by kernel_rfl
theorem ul2:Tryz.prog.underlying 2 = some (.int .i64):=by kernel_rfl
structure Vec where
 x:Int
 y:Int
 deriving Inhabited,DecidableEq
theorem eq_Vec (x y:Vec):(x.x == y.x && (x.y == y.y && (true))) = decide (x = y):=by
 obtain ⟨a0,a1⟩:=x
 obtain ⟨b0,b1⟩:=y
 simp only [Vec.mk.injEq,Bool.and_true,beq_iff_eq,Bool.decide_and]
 simp only [Bool.beq_eq_decide_eq]
structure Knd where
 radius:Int
 speed:Int
 cls:Int
 size:Int
 room:Int
 deriving Inhabited,DecidableEq
structure Unt where
 id:Int
 owner:Int
 kind:Int
 pos:Vec
 goal:Int
 next:Int
 stuck:Int
 inn:Int
 state:Int
 deriving Inhabited,DecidableEq
instance:Enc Unt where
 sz:=10
 R h x cs:=cs = [.int .i64 x.id,.int .i64 x.owner,.int .i64 x.kind,.int .i64 x.pos.x,.int .i64 x.pos.y,.int .i64 x.goal,.int .i64 x.next,.int .i64 x.stuck,.int .i64 x.inn,.int .i64 x.state]
 len:=fun e=>by rw [e]; rfl
 one:=fun e u hu=>by
  rw [e] at hu; simp only [List.mem_cons,List.not_mem_nil,or_false] at hu
  rcases hu with rfl | rfl | rfl | rfl | rfl | rfl | rfl | rfl | rfl | rfl
  ·rfl
  ·rfl
  ·rfl
  ·rfl
  ·rfl
  ·rfl
  ·rfl
  ·rfl
  ·rfl
  ·rfl
 mono:=fun hl e=>e
instance:Flat Unt:=⟨fun h=>h⟩
structure Wid where
 hi:Int
 lo:Int
 deriving DecidableEq,Inhabited
end Go.Proofs.YtmngdgclldkcfaaGreat
set_option linter.unusedSimpArgs false
set_option linter.unusedVariables false
namespace Go.Vg
open Enc (R)

structure Raw3 where
  a:Value
  b:Value
  c:Value
  ok:(a.oneCell' && (b.oneCell' && c.oneCell')) = true
def Raw3.cells (x:Raw3):List Value:=[x.a,x.b,x.c]
section
variable {α:Type} [Enc α] [Deep α]
def DZ:Hp→List (α × Raw3)→Prop
  | _,[]=>True
  | h,z :: zs=>∃ p q,Deep.D p z.1 z.2.cells∧DZ q zs∧(∀ b,p b = none ∨ q b = none)∧Hp.le p h∧Hp.le q h
theorem DZ.mono {h h':Hp} (hl:h.le h'):∀ {zs:List (α × Raw3)},DZ h zs→DZ h' zs
 | [],_=>trivial
 | _ :: _,⟨p,q,a,b,d,l1,l2⟩=>⟨p,q,a,b,d,Hp.le_trans l1 hl,Hp.le_trans l2 hl⟩
end

section
variable {w0 w:World} {G:List Ch}
theorem Sat.unstarAt {A B:Ch} (k:Nat) (s:Sat w0 G w) (hk:G[k]? = some (star A B)):Sat w0 (G.set k A ++ [B]) w:=by
 obtain ⟨e,own,h2⟩:=s
 have hkl:=(List.getElem?_eq_some_iff.1 hk).1
 obtain ⟨r,⟨p,q,hp,hq,hd,h3,h4⟩,hbr⟩:=h2 k _ hk
 classical
 refine ⟨e,fun b=>if own b = k∧p b = none then G.length else if own b = G.length then G.length + 1 else own b,fun j E hj=>?_⟩
 rw [List.getElem?_append] at hj
 split at hj
 ·rename_i hjl
  simp only [List.length_set] at hjl
  by_cases hjk:k = j
  ·subst hjk
   rw [List.getElem?_set_self hkl] at hj
   have:=(Option.some.inj hj).symm; subst this
   refine ⟨p,hp,fun b o hbo=>?_⟩
   obtain ⟨a1,a2,a3⟩:=hbr b o (h3 b o hbo)
   exact ⟨a1,by dsimp only; rw [if_neg (by rw [hbo]; simp),if_neg (by omega)]; exact a2,a3⟩
  ·rw [List.getElem?_set_ne hjk] at hj
   obtain ⟨u,hu,hb⟩:=h2 j E hj
   refine ⟨u,hu,fun b o hbo=>?_⟩
   obtain ⟨a1,a2,a3⟩:=hb b o hbo
   exact ⟨a1,by dsimp only; rw [if_neg (by intro h; omega),if_neg (by omega)]; exact a2,a3⟩
 ·rename_i hjl
  simp only [List.length_set] at hjl hj
  have hj0:j = G.length:=by
   rcases Nat.lt_or_ge (j - G.length) 1 with h | h
   ·omega
   ·rw [List.getElem?_eq_none (by simpa using h)] at hj; cases hj
  subst hj0
  simp at hj; subst hj
  refine ⟨q,hq,fun b o hbo=>?_⟩
  obtain ⟨a1,a2,a3⟩:=hbr b o (h4 b o hbo)
  have hpn:p b = none:=(hd b).resolve_right (by rw [hbo]; simp)
  exact ⟨a1,by dsimp only; rw [if_pos ⟨a2,hpn⟩],a3⟩
variable {α:Type} [Enc α] [Deep α]
end
def osl {α:Type} [Enc α] (e:TypeId) (v:Value) (xs:List α):Ch:=fun h =>
  ∃ p cap,v = .slice p xs.length cap∧xs.length ≤ cap∧cap ≤ maxLen∧(xs = [] ∨ ∃ b o c cs,p = some ⟨b,o,none⟩∧h b = some (.cells c e (0,0))∧o + xs.length * Enc.sz α ≤ c.size∧RF nilH xs cs∧∀ j v,cs[j]? = some v→c[o + j]? = some v)
section
variable {w0 w:World} {G:List Ch} {α:Type} [Enc α]
theorem osl_R {e:TypeId} {v:Value} {xs:List α} {h:Hp} (ho:osl e v xs h):R h xs [v]:=by
 obtain ⟨p,cap,rfl,h1,h2,h3⟩:=ho
 refine ⟨p,cap,rfl,h1,h2,?_⟩
 rcases h3 with h3 | ⟨b,o,c,cs,h4,h5,_,h6,h7⟩
 ·exact .inl h3
 ·exact .inr ⟨b,o,cs,h4,h6.mono (nilH_le _),c,e,(0,0),h5,h7⟩
theorem Rd.ofOsl (k:Nat) {e:TypeId} {v:Value} {xs:List α} (hk:G[k]? = some (osl e v xs)):Rd (Sat w0 G) xs [v]:=fun w s=>by
 obtain ⟨p,hp,hl,_⟩:=s.get k hk
 exact Enc.mono hl (osl_R hp)
theorem Sat.osl_form {k:Nat} {e:TypeId} {v:Value} {xs:List α} (s:Sat w0 G w) (hk:G[k]? = some (osl e v xs)):∃ p c,v = .slice p xs.length c:=by
 obtain ⟨p,⟨q,cap,hq,_⟩,_⟩:=s.get k hk
 exact ⟨q,cap,hq⟩
theorem Sat.rowOsl [Flat α] {q:Option Nat × Nat} {m:Nat} {e:TypeId} {xs:List α} (k:Nat) (s:Sat w0 G w) (hk:G[k]? = some (row nilH e (rowV q m) xs)):Sat w0 (G.set k (osl e (rowV q m) xs)) w :=
 s.weaken k hk _ fun p hp=>by
  rcases hp with ⟨h1,rfl⟩ | ⟨g,cap,cs,sp,h1,h2,h3,h4,h5,h6⟩
  ·exact ⟨none,0,h1,by simp,by simp,.inl rfl⟩
  ·refine ⟨_,cap,h1,h3,h4,.inr ⟨g,0,_,cs,rfl,h2,?_,h6.any,fun j v hj=>?_⟩⟩
   ·rw [List.size_toArray,h5,Nat.zero_add]; exact Nat.mul_le_mul_right _ h3
   ·rw [Nat.zero_add,List.getElem?_toArray,List.getElem?_append_left (List.getElem?_eq_some_iff.1 hj).1]; exact hj
end
section
variable {P:Program} {n:Nat} {fr:Fr} {dst:Option Tmp} {ty:TypeId} {pos:String} {aft:Array Edge} {g:Option (Nat × Bool)}
end
end Go.Vg
