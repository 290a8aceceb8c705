/-
  Walks of what the peers call: inputs.
-/
import Derived.Test.YtmngdgclldkcfaaGreatRows
import Derived.Test.YtmngdgclldkcfaaGreatJ6
import Derived.Test.YtmngdgclldkcfaaGreatJ7
import Derived.Test.YtmngdgclldkcfaaGreatJ14
import Derived.Test.YtmngdgclldkcfaaGreatJ13
set_option linter.unusedVariables false
set_option linter.unusedSimpArgs false
set_option maxRecDepth 20000
set_option maxHeartbeats 4000000
namespace Go.Proofs.YtmngdgclldkcfaaGreat
open Go.Vg
open Enc (R)
theorem ent104:Ent Tryz.prog 104:=en Tryz.func104
theorem ent151:Ent Tryz.prog 151:=en Tryz.func151
theorem ent152:Ent Tryz.prog 152:=en Tryz.func152
theorem ent154:Ent Tryz.prog 154:=en Tryz.func154
theorem ent157:Ent Tryz.prog 157:=en Tryz.func157
theorem ent183:Ent Tryz.prog 183:=en Tryz.func183
theorem ent221:Ent Tryz.prog 221:=en Tryz.func221
theorem ent223:Ent Tryz.prog 223:=en Tryz.func223
theorem ent225:Ent Tryz.prog 225:=en Tryz.func225
theorem ent226:Ent Tryz.prog 226:=en Tryz.func226
theorem ent76:Ent Tryz.prog 76:=en Tryz.func76
instance fd210_0:FdC Tryz.prog 210 0 0:={}
instance fd210_1:FdC Tryz.prog 210 1 1:={}
instance fd210_2:FdC Tryz.prog 210 2 2:={}
instance sl86:SlC Tryz.prog 86 (210,3,40):={}
instance ty210:TyC Tryz.prog 210 (3,true):={}
instance ty29:TyC Tryz.prog 29 (1,false):={}
theorem zr210:zeroOf Tryz.prog 210 = some (.agg #[.int .i64 0,.int .i64 0,.slice none 0 0]):=by kernel_rfl
theorem cmp_Or_walk (a0_vals:List Int) (w:World) {v0:Value} (h0:R (hpOf w) a0_vals [v0]) {r:Int} (H:cmp_Or a0_vals = some r):Calls Tryz.prog 221 #[v0] w fun e w'=>e = .returned (.int .i64 r)∧Ext w w':=by
 have hm0:=R_max h0
 obtain ⟨p0,c0,rfl⟩:=R_form h0
 unfold cmp_Or at H
 refine te Tryz.func221 (Sat.start w) ?_
 refine au 4 ?_
 refine T.seq fun _ k3=>au 4 ?_
 refine T.joinE (σ:=Unit) (γ:=Unit) H Ex.go [(3,_)] sb (fun _ _=>[]) (fun _ _=>Sat w []) ?_ ?_
 ·rintro ⟨⟩ ⟨⟩ H
  try dsimp only [Ex.then] at H
  refine Cont.kq [3] ?_
  refine id (k3 _ _ ?_)
  refine au 3 ?_
  obtain rfl:=sj H
  refine T.rt (Cont.ret1 rfl rfl fun w' s=>?_)
  exact ⟨rfl,s.ext⟩
 intro z1 hz1 HX1 hJ1
 refine T.block ?_
 refine T.loopA (γ:=Unit) hz1 [(3,_),(6,_),(7,_)] (fun v2 _=>[(8,.int .i64 v2)]) (fun v2 _=>Sat w []) () sb sb (fun w s=>s) ?_
 rintro v2 ⟨⟩ y3 H hd1 KL1 hL1
 try dsimp only [Ex.then] at H
 refine kq [8,3,6,7] ?_
 refine au 2 ?_
 refine T.seq fun _ k7=>?_
 refine T.cP H rfl (fun hc4 H=>?_) (fun hc4 H=>?_)
 ·refine T.skip (k7 _ _ ?_)
  refine T.seq fun _ k8=>T.block (T.seq fun _ k9=>T.region ?_)
  obtain ⟨g5,H⟩:=gdE H
  obtain ⟨bl6,ol7,rfl⟩:=R_ptr h0 (ne_of_pos (pos_of g5))
  refine rp (Pu.indexSl sl35.h rfl rfl g5) (rq (Qt.ld0 (α:=Int) (Rd.base h0) ty3.h rfl rfl g5 (by rintro _ _ rfl; rfl)) (rA rfl (RS.nil (k9 _ _ (kq [3,5,6,7,8] ?_)))))
  refine au 4 ?_
  refine T.cP H rfl (fun hc8 H=>?_) (fun hc8 H=>?_)
  ·refine kq [5] ?_
   refine au 3 ?_
   obtain rfl:=hd1 _ H
   have H:=HX1
   obtain rfl:=sj H
   refine T.rt (Cont.ret1 rfl rfl fun w' s=>?_)
   exact ⟨rfl,s.ext⟩
  refine T.skip (k8 _ _ (kq [3,6,7,8] ?_))
  refine T.region ?_
  obtain ⟨g9,H⟩:=gdE H
  refine rp (Pu.addS rfl rfl g9) (rM rfl (RS.nil (hL1 _ _ (v2 + 1) () H sb sb (fun w s=>s))))
 obtain rfl:=hd1 _ H
 refine T.xt (hJ1 _ _ () () HX1 sb trivial (fun w s=>s))
theorem turns_less_walk (a0_a:Inp) (a1_b:Inp) (w:World) {v0 v1:Value} {r:Int} (H:turns_less a0_a a1_b = some r):Calls Tryz.prog 152 #[.agg #[.int .i64 a0_a.turn,.int .i64 a0_a.player,v0],.agg #[.int .i64 a1_b.turn,.int .i64 a1_b.player,v1]] w fun e w'=>e = .returned (.int .i64 r)∧Ext w w':=by
 unfold turns_less at H
 refine te Tryz.func152 (Sat.start w) ?_
 refine T.seq fun _ k1=>T.region (RS.solid (Sd.box (cs:=[_,_,_]) rfl rfl) rfl rfl fun b1=>RS.solid (Sd.box (cs:=[_,_,_]) rfl rfl) rfl rfl fun b2=>rA rfl (RS.nil (k1 _ _ (kq [2,3] ?_))))
 refine T.seq fun _ k2=>dr mixed [0,1,0,1,1,0,1,0,1,1,3,1,0] ?_
 refine au 4 ?_
 obtain ⟨x3,hx3,H⟩:=bindE H
 refine dq rfl (Qt.call (vs:=[_,_]) ent183 rfl fun w s=>cmp_Compare_walk a0_a.turn a1_b.turn w  hx3) (au 4 ?_)
 obtain ⟨x4,hx4,H⟩:=bindE H
 refine dq rfl (Qt.call (vs:=[_,_]) ent183 rfl fun w s=>cmp_Compare_walk a0_a.player a1_b.player w  hx4) (RD.solid rfl (.inl rfl) rfl rfl (Sd.litS (cs:=[_,_]) sl35.h zr3 rfl rfl rfl rfl rfl) (fun _=>ClE.sat _ _) (fun _ _ _=>trivial) (fun _ _ _ s=>s.drop1) fun b5=>?_)
 obtain ⟨x6,hx6,H⟩:=bindE H
 refine dq rfl (Qt.call (vs:=[_]) ent221 rfl fun w s=>cmp_Or_walk [x3,x4] w ((Rd.ofLit (α:=Int) (n:=2) (xs:=[x3,x4]) 2 rfl (by decide) rfl ⟨[_],_,rfl,rfl,⟨[_],_,rfl,rfl,rfl⟩⟩) w s) hx6) (dp rfl (Pu.assign rfl) (RD.nil (k2 _ _ (kq [4] ?_))))
 obtain rfl:=sj H
 refine T.rt (Cont.ret1 rfl rfl fun w' s=>?_)
 exact ⟨rfl,s.ext⟩
theorem turns_Said_walk (a0_player:Int) (a1_l:List Cmd) (w:World) {v0:Value} (h0:R (hpOf w) a1_l [v0]) {r:Bool} (H:turns_Said a0_player a1_l = some r):Calls Tryz.prog 154 #[.int .i64 a0_player,v0] w fun e w'=>e = .returned (.bool r)∧Ext w w':=by
 have hm0:=R_max h0
 obtain ⟨p0,c0,rfl⟩:=R_form h0
 unfold turns_Said at H
 refine te Tryz.func154 (Sat.start w) ?_
 refine au 2 ?_
 refine T.seq fun _ k2=>au 4 ?_
 refine T.joinE (σ:=Unit) (γ:=Unit) H Ex.go [(1,_)] sb (fun _ _=>[]) (fun _ _=>Sat w []) ?_ ?_
 ·rintro ⟨⟩ ⟨⟩ H
  try dsimp only [Ex.then] at H
  refine Cont.kq [1] ?_
  refine id (k2 _ _ ?_)
  refine T.seq fun _ k4=>T.region (au 4 ?_)
  refine RS.nil (k4 _ _ (kq [4] ?_))
  obtain rfl:=sj H
  refine T.rt (Cont.ret1 rfl rfl fun w' s=>?_)
  exact ⟨rfl,s.ext⟩
 intro z1 hz1 HX1 hJ1
 refine T.block ?_
 refine T.loopA (γ:=Unit) hz1 [(0,_),(1,_),(7,_),(8,_)] (fun v2 _=>[(9,.int .i64 v2)]) (fun v2 _=>Sat w []) () sb sb (fun w s=>s) ?_
 rintro v2 ⟨⟩ y3 H hd1 KL1 hL1
 try dsimp only [Ex.then] at H
 refine kq [9,0,1,7,8] ?_
 refine au 2 ?_
 refine T.seq fun _ k6=>?_
 refine T.cP H rfl (fun hc4 H=>?_) (fun hc4 H=>?_)
 ·refine T.skip (k6 _ _ ?_)
  refine T.seq fun _ k7=>T.block (T.seq fun _ k8=>T.region (rM rfl ?_))
  obtain ⟨g5,H⟩:=gdE H
  obtain ⟨bl6,ol7,rfl⟩:=R_ptr h0 (ne_of_pos (pos_of g5))
  refine rp (Pu.indexSl sl29.h rfl rfl g5) ?_
  obtain ⟨c8,hc9,ha10⟩:=R_el (α:=Cmd) h0 g5
  obtain ⟨u11,rfl,hu11⟩:=hc9
  obtain ⟨p12,cc13,rfl⟩:=R_form hu11
  refine rq (Qt.ldZ (cs:=[_,_,_,_,_,_,_,_,_,_]) ty37.h rfl ha10 Held.base rfl) (RS.solid (Sd.alloc zr37 rfl) rfl rfl fun b14=>au 2 ?_)
  refine RS.nil (k8 _ _ (kq [0,1,5,6,7,8,9] ?_))
  refine T.seq fun _ k9=>dr mixed [1,1,0,0,0,1,0,0,0,0,0,0,0,0,0,0,0,0,1,0,1,0,0,0] ?_
  refine dq rfl (Qt.ldBA (us:=[_,_,_,_,_,_,_,_,_,_]) 0 ty37.h rfl rfl rfl rfl) ?_
  obtain ⟨x15,hx15,H⟩:=bindE H
  refine dq rfl (Qt.call (vs:=[_]) ent76 rfl fun w s=>command_May_walk (gi a1_l v2) w ((Rd.base hu11) w s) hx15) (au 2 ?_)
  refine RD.joinV 5 22 (.bool (decide (((!x15) = true) ∨ (¬ (gi a1_l v2).player = a0_player)))) [(0,_),(1,_),(5,_),(6,_),(7,_),(8,_),(9,_)] sb ?_ ?_
  ·refine dp rfl (Pu.move rfl) ?_
   obtain ⟨g20,H⟩:=gdE H
   obtain ⟨g21,H⟩:=gdE H
   refine RD.joinV 14 37 (.bool (decide ((((!x15) = true) ∨ (¬ (gi a1_l v2).player = a0_player)) ∨ ((0 < v2)∧((gi a1_l v2).seq ≤ (gi a1_l (v2 - 1)).seq))))) [(0,_),(1,_),(7,_),(8,_),(9,_)] sb ?_ ?_
   ·refine RD.nil (k9 _ _ ?_)
    refine T.cP H rfl (fun hc22 H=>?_) (fun hc22 H=>?_)
    ·refine kq [] ?_
     refine au 2 ?_
     obtain rfl:=hd1 _ H
     have H:=HX1
     obtain rfl:=sj H
     refine T.rt (Cont.ret1 rfl rfl fun w' s=>?_)
     exact ⟨rfl,s.ext⟩
    refine T.skip (k7 _ _ ?_)
    refine T.region ?_
    obtain ⟨g23,H⟩:=gdE H
    refine rp (Pu.addS rfl rfl g23) (rM rfl (RS.nil (hL1 _ _ (v2 + 1) () H sb sb (fun w s=>s.pc []))))
   intro hJ19
   refine RD.splitP 23 rfl (fun hc18=>?_) (fun hc18=>?_)
   ·refine au 14 ?_
    exact hJ19 _ ⟨dOrT hc18,rfl,rfl,rfl,rfl,rfl,trivial⟩
   refine au 3 ?_
   refine RD.joinV 10 36 (.bool (decide ((0 < v2)∧((gi a1_l v2).seq ≤ (gi a1_l (v2 - 1)).seq)))) [(0,_),(1,_),(5,_),(6,_),(7,_),(8,_),(9,_),(22,_),(23,_),(24,_),(25,_)] sb ?_ ?_
   ·refine dp rfl (Pu.pickF rfl rfl) ?_
    exact hJ19 _ ⟨dOrF hc18,rfl,rfl,rfl,rfl,rfl,trivial⟩
   intro hJ25
   refine RD.splitP 26 rfl (fun hc24=>?_) (fun hc24=>?_)
   ·refine au 2 ?_
    refine dp rfl (Pu.subS rfl rfl ((g20 hc18) hc24)) (dp rfl (Pu.indexSl sl29.h rfl rfl ((g21 hc18) hc24)) (dp rfl (Pu.fieldAddr fd37_1.h rfl) (dq rfl (Qt.ldF (α:=Cmd) (Rd.base h0) ty3.h rfl rfl ((g21 hc18) hc24) (by rintro _ _ ⟨_,rfl,_⟩; rfl)) (au 4 ?_))))
    exact hJ25 _ ⟨dAndT hc24,rfl,rfl,rfl,rfl,rfl,rfl,rfl,rfl,rfl,rfl,rfl,trivial⟩
   refine au 10 ?_
   exact hJ25 _ ⟨dAndF hc24,rfl,rfl,rfl,rfl,rfl,rfl,rfl,rfl,rfl,rfl,rfl,trivial⟩
  intro hJ17
  refine RD.split 17 rfl (fun hc16=>?_) (fun hc16=>?_)
  ·refine au 5 ?_
   exact hJ17 _ ⟨dOrT hc16,rfl,rfl,rfl,rfl,rfl,rfl,rfl,trivial⟩
  refine au 5 ?_
  exact hJ17 _ ⟨dOrF (bne_of hc16),rfl,rfl,rfl,rfl,rfl,rfl,rfl,trivial⟩
 obtain rfl:=hd1 _ H
 refine T.xt (hJ1 _ _ () () HX1 sb trivial (fun w s=>s))
theorem turns_May_walk (a0_i:Inp) (w:World) {v0:Value} (h0:R (hpOf w) a0_i.commands [v0]) {r:Bool} (H:turns_May a0_i = some r):Calls Tryz.prog 151 #[.agg #[.int .i64 a0_i.turn,.int .i64 a0_i.player,v0]] w fun e w'=>e = .returned (.bool r)∧Ext w w':=by
 have hm0:=R_max h0
 obtain ⟨p0,c0,rfl⟩:=R_form h0
 unfold turns_May at H
 refine te Tryz.func151 (Sat.start w) ?_
 refine T.seq fun _ k1=>T.region (RS.solid (Sd.box (cs:=[_,_,_]) rfl rfl) rfl rfl fun b1=>rA rfl (RS.nil (k1 _ _ ?_)))
 refine T.seq fun _ k2=>T.region (au 4 ?_)
 refine RS.joinV 4 10 (.bool (decide ((0 ≤ a0_i.turn)∧(a0_i.turn ≤ 1099511627776)))) [(1,_),(2,_)] sb ?_ ?_
 ·refine rM rfl ?_
  refine RS.joinV 4 15 (.bool (decide (((0 ≤ a0_i.turn)∧(a0_i.turn ≤ 1099511627776))∧(1 ≤ a0_i.player)))) [(1,_),(2,_)] sb ?_ ?_
  ·refine rM rfl ?_
   refine RS.joinV 4 20 (.bool (decide ((((0 ≤ a0_i.turn)∧(a0_i.turn ≤ 1099511627776))∧(1 ≤ a0_i.player))∧(a0_i.player ≤ 8)))) [(1,_),(2,_)] sb ?_ ?_
   ·refine rM rfl ?_
    refine RS.joinB H 6 27 (fun b10=>.bool b10) [(2,_)] sb ?_ ?_
    ·intro b10 H
     refine rA rfl (RS.nil (k2 _ _ ?_))
     obtain rfl:=sj H
     refine T.rt (Cont.ret1 rfl rfl fun w' s=>?_)
     exact ⟨rfl,s.ext⟩
    intro z11 H hJ9
    refine RS.splitP 21 rfl (fun hc8=>?_) (fun hc8=>?_)
    ·have H:=ifT hc8 H
     refine au 4 ?_
     obtain ⟨x12,hx12,H⟩:=bindE H
     refine rq (Qt.call (vs:=[_,_]) ent154 rfl fun w s=>turns_Said_walk a0_i.player a0_i.commands w ((Rd.base h0) w s) hx12) (rp (Pu.pickT rfl rfl) ?_)
     obtain rfl:=sj H
     exact hJ9 _ _ sb (fun w s=>s)
    have H:=ifF hc8 H
    refine au 6 ?_
    obtain rfl:=sj H
    exact hJ9 _ _ sb (fun w s=>s)
   intro hJ7
   refine RS.splitP 16 rfl (fun hc6=>?_) (fun hc6=>?_)
   ·refine au 4 ?_
    exact hJ7 _ _ ⟨dAndT hc6,rfl,rfl,trivial⟩ (fun w s=>s)
   refine au 4 ?_
   exact hJ7 _ _ ⟨dAndF hc6,rfl,rfl,trivial⟩ (fun w s=>s)
  intro hJ5
  refine RS.splitP 11 rfl (fun hc4=>?_) (fun hc4=>?_)
  ·refine au 4 ?_
   exact hJ5 _ _ ⟨dAndT hc4,rfl,rfl,trivial⟩ (fun w s=>s)
  refine au 4 ?_
  exact hJ5 _ _ ⟨dAndF hc4,rfl,rfl,trivial⟩ (fun w s=>s)
 intro hJ3
 refine RS.splitP 6 rfl (fun hc2=>?_) (fun hc2=>?_)
 ·refine au 4 ?_
  exact hJ3 _ _ ⟨dAndT hc2,rfl,rfl,trivial⟩ (fun w s=>s)
 refine au 4 ?_
 exact hJ3 _ _ ⟨dAndF hc2,rfl,rfl,trivial⟩ (fun w s=>s)
theorem turns_Own_walk (a0_i:Inp) (w:World) {v0:Value} (h0:R (hpOf w) a0_i.commands [v0]) {r:Inp} (H:turns_Own a0_i = some r):Calls Tryz.prog 157 #[.agg #[.int .i64 a0_i.turn,.int .i64 a0_i.player,v0]] w fun e w'=>∃ q1:(Option Nat × Nat),e = .returned (.agg #[.int .i64 r.turn,.int .i64 r.player,rowV q1 r.commands.length])∧Sat w [drow 37 (rowV q1 r.commands.length) r.commands] w':=by
 have hm0:=R_max h0
 obtain ⟨p0,c0,rfl⟩:=R_form h0
 unfold turns_Own at H
 refine te Tryz.func157 (Sat.start w) ?_
 refine T.seq fun _ k1=>T.region (RS.solid (Sd.box (cs:=[_,_,_]) rfl rfl) rfl rfl fun b1=>RS.solid (Sd.alloc zr210 rfl) rfl rfl fun b2=>RS.nil (k1 _ _ ?_))
 refine T.seq fun _ k2=>T.region (au 2 ?_)
 obtain ⟨x3,hx3,H⟩:=bindE H
 refine RS.solid (Sd.callN (vs:=[_]) ent104 rfl (fun w s=>command_OwnAll_walk a0_i.commands w ((Rd.base h0) w s) hx3)) rfl rfl fun q4=>au 2 ?_
 refine RS.nil (k2 _ _ (kq [1,2] ?_))
 refine au 3 ?_
 obtain rfl:=sj H
 refine T.rt (Cont.retC 1 rfl ty210.h rfl rfl rfl fun w' s=>?_)
 exact ⟨q4,rfl,s.pc [2]⟩
theorem turns_OwnAll_walk (a0_l:List Inp) (w:World) {v0:Value} (h0:R (hpOf w) a0_l [v0]) {r:List Inp} (H:turns_OwnAll a0_l = some r):Calls Tryz.prog 223 #[v0] w fun e w'=>∃ q1:(Option Nat × Nat),e = .returned (rowV q1 r.length)∧Sat w [drow 210 (rowV q1 r.length) r] w':=by
 have hm0:=R_max h0
 obtain ⟨p0,c0,rfl⟩:=R_form h0
 unfold turns_OwnAll at H
 refine te Tryz.func223 (Sat.start w) ?_
 refine au 2 ?_
 refine T.seq fun _ k2=>au 4 ?_
 refine T.joinE (σ:=List Inp) (γ:=(Option Nat × Nat)) H (fun s=>s) [] trivial (fun v2 q3=>[(2,rowV q3 v2.length)]) (fun v2 q3=>Sat w [drow 210 (rowV q3 v2.length) v2]) ?_ ?_
 ·rintro v2 q3 H
  try dsimp only [Ex.then] at H
  refine Cont.kq [2] ?_
  refine id (k2 _ _ ?_)
  refine au 3 ?_
  obtain rfl:=sj H
  refine T.rt (Cont.ret1 rfl rfl fun w' s=>?_)
  exact ⟨q3,rfl,s.pc [0]⟩
 intro z1 hz1 HX1 hJ1
 refine T.block ?_
 refine T.loopA (γ:=(Option Nat × Nat)) hz1 [(5,_),(6,_)] (fun (l4,v6) q5=>[(2,rowV q5 l4.length),(7,.int .i64 v6)]) (fun (l4,v6) q5=>Sat w [drow 210 (rowV q5 l4.length) l4]) (none,0) sb sb (fun w s=>(s.nilRowG (α:=Inp) 210).pick [0] (by decide) rfl) ?_
 rintro ⟨l4,v6⟩ q5 y7 H hd1 KL1 hL1
 try dsimp only [Ex.then] at H
 refine kq [2,7,5,6] ?_
 refine au 2 ?_
 refine T.seq fun _ k6=>?_
 refine T.cP H rfl (fun hc8 H=>?_) (fun hc8 H=>?_)
 ·refine T.skip (k6 _ _ ?_)
  refine T.seq fun _ k7=>T.block (T.seq fun _ k8=>T.region ?_)
  obtain ⟨g9,H⟩:=gdE H
  obtain ⟨bl10,ol11,rfl⟩:=R_ptr h0 (ne_of_pos (pos_of g9))
  refine rp (Pu.indexSl sl86.h rfl rfl g9) ?_
  obtain ⟨c12,hc13,ha14⟩:=R_el (α:=Inp) h0 g9
  obtain ⟨u15,rfl,hu15⟩:=hc13
  obtain ⟨p16,cc17,rfl⟩:=R_form hu15
  refine rq (Qt.ldZ (cs:=[_,_,_]) ty210.h rfl ha14 Held.base rfl) (RS.solid (Sd.alloc zr210 rfl) rfl rfl fun b18=>RS.solid (Sd.stB (cs':=[_,_,_]) 1 ty210.h rfl rfl rfl rfl rfl rfl rfl rfl) rfl rfl fun _=>RS.nil (k8 _ _ (kq [2,4,5,6,7] ?_)))
  refine T.region (au 2 ?_)
  obtain ⟨x19,hx19,H⟩:=bindE H
  refine RS.solid (Sd.callN (vs:=[_]) ent157 rfl (fun w s=>turns_Own_walk (gi a0_l v6) w ((Rd.base hu15) w s) hx19)) rfl rfl fun q20=>RS.solid (Sd.litS (cs:=[_,_,_]) sl86.h zr210 rfl rfl rfl rfl rfl) rfl rfl fun b21=>?_
  obtain ⟨g23,H⟩:=gdE H
  refine RS.solid (Sd.pre (fun w s=>(Sat.starAt 2 4 (Sat.starAt 2 5 ((s.noStars).noStars) rfl rfl (by decide)) rfl rfl (by decide))) (Sd.appL (α:=Inp) 0 3 2 ([x19]:List Inp) rfl rfl rfl (DRF.cons' (α:=Inp) (x:=x19) (fun _ h=>⟨_,rfl,h⟩) DRF.nil') rfl sl86.h zr210 rfl rfl rfl rfl g23 (by decide))) rfl rfl fun q22=>rA rfl (RS.nil (k7 _ _ (kq [2,5,6,7] ?_)))
  refine T.region ?_
  obtain ⟨g24,H⟩:=gdE H
  refine rp (Pu.addS rfl rfl g24) (rM rfl (RS.nil (hL1 _ _ ((l4 ++ ([x19]:List Inp)),(v6 + 1)) q22 H sb sb (fun w s=>s.pc [0]))))
 obtain rfl:=hd1 _ H
 refine T.xt (hJ1 _ _ l4 q5 HX1 trivial sb (fun w s=>s))
theorem turns_Rising_walk (a0_l:List Inp) (w:World) {v0:Value} (h0:R (hpOf w) a0_l [v0]) {r:Bool} (H:turns_Rising a0_l = some r):Calls Tryz.prog 102 #[v0] w fun e w'=>e = .returned (.bool r)∧Ext w w':=by
 have hm0:=R_max h0
 obtain ⟨p0,c0,rfl⟩:=R_form h0
 unfold turns_Rising at H
 refine te Tryz.func102 (Sat.start w) ?_
 refine au 2 ?_
 refine T.seq fun _ k2=>au 4 ?_
 refine T.joinE (σ:=Unit) (γ:=Unit) H Ex.go [] trivial (fun _ _=>[]) (fun _ _=>Sat w []) ?_ ?_
 ·rintro ⟨⟩ ⟨⟩ H
  try dsimp only [Ex.then] at H
  refine Cont.kq [] ?_
  refine id (k2 _ _ ?_)
  refine au 2 ?_
  obtain rfl:=sj H
  refine T.rt (Cont.ret1 rfl rfl fun w' s=>?_)
  exact ⟨rfl,s.ext⟩
 intro z1 hz1 HX1 hJ1
 refine T.block ?_
 refine T.loopA (γ:=Unit) hz1 [(0,_),(5,_),(6,_)] (fun v2 _=>[(7,.int .i64 v2)]) (fun v2 _=>Sat w []) () sb sb (fun w s=>s) ?_
 rintro v2 ⟨⟩ y3 H hd1 KL1 hL1
 try dsimp only [Ex.then] at H
 refine kq [7,0,5,6] ?_
 refine au 2 ?_
 refine T.seq fun _ k6=>?_
 refine T.cP H rfl (fun hc4 H=>?_) (fun hc4 H=>?_)
 ·refine T.skip (k6 _ _ ?_)
  refine T.seq fun _ k7=>T.block (T.seq fun _ k8=>T.region (rM rfl ?_))
  obtain ⟨g5,H⟩:=gdE H
  obtain ⟨bl6,ol7,rfl⟩:=R_ptr h0 (ne_of_pos (pos_of g5))
  refine rp (Pu.indexSl sl86.h rfl rfl g5) ?_
  obtain ⟨c8,hc9,ha10⟩:=R_el (α:=Inp) h0 g5
  obtain ⟨u11,rfl,hu11⟩:=hc9
  obtain ⟨p12,cc13,rfl⟩:=R_form hu11
  refine rq (Qt.ldZ (cs:=[_,_,_]) ty210.h rfl ha10 Held.base rfl) (RS.solid (Sd.alloc zr210 rfl) rfl rfl fun b14=>au 2 ?_)
  refine RS.nil (k8 _ _ (kq [0,3,4,5,6,7] ?_))
  refine T.seq fun _ k9=>dr mixed [1,1,0,0,0,0,0,0,0,0,0,1,1,1,0,0,0] ?_
  refine dq rfl (Qt.ldBA (us:=[_,_,_]) 0 ty210.h rfl rfl rfl rfl) ?_
  obtain ⟨x15,hx15,H⟩:=bindE H
  refine dq rfl (Qt.call (vs:=[_]) ent151 rfl fun w s=>turns_May_walk (gi a0_l v2) w ((Rd.base hu11) w s) hx15) (au 2 ?_)
  refine RD.joinB H 13 28 (fun b18=>.bool b18) [(0,_),(5,_),(6,_),(7,_)] sb ?_ ?_
  ·intro b18 H
   refine RD.nil (k9 _ _ ?_)
   refine T.cB H rfl (fun hc19 H=>?_) (fun hc19 H=>?_)
   ·refine kq [] ?_
    refine au 2 ?_
    obtain rfl:=hd1 _ H
    have H:=HX1
    obtain rfl:=sj H
    refine T.rt (Cont.ret1 rfl rfl fun w' s=>?_)
    exact ⟨rfl,s.ext⟩
   refine T.skip (k7 _ _ ?_)
   refine T.region ?_
   obtain ⟨g20,H⟩:=gdE H
   refine rp (Pu.addS rfl rfl g20) (rM rfl (RS.nil (hL1 _ _ (v2 + 1) () H sb sb (fun w s=>s.pc []))))
  intro z21 H hJ17
  refine RD.split 15 rfl (fun hc16=>?_) (fun hc16=>?_)
  ·have H:=ifT hc16 H
   refine au 13 ?_
   obtain rfl:=sj H
   exact hJ17 _ sb
  have H:=ifB hc16 H
  refine au 3 ?_
  refine RD.joinB H 9 27 (fun b24=>.bool b24) [(0,_),(3,_),(4,_),(5,_),(6,_),(7,_),(12,_),(13,_),(14,_),(15,_),(16,_),(17,_)] sb ?_ ?_
  ·intro b24 H
   refine dp rfl (Pu.pickF rfl rfl) ?_
   obtain rfl:=sj H
   exact hJ17 _ sb
  intro z25 H hJ23
  refine RD.splitP 18 rfl (fun hc22=>?_) (fun hc22=>?_)
  ·have H:=ifT hc22 H
   refine au 2 ?_
   obtain ⟨g26,H⟩:=gdE H
   refine dp rfl (Pu.subS rfl rfl g26) ?_
   obtain ⟨g27,H⟩:=gdE H
   refine dp rfl (Pu.indexSl sl86.h rfl rfl g27) ?_
   obtain ⟨c28,hc29,ha30⟩:=R_el (α:=Inp) h0 g27
   obtain ⟨u31,rfl,hu31⟩:=hc29
   obtain ⟨p32,cc33,rfl⟩:=R_form hu31
   refine dq rfl (Qt.ldZ (cs:=[_,_,_]) ty210.h rfl ha30 Held.base rfl) (dq rfl (Qt.ldBA (us:=[_,_,_]) 0 ty210.h rfl rfl rfl rfl) ?_)
   obtain ⟨x34,hx34,H⟩:=bindE H
   refine dq rfl (Qt.call (vs:=[_,_]) ent152 rfl fun w s=>turns_less_walk (gi a0_l (v2 - 1)) (gi a0_l v2) w  hx34) (au 2 ?_)
   obtain rfl:=sj H
   exact hJ23 _ sb
  have H:=ifF hc22 H
  refine au 9 ?_
  obtain rfl:=sj H
  exact hJ23 _ sb
 obtain rfl:=hd1 _ H
 refine T.xt (hJ1 _ _ () () HX1 trivial trivial (fun w s=>s))
theorem turns_All_walk (a0_l:List Inp) (w:World) {v0:Value} (h0:R (hpOf w) a0_l [v0]) {r:List Cmd} (H:turns_All a0_l = some r):Calls Tryz.prog 229 #[v0] w fun e w'=>∃ q1:(Option Nat × Nat),e = .returned (rowV q1 r.length)∧Sat w [drow 37 (rowV q1 r.length) r] w':=by
 have hm0:=R_max h0
 obtain ⟨p0,c0,rfl⟩:=R_form h0
 unfold turns_All at H
 refine te Tryz.func229 (Sat.start w) ?_
 refine au 2 ?_
 refine T.seq fun _ k2=>au 4 ?_
 refine T.joinE (σ:=List Cmd) (γ:=(Option Nat × Nat)) H (fun s=>s) [] trivial (fun v2 q3=>[(2,rowV q3 v2.length)]) (fun v2 q3=>Sat w [drow 37 (rowV q3 v2.length) v2]) ?_ ?_
 ·rintro v2 q3 H
  try dsimp only [Ex.then] at H
  refine Cont.kq [2] ?_
  refine id (k2 _ _ ?_)
  refine au 3 ?_
  obtain rfl:=sj H
  refine T.rt (Cont.ret1 rfl rfl fun w' s=>?_)
  exact ⟨q3,rfl,s.pc [0]⟩
 intro z1 hz1 HX1 hJ1
 refine T.block ?_
 refine T.loopA (γ:=(Option Nat × Nat)) hz1 [(5,_),(6,_)] (fun (l4,v6) q5=>[(2,rowV q5 l4.length),(7,.int .i64 v6)]) (fun (l4,v6) q5=>Sat w [drow 37 (rowV q5 l4.length) l4]) (none,0) sb sb (fun w s=>(s.nilRowG (α:=Cmd) 37).pick [0] (by decide) rfl) ?_
 rintro ⟨l4,v6⟩ q5 y7 H hd1 KL1 hL1
 try dsimp only [Ex.then] at H
 refine kq [2,7,5,6] ?_
 refine au 2 ?_
 refine T.seq fun _ k6=>?_
 refine T.cP H rfl (fun hc8 H=>?_) (fun hc8 H=>?_)
 ·refine T.skip (k6 _ _ ?_)
  refine T.seq fun _ k7=>T.block (T.seq fun _ k8=>T.region ?_)
  obtain ⟨g9,H⟩:=gdE H
  obtain ⟨bl10,ol11,rfl⟩:=R_ptr h0 (ne_of_pos (pos_of g9))
  refine rp (Pu.indexSl sl86.h rfl rfl g9) ?_
  obtain ⟨c12,hc13,ha14⟩:=R_el (α:=Inp) h0 g9
  obtain ⟨u15,rfl,hu15⟩:=hc13
  obtain ⟨p16,cc17,rfl⟩:=R_form hu15
  refine rq (Qt.ldZ (cs:=[_,_,_]) ty210.h rfl ha14 Held.base rfl) (RS.solid (Sd.alloc zr210 rfl) rfl rfl fun b18=>RS.solid (Sd.stB (cs':=[_,_,_]) 1 ty210.h rfl rfl rfl rfl rfl rfl rfl rfl) rfl rfl fun _=>RS.nil (k8 _ _ (kq [2,4,5,6,7] ?_)))
  refine T.region (au 3 ?_)
  obtain ⟨x19,hx19,H⟩:=bindE H
  refine RS.solid (Sd.callN (vs:=[_]) ent104 rfl (fun w s=>command_OwnAll_walk ((gi a0_l v6).commands) w ((Rd.base hu15) w s) hx19)) rfl rfl fun q20=>?_
  obtain ⟨g22,H⟩:=gdE H
  refine RS.solid (Sd.appD (α:=Cmd) 0 2 rfl rfl rfl sl29.h zr37 rfl rfl rfl g22 (by decide)) rfl rfl fun q21=>rA rfl (RS.nil (k7 _ _ (kq [2,5,6,7] ?_)))
  refine T.region ?_
  obtain ⟨g23,H⟩:=gdE H
  refine rp (Pu.addS rfl rfl g23) (rM rfl (RS.nil (hL1 _ _ ((l4 ++ x19),(v6 + 1)) q21 H sb sb (fun w s=>s.pc [0]))))
 obtain rfl:=hd1 _ H
 refine T.xt (hJ1 _ _ l4 q5 HX1 trivial sb (fun w s=>s))
theorem turns_Part_walk (a0_l:List Inp) (a1_turn:Int) (w:World) {v0:Value} (h0:R (hpOf w) a0_l [v0]) {r:List Inp × List Inp} (H:turns_Part a0_l a1_turn = some r):Calls Tryz.prog 228 #[v0,.int .i64 a1_turn] w fun e w'=>∃ g:(Option Nat × Nat) × (Option Nat × Nat),e = .returned (.tuple #[rowV g.1 r.1.length,rowV g.2 r.2.length])∧Sat w [drow 210 (rowV g.1 r.1.length) r.1,drow 210 (rowV g.2 r.2.length) r.2] w':=by
 have hm0:=R_max h0
 obtain ⟨p0,c0,rfl⟩:=R_form h0
 unfold turns_Part at H
 refine te Tryz.func228 (Sat.start w) ?_
 refine au 3 ?_
 refine T.seq fun _ k2=>au 4 ?_
 refine T.joinE (σ:=List Inp × List Inp) (γ:=(Option Nat × Nat) × (Option Nat × Nat)) H (fun s=>s) [] trivial (fun (v2,v4) (q3,q5)=>[(4,rowV q3 v2.length),(5,rowV q5 v4.length)]) (fun (v2,v4) (q3,q5)=>Sat w [drow 210 (rowV q3 v2.length) v2,drow 210 (rowV q5 v4.length) v4]) ?_ ?_
 ·rintro ⟨v2,v4⟩ ⟨q3,q5⟩ H
  try dsimp only [Ex.then] at H
  refine Cont.kq [4,5] ?_
  refine id (k2 _ _ ?_)
  refine au 5 ?_
  obtain rfl:=sj H
  refine T.rt (Cont.ret2 rfl rfl rfl fun w' s=>?_)
  exact ⟨⟨q3,q5⟩,rfl,s.pc [0,1]⟩
 intro z1 hz1 HX1 hJ1
 refine T.block ?_
 refine T.loopA (γ:=(Option Nat × Nat) × (Option Nat × Nat)) hz1 [(1,_),(8,_),(9,_)] (fun (l6,l8,v10) (q7,q9)=>[(4,rowV q7 l6.length),(5,rowV q9 l8.length),(10,.int .i64 v10)]) (fun (l6,l8,v10) (q7,q9)=>Sat w [drow 210 (rowV q7 l6.length) l6,drow 210 (rowV q9 l8.length) l8]) ((none,0),(none,0)) sb sb (fun w s=>((s.nilRowG (α:=Inp) 210).nilRowG (α:=Inp) 210).pick [0,1] (by decide) rfl) ?_
 rintro ⟨l6,l8,v10⟩ ⟨q7,q9⟩ y11 H hd1 KL1 hL1
 try dsimp only [Ex.then] at H
 refine kq [4,5,10,1,8,9] ?_
 refine au 2 ?_
 refine T.seq fun _ k6=>?_
 refine T.cP H rfl (fun hc12 H=>?_) (fun hc12 H=>?_)
 ·refine T.skip (k6 _ _ ?_)
  refine T.seq fun _ k7=>T.block (T.seq fun _ k8=>T.region ?_)
  obtain ⟨g13,H⟩:=gdE H
  obtain ⟨bl14,ol15,rfl⟩:=R_ptr h0 (ne_of_pos (pos_of g13))
  refine rp (Pu.indexSl sl86.h rfl rfl g13) ?_
  obtain ⟨c16,hc17,ha18⟩:=R_el (α:=Inp) h0 g13
  obtain ⟨u19,rfl,hu19⟩:=hc17
  obtain ⟨p20,cc21,rfl⟩:=R_form hu19
  refine rq (Qt.ldZ (cs:=[_,_,_]) ty210.h rfl ha18 Held.base rfl) (RS.solid (Sd.alloc zr210 rfl) rfl rfl fun b22=>RS.solid (Sd.stB (cs':=[_,_,_]) 2 ty210.h rfl rfl rfl rfl rfl rfl rfl rfl) rfl rfl fun _=>RS.nil (k8 _ _ (kq [1,4,5,7,8,9,10] ?_)))
  refine au 5 ?_
  refine T.cP H rfl (fun hc23 H=>?_) (fun hc23 H=>?_)
  ·refine kq [1,4,5,7,8,9,10] ?_
   refine T.region (au 2 ?_)
   obtain ⟨x24,hx24,H⟩:=bindE H
   refine RS.solid (Sd.callN (vs:=[_]) ent157 rfl (fun w s=>turns_Own_walk (gi a0_l v10) w ((Rd.base hu19) w s) hx24)) rfl rfl fun q25=>RS.solid (Sd.litS (cs:=[_,_,_]) sl86.h zr210 rfl rfl rfl rfl rfl) rfl rfl fun b26=>?_
   obtain ⟨g28,H⟩:=gdE H
   refine RS.solid (Sd.pre (fun w s=>(Sat.starAt 3 5 (Sat.starAt 3 6 ((s.noStars).noStars) rfl rfl (by decide)) rfl rfl (by decide))) (Sd.appL (α:=Inp) 0 4 3 ([x24]:List Inp) rfl rfl rfl (DRF.cons' (α:=Inp) (x:=x24) (fun _ h=>⟨_,rfl,h⟩) DRF.nil') rfl sl86.h zr210 rfl rfl rfl rfl g28 (by decide))) rfl rfl fun q27=>rA rfl (RS.nil (k7 _ _ (kq [1,4,5,8,9,10] ?_)))
   refine nz ?_
   refine T.region ?_
   obtain ⟨g29,H⟩:=gdE H
   refine rp (Pu.addS rfl rfl g29) (rM rfl (RS.nil (hL1 _ _ ((l6 ++ ([x24]:List Inp)),l8,(v10 + 1)) (q27,q9) H sb sb (fun w s=>s.pc [0,1]))))
  refine kq [1,4,5,7,8,9,10] ?_
  refine T.region (au 2 ?_)
  obtain ⟨x30,hx30,H⟩:=bindE H
  refine RS.solid (Sd.callN (vs:=[_]) ent157 rfl (fun w s=>turns_Own_walk (gi a0_l v10) w ((Rd.base hu19) w s) hx30)) rfl rfl fun q31=>RS.solid (Sd.litS (cs:=[_,_,_]) sl86.h zr210 rfl rfl rfl rfl rfl) rfl rfl fun b32=>?_
  obtain ⟨g34,H⟩:=gdE H
  refine RS.solid (Sd.pre (fun w s=>(Sat.starAt 3 5 (Sat.starAt 3 6 ((s.noStars).noStars) rfl rfl (by decide)) rfl rfl (by decide))) (Sd.appL (α:=Inp) 1 4 3 ([x30]:List Inp) rfl rfl rfl (DRF.cons' (α:=Inp) (x:=x30) (fun _ h=>⟨_,rfl,h⟩) DRF.nil') rfl sl86.h zr210 rfl rfl rfl rfl g34 (by decide))) rfl rfl fun q33=>rA rfl (RS.nil (k7 _ _ (kq [1,4,5,8,9,10] ?_)))
  refine nz ?_
  refine T.region ?_
  obtain ⟨g35,H⟩:=gdE H
  refine rp (Pu.addS rfl rfl g35) (rM rfl (RS.nil (hL1 _ _ (l6,(l8 ++ ([x30]:List Inp)),(v10 + 1)) (q7,q33) H sb sb (fun w s=>s.pc [0,1]))))
 obtain rfl:=hd1 _ H
 refine T.xt (hJ1 _ _ (l6,l8) (q7,q9) HX1 trivial sb (fun w s=>s))
theorem slices_BinarySearchFuncI_walk (a0_x:List Inp) (a1_target:Inp) (a2_cmp:(Inp × Inp)→Option Int) (w:World) {v0 v1 v2:Value} (h0:R (hpOf w) a0_x [v0]) (h1:R (hpOf w) a1_target.commands [v1]) (h2:FnR Tryz.prog w v2 (fun (z:Inp × Inp) c=>∃ u0 u1:Value,c = [.agg #[.int .i64 z.1.turn,.int .i64 z.1.player,u0],.agg #[.int .i64 z.2.turn,.int .i64 z.2.player,u1]]) (fun (r:Int)=>.int .i64 r) a2_cmp) {r:Int × Bool} (H:slices_BinarySearchFuncI a0_x a1_target a2_cmp = some r):Calls Tryz.prog 225 #[v0,.agg #[.int .i64 a1_target.turn,.int .i64 a1_target.player,v1],v2] w fun e w'=>e = .returned (.tuple #[.int .i64 r.1,.bool r.2])∧Ext w w':=by
 have hm0:=R_max h0
 obtain ⟨p0,c0,rfl⟩:=R_form h0
 have hm1:=R_max h1
 obtain ⟨p1,c1,rfl⟩:=R_form h1
 unfold slices_BinarySearchFuncI at H
 refine te Tryz.func225 (Sat.start w) ?_
 refine T.seq fun _ k1=>T.region (RS.solid (Sd.box (cs:=[_,_,_]) rfl rfl) rfl rfl fun b1=>au 2 ?_)
 refine RS.nil (k1 _ _ (kq [0,2,4] ?_))
 refine au 4 ?_
 refine T.seq fun _ k3=>T.region (au 3 ?_)
 refine RS.nil (k3 _ _ (kq [0,2,4,8,9,10] ?_))
 refine T.joinA (σ:=Int) (γ:=Unit) H (fun s=>s) [(0,_),(2,_),(4,_),(8,_)] sb (fun v3 _=>[(9,.int .i64 v3)]) (fun v3 _=>Sat w [blk b1 [.int .i64 a1_target.turn,.int .i64 a1_target.player,.slice p1 a1_target.commands.length c1] 210]) ?_ ?_
 ·rintro v3 ⟨⟩ H
  try dsimp only [Ex.then] at H
  refine kq [9,0,2,4,8] ?_
  refine T.seq fun _ k5=>dr mixed [0,0,0,0,0,0,0,0,0,1,1,1,0,0,0,0] ?_
  refine au 5 ?_
  refine RD.joinB H 9 48 (fun b6=>.bool b6) [(35,_)] sb ?_ ?_
  ·intro b6 H
   refine au 2 ?_
   refine RD.nil (k5 _ _ ?_)
   obtain rfl:=sj H
   refine T.rt (Cont.ret2 rfl rfl rfl fun w' s=>?_)
   exact ⟨rfl,s.ext⟩
  intro z7 H hJ5
  refine RD.splitP 39 rfl (fun hc4=>?_) (fun hc4=>?_)
  ·have H:=ifT hc4 H
   refine au 3 ?_
   obtain ⟨g8,H⟩:=gdE H
   obtain ⟨bl9,ol10,rfl⟩:=R_ptr h0 (ne_of_pos (pos_of g8))
   refine dp rfl (Pu.indexSl sl86.h rfl rfl g8) ?_
   obtain ⟨c11,hc12,ha13⟩:=R_el (α:=Inp) h0 g8
   obtain ⟨u14,rfl,hu14⟩:=hc12
   obtain ⟨p15,cc16,rfl⟩:=R_form hu14
   refine dq rfl (Qt.ldZ (cs:=[_,_,_]) ty210.h rfl ha13 Held.base rfl) (dq rfl (Qt.ldBA (us:=[_,_,_]) 0 ty210.h rfl rfl rfl rfl) ?_)
   obtain ⟨x17,hx17,H⟩:=bindE H
   refine dq rfl (Qt.callR rfl h2 (fun w s=>s.ext) hx17 rfl ⟨_,_,rfl⟩) (au 2 ?_)
   obtain rfl:=sj H
   exact hJ5 _ sb
  have H:=ifF hc4 H
  refine au 9 ?_
  obtain rfl:=sj H
  exact hJ5 _ sb
 intro z2 hz2 HX2 K4 hJ2
 refine T.block ?_
 refine T.loopA (γ:=Unit) hz2 [(0,_),(2,_),(4,_),(8,_)] (fun (v18,v19) _=>[(9,.int .i64 v18),(10,.int .i64 v19)]) (fun (v18,v19) _=>Sat w [blk b1 [.int .i64 a1_target.turn,.int .i64 a1_target.player,.slice p1 a1_target.commands.length c1] 210]) () sb sb (fun w s=>s) ?_
 rintro ⟨v18,v19⟩ ⟨⟩ y20 H hd2 KL2 hL2
 try dsimp only [Ex.then] at H
 refine kq [9,10,0,2,4,8] ?_
 refine T.seq fun _ k6=>au 4 ?_
 refine T.cP H rfl (fun hc21 H=>?_) (fun hc21 H=>?_)
 ·refine T.skip (k6 _ _ (kq [0,2,4,8,9,10] ?_))
  refine T.block (T.seq fun _ k8=>T.region (au 2 ?_))
  obtain ⟨g22,H⟩:=gdE H
  refine rp (Pu.addS rfl rfl g22) (rp (Pu.convUW us3 ul80 rfl) ?_)
  obtain ⟨g23,H⟩:=gdE H
  refine rp (Pu.shr1 rfl rfl g23) ?_
  obtain ⟨g24,H⟩:=gdE H
  refine rp (Pu.convS us80 ul3 rfl g24) (rA rfl (RS.nil (k8 _ _ (kq [0,2,4,8,9,10,11] ?_))))
  refine T.seq fun _ k9=>dr mixed [0,0,0,0,1,1,1,0] ?_
  refine au 3 ?_
  obtain ⟨g25,H⟩:=gdE H
  obtain ⟨bl26,ol27,rfl⟩:=R_ptr h0 (ne_of_pos (pos_of g25))
  refine dp rfl (Pu.indexSl sl86.h rfl rfl g25) ?_
  obtain ⟨c28,hc29,ha30⟩:=R_el (α:=Inp) h0 g25
  obtain ⟨u31,rfl,hu31⟩:=hc29
  obtain ⟨p32,cc33,rfl⟩:=R_form hu31
  refine dq rfl (Qt.ldZ (cs:=[_,_,_]) ty210.h rfl ha30 Held.base rfl) (dq rfl (Qt.ldBA (us:=[_,_,_]) 0 ty210.h rfl rfl rfl rfl) ?_)
  obtain ⟨x34,hx34,H⟩:=bindE H
  refine dq rfl (Qt.callR rfl h2 (fun w s=>s.ext) hx34 rfl ⟨_,_,rfl⟩) (dp rfl (Pu.bin rfl rfl rfl) (RD.nil (k9 _ _ ?_)))
  refine T.cP H rfl (fun hc35 H=>?_) (fun hc35 H=>?_)
  ·refine kq [0,2,4,8,10,11] ?_
   refine T.region (rM rfl ?_)
   obtain ⟨g36,H⟩:=gdE H
   refine rp (Pu.addS rfl rfl g36) (rA rfl (RS.nil (hL2 _ _ (((((v18 + v19) % 18446744073709551616) / 2) + 1),v19) () H sb sb (fun w s=>s))))
  refine kq [0,2,4,8,9,11] ?_
  refine T.region (au 2 ?_)
  refine RS.nil (hL2 _ _ (v18,(((v18 + v19) % 18446744073709551616) / 2)) () H sb sb (fun w s=>s))
 obtain rfl:=hd2 _ H
 refine T.xt (hJ2 _ _ v18 () HX2 sb sb (fun w s=>s))
theorem turns_In_walk (a0_l:List Inp) (a1_i:Inp) (w:World) {v0 v1:Value} (h0:R (hpOf w) a0_l [v0]) (h1:R (hpOf w) a1_i.commands [v1]) {r:List Inp × Bool} (H:turns_In a0_l a1_i = some r):Calls Tryz.prog 156 #[v0,.agg #[.int .i64 a1_i.turn,.int .i64 a1_i.player,v1]] w fun e w'=>∃ q1:(Option Nat × Nat),e = .returned (.tuple #[rowV q1 r.1.length,.bool r.2])∧Sat w [drow 210 (rowV q1 r.1.length) r.1] w':=by
 have hm0:=R_max h0
 obtain ⟨p0,c0,rfl⟩:=R_form h0
 have hm1:=R_max h1
 obtain ⟨p1,c1,rfl⟩:=R_form h1
 unfold turns_In at H
 refine te Tryz.func156 (Sat.start w) ?_
 refine T.seq fun _ k1=>T.region (RS.solid (Sd.box (cs:=[_,_,_]) rfl rfl) rfl rfl fun b1=>au 2 ?_)
 refine RS.nil (k1 _ _ (kq [0,3] ?_))
 refine T.seq fun _ k2=>T.region (au 2 ?_)
 obtain ⟨x2,hx2,H⟩:=bindE H
 refine rq (Qt.call (vs:=[_,_,_]) ent225 rfl fun w s=>slices_BinarySearchFuncI_walk a0_l a1_i (fun (y0,y1)=>turns_less y0 y1) w ((Rd.base h0) w s) ((Rd.base h1) w s) (⟨152,_,rfl,ent152,fun ⟨y0,y1⟩ c r w' ⟨_,_,hc⟩ he hr=>by subst hc; exact turns_less_walk y0 y1 w'  hr⟩) hx2) (au 5 ?_)
 refine RS.nil (k2 _ _ (kq [0,3,6,7] ?_))
 refine T.seq fun _ k3=>au 2 ?_
 refine T.cB H rfl (fun hc3 H=>?_) (fun hc3 H=>?_)
 ·refine kq [] ?_
  refine au 3 ?_
  obtain rfl:=sj H
  refine T.rt (Cont.ret2 rfl rfl rfl fun w' s=>?_)
  exact ⟨(none,0),rfl,(s.nilRowG (α:=Inp) 210).pick [1] (by decide) rfl⟩
 refine T.skip (k3 _ _ ?_)
 refine T.seq fun _ k6=>?_
 refine T.drawnS [0] [(0,.pu),(2,.pu),(3,.wk),(1,.so),(4,.so),(5,.so),(6,.br),(7,.pu),(8,.pu)] mixed (by kernel_rfl) rfl ?_
 refine au 3 ?_
 obtain ⟨x4,hx4,H⟩:=bindE H
 refine RD.solid rfl (.inl rfl) rfl rfl (Sd.callN (vs:=[_]) ent223 rfl (fun w s=>turns_OwnAll_walk a0_l w ((Rd.base h0) w s) hx4)) (fun _=>ClE.sat _ _) (fun _ w s=>s.pc [0]) (fun _ _ _ s=>s.drop1) fun q5=>?_
 obtain ⟨x6,hx6,H⟩:=bindE H
 refine RD.solid rfl (.inl rfl) rfl rfl (Sd.callN (vs:=[_]) ent157 rfl (fun w s=>turns_Own_walk a1_i w ((Rd.base h1) w s) hx6)) (fun _=>ClE.sat _ _) (fun _ w s=>s.pc [0]) (fun _ _ _ s=>s.drop1) fun q7=>?_
 refine RD.solid rfl (.inl rfl) rfl rfl (Sd.litS (cs:=[_,_,_]) sl86.h zr210 rfl rfl rfl rfl rfl) (fun _=>ClE.sat _ _) (fun _ w s=>s.pc [0]) (fun _ _ _ s=>s.drop1) fun b8=>?_
 obtain ⟨x9,hx9,H⟩:=bindE H
 refine RD.solid rfl (.inr rfl) rfl rfl (Sd.pre (fun w s=>(Sat.starAt 1 3 (Sat.litRowG (α:=Inp) (m:=1) 3 2 ([x6]:List Inp) (Sat.starAt 2 4 (Sat.starAt 2 5 ((s.noStars).noStars) rfl rfl (by decide)) rfl rfl (by decide)) rfl rfl (by decide) (by decide) rfl (DRF.cons' (α:=Inp) (x:=x6) (fun _ h=>⟨_,rfl,h⟩) DRF.nil')) rfl rfl (by decide))) (Sd.callM 1 ent226 rfl rfl (fun w s=>slices_InsertI_walk x4 x2.1 ([x6]:List Inp) rfl hx9 w s))) (fun _=>ClE.sat _ _) (fun _ w s=>s.pc [0]) (fun h=>nomatch h) fun q10=>?_
 refine au 2 ?_
 refine RD.nil (k6 _ _ (kq [4,5] ?_))
 obtain rfl:=sj H
 refine T.rt (Cont.ret2 rfl rfl rfl fun w' s=>?_)
 exact ⟨q10,rfl,s.pc [1]⟩
end Go.Proofs.YtmngdgclldkcfaaGreat
