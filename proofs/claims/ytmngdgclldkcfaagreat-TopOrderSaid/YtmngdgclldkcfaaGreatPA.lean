/-
  Walks of the peers' functions: what another one has.
-/
import Derived.Test.YtmngdgclldkcfaaGreatRows
import Derived.Test.YtmngdgclldkcfaaGreatJ6
import Derived.Test.YtmngdgclldkcfaaGreatJ7
import Derived.Test.YtmngdgclldkcfaaGreatPH
import Derived.Test.YtmngdgclldkcfaaGreatJ22
set_option linter.unusedVariables false
set_option linter.unusedSimpArgs false
set_option maxRecDepth 20000
set_option maxHeartbeats 4000000
namespace Go.Proofs.YtmngdgclldkcfaaGreat
open Go.Vg
open Enc (R)
theorem ent233:Ent Tryz.prog 233:=en Tryz.func233
theorem ent234:Ent Tryz.prog 234:=en Tryz.func234
theorem ent235:Ent Tryz.prog 235:=en Tryz.func235
theorem ent278:Ent Tryz.prog 278:=en Tryz.func278
theorem ent279:Ent Tryz.prog 279:=en Tryz.func279
theorem ent280:Ent Tryz.prog 280:=en Tryz.func280
theorem ent281:Ent Tryz.prog 281:=en Tryz.func281
instance fd212_0:FdC Tryz.prog 212 0 0:={}
instance fd212_1:FdC Tryz.prog 212 1 1:={}
instance fd212_5:FdC Tryz.prog 212 5 7:={}
instance fd89_10:FdC Tryz.prog 89 10 10:={}
theorem peer_acked_1_walk (a0_i:Inp) (cv0:Int) (w:World) {v0:Value} {p1g:Nat} (hb1:blk p1g [.int .i64 cv0] 3 (hpOf w)) {r:Bool} (H:peer_acked_1 a0_i cv0 = some r):Calls Tryz.prog 281 #[.agg #[.int .i64 a0_i.turn,.int .i64 a0_i.player,v0],.pointer (some ⟨p1g,0,none⟩)] w fun e w'=>e = .returned (.bool r)∧Ext w w':=by
 unfold peer_acked_1 at H
 refine te Tryz.func281 (Sat.start w) ?_
 refine T.seq fun _ k1=>T.region (RS.solid (Sd.box (cs:=[_,_,_]) rfl rfl) rfl rfl fun b1=>rA rfl (RS.nil (k1 _ _ ?_)))
 refine T.seq fun _ k2=>T.region (au 2 ?_)
 refine rq (Qt.ldX ty3.h rfl hb1 (fun w s=>s.ext) rfl) (au 2 ?_)
 refine RS.nil (k2 _ _ (kq [3] ?_))
 obtain rfl:=sj H
 refine T.rt (Cont.ret1 rfl rfl fun w' s=>?_)
 exact ⟨rfl,s.ext⟩
theorem peer_acked_walk {w0:World} {F:Ch} (g0:Nat) (a0_p:Per) (a1_from:Int) (a2_have:Int) {r:Per} (H:peer_acked a0_p a1_from a2_have = some r) (w:World) (s:Sat w0 [Per_ch g0 a0_p,F] w):Calls Tryz.prog 234 #[.pointer (some ⟨g0,0,none⟩),.int .i64 a1_from,.int .i64 a2_have] w fun e w'=>e = .returned (.tuple #[])∧Sat w0 [Per_ch g0 r,F] w':=by
 unfold peer_acked at H
 refine te Tryz.func234 s ?_
 refine T.ex (fun w s=>Per_open 0 rfl s) ?_
 rintro ⟨q1,q2,q3,q4,q5⟩
 refine nz ?_
 refine T.seq fun _ k1=>T.seq fun _ k2=>nz ?_
 refine T.region (au 6 ?_)
 obtain ⟨g6,H⟩:=gdE H
 refine rp (Pu.subS rfl rfl g6) ?_
 obtain ⟨g7,H⟩:=gdE H
 refine RS.know (p:=∃ g cap,q4 = (some g,cap)) (fun w s=>(s.row_some (k:=5) rfl (pos_of g7))) ?_
 rintro ⟨gg8,cc9,rfl⟩
 refine rp (Pu.indexSl sl35.h rfl rfl g7) (rq (Qt.ld0 (α:=Int) (Rd.ofRowN 5 rfl) ty3.h rfl rfl g7 (by rintro _ _ rfl; rfl)) (au 2 ?_))
 refine RS.joinV 7 24 (.bool (decide ((a2_have ≤ (gi a0_p.acked (a1_from - 1))) ∨ (a0_p.said < a2_have)))) [(0,_),(1,_),(2,_)] sb ?_ ?_
 ·refine RS.nil (k2 _ _ ?_)
  refine T.cP H rfl (fun hc12 H=>?_) (fun hc12 H=>?_)
  ·obtain rfl:=sj H
   refine nz ?_
   refine T.rt (Cont.ret0 rfl fun w' s=>?_)
   exact ⟨rfl,Per_shut (x:=a0_p) ⟨q1,q2,q3,(some gg8,cc9),q5⟩ (s.pc [1,0,2,3,4,5,6])⟩
  refine T.skip (k1 _ _ ?_)
  refine T.seq fun _ k3=>nz ?_
  refine T.region (au 5 ?_)
  obtain ⟨g13,H⟩:=gdE H
  refine rp (Pu.subS rfl rfl g13) (rM rfl ?_)
  obtain ⟨g14,H⟩:=gdE H
  refine rp (Pu.indexSl sl35.h rfl rfl g14) (RS.solid (Sd.st0 (α:=Int) 5 a2_have rfl ty3.h rfl rfl rfl g14 rfl rfl (by decide) rfl (by rintro _ _ rfl; rfl)) rfl rfl fun _=>RS.nil (k3 _ _ (kq [0] ?_)))
  refine T.seq fun _ k4=>nz ?_
  refine T.region (au 4 ?_)
  obtain ⟨x15,hx15,H⟩:=bindE H
  refine rq (Qt.call (vs:=[_]) ent99 rfl fun w s=>slices_Min_walk (si a0_p.acked (a1_from - 1) a2_have) w ((Rd.ofRowN 5 rfl) w s) hx15) (RS.solid (Sd.alloc zr3 rfl) rfl rfl fun b16=>RS.solid (Sd.stB (cs':=[_]) 7 ty3.h rfl rfl rfl rfl rfl rfl rfl rfl) rfl rfl fun _=>RS.nil (k4 _ _ (kq [0,6] ?_)))
  refine nz ?_
  refine T.region (au 5 ?_)
  refine rp (Pu.makeFunc rfl) ?_
  obtain ⟨x17,hx17,H⟩:=bindE H
  refine RS.solid (Sd.callM 2 ent280 rfl rfl (fun w s=>slices_DeleteFuncI_walk a0_p.mine (fun y0=>peer_acked_1 y0 x15) rfl ⟨281,_,rfl,ent281,fun y0 c r w' ⟨_,hc⟩ hs hr=>by subst hc; exact peer_acked_1_walk y0 x15 w' (blk_of (Sat.ofRest (j:=7) hs rfl (by decide)) (k:=0) rfl) hr⟩ hx17 w s)) rfl rfl fun q18=>au 3 ?_
  obtain rfl:=sj H
  refine RS.nil (Cont.end0 rfl fun w' s=>?_)
  exact ⟨rfl,Per_shut (x:=(⟨a0_p.id,a0_p.players,a0_p.delay,a0_p.turn,a0_p.said,x17,a0_p.inputs,a0_p.has,(si a0_p.acked (a1_from - 1) a2_have),a0_p.hashes,a0_p.split⟩:Per)) ⟨q18,q2,q3,(some gg8,cc9),q5⟩ ((Sat.cellB 0 (Sat.relen (q:=(some gg8,cc9)) (m:=a0_p.acked.length) 5 s rfl) rfl (congrArg (fun z=>[.int .i64 a0_p.id,.int .i64 a0_p.players,.int .i64 a0_p.delay,.int .i64 a0_p.turn,.int .i64 a0_p.said,rowV q18 x17.length,rowV q2 a0_p.inputs.length,rowV q3 a0_p.has.length,rowV (some gg8,cc9) z,rowV q5 a0_p.hashes.length,.bool a0_p.split]) (s.row_fits (q:=(some gg8,cc9)) (m:=a0_p.acked.length) (k:=5) rfl).1)).pick [1,0,2,3,4,5,6] (by decide) rfl)⟩
 intro hJ11
 refine RS.splitP 17 rfl (fun hc10=>?_) (fun hc10=>?_)
 ·refine au 7 ?_
  exact hJ11 _ _ ⟨dOrT hc10,rfl,rfl,rfl,trivial⟩ (fun w s=>s)
 refine au 7 ?_
 exact hJ11 _ _ ⟨dOrF hc10,rfl,rfl,rfl,trivial⟩ (fun w s=>s)
theorem peer_player_walk (a0_n:Int) (w:World) {r:Bool} (H:peer_player a0_n = some r):Calls Tryz.prog 278 #[.int .i64 a0_n] w fun e w'=>e = .returned (.bool r)∧Ext w w':=by
 unfold peer_player at H
 refine te Tryz.func278 (Sat.start w) ?_
 refine au 2 ?_
 refine T.seq fun _ k2=>T.region (au 3 ?_)
 refine RS.joinV 3 8 (.bool (decide ((1 ≤ a0_n)∧(a0_n ≤ 8)))) [(2,_)] sb ?_ ?_
 ·refine rA rfl (RS.nil (k2 _ _ ?_))
  obtain rfl:=sj H
  refine T.rt (Cont.ret1 rfl rfl fun w' s=>?_)
  exact ⟨rfl,s.ext⟩
 intro hJ2
 refine RS.splitP 5 rfl (fun hc1=>?_) (fun hc1=>?_)
 ·refine au 3 ?_
  exact hJ2 _ _ ⟨dAndT hc1,rfl,trivial⟩ (fun w s=>s)
 refine au 3 ?_
 exact hJ2 _ _ ⟨dAndF hc1,rfl,trivial⟩ (fun w s=>s)
theorem peer_turn_walk (a0_n:Int) (w:World) {r:Bool} (H:peer_turn a0_n = some r):Calls Tryz.prog 279 #[.int .i64 a0_n] w fun e w'=>e = .returned (.bool r)∧Ext w w':=by
 unfold peer_turn at H
 refine te Tryz.func279 (Sat.start w) ?_
 refine au 2 ?_
 refine T.seq fun _ k2=>T.region (au 3 ?_)
 refine RS.joinV 3 8 (.bool (decide (((-1) ≤ a0_n)∧(a0_n ≤ 1099511627776)))) [(2,_)] sb ?_ ?_
 ·refine rA rfl (RS.nil (k2 _ _ ?_))
  obtain rfl:=sj H
  refine T.rt (Cont.ret1 rfl rfl fun w' s=>?_)
  exact ⟨rfl,s.ext⟩
 intro hJ2
 refine RS.splitP 5 rfl (fun hc1=>?_) (fun hc1=>?_)
 ·refine au 3 ?_
  exact hJ2 _ _ ⟨dAndT hc1,rfl,trivial⟩ (fun w s=>s)
 refine au 3 ?_
 exact hJ2 _ _ ⟨dAndF hc1,rfl,trivial⟩ (fun w s=>s)
theorem peer_MayNote_walk (a0_n:Nte) (w:World) {v0:Value} (h0:R (hpOf w) a0_n.input.commands [v0]) {r:Bool} (H:peer_MayNote a0_n = some r):Calls Tryz.prog 233 #[.agg #[.int .i64 a0_n.frm,.int .i64 a0_n.dst,.int .i64 a0_n.input.turn,.int .i64 a0_n.input.player,v0,.int .i64 a0_n.don,.int .u64 (a0_n.hash.toNat:Int),.int .i64 a0_n.hav]] w fun e w'=>e = .returned (.bool r)∧Ext w w':=by
 have hm0:=R_max h0
 obtain ⟨p0,c0,rfl⟩:=R_form h0
 unfold peer_MayNote at H
 refine te Tryz.func233 (Sat.start w) ?_
 refine T.seq fun _ k1=>T.region (RS.solid (Sd.box (cs:=[_,_,_,_,_,_,_,_]) rfl rfl) rfl rfl fun b1=>rA rfl (RS.nil (k1 _ _ ?_)))
 refine T.seq fun _ k2=>T.seq fun _ k3=>T.region (au 2 ?_)
 obtain ⟨x2,hx2,H⟩:=bindE H
 refine rq (Qt.call (vs:=[_]) ent278 rfl fun w s=>peer_player_walk a0_n.frm w  hx2) (au 2 ?_)
 refine RS.joinB H 5 12 (fun b5=>.bool b5) [(1,_)] sb ?_ ?_
 ·intro b5 H
  refine rM rfl ?_
  refine RS.joinV 6 19 (.bool (decide ((b5 = true) ∨ (a0_n.frm = a0_n.dst)))) [(1,_)] sb ?_ ?_
  ·refine rM rfl ?_
   refine RS.joinB H 5 25 (fun b10=>.bool b10) [(1,_)] sb ?_ ?_
   ·intro b10 H
    refine rM rfl ?_
    refine RS.joinB H 5 31 (fun b13=>.bool b13) [(1,_)] sb ?_ ?_
    ·intro b13 H
     refine rM rfl ?_
     refine RS.joinV 9 41 (.bool (decide ((b13 = true) ∨ ((a0_n.don = (-1))∧(¬ (a0_n.hash.toNat:Int) = 0))))) [(1,_)] sb ?_ ?_
     ·refine RS.nil (k3 _ _ ?_)
      refine T.cP H rfl (fun hc16 H=>?_) (fun hc16 H=>?_)
      ·refine au 2 ?_
       obtain rfl:=sj H
       refine T.rt (Cont.ret1 rfl rfl fun w' s=>?_)
       exact ⟨rfl,s.ext⟩
      refine T.skip (k2 _ _ ?_)
      refine T.seq fun _ k5=>au 5 ?_
      refine T.cP H rfl (fun hc17 H=>?_) (fun hc17 H=>?_)
      ·refine kq [1] ?_
       refine T.seq fun _ k7=>T.region (au 5 ?_)
       refine RS.joinV 6 56 (.bool (decide ((a0_n.input.player = 0)∧((a0_n.input.commands.length:Int) = 0)))) [] trivial ?_ ?_
       ·refine rA rfl (RS.nil (k7 _ _ ?_))
        obtain rfl:=sj H
        refine T.rt (Cont.ret1 rfl rfl fun w' s=>?_)
        exact ⟨rfl,s.ext⟩
       intro hJ19
       refine RS.splitP 50 rfl (fun hc18=>?_) (fun hc18=>?_)
       ·refine au 6 ?_
        exact hJ19 _ _ ⟨dAndT hc18,trivial⟩ (fun w s=>s)
       refine au 6 ?_
       exact hJ19 _ _ ⟨dAndF hc18,trivial⟩ (fun w s=>s)
      refine T.skip (k5 _ _ (kq [1] ?_))
      refine T.seq fun _ k8=>T.region (au 2 ?_)
      obtain ⟨x20,hx20,H⟩:=bindE H
      refine rq (Qt.call (vs:=[_]) ent151 rfl fun w s=>turns_May_walk a0_n.input w ((Rd.base h0) w s) hx20) (rM rfl ?_)
      refine RS.joinV 7 67 (.bool (decide ((x20 = true)∧(a0_n.input.player = a0_n.frm)))) [] trivial ?_ ?_
      ·refine rA rfl (RS.nil (k8 _ _ ?_))
       obtain rfl:=sj H
       refine T.rt (Cont.ret1 rfl rfl fun w' s=>?_)
       exact ⟨rfl,s.ext⟩
      intro hJ22
      refine RS.split 60 rfl (fun hc21=>?_) (fun hc21=>?_)
      ·refine au 7 ?_
       exact hJ22 _ _ ⟨dAndT hc21,trivial⟩ (fun w s=>s)
      refine au 7 ?_
      exact hJ22 _ _ ⟨dAndF (bne_of hc21),trivial⟩ (fun w s=>s)
     intro hJ15
     refine RS.split 32 rfl (fun hc14=>?_) (fun hc14=>?_)
     ·refine au 9 ?_
      exact hJ15 _ _ ⟨dOrT hc14,rfl,trivial⟩ (fun w s=>s)
     refine au 4 ?_
     refine RS.joinV 4 40 (.bool (decide ((a0_n.don = (-1))∧(¬ (a0_n.hash.toNat:Int) = 0)))) [(1,_),(31,_),(32,_),(33,_),(34,_),(35,_)] sb ?_ ?_
     ·refine rp (Pu.pickF rfl rfl) ?_
      exact hJ15 _ _ ⟨dOrF (bne_of hc14),rfl,trivial⟩ (fun w s=>s)
     intro hJ24
     refine RS.splitP 36 rfl (fun hc23=>?_) (fun hc23=>?_)
     ·refine au 4 ?_
      exact hJ24 _ _ ⟨dAndT hc23,rfl,rfl,rfl,rfl,rfl,rfl,trivial⟩ (fun w s=>s)
     refine au 4 ?_
     exact hJ24 _ _ ⟨dAndF hc23,rfl,rfl,rfl,rfl,rfl,rfl,trivial⟩ (fun w s=>s)
    intro z25 H hJ12
    refine RS.split 26 rfl (fun hc11=>?_) (fun hc11=>?_)
    ·have H:=ifT hc11 H
     refine au 5 ?_
     obtain rfl:=sj H
     exact hJ12 _ _ sb (fun w s=>s)
    have H:=ifB hc11 H
    refine au 2 ?_
    obtain ⟨x26,hx26,H⟩:=bindE H
    refine rq (Qt.call (vs:=[_]) ent279 rfl fun w s=>peer_turn_walk a0_n.hav w  hx26) (au 2 ?_)
    obtain rfl:=sj H
    exact hJ12 _ _ sb (fun w s=>s)
   intro z27 H hJ9
   refine RS.splitP 20 rfl (fun hc8=>?_) (fun hc8=>?_)
   ·have H:=ifT hc8 H
    refine au 5 ?_
    obtain rfl:=sj H
    exact hJ9 _ _ sb (fun w s=>s)
   have H:=ifF hc8 H
   refine au 2 ?_
   obtain ⟨x28,hx28,H⟩:=bindE H
   refine rq (Qt.call (vs:=[_]) ent279 rfl fun w s=>peer_turn_walk a0_n.don w  hx28) (au 2 ?_)
   obtain rfl:=sj H
   exact hJ9 _ _ sb (fun w s=>s)
  intro hJ7
  refine RS.split 13 rfl (fun hc6=>?_) (fun hc6=>?_)
  ·refine au 6 ?_
   exact hJ7 _ _ ⟨dOrT hc6,rfl,trivial⟩ (fun w s=>s)
  refine au 6 ?_
  exact hJ7 _ _ ⟨dOrF (bne_of hc6),rfl,trivial⟩ (fun w s=>s)
 intro z29 H hJ4
 refine RS.split 7 rfl (fun hc3=>?_) (fun hc3=>?_)
 ·have H:=ifT hc3 H
  refine au 5 ?_
  obtain rfl:=sj H
  exact hJ4 _ _ sb (fun w s=>s)
 have H:=ifB hc3 H
 refine au 2 ?_
 obtain ⟨x30,hx30,H⟩:=bindE H
 refine rq (Qt.call (vs:=[_]) ent278 rfl fun w s=>peer_player_walk a0_n.dst w  hx30) (au 2 ?_)
 obtain rfl:=sj H
 exact hJ4 _ _ sb (fun w s=>s)
theorem peer_split_walk (a0_p:Per) (a1_done:Int) (a2_hash:UInt64) (w:World) {v0 v1 v2 v3 v4:Value} (h0:R (hpOf w) a0_p.mine [v0]) (h1:R (hpOf w) a0_p.inputs [v1]) (h2:R (hpOf w) a0_p.has [v2]) (h3:R (hpOf w) a0_p.acked [v3]) (h4:R (hpOf w) a0_p.hashes [v4]) {r:Bool} (H:peer_split a0_p a1_done a2_hash = some r):Calls Tryz.prog 235 #[.agg #[.int .i64 a0_p.id,.int .i64 a0_p.players,.int .i64 a0_p.delay,.int .i64 a0_p.turn,.int .i64 a0_p.said,v0,v1,v2,v3,v4,.bool a0_p.split],.int .i64 a1_done,.int .u64 a2_hash.toNat] w fun e w'=>e = .returned (.bool r)∧Ext w w':=by
 have hm0:=R_max h0
 obtain ⟨p0,c0,rfl⟩:=R_form h0
 have hm1:=R_max h1
 obtain ⟨p1,c1,rfl⟩:=R_form h1
 have hm2:=R_max h2
 obtain ⟨p2,c2,rfl⟩:=R_form h2
 have hm3:=R_max h3
 obtain ⟨p3,c3,rfl⟩:=R_form h3
 have hm4:=R_max h4
 obtain ⟨p4,c4,rfl⟩:=R_form h4
 unfold peer_split at H
 refine te Tryz.func235 (Sat.start w) ?_
 refine T.seq fun _ k1=>T.region (RS.solid (Sd.box (cs:=[_,_,_,_,_,_,_,_,_,_,_]) rfl rfl) rfl rfl fun b1=>rA rfl (RS.nil (k1 _ _ ?_)))
 refine T.seq fun _ k2=>T.region (au 6 ?_)
 obtain ⟨g2,H⟩:=gdE H
 refine rp (Pu.subS rfl rfl g2) ?_
 obtain ⟨g3,H⟩:=gdE H
 refine rp (Pu.subS rfl rfl g3) (rA rfl (RS.nil (k2 _ _ (kq [1,2,3,7] ?_))))
 refine T.seq fun _ k3=>T.region (au 5 ?_)
 refine RS.joinV 3 23 (.bool (decide ((a1_done < a0_p.turn)∧(0 ≤ ((a0_p.hashes.length:Int) - (a0_p.turn - a1_done)))))) [(2,_),(3,_),(7,_)] sb ?_ ?_
 ·refine rM rfl ?_
  obtain ⟨g8,H⟩:=gdE H
  refine RS.joinV 8 32 (.bool (decide (((a1_done < a0_p.turn)∧(0 ≤ ((a0_p.hashes.length:Int) - (a0_p.turn - a1_done))))∧(¬ ((gi a0_p.hashes ((a0_p.hashes.length:Int) - (a0_p.turn - a1_done))).toNat:Int) = (a2_hash.toNat:Int))))) [] trivial ?_ ?_
  ·refine rA rfl (RS.nil (k3 _ _ ?_))
   obtain rfl:=sj H
   refine T.rt (Cont.ret1 rfl rfl fun w' s=>?_)
   exact ⟨rfl,s.ext⟩
  intro hJ7
  refine RS.splitP 24 rfl (fun hc6=>?_) (fun hc6=>?_)
  ·refine au 3 ?_
   obtain ⟨bl9,ol10,rfl⟩:=R_ptr h4 (ne_of_pos (pos_of (g8 hc6)))
   refine rp (Pu.indexSl sl87.h rfl rfl (g8 hc6)) (rq (Qt.ld0 (α:=UInt64) (Rd.base h4) ty112.h rfl rfl (g8 hc6) (by rintro _ _ rfl; rfl)) (au 3 ?_))
   exact hJ7 _ _ ⟨dAndT hc6,trivial⟩ (fun w s=>s)
  refine au 8 ?_
  exact hJ7 _ _ ⟨dAndF hc6,trivial⟩ (fun w s=>s)
 intro hJ5
 refine RS.splitP 20 rfl (fun hc4=>?_) (fun hc4=>?_)
 ·refine au 3 ?_
  exact hJ5 _ _ ⟨dAndT hc4,rfl,rfl,rfl,trivial⟩ (fun w s=>s)
 refine au 3 ?_
 exact hJ5 _ _ ⟨dAndF hc4,rfl,rfl,rfl,trivial⟩ (fun w s=>s)
theorem peer_Take_walk (a0_p:Per) (a1_n:Nte) (w:World) {v0 v1 v2 v3 v4 v5:Value} (h0:R (hpOf w) a0_p.mine [v0]) (h1:R (hpOf w) a0_p.inputs [v1]) (h2:R (hpOf w) a0_p.has [v2]) (h3:R (hpOf w) a0_p.acked [v3]) (h4:R (hpOf w) a0_p.hashes [v4]) (h5:R (hpOf w) a1_n.input.commands [v5]) {r:Per × Int} (H:peer_Take a0_p a1_n = some r):Calls Tryz.prog 163 #[.agg #[.int .i64 a0_p.id,.int .i64 a0_p.players,.int .i64 a0_p.delay,.int .i64 a0_p.turn,.int .i64 a0_p.said,v0,v1,v2,v3,v4,.bool a0_p.split],.agg #[.int .i64 a1_n.frm,.int .i64 a1_n.dst,.int .i64 a1_n.input.turn,.int .i64 a1_n.input.player,v5,.int .i64 a1_n.don,.int .u64 (a1_n.hash.toNat:Int),.int .i64 a1_n.hav]] w fun e w'=>∃ g:(Option Nat × Nat) × (Option Nat × Nat) × (Option Nat × Nat) × (Option Nat × Nat) × (Option Nat × Nat),e = .returned (.tuple #[.agg #[.int .i64 r.1.id,.int .i64 r.1.players,.int .i64 r.1.delay,.int .i64 r.1.turn,.int .i64 r.1.said,rowV g.1 r.1.mine.length,rowV g.2.1 r.1.inputs.length,rowV g.2.2.1 r.1.has.length,rowV g.2.2.2.1 r.1.acked.length,rowV g.2.2.2.2 r.1.hashes.length,.bool r.1.split],.int .i64 r.2])∧Sat w [drow 210 (rowV g.1 r.1.mine.length) r.1.mine,drow 210 (rowV g.2.1 r.1.inputs.length) r.1.inputs,row nilH 3 (rowV g.2.2.1 r.1.has.length) r.1.has,row nilH 3 (rowV g.2.2.2.1 r.1.acked.length) r.1.acked,row nilH 112 (rowV g.2.2.2.2 r.1.hashes.length) r.1.hashes] w':=by
 have hm0:=R_max h0
 obtain ⟨p0,c0,rfl⟩:=R_form h0
 have hm1:=R_max h1
 obtain ⟨p1,c1,rfl⟩:=R_form h1
 have hm2:=R_max h2
 obtain ⟨p2,c2,rfl⟩:=R_form h2
 have hm3:=R_max h3
 obtain ⟨p3,c3,rfl⟩:=R_form h3
 have hm4:=R_max h4
 obtain ⟨p4,c4,rfl⟩:=R_form h4
 have hm5:=R_max h5
 obtain ⟨p5,c5,rfl⟩:=R_form h5
 unfold peer_Take at H
 refine te Tryz.func163 (Sat.start w) ?_
 refine T.seq fun _ k1=>T.region (RS.solid (Sd.box (cs:=[_,_,_,_,_,_,_,_,_,_,_]) rfl rfl) rfl rfl fun b1=>RS.solid (Sd.box (cs:=[_,_,_,_,_,_,_,_]) rfl rfl) rfl rfl fun b2=>RS.solid (Sd.alloc zr89 rfl) rfl rfl fun b3=>?_)
 refine RS.weakS (fun w s=>(s.nilRowG (α:=Inp) 210)) ?_
 refine RS.weakS (fun w s=>(s.nilRowG (α:=Inp) 210)) ?_
 refine RS.weakS (fun w s=>(s.nilRow (α:=Int) 3)) ?_
 refine RS.weakS (fun w s=>(s.nilRow (α:=Int) 3)) ?_
 refine RS.weakS (fun w s=>(s.nilRow (α:=UInt64) 112)) ?_
 refine rA rfl (RS.nil (k1 _ _ (kq [2,3,4] ?_)))
 refine T.seq fun _ k2=>T.block (T.seq fun _ k3=>nz ?_)
 refine T.region (rq (Qt.ldBA (us:=[_,_,_,_,_,_,_,_,_,_,_]) 0 ty89.h rfl rfl rfl rfl) ?_)
 obtain ⟨x4,hx4,H⟩:=bindE H
 refine rq (Qt.call (vs:=[_]) ent58 rfl fun w s=>peer_May_walk a0_p w ((Rd.base h0) w s) ((Rd.base h1) w s) ((Rd.base h2) w s) ((Rd.base h3) w s) ((Rd.base h4) w s) hx4) (au 2 ?_)
 refine RS.joinB H 4 14 (fun b7=>.bool b7) [(2,_),(3,_),(4,_)] sb ?_ ?_
 ·intro b7 H
  refine rM rfl ?_
  refine RS.joinV 6 21 (.bool (decide ((b7 = true) ∨ (¬ a1_n.dst = a0_p.id)))) [(2,_),(3,_),(4,_)] sb ?_ ?_
  ·refine rM rfl ?_
   refine RS.joinV 6 28 (.bool (decide (((b7 = true) ∨ (¬ a1_n.dst = a0_p.id)) ∨ (a0_p.players < a1_n.frm)))) [(2,_),(3,_),(4,_)] sb ?_ ?_
   ·refine rA rfl (RS.nil (k3 _ _ ?_))
    refine T.cP H rfl (fun hc12 H=>?_) (fun hc12 H=>?_)
    ·refine kq [4] ?_
     refine T.seq fun _ k4=>nz ?_
     refine T.region (rp (Pu.build (cells:=[_,_,_,_,_,_,_,_,_,_,_]) st89 rfl rfl) (au 2 ?_))
     refine RS.nil (k4 _ _ ?_)
     obtain rfl:=sj H
     refine nz ?_
     refine T.rt (Cont.retCT 2 rfl ty89.h rfl rfl rfl rfl fun w' s=>?_)
     exact ⟨⟨(none,0),(none,0),(none,0),(none,0),(none,0)⟩,rfl,(((((s.nilRowG (α:=Inp) 210).nilRowG (α:=Inp) 210).nilRow (α:=Int) 3).nilRow (α:=Int) 3).nilRow (α:=UInt64) 112).pick [8,9,10,11,12] (by decide) rfl⟩
    refine T.seq fun _ k5=>nz ?_
    refine T.region (au 5 ?_)
    obtain ⟨g13,H⟩:=gdE H
    refine rp (Pu.addS rfl rfl g13) (au 2 ?_)
    refine RS.nil (k5 _ _ ?_)
    refine T.cP H rfl (fun hc14 H=>?_) (fun hc14 H=>?_)
    ·refine kq [4] ?_
     refine T.seq fun _ k6=>nz ?_
     refine T.region (rp (Pu.build (cells:=[_,_,_,_,_,_,_,_,_,_,_]) st89 rfl rfl) (au 2 ?_))
     refine RS.nil (k6 _ _ ?_)
     obtain rfl:=sj H
     refine nz ?_
     refine T.rt (Cont.retCT 2 rfl ty89.h rfl rfl rfl rfl fun w' s=>?_)
     exact ⟨⟨(none,0),(none,0),(none,0),(none,0),(none,0)⟩,rfl,(((((s.nilRowG (α:=Inp) 210).nilRowG (α:=Inp) 210).nilRow (α:=Int) 3).nilRow (α:=Int) 3).nilRow (α:=UInt64) 112).pick [8,9,10,11,12] (by decide) rfl⟩
    refine T.skip (k2 _ _ (kq [2,3,4] ?_))
    refine T.seq fun _ k7=>nz ?_
    refine T.region (rq (Qt.ldBA (us:=[_,_,_,_,_,_,_,_,_,_,_]) 0 ty89.h rfl rfl rfl rfl) ?_)
    obtain ⟨x15,hx15,H⟩:=bindE H
    refine RS.solid (Sd.callN (vs:=[_]) ent155 rfl (fun w s=>peer_Own_walk a0_p w ((Rd.base h0) w s) ((Rd.base h1) w s) ((Rd.base h2) w s) ((Rd.base h3) w s) ((Rd.base h4) w s) hx15)) rfl rfl fun ⟨q16,q17,q18,q19,q20⟩=>?_
    refine RS.solid (Sd.stB (cs':=[_,_,_,_,_,_,_,_,_,_,_]) 0 ty89.h rfl rfl rfl rfl rfl rfl rfl rfl) rfl rfl fun _=>RS.nil (k7 _ _ ?_)
    refine T.seq fun _ k8=>T.seq fun _ k9=>nz ?_
    refine dr mixed [0,0,1,0,1,0,1,0,0,1,0,0] ?_
    refine au 7 ?_
    obtain ⟨g21,H⟩:=gdE H
    refine dp rfl (Pu.subS rfl rfl g21) ?_
    obtain ⟨g22,H⟩:=gdE H
    refine RD.know (p:=∃ g cap,q18 = (some g,cap)) (fun w s=>(s.row_some (k:=10) rfl (pos_of g22))) ?_
    rintro ⟨gg23,cc24,rfl⟩
    refine dp rfl (Pu.indexSl sl35.h rfl rfl g22) (dq rfl (Qt.ld0 (α:=Int) (Rd.ofRowN 10 rfl) ty3.h rfl rfl g22 (by rintro _ _ rfl; rfl)) ?_)
    obtain ⟨g25,H⟩:=gdE H
    refine dp rfl (Pu.addS rfl rfl g25) (dp rfl (Pu.bin rfl rfl rfl) (RD.nil (k9 _ _ ?_)))
    refine T.joinE (σ:=List Int × List Inp) (γ:=(Option Nat × Nat)) H (fun s=>s) [(2,_),(3,_),(4,_)] sb (fun (v27,v28) q29=>[]) (fun (v27,v28) q29=>Sat w [blk b1 [.int .i64 x15.id,.int .i64 x15.players,.int .i64 x15.delay,.int .i64 x15.turn,.int .i64 x15.said,rowV q16 x15.mine.length,rowV q29 v28.length,rowV (some gg23,cc24) x15.has.length,rowV q19 x15.acked.length,rowV q20 x15.hashes.length,.bool x15.split] 89,blk b2 [.int .i64 a1_n.frm,.int .i64 a1_n.dst,.int .i64 a1_n.input.turn,.int .i64 a1_n.input.player,.slice p5 a1_n.input.commands.length c5,.int .i64 a1_n.don,.int .u64 (a1_n.hash.toNat:Int),.int .i64 a1_n.hav] 212,blk b3 [.int .i64 0,.int .i64 0,.int .i64 0,.int .i64 0,.int .i64 0,rowV (none,0) 0,rowV (none,0) 0,rowV (none,0) 0,rowV (none,0) 0,rowV (none,0) 0,.bool false] 89,drow 210 (rowV (none,0) 0) ([]:List Inp),drow 210 (rowV (none,0) 0) ([]:List Inp),row nilH 3 (rowV (none,0) 0) ([]:List Int),row nilH 3 (rowV (none,0) 0) ([]:List Int),row nilH 112 (rowV (none,0) 0) ([]:List UInt64),drow 210 (rowV q16 x15.mine.length) x15.mine,dead,row nilH 3 (rowV (some gg23,cc24) x15.has.length) v27,row nilH 3 (rowV q19 x15.acked.length) x15.acked,row nilH 112 (rowV q20 x15.hashes.length) x15.hashes,drow 210 (rowV q29 v28.length) v28]) ?_ ?_
    ·rintro ⟨v27,v28⟩ q29 H
     try dsimp only [Ex.then] at H
     refine Cont.kq [2,3,4] ?_
     refine id (k8 _ _ ?_)
     refine T.seq fun _ k10=>nz ?_
     refine T.region (au 4 ?_)
     refine RS.weakS (fun w s=>Per_shut (R:=[blk b2 [.int .i64 a1_n.frm,.int .i64 a1_n.dst,.int .i64 a1_n.input.turn,.int .i64 a1_n.input.player,.slice p5 a1_n.input.commands.length c5,.int .i64 a1_n.don,.int .u64 (a1_n.hash.toNat:Int),.int .i64 a1_n.hav] 212,blk b3 [.int .i64 0,.int .i64 0,.int .i64 0,.int .i64 0,.int .i64 0,rowV (none,0) 0,rowV (none,0) 0,rowV (none,0) 0,rowV (none,0) 0,rowV (none,0) 0,.bool false] 89,drow 210 (rowV (none,0) 0) ([]:List Inp),drow 210 (rowV (none,0) 0) ([]:List Inp),row nilH 3 (rowV (none,0) 0) ([]:List Int),row nilH 3 (rowV (none,0) 0) ([]:List Int),row nilH 112 (rowV (none,0) 0) ([]:List UInt64),dead]) (g:=b1) (x:=(⟨x15.id,x15.players,x15.delay,x15.turn,x15.said,x15.mine,v28,v27,x15.acked,x15.hashes,x15.split⟩:Per)) ⟨q16,q29,(some gg23,cc24),q19,q20⟩ ((Sat.cellB 0 (Sat.relen (q:=(some gg23,cc24)) (m:=x15.has.length) 10 s rfl) rfl (congrArg (fun z=>[.int .i64 x15.id,.int .i64 x15.players,.int .i64 x15.delay,.int .i64 x15.turn,.int .i64 x15.said,rowV q16 x15.mine.length,rowV q29 v28.length,rowV (some gg23,cc24) z,rowV q19 x15.acked.length,rowV q20 x15.hashes.length,.bool x15.split]) (s.row_fits (q:=(some gg23,cc24)) (m:=x15.has.length) (k:=10) rfl).1)).pick [1,2,3,4,5,6,7,9,0,8,13,10,11,12] (by decide) rfl)) ?_
     obtain ⟨x30,hx30,H⟩:=bindE H
     refine RS.solid (Sd.callF0 0 ent234 rfl rfl (fun w s=>peer_acked_walk b1 (⟨x15.id,x15.players,x15.delay,x15.turn,x15.said,x15.mine,v28,v27,x15.acked,x15.hashes,x15.split⟩:Per) a1_n.frm a1_n.hav  hx30 w s)) rfl rfl fun _=>?_
     refine RS.ex (fun w s=>let ⟨q,s⟩:=Per_open 0 rfl s; ⟨q,s.pickP [0,1,2,3,4,5,6,7,9,8,11,12,13,10]⟩) ?_
     rintro ⟨q31,q32,q33,q34,q35⟩
     dsimp only [List.set,List.cons_append,List.nil_append,pk,List.filterMap,List.getElem?_cons_zero,List.getElem?_cons_succ]
     refine RS.nil (k10 _ _ (kq [2,3,4] ?_))
     refine T.seq fun _ k11=>nz ?_
     refine T.region (au 3 ?_)
     refine RS.joinB H 7 85 (fun b38=>.bool b38) [(2,_),(4,_)] sb ?_ ?_
     ·intro b38 H
      refine au 2 ?_
      refine RS.nil (k11 _ _ ?_)
      refine T.seq fun _ k12=>nz ?_
      refine T.region (au 3 ?_)
      refine RS.nil (k12 _ _ (kq [4,5] ?_))
      obtain rfl:=sj H
      refine nz ?_
      refine T.rt (Cont.retCT 2 rfl ty89.h rfl rfl rfl rfl fun w' s=>?_)
      exact ⟨⟨q31,q32,q33,q34,q35⟩,rfl,s.pc [8,13,10,11,12]⟩
     intro z39 H hJ37
     refine RS.split 78 rfl (fun hc36=>?_) (fun hc36=>?_)
     ·have H:=ifT hc36 H
      refine au 7 ?_
      obtain rfl:=sj H
      exact hJ37 _ _ sb (fun w s=>s)
     have H:=ifB hc36 H
     refine au 5 ?_
     obtain ⟨x40,hx40,H⟩:=bindE H
     refine rq (Qt.call (vs:=[_,_,_]) ent235 rfl fun w s=>peer_split_walk x30 a1_n.don a1_n.hash w ((Rd.ofG 8 rfl) w s) ((Rd.ofG 13 rfl) w s) ((Rd.ofRowN 10 rfl) w s) ((Rd.ofRowN 11 rfl) w s) ((Rd.ofRowN 12 rfl) w s) hx40) (rp (Pu.pickF rfl rfl) ?_)
     obtain rfl:=sj H
     exact hJ37 _ _ sb (fun w s=>s)
    intro z26 H HX26 hJ26
    refine T.cP H rfl (fun hc41 H=>?_) (fun hc41 H=>?_)
    ·refine kq [2,3,4] ?_
     refine T.seq fun _ k13=>nz ?_
     refine T.region (au 4 ?_)
     obtain ⟨x42,hx42,H⟩:=bindE H
     refine RS.solid (Sd.callN (vs:=[_,_]) ent156 rfl (fun w s=>turns_In_walk x15.inputs a1_n.input w ((Rd.ofG 9 rfl) w s) ((Rd.base h5) w s) hx42)) rfl rfl fun q43=>au 5 ?_
     refine RS.nil (k13 _ _ (kq [2,3,4] ?_))
     refine nz ?_
     refine T.region (au 4 ?_)
     obtain ⟨g44,H⟩:=gdE H
     refine rp (Pu.subS rfl rfl g44) ?_
     obtain ⟨g45,H⟩:=gdE H
     refine rp (Pu.indexSl sl35.h rfl rfl g45) (rq (Qt.ld0 (α:=Int) (Rd.ofRowN 10 rfl) ty3.h rfl rfl g45 (by rintro _ _ rfl; rfl)) ?_)
     obtain ⟨g46,H⟩:=gdE H
     refine rp (Pu.addS rfl rfl g46) ?_
     obtain ⟨g47,H⟩:=gdE H
     refine rp (Pu.indexSl sl35.h rfl rfl g47) (RS.solid (Sd.st0 (α:=Int) 10 ((gi x15.has (a1_n.frm - 1)) + 1) rfl ty3.h rfl rfl rfl g47 rfl rfl (by decide) rfl (by rintro _ _ rfl; rfl)) rfl rfl fun _=>?_)
     obtain rfl:=sj H
     refine RS.nil (hJ26 _ _ ((si x15.has (a1_n.frm - 1) ((gi x15.has (a1_n.frm - 1)) + 1)),x42.1) q43 HX26 sb trivial (fun w s=>(s.deadRow).pick [0,1,2,3,4,5,6,7,8,14,10,11,12,13] (by decide) rfl))
    obtain rfl:=sj H
    refine T.skip (hJ26 _ _ (x15.has,x15.inputs) q17 HX26 sb trivial (fun w s=>(s.deadRow).pick [0,1,2,3,4,5,6,7,8,13,10,11,12,9] (by decide) rfl))
   intro hJ11
   refine RS.splitP 22 rfl (fun hc10=>?_) (fun hc10=>?_)
   ·refine au 6 ?_
    exact hJ11 _ _ ⟨dOrT hc10,rfl,rfl,rfl,trivial⟩ (fun w s=>s)
   refine au 6 ?_
   exact hJ11 _ _ ⟨dOrF hc10,rfl,rfl,rfl,trivial⟩ (fun w s=>s)
  intro hJ9
  refine RS.split 15 rfl (fun hc8=>?_) (fun hc8=>?_)
  ·refine au 6 ?_
   exact hJ9 _ _ ⟨dOrT hc8,rfl,rfl,rfl,trivial⟩ (fun w s=>s)
  refine au 6 ?_
  exact hJ9 _ _ ⟨dOrF (bne_of hc8),rfl,rfl,rfl,trivial⟩ (fun w s=>s)
 intro z48 H hJ6
 refine RS.split 10 rfl (fun hc5=>?_) (fun hc5=>?_)
 ·have H:=ifT hc5 H
  refine au 4 ?_
  obtain rfl:=sj H
  exact hJ6 _ _ sb (fun w s=>s)
 have H:=ifB hc5 H
 refine rq (Qt.ldBA (us:=[_,_,_,_,_,_,_,_]) 1 ty212.h rfl rfl rfl rfl) ?_
 obtain ⟨x49,hx49,H⟩:=bindE H
 refine rq (Qt.call (vs:=[_]) ent233 rfl fun w s=>peer_MayNote_walk a1_n w ((Rd.base h5) w s) hx49) (au 2 ?_)
 obtain rfl:=sj H
 exact hJ6 _ _ sb (fun w s=>s)
end Go.Proofs.YtmngdgclldkcfaaGreat
