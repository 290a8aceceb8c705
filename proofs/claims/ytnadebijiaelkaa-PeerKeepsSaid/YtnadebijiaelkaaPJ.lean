/-
  Walks of the peers' functions, more.
-/
import Derived.Test.YtnadebijiaelkaaRows
import Derived.Test.YtnadebijiaelkaaPH
set_option linter.unusedVariables false
set_option linter.unusedSimpArgs false
set_option maxRecDepth 20000
set_option maxHeartbeats 4000000
namespace Go.Proofs.Ytnadebijiaelkaa
open Go.Vg
open Enc (R)
theorem ent13 : Ent Try.prog 13 := ⟨_, _, Try.func13, by kernel_rfl, rfl⟩
theorem ent16 : Ent Try.prog 16 := ⟨_, _, Try.func16, by kernel_rfl, rfl⟩
theorem ent18 : Ent Try.prog 18 := ⟨_, _, Try.func18, by kernel_rfl, rfl⟩
theorem slices_IndexFunc_walk (a0_s : List Inp) (a1_f : Inp → Option Bool) (w : World) {v0 v1 : Value} (h0 : R (hpOf w) a0_s [v0]) (h1 : FnR Try.prog w v1 (fun (y0 : Inp) c => ∃ u0 : Value, c = [.agg #[.int .i64 y0.turn, .int .i64 y0.player, u0]]) (fun (r : Bool) => .bool r) a1_f) {r : Int} (H : slices_IndexFunc a0_s a1_f = some r) : Calls Try.prog 42 #[v0, v1] w fun e w' => e = .returned (.int .i64 r) ∧ Ext w w' := by
 have hm0 := R_max h0
 obtain ⟨p0, c0, rfl⟩ := R_form h0
 unfold slices_IndexFunc at H
 refine T.enter (args := [_, _]) (S := Sat w []) Try.func42 rfl rfl (Sat.start w) ?_
 refine T.seq fun K1 hK1 => ?_
 refine T.region ?_
 refine RS.p (Pu.assign rfl) rfl rfl ?_
 refine RS.nil (hK1 _ _ ?_)
 refine T.seq fun K2 hK2 => ?_
 refine T.seq fun K3 hK3 => ?_
 refine T.region ?_
 refine RS.p (Pu.move rfl) rfl rfl ?_
 refine RS.p (Pu.lenSl sl22 rfl) rfl rfl ?_
 refine RS.p (Pu.move rfl) rfl rfl ?_
 refine RS.nil (hK3 _ _ ?_)
 refine T.joinE (σ := Unit) (γ := Unit) H Ex.go [] trivial (fun _ _ => []) (fun _ _ => Sat w []) ?_ ?_
 ·rintro ⟨⟩ ⟨⟩ H
  try dsimp only [Ex.then] at H
  refine Cont.conseq (fr' := []) ?_ trivial (fun _ s => s)
  refine id (hK2 _ _ ?_)
  refine T.seq fun K4 hK4 => ?_
  refine T.region ?_
  refine RS.p (Pu.assign rfl) rfl rfl ?_
  refine RS.nil (hK4 _ _ ?_)
  obtain rfl := Option.some.inj H
  refine T.rt (Cont.ret1 rfl rfl fun w' s => ?_)
  exact ⟨rfl, s.ext⟩
 ·intro z1 hz1 HX1 hJ1
  refine T.block ?_
  refine T.loopA (γ := Unit) hz1 [(0, _), (1, _), (7, _)] (fun v2 _ => [(8, .int .i64 v2)]) (fun v2 _ => Sat w []) () ⟨rfl, rfl, rfl, trivial⟩ ⟨rfl, trivial⟩ (fun w s => s) ?_
  rintro v2 ⟨⟩ y3 H hd1 KL1 hL1
  try dsimp only [Ex.then] at H
  refine T.conseq (fr' := [(8, _), (0, _), (1, _), (7, _)]) ?_ ⟨rfl, rfl, rfl, rfl, trivial⟩ (fun _ s => s)
  refine T.seq fun K5 hK5 => ?_
  refine T.region ?_
  refine RS.p (Pu.bin rfl rfl rfl) rfl rfl ?_
  refine RS.nil (hK5 _ _ ?_)
  refine T.seq fun K6 hK6 => ?_
  refine T.condP rfl (fun hc4 => ?_) (fun hc4 => ?_)
  ·have H := ifT hc4 H
   refine T.skip (hK6 _ _ ?_)
   refine T.seq fun K7 hK7 => ?_
   refine T.block ?_
   refine T.seq fun K8 hK8 => ?_
   refine T.region ?_
   refine RS.p (Pu.move rfl) rfl rfl ?_
   refine RS.p (Pu.assign rfl) rfl rfl ?_
   refine RS.nil (hK8 _ _ ?_)
   refine T.seq fun K9 hK9 => ?_
   refine T.region ?_
   refine RS.p (Pu.move rfl) rfl rfl ?_
   refine RS.p (Pu.move rfl) rfl rfl ?_
   refine RS.p (Pu.move rfl) rfl rfl ?_
   obtain ⟨g5, H⟩ := gdE H
   obtain ⟨bl6, ol7, rfl⟩ := R_ptr h0 (ne_of_pos (pos_of g5))
   refine RS.p (Pu.indexSl sl22 rfl rfl g5) rfl rfl ?_
   obtain ⟨c8, hc9, ha10⟩ := R_el (α := Inp) h0 g5
   obtain ⟨u11, rfl, hu11⟩ := hc9
   obtain ⟨p12, cc13, rfl⟩ := R_form hu11
   refine RS.q (Qt.ldZ (cs := [_, _, _]) ty35 rfl ha10 Held.base rfl) rfl rfl ?_
   obtain ⟨x14, hx14, H⟩ := bindE H
   refine RS.q (Qt.callR rfl h1 (fun w s => s.ext) hx14 rfl ⟨_, rfl⟩) rfl rfl ?_
   refine RS.nil (hK9 _ _ ?_)
   refine T.cond rfl (fun hc15 => ?_) (fun hc15 => ?_)
   ·have H := ifT hc15 H
    refine T.conseq (fr' := [(5, _)]) ?_ ⟨rfl, trivial⟩ (fun _ s => s)
    refine T.seq fun K10 hK10 => ?_
    refine T.region ?_
    refine RS.p (Pu.move rfl) rfl rfl ?_
    refine RS.p (Pu.assign rfl) rfl rfl ?_
    refine RS.nil (hK10 _ _ ?_)
    obtain rfl := hd1 _ H
    have H := HX1
    obtain rfl := Option.some.inj H
    refine T.rt (Cont.ret1 rfl rfl fun w' s => ?_)
    exact ⟨rfl, s.ext⟩
   ·have H := ifB hc15 H
    refine T.skip (hK7 _ _ (T.conseq (fr' := [(0, _), (1, _), (7, _), (8, _)]) ?_ ⟨rfl, rfl, rfl, rfl, trivial⟩ (fun _ s => s)))
    refine T.region ?_
    obtain ⟨g16, H⟩ := gdE H
    refine RS.p (Pu.addS rfl rfl g16) rfl rfl ?_
    refine RS.p (Pu.move rfl) rfl rfl ?_
    refine RS.nil (hL1 _ _ (v2 + 1) () H ⟨rfl, rfl, rfl, trivial⟩ ⟨rfl, trivial⟩ (fun w s => s))
  ·have H := ifF hc4 H
   obtain rfl := hd1 _ H
   refine T.xt (hJ1 _ _ () () HX1 trivial trivial (fun w s => s))
theorem thronglaw28_num_walk (a0_e : Int) (w : World) {r : Int} (H : thronglaw28_num a0_e = some r) : Calls Try.prog 13 #[.int .i64 a0_e] w fun e w' => e = .returned (.int .i64 r) ∧ Ext w w' := by
 unfold thronglaw28_num at H
 refine T.enter (args := [_]) (S := Sat w []) Try.func13 rfl rfl (Sat.start w) ?_
 refine T.seq fun K1 hK1 => ?_
 refine T.region ?_
 refine RS.p (Pu.assign rfl) rfl rfl ?_
 refine RS.nil (hK1 _ _ ?_)
 refine T.seq fun K2 hK2 => ?_
 refine T.region ?_
 refine RS.p (Pu.move rfl) rfl rfl ?_
 refine RS.p (Pu.assign rfl) rfl rfl ?_
 refine RS.nil (hK2 _ _ ?_)
 obtain rfl := Option.some.inj H
 refine T.rt (Cont.ret1 rfl rfl fun w' s => ?_)
 exact ⟨rfl, s.ext⟩
theorem thronglaw28_wakes_walk (w : World) {r : Bool} (H : thronglaw28_wakes = some r) : Calls Try.prog 15 #[] w fun e w' => e = .returned (.bool r) ∧ Ext w w' := by
 unfold thronglaw28_wakes at H
 refine T.enter (args := []) (S := Sat w []) Try.func15 rfl rfl (Sat.start w) ?_
 refine T.seq fun K1 hK1 => ?_
 refine T.region ?_
 refine RS.p (Pu.assign rfl) rfl rfl ?_
 refine RS.nil (hK1 _ _ ?_)
 refine T.seq fun K2 hK2 => ?_
 refine T.region ?_
 obtain ⟨x1, hx1, H⟩ := bindE H
 refine RS.solid (Sd.callN (vs := [.int .i64 1, .int .i64 1, .int .i64 1]) ent16 rfl (fun w s => peer_New_walk 1 1 1 w  hx1)) rfl rfl fun ⟨q2, q3, q4, q5, q6⟩ => ?_
 refine RS.p (Pu.move rfl) rfl rfl ?_
 refine RS.p (Pu.extract rfl rfl) rfl rfl ?_
 refine RS.p (Pu.extract rfl rfl) rfl rfl ?_
 refine RS.solid (Sd.alloc zr26 rfl) rfl rfl fun b7 => ?_
 refine RS.solid (Sd.stB (cs' := [_, _, _, _, _, _, _, _, _, _, _]) 5 ty26 rfl rfl rfl rfl rfl rfl rfl rfl) rfl rfl fun _ => ?_
 refine RS.p (Pu.assign rfl) rfl rfl ?_
 refine RS.nil (hK2 _ _ (T.conseq (fr' := [(1, _), (2, _)]) ?_ ⟨rfl, rfl, trivial⟩ (fun _ s => s)))
 refine T.seq fun K3 hK3 => ?_
 refine T.region ?_
 refine RS.q (Qt.ldBA (us := [_, _, _, _, _, _, _, _, _, _, _]) 5 ty26 rfl rfl rfl rfl) rfl rfl ?_
 obtain ⟨x8, hx8, H⟩ := bindE H
 refine RS.solid (Sd.callN (vs := [.agg #[.int .i64 x1.1.id, .int .i64 x1.1.players, .int .i64 x1.1.delay, .int .i64 x1.1.turn, .int .i64 x1.1.said, rowV q2 x1.1.mine.length, rowV q3 x1.1.inputs.length, rowV q4 x1.1.has.length, rowV q5 x1.1.acked.length, rowV q6 x1.1.hashes.length, .bool x1.1.split]]) ent18 rfl (fun w s => peer_Ready_walk x1.1 w ((Rd.ofG 0 rfl) w s) ((Rd.ofG 1 rfl) w s) ((Rd.ofRowN 2 rfl) w s) ((Rd.ofRowN 3 rfl) w s) ((Rd.ofRowN 4 rfl) w s) hx8)) rfl rfl fun q9 => ?_
 refine RS.p (Pu.move rfl) rfl rfl ?_
 refine RS.p (Pu.extract rfl rfl) rfl rfl ?_
 refine RS.p (Pu.extract rfl rfl) rfl rfl ?_
 refine RS.p (Pu.extract rfl rfl) rfl rfl ?_
 refine RS.p (Pu.assign rfl) rfl rfl ?_
 refine RS.p (Pu.assign rfl) rfl rfl ?_
 refine RS.p (Pu.assign rfl) rfl rfl ?_
 refine RS.nil (hK3 _ _ (T.conseq (fr' := [(2, _), (3, _), (4, _), (5, _)]) ?_ ⟨rfl, rfl, rfl, rfl, trivial⟩ (fun _ s => s)))
 refine T.seq fun K4 hK4 => ?_
 refine T.weakS (S' := Sat w [drow 35 (rowV q2 x1.1.mine.length) x1.1.mine, drow 35 (rowV q3 x1.1.inputs.length) x1.1.inputs, row nilH 3 (rowV q4 x1.1.has.length) x1.1.has, row nilH 3 (rowV q5 x1.1.acked.length) x1.1.acked, row nilH 36 (rowV q6 x1.1.hashes.length) x1.1.hashes, blk b7 [.int .i64 x1.1.id, .int .i64 x1.1.players, .int .i64 x1.1.delay, .int .i64 x1.1.turn, .int .i64 x1.1.said, rowV q2 x1.1.mine.length, rowV q3 x1.1.inputs.length, rowV q4 x1.1.has.length, rowV q5 x1.1.acked.length, rowV q6 x1.1.hashes.length, .bool x1.1.split] 26, drow 63 (rowV q9 x8.1.length) x8.1]) (fun w s => s) ?_
 refine T.region ?_
 refine RS.p (Pu.move rfl) rfl rfl ?_
 obtain ⟨x10, hx10, H⟩ := bindE H
 refine RS.q (Qt.call (vs := [.int .i64 x1.2]) ent13 rfl fun w s => thronglaw28_num_walk x1.2 w  hx10) rfl rfl ?_
 refine RS.p (Pu.bin rfl rfl rfl) rfl rfl ?_
 refine RS.p (Pu.move rfl) rfl rfl ?_
 refine RS.joinB H 4 23 (fun b13 => .bool b13) [(3, _), (4, _)] ⟨rfl, rfl, trivial⟩ ?_ ?_
 ·intro b13 H
  refine RS.p (Pu.move rfl) rfl rfl ?_
  refine RS.joinV 2 26 (.bool (decide ((b13 = true) ∧ (x8.2.1 = true)))) [(3, _)] ⟨rfl, trivial⟩ ?_ ?_
  ·refine RS.p (Pu.move rfl) rfl rfl ?_
   refine RS.joinV 4 31 (.bool (decide (((b13 = true) ∧ (x8.2.1 = true)) ∧ ((x8.1.length : Int) = 0)))) [] trivial ?_ ?_
   ·refine RS.p (Pu.assign rfl) rfl rfl ?_
    refine RS.nil (hK4 _ _ ?_)
    obtain rfl := Option.some.inj H
    refine T.weakS (S' := Sat w [drow 35 (rowV q2 x1.1.mine.length) x1.1.mine, drow 35 (rowV q3 x1.1.inputs.length) x1.1.inputs, row nilH 3 (rowV q4 x1.1.has.length) x1.1.has, row nilH 3 (rowV q5 x1.1.acked.length) x1.1.acked, row nilH 36 (rowV q6 x1.1.hashes.length) x1.1.hashes, blk b7 [.int .i64 x1.1.id, .int .i64 x1.1.players, .int .i64 x1.1.delay, .int .i64 x1.1.turn, .int .i64 x1.1.said, rowV q2 x1.1.mine.length, rowV q3 x1.1.inputs.length, rowV q4 x1.1.has.length, rowV q5 x1.1.acked.length, rowV q6 x1.1.hashes.length, .bool x1.1.split] 26, drow 63 (rowV q9 x8.1.length) x8.1]) (fun w s => s) ?_
    refine T.rt (Cont.ret1 rfl rfl fun w' s => ?_)
    exact ⟨rfl, s.ext⟩
   ·intro hJ17
    refine RS.splitP 27 rfl (fun hc16 => ?_) (fun hc16 => ?_)
    ·refine RS.p (Pu.move rfl) rfl rfl ?_
     refine RS.p (Pu.lenSl sl33 rfl) rfl rfl ?_
     refine RS.p (Pu.bin rfl rfl rfl) rfl rfl ?_
     refine RS.p (Pu.pickT rfl rfl) rfl rfl ?_
     exact hJ17 _ _ ⟨dAndT hc16, trivial⟩ (fun w s => s)
    ·refine RS.no rfl rfl ?_
     refine RS.no rfl rfl ?_
     refine RS.no rfl rfl ?_
     refine RS.p (Pu.pickF rfl rfl) rfl rfl ?_
     exact hJ17 _ _ ⟨dAndF hc16, trivial⟩ (fun w s => s)
  ·intro hJ15
   refine RS.split 24 rfl (fun hc14 => ?_) (fun hc14 => ?_)
   ·refine RS.p (Pu.move rfl) rfl rfl ?_
    refine RS.p (Pu.pickT rfl rfl) rfl rfl ?_
    exact hJ15 _ _ ⟨dAndTB hc14, rfl, trivial⟩ (fun w s => s)
   ·refine RS.no rfl rfl ?_
    refine RS.p (Pu.pickF rfl rfl) rfl rfl ?_
    exact hJ15 _ _ ⟨dAndF (bne_of hc14), rfl, trivial⟩ (fun w s => s)
 ·intro z18 H hJ12
  refine RS.splitP 19 rfl (fun hc11 => ?_) (fun hc11 => ?_)
  ·have H := ifT hc11 H
   refine RS.p (Pu.move rfl) rfl rfl ?_
   obtain ⟨x19, hx19, H⟩ := bindE H
   refine RS.q (Qt.call (vs := [.int .i64 x8.2.2]) ent13 rfl fun w s => thronglaw28_num_walk x8.2.2 w  hx19) rfl rfl ?_
   refine RS.p (Pu.bin rfl rfl rfl) rfl rfl ?_
   refine RS.p (Pu.pickT rfl rfl) rfl rfl ?_
   obtain rfl := Option.some.inj H
   exact hJ12 _ _ ⟨rfl, rfl, rfl, trivial⟩ (fun w s => s)
  ·have H := ifF hc11 H
   refine RS.no rfl rfl ?_
   refine RS.no rfl rfl ?_
   refine RS.no rfl rfl ?_
   refine RS.p (Pu.pickF rfl rfl) rfl rfl ?_
   obtain rfl := Option.some.inj H
   exact hJ12 _ _ ⟨rfl, rfl, rfl, trivial⟩ (fun w s => s)
end Go.Proofs.Ytnadebijiaelkaa
