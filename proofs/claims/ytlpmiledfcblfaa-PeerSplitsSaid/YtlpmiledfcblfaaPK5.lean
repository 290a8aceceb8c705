/-
  Walk of PeerSplits.
-/
import Derived.Test.YtlpmiledfcblfaaRows
import Derived.Test.YtlpmiledfcblfaaPA
import Derived.Test.YtlpmiledfcblfaaPG5
set_option linter.unusedVariables false
set_option linter.unusedSimpArgs false
set_option maxRecDepth 20000
set_option maxHeartbeats 4000000
namespace Go.Proofs.Ytlpmiledfcblfaa
open Go.Vg
open Enc (R)
theorem ent40 : Ent Try.prog 40 := ⟨_, _, Try.func40, by kernel_rfl, rfl⟩
theorem fd61_2 : fdOff Try.prog 61 2 = some 2 := by kernel_rfl
theorem sl59 : slTy Try.prog 59 = some (94, 3, 24) := by kernel_rfl
theorem ty59 : tySz Try.prog 59 = some (1, false) := by kernel_rfl
theorem thronglaw28_PeerSplits_walk (a0_q : Wld28) (w : World) {v0 : Value} (h0 : R (hpOf w) a0_q.l [v0]) {r : Bool} (H : thronglaw28_PeerSplits a0_q = some r) : Calls Try.prog 9 #[.agg #[.int .i64 a0_q.n, .int .i64 a0_q.delay, v0]] w fun e w' => e = .returned (.bool r) ∧ Ext w w' := by
 have hm0 := R_max h0
 obtain ⟨p0, c0, rfl⟩ := R_form h0
 unfold thronglaw28_PeerSplits at H
 refine T.enter (args := [_]) (S := Sat w []) Try.func9 rfl rfl (Sat.start w) ?_
 refine T.seq fun K1 hK1 => ?_
 refine T.region ?_
 refine RS.solid (Sd.box (cs := [_, _, _]) rfl rfl) rfl rfl fun b1 => ?_
 refine RS.p (Pu.assign rfl) rfl rfl ?_
 refine RS.nil (hK1 _ _ ?_)
 refine T.seq fun K2 hK2 => ?_
 refine T.region ?_
 obtain ⟨x2, hx2, H⟩ := bindE H
 refine RS.solid (Sd.callN (vs := [.int .i64 1, .int .i64 2, .int .i64 8]) ent15 rfl (fun w s => peer_New_walk 1 2 8 w  hx2)) rfl rfl fun ⟨q3, q4, q5, q6, q7⟩ => ?_
 refine RS.p (Pu.move rfl) rfl rfl ?_
 refine RS.p (Pu.extract rfl rfl) rfl rfl ?_
 refine RS.p (Pu.extract rfl rfl) rfl rfl ?_
 refine RS.solid (Sd.alloc zr28 rfl) rfl rfl fun b8 => ?_
 refine RS.solid (Sd.stB (cs' := [_, _, _, _, _, _, _, _, _, _, _]) 6 ty28 rfl rfl rfl rfl rfl rfl rfl rfl) rfl rfl fun _ => ?_
 refine RS.p (Pu.assign rfl) rfl rfl ?_
 refine RS.nil (hK2 _ _ (T.conseq (fr' := [(1, _), (3, _), (4, _)]) ?_ ⟨rfl, rfl, rfl, trivial⟩ (fun _ s => s)))
 refine T.seq fun K3 hK3 => ?_
 refine T.seq fun K4 hK4 => ?_
 refine T.weakS (S' := Sat w [blk b1 [.int .i64 a0_q.n, .int .i64 a0_q.delay, .slice p0 a0_q.l.length c0] 61, drow 50 (rowV q3 x2.1.mine.length) x2.1.mine, drow 50 (rowV q4 x2.1.inputs.length) x2.1.inputs, row nilH 3 (rowV q5 x2.1.has.length) x2.1.has, row nilH 3 (rowV q6 x2.1.acked.length) x2.1.acked, row nilH 67 (rowV q7 x2.1.hashes.length) x2.1.hashes, blk b8 [.int .i64 x2.1.id, .int .i64 x2.1.players, .int .i64 x2.1.delay, .int .i64 x2.1.turn, .int .i64 x2.1.said, rowV q3 x2.1.mine.length, rowV q4 x2.1.inputs.length, rowV q5 x2.1.has.length, rowV q6 x2.1.acked.length, rowV q7 x2.1.hashes.length, .bool x2.1.split] 28]) (fun w s => s) ?_
 refine T.region ?_
 refine RS.p (Pu.move rfl) rfl rfl ?_
 obtain ⟨x9, hx9, H⟩ := bindE H
 refine RS.q (Qt.call (vs := [.int .i64 x2.2]) ent16 rfl fun w s => thronglaw28_num_walk x2.2 w  hx9) rfl rfl ?_
 refine RS.p (Pu.bin rfl rfl rfl) rfl rfl ?_
 refine RS.nil (hK4 _ _ ?_)
 refine T.condP rfl (fun hc10 => ?_) (fun hc10 => ?_)
 ·have H := ifT hc10 H
  refine T.conseq (fr' := []) ?_ trivial (fun _ s => s)
  refine T.seq fun K5 hK5 => ?_
  refine T.region ?_
  refine RS.p (Pu.assign rfl) rfl rfl ?_
  refine RS.nil (hK5 _ _ ?_)
  obtain rfl := Option.some.inj H
  refine T.weakS (S' := Sat w [blk b1 [.int .i64 a0_q.n, .int .i64 a0_q.delay, .slice p0 a0_q.l.length c0] 61, drow 50 (rowV q3 x2.1.mine.length) x2.1.mine, drow 50 (rowV q4 x2.1.inputs.length) x2.1.inputs, row nilH 3 (rowV q5 x2.1.has.length) x2.1.has, row nilH 3 (rowV q6 x2.1.acked.length) x2.1.acked, row nilH 67 (rowV q7 x2.1.hashes.length) x2.1.hashes, blk b8 [.int .i64 x2.1.id, .int .i64 x2.1.players, .int .i64 x2.1.delay, .int .i64 x2.1.turn, .int .i64 x2.1.said, rowV q3 x2.1.mine.length, rowV q4 x2.1.inputs.length, rowV q5 x2.1.has.length, rowV q6 x2.1.acked.length, rowV q7 x2.1.hashes.length, .bool x2.1.split] 28]) (fun w s => s) ?_
  refine T.retTo (by with_reducible ((repeat (first | apply RetTo.seq | apply RetTo.blk)); exact RetTo.refl _)) (Cont.ret1 rfl rfl fun w' s => ?_)
  exact ⟨rfl, s.ext⟩
 ·have H := ifF hc10 H
  refine T.skip (hK3 _ _ (T.conseq (fr' := [(1, _), (3, _)]) ?_ ⟨rfl, rfl, trivial⟩ (fun _ s => s)))
  refine T.seq fun K6 hK6 => ?_
  refine T.seq fun K7 hK7 => ?_
  refine T.region ?_
  refine RS.p (Pu.assign rfl) rfl rfl ?_
  refine RS.nil (hK7 _ _ ?_)
  refine T.joinE (σ := Int × Int × Int × Int × Int × Bool × List Inp × List Inp × List Int × List Int × List UInt64) (γ := (Option Nat × Nat) × (Option Nat × Nat) × (Option Nat × Nat) × (Option Nat × Nat) × (Option Addr) × Nat) H Ex.go [(1, _), (3, _)] ⟨rfl, rfl, trivial⟩ (fun (v12, v13, v14, v15, v16, v17, v18, v20, v22, v24, v26) (q19, q21, q23, q25, q27, q28) => []) (fun (v12, v13, v14, v15, v16, v17, v18, v20, v22, v24, v26) (q19, q21, q23, q25, q27, q28) => Sat w [blk b1 [.int .i64 a0_q.n, .int .i64 a0_q.delay, .slice p0 a0_q.l.length c0] 61, drow 50 (rowV q19 v18.length) v18, drow 50 (rowV q21 v20.length) v20, row nilH 3 (rowV q23 v22.length) v22, row nilH 3 (rowV q25 v24.length) v24, dead, blk b8 [.int .i64 v12, .int .i64 v13, .int .i64 v14, .int .i64 v15, .int .i64 v16, rowV q19 v18.length, rowV q21 v20.length, rowV q23 v22.length, rowV q25 v24.length, .slice q27 v26.length q28, .bool v17] 28, osl 67 (.slice q27 v26.length q28) v26]) ?_ ?_
  ·rintro ⟨v12, v13, v14, v15, v16, v17, v18, v20, v22, v24, v26⟩ ⟨q19, q21, q23, q25, q27, q28⟩ H
   try dsimp only [Ex.then] at H
   refine Cont.conseq (fr' := [(1, _), (3, _)]) ?_ ⟨rfl, rfl, trivial⟩ (fun _ s => s)
   refine id (hK6 _ _ ?_)
   refine T.seq fun K8 hK8 => ?_
   refine T.seq fun K9 hK9 => ?_
   refine T.region ?_
   refine RS.p (Pu.assign rfl) rfl rfl ?_
   refine RS.nil (hK9 _ _ ?_)
   refine T.joinE (σ := Unit) (γ := Unit) H Ex.go [(1, _)] ⟨rfl, trivial⟩ (fun _ _ => []) (fun _ _ => Sat w [blk b1 [.int .i64 a0_q.n, .int .i64 a0_q.delay, .slice p0 a0_q.l.length c0] 61, drow 50 (rowV q19 v18.length) v18, drow 50 (rowV q21 v20.length) v20, row nilH 3 (rowV q23 v22.length) v22, row nilH 3 (rowV q25 v24.length) v24, dead, blk b8 [.int .i64 v12, .int .i64 v13, .int .i64 v14, .int .i64 v15, .int .i64 v16, rowV q19 v18.length, rowV q21 v20.length, rowV q23 v22.length, rowV q25 v24.length, .slice q27 v26.length q28, .bool v17] 28, osl 67 (.slice q27 v26.length q28) v26]) ?_ ?_
   ·rintro ⟨⟩ ⟨⟩ H
    try dsimp only [Ex.then] at H
    refine Cont.conseq (fr' := [(1, _)]) ?_ ⟨rfl, trivial⟩ (fun _ s => s)
    refine id (hK8 _ _ ?_)
    refine T.seq fun K10 hK10 => ?_
    refine T.weakS (S' := Sat w [blk b1 [.int .i64 a0_q.n, .int .i64 a0_q.delay, .slice p0 a0_q.l.length c0] 61, drow 50 (rowV q19 v18.length) v18, drow 50 (rowV q21 v20.length) v20, row nilH 3 (rowV q23 v22.length) v22, row nilH 3 (rowV q25 v24.length) v24, dead, blk b8 [.int .i64 v12, .int .i64 v13, .int .i64 v14, .int .i64 v15, .int .i64 v16, rowV q19 v18.length, rowV q21 v20.length, rowV q23 v22.length, rowV q25 v24.length, .slice q27 v26.length q28, .bool v17] 28, osl 67 (.slice q27 v26.length q28) v26]) (fun w s => s) ?_
    refine T.region ?_
    refine RS.p (Pu.fieldAddr fd61_2 rfl) rfl rfl ?_
    refine RS.q (Qt.ldB 0 ty59 rfl rfl rfl) rfl rfl ?_
    refine RS.p (Pu.lenSl sl59 rfl) rfl rfl ?_
    refine RS.p (Pu.bin rfl rfl rfl) rfl rfl ?_
    refine RS.p (Pu.move rfl) rfl rfl ?_
    refine RS.joinB H 2 85 (fun b32 => .bool b32) [] trivial ?_ ?_
    ·intro b32 H
     refine RS.p (Pu.assign rfl) rfl rfl ?_
     refine RS.nil (hK10 _ _ ?_)
     obtain rfl := Option.some.inj H
     refine T.weakS (S' := Sat w [blk b1 [.int .i64 a0_q.n, .int .i64 a0_q.delay, .slice p0 a0_q.l.length c0] 61, drow 50 (rowV q19 v18.length) v18, drow 50 (rowV q21 v20.length) v20, row nilH 3 (rowV q23 v22.length) v22, row nilH 3 (rowV q25 v24.length) v24, dead, blk b8 [.int .i64 v12, .int .i64 v13, .int .i64 v14, .int .i64 v15, .int .i64 v16, rowV q19 v18.length, rowV q21 v20.length, rowV q23 v22.length, rowV q25 v24.length, .slice q27 v26.length q28, .bool v17] 28, osl 67 (.slice q27 v26.length q28) v26]) (fun w s => s) ?_
     refine T.retTo (by with_reducible ((repeat (first | apply RetTo.seq | apply RetTo.blk)); exact RetTo.refl _)) (Cont.ret1 rfl rfl fun w' s => ?_)
     exact ⟨rfl, s.ext⟩
    ·intro z33 H hJ31
     refine RS.splitP 83 rfl (fun hc30 => ?_) (fun hc30 => ?_)
     ·have H := ifT hc30 H
      obtain ⟨x34, hx34, H⟩ := bindE H
      refine RS.q (Qt.call (vs := []) ent18 rfl fun w s => thronglaw28_wakes_walk  w  hx34) rfl rfl ?_
      refine RS.p (Pu.pickT rfl rfl) rfl rfl ?_
      obtain rfl := Option.some.inj H
      exact hJ31 _ _ ⟨rfl, trivial⟩ (fun w s => s)
     ·have H := ifF hc30 H
      refine RS.no rfl rfl ?_
      refine RS.p (Pu.pickF rfl rfl) rfl rfl ?_
      obtain rfl := Option.some.inj H
      exact hJ31 _ _ ⟨rfl, trivial⟩ (fun w s => s)
   ·intro z29 hz29 HX29 hJ29
    refine T.block ?_
    refine T.loopA (γ := Unit) hz29 [(1, _), (3, _)] (fun v35 _ => [(8, .int .i64 v35)]) (fun v35 _ => Sat w [blk b1 [.int .i64 a0_q.n, .int .i64 a0_q.delay, .slice p0 a0_q.l.length c0] 61, drow 50 (rowV q19 v18.length) v18, drow 50 (rowV q21 v20.length) v20, row nilH 3 (rowV q23 v22.length) v22, row nilH 3 (rowV q25 v24.length) v24, dead, blk b8 [.int .i64 v12, .int .i64 v13, .int .i64 v14, .int .i64 v15, .int .i64 v16, rowV q19 v18.length, rowV q21 v20.length, rowV q23 v22.length, rowV q25 v24.length, .slice q27 v26.length q28, .bool v17] 28, osl 67 (.slice q27 v26.length q28) v26]) () ⟨rfl, rfl, trivial⟩ ⟨rfl, trivial⟩ (fun w s => s) ?_
    rintro v35 ⟨⟩ y36 H hd29 KL29 hL29
    try dsimp only [Ex.then] at H
    refine T.conseq (fr' := [(8, _), (1, _), (3, _)]) ?_ ⟨rfl, rfl, rfl, trivial⟩ (fun _ s => s)
    refine T.seq fun K11 hK11 => ?_
    refine T.seq fun K12 hK12 => ?_
    refine T.weakS (S' := Sat w [blk b1 [.int .i64 a0_q.n, .int .i64 a0_q.delay, .slice p0 a0_q.l.length c0] 61, drow 50 (rowV q19 v18.length) v18, drow 50 (rowV q21 v20.length) v20, row nilH 3 (rowV q23 v22.length) v22, row nilH 3 (rowV q25 v24.length) v24, dead, blk b8 [.int .i64 v12, .int .i64 v13, .int .i64 v14, .int .i64 v15, .int .i64 v16, rowV q19 v18.length, rowV q21 v20.length, rowV q23 v22.length, rowV q25 v24.length, .slice q27 v26.length q28, .bool v17] 28, osl 67 (.slice q27 v26.length q28) v26]) (fun w s => s) ?_
    refine T.region ?_
    refine RS.p (Pu.move rfl) rfl rfl ?_
    refine RS.p (Pu.bin rfl rfl rfl) rfl rfl ?_
    refine RS.nil (hK12 _ _ ?_)
    refine T.condP rfl (fun hc37 => ?_) (fun hc37 => ?_)
    ·have H := ifT hc37 H
     refine T.skip (hK11 _ _ ?_)
     refine T.seq fun K13 hK13 => ?_
     refine T.block ?_
     refine T.seq fun K14 hK14 => ?_
     refine T.region ?_
     refine RS.p (Pu.assign rfl) rfl rfl ?_
     refine RS.nil (hK14 _ _ ?_)
     refine T.joinE (σ := Unit) (γ := Unit) H Ex.go [(1, _), (3, _), (8, _)] ⟨rfl, rfl, rfl, trivial⟩ (fun _ _ => []) (fun _ _ => Sat w [blk b1 [.int .i64 a0_q.n, .int .i64 a0_q.delay, .slice p0 a0_q.l.length c0] 61, drow 50 (rowV q19 v18.length) v18, drow 50 (rowV q21 v20.length) v20, row nilH 3 (rowV q23 v22.length) v22, row nilH 3 (rowV q25 v24.length) v24, dead, blk b8 [.int .i64 v12, .int .i64 v13, .int .i64 v14, .int .i64 v15, .int .i64 v16, rowV q19 v18.length, rowV q21 v20.length, rowV q23 v22.length, rowV q25 v24.length, .slice q27 v26.length q28, .bool v17] 28, osl 67 (.slice q27 v26.length q28) v26]) ?_ ?_
     ·rintro ⟨⟩ ⟨⟩ H
      try dsimp only [Ex.then] at H
      refine Cont.conseq (fr' := [(1, _), (3, _), (8, _)]) ?_ ⟨rfl, rfl, rfl, trivial⟩ (fun _ s => s)
      refine id (hK13 _ _ ?_)
      refine T.weakS (S' := Sat w [blk b1 [.int .i64 a0_q.n, .int .i64 a0_q.delay, .slice p0 a0_q.l.length c0] 61, drow 50 (rowV q19 v18.length) v18, drow 50 (rowV q21 v20.length) v20, row nilH 3 (rowV q23 v22.length) v22, row nilH 3 (rowV q25 v24.length) v24, dead, blk b8 [.int .i64 v12, .int .i64 v13, .int .i64 v14, .int .i64 v15, .int .i64 v16, rowV q19 v18.length, rowV q21 v20.length, rowV q23 v22.length, rowV q25 v24.length, .slice q27 v26.length q28, .bool v17] 28, osl 67 (.slice q27 v26.length q28) v26]) (fun w s => s) ?_
      refine T.region ?_
      refine RS.p (Pu.move rfl) rfl rfl ?_
      obtain ⟨g39, H⟩ := gdE H
      refine RS.p (Pu.addS rfl rfl g39) rfl rfl ?_
      refine RS.p (Pu.assign rfl) rfl rfl ?_
      refine RS.nil (hL29 _ _ (v35 + 1) () H ⟨rfl, rfl, trivial⟩ ⟨rfl, trivial⟩ (fun w s => s))
     ·intro z38 hz38 HX38 hJ38
      refine T.block ?_
      refine T.loopA (γ := Unit) hz38 [(1, _), (3, _), (8, _)] (fun v40 _ => [(9, .int .i64 v40)]) (fun v40 _ => Sat w [blk b1 [.int .i64 a0_q.n, .int .i64 a0_q.delay, .slice p0 a0_q.l.length c0] 61, drow 50 (rowV q19 v18.length) v18, drow 50 (rowV q21 v20.length) v20, row nilH 3 (rowV q23 v22.length) v22, row nilH 3 (rowV q25 v24.length) v24, dead, blk b8 [.int .i64 v12, .int .i64 v13, .int .i64 v14, .int .i64 v15, .int .i64 v16, rowV q19 v18.length, rowV q21 v20.length, rowV q23 v22.length, rowV q25 v24.length, .slice q27 v26.length q28, .bool v17] 28, osl 67 (.slice q27 v26.length q28) v26]) () ⟨rfl, rfl, rfl, trivial⟩ ⟨rfl, trivial⟩ (fun w s => s) ?_
      rintro v40 ⟨⟩ y41 H hd38 KL38 hL38
      try dsimp only [Ex.then] at H
      refine T.conseq (fr' := [(9, _), (1, _), (3, _), (8, _)]) ?_ ⟨rfl, rfl, rfl, rfl, trivial⟩ (fun _ s => s)
      refine T.seq fun K15 hK15 => ?_
      refine T.seq fun K16 hK16 => ?_
      refine T.weakS (S' := Sat w [blk b1 [.int .i64 a0_q.n, .int .i64 a0_q.delay, .slice p0 a0_q.l.length c0] 61, drow 50 (rowV q19 v18.length) v18, drow 50 (rowV q21 v20.length) v20, row nilH 3 (rowV q23 v22.length) v22, row nilH 3 (rowV q25 v24.length) v24, dead, blk b8 [.int .i64 v12, .int .i64 v13, .int .i64 v14, .int .i64 v15, .int .i64 v16, rowV q19 v18.length, rowV q21 v20.length, rowV q23 v22.length, rowV q25 v24.length, .slice q27 v26.length q28, .bool v17] 28, osl 67 (.slice q27 v26.length q28) v26]) (fun w s => s) ?_
      refine T.region ?_
      refine RS.p (Pu.move rfl) rfl rfl ?_
      refine RS.p (Pu.bin rfl rfl rfl) rfl rfl ?_
      refine RS.nil (hK16 _ _ ?_)
      refine T.condP rfl (fun hc42 => ?_) (fun hc42 => ?_)
      ·have H := ifT hc42 H
       refine T.skip (hK15 _ _ ?_)
       refine T.seq fun K17 hK17 => ?_
       refine T.block ?_
       refine T.seq fun K18 hK18 => ?_
       refine T.weakS (S' := Sat w [blk b1 [.int .i64 a0_q.n, .int .i64 a0_q.delay, .slice p0 a0_q.l.length c0] 61, drow 50 (rowV q19 v18.length) v18, drow 50 (rowV q21 v20.length) v20, row nilH 3 (rowV q23 v22.length) v22, row nilH 3 (rowV q25 v24.length) v24, dead, blk b8 [.int .i64 v12, .int .i64 v13, .int .i64 v14, .int .i64 v15, .int .i64 v16, rowV q19 v18.length, rowV q21 v20.length, rowV q23 v22.length, rowV q25 v24.length, .slice q27 v26.length q28, .bool v17] 28, osl 67 (.slice q27 v26.length q28) v26]) (fun w s => s) ?_
       refine T.region ?_
       refine RS.p (Pu.move rfl) rfl rfl ?_
       refine RS.p (Pu.build (cells := [_, _, _]) st50 rfl rfl) rfl rfl ?_
       refine RS.p (Pu.move rfl) rfl rfl ?_
       obtain ⟨g43, H⟩ := gdE H
       refine RS.p (Pu.addS rfl rfl g43) rfl rfl ?_
       refine RS.p (Pu.move rfl) rfl rfl ?_
       obtain ⟨g44, H⟩ := gdE H
       refine RS.p (Pu.addS rfl rfl g44) rfl rfl ?_
       refine RS.p (Pu.convUH us3 ul67 rfl) rfl rfl ?_
       refine RS.p (Pu.build (cells := [_, _, _, _, _, _, _, _]) st79 rfl rfl) rfl rfl ?_
       refine RS.solid (Sd.alloc zr79 rfl) rfl rfl fun b45 => ?_
       refine RS.solid (Sd.stB (cs' := [_, _, _, _, _, _, _, _]) 8 ty79 rfl rfl rfl rfl rfl rfl rfl rfl) rfl rfl fun _ => ?_
       refine RS.nil (hK18 _ _ (T.conseq (fr' := [(1, _), (3, _), (8, _), (9, _), (10, _)]) ?_ ⟨rfl, rfl, rfl, rfl, rfl, trivial⟩ (fun _ s => s)))
       refine T.seq fun K19 hK19 => ?_
       refine T.seq fun K20 hK20 => ?_
       refine T.weakS (S' := Sat w [blk b1 [.int .i64 a0_q.n, .int .i64 a0_q.delay, .slice p0 a0_q.l.length c0] 61, drow 50 (rowV q19 v18.length) v18, drow 50 (rowV q21 v20.length) v20, row nilH 3 (rowV q23 v22.length) v22, row nilH 3 (rowV q25 v24.length) v24, dead, blk b8 [.int .i64 v12, .int .i64 v13, .int .i64 v14, .int .i64 v15, .int .i64 v16, rowV q19 v18.length, rowV q21 v20.length, rowV q23 v22.length, rowV q25 v24.length, .slice q27 v26.length q28, .bool v17] 28, osl 67 (.slice q27 v26.length q28) v26, blk b45 [.int .i64 2, .int .i64 1, .int .i64 (-1), .int .i64 0, .slice none 0 0, .int .i64 v35, .int .u64 ((UInt64.ofNat (((100 + v35) + v40) % 18446744073709551616).toNat).toNat : Int), .int .i64 (-1)] 79]) (fun w s => s) ?_
       refine T.region ?_
       refine RS.p (Pu.move rfl) rfl rfl ?_
       refine RS.p (Pu.bin rfl rfl rfl) rfl rfl ?_
       refine RS.nil (hK20 _ _ ?_)
       refine T.joinE (σ := UInt64) (γ := Unit) H (fun s => s) [(1, _), (3, _), (8, _), (9, _), (10, _)] ⟨rfl, rfl, rfl, rfl, rfl, trivial⟩ (fun v47 _ => []) (fun v47 _ => Sat w [blk b1 [.int .i64 a0_q.n, .int .i64 a0_q.delay, .slice p0 a0_q.l.length c0] 61, drow 50 (rowV q19 v18.length) v18, drow 50 (rowV q21 v20.length) v20, row nilH 3 (rowV q23 v22.length) v22, row nilH 3 (rowV q25 v24.length) v24, dead, blk b8 [.int .i64 v12, .int .i64 v13, .int .i64 v14, .int .i64 v15, .int .i64 v16, rowV q19 v18.length, rowV q21 v20.length, rowV q23 v22.length, rowV q25 v24.length, .slice q27 v26.length q28, .bool v17] 28, osl 67 (.slice q27 v26.length q28) v26, blk b45 [.int .i64 2, .int .i64 1, .int .i64 (-1), .int .i64 0, .slice none 0 0, .int .i64 v35, .int .u64 (v47.toNat : Int), .int .i64 (-1)] 79]) ?_ ?_
       ·rintro v47 ⟨⟩ H
        try dsimp only [Ex.then] at H
        refine Cont.conseq (fr' := [(1, _), (3, _), (8, _), (9, _), (10, _)]) ?_ ⟨rfl, rfl, rfl, rfl, rfl, trivial⟩ (fun _ s => s)
        refine id (hK19 _ _ ?_)
        refine T.seq fun K21 hK21 => ?_
        refine T.weakS (S' := Sat w [blk b1 [.int .i64 a0_q.n, .int .i64 a0_q.delay, .slice p0 a0_q.l.length c0] 61, drow 50 (rowV q19 v18.length) v18, drow 50 (rowV q21 v20.length) v20, row nilH 3 (rowV q23 v22.length) v22, row nilH 3 (rowV q25 v24.length) v24, dead, blk b8 [.int .i64 v12, .int .i64 v13, .int .i64 v14, .int .i64 v15, .int .i64 v16, rowV q19 v18.length, rowV q21 v20.length, rowV q23 v22.length, rowV q25 v24.length, .slice q27 v26.length q28, .bool v17] 28, osl 67 (.slice q27 v26.length q28) v26, blk b45 [.int .i64 2, .int .i64 1, .int .i64 (-1), .int .i64 0, .slice none 0 0, .int .i64 v35, .int .u64 (v47.toNat : Int), .int .i64 (-1)] 79]) (fun w s => s) ?_
        refine T.region ?_
        refine RS.q (Qt.ldBA (us := [_, _, _, _, _, _, _, _, _, _, _]) 6 ty28 rfl rfl rfl rfl) rfl rfl ?_
        refine RS.q (Qt.ldBA (us := [_, _, _, _, _, _, _, _]) 8 ty79 rfl rfl rfl rfl) rfl rfl ?_
        obtain ⟨x48, hx48, H⟩ := bindE H
        refine RS.solid (Sd.callN (vs := [.agg #[.int .i64 v12, .int .i64 v13, .int .i64 v14, .int .i64 v15, .int .i64 v16, rowV q19 v18.length, rowV q21 v20.length, rowV q23 v22.length, rowV q25 v24.length, .slice q27 v26.length q28, .bool v17], .agg #[.int .i64 2, .int .i64 1, .int .i64 (-1), .int .i64 0, .slice none 0 0, .int .i64 v35, .int .u64 (v47.toNat : Int), .int .i64 (-1)]]) ent40 rfl (fun w s => peer_Take_walk (⟨v12, v13, v14, v15, v16, v18, v20, v22, v24, v26, v17⟩ : Per) (⟨2, 1, (⟨(-1), 0, []⟩ : Inp), v35, v47, (-1)⟩ : Nte) w ((Rd.ofG 1 rfl) w s) ((Rd.ofG 2 rfl) w s) ((Rd.ofRowN 3 rfl) w s) ((Rd.ofRowN 4 rfl) w s) ((Rd.ofOsl 7 rfl) w s) ((Rd.nil (α := Cmd)) w s) hx48)) rfl rfl fun ⟨q49, q50, q51, q52, q53⟩ => ?_
        refine RS.p (Pu.move rfl) rfl rfl ?_
        refine RS.p (Pu.extract rfl rfl) rfl rfl ?_
        refine RS.p (Pu.extract rfl rfl) rfl rfl ?_
        refine RS.solid (Sd.alloc zr28 rfl) rfl rfl fun b54 => ?_
        refine RS.solid (Sd.stB (cs' := [_, _, _, _, _, _, _, _, _, _, _]) 14 ty28 rfl rfl rfl rfl rfl rfl rfl rfl) rfl rfl fun _ => ?_
        refine RS.p (Pu.assign rfl) rfl rfl ?_
        refine RS.nil (hK21 _ _ (T.conseq (fr' := [(1, _), (3, _), (8, _), (9, _), (11, _), (12, _)]) ?_ ⟨rfl, rfl, rfl, rfl, rfl, rfl, trivial⟩ (fun _ s => s)))
        refine T.seq fun K22 hK22 => ?_
        refine T.weakS (S' := Sat w [blk b1 [.int .i64 a0_q.n, .int .i64 a0_q.delay, .slice p0 a0_q.l.length c0] 61, drow 50 (rowV q19 v18.length) v18, drow 50 (rowV q21 v20.length) v20, row nilH 3 (rowV q23 v22.length) v22, row nilH 3 (rowV q25 v24.length) v24, dead, blk b8 [.int .i64 v12, .int .i64 v13, .int .i64 v14, .int .i64 v15, .int .i64 v16, rowV q19 v18.length, rowV q21 v20.length, rowV q23 v22.length, rowV q25 v24.length, .slice q27 v26.length q28, .bool v17] 28, osl 67 (.slice q27 v26.length q28) v26, blk b45 [.int .i64 2, .int .i64 1, .int .i64 (-1), .int .i64 0, .slice none 0 0, .int .i64 v35, .int .u64 (v47.toNat : Int), .int .i64 (-1)] 79, drow 50 (rowV q49 x48.1.mine.length) x48.1.mine, drow 50 (rowV q50 x48.1.inputs.length) x48.1.inputs, row nilH 3 (rowV q51 x48.1.has.length) x48.1.has, row nilH 3 (rowV q52 x48.1.acked.length) x48.1.acked, row nilH 67 (rowV q53 x48.1.hashes.length) x48.1.hashes, blk b54 [.int .i64 x48.1.id, .int .i64 x48.1.players, .int .i64 x48.1.delay, .int .i64 x48.1.turn, .int .i64 x48.1.said, rowV q49 x48.1.mine.length, rowV q50 x48.1.inputs.length, rowV q51 x48.1.has.length, rowV q52 x48.1.acked.length, rowV q53 x48.1.hashes.length, .bool x48.1.split] 28]) (fun w s => s) ?_
        refine T.region ?_
        refine RS.p (Pu.move rfl) rfl rfl ?_
        obtain ⟨x55, hx55, H⟩ := bindE H
        refine RS.q (Qt.call (vs := [.int .i64 x48.2]) ent16 rfl fun w s => thronglaw28_num_walk x48.2 w  hx55) rfl rfl ?_
        refine RS.p (Pu.bin rfl rfl rfl) rfl rfl ?_
        refine RS.p (Pu.move rfl) rfl rfl ?_
        refine RS.joinV 14 78 (.bool (decide ((¬ x55 = 0) ∨ (¬ x48.1.split = (decide (((v40 = 1) ∧ (0 ≤ v35)) ∧ (v35 < 8))))))) [(1, _), (3, _), (8, _), (9, _)] ⟨rfl, rfl, rfl, rfl, trivial⟩ ?_ ?_
        ·refine RS.nil (hK22 _ _ ?_)
         refine T.condP rfl (fun hc58 => ?_) (fun hc58 => ?_)
         ·have H := ifT hc58 H
          refine T.conseq (fr' := []) ?_ trivial (fun _ s => s)
          refine T.seq fun K23 hK23 => ?_
          refine T.region ?_
          refine RS.p (Pu.assign rfl) rfl rfl ?_
          refine RS.nil (hK23 _ _ ?_)
          obtain rfl := hd38 _ H
          have H := HX38
          obtain rfl := hd29 _ H
          have H := HX29
          obtain rfl := Option.some.inj H
          refine T.weakS (S' := Sat w [blk b1 [.int .i64 a0_q.n, .int .i64 a0_q.delay, .slice p0 a0_q.l.length c0] 61, drow 50 (rowV q19 v18.length) v18, drow 50 (rowV q21 v20.length) v20, row nilH 3 (rowV q23 v22.length) v22, row nilH 3 (rowV q25 v24.length) v24, dead, blk b8 [.int .i64 v12, .int .i64 v13, .int .i64 v14, .int .i64 v15, .int .i64 v16, rowV q19 v18.length, rowV q21 v20.length, rowV q23 v22.length, rowV q25 v24.length, .slice q27 v26.length q28, .bool v17] 28, osl 67 (.slice q27 v26.length q28) v26, blk b45 [.int .i64 2, .int .i64 1, .int .i64 (-1), .int .i64 0, .slice none 0 0, .int .i64 v35, .int .u64 (v47.toNat : Int), .int .i64 (-1)] 79, drow 50 (rowV q49 x48.1.mine.length) x48.1.mine, drow 50 (rowV q50 x48.1.inputs.length) x48.1.inputs, row nilH 3 (rowV q51 x48.1.has.length) x48.1.has, row nilH 3 (rowV q52 x48.1.acked.length) x48.1.acked, row nilH 67 (rowV q53 x48.1.hashes.length) x48.1.hashes, blk b54 [.int .i64 x48.1.id, .int .i64 x48.1.players, .int .i64 x48.1.delay, .int .i64 x48.1.turn, .int .i64 x48.1.said, rowV q49 x48.1.mine.length, rowV q50 x48.1.inputs.length, rowV q51 x48.1.has.length, rowV q52 x48.1.acked.length, rowV q53 x48.1.hashes.length, .bool x48.1.split] 28]) (fun w s => s) ?_
          refine T.retTo (by with_reducible ((repeat (first | apply RetTo.seq | apply RetTo.blk)); exact RetTo.refl _)) (Cont.ret1 rfl rfl fun w' s => ?_)
          exact ⟨rfl, s.ext⟩
         ·have H := ifF hc58 H
          refine T.skip (hK17 _ _ ?_)
          refine T.weakS (S' := Sat w [blk b1 [.int .i64 a0_q.n, .int .i64 a0_q.delay, .slice p0 a0_q.l.length c0] 61, drow 50 (rowV q19 v18.length) v18, drow 50 (rowV q21 v20.length) v20, row nilH 3 (rowV q23 v22.length) v22, row nilH 3 (rowV q25 v24.length) v24, dead, blk b8 [.int .i64 v12, .int .i64 v13, .int .i64 v14, .int .i64 v15, .int .i64 v16, rowV q19 v18.length, rowV q21 v20.length, rowV q23 v22.length, rowV q25 v24.length, .slice q27 v26.length q28, .bool v17] 28, osl 67 (.slice q27 v26.length q28) v26, blk b45 [.int .i64 2, .int .i64 1, .int .i64 (-1), .int .i64 0, .slice none 0 0, .int .i64 v35, .int .u64 (v47.toNat : Int), .int .i64 (-1)] 79, drow 50 (rowV q49 x48.1.mine.length) x48.1.mine, drow 50 (rowV q50 x48.1.inputs.length) x48.1.inputs, row nilH 3 (rowV q51 x48.1.has.length) x48.1.has, row nilH 3 (rowV q52 x48.1.acked.length) x48.1.acked, row nilH 67 (rowV q53 x48.1.hashes.length) x48.1.hashes, blk b54 [.int .i64 x48.1.id, .int .i64 x48.1.players, .int .i64 x48.1.delay, .int .i64 x48.1.turn, .int .i64 x48.1.said, rowV q49 x48.1.mine.length, rowV q50 x48.1.inputs.length, rowV q51 x48.1.has.length, rowV q52 x48.1.acked.length, rowV q53 x48.1.hashes.length, .bool x48.1.split] 28]) (fun w s => s) ?_
          refine T.region ?_
          refine RS.p (Pu.move rfl) rfl rfl ?_
          obtain ⟨g59, H⟩ := gdE H
          refine RS.p (Pu.addS rfl rfl g59) rfl rfl ?_
          refine RS.p (Pu.assign rfl) rfl rfl ?_
          refine RS.nil (hL38 _ _ (v40 + 1) () H ⟨rfl, rfl, rfl, trivial⟩ ⟨rfl, trivial⟩ (fun w s => s.pick [0, 1, 2, 3, 4, 5, 6, 7] (by decide) rfl))
        ·intro hJ57
         refine RS.splitP 64 rfl (fun hc56 => ?_) (fun hc56 => ?_)
         ·refine RS.no rfl rfl ?_
          refine RS.no rfl rfl ?_
          refine RS.no rfl rfl ?_
          refine RS.no rfl rfl ?_
          refine RS.no rfl rfl ?_
          refine RS.no rfl rfl ?_
          refine RS.no rfl rfl ?_
          refine RS.no rfl rfl ?_
          refine RS.no rfl rfl ?_
          refine RS.no rfl rfl ?_
          refine RS.no rfl rfl ?_
          refine RS.no rfl rfl ?_
          refine RS.no rfl rfl ?_
          refine RS.p (Pu.pickT rfl rfl) rfl rfl ?_
          exact hJ57 _ _ ⟨dOrT hc56, rfl, rfl, rfl, rfl, trivial⟩ (fun w s => s)
         ·refine RS.p (Pu.fieldAddr fd28_10 rfl) rfl rfl ?_
          refine RS.q (Qt.ldB 14 ty4 rfl rfl rfl) rfl rfl ?_
          refine RS.p (Pu.move rfl) rfl rfl ?_
          refine RS.p (Pu.bin rfl rfl rfl) rfl rfl ?_
          refine RS.p (Pu.move rfl) rfl rfl ?_
          refine RS.joinV 3 72 (.bool (decide ((v40 = 1) ∧ (0 ≤ v35)))) [(1, _), (3, _), (8, _), (9, _), (11, _), (12, _), (61, _), (62, _), (63, _), (64, _), (65, _), (66, _), (67, _), (68, _)] ⟨rfl, rfl, rfl, rfl, rfl, rfl, rfl, rfl, rfl, rfl, rfl, rfl, rfl, rfl, trivial⟩ ?_ ?_
          ·refine RS.p (Pu.move rfl) rfl rfl ?_
           refine RS.joinV 3 76 (.bool (decide (((v40 = 1) ∧ (0 ≤ v35)) ∧ (v35 < 8)))) [(1, _), (3, _), (8, _), (9, _), (11, _), (12, _), (61, _), (62, _), (63, _), (64, _), (65, _), (66, _), (67, _), (68, _), (72, _)] ⟨rfl, rfl, rfl, rfl, rfl, rfl, rfl, rfl, rfl, rfl, rfl, rfl, rfl, rfl, rfl, trivial⟩ ?_ ?_
           ·refine RS.p (Pu.neB ul4 rfl rfl) rfl rfl ?_
            refine RS.p (Pu.pickF rfl rfl) rfl rfl ?_
            exact hJ57 _ _ ⟨dOrF hc56, rfl, rfl, rfl, rfl, trivial⟩ (fun w s => s)
           ·intro hJ63
            refine RS.splitP 73 rfl (fun hc62 => ?_) (fun hc62 => ?_)
            ·refine RS.p (Pu.move rfl) rfl rfl ?_
             refine RS.p (Pu.bin rfl rfl rfl) rfl rfl ?_
             refine RS.p (Pu.pickT rfl rfl) rfl rfl ?_
             exact hJ63 _ _ ⟨dAndT hc62, rfl, rfl, rfl, rfl, rfl, rfl, rfl, rfl, rfl, rfl, rfl, rfl, rfl, rfl, rfl, trivial⟩ (fun w s => s)
            ·refine RS.no rfl rfl ?_
             refine RS.no rfl rfl ?_
             refine RS.p (Pu.pickF rfl rfl) rfl rfl ?_
             exact hJ63 _ _ ⟨dAndF hc62, rfl, rfl, rfl, rfl, rfl, rfl, rfl, rfl, rfl, rfl, rfl, rfl, rfl, rfl, rfl, trivial⟩ (fun w s => s)
          ·intro hJ61
           refine RS.splitP 69 rfl (fun hc60 => ?_) (fun hc60 => ?_)
           ·refine RS.p (Pu.move rfl) rfl rfl ?_
            refine RS.p (Pu.bin rfl rfl rfl) rfl rfl ?_
            refine RS.p (Pu.pickT rfl rfl) rfl rfl ?_
            exact hJ61 _ _ ⟨dAndT hc60, rfl, rfl, rfl, rfl, rfl, rfl, rfl, rfl, rfl, rfl, rfl, rfl, rfl, rfl, trivial⟩ (fun w s => s)
           ·refine RS.no rfl rfl ?_
            refine RS.no rfl rfl ?_
            refine RS.p (Pu.pickF rfl rfl) rfl rfl ?_
            exact hJ61 _ _ ⟨dAndF hc60, rfl, rfl, rfl, rfl, rfl, rfl, rfl, rfl, rfl, rfl, rfl, rfl, rfl, rfl, trivial⟩ (fun w s => s)
       ·intro z46 H HX46 hJ46
        refine T.condP rfl (fun hc64 => ?_) (fun hc64 => ?_)
        ·have H := ifT hc64 H
         refine T.weakS (S' := Sat w [blk b1 [.int .i64 a0_q.n, .int .i64 a0_q.delay, .slice p0 a0_q.l.length c0] 61, drow 50 (rowV q19 v18.length) v18, drow 50 (rowV q21 v20.length) v20, row nilH 3 (rowV q23 v22.length) v22, row nilH 3 (rowV q25 v24.length) v24, dead, blk b8 [.int .i64 v12, .int .i64 v13, .int .i64 v14, .int .i64 v15, .int .i64 v16, rowV q19 v18.length, rowV q21 v20.length, rowV q23 v22.length, rowV q25 v24.length, .slice q27 v26.length q28, .bool v17] 28, osl 67 (.slice q27 v26.length q28) v26, blk b45 [.int .i64 2, .int .i64 1, .int .i64 (-1), .int .i64 0, .slice none 0 0, .int .i64 v35, .int .u64 ((UInt64.ofNat (((100 + v35) + v40) % 18446744073709551616).toNat).toNat : Int), .int .i64 (-1)] 79]) (fun w s => s) ?_
         refine T.region ?_
         refine RS.p (Pu.fieldAddr fd79_4 rfl) rfl rfl ?_
         refine RS.solid (Sd.stB (cs' := [_, _, _, _, _, _, _, _]) 8 ty67 rfl rfl rfl rfl rfl rfl rfl rfl) rfl rfl fun _ => ?_
         obtain rfl := Option.some.inj H
         refine RS.nil (hJ46 _ _ (0 : UInt64) () HX46 ⟨rfl, rfl, rfl, rfl, rfl, trivial⟩ trivial (fun w s => s))
        ·have H := ifF hc64 H
         obtain rfl := Option.some.inj H
         refine T.skip (hJ46 _ _ (UInt64.ofNat (((100 + v35) + v40) % 18446744073709551616).toNat) () HX46 ⟨rfl, rfl, rfl, rfl, rfl, trivial⟩ trivial (fun w s => s))
      ·have H := ifF hc42 H
       obtain rfl := hd38 _ H
       refine T.exitTo (by with_reducible (repeat (first | exact ExTo.here | exact ExTo.hereN | exact ExTo.deep (by repeat (first | exact NmTo.seq | apply NmTo.blk)) | apply ExTo.seq | refine ExTo.past (by decide) ?_))) (hJ38 _ _ () () HX38 ⟨rfl, rfl, rfl, trivial⟩ trivial (fun w s => s))
    ·have H := ifF hc37 H
     obtain rfl := hd29 _ H
     refine T.exitTo (by with_reducible (repeat (first | exact ExTo.here | exact ExTo.hereN | exact ExTo.deep (by repeat (first | exact NmTo.seq | apply NmTo.blk)) | apply ExTo.seq | refine ExTo.past (by decide) ?_))) (hJ29 _ _ () () HX29 ⟨rfl, trivial⟩ trivial (fun w s => s))
  ·intro z11 hz11 HX11 hJ11
   refine T.block ?_
   refine T.loopA (γ := (Option Nat × Nat) × (Option Nat × Nat) × (Option Nat × Nat) × (Option Nat × Nat) × (Option Addr) × Nat) hz11 [(1, _), (3, _)] (fun (v65, v66, v67, v68, v69, v70, v71, l72, l74, l76, l78, l80) (q73, q75, q77, q79, q81, q82) => [(5, .int .i64 v65)]) (fun (v65, v66, v67, v68, v69, v70, v71, l72, l74, l76, l78, l80) (q73, q75, q77, q79, q81, q82) => Sat w [blk b1 [.int .i64 a0_q.n, .int .i64 a0_q.delay, .slice p0 a0_q.l.length c0] 61, drow 50 (rowV q73 l72.length) l72, drow 50 (rowV q75 l74.length) l74, row nilH 3 (rowV q77 l76.length) l76, row nilH 3 (rowV q79 l78.length) l78, osl 67 (.slice q81 l80.length q82) l80, blk b8 [.int .i64 v66, .int .i64 v67, .int .i64 v68, .int .i64 v69, .int .i64 v70, rowV q73 l72.length, rowV q75 l74.length, rowV q77 l76.length, rowV q79 l78.length, .slice q81 l80.length q82, .bool v71] 28]) (q3, q4, q5, q6, (q7.1.map fun g => (⟨g, 0, none⟩ : Addr)), q7.2) ⟨rfl, rfl, trivial⟩ ⟨rfl, trivial⟩ (fun w s => (Sat.rowOsl (q := q7) (m := x2.1.hashes.length) 5 s rfl).pick [0, 1, 2, 3, 4, 5, 6] (by decide) rfl) ?_
   rintro ⟨v65, v66, v67, v68, v69, v70, v71, l72, l74, l76, l78, l80⟩ ⟨q73, q75, q77, q79, q81, q82⟩ y83 H hd11 KL11 hL11
   try dsimp only [Ex.then] at H
   refine T.conseq (fr' := [(5, _), (1, _), (3, _)]) ?_ ⟨rfl, rfl, rfl, trivial⟩ (fun _ s => s)
   refine T.seq fun K24 hK24 => ?_
   refine T.seq fun K25 hK25 => ?_
   refine T.weakS (S' := Sat w [blk b1 [.int .i64 a0_q.n, .int .i64 a0_q.delay, .slice p0 a0_q.l.length c0] 61, drow 50 (rowV q73 l72.length) l72, drow 50 (rowV q75 l74.length) l74, row nilH 3 (rowV q77 l76.length) l76, row nilH 3 (rowV q79 l78.length) l78, osl 67 (.slice q81 l80.length q82) l80, blk b8 [.int .i64 v66, .int .i64 v67, .int .i64 v68, .int .i64 v69, .int .i64 v70, rowV q73 l72.length, rowV q75 l74.length, rowV q77 l76.length, rowV q79 l78.length, .slice q81 l80.length q82, .bool v71] 28]) (fun w s => s) ?_
   refine T.region ?_
   refine RS.p (Pu.move rfl) rfl rfl ?_
   refine RS.p (Pu.bin rfl rfl rfl) rfl rfl ?_
   refine RS.nil (hK25 _ _ ?_)
   refine T.condP rfl (fun hc84 => ?_) (fun hc84 => ?_)
   ·have H := ifT hc84 H
    refine T.skip (hK24 _ _ ?_)
    refine T.seq fun K26 hK26 => ?_
    refine T.block ?_
    refine T.seq fun K27 hK27 => ?_
    refine T.weakS (S' := Sat w [blk b1 [.int .i64 a0_q.n, .int .i64 a0_q.delay, .slice p0 a0_q.l.length c0] 61, drow 50 (rowV q73 l72.length) l72, drow 50 (rowV q75 l74.length) l74, row nilH 3 (rowV q77 l76.length) l76, row nilH 3 (rowV q79 l78.length) l78, osl 67 (.slice q81 l80.length q82) l80, blk b8 [.int .i64 v66, .int .i64 v67, .int .i64 v68, .int .i64 v69, .int .i64 v70, rowV q73 l72.length, rowV q75 l74.length, rowV q77 l76.length, rowV q79 l78.length, .slice q81 l80.length q82, .bool v71] 28]) (fun w s => s) ?_
    refine T.region ?_
    refine RS.q (Qt.ldBA (us := [_, _, _, _, _, _, _, _, _, _, _]) 6 ty28 rfl rfl rfl rfl) rfl rfl ?_
    refine RS.p (Pu.move rfl) rfl rfl ?_
    obtain ⟨g85, H⟩ := gdE H
    refine RS.p (Pu.addS rfl rfl g85) rfl rfl ?_
    refine RS.p (Pu.convUH us3 ul67 rfl) rfl rfl ?_
    obtain ⟨x86, hx86, H⟩ := bindE H
    refine RS.solid (Sd.callN (vs := [.agg #[.int .i64 v66, .int .i64 v67, .int .i64 v68, .int .i64 v69, .int .i64 v70, rowV q73 l72.length, rowV q75 l74.length, rowV q77 l76.length, rowV q79 l78.length, .slice q81 l80.length q82, .bool v71], .int .u64 ((UInt64.ofNat ((100 + v65) % 18446744073709551616).toNat).toNat : Int)]) ent34 rfl (fun w s => peer_Ran_walk (⟨v66, v67, v68, v69, v70, l72, l74, l76, l78, l80, v71⟩ : Per) (UInt64.ofNat ((100 + v65) % 18446744073709551616).toNat) w ((Rd.ofG 1 rfl) w s) ((Rd.ofG 2 rfl) w s) ((Rd.ofRowN 3 rfl) w s) ((Rd.ofRowN 4 rfl) w s) ((Rd.ofOsl 5 rfl) w s) hx86)) rfl rfl fun ⟨q87, q88, q89, q90, u91⟩ => ?_
    refine RS.know (p := ∃ p c, u91 = .slice p x86.1.hashes.length c) (fun w s => s.osl_form (k := 11) rfl) ?_
    rintro ⟨p92, cc93, rfl⟩
    refine RS.p (Pu.move rfl) rfl rfl ?_
    refine RS.p (Pu.extract rfl rfl) rfl rfl ?_
    refine RS.p (Pu.extract rfl rfl) rfl rfl ?_
    refine RS.solid (Sd.alloc zr28 rfl) rfl rfl fun b94 => ?_
    refine RS.solid (Sd.stB (cs' := [_, _, _, _, _, _, _, _, _, _, _]) 12 ty28 rfl rfl rfl rfl rfl rfl rfl rfl) rfl rfl fun _ => ?_
    refine RS.p (Pu.assign rfl) rfl rfl ?_
    refine RS.nil (hK27 _ _ (T.conseq (fr' := [(1, _), (3, _), (5, _), (6, _), (7, _)]) ?_ ⟨rfl, rfl, rfl, rfl, rfl, trivial⟩ (fun _ s => s)))
    refine T.seq fun K28 hK28 => ?_
    refine T.seq fun K29 hK29 => ?_
    refine T.weakS (S' := Sat w [blk b1 [.int .i64 a0_q.n, .int .i64 a0_q.delay, .slice p0 a0_q.l.length c0] 61, drow 50 (rowV q73 l72.length) l72, drow 50 (rowV q75 l74.length) l74, row nilH 3 (rowV q77 l76.length) l76, row nilH 3 (rowV q79 l78.length) l78, osl 67 (.slice q81 l80.length q82) l80, blk b8 [.int .i64 v66, .int .i64 v67, .int .i64 v68, .int .i64 v69, .int .i64 v70, rowV q73 l72.length, rowV q75 l74.length, rowV q77 l76.length, rowV q79 l78.length, .slice q81 l80.length q82, .bool v71] 28, drow 50 (rowV q87 x86.1.mine.length) x86.1.mine, drow 50 (rowV q88 x86.1.inputs.length) x86.1.inputs, row nilH 3 (rowV q89 x86.1.has.length) x86.1.has, row nilH 3 (rowV q90 x86.1.acked.length) x86.1.acked, osl 67 (.slice p92 x86.1.hashes.length cc93) x86.1.hashes, blk b94 [.int .i64 x86.1.id, .int .i64 x86.1.players, .int .i64 x86.1.delay, .int .i64 x86.1.turn, .int .i64 x86.1.said, rowV q87 x86.1.mine.length, rowV q88 x86.1.inputs.length, rowV q89 x86.1.has.length, rowV q90 x86.1.acked.length, .slice p92 x86.1.hashes.length cc93, .bool x86.1.split] 28]) (fun w s => s) ?_
    refine T.region ?_
    refine RS.p (Pu.move rfl) rfl rfl ?_
    obtain ⟨x95, hx95, H⟩ := bindE H
    refine RS.q (Qt.call (vs := [.int .i64 x86.2]) ent16 rfl fun w s => thronglaw28_num_walk x86.2 w  hx95) rfl rfl ?_
    refine RS.p (Pu.bin rfl rfl rfl) rfl rfl ?_
    refine RS.nil (hK29 _ _ ?_)
    refine T.condP rfl (fun hc96 => ?_) (fun hc96 => ?_)
    ·have H := ifT hc96 H
     refine T.conseq (fr' := []) ?_ trivial (fun _ s => s)
     refine T.seq fun K30 hK30 => ?_
     refine T.region ?_
     refine RS.p (Pu.assign rfl) rfl rfl ?_
     refine RS.nil (hK30 _ _ ?_)
     obtain rfl := hd11 _ H
     have H := HX11
     obtain rfl := Option.some.inj H
     refine T.weakS (S' := Sat w [blk b1 [.int .i64 a0_q.n, .int .i64 a0_q.delay, .slice p0 a0_q.l.length c0] 61, drow 50 (rowV q73 l72.length) l72, drow 50 (rowV q75 l74.length) l74, row nilH 3 (rowV q77 l76.length) l76, row nilH 3 (rowV q79 l78.length) l78, osl 67 (.slice q81 l80.length q82) l80, blk b8 [.int .i64 v66, .int .i64 v67, .int .i64 v68, .int .i64 v69, .int .i64 v70, rowV q73 l72.length, rowV q75 l74.length, rowV q77 l76.length, rowV q79 l78.length, .slice q81 l80.length q82, .bool v71] 28, drow 50 (rowV q87 x86.1.mine.length) x86.1.mine, drow 50 (rowV q88 x86.1.inputs.length) x86.1.inputs, row nilH 3 (rowV q89 x86.1.has.length) x86.1.has, row nilH 3 (rowV q90 x86.1.acked.length) x86.1.acked, osl 67 (.slice p92 x86.1.hashes.length cc93) x86.1.hashes, blk b94 [.int .i64 x86.1.id, .int .i64 x86.1.players, .int .i64 x86.1.delay, .int .i64 x86.1.turn, .int .i64 x86.1.said, rowV q87 x86.1.mine.length, rowV q88 x86.1.inputs.length, rowV q89 x86.1.has.length, rowV q90 x86.1.acked.length, .slice p92 x86.1.hashes.length cc93, .bool x86.1.split] 28]) (fun w s => s) ?_
     refine T.retTo (by with_reducible ((repeat (first | apply RetTo.seq | apply RetTo.blk)); exact RetTo.refl _)) (Cont.ret1 rfl rfl fun w' s => ?_)
     exact ⟨rfl, s.ext⟩
    ·have H := ifF hc96 H
     refine T.skip (hK28 _ _ (T.conseq (fr' := [(1, _), (3, _), (5, _), (6, _)]) ?_ ⟨rfl, rfl, rfl, rfl, trivial⟩ (fun _ s => s)))
     refine T.weakS (S' := Sat w [blk b1 [.int .i64 a0_q.n, .int .i64 a0_q.delay, .slice p0 a0_q.l.length c0] 61, drow 50 (rowV q73 l72.length) l72, drow 50 (rowV q75 l74.length) l74, row nilH 3 (rowV q77 l76.length) l76, row nilH 3 (rowV q79 l78.length) l78, osl 67 (.slice q81 l80.length q82) l80, blk b8 [.int .i64 v66, .int .i64 v67, .int .i64 v68, .int .i64 v69, .int .i64 v70, rowV q73 l72.length, rowV q75 l74.length, rowV q77 l76.length, rowV q79 l78.length, .slice q81 l80.length q82, .bool v71] 28, drow 50 (rowV q87 x86.1.mine.length) x86.1.mine, drow 50 (rowV q88 x86.1.inputs.length) x86.1.inputs, row nilH 3 (rowV q89 x86.1.has.length) x86.1.has, row nilH 3 (rowV q90 x86.1.acked.length) x86.1.acked, osl 67 (.slice p92 x86.1.hashes.length cc93) x86.1.hashes, blk b94 [.int .i64 x86.1.id, .int .i64 x86.1.players, .int .i64 x86.1.delay, .int .i64 x86.1.turn, .int .i64 x86.1.said, rowV q87 x86.1.mine.length, rowV q88 x86.1.inputs.length, rowV q89 x86.1.has.length, rowV q90 x86.1.acked.length, .slice p92 x86.1.hashes.length cc93, .bool x86.1.split] 28]) (fun w s => s) ?_
     refine T.region ?_
     refine RS.q (Qt.ldBA (us := [_, _, _, _, _, _, _, _, _, _, _]) 12 ty28 rfl rfl rfl rfl) rfl rfl ?_
     refine RS.solid (Sd.stB (cs' := [_, _, _, _, _, _, _, _, _, _, _]) 6 ty28 rfl rfl rfl rfl rfl rfl rfl rfl) rfl rfl fun _ => ?_
     refine RS.nil (hK26 _ _ ?_)
     refine T.weakS (S' := Sat w [blk b1 [.int .i64 a0_q.n, .int .i64 a0_q.delay, .slice p0 a0_q.l.length c0] 61, drow 50 (rowV q73 l72.length) l72, drow 50 (rowV q75 l74.length) l74, row nilH 3 (rowV q77 l76.length) l76, row nilH 3 (rowV q79 l78.length) l78, osl 67 (.slice q81 l80.length q82) l80, blk b8 [.int .i64 x86.1.id, .int .i64 x86.1.players, .int .i64 x86.1.delay, .int .i64 x86.1.turn, .int .i64 x86.1.said, rowV q87 x86.1.mine.length, rowV q88 x86.1.inputs.length, rowV q89 x86.1.has.length, rowV q90 x86.1.acked.length, .slice p92 x86.1.hashes.length cc93, .bool x86.1.split] 28, drow 50 (rowV q87 x86.1.mine.length) x86.1.mine, drow 50 (rowV q88 x86.1.inputs.length) x86.1.inputs, row nilH 3 (rowV q89 x86.1.has.length) x86.1.has, row nilH 3 (rowV q90 x86.1.acked.length) x86.1.acked, osl 67 (.slice p92 x86.1.hashes.length cc93) x86.1.hashes, blk b94 [.int .i64 x86.1.id, .int .i64 x86.1.players, .int .i64 x86.1.delay, .int .i64 x86.1.turn, .int .i64 x86.1.said, rowV q87 x86.1.mine.length, rowV q88 x86.1.inputs.length, rowV q89 x86.1.has.length, rowV q90 x86.1.acked.length, .slice p92 x86.1.hashes.length cc93, .bool x86.1.split] 28]) (fun w s => s) ?_
     refine T.region ?_
     refine RS.p (Pu.move rfl) rfl rfl ?_
     obtain ⟨g97, H⟩ := gdE H
     refine RS.p (Pu.addS rfl rfl g97) rfl rfl ?_
     refine RS.p (Pu.assign rfl) rfl rfl ?_
     refine RS.nil (hL11 _ _ ((v65 + 1), x86.1.id, x86.1.players, x86.1.delay, x86.1.turn, x86.1.said, x86.1.split, x86.1.mine, x86.1.inputs, x86.1.has, x86.1.acked, x86.1.hashes) (q87, q88, q89, q90, p92, cc93) H ⟨rfl, rfl, trivial⟩ ⟨rfl, trivial⟩ (fun w s => s.pick [0, 7, 8, 9, 10, 11, 6] (by decide) rfl))
   ·have H := ifF hc84 H
    obtain rfl := hd11 _ H
    refine T.exitTo (by with_reducible (repeat (first | exact ExTo.here | exact ExTo.hereN | exact ExTo.deep (by repeat (first | exact NmTo.seq | apply NmTo.blk)) | apply ExTo.seq | refine ExTo.past (by decide) ?_))) (hJ11 _ _ (v66, v67, v68, v69, v70, v71, l72, l74, l76, l78, l80) (q73, q75, q77, q79, q81, q82) HX11 ⟨rfl, rfl, trivial⟩ trivial (fun w s => (s.deadRow).pick [0, 1, 2, 3, 4, 7, 6, 5] (by decide) rfl))
end Go.Proofs.Ytlpmiledfcblfaa
