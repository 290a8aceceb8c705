/-
  Walk of PeerAlone.
-/
import Derived.Test.YtlpmiledfcblfaaRows
import Derived.Test.YtlpmiledfcblfaaPJ
import Derived.Test.YtlpmiledfcblfaaPG2
set_option linter.unusedVariables false
set_option linter.unusedSimpArgs false
set_option maxRecDepth 20000
set_option maxHeartbeats 4000000
namespace Go.Proofs.Ytlpmiledfcblfaa
open Go.Vg
open Enc (R)
theorem ent18 : Ent Try.prog 18 := ⟨_, _, Try.func18, by kernel_rfl, rfl⟩
theorem ent32 : Ent Try.prog 32 := ⟨_, _, Try.func32, by kernel_rfl, rfl⟩
theorem ent34 : Ent Try.prog 34 := ⟨_, _, Try.func34, by kernel_rfl, rfl⟩
theorem ent35 : Ent Try.prog 35 := ⟨_, _, Try.func35, by kernel_rfl, rfl⟩
theorem fd61_1 : fdOff Try.prog 61 1 = some 1 := by kernel_rfl
theorem thronglaw28_PeerAlone_walk (a0_q : Wld28) (w : World) {v0 : Value} (h0 : R (hpOf w) a0_q.l [v0]) {r : Bool} (H : thronglaw28_PeerAlone a0_q = some r) : Calls Try.prog 7 #[.agg #[.int .i64 a0_q.n, .int .i64 a0_q.delay, v0]] w fun e w' => e = .returned (.bool r) ∧ Ext w w' := by
 have hm0 := R_max h0
 obtain ⟨p0, c0, rfl⟩ := R_form h0
 unfold thronglaw28_PeerAlone at H
 refine T.enter (args := [_]) (S := Sat w []) Try.func7 rfl rfl (Sat.start w) ?_
 refine T.seq fun K1 hK1 => ?_
 refine T.region ?_
 refine RS.solid (Sd.box (cs := [_, _, _]) rfl rfl) rfl rfl fun b1 => ?_
 refine RS.p (Pu.assign rfl) rfl rfl ?_
 refine RS.nil (hK1 _ _ ?_)
 refine T.seq fun K2 hK2 => ?_
 refine T.region ?_
 refine RS.p (Pu.fieldAddr fd61_1 rfl) rfl rfl ?_
 refine RS.q (Qt.ldB 0 ty3 rfl rfl rfl) rfl rfl ?_
 refine RS.p (Pu.convUW us3 ul62 rfl) rfl rfl ?_
 obtain ⟨g2, H⟩ := gdE H
 refine RS.p (Pu.remN rfl rfl g2) rfl rfl ?_
 obtain ⟨g3, H⟩ := gdE H
 refine RS.p (Pu.convS us62 ul3 rfl g3) rfl rfl ?_
 obtain ⟨g4, H⟩ := gdE H
 refine RS.p (Pu.addS rfl rfl g4) rfl rfl ?_
 refine RS.p (Pu.assign rfl) rfl rfl ?_
 refine RS.nil (hK2 _ _ (T.conseq (fr' := [(3, _)]) ?_ ⟨rfl, trivial⟩ (fun _ s => s)))
 refine T.seq fun K3 hK3 => ?_
 refine T.region ?_
 refine RS.p (Pu.move rfl) rfl rfl ?_
 obtain ⟨x5, hx5, H⟩ := bindE H
 refine RS.solid (Sd.callN (vs := [.int .i64 1, .int .i64 1, .int .i64 (1 + ((a0_q.delay % 18446744073709551616) % 8))]) ent15 rfl (fun w s => peer_New_walk 1 1 (1 + ((a0_q.delay % 18446744073709551616) % 8)) w  hx5)) rfl rfl fun ⟨q6, q7, q8, q9, q10⟩ => ?_
 refine RS.p (Pu.move rfl) rfl rfl ?_
 refine RS.p (Pu.extract rfl rfl) rfl rfl ?_
 refine RS.p (Pu.extract rfl rfl) rfl rfl ?_
 refine RS.solid (Sd.alloc zr28 rfl) rfl rfl fun b11 => ?_
 refine RS.solid (Sd.stB (cs' := [_, _, _, _, _, _, _, _, _, _, _]) 6 ty28 rfl rfl rfl rfl rfl rfl rfl rfl) rfl rfl fun _ => ?_
 refine RS.p (Pu.assign rfl) rfl rfl ?_
 refine RS.nil (hK3 _ _ (T.conseq (fr' := [(3, _), (4, _), (5, _)]) ?_ ⟨rfl, rfl, rfl, trivial⟩ (fun _ s => s)))
 refine T.seq fun K4 hK4 => ?_
 refine T.seq fun K5 hK5 => ?_
 refine T.weakS (S' := Sat w [blk b1 [.int .i64 a0_q.n, .int .i64 a0_q.delay, .slice p0 a0_q.l.length c0] 61, drow 50 (rowV q6 x5.1.mine.length) x5.1.mine, drow 50 (rowV q7 x5.1.inputs.length) x5.1.inputs, row nilH 3 (rowV q8 x5.1.has.length) x5.1.has, row nilH 3 (rowV q9 x5.1.acked.length) x5.1.acked, row nilH 67 (rowV q10 x5.1.hashes.length) x5.1.hashes, blk b11 [.int .i64 x5.1.id, .int .i64 x5.1.players, .int .i64 x5.1.delay, .int .i64 x5.1.turn, .int .i64 x5.1.said, rowV q6 x5.1.mine.length, rowV q7 x5.1.inputs.length, rowV q8 x5.1.has.length, rowV q9 x5.1.acked.length, rowV q10 x5.1.hashes.length, .bool x5.1.split] 28]) (fun w s => s) ?_
 refine T.region ?_
 refine RS.p (Pu.move rfl) rfl rfl ?_
 obtain ⟨x12, hx12, H⟩ := bindE H
 refine RS.q (Qt.call (vs := [.int .i64 x5.2]) ent16 rfl fun w s => thronglaw28_num_walk x5.2 w  hx12) rfl rfl ?_
 refine RS.p (Pu.bin rfl rfl rfl) rfl rfl ?_
 refine RS.nil (hK5 _ _ ?_)
 refine T.condP rfl (fun hc13 => ?_) (fun hc13 => ?_)
 ·have H := ifT hc13 H
  refine T.conseq (fr' := []) ?_ trivial (fun _ s => s)
  refine T.seq fun K6 hK6 => ?_
  refine T.region ?_
  refine RS.p (Pu.assign rfl) rfl rfl ?_
  refine RS.nil (hK6 _ _ ?_)
  obtain rfl := Option.some.inj H
  refine T.weakS (S' := Sat w [blk b1 [.int .i64 a0_q.n, .int .i64 a0_q.delay, .slice p0 a0_q.l.length c0] 61, drow 50 (rowV q6 x5.1.mine.length) x5.1.mine, drow 50 (rowV q7 x5.1.inputs.length) x5.1.inputs, row nilH 3 (rowV q8 x5.1.has.length) x5.1.has, row nilH 3 (rowV q9 x5.1.acked.length) x5.1.acked, row nilH 67 (rowV q10 x5.1.hashes.length) x5.1.hashes, blk b11 [.int .i64 x5.1.id, .int .i64 x5.1.players, .int .i64 x5.1.delay, .int .i64 x5.1.turn, .int .i64 x5.1.said, rowV q6 x5.1.mine.length, rowV q7 x5.1.inputs.length, rowV q8 x5.1.has.length, rowV q9 x5.1.acked.length, rowV q10 x5.1.hashes.length, .bool x5.1.split] 28]) (fun w s => s) ?_
  refine T.retTo (by with_reducible ((repeat (first | apply RetTo.seq | apply RetTo.blk)); exact RetTo.refl _)) (Cont.ret1 rfl rfl fun w' s => ?_)
  exact ⟨rfl, s.ext⟩
 ·have H := ifF hc13 H
  refine T.skip (hK4 _ _ (T.conseq (fr' := [(3, _), (4, _)]) ?_ ⟨rfl, rfl, trivial⟩ (fun _ s => s)))
  refine T.seq fun K7 hK7 => ?_
  refine T.seq fun K8 hK8 => ?_
  refine T.region ?_
  refine RS.p (Pu.assign rfl) rfl rfl ?_
  refine RS.nil (hK8 _ _ ?_)
  refine T.joinE (σ := Int × Int × Int × Int × Int × Bool × List Inp × List Inp × List Int × List Int × List UInt64) (γ := (Option Nat × Nat) × (Option Nat × Nat) × (Option Nat × Nat) × (Option Nat × Nat) × (Option Addr) × Nat) H Ex.go [] trivial (fun (v15, v16, v17, v18, v19, v20, v21, v23, v25, v27, v29) (q22, q24, q26, q28, q30, q31) => []) (fun (v15, v16, v17, v18, v19, v20, v21, v23, v25, v27, v29) (q22, q24, q26, q28, q30, q31) => Sat w [blk b1 [.int .i64 a0_q.n, .int .i64 a0_q.delay, .slice p0 a0_q.l.length c0] 61, drow 50 (rowV q22 v21.length) v21, drow 50 (rowV q24 v23.length) v23, row nilH 3 (rowV q26 v25.length) v25, row nilH 3 (rowV q28 v27.length) v27, dead, blk b11 [.int .i64 v15, .int .i64 v16, .int .i64 v17, .int .i64 v18, .int .i64 v19, rowV q22 v21.length, rowV q24 v23.length, rowV q26 v25.length, rowV q28 v27.length, .slice q30 v29.length q31, .bool v20] 28, osl 67 (.slice q30 v29.length q31) v29]) ?_ ?_
  ·rintro ⟨v15, v16, v17, v18, v19, v20, v21, v23, v25, v27, v29⟩ ⟨q22, q24, q26, q28, q30, q31⟩ H
   try dsimp only [Ex.then] at H
   refine Cont.conseq (fr' := []) ?_ trivial (fun _ s => s)
   refine id (hK7 _ _ ?_)
   refine T.seq fun K9 hK9 => ?_
   refine T.weakS (S' := Sat w [blk b1 [.int .i64 a0_q.n, .int .i64 a0_q.delay, .slice p0 a0_q.l.length c0] 61, drow 50 (rowV q22 v21.length) v21, drow 50 (rowV q24 v23.length) v23, row nilH 3 (rowV q26 v25.length) v25, row nilH 3 (rowV q28 v27.length) v27, dead, blk b11 [.int .i64 v15, .int .i64 v16, .int .i64 v17, .int .i64 v18, .int .i64 v19, rowV q22 v21.length, rowV q24 v23.length, rowV q26 v25.length, rowV q28 v27.length, .slice q30 v29.length q31, .bool v20] 28, osl 67 (.slice q30 v29.length q31) v29]) (fun w s => s) ?_
   refine T.region ?_
   obtain ⟨x32, hx32, H⟩ := bindE H
   refine RS.q (Qt.call (vs := []) ent18 rfl fun w s => thronglaw28_wakes_walk  w  hx32) rfl rfl ?_
   refine RS.p (Pu.assign rfl) rfl rfl ?_
   refine RS.nil (hK9 _ _ ?_)
   obtain rfl := Option.some.inj H
   refine T.weakS (S' := Sat w [blk b1 [.int .i64 a0_q.n, .int .i64 a0_q.delay, .slice p0 a0_q.l.length c0] 61, drow 50 (rowV q22 v21.length) v21, drow 50 (rowV q24 v23.length) v23, row nilH 3 (rowV q26 v25.length) v25, row nilH 3 (rowV q28 v27.length) v27, dead, blk b11 [.int .i64 v15, .int .i64 v16, .int .i64 v17, .int .i64 v18, .int .i64 v19, rowV q22 v21.length, rowV q24 v23.length, rowV q26 v25.length, rowV q28 v27.length, .slice q30 v29.length q31, .bool v20] 28, osl 67 (.slice q30 v29.length q31) v29]) (fun w s => s) ?_
   refine T.retTo (by with_reducible ((repeat (first | apply RetTo.seq | apply RetTo.blk)); exact RetTo.refl _)) (Cont.ret1 rfl rfl fun w' s => ?_)
   exact ⟨rfl, s.ext⟩
  ·intro z14 hz14 HX14 hJ14
   refine T.block ?_
   refine T.loopA (γ := (Option Nat × Nat) × (Option Nat × Nat) × (Option Nat × Nat) × (Option Nat × Nat) × (Option Addr) × Nat) hz14 [(3, _), (4, _)] (fun (v33, v34, v35, v36, v37, v38, v39, l40, l42, l44, l46, l48) (q41, q43, q45, q47, q49, q50) => [(6, .int .i64 v33)]) (fun (v33, v34, v35, v36, v37, v38, v39, l40, l42, l44, l46, l48) (q41, q43, q45, q47, q49, q50) => Sat w [blk b1 [.int .i64 a0_q.n, .int .i64 a0_q.delay, .slice p0 a0_q.l.length c0] 61, drow 50 (rowV q41 l40.length) l40, drow 50 (rowV q43 l42.length) l42, row nilH 3 (rowV q45 l44.length) l44, row nilH 3 (rowV q47 l46.length) l46, osl 67 (.slice q49 l48.length q50) l48, blk b11 [.int .i64 v34, .int .i64 v35, .int .i64 v36, .int .i64 v37, .int .i64 v38, rowV q41 l40.length, rowV q43 l42.length, rowV q45 l44.length, rowV q47 l46.length, .slice q49 l48.length q50, .bool v39] 28]) (q6, q7, q8, q9, (q10.1.map fun g => (⟨g, 0, none⟩ : Addr)), q10.2) ⟨rfl, rfl, trivial⟩ ⟨rfl, trivial⟩ (fun w s => (Sat.rowOsl (q := q10) (m := x5.1.hashes.length) 5 s rfl).pick [0, 1, 2, 3, 4, 5, 6] (by decide) rfl) ?_
   rintro ⟨v33, v34, v35, v36, v37, v38, v39, l40, l42, l44, l46, l48⟩ ⟨q41, q43, q45, q47, q49, q50⟩ y51 H hd14 KL14 hL14
   try dsimp only [Ex.then] at H
   refine T.conseq (fr' := [(6, _), (3, _), (4, _)]) ?_ ⟨rfl, rfl, rfl, trivial⟩ (fun _ s => s)
   refine T.seq fun K10 hK10 => ?_
   refine T.seq fun K11 hK11 => ?_
   refine T.weakS (S' := Sat w [blk b1 [.int .i64 a0_q.n, .int .i64 a0_q.delay, .slice p0 a0_q.l.length c0] 61, drow 50 (rowV q41 l40.length) l40, drow 50 (rowV q43 l42.length) l42, row nilH 3 (rowV q45 l44.length) l44, row nilH 3 (rowV q47 l46.length) l46, osl 67 (.slice q49 l48.length q50) l48, blk b11 [.int .i64 v34, .int .i64 v35, .int .i64 v36, .int .i64 v37, .int .i64 v38, rowV q41 l40.length, rowV q43 l42.length, rowV q45 l44.length, rowV q47 l46.length, .slice q49 l48.length q50, .bool v39] 28]) (fun w s => s) ?_
   refine T.region ?_
   refine RS.p (Pu.move rfl) rfl rfl ?_
   refine RS.p (Pu.bin rfl rfl rfl) rfl rfl ?_
   refine RS.nil (hK11 _ _ ?_)
   refine T.condP rfl (fun hc52 => ?_) (fun hc52 => ?_)
   ·have H := ifT hc52 H
    refine T.skip (hK10 _ _ ?_)
    refine T.seq fun K12 hK12 => ?_
    refine T.block ?_
    refine T.seq fun K13 hK13 => ?_
    refine T.weakS (S' := Sat w [blk b1 [.int .i64 a0_q.n, .int .i64 a0_q.delay, .slice p0 a0_q.l.length c0] 61, drow 50 (rowV q41 l40.length) l40, drow 50 (rowV q43 l42.length) l42, row nilH 3 (rowV q45 l44.length) l44, row nilH 3 (rowV q47 l46.length) l46, osl 67 (.slice q49 l48.length q50) l48, blk b11 [.int .i64 v34, .int .i64 v35, .int .i64 v36, .int .i64 v37, .int .i64 v38, rowV q41 l40.length, rowV q43 l42.length, rowV q45 l44.length, rowV q47 l46.length, .slice q49 l48.length q50, .bool v39] 28]) (fun w s => s) ?_
    refine T.region ?_
    refine RS.q (Qt.ldBA (us := [_, _, _, _, _, _, _, _, _, _, _]) 6 ty28 rfl rfl rfl rfl) rfl rfl ?_
    refine RS.p (Pu.move rfl) rfl rfl ?_
    refine RS.p (Pu.build (cells := [_, _, _, _, _, _, _, _, _, _]) st54 rfl rfl) rfl rfl ?_
    refine RS.solid (Sd.litS (cs := [_, _, _, _, _, _, _, _, _, _]) sl41 zr54 rfl rfl rfl rfl rfl) rfl rfl fun b53 => ?_
    refine RS.weakS (S' := Sat w [blk b1 [.int .i64 a0_q.n, .int .i64 a0_q.delay, .slice p0 a0_q.l.length c0] 61, drow 50 (rowV q41 l40.length) l40, drow 50 (rowV q43 l42.length) l42, row nilH 3 (rowV q45 l44.length) l44, row nilH 3 (rowV q47 l46.length) l46, osl 67 (.slice q49 l48.length q50) l48, blk b11 [.int .i64 v34, .int .i64 v35, .int .i64 v36, .int .i64 v37, .int .i64 v38, rowV q41 l40.length, rowV q43 l42.length, rowV q45 l44.length, rowV q47 l46.length, .slice q49 l48.length q50, .bool v39] 28, drow 54 (rowV (some b53, 1) 1) ([(⟨1, v33, 5, 7, [], 0, 0, 0, (⟨0, 0⟩ : Vec)⟩ : Cmd)] : List Cmd), dead, dead, dead]) (fun w s => (Sat.litRowG (α := Cmd) (m := 1) 7 10 ([(⟨1, v33, 5, 7, [], 0, 0, 0, (⟨0, 0⟩ : Vec)⟩ : Cmd)] : List Cmd) (Sat.starAt 10 8 (Sat.starAt 10 9 (((s.noStars).noStars).nilRow (α := Int) 3) rfl rfl (by decide)) rfl rfl (by decide)) rfl rfl (by decide) (by decide) rfl (DRF.cons' (α := Cmd) (x := (⟨1, v33, 5, 7, [], 0, 0, 0, (⟨0, 0⟩ : Vec)⟩ : Cmd)) (fun _ h => ⟨_, rfl, h⟩) DRF.nil'))) ?_
    obtain ⟨x54, hx54, H⟩ := bindE H
    refine RS.solid (Sd.callN (vs := [.agg #[.int .i64 v34, .int .i64 v35, .int .i64 v36, .int .i64 v37, .int .i64 v38, rowV q41 l40.length, rowV q43 l42.length, rowV q45 l44.length, rowV q47 l46.length, .slice q49 l48.length q50, .bool v39], rowV (some b53, 1) 1]) ent32 rfl (fun w s => peer_Say_walk (⟨v34, v35, v36, v37, v38, l40, l42, l44, l46, l48, v39⟩ : Per) ([(⟨1, v33, 5, 7, [], 0, 0, 0, (⟨0, 0⟩ : Vec)⟩ : Cmd)] : List Cmd) w ((Rd.ofG 1 rfl) w s) ((Rd.ofG 2 rfl) w s) ((Rd.ofRowN 3 rfl) w s) ((Rd.ofRowN 4 rfl) w s) ((Rd.ofOsl 5 rfl) w s) ((Rd.ofG 7 rfl) w s) hx54)) rfl rfl fun ⟨q55, q56, q57, q58, q59⟩ => ?_
    refine RS.p (Pu.move rfl) rfl rfl ?_
    refine RS.p (Pu.extract rfl rfl) rfl rfl ?_
    refine RS.p (Pu.extract rfl rfl) rfl rfl ?_
    refine RS.solid (Sd.alloc zr28 rfl) rfl rfl fun b60 => ?_
    refine RS.solid (Sd.stB (cs' := [_, _, _, _, _, _, _, _, _, _, _]) 16 ty28 rfl rfl rfl rfl rfl rfl rfl rfl) rfl rfl fun _ => ?_
    refine RS.p (Pu.assign rfl) rfl rfl ?_
    refine RS.nil (hK13 _ _ (T.conseq (fr' := [(3, _), (4, _), (6, _), (7, _), (8, _)]) ?_ ⟨rfl, rfl, rfl, rfl, rfl, trivial⟩ (fun _ s => s)))
    refine T.seq fun K14 hK14 => ?_
    refine T.seq fun K15 hK15 => ?_
    refine T.weakS (S' := Sat w [blk b1 [.int .i64 a0_q.n, .int .i64 a0_q.delay, .slice p0 a0_q.l.length c0] 61, drow 50 (rowV q41 l40.length) l40, drow 50 (rowV q43 l42.length) l42, row nilH 3 (rowV q45 l44.length) l44, row nilH 3 (rowV q47 l46.length) l46, osl 67 (.slice q49 l48.length q50) l48, blk b11 [.int .i64 v34, .int .i64 v35, .int .i64 v36, .int .i64 v37, .int .i64 v38, rowV q41 l40.length, rowV q43 l42.length, rowV q45 l44.length, rowV q47 l46.length, .slice q49 l48.length q50, .bool v39] 28, drow 54 (rowV (some b53, 1) 1) ([(⟨1, v33, 5, 7, [], 0, 0, 0, (⟨0, 0⟩ : Vec)⟩ : Cmd)] : List Cmd), dead, dead, dead, drow 50 (rowV q55 x54.1.mine.length) x54.1.mine, drow 50 (rowV q56 x54.1.inputs.length) x54.1.inputs, row nilH 3 (rowV q57 x54.1.has.length) x54.1.has, row nilH 3 (rowV q58 x54.1.acked.length) x54.1.acked, row nilH 67 (rowV q59 x54.1.hashes.length) x54.1.hashes, blk b60 [.int .i64 x54.1.id, .int .i64 x54.1.players, .int .i64 x54.1.delay, .int .i64 x54.1.turn, .int .i64 x54.1.said, rowV q55 x54.1.mine.length, rowV q56 x54.1.inputs.length, rowV q57 x54.1.has.length, rowV q58 x54.1.acked.length, rowV q59 x54.1.hashes.length, .bool x54.1.split] 28]) (fun w s => s) ?_
    refine T.region ?_
    refine RS.p (Pu.move rfl) rfl rfl ?_
    refine RS.p (Pu.move rfl) rfl rfl ?_
    refine RS.p (Pu.bin rfl rfl rfl) rfl rfl ?_
    refine RS.p (Pu.move rfl) rfl rfl ?_
    refine RS.joinB H 4 49 (fun b63 => .bool b63) [(3, _), (4, _), (6, _), (7, _), (8, _)] ⟨rfl, rfl, rfl, rfl, rfl, trivial⟩ ?_ ?_
    ·intro b63 H
     refine RS.p (Pu.move rfl) rfl rfl ?_
     refine RS.joinB H 14 64 (fun b66 => .bool b66) [(3, _), (4, _), (6, _), (7, _), (8, _)] ⟨rfl, rfl, rfl, rfl, rfl, trivial⟩ ?_ ?_
     ·intro b66 H
      refine RS.nil (hK15 _ _ ?_)
      refine T.cond rfl (fun hc67 => ?_) (fun hc67 => ?_)
      ·have H := ifT hc67 H
       refine T.conseq (fr' := []) ?_ trivial (fun _ s => s)
       refine T.seq fun K16 hK16 => ?_
       refine T.region ?_
       refine RS.p (Pu.assign rfl) rfl rfl ?_
       refine RS.nil (hK16 _ _ ?_)
       obtain rfl := hd14 _ H
       have H := HX14
       obtain rfl := Option.some.inj H
       refine T.weakS (S' := Sat w [blk b1 [.int .i64 a0_q.n, .int .i64 a0_q.delay, .slice p0 a0_q.l.length c0] 61, drow 50 (rowV q41 l40.length) l40, drow 50 (rowV q43 l42.length) l42, row nilH 3 (rowV q45 l44.length) l44, row nilH 3 (rowV q47 l46.length) l46, osl 67 (.slice q49 l48.length q50) l48, blk b11 [.int .i64 v34, .int .i64 v35, .int .i64 v36, .int .i64 v37, .int .i64 v38, rowV q41 l40.length, rowV q43 l42.length, rowV q45 l44.length, rowV q47 l46.length, .slice q49 l48.length q50, .bool v39] 28, drow 54 (rowV (some b53, 1) 1) ([(⟨1, v33, 5, 7, [], 0, 0, 0, (⟨0, 0⟩ : Vec)⟩ : Cmd)] : List Cmd), dead, dead, dead, drow 50 (rowV q55 x54.1.mine.length) x54.1.mine, drow 50 (rowV q56 x54.1.inputs.length) x54.1.inputs, row nilH 3 (rowV q57 x54.1.has.length) x54.1.has, row nilH 3 (rowV q58 x54.1.acked.length) x54.1.acked, row nilH 67 (rowV q59 x54.1.hashes.length) x54.1.hashes, blk b60 [.int .i64 x54.1.id, .int .i64 x54.1.players, .int .i64 x54.1.delay, .int .i64 x54.1.turn, .int .i64 x54.1.said, rowV q55 x54.1.mine.length, rowV q56 x54.1.inputs.length, rowV q57 x54.1.has.length, rowV q58 x54.1.acked.length, rowV q59 x54.1.hashes.length, .bool x54.1.split] 28]) (fun w s => s) ?_
       refine T.retTo (by with_reducible ((repeat (first | apply RetTo.seq | apply RetTo.blk)); exact RetTo.refl _)) (Cont.ret1 rfl rfl fun w' s => ?_)
       exact ⟨rfl, s.ext⟩
      ·have H := ifB hc67 H
       refine T.skip (hK14 _ _ ?_)
       refine T.seq fun K17 hK17 => ?_
       refine T.seq fun K18 hK18 => ?_
       refine T.weakS (S' := Sat w [blk b1 [.int .i64 a0_q.n, .int .i64 a0_q.delay, .slice p0 a0_q.l.length c0] 61, drow 50 (rowV q41 l40.length) l40, drow 50 (rowV q43 l42.length) l42, row nilH 3 (rowV q45 l44.length) l44, row nilH 3 (rowV q47 l46.length) l46, osl 67 (.slice q49 l48.length q50) l48, blk b11 [.int .i64 v34, .int .i64 v35, .int .i64 v36, .int .i64 v37, .int .i64 v38, rowV q41 l40.length, rowV q43 l42.length, rowV q45 l44.length, rowV q47 l46.length, .slice q49 l48.length q50, .bool v39] 28, drow 54 (rowV (some b53, 1) 1) ([(⟨1, v33, 5, 7, [], 0, 0, 0, (⟨0, 0⟩ : Vec)⟩ : Cmd)] : List Cmd), dead, dead, dead, drow 50 (rowV q55 x54.1.mine.length) x54.1.mine, drow 50 (rowV q56 x54.1.inputs.length) x54.1.inputs, row nilH 3 (rowV q57 x54.1.has.length) x54.1.has, row nilH 3 (rowV q58 x54.1.acked.length) x54.1.acked, row nilH 67 (rowV q59 x54.1.hashes.length) x54.1.hashes, blk b60 [.int .i64 x54.1.id, .int .i64 x54.1.players, .int .i64 x54.1.delay, .int .i64 x54.1.turn, .int .i64 x54.1.said, rowV q55 x54.1.mine.length, rowV q56 x54.1.inputs.length, rowV q57 x54.1.has.length, rowV q58 x54.1.acked.length, rowV q59 x54.1.hashes.length, .bool x54.1.split] 28]) (fun w s => s) ?_
       refine T.region ?_
       refine RS.p (Pu.move rfl) rfl rfl ?_
       obtain ⟨x68, hx68, H⟩ := bindE H
       refine RS.q (Qt.call (vs := [.int .i64 x54.2]) ent16 rfl fun w s => thronglaw28_num_walk x54.2 w  hx68) rfl rfl ?_
       refine RS.p (Pu.bin rfl rfl rfl) rfl rfl ?_
       refine RS.nil (hK18 _ _ ?_)
       refine T.joinE (σ := Int × Int × Int × Int × Int × Bool × List Inp × List Inp × List Int × List Int × List UInt64) (γ := (Option Nat × Nat) × (Option Nat × Nat) × (Option Nat × Nat) × (Option Nat × Nat) × (Option Addr) × Nat) H (fun s => s) [(3, _), (4, _), (6, _)] ⟨rfl, rfl, rfl, trivial⟩ (fun (v70, v71, v72, v73, v74, v75, v76, v78, v80, v82, v84) (q77, q79, q81, q83, q85, q86) => []) (fun (v70, v71, v72, v73, v74, v75, v76, v78, v80, v82, v84) (q77, q79, q81, q83, q85, q86) => Sat w [blk b1 [.int .i64 a0_q.n, .int .i64 a0_q.delay, .slice p0 a0_q.l.length c0] 61, dead, dead, dead, dead, dead, blk b11 [.int .i64 v70, .int .i64 v71, .int .i64 v72, .int .i64 v73, .int .i64 v74, rowV q77 v76.length, rowV q79 v78.length, rowV q81 v80.length, rowV q83 v82.length, .slice q85 v84.length q86, .bool v75] 28, drow 54 (rowV (some b53, 1) 1) ([(⟨1, v33, 5, 7, [], 0, 0, 0, (⟨0, 0⟩ : Vec)⟩ : Cmd)] : List Cmd), dead, dead, dead, dead, dead, dead, dead, dead, dead, drow 50 (rowV q77 v76.length) v76, drow 50 (rowV q79 v78.length) v78, row nilH 3 (rowV q81 v80.length) v80, row nilH 3 (rowV q83 v82.length) v82, osl 67 (.slice q85 v84.length q86) v84]) ?_ ?_
       ·rintro ⟨v70, v71, v72, v73, v74, v75, v76, v78, v80, v82, v84⟩ ⟨q77, q79, q81, q83, q85, q86⟩ H
        try dsimp only [Ex.then] at H
        refine Cont.conseq (fr' := [(3, _), (4, _), (6, _)]) ?_ ⟨rfl, rfl, rfl, trivial⟩ (fun _ s => s)
        refine id (hK17 _ _ ?_)
        refine T.seq fun K19 hK19 => ?_
        refine T.weakS (S' := Sat w [blk b1 [.int .i64 a0_q.n, .int .i64 a0_q.delay, .slice p0 a0_q.l.length c0] 61, dead, dead, dead, dead, dead, blk b11 [.int .i64 v70, .int .i64 v71, .int .i64 v72, .int .i64 v73, .int .i64 v74, rowV q77 v76.length, rowV q79 v78.length, rowV q81 v80.length, rowV q83 v82.length, .slice q85 v84.length q86, .bool v75] 28, drow 54 (rowV (some b53, 1) 1) ([(⟨1, v33, 5, 7, [], 0, 0, 0, (⟨0, 0⟩ : Vec)⟩ : Cmd)] : List Cmd), dead, dead, dead, dead, dead, dead, dead, dead, dead, drow 50 (rowV q77 v76.length) v76, drow 50 (rowV q79 v78.length) v78, row nilH 3 (rowV q81 v80.length) v80, row nilH 3 (rowV q83 v82.length) v82, osl 67 (.slice q85 v84.length q86) v84]) (fun w s => s) ?_
        refine T.region ?_
        refine RS.q (Qt.ldBA (us := [_, _, _, _, _, _, _, _, _, _, _]) 6 ty28 rfl rfl rfl rfl) rfl rfl ?_
        obtain ⟨x87, hx87, H⟩ := bindE H
        refine RS.solid (Sd.callN (vs := [.agg #[.int .i64 v70, .int .i64 v71, .int .i64 v72, .int .i64 v73, .int .i64 v74, rowV q77 v76.length, rowV q79 v78.length, rowV q81 v80.length, rowV q83 v82.length, .slice q85 v84.length q86, .bool v75]]) ent33 rfl (fun w s => peer_Ready_walk (⟨v70, v71, v72, v73, v74, v76, v78, v80, v82, v84, v75⟩ : Per) w ((Rd.ofG 17 rfl) w s) ((Rd.ofG 18 rfl) w s) ((Rd.ofRowN 19 rfl) w s) ((Rd.ofRowN 20 rfl) w s) ((Rd.ofOsl 21 rfl) w s) hx87)) rfl rfl fun q88 => ?_
        refine RS.p (Pu.move rfl) rfl rfl ?_
        refine RS.p (Pu.extract rfl rfl) rfl rfl ?_
        refine RS.p (Pu.extract rfl rfl) rfl rfl ?_
        refine RS.p (Pu.extract rfl rfl) rfl rfl ?_
        refine RS.p (Pu.assign rfl) rfl rfl ?_
        refine RS.p (Pu.assign rfl) rfl rfl ?_
        refine RS.p (Pu.assign rfl) rfl rfl ?_
        refine RS.nil (hK19 _ _ (T.conseq (fr' := [(3, _), (4, _), (6, _), (9, _), (10, _), (11, _)]) ?_ ⟨rfl, rfl, rfl, rfl, rfl, rfl, trivial⟩ (fun _ s => s)))
        refine T.seq fun K20 hK20 => ?_
        refine T.seq fun K21 hK21 => ?_
        refine T.weakS (S' := Sat w [blk b1 [.int .i64 a0_q.n, .int .i64 a0_q.delay, .slice p0 a0_q.l.length c0] 61, dead, dead, dead, dead, dead, blk b11 [.int .i64 v70, .int .i64 v71, .int .i64 v72, .int .i64 v73, .int .i64 v74, rowV q77 v76.length, rowV q79 v78.length, rowV q81 v80.length, rowV q83 v82.length, .slice q85 v84.length q86, .bool v75] 28, drow 54 (rowV (some b53, 1) 1) ([(⟨1, v33, 5, 7, [], 0, 0, 0, (⟨0, 0⟩ : Vec)⟩ : Cmd)] : List Cmd), dead, dead, dead, dead, dead, dead, dead, dead, dead, drow 50 (rowV q77 v76.length) v76, drow 50 (rowV q79 v78.length) v78, row nilH 3 (rowV q81 v80.length) v80, row nilH 3 (rowV q83 v82.length) v82, osl 67 (.slice q85 v84.length q86) v84, drow 54 (rowV q88 x87.1.length) x87.1]) (fun w s => s) ?_
        refine T.region ?_
        refine RS.p (Pu.move rfl) rfl rfl ?_
        obtain ⟨x89, hx89, H⟩ := bindE H
        refine RS.q (Qt.call (vs := [.int .i64 x87.2.2]) ent16 rfl fun w s => thronglaw28_num_walk x87.2.2 w  hx89) rfl rfl ?_
        refine RS.p (Pu.bin rfl rfl rfl) rfl rfl ?_
        refine RS.p (Pu.move rfl) rfl rfl ?_
        refine RS.joinV 3 81 (.bool (decide ((¬ x89 = 0) ∨ ((!x87.2.1) = true)))) [(3, _), (4, _), (6, _), (9, _)] ⟨rfl, rfl, rfl, rfl, trivial⟩ ?_ ?_
        ·refine RS.p (Pu.move rfl) rfl rfl ?_
         refine RS.joinV 9 91 (.bool (decide (((¬ x89 = 0) ∨ ((!x87.2.1) = true)) ∨ ((v33 < (1 + ((a0_q.delay % 18446744073709551616) % 8))) ∧ (¬ (x87.1.length : Int) = 0))))) [(3, _), (4, _), (6, _)] ⟨rfl, rfl, rfl, trivial⟩ ?_ ?_
         ·refine RS.nil (hK21 _ _ ?_)
          refine T.condP rfl (fun hc94 => ?_) (fun hc94 => ?_)
          ·have H := ifT hc94 H
           refine T.conseq (fr' := []) ?_ trivial (fun _ s => s)
           refine T.seq fun K22 hK22 => ?_
           refine T.region ?_
           refine RS.p (Pu.assign rfl) rfl rfl ?_
           refine RS.nil (hK22 _ _ ?_)
           obtain rfl := hd14 _ H
           have H := HX14
           obtain rfl := Option.some.inj H
           refine T.weakS (S' := Sat w [blk b1 [.int .i64 a0_q.n, .int .i64 a0_q.delay, .slice p0 a0_q.l.length c0] 61, dead, dead, dead, dead, dead, blk b11 [.int .i64 v70, .int .i64 v71, .int .i64 v72, .int .i64 v73, .int .i64 v74, rowV q77 v76.length, rowV q79 v78.length, rowV q81 v80.length, rowV q83 v82.length, .slice q85 v84.length q86, .bool v75] 28, drow 54 (rowV (some b53, 1) 1) ([(⟨1, v33, 5, 7, [], 0, 0, 0, (⟨0, 0⟩ : Vec)⟩ : Cmd)] : List Cmd), dead, dead, dead, dead, dead, dead, dead, dead, dead, drow 50 (rowV q77 v76.length) v76, drow 50 (rowV q79 v78.length) v78, row nilH 3 (rowV q81 v80.length) v80, row nilH 3 (rowV q83 v82.length) v82, osl 67 (.slice q85 v84.length q86) v84, drow 54 (rowV q88 x87.1.length) x87.1]) (fun w s => s) ?_
           refine T.retTo (by with_reducible ((repeat (first | apply RetTo.seq | apply RetTo.blk)); exact RetTo.refl _)) (Cont.ret1 rfl rfl fun w' s => ?_)
           exact ⟨rfl, s.ext⟩
          ·have H := ifF hc94 H
           refine T.skip (hK20 _ _ ?_)
           refine T.seq fun K23 hK23 => ?_
           refine T.weakS (S' := Sat w [blk b1 [.int .i64 a0_q.n, .int .i64 a0_q.delay, .slice p0 a0_q.l.length c0] 61, dead, dead, dead, dead, dead, blk b11 [.int .i64 v70, .int .i64 v71, .int .i64 v72, .int .i64 v73, .int .i64 v74, rowV q77 v76.length, rowV q79 v78.length, rowV q81 v80.length, rowV q83 v82.length, .slice q85 v84.length q86, .bool v75] 28, drow 54 (rowV (some b53, 1) 1) ([(⟨1, v33, 5, 7, [], 0, 0, 0, (⟨0, 0⟩ : Vec)⟩ : Cmd)] : List Cmd), dead, dead, dead, dead, dead, dead, dead, dead, dead, drow 50 (rowV q77 v76.length) v76, drow 50 (rowV q79 v78.length) v78, row nilH 3 (rowV q81 v80.length) v80, row nilH 3 (rowV q83 v82.length) v82, osl 67 (.slice q85 v84.length q86) v84, drow 54 (rowV q88 x87.1.length) x87.1]) (fun w s => s) ?_
           refine T.region ?_
           refine RS.q (Qt.ldBA (us := [_, _, _, _, _, _, _, _, _, _, _]) 6 ty28 rfl rfl rfl rfl) rfl rfl ?_
           refine RS.p (Pu.move rfl) rfl rfl ?_
           refine RS.p (Pu.convUH us3 ul67 rfl) rfl rfl ?_
           obtain ⟨x95, hx95, H⟩ := bindE H
           refine RS.solid (Sd.callN (vs := [.agg #[.int .i64 v70, .int .i64 v71, .int .i64 v72, .int .i64 v73, .int .i64 v74, rowV q77 v76.length, rowV q79 v78.length, rowV q81 v80.length, rowV q83 v82.length, .slice q85 v84.length q86, .bool v75], .int .u64 ((UInt64.ofNat (v33 % 18446744073709551616).toNat).toNat : Int)]) ent34 rfl (fun w s => peer_Ran_walk (⟨v70, v71, v72, v73, v74, v76, v78, v80, v82, v84, v75⟩ : Per) (UInt64.ofNat (v33 % 18446744073709551616).toNat) w ((Rd.ofG 17 rfl) w s) ((Rd.ofG 18 rfl) w s) ((Rd.ofRowN 19 rfl) w s) ((Rd.ofRowN 20 rfl) w s) ((Rd.ofOsl 21 rfl) w s) hx95)) rfl rfl fun ⟨q96, q97, q98, q99, u100⟩ => ?_
           refine RS.know (p := ∃ p c, u100 = .slice p x95.1.hashes.length c) (fun w s => s.osl_form (k := 27) rfl) ?_
           rintro ⟨p101, cc102, rfl⟩
           refine RS.p (Pu.move rfl) rfl rfl ?_
           refine RS.p (Pu.extract rfl rfl) rfl rfl ?_
           refine RS.p (Pu.extract rfl rfl) rfl rfl ?_
           refine RS.solid (Sd.alloc zr28 rfl) rfl rfl fun b103 => ?_
           refine RS.solid (Sd.stB (cs' := [_, _, _, _, _, _, _, _, _, _, _]) 28 ty28 rfl rfl rfl rfl rfl rfl rfl rfl) rfl rfl fun _ => ?_
           refine RS.p (Pu.assign rfl) rfl rfl ?_
           refine RS.nil (hK23 _ _ (T.conseq (fr' := [(3, _), (4, _), (6, _), (12, _), (13, _)]) ?_ ⟨rfl, rfl, rfl, rfl, rfl, trivial⟩ (fun _ s => s)))
           refine T.seq fun K24 hK24 => ?_
           refine T.weakS (S' := Sat w [blk b1 [.int .i64 a0_q.n, .int .i64 a0_q.delay, .slice p0 a0_q.l.length c0] 61, dead, dead, dead, dead, dead, blk b11 [.int .i64 v70, .int .i64 v71, .int .i64 v72, .int .i64 v73, .int .i64 v74, rowV q77 v76.length, rowV q79 v78.length, rowV q81 v80.length, rowV q83 v82.length, .slice q85 v84.length q86, .bool v75] 28, drow 54 (rowV (some b53, 1) 1) ([(⟨1, v33, 5, 7, [], 0, 0, 0, (⟨0, 0⟩ : Vec)⟩ : Cmd)] : List Cmd), dead, dead, dead, dead, dead, dead, dead, dead, dead, drow 50 (rowV q77 v76.length) v76, drow 50 (rowV q79 v78.length) v78, row nilH 3 (rowV q81 v80.length) v80, row nilH 3 (rowV q83 v82.length) v82, osl 67 (.slice q85 v84.length q86) v84, drow 54 (rowV q88 x87.1.length) x87.1, drow 50 (rowV q96 x95.1.mine.length) x95.1.mine, drow 50 (rowV q97 x95.1.inputs.length) x95.1.inputs, row nilH 3 (rowV q98 x95.1.has.length) x95.1.has, row nilH 3 (rowV q99 x95.1.acked.length) x95.1.acked, osl 67 (.slice p101 x95.1.hashes.length cc102) x95.1.hashes, blk b103 [.int .i64 x95.1.id, .int .i64 x95.1.players, .int .i64 x95.1.delay, .int .i64 x95.1.turn, .int .i64 x95.1.said, rowV q96 x95.1.mine.length, rowV q97 x95.1.inputs.length, rowV q98 x95.1.has.length, rowV q99 x95.1.acked.length, .slice p101 x95.1.hashes.length cc102, .bool x95.1.split] 28]) (fun w s => s) ?_
           refine T.region ?_
           refine RS.q (Qt.ldBA (us := [_, _, _, _, _, _, _, _, _, _, _]) 28 ty28 rfl rfl rfl rfl) rfl rfl ?_
           obtain ⟨x104, hx104, H⟩ := bindE H
           refine RS.solid (Sd.callN (vs := [.agg #[.int .i64 x95.1.id, .int .i64 x95.1.players, .int .i64 x95.1.delay, .int .i64 x95.1.turn, .int .i64 x95.1.said, rowV q96 x95.1.mine.length, rowV q97 x95.1.inputs.length, rowV q98 x95.1.has.length, rowV q99 x95.1.acked.length, .slice p101 x95.1.hashes.length cc102, .bool x95.1.split]]) ent35 rfl (fun w s => peer_Notes_walk x95.1 w ((Rd.ofG 23 rfl) w s) ((Rd.ofG 24 rfl) w s) ((Rd.ofRowN 25 rfl) w s) ((Rd.ofRowN 26 rfl) w s) ((Rd.ofOsl 27 rfl) w s) hx104)) rfl rfl fun q105 => ?_
           refine RS.p (Pu.move rfl) rfl rfl ?_
           refine RS.p (Pu.extract rfl rfl) rfl rfl ?_
           refine RS.p (Pu.extract rfl rfl) rfl rfl ?_
           refine RS.p (Pu.assign rfl) rfl rfl ?_
           refine RS.p (Pu.assign rfl) rfl rfl ?_
           refine RS.nil (hK24 _ _ (T.conseq (fr' := [(3, _), (4, _), (6, _), (12, _), (13, _), (14, _), (15, _)]) ?_ ⟨rfl, rfl, rfl, rfl, rfl, rfl, rfl, trivial⟩ (fun _ s => s)))
           refine T.seq fun K25 hK25 => ?_
           refine T.seq fun K26 hK26 => ?_
           refine T.weakS (S' := Sat w [blk b1 [.int .i64 a0_q.n, .int .i64 a0_q.delay, .slice p0 a0_q.l.length c0] 61, dead, dead, dead, dead, dead, blk b11 [.int .i64 v70, .int .i64 v71, .int .i64 v72, .int .i64 v73, .int .i64 v74, rowV q77 v76.length, rowV q79 v78.length, rowV q81 v80.length, rowV q83 v82.length, .slice q85 v84.length q86, .bool v75] 28, drow 54 (rowV (some b53, 1) 1) ([(⟨1, v33, 5, 7, [], 0, 0, 0, (⟨0, 0⟩ : Vec)⟩ : Cmd)] : List Cmd), dead, dead, dead, dead, dead, dead, dead, dead, dead, drow 50 (rowV q77 v76.length) v76, drow 50 (rowV q79 v78.length) v78, row nilH 3 (rowV q81 v80.length) v80, row nilH 3 (rowV q83 v82.length) v82, osl 67 (.slice q85 v84.length q86) v84, drow 54 (rowV q88 x87.1.length) x87.1, drow 50 (rowV q96 x95.1.mine.length) x95.1.mine, drow 50 (rowV q97 x95.1.inputs.length) x95.1.inputs, row nilH 3 (rowV q98 x95.1.has.length) x95.1.has, row nilH 3 (rowV q99 x95.1.acked.length) x95.1.acked, osl 67 (.slice p101 x95.1.hashes.length cc102) x95.1.hashes, blk b103 [.int .i64 x95.1.id, .int .i64 x95.1.players, .int .i64 x95.1.delay, .int .i64 x95.1.turn, .int .i64 x95.1.said, rowV q96 x95.1.mine.length, rowV q97 x95.1.inputs.length, rowV q98 x95.1.has.length, rowV q99 x95.1.acked.length, .slice p101 x95.1.hashes.length cc102, .bool x95.1.split] 28, drow 79 (rowV q105 x104.1.length) x104.1]) (fun w s => s) ?_
           refine T.region ?_
           refine RS.p (Pu.move rfl) rfl rfl ?_
           obtain ⟨x106, hx106, H⟩ := bindE H
           refine RS.q (Qt.call (vs := [.int .i64 x95.2]) ent16 rfl fun w s => thronglaw28_num_walk x95.2 w  hx106) rfl rfl ?_
           refine RS.p (Pu.bin rfl rfl rfl) rfl rfl ?_
           refine RS.p (Pu.move rfl) rfl rfl ?_
           refine RS.joinB H 4 111 (fun b109 => .bool b109) [(3, _), (4, _), (6, _), (12, _), (14, _)] ⟨rfl, rfl, rfl, rfl, rfl, trivial⟩ ?_ ?_
           ·intro b109 H
            refine RS.p (Pu.move rfl) rfl rfl ?_
            refine RS.joinV 4 116 (.bool (decide ((b109 = true) ∨ (¬ (x104.1.length : Int) = 0)))) [(3, _), (4, _), (6, _), (12, _)] ⟨rfl, rfl, rfl, rfl, trivial⟩ ?_ ?_
            ·refine RS.p (Pu.move rfl) rfl rfl ?_
             obtain ⟨g114, H⟩ := gdE H
             refine RS.joinV 6 123 (.bool (decide (((b109 = true) ∨ (¬ (x104.1.length : Int) = 0)) ∨ (¬ x95.1.turn = (v33 + 1))))) [(3, _), (4, _), (6, _), (12, _)] ⟨rfl, rfl, rfl, rfl, trivial⟩ ?_ ?_
             ·refine RS.p (Pu.move rfl) rfl rfl ?_
              obtain ⟨g117, H⟩ := gdE H
              refine RS.joinV 8 132 (.bool (decide ((((b109 = true) ∨ (¬ (x104.1.length : Int) = 0)) ∨ (¬ x95.1.turn = (v33 + 1))) ∨ (¬ (x95.1.hashes.length : Int) = (min (v33 + 1) 16))))) [(3, _), (4, _), (6, _), (12, _)] ⟨rfl, rfl, rfl, rfl, trivial⟩ ?_ ?_
              ·refine RS.nil (hK26 _ _ ?_)
               refine T.condP rfl (fun hc118 => ?_) (fun hc118 => ?_)
               ·have H := ifT hc118 H
                refine T.conseq (fr' := []) ?_ trivial (fun _ s => s)
                refine T.seq fun K27 hK27 => ?_
                refine T.region ?_
                refine RS.p (Pu.assign rfl) rfl rfl ?_
                refine RS.nil (hK27 _ _ ?_)
                obtain rfl := hd14 _ H
                have H := HX14
                obtain rfl := Option.some.inj H
                refine T.weakS (S' := Sat w [blk b1 [.int .i64 a0_q.n, .int .i64 a0_q.delay, .slice p0 a0_q.l.length c0] 61, dead, dead, dead, dead, dead, blk b11 [.int .i64 v70, .int .i64 v71, .int .i64 v72, .int .i64 v73, .int .i64 v74, rowV q77 v76.length, rowV q79 v78.length, rowV q81 v80.length, rowV q83 v82.length, .slice q85 v84.length q86, .bool v75] 28, drow 54 (rowV (some b53, 1) 1) ([(⟨1, v33, 5, 7, [], 0, 0, 0, (⟨0, 0⟩ : Vec)⟩ : Cmd)] : List Cmd), dead, dead, dead, dead, dead, dead, dead, dead, dead, drow 50 (rowV q77 v76.length) v76, drow 50 (rowV q79 v78.length) v78, row nilH 3 (rowV q81 v80.length) v80, row nilH 3 (rowV q83 v82.length) v82, osl 67 (.slice q85 v84.length q86) v84, drow 54 (rowV q88 x87.1.length) x87.1, drow 50 (rowV q96 x95.1.mine.length) x95.1.mine, drow 50 (rowV q97 x95.1.inputs.length) x95.1.inputs, row nilH 3 (rowV q98 x95.1.has.length) x95.1.has, row nilH 3 (rowV q99 x95.1.acked.length) x95.1.acked, osl 67 (.slice p101 x95.1.hashes.length cc102) x95.1.hashes, blk b103 [.int .i64 x95.1.id, .int .i64 x95.1.players, .int .i64 x95.1.delay, .int .i64 x95.1.turn, .int .i64 x95.1.said, rowV q96 x95.1.mine.length, rowV q97 x95.1.inputs.length, rowV q98 x95.1.has.length, rowV q99 x95.1.acked.length, .slice p101 x95.1.hashes.length cc102, .bool x95.1.split] 28, drow 79 (rowV q105 x104.1.length) x104.1]) (fun w s => s) ?_
                refine T.retTo (by with_reducible ((repeat (first | apply RetTo.seq | apply RetTo.blk)); exact RetTo.refl _)) (Cont.ret1 rfl rfl fun w' s => ?_)
                exact ⟨rfl, s.ext⟩
               ·have H := ifF hc118 H
                refine T.skip (hK25 _ _ ?_)
                refine T.weakS (S' := Sat w [blk b1 [.int .i64 a0_q.n, .int .i64 a0_q.delay, .slice p0 a0_q.l.length c0] 61, dead, dead, dead, dead, dead, blk b11 [.int .i64 v70, .int .i64 v71, .int .i64 v72, .int .i64 v73, .int .i64 v74, rowV q77 v76.length, rowV q79 v78.length, rowV q81 v80.length, rowV q83 v82.length, .slice q85 v84.length q86, .bool v75] 28, drow 54 (rowV (some b53, 1) 1) ([(⟨1, v33, 5, 7, [], 0, 0, 0, (⟨0, 0⟩ : Vec)⟩ : Cmd)] : List Cmd), dead, dead, dead, dead, dead, dead, dead, dead, dead, drow 50 (rowV q77 v76.length) v76, drow 50 (rowV q79 v78.length) v78, row nilH 3 (rowV q81 v80.length) v80, row nilH 3 (rowV q83 v82.length) v82, osl 67 (.slice q85 v84.length q86) v84, drow 54 (rowV q88 x87.1.length) x87.1, drow 50 (rowV q96 x95.1.mine.length) x95.1.mine, drow 50 (rowV q97 x95.1.inputs.length) x95.1.inputs, row nilH 3 (rowV q98 x95.1.has.length) x95.1.has, row nilH 3 (rowV q99 x95.1.acked.length) x95.1.acked, osl 67 (.slice p101 x95.1.hashes.length cc102) x95.1.hashes, blk b103 [.int .i64 x95.1.id, .int .i64 x95.1.players, .int .i64 x95.1.delay, .int .i64 x95.1.turn, .int .i64 x95.1.said, rowV q96 x95.1.mine.length, rowV q97 x95.1.inputs.length, rowV q98 x95.1.has.length, rowV q99 x95.1.acked.length, .slice p101 x95.1.hashes.length cc102, .bool x95.1.split] 28, drow 79 (rowV q105 x104.1.length) x104.1]) (fun w s => s) ?_
                refine T.region ?_
                refine RS.q (Qt.ldBA (us := [_, _, _, _, _, _, _, _, _, _, _]) 28 ty28 rfl rfl rfl rfl) rfl rfl ?_
                refine RS.solid (Sd.stB (cs' := [_, _, _, _, _, _, _, _, _, _, _]) 6 ty28 rfl rfl rfl rfl rfl rfl rfl rfl) rfl rfl fun _ => ?_
                refine RS.nil (hK12 _ _ (T.conseq (fr' := [(3, _), (4, _), (6, _)]) ?_ ⟨rfl, rfl, rfl, trivial⟩ (fun _ s => s)))
                refine T.weakS (S' := Sat w [blk b1 [.int .i64 a0_q.n, .int .i64 a0_q.delay, .slice p0 a0_q.l.length c0] 61, dead, dead, dead, dead, dead, blk b11 [.int .i64 x95.1.id, .int .i64 x95.1.players, .int .i64 x95.1.delay, .int .i64 x95.1.turn, .int .i64 x95.1.said, rowV q96 x95.1.mine.length, rowV q97 x95.1.inputs.length, rowV q98 x95.1.has.length, rowV q99 x95.1.acked.length, .slice p101 x95.1.hashes.length cc102, .bool x95.1.split] 28, drow 54 (rowV (some b53, 1) 1) ([(⟨1, v33, 5, 7, [], 0, 0, 0, (⟨0, 0⟩ : Vec)⟩ : Cmd)] : List Cmd), dead, dead, dead, dead, dead, dead, dead, dead, dead, drow 50 (rowV q77 v76.length) v76, drow 50 (rowV q79 v78.length) v78, row nilH 3 (rowV q81 v80.length) v80, row nilH 3 (rowV q83 v82.length) v82, osl 67 (.slice q85 v84.length q86) v84, drow 54 (rowV q88 x87.1.length) x87.1, drow 50 (rowV q96 x95.1.mine.length) x95.1.mine, drow 50 (rowV q97 x95.1.inputs.length) x95.1.inputs, row nilH 3 (rowV q98 x95.1.has.length) x95.1.has, row nilH 3 (rowV q99 x95.1.acked.length) x95.1.acked, osl 67 (.slice p101 x95.1.hashes.length cc102) x95.1.hashes, blk b103 [.int .i64 x95.1.id, .int .i64 x95.1.players, .int .i64 x95.1.delay, .int .i64 x95.1.turn, .int .i64 x95.1.said, rowV q96 x95.1.mine.length, rowV q97 x95.1.inputs.length, rowV q98 x95.1.has.length, rowV q99 x95.1.acked.length, .slice p101 x95.1.hashes.length cc102, .bool x95.1.split] 28, drow 79 (rowV q105 x104.1.length) x104.1]) (fun w s => s) ?_
                refine T.region ?_
                refine RS.p (Pu.move rfl) rfl rfl ?_
                obtain ⟨g119, H⟩ := gdE H
                refine RS.p (Pu.addS rfl rfl g119) rfl rfl ?_
                refine RS.p (Pu.assign rfl) rfl rfl ?_
                refine RS.nil (hL14 _ _ ((v33 + 1), x95.1.id, x95.1.players, x95.1.delay, x95.1.turn, x95.1.said, x95.1.split, x95.1.mine, x95.1.inputs, x95.1.has, x95.1.acked, x95.1.hashes) (q96, q97, q98, q99, p101, cc102) H ⟨rfl, rfl, trivial⟩ ⟨rfl, trivial⟩ (fun w s => s.pick [0, 23, 24, 25, 26, 27, 6] (by decide) rfl))
              ·intro hJ116
               refine RS.splitP 124 rfl (fun hc115 => ?_) (fun hc115 => ?_)
               ·refine RS.no rfl rfl ?_
                refine RS.no rfl rfl ?_
                refine RS.no rfl rfl ?_
                refine RS.no rfl rfl ?_
                refine RS.no rfl rfl ?_
                refine RS.no rfl rfl ?_
                refine RS.no rfl rfl ?_
                refine RS.p (Pu.pickT rfl rfl) rfl rfl ?_
                exact hJ116 _ _ ⟨dOrT hc115, rfl, rfl, rfl, rfl, trivial⟩ (fun w s => s)
               ·refine RS.p (Pu.fieldAddr fd28_9 rfl) rfl rfl ?_
                refine RS.q (Qt.ldB 28 ty26 rfl rfl rfl) rfl rfl ?_
                refine RS.p (Pu.lenSl sl26 rfl) rfl rfl ?_
                refine RS.p (Pu.move rfl) rfl rfl ?_
                refine RS.p (Pu.addS rfl rfl (g117 hc115)) rfl rfl ?_
                refine RS.p (Pu.minI rfl rfl) rfl rfl ?_
                refine RS.p (Pu.bin rfl rfl rfl) rfl rfl ?_
                refine RS.p (Pu.pickF rfl rfl) rfl rfl ?_
                exact hJ116 _ _ ⟨dOrF hc115, rfl, rfl, rfl, rfl, trivial⟩ (fun w s => s)
             ·intro hJ113
              refine RS.splitP 117 rfl (fun hc112 => ?_) (fun hc112 => ?_)
              ·refine RS.no rfl rfl ?_
               refine RS.no rfl rfl ?_
               refine RS.no rfl rfl ?_
               refine RS.no rfl rfl ?_
               refine RS.no rfl rfl ?_
               refine RS.p (Pu.pickT rfl rfl) rfl rfl ?_
               exact hJ113 _ _ ⟨dOrT hc112, rfl, rfl, rfl, rfl, trivial⟩ (fun w s => s)
              ·refine RS.p (Pu.fieldAddr fd28_3 rfl) rfl rfl ?_
               refine RS.q (Qt.ldB 28 ty3 rfl rfl rfl) rfl rfl ?_
               refine RS.p (Pu.move rfl) rfl rfl ?_
               refine RS.p (Pu.addS rfl rfl (g114 hc112)) rfl rfl ?_
               refine RS.p (Pu.bin rfl rfl rfl) rfl rfl ?_
               refine RS.p (Pu.pickF rfl rfl) rfl rfl ?_
               exact hJ113 _ _ ⟨dOrF hc112, rfl, rfl, rfl, rfl, trivial⟩ (fun w s => s)
            ·intro hJ111
             refine RS.split 112 rfl (fun hc110 => ?_) (fun hc110 => ?_)
             ·refine RS.no rfl rfl ?_
              refine RS.no rfl rfl ?_
              refine RS.no rfl rfl ?_
              refine RS.p (Pu.pickT rfl rfl) rfl rfl ?_
              exact hJ111 _ _ ⟨dOrT hc110, rfl, rfl, rfl, rfl, trivial⟩ (fun w s => s)
             ·refine RS.p (Pu.move rfl) rfl rfl ?_
              refine RS.p (Pu.lenSl sl68 rfl) rfl rfl ?_
              refine RS.p (Pu.bin rfl rfl rfl) rfl rfl ?_
              refine RS.p (Pu.pickF rfl rfl) rfl rfl ?_
              exact hJ111 _ _ ⟨dOrF (bne_of hc110), rfl, rfl, rfl, rfl, trivial⟩ (fun w s => s)
           ·intro z120 H hJ108
            refine RS.splitP 107 rfl (fun hc107 => ?_) (fun hc107 => ?_)
            ·have H := ifT hc107 H
             refine RS.no rfl rfl ?_
             refine RS.no rfl rfl ?_
             refine RS.no rfl rfl ?_
             refine RS.p (Pu.pickT rfl rfl) rfl rfl ?_
             obtain rfl := Option.some.inj H
             exact hJ108 _ _ ⟨rfl, rfl, rfl, rfl, rfl, rfl, trivial⟩ (fun w s => s)
            ·have H := ifF hc107 H
             refine RS.p (Pu.move rfl) rfl rfl ?_
             obtain ⟨x121, hx121, H⟩ := bindE H
             refine RS.q (Qt.call (vs := [.int .i64 x104.2]) ent16 rfl fun w s => thronglaw28_num_walk x104.2 w  hx121) rfl rfl ?_
             refine RS.p (Pu.bin rfl rfl rfl) rfl rfl ?_
             refine RS.p (Pu.pickF rfl rfl) rfl rfl ?_
             obtain rfl := Option.some.inj H
             exact hJ108 _ _ ⟨rfl, rfl, rfl, rfl, rfl, rfl, trivial⟩ (fun w s => s)
         ·intro hJ93
          refine RS.splitP 82 rfl (fun hc92 => ?_) (fun hc92 => ?_)
          ·refine RS.no rfl rfl ?_
           refine RS.no rfl rfl ?_
           refine RS.no rfl rfl ?_
           refine RS.no rfl rfl ?_
           refine RS.no rfl rfl ?_
           refine RS.no rfl rfl ?_
           refine RS.no rfl rfl ?_
           refine RS.no rfl rfl ?_
           refine RS.p (Pu.pickT rfl rfl) rfl rfl ?_
           exact hJ93 _ _ ⟨dOrT hc92, rfl, rfl, rfl, trivial⟩ (fun w s => s)
          ·refine RS.p (Pu.move rfl) rfl rfl ?_
           refine RS.p (Pu.move rfl) rfl rfl ?_
           refine RS.p (Pu.bin rfl rfl rfl) rfl rfl ?_
           refine RS.p (Pu.move rfl) rfl rfl ?_
           refine RS.joinV 4 90 (.bool (decide ((v33 < (1 + ((a0_q.delay % 18446744073709551616) % 8))) ∧ (¬ (x87.1.length : Int) = 0)))) [(3, _), (4, _), (6, _), (9, _), (81, _), (82, _), (83, _), (84, _), (85, _)] ⟨rfl, rfl, rfl, rfl, rfl, rfl, rfl, rfl, rfl, trivial⟩ ?_ ?_
           ·refine RS.p (Pu.pickF rfl rfl) rfl rfl ?_
            exact hJ93 _ _ ⟨dOrF hc92, rfl, rfl, rfl, trivial⟩ (fun w s => s)
           ·intro hJ123
            refine RS.splitP 86 rfl (fun hc122 => ?_) (fun hc122 => ?_)
            ·refine RS.p (Pu.move rfl) rfl rfl ?_
             refine RS.p (Pu.lenSl sl41 rfl) rfl rfl ?_
             refine RS.p (Pu.bin rfl rfl rfl) rfl rfl ?_
             refine RS.p (Pu.pickT rfl rfl) rfl rfl ?_
             exact hJ123 _ _ ⟨dAndT hc122, rfl, rfl, rfl, rfl, rfl, rfl, rfl, rfl, rfl, trivial⟩ (fun w s => s)
            ·refine RS.no rfl rfl ?_
             refine RS.no rfl rfl ?_
             refine RS.no rfl rfl ?_
             refine RS.p (Pu.pickF rfl rfl) rfl rfl ?_
             exact hJ123 _ _ ⟨dAndF hc122, rfl, rfl, rfl, rfl, rfl, rfl, rfl, rfl, rfl, trivial⟩ (fun w s => s)
        ·intro hJ91
         refine RS.splitP 78 rfl (fun hc90 => ?_) (fun hc90 => ?_)
         ·refine RS.no rfl rfl ?_
          refine RS.no rfl rfl ?_
          refine RS.p (Pu.pickT rfl rfl) rfl rfl ?_
          exact hJ91 _ _ ⟨dOrT hc90, rfl, rfl, rfl, rfl, trivial⟩ (fun w s => s)
         ·refine RS.p (Pu.move rfl) rfl rfl ?_
          refine RS.p (Pu.not rfl) rfl rfl ?_
          refine RS.p (Pu.pickF rfl rfl) rfl rfl ?_
          exact hJ91 _ _ ⟨dOrFB hc90, rfl, rfl, rfl, rfl, trivial⟩ (fun w s => s)
       ·intro z69 H HX69 hJ69
        refine T.condP rfl (fun hc124 => ?_) (fun hc124 => ?_)
        ·have H := ifT hc124 H
         refine T.conseq (fr' := [(3, _), (4, _), (6, _), (7, _)]) ?_ ⟨rfl, rfl, rfl, rfl, trivial⟩ (fun _ s => s)
         refine T.weakS (S' := Sat w [blk b1 [.int .i64 a0_q.n, .int .i64 a0_q.delay, .slice p0 a0_q.l.length c0] 61, drow 50 (rowV q41 l40.length) l40, drow 50 (rowV q43 l42.length) l42, row nilH 3 (rowV q45 l44.length) l44, row nilH 3 (rowV q47 l46.length) l46, osl 67 (.slice q49 l48.length q50) l48, blk b11 [.int .i64 v34, .int .i64 v35, .int .i64 v36, .int .i64 v37, .int .i64 v38, rowV q41 l40.length, rowV q43 l42.length, rowV q45 l44.length, rowV q47 l46.length, .slice q49 l48.length q50, .bool v39] 28, drow 54 (rowV (some b53, 1) 1) ([(⟨1, v33, 5, 7, [], 0, 0, 0, (⟨0, 0⟩ : Vec)⟩ : Cmd)] : List Cmd), dead, dead, dead, drow 50 (rowV q55 x54.1.mine.length) x54.1.mine, drow 50 (rowV q56 x54.1.inputs.length) x54.1.inputs, row nilH 3 (rowV q57 x54.1.has.length) x54.1.has, row nilH 3 (rowV q58 x54.1.acked.length) x54.1.acked, row nilH 67 (rowV q59 x54.1.hashes.length) x54.1.hashes, blk b60 [.int .i64 x54.1.id, .int .i64 x54.1.players, .int .i64 x54.1.delay, .int .i64 x54.1.turn, .int .i64 x54.1.said, rowV q55 x54.1.mine.length, rowV q56 x54.1.inputs.length, rowV q57 x54.1.has.length, rowV q58 x54.1.acked.length, rowV q59 x54.1.hashes.length, .bool x54.1.split] 28]) (fun w s => s) ?_
         refine T.region ?_
         refine RS.q (Qt.ldBA (us := [_, _, _, _, _, _, _, _, _, _, _]) 16 ty28 rfl rfl rfl rfl) rfl rfl ?_
         refine RS.solid (Sd.stB (cs' := [_, _, _, _, _, _, _, _, _, _, _]) 6 ty28 rfl rfl rfl rfl rfl rfl rfl rfl) rfl rfl fun _ => ?_
         obtain rfl := Option.some.inj H
         refine RS.nil (hJ69 _ _ (x54.1.id, x54.1.players, x54.1.delay, x54.1.turn, x54.1.said, x54.1.split, x54.1.mine, x54.1.inputs, x54.1.has, x54.1.acked, x54.1.hashes) (q55, q56, q57, q58, (q59.1.map fun g => (⟨g, 0, none⟩ : Addr)), q59.2) HX69 ⟨rfl, rfl, rfl, trivial⟩ trivial (fun w s => ((((((((((((Sat.rowOsl (q := q59) (m := x54.1.hashes.length) 15 s rfl).deadRow).deadRow).deadRow).deadRow).deadRow).deadRow).deadRow).deadRow).deadRow).deadRow).deadRow).pick [0, 17, 18, 19, 20, 21, 6, 7, 8, 9, 10, 22, 23, 24, 25, 26, 27, 11, 12, 13, 14, 15] (by decide) rfl))
        ·have H := ifF hc124 H
         obtain rfl := Option.some.inj H
         refine T.skip (hJ69 _ _ (v34, v35, v36, v37, v38, v39, l40, l42, l44, l46, l48) (q41, q43, q45, q47, q49, q50) HX69 ⟨rfl, rfl, rfl, trivial⟩ trivial (fun w s => (((((((((((s.deadRow).deadRow).deadRow).deadRow).deadRow).deadRow).deadRow).deadRow).deadRow).deadRow).deadRow).pick [0, 17, 18, 19, 20, 21, 6, 7, 8, 9, 10, 22, 23, 24, 25, 26, 27, 1, 2, 3, 4, 5] (by decide) rfl))
     ·intro z125 H hJ65
      refine RS.split 50 rfl (fun hc64 => ?_) (fun hc64 => ?_)
      ·have H := ifT hc64 H
       refine RS.no rfl rfl ?_
       refine RS.no rfl rfl ?_
       refine RS.no rfl rfl ?_
       refine RS.no rfl rfl ?_
       refine RS.no rfl rfl ?_
       refine RS.no rfl rfl ?_
       refine RS.no rfl rfl ?_
       refine RS.no rfl rfl ?_
       refine RS.no rfl rfl ?_
       refine RS.no rfl rfl ?_
       refine RS.no rfl rfl ?_
       refine RS.no rfl rfl ?_
       refine RS.no rfl rfl ?_
       refine RS.p (Pu.pickT rfl rfl) rfl rfl ?_
       obtain rfl := Option.some.inj H
       exact hJ65 _ _ ⟨rfl, rfl, rfl, rfl, rfl, rfl, trivial⟩ (fun w s => s)
      ·have H := ifB hc64 H
       refine RS.p (Pu.move rfl) rfl rfl ?_
       refine RS.p (Pu.move rfl) rfl rfl ?_
       refine RS.p (Pu.bin rfl rfl rfl) rfl rfl ?_
       refine RS.p (Pu.move rfl) rfl rfl ?_
       refine RS.joinB H 4 58 (fun b128 => .bool b128) [(3, _), (4, _), (6, _), (7, _), (8, _), (49, _), (50, _), (51, _), (52, _), (53, _)] ⟨rfl, rfl, rfl, rfl, rfl, rfl, rfl, rfl, rfl, rfl, trivial⟩ ?_ ?_
       ·intro b128 H
        refine RS.p (Pu.move rfl) rfl rfl ?_
        refine RS.joinB H 4 63 (fun b131 => .bool b131) [(3, _), (4, _), (6, _), (7, _), (8, _), (49, _), (50, _), (51, _), (52, _), (53, _), (58, _)] ⟨rfl, rfl, rfl, rfl, rfl, rfl, rfl, rfl, rfl, rfl, rfl, trivial⟩ ?_ ?_
        ·intro b131 H
         refine RS.p (Pu.pickF rfl rfl) rfl rfl ?_
         obtain rfl := Option.some.inj H
         exact hJ65 _ _ ⟨rfl, rfl, rfl, rfl, rfl, rfl, trivial⟩ (fun w s => s)
        ·intro z132 H hJ130
         refine RS.split 59 rfl (fun hc129 => ?_) (fun hc129 => ?_)
         ·have H := ifT hc129 H
          refine RS.p (Pu.move rfl) rfl rfl ?_
          obtain ⟨x133, hx133, H⟩ := bindE H
          refine RS.q (Qt.call (vs := [.int .i64 x54.2]) ent16 rfl fun w s => thronglaw28_num_walk x54.2 w  hx133) rfl rfl ?_
          refine RS.p (Pu.bin rfl rfl rfl) rfl rfl ?_
          refine RS.p (Pu.pickT rfl rfl) rfl rfl ?_
          obtain rfl := Option.some.inj H
          exact hJ130 _ _ ⟨rfl, rfl, rfl, rfl, rfl, rfl, rfl, rfl, rfl, rfl, rfl, rfl, trivial⟩ (fun w s => s)
         ·have H := ifB hc129 H
          refine RS.no rfl rfl ?_
          refine RS.no rfl rfl ?_
          refine RS.no rfl rfl ?_
          refine RS.p (Pu.pickF rfl rfl) rfl rfl ?_
          obtain rfl := Option.some.inj H
          exact hJ130 _ _ ⟨rfl, rfl, rfl, rfl, rfl, rfl, rfl, rfl, rfl, rfl, rfl, rfl, trivial⟩ (fun w s => s)
       ·intro z134 H hJ127
        refine RS.splitP 54 rfl (fun hc126 => ?_) (fun hc126 => ?_)
        ·have H := ifT hc126 H
         refine RS.p (Pu.move rfl) rfl rfl ?_
         obtain ⟨x135, hx135, H⟩ := bindE H
         refine RS.q (Qt.call (vs := [.int .i64 x54.2]) ent16 rfl fun w s => thronglaw28_num_walk x54.2 w  hx135) rfl rfl ?_
         refine RS.p (Pu.bin rfl rfl rfl) rfl rfl ?_
         refine RS.p (Pu.pickT rfl rfl) rfl rfl ?_
         obtain rfl := Option.some.inj H
         exact hJ127 _ _ ⟨rfl, rfl, rfl, rfl, rfl, rfl, rfl, rfl, rfl, rfl, rfl, trivial⟩ (fun w s => s)
        ·have H := ifF hc126 H
         refine RS.no rfl rfl ?_
         refine RS.no rfl rfl ?_
         refine RS.no rfl rfl ?_
         refine RS.p (Pu.pickF rfl rfl) rfl rfl ?_
         obtain rfl := Option.some.inj H
         exact hJ127 _ _ ⟨rfl, rfl, rfl, rfl, rfl, rfl, rfl, rfl, rfl, rfl, rfl, trivial⟩ (fun w s => s)
    ·intro z136 H hJ62
     refine RS.splitP 45 rfl (fun hc61 => ?_) (fun hc61 => ?_)
     ·have H := ifT hc61 H
      refine RS.p (Pu.move rfl) rfl rfl ?_
      obtain ⟨x137, hx137, H⟩ := bindE H
      refine RS.q (Qt.call (vs := [.int .i64 x54.2]) ent16 rfl fun w s => thronglaw28_num_walk x54.2 w  hx137) rfl rfl ?_
      refine RS.p (Pu.bin rfl rfl rfl) rfl rfl ?_
      refine RS.p (Pu.pickT rfl rfl) rfl rfl ?_
      obtain rfl := Option.some.inj H
      exact hJ62 _ _ ⟨rfl, rfl, rfl, rfl, rfl, rfl, trivial⟩ (fun w s => s)
     ·have H := ifF hc61 H
      refine RS.no rfl rfl ?_
      refine RS.no rfl rfl ?_
      refine RS.no rfl rfl ?_
      refine RS.p (Pu.pickF rfl rfl) rfl rfl ?_
      obtain rfl := Option.some.inj H
      exact hJ62 _ _ ⟨rfl, rfl, rfl, rfl, rfl, rfl, trivial⟩ (fun w s => s)
   ·have H := ifF hc52 H
    obtain rfl := hd14 _ H
    refine T.exitTo (by with_reducible (repeat (first | exact ExTo.here | exact ExTo.hereN | exact ExTo.deep (by repeat (first | exact NmTo.seq | apply NmTo.blk)) | apply ExTo.seq | refine ExTo.past (by decide) ?_))) (hJ14 _ _ (v34, v35, v36, v37, v38, v39, l40, l42, l44, l46, l48) (q41, q43, q45, q47, q49, q50) HX14 trivial trivial (fun w s => (s.deadRow).pick [0, 1, 2, 3, 4, 7, 6, 5] (by decide) rfl))
end Go.Proofs.Ytlpmiledfcblfaa
