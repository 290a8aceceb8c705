/-
  Walk of PeerKeeps.
-/
import Derived.Test.YtnadebijiaelkaaRows
import Derived.Test.YtnadebijiaelkaaPB
import Derived.Test.YtnadebijiaelkaaW5
set_option linter.unusedVariables false
set_option linter.unusedSimpArgs false
set_option maxRecDepth 20000
set_option maxHeartbeats 4000000
namespace Go.Proofs.Ytnadebijiaelkaa
open Go.Vg
open Enc (R)
theorem ent10 : Ent Try.prog 10 := ⟨_, _, Try.func10, by kernel_rfl, rfl⟩
theorem ent11 : Ent Try.prog 11 := ⟨_, _, Try.func11, by kernel_rfl, rfl⟩
theorem ent12 : Ent Try.prog 12 := ⟨_, _, Try.func12, by kernel_rfl, rfl⟩
theorem ent14 : Ent Try.prog 14 := ⟨_, _, Try.func14, by kernel_rfl, rfl⟩
theorem ent15 : Ent Try.prog 15 := ⟨_, _, Try.func15, by kernel_rfl, rfl⟩
theorem ent5 : Ent Try.prog 5 := ⟨_, _, Try.func5, by kernel_rfl, rfl⟩
theorem ent7 : Ent Try.prog 7 := ⟨_, _, Try.func7, by kernel_rfl, rfl⟩
theorem ent9 : Ent Try.prog 9 := ⟨_, _, Try.func9, by kernel_rfl, rfl⟩
theorem fd40_0 : fdOff Try.prog 40 0 = some 0 := by kernel_rfl
theorem ty29 : tySz Try.prog 29 = some (12, true) := by kernel_rfl
theorem ty40 : tySz Try.prog 40 = some (12, true) := by kernel_rfl
theorem zr40 : zeroOf Try.prog 40 = some (.agg #[.int .i64 0, .slice none 0 0, .int .i64 0, .int .i64 0, .int .i64 0, .int .i64 0, .slice none 0 0, .int .i64 0, .int .u64 0, .int .i64 0, .bool false, .int .u64 0]) := by kernel_rfl
theorem thronglaw28_PeerKeeps_walk (a0_p : Scr28) (w : World) {v0 v1 v2 v3 v4 v5 : Value} (h0 : R (hpOf w) a0_p.p.mine [v0]) (h1 : R (hpOf w) a0_p.p.inputs [v1]) (h2 : R (hpOf w) a0_p.p.has [v2]) (h3 : R (hpOf w) a0_p.p.acked [v3]) (h4 : R (hpOf w) a0_p.p.hashes [v4]) (h5 : R (hpOf w) a0_p.l [v5]) {r : Bool} (H : thronglaw28_PeerKeeps a0_p = some r) : Calls Try.prog 3 #[.agg #[.int .i64 a0_p.p.id, .int .i64 a0_p.p.players, .int .i64 a0_p.p.delay, .int .i64 a0_p.p.turn, .int .i64 a0_p.p.said, v0, v1, v2, v3, v4, .bool a0_p.p.split, v5]] w fun e w' => e = .returned (.bool r) ∧ Ext w w' := by
 have hm0 := R_max h0
 obtain ⟨p0, c0, rfl⟩ := R_form h0
 have hm1 := R_max h1
 obtain ⟨p1, c1, rfl⟩ := R_form h1
 have hm2 := R_max h2
 obtain ⟨p2, c2, rfl⟩ := R_form h2
 have hm3 := R_max h3
 obtain ⟨p3, c3, rfl⟩ := R_form h3
 have hm4 := R_max h4
 obtain ⟨p4, c4, rfl⟩ := R_form h4
 have hm5 := R_max h5
 obtain ⟨p5, c5, rfl⟩ := R_form h5
 unfold thronglaw28_PeerKeeps at H
 refine T.enter (args := [_]) (S := Sat w []) Try.func3 rfl rfl (Sat.start w) ?_
 refine T.seq fun K1 hK1 => ?_
 refine T.region ?_
 refine RS.solid (Sd.box (cs := [_, _, _, _, _, _, _, _, _, _, _, _]) rfl rfl) rfl rfl fun b1 => ?_
 refine RS.p (Pu.assign rfl) rfl rfl ?_
 refine RS.nil (hK1 _ _ ?_)
 refine T.seq fun K2 hK2 => ?_
 refine T.seq fun K3 hK3 => ?_
 refine T.region ?_
 refine RS.q (Qt.ldBA (us := [_, _, _, _, _, _, _, _, _, _, _, _]) 0 ty29 rfl rfl rfl rfl) rfl rfl ?_
 obtain ⟨x2, hx2, H⟩ := bindE H
 refine RS.q (Qt.call (vs := [.agg #[.int .i64 a0_p.p.id, .int .i64 a0_p.p.players, .int .i64 a0_p.p.delay, .int .i64 a0_p.p.turn, .int .i64 a0_p.p.said, .slice p0 a0_p.p.mine.length c0, .slice p1 a0_p.p.inputs.length c1, .slice p2 a0_p.p.has.length c2, .slice p3 a0_p.p.acked.length c3, .slice p4 a0_p.p.hashes.length c4, .bool a0_p.p.split, .slice p5 a0_p.l.length c5]]) ent5 rfl fun w s => thronglaw28_heavy_walk a0_p w ((Rd.base h0) w s) ((Rd.base h1) w s) ((Rd.base h2) w s) ((Rd.base h3) w s) ((Rd.base h4) w s) ((Rd.base h5) w s) hx2) rfl rfl ?_
 refine RS.p (Pu.move rfl) rfl rfl ?_
 refine RS.joinB H 5 19 (fun b5 => .bool b5) [(1, _)] ⟨rfl, trivial⟩ ?_ ?_
 ·intro b5 H
  refine RS.nil (hK3 _ _ ?_)
  refine T.cond rfl (fun hc6 => ?_) (fun hc6 => ?_)
  ·have H := ifT hc6 H
   refine T.seq fun K4 hK4 => ?_
   refine T.region ?_
   refine RS.p (Pu.assign rfl) rfl rfl ?_
   refine RS.nil (hK4 _ _ ?_)
   obtain rfl := Option.some.inj H
   refine T.rt (Cont.ret1 rfl rfl fun w' s => ?_)
   exact ⟨rfl, s.ext⟩
  ·have H := ifB hc6 H
   refine T.skip (hK2 _ _ ?_)
   refine T.seq fun K5 hK5 => ?_
   refine T.region ?_
   refine RS.p (Pu.fieldAddr fd29_0 rfl) rfl rfl ?_
   refine RS.q (Qt.ldBA (us := [_, _, _, _, _, _, _, _, _, _, _]) 0 ty26 rfl rfl rfl rfl) rfl rfl ?_
   obtain ⟨x7, hx7, H⟩ := bindE H
   refine RS.solid (Sd.callN (vs := [.agg #[.int .i64 a0_p.p.id, .int .i64 a0_p.p.players, .int .i64 a0_p.p.delay, .int .i64 a0_p.p.turn, .int .i64 a0_p.p.said, .slice p0 a0_p.p.mine.length c0, .slice p1 a0_p.p.inputs.length c1, .slice p2 a0_p.p.has.length c2, .slice p3 a0_p.p.acked.length c3, .slice p4 a0_p.p.hashes.length c4, .bool a0_p.p.split]]) ent7 rfl (fun w s => throngref0_CopyPeer_walk a0_p.p w ((Rd.base h0) w s) ((Rd.base h1) w s) ((Rd.base h2) w s) ((Rd.base h3) w s) ((Rd.base h4) w s) hx7)) rfl rfl fun ⟨q8, q9, q10, q11, q12⟩ => ?_
   refine RS.solid (Sd.alloc zr26 rfl) rfl rfl fun b13 => ?_
   refine RS.solid (Sd.stB (cs' := [_, _, _, _, _, _, _, _, _, _, _]) 6 ty26 rfl rfl rfl rfl rfl rfl rfl rfl) rfl rfl fun _ => ?_
   refine RS.nil (hK5 _ _ (T.conseq (fr' := [(1, _), (3, _)]) ?_ ⟨rfl, rfl, trivial⟩ (fun _ s => s)))
   refine T.seq fun K6 hK6 => ?_
   refine T.seq fun K7 hK7 => ?_
   refine T.region ?_
   refine RS.p (Pu.assign rfl) rfl rfl ?_
   refine RS.nil (hK7 _ _ ?_)
   refine T.joinE (σ := Int × Int × Int × Int × Int × Bool × List Inp × List Inp × List Int × List Int × List UInt64) (γ := (Option Nat × Nat) × (Option Nat × Nat) × (Option Nat × Nat) × (Option Nat × Nat) × (Option Nat × Nat)) H Ex.go [] trivial (fun (v15, v16, v17, v18, v19, v20, v21, v23, v25, v27, v29) (q22, q24, q26, q28, q30) => []) (fun (v15, v16, v17, v18, v19, v20, v21, v23, v25, v27, v29) (q22, q24, q26, q28, q30) => Sat w [blk b1 [.int .i64 a0_p.p.id, .int .i64 a0_p.p.players, .int .i64 a0_p.p.delay, .int .i64 a0_p.p.turn, .int .i64 a0_p.p.said, .slice p0 a0_p.p.mine.length c0, .slice p1 a0_p.p.inputs.length c1, .slice p2 a0_p.p.has.length c2, .slice p3 a0_p.p.acked.length c3, .slice p4 a0_p.p.hashes.length c4, .bool a0_p.p.split, .slice p5 a0_p.l.length c5] 29, drow 35 (rowV q22 v21.length) v21, drow 35 (rowV q24 v23.length) v23, row nilH 3 (rowV q26 v25.length) v25, row nilH 3 (rowV q28 v27.length) v27, row nilH 36 (rowV q30 v29.length) v29, blk b13 [.int .i64 v15, .int .i64 v16, .int .i64 v17, .int .i64 v18, .int .i64 v19, rowV q22 v21.length, rowV q24 v23.length, rowV q26 v25.length, rowV q28 v27.length, rowV q30 v29.length, .bool v20] 26]) ?_ ?_
   ·rintro ⟨v15, v16, v17, v18, v19, v20, v21, v23, v25, v27, v29⟩ ⟨q22, q24, q26, q28, q30⟩ H
    try dsimp only [Ex.then] at H
    refine Cont.conseq (fr' := []) ?_ trivial (fun _ s => s)
    refine id (hK6 _ _ ?_)
    refine T.seq fun K8 hK8 => ?_
    refine T.weakS (S' := Sat w [blk b1 [.int .i64 a0_p.p.id, .int .i64 a0_p.p.players, .int .i64 a0_p.p.delay, .int .i64 a0_p.p.turn, .int .i64 a0_p.p.said, .slice p0 a0_p.p.mine.length c0, .slice p1 a0_p.p.inputs.length c1, .slice p2 a0_p.p.has.length c2, .slice p3 a0_p.p.acked.length c3, .slice p4 a0_p.p.hashes.length c4, .bool a0_p.p.split, .slice p5 a0_p.l.length c5] 29, drow 35 (rowV q22 v21.length) v21, drow 35 (rowV q24 v23.length) v23, row nilH 3 (rowV q26 v25.length) v25, row nilH 3 (rowV q28 v27.length) v27, row nilH 36 (rowV q30 v29.length) v29, blk b13 [.int .i64 v15, .int .i64 v16, .int .i64 v17, .int .i64 v18, .int .i64 v19, rowV q22 v21.length, rowV q24 v23.length, rowV q26 v25.length, rowV q28 v27.length, rowV q30 v29.length, .bool v20] 26]) (fun w s => s) ?_
    refine T.region ?_
    obtain ⟨x31, hx31, H⟩ := bindE H
    refine RS.q (Qt.call (vs := []) ent15 rfl fun w s => thronglaw28_wakes_walk  w  hx31) rfl rfl ?_
    refine RS.p (Pu.assign rfl) rfl rfl ?_
    refine RS.nil (hK8 _ _ ?_)
    obtain rfl := Option.some.inj H
    refine T.weakS (S' := Sat w [blk b1 [.int .i64 a0_p.p.id, .int .i64 a0_p.p.players, .int .i64 a0_p.p.delay, .int .i64 a0_p.p.turn, .int .i64 a0_p.p.said, .slice p0 a0_p.p.mine.length c0, .slice p1 a0_p.p.inputs.length c1, .slice p2 a0_p.p.has.length c2, .slice p3 a0_p.p.acked.length c3, .slice p4 a0_p.p.hashes.length c4, .bool a0_p.p.split, .slice p5 a0_p.l.length c5] 29, drow 35 (rowV q22 v21.length) v21, drow 35 (rowV q24 v23.length) v23, row nilH 3 (rowV q26 v25.length) v25, row nilH 3 (rowV q28 v27.length) v27, row nilH 36 (rowV q30 v29.length) v29, blk b13 [.int .i64 v15, .int .i64 v16, .int .i64 v17, .int .i64 v18, .int .i64 v19, rowV q22 v21.length, rowV q24 v23.length, rowV q26 v25.length, rowV q28 v27.length, rowV q30 v29.length, .bool v20] 26]) (fun w s => s) ?_
    refine T.rt (Cont.ret1 rfl rfl fun w' s => ?_)
    exact ⟨rfl, s.ext⟩
   ·intro z14 hz14 HX14 hJ14
    refine T.block ?_
    refine T.loopA (γ := (Option Nat × Nat) × (Option Nat × Nat) × (Option Nat × Nat) × (Option Nat × Nat) × (Option Nat × Nat)) hz14 [(1, _), (3, _)] (fun (v32, v33, v34, v35, v36, v37, v38, l39, l41, l43, l45, l47) (q40, q42, q44, q46, q48) => [(4, .int .i64 v32)]) (fun (v32, v33, v34, v35, v36, v37, v38, l39, l41, l43, l45, l47) (q40, q42, q44, q46, q48) => Sat w [blk b1 [.int .i64 a0_p.p.id, .int .i64 a0_p.p.players, .int .i64 a0_p.p.delay, .int .i64 a0_p.p.turn, .int .i64 a0_p.p.said, .slice p0 a0_p.p.mine.length c0, .slice p1 a0_p.p.inputs.length c1, .slice p2 a0_p.p.has.length c2, .slice p3 a0_p.p.acked.length c3, .slice p4 a0_p.p.hashes.length c4, .bool a0_p.p.split, .slice p5 a0_p.l.length c5] 29, drow 35 (rowV q40 l39.length) l39, drow 35 (rowV q42 l41.length) l41, row nilH 3 (rowV q44 l43.length) l43, row nilH 3 (rowV q46 l45.length) l45, row nilH 36 (rowV q48 l47.length) l47, blk b13 [.int .i64 v33, .int .i64 v34, .int .i64 v35, .int .i64 v36, .int .i64 v37, rowV q40 l39.length, rowV q42 l41.length, rowV q44 l43.length, rowV q46 l45.length, rowV q48 l47.length, .bool v38] 26]) (q8, q9, q10, q11, q12) ⟨rfl, rfl, trivial⟩ ⟨rfl, trivial⟩ (fun w s => s) ?_
    rintro ⟨v32, v33, v34, v35, v36, v37, v38, l39, l41, l43, l45, l47⟩ ⟨q40, q42, q44, q46, q48⟩ y49 H hd14 KL14 hL14
    try dsimp only [Ex.then] at H
    refine T.conseq (fr' := [(4, _), (1, _), (3, _)]) ?_ ⟨rfl, rfl, rfl, trivial⟩ (fun _ s => s)
    refine T.seq fun K9 hK9 => ?_
    refine T.seq fun K10 hK10 => ?_
    refine T.weakS (S' := Sat w [blk b1 [.int .i64 a0_p.p.id, .int .i64 a0_p.p.players, .int .i64 a0_p.p.delay, .int .i64 a0_p.p.turn, .int .i64 a0_p.p.said, .slice p0 a0_p.p.mine.length c0, .slice p1 a0_p.p.inputs.length c1, .slice p2 a0_p.p.has.length c2, .slice p3 a0_p.p.acked.length c3, .slice p4 a0_p.p.hashes.length c4, .bool a0_p.p.split, .slice p5 a0_p.l.length c5] 29, drow 35 (rowV q40 l39.length) l39, drow 35 (rowV q42 l41.length) l41, row nilH 3 (rowV q44 l43.length) l43, row nilH 3 (rowV q46 l45.length) l45, row nilH 36 (rowV q48 l47.length) l47, blk b13 [.int .i64 v33, .int .i64 v34, .int .i64 v35, .int .i64 v36, .int .i64 v37, rowV q40 l39.length, rowV q42 l41.length, rowV q44 l43.length, rowV q46 l45.length, rowV q48 l47.length, .bool v38] 26]) (fun w s => s) ?_
    refine T.region ?_
    refine RS.p (Pu.move rfl) rfl rfl ?_
    refine RS.p (Pu.fieldAddr fd29_1 rfl) rfl rfl ?_
    refine RS.q (Qt.ldB 0 ty27 rfl rfl rfl) rfl rfl ?_
    refine RS.p (Pu.lenSl sl27 rfl) rfl rfl ?_
    refine RS.p (Pu.bin rfl rfl rfl) rfl rfl ?_
    refine RS.p (Pu.move rfl) rfl rfl ?_
    refine RS.joinV 3 31 (.bool (decide ((v32 < (a0_p.l.length : Int)) ∧ (v32 < 12)))) [(1, _), (3, _), (4, _)] ⟨rfl, rfl, rfl, trivial⟩ ?_ ?_
    ·refine RS.nil (hK10 _ _ ?_)
     refine T.condP rfl (fun hc52 => ?_) (fun hc52 => ?_)
     ·have H := ifT hc52 H
      refine T.skip (hK9 _ _ ?_)
      refine T.joinA (σ := Int × Int × Int × Int × Int × Bool × List Inp × List Inp × List Int × List Int × List UInt64) (γ := (Option Nat × Nat) × (Option Nat × Nat) × (Option Nat × Nat) × (Option Nat × Nat) × (Option Nat × Nat)) H Ex.go [(1, _), (3, _), (4, _)] ⟨rfl, rfl, rfl, trivial⟩ (fun (v54, v55, v56, v57, v58, v59, v60, v62, v64, v66, v68) (q61, q63, q65, q67, q69) => []) (fun (v54, v55, v56, v57, v58, v59, v60, v62, v64, v66, v68) (q61, q63, q65, q67, q69) => Sat w [blk b1 [.int .i64 a0_p.p.id, .int .i64 a0_p.p.players, .int .i64 a0_p.p.delay, .int .i64 a0_p.p.turn, .int .i64 a0_p.p.said, .slice p0 a0_p.p.mine.length c0, .slice p1 a0_p.p.inputs.length c1, .slice p2 a0_p.p.has.length c2, .slice p3 a0_p.p.acked.length c3, .slice p4 a0_p.p.hashes.length c4, .bool a0_p.p.split, .slice p5 a0_p.l.length c5] 29, dead, dead, dead, dead, dead, blk b13 [.int .i64 v54, .int .i64 v55, .int .i64 v56, .int .i64 v57, .int .i64 v58, rowV q61 v60.length, rowV q63 v62.length, rowV q65 v64.length, rowV q67 v66.length, rowV q69 v68.length, .bool v59] 26, drow 35 (rowV q61 v60.length) v60, drow 35 (rowV q63 v62.length) v62, row nilH 3 (rowV q65 v64.length) v64, row nilH 3 (rowV q67 v66.length) v66, row nilH 36 (rowV q69 v68.length) v68]) ?_ ?_
      ·rintro ⟨v54, v55, v56, v57, v58, v59, v60, v62, v64, v66, v68⟩ ⟨q61, q63, q65, q67, q69⟩ H
       try dsimp only [Ex.then] at H
       refine T.conseq (fr' := [(1, _), (3, _), (4, _)]) ?_ ⟨rfl, rfl, rfl, trivial⟩ (fun _ s => s)
       refine T.weakS (S' := Sat w [blk b1 [.int .i64 a0_p.p.id, .int .i64 a0_p.p.players, .int .i64 a0_p.p.delay, .int .i64 a0_p.p.turn, .int .i64 a0_p.p.said, .slice p0 a0_p.p.mine.length c0, .slice p1 a0_p.p.inputs.length c1, .slice p2 a0_p.p.has.length c2, .slice p3 a0_p.p.acked.length c3, .slice p4 a0_p.p.hashes.length c4, .bool a0_p.p.split, .slice p5 a0_p.l.length c5] 29, dead, dead, dead, dead, dead, blk b13 [.int .i64 v54, .int .i64 v55, .int .i64 v56, .int .i64 v57, .int .i64 v58, rowV q61 v60.length, rowV q63 v62.length, rowV q65 v64.length, rowV q67 v66.length, rowV q69 v68.length, .bool v59] 26, drow 35 (rowV q61 v60.length) v60, drow 35 (rowV q63 v62.length) v62, row nilH 3 (rowV q65 v64.length) v64, row nilH 3 (rowV q67 v66.length) v66, row nilH 36 (rowV q69 v68.length) v68]) (fun w s => s) ?_
       refine T.region ?_
       refine RS.p (Pu.move rfl) rfl rfl ?_
       obtain ⟨g70, H⟩ := gdE H
       refine RS.p (Pu.addS rfl rfl g70) rfl rfl ?_
       refine RS.p (Pu.assign rfl) rfl rfl ?_
       refine RS.nil (hL14 _ _ ((v32 + 1), v54, v55, v56, v57, v58, v59, v60, v62, v64, v66, v68) (q61, q63, q65, q67, q69) H ⟨rfl, rfl, trivial⟩ ⟨rfl, trivial⟩ (fun w s => s.pick [0, 7, 8, 9, 10, 11, 6] (by decide) rfl))
      ·intro z53 H HX53 K11 hJ53
       refine T.block ?_
       refine T.seq fun K12 hK12 => ?_
       refine T.weakS (S' := Sat w [blk b1 [.int .i64 a0_p.p.id, .int .i64 a0_p.p.players, .int .i64 a0_p.p.delay, .int .i64 a0_p.p.turn, .int .i64 a0_p.p.said, .slice p0 a0_p.p.mine.length c0, .slice p1 a0_p.p.inputs.length c1, .slice p2 a0_p.p.has.length c2, .slice p3 a0_p.p.acked.length c3, .slice p4 a0_p.p.hashes.length c4, .bool a0_p.p.split, .slice p5 a0_p.l.length c5] 29, drow 35 (rowV q40 l39.length) l39, drow 35 (rowV q42 l41.length) l41, row nilH 3 (rowV q44 l43.length) l43, row nilH 3 (rowV q46 l45.length) l45, row nilH 36 (rowV q48 l47.length) l47, blk b13 [.int .i64 v33, .int .i64 v34, .int .i64 v35, .int .i64 v36, .int .i64 v37, rowV q40 l39.length, rowV q42 l41.length, rowV q44 l43.length, rowV q46 l45.length, rowV q48 l47.length, .bool v38] 26]) (fun w s => s) ?_
       refine T.region ?_
       refine RS.p (Pu.fieldAddr fd29_1 rfl) rfl rfl ?_
       refine RS.q (Qt.ldB 0 ty27 rfl rfl rfl) rfl rfl ?_
       refine RS.p (Pu.move rfl) rfl rfl ?_
       obtain ⟨g71, H⟩ := gdE H
       obtain ⟨bl72, ol73, rfl⟩ := R_ptr h5 (ne_of_pos (pos_of g71))
       refine RS.p (Pu.indexSl sl27 rfl rfl g71) rfl rfl ?_
       obtain ⟨c74, hc75, ha76⟩ := R_el (α := Act28) h5 g71
       obtain ⟨u77, u78, rfl, hu77, hu78⟩ := hc75
       obtain ⟨p79, cc80, rfl⟩ := R_form hu77
       obtain ⟨p81, cc82, rfl⟩ := R_form hu78
       refine RS.q (Qt.ldZ (cs := [_, _, _, _, _, _, _, _, _, _, _, _]) ty40 rfl ha76 Held.base rfl) rfl rfl ?_
       refine RS.solid (Sd.alloc zr40 rfl) rfl rfl fun b83 => ?_
       refine RS.solid (Sd.stB (cs' := [_, _, _, _, _, _, _, _, _, _, _, _]) 7 ty40 rfl rfl rfl rfl rfl rfl rfl rfl) rfl rfl fun _ => ?_
       refine RS.nil (hK12 _ _ (T.conseq (fr' := [(1, _), (3, _), (4, _), (5, _)]) ?_ ⟨rfl, rfl, rfl, rfl, trivial⟩ (fun _ s => s)))
       refine T.seq fun K13 hK13 => ?_
       refine T.region ?_
       refine RS.solid (Sd.alloc zr26 rfl) rfl rfl fun b84 => ?_
       refine RS.nil (hK13 _ _ ?_)
       refine T.seq fun K14 hK14 => ?_
       refine T.region ?_
       refine RS.p (Pu.assign rfl) rfl rfl ?_
       refine RS.nil (hK14 _ _ ?_)
       refine T.seq fun K15 hK15 => ?_
       refine T.seq fun K16 hK16 => ?_
       refine T.weakS (S' := Sat w [blk b1 [.int .i64 a0_p.p.id, .int .i64 a0_p.p.players, .int .i64 a0_p.p.delay, .int .i64 a0_p.p.turn, .int .i64 a0_p.p.said, .slice p0 a0_p.p.mine.length c0, .slice p1 a0_p.p.inputs.length c1, .slice p2 a0_p.p.has.length c2, .slice p3 a0_p.p.acked.length c3, .slice p4 a0_p.p.hashes.length c4, .bool a0_p.p.split, .slice (some ⟨bl72, ol73, none⟩) a0_p.l.length c5] 29, drow 35 (rowV q40 l39.length) l39, drow 35 (rowV q42 l41.length) l41, row nilH 3 (rowV q44 l43.length) l43, row nilH 3 (rowV q46 l45.length) l45, row nilH 36 (rowV q48 l47.length) l47, blk b13 [.int .i64 v33, .int .i64 v34, .int .i64 v35, .int .i64 v36, .int .i64 v37, rowV q40 l39.length, rowV q42 l41.length, rowV q44 l43.length, rowV q46 l45.length, rowV q48 l47.length, .bool v38] 26, blk b83 [.int .i64 ((gi a0_p.l v32).act), .slice p79 ((gi a0_p.l v32).l).length cc80, .int .i64 (((gi a0_p.l v32).n).frm), .int .i64 (((gi a0_p.l v32).n).dst), .int .i64 ((((gi a0_p.l v32).n).input).turn), .int .i64 ((((gi a0_p.l v32).n).input).player), .slice p81 ((((gi a0_p.l v32).n).input).commands).length cc82, .int .i64 (((gi a0_p.l v32).n).don), .int .u64 ((((gi a0_p.l v32).n).hash).toNat : Int), .int .i64 (((gi a0_p.l v32).n).hav), .bool ((gi a0_p.l v32).fit), .int .u64 (((gi a0_p.l v32).h).toNat : Int)] 40, blk b84 [.int .i64 0, .int .i64 0, .int .i64 0, .int .i64 0, .int .i64 0, .slice none 0 0, .slice none 0 0, .slice none 0 0, .slice none 0 0, .slice none 0 0, .bool false] 26]) (fun w s => s) ?_
       refine T.region ?_
       refine RS.p (Pu.fieldAddr fd40_0 rfl) rfl rfl ?_
       refine RS.q (Qt.ldB 7 ty3 rfl rfl rfl) rfl rfl ?_
       obtain ⟨x85, hx85, H⟩ := bindE H
       refine RS.q (Qt.call (vs := [.int .i64 ((gi a0_p.l v32).act), .int .i64 9]) ent8 rfl fun w s => thronglaw0_Within_walk ((gi a0_p.l v32).act) 9 w  hx85) rfl rfl ?_
       refine RS.nil (hK16 _ _ (T.conseq (fr' := [(1, _), (3, _), (4, _), (5, _), (6, _), (41, _)]) ?_ ⟨rfl, rfl, rfl, rfl, rfl, rfl, trivial⟩ (fun _ s => s)))
       refine T.joinE (σ := Int × Int × Int × Int × Int × Int × Bool × List Inp × List Inp × List Int × List Int × List UInt64) (γ := (Option Nat × Nat) × (Option Nat × Nat) × (Option Nat × Nat) × (Option Nat × Nat) × (Option Addr) × Nat) H Ex.go [(1, _), (3, _), (4, _), (6, _)] ⟨rfl, rfl, rfl, rfl, trivial⟩ (fun (v87, v88, v89, v90, v91, v92, v93, v94, v96, v98, v100, v102) (q95, q97, q99, q101, q103, q104) => [(7, .int .i64 v87)]) (fun (v87, v88, v89, v90, v91, v92, v93, v94, v96, v98, v100, v102) (q95, q97, q99, q101, q103, q104) => Sat w [blk b1 [.int .i64 a0_p.p.id, .int .i64 a0_p.p.players, .int .i64 a0_p.p.delay, .int .i64 a0_p.p.turn, .int .i64 a0_p.p.said, .slice p0 a0_p.p.mine.length c0, .slice p1 a0_p.p.inputs.length c1, .slice p2 a0_p.p.has.length c2, .slice p3 a0_p.p.acked.length c3, .slice p4 a0_p.p.hashes.length c4, .bool a0_p.p.split, .slice (some ⟨bl72, ol73, none⟩) a0_p.l.length c5] 29, drow 35 (rowV q40 l39.length) l39, drow 35 (rowV q42 l41.length) l41, row nilH 3 (rowV q44 l43.length) l43, row nilH 3 (rowV q46 l45.length) l45, row nilH 36 (rowV q48 l47.length) l47, blk b13 [.int .i64 v33, .int .i64 v34, .int .i64 v35, .int .i64 v36, .int .i64 v37, rowV q40 l39.length, rowV q42 l41.length, rowV q44 l43.length, rowV q46 l45.length, rowV q48 l47.length, .bool v38] 26, blk b83 [.int .i64 ((gi a0_p.l v32).act), .slice p79 ((gi a0_p.l v32).l).length cc80, .int .i64 (((gi a0_p.l v32).n).frm), .int .i64 (((gi a0_p.l v32).n).dst), .int .i64 ((((gi a0_p.l v32).n).input).turn), .int .i64 ((((gi a0_p.l v32).n).input).player), .slice p81 ((((gi a0_p.l v32).n).input).commands).length cc82, .int .i64 (((gi a0_p.l v32).n).don), .int .u64 ((((gi a0_p.l v32).n).hash).toNat : Int), .int .i64 (((gi a0_p.l v32).n).hav), .bool ((gi a0_p.l v32).fit), .int .u64 (((gi a0_p.l v32).h).toNat : Int)] 40, blk b84 [.int .i64 v88, .int .i64 v89, .int .i64 v90, .int .i64 v91, .int .i64 v92, rowV q95 v94.length, rowV q97 v96.length, rowV q99 v98.length, rowV q101 v100.length, .slice q103 v102.length q104, .bool v93] 26, drow 35 (rowV q95 v94.length) v94, drow 35 (rowV q97 v96.length) v96, row nilH 3 (rowV q99 v98.length) v98, row nilH 3 (rowV q101 v100.length) v100, osl 36 (.slice q103 v102.length q104) v102]) ?_ ?_
       ·rintro ⟨v87, v88, v89, v90, v91, v92, v93, v94, v96, v98, v100, v102⟩ ⟨q95, q97, q99, q101, q103, q104⟩ H
        try dsimp only [Ex.then] at H
        refine Cont.conseq (fr' := [(7, _), (1, _), (3, _), (4, _), (6, _)]) ?_ ⟨rfl, rfl, rfl, rfl, rfl, trivial⟩ (fun _ s => s)
        refine id (hK15 _ _ ?_)
        refine T.seq fun K17 hK17 => ?_
        refine T.seq fun K18 hK18 => ?_
        refine T.weakS (S' := Sat w [blk b1 [.int .i64 a0_p.p.id, .int .i64 a0_p.p.players, .int .i64 a0_p.p.delay, .int .i64 a0_p.p.turn, .int .i64 a0_p.p.said, .slice p0 a0_p.p.mine.length c0, .slice p1 a0_p.p.inputs.length c1, .slice p2 a0_p.p.has.length c2, .slice p3 a0_p.p.acked.length c3, .slice p4 a0_p.p.hashes.length c4, .bool a0_p.p.split, .slice (some ⟨bl72, ol73, none⟩) a0_p.l.length c5] 29, drow 35 (rowV q40 l39.length) l39, drow 35 (rowV q42 l41.length) l41, row nilH 3 (rowV q44 l43.length) l43, row nilH 3 (rowV q46 l45.length) l45, row nilH 36 (rowV q48 l47.length) l47, blk b13 [.int .i64 v33, .int .i64 v34, .int .i64 v35, .int .i64 v36, .int .i64 v37, rowV q40 l39.length, rowV q42 l41.length, rowV q44 l43.length, rowV q46 l45.length, rowV q48 l47.length, .bool v38] 26, blk b83 [.int .i64 ((gi a0_p.l v32).act), .slice p79 ((gi a0_p.l v32).l).length cc80, .int .i64 (((gi a0_p.l v32).n).frm), .int .i64 (((gi a0_p.l v32).n).dst), .int .i64 ((((gi a0_p.l v32).n).input).turn), .int .i64 ((((gi a0_p.l v32).n).input).player), .slice p81 ((((gi a0_p.l v32).n).input).commands).length cc82, .int .i64 (((gi a0_p.l v32).n).don), .int .u64 ((((gi a0_p.l v32).n).hash).toNat : Int), .int .i64 (((gi a0_p.l v32).n).hav), .bool ((gi a0_p.l v32).fit), .int .u64 (((gi a0_p.l v32).h).toNat : Int)] 40, blk b84 [.int .i64 v88, .int .i64 v89, .int .i64 v90, .int .i64 v91, .int .i64 v92, rowV q95 v94.length, rowV q97 v96.length, rowV q99 v98.length, rowV q101 v100.length, .slice q103 v102.length q104, .bool v93] 26, drow 35 (rowV q95 v94.length) v94, drow 35 (rowV q97 v96.length) v96, row nilH 3 (rowV q99 v98.length) v98, row nilH 3 (rowV q101 v100.length) v100, osl 36 (.slice q103 v102.length q104) v102]) (fun w s => s) ?_
        refine T.region ?_
        refine RS.p (Pu.move rfl) rfl rfl ?_
        obtain ⟨x105, hx105, H⟩ := bindE H
        refine RS.q (Qt.call (vs := [.int .i64 v87]) ent13 rfl fun w s => thronglaw28_num_walk v87 w  hx105) rfl rfl ?_
        refine RS.p (Pu.bin rfl rfl rfl) rfl rfl ?_
        refine RS.nil (hK18 _ _ ?_)
        refine T.condP rfl (fun hc106 => ?_) (fun hc106 => ?_)
        ·have H := ifT hc106 H
         obtain rfl := Option.some.inj H
         refine T.xt (hJ53 _ _ (v33, v34, v35, v36, v37, v38, l39, l41, l43, l45, l47) (q40, q42, q44, q46, q48) HX53 ⟨rfl, rfl, rfl, trivial⟩ trivial (fun w s => (((((s.deadRow).deadRow).deadRow).deadRow).deadRow).pick [0, 14, 15, 16, 17, 18, 6, 1, 2, 3, 4, 5] (by decide) rfl))
        ·have H := ifF hc106 H
         refine T.skip (hK17 _ _ (T.conseq (fr' := [(1, _), (3, _), (4, _), (6, _)]) ?_ ⟨rfl, rfl, rfl, rfl, trivial⟩ (fun _ s => s)))
         refine T.seq fun K19 hK19 => ?_
         refine T.seq fun K20 hK20 => ?_
         refine T.weakS (S' := Sat w [blk b1 [.int .i64 a0_p.p.id, .int .i64 a0_p.p.players, .int .i64 a0_p.p.delay, .int .i64 a0_p.p.turn, .int .i64 a0_p.p.said, .slice p0 a0_p.p.mine.length c0, .slice p1 a0_p.p.inputs.length c1, .slice p2 a0_p.p.has.length c2, .slice p3 a0_p.p.acked.length c3, .slice p4 a0_p.p.hashes.length c4, .bool a0_p.p.split, .slice (some ⟨bl72, ol73, none⟩) a0_p.l.length c5] 29, drow 35 (rowV q40 l39.length) l39, drow 35 (rowV q42 l41.length) l41, row nilH 3 (rowV q44 l43.length) l43, row nilH 3 (rowV q46 l45.length) l45, row nilH 36 (rowV q48 l47.length) l47, blk b13 [.int .i64 v33, .int .i64 v34, .int .i64 v35, .int .i64 v36, .int .i64 v37, rowV q40 l39.length, rowV q42 l41.length, rowV q44 l43.length, rowV q46 l45.length, rowV q48 l47.length, .bool v38] 26, blk b83 [.int .i64 ((gi a0_p.l v32).act), .slice p79 ((gi a0_p.l v32).l).length cc80, .int .i64 (((gi a0_p.l v32).n).frm), .int .i64 (((gi a0_p.l v32).n).dst), .int .i64 ((((gi a0_p.l v32).n).input).turn), .int .i64 ((((gi a0_p.l v32).n).input).player), .slice p81 ((((gi a0_p.l v32).n).input).commands).length cc82, .int .i64 (((gi a0_p.l v32).n).don), .int .u64 ((((gi a0_p.l v32).n).hash).toNat : Int), .int .i64 (((gi a0_p.l v32).n).hav), .bool ((gi a0_p.l v32).fit), .int .u64 (((gi a0_p.l v32).h).toNat : Int)] 40, blk b84 [.int .i64 v88, .int .i64 v89, .int .i64 v90, .int .i64 v91, .int .i64 v92, rowV q95 v94.length, rowV q97 v96.length, rowV q99 v98.length, rowV q101 v100.length, .slice q103 v102.length q104, .bool v93] 26, drow 35 (rowV q95 v94.length) v94, drow 35 (rowV q97 v96.length) v96, row nilH 3 (rowV q99 v98.length) v98, row nilH 3 (rowV q101 v100.length) v100, osl 36 (.slice q103 v102.length q104) v102]) (fun w s => s) ?_
         refine T.region ?_
         refine RS.q (Qt.ldBA (us := [_, _, _, _, _, _, _, _, _, _, _]) 8 ty26 rfl rfl rfl rfl) rfl rfl ?_
         obtain ⟨x107, hx107, H⟩ := bindE H
         refine RS.q (Qt.call (vs := [.agg #[.int .i64 v88, .int .i64 v89, .int .i64 v90, .int .i64 v91, .int .i64 v92, rowV q95 v94.length, rowV q97 v96.length, rowV q99 v98.length, rowV q101 v100.length, .slice q103 v102.length q104, .bool v93]]) ent6 rfl fun w s => throngref27_Peer_walk (⟨v88, v89, v90, v91, v92, v94, v96, v98, v100, v102, v93⟩ : Per) w ((Rd.ofG 9 rfl) w s) ((Rd.ofG 10 rfl) w s) ((Rd.ofRowN 11 rfl) w s) ((Rd.ofRowN 12 rfl) w s) ((Rd.ofOsl 13 rfl) w s) hx107) rfl rfl ?_
         refine RS.p (Pu.not rfl) rfl rfl ?_
         refine RS.p (Pu.move rfl) rfl rfl ?_
         refine RS.joinV 6 86 (.bool (decide (((!x107) = true) ∨ (v91 < v36)))) [(1, _), (3, _), (4, _), (6, _)] ⟨rfl, rfl, rfl, rfl, trivial⟩ ?_ ?_
         ·refine RS.p (Pu.move rfl) rfl rfl ?_
          refine RS.joinV 6 93 (.bool (decide ((((!x107) = true) ∨ (v91 < v36)) ∨ (v92 < v37)))) [(1, _), (3, _), (4, _), (6, _)] ⟨rfl, rfl, rfl, rfl, trivial⟩ ?_ ?_
          ·refine RS.p (Pu.move rfl) rfl rfl ?_
           refine RS.joinV 8 102 (.bool (decide (((((!x107) = true) ∨ (v91 < v36)) ∨ (v92 < v37)) ∨ ((v38 = true) ∧ ((!v93) = true))))) [(1, _), (3, _), (4, _), (6, _)] ⟨rfl, rfl, rfl, rfl, trivial⟩ ?_ ?_
           ·refine RS.nil (hK20 _ _ ?_)
            refine T.condP rfl (fun hc114 => ?_) (fun hc114 => ?_)
            ·have H := ifT hc114 H
             refine T.conseq (fr' := []) ?_ trivial (fun _ s => s)
             refine T.seq fun K21 hK21 => ?_
             refine T.region ?_
             refine RS.p (Pu.assign rfl) rfl rfl ?_
             refine RS.nil (hK21 _ _ ?_)
             obtain rfl := Option.some.inj H
             have H := HX53
             obtain rfl := hd14 _ H
             have H := HX14
             obtain rfl := Option.some.inj H
             refine T.weakS (S' := Sat w [blk b1 [.int .i64 a0_p.p.id, .int .i64 a0_p.p.players, .int .i64 a0_p.p.delay, .int .i64 a0_p.p.turn, .int .i64 a0_p.p.said, .slice p0 a0_p.p.mine.length c0, .slice p1 a0_p.p.inputs.length c1, .slice p2 a0_p.p.has.length c2, .slice p3 a0_p.p.acked.length c3, .slice p4 a0_p.p.hashes.length c4, .bool a0_p.p.split, .slice (some ⟨bl72, ol73, none⟩) a0_p.l.length c5] 29, drow 35 (rowV q40 l39.length) l39, drow 35 (rowV q42 l41.length) l41, row nilH 3 (rowV q44 l43.length) l43, row nilH 3 (rowV q46 l45.length) l45, row nilH 36 (rowV q48 l47.length) l47, blk b13 [.int .i64 v33, .int .i64 v34, .int .i64 v35, .int .i64 v36, .int .i64 v37, rowV q40 l39.length, rowV q42 l41.length, rowV q44 l43.length, rowV q46 l45.length, rowV q48 l47.length, .bool v38] 26, blk b83 [.int .i64 ((gi a0_p.l v32).act), .slice p79 ((gi a0_p.l v32).l).length cc80, .int .i64 (((gi a0_p.l v32).n).frm), .int .i64 (((gi a0_p.l v32).n).dst), .int .i64 ((((gi a0_p.l v32).n).input).turn), .int .i64 ((((gi a0_p.l v32).n).input).player), .slice p81 ((((gi a0_p.l v32).n).input).commands).length cc82, .int .i64 (((gi a0_p.l v32).n).don), .int .u64 ((((gi a0_p.l v32).n).hash).toNat : Int), .int .i64 (((gi a0_p.l v32).n).hav), .bool ((gi a0_p.l v32).fit), .int .u64 (((gi a0_p.l v32).h).toNat : Int)] 40, blk b84 [.int .i64 v88, .int .i64 v89, .int .i64 v90, .int .i64 v91, .int .i64 v92, rowV q95 v94.length, rowV q97 v96.length, rowV q99 v98.length, rowV q101 v100.length, .slice q103 v102.length q104, .bool v93] 26, drow 35 (rowV q95 v94.length) v94, drow 35 (rowV q97 v96.length) v96, row nilH 3 (rowV q99 v98.length) v98, row nilH 3 (rowV q101 v100.length) v100, osl 36 (.slice q103 v102.length q104) v102]) (fun w s => s) ?_
             refine T.rt (Cont.ret1 rfl rfl fun w' s => ?_)
             exact ⟨rfl, s.ext⟩
            ·have H := ifF hc114 H
             refine T.skip (hK19 _ _ ?_)
             refine T.seq fun K22 hK22 => ?_
             refine T.seq fun K23 hK23 => ?_
             refine T.region ?_
             refine RS.p (Pu.assign rfl) rfl rfl ?_
             refine RS.nil (hK23 _ _ ?_)
             refine T.joinE (σ := Unit) (γ := Unit) H Ex.go [(1, _), (3, _), (4, _), (6, _)] ⟨rfl, rfl, rfl, rfl, trivial⟩ (fun _ _ => []) (fun _ _ => Sat w [blk b1 [.int .i64 a0_p.p.id, .int .i64 a0_p.p.players, .int .i64 a0_p.p.delay, .int .i64 a0_p.p.turn, .int .i64 a0_p.p.said, .slice p0 a0_p.p.mine.length c0, .slice p1 a0_p.p.inputs.length c1, .slice p2 a0_p.p.has.length c2, .slice p3 a0_p.p.acked.length c3, .slice p4 a0_p.p.hashes.length c4, .bool a0_p.p.split, .slice (some ⟨bl72, ol73, none⟩) a0_p.l.length c5] 29, drow 35 (rowV q40 l39.length) l39, drow 35 (rowV q42 l41.length) l41, row nilH 3 (rowV q44 l43.length) l43, row nilH 3 (rowV q46 l45.length) l45, row nilH 36 (rowV q48 l47.length) l47, blk b13 [.int .i64 v33, .int .i64 v34, .int .i64 v35, .int .i64 v36, .int .i64 v37, rowV q40 l39.length, rowV q42 l41.length, rowV q44 l43.length, rowV q46 l45.length, rowV q48 l47.length, .bool v38] 26, blk b83 [.int .i64 ((gi a0_p.l v32).act), .slice p79 ((gi a0_p.l v32).l).length cc80, .int .i64 (((gi a0_p.l v32).n).frm), .int .i64 (((gi a0_p.l v32).n).dst), .int .i64 ((((gi a0_p.l v32).n).input).turn), .int .i64 ((((gi a0_p.l v32).n).input).player), .slice p81 ((((gi a0_p.l v32).n).input).commands).length cc82, .int .i64 (((gi a0_p.l v32).n).don), .int .u64 ((((gi a0_p.l v32).n).hash).toNat : Int), .int .i64 (((gi a0_p.l v32).n).hav), .bool ((gi a0_p.l v32).fit), .int .u64 (((gi a0_p.l v32).h).toNat : Int)] 40, blk b84 [.int .i64 v88, .int .i64 v89, .int .i64 v90, .int .i64 v91, .int .i64 v92, rowV q95 v94.length, rowV q97 v96.length, rowV q99 v98.length, rowV q101 v100.length, .slice q103 v102.length q104, .bool v93] 26, drow 35 (rowV q95 v94.length) v94, drow 35 (rowV q97 v96.length) v96, row nilH 3 (rowV q99 v98.length) v98, row nilH 3 (rowV q101 v100.length) v100, osl 36 (.slice q103 v102.length q104) v102]) ?_ ?_
             ·rintro ⟨⟩ ⟨⟩ H
              try dsimp only [Ex.then] at H
              refine Cont.conseq (fr' := [(1, _), (3, _), (4, _), (6, _)]) ?_ ⟨rfl, rfl, rfl, rfl, trivial⟩ (fun _ s => s)
              refine id (hK22 _ _ ?_)
              refine T.seq fun K24 hK24 => ?_
              refine T.seq fun K25 hK25 => ?_
              refine T.region ?_
              refine RS.p (Pu.assign rfl) rfl rfl ?_
              refine RS.nil (hK25 _ _ ?_)
              refine T.joinE (σ := Unit) (γ := Unit) H Ex.go [(1, _), (3, _), (4, _), (6, _)] ⟨rfl, rfl, rfl, rfl, trivial⟩ (fun _ _ => []) (fun _ _ => Sat w [blk b1 [.int .i64 a0_p.p.id, .int .i64 a0_p.p.players, .int .i64 a0_p.p.delay, .int .i64 a0_p.p.turn, .int .i64 a0_p.p.said, .slice p0 a0_p.p.mine.length c0, .slice p1 a0_p.p.inputs.length c1, .slice p2 a0_p.p.has.length c2, .slice p3 a0_p.p.acked.length c3, .slice p4 a0_p.p.hashes.length c4, .bool a0_p.p.split, .slice (some ⟨bl72, ol73, none⟩) a0_p.l.length c5] 29, drow 35 (rowV q40 l39.length) l39, drow 35 (rowV q42 l41.length) l41, row nilH 3 (rowV q44 l43.length) l43, row nilH 3 (rowV q46 l45.length) l45, row nilH 36 (rowV q48 l47.length) l47, blk b13 [.int .i64 v33, .int .i64 v34, .int .i64 v35, .int .i64 v36, .int .i64 v37, rowV q40 l39.length, rowV q42 l41.length, rowV q44 l43.length, rowV q46 l45.length, rowV q48 l47.length, .bool v38] 26, blk b83 [.int .i64 ((gi a0_p.l v32).act), .slice p79 ((gi a0_p.l v32).l).length cc80, .int .i64 (((gi a0_p.l v32).n).frm), .int .i64 (((gi a0_p.l v32).n).dst), .int .i64 ((((gi a0_p.l v32).n).input).turn), .int .i64 ((((gi a0_p.l v32).n).input).player), .slice p81 ((((gi a0_p.l v32).n).input).commands).length cc82, .int .i64 (((gi a0_p.l v32).n).don), .int .u64 ((((gi a0_p.l v32).n).hash).toNat : Int), .int .i64 (((gi a0_p.l v32).n).hav), .bool ((gi a0_p.l v32).fit), .int .u64 (((gi a0_p.l v32).h).toNat : Int)] 40, blk b84 [.int .i64 v88, .int .i64 v89, .int .i64 v90, .int .i64 v91, .int .i64 v92, rowV q95 v94.length, rowV q97 v96.length, rowV q99 v98.length, rowV q101 v100.length, .slice q103 v102.length q104, .bool v93] 26, drow 35 (rowV q95 v94.length) v94, drow 35 (rowV q97 v96.length) v96, row nilH 3 (rowV q99 v98.length) v98, row nilH 3 (rowV q101 v100.length) v100, osl 36 (.slice q103 v102.length q104) v102]) ?_ ?_
              ·rintro ⟨⟩ ⟨⟩ H
               try dsimp only [Ex.then] at H
               refine Cont.conseq (fr' := [(1, _), (3, _), (4, _), (6, _)]) ?_ ⟨rfl, rfl, rfl, rfl, trivial⟩ (fun _ s => s)
               refine id (hK24 _ _ ?_)
               refine T.weakS (S' := Sat w [blk b1 [.int .i64 a0_p.p.id, .int .i64 a0_p.p.players, .int .i64 a0_p.p.delay, .int .i64 a0_p.p.turn, .int .i64 a0_p.p.said, .slice p0 a0_p.p.mine.length c0, .slice p1 a0_p.p.inputs.length c1, .slice p2 a0_p.p.has.length c2, .slice p3 a0_p.p.acked.length c3, .slice p4 a0_p.p.hashes.length c4, .bool a0_p.p.split, .slice (some ⟨bl72, ol73, none⟩) a0_p.l.length c5] 29, drow 35 (rowV q40 l39.length) l39, drow 35 (rowV q42 l41.length) l41, row nilH 3 (rowV q44 l43.length) l43, row nilH 3 (rowV q46 l45.length) l45, row nilH 36 (rowV q48 l47.length) l47, blk b13 [.int .i64 v33, .int .i64 v34, .int .i64 v35, .int .i64 v36, .int .i64 v37, rowV q40 l39.length, rowV q42 l41.length, rowV q44 l43.length, rowV q46 l45.length, rowV q48 l47.length, .bool v38] 26, blk b83 [.int .i64 ((gi a0_p.l v32).act), .slice p79 ((gi a0_p.l v32).l).length cc80, .int .i64 (((gi a0_p.l v32).n).frm), .int .i64 (((gi a0_p.l v32).n).dst), .int .i64 ((((gi a0_p.l v32).n).input).turn), .int .i64 ((((gi a0_p.l v32).n).input).player), .slice p81 ((((gi a0_p.l v32).n).input).commands).length cc82, .int .i64 (((gi a0_p.l v32).n).don), .int .u64 ((((gi a0_p.l v32).n).hash).toNat : Int), .int .i64 (((gi a0_p.l v32).n).hav), .bool ((gi a0_p.l v32).fit), .int .u64 (((gi a0_p.l v32).h).toNat : Int)] 40, blk b84 [.int .i64 v88, .int .i64 v89, .int .i64 v90, .int .i64 v91, .int .i64 v92, rowV q95 v94.length, rowV q97 v96.length, rowV q99 v98.length, rowV q101 v100.length, .slice q103 v102.length q104, .bool v93] 26, drow 35 (rowV q95 v94.length) v94, drow 35 (rowV q97 v96.length) v96, row nilH 3 (rowV q99 v98.length) v98, row nilH 3 (rowV q101 v100.length) v100, osl 36 (.slice q103 v102.length q104) v102]) (fun w s => s) ?_
               refine T.region ?_
               refine RS.q (Qt.ldBA (us := [_, _, _, _, _, _, _, _, _, _, _]) 8 ty26 rfl rfl rfl rfl) rfl rfl ?_
               obtain ⟨x117, hx117, H⟩ := bindE H
               refine RS.solid (Sd.callN (vs := [.agg #[.int .i64 v88, .int .i64 v89, .int .i64 v90, .int .i64 v91, .int .i64 v92, rowV q95 v94.length, rowV q97 v96.length, rowV q99 v98.length, rowV q101 v100.length, .slice q103 v102.length q104, .bool v93]]) ent7 rfl (fun w s => throngref0_CopyPeer_walk (⟨v88, v89, v90, v91, v92, v94, v96, v98, v100, v102, v93⟩ : Per) w ((Rd.ofG 9 rfl) w s) ((Rd.ofG 10 rfl) w s) ((Rd.ofRowN 11 rfl) w s) ((Rd.ofRowN 12 rfl) w s) ((Rd.ofOsl 13 rfl) w s) hx117)) rfl rfl fun ⟨q118, q119, q120, q121, q122⟩ => ?_
               refine RS.solid (Sd.stB (cs' := [_, _, _, _, _, _, _, _, _, _, _]) 6 ty26 rfl rfl rfl rfl rfl rfl rfl rfl) rfl rfl fun _ => ?_
               obtain rfl := Option.some.inj H
               refine RS.nil (hJ53 _ _ (x117.id, x117.players, x117.delay, x117.turn, x117.said, x117.split, x117.mine, x117.inputs, x117.has, x117.acked, x117.hashes) (q118, q119, q120, q121, q122) HX53 ⟨rfl, rfl, rfl, trivial⟩ trivial (fun w s => (((((s.deadRow).deadRow).deadRow).deadRow).deadRow).pick [0, 19, 20, 21, 22, 23, 6, 14, 15, 16, 17, 18] (by decide) rfl))
              ·intro z116 hz116 HX116 hJ116
               refine T.block ?_
               refine T.loopA (γ := Unit) hz116 [(1, _), (3, _), (4, _), (6, _)] (fun v123 _ => [(9, .int .i64 v123)]) (fun v123 _ => Sat w [blk b1 [.int .i64 a0_p.p.id, .int .i64 a0_p.p.players, .int .i64 a0_p.p.delay, .int .i64 a0_p.p.turn, .int .i64 a0_p.p.said, .slice p0 a0_p.p.mine.length c0, .slice p1 a0_p.p.inputs.length c1, .slice p2 a0_p.p.has.length c2, .slice p3 a0_p.p.acked.length c3, .slice p4 a0_p.p.hashes.length c4, .bool a0_p.p.split, .slice (some ⟨bl72, ol73, none⟩) a0_p.l.length c5] 29, drow 35 (rowV q40 l39.length) l39, drow 35 (rowV q42 l41.length) l41, row nilH 3 (rowV q44 l43.length) l43, row nilH 3 (rowV q46 l45.length) l45, row nilH 36 (rowV q48 l47.length) l47, blk b13 [.int .i64 v33, .int .i64 v34, .int .i64 v35, .int .i64 v36, .int .i64 v37, rowV q40 l39.length, rowV q42 l41.length, rowV q44 l43.length, rowV q46 l45.length, rowV q48 l47.length, .bool v38] 26, blk b83 [.int .i64 ((gi a0_p.l v32).act), .slice p79 ((gi a0_p.l v32).l).length cc80, .int .i64 (((gi a0_p.l v32).n).frm), .int .i64 (((gi a0_p.l v32).n).dst), .int .i64 ((((gi a0_p.l v32).n).input).turn), .int .i64 ((((gi a0_p.l v32).n).input).player), .slice p81 ((((gi a0_p.l v32).n).input).commands).length cc82, .int .i64 (((gi a0_p.l v32).n).don), .int .u64 ((((gi a0_p.l v32).n).hash).toNat : Int), .int .i64 (((gi a0_p.l v32).n).hav), .bool ((gi a0_p.l v32).fit), .int .u64 (((gi a0_p.l v32).h).toNat : Int)] 40, blk b84 [.int .i64 v88, .int .i64 v89, .int .i64 v90, .int .i64 v91, .int .i64 v92, rowV q95 v94.length, rowV q97 v96.length, rowV q99 v98.length, rowV q101 v100.length, .slice q103 v102.length q104, .bool v93] 26, drow 35 (rowV q95 v94.length) v94, drow 35 (rowV q97 v96.length) v96, row nilH 3 (rowV q99 v98.length) v98, row nilH 3 (rowV q101 v100.length) v100, osl 36 (.slice q103 v102.length q104) v102]) () ⟨rfl, rfl, rfl, rfl, trivial⟩ ⟨rfl, trivial⟩ (fun w s => s) ?_
               rintro v123 ⟨⟩ y124 H hd116 KL116 hL116
               try dsimp only [Ex.then] at H
               refine T.conseq (fr' := [(9, _), (1, _), (3, _), (4, _), (6, _)]) ?_ ⟨rfl, rfl, rfl, rfl, rfl, trivial⟩ (fun _ s => s)
               refine T.seq fun K26 hK26 => ?_
               refine T.seq fun K27 hK27 => ?_
               refine T.weakS (S' := Sat w [blk b1 [.int .i64 a0_p.p.id, .int .i64 a0_p.p.players, .int .i64 a0_p.p.delay, .int .i64 a0_p.p.turn, .int .i64 a0_p.p.said, .slice p0 a0_p.p.mine.length c0, .slice p1 a0_p.p.inputs.length c1, .slice p2 a0_p.p.has.length c2, .slice p3 a0_p.p.acked.length c3, .slice p4 a0_p.p.hashes.length c4, .bool a0_p.p.split, .slice (some ⟨bl72, ol73, none⟩) a0_p.l.length c5] 29, drow 35 (rowV q40 l39.length) l39, drow 35 (rowV q42 l41.length) l41, row nilH 3 (rowV q44 l43.length) l43, row nilH 3 (rowV q46 l45.length) l45, row nilH 36 (rowV q48 l47.length) l47, blk b13 [.int .i64 v33, .int .i64 v34, .int .i64 v35, .int .i64 v36, .int .i64 v37, rowV q40 l39.length, rowV q42 l41.length, rowV q44 l43.length, rowV q46 l45.length, rowV q48 l47.length, .bool v38] 26, blk b83 [.int .i64 ((gi a0_p.l v32).act), .slice p79 ((gi a0_p.l v32).l).length cc80, .int .i64 (((gi a0_p.l v32).n).frm), .int .i64 (((gi a0_p.l v32).n).dst), .int .i64 ((((gi a0_p.l v32).n).input).turn), .int .i64 ((((gi a0_p.l v32).n).input).player), .slice p81 ((((gi a0_p.l v32).n).input).commands).length cc82, .int .i64 (((gi a0_p.l v32).n).don), .int .u64 ((((gi a0_p.l v32).n).hash).toNat : Int), .int .i64 (((gi a0_p.l v32).n).hav), .bool ((gi a0_p.l v32).fit), .int .u64 (((gi a0_p.l v32).h).toNat : Int)] 40, blk b84 [.int .i64 v88, .int .i64 v89, .int .i64 v90, .int .i64 v91, .int .i64 v92, rowV q95 v94.length, rowV q97 v96.length, rowV q99 v98.length, rowV q101 v100.length, .slice q103 v102.length q104, .bool v93] 26, drow 35 (rowV q95 v94.length) v94, drow 35 (rowV q97 v96.length) v96, row nilH 3 (rowV q99 v98.length) v98, row nilH 3 (rowV q101 v100.length) v100, osl 36 (.slice q103 v102.length q104) v102]) (fun w s => s) ?_
               refine T.region ?_
               refine RS.p (Pu.move rfl) rfl rfl ?_
               refine RS.p (Pu.fieldAddr fd26_6 rfl) rfl rfl ?_
               refine RS.q (Qt.ldB 6 ty22 rfl rfl rfl) rfl rfl ?_
               refine RS.p (Pu.lenSl sl22 rfl) rfl rfl ?_
               refine RS.p (Pu.bin rfl rfl rfl) rfl rfl ?_
               refine RS.nil (hK27 _ _ ?_)
               refine T.condP rfl (fun hc125 => ?_) (fun hc125 => ?_)
               ·have H := ifT hc125 H
                refine T.skip (hK26 _ _ (T.conseq (fr' := [(1, _), (3, _), (4, _), (6, _), (9, _)]) ?_ ⟨rfl, rfl, rfl, rfl, rfl, trivial⟩ (fun _ s => s)))
                refine T.seq fun K28 hK28 => ?_
                refine T.block ?_
                refine T.seq fun K29 hK29 => ?_
                refine T.weakS (S' := Sat w [blk b1 [.int .i64 a0_p.p.id, .int .i64 a0_p.p.players, .int .i64 a0_p.p.delay, .int .i64 a0_p.p.turn, .int .i64 a0_p.p.said, .slice p0 a0_p.p.mine.length c0, .slice p1 a0_p.p.inputs.length c1, .slice p2 a0_p.p.has.length c2, .slice p3 a0_p.p.acked.length c3, .slice p4 a0_p.p.hashes.length c4, .bool a0_p.p.split, .slice (some ⟨bl72, ol73, none⟩) a0_p.l.length c5] 29, drow 35 (rowV q40 l39.length) l39, drow 35 (rowV q42 l41.length) l41, row nilH 3 (rowV q44 l43.length) l43, row nilH 3 (rowV q46 l45.length) l45, row nilH 36 (rowV q48 l47.length) l47, blk b13 [.int .i64 v33, .int .i64 v34, .int .i64 v35, .int .i64 v36, .int .i64 v37, rowV q40 l39.length, rowV q42 l41.length, rowV q44 l43.length, rowV q46 l45.length, rowV q48 l47.length, .bool v38] 26, blk b83 [.int .i64 ((gi a0_p.l v32).act), .slice p79 ((gi a0_p.l v32).l).length cc80, .int .i64 (((gi a0_p.l v32).n).frm), .int .i64 (((gi a0_p.l v32).n).dst), .int .i64 ((((gi a0_p.l v32).n).input).turn), .int .i64 ((((gi a0_p.l v32).n).input).player), .slice p81 ((((gi a0_p.l v32).n).input).commands).length cc82, .int .i64 (((gi a0_p.l v32).n).don), .int .u64 ((((gi a0_p.l v32).n).hash).toNat : Int), .int .i64 (((gi a0_p.l v32).n).hav), .bool ((gi a0_p.l v32).fit), .int .u64 (((gi a0_p.l v32).h).toNat : Int)] 40, blk b84 [.int .i64 v88, .int .i64 v89, .int .i64 v90, .int .i64 v91, .int .i64 v92, rowV q95 v94.length, rowV q97 v96.length, rowV q99 v98.length, rowV q101 v100.length, .slice q103 v102.length q104, .bool v93] 26, drow 35 (rowV q95 v94.length) v94, drow 35 (rowV q97 v96.length) v96, row nilH 3 (rowV q99 v98.length) v98, row nilH 3 (rowV q101 v100.length) v100, osl 36 (.slice q103 v102.length q104) v102]) (fun w s => s) ?_
                refine T.drawn (fun _ => True) [(0, .pu), (1, .rd), (2, .pu), (3, .pu), (4, .pu), (5, .rd), (6, .pu), (7, .rd), (8, .pu), (9, .pu)] mixed (ClE.sat _ _) (by kernel_rfl) ?_
                refine RD.p (fun _ _ => trivial) rfl (Pu.fieldAddr fd26_6 rfl) rfl rfl ?_
                refine RD.q (fun _ _ => trivial) rfl (Qt.ldB 6 ty22 rfl rfl rfl) rfl rfl ?_
                refine RD.p (fun _ _ => trivial) rfl (Pu.move rfl) rfl rfl ?_
                obtain ⟨g126, H⟩ := gdE H
                refine RD.know (p := ∃ g cap, q42 = (some g, cap)) (fun w s => (s.row_someG (k := 2) rfl (pos_of g126))) ?_
                rintro ⟨gg127, cc128, rfl⟩
                refine RD.p (fun _ _ => trivial) rfl (Pu.indexSl sl22 rfl rfl g126) rfl rfl ?_
                refine RD.p (fun _ _ => trivial) rfl (Pu.fieldAddr fd35_0 rfl) rfl rfl ?_
                refine RD.q (fun _ _ => trivial) rfl (Qt.ldF (α := Inp) (Rd.ofG 2 rfl) ty3 rfl rfl g126 (by rintro _ _ ⟨_, rfl, _⟩; rfl)) rfl rfl ?_
                refine RD.p (fun _ _ => trivial) rfl (Pu.fieldAddr fd26_3 rfl) rfl rfl ?_
                refine RD.q (fun _ _ => trivial) rfl (Qt.ldB 8 ty3 rfl rfl rfl) rfl rfl ?_
                refine RD.p (fun _ _ => trivial) rfl (Pu.bin rfl rfl rfl) rfl rfl ?_
                refine RD.p (fun _ _ => trivial) rfl (Pu.assign rfl) rfl rfl ?_
                refine RD.nil (hK29 _ _ (T.conseq (fr' := [(1, _), (3, _), (4, _), (6, _), (9, _), (10, _)]) ?_ ⟨rfl, rfl, rfl, rfl, rfl, rfl, trivial⟩ (fun _ s => s)))
                refine T.seq fun K30 hK30 => ?_
                refine T.seq fun K31 hK31 => ?_
                refine T.region ?_
                refine RS.p (Pu.assign rfl) rfl rfl ?_
                refine RS.nil (hK31 _ _ ?_)
                refine T.joinE (σ := Bool) (γ := Unit) H (fun s => s) [(1, _), (3, _), (4, _), (6, _), (9, _)] ⟨rfl, rfl, rfl, rfl, rfl, trivial⟩ (fun v130 _ => [(10, .bool v130)]) (fun v130 _ => Sat w [blk b1 [.int .i64 a0_p.p.id, .int .i64 a0_p.p.players, .int .i64 a0_p.p.delay, .int .i64 a0_p.p.turn, .int .i64 a0_p.p.said, .slice p0 a0_p.p.mine.length c0, .slice p1 a0_p.p.inputs.length c1, .slice p2 a0_p.p.has.length c2, .slice p3 a0_p.p.acked.length c3, .slice p4 a0_p.p.hashes.length c4, .bool a0_p.p.split, .slice (some ⟨bl72, ol73, none⟩) a0_p.l.length c5] 29, drow 35 (rowV q40 l39.length) l39, drow 35 (rowV (some gg127, cc128) l41.length) l41, row nilH 3 (rowV q44 l43.length) l43, row nilH 3 (rowV q46 l45.length) l45, row nilH 36 (rowV q48 l47.length) l47, blk b13 [.int .i64 v33, .int .i64 v34, .int .i64 v35, .int .i64 v36, .int .i64 v37, rowV q40 l39.length, rowV (some gg127, cc128) l41.length, rowV q44 l43.length, rowV q46 l45.length, rowV q48 l47.length, .bool v38] 26, blk b83 [.int .i64 ((gi a0_p.l v32).act), .slice p79 ((gi a0_p.l v32).l).length cc80, .int .i64 (((gi a0_p.l v32).n).frm), .int .i64 (((gi a0_p.l v32).n).dst), .int .i64 ((((gi a0_p.l v32).n).input).turn), .int .i64 ((((gi a0_p.l v32).n).input).player), .slice p81 ((((gi a0_p.l v32).n).input).commands).length cc82, .int .i64 (((gi a0_p.l v32).n).don), .int .u64 ((((gi a0_p.l v32).n).hash).toNat : Int), .int .i64 (((gi a0_p.l v32).n).hav), .bool ((gi a0_p.l v32).fit), .int .u64 (((gi a0_p.l v32).h).toNat : Int)] 40, blk b84 [.int .i64 v88, .int .i64 v89, .int .i64 v90, .int .i64 v91, .int .i64 v92, rowV q95 v94.length, rowV q97 v96.length, rowV q99 v98.length, rowV q101 v100.length, .slice q103 v102.length q104, .bool v93] 26, drow 35 (rowV q95 v94.length) v94, drow 35 (rowV q97 v96.length) v96, row nilH 3 (rowV q99 v98.length) v98, row nilH 3 (rowV q101 v100.length) v100, osl 36 (.slice q103 v102.length q104) v102]) ?_ ?_
                ·rintro v130 ⟨⟩ H
                 try dsimp only [Ex.then] at H
                 refine Cont.conseq (fr' := [(10, _), (1, _), (3, _), (4, _), (6, _), (9, _)]) ?_ ⟨rfl, rfl, rfl, rfl, rfl, rfl, trivial⟩ (fun _ s => s)
                 refine id (hK30 _ _ ?_)
                 refine T.seq fun K32 hK32 => ?_
                 refine T.weakS (S' := Sat w [blk b1 [.int .i64 a0_p.p.id, .int .i64 a0_p.p.players, .int .i64 a0_p.p.delay, .int .i64 a0_p.p.turn, .int .i64 a0_p.p.said, .slice p0 a0_p.p.mine.length c0, .slice p1 a0_p.p.inputs.length c1, .slice p2 a0_p.p.has.length c2, .slice p3 a0_p.p.acked.length c3, .slice p4 a0_p.p.hashes.length c4, .bool a0_p.p.split, .slice (some ⟨bl72, ol73, none⟩) a0_p.l.length c5] 29, drow 35 (rowV q40 l39.length) l39, drow 35 (rowV (some gg127, cc128) l41.length) l41, row nilH 3 (rowV q44 l43.length) l43, row nilH 3 (rowV q46 l45.length) l45, row nilH 36 (rowV q48 l47.length) l47, blk b13 [.int .i64 v33, .int .i64 v34, .int .i64 v35, .int .i64 v36, .int .i64 v37, rowV q40 l39.length, rowV (some gg127, cc128) l41.length, rowV q44 l43.length, rowV q46 l45.length, rowV q48 l47.length, .bool v38] 26, blk b83 [.int .i64 ((gi a0_p.l v32).act), .slice p79 ((gi a0_p.l v32).l).length cc80, .int .i64 (((gi a0_p.l v32).n).frm), .int .i64 (((gi a0_p.l v32).n).dst), .int .i64 ((((gi a0_p.l v32).n).input).turn), .int .i64 ((((gi a0_p.l v32).n).input).player), .slice p81 ((((gi a0_p.l v32).n).input).commands).length cc82, .int .i64 (((gi a0_p.l v32).n).don), .int .u64 ((((gi a0_p.l v32).n).hash).toNat : Int), .int .i64 (((gi a0_p.l v32).n).hav), .bool ((gi a0_p.l v32).fit), .int .u64 (((gi a0_p.l v32).h).toNat : Int)] 40, blk b84 [.int .i64 v88, .int .i64 v89, .int .i64 v90, .int .i64 v91, .int .i64 v92, rowV q95 v94.length, rowV q97 v96.length, rowV q99 v98.length, rowV q101 v100.length, .slice q103 v102.length q104, .bool v93] 26, drow 35 (rowV q95 v94.length) v94, drow 35 (rowV q97 v96.length) v96, row nilH 3 (rowV q99 v98.length) v98, row nilH 3 (rowV q101 v100.length) v100, osl 36 (.slice q103 v102.length q104) v102]) (fun w s => s) ?_
                 refine T.region ?_
                 refine RS.p (Pu.move rfl) rfl rfl ?_
                 refine RS.p (Pu.not rfl) rfl rfl ?_
                 refine RS.nil (hK32 _ _ ?_)
                 refine T.cond rfl (fun hc131 => ?_) (fun hc131 => ?_)
                 ·have H := ifT hc131 H
                  refine T.conseq (fr' := []) ?_ trivial (fun _ s => s)
                  refine T.seq fun K33 hK33 => ?_
                  refine T.region ?_
                  refine RS.p (Pu.assign rfl) rfl rfl ?_
                  refine RS.nil (hK33 _ _ ?_)
                  obtain rfl := hd116 _ H
                  have H := HX116
                  obtain rfl := Option.some.inj H
                  have H := HX53
                  obtain rfl := hd14 _ H
                  have H := HX14
                  obtain rfl := Option.some.inj H
                  refine T.weakS (S' := Sat w [blk b1 [.int .i64 a0_p.p.id, .int .i64 a0_p.p.players, .int .i64 a0_p.p.delay, .int .i64 a0_p.p.turn, .int .i64 a0_p.p.said, .slice p0 a0_p.p.mine.length c0, .slice p1 a0_p.p.inputs.length c1, .slice p2 a0_p.p.has.length c2, .slice p3 a0_p.p.acked.length c3, .slice p4 a0_p.p.hashes.length c4, .bool a0_p.p.split, .slice (some ⟨bl72, ol73, none⟩) a0_p.l.length c5] 29, drow 35 (rowV q40 l39.length) l39, drow 35 (rowV (some gg127, cc128) l41.length) l41, row nilH 3 (rowV q44 l43.length) l43, row nilH 3 (rowV q46 l45.length) l45, row nilH 36 (rowV q48 l47.length) l47, blk b13 [.int .i64 v33, .int .i64 v34, .int .i64 v35, .int .i64 v36, .int .i64 v37, rowV q40 l39.length, rowV (some gg127, cc128) l41.length, rowV q44 l43.length, rowV q46 l45.length, rowV q48 l47.length, .bool v38] 26, blk b83 [.int .i64 ((gi a0_p.l v32).act), .slice p79 ((gi a0_p.l v32).l).length cc80, .int .i64 (((gi a0_p.l v32).n).frm), .int .i64 (((gi a0_p.l v32).n).dst), .int .i64 ((((gi a0_p.l v32).n).input).turn), .int .i64 ((((gi a0_p.l v32).n).input).player), .slice p81 ((((gi a0_p.l v32).n).input).commands).length cc82, .int .i64 (((gi a0_p.l v32).n).don), .int .u64 ((((gi a0_p.l v32).n).hash).toNat : Int), .int .i64 (((gi a0_p.l v32).n).hav), .bool ((gi a0_p.l v32).fit), .int .u64 (((gi a0_p.l v32).h).toNat : Int)] 40, blk b84 [.int .i64 v88, .int .i64 v89, .int .i64 v90, .int .i64 v91, .int .i64 v92, rowV q95 v94.length, rowV q97 v96.length, rowV q99 v98.length, rowV q101 v100.length, .slice q103 v102.length q104, .bool v93] 26, drow 35 (rowV q95 v94.length) v94, drow 35 (rowV q97 v96.length) v96, row nilH 3 (rowV q99 v98.length) v98, row nilH 3 (rowV q101 v100.length) v100, osl 36 (.slice q103 v102.length q104) v102]) (fun w s => s) ?_
                  refine T.rt (Cont.ret1 rfl rfl fun w' s => ?_)
                  exact ⟨rfl, s.ext⟩
                 ·have H := ifB hc131 H
                  refine T.skip (hK28 _ _ (T.conseq (fr' := [(1, _), (3, _), (4, _), (6, _), (9, _)]) ?_ ⟨rfl, rfl, rfl, rfl, rfl, trivial⟩ (fun _ s => s)))
                  refine T.weakS (S' := Sat w [blk b1 [.int .i64 a0_p.p.id, .int .i64 a0_p.p.players, .int .i64 a0_p.p.delay, .int .i64 a0_p.p.turn, .int .i64 a0_p.p.said, .slice p0 a0_p.p.mine.length c0, .slice p1 a0_p.p.inputs.length c1, .slice p2 a0_p.p.has.length c2, .slice p3 a0_p.p.acked.length c3, .slice p4 a0_p.p.hashes.length c4, .bool a0_p.p.split, .slice (some ⟨bl72, ol73, none⟩) a0_p.l.length c5] 29, drow 35 (rowV q40 l39.length) l39, drow 35 (rowV (some gg127, cc128) l41.length) l41, row nilH 3 (rowV q44 l43.length) l43, row nilH 3 (rowV q46 l45.length) l45, row nilH 36 (rowV q48 l47.length) l47, blk b13 [.int .i64 v33, .int .i64 v34, .int .i64 v35, .int .i64 v36, .int .i64 v37, rowV q40 l39.length, rowV (some gg127, cc128) l41.length, rowV q44 l43.length, rowV q46 l45.length, rowV q48 l47.length, .bool v38] 26, blk b83 [.int .i64 ((gi a0_p.l v32).act), .slice p79 ((gi a0_p.l v32).l).length cc80, .int .i64 (((gi a0_p.l v32).n).frm), .int .i64 (((gi a0_p.l v32).n).dst), .int .i64 ((((gi a0_p.l v32).n).input).turn), .int .i64 ((((gi a0_p.l v32).n).input).player), .slice p81 ((((gi a0_p.l v32).n).input).commands).length cc82, .int .i64 (((gi a0_p.l v32).n).don), .int .u64 ((((gi a0_p.l v32).n).hash).toNat : Int), .int .i64 (((gi a0_p.l v32).n).hav), .bool ((gi a0_p.l v32).fit), .int .u64 (((gi a0_p.l v32).h).toNat : Int)] 40, blk b84 [.int .i64 v88, .int .i64 v89, .int .i64 v90, .int .i64 v91, .int .i64 v92, rowV q95 v94.length, rowV q97 v96.length, rowV q99 v98.length, rowV q101 v100.length, .slice q103 v102.length q104, .bool v93] 26, drow 35 (rowV q95 v94.length) v94, drow 35 (rowV q97 v96.length) v96, row nilH 3 (rowV q99 v98.length) v98, row nilH 3 (rowV q101 v100.length) v100, osl 36 (.slice q103 v102.length q104) v102]) (fun w s => s) ?_
                  refine T.region ?_
                  refine RS.p (Pu.move rfl) rfl rfl ?_
                  obtain ⟨g132, H⟩ := gdE H
                  refine RS.p (Pu.addS rfl rfl g132) rfl rfl ?_
                  refine RS.p (Pu.assign rfl) rfl rfl ?_
                  refine RS.nil (hL116 _ _ (v123 + 1) () H ⟨rfl, rfl, rfl, rfl, trivial⟩ ⟨rfl, trivial⟩ (fun w s => s))
                ·intro z129 hz129 HX129 hJ129
                 refine T.block ?_
                 refine T.loopA (γ := Unit) hz129 [(1, _), (3, _), (4, _), (6, _), (9, _)] (fun (v133, v134) _ => [(10, .bool v133), (11, .int .i64 v134)]) (fun (v133, v134) _ => Sat w [blk b1 [.int .i64 a0_p.p.id, .int .i64 a0_p.p.players, .int .i64 a0_p.p.delay, .int .i64 a0_p.p.turn, .int .i64 a0_p.p.said, .slice p0 a0_p.p.mine.length c0, .slice p1 a0_p.p.inputs.length c1, .slice p2 a0_p.p.has.length c2, .slice p3 a0_p.p.acked.length c3, .slice p4 a0_p.p.hashes.length c4, .bool a0_p.p.split, .slice (some ⟨bl72, ol73, none⟩) a0_p.l.length c5] 29, drow 35 (rowV q40 l39.length) l39, drow 35 (rowV (some gg127, cc128) l41.length) l41, row nilH 3 (rowV q44 l43.length) l43, row nilH 3 (rowV q46 l45.length) l45, row nilH 36 (rowV q48 l47.length) l47, blk b13 [.int .i64 v33, .int .i64 v34, .int .i64 v35, .int .i64 v36, .int .i64 v37, rowV q40 l39.length, rowV (some gg127, cc128) l41.length, rowV q44 l43.length, rowV q46 l45.length, rowV q48 l47.length, .bool v38] 26, blk b83 [.int .i64 ((gi a0_p.l v32).act), .slice p79 ((gi a0_p.l v32).l).length cc80, .int .i64 (((gi a0_p.l v32).n).frm), .int .i64 (((gi a0_p.l v32).n).dst), .int .i64 ((((gi a0_p.l v32).n).input).turn), .int .i64 ((((gi a0_p.l v32).n).input).player), .slice p81 ((((gi a0_p.l v32).n).input).commands).length cc82, .int .i64 (((gi a0_p.l v32).n).don), .int .u64 ((((gi a0_p.l v32).n).hash).toNat : Int), .int .i64 (((gi a0_p.l v32).n).hav), .bool ((gi a0_p.l v32).fit), .int .u64 (((gi a0_p.l v32).h).toNat : Int)] 40, blk b84 [.int .i64 v88, .int .i64 v89, .int .i64 v90, .int .i64 v91, .int .i64 v92, rowV q95 v94.length, rowV q97 v96.length, rowV q99 v98.length, rowV q101 v100.length, .slice q103 v102.length q104, .bool v93] 26, drow 35 (rowV q95 v94.length) v94, drow 35 (rowV q97 v96.length) v96, row nilH 3 (rowV q99 v98.length) v98, row nilH 3 (rowV q101 v100.length) v100, osl 36 (.slice q103 v102.length q104) v102]) () ⟨rfl, rfl, rfl, rfl, rfl, trivial⟩ ⟨rfl, rfl, trivial⟩ (fun w s => s) ?_
                 rintro ⟨v133, v134⟩ ⟨⟩ y135 H hd129 KL129 hL129
                 try dsimp only [Ex.then] at H
                 refine T.conseq (fr' := [(10, _), (11, _), (1, _), (3, _), (4, _), (6, _), (9, _)]) ?_ ⟨rfl, rfl, rfl, rfl, rfl, rfl, rfl, trivial⟩ (fun _ s => s)
                 refine T.seq fun K34 hK34 => ?_
                 refine T.seq fun K35 hK35 => ?_
                 refine T.weakS (S' := Sat w [blk b1 [.int .i64 a0_p.p.id, .int .i64 a0_p.p.players, .int .i64 a0_p.p.delay, .int .i64 a0_p.p.turn, .int .i64 a0_p.p.said, .slice p0 a0_p.p.mine.length c0, .slice p1 a0_p.p.inputs.length c1, .slice p2 a0_p.p.has.length c2, .slice p3 a0_p.p.acked.length c3, .slice p4 a0_p.p.hashes.length c4, .bool a0_p.p.split, .slice (some ⟨bl72, ol73, none⟩) a0_p.l.length c5] 29, drow 35 (rowV q40 l39.length) l39, drow 35 (rowV (some gg127, cc128) l41.length) l41, row nilH 3 (rowV q44 l43.length) l43, row nilH 3 (rowV q46 l45.length) l45, row nilH 36 (rowV q48 l47.length) l47, blk b13 [.int .i64 v33, .int .i64 v34, .int .i64 v35, .int .i64 v36, .int .i64 v37, rowV q40 l39.length, rowV (some gg127, cc128) l41.length, rowV q44 l43.length, rowV q46 l45.length, rowV q48 l47.length, .bool v38] 26, blk b83 [.int .i64 ((gi a0_p.l v32).act), .slice p79 ((gi a0_p.l v32).l).length cc80, .int .i64 (((gi a0_p.l v32).n).frm), .int .i64 (((gi a0_p.l v32).n).dst), .int .i64 ((((gi a0_p.l v32).n).input).turn), .int .i64 ((((gi a0_p.l v32).n).input).player), .slice p81 ((((gi a0_p.l v32).n).input).commands).length cc82, .int .i64 (((gi a0_p.l v32).n).don), .int .u64 ((((gi a0_p.l v32).n).hash).toNat : Int), .int .i64 (((gi a0_p.l v32).n).hav), .bool ((gi a0_p.l v32).fit), .int .u64 (((gi a0_p.l v32).h).toNat : Int)] 40, blk b84 [.int .i64 v88, .int .i64 v89, .int .i64 v90, .int .i64 v91, .int .i64 v92, rowV q95 v94.length, rowV q97 v96.length, rowV q99 v98.length, rowV q101 v100.length, .slice q103 v102.length q104, .bool v93] 26, drow 35 (rowV q95 v94.length) v94, drow 35 (rowV q97 v96.length) v96, row nilH 3 (rowV q99 v98.length) v98, row nilH 3 (rowV q101 v100.length) v100, osl 36 (.slice q103 v102.length q104) v102]) (fun w s => s) ?_
                 refine T.region ?_
                 refine RS.p (Pu.move rfl) rfl rfl ?_
                 refine RS.p (Pu.fieldAddr fd26_6 rfl) rfl rfl ?_
                 refine RS.q (Qt.ldB 8 ty22 rfl rfl rfl) rfl rfl ?_
                 refine RS.p (Pu.lenSl sl22 rfl) rfl rfl ?_
                 refine RS.p (Pu.bin rfl rfl rfl) rfl rfl ?_
                 refine RS.nil (hK35 _ _ ?_)
                 refine T.condP rfl (fun hc136 => ?_) (fun hc136 => ?_)
                 ·have H := ifT hc136 H
                  refine T.skip (hK34 _ _ (T.conseq (fr' := [(1, _), (3, _), (4, _), (6, _), (9, _), (10, _), (11, _)]) ?_ ⟨rfl, rfl, rfl, rfl, rfl, rfl, rfl, trivial⟩ (fun _ s => s)))
                  refine T.seq fun K36 hK36 => ?_
                  refine T.block ?_
                  refine T.exP (fun w s => s.freeze 10 rfl) fun hh137 hz138 => ?_
                  refine T.exP (fun w s => s.freeze 2 rfl) fun hh139 hz140 => ?_
                  refine T.weakS (S' := Sat w [blk b1 [.int .i64 a0_p.p.id, .int .i64 a0_p.p.players, .int .i64 a0_p.p.delay, .int .i64 a0_p.p.turn, .int .i64 a0_p.p.said, .slice p0 a0_p.p.mine.length c0, .slice p1 a0_p.p.inputs.length c1, .slice p2 a0_p.p.has.length c2, .slice p3 a0_p.p.acked.length c3, .slice p4 a0_p.p.hashes.length c4, .bool a0_p.p.split, .slice (some ⟨bl72, ol73, none⟩) a0_p.l.length c5] 29, drow 35 (rowV q40 l39.length) l39, fz hh139, row nilH 3 (rowV q44 l43.length) l43, row nilH 3 (rowV q46 l45.length) l45, row nilH 36 (rowV q48 l47.length) l47, blk b13 [.int .i64 v33, .int .i64 v34, .int .i64 v35, .int .i64 v36, .int .i64 v37, rowV q40 l39.length, rowV (some gg127, cc128) l41.length, rowV q44 l43.length, rowV q46 l45.length, rowV q48 l47.length, .bool v38] 26, blk b83 [.int .i64 ((gi a0_p.l v32).act), .slice p79 ((gi a0_p.l v32).l).length cc80, .int .i64 (((gi a0_p.l v32).n).frm), .int .i64 (((gi a0_p.l v32).n).dst), .int .i64 ((((gi a0_p.l v32).n).input).turn), .int .i64 ((((gi a0_p.l v32).n).input).player), .slice p81 ((((gi a0_p.l v32).n).input).commands).length cc82, .int .i64 (((gi a0_p.l v32).n).don), .int .u64 ((((gi a0_p.l v32).n).hash).toNat : Int), .int .i64 (((gi a0_p.l v32).n).hav), .bool ((gi a0_p.l v32).fit), .int .u64 (((gi a0_p.l v32).h).toNat : Int)] 40, blk b84 [.int .i64 v88, .int .i64 v89, .int .i64 v90, .int .i64 v91, .int .i64 v92, rowV q95 v94.length, rowV q97 v96.length, rowV q99 v98.length, rowV q101 v100.length, .slice q103 v102.length q104, .bool v93] 26, drow 35 (rowV q95 v94.length) v94, fz hh137, row nilH 3 (rowV q99 v98.length) v98, row nilH 3 (rowV q101 v100.length) v100, osl 36 (.slice q103 v102.length q104) v102]) (fun w s => s) ?_
                  refine T.drawn (fun _ => True) [(0, .pu), (1, .pu), (2, .pu), (3, .rd), (4, .pu), (5, .pu), (6, .rd), (7, .pu), (8, .rd), (9, .pu), (10, .pu), (11, .rd), (12, .rd), (13, .pu), (14, .pu)] mixed (ClE.sat _ _) (by kernel_rfl) ?_
                  refine RD.p (fun _ _ => trivial) rfl (Pu.move rfl) rfl rfl ?_
                  refine RD.p (fun _ _ => trivial) rfl (Pu.move rfl) rfl rfl ?_
                  refine RD.joinB H 12 170 (fun b143 => .bool b143) [(1, _), (3, _), (4, _), (6, _), (9, _), (10, _), (11, _)] ⟨rfl, rfl, rfl, rfl, rfl, rfl, rfl, trivial⟩ ?_ ?_
                  ·intro b143 H
                   refine RD.p (fun _ _ => trivial) rfl (Pu.assign rfl) rfl rfl ?_
                   refine RD.nil (hK36 _ _ ?_)
                   refine T.weakS (S' := Sat w [blk b1 [.int .i64 a0_p.p.id, .int .i64 a0_p.p.players, .int .i64 a0_p.p.delay, .int .i64 a0_p.p.turn, .int .i64 a0_p.p.said, .slice p0 a0_p.p.mine.length c0, .slice p1 a0_p.p.inputs.length c1, .slice p2 a0_p.p.has.length c2, .slice p3 a0_p.p.acked.length c3, .slice p4 a0_p.p.hashes.length c4, .bool a0_p.p.split, .slice (some ⟨bl72, ol73, none⟩) a0_p.l.length c5] 29, drow 35 (rowV q40 l39.length) l39, fz hh139, row nilH 3 (rowV q44 l43.length) l43, row nilH 3 (rowV q46 l45.length) l45, row nilH 36 (rowV q48 l47.length) l47, blk b13 [.int .i64 v33, .int .i64 v34, .int .i64 v35, .int .i64 v36, .int .i64 v37, rowV q40 l39.length, rowV (some gg127, cc128) l41.length, rowV q44 l43.length, rowV q46 l45.length, rowV q48 l47.length, .bool v38] 26, blk b83 [.int .i64 ((gi a0_p.l v32).act), .slice p79 ((gi a0_p.l v32).l).length cc80, .int .i64 (((gi a0_p.l v32).n).frm), .int .i64 (((gi a0_p.l v32).n).dst), .int .i64 ((((gi a0_p.l v32).n).input).turn), .int .i64 ((((gi a0_p.l v32).n).input).player), .slice p81 ((((gi a0_p.l v32).n).input).commands).length cc82, .int .i64 (((gi a0_p.l v32).n).don), .int .u64 ((((gi a0_p.l v32).n).hash).toNat : Int), .int .i64 (((gi a0_p.l v32).n).hav), .bool ((gi a0_p.l v32).fit), .int .u64 (((gi a0_p.l v32).h).toNat : Int)] 40, blk b84 [.int .i64 v88, .int .i64 v89, .int .i64 v90, .int .i64 v91, .int .i64 v92, rowV q95 v94.length, rowV q97 v96.length, rowV q99 v98.length, rowV q101 v100.length, .slice q103 v102.length q104, .bool v93] 26, drow 35 (rowV q95 v94.length) v94, fz hh137, row nilH 3 (rowV q99 v98.length) v98, row nilH 3 (rowV q101 v100.length) v100, osl 36 (.slice q103 v102.length q104) v102]) (fun w s => s) ?_
                   refine T.region ?_
                   refine RS.p (Pu.move rfl) rfl rfl ?_
                   obtain ⟨g144, H⟩ := gdE H
                   refine RS.p (Pu.addS rfl rfl g144) rfl rfl ?_
                   refine RS.p (Pu.assign rfl) rfl rfl ?_
                   refine RS.nil (hL129 _ _ (b143, (v134 + 1)) () H ⟨rfl, rfl, rfl, rfl, rfl, trivial⟩ ⟨rfl, rfl, trivial⟩ (fun w s => (Sat.thaw hz138 10 rfl (Sat.thaw hz140 2 rfl s)).pick [0, 1, 2, 3, 4, 5, 6, 7, 8, 9, 10, 11, 12, 13] (by decide) rfl))
                  ·intro z145 H hJ142
                   refine RD.split 158 rfl (fun hc141 => ?_) (fun hc141 => ?_)
                   ·have H := ifT hc141 H
                    refine RD.no (fun _ _ => trivial) rfl rfl rfl (.inl rfl) ?_
                    refine RD.no (fun _ _ => trivial) rfl rfl rfl (.inr (.inr rfl)) ?_
                    refine RD.no (fun _ _ => trivial) rfl rfl rfl (.inl rfl) ?_
                    refine RD.no (fun _ _ => trivial) rfl rfl rfl (.inl rfl) ?_
                    refine RD.no (fun _ _ => trivial) rfl rfl rfl (.inr (.inr rfl)) ?_
                    refine RD.no (fun _ _ => trivial) rfl rfl rfl (.inl rfl) ?_
                    refine RD.no (fun _ _ => trivial) rfl rfl rfl (.inr (.inr rfl)) ?_
                    refine RD.no (fun _ _ => trivial) rfl rfl rfl (.inl rfl) ?_
                    refine RD.no (fun _ _ => trivial) rfl rfl rfl (.inl rfl) ?_
                    refine RD.no (fun _ _ => trivial) rfl rfl rfl (.inr (.inr rfl)) ?_
                    refine RD.no (fun _ _ => trivial) rfl rfl rfl (.inr (.inr rfl)) ?_
                    refine RD.p (fun _ _ => trivial) rfl (Pu.pickT rfl rfl) rfl rfl ?_
                    obtain rfl := Option.some.inj H
                    exact hJ142 _ ⟨rfl, rfl, rfl, rfl, rfl, rfl, rfl, rfl, trivial⟩
                   ·have H := ifB hc141 H
                    refine RD.p (fun _ _ => trivial) rfl (Pu.fieldAddr fd26_6 rfl) rfl rfl ?_
                    refine RD.q (fun _ _ => trivial) rfl (Qt.ldB 8 ty22 rfl rfl rfl) rfl rfl ?_
                    refine RD.p (fun _ _ => trivial) rfl (Pu.move rfl) rfl rfl ?_
                    obtain ⟨g146, H⟩ := gdE H
                    refine RD.know (p := ∃ g cap, q97 = (some g, cap)) (fun w s => (row_some' (e := 35) (drow_R hz138) (pos_of g146))) ?_
                    rintro ⟨gg147, cc148, rfl⟩
                    refine RD.p (fun _ _ => trivial) rfl (Pu.indexSl sl22 rfl rfl g146) rfl rfl ?_
                    obtain ⟨c149, hc150, ha151⟩ := R_el (α := Inp) (drow_R hz138) g146
                    obtain ⟨u152, rfl, hu152⟩ := hc150
                    obtain ⟨p153, cc154, rfl⟩ := R_form hu152
                    refine RD.q (fun _ _ => trivial) rfl (Qt.ldZ (cs := [_, _, _]) ty35 rfl ha151 (Held.fz 10 rfl) rfl) rfl rfl ?_
                    refine RD.p (fun _ _ => trivial) rfl (Pu.fieldAddr fd26_6 rfl) rfl rfl ?_
                    refine RD.q (fun _ _ => trivial) rfl (Qt.ldB 6 ty22 rfl rfl rfl) rfl rfl ?_
                    refine RD.p (fun _ _ => trivial) rfl (Pu.move rfl) rfl rfl ?_
                    obtain ⟨g155, H⟩ := gdE H
                    refine RD.p (fun _ _ => trivial) rfl (Pu.indexSl sl22 rfl rfl g155) rfl rfl ?_
                    obtain ⟨c156, hc157, ha158⟩ := R_el (α := Inp) (drow_R hz140) g155
                    obtain ⟨u159, rfl, hu159⟩ := hc157
                    obtain ⟨p160, cc161, rfl⟩ := R_form hu159
                    refine RD.q (fun _ _ => trivial) rfl (Qt.ldZ (cs := [_, _, _]) ty35 rfl ha158 (Held.fz 2 rfl) rfl) rfl rfl ?_
                    obtain ⟨x162, hx162, H⟩ := bindE H
                    refine RD.q (fun _ _ => trivial) rfl (Qt.call (vs := [.agg #[.int .i64 ((gi v96 v134).turn), .int .i64 ((gi v96 v134).player), .slice p153 ((gi v96 v134).commands).length cc154], .agg #[.int .i64 ((gi l41 v123).turn), .int .i64 ((gi l41 v123).player), .slice p160 ((gi l41 v123).commands).length cc161]]) ent14 rfl fun w s => throngref0_EqInput_walk (gi v96 v134) (gi l41 v123) w ((Rd.ofFz 10 rfl hu152) w s) ((Rd.ofFz 2 rfl hu159) w s) hx162) rfl rfl ?_
                    refine RD.p (fun _ _ => trivial) rfl (Pu.pickF rfl rfl) rfl rfl ?_
                    obtain rfl := Option.some.inj H
                    exact hJ142 _ ⟨rfl, rfl, rfl, rfl, rfl, rfl, rfl, rfl, trivial⟩
                 ·have H := ifF hc136 H
                  obtain rfl := hd129 _ H
                  refine T.xt (hJ129 _ _ v133 () HX129 ⟨rfl, rfl, rfl, rfl, rfl, trivial⟩ ⟨rfl, trivial⟩ (fun w s => s))
               ·have H := ifF hc125 H
                obtain rfl := hd116 _ H
                refine T.xt (hJ116 _ _ () () HX116 ⟨rfl, rfl, rfl, rfl, trivial⟩ trivial (fun w s => s))
             ·intro z115 hz115 HX115 hJ115
              refine T.block ?_
              refine T.loopA (γ := Unit) hz115 [(1, _), (3, _), (4, _), (6, _)] (fun v163 _ => [(8, .int .i64 v163)]) (fun v163 _ => Sat w [blk b1 [.int .i64 a0_p.p.id, .int .i64 a0_p.p.players, .int .i64 a0_p.p.delay, .int .i64 a0_p.p.turn, .int .i64 a0_p.p.said, .slice p0 a0_p.p.mine.length c0, .slice p1 a0_p.p.inputs.length c1, .slice p2 a0_p.p.has.length c2, .slice p3 a0_p.p.acked.length c3, .slice p4 a0_p.p.hashes.length c4, .bool a0_p.p.split, .slice (some ⟨bl72, ol73, none⟩) a0_p.l.length c5] 29, drow 35 (rowV q40 l39.length) l39, drow 35 (rowV q42 l41.length) l41, row nilH 3 (rowV q44 l43.length) l43, row nilH 3 (rowV q46 l45.length) l45, row nilH 36 (rowV q48 l47.length) l47, blk b13 [.int .i64 v33, .int .i64 v34, .int .i64 v35, .int .i64 v36, .int .i64 v37, rowV q40 l39.length, rowV q42 l41.length, rowV q44 l43.length, rowV q46 l45.length, rowV q48 l47.length, .bool v38] 26, blk b83 [.int .i64 ((gi a0_p.l v32).act), .slice p79 ((gi a0_p.l v32).l).length cc80, .int .i64 (((gi a0_p.l v32).n).frm), .int .i64 (((gi a0_p.l v32).n).dst), .int .i64 ((((gi a0_p.l v32).n).input).turn), .int .i64 ((((gi a0_p.l v32).n).input).player), .slice p81 ((((gi a0_p.l v32).n).input).commands).length cc82, .int .i64 (((gi a0_p.l v32).n).don), .int .u64 ((((gi a0_p.l v32).n).hash).toNat : Int), .int .i64 (((gi a0_p.l v32).n).hav), .bool ((gi a0_p.l v32).fit), .int .u64 (((gi a0_p.l v32).h).toNat : Int)] 40, blk b84 [.int .i64 v88, .int .i64 v89, .int .i64 v90, .int .i64 v91, .int .i64 v92, rowV q95 v94.length, rowV q97 v96.length, rowV q99 v98.length, rowV q101 v100.length, .slice q103 v102.length q104, .bool v93] 26, drow 35 (rowV q95 v94.length) v94, drow 35 (rowV q97 v96.length) v96, row nilH 3 (rowV q99 v98.length) v98, row nilH 3 (rowV q101 v100.length) v100, osl 36 (.slice q103 v102.length q104) v102]) () ⟨rfl, rfl, rfl, rfl, trivial⟩ ⟨rfl, trivial⟩ (fun w s => s) ?_
              rintro v163 ⟨⟩ y164 H hd115 KL115 hL115
              try dsimp only [Ex.then] at H
              refine T.conseq (fr' := [(8, _), (1, _), (3, _), (4, _), (6, _)]) ?_ ⟨rfl, rfl, rfl, rfl, rfl, trivial⟩ (fun _ s => s)
              refine T.seq fun K37 hK37 => ?_
              refine T.seq fun K38 hK38 => ?_
              refine T.weakS (S' := Sat w [blk b1 [.int .i64 a0_p.p.id, .int .i64 a0_p.p.players, .int .i64 a0_p.p.delay, .int .i64 a0_p.p.turn, .int .i64 a0_p.p.said, .slice p0 a0_p.p.mine.length c0, .slice p1 a0_p.p.inputs.length c1, .slice p2 a0_p.p.has.length c2, .slice p3 a0_p.p.acked.length c3, .slice p4 a0_p.p.hashes.length c4, .bool a0_p.p.split, .slice (some ⟨bl72, ol73, none⟩) a0_p.l.length c5] 29, drow 35 (rowV q40 l39.length) l39, drow 35 (rowV q42 l41.length) l41, row nilH 3 (rowV q44 l43.length) l43, row nilH 3 (rowV q46 l45.length) l45, row nilH 36 (rowV q48 l47.length) l47, blk b13 [.int .i64 v33, .int .i64 v34, .int .i64 v35, .int .i64 v36, .int .i64 v37, rowV q40 l39.length, rowV q42 l41.length, rowV q44 l43.length, rowV q46 l45.length, rowV q48 l47.length, .bool v38] 26, blk b83 [.int .i64 ((gi a0_p.l v32).act), .slice p79 ((gi a0_p.l v32).l).length cc80, .int .i64 (((gi a0_p.l v32).n).frm), .int .i64 (((gi a0_p.l v32).n).dst), .int .i64 ((((gi a0_p.l v32).n).input).turn), .int .i64 ((((gi a0_p.l v32).n).input).player), .slice p81 ((((gi a0_p.l v32).n).input).commands).length cc82, .int .i64 (((gi a0_p.l v32).n).don), .int .u64 ((((gi a0_p.l v32).n).hash).toNat : Int), .int .i64 (((gi a0_p.l v32).n).hav), .bool ((gi a0_p.l v32).fit), .int .u64 (((gi a0_p.l v32).h).toNat : Int)] 40, blk b84 [.int .i64 v88, .int .i64 v89, .int .i64 v90, .int .i64 v91, .int .i64 v92, rowV q95 v94.length, rowV q97 v96.length, rowV q99 v98.length, rowV q101 v100.length, .slice q103 v102.length q104, .bool v93] 26, drow 35 (rowV q95 v94.length) v94, drow 35 (rowV q97 v96.length) v96, row nilH 3 (rowV q99 v98.length) v98, row nilH 3 (rowV q101 v100.length) v100, osl 36 (.slice q103 v102.length q104) v102]) (fun w s => s) ?_
              refine T.region ?_
              refine RS.p (Pu.move rfl) rfl rfl ?_
              refine RS.p (Pu.fieldAddr fd26_7 rfl) rfl rfl ?_
              refine RS.q (Qt.ldB 6 ty23 rfl rfl rfl) rfl rfl ?_
              refine RS.p (Pu.lenSl sl23 rfl) rfl rfl ?_
              refine RS.p (Pu.bin rfl rfl rfl) rfl rfl ?_
              refine RS.nil (hK38 _ _ ?_)
              refine T.condP rfl (fun hc165 => ?_) (fun hc165 => ?_)
              ·have H := ifT hc165 H
               refine T.skip (hK37 _ _ (T.conseq (fr' := [(1, _), (3, _), (4, _), (6, _), (8, _)]) ?_ ⟨rfl, rfl, rfl, rfl, rfl, trivial⟩ (fun _ s => s)))
               refine T.seq fun K39 hK39 => ?_
               refine T.block ?_
               refine T.seq fun K40 hK40 => ?_
               refine T.weakS (S' := Sat w [blk b1 [.int .i64 a0_p.p.id, .int .i64 a0_p.p.players, .int .i64 a0_p.p.delay, .int .i64 a0_p.p.turn, .int .i64 a0_p.p.said, .slice p0 a0_p.p.mine.length c0, .slice p1 a0_p.p.inputs.length c1, .slice p2 a0_p.p.has.length c2, .slice p3 a0_p.p.acked.length c3, .slice p4 a0_p.p.hashes.length c4, .bool a0_p.p.split, .slice (some ⟨bl72, ol73, none⟩) a0_p.l.length c5] 29, drow 35 (rowV q40 l39.length) l39, drow 35 (rowV q42 l41.length) l41, row nilH 3 (rowV q44 l43.length) l43, row nilH 3 (rowV q46 l45.length) l45, row nilH 36 (rowV q48 l47.length) l47, blk b13 [.int .i64 v33, .int .i64 v34, .int .i64 v35, .int .i64 v36, .int .i64 v37, rowV q40 l39.length, rowV q42 l41.length, rowV q44 l43.length, rowV q46 l45.length, rowV q48 l47.length, .bool v38] 26, blk b83 [.int .i64 ((gi a0_p.l v32).act), .slice p79 ((gi a0_p.l v32).l).length cc80, .int .i64 (((gi a0_p.l v32).n).frm), .int .i64 (((gi a0_p.l v32).n).dst), .int .i64 ((((gi a0_p.l v32).n).input).turn), .int .i64 ((((gi a0_p.l v32).n).input).player), .slice p81 ((((gi a0_p.l v32).n).input).commands).length cc82, .int .i64 (((gi a0_p.l v32).n).don), .int .u64 ((((gi a0_p.l v32).n).hash).toNat : Int), .int .i64 (((gi a0_p.l v32).n).hav), .bool ((gi a0_p.l v32).fit), .int .u64 (((gi a0_p.l v32).h).toNat : Int)] 40, blk b84 [.int .i64 v88, .int .i64 v89, .int .i64 v90, .int .i64 v91, .int .i64 v92, rowV q95 v94.length, rowV q97 v96.length, rowV q99 v98.length, rowV q101 v100.length, .slice q103 v102.length q104, .bool v93] 26, drow 35 (rowV q95 v94.length) v94, drow 35 (rowV q97 v96.length) v96, row nilH 3 (rowV q99 v98.length) v98, row nilH 3 (rowV q101 v100.length) v100, osl 36 (.slice q103 v102.length q104) v102]) (fun w s => s) ?_
               refine T.drawn (fun _ => True) [(0, .pu), (1, .rd), (2, .pu), (3, .pu), (4, .rd), (5, .pu), (6, .rd), (7, .pu), (8, .pu), (9, .rd), (10, .pu), (11, .pu), (12, .pu), (13, .rd), (14, .pu), (15, .pu), (16, .rd), (17, .pu), (18, .rd), (19, .pu), (20, .pu), (21, .rd), (22, .pu), (23, .pu)] mixed (ClE.sat _ _) (by kernel_rfl) ?_
               refine RD.p (fun _ _ => trivial) rfl (Pu.fieldAddr fd26_7 rfl) rfl rfl ?_
               refine RD.q (fun _ _ => trivial) rfl (Qt.ldB 8 ty23 rfl rfl rfl) rfl rfl ?_
               refine RD.p (fun _ _ => trivial) rfl (Pu.move rfl) rfl rfl ?_
               obtain ⟨g166, H⟩ := gdE H
               refine RD.know (p := ∃ g cap, q99 = (some g, cap)) (fun w s => (s.row_some (k := 11) rfl (pos_of g166))) ?_
               rintro ⟨gg167, cc168, rfl⟩
               refine RD.p (fun _ _ => trivial) rfl (Pu.indexSl sl23 rfl rfl g166) rfl rfl ?_
               refine RD.q (fun _ _ => trivial) rfl (Qt.ld0 (α := Int) (Rd.ofRowN 11 rfl) ty3 rfl rfl g166 (by rintro _ _ rfl; rfl)) rfl rfl ?_
               refine RD.p (fun _ _ => trivial) rfl (Pu.fieldAddr fd26_7 rfl) rfl rfl ?_
               refine RD.q (fun _ _ => trivial) rfl (Qt.ldB 6 ty23 rfl rfl rfl) rfl rfl ?_
               refine RD.p (fun _ _ => trivial) rfl (Pu.move rfl) rfl rfl ?_
               obtain ⟨g169, H⟩ := gdE H
               refine RD.know (p := ∃ g cap, q44 = (some g, cap)) (fun w s => (s.row_some (k := 3) rfl (pos_of g169))) ?_
               rintro ⟨gg170, cc171, rfl⟩
               refine RD.p (fun _ _ => trivial) rfl (Pu.indexSl sl23 rfl rfl g169) rfl rfl ?_
               refine RD.q (fun _ _ => trivial) rfl (Qt.ld0 (α := Int) (Rd.ofRowN 3 rfl) ty3 rfl rfl g169 (by rintro _ _ rfl; rfl)) rfl rfl ?_
               refine RD.p (fun _ _ => trivial) rfl (Pu.bin rfl rfl rfl) rfl rfl ?_
               refine RD.p (fun _ _ => trivial) rfl (Pu.move rfl) rfl rfl ?_
               obtain ⟨g174, H⟩ := gdE H
               obtain ⟨g175, H⟩ := gdE H
               refine RD.joinV 12 133 (.bool (decide (((gi v98 v163) < (gi l43 v163)) ∨ ((gi v100 v163) < (gi l45 v163))))) [(1, _), (3, _), (4, _), (6, _), (8, _)] ⟨rfl, rfl, rfl, rfl, rfl, trivial⟩ ?_ ?_
               ·refine RD.nil (hK40 _ _ ?_)
                refine T.condP rfl (fun hc176 => ?_) (fun hc176 => ?_)
                ·have H := ifT hc176 H
                 refine T.conseq (fr' := []) ?_ trivial (fun _ s => s)
                 refine T.seq fun K41 hK41 => ?_
                 refine T.region ?_
                 refine RS.p (Pu.assign rfl) rfl rfl ?_
                 refine RS.nil (hK41 _ _ ?_)
                 obtain rfl := hd115 _ H
                 have H := HX115
                 obtain rfl := Option.some.inj H
                 have H := HX53
                 obtain rfl := hd14 _ H
                 have H := HX14
                 obtain rfl := Option.some.inj H
                 refine T.weakS (S' := Sat w [blk b1 [.int .i64 a0_p.p.id, .int .i64 a0_p.p.players, .int .i64 a0_p.p.delay, .int .i64 a0_p.p.turn, .int .i64 a0_p.p.said, .slice p0 a0_p.p.mine.length c0, .slice p1 a0_p.p.inputs.length c1, .slice p2 a0_p.p.has.length c2, .slice p3 a0_p.p.acked.length c3, .slice p4 a0_p.p.hashes.length c4, .bool a0_p.p.split, .slice (some ⟨bl72, ol73, none⟩) a0_p.l.length c5] 29, drow 35 (rowV q40 l39.length) l39, drow 35 (rowV q42 l41.length) l41, row nilH 3 (rowV (some gg170, cc171) l43.length) l43, row nilH 3 (rowV q46 l45.length) l45, row nilH 36 (rowV q48 l47.length) l47, blk b13 [.int .i64 v33, .int .i64 v34, .int .i64 v35, .int .i64 v36, .int .i64 v37, rowV q40 l39.length, rowV q42 l41.length, rowV (some gg170, cc171) l43.length, rowV q46 l45.length, rowV q48 l47.length, .bool v38] 26, blk b83 [.int .i64 ((gi a0_p.l v32).act), .slice p79 ((gi a0_p.l v32).l).length cc80, .int .i64 (((gi a0_p.l v32).n).frm), .int .i64 (((gi a0_p.l v32).n).dst), .int .i64 ((((gi a0_p.l v32).n).input).turn), .int .i64 ((((gi a0_p.l v32).n).input).player), .slice p81 ((((gi a0_p.l v32).n).input).commands).length cc82, .int .i64 (((gi a0_p.l v32).n).don), .int .u64 ((((gi a0_p.l v32).n).hash).toNat : Int), .int .i64 (((gi a0_p.l v32).n).hav), .bool ((gi a0_p.l v32).fit), .int .u64 (((gi a0_p.l v32).h).toNat : Int)] 40, blk b84 [.int .i64 v88, .int .i64 v89, .int .i64 v90, .int .i64 v91, .int .i64 v92, rowV q95 v94.length, rowV q97 v96.length, rowV (some gg167, cc168) v98.length, rowV q101 v100.length, .slice q103 v102.length q104, .bool v93] 26, drow 35 (rowV q95 v94.length) v94, drow 35 (rowV q97 v96.length) v96, row nilH 3 (rowV (some gg167, cc168) v98.length) v98, row nilH 3 (rowV q101 v100.length) v100, osl 36 (.slice q103 v102.length q104) v102]) (fun w s => s) ?_
                 refine T.rt (Cont.ret1 rfl rfl fun w' s => ?_)
                 exact ⟨rfl, s.ext⟩
                ·have H := ifF hc176 H
                 refine T.skip (hK39 _ _ ?_)
                 refine T.weakS (S' := Sat w [blk b1 [.int .i64 a0_p.p.id, .int .i64 a0_p.p.players, .int .i64 a0_p.p.delay, .int .i64 a0_p.p.turn, .int .i64 a0_p.p.said, .slice p0 a0_p.p.mine.length c0, .slice p1 a0_p.p.inputs.length c1, .slice p2 a0_p.p.has.length c2, .slice p3 a0_p.p.acked.length c3, .slice p4 a0_p.p.hashes.length c4, .bool a0_p.p.split, .slice (some ⟨bl72, ol73, none⟩) a0_p.l.length c5] 29, drow 35 (rowV q40 l39.length) l39, drow 35 (rowV q42 l41.length) l41, row nilH 3 (rowV (some gg170, cc171) l43.length) l43, row nilH 3 (rowV q46 l45.length) l45, row nilH 36 (rowV q48 l47.length) l47, blk b13 [.int .i64 v33, .int .i64 v34, .int .i64 v35, .int .i64 v36, .int .i64 v37, rowV q40 l39.length, rowV q42 l41.length, rowV (some gg170, cc171) l43.length, rowV q46 l45.length, rowV q48 l47.length, .bool v38] 26, blk b83 [.int .i64 ((gi a0_p.l v32).act), .slice p79 ((gi a0_p.l v32).l).length cc80, .int .i64 (((gi a0_p.l v32).n).frm), .int .i64 (((gi a0_p.l v32).n).dst), .int .i64 ((((gi a0_p.l v32).n).input).turn), .int .i64 ((((gi a0_p.l v32).n).input).player), .slice p81 ((((gi a0_p.l v32).n).input).commands).length cc82, .int .i64 (((gi a0_p.l v32).n).don), .int .u64 ((((gi a0_p.l v32).n).hash).toNat : Int), .int .i64 (((gi a0_p.l v32).n).hav), .bool ((gi a0_p.l v32).fit), .int .u64 (((gi a0_p.l v32).h).toNat : Int)] 40, blk b84 [.int .i64 v88, .int .i64 v89, .int .i64 v90, .int .i64 v91, .int .i64 v92, rowV q95 v94.length, rowV q97 v96.length, rowV (some gg167, cc168) v98.length, rowV q101 v100.length, .slice q103 v102.length q104, .bool v93] 26, drow 35 (rowV q95 v94.length) v94, drow 35 (rowV q97 v96.length) v96, row nilH 3 (rowV (some gg167, cc168) v98.length) v98, row nilH 3 (rowV q101 v100.length) v100, osl 36 (.slice q103 v102.length q104) v102]) (fun w s => s) ?_
                 refine T.region ?_
                 refine RS.p (Pu.move rfl) rfl rfl ?_
                 obtain ⟨g177, H⟩ := gdE H
                 refine RS.p (Pu.addS rfl rfl g177) rfl rfl ?_
                 refine RS.p (Pu.assign rfl) rfl rfl ?_
                 refine RS.nil (hL115 _ _ (v163 + 1) () H ⟨rfl, rfl, rfl, rfl, trivial⟩ ⟨rfl, trivial⟩ (fun w s => s))
               ·intro hJ173
                refine RD.splitP 121 rfl (fun hc172 => ?_) (fun hc172 => ?_)
                ·refine RD.no (fun _ _ => trivial) rfl rfl rfl (.inl rfl) ?_
                 refine RD.no (fun _ _ => trivial) rfl rfl rfl (.inr (.inr rfl)) ?_
                 refine RD.no (fun _ _ => trivial) rfl rfl rfl (.inl rfl) ?_
                 refine RD.no (fun _ _ => trivial) rfl rfl rfl (.inl rfl) ?_
                 refine RD.no (fun _ _ => trivial) rfl rfl rfl (.inr (.inr rfl)) ?_
                 refine RD.no (fun _ _ => trivial) rfl rfl rfl (.inl rfl) ?_
                 refine RD.no (fun _ _ => trivial) rfl rfl rfl (.inr (.inr rfl)) ?_
                 refine RD.no (fun _ _ => trivial) rfl rfl rfl (.inl rfl) ?_
                 refine RD.no (fun _ _ => trivial) rfl rfl rfl (.inl rfl) ?_
                 refine RD.no (fun _ _ => trivial) rfl rfl rfl (.inr (.inr rfl)) ?_
                 refine RD.no (fun _ _ => trivial) rfl rfl rfl (.inl rfl) ?_
                 refine RD.p (fun _ _ => trivial) rfl (Pu.pickT rfl rfl) rfl rfl ?_
                 exact hJ173 _ ⟨dOrT hc172, rfl, rfl, rfl, rfl, rfl, trivial⟩
                ·refine RD.p (fun _ _ => trivial) rfl (Pu.fieldAddr fd26_8 rfl) rfl rfl ?_
                 refine RD.q (fun _ _ => trivial) rfl (Qt.ldB 8 ty23 rfl rfl rfl) rfl rfl ?_
                 refine RD.p (fun _ _ => trivial) rfl (Pu.move rfl) rfl rfl ?_
                 refine RD.know (p := ∃ g cap, q101 = (some g, cap)) (fun w s => (s.row_some (k := 12) rfl (pos_of (g174 hc172)))) ?_
                 rintro ⟨gg178, cc179, rfl⟩
                 refine RD.p (fun _ _ => trivial) rfl (Pu.indexSl sl23 rfl rfl (g174 hc172)) rfl rfl ?_
                 refine RD.q (fun _ _ => trivial) rfl (Qt.ld0 (α := Int) (Rd.ofRowN 12 rfl) ty3 rfl rfl (g174 hc172) (by rintro _ _ rfl; rfl)) rfl rfl ?_
                 refine RD.p (fun _ _ => trivial) rfl (Pu.fieldAddr fd26_8 rfl) rfl rfl ?_
                 refine RD.q (fun _ _ => trivial) rfl (Qt.ldB 6 ty23 rfl rfl rfl) rfl rfl ?_
                 refine RD.p (fun _ _ => trivial) rfl (Pu.move rfl) rfl rfl ?_
                 refine RD.know (p := ∃ g cap, q46 = (some g, cap)) (fun w s => (s.row_some (k := 4) rfl (pos_of (g175 hc172)))) ?_
                 rintro ⟨gg180, cc181, rfl⟩
                 refine RD.p (fun _ _ => trivial) rfl (Pu.indexSl sl23 rfl rfl (g175 hc172)) rfl rfl ?_
                 refine RD.q (fun _ _ => trivial) rfl (Qt.ld0 (α := Int) (Rd.ofRowN 4 rfl) ty3 rfl rfl (g175 hc172) (by rintro _ _ rfl; rfl)) rfl rfl ?_
                 refine RD.p (fun _ _ => trivial) rfl (Pu.bin rfl rfl rfl) rfl rfl ?_
                 refine RD.p (fun _ _ => trivial) rfl (Pu.pickF rfl rfl) rfl rfl ?_
                 exact hJ173 _ ⟨dOrF hc172, rfl, rfl, rfl, rfl, rfl, trivial⟩
              ·have H := ifF hc165 H
               obtain rfl := hd115 _ H
               refine T.xt (hJ115 _ _ () () HX115 ⟨rfl, rfl, rfl, rfl, trivial⟩ trivial (fun w s => s))
           ·intro hJ113
            refine RS.splitP 94 rfl (fun hc112 => ?_) (fun hc112 => ?_)
            ·refine RS.no rfl rfl ?_
             refine RS.no rfl rfl ?_
             refine RS.no rfl rfl ?_
             refine RS.no rfl rfl ?_
             refine RS.no rfl rfl ?_
             refine RS.no rfl rfl ?_
             refine RS.no rfl rfl ?_
             refine RS.p (Pu.pickT rfl rfl) rfl rfl ?_
             exact hJ113 _ _ ⟨dOrT hc112, rfl, rfl, rfl, rfl, trivial⟩ (fun w s => s)
            ·refine RS.p (Pu.fieldAddr fd26_10 rfl) rfl rfl ?_
             refine RS.q (Qt.ldB 6 ty4 rfl rfl rfl) rfl rfl ?_
             refine RS.p (Pu.move rfl) rfl rfl ?_
             refine RS.joinV 4 101 (.bool (decide ((v38 = true) ∧ ((!v93) = true)))) [(1, _), (3, _), (4, _), (6, _), (93, _), (94, _), (95, _), (96, _)] ⟨rfl, rfl, rfl, rfl, rfl, rfl, rfl, rfl, trivial⟩ ?_ ?_
             ·refine RS.p (Pu.pickF rfl rfl) rfl rfl ?_
              exact hJ113 _ _ ⟨dOrF hc112, rfl, rfl, rfl, rfl, trivial⟩ (fun w s => s)
             ·intro hJ183
              refine RS.split 97 rfl (fun hc182 => ?_) (fun hc182 => ?_)
              ·refine RS.p (Pu.fieldAddr fd26_10 rfl) rfl rfl ?_
               refine RS.q (Qt.ldB 8 ty4 rfl rfl rfl) rfl rfl ?_
               refine RS.p (Pu.not rfl) rfl rfl ?_
               refine RS.p (Pu.pickT rfl rfl) rfl rfl ?_
               exact hJ183 _ _ ⟨dAndTB hc182, rfl, rfl, rfl, rfl, rfl, rfl, rfl, rfl, trivial⟩ (fun w s => s)
              ·refine RS.no rfl rfl ?_
               refine RS.no rfl rfl ?_
               refine RS.no rfl rfl ?_
               refine RS.p (Pu.pickF rfl rfl) rfl rfl ?_
               exact hJ183 _ _ ⟨dAndF (bne_of hc182), rfl, rfl, rfl, rfl, rfl, rfl, rfl, rfl, trivial⟩ (fun w s => s)
          ·intro hJ111
           refine RS.splitP 87 rfl (fun hc110 => ?_) (fun hc110 => ?_)
           ·refine RS.no rfl rfl ?_
            refine RS.no rfl rfl ?_
            refine RS.no rfl rfl ?_
            refine RS.no rfl rfl ?_
            refine RS.no rfl rfl ?_
            refine RS.p (Pu.pickT rfl rfl) rfl rfl ?_
            exact hJ111 _ _ ⟨dOrT hc110, rfl, rfl, rfl, rfl, trivial⟩ (fun w s => s)
           ·refine RS.p (Pu.fieldAddr fd26_4 rfl) rfl rfl ?_
            refine RS.q (Qt.ldB 8 ty3 rfl rfl rfl) rfl rfl ?_
            refine RS.p (Pu.fieldAddr fd26_4 rfl) rfl rfl ?_
            refine RS.q (Qt.ldB 6 ty3 rfl rfl rfl) rfl rfl ?_
            refine RS.p (Pu.bin rfl rfl rfl) rfl rfl ?_
            refine RS.p (Pu.pickF rfl rfl) rfl rfl ?_
            exact hJ111 _ _ ⟨dOrF hc110, rfl, rfl, rfl, rfl, trivial⟩ (fun w s => s)
         ·intro hJ109
          refine RS.split 80 rfl (fun hc108 => ?_) (fun hc108 => ?_)
          ·refine RS.no rfl rfl ?_
           refine RS.no rfl rfl ?_
           refine RS.no rfl rfl ?_
           refine RS.no rfl rfl ?_
           refine RS.no rfl rfl ?_
           refine RS.p (Pu.pickT rfl rfl) rfl rfl ?_
           exact hJ109 _ _ ⟨dOrT hc108, rfl, rfl, rfl, rfl, trivial⟩ (fun w s => s)
          ·refine RS.p (Pu.fieldAddr fd26_3 rfl) rfl rfl ?_
           refine RS.q (Qt.ldB 8 ty3 rfl rfl rfl) rfl rfl ?_
           refine RS.p (Pu.fieldAddr fd26_3 rfl) rfl rfl ?_
           refine RS.q (Qt.ldB 6 ty3 rfl rfl rfl) rfl rfl ?_
           refine RS.p (Pu.bin rfl rfl rfl) rfl rfl ?_
           refine RS.p (Pu.pickF rfl rfl) rfl rfl ?_
           exact hJ109 _ _ ⟨dOrF (bne_of hc108), rfl, rfl, rfl, rfl, trivial⟩ (fun w s => s)
       ·intro z86 H HX86 hJ86
        refine T.block ?_
        refine T.seq fun K42 hK42 => ?_
        refine T.seq fun K43 hK43 => ?_
        refine T.weakS (S' := Sat w [blk b1 [.int .i64 a0_p.p.id, .int .i64 a0_p.p.players, .int .i64 a0_p.p.delay, .int .i64 a0_p.p.turn, .int .i64 a0_p.p.said, .slice p0 a0_p.p.mine.length c0, .slice p1 a0_p.p.inputs.length c1, .slice p2 a0_p.p.has.length c2, .slice p3 a0_p.p.acked.length c3, .slice p4 a0_p.p.hashes.length c4, .bool a0_p.p.split, .slice (some ⟨bl72, ol73, none⟩) a0_p.l.length c5] 29, drow 35 (rowV q40 l39.length) l39, drow 35 (rowV q42 l41.length) l41, row nilH 3 (rowV q44 l43.length) l43, row nilH 3 (rowV q46 l45.length) l45, row nilH 36 (rowV q48 l47.length) l47, blk b13 [.int .i64 v33, .int .i64 v34, .int .i64 v35, .int .i64 v36, .int .i64 v37, rowV q40 l39.length, rowV q42 l41.length, rowV q44 l43.length, rowV q46 l45.length, rowV q48 l47.length, .bool v38] 26, blk b83 [.int .i64 ((gi a0_p.l v32).act), .slice p79 ((gi a0_p.l v32).l).length cc80, .int .i64 (((gi a0_p.l v32).n).frm), .int .i64 (((gi a0_p.l v32).n).dst), .int .i64 ((((gi a0_p.l v32).n).input).turn), .int .i64 ((((gi a0_p.l v32).n).input).player), .slice p81 ((((gi a0_p.l v32).n).input).commands).length cc82, .int .i64 (((gi a0_p.l v32).n).don), .int .u64 ((((gi a0_p.l v32).n).hash).toNat : Int), .int .i64 (((gi a0_p.l v32).n).hav), .bool ((gi a0_p.l v32).fit), .int .u64 (((gi a0_p.l v32).h).toNat : Int)] 40, blk b84 [.int .i64 0, .int .i64 0, .int .i64 0, .int .i64 0, .int .i64 0, .slice none 0 0, .slice none 0 0, .slice none 0 0, .slice none 0 0, .slice none 0 0, .bool false] 26]) (fun w s => s) ?_
        refine T.region ?_
        refine RS.p (Pu.bin rfl rfl rfl) rfl rfl ?_
        refine RS.p (Pu.assign rfl) rfl rfl ?_
        refine RS.nil (hK43 _ _ ?_)
        refine T.joinE (σ := Bool) (γ := Unit) H (fun s => s) [(1, _), (3, _), (4, _), (5, _), (6, _), (41, _)] ⟨rfl, rfl, rfl, rfl, rfl, rfl, trivial⟩ (fun v185 _ => [(49, .bool v185)]) (fun v185 _ => Sat w [blk b1 [.int .i64 a0_p.p.id, .int .i64 a0_p.p.players, .int .i64 a0_p.p.delay, .int .i64 a0_p.p.turn, .int .i64 a0_p.p.said, .slice p0 a0_p.p.mine.length c0, .slice p1 a0_p.p.inputs.length c1, .slice p2 a0_p.p.has.length c2, .slice p3 a0_p.p.acked.length c3, .slice p4 a0_p.p.hashes.length c4, .bool a0_p.p.split, .slice (some ⟨bl72, ol73, none⟩) a0_p.l.length c5] 29, drow 35 (rowV q40 l39.length) l39, drow 35 (rowV q42 l41.length) l41, row nilH 3 (rowV q44 l43.length) l43, row nilH 3 (rowV q46 l45.length) l45, row nilH 36 (rowV q48 l47.length) l47, blk b13 [.int .i64 v33, .int .i64 v34, .int .i64 v35, .int .i64 v36, .int .i64 v37, rowV q40 l39.length, rowV q42 l41.length, rowV q44 l43.length, rowV q46 l45.length, rowV q48 l47.length, .bool v38] 26, blk b83 [.int .i64 ((gi a0_p.l v32).act), .slice p79 ((gi a0_p.l v32).l).length cc80, .int .i64 (((gi a0_p.l v32).n).frm), .int .i64 (((gi a0_p.l v32).n).dst), .int .i64 ((((gi a0_p.l v32).n).input).turn), .int .i64 ((((gi a0_p.l v32).n).input).player), .slice p81 ((((gi a0_p.l v32).n).input).commands).length cc82, .int .i64 (((gi a0_p.l v32).n).don), .int .u64 ((((gi a0_p.l v32).n).hash).toNat : Int), .int .i64 (((gi a0_p.l v32).n).hav), .bool ((gi a0_p.l v32).fit), .int .u64 (((gi a0_p.l v32).h).toNat : Int)] 40, blk b84 [.int .i64 0, .int .i64 0, .int .i64 0, .int .i64 0, .int .i64 0, .slice none 0 0, .slice none 0 0, .slice none 0 0, .slice none 0 0, .slice none 0 0, .bool false] 26]) ?_ ?_
        ·rintro v185 ⟨⟩ H
         try dsimp only [Ex.then] at H
         refine Cont.conseq (fr' := [(49, _), (1, _), (3, _), (4, _), (5, _), (6, _), (41, _)]) ?_ ⟨rfl, rfl, rfl, rfl, rfl, rfl, rfl, trivial⟩ (fun _ s => s)
         refine id (hK42 _ _ ?_)
         refine T.cond rfl (fun hc186 => ?_) (fun hc186 => ?_)
         ·have H := ifT hc186 H
          refine T.weakS (S' := Sat w [blk b1 [.int .i64 a0_p.p.id, .int .i64 a0_p.p.players, .int .i64 a0_p.p.delay, .int .i64 a0_p.p.turn, .int .i64 a0_p.p.said, .slice p0 a0_p.p.mine.length c0, .slice p1 a0_p.p.inputs.length c1, .slice p2 a0_p.p.has.length c2, .slice p3 a0_p.p.acked.length c3, .slice p4 a0_p.p.hashes.length c4, .bool a0_p.p.split, .slice (some ⟨bl72, ol73, none⟩) a0_p.l.length c5] 29, drow 35 (rowV q40 l39.length) l39, drow 35 (rowV q42 l41.length) l41, row nilH 3 (rowV q44 l43.length) l43, row nilH 3 (rowV q46 l45.length) l45, row nilH 36 (rowV q48 l47.length) l47, blk b13 [.int .i64 v33, .int .i64 v34, .int .i64 v35, .int .i64 v36, .int .i64 v37, rowV q40 l39.length, rowV q42 l41.length, rowV q44 l43.length, rowV q46 l45.length, rowV q48 l47.length, .bool v38] 26, blk b83 [.int .i64 ((gi a0_p.l v32).act), .slice p79 ((gi a0_p.l v32).l).length cc80, .int .i64 (((gi a0_p.l v32).n).frm), .int .i64 (((gi a0_p.l v32).n).dst), .int .i64 ((((gi a0_p.l v32).n).input).turn), .int .i64 ((((gi a0_p.l v32).n).input).player), .slice p81 ((((gi a0_p.l v32).n).input).commands).length cc82, .int .i64 (((gi a0_p.l v32).n).don), .int .u64 ((((gi a0_p.l v32).n).hash).toNat : Int), .int .i64 (((gi a0_p.l v32).n).hav), .bool ((gi a0_p.l v32).fit), .int .u64 (((gi a0_p.l v32).h).toNat : Int)] 40, blk b84 [.int .i64 0, .int .i64 0, .int .i64 0, .int .i64 0, .int .i64 0, .slice none 0 0, .slice none 0 0, .slice none 0 0, .slice none 0 0, .slice none 0 0, .bool false] 26]) (fun w s => s) ?_
          refine T.drawn (fun _ => True) [(0, .rd), (1, .rd), (2, .rd), (3, .so), (4, .so), (5, .pu), (6, .pu), (7, .pu), (8, .br), (9, .pu)] mixed (ClE.sat _ _) (by kernel_rfl) ?_
          refine RD.q (fun _ _ => trivial) rfl (Qt.ldBA (us := [_, _, _, _, _, _, _, _, _, _, _]) 6 ty26 rfl rfl rfl rfl) rfl rfl ?_
          refine RD.q (fun _ _ => trivial) rfl (Qt.ldBA (us := [_, _, _, _, _, _, _, _, _, _, _]) 6 ty26 rfl rfl rfl rfl) rfl rfl ?_
          refine RD.q (fun _ _ => trivial) rfl (Qt.ldBA (us := [_, _, _, _, _, _, _, _, _, _, _, _]) 7 ty40 rfl rfl rfl rfl) rfl rfl ?_
          obtain ⟨x187, hx187, H⟩ := bindE H
          refine RD.solid rfl (.inl rfl) rfl rfl (Sd.callN (vs := [.agg #[.int .i64 v33, .int .i64 v34, .int .i64 v35, .int .i64 v36, .int .i64 v37, rowV q40 l39.length, rowV q42 l41.length, rowV q44 l43.length, rowV q46 l45.length, rowV q48 l47.length, .bool v38], .agg #[.int .i64 ((gi a0_p.l v32).act), .slice p79 ((gi a0_p.l v32).l).length cc80, .int .i64 (((gi a0_p.l v32).n).frm), .int .i64 (((gi a0_p.l v32).n).dst), .int .i64 ((((gi a0_p.l v32).n).input).turn), .int .i64 ((((gi a0_p.l v32).n).input).player), .slice p81 ((((gi a0_p.l v32).n).input).commands).length cc82, .int .i64 (((gi a0_p.l v32).n).don), .int .u64 ((((gi a0_p.l v32).n).hash).toNat : Int), .int .i64 (((gi a0_p.l v32).n).hav), .bool ((gi a0_p.l v32).fit), .int .u64 (((gi a0_p.l v32).h).toNat : Int)]]) ent10 rfl (fun w s => thronglaw28_fit_walk (⟨v33, v34, v35, v36, v37, l39, l41, l43, l45, l47, v38⟩ : Per) (gi a0_p.l v32) w ((Rd.ofG 1 rfl) w s) ((Rd.ofG 2 rfl) w s) ((Rd.ofRowN 3 rfl) w s) ((Rd.ofRowN 4 rfl) w s) ((Rd.ofRowN 5 rfl) w s) ((Rd.base hu77) w s) ((Rd.base hu78) w s) hx187)) (fun _ => ClE.sat _ _) (fun _ _ _ => trivial) (fun _ _ _ s => s.drop1) fun q188 => ?_
          obtain ⟨x189, hx189, H⟩ := bindE H
          refine RD.solid rfl (.inl rfl) rfl rfl (Sd.callN (vs := [.agg #[.int .i64 v33, .int .i64 v34, .int .i64 v35, .int .i64 v36, .int .i64 v37, rowV q40 l39.length, rowV q42 l41.length, rowV q44 l43.length, rowV q46 l45.length, rowV q48 l47.length, .bool v38], .agg #[.int .i64 x187.frm, .int .i64 x187.dst, .int .i64 x187.input.turn, .int .i64 x187.input.player, rowV q188 x187.input.commands.length, .int .i64 x187.don, .int .u64 (x187.hash.toNat : Int), .int .i64 x187.hav]]) ent9 rfl (fun w s => peer_Take_walk (⟨v33, v34, v35, v36, v37, l39, l41, l43, l45, l47, v38⟩ : Per) x187 w ((Rd.ofG 1 rfl) w s) ((Rd.ofG 2 rfl) w s) ((Rd.ofRowN 3 rfl) w s) ((Rd.ofRowN 4 rfl) w s) ((Rd.ofRowN 5 rfl) w s) ((Rd.ofG 9 rfl) w s) hx189)) (fun _ => ClE.sat _ _) (fun _ _ _ => trivial) (fun _ _ _ s => s.drop1) fun ⟨q190, q191, q192, q193, q194⟩ => ?_
          refine RD.p (fun _ _ => trivial) rfl (Pu.move rfl) rfl rfl ?_
          refine RD.p (fun _ _ => trivial) rfl (Pu.extract rfl rfl) rfl rfl ?_
          refine RD.p (fun _ _ => trivial) rfl (Pu.extract rfl rfl) rfl rfl ?_
          refine RD.solid rfl (.inr rfl) rfl rfl (Sd.stB (cs' := [_, _, _, _, _, _, _, _, _, _, _]) 8 ty26 rfl rfl rfl rfl rfl rfl rfl rfl) (fun _ => ClE.sat _ _) (fun _ _ _ => trivial) (fun h => nomatch h) fun _ => ?_
          refine RD.p (fun _ _ => trivial) rfl (Pu.assign rfl) rfl rfl ?_
          obtain rfl := Option.some.inj H
          refine RD.nil (hJ86 _ _ (x189.2, x189.1.id, x189.1.players, x189.1.delay, x189.1.turn, x189.1.said, x189.1.split, x189.1.mine, x189.1.inputs, x189.1.has, x189.1.acked, x189.1.hashes) (q190, q191, q192, q193, (q194.1.map fun g => (⟨g, 0, none⟩ : Addr)), q194.2) HX86 ⟨rfl, rfl, rfl, rfl, trivial⟩ ⟨rfl, trivial⟩ (fun w s => (Sat.rowOsl (q := q194) (m := x189.1.hashes.length) 14 s rfl).pick [0, 1, 2, 3, 4, 5, 6, 7, 8, 10, 11, 12, 13, 14] (by decide) rfl))
         ·have H := ifB hc186 H
          refine T.seq fun K44 hK44 => ?_
          refine T.seq fun K45 hK45 => ?_
          refine T.weakS (S' := Sat w [blk b1 [.int .i64 a0_p.p.id, .int .i64 a0_p.p.players, .int .i64 a0_p.p.delay, .int .i64 a0_p.p.turn, .int .i64 a0_p.p.said, .slice p0 a0_p.p.mine.length c0, .slice p1 a0_p.p.inputs.length c1, .slice p2 a0_p.p.has.length c2, .slice p3 a0_p.p.acked.length c3, .slice p4 a0_p.p.hashes.length c4, .bool a0_p.p.split, .slice (some ⟨bl72, ol73, none⟩) a0_p.l.length c5] 29, drow 35 (rowV q40 l39.length) l39, drow 35 (rowV q42 l41.length) l41, row nilH 3 (rowV q44 l43.length) l43, row nilH 3 (rowV q46 l45.length) l45, row nilH 36 (rowV q48 l47.length) l47, blk b13 [.int .i64 v33, .int .i64 v34, .int .i64 v35, .int .i64 v36, .int .i64 v37, rowV q40 l39.length, rowV q42 l41.length, rowV q44 l43.length, rowV q46 l45.length, rowV q48 l47.length, .bool v38] 26, blk b83 [.int .i64 ((gi a0_p.l v32).act), .slice p79 ((gi a0_p.l v32).l).length cc80, .int .i64 (((gi a0_p.l v32).n).frm), .int .i64 (((gi a0_p.l v32).n).dst), .int .i64 ((((gi a0_p.l v32).n).input).turn), .int .i64 ((((gi a0_p.l v32).n).input).player), .slice p81 ((((gi a0_p.l v32).n).input).commands).length cc82, .int .i64 (((gi a0_p.l v32).n).don), .int .u64 ((((gi a0_p.l v32).n).hash).toNat : Int), .int .i64 (((gi a0_p.l v32).n).hav), .bool ((gi a0_p.l v32).fit), .int .u64 (((gi a0_p.l v32).h).toNat : Int)] 40, blk b84 [.int .i64 0, .int .i64 0, .int .i64 0, .int .i64 0, .int .i64 0, .slice none 0 0, .slice none 0 0, .slice none 0 0, .slice none 0 0, .slice none 0 0, .bool false] 26]) (fun w s => s) ?_
          refine T.region ?_
          refine RS.p (Pu.bin rfl rfl rfl) rfl rfl ?_
          refine RS.p (Pu.assign rfl) rfl rfl ?_
          refine RS.nil (hK45 _ _ ?_)
          refine T.joinE (σ := Bool) (γ := Unit) H (fun s => s) [(1, _), (3, _), (4, _), (5, _), (6, _), (41, _)] ⟨rfl, rfl, rfl, rfl, rfl, rfl, trivial⟩ (fun v196 _ => [(61, .bool v196)]) (fun v196 _ => Sat w [blk b1 [.int .i64 a0_p.p.id, .int .i64 a0_p.p.players, .int .i64 a0_p.p.delay, .int .i64 a0_p.p.turn, .int .i64 a0_p.p.said, .slice p0 a0_p.p.mine.length c0, .slice p1 a0_p.p.inputs.length c1, .slice p2 a0_p.p.has.length c2, .slice p3 a0_p.p.acked.length c3, .slice p4 a0_p.p.hashes.length c4, .bool a0_p.p.split, .slice (some ⟨bl72, ol73, none⟩) a0_p.l.length c5] 29, drow 35 (rowV q40 l39.length) l39, drow 35 (rowV q42 l41.length) l41, row nilH 3 (rowV q44 l43.length) l43, row nilH 3 (rowV q46 l45.length) l45, row nilH 36 (rowV q48 l47.length) l47, blk b13 [.int .i64 v33, .int .i64 v34, .int .i64 v35, .int .i64 v36, .int .i64 v37, rowV q40 l39.length, rowV q42 l41.length, rowV q44 l43.length, rowV q46 l45.length, rowV q48 l47.length, .bool v38] 26, blk b83 [.int .i64 ((gi a0_p.l v32).act), .slice p79 ((gi a0_p.l v32).l).length cc80, .int .i64 (((gi a0_p.l v32).n).frm), .int .i64 (((gi a0_p.l v32).n).dst), .int .i64 ((((gi a0_p.l v32).n).input).turn), .int .i64 ((((gi a0_p.l v32).n).input).player), .slice p81 ((((gi a0_p.l v32).n).input).commands).length cc82, .int .i64 (((gi a0_p.l v32).n).don), .int .u64 ((((gi a0_p.l v32).n).hash).toNat : Int), .int .i64 (((gi a0_p.l v32).n).hav), .bool ((gi a0_p.l v32).fit), .int .u64 (((gi a0_p.l v32).h).toNat : Int)] 40, blk b84 [.int .i64 0, .int .i64 0, .int .i64 0, .int .i64 0, .int .i64 0, .slice none 0 0, .slice none 0 0, .slice none 0 0, .slice none 0 0, .slice none 0 0, .bool false] 26]) ?_ ?_
          ·rintro v196 ⟨⟩ H
           try dsimp only [Ex.then] at H
           refine Cont.conseq (fr' := [(61, _), (1, _), (3, _), (4, _), (5, _), (6, _), (41, _)]) ?_ ⟨rfl, rfl, rfl, rfl, rfl, rfl, rfl, trivial⟩ (fun _ s => s)
           refine id (hK44 _ _ ?_)
           refine T.cond rfl (fun hc197 => ?_) (fun hc197 => ?_)
           ·have H := ifT hc197 H
            obtain rfl := Option.some.inj H
            have H := HX86
            obtain rfl := Option.some.inj H
            refine T.xt (hJ53 _ _ (v33, v34, v35, v36, v37, v38, l39, l41, l43, l45, l47) (q40, q42, q44, q46, q48) HX53 ⟨rfl, rfl, rfl, trivial⟩ trivial (fun w s => (((((s.deadRow).deadRow).deadRow).deadRow).deadRow).pick [0, 9, 10, 11, 12, 13, 6, 1, 2, 3, 4, 5] (by decide) rfl))
           ·have H := ifB hc197 H
            refine T.seq fun K46 hK46 => ?_
            refine T.seq fun K47 hK47 => ?_
            refine T.weakS (S' := Sat w [blk b1 [.int .i64 a0_p.p.id, .int .i64 a0_p.p.players, .int .i64 a0_p.p.delay, .int .i64 a0_p.p.turn, .int .i64 a0_p.p.said, .slice p0 a0_p.p.mine.length c0, .slice p1 a0_p.p.inputs.length c1, .slice p2 a0_p.p.has.length c2, .slice p3 a0_p.p.acked.length c3, .slice p4 a0_p.p.hashes.length c4, .bool a0_p.p.split, .slice (some ⟨bl72, ol73, none⟩) a0_p.l.length c5] 29, drow 35 (rowV q40 l39.length) l39, drow 35 (rowV q42 l41.length) l41, row nilH 3 (rowV q44 l43.length) l43, row nilH 3 (rowV q46 l45.length) l45, row nilH 36 (rowV q48 l47.length) l47, blk b13 [.int .i64 v33, .int .i64 v34, .int .i64 v35, .int .i64 v36, .int .i64 v37, rowV q40 l39.length, rowV q42 l41.length, rowV q44 l43.length, rowV q46 l45.length, rowV q48 l47.length, .bool v38] 26, blk b83 [.int .i64 ((gi a0_p.l v32).act), .slice p79 ((gi a0_p.l v32).l).length cc80, .int .i64 (((gi a0_p.l v32).n).frm), .int .i64 (((gi a0_p.l v32).n).dst), .int .i64 ((((gi a0_p.l v32).n).input).turn), .int .i64 ((((gi a0_p.l v32).n).input).player), .slice p81 ((((gi a0_p.l v32).n).input).commands).length cc82, .int .i64 (((gi a0_p.l v32).n).don), .int .u64 ((((gi a0_p.l v32).n).hash).toNat : Int), .int .i64 (((gi a0_p.l v32).n).hav), .bool ((gi a0_p.l v32).fit), .int .u64 (((gi a0_p.l v32).h).toNat : Int)] 40, blk b84 [.int .i64 0, .int .i64 0, .int .i64 0, .int .i64 0, .int .i64 0, .slice none 0 0, .slice none 0 0, .slice none 0 0, .slice none 0 0, .slice none 0 0, .bool false] 26]) (fun w s => s) ?_
            refine T.region ?_
            refine RS.p (Pu.bin rfl rfl rfl) rfl rfl ?_
            refine RS.p (Pu.assign rfl) rfl rfl ?_
            refine RS.nil (hK47 _ _ ?_)
            refine T.joinE (σ := Bool) (γ := Unit) H (fun s => s) [(1, _), (3, _), (4, _), (5, _), (6, _)] ⟨rfl, rfl, rfl, rfl, rfl, trivial⟩ (fun v199 _ => [(64, .bool v199)]) (fun v199 _ => Sat w [blk b1 [.int .i64 a0_p.p.id, .int .i64 a0_p.p.players, .int .i64 a0_p.p.delay, .int .i64 a0_p.p.turn, .int .i64 a0_p.p.said, .slice p0 a0_p.p.mine.length c0, .slice p1 a0_p.p.inputs.length c1, .slice p2 a0_p.p.has.length c2, .slice p3 a0_p.p.acked.length c3, .slice p4 a0_p.p.hashes.length c4, .bool a0_p.p.split, .slice (some ⟨bl72, ol73, none⟩) a0_p.l.length c5] 29, drow 35 (rowV q40 l39.length) l39, drow 35 (rowV q42 l41.length) l41, row nilH 3 (rowV q44 l43.length) l43, row nilH 3 (rowV q46 l45.length) l45, row nilH 36 (rowV q48 l47.length) l47, blk b13 [.int .i64 v33, .int .i64 v34, .int .i64 v35, .int .i64 v36, .int .i64 v37, rowV q40 l39.length, rowV q42 l41.length, rowV q44 l43.length, rowV q46 l45.length, rowV q48 l47.length, .bool v38] 26, blk b83 [.int .i64 ((gi a0_p.l v32).act), .slice p79 ((gi a0_p.l v32).l).length cc80, .int .i64 (((gi a0_p.l v32).n).frm), .int .i64 (((gi a0_p.l v32).n).dst), .int .i64 ((((gi a0_p.l v32).n).input).turn), .int .i64 ((((gi a0_p.l v32).n).input).player), .slice p81 ((((gi a0_p.l v32).n).input).commands).length cc82, .int .i64 (((gi a0_p.l v32).n).don), .int .u64 ((((gi a0_p.l v32).n).hash).toNat : Int), .int .i64 (((gi a0_p.l v32).n).hav), .bool ((gi a0_p.l v32).fit), .int .u64 (((gi a0_p.l v32).h).toNat : Int)] 40, blk b84 [.int .i64 0, .int .i64 0, .int .i64 0, .int .i64 0, .int .i64 0, .slice none 0 0, .slice none 0 0, .slice none 0 0, .slice none 0 0, .slice none 0 0, .bool false] 26]) ?_ ?_
            ·rintro v199 ⟨⟩ H
             try dsimp only [Ex.then] at H
             refine Cont.conseq (fr' := [(64, _), (1, _), (3, _), (4, _), (5, _), (6, _)]) ?_ ⟨rfl, rfl, rfl, rfl, rfl, rfl, trivial⟩ (fun _ s => s)
             refine id (hK46 _ _ ?_)
             refine T.cond rfl (fun hc200 => ?_) (fun hc200 => ?_)
             ·have H := ifT hc200 H
              refine T.weakS (S' := Sat w [blk b1 [.int .i64 a0_p.p.id, .int .i64 a0_p.p.players, .int .i64 a0_p.p.delay, .int .i64 a0_p.p.turn, .int .i64 a0_p.p.said, .slice p0 a0_p.p.mine.length c0, .slice p1 a0_p.p.inputs.length c1, .slice p2 a0_p.p.has.length c2, .slice p3 a0_p.p.acked.length c3, .slice p4 a0_p.p.hashes.length c4, .bool a0_p.p.split, .slice (some ⟨bl72, ol73, none⟩) a0_p.l.length c5] 29, drow 35 (rowV q40 l39.length) l39, drow 35 (rowV q42 l41.length) l41, row nilH 3 (rowV q44 l43.length) l43, row nilH 3 (rowV q46 l45.length) l45, row nilH 36 (rowV q48 l47.length) l47, blk b13 [.int .i64 v33, .int .i64 v34, .int .i64 v35, .int .i64 v36, .int .i64 v37, rowV q40 l39.length, rowV q42 l41.length, rowV q44 l43.length, rowV q46 l45.length, rowV q48 l47.length, .bool v38] 26, blk b83 [.int .i64 ((gi a0_p.l v32).act), .slice p79 ((gi a0_p.l v32).l).length cc80, .int .i64 (((gi a0_p.l v32).n).frm), .int .i64 (((gi a0_p.l v32).n).dst), .int .i64 ((((gi a0_p.l v32).n).input).turn), .int .i64 ((((gi a0_p.l v32).n).input).player), .slice p81 ((((gi a0_p.l v32).n).input).commands).length cc82, .int .i64 (((gi a0_p.l v32).n).don), .int .u64 ((((gi a0_p.l v32).n).hash).toNat : Int), .int .i64 (((gi a0_p.l v32).n).hav), .bool ((gi a0_p.l v32).fit), .int .u64 (((gi a0_p.l v32).h).toNat : Int)] 40, blk b84 [.int .i64 0, .int .i64 0, .int .i64 0, .int .i64 0, .int .i64 0, .slice none 0 0, .slice none 0 0, .slice none 0 0, .slice none 0 0, .slice none 0 0, .bool false] 26]) (fun w s => s) ?_
              refine T.region ?_
              refine RS.q (Qt.ldBA (us := [_, _, _, _, _, _, _, _, _, _, _]) 6 ty26 rfl rfl rfl rfl) rfl rfl ?_
              refine RS.p (Pu.fieldAddr fd40_4 rfl) rfl rfl ?_
              refine RS.q (Qt.ldB 7 ty36 rfl rfl rfl) rfl rfl ?_
              obtain ⟨x201, hx201, H⟩ := bindE H
              refine RS.solid (Sd.callN (vs := [.agg #[.int .i64 v33, .int .i64 v34, .int .i64 v35, .int .i64 v36, .int .i64 v37, rowV q40 l39.length, rowV q42 l41.length, rowV q44 l43.length, rowV q46 l45.length, rowV q48 l47.length, .bool v38], .int .u64 (((gi a0_p.l v32).h).toNat : Int)]) ent11 rfl (fun w s => peer_Ran_walk (⟨v33, v34, v35, v36, v37, l39, l41, l43, l45, l47, v38⟩ : Per) ((gi a0_p.l v32).h) w ((Rd.ofG 1 rfl) w s) ((Rd.ofG 2 rfl) w s) ((Rd.ofRowN 3 rfl) w s) ((Rd.ofRowN 4 rfl) w s) ((Rd.ofRowN 5 rfl) w s) hx201)) rfl rfl fun ⟨q202, q203, q204, q205, u206⟩ => ?_
              refine RS.know (p := ∃ p c, u206 = .slice p x201.1.hashes.length c) (fun w s => s.osl_form (k := 13) rfl) ?_
              rintro ⟨p207, cc208, rfl⟩
              refine RS.p (Pu.move rfl) rfl rfl ?_
              refine RS.p (Pu.extract rfl rfl) rfl rfl ?_
              refine RS.p (Pu.extract rfl rfl) rfl rfl ?_
              refine RS.solid (Sd.stB (cs' := [_, _, _, _, _, _, _, _, _, _, _]) 8 ty26 rfl rfl rfl rfl rfl rfl rfl rfl) rfl rfl fun _ => ?_
              refine RS.p (Pu.assign rfl) rfl rfl ?_
              obtain rfl := Option.some.inj H
              refine RS.nil (hJ86 _ _ (x201.2, x201.1.id, x201.1.players, x201.1.delay, x201.1.turn, x201.1.said, x201.1.split, x201.1.mine, x201.1.inputs, x201.1.has, x201.1.acked, x201.1.hashes) (q202, q203, q204, q205, p207, cc208) HX86 ⟨rfl, rfl, rfl, rfl, trivial⟩ ⟨rfl, trivial⟩ (fun w s => s))
             ·have H := ifB hc200 H
              refine T.weakS (S' := Sat w [blk b1 [.int .i64 a0_p.p.id, .int .i64 a0_p.p.players, .int .i64 a0_p.p.delay, .int .i64 a0_p.p.turn, .int .i64 a0_p.p.said, .slice p0 a0_p.p.mine.length c0, .slice p1 a0_p.p.inputs.length c1, .slice p2 a0_p.p.has.length c2, .slice p3 a0_p.p.acked.length c3, .slice p4 a0_p.p.hashes.length c4, .bool a0_p.p.split, .slice (some ⟨bl72, ol73, none⟩) a0_p.l.length c5] 29, drow 35 (rowV q40 l39.length) l39, drow 35 (rowV q42 l41.length) l41, row nilH 3 (rowV q44 l43.length) l43, row nilH 3 (rowV q46 l45.length) l45, row nilH 36 (rowV q48 l47.length) l47, blk b13 [.int .i64 v33, .int .i64 v34, .int .i64 v35, .int .i64 v36, .int .i64 v37, rowV q40 l39.length, rowV q42 l41.length, rowV q44 l43.length, rowV q46 l45.length, rowV q48 l47.length, .bool v38] 26, blk b83 [.int .i64 ((gi a0_p.l v32).act), .slice p79 ((gi a0_p.l v32).l).length cc80, .int .i64 (((gi a0_p.l v32).n).frm), .int .i64 (((gi a0_p.l v32).n).dst), .int .i64 ((((gi a0_p.l v32).n).input).turn), .int .i64 ((((gi a0_p.l v32).n).input).player), .slice p81 ((((gi a0_p.l v32).n).input).commands).length cc82, .int .i64 (((gi a0_p.l v32).n).don), .int .u64 ((((gi a0_p.l v32).n).hash).toNat : Int), .int .i64 (((gi a0_p.l v32).n).hav), .bool ((gi a0_p.l v32).fit), .int .u64 (((gi a0_p.l v32).h).toNat : Int)] 40, blk b84 [.int .i64 0, .int .i64 0, .int .i64 0, .int .i64 0, .int .i64 0, .slice none 0 0, .slice none 0 0, .slice none 0 0, .slice none 0 0, .slice none 0 0, .bool false] 26]) (fun w s => s) ?_
              refine T.region ?_
              refine RS.q (Qt.ldBA (us := [_, _, _, _, _, _, _, _, _, _, _]) 6 ty26 rfl rfl rfl rfl) rfl rfl ?_
              refine RS.p (Pu.fieldAddr fd40_1 rfl) rfl rfl ?_
              refine RS.q (Qt.ldB 7 ty33 rfl rfl rfl) rfl rfl ?_
              obtain ⟨x209, hx209, H⟩ := bindE H
              refine RS.solid (Sd.callN (vs := [.agg #[.int .i64 v33, .int .i64 v34, .int .i64 v35, .int .i64 v36, .int .i64 v37, rowV q40 l39.length, rowV q42 l41.length, rowV q44 l43.length, rowV q46 l45.length, rowV q48 l47.length, .bool v38], .slice p79 ((gi a0_p.l v32).l).length cc80]) ent12 rfl (fun w s => peer_Say_walk (⟨v33, v34, v35, v36, v37, l39, l41, l43, l45, l47, v38⟩ : Per) ((gi a0_p.l v32).l) w ((Rd.ofG 1 rfl) w s) ((Rd.ofG 2 rfl) w s) ((Rd.ofRowN 3 rfl) w s) ((Rd.ofRowN 4 rfl) w s) ((Rd.ofRowN 5 rfl) w s) ((Rd.base hu77) w s) hx209)) rfl rfl fun ⟨q210, q211, q212, q213, q214⟩ => ?_
              refine RS.p (Pu.move rfl) rfl rfl ?_
              refine RS.p (Pu.extract rfl rfl) rfl rfl ?_
              refine RS.p (Pu.extract rfl rfl) rfl rfl ?_
              refine RS.solid (Sd.stB (cs' := [_, _, _, _, _, _, _, _, _, _, _]) 8 ty26 rfl rfl rfl rfl rfl rfl rfl rfl) rfl rfl fun _ => ?_
              refine RS.p (Pu.assign rfl) rfl rfl ?_
              obtain rfl := Option.some.inj H
              refine RS.nil (hJ86 _ _ (x209.2, x209.1.id, x209.1.players, x209.1.delay, x209.1.turn, x209.1.said, x209.1.split, x209.1.mine, x209.1.inputs, x209.1.has, x209.1.acked, x209.1.hashes) (q210, q211, q212, q213, (q214.1.map fun g => (⟨g, 0, none⟩ : Addr)), q214.2) HX86 ⟨rfl, rfl, rfl, rfl, trivial⟩ ⟨rfl, trivial⟩ (fun w s => (Sat.rowOsl (q := q214) (m := x209.1.hashes.length) 13 s rfl).pick [0, 1, 2, 3, 4, 5, 6, 7, 8, 9, 10, 11, 12, 13] (by decide) rfl))
            ·intro z198 H HX198 hJ198
             refine T.condP rfl (fun hc215 => ?_) (fun hc215 => ?_)
             ·have H := ifT hc215 H
              obtain rfl := Option.some.inj H
              refine T.skip (hJ198 _ _ (decide (x85 = 7)) () HX198 ⟨rfl, rfl, rfl, rfl, rfl, trivial⟩ ⟨rfl, trivial⟩ (fun w s => s))
             ·have H := ifF hc215 H
              refine T.conseq (fr' := [(1, _), (3, _), (4, _), (5, _), (6, _), (41, _)]) ?_ ⟨rfl, rfl, rfl, rfl, rfl, rfl, trivial⟩ (fun _ s => s)
              refine T.weakS (S' := Sat w [blk b1 [.int .i64 a0_p.p.id, .int .i64 a0_p.p.players, .int .i64 a0_p.p.delay, .int .i64 a0_p.p.turn, .int .i64 a0_p.p.said, .slice p0 a0_p.p.mine.length c0, .slice p1 a0_p.p.inputs.length c1, .slice p2 a0_p.p.has.length c2, .slice p3 a0_p.p.acked.length c3, .slice p4 a0_p.p.hashes.length c4, .bool a0_p.p.split, .slice (some ⟨bl72, ol73, none⟩) a0_p.l.length c5] 29, drow 35 (rowV q40 l39.length) l39, drow 35 (rowV q42 l41.length) l41, row nilH 3 (rowV q44 l43.length) l43, row nilH 3 (rowV q46 l45.length) l45, row nilH 36 (rowV q48 l47.length) l47, blk b13 [.int .i64 v33, .int .i64 v34, .int .i64 v35, .int .i64 v36, .int .i64 v37, rowV q40 l39.length, rowV q42 l41.length, rowV q44 l43.length, rowV q46 l45.length, rowV q48 l47.length, .bool v38] 26, blk b83 [.int .i64 ((gi a0_p.l v32).act), .slice p79 ((gi a0_p.l v32).l).length cc80, .int .i64 (((gi a0_p.l v32).n).frm), .int .i64 (((gi a0_p.l v32).n).dst), .int .i64 ((((gi a0_p.l v32).n).input).turn), .int .i64 ((((gi a0_p.l v32).n).input).player), .slice p81 ((((gi a0_p.l v32).n).input).commands).length cc82, .int .i64 (((gi a0_p.l v32).n).don), .int .u64 ((((gi a0_p.l v32).n).hash).toNat : Int), .int .i64 (((gi a0_p.l v32).n).hav), .bool ((gi a0_p.l v32).fit), .int .u64 (((gi a0_p.l v32).h).toNat : Int)] 40, blk b84 [.int .i64 0, .int .i64 0, .int .i64 0, .int .i64 0, .int .i64 0, .slice none 0 0, .slice none 0 0, .slice none 0 0, .slice none 0 0, .slice none 0 0, .bool false] 26]) (fun w s => s) ?_
              refine T.region ?_
              refine RS.p (Pu.bin rfl rfl rfl) rfl rfl ?_
              refine RS.p (Pu.assign rfl) rfl rfl ?_
              obtain rfl := Option.some.inj H
              refine RS.nil (hJ198 _ _ (decide (x85 = 8)) () HX198 ⟨rfl, rfl, rfl, rfl, rfl, trivial⟩ ⟨rfl, trivial⟩ (fun w s => s))
          ·intro z195 H HX195 hJ195
           refine T.condP rfl (fun hc216 => ?_) (fun hc216 => ?_)
           ·have H := ifT hc216 H
            obtain rfl := Option.some.inj H
            refine T.skip (hJ195 _ _ (decide (x85 = 5)) () HX195 ⟨rfl, rfl, rfl, rfl, rfl, rfl, trivial⟩ ⟨rfl, trivial⟩ (fun w s => s))
           ·have H := ifF hc216 H
            refine T.conseq (fr' := [(1, _), (3, _), (4, _), (5, _), (6, _), (41, _)]) ?_ ⟨rfl, rfl, rfl, rfl, rfl, rfl, trivial⟩ (fun _ s => s)
            refine T.weakS (S' := Sat w [blk b1 [.int .i64 a0_p.p.id, .int .i64 a0_p.p.players, .int .i64 a0_p.p.delay, .int .i64 a0_p.p.turn, .int .i64 a0_p.p.said, .slice p0 a0_p.p.mine.length c0, .slice p1 a0_p.p.inputs.length c1, .slice p2 a0_p.p.has.length c2, .slice p3 a0_p.p.acked.length c3, .slice p4 a0_p.p.hashes.length c4, .bool a0_p.p.split, .slice (some ⟨bl72, ol73, none⟩) a0_p.l.length c5] 29, drow 35 (rowV q40 l39.length) l39, drow 35 (rowV q42 l41.length) l41, row nilH 3 (rowV q44 l43.length) l43, row nilH 3 (rowV q46 l45.length) l45, row nilH 36 (rowV q48 l47.length) l47, blk b13 [.int .i64 v33, .int .i64 v34, .int .i64 v35, .int .i64 v36, .int .i64 v37, rowV q40 l39.length, rowV q42 l41.length, rowV q44 l43.length, rowV q46 l45.length, rowV q48 l47.length, .bool v38] 26, blk b83 [.int .i64 ((gi a0_p.l v32).act), .slice p79 ((gi a0_p.l v32).l).length cc80, .int .i64 (((gi a0_p.l v32).n).frm), .int .i64 (((gi a0_p.l v32).n).dst), .int .i64 ((((gi a0_p.l v32).n).input).turn), .int .i64 ((((gi a0_p.l v32).n).input).player), .slice p81 ((((gi a0_p.l v32).n).input).commands).length cc82, .int .i64 (((gi a0_p.l v32).n).don), .int .u64 ((((gi a0_p.l v32).n).hash).toNat : Int), .int .i64 (((gi a0_p.l v32).n).hav), .bool ((gi a0_p.l v32).fit), .int .u64 (((gi a0_p.l v32).h).toNat : Int)] 40, blk b84 [.int .i64 0, .int .i64 0, .int .i64 0, .int .i64 0, .int .i64 0, .slice none 0 0, .slice none 0 0, .slice none 0 0, .slice none 0 0, .slice none 0 0, .bool false] 26]) (fun w s => s) ?_
            refine T.region ?_
            refine RS.p (Pu.bin rfl rfl rfl) rfl rfl ?_
            refine RS.p (Pu.assign rfl) rfl rfl ?_
            obtain rfl := Option.some.inj H
            refine RS.nil (hJ195 _ _ (decide (x85 = 6)) () HX195 ⟨rfl, rfl, rfl, rfl, rfl, rfl, trivial⟩ ⟨rfl, trivial⟩ (fun w s => s))
        ·intro z184 H HX184 hJ184
         refine T.condP rfl (fun hc217 => ?_) (fun hc217 => ?_)
         ·have H := ifT hc217 H
          obtain rfl := Option.some.inj H
          refine T.skip (hJ184 _ _ (decide (x85 = 2)) () HX184 ⟨rfl, rfl, rfl, rfl, rfl, rfl, trivial⟩ ⟨rfl, trivial⟩ (fun w s => s))
         ·have H := ifF hc217 H
          refine T.seq fun K48 hK48 => ?_
          refine T.weakS (S' := Sat w [blk b1 [.int .i64 a0_p.p.id, .int .i64 a0_p.p.players, .int .i64 a0_p.p.delay, .int .i64 a0_p.p.turn, .int .i64 a0_p.p.said, .slice p0 a0_p.p.mine.length c0, .slice p1 a0_p.p.inputs.length c1, .slice p2 a0_p.p.has.length c2, .slice p3 a0_p.p.acked.length c3, .slice p4 a0_p.p.hashes.length c4, .bool a0_p.p.split, .slice (some ⟨bl72, ol73, none⟩) a0_p.l.length c5] 29, drow 35 (rowV q40 l39.length) l39, drow 35 (rowV q42 l41.length) l41, row nilH 3 (rowV q44 l43.length) l43, row nilH 3 (rowV q46 l45.length) l45, row nilH 36 (rowV q48 l47.length) l47, blk b13 [.int .i64 v33, .int .i64 v34, .int .i64 v35, .int .i64 v36, .int .i64 v37, rowV q40 l39.length, rowV q42 l41.length, rowV q44 l43.length, rowV q46 l45.length, rowV q48 l47.length, .bool v38] 26, blk b83 [.int .i64 ((gi a0_p.l v32).act), .slice p79 ((gi a0_p.l v32).l).length cc80, .int .i64 (((gi a0_p.l v32).n).frm), .int .i64 (((gi a0_p.l v32).n).dst), .int .i64 ((((gi a0_p.l v32).n).input).turn), .int .i64 ((((gi a0_p.l v32).n).input).player), .slice p81 ((((gi a0_p.l v32).n).input).commands).length cc82, .int .i64 (((gi a0_p.l v32).n).don), .int .u64 ((((gi a0_p.l v32).n).hash).toNat : Int), .int .i64 (((gi a0_p.l v32).n).hav), .bool ((gi a0_p.l v32).fit), .int .u64 (((gi a0_p.l v32).h).toNat : Int)] 40, blk b84 [.int .i64 0, .int .i64 0, .int .i64 0, .int .i64 0, .int .i64 0, .slice none 0 0, .slice none 0 0, .slice none 0 0, .slice none 0 0, .slice none 0 0, .bool false] 26]) (fun w s => s) ?_
          refine T.region ?_
          refine RS.p (Pu.bin rfl rfl rfl) rfl rfl ?_
          refine RS.p (Pu.assign rfl) rfl rfl ?_
          refine RS.nil (hK48 _ _ ?_)
          refine T.condP rfl (fun hc218 => ?_) (fun hc218 => ?_)
          ·have H := ifT hc218 H
           obtain rfl := Option.some.inj H
           refine T.skip (hJ184 _ _ (decide (x85 = 3)) () HX184 ⟨rfl, rfl, rfl, rfl, rfl, rfl, trivial⟩ ⟨rfl, trivial⟩ (fun w s => s))
          ·have H := ifF hc218 H
           refine T.conseq (fr' := [(1, _), (3, _), (4, _), (5, _), (6, _), (41, _)]) ?_ ⟨rfl, rfl, rfl, rfl, rfl, rfl, trivial⟩ (fun _ s => s)
           refine T.weakS (S' := Sat w [blk b1 [.int .i64 a0_p.p.id, .int .i64 a0_p.p.players, .int .i64 a0_p.p.delay, .int .i64 a0_p.p.turn, .int .i64 a0_p.p.said, .slice p0 a0_p.p.mine.length c0, .slice p1 a0_p.p.inputs.length c1, .slice p2 a0_p.p.has.length c2, .slice p3 a0_p.p.acked.length c3, .slice p4 a0_p.p.hashes.length c4, .bool a0_p.p.split, .slice (some ⟨bl72, ol73, none⟩) a0_p.l.length c5] 29, drow 35 (rowV q40 l39.length) l39, drow 35 (rowV q42 l41.length) l41, row nilH 3 (rowV q44 l43.length) l43, row nilH 3 (rowV q46 l45.length) l45, row nilH 36 (rowV q48 l47.length) l47, blk b13 [.int .i64 v33, .int .i64 v34, .int .i64 v35, .int .i64 v36, .int .i64 v37, rowV q40 l39.length, rowV q42 l41.length, rowV q44 l43.length, rowV q46 l45.length, rowV q48 l47.length, .bool v38] 26, blk b83 [.int .i64 ((gi a0_p.l v32).act), .slice p79 ((gi a0_p.l v32).l).length cc80, .int .i64 (((gi a0_p.l v32).n).frm), .int .i64 (((gi a0_p.l v32).n).dst), .int .i64 ((((gi a0_p.l v32).n).input).turn), .int .i64 ((((gi a0_p.l v32).n).input).player), .slice p81 ((((gi a0_p.l v32).n).input).commands).length cc82, .int .i64 (((gi a0_p.l v32).n).don), .int .u64 ((((gi a0_p.l v32).n).hash).toNat : Int), .int .i64 (((gi a0_p.l v32).n).hav), .bool ((gi a0_p.l v32).fit), .int .u64 (((gi a0_p.l v32).h).toNat : Int)] 40, blk b84 [.int .i64 0, .int .i64 0, .int .i64 0, .int .i64 0, .int .i64 0, .slice none 0 0, .slice none 0 0, .slice none 0 0, .slice none 0 0, .slice none 0 0, .bool false] 26]) (fun w s => s) ?_
           refine T.region ?_
           refine RS.p (Pu.bin rfl rfl rfl) rfl rfl ?_
           refine RS.p (Pu.assign rfl) rfl rfl ?_
           obtain rfl := Option.some.inj H
           refine RS.nil (hJ184 _ _ (decide (x85 = 4)) () HX184 ⟨rfl, rfl, rfl, rfl, rfl, rfl, trivial⟩ ⟨rfl, trivial⟩ (fun w s => s))
     ·have H := ifF hc52 H
      obtain rfl := hd14 _ H
      refine T.xt (hJ14 _ _ (v33, v34, v35, v36, v37, v38, l39, l41, l43, l45, l47) (q40, q42, q44, q46, q48) HX14 trivial trivial (fun w s => s))
    ·intro hJ51
     refine RS.splitP 28 rfl (fun hc50 => ?_) (fun hc50 => ?_)
     ·refine RS.p (Pu.move rfl) rfl rfl ?_
      refine RS.p (Pu.bin rfl rfl rfl) rfl rfl ?_
      refine RS.p (Pu.pickT rfl rfl) rfl rfl ?_
      exact hJ51 _ _ ⟨dAndT hc50, rfl, rfl, rfl, trivial⟩ (fun w s => s)
     ·refine RS.no rfl rfl ?_
      refine RS.no rfl rfl ?_
      refine RS.p (Pu.pickF rfl rfl) rfl rfl ?_
      exact hJ51 _ _ ⟨dAndF hc50, rfl, rfl, rfl, trivial⟩ (fun w s => s)
 ·intro z219 H hJ4
  refine RS.split 14 rfl (fun hc3 => ?_) (fun hc3 => ?_)
  ·have H := ifT hc3 H
   refine RS.no rfl rfl ?_
   refine RS.no rfl rfl ?_
   refine RS.no rfl rfl ?_
   refine RS.no rfl rfl ?_
   refine RS.p (Pu.pickT rfl rfl) rfl rfl ?_
   obtain rfl := Option.some.inj H
   exact hJ4 _ _ ⟨rfl, rfl, trivial⟩ (fun w s => s)
  ·have H := ifB hc3 H
   refine RS.p (Pu.fieldAddr fd29_0 rfl) rfl rfl ?_
   refine RS.q (Qt.ldBA (us := [_, _, _, _, _, _, _, _, _, _, _]) 0 ty26 rfl rfl rfl rfl) rfl rfl ?_
   obtain ⟨x220, hx220, H⟩ := bindE H
   refine RS.q (Qt.call (vs := [.agg #[.int .i64 a0_p.p.id, .int .i64 a0_p.p.players, .int .i64 a0_p.p.delay, .int .i64 a0_p.p.turn, .int .i64 a0_p.p.said, .slice p0 a0_p.p.mine.length c0, .slice p1 a0_p.p.inputs.length c1, .slice p2 a0_p.p.has.length c2, .slice p3 a0_p.p.acked.length c3, .slice p4 a0_p.p.hashes.length c4, .bool a0_p.p.split]]) ent6 rfl fun w s => throngref27_Peer_walk a0_p.p w ((Rd.base h0) w s) ((Rd.base h1) w s) ((Rd.base h2) w s) ((Rd.base h3) w s) ((Rd.base h4) w s) hx220) rfl rfl ?_
   refine RS.p (Pu.not rfl) rfl rfl ?_
   refine RS.p (Pu.pickF rfl rfl) rfl rfl ?_
   obtain rfl := Option.some.inj H
   exact hJ4 _ _ ⟨rfl, rfl, trivial⟩ (fun w s => s)
end Go.Proofs.Ytnadebijiaelkaa
