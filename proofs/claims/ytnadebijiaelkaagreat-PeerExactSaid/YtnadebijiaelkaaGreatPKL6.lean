/-
  Walk of PeerExact.
-/
import Derived.Test.YtnadebijiaelkaaGreatRows
import Derived.Test.YtnadebijiaelkaaGreatW3
import Derived.Test.YtnadebijiaelkaaGreatPE
import Derived.Test.YtnadebijiaelkaaGreatPGL6
set_option linter.unusedVariables false
set_option linter.unusedSimpArgs false
set_option maxRecDepth 20000
set_option maxHeartbeats 4000000
namespace Go.Proofs.YtnadebijiaelkaaGreat
open Go.Vg
open Enc (R)
theorem ent14 : Ent Tryz.prog 14 := ⟨_, _, Tryz.func14, by kernel_rfl, rfl⟩
theorem thronglaw28_PeerExact_walk (a0_p : Scr28) (w : World) {v0 v1 v2 v3 v4 v5 : Value} (h0 : R (hpOf w) a0_p.p.mine [v0]) (h1 : R (hpOf w) a0_p.p.inputs [v1]) (h2 : R (hpOf w) a0_p.p.has [v2]) (h3 : R (hpOf w) a0_p.p.acked [v3]) (h4 : R (hpOf w) a0_p.p.hashes [v4]) (h5 : R (hpOf w) a0_p.l [v5]) {r : Bool} (H : thronglaw28_PeerExact a0_p = some r) : Calls Tryz.prog 8 #[.agg #[.int .i64 a0_p.p.id, .int .i64 a0_p.p.players, .int .i64 a0_p.p.delay, .int .i64 a0_p.p.turn, .int .i64 a0_p.p.said, v0, v1, v2, v3, v4, .bool a0_p.p.split, v5]] w fun e w' => e = .returned (.bool r) ∧ Ext w w' := by
 have hm0 := R_max h0
 obtain ⟨p0, c0, rfl⟩ := R_form h0
 have hm1 := R_max h1
 obtain ⟨p1, c1, rfl⟩ := R_form h1
 have hm2 := R_max h2
 obtain ⟨p2, c2, rfl⟩ := R_form h2
 have hm3 := R_max h3
 obtain ⟨p3, c3, rfl⟩ := R_form h3
 have hm4 := R_max h4
 obtain ⟨p4, c4, rfl⟩ := R_form h4
 have hm5 := R_max h5
 obtain ⟨p5, c5, rfl⟩ := R_form h5
 unfold thronglaw28_PeerExact at H
 refine T.enter (args := [_]) (S := Sat w []) Tryz.func8 rfl rfl (Sat.start w) ?_
 refine T.seq fun K1 hK1 => T.region (RS.solid (Sd.box (cs := [_, _, _, _, _, _, _, _, _, _, _, _]) rfl rfl) rfl rfl fun b1 => rA rfl (RS.nil (hK1 _ _ ?_)))
 refine T.seq fun K2 hK2 => T.seq fun K3 hK3 => T.region (rq (Qt.ldBA (us := [_, _, _, _, _, _, _, _, _, _, _, _]) 0 ty29 rfl rfl rfl rfl) ?_)
 obtain ⟨x2, hx2, H⟩ := bindE H
 refine rq (Qt.call (vs := [.agg #[.int .i64 a0_p.p.id, .int .i64 a0_p.p.players, .int .i64 a0_p.p.delay, .int .i64 a0_p.p.turn, .int .i64 a0_p.p.said, .slice p0 a0_p.p.mine.length c0, .slice p1 a0_p.p.inputs.length c1, .slice p2 a0_p.p.has.length c2, .slice p3 a0_p.p.acked.length c3, .slice p4 a0_p.p.hashes.length c4, .bool a0_p.p.split, .slice p5 a0_p.l.length c5]]) ent10 rfl fun w s => thronglaw28_heavy_walk a0_p w ((Rd.base h0) w s) ((Rd.base h1) w s) ((Rd.base h2) w s) ((Rd.base h3) w s) ((Rd.base h4) w s) ((Rd.base h5) w s) hx2) (RS.nil (hK3 _ _ ?_))
 refine T.cond rfl (fun hc3 => ?_) (fun hc3 => ?_)
 ·have H := ifT hc3 H
  refine cq [] ?_
  refine T.seq fun K4 hK4 => T.region (rA rfl (RS.nil (hK4 _ _ ?_)))
  obtain rfl := sj H
  refine T.rt (Cont.ret1 rfl rfl fun w' s => ?_)
  exact ⟨rfl, s.ext⟩
 ·have H := ifB hc3 H
  refine T.skip (hK2 _ _ (cq [(1, _)] ?_))
  refine T.seq fun K5 hK5 => T.region (rp (Pu.fieldAddr fd29_0 rfl) (rq (Qt.ldBA (us := [_, _, _, _, _, _, _, _, _, _, _]) 0 ty26 rfl rfl rfl rfl) ?_))
  obtain ⟨x4, hx4, H⟩ := bindE H
  refine RS.solid (Sd.callN (vs := [.agg #[.int .i64 a0_p.p.id, .int .i64 a0_p.p.players, .int .i64 a0_p.p.delay, .int .i64 a0_p.p.turn, .int .i64 a0_p.p.said, .slice p0 a0_p.p.mine.length c0, .slice p1 a0_p.p.inputs.length c1, .slice p2 a0_p.p.has.length c2, .slice p3 a0_p.p.acked.length c3, .slice p4 a0_p.p.hashes.length c4, .bool a0_p.p.split]]) ent11 rfl (fun w s => throngref0_CopyPeer_walk a0_p.p w ((Rd.base h0) w s) ((Rd.base h1) w s) ((Rd.base h2) w s) ((Rd.base h3) w s) ((Rd.base h4) w s) hx4)) rfl rfl fun ⟨q5, q6, q7, q8, q9⟩ => ?_
  refine RS.solid (Sd.alloc zr26 rfl) rfl rfl fun b10 => RS.solid (Sd.stB (cs' := [_, _, _, _, _, _, _, _, _, _, _]) 6 ty26 rfl rfl rfl rfl rfl rfl rfl rfl) rfl rfl fun _ => RS.nil (hK5 _ _ (cq [(1, _), (3, _)] ?_))
  refine T.seq fun K6 hK6 => T.region (rA rfl (RS.nil (hK6 _ _ ?_)))
  refine T.seq fun K7 hK7 => T.seq fun K8 hK8 => ?_
  try dsimp only [List.set, List.cons_append, List.nil_append]
  refine T.region (rq (Qt.ldBA (us := [_, _, _, _, _, _, _, _, _, _, _]) 6 ty26 rfl rfl rfl rfl) ?_)
  obtain ⟨x11, hx11, H⟩ := bindE H
  refine rq (Qt.call (vs := [.agg #[.int .i64 x4.id, .int .i64 x4.players, .int .i64 x4.delay, .int .i64 x4.turn, .int .i64 x4.said, rowV q5 x4.mine.length, rowV q6 x4.inputs.length, rowV q7 x4.has.length, rowV q8 x4.acked.length, rowV q9 x4.hashes.length, .bool x4.split]]) ent12 rfl fun w s => throngref27_Peer_walk x4 w ((Rd.ofG 1 rfl) w s) ((Rd.ofG 2 rfl) w s) ((Rd.ofRowN 3 rfl) w s) ((Rd.ofRowN 4 rfl) w s) ((Rd.ofRowN 5 rfl) w s) hx11) (RS.nil (hK8 _ _ ?_))
  refine T.joinE (σ := Int) (γ := Unit) H (fun s => s) [(1, _), (3, _)] ⟨rfl, rfl, trivial⟩ (fun v13 _ => [(4, .int .i64 v13)]) (fun v13 _ => Sat w [blk b1 [.int .i64 a0_p.p.id, .int .i64 a0_p.p.players, .int .i64 a0_p.p.delay, .int .i64 a0_p.p.turn, .int .i64 a0_p.p.said, .slice p0 a0_p.p.mine.length c0, .slice p1 a0_p.p.inputs.length c1, .slice p2 a0_p.p.has.length c2, .slice p3 a0_p.p.acked.length c3, .slice p4 a0_p.p.hashes.length c4, .bool a0_p.p.split, .slice p5 a0_p.l.length c5] 29, drow 41 (rowV q5 x4.mine.length) x4.mine, drow 41 (rowV q6 x4.inputs.length) x4.inputs, row nilH 3 (rowV q7 x4.has.length) x4.has, row nilH 3 (rowV q8 x4.acked.length) x4.acked, row nilH 42 (rowV q9 x4.hashes.length) x4.hashes, blk b10 [.int .i64 x4.id, .int .i64 x4.players, .int .i64 x4.delay, .int .i64 x4.turn, .int .i64 x4.said, rowV q5 x4.mine.length, rowV q6 x4.inputs.length, rowV q7 x4.has.length, rowV q8 x4.acked.length, rowV q9 x4.hashes.length, .bool x4.split] 26]) ?_ ?_
  ·rintro v13 ⟨⟩ H
   try dsimp only [Ex.then] at H
   refine Cont.conseq (fr' := [(4, _), (1, _), (3, _)]) ?_ ⟨rfl, rfl, rfl, trivial⟩ (fun _ s => s)
   refine id (hK7 _ _ ?_)
   refine T.seq fun K9 hK9 => T.seq fun K10 hK10 => ?_
   try dsimp only [List.set, List.cons_append, List.nil_append]
   refine T.region (rq (Qt.ldBA (us := [_, _, _, _, _, _, _, _, _, _, _]) 6 ty26 rfl rfl rfl rfl) ?_)
   obtain ⟨x14, hx14, H⟩ := bindE H
   refine rq (Qt.call (vs := [.agg #[.int .i64 x4.id, .int .i64 x4.players, .int .i64 x4.delay, .int .i64 x4.turn, .int .i64 x4.said, rowV q5 x4.mine.length, rowV q6 x4.inputs.length, rowV q7 x4.has.length, rowV q8 x4.acked.length, rowV q9 x4.hashes.length, .bool x4.split]]) ent14 rfl fun w s => peer_Check_walk x4 w ((Rd.ofG 1 rfl) w s) ((Rd.ofG 2 rfl) w s) ((Rd.ofRowN 3 rfl) w s) ((Rd.ofRowN 4 rfl) w s) ((Rd.ofRowN 5 rfl) w s) hx14) ?_
   obtain ⟨x15, hx15, H⟩ := bindE H
   refine rq (Qt.call (vs := [.int .i64 x14]) ent13 rfl fun w s => thronglaw28_num_walk x14 w  hx15) (rM rfl (rp (Pu.bin rfl rfl rfl) (RS.nil (hK10 _ _ ?_))))
   refine T.condP rfl (fun hc16 => ?_) (fun hc16 => ?_)
   ·have H := ifT hc16 H
    refine cq [] ?_
    refine T.seq fun K11 hK11 => T.region (rA rfl (RS.nil (hK11 _ _ ?_)))
    obtain rfl := sj H
    try dsimp only [List.set, List.cons_append, List.nil_append]
    refine T.rt (Cont.ret1 rfl rfl fun w' s => ?_)
    exact ⟨rfl, s.ext⟩
   ·have H := ifF hc16 H
    refine T.skip (hK9 _ _ (cq [(1, _), (3, _)] ?_))
    refine T.seq fun K12 hK12 => T.seq fun K13 hK13 => T.region (rA rfl (RS.nil (hK13 _ _ ?_)))
    refine T.joinE (σ := Int × Int × Int × Int × Int × Bool × List Inp × List Inp × List Int × List Int × List UInt64) (γ := (Option Nat × Nat) × (Option Nat × Nat) × (Option Nat × Nat) × (Option Nat × Nat) × (Option Nat × Nat)) H Ex.go [] trivial (fun (v18, v19, v20, v21, v22, v23, v24, v26, v28, v30, v32) (q25, q27, q29, q31, q33) => []) (fun (v18, v19, v20, v21, v22, v23, v24, v26, v28, v30, v32) (q25, q27, q29, q31, q33) => Sat w [blk b1 [.int .i64 a0_p.p.id, .int .i64 a0_p.p.players, .int .i64 a0_p.p.delay, .int .i64 a0_p.p.turn, .int .i64 a0_p.p.said, .slice p0 a0_p.p.mine.length c0, .slice p1 a0_p.p.inputs.length c1, .slice p2 a0_p.p.has.length c2, .slice p3 a0_p.p.acked.length c3, .slice p4 a0_p.p.hashes.length c4, .bool a0_p.p.split, .slice p5 a0_p.l.length c5] 29, drow 41 (rowV q25 v24.length) v24, drow 41 (rowV q27 v26.length) v26, row nilH 3 (rowV q29 v28.length) v28, row nilH 3 (rowV q31 v30.length) v30, row nilH 42 (rowV q33 v32.length) v32, blk b10 [.int .i64 v18, .int .i64 v19, .int .i64 v20, .int .i64 v21, .int .i64 v22, rowV q25 v24.length, rowV q27 v26.length, rowV q29 v28.length, rowV q31 v30.length, rowV q33 v32.length, .bool v23] 26]) ?_ ?_
    ·rintro ⟨v18, v19, v20, v21, v22, v23, v24, v26, v28, v30, v32⟩ ⟨q25, q27, q29, q31, q33⟩ H
     try dsimp only [Ex.then] at H
     refine Cont.conseq (fr' := []) ?_ trivial (fun _ s => s)
     refine id (hK12 _ _ ?_)
     refine T.seq fun K14 hK14 => ?_
     try dsimp only [List.set, List.cons_append, List.nil_append]
     refine T.region ?_
     obtain ⟨x34, hx34, H⟩ := bindE H
     refine rq (Qt.call (vs := []) ent16 rfl fun w s => thronglaw28_wakes_walk  w  hx34) (rA rfl (RS.nil (hK14 _ _ ?_)))
     obtain rfl := sj H
     try dsimp only [List.set, List.cons_append, List.nil_append]
     refine T.rt (Cont.ret1 rfl rfl fun w' s => ?_)
     exact ⟨rfl, s.ext⟩
    ·intro z17 hz17 HX17 hJ17
     refine T.block ?_
     refine T.loopA (γ := (Option Nat × Nat) × (Option Nat × Nat) × (Option Nat × Nat) × (Option Nat × Nat) × (Option Nat × Nat)) hz17 [(1, _), (3, _)] (fun (v35, v36, v37, v38, v39, v40, v41, l42, l44, l46, l48, l50) (q43, q45, q47, q49, q51) => [(5, .int .i64 v35)]) (fun (v35, v36, v37, v38, v39, v40, v41, l42, l44, l46, l48, l50) (q43, q45, q47, q49, q51) => Sat w [blk b1 [.int .i64 a0_p.p.id, .int .i64 a0_p.p.players, .int .i64 a0_p.p.delay, .int .i64 a0_p.p.turn, .int .i64 a0_p.p.said, .slice p0 a0_p.p.mine.length c0, .slice p1 a0_p.p.inputs.length c1, .slice p2 a0_p.p.has.length c2, .slice p3 a0_p.p.acked.length c3, .slice p4 a0_p.p.hashes.length c4, .bool a0_p.p.split, .slice p5 a0_p.l.length c5] 29, drow 41 (rowV q43 l42.length) l42, drow 41 (rowV q45 l44.length) l44, row nilH 3 (rowV q47 l46.length) l46, row nilH 3 (rowV q49 l48.length) l48, row nilH 42 (rowV q51 l50.length) l50, blk b10 [.int .i64 v36, .int .i64 v37, .int .i64 v38, .int .i64 v39, .int .i64 v40, rowV q43 l42.length, rowV q45 l44.length, rowV q47 l46.length, rowV q49 l48.length, rowV q51 l50.length, .bool v41] 26]) (q5, q6, q7, q8, q9) ⟨rfl, rfl, trivial⟩ ⟨rfl, trivial⟩ (fun w s => s) ?_
     rintro ⟨v35, v36, v37, v38, v39, v40, v41, l42, l44, l46, l48, l50⟩ ⟨q43, q45, q47, q49, q51⟩ y52 H hd17 KL17 hL17
     try dsimp only [Ex.then] at H
     refine cq [(5, _), (1, _), (3, _)] ?_
     refine T.seq fun K15 hK15 => T.seq fun K16 hK16 => ?_
     try dsimp only [List.set, List.cons_append, List.nil_append]
     refine T.region (rM rfl (rp (Pu.fieldAddr fd29_1 rfl) (rq (Qt.ldB 0 ty27 rfl rfl rfl) (rp (Pu.lenSl sl27 rfl) (rp (Pu.bin rfl rfl rfl) (rM rfl ?_))))))
     refine RS.joinV 3 28 (.bool (decide ((v35 < (a0_p.l.length : Int)) ∧ (v35 < 12)))) [(1, _), (3, _), (5, _)] ⟨rfl, rfl, rfl, trivial⟩ ?_ ?_
     ·refine RS.nil (hK16 _ _ ?_)
      refine T.condP rfl (fun hc55 => ?_) (fun hc55 => ?_)
      ·have H := ifT hc55 H
       refine T.skip (hK15 _ _ ?_)
       refine T.seq fun K17 hK17 => T.block ?_
       refine T.exP (fun w s => Sat.freeze 1 rfl (Sat.starAt 1 2 (Sat.starAt 2 3 (Sat.starAt 3 4 (Sat.starAt 4 5 s rfl rfl (by decide)) rfl rfl (by decide)) rfl rfl (by decide)) rfl rfl (by decide))) fun hh57 hz58 => ?_
       obtain ⟨_, _, st60a, st60b, _, st60l, st60m⟩ := hz58
       have hy59 := (Enc.mono st60l (drow_R st60a))
       obtain ⟨_, _, st62a, st62b, _, st62l, st62m⟩ := st60b
       have hy61 := (Enc.mono st60m (Enc.mono st62l (drow_R st62a)))
       obtain ⟨_, _, st64a, st64b, _, st64l, st64m⟩ := st62b
       have hy63 := (Enc.mono st60m (Enc.mono st62m (Enc.mono st64l (row_R st64a))))
       obtain ⟨_, _, st66a, st66b, _, st66l, st66m⟩ := st64b
       have hy65 := (Enc.mono st60m (Enc.mono st62m (Enc.mono st64m (Enc.mono st66l (row_R st66a)))))
       have hy67 := (Enc.mono st60m (Enc.mono st62m (Enc.mono st64m (Enc.mono st66m (row_R st66b)))))
       refine T.joinA (σ := Int × Int × Int × Int × Int × Bool × Bool × List Inp × List Inp × List Int × List Int × List UInt64) (γ := Nat × (Option Addr) × Nat × (Option Addr) × Nat × (Option Addr) × Nat × (Option Addr) × Nat × (Option Addr) × Nat) H (fun s => s) [(1, _), (3, _), (5, _)] ⟨rfl, rfl, rfl, trivial⟩ (fun (v69, v70, v71, v72, v73, v74, v75, v76, v79, v82, v85, v88) (q68, q77, q78, q80, q81, q83, q84, q86, q87, q89, q90) => [(6, .pointer (some ⟨q68, 0, none⟩)), (7, .bool v75)]) (fun (v69, v70, v71, v72, v73, v74, v75, v76, v79, v82, v85, v88) (q68, q77, q78, q80, q81, q83, q84, q86, q87, q89, q90) => Sat w [blk b1 [.int .i64 a0_p.p.id, .int .i64 a0_p.p.players, .int .i64 a0_p.p.delay, .int .i64 a0_p.p.turn, .int .i64 a0_p.p.said, .slice p0 a0_p.p.mine.length c0, .slice p1 a0_p.p.inputs.length c1, .slice p2 a0_p.p.has.length c2, .slice p3 a0_p.p.acked.length c3, .slice p4 a0_p.p.hashes.length c4, .bool a0_p.p.split, .slice p5 a0_p.l.length c5] 29, fz hh57, dead, dead, dead, dead, blk b10 [.int .i64 v36, .int .i64 v37, .int .i64 v38, .int .i64 v39, .int .i64 v40, rowV q43 l42.length, rowV q45 l44.length, rowV q47 l46.length, rowV q49 l48.length, rowV q51 l50.length, .bool v41] 26, blk q68 [.int .i64 v69, .int .i64 v70, .int .i64 v71, .int .i64 v72, .int .i64 v73, .slice q77 v76.length q78, .slice q80 v79.length q81, .slice q83 v82.length q84, .slice q86 v85.length q87, .slice q89 v88.length q90, .bool v74] 26, dat hh57 (v76 : List Inp) [.slice q77 v76.length q78], dat hh57 (v79 : List Inp) [.slice q80 v79.length q81], dat hh57 (v82 : List Int) [.slice q83 v82.length q84], dat hh57 (v85 : List Int) [.slice q86 v85.length q87], dat hh57 (v88 : List UInt64) [.slice q89 v88.length q90]]) ?_ ?_
       ·rintro ⟨v69, v70, v71, v72, v73, v74, v75, v76, v79, v82, v85, v88⟩ ⟨q68, q77, q78, q80, q81, q83, q84, q86, q87, q89, q90⟩ H
        try dsimp only [Ex.then] at H
        refine cq [(6, _), (7, _), (1, _), (3, _), (5, _)] ?_
        refine T.seq fun K19 hK19 => T.seq fun K20 hK20 => ?_
        try dsimp only [List.set, List.cons_append, List.nil_append]
        refine T.region (rM rfl (rp (Pu.not rfl) (RS.nil (hK20 _ _ ?_))))
        refine T.cond rfl (fun hc91 => ?_) (fun hc91 => ?_)
        ·have H := ifT hc91 H
         refine cq [] ?_
         refine T.seq fun K21 hK21 => T.region (rA rfl (RS.nil (hK21 _ _ ?_)))
         obtain rfl := hd17 _ H
         have H := HX17
         obtain rfl := sj H
         try dsimp only [List.set, List.cons_append, List.nil_append]
         refine T.rt (Cont.ret1 rfl rfl fun w' s => ?_)
         exact ⟨rfl, s.ext⟩
        ·have H := ifB hc91 H
         refine T.skip (hK19 _ _ (cq [(1, _), (3, _), (5, _), (6, _)] ?_))
         try dsimp only [List.set, List.cons_append, List.nil_append]
         refine T.region (rq (Qt.ldBA (us := [_, _, _, _, _, _, _, _, _, _, _]) 7 ty26 rfl rfl rfl rfl) ?_)
         obtain ⟨x92, hx92, H⟩ := bindE H
         refine RS.solid (Sd.callN (vs := [.agg #[.int .i64 v69, .int .i64 v70, .int .i64 v71, .int .i64 v72, .int .i64 v73, .slice q77 v76.length q78, .slice q80 v79.length q81, .slice q83 v82.length q84, .slice q86 v85.length q87, .slice q89 v88.length q90, .bool v74]]) ent11 rfl (fun w s => throngref0_CopyPeer_walk (⟨v69, v70, v71, v72, v73, v76, v79, v82, v85, v88, v74⟩ : Per) w ((Rd.ofDatH (Held.fz 1 rfl) 8 rfl) w s) ((Rd.ofDatH (Held.fz 1 rfl) 9 rfl) w s) ((Rd.ofDatH (Held.fz 1 rfl) 10 rfl) w s) ((Rd.ofDatH (Held.fz 1 rfl) 11 rfl) w s) ((Rd.ofDatH (Held.fz 1 rfl) 12 rfl) w s) hx92)) rfl rfl fun ⟨q93, q94, q95, q96, q97⟩ => ?_
         refine RS.solid (Sd.stB (cs' := [_, _, _, _, _, _, _, _, _, _, _]) 6 ty26 rfl rfl rfl rfl rfl rfl rfl rfl) rfl rfl fun _ => RS.nil (hK17 _ _ (cq [(1, _), (3, _), (5, _)] ?_))
         try dsimp only [List.set, List.cons_append, List.nil_append]
         refine T.region (rM rfl ?_)
         obtain ⟨g98, H⟩ := gdE H
         refine rp (Pu.addS rfl rfl g98) (rA rfl (RS.nil (hL17 _ _ ((v35 + 1), x92.id, x92.players, x92.delay, x92.turn, x92.said, x92.split, x92.mine, x92.inputs, x92.has, x92.acked, x92.hashes) (q93, q94, q95, q96, q97) H ⟨rfl, rfl, trivial⟩ ⟨rfl, trivial⟩ (fun w s => s.pick [0, 13, 14, 15, 16, 17, 6] (by decide) rfl))))
       ·intro z56 H HX56 K18 hJ56
        try dsimp only [List.set, List.cons_append, List.nil_append]
        refine T.drawnT (fun _ => True) [(0, .rd), (1, .pu), (2, .rd), (3, .pu), (4, .pu), (5, .rd), (6, .so), (7, .pu), (8, .pu), (9, .pu), (10, .so), (11, .br), (12, .pu)] (.st 0 .rd (.st 1 .pu (.st 2 .rd (.st 3 .pu (.st 4 .pu (.st 5 .rd (.two 6 .so (.st 7 .pu (.st 8 .pu (.st 9 .pu (.st 10 .so (.st 11 .br (.st 12 .pu .nil)))))) 10 .so (.st 6 .so (.st 7 .pu (.st 8 .pu (.st 9 .pu (.st 11 .br (.st 12 .pu .nil))))))))))))) mixed (ClE.sat _ _) (by kernel_rfl) ?_
        refine RT.q (fun _ _ => trivial) rfl (Qt.ldBA (us := [_, _, _, _, _, _, _, _, _, _, _]) 6 ty26 rfl rfl rfl rfl) rfl rfl (RT.p (fun _ _ => trivial) rfl (Pu.fieldAddr fd29_1 rfl) rfl rfl (RT.q (fun _ _ => trivial) rfl (Qt.ldB 0 ty27 rfl rfl rfl) rfl rfl (RT.p (fun _ _ => trivial) rfl (Pu.move rfl) rfl rfl ?_)))
        obtain ⟨g99, H⟩ := gdE H
        obtain ⟨bl100, ol101, rfl⟩ := R_ptr h5 (ne_of_pos (pos_of g99))
        refine RT.p (fun _ _ => trivial) rfl (Pu.indexSl sl27 rfl rfl g99) rfl rfl ?_
        obtain ⟨c102, hc103, ha104⟩ := R_el (α := Act28) h5 g99
        obtain ⟨u105, u106, rfl, hu105, hu106⟩ := hc103
        obtain ⟨p107, cc108, rfl⟩ := R_form hu105
        obtain ⟨p109, cc110, rfl⟩ := R_form hu106
        refine RT.q (fun _ _ => trivial) rfl (Qt.ldZ (cs := [_, _, _, _, _, _, _, _, _, _, _, _]) ty46 rfl ha104 Held.base rfl) rfl rfl ?_
        obtain ⟨x111, hx111, H⟩ := bindE H
        refine RT.two ?_ ?_
        ·refine RT1.solid rfl (.inl rfl) rfl rfl (Sd.callN (vs := [.agg #[.int .i64 v36, .int .i64 v37, .int .i64 v38, .int .i64 v39, .int .i64 v40, rowV q43 l42.length, rowV q45 l44.length, rowV q47 l46.length, rowV q49 l48.length, rowV q51 l50.length, .bool v41], .agg #[.int .i64 ((gi a0_p.l v35).act), .slice p107 ((gi a0_p.l v35).l).length cc108, .int .i64 (((gi a0_p.l v35).n).frm), .int .i64 (((gi a0_p.l v35).n).dst), .int .i64 ((((gi a0_p.l v35).n).input).turn), .int .i64 ((((gi a0_p.l v35).n).input).player), .slice p109 ((((gi a0_p.l v35).n).input).commands).length cc110, .int .i64 (((gi a0_p.l v35).n).don), .int .u64 ((((gi a0_p.l v35).n).hash).toNat : Int), .int .i64 (((gi a0_p.l v35).n).hav), .bool ((gi a0_p.l v35).fit), .int .u64 (((gi a0_p.l v35).h).toNat : Int)]]) ent15 rfl (fun w s => thronglaw28_step_walk (⟨v36, v37, v38, v39, v40, l42, l44, l46, l48, l50, v41⟩ : Per) (gi a0_p.l v35) w (hh57) (Held.fz 1 rfl w s) (hy59) (hy61) (hy63) (hy65) (hy67) ((Rd.base hu105) w s) ((Rd.base hu106) w s) hx111)) (fun _ => ClE.sat _ _) (fun _ _ _ => trivial) (fun _ _ _ s => s.drop1) fun ⟨u311, u312, u313, u314, u315⟩ => ?_
         refine RT.know (p := ∃ p c, u311 = .slice p x111.1.mine.length c) (fun w s => Sat.dat_form (k := 7) s rfl) ?_
         rintro ⟨p316, cc317, rfl⟩
         refine RT.know (p := ∃ p c, u312 = .slice p x111.1.inputs.length c) (fun w s => Sat.dat_form (k := 8) s rfl) ?_
         rintro ⟨p318, cc319, rfl⟩
         refine RT.know (p := ∃ p c, u313 = .slice p x111.1.has.length c) (fun w s => Sat.dat_form (k := 9) s rfl) ?_
         rintro ⟨p320, cc321, rfl⟩
         refine RT.know (p := ∃ p c, u314 = .slice p x111.1.acked.length c) (fun w s => Sat.dat_form (k := 10) s rfl) ?_
         rintro ⟨p322, cc323, rfl⟩
         refine RT.know (p := ∃ p c, u315 = .slice p x111.1.hashes.length c) (fun w s => Sat.dat_form (k := 11) s rfl) ?_
         rintro ⟨p324, cc325, rfl⟩
         refine RT.p (fun _ _ => trivial) rfl (Pu.move rfl) rfl rfl (RT.p (fun _ _ => trivial) rfl (Pu.extract rfl rfl) rfl rfl (RT.p (fun _ _ => trivial) rfl (Pu.extract rfl rfl) rfl rfl (RT.solid rfl (.inl rfl) rfl rfl (Sd.alloc zr26 rfl) (fun _ => ClE.sat _ _) (fun _ _ _ => trivial) (fun _ _ _ s => s.drop1) fun b326 => ?_)))
         refine RT.solid rfl (.inr rfl) rfl rfl (Sd.stB (cs' := [_, _, _, _, _, _, _, _, _, _, _]) 12 ty26 rfl rfl rfl rfl rfl rfl rfl rfl) (fun _ => ClE.sat _ _) (fun _ _ _ => trivial) (fun h => nomatch h) fun _ => ?_
         refine RT.p (fun _ _ => trivial) rfl (Pu.assign rfl) rfl rfl ?_
         obtain rfl := sj H
         refine RT.nil (hJ56 _ _ (x111.1.id, x111.1.players, x111.1.delay, x111.1.turn, x111.1.said, x111.1.split, x111.2, x111.1.mine, x111.1.inputs, x111.1.has, x111.1.acked, x111.1.hashes) (b326, p316, cc317, p318, cc319, p320, cc321, p322, cc323, p324, cc325) HX56 ⟨rfl, rfl, rfl, trivial⟩ ⟨rfl, rfl, trivial⟩ (fun w s => s.pick [0, 1, 2, 3, 4, 5, 6, 12, 7, 8, 9, 10, 11] (by decide) rfl))
        ·refine RT1.solid rfl (.inl rfl) rfl rfl (Sd.alloc zr26 rfl) (fun _ => ClE.sat _ _) (fun _ _ _ => trivial) (fun _ _ _ s => s.drop1) fun b327 => ?_
         refine RT.solid rfl (.inl rfl) rfl rfl (Sd.callN (vs := [.agg #[.int .i64 v36, .int .i64 v37, .int .i64 v38, .int .i64 v39, .int .i64 v40, rowV q43 l42.length, rowV q45 l44.length, rowV q47 l46.length, rowV q49 l48.length, rowV q51 l50.length, .bool v41], .agg #[.int .i64 ((gi a0_p.l v35).act), .slice p107 ((gi a0_p.l v35).l).length cc108, .int .i64 (((gi a0_p.l v35).n).frm), .int .i64 (((gi a0_p.l v35).n).dst), .int .i64 ((((gi a0_p.l v35).n).input).turn), .int .i64 ((((gi a0_p.l v35).n).input).player), .slice p109 ((((gi a0_p.l v35).n).input).commands).length cc110, .int .i64 (((gi a0_p.l v35).n).don), .int .u64 ((((gi a0_p.l v35).n).hash).toNat : Int), .int .i64 (((gi a0_p.l v35).n).hav), .bool ((gi a0_p.l v35).fit), .int .u64 (((gi a0_p.l v35).h).toNat : Int)]]) ent15 rfl (fun w s => thronglaw28_step_walk (⟨v36, v37, v38, v39, v40, l42, l44, l46, l48, l50, v41⟩ : Per) (gi a0_p.l v35) w (hh57) (Held.fz 1 rfl w s) (hy59) (hy61) (hy63) (hy65) (hy67) ((Rd.base hu105) w s) ((Rd.base hu106) w s) hx111)) (fun _ => ClE.sat _ _) (fun _ _ _ => trivial) (fun _ _ _ s => s.drop1) fun ⟨u328, u329, u330, u331, u332⟩ => ?_
         refine RT.know (p := ∃ p c, u328 = .slice p x111.1.mine.length c) (fun w s => Sat.dat_form (k := 8) s rfl) ?_
         rintro ⟨p333, cc334, rfl⟩
         refine RT.know (p := ∃ p c, u329 = .slice p x111.1.inputs.length c) (fun w s => Sat.dat_form (k := 9) s rfl) ?_
         rintro ⟨p335, cc336, rfl⟩
         refine RT.know (p := ∃ p c, u330 = .slice p x111.1.has.length c) (fun w s => Sat.dat_form (k := 10) s rfl) ?_
         rintro ⟨p337, cc338, rfl⟩
         refine RT.know (p := ∃ p c, u331 = .slice p x111.1.acked.length c) (fun w s => Sat.dat_form (k := 11) s rfl) ?_
         rintro ⟨p339, cc340, rfl⟩
         refine RT.know (p := ∃ p c, u332 = .slice p x111.1.hashes.length c) (fun w s => Sat.dat_form (k := 12) s rfl) ?_
         rintro ⟨p341, cc342, rfl⟩
         refine RT.p (fun _ _ => trivial) rfl (Pu.move rfl) rfl rfl (RT.p (fun _ _ => trivial) rfl (Pu.extract rfl rfl) rfl rfl (RT.p (fun _ _ => trivial) rfl (Pu.extract rfl rfl) rfl rfl (RT.solid rfl (.inr rfl) rfl rfl (Sd.stB (cs' := [_, _, _, _, _, _, _, _, _, _, _]) 7 ty26 rfl rfl rfl rfl rfl rfl rfl rfl) (fun _ => ClE.sat _ _) (fun _ _ _ => trivial) (fun h => nomatch h) fun _ => ?_)))
         refine RT.p (fun _ _ => trivial) rfl (Pu.assign rfl) rfl rfl ?_
         obtain rfl := sj H
         refine RT.nil (hJ56 _ _ (x111.1.id, x111.1.players, x111.1.delay, x111.1.turn, x111.1.said, x111.1.split, x111.2, x111.1.mine, x111.1.inputs, x111.1.has, x111.1.acked, x111.1.hashes) (b327, p333, cc334, p335, cc336, p337, cc338, p339, cc340, p341, cc342) HX56 ⟨rfl, rfl, rfl, trivial⟩ ⟨rfl, rfl, trivial⟩ (fun w s => s))
      ·have H := ifF hc55 H
       obtain rfl := hd17 _ H
       refine T.xt (hJ17 _ _ (v36, v37, v38, v39, v40, v41, l42, l44, l46, l48, l50) (q43, q45, q47, q49, q51) HX17 trivial trivial (fun w s => s))
     ·intro hJ54
      refine RS.splitP 25 rfl (fun hc53 => ?_) (fun hc53 => ?_)
      ·refine rM rfl (rp (Pu.bin rfl rfl rfl) (rp (Pu.pickT rfl rfl) ?_))
       exact hJ54 _ _ ⟨dAndT hc53, rfl, rfl, rfl, trivial⟩ (fun w s => s)
      ·refine ro (ro (rp (Pu.pickF rfl rfl) ?_))
       exact hJ54 _ _ ⟨dAndF hc53, rfl, rfl, rfl, trivial⟩ (fun w s => s)
  ·intro z12 H HX12 hJ12
   refine T.cond rfl (fun hc343 => ?_) (fun hc343 => ?_)
   ·have H := ifT hc343 H
    refine cq [(1, _), (3, _)] ?_
    refine T.region (rA rfl ?_)
    obtain rfl := sj H
    refine RS.nil (hJ12 _ _ 0 () HX12 ⟨rfl, rfl, trivial⟩ ⟨rfl, trivial⟩ (fun w s => s))
   ·have H := ifB hc343 H
    obtain rfl := sj H
    refine T.skip (hJ12 _ _ 1 () HX12 ⟨rfl, rfl, trivial⟩ ⟨rfl, trivial⟩ (fun w s => s))
end Go.Proofs.YtnadebijiaelkaaGreat
