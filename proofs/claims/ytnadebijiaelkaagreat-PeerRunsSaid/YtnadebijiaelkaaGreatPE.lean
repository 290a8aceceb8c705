/-
  Walk of one act on both.
-/
import Derived.Test.YtnadebijiaelkaaGreatRows
import Derived.Test.YtnadebijiaelkaaGreatW3
import Derived.Test.YtnadebijiaelkaaGreatPD
set_option linter.unusedVariables false
set_option linter.unusedSimpArgs false
set_option maxRecDepth 20000
set_option maxHeartbeats 4000000
namespace Go.Proofs.YtnadebijiaelkaaGreat
open Go.Vg
open Enc (R)
theorem thronglaw28_step_walk (a0_p : Per) (a1_a : Act28) (w : World) {v0 v1 v2 v3 v4 v5 v6 : Value} (B : Hp) (hB : B.le (hpOf w)) (h0 : R B a0_p.mine [v0]) (h1 : R B a0_p.inputs [v1]) (h2 : R B a0_p.has [v2]) (h3 : R B a0_p.acked [v3]) (h4 : R B a0_p.hashes [v4]) (h5 : R (hpOf w) a1_a.l [v5]) (h6 : R (hpOf w) a1_a.n.input.commands [v6]) {r : Per × Bool} (H : thronglaw28_step a0_p a1_a = some r) : Calls Tryz.prog 15 #[.agg #[.int .i64 a0_p.id, .int .i64 a0_p.players, .int .i64 a0_p.delay, .int .i64 a0_p.turn, .int .i64 a0_p.said, v0, v1, v2, v3, v4, .bool a0_p.split], .agg #[.int .i64 a1_a.act, v5, .int .i64 a1_a.n.frm, .int .i64 a1_a.n.dst, .int .i64 a1_a.n.input.turn, .int .i64 a1_a.n.input.player, v6, .int .i64 a1_a.n.don, .int .u64 (a1_a.n.hash.toNat : Int), .int .i64 a1_a.n.hav, .bool a1_a.fit, .int .u64 (a1_a.h.toNat : Int)]] w fun e w' => ∃ g : Value × Value × Value × Value × Value, e = .returned (.tuple #[.agg #[.int .i64 r.1.id, .int .i64 r.1.players, .int .i64 r.1.delay, .int .i64 r.1.turn, .int .i64 r.1.said, g.1, g.2.1, g.2.2.1, g.2.2.2.1, g.2.2.2.2, .bool r.1.split], .bool r.2]) ∧ Sat w [dat B (r.1.mine : List Inp) [g.1], dat B (r.1.inputs : List Inp) [g.2.1], dat B (r.1.has : List Int) [g.2.2.1], dat B (r.1.acked : List Int) [g.2.2.2.1], dat B (r.1.hashes : List UInt64) [g.2.2.2.2]] w' := by
 have hm0 := R_max h0
 obtain ⟨p0, c0, rfl⟩ := R_form h0
 have hb0 := Enc.mono hB h0
 have hm1 := R_max h1
 obtain ⟨p1, c1, rfl⟩ := R_form h1
 have hb1 := Enc.mono hB h1
 have hm2 := R_max h2
 obtain ⟨p2, c2, rfl⟩ := R_form h2
 have hb2 := Enc.mono hB h2
 have hm3 := R_max h3
 obtain ⟨p3, c3, rfl⟩ := R_form h3
 have hb3 := Enc.mono hB h3
 have hm4 := R_max h4
 obtain ⟨p4, c4, rfl⟩ := R_form h4
 have hb4 := Enc.mono hB h4
 have hm5 := R_max h5
 obtain ⟨p5, c5, rfl⟩ := R_form h5
 have hm6 := R_max h6
 obtain ⟨p6, c6, rfl⟩ := R_form h6
 unfold thronglaw28_step at H
 refine T.enter (args := [_, _]) (S := Sat w []) Tryz.func15 rfl rfl (Sat.start w) ?_
 refine T.seq fun K1 hK1 => T.region (RS.solid (Sd.box (cs := [_, _, _, _, _, _, _, _, _, _, _]) rfl rfl) rfl rfl fun b1 => RS.solid (Sd.box (cs := [_, _, _, _, _, _, _, _, _, _, _, _]) rfl rfl) rfl rfl fun b2 => RS.solid (Sd.alloc zr26 rfl) rfl rfl fun b3 => rA rfl (RS.nil (hK1 _ _ (cq [(2, _), (3, _), (4, _)] ?_))))
 refine T.seq fun K2 hK2 => T.region (rq (Qt.ldBA (us := [_, _, _, _, _, _, _, _, _, _, _]) 0 ty26 rfl rfl rfl rfl) ?_)
 obtain ⟨x4, hx4, H⟩ := bindE H
 refine RS.solid (Sd.callN (vs := [.agg #[.int .i64 a0_p.id, .int .i64 a0_p.players, .int .i64 a0_p.delay, .int .i64 a0_p.turn, .int .i64 a0_p.said, .slice p0 a0_p.mine.length c0, .slice p1 a0_p.inputs.length c1, .slice p2 a0_p.has.length c2, .slice p3 a0_p.acked.length c3, .slice p4 a0_p.hashes.length c4, .bool a0_p.split]]) ent11 rfl (fun w s => throngref0_CopyPeer_walk a0_p w ((Rd.base hb0) w s) ((Rd.base hb1) w s) ((Rd.base hb2) w s) ((Rd.base hb3) w s) ((Rd.base hb4) w s) hx4)) rfl rfl fun ⟨q5, q6, q7, q8, q9⟩ => ?_
 refine RS.solid (Sd.alloc zr26 rfl) rfl rfl fun b10 => RS.solid (Sd.stB (cs' := [_, _, _, _, _, _, _, _, _, _, _]) 8 ty26 rfl rfl rfl rfl rfl rfl rfl rfl) rfl rfl fun _ => RS.nil (hK2 _ _ ?_)
 refine T.seq fun K3 hK3 => ?_
 try dsimp only [List.set, List.cons_append, List.nil_append]
 refine T.region (rq (Qt.ldBA (us := [_, _, _, _, _, _, _, _, _, _, _]) 0 ty26 rfl rfl rfl rfl) ?_)
 obtain ⟨x11, hx11, H⟩ := bindE H
 refine rq (Qt.call (vs := [.agg #[.int .i64 a0_p.id, .int .i64 a0_p.players, .int .i64 a0_p.delay, .int .i64 a0_p.turn, .int .i64 a0_p.said, .slice p0 a0_p.mine.length c0, .slice p1 a0_p.inputs.length c1, .slice p2 a0_p.has.length c2, .slice p3 a0_p.acked.length c3, .slice p4 a0_p.hashes.length c4, .bool a0_p.split]]) ent12 rfl fun w s => throngref27_Peer_walk a0_p w ((Rd.base hb0) w s) ((Rd.base hb1) w s) ((Rd.base hb2) w s) ((Rd.base hb3) w s) ((Rd.base hb4) w s) hx11) (rA rfl (RS.nil (hK3 _ _ (cq [(2, _), (3, _), (4, _), (6, _), (7, _)] ?_))))
 refine T.seq fun K4 hK4 => ?_
 try dsimp only [List.set, List.cons_append, List.nil_append]
 refine T.region (rp (Pu.build (cells := [_, _, _, _, _, _, _, _, _, _, _]) st26 rfl rfl) (RS.solid (Sd.alloc zr26 rfl) rfl rfl fun b12 => RS.solid (Sd.stB (cs' := [_, _, _, _, _, _, _, _, _, _, _]) 9 ty26 rfl rfl rfl rfl rfl rfl rfl rfl) rfl rfl fun _ => rA rfl (RS.nil (hK4 _ _ ?_))))
 refine T.seq fun K5 hK5 => T.region (RS.solid (Sd.alloc zr26 rfl) rfl rfl fun b13 => RS.nil (hK5 _ _ ?_))
 refine T.seq fun K6 hK6 => T.region (rA rfl (RS.nil (hK6 _ _ ?_)))
 refine T.seq fun K7 hK7 => T.seq fun K8 hK8 => ?_
 try dsimp only [List.set, List.cons_append, List.nil_append]
 refine T.region (rp (Pu.fieldAddr fd46_0 rfl) (rq (Qt.ldB 1 ty3 rfl rfl rfl) ?_))
 obtain ⟨x14, hx14, H⟩ := bindE H
 refine rq (Qt.call (vs := [.int .i64 a1_a.act, .int .i64 9]) ent27 rfl fun w s => thronglaw0_Within_walk a1_a.act 9 w  hx14) (RS.nil (hK8 _ _ (cq [(2, _), (3, _), (4, _), (6, _), (7, _), (8, _), (9, _), (10, _), (35, _)] ?_)))
 refine T.joinE (σ := Int × Int × Int × Int × Int × Int × Int × Bool × Int × Int × Int × Int × Int × Bool × List Inp × List Inp × List Int × List Int × List UInt64 × List Inp × List Inp × List Int × List Int × List UInt64) (γ := (Option Addr) × Nat × (Option Addr) × Nat × (Option Addr) × Nat × (Option Addr) × Nat × (Option Addr) × Nat × (Option Nat × Nat) × (Option Nat × Nat) × (Option Nat × Nat) × (Option Nat × Nat) × (Option Addr) × Nat) H Ex.go [(2, _), (4, _), (6, _), (8, _), (10, _)] ⟨rfl, rfl, rfl, rfl, rfl, trivial⟩ (fun (v16, v17, v18, v19, v20, v21, v22, v23, v24, v25, v26, v27, v28, v29, v30, v33, v36, v39, v42, v45, v47, v49, v51, v53) (q31, q32, q34, q35, q37, q38, q40, q41, q43, q44, q46, q48, q50, q52, q54, q55) => [(9, .int .i64 v16), (11, .int .i64 v17)]) (fun (v16, v17, v18, v19, v20, v21, v22, v23, v24, v25, v26, v27, v28, v29, v30, v33, v36, v39, v42, v45, v47, v49, v51, v53) (q31, q32, q34, q35, q37, q38, q40, q41, q43, q44, q46, q48, q50, q52, q54, q55) => Sat w [blk b1 [.int .i64 a0_p.id, .int .i64 a0_p.players, .int .i64 a0_p.delay, .int .i64 a0_p.turn, .int .i64 a0_p.said, .slice p0 a0_p.mine.length c0, .slice p1 a0_p.inputs.length c1, .slice p2 a0_p.has.length c2, .slice p3 a0_p.acked.length c3, .slice p4 a0_p.hashes.length c4, .bool a0_p.split] 26, blk b2 [.int .i64 a1_a.act, .slice p5 a1_a.l.length c5, .int .i64 a1_a.n.frm, .int .i64 a1_a.n.dst, .int .i64 a1_a.n.input.turn, .int .i64 a1_a.n.input.player, .slice p6 a1_a.n.input.commands.length c6, .int .i64 a1_a.n.don, .int .u64 (a1_a.n.hash.toNat : Int), .int .i64 a1_a.n.hav, .bool a1_a.fit, .int .u64 (a1_a.h.toNat : Int)] 46, blk b3 [.int .i64 0, .int .i64 0, .int .i64 0, .int .i64 0, .int .i64 0, .slice none 0 0, .slice none 0 0, .slice none 0 0, .slice none 0 0, .slice none 0 0, .bool false] 26, drow 41 (rowV q5 x4.mine.length) x4.mine, drow 41 (rowV q6 x4.inputs.length) x4.inputs, row nilH 3 (rowV q7 x4.has.length) x4.has, row nilH 3 (rowV q8 x4.acked.length) x4.acked, row nilH 42 (rowV q9 x4.hashes.length) x4.hashes, blk b10 [.int .i64 x4.id, .int .i64 x4.players, .int .i64 x4.delay, .int .i64 x4.turn, .int .i64 x4.said, rowV q5 x4.mine.length, rowV q6 x4.inputs.length, rowV q7 x4.has.length, rowV q8 x4.acked.length, rowV q9 x4.hashes.length, .bool x4.split] 26, blk b12 [.int .i64 v18, .int .i64 v19, .int .i64 v20, .int .i64 v21, .int .i64 v22, .slice q31 v30.length q32, .slice q34 v33.length q35, .slice q37 v36.length q38, .slice q40 v39.length q41, .slice q43 v42.length q44, .bool v23] 26, blk b13 [.int .i64 v24, .int .i64 v25, .int .i64 v26, .int .i64 v27, .int .i64 v28, rowV q46 v45.length, rowV q48 v47.length, rowV q50 v49.length, rowV q52 v51.length, .slice q54 v53.length q55, .bool v29] 26, dat B (v30 : List Inp) [.slice q31 v30.length q32], dat B (v33 : List Inp) [.slice q34 v33.length q35], dat B (v36 : List Int) [.slice q37 v36.length q38], dat B (v39 : List Int) [.slice q40 v39.length q41], dat B (v42 : List UInt64) [.slice q43 v42.length q44], drow 41 (rowV q46 v45.length) v45, drow 41 (rowV q48 v47.length) v47, row nilH 3 (rowV q50 v49.length) v49, row nilH 3 (rowV q52 v51.length) v51, osl 42 (.slice q54 v53.length q55) v53]) ?_ ?_
 ·rintro ⟨v16, v17, v18, v19, v20, v21, v22, v23, v24, v25, v26, v27, v28, v29, v30, v33, v36, v39, v42, v45, v47, v49, v51, v53⟩ ⟨q31, q32, q34, q35, q37, q38, q40, q41, q43, q44, q46, q48, q50, q52, q54, q55⟩ H
  try dsimp only [Ex.then] at H
  refine Cont.conseq (fr' := [(9, _), (11, _), (2, _), (4, _), (6, _), (8, _), (10, _)]) ?_ ⟨rfl, rfl, rfl, rfl, rfl, rfl, rfl, trivial⟩ (fun _ s => s)
  refine id (hK7 _ _ ?_)
  refine T.seq fun K9 hK9 => T.seq fun K10 hK10 => ?_
  try dsimp only [List.set, List.cons_append, List.nil_append]
  refine T.region (rM rfl (rp (Pu.bin rfl rfl rfl) (RS.nil (hK10 _ _ ?_))))
  refine T.joinE (σ := Int × Int × Int × Int × Int × Bool × List Inp × List Inp × List Int × List Int × List UInt64) (γ := (Option Addr) × Nat × (Option Addr) × Nat × (Option Addr) × Nat × (Option Addr) × Nat × (Option Addr) × Nat) H (fun s => s) [(2, _), (4, _), (6, _), (8, _), (9, _), (10, _), (11, _)] ⟨rfl, rfl, rfl, rfl, rfl, rfl, rfl, trivial⟩ (fun (v57, v58, v59, v60, v61, v62, v63, v66, v69, v72, v75) (q64, q65, q67, q68, q70, q71, q73, q74, q76, q77) => []) (fun (v57, v58, v59, v60, v61, v62, v63, v66, v69, v72, v75) (q64, q65, q67, q68, q70, q71, q73, q74, q76, q77) => Sat w [blk b1 [.int .i64 a0_p.id, .int .i64 a0_p.players, .int .i64 a0_p.delay, .int .i64 a0_p.turn, .int .i64 a0_p.said, .slice p0 a0_p.mine.length c0, .slice p1 a0_p.inputs.length c1, .slice p2 a0_p.has.length c2, .slice p3 a0_p.acked.length c3, .slice p4 a0_p.hashes.length c4, .bool a0_p.split] 26, blk b2 [.int .i64 a1_a.act, .slice p5 a1_a.l.length c5, .int .i64 a1_a.n.frm, .int .i64 a1_a.n.dst, .int .i64 a1_a.n.input.turn, .int .i64 a1_a.n.input.player, .slice p6 a1_a.n.input.commands.length c6, .int .i64 a1_a.n.don, .int .u64 (a1_a.n.hash.toNat : Int), .int .i64 a1_a.n.hav, .bool a1_a.fit, .int .u64 (a1_a.h.toNat : Int)] 46, blk b3 [.int .i64 0, .int .i64 0, .int .i64 0, .int .i64 0, .int .i64 0, .slice none 0 0, .slice none 0 0, .slice none 0 0, .slice none 0 0, .slice none 0 0, .bool false] 26, drow 41 (rowV q5 x4.mine.length) x4.mine, drow 41 (rowV q6 x4.inputs.length) x4.inputs, row nilH 3 (rowV q7 x4.has.length) x4.has, row nilH 3 (rowV q8 x4.acked.length) x4.acked, row nilH 42 (rowV q9 x4.hashes.length) x4.hashes, blk b10 [.int .i64 x4.id, .int .i64 x4.players, .int .i64 x4.delay, .int .i64 x4.turn, .int .i64 x4.said, rowV q5 x4.mine.length, rowV q6 x4.inputs.length, rowV q7 x4.has.length, rowV q8 x4.acked.length, rowV q9 x4.hashes.length, .bool x4.split] 26, blk b12 [.int .i64 v57, .int .i64 v58, .int .i64 v59, .int .i64 v60, .int .i64 v61, .slice q64 v63.length q65, .slice q67 v66.length q68, .slice q70 v69.length q71, .slice q73 v72.length q74, .slice q76 v75.length q77, .bool v62] 26, blk b13 [.int .i64 v24, .int .i64 v25, .int .i64 v26, .int .i64 v27, .int .i64 v28, rowV q46 v45.length, rowV q48 v47.length, rowV q50 v49.length, rowV q52 v51.length, .slice q54 v53.length q55, .bool v29] 26, dead, dead, dead, dead, dead, drow 41 (rowV q46 v45.length) v45, drow 41 (rowV q48 v47.length) v47, row nilH 3 (rowV q50 v49.length) v49, row nilH 3 (rowV q52 v51.length) v51, osl 42 (.slice q54 v53.length q55) v53, dat B (v63 : List Inp) [.slice q64 v63.length q65], dat B (v66 : List Inp) [.slice q67 v66.length q68], dat B (v69 : List Int) [.slice q70 v69.length q71], dat B (v72 : List Int) [.slice q73 v72.length q74], dat B (v75 : List UInt64) [.slice q76 v75.length q77]]) ?_ ?_
  ·rintro ⟨v57, v58, v59, v60, v61, v62, v63, v66, v69, v72, v75⟩ ⟨q64, q65, q67, q68, q70, q71, q73, q74, q76, q77⟩ H
   try dsimp only [Ex.then] at H
   refine Cont.conseq (fr' := [(2, _), (4, _), (6, _), (8, _), (9, _), (10, _), (11, _)]) ?_ ⟨rfl, rfl, rfl, rfl, rfl, rfl, rfl, trivial⟩ (fun _ s => s)
   refine id (hK9 _ _ ?_)
   refine T.seq fun K11 hK11 => ?_
   try dsimp only [List.set, List.cons_append, List.nil_append]
   refine T.region (rM rfl ?_)
   obtain ⟨x78, hx78, H⟩ := bindE H
   refine rq (Qt.call (vs := [.int .i64 v17]) ent13 rfl fun w s => thronglaw28_num_walk v17 w  hx78) (rM rfl (rp (Pu.bin rfl rfl rfl) (rM rfl ?_)))
   refine RS.joinB H 13 208 (fun b81 => .bool b81) [(2, _), (4, _), (6, _), (8, _), (9, _), (10, _)] ⟨rfl, rfl, rfl, rfl, rfl, rfl, trivial⟩ ?_ ?_
   ·intro b81 H
    refine rM rfl ?_
    refine RS.joinB H 4 213 (fun b84 => .bool b84) [(2, _), (4, _), (6, _), (8, _), (9, _), (10, _)] ⟨rfl, rfl, rfl, rfl, rfl, rfl, trivial⟩ ?_ ?_
    ·intro b84 H
     refine rA rfl (RS.nil (hK11 _ _ ?_))
     refine T.seq fun K12 hK12 => ?_
     try dsimp only [List.set, List.cons_append, List.nil_append]
     refine T.region (rq (Qt.ldBA (us := [_, _, _, _, _, _, _, _, _, _, _]) 10 ty26 rfl rfl rfl rfl) ?_)
     obtain ⟨x85, hx85, H⟩ := bindE H
     refine RS.solid (Sd.pre (fun w s => (Sat.starAt 16 17 (Sat.starAt 17 18 (Sat.starAt 18 19 (Sat.starAt 19 20 s rfl rfl (by decide)) rfl rfl (by decide)) rfl rfl (by decide)) rfl rfl (by decide))) (Sd.callF0 (C' := dead) (v := .tuple #[]) 16 ent47 rfl rfl (fun w s => thronglaw0_Peer_walk (⟨v24, v25, v26, v27, v28, v45, v47, v49, v51, v53, v29⟩ : Per) hx85 w s))) rfl rfl fun _ => RS.nil (hK12 _ _ (cq [(2, _), (4, _), (6, _), (8, _), (9, _), (27, _)] ?_))
     refine T.seq fun K13 hK13 => T.seq fun K14 hK14 => ?_
     try dsimp only [List.set, List.cons_append, List.nil_append]
     refine T.region (rM rfl (rp (Pu.bin rfl rfl rfl) (RS.nil (hK14 _ _ ?_))))
     refine T.condP rfl (fun hc86 => ?_) (fun hc86 => ?_)
     ·have H := ifT hc86 H
      refine cq [(2, _), (4, _), (27, _)] ?_
      refine T.seq fun K15 hK15 => ?_
      try dsimp only [List.set, List.cons_append, List.nil_append]
      refine T.region (rq (Qt.ldBA (us := [_, _, _, _, _, _, _, _, _, _, _]) 0 ty26 rfl rfl rfl rfl) (rM rfl (RS.solid (Sd.stB (cs' := [_, _, _, _, _, _, _, _, _, _, _]) 2 ty26 rfl rfl rfl rfl rfl rfl rfl rfl) rfl rfl fun _ => rA rfl (RS.nil (hK15 _ _ (cq [(4, _), (5, _)] ?_))))))
      obtain rfl := sj H
      try dsimp only [List.set, List.cons_append, List.nil_append]
      refine T.rt (Cont.retCT 2 rfl ty26 rfl rfl rfl rfl fun w' s => ?_)
      exact ⟨⟨(.slice p0 a0_p.mine.length c0), (.slice p1 a0_p.inputs.length c1), (.slice p2 a0_p.has.length c2), (.slice p3 a0_p.acked.length c3), (.slice p4 a0_p.hashes.length c4)⟩, rfl, (Sat.baseDat (B := B) hB (Sat.baseDat (B := B) hB (Sat.baseDat (B := B) hB (Sat.baseDat (B := B) hB (Sat.baseDat (B := B) hB s h0) h1) h2) h3) h4).pick [26, 27, 28, 29, 30] (by decide) rfl⟩
     ·have H := ifF hc86 H
      refine T.skip (hK13 _ _ (cq [(2, _), (4, _), (6, _), (8, _), (27, _)] ?_))
      refine T.seq fun K16 hK16 => ?_
      try dsimp only [List.set, List.cons_append, List.nil_append]
      refine T.weakS (S' := Sat w [blk b1 [.int .i64 a0_p.id, .int .i64 a0_p.players, .int .i64 a0_p.delay, .int .i64 a0_p.turn, .int .i64 a0_p.said, .slice p0 a0_p.mine.length c0, .slice p1 a0_p.inputs.length c1, .slice p2 a0_p.has.length c2, .slice p3 a0_p.acked.length c3, .slice p4 a0_p.hashes.length c4, .bool a0_p.split] 26, blk b2 [.int .i64 a1_a.act, .slice p5 a1_a.l.length c5, .int .i64 a1_a.n.frm, .int .i64 a1_a.n.dst, .int .i64 a1_a.n.input.turn, .int .i64 a1_a.n.input.player, .slice p6 a1_a.n.input.commands.length c6, .int .i64 a1_a.n.don, .int .u64 (a1_a.n.hash.toNat : Int), .int .i64 a1_a.n.hav, .bool a1_a.fit, .int .u64 (a1_a.h.toNat : Int)] 46, blk b3 [.int .i64 0, .int .i64 0, .int .i64 0, .int .i64 0, .int .i64 0, .slice none 0 0, .slice none 0 0, .slice none 0 0, .slice none 0 0, .slice none 0 0, .bool false] 26, drow 41 (rowV q5 x4.mine.length) x4.mine, drow 41 (rowV q6 x4.inputs.length) x4.inputs, row nilH 3 (rowV q7 x4.has.length) x4.has, row nilH 3 (rowV q8 x4.acked.length) x4.acked, row nilH 42 (rowV q9 x4.hashes.length) x4.hashes, blk b10 [.int .i64 x4.id, .int .i64 x4.players, .int .i64 x4.delay, .int .i64 x4.turn, .int .i64 x4.said, rowV q5 x4.mine.length, rowV q6 x4.inputs.length, rowV q7 x4.has.length, rowV q8 x4.acked.length, rowV q9 x4.hashes.length, .bool x4.split] 26, blk b12 [.int .i64 v57, .int .i64 v58, .int .i64 v59, .int .i64 v60, .int .i64 v61, .slice q64 v63.length q65, .slice q67 v66.length q68, .slice q70 v69.length q71, .slice q73 v72.length q74, .slice q76 v75.length q77, .bool v62] 26, blk b13 [.int .i64 v24, .int .i64 v25, .int .i64 v26, .int .i64 v27, .int .i64 v28, rowV q46 v45.length, rowV q48 v47.length, rowV q50 v49.length, rowV q52 v51.length, .slice q54 v53.length q55, .bool v29] 26, dead, dead, dead, dead, dead, dead, dead, dead, dead, dead, dat B (v63 : List Inp) [.slice q64 v63.length q65], dat B (v66 : List Inp) [.slice q67 v66.length q68], dat B (v69 : List Int) [.slice q70 v69.length q71], dat B (v72 : List Int) [.slice q73 v72.length q74], dat B (v75 : List UInt64) [.slice q76 v75.length q77]]) (fun w s => s) ?_
      refine T.drawnS [0, 1, 3, 4, 5, 6, 7, 8, 9, 10, 11, 12, 13, 14, 15, 16, 17, 18, 19, 20, 21, 22, 23, 24, 25] [(0, .rd), (1, .pu), (2, .pu), (3, .wk), (4, .wk), (5, .rd), (6, .pu), (7, .br), (8, .pu)] mixed (by kernel_rfl) rfl ?_
      refine RD.q (fun w s => s.pick [0, 1, 3, 4, 5, 6, 7, 8, 9, 10, 11, 12, 13, 14, 15, 16, 17, 18, 19, 20, 21, 22, 23, 24, 25] (by decide) rfl) rfl (Qt.ldBA (us := [_, _, _, _, _, _, _, _, _, _, _]) 9 ty26 rfl rfl rfl rfl) rfl rfl (RD.p (fun w s => s.pick [0, 1, 3, 4, 5, 6, 7, 8, 9, 10, 11, 12, 13, 14, 15, 16, 17, 18, 19, 20, 21, 22, 23, 24, 25] (by decide) rfl) rfl (Pu.move rfl) rfl rfl (RD.p (fun w s => s.pick [0, 1, 3, 4, 5, 6, 7, 8, 9, 10, 11, 12, 13, 14, 15, 16, 17, 18, 19, 20, 21, 22, 23, 24, 25] (by decide) rfl) rfl (Pu.move rfl) rfl rfl ?_))
      refine RD.joinB H 4 226 (fun b89 => .bool b89) [(4, _), (220, _)] ⟨rfl, rfl, trivial⟩ ?_ ?_
      ·intro b89 H
       refine RD.solid rfl (.inr rfl) rfl rfl (Sd.stB (cs' := [_, _, _, _, _, _, _, _, _, _, _]) 2 ty26 rfl rfl rfl rfl rfl rfl rfl rfl) (fun _ => ClE.sat _ _) (fun _ w s => s.pick [0, 1, 3, 4, 5, 6, 7, 8, 9, 10, 11, 12, 13, 14, 15, 16, 17, 18, 19, 20, 21, 22, 23, 24, 25] (by decide) rfl) (fun h => nomatch h) fun _ => ?_
       refine RD.p (fun w s => s.pick [0, 1, 3, 4, 5, 6, 7, 8, 9, 10, 11, 12, 13, 14, 15, 16, 17, 18, 19, 20, 21, 22, 23, 24, 25] (by decide) rfl) rfl (Pu.assign rfl) rfl rfl (RD.nil (hK16 _ _ ?_))
       obtain rfl := sj H
       try dsimp only [List.set, List.cons_append, List.nil_append]
       refine T.rt (Cont.retCT 2 rfl ty26 rfl rfl rfl rfl fun w' s => ?_)
       exact ⟨⟨(.slice q64 v63.length q65), (.slice q67 v66.length q68), (.slice q70 v69.length q71), (.slice q73 v72.length q74), (.slice q76 v75.length q77)⟩, rfl, s.pick [21, 22, 23, 24, 25] (by decide) rfl⟩
      ·intro z90 H hJ88
       refine RD.split 222 rfl (fun hc87 => ?_) (fun hc87 => ?_)
       ·have H := ifT hc87 H
        refine RD.w (fun w s => s.pick [0, 1, 3, 4, 5, 6, 7, 8, 9, 10, 11, 12, 13, 14, 15, 16, 17, 18, 19, 20, 21, 22, 23, 24, 25] (by decide) rfl) rfl (Qt.ldBA (us := [_, _, _, _, _, _, _, _, _, _, _]) 7 ty26 rfl rfl rfl rfl) rfl rfl ?_
        refine RD.w (fun w s => s.pick [0, 1, 3, 4, 5, 6, 7, 8, 9, 10, 11, 12, 13, 14, 15, 16, 17, 18, 19, 20, 21, 22, 23, 24, 25] (by decide) rfl) rfl (Qt.ldBA (us := [_, _, _, _, _, _, _, _, _, _, _]) 0 ty26 rfl rfl rfl rfl) rfl rfl ?_
        obtain ⟨x91, hx91, H⟩ := bindE H
        refine RD.q (fun w s => s.pick [0, 1, 3, 4, 5, 6, 7, 8, 9, 10, 11, 12, 13, 14, 15, 16, 17, 18, 19, 20, 21, 22, 23, 24, 25] (by decide) rfl) rfl (Qt.call (vs := [.agg #[.int .i64 x4.id, .int .i64 x4.players, .int .i64 x4.delay, .int .i64 x4.turn, .int .i64 x4.said, rowV q5 x4.mine.length, rowV q6 x4.inputs.length, rowV q7 x4.has.length, rowV q8 x4.acked.length, rowV q9 x4.hashes.length, .bool x4.split], .agg #[.int .i64 a0_p.id, .int .i64 a0_p.players, .int .i64 a0_p.delay, .int .i64 a0_p.turn, .int .i64 a0_p.said, .slice p0 a0_p.mine.length c0, .slice p1 a0_p.inputs.length c1, .slice p2 a0_p.has.length c2, .slice p3 a0_p.acked.length c3, .slice p4 a0_p.hashes.length c4, .bool a0_p.split]]) ent37 rfl fun w s => throngref0_EqPeer_walk x4 a0_p w ((Rd.ofG 3 rfl) w s) ((Rd.ofG 4 rfl) w s) ((Rd.ofRowN 5 rfl) w s) ((Rd.ofRowN 6 rfl) w s) ((Rd.ofRowN 7 rfl) w s) ((Rd.base hb0) w s) ((Rd.base hb1) w s) ((Rd.base hb2) w s) ((Rd.base hb3) w s) ((Rd.base hb4) w s) hx91) rfl rfl (RD.p (fun w s => s.pick [0, 1, 3, 4, 5, 6, 7, 8, 9, 10, 11, 12, 13, 14, 15, 16, 17, 18, 19, 20, 21, 22, 23, 24, 25] (by decide) rfl) rfl (Pu.pickT rfl rfl) rfl rfl ?_)
        obtain rfl := sj H
        exact hJ88 _ ⟨rfl, rfl, rfl, trivial⟩
       ·have H := ifB hc87 H
        refine RD.no (fun w s => s.pick [0, 1, 3, 4, 5, 6, 7, 8, 9, 10, 11, 12, 13, 14, 15, 16, 17, 18, 19, 20, 21, 22, 23, 24, 25] (by decide) rfl) rfl rfl rfl (.inr (.inl rfl)) (RD.no (fun w s => s.pick [0, 1, 3, 4, 5, 6, 7, 8, 9, 10, 11, 12, 13, 14, 15, 16, 17, 18, 19, 20, 21, 22, 23, 24, 25] (by decide) rfl) rfl rfl rfl (.inr (.inl rfl)) (RD.no (fun w s => s.pick [0, 1, 3, 4, 5, 6, 7, 8, 9, 10, 11, 12, 13, 14, 15, 16, 17, 18, 19, 20, 21, 22, 23, 24, 25] (by decide) rfl) rfl rfl rfl (.inr (.inr rfl)) (RD.p (fun w s => s.pick [0, 1, 3, 4, 5, 6, 7, 8, 9, 10, 11, 12, 13, 14, 15, 16, 17, 18, 19, 20, 21, 22, 23, 24, 25] (by decide) rfl) rfl (Pu.pickF rfl rfl) rfl rfl ?_)))
        obtain rfl := sj H
        exact hJ88 _ ⟨rfl, rfl, rfl, trivial⟩
    ·intro z92 H hJ83
     refine RS.split 209 rfl (fun hc82 => ?_) (fun hc82 => ?_)
     ·have H := ifT hc82 H
      refine rq (Qt.ldBA (us := [_, _, _, _, _, _, _, _, _, _, _]) 8 ty26 rfl rfl rfl rfl) (rq (Qt.ldBA (us := [_, _, _, _, _, _, _, _, _, _, _]) 0 ty26 rfl rfl rfl rfl) ?_)
      obtain ⟨x93, hx93, H⟩ := bindE H
      refine rq (Qt.call (vs := [.agg #[.int .i64 x4.id, .int .i64 x4.players, .int .i64 x4.delay, .int .i64 x4.turn, .int .i64 x4.said, rowV q5 x4.mine.length, rowV q6 x4.inputs.length, rowV q7 x4.has.length, rowV q8 x4.acked.length, rowV q9 x4.hashes.length, .bool x4.split], .agg #[.int .i64 a0_p.id, .int .i64 a0_p.players, .int .i64 a0_p.delay, .int .i64 a0_p.turn, .int .i64 a0_p.said, .slice p0 a0_p.mine.length c0, .slice p1 a0_p.inputs.length c1, .slice p2 a0_p.has.length c2, .slice p3 a0_p.acked.length c3, .slice p4 a0_p.hashes.length c4, .bool a0_p.split]]) ent37 rfl fun w s => throngref0_EqPeer_walk x4 a0_p w ((Rd.ofG 3 rfl) w s) ((Rd.ofG 4 rfl) w s) ((Rd.ofRowN 5 rfl) w s) ((Rd.ofRowN 6 rfl) w s) ((Rd.ofRowN 7 rfl) w s) ((Rd.base hb0) w s) ((Rd.base hb1) w s) ((Rd.base hb2) w s) ((Rd.base hb3) w s) ((Rd.base hb4) w s) hx93) (rp (Pu.pickT rfl rfl) ?_)
      obtain rfl := sj H
      exact hJ83 _ _ ⟨rfl, rfl, rfl, rfl, rfl, rfl, rfl, trivial⟩ (fun w s => s)
     ·have H := ifB hc82 H
      refine ro (ro (ro (rp (Pu.pickF rfl rfl) ?_)))
      obtain rfl := sj H
      exact hJ83 _ _ ⟨rfl, rfl, rfl, rfl, rfl, rfl, rfl, trivial⟩ (fun w s => s)
   ·intro z94 H hJ80
    refine RS.splitP 195 rfl (fun hc79 => ?_) (fun hc79 => ?_)
    ·have H := ifT hc79 H
     refine rq (Qt.ldBA (us := [_, _, _, _, _, _, _, _, _, _, _]) 10 ty26 rfl rfl rfl rfl) (rq (Qt.ldBA (us := [_, _, _, _, _, _, _, _, _, _, _]) 9 ty26 rfl rfl rfl rfl) ?_)
     obtain ⟨x95, hx95, H⟩ := bindE H
     refine rq (Qt.call (vs := [.agg #[.int .i64 v24, .int .i64 v25, .int .i64 v26, .int .i64 v27, .int .i64 v28, rowV q46 v45.length, rowV q48 v47.length, rowV q50 v49.length, rowV q52 v51.length, .slice q54 v53.length q55, .bool v29], .agg #[.int .i64 v57, .int .i64 v58, .int .i64 v59, .int .i64 v60, .int .i64 v61, .slice q64 v63.length q65, .slice q67 v66.length q68, .slice q70 v69.length q71, .slice q73 v72.length q74, .slice q76 v75.length q77, .bool v62]]) ent37 rfl fun w s => throngref0_EqPeer_walk (⟨v24, v25, v26, v27, v28, v45, v47, v49, v51, v53, v29⟩ : Per) (⟨v57, v58, v59, v60, v61, v63, v66, v69, v72, v75, v62⟩ : Per) w ((Rd.ofG 16 rfl) w s) ((Rd.ofG 17 rfl) w s) ((Rd.ofRowN 18 rfl) w s) ((Rd.ofRowN 19 rfl) w s) ((Rd.ofOsl 20 rfl) w s) ((Rd.ofDatH (fun w s => Hp.le_trans hB s.ext.hp) 21 rfl) w s) ((Rd.ofDatH (fun w s => Hp.le_trans hB s.ext.hp) 22 rfl) w s) ((Rd.ofDatH (fun w s => Hp.le_trans hB s.ext.hp) 23 rfl) w s) ((Rd.ofDatH (fun w s => Hp.le_trans hB s.ext.hp) 24 rfl) w s) ((Rd.ofDatH (fun w s => Hp.le_trans hB s.ext.hp) 25 rfl) w s) hx95) (rM rfl ?_)
     refine RS.joinB H 8 207 (fun b98 => .bool b98) [(2, _), (4, _), (6, _), (8, _), (9, _), (10, _), (11, _), (191, _), (192, _), (193, _), (194, _), (195, _), (196, _), (197, _), (198, _)] ⟨rfl, rfl, rfl, rfl, rfl, rfl, rfl, rfl, rfl, rfl, rfl, rfl, rfl, rfl, rfl, trivial⟩ ?_ ?_
     ·intro b98 H
      refine rp (Pu.pickT rfl rfl) ?_
      obtain rfl := sj H
      exact hJ80 _ _ ⟨rfl, rfl, rfl, rfl, rfl, rfl, rfl, trivial⟩ (fun w s => s)
     ·intro z99 H hJ97
      refine RS.split 199 rfl (fun hc96 => ?_) (fun hc96 => ?_)
      ·have H := ifT hc96 H
       refine ro (ro (ro (ro (ro (ro (ro (rp (Pu.pickT rfl rfl) ?_)))))))
       obtain rfl := sj H
       exact hJ97 _ _ ⟨rfl, rfl, rfl, rfl, rfl, rfl, rfl, rfl, rfl, rfl, rfl, rfl, rfl, rfl, rfl, rfl, trivial⟩ (fun w s => s)
      ·have H := ifB hc96 H
       refine rM rfl (rp (Pu.bin rfl rfl rfl) (rM rfl ?_))
       refine RS.joinB H 4 206 (fun b102 => .bool b102) [(2, _), (4, _), (6, _), (8, _), (9, _), (10, _), (11, _), (191, _), (192, _), (193, _), (194, _), (195, _), (196, _), (197, _), (198, _), (199, _), (200, _), (201, _)] ⟨rfl, rfl, rfl, rfl, rfl, rfl, rfl, rfl, rfl, rfl, rfl, rfl, rfl, rfl, rfl, rfl, rfl, rfl, trivial⟩ ?_ ?_
       ·intro b102 H
        refine rp (Pu.pickF rfl rfl) ?_
        obtain rfl := sj H
        exact hJ97 _ _ ⟨rfl, rfl, rfl, rfl, rfl, rfl, rfl, rfl, rfl, rfl, rfl, rfl, rfl, rfl, rfl, rfl, trivial⟩ (fun w s => s)
       ·intro z103 H hJ101
        refine RS.splitP 202 rfl (fun hc100 => ?_) (fun hc100 => ?_)
        ·have H := ifT hc100 H
         refine rq (Qt.ldBA (us := [_, _, _, _, _, _, _, _, _, _, _]) 10 ty26 rfl rfl rfl rfl) (rq (Qt.ldBA (us := [_, _, _, _, _, _, _, _, _, _, _]) 0 ty26 rfl rfl rfl rfl) ?_)
         obtain ⟨x104, hx104, H⟩ := bindE H
         refine rq (Qt.call (vs := [.agg #[.int .i64 v24, .int .i64 v25, .int .i64 v26, .int .i64 v27, .int .i64 v28, rowV q46 v45.length, rowV q48 v47.length, rowV q50 v49.length, rowV q52 v51.length, .slice q54 v53.length q55, .bool v29], .agg #[.int .i64 a0_p.id, .int .i64 a0_p.players, .int .i64 a0_p.delay, .int .i64 a0_p.turn, .int .i64 a0_p.said, .slice p0 a0_p.mine.length c0, .slice p1 a0_p.inputs.length c1, .slice p2 a0_p.has.length c2, .slice p3 a0_p.acked.length c3, .slice p4 a0_p.hashes.length c4, .bool a0_p.split]]) ent37 rfl fun w s => throngref0_EqPeer_walk (⟨v24, v25, v26, v27, v28, v45, v47, v49, v51, v53, v29⟩ : Per) a0_p w ((Rd.ofG 16 rfl) w s) ((Rd.ofG 17 rfl) w s) ((Rd.ofRowN 18 rfl) w s) ((Rd.ofRowN 19 rfl) w s) ((Rd.ofOsl 20 rfl) w s) ((Rd.base hb0) w s) ((Rd.base hb1) w s) ((Rd.base hb2) w s) ((Rd.base hb3) w s) ((Rd.base hb4) w s) hx104) (rp (Pu.pickT rfl rfl) ?_)
         obtain rfl := sj H
         exact hJ101 _ _ ⟨rfl, rfl, rfl, rfl, rfl, rfl, rfl, rfl, rfl, rfl, rfl, rfl, rfl, rfl, rfl, rfl, rfl, rfl, rfl, trivial⟩ (fun w s => s)
        ·have H := ifF hc100 H
         refine ro (ro (ro (rp (Pu.pickF rfl rfl) ?_)))
         obtain rfl := sj H
         exact hJ101 _ _ ⟨rfl, rfl, rfl, rfl, rfl, rfl, rfl, rfl, rfl, rfl, rfl, rfl, rfl, rfl, rfl, rfl, rfl, rfl, rfl, trivial⟩ (fun w s => s)
    ·have H := ifF hc79 H
     refine ro (ro (ro (ro (ro (ro (ro (ro (ro (ro (ro (ro (rp (Pu.pickF rfl rfl) ?_))))))))))))
     obtain rfl := sj H
     exact hJ80 _ _ ⟨rfl, rfl, rfl, rfl, rfl, rfl, rfl, trivial⟩ (fun w s => s)
  ·intro z56 H HX56 hJ56
   refine T.condP rfl (fun hc105 => ?_) (fun hc105 => ?_)
   ·have H := ifT hc105 H
    try dsimp only [List.set, List.cons_append, List.nil_append]
    refine T.region (rp (Pu.build (cells := [_, _, _, _, _, _, _, _, _, _, _]) st26 rfl rfl) (RS.solid (Sd.stB (cs' := [_, _, _, _, _, _, _, _, _, _, _]) 9 ty26 rfl rfl rfl rfl rfl rfl rfl rfl) rfl rfl fun _ => ?_))
    obtain rfl := sj H
    refine RS.nil (hJ56 _ _ (0, 0, 0, 0, 0, false, [], [], [], [], []) (none, 0, none, 0, none, 0, none, 0, none, 0) HX56 ⟨rfl, rfl, rfl, rfl, rfl, rfl, rfl, trivial⟩ trivial (fun w s => (Sat.baseDat (B := B) (xs := ([] : List UInt64)) (v := .slice none 0 0) hB (Sat.baseDat (B := B) (xs := ([] : List Int)) (v := .slice none 0 0) hB (Sat.baseDat (B := B) (xs := ([] : List Int)) (v := .slice none 0 0) hB (Sat.baseDat (B := B) (xs := ([] : List Inp)) (v := .slice none 0 0) hB (Sat.baseDat (B := B) (xs := ([] : List Inp)) (v := .slice none 0 0) hB (((((s.deadRow).deadRow).deadRow).deadRow).deadRow) ⟨none, 0, rfl, by simp, by decide, .inl rfl⟩) ⟨none, 0, rfl, by simp, by decide, .inl rfl⟩) ⟨none, 0, rfl, by simp, by decide, .inl rfl⟩) ⟨none, 0, rfl, by simp, by decide, .inl rfl⟩) ⟨none, 0, rfl, by simp, by decide, .inl rfl⟩).pick [0, 1, 2, 3, 4, 5, 6, 7, 8, 9, 10, 21, 22, 23, 24, 25, 16, 17, 18, 19, 20, 26, 27, 28, 29, 30] (by decide) rfl))
   ·have H := ifF hc105 H
    obtain rfl := sj H
    refine T.skip (hJ56 _ _ (v18, v19, v20, v21, v22, v23, v30, v33, v36, v39, v42) (q31, q32, q34, q35, q37, q38, q40, q41, q43, q44) HX56 ⟨rfl, rfl, rfl, rfl, rfl, rfl, rfl, trivial⟩ trivial (fun w s => (((((s.deadRow).deadRow).deadRow).deadRow).deadRow).pick [0, 1, 2, 3, 4, 5, 6, 7, 8, 9, 10, 21, 22, 23, 24, 25, 16, 17, 18, 19, 20, 11, 12, 13, 14, 15] (by decide) rfl))
 ·intro z15 H HX15 hJ15
  refine T.block (T.seq fun K17 hK17 => T.seq fun K18 hK18 => ?_)
  try dsimp only [List.set, List.cons_append, List.nil_append]
  refine T.region (rp (Pu.bin rfl rfl rfl) (rA rfl (RS.nil (hK18 _ _ ?_))))
  refine T.joinE (σ := Bool) (γ := Unit) H (fun s => s) [(2, _), (3, _), (4, _), (6, _), (7, _), (8, _), (9, _), (10, _), (35, _)] ⟨rfl, rfl, rfl, rfl, rfl, rfl, rfl, rfl, rfl, trivial⟩ (fun v107 _ => [(61, .bool v107)]) (fun v107 _ => Sat w [blk b1 [.int .i64 a0_p.id, .int .i64 a0_p.players, .int .i64 a0_p.delay, .int .i64 a0_p.turn, .int .i64 a0_p.said, .slice p0 a0_p.mine.length c0, .slice p1 a0_p.inputs.length c1, .slice p2 a0_p.has.length c2, .slice p3 a0_p.acked.length c3, .slice p4 a0_p.hashes.length c4, .bool a0_p.split] 26, blk b2 [.int .i64 a1_a.act, .slice p5 a1_a.l.length c5, .int .i64 a1_a.n.frm, .int .i64 a1_a.n.dst, .int .i64 a1_a.n.input.turn, .int .i64 a1_a.n.input.player, .slice p6 a1_a.n.input.commands.length c6, .int .i64 a1_a.n.don, .int .u64 (a1_a.n.hash.toNat : Int), .int .i64 a1_a.n.hav, .bool a1_a.fit, .int .u64 (a1_a.h.toNat : Int)] 46, blk b3 [.int .i64 0, .int .i64 0, .int .i64 0, .int .i64 0, .int .i64 0, .slice none 0 0, .slice none 0 0, .slice none 0 0, .slice none 0 0, .slice none 0 0, .bool false] 26, drow 41 (rowV q5 x4.mine.length) x4.mine, drow 41 (rowV q6 x4.inputs.length) x4.inputs, row nilH 3 (rowV q7 x4.has.length) x4.has, row nilH 3 (rowV q8 x4.acked.length) x4.acked, row nilH 42 (rowV q9 x4.hashes.length) x4.hashes, blk b10 [.int .i64 x4.id, .int .i64 x4.players, .int .i64 x4.delay, .int .i64 x4.turn, .int .i64 x4.said, rowV q5 x4.mine.length, rowV q6 x4.inputs.length, rowV q7 x4.has.length, rowV q8 x4.acked.length, rowV q9 x4.hashes.length, .bool x4.split] 26, blk b12 [.int .i64 0, .int .i64 0, .int .i64 0, .int .i64 0, .int .i64 0, .slice none 0 0, .slice none 0 0, .slice none 0 0, .slice none 0 0, .slice none 0 0, .bool false] 26, blk b13 [.int .i64 0, .int .i64 0, .int .i64 0, .int .i64 0, .int .i64 0, .slice none 0 0, .slice none 0 0, .slice none 0 0, .slice none 0 0, .slice none 0 0, .bool false] 26]) ?_ ?_
  ·rintro v107 ⟨⟩ H
   try dsimp only [Ex.then] at H
   refine Cont.conseq (fr' := [(61, _), (2, _), (3, _), (4, _), (6, _), (7, _), (8, _), (9, _), (10, _), (35, _)]) ?_ ⟨rfl, rfl, rfl, rfl, rfl, rfl, rfl, rfl, rfl, rfl, trivial⟩ (fun _ s => s)
   refine id (hK17 _ _ ?_)
   refine T.cond rfl (fun hc108 => ?_) (fun hc108 => ?_)
   ·have H := ifT hc108 H
    refine T.seq fun K19 hK19 => ?_
    try dsimp only [List.set, List.cons_append, List.nil_append]
    refine T.region (rq (Qt.ldBA (us := [_, _, _, _, _, _, _, _, _, _, _]) 0 ty26 rfl rfl rfl rfl) (rq (Qt.ldBA (us := [_, _, _, _, _, _, _, _, _, _, _, _]) 1 ty46 rfl rfl rfl rfl) ?_))
    obtain ⟨x109, hx109, H⟩ := bindE H
    refine RS.solid (Sd.callN (vs := [.agg #[.int .i64 a0_p.id, .int .i64 a0_p.players, .int .i64 a0_p.delay, .int .i64 a0_p.turn, .int .i64 a0_p.said, .slice p0 a0_p.mine.length c0, .slice p1 a0_p.inputs.length c1, .slice p2 a0_p.has.length c2, .slice p3 a0_p.acked.length c3, .slice p4 a0_p.hashes.length c4, .bool a0_p.split], .agg #[.int .i64 a1_a.act, .slice p5 a1_a.l.length c5, .int .i64 a1_a.n.frm, .int .i64 a1_a.n.dst, .int .i64 a1_a.n.input.turn, .int .i64 a1_a.n.input.player, .slice p6 a1_a.n.input.commands.length c6, .int .i64 a1_a.n.don, .int .u64 (a1_a.n.hash.toNat : Int), .int .i64 a1_a.n.hav, .bool a1_a.fit, .int .u64 (a1_a.h.toNat : Int)]]) ent28 rfl (fun w s => thronglaw28_fit_walk a0_p a1_a w ((Rd.base hb0) w s) ((Rd.base hb1) w s) ((Rd.base hb2) w s) ((Rd.base hb3) w s) ((Rd.base hb4) w s) ((Rd.base h5) w s) ((Rd.base h6) w s) hx109)) rfl rfl fun q110 => RS.solid (Sd.alloc zr44 rfl) rfl rfl fun b111 => RS.solid (Sd.stB (cs' := [_, _, _, _, _, _, _, _]) 12 ty44 rfl rfl rfl rfl rfl rfl rfl rfl) rfl rfl fun _ => RS.nil (hK19 _ _ (cq [(2, _), (4, _), (6, _), (7, _), (8, _), (9, _), (10, _), (12, _)] ?_))
    refine T.seq fun K20 hK20 => T.seq fun K21 hK21 => T.region (rM rfl (RS.nil (hK21 _ _ ?_)))
    refine T.joinE (σ := Int × Int × Int × Int × Int × Int × Bool × List Inp × List Inp × List Int × List Int × List UInt64) (γ := (Option Addr) × Nat × (Option Addr) × Nat × (Option Addr) × Nat × (Option Addr) × Nat × (Option Addr) × Nat) H (fun s => s) [(2, _), (4, _), (6, _), (8, _), (10, _), (12, _)] ⟨rfl, rfl, rfl, rfl, rfl, rfl, trivial⟩ (fun (v113, v114, v115, v116, v117, v118, v119, v120, v123, v126, v129, v132) (q121, q122, q124, q125, q127, q128, q130, q131, q133, q134) => [(9, .int .i64 v113)]) (fun (v113, v114, v115, v116, v117, v118, v119, v120, v123, v126, v129, v132) (q121, q122, q124, q125, q127, q128, q130, q131, q133, q134) => Sat w [blk b1 [.int .i64 a0_p.id, .int .i64 a0_p.players, .int .i64 a0_p.delay, .int .i64 a0_p.turn, .int .i64 a0_p.said, .slice p0 a0_p.mine.length c0, .slice p1 a0_p.inputs.length c1, .slice p2 a0_p.has.length c2, .slice p3 a0_p.acked.length c3, .slice p4 a0_p.hashes.length c4, .bool a0_p.split] 26, blk b2 [.int .i64 a1_a.act, .slice p5 a1_a.l.length c5, .int .i64 a1_a.n.frm, .int .i64 a1_a.n.dst, .int .i64 a1_a.n.input.turn, .int .i64 a1_a.n.input.player, .slice p6 a1_a.n.input.commands.length c6, .int .i64 a1_a.n.don, .int .u64 (a1_a.n.hash.toNat : Int), .int .i64 a1_a.n.hav, .bool a1_a.fit, .int .u64 (a1_a.h.toNat : Int)] 46, blk b3 [.int .i64 0, .int .i64 0, .int .i64 0, .int .i64 0, .int .i64 0, .slice none 0 0, .slice none 0 0, .slice none 0 0, .slice none 0 0, .slice none 0 0, .bool false] 26, drow 41 (rowV q5 x4.mine.length) x4.mine, drow 41 (rowV q6 x4.inputs.length) x4.inputs, row nilH 3 (rowV q7 x4.has.length) x4.has, row nilH 3 (rowV q8 x4.acked.length) x4.acked, row nilH 42 (rowV q9 x4.hashes.length) x4.hashes, blk b10 [.int .i64 x4.id, .int .i64 x4.players, .int .i64 x4.delay, .int .i64 x4.turn, .int .i64 x4.said, rowV q5 x4.mine.length, rowV q6 x4.inputs.length, rowV q7 x4.has.length, rowV q8 x4.acked.length, rowV q9 x4.hashes.length, .bool x4.split] 26, blk b12 [.int .i64 v114, .int .i64 v115, .int .i64 v116, .int .i64 v117, .int .i64 v118, .slice q121 v120.length q122, .slice q124 v123.length q125, .slice q127 v126.length q128, .slice q130 v129.length q131, .slice q133 v132.length q134, .bool v119] 26, blk b13 [.int .i64 0, .int .i64 0, .int .i64 0, .int .i64 0, .int .i64 0, .slice none 0 0, .slice none 0 0, .slice none 0 0, .slice none 0 0, .slice none 0 0, .bool false] 26, drow 88 (rowV q110 x109.input.commands.length) x109.input.commands, blk b111 [.int .i64 x109.frm, .int .i64 x109.dst, .int .i64 x109.input.turn, .int .i64 x109.input.player, rowV q110 x109.input.commands.length, .int .i64 x109.don, .int .u64 (x109.hash.toNat : Int), .int .i64 x109.hav] 44, dat B (v120 : List Inp) [.slice q121 v120.length q122], dat B (v123 : List Inp) [.slice q124 v123.length q125], dat B (v126 : List Int) [.slice q127 v126.length q128], dat B (v129 : List Int) [.slice q130 v129.length q131], dat B (v132 : List UInt64) [.slice q133 v132.length q134]]) ?_ ?_
    ·rintro ⟨v113, v114, v115, v116, v117, v118, v119, v120, v123, v126, v129, v132⟩ ⟨q121, q122, q124, q125, q127, q128, q130, q131, q133, q134⟩ H
     try dsimp only [Ex.then] at H
     refine Cont.conseq (fr' := [(9, _), (2, _), (4, _), (6, _), (8, _), (10, _), (12, _)]) ?_ ⟨rfl, rfl, rfl, rfl, rfl, rfl, rfl, trivial⟩ (fun _ s => s)
     refine id (hK20 _ _ ?_)
     refine T.seq fun K22 hK22 => ?_
     try dsimp only [List.set, List.cons_append, List.nil_append]
     refine T.region (rq (Qt.ldBA (us := [_, _, _, _, _, _, _, _]) 12 ty44 rfl rfl rfl rfl) ?_)
     obtain ⟨x135, hx135, H⟩ := bindE H
     refine RS.solid (Sd.callN (vs := [.agg #[.int .i64 x109.frm, .int .i64 x109.dst, .int .i64 x109.input.turn, .int .i64 x109.input.player, rowV q110 x109.input.commands.length, .int .i64 x109.don, .int .u64 (x109.hash.toNat : Int), .int .i64 x109.hav]]) ent30 rfl (fun w s => throngref0_CopyNote_walk x109 w ((Rd.ofG 11 rfl) w s) hx135)) rfl rfl fun q136 => RS.solid (Sd.alloc zr44 rfl) rfl rfl fun b137 => RS.solid (Sd.stB (cs' := [_, _, _, _, _, _, _, _]) 19 ty44 rfl rfl rfl rfl rfl rfl rfl rfl) rfl rfl fun _ => RS.nil (hK22 _ _ ?_)
     refine T.seq fun K23 hK23 => ?_
     try dsimp only [List.set, List.cons_append, List.nil_append]
     refine T.region (rq (Qt.ldBA (us := [_, _, _, _, _, _, _, _, _, _, _]) 8 ty26 rfl rfl rfl rfl) (rq (Qt.ldBA (us := [_, _, _, _, _, _, _, _]) 19 ty44 rfl rfl rfl rfl) ?_))
     obtain ⟨x138, hx138, H⟩ := bindE H
     refine RS.solid (Sd.callN (vs := [.agg #[.int .i64 x4.id, .int .i64 x4.players, .int .i64 x4.delay, .int .i64 x4.turn, .int .i64 x4.said, rowV q5 x4.mine.length, rowV q6 x4.inputs.length, rowV q7 x4.has.length, rowV q8 x4.acked.length, rowV q9 x4.hashes.length, .bool x4.split], .agg #[.int .i64 x135.frm, .int .i64 x135.dst, .int .i64 x135.input.turn, .int .i64 x135.input.player, rowV q136 x135.input.commands.length, .int .i64 x135.don, .int .u64 (x135.hash.toNat : Int), .int .i64 x135.hav]]) ent31 rfl (fun w s => peer_Take_walk x4 x135 w ((Rd.ofG 3 rfl) w s) ((Rd.ofG 4 rfl) w s) ((Rd.ofRowN 5 rfl) w s) ((Rd.ofRowN 6 rfl) w s) ((Rd.ofRowN 7 rfl) w s) ((Rd.ofG 18 rfl) w s) hx138)) rfl rfl fun ⟨q139, q140, q141, q142, q143⟩ => ?_
     refine rM rfl (rp (Pu.extract rfl rfl) (rp (Pu.extract rfl rfl) (RS.solid (Sd.stB (cs' := [_, _, _, _, _, _, _, _, _, _, _]) 10 ty26 rfl rfl rfl rfl rfl rfl rfl rfl) rfl rfl fun _ => rA rfl (RS.nil (hK23 _ _ (cq [(2, _), (4, _), (6, _), (8, _), (9, _), (10, _), (11, _), (12, _), (13, _)] ?_))))))
     refine T.seq fun K24 hK24 => T.seq fun K25 hK25 => ?_
     try dsimp only [List.set, List.cons_append, List.nil_append]
     refine T.region (rq (Qt.ldBA (us := [_, _, _, _, _, _, _, _]) 19 ty44 rfl rfl rfl rfl) (rq (Qt.ldBA (us := [_, _, _, _, _, _, _, _]) 12 ty44 rfl rfl rfl rfl) ?_))
     obtain ⟨x144, hx144, H⟩ := bindE H
     refine rq (Qt.call (vs := [.agg #[.int .i64 x135.frm, .int .i64 x135.dst, .int .i64 x135.input.turn, .int .i64 x135.input.player, rowV q136 x135.input.commands.length, .int .i64 x135.don, .int .u64 (x135.hash.toNat : Int), .int .i64 x135.hav], .agg #[.int .i64 x109.frm, .int .i64 x109.dst, .int .i64 x109.input.turn, .int .i64 x109.input.player, rowV q110 x109.input.commands.length, .int .i64 x109.don, .int .u64 (x109.hash.toNat : Int), .int .i64 x109.hav]]) ent32 rfl fun w s => throngref0_EqNote_walk x135 x109 w ((Rd.ofG 18 rfl) w s) ((Rd.ofG 11 rfl) w s) hx144) (rp (Pu.not rfl) (RS.nil (hK25 _ _ ?_)))
     refine T.cond rfl (fun hc145 => ?_) (fun hc145 => ?_)
     ·have H := ifT hc145 H
      refine cq [(2, _), (4, _)] ?_
      refine T.seq fun K26 hK26 => ?_
      try dsimp only [List.set, List.cons_append, List.nil_append]
      refine T.region (rq (Qt.ldBA (us := [_, _, _, _, _, _, _, _, _, _, _]) 0 ty26 rfl rfl rfl rfl) (RS.solid (Sd.stB (cs' := [_, _, _, _, _, _, _, _, _, _, _]) 2 ty26 rfl rfl rfl rfl rfl rfl rfl rfl) rfl rfl fun _ => rA rfl (RS.nil (hK26 _ _ ?_))))
      obtain rfl := sj H
      have H := HX15
      obtain rfl := sj H
      try dsimp only [List.set, List.cons_append, List.nil_append]
      refine T.rt (Cont.retCT 2 rfl ty26 rfl rfl rfl rfl fun w' s => ?_)
      exact ⟨⟨(.slice p0 a0_p.mine.length c0), (.slice p1 a0_p.inputs.length c1), (.slice p2 a0_p.has.length c2), (.slice p3 a0_p.acked.length c3), (.slice p4 a0_p.hashes.length c4)⟩, rfl, (Sat.baseDat (B := B) hB (Sat.baseDat (B := B) hB (Sat.baseDat (B := B) hB (Sat.baseDat (B := B) hB (Sat.baseDat (B := B) hB s h0) h1) h2) h3) h4).pick [25, 26, 27, 28, 29] (by decide) rfl⟩
     ·have H := ifB hc145 H
      refine T.skip (hK24 _ _ (cq [(2, _), (4, _), (6, _), (8, _), (9, _), (10, _), (11, _), (13, _)] ?_))
      try dsimp only [List.set, List.cons_append, List.nil_append]
      refine T.region (rp (Pu.fieldAddr fd44_2 rfl) (rp (Pu.fieldAddr fd41_2 rfl) (rq (Qt.ldB 19 ty39 rfl rfl rfl) ?_)))
      obtain ⟨x146, hx146, H⟩ := bindE H
      refine RS.solid (Sd.callF0 (vs := [rowV q136 x135.input.commands.length]) (C' := dead) (v := .tuple #[]) 18 ent33 rfl rfl (fun w s => thronglaw0_Commands_walk x135.input.commands rfl  hx146 w s)) rfl rfl fun _ => ?_
      obtain rfl := sj H
      refine RS.nil (hJ15 _ _ (v113, x138.2, v114, v115, v116, v117, v118, v119, x138.1.id, x138.1.players, x138.1.delay, x138.1.turn, x138.1.said, x138.1.split, v120, v123, v126, v129, v132, x138.1.mine, x138.1.inputs, x138.1.has, x138.1.acked, x138.1.hashes) (q121, q122, q124, q125, q127, q128, q130, q131, q133, q134, q139, q140, q141, q142, (q143.1.map fun g => (⟨g, 0, none⟩ : Addr)), q143.2) HX15 ⟨rfl, rfl, rfl, rfl, rfl, trivial⟩ ⟨rfl, rfl, trivial⟩ (fun w s => (Sat.rowOsl (q := q143) (m := x138.1.hashes.length) 24 s rfl).pick [0, 1, 2, 3, 4, 5, 6, 7, 8, 9, 10, 13, 14, 15, 16, 17, 20, 21, 22, 23, 24] (by decide) rfl))
    ·intro z112 H HX112 hJ112
     refine T.cond rfl (fun hc147 => ?_) (fun hc147 => ?_)
     ·have H := ifT hc147 H
      refine cq [(2, _), (4, _), (6, _), (8, _), (10, _), (12, _)] ?_
      try dsimp only [List.set, List.cons_append, List.nil_append]
      refine T.region (rq (Qt.ldBA (us := [_, _, _, _, _, _, _, _, _, _, _]) 0 ty26 rfl rfl rfl rfl) (rq (Qt.ldBA (us := [_, _, _, _, _, _, _, _]) 12 ty44 rfl rfl rfl rfl) ?_))
      obtain ⟨x148, hx148, H⟩ := bindE H
      refine RS.solid (Sd.callN (vs := [.agg #[.int .i64 a0_p.id, .int .i64 a0_p.players, .int .i64 a0_p.delay, .int .i64 a0_p.turn, .int .i64 a0_p.said, .slice p0 a0_p.mine.length c0, .slice p1 a0_p.inputs.length c1, .slice p2 a0_p.has.length c2, .slice p3 a0_p.acked.length c3, .slice p4 a0_p.hashes.length c4, .bool a0_p.split], .agg #[.int .i64 x109.frm, .int .i64 x109.dst, .int .i64 x109.input.turn, .int .i64 x109.input.player, rowV q110 x109.input.commands.length, .int .i64 x109.don, .int .u64 (x109.hash.toNat : Int), .int .i64 x109.hav]]) ent29 rfl (fun w s => throngref27_TakeNote_walk a0_p x109 w (B) (Hp.le_trans hB s.ext.hp) (h0) (h1) (h2) (h3) (h4) ((Rd.ofG 11 rfl) w s) hx148)) rfl rfl fun ⟨u149, u150, u151, u152, u153⟩ => ?_
      refine RS.know (p := ∃ p c, u149 = .slice p x148.1.mine.length c) (fun w s => Sat.dat_form (k := 13) s rfl) ?_
      rintro ⟨p154, cc155, rfl⟩
      refine RS.know (p := ∃ p c, u150 = .slice p x148.1.inputs.length c) (fun w s => Sat.dat_form (k := 14) s rfl) ?_
      rintro ⟨p156, cc157, rfl⟩
      refine RS.know (p := ∃ p c, u151 = .slice p x148.1.has.length c) (fun w s => Sat.dat_form (k := 15) s rfl) ?_
      rintro ⟨p158, cc159, rfl⟩
      refine RS.know (p := ∃ p c, u152 = .slice p x148.1.acked.length c) (fun w s => Sat.dat_form (k := 16) s rfl) ?_
      rintro ⟨p160, cc161, rfl⟩
      refine RS.know (p := ∃ p c, u153 = .slice p x148.1.hashes.length c) (fun w s => Sat.dat_form (k := 17) s rfl) ?_
      rintro ⟨p162, cc163, rfl⟩
      refine rM rfl (rp (Pu.extract rfl rfl) (rp (Pu.extract rfl rfl) (RS.solid (Sd.stB (cs' := [_, _, _, _, _, _, _, _, _, _, _]) 9 ty26 rfl rfl rfl rfl rfl rfl rfl rfl) rfl rfl fun _ => rA rfl ?_)))
      obtain rfl := sj H
      refine RS.nil (hJ112 _ _ (x148.2, x148.1.id, x148.1.players, x148.1.delay, x148.1.turn, x148.1.said, x148.1.split, x148.1.mine, x148.1.inputs, x148.1.has, x148.1.acked, x148.1.hashes) (p154, cc155, p156, cc157, p158, cc159, p160, cc161, p162, cc163) HX112 ⟨rfl, rfl, rfl, rfl, rfl, rfl, trivial⟩ ⟨rfl, trivial⟩ (fun w s => s))
     ·have H := ifB hc147 H
      obtain rfl := sj H
      refine T.skip (hJ112 _ _ (1, 0, 0, 0, 0, 0, false, [], [], [], [], []) (none, 0, none, 0, none, 0, none, 0, none, 0) HX112 ⟨rfl, rfl, rfl, rfl, rfl, rfl, trivial⟩ ⟨rfl, trivial⟩ (fun w s => (Sat.baseDat (B := B) (xs := ([] : List UInt64)) (v := .slice none 0 0) hB (Sat.baseDat (B := B) (xs := ([] : List Int)) (v := .slice none 0 0) hB (Sat.baseDat (B := B) (xs := ([] : List Int)) (v := .slice none 0 0) hB (Sat.baseDat (B := B) (xs := ([] : List Inp)) (v := .slice none 0 0) hB (Sat.baseDat (B := B) (xs := ([] : List Inp)) (v := .slice none 0 0) hB s ⟨none, 0, rfl, by simp, by decide, .inl rfl⟩) ⟨none, 0, rfl, by simp, by decide, .inl rfl⟩) ⟨none, 0, rfl, by simp, by decide, .inl rfl⟩) ⟨none, 0, rfl, by simp, by decide, .inl rfl⟩) ⟨none, 0, rfl, by simp, by decide, .inl rfl⟩).pick [0, 1, 2, 3, 4, 5, 6, 7, 8, 9, 10, 11, 12, 13, 14, 15, 16, 17] (by decide) rfl))
   ·have H := ifB hc108 H
    refine T.seq fun K27 hK27 => ?_
    try dsimp only [List.set, List.cons_append, List.nil_append]
    refine T.region (rp (Pu.bin rfl rfl rfl) (rA rfl (RS.nil (hK27 _ _ ?_))))
    refine T.condP rfl (fun hc164 => ?_) (fun hc164 => ?_)
    ·have H := ifT hc164 H
     refine cq [(2, _), (4, _), (6, _), (7, _), (9, _)] ?_
     refine T.seq fun K28 hK28 => T.region (rA rfl (RS.nil (hK28 _ _ ?_)))
     refine T.seq fun K29 hK29 => T.seq fun K30 hK30 => T.region (rM rfl (RS.nil (hK30 _ _ ?_)))
     refine T.joinE (σ := Int × List Nte) (γ := (Option Nat × Nat)) H (fun s => s) [(2, _), (4, _), (6, _)] ⟨rfl, rfl, rfl, trivial⟩ (fun (v166, v167) q168 => [(9, .int .i64 v166), (14, rowV q168 v167.length)]) (fun (v166, v167) q168 => Sat w [blk b1 [.int .i64 a0_p.id, .int .i64 a0_p.players, .int .i64 a0_p.delay, .int .i64 a0_p.turn, .int .i64 a0_p.said, .slice p0 a0_p.mine.length c0, .slice p1 a0_p.inputs.length c1, .slice p2 a0_p.has.length c2, .slice p3 a0_p.acked.length c3, .slice p4 a0_p.hashes.length c4, .bool a0_p.split] 26, blk b2 [.int .i64 a1_a.act, .slice p5 a1_a.l.length c5, .int .i64 a1_a.n.frm, .int .i64 a1_a.n.dst, .int .i64 a1_a.n.input.turn, .int .i64 a1_a.n.input.player, .slice p6 a1_a.n.input.commands.length c6, .int .i64 a1_a.n.don, .int .u64 (a1_a.n.hash.toNat : Int), .int .i64 a1_a.n.hav, .bool a1_a.fit, .int .u64 (a1_a.h.toNat : Int)] 46, blk b3 [.int .i64 0, .int .i64 0, .int .i64 0, .int .i64 0, .int .i64 0, .slice none 0 0, .slice none 0 0, .slice none 0 0, .slice none 0 0, .slice none 0 0, .bool false] 26, drow 41 (rowV q5 x4.mine.length) x4.mine, drow 41 (rowV q6 x4.inputs.length) x4.inputs, row nilH 3 (rowV q7 x4.has.length) x4.has, row nilH 3 (rowV q8 x4.acked.length) x4.acked, row nilH 42 (rowV q9 x4.hashes.length) x4.hashes, blk b10 [.int .i64 x4.id, .int .i64 x4.players, .int .i64 x4.delay, .int .i64 x4.turn, .int .i64 x4.said, rowV q5 x4.mine.length, rowV q6 x4.inputs.length, rowV q7 x4.has.length, rowV q8 x4.acked.length, rowV q9 x4.hashes.length, .bool x4.split] 26, blk b12 [.int .i64 0, .int .i64 0, .int .i64 0, .int .i64 0, .int .i64 0, .slice none 0 0, .slice none 0 0, .slice none 0 0, .slice none 0 0, .slice none 0 0, .bool false] 26, blk b13 [.int .i64 0, .int .i64 0, .int .i64 0, .int .i64 0, .int .i64 0, .slice none 0 0, .slice none 0 0, .slice none 0 0, .slice none 0 0, .slice none 0 0, .bool false] 26, drow 44 (rowV q168 v167.length) v167]) ?_ ?_
     ·rintro ⟨v166, v167⟩ q168 H
      try dsimp only [Ex.then] at H
      refine Cont.conseq (fr' := [(9, _), (14, _), (2, _), (4, _), (6, _)]) ?_ ⟨rfl, rfl, rfl, rfl, rfl, trivial⟩ (fun _ s => s)
      refine id (hK29 _ _ ?_)
      refine T.seq fun K31 hK31 => ?_
      try dsimp only [List.set, List.cons_append, List.nil_append]
      refine T.region (rq (Qt.ldBA (us := [_, _, _, _, _, _, _, _, _, _, _]) 8 ty26 rfl rfl rfl rfl) ?_)
      obtain ⟨x169, hx169, H⟩ := bindE H
      refine RS.solid (Sd.callN (vs := [.agg #[.int .i64 x4.id, .int .i64 x4.players, .int .i64 x4.delay, .int .i64 x4.turn, .int .i64 x4.said, rowV q5 x4.mine.length, rowV q6 x4.inputs.length, rowV q7 x4.has.length, rowV q8 x4.acked.length, rowV q9 x4.hashes.length, .bool x4.split]]) ent35 rfl (fun w s => peer_Notes_walk x4 w ((Rd.ofG 3 rfl) w s) ((Rd.ofG 4 rfl) w s) ((Rd.ofRowN 5 rfl) w s) ((Rd.ofRowN 6 rfl) w s) ((Rd.ofRowN 7 rfl) w s) hx169)) rfl rfl fun q170 => rM rfl (rp (Pu.extract rfl rfl) (rp (Pu.extract rfl rfl) (rA rfl (rA rfl (RS.nil (hK31 _ _ (cq [(2, _), (4, _), (6, _), (9, _), (14, _), (15, _), (16, _)] ?_)))))))
      refine T.seq fun K32 hK32 => ?_
      try dsimp only [List.set, List.cons_append, List.nil_append]
      refine T.region (rM rfl ?_)
      obtain ⟨x171, hx171, H⟩ := bindE H
      refine rq (Qt.call (vs := [.int .i64 x169.2]) ent13 rfl fun w s => thronglaw28_num_walk x169.2 w  hx171) (rM rfl (rp (Pu.bin rfl rfl rfl) (rM rfl ?_)))
      refine RS.joinB H 4 110 (fun b174 => .bool b174) [(2, _), (4, _), (6, _), (15, _)] ⟨rfl, rfl, rfl, rfl, trivial⟩ ?_ ?_
      ·intro b174 H
       refine rM rfl ?_
       refine RS.joinB H 4 115 (fun b177 => .bool b177) [(2, _), (4, _), (6, _), (15, _)] ⟨rfl, rfl, rfl, rfl, trivial⟩ ?_ ?_
       ·intro b177 H
        refine rA rfl (RS.nil (hK32 _ _ ?_))
        refine T.seq fun K33 hK33 => ?_
        try dsimp only [List.set, List.cons_append, List.nil_append]
        refine T.region (rM rfl ?_)
        obtain ⟨x178, hx178, H⟩ := bindE H
        refine RS.solid (Sd.callF0 (vs := [rowV q170 x169.1.length]) (C' := dead) (v := .tuple #[]) 12 ent38 rfl rfl (fun w s => thronglaw0_Notes_walk x169.1 rfl  hx178 w s)) rfl rfl fun _ => RS.nil (hK33 _ _ (cq [(2, _), (4, _), (6, _), (17, _)] ?_))
        refine T.seq fun K34 hK34 => ?_
        try dsimp only [List.set, List.cons_append, List.nil_append]
        refine T.weakS (S' := Sat w [blk b1 [.int .i64 a0_p.id, .int .i64 a0_p.players, .int .i64 a0_p.delay, .int .i64 a0_p.turn, .int .i64 a0_p.said, .slice p0 a0_p.mine.length c0, .slice p1 a0_p.inputs.length c1, .slice p2 a0_p.has.length c2, .slice p3 a0_p.acked.length c3, .slice p4 a0_p.hashes.length c4, .bool a0_p.split] 26, blk b2 [.int .i64 a1_a.act, .slice p5 a1_a.l.length c5, .int .i64 a1_a.n.frm, .int .i64 a1_a.n.dst, .int .i64 a1_a.n.input.turn, .int .i64 a1_a.n.input.player, .slice p6 a1_a.n.input.commands.length c6, .int .i64 a1_a.n.don, .int .u64 (a1_a.n.hash.toNat : Int), .int .i64 a1_a.n.hav, .bool a1_a.fit, .int .u64 (a1_a.h.toNat : Int)] 46, blk b3 [.int .i64 0, .int .i64 0, .int .i64 0, .int .i64 0, .int .i64 0, .slice none 0 0, .slice none 0 0, .slice none 0 0, .slice none 0 0, .slice none 0 0, .bool false] 26, drow 41 (rowV q5 x4.mine.length) x4.mine, drow 41 (rowV q6 x4.inputs.length) x4.inputs, row nilH 3 (rowV q7 x4.has.length) x4.has, row nilH 3 (rowV q8 x4.acked.length) x4.acked, row nilH 42 (rowV q9 x4.hashes.length) x4.hashes, blk b10 [.int .i64 x4.id, .int .i64 x4.players, .int .i64 x4.delay, .int .i64 x4.turn, .int .i64 x4.said, rowV q5 x4.mine.length, rowV q6 x4.inputs.length, rowV q7 x4.has.length, rowV q8 x4.acked.length, rowV q9 x4.hashes.length, .bool x4.split] 26, blk b12 [.int .i64 0, .int .i64 0, .int .i64 0, .int .i64 0, .int .i64 0, .slice none 0 0, .slice none 0 0, .slice none 0 0, .slice none 0 0, .slice none 0 0, .bool false] 26, blk b13 [.int .i64 0, .int .i64 0, .int .i64 0, .int .i64 0, .int .i64 0, .slice none 0 0, .slice none 0 0, .slice none 0 0, .slice none 0 0, .slice none 0 0, .bool false] 26, drow 44 (rowV q168 v167.length) v167, dead]) (fun w s => s) ?_
        refine T.drawnS [0, 1, 3, 4, 5, 6, 7, 8, 9, 10, 11, 12] [(0, .rd), (1, .pu), (2, .pu), (3, .wk), (4, .wk), (5, .rd), (6, .pu), (7, .br), (8, .pu)] mixed (by kernel_rfl) rfl ?_
        refine RD.q (fun w s => s.pick [0, 1, 3, 4, 5, 6, 7, 8, 9, 10, 11, 12] (by decide) rfl) rfl (Qt.ldBA (us := [_, _, _, _, _, _, _, _, _, _, _]) 0 ty26 rfl rfl rfl rfl) rfl rfl (RD.p (fun w s => s.pick [0, 1, 3, 4, 5, 6, 7, 8, 9, 10, 11, 12] (by decide) rfl) rfl (Pu.move rfl) rfl rfl (RD.p (fun w s => s.pick [0, 1, 3, 4, 5, 6, 7, 8, 9, 10, 11, 12] (by decide) rfl) rfl (Pu.move rfl) rfl rfl ?_))
        refine RD.joinB H 4 124 (fun b181 => .bool b181) [(4, _), (118, _)] ⟨rfl, rfl, trivial⟩ ?_ ?_
        ·intro b181 H
         refine RD.solid rfl (.inr rfl) rfl rfl (Sd.stB (cs' := [_, _, _, _, _, _, _, _, _, _, _]) 2 ty26 rfl rfl rfl rfl rfl rfl rfl rfl) (fun _ => ClE.sat _ _) (fun _ w s => s.pick [0, 1, 3, 4, 5, 6, 7, 8, 9, 10, 11, 12] (by decide) rfl) (fun h => nomatch h) fun _ => ?_
         refine RD.p (fun w s => s.pick [0, 1, 3, 4, 5, 6, 7, 8, 9, 10, 11, 12] (by decide) rfl) rfl (Pu.assign rfl) rfl rfl (RD.nil (hK34 _ _ ?_))
         obtain rfl := sj H
         have H := HX15
         obtain rfl := sj H
         try dsimp only [List.set, List.cons_append, List.nil_append]
         refine T.rt (Cont.retCT 2 rfl ty26 rfl rfl rfl rfl fun w' s => ?_)
         exact ⟨⟨(.slice p0 a0_p.mine.length c0), (.slice p1 a0_p.inputs.length c1), (.slice p2 a0_p.has.length c2), (.slice p3 a0_p.acked.length c3), (.slice p4 a0_p.hashes.length c4)⟩, rfl, (Sat.baseDat (B := B) hB (Sat.baseDat (B := B) hB (Sat.baseDat (B := B) hB (Sat.baseDat (B := B) hB (Sat.baseDat (B := B) hB s h0) h1) h2) h3) h4).pick [13, 14, 15, 16, 17] (by decide) rfl⟩
        ·intro z182 H hJ180
         refine RD.split 120 rfl (fun hc179 => ?_) (fun hc179 => ?_)
         ·have H := ifT hc179 H
          refine RD.w (fun w s => s.pick [0, 1, 3, 4, 5, 6, 7, 8, 9, 10, 11, 12] (by decide) rfl) rfl (Qt.ldBA (us := [_, _, _, _, _, _, _, _, _, _, _]) 7 ty26 rfl rfl rfl rfl) rfl rfl ?_
          refine RD.w (fun w s => s.pick [0, 1, 3, 4, 5, 6, 7, 8, 9, 10, 11, 12] (by decide) rfl) rfl (Qt.ldBA (us := [_, _, _, _, _, _, _, _, _, _, _]) 0 ty26 rfl rfl rfl rfl) rfl rfl ?_
          obtain ⟨x183, hx183, H⟩ := bindE H
          refine RD.q (fun w s => s.pick [0, 1, 3, 4, 5, 6, 7, 8, 9, 10, 11, 12] (by decide) rfl) rfl (Qt.call (vs := [.agg #[.int .i64 x4.id, .int .i64 x4.players, .int .i64 x4.delay, .int .i64 x4.turn, .int .i64 x4.said, rowV q5 x4.mine.length, rowV q6 x4.inputs.length, rowV q7 x4.has.length, rowV q8 x4.acked.length, rowV q9 x4.hashes.length, .bool x4.split], .agg #[.int .i64 a0_p.id, .int .i64 a0_p.players, .int .i64 a0_p.delay, .int .i64 a0_p.turn, .int .i64 a0_p.said, .slice p0 a0_p.mine.length c0, .slice p1 a0_p.inputs.length c1, .slice p2 a0_p.has.length c2, .slice p3 a0_p.acked.length c3, .slice p4 a0_p.hashes.length c4, .bool a0_p.split]]) ent37 rfl fun w s => throngref0_EqPeer_walk x4 a0_p w ((Rd.ofG 3 rfl) w s) ((Rd.ofG 4 rfl) w s) ((Rd.ofRowN 5 rfl) w s) ((Rd.ofRowN 6 rfl) w s) ((Rd.ofRowN 7 rfl) w s) ((Rd.base hb0) w s) ((Rd.base hb1) w s) ((Rd.base hb2) w s) ((Rd.base hb3) w s) ((Rd.base hb4) w s) hx183) rfl rfl (RD.p (fun w s => s.pick [0, 1, 3, 4, 5, 6, 7, 8, 9, 10, 11, 12] (by decide) rfl) rfl (Pu.pickT rfl rfl) rfl rfl ?_)
          obtain rfl := sj H
          exact hJ180 _ ⟨rfl, rfl, rfl, trivial⟩
         ·have H := ifB hc179 H
          refine RD.no (fun w s => s.pick [0, 1, 3, 4, 5, 6, 7, 8, 9, 10, 11, 12] (by decide) rfl) rfl rfl rfl (.inr (.inl rfl)) (RD.no (fun w s => s.pick [0, 1, 3, 4, 5, 6, 7, 8, 9, 10, 11, 12] (by decide) rfl) rfl rfl rfl (.inr (.inl rfl)) (RD.no (fun w s => s.pick [0, 1, 3, 4, 5, 6, 7, 8, 9, 10, 11, 12] (by decide) rfl) rfl rfl rfl (.inr (.inr rfl)) (RD.p (fun w s => s.pick [0, 1, 3, 4, 5, 6, 7, 8, 9, 10, 11, 12] (by decide) rfl) rfl (Pu.pickF rfl rfl) rfl rfl ?_)))
          obtain rfl := sj H
          exact hJ180 _ ⟨rfl, rfl, rfl, trivial⟩
       ·intro z184 H hJ176
        refine RS.split 111 rfl (fun hc175 => ?_) (fun hc175 => ?_)
        ·have H := ifT hc175 H
         refine rq (Qt.ldBA (us := [_, _, _, _, _, _, _, _, _, _, _]) 8 ty26 rfl rfl rfl rfl) (rq (Qt.ldBA (us := [_, _, _, _, _, _, _, _, _, _, _]) 0 ty26 rfl rfl rfl rfl) ?_)
         obtain ⟨x185, hx185, H⟩ := bindE H
         refine rq (Qt.call (vs := [.agg #[.int .i64 x4.id, .int .i64 x4.players, .int .i64 x4.delay, .int .i64 x4.turn, .int .i64 x4.said, rowV q5 x4.mine.length, rowV q6 x4.inputs.length, rowV q7 x4.has.length, rowV q8 x4.acked.length, rowV q9 x4.hashes.length, .bool x4.split], .agg #[.int .i64 a0_p.id, .int .i64 a0_p.players, .int .i64 a0_p.delay, .int .i64 a0_p.turn, .int .i64 a0_p.said, .slice p0 a0_p.mine.length c0, .slice p1 a0_p.inputs.length c1, .slice p2 a0_p.has.length c2, .slice p3 a0_p.acked.length c3, .slice p4 a0_p.hashes.length c4, .bool a0_p.split]]) ent37 rfl fun w s => throngref0_EqPeer_walk x4 a0_p w ((Rd.ofG 3 rfl) w s) ((Rd.ofG 4 rfl) w s) ((Rd.ofRowN 5 rfl) w s) ((Rd.ofRowN 6 rfl) w s) ((Rd.ofRowN 7 rfl) w s) ((Rd.base hb0) w s) ((Rd.base hb1) w s) ((Rd.base hb2) w s) ((Rd.base hb3) w s) ((Rd.base hb4) w s) hx185) (rp (Pu.pickT rfl rfl) ?_)
         obtain rfl := sj H
         exact hJ176 _ _ ⟨rfl, rfl, rfl, rfl, rfl, trivial⟩ (fun w s => s)
        ·have H := ifB hc175 H
         refine ro (ro (ro (rp (Pu.pickF rfl rfl) ?_)))
         obtain rfl := sj H
         exact hJ176 _ _ ⟨rfl, rfl, rfl, rfl, rfl, trivial⟩ (fun w s => s)
      ·intro z186 H hJ173
       refine RS.splitP 106 rfl (fun hc172 => ?_) (fun hc172 => ?_)
       ·have H := ifT hc172 H
        refine rM rfl (rM rfl ?_)
        obtain ⟨x187, hx187, H⟩ := bindE H
        refine rq (Qt.call (vs := [rowV q170 x169.1.length, rowV q168 v167.length]) ent36 rfl fun w s => throngref0_EqNotes_walk x169.1 v167 w ((Rd.ofG 12 rfl) w s) ((Rd.ofG 11 rfl) w s) hx187) (rp (Pu.pickT rfl rfl) ?_)
        obtain rfl := sj H
        exact hJ173 _ _ ⟨rfl, rfl, rfl, rfl, rfl, trivial⟩ (fun w s => s)
       ·have H := ifF hc172 H
        refine ro (ro (ro (rp (Pu.pickF rfl rfl) ?_)))
        obtain rfl := sj H
        exact hJ173 _ _ ⟨rfl, rfl, rfl, rfl, rfl, trivial⟩ (fun w s => s)
     ·intro z165 H HX165 hJ165
      refine T.cond rfl (fun hc188 => ?_) (fun hc188 => ?_)
      ·have H := ifT hc188 H
       refine cq [(2, _), (4, _), (6, _)] ?_
       try dsimp only [List.set, List.cons_append, List.nil_append]
       refine T.region (rq (Qt.ldBA (us := [_, _, _, _, _, _, _, _, _, _, _]) 0 ty26 rfl rfl rfl rfl) ?_)
       obtain ⟨x189, hx189, H⟩ := bindE H
       refine RS.solid (Sd.callN (vs := [.agg #[.int .i64 a0_p.id, .int .i64 a0_p.players, .int .i64 a0_p.delay, .int .i64 a0_p.turn, .int .i64 a0_p.said, .slice p0 a0_p.mine.length c0, .slice p1 a0_p.inputs.length c1, .slice p2 a0_p.has.length c2, .slice p3 a0_p.acked.length c3, .slice p4 a0_p.hashes.length c4, .bool a0_p.split]]) ent34 rfl (fun w s => throngref27_Notes_walk a0_p w ((Rd.base hb0) w s) ((Rd.base hb1) w s) ((Rd.base hb2) w s) ((Rd.base hb3) w s) ((Rd.base hb4) w s) hx189)) rfl rfl fun q190 => rA rfl (rA rfl ?_)
       obtain rfl := sj H
       refine RS.nil (hJ165 _ _ (0, x189) q190 HX165 ⟨rfl, rfl, rfl, trivial⟩ ⟨rfl, rfl, trivial⟩ (fun w s => s))
      ·have H := ifB hc188 H
       obtain rfl := sj H
       refine T.skip (hJ165 _ _ (1, []) (none, 0) HX165 ⟨rfl, rfl, rfl, trivial⟩ ⟨rfl, rfl, trivial⟩ (fun w s => (s.nilRowG (α := Nte) 44).pick [0, 1, 2, 3, 4, 5, 6, 7, 8, 9, 10, 11] (by decide) rfl))
    ·have H := ifF hc164 H
     refine cq [(2, _), (3, _), (4, _), (6, _), (7, _), (8, _), (9, _), (10, _), (35, _)] ?_
     refine T.seq fun K35 hK35 => ?_
     try dsimp only [List.set, List.cons_append, List.nil_append]
     refine T.region (rp (Pu.bin rfl rfl rfl) (rA rfl (RS.nil (hK35 _ _ ?_))))
     refine T.condP rfl (fun hc191 => ?_) (fun hc191 => ?_)
     ·have H := ifT hc191 H
      refine cq [(2, _), (4, _), (6, _), (7, _), (9, _)] ?_
      refine T.seq fun K36 hK36 => T.region (rA rfl (RS.nil (hK36 _ _ ?_)))
      refine T.seq fun K37 hK37 => T.region (rA rfl (RS.nil (hK37 _ _ ?_)))
      refine T.seq fun K38 hK38 => T.seq fun K39 hK39 => T.region (rM rfl (RS.nil (hK39 _ _ ?_)))
      refine T.joinE (σ := Int × Bool × List Cmd) (γ := (Option Nat × Nat)) H (fun s => s) [(2, _), (4, _), (6, _)] ⟨rfl, rfl, rfl, trivial⟩ (fun (v193, v194, v195) q196 => [(9, .int .i64 v193), (18, rowV q196 v195.length), (19, .bool v194)]) (fun (v193, v194, v195) q196 => Sat w [blk b1 [.int .i64 a0_p.id, .int .i64 a0_p.players, .int .i64 a0_p.delay, .int .i64 a0_p.turn, .int .i64 a0_p.said, .slice p0 a0_p.mine.length c0, .slice p1 a0_p.inputs.length c1, .slice p2 a0_p.has.length c2, .slice p3 a0_p.acked.length c3, .slice p4 a0_p.hashes.length c4, .bool a0_p.split] 26, blk b2 [.int .i64 a1_a.act, .slice p5 a1_a.l.length c5, .int .i64 a1_a.n.frm, .int .i64 a1_a.n.dst, .int .i64 a1_a.n.input.turn, .int .i64 a1_a.n.input.player, .slice p6 a1_a.n.input.commands.length c6, .int .i64 a1_a.n.don, .int .u64 (a1_a.n.hash.toNat : Int), .int .i64 a1_a.n.hav, .bool a1_a.fit, .int .u64 (a1_a.h.toNat : Int)] 46, blk b3 [.int .i64 0, .int .i64 0, .int .i64 0, .int .i64 0, .int .i64 0, .slice none 0 0, .slice none 0 0, .slice none 0 0, .slice none 0 0, .slice none 0 0, .bool false] 26, drow 41 (rowV q5 x4.mine.length) x4.mine, drow 41 (rowV q6 x4.inputs.length) x4.inputs, row nilH 3 (rowV q7 x4.has.length) x4.has, row nilH 3 (rowV q8 x4.acked.length) x4.acked, row nilH 42 (rowV q9 x4.hashes.length) x4.hashes, blk b10 [.int .i64 x4.id, .int .i64 x4.players, .int .i64 x4.delay, .int .i64 x4.turn, .int .i64 x4.said, rowV q5 x4.mine.length, rowV q6 x4.inputs.length, rowV q7 x4.has.length, rowV q8 x4.acked.length, rowV q9 x4.hashes.length, .bool x4.split] 26, blk b12 [.int .i64 0, .int .i64 0, .int .i64 0, .int .i64 0, .int .i64 0, .slice none 0 0, .slice none 0 0, .slice none 0 0, .slice none 0 0, .slice none 0 0, .bool false] 26, blk b13 [.int .i64 0, .int .i64 0, .int .i64 0, .int .i64 0, .int .i64 0, .slice none 0 0, .slice none 0 0, .slice none 0 0, .slice none 0 0, .slice none 0 0, .bool false] 26, drow 88 (rowV q196 v195.length) v195]) ?_ ?_
      ·rintro ⟨v193, v194, v195⟩ q196 H
       try dsimp only [Ex.then] at H
       refine Cont.conseq (fr' := [(9, _), (18, _), (19, _), (2, _), (4, _), (6, _)]) ?_ ⟨rfl, rfl, rfl, rfl, rfl, rfl, trivial⟩ (fun _ s => s)
       refine id (hK38 _ _ ?_)
       refine T.seq fun K40 hK40 => ?_
       try dsimp only [List.set, List.cons_append, List.nil_append]
       refine T.region (rq (Qt.ldBA (us := [_, _, _, _, _, _, _, _, _, _, _]) 8 ty26 rfl rfl rfl rfl) ?_)
       obtain ⟨x197, hx197, H⟩ := bindE H
       refine RS.solid (Sd.callN (vs := [.agg #[.int .i64 x4.id, .int .i64 x4.players, .int .i64 x4.delay, .int .i64 x4.turn, .int .i64 x4.said, rowV q5 x4.mine.length, rowV q6 x4.inputs.length, rowV q7 x4.has.length, rowV q8 x4.acked.length, rowV q9 x4.hashes.length, .bool x4.split]]) ent40 rfl (fun w s => peer_Ready_walk x4 w ((Rd.ofG 3 rfl) w s) ((Rd.ofG 4 rfl) w s) ((Rd.ofRowN 5 rfl) w s) ((Rd.ofRowN 6 rfl) w s) ((Rd.ofRowN 7 rfl) w s) hx197)) rfl rfl fun q198 => rM rfl (rp (Pu.extract rfl rfl) (rp (Pu.extract rfl rfl) (rp (Pu.extract rfl rfl) (rA rfl (rA rfl (rA rfl (RS.nil (hK40 _ _ (cq [(2, _), (4, _), (6, _), (9, _), (18, _), (19, _), (20, _), (21, _), (22, _)] ?_)))))))))
       refine T.seq fun K41 hK41 => ?_
       try dsimp only [List.set, List.cons_append, List.nil_append]
       refine T.region (rM rfl ?_)
       obtain ⟨x199, hx199, H⟩ := bindE H
       refine rq (Qt.call (vs := [.int .i64 x197.2.2]) ent13 rfl fun w s => thronglaw28_num_walk x197.2.2 w  hx199) (rM rfl (rp (Pu.bin rfl rfl rfl) (rM rfl ?_)))
       refine RS.joinV 4 147 (.bool (decide ((x199 = v193) ∧ (x197.2.1 = v194)))) [(2, _), (4, _), (6, _), (18, _), (20, _)] ⟨rfl, rfl, rfl, rfl, rfl, trivial⟩ ?_ ?_
       ·refine rM rfl ?_
        refine RS.joinB H 4 152 (fun b204 => .bool b204) [(2, _), (4, _), (6, _), (20, _)] ⟨rfl, rfl, rfl, rfl, trivial⟩ ?_ ?_
        ·intro b204 H
         refine rM rfl ?_
         refine RS.joinB H 4 157 (fun b207 => .bool b207) [(2, _), (4, _), (6, _), (20, _)] ⟨rfl, rfl, rfl, rfl, trivial⟩ ?_ ?_
         ·intro b207 H
          refine rA rfl (RS.nil (hK41 _ _ ?_))
          refine T.seq fun K42 hK42 => ?_
          try dsimp only [List.set, List.cons_append, List.nil_append]
          refine T.region (rM rfl ?_)
          obtain ⟨x208, hx208, H⟩ := bindE H
          refine RS.solid (Sd.callF0 (vs := [rowV q198 x197.1.length]) (C' := dead) (v := .tuple #[]) 12 ent33 rfl rfl (fun w s => thronglaw0_Commands_walk x197.1 rfl  hx208 w s)) rfl rfl fun _ => RS.nil (hK42 _ _ (cq [(2, _), (4, _), (6, _), (23, _)] ?_))
          refine T.seq fun K43 hK43 => ?_
          try dsimp only [List.set, List.cons_append, List.nil_append]
          refine T.weakS (S' := Sat w [blk b1 [.int .i64 a0_p.id, .int .i64 a0_p.players, .int .i64 a0_p.delay, .int .i64 a0_p.turn, .int .i64 a0_p.said, .slice p0 a0_p.mine.length c0, .slice p1 a0_p.inputs.length c1, .slice p2 a0_p.has.length c2, .slice p3 a0_p.acked.length c3, .slice p4 a0_p.hashes.length c4, .bool a0_p.split] 26, blk b2 [.int .i64 a1_a.act, .slice p5 a1_a.l.length c5, .int .i64 a1_a.n.frm, .int .i64 a1_a.n.dst, .int .i64 a1_a.n.input.turn, .int .i64 a1_a.n.input.player, .slice p6 a1_a.n.input.commands.length c6, .int .i64 a1_a.n.don, .int .u64 (a1_a.n.hash.toNat : Int), .int .i64 a1_a.n.hav, .bool a1_a.fit, .int .u64 (a1_a.h.toNat : Int)] 46, blk b3 [.int .i64 0, .int .i64 0, .int .i64 0, .int .i64 0, .int .i64 0, .slice none 0 0, .slice none 0 0, .slice none 0 0, .slice none 0 0, .slice none 0 0, .bool false] 26, drow 41 (rowV q5 x4.mine.length) x4.mine, drow 41 (rowV q6 x4.inputs.length) x4.inputs, row nilH 3 (rowV q7 x4.has.length) x4.has, row nilH 3 (rowV q8 x4.acked.length) x4.acked, row nilH 42 (rowV q9 x4.hashes.length) x4.hashes, blk b10 [.int .i64 x4.id, .int .i64 x4.players, .int .i64 x4.delay, .int .i64 x4.turn, .int .i64 x4.said, rowV q5 x4.mine.length, rowV q6 x4.inputs.length, rowV q7 x4.has.length, rowV q8 x4.acked.length, rowV q9 x4.hashes.length, .bool x4.split] 26, blk b12 [.int .i64 0, .int .i64 0, .int .i64 0, .int .i64 0, .int .i64 0, .slice none 0 0, .slice none 0 0, .slice none 0 0, .slice none 0 0, .slice none 0 0, .bool false] 26, blk b13 [.int .i64 0, .int .i64 0, .int .i64 0, .int .i64 0, .int .i64 0, .slice none 0 0, .slice none 0 0, .slice none 0 0, .slice none 0 0, .slice none 0 0, .bool false] 26, drow 88 (rowV q196 v195.length) v195, dead]) (fun w s => s) ?_
          refine T.drawnS [0, 1, 3, 4, 5, 6, 7, 8, 9, 10, 11, 12] [(0, .rd), (1, .pu), (2, .pu), (3, .wk), (4, .wk), (5, .rd), (6, .pu), (7, .br), (8, .pu)] mixed (by kernel_rfl) rfl ?_
          refine RD.q (fun w s => s.pick [0, 1, 3, 4, 5, 6, 7, 8, 9, 10, 11, 12] (by decide) rfl) rfl (Qt.ldBA (us := [_, _, _, _, _, _, _, _, _, _, _]) 0 ty26 rfl rfl rfl rfl) rfl rfl (RD.p (fun w s => s.pick [0, 1, 3, 4, 5, 6, 7, 8, 9, 10, 11, 12] (by decide) rfl) rfl (Pu.move rfl) rfl rfl (RD.p (fun w s => s.pick [0, 1, 3, 4, 5, 6, 7, 8, 9, 10, 11, 12] (by decide) rfl) rfl (Pu.move rfl) rfl rfl ?_))
          refine RD.joinB H 4 166 (fun b211 => .bool b211) [(4, _), (160, _)] ⟨rfl, rfl, trivial⟩ ?_ ?_
          ·intro b211 H
           refine RD.solid rfl (.inr rfl) rfl rfl (Sd.stB (cs' := [_, _, _, _, _, _, _, _, _, _, _]) 2 ty26 rfl rfl rfl rfl rfl rfl rfl rfl) (fun _ => ClE.sat _ _) (fun _ w s => s.pick [0, 1, 3, 4, 5, 6, 7, 8, 9, 10, 11, 12] (by decide) rfl) (fun h => nomatch h) fun _ => ?_
           refine RD.p (fun w s => s.pick [0, 1, 3, 4, 5, 6, 7, 8, 9, 10, 11, 12] (by decide) rfl) rfl (Pu.assign rfl) rfl rfl (RD.nil (hK43 _ _ ?_))
           obtain rfl := sj H
           have H := HX15
           obtain rfl := sj H
           try dsimp only [List.set, List.cons_append, List.nil_append]
           refine T.rt (Cont.retCT 2 rfl ty26 rfl rfl rfl rfl fun w' s => ?_)
           exact ⟨⟨(.slice p0 a0_p.mine.length c0), (.slice p1 a0_p.inputs.length c1), (.slice p2 a0_p.has.length c2), (.slice p3 a0_p.acked.length c3), (.slice p4 a0_p.hashes.length c4)⟩, rfl, (Sat.baseDat (B := B) hB (Sat.baseDat (B := B) hB (Sat.baseDat (B := B) hB (Sat.baseDat (B := B) hB (Sat.baseDat (B := B) hB s h0) h1) h2) h3) h4).pick [13, 14, 15, 16, 17] (by decide) rfl⟩
          ·intro z212 H hJ210
           refine RD.split 162 rfl (fun hc209 => ?_) (fun hc209 => ?_)
           ·have H := ifT hc209 H
            refine RD.w (fun w s => s.pick [0, 1, 3, 4, 5, 6, 7, 8, 9, 10, 11, 12] (by decide) rfl) rfl (Qt.ldBA (us := [_, _, _, _, _, _, _, _, _, _, _]) 7 ty26 rfl rfl rfl rfl) rfl rfl ?_
            refine RD.w (fun w s => s.pick [0, 1, 3, 4, 5, 6, 7, 8, 9, 10, 11, 12] (by decide) rfl) rfl (Qt.ldBA (us := [_, _, _, _, _, _, _, _, _, _, _]) 0 ty26 rfl rfl rfl rfl) rfl rfl ?_
            obtain ⟨x213, hx213, H⟩ := bindE H
            refine RD.q (fun w s => s.pick [0, 1, 3, 4, 5, 6, 7, 8, 9, 10, 11, 12] (by decide) rfl) rfl (Qt.call (vs := [.agg #[.int .i64 x4.id, .int .i64 x4.players, .int .i64 x4.delay, .int .i64 x4.turn, .int .i64 x4.said, rowV q5 x4.mine.length, rowV q6 x4.inputs.length, rowV q7 x4.has.length, rowV q8 x4.acked.length, rowV q9 x4.hashes.length, .bool x4.split], .agg #[.int .i64 a0_p.id, .int .i64 a0_p.players, .int .i64 a0_p.delay, .int .i64 a0_p.turn, .int .i64 a0_p.said, .slice p0 a0_p.mine.length c0, .slice p1 a0_p.inputs.length c1, .slice p2 a0_p.has.length c2, .slice p3 a0_p.acked.length c3, .slice p4 a0_p.hashes.length c4, .bool a0_p.split]]) ent37 rfl fun w s => throngref0_EqPeer_walk x4 a0_p w ((Rd.ofG 3 rfl) w s) ((Rd.ofG 4 rfl) w s) ((Rd.ofRowN 5 rfl) w s) ((Rd.ofRowN 6 rfl) w s) ((Rd.ofRowN 7 rfl) w s) ((Rd.base hb0) w s) ((Rd.base hb1) w s) ((Rd.base hb2) w s) ((Rd.base hb3) w s) ((Rd.base hb4) w s) hx213) rfl rfl (RD.p (fun w s => s.pick [0, 1, 3, 4, 5, 6, 7, 8, 9, 10, 11, 12] (by decide) rfl) rfl (Pu.pickT rfl rfl) rfl rfl ?_)
            obtain rfl := sj H
            exact hJ210 _ ⟨rfl, rfl, rfl, trivial⟩
           ·have H := ifB hc209 H
            refine RD.no (fun w s => s.pick [0, 1, 3, 4, 5, 6, 7, 8, 9, 10, 11, 12] (by decide) rfl) rfl rfl rfl (.inr (.inl rfl)) (RD.no (fun w s => s.pick [0, 1, 3, 4, 5, 6, 7, 8, 9, 10, 11, 12] (by decide) rfl) rfl rfl rfl (.inr (.inl rfl)) (RD.no (fun w s => s.pick [0, 1, 3, 4, 5, 6, 7, 8, 9, 10, 11, 12] (by decide) rfl) rfl rfl rfl (.inr (.inr rfl)) (RD.p (fun w s => s.pick [0, 1, 3, 4, 5, 6, 7, 8, 9, 10, 11, 12] (by decide) rfl) rfl (Pu.pickF rfl rfl) rfl rfl ?_)))
            obtain rfl := sj H
            exact hJ210 _ ⟨rfl, rfl, rfl, trivial⟩
         ·intro z214 H hJ206
          refine RS.split 153 rfl (fun hc205 => ?_) (fun hc205 => ?_)
          ·have H := ifT hc205 H
           refine rq (Qt.ldBA (us := [_, _, _, _, _, _, _, _, _, _, _]) 8 ty26 rfl rfl rfl rfl) (rq (Qt.ldBA (us := [_, _, _, _, _, _, _, _, _, _, _]) 0 ty26 rfl rfl rfl rfl) ?_)
           obtain ⟨x215, hx215, H⟩ := bindE H
           refine rq (Qt.call (vs := [.agg #[.int .i64 x4.id, .int .i64 x4.players, .int .i64 x4.delay, .int .i64 x4.turn, .int .i64 x4.said, rowV q5 x4.mine.length, rowV q6 x4.inputs.length, rowV q7 x4.has.length, rowV q8 x4.acked.length, rowV q9 x4.hashes.length, .bool x4.split], .agg #[.int .i64 a0_p.id, .int .i64 a0_p.players, .int .i64 a0_p.delay, .int .i64 a0_p.turn, .int .i64 a0_p.said, .slice p0 a0_p.mine.length c0, .slice p1 a0_p.inputs.length c1, .slice p2 a0_p.has.length c2, .slice p3 a0_p.acked.length c3, .slice p4 a0_p.hashes.length c4, .bool a0_p.split]]) ent37 rfl fun w s => throngref0_EqPeer_walk x4 a0_p w ((Rd.ofG 3 rfl) w s) ((Rd.ofG 4 rfl) w s) ((Rd.ofRowN 5 rfl) w s) ((Rd.ofRowN 6 rfl) w s) ((Rd.ofRowN 7 rfl) w s) ((Rd.base hb0) w s) ((Rd.base hb1) w s) ((Rd.base hb2) w s) ((Rd.base hb3) w s) ((Rd.base hb4) w s) hx215) (rp (Pu.pickT rfl rfl) ?_)
           obtain rfl := sj H
           exact hJ206 _ _ ⟨rfl, rfl, rfl, rfl, rfl, trivial⟩ (fun w s => s)
          ·have H := ifB hc205 H
           refine ro (ro (ro (rp (Pu.pickF rfl rfl) ?_)))
           obtain rfl := sj H
           exact hJ206 _ _ ⟨rfl, rfl, rfl, rfl, rfl, trivial⟩ (fun w s => s)
        ·intro z216 H hJ203
         refine RS.splitP 148 rfl (fun hc202 => ?_) (fun hc202 => ?_)
         ·have H := ifT hc202 H
          refine rM rfl (rM rfl ?_)
          obtain ⟨x217, hx217, H⟩ := bindE H
          refine rq (Qt.call (vs := [rowV q198 x197.1.length, rowV q196 v195.length]) ent41 rfl fun w s => throngref0_EqCommands_walk x197.1 v195 w ((Rd.ofG 12 rfl) w s) ((Rd.ofG 11 rfl) w s) hx217) (rp (Pu.pickT rfl rfl) ?_)
          obtain rfl := sj H
          exact hJ203 _ _ ⟨rfl, rfl, rfl, rfl, rfl, trivial⟩ (fun w s => s)
         ·have H := ifF hc202 H
          refine ro (ro (ro (rp (Pu.pickF rfl rfl) ?_)))
          obtain rfl := sj H
          exact hJ203 _ _ ⟨rfl, rfl, rfl, rfl, rfl, trivial⟩ (fun w s => s)
       ·intro hJ201
        refine RS.splitP 143 rfl (fun hc200 => ?_) (fun hc200 => ?_)
        ·refine rM rfl (rM rfl (rp (Pu.eqB ul4 rfl rfl) (rp (Pu.pickT rfl rfl) ?_)))
         exact hJ201 _ _ ⟨dAndT hc200, rfl, rfl, rfl, rfl, rfl, trivial⟩ (fun w s => s)
        ·refine ro (ro (ro (rp (Pu.pickF rfl rfl) ?_)))
         exact hJ201 _ _ ⟨dAndF hc200, rfl, rfl, rfl, rfl, rfl, trivial⟩ (fun w s => s)
      ·intro z192 H HX192 hJ192
       refine T.cond rfl (fun hc218 => ?_) (fun hc218 => ?_)
       ·have H := ifT hc218 H
        refine cq [(2, _), (4, _), (6, _)] ?_
        refine T.seq fun K44 hK44 => ?_
        try dsimp only [List.set, List.cons_append, List.nil_append]
        refine T.region (rq (Qt.ldBA (us := [_, _, _, _, _, _, _, _, _, _, _]) 0 ty26 rfl rfl rfl rfl) ?_)
        obtain ⟨x219, hx219, H⟩ := bindE H
        refine RS.solid (Sd.callN (vs := [.agg #[.int .i64 a0_p.id, .int .i64 a0_p.players, .int .i64 a0_p.delay, .int .i64 a0_p.turn, .int .i64 a0_p.said, .slice p0 a0_p.mine.length c0, .slice p1 a0_p.inputs.length c1, .slice p2 a0_p.has.length c2, .slice p3 a0_p.acked.length c3, .slice p4 a0_p.hashes.length c4, .bool a0_p.split]]) ent39 rfl (fun w s => throngref27_Ready_walk a0_p w ((Rd.base hb0) w s) ((Rd.base hb1) w s) ((Rd.base hb2) w s) ((Rd.base hb3) w s) ((Rd.base hb4) w s) hx219)) rfl rfl fun q220 => rM rfl (rp (Pu.extract rfl rfl) (rp (Pu.extract rfl rfl) (rA rfl (rA rfl (RS.nil (hK44 _ _ (cq [(2, _), (4, _), (6, _), (18, _), (19, _)] ?_)))))))
        refine T.region (rA rfl ?_)
        obtain rfl := sj H
        refine RS.nil (hJ192 _ _ (0, x219.2, x219.1) q220 HX192 ⟨rfl, rfl, rfl, trivial⟩ ⟨rfl, rfl, rfl, trivial⟩ (fun w s => s))
       ·have H := ifB hc218 H
        obtain rfl := sj H
        refine T.skip (hJ192 _ _ (1, false, []) (none, 0) HX192 ⟨rfl, rfl, rfl, trivial⟩ ⟨rfl, rfl, rfl, trivial⟩ (fun w s => (s.nilRowG (α := Cmd) 88).pick [0, 1, 2, 3, 4, 5, 6, 7, 8, 9, 10, 11] (by decide) rfl))
     ·have H := ifF hc191 H
      refine T.seq fun K45 hK45 => T.seq fun K46 hK46 => ?_
      try dsimp only [List.set, List.cons_append, List.nil_append]
      refine T.region (rp (Pu.bin rfl rfl rfl) (rA rfl (RS.nil (hK46 _ _ ?_))))
      refine T.joinE (σ := Bool) (γ := Unit) H (fun s => s) [(2, _), (3, _), (4, _), (6, _), (7, _), (8, _), (9, _), (10, _)] ⟨rfl, rfl, rfl, rfl, rfl, rfl, rfl, rfl, trivial⟩ (fun v222 _ => [(167, .bool v222)]) (fun v222 _ => Sat w [blk b1 [.int .i64 a0_p.id, .int .i64 a0_p.players, .int .i64 a0_p.delay, .int .i64 a0_p.turn, .int .i64 a0_p.said, .slice p0 a0_p.mine.length c0, .slice p1 a0_p.inputs.length c1, .slice p2 a0_p.has.length c2, .slice p3 a0_p.acked.length c3, .slice p4 a0_p.hashes.length c4, .bool a0_p.split] 26, blk b2 [.int .i64 a1_a.act, .slice p5 a1_a.l.length c5, .int .i64 a1_a.n.frm, .int .i64 a1_a.n.dst, .int .i64 a1_a.n.input.turn, .int .i64 a1_a.n.input.player, .slice p6 a1_a.n.input.commands.length c6, .int .i64 a1_a.n.don, .int .u64 (a1_a.n.hash.toNat : Int), .int .i64 a1_a.n.hav, .bool a1_a.fit, .int .u64 (a1_a.h.toNat : Int)] 46, blk b3 [.int .i64 0, .int .i64 0, .int .i64 0, .int .i64 0, .int .i64 0, .slice none 0 0, .slice none 0 0, .slice none 0 0, .slice none 0 0, .slice none 0 0, .bool false] 26, drow 41 (rowV q5 x4.mine.length) x4.mine, drow 41 (rowV q6 x4.inputs.length) x4.inputs, row nilH 3 (rowV q7 x4.has.length) x4.has, row nilH 3 (rowV q8 x4.acked.length) x4.acked, row nilH 42 (rowV q9 x4.hashes.length) x4.hashes, blk b10 [.int .i64 x4.id, .int .i64 x4.players, .int .i64 x4.delay, .int .i64 x4.turn, .int .i64 x4.said, rowV q5 x4.mine.length, rowV q6 x4.inputs.length, rowV q7 x4.has.length, rowV q8 x4.acked.length, rowV q9 x4.hashes.length, .bool x4.split] 26, blk b12 [.int .i64 0, .int .i64 0, .int .i64 0, .int .i64 0, .int .i64 0, .slice none 0 0, .slice none 0 0, .slice none 0 0, .slice none 0 0, .slice none 0 0, .bool false] 26, blk b13 [.int .i64 0, .int .i64 0, .int .i64 0, .int .i64 0, .int .i64 0, .slice none 0 0, .slice none 0 0, .slice none 0 0, .slice none 0 0, .slice none 0 0, .bool false] 26]) ?_ ?_
      ·rintro v222 ⟨⟩ H
       try dsimp only [Ex.then] at H
       refine Cont.conseq (fr' := [(167, _), (2, _), (3, _), (4, _), (6, _), (7, _), (8, _), (9, _), (10, _)]) ?_ ⟨rfl, rfl, rfl, rfl, rfl, rfl, rfl, rfl, rfl, trivial⟩ (fun _ s => s)
       refine id (hK45 _ _ ?_)
       refine T.cond rfl (fun hc223 => ?_) (fun hc223 => ?_)
       ·have H := ifT hc223 H
        refine T.seq fun K47 hK47 => T.seq fun K48 hK48 => T.region (rM rfl (RS.nil (hK48 _ _ ?_)))
        refine T.cond rfl (fun hc224 => ?_) (fun hc224 => ?_)
        ·have H := ifT hc224 H
         refine cq [(2, _), (3, _), (4, _), (6, _), (8, _), (10, _)] ?_
         refine T.seq fun K49 hK49 => ?_
         try dsimp only [List.set, List.cons_append, List.nil_append]
         refine T.region (rq (Qt.ldBA (us := [_, _, _, _, _, _, _, _, _, _, _]) 0 ty26 rfl rfl rfl rfl) (rp (Pu.fieldAddr fd46_4 rfl) (rq (Qt.ldB 1 ty42 rfl rfl rfl) ?_)))
         obtain ⟨x225, hx225, H⟩ := bindE H
         refine RS.solid (Sd.callN (vs := [.agg #[.int .i64 a0_p.id, .int .i64 a0_p.players, .int .i64 a0_p.delay, .int .i64 a0_p.turn, .int .i64 a0_p.said, .slice p0 a0_p.mine.length c0, .slice p1 a0_p.inputs.length c1, .slice p2 a0_p.has.length c2, .slice p3 a0_p.acked.length c3, .slice p4 a0_p.hashes.length c4, .bool a0_p.split], .int .u64 (a1_a.h.toNat : Int)]) ent42 rfl (fun w s => throngref27_Ran_walk a0_p a1_a.h w (B) (Hp.le_trans hB s.ext.hp) (h0) (h1) (h2) (h3) (h4) hx225)) rfl rfl fun ⟨u226, u227, u228, u229, u230⟩ => ?_
         refine RS.know (p := ∃ p c, u226 = .slice p x225.1.mine.length c) (fun w s => Sat.dat_form (k := 11) s rfl) ?_
         rintro ⟨p231, cc232, rfl⟩
         refine RS.know (p := ∃ p c, u227 = .slice p x225.1.inputs.length c) (fun w s => Sat.dat_form (k := 12) s rfl) ?_
         rintro ⟨p233, cc234, rfl⟩
         refine RS.know (p := ∃ p c, u228 = .slice p x225.1.has.length c) (fun w s => Sat.dat_form (k := 13) s rfl) ?_
         rintro ⟨p235, cc236, rfl⟩
         refine RS.know (p := ∃ p c, u229 = .slice p x225.1.acked.length c) (fun w s => Sat.dat_form (k := 14) s rfl) ?_
         rintro ⟨p237, cc238, rfl⟩
         refine RS.know (p := ∃ p c, u230 = .slice p x225.1.hashes.length c) (fun w s => Sat.dat_form (k := 15) s rfl) ?_
         rintro ⟨p239, cc240, rfl⟩
         refine rM rfl (rp (Pu.extract rfl rfl) (rp (Pu.extract rfl rfl) (RS.solid (Sd.alloc zr26 rfl) rfl rfl fun b241 => RS.solid (Sd.stB (cs' := [_, _, _, _, _, _, _, _, _, _, _]) 16 ty26 rfl rfl rfl rfl rfl rfl rfl rfl) rfl rfl fun _ => rA rfl (RS.nil (hK49 _ _ (cq [(2, _), (3, _), (4, _), (6, _), (8, _), (10, _), (24, _), (25, _)] ?_))))))
         refine T.seq fun K50 hK50 => ?_
         try dsimp only [List.set, List.cons_append, List.nil_append]
         refine T.region (rq (Qt.ldBA (us := [_, _, _, _, _, _, _, _, _, _, _]) 16 ty26 rfl rfl rfl rfl) (RS.solid (Sd.stB (cs' := [_, _, _, _, _, _, _, _, _, _, _]) 9 ty26 rfl rfl rfl rfl rfl rfl rfl rfl) rfl rfl fun _ => rA rfl (RS.nil (hK50 _ _ ?_))))
         refine T.seq fun K51 hK51 => ?_
         try dsimp only [List.set, List.cons_append, List.nil_append]
         refine T.region (rM rfl (rp (Pu.not rfl) (RS.nil (hK51 _ _ ?_))))
         refine T.cond rfl (fun hc242 => ?_) (fun hc242 => ?_)
         ·have H := ifT hc242 H
          refine cq [(2, _), (3, _), (4, _), (6, _), (8, _), (10, _)] ?_
          refine T.region (rA rfl (RS.nil (hK47 _ _ ?_)))
          try dsimp only [List.set, List.cons_append, List.nil_append]
          refine T.region (rq (Qt.ldBA (us := [_, _, _, _, _, _, _, _, _, _, _]) 8 ty26 rfl rfl rfl rfl) (rp (Pu.fieldAddr fd46_4 rfl) (rq (Qt.ldB 1 ty42 rfl rfl rfl) ?_)))
          obtain ⟨x243, hx243, H⟩ := bindE H
          refine RS.solid (Sd.callN (vs := [.agg #[.int .i64 x4.id, .int .i64 x4.players, .int .i64 x4.delay, .int .i64 x4.turn, .int .i64 x4.said, rowV q5 x4.mine.length, rowV q6 x4.inputs.length, rowV q7 x4.has.length, rowV q8 x4.acked.length, rowV q9 x4.hashes.length, .bool x4.split], .int .u64 (a1_a.h.toNat : Int)]) ent43 rfl (fun w s => peer_Ran_walk x4 a1_a.h w ((Rd.ofG 3 rfl) w s) ((Rd.ofG 4 rfl) w s) ((Rd.ofRowN 5 rfl) w s) ((Rd.ofRowN 6 rfl) w s) ((Rd.ofRowN 7 rfl) w s) hx243)) rfl rfl fun ⟨q244, q245, q246, q247, u248⟩ => ?_
          refine RS.know (p := ∃ p c, u248 = .slice p x243.1.hashes.length c) (fun w s => Sat.osl_form (k := 21) s rfl) ?_
          rintro ⟨p249, cc250, rfl⟩
          refine rM rfl (rp (Pu.extract rfl rfl) (rp (Pu.extract rfl rfl) (RS.solid (Sd.stB (cs' := [_, _, _, _, _, _, _, _, _, _, _]) 10 ty26 rfl rfl rfl rfl rfl rfl rfl rfl) rfl rfl fun _ => rA rfl ?_)))
          obtain rfl := sj H
          refine RS.nil (hJ15 _ _ (10, x243.2, x225.1.id, x225.1.players, x225.1.delay, x225.1.turn, x225.1.said, x225.1.split, x243.1.id, x243.1.players, x243.1.delay, x243.1.turn, x243.1.said, x243.1.split, x225.1.mine, x225.1.inputs, x225.1.has, x225.1.acked, x225.1.hashes, x243.1.mine, x243.1.inputs, x243.1.has, x243.1.acked, x243.1.hashes) (p231, cc232, p233, cc234, p235, cc236, p237, cc238, p239, cc240, q244, q245, q246, q247, p249, cc250) HX15 ⟨rfl, rfl, rfl, rfl, rfl, trivial⟩ ⟨rfl, rfl, trivial⟩ (fun w s => s.pick [0, 1, 2, 3, 4, 5, 6, 7, 8, 9, 10, 11, 12, 13, 14, 15, 17, 18, 19, 20, 21] (by decide) rfl))
         ·have H := ifB hc242 H
          refine T.skip (hK47 _ _ (cq [(2, _), (3, _), (4, _), (6, _), (8, _), (9, _), (10, _)] ?_))
          try dsimp only [List.set, List.cons_append, List.nil_append]
          refine T.region (rq (Qt.ldBA (us := [_, _, _, _, _, _, _, _, _, _, _]) 8 ty26 rfl rfl rfl rfl) (rp (Pu.fieldAddr fd46_4 rfl) (rq (Qt.ldB 1 ty42 rfl rfl rfl) ?_)))
          obtain ⟨x251, hx251, H⟩ := bindE H
          refine RS.solid (Sd.callN (vs := [.agg #[.int .i64 x4.id, .int .i64 x4.players, .int .i64 x4.delay, .int .i64 x4.turn, .int .i64 x4.said, rowV q5 x4.mine.length, rowV q6 x4.inputs.length, rowV q7 x4.has.length, rowV q8 x4.acked.length, rowV q9 x4.hashes.length, .bool x4.split], .int .u64 (a1_a.h.toNat : Int)]) ent43 rfl (fun w s => peer_Ran_walk x4 a1_a.h w ((Rd.ofG 3 rfl) w s) ((Rd.ofG 4 rfl) w s) ((Rd.ofRowN 5 rfl) w s) ((Rd.ofRowN 6 rfl) w s) ((Rd.ofRowN 7 rfl) w s) hx251)) rfl rfl fun ⟨q252, q253, q254, q255, u256⟩ => ?_
          refine RS.know (p := ∃ p c, u256 = .slice p x251.1.hashes.length c) (fun w s => Sat.osl_form (k := 21) s rfl) ?_
          rintro ⟨p257, cc258, rfl⟩
          refine rM rfl (rp (Pu.extract rfl rfl) (rp (Pu.extract rfl rfl) (RS.solid (Sd.stB (cs' := [_, _, _, _, _, _, _, _, _, _, _]) 10 ty26 rfl rfl rfl rfl rfl rfl rfl rfl) rfl rfl fun _ => rA rfl ?_)))
          obtain rfl := sj H
          refine RS.nil (hJ15 _ _ (0, x251.2, x225.1.id, x225.1.players, x225.1.delay, x225.1.turn, x225.1.said, x225.1.split, x251.1.id, x251.1.players, x251.1.delay, x251.1.turn, x251.1.said, x251.1.split, x225.1.mine, x225.1.inputs, x225.1.has, x225.1.acked, x225.1.hashes, x251.1.mine, x251.1.inputs, x251.1.has, x251.1.acked, x251.1.hashes) (p231, cc232, p233, cc234, p235, cc236, p237, cc238, p239, cc240, q252, q253, q254, q255, p257, cc258) HX15 ⟨rfl, rfl, rfl, rfl, rfl, trivial⟩ ⟨rfl, rfl, trivial⟩ (fun w s => s.pick [0, 1, 2, 3, 4, 5, 6, 7, 8, 9, 10, 11, 12, 13, 14, 15, 17, 18, 19, 20, 21] (by decide) rfl))
        ·have H := ifB hc224 H
         refine T.skip (hK47 _ _ (cq [(2, _), (3, _), (4, _), (6, _), (8, _), (9, _), (10, _)] ?_))
         try dsimp only [List.set, List.cons_append, List.nil_append]
         refine T.region (rq (Qt.ldBA (us := [_, _, _, _, _, _, _, _, _, _, _]) 8 ty26 rfl rfl rfl rfl) (rp (Pu.fieldAddr fd46_4 rfl) (rq (Qt.ldB 1 ty42 rfl rfl rfl) ?_)))
         obtain ⟨x259, hx259, H⟩ := bindE H
         refine RS.solid (Sd.callN (vs := [.agg #[.int .i64 x4.id, .int .i64 x4.players, .int .i64 x4.delay, .int .i64 x4.turn, .int .i64 x4.said, rowV q5 x4.mine.length, rowV q6 x4.inputs.length, rowV q7 x4.has.length, rowV q8 x4.acked.length, rowV q9 x4.hashes.length, .bool x4.split], .int .u64 (a1_a.h.toNat : Int)]) ent43 rfl (fun w s => peer_Ran_walk x4 a1_a.h w ((Rd.ofG 3 rfl) w s) ((Rd.ofG 4 rfl) w s) ((Rd.ofRowN 5 rfl) w s) ((Rd.ofRowN 6 rfl) w s) ((Rd.ofRowN 7 rfl) w s) hx259)) rfl rfl fun ⟨q260, q261, q262, q263, u264⟩ => ?_
         refine RS.know (p := ∃ p c, u264 = .slice p x259.1.hashes.length c) (fun w s => Sat.osl_form (k := 15) s rfl) ?_
         rintro ⟨p265, cc266, rfl⟩
         refine rM rfl (rp (Pu.extract rfl rfl) (rp (Pu.extract rfl rfl) (RS.solid (Sd.stB (cs' := [_, _, _, _, _, _, _, _, _, _, _]) 10 ty26 rfl rfl rfl rfl rfl rfl rfl rfl) rfl rfl fun _ => rA rfl ?_)))
         obtain rfl := sj H
         refine RS.nil (hJ15 _ _ (1, x259.2, 0, 0, 0, 0, 0, false, x259.1.id, x259.1.players, x259.1.delay, x259.1.turn, x259.1.said, x259.1.split, [], [], [], [], [], x259.1.mine, x259.1.inputs, x259.1.has, x259.1.acked, x259.1.hashes) (none, 0, none, 0, none, 0, none, 0, none, 0, q260, q261, q262, q263, p265, cc266) HX15 ⟨rfl, rfl, rfl, rfl, rfl, trivial⟩ ⟨rfl, rfl, trivial⟩ (fun w s => (Sat.baseDat (B := B) (xs := ([] : List UInt64)) (v := .slice none 0 0) hB (Sat.baseDat (B := B) (xs := ([] : List Int)) (v := .slice none 0 0) hB (Sat.baseDat (B := B) (xs := ([] : List Int)) (v := .slice none 0 0) hB (Sat.baseDat (B := B) (xs := ([] : List Inp)) (v := .slice none 0 0) hB (Sat.baseDat (B := B) (xs := ([] : List Inp)) (v := .slice none 0 0) hB s ⟨none, 0, rfl, by simp, by decide, .inl rfl⟩) ⟨none, 0, rfl, by simp, by decide, .inl rfl⟩) ⟨none, 0, rfl, by simp, by decide, .inl rfl⟩) ⟨none, 0, rfl, by simp, by decide, .inl rfl⟩) ⟨none, 0, rfl, by simp, by decide, .inl rfl⟩).pick [0, 1, 2, 3, 4, 5, 6, 7, 8, 9, 10, 16, 17, 18, 19, 20, 11, 12, 13, 14, 15] (by decide) rfl))
       ·have H := ifB hc223 H
        refine T.seq fun K52 hK52 => T.seq fun K53 hK53 => T.region (rM rfl (RS.nil (hK53 _ _ ?_)))
        refine T.joinE (σ := Int × Int × Int × Int × Int × Int × Bool × List Inp × List Inp × List Int × List Int × List UInt64) (γ := (Option Addr) × Nat × (Option Addr) × Nat × (Option Addr) × Nat × (Option Addr) × Nat × (Option Addr) × Nat) H (fun s => s) [(2, _), (3, _), (4, _), (6, _), (8, _), (10, _)] ⟨rfl, rfl, rfl, rfl, rfl, rfl, trivial⟩ (fun (v268, v269, v270, v271, v272, v273, v274, v275, v278, v281, v284, v287) (q276, q277, q279, q280, q282, q283, q285, q286, q288, q289) => [(9, .int .i64 v268)]) (fun (v268, v269, v270, v271, v272, v273, v274, v275, v278, v281, v284, v287) (q276, q277, q279, q280, q282, q283, q285, q286, q288, q289) => Sat w [blk b1 [.int .i64 a0_p.id, .int .i64 a0_p.players, .int .i64 a0_p.delay, .int .i64 a0_p.turn, .int .i64 a0_p.said, .slice p0 a0_p.mine.length c0, .slice p1 a0_p.inputs.length c1, .slice p2 a0_p.has.length c2, .slice p3 a0_p.acked.length c3, .slice p4 a0_p.hashes.length c4, .bool a0_p.split] 26, blk b2 [.int .i64 a1_a.act, .slice p5 a1_a.l.length c5, .int .i64 a1_a.n.frm, .int .i64 a1_a.n.dst, .int .i64 a1_a.n.input.turn, .int .i64 a1_a.n.input.player, .slice p6 a1_a.n.input.commands.length c6, .int .i64 a1_a.n.don, .int .u64 (a1_a.n.hash.toNat : Int), .int .i64 a1_a.n.hav, .bool a1_a.fit, .int .u64 (a1_a.h.toNat : Int)] 46, blk b3 [.int .i64 0, .int .i64 0, .int .i64 0, .int .i64 0, .int .i64 0, .slice none 0 0, .slice none 0 0, .slice none 0 0, .slice none 0 0, .slice none 0 0, .bool false] 26, drow 41 (rowV q5 x4.mine.length) x4.mine, drow 41 (rowV q6 x4.inputs.length) x4.inputs, row nilH 3 (rowV q7 x4.has.length) x4.has, row nilH 3 (rowV q8 x4.acked.length) x4.acked, row nilH 42 (rowV q9 x4.hashes.length) x4.hashes, blk b10 [.int .i64 x4.id, .int .i64 x4.players, .int .i64 x4.delay, .int .i64 x4.turn, .int .i64 x4.said, rowV q5 x4.mine.length, rowV q6 x4.inputs.length, rowV q7 x4.has.length, rowV q8 x4.acked.length, rowV q9 x4.hashes.length, .bool x4.split] 26, blk b12 [.int .i64 v269, .int .i64 v270, .int .i64 v271, .int .i64 v272, .int .i64 v273, .slice q276 v275.length q277, .slice q279 v278.length q280, .slice q282 v281.length q283, .slice q285 v284.length q286, .slice q288 v287.length q289, .bool v274] 26, blk b13 [.int .i64 0, .int .i64 0, .int .i64 0, .int .i64 0, .int .i64 0, .slice none 0 0, .slice none 0 0, .slice none 0 0, .slice none 0 0, .slice none 0 0, .bool false] 26, dat B (v275 : List Inp) [.slice q276 v275.length q277], dat B (v278 : List Inp) [.slice q279 v278.length q280], dat B (v281 : List Int) [.slice q282 v281.length q283], dat B (v284 : List Int) [.slice q285 v284.length q286], dat B (v287 : List UInt64) [.slice q288 v287.length q289]]) ?_ ?_
        ·rintro ⟨v268, v269, v270, v271, v272, v273, v274, v275, v278, v281, v284, v287⟩ ⟨q276, q277, q279, q280, q282, q283, q285, q286, q288, q289⟩ H
         try dsimp only [Ex.then] at H
         refine Cont.conseq (fr' := [(9, _), (2, _), (3, _), (4, _), (6, _), (8, _), (10, _)]) ?_ ⟨rfl, rfl, rfl, rfl, rfl, rfl, rfl, trivial⟩ (fun _ s => s)
         refine id (hK52 _ _ ?_)
         refine T.seq fun K54 hK54 => ?_
         try dsimp only [List.set, List.cons_append, List.nil_append]
         refine T.region (rp (Pu.fieldAddr fd46_1 rfl) (rq (Qt.ldB 1 ty39 rfl rfl rfl) ?_))
         obtain ⟨x290, hx290, H⟩ := bindE H
         refine RS.solid (Sd.callN (vs := [.slice p5 a1_a.l.length c5]) ent45 rfl (fun w s => throngref0_CopyCommands_walk a1_a.l w ((Rd.base h5) w s) hx290)) rfl rfl fun q291 => rA rfl (RS.nil (hK54 _ _ (cq [(2, _), (3, _), (4, _), (6, _), (8, _), (9, _), (10, _), (26, _)] ?_)))
         refine T.seq fun K55 hK55 => ?_
         try dsimp only [List.set, List.cons_append, List.nil_append]
         refine T.region (rq (Qt.ldBA (us := [_, _, _, _, _, _, _, _, _, _, _]) 8 ty26 rfl rfl rfl rfl) (rM rfl ?_))
         obtain ⟨x292, hx292, H⟩ := bindE H
         refine RS.solid (Sd.callN (vs := [.agg #[.int .i64 x4.id, .int .i64 x4.players, .int .i64 x4.delay, .int .i64 x4.turn, .int .i64 x4.said, rowV q5 x4.mine.length, rowV q6 x4.inputs.length, rowV q7 x4.has.length, rowV q8 x4.acked.length, rowV q9 x4.hashes.length, .bool x4.split], rowV q291 x290.length]) ent46 rfl (fun w s => peer_Say_walk x4 x290 w ((Rd.ofG 3 rfl) w s) ((Rd.ofG 4 rfl) w s) ((Rd.ofRowN 5 rfl) w s) ((Rd.ofRowN 6 rfl) w s) ((Rd.ofRowN 7 rfl) w s) ((Rd.ofG 16 rfl) w s) hx292)) rfl rfl fun ⟨q293, q294, q295, q296, q297⟩ => ?_
         refine rM rfl (rp (Pu.extract rfl rfl) (rp (Pu.extract rfl rfl) (RS.solid (Sd.stB (cs' := [_, _, _, _, _, _, _, _, _, _, _]) 10 ty26 rfl rfl rfl rfl rfl rfl rfl rfl) rfl rfl fun _ => rA rfl (RS.nil (hK55 _ _ (cq [(2, _), (3, _), (4, _), (6, _), (8, _), (9, _), (10, _), (11, _), (26, _)] ?_))))))
         refine T.seq fun K56 hK56 => T.seq fun K57 hK57 => ?_
         try dsimp only [List.set, List.cons_append, List.nil_append]
         refine T.region (rM rfl (rp (Pu.fieldAddr fd46_1 rfl) (rq (Qt.ldB 1 ty39 rfl rfl rfl) ?_)))
         obtain ⟨x298, hx298, H⟩ := bindE H
         refine rq (Qt.call (vs := [rowV q291 x290.length, .slice p5 a1_a.l.length c5]) ent41 rfl fun w s => throngref0_EqCommands_walk x290 a1_a.l w ((Rd.ofG 16 rfl) w s) ((Rd.base h5) w s) hx298) (rp (Pu.not rfl) (RS.nil (hK57 _ _ ?_)))
         refine T.cond rfl (fun hc299 => ?_) (fun hc299 => ?_)
         ·have H := ifT hc299 H
          refine cq [(2, _), (4, _)] ?_
          refine T.seq fun K58 hK58 => ?_
          try dsimp only [List.set, List.cons_append, List.nil_append]
          refine T.region (rq (Qt.ldBA (us := [_, _, _, _, _, _, _, _, _, _, _]) 0 ty26 rfl rfl rfl rfl) (RS.solid (Sd.stB (cs' := [_, _, _, _, _, _, _, _, _, _, _]) 2 ty26 rfl rfl rfl rfl rfl rfl rfl rfl) rfl rfl fun _ => rA rfl (RS.nil (hK58 _ _ ?_))))
          obtain rfl := sj H
          have H := HX15
          obtain rfl := sj H
          try dsimp only [List.set, List.cons_append, List.nil_append]
          refine T.rt (Cont.retCT 2 rfl ty26 rfl rfl rfl rfl fun w' s => ?_)
          exact ⟨⟨(.slice p0 a0_p.mine.length c0), (.slice p1 a0_p.inputs.length c1), (.slice p2 a0_p.has.length c2), (.slice p3 a0_p.acked.length c3), (.slice p4 a0_p.hashes.length c4)⟩, rfl, (Sat.baseDat (B := B) hB (Sat.baseDat (B := B) hB (Sat.baseDat (B := B) hB (Sat.baseDat (B := B) hB (Sat.baseDat (B := B) hB s h0) h1) h2) h3) h4).pick [22, 23, 24, 25, 26] (by decide) rfl⟩
         ·have H := ifB hc299 H
          refine T.skip (hK56 _ _ (cq [(2, _), (4, _), (6, _), (8, _), (9, _), (10, _), (11, _), (26, _)] ?_))
          try dsimp only [List.set, List.cons_append, List.nil_append]
          refine T.region (rM rfl ?_)
          obtain ⟨x300, hx300, H⟩ := bindE H
          refine RS.solid (Sd.callF0 (vs := [rowV q291 x290.length]) (C' := dead) (v := .tuple #[]) 16 ent33 rfl rfl (fun w s => thronglaw0_Commands_walk x290 rfl  hx300 w s)) rfl rfl fun _ => ?_
          obtain rfl := sj H
          refine RS.nil (hJ15 _ _ (v268, x292.2, v269, v270, v271, v272, v273, v274, x292.1.id, x292.1.players, x292.1.delay, x292.1.turn, x292.1.said, x292.1.split, v275, v278, v281, v284, v287, x292.1.mine, x292.1.inputs, x292.1.has, x292.1.acked, x292.1.hashes) (q276, q277, q279, q280, q282, q283, q285, q286, q288, q289, q293, q294, q295, q296, (q297.1.map fun g => (⟨g, 0, none⟩ : Addr)), q297.2) HX15 ⟨rfl, rfl, rfl, rfl, rfl, trivial⟩ ⟨rfl, rfl, trivial⟩ (fun w s => (Sat.rowOsl (q := q297) (m := x292.1.hashes.length) 21 s rfl).pick [0, 1, 2, 3, 4, 5, 6, 7, 8, 9, 10, 11, 12, 13, 14, 15, 17, 18, 19, 20, 21] (by decide) rfl))
        ·intro z267 H HX267 hJ267
         refine T.cond rfl (fun hc301 => ?_) (fun hc301 => ?_)
         ·have H := ifT hc301 H
          refine cq [(2, _), (3, _), (4, _), (6, _), (8, _), (10, _)] ?_
          try dsimp only [List.set, List.cons_append, List.nil_append]
          refine T.region (rq (Qt.ldBA (us := [_, _, _, _, _, _, _, _, _, _, _]) 0 ty26 rfl rfl rfl rfl) (rp (Pu.fieldAddr fd46_1 rfl) (rq (Qt.ldB 1 ty39 rfl rfl rfl) ?_)))
          obtain ⟨x302, hx302, H⟩ := bindE H
          refine RS.solid (Sd.callN (vs := [.agg #[.int .i64 a0_p.id, .int .i64 a0_p.players, .int .i64 a0_p.delay, .int .i64 a0_p.turn, .int .i64 a0_p.said, .slice p0 a0_p.mine.length c0, .slice p1 a0_p.inputs.length c1, .slice p2 a0_p.has.length c2, .slice p3 a0_p.acked.length c3, .slice p4 a0_p.hashes.length c4, .bool a0_p.split], .slice p5 a1_a.l.length c5]) ent44 rfl (fun w s => throngref27_Say_walk a0_p a1_a.l w (B) (Hp.le_trans hB s.ext.hp) (h0) (h1) (h2) (h3) (h4) ((Rd.base h5) w s) hx302)) rfl rfl fun ⟨u303, u304, u305, u306, u307⟩ => ?_
          refine RS.know (p := ∃ p c, u303 = .slice p x302.1.mine.length c) (fun w s => Sat.dat_form (k := 11) s rfl) ?_
          rintro ⟨p308, cc309, rfl⟩
          refine RS.know (p := ∃ p c, u304 = .slice p x302.1.inputs.length c) (fun w s => Sat.dat_form (k := 12) s rfl) ?_
          rintro ⟨p310, cc311, rfl⟩
          refine RS.know (p := ∃ p c, u305 = .slice p x302.1.has.length c) (fun w s => Sat.dat_form (k := 13) s rfl) ?_
          rintro ⟨p312, cc313, rfl⟩
          refine RS.know (p := ∃ p c, u306 = .slice p x302.1.acked.length c) (fun w s => Sat.dat_form (k := 14) s rfl) ?_
          rintro ⟨p314, cc315, rfl⟩
          refine RS.know (p := ∃ p c, u307 = .slice p x302.1.hashes.length c) (fun w s => Sat.dat_form (k := 15) s rfl) ?_
          rintro ⟨p316, cc317, rfl⟩
          refine rM rfl (rp (Pu.extract rfl rfl) (rp (Pu.extract rfl rfl) (RS.solid (Sd.stB (cs' := [_, _, _, _, _, _, _, _, _, _, _]) 9 ty26 rfl rfl rfl rfl rfl rfl rfl rfl) rfl rfl fun _ => rA rfl ?_)))
          obtain rfl := sj H
          refine RS.nil (hJ267 _ _ (x302.2, x302.1.id, x302.1.players, x302.1.delay, x302.1.turn, x302.1.said, x302.1.split, x302.1.mine, x302.1.inputs, x302.1.has, x302.1.acked, x302.1.hashes) (p308, cc309, p310, cc311, p312, cc313, p314, cc315, p316, cc317) HX267 ⟨rfl, rfl, rfl, rfl, rfl, rfl, trivial⟩ ⟨rfl, trivial⟩ (fun w s => s))
         ·have H := ifB hc301 H
          obtain rfl := sj H
          refine T.skip (hJ267 _ _ (1, 0, 0, 0, 0, 0, false, [], [], [], [], []) (none, 0, none, 0, none, 0, none, 0, none, 0) HX267 ⟨rfl, rfl, rfl, rfl, rfl, rfl, trivial⟩ ⟨rfl, trivial⟩ (fun w s => (Sat.baseDat (B := B) (xs := ([] : List UInt64)) (v := .slice none 0 0) hB (Sat.baseDat (B := B) (xs := ([] : List Int)) (v := .slice none 0 0) hB (Sat.baseDat (B := B) (xs := ([] : List Int)) (v := .slice none 0 0) hB (Sat.baseDat (B := B) (xs := ([] : List Inp)) (v := .slice none 0 0) hB (Sat.baseDat (B := B) (xs := ([] : List Inp)) (v := .slice none 0 0) hB s ⟨none, 0, rfl, by simp, by decide, .inl rfl⟩) ⟨none, 0, rfl, by simp, by decide, .inl rfl⟩) ⟨none, 0, rfl, by simp, by decide, .inl rfl⟩) ⟨none, 0, rfl, by simp, by decide, .inl rfl⟩) ⟨none, 0, rfl, by simp, by decide, .inl rfl⟩).pick [0, 1, 2, 3, 4, 5, 6, 7, 8, 9, 10, 11, 12, 13, 14, 15] (by decide) rfl))
      ·intro z221 H HX221 hJ221
       refine T.condP rfl (fun hc318 => ?_) (fun hc318 => ?_)
       ·have H := ifT hc318 H
        obtain rfl := sj H
        refine T.skip (hJ221 _ _ (decide (x14 = 7)) () HX221 ⟨rfl, rfl, rfl, rfl, rfl, rfl, rfl, rfl, trivial⟩ ⟨rfl, trivial⟩ (fun w s => s))
       ·have H := ifF hc318 H
        refine cq [(2, _), (3, _), (4, _), (6, _), (7, _), (8, _), (9, _), (10, _), (35, _)] ?_
        try dsimp only [List.set, List.cons_append, List.nil_append]
        refine T.region (rp (Pu.bin rfl rfl rfl) (rA rfl ?_))
        obtain rfl := sj H
        refine RS.nil (hJ221 _ _ (decide (x14 = 8)) () HX221 ⟨rfl, rfl, rfl, rfl, rfl, rfl, rfl, rfl, trivial⟩ ⟨rfl, trivial⟩ (fun w s => s))
  ·intro z106 H HX106 hJ106
   refine T.condP rfl (fun hc319 => ?_) (fun hc319 => ?_)
   ·have H := ifT hc319 H
    obtain rfl := sj H
    refine T.skip (hJ106 _ _ (decide (x14 = 2)) () HX106 ⟨rfl, rfl, rfl, rfl, rfl, rfl, rfl, rfl, rfl, trivial⟩ ⟨rfl, trivial⟩ (fun w s => s))
   ·have H := ifF hc319 H
    refine T.seq fun K59 hK59 => ?_
    try dsimp only [List.set, List.cons_append, List.nil_append]
    refine T.region (rp (Pu.bin rfl rfl rfl) (rA rfl (RS.nil (hK59 _ _ ?_))))
    refine T.condP rfl (fun hc320 => ?_) (fun hc320 => ?_)
    ·have H := ifT hc320 H
     obtain rfl := sj H
     refine T.skip (hJ106 _ _ (decide (x14 = 3)) () HX106 ⟨rfl, rfl, rfl, rfl, rfl, rfl, rfl, rfl, rfl, trivial⟩ ⟨rfl, trivial⟩ (fun w s => s))
    ·have H := ifF hc320 H
     refine cq [(2, _), (3, _), (4, _), (6, _), (7, _), (8, _), (9, _), (10, _), (35, _)] ?_
     try dsimp only [List.set, List.cons_append, List.nil_append]
     refine T.region (rp (Pu.bin rfl rfl rfl) (rA rfl ?_))
     obtain rfl := sj H
     refine RS.nil (hJ106 _ _ (decide (x14 = 4)) () HX106 ⟨rfl, rfl, rfl, rfl, rfl, rfl, rfl, rfl, rfl, trivial⟩ ⟨rfl, trivial⟩ (fun w s => s))
theorem thronglaw28_only_walk (a0_p : Scr28) (a1_do : Int) (w : World) {v0 v1 v2 v3 v4 v5 : Value} (h0 : R (hpOf w) a0_p.p.mine [v0]) (h1 : R (hpOf w) a0_p.p.inputs [v1]) (h2 : R (hpOf w) a0_p.p.has [v2]) (h3 : R (hpOf w) a0_p.p.acked [v3]) (h4 : R (hpOf w) a0_p.p.hashes [v4]) (h5 : R (hpOf w) a0_p.l [v5]) {r : Bool} (H : thronglaw28_only a0_p a1_do = some r) : Calls Tryz.prog 9 #[.agg #[.int .i64 a0_p.p.id, .int .i64 a0_p.p.players, .int .i64 a0_p.p.delay, .int .i64 a0_p.p.turn, .int .i64 a0_p.p.said, v0, v1, v2, v3, v4, .bool a0_p.p.split, v5], .int .i64 a1_do] w fun e w' => e = .returned (.bool r) ∧ Ext w w' := by
 have hm0 := R_max h0
 obtain ⟨p0, c0, rfl⟩ := R_form h0
 have hm1 := R_max h1
 obtain ⟨p1, c1, rfl⟩ := R_form h1
 have hm2 := R_max h2
 obtain ⟨p2, c2, rfl⟩ := R_form h2
 have hm3 := R_max h3
 obtain ⟨p3, c3, rfl⟩ := R_form h3
 have hm4 := R_max h4
 obtain ⟨p4, c4, rfl⟩ := R_form h4
 have hm5 := R_max h5
 obtain ⟨p5, c5, rfl⟩ := R_form h5
 unfold thronglaw28_only at H
 refine T.enter (args := [_, _]) (S := Sat w []) Tryz.func9 rfl rfl (Sat.start w) ?_
 refine T.seq fun K1 hK1 => T.region (RS.solid (Sd.box (cs := [_, _, _, _, _, _, _, _, _, _, _, _]) rfl rfl) rfl rfl fun b1 => rA rfl (RS.nil (hK1 _ _ ?_)))
 refine T.seq fun K2 hK2 => T.seq fun K3 hK3 => T.region (rq (Qt.ldBA (us := [_, _, _, _, _, _, _, _, _, _, _, _]) 0 ty29 rfl rfl rfl rfl) ?_)
 obtain ⟨x2, hx2, H⟩ := bindE H
 refine rq (Qt.call (vs := [.agg #[.int .i64 a0_p.p.id, .int .i64 a0_p.p.players, .int .i64 a0_p.p.delay, .int .i64 a0_p.p.turn, .int .i64 a0_p.p.said, .slice p0 a0_p.p.mine.length c0, .slice p1 a0_p.p.inputs.length c1, .slice p2 a0_p.p.has.length c2, .slice p3 a0_p.p.acked.length c3, .slice p4 a0_p.p.hashes.length c4, .bool a0_p.p.split, .slice p5 a0_p.l.length c5]]) ent10 rfl fun w s => thronglaw28_heavy_walk a0_p w ((Rd.base h0) w s) ((Rd.base h1) w s) ((Rd.base h2) w s) ((Rd.base h3) w s) ((Rd.base h4) w s) ((Rd.base h5) w s) hx2) (RS.nil (hK3 _ _ ?_))
 refine T.cond rfl (fun hc3 => ?_) (fun hc3 => ?_)
 ·have H := ifT hc3 H
  refine cq [] ?_
  refine T.seq fun K4 hK4 => T.region (rA rfl (RS.nil (hK4 _ _ ?_)))
  obtain rfl := sj H
  refine T.rt (Cont.ret1 rfl rfl fun w' s => ?_)
  exact ⟨rfl, s.ext⟩
 ·have H := ifB hc3 H
  refine T.skip (hK2 _ _ (cq [(1, _), (2, _)] ?_))
  refine T.seq fun K5 hK5 => T.seq fun K6 hK6 => T.region (rA rfl (RS.nil (hK6 _ _ ?_)))
  refine T.joinE (σ := Unit) (γ := Unit) H Ex.go [] trivial (fun _ _ => []) (fun _ _ => Sat w [blk b1 [.int .i64 a0_p.p.id, .int .i64 a0_p.p.players, .int .i64 a0_p.p.delay, .int .i64 a0_p.p.turn, .int .i64 a0_p.p.said, .slice p0 a0_p.p.mine.length c0, .slice p1 a0_p.p.inputs.length c1, .slice p2 a0_p.p.has.length c2, .slice p3 a0_p.p.acked.length c3, .slice p4 a0_p.p.hashes.length c4, .bool a0_p.p.split, .slice p5 a0_p.l.length c5] 29]) ?_ ?_
  ·rintro ⟨⟩ ⟨⟩ H
   try dsimp only [Ex.then] at H
   refine Cont.conseq (fr' := []) ?_ trivial (fun _ s => s)
   refine id (hK5 _ _ ?_)
   refine T.seq fun K7 hK7 => T.region ?_
   obtain ⟨x5, hx5, H⟩ := bindE H
   refine rq (Qt.call (vs := []) ent16 rfl fun w s => thronglaw28_wakes_walk  w  hx5) (rA rfl (RS.nil (hK7 _ _ ?_)))
   obtain rfl := sj H
   refine T.rt (Cont.ret1 rfl rfl fun w' s => ?_)
   exact ⟨rfl, s.ext⟩
  ·intro z4 hz4 HX4 hJ4
   refine T.block ?_
   refine T.loopA (γ := Unit) hz4 [(1, _), (2, _)] (fun v6 _ => [(5, .int .i64 v6)]) (fun v6 _ => Sat w [blk b1 [.int .i64 a0_p.p.id, .int .i64 a0_p.p.players, .int .i64 a0_p.p.delay, .int .i64 a0_p.p.turn, .int .i64 a0_p.p.said, .slice p0 a0_p.p.mine.length c0, .slice p1 a0_p.p.inputs.length c1, .slice p2 a0_p.p.has.length c2, .slice p3 a0_p.p.acked.length c3, .slice p4 a0_p.p.hashes.length c4, .bool a0_p.p.split, .slice p5 a0_p.l.length c5] 29]) () ⟨rfl, rfl, trivial⟩ ⟨rfl, trivial⟩ (fun w s => s) ?_
   rintro v6 ⟨⟩ y7 H hd4 KL4 hL4
   try dsimp only [Ex.then] at H
   refine cq [(5, _), (1, _), (2, _)] ?_
   refine T.seq fun K8 hK8 => T.seq fun K9 hK9 => T.region (rM rfl (rp (Pu.fieldAddr fd29_1 rfl) (rq (Qt.ldB 0 ty27 rfl rfl rfl) (rp (Pu.lenSl sl27 rfl) (rp (Pu.bin rfl rfl rfl) (rM rfl ?_))))))
   refine RS.joinV 3 19 (.bool (decide ((v6 < (a0_p.l.length : Int)) ∧ (v6 < 12)))) [(1, _), (2, _), (5, _)] ⟨rfl, rfl, rfl, trivial⟩ ?_ ?_
   ·refine RS.nil (hK9 _ _ ?_)
    refine T.condP rfl (fun hc10 => ?_) (fun hc10 => ?_)
    ·have H := ifT hc10 H
     refine T.skip (hK8 _ _ ?_)
     refine T.seq fun K10 hK10 => T.block (T.seq fun K11 hK11 => T.region (rp (Pu.fieldAddr fd29_1 rfl) (rq (Qt.ldB 0 ty27 rfl rfl rfl) (rM rfl ?_))))
     obtain ⟨g11, H⟩ := gdE H
     obtain ⟨bl12, ol13, rfl⟩ := R_ptr h5 (ne_of_pos (pos_of g11))
     refine rp (Pu.indexSl sl27 rfl rfl g11) ?_
     obtain ⟨c14, hc15, ha16⟩ := R_el (α := Act28) h5 g11
     obtain ⟨u17, u18, rfl, hu17, hu18⟩ := hc15
     obtain ⟨p19, cc20, rfl⟩ := R_form hu17
     obtain ⟨p21, cc22, rfl⟩ := R_form hu18
     refine rq (Qt.ldZ (cs := [_, _, _, _, _, _, _, _, _, _, _, _]) ty46 rfl ha16 Held.base rfl) (RS.solid (Sd.alloc zr46 rfl) rfl rfl fun b23 => RS.solid (Sd.stB (cs' := [_, _, _, _, _, _, _, _, _, _, _, _]) 1 ty46 rfl rfl rfl rfl rfl rfl rfl rfl) rfl rfl fun _ => RS.nil (hK11 _ _ (cq [(1, _), (2, _), (5, _), (6, _)] ?_)))
     refine T.seq fun K12 hK12 => T.region (rM rfl (rp (Pu.fieldAddr fd46_0 rfl) (RS.solid (Sd.stB (cs' := [_, _, _, _, _, _, _, _, _, _, _, _]) 1 ty3 rfl rfl rfl rfl rfl rfl rfl rfl) rfl rfl fun _ => RS.nil (hK12 _ _ ?_))))
     refine T.seq fun K13 hK13 => T.region (rp (Pu.fieldAddr fd29_0 rfl) (rq (Qt.ldBA (us := [_, _, _, _, _, _, _, _, _, _, _]) 0 ty26 rfl rfl rfl rfl) (rq (Qt.ldBA (us := [_, _, _, _, _, _, _, _, _, _, _, _]) 1 ty46 rfl rfl rfl rfl) ?_)))
     obtain ⟨x24, hx24, H⟩ := bindE H
     refine RS.solid (Sd.callN (vs := [.agg #[.int .i64 a0_p.p.id, .int .i64 a0_p.p.players, .int .i64 a0_p.p.delay, .int .i64 a0_p.p.turn, .int .i64 a0_p.p.said, .slice p0 a0_p.p.mine.length c0, .slice p1 a0_p.p.inputs.length c1, .slice p2 a0_p.p.has.length c2, .slice p3 a0_p.p.acked.length c3, .slice p4 a0_p.p.hashes.length c4, .bool a0_p.p.split], .agg #[.int .i64 a1_do, .slice p19 ((gi a0_p.l v6).l).length cc20, .int .i64 (((gi a0_p.l v6).n).frm), .int .i64 (((gi a0_p.l v6).n).dst), .int .i64 ((((gi a0_p.l v6).n).input).turn), .int .i64 ((((gi a0_p.l v6).n).input).player), .slice p21 ((((gi a0_p.l v6).n).input).commands).length cc22, .int .i64 (((gi a0_p.l v6).n).don), .int .u64 ((((gi a0_p.l v6).n).hash).toNat : Int), .int .i64 (((gi a0_p.l v6).n).hav), .bool ((gi a0_p.l v6).fit), .int .u64 (((gi a0_p.l v6).h).toNat : Int)]]) ent15 rfl (fun w s => thronglaw28_step_walk a0_p.p (⟨a1_do, (gi a0_p.l v6).l, ((gi a0_p.l v6).n), (gi a0_p.l v6).fit, ((gi a0_p.l v6).h)⟩ : Act28) w (_) (s.ext.hp) (h0) (h1) (h2) (h3) (h4) ((Rd.base hu17) w s) ((Rd.base hu18) w s) hx24)) rfl rfl fun ⟨u25, u26, u27, u28, u29⟩ => ?_
     refine RS.know (p := ∃ p c, u25 = .slice p x24.1.mine.length c) (fun w s => Sat.dat_form (k := 2) s rfl) ?_
     rintro ⟨p30, cc31, rfl⟩
     refine RS.know (p := ∃ p c, u26 = .slice p x24.1.inputs.length c) (fun w s => Sat.dat_form (k := 3) s rfl) ?_
     rintro ⟨p32, cc33, rfl⟩
     refine RS.know (p := ∃ p c, u27 = .slice p x24.1.has.length c) (fun w s => Sat.dat_form (k := 4) s rfl) ?_
     rintro ⟨p34, cc35, rfl⟩
     refine RS.know (p := ∃ p c, u28 = .slice p x24.1.acked.length c) (fun w s => Sat.dat_form (k := 5) s rfl) ?_
     rintro ⟨p36, cc37, rfl⟩
     refine RS.know (p := ∃ p c, u29 = .slice p x24.1.hashes.length c) (fun w s => Sat.dat_form (k := 6) s rfl) ?_
     rintro ⟨p38, cc39, rfl⟩
     refine rM rfl (rp (Pu.extract rfl rfl) (rp (Pu.extract rfl rfl) (RS.solid (Sd.alloc zr26 rfl) rfl rfl fun b40 => RS.solid (Sd.stB (cs' := [_, _, _, _, _, _, _, _, _, _, _]) 7 ty26 rfl rfl rfl rfl rfl rfl rfl rfl) rfl rfl fun _ => rA rfl (RS.nil (hK13 _ _ (cq [(1, _), (2, _), (5, _), (8, _)] ?_))))))
     refine T.seq fun K14 hK14 => ?_
     try dsimp only [List.set, List.cons_append, List.nil_append]
     refine T.region (rM rfl (rp (Pu.not rfl) (RS.nil (hK14 _ _ ?_))))
     refine T.cond rfl (fun hc41 => ?_) (fun hc41 => ?_)
     ·have H := ifT hc41 H
      refine cq [] ?_
      refine T.seq fun K15 hK15 => T.region (rA rfl (RS.nil (hK15 _ _ ?_)))
      obtain rfl := hd4 _ H
      have H := HX4
      obtain rfl := sj H
      try dsimp only [List.set, List.cons_append, List.nil_append]
      refine T.rt (Cont.ret1 rfl rfl fun w' s => ?_)
      exact ⟨rfl, s.ext⟩
     ·have H := ifB hc41 H
      refine T.skip (hK10 _ _ (cq [(1, _), (2, _), (5, _)] ?_))
      try dsimp only [List.set, List.cons_append, List.nil_append]
      refine T.region (rM rfl ?_)
      obtain ⟨g42, H⟩ := gdE H
      refine rp (Pu.addS rfl rfl g42) (rA rfl (RS.nil (hL4 _ _ (v6 + 1) () H ⟨rfl, rfl, trivial⟩ ⟨rfl, trivial⟩ (fun w s => s.pick [0] (by decide) rfl))))
    ·have H := ifF hc10 H
     obtain rfl := hd4 _ H
     refine T.xt (hJ4 _ _ () () HX4 trivial trivial (fun w s => s))
   ·intro hJ9
    refine RS.splitP 16 rfl (fun hc8 => ?_) (fun hc8 => ?_)
    ·refine rM rfl (rp (Pu.bin rfl rfl rfl) (rp (Pu.pickT rfl rfl) ?_))
     exact hJ9 _ _ ⟨dAndT hc8, rfl, rfl, rfl, trivial⟩ (fun w s => s)
    ·refine ro (ro (rp (Pu.pickF rfl rfl) ?_))
     exact hJ9 _ _ ⟨dAndF hc8, rfl, rfl, rfl, trivial⟩ (fun w s => s)
end Go.Proofs.YtnadebijiaelkaaGreat
