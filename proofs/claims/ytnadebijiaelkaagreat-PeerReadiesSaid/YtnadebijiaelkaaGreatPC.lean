/-
  Walks of the page's steps.
-/
import Derived.Test.YtnadebijiaelkaaGreatRows
import Derived.Test.YtnadebijiaelkaaGreatW3
import Derived.Test.YtnadebijiaelkaaGreatPB
import Derived.Test.YtnadebijiaelkaaGreatW5
set_option linter.unusedVariables false
set_option linter.unusedSimpArgs false
set_option maxRecDepth 20000
set_option maxHeartbeats 4000000
namespace Go.Proofs.YtnadebijiaelkaaGreat
open Go.Vg
open Enc (R)
theorem ent10 : Ent Tryz.prog 10 := ⟨_, _, Tryz.func10, by kernel_rfl, rfl⟩
theorem ent11 : Ent Tryz.prog 11 := ⟨_, _, Tryz.func11, by kernel_rfl, rfl⟩
theorem ent15 : Ent Tryz.prog 15 := ⟨_, _, Tryz.func15, by kernel_rfl, rfl⟩
theorem ent16 : Ent Tryz.prog 16 := ⟨_, _, Tryz.func16, by kernel_rfl, rfl⟩
theorem ent28 : Ent Tryz.prog 28 := ⟨_, _, Tryz.func28, by kernel_rfl, rfl⟩
theorem ent29 : Ent Tryz.prog 29 := ⟨_, _, Tryz.func29, by kernel_rfl, rfl⟩
theorem ent31 : Ent Tryz.prog 31 := ⟨_, _, Tryz.func31, by kernel_rfl, rfl⟩
theorem ent33 : Ent Tryz.prog 33 := ⟨_, _, Tryz.func33, by kernel_rfl, rfl⟩
theorem ent34 : Ent Tryz.prog 34 := ⟨_, _, Tryz.func34, by kernel_rfl, rfl⟩
theorem ent35 : Ent Tryz.prog 35 := ⟨_, _, Tryz.func35, by kernel_rfl, rfl⟩
theorem ent36 : Ent Tryz.prog 36 := ⟨_, _, Tryz.func36, by kernel_rfl, rfl⟩
theorem ent37 : Ent Tryz.prog 37 := ⟨_, _, Tryz.func37, by kernel_rfl, rfl⟩
theorem ent38 : Ent Tryz.prog 38 := ⟨_, _, Tryz.func38, by kernel_rfl, rfl⟩
theorem ent39 : Ent Tryz.prog 39 := ⟨_, _, Tryz.func39, by kernel_rfl, rfl⟩
theorem ent42 : Ent Tryz.prog 42 := ⟨_, _, Tryz.func42, by kernel_rfl, rfl⟩
theorem ent43 : Ent Tryz.prog 43 := ⟨_, _, Tryz.func43, by kernel_rfl, rfl⟩
theorem ent44 : Ent Tryz.prog 44 := ⟨_, _, Tryz.func44, by kernel_rfl, rfl⟩
theorem ent46 : Ent Tryz.prog 46 := ⟨_, _, Tryz.func46, by kernel_rfl, rfl⟩
theorem ent47 : Ent Tryz.prog 47 := ⟨_, _, Tryz.func47, by kernel_rfl, rfl⟩
theorem ent58 : Ent Tryz.prog 58 := ⟨_, _, Tryz.func58, by kernel_rfl, rfl⟩
theorem ent66 : Ent Tryz.prog 66 := ⟨_, _, Tryz.func66, by kernel_rfl, rfl⟩
theorem ent73 : Ent Tryz.prog 73 := ⟨_, _, Tryz.func73, by kernel_rfl, rfl⟩
theorem ent74 : Ent Tryz.prog 74 := ⟨_, _, Tryz.func74, by kernel_rfl, rfl⟩
theorem ent81 : Ent Tryz.prog 81 := ⟨_, _, Tryz.func81, by kernel_rfl, rfl⟩
theorem ent82 : Ent Tryz.prog 82 := ⟨_, _, Tryz.func82, by kernel_rfl, rfl⟩
theorem fd46_0 : fdOff Tryz.prog 46 0 = some 0 := by kernel_rfl
theorem ty29 : tySz Tryz.prog 29 = some (12, true) := by kernel_rfl
theorem ty46 : tySz Tryz.prog 46 = some (12, true) := by kernel_rfl
theorem zr46 : zeroOf Tryz.prog 46 = some (.agg #[.int .i64 0, .slice none 0 0, .int .i64 0, .int .i64 0, .int .i64 0, .int .i64 0, .slice none 0 0, .int .i64 0, .int .u64 0, .int .i64 0, .bool false, .int .u64 0]) := by kernel_rfl
theorem throngref27_Say_walk (a0_p : Per) (a1_l : List Cmd) (w : World) {v0 v1 v2 v3 v4 v5 : Value} (B : Hp) (hB : B.le (hpOf w)) (h0 : R B a0_p.mine [v0]) (h1 : R B a0_p.inputs [v1]) (h2 : R B a0_p.has [v2]) (h3 : R B a0_p.acked [v3]) (h4 : R B a0_p.hashes [v4]) (h5 : R (hpOf w) a1_l [v5]) {r : Per × Int} (H : throngref27_Say a0_p a1_l = some r) : Calls Tryz.prog 44 #[.agg #[.int .i64 a0_p.id, .int .i64 a0_p.players, .int .i64 a0_p.delay, .int .i64 a0_p.turn, .int .i64 a0_p.said, v0, v1, v2, v3, v4, .bool a0_p.split], v5] w fun e w' => ∃ g : Value × Value × Value × Value × Value, e = .returned (.tuple #[.agg #[.int .i64 r.1.id, .int .i64 r.1.players, .int .i64 r.1.delay, .int .i64 r.1.turn, .int .i64 r.1.said, g.1, g.2.1, g.2.2.1, g.2.2.2.1, g.2.2.2.2, .bool r.1.split], .int .i64 r.2]) ∧ Sat w [dat B (r.1.mine : List Inp) [g.1], dat B (r.1.inputs : List Inp) [g.2.1], dat B (r.1.has : List Int) [g.2.2.1], dat B (r.1.acked : List Int) [g.2.2.2.1], dat B (r.1.hashes : List UInt64) [g.2.2.2.2]] w' := by
 have hm0 := R_max h0
 obtain ⟨p0, c0, rfl⟩ := R_form h0
 have hb0 := Enc.mono hB h0
 have hm1 := R_max h1
 obtain ⟨p1, c1, rfl⟩ := R_form h1
 have hb1 := Enc.mono hB h1
 have hm2 := R_max h2
 obtain ⟨p2, c2, rfl⟩ := R_form h2
 have hb2 := Enc.mono hB h2
 have hm3 := R_max h3
 obtain ⟨p3, c3, rfl⟩ := R_form h3
 have hb3 := Enc.mono hB h3
 have hm4 := R_max h4
 obtain ⟨p4, c4, rfl⟩ := R_form h4
 have hb4 := Enc.mono hB h4
 have hm5 := R_max h5
 obtain ⟨p5, c5, rfl⟩ := R_form h5
 unfold throngref27_Say at H
 refine T.enter (args := [_, _]) (S := Sat w []) Tryz.func44 rfl rfl (Sat.start w) ?_
 refine T.seq fun K1 hK1 => T.region (RS.solid (Sd.box (cs := [_, _, _, _, _, _, _, _, _, _, _]) rfl rfl) rfl rfl fun b1 => RS.solid (Sd.alloc zr26 rfl) rfl rfl fun b2 => rA rfl (RS.nil (hK1 _ _ ?_)))
 refine T.seq fun K2 hK2 => T.seq fun K3 hK3 => T.region (rp (Pu.fieldAddr fd26_4 rfl) (rq (Qt.ldB 0 ty3 rfl rfl rfl) (rp (Pu.fieldAddr fd26_3 rfl) (rq (Qt.ldB 0 ty3 rfl rfl rfl) (rp (Pu.fieldAddr fd26_2 rfl) (rq (Qt.ldB 0 ty3 rfl rfl rfl) ?_))))))
 obtain ⟨g3, H⟩ := gdE H
 refine rp (Pu.addS rfl rfl g3) ?_
 obtain ⟨g4, H⟩ := gdE H
 refine rp (Pu.subS rfl rfl g4) (rp (Pu.bin rfl rfl rfl) (rM rfl ?_))
 refine RS.joinV 4 21 (.bool (decide ((a0_p.said = ((a0_p.turn + a0_p.delay) - 1)) ∨ (a0_p.said = 1099511627776)))) [(1, _), (2, _), (4, _)] ⟨rfl, rfl, rfl, trivial⟩ ?_ ?_
 ·refine RS.nil (hK3 _ _ ?_)
  refine T.condP rfl (fun hc7 => ?_) (fun hc7 => ?_)
  ·have H := ifT hc7 H
   refine T.seq fun K4 hK4 => T.region (rq (Qt.ldBA (us := [_, _, _, _, _, _, _, _, _, _, _]) 0 ty26 rfl rfl rfl rfl) (RS.solid (Sd.stB (cs' := [_, _, _, _, _, _, _, _, _, _, _]) 1 ty26 rfl rfl rfl rfl rfl rfl rfl rfl) rfl rfl fun _ => rA rfl (RS.nil (hK4 _ _ (cq [(4, _), (5, _)] ?_)))))
   obtain rfl := sj H
   refine T.rt (Cont.retCT 1 rfl ty26 rfl rfl rfl rfl fun w' s => ?_)
   exact ⟨⟨(.slice p0 a0_p.mine.length c0), (.slice p1 a0_p.inputs.length c1), (.slice p2 a0_p.has.length c2), (.slice p3 a0_p.acked.length c3), (.slice p4 a0_p.hashes.length c4)⟩, rfl, (Sat.baseDat (B := B) hB (Sat.baseDat (B := B) hB (Sat.baseDat (B := B) hB (Sat.baseDat (B := B) hB (Sat.baseDat (B := B) hB s h0) h1) h2) h3) h4).pick [2, 3, 4, 5, 6] (by decide) rfl⟩
  ·have H := ifF hc7 H
   refine T.skip (hK2 _ _ ?_)
   refine T.joinA (σ := List Cmd) (γ := Nat × (Option Nat × Nat)) H (fun s => s) [(2, _), (4, _)] ⟨rfl, rfl, trivial⟩ (fun v10 (q9, q11) => [(6, .pointer (some ⟨q9, 0, none⟩))]) (fun v10 (q9, q11) => Sat w [blk b1 [.int .i64 a0_p.id, .int .i64 a0_p.players, .int .i64 a0_p.delay, .int .i64 a0_p.turn, .int .i64 a0_p.said, .slice p0 a0_p.mine.length c0, .slice p1 a0_p.inputs.length c1, .slice p2 a0_p.has.length c2, .slice p3 a0_p.acked.length c3, .slice p4 a0_p.hashes.length c4, .bool a0_p.split] 26, blk b2 [.int .i64 0, .int .i64 0, .int .i64 0, .int .i64 0, .int .i64 0, .slice none 0 0, .slice none 0 0, .slice none 0 0, .slice none 0 0, .slice none 0 0, .bool false] 26, blk q9 [.int .i64 (a0_p.said + 1), .int .i64 a0_p.id, rowV q11 v10.length] 41, drow 88 (rowV q11 v10.length) v10]) ?_ ?_
   ·rintro v10 ⟨q9, q11⟩ H
    try dsimp only [Ex.then] at H
    refine cq [(6, _), (2, _), (4, _)] ?_
    refine T.seq fun K6 hK6 => T.seq fun K7 hK7 => T.region (rq (Qt.ldBA (us := [_, _, _]) 2 ty41 rfl rfl rfl rfl) ?_)
    obtain ⟨x12, hx12, H⟩ := bindE H
    refine rq (Qt.call (vs := [.agg #[.int .i64 (a0_p.said + 1), .int .i64 a0_p.id, rowV q11 v10.length]]) ent50 rfl fun w s => throngref27_May_walk (⟨(a0_p.said + 1), a0_p.id, v10⟩ : Inp) w ((Rd.ofG 3 rfl) w s) hx12) (rp (Pu.not rfl) (RS.nil (hK7 _ _ ?_)))
    refine T.cond rfl (fun hc13 => ?_) (fun hc13 => ?_)
    ·have H := ifT hc13 H
     refine cq [(2, _), (4, _)] ?_
     refine T.seq fun K8 hK8 => T.region (rq (Qt.ldBA (us := [_, _, _, _, _, _, _, _, _, _, _]) 0 ty26 rfl rfl rfl rfl) (RS.solid (Sd.stB (cs' := [_, _, _, _, _, _, _, _, _, _, _]) 1 ty26 rfl rfl rfl rfl rfl rfl rfl rfl) rfl rfl fun _ => rA rfl (RS.nil (hK8 _ _ ?_))))
     obtain rfl := sj H
     refine T.rt (Cont.retCT 1 rfl ty26 rfl rfl rfl rfl fun w' s => ?_)
     exact ⟨⟨(.slice p0 a0_p.mine.length c0), (.slice p1 a0_p.inputs.length c1), (.slice p2 a0_p.has.length c2), (.slice p3 a0_p.acked.length c3), (.slice p4 a0_p.hashes.length c4)⟩, rfl, (Sat.baseDat (B := B) hB (Sat.baseDat (B := B) hB (Sat.baseDat (B := B) hB (Sat.baseDat (B := B) hB (Sat.baseDat (B := B) hB s h0) h1) h2) h3) h4).pick [4, 5, 6, 7, 8] (by decide) rfl⟩
    ·have H := ifB hc13 H
     refine T.skip (hK6 _ _ (cq [(2, _), (4, _), (6, _)] ?_))
     refine T.seq fun K9 hK9 => T.region (rq (Qt.ldBA (us := [_, _, _, _, _, _, _, _, _, _, _]) 0 ty26 rfl rfl rfl rfl) ?_)
     obtain ⟨x14, hx14, H⟩ := bindE H
     refine RS.solid (Sd.callN (vs := [.agg #[.int .i64 a0_p.id, .int .i64 a0_p.players, .int .i64 a0_p.delay, .int .i64 a0_p.turn, .int .i64 a0_p.said, .slice p0 a0_p.mine.length c0, .slice p1 a0_p.inputs.length c1, .slice p2 a0_p.has.length c2, .slice p3 a0_p.acked.length c3, .slice p4 a0_p.hashes.length c4, .bool a0_p.split]]) ent11 rfl (fun w s => throngref0_CopyPeer_walk a0_p w ((Rd.base hb0) w s) ((Rd.base hb1) w s) ((Rd.base hb2) w s) ((Rd.base hb3) w s) ((Rd.base hb4) w s) hx14)) rfl rfl fun ⟨q15, q16, q17, q18, q19⟩ => ?_
     refine RS.solid (Sd.alloc zr26 rfl) rfl rfl fun b20 => RS.solid (Sd.stB (cs' := [_, _, _, _, _, _, _, _, _, _, _]) 9 ty26 rfl rfl rfl rfl rfl rfl rfl rfl) rfl rfl fun _ => RS.nil (hK9 _ _ ?_)
     refine T.seq fun K10 hK10 => ?_
     try dsimp only [List.set, List.cons_append, List.nil_append]
     refine T.region (rp (Pu.fieldAddr fd26_6 rfl) (rq (Qt.ldB 9 ty22 rfl rfl rfl) (rq (Qt.ldBA (us := [_, _, _]) 2 ty41 rfl rfl rfl rfl) ?_)))
     obtain ⟨x21, hx21, H⟩ := bindE H
     refine RS.solid (Sd.callN (vs := [rowV q16 x14.inputs.length, .agg #[.int .i64 (a0_p.said + 1), .int .i64 a0_p.id, rowV q11 v10.length]]) ent59 rfl (fun w s => throngref27_Put_walk x14.inputs (⟨(a0_p.said + 1), a0_p.id, v10⟩ : Inp) w ((Rd.ofG 5 rfl) w s) ((Rd.ofG 3 rfl) w s) hx21)) rfl rfl fun q22 => rM rfl (rp (Pu.extract rfl rfl) (rp (Pu.extract rfl rfl) (rp (Pu.fieldAddr fd26_6 rfl) (RS.solid (Sd.stB (cs' := [_, _, _, _, _, _, _, _, _, _, _]) 9 ty22 rfl rfl rfl rfl rfl rfl rfl rfl) rfl rfl fun _ => RS.nil (hK10 _ _ (cq [(2, _), (4, _), (6, _), (7, _)] ?_))))))
     refine T.seq fun K11 hK11 => T.seq fun K12 hK12 => ?_
     try dsimp only [List.set, List.cons_append, List.nil_append]
     refine T.region (rp (Pu.fieldAddr fd26_1 rfl) (rq (Qt.ldB 0 ty3 rfl rfl rfl) (rp (Pu.bin rfl rfl rfl) (RS.nil (hK12 _ _ ?_)))))
     refine T.joinE (σ := List Inp) (γ := (Option Nat × Nat)) H (fun s => s) [(2, _), (4, _), (7, _)] ⟨rfl, rfl, rfl, trivial⟩ (fun v24 q25 => []) (fun v24 q25 => Sat w [blk b1 [.int .i64 a0_p.id, .int .i64 a0_p.players, .int .i64 a0_p.delay, .int .i64 a0_p.turn, .int .i64 a0_p.said, .slice p0 a0_p.mine.length c0, .slice p1 a0_p.inputs.length c1, .slice p2 a0_p.has.length c2, .slice p3 a0_p.acked.length c3, .slice p4 a0_p.hashes.length c4, .bool a0_p.split] 26, blk b2 [.int .i64 0, .int .i64 0, .int .i64 0, .int .i64 0, .int .i64 0, .slice none 0 0, .slice none 0 0, .slice none 0 0, .slice none 0 0, .slice none 0 0, .bool false] 26, blk q9 [.int .i64 (a0_p.said + 1), .int .i64 a0_p.id, rowV q11 v10.length] 41, drow 88 (rowV q11 v10.length) v10, drow 41 (rowV q25 v24.length) v24, drow 41 (rowV q16 x14.inputs.length) x14.inputs, row nilH 3 (rowV q17 x14.has.length) x14.has, row nilH 3 (rowV q18 x14.acked.length) x14.acked, row nilH 42 (rowV q19 x14.hashes.length) x14.hashes, blk b20 [.int .i64 x14.id, .int .i64 x14.players, .int .i64 x14.delay, .int .i64 x14.turn, .int .i64 x14.said, rowV q25 v24.length, rowV q22 x21.1.length, rowV q17 x14.has.length, rowV q18 x14.acked.length, rowV q19 x14.hashes.length, .bool x14.split] 26, drow 41 (rowV q22 x21.1.length) x21.1]) ?_ ?_
     ·rintro v24 q25 H
      try dsimp only [Ex.then] at H
      refine Cont.conseq (fr' := [(2, _), (4, _), (7, _)]) ?_ ⟨rfl, rfl, rfl, trivial⟩ (fun _ s => s)
      refine id (hK11 _ _ ?_)
      refine T.seq fun K13 hK13 => ?_
      try dsimp only [List.set, List.cons_append, List.nil_append]
      refine T.region (rp (Pu.fieldAddr fd26_4 rfl) (rq (Qt.ldB 9 ty3 rfl rfl rfl) ?_))
      obtain ⟨g26, H⟩ := gdE H
      refine rp (Pu.addS rfl rfl g26) (rp (Pu.fieldAddr fd26_4 rfl) (RS.solid (Sd.stB (cs' := [_, _, _, _, _, _, _, _, _, _, _]) 9 ty3 rfl rfl rfl rfl rfl rfl rfl rfl) rfl rfl fun _ => RS.nil (hK13 _ _ (cq [(2, _), (4, _), (7, _)] ?_))))
      refine T.seq fun K14 hK14 => ?_
      try dsimp only [List.set, List.cons_append, List.nil_append]
      refine T.region (rp (Pu.fieldAddr fd26_7 rfl) (rq (Qt.ldB 9 ty23 rfl rfl rfl) (rp (Pu.fieldAddr fd26_0 rfl) (rq (Qt.ldB 0 ty3 rfl rfl rfl) ?_))))
      obtain ⟨g27, H⟩ := gdE H
      refine rp (Pu.subS rfl rfl g27) (rp (Pu.fieldAddr fd26_4 rfl) (rq (Qt.ldB 9 ty3 rfl rfl rfl) ?_))
      obtain ⟨g28, H⟩ := gdE H
      refine RS.know (p := ∃ g cap, q17 = (some g, cap)) (fun w s => (s.row_some (k := 6) rfl (pos_of g28))) ?_
      rintro ⟨gg29, cc30, rfl⟩
      refine rp (Pu.indexSl sl23 rfl rfl g28) (RS.solid (Sd.st0 (α := Int) 6 (x14.said + 1) rfl ty3 rfl rfl rfl g28 rfl rfl (by decide) rfl (by rintro _ _ rfl; rfl)) rfl rfl fun _ => RS.nil (hK14 _ _ (cq [(2, _), (4, _), (7, _)] ?_)))
      refine T.seq fun K15 hK15 => ?_
      try dsimp only [List.set, List.cons_append, List.nil_append]
      refine T.region (rp (Pu.fieldAddr fd26_8 rfl) (rq (Qt.ldB 9 ty23 rfl rfl rfl) (rp (Pu.fieldAddr fd26_0 rfl) (rq (Qt.ldB 0 ty3 rfl rfl rfl) ?_))))
      obtain ⟨g31, H⟩ := gdE H
      refine rp (Pu.subS rfl rfl g31) (rp (Pu.fieldAddr fd26_4 rfl) (rq (Qt.ldB 9 ty3 rfl rfl rfl) ?_))
      obtain ⟨g32, H⟩ := gdE H
      refine RS.know (p := ∃ g cap, q18 = (some g, cap)) (fun w s => (s.row_some (k := 7) rfl (pos_of g32))) ?_
      rintro ⟨gg33, cc34, rfl⟩
      refine rp (Pu.indexSl sl23 rfl rfl g32) (RS.solid (Sd.st0 (α := Int) 7 (x14.said + 1) rfl ty3 rfl rfl rfl g32 rfl rfl (by decide) rfl (by rintro _ _ rfl; rfl)) rfl rfl fun _ => RS.nil (hK15 _ _ (cq [(4, _), (7, _)] ?_)))
      refine T.seq fun K16 hK16 => ?_
      try dsimp only [List.set, List.cons_append, List.nil_append]
      refine T.region (rq (Qt.ldBA (us := [_, _, _, _, _, _, _, _, _, _, _]) 9 ty26 rfl rfl rfl rfl) (RS.solid (Sd.stB (cs' := [_, _, _, _, _, _, _, _, _, _, _]) 1 ty26 rfl rfl rfl rfl rfl rfl rfl rfl) rfl rfl fun _ => rA rfl (RS.nil (hK16 _ _ ?_))))
      obtain rfl := sj H
      try dsimp only [List.set, List.cons_append, List.nil_append]
      refine T.rt (Cont.retCT 1 rfl ty26 rfl rfl rfl rfl fun w' s => ?_)
      exact ⟨⟨(rowV q25 v24.length), (rowV q22 x21.1.length), (rowV (some gg29, cc30) x14.has.length), (rowV (some gg33, cc34) x14.acked.length), (rowV q19 x14.hashes.length)⟩, rfl, (Sat.rowDat (B := B) (q := q19) (m := x14.hashes.length) 8 (Sat.rowDat (B := B) (q := (some gg33, cc34)) (m := x14.acked.length) 7 (Sat.rowDat (B := B) (q := (some gg29, cc30)) (m := x14.has.length) 6 (Sat.drowDat (B := B) 10 (Sat.drowDat (B := B) 4 s rfl) rfl) rfl) rfl) rfl).pick [4, 10, 6, 7, 8] (by decide) rfl⟩
     ·intro z23 H HX23 hJ23
      refine T.condP rfl (fun hc35 => ?_) (fun hc35 => ?_)
      ·have H := ifT hc35 H
       refine cq [(2, _), (4, _), (6, _), (7, _)] ?_
       try dsimp only [List.set, List.cons_append, List.nil_append]
       refine T.weakS (S' := Sat w [blk b1 [.int .i64 a0_p.id, .int .i64 a0_p.players, .int .i64 a0_p.delay, .int .i64 a0_p.turn, .int .i64 a0_p.said, .slice p0 a0_p.mine.length c0, .slice p1 a0_p.inputs.length c1, .slice p2 a0_p.has.length c2, .slice p3 a0_p.acked.length c3, .slice p4 a0_p.hashes.length c4, .bool a0_p.split] 26, blk b2 [.int .i64 0, .int .i64 0, .int .i64 0, .int .i64 0, .int .i64 0, .slice none 0 0, .slice none 0 0, .slice none 0 0, .slice none 0 0, .slice none 0 0, .bool false] 26, blk q9 [.int .i64 (a0_p.said + 1), .int .i64 a0_p.id, rowV q11 v10.length] 41, drow 88 (rowV q11 v10.length) v10, drow 41 (rowV q15 x14.mine.length) x14.mine, drow 41 (rowV q16 x14.inputs.length) x14.inputs, row nilH 3 (rowV q17 x14.has.length) x14.has, row nilH 3 (rowV q18 x14.acked.length) x14.acked, row nilH 42 (rowV q19 x14.hashes.length) x14.hashes, blk b20 [.int .i64 x14.id, .int .i64 x14.players, .int .i64 x14.delay, .int .i64 x14.turn, .int .i64 x14.said, rowV q15 x14.mine.length, rowV q22 x21.1.length, rowV q17 x14.has.length, rowV q18 x14.acked.length, rowV q19 x14.hashes.length, .bool x14.split] 26, drow 41 (rowV q22 x21.1.length) x21.1]) (fun w s => s) ?_
       refine T.drawnS [0, 1, 2, 3, 5, 6, 7, 8, 10] [(0, .pu), (1, .rd), (2, .wk), (3, .so), (4, .so), (5, .br), (6, .pu), (7, .br)] mixed (by kernel_rfl) rfl ?_
       refine RD.p (fun w s => s.pick [0, 1, 2, 3, 5, 6, 7, 8, 10] (by decide) rfl) rfl (Pu.fieldAddr fd26_5 rfl) rfl rfl (RD.q (fun w s => s.pick [0, 1, 2, 3, 5, 6, 7, 8, 10] (by decide) rfl) rfl (Qt.ldB 9 ty22 rfl rfl rfl) rfl rfl ?_)
       refine RD.w (fun w s => s.pick [0, 1, 2, 3, 5, 6, 7, 8, 10] (by decide) rfl) rfl (Qt.ldBA (us := [_, _, _]) 2 ty41 rfl rfl rfl rfl) rfl rfl ?_
       obtain ⟨x36, hx36, H⟩ := bindE H
       refine RD.solid rfl (.inl rfl) rfl rfl (Sd.callN (vs := [.agg #[.int .i64 (a0_p.said + 1), .int .i64 a0_p.id, rowV q11 v10.length]]) ent49 rfl (fun w s => throngref0_CopyInput_walk (⟨(a0_p.said + 1), a0_p.id, v10⟩ : Inp) w ((Rd.ofG 3 rfl) w s) hx36)) (fun _ => ClE.sat _ _) (fun _ w s => s.pick [0, 1, 2, 3, 5, 6, 7, 8, 10] (by decide) rfl) (fun _ _ _ s => s.drop1) fun q37 => ?_
       refine RD.solid rfl (.inl rfl) rfl rfl (Sd.litS (cs := [_, _, _]) sl22 zr41 rfl rfl rfl rfl rfl) (fun _ => ClE.sat _ _) (fun _ w s => s.pick [0, 1, 2, 3, 5, 6, 7, 8, 10] (by decide) rfl) (fun _ _ _ s => s.drop1) fun b38 => ?_
       obtain ⟨g40, H⟩ := gdE H
       refine RD.solid rfl (.inr rfl) rfl rfl (Sd.pre (fun w s => (Sat.starAt 11 13 (Sat.starAt 11 14 ((s.noStars).noStars) rfl rfl (by decide)) rfl rfl (by decide))) (Sd.appL (α := Inp) 4 12 11 ([x36] : List Inp) rfl rfl rfl (DRF.cons' (α := Inp) (x := x36) (fun _ h => ⟨_, rfl, h⟩) DRF.nil') rfl sl22 zr41 rfl rfl rfl rfl g40 (by decide))) (fun _ => ClE.sat _ _) (fun _ w s => s.pick [0, 1, 2, 3, 5, 6, 7, 8, 10] (by decide) rfl) (fun h => nomatch h) fun q39 => ?_
       refine RD.p (fun w s => s.pick [0, 1, 2, 3, 5, 6, 7, 8, 10] (by decide) rfl) rfl (Pu.fieldAddr fd26_5 rfl) rfl rfl (RD.solid rfl (.inr rfl) rfl rfl (Sd.stB (cs' := [_, _, _, _, _, _, _, _, _, _, _]) 9 ty22 rfl rfl rfl rfl rfl rfl rfl rfl) (fun _ => ClE.sat _ _) (fun _ w s => s.pick [0, 1, 2, 3, 5, 6, 7, 8, 10] (by decide) rfl) (fun h => nomatch h) fun _ => ?_)
       obtain rfl := sj H
       refine RD.nil (hJ23 _ _ (x14.mine ++ ([x36] : List Inp)) q39 HX23 ⟨rfl, rfl, rfl, trivial⟩ trivial (fun w s => s.pick [0, 1, 2, 3, 4, 5, 6, 7, 8, 9, 10] (by decide) rfl))
      ·have H := ifF hc35 H
       obtain rfl := sj H
       refine T.skip (hJ23 _ _ x14.mine q15 HX23 ⟨rfl, rfl, rfl, trivial⟩ trivial (fun w s => s))
   ·intro z8 H HX8 K5 hJ8
    refine T.drawnT (fun _ => True) [(0, .pu), (1, .rd), (2, .pu), (3, .pu), (4, .rd), (5, .pu), (6, .so), (7, .pu), (8, .so), (9, .br)] (.st 0 .pu (.st 1 .rd (.st 2 .pu (.st 3 .pu (.st 4 .rd (.st 5 .pu (.two 6 .so (.st 7 .pu (.st 8 .so (.st 9 .br .nil))) 8 .so (.st 6 .so (.st 7 .pu (.st 9 .br .nil)))))))))) mixed (ClE.sat _ _) (by kernel_rfl) ?_
    refine RT.p (fun _ _ => trivial) rfl (Pu.fieldAddr fd26_4 rfl) rfl rfl (RT.q (fun _ _ => trivial) rfl (Qt.ldB 0 ty3 rfl rfl rfl) rfl rfl ?_)
    obtain ⟨g41, H⟩ := gdE H
    refine RT.p (fun _ _ => trivial) rfl (Pu.addS rfl rfl g41) rfl rfl (RT.p (fun _ _ => trivial) rfl (Pu.fieldAddr fd26_0 rfl) rfl rfl (RT.q (fun _ _ => trivial) rfl (Qt.ldB 0 ty3 rfl rfl rfl) rfl rfl (RT.p (fun _ _ => trivial) rfl (Pu.move rfl) rfl rfl ?_)))
    obtain ⟨x42, hx42, H⟩ := bindE H
    refine RT.two ?_ ?_
    ·refine RT1.solid rfl (.inl rfl) rfl rfl (Sd.callN (vs := [.slice p5 a1_l.length c5]) ent45 rfl (fun w s => throngref0_CopyCommands_walk a1_l w ((Rd.base h5) w s) hx42)) (fun _ => ClE.sat _ _) (fun _ _ _ => trivial) (fun _ _ _ s => s.drop1) fun q242 => ?_
     refine RT.p (fun _ _ => trivial) rfl (Pu.build (cells := [_, _, _]) st41 rfl rfl) rfl rfl (RT.solid rfl (.inl rfl) rfl rfl (Sd.alloc zr41 rfl) (fun _ => ClE.sat _ _) (fun _ _ _ => trivial) (fun _ _ _ s => s.drop1) fun b243 => ?_)
     refine RT.solid rfl (.inr rfl) rfl rfl (Sd.stB (cs' := [_, _, _]) 3 ty41 rfl rfl rfl rfl rfl rfl rfl rfl) (fun _ => ClE.sat _ _) (fun _ _ _ => trivial) (fun h => nomatch h) fun _ => ?_
     obtain rfl := sj H
     refine RT.nil (hJ8 _ _ x42 (b243, q242) HX8 ⟨rfl, rfl, trivial⟩ ⟨rfl, trivial⟩ (fun w s => s.pick [0, 1, 3, 2] (by decide) rfl))
    ·refine RT1.solid rfl (.inl rfl) rfl rfl (Sd.alloc zr41 rfl) (fun _ => ClE.sat _ _) (fun _ _ _ => trivial) (fun _ _ _ s => s.drop1) fun b244 => ?_
     refine RT.solid rfl (.inl rfl) rfl rfl (Sd.callN (vs := [.slice p5 a1_l.length c5]) ent45 rfl (fun w s => throngref0_CopyCommands_walk a1_l w ((Rd.base h5) w s) hx42)) (fun _ => ClE.sat _ _) (fun _ _ _ => trivial) (fun _ _ _ s => s.drop1) fun q245 => ?_
     refine RT.p (fun _ _ => trivial) rfl (Pu.build (cells := [_, _, _]) st41 rfl rfl) rfl rfl (RT.solid rfl (.inr rfl) rfl rfl (Sd.stB (cs' := [_, _, _]) 2 ty41 rfl rfl rfl rfl rfl rfl rfl rfl) (fun _ => ClE.sat _ _) (fun _ _ _ => trivial) (fun h => nomatch h) fun _ => ?_)
     obtain rfl := sj H
     refine RT.nil (hJ8 _ _ x42 (b244, q245) HX8 ⟨rfl, rfl, trivial⟩ ⟨rfl, trivial⟩ (fun w s => s))
 ·intro hJ6
  refine RS.splitP 17 rfl (fun hc5 => ?_) (fun hc5 => ?_)
  ·refine ro (ro (ro (rp (Pu.pickT rfl rfl) ?_)))
   exact hJ6 _ _ ⟨dOrT hc5, rfl, rfl, rfl, trivial⟩ (fun w s => s)
  ·refine rp (Pu.fieldAddr fd26_4 rfl) (rq (Qt.ldB 0 ty3 rfl rfl rfl) (rp (Pu.bin rfl rfl rfl) (rp (Pu.pickF rfl rfl) ?_)))
   exact hJ6 _ _ ⟨dOrF hc5, rfl, rfl, rfl, trivial⟩ (fun w s => s)
theorem throngref27_TakeNote_walk (a0_p : Per) (a1_n : Nte) (w : World) {v0 v1 v2 v3 v4 v5 : Value} (B : Hp) (hB : B.le (hpOf w)) (h0 : R B a0_p.mine [v0]) (h1 : R B a0_p.inputs [v1]) (h2 : R B a0_p.has [v2]) (h3 : R B a0_p.acked [v3]) (h4 : R B a0_p.hashes [v4]) (h5 : R (hpOf w) a1_n.input.commands [v5]) {r : Per × Int} (H : throngref27_TakeNote a0_p a1_n = some r) : Calls Tryz.prog 29 #[.agg #[.int .i64 a0_p.id, .int .i64 a0_p.players, .int .i64 a0_p.delay, .int .i64 a0_p.turn, .int .i64 a0_p.said, v0, v1, v2, v3, v4, .bool a0_p.split], .agg #[.int .i64 a1_n.frm, .int .i64 a1_n.dst, .int .i64 a1_n.input.turn, .int .i64 a1_n.input.player, v5, .int .i64 a1_n.don, .int .u64 (a1_n.hash.toNat : Int), .int .i64 a1_n.hav]] w fun e w' => ∃ g : Value × Value × Value × Value × Value, e = .returned (.tuple #[.agg #[.int .i64 r.1.id, .int .i64 r.1.players, .int .i64 r.1.delay, .int .i64 r.1.turn, .int .i64 r.1.said, g.1, g.2.1, g.2.2.1, g.2.2.2.1, g.2.2.2.2, .bool r.1.split], .int .i64 r.2]) ∧ Sat w [dat B (r.1.mine : List Inp) [g.1], dat B (r.1.inputs : List Inp) [g.2.1], dat B (r.1.has : List Int) [g.2.2.1], dat B (r.1.acked : List Int) [g.2.2.2.1], dat B (r.1.hashes : List UInt64) [g.2.2.2.2]] w' := by
 have hm0 := R_max h0
 obtain ⟨p0, c0, rfl⟩ := R_form h0
 have hb0 := Enc.mono hB h0
 have hm1 := R_max h1
 obtain ⟨p1, c1, rfl⟩ := R_form h1
 have hb1 := Enc.mono hB h1
 have hm2 := R_max h2
 obtain ⟨p2, c2, rfl⟩ := R_form h2
 have hb2 := Enc.mono hB h2
 have hm3 := R_max h3
 obtain ⟨p3, c3, rfl⟩ := R_form h3
 have hb3 := Enc.mono hB h3
 have hm4 := R_max h4
 obtain ⟨p4, c4, rfl⟩ := R_form h4
 have hb4 := Enc.mono hB h4
 have hm5 := R_max h5
 obtain ⟨p5, c5, rfl⟩ := R_form h5
 unfold throngref27_TakeNote at H
 refine T.enter (args := [_, _]) (S := Sat w []) Tryz.func29 rfl rfl (Sat.start w) ?_
 refine T.seq fun K1 hK1 => T.region (RS.solid (Sd.box (cs := [_, _, _, _, _, _, _, _, _, _, _]) rfl rfl) rfl rfl fun b1 => RS.solid (Sd.box (cs := [_, _, _, _, _, _, _, _]) rfl rfl) rfl rfl fun b2 => RS.solid (Sd.alloc zr26 rfl) rfl rfl fun b3 => rA rfl (RS.nil (hK1 _ _ (cq [(2, _), (3, _), (4, _)] ?_))))
 refine T.seq fun K2 hK2 => T.seq fun K3 hK3 => T.region (rq (Qt.ldBA (us := [_, _, _, _, _, _, _, _]) 1 ty44 rfl rfl rfl rfl) ?_)
 obtain ⟨x4, hx4, H⟩ := bindE H
 refine rq (Qt.call (vs := [.agg #[.int .i64 a1_n.frm, .int .i64 a1_n.dst, .int .i64 a1_n.input.turn, .int .i64 a1_n.input.player, .slice p5 a1_n.input.commands.length c5, .int .i64 a1_n.don, .int .u64 (a1_n.hash.toNat : Int), .int .i64 a1_n.hav]]) ent58 rfl fun w s => throngref27_Note_walk a1_n w ((Rd.base h5) w s) hx4) (rp (Pu.not rfl) (rM rfl ?_))
 refine RS.joinV 6 21 (.bool (decide (((!x4) = true) ∨ (¬ a1_n.dst = a0_p.id)))) [(2, _), (3, _), (4, _)] ⟨rfl, rfl, rfl, trivial⟩ ?_ ?_
 ·refine rM rfl ?_
  refine RS.joinV 6 28 (.bool (decide ((((!x4) = true) ∨ (¬ a1_n.dst = a0_p.id)) ∨ (a0_p.players < a1_n.frm)))) [(2, _), (3, _), (4, _)] ⟨rfl, rfl, rfl, trivial⟩ ?_ ?_
  ·refine RS.nil (hK3 _ _ ?_)
   refine T.condP rfl (fun hc9 => ?_) (fun hc9 => ?_)
   ·have H := ifT hc9 H
    refine T.seq fun K4 hK4 => T.region (rq (Qt.ldBA (us := [_, _, _, _, _, _, _, _, _, _, _]) 0 ty26 rfl rfl rfl rfl) (RS.solid (Sd.stB (cs' := [_, _, _, _, _, _, _, _, _, _, _]) 2 ty26 rfl rfl rfl rfl rfl rfl rfl rfl) rfl rfl fun _ => rA rfl (RS.nil (hK4 _ _ (cq [(4, _), (5, _)] ?_)))))
    obtain rfl := sj H
    refine T.rt (Cont.retCT 2 rfl ty26 rfl rfl rfl rfl fun w' s => ?_)
    exact ⟨⟨(.slice p0 a0_p.mine.length c0), (.slice p1 a0_p.inputs.length c1), (.slice p2 a0_p.has.length c2), (.slice p3 a0_p.acked.length c3), (.slice p4 a0_p.hashes.length c4)⟩, rfl, (Sat.baseDat (B := B) hB (Sat.baseDat (B := B) hB (Sat.baseDat (B := B) hB (Sat.baseDat (B := B) hB (Sat.baseDat (B := B) hB s h0) h1) h2) h3) h4).pick [3, 4, 5, 6, 7] (by decide) rfl⟩
   ·have H := ifF hc9 H
    refine T.skip (hK2 _ _ ?_)
    refine T.seq fun K5 hK5 => T.seq fun K6 hK6 => T.region (rp (Pu.fieldAddr fd44_2 rfl) (rp (Pu.fieldAddr fd41_0 rfl) (rq (Qt.ldB 1 ty3 rfl rfl rfl) (rp (Pu.fieldAddr fd26_3 rfl) (rq (Qt.ldB 0 ty3 rfl rfl rfl) ?_)))))
    obtain ⟨g10, H⟩ := gdE H
    refine rp (Pu.addS rfl rfl g10) (rp (Pu.bin rfl rfl rfl) (RS.nil (hK6 _ _ ?_)))
    refine T.condP rfl (fun hc11 => ?_) (fun hc11 => ?_)
    ·have H := ifT hc11 H
     refine cq [(2, _), (4, _)] ?_
     refine T.seq fun K7 hK7 => T.region (rq (Qt.ldBA (us := [_, _, _, _, _, _, _, _, _, _, _]) 0 ty26 rfl rfl rfl rfl) (RS.solid (Sd.stB (cs' := [_, _, _, _, _, _, _, _, _, _, _]) 2 ty26 rfl rfl rfl rfl rfl rfl rfl rfl) rfl rfl fun _ => rA rfl (RS.nil (hK7 _ _ ?_))))
     obtain rfl := sj H
     refine T.rt (Cont.retCT 2 rfl ty26 rfl rfl rfl rfl fun w' s => ?_)
     exact ⟨⟨(.slice p0 a0_p.mine.length c0), (.slice p1 a0_p.inputs.length c1), (.slice p2 a0_p.has.length c2), (.slice p3 a0_p.acked.length c3), (.slice p4 a0_p.hashes.length c4)⟩, rfl, (Sat.baseDat (B := B) hB (Sat.baseDat (B := B) hB (Sat.baseDat (B := B) hB (Sat.baseDat (B := B) hB (Sat.baseDat (B := B) hB s h0) h1) h2) h3) h4).pick [3, 4, 5, 6, 7] (by decide) rfl⟩
    ·have H := ifF hc11 H
     refine T.skip (hK5 _ _ (cq [(2, _), (3, _), (4, _)] ?_))
     refine T.seq fun K8 hK8 => T.region (rq (Qt.ldBA (us := [_, _, _, _, _, _, _, _, _, _, _]) 0 ty26 rfl rfl rfl rfl) ?_)
     obtain ⟨x12, hx12, H⟩ := bindE H
     refine RS.solid (Sd.callN (vs := [.agg #[.int .i64 a0_p.id, .int .i64 a0_p.players, .int .i64 a0_p.delay, .int .i64 a0_p.turn, .int .i64 a0_p.said, .slice p0 a0_p.mine.length c0, .slice p1 a0_p.inputs.length c1, .slice p2 a0_p.has.length c2, .slice p3 a0_p.acked.length c3, .slice p4 a0_p.hashes.length c4, .bool a0_p.split]]) ent11 rfl (fun w s => throngref0_CopyPeer_walk a0_p w ((Rd.base hb0) w s) ((Rd.base hb1) w s) ((Rd.base hb2) w s) ((Rd.base hb3) w s) ((Rd.base hb4) w s) hx12)) rfl rfl fun ⟨q13, q14, q15, q16, q17⟩ => ?_
     refine RS.solid (Sd.alloc zr26 rfl) rfl rfl fun b18 => RS.solid (Sd.stB (cs' := [_, _, _, _, _, _, _, _, _, _, _]) 8 ty26 rfl rfl rfl rfl rfl rfl rfl rfl) rfl rfl fun _ => RS.nil (hK8 _ _ ?_)
     refine T.seq fun K9 hK9 => ?_
     try dsimp only [List.set, List.cons_append, List.nil_append]
     refine T.region (rp (Pu.fieldAddr fd44_0 rfl) (rq (Qt.ldB 1 ty3 rfl rfl rfl) ?_))
     obtain ⟨g19, H⟩ := gdE H
     refine rp (Pu.subS rfl rfl g19) (rA rfl (RS.nil (hK9 _ _ (cq [(2, _), (3, _), (4, _), (6, _), (7, _)] ?_))))
     refine T.seq fun K10 hK10 => T.seq fun K11 hK11 => ?_
     try dsimp only [List.set, List.cons_append, List.nil_append]
     refine T.drawn (fun _ => True) [(0, .pu), (1, .pu), (2, .rd), (3, .pu), (4, .rd), (5, .pu), (6, .pu), (7, .rd), (8, .pu), (9, .pu)] mixed (ClE.sat _ _) (by kernel_rfl) ?_
     refine dp rfl (Pu.fieldAddr fd44_2 rfl) (dp rfl (Pu.fieldAddr fd41_0 rfl) (dq rfl (Qt.ldB 1 ty3 rfl rfl rfl) (dp rfl (Pu.fieldAddr fd26_7 rfl) (dq rfl (Qt.ldB 0 ty23 rfl rfl rfl) (dp rfl (Pu.move rfl) ?_)))))
     obtain ⟨g20, H⟩ := gdE H
     obtain ⟨bl21, ol22, rfl⟩ := R_ptr hb2 (ne_of_pos (pos_of g20))
     refine dp rfl (Pu.indexSl sl23 rfl rfl g20) (dq rfl (Qt.ld0 (α := Int) (Rd.base hb2) ty3 rfl rfl g20 (by rintro _ _ rfl; rfl)) ?_)
     obtain ⟨g23, H⟩ := gdE H
     refine dp rfl (Pu.addS rfl rfl g23) (dp rfl (Pu.bin rfl rfl rfl) (RD.nil (hK11 _ _ ?_)))
     refine T.joinE (σ := List Int × List Inp) (γ := (Option Nat × Nat)) H (fun s => s) [(2, _), (3, _), (4, _), (6, _), (7, _)] ⟨rfl, rfl, rfl, rfl, rfl, trivial⟩ (fun (v25, v26) q27 => []) (fun (v25, v26) q27 => Sat w [blk b1 [.int .i64 a0_p.id, .int .i64 a0_p.players, .int .i64 a0_p.delay, .int .i64 a0_p.turn, .int .i64 a0_p.said, .slice p0 a0_p.mine.length c0, .slice p1 a0_p.inputs.length c1, .slice (some ⟨bl21, ol22, none⟩) a0_p.has.length c2, .slice p3 a0_p.acked.length c3, .slice p4 a0_p.hashes.length c4, .bool a0_p.split] 26, blk b2 [.int .i64 a1_n.frm, .int .i64 a1_n.dst, .int .i64 a1_n.input.turn, .int .i64 a1_n.input.player, .slice p5 a1_n.input.commands.length c5, .int .i64 a1_n.don, .int .u64 (a1_n.hash.toNat : Int), .int .i64 a1_n.hav] 44, blk b3 [.int .i64 0, .int .i64 0, .int .i64 0, .int .i64 0, .int .i64 0, .slice none 0 0, .slice none 0 0, .slice none 0 0, .slice none 0 0, .slice none 0 0, .bool false] 26, drow 41 (rowV q13 x12.mine.length) x12.mine, dead, row nilH 3 (rowV q15 x12.has.length) v25, row nilH 3 (rowV q16 x12.acked.length) x12.acked, row nilH 42 (rowV q17 x12.hashes.length) x12.hashes, blk b18 [.int .i64 x12.id, .int .i64 x12.players, .int .i64 x12.delay, .int .i64 x12.turn, .int .i64 x12.said, rowV q13 x12.mine.length, rowV q27 v26.length, rowV q15 x12.has.length, rowV q16 x12.acked.length, rowV q17 x12.hashes.length, .bool x12.split] 26, drow 41 (rowV q27 v26.length) v26]) ?_ ?_
     ·rintro ⟨v25, v26⟩ q27 H
      try dsimp only [Ex.then] at H
      refine Cont.conseq (fr' := [(2, _), (3, _), (4, _), (6, _), (7, _)]) ?_ ⟨rfl, rfl, rfl, rfl, rfl, trivial⟩ (fun _ s => s)
      refine id (hK10 _ _ ?_)
      refine T.seq fun K12 hK12 => T.seq fun K13 hK13 => ?_
      try dsimp only [List.set, List.cons_append, List.nil_append]
      refine T.drawn (fun _ => True) [(0, .pu), (1, .rd), (2, .pu), (3, .rd), (4, .pu), (5, .pu), (6, .rd), (7, .pu), (8, .pu), (9, .pu), (10, .rd), (11, .pu), (12, .rd), (13, .pu), (14, .pu)] mixed (ClE.sat _ _) (by kernel_rfl) ?_
      refine dp rfl (Pu.fieldAddr fd44_5 rfl) (dq rfl (Qt.ldB 1 ty3 rfl rfl rfl) (dp rfl (Pu.fieldAddr fd26_8 rfl) (dq rfl (Qt.ldB 0 ty23 rfl rfl rfl) (dp rfl (Pu.move rfl) ?_))))
      obtain ⟨g28, H⟩ := gdE H
      obtain ⟨bl29, ol30, rfl⟩ := R_ptr hb3 (ne_of_pos (pos_of g28))
      refine dp rfl (Pu.indexSl sl23 rfl rfl g28) (dq rfl (Qt.ld0 (α := Int) (Rd.base hb3) ty3 rfl rfl g28 (by rintro _ _ rfl; rfl)) (dp rfl (Pu.bin rfl rfl rfl) (dp rfl (Pu.move rfl) ?_)))
      refine RD.joinV 6 83 (.bool (decide (((gi a0_p.acked (a1_n.frm - 1)) < a1_n.hav) ∧ (a1_n.hav ≤ a0_p.said)))) [(2, _), (3, _), (4, _), (6, _), (7, _)] ⟨rfl, rfl, rfl, rfl, rfl, trivial⟩ ?_ ?_
      ·refine RD.nil (hK13 _ _ ?_)
       refine T.exP (fun w s => s.freeze 3 rfl) fun hh34 hz35 => ?_
       refine T.joinE (σ := List Int × List Inp) (γ := (Option Addr) × Nat) H (fun s => s) [(2, _), (3, _), (4, _), (6, _)] ⟨rfl, rfl, rfl, rfl, trivial⟩ (fun (v36, v37) (q38, q39) => []) (fun (v36, v37) (q38, q39) => Sat w [blk b1 [.int .i64 a0_p.id, .int .i64 a0_p.players, .int .i64 a0_p.delay, .int .i64 a0_p.turn, .int .i64 a0_p.said, .slice p0 a0_p.mine.length c0, .slice p1 a0_p.inputs.length c1, .slice (some ⟨bl21, ol22, none⟩) a0_p.has.length c2, .slice (some ⟨bl29, ol30, none⟩) a0_p.acked.length c3, .slice p4 a0_p.hashes.length c4, .bool a0_p.split] 26, blk b2 [.int .i64 a1_n.frm, .int .i64 a1_n.dst, .int .i64 a1_n.input.turn, .int .i64 a1_n.input.player, .slice p5 a1_n.input.commands.length c5, .int .i64 a1_n.don, .int .u64 (a1_n.hash.toNat : Int), .int .i64 a1_n.hav] 44, blk b3 [.int .i64 0, .int .i64 0, .int .i64 0, .int .i64 0, .int .i64 0, .slice none 0 0, .slice none 0 0, .slice none 0 0, .slice none 0 0, .slice none 0 0, .bool false] 26, dead, dead, row nilH 3 (rowV q15 x12.has.length) v25, row nilH 3 (rowV q16 x12.acked.length) v36, row nilH 42 (rowV q17 x12.hashes.length) x12.hashes, blk b18 [.int .i64 x12.id, .int .i64 x12.players, .int .i64 x12.delay, .int .i64 x12.turn, .int .i64 x12.said, .slice q38 v37.length q39, rowV q27 v26.length, rowV q15 x12.has.length, rowV q16 x12.acked.length, rowV q17 x12.hashes.length, .bool x12.split] 26, drow 41 (rowV q27 v26.length) v26, dat B (v37 : List Inp) [.slice q38 v37.length q39]]) ?_ ?_
       ·rintro ⟨v36, v37⟩ ⟨q38, q39⟩ H
        try dsimp only [Ex.then] at H
        refine Cont.conseq (fr' := [(2, _), (3, _), (4, _), (6, _)]) ?_ ⟨rfl, rfl, rfl, rfl, trivial⟩ (fun _ s => s)
        refine id (hK12 _ _ ?_)
        refine T.seq fun K14 hK14 => ?_
        try dsimp only [List.set, List.cons_append, List.nil_append]
        refine T.region (rp (Pu.fieldAddr fd44_3 rfl) (rq (Qt.ldB 1 ty3 rfl rfl rfl) (rp (Pu.fieldAddr fd26_3 rfl) (rq (Qt.ldB 0 ty3 rfl rfl rfl) (rp (Pu.fieldAddr fd26_9 rfl) (rq (Qt.ldB 0 ty24 rfl rfl rfl) (rp (Pu.lenSl sl24 rfl) ?_)))))))
        obtain ⟨g40, H⟩ := gdE H
        refine rp (Pu.subS rfl rfl g40) ?_
        obtain ⟨g41, H⟩ := gdE H
        refine rp (Pu.subS rfl rfl g41) (rA rfl (RS.nil (hK14 _ _ (cq [(2, _), (3, _), (4, _), (6, _), (11, _)] ?_))))
        refine T.seq fun K15 hK15 => T.seq fun K16 hK16 => ?_
        try dsimp only [List.set, List.cons_append, List.nil_append]
        refine T.drawn (fun _ => True) [(0, .pu), (1, .rd), (2, .pu), (3, .rd), (4, .pu), (5, .pu), (6, .pu), (7, .pu), (8, .pu), (9, .pu), (10, .pu), (11, .rd), (12, .pu), (13, .pu), (14, .rd), (15, .pu), (16, .rd), (17, .pu), (18, .pu)] mixed (ClE.sat _ _) (by kernel_rfl) ?_
        refine dp rfl (Pu.fieldAddr fd44_3 rfl) (dq rfl (Qt.ldB 1 ty3 rfl rfl rfl) (dp rfl (Pu.fieldAddr fd26_3 rfl) (dq rfl (Qt.ldB 0 ty3 rfl rfl rfl) (dp rfl (Pu.bin rfl rfl rfl) (dp rfl (Pu.move rfl) ?_)))))
        refine RD.joinV 3 135 (.bool (decide ((a1_n.don < a0_p.turn) ∧ (0 ≤ (a1_n.don - (a0_p.turn - (a0_p.hashes.length : Int))))))) [(2, _), (3, _), (4, _), (6, _), (11, _)] ⟨rfl, rfl, rfl, rfl, rfl, trivial⟩ ?_ ?_
        ·refine dp rfl (Pu.move rfl) ?_
         obtain ⟨g46, H⟩ := gdE H
         refine RD.joinV 9 145 (.bool (decide (((a1_n.don < a0_p.turn) ∧ (0 ≤ (a1_n.don - (a0_p.turn - (a0_p.hashes.length : Int))))) ∧ (¬ ((gi a0_p.hashes (a1_n.don - (a0_p.turn - (a0_p.hashes.length : Int)))).toNat : Int) = (a1_n.hash.toNat : Int))))) [(4, _), (6, _)] ⟨rfl, rfl, trivial⟩ ?_ ?_
         ·refine RD.nil (hK16 _ _ ?_)
          refine T.condP rfl (fun hc47 => ?_) (fun hc47 => ?_)
          ·have H := ifT hc47 H
           try dsimp only [List.set, List.cons_append, List.nil_append]
           refine T.region (rp (Pu.fieldAddr fd26_10 rfl) (RS.solid (Sd.stB (cs' := [_, _, _, _, _, _, _, _, _, _, _]) 8 ty4 rfl rfl rfl rfl rfl rfl rfl rfl) rfl rfl fun _ => RS.nil (hK15 _ _ ?_)))
           refine T.seq fun K17 hK17 => ?_
           try dsimp only [List.set, List.cons_append, List.nil_append]
           refine T.region (rq (Qt.ldBA (us := [_, _, _, _, _, _, _, _, _, _, _]) 8 ty26 rfl rfl rfl rfl) (RS.solid (Sd.stB (cs' := [_, _, _, _, _, _, _, _, _, _, _]) 2 ty26 rfl rfl rfl rfl rfl rfl rfl rfl) rfl rfl fun _ => rA rfl (RS.nil (hK17 _ _ (cq [(4, _), (5, _)] ?_)))))
           obtain rfl := sj H
           try dsimp only [List.set, List.cons_append, List.nil_append]
           refine T.rt (Cont.retCT 2 rfl ty26 rfl rfl rfl rfl fun w' s => ?_)
           exact ⟨⟨(.slice q38 v37.length q39), (rowV q27 v26.length), (rowV q15 x12.has.length), (rowV q16 x12.acked.length), (rowV q17 x12.hashes.length)⟩, rfl, (Sat.rowDat (B := B) (q := q17) (m := x12.hashes.length) 7 (Sat.rowDat (B := B) (q := q16) (m := x12.acked.length) 6 (Sat.rowDat (B := B) (q := q15) (m := x12.has.length) 5 (Sat.drowDat (B := B) 9 s rfl) rfl) rfl) rfl).pick [10, 9, 5, 6, 7] (by decide) rfl⟩
          ·have H := ifF hc47 H
           refine T.skip (hK15 _ _ ?_)
           refine T.seq fun K18 hK18 => ?_
           try dsimp only [List.set, List.cons_append, List.nil_append]
           refine T.region (rq (Qt.ldBA (us := [_, _, _, _, _, _, _, _, _, _, _]) 8 ty26 rfl rfl rfl rfl) (RS.solid (Sd.stB (cs' := [_, _, _, _, _, _, _, _, _, _, _]) 2 ty26 rfl rfl rfl rfl rfl rfl rfl rfl) rfl rfl fun _ => rA rfl (RS.nil (hK18 _ _ (cq [(4, _), (5, _)] ?_)))))
           obtain rfl := sj H
           try dsimp only [List.set, List.cons_append, List.nil_append]
           refine T.rt (Cont.retCT 2 rfl ty26 rfl rfl rfl rfl fun w' s => ?_)
           exact ⟨⟨(.slice q38 v37.length q39), (rowV q27 v26.length), (rowV q15 x12.has.length), (rowV q16 x12.acked.length), (rowV q17 x12.hashes.length)⟩, rfl, (Sat.rowDat (B := B) (q := q17) (m := x12.hashes.length) 7 (Sat.rowDat (B := B) (q := q16) (m := x12.acked.length) 6 (Sat.rowDat (B := B) (q := q15) (m := x12.has.length) 5 (Sat.drowDat (B := B) 9 s rfl) rfl) rfl) rfl).pick [10, 9, 5, 6, 7] (by decide) rfl⟩
         ·intro hJ45
          refine RD.splitP 136 rfl (fun hc44 => ?_) (fun hc44 => ?_)
          ·refine dp rfl (Pu.fieldAddr fd26_9 rfl) (dq rfl (Qt.ldB 0 ty24 rfl rfl rfl) (dp rfl (Pu.move rfl) ?_))
           obtain ⟨bl48, ol49, rfl⟩ := R_ptr hb4 (ne_of_pos (pos_of (g46 hc44)))
           refine dp rfl (Pu.indexSl sl24 rfl rfl (g46 hc44)) (dq rfl (Qt.ld0 (α := UInt64) (Rd.base hb4) ty42 rfl rfl (g46 hc44) (by rintro _ _ rfl; rfl)) (dp rfl (Pu.fieldAddr fd44_4 rfl) (dq rfl (Qt.ldB 1 ty42 rfl rfl rfl) (dp rfl (Pu.bin rfl rfl rfl) (dp rfl (Pu.pickT rfl rfl) ?_)))))
           exact hJ45 _ ⟨dAndT hc44, rfl, rfl, trivial⟩
          ·refine dn rfl (dn rfl (dn rfl (dn rfl (dn rfl (dn rfl (dn rfl (dn rfl (dp rfl (Pu.pickF rfl rfl) ?_))))))))
           exact hJ45 _ ⟨dAndF hc44, rfl, rfl, trivial⟩
        ·intro hJ43
         refine RD.splitP 132 rfl (fun hc42 => ?_) (fun hc42 => ?_)
         ·refine dp rfl (Pu.move rfl) (dp rfl (Pu.bin rfl rfl rfl) (dp rfl (Pu.pickT rfl rfl) ?_))
          exact hJ43 _ ⟨dAndT hc42, rfl, rfl, rfl, rfl, rfl, trivial⟩
         ·refine dn rfl (dn rfl (dp rfl (Pu.pickF rfl rfl) ?_))
          exact hJ43 _ ⟨dAndF hc42, rfl, rfl, rfl, rfl, rfl, trivial⟩
       ·intro z33 H HX33 hJ33
        refine T.condP rfl (fun hc50 => ?_) (fun hc50 => ?_)
        ·have H := ifT hc50 H
         refine T.seq fun K19 hK19 => ?_
         try dsimp only [List.set, List.cons_append, List.nil_append]
         refine T.region (rp (Pu.fieldAddr fd26_8 rfl) (rq (Qt.ldB 8 ty23 rfl rfl rfl) (rM rfl (rp (Pu.fieldAddr fd44_5 rfl) (rq (Qt.ldB 1 ty3 rfl rfl rfl) ?_)))))
         obtain ⟨g51, H⟩ := gdE H
         refine RS.know (p := ∃ g cap, q16 = (some g, cap)) (fun w s => (s.row_some (k := 6) rfl (pos_of g51))) ?_
         rintro ⟨gg52, cc53, rfl⟩
         refine rp (Pu.indexSl sl23 rfl rfl g51) (RS.solid (Sd.st0 (α := Int) 6 a1_n.hav rfl ty3 rfl rfl rfl g51 rfl rfl (by decide) rfl (by rintro _ _ rfl; rfl)) rfl rfl fun _ => RS.nil (hK19 _ _ (cq [(2, _), (3, _), (4, _), (6, _)] ?_)))
         refine T.seq fun K20 hK20 => ?_
         try dsimp only [List.set, List.cons_append, List.nil_append]
         refine T.region (rp (Pu.fieldAddr fd26_8 rfl) (rq (Qt.ldB 8 ty23 rfl rfl rfl) ?_))
         obtain ⟨x54, hx54, H⟩ := bindE H
         refine rq (Qt.call (vs := [rowV (some gg52, cc53) x12.acked.length]) ent25 rfl fun w s => throngref27_least_walk (si x12.acked (a1_n.frm - 1) a1_n.hav) w ((Rd.ofRowN 6 rfl) w s) hx54) (rA rfl (RS.nil (hK20 _ _ (cq [(2, _), (3, _), (4, _), (6, _), (8, _)] ?_))))
         refine T.seq fun K21 hK21 => T.region (rA rfl (RS.nil (hK21 _ _ ?_)))
         refine T.seq fun K22 hK22 => T.seq fun K23 hK23 => T.region (rA rfl (RS.nil (hK23 _ _ ?_)))
         refine T.joinE (σ := List Inp) (γ := (Option Nat × Nat)) H (fun s => s) [(2, _), (3, _), (4, _), (6, _)] ⟨rfl, rfl, rfl, rfl, trivial⟩ (fun v56 q57 => [(9, rowV q57 v56.length)]) (fun v56 q57 => Sat w [blk b1 [.int .i64 a0_p.id, .int .i64 a0_p.players, .int .i64 a0_p.delay, .int .i64 a0_p.turn, .int .i64 a0_p.said, .slice p0 a0_p.mine.length c0, .slice p1 a0_p.inputs.length c1, .slice (some ⟨bl21, ol22, none⟩) a0_p.has.length c2, .slice (some ⟨bl29, ol30, none⟩) a0_p.acked.length c3, .slice p4 a0_p.hashes.length c4, .bool a0_p.split] 26, blk b2 [.int .i64 a1_n.frm, .int .i64 a1_n.dst, .int .i64 a1_n.input.turn, .int .i64 a1_n.input.player, .slice p5 a1_n.input.commands.length c5, .int .i64 a1_n.don, .int .u64 (a1_n.hash.toNat : Int), .int .i64 a1_n.hav] 44, blk b3 [.int .i64 0, .int .i64 0, .int .i64 0, .int .i64 0, .int .i64 0, .slice none 0 0, .slice none 0 0, .slice none 0 0, .slice none 0 0, .slice none 0 0, .bool false] 26, fz hh34, dead, row nilH 3 (rowV q15 x12.has.length) v25, row nilH 3 (rowV (some gg52, cc53) x12.acked.length) (si x12.acked (a1_n.frm - 1) a1_n.hav), row nilH 42 (rowV q17 x12.hashes.length) x12.hashes, blk b18 [.int .i64 x12.id, .int .i64 x12.players, .int .i64 x12.delay, .int .i64 x12.turn, .int .i64 x12.said, rowV q13 x12.mine.length, rowV q27 v26.length, rowV q15 x12.has.length, rowV (some gg52, cc53) x12.acked.length, rowV q17 x12.hashes.length, .bool x12.split] 26, drow 41 (rowV q27 v26.length) v26, rowG (FA hh34) 41 (rowV q57 v56.length) v56]) ?_ ?_
         ·rintro v56 q57 H
          try dsimp only [Ex.then] at H
          refine Cont.conseq (fr' := [(9, _), (2, _), (3, _), (4, _), (6, _)]) ?_ ⟨rfl, rfl, rfl, rfl, rfl, trivial⟩ (fun _ s => s)
          refine id (hK22 _ _ ?_)
          try dsimp only [List.set, List.cons_append, List.nil_append]
          refine T.region (rM rfl (rp (Pu.fieldAddr fd26_5 rfl) (RS.solid (Sd.stB (cs' := [_, _, _, _, _, _, _, _, _, _, _]) 8 ty22 rfl rfl rfl rfl rfl rfl rfl rfl) rfl rfl fun _ => ?_)))
          obtain rfl := sj H
          refine RS.nil (hJ33 _ _ ((si x12.acked (a1_n.frm - 1) a1_n.hav), v56) ((q57.1.map fun g => (⟨g, 0, none⟩ : Addr)), q57.2) HX33 ⟨rfl, rfl, rfl, rfl, trivial⟩ trivial (fun w s => ((Sat.faDat (B := B) 10 3 s rfl rfl (by decide)).deadRow).pick [0, 1, 2, 11, 4, 5, 6, 7, 8, 9, 10] (by decide) rfl))
         ·intro z55 hz55 HX55 hJ55
          refine T.block ?_
          refine T.loopA (γ := (Option Nat × Nat)) hz55 [(2, _), (3, _), (4, _), (6, _), (8, _)] (fun (l58, v60) q59 => [(9, rowV q59 l58.length), (10, .int .i64 v60)]) (fun (l58, v60) q59 => Sat w [blk b1 [.int .i64 a0_p.id, .int .i64 a0_p.players, .int .i64 a0_p.delay, .int .i64 a0_p.turn, .int .i64 a0_p.said, .slice p0 a0_p.mine.length c0, .slice p1 a0_p.inputs.length c1, .slice (some ⟨bl21, ol22, none⟩) a0_p.has.length c2, .slice (some ⟨bl29, ol30, none⟩) a0_p.acked.length c3, .slice p4 a0_p.hashes.length c4, .bool a0_p.split] 26, blk b2 [.int .i64 a1_n.frm, .int .i64 a1_n.dst, .int .i64 a1_n.input.turn, .int .i64 a1_n.input.player, .slice p5 a1_n.input.commands.length c5, .int .i64 a1_n.don, .int .u64 (a1_n.hash.toNat : Int), .int .i64 a1_n.hav] 44, blk b3 [.int .i64 0, .int .i64 0, .int .i64 0, .int .i64 0, .int .i64 0, .slice none 0 0, .slice none 0 0, .slice none 0 0, .slice none 0 0, .slice none 0 0, .bool false] 26, fz hh34, dead, row nilH 3 (rowV q15 x12.has.length) v25, row nilH 3 (rowV (some gg52, cc53) x12.acked.length) (si x12.acked (a1_n.frm - 1) a1_n.hav), row nilH 42 (rowV q17 x12.hashes.length) x12.hashes, blk b18 [.int .i64 x12.id, .int .i64 x12.players, .int .i64 x12.delay, .int .i64 x12.turn, .int .i64 x12.said, rowV q13 x12.mine.length, rowV q27 v26.length, rowV q15 x12.has.length, rowV (some gg52, cc53) x12.acked.length, rowV q17 x12.hashes.length, .bool x12.split] 26, drow 41 (rowV q27 v26.length) v26, rowG (FA hh34) 41 (rowV q59 l58.length) l58]) (none, 0) ⟨rfl, rfl, rfl, rfl, rfl, trivial⟩ ⟨rfl, rfl, trivial⟩ (fun w s => (s.nilRowA (α := Inp) (B := hh34) 41).pick [0, 1, 2, 3, 4, 5, 6, 7, 8, 9, 10] (by decide) rfl) ?_
          rintro ⟨l58, v60⟩ q59 y61 H hd55 KL55 hL55
          try dsimp only [Ex.then] at H
          refine cq [(9, _), (10, _), (2, _), (3, _), (4, _), (6, _), (8, _)] ?_
          refine T.seq fun K24 hK24 => T.seq fun K25 hK25 => ?_
          try dsimp only [List.set, List.cons_append, List.nil_append]
          refine T.region (rM rfl (rp (Pu.fieldAddr fd26_5 rfl) (rq (Qt.ldB 8 ty22 rfl rfl rfl) (rp (Pu.lenSl sl22 rfl) (rp (Pu.bin rfl rfl rfl) (RS.nil (hK25 _ _ ?_)))))))
          refine T.condP rfl (fun hc62 => ?_) (fun hc62 => ?_)
          ·have H := ifT hc62 H
           refine T.skip (hK24 _ _ (cq [(2, _), (3, _), (4, _), (6, _), (8, _), (9, _), (10, _)] ?_))
           refine T.seq fun K26 hK26 => T.block (T.seq fun K27 hK27 => ?_)
           try dsimp only [List.set, List.cons_append, List.nil_append]
           refine T.region (rp (Pu.fieldAddr fd26_5 rfl) (rq (Qt.ldB 8 ty22 rfl rfl rfl) (rM rfl ?_)))
           obtain ⟨g63, H⟩ := gdE H
           refine RS.know (p := ∃ g cap, q13 = (some g, cap)) (fun w s => (row_some' (e := 41) (drow_R hz35) (pos_of g63))) ?_
           rintro ⟨gg64, cc65, rfl⟩
           refine rp (Pu.indexSl sl22 rfl rfl g63) (rp (Pu.fieldAddr fd41_0 rfl) (rq (Qt.ldF (α := Inp) (Rd.ofFz 3 rfl (drow_R hz35)) ty3 rfl rfl g63 (by rintro _ _ ⟨_, rfl, _⟩; rfl)) (rM rfl (rp (Pu.bin rfl rfl rfl) (RS.nil (hK27 _ _ ?_))))))
           refine T.condP rfl (fun hc66 => ?_) (fun hc66 => ?_)
           ·have H := ifT hc66 H
            refine cq [(2, _), (3, _), (4, _), (6, _), (8, _), (9, _), (10, _)] ?_
            try dsimp only [List.set, List.cons_append, List.nil_append]
            refine T.region (rM rfl (rp (Pu.fieldAddr fd26_5 rfl) (rq (Qt.ldB 8 ty22 rfl rfl rfl) (rM rfl ?_))))
            obtain ⟨g67, H⟩ := gdE H
            refine rp (Pu.indexSl sl22 rfl rfl g67) ?_
            obtain ⟨c68, hc69, ha70⟩ := R_el (α := Inp) (drow_R hz35) g67
            obtain ⟨u71, rfl, hu71⟩ := hc69
            obtain ⟨p72, cc73, rfl⟩ := R_form hu71
            refine rq (Qt.ldZ (cs := [_, _, _]) ty41 rfl ha70 (Held.fz 3 rfl) rfl) (RS.solid (Sd.litS (cs := [_, _, _]) sl22 zr41 rfl rfl rfl rfl rfl) rfl rfl fun b74 => ?_)
            obtain ⟨g76, H⟩ := gdE H
            refine RS.solid (Sd.appA (α := Inp) 10 11 ([(gi x12.mine v60)] : List Inp) rfl rfl ⟨[_, _, _], _, rfl, ⟨_, rfl, hu71⟩, rfl⟩ sl22 zr41 rfl rfl rfl rfl g76 (by decide)) rfl rfl fun q75 => rA rfl (RS.nil (hK26 _ _ (cq [(2, _), (3, _), (4, _), (6, _), (8, _), (9, _), (10, _)] ?_)))
            try dsimp only [List.set, List.cons_append, List.nil_append]
            refine T.region (rM rfl ?_)
            obtain ⟨g77, H⟩ := gdE H
            refine rp (Pu.addS rfl rfl g77) (rA rfl (RS.nil (hL55 _ _ ((l58 ++ ([(gi x12.mine v60)] : List Inp)), (v60 + 1)) q75 H ⟨rfl, rfl, rfl, rfl, rfl, trivial⟩ ⟨rfl, rfl, trivial⟩ (fun w s => s.pick [0, 1, 2, 3, 4, 5, 6, 7, 8, 9, 10] (by decide) rfl))))
           ·have H := ifF hc66 H
            refine T.skip (hK26 _ _ (cq [(2, _), (3, _), (4, _), (6, _), (8, _), (9, _), (10, _)] ?_))
            try dsimp only [List.set, List.cons_append, List.nil_append]
            refine T.region (rM rfl ?_)
            obtain ⟨g78, H⟩ := gdE H
            refine rp (Pu.addS rfl rfl g78) (rA rfl (RS.nil (hL55 _ _ (l58, (v60 + 1)) q59 H ⟨rfl, rfl, rfl, rfl, rfl, trivial⟩ ⟨rfl, rfl, trivial⟩ (fun w s => s))))
          ·have H := ifF hc62 H
           obtain rfl := hd55 _ H
           refine T.xt (hJ55 _ _ l58 q59 HX55 ⟨rfl, rfl, rfl, rfl, trivial⟩ ⟨rfl, trivial⟩ (fun w s => s))
        ·have H := ifF hc50 H
         obtain rfl := sj H
         refine T.skip (hJ33 _ _ (x12.acked, x12.mine) ((q13.1.map fun g => (⟨g, 0, none⟩ : Addr)), q13.2) HX33 ⟨rfl, rfl, rfl, rfl, trivial⟩ trivial (fun w s => ((Sat.drowDat (B := B) 3 (Sat.thaw hz35 3 rfl s) rfl).deadRow).pick [0, 1, 2, 10, 4, 5, 6, 7, 8, 9, 3] (by decide) rfl))
      ·intro hJ32
       refine RD.splitP 77 rfl (fun hc31 => ?_) (fun hc31 => ?_)
       ·refine dp rfl (Pu.fieldAddr fd44_5 rfl) (dq rfl (Qt.ldB 1 ty3 rfl rfl rfl) (dp rfl (Pu.fieldAddr fd26_4 rfl) (dq rfl (Qt.ldB 0 ty3 rfl rfl rfl) (dp rfl (Pu.bin rfl rfl rfl) (dp rfl (Pu.pickT rfl rfl) ?_)))))
        exact hJ32 _ ⟨dAndT hc31, rfl, rfl, rfl, rfl, rfl, trivial⟩
       ·refine dn rfl (dn rfl (dn rfl (dn rfl (dn rfl (dp rfl (Pu.pickF rfl rfl) ?_)))))
        exact hJ32 _ ⟨dAndF hc31, rfl, rfl, rfl, rfl, rfl, trivial⟩
     ·intro z24 H HX24 hJ24
      refine T.condP rfl (fun hc79 => ?_) (fun hc79 => ?_)
      ·have H := ifT hc79 H
       refine cq [(2, _), (3, _), (4, _), (6, _), (7, _)] ?_
       refine T.seq fun K28 hK28 => ?_
       try dsimp only [List.set, List.cons_append, List.nil_append]
       refine T.region (rp (Pu.fieldAddr fd26_6 rfl) (rq (Qt.ldB 8 ty22 rfl rfl rfl) (rp (Pu.fieldAddr fd44_2 rfl) (rq (Qt.ldBA (us := [_, _, _]) 1 ty41 rfl rfl rfl rfl) ?_))))
       obtain ⟨x80, hx80, H⟩ := bindE H
       refine RS.solid (Sd.callN (vs := [rowV q14 x12.inputs.length, .agg #[.int .i64 a1_n.input.turn, .int .i64 a1_n.input.player, .slice p5 a1_n.input.commands.length c5]]) ent59 rfl (fun w s => throngref27_Put_walk x12.inputs a1_n.input w ((Rd.ofG 4 rfl) w s) ((Rd.base h5) w s) hx80)) rfl rfl fun q81 => rM rfl (rp (Pu.extract rfl rfl) (rp (Pu.extract rfl rfl) (rp (Pu.fieldAddr fd26_6 rfl) (RS.solid (Sd.stB (cs' := [_, _, _, _, _, _, _, _, _, _, _]) 8 ty22 rfl rfl rfl rfl rfl rfl rfl rfl) rfl rfl fun _ => RS.nil (hK28 _ _ (cq [(2, _), (3, _), (4, _), (6, _), (7, _)] ?_))))))
       try dsimp only [List.set, List.cons_append, List.nil_append]
       refine T.region (rp (Pu.fieldAddr fd26_7 rfl) (rq (Qt.ldB 8 ty23 rfl rfl rfl) (rM rfl ?_)))
       obtain ⟨g82, H⟩ := gdE H
       refine RS.know (p := ∃ g cap, q15 = (some g, cap)) (fun w s => (s.row_some (k := 5) rfl (pos_of g82))) ?_
       rintro ⟨gg83, cc84, rfl⟩
       refine rp (Pu.indexSl sl23 rfl rfl g82) (rq (Qt.ld0 (α := Int) (Rd.ofRowN 5 rfl) ty3 rfl rfl g82 (by rintro _ _ rfl; rfl)) ?_)
       obtain ⟨g85, H⟩ := gdE H
       refine rp (Pu.addS rfl rfl g85) ?_
       obtain ⟨g86, H⟩ := gdE H
       refine rp (Pu.indexSl sl23 rfl rfl g86) (RS.solid (Sd.st0 (α := Int) 5 ((gi x12.has (a1_n.frm - 1)) + 1) rfl ty3 rfl rfl rfl g86 rfl rfl (by decide) rfl (by rintro _ _ rfl; rfl)) rfl rfl fun _ => ?_)
       obtain rfl := sj H
       refine RS.nil (hJ24 _ _ ((si x12.has (a1_n.frm - 1) ((gi x12.has (a1_n.frm - 1)) + 1)), x80.1) q81 HX24 ⟨rfl, rfl, rfl, rfl, rfl, trivial⟩ trivial (fun w s => (s.deadRow).pick [0, 1, 2, 3, 10, 5, 6, 7, 8, 9] (by decide) rfl))
      ·have H := ifF hc79 H
       obtain rfl := sj H
       refine T.skip (hJ24 _ _ (x12.has, x12.inputs) q14 HX24 ⟨rfl, rfl, rfl, rfl, rfl, trivial⟩ trivial (fun w s => (s.deadRow).pick [0, 1, 2, 3, 9, 5, 6, 7, 8, 4] (by decide) rfl))
  ·intro hJ8
   refine RS.splitP 22 rfl (fun hc7 => ?_) (fun hc7 => ?_)
   ·refine ro (ro (ro (ro (ro (rp (Pu.pickT rfl rfl) ?_)))))
    exact hJ8 _ _ ⟨dOrT hc7, rfl, rfl, rfl, trivial⟩ (fun w s => s)
   ·refine rp (Pu.fieldAddr fd44_0 rfl) (rq (Qt.ldB 1 ty3 rfl rfl rfl) (rp (Pu.fieldAddr fd26_1 rfl) (rq (Qt.ldB 0 ty3 rfl rfl rfl) (rp (Pu.bin rfl rfl rfl) (rp (Pu.pickF rfl rfl) ?_)))))
    exact hJ8 _ _ ⟨dOrF hc7, rfl, rfl, rfl, trivial⟩ (fun w s => s)
 ·intro hJ6
  refine RS.split 15 rfl (fun hc5 => ?_) (fun hc5 => ?_)
  ·refine ro (ro (ro (ro (ro (rp (Pu.pickT rfl rfl) ?_)))))
   exact hJ6 _ _ ⟨dOrT hc5, rfl, rfl, rfl, trivial⟩ (fun w s => s)
  ·refine rp (Pu.fieldAddr fd44_1 rfl) (rq (Qt.ldB 1 ty3 rfl rfl rfl) (rp (Pu.fieldAddr fd26_0 rfl) (rq (Qt.ldB 0 ty3 rfl rfl rfl) (rp (Pu.bin rfl rfl rfl) (rp (Pu.pickF rfl rfl) ?_)))))
   exact hJ6 _ _ ⟨dOrF (bne_of hc5), rfl, rfl, rfl, trivial⟩ (fun w s => s)
theorem throngref27_Notes_walk (a0_p : Per) (w : World) {v0 v1 v2 v3 v4 : Value} (h0 : R (hpOf w) a0_p.mine [v0]) (h1 : R (hpOf w) a0_p.inputs [v1]) (h2 : R (hpOf w) a0_p.has [v2]) (h3 : R (hpOf w) a0_p.acked [v3]) (h4 : R (hpOf w) a0_p.hashes [v4]) {r : List Nte} (H : throngref27_Notes a0_p = some r) : Calls Tryz.prog 34 #[.agg #[.int .i64 a0_p.id, .int .i64 a0_p.players, .int .i64 a0_p.delay, .int .i64 a0_p.turn, .int .i64 a0_p.said, v0, v1, v2, v3, v4, .bool a0_p.split]] w fun e w' => ∃ q1 : (Option Nat × Nat), e = .returned (rowV q1 r.length) ∧ Sat w [drow 44 (rowV q1 r.length) r] w' := by
 have hm0 := R_max h0
 obtain ⟨p0, c0, rfl⟩ := R_form h0
 have hm1 := R_max h1
 obtain ⟨p1, c1, rfl⟩ := R_form h1
 have hm2 := R_max h2
 obtain ⟨p2, c2, rfl⟩ := R_form h2
 have hm3 := R_max h3
 obtain ⟨p3, c3, rfl⟩ := R_form h3
 have hm4 := R_max h4
 obtain ⟨p4, c4, rfl⟩ := R_form h4
 unfold throngref27_Notes at H
 refine T.enter (args := [_]) (S := Sat w []) Tryz.func34 rfl rfl (Sat.start w) ?_
 refine T.seq fun K1 hK1 => T.region (RS.solid (Sd.box (cs := [_, _, _, _, _, _, _, _, _, _, _]) rfl rfl) rfl rfl fun b1 => rA rfl (RS.nil (hK1 _ _ ?_)))
 refine T.seq fun K2 hK2 => T.region (rA rfl (RS.nil (hK2 _ _ ?_)))
 refine T.seq fun K3 hK3 => T.seq fun K4 hK4 => T.region (rA rfl (RS.nil (hK4 _ _ ?_)))
 refine T.joinE (σ := List Nte) (γ := (Option Nat × Nat)) H (fun s => s) [] trivial (fun v3 q4 => [(3, rowV q4 v3.length)]) (fun v3 q4 => Sat w [blk b1 [.int .i64 a0_p.id, .int .i64 a0_p.players, .int .i64 a0_p.delay, .int .i64 a0_p.turn, .int .i64 a0_p.said, .slice p0 a0_p.mine.length c0, .slice p1 a0_p.inputs.length c1, .slice p2 a0_p.has.length c2, .slice p3 a0_p.acked.length c3, .slice p4 a0_p.hashes.length c4, .bool a0_p.split] 26, drow 44 (rowV q4 v3.length) v3]) ?_ ?_
 ·rintro v3 q4 H
  try dsimp only [Ex.then] at H
  refine Cont.conseq (fr' := [(3, _)]) ?_ ⟨rfl, trivial⟩ (fun _ s => s)
  refine id (hK3 _ _ ?_)
  refine T.seq fun K5 hK5 => T.region (rM rfl (rA rfl (RS.nil (hK5 _ _ ?_))))
  obtain rfl := sj H
  refine T.rt (Cont.ret1 rfl rfl fun w' s => ?_)
  exact ⟨q4, rfl, s.pick [1] (by decide) rfl⟩
 ·intro z2 hz2 HX2 hJ2
  refine T.block ?_
  refine T.loopA (γ := (Option Nat × Nat)) hz2 [(1, _)] (fun (l5, v7) q6 => [(3, rowV q6 l5.length), (4, .int .i64 v7)]) (fun (l5, v7) q6 => Sat w [blk b1 [.int .i64 a0_p.id, .int .i64 a0_p.players, .int .i64 a0_p.delay, .int .i64 a0_p.turn, .int .i64 a0_p.said, .slice p0 a0_p.mine.length c0, .slice p1 a0_p.inputs.length c1, .slice p2 a0_p.has.length c2, .slice p3 a0_p.acked.length c3, .slice p4 a0_p.hashes.length c4, .bool a0_p.split] 26, drow 44 (rowV q6 l5.length) l5]) (none, 0) ⟨rfl, trivial⟩ ⟨rfl, rfl, trivial⟩ (fun w s => (s.nilRowG (α := Nte) 44).pick [0, 1] (by decide) rfl) ?_
  rintro ⟨l5, v7⟩ q6 y8 H hd2 KL2 hL2
  try dsimp only [Ex.then] at H
  refine cq [(3, _), (4, _), (1, _)] ?_
  refine T.seq fun K6 hK6 => T.seq fun K7 hK7 => T.region (rM rfl (rp (Pu.fieldAddr fd26_1 rfl) (rq (Qt.ldB 0 ty3 rfl rfl rfl) (rp (Pu.bin rfl rfl rfl) (RS.nil (hK7 _ _ ?_))))))
  refine T.condP rfl (fun hc9 => ?_) (fun hc9 => ?_)
  ·have H := ifT hc9 H
   refine T.skip (hK6 _ _ (cq [(1, _), (3, _), (4, _)] ?_))
   refine T.seq fun K8 hK8 => T.block (T.seq fun K9 hK9 => T.seq fun K10 hK10 => T.region (rM rfl (rp (Pu.fieldAddr fd26_0 rfl) (rq (Qt.ldB 0 ty3 rfl rfl rfl) (rp (Pu.bin rfl rfl rfl) (RS.nil (hK10 _ _ ?_)))))))
   refine T.condP rfl (fun hc10 => ?_) (fun hc10 => ?_)
   ·have H := ifT hc10 H
    refine T.xt (hK8 _ _ (cq [(1, _), (3, _), (4, _)] ?_))
    refine T.region (rM rfl ?_)
    obtain ⟨g11, H⟩ := gdE H
    refine rp (Pu.addS rfl rfl g11) (rA rfl (RS.nil (hL2 _ _ (l5, (v7 + 1)) q6 H ⟨rfl, trivial⟩ ⟨rfl, rfl, trivial⟩ (fun w s => s))))
   ·have H := ifF hc10 H
    refine T.skip (hK9 _ _ (cq [(1, _), (3, _), (4, _)] ?_))
    refine T.seq fun K11 hK11 => ?_
    refine T.drawn (fun _ => True) [(0, .pu), (1, .rd), (2, .pu), (3, .pu), (4, .rd), (5, .pu), (6, .pu), (7, .pu), (8, .rd), (9, .pu), (10, .pu), (11, .so), (12, .br)] mixed (ClE.sat _ _) (by kernel_rfl) ?_
    refine dp rfl (Pu.fieldAddr fd26_0 rfl) (dq rfl (Qt.ldB 0 ty3 rfl rfl rfl) (dp rfl (Pu.move rfl) (dp rfl (Pu.fieldAddr fd26_7 rfl) (dq rfl (Qt.ldB 0 ty23 rfl rfl rfl) (dp rfl (Pu.move rfl) ?_)))))
    obtain ⟨g12, H⟩ := gdE H
    refine dp rfl (Pu.subS rfl rfl g12) ?_
    obtain ⟨g13, H⟩ := gdE H
    obtain ⟨bl14, ol15, rfl⟩ := R_ptr h2 (ne_of_pos (pos_of g13))
    refine dp rfl (Pu.indexSl sl23 rfl rfl g13) (dq rfl (Qt.ld0 (α := Int) (Rd.base h2) ty3 rfl rfl g13 (by rintro _ _ rfl; rfl)) (dp rfl (Pu.build (cells := [_, _, _]) st41 rfl rfl) (dp rfl (Pu.build (cells := [_, _, _, _, _, _, _, _]) st44 rfl rfl) (RD.solid rfl (.inl rfl) rfl rfl (Sd.alloc zr44 rfl) (fun _ => ClE.sat _ _) (fun _ _ _ => trivial) (fun _ _ _ s => s.drop1) fun b16 => ?_))))
    refine RD.solid rfl (.inr rfl) rfl rfl (Sd.stB (cs' := [_, _, _, _, _, _, _, _]) 2 ty44 rfl rfl rfl rfl rfl rfl rfl rfl) (fun _ => ClE.sat _ _) (fun _ _ _ => trivial) (fun h => nomatch h) fun _ => ?_
    refine RD.nil (hK11 _ _ (cq [(1, _), (3, _), (4, _), (5, _)] ?_))
    refine T.seq fun K12 hK12 => T.seq fun K13 hK13 => T.region (rp (Pu.fieldAddr fd26_9 rfl) (rq (Qt.ldB 0 ty24 rfl rfl rfl) (rp (Pu.lenSl sl24 rfl) (rp (Pu.bin rfl rfl rfl) (RS.nil (hK13 _ _ ?_))))))
    refine T.joinE (σ := Int × UInt64) (γ := Unit) H (fun s => s) [(1, _), (3, _), (4, _), (5, _)] ⟨rfl, rfl, rfl, rfl, trivial⟩ (fun (v18, v19) _ => []) (fun (v18, v19) _ => Sat w [blk b1 [.int .i64 a0_p.id, .int .i64 a0_p.players, .int .i64 a0_p.delay, .int .i64 a0_p.turn, .int .i64 a0_p.said, .slice p0 a0_p.mine.length c0, .slice p1 a0_p.inputs.length c1, .slice (some ⟨bl14, ol15, none⟩) a0_p.has.length c2, .slice p3 a0_p.acked.length c3, .slice p4 a0_p.hashes.length c4, .bool a0_p.split] 26, drow 44 (rowV q6 l5.length) l5, blk b16 [.int .i64 a0_p.id, .int .i64 v7, .int .i64 (-1), .int .i64 0, .slice none 0 0, .int .i64 v18, .int .u64 (v19.toNat : Int), .int .i64 (gi a0_p.has (v7 - 1))] 44]) ?_ ?_
    ·rintro ⟨v18, v19⟩ ⟨⟩ H
     try dsimp only [Ex.then] at H
     refine Cont.conseq (fr' := [(1, _), (3, _), (4, _), (5, _)]) ?_ ⟨rfl, rfl, rfl, rfl, trivial⟩ (fun _ s => s)
     refine id (hK12 _ _ ?_)
     refine T.seq fun K14 hK14 => T.seq fun K15 hK15 => T.region (rA rfl (RS.nil (hK15 _ _ ?_)))
     refine T.joinE (σ := Int × Int × List Cmd) (γ := (Option Nat × Nat)) H (fun s => s) [(1, _), (3, _), (4, _), (5, _)] ⟨rfl, rfl, rfl, rfl, trivial⟩ (fun (v21, v22, v23) q24 => []) (fun (v21, v22, v23) q24 => Sat w [blk b1 [.int .i64 a0_p.id, .int .i64 a0_p.players, .int .i64 a0_p.delay, .int .i64 a0_p.turn, .int .i64 a0_p.said, .slice p0 a0_p.mine.length c0, .slice p1 a0_p.inputs.length c1, .slice (some ⟨bl14, ol15, none⟩) a0_p.has.length c2, .slice p3 a0_p.acked.length c3, .slice p4 a0_p.hashes.length c4, .bool a0_p.split] 26, drow 44 (rowV q6 l5.length) l5, blk b16 [.int .i64 a0_p.id, .int .i64 v7, .int .i64 v21, .int .i64 v22, rowV q24 v23.length, .int .i64 v18, .int .u64 (v19.toNat : Int), .int .i64 (gi a0_p.has (v7 - 1))] 44, drow 88 (rowV q24 v23.length) v23]) ?_ ?_
     ·rintro ⟨v21, v22, v23⟩ q24 H
      try dsimp only [Ex.then] at H
      refine Cont.conseq (fr' := [(1, _), (3, _), (4, _), (5, _)]) ?_ ⟨rfl, rfl, rfl, rfl, trivial⟩ (fun _ s => s)
      refine id (hK14 _ _ ?_)
      refine T.region (rM rfl (rq (Qt.ldBA (us := [_, _, _, _, _, _, _, _]) 2 ty44 rfl rfl rfl rfl) (RS.solid (Sd.litS (cs := [_, _, _, _, _, _, _, _]) sl66 zr44 rfl rfl rfl rfl rfl) rfl rfl fun b25 => ?_)))
      obtain ⟨g27, H⟩ := gdE H
      refine RS.solid (Sd.pre (fun w s => (Sat.starAt 3 5 (Sat.starAt 3 6 ((s.noStars).noStars) rfl rfl (by decide)) rfl rfl (by decide))) (Sd.appL (α := Nte) 1 4 3 ([(⟨a0_p.id, v7, (⟨v21, v22, v23⟩ : Inp), v18, v19, (gi a0_p.has (v7 - 1))⟩ : Nte)] : List Nte) rfl rfl rfl (DRF.cons' (α := Nte) (x := (⟨a0_p.id, v7, (⟨v21, v22, v23⟩ : Inp), v18, v19, (gi a0_p.has (v7 - 1))⟩ : Nte)) (fun _ h => ⟨_, rfl, h⟩) DRF.nil') rfl sl66 zr44 rfl rfl rfl rfl g27 (by decide))) rfl rfl fun q26 => rA rfl (RS.nil (hK8 _ _ (cq [(1, _), (3, _), (4, _)] ?_)))
      refine T.region (rM rfl ?_)
      obtain ⟨g28, H⟩ := gdE H
      refine rp (Pu.addS rfl rfl g28) (rA rfl (RS.nil (hL2 _ _ ((l5 ++ ([(⟨a0_p.id, v7, (⟨v21, v22, v23⟩ : Inp), v18, v19, (gi a0_p.has (v7 - 1))⟩ : Nte)] : List Nte)), (v7 + 1)) q26 H ⟨rfl, trivial⟩ ⟨rfl, rfl, trivial⟩ (fun w s => s.pick [0, 1] (by decide) rfl))))
     ·intro z20 hz20 HX20 hJ20
      refine T.block ?_
      refine T.loopA (γ := (Option Nat × Nat)) hz20 [(1, _), (3, _), (4, _), (5, _)] (fun (v29, v30, v31, l32) q33 => [(6, .int .i64 v29)]) (fun (v29, v30, v31, l32) q33 => Sat w [blk b1 [.int .i64 a0_p.id, .int .i64 a0_p.players, .int .i64 a0_p.delay, .int .i64 a0_p.turn, .int .i64 a0_p.said, .slice p0 a0_p.mine.length c0, .slice p1 a0_p.inputs.length c1, .slice (some ⟨bl14, ol15, none⟩) a0_p.has.length c2, .slice p3 a0_p.acked.length c3, .slice p4 a0_p.hashes.length c4, .bool a0_p.split] 26, drow 44 (rowV q6 l5.length) l5, blk b16 [.int .i64 a0_p.id, .int .i64 v7, .int .i64 v30, .int .i64 v31, rowV q33 l32.length, .int .i64 v18, .int .u64 (v19.toNat : Int), .int .i64 (gi a0_p.has (v7 - 1))] 44, drow 88 (rowV q33 l32.length) l32]) (none, 0) ⟨rfl, rfl, rfl, rfl, trivial⟩ ⟨rfl, trivial⟩ (fun w s => (s.nilRowG (α := Cmd) 88).pick [0, 1, 2, 3] (by decide) rfl) ?_
      rintro ⟨v29, v30, v31, l32⟩ q33 y34 H hd20 KL20 hL20
      try dsimp only [Ex.then] at H
      refine cq [(6, _), (1, _), (3, _), (4, _), (5, _)] ?_
      refine T.seq fun K16 hK16 => T.seq fun K17 hK17 => T.region (rM rfl (rp (Pu.fieldAddr fd26_5 rfl) (rq (Qt.ldB 0 ty22 rfl rfl rfl) (rp (Pu.lenSl sl22 rfl) (rp (Pu.bin rfl rfl rfl) (RS.nil (hK17 _ _ ?_)))))))
      refine T.condP rfl (fun hc35 => ?_) (fun hc35 => ?_)
      ·have H := ifT hc35 H
       refine T.skip (hK16 _ _ (cq [(1, _), (3, _), (4, _), (5, _), (6, _)] ?_))
       refine T.seq fun K18 hK18 => T.block (T.seq fun K19 hK19 => ?_)
       refine T.drawn (fun _ => True) [(0, .pu), (1, .rd), (2, .pu), (3, .pu), (4, .pu), (5, .rd), (6, .pu), (7, .rd), (8, .pu), (9, .pu), (10, .pu), (11, .rd), (12, .pu), (13, .pu)] mixed (ClE.sat _ _) (by kernel_rfl) ?_
       refine dp rfl (Pu.fieldAddr fd26_5 rfl) (dq rfl (Qt.ldB 0 ty22 rfl rfl rfl) (dp rfl (Pu.move rfl) ?_))
       obtain ⟨g36, H⟩ := gdE H
       obtain ⟨bl37, ol38, rfl⟩ := R_ptr h0 (ne_of_pos (pos_of g36))
       refine dp rfl (Pu.indexSl sl22 rfl rfl g36) (dp rfl (Pu.fieldAddr fd41_0 rfl) (dq rfl (Qt.ldF (α := Inp) (Rd.base h0) ty3 rfl rfl g36 (by rintro _ _ ⟨_, rfl, _⟩; rfl)) (dp rfl (Pu.fieldAddr fd26_8 rfl) (dq rfl (Qt.ldB 0 ty23 rfl rfl rfl) (dp rfl (Pu.move rfl) ?_)))))
       obtain ⟨g39, H⟩ := gdE H
       refine dp rfl (Pu.subS rfl rfl g39) ?_
       obtain ⟨g40, H⟩ := gdE H
       obtain ⟨bl41, ol42, rfl⟩ := R_ptr h3 (ne_of_pos (pos_of g40))
       refine dp rfl (Pu.indexSl sl23 rfl rfl g40) (dq rfl (Qt.ld0 (α := Int) (Rd.base h3) ty3 rfl rfl g40 (by rintro _ _ rfl; rfl)) ?_)
       obtain ⟨g43, H⟩ := gdE H
       refine dp rfl (Pu.addS rfl rfl g43) (dp rfl (Pu.bin rfl rfl rfl) (RD.nil (hK19 _ _ ?_)))
       refine T.condP rfl (fun hc44 => ?_) (fun hc44 => ?_)
       ·have H := ifT hc44 H
        refine cq [(1, _), (3, _), (4, _), (5, _), (6, _)] ?_
        refine T.region (rp (Pu.fieldAddr fd26_5 rfl) (rq (Qt.ldB 0 ty22 rfl rfl rfl) (rM rfl ?_)))
        obtain ⟨g45, H⟩ := gdE H
        refine rp (Pu.indexSl sl22 rfl rfl g45) ?_
        obtain ⟨c46, hc47, ha48⟩ := R_el (α := Inp) h0 g45
        obtain ⟨u49, rfl, hu49⟩ := hc47
        obtain ⟨p50, cc51, rfl⟩ := R_form hu49
        refine rq (Qt.ldZ (cs := [_, _, _]) ty41 rfl ha48 Held.base rfl) ?_
        obtain ⟨x52, hx52, H⟩ := bindE H
        refine RS.solid (Sd.callN (vs := [.agg #[.int .i64 ((gi a0_p.mine v29).turn), .int .i64 ((gi a0_p.mine v29).player), .slice p50 ((gi a0_p.mine v29).commands).length cc51]]) ent49 rfl (fun w s => throngref0_CopyInput_walk (gi a0_p.mine v29) w ((Rd.base hu49) w s) hx52)) rfl rfl fun q53 => rp (Pu.fieldAddr fd44_2 rfl) (RS.solid (Sd.stB (cs' := [_, _, _, _, _, _, _, _]) 2 ty41 rfl rfl rfl rfl rfl rfl rfl rfl) rfl rfl fun _ => RS.nil (hK18 _ _ (cq [(1, _), (3, _), (4, _), (5, _), (6, _)] ?_)))
        refine T.region (rM rfl ?_)
        obtain ⟨g54, H⟩ := gdE H
        refine rp (Pu.addS rfl rfl g54) (rA rfl (RS.nil (hL20 _ _ ((v29 + 1), x52.turn, x52.player, x52.commands) q53 H ⟨rfl, rfl, rfl, rfl, trivial⟩ ⟨rfl, trivial⟩ (fun w s => s.pick [0, 1, 2, 4] (by decide) rfl))))
       ·have H := ifF hc44 H
        refine T.skip (hK18 _ _ (cq [(1, _), (3, _), (4, _), (5, _), (6, _)] ?_))
        refine T.region (rM rfl ?_)
        obtain ⟨g55, H⟩ := gdE H
        refine rp (Pu.addS rfl rfl g55) (rA rfl (RS.nil (hL20 _ _ ((v29 + 1), v30, v31, l32) q33 H ⟨rfl, rfl, rfl, rfl, trivial⟩ ⟨rfl, trivial⟩ (fun w s => s))))
      ·have H := ifF hc35 H
       obtain rfl := hd20 _ H
       refine T.xt (hJ20 _ _ (v30, v31, l32) q33 HX20 ⟨rfl, rfl, rfl, rfl, trivial⟩ trivial (fun w s => s))
    ·intro z17 H HX17 hJ17
     refine T.condP rfl (fun hc56 => ?_) (fun hc56 => ?_)
     ·have H := ifT hc56 H
      refine cq [(1, _), (3, _), (4, _), (5, _)] ?_
      refine T.drawnS [0, 1] [(0, .pu), (1, .rd), (2, .pu), (3, .pu), (4, .wk), (5, .pu), (6, .wk), (7, .pu), (8, .pu), (9, .pu), (10, .wk), (11, .pu), (12, .br), (13, .pu), (14, .br)] mixed (by kernel_rfl) rfl ?_
      refine RD.p (fun w s => s.pick [0, 1] (by decide) rfl) rfl (Pu.fieldAddr fd26_3 rfl) rfl rfl (RD.q (fun w s => s.pick [0, 1] (by decide) rfl) rfl (Qt.ldB 0 ty3 rfl rfl rfl) rfl rfl ?_)
      obtain ⟨g57, H⟩ := gdE H
      refine RD.p (fun w s => s.pick [0, 1] (by decide) rfl) rfl (Pu.subS rfl rfl g57) rfl rfl (RD.p (fun w s => s.pick [0, 1] (by decide) rfl) rfl (Pu.fieldAddr fd26_9 rfl) rfl rfl ?_)
      refine RD.w (fun w s => s.pick [0, 1] (by decide) rfl) rfl (Qt.ldB 0 ty24 rfl rfl rfl) rfl rfl ?_
      refine RD.p (fun w s => s.pick [0, 1] (by decide) rfl) rfl (Pu.fieldAddr fd26_9 rfl) rfl rfl ?_
      refine RD.w (fun w s => s.pick [0, 1] (by decide) rfl) rfl (Qt.ldB 0 ty24 rfl rfl rfl) rfl rfl ?_
      refine RD.p (fun w s => s.pick [0, 1] (by decide) rfl) rfl (Pu.lenSl sl24 rfl) rfl rfl ?_
      obtain ⟨g58, H⟩ := gdE H
      refine RD.p (fun w s => s.pick [0, 1] (by decide) rfl) rfl (Pu.subS rfl rfl g58) rfl rfl ?_
      obtain ⟨g59, H⟩ := gdE H
      obtain ⟨bl60, ol61, rfl⟩ := R_ptr h4 (ne_of_pos (pos_of g59))
      refine RD.p (fun w s => s.pick [0, 1] (by decide) rfl) rfl (Pu.indexSl sl24 rfl rfl g59) rfl rfl ?_
      refine RD.w (fun w s => s.pick [0, 1] (by decide) rfl) rfl (Qt.ld0 (α := UInt64) (Rd.base h4) ty42 rfl rfl g59 (by rintro _ _ rfl; rfl)) rfl rfl ?_
      refine RD.p (fun w s => s.pick [0, 1] (by decide) rfl) rfl (Pu.fieldAddr fd44_3 rfl) rfl rfl (RD.solid rfl (.inr rfl) rfl rfl (Sd.stB (cs' := [_, _, _, _, _, _, _, _]) 2 ty3 rfl rfl rfl rfl rfl rfl rfl rfl) (fun _ => ClE.sat _ _) (fun _ w s => s.pick [0, 1] (by decide) rfl) (fun h => nomatch h) fun _ => ?_)
      refine RD.p (fun w s => s.pick [0, 1] (by decide) rfl) rfl (Pu.fieldAddr fd44_4 rfl) rfl rfl (RD.solid rfl (.inr rfl) rfl rfl (Sd.stB (cs' := [_, _, _, _, _, _, _, _]) 2 ty42 rfl rfl rfl rfl rfl rfl rfl rfl) (fun _ => ClE.sat _ _) (fun _ w s => s.pick [0, 1] (by decide) rfl) (fun h => nomatch h) fun _ => ?_)
      obtain rfl := sj H
      refine RD.nil (hJ17 _ _ ((a0_p.turn - 1), (gi a0_p.hashes ((a0_p.hashes.length : Int) - 1))) () HX17 ⟨rfl, rfl, rfl, rfl, trivial⟩ trivial (fun w s => s))
     ·have H := ifF hc56 H
      obtain rfl := sj H
      refine T.skip (hJ17 _ _ ((-1), (0 : UInt64)) () HX17 ⟨rfl, rfl, rfl, rfl, trivial⟩ trivial (fun w s => s))
  ·have H := ifF hc9 H
   obtain rfl := hd2 _ H
   refine T.xt (hJ2 _ _ l5 q6 HX2 trivial ⟨rfl, trivial⟩ (fun w s => s))
theorem throngref27_Ready_walk (a0_p : Per) (w : World) {v0 v1 v2 v3 v4 : Value} (h0 : R (hpOf w) a0_p.mine [v0]) (h1 : R (hpOf w) a0_p.inputs [v1]) (h2 : R (hpOf w) a0_p.has [v2]) (h3 : R (hpOf w) a0_p.acked [v3]) (h4 : R (hpOf w) a0_p.hashes [v4]) {r : List Cmd × Bool} (H : throngref27_Ready a0_p = some r) : Calls Tryz.prog 39 #[.agg #[.int .i64 a0_p.id, .int .i64 a0_p.players, .int .i64 a0_p.delay, .int .i64 a0_p.turn, .int .i64 a0_p.said, v0, v1, v2, v3, v4, .bool a0_p.split]] w fun e w' => ∃ q1 : (Option Nat × Nat), e = .returned (.tuple #[rowV q1 r.1.length, .bool r.2]) ∧ Sat w [drow 88 (rowV q1 r.1.length) r.1] w' := by
 have hm0 := R_max h0
 obtain ⟨p0, c0, rfl⟩ := R_form h0
 have hm1 := R_max h1
 obtain ⟨p1, c1, rfl⟩ := R_form h1
 have hm2 := R_max h2
 obtain ⟨p2, c2, rfl⟩ := R_form h2
 have hm3 := R_max h3
 obtain ⟨p3, c3, rfl⟩ := R_form h3
 have hm4 := R_max h4
 obtain ⟨p4, c4, rfl⟩ := R_form h4
 unfold throngref27_Ready at H
 refine T.enter (args := [_]) (S := Sat w []) Tryz.func39 rfl rfl (Sat.start w) ?_
 refine T.seq fun K1 hK1 => T.region (RS.solid (Sd.box (cs := [_, _, _, _, _, _, _, _, _, _, _]) rfl rfl) rfl rfl fun b1 => rA rfl (rA rfl (RS.nil (hK1 _ _ (cq [(1, _)] ?_)))))
 refine T.seq fun K2 hK2 => T.seq fun K3 hK3 => ?_
 refine T.drawn (fun _ => True) [(0, .pu), (1, .rd), (2, .pu), (3, .pu), (4, .pu), (5, .rd), (6, .rd), (7, .pu), (8, .rd), (9, .pu), (10, .pu)] mixed (ClE.sat _ _) (by kernel_rfl) ?_
 refine dp rfl (Pu.fieldAddr fd26_3 rfl) (dq rfl (Qt.ldB 0 ty3 rfl rfl rfl) (dp rfl (Pu.bin rfl rfl rfl) (dp rfl (Pu.move rfl) ?_)))
 refine RD.joinB H 7 18 (fun b4 => .bool b4) [(1, _)] ⟨rfl, trivial⟩ ?_ ?_
 ·intro b4 H
  refine RD.nil (hK3 _ _ ?_)
  refine T.cond rfl (fun hc5 => ?_) (fun hc5 => ?_)
  ·have H := ifT hc5 H
   refine T.seq fun K4 hK4 => T.region (rA rfl (rA rfl (RS.nil (hK4 _ _ ?_))))
   obtain rfl := sj H
   refine T.rt (Cont.ret2 rfl rfl rfl fun w' s => ?_)
   exact ⟨(none, 0), rfl, (s.nilRowG (α := Cmd) 88).pick [1] (by decide) rfl⟩
  ·have H := ifB hc5 H
   refine T.skip (hK2 _ _ ?_)
   refine T.seq fun K5 hK5 => T.region (rp (Pu.fieldAddr fd26_6 rfl) (rq (Qt.ldB 0 ty22 rfl rfl rfl) (rp (Pu.fieldAddr fd26_3 rfl) (rq (Qt.ldB 0 ty3 rfl rfl rfl) ?_))))
   obtain ⟨x6, hx6, H⟩ := bindE H
   refine RS.solid (Sd.callN (vs := [.slice p1 a0_p.inputs.length c1, .int .i64 a0_p.turn]) ent73 rfl (fun w s => throngref27_Take_walk a0_p.inputs a0_p.turn w ((Rd.base h1) w s) hx6)) rfl rfl fun ⟨q7, q8⟩ => ?_
   refine rM rfl (rp (Pu.extract rfl rfl) (rp (Pu.extract rfl rfl) (rA rfl (rA rfl (RS.nil (hK5 _ _ (cq [(4, _)] ?_)))))))
   refine T.seq fun K6 hK6 => T.region (rM rfl ?_)
   obtain ⟨x9, hx9, H⟩ := bindE H
   refine RS.solid (Sd.callN (vs := [rowV q7 x6.1.length]) ent74 rfl (fun w s => throngref27_Merge_walk x6.1 w ((Rd.ofG 1 rfl) w s) hx9)) rfl rfl fun q10 => rM rfl (rp (Pu.extract rfl rfl) (rp (Pu.extract rfl rfl) (rA rfl (rA rfl (RS.nil (hK6 _ _ (cq [(6, _)] ?_)))))))
   refine T.seq fun K7 hK7 => T.region (rM rfl (rA rfl (rA rfl (RS.nil (hK7 _ _ ?_)))))
   obtain rfl := sj H
   refine T.rt (Cont.ret2 rfl rfl rfl fun w' s => ?_)
   exact ⟨q10, rfl, s.pick [3] (by decide) rfl⟩
 ·intro z11 H hJ3
  refine RD.splitP 11 rfl (fun hc2 => ?_) (fun hc2 => ?_)
  ·have H := ifT hc2 H
   refine dn rfl (dn rfl (dn rfl (dn rfl (dn rfl (dn rfl (dp rfl (Pu.pickT rfl rfl) ?_))))))
   obtain rfl := sj H
   exact hJ3 _ ⟨rfl, rfl, trivial⟩
  ·have H := ifF hc2 H
   refine dp rfl (Pu.fieldAddr fd26_7 rfl) (dq rfl (Qt.ldB 0 ty23 rfl rfl rfl) ?_)
   obtain ⟨x12, hx12, H⟩ := bindE H
   refine dq rfl (Qt.call (vs := [.slice p2 a0_p.has.length c2]) ent25 rfl fun w s => throngref27_least_walk a0_p.has w ((Rd.base h2) w s) hx12) (dp rfl (Pu.fieldAddr fd26_3 rfl) (dq rfl (Qt.ldB 0 ty3 rfl rfl rfl) (dp rfl (Pu.bin rfl rfl rfl) (dp rfl (Pu.pickF rfl rfl) ?_))))
   obtain rfl := sj H
   exact hJ3 _ ⟨rfl, rfl, trivial⟩
theorem throngref27_Ran_walk (a0_p : Per) (a1_h : UInt64) (w : World) {v0 v1 v2 v3 v4 : Value} (B : Hp) (hB : B.le (hpOf w)) (h0 : R B a0_p.mine [v0]) (h1 : R B a0_p.inputs [v1]) (h2 : R B a0_p.has [v2]) (h3 : R B a0_p.acked [v3]) (h4 : R B a0_p.hashes [v4]) {r : Per × Bool} (H : throngref27_Ran a0_p a1_h = some r) : Calls Tryz.prog 42 #[.agg #[.int .i64 a0_p.id, .int .i64 a0_p.players, .int .i64 a0_p.delay, .int .i64 a0_p.turn, .int .i64 a0_p.said, v0, v1, v2, v3, v4, .bool a0_p.split], .int .u64 a1_h.toNat] w fun e w' => ∃ g : Value × Value × Value × Value × Value, e = .returned (.tuple #[.agg #[.int .i64 r.1.id, .int .i64 r.1.players, .int .i64 r.1.delay, .int .i64 r.1.turn, .int .i64 r.1.said, g.1, g.2.1, g.2.2.1, g.2.2.2.1, g.2.2.2.2, .bool r.1.split], .bool r.2]) ∧ Sat w [dat B (r.1.mine : List Inp) [g.1], dat B (r.1.inputs : List Inp) [g.2.1], dat B (r.1.has : List Int) [g.2.2.1], dat B (r.1.acked : List Int) [g.2.2.2.1], dat B (r.1.hashes : List UInt64) [g.2.2.2.2]] w' := by
 have hm0 := R_max h0
 obtain ⟨p0, c0, rfl⟩ := R_form h0
 have hb0 := Enc.mono hB h0
 have hm1 := R_max h1
 obtain ⟨p1, c1, rfl⟩ := R_form h1
 have hb1 := Enc.mono hB h1
 have hm2 := R_max h2
 obtain ⟨p2, c2, rfl⟩ := R_form h2
 have hb2 := Enc.mono hB h2
 have hm3 := R_max h3
 obtain ⟨p3, c3, rfl⟩ := R_form h3
 have hb3 := Enc.mono hB h3
 have hm4 := R_max h4
 obtain ⟨p4, c4, rfl⟩ := R_form h4
 have hb4 := Enc.mono hB h4
 unfold throngref27_Ran at H
 refine T.enter (args := [_, _]) (S := Sat w []) Tryz.func42 rfl rfl (Sat.start w) ?_
 refine T.seq fun K1 hK1 => T.region (RS.solid (Sd.box (cs := [_, _, _, _, _, _, _, _, _, _, _]) rfl rfl) rfl rfl fun b1 => RS.solid (Sd.alloc zr26 rfl) rfl rfl fun b2 => rA rfl (RS.nil (hK1 _ _ ?_)))
 refine T.seq fun K2 hK2 => T.region (rq (Qt.ldBA (us := [_, _, _, _, _, _, _, _, _, _, _]) 0 ty26 rfl rfl rfl rfl) ?_)
 obtain ⟨x3, hx3, H⟩ := bindE H
 refine RS.solid (Sd.callN (vs := [.agg #[.int .i64 a0_p.id, .int .i64 a0_p.players, .int .i64 a0_p.delay, .int .i64 a0_p.turn, .int .i64 a0_p.said, .slice p0 a0_p.mine.length c0, .slice p1 a0_p.inputs.length c1, .slice p2 a0_p.has.length c2, .slice p3 a0_p.acked.length c3, .slice p4 a0_p.hashes.length c4, .bool a0_p.split]]) ent39 rfl (fun w s => throngref27_Ready_walk a0_p w ((Rd.base hb0) w s) ((Rd.base hb1) w s) ((Rd.base hb2) w s) ((Rd.base hb3) w s) ((Rd.base hb4) w s) hx3)) rfl rfl fun q4 => rM rfl (rp (Pu.extract rfl rfl) (rp (Pu.extract rfl rfl) (rA rfl (rA rfl (RS.nil (hK2 _ _ (cq [(1, _), (2, _), (4, _), (7, _)] ?_)))))))
 refine T.seq fun K3 hK3 => T.seq fun K4 hK4 => T.region (rM rfl (rp (Pu.not rfl) (RS.nil (hK4 _ _ ?_))))
 refine T.cond rfl (fun hc5 => ?_) (fun hc5 => ?_)
 ·have H := ifT hc5 H
  refine cq [(2, _), (4, _)] ?_
  refine T.seq fun K5 hK5 => T.region (rq (Qt.ldBA (us := [_, _, _, _, _, _, _, _, _, _, _]) 0 ty26 rfl rfl rfl rfl) (RS.solid (Sd.stB (cs' := [_, _, _, _, _, _, _, _, _, _, _]) 1 ty26 rfl rfl rfl rfl rfl rfl rfl rfl) rfl rfl fun _ => rA rfl (RS.nil (hK5 _ _ ?_))))
  obtain rfl := sj H
  refine T.rt (Cont.retCT 1 rfl ty26 rfl rfl rfl rfl fun w' s => ?_)
  exact ⟨⟨(.slice p0 a0_p.mine.length c0), (.slice p1 a0_p.inputs.length c1), (.slice p2 a0_p.has.length c2), (.slice p3 a0_p.acked.length c3), (.slice p4 a0_p.hashes.length c4)⟩, rfl, (Sat.baseDat (B := B) hB (Sat.baseDat (B := B) hB (Sat.baseDat (B := B) hB (Sat.baseDat (B := B) hB (Sat.baseDat (B := B) hB s h0) h1) h2) h3) h4).pick [3, 4, 5, 6, 7] (by decide) rfl⟩
 ·have H := ifB hc5 H
  refine T.skip (hK3 _ _ (cq [(1, _), (2, _), (4, _)] ?_))
  refine T.seq fun K6 hK6 => T.region (rq (Qt.ldBA (us := [_, _, _, _, _, _, _, _, _, _, _]) 0 ty26 rfl rfl rfl rfl) ?_)
  obtain ⟨x6, hx6, H⟩ := bindE H
  refine RS.solid (Sd.callN (vs := [.agg #[.int .i64 a0_p.id, .int .i64 a0_p.players, .int .i64 a0_p.delay, .int .i64 a0_p.turn, .int .i64 a0_p.said, .slice p0 a0_p.mine.length c0, .slice p1 a0_p.inputs.length c1, .slice p2 a0_p.has.length c2, .slice p3 a0_p.acked.length c3, .slice p4 a0_p.hashes.length c4, .bool a0_p.split]]) ent11 rfl (fun w s => throngref0_CopyPeer_walk a0_p w ((Rd.base hb0) w s) ((Rd.base hb1) w s) ((Rd.base hb2) w s) ((Rd.base hb3) w s) ((Rd.base hb4) w s) hx6)) rfl rfl fun ⟨q7, q8, q9, q10, q11⟩ => ?_
  refine RS.solid (Sd.alloc zr26 rfl) rfl rfl fun b12 => RS.solid (Sd.stB (cs' := [_, _, _, _, _, _, _, _, _, _, _]) 8 ty26 rfl rfl rfl rfl rfl rfl rfl rfl) rfl rfl fun _ => RS.nil (hK6 _ _ ?_)
  refine T.seq fun K7 hK7 => ?_
  try dsimp only [List.set, List.cons_append, List.nil_append]
  refine T.region (rp (Pu.fieldAddr fd26_6 rfl) (rq (Qt.ldB 0 ty22 rfl rfl rfl) (rp (Pu.fieldAddr fd26_3 rfl) (rq (Qt.ldB 0 ty3 rfl rfl rfl) ?_))))
  obtain ⟨x13, hx13, H⟩ := bindE H
  refine RS.solid (Sd.callN (vs := [.slice p1 a0_p.inputs.length c1, .int .i64 a0_p.turn]) ent73 rfl (fun w s => throngref27_Take_walk a0_p.inputs a0_p.turn w ((Rd.base hb1) w s) hx13)) rfl rfl fun ⟨q14, q15⟩ => ?_
  refine rM rfl (rp (Pu.extract rfl rfl) (rp (Pu.extract rfl rfl) (rp (Pu.fieldAddr fd26_6 rfl) (RS.solid (Sd.stB (cs' := [_, _, _, _, _, _, _, _, _, _, _]) 8 ty22 rfl rfl rfl rfl rfl rfl rfl rfl) rfl rfl fun _ => RS.nil (hK7 _ _ (cq [(1, _), (4, _), (8, _)] ?_))))))
  refine T.seq fun K8 hK8 => ?_
  try dsimp only [List.set, List.cons_append, List.nil_append]
  refine T.region (rp (Pu.fieldAddr fd26_3 rfl) (rq (Qt.ldB 8 ty3 rfl rfl rfl) ?_))
  obtain ⟨g16, H⟩ := gdE H
  refine rp (Pu.addS rfl rfl g16) (rp (Pu.fieldAddr fd26_3 rfl) (RS.solid (Sd.stB (cs' := [_, _, _, _, _, _, _, _, _, _, _]) 8 ty3 rfl rfl rfl rfl rfl rfl rfl rfl) rfl rfl fun _ => RS.nil (hK8 _ _ (cq [(1, _), (4, _), (8, _)] ?_))))
  refine T.seq fun K9 hK9 => ?_
  try dsimp only [List.set, List.cons_append, List.nil_append]
  refine T.region (rp (Pu.fieldAddr fd26_9 rfl) (rq (Qt.ldB 8 ty24 rfl rfl rfl) (rM rfl (RS.solid (Sd.litS (cs := [_]) sl24 zr42 rfl rfl rfl rfl rfl) rfl rfl fun b17 => ?_))))
  obtain ⟨g19, H⟩ := gdE H
  refine RS.solid (Sd.app1c (α := UInt64) 7 11 a1_h rfl rfl (nilH_lt _) sl24 zr42 rfl rfl rfl rfl g19 (by decide)) rfl rfl fun q18 => rp (Pu.fieldAddr fd26_9 rfl) (RS.solid (Sd.stB (cs' := [_, _, _, _, _, _, _, _, _, _, _]) 8 ty24 rfl rfl rfl rfl rfl rfl rfl rfl) rfl rfl fun _ => RS.nil (hK9 _ _ (cq [(4, _), (8, _)] ?_)))
  refine T.seq fun K10 hK10 => T.seq fun K11 hK11 => ?_
  try dsimp only [List.set, List.cons_append, List.nil_append]
  refine T.region (rp (Pu.fieldAddr fd26_9 rfl) (rq (Qt.ldB 8 ty24 rfl rfl rfl) (rp (Pu.lenSl sl24 rfl) (rp (Pu.bin rfl rfl rfl) (RS.nil (hK11 _ _ ?_))))))
  refine T.condP rfl (fun hc20 => ?_) (fun hc20 => ?_)
  ·have H := ifT hc20 H
   refine cq [(4, _), (8, _)] ?_
   try dsimp only [List.set, List.cons_append, List.nil_append]
   refine T.region (rp (Pu.fieldAddr fd26_9 rfl) (rq (Qt.ldB 8 ty24 rfl rfl rfl) ?_))
   obtain ⟨g21, H⟩ := gdE H
   refine RS.know (fun w s => (s.row_fits (q := q18) (m := (x6.hashes ++ [a1_h]).length) (k := 7) rfl)) fun hf22 => ?_
   refine rp (Pu.sliceL sl24 rfl rfl g21) ?_
   refine RS.weakS (fun w s => (Sat.oslDrop (sz := 1) 7 (1 : Int).toNat (Sat.rowOsl (q := q18) (m := (x6.hashes ++ [a1_h]).length) 7 s rfl) rfl (le_nat g21) rfl)) ?_
   refine rp (Pu.fieldAddr fd26_9 rfl) (RS.solid (Sd.stB (cs' := [_, _, _, _, _, _, _, _, _, _, _]) 8 ty24 rfl rfl rfl rfl rfl rfl rfl rfl) rfl rfl fun _ => RS.nil (hK10 _ _ (cq [(4, _), (8, _)] ?_)))
   refine T.seq fun K12 hK12 => ?_
   try dsimp only [List.set, List.cons_append, List.nil_append]
   refine T.region (rq (Qt.ldBA (us := [_, _, _, _, _, _, _, _, _, _, _]) 8 ty26 rfl rfl rfl rfl) (RS.solid (Sd.stB (cs' := [_, _, _, _, _, _, _, _, _, _, _]) 1 ty26 rfl rfl rfl rfl rfl rfl rfl rfl) rfl rfl fun _ => rA rfl (RS.nil (hK12 _ _ ?_))))
   obtain rfl := sj H
   try dsimp only [List.set, List.cons_append, List.nil_append]
   refine T.rt (Cont.retCT 1 rfl ty26 rfl rfl rfl rfl fun w' s => ?_)
   exact ⟨⟨(rowV q7 x6.mine.length), (rowV q15 x13.2.length), (rowV q9 x6.has.length), (rowV q10 x6.acked.length), (.slice (cutP (q18.1.map fun g => (⟨g, 0, none⟩ : Addr)) q18.2 ((1 : Int).toNat) 1) (((x6.hashes ++ [a1_h]).length) - (1 : Int).toNat) (q18.2 - (1 : Int).toNat))⟩, rfl, (Sat.oslDat (B := B) 7 (Sat.rowDat (B := B) (q := q10) (m := x6.acked.length) 6 (Sat.rowDat (B := B) (q := q9) (m := x6.has.length) 5 (Sat.drowDat (B := B) 10 (Sat.drowDat (B := B) 3 s rfl) rfl) rfl) rfl) rfl).pick [3, 10, 5, 6, 7] (by decide) rfl⟩
  ·have H := ifF hc20 H
   refine T.skip (hK10 _ _ (cq [(4, _), (8, _)] ?_))
   refine T.seq fun K13 hK13 => ?_
   try dsimp only [List.set, List.cons_append, List.nil_append]
   refine T.region (rq (Qt.ldBA (us := [_, _, _, _, _, _, _, _, _, _, _]) 8 ty26 rfl rfl rfl rfl) (RS.solid (Sd.stB (cs' := [_, _, _, _, _, _, _, _, _, _, _]) 1 ty26 rfl rfl rfl rfl rfl rfl rfl rfl) rfl rfl fun _ => rA rfl (RS.nil (hK13 _ _ ?_))))
   obtain rfl := sj H
   try dsimp only [List.set, List.cons_append, List.nil_append]
   refine T.rt (Cont.retCT 1 rfl ty26 rfl rfl rfl rfl fun w' s => ?_)
   exact ⟨⟨(rowV q7 x6.mine.length), (rowV q15 x13.2.length), (rowV q9 x6.has.length), (rowV q10 x6.acked.length), (rowV q18 ((x6.hashes ++ [a1_h]).length))⟩, rfl, (Sat.rowDat (B := B) (q := q18) (m := (x6.hashes ++ [a1_h]).length) 7 (Sat.rowDat (B := B) (q := q10) (m := x6.acked.length) 6 (Sat.rowDat (B := B) (q := q9) (m := x6.has.length) 5 (Sat.drowDat (B := B) 10 (Sat.drowDat (B := B) 3 s rfl) rfl) rfl) rfl) rfl).pick [3, 10, 5, 6, 7] (by decide) rfl⟩
end Go.Proofs.YtnadebijiaelkaaGreat
