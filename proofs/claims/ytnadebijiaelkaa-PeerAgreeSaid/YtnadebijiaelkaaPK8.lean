/-
  Walk of PeerAgree.
-/
import Derived.Test.YtnadebijiaelkaaRows
import Derived.Test.YtnadebijiaelkaaPB
import Derived.Test.YtnadebijiaelkaaW5
import Derived.Test.YtnadebijiaelkaaW3
set_option linter.unusedVariables false
set_option linter.unusedSimpArgs false
set_option maxRecDepth 20000
set_option maxHeartbeats 4000000
namespace Go.Proofs.Ytnadebijiaelkaa
open Go.Vg
open Enc (R)
theorem ent11 : Ent Try.prog 11 := ⟨_, _, Try.func11, by kernel_rfl, rfl⟩
theorem ent12 : Ent Try.prog 12 := ⟨_, _, Try.func12, by kernel_rfl, rfl⟩
theorem ent15 : Ent Try.prog 15 := ⟨_, _, Try.func15, by kernel_rfl, rfl⟩
theorem ent17 : Ent Try.prog 17 := ⟨_, _, Try.func17, by kernel_rfl, rfl⟩
theorem ent9 : Ent Try.prog 9 := ⟨_, _, Try.func9, by kernel_rfl, rfl⟩
theorem fd53_0 : fdOff Try.prog 53 0 = some 0 := by kernel_rfl
theorem fd53_1 : fdOff Try.prog 53 1 = some 1 := by kernel_rfl
theorem fd53_2 : fdOff Try.prog 53 2 = some 2 := by kernel_rfl
theorem fd59_0 : fdOff Try.prog 59 0 = some 0 := by kernel_rfl
theorem fd59_1 : fdOff Try.prog 59 1 = some 1 := by kernel_rfl
theorem fd59_2 : fdOff Try.prog 59 2 = some 2 := by kernel_rfl
theorem sl51 : slTy Try.prog 51 = some (59, 3, 24) := by kernel_rfl
theorem sl54 : slTy Try.prog 54 = some (26, 11, 168) := by kernel_rfl
theorem sl57 : slTy Try.prog 57 = some (33, 1, 24) := by kernel_rfl
theorem ty51 : tySz Try.prog 51 = some (1, false) := by kernel_rfl
theorem ty59 : tySz Try.prog 59 = some (3, true) := by kernel_rfl
theorem zr33 : zeroOf Try.prog 33 = some (.slice none 0 0) := by kernel_rfl
theorem zr59 : zeroOf Try.prog 59 = some (.agg #[.int .i64 0, .int .i64 0, .int .i64 0]) := by kernel_rfl
theorem thronglaw28_PeerAgree_walk (a0_q : Wld28) (w : World) {v0 : Value} (h0 : R (hpOf w) a0_q.l [v0]) {r : Bool} (H : thronglaw28_PeerAgree a0_q = some r) : Calls Try.prog 4 #[.agg #[.int .i64 a0_q.n, .int .i64 a0_q.delay, v0]] w fun e w' => e = .returned (.bool r) ∧ Ext w w' := by
 have hm0 := R_max h0
 obtain ⟨p0, c0, rfl⟩ := R_form h0
 unfold thronglaw28_PeerAgree at H
 refine T.enter (args := [_]) (S := Sat w []) Try.func4 rfl rfl (Sat.start w) ?_
 refine T.exP (fun w s => s.newArena) fun hA _ => ?_
 refine T.seq fun K1 hK1 => ?_
 refine T.region ?_
 refine RS.solid (Sd.box (cs := [_, _, _]) rfl rfl) rfl rfl fun b1 => ?_
 refine RS.p (Pu.assign rfl) rfl rfl ?_
 refine RS.nil (hK1 _ _ ?_)
 refine T.seq fun K2 hK2 => ?_
 refine T.drawn (fun _ => True) [(0, .pu), (1, .rd), (2, .rd), (3, .pu), (4, .pu), (5, .rd), (6, .rd), (7, .pu), (8, .pu), (9, .pu)] mixed (ClE.sat _ _) (by kernel_rfl) ?_
 refine RD.p (fun _ _ => trivial) rfl (Pu.fieldAddr fd53_0 rfl) rfl rfl ?_
 refine RD.q (fun _ _ => trivial) rfl (Qt.ldB 1 ty3 rfl rfl rfl) rfl rfl ?_
 obtain ⟨x2, hx2, H⟩ := bindE H
 refine RD.q (fun _ _ => trivial) rfl (Qt.call (vs := [.int .i64 a0_q.n, .int .i64 4]) ent8 rfl fun w s => thronglaw0_Within_walk a0_q.n 4 w  hx2) rfl rfl ?_
 obtain ⟨g3, H⟩ := gdE H
 refine RD.p (fun _ _ => trivial) rfl (Pu.addS rfl rfl g3) rfl rfl ?_
 refine RD.p (fun _ _ => trivial) rfl (Pu.fieldAddr fd53_1 rfl) rfl rfl ?_
 refine RD.q (fun _ _ => trivial) rfl (Qt.ldB 1 ty3 rfl rfl rfl) rfl rfl ?_
 obtain ⟨x4, hx4, H⟩ := bindE H
 refine RD.q (fun _ _ => trivial) rfl (Qt.call (vs := [.int .i64 a0_q.delay, .int .i64 8]) ent8 rfl fun w s => thronglaw0_Within_walk a0_q.delay 8 w  hx4) rfl rfl ?_
 obtain ⟨g5, H⟩ := gdE H
 refine RD.p (fun _ _ => trivial) rfl (Pu.addS rfl rfl g5) rfl rfl ?_
 refine RD.p (fun _ _ => trivial) rfl (Pu.assign rfl) rfl rfl ?_
 refine RD.p (fun _ _ => trivial) rfl (Pu.assign rfl) rfl rfl ?_
 refine RD.nil (hK2 _ _ (T.conseq (fr' := [(1, _), (3, _), (4, _)]) ?_ ⟨rfl, rfl, rfl, trivial⟩ (fun _ s => s)))
 refine T.seq fun K3 hK3 => ?_
 refine T.seq fun K4 hK4 => ?_
 refine T.region ?_
 refine RS.p (Pu.fieldAddr fd53_2 rfl) rfl rfl ?_
 refine RS.q (Qt.ldB 1 ty51 rfl rfl rfl) rfl rfl ?_
 refine RS.p (Pu.lenSl sl51 rfl) rfl rfl ?_
 refine RS.p (Pu.bin rfl rfl rfl) rfl rfl ?_
 refine RS.nil (hK4 _ _ ?_)
 refine T.condP rfl (fun hc6 => ?_) (fun hc6 => ?_)
 ·have H := ifT hc6 H
  refine T.conseq (fr' := []) ?_ trivial (fun _ s => s)
  refine T.seq fun K5 hK5 => ?_
  refine T.region ?_
  refine RS.p (Pu.assign rfl) rfl rfl ?_
  refine RS.nil (hK5 _ _ ?_)
  obtain rfl := Option.some.inj H
  refine T.rt (Cont.ret1 rfl rfl fun w' s => ?_)
  exact ⟨rfl, s.ext⟩
 ·have H := ifF hc6 H
  refine T.skip (hK3 _ _ (T.conseq (fr' := [(1, _), (3, _), (4, _)]) ?_ ⟨rfl, rfl, rfl, trivial⟩ (fun _ s => s)))
  refine T.seq fun K6 hK6 => ?_
  refine T.region ?_
  refine RS.p (Pu.assign rfl) rfl rfl ?_
  refine RS.weakS (fun w s => (s.nilRowA (α := Per) (B := hA) 26)) ?_
  refine RS.nil (hK6 _ _ ?_)
  refine T.seq fun K7 hK7 => ?_
  refine T.seq fun K8 hK8 => ?_
  refine T.region ?_
  refine RS.p (Pu.assign rfl) rfl rfl ?_
  refine RS.nil (hK8 _ _ ?_)
  refine T.joinE (σ := List Per) (γ := Hp × (Option Nat × Nat)) H Ex.go [(1, _), (3, _)] ⟨rfl, rfl, trivial⟩ (fun v9 (q8, q10) => [(5, rowV q10 v9.length)]) (fun v9 (q8, q10) => Sat w [fz q8, blk b1 [.int .i64 a0_q.n, .int .i64 a0_q.delay, .slice p0 a0_q.l.length c0] 53, rowG (FA q8) 26 (rowV q10 v9.length) v9]) ?_ ?_
  ·rintro v9 ⟨q8, q10⟩ H
   try dsimp only [Ex.then] at H
   refine Cont.conseq (fr' := [(5, _), (1, _), (3, _)]) ?_ ⟨rfl, rfl, rfl, trivial⟩ (fun _ s => s)
   refine id (hK7 _ _ ?_)
   refine T.seq fun K9 hK9 => ?_
   refine T.region ?_
   refine RS.p (Pu.assign rfl) rfl rfl ?_
   refine RS.weakS (fun w s => (s.nilRowA (α := Nte) (B := q8) 38)) ?_
   refine RS.nil (hK9 _ _ ?_)
   refine T.seq fun K10 hK10 => ?_
   refine T.region ?_
   refine RS.p (Pu.assign rfl) rfl rfl ?_
   refine RS.weakS (fun w s => (s.nilRowA (α := (List Cmd)) (B := q8) 33)) ?_
   refine RS.nil (hK10 _ _ ?_)
   refine T.seq fun K11 hK11 => ?_
   refine T.region ?_
   refine RS.p (Pu.assign rfl) rfl rfl ?_
   refine RS.nil (hK11 _ _ ?_)
   refine T.seq fun K12 hK12 => ?_
   refine T.seq fun K13 hK13 => ?_
   refine T.region ?_
   refine RS.p (Pu.assign rfl) rfl rfl ?_
   refine RS.nil (hK13 _ _ ?_)
   refine T.joinE (σ := List Per) (γ := Hp) H Ex.go [(3, _), (5, _)] ⟨rfl, rfl, trivial⟩ (fun v13 q12 => []) (fun v13 q12 => Sat w [fz q12, blk b1 [.int .i64 a0_q.n, .int .i64 a0_q.delay, .slice p0 a0_q.l.length c0] 53, rowG (FA q12) 26 (rowV q10 v9.length) v13, dead, dead]) ?_ ?_
   ·rintro v13 q12 H
    try dsimp only [Ex.then] at H
    refine Cont.conseq (fr' := [(3, _), (5, _)]) ?_ ⟨rfl, rfl, trivial⟩ (fun _ s => s)
    refine id (hK12 _ _ ?_)
    refine T.seq fun K14 hK14 => ?_
    refine T.seq fun K15 hK15 => ?_
    refine T.region ?_
    refine RS.p (Pu.assign rfl) rfl rfl ?_
    refine RS.nil (hK15 _ _ ?_)
    refine T.joinE (σ := Unit) (γ := Unit) H Ex.go [] trivial (fun _ _ => []) (fun _ _ => Sat w [fz q12, blk b1 [.int .i64 a0_q.n, .int .i64 a0_q.delay, .slice p0 a0_q.l.length c0] 53, rowG (FA q12) 26 (rowV q10 v9.length) v13, dead, dead]) ?_ ?_
    ·rintro ⟨⟩ ⟨⟩ H
     try dsimp only [Ex.then] at H
     refine Cont.conseq (fr' := []) ?_ trivial (fun _ s => s)
     refine id (hK14 _ _ ?_)
     refine T.seq fun K16 hK16 => ?_
     refine T.region ?_
     obtain ⟨x15, hx15, H⟩ := bindE H
     refine RS.q (Qt.call (vs := []) ent15 rfl fun w s => thronglaw28_wakes_walk  w  hx15) rfl rfl ?_
     refine RS.p (Pu.assign rfl) rfl rfl ?_
     refine RS.nil (hK16 _ _ ?_)
     obtain rfl := Option.some.inj H
     refine T.rt (Cont.ret1 rfl rfl fun w' s => ?_)
     exact ⟨rfl, s.ext⟩
    ·intro z14 hz14 HX14 hJ14
     refine T.block ?_
     refine T.loopA (γ := Unit) hz14 [(3, _), (5, _)] (fun v16 _ => [(30, .int .i64 v16)]) (fun v16 _ => Sat w [fz q12, blk b1 [.int .i64 a0_q.n, .int .i64 a0_q.delay, .slice p0 a0_q.l.length c0] 53, rowG (FA q12) 26 (rowV q10 v9.length) v13, dead, dead]) () ⟨rfl, rfl, trivial⟩ ⟨rfl, trivial⟩ (fun w s => s) ?_
     rintro v16 ⟨⟩ y17 H hd14 KL14 hL14
     try dsimp only [Ex.then] at H
     refine T.conseq (fr' := [(30, _), (3, _), (5, _)]) ?_ ⟨rfl, rfl, rfl, trivial⟩ (fun _ s => s)
     refine T.seq fun K17 hK17 => ?_
     refine T.seq fun K18 hK18 => ?_
     refine T.region ?_
     refine RS.p (Pu.move rfl) rfl rfl ?_
     refine RS.p (Pu.move rfl) rfl rfl ?_
     refine RS.p (Pu.bin rfl rfl rfl) rfl rfl ?_
     refine RS.nil (hK18 _ _ ?_)
     refine T.condP rfl (fun hc18 => ?_) (fun hc18 => ?_)
     ·have H := ifT hc18 H
      refine T.skip (hK17 _ _ (T.conseq (fr' := [(3, _), (5, _), (30, _)]) ?_ ⟨rfl, rfl, rfl, trivial⟩ (fun _ s => s)))
      refine T.seq fun K19 hK19 => ?_
      refine T.block ?_
      refine T.seq fun K20 hK20 => ?_
      refine T.region ?_
      refine RS.p (Pu.move rfl) rfl rfl ?_
      refine RS.p (Pu.move rfl) rfl rfl ?_
      obtain ⟨g19, H⟩ := gdE H
      refine RS.know (fun w s => (s.row_fitsG (q := q10) (m := v9.length) (k := 2) rfl)) fun hf20 => ?_
      refine RS.know (p := ∃ g cap, q10 = (some g, cap)) (fun w s => (s.row_someG (k := 2) rfl (pos_of (idx_of hf20.1 g19)))) ?_
      rintro ⟨gg21, cc22, rfl⟩
      refine RS.p (Pu.indexSl sl54 rfl rfl g19) rfl rfl ?_
      refine RS.p (Pu.fieldAddr fd26_10 rfl) rfl rfl ?_
      refine RS.q (Qt.ldF (α := Per) (Rd2.toRd (Held.fz 0 rfl) (Rd2.ofFA 2 rfl)) ty4 rfl rfl (idx_of hf20.1 g19) (by rintro _ _ ⟨_, _, _, _, _, rfl, _, _, _, _, _⟩; rfl)) rfl rfl ?_
      refine RS.nil (hK20 _ _ ?_)
      refine T.cond rfl (fun hc23 => ?_) (fun hc23 => ?_)
      ·have H := ifT hc23 H
       refine T.conseq (fr' := []) ?_ trivial (fun _ s => s)
       refine T.seq fun K21 hK21 => ?_
       refine T.region ?_
       refine RS.p (Pu.assign rfl) rfl rfl ?_
       refine RS.nil (hK21 _ _ ?_)
       obtain rfl := hd14 _ H
       have H := HX14
       obtain rfl := Option.some.inj H
       refine T.rt (Cont.ret1 rfl rfl fun w' s => ?_)
       exact ⟨rfl, s.ext⟩
      ·have H := ifB hc23 H
       refine T.skip (hK19 _ _ (T.conseq (fr' := [(3, _), (5, _), (30, _)]) ?_ ⟨rfl, rfl, rfl, trivial⟩ (fun _ s => s)))
       refine T.region ?_
       refine RS.p (Pu.move rfl) rfl rfl ?_
       obtain ⟨g24, H⟩ := gdE H
       refine RS.p (Pu.addS rfl rfl g24) rfl rfl ?_
       refine RS.p (Pu.assign rfl) rfl rfl ?_
       refine RS.nil (hL14 _ _ (v16 + 1) () H ⟨rfl, rfl, trivial⟩ ⟨rfl, trivial⟩ (fun w s => s))
     ·have H := ifF hc18 H
      obtain rfl := hd14 _ H
      refine T.xt (hJ14 _ _ () () HX14 trivial trivial (fun w s => s))
   ·intro z11 hz11 HX11 hJ11
    refine T.block ?_
    refine T.loopA (γ := Hp × (Option Nat × Nat) × (Option Nat × Nat)) hz11 [(1, _), (3, _), (5, _)] (fun (v25, v26, l28, l29, l31) (q27, q30, q32) => [(9, rowV q30 l29.length), (10, rowV q32 l31.length), (11, .int .i64 v25), (12, .int .i64 v26)]) (fun (v25, v26, l28, l29, l31) (q27, q30, q32) => Sat w [fz q27, blk b1 [.int .i64 a0_q.n, .int .i64 a0_q.delay, .slice p0 a0_q.l.length c0] 53, rowG (FA q27) 26 (rowV q10 v9.length) l28, rowG (FA q27) 38 (rowV q30 l29.length) l29, rowG (FA q27) 33 (rowV q32 l31.length) l31]) (q8, (none, 0), (none, 0)) ⟨rfl, rfl, rfl, trivial⟩ ⟨rfl, rfl, rfl, rfl, trivial⟩ (fun w s => s) ?_
    rintro ⟨v25, v26, l28, l29, l31⟩ ⟨q27, q30, q32⟩ y33 H hd11 KL11 hL11
    try dsimp only [Ex.then] at H
    refine T.conseq (fr' := [(9, _), (10, _), (11, _), (12, _), (1, _), (3, _), (5, _)]) ?_ ⟨rfl, rfl, rfl, rfl, rfl, rfl, rfl, trivial⟩ (fun _ s => s)
    refine T.seq fun K22 hK22 => ?_
    refine T.seq fun K23 hK23 => ?_
    refine T.region ?_
    refine RS.p (Pu.move rfl) rfl rfl ?_
    refine RS.p (Pu.fieldAddr fd53_2 rfl) rfl rfl ?_
    refine RS.q (Qt.ldB 1 ty51 rfl rfl rfl) rfl rfl ?_
    refine RS.p (Pu.lenSl sl51 rfl) rfl rfl ?_
    refine RS.p (Pu.bin rfl rfl rfl) rfl rfl ?_
    refine RS.p (Pu.move rfl) rfl rfl ?_
    refine RS.joinV 4 71 (.bool (decide ((v26 < (a0_q.l.length : Int)) ∧ ((l29.length : Int) < 3000)))) [(1, _), (3, _), (5, _), (9, _), (10, _), (11, _), (12, _)] ⟨rfl, rfl, rfl, rfl, rfl, rfl, rfl, trivial⟩ ?_ ?_
    ·refine RS.nil (hK23 _ _ ?_)
     refine T.condP rfl (fun hc36 => ?_) (fun hc36 => ?_)
     ·have H := ifT hc36 H
      refine T.skip (hK22 _ _ ?_)
      refine T.joinA (σ := Int × List Per × List (List Cmd) × List Nte) (γ := Hp × (Option Nat × Nat) × (Option Nat × Nat)) H Ex.go [(1, _), (3, _), (5, _), (12, _)] ⟨rfl, rfl, rfl, rfl, trivial⟩ (fun (v38, v40, v41, v43) (q39, q42, q44) => [(9, rowV q44 v43.length), (10, rowV q42 v41.length), (11, .int .i64 v38)]) (fun (v38, v40, v41, v43) (q39, q42, q44) => Sat w [fz q39, blk b1 [.int .i64 a0_q.n, .int .i64 a0_q.delay, .slice p0 a0_q.l.length c0] 53, rowG (FA q39) 26 (rowV q10 v9.length) v40, dead, rowG (FA q39) 33 (rowV q42 v41.length) v41, rowG (FA q39) 38 (rowV q44 v43.length) v43]) ?_ ?_
      ·rintro ⟨v38, v40, v41, v43⟩ ⟨q39, q42, q44⟩ H
       try dsimp only [Ex.then] at H
       refine T.conseq (fr' := [(9, _), (10, _), (11, _), (1, _), (3, _), (5, _), (12, _)]) ?_ ⟨rfl, rfl, rfl, rfl, rfl, rfl, rfl, trivial⟩ (fun _ s => s)
       refine T.region ?_
       refine RS.p (Pu.move rfl) rfl rfl ?_
       obtain ⟨g45, H⟩ := gdE H
       refine RS.p (Pu.addS rfl rfl g45) rfl rfl ?_
       refine RS.p (Pu.assign rfl) rfl rfl ?_
       refine RS.nil (hL11 _ _ (v38, (v26 + 1), v40, v43, v41) (q39, q44, q42) H ⟨rfl, rfl, rfl, trivial⟩ ⟨rfl, rfl, rfl, rfl, trivial⟩ (fun w s => s.pick [0, 1, 2, 5, 4] (by decide) rfl))
      ·intro z37 H HX37 K24 hJ37
       refine T.block ?_
       refine T.seq fun K25 hK25 => ?_
       refine T.region ?_
       refine RS.p (Pu.fieldAddr fd53_2 rfl) rfl rfl ?_
       refine RS.q (Qt.ldB 1 ty51 rfl rfl rfl) rfl rfl ?_
       refine RS.p (Pu.move rfl) rfl rfl ?_
       obtain ⟨g46, H⟩ := gdE H
       obtain ⟨bl47, ol48, rfl⟩ := R_ptr h0 (ne_of_pos (pos_of g46))
       refine RS.p (Pu.indexSl sl51 rfl rfl g46) rfl rfl ?_
       refine RS.q (Qt.ldW (α := Fate) (cs := [_, _, _]) (Rd.base h0) ty59 rfl rfl g46 rfl (by rintro _ _ rfl; rfl)) rfl rfl ?_
       refine RS.solid (Sd.alloc zr59 rfl) rfl rfl fun b49 => ?_
       refine RS.solid (Sd.stB (cs' := [_, _, _]) 5 ty59 rfl rfl rfl rfl rfl rfl rfl rfl) rfl rfl fun _ => ?_
       refine RS.nil (hK25 _ _ (T.conseq (fr' := [(1, _), (3, _), (5, _), (9, _), (10, _), (11, _), (12, _), (13, _)]) ?_ ⟨rfl, rfl, rfl, rfl, rfl, rfl, rfl, rfl, trivial⟩ (fun _ s => s)))
       refine T.seq fun K26 hK26 => ?_
       refine T.region ?_
       refine RS.p (Pu.fieldAddr fd59_1 rfl) rfl rfl ?_
       refine RS.q (Qt.ldB 5 ty3 rfl rfl rfl) rfl rfl ?_
       refine RS.p (Pu.move rfl) rfl rfl ?_
       obtain ⟨x50, hx50, H⟩ := bindE H
       refine RS.q (Qt.call (vs := [.int .i64 ((gi a0_q.l v26).peer), .int .i64 (1 + x2)]) ent8 rfl fun w s => thronglaw0_Within_walk ((gi a0_q.l v26).peer) (1 + x2) w  hx50) rfl rfl ?_
       refine RS.p (Pu.assign rfl) rfl rfl ?_
       refine RS.nil (hK26 _ _ (T.conseq (fr' := [(1, _), (3, _), (5, _), (9, _), (10, _), (11, _), (12, _), (13, _), (14, _)]) ?_ ⟨rfl, rfl, rfl, rfl, rfl, rfl, rfl, rfl, rfl, trivial⟩ (fun _ s => s)))
       refine T.seq fun K27 hK27 => ?_
       refine T.region ?_
       refine RS.p (Pu.fieldAddr fd59_0 rfl) rfl rfl ?_
       refine RS.q (Qt.ldB 5 ty3 rfl rfl rfl) rfl rfl ?_
       obtain ⟨x51, hx51, H⟩ := bindE H
       refine RS.q (Qt.call (vs := [.int .i64 ((gi a0_q.l v26).act), .int .i64 7]) ent8 rfl fun w s => thronglaw0_Within_walk ((gi a0_q.l v26).act) 7 w  hx51) rfl rfl ?_
       refine RS.p (Pu.assign rfl) rfl rfl ?_
       refine RS.nil (hK27 _ _ (T.conseq (fr' := [(1, _), (3, _), (5, _), (9, _), (10, _), (11, _), (12, _), (13, _), (14, _), (15, _)]) ?_ ⟨rfl, rfl, rfl, rfl, rfl, rfl, rfl, rfl, rfl, rfl, trivial⟩ (fun _ s => s)))
       refine T.seq fun K28 hK28 => ?_
       refine T.seq fun K29 hK29 => ?_
       refine T.region ?_
       refine RS.p (Pu.move rfl) rfl rfl ?_
       refine RS.p (Pu.bin rfl rfl rfl) rfl rfl ?_
       refine RS.p (Pu.move rfl) rfl rfl ?_
       refine RS.joinV 3 91 (.bool (decide ((3 ≤ x51) ∧ (x51 ≤ 4)))) [(1, _), (3, _), (5, _), (9, _), (10, _), (11, _), (12, _), (13, _), (14, _), (15, _)] ⟨rfl, rfl, rfl, rfl, rfl, rfl, rfl, rfl, rfl, rfl, trivial⟩ ?_ ?_
       ·refine RS.p (Pu.move rfl) rfl rfl ?_
        refine RS.joinV 4 96 (.bool (decide (((3 ≤ x51) ∧ (x51 ≤ 4)) ∨ ((l29.length : Int) = 0)))) [(1, _), (3, _), (5, _), (9, _), (10, _), (11, _), (12, _), (13, _), (14, _), (15, _)] ⟨rfl, rfl, rfl, rfl, rfl, rfl, rfl, rfl, rfl, rfl, trivial⟩ ?_ ?_
        ·refine RS.nil (hK29 _ _ ?_)
         refine T.joinE (σ := Int × Int × List Per × List Nte) (γ := Hp × (Option Nat × Nat)) H Ex.go [(1, _), (3, _), (5, _), (10, _), (12, _)] ⟨rfl, rfl, rfl, rfl, rfl, trivial⟩ (fun (v57, v58, v60, v61) (q59, q62) => [(9, rowV q62 v61.length), (11, .int .i64 v57), (14, .int .i64 v58)]) (fun (v57, v58, v60, v61) (q59, q62) => Sat w [fz q59, blk b1 [.int .i64 a0_q.n, .int .i64 a0_q.delay, .slice (some ⟨bl47, ol48, none⟩) a0_q.l.length c0] 53, rowG (FA q59) 26 (rowV q10 v9.length) v60, dead, rowG (FA q59) 33 (rowV q32 l31.length) l31, blk b49 [.int .i64 ((gi a0_q.l v26).act), .int .i64 ((gi a0_q.l v26).peer), .int .i64 ((gi a0_q.l v26).k)] 59, rowG (FA q59) 38 (rowV q62 v61.length) v61]) ?_ ?_
         ·rintro ⟨v57, v58, v60, v61⟩ ⟨q59, q62⟩ H
          try dsimp only [Ex.then] at H
          refine Cont.conseq (fr' := [(9, _), (11, _), (14, _), (1, _), (3, _), (5, _), (10, _), (12, _)]) ?_ ⟨rfl, rfl, rfl, rfl, rfl, rfl, rfl, rfl, trivial⟩ (fun _ s => s)
          refine id (hK28 _ _ ?_)
          refine T.joinE (σ := List Per × List (List Cmd)) (γ := Hp × (Option Nat × Nat)) H Ex.go [(1, _), (3, _), (5, _), (9, _), (11, _), (12, _)] ⟨rfl, rfl, rfl, rfl, rfl, rfl, trivial⟩ (fun (v65, v66) (q64, q67) => [(10, rowV q67 v66.length)]) (fun (v65, v66) (q64, q67) => Sat w [fz q64, blk b1 [.int .i64 a0_q.n, .int .i64 a0_q.delay, .slice (some ⟨bl47, ol48, none⟩) a0_q.l.length c0] 53, rowG (FA q64) 26 (rowV q10 v9.length) v65, dead, rowG (FA q64) 33 (rowV q67 v66.length) v66, blk b49 [.int .i64 ((gi a0_q.l v26).act), .int .i64 ((gi a0_q.l v26).peer), .int .i64 ((gi a0_q.l v26).k)] 59, rowG (FA q64) 38 (rowV q62 v61.length) v61]) ?_ ?_
          ·rintro ⟨v65, v66⟩ ⟨q64, q67⟩ H
           try dsimp only [Ex.then] at H
           refine Cont.conseq (fr' := [(10, _), (1, _), (3, _), (5, _), (9, _), (11, _), (12, _)]) ?_ ⟨rfl, rfl, rfl, rfl, rfl, rfl, rfl, trivial⟩ (fun _ s => s)
           obtain rfl := Option.some.inj H
           refine id (hJ37 _ _ (v57, v65, v66, v61) (q64, q67, q62) HX37 ⟨rfl, rfl, rfl, rfl, trivial⟩ ⟨rfl, rfl, rfl, trivial⟩ (fun w s => (s.deadRow).pick [0, 1, 2, 7, 4, 6] (by decide) rfl))
          ·intro z63 hz63 HX63 hJ63
           refine T.block ?_
           refine T.loopA (γ := Hp × (Option Nat × Nat)) hz63 [(1, _), (3, _), (5, _), (9, _), (11, _), (12, _), (14, _)] (fun (l69, l70) (q68, q71) => [(10, rowV q71 l70.length)]) (fun (l69, l70) (q68, q71) => Sat w [fz q68, blk b1 [.int .i64 a0_q.n, .int .i64 a0_q.delay, .slice (some ⟨bl47, ol48, none⟩) a0_q.l.length c0] 53, rowG (FA q68) 26 (rowV q10 v9.length) l69, dead, rowG (FA q68) 33 (rowV q71 l70.length) l70, blk b49 [.int .i64 ((gi a0_q.l v26).act), .int .i64 ((gi a0_q.l v26).peer), .int .i64 ((gi a0_q.l v26).k)] 59, rowG (FA q68) 38 (rowV q62 v61.length) v61]) (q59, q32) ⟨rfl, rfl, rfl, rfl, rfl, rfl, rfl, trivial⟩ ⟨rfl, trivial⟩ (fun w s => s) ?_
           rintro ⟨l69, l70⟩ ⟨q68, q71⟩ y72 H hd63 KL63 hL63
           try dsimp only [Ex.then] at H
           refine T.conseq (fr' := [(10, _), (1, _), (3, _), (5, _), (9, _), (11, _), (12, _), (14, _)]) ?_ ⟨rfl, rfl, rfl, rfl, rfl, rfl, rfl, rfl, trivial⟩ (fun _ s => s)
           refine T.block ?_
           refine T.seq fun K30 hK30 => ?_
           try dsimp only [List.set, List.cons_append, List.nil_append]
           refine T.region ?_
           refine RS.p (Pu.move rfl) rfl rfl ?_
           refine RS.p (Pu.move rfl) rfl rfl ?_
           obtain ⟨g73, H⟩ := gdE H
           refine RS.know (fun w s => (s.row_fitsG (q := q10) (m := v9.length) (k := 2) rfl)) fun hf74 => ?_
           refine RS.know (p := ∃ g cap, q10 = (some g, cap)) (fun w s => (s.row_someG (k := 2) rfl (pos_of (idx_of hf74.1 g73)))) ?_
           rintro ⟨gg75, cc76, rfl⟩
           refine RS.p (Pu.indexSl sl54 rfl rfl g73) rfl rfl ?_
           refine RS.exP (fun w s => s.freeze 2 rfl) fun hh77 hz78 => ?_
           obtain ⟨c79, hc80, ha81⟩ := R2.el (α := Per) (fa_R2 hz78) (idx_of hf74.1 g73)
           obtain ⟨u82, u83, u84, u85, u86, rfl, hu82, hu83, hu84, hu85, hu86⟩ := hc80
           obtain ⟨p87, cc88, rfl⟩ := R_form hu82
           obtain ⟨p89, cc90, rfl⟩ := R_form hu83
           obtain ⟨p91, cc92, rfl⟩ := R_form hu84
           obtain ⟨p93, cc94, rfl⟩ := R_form hu85
           obtain ⟨p95, cc96, rfl⟩ := R_form hu86
           refine RS.q (Qt.ldZ (cs := [_, _, _, _, _, _, _, _, _, _, _]) ty26 rfl ha81 (Held.fz 2 rfl) rfl) rfl rfl ?_
           obtain ⟨x97, hx97, H⟩ := bindE H
           refine RS.solid (Sd.callN (vs := [.agg #[.int .i64 ((gi l69 v58).id), .int .i64 ((gi l69 v58).players), .int .i64 ((gi l69 v58).delay), .int .i64 ((gi l69 v58).turn), .int .i64 ((gi l69 v58).said), .slice p87 ((gi l69 v58).mine).length cc88, .slice p89 ((gi l69 v58).inputs).length cc90, .slice p91 ((gi l69 v58).has).length cc92, .slice p93 ((gi l69 v58).acked).length cc94, .slice p95 ((gi l69 v58).hashes).length cc96, .bool ((gi l69 v58).split)]]) ent18 rfl (fun w s => peer_Ready_walk (gi l69 v58) w ((Rd.ofFz 0 rfl hu82) w s) ((Rd.ofFz 0 rfl hu83) w s) ((Rd.ofFz 0 rfl hu84) w s) ((Rd.ofFz 0 rfl hu85) w s) ((Rd.ofFz 0 rfl hu86) w s) hx97)) rfl rfl fun q98 => ?_
           refine RS.p (Pu.move rfl) rfl rfl ?_
           refine RS.p (Pu.extract rfl rfl) rfl rfl ?_
           refine RS.p (Pu.extract rfl rfl) rfl rfl ?_
           refine RS.p (Pu.extract rfl rfl) rfl rfl ?_
           refine RS.p (Pu.assign rfl) rfl rfl ?_
           refine RS.p (Pu.assign rfl) rfl rfl ?_
           refine RS.p (Pu.assign rfl) rfl rfl ?_
           refine RS.nil (hK30 _ _ (T.conseq (fr' := [(1, _), (3, _), (5, _), (9, _), (10, _), (11, _), (12, _), (14, _), (24, _), (25, _), (26, _)]) ?_ ⟨rfl, rfl, rfl, rfl, rfl, rfl, rfl, rfl, rfl, rfl, rfl, trivial⟩ (fun _ s => s)))
           refine T.seq fun K31 hK31 => ?_
           refine T.seq fun K32 hK32 => ?_
           try dsimp only [List.set, List.cons_append, List.nil_append]
           refine T.region ?_
           refine RS.p (Pu.move rfl) rfl rfl ?_
           obtain ⟨x99, hx99, H⟩ := bindE H
           refine RS.q (Qt.call (vs := [.int .i64 x97.2.2]) ent13 rfl fun w s => thronglaw28_num_walk x97.2.2 w  hx99) rfl rfl ?_
           refine RS.p (Pu.bin rfl rfl rfl) rfl rfl ?_
           refine RS.nil (hK32 _ _ ?_)
           refine T.condP rfl (fun hc100 => ?_) (fun hc100 => ?_)
           ·have H := ifT hc100 H
            refine T.conseq (fr' := []) ?_ trivial (fun _ s => s)
            refine T.seq fun K33 hK33 => ?_
            refine T.region ?_
            refine RS.p (Pu.assign rfl) rfl rfl ?_
            refine RS.nil (hK33 _ _ ?_)
            obtain rfl := hd63 _ H
            have H := HX63
            obtain rfl := Option.some.inj H
            have H := HX37
            obtain rfl := hd11 _ H
            have H := HX11
            obtain rfl := Option.some.inj H
            try dsimp only [List.set, List.cons_append, List.nil_append]
            refine T.rt (Cont.ret1 rfl rfl fun w' s => ?_)
            exact ⟨rfl, s.ext⟩
           ·have H := ifF hc100 H
            refine T.skip (hK31 _ _ (T.conseq (fr' := [(1, _), (3, _), (5, _), (9, _), (10, _), (11, _), (12, _), (14, _), (24, _), (25, _)]) ?_ ⟨rfl, rfl, rfl, rfl, rfl, rfl, rfl, rfl, rfl, rfl, trivial⟩ (fun _ s => s)))
            refine T.seq fun K34 hK34 => ?_
            refine T.seq fun K35 hK35 => ?_
            try dsimp only [List.set, List.cons_append, List.nil_append]
            refine T.region ?_
            refine RS.p (Pu.move rfl) rfl rfl ?_
            refine RS.p (Pu.not rfl) rfl rfl ?_
            refine RS.nil (hK35 _ _ ?_)
            refine T.cond rfl (fun hc101 => ?_) (fun hc101 => ?_)
            ·have H := ifT hc101 H
             obtain rfl := hd63 _ H
             refine T.xt (hJ63 _ _ (l69, l70) (q68, q71) HX63 ⟨rfl, rfl, rfl, rfl, rfl, rfl, trivial⟩ ⟨rfl, trivial⟩ (fun w s => (Sat.thaw hz78 2 rfl s).pick [0, 1, 2, 3, 4, 5, 6] (by decide) rfl))
            ·have H := ifB hc101 H
             refine T.skip (hK34 _ _ (T.conseq (fr' := [(1, _), (3, _), (5, _), (9, _), (10, _), (11, _), (12, _), (14, _), (24, _)]) ?_ ⟨rfl, rfl, rfl, rfl, rfl, rfl, rfl, rfl, rfl, trivial⟩ (fun _ s => s)))
             refine T.seq fun K36 hK36 => ?_
             try dsimp only [List.set, List.cons_append, List.nil_append]
             refine T.region ?_
             refine RS.p (Pu.move rfl) rfl rfl ?_
             refine RS.p (Pu.move rfl) rfl rfl ?_
             obtain ⟨g102, H⟩ := gdE H
             refine RS.know (fun w s => (rowG_fits hz78)) fun hf103 => ?_
             refine RS.p (Pu.indexSl sl54 rfl rfl g102) rfl rfl ?_
             refine RS.p (Pu.fieldAddr fd26_3 rfl) rfl rfl ?_
             refine RS.q (Qt.ldF (α := Per) (Rd2.toRd (Held.fz 0 rfl) (Rd2.ofFz 2 rfl (fa_R2 hz78))) ty3 rfl rfl (idx_of hf103.1 g102) (by rintro _ _ ⟨_, _, _, _, _, rfl, _, _, _, _, _⟩; rfl)) rfl rfl ?_
             refine RS.p (Pu.assign rfl) rfl rfl ?_
             refine RS.nil (hK36 _ _ (T.conseq (fr' := [(1, _), (3, _), (5, _), (9, _), (10, _), (11, _), (12, _), (14, _), (24, _), (27, _)]) ?_ ⟨rfl, rfl, rfl, rfl, rfl, rfl, rfl, rfl, rfl, rfl, trivial⟩ (fun _ s => s)))
             refine T.seq fun K37 hK37 => ?_
             refine T.seq fun K38 hK38 => ?_
             try dsimp only [List.set, List.cons_append, List.nil_append]
             refine T.region ?_
             refine RS.p (Pu.move rfl) rfl rfl ?_
             refine RS.p (Pu.move rfl) rfl rfl ?_
             refine RS.p (Pu.lenSl sl57 rfl) rfl rfl ?_
             refine RS.p (Pu.bin rfl rfl rfl) rfl rfl ?_
             refine RS.nil (hK38 _ _ ?_)
             refine T.joinE (σ := List (List Cmd)) (γ := Hp × (Option Nat × Nat)) H Ex.go [(1, _), (3, _), (5, _), (9, _), (11, _), (12, _), (14, _), (27, _)] ⟨rfl, rfl, rfl, rfl, rfl, rfl, rfl, rfl, trivial⟩ (fun v106 (q105, q107) => [(10, rowV q107 v106.length)]) (fun v106 (q105, q107) => Sat w [fz q105, blk b1 [.int .i64 a0_q.n, .int .i64 a0_q.delay, .slice (some ⟨bl47, ol48, none⟩) a0_q.l.length c0] 53, rowG (FA q105) 26 (rowV (some gg75, cc76) v9.length) l69, dead, rowG (FA q105) 33 (rowV q107 v106.length) v106, blk b49 [.int .i64 ((gi a0_q.l v26).act), .int .i64 ((gi a0_q.l v26).peer), .int .i64 ((gi a0_q.l v26).k)] 59, rowG (FA q105) 38 (rowV q62 v61.length) v61, drow 63 (rowV q98 x97.1.length) x97.1]) ?_ ?_
             ·rintro v106 ⟨q105, q107⟩ H
              try dsimp only [Ex.then] at H
              refine Cont.conseq (fr' := [(10, _), (1, _), (3, _), (5, _), (9, _), (11, _), (12, _), (14, _), (27, _)]) ?_ ⟨rfl, rfl, rfl, rfl, rfl, rfl, rfl, rfl, rfl, trivial⟩ (fun _ s => s)
              refine id (hK37 _ _ ?_)
              refine T.seq fun K39 hK39 => ?_
              try dsimp only [List.set, List.cons_append, List.nil_append]
              refine T.region ?_
              refine RS.p (Pu.move rfl) rfl rfl ?_
              refine RS.p (Pu.move rfl) rfl rfl ?_
              obtain ⟨g108, H⟩ := gdE H
              refine RS.know (fun w s => (s.row_fitsG (q := (some gg75, cc76)) (m := v9.length) (k := 2) rfl)) fun hf109 => ?_
              refine RS.p (Pu.indexSl sl54 rfl rfl g108) rfl rfl ?_
              refine RS.exP (fun w s => s.freeze 2 rfl) fun hh110 hz111 => ?_
              obtain ⟨c112, hc113, ha114⟩ := R2.el (α := Per) (fa_R2 hz111) (idx_of hf109.1 g108)
              obtain ⟨u115, u116, u117, u118, u119, rfl, hu115, hu116, hu117, hu118, hu119⟩ := hc113
              obtain ⟨p120, cc121, rfl⟩ := R_form hu115
              obtain ⟨p122, cc123, rfl⟩ := R_form hu116
              obtain ⟨p124, cc125, rfl⟩ := R_form hu117
              obtain ⟨p126, cc127, rfl⟩ := R_form hu118
              obtain ⟨p128, cc129, rfl⟩ := R_form hu119
              refine RS.q (Qt.ldZ (cs := [_, _, _, _, _, _, _, _, _, _, _]) ty26 rfl ha114 (Held.fz 2 rfl) rfl) rfl rfl ?_
              refine RS.p (Pu.move rfl) rfl rfl ?_
              obtain ⟨g130, H⟩ := gdE H
              refine RS.p (Pu.addS rfl rfl g130) rfl rfl ?_
              refine RS.p (Pu.convUH us3 ul36 rfl) rfl rfl ?_
              obtain ⟨x131, hx131, H⟩ := bindE H
              refine RS.solid (Sd.callN (vs := [.agg #[.int .i64 ((gi l69 v58).id), .int .i64 ((gi l69 v58).players), .int .i64 ((gi l69 v58).delay), .int .i64 ((gi l69 v58).turn), .int .i64 ((gi l69 v58).said), .slice p120 ((gi l69 v58).mine).length cc121, .slice p122 ((gi l69 v58).inputs).length cc123, .slice p124 ((gi l69 v58).has).length cc125, .slice p126 ((gi l69 v58).acked).length cc127, .slice p128 ((gi l69 v58).hashes).length cc129, .bool ((gi l69 v58).split)], .int .u64 ((UInt64.ofNat ((1000 + ((gi l69 v58).turn)) % 18446744073709551616).toNat).toNat : Int)]) ent11 rfl (fun w s => peer_Ran_walk (gi l69 v58) (UInt64.ofNat ((1000 + ((gi l69 v58).turn)) % 18446744073709551616).toNat) w ((Rd.ofFz 0 rfl hu115) w s) ((Rd.ofFz 0 rfl hu116) w s) ((Rd.ofFz 0 rfl hu117) w s) ((Rd.ofFz 0 rfl hu118) w s) ((Rd.ofFz 0 rfl hu119) w s) hx131)) rfl rfl fun ⟨q132, q133, q134, q135, u136⟩ => ?_
              refine RS.know (p := ∃ p c, u136 = .slice p x131.1.hashes.length c) (fun w s => Sat.osl_form (k := 12) s rfl) ?_
              rintro ⟨p137, cc138, rfl⟩
              refine RS.p (Pu.move rfl) rfl rfl ?_
              refine RS.p (Pu.extract rfl rfl) rfl rfl ?_
              refine RS.p (Pu.extract rfl rfl) rfl rfl ?_
              refine RS.solid (Sd.alloc zr26 rfl) rfl rfl fun b139 => ?_
              refine RS.solid (Sd.stB (cs' := [_, _, _, _, _, _, _, _, _, _, _]) 13 ty26 rfl rfl rfl rfl rfl rfl rfl rfl) rfl rfl fun _ => ?_
              refine RS.p (Pu.assign rfl) rfl rfl ?_
              refine RS.nil (hK39 _ _ (T.conseq (fr' := [(1, _), (3, _), (5, _), (9, _), (10, _), (11, _), (12, _), (14, _), (27, _), (28, _), (29, _)]) ?_ ⟨rfl, rfl, rfl, rfl, rfl, rfl, rfl, rfl, rfl, rfl, rfl, trivial⟩ (fun _ s => s)))
              refine T.seq fun K40 hK40 => ?_
              refine T.seq fun K41 hK41 => ?_
              try dsimp only [List.set, List.cons_append, List.nil_append]
              refine T.region ?_
              refine RS.p (Pu.move rfl) rfl rfl ?_
              obtain ⟨x140, hx140, H⟩ := bindE H
              refine RS.q (Qt.call (vs := [.int .i64 x131.2]) ent13 rfl fun w s => thronglaw28_num_walk x131.2 w  hx140) rfl rfl ?_
              refine RS.p (Pu.bin rfl rfl rfl) rfl rfl ?_
              refine RS.p (Pu.move rfl) rfl rfl ?_
              obtain ⟨g143, H⟩ := gdE H
              refine RS.joinV 6 251 (.bool (decide ((¬ x140 = 0) ∨ (¬ x131.1.turn = (((gi l69 v58).turn) + 1))))) [(1, _), (3, _), (5, _), (9, _), (10, _), (11, _), (12, _), (14, _), (28, _)] ⟨rfl, rfl, rfl, rfl, rfl, rfl, rfl, rfl, rfl, trivial⟩ ?_ ?_
              ·refine RS.nil (hK41 _ _ ?_)
               refine T.condP rfl (fun hc144 => ?_) (fun hc144 => ?_)
               ·have H := ifT hc144 H
                refine T.conseq (fr' := []) ?_ trivial (fun _ s => s)
                refine T.seq fun K42 hK42 => ?_
                refine T.region ?_
                refine RS.p (Pu.assign rfl) rfl rfl ?_
                refine RS.nil (hK42 _ _ ?_)
                obtain rfl := hd63 _ H
                have H := HX63
                obtain rfl := Option.some.inj H
                have H := HX37
                obtain rfl := hd11 _ H
                have H := HX11
                obtain rfl := Option.some.inj H
                try dsimp only [List.set, List.cons_append, List.nil_append]
                refine T.rt (Cont.ret1 rfl rfl fun w' s => ?_)
                exact ⟨rfl, s.ext⟩
               ·have H := ifF hc144 H
                refine T.skip (hK40 _ _ ?_)
                try dsimp only [List.set, List.cons_append, List.nil_append]
                refine T.region ?_
                refine RS.p (Pu.move rfl) rfl rfl ?_
                refine RS.p (Pu.move rfl) rfl rfl ?_
                refine RS.q (Qt.ldBA (us := [_, _, _, _, _, _, _, _, _, _, _]) 13 ty26 rfl rfl rfl rfl) rfl rfl ?_
                obtain ⟨g145, H⟩ := gdE H
                refine RS.know (fun w s => (rowG_fits hz111)) fun hf146 => ?_
                refine RS.p (Pu.indexSl sl54 rfl rfl g145) rfl rfl ?_
                refine RS.solid (Sd.absorb (F := fun hA147 => [fz hA147, blk b1 [.int .i64 a0_q.n, .int .i64 a0_q.delay, .slice (some ⟨bl47, ol48, none⟩) a0_q.l.length c0] 53, rowG (FA hA147) 26 (rowV (some gg75, cc76) v9.length) l69, dead, rowG (FA hA147) 33 (rowV q107 v106.length) v106, blk b49 [.int .i64 ((gi a0_q.l v26).act), .int .i64 ((gi a0_q.l v26).peer), .int .i64 ((gi a0_q.l v26).k)] 59, rowG (FA hA147) 38 (rowV q62 v61.length) v61, drow 63 (rowV q98 x97.1.length) x97.1, dead, dead, dead, dead, dead, blk b139 [.int .i64 x131.1.id, .int .i64 x131.1.players, .int .i64 x131.1.delay, .int .i64 x131.1.turn, .int .i64 x131.1.said, rowV q132 x131.1.mine.length, rowV q133 x131.1.inputs.length, rowV q134 x131.1.has.length, rowV q135 x131.1.acked.length, .slice p137 x131.1.hashes.length cc138, .bool x131.1.split] 26]) (fun w s => (Sat.starAt 8 9 (Sat.starAt 9 10 (Sat.starAt 10 11 (Sat.starAt 11 12 (Sat.thaw hz111 2 rfl s) rfl rfl (by decide)) rfl rfl (by decide)) rfl rfl (by decide)) rfl rfl (by decide))) 0 8 rfl rfl (by decide) (fun hA147 hle w s => (Sat.faUp 6 hle (Sat.faUp 4 hle (Sat.faUp 2 hle s rfl) rfl) rfl)) (fun hA147 ⟨st148le, _, ⟨_, _, st148a0, ⟨_, _, st148a1, ⟨_, _, st148a2, ⟨_, _, st148a3, st148a4, _, st148l3, st148m3⟩, _, st148l2, st148m2⟩, _, st148l1, st148m1⟩, _, st148l0, st148m0⟩, st148p⟩ => Sd.stFA0 (α := Per) 2 x131.1 rfl ty26 rfl rfl rfl (idx_of hf146.1 g145) rfl rfl rfl rfl ⟨_, _, _, _, _, rfl, (Enc.mono st148p (Enc.mono st148l0 (drow_R st148a0))), (Enc.mono st148p (Enc.mono st148m0 (Enc.mono st148l1 (drow_R st148a1)))), (Enc.mono st148p (Enc.mono st148m0 (Enc.mono st148m1 (Enc.mono st148l2 (row_R st148a2))))), (Enc.mono st148p (Enc.mono st148m0 (Enc.mono st148m1 (Enc.mono st148m2 (Enc.mono st148l3 (row_R st148a3)))))), (Enc.mono st148p (Enc.mono st148m0 (Enc.mono st148m1 (Enc.mono st148m2 (Enc.mono st148m3 (osl_R st148a4))))))⟩)) rfl rfl fun ⟨hA147, _⟩ => ?_
                try dsimp only
                refine RS.nil (hL63 _ _ ((si l69 v58 x131.1), v106) (hA147, q107) H ⟨rfl, rfl, rfl, rfl, rfl, rfl, rfl, trivial⟩ ⟨rfl, trivial⟩ (fun w s => s.pick [0, 1, 2, 3, 4, 5, 6] (by decide) rfl))
              ·intro hJ142
               refine RS.splitP 245 rfl (fun hc141 => ?_) (fun hc141 => ?_)
               ·refine RS.no rfl rfl ?_
                refine RS.no rfl rfl ?_
                refine RS.no rfl rfl ?_
                refine RS.no rfl rfl ?_
                refine RS.no rfl rfl ?_
                refine RS.p (Pu.pickT rfl rfl) rfl rfl ?_
                exact hJ142 _ _ ⟨dOrT hc141, rfl, rfl, rfl, rfl, rfl, rfl, rfl, rfl, rfl, trivial⟩ (fun w s => s)
               ·refine RS.p (Pu.fieldAddr fd26_3 rfl) rfl rfl ?_
                refine RS.q (Qt.ldB 13 ty3 rfl rfl rfl) rfl rfl ?_
                refine RS.p (Pu.move rfl) rfl rfl ?_
                refine RS.p (Pu.addS rfl rfl (g143 hc141)) rfl rfl ?_
                refine RS.p (Pu.bin rfl rfl rfl) rfl rfl ?_
                refine RS.p (Pu.pickF rfl rfl) rfl rfl ?_
                exact hJ142 _ _ ⟨dOrF hc141, rfl, rfl, rfl, rfl, rfl, rfl, rfl, rfl, rfl, trivial⟩ (fun w s => s)
             ·intro z104 H HX104 hJ104
              refine T.condP rfl (fun hc149 => ?_) (fun hc149 => ?_)
              ·have H := ifT hc149 H
               refine T.conseq (fr' := [(1, _), (3, _), (5, _), (9, _), (10, _), (11, _), (12, _), (14, _), (24, _), (27, _)]) ?_ ⟨rfl, rfl, rfl, rfl, rfl, rfl, rfl, rfl, rfl, rfl, trivial⟩ (fun _ s => s)
               refine T.seq fun K43 hK43 => ?_
               try dsimp only [List.set, List.cons_append, List.nil_append]
               refine T.region ?_
               refine RS.p (Pu.move rfl) rfl rfl ?_
               refine RS.p (Pu.move rfl) rfl rfl ?_
               obtain ⟨g150, H⟩ := gdE H
               refine RS.know (p := ∃ g cap, q71 = (some g, cap)) (fun w s => (s.row_someG (k := 4) rfl (pos_of g150))) ?_
               rintro ⟨gg151, cc152, rfl⟩
               refine RS.p (Pu.indexSl sl57 rfl rfl g150) rfl rfl ?_
               refine RS.exP (fun w s => s.freeze 4 rfl) fun hh153 hz154 => ?_
               obtain ⟨c155, hc156, ha157⟩ := R2.el (α := (List Cmd)) (fa_R2 hz154) g150
               obtain ⟨u158, rfl, hu158⟩ := R_one hc156
               obtain ⟨p159, cc160, rfl⟩ := R_form hu158
               refine RS.q (Qt.ldZ0 ty33 rfl ha157 (Held.fz 4 rfl) rfl) rfl rfl ?_
               refine RS.p (Pu.move rfl) rfl rfl ?_
               obtain ⟨x161, hx161, H⟩ := bindE H
               refine RS.q (Qt.call (vs := [.slice p159 (gi l70 ((gi l69 v58).turn)).length cc160, rowV q98 x97.1.length]) ent19 rfl fun w s => throngref0_EqCommands_walk (gi l70 ((gi l69 v58).turn)) x97.1 w ((Rd.ofFz 0 rfl hu158) w s) ((Rd.ofG 7 rfl) w s) hx161) rfl rfl ?_
               refine RS.p (Pu.not rfl) rfl rfl ?_
               refine RS.nil (hK43 _ _ ?_)
               refine T.cond rfl (fun hc162 => ?_) (fun hc162 => ?_)
               ·have H := ifT hc162 H
                refine T.conseq (fr' := []) ?_ trivial (fun _ s => s)
                refine T.seq fun K44 hK44 => ?_
                refine T.region ?_
                refine RS.p (Pu.assign rfl) rfl rfl ?_
                refine RS.nil (hK44 _ _ ?_)
                obtain rfl := Option.some.inj H
                have H := HX104
                obtain rfl := hd63 _ H
                have H := HX63
                obtain rfl := Option.some.inj H
                have H := HX37
                obtain rfl := hd11 _ H
                have H := HX11
                obtain rfl := Option.some.inj H
                try dsimp only [List.set, List.cons_append, List.nil_append]
                refine T.rt (Cont.ret1 rfl rfl fun w' s => ?_)
                exact ⟨rfl, s.ext⟩
               ·have H := ifB hc162 H
                obtain rfl := Option.some.inj H
                refine T.skip (hJ104 _ _ l70 (q68, (some gg151, cc152)) HX104 ⟨rfl, rfl, rfl, rfl, rfl, rfl, rfl, rfl, trivial⟩ ⟨rfl, trivial⟩ (fun w s => (Sat.thaw hz154 4 rfl (Sat.thaw hz78 2 rfl s)).pick [0, 1, 2, 3, 4, 5, 6, 7] (by decide) rfl))
              ·have H := ifF hc149 H
               refine T.conseq (fr' := [(1, _), (3, _), (5, _), (9, _), (10, _), (11, _), (12, _), (14, _), (24, _), (27, _)]) ?_ ⟨rfl, rfl, rfl, rfl, rfl, rfl, rfl, rfl, rfl, rfl, trivial⟩ (fun _ s => s)
               try dsimp only [List.set, List.cons_append, List.nil_append]
               refine T.region ?_
               refine RS.p (Pu.move rfl) rfl rfl ?_
               refine RS.p (Pu.move rfl) rfl rfl ?_
               obtain ⟨x163, hx163, H⟩ := bindE H
               refine RS.solid (Sd.callN (vs := [rowV q98 x97.1.length]) ent20 rfl (fun w s => throngref0_CopyCommands_walk x97.1 w ((Rd.ofG 7 rfl) w s) hx163)) rfl rfl fun q164 => ?_
               refine RS.solid (Sd.litS (cs := [_]) sl57 zr33 rfl rfl rfl rfl rfl) rfl rfl fun b165 => ?_
               obtain ⟨g167, H⟩ := gdE H
               refine RS.solid (Sd.absorb (F := fun hA168 => [fz hA168, blk b1 [.int .i64 a0_q.n, .int .i64 a0_q.delay, .slice (some ⟨bl47, ol48, none⟩) a0_q.l.length c0] 53, rowG (FA hA168) 26 (rowV (some gg75, cc76) v9.length) l69, dead, rowG (FA hA168) 33 (rowV q71 l70.length) l70, blk b49 [.int .i64 ((gi a0_q.l v26).act), .int .i64 ((gi a0_q.l v26).peer), .int .i64 ((gi a0_q.l v26).k)] 59, rowG (FA hA168) 38 (rowV q62 v61.length) v61, drow 63 (rowV q98 x97.1.length) x97.1, dead, blk b165 [rowV q164 x163.length] 33]) (fun w s => (Sat.thaw hz78 2 rfl s)) 0 8 rfl rfl (by decide) (fun hA168 hle w s => (Sat.faUp 6 hle (Sat.faUp 4 hle (Sat.faUp 2 hle s rfl) rfl) rfl)) (fun hA168 ⟨st169le, _, st169a0, st169p⟩ => Sd.appAB (α := (List Cmd)) 4 9 ([x163] : List (List Cmd)) rfl rfl ⟨[_], _, rfl, (Enc.mono st169p (drow_R st169a0)), rfl⟩ sl57 zr33 rfl rfl rfl rfl (Nat.lt_of_lt_of_le g167 (by decide)) (Nat.le_trans (Nat.mul_le_mul_right _ (Nat.le_of_lt g167)) (by decide)))) rfl rfl fun ⟨hA168, q166⟩ => ?_
               try dsimp only
               refine RS.p (Pu.assign rfl) rfl rfl ?_
               obtain rfl := Option.some.inj H
               refine RS.nil (hJ104 _ _ (l70 ++ ([x163] : List (List Cmd))) (hA168, q166) HX104 ⟨rfl, rfl, rfl, rfl, rfl, rfl, rfl, rfl, trivial⟩ ⟨rfl, trivial⟩ (fun w s => s.pick [0, 1, 2, 3, 4, 5, 6, 7] (by decide) rfl))
         ·intro z56 H HX56 hJ56
          refine T.condP rfl (fun hc170 => ?_) (fun hc170 => ?_)
          ·have H := ifT hc170 H
           refine T.conseq (fr' := [(1, _), (3, _), (5, _), (9, _), (10, _), (11, _), (12, _), (14, _)]) ?_ ⟨rfl, rfl, rfl, rfl, rfl, rfl, rfl, rfl, trivial⟩ (fun _ s => s)
           refine T.seq fun K45 hK45 => ?_
           refine T.region ?_
           refine RS.p (Pu.move rfl) rfl rfl ?_
           obtain ⟨g171, H⟩ := gdE H
           refine RS.p (Pu.addS rfl rfl g171) rfl rfl ?_
           refine RS.p (Pu.assign rfl) rfl rfl ?_
           refine RS.nil (hK45 _ _ ?_)
           refine T.seq fun K46 hK46 => ?_
           refine T.region ?_
           refine RS.p (Pu.move rfl) rfl rfl ?_
           refine RS.p (Pu.move rfl) rfl rfl ?_
           obtain ⟨g172, H⟩ := gdE H
           refine RS.know (fun w s => (s.row_fitsG (q := q10) (m := v9.length) (k := 2) rfl)) fun hf173 => ?_
           refine RS.know (p := ∃ g cap, q10 = (some g, cap)) (fun w s => (s.row_someG (k := 2) rfl (pos_of (idx_of hf173.1 g172)))) ?_
           rintro ⟨gg174, cc175, rfl⟩
           refine RS.p (Pu.indexSl sl54 rfl rfl g172) rfl rfl ?_
           refine RS.exP (fun w s => s.freeze 2 rfl) fun hh176 hz177 => ?_
           obtain ⟨c178, hc179, ha180⟩ := R2.el (α := Per) (fa_R2 hz177) (idx_of hf173.1 g172)
           obtain ⟨u181, u182, u183, u184, u185, rfl, hu181, hu182, hu183, hu184, hu185⟩ := hc179
           obtain ⟨p186, cc187, rfl⟩ := R_form hu181
           obtain ⟨p188, cc189, rfl⟩ := R_form hu182
           obtain ⟨p190, cc191, rfl⟩ := R_form hu183
           obtain ⟨p192, cc193, rfl⟩ := R_form hu184
           obtain ⟨p194, cc195, rfl⟩ := R_form hu185
           refine RS.q (Qt.ldZ (cs := [_, _, _, _, _, _, _, _, _, _, _]) ty26 rfl ha180 (Held.fz 2 rfl) rfl) rfl rfl ?_
           refine RS.p (Pu.move rfl) rfl rfl ?_
           obtain ⟨g196, H⟩ := gdE H
           refine RS.p (Pu.addS rfl rfl g196) rfl rfl ?_
           refine RS.p (Pu.move rfl) rfl rfl ?_
           refine RS.p (Pu.build (cells := [_, _, _, _, _, _, _, _, _, _]) st63 rfl rfl) rfl rfl ?_
           refine RS.solid (Sd.litS (cs := [_, _, _, _, _, _, _, _, _, _]) sl33 zr63 rfl rfl rfl rfl rfl) rfl rfl fun b197 => ?_
           refine RS.weakS (S' := Sat w [fz q27, blk b1 [.int .i64 a0_q.n, .int .i64 a0_q.delay, .slice (some ⟨bl47, ol48, none⟩) a0_q.l.length c0] 53, fz hh176, rowG (FA q27) 38 (rowV q30 l29.length) l29, rowG (FA q27) 33 (rowV q32 l31.length) l31, blk b49 [.int .i64 ((gi a0_q.l v26).act), .int .i64 ((gi a0_q.l v26).peer), .int .i64 ((gi a0_q.l v26).k)] 59, drow 63 (rowV (some b197, 1) 1) ([(⟨(x50 + 1), (v25 + 1), 5, 1, [], 0, 0, 0, (⟨0, 0⟩ : Vec)⟩ : Cmd)] : List Cmd), dead, dead, dead]) (fun w s => (Sat.litRowG (α := Cmd) (m := 1) 6 9 ([(⟨(x50 + 1), (v25 + 1), 5, 1, [], 0, 0, 0, (⟨0, 0⟩ : Vec)⟩ : Cmd)] : List Cmd) (Sat.starAt 9 7 (Sat.starAt 9 8 (((s.noStars).noStars).nilRow (α := Int) 3) rfl rfl (by decide)) rfl rfl (by decide)) rfl rfl (by decide) (by decide) rfl (DRF.cons' (α := Cmd) (x := (⟨(x50 + 1), (v25 + 1), 5, 1, [], 0, 0, 0, (⟨0, 0⟩ : Vec)⟩ : Cmd)) (fun _ h => ⟨_, rfl, h⟩) DRF.nil'))) ?_
           obtain ⟨x198, hx198, H⟩ := bindE H
           refine RS.solid (Sd.callN (vs := [.agg #[.int .i64 ((gi l28 x50).id), .int .i64 ((gi l28 x50).players), .int .i64 ((gi l28 x50).delay), .int .i64 ((gi l28 x50).turn), .int .i64 ((gi l28 x50).said), .slice p186 ((gi l28 x50).mine).length cc187, .slice p188 ((gi l28 x50).inputs).length cc189, .slice p190 ((gi l28 x50).has).length cc191, .slice p192 ((gi l28 x50).acked).length cc193, .slice p194 ((gi l28 x50).hashes).length cc195, .bool ((gi l28 x50).split)], rowV (some b197, 1) 1]) ent12 rfl (fun w s => peer_Say_walk (gi l28 x50) ([(⟨(x50 + 1), (v25 + 1), 5, 1, [], 0, 0, 0, (⟨0, 0⟩ : Vec)⟩ : Cmd)] : List Cmd) w ((Rd.ofFz 0 rfl hu181) w s) ((Rd.ofFz 0 rfl hu182) w s) ((Rd.ofFz 0 rfl hu183) w s) ((Rd.ofFz 0 rfl hu184) w s) ((Rd.ofFz 0 rfl hu185) w s) ((Rd.ofG 6 rfl) w s) hx198)) rfl rfl fun ⟨q199, q200, q201, q202, q203⟩ => ?_
           refine RS.p (Pu.move rfl) rfl rfl ?_
           refine RS.p (Pu.extract rfl rfl) rfl rfl ?_
           refine RS.p (Pu.extract rfl rfl) rfl rfl ?_
           refine RS.solid (Sd.alloc zr26 rfl) rfl rfl fun b204 => ?_
           refine RS.solid (Sd.stB (cs' := [_, _, _, _, _, _, _, _, _, _, _]) 15 ty26 rfl rfl rfl rfl rfl rfl rfl rfl) rfl rfl fun _ => ?_
           refine RS.p (Pu.assign rfl) rfl rfl ?_
           refine RS.nil (hK46 _ _ (T.conseq (fr' := [(1, _), (3, _), (5, _), (9, _), (10, _), (11, _), (12, _), (14, _), (16, _), (17, _)]) ?_ ⟨rfl, rfl, rfl, rfl, rfl, rfl, rfl, rfl, rfl, rfl, trivial⟩ (fun _ s => s)))
           refine T.seq fun K47 hK47 => ?_
           refine T.seq fun K48 hK48 => ?_
           try dsimp only [List.set, List.cons_append, List.nil_append]
           refine T.region ?_
           refine RS.p (Pu.move rfl) rfl rfl ?_
           obtain ⟨x205, hx205, H⟩ := bindE H
           refine RS.q (Qt.call (vs := [.int .i64 x198.2]) ent13 rfl fun w s => thronglaw28_num_walk x198.2 w  hx205) rfl rfl ?_
           refine RS.p (Pu.bin rfl rfl rfl) rfl rfl ?_
           refine RS.nil (hK48 _ _ ?_)
           refine T.joinE (σ := List Per) (γ := Hp) H Ex.go [(1, _), (3, _), (5, _), (9, _), (10, _), (11, _), (12, _), (14, _)] ⟨rfl, rfl, rfl, rfl, rfl, rfl, rfl, rfl, trivial⟩ (fun v208 q207 => []) (fun v208 q207 => Sat w [fz q207, blk b1 [.int .i64 a0_q.n, .int .i64 a0_q.delay, .slice (some ⟨bl47, ol48, none⟩) a0_q.l.length c0] 53, rowG (FA q207) 26 (rowV (some gg174, cc175) v9.length) v208, rowG (FA q207) 38 (rowV q30 l29.length) l29, rowG (FA q207) 33 (rowV q32 l31.length) l31, blk b49 [.int .i64 ((gi a0_q.l v26).act), .int .i64 ((gi a0_q.l v26).peer), .int .i64 ((gi a0_q.l v26).k)] 59, drow 63 (rowV (some b197, 1) 1) ([(⟨(x50 + 1), (v25 + 1), 5, 1, [], 0, 0, 0, (⟨0, 0⟩ : Vec)⟩ : Cmd)] : List Cmd), dead, dead, dead, dead, dead, dead, dead, dead, dead]) ?_ ?_
           ·rintro v208 q207 H
            try dsimp only [Ex.then] at H
            refine Cont.conseq (fr' := [(1, _), (3, _), (5, _), (9, _), (10, _), (11, _), (12, _), (14, _)]) ?_ ⟨rfl, rfl, rfl, rfl, rfl, rfl, rfl, rfl, trivial⟩ (fun _ s => s)
            refine id (hK47 _ _ ?_)
            refine T.seq fun K49 hK49 => ?_
            try dsimp only [List.set, List.cons_append, List.nil_append]
            refine T.region ?_
            refine RS.p (Pu.move rfl) rfl rfl ?_
            refine RS.p (Pu.move rfl) rfl rfl ?_
            obtain ⟨g209, H⟩ := gdE H
            refine RS.know (fun w s => (s.row_fitsG (q := (some gg174, cc175)) (m := v9.length) (k := 2) rfl)) fun hf210 => ?_
            refine RS.p (Pu.indexSl sl54 rfl rfl g209) rfl rfl ?_
            refine RS.exP (fun w s => s.freeze 2 rfl) fun hh211 hz212 => ?_
            obtain ⟨c213, hc214, ha215⟩ := R2.el (α := Per) (fa_R2 hz212) (idx_of hf210.1 g209)
            obtain ⟨u216, u217, u218, u219, u220, rfl, hu216, hu217, hu218, hu219, hu220⟩ := hc214
            obtain ⟨p221, cc222, rfl⟩ := R_form hu216
            obtain ⟨p223, cc224, rfl⟩ := R_form hu217
            obtain ⟨p225, cc226, rfl⟩ := R_form hu218
            obtain ⟨p227, cc228, rfl⟩ := R_form hu219
            obtain ⟨p229, cc230, rfl⟩ := R_form hu220
            refine RS.q (Qt.ldZ (cs := [_, _, _, _, _, _, _, _, _, _, _]) ty26 rfl ha215 (Held.fz 2 rfl) rfl) rfl rfl ?_
            obtain ⟨x231, hx231, H⟩ := bindE H
            refine RS.solid (Sd.callN (vs := [.agg #[.int .i64 ((gi v208 x50).id), .int .i64 ((gi v208 x50).players), .int .i64 ((gi v208 x50).delay), .int .i64 ((gi v208 x50).turn), .int .i64 ((gi v208 x50).said), .slice p221 ((gi v208 x50).mine).length cc222, .slice p223 ((gi v208 x50).inputs).length cc224, .slice p225 ((gi v208 x50).has).length cc226, .slice p227 ((gi v208 x50).acked).length cc228, .slice p229 ((gi v208 x50).hashes).length cc230, .bool ((gi v208 x50).split)]]) ent17 rfl (fun w s => peer_Notes_walk (gi v208 x50) w ((Rd.ofFz 0 rfl hu216) w s) ((Rd.ofFz 0 rfl hu217) w s) ((Rd.ofFz 0 rfl hu218) w s) ((Rd.ofFz 0 rfl hu219) w s) ((Rd.ofFz 0 rfl hu220) w s) hx231)) rfl rfl fun q232 => ?_
            refine RS.p (Pu.move rfl) rfl rfl ?_
            refine RS.p (Pu.extract rfl rfl) rfl rfl ?_
            refine RS.p (Pu.extract rfl rfl) rfl rfl ?_
            refine RS.p (Pu.assign rfl) rfl rfl ?_
            refine RS.p (Pu.assign rfl) rfl rfl ?_
            refine RS.nil (hK49 _ _ (T.conseq (fr' := [(1, _), (3, _), (5, _), (9, _), (10, _), (11, _), (12, _), (14, _), (18, _), (19, _)]) ?_ ⟨rfl, rfl, rfl, rfl, rfl, rfl, rfl, rfl, rfl, rfl, trivial⟩ (fun _ s => s)))
            refine T.seq fun K50 hK50 => ?_
            refine T.seq fun K51 hK51 => ?_
            try dsimp only [List.set, List.cons_append, List.nil_append]
            refine T.region ?_
            refine RS.p (Pu.move rfl) rfl rfl ?_
            obtain ⟨x233, hx233, H⟩ := bindE H
            refine RS.q (Qt.call (vs := [.int .i64 x231.2]) ent13 rfl fun w s => thronglaw28_num_walk x231.2 w  hx233) rfl rfl ?_
            refine RS.p (Pu.bin rfl rfl rfl) rfl rfl ?_
            refine RS.p (Pu.move rfl) rfl rfl ?_
            obtain ⟨g236, H⟩ := gdE H
            refine RS.joinV 6 139 (.bool (decide ((¬ x233 = 0) ∨ (¬ (x231.1.length : Int) = ((1 + x2) - 1))))) [(1, _), (3, _), (5, _), (9, _), (10, _), (11, _), (12, _), (14, _), (18, _)] ⟨rfl, rfl, rfl, rfl, rfl, rfl, rfl, rfl, rfl, trivial⟩ ?_ ?_
            ·refine RS.nil (hK51 _ _ ?_)
             refine T.condP rfl (fun hc237 => ?_) (fun hc237 => ?_)
             ·have H := ifT hc237 H
              refine T.conseq (fr' := []) ?_ trivial (fun _ s => s)
              refine T.seq fun K52 hK52 => ?_
              refine T.region ?_
              refine RS.p (Pu.assign rfl) rfl rfl ?_
              refine RS.nil (hK52 _ _ ?_)
              obtain rfl := Option.some.inj H
              have H := HX56
              obtain rfl := Option.some.inj H
              have H := HX37
              obtain rfl := hd11 _ H
              have H := HX11
              obtain rfl := Option.some.inj H
              try dsimp only [List.set, List.cons_append, List.nil_append]
              refine T.rt (Cont.ret1 rfl rfl fun w' s => ?_)
              exact ⟨rfl, s.ext⟩
             ·have H := ifF hc237 H
              refine T.skip (hK50 _ _ ?_)
              try dsimp only [List.set, List.cons_append, List.nil_append]
              refine T.region ?_
              refine RS.p (Pu.move rfl) rfl rfl ?_
              refine RS.p (Pu.move rfl) rfl rfl ?_
              obtain ⟨g239, H⟩ := gdE H
              refine RS.solid (Sd.absorb (F := fun hA240 => [fz hA240, blk b1 [.int .i64 a0_q.n, .int .i64 a0_q.delay, .slice (some ⟨bl47, ol48, none⟩) a0_q.l.length c0] 53, rowG (FA hA240) 26 (rowV (some gg174, cc175) v9.length) v208, rowG (FA hA240) 38 (rowV q30 l29.length) l29, rowG (FA hA240) 33 (rowV q32 l31.length) l31, blk b49 [.int .i64 ((gi a0_q.l v26).act), .int .i64 ((gi a0_q.l v26).peer), .int .i64 ((gi a0_q.l v26).k)] 59, drow 63 (rowV (some b197, 1) 1) ([(⟨(x50 + 1), (v25 + 1), 5, 1, [], 0, 0, 0, (⟨0, 0⟩ : Vec)⟩ : Cmd)] : List Cmd), dead, dead, dead, dead, dead, dead, dead, dead, dead, dead]) (fun w s => (Sat.thaw hz212 2 rfl s)) 0 16 rfl rfl (by decide) (fun hA240 hle w s => (Sat.faUp 4 hle (Sat.faUp 3 hle (Sat.faUp 2 hle s rfl) rfl) rfl)) (fun hA240 ⟨st241le, _, st241a0, st241p⟩ => Sd.appFA (α := Nte) 3 x231.1 rfl (Rd2.arena (Held.fz 0 rfl) (Enc.mono st241p (drow_R st241a0))) sl56 zr38 rfl rfl rfl (Nat.lt_of_lt_of_le g239 (by decide)) (Nat.le_trans (Nat.mul_le_mul_right _ (Nat.le_of_lt g239)) (by decide)))) rfl rfl fun ⟨hA240, q238⟩ => ?_
              try dsimp only
              refine RS.p (Pu.assign rfl) rfl rfl ?_
              obtain rfl := Option.some.inj H
              refine RS.nil (hJ56 _ _ ((v25 + 1), x50, v208, (l29 ++ x231.1)) (hA240, q238) HX56 ⟨rfl, rfl, rfl, rfl, rfl, trivial⟩ ⟨rfl, rfl, rfl, trivial⟩ (fun w s => (s.deadRow).pick [0, 1, 2, 17, 4, 5, 3] (by decide) rfl))
            ·intro hJ235
             refine RS.splitP 133 rfl (fun hc234 => ?_) (fun hc234 => ?_)
             ·refine RS.no rfl rfl ?_
              refine RS.no rfl rfl ?_
              refine RS.no rfl rfl ?_
              refine RS.no rfl rfl ?_
              refine RS.no rfl rfl ?_
              refine RS.p (Pu.pickT rfl rfl) rfl rfl ?_
              exact hJ235 _ _ ⟨dOrT hc234, rfl, rfl, rfl, rfl, rfl, rfl, rfl, rfl, rfl, trivial⟩ (fun w s => s)
             ·refine RS.p (Pu.move rfl) rfl rfl ?_
              refine RS.p (Pu.lenSl sl56 rfl) rfl rfl ?_
              refine RS.p (Pu.move rfl) rfl rfl ?_
              refine RS.p (Pu.subS rfl rfl (g236 hc234)) rfl rfl ?_
              refine RS.p (Pu.bin rfl rfl rfl) rfl rfl ?_
              refine RS.p (Pu.pickF rfl rfl) rfl rfl ?_
              exact hJ235 _ _ ⟨dOrF hc234, rfl, rfl, rfl, rfl, rfl, rfl, rfl, rfl, rfl, trivial⟩ (fun w s => s)
           ·intro z206 H HX206 hJ206
            refine T.condP rfl (fun hc242 => ?_) (fun hc242 => ?_)
            ·have H := ifT hc242 H
             refine T.conseq (fr' := [(1, _), (3, _), (5, _), (9, _), (10, _), (11, _), (12, _), (14, _), (16, _)]) ?_ ⟨rfl, rfl, rfl, rfl, rfl, rfl, rfl, rfl, rfl, trivial⟩ (fun _ s => s)
             try dsimp only [List.set, List.cons_append, List.nil_append]
             refine T.region ?_
             refine RS.p (Pu.move rfl) rfl rfl ?_
             refine RS.p (Pu.move rfl) rfl rfl ?_
             refine RS.q (Qt.ldBA (us := [_, _, _, _, _, _, _, _, _, _, _]) 15 ty26 rfl rfl rfl rfl) rfl rfl ?_
             obtain ⟨g243, H⟩ := gdE H
             refine RS.know (fun w s => (rowG_fits hz177)) fun hf244 => ?_
             refine RS.p (Pu.indexSl sl54 rfl rfl g243) rfl rfl ?_
             refine RS.solid (Sd.absorb (F := fun hA245 => [fz hA245, blk b1 [.int .i64 a0_q.n, .int .i64 a0_q.delay, .slice (some ⟨bl47, ol48, none⟩) a0_q.l.length c0] 53, rowG (FA hA245) 26 (rowV (some gg174, cc175) v9.length) l28, rowG (FA hA245) 38 (rowV q30 l29.length) l29, rowG (FA hA245) 33 (rowV q32 l31.length) l31, blk b49 [.int .i64 ((gi a0_q.l v26).act), .int .i64 ((gi a0_q.l v26).peer), .int .i64 ((gi a0_q.l v26).k)] 59, drow 63 (rowV (some b197, 1) 1) ([(⟨(x50 + 1), (v25 + 1), 5, 1, [], 0, 0, 0, (⟨0, 0⟩ : Vec)⟩ : Cmd)] : List Cmd), dead, dead, dead, dead, dead, dead, dead, dead, blk b204 [.int .i64 x198.1.id, .int .i64 x198.1.players, .int .i64 x198.1.delay, .int .i64 x198.1.turn, .int .i64 x198.1.said, rowV q199 x198.1.mine.length, rowV q200 x198.1.inputs.length, rowV q201 x198.1.has.length, rowV q202 x198.1.acked.length, rowV q203 x198.1.hashes.length, .bool x198.1.split] 26]) (fun w s => (Sat.starAt 10 11 (Sat.starAt 11 12 (Sat.starAt 12 13 (Sat.starAt 13 14 (Sat.thaw hz177 2 rfl s) rfl rfl (by decide)) rfl rfl (by decide)) rfl rfl (by decide)) rfl rfl (by decide))) 0 10 rfl rfl (by decide) (fun hA245 hle w s => (Sat.faUp 4 hle (Sat.faUp 3 hle (Sat.faUp 2 hle s rfl) rfl) rfl)) (fun hA245 ⟨st246le, _, ⟨_, _, st246a0, ⟨_, _, st246a1, ⟨_, _, st246a2, ⟨_, _, st246a3, st246a4, _, st246l3, st246m3⟩, _, st246l2, st246m2⟩, _, st246l1, st246m1⟩, _, st246l0, st246m0⟩, st246p⟩ => Sd.stFA0 (α := Per) 2 x198.1 rfl ty26 rfl rfl rfl (idx_of hf244.1 g243) rfl rfl rfl rfl ⟨_, _, _, _, _, rfl, (Enc.mono st246p (Enc.mono st246l0 (drow_R st246a0))), (Enc.mono st246p (Enc.mono st246m0 (Enc.mono st246l1 (drow_R st246a1)))), (Enc.mono st246p (Enc.mono st246m0 (Enc.mono st246m1 (Enc.mono st246l2 (row_R st246a2))))), (Enc.mono st246p (Enc.mono st246m0 (Enc.mono st246m1 (Enc.mono st246m2 (Enc.mono st246l3 (row_R st246a3)))))), (Enc.mono st246p (Enc.mono st246m0 (Enc.mono st246m1 (Enc.mono st246m2 (Enc.mono st246m3 (row_R st246a4))))))⟩)) rfl rfl fun ⟨hA245, _⟩ => ?_
             try dsimp only
             obtain rfl := Option.some.inj H
             refine RS.nil (hJ206 _ _ (si l28 x50 x198.1) hA245 HX206 ⟨rfl, rfl, rfl, rfl, rfl, rfl, rfl, rfl, trivial⟩ trivial (fun w s => ((((((s.deadRow).deadRow).deadRow).deadRow).deadRow).deadRow).pick [0, 1, 2, 3, 4, 5, 6, 7, 8, 9, 16, 17, 18, 19, 20, 21] (by decide) rfl))
            ·have H := ifF hc242 H
             refine T.conseq (fr' := [(1, _), (3, _), (5, _), (9, _), (10, _), (11, _), (12, _), (14, _), (17, _)]) ?_ ⟨rfl, rfl, rfl, rfl, rfl, rfl, rfl, rfl, rfl, trivial⟩ (fun _ s => s)
             refine T.seq fun K53 hK53 => ?_
             try dsimp only [List.set, List.cons_append, List.nil_append]
             refine T.region ?_
             refine RS.p (Pu.move rfl) rfl rfl ?_
             obtain ⟨x247, hx247, H⟩ := bindE H
             refine RS.q (Qt.call (vs := [.int .i64 x198.2]) ent13 rfl fun w s => thronglaw28_num_walk x198.2 w  hx247) rfl rfl ?_
             refine RS.p (Pu.bin rfl rfl rfl) rfl rfl ?_
             refine RS.nil (hK53 _ _ ?_)
             refine T.condP rfl (fun hc248 => ?_) (fun hc248 => ?_)
             ·have H := ifT hc248 H
              refine T.conseq (fr' := []) ?_ trivial (fun _ s => s)
              refine T.seq fun K54 hK54 => ?_
              refine T.region ?_
              refine RS.p (Pu.assign rfl) rfl rfl ?_
              refine RS.nil (hK54 _ _ ?_)
              obtain rfl := Option.some.inj H
              have H := HX206
              obtain rfl := Option.some.inj H
              have H := HX56
              obtain rfl := Option.some.inj H
              have H := HX37
              obtain rfl := hd11 _ H
              have H := HX11
              obtain rfl := Option.some.inj H
              try dsimp only [List.set, List.cons_append, List.nil_append]
              refine T.rt (Cont.ret1 rfl rfl fun w' s => ?_)
              exact ⟨rfl, s.ext⟩
             ·have H := ifF hc248 H
              obtain rfl := Option.some.inj H
              refine T.skip (hJ206 _ _ l28 q27 HX206 ⟨rfl, rfl, rfl, rfl, rfl, rfl, rfl, rfl, trivial⟩ trivial (fun w s => (((((((Sat.thaw hz177 2 rfl s).deadRow).deadRow).deadRow).deadRow).deadRow).deadRow).pick [0, 1, 2, 3, 4, 5, 6, 7, 8, 9, 16, 17, 18, 19, 20, 21] (by decide) rfl))
          ·have H := ifF hc170 H
           refine T.seq fun K55 hK55 => ?_
           refine T.region ?_
           refine RS.p (Pu.fieldAddr fd59_2 rfl) rfl rfl ?_
           refine RS.q (Qt.ldB 5 ty3 rfl rfl rfl) rfl rfl ?_
           refine RS.p (Pu.move rfl) rfl rfl ?_
           refine RS.p (Pu.lenSl sl56 rfl) rfl rfl ?_
           obtain ⟨x249, hx249, H⟩ := bindE H
           refine RS.q (Qt.call (vs := [.int .i64 ((gi a0_q.l v26).k), .int .i64 (l29.length : Int)]) ent8 rfl fun w s => thronglaw0_Within_walk ((gi a0_q.l v26).k) (l29.length : Int) w  hx249) rfl rfl ?_
           refine RS.p (Pu.assign rfl) rfl rfl ?_
           refine RS.nil (hK55 _ _ (T.conseq (fr' := [(1, _), (3, _), (5, _), (9, _), (10, _), (11, _), (12, _), (15, _), (20, _)]) ?_ ⟨rfl, rfl, rfl, rfl, rfl, rfl, rfl, rfl, rfl, trivial⟩ (fun _ s => s)))
           refine T.seq fun K56 hK56 => ?_
           refine T.region ?_
           refine RS.p (Pu.move rfl) rfl rfl ?_
           refine RS.p (Pu.move rfl) rfl rfl ?_
           obtain ⟨g250, H⟩ := gdE H
           refine RS.know (p := ∃ g cap, q30 = (some g, cap)) (fun w s => (s.row_someG (k := 3) rfl (pos_of g250))) ?_
           rintro ⟨gg251, cc252, rfl⟩
           refine RS.p (Pu.indexSl sl56 rfl rfl g250) rfl rfl ?_
           refine RS.exP (fun w s => s.freeze 3 rfl) fun hh253 hz254 => ?_
           obtain ⟨c255, hc256, ha257⟩ := R2.el (α := Nte) (fa_R2 hz254) g250
           obtain ⟨u258, rfl, hu258⟩ := hc256
           obtain ⟨p259, cc260, rfl⟩ := R_form hu258
           refine RS.q (Qt.ldZ (cs := [_, _, _, _, _, _, _, _]) ty38 rfl ha257 (Held.fz 3 rfl) rfl) rfl rfl ?_
           refine RS.solid (Sd.alloc zr38 rfl) rfl rfl fun b261 => ?_
           refine RS.solid (Sd.stB (cs' := [_, _, _, _, _, _, _, _]) 6 ty38 rfl rfl rfl rfl rfl rfl rfl rfl) rfl rfl fun _ => ?_
           refine RS.nil (hK56 _ _ (T.conseq (fr' := [(1, _), (3, _), (5, _), (9, _), (10, _), (11, _), (12, _), (15, _), (20, _), (21, _)]) ?_ ⟨rfl, rfl, rfl, rfl, rfl, rfl, rfl, rfl, rfl, rfl, trivial⟩ (fun _ s => s)))
           refine T.seq fun K57 hK57 => ?_
           refine T.seq fun K58 hK58 => ?_
           try dsimp only [List.set, List.cons_append, List.nil_append]
           refine T.region ?_
           refine RS.p (Pu.move rfl) rfl rfl ?_
           refine RS.p (Pu.bin rfl rfl rfl) rfl rfl ?_
           refine RS.nil (hK58 _ _ ?_)
           refine T.condP rfl (fun hc262 => ?_) (fun hc262 => ?_)
           ·have H := ifT hc262 H
            refine T.conseq (fr' := [(1, _), (3, _), (5, _), (9, _), (10, _), (11, _), (12, _), (21, _)]) ?_ ⟨rfl, rfl, rfl, rfl, rfl, rfl, rfl, rfl, trivial⟩ (fun _ s => s)
            refine T.seq fun K59 hK59 => ?_
            try dsimp only [List.set, List.cons_append, List.nil_append]
            refine T.region ?_
            refine RS.p (Pu.move rfl) rfl rfl ?_
            refine RS.q (Qt.ldBA (us := [_, _, _, _, _, _, _, _]) 6 ty38 rfl rfl rfl rfl) rfl rfl ?_
            refine RS.solid (Sd.litS (cs := [_, _, _, _, _, _, _, _]) sl56 zr38 rfl rfl rfl rfl rfl) rfl rfl fun b263 => ?_
            obtain ⟨g265, H⟩ := gdE H
            refine RS.solid (Sd.pre (fun w s => (Sat.thaw hz254 3 rfl s)) (Sd.appAB (α := Nte) 3 7 ([(gi l29 x249)] : List Nte) rfl rfl ⟨[_, _, _, _, _, _, _, _], _, rfl, ⟨_, rfl, hu258⟩, rfl⟩ sl56 zr38 rfl rfl rfl rfl (Nat.lt_of_lt_of_le g265 (by decide)) (Nat.le_trans (Nat.mul_le_mul_right _ (Nat.le_of_lt g265)) (by decide)))) rfl rfl fun q264 => ?_
            refine RS.p (Pu.assign rfl) rfl rfl ?_
            refine RS.nil (hK59 _ _ (T.conseq (fr' := [(1, _), (3, _), (5, _), (9, _), (10, _), (11, _), (12, _)]) ?_ ⟨rfl, rfl, rfl, rfl, rfl, rfl, rfl, trivial⟩ (fun _ s => s)))
            obtain rfl := Option.some.inj H
            have H := HX56
            obtain rfl := Option.some.inj H
            refine T.xt (hJ37 _ _ (v25, l28, l31, (l29 ++ ([(gi l29 x249)] : List Nte))) (q27, q32, q264) HX37 ⟨rfl, rfl, rfl, rfl, trivial⟩ ⟨rfl, rfl, rfl, trivial⟩ (fun w s => (s.deadRow).pick [0, 1, 2, 8, 4, 3] (by decide) rfl))
           ·have H := ifF hc262 H
            refine T.skip (hK57 _ _ ?_)
            refine T.seq fun K60 hK60 => ?_
            try dsimp only [List.set, List.cons_append, List.nil_append]
            refine T.drawn (fun _ => True) [(1, .pu), (2, .pu), (3, .pu), (5, .pu), (6, .pu), (7, .pu), (8, .pu), (0, .so), (4, .br), (9, .br), (10, .pu)] mixed (ClE.sat _ _) (by kernel_rfl) ?_
            refine RD.p (fun _ _ => trivial) rfl (Pu.move rfl) rfl rfl ?_
            refine RD.p (fun _ _ => trivial) rfl (Pu.move rfl) rfl rfl ?_
            obtain ⟨g267, H⟩ := gdE H
            refine RD.know (fun w s => (rowG_fits hz254)) fun hf268 => ?_
            refine RD.p (fun _ _ => trivial) rfl (Pu.sliceH sl56 rfl rfl (le_cap g267 hf268.2.1)) rfl rfl ?_
            refine RD.p (fun _ _ => trivial) rfl (Pu.move rfl) rfl rfl ?_
            refine RD.p (fun _ _ => trivial) rfl (Pu.move rfl) rfl rfl ?_
            obtain ⟨g269, H⟩ := gdE H
            refine RD.p (fun _ _ => trivial) rfl (Pu.addS rfl rfl g269) rfl rfl ?_
            obtain ⟨g270, H⟩ := gdE H
            refine RD.p (fun _ _ => trivial) rfl (Pu.sliceL sl56 rfl rfl g270) rfl rfl ?_
            refine RD.solid rfl (.inl rfl) rfl rfl (Sd.lit0 (α := Nte) (B := nilH) sl56) (fun _ => ClE.sat _ _) (fun _ _ _ => trivial) (fun _ _ _ s => s.drop1) fun b271 => ?_
            obtain ⟨g273, H⟩ := gdE H
            refine RD.solid rfl (.inr rfl) rfl rfl (Sd.pre (fun w s => (Sat.thaw hz254 3 rfl (Sat.rowFA0 (α := Nte) (A := q27) 7 s rfl))) (Sd.appFA (α := Nte) 7 (l29.take x249.toNat) rfl (Rd2.take (Rd2.ofFA 3 rfl) (le_nat g267)) sl56 zr38 rfl rfl rfl (Nat.lt_of_lt_of_le g273 (by decide)) (Nat.le_trans (Nat.mul_le_mul_right _ (Nat.le_of_lt g273)) (by decide)))) (fun _ => ClE.sat _ _) (fun _ _ _ => trivial) (fun h => nomatch h) fun q272 => ?_
            obtain ⟨g276, H⟩ := gdE H
            refine RD.solid rfl (.inr rfl) rfl rfl (Sd.appFA (α := Nte) 7 (l29.drop (x249 + 1).toNat) rfl (Rd2.drop (Rd2.ofFA 3 rfl) (le_nat g270) rfl) sl56 zr38 rfl rfl rfl (Nat.lt_of_lt_of_le g276 (by decide)) (Nat.le_trans (Nat.mul_le_mul_right _ (Nat.le_of_lt g276)) (by decide))) (fun _ => ClE.sat _ _) (fun _ _ _ => trivial) (fun h => nomatch h) fun q275 => ?_
            refine RD.p (fun _ _ => trivial) rfl (Pu.assign rfl) rfl rfl ?_
            refine RD.nil (hK60 _ _ (T.conseq (fr' := [(1, _), (3, _), (5, _), (9, _), (10, _), (11, _), (12, _), (15, _), (21, _)]) ?_ ⟨rfl, rfl, rfl, rfl, rfl, rfl, rfl, rfl, rfl, trivial⟩ (fun _ s => s)))
            refine T.seq fun K61 hK61 => ?_
            refine T.seq fun K62 hK62 => ?_
            try dsimp only [List.set, List.cons_append, List.nil_append]
            refine T.region ?_
            refine RS.p (Pu.move rfl) rfl rfl ?_
            refine RS.p (Pu.bin rfl rfl rfl) rfl rfl ?_
            refine RS.nil (hK62 _ _ ?_)
            refine T.condP rfl (fun hc278 => ?_) (fun hc278 => ?_)
            ·have H := ifT hc278 H
             obtain rfl := Option.some.inj H
             have H := HX56
             obtain rfl := Option.some.inj H
             refine T.xt (hJ37 _ _ (v25, l28, l31, ((([] : List Nte) ++ (l29.take x249.toNat)) ++ (l29.drop (x249 + 1).toNat))) (q27, q32, q275) HX37 ⟨rfl, rfl, rfl, rfl, trivial⟩ ⟨rfl, rfl, rfl, trivial⟩ (fun w s => (s.deadRow).pick [0, 1, 2, 8, 4, 7] (by decide) rfl))
            ·have H := ifF hc278 H
             refine T.skip (hK61 _ _ (T.conseq (fr' := [(1, _), (3, _), (5, _), (9, _), (10, _), (11, _), (12, _), (21, _)]) ?_ ⟨rfl, rfl, rfl, rfl, rfl, rfl, rfl, rfl, trivial⟩ (fun _ s => s)))
             refine T.seq fun K63 hK63 => ?_
             try dsimp only [List.set, List.cons_append, List.nil_append]
             refine T.region ?_
             refine RS.p (Pu.fieldAddr fd38_1 rfl) rfl rfl ?_
             refine RS.q (Qt.ldB 6 ty3 rfl rfl rfl) rfl rfl ?_
             obtain ⟨g279, H⟩ := gdE H
             refine RS.p (Pu.subS rfl rfl g279) rfl rfl ?_
             refine RS.p (Pu.assign rfl) rfl rfl ?_
             refine RS.nil (hK63 _ _ (T.conseq (fr' := [(1, _), (3, _), (5, _), (9, _), (10, _), (11, _), (12, _), (14, _), (21, _)]) ?_ ⟨rfl, rfl, rfl, rfl, rfl, rfl, rfl, rfl, rfl, trivial⟩ (fun _ s => s)))
             refine T.seq fun K64 hK64 => ?_
             refine T.seq fun K65 hK65 => ?_
             try dsimp only [List.set, List.cons_append, List.nil_append]
             refine T.region ?_
             refine RS.p (Pu.move rfl) rfl rfl ?_
             refine RS.p (Pu.bin rfl rfl rfl) rfl rfl ?_
             refine RS.p (Pu.move rfl) rfl rfl ?_
             refine RS.joinV 4 179 (.bool (decide (((((gi l29 x249).dst) - 1) < 0) ∨ ((1 + x2) ≤ (((gi l29 x249).dst) - 1))))) [(1, _), (3, _), (5, _), (9, _), (10, _), (11, _), (12, _), (14, _), (21, _)] ⟨rfl, rfl, rfl, rfl, rfl, rfl, rfl, rfl, rfl, trivial⟩ ?_ ?_
             ·refine RS.nil (hK65 _ _ ?_)
              refine T.condP rfl (fun hc282 => ?_) (fun hc282 => ?_)
              ·have H := ifT hc282 H
               refine T.conseq (fr' := []) ?_ trivial (fun _ s => s)
               refine T.seq fun K66 hK66 => ?_
               refine T.region ?_
               refine RS.p (Pu.assign rfl) rfl rfl ?_
               refine RS.nil (hK66 _ _ ?_)
               obtain rfl := Option.some.inj H
               have H := HX56
               obtain rfl := Option.some.inj H
               have H := HX37
               obtain rfl := hd11 _ H
               have H := HX11
               obtain rfl := Option.some.inj H
               try dsimp only [List.set, List.cons_append, List.nil_append]
               refine T.rt (Cont.ret1 rfl rfl fun w' s => ?_)
               exact ⟨rfl, s.ext⟩
              ·have H := ifF hc282 H
               refine T.skip (hK64 _ _ ?_)
               refine T.joinA (σ := Int × Int × Int × Int × Int × Bool × Int × List Inp × List Inp × List Int × List Int × List UInt64) (γ := Nat × (Option Nat × Nat) × (Option Nat × Nat) × (Option Nat × Nat) × (Option Nat × Nat) × (Option Nat × Nat)) H (fun s => s) [(1, _), (3, _), (5, _), (9, _), (10, _), (11, _), (12, _), (14, _)] ⟨rfl, rfl, rfl, rfl, rfl, rfl, rfl, rfl, trivial⟩ (fun (v285, v286, v287, v288, v289, v290, v291, v292, v294, v296, v298, v300) (q284, q293, q295, q297, q299, q301) => [(22, .pointer (some ⟨q284, 0, none⟩)), (23, .int .i64 v291)]) (fun (v285, v286, v287, v288, v289, v290, v291, v292, v294, v296, v298, v300) (q284, q293, q295, q297, q299, q301) => Sat w [fz q27, blk b1 [.int .i64 a0_q.n, .int .i64 a0_q.delay, .slice (some ⟨bl47, ol48, none⟩) a0_q.l.length c0] 53, rowG (FA q27) 26 (rowV q10 v9.length) l28, rowG (FA q27) 38 (rowV (some gg251, cc252) l29.length) l29, rowG (FA q27) 33 (rowV q32 l31.length) l31, blk b49 [.int .i64 ((gi a0_q.l v26).act), .int .i64 ((gi a0_q.l v26).peer), .int .i64 ((gi a0_q.l v26).k)] 59, blk b261 [.int .i64 ((gi l29 x249).frm), .int .i64 ((gi l29 x249).dst), .int .i64 (((gi l29 x249).input).turn), .int .i64 (((gi l29 x249).input).player), .slice p259 (((gi l29 x249).input).commands).length cc260, .int .i64 ((gi l29 x249).don), .int .u64 (((gi l29 x249).hash).toNat : Int), .int .i64 ((gi l29 x249).hav)] 38, rowG (FA q27) 38 (rowV q275 (((([] : List Nte) ++ (l29.take x249.toNat)) ++ (l29.drop (x249 + 1).toNat)).length)) ((([] : List Nte) ++ (l29.take x249.toNat)) ++ (l29.drop (x249 + 1).toNat)), blk q284 [.int .i64 v285, .int .i64 v286, .int .i64 v287, .int .i64 v288, .int .i64 v289, rowV q293 v292.length, rowV q295 v294.length, rowV q297 v296.length, rowV q299 v298.length, rowV q301 v300.length, .bool v290] 26, drow 35 (rowV q293 v292.length) v292, drow 35 (rowV q295 v294.length) v294, row nilH 3 (rowV q297 v296.length) v296, row nilH 3 (rowV q299 v298.length) v298, row nilH 36 (rowV q301 v300.length) v300]) ?_ ?_
               ·rintro ⟨v285, v286, v287, v288, v289, v290, v291, v292, v294, v296, v298, v300⟩ ⟨q284, q293, q295, q297, q299, q301⟩ H
                try dsimp only [Ex.then] at H
                refine T.conseq (fr' := [(22, _), (23, _), (1, _), (3, _), (5, _), (9, _), (10, _), (11, _), (12, _), (14, _)]) ?_ ⟨rfl, rfl, rfl, rfl, rfl, rfl, rfl, rfl, rfl, rfl, trivial⟩ (fun _ s => s)
                refine T.seq fun K68 hK68 => ?_
                refine T.seq fun K69 hK69 => ?_
                try dsimp only [List.set, List.cons_append, List.nil_append]
                refine T.region ?_
                refine RS.p (Pu.move rfl) rfl rfl ?_
                obtain ⟨x302, hx302, H⟩ := bindE H
                refine RS.q (Qt.call (vs := [.int .i64 v291]) ent13 rfl fun w s => thronglaw28_num_walk v291 w  hx302) rfl rfl ?_
                refine RS.p (Pu.bin rfl rfl rfl) rfl rfl ?_
                refine RS.nil (hK69 _ _ ?_)
                refine T.condP rfl (fun hc303 => ?_) (fun hc303 => ?_)
                ·have H := ifT hc303 H
                 refine T.conseq (fr' := []) ?_ trivial (fun _ s => s)
                 refine T.seq fun K70 hK70 => ?_
                 refine T.region ?_
                 refine RS.p (Pu.assign rfl) rfl rfl ?_
                 refine RS.nil (hK70 _ _ ?_)
                 obtain rfl := Option.some.inj H
                 have H := HX56
                 obtain rfl := Option.some.inj H
                 have H := HX37
                 obtain rfl := hd11 _ H
                 have H := HX11
                 obtain rfl := Option.some.inj H
                 try dsimp only [List.set, List.cons_append, List.nil_append]
                 refine T.rt (Cont.ret1 rfl rfl fun w' s => ?_)
                 exact ⟨rfl, s.ext⟩
                ·have H := ifF hc303 H
                 refine T.skip (hK68 _ _ (T.conseq (fr' := [(1, _), (3, _), (5, _), (9, _), (10, _), (11, _), (12, _), (14, _), (22, _)]) ?_ ⟨rfl, rfl, rfl, rfl, rfl, rfl, rfl, rfl, rfl, trivial⟩ (fun _ s => s)))
                 try dsimp only [List.set, List.cons_append, List.nil_append]
                 refine T.region ?_
                 refine RS.p (Pu.move rfl) rfl rfl ?_
                 refine RS.p (Pu.move rfl) rfl rfl ?_
                 refine RS.q (Qt.ldBA (us := [_, _, _, _, _, _, _, _, _, _, _]) 8 ty26 rfl rfl rfl rfl) rfl rfl ?_
                 obtain ⟨g304, H⟩ := gdE H
                 refine RS.know (fun w s => (s.row_fitsG (q := q10) (m := v9.length) (k := 2) rfl)) fun hf305 => ?_
                 refine RS.know (p := ∃ g cap, q10 = (some g, cap)) (fun w s => (s.row_someG (k := 2) rfl (pos_of (idx_of hf305.1 g304)))) ?_
                 rintro ⟨gg306, cc307, rfl⟩
                 refine RS.p (Pu.indexSl sl54 rfl rfl g304) rfl rfl ?_
                 refine RS.solid (Sd.absorb (F := fun hA308 => [fz hA308, blk b1 [.int .i64 a0_q.n, .int .i64 a0_q.delay, .slice (some ⟨bl47, ol48, none⟩) a0_q.l.length c0] 53, rowG (FA hA308) 26 (rowV (some gg306, cc307) v9.length) l28, rowG (FA hA308) 38 (rowV (some gg251, cc252) l29.length) l29, rowG (FA hA308) 33 (rowV q32 l31.length) l31, blk b49 [.int .i64 ((gi a0_q.l v26).act), .int .i64 ((gi a0_q.l v26).peer), .int .i64 ((gi a0_q.l v26).k)] 59, blk b261 [.int .i64 ((gi l29 x249).frm), .int .i64 ((gi l29 x249).dst), .int .i64 (((gi l29 x249).input).turn), .int .i64 (((gi l29 x249).input).player), .slice p259 (((gi l29 x249).input).commands).length cc260, .int .i64 ((gi l29 x249).don), .int .u64 (((gi l29 x249).hash).toNat : Int), .int .i64 ((gi l29 x249).hav)] 38, rowG (FA hA308) 38 (rowV q275 (((([] : List Nte) ++ (l29.take x249.toNat)) ++ (l29.drop (x249 + 1).toNat)).length)) ((([] : List Nte) ++ (l29.take x249.toNat)) ++ (l29.drop (x249 + 1).toNat)), blk q284 [.int .i64 v285, .int .i64 v286, .int .i64 v287, .int .i64 v288, .int .i64 v289, rowV q293 v292.length, rowV q295 v294.length, rowV q297 v296.length, rowV q299 v298.length, rowV q301 v300.length, .bool v290] 26, dead, dead, dead, dead, dead]) (fun w s => (Sat.starAt 9 10 (Sat.starAt 10 11 (Sat.starAt 11 12 (Sat.starAt 12 13 s rfl rfl (by decide)) rfl rfl (by decide)) rfl rfl (by decide)) rfl rfl (by decide))) 0 9 rfl rfl (by decide) (fun hA308 hle w s => (Sat.faUp 7 hle (Sat.faUp 4 hle (Sat.faUp 3 hle (Sat.faUp 2 hle s rfl) rfl) rfl) rfl)) (fun hA308 ⟨st309le, _, ⟨_, _, st309a0, ⟨_, _, st309a1, ⟨_, _, st309a2, ⟨_, _, st309a3, st309a4, _, st309l3, st309m3⟩, _, st309l2, st309m2⟩, _, st309l1, st309m1⟩, _, st309l0, st309m0⟩, st309p⟩ => Sd.stFA0 (α := Per) 2 (⟨v285, v286, v287, v288, v289, v292, v294, v296, v298, v300, v290⟩ : Per) rfl ty26 rfl rfl rfl (idx_of hf305.1 g304) rfl rfl rfl rfl ⟨_, _, _, _, _, rfl, (Enc.mono st309p (Enc.mono st309l0 (drow_R st309a0))), (Enc.mono st309p (Enc.mono st309m0 (Enc.mono st309l1 (drow_R st309a1)))), (Enc.mono st309p (Enc.mono st309m0 (Enc.mono st309m1 (Enc.mono st309l2 (row_R st309a2))))), (Enc.mono st309p (Enc.mono st309m0 (Enc.mono st309m1 (Enc.mono st309m2 (Enc.mono st309l3 (row_R st309a3)))))), (Enc.mono st309p (Enc.mono st309m0 (Enc.mono st309m1 (Enc.mono st309m2 (Enc.mono st309m3 (row_R st309a4))))))⟩)) rfl rfl fun ⟨hA308, _⟩ => ?_
                 try dsimp only
                 obtain rfl := Option.some.inj H
                 refine RS.nil (hJ56 _ _ (v25, (((gi l29 x249).dst) - 1), (si l28 (((gi l29 x249).dst) - 1) (⟨v285, v286, v287, v288, v289, v292, v294, v296, v298, v300, v290⟩ : Per)), ((([] : List Nte) ++ (l29.take x249.toNat)) ++ (l29.drop (x249 + 1).toNat))) (hA308, q275) HX56 ⟨rfl, rfl, rfl, rfl, rfl, trivial⟩ ⟨rfl, rfl, rfl, trivial⟩ (fun w s => (s.deadRow).pick [0, 1, 2, 14, 4, 5, 7] (by decide) rfl))
               ·intro z283 H HX283 K67 hJ283
                refine T.exP (fun w s => s.freeze 2 rfl) fun hh310 hz311 => ?_
                try dsimp only [List.set, List.cons_append, List.nil_append]
                refine T.drawnT (fun _ => True) [(0, .pu), (1, .pu), (2, .pu), (3, .rd), (4, .rd), (5, .so), (6, .pu), (7, .pu), (8, .pu), (9, .so), (10, .br), (11, .pu)] (.st 0 .pu (.st 1 .pu (.st 2 .pu (.st 3 .rd (.st 4 .rd (.two 5 .so (.st 6 .pu (.st 7 .pu (.st 8 .pu (.st 9 .so (.st 10 .br (.st 11 .pu .nil)))))) 9 .so (.st 5 .so (.st 6 .pu (.st 7 .pu (.st 8 .pu (.st 10 .br (.st 11 .pu .nil)))))))))))) mixed (ClE.sat _ _) (by kernel_rfl) ?_
                refine RT.p (fun _ _ => trivial) rfl (Pu.move rfl) rfl rfl ?_
                refine RT.p (fun _ _ => trivial) rfl (Pu.move rfl) rfl rfl ?_
                obtain ⟨g312, H⟩ := gdE H
                refine RT.know (fun w s => (rowG_fits hz311)) fun hf313 => ?_
                refine RT.know (p := ∃ g cap, q10 = (some g, cap)) (fun w s => (R2.some' (fa_R2 hz311) (pos_of (idx_of hf313.1 g312)))) ?_
                rintro ⟨gg314, cc315, rfl⟩
                refine RT.p (fun _ _ => trivial) rfl (Pu.indexSl sl54 rfl rfl g312) rfl rfl ?_
                obtain ⟨c316, hc317, ha318⟩ := R2.el (α := Per) (fa_R2 hz311) (idx_of hf313.1 g312)
                obtain ⟨u319, u320, u321, u322, u323, rfl, hu319, hu320, hu321, hu322, hu323⟩ := hc317
                obtain ⟨p324, cc325, rfl⟩ := R_form hu319
                obtain ⟨p326, cc327, rfl⟩ := R_form hu320
                obtain ⟨p328, cc329, rfl⟩ := R_form hu321
                obtain ⟨p330, cc331, rfl⟩ := R_form hu322
                obtain ⟨p332, cc333, rfl⟩ := R_form hu323
                refine RT.q (fun _ _ => trivial) rfl (Qt.ldZ (cs := [_, _, _, _, _, _, _, _, _, _, _]) ty26 rfl ha318 (Held.fz 2 rfl) rfl) rfl rfl ?_
                refine RT.q (fun _ _ => trivial) rfl (Qt.ldBA (us := [_, _, _, _, _, _, _, _]) 6 ty38 rfl rfl rfl rfl) rfl rfl ?_
                obtain ⟨x334, hx334, H⟩ := bindE H
                refine RT.two ?_ ?_
                ·refine RT1.solid rfl (.inl rfl) rfl rfl (Sd.callN (vs := [.agg #[.int .i64 ((gi l28 (((gi l29 x249).dst) - 1)).id), .int .i64 ((gi l28 (((gi l29 x249).dst) - 1)).players), .int .i64 ((gi l28 (((gi l29 x249).dst) - 1)).delay), .int .i64 ((gi l28 (((gi l29 x249).dst) - 1)).turn), .int .i64 ((gi l28 (((gi l29 x249).dst) - 1)).said), .slice p324 ((gi l28 (((gi l29 x249).dst) - 1)).mine).length cc325, .slice p326 ((gi l28 (((gi l29 x249).dst) - 1)).inputs).length cc327, .slice p328 ((gi l28 (((gi l29 x249).dst) - 1)).has).length cc329, .slice p330 ((gi l28 (((gi l29 x249).dst) - 1)).acked).length cc331, .slice p332 ((gi l28 (((gi l29 x249).dst) - 1)).hashes).length cc333, .bool ((gi l28 (((gi l29 x249).dst) - 1)).split)], .agg #[.int .i64 ((gi l29 x249).frm), .int .i64 ((gi l29 x249).dst), .int .i64 (((gi l29 x249).input).turn), .int .i64 (((gi l29 x249).input).player), .slice p259 (((gi l29 x249).input).commands).length cc260, .int .i64 ((gi l29 x249).don), .int .u64 (((gi l29 x249).hash).toNat : Int), .int .i64 ((gi l29 x249).hav)]]) ent9 rfl (fun w s => peer_Take_walk (gi l28 (((gi l29 x249).dst) - 1)) (gi l29 x249) w ((Rd.ofFz 0 rfl hu319) w s) ((Rd.ofFz 0 rfl hu320) w s) ((Rd.ofFz 0 rfl hu321) w s) ((Rd.ofFz 0 rfl hu322) w s) ((Rd.ofFz 0 rfl hu323) w s) ((Rd.ofFz 0 rfl hu258) w s) hx334)) (fun _ => ClE.sat _ _) (fun _ _ _ => trivial) (fun _ _ _ s => s.drop1) fun ⟨q534, q535, q536, q537, q538⟩ => ?_
                 refine RT.p (fun _ _ => trivial) rfl (Pu.move rfl) rfl rfl ?_
                 refine RT.p (fun _ _ => trivial) rfl (Pu.extract rfl rfl) rfl rfl ?_
                 refine RT.p (fun _ _ => trivial) rfl (Pu.extract rfl rfl) rfl rfl ?_
                 refine RT.solid rfl (.inl rfl) rfl rfl (Sd.alloc zr26 rfl) (fun _ => ClE.sat _ _) (fun _ _ _ => trivial) (fun _ _ _ s => s.drop1) fun b539 => ?_
                 refine RT.solid rfl (.inr rfl) rfl rfl (Sd.stB (cs' := [_, _, _, _, _, _, _, _, _, _, _]) 13 ty26 rfl rfl rfl rfl rfl rfl rfl rfl) (fun _ => ClE.sat _ _) (fun _ _ _ => trivial) (fun h => nomatch h) fun _ => ?_
                 refine RT.p (fun _ _ => trivial) rfl (Pu.assign rfl) rfl rfl ?_
                 obtain rfl := Option.some.inj H
                 refine RT.nil (hJ283 _ _ (x334.1.id, x334.1.players, x334.1.delay, x334.1.turn, x334.1.said, x334.1.split, x334.2, x334.1.mine, x334.1.inputs, x334.1.has, x334.1.acked, x334.1.hashes) (b539, q534, q535, q536, q537, q538) HX283 ⟨rfl, rfl, rfl, rfl, rfl, rfl, rfl, rfl, trivial⟩ ⟨rfl, rfl, trivial⟩ (fun w s => (Sat.thaw hz311 2 rfl s).pick [0, 1, 2, 3, 4, 5, 6, 7, 13, 8, 9, 10, 11, 12] (by decide) rfl))
                ·refine RT1.solid rfl (.inl rfl) rfl rfl (Sd.alloc zr26 rfl) (fun _ => ClE.sat _ _) (fun _ _ _ => trivial) (fun _ _ _ s => s.drop1) fun b540 => ?_
                 refine RT.solid rfl (.inl rfl) rfl rfl (Sd.callN (vs := [.agg #[.int .i64 ((gi l28 (((gi l29 x249).dst) - 1)).id), .int .i64 ((gi l28 (((gi l29 x249).dst) - 1)).players), .int .i64 ((gi l28 (((gi l29 x249).dst) - 1)).delay), .int .i64 ((gi l28 (((gi l29 x249).dst) - 1)).turn), .int .i64 ((gi l28 (((gi l29 x249).dst) - 1)).said), .slice p324 ((gi l28 (((gi l29 x249).dst) - 1)).mine).length cc325, .slice p326 ((gi l28 (((gi l29 x249).dst) - 1)).inputs).length cc327, .slice p328 ((gi l28 (((gi l29 x249).dst) - 1)).has).length cc329, .slice p330 ((gi l28 (((gi l29 x249).dst) - 1)).acked).length cc331, .slice p332 ((gi l28 (((gi l29 x249).dst) - 1)).hashes).length cc333, .bool ((gi l28 (((gi l29 x249).dst) - 1)).split)], .agg #[.int .i64 ((gi l29 x249).frm), .int .i64 ((gi l29 x249).dst), .int .i64 (((gi l29 x249).input).turn), .int .i64 (((gi l29 x249).input).player), .slice p259 (((gi l29 x249).input).commands).length cc260, .int .i64 ((gi l29 x249).don), .int .u64 (((gi l29 x249).hash).toNat : Int), .int .i64 ((gi l29 x249).hav)]]) ent9 rfl (fun w s => peer_Take_walk (gi l28 (((gi l29 x249).dst) - 1)) (gi l29 x249) w ((Rd.ofFz 0 rfl hu319) w s) ((Rd.ofFz 0 rfl hu320) w s) ((Rd.ofFz 0 rfl hu321) w s) ((Rd.ofFz 0 rfl hu322) w s) ((Rd.ofFz 0 rfl hu323) w s) ((Rd.ofFz 0 rfl hu258) w s) hx334)) (fun _ => ClE.sat _ _) (fun _ _ _ => trivial) (fun _ _ _ s => s.drop1) fun ⟨q541, q542, q543, q544, q545⟩ => ?_
                 refine RT.p (fun _ _ => trivial) rfl (Pu.move rfl) rfl rfl ?_
                 refine RT.p (fun _ _ => trivial) rfl (Pu.extract rfl rfl) rfl rfl ?_
                 refine RT.p (fun _ _ => trivial) rfl (Pu.extract rfl rfl) rfl rfl ?_
                 refine RT.solid rfl (.inr rfl) rfl rfl (Sd.stB (cs' := [_, _, _, _, _, _, _, _, _, _, _]) 8 ty26 rfl rfl rfl rfl rfl rfl rfl rfl) (fun _ => ClE.sat _ _) (fun _ _ _ => trivial) (fun h => nomatch h) fun _ => ?_
                 refine RT.p (fun _ _ => trivial) rfl (Pu.assign rfl) rfl rfl ?_
                 obtain rfl := Option.some.inj H
                 refine RT.nil (hJ283 _ _ (x334.1.id, x334.1.players, x334.1.delay, x334.1.turn, x334.1.said, x334.1.split, x334.2, x334.1.mine, x334.1.inputs, x334.1.has, x334.1.acked, x334.1.hashes) (b540, q541, q542, q543, q544, q545) HX283 ⟨rfl, rfl, rfl, rfl, rfl, rfl, rfl, rfl, trivial⟩ ⟨rfl, rfl, trivial⟩ (fun w s => (Sat.thaw hz311 2 rfl s).pick [0, 1, 2, 3, 4, 5, 6, 7, 8, 9, 10, 11, 12, 13] (by decide) rfl))
             ·intro hJ281
              refine RS.splitP 175 rfl (fun hc280 => ?_) (fun hc280 => ?_)
              ·refine RS.no rfl rfl ?_
               refine RS.no rfl rfl ?_
               refine RS.no rfl rfl ?_
               refine RS.p (Pu.pickT rfl rfl) rfl rfl ?_
               exact hJ281 _ _ ⟨dOrT hc280, rfl, rfl, rfl, rfl, rfl, rfl, rfl, rfl, rfl, trivial⟩ (fun w s => s)
              ·refine RS.p (Pu.move rfl) rfl rfl ?_
               refine RS.p (Pu.move rfl) rfl rfl ?_
               refine RS.p (Pu.bin rfl rfl rfl) rfl rfl ?_
               refine RS.p (Pu.pickF rfl rfl) rfl rfl ?_
               exact hJ281 _ _ ⟨dOrF hc280, rfl, rfl, rfl, rfl, rfl, rfl, rfl, rfl, rfl, trivial⟩ (fun w s => s)
        ·intro hJ55
         refine RS.splitP 92 rfl (fun hc54 => ?_) (fun hc54 => ?_)
         ·refine RS.no rfl rfl ?_
          refine RS.no rfl rfl ?_
          refine RS.no rfl rfl ?_
          refine RS.p (Pu.pickT rfl rfl) rfl rfl ?_
          exact hJ55 _ _ ⟨dOrT hc54, rfl, rfl, rfl, rfl, rfl, rfl, rfl, rfl, rfl, rfl, trivial⟩ (fun w s => s)
         ·refine RS.p (Pu.move rfl) rfl rfl ?_
          refine RS.p (Pu.lenSl sl56 rfl) rfl rfl ?_
          refine RS.p (Pu.bin rfl rfl rfl) rfl rfl ?_
          refine RS.p (Pu.pickF rfl rfl) rfl rfl ?_
          exact hJ55 _ _ ⟨dOrF hc54, rfl, rfl, rfl, rfl, rfl, rfl, rfl, rfl, rfl, rfl, trivial⟩ (fun w s => s)
       ·intro hJ53
        refine RS.splitP 88 rfl (fun hc52 => ?_) (fun hc52 => ?_)
        ·refine RS.p (Pu.move rfl) rfl rfl ?_
         refine RS.p (Pu.bin rfl rfl rfl) rfl rfl ?_
         refine RS.p (Pu.pickT rfl rfl) rfl rfl ?_
         exact hJ53 _ _ ⟨dAndT hc52, rfl, rfl, rfl, rfl, rfl, rfl, rfl, rfl, rfl, rfl, trivial⟩ (fun w s => s)
        ·refine RS.no rfl rfl ?_
         refine RS.no rfl rfl ?_
         refine RS.p (Pu.pickF rfl rfl) rfl rfl ?_
         exact hJ53 _ _ ⟨dAndF hc52, rfl, rfl, rfl, rfl, rfl, rfl, rfl, rfl, rfl, rfl, trivial⟩ (fun w s => s)
     ·have H := ifF hc36 H
      obtain rfl := hd11 _ H
      refine T.xt (hJ11 _ _ l28 q27 HX11 ⟨rfl, rfl, trivial⟩ trivial (fun w s => ((s.deadRow).deadRow).pick [0, 1, 2, 5, 6] (by decide) rfl))
    ·intro hJ35
     refine RS.splitP 67 rfl (fun hc34 => ?_) (fun hc34 => ?_)
     ·refine RS.p (Pu.move rfl) rfl rfl ?_
      refine RS.p (Pu.lenSl sl56 rfl) rfl rfl ?_
      refine RS.p (Pu.bin rfl rfl rfl) rfl rfl ?_
      refine RS.p (Pu.pickT rfl rfl) rfl rfl ?_
      exact hJ35 _ _ ⟨dAndT hc34, rfl, rfl, rfl, rfl, rfl, rfl, rfl, trivial⟩ (fun w s => s)
     ·refine RS.no rfl rfl ?_
      refine RS.no rfl rfl ?_
      refine RS.no rfl rfl ?_
      refine RS.p (Pu.pickF rfl rfl) rfl rfl ?_
      exact hJ35 _ _ ⟨dAndF hc34, rfl, rfl, rfl, rfl, rfl, rfl, rfl, trivial⟩ (fun w s => s)
  ·intro z7 hz7 HX7 hJ7
   refine T.block ?_
   refine T.loopA (γ := Hp × (Option Nat × Nat)) hz7 [(1, _), (3, _), (4, _)] (fun (v546, l548) (q547, q549) => [(5, rowV q549 l548.length), (6, .int .i64 v546)]) (fun (v546, l548) (q547, q549) => Sat w [fz q547, blk b1 [.int .i64 a0_q.n, .int .i64 a0_q.delay, .slice p0 a0_q.l.length c0] 53, rowG (FA q547) 26 (rowV q549 l548.length) l548]) (hA, (none, 0)) ⟨rfl, rfl, rfl, trivial⟩ ⟨rfl, rfl, trivial⟩ (fun w s => s) ?_
   rintro ⟨v546, l548⟩ ⟨q547, q549⟩ y550 H hd7 KL7 hL7
   try dsimp only [Ex.then] at H
   refine T.conseq (fr' := [(5, _), (6, _), (1, _), (3, _), (4, _)]) ?_ ⟨rfl, rfl, rfl, rfl, rfl, trivial⟩ (fun _ s => s)
   refine T.seq fun K71 hK71 => ?_
   refine T.seq fun K72 hK72 => ?_
   refine T.region ?_
   refine RS.p (Pu.move rfl) rfl rfl ?_
   refine RS.p (Pu.move rfl) rfl rfl ?_
   refine RS.p (Pu.bin rfl rfl rfl) rfl rfl ?_
   refine RS.nil (hK72 _ _ ?_)
   refine T.condP rfl (fun hc551 => ?_) (fun hc551 => ?_)
   ·have H := ifT hc551 H
    refine T.skip (hK71 _ _ (T.conseq (fr' := [(1, _), (3, _), (4, _), (5, _), (6, _)]) ?_ ⟨rfl, rfl, rfl, rfl, rfl, trivial⟩ (fun _ s => s)))
    refine T.seq fun K73 hK73 => ?_
    refine T.block ?_
    refine T.seq fun K74 hK74 => ?_
    refine T.region ?_
    refine RS.p (Pu.move rfl) rfl rfl ?_
    refine RS.p (Pu.move rfl) rfl rfl ?_
    refine RS.p (Pu.move rfl) rfl rfl ?_
    obtain ⟨x552, hx552, H⟩ := bindE H
    refine RS.solid (Sd.callN (vs := [.int .i64 v546, .int .i64 (1 + x2), .int .i64 (1 + x4)]) ent16 rfl (fun w s => peer_New_walk v546 (1 + x2) (1 + x4) w  hx552)) rfl rfl fun ⟨q553, q554, q555, q556, q557⟩ => ?_
    refine RS.p (Pu.move rfl) rfl rfl ?_
    refine RS.p (Pu.extract rfl rfl) rfl rfl ?_
    refine RS.p (Pu.extract rfl rfl) rfl rfl ?_
    refine RS.solid (Sd.alloc zr26 rfl) rfl rfl fun b558 => ?_
    refine RS.solid (Sd.stB (cs' := [_, _, _, _, _, _, _, _, _, _, _]) 8 ty26 rfl rfl rfl rfl rfl rfl rfl rfl) rfl rfl fun _ => ?_
    refine RS.p (Pu.assign rfl) rfl rfl ?_
    refine RS.nil (hK74 _ _ (T.conseq (fr' := [(1, _), (3, _), (4, _), (5, _), (6, _), (7, _), (8, _)]) ?_ ⟨rfl, rfl, rfl, rfl, rfl, rfl, rfl, trivial⟩ (fun _ s => s)))
    refine T.seq fun K75 hK75 => ?_
    refine T.seq fun K76 hK76 => ?_
    try dsimp only [List.set, List.cons_append, List.nil_append]
    refine T.region ?_
    refine RS.p (Pu.move rfl) rfl rfl ?_
    obtain ⟨x559, hx559, H⟩ := bindE H
    refine RS.q (Qt.call (vs := [.int .i64 x552.2]) ent13 rfl fun w s => thronglaw28_num_walk x552.2 w  hx559) rfl rfl ?_
    refine RS.p (Pu.bin rfl rfl rfl) rfl rfl ?_
    refine RS.nil (hK76 _ _ ?_)
    refine T.condP rfl (fun hc560 => ?_) (fun hc560 => ?_)
    ·have H := ifT hc560 H
     refine T.conseq (fr' := []) ?_ trivial (fun _ s => s)
     refine T.seq fun K77 hK77 => ?_
     refine T.region ?_
     refine RS.p (Pu.assign rfl) rfl rfl ?_
     refine RS.nil (hK77 _ _ ?_)
     obtain rfl := hd7 _ H
     have H := HX7
     obtain rfl := Option.some.inj H
     try dsimp only [List.set, List.cons_append, List.nil_append]
     refine T.rt (Cont.ret1 rfl rfl fun w' s => ?_)
     exact ⟨rfl, s.ext⟩
    ·have H := ifF hc560 H
     refine T.skip (hK75 _ _ (T.conseq (fr' := [(1, _), (3, _), (4, _), (5, _), (6, _), (7, _)]) ?_ ⟨rfl, rfl, rfl, rfl, rfl, rfl, trivial⟩ (fun _ s => s)))
     try dsimp only [List.set, List.cons_append, List.nil_append]
     refine T.region ?_
     refine RS.p (Pu.move rfl) rfl rfl ?_
     refine RS.q (Qt.ldBA (us := [_, _, _, _, _, _, _, _, _, _, _]) 8 ty26 rfl rfl rfl rfl) rfl rfl ?_
     refine RS.solid (Sd.litS (cs := [_, _, _, _, _, _, _, _, _, _, _]) sl54 zr26 rfl rfl rfl rfl rfl) rfl rfl fun b561 => ?_
     obtain ⟨g563, H⟩ := gdE H
     refine RS.solid (Sd.absorb (F := fun hA564 => [fz hA564, blk b1 [.int .i64 a0_q.n, .int .i64 a0_q.delay, .slice p0 a0_q.l.length c0] 53, rowG (FA hA564) 26 (rowV q549 l548.length) l548, dead, dead, dead, dead, dead, blk b558 [.int .i64 x552.1.id, .int .i64 x552.1.players, .int .i64 x552.1.delay, .int .i64 x552.1.turn, .int .i64 x552.1.said, rowV q553 x552.1.mine.length, rowV q554 x552.1.inputs.length, rowV q555 x552.1.has.length, rowV q556 x552.1.acked.length, rowV q557 x552.1.hashes.length, .bool x552.1.split] 26, blk b561 [.int .i64 x552.1.id, .int .i64 x552.1.players, .int .i64 x552.1.delay, .int .i64 x552.1.turn, .int .i64 x552.1.said, rowV q553 x552.1.mine.length, rowV q554 x552.1.inputs.length, rowV q555 x552.1.has.length, rowV q556 x552.1.acked.length, rowV q557 x552.1.hashes.length, .bool x552.1.split] 26]) (fun w s => (Sat.starAt 3 4 (Sat.starAt 4 5 (Sat.starAt 5 6 (Sat.starAt 6 7 s rfl rfl (by decide)) rfl rfl (by decide)) rfl rfl (by decide)) rfl rfl (by decide))) 0 3 rfl rfl (by decide) (fun hA564 hle w s => (Sat.faUp 2 hle s rfl)) (fun hA564 ⟨st565le, _, ⟨_, _, st565a0, ⟨_, _, st565a1, ⟨_, _, st565a2, ⟨_, _, st565a3, st565a4, _, st565l3, st565m3⟩, _, st565l2, st565m2⟩, _, st565l1, st565m1⟩, _, st565l0, st565m0⟩, st565p⟩ => Sd.appAB (α := Per) 2 9 ([x552.1] : List Per) rfl rfl ⟨[_, _, _, _, _, _, _, _, _, _, _], _, rfl, ⟨_, _, _, _, _, rfl, (Enc.mono st565p (Enc.mono st565l0 (drow_R st565a0))), (Enc.mono st565p (Enc.mono st565m0 (Enc.mono st565l1 (drow_R st565a1)))), (Enc.mono st565p (Enc.mono st565m0 (Enc.mono st565m1 (Enc.mono st565l2 (row_R st565a2))))), (Enc.mono st565p (Enc.mono st565m0 (Enc.mono st565m1 (Enc.mono st565m2 (Enc.mono st565l3 (row_R st565a3)))))), (Enc.mono st565p (Enc.mono st565m0 (Enc.mono st565m1 (Enc.mono st565m2 (Enc.mono st565m3 (row_R st565a4))))))⟩, rfl⟩ sl54 zr26 rfl rfl rfl rfl (Nat.lt_of_lt_of_le g563 (by decide)) (Nat.le_trans (Nat.mul_le_mul_right _ (Nat.le_of_lt g563)) (by decide)))) rfl rfl fun ⟨hA564, q562⟩ => ?_
     try dsimp only
     refine RS.p (Pu.assign rfl) rfl rfl ?_
     refine RS.nil (hK73 _ _ (T.conseq (fr' := [(1, _), (3, _), (4, _), (5, _), (6, _)]) ?_ ⟨rfl, rfl, rfl, rfl, rfl, trivial⟩ (fun _ s => s)))
     try dsimp only [List.set, List.cons_append, List.nil_append]
     refine T.region ?_
     refine RS.p (Pu.move rfl) rfl rfl ?_
     obtain ⟨g566, H⟩ := gdE H
     refine RS.p (Pu.addS rfl rfl g566) rfl rfl ?_
     refine RS.p (Pu.assign rfl) rfl rfl ?_
     refine RS.nil (hL7 _ _ ((v546 + 1), (l548 ++ ([x552.1] : List Per))) (hA564, q562) H ⟨rfl, rfl, rfl, trivial⟩ ⟨rfl, rfl, trivial⟩ (fun w s => s.pick [0, 1, 2] (by decide) rfl))
   ·have H := ifF hc551 H
    obtain rfl := hd7 _ H
    refine T.xt (hJ7 _ _ l548 (q547, q549) HX7 ⟨rfl, rfl, trivial⟩ ⟨rfl, trivial⟩ (fun w s => s))
end Go.Proofs.Ytnadebijiaelkaa
