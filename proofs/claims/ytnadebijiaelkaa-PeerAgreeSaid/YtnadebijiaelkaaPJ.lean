/-
  Walks of the peers' functions, more.
-/
import Derived.Test.YtnadebijiaelkaaRows
import Derived.Test.YtnadebijiaelkaaPH
set_option linter.unusedVariables false
set_option linter.unusedSimpArgs false
set_option maxRecDepth 20000
set_option maxHeartbeats 4000000
namespace Go.Proofs.Ytnadebijiaelkaa
open Go.Vg
open Enc (R)
theorem ent13 : Ent Try.prog 13 := ⟨_, _, Try.func13, by kernel_rfl, rfl⟩
theorem ent16 : Ent Try.prog 16 := ⟨_, _, Try.func16, by kernel_rfl, rfl⟩
theorem ent18 : Ent Try.prog 18 := ⟨_, _, Try.func18, by kernel_rfl, rfl⟩
theorem ent42 : Ent Try.prog 42 := ⟨_, _, Try.func42, by kernel_rfl, rfl⟩
theorem ent43 : Ent Try.prog 43 := ⟨_, _, Try.func43, by kernel_rfl, rfl⟩
theorem fd38_2 : fdOff Try.prog 38 2 = some 2 := by kernel_rfl
theorem fd38_3 : fdOff Try.prog 38 3 = some 5 := by kernel_rfl
theorem fd38_4 : fdOff Try.prog 38 4 = some 6 := by kernel_rfl
theorem sl56 : slTy Try.prog 56 = some (38, 8, 80) := by kernel_rfl
theorem st38 : stTy Try.prog 38 = some ([.int .i64 0, .int .i64 0, .int .i64 0, .int .i64 0, .slice none 0 0, .int .i64 0, .int .u64 0, .int .i64 0], [(0, 1), (1, 1), (2, 3), (5, 1), (6, 1), (7, 1)]) := by kernel_rfl
theorem ty36 : tySz Try.prog 36 = some (1, false) := by kernel_rfl
theorem ty38 : tySz Try.prog 38 = some (8, true) := by kernel_rfl
theorem zr38 : zeroOf Try.prog 38 = some (.agg #[.int .i64 0, .int .i64 0, .int .i64 0, .int .i64 0, .slice none 0 0, .int .i64 0, .int .u64 0, .int .i64 0]) := by kernel_rfl
theorem slices_IndexFunc_walk (a0_s : List Inp) (a1_f : Inp → Option Bool) (w : World) {v0 v1 : Value} (h0 : R (hpOf w) a0_s [v0]) (h1 : FnR Try.prog w v1 (fun (y0 : Inp) c => ∃ u0 : Value, c = [.agg #[.int .i64 y0.turn, .int .i64 y0.player, u0]]) (fun (r : Bool) => .bool r) a1_f) {r : Int} (H : slices_IndexFunc a0_s a1_f = some r) : Calls Try.prog 42 #[v0, v1] w fun e w' => e = .returned (.int .i64 r) ∧ Ext w w' := by
 have hm0 := R_max h0
 obtain ⟨p0, c0, rfl⟩ := R_form h0
 unfold slices_IndexFunc at H
 refine T.enter (args := [_, _]) (S := Sat w []) Try.func42 rfl rfl (Sat.start w) ?_
 refine T.seq fun K1 hK1 => ?_
 refine T.region ?_
 refine RS.p (Pu.assign rfl) rfl rfl ?_
 refine RS.nil (hK1 _ _ ?_)
 refine T.seq fun K2 hK2 => ?_
 refine T.seq fun K3 hK3 => ?_
 refine T.region ?_
 refine RS.p (Pu.move rfl) rfl rfl ?_
 refine RS.p (Pu.lenSl sl22 rfl) rfl rfl ?_
 refine RS.p (Pu.move rfl) rfl rfl ?_
 refine RS.nil (hK3 _ _ ?_)
 refine T.joinE (σ := Unit) (γ := Unit) H Ex.go [] trivial (fun _ _ => []) (fun _ _ => Sat w []) ?_ ?_
 ·rintro ⟨⟩ ⟨⟩ H
  try dsimp only [Ex.then] at H
  refine Cont.conseq (fr' := []) ?_ trivial (fun _ s => s)
  refine id (hK2 _ _ ?_)
  refine T.seq fun K4 hK4 => ?_
  refine T.region ?_
  refine RS.p (Pu.assign rfl) rfl rfl ?_
  refine RS.nil (hK4 _ _ ?_)
  obtain rfl := Option.some.inj H
  refine T.rt (Cont.ret1 rfl rfl fun w' s => ?_)
  exact ⟨rfl, s.ext⟩
 ·intro z1 hz1 HX1 hJ1
  refine T.block ?_
  refine T.loopA (γ := Unit) hz1 [(0, _), (1, _), (7, _)] (fun v2 _ => [(8, .int .i64 v2)]) (fun v2 _ => Sat w []) () ⟨rfl, rfl, rfl, trivial⟩ ⟨rfl, trivial⟩ (fun w s => s) ?_
  rintro v2 ⟨⟩ y3 H hd1 KL1 hL1
  try dsimp only [Ex.then] at H
  refine T.conseq (fr' := [(8, _), (0, _), (1, _), (7, _)]) ?_ ⟨rfl, rfl, rfl, rfl, trivial⟩ (fun _ s => s)
  refine T.seq fun K5 hK5 => ?_
  refine T.region ?_
  refine RS.p (Pu.bin rfl rfl rfl) rfl rfl ?_
  refine RS.nil (hK5 _ _ ?_)
  refine T.seq fun K6 hK6 => ?_
  refine T.condP rfl (fun hc4 => ?_) (fun hc4 => ?_)
  ·have H := ifT hc4 H
   refine T.skip (hK6 _ _ ?_)
   refine T.seq fun K7 hK7 => ?_
   refine T.block ?_
   refine T.seq fun K8 hK8 => ?_
   refine T.region ?_
   refine RS.p (Pu.move rfl) rfl rfl ?_
   refine RS.p (Pu.assign rfl) rfl rfl ?_
   refine RS.nil (hK8 _ _ ?_)
   refine T.seq fun K9 hK9 => ?_
   refine T.region ?_
   refine RS.p (Pu.move rfl) rfl rfl ?_
   refine RS.p (Pu.move rfl) rfl rfl ?_
   refine RS.p (Pu.move rfl) rfl rfl ?_
   obtain ⟨g5, H⟩ := gdE H
   obtain ⟨bl6, ol7, rfl⟩ := R_ptr h0 (ne_of_pos (pos_of g5))
   refine RS.p (Pu.indexSl sl22 rfl rfl g5) rfl rfl ?_
   obtain ⟨c8, hc9, ha10⟩ := R_el (α := Inp) h0 g5
   obtain ⟨u11, rfl, hu11⟩ := hc9
   obtain ⟨p12, cc13, rfl⟩ := R_form hu11
   refine RS.q (Qt.ldZ (cs := [_, _, _]) ty35 rfl ha10 Held.base rfl) rfl rfl ?_
   obtain ⟨x14, hx14, H⟩ := bindE H
   refine RS.q (Qt.callR rfl h1 (fun w s => s.ext) hx14 rfl ⟨_, rfl⟩) rfl rfl ?_
   refine RS.nil (hK9 _ _ ?_)
   refine T.cond rfl (fun hc15 => ?_) (fun hc15 => ?_)
   ·have H := ifT hc15 H
    refine T.conseq (fr' := [(5, _)]) ?_ ⟨rfl, trivial⟩ (fun _ s => s)
    refine T.seq fun K10 hK10 => ?_
    refine T.region ?_
    refine RS.p (Pu.move rfl) rfl rfl ?_
    refine RS.p (Pu.assign rfl) rfl rfl ?_
    refine RS.nil (hK10 _ _ ?_)
    obtain rfl := hd1 _ H
    have H := HX1
    obtain rfl := Option.some.inj H
    refine T.rt (Cont.ret1 rfl rfl fun w' s => ?_)
    exact ⟨rfl, s.ext⟩
   ·have H := ifB hc15 H
    refine T.skip (hK7 _ _ (T.conseq (fr' := [(0, _), (1, _), (7, _), (8, _)]) ?_ ⟨rfl, rfl, rfl, rfl, trivial⟩ (fun _ s => s)))
    refine T.region ?_
    obtain ⟨g16, H⟩ := gdE H
    refine RS.p (Pu.addS rfl rfl g16) rfl rfl ?_
    refine RS.p (Pu.move rfl) rfl rfl ?_
    refine RS.nil (hL1 _ _ (v2 + 1) () H ⟨rfl, rfl, rfl, trivial⟩ ⟨rfl, trivial⟩ (fun w s => s))
  ·have H := ifF hc4 H
   obtain rfl := hd1 _ H
   refine T.xt (hJ1 _ _ () () HX1 trivial trivial (fun w s => s))
theorem peer_Notes_1_walk (a0_i : Inp) (c0 : Per) (c1 : Int) (w : World) {v0 v1 v2 v3 v4 v5 : Value} {p1g p2g : Nat} (hb1 : blk p1g [.int .i64 c0.id, .int .i64 c0.players, .int .i64 c0.delay, .int .i64 c0.turn, .int .i64 c0.said, v1, v2, v3, v4, v5, .bool c0.split] 26 (hpOf w)) (h1 : R (hpOf w) c0.mine [v1]) (h2 : R (hpOf w) c0.inputs [v2]) (h3 : R (hpOf w) c0.has [v3]) (h4 : R (hpOf w) c0.acked [v4]) (h5 : R (hpOf w) c0.hashes [v5]) (hb2 : blk p2g [.int .i64 c1] 3 (hpOf w)) {r : Bool} (H : peer_Notes_1 a0_i c0 c1 = some r) : Calls Try.prog 43 #[.agg #[.int .i64 a0_i.turn, .int .i64 a0_i.player, v0], .pointer (some ⟨p1g, 0, none⟩), .pointer (some ⟨p2g, 0, none⟩)] w fun e w' => e = .returned (.bool r) ∧ Ext w w' := by
 have hm1 := R_max h1
 obtain ⟨p1, c1, rfl⟩ := R_form h1
 have hm2 := R_max h2
 obtain ⟨p2, c2, rfl⟩ := R_form h2
 have hm3 := R_max h3
 obtain ⟨p3, c3, rfl⟩ := R_form h3
 have hm4 := R_max h4
 obtain ⟨p4, c4, rfl⟩ := R_form h4
 have hm5 := R_max h5
 obtain ⟨p5, c5, rfl⟩ := R_form h5
 unfold peer_Notes_1 at H
 refine T.enter (args := [_, _, _]) (S := Sat w []) Try.func43 rfl rfl (Sat.start w) ?_
 refine T.seq fun K1 hK1 => ?_
 refine T.region ?_
 refine RS.solid (Sd.box (cs := [_, _, _]) rfl rfl) rfl rfl fun b1 => ?_
 refine RS.p (Pu.assign rfl) rfl rfl ?_
 refine RS.nil (hK1 _ _ ?_)
 refine T.seq fun K2 hK2 => ?_
 refine T.drawn (fun _ => True) [(0, .pu), (1, .rd), (2, .pu), (3, .rd), (4, .rd), (5, .pu), (6, .pu), (7, .rd), (8, .pu), (9, .pu), (10, .pu)] mixed (ClE.sat _ _) (by kernel_rfl) ?_
 refine RD.p (fun _ _ => trivial) rfl (Pu.fieldAddr fd35_0 rfl) rfl rfl ?_
 refine RD.q (fun _ _ => trivial) rfl (Qt.ldB 0 ty3 rfl rfl rfl) rfl rfl ?_
 refine RD.p (fun _ _ => trivial) rfl (Pu.fieldAddr fd26_8 rfl) rfl rfl ?_
 refine RD.q (fun _ _ => trivial) rfl (Qt.ldX ty23 rfl hb1 (fun w s => s.ext) rfl) rfl rfl ?_
 refine RD.q (fun _ _ => trivial) rfl (Qt.ldX ty3 rfl hb2 (fun w s => s.ext) rfl) rfl rfl ?_
 obtain ⟨g2, H⟩ := gdE H
 refine RD.p (fun _ _ => trivial) rfl (Pu.subS rfl rfl g2) rfl rfl ?_
 obtain ⟨g3, H⟩ := gdE H
 obtain ⟨bl4, ol5, rfl⟩ := R_ptr h4 (ne_of_pos (pos_of g3))
 refine RD.p (fun _ _ => trivial) rfl (Pu.indexSl sl23 rfl rfl g3) rfl rfl ?_
 refine RD.q (fun _ _ => trivial) rfl (Qt.ld0 (α := Int) (Rd.base h4) ty3 rfl rfl g3 (by rintro _ _ rfl; rfl)) rfl rfl ?_
 obtain ⟨g6, H⟩ := gdE H
 refine RD.p (fun _ _ => trivial) rfl (Pu.addS rfl rfl g6) rfl rfl ?_
 refine RD.p (fun _ _ => trivial) rfl (Pu.bin rfl rfl rfl) rfl rfl ?_
 refine RD.p (fun _ _ => trivial) rfl (Pu.assign rfl) rfl rfl ?_
 refine RD.nil (hK2 _ _ (T.conseq (fr' := [(4, _)]) ?_ ⟨rfl, trivial⟩ (fun _ s => s)))
 obtain rfl := Option.some.inj H
 refine T.rt (Cont.ret1 rfl rfl fun w' s => ?_)
 exact ⟨rfl, s.ext⟩
theorem peer_Notes_walk (a0_p : Per) (w : World) {v0 v1 v2 v3 v4 : Value} (h0 : R (hpOf w) a0_p.mine [v0]) (h1 : R (hpOf w) a0_p.inputs [v1]) (h2 : R (hpOf w) a0_p.has [v2]) (h3 : R (hpOf w) a0_p.acked [v3]) (h4 : R (hpOf w) a0_p.hashes [v4]) {r : List Nte × Int} (H : peer_Notes a0_p = some r) : Calls Try.prog 17 #[.agg #[.int .i64 a0_p.id, .int .i64 a0_p.players, .int .i64 a0_p.delay, .int .i64 a0_p.turn, .int .i64 a0_p.said, v0, v1, v2, v3, v4, .bool a0_p.split]] w fun e w' => ∃ q1 : (Option Nat × Nat), e = .returned (.tuple #[rowV q1 r.1.length, .int .i64 r.2]) ∧ Sat w [drow 38 (rowV q1 r.1.length) r.1] w' := by
 have hm0 := R_max h0
 obtain ⟨p0, c0, rfl⟩ := R_form h0
 have hm1 := R_max h1
 obtain ⟨p1, c1, rfl⟩ := R_form h1
 have hm2 := R_max h2
 obtain ⟨p2, c2, rfl⟩ := R_form h2
 have hm3 := R_max h3
 obtain ⟨p3, c3, rfl⟩ := R_form h3
 have hm4 := R_max h4
 obtain ⟨p4, c4, rfl⟩ := R_form h4
 unfold peer_Notes at H
 refine T.enter (args := [_]) (S := Sat w []) Try.func17 rfl rfl (Sat.start w) ?_
 refine T.seq fun K1 hK1 => ?_
 refine T.region ?_
 refine RS.solid (Sd.box (cs := [_, _, _, _, _, _, _, _, _, _, _]) rfl rfl) rfl rfl fun b1 => ?_
 refine RS.p (Pu.assign rfl) rfl rfl ?_
 refine RS.p (Pu.assign rfl) rfl rfl ?_
 refine RS.nil (hK1 _ _ ?_)
 refine T.seq fun K2 hK2 => ?_
 refine T.seq fun K3 hK3 => ?_
 refine T.region ?_
 refine RS.q (Qt.ldBA (us := [_, _, _, _, _, _, _, _, _, _, _]) 0 ty26 rfl rfl rfl rfl) rfl rfl ?_
 obtain ⟨x2, hx2, H⟩ := bindE H
 refine RS.q (Qt.call (vs := [.agg #[.int .i64 a0_p.id, .int .i64 a0_p.players, .int .i64 a0_p.delay, .int .i64 a0_p.turn, .int .i64 a0_p.said, .slice p0 a0_p.mine.length c0, .slice p1 a0_p.inputs.length c1, .slice p2 a0_p.has.length c2, .slice p3 a0_p.acked.length c3, .slice p4 a0_p.hashes.length c4, .bool a0_p.split]]) ent30 rfl fun w s => peer_May_walk a0_p w ((Rd.base h0) w s) ((Rd.base h1) w s) ((Rd.base h2) w s) ((Rd.base h3) w s) ((Rd.base h4) w s) hx2) rfl rfl ?_
 refine RS.p (Pu.not rfl) rfl rfl ?_
 refine RS.nil (hK3 _ _ ?_)
 refine T.cond rfl (fun hc3 => ?_) (fun hc3 => ?_)
 ·have H := ifT hc3 H
  refine T.conseq (fr' := []) ?_ trivial (fun _ s => s)
  refine T.seq fun K4 hK4 => ?_
  refine T.region ?_
  refine RS.p (Pu.assign rfl) rfl rfl ?_
  refine RS.p (Pu.assign rfl) rfl rfl ?_
  refine RS.nil (hK4 _ _ ?_)
  obtain rfl := Option.some.inj H
  refine T.rt (Cont.ret2 rfl rfl rfl fun w' s => ?_)
  exact ⟨(none, 0), rfl, (s.nilRowG (α := Nte) 38).pick [1] (by decide) rfl⟩
 ·have H := ifB hc3 H
  refine T.skip (hK2 _ _ (T.conseq (fr' := [(1, _), (2, _)]) ?_ ⟨rfl, rfl, trivial⟩ (fun _ s => s)))
  refine T.seq fun K5 hK5 => ?_
  refine T.seq fun K6 hK6 => ?_
  refine T.region ?_
  refine RS.solid (Sd.alloc zr3 rfl) rfl rfl fun b4 => ?_
  refine RS.solid (Sd.stB (cs' := [_]) 1 ty3 rfl rfl rfl rfl rfl rfl rfl rfl) rfl rfl fun _ => ?_
  refine RS.nil (hK6 _ _ ?_)
  refine T.joinE (σ := Int × List Nte) (γ := Nat × (Option Nat × Nat)) H (fun s => s) [] trivial (fun (v6, v8) (q7, q9) => [(2, rowV q9 v8.length)]) (fun (v6, v8) (q7, q9) => Sat w [blk b1 [.int .i64 a0_p.id, .int .i64 a0_p.players, .int .i64 a0_p.delay, .int .i64 a0_p.turn, .int .i64 a0_p.said, .slice p0 a0_p.mine.length c0, .slice p1 a0_p.inputs.length c1, .slice p2 a0_p.has.length c2, .slice p3 a0_p.acked.length c3, .slice p4 a0_p.hashes.length c4, .bool a0_p.split] 26, blk q7 [.int .i64 v6] 3, drow 38 (rowV q9 v8.length) v8]) ?_ ?_
  ·rintro ⟨v6, v8⟩ ⟨q7, q9⟩ H
   try dsimp only [Ex.then] at H
   refine Cont.conseq (fr' := [(2, _)]) ?_ ⟨rfl, trivial⟩ (fun _ s => s)
   refine id (hK5 _ _ ?_)
   refine T.seq fun K7 hK7 => ?_
   refine T.region ?_
   refine RS.p (Pu.move rfl) rfl rfl ?_
   refine RS.p (Pu.assign rfl) rfl rfl ?_
   refine RS.p (Pu.assign rfl) rfl rfl ?_
   refine RS.nil (hK7 _ _ ?_)
   obtain rfl := Option.some.inj H
   refine T.rt (Cont.ret2 rfl rfl rfl fun w' s => ?_)
   exact ⟨q9, rfl, s.pick [2] (by decide) rfl⟩
  ·intro z5 hz5 HX5 hJ5
   refine T.block ?_
   refine T.loopA (γ := (Option Nat × Nat) × Nat) hz5 [(1, _)] (fun (l10, v12) (q11, q13) => [(2, rowV q11 l10.length), (4, .pointer (some ⟨q13, 0, none⟩))]) (fun (l10, v12) (q11, q13) => Sat w [blk b1 [.int .i64 a0_p.id, .int .i64 a0_p.players, .int .i64 a0_p.delay, .int .i64 a0_p.turn, .int .i64 a0_p.said, .slice p0 a0_p.mine.length c0, .slice p1 a0_p.inputs.length c1, .slice p2 a0_p.has.length c2, .slice p3 a0_p.acked.length c3, .slice p4 a0_p.hashes.length c4, .bool a0_p.split] 26, blk q13 [.int .i64 v12] 3, drow 38 (rowV q11 l10.length) l10]) ((none, 0), b4) ⟨rfl, trivial⟩ ⟨rfl, rfl, trivial⟩ (fun w s => (s.nilRowG (α := Nte) 38).pick [0, 1, 2] (by decide) rfl) ?_
   rintro ⟨l10, v12⟩ ⟨q11, q13⟩ y14 H hd5 KL5 hL5
   try dsimp only [Ex.then] at H
   refine T.conseq (fr' := [(2, _), (4, _), (1, _)]) ?_ ⟨rfl, rfl, rfl, trivial⟩ (fun _ s => s)
   refine T.seq fun K8 hK8 => ?_
   refine T.seq fun K9 hK9 => ?_
   refine T.region ?_
   refine RS.q (Qt.ldB 1 ty3 rfl rfl rfl) rfl rfl ?_
   refine RS.p (Pu.fieldAddr fd26_1 rfl) rfl rfl ?_
   refine RS.q (Qt.ldB 0 ty3 rfl rfl rfl) rfl rfl ?_
   refine RS.p (Pu.bin rfl rfl rfl) rfl rfl ?_
   refine RS.nil (hK9 _ _ ?_)
   refine T.condP rfl (fun hc15 => ?_) (fun hc15 => ?_)
   ·have H := ifT hc15 H
    refine T.skip (hK8 _ _ (T.conseq (fr' := [(1, _), (2, _), (4, _)]) ?_ ⟨rfl, rfl, rfl, trivial⟩ (fun _ s => s)))
    refine T.seq fun K10 hK10 => ?_
    refine T.block ?_
    refine T.seq fun K11 hK11 => ?_
    refine T.seq fun K12 hK12 => ?_
    refine T.region ?_
    refine RS.q (Qt.ldB 1 ty3 rfl rfl rfl) rfl rfl ?_
    refine RS.p (Pu.fieldAddr fd26_0 rfl) rfl rfl ?_
    refine RS.q (Qt.ldB 0 ty3 rfl rfl rfl) rfl rfl ?_
    refine RS.p (Pu.bin rfl rfl rfl) rfl rfl ?_
    refine RS.nil (hK12 _ _ ?_)
    refine T.condP rfl (fun hc16 => ?_) (fun hc16 => ?_)
    ·have H := ifT hc16 H
     refine T.xt (hK10 _ _ (T.conseq (fr' := [(1, _), (2, _), (4, _)]) ?_ ⟨rfl, rfl, rfl, trivial⟩ (fun _ s => s)))
     refine T.seq fun K13 hK13 => ?_
     refine T.seq fun K14 hK14 => ?_
     refine T.region ?_
     refine RS.q (Qt.ldB 1 ty3 rfl rfl rfl) rfl rfl ?_
     refine RS.nil (hK14 _ _ ?_)
     refine T.region ?_
     refine RS.solid (Sd.alloc zr3 rfl) rfl rfl fun b17 => ?_
     refine RS.solid (Sd.stB (cs' := [_]) 3 ty3 rfl rfl rfl rfl rfl rfl rfl rfl) rfl rfl fun _ => ?_
     refine RS.nil (hK13 _ _ ?_)
     refine T.region ?_
     refine RS.q (Qt.ldB 3 ty3 rfl rfl rfl) rfl rfl ?_
     obtain ⟨g18, H⟩ := gdE H
     refine RS.p (Pu.addS rfl rfl g18) rfl rfl ?_
     refine RS.solid (Sd.stB (cs' := [_]) 3 ty3 rfl rfl rfl rfl rfl rfl rfl rfl) rfl rfl fun _ => ?_
     refine RS.nil (hL5 _ _ (l10, (v12 + 1)) (q11, b17) H ⟨rfl, trivial⟩ ⟨rfl, rfl, trivial⟩ (fun w s => s.pick [0, 3, 2] (by decide) rfl))
    ·have H := ifF hc16 H
     refine T.skip (hK11 _ _ (T.conseq (fr' := [(1, _), (2, _), (4, _)]) ?_ ⟨rfl, rfl, rfl, trivial⟩ (fun _ s => s)))
     refine T.seq fun K15 hK15 => ?_
     refine T.drawn (fun _ => True) [(0, .pu), (1, .rd), (2, .rd), (3, .pu), (4, .pu), (5, .rd), (6, .rd), (7, .pu), (8, .pu), (9, .rd), (10, .pu), (11, .so), (12, .br)] mixed (ClE.sat _ _) (by kernel_rfl) ?_
     refine RD.p (fun _ _ => trivial) rfl (Pu.fieldAddr fd26_0 rfl) rfl rfl ?_
     refine RD.q (fun _ _ => trivial) rfl (Qt.ldB 0 ty3 rfl rfl rfl) rfl rfl ?_
     refine RD.q (fun _ _ => trivial) rfl (Qt.ldB 1 ty3 rfl rfl rfl) rfl rfl ?_
     refine RD.p (fun _ _ => trivial) rfl (Pu.build (cells := [_, _, _]) st35 rfl rfl) rfl rfl ?_
     refine RD.p (fun _ _ => trivial) rfl (Pu.fieldAddr fd26_7 rfl) rfl rfl ?_
     refine RD.q (fun _ _ => trivial) rfl (Qt.ldB 0 ty23 rfl rfl rfl) rfl rfl ?_
     refine RD.q (fun _ _ => trivial) rfl (Qt.ldB 1 ty3 rfl rfl rfl) rfl rfl ?_
     obtain ⟨g19, H⟩ := gdE H
     refine RD.p (fun _ _ => trivial) rfl (Pu.subS rfl rfl g19) rfl rfl ?_
     obtain ⟨g20, H⟩ := gdE H
     obtain ⟨bl21, ol22, rfl⟩ := R_ptr h2 (ne_of_pos (pos_of g20))
     refine RD.p (fun _ _ => trivial) rfl (Pu.indexSl sl23 rfl rfl g20) rfl rfl ?_
     refine RD.q (fun _ _ => trivial) rfl (Qt.ld0 (α := Int) (Rd.base h2) ty3 rfl rfl g20 (by rintro _ _ rfl; rfl)) rfl rfl ?_
     refine RD.p (fun _ _ => trivial) rfl (Pu.build (cells := [_, _, _, _, _, _, _, _]) st38 rfl rfl) rfl rfl ?_
     refine RD.solid rfl (.inl rfl) rfl rfl (Sd.alloc zr38 rfl) (fun _ => ClE.sat _ _) (fun _ _ _ => trivial) (fun _ _ _ s => s.drop1) fun b23 => ?_
     refine RD.solid rfl (.inr rfl) rfl rfl (Sd.stB (cs' := [_, _, _, _, _, _, _, _]) 3 ty38 rfl rfl rfl rfl rfl rfl rfl rfl) (fun _ => ClE.sat _ _) (fun _ _ _ => trivial) (fun h => nomatch h) fun _ => ?_
     refine RD.nil (hK15 _ _ (T.conseq (fr' := [(1, _), (2, _), (4, _), (5, _)]) ?_ ⟨rfl, rfl, rfl, rfl, trivial⟩ (fun _ s => s)))
     refine T.seq fun K16 hK16 => ?_
     refine T.seq fun K17 hK17 => ?_
     refine T.region ?_
     refine RS.p (Pu.fieldAddr fd26_9 rfl) rfl rfl ?_
     refine RS.q (Qt.ldB 0 ty24 rfl rfl rfl) rfl rfl ?_
     refine RS.p (Pu.lenSl sl24 rfl) rfl rfl ?_
     refine RS.p (Pu.assign rfl) rfl rfl ?_
     refine RS.nil (hK17 _ _ (T.conseq (fr' := [(1, _), (2, _), (4, _), (5, _), (6, _)]) ?_ ⟨rfl, rfl, rfl, rfl, rfl, trivial⟩ (fun _ s => s)))
     refine T.seq fun K18 hK18 => ?_
     refine T.region ?_
     refine RS.p (Pu.move rfl) rfl rfl ?_
     refine RS.p (Pu.bin rfl rfl rfl) rfl rfl ?_
     refine RS.nil (hK18 _ _ ?_)
     refine T.joinE (σ := Int × UInt64) (γ := Unit) H (fun s => s) [(1, _), (2, _), (4, _), (5, _)] ⟨rfl, rfl, rfl, rfl, trivial⟩ (fun (v25, v26) _ => []) (fun (v25, v26) _ => Sat w [blk b1 [.int .i64 a0_p.id, .int .i64 a0_p.players, .int .i64 a0_p.delay, .int .i64 a0_p.turn, .int .i64 a0_p.said, .slice p0 a0_p.mine.length c0, .slice p1 a0_p.inputs.length c1, .slice (some ⟨bl21, ol22, none⟩) a0_p.has.length c2, .slice p3 a0_p.acked.length c3, .slice p4 a0_p.hashes.length c4, .bool a0_p.split] 26, blk q13 [.int .i64 v12] 3, drow 38 (rowV q11 l10.length) l10, blk b23 [.int .i64 a0_p.id, .int .i64 v12, .int .i64 (-1), .int .i64 0, .slice none 0 0, .int .i64 v25, .int .u64 (v26.toNat : Int), .int .i64 (gi a0_p.has (v12 - 1))] 38]) ?_ ?_
     ·rintro ⟨v25, v26⟩ ⟨⟩ H
      try dsimp only [Ex.then] at H
      refine Cont.conseq (fr' := [(1, _), (2, _), (4, _), (5, _)]) ?_ ⟨rfl, rfl, rfl, rfl, trivial⟩ (fun _ s => s)
      refine id (hK16 _ _ ?_)
      refine T.seq fun K19 hK19 => ?_
      refine T.seq fun K20 hK20 => ?_
      refine T.region ?_
      refine RS.p (Pu.fieldAddr fd26_5 rfl) rfl rfl ?_
      refine RS.q (Qt.ldB 0 ty22 rfl rfl rfl) rfl rfl ?_
      refine RS.p (Pu.makeFunc rfl) rfl rfl ?_
      obtain ⟨x27, hx27, H⟩ := bindE H
      refine RS.q (Qt.call (vs := [.slice p0 a0_p.mine.length c0, .func (.func 43) #[] #[.pointer (some ⟨b1, 0, none⟩), .pointer (some ⟨q13, 0, none⟩)]]) ent42 rfl fun w s => slices_IndexFunc_walk a0_p.mine (fun y0 => peer_Notes_1 y0 a0_p v12) w ((Rd.base h0) w s) (⟨43, _, rfl, ent43, fun y0 c r w' ⟨_, hc⟩ he hr => by subst hc; exact peer_Notes_1_walk y0 a0_p v12 w' (blk_ext he (blk_of s (k := 0) rfl)) (Enc.mono he.hp ((Rd.base h0) w s)) (Enc.mono he.hp ((Rd.base h1) w s)) (Enc.mono he.hp ((Rd.base h2) w s)) (Enc.mono he.hp ((Rd.base h3) w s)) (Enc.mono he.hp ((Rd.base h4) w s)) (blk_ext he (blk_of s (k := 1) rfl)) hr⟩) hx27) rfl rfl ?_
      refine RS.p (Pu.assign rfl) rfl rfl ?_
      refine RS.nil (hK20 _ _ (T.conseq (fr' := [(1, _), (2, _), (4, _), (5, _), (7, _)]) ?_ ⟨rfl, rfl, rfl, rfl, rfl, trivial⟩ (fun _ s => s)))
      refine T.seq fun K21 hK21 => ?_
      refine T.region ?_
      refine RS.p (Pu.move rfl) rfl rfl ?_
      refine RS.p (Pu.bin rfl rfl rfl) rfl rfl ?_
      refine RS.nil (hK21 _ _ ?_)
      refine T.joinE (σ := Int × Int × List Cmd) (γ := (Option Nat × Nat)) H (fun s => s) [(1, _), (2, _), (4, _), (5, _)] ⟨rfl, rfl, rfl, rfl, trivial⟩ (fun (v29, v30, v31) q32 => []) (fun (v29, v30, v31) q32 => Sat w [blk b1 [.int .i64 a0_p.id, .int .i64 a0_p.players, .int .i64 a0_p.delay, .int .i64 a0_p.turn, .int .i64 a0_p.said, .slice p0 a0_p.mine.length c0, .slice p1 a0_p.inputs.length c1, .slice (some ⟨bl21, ol22, none⟩) a0_p.has.length c2, .slice p3 a0_p.acked.length c3, .slice p4 a0_p.hashes.length c4, .bool a0_p.split] 26, blk q13 [.int .i64 v12] 3, drow 38 (rowV q11 l10.length) l10, blk b23 [.int .i64 a0_p.id, .int .i64 v12, .int .i64 v29, .int .i64 v30, rowV q32 v31.length, .int .i64 v25, .int .u64 (v26.toNat : Int), .int .i64 (gi a0_p.has (v12 - 1))] 38, drow 63 (rowV q32 v31.length) v31]) ?_ ?_
      ·rintro ⟨v29, v30, v31⟩ q32 H
       try dsimp only [Ex.then] at H
       refine Cont.conseq (fr' := [(1, _), (2, _), (4, _), (5, _)]) ?_ ⟨rfl, rfl, rfl, rfl, trivial⟩ (fun _ s => s)
       refine id (hK19 _ _ ?_)
       refine T.region ?_
       refine RS.p (Pu.move rfl) rfl rfl ?_
       refine RS.q (Qt.ldBA (us := [_, _, _, _, _, _, _, _]) 3 ty38 rfl rfl rfl rfl) rfl rfl ?_
       refine RS.solid (Sd.litS (cs := [_, _, _, _, _, _, _, _]) sl56 zr38 rfl rfl rfl rfl rfl) rfl rfl fun b33 => ?_
       obtain ⟨g35, H⟩ := gdE H
       refine RS.solid (Sd.pre (fun w s => (Sat.starAt 4 6 (Sat.starAt 4 7 ((s.noStars).noStars) rfl rfl (by decide)) rfl rfl (by decide))) (Sd.appL (α := Nte) 2 5 4 ([(⟨a0_p.id, v12, (⟨v29, v30, v31⟩ : Inp), v25, v26, (gi a0_p.has (v12 - 1))⟩ : Nte)] : List Nte) rfl rfl rfl (DRF.cons' (α := Nte) (x := (⟨a0_p.id, v12, (⟨v29, v30, v31⟩ : Inp), v25, v26, (gi a0_p.has (v12 - 1))⟩ : Nte)) (fun _ h => ⟨_, rfl, h⟩) DRF.nil') rfl sl56 zr38 rfl rfl rfl rfl g35 (by decide))) rfl rfl fun q34 => ?_
       refine RS.p (Pu.assign rfl) rfl rfl ?_
       refine RS.nil (hK10 _ _ (T.conseq (fr' := [(1, _), (2, _), (4, _)]) ?_ ⟨rfl, rfl, rfl, trivial⟩ (fun _ s => s)))
       refine T.seq fun K22 hK22 => ?_
       refine T.seq fun K23 hK23 => ?_
       refine T.region ?_
       refine RS.q (Qt.ldB 1 ty3 rfl rfl rfl) rfl rfl ?_
       refine RS.nil (hK23 _ _ ?_)
       refine T.region ?_
       refine RS.solid (Sd.alloc zr3 rfl) rfl rfl fun b36 => ?_
       refine RS.solid (Sd.stB (cs' := [_]) 8 ty3 rfl rfl rfl rfl rfl rfl rfl rfl) rfl rfl fun _ => ?_
       refine RS.nil (hK22 _ _ ?_)
       refine T.region ?_
       refine RS.q (Qt.ldB 8 ty3 rfl rfl rfl) rfl rfl ?_
       obtain ⟨g37, H⟩ := gdE H
       refine RS.p (Pu.addS rfl rfl g37) rfl rfl ?_
       refine RS.solid (Sd.stB (cs' := [_]) 8 ty3 rfl rfl rfl rfl rfl rfl rfl rfl) rfl rfl fun _ => ?_
       refine RS.nil (hL5 _ _ ((l10 ++ ([(⟨a0_p.id, v12, (⟨v29, v30, v31⟩ : Inp), v25, v26, (gi a0_p.has (v12 - 1))⟩ : Nte)] : List Nte)), (v12 + 1)) (q34, b36) H ⟨rfl, trivial⟩ ⟨rfl, rfl, trivial⟩ (fun w s => s.pick [0, 8, 2] (by decide) rfl))
      ·intro z28 H HX28 hJ28
       refine T.condP rfl (fun hc38 => ?_) (fun hc38 => ?_)
       ·have H := ifT hc38 H
        refine T.region ?_
        refine RS.p (Pu.fieldAddr fd26_5 rfl) rfl rfl ?_
        refine RS.q (Qt.ldB 0 ty22 rfl rfl rfl) rfl rfl ?_
        refine RS.p (Pu.move rfl) rfl rfl ?_
        obtain ⟨g39, H⟩ := gdE H
        obtain ⟨bl40, ol41, rfl⟩ := R_ptr h0 (ne_of_pos (pos_of g39))
        refine RS.p (Pu.indexSl sl22 rfl rfl g39) rfl rfl ?_
        obtain ⟨c42, hc43, ha44⟩ := R_el (α := Inp) h0 g39
        obtain ⟨u45, rfl, hu45⟩ := hc43
        obtain ⟨p46, cc47, rfl⟩ := R_form hu45
        refine RS.q (Qt.ldZ (cs := [_, _, _]) ty35 rfl ha44 Held.base rfl) rfl rfl ?_
        obtain ⟨x48, hx48, H⟩ := bindE H
        refine RS.solid (Sd.callN (vs := [.agg #[.int .i64 ((gi a0_p.mine x27).turn), .int .i64 ((gi a0_p.mine x27).player), .slice p46 ((gi a0_p.mine x27).commands).length cc47]]) ent40 rfl (fun w s => turns_Own_walk (gi a0_p.mine x27) w ((Rd.base hu45) w s) hx48)) rfl rfl fun q49 => ?_
        refine RS.p (Pu.fieldAddr fd38_2 rfl) rfl rfl ?_
        refine RS.solid (Sd.stB (cs' := [_, _, _, _, _, _, _, _]) 3 ty35 rfl rfl rfl rfl rfl rfl rfl rfl) rfl rfl fun _ => ?_
        obtain rfl := Option.some.inj H
        refine RS.nil (hJ28 _ _ (x48.turn, x48.player, x48.commands) q49 HX28 ⟨rfl, rfl, rfl, rfl, trivial⟩ trivial (fun w s => s))
       ·have H := ifF hc38 H
        obtain rfl := Option.some.inj H
        refine T.skip (hJ28 _ _ ((-1), 0, []) (none, 0) HX28 ⟨rfl, rfl, rfl, rfl, trivial⟩ trivial (fun w s => (s.nilRowG (α := Cmd) 63).pick [0, 1, 2, 3, 4] (by decide) rfl))
     ·intro z24 H HX24 hJ24
      refine T.condP rfl (fun hc50 => ?_) (fun hc50 => ?_)
      ·have H := ifT hc50 H
       refine T.drawnS [0, 1, 2] [(0, .pu), (1, .rd), (2, .pu), (3, .pu), (4, .wk), (5, .pu), (6, .pu), (7, .pu), (8, .wk), (9, .pu), (10, .br), (11, .pu), (12, .br)] mixed (by kernel_rfl) rfl ?_
       refine RD.p (fun w s => s.pick [0, 1, 2] (by decide) rfl) rfl (Pu.fieldAddr fd26_3 rfl) rfl rfl ?_
       refine RD.q (fun w s => s.pick [0, 1, 2] (by decide) rfl) rfl (Qt.ldB 0 ty3 rfl rfl rfl) rfl rfl ?_
       obtain ⟨g51, H⟩ := gdE H
       refine RD.p (fun w s => s.pick [0, 1, 2] (by decide) rfl) rfl (Pu.subS rfl rfl g51) rfl rfl ?_
       refine RD.p (fun w s => s.pick [0, 1, 2] (by decide) rfl) rfl (Pu.fieldAddr fd26_9 rfl) rfl rfl ?_
       refine RD.w (fun w s => s.pick [0, 1, 2] (by decide) rfl) rfl (Qt.ldB 0 ty24 rfl rfl rfl) rfl rfl ?_
       refine RD.p (fun w s => s.pick [0, 1, 2] (by decide) rfl) rfl (Pu.move rfl) rfl rfl ?_
       obtain ⟨g52, H⟩ := gdE H
       refine RD.p (fun w s => s.pick [0, 1, 2] (by decide) rfl) rfl (Pu.subS rfl rfl g52) rfl rfl ?_
       obtain ⟨g53, H⟩ := gdE H
       obtain ⟨bl54, ol55, rfl⟩ := R_ptr h4 (ne_of_pos (pos_of g53))
       refine RD.p (fun w s => s.pick [0, 1, 2] (by decide) rfl) rfl (Pu.indexSl sl24 rfl rfl g53) rfl rfl ?_
       refine RD.w (fun w s => s.pick [0, 1, 2] (by decide) rfl) rfl (Qt.ld0 (α := UInt64) (Rd.base h4) ty36 rfl rfl g53 (by rintro _ _ rfl; rfl)) rfl rfl ?_
       refine RD.p (fun w s => s.pick [0, 1, 2] (by decide) rfl) rfl (Pu.fieldAddr fd38_3 rfl) rfl rfl ?_
       refine RD.solid rfl (.inr rfl) rfl rfl (Sd.stB (cs' := [_, _, _, _, _, _, _, _]) 3 ty3 rfl rfl rfl rfl rfl rfl rfl rfl) (fun _ => ClE.sat _ _) (fun _ w s => s.pick [0, 1, 2] (by decide) rfl) (fun h => nomatch h) fun _ => ?_
       refine RD.p (fun w s => s.pick [0, 1, 2] (by decide) rfl) rfl (Pu.fieldAddr fd38_4 rfl) rfl rfl ?_
       refine RD.solid rfl (.inr rfl) rfl rfl (Sd.stB (cs' := [_, _, _, _, _, _, _, _]) 3 ty36 rfl rfl rfl rfl rfl rfl rfl rfl) (fun _ => ClE.sat _ _) (fun _ w s => s.pick [0, 1, 2] (by decide) rfl) (fun h => nomatch h) fun _ => ?_
       obtain rfl := Option.some.inj H
       refine RD.nil (hJ24 _ _ ((a0_p.turn - 1), (gi a0_p.hashes ((a0_p.hashes.length : Int) - 1))) () HX24 ⟨rfl, rfl, rfl, rfl, trivial⟩ trivial (fun w s => s))
      ·have H := ifF hc50 H
       obtain rfl := Option.some.inj H
       refine T.skip (hJ24 _ _ ((-1), (0 : UInt64)) () HX24 ⟨rfl, rfl, rfl, rfl, trivial⟩ trivial (fun w s => s))
   ·have H := ifF hc15 H
    obtain rfl := hd5 _ H
    refine T.xt (hJ5 _ _ (v12, l10) (q13, q11) HX5 trivial ⟨rfl, trivial⟩ (fun w s => s))
theorem thronglaw28_num_walk (a0_e : Int) (w : World) {r : Int} (H : thronglaw28_num a0_e = some r) : Calls Try.prog 13 #[.int .i64 a0_e] w fun e w' => e = .returned (.int .i64 r) ∧ Ext w w' := by
 unfold thronglaw28_num at H
 refine T.enter (args := [_]) (S := Sat w []) Try.func13 rfl rfl (Sat.start w) ?_
 refine T.seq fun K1 hK1 => ?_
 refine T.region ?_
 refine RS.p (Pu.assign rfl) rfl rfl ?_
 refine RS.nil (hK1 _ _ ?_)
 refine T.seq fun K2 hK2 => ?_
 refine T.region ?_
 refine RS.p (Pu.move rfl) rfl rfl ?_
 refine RS.p (Pu.assign rfl) rfl rfl ?_
 refine RS.nil (hK2 _ _ ?_)
 obtain rfl := Option.some.inj H
 refine T.rt (Cont.ret1 rfl rfl fun w' s => ?_)
 exact ⟨rfl, s.ext⟩
theorem thronglaw28_wakes_walk (w : World) {r : Bool} (H : thronglaw28_wakes = some r) : Calls Try.prog 15 #[] w fun e w' => e = .returned (.bool r) ∧ Ext w w' := by
 unfold thronglaw28_wakes at H
 refine T.enter (args := []) (S := Sat w []) Try.func15 rfl rfl (Sat.start w) ?_
 refine T.seq fun K1 hK1 => ?_
 refine T.region ?_
 refine RS.p (Pu.assign rfl) rfl rfl ?_
 refine RS.nil (hK1 _ _ ?_)
 refine T.seq fun K2 hK2 => ?_
 refine T.region ?_
 obtain ⟨x1, hx1, H⟩ := bindE H
 refine RS.solid (Sd.callN (vs := [.int .i64 1, .int .i64 1, .int .i64 1]) ent16 rfl (fun w s => peer_New_walk 1 1 1 w  hx1)) rfl rfl fun ⟨q2, q3, q4, q5, q6⟩ => ?_
 refine RS.p (Pu.move rfl) rfl rfl ?_
 refine RS.p (Pu.extract rfl rfl) rfl rfl ?_
 refine RS.p (Pu.extract rfl rfl) rfl rfl ?_
 refine RS.solid (Sd.alloc zr26 rfl) rfl rfl fun b7 => ?_
 refine RS.solid (Sd.stB (cs' := [_, _, _, _, _, _, _, _, _, _, _]) 5 ty26 rfl rfl rfl rfl rfl rfl rfl rfl) rfl rfl fun _ => ?_
 refine RS.p (Pu.assign rfl) rfl rfl ?_
 refine RS.nil (hK2 _ _ (T.conseq (fr' := [(1, _), (2, _)]) ?_ ⟨rfl, rfl, trivial⟩ (fun _ s => s)))
 refine T.seq fun K3 hK3 => ?_
 refine T.region ?_
 refine RS.q (Qt.ldBA (us := [_, _, _, _, _, _, _, _, _, _, _]) 5 ty26 rfl rfl rfl rfl) rfl rfl ?_
 obtain ⟨x8, hx8, H⟩ := bindE H
 refine RS.solid (Sd.callN (vs := [.agg #[.int .i64 x1.1.id, .int .i64 x1.1.players, .int .i64 x1.1.delay, .int .i64 x1.1.turn, .int .i64 x1.1.said, rowV q2 x1.1.mine.length, rowV q3 x1.1.inputs.length, rowV q4 x1.1.has.length, rowV q5 x1.1.acked.length, rowV q6 x1.1.hashes.length, .bool x1.1.split]]) ent18 rfl (fun w s => peer_Ready_walk x1.1 w ((Rd.ofG 0 rfl) w s) ((Rd.ofG 1 rfl) w s) ((Rd.ofRowN 2 rfl) w s) ((Rd.ofRowN 3 rfl) w s) ((Rd.ofRowN 4 rfl) w s) hx8)) rfl rfl fun q9 => ?_
 refine RS.p (Pu.move rfl) rfl rfl ?_
 refine RS.p (Pu.extract rfl rfl) rfl rfl ?_
 refine RS.p (Pu.extract rfl rfl) rfl rfl ?_
 refine RS.p (Pu.extract rfl rfl) rfl rfl ?_
 refine RS.p (Pu.assign rfl) rfl rfl ?_
 refine RS.p (Pu.assign rfl) rfl rfl ?_
 refine RS.p (Pu.assign rfl) rfl rfl ?_
 refine RS.nil (hK3 _ _ (T.conseq (fr' := [(2, _), (3, _), (4, _), (5, _)]) ?_ ⟨rfl, rfl, rfl, rfl, trivial⟩ (fun _ s => s)))
 refine T.seq fun K4 hK4 => ?_
 try dsimp only [List.set, List.cons_append, List.nil_append]
 refine T.region ?_
 refine RS.p (Pu.move rfl) rfl rfl ?_
 obtain ⟨x10, hx10, H⟩ := bindE H
 refine RS.q (Qt.call (vs := [.int .i64 x1.2]) ent13 rfl fun w s => thronglaw28_num_walk x1.2 w  hx10) rfl rfl ?_
 refine RS.p (Pu.bin rfl rfl rfl) rfl rfl ?_
 refine RS.p (Pu.move rfl) rfl rfl ?_
 refine RS.joinB H 4 23 (fun b13 => .bool b13) [(3, _), (4, _)] ⟨rfl, rfl, trivial⟩ ?_ ?_
 ·intro b13 H
  refine RS.p (Pu.move rfl) rfl rfl ?_
  refine RS.joinV 2 26 (.bool (decide ((b13 = true) ∧ (x8.2.1 = true)))) [(3, _)] ⟨rfl, trivial⟩ ?_ ?_
  ·refine RS.p (Pu.move rfl) rfl rfl ?_
   refine RS.joinV 4 31 (.bool (decide (((b13 = true) ∧ (x8.2.1 = true)) ∧ ((x8.1.length : Int) = 0)))) [] trivial ?_ ?_
   ·refine RS.p (Pu.assign rfl) rfl rfl ?_
    refine RS.nil (hK4 _ _ ?_)
    obtain rfl := Option.some.inj H
    try dsimp only [List.set, List.cons_append, List.nil_append]
    refine T.rt (Cont.ret1 rfl rfl fun w' s => ?_)
    exact ⟨rfl, s.ext⟩
   ·intro hJ17
    refine RS.splitP 27 rfl (fun hc16 => ?_) (fun hc16 => ?_)
    ·refine RS.p (Pu.move rfl) rfl rfl ?_
     refine RS.p (Pu.lenSl sl33 rfl) rfl rfl ?_
     refine RS.p (Pu.bin rfl rfl rfl) rfl rfl ?_
     refine RS.p (Pu.pickT rfl rfl) rfl rfl ?_
     exact hJ17 _ _ ⟨dAndT hc16, trivial⟩ (fun w s => s)
    ·refine RS.no rfl rfl ?_
     refine RS.no rfl rfl ?_
     refine RS.no rfl rfl ?_
     refine RS.p (Pu.pickF rfl rfl) rfl rfl ?_
     exact hJ17 _ _ ⟨dAndF hc16, trivial⟩ (fun w s => s)
  ·intro hJ15
   refine RS.split 24 rfl (fun hc14 => ?_) (fun hc14 => ?_)
   ·refine RS.p (Pu.move rfl) rfl rfl ?_
    refine RS.p (Pu.pickT rfl rfl) rfl rfl ?_
    exact hJ15 _ _ ⟨dAndTB hc14, rfl, trivial⟩ (fun w s => s)
   ·refine RS.no rfl rfl ?_
    refine RS.p (Pu.pickF rfl rfl) rfl rfl ?_
    exact hJ15 _ _ ⟨dAndF (bne_of hc14), rfl, trivial⟩ (fun w s => s)
 ·intro z18 H hJ12
  refine RS.splitP 19 rfl (fun hc11 => ?_) (fun hc11 => ?_)
  ·have H := ifT hc11 H
   refine RS.p (Pu.move rfl) rfl rfl ?_
   obtain ⟨x19, hx19, H⟩ := bindE H
   refine RS.q (Qt.call (vs := [.int .i64 x8.2.2]) ent13 rfl fun w s => thronglaw28_num_walk x8.2.2 w  hx19) rfl rfl ?_
   refine RS.p (Pu.bin rfl rfl rfl) rfl rfl ?_
   refine RS.p (Pu.pickT rfl rfl) rfl rfl ?_
   obtain rfl := Option.some.inj H
   exact hJ12 _ _ ⟨rfl, rfl, rfl, trivial⟩ (fun w s => s)
  ·have H := ifF hc11 H
   refine RS.no rfl rfl ?_
   refine RS.no rfl rfl ?_
   refine RS.no rfl rfl ?_
   refine RS.p (Pu.pickF rfl rfl) rfl rfl ?_
   obtain rfl := Option.some.inj H
   exact hJ12 _ _ ⟨rfl, rfl, rfl, trivial⟩ (fun w s => s)
end Go.Proofs.Ytnadebijiaelkaa
