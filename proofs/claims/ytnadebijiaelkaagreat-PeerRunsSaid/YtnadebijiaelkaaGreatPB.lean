/-
  Walks of the peers' functions: copies, what the page asks.
-/
import Derived.Test.YtnadebijiaelkaaGreatRows
import Derived.Test.YtnadebijiaelkaaGreatW3
import Derived.Test.YtnadebijiaelkaaGreatPA
import Derived.Test.YtnadebijiaelkaaGreatW5
set_option linter.unusedVariables false
set_option linter.unusedSimpArgs false
set_option maxRecDepth 20000
set_option maxHeartbeats 4000000
namespace Go.Proofs.YtnadebijiaelkaaGreat
open Go.Vg
open Enc (R)
theorem ent12 : Ent Tryz.prog 12 := ⟨_, _, Tryz.func12, by kernel_rfl, rfl⟩
theorem ent17 : Ent Tryz.prog 17 := ⟨_, _, Tryz.func17, by kernel_rfl, rfl⟩
theorem ent19 : Ent Tryz.prog 19 := ⟨_, _, Tryz.func19, by kernel_rfl, rfl⟩
theorem ent21 : Ent Tryz.prog 21 := ⟨_, _, Tryz.func21, by kernel_rfl, rfl⟩
theorem ent23 : Ent Tryz.prog 23 := ⟨_, _, Tryz.func23, by kernel_rfl, rfl⟩
theorem ent25 : Ent Tryz.prog 25 := ⟨_, _, Tryz.func25, by kernel_rfl, rfl⟩
theorem ent27 : Ent Tryz.prog 27 := ⟨_, _, Tryz.func27, by kernel_rfl, rfl⟩
theorem ent30 : Ent Tryz.prog 30 := ⟨_, _, Tryz.func30, by kernel_rfl, rfl⟩
theorem ent32 : Ent Tryz.prog 32 := ⟨_, _, Tryz.func32, by kernel_rfl, rfl⟩
theorem ent50 : Ent Tryz.prog 50 := ⟨_, _, Tryz.func50, by kernel_rfl, rfl⟩
theorem ent51 : Ent Tryz.prog 51 := ⟨_, _, Tryz.func51, by kernel_rfl, rfl⟩
theorem ent59 : Ent Tryz.prog 59 := ⟨_, _, Tryz.func59, by kernel_rfl, rfl⟩
theorem ent84 : Ent Tryz.prog 84 := ⟨_, _, Tryz.func84, by kernel_rfl, rfl⟩
theorem fd29_0 : fdOff Tryz.prog 29 0 = some 0 := by kernel_rfl
theorem fd29_1 : fdOff Tryz.prog 29 1 = some 11 := by kernel_rfl
theorem fd46_1 : fdOff Tryz.prog 46 1 = some 1 := by kernel_rfl
theorem fd46_2 : fdOff Tryz.prog 46 2 = some 2 := by kernel_rfl
theorem fd46_3 : fdOff Tryz.prog 46 3 = some 10 := by kernel_rfl
theorem fd46_4 : fdOff Tryz.prog 46 4 = some 11 := by kernel_rfl
theorem sl27 : slTy Tryz.prog 27 = some (46, 12, 128) := by kernel_rfl
theorem ty27 : tySz Tryz.prog 27 = some (1, false) := by kernel_rfl
theorem throngref0_CopyHashes_walk (a0_l : List UInt64) (w : World) {v0 : Value} (h0 : R (hpOf w) a0_l [v0]) {r : List UInt64} (H : throngref0_CopyHashes a0_l = some r) : Calls Tryz.prog 21 #[v0] w fun e w' => ∃ q1 : (Option Nat × Nat), e = .returned (rowV q1 r.length) ∧ Sat w [row nilH 42 (rowV q1 r.length) r] w' := by
 have hm0 := R_max h0
 obtain ⟨p0, c0, rfl⟩ := R_form h0
 unfold throngref0_CopyHashes at H
 refine T.enter (args := [_]) (S := Sat w []) Tryz.func21 rfl rfl (Sat.start w) ?_
 refine T.seq fun K1 hK1 => T.region (rA rfl (RS.nil (hK1 _ _ ?_)))
 refine T.seq fun K2 hK2 => T.region (rA rfl (RS.nil (hK2 _ _ ?_)))
 refine T.seq fun K3 hK3 => T.seq fun K4 hK4 => T.region (rA rfl (RS.nil (hK4 _ _ ?_)))
 refine T.joinE (σ := List UInt64) (γ := (Option Nat × Nat)) H (fun s => s) [] trivial (fun v2 q3 => [(3, rowV q3 v2.length)]) (fun v2 q3 => Sat w [row nilH 42 (rowV q3 v2.length) v2]) ?_ ?_
 ·rintro v2 q3 H
  try dsimp only [Ex.then] at H
  refine Cont.conseq (fr' := [(3, _)]) ?_ ⟨rfl, trivial⟩ (fun _ s => s)
  refine id (hK3 _ _ ?_)
  refine T.seq fun K5 hK5 => T.region (rM rfl (rA rfl (RS.nil (hK5 _ _ ?_))))
  obtain rfl := sj H
  refine T.rt (Cont.ret1 rfl rfl fun w' s => ?_)
  exact ⟨q3, rfl, s.pick [0] (by decide) rfl⟩
 ·intro z1 hz1 HX1 hJ1
  refine T.block ?_
  refine T.loopA (γ := (Option Nat × Nat)) hz1 [(0, _)] (fun (l4, v6) q5 => [(3, rowV q5 l4.length), (4, .int .i64 v6)]) (fun (l4, v6) q5 => Sat w [row nilH 42 (rowV q5 l4.length) l4]) (none, 0) ⟨rfl, trivial⟩ ⟨rfl, rfl, trivial⟩ (fun w s => (s.nilRow (α := UInt64) 42).pick [0] (by decide) rfl) ?_
  rintro ⟨l4, v6⟩ q5 y7 H hd1 KL1 hL1
  try dsimp only [Ex.then] at H
  refine cq [(3, _), (4, _), (0, _)] ?_
  refine T.seq fun K6 hK6 => T.seq fun K7 hK7 => T.region (rM rfl (rM rfl (rp (Pu.lenSl sl24 rfl) (rp (Pu.bin rfl rfl rfl) (RS.nil (hK7 _ _ ?_))))))
  refine T.condP rfl (fun hc8 => ?_) (fun hc8 => ?_)
  ·have H := ifT hc8 H
   refine T.skip (hK6 _ _ (cq [(0, _), (3, _), (4, _)] ?_))
   refine T.seq fun K8 hK8 => T.block (T.region (rM rfl (rM rfl (rM rfl ?_))))
   obtain ⟨g9, H⟩ := gdE H
   obtain ⟨bl10, ol11, rfl⟩ := R_ptr h0 (ne_of_pos (pos_of g9))
   refine rp (Pu.indexSl sl24 rfl rfl g9) (rq (Qt.ld0 (α := UInt64) (Rd.base h0) ty42 rfl rfl g9 (by rintro _ _ rfl; rfl)) (RS.solid (Sd.litS (cs := [_]) sl24 zr42 rfl rfl rfl rfl rfl) rfl rfl fun b12 => ?_))
   obtain ⟨g14, H⟩ := gdE H
   refine RS.solid (Sd.app1c (α := UInt64) 0 1 (gi a0_l v6) rfl rfl (nilH_lt _) sl24 zr42 rfl rfl rfl rfl g14 (by decide)) rfl rfl fun q13 => rA rfl (RS.nil (hK8 _ _ (cq [(0, _), (3, _), (4, _)] ?_)))
   refine T.region (rM rfl ?_)
   obtain ⟨g15, H⟩ := gdE H
   refine rp (Pu.addS rfl rfl g15) (rA rfl (RS.nil (hL1 _ _ ((l4 ++ [(gi a0_l v6)]), (v6 + 1)) q13 H ⟨rfl, trivial⟩ ⟨rfl, rfl, trivial⟩ (fun w s => s.pick [0] (by decide) rfl))))
  ·have H := ifF hc8 H
   obtain rfl := hd1 _ H
   refine T.xt (hJ1 _ _ l4 q5 HX1 trivial ⟨rfl, trivial⟩ (fun w s => s))
theorem throngref0_EqNote_walk (a0_a : Nte) (a1_b : Nte) (w : World) {v0 v1 : Value} (h0 : R (hpOf w) a0_a.input.commands [v0]) (h1 : R (hpOf w) a1_b.input.commands [v1]) {r : Bool} (H : throngref0_EqNote a0_a a1_b = some r) : Calls Tryz.prog 32 #[.agg #[.int .i64 a0_a.frm, .int .i64 a0_a.dst, .int .i64 a0_a.input.turn, .int .i64 a0_a.input.player, v0, .int .i64 a0_a.don, .int .u64 (a0_a.hash.toNat : Int), .int .i64 a0_a.hav], .agg #[.int .i64 a1_b.frm, .int .i64 a1_b.dst, .int .i64 a1_b.input.turn, .int .i64 a1_b.input.player, v1, .int .i64 a1_b.don, .int .u64 (a1_b.hash.toNat : Int), .int .i64 a1_b.hav]] w fun e w' => e = .returned (.bool r) ∧ Ext w w' := by
 have hm0 := R_max h0
 obtain ⟨p0, c0, rfl⟩ := R_form h0
 have hm1 := R_max h1
 obtain ⟨p1, c1, rfl⟩ := R_form h1
 unfold throngref0_EqNote at H
 refine T.enter (args := [_, _]) (S := Sat w []) Tryz.func32 rfl rfl (Sat.start w) ?_
 refine T.seq fun K1 hK1 => T.region (RS.solid (Sd.box (cs := [_, _, _, _, _, _, _, _]) rfl rfl) rfl rfl fun b1 => RS.solid (Sd.box (cs := [_, _, _, _, _, _, _, _]) rfl rfl) rfl rfl fun b2 => rA rfl (RS.nil (hK1 _ _ (cq [(2, _), (3, _)] ?_))))
 refine T.seq fun K2 hK2 => T.region (rp (Pu.fieldAddr fd44_0 rfl) (rq (Qt.ldB 0 ty3 rfl rfl rfl) (rp (Pu.fieldAddr fd44_0 rfl) (rq (Qt.ldB 1 ty3 rfl rfl rfl) (rp (Pu.bin rfl rfl rfl) (rM rfl ?_))))))
 refine RS.joinV 6 16 (.bool (decide ((a0_a.frm = a1_b.frm) ∧ (a0_a.dst = a1_b.dst)))) [(2, _), (3, _)] ⟨rfl, rfl, trivial⟩ ?_ ?_
 ·refine rM rfl ?_
  refine RS.joinB H 6 23 (fun b7 => .bool b7) [(2, _), (3, _)] ⟨rfl, rfl, trivial⟩ ?_ ?_
  ·intro b7 H
   refine rM rfl ?_
   refine RS.joinV 6 30 (.bool (decide ((b7 = true) ∧ (a0_a.don = a1_b.don)))) [(2, _), (3, _)] ⟨rfl, rfl, trivial⟩ ?_ ?_
   ·refine rM rfl ?_
    refine RS.joinV 6 37 (.bool (decide (((b7 = true) ∧ (a0_a.don = a1_b.don)) ∧ ((a0_a.hash.toNat : Int) = (a1_b.hash.toNat : Int))))) [(2, _), (3, _)] ⟨rfl, rfl, trivial⟩ ?_ ?_
    ·refine rM rfl ?_
     refine RS.joinV 6 44 (.bool (decide ((((b7 = true) ∧ (a0_a.don = a1_b.don)) ∧ ((a0_a.hash.toNat : Int) = (a1_b.hash.toNat : Int))) ∧ (a0_a.hav = a1_b.hav)))) [] trivial ?_ ?_
     ·refine rA rfl (RS.nil (hK2 _ _ ?_))
      obtain rfl := sj H
      refine T.rt (Cont.ret1 rfl rfl fun w' s => ?_)
      exact ⟨rfl, s.ext⟩
     ·intro hJ13
      refine RS.splitP 38 rfl (fun hc12 => ?_) (fun hc12 => ?_)
      ·refine rp (Pu.fieldAddr fd44_5 rfl) (rq (Qt.ldB 0 ty3 rfl rfl rfl) (rp (Pu.fieldAddr fd44_5 rfl) (rq (Qt.ldB 1 ty3 rfl rfl rfl) (rp (Pu.bin rfl rfl rfl) (rp (Pu.pickT rfl rfl) ?_)))))
       exact hJ13 _ _ ⟨dAndT hc12, trivial⟩ (fun w s => s)
      ·refine ro (ro (ro (ro (ro (rp (Pu.pickF rfl rfl) ?_)))))
       exact hJ13 _ _ ⟨dAndF hc12, trivial⟩ (fun w s => s)
    ·intro hJ11
     refine RS.splitP 31 rfl (fun hc10 => ?_) (fun hc10 => ?_)
     ·refine rp (Pu.fieldAddr fd44_4 rfl) (rq (Qt.ldB 0 ty42 rfl rfl rfl) (rp (Pu.fieldAddr fd44_4 rfl) (rq (Qt.ldB 1 ty42 rfl rfl rfl) (rp (Pu.bin rfl rfl rfl) (rp (Pu.pickT rfl rfl) ?_)))))
      exact hJ11 _ _ ⟨dAndT hc10, rfl, rfl, trivial⟩ (fun w s => s)
     ·refine ro (ro (ro (ro (ro (rp (Pu.pickF rfl rfl) ?_)))))
      exact hJ11 _ _ ⟨dAndF hc10, rfl, rfl, trivial⟩ (fun w s => s)
   ·intro hJ9
    refine RS.split 24 rfl (fun hc8 => ?_) (fun hc8 => ?_)
    ·refine rp (Pu.fieldAddr fd44_3 rfl) (rq (Qt.ldB 0 ty3 rfl rfl rfl) (rp (Pu.fieldAddr fd44_3 rfl) (rq (Qt.ldB 1 ty3 rfl rfl rfl) (rp (Pu.bin rfl rfl rfl) (rp (Pu.pickT rfl rfl) ?_)))))
     exact hJ9 _ _ ⟨dAndT hc8, rfl, rfl, trivial⟩ (fun w s => s)
    ·refine ro (ro (ro (ro (ro (rp (Pu.pickF rfl rfl) ?_)))))
     exact hJ9 _ _ ⟨dAndF (bne_of hc8), rfl, rfl, trivial⟩ (fun w s => s)
  ·intro z14 H hJ6
   refine RS.splitP 17 rfl (fun hc5 => ?_) (fun hc5 => ?_)
   ·have H := ifT hc5 H
    refine rp (Pu.fieldAddr fd44_2 rfl) (rq (Qt.ldBA (us := [_, _, _]) 0 ty41 rfl rfl rfl rfl) (rp (Pu.fieldAddr fd44_2 rfl) (rq (Qt.ldBA (us := [_, _, _]) 1 ty41 rfl rfl rfl rfl) ?_)))
    obtain ⟨x15, hx15, H⟩ := bindE H
    refine rq (Qt.call (vs := [.agg #[.int .i64 a0_a.input.turn, .int .i64 a0_a.input.player, .slice p0 a0_a.input.commands.length c0], .agg #[.int .i64 a1_b.input.turn, .int .i64 a1_b.input.player, .slice p1 a1_b.input.commands.length c1]]) ent65 rfl fun w s => throngref0_EqInput_walk a0_a.input a1_b.input w ((Rd.base h0) w s) ((Rd.base h1) w s) hx15) (rp (Pu.pickT rfl rfl) ?_)
    obtain rfl := sj H
    exact hJ6 _ _ ⟨rfl, rfl, rfl, trivial⟩ (fun w s => s)
   ·have H := ifF hc5 H
    refine ro (ro (ro (ro (ro (rp (Pu.pickF rfl rfl) ?_)))))
    obtain rfl := sj H
    exact hJ6 _ _ ⟨rfl, rfl, rfl, trivial⟩ (fun w s => s)
 ·intro hJ4
  refine RS.splitP 10 rfl (fun hc3 => ?_) (fun hc3 => ?_)
  ·refine rp (Pu.fieldAddr fd44_1 rfl) (rq (Qt.ldB 0 ty3 rfl rfl rfl) (rp (Pu.fieldAddr fd44_1 rfl) (rq (Qt.ldB 1 ty3 rfl rfl rfl) (rp (Pu.bin rfl rfl rfl) (rp (Pu.pickT rfl rfl) ?_)))))
   exact hJ4 _ _ ⟨dAndT hc3, rfl, rfl, trivial⟩ (fun w s => s)
  ·refine ro (ro (ro (ro (ro (rp (Pu.pickF rfl rfl) ?_)))))
   exact hJ4 _ _ ⟨dAndF hc3, rfl, rfl, trivial⟩ (fun w s => s)
theorem throngref0_CopyNote_walk (a0_a : Nte) (w : World) {v0 : Value} (h0 : R (hpOf w) a0_a.input.commands [v0]) {r : Nte} (H : throngref0_CopyNote a0_a = some r) : Calls Tryz.prog 30 #[.agg #[.int .i64 a0_a.frm, .int .i64 a0_a.dst, .int .i64 a0_a.input.turn, .int .i64 a0_a.input.player, v0, .int .i64 a0_a.don, .int .u64 (a0_a.hash.toNat : Int), .int .i64 a0_a.hav]] w fun e w' => ∃ q1 : (Option Nat × Nat), e = .returned (.agg #[.int .i64 r.frm, .int .i64 r.dst, .int .i64 r.input.turn, .int .i64 r.input.player, rowV q1 r.input.commands.length, .int .i64 r.don, .int .u64 (r.hash.toNat : Int), .int .i64 r.hav]) ∧ Sat w [drow 88 (rowV q1 r.input.commands.length) r.input.commands] w' := by
 have hm0 := R_max h0
 obtain ⟨p0, c0, rfl⟩ := R_form h0
 unfold throngref0_CopyNote at H
 refine T.enter (args := [_]) (S := Sat w []) Tryz.func30 rfl rfl (Sat.start w) ?_
 refine T.seq fun K1 hK1 => T.region (RS.solid (Sd.box (cs := [_, _, _, _, _, _, _, _]) rfl rfl) rfl rfl fun b1 => RS.solid (Sd.alloc zr44 rfl) rfl rfl fun b2 => RS.nil (hK1 _ _ ?_))
 refine T.seq fun K2 hK2 => T.region (rq (Qt.ldBA (us := [_, _, _, _, _, _, _, _]) 0 ty44 rfl rfl rfl rfl) (RS.solid (Sd.alloc zr44 rfl) rfl rfl fun b3 => RS.solid (Sd.stB (cs' := [_, _, _, _, _, _, _, _]) 2 ty44 rfl rfl rfl rfl rfl rfl rfl rfl) rfl rfl fun _ => RS.nil (hK2 _ _ ?_)))
 refine T.seq fun K3 hK3 => T.region (rp (Pu.fieldAddr fd44_2 rfl) (rq (Qt.ldBA (us := [_, _, _]) 0 ty41 rfl rfl rfl rfl) ?_))
 obtain ⟨x4, hx4, H⟩ := bindE H
 refine RS.solid (Sd.callN (vs := [.agg #[.int .i64 a0_a.input.turn, .int .i64 a0_a.input.player, .slice p0 a0_a.input.commands.length c0]]) ent49 rfl (fun w s => throngref0_CopyInput_walk a0_a.input w ((Rd.base h0) w s) hx4)) rfl rfl fun q5 => rp (Pu.fieldAddr fd44_2 rfl) (RS.solid (Sd.stB (cs' := [_, _, _, _, _, _, _, _]) 2 ty41 rfl rfl rfl rfl rfl rfl rfl rfl) rfl rfl fun _ => RS.nil (hK3 _ _ (cq [(2, _), (3, _)] ?_)))
 refine T.seq fun K4 hK4 => T.region (rq (Qt.ldBA (us := [_, _, _, _, _, _, _, _]) 2 ty44 rfl rfl rfl rfl) (RS.solid (Sd.stB (cs' := [_, _, _, _, _, _, _, _]) 1 ty44 rfl rfl rfl rfl rfl rfl rfl rfl) rfl rfl fun _ => RS.nil (hK4 _ _ ?_)))
 obtain rfl := sj H
 refine T.rt (Cont.retC 1 rfl ty44 rfl rfl rfl fun w' s => ?_)
 exact ⟨q5, rfl, s.pick [3] (by decide) rfl⟩
theorem throngref0_EqNotes_walk (a0_a : List Nte) (a1_b : List Nte) (w : World) {v0 v1 : Value} (h0 : R (hpOf w) a0_a [v0]) (h1 : R (hpOf w) a1_b [v1]) {r : Bool} (H : throngref0_EqNotes a0_a a1_b = some r) : Calls Tryz.prog 36 #[v0, v1] w fun e w' => e = .returned (.bool r) ∧ Ext w w' := by
 have hm0 := R_max h0
 obtain ⟨p0, c0, rfl⟩ := R_form h0
 have hm1 := R_max h1
 obtain ⟨p1, c1, rfl⟩ := R_form h1
 unfold throngref0_EqNotes at H
 refine T.enter (args := [_, _]) (S := Sat w []) Tryz.func36 rfl rfl (Sat.start w) ?_
 refine T.seq fun K1 hK1 => T.region (rA rfl (RS.nil (hK1 _ _ ?_)))
 refine T.seq fun K2 hK2 => T.seq fun K3 hK3 => T.region (rM rfl (rp (Pu.lenSl sl66 rfl) (rM rfl (rp (Pu.lenSl sl66 rfl) (rp (Pu.bin rfl rfl rfl) (RS.nil (hK3 _ _ ?_)))))))
 refine T.condP rfl (fun hc1 => ?_) (fun hc1 => ?_)
 ·have H := ifT hc1 H
  refine cq [] ?_
  refine T.seq fun K4 hK4 => T.region (rA rfl (RS.nil (hK4 _ _ ?_)))
  obtain rfl := sj H
  refine T.rt (Cont.ret1 rfl rfl fun w' s => ?_)
  exact ⟨rfl, s.ext⟩
 ·have H := ifF hc1 H
  refine T.skip (hK2 _ _ (cq [(0, _), (1, _)] ?_))
  refine T.seq fun K5 hK5 => T.seq fun K6 hK6 => T.region (rA rfl (RS.nil (hK6 _ _ ?_)))
  refine T.joinE (σ := Unit) (γ := Unit) H Ex.go [] trivial (fun _ _ => []) (fun _ _ => Sat w []) ?_ ?_
  ·rintro ⟨⟩ ⟨⟩ H
   try dsimp only [Ex.then] at H
   refine Cont.conseq (fr' := []) ?_ trivial (fun _ s => s)
   refine id (hK5 _ _ ?_)
   refine T.seq fun K7 hK7 => T.region (rA rfl (RS.nil (hK7 _ _ ?_)))
   obtain rfl := sj H
   refine T.rt (Cont.ret1 rfl rfl fun w' s => ?_)
   exact ⟨rfl, s.ext⟩
  ·intro z2 hz2 HX2 hJ2
   refine T.block ?_
   refine T.loopA (γ := Unit) hz2 [(0, _), (1, _)] (fun v3 _ => [(5, .int .i64 v3)]) (fun v3 _ => Sat w []) () ⟨rfl, rfl, trivial⟩ ⟨rfl, trivial⟩ (fun w s => s) ?_
   rintro v3 ⟨⟩ y4 H hd2 KL2 hL2
   try dsimp only [Ex.then] at H
   refine cq [(5, _), (0, _), (1, _)] ?_
   refine T.seq fun K8 hK8 => T.seq fun K9 hK9 => T.region (rM rfl (rM rfl (rp (Pu.lenSl sl66 rfl) (rp (Pu.bin rfl rfl rfl) (RS.nil (hK9 _ _ ?_))))))
   refine T.condP rfl (fun hc5 => ?_) (fun hc5 => ?_)
   ·have H := ifT hc5 H
    refine T.skip (hK8 _ _ (cq [(0, _), (1, _), (5, _)] ?_))
    refine T.seq fun K10 hK10 => T.block (T.seq fun K11 hK11 => ?_)
    refine T.drawn (fun _ => True) [(0, .pu), (1, .pu), (2, .pu), (3, .rd), (4, .pu), (5, .pu), (6, .pu), (7, .rd), (8, .rd), (9, .pu)] mixed (ClE.sat _ _) (by kernel_rfl) ?_
    refine dp rfl (Pu.move rfl) (dp rfl (Pu.move rfl) ?_)
    obtain ⟨g6, H⟩ := gdE H
    obtain ⟨bl7, ol8, rfl⟩ := R_ptr h0 (ne_of_pos (pos_of g6))
    refine dp rfl (Pu.indexSl sl66 rfl rfl g6) ?_
    obtain ⟨c9, hc10, ha11⟩ := R_el (α := Nte) h0 g6
    obtain ⟨u12, rfl, hu12⟩ := hc10
    obtain ⟨p13, cc14, rfl⟩ := R_form hu12
    refine dq rfl (Qt.ldZ (cs := [_, _, _, _, _, _, _, _]) ty44 rfl ha11 Held.base rfl) (dp rfl (Pu.move rfl) (dp rfl (Pu.move rfl) ?_))
    obtain ⟨g15, H⟩ := gdE H
    obtain ⟨bl16, ol17, rfl⟩ := R_ptr h1 (ne_of_pos (pos_of g15))
    refine dp rfl (Pu.indexSl sl66 rfl rfl g15) ?_
    obtain ⟨c18, hc19, ha20⟩ := R_el (α := Nte) h1 g15
    obtain ⟨u21, rfl, hu21⟩ := hc19
    obtain ⟨p22, cc23, rfl⟩ := R_form hu21
    refine dq rfl (Qt.ldZ (cs := [_, _, _, _, _, _, _, _]) ty44 rfl ha20 Held.base rfl) ?_
    obtain ⟨x24, hx24, H⟩ := bindE H
    refine dq rfl (Qt.call (vs := [.agg #[.int .i64 ((gi a0_a v3).frm), .int .i64 ((gi a0_a v3).dst), .int .i64 (((gi a0_a v3).input).turn), .int .i64 (((gi a0_a v3).input).player), .slice p13 (((gi a0_a v3).input).commands).length cc14, .int .i64 ((gi a0_a v3).don), .int .u64 (((gi a0_a v3).hash).toNat : Int), .int .i64 ((gi a0_a v3).hav)], .agg #[.int .i64 ((gi a1_b v3).frm), .int .i64 ((gi a1_b v3).dst), .int .i64 (((gi a1_b v3).input).turn), .int .i64 (((gi a1_b v3).input).player), .slice p22 (((gi a1_b v3).input).commands).length cc23, .int .i64 ((gi a1_b v3).don), .int .u64 (((gi a1_b v3).hash).toNat : Int), .int .i64 ((gi a1_b v3).hav)]]) ent32 rfl fun w s => throngref0_EqNote_walk (gi a0_a v3) (gi a1_b v3) w ((Rd.base hu12) w s) ((Rd.base hu21) w s) hx24) (dp rfl (Pu.not rfl) (RD.nil (hK11 _ _ ?_)))
    refine T.cond rfl (fun hc25 => ?_) (fun hc25 => ?_)
    ·have H := ifT hc25 H
     refine cq [] ?_
     refine T.seq fun K12 hK12 => T.region (rA rfl (RS.nil (hK12 _ _ ?_)))
     obtain rfl := hd2 _ H
     have H := HX2
     obtain rfl := sj H
     refine T.rt (Cont.ret1 rfl rfl fun w' s => ?_)
     exact ⟨rfl, s.ext⟩
    ·have H := ifB hc25 H
     refine T.skip (hK10 _ _ (cq [(0, _), (1, _), (5, _)] ?_))
     refine T.region (rM rfl ?_)
     obtain ⟨g26, H⟩ := gdE H
     refine rp (Pu.addS rfl rfl g26) (rA rfl (RS.nil (hL2 _ _ (v3 + 1) () H ⟨rfl, rfl, trivial⟩ ⟨rfl, trivial⟩ (fun w s => s))))
   ·have H := ifF hc5 H
    obtain rfl := hd2 _ H
    refine T.xt (hJ2 _ _ () () HX2 trivial trivial (fun w s => s))
theorem throngref0_CopyPeer_walk (a0_a : Per) (w : World) {v0 v1 v2 v3 v4 : Value} (h0 : R (hpOf w) a0_a.mine [v0]) (h1 : R (hpOf w) a0_a.inputs [v1]) (h2 : R (hpOf w) a0_a.has [v2]) (h3 : R (hpOf w) a0_a.acked [v3]) (h4 : R (hpOf w) a0_a.hashes [v4]) {r : Per} (H : throngref0_CopyPeer a0_a = some r) : Calls Tryz.prog 11 #[.agg #[.int .i64 a0_a.id, .int .i64 a0_a.players, .int .i64 a0_a.delay, .int .i64 a0_a.turn, .int .i64 a0_a.said, v0, v1, v2, v3, v4, .bool a0_a.split]] w fun e w' => ∃ g : (Option Nat × Nat) × (Option Nat × Nat) × (Option Nat × Nat) × (Option Nat × Nat) × (Option Nat × Nat), e = .returned (.agg #[.int .i64 r.id, .int .i64 r.players, .int .i64 r.delay, .int .i64 r.turn, .int .i64 r.said, rowV g.1 r.mine.length, rowV g.2.1 r.inputs.length, rowV g.2.2.1 r.has.length, rowV g.2.2.2.1 r.acked.length, rowV g.2.2.2.2 r.hashes.length, .bool r.split]) ∧ Sat w [drow 41 (rowV g.1 r.mine.length) r.mine, drow 41 (rowV g.2.1 r.inputs.length) r.inputs, row nilH 3 (rowV g.2.2.1 r.has.length) r.has, row nilH 3 (rowV g.2.2.2.1 r.acked.length) r.acked, row nilH 42 (rowV g.2.2.2.2 r.hashes.length) r.hashes] w' := by
 have hm0 := R_max h0
 obtain ⟨p0, c0, rfl⟩ := R_form h0
 have hm1 := R_max h1
 obtain ⟨p1, c1, rfl⟩ := R_form h1
 have hm2 := R_max h2
 obtain ⟨p2, c2, rfl⟩ := R_form h2
 have hm3 := R_max h3
 obtain ⟨p3, c3, rfl⟩ := R_form h3
 have hm4 := R_max h4
 obtain ⟨p4, c4, rfl⟩ := R_form h4
 unfold throngref0_CopyPeer at H
 refine T.enter (args := [_]) (S := Sat w []) Tryz.func11 rfl rfl (Sat.start w) ?_
 refine T.seq fun K1 hK1 => T.region (RS.solid (Sd.box (cs := [_, _, _, _, _, _, _, _, _, _, _]) rfl rfl) rfl rfl fun b1 => RS.solid (Sd.alloc zr26 rfl) rfl rfl fun b2 => RS.nil (hK1 _ _ ?_))
 refine T.seq fun K2 hK2 => T.region (rq (Qt.ldBA (us := [_, _, _, _, _, _, _, _, _, _, _]) 0 ty26 rfl rfl rfl rfl) (RS.solid (Sd.alloc zr26 rfl) rfl rfl fun b3 => RS.solid (Sd.stB (cs' := [_, _, _, _, _, _, _, _, _, _, _]) 2 ty26 rfl rfl rfl rfl rfl rfl rfl rfl) rfl rfl fun _ => RS.nil (hK2 _ _ ?_)))
 refine T.seq fun K3 hK3 => T.region (rp (Pu.fieldAddr fd26_5 rfl) (rq (Qt.ldB 0 ty22 rfl rfl rfl) ?_))
 obtain ⟨x4, hx4, H⟩ := bindE H
 refine RS.solid (Sd.callN (vs := [.slice p0 a0_a.mine.length c0]) ent19 rfl (fun w s => throngref0_CopyInputs_walk a0_a.mine w ((Rd.base h0) w s) hx4)) rfl rfl fun q5 => rp (Pu.fieldAddr fd26_5 rfl) (RS.solid (Sd.stB (cs' := [_, _, _, _, _, _, _, _, _, _, _]) 2 ty22 rfl rfl rfl rfl rfl rfl rfl rfl) rfl rfl fun _ => RS.nil (hK3 _ _ (cq [(1, _), (2, _), (3, _)] ?_)))
 refine T.seq fun K4 hK4 => T.region (rp (Pu.fieldAddr fd26_6 rfl) (rq (Qt.ldB 0 ty22 rfl rfl rfl) ?_))
 obtain ⟨x6, hx6, H⟩ := bindE H
 refine RS.solid (Sd.callN (vs := [.slice p1 a0_a.inputs.length c1]) ent19 rfl (fun w s => throngref0_CopyInputs_walk a0_a.inputs w ((Rd.base h1) w s) hx6)) rfl rfl fun q7 => rp (Pu.fieldAddr fd26_6 rfl) (RS.solid (Sd.stB (cs' := [_, _, _, _, _, _, _, _, _, _, _]) 2 ty22 rfl rfl rfl rfl rfl rfl rfl rfl) rfl rfl fun _ => RS.nil (hK4 _ _ (cq [(1, _), (2, _), (3, _)] ?_)))
 refine T.seq fun K5 hK5 => T.region (rp (Pu.fieldAddr fd26_7 rfl) (rq (Qt.ldB 0 ty23 rfl rfl rfl) ?_))
 obtain ⟨x8, hx8, H⟩ := bindE H
 refine RS.solid (Sd.callN (vs := [.slice p2 a0_a.has.length c2]) ent20 rfl (fun w s => throngref0_CopyNumbers_walk a0_a.has w ((Rd.base h2) w s) hx8)) rfl rfl fun q9 => rp (Pu.fieldAddr fd26_7 rfl) (RS.solid (Sd.stB (cs' := [_, _, _, _, _, _, _, _, _, _, _]) 2 ty23 rfl rfl rfl rfl rfl rfl rfl rfl) rfl rfl fun _ => RS.nil (hK5 _ _ (cq [(1, _), (2, _), (3, _)] ?_)))
 refine T.seq fun K6 hK6 => T.region (rp (Pu.fieldAddr fd26_8 rfl) (rq (Qt.ldB 0 ty23 rfl rfl rfl) ?_))
 obtain ⟨x10, hx10, H⟩ := bindE H
 refine RS.solid (Sd.callN (vs := [.slice p3 a0_a.acked.length c3]) ent20 rfl (fun w s => throngref0_CopyNumbers_walk a0_a.acked w ((Rd.base h3) w s) hx10)) rfl rfl fun q11 => rp (Pu.fieldAddr fd26_8 rfl) (RS.solid (Sd.stB (cs' := [_, _, _, _, _, _, _, _, _, _, _]) 2 ty23 rfl rfl rfl rfl rfl rfl rfl rfl) rfl rfl fun _ => RS.nil (hK6 _ _ (cq [(1, _), (2, _), (3, _)] ?_)))
 refine T.seq fun K7 hK7 => ?_
 try dsimp only [List.set, List.cons_append, List.nil_append]
 refine T.region (rp (Pu.fieldAddr fd26_9 rfl) (rq (Qt.ldB 0 ty24 rfl rfl rfl) ?_))
 obtain ⟨x12, hx12, H⟩ := bindE H
 refine RS.solid (Sd.callN (vs := [.slice p4 a0_a.hashes.length c4]) ent21 rfl (fun w s => throngref0_CopyHashes_walk a0_a.hashes w ((Rd.base h4) w s) hx12)) rfl rfl fun q13 => rp (Pu.fieldAddr fd26_9 rfl) (RS.solid (Sd.stB (cs' := [_, _, _, _, _, _, _, _, _, _, _]) 2 ty24 rfl rfl rfl rfl rfl rfl rfl rfl) rfl rfl fun _ => RS.nil (hK7 _ _ (cq [(2, _), (3, _)] ?_)))
 refine T.seq fun K8 hK8 => ?_
 try dsimp only [List.set, List.cons_append, List.nil_append]
 refine T.region (rq (Qt.ldBA (us := [_, _, _, _, _, _, _, _, _, _, _]) 2 ty26 rfl rfl rfl rfl) (RS.solid (Sd.stB (cs' := [_, _, _, _, _, _, _, _, _, _, _]) 1 ty26 rfl rfl rfl rfl rfl rfl rfl rfl) rfl rfl fun _ => RS.nil (hK8 _ _ ?_)))
 obtain rfl := sj H
 try dsimp only [List.set, List.cons_append, List.nil_append]
 refine T.rt (Cont.retC 1 rfl ty26 rfl rfl rfl fun w' s => ?_)
 exact ⟨⟨q5, q7, q9, q11, q13⟩, rfl, s.pick [3, 4, 5, 6, 7] (by decide) rfl⟩
theorem peer_Check_walk (a0_p : Per) (w : World) {v0 v1 v2 v3 v4 : Value} (h0 : R (hpOf w) a0_p.mine [v0]) (h1 : R (hpOf w) a0_p.inputs [v1]) (h2 : R (hpOf w) a0_p.has [v2]) (h3 : R (hpOf w) a0_p.acked [v3]) (h4 : R (hpOf w) a0_p.hashes [v4]) {r : Int} (H : peer_Check a0_p = some r) : Calls Tryz.prog 14 #[.agg #[.int .i64 a0_p.id, .int .i64 a0_p.players, .int .i64 a0_p.delay, .int .i64 a0_p.turn, .int .i64 a0_p.said, v0, v1, v2, v3, v4, .bool a0_p.split]] w fun e w' => e = .returned (.int .i64 r) ∧ Ext w w' := by
 have hm0 := R_max h0
 obtain ⟨p0, c0, rfl⟩ := R_form h0
 have hm1 := R_max h1
 obtain ⟨p1, c1, rfl⟩ := R_form h1
 have hm2 := R_max h2
 obtain ⟨p2, c2, rfl⟩ := R_form h2
 have hm3 := R_max h3
 obtain ⟨p3, c3, rfl⟩ := R_form h3
 have hm4 := R_max h4
 obtain ⟨p4, c4, rfl⟩ := R_form h4
 unfold peer_Check at H
 refine T.enter (args := [_]) (S := Sat w []) Tryz.func14 rfl rfl (Sat.start w) ?_
 refine T.seq fun K1 hK1 => T.region (RS.solid (Sd.box (cs := [_, _, _, _, _, _, _, _, _, _, _]) rfl rfl) rfl rfl fun b1 => rA rfl (RS.nil (hK1 _ _ ?_)))
 refine T.seq fun K2 hK2 => T.seq fun K3 hK3 => T.region (rq (Qt.ldBA (us := [_, _, _, _, _, _, _, _, _, _, _]) 0 ty26 rfl rfl rfl rfl) ?_)
 obtain ⟨x2, hx2, H⟩ := bindE H
 refine rq (Qt.call (vs := [.agg #[.int .i64 a0_p.id, .int .i64 a0_p.players, .int .i64 a0_p.delay, .int .i64 a0_p.turn, .int .i64 a0_p.said, .slice p0 a0_p.mine.length c0, .slice p1 a0_p.inputs.length c1, .slice p2 a0_p.has.length c2, .slice p3 a0_p.acked.length c3, .slice p4 a0_p.hashes.length c4, .bool a0_p.split]]) ent26 rfl fun w s => peer_May_walk a0_p w ((Rd.base h0) w s) ((Rd.base h1) w s) ((Rd.base h2) w s) ((Rd.base h3) w s) ((Rd.base h4) w s) hx2) (rp (Pu.not rfl) (RS.nil (hK3 _ _ ?_)))
 refine T.cond rfl (fun hc3 => ?_) (fun hc3 => ?_)
 ·have H := ifT hc3 H
  refine cq [] ?_
  refine T.seq fun K4 hK4 => T.region (rA rfl (RS.nil (hK4 _ _ ?_)))
  obtain rfl := sj H
  refine T.rt (Cont.ret1 rfl rfl fun w' s => ?_)
  exact ⟨rfl, s.ext⟩
 ·have H := ifB hc3 H
  refine T.skip (hK2 _ _ (cq [] ?_))
  refine T.seq fun K5 hK5 => T.region (rA rfl (RS.nil (hK5 _ _ ?_)))
  obtain rfl := sj H
  refine T.rt (Cont.ret1 rfl rfl fun w' s => ?_)
  exact ⟨rfl, s.ext⟩
theorem throngref27_May_walk (a0_i : Inp) (w : World) {v0 : Value} (h0 : R (hpOf w) a0_i.commands [v0]) {r : Bool} (H : throngref27_May a0_i = some r) : Calls Tryz.prog 50 #[.agg #[.int .i64 a0_i.turn, .int .i64 a0_i.player, v0]] w fun e w' => e = .returned (.bool r) ∧ Ext w w' := by
 have hm0 := R_max h0
 obtain ⟨p0, c0, rfl⟩ := R_form h0
 unfold throngref27_May at H
 refine T.enter (args := [_]) (S := Sat w []) Tryz.func50 rfl rfl (Sat.start w) ?_
 refine T.seq fun K1 hK1 => T.region (RS.solid (Sd.box (cs := [_, _, _]) rfl rfl) rfl rfl fun b1 => rA rfl (RS.nil (hK1 _ _ ?_)))
 refine T.seq fun K2 hK2 => T.seq fun K3 hK3 => T.region (rp (Pu.fieldAddr fd41_0 rfl) (rq (Qt.ldB 0 ty3 rfl rfl rfl) ?_))
 obtain ⟨x2, hx2, H⟩ := bindE H
 refine rq (Qt.call (vs := [.int .i64 a0_i.turn, .int .i64 1099511627776]) ent22 rfl fun w s => throngref0_Num_walk a0_i.turn 1099511627776 w  hx2) (rp (Pu.not rfl) (rM rfl ?_))
 refine RS.joinV 4 13 (.bool (decide (((!x2) = true) ∨ (a0_i.player < 1)))) [(1, _)] ⟨rfl, trivial⟩ ?_ ?_
 ·refine rM rfl ?_
  refine RS.joinV 4 18 (.bool (decide ((((!x2) = true) ∨ (a0_i.player < 1)) ∨ (8 < a0_i.player)))) [(1, _)] ⟨rfl, trivial⟩ ?_ ?_
  ·refine rM rfl ?_
   refine RS.joinV 5 24 (.bool (decide (((((!x2) = true) ∨ (a0_i.player < 1)) ∨ (8 < a0_i.player)) ∨ (64 < (a0_i.commands.length : Int))))) [(1, _)] ⟨rfl, trivial⟩ ?_ ?_
   ·refine RS.nil (hK3 _ _ ?_)
    refine T.condP rfl (fun hc9 => ?_) (fun hc9 => ?_)
    ·have H := ifT hc9 H
     refine T.seq fun K4 hK4 => T.region (rA rfl (RS.nil (hK4 _ _ ?_)))
     obtain rfl := sj H
     refine T.rt (Cont.ret1 rfl rfl fun w' s => ?_)
     exact ⟨rfl, s.ext⟩
    ·have H := ifF hc9 H
     refine T.skip (hK2 _ _ ?_)
     refine T.seq fun K5 hK5 => T.seq fun K6 hK6 => T.region (rA rfl (RS.nil (hK6 _ _ ?_)))
     refine T.joinE (σ := Unit) (γ := Unit) H Ex.go [] trivial (fun _ _ => []) (fun _ _ => Sat w [blk b1 [.int .i64 a0_i.turn, .int .i64 a0_i.player, .slice p0 a0_i.commands.length c0] 41]) ?_ ?_
     ·rintro ⟨⟩ ⟨⟩ H
      try dsimp only [Ex.then] at H
      refine Cont.conseq (fr' := []) ?_ trivial (fun _ s => s)
      refine id (hK5 _ _ ?_)
      refine T.seq fun K7 hK7 => T.region (rA rfl (RS.nil (hK7 _ _ ?_)))
      obtain rfl := sj H
      refine T.rt (Cont.ret1 rfl rfl fun w' s => ?_)
      exact ⟨rfl, s.ext⟩
     ·intro z10 hz10 HX10 hJ10
      refine T.block ?_
      refine T.loopA (γ := Unit) hz10 [(1, _)] (fun v11 _ => [(3, .int .i64 v11)]) (fun v11 _ => Sat w [blk b1 [.int .i64 a0_i.turn, .int .i64 a0_i.player, .slice p0 a0_i.commands.length c0] 41]) () ⟨rfl, trivial⟩ ⟨rfl, trivial⟩ (fun w s => s) ?_
      rintro v11 ⟨⟩ y12 H hd10 KL10 hL10
      try dsimp only [Ex.then] at H
      refine cq [(3, _), (1, _)] ?_
      refine T.seq fun K8 hK8 => T.seq fun K9 hK9 => T.region (rM rfl (rp (Pu.fieldAddr fd41_2 rfl) (rq (Qt.ldB 0 ty39 rfl rfl rfl) (rp (Pu.lenSl sl39 rfl) (rp (Pu.bin rfl rfl rfl) (RS.nil (hK9 _ _ ?_)))))))
      refine T.condP rfl (fun hc13 => ?_) (fun hc13 => ?_)
      ·have H := ifT hc13 H
       refine T.skip (hK8 _ _ (cq [(1, _), (3, _)] ?_))
       refine T.seq fun K10 hK10 => T.block (T.seq fun K11 hK11 => T.region (rp (Pu.fieldAddr fd41_2 rfl) (rq (Qt.ldB 0 ty39 rfl rfl rfl) (rM rfl ?_))))
       obtain ⟨g14, H⟩ := gdE H
       obtain ⟨bl15, ol16, rfl⟩ := R_ptr h0 (ne_of_pos (pos_of g14))
       refine rp (Pu.indexSl sl39 rfl rfl g14) ?_
       obtain ⟨c17, hc18, ha19⟩ := R_el (α := Cmd) h0 g14
       obtain ⟨u20, rfl, hu20⟩ := hc18
       obtain ⟨p21, cc22, rfl⟩ := R_form hu20
       refine rq (Qt.ldZ (cs := [_, _, _, _, _, _, _, _, _, _]) ty88 rfl ha19 Held.base rfl) (RS.solid (Sd.alloc zr88 rfl) rfl rfl fun b23 => RS.solid (Sd.stB (cs' := [_, _, _, _, _, _, _, _, _, _]) 1 ty88 rfl rfl rfl rfl rfl rfl rfl rfl) rfl rfl fun _ => RS.nil (hK11 _ _ (cq [(1, _), (3, _), (4, _)] ?_)))
       refine T.seq fun K12 hK12 => ?_
       refine T.drawn (fun _ => True) [(0, .rd), (1, .rd), (2, .pu), (3, .pu), (4, .pu), (5, .rd), (6, .pu), (7, .rd), (8, .pu), (9, .pu), (10, .pu), (11, .pu), (12, .pu), (13, .pu), (14, .pu), (15, .rd), (16, .pu), (17, .pu), (18, .pu), (19, .pu), (20, .rd), (21, .pu), (22, .rd), (23, .pu), (24, .pu), (25, .pu)] mixed (ClE.sat _ _) (by kernel_rfl) ?_
       refine dq rfl (Qt.ldBA (us := [_, _, _, _, _, _, _, _, _, _]) 1 ty88 rfl rfl rfl rfl) ?_
       obtain ⟨x24, hx24, H⟩ := bindE H
       refine dq rfl (Qt.call (vs := [.agg #[.int .i64 ((gi a0_i.commands v11).player), .int .i64 ((gi a0_i.commands v11).seq), .int .i64 ((gi a0_i.commands v11).kind), .int .i64 ((gi a0_i.commands v11).n), .slice p21 ((gi a0_i.commands v11).units).length cc22, .int .i64 ((gi a0_i.commands v11).tile), .int .i64 ((gi a0_i.commands v11).w), .int .i64 ((gi a0_i.commands v11).h), .int .i64 (((gi a0_i.commands v11).pos).x), .int .i64 (((gi a0_i.commands v11).pos).y)]]) ent84 rfl fun w s => throngref21_Command_walk (gi a0_i.commands v11) w ((Rd.base hu20) w s) hx24) (dp rfl (Pu.not rfl) (dp rfl (Pu.move rfl) ?_))
       refine RD.joinV 6 46 (.bool (decide (((!x24) = true) ∨ (¬ (gi a0_i.commands v11).player = a0_i.player)))) [(1, _), (3, _), (4, _)] ⟨rfl, rfl, rfl, trivial⟩ ?_ ?_
       ·refine dp rfl (Pu.move rfl) ?_
        obtain ⟨g29, H⟩ := gdE H
        obtain ⟨g30, H⟩ := gdE H
        refine RD.joinV 15 62 (.bool (decide ((((!x24) = true) ∨ (¬ (gi a0_i.commands v11).player = a0_i.player)) ∨ ((0 < v11) ∧ ((gi a0_i.commands v11).seq ≤ (gi a0_i.commands (v11 - 1)).seq))))) [(1, _), (3, _)] ⟨rfl, rfl, trivial⟩ ?_ ?_
        ·refine RD.nil (hK12 _ _ ?_)
         refine T.condP rfl (fun hc31 => ?_) (fun hc31 => ?_)
         ·have H := ifT hc31 H
          refine cq [] ?_
          refine T.seq fun K13 hK13 => T.region (rA rfl (RS.nil (hK13 _ _ ?_)))
          obtain rfl := hd10 _ H
          have H := HX10
          obtain rfl := sj H
          refine T.rt (Cont.ret1 rfl rfl fun w' s => ?_)
          exact ⟨rfl, s.ext⟩
         ·have H := ifF hc31 H
          refine T.skip (hK10 _ _ ?_)
          refine T.region (rM rfl ?_)
          obtain ⟨g32, H⟩ := gdE H
          refine rp (Pu.addS rfl rfl g32) (rA rfl (RS.nil (hL10 _ _ (v11 + 1) () H ⟨rfl, trivial⟩ ⟨rfl, trivial⟩ (fun w s => s.pick [0] (by decide) rfl))))
        ·intro hJ28
         refine RD.splitP 47 rfl (fun hc27 => ?_) (fun hc27 => ?_)
         ·refine dn rfl (dn rfl (dn rfl (dn rfl (dn rfl (dn rfl (dn rfl (dn rfl (dn rfl (dn rfl (dn rfl (dn rfl (dn rfl (dn rfl ?_)))))))))))))
          refine dp rfl (Pu.pickT rfl rfl) ?_
          exact hJ28 _ ⟨dOrT hc27, rfl, rfl, trivial⟩
         ·refine dp rfl (Pu.move rfl) (dp rfl (Pu.bin rfl rfl rfl) (dp rfl (Pu.move rfl) ?_))
          refine RD.joinV 11 61 (.bool (decide ((0 < v11) ∧ ((gi a0_i.commands v11).seq ≤ (gi a0_i.commands (v11 - 1)).seq)))) [(1, _), (3, _), (4, _), (46, _), (47, _), (48, _), (49, _)] ⟨rfl, rfl, rfl, rfl, rfl, rfl, rfl, trivial⟩ ?_ ?_
          ·refine dp rfl (Pu.pickF rfl rfl) ?_
           exact hJ28 _ ⟨dOrF hc27, rfl, rfl, trivial⟩
          ·intro hJ34
           refine RD.splitP 50 rfl (fun hc33 => ?_) (fun hc33 => ?_)
           ·refine dp rfl (Pu.fieldAddr fd41_2 rfl) (dq rfl (Qt.ldB 0 ty39 rfl rfl rfl) (dp rfl (Pu.move rfl) (dp rfl (Pu.subS rfl rfl ((g29 hc27) hc33)) (dp rfl (Pu.indexSl sl39 rfl rfl ((g30 hc27) hc33)) (dp rfl (Pu.fieldAddr fd88_1 rfl) (dq rfl (Qt.ldF (α := Cmd) (Rd.base h0) ty3 rfl rfl ((g30 hc27) hc33) (by rintro _ _ ⟨_, rfl, _⟩; rfl)) (dp rfl (Pu.fieldAddr fd88_1 rfl) (dq rfl (Qt.ldB 1 ty3 rfl rfl rfl) (dp rfl (Pu.bin rfl rfl rfl) (dp rfl (Pu.pickT rfl rfl) ?_))))))))))
            exact hJ34 _ ⟨dAndT hc33, rfl, rfl, rfl, rfl, rfl, rfl, rfl, trivial⟩
           ·refine dn rfl (dn rfl (dn rfl (dn rfl (dn rfl (dn rfl (dn rfl (dn rfl (dn rfl (dn rfl (dp rfl (Pu.pickF rfl rfl) ?_))))))))))
            exact hJ34 _ ⟨dAndF hc33, rfl, rfl, rfl, rfl, rfl, rfl, rfl, trivial⟩
       ·intro hJ26
        refine RD.split 40 rfl (fun hc25 => ?_) (fun hc25 => ?_)
        ·refine dn rfl (dn rfl (dn rfl (dn rfl (dn rfl (dp rfl (Pu.pickT rfl rfl) ?_)))))
         exact hJ26 _ ⟨dOrT hc25, rfl, rfl, rfl, trivial⟩
        ·refine dp rfl (Pu.fieldAddr fd88_0 rfl) (dq rfl (Qt.ldB 1 ty3 rfl rfl rfl) (dp rfl (Pu.fieldAddr fd41_1 rfl) (dq rfl (Qt.ldB 0 ty3 rfl rfl rfl) (dp rfl (Pu.bin rfl rfl rfl) (dp rfl (Pu.pickF rfl rfl) ?_)))))
         exact hJ26 _ ⟨dOrF (bne_of hc25), rfl, rfl, rfl, trivial⟩
      ·have H := ifF hc13 H
       obtain rfl := hd10 _ H
       refine T.xt (hJ10 _ _ () () HX10 trivial trivial (fun w s => s))
   ·intro hJ8
    refine RS.splitP 19 rfl (fun hc7 => ?_) (fun hc7 => ?_)
    ·refine ro (ro (ro (ro (rp (Pu.pickT rfl rfl) ?_))))
     exact hJ8 _ _ ⟨dOrT hc7, rfl, trivial⟩ (fun w s => s)
    ·refine rp (Pu.fieldAddr fd41_2 rfl) (rq (Qt.ldB 0 ty39 rfl rfl rfl) (rp (Pu.lenSl sl39 rfl) (rp (Pu.bin rfl rfl rfl) (rp (Pu.pickF rfl rfl) ?_))))
     exact hJ8 _ _ ⟨dOrF hc7, rfl, trivial⟩ (fun w s => s)
  ·intro hJ6
   refine RS.splitP 14 rfl (fun hc5 => ?_) (fun hc5 => ?_)
   ·refine ro (ro (ro (rp (Pu.pickT rfl rfl) ?_)))
    exact hJ6 _ _ ⟨dOrT hc5, rfl, trivial⟩ (fun w s => s)
   ·refine rp (Pu.fieldAddr fd41_1 rfl) (rq (Qt.ldB 0 ty3 rfl rfl rfl) (rp (Pu.bin rfl rfl rfl) (rp (Pu.pickF rfl rfl) ?_)))
    exact hJ6 _ _ ⟨dOrF hc5, rfl, trivial⟩ (fun w s => s)
 ·intro hJ4
  refine RS.split 9 rfl (fun hc3 => ?_) (fun hc3 => ?_)
  ·refine ro (ro (ro (rp (Pu.pickT rfl rfl) ?_)))
   exact hJ4 _ _ ⟨dOrT hc3, rfl, trivial⟩ (fun w s => s)
  ·refine rp (Pu.fieldAddr fd41_1 rfl) (rq (Qt.ldB 0 ty3 rfl rfl rfl) (rp (Pu.bin rfl rfl rfl) (rp (Pu.pickF rfl rfl) ?_)))
   exact hJ4 _ _ ⟨dOrF (bne_of hc3), rfl, trivial⟩ (fun w s => s)
theorem throngref27_ahead_walk (a0_a : Inp) (a1_b : Inp) (w : World) {v0 v1 : Value} (h0 : R (hpOf w) a0_a.commands [v0]) (h1 : R (hpOf w) a1_b.commands [v1]) {r : Bool} (H : throngref27_ahead a0_a a1_b = some r) : Calls Tryz.prog 51 #[.agg #[.int .i64 a0_a.turn, .int .i64 a0_a.player, v0], .agg #[.int .i64 a1_b.turn, .int .i64 a1_b.player, v1]] w fun e w' => e = .returned (.bool r) ∧ Ext w w' := by
 have hm0 := R_max h0
 obtain ⟨p0, c0, rfl⟩ := R_form h0
 have hm1 := R_max h1
 obtain ⟨p1, c1, rfl⟩ := R_form h1
 unfold throngref27_ahead at H
 refine T.enter (args := [_, _]) (S := Sat w []) Tryz.func51 rfl rfl (Sat.start w) ?_
 refine T.seq fun K1 hK1 => T.region (RS.solid (Sd.box (cs := [_, _, _]) rfl rfl) rfl rfl fun b1 => RS.solid (Sd.box (cs := [_, _, _]) rfl rfl) rfl rfl fun b2 => rA rfl (RS.nil (hK1 _ _ (cq [(2, _), (3, _)] ?_))))
 refine T.seq fun K2 hK2 => T.region (rp (Pu.fieldAddr fd41_0 rfl) (rq (Qt.ldB 0 ty3 rfl rfl rfl) (rp (Pu.fieldAddr fd41_0 rfl) (rq (Qt.ldB 1 ty3 rfl rfl rfl) (rp (Pu.bin rfl rfl rfl) (rM rfl ?_))))))
 refine RS.joinV 13 23 (.bool (decide ((a0_a.turn < a1_b.turn) ∨ ((a0_a.turn = a1_b.turn) ∧ (a0_a.player < a1_b.player))))) [] trivial ?_ ?_
 ·refine rA rfl (RS.nil (hK2 _ _ ?_))
  obtain rfl := sj H
  refine T.rt (Cont.ret1 rfl rfl fun w' s => ?_)
  exact ⟨rfl, s.ext⟩
 ·intro hJ4
  refine RS.splitP 10 rfl (fun hc3 => ?_) (fun hc3 => ?_)
  ·refine ro (ro (ro (ro (ro (ro (ro (ro (ro (ro (ro (ro (rp (Pu.pickT rfl rfl) ?_))))))))))))
   exact hJ4 _ _ ⟨dOrT hc3, trivial⟩ (fun w s => s)
  ·refine rp (Pu.fieldAddr fd41_0 rfl) (rq (Qt.ldB 0 ty3 rfl rfl rfl) (rp (Pu.fieldAddr fd41_0 rfl) (rq (Qt.ldB 1 ty3 rfl rfl rfl) (rp (Pu.bin rfl rfl rfl) (rM rfl ?_)))))
   refine RS.joinV 6 22 (.bool (decide ((a0_a.turn = a1_b.turn) ∧ (a0_a.player < a1_b.player)))) [(2, _), (3, _), (5, _), (6, _), (7, _), (8, _), (9, _), (10, _), (11, _), (12, _), (13, _), (14, _), (15, _)] ⟨rfl, rfl, rfl, rfl, rfl, rfl, rfl, rfl, rfl, rfl, rfl, rfl, rfl, trivial⟩ ?_ ?_
   ·refine rp (Pu.pickF rfl rfl) ?_
    exact hJ4 _ _ ⟨dOrF hc3, trivial⟩ (fun w s => s)
   ·intro hJ6
    refine RS.splitP 16 rfl (fun hc5 => ?_) (fun hc5 => ?_)
    ·refine rp (Pu.fieldAddr fd41_1 rfl) (rq (Qt.ldB 0 ty3 rfl rfl rfl) (rp (Pu.fieldAddr fd41_1 rfl) (rq (Qt.ldB 1 ty3 rfl rfl rfl) (rp (Pu.bin rfl rfl rfl) (rp (Pu.pickT rfl rfl) ?_)))))
     exact hJ6 _ _ ⟨dAndT hc5, rfl, rfl, rfl, rfl, rfl, rfl, rfl, rfl, rfl, rfl, rfl, rfl, rfl, trivial⟩ (fun w s => s)
    ·refine ro (ro (ro (ro (ro (rp (Pu.pickF rfl rfl) ?_)))))
     exact hJ6 _ _ ⟨dAndF hc5, rfl, rfl, rfl, rfl, rfl, rfl, rfl, rfl, rfl, rfl, rfl, rfl, rfl, trivial⟩ (fun w s => s)
theorem throngref27_List_walk (a0_l : List Inp) (w : World) {v0 : Value} (h0 : R (hpOf w) a0_l [v0]) {r : Bool} (H : throngref27_List a0_l = some r) : Calls Tryz.prog 23 #[v0] w fun e w' => e = .returned (.bool r) ∧ Ext w w' := by
 have hm0 := R_max h0
 obtain ⟨p0, c0, rfl⟩ := R_form h0
 unfold throngref27_List at H
 refine T.enter (args := [_]) (S := Sat w []) Tryz.func23 rfl rfl (Sat.start w) ?_
 refine T.seq fun K1 hK1 => T.region (rA rfl (RS.nil (hK1 _ _ ?_)))
 refine T.seq fun K2 hK2 => T.seq fun K3 hK3 => T.region (rA rfl (RS.nil (hK3 _ _ ?_)))
 refine T.joinE (σ := Unit) (γ := Unit) H Ex.go [] trivial (fun _ _ => []) (fun _ _ => Sat w []) ?_ ?_
 ·rintro ⟨⟩ ⟨⟩ H
  try dsimp only [Ex.then] at H
  refine Cont.conseq (fr' := []) ?_ trivial (fun _ s => s)
  refine id (hK2 _ _ ?_)
  refine T.seq fun K4 hK4 => T.region (rA rfl (RS.nil (hK4 _ _ ?_)))
  obtain rfl := sj H
  refine T.rt (Cont.ret1 rfl rfl fun w' s => ?_)
  exact ⟨rfl, s.ext⟩
 ·intro z1 hz1 HX1 hJ1
  refine T.block ?_
  refine T.loopA (γ := Unit) hz1 [(0, _)] (fun v2 _ => [(3, .int .i64 v2)]) (fun v2 _ => Sat w []) () ⟨rfl, trivial⟩ ⟨rfl, trivial⟩ (fun w s => s) ?_
  rintro v2 ⟨⟩ y3 H hd1 KL1 hL1
  try dsimp only [Ex.then] at H
  refine cq [(3, _), (0, _)] ?_
  refine T.seq fun K5 hK5 => T.seq fun K6 hK6 => T.region (rM rfl (rM rfl (rp (Pu.lenSl sl22 rfl) (rp (Pu.bin rfl rfl rfl) (RS.nil (hK6 _ _ ?_))))))
  refine T.condP rfl (fun hc4 => ?_) (fun hc4 => ?_)
  ·have H := ifT hc4 H
   refine T.skip (hK5 _ _ (cq [(0, _), (3, _)] ?_))
   refine T.seq fun K7 hK7 => T.block (T.seq fun K8 hK8 => ?_)
   refine T.drawn (fun _ => True) [(0, .pu), (1, .pu), (2, .pu), (3, .rd), (4, .rd), (5, .pu), (6, .pu), (7, .pu), (8, .pu), (9, .pu), (10, .pu), (11, .pu), (12, .pu), (13, .pu), (14, .rd), (15, .pu), (16, .pu), (17, .pu), (18, .rd), (19, .rd), (20, .pu), (21, .pu), (22, .pu)] mixed (ClE.sat _ _) (by kernel_rfl) ?_
   refine dp rfl (Pu.move rfl) (dp rfl (Pu.move rfl) ?_)
   obtain ⟨g5, H⟩ := gdE H
   obtain ⟨bl6, ol7, rfl⟩ := R_ptr h0 (ne_of_pos (pos_of g5))
   refine dp rfl (Pu.indexSl sl22 rfl rfl g5) ?_
   obtain ⟨c8, hc9, ha10⟩ := R_el (α := Inp) h0 g5
   obtain ⟨u11, rfl, hu11⟩ := hc9
   obtain ⟨p12, cc13, rfl⟩ := R_form hu11
   refine dq rfl (Qt.ldZ (cs := [_, _, _]) ty41 rfl ha10 Held.base rfl) ?_
   obtain ⟨x14, hx14, H⟩ := bindE H
   refine dq rfl (Qt.call (vs := [.agg #[.int .i64 ((gi a0_l v2).turn), .int .i64 ((gi a0_l v2).player), .slice p12 ((gi a0_l v2).commands).length cc13]]) ent50 rfl fun w s => throngref27_May_walk (gi a0_l v2) w ((Rd.base hu11) w s) hx14) (dp rfl (Pu.not rfl) (dp rfl (Pu.move rfl) ?_))
   refine RD.joinB H 16 32 (fun b17 => .bool b17) [(0, _), (3, _)] ⟨rfl, rfl, trivial⟩ ?_ ?_
   ·intro b17 H
    refine RD.nil (hK8 _ _ ?_)
    refine T.cond rfl (fun hc18 => ?_) (fun hc18 => ?_)
    ·have H := ifT hc18 H
     refine cq [] ?_
     refine T.seq fun K9 hK9 => T.region (rA rfl (RS.nil (hK9 _ _ ?_)))
     obtain rfl := hd1 _ H
     have H := HX1
     obtain rfl := sj H
     refine T.rt (Cont.ret1 rfl rfl fun w' s => ?_)
     exact ⟨rfl, s.ext⟩
    ·have H := ifB hc18 H
     refine T.skip (hK7 _ _ ?_)
     refine T.region (rM rfl ?_)
     obtain ⟨g19, H⟩ := gdE H
     refine rp (Pu.addS rfl rfl g19) (rA rfl (RS.nil (hL1 _ _ (v2 + 1) () H ⟨rfl, trivial⟩ ⟨rfl, trivial⟩ (fun w s => s))))
   ·intro z20 H hJ16
    refine RD.split 16 rfl (fun hc15 => ?_) (fun hc15 => ?_)
    ·have H := ifT hc15 H
     refine dn rfl (dn rfl (dn rfl (dn rfl (dn rfl (dn rfl (dn rfl (dn rfl (dn rfl (dn rfl (dn rfl (dn rfl (dn rfl (dn rfl ?_)))))))))))))
     refine dn rfl (dp rfl (Pu.pickT rfl rfl) ?_)
     obtain rfl := sj H
     exact hJ16 _ ⟨rfl, rfl, rfl, trivial⟩
    ·have H := ifB hc15 H
     refine dp rfl (Pu.move rfl) (dp rfl (Pu.bin rfl rfl rfl) (dp rfl (Pu.move rfl) ?_))
     refine RD.joinB H 12 31 (fun b23 => .bool b23) [(0, _), (3, _), (10, _), (11, _), (12, _), (13, _), (14, _), (15, _), (16, _), (17, _), (18, _)] ⟨rfl, rfl, rfl, rfl, rfl, rfl, rfl, rfl, rfl, rfl, rfl, trivial⟩ ?_ ?_
     ·intro b23 H
      refine dp rfl (Pu.pickF rfl rfl) ?_
      obtain rfl := sj H
      exact hJ16 _ ⟨rfl, rfl, rfl, trivial⟩
     ·intro z24 H hJ22
      refine RD.splitP 19 rfl (fun hc21 => ?_) (fun hc21 => ?_)
      ·have H := ifT hc21 H
       refine dp rfl (Pu.move rfl) (dp rfl (Pu.move rfl) ?_)
       obtain ⟨g25, H⟩ := gdE H
       refine dp rfl (Pu.subS rfl rfl g25) ?_
       obtain ⟨g26, H⟩ := gdE H
       refine dp rfl (Pu.indexSl sl22 rfl rfl g26) ?_
       obtain ⟨c27, hc28, ha29⟩ := R_el (α := Inp) h0 g26
       obtain ⟨u30, rfl, hu30⟩ := hc28
       obtain ⟨p31, cc32, rfl⟩ := R_form hu30
       refine dq rfl (Qt.ldZ (cs := [_, _, _]) ty41 rfl ha29 Held.base rfl) (dp rfl (Pu.move rfl) (dp rfl (Pu.move rfl) ?_))
       obtain ⟨g33, H⟩ := gdE H
       refine dp rfl (Pu.indexSl sl22 rfl rfl g33) ?_
       obtain ⟨c34, hc35, ha36⟩ := R_el (α := Inp) h0 g33
       obtain ⟨u37, rfl, hu37⟩ := hc35
       obtain ⟨p38, cc39, rfl⟩ := R_form hu37
       refine dq rfl (Qt.ldZ (cs := [_, _, _]) ty41 rfl ha36 Held.base rfl) ?_
       obtain ⟨x40, hx40, H⟩ := bindE H
       refine dq rfl (Qt.call (vs := [.agg #[.int .i64 ((gi a0_l (v2 - 1)).turn), .int .i64 ((gi a0_l (v2 - 1)).player), .slice p31 ((gi a0_l (v2 - 1)).commands).length cc32], .agg #[.int .i64 ((gi a0_l v2).turn), .int .i64 ((gi a0_l v2).player), .slice p38 ((gi a0_l v2).commands).length cc39]]) ent51 rfl fun w s => throngref27_ahead_walk (gi a0_l (v2 - 1)) (gi a0_l v2) w ((Rd.base hu30) w s) ((Rd.base hu37) w s) hx40) (dp rfl (Pu.not rfl) (dp rfl (Pu.pickT rfl rfl) ?_))
       obtain rfl := sj H
       exact hJ22 _ ⟨rfl, rfl, rfl, rfl, rfl, rfl, rfl, rfl, rfl, rfl, rfl, rfl, trivial⟩
      ·have H := ifF hc21 H
       refine dn rfl (dn rfl (dn rfl (dn rfl (dn rfl (dn rfl (dn rfl (dn rfl (dn rfl (dn rfl (dn rfl (dp rfl (Pu.pickF rfl rfl) ?_)))))))))))
       obtain rfl := sj H
       exact hJ22 _ ⟨rfl, rfl, rfl, rfl, rfl, rfl, rfl, rfl, rfl, rfl, rfl, rfl, trivial⟩
  ·have H := ifF hc4 H
   obtain rfl := hd1 _ H
   refine T.xt (hJ1 _ _ () () HX1 trivial trivial (fun w s => s))
theorem throngref27_Put_walk (a0_l : List Inp) (a1_x : Inp) (w : World) {v0 v1 : Value} (h0 : R (hpOf w) a0_l [v0]) (h1 : R (hpOf w) a1_x.commands [v1]) {r : List Inp × Int} (H : throngref27_Put a0_l a1_x = some r) : Calls Tryz.prog 59 #[v0, .agg #[.int .i64 a1_x.turn, .int .i64 a1_x.player, v1]] w fun e w' => ∃ q1 : (Option Nat × Nat), e = .returned (.tuple #[rowV q1 r.1.length, .int .i64 r.2]) ∧ Sat w [drow 41 (rowV q1 r.1.length) r.1] w' := by
 have hm0 := R_max h0
 obtain ⟨p0, c0, rfl⟩ := R_form h0
 have hm1 := R_max h1
 obtain ⟨p1, c1, rfl⟩ := R_form h1
 unfold throngref27_Put at H
 refine T.enter (args := [_, _]) (S := Sat w []) Tryz.func59 rfl rfl (Sat.start w) ?_
 refine T.seq fun K1 hK1 => T.region (RS.solid (Sd.box (cs := [_, _, _]) rfl rfl) rfl rfl fun b1 => rA rfl (rA rfl (RS.nil (hK1 _ _ (cq [(0, _), (3, _)] ?_)))))
 refine T.seq fun K2 hK2 => T.region (rA rfl (RS.nil (hK2 _ _ ?_)))
 refine T.joinA (σ := Int) (γ := Unit) H (fun s => s) [(0, _), (3, _)] ⟨rfl, rfl, trivial⟩ (fun v3 _ => [(6, .int .i64 v3)]) (fun v3 _ => Sat w [blk b1 [.int .i64 a1_x.turn, .int .i64 a1_x.player, .slice p1 a1_x.commands.length c1] 41]) ?_ ?_
 ·rintro v3 ⟨⟩ H
  try dsimp only [Ex.then] at H
  refine cq [(6, _), (0, _), (3, _)] ?_
  refine T.seq fun K4 hK4 => T.seq fun K5 hK5 => ?_
  refine T.drawn (fun _ => True) [(0, .pu), (1, .pu), (2, .pu), (3, .pu), (4, .pu), (5, .rd), (6, .pu), (7, .pu), (8, .pu), (9, .rd), (10, .rd), (11, .pu), (12, .pu)] mixed (ClE.sat _ _) (by kernel_rfl) ?_
  refine dp rfl (Pu.move rfl) (dp rfl (Pu.move rfl) (dp rfl (Pu.lenSl sl22 rfl) (dp rfl (Pu.bin rfl rfl rfl) (dp rfl (Pu.move rfl) ?_))))
  refine RD.joinB H 8 34 (fun b6 => .bool b6) [(0, _), (3, _), (6, _)] ⟨rfl, rfl, rfl, trivial⟩ ?_ ?_
  ·intro b6 H
   refine RD.nil (hK5 _ _ ?_)
   refine T.cond rfl (fun hc7 => ?_) (fun hc7 => ?_)
   ·have H := ifT hc7 H
    refine cq [] ?_
    refine T.seq fun K6 hK6 => T.region (rA rfl (rA rfl (RS.nil (hK6 _ _ ?_))))
    obtain rfl := sj H
    refine T.rt (Cont.ret2 rfl rfl rfl fun w' s => ?_)
    exact ⟨(none, 0), rfl, (s.nilRowG (α := Inp) 41).pick [1] (by decide) rfl⟩
   ·have H := ifB hc7 H
    refine T.skip (hK4 _ _ ?_)
    refine T.seq fun K7 hK7 => ?_
    refine T.drawnS [0] [(0, .pu), (1, .pu), (2, .pu), (4, .wk), (3, .so), (5, .so), (6, .so), (7, .br), (8, .pu)] mixed (by kernel_rfl) rfl ?_
    refine RD.p (fun w s => s.pick [0] (by decide) rfl) rfl (Pu.move rfl) rfl rfl (RD.p (fun w s => s.pick [0] (by decide) rfl) rfl (Pu.move rfl) rfl rfl ?_)
    obtain ⟨g8, H⟩ := gdE H
    refine RD.p (fun w s => s.pick [0] (by decide) rfl) rfl (Pu.sliceH sl22 rfl rfl (le_cap g8 (R_len h0).2.1)) rfl rfl ?_
    refine RD.w (fun w s => s.pick [0] (by decide) rfl) rfl (Qt.ldBA (us := [_, _, _]) 0 ty41 rfl rfl rfl rfl) rfl rfl ?_
    obtain ⟨x9, hx9, H⟩ := bindE H
    refine RD.solid rfl (.inl rfl) rfl rfl (Sd.callN (vs := [.slice p0 (v3.toNat) c0]) ent19 rfl (fun w s => throngref0_CopyInputs_walk (a0_l.take v3.toNat) w ((Rd.take (Rd.base h0) (le_nat g8)) w s) hx9)) (fun _ => ClE.sat _ _) (fun _ w s => s.pick [0] (by decide) rfl) (fun _ _ _ s => s.drop1) fun q10 => ?_
    obtain ⟨x11, hx11, H⟩ := bindE H
    refine RD.solid rfl (.inl rfl) rfl rfl (Sd.callN (vs := [.agg #[.int .i64 a1_x.turn, .int .i64 a1_x.player, .slice p1 a1_x.commands.length c1]]) ent49 rfl (fun w s => throngref0_CopyInput_walk a1_x w ((Rd.base h1) w s) hx11)) (fun _ => ClE.sat _ _) (fun _ w s => s.pick [0] (by decide) rfl) (fun _ _ _ s => s.drop1) fun q12 => ?_
    refine RD.solid rfl (.inl rfl) rfl rfl (Sd.litS (cs := [_, _, _]) sl22 zr41 rfl rfl rfl rfl rfl) (fun _ => ClE.sat _ _) (fun _ w s => s.pick [0] (by decide) rfl) (fun _ _ _ s => s.drop1) fun b13 => ?_
    obtain ⟨g15, H⟩ := gdE H
    refine RD.solid rfl (.inr rfl) rfl rfl (Sd.pre (fun w s => (Sat.starAt 2 4 (Sat.starAt 2 5 ((s.noStars).noStars) rfl rfl (by decide)) rfl rfl (by decide))) (Sd.appL (α := Inp) 1 3 2 ([x11] : List Inp) rfl rfl rfl (DRF.cons' (α := Inp) (x := x11) (fun _ h => ⟨_, rfl, h⟩) DRF.nil') rfl sl22 zr41 rfl rfl rfl rfl g15 (by decide))) (fun _ => ClE.sat _ _) (fun _ w s => s.pick [0] (by decide) rfl) (fun h => nomatch h) fun q14 => ?_
    refine RD.p (fun w s => s.pick [0] (by decide) rfl) rfl (Pu.assign rfl) rfl rfl (RD.nil (hK7 _ _ (cq [(0, _), (6, _), (7, _)] ?_)))
    refine T.seq fun K8 hK8 => T.region (rM rfl (rM rfl (rM rfl ?_)))
    obtain ⟨g16, H⟩ := gdE H
    refine rp (Pu.sliceL sl22 rfl rfl g16) ?_
    obtain ⟨x17, hx17, H⟩ := bindE H
    refine RS.solid (Sd.callN (vs := [.slice (cutP p0 c0 v3.toNat 3) (a0_l.length - v3.toNat) (c0 - v3.toNat)]) ent19 rfl (fun w s => throngref0_CopyInputs_walk (a0_l.drop v3.toNat) w ((Rd.drop (Rd.base h0) (le_nat g16) rfl) w s) hx17)) rfl rfl fun q18 => ?_
    obtain ⟨g20, H⟩ := gdE H
    refine RS.solid (Sd.appD (α := Inp) 1 6 rfl rfl rfl sl22 zr41 rfl rfl rfl g20 (by decide)) rfl rfl fun q19 => rA rfl (rA rfl (RS.nil (hK8 _ _ (cq [(4, _), (5, _)] ?_))))
    obtain rfl := sj H
    refine T.rt (Cont.ret2 rfl rfl rfl fun w' s => ?_)
    exact ⟨q19, rfl, s.pick [1] (by decide) rfl⟩
  ·intro z21 H hJ5
   refine RD.splitP 26 rfl (fun hc4 => ?_) (fun hc4 => ?_)
   ·have H := ifT hc4 H
    refine dq rfl (Qt.ldBA (us := [_, _, _]) 0 ty41 rfl rfl rfl rfl) (dp rfl (Pu.move rfl) (dp rfl (Pu.move rfl) ?_))
    obtain ⟨g22, H⟩ := gdE H
    obtain ⟨bl23, ol24, rfl⟩ := R_ptr h0 (ne_of_pos (pos_of g22))
    refine dp rfl (Pu.indexSl sl22 rfl rfl g22) ?_
    obtain ⟨c25, hc26, ha27⟩ := R_el (α := Inp) h0 g22
    obtain ⟨u28, rfl, hu28⟩ := hc26
    obtain ⟨p29, cc30, rfl⟩ := R_form hu28
    refine dq rfl (Qt.ldZ (cs := [_, _, _]) ty41 rfl ha27 Held.base rfl) ?_
    obtain ⟨x31, hx31, H⟩ := bindE H
    refine dq rfl (Qt.call (vs := [.agg #[.int .i64 a1_x.turn, .int .i64 a1_x.player, .slice p1 a1_x.commands.length c1], .agg #[.int .i64 ((gi a0_l v3).turn), .int .i64 ((gi a0_l v3).player), .slice p29 ((gi a0_l v3).commands).length cc30]]) ent51 rfl fun w s => throngref27_ahead_walk a1_x (gi a0_l v3) w ((Rd.base h1) w s) ((Rd.base hu28) w s) hx31) (dp rfl (Pu.not rfl) (dp rfl (Pu.pickT rfl rfl) ?_))
    obtain rfl := sj H
    exact hJ5 _ ⟨rfl, rfl, rfl, rfl, trivial⟩
   ·have H := ifF hc4 H
    refine dn rfl (dn rfl (dn rfl (dn rfl (dn rfl (dn rfl (dn rfl (dp rfl (Pu.pickF rfl rfl) ?_)))))))
    obtain rfl := sj H
    exact hJ5 _ ⟨rfl, rfl, rfl, rfl, trivial⟩
 ·intro z2 hz2 HX2 K3 hJ2
  refine T.block ?_
  refine T.loopA (γ := Unit) hz2 [(0, _), (3, _)] (fun v32 _ => [(6, .int .i64 v32)]) (fun v32 _ => Sat w [blk b1 [.int .i64 a1_x.turn, .int .i64 a1_x.player, .slice p1 a1_x.commands.length c1] 41]) () ⟨rfl, rfl, trivial⟩ ⟨rfl, trivial⟩ (fun w s => s) ?_
  rintro v32 ⟨⟩ y33 H hd2 KL2 hL2
  try dsimp only [Ex.then] at H
  refine cq [(6, _), (0, _), (3, _)] ?_
  refine T.seq fun K9 hK9 => T.seq fun K10 hK10 => ?_
  refine T.drawn (fun _ => True) [(0, .pu), (1, .pu), (2, .pu), (3, .pu), (4, .pu), (5, .pu), (6, .pu), (7, .pu), (8, .rd), (9, .rd), (10, .rd), (11, .pu)] mixed (ClE.sat _ _) (by kernel_rfl) ?_
  refine dp rfl (Pu.move rfl) (dp rfl (Pu.move rfl) (dp rfl (Pu.lenSl sl22 rfl) (dp rfl (Pu.bin rfl rfl rfl) (dp rfl (Pu.move rfl) ?_))))
  refine RD.joinB H 7 19 (fun b36 => .bool b36) [(0, _), (3, _), (6, _)] ⟨rfl, rfl, rfl, trivial⟩ ?_ ?_
  ·intro b36 H
   refine RD.nil (hK10 _ _ ?_)
   refine T.cond rfl (fun hc37 => ?_) (fun hc37 => ?_)
   ·have H := ifT hc37 H
    refine T.skip (hK9 _ _ ?_)
    refine T.block (T.region (rM rfl ?_))
    obtain ⟨g38, H⟩ := gdE H
    refine rp (Pu.addS rfl rfl g38) (rA rfl (RS.nil (hL2 _ _ (v32 + 1) () H ⟨rfl, rfl, trivial⟩ ⟨rfl, trivial⟩ (fun w s => s))))
   ·have H := ifB hc37 H
    obtain rfl := hd2 _ H
    refine T.xt (hJ2 _ _ v32 () HX2 ⟨rfl, rfl, trivial⟩ ⟨rfl, trivial⟩ (fun w s => s))
  ·intro z39 H hJ35
   refine RD.splitP 12 rfl (fun hc34 => ?_) (fun hc34 => ?_)
   ·have H := ifT hc34 H
    refine dp rfl (Pu.move rfl) (dp rfl (Pu.move rfl) ?_)
    obtain ⟨g40, H⟩ := gdE H
    obtain ⟨bl41, ol42, rfl⟩ := R_ptr h0 (ne_of_pos (pos_of g40))
    refine dp rfl (Pu.indexSl sl22 rfl rfl g40) ?_
    obtain ⟨c43, hc44, ha45⟩ := R_el (α := Inp) h0 g40
    obtain ⟨u46, rfl, hu46⟩ := hc44
    obtain ⟨p47, cc48, rfl⟩ := R_form hu46
    refine dq rfl (Qt.ldZ (cs := [_, _, _]) ty41 rfl ha45 Held.base rfl) (dq rfl (Qt.ldBA (us := [_, _, _]) 0 ty41 rfl rfl rfl rfl) ?_)
    obtain ⟨x49, hx49, H⟩ := bindE H
    refine dq rfl (Qt.call (vs := [.agg #[.int .i64 ((gi a0_l v32).turn), .int .i64 ((gi a0_l v32).player), .slice p47 ((gi a0_l v32).commands).length cc48], .agg #[.int .i64 a1_x.turn, .int .i64 a1_x.player, .slice p1 a1_x.commands.length c1]]) ent51 rfl fun w s => throngref27_ahead_walk (gi a0_l v32) a1_x w ((Rd.base hu46) w s) ((Rd.base h1) w s) hx49) (dp rfl (Pu.pickT rfl rfl) ?_)
    obtain rfl := sj H
    exact hJ35 _ ⟨rfl, rfl, rfl, rfl, trivial⟩
   ·have H := ifF hc34 H
    refine dn rfl (dn rfl (dn rfl (dn rfl (dn rfl (dn rfl (dp rfl (Pu.pickF rfl rfl) ?_))))))
    obtain rfl := sj H
    exact hJ35 _ ⟨rfl, rfl, rfl, rfl, trivial⟩
theorem throngref27_Merge_walk (a0_l : List Inp) (w : World) {v0 : Value} (h0 : R (hpOf w) a0_l [v0]) {r : List Cmd × Bool} (H : throngref27_Merge a0_l = some r) : Calls Tryz.prog 74 #[v0] w fun e w' => ∃ q1 : (Option Nat × Nat), e = .returned (.tuple #[rowV q1 r.1.length, .bool r.2]) ∧ Sat w [drow 88 (rowV q1 r.1.length) r.1] w' := by
 have hm0 := R_max h0
 obtain ⟨p0, c0, rfl⟩ := R_form h0
 unfold throngref27_Merge at H
 refine T.enter (args := [_]) (S := Sat w []) Tryz.func74 rfl rfl (Sat.start w) ?_
 refine T.seq fun K1 hK1 => T.region (rA rfl (rA rfl (RS.nil (hK1 _ _ ?_))))
 refine T.seq fun K2 hK2 => T.region (rA rfl (RS.nil (hK2 _ _ ?_)))
 refine T.seq fun K3 hK3 => T.seq fun K4 hK4 => T.region (rA rfl (RS.nil (hK4 _ _ ?_)))
 refine T.joinE (σ := List Inp) (γ := (Option Nat × Nat)) H Ex.go [] trivial (fun v2 q3 => [(4, rowV q3 v2.length)]) (fun v2 q3 => Sat w [drow 41 (rowV q3 v2.length) v2]) ?_ ?_
 ·rintro v2 q3 H
  try dsimp only [Ex.then] at H
  refine Cont.conseq (fr' := [(4, _)]) ?_ ⟨rfl, trivial⟩ (fun _ s => s)
  refine id (hK3 _ _ ?_)
  refine T.seq fun K5 hK5 => T.region (rA rfl (RS.nil (hK5 _ _ ?_)))
  refine T.seq fun K6 hK6 => T.seq fun K7 hK7 => T.region (rA rfl (RS.nil (hK7 _ _ ?_)))
  refine T.joinE (σ := List Cmd) (γ := (Option Nat × Nat)) H (fun s => s) [] trivial (fun v5 q6 => [(8, rowV q6 v5.length)]) (fun v5 q6 => Sat w [drow 41 (rowV q3 v2.length) v2, drow 88 (rowV q6 v5.length) v5]) ?_ ?_
  ·rintro v5 q6 H
   try dsimp only [Ex.then] at H
   refine Cont.conseq (fr' := [(8, _)]) ?_ ⟨rfl, trivial⟩ (fun _ s => s)
   refine id (hK6 _ _ ?_)
   refine T.seq fun K8 hK8 => T.region (rM rfl (rA rfl (rA rfl (RS.nil (hK8 _ _ ?_)))))
   obtain rfl := sj H
   refine T.rt (Cont.ret2 rfl rfl rfl fun w' s => ?_)
   exact ⟨q6, rfl, s.pick [1] (by decide) rfl⟩
  ·intro z4 hz4 HX4 hJ4
   refine T.block ?_
   refine T.loopA (γ := (Option Nat × Nat)) hz4 [(4, _)] (fun (l7, v9) q8 => [(8, rowV q8 l7.length), (9, .int .i64 v9)]) (fun (l7, v9) q8 => Sat w [drow 41 (rowV q3 v2.length) v2, drow 88 (rowV q8 l7.length) l7]) (none, 0) ⟨rfl, trivial⟩ ⟨rfl, rfl, trivial⟩ (fun w s => (s.nilRowG (α := Cmd) 88).pick [0, 1] (by decide) rfl) ?_
   rintro ⟨l7, v9⟩ q8 y10 H hd4 KL4 hL4
   try dsimp only [Ex.then] at H
   refine cq [(8, _), (9, _), (4, _)] ?_
   refine T.seq fun K9 hK9 => T.seq fun K10 hK10 => T.region (rM rfl (rM rfl (rp (Pu.lenSl sl22 rfl) (rp (Pu.bin rfl rfl rfl) (RS.nil (hK10 _ _ ?_))))))
   refine T.condP rfl (fun hc11 => ?_) (fun hc11 => ?_)
   ·have H := ifT hc11 H
    refine T.skip (hK9 _ _ (cq [(4, _), (8, _), (9, _)] ?_))
    refine T.seq fun K11 hK11 => T.block (T.region (rM rfl (rM rfl (rM rfl ?_))))
    obtain ⟨g12, H⟩ := gdE H
    refine RS.know (p := ∃ g cap, q3 = (some g, cap)) (fun w s => (s.row_someG (k := 0) rfl (pos_of g12))) ?_
    rintro ⟨gg13, cc14, rfl⟩
    refine rp (Pu.indexSl sl22 rfl rfl g12) (rp (Pu.fieldAddr fd41_2 rfl) ?_)
    refine RS.exP (fun w s => s.freeze 0 rfl) fun hh15 hz16 => ?_
    obtain ⟨c17, hc18, ha19⟩ := R_el (α := Inp) (drow_R hz16) g12
    obtain ⟨u20, rfl, hu20⟩ := hc18
    obtain ⟨p21, cc22, rfl⟩ := R_form hu20
    refine rq (Qt.ldZ1 (f := 2) (cs := [_, _, _]) ty39 rfl ha19 (Held.fz 0 rfl) rfl) ?_
    obtain ⟨x23, hx23, H⟩ := bindE H
    refine RS.solid (Sd.callN (vs := [.slice p21 ((gi v2 v9).commands).length cc22]) ent45 rfl (fun w s => throngref0_CopyCommands_walk ((gi v2 v9).commands) w ((Rd.ofFz 0 rfl hu20) w s) hx23)) rfl rfl fun q24 => ?_
    obtain ⟨g26, H⟩ := gdE H
    refine RS.solid (Sd.appD (α := Cmd) 1 2 rfl rfl rfl sl39 zr88 rfl rfl rfl g26 (by decide)) rfl rfl fun q25 => rA rfl (RS.nil (hK11 _ _ (cq [(4, _), (8, _), (9, _)] ?_)))
    refine T.region (rM rfl ?_)
    obtain ⟨g27, H⟩ := gdE H
    refine rp (Pu.addS rfl rfl g27) (rA rfl (RS.nil (hL4 _ _ ((l7 ++ x23), (v9 + 1)) q25 H ⟨rfl, trivial⟩ ⟨rfl, rfl, trivial⟩ (fun w s => (Sat.thaw hz16 0 rfl s).pick [0, 1] (by decide) rfl))))
   ·have H := ifF hc11 H
    obtain rfl := hd4 _ H
    refine T.xt (hJ4 _ _ l7 q8 HX4 trivial ⟨rfl, trivial⟩ (fun w s => s))
 ·intro z1 hz1 HX1 hJ1
  refine T.block ?_
  refine T.loopA (γ := (Option Nat × Nat)) hz1 [(0, _)] (fun (l28, v30) q29 => [(4, rowV q29 l28.length), (5, .int .i64 v30)]) (fun (l28, v30) q29 => Sat w [drow 41 (rowV q29 l28.length) l28]) (none, 0) ⟨rfl, trivial⟩ ⟨rfl, rfl, trivial⟩ (fun w s => (s.nilRowG (α := Inp) 41).pick [0] (by decide) rfl) ?_
  rintro ⟨l28, v30⟩ q29 y31 H hd1 KL1 hL1
  try dsimp only [Ex.then] at H
  refine cq [(4, _), (5, _), (0, _)] ?_
  refine T.seq fun K12 hK12 => T.seq fun K13 hK13 => T.region (rM rfl (rM rfl (rp (Pu.lenSl sl22 rfl) (rp (Pu.bin rfl rfl rfl) (RS.nil (hK13 _ _ ?_))))))
  refine T.condP rfl (fun hc32 => ?_) (fun hc32 => ?_)
  ·have H := ifT hc32 H
   refine T.skip (hK12 _ _ (cq [(0, _), (4, _), (5, _)] ?_))
   refine T.seq fun K14 hK14 => T.block (T.seq fun K15 hK15 => T.seq fun K16 hK16 => ?_)
   refine T.drawn (fun _ => True) [(0, .pu), (1, .pu), (2, .pu), (3, .rd), (4, .rd), (5, .pu), (6, .pu), (7, .pu), (8, .pu), (9, .pu), (10, .pu), (11, .rd), (12, .pu), (13, .pu), (14, .pu), (15, .rd), (16, .pu), (17, .pu)] mixed (ClE.sat _ _) (by kernel_rfl) ?_
   refine dp rfl (Pu.move rfl) (dp rfl (Pu.move rfl) ?_)
   obtain ⟨g33, H⟩ := gdE H
   obtain ⟨bl34, ol35, rfl⟩ := R_ptr h0 (ne_of_pos (pos_of g33))
   refine dp rfl (Pu.indexSl sl22 rfl rfl g33) ?_
   obtain ⟨c36, hc37, ha38⟩ := R_el (α := Inp) h0 g33
   obtain ⟨u39, rfl, hu39⟩ := hc37
   obtain ⟨p40, cc41, rfl⟩ := R_form hu39
   refine dq rfl (Qt.ldZ (cs := [_, _, _]) ty41 rfl ha38 Held.base rfl) ?_
   obtain ⟨x42, hx42, H⟩ := bindE H
   refine dq rfl (Qt.call (vs := [.agg #[.int .i64 ((gi a0_l v30).turn), .int .i64 ((gi a0_l v30).player), .slice p40 ((gi a0_l v30).commands).length cc41]]) ent50 rfl fun w s => throngref27_May_walk (gi a0_l v30) w ((Rd.base hu39) w s) hx42) (dp rfl (Pu.not rfl) (dp rfl (Pu.move rfl) ?_))
   obtain ⟨g45, H⟩ := gdE H
   obtain ⟨g46, H⟩ := gdE H
   refine RD.joinV 11 33 (.bool (decide (((!x42) = true) ∨ (¬ (gi a0_l v30).turn = (gi a0_l (0 : Int)).turn)))) [(0, _), (4, _), (5, _)] ⟨rfl, rfl, rfl, trivial⟩ ?_ ?_
   ·refine RD.nil (hK16 _ _ ?_)
    refine T.condP rfl (fun hc47 => ?_) (fun hc47 => ?_)
    ·have H := ifT hc47 H
     refine cq [] ?_
     refine T.seq fun K17 hK17 => T.region (rA rfl (rA rfl (RS.nil (hK17 _ _ ?_))))
     obtain rfl := hd1 _ H
     have H := HX1
     obtain rfl := sj H
     refine T.rt (Cont.ret2 rfl rfl rfl fun w' s => ?_)
     exact ⟨(none, 0), rfl, (s.nilRowG (α := Cmd) 88).pick [1] (by decide) rfl⟩
    ·have H := ifF hc47 H
     refine T.skip (hK15 _ _ ?_)
     refine T.seq fun K18 hK18 => T.region (rM rfl (rM rfl (rM rfl ?_)))
     obtain ⟨g48, H⟩ := gdE H
     refine rp (Pu.indexSl sl22 rfl rfl g48) ?_
     obtain ⟨c49, hc50, ha51⟩ := R_el (α := Inp) h0 g48
     obtain ⟨u52, rfl, hu52⟩ := hc50
     obtain ⟨p53, cc54, rfl⟩ := R_form hu52
     refine rq (Qt.ldZ (cs := [_, _, _]) ty41 rfl ha51 Held.base rfl) ?_
     obtain ⟨x55, hx55, H⟩ := bindE H
     refine RS.solid (Sd.callN (vs := [rowV q29 l28.length, .agg #[.int .i64 ((gi a0_l v30).turn), .int .i64 ((gi a0_l v30).player), .slice p53 ((gi a0_l v30).commands).length cc54]]) ent59 rfl (fun w s => throngref27_Put_walk l28 (gi a0_l v30) w ((Rd.ofG 0 rfl) w s) ((Rd.base hu52) w s) hx55)) rfl rfl fun q56 => rM rfl (rp (Pu.extract rfl rfl) (rp (Pu.extract rfl rfl) (rA rfl (rA rfl (RS.nil (hK18 _ _ (cq [(0, _), (5, _), (6, _), (7, _)] ?_)))))))
     refine T.seq fun K19 hK19 => T.seq fun K20 hK20 => T.region (rM rfl (rp (Pu.bin rfl rfl rfl) (RS.nil (hK20 _ _ ?_))))
     refine T.condP rfl (fun hc57 => ?_) (fun hc57 => ?_)
     ·have H := ifT hc57 H
      refine cq [] ?_
      refine T.seq fun K21 hK21 => T.region (rA rfl (rA rfl (RS.nil (hK21 _ _ ?_))))
      obtain rfl := hd1 _ H
      have H := HX1
      obtain rfl := sj H
      refine T.rt (Cont.ret2 rfl rfl rfl fun w' s => ?_)
      exact ⟨(none, 0), rfl, (s.nilRowG (α := Cmd) 88).pick [2] (by decide) rfl⟩
     ·have H := ifF hc57 H
      refine T.skip (hK19 _ _ (cq [(0, _), (5, _), (6, _)] ?_))
      refine T.region (rM rfl (rA rfl (RS.nil (hK14 _ _ ?_))))
      refine T.region (rM rfl ?_)
      obtain ⟨g58, H⟩ := gdE H
      refine rp (Pu.addS rfl rfl g58) (rA rfl (RS.nil (hL1 _ _ (x55.1, (v30 + 1)) q56 H ⟨rfl, trivial⟩ ⟨rfl, rfl, trivial⟩ (fun w s => s.pick [1] (by decide) rfl))))
   ·intro hJ44
    refine RD.split 22 rfl (fun hc43 => ?_) (fun hc43 => ?_)
    ·refine dn rfl (dn rfl (dn rfl (dn rfl (dn rfl (dn rfl (dn rfl (dn rfl (dn rfl (dn rfl (dp rfl (Pu.pickT rfl rfl) ?_))))))))))
     exact hJ44 _ ⟨dOrT hc43, rfl, rfl, rfl, trivial⟩
    ·refine dp rfl (Pu.move rfl) (dp rfl (Pu.move rfl) (dp rfl (Pu.indexSl sl22 rfl rfl (g45 (bne_of hc43))) (dp rfl (Pu.fieldAddr fd41_0 rfl) (dq rfl (Qt.ldF (α := Inp) (Rd.base h0) ty3 rfl rfl (g45 (bne_of hc43)) (by rintro _ _ ⟨_, rfl, _⟩; rfl)) (dp rfl (Pu.move rfl) (dp rfl (Pu.indexSl sl22 rfl rfl (g46 (bne_of hc43))) (dp rfl (Pu.fieldAddr fd41_0 rfl) (dq rfl (Qt.ldF (α := Inp) (Rd.base h0) ty3 rfl rfl (g46 (bne_of hc43)) (by rintro _ _ ⟨_, rfl, _⟩; rfl)) (dp rfl (Pu.bin rfl rfl rfl) (dp rfl (Pu.pickF rfl rfl) ?_))))))))))
     exact hJ44 _ ⟨dOrF (bne_of hc43), rfl, rfl, rfl, trivial⟩
  ·have H := ifF hc32 H
   obtain rfl := hd1 _ H
   refine T.xt (hJ1 _ _ l28 q29 HX1 trivial ⟨rfl, trivial⟩ (fun w s => s))
theorem throngref27_Take_walk (a0_l : List Inp) (a1_turn : Int) (w : World) {v0 : Value} (h0 : R (hpOf w) a0_l [v0]) {r : List Inp × List Inp} (H : throngref27_Take a0_l a1_turn = some r) : Calls Tryz.prog 73 #[v0, .int .i64 a1_turn] w fun e w' => ∃ g : (Option Nat × Nat) × (Option Nat × Nat), e = .returned (.tuple #[rowV g.1 r.1.length, rowV g.2 r.2.length]) ∧ Sat w [drow 41 (rowV g.1 r.1.length) r.1, drow 41 (rowV g.2 r.2.length) r.2] w' := by
 have hm0 := R_max h0
 obtain ⟨p0, c0, rfl⟩ := R_form h0
 unfold throngref27_Take at H
 refine T.enter (args := [_, _]) (S := Sat w []) Tryz.func73 rfl rfl (Sat.start w) ?_
 refine T.seq fun K1 hK1 => T.region (rA rfl (rA rfl (RS.nil (hK1 _ _ ?_))))
 refine T.seq fun K2 hK2 => T.region (rA rfl (rA rfl (RS.nil (hK2 _ _ ?_))))
 refine T.seq fun K3 hK3 => T.seq fun K4 hK4 => T.region (rA rfl (RS.nil (hK4 _ _ ?_)))
 refine T.joinE (σ := List Inp × List Inp) (γ := (Option Nat × Nat) × (Option Nat × Nat)) H (fun s => s) [] trivial (fun (v2, v4) (q3, q5) => [(6, rowV q3 v2.length), (7, rowV q5 v4.length)]) (fun (v2, v4) (q3, q5) => Sat w [drow 41 (rowV q3 v2.length) v2, drow 41 (rowV q5 v4.length) v4]) ?_ ?_
 ·rintro ⟨v2, v4⟩ ⟨q3, q5⟩ H
  try dsimp only [Ex.then] at H
  refine Cont.conseq (fr' := [(6, _), (7, _)]) ?_ ⟨rfl, rfl, trivial⟩ (fun _ s => s)
  refine id (hK3 _ _ ?_)
  refine T.seq fun K5 hK5 => T.region (rM rfl (rM rfl (rA rfl (rA rfl (RS.nil (hK5 _ _ (cq [(4, _), (5, _)] ?_)))))))
  obtain rfl := sj H
  refine T.rt (Cont.ret2 rfl rfl rfl fun w' s => ?_)
  exact ⟨⟨q3, q5⟩, rfl, s.pick [0, 1] (by decide) rfl⟩
 ·intro z1 hz1 HX1 hJ1
  refine T.block ?_
  refine T.loopA (γ := (Option Nat × Nat) × (Option Nat × Nat)) hz1 [(0, _), (1, _)] (fun (l6, l8, v10) (q7, q9) => [(6, rowV q7 l6.length), (7, rowV q9 l8.length), (8, .int .i64 v10)]) (fun (l6, l8, v10) (q7, q9) => Sat w [drow 41 (rowV q7 l6.length) l6, drow 41 (rowV q9 l8.length) l8]) ((none, 0), (none, 0)) ⟨rfl, rfl, trivial⟩ ⟨rfl, rfl, rfl, trivial⟩ (fun w s => ((s.nilRowG (α := Inp) 41).nilRowG (α := Inp) 41).pick [0, 1] (by decide) rfl) ?_
  rintro ⟨l6, l8, v10⟩ ⟨q7, q9⟩ y11 H hd1 KL1 hL1
  try dsimp only [Ex.then] at H
  refine cq [(6, _), (7, _), (8, _), (0, _), (1, _)] ?_
  refine T.seq fun K6 hK6 => T.seq fun K7 hK7 => T.region (rM rfl (rM rfl (rp (Pu.lenSl sl22 rfl) (rp (Pu.bin rfl rfl rfl) (RS.nil (hK7 _ _ ?_))))))
  refine T.condP rfl (fun hc12 => ?_) (fun hc12 => ?_)
  ·have H := ifT hc12 H
   refine T.skip (hK6 _ _ (cq [(0, _), (1, _), (6, _), (7, _), (8, _)] ?_))
   refine T.seq fun K8 hK8 => T.block (T.seq fun K9 hK9 => T.region (rM rfl (rM rfl ?_)))
   obtain ⟨g13, H⟩ := gdE H
   obtain ⟨bl14, ol15, rfl⟩ := R_ptr h0 (ne_of_pos (pos_of g13))
   refine rp (Pu.indexSl sl22 rfl rfl g13) (rp (Pu.fieldAddr fd41_0 rfl) (rq (Qt.ldF (α := Inp) (Rd.base h0) ty3 rfl rfl g13 (by rintro _ _ ⟨_, rfl, _⟩; rfl)) (rM rfl (rp (Pu.bin rfl rfl rfl) (RS.nil (hK9 _ _ ?_))))))
   refine T.condP rfl (fun hc16 => ?_) (fun hc16 => ?_)
   ·have H := ifT hc16 H
    refine cq [(0, _), (1, _), (6, _), (7, _), (8, _)] ?_
    refine T.region (rM rfl (rM rfl (rM rfl ?_)))
    obtain ⟨g17, H⟩ := gdE H
    refine rp (Pu.indexSl sl22 rfl rfl g17) ?_
    obtain ⟨c18, hc19, ha20⟩ := R_el (α := Inp) h0 g17
    obtain ⟨u21, rfl, hu21⟩ := hc19
    obtain ⟨p22, cc23, rfl⟩ := R_form hu21
    refine rq (Qt.ldZ (cs := [_, _, _]) ty41 rfl ha20 Held.base rfl) ?_
    obtain ⟨x24, hx24, H⟩ := bindE H
    refine RS.solid (Sd.callN (vs := [.agg #[.int .i64 ((gi a0_l v10).turn), .int .i64 ((gi a0_l v10).player), .slice p22 ((gi a0_l v10).commands).length cc23]]) ent49 rfl (fun w s => throngref0_CopyInput_walk (gi a0_l v10) w ((Rd.base hu21) w s) hx24)) rfl rfl fun q25 => RS.solid (Sd.litS (cs := [_, _, _]) sl22 zr41 rfl rfl rfl rfl rfl) rfl rfl fun b26 => ?_
    obtain ⟨g28, H⟩ := gdE H
    refine RS.solid (Sd.pre (fun w s => (Sat.starAt 2 4 (Sat.starAt 2 5 ((s.noStars).noStars) rfl rfl (by decide)) rfl rfl (by decide))) (Sd.appL (α := Inp) 0 3 2 ([x24] : List Inp) rfl rfl rfl (DRF.cons' (α := Inp) (x := x24) (fun _ h => ⟨_, rfl, h⟩) DRF.nil') rfl sl22 zr41 rfl rfl rfl rfl g28 (by decide))) rfl rfl fun q27 => rA rfl (RS.nil (hK8 _ _ (cq [(0, _), (1, _), (6, _), (7, _), (8, _)] ?_)))
    refine T.region (rM rfl ?_)
    obtain ⟨g29, H⟩ := gdE H
    refine rp (Pu.addS rfl rfl g29) (rA rfl (RS.nil (hL1 _ _ ((l6 ++ ([x24] : List Inp)), l8, (v10 + 1)) (q27, q9) H ⟨rfl, rfl, trivial⟩ ⟨rfl, rfl, rfl, trivial⟩ (fun w s => s.pick [0, 1] (by decide) rfl))))
   ·have H := ifF hc16 H
    refine cq [(0, _), (1, _), (6, _), (7, _), (8, _)] ?_
    refine T.region (rM rfl (rM rfl (rM rfl ?_)))
    obtain ⟨g30, H⟩ := gdE H
    refine rp (Pu.indexSl sl22 rfl rfl g30) ?_
    obtain ⟨c31, hc32, ha33⟩ := R_el (α := Inp) h0 g30
    obtain ⟨u34, rfl, hu34⟩ := hc32
    obtain ⟨p35, cc36, rfl⟩ := R_form hu34
    refine rq (Qt.ldZ (cs := [_, _, _]) ty41 rfl ha33 Held.base rfl) ?_
    obtain ⟨x37, hx37, H⟩ := bindE H
    refine RS.solid (Sd.callN (vs := [.agg #[.int .i64 ((gi a0_l v10).turn), .int .i64 ((gi a0_l v10).player), .slice p35 ((gi a0_l v10).commands).length cc36]]) ent49 rfl (fun w s => throngref0_CopyInput_walk (gi a0_l v10) w ((Rd.base hu34) w s) hx37)) rfl rfl fun q38 => RS.solid (Sd.litS (cs := [_, _, _]) sl22 zr41 rfl rfl rfl rfl rfl) rfl rfl fun b39 => ?_
    obtain ⟨g41, H⟩ := gdE H
    refine RS.solid (Sd.pre (fun w s => (Sat.starAt 2 4 (Sat.starAt 2 5 ((s.noStars).noStars) rfl rfl (by decide)) rfl rfl (by decide))) (Sd.appL (α := Inp) 1 3 2 ([x37] : List Inp) rfl rfl rfl (DRF.cons' (α := Inp) (x := x37) (fun _ h => ⟨_, rfl, h⟩) DRF.nil') rfl sl22 zr41 rfl rfl rfl rfl g41 (by decide))) rfl rfl fun q40 => rA rfl (RS.nil (hK8 _ _ (cq [(0, _), (1, _), (6, _), (7, _), (8, _)] ?_)))
    refine T.region (rM rfl ?_)
    obtain ⟨g42, H⟩ := gdE H
    refine rp (Pu.addS rfl rfl g42) (rA rfl (RS.nil (hL1 _ _ (l6, (l8 ++ ([x37] : List Inp)), (v10 + 1)) (q7, q40) H ⟨rfl, rfl, trivial⟩ ⟨rfl, rfl, rfl, trivial⟩ (fun w s => s.pick [0, 1] (by decide) rfl))))
  ·have H := ifF hc12 H
   obtain rfl := hd1 _ H
   refine T.xt (hJ1 _ _ (l6, l8) (q7, q9) HX1 trivial ⟨rfl, rfl, trivial⟩ (fun w s => s))
theorem throngref27_least_walk (a0_l : List Int) (w : World) {v0 : Value} (h0 : R (hpOf w) a0_l [v0]) {r : Int} (H : throngref27_least a0_l = some r) : Calls Tryz.prog 25 #[v0] w fun e w' => e = .returned (.int .i64 r) ∧ Ext w w' := by
 have hm0 := R_max h0
 obtain ⟨p0, c0, rfl⟩ := R_form h0
 unfold throngref27_least at H
 refine T.enter (args := [_]) (S := Sat w []) Tryz.func25 rfl rfl (Sat.start w) ?_
 refine T.seq fun K1 hK1 => T.region (rA rfl (RS.nil (hK1 _ _ ?_)))
 refine T.seq fun K2 hK2 => T.region (rM rfl ?_)
 obtain ⟨g1, H⟩ := gdE H
 obtain ⟨bl2, ol3, rfl⟩ := R_ptr h0 (ne_of_pos (pos_of g1))
 refine rp (Pu.indexSl sl23 rfl rfl g1) (rq (Qt.ld0 (α := Int) (Rd.base h0) ty3 rfl rfl g1 (by rintro _ _ rfl; rfl)) (rA rfl (RS.nil (hK2 _ _ (cq [(0, _), (3, _)] ?_)))))
 refine T.seq fun K3 hK3 => T.seq fun K4 hK4 => T.region (rA rfl (RS.nil (hK4 _ _ ?_)))
 refine T.joinE (σ := Int) (γ := Unit) H (fun s => s) [] trivial (fun v5 _ => [(3, .int .i64 v5)]) (fun v5 _ => Sat w []) ?_ ?_
 ·rintro v5 ⟨⟩ H
  try dsimp only [Ex.then] at H
  refine Cont.conseq (fr' := [(3, _)]) ?_ ⟨rfl, trivial⟩ (fun _ s => s)
  refine id (hK3 _ _ ?_)
  refine T.seq fun K5 hK5 => T.region (rM rfl (rA rfl (RS.nil (hK5 _ _ ?_))))
  obtain rfl := sj H
  refine T.rt (Cont.ret1 rfl rfl fun w' s => ?_)
  exact ⟨rfl, s.ext⟩
 ·intro z4 hz4 HX4 hJ4
  refine T.block ?_
  refine T.loopA (γ := Unit) hz4 [(0, _)] (fun (v6, v7) _ => [(3, .int .i64 v6), (4, .int .i64 v7)]) (fun (v6, v7) _ => Sat w []) () ⟨rfl, trivial⟩ ⟨rfl, rfl, trivial⟩ (fun w s => s) ?_
  rintro ⟨v6, v7⟩ ⟨⟩ y8 H hd4 KL4 hL4
  try dsimp only [Ex.then] at H
  refine cq [(3, _), (4, _), (0, _)] ?_
  refine T.seq fun K6 hK6 => T.seq fun K7 hK7 => T.region (rM rfl (rM rfl (rp (Pu.lenSl sl23 rfl) (rp (Pu.bin rfl rfl rfl) (RS.nil (hK7 _ _ ?_))))))
  refine T.condP rfl (fun hc9 => ?_) (fun hc9 => ?_)
  ·have H := ifT hc9 H
   refine T.skip (hK6 _ _ (cq [(0, _), (3, _), (4, _)] ?_))
   refine T.seq fun K8 hK8 => T.block (T.region (rM rfl (rM rfl (rM rfl ?_))))
   obtain ⟨g10, H⟩ := gdE H
   refine rp (Pu.indexSl sl23 rfl rfl g10) (rq (Qt.ld0 (α := Int) (Rd.base h0) ty3 rfl rfl g10 (by rintro _ _ rfl; rfl)) (rp (Pu.minI rfl rfl) (rA rfl (RS.nil (hK8 _ _ (cq [(0, _), (3, _), (4, _)] ?_))))))
   refine T.region (rM rfl ?_)
   obtain ⟨g11, H⟩ := gdE H
   refine rp (Pu.addS rfl rfl g11) (rA rfl (RS.nil (hL4 _ _ ((min v6 (gi a0_l v7)), (v7 + 1)) () H ⟨rfl, trivial⟩ ⟨rfl, rfl, trivial⟩ (fun w s => s))))
  ·have H := ifF hc9 H
   obtain rfl := hd4 _ H
   refine T.xt (hJ4 _ _ v6 () HX4 trivial ⟨rfl, trivial⟩ (fun w s => s))
theorem throngref27_Peer_walk (a0_p : Per) (w : World) {v0 v1 v2 v3 v4 : Value} (h0 : R (hpOf w) a0_p.mine [v0]) (h1 : R (hpOf w) a0_p.inputs [v1]) (h2 : R (hpOf w) a0_p.has [v2]) (h3 : R (hpOf w) a0_p.acked [v3]) (h4 : R (hpOf w) a0_p.hashes [v4]) {r : Bool} (H : throngref27_Peer a0_p = some r) : Calls Tryz.prog 12 #[.agg #[.int .i64 a0_p.id, .int .i64 a0_p.players, .int .i64 a0_p.delay, .int .i64 a0_p.turn, .int .i64 a0_p.said, v0, v1, v2, v3, v4, .bool a0_p.split]] w fun e w' => e = .returned (.bool r) ∧ Ext w w' := by
 have hm0 := R_max h0
 obtain ⟨p0, c0, rfl⟩ := R_form h0
 have hm1 := R_max h1
 obtain ⟨p1, c1, rfl⟩ := R_form h1
 have hm2 := R_max h2
 obtain ⟨p2, c2, rfl⟩ := R_form h2
 have hm3 := R_max h3
 obtain ⟨p3, c3, rfl⟩ := R_form h3
 have hm4 := R_max h4
 obtain ⟨p4, c4, rfl⟩ := R_form h4
 unfold throngref27_Peer at H
 refine T.enter (args := [_]) (S := Sat w []) Tryz.func12 rfl rfl (Sat.start w) ?_
 refine T.seq fun K1 hK1 => T.region (RS.solid (Sd.box (cs := [_, _, _, _, _, _, _, _, _, _, _]) rfl rfl) rfl rfl fun b1 => rA rfl (RS.nil (hK1 _ _ ?_)))
 refine T.seq fun K2 hK2 => T.seq fun K3 hK3 => T.region (rp (Pu.fieldAddr fd26_1 rfl) (rq (Qt.ldB 0 ty3 rfl rfl rfl) (rp (Pu.bin rfl rfl rfl) (rM rfl ?_))))
 refine RS.joinV 4 15 (.bool (decide ((a0_p.players < 1) ∨ (8 < a0_p.players)))) [(1, _)] ⟨rfl, trivial⟩ ?_ ?_
 ·refine rM rfl ?_
  refine RS.joinV 4 20 (.bool (decide (((a0_p.players < 1) ∨ (8 < a0_p.players)) ∨ (a0_p.id < 1)))) [(1, _)] ⟨rfl, trivial⟩ ?_ ?_
  ·refine rM rfl ?_
   refine RS.joinV 6 27 (.bool (decide ((((a0_p.players < 1) ∨ (8 < a0_p.players)) ∨ (a0_p.id < 1)) ∨ (a0_p.players < a0_p.id)))) [(1, _)] ⟨rfl, trivial⟩ ?_ ?_
   ·refine rM rfl ?_
    refine RS.joinV 4 32 (.bool (decide (((((a0_p.players < 1) ∨ (8 < a0_p.players)) ∨ (a0_p.id < 1)) ∨ (a0_p.players < a0_p.id)) ∨ (a0_p.delay < 1)))) [(1, _)] ⟨rfl, trivial⟩ ?_ ?_
    ·refine rM rfl ?_
     refine RS.joinV 4 37 (.bool (decide ((((((a0_p.players < 1) ∨ (8 < a0_p.players)) ∨ (a0_p.id < 1)) ∨ (a0_p.players < a0_p.id)) ∨ (a0_p.delay < 1)) ∨ (8 < a0_p.delay)))) [(1, _)] ⟨rfl, trivial⟩ ?_ ?_
     ·refine rM rfl ?_
      refine RS.joinB H 5 43 (fun b14 => .bool b14) [(1, _)] ⟨rfl, trivial⟩ ?_ ?_
      ·intro b14 H
       refine rM rfl ?_
       obtain ⟨g17, H⟩ := gdE H
       refine RS.joinV 7 51 (.bool (decide ((b14 = true) ∨ (a0_p.said < (a0_p.delay - 1))))) [(1, _)] ⟨rfl, trivial⟩ ?_ ?_
       ·refine rM rfl ?_
        obtain ⟨g20, H⟩ := gdE H
        obtain ⟨g21, H⟩ := gdE H
        refine RS.joinV 11 63 (.bool (decide (((b14 = true) ∨ (a0_p.said < (a0_p.delay - 1))) ∨ ((min ((a0_p.turn + a0_p.delay) - 1) 1099511627776) < a0_p.said)))) [(1, _)] ⟨rfl, trivial⟩ ?_ ?_
        ·refine rM rfl ?_
         refine RS.joinB H 5 69 (fun b24 => .bool b24) [(1, _)] ⟨rfl, trivial⟩ ?_ ?_
         ·intro b24 H
          refine rM rfl ?_
          refine RS.joinB H 5 75 (fun b27 => .bool b27) [(1, _)] ⟨rfl, trivial⟩ ?_ ?_
          ·intro b27 H
           refine rM rfl ?_
           refine RS.joinV 7 83 (.bool (decide ((b27 = true) ∨ (¬ (a0_p.has.length : Int) = a0_p.players)))) [(1, _)] ⟨rfl, trivial⟩ ?_ ?_
           ·refine rM rfl ?_
            refine RS.joinV 7 91 (.bool (decide (((b27 = true) ∨ (¬ (a0_p.has.length : Int) = a0_p.players)) ∨ (¬ (a0_p.acked.length : Int) = a0_p.players)))) [(1, _)] ⟨rfl, trivial⟩ ?_ ?_
            ·refine rM rfl ?_
             refine RS.joinV 5 97 (.bool (decide ((((b27 = true) ∨ (¬ (a0_p.has.length : Int) = a0_p.players)) ∨ (¬ (a0_p.acked.length : Int) = a0_p.players)) ∨ (16 < (a0_p.hashes.length : Int))))) [(1, _)] ⟨rfl, trivial⟩ ?_ ?_
             ·refine rM rfl ?_
              refine RS.joinV 7 105 (.bool (decide (((((b27 = true) ∨ (¬ (a0_p.has.length : Int) = a0_p.players)) ∨ (¬ (a0_p.acked.length : Int) = a0_p.players)) ∨ (16 < (a0_p.hashes.length : Int))) ∨ (a0_p.turn < (a0_p.hashes.length : Int))))) [(1, _)] ⟨rfl, trivial⟩ ?_ ?_
              ·refine RS.nil (hK3 _ _ ?_)
               refine T.condP rfl (fun hc36 => ?_) (fun hc36 => ?_)
               ·have H := ifT hc36 H
                refine T.seq fun K4 hK4 => T.region (rA rfl (RS.nil (hK4 _ _ ?_)))
                obtain rfl := sj H
                refine T.rt (Cont.ret1 rfl rfl fun w' s => ?_)
                exact ⟨rfl, s.ext⟩
               ·have H := ifF hc36 H
                refine T.skip (hK2 _ _ ?_)
                refine T.seq fun K5 hK5 => T.region (rp (Pu.fieldAddr fd26_3 rfl) (rq (Qt.ldB 0 ty3 rfl rfl rfl) ?_))
                obtain ⟨g37, H⟩ := gdE H
                refine rp (Pu.addS rfl rfl g37) (rp (Pu.minI rfl rfl) (rA rfl (RS.nil (hK5 _ _ (cq [(1, _), (3, _)] ?_)))))
                refine T.seq fun K6 hK6 => T.seq fun K7 hK7 => ?_
                refine T.drawn (fun _ => True) [(0, .pu), (1, .rd), (2, .pu), (3, .rd), (4, .pu), (5, .pu), (6, .rd), (7, .pu), (8, .pu), (9, .pu), (10, .rd), (11, .pu), (12, .pu), (13, .pu), (14, .rd), (15, .pu), (16, .rd), (17, .pu), (18, .pu), (19, .rd), (20, .rd), (21, .pu), (22, .pu), (23, .pu), (24, .pu), (25, .rd), (26, .pu), (27, .rd), (28, .pu), (29, .pu), (30, .rd), (31, .pu), (32, .rd), (33, .pu), (34, .pu), (35, .pu), (36, .pu), (37, .rd), (38, .pu), (39, .rd), (40, .pu), (41, .pu), (42, .rd), (43, .pu), (44, .rd), (45, .pu), (46, .pu)] mixed (ClE.sat _ _) (by kernel_rfl) ?_
                refine dp rfl (Pu.fieldAddr fd26_7 rfl) (dq rfl (Qt.ldB 0 ty23 rfl rfl rfl) (dp rfl (Pu.fieldAddr fd26_2 rfl) (dq rfl (Qt.ldB 0 ty3 rfl rfl rfl) ?_)))
                obtain ⟨g38, H⟩ := gdE H
                refine dp rfl (Pu.subS rfl rfl g38) (dp rfl (Pu.fieldAddr fd26_3 rfl) (dq rfl (Qt.ldB 0 ty3 rfl rfl rfl) ?_))
                obtain ⟨g39, H⟩ := gdE H
                refine dp rfl (Pu.subS rfl rfl g39) (dp rfl (Pu.maxI rfl rfl) (dp rfl (Pu.move rfl) ?_))
                obtain ⟨x40, hx40, H⟩ := bindE H
                refine dq rfl (Qt.call (vs := [.slice p2 a0_p.has.length c2, .int .i64 (max (a0_p.delay - 1) (a0_p.turn - 1)), .int .i64 (min (a0_p.turn + 16) 1099511627776)]) ent24 rfl fun w s => throngref0_Between_walk a0_p.has (max (a0_p.delay - 1) (a0_p.turn - 1)) (min (a0_p.turn + 16) 1099511627776) w ((Rd.base h2) w s) hx40) (dp rfl (Pu.not rfl) (dp rfl (Pu.move rfl) ?_))
                refine RD.joinB H 10 132 (fun b43 => .bool b43) [(1, _)] ⟨rfl, trivial⟩ ?_ ?_
                ·intro b43 H
                 refine dp rfl (Pu.move rfl) ?_
                 obtain ⟨g46, H⟩ := gdE H
                 obtain ⟨g47, H⟩ := gdE H
                 refine RD.joinV 11 144 (.bool (decide ((b43 = true) ∨ (¬ (gi a0_p.has (a0_p.id - 1)) = a0_p.said)))) [(1, _)] ⟨rfl, trivial⟩ ?_ ?_
                 ·refine dp rfl (Pu.move rfl) ?_
                  obtain ⟨g50, H⟩ := gdE H
                  obtain ⟨g51, H⟩ := gdE H
                  refine RD.joinV 11 156 (.bool (decide (((b43 = true) ∨ (¬ (gi a0_p.has (a0_p.id - 1)) = a0_p.said)) ∨ (¬ (gi a0_p.acked (a0_p.id - 1)) = a0_p.said)))) [(1, _)] ⟨rfl, trivial⟩ ?_ ?_
                  ·refine RD.nil (hK7 _ _ ?_)
                   refine T.condP rfl (fun hc52 => ?_) (fun hc52 => ?_)
                   ·have H := ifT hc52 H
                    refine T.seq fun K8 hK8 => T.region (rA rfl (RS.nil (hK8 _ _ ?_)))
                    obtain rfl := sj H
                    refine T.rt (Cont.ret1 rfl rfl fun w' s => ?_)
                    exact ⟨rfl, s.ext⟩
                   ·have H := ifF hc52 H
                    refine T.skip (hK6 _ _ ?_)
                    refine T.seq fun K9 hK9 => T.seq fun K10 hK10 => T.region (rA rfl (RS.nil (hK10 _ _ ?_)))
                    refine T.joinE (σ := Unit) (γ := Unit) H Ex.go [(1, _)] ⟨rfl, trivial⟩ (fun _ _ => []) (fun _ _ => Sat w [blk b1 [.int .i64 a0_p.id, .int .i64 a0_p.players, .int .i64 a0_p.delay, .int .i64 a0_p.turn, .int .i64 a0_p.said, .slice p0 a0_p.mine.length c0, .slice p1 a0_p.inputs.length c1, .slice p2 a0_p.has.length c2, .slice p3 a0_p.acked.length c3, .slice p4 a0_p.hashes.length c4, .bool a0_p.split] 26]) ?_ ?_
                    ·rintro ⟨⟩ ⟨⟩ H
                     try dsimp only [Ex.then] at H
                     refine Cont.conseq (fr' := [(1, _)]) ?_ ⟨rfl, trivial⟩ (fun _ s => s)
                     refine id (hK9 _ _ ?_)
                     refine T.seq fun K11 hK11 => T.region (rp (Pu.fieldAddr fd26_8 rfl) (rq (Qt.ldB 0 ty23 rfl rfl rfl) ?_))
                     obtain ⟨x54, hx54, H⟩ := bindE H
                     refine rq (Qt.call (vs := [.slice p3 a0_p.acked.length c3]) ent25 rfl fun w s => throngref27_least_walk a0_p.acked w ((Rd.base h3) w s) hx54) (rA rfl (RS.nil (hK11 _ _ (cq [(1, _), (6, _)] ?_))))
                     refine T.seq fun K12 hK12 => T.seq fun K13 hK13 => T.region (rp (Pu.fieldAddr fd26_5 rfl) (rq (Qt.ldB 0 ty22 rfl rfl rfl) (rp (Pu.lenSl sl22 rfl) (rp (Pu.fieldAddr fd26_4 rfl) (rq (Qt.ldB 0 ty3 rfl rfl rfl) (rM rfl ?_))))))
                     obtain ⟨g55, H⟩ := gdE H
                     refine rp (Pu.subS rfl rfl g55) (rp (Pu.bin rfl rfl rfl) (RS.nil (hK13 _ _ ?_)))
                     refine T.condP rfl (fun hc56 => ?_) (fun hc56 => ?_)
                     ·have H := ifT hc56 H
                      refine cq [] ?_
                      refine T.seq fun K14 hK14 => T.region (rA rfl (RS.nil (hK14 _ _ ?_)))
                      obtain rfl := sj H
                      refine T.rt (Cont.ret1 rfl rfl fun w' s => ?_)
                      exact ⟨rfl, s.ext⟩
                     ·have H := ifF hc56 H
                      refine T.skip (hK12 _ _ (cq [(1, _), (6, _)] ?_))
                      refine T.seq fun K15 hK15 => T.seq fun K16 hK16 => T.region (rA rfl (RS.nil (hK16 _ _ ?_)))
                      refine T.joinE (σ := Unit) (γ := Unit) H Ex.go [] trivial (fun _ _ => []) (fun _ _ => Sat w [blk b1 [.int .i64 a0_p.id, .int .i64 a0_p.players, .int .i64 a0_p.delay, .int .i64 a0_p.turn, .int .i64 a0_p.said, .slice p0 a0_p.mine.length c0, .slice p1 a0_p.inputs.length c1, .slice p2 a0_p.has.length c2, .slice p3 a0_p.acked.length c3, .slice p4 a0_p.hashes.length c4, .bool a0_p.split] 26]) ?_ ?_
                      ·rintro ⟨⟩ ⟨⟩ H
                       try dsimp only [Ex.then] at H
                       refine Cont.conseq (fr' := []) ?_ trivial (fun _ s => s)
                       refine id (hK15 _ _ ?_)
                       refine T.seq fun K17 hK17 => T.region (rA rfl (RS.nil (hK17 _ _ ?_)))
                       obtain rfl := sj H
                       refine T.rt (Cont.ret1 rfl rfl fun w' s => ?_)
                       exact ⟨rfl, s.ext⟩
                      ·intro z57 hz57 HX57 hJ57
                       refine T.block ?_
                       refine T.loopA (γ := Unit) hz57 [(1, _), (6, _)] (fun v58 _ => [(7, .int .i64 v58)]) (fun v58 _ => Sat w [blk b1 [.int .i64 a0_p.id, .int .i64 a0_p.players, .int .i64 a0_p.delay, .int .i64 a0_p.turn, .int .i64 a0_p.said, .slice p0 a0_p.mine.length c0, .slice p1 a0_p.inputs.length c1, .slice p2 a0_p.has.length c2, .slice p3 a0_p.acked.length c3, .slice p4 a0_p.hashes.length c4, .bool a0_p.split] 26]) () ⟨rfl, rfl, trivial⟩ ⟨rfl, trivial⟩ (fun w s => s) ?_
                       rintro v58 ⟨⟩ y59 H hd57 KL57 hL57
                       try dsimp only [Ex.then] at H
                       refine cq [(7, _), (1, _), (6, _)] ?_
                       refine T.seq fun K18 hK18 => T.seq fun K19 hK19 => T.region (rM rfl (rp (Pu.fieldAddr fd26_5 rfl) (rq (Qt.ldB 0 ty22 rfl rfl rfl) (rp (Pu.lenSl sl22 rfl) (rp (Pu.bin rfl rfl rfl) (RS.nil (hK19 _ _ ?_)))))))
                       refine T.condP rfl (fun hc60 => ?_) (fun hc60 => ?_)
                       ·have H := ifT hc60 H
                        refine T.skip (hK18 _ _ (cq [(1, _), (6, _), (7, _)] ?_))
                        refine T.seq fun K20 hK20 => T.block (T.seq fun K21 hK21 => ?_)
                        refine T.drawn (fun _ => True) [(0, .pu), (1, .rd), (2, .pu), (3, .pu), (4, .pu), (5, .rd), (6, .pu), (7, .rd), (8, .pu), (9, .pu), (10, .pu), (11, .rd), (12, .pu), (13, .pu), (14, .pu), (15, .rd), (16, .pu), (17, .pu), (18, .pu), (19, .pu), (20, .pu), (21, .pu)] mixed (ClE.sat _ _) (by kernel_rfl) ?_
                        refine dp rfl (Pu.fieldAddr fd26_5 rfl) (dq rfl (Qt.ldB 0 ty22 rfl rfl rfl) (dp rfl (Pu.move rfl) ?_))
                        obtain ⟨g61, H⟩ := gdE H
                        obtain ⟨bl62, ol63, rfl⟩ := R_ptr h0 (ne_of_pos (pos_of g61))
                        refine dp rfl (Pu.indexSl sl22 rfl rfl g61) (dp rfl (Pu.fieldAddr fd41_1 rfl) (dq rfl (Qt.ldF (α := Inp) (Rd.base h0) ty3 rfl rfl g61 (by rintro _ _ ⟨_, rfl, _⟩; rfl)) (dp rfl (Pu.fieldAddr fd26_0 rfl) (dq rfl (Qt.ldB 0 ty3 rfl rfl rfl) (dp rfl (Pu.bin rfl rfl rfl) (dp rfl (Pu.move rfl) ?_))))))
                        obtain ⟨g66, H⟩ := gdE H
                        obtain ⟨g67, H⟩ := gdE H
                        obtain ⟨g68, H⟩ := gdE H
                        refine RD.joinV 12 232 (.bool (decide ((¬ (gi a0_p.mine v58).player = a0_p.id) ∨ (¬ (gi a0_p.mine v58).turn = ((x54 + 1) + v58))))) [(1, _), (6, _), (7, _)] ⟨rfl, rfl, rfl, trivial⟩ ?_ ?_
                        ·refine RD.nil (hK21 _ _ ?_)
                         refine T.condP rfl (fun hc69 => ?_) (fun hc69 => ?_)
                         ·have H := ifT hc69 H
                          refine cq [] ?_
                          refine T.seq fun K22 hK22 => T.region (rA rfl (RS.nil (hK22 _ _ ?_)))
                          obtain rfl := hd57 _ H
                          have H := HX57
                          obtain rfl := sj H
                          refine T.rt (Cont.ret1 rfl rfl fun w' s => ?_)
                          exact ⟨rfl, s.ext⟩
                         ·have H := ifF hc69 H
                          refine T.skip (hK20 _ _ ?_)
                          refine T.region (rM rfl ?_)
                          obtain ⟨g70, H⟩ := gdE H
                          refine rp (Pu.addS rfl rfl g70) (rA rfl (RS.nil (hL57 _ _ (v58 + 1) () H ⟨rfl, rfl, trivial⟩ ⟨rfl, trivial⟩ (fun w s => s))))
                        ·intro hJ65
                         refine RD.splitP 220 rfl (fun hc64 => ?_) (fun hc64 => ?_)
                         ·refine dn rfl (dn rfl (dn rfl (dn rfl (dn rfl (dn rfl (dn rfl (dn rfl (dn rfl (dn rfl (dn rfl (dp rfl (Pu.pickT rfl rfl) ?_)))))))))))
                          exact hJ65 _ ⟨dOrT hc64, rfl, rfl, rfl, trivial⟩
                         ·refine dp rfl (Pu.fieldAddr fd26_5 rfl) (dq rfl (Qt.ldB 0 ty22 rfl rfl rfl) (dp rfl (Pu.move rfl) (dp rfl (Pu.indexSl sl22 rfl rfl (g66 hc64)) (dp rfl (Pu.fieldAddr fd41_0 rfl) (dq rfl (Qt.ldF (α := Inp) (Rd.base h0) ty3 rfl rfl (g66 hc64) (by rintro _ _ ⟨_, rfl, _⟩; rfl)) (dp rfl (Pu.move rfl) (dp rfl (Pu.addS rfl rfl (g67 hc64)) (dp rfl (Pu.move rfl) (dp rfl (Pu.addS rfl rfl (g68 hc64)) (dp rfl (Pu.bin rfl rfl rfl) (dp rfl (Pu.pickF rfl rfl) ?_)))))))))))
                          exact hJ65 _ ⟨dOrF hc64, rfl, rfl, rfl, trivial⟩
                       ·have H := ifF hc60 H
                        obtain rfl := hd57 _ H
                        refine T.xt (hJ57 _ _ () () HX57 trivial trivial (fun w s => s))
                    ·intro z53 hz53 HX53 hJ53
                     refine T.block ?_
                     refine T.loopA (γ := Unit) hz53 [(1, _)] (fun v71 _ => [(4, .int .i64 v71)]) (fun v71 _ => Sat w [blk b1 [.int .i64 a0_p.id, .int .i64 a0_p.players, .int .i64 a0_p.delay, .int .i64 a0_p.turn, .int .i64 a0_p.said, .slice p0 a0_p.mine.length c0, .slice p1 a0_p.inputs.length c1, .slice p2 a0_p.has.length c2, .slice p3 a0_p.acked.length c3, .slice p4 a0_p.hashes.length c4, .bool a0_p.split] 26]) () ⟨rfl, trivial⟩ ⟨rfl, trivial⟩ (fun w s => s) ?_
                     rintro v71 ⟨⟩ y72 H hd53 KL53 hL53
                     try dsimp only [Ex.then] at H
                     refine cq [(4, _), (1, _)] ?_
                     refine T.seq fun K23 hK23 => T.seq fun K24 hK24 => T.region (rM rfl (rp (Pu.fieldAddr fd26_6 rfl) (rq (Qt.ldB 0 ty22 rfl rfl rfl) (rp (Pu.lenSl sl22 rfl) (rp (Pu.bin rfl rfl rfl) (RS.nil (hK24 _ _ ?_)))))))
                     refine T.condP rfl (fun hc73 => ?_) (fun hc73 => ?_)
                     ·have H := ifT hc73 H
                      refine T.skip (hK23 _ _ (cq [(1, _), (4, _)] ?_))
                      refine T.seq fun K25 hK25 => T.block (T.seq fun K26 hK26 => T.region (rp (Pu.fieldAddr fd26_6 rfl) (rq (Qt.ldB 0 ty22 rfl rfl rfl) (rM rfl ?_))))
                      obtain ⟨g74, H⟩ := gdE H
                      obtain ⟨bl75, ol76, rfl⟩ := R_ptr h1 (ne_of_pos (pos_of g74))
                      refine rp (Pu.indexSl sl22 rfl rfl g74) ?_
                      obtain ⟨c77, hc78, ha79⟩ := R_el (α := Inp) h1 g74
                      obtain ⟨u80, rfl, hu80⟩ := hc78
                      obtain ⟨p81, cc82, rfl⟩ := R_form hu80
                      refine rq (Qt.ldZ (cs := [_, _, _]) ty41 rfl ha79 Held.base rfl) (RS.solid (Sd.alloc zr41 rfl) rfl rfl fun b83 => RS.solid (Sd.stB (cs' := [_, _, _]) 1 ty41 rfl rfl rfl rfl rfl rfl rfl rfl) rfl rfl fun _ => RS.nil (hK26 _ _ (cq [(1, _), (4, _), (5, _)] ?_)))
                      refine T.seq fun K27 hK27 => ?_
                      refine T.drawn (fun _ => True) [(0, .pu), (1, .rd), (2, .pu), (3, .rd), (4, .pu), (5, .pu), (6, .pu), (7, .rd), (8, .pu), (9, .rd), (10, .pu), (11, .pu), (12, .pu), (13, .pu), (14, .rd), (15, .pu), (16, .rd), (17, .pu), (18, .rd), (19, .pu), (20, .pu), (21, .rd), (22, .pu), (23, .pu)] mixed (ClE.sat _ _) (by kernel_rfl) ?_
                      refine dp rfl (Pu.fieldAddr fd41_0 rfl) (dq rfl (Qt.ldB 1 ty3 rfl rfl rfl) (dp rfl (Pu.fieldAddr fd26_3 rfl) (dq rfl (Qt.ldB 0 ty3 rfl rfl rfl) (dp rfl (Pu.bin rfl rfl rfl) (dp rfl (Pu.move rfl) ?_)))))
                      refine RD.joinV 6 180 (.bool (decide (((gi a0_p.inputs v71).turn < a0_p.turn) ∨ (a0_p.players < (gi a0_p.inputs v71).player)))) [(1, _), (4, _), (5, _)] ⟨rfl, rfl, rfl, trivial⟩ ?_ ?_
                      ·refine dp rfl (Pu.move rfl) ?_
                       obtain ⟨g88, H⟩ := gdE H
                       obtain ⟨g89, H⟩ := gdE H
                       refine RD.joinV 11 192 (.bool (decide ((((gi a0_p.inputs v71).turn < a0_p.turn) ∨ (a0_p.players < (gi a0_p.inputs v71).player)) ∨ ((gi a0_p.has (((gi a0_p.inputs v71).player) - 1)) < (gi a0_p.inputs v71).turn)))) [(1, _), (4, _)] ⟨rfl, rfl, trivial⟩ ?_ ?_
                       ·refine RD.nil (hK27 _ _ ?_)
                        refine T.condP rfl (fun hc90 => ?_) (fun hc90 => ?_)
                        ·have H := ifT hc90 H
                         refine cq [] ?_
                         refine T.seq fun K28 hK28 => T.region (rA rfl (RS.nil (hK28 _ _ ?_)))
                         obtain rfl := hd53 _ H
                         have H := HX53
                         obtain rfl := sj H
                         refine T.rt (Cont.ret1 rfl rfl fun w' s => ?_)
                         exact ⟨rfl, s.ext⟩
                        ·have H := ifF hc90 H
                         refine T.skip (hK25 _ _ ?_)
                         refine T.region (rM rfl ?_)
                         obtain ⟨g91, H⟩ := gdE H
                         refine rp (Pu.addS rfl rfl g91) (rA rfl (RS.nil (hL53 _ _ (v71 + 1) () H ⟨rfl, trivial⟩ ⟨rfl, trivial⟩ (fun w s => s.pick [0] (by decide) rfl))))
                       ·intro hJ87
                        refine RD.splitP 181 rfl (fun hc86 => ?_) (fun hc86 => ?_)
                        ·refine dn rfl (dn rfl (dn rfl (dn rfl (dn rfl (dn rfl (dn rfl (dn rfl (dn rfl (dn rfl (dp rfl (Pu.pickT rfl rfl) ?_))))))))))
                         exact hJ87 _ ⟨dOrT hc86, rfl, rfl, trivial⟩
                        ·refine dp rfl (Pu.fieldAddr fd41_0 rfl) (dq rfl (Qt.ldB 1 ty3 rfl rfl rfl) (dp rfl (Pu.fieldAddr fd26_7 rfl) (dq rfl (Qt.ldB 0 ty23 rfl rfl rfl) (dp rfl (Pu.fieldAddr fd41_1 rfl) (dq rfl (Qt.ldB 1 ty3 rfl rfl rfl) (dp rfl (Pu.subS rfl rfl (g88 hc86)) ?_))))))
                         obtain ⟨bl92, ol93, rfl⟩ := R_ptr h2 (ne_of_pos (pos_of (g89 hc86)))
                         refine dp rfl (Pu.indexSl sl23 rfl rfl (g89 hc86)) (dq rfl (Qt.ld0 (α := Int) (Rd.base h2) ty3 rfl rfl (g89 hc86) (by rintro _ _ rfl; rfl)) (dp rfl (Pu.bin rfl rfl rfl) (dp rfl (Pu.pickF rfl rfl) ?_)))
                         exact hJ87 _ ⟨dOrF hc86, rfl, rfl, trivial⟩
                      ·intro hJ85
                       refine RD.splitP 174 rfl (fun hc84 => ?_) (fun hc84 => ?_)
                       ·refine dn rfl (dn rfl (dn rfl (dn rfl (dn rfl (dp rfl (Pu.pickT rfl rfl) ?_)))))
                        exact hJ85 _ ⟨dOrT hc84, rfl, rfl, rfl, trivial⟩
                       ·refine dp rfl (Pu.fieldAddr fd41_1 rfl) (dq rfl (Qt.ldB 1 ty3 rfl rfl rfl) (dp rfl (Pu.fieldAddr fd26_1 rfl) (dq rfl (Qt.ldB 0 ty3 rfl rfl rfl) (dp rfl (Pu.bin rfl rfl rfl) (dp rfl (Pu.pickF rfl rfl) ?_)))))
                        exact hJ85 _ ⟨dOrF hc84, rfl, rfl, rfl, trivial⟩
                     ·have H := ifF hc73 H
                      obtain rfl := hd53 _ H
                      refine T.xt (hJ53 _ _ () () HX53 ⟨rfl, trivial⟩ trivial (fun w s => s))
                  ·intro hJ49
                   refine RD.splitP 145 rfl (fun hc48 => ?_) (fun hc48 => ?_)
                   ·refine dn rfl (dn rfl (dn rfl (dn rfl (dn rfl (dn rfl (dn rfl (dn rfl (dn rfl (dn rfl (dp rfl (Pu.pickT rfl rfl) ?_))))))))))
                    exact hJ49 _ ⟨dOrT hc48, rfl, trivial⟩
                   ·refine dp rfl (Pu.fieldAddr fd26_8 rfl) (dq rfl (Qt.ldB 0 ty23 rfl rfl rfl) (dp rfl (Pu.fieldAddr fd26_0 rfl) (dq rfl (Qt.ldB 0 ty3 rfl rfl rfl) (dp rfl (Pu.subS rfl rfl (g50 hc48)) ?_))))
                    obtain ⟨bl94, ol95, rfl⟩ := R_ptr h3 (ne_of_pos (pos_of (g51 hc48)))
                    refine dp rfl (Pu.indexSl sl23 rfl rfl (g51 hc48)) (dq rfl (Qt.ld0 (α := Int) (Rd.base h3) ty3 rfl rfl (g51 hc48) (by rintro _ _ rfl; rfl)) (dp rfl (Pu.fieldAddr fd26_4 rfl) (dq rfl (Qt.ldB 0 ty3 rfl rfl rfl) (dp rfl (Pu.bin rfl rfl rfl) (dp rfl (Pu.pickF rfl rfl) ?_)))))
                    exact hJ49 _ ⟨dOrF hc48, rfl, trivial⟩
                 ·intro hJ45
                  refine RD.split 133 rfl (fun hc44 => ?_) (fun hc44 => ?_)
                  ·refine dn rfl (dn rfl (dn rfl (dn rfl (dn rfl (dn rfl (dn rfl (dn rfl (dn rfl (dn rfl (dp rfl (Pu.pickT rfl rfl) ?_))))))))))
                   exact hJ45 _ ⟨dOrT hc44, rfl, trivial⟩
                  ·refine dp rfl (Pu.fieldAddr fd26_7 rfl) (dq rfl (Qt.ldB 0 ty23 rfl rfl rfl) (dp rfl (Pu.fieldAddr fd26_0 rfl) (dq rfl (Qt.ldB 0 ty3 rfl rfl rfl) (dp rfl (Pu.subS rfl rfl (g46 (bne_of hc44))) ?_))))
                   obtain ⟨bl96, ol97, rfl⟩ := R_ptr h2 (ne_of_pos (pos_of (g47 (bne_of hc44))))
                   refine dp rfl (Pu.indexSl sl23 rfl rfl (g47 (bne_of hc44))) (dq rfl (Qt.ld0 (α := Int) (Rd.base h2) ty3 rfl rfl (g47 (bne_of hc44)) (by rintro _ _ rfl; rfl)) (dp rfl (Pu.fieldAddr fd26_4 rfl) (dq rfl (Qt.ldB 0 ty3 rfl rfl rfl) (dp rfl (Pu.bin rfl rfl rfl) (dp rfl (Pu.pickF rfl rfl) ?_)))))
                   exact hJ45 _ ⟨dOrF (bne_of hc44), rfl, trivial⟩
                ·intro z98 H hJ42
                 refine RD.split 122 rfl (fun hc41 => ?_) (fun hc41 => ?_)
                 ·have H := ifT hc41 H
                  refine dn rfl (dn rfl (dn rfl (dn rfl (dn rfl (dn rfl (dn rfl (dn rfl (dn rfl (dp rfl (Pu.pickT rfl rfl) ?_)))))))))
                  obtain rfl := sj H
                  exact hJ42 _ ⟨rfl, rfl, trivial⟩
                 ·have H := ifB hc41 H
                  refine dp rfl (Pu.fieldAddr fd26_8 rfl) (dq rfl (Qt.ldB 0 ty23 rfl rfl rfl) (dp rfl (Pu.fieldAddr fd26_2 rfl) (dq rfl (Qt.ldB 0 ty3 rfl rfl rfl) ?_)))
                  obtain ⟨g99, H⟩ := gdE H
                  refine dp rfl (Pu.subS rfl rfl g99) (dp rfl (Pu.fieldAddr fd26_4 rfl) (dq rfl (Qt.ldB 0 ty3 rfl rfl rfl) ?_))
                  obtain ⟨x100, hx100, H⟩ := bindE H
                  refine dq rfl (Qt.call (vs := [.slice p3 a0_p.acked.length c3, .int .i64 (a0_p.delay - 1), .int .i64 a0_p.said]) ent24 rfl fun w s => throngref0_Between_walk a0_p.acked (a0_p.delay - 1) a0_p.said w ((Rd.base h3) w s) hx100) (dp rfl (Pu.not rfl) (dp rfl (Pu.pickF rfl rfl) ?_))
                  obtain rfl := sj H
                  exact hJ42 _ ⟨rfl, rfl, trivial⟩
              ·intro hJ35
               refine RS.splitP 98 rfl (fun hc34 => ?_) (fun hc34 => ?_)
               ·refine ro (ro (ro (ro (ro (ro (rp (Pu.pickT rfl rfl) ?_))))))
                exact hJ35 _ _ ⟨dOrT hc34, rfl, trivial⟩ (fun w s => s)
               ·refine rp (Pu.fieldAddr fd26_9 rfl) (rq (Qt.ldB 0 ty24 rfl rfl rfl) (rp (Pu.lenSl sl24 rfl) (rp (Pu.fieldAddr fd26_3 rfl) (rq (Qt.ldB 0 ty3 rfl rfl rfl) (rp (Pu.bin rfl rfl rfl) (rp (Pu.pickF rfl rfl) ?_))))))
                exact hJ35 _ _ ⟨dOrF hc34, rfl, trivial⟩ (fun w s => s)
             ·intro hJ33
              refine RS.splitP 92 rfl (fun hc32 => ?_) (fun hc32 => ?_)
              ·refine ro (ro (ro (ro (rp (Pu.pickT rfl rfl) ?_))))
               exact hJ33 _ _ ⟨dOrT hc32, rfl, trivial⟩ (fun w s => s)
              ·refine rp (Pu.fieldAddr fd26_9 rfl) (rq (Qt.ldB 0 ty24 rfl rfl rfl) (rp (Pu.lenSl sl24 rfl) (rp (Pu.bin rfl rfl rfl) (rp (Pu.pickF rfl rfl) ?_))))
               exact hJ33 _ _ ⟨dOrF hc32, rfl, trivial⟩ (fun w s => s)
            ·intro hJ31
             refine RS.splitP 84 rfl (fun hc30 => ?_) (fun hc30 => ?_)
             ·refine ro (ro (ro (ro (ro (ro (rp (Pu.pickT rfl rfl) ?_))))))
              exact hJ31 _ _ ⟨dOrT hc30, rfl, trivial⟩ (fun w s => s)
             ·refine rp (Pu.fieldAddr fd26_8 rfl) (rq (Qt.ldB 0 ty23 rfl rfl rfl) (rp (Pu.lenSl sl23 rfl) (rp (Pu.fieldAddr fd26_1 rfl) (rq (Qt.ldB 0 ty3 rfl rfl rfl) (rp (Pu.bin rfl rfl rfl) (rp (Pu.pickF rfl rfl) ?_))))))
              exact hJ31 _ _ ⟨dOrF hc30, rfl, trivial⟩ (fun w s => s)
           ·intro hJ29
            refine RS.split 76 rfl (fun hc28 => ?_) (fun hc28 => ?_)
            ·refine ro (ro (ro (ro (ro (ro (rp (Pu.pickT rfl rfl) ?_))))))
             exact hJ29 _ _ ⟨dOrT hc28, rfl, trivial⟩ (fun w s => s)
            ·refine rp (Pu.fieldAddr fd26_7 rfl) (rq (Qt.ldB 0 ty23 rfl rfl rfl) (rp (Pu.lenSl sl23 rfl) (rp (Pu.fieldAddr fd26_1 rfl) (rq (Qt.ldB 0 ty3 rfl rfl rfl) (rp (Pu.bin rfl rfl rfl) (rp (Pu.pickF rfl rfl) ?_))))))
             exact hJ29 _ _ ⟨dOrF (bne_of hc28), rfl, trivial⟩ (fun w s => s)
          ·intro z101 H hJ26
           refine RS.split 70 rfl (fun hc25 => ?_) (fun hc25 => ?_)
           ·have H := ifT hc25 H
            refine ro (ro (ro (ro (rp (Pu.pickT rfl rfl) ?_))))
            obtain rfl := sj H
            exact hJ26 _ _ ⟨rfl, rfl, trivial⟩ (fun w s => s)
           ·have H := ifB hc25 H
            refine rp (Pu.fieldAddr fd26_5 rfl) (rq (Qt.ldB 0 ty22 rfl rfl rfl) ?_)
            obtain ⟨x102, hx102, H⟩ := bindE H
            refine rq (Qt.call (vs := [.slice p0 a0_p.mine.length c0]) ent23 rfl fun w s => throngref27_List_walk a0_p.mine w ((Rd.base h0) w s) hx102) (rp (Pu.not rfl) (rp (Pu.pickF rfl rfl) ?_))
            obtain rfl := sj H
            exact hJ26 _ _ ⟨rfl, rfl, trivial⟩ (fun w s => s)
         ·intro z103 H hJ23
          refine RS.splitP 64 rfl (fun hc22 => ?_) (fun hc22 => ?_)
          ·have H := ifT hc22 H
           refine ro (ro (ro (ro (rp (Pu.pickT rfl rfl) ?_))))
           obtain rfl := sj H
           exact hJ23 _ _ ⟨rfl, rfl, trivial⟩ (fun w s => s)
          ·have H := ifF hc22 H
           refine rp (Pu.fieldAddr fd26_6 rfl) (rq (Qt.ldB 0 ty22 rfl rfl rfl) ?_)
           obtain ⟨x104, hx104, H⟩ := bindE H
           refine rq (Qt.call (vs := [.slice p1 a0_p.inputs.length c1]) ent23 rfl fun w s => throngref27_List_walk a0_p.inputs w ((Rd.base h1) w s) hx104) (rp (Pu.not rfl) (rp (Pu.pickF rfl rfl) ?_))
           obtain rfl := sj H
           exact hJ23 _ _ ⟨rfl, rfl, trivial⟩ (fun w s => s)
        ·intro hJ19
         refine RS.splitP 52 rfl (fun hc18 => ?_) (fun hc18 => ?_)
         ·refine ro (ro (ro (ro (ro (ro (ro (ro (ro (ro (rp (Pu.pickT rfl rfl) ?_))))))))))
          exact hJ19 _ _ ⟨dOrT hc18, rfl, trivial⟩ (fun w s => s)
         ·refine rp (Pu.fieldAddr fd26_4 rfl) (rq (Qt.ldB 0 ty3 rfl rfl rfl) (rp (Pu.fieldAddr fd26_3 rfl) (rq (Qt.ldB 0 ty3 rfl rfl rfl) (rp (Pu.fieldAddr fd26_2 rfl) (rq (Qt.ldB 0 ty3 rfl rfl rfl) (rp (Pu.addS rfl rfl (g20 hc18)) (rp (Pu.subS rfl rfl (g21 hc18)) (rp (Pu.minI rfl rfl) (rp (Pu.bin rfl rfl rfl) (rp (Pu.pickF rfl rfl) ?_))))))))))
          exact hJ19 _ _ ⟨dOrF hc18, rfl, trivial⟩ (fun w s => s)
       ·intro hJ16
        refine RS.split 44 rfl (fun hc15 => ?_) (fun hc15 => ?_)
        ·refine ro (ro (ro (ro (ro (ro (rp (Pu.pickT rfl rfl) ?_))))))
         exact hJ16 _ _ ⟨dOrT hc15, rfl, trivial⟩ (fun w s => s)
        ·refine rp (Pu.fieldAddr fd26_4 rfl) (rq (Qt.ldB 0 ty3 rfl rfl rfl) (rp (Pu.fieldAddr fd26_2 rfl) (rq (Qt.ldB 0 ty3 rfl rfl rfl) (rp (Pu.subS rfl rfl (g17 (bne_of hc15))) (rp (Pu.bin rfl rfl rfl) (rp (Pu.pickF rfl rfl) ?_))))))
         exact hJ16 _ _ ⟨dOrF (bne_of hc15), rfl, trivial⟩ (fun w s => s)
      ·intro z105 H hJ13
       refine RS.splitP 38 rfl (fun hc12 => ?_) (fun hc12 => ?_)
       ·have H := ifT hc12 H
        refine ro (ro (ro (ro (rp (Pu.pickT rfl rfl) ?_))))
        obtain rfl := sj H
        exact hJ13 _ _ ⟨rfl, rfl, trivial⟩ (fun w s => s)
       ·have H := ifF hc12 H
        refine rp (Pu.fieldAddr fd26_3 rfl) (rq (Qt.ldB 0 ty3 rfl rfl rfl) ?_)
        obtain ⟨x106, hx106, H⟩ := bindE H
        refine rq (Qt.call (vs := [.int .i64 a0_p.turn, .int .i64 1099511627776]) ent22 rfl fun w s => throngref0_Num_walk a0_p.turn 1099511627776 w  hx106) (rp (Pu.not rfl) (rp (Pu.pickF rfl rfl) ?_))
        obtain rfl := sj H
        exact hJ13 _ _ ⟨rfl, rfl, trivial⟩ (fun w s => s)
     ·intro hJ11
      refine RS.splitP 33 rfl (fun hc10 => ?_) (fun hc10 => ?_)
      ·refine ro (ro (ro (rp (Pu.pickT rfl rfl) ?_)))
       exact hJ11 _ _ ⟨dOrT hc10, rfl, trivial⟩ (fun w s => s)
      ·refine rp (Pu.fieldAddr fd26_2 rfl) (rq (Qt.ldB 0 ty3 rfl rfl rfl) (rp (Pu.bin rfl rfl rfl) (rp (Pu.pickF rfl rfl) ?_)))
       exact hJ11 _ _ ⟨dOrF hc10, rfl, trivial⟩ (fun w s => s)
    ·intro hJ9
     refine RS.splitP 28 rfl (fun hc8 => ?_) (fun hc8 => ?_)
     ·refine ro (ro (ro (rp (Pu.pickT rfl rfl) ?_)))
      exact hJ9 _ _ ⟨dOrT hc8, rfl, trivial⟩ (fun w s => s)
     ·refine rp (Pu.fieldAddr fd26_2 rfl) (rq (Qt.ldB 0 ty3 rfl rfl rfl) (rp (Pu.bin rfl rfl rfl) (rp (Pu.pickF rfl rfl) ?_)))
      exact hJ9 _ _ ⟨dOrF hc8, rfl, trivial⟩ (fun w s => s)
   ·intro hJ7
    refine RS.splitP 21 rfl (fun hc6 => ?_) (fun hc6 => ?_)
    ·refine ro (ro (ro (ro (ro (rp (Pu.pickT rfl rfl) ?_)))))
     exact hJ7 _ _ ⟨dOrT hc6, rfl, trivial⟩ (fun w s => s)
    ·refine rp (Pu.fieldAddr fd26_0 rfl) (rq (Qt.ldB 0 ty3 rfl rfl rfl) (rp (Pu.fieldAddr fd26_1 rfl) (rq (Qt.ldB 0 ty3 rfl rfl rfl) (rp (Pu.bin rfl rfl rfl) (rp (Pu.pickF rfl rfl) ?_)))))
     exact hJ7 _ _ ⟨dOrF hc6, rfl, trivial⟩ (fun w s => s)
  ·intro hJ5
   refine RS.splitP 16 rfl (fun hc4 => ?_) (fun hc4 => ?_)
   ·refine ro (ro (ro (rp (Pu.pickT rfl rfl) ?_)))
    exact hJ5 _ _ ⟨dOrT hc4, rfl, trivial⟩ (fun w s => s)
   ·refine rp (Pu.fieldAddr fd26_0 rfl) (rq (Qt.ldB 0 ty3 rfl rfl rfl) (rp (Pu.bin rfl rfl rfl) (rp (Pu.pickF rfl rfl) ?_)))
    exact hJ5 _ _ ⟨dOrF hc4, rfl, trivial⟩ (fun w s => s)
 ·intro hJ3
  refine RS.splitP 11 rfl (fun hc2 => ?_) (fun hc2 => ?_)
  ·refine ro (ro (ro (rp (Pu.pickT rfl rfl) ?_)))
   exact hJ3 _ _ ⟨dOrT hc2, rfl, trivial⟩ (fun w s => s)
  ·refine rp (Pu.fieldAddr fd26_1 rfl) (rq (Qt.ldB 0 ty3 rfl rfl rfl) (rp (Pu.bin rfl rfl rfl) (rp (Pu.pickF rfl rfl) ?_)))
   exact hJ3 _ _ ⟨dOrF hc2, rfl, trivial⟩ (fun w s => s)
theorem throngref27_Note_walk (a0_n : Nte) (w : World) {v0 : Value} (h0 : R (hpOf w) a0_n.input.commands [v0]) {r : Bool} (H : throngref27_Note a0_n = some r) : Calls Tryz.prog 58 #[.agg #[.int .i64 a0_n.frm, .int .i64 a0_n.dst, .int .i64 a0_n.input.turn, .int .i64 a0_n.input.player, v0, .int .i64 a0_n.don, .int .u64 (a0_n.hash.toNat : Int), .int .i64 a0_n.hav]] w fun e w' => e = .returned (.bool r) ∧ Ext w w' := by
 have hm0 := R_max h0
 obtain ⟨p0, c0, rfl⟩ := R_form h0
 unfold throngref27_Note at H
 refine T.enter (args := [_]) (S := Sat w []) Tryz.func58 rfl rfl (Sat.start w) ?_
 refine T.seq fun K1 hK1 => T.region (RS.solid (Sd.box (cs := [_, _, _, _, _, _, _, _]) rfl rfl) rfl rfl fun b1 => rA rfl (RS.nil (hK1 _ _ ?_)))
 refine T.seq fun K2 hK2 => T.seq fun K3 hK3 => T.region (rp (Pu.fieldAddr fd44_0 rfl) (rq (Qt.ldB 0 ty3 rfl rfl rfl) (rp (Pu.bin rfl rfl rfl) (rM rfl ?_))))
 refine RS.joinV 4 10 (.bool (decide ((a0_n.frm < 1) ∨ (8 < a0_n.frm)))) [(1, _)] ⟨rfl, trivial⟩ ?_ ?_
 ·refine rM rfl ?_
  refine RS.joinV 4 15 (.bool (decide (((a0_n.frm < 1) ∨ (8 < a0_n.frm)) ∨ (a0_n.dst < 1)))) [(1, _)] ⟨rfl, trivial⟩ ?_ ?_
  ·refine rM rfl ?_
   refine RS.joinV 4 20 (.bool (decide ((((a0_n.frm < 1) ∨ (8 < a0_n.frm)) ∨ (a0_n.dst < 1)) ∨ (8 < a0_n.dst)))) [(1, _)] ⟨rfl, trivial⟩ ?_ ?_
   ·refine rM rfl ?_
    refine RS.joinV 6 27 (.bool (decide (((((a0_n.frm < 1) ∨ (8 < a0_n.frm)) ∨ (a0_n.dst < 1)) ∨ (8 < a0_n.dst)) ∨ (a0_n.frm = a0_n.dst)))) [(1, _)] ⟨rfl, trivial⟩ ?_ ?_
    ·refine rM rfl ?_
     refine RS.joinV 4 32 (.bool (decide ((((((a0_n.frm < 1) ∨ (8 < a0_n.frm)) ∨ (a0_n.dst < 1)) ∨ (8 < a0_n.dst)) ∨ (a0_n.frm = a0_n.dst)) ∨ (a0_n.don < (-1))))) [(1, _)] ⟨rfl, trivial⟩ ?_ ?_
     ·refine rM rfl ?_
      refine RS.joinV 4 37 (.bool (decide (((((((a0_n.frm < 1) ∨ (8 < a0_n.frm)) ∨ (a0_n.dst < 1)) ∨ (8 < a0_n.dst)) ∨ (a0_n.frm = a0_n.dst)) ∨ (a0_n.don < (-1))) ∨ (1099511627776 < a0_n.don)))) [(1, _)] ⟨rfl, trivial⟩ ?_ ?_
      ·refine rM rfl ?_
       refine RS.joinV 4 42 (.bool (decide ((((((((a0_n.frm < 1) ∨ (8 < a0_n.frm)) ∨ (a0_n.dst < 1)) ∨ (8 < a0_n.dst)) ∨ (a0_n.frm = a0_n.dst)) ∨ (a0_n.don < (-1))) ∨ (1099511627776 < a0_n.don)) ∨ (a0_n.hav < (-1))))) [(1, _)] ⟨rfl, trivial⟩ ?_ ?_
       ·refine rM rfl ?_
        refine RS.joinV 4 47 (.bool (decide (((((((((a0_n.frm < 1) ∨ (8 < a0_n.frm)) ∨ (a0_n.dst < 1)) ∨ (8 < a0_n.dst)) ∨ (a0_n.frm = a0_n.dst)) ∨ (a0_n.don < (-1))) ∨ (1099511627776 < a0_n.don)) ∨ (a0_n.hav < (-1))) ∨ (1099511627776 < a0_n.hav)))) [(1, _)] ⟨rfl, trivial⟩ ?_ ?_
        ·refine rM rfl ?_
         refine RS.joinV 9 57 (.bool (decide ((((((((((a0_n.frm < 1) ∨ (8 < a0_n.frm)) ∨ (a0_n.dst < 1)) ∨ (8 < a0_n.dst)) ∨ (a0_n.frm = a0_n.dst)) ∨ (a0_n.don < (-1))) ∨ (1099511627776 < a0_n.don)) ∨ (a0_n.hav < (-1))) ∨ (1099511627776 < a0_n.hav)) ∨ ((a0_n.don = (-1)) ∧ (¬ (a0_n.hash.toNat : Int) = 0))))) [(1, _)] ⟨rfl, trivial⟩ ?_ ?_
         ·refine RS.nil (hK3 _ _ ?_)
          refine T.condP rfl (fun hc20 => ?_) (fun hc20 => ?_)
          ·have H := ifT hc20 H
           refine T.seq fun K4 hK4 => T.region (rA rfl (RS.nil (hK4 _ _ ?_)))
           obtain rfl := sj H
           refine T.rt (Cont.ret1 rfl rfl fun w' s => ?_)
           exact ⟨rfl, s.ext⟩
          ·have H := ifF hc20 H
           refine T.skip (hK2 _ _ ?_)
           refine T.seq fun K5 hK5 => T.seq fun K6 hK6 => T.region (rp (Pu.fieldAddr fd44_2 rfl) (rp (Pu.fieldAddr fd41_0 rfl) (rq (Qt.ldB 0 ty3 rfl rfl rfl) (rp (Pu.bin rfl rfl rfl) (RS.nil (hK6 _ _ ?_))))))
           refine T.condP rfl (fun hc21 => ?_) (fun hc21 => ?_)
           ·have H := ifT hc21 H
            refine cq [(1, _)] ?_
            refine T.seq fun K7 hK7 => T.region (rp (Pu.fieldAddr fd44_2 rfl) (rp (Pu.fieldAddr fd41_1 rfl) (rq (Qt.ldB 0 ty3 rfl rfl rfl) (rp (Pu.bin rfl rfl rfl) (rM rfl ?_)))))
            refine RS.joinV 6 72 (.bool (decide ((a0_n.input.player = 0) ∧ ((a0_n.input.commands.length : Int) = 0)))) [] trivial ?_ ?_
            ·refine rA rfl (RS.nil (hK7 _ _ ?_))
             obtain rfl := sj H
             refine T.rt (Cont.ret1 rfl rfl fun w' s => ?_)
             exact ⟨rfl, s.ext⟩
            ·intro hJ23
             refine RS.splitP 66 rfl (fun hc22 => ?_) (fun hc22 => ?_)
             ·refine rp (Pu.fieldAddr fd44_2 rfl) (rp (Pu.fieldAddr fd41_2 rfl) (rq (Qt.ldB 0 ty39 rfl rfl rfl) (rp (Pu.lenSl sl39 rfl) (rp (Pu.bin rfl rfl rfl) (rp (Pu.pickT rfl rfl) ?_)))))
              exact hJ23 _ _ ⟨dAndT hc22, trivial⟩ (fun w s => s)
             ·refine ro (ro (ro (ro (ro (rp (Pu.pickF rfl rfl) ?_)))))
              exact hJ23 _ _ ⟨dAndF hc22, trivial⟩ (fun w s => s)
           ·have H := ifF hc21 H
            refine T.skip (hK5 _ _ (cq [(1, _)] ?_))
            refine T.seq fun K8 hK8 => T.region (rp (Pu.fieldAddr fd44_2 rfl) (rq (Qt.ldBA (us := [_, _, _]) 0 ty41 rfl rfl rfl rfl) ?_))
            obtain ⟨x24, hx24, H⟩ := bindE H
            refine rq (Qt.call (vs := [.agg #[.int .i64 a0_n.input.turn, .int .i64 a0_n.input.player, .slice p0 a0_n.input.commands.length c0]]) ent50 rfl fun w s => throngref27_May_walk a0_n.input w ((Rd.base h0) w s) hx24) (rM rfl ?_)
            refine RS.joinV 7 83 (.bool (decide ((x24 = true) ∧ (a0_n.input.player = a0_n.frm)))) [] trivial ?_ ?_
            ·refine rA rfl (RS.nil (hK8 _ _ ?_))
             obtain rfl := sj H
             refine T.rt (Cont.ret1 rfl rfl fun w' s => ?_)
             exact ⟨rfl, s.ext⟩
            ·intro hJ26
             refine RS.split 76 rfl (fun hc25 => ?_) (fun hc25 => ?_)
             ·refine rp (Pu.fieldAddr fd44_2 rfl) (rp (Pu.fieldAddr fd41_1 rfl) (rq (Qt.ldB 0 ty3 rfl rfl rfl) (rp (Pu.fieldAddr fd44_0 rfl) (rq (Qt.ldB 0 ty3 rfl rfl rfl) (rp (Pu.bin rfl rfl rfl) (rp (Pu.pickT rfl rfl) ?_))))))
              exact hJ26 _ _ ⟨dAndT hc25, trivial⟩ (fun w s => s)
             ·refine ro (ro (ro (ro (ro (ro (rp (Pu.pickF rfl rfl) ?_))))))
              exact hJ26 _ _ ⟨dAndF (bne_of hc25), trivial⟩ (fun w s => s)
         ·intro hJ19
          refine RS.splitP 48 rfl (fun hc18 => ?_) (fun hc18 => ?_)
          ·refine ro (ro (ro (ro (ro (ro (ro (ro (rp (Pu.pickT rfl rfl) ?_))))))))
           exact hJ19 _ _ ⟨dOrT hc18, rfl, trivial⟩ (fun w s => s)
          ·refine rp (Pu.fieldAddr fd44_3 rfl) (rq (Qt.ldB 0 ty3 rfl rfl rfl) (rp (Pu.bin rfl rfl rfl) (rM rfl ?_)))
           refine RS.joinV 4 56 (.bool (decide ((a0_n.don = (-1)) ∧ (¬ (a0_n.hash.toNat : Int) = 0)))) [(1, _), (47, _), (48, _), (49, _), (50, _), (51, _)] ⟨rfl, rfl, rfl, rfl, rfl, rfl, trivial⟩ ?_ ?_
           ·refine rp (Pu.pickF rfl rfl) ?_
            exact hJ19 _ _ ⟨dOrF hc18, rfl, trivial⟩ (fun w s => s)
           ·intro hJ28
            refine RS.splitP 52 rfl (fun hc27 => ?_) (fun hc27 => ?_)
            ·refine rp (Pu.fieldAddr fd44_4 rfl) (rq (Qt.ldB 0 ty42 rfl rfl rfl) (rp (Pu.bin rfl rfl rfl) (rp (Pu.pickT rfl rfl) ?_)))
             exact hJ28 _ _ ⟨dAndT hc27, rfl, rfl, rfl, rfl, rfl, rfl, trivial⟩ (fun w s => s)
            ·refine ro (ro (ro (rp (Pu.pickF rfl rfl) ?_)))
             exact hJ28 _ _ ⟨dAndF hc27, rfl, rfl, rfl, rfl, rfl, rfl, trivial⟩ (fun w s => s)
        ·intro hJ17
         refine RS.splitP 43 rfl (fun hc16 => ?_) (fun hc16 => ?_)
         ·refine ro (ro (ro (rp (Pu.pickT rfl rfl) ?_)))
          exact hJ17 _ _ ⟨dOrT hc16, rfl, trivial⟩ (fun w s => s)
         ·refine rp (Pu.fieldAddr fd44_5 rfl) (rq (Qt.ldB 0 ty3 rfl rfl rfl) (rp (Pu.bin rfl rfl rfl) (rp (Pu.pickF rfl rfl) ?_)))
          exact hJ17 _ _ ⟨dOrF hc16, rfl, trivial⟩ (fun w s => s)
       ·intro hJ15
        refine RS.splitP 38 rfl (fun hc14 => ?_) (fun hc14 => ?_)
        ·refine ro (ro (ro (rp (Pu.pickT rfl rfl) ?_)))
         exact hJ15 _ _ ⟨dOrT hc14, rfl, trivial⟩ (fun w s => s)
        ·refine rp (Pu.fieldAddr fd44_5 rfl) (rq (Qt.ldB 0 ty3 rfl rfl rfl) (rp (Pu.bin rfl rfl rfl) (rp (Pu.pickF rfl rfl) ?_)))
         exact hJ15 _ _ ⟨dOrF hc14, rfl, trivial⟩ (fun w s => s)
      ·intro hJ13
       refine RS.splitP 33 rfl (fun hc12 => ?_) (fun hc12 => ?_)
       ·refine ro (ro (ro (rp (Pu.pickT rfl rfl) ?_)))
        exact hJ13 _ _ ⟨dOrT hc12, rfl, trivial⟩ (fun w s => s)
       ·refine rp (Pu.fieldAddr fd44_3 rfl) (rq (Qt.ldB 0 ty3 rfl rfl rfl) (rp (Pu.bin rfl rfl rfl) (rp (Pu.pickF rfl rfl) ?_)))
        exact hJ13 _ _ ⟨dOrF hc12, rfl, trivial⟩ (fun w s => s)
     ·intro hJ11
      refine RS.splitP 28 rfl (fun hc10 => ?_) (fun hc10 => ?_)
      ·refine ro (ro (ro (rp (Pu.pickT rfl rfl) ?_)))
       exact hJ11 _ _ ⟨dOrT hc10, rfl, trivial⟩ (fun w s => s)
      ·refine rp (Pu.fieldAddr fd44_3 rfl) (rq (Qt.ldB 0 ty3 rfl rfl rfl) (rp (Pu.bin rfl rfl rfl) (rp (Pu.pickF rfl rfl) ?_)))
       exact hJ11 _ _ ⟨dOrF hc10, rfl, trivial⟩ (fun w s => s)
    ·intro hJ9
     refine RS.splitP 21 rfl (fun hc8 => ?_) (fun hc8 => ?_)
     ·refine ro (ro (ro (ro (ro (rp (Pu.pickT rfl rfl) ?_)))))
      exact hJ9 _ _ ⟨dOrT hc8, rfl, trivial⟩ (fun w s => s)
     ·refine rp (Pu.fieldAddr fd44_0 rfl) (rq (Qt.ldB 0 ty3 rfl rfl rfl) (rp (Pu.fieldAddr fd44_1 rfl) (rq (Qt.ldB 0 ty3 rfl rfl rfl) (rp (Pu.bin rfl rfl rfl) (rp (Pu.pickF rfl rfl) ?_)))))
      exact hJ9 _ _ ⟨dOrF hc8, rfl, trivial⟩ (fun w s => s)
   ·intro hJ7
    refine RS.splitP 16 rfl (fun hc6 => ?_) (fun hc6 => ?_)
    ·refine ro (ro (ro (rp (Pu.pickT rfl rfl) ?_)))
     exact hJ7 _ _ ⟨dOrT hc6, rfl, trivial⟩ (fun w s => s)
    ·refine rp (Pu.fieldAddr fd44_1 rfl) (rq (Qt.ldB 0 ty3 rfl rfl rfl) (rp (Pu.bin rfl rfl rfl) (rp (Pu.pickF rfl rfl) ?_)))
     exact hJ7 _ _ ⟨dOrF hc6, rfl, trivial⟩ (fun w s => s)
  ·intro hJ5
   refine RS.splitP 11 rfl (fun hc4 => ?_) (fun hc4 => ?_)
   ·refine ro (ro (ro (rp (Pu.pickT rfl rfl) ?_)))
    exact hJ5 _ _ ⟨dOrT hc4, rfl, trivial⟩ (fun w s => s)
   ·refine rp (Pu.fieldAddr fd44_1 rfl) (rq (Qt.ldB 0 ty3 rfl rfl rfl) (rp (Pu.bin rfl rfl rfl) (rp (Pu.pickF rfl rfl) ?_)))
    exact hJ5 _ _ ⟨dOrF hc4, rfl, trivial⟩ (fun w s => s)
 ·intro hJ3
  refine RS.splitP 6 rfl (fun hc2 => ?_) (fun hc2 => ?_)
  ·refine ro (ro (ro (rp (Pu.pickT rfl rfl) ?_)))
   exact hJ3 _ _ ⟨dOrT hc2, rfl, trivial⟩ (fun w s => s)
  ·refine rp (Pu.fieldAddr fd44_0 rfl) (rq (Qt.ldB 0 ty3 rfl rfl rfl) (rp (Pu.bin rfl rfl rfl) (rp (Pu.pickF rfl rfl) ?_)))
   exact hJ3 _ _ ⟨dOrF hc2, rfl, trivial⟩ (fun w s => s)
theorem thronglaw28_heavy_walk (a0_p : Scr28) (w : World) {v0 v1 v2 v3 v4 v5 : Value} (h0 : R (hpOf w) a0_p.p.mine [v0]) (h1 : R (hpOf w) a0_p.p.inputs [v1]) (h2 : R (hpOf w) a0_p.p.has [v2]) (h3 : R (hpOf w) a0_p.p.acked [v3]) (h4 : R (hpOf w) a0_p.p.hashes [v4]) (h5 : R (hpOf w) a0_p.l [v5]) {r : Bool} (H : thronglaw28_heavy a0_p = some r) : Calls Tryz.prog 10 #[.agg #[.int .i64 a0_p.p.id, .int .i64 a0_p.p.players, .int .i64 a0_p.p.delay, .int .i64 a0_p.p.turn, .int .i64 a0_p.p.said, v0, v1, v2, v3, v4, .bool a0_p.p.split, v5]] w fun e w' => e = .returned (.bool r) ∧ Ext w w' := by
 have hm0 := R_max h0
 obtain ⟨p0, c0, rfl⟩ := R_form h0
 have hm1 := R_max h1
 obtain ⟨p1, c1, rfl⟩ := R_form h1
 have hm2 := R_max h2
 obtain ⟨p2, c2, rfl⟩ := R_form h2
 have hm3 := R_max h3
 obtain ⟨p3, c3, rfl⟩ := R_form h3
 have hm4 := R_max h4
 obtain ⟨p4, c4, rfl⟩ := R_form h4
 have hm5 := R_max h5
 obtain ⟨p5, c5, rfl⟩ := R_form h5
 unfold thronglaw28_heavy at H
 refine T.enter (args := [_]) (S := Sat w []) Tryz.func10 rfl rfl (Sat.start w) ?_
 refine T.seq fun K1 hK1 => T.region (RS.solid (Sd.box (cs := [_, _, _, _, _, _, _, _, _, _, _, _]) rfl rfl) rfl rfl fun b1 => rA rfl (RS.nil (hK1 _ _ ?_)))
 refine T.seq fun K2 hK2 => ?_
 refine T.drawn (fun _ => True) [(0, .pu), (1, .pu), (2, .rd), (3, .rd), (4, .pu), (5, .pu), (6, .rd), (7, .rd), (8, .pu), (9, .pu), (10, .pu), (11, .rd), (12, .pu), (13, .pu), (14, .pu), (15, .pu), (16, .rd), (17, .pu), (18, .pu), (19, .pu), (20, .pu), (21, .rd), (22, .pu), (23, .pu), (24, .pu)] mixed (ClE.sat _ _) (by kernel_rfl) ?_
 refine dp rfl (Pu.fieldAddr fd29_0 rfl) (dp rfl (Pu.fieldAddr fd26_5 rfl) (dq rfl (Qt.ldB 0 ty22 rfl rfl rfl) ?_))
 obtain ⟨x2, hx2, H⟩ := bindE H
 refine dq rfl (Qt.call (vs := [.slice p0 a0_p.p.mine.length c0]) ent17 rfl fun w s => thronglaw0_InputsWeight_walk a0_p.p.mine w ((Rd.base h0) w s) hx2) (dp rfl (Pu.fieldAddr fd29_0 rfl) (dp rfl (Pu.fieldAddr fd26_6 rfl) (dq rfl (Qt.ldB 0 ty22 rfl rfl rfl) ?_)))
 obtain ⟨x3, hx3, H⟩ := bindE H
 refine dq rfl (Qt.call (vs := [.slice p1 a0_p.p.inputs.length c1]) ent17 rfl fun w s => thronglaw0_InputsWeight_walk a0_p.p.inputs w ((Rd.base h1) w s) hx3) ?_
 obtain ⟨g4, H⟩ := gdE H
 refine dp rfl (Pu.addS rfl rfl g4) (dp rfl (Pu.fieldAddr fd29_0 rfl) (dp rfl (Pu.fieldAddr fd26_7 rfl) (dq rfl (Qt.ldB 0 ty23 rfl rfl rfl) (dp rfl (Pu.lenSl sl23 rfl) ?_))))
 obtain ⟨g5, H⟩ := gdE H
 refine dp rfl (Pu.addS rfl rfl g5) (dp rfl (Pu.fieldAddr fd29_0 rfl) (dp rfl (Pu.fieldAddr fd26_8 rfl) (dq rfl (Qt.ldB 0 ty23 rfl rfl rfl) (dp rfl (Pu.lenSl sl23 rfl) ?_))))
 obtain ⟨g6, H⟩ := gdE H
 refine dp rfl (Pu.addS rfl rfl g6) (dp rfl (Pu.fieldAddr fd29_0 rfl) (dp rfl (Pu.fieldAddr fd26_9 rfl) (dq rfl (Qt.ldB 0 ty24 rfl rfl rfl) (dp rfl (Pu.lenSl sl24 rfl) ?_))))
 obtain ⟨g7, H⟩ := gdE H
 refine dp rfl (Pu.addS rfl rfl g7) (dp rfl (Pu.assign rfl) (RD.nil (hK2 _ _ (cq [(1, _), (3, _)] ?_))))
 refine T.seq fun K3 hK3 => T.seq fun K4 hK4 => T.region (rA rfl (RS.nil (hK4 _ _ ?_)))
 refine T.joinE (σ := Int) (γ := Unit) H (fun s => s) [(1, _)] ⟨rfl, trivial⟩ (fun v9 _ => [(3, .int .i64 v9)]) (fun v9 _ => Sat w [blk b1 [.int .i64 a0_p.p.id, .int .i64 a0_p.p.players, .int .i64 a0_p.p.delay, .int .i64 a0_p.p.turn, .int .i64 a0_p.p.said, .slice p0 a0_p.p.mine.length c0, .slice p1 a0_p.p.inputs.length c1, .slice p2 a0_p.p.has.length c2, .slice p3 a0_p.p.acked.length c3, .slice p4 a0_p.p.hashes.length c4, .bool a0_p.p.split, .slice p5 a0_p.l.length c5] 29]) ?_ ?_
 ·rintro v9 ⟨⟩ H
  try dsimp only [Ex.then] at H
  refine Cont.conseq (fr' := [(3, _), (1, _)]) ?_ ⟨rfl, rfl, trivial⟩ (fun _ s => s)
  refine id (hK3 _ _ ?_)
  refine T.seq fun K5 hK5 => T.region (rM rfl (rp (Pu.bin rfl rfl rfl) (rM rfl ?_)))
  refine RS.joinV 5 66 (.bool (decide ((2000 < v9) ∨ (60 < (a0_p.l.length : Int))))) [] trivial ?_ ?_
  ·refine rA rfl (RS.nil (hK5 _ _ ?_))
   obtain rfl := sj H
   refine T.rt (Cont.ret1 rfl rfl fun w' s => ?_)
   exact ⟨rfl, s.ext⟩
  ·intro hJ11
   refine RS.splitP 61 rfl (fun hc10 => ?_) (fun hc10 => ?_)
   ·refine ro (ro (ro (ro (rp (Pu.pickT rfl rfl) ?_))))
    exact hJ11 _ _ ⟨dOrT hc10, trivial⟩ (fun w s => s)
   ·refine rp (Pu.fieldAddr fd29_1 rfl) (rq (Qt.ldB 0 ty27 rfl rfl rfl) (rp (Pu.lenSl sl27 rfl) (rp (Pu.bin rfl rfl rfl) (rp (Pu.pickF rfl rfl) ?_))))
    exact hJ11 _ _ ⟨dOrF hc10, trivial⟩ (fun w s => s)
 ·intro z8 hz8 HX8 hJ8
  refine T.block ?_
  refine T.loopA (γ := Unit) hz8 [(1, _)] (fun (v12, v13) _ => [(3, .int .i64 v12), (4, .int .i64 v13)]) (fun (v12, v13) _ => Sat w [blk b1 [.int .i64 a0_p.p.id, .int .i64 a0_p.p.players, .int .i64 a0_p.p.delay, .int .i64 a0_p.p.turn, .int .i64 a0_p.p.said, .slice p0 a0_p.p.mine.length c0, .slice p1 a0_p.p.inputs.length c1, .slice p2 a0_p.p.has.length c2, .slice p3 a0_p.p.acked.length c3, .slice p4 a0_p.p.hashes.length c4, .bool a0_p.p.split, .slice p5 a0_p.l.length c5] 29]) () ⟨rfl, trivial⟩ ⟨rfl, rfl, trivial⟩ (fun w s => s) ?_
  rintro ⟨v12, v13⟩ ⟨⟩ y14 H hd8 KL8 hL8
  try dsimp only [Ex.then] at H
  refine cq [(3, _), (4, _), (1, _)] ?_
  refine T.seq fun K6 hK6 => T.seq fun K7 hK7 => T.region (rM rfl (rp (Pu.fieldAddr fd29_1 rfl) (rq (Qt.ldB 0 ty27 rfl rfl rfl) (rp (Pu.lenSl sl27 rfl) (rp (Pu.bin rfl rfl rfl) (rM rfl ?_))))))
  refine RS.joinV 3 37 (.bool (decide ((v13 < (a0_p.l.length : Int)) ∧ (v12 < 1048576)))) [(1, _), (3, _), (4, _)] ⟨rfl, rfl, rfl, trivial⟩ ?_ ?_
  ·refine RS.nil (hK7 _ _ ?_)
   refine T.condP rfl (fun hc17 => ?_) (fun hc17 => ?_)
   ·have H := ifT hc17 H
    refine T.skip (hK6 _ _ ?_)
    refine T.seq fun K8 hK8 => T.block ?_
    refine T.drawn (fun _ => True) [(0, .pu), (1, .pu), (2, .rd), (3, .pu), (4, .pu), (5, .pu), (6, .rd), (7, .rd), (8, .pu), (9, .pu), (10, .rd), (11, .pu), (12, .pu), (13, .pu), (14, .pu), (15, .pu), (16, .rd), (17, .rd), (18, .pu), (19, .pu)] mixed (ClE.sat _ _) (by kernel_rfl) ?_
    refine dp rfl (Pu.move rfl) (dp rfl (Pu.fieldAddr fd29_1 rfl) (dq rfl (Qt.ldB 0 ty27 rfl rfl rfl) (dp rfl (Pu.move rfl) ?_)))
    obtain ⟨g18, H⟩ := gdE H
    obtain ⟨bl19, ol20, rfl⟩ := R_ptr h5 (ne_of_pos (pos_of g18))
    refine dp rfl (Pu.indexSl sl27 rfl rfl g18) (dp rfl (Pu.fieldAddr fd46_1 rfl) ?_)
    obtain ⟨c21, hc22, ha23⟩ := R_el (α := Act28) h5 g18
    obtain ⟨u24, u25, rfl, hu24, hu25⟩ := hc22
    obtain ⟨p26, cc27, rfl⟩ := R_form hu24
    obtain ⟨p28, cc29, rfl⟩ := R_form hu25
    refine dq rfl (Qt.ldZ1 (f := 1) (cs := [_, _, _, _, _, _, _, _, _, _, _, _]) ty39 rfl ha23 Held.base rfl) ?_
    obtain ⟨x30, hx30, H⟩ := bindE H
    refine dq rfl (Qt.call (vs := [.slice p26 ((gi a0_p.l v13).l).length cc27]) ent18 rfl fun w s => thronglaw0_CommandsWeight_walk ((gi a0_p.l v13).l) w ((Rd.base hu24) w s) hx30) ?_
    obtain ⟨g31, H⟩ := gdE H
    refine dp rfl (Pu.addS rfl rfl g31) (dp rfl (Pu.fieldAddr fd29_1 rfl) (dq rfl (Qt.ldB 0 ty27 rfl rfl rfl) (dp rfl (Pu.move rfl) ?_)))
    obtain ⟨g32, H⟩ := gdE H
    refine dp rfl (Pu.indexSl sl27 rfl rfl g32) (dp rfl (Pu.fieldAddr fd46_2 rfl) (dp rfl (Pu.fieldAddr fd44_2 rfl) (dp rfl (Pu.fieldAddr fd41_2 rfl) ?_)))
    obtain ⟨c33, hc34, ha35⟩ := R_el (α := Act28) h5 g32
    obtain ⟨u36, u37, rfl, hu36, hu37⟩ := hc34
    obtain ⟨p38, cc39, rfl⟩ := R_form hu36
    obtain ⟨p40, cc41, rfl⟩ := R_form hu37
    refine dq rfl (Qt.ldZ1 (f := 6) (cs := [_, _, _, _, _, _, _, _, _, _, _, _]) ty39 rfl ha35 Held.base rfl) ?_
    obtain ⟨x42, hx42, H⟩ := bindE H
    refine dq rfl (Qt.call (vs := [.slice p40 ((((gi a0_p.l v13).n).input).commands).length cc41]) ent18 rfl fun w s => thronglaw0_CommandsWeight_walk ((((gi a0_p.l v13).n).input).commands) w ((Rd.base hu37) w s) hx42) ?_
    obtain ⟨g43, H⟩ := gdE H
    refine dp rfl (Pu.addS rfl rfl g43) (dp rfl (Pu.assign rfl) (RD.nil (hK8 _ _ (cq [(1, _), (3, _), (4, _)] ?_))))
    refine T.region (rM rfl ?_)
    obtain ⟨g44, H⟩ := gdE H
    refine rp (Pu.addS rfl rfl g44) (rA rfl (RS.nil (hL8 _ _ (((v12 + x30) + x42), (v13 + 1)) () H ⟨rfl, trivial⟩ ⟨rfl, rfl, trivial⟩ (fun w s => s))))
   ·have H := ifF hc17 H
    obtain rfl := hd8 _ H
    refine T.xt (hJ8 _ _ v12 () HX8 ⟨rfl, trivial⟩ ⟨rfl, trivial⟩ (fun w s => s))
  ·intro hJ16
   refine RS.splitP 34 rfl (fun hc15 => ?_) (fun hc15 => ?_)
   ·refine rM rfl (rp (Pu.bin rfl rfl rfl) (rp (Pu.pickT rfl rfl) ?_))
    exact hJ16 _ _ ⟨dAndT hc15, rfl, rfl, rfl, trivial⟩ (fun w s => s)
   ·refine ro (ro (rp (Pu.pickF rfl rfl) ?_))
    exact hJ16 _ _ ⟨dAndF hc15, rfl, rfl, rfl, trivial⟩ (fun w s => s)
theorem thronglaw28_fit_walk (a0_p : Per) (a1_a : Act28) (w : World) {v0 v1 v2 v3 v4 v5 v6 : Value} (h0 : R (hpOf w) a0_p.mine [v0]) (h1 : R (hpOf w) a0_p.inputs [v1]) (h2 : R (hpOf w) a0_p.has [v2]) (h3 : R (hpOf w) a0_p.acked [v3]) (h4 : R (hpOf w) a0_p.hashes [v4]) (h5 : R (hpOf w) a1_a.l [v5]) (h6 : R (hpOf w) a1_a.n.input.commands [v6]) {r : Nte} (H : thronglaw28_fit a0_p a1_a = some r) : Calls Tryz.prog 28 #[.agg #[.int .i64 a0_p.id, .int .i64 a0_p.players, .int .i64 a0_p.delay, .int .i64 a0_p.turn, .int .i64 a0_p.said, v0, v1, v2, v3, v4, .bool a0_p.split], .agg #[.int .i64 a1_a.act, v5, .int .i64 a1_a.n.frm, .int .i64 a1_a.n.dst, .int .i64 a1_a.n.input.turn, .int .i64 a1_a.n.input.player, v6, .int .i64 a1_a.n.don, .int .u64 (a1_a.n.hash.toNat : Int), .int .i64 a1_a.n.hav, .bool a1_a.fit, .int .u64 (a1_a.h.toNat : Int)]] w fun e w' => ∃ q1 : (Option Nat × Nat), e = .returned (.agg #[.int .i64 r.frm, .int .i64 r.dst, .int .i64 r.input.turn, .int .i64 r.input.player, rowV q1 r.input.commands.length, .int .i64 r.don, .int .u64 (r.hash.toNat : Int), .int .i64 r.hav]) ∧ Sat w [drow 88 (rowV q1 r.input.commands.length) r.input.commands] w' := by
 have hm0 := R_max h0
 obtain ⟨p0, c0, rfl⟩ := R_form h0
 have hm1 := R_max h1
 obtain ⟨p1, c1, rfl⟩ := R_form h1
 have hm2 := R_max h2
 obtain ⟨p2, c2, rfl⟩ := R_form h2
 have hm3 := R_max h3
 obtain ⟨p3, c3, rfl⟩ := R_form h3
 have hm4 := R_max h4
 obtain ⟨p4, c4, rfl⟩ := R_form h4
 have hm5 := R_max h5
 obtain ⟨p5, c5, rfl⟩ := R_form h5
 have hm6 := R_max h6
 obtain ⟨p6, c6, rfl⟩ := R_form h6
 unfold thronglaw28_fit at H
 refine T.enter (args := [_, _]) (S := Sat w []) Tryz.func28 rfl rfl (Sat.start w) ?_
 refine T.seq fun K1 hK1 => T.region (RS.solid (Sd.box (cs := [_, _, _, _, _, _, _, _, _, _, _]) rfl rfl) rfl rfl fun b1 => RS.solid (Sd.box (cs := [_, _, _, _, _, _, _, _, _, _, _, _]) rfl rfl) rfl rfl fun b2 => RS.solid (Sd.alloc zr44 rfl) rfl rfl fun b3 => RS.nil (hK1 _ _ ?_))
 refine T.seq fun K2 hK2 => T.region (rp (Pu.fieldAddr fd46_2 rfl) (rq (Qt.ldBA (us := [_, _, _, _, _, _, _, _]) 1 ty44 rfl rfl rfl rfl) ?_))
 obtain ⟨x4, hx4, H⟩ := bindE H
 refine RS.solid (Sd.callN (vs := [.agg #[.int .i64 a1_a.n.frm, .int .i64 a1_a.n.dst, .int .i64 a1_a.n.input.turn, .int .i64 a1_a.n.input.player, .slice p6 a1_a.n.input.commands.length c6, .int .i64 a1_a.n.don, .int .u64 (a1_a.n.hash.toNat : Int), .int .i64 a1_a.n.hav]]) ent30 rfl (fun w s => throngref0_CopyNote_walk a1_a.n w ((Rd.base h6) w s) hx4)) rfl rfl fun q5 => RS.solid (Sd.alloc zr44 rfl) rfl rfl fun b6 => RS.solid (Sd.stB (cs' := [_, _, _, _, _, _, _, _]) 4 ty44 rfl rfl rfl rfl rfl rfl rfl rfl) rfl rfl fun _ => RS.nil (hK2 _ _ (cq [(2, _), (3, _), (4, _), (5, _)] ?_))
 refine T.seq fun K3 hK3 => T.seq fun K4 hK4 => T.region (rp (Pu.fieldAddr fd46_3 rfl) (rq (Qt.ldB 1 ty4 rfl rfl rfl) (rp (Pu.not rfl) (rM rfl ?_))))
 refine RS.joinB H 4 18 (fun b9 => .bool b9) [(2, _), (3, _), (4, _), (5, _)] ⟨rfl, rfl, rfl, rfl, trivial⟩ ?_ ?_
 ·intro b9 H
  refine rM rfl ?_
  refine RS.joinV 4 23 (.bool (decide ((b9 = true) ∨ (a0_p.players < 2)))) [(2, _), (3, _), (4, _), (5, _)] ⟨rfl, rfl, rfl, rfl, trivial⟩ ?_ ?_
  ·refine RS.nil (hK4 _ _ ?_)
   refine T.condP rfl (fun hc12 => ?_) (fun hc12 => ?_)
   ·have H := ifT hc12 H
    refine cq [(4, _), (5, _)] ?_
    refine T.seq fun K5 hK5 => T.region (rq (Qt.ldBA (us := [_, _, _, _, _, _, _, _]) 4 ty44 rfl rfl rfl rfl) (RS.solid (Sd.stB (cs' := [_, _, _, _, _, _, _, _]) 2 ty44 rfl rfl rfl rfl rfl rfl rfl rfl) rfl rfl fun _ => RS.nil (hK5 _ _ ?_)))
    obtain rfl := sj H
    refine T.rt (Cont.retC 2 rfl ty44 rfl rfl rfl fun w' s => ?_)
    exact ⟨q5, rfl, s.pick [3] (by decide) rfl⟩
   ·have H := ifF hc12 H
    refine T.skip (hK3 _ _ ?_)
    refine T.seq fun K6 hK6 => T.region (rp (Pu.fieldAddr fd26_0 rfl) (rq (Qt.ldB 0 ty3 rfl rfl rfl) (rp (Pu.fieldAddr fd44_1 rfl) (RS.solid (Sd.stB (cs' := [_, _, _, _, _, _, _, _]) 4 ty3 rfl rfl rfl rfl rfl rfl rfl rfl) rfl rfl fun _ => RS.nil (hK6 _ _ (cq [(2, _), (3, _), (4, _), (5, _)] ?_))))))
    refine T.seq fun K7 hK7 => T.seq fun K8 hK8 => T.region (rp (Pu.fieldAddr fd44_0 rfl) (rq (Qt.ldB 4 ty3 rfl rfl rfl) (rp (Pu.bin rfl rfl rfl) (rM rfl ?_))))
    refine RS.joinV 6 37 (.bool (decide ((x4.frm < 1) ∨ (a0_p.players < x4.frm)))) [(2, _), (3, _), (4, _), (5, _)] ⟨rfl, rfl, rfl, rfl, trivial⟩ ?_ ?_
    ·refine rM rfl ?_
     refine RS.joinV 6 44 (.bool (decide (((x4.frm < 1) ∨ (a0_p.players < x4.frm)) ∨ (x4.frm = a0_p.id)))) [(2, _), (3, _), (4, _), (5, _)] ⟨rfl, rfl, rfl, rfl, trivial⟩ ?_ ?_
     ·refine RS.nil (hK8 _ _ ?_)
      refine T.joinE (σ := Int) (γ := Unit) H (fun s => s) [(2, _), (3, _), (4, _), (5, _)] ⟨rfl, rfl, rfl, rfl, trivial⟩ (fun v18 _ => []) (fun v18 _ => Sat w [blk b1 [.int .i64 a0_p.id, .int .i64 a0_p.players, .int .i64 a0_p.delay, .int .i64 a0_p.turn, .int .i64 a0_p.said, .slice p0 a0_p.mine.length c0, .slice p1 a0_p.inputs.length c1, .slice p2 a0_p.has.length c2, .slice p3 a0_p.acked.length c3, .slice p4 a0_p.hashes.length c4, .bool a0_p.split] 26, blk b2 [.int .i64 a1_a.act, .slice p5 a1_a.l.length c5, .int .i64 a1_a.n.frm, .int .i64 a1_a.n.dst, .int .i64 a1_a.n.input.turn, .int .i64 a1_a.n.input.player, .slice p6 a1_a.n.input.commands.length c6, .int .i64 a1_a.n.don, .int .u64 (a1_a.n.hash.toNat : Int), .int .i64 a1_a.n.hav, .bool a1_a.fit, .int .u64 (a1_a.h.toNat : Int)] 46, blk b3 [.int .i64 0, .int .i64 0, .int .i64 0, .int .i64 0, .slice none 0 0, .int .i64 0, .int .u64 0, .int .i64 0] 44, drow 88 (rowV q5 x4.input.commands.length) x4.input.commands, blk b6 [.int .i64 v18, .int .i64 a0_p.id, .int .i64 x4.input.turn, .int .i64 x4.input.player, rowV q5 x4.input.commands.length, .int .i64 x4.don, .int .u64 (x4.hash.toNat : Int), .int .i64 x4.hav] 44]) ?_ ?_
      ·rintro v18 ⟨⟩ H
       try dsimp only [Ex.then] at H
       refine Cont.conseq (fr' := [(2, _), (3, _), (4, _), (5, _)]) ?_ ⟨rfl, rfl, rfl, rfl, trivial⟩ (fun _ s => s)
       refine id (hK7 _ _ ?_)
       refine T.seq fun K9 hK9 => T.seq fun K10 hK10 => T.region (rp (Pu.fieldAddr fd44_2 rfl) (rp (Pu.fieldAddr fd41_0 rfl) (rq (Qt.ldB 4 ty3 rfl rfl rfl) (rp (Pu.bin rfl rfl rfl) (RS.nil (hK10 _ _ ?_))))))
       refine T.joinE (σ := Int × Int × List Cmd) (γ := Unit) H (fun s => s) [(2, _), (3, _), (4, _), (5, _)] ⟨rfl, rfl, rfl, rfl, trivial⟩ (fun (v20, v21, v22) _ => []) (fun (v20, v21, v22) _ => Sat w [blk b1 [.int .i64 a0_p.id, .int .i64 a0_p.players, .int .i64 a0_p.delay, .int .i64 a0_p.turn, .int .i64 a0_p.said, .slice p0 a0_p.mine.length c0, .slice p1 a0_p.inputs.length c1, .slice p2 a0_p.has.length c2, .slice p3 a0_p.acked.length c3, .slice p4 a0_p.hashes.length c4, .bool a0_p.split] 26, blk b2 [.int .i64 a1_a.act, .slice p5 a1_a.l.length c5, .int .i64 a1_a.n.frm, .int .i64 a1_a.n.dst, .int .i64 a1_a.n.input.turn, .int .i64 a1_a.n.input.player, .slice p6 a1_a.n.input.commands.length c6, .int .i64 a1_a.n.don, .int .u64 (a1_a.n.hash.toNat : Int), .int .i64 a1_a.n.hav, .bool a1_a.fit, .int .u64 (a1_a.h.toNat : Int)] 46, blk b3 [.int .i64 0, .int .i64 0, .int .i64 0, .int .i64 0, .slice none 0 0, .int .i64 0, .int .u64 0, .int .i64 0] 44, drow 88 (rowV q5 x4.input.commands.length) v22, blk b6 [.int .i64 v18, .int .i64 a0_p.id, .int .i64 v20, .int .i64 v21, rowV q5 x4.input.commands.length, .int .i64 x4.don, .int .u64 (x4.hash.toNat : Int), .int .i64 x4.hav] 44]) ?_ ?_
       ·rintro ⟨v20, v21, v22⟩ ⟨⟩ H
        try dsimp only [Ex.then] at H
        refine Cont.conseq (fr' := [(2, _), (3, _), (4, _), (5, _)]) ?_ ⟨rfl, rfl, rfl, rfl, trivial⟩ (fun _ s => s)
        refine id (hK9 _ _ ?_)
        refine T.seq fun K11 hK11 => T.seq fun K12 hK12 => T.region (rp (Pu.fieldAddr fd44_3 rfl) (rq (Qt.ldB 4 ty3 rfl rfl rfl) (rp (Pu.bin rfl rfl rfl) (RS.nil (hK12 _ _ ?_)))))
        refine T.joinE (σ := Int × UInt64) (γ := Unit) H (fun s => s) [(2, _), (4, _), (5, _)] ⟨rfl, rfl, rfl, trivial⟩ (fun (v24, v25) _ => []) (fun (v24, v25) _ => Sat w [blk b1 [.int .i64 a0_p.id, .int .i64 a0_p.players, .int .i64 a0_p.delay, .int .i64 a0_p.turn, .int .i64 a0_p.said, .slice p0 a0_p.mine.length c0, .slice p1 a0_p.inputs.length c1, .slice p2 a0_p.has.length c2, .slice p3 a0_p.acked.length c3, .slice p4 a0_p.hashes.length c4, .bool a0_p.split] 26, blk b2 [.int .i64 a1_a.act, .slice p5 a1_a.l.length c5, .int .i64 a1_a.n.frm, .int .i64 a1_a.n.dst, .int .i64 a1_a.n.input.turn, .int .i64 a1_a.n.input.player, .slice p6 a1_a.n.input.commands.length c6, .int .i64 a1_a.n.don, .int .u64 (a1_a.n.hash.toNat : Int), .int .i64 a1_a.n.hav, .bool a1_a.fit, .int .u64 (a1_a.h.toNat : Int)] 46, blk b3 [.int .i64 0, .int .i64 0, .int .i64 0, .int .i64 0, .slice none 0 0, .int .i64 0, .int .u64 0, .int .i64 0] 44, drow 88 (rowV q5 x4.input.commands.length) v22, blk b6 [.int .i64 v18, .int .i64 a0_p.id, .int .i64 v20, .int .i64 v21, rowV q5 x4.input.commands.length, .int .i64 v24, .int .u64 (v25.toNat : Int), .int .i64 x4.hav] 44]) ?_ ?_
        ·rintro ⟨v24, v25⟩ ⟨⟩ H
         try dsimp only [Ex.then] at H
         refine Cont.conseq (fr' := [(2, _), (4, _), (5, _)]) ?_ ⟨rfl, rfl, rfl, trivial⟩ (fun _ s => s)
         refine id (hK11 _ _ ?_)
         refine T.seq fun K13 hK13 => ?_
         refine T.drawn (fun _ => True) [(0, .pu), (1, .rd), (2, .pu), (3, .rd), (4, .rd), (5, .pu), (6, .pu), (7, .pu), (8, .br)] mixed (ClE.sat _ _) (by kernel_rfl) ?_
         refine dp rfl (Pu.fieldAddr fd26_4 rfl) (dq rfl (Qt.ldB 0 ty3 rfl rfl rfl) (dp rfl (Pu.fieldAddr fd44_5 rfl) (dq rfl (Qt.ldB 4 ty3 rfl rfl rfl) ?_)))
         obtain ⟨x26, hx26, H⟩ := bindE H
         refine dq rfl (Qt.call (vs := [.int .i64 x4.hav, .int .i64 4]) ent27 rfl fun w s => thronglaw0_Within_walk x4.hav 4 w  hx26) ?_
         obtain ⟨g27, H⟩ := gdE H
         refine dp rfl (Pu.subS rfl rfl g27) (dp rfl (Pu.maxI rfl rfl) (dp rfl (Pu.fieldAddr fd44_5 rfl) (RD.solid rfl (.inr rfl) rfl rfl (Sd.stB (cs' := [_, _, _, _, _, _, _, _]) 4 ty3 rfl rfl rfl rfl rfl rfl rfl rfl) (fun _ => ClE.sat _ _) (fun _ _ _ => trivial) (fun h => nomatch h) fun _ => ?_)))
         refine RD.nil (hK13 _ _ (cq [(4, _), (5, _)] ?_))
         refine T.seq fun K14 hK14 => T.region (rq (Qt.ldBA (us := [_, _, _, _, _, _, _, _]) 4 ty44 rfl rfl rfl rfl) (RS.solid (Sd.stB (cs' := [_, _, _, _, _, _, _, _]) 2 ty44 rfl rfl rfl rfl rfl rfl rfl rfl) rfl rfl fun _ => RS.nil (hK14 _ _ ?_)))
         obtain rfl := sj H
         refine T.rt (Cont.retC 2 rfl ty44 rfl rfl rfl fun w' s => ?_)
         exact ⟨q5, (by simp only [(s.row_fitsG (q := q5) (m := x4.input.commands.length) (k := 3) rfl).1]; try rfl), (Sat.relenG (q := q5) (m := x4.input.commands.length) 3 s rfl).pick [3] (by decide) rfl⟩
        ·intro z23 H HX23 hJ23
         refine T.condP rfl (fun hc28 => ?_) (fun hc28 => ?_)
         ·have H := ifT hc28 H
          refine cq [(2, _), (3, _), (4, _), (5, _)] ?_
          refine T.seq fun K15 hK15 => ?_
          refine T.drawn (fun _ => True) [(0, .pu), (1, .rd), (2, .pu), (3, .pu), (4, .rd), (5, .rd), (6, .pu), (7, .pu), (8, .pu), (9, .br)] mixed (ClE.sat _ _) (by kernel_rfl) ?_
          refine dp rfl (Pu.fieldAddr fd26_3 rfl) (dq rfl (Qt.ldB 0 ty3 rfl rfl rfl) ?_)
          obtain ⟨g29, H⟩ := gdE H
          refine dp rfl (Pu.subS rfl rfl g29) (dp rfl (Pu.fieldAddr fd44_3 rfl) (dq rfl (Qt.ldB 4 ty3 rfl rfl rfl) ?_))
          obtain ⟨x30, hx30, H⟩ := bindE H
          refine dq rfl (Qt.call (vs := [.int .i64 x4.don, .int .i64 4]) ent27 rfl fun w s => thronglaw0_Within_walk x4.don 4 w  hx30) ?_
          obtain ⟨g31, H⟩ := gdE H
          refine dp rfl (Pu.subS rfl rfl g31) (dp rfl (Pu.maxI rfl rfl) (dp rfl (Pu.fieldAddr fd44_3 rfl) (RD.solid rfl (.inr rfl) rfl rfl (Sd.stB (cs' := [_, _, _, _, _, _, _, _]) 4 ty3 rfl rfl rfl rfl rfl rfl rfl rfl) (fun _ => ClE.sat _ _) (fun _ _ _ => trivial) (fun h => nomatch h) fun _ => ?_)))
          refine RD.nil (hK15 _ _ (cq [(2, _), (3, _), (4, _), (5, _)] ?_))
          refine T.seq fun K16 hK16 => T.seq fun K17 hK17 => T.region (rp (Pu.fieldAddr fd44_3 rfl) (rq (Qt.ldB 4 ty3 rfl rfl rfl) (rp (Pu.bin rfl rfl rfl) (RS.nil (hK17 _ _ ?_)))))
          refine T.joinE (σ := UInt64) (γ := Unit) H (fun s => s) [(2, _), (3, _), (4, _), (5, _)] ⟨rfl, rfl, rfl, rfl, trivial⟩ (fun v33 _ => []) (fun v33 _ => Sat w [blk b1 [.int .i64 a0_p.id, .int .i64 a0_p.players, .int .i64 a0_p.delay, .int .i64 a0_p.turn, .int .i64 a0_p.said, .slice p0 a0_p.mine.length c0, .slice p1 a0_p.inputs.length c1, .slice p2 a0_p.has.length c2, .slice p3 a0_p.acked.length c3, .slice p4 a0_p.hashes.length c4, .bool a0_p.split] 26, blk b2 [.int .i64 a1_a.act, .slice p5 a1_a.l.length c5, .int .i64 a1_a.n.frm, .int .i64 a1_a.n.dst, .int .i64 a1_a.n.input.turn, .int .i64 a1_a.n.input.player, .slice p6 a1_a.n.input.commands.length c6, .int .i64 a1_a.n.don, .int .u64 (a1_a.n.hash.toNat : Int), .int .i64 a1_a.n.hav, .bool a1_a.fit, .int .u64 (a1_a.h.toNat : Int)] 46, blk b3 [.int .i64 0, .int .i64 0, .int .i64 0, .int .i64 0, .slice none 0 0, .int .i64 0, .int .u64 0, .int .i64 0] 44, drow 88 (rowV q5 x4.input.commands.length) v22, blk b6 [.int .i64 v18, .int .i64 a0_p.id, .int .i64 v20, .int .i64 v21, rowV q5 x4.input.commands.length, .int .i64 (max (-1) ((a0_p.turn - 1) - x30)), .int .u64 (v33.toNat : Int), .int .i64 x4.hav] 44]) ?_ ?_
          ·rintro v33 ⟨⟩ H
           try dsimp only [Ex.then] at H
           refine Cont.conseq (fr' := [(2, _), (3, _), (4, _), (5, _)]) ?_ ⟨rfl, rfl, rfl, rfl, trivial⟩ (fun _ s => s)
           refine id (hK16 _ _ ?_)
           refine T.seq fun K18 hK18 => T.region (rp (Pu.fieldAddr fd44_3 rfl) (rq (Qt.ldB 4 ty3 rfl rfl rfl) (rp (Pu.fieldAddr fd26_3 rfl) (rq (Qt.ldB 0 ty3 rfl rfl rfl) (rp (Pu.fieldAddr fd26_9 rfl) (rq (Qt.ldB 0 ty24 rfl rfl rfl) (rp (Pu.lenSl sl24 rfl) ?_)))))))
           obtain ⟨g34, H⟩ := gdE H
           refine rp (Pu.subS rfl rfl g34) ?_
           obtain ⟨g35, H⟩ := gdE H
           refine rp (Pu.subS rfl rfl g35) (rA rfl (RS.nil (hK18 _ _ (cq [(2, _), (3, _), (4, _), (5, _), (7, _)] ?_))))
           refine T.seq fun K19 hK19 => T.region (rp (Pu.fieldAddr fd46_4 rfl) (rq (Qt.ldB 1 ty42 rfl rfl rfl) ?_))
           obtain ⟨g36, H⟩ := gdE H
           refine rp (Pu.remN rfl rfl g36) (rp (Pu.bin rfl rfl rfl) (rM rfl ?_))
           refine RS.joinV 4 125 (.bool (decide ((¬ ((a1_a.h.toNat : Int) % 4) = 0) ∧ (0 ≤ (max (-1) ((a0_p.turn - 1) - x30)))))) [(2, _), (4, _), (5, _), (7, _)] ⟨rfl, rfl, rfl, rfl, trivial⟩ ?_ ?_
           ·refine rM rfl ?_
            refine RS.joinV 3 129 (.bool (decide (((¬ ((a1_a.h.toNat : Int) % 4) = 0) ∧ (0 ≤ (max (-1) ((a0_p.turn - 1) - x30)))) ∧ (0 ≤ ((max (-1) ((a0_p.turn - 1) - x30)) - (a0_p.turn - (a0_p.hashes.length : Int))))))) [(2, _), (4, _), (5, _), (7, _)] ⟨rfl, rfl, rfl, rfl, trivial⟩ ?_ ?_
            ·refine RS.nil (hK19 _ _ ?_)
             refine T.condP rfl (fun hc41 => ?_) (fun hc41 => ?_)
             ·have H := ifT hc41 H
              refine T.region (rp (Pu.fieldAddr fd26_9 rfl) (rq (Qt.ldB 0 ty24 rfl rfl rfl) (rM rfl ?_)))
              obtain ⟨g42, H⟩ := gdE H
              obtain ⟨bl43, ol44, rfl⟩ := R_ptr h4 (ne_of_pos (pos_of g42))
              refine rp (Pu.indexSl sl24 rfl rfl g42) (rq (Qt.ld0 (α := UInt64) (Rd.base h4) ty42 rfl rfl g42 (by rintro _ _ rfl; rfl)) (rp (Pu.fieldAddr fd44_4 rfl) (RS.solid (Sd.stB (cs' := [_, _, _, _, _, _, _, _]) 4 ty42 rfl rfl rfl rfl rfl rfl rfl rfl) rfl rfl fun _ => ?_)))
              obtain rfl := sj H
              refine RS.nil (hJ23 _ _ ((max (-1) ((a0_p.turn - 1) - x30)), (gi a0_p.hashes ((max (-1) ((a0_p.turn - 1) - x30)) - (a0_p.turn - (a0_p.hashes.length : Int))))) () HX23 ⟨rfl, rfl, rfl, trivial⟩ trivial (fun w s => s))
             ·have H := ifF hc41 H
              obtain rfl := sj H
              refine T.skip (hJ23 _ _ ((max (-1) ((a0_p.turn - 1) - x30)), v33) () HX23 ⟨rfl, rfl, rfl, trivial⟩ trivial (fun w s => s))
            ·intro hJ40
             refine RS.splitP 126 rfl (fun hc39 => ?_) (fun hc39 => ?_)
             ·refine rM rfl (rp (Pu.bin rfl rfl rfl) (rp (Pu.pickT rfl rfl) ?_))
              exact hJ40 _ _ ⟨dAndT hc39, rfl, rfl, rfl, rfl, trivial⟩ (fun w s => s)
             ·refine ro (ro (rp (Pu.pickF rfl rfl) ?_))
              exact hJ40 _ _ ⟨dAndF hc39, rfl, rfl, rfl, rfl, trivial⟩ (fun w s => s)
           ·intro hJ38
            refine RS.splitP 121 rfl (fun hc37 => ?_) (fun hc37 => ?_)
            ·refine rp (Pu.fieldAddr fd44_3 rfl) (rq (Qt.ldB 4 ty3 rfl rfl rfl) (rp (Pu.bin rfl rfl rfl) (rp (Pu.pickT rfl rfl) ?_)))
             exact hJ38 _ _ ⟨dAndT hc37, rfl, rfl, rfl, rfl, trivial⟩ (fun w s => s)
            ·refine ro (ro (ro (rp (Pu.pickF rfl rfl) ?_)))
             exact hJ38 _ _ ⟨dAndF hc37, rfl, rfl, rfl, rfl, trivial⟩ (fun w s => s)
          ·intro z32 H HX32 hJ32
           refine T.condP rfl (fun hc45 => ?_) (fun hc45 => ?_)
           ·have H := ifT hc45 H
            refine cq [(2, _), (3, _), (4, _), (5, _)] ?_
            refine T.region (rp (Pu.fieldAddr fd44_4 rfl) (RS.solid (Sd.stB (cs' := [_, _, _, _, _, _, _, _]) 4 ty42 rfl rfl rfl rfl rfl rfl rfl rfl) rfl rfl fun _ => ?_))
            obtain rfl := sj H
            refine RS.nil (hJ32 _ _ (0 : UInt64) () HX32 ⟨rfl, rfl, rfl, rfl, trivial⟩ trivial (fun w s => s))
           ·have H := ifF hc45 H
            obtain rfl := sj H
            refine T.skip (hJ32 _ _ x4.hash () HX32 ⟨rfl, rfl, rfl, rfl, trivial⟩ trivial (fun w s => s))
         ·have H := ifF hc28 H
          obtain rfl := sj H
          refine T.skip (hJ23 _ _ (x4.don, x4.hash) () HX23 ⟨rfl, rfl, rfl, trivial⟩ trivial (fun w s => s))
       ·intro z19 H HX19 hJ19
        refine T.condP rfl (fun hc46 => ?_) (fun hc46 => ?_)
        ·have H := ifT hc46 H
         refine cq [(2, _), (3, _), (4, _), (5, _)] ?_
         refine T.seq fun K20 hK20 => ?_
         refine T.drawn (fun _ => True) [(0, .pu), (1, .rd), (2, .pu), (3, .rd), (4, .pu), (5, .pu), (6, .rd), (7, .pu), (8, .pu), (9, .pu), (10, .rd), (11, .rd), (12, .pu), (13, .pu), (14, .pu), (15, .pu), (16, .br)] mixed (ClE.sat _ _) (by kernel_rfl) ?_
         refine dp rfl (Pu.fieldAddr fd26_7 rfl) (dq rfl (Qt.ldB 0 ty23 rfl rfl rfl) (dp rfl (Pu.fieldAddr fd44_0 rfl) (dq rfl (Qt.ldB 4 ty3 rfl rfl rfl) ?_)))
         obtain ⟨g47, H⟩ := gdE H
         refine dp rfl (Pu.subS rfl rfl g47) ?_
         obtain ⟨g48, H⟩ := gdE H
         obtain ⟨bl49, ol50, rfl⟩ := R_ptr h2 (ne_of_pos (pos_of g48))
         refine dp rfl (Pu.indexSl sl23 rfl rfl g48) (dq rfl (Qt.ld0 (α := Int) (Rd.base h2) ty3 rfl rfl g48 (by rintro _ _ rfl; rfl)) ?_)
         obtain ⟨g51, H⟩ := gdE H
         refine dp rfl (Pu.addS rfl rfl g51) (dp rfl (Pu.fieldAddr fd44_2 rfl) (dp rfl (Pu.fieldAddr fd41_0 rfl) (dq rfl (Qt.ldB 4 ty3 rfl rfl rfl) ?_)))
         obtain ⟨x52, hx52, H⟩ := bindE H
         refine dq rfl (Qt.call (vs := [.int .i64 x4.input.turn, .int .i64 3]) ent27 rfl fun w s => thronglaw0_Within_walk x4.input.turn 3 w  hx52) ?_
         obtain ⟨g53, H⟩ := gdE H
         refine dp rfl (Pu.quoN rfl rfl ⟨g53.1, g53.2, by decide⟩) ?_
         obtain ⟨g54, H⟩ := gdE H
         refine dp rfl (Pu.subS rfl rfl g54) (dp rfl (Pu.fieldAddr fd44_2 rfl) (dp rfl (Pu.fieldAddr fd41_0 rfl) (RD.solid rfl (.inr rfl) rfl rfl (Sd.stB (cs' := [_, _, _, _, _, _, _, _]) 4 ty3 rfl rfl rfl rfl rfl rfl rfl rfl) (fun _ => ClE.sat _ _) (fun _ _ _ => trivial) (fun h => nomatch h) fun _ => ?_)))
         refine RD.nil (hK20 _ _ (cq [(2, _), (3, _), (4, _), (5, _)] ?_))
         refine T.seq fun K21 hK21 => T.region (rp (Pu.fieldAddr fd44_0 rfl) (rq (Qt.ldB 4 ty3 rfl rfl rfl) (rp (Pu.fieldAddr fd44_2 rfl) (rp (Pu.fieldAddr fd41_1 rfl) (RS.solid (Sd.stB (cs' := [_, _, _, _, _, _, _, _]) 4 ty3 rfl rfl rfl rfl rfl rfl rfl rfl) rfl rfl fun _ => RS.nil (hK21 _ _ (cq [(2, _), (3, _), (4, _), (5, _)] ?_)))))))
         refine T.seq fun K22 hK22 => T.region (rA rfl (RS.nil (hK22 _ _ ?_)))
         refine T.joinE (σ := List Cmd) (γ := Unit) H (fun s => s) [(2, _), (3, _), (4, _), (5, _)] ⟨rfl, rfl, rfl, rfl, trivial⟩ (fun v56 _ => []) (fun v56 _ => Sat w [blk b1 [.int .i64 a0_p.id, .int .i64 a0_p.players, .int .i64 a0_p.delay, .int .i64 a0_p.turn, .int .i64 a0_p.said, .slice p0 a0_p.mine.length c0, .slice p1 a0_p.inputs.length c1, .slice (some ⟨bl49, ol50, none⟩) a0_p.has.length c2, .slice p3 a0_p.acked.length c3, .slice p4 a0_p.hashes.length c4, .bool a0_p.split] 26, blk b2 [.int .i64 a1_a.act, .slice p5 a1_a.l.length c5, .int .i64 a1_a.n.frm, .int .i64 a1_a.n.dst, .int .i64 a1_a.n.input.turn, .int .i64 a1_a.n.input.player, .slice p6 a1_a.n.input.commands.length c6, .int .i64 a1_a.n.don, .int .u64 (a1_a.n.hash.toNat : Int), .int .i64 a1_a.n.hav, .bool a1_a.fit, .int .u64 (a1_a.h.toNat : Int)] 46, blk b3 [.int .i64 0, .int .i64 0, .int .i64 0, .int .i64 0, .slice none 0 0, .int .i64 0, .int .u64 0, .int .i64 0] 44, drow 88 (rowV q5 x4.input.commands.length) v56, blk b6 [.int .i64 v18, .int .i64 a0_p.id, .int .i64 (((gi a0_p.has (v18 - 1)) + 1) - (x52 / 2)), .int .i64 v18, rowV q5 x4.input.commands.length, .int .i64 x4.don, .int .u64 (x4.hash.toNat : Int), .int .i64 x4.hav] 44]) ?_ ?_
         ·rintro v56 ⟨⟩ H
          try dsimp only [Ex.then] at H
          refine Cont.conseq (fr' := [(2, _), (3, _), (4, _), (5, _)]) ?_ ⟨rfl, rfl, rfl, rfl, trivial⟩ (fun _ s => s)
          obtain rfl := sj H
          refine id (hJ19 _ _ ((((gi a0_p.has (v18 - 1)) + 1) - (x52 / 2)), v18, v56) () HX19 ⟨rfl, rfl, rfl, rfl, trivial⟩ trivial (fun w s => s))
         ·intro z55 hz55 HX55 hJ55
          refine T.block ?_
          refine T.loopA (γ := Unit) hz55 [(2, _), (3, _), (4, _), (5, _)] (fun (v57, l58) _ => [(6, .int .i64 v57)]) (fun (v57, l58) _ => Sat w [blk b1 [.int .i64 a0_p.id, .int .i64 a0_p.players, .int .i64 a0_p.delay, .int .i64 a0_p.turn, .int .i64 a0_p.said, .slice p0 a0_p.mine.length c0, .slice p1 a0_p.inputs.length c1, .slice (some ⟨bl49, ol50, none⟩) a0_p.has.length c2, .slice p3 a0_p.acked.length c3, .slice p4 a0_p.hashes.length c4, .bool a0_p.split] 26, blk b2 [.int .i64 a1_a.act, .slice p5 a1_a.l.length c5, .int .i64 a1_a.n.frm, .int .i64 a1_a.n.dst, .int .i64 a1_a.n.input.turn, .int .i64 a1_a.n.input.player, .slice p6 a1_a.n.input.commands.length c6, .int .i64 a1_a.n.don, .int .u64 (a1_a.n.hash.toNat : Int), .int .i64 a1_a.n.hav, .bool a1_a.fit, .int .u64 (a1_a.h.toNat : Int)] 46, blk b3 [.int .i64 0, .int .i64 0, .int .i64 0, .int .i64 0, .slice none 0 0, .int .i64 0, .int .u64 0, .int .i64 0] 44, drow 88 (rowV q5 x4.input.commands.length) l58, blk b6 [.int .i64 v18, .int .i64 a0_p.id, .int .i64 (((gi a0_p.has (v18 - 1)) + 1) - (x52 / 2)), .int .i64 v18, rowV q5 x4.input.commands.length, .int .i64 x4.don, .int .u64 (x4.hash.toNat : Int), .int .i64 x4.hav] 44]) () ⟨rfl, rfl, rfl, rfl, trivial⟩ ⟨rfl, trivial⟩ (fun w s => s) ?_
          rintro ⟨v57, l58⟩ ⟨⟩ y59 H hd55 KL55 hL55
          try dsimp only [Ex.then] at H
          refine cq [(6, _), (2, _), (3, _), (4, _), (5, _)] ?_
          refine T.seq fun K23 hK23 => T.seq fun K24 hK24 => T.region (rM rfl (rp (Pu.fieldAddr fd44_2 rfl) (rp (Pu.fieldAddr fd41_2 rfl) (rq (Qt.ldB 4 ty39 rfl rfl rfl) (rp (Pu.lenSl sl39 rfl) (rp (Pu.bin rfl rfl rfl) (RS.nil (hK24 _ _ ?_))))))))
          refine T.condP rfl (fun hc60 => ?_) (fun hc60 => ?_)
          ·have H := ifT hc60 H
           refine T.skip (hK23 _ _ (cq [(2, _), (3, _), (4, _), (5, _), (6, _)] ?_))
           refine T.seq fun K25 hK25 => T.block (T.region (rp (Pu.fieldAddr fd44_2 rfl) (rp (Pu.fieldAddr fd41_2 rfl) (rq (Qt.ldB 4 ty39 rfl rfl rfl) (rM rfl (rp (Pu.fieldAddr fd44_0 rfl) (rq (Qt.ldB 4 ty3 rfl rfl rfl) ?_)))))))
           obtain ⟨g61, H⟩ := gdE H
           refine RS.know (fun w s => (s.row_fitsG (q := q5) (m := x4.input.commands.length) (k := 3) rfl)) fun hf62 => ?_
           refine RS.know (p := ∃ g cap, q5 = (some g, cap)) (fun w s => (s.row_someG (k := 3) rfl (pos_of (idx_of hf62.1 g61)))) ?_
           rintro ⟨gg63, cc64, rfl⟩
           refine rp (Pu.indexSl sl39 rfl rfl g61) (rp (Pu.fieldAddr fd88_0 rfl) (RS.solid (Sd.stD (α := Cmd) 3 (⟨v18, (gi l58 v57).seq, (gi l58 v57).kind, (gi l58 v57).n, (gi l58 v57).units, (gi l58 v57).tile, (gi l58 v57).w, (gi l58 v57).h, ((gi l58 v57).pos)⟩ : Cmd) rfl ty3 rfl rfl rfl (idx_of hf62.1 g61) rfl rfl (by decide) rfl (by rintro _ _ ⟨_, rfl, hd⟩; exact ⟨_, rfl, hd⟩)) rfl rfl fun _ => RS.nil (hK25 _ _ (cq [(2, _), (3, _), (4, _), (5, _), (6, _)] ?_))))
           refine T.region (rM rfl ?_)
           obtain ⟨g65, H⟩ := gdE H
           refine rp (Pu.addS rfl rfl g65) (rA rfl (RS.nil (hL55 _ _ ((v57 + 1), (si l58 v57 (⟨v18, (gi l58 v57).seq, (gi l58 v57).kind, (gi l58 v57).n, (gi l58 v57).units, (gi l58 v57).tile, (gi l58 v57).w, (gi l58 v57).h, ((gi l58 v57).pos)⟩ : Cmd))) () H ⟨rfl, rfl, rfl, rfl, trivial⟩ ⟨rfl, trivial⟩ (fun w s => s))))
          ·have H := ifF hc60 H
           obtain rfl := hd55 _ H
           refine T.xt (hJ55 _ _ l58 () HX55 ⟨rfl, rfl, rfl, rfl, trivial⟩ trivial (fun w s => s))
        ·have H := ifF hc46 H
         obtain rfl := sj H
         refine T.skip (hJ19 _ _ (x4.input.turn, x4.input.player, x4.input.commands) () HX19 ⟨rfl, rfl, rfl, rfl, trivial⟩ trivial (fun w s => s))
      ·intro z17 H HX17 hJ17
       refine T.condP rfl (fun hc66 => ?_) (fun hc66 => ?_)
       ·have H := ifT hc66 H
        refine T.region (rp (Pu.fieldAddr fd26_0 rfl) (rq (Qt.ldB 0 ty3 rfl rfl rfl) (rp (Pu.fieldAddr fd26_1 rfl) (rq (Qt.ldB 0 ty3 rfl rfl rfl) ?_))))
        obtain ⟨g67, H⟩ := gdE H
        refine rp (Pu.remN rfl rfl (and3 g67)) ?_
        obtain ⟨g68, H⟩ := gdE H
        refine rp (Pu.addS rfl rfl g68) (rp (Pu.fieldAddr fd44_0 rfl) (RS.solid (Sd.stB (cs' := [_, _, _, _, _, _, _, _]) 4 ty3 rfl rfl rfl rfl rfl rfl rfl rfl) rfl rfl fun _ => ?_))
        obtain rfl := sj H
        refine RS.nil (hJ17 _ _ ((a0_p.id % a0_p.players) + 1) () HX17 ⟨rfl, rfl, rfl, rfl, trivial⟩ trivial (fun w s => s))
       ·have H := ifF hc66 H
        obtain rfl := sj H
        refine T.skip (hJ17 _ _ x4.frm () HX17 ⟨rfl, rfl, rfl, rfl, trivial⟩ trivial (fun w s => s))
     ·intro hJ16
      refine RS.splitP 38 rfl (fun hc15 => ?_) (fun hc15 => ?_)
      ·refine ro (ro (ro (ro (ro (rp (Pu.pickT rfl rfl) ?_)))))
       exact hJ16 _ _ ⟨dOrT hc15, rfl, rfl, rfl, rfl, trivial⟩ (fun w s => s)
      ·refine rp (Pu.fieldAddr fd44_0 rfl) (rq (Qt.ldB 4 ty3 rfl rfl rfl) (rp (Pu.fieldAddr fd26_0 rfl) (rq (Qt.ldB 0 ty3 rfl rfl rfl) (rp (Pu.bin rfl rfl rfl) (rp (Pu.pickF rfl rfl) ?_)))))
       exact hJ16 _ _ ⟨dOrF hc15, rfl, rfl, rfl, rfl, trivial⟩ (fun w s => s)
    ·intro hJ14
     refine RS.splitP 31 rfl (fun hc13 => ?_) (fun hc13 => ?_)
     ·refine ro (ro (ro (ro (ro (rp (Pu.pickT rfl rfl) ?_)))))
      exact hJ14 _ _ ⟨dOrT hc13, rfl, rfl, rfl, rfl, trivial⟩ (fun w s => s)
     ·refine rp (Pu.fieldAddr fd44_0 rfl) (rq (Qt.ldB 4 ty3 rfl rfl rfl) (rp (Pu.fieldAddr fd26_1 rfl) (rq (Qt.ldB 0 ty3 rfl rfl rfl) (rp (Pu.bin rfl rfl rfl) (rp (Pu.pickF rfl rfl) ?_)))))
      exact hJ14 _ _ ⟨dOrF hc13, rfl, rfl, rfl, rfl, trivial⟩ (fun w s => s)
  ·intro hJ11
   refine RS.split 19 rfl (fun hc10 => ?_) (fun hc10 => ?_)
   ·refine ro (ro (ro (rp (Pu.pickT rfl rfl) ?_)))
    exact hJ11 _ _ ⟨dOrT hc10, rfl, rfl, rfl, rfl, trivial⟩ (fun w s => s)
   ·refine rp (Pu.fieldAddr fd26_1 rfl) (rq (Qt.ldB 0 ty3 rfl rfl rfl) (rp (Pu.bin rfl rfl rfl) (rp (Pu.pickF rfl rfl) ?_)))
    exact hJ11 _ _ ⟨dOrF (bne_of hc10), rfl, rfl, rfl, rfl, trivial⟩ (fun w s => s)
 ·intro z69 H hJ8
  refine RS.split 14 rfl (fun hc7 => ?_) (fun hc7 => ?_)
  ·have H := ifT hc7 H
   refine ro (ro (ro (rp (Pu.pickT rfl rfl) ?_)))
   obtain rfl := sj H
   exact hJ8 _ _ ⟨rfl, rfl, rfl, rfl, rfl, trivial⟩ (fun w s => s)
  ·have H := ifB hc7 H
   refine rq (Qt.ldBA (us := [_, _, _, _, _, _, _, _, _, _, _]) 0 ty26 rfl rfl rfl rfl) ?_
   obtain ⟨x70, hx70, H⟩ := bindE H
   refine rq (Qt.call (vs := [.agg #[.int .i64 a0_p.id, .int .i64 a0_p.players, .int .i64 a0_p.delay, .int .i64 a0_p.turn, .int .i64 a0_p.said, .slice p0 a0_p.mine.length c0, .slice p1 a0_p.inputs.length c1, .slice p2 a0_p.has.length c2, .slice p3 a0_p.acked.length c3, .slice p4 a0_p.hashes.length c4, .bool a0_p.split]]) ent12 rfl fun w s => throngref27_Peer_walk a0_p w ((Rd.base h0) w s) ((Rd.base h1) w s) ((Rd.base h2) w s) ((Rd.base h3) w s) ((Rd.base h4) w s) hx70) (rp (Pu.not rfl) (rp (Pu.pickF rfl rfl) ?_))
   obtain rfl := sj H
   exact hJ8 _ _ ⟨rfl, rfl, rfl, rfl, rfl, trivial⟩ (fun w s => s)
end Go.Proofs.YtnadebijiaelkaaGreat
