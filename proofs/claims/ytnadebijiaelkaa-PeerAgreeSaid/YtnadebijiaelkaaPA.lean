/-
  Walks of the peers' functions: what another one has.
-/
import Derived.Test.YtnadebijiaelkaaRows
import Derived.Test.YtnadebijiaelkaaPJ
import Derived.Test.YtnadebijiaelkaaW5
set_option linter.unusedVariables false
set_option linter.unusedSimpArgs false
set_option maxRecDepth 20000
set_option maxHeartbeats 4000000
namespace Go.Proofs.Ytnadebijiaelkaa
open Go.Vg
open Enc (R)
theorem ent31 : Ent Try.prog 31 := ⟨_, _, Try.func31, by kernel_rfl, rfl⟩
theorem ent34 : Ent Try.prog 34 := ⟨_, _, Try.func34, by kernel_rfl, rfl⟩
theorem ent35 : Ent Try.prog 35 := ⟨_, _, Try.func35, by kernel_rfl, rfl⟩
theorem ent56 : Ent Try.prog 56 := ⟨_, _, Try.func56, by kernel_rfl, rfl⟩
theorem ent57 : Ent Try.prog 57 := ⟨_, _, Try.func57, by kernel_rfl, rfl⟩
theorem ent65 : Ent Try.prog 65 := ⟨_, _, Try.func65, by kernel_rfl, rfl⟩
theorem ent66 : Ent Try.prog 66 := ⟨_, _, Try.func66, by kernel_rfl, rfl⟩
theorem fd26_10 : fdOff Try.prog 26 10 = some 10 := by kernel_rfl
theorem fd38_0 : fdOff Try.prog 38 0 = some 0 := by kernel_rfl
theorem fd38_1 : fdOff Try.prog 38 1 = some 1 := by kernel_rfl
theorem fd38_5 : fdOff Try.prog 38 5 = some 7 := by kernel_rfl
theorem ty4 : tySz Try.prog 4 = some (1, false) := by kernel_rfl
theorem peer_acked_1_walk (a0_i : Inp) (c0 : Int) (w : World) {v0 : Value} {p1g : Nat} (hb1 : blk p1g [.int .i64 c0] 3 (hpOf w)) {r : Bool} (H : peer_acked_1 a0_i c0 = some r) : Calls Try.prog 66 #[.agg #[.int .i64 a0_i.turn, .int .i64 a0_i.player, v0], .pointer (some ⟨p1g, 0, none⟩)] w fun e w' => e = .returned (.bool r) ∧ Ext w w' := by
 unfold peer_acked_1 at H
 refine T.enter (args := [_, _]) (S := Sat w []) Try.func66 rfl rfl (Sat.start w) ?_
 refine T.seq fun K1 hK1 => ?_
 refine T.region ?_
 refine RS.solid (Sd.box (cs := [_, _, _]) rfl rfl) rfl rfl fun b1 => ?_
 refine RS.p (Pu.assign rfl) rfl rfl ?_
 refine RS.nil (hK1 _ _ ?_)
 refine T.seq fun K2 hK2 => ?_
 refine T.region ?_
 refine RS.p (Pu.fieldAddr fd35_0 rfl) rfl rfl ?_
 refine RS.q (Qt.ldB 0 ty3 rfl rfl rfl) rfl rfl ?_
 refine RS.q (Qt.ldX ty3 rfl hb1 (fun w s => s.ext) rfl) rfl rfl ?_
 refine RS.p (Pu.bin rfl rfl rfl) rfl rfl ?_
 refine RS.p (Pu.assign rfl) rfl rfl ?_
 refine RS.nil (hK2 _ _ (T.conseq (fr' := [(3, _)]) ?_ ⟨rfl, trivial⟩ (fun _ s => s)))
 obtain rfl := Option.some.inj H
 refine T.rt (Cont.ret1 rfl rfl fun w' s => ?_)
 exact ⟨rfl, s.ext⟩
theorem peer_acked_walk {w0 : World} {F : Ch} (g0 : Nat) (a0_p : Per) (a1_from : Int) (a2_have : Int) {r : Per} (H : peer_acked a0_p a1_from a2_have = some r) (w : World) (s : Sat w0 [Per_ch g0 a0_p, F] w) : Calls Try.prog 34 #[.pointer (some ⟨g0, 0, none⟩), .int .i64 a1_from, .int .i64 a2_have] w fun e w' => e = .returned (.tuple #[]) ∧ Sat w0 [Per_ch g0 r, F] w' := by
 unfold peer_acked at H
 refine T.enter (args := [_, _, _]) (S := Sat w0 [Per_ch g0 a0_p, F]) Try.func34 rfl rfl (s) ?_
 refine T.ex (S' := fun q : (Option Nat × Nat) × (Option Nat × Nat) × (Option Nat × Nat) × (Option Nat × Nat) × (Option Nat × Nat) => Sat w0 [blk g0 [.int .i64 a0_p.id, .int .i64 a0_p.players, .int .i64 a0_p.delay, .int .i64 a0_p.turn, .int .i64 a0_p.said, rowV q.1 a0_p.mine.length, rowV q.2.1 a0_p.inputs.length, rowV q.2.2.1 a0_p.has.length, rowV q.2.2.2.1 a0_p.acked.length, rowV q.2.2.2.2 a0_p.hashes.length, .bool a0_p.split] 26, F, drow 35 (rowV q.1 a0_p.mine.length) a0_p.mine, drow 35 (rowV q.2.1 a0_p.inputs.length) a0_p.inputs, row nilH 3 (rowV q.2.2.1 a0_p.has.length) a0_p.has, row nilH 3 (rowV q.2.2.2.1 a0_p.acked.length) a0_p.acked, row nilH 36 (rowV q.2.2.2.2 a0_p.hashes.length) a0_p.hashes]) (fun w s => Per_open 0 rfl s) ?_
 rintro ⟨q1, q2, q3, q4, q5⟩
 show T _ _ _ _ (Sat w0 [blk g0 [.int .i64 a0_p.id, .int .i64 a0_p.players, .int .i64 a0_p.delay, .int .i64 a0_p.turn, .int .i64 a0_p.said, rowV q1 a0_p.mine.length, rowV q2 a0_p.inputs.length, rowV q3 a0_p.has.length, rowV q4 a0_p.acked.length, rowV q5 a0_p.hashes.length, .bool a0_p.split] 26, F, drow 35 (rowV q1 a0_p.mine.length) a0_p.mine, drow 35 (rowV q2 a0_p.inputs.length) a0_p.inputs, row nilH 3 (rowV q3 a0_p.has.length) a0_p.has, row nilH 3 (rowV q4 a0_p.acked.length) a0_p.acked, row nilH 36 (rowV q5 a0_p.hashes.length) a0_p.hashes]) _
 refine T.seq fun K1 hK1 => ?_
 refine T.seq fun K2 hK2 => ?_
 try dsimp only [List.set, List.cons_append, List.nil_append]
 refine T.region ?_
 refine RS.p (Pu.move rfl) rfl rfl ?_
 refine RS.p (Pu.move rfl) rfl rfl ?_
 refine RS.p (Pu.nilCheck rfl) rfl rfl ?_
 refine RS.p (Pu.fieldAddr fd26_8 rfl) rfl rfl ?_
 refine RS.q (Qt.ldB 0 ty23 rfl rfl rfl) rfl rfl ?_
 refine RS.p (Pu.move rfl) rfl rfl ?_
 obtain ⟨g6, H⟩ := gdE H
 refine RS.p (Pu.subS rfl rfl g6) rfl rfl ?_
 obtain ⟨g7, H⟩ := gdE H
 refine RS.know (p := ∃ g cap, q4 = (some g, cap)) (fun w s => (s.row_some (k := 5) rfl (pos_of g7))) ?_
 rintro ⟨gg8, cc9, rfl⟩
 refine RS.p (Pu.indexSl sl23 rfl rfl g7) rfl rfl ?_
 refine RS.q (Qt.ld0 (α := Int) (Rd.ofRowN 5 rfl) ty3 rfl rfl g7 (by rintro _ _ rfl; rfl)) rfl rfl ?_
 refine RS.p (Pu.bin rfl rfl rfl) rfl rfl ?_
 refine RS.p (Pu.move rfl) rfl rfl ?_
 refine RS.joinV 7 24 (.bool (decide ((a2_have ≤ (gi a0_p.acked (a1_from - 1))) ∨ (a0_p.said < a2_have)))) [(0, _), (1, _), (2, _)] ⟨rfl, rfl, rfl, trivial⟩ ?_ ?_
 ·refine RS.nil (hK2 _ _ ?_)
  refine T.condP rfl (fun hc12 => ?_) (fun hc12 => ?_)
  ·have H := ifT hc12 H
   obtain rfl := Option.some.inj H
   try dsimp only [List.set, List.cons_append, List.nil_append]
   refine T.rt (Cont.ret0 rfl fun w' s => ?_)
   exact ⟨rfl, Per_shut (x := a0_p) ⟨q1, q2, q3, (some gg8, cc9), q5⟩ (s.pick [1, 0, 2, 3, 4, 5, 6] (by decide) rfl)⟩
  ·have H := ifF hc12 H
   refine T.skip (hK1 _ _ ?_)
   refine T.seq fun K3 hK3 => ?_
   try dsimp only [List.set, List.cons_append, List.nil_append]
   refine T.region ?_
   refine RS.p (Pu.move rfl) rfl rfl ?_
   refine RS.p (Pu.nilCheck rfl) rfl rfl ?_
   refine RS.p (Pu.fieldAddr fd26_8 rfl) rfl rfl ?_
   refine RS.q (Qt.ldB 0 ty23 rfl rfl rfl) rfl rfl ?_
   refine RS.p (Pu.move rfl) rfl rfl ?_
   obtain ⟨g13, H⟩ := gdE H
   refine RS.p (Pu.subS rfl rfl g13) rfl rfl ?_
   refine RS.p (Pu.move rfl) rfl rfl ?_
   obtain ⟨g14, H⟩ := gdE H
   refine RS.p (Pu.indexSl sl23 rfl rfl g14) rfl rfl ?_
   refine RS.solid (Sd.st0 (α := Int) 5 a2_have rfl ty3 rfl rfl rfl g14 rfl rfl (by decide) rfl (by rintro _ _ rfl; rfl)) rfl rfl fun _ => ?_
   refine RS.nil (hK3 _ _ (T.conseq (fr' := [(0, _)]) ?_ ⟨rfl, trivial⟩ (fun _ s => s)))
   refine T.seq fun K4 hK4 => ?_
   try dsimp only [List.set, List.cons_append, List.nil_append]
   refine T.region ?_
   refine RS.p (Pu.move rfl) rfl rfl ?_
   refine RS.p (Pu.nilCheck rfl) rfl rfl ?_
   refine RS.p (Pu.fieldAddr fd26_8 rfl) rfl rfl ?_
   refine RS.q (Qt.ldB 0 ty23 rfl rfl rfl) rfl rfl ?_
   obtain ⟨x15, hx15, H⟩ := bindE H
   refine RS.q (Qt.call (vs := [rowV (some gg8, cc9) a0_p.acked.length]) ent51 rfl fun w s => slices_Min_walk (si a0_p.acked (a1_from - 1) a2_have) w ((Rd.ofRowN 5 rfl) w s) hx15) rfl rfl ?_
   refine RS.solid (Sd.alloc zr3 rfl) rfl rfl fun b16 => ?_
   refine RS.solid (Sd.stB (cs' := [_]) 7 ty3 rfl rfl rfl rfl rfl rfl rfl rfl) rfl rfl fun _ => ?_
   refine RS.nil (hK4 _ _ (T.conseq (fr' := [(0, _), (6, _)]) ?_ ⟨rfl, rfl, trivial⟩ (fun _ s => s)))
   try dsimp only [List.set, List.cons_append, List.nil_append]
   refine T.region ?_
   refine RS.p (Pu.move rfl) rfl rfl ?_
   refine RS.p (Pu.move rfl) rfl rfl ?_
   refine RS.p (Pu.nilCheck rfl) rfl rfl ?_
   refine RS.p (Pu.fieldAddr fd26_5 rfl) rfl rfl ?_
   refine RS.q (Qt.ldB 0 ty22 rfl rfl rfl) rfl rfl ?_
   refine RS.p (Pu.makeFunc rfl) rfl rfl ?_
   obtain ⟨x17, hx17, H⟩ := bindE H
   refine RS.solid (Sd.callM 2 ent65 rfl rfl (fun w s => slices_DeleteFuncI_walk a0_p.mine (fun y0 => peer_acked_1 y0 x15) rfl ⟨66, _, rfl, ent66, fun y0 c r w' ⟨_, hc⟩ hs hr => by subst hc; exact peer_acked_1_walk y0 x15 w' (blk_of (Sat.ofRest (j := 7) hs rfl (by decide)) (k := 0) rfl) hr⟩ hx17 w s)) rfl rfl fun q18 => ?_
   refine RS.p (Pu.nilCheck rfl) rfl rfl ?_
   refine RS.p (Pu.fieldAddr fd26_5 rfl) rfl rfl ?_
   refine RS.solid (Sd.stB (cs' := [_, _, _, _, _, _, _, _, _, _, _]) 0 ty22 rfl rfl rfl rfl rfl rfl rfl rfl) rfl rfl fun _ => ?_
   obtain rfl := Option.some.inj H
   refine RS.nil (Cont.end0 rfl fun w' s => ?_)
   exact ⟨rfl, Per_shut (x := (⟨a0_p.id, a0_p.players, a0_p.delay, a0_p.turn, a0_p.said, x17, a0_p.inputs, a0_p.has, (si a0_p.acked (a1_from - 1) a2_have), a0_p.hashes, a0_p.split⟩ : Per)) ⟨q18, q2, q3, (some gg8, cc9), q5⟩ ((Sat.cellB 0 (Sat.relen (q := (some gg8, cc9)) (m := a0_p.acked.length) 5 s rfl) rfl (congrArg (fun z => [.int .i64 a0_p.id, .int .i64 a0_p.players, .int .i64 a0_p.delay, .int .i64 a0_p.turn, .int .i64 a0_p.said, rowV q18 x17.length, rowV q2 a0_p.inputs.length, rowV q3 a0_p.has.length, rowV (some gg8, cc9) z, rowV q5 a0_p.hashes.length, .bool a0_p.split]) (s.row_fits (q := (some gg8, cc9)) (m := a0_p.acked.length) (k := 5) rfl).1)).pick [1, 0, 2, 3, 4, 5, 6] (by decide) rfl)⟩
 ·intro hJ11
  refine RS.splitP 17 rfl (fun hc10 => ?_) (fun hc10 => ?_)
  ·refine RS.no rfl rfl ?_
   refine RS.no rfl rfl ?_
   refine RS.no rfl rfl ?_
   refine RS.no rfl rfl ?_
   refine RS.no rfl rfl ?_
   refine RS.no rfl rfl ?_
   refine RS.p (Pu.pickT rfl rfl) rfl rfl ?_
   exact hJ11 _ _ ⟨dOrT hc10, rfl, rfl, rfl, trivial⟩ (fun w s => s)
  ·refine RS.p (Pu.move rfl) rfl rfl ?_
   refine RS.p (Pu.move rfl) rfl rfl ?_
   refine RS.p (Pu.nilCheck rfl) rfl rfl ?_
   refine RS.p (Pu.fieldAddr fd26_4 rfl) rfl rfl ?_
   refine RS.q (Qt.ldB 0 ty3 rfl rfl rfl) rfl rfl ?_
   refine RS.p (Pu.bin rfl rfl rfl) rfl rfl ?_
   refine RS.p (Pu.pickF rfl rfl) rfl rfl ?_
   exact hJ11 _ _ ⟨dOrF hc10, rfl, rfl, rfl, trivial⟩ (fun w s => s)
theorem peer_player_walk (a0_n : Int) (w : World) {r : Bool} (H : peer_player a0_n = some r) : Calls Try.prog 56 #[.int .i64 a0_n] w fun e w' => e = .returned (.bool r) ∧ Ext w w' := by
 unfold peer_player at H
 refine T.enter (args := [_]) (S := Sat w []) Try.func56 rfl rfl (Sat.start w) ?_
 refine T.seq fun K1 hK1 => ?_
 refine T.region ?_
 refine RS.p (Pu.assign rfl) rfl rfl ?_
 refine RS.nil (hK1 _ _ ?_)
 refine T.seq fun K2 hK2 => ?_
 refine T.region ?_
 refine RS.p (Pu.move rfl) rfl rfl ?_
 refine RS.p (Pu.bin rfl rfl rfl) rfl rfl ?_
 refine RS.p (Pu.move rfl) rfl rfl ?_
 refine RS.joinV 3 8 (.bool (decide ((1 ≤ a0_n) ∧ (a0_n ≤ 8)))) [(2, _)] ⟨rfl, trivial⟩ ?_ ?_
 ·refine RS.p (Pu.assign rfl) rfl rfl ?_
  refine RS.nil (hK2 _ _ ?_)
  obtain rfl := Option.some.inj H
  refine T.rt (Cont.ret1 rfl rfl fun w' s => ?_)
  exact ⟨rfl, s.ext⟩
 ·intro hJ2
  refine RS.splitP 5 rfl (fun hc1 => ?_) (fun hc1 => ?_)
  ·refine RS.p (Pu.move rfl) rfl rfl ?_
   refine RS.p (Pu.bin rfl rfl rfl) rfl rfl ?_
   refine RS.p (Pu.pickT rfl rfl) rfl rfl ?_
   exact hJ2 _ _ ⟨dAndT hc1, rfl, trivial⟩ (fun w s => s)
  ·refine RS.no rfl rfl ?_
   refine RS.no rfl rfl ?_
   refine RS.p (Pu.pickF rfl rfl) rfl rfl ?_
   exact hJ2 _ _ ⟨dAndF hc1, rfl, trivial⟩ (fun w s => s)
theorem peer_turn_walk (a0_n : Int) (w : World) {r : Bool} (H : peer_turn a0_n = some r) : Calls Try.prog 57 #[.int .i64 a0_n] w fun e w' => e = .returned (.bool r) ∧ Ext w w' := by
 unfold peer_turn at H
 refine T.enter (args := [_]) (S := Sat w []) Try.func57 rfl rfl (Sat.start w) ?_
 refine T.seq fun K1 hK1 => ?_
 refine T.region ?_
 refine RS.p (Pu.assign rfl) rfl rfl ?_
 refine RS.nil (hK1 _ _ ?_)
 refine T.seq fun K2 hK2 => ?_
 refine T.region ?_
 refine RS.p (Pu.move rfl) rfl rfl ?_
 refine RS.p (Pu.bin rfl rfl rfl) rfl rfl ?_
 refine RS.p (Pu.move rfl) rfl rfl ?_
 refine RS.joinV 3 8 (.bool (decide (((-1) ≤ a0_n) ∧ (a0_n ≤ 1099511627776)))) [(2, _)] ⟨rfl, trivial⟩ ?_ ?_
 ·refine RS.p (Pu.assign rfl) rfl rfl ?_
  refine RS.nil (hK2 _ _ ?_)
  obtain rfl := Option.some.inj H
  refine T.rt (Cont.ret1 rfl rfl fun w' s => ?_)
  exact ⟨rfl, s.ext⟩
 ·intro hJ2
  refine RS.splitP 5 rfl (fun hc1 => ?_) (fun hc1 => ?_)
  ·refine RS.p (Pu.move rfl) rfl rfl ?_
   refine RS.p (Pu.bin rfl rfl rfl) rfl rfl ?_
   refine RS.p (Pu.pickT rfl rfl) rfl rfl ?_
   exact hJ2 _ _ ⟨dAndT hc1, rfl, trivial⟩ (fun w s => s)
  ·refine RS.no rfl rfl ?_
   refine RS.no rfl rfl ?_
   refine RS.p (Pu.pickF rfl rfl) rfl rfl ?_
   exact hJ2 _ _ ⟨dAndF hc1, rfl, trivial⟩ (fun w s => s)
theorem peer_MayNote_walk (a0_n : Nte) (w : World) {v0 : Value} (h0 : R (hpOf w) a0_n.input.commands [v0]) {r : Bool} (H : peer_MayNote a0_n = some r) : Calls Try.prog 31 #[.agg #[.int .i64 a0_n.frm, .int .i64 a0_n.dst, .int .i64 a0_n.input.turn, .int .i64 a0_n.input.player, v0, .int .i64 a0_n.don, .int .u64 (a0_n.hash.toNat : Int), .int .i64 a0_n.hav]] w fun e w' => e = .returned (.bool r) ∧ Ext w w' := by
 have hm0 := R_max h0
 obtain ⟨p0, c0, rfl⟩ := R_form h0
 unfold peer_MayNote at H
 refine T.enter (args := [_]) (S := Sat w []) Try.func31 rfl rfl (Sat.start w) ?_
 refine T.seq fun K1 hK1 => ?_
 refine T.region ?_
 refine RS.solid (Sd.box (cs := [_, _, _, _, _, _, _, _]) rfl rfl) rfl rfl fun b1 => ?_
 refine RS.p (Pu.assign rfl) rfl rfl ?_
 refine RS.nil (hK1 _ _ ?_)
 refine T.seq fun K2 hK2 => ?_
 refine T.seq fun K3 hK3 => ?_
 refine T.region ?_
 refine RS.p (Pu.fieldAddr fd38_0 rfl) rfl rfl ?_
 refine RS.q (Qt.ldB 0 ty3 rfl rfl rfl) rfl rfl ?_
 obtain ⟨x2, hx2, H⟩ := bindE H
 refine RS.q (Qt.call (vs := [.int .i64 a0_n.frm]) ent56 rfl fun w s => peer_player_walk a0_n.frm w  hx2) rfl rfl ?_
 refine RS.p (Pu.not rfl) rfl rfl ?_
 refine RS.p (Pu.move rfl) rfl rfl ?_
 refine RS.joinB H 5 12 (fun b5 => .bool b5) [(1, _)] ⟨rfl, trivial⟩ ?_ ?_
 ·intro b5 H
  refine RS.p (Pu.move rfl) rfl rfl ?_
  refine RS.joinV 6 19 (.bool (decide ((b5 = true) ∨ (a0_n.frm = a0_n.dst)))) [(1, _)] ⟨rfl, trivial⟩ ?_ ?_
  ·refine RS.p (Pu.move rfl) rfl rfl ?_
   refine RS.joinB H 5 25 (fun b10 => .bool b10) [(1, _)] ⟨rfl, trivial⟩ ?_ ?_
   ·intro b10 H
    refine RS.p (Pu.move rfl) rfl rfl ?_
    refine RS.joinB H 5 31 (fun b13 => .bool b13) [(1, _)] ⟨rfl, trivial⟩ ?_ ?_
    ·intro b13 H
     refine RS.p (Pu.move rfl) rfl rfl ?_
     refine RS.joinV 9 41 (.bool (decide ((b13 = true) ∨ ((a0_n.don = (-1)) ∧ (¬ (a0_n.hash.toNat : Int) = 0))))) [(1, _)] ⟨rfl, trivial⟩ ?_ ?_
     ·refine RS.nil (hK3 _ _ ?_)
      refine T.condP rfl (fun hc16 => ?_) (fun hc16 => ?_)
      ·have H := ifT hc16 H
       refine T.seq fun K4 hK4 => ?_
       refine T.region ?_
       refine RS.p (Pu.assign rfl) rfl rfl ?_
       refine RS.nil (hK4 _ _ ?_)
       obtain rfl := Option.some.inj H
       refine T.rt (Cont.ret1 rfl rfl fun w' s => ?_)
       exact ⟨rfl, s.ext⟩
      ·have H := ifF hc16 H
       refine T.skip (hK2 _ _ ?_)
       refine T.seq fun K5 hK5 => ?_
       refine T.seq fun K6 hK6 => ?_
       refine T.region ?_
       refine RS.p (Pu.fieldAddr fd38_2 rfl) rfl rfl ?_
       refine RS.p (Pu.fieldAddr fd35_0 rfl) rfl rfl ?_
       refine RS.q (Qt.ldB 0 ty3 rfl rfl rfl) rfl rfl ?_
       refine RS.p (Pu.bin rfl rfl rfl) rfl rfl ?_
       refine RS.nil (hK6 _ _ ?_)
       refine T.condP rfl (fun hc17 => ?_) (fun hc17 => ?_)
       ·have H := ifT hc17 H
        refine T.conseq (fr' := [(1, _)]) ?_ ⟨rfl, trivial⟩ (fun _ s => s)
        refine T.seq fun K7 hK7 => ?_
        refine T.region ?_
        refine RS.p (Pu.fieldAddr fd38_2 rfl) rfl rfl ?_
        refine RS.p (Pu.fieldAddr fd35_1 rfl) rfl rfl ?_
        refine RS.q (Qt.ldB 0 ty3 rfl rfl rfl) rfl rfl ?_
        refine RS.p (Pu.bin rfl rfl rfl) rfl rfl ?_
        refine RS.p (Pu.move rfl) rfl rfl ?_
        refine RS.joinV 6 56 (.bool (decide ((a0_n.input.player = 0) ∧ ((a0_n.input.commands.length : Int) = 0)))) [] trivial ?_ ?_
        ·refine RS.p (Pu.assign rfl) rfl rfl ?_
         refine RS.nil (hK7 _ _ ?_)
         obtain rfl := Option.some.inj H
         refine T.rt (Cont.ret1 rfl rfl fun w' s => ?_)
         exact ⟨rfl, s.ext⟩
        ·intro hJ19
         refine RS.splitP 50 rfl (fun hc18 => ?_) (fun hc18 => ?_)
         ·refine RS.p (Pu.fieldAddr fd38_2 rfl) rfl rfl ?_
          refine RS.p (Pu.fieldAddr fd35_2 rfl) rfl rfl ?_
          refine RS.q (Qt.ldB 0 ty33 rfl rfl rfl) rfl rfl ?_
          refine RS.p (Pu.lenSl sl33 rfl) rfl rfl ?_
          refine RS.p (Pu.bin rfl rfl rfl) rfl rfl ?_
          refine RS.p (Pu.pickT rfl rfl) rfl rfl ?_
          exact hJ19 _ _ ⟨dAndT hc18, trivial⟩ (fun w s => s)
         ·refine RS.no rfl rfl ?_
          refine RS.no rfl rfl ?_
          refine RS.no rfl rfl ?_
          refine RS.no rfl rfl ?_
          refine RS.no rfl rfl ?_
          refine RS.p (Pu.pickF rfl rfl) rfl rfl ?_
          exact hJ19 _ _ ⟨dAndF hc18, trivial⟩ (fun w s => s)
       ·have H := ifF hc17 H
        refine T.skip (hK5 _ _ (T.conseq (fr' := [(1, _)]) ?_ ⟨rfl, trivial⟩ (fun _ s => s)))
        refine T.seq fun K8 hK8 => ?_
        refine T.region ?_
        refine RS.p (Pu.fieldAddr fd38_2 rfl) rfl rfl ?_
        refine RS.q (Qt.ldBA (us := [_, _, _]) 0 ty35 rfl rfl rfl rfl) rfl rfl ?_
        obtain ⟨x20, hx20, H⟩ := bindE H
        refine RS.q (Qt.call (vs := [.agg #[.int .i64 a0_n.input.turn, .int .i64 a0_n.input.player, .slice p0 a0_n.input.commands.length c0]]) ent58 rfl fun w s => turns_May_walk a0_n.input w ((Rd.base h0) w s) hx20) rfl rfl ?_
        refine RS.p (Pu.move rfl) rfl rfl ?_
        refine RS.joinV 7 67 (.bool (decide ((x20 = true) ∧ (a0_n.input.player = a0_n.frm)))) [] trivial ?_ ?_
        ·refine RS.p (Pu.assign rfl) rfl rfl ?_
         refine RS.nil (hK8 _ _ ?_)
         obtain rfl := Option.some.inj H
         refine T.rt (Cont.ret1 rfl rfl fun w' s => ?_)
         exact ⟨rfl, s.ext⟩
        ·intro hJ22
         refine RS.split 60 rfl (fun hc21 => ?_) (fun hc21 => ?_)
         ·refine RS.p (Pu.fieldAddr fd38_2 rfl) rfl rfl ?_
          refine RS.p (Pu.fieldAddr fd35_1 rfl) rfl rfl ?_
          refine RS.q (Qt.ldB 0 ty3 rfl rfl rfl) rfl rfl ?_
          refine RS.p (Pu.fieldAddr fd38_0 rfl) rfl rfl ?_
          refine RS.q (Qt.ldB 0 ty3 rfl rfl rfl) rfl rfl ?_
          refine RS.p (Pu.bin rfl rfl rfl) rfl rfl ?_
          refine RS.p (Pu.pickT rfl rfl) rfl rfl ?_
          exact hJ22 _ _ ⟨dAndT hc21, trivial⟩ (fun w s => s)
         ·refine RS.no rfl rfl ?_
          refine RS.no rfl rfl ?_
          refine RS.no rfl rfl ?_
          refine RS.no rfl rfl ?_
          refine RS.no rfl rfl ?_
          refine RS.no rfl rfl ?_
          refine RS.p (Pu.pickF rfl rfl) rfl rfl ?_
          exact hJ22 _ _ ⟨dAndF (bne_of hc21), trivial⟩ (fun w s => s)
     ·intro hJ15
      refine RS.split 32 rfl (fun hc14 => ?_) (fun hc14 => ?_)
      ·refine RS.no rfl rfl ?_
       refine RS.no rfl rfl ?_
       refine RS.no rfl rfl ?_
       refine RS.no rfl rfl ?_
       refine RS.no rfl rfl ?_
       refine RS.no rfl rfl ?_
       refine RS.no rfl rfl ?_
       refine RS.no rfl rfl ?_
       refine RS.p (Pu.pickT rfl rfl) rfl rfl ?_
       exact hJ15 _ _ ⟨dOrT hc14, rfl, trivial⟩ (fun w s => s)
      ·refine RS.p (Pu.fieldAddr fd38_3 rfl) rfl rfl ?_
       refine RS.q (Qt.ldB 0 ty3 rfl rfl rfl) rfl rfl ?_
       refine RS.p (Pu.bin rfl rfl rfl) rfl rfl ?_
       refine RS.p (Pu.move rfl) rfl rfl ?_
       refine RS.joinV 4 40 (.bool (decide ((a0_n.don = (-1)) ∧ (¬ (a0_n.hash.toNat : Int) = 0)))) [(1, _), (31, _), (32, _), (33, _), (34, _), (35, _)] ⟨rfl, rfl, rfl, rfl, rfl, rfl, trivial⟩ ?_ ?_
       ·refine RS.p (Pu.pickF rfl rfl) rfl rfl ?_
        exact hJ15 _ _ ⟨dOrF (bne_of hc14), rfl, trivial⟩ (fun w s => s)
       ·intro hJ24
        refine RS.splitP 36 rfl (fun hc23 => ?_) (fun hc23 => ?_)
        ·refine RS.p (Pu.fieldAddr fd38_4 rfl) rfl rfl ?_
         refine RS.q (Qt.ldB 0 ty36 rfl rfl rfl) rfl rfl ?_
         refine RS.p (Pu.bin rfl rfl rfl) rfl rfl ?_
         refine RS.p (Pu.pickT rfl rfl) rfl rfl ?_
         exact hJ24 _ _ ⟨dAndT hc23, rfl, rfl, rfl, rfl, rfl, rfl, trivial⟩ (fun w s => s)
        ·refine RS.no rfl rfl ?_
         refine RS.no rfl rfl ?_
         refine RS.no rfl rfl ?_
         refine RS.p (Pu.pickF rfl rfl) rfl rfl ?_
         exact hJ24 _ _ ⟨dAndF hc23, rfl, rfl, rfl, rfl, rfl, rfl, trivial⟩ (fun w s => s)
    ·intro z25 H hJ12
     refine RS.split 26 rfl (fun hc11 => ?_) (fun hc11 => ?_)
     ·have H := ifT hc11 H
      refine RS.no rfl rfl ?_
      refine RS.no rfl rfl ?_
      refine RS.no rfl rfl ?_
      refine RS.no rfl rfl ?_
      refine RS.p (Pu.pickT rfl rfl) rfl rfl ?_
      obtain rfl := Option.some.inj H
      exact hJ12 _ _ ⟨rfl, rfl, trivial⟩ (fun w s => s)
     ·have H := ifB hc11 H
      refine RS.p (Pu.fieldAddr fd38_5 rfl) rfl rfl ?_
      refine RS.q (Qt.ldB 0 ty3 rfl rfl rfl) rfl rfl ?_
      obtain ⟨x26, hx26, H⟩ := bindE H
      refine RS.q (Qt.call (vs := [.int .i64 a0_n.hav]) ent57 rfl fun w s => peer_turn_walk a0_n.hav w  hx26) rfl rfl ?_
      refine RS.p (Pu.not rfl) rfl rfl ?_
      refine RS.p (Pu.pickF rfl rfl) rfl rfl ?_
      obtain rfl := Option.some.inj H
      exact hJ12 _ _ ⟨rfl, rfl, trivial⟩ (fun w s => s)
   ·intro z27 H hJ9
    refine RS.splitP 20 rfl (fun hc8 => ?_) (fun hc8 => ?_)
    ·have H := ifT hc8 H
     refine RS.no rfl rfl ?_
     refine RS.no rfl rfl ?_
     refine RS.no rfl rfl ?_
     refine RS.no rfl rfl ?_
     refine RS.p (Pu.pickT rfl rfl) rfl rfl ?_
     obtain rfl := Option.some.inj H
     exact hJ9 _ _ ⟨rfl, rfl, trivial⟩ (fun w s => s)
    ·have H := ifF hc8 H
     refine RS.p (Pu.fieldAddr fd38_3 rfl) rfl rfl ?_
     refine RS.q (Qt.ldB 0 ty3 rfl rfl rfl) rfl rfl ?_
     obtain ⟨x28, hx28, H⟩ := bindE H
     refine RS.q (Qt.call (vs := [.int .i64 a0_n.don]) ent57 rfl fun w s => peer_turn_walk a0_n.don w  hx28) rfl rfl ?_
     refine RS.p (Pu.not rfl) rfl rfl ?_
     refine RS.p (Pu.pickF rfl rfl) rfl rfl ?_
     obtain rfl := Option.some.inj H
     exact hJ9 _ _ ⟨rfl, rfl, trivial⟩ (fun w s => s)
  ·intro hJ7
   refine RS.split 13 rfl (fun hc6 => ?_) (fun hc6 => ?_)
   ·refine RS.no rfl rfl ?_
    refine RS.no rfl rfl ?_
    refine RS.no rfl rfl ?_
    refine RS.no rfl rfl ?_
    refine RS.no rfl rfl ?_
    refine RS.p (Pu.pickT rfl rfl) rfl rfl ?_
    exact hJ7 _ _ ⟨dOrT hc6, rfl, trivial⟩ (fun w s => s)
   ·refine RS.p (Pu.fieldAddr fd38_0 rfl) rfl rfl ?_
    refine RS.q (Qt.ldB 0 ty3 rfl rfl rfl) rfl rfl ?_
    refine RS.p (Pu.fieldAddr fd38_1 rfl) rfl rfl ?_
    refine RS.q (Qt.ldB 0 ty3 rfl rfl rfl) rfl rfl ?_
    refine RS.p (Pu.bin rfl rfl rfl) rfl rfl ?_
    refine RS.p (Pu.pickF rfl rfl) rfl rfl ?_
    exact hJ7 _ _ ⟨dOrF (bne_of hc6), rfl, trivial⟩ (fun w s => s)
 ·intro z29 H hJ4
  refine RS.split 7 rfl (fun hc3 => ?_) (fun hc3 => ?_)
  ·have H := ifT hc3 H
   refine RS.no rfl rfl ?_
   refine RS.no rfl rfl ?_
   refine RS.no rfl rfl ?_
   refine RS.no rfl rfl ?_
   refine RS.p (Pu.pickT rfl rfl) rfl rfl ?_
   obtain rfl := Option.some.inj H
   exact hJ4 _ _ ⟨rfl, rfl, trivial⟩ (fun w s => s)
  ·have H := ifB hc3 H
   refine RS.p (Pu.fieldAddr fd38_1 rfl) rfl rfl ?_
   refine RS.q (Qt.ldB 0 ty3 rfl rfl rfl) rfl rfl ?_
   obtain ⟨x30, hx30, H⟩ := bindE H
   refine RS.q (Qt.call (vs := [.int .i64 a0_n.dst]) ent56 rfl fun w s => peer_player_walk a0_n.dst w  hx30) rfl rfl ?_
   refine RS.p (Pu.not rfl) rfl rfl ?_
   refine RS.p (Pu.pickF rfl rfl) rfl rfl ?_
   obtain rfl := Option.some.inj H
   exact hJ4 _ _ ⟨rfl, rfl, trivial⟩ (fun w s => s)
theorem peer_split_walk (a0_p : Per) (a1_done : Int) (a2_hash : UInt64) (w : World) {v0 v1 v2 v3 v4 : Value} (h0 : R (hpOf w) a0_p.mine [v0]) (h1 : R (hpOf w) a0_p.inputs [v1]) (h2 : R (hpOf w) a0_p.has [v2]) (h3 : R (hpOf w) a0_p.acked [v3]) (h4 : R (hpOf w) a0_p.hashes [v4]) {r : Bool} (H : peer_split a0_p a1_done a2_hash = some r) : Calls Try.prog 35 #[.agg #[.int .i64 a0_p.id, .int .i64 a0_p.players, .int .i64 a0_p.delay, .int .i64 a0_p.turn, .int .i64 a0_p.said, v0, v1, v2, v3, v4, .bool a0_p.split], .int .i64 a1_done, .int .u64 a2_hash.toNat] w fun e w' => e = .returned (.bool r) ∧ Ext w w' := by
 have hm0 := R_max h0
 obtain ⟨p0, c0, rfl⟩ := R_form h0
 have hm1 := R_max h1
 obtain ⟨p1, c1, rfl⟩ := R_form h1
 have hm2 := R_max h2
 obtain ⟨p2, c2, rfl⟩ := R_form h2
 have hm3 := R_max h3
 obtain ⟨p3, c3, rfl⟩ := R_form h3
 have hm4 := R_max h4
 obtain ⟨p4, c4, rfl⟩ := R_form h4
 unfold peer_split at H
 refine T.enter (args := [_, _, _]) (S := Sat w []) Try.func35 rfl rfl (Sat.start w) ?_
 refine T.seq fun K1 hK1 => ?_
 refine T.region ?_
 refine RS.solid (Sd.box (cs := [_, _, _, _, _, _, _, _, _, _, _]) rfl rfl) rfl rfl fun b1 => ?_
 refine RS.p (Pu.assign rfl) rfl rfl ?_
 refine RS.nil (hK1 _ _ ?_)
 refine T.seq fun K2 hK2 => ?_
 refine T.region ?_
 refine RS.p (Pu.fieldAddr fd26_9 rfl) rfl rfl ?_
 refine RS.q (Qt.ldB 0 ty24 rfl rfl rfl) rfl rfl ?_
 refine RS.p (Pu.lenSl sl24 rfl) rfl rfl ?_
 refine RS.p (Pu.fieldAddr fd26_3 rfl) rfl rfl ?_
 refine RS.q (Qt.ldB 0 ty3 rfl rfl rfl) rfl rfl ?_
 refine RS.p (Pu.move rfl) rfl rfl ?_
 obtain ⟨g2, H⟩ := gdE H
 refine RS.p (Pu.subS rfl rfl g2) rfl rfl ?_
 obtain ⟨g3, H⟩ := gdE H
 refine RS.p (Pu.subS rfl rfl g3) rfl rfl ?_
 refine RS.p (Pu.assign rfl) rfl rfl ?_
 refine RS.nil (hK2 _ _ (T.conseq (fr' := [(1, _), (2, _), (3, _), (7, _)]) ?_ ⟨rfl, rfl, rfl, rfl, trivial⟩ (fun _ s => s)))
 refine T.seq fun K3 hK3 => ?_
 refine T.region ?_
 refine RS.p (Pu.move rfl) rfl rfl ?_
 refine RS.p (Pu.fieldAddr fd26_3 rfl) rfl rfl ?_
 refine RS.q (Qt.ldB 0 ty3 rfl rfl rfl) rfl rfl ?_
 refine RS.p (Pu.bin rfl rfl rfl) rfl rfl ?_
 refine RS.p (Pu.move rfl) rfl rfl ?_
 refine RS.joinV 3 23 (.bool (decide ((a1_done < a0_p.turn) ∧ (0 ≤ ((a0_p.hashes.length : Int) - (a0_p.turn - a1_done)))))) [(2, _), (3, _), (7, _)] ⟨rfl, rfl, rfl, trivial⟩ ?_ ?_
 ·refine RS.p (Pu.move rfl) rfl rfl ?_
  obtain ⟨g8, H⟩ := gdE H
  refine RS.joinV 8 32 (.bool (decide (((a1_done < a0_p.turn) ∧ (0 ≤ ((a0_p.hashes.length : Int) - (a0_p.turn - a1_done)))) ∧ (¬ ((gi a0_p.hashes ((a0_p.hashes.length : Int) - (a0_p.turn - a1_done))).toNat : Int) = (a2_hash.toNat : Int))))) [] trivial ?_ ?_
  ·refine RS.p (Pu.assign rfl) rfl rfl ?_
   refine RS.nil (hK3 _ _ ?_)
   obtain rfl := Option.some.inj H
   refine T.rt (Cont.ret1 rfl rfl fun w' s => ?_)
   exact ⟨rfl, s.ext⟩
  ·intro hJ7
   refine RS.splitP 24 rfl (fun hc6 => ?_) (fun hc6 => ?_)
   ·refine RS.p (Pu.fieldAddr fd26_9 rfl) rfl rfl ?_
    refine RS.q (Qt.ldB 0 ty24 rfl rfl rfl) rfl rfl ?_
    refine RS.p (Pu.move rfl) rfl rfl ?_
    obtain ⟨bl9, ol10, rfl⟩ := R_ptr h4 (ne_of_pos (pos_of (g8 hc6)))
    refine RS.p (Pu.indexSl sl24 rfl rfl (g8 hc6)) rfl rfl ?_
    refine RS.q (Qt.ld0 (α := UInt64) (Rd.base h4) ty36 rfl rfl (g8 hc6) (by rintro _ _ rfl; rfl)) rfl rfl ?_
    refine RS.p (Pu.move rfl) rfl rfl ?_
    refine RS.p (Pu.bin rfl rfl rfl) rfl rfl ?_
    refine RS.p (Pu.pickT rfl rfl) rfl rfl ?_
    exact hJ7 _ _ ⟨dAndT hc6, trivial⟩ (fun w s => s)
   ·refine RS.no rfl rfl ?_
    refine RS.no rfl rfl ?_
    refine RS.no rfl rfl ?_
    refine RS.no rfl rfl ?_
    refine RS.no rfl rfl ?_
    refine RS.no rfl rfl ?_
    refine RS.no rfl rfl ?_
    refine RS.p (Pu.pickF rfl rfl) rfl rfl ?_
    exact hJ7 _ _ ⟨dAndF hc6, trivial⟩ (fun w s => s)
 ·intro hJ5
  refine RS.splitP 20 rfl (fun hc4 => ?_) (fun hc4 => ?_)
  ·refine RS.p (Pu.move rfl) rfl rfl ?_
   refine RS.p (Pu.bin rfl rfl rfl) rfl rfl ?_
   refine RS.p (Pu.pickT rfl rfl) rfl rfl ?_
   exact hJ5 _ _ ⟨dAndT hc4, rfl, rfl, rfl, trivial⟩ (fun w s => s)
  ·refine RS.no rfl rfl ?_
   refine RS.no rfl rfl ?_
   refine RS.p (Pu.pickF rfl rfl) rfl rfl ?_
   exact hJ5 _ _ ⟨dAndF hc4, rfl, rfl, rfl, trivial⟩ (fun w s => s)
theorem peer_Take_walk (a0_p : Per) (a1_n : Nte) (w : World) {v0 v1 v2 v3 v4 v5 : Value} (h0 : R (hpOf w) a0_p.mine [v0]) (h1 : R (hpOf w) a0_p.inputs [v1]) (h2 : R (hpOf w) a0_p.has [v2]) (h3 : R (hpOf w) a0_p.acked [v3]) (h4 : R (hpOf w) a0_p.hashes [v4]) (h5 : R (hpOf w) a1_n.input.commands [v5]) {r : Per × Int} (H : peer_Take a0_p a1_n = some r) : Calls Try.prog 9 #[.agg #[.int .i64 a0_p.id, .int .i64 a0_p.players, .int .i64 a0_p.delay, .int .i64 a0_p.turn, .int .i64 a0_p.said, v0, v1, v2, v3, v4, .bool a0_p.split], .agg #[.int .i64 a1_n.frm, .int .i64 a1_n.dst, .int .i64 a1_n.input.turn, .int .i64 a1_n.input.player, v5, .int .i64 a1_n.don, .int .u64 (a1_n.hash.toNat : Int), .int .i64 a1_n.hav]] w fun e w' => ∃ g : (Option Nat × Nat) × (Option Nat × Nat) × (Option Nat × Nat) × (Option Nat × Nat) × (Option Nat × Nat), e = .returned (.tuple #[.agg #[.int .i64 r.1.id, .int .i64 r.1.players, .int .i64 r.1.delay, .int .i64 r.1.turn, .int .i64 r.1.said, rowV g.1 r.1.mine.length, rowV g.2.1 r.1.inputs.length, rowV g.2.2.1 r.1.has.length, rowV g.2.2.2.1 r.1.acked.length, rowV g.2.2.2.2 r.1.hashes.length, .bool r.1.split], .int .i64 r.2]) ∧ Sat w [drow 35 (rowV g.1 r.1.mine.length) r.1.mine, drow 35 (rowV g.2.1 r.1.inputs.length) r.1.inputs, row nilH 3 (rowV g.2.2.1 r.1.has.length) r.1.has, row nilH 3 (rowV g.2.2.2.1 r.1.acked.length) r.1.acked, row nilH 36 (rowV g.2.2.2.2 r.1.hashes.length) r.1.hashes] w' := by
 have hm0 := R_max h0
 obtain ⟨p0, c0, rfl⟩ := R_form h0
 have hm1 := R_max h1
 obtain ⟨p1, c1, rfl⟩ := R_form h1
 have hm2 := R_max h2
 obtain ⟨p2, c2, rfl⟩ := R_form h2
 have hm3 := R_max h3
 obtain ⟨p3, c3, rfl⟩ := R_form h3
 have hm4 := R_max h4
 obtain ⟨p4, c4, rfl⟩ := R_form h4
 have hm5 := R_max h5
 obtain ⟨p5, c5, rfl⟩ := R_form h5
 unfold peer_Take at H
 refine T.enter (args := [_, _]) (S := Sat w []) Try.func9 rfl rfl (Sat.start w) ?_
 refine T.seq fun K1 hK1 => ?_
 refine T.region ?_
 refine RS.solid (Sd.box (cs := [_, _, _, _, _, _, _, _, _, _, _]) rfl rfl) rfl rfl fun b1 => ?_
 refine RS.solid (Sd.box (cs := [_, _, _, _, _, _, _, _]) rfl rfl) rfl rfl fun b2 => ?_
 refine RS.solid (Sd.alloc zr26 rfl) rfl rfl fun b3 => ?_
 refine RS.weakS (fun w s => (s.nilRowG (α := Inp) 35)) ?_
 refine RS.weakS (fun w s => (s.nilRowG (α := Inp) 35)) ?_
 refine RS.weakS (fun w s => (s.nilRow (α := Int) 3)) ?_
 refine RS.weakS (fun w s => (s.nilRow (α := Int) 3)) ?_
 refine RS.weakS (fun w s => (s.nilRow (α := UInt64) 36)) ?_
 refine RS.p (Pu.assign rfl) rfl rfl ?_
 refine RS.nil (hK1 _ _ (T.conseq (fr' := [(2, _), (3, _), (4, _)]) ?_ ⟨rfl, rfl, rfl, trivial⟩ (fun _ s => s)))
 refine T.seq fun K2 hK2 => ?_
 refine T.block ?_
 refine T.seq fun K3 hK3 => ?_
 try dsimp only [List.set, List.cons_append, List.nil_append]
 refine T.region ?_
 refine RS.q (Qt.ldBA (us := [_, _, _, _, _, _, _, _, _, _, _]) 0 ty26 rfl rfl rfl rfl) rfl rfl ?_
 obtain ⟨x4, hx4, H⟩ := bindE H
 refine RS.q (Qt.call (vs := [.agg #[.int .i64 a0_p.id, .int .i64 a0_p.players, .int .i64 a0_p.delay, .int .i64 a0_p.turn, .int .i64 a0_p.said, .slice p0 a0_p.mine.length c0, .slice p1 a0_p.inputs.length c1, .slice p2 a0_p.has.length c2, .slice p3 a0_p.acked.length c3, .slice p4 a0_p.hashes.length c4, .bool a0_p.split]]) ent30 rfl fun w s => peer_May_walk a0_p w ((Rd.base h0) w s) ((Rd.base h1) w s) ((Rd.base h2) w s) ((Rd.base h3) w s) ((Rd.base h4) w s) hx4) rfl rfl ?_
 refine RS.p (Pu.not rfl) rfl rfl ?_
 refine RS.p (Pu.move rfl) rfl rfl ?_
 refine RS.joinB H 4 14 (fun b7 => .bool b7) [(2, _), (3, _), (4, _)] ⟨rfl, rfl, rfl, trivial⟩ ?_ ?_
 ·intro b7 H
  refine RS.p (Pu.move rfl) rfl rfl ?_
  refine RS.joinV 6 21 (.bool (decide ((b7 = true) ∨ (¬ a1_n.dst = a0_p.id)))) [(2, _), (3, _), (4, _)] ⟨rfl, rfl, rfl, trivial⟩ ?_ ?_
  ·refine RS.p (Pu.move rfl) rfl rfl ?_
   refine RS.joinV 6 28 (.bool (decide (((b7 = true) ∨ (¬ a1_n.dst = a0_p.id)) ∨ (a0_p.players < a1_n.frm)))) [(2, _), (3, _), (4, _)] ⟨rfl, rfl, rfl, trivial⟩ ?_ ?_
   ·refine RS.p (Pu.assign rfl) rfl rfl ?_
    refine RS.nil (hK3 _ _ ?_)
    refine T.condP rfl (fun hc12 => ?_) (fun hc12 => ?_)
    ·have H := ifT hc12 H
     refine T.conseq (fr' := [(4, _)]) ?_ ⟨rfl, trivial⟩ (fun _ s => s)
     refine T.seq fun K4 hK4 => ?_
     try dsimp only [List.set, List.cons_append, List.nil_append]
     refine T.region ?_
     refine RS.p (Pu.build (cells := [_, _, _, _, _, _, _, _, _, _, _]) st26 rfl rfl) rfl rfl ?_
     refine RS.solid (Sd.stB (cs' := [_, _, _, _, _, _, _, _, _, _, _]) 2 ty26 rfl rfl rfl rfl rfl rfl rfl rfl) rfl rfl fun _ => ?_
     refine RS.p (Pu.assign rfl) rfl rfl ?_
     refine RS.nil (hK4 _ _ ?_)
     obtain rfl := Option.some.inj H
     try dsimp only [List.set, List.cons_append, List.nil_append]
     refine T.rt (Cont.retCT 2 rfl ty26 rfl rfl rfl rfl fun w' s => ?_)
     exact ⟨⟨(none, 0), (none, 0), (none, 0), (none, 0), (none, 0)⟩, rfl, (((((s.nilRowG (α := Inp) 35).nilRowG (α := Inp) 35).nilRow (α := Int) 3).nilRow (α := Int) 3).nilRow (α := UInt64) 36).pick [8, 9, 10, 11, 12] (by decide) rfl⟩
    ·have H := ifF hc12 H
     refine T.seq fun K5 hK5 => ?_
     try dsimp only [List.set, List.cons_append, List.nil_append]
     refine T.region ?_
     refine RS.p (Pu.fieldAddr fd38_2 rfl) rfl rfl ?_
     refine RS.p (Pu.fieldAddr fd35_0 rfl) rfl rfl ?_
     refine RS.q (Qt.ldB 1 ty3 rfl rfl rfl) rfl rfl ?_
     refine RS.p (Pu.fieldAddr fd26_3 rfl) rfl rfl ?_
     refine RS.q (Qt.ldB 0 ty3 rfl rfl rfl) rfl rfl ?_
     obtain ⟨g13, H⟩ := gdE H
     refine RS.p (Pu.addS rfl rfl g13) rfl rfl ?_
     refine RS.p (Pu.bin rfl rfl rfl) rfl rfl ?_
     refine RS.p (Pu.assign rfl) rfl rfl ?_
     refine RS.nil (hK5 _ _ ?_)
     refine T.condP rfl (fun hc14 => ?_) (fun hc14 => ?_)
     ·have H := ifT hc14 H
      refine T.conseq (fr' := [(4, _)]) ?_ ⟨rfl, trivial⟩ (fun _ s => s)
      refine T.seq fun K6 hK6 => ?_
      try dsimp only [List.set, List.cons_append, List.nil_append]
      refine T.region ?_
      refine RS.p (Pu.build (cells := [_, _, _, _, _, _, _, _, _, _, _]) st26 rfl rfl) rfl rfl ?_
      refine RS.solid (Sd.stB (cs' := [_, _, _, _, _, _, _, _, _, _, _]) 2 ty26 rfl rfl rfl rfl rfl rfl rfl rfl) rfl rfl fun _ => ?_
      refine RS.p (Pu.assign rfl) rfl rfl ?_
      refine RS.nil (hK6 _ _ ?_)
      obtain rfl := Option.some.inj H
      try dsimp only [List.set, List.cons_append, List.nil_append]
      refine T.rt (Cont.retCT 2 rfl ty26 rfl rfl rfl rfl fun w' s => ?_)
      exact ⟨⟨(none, 0), (none, 0), (none, 0), (none, 0), (none, 0)⟩, rfl, (((((s.nilRowG (α := Inp) 35).nilRowG (α := Inp) 35).nilRow (α := Int) 3).nilRow (α := Int) 3).nilRow (α := UInt64) 36).pick [8, 9, 10, 11, 12] (by decide) rfl⟩
     ·have H := ifF hc14 H
      refine T.skip (hK2 _ _ (T.conseq (fr' := [(2, _), (3, _), (4, _)]) ?_ ⟨rfl, rfl, rfl, trivial⟩ (fun _ s => s)))
      refine T.seq fun K7 hK7 => ?_
      try dsimp only [List.set, List.cons_append, List.nil_append]
      refine T.region ?_
      refine RS.q (Qt.ldBA (us := [_, _, _, _, _, _, _, _, _, _, _]) 0 ty26 rfl rfl rfl rfl) rfl rfl ?_
      obtain ⟨x15, hx15, H⟩ := bindE H
      refine RS.solid (Sd.callN (vs := [.agg #[.int .i64 a0_p.id, .int .i64 a0_p.players, .int .i64 a0_p.delay, .int .i64 a0_p.turn, .int .i64 a0_p.said, .slice p0 a0_p.mine.length c0, .slice p1 a0_p.inputs.length c1, .slice p2 a0_p.has.length c2, .slice p3 a0_p.acked.length c3, .slice p4 a0_p.hashes.length c4, .bool a0_p.split]]) ent32 rfl (fun w s => peer_Own_walk a0_p w ((Rd.base h0) w s) ((Rd.base h1) w s) ((Rd.base h2) w s) ((Rd.base h3) w s) ((Rd.base h4) w s) hx15)) rfl rfl fun ⟨q16, q17, q18, q19, q20⟩ => ?_
      refine RS.solid (Sd.stB (cs' := [_, _, _, _, _, _, _, _, _, _, _]) 0 ty26 rfl rfl rfl rfl rfl rfl rfl rfl) rfl rfl fun _ => ?_
      refine RS.nil (hK7 _ _ ?_)
      refine T.seq fun K8 hK8 => ?_
      refine T.seq fun K9 hK9 => ?_
      try dsimp only [List.set, List.cons_append, List.nil_append]
      refine T.drawn (fun _ => True) [(0, .pu), (1, .pu), (2, .rd), (3, .pu), (4, .rd), (5, .pu), (6, .rd), (7, .pu), (8, .pu), (9, .rd), (10, .pu), (11, .pu)] mixed (ClE.sat _ _) (by kernel_rfl) ?_
      refine RD.p (fun _ _ => trivial) rfl (Pu.fieldAddr fd38_2 rfl) rfl rfl ?_
      refine RD.p (fun _ _ => trivial) rfl (Pu.fieldAddr fd35_0 rfl) rfl rfl ?_
      refine RD.q (fun _ _ => trivial) rfl (Qt.ldB 1 ty3 rfl rfl rfl) rfl rfl ?_
      refine RD.p (fun _ _ => trivial) rfl (Pu.fieldAddr fd26_7 rfl) rfl rfl ?_
      refine RD.q (fun _ _ => trivial) rfl (Qt.ldB 0 ty23 rfl rfl rfl) rfl rfl ?_
      refine RD.p (fun _ _ => trivial) rfl (Pu.fieldAddr fd38_0 rfl) rfl rfl ?_
      refine RD.q (fun _ _ => trivial) rfl (Qt.ldB 1 ty3 rfl rfl rfl) rfl rfl ?_
      obtain ⟨g21, H⟩ := gdE H
      refine RD.p (fun _ _ => trivial) rfl (Pu.subS rfl rfl g21) rfl rfl ?_
      obtain ⟨g22, H⟩ := gdE H
      refine RD.know (p := ∃ g cap, q18 = (some g, cap)) (fun w s => (s.row_some (k := 10) rfl (pos_of g22))) ?_
      rintro ⟨gg23, cc24, rfl⟩
      refine RD.p (fun _ _ => trivial) rfl (Pu.indexSl sl23 rfl rfl g22) rfl rfl ?_
      refine RD.q (fun _ _ => trivial) rfl (Qt.ld0 (α := Int) (Rd.ofRowN 10 rfl) ty3 rfl rfl g22 (by rintro _ _ rfl; rfl)) rfl rfl ?_
      obtain ⟨g25, H⟩ := gdE H
      refine RD.p (fun _ _ => trivial) rfl (Pu.addS rfl rfl g25) rfl rfl ?_
      refine RD.p (fun _ _ => trivial) rfl (Pu.bin rfl rfl rfl) rfl rfl ?_
      refine RD.nil (hK9 _ _ ?_)
      refine T.joinE (σ := List Int × List Inp) (γ := (Option Nat × Nat)) H (fun s => s) [(2, _), (3, _), (4, _)] ⟨rfl, rfl, rfl, trivial⟩ (fun (v27, v28) q29 => []) (fun (v27, v28) q29 => Sat w [blk b1 [.int .i64 x15.id, .int .i64 x15.players, .int .i64 x15.delay, .int .i64 x15.turn, .int .i64 x15.said, rowV q16 x15.mine.length, rowV q29 v28.length, rowV (some gg23, cc24) x15.has.length, rowV q19 x15.acked.length, rowV q20 x15.hashes.length, .bool x15.split] 26, blk b2 [.int .i64 a1_n.frm, .int .i64 a1_n.dst, .int .i64 a1_n.input.turn, .int .i64 a1_n.input.player, .slice p5 a1_n.input.commands.length c5, .int .i64 a1_n.don, .int .u64 (a1_n.hash.toNat : Int), .int .i64 a1_n.hav] 38, blk b3 [.int .i64 0, .int .i64 0, .int .i64 0, .int .i64 0, .int .i64 0, rowV (none, 0) 0, rowV (none, 0) 0, rowV (none, 0) 0, rowV (none, 0) 0, rowV (none, 0) 0, .bool false] 26, drow 35 (rowV (none, 0) 0) ([] : List Inp), drow 35 (rowV (none, 0) 0) ([] : List Inp), row nilH 3 (rowV (none, 0) 0) ([] : List Int), row nilH 3 (rowV (none, 0) 0) ([] : List Int), row nilH 36 (rowV (none, 0) 0) ([] : List UInt64), drow 35 (rowV q16 x15.mine.length) x15.mine, dead, row nilH 3 (rowV (some gg23, cc24) x15.has.length) v27, row nilH 3 (rowV q19 x15.acked.length) x15.acked, row nilH 36 (rowV q20 x15.hashes.length) x15.hashes, drow 35 (rowV q29 v28.length) v28]) ?_ ?_
      ·rintro ⟨v27, v28⟩ q29 H
       try dsimp only [Ex.then] at H
       refine Cont.conseq (fr' := [(2, _), (3, _), (4, _)]) ?_ ⟨rfl, rfl, rfl, trivial⟩ (fun _ s => s)
       refine id (hK8 _ _ ?_)
       refine T.seq fun K10 hK10 => ?_
       try dsimp only [List.set, List.cons_append, List.nil_append]
       refine T.region ?_
       refine RS.p (Pu.fieldAddr fd38_0 rfl) rfl rfl ?_
       refine RS.q (Qt.ldB 1 ty3 rfl rfl rfl) rfl rfl ?_
       refine RS.p (Pu.fieldAddr fd38_5 rfl) rfl rfl ?_
       refine RS.q (Qt.ldB 1 ty3 rfl rfl rfl) rfl rfl ?_
       refine RS.weakS (fun w s => Per_shut (R := [blk b2 [.int .i64 a1_n.frm, .int .i64 a1_n.dst, .int .i64 a1_n.input.turn, .int .i64 a1_n.input.player, .slice p5 a1_n.input.commands.length c5, .int .i64 a1_n.don, .int .u64 (a1_n.hash.toNat : Int), .int .i64 a1_n.hav] 38, blk b3 [.int .i64 0, .int .i64 0, .int .i64 0, .int .i64 0, .int .i64 0, rowV (none, 0) 0, rowV (none, 0) 0, rowV (none, 0) 0, rowV (none, 0) 0, rowV (none, 0) 0, .bool false] 26, drow 35 (rowV (none, 0) 0) ([] : List Inp), drow 35 (rowV (none, 0) 0) ([] : List Inp), row nilH 3 (rowV (none, 0) 0) ([] : List Int), row nilH 3 (rowV (none, 0) 0) ([] : List Int), row nilH 36 (rowV (none, 0) 0) ([] : List UInt64), dead]) (g := b1) (x := (⟨x15.id, x15.players, x15.delay, x15.turn, x15.said, x15.mine, v28, v27, x15.acked, x15.hashes, x15.split⟩ : Per)) ⟨q16, q29, (some gg23, cc24), q19, q20⟩ ((Sat.cellB 0 (Sat.relen (q := (some gg23, cc24)) (m := x15.has.length) 10 s rfl) rfl (congrArg (fun z => [.int .i64 x15.id, .int .i64 x15.players, .int .i64 x15.delay, .int .i64 x15.turn, .int .i64 x15.said, rowV q16 x15.mine.length, rowV q29 v28.length, rowV (some gg23, cc24) z, rowV q19 x15.acked.length, rowV q20 x15.hashes.length, .bool x15.split]) (s.row_fits (q := (some gg23, cc24)) (m := x15.has.length) (k := 10) rfl).1)).pick [1, 2, 3, 4, 5, 6, 7, 9, 0, 8, 13, 10, 11, 12] (by decide) rfl)) ?_
       obtain ⟨x30, hx30, H⟩ := bindE H
       refine RS.solid (Sd.callF0 0 ent34 rfl rfl (fun w s => peer_acked_walk b1 (⟨x15.id, x15.players, x15.delay, x15.turn, x15.said, x15.mine, v28, v27, x15.acked, x15.hashes, x15.split⟩ : Per) a1_n.frm a1_n.hav  hx30 w s)) rfl rfl fun _ => ?_
       refine RS.ex (S' := fun q : (Option Nat × Nat) × (Option Nat × Nat) × (Option Nat × Nat) × (Option Nat × Nat) × (Option Nat × Nat) => Sat w [blk b1 [.int .i64 x30.id, .int .i64 x30.players, .int .i64 x30.delay, .int .i64 x30.turn, .int .i64 x30.said, rowV q.1 x30.mine.length, rowV q.2.1 x30.inputs.length, rowV q.2.2.1 x30.has.length, rowV q.2.2.2.1 x30.acked.length, rowV q.2.2.2.2 x30.hashes.length, .bool x30.split] 26, blk b2 [.int .i64 a1_n.frm, .int .i64 a1_n.dst, .int .i64 a1_n.input.turn, .int .i64 a1_n.input.player, .slice p5 a1_n.input.commands.length c5, .int .i64 a1_n.don, .int .u64 (a1_n.hash.toNat : Int), .int .i64 a1_n.hav] 38, blk b3 [.int .i64 0, .int .i64 0, .int .i64 0, .int .i64 0, .int .i64 0, rowV (none, 0) 0, rowV (none, 0) 0, rowV (none, 0) 0, rowV (none, 0) 0, rowV (none, 0) 0, .bool false] 26, drow 35 (rowV (none, 0) 0) ([] : List Inp), drow 35 (rowV (none, 0) 0) ([] : List Inp), row nilH 3 (rowV (none, 0) 0) ([] : List Int), row nilH 3 (rowV (none, 0) 0) ([] : List Int), row nilH 36 (rowV (none, 0) 0) ([] : List UInt64), drow 35 (rowV q.1 x30.mine.length) x30.mine, dead, row nilH 3 (rowV q.2.2.1 x30.has.length) x30.has, row nilH 3 (rowV q.2.2.2.1 x30.acked.length) x30.acked, row nilH 36 (rowV q.2.2.2.2 x30.hashes.length) x30.hashes, drow 35 (rowV q.2.1 x30.inputs.length) x30.inputs]) (fun w s => let ⟨q, s⟩ := Per_open 0 rfl s; ⟨q, s.pick [0, 1, 2, 3, 4, 5, 6, 7, 9, 8, 11, 12, 13, 10] (by decide) rfl⟩) ?_
       rintro ⟨q31, q32, q33, q34, q35⟩
       show RS _ _ _ _ _ _ (Sat w [blk b1 [.int .i64 x30.id, .int .i64 x30.players, .int .i64 x30.delay, .int .i64 x30.turn, .int .i64 x30.said, rowV q31 x30.mine.length, rowV q32 x30.inputs.length, rowV q33 x30.has.length, rowV q34 x30.acked.length, rowV q35 x30.hashes.length, .bool x30.split] 26, blk b2 [.int .i64 a1_n.frm, .int .i64 a1_n.dst, .int .i64 a1_n.input.turn, .int .i64 a1_n.input.player, .slice p5 a1_n.input.commands.length c5, .int .i64 a1_n.don, .int .u64 (a1_n.hash.toNat : Int), .int .i64 a1_n.hav] 38, blk b3 [.int .i64 0, .int .i64 0, .int .i64 0, .int .i64 0, .int .i64 0, rowV (none, 0) 0, rowV (none, 0) 0, rowV (none, 0) 0, rowV (none, 0) 0, rowV (none, 0) 0, .bool false] 26, drow 35 (rowV (none, 0) 0) ([] : List Inp), drow 35 (rowV (none, 0) 0) ([] : List Inp), row nilH 3 (rowV (none, 0) 0) ([] : List Int), row nilH 3 (rowV (none, 0) 0) ([] : List Int), row nilH 36 (rowV (none, 0) 0) ([] : List UInt64), drow 35 (rowV q31 x30.mine.length) x30.mine, dead, row nilH 3 (rowV q33 x30.has.length) x30.has, row nilH 3 (rowV q34 x30.acked.length) x30.acked, row nilH 36 (rowV q35 x30.hashes.length) x30.hashes, drow 35 (rowV q32 x30.inputs.length) x30.inputs])
       refine RS.nil (hK10 _ _ (T.conseq (fr' := [(2, _), (3, _), (4, _)]) ?_ ⟨rfl, rfl, rfl, trivial⟩ (fun _ s => s)))
       refine T.seq fun K11 hK11 => ?_
       try dsimp only [List.set, List.cons_append, List.nil_append]
       refine T.region ?_
       refine RS.p (Pu.fieldAddr fd26_10 rfl) rfl rfl ?_
       refine RS.q (Qt.ldB 0 ty4 rfl rfl rfl) rfl rfl ?_
       refine RS.p (Pu.move rfl) rfl rfl ?_
       refine RS.joinB H 7 85 (fun b38 => .bool b38) [(2, _), (4, _)] ⟨rfl, rfl, trivial⟩ ?_ ?_
       ·intro b38 H
        refine RS.p (Pu.fieldAddr fd26_10 rfl) rfl rfl ?_
        refine RS.solid (Sd.stB (cs' := [_, _, _, _, _, _, _, _, _, _, _]) 0 ty4 rfl rfl rfl rfl rfl rfl rfl rfl) rfl rfl fun _ => ?_
        refine RS.nil (hK11 _ _ ?_)
        refine T.seq fun K12 hK12 => ?_
        try dsimp only [List.set, List.cons_append, List.nil_append]
        refine T.region ?_
        refine RS.q (Qt.ldBA (us := [_, _, _, _, _, _, _, _, _, _, _]) 0 ty26 rfl rfl rfl rfl) rfl rfl ?_
        refine RS.solid (Sd.stB (cs' := [_, _, _, _, _, _, _, _, _, _, _]) 2 ty26 rfl rfl rfl rfl rfl rfl rfl rfl) rfl rfl fun _ => ?_
        refine RS.p (Pu.assign rfl) rfl rfl ?_
        refine RS.nil (hK12 _ _ (T.conseq (fr' := [(4, _), (5, _)]) ?_ ⟨rfl, rfl, trivial⟩ (fun _ s => s)))
        obtain rfl := Option.some.inj H
        try dsimp only [List.set, List.cons_append, List.nil_append]
        refine T.rt (Cont.retCT 2 rfl ty26 rfl rfl rfl rfl fun w' s => ?_)
        exact ⟨⟨q31, q32, q33, q34, q35⟩, rfl, s.pick [8, 13, 10, 11, 12] (by decide) rfl⟩
       ·intro z39 H hJ37
        refine RS.split 78 rfl (fun hc36 => ?_) (fun hc36 => ?_)
        ·have H := ifT hc36 H
         refine RS.no rfl rfl ?_
         refine RS.no rfl rfl ?_
         refine RS.no rfl rfl ?_
         refine RS.no rfl rfl ?_
         refine RS.no rfl rfl ?_
         refine RS.no rfl rfl ?_
         refine RS.p (Pu.pickT rfl rfl) rfl rfl ?_
         obtain rfl := Option.some.inj H
         exact hJ37 _ _ ⟨rfl, rfl, rfl, trivial⟩ (fun w s => s)
        ·have H := ifB hc36 H
         refine RS.q (Qt.ldBA (us := [_, _, _, _, _, _, _, _, _, _, _]) 0 ty26 rfl rfl rfl rfl) rfl rfl ?_
         refine RS.p (Pu.fieldAddr fd38_3 rfl) rfl rfl ?_
         refine RS.q (Qt.ldB 1 ty3 rfl rfl rfl) rfl rfl ?_
         refine RS.p (Pu.fieldAddr fd38_4 rfl) rfl rfl ?_
         refine RS.q (Qt.ldB 1 ty36 rfl rfl rfl) rfl rfl ?_
         obtain ⟨x40, hx40, H⟩ := bindE H
         refine RS.q (Qt.call (vs := [.agg #[.int .i64 x30.id, .int .i64 x30.players, .int .i64 x30.delay, .int .i64 x30.turn, .int .i64 x30.said, rowV q31 x30.mine.length, rowV q32 x30.inputs.length, rowV q33 x30.has.length, rowV q34 x30.acked.length, rowV q35 x30.hashes.length, .bool x30.split], .int .i64 a1_n.don, .int .u64 (a1_n.hash.toNat : Int)]) ent35 rfl fun w s => peer_split_walk x30 a1_n.don a1_n.hash w ((Rd.ofG 8 rfl) w s) ((Rd.ofG 13 rfl) w s) ((Rd.ofRowN 10 rfl) w s) ((Rd.ofRowN 11 rfl) w s) ((Rd.ofRowN 12 rfl) w s) hx40) rfl rfl ?_
         refine RS.p (Pu.pickF rfl rfl) rfl rfl ?_
         obtain rfl := Option.some.inj H
         exact hJ37 _ _ ⟨rfl, rfl, rfl, trivial⟩ (fun w s => s)
      ·intro z26 H HX26 hJ26
       refine T.condP rfl (fun hc41 => ?_) (fun hc41 => ?_)
       ·have H := ifT hc41 H
        refine T.conseq (fr' := [(2, _), (3, _), (4, _)]) ?_ ⟨rfl, rfl, rfl, trivial⟩ (fun _ s => s)
        refine T.seq fun K13 hK13 => ?_
        try dsimp only [List.set, List.cons_append, List.nil_append]
        refine T.region ?_
        refine RS.p (Pu.fieldAddr fd26_6 rfl) rfl rfl ?_
        refine RS.q (Qt.ldB 0 ty22 rfl rfl rfl) rfl rfl ?_
        refine RS.p (Pu.fieldAddr fd38_2 rfl) rfl rfl ?_
        refine RS.q (Qt.ldBA (us := [_, _, _]) 1 ty35 rfl rfl rfl rfl) rfl rfl ?_
        obtain ⟨x42, hx42, H⟩ := bindE H
        refine RS.solid (Sd.callN (vs := [rowV q17 x15.inputs.length, .agg #[.int .i64 a1_n.input.turn, .int .i64 a1_n.input.player, .slice p5 a1_n.input.commands.length c5]]) ent33 rfl (fun w s => turns_In_walk x15.inputs a1_n.input w ((Rd.ofG 9 rfl) w s) ((Rd.base h5) w s) hx42)) rfl rfl fun q43 => ?_
        refine RS.p (Pu.move rfl) rfl rfl ?_
        refine RS.p (Pu.extract rfl rfl) rfl rfl ?_
        refine RS.p (Pu.extract rfl rfl) rfl rfl ?_
        refine RS.p (Pu.fieldAddr fd26_6 rfl) rfl rfl ?_
        refine RS.solid (Sd.stB (cs' := [_, _, _, _, _, _, _, _, _, _, _]) 0 ty22 rfl rfl rfl rfl rfl rfl rfl rfl) rfl rfl fun _ => ?_
        refine RS.nil (hK13 _ _ (T.conseq (fr' := [(2, _), (3, _), (4, _)]) ?_ ⟨rfl, rfl, rfl, trivial⟩ (fun _ s => s)))
        try dsimp only [List.set, List.cons_append, List.nil_append]
        refine T.region ?_
        refine RS.p (Pu.fieldAddr fd26_7 rfl) rfl rfl ?_
        refine RS.q (Qt.ldB 0 ty23 rfl rfl rfl) rfl rfl ?_
        refine RS.p (Pu.fieldAddr fd38_0 rfl) rfl rfl ?_
        refine RS.q (Qt.ldB 1 ty3 rfl rfl rfl) rfl rfl ?_
        obtain ⟨g44, H⟩ := gdE H
        refine RS.p (Pu.subS rfl rfl g44) rfl rfl ?_
        obtain ⟨g45, H⟩ := gdE H
        refine RS.p (Pu.indexSl sl23 rfl rfl g45) rfl rfl ?_
        refine RS.q (Qt.ld0 (α := Int) (Rd.ofRowN 10 rfl) ty3 rfl rfl g45 (by rintro _ _ rfl; rfl)) rfl rfl ?_
        obtain ⟨g46, H⟩ := gdE H
        refine RS.p (Pu.addS rfl rfl g46) rfl rfl ?_
        obtain ⟨g47, H⟩ := gdE H
        refine RS.p (Pu.indexSl sl23 rfl rfl g47) rfl rfl ?_
        refine RS.solid (Sd.st0 (α := Int) 10 ((gi x15.has (a1_n.frm - 1)) + 1) rfl ty3 rfl rfl rfl g47 rfl rfl (by decide) rfl (by rintro _ _ rfl; rfl)) rfl rfl fun _ => ?_
        obtain rfl := Option.some.inj H
        refine RS.nil (hJ26 _ _ ((si x15.has (a1_n.frm - 1) ((gi x15.has (a1_n.frm - 1)) + 1)), x42.1) q43 HX26 ⟨rfl, rfl, rfl, trivial⟩ trivial (fun w s => (s.deadRow).pick [0, 1, 2, 3, 4, 5, 6, 7, 8, 14, 10, 11, 12, 13] (by decide) rfl))
       ·have H := ifF hc41 H
        obtain rfl := Option.some.inj H
        refine T.skip (hJ26 _ _ (x15.has, x15.inputs) q17 HX26 ⟨rfl, rfl, rfl, trivial⟩ trivial (fun w s => (s.deadRow).pick [0, 1, 2, 3, 4, 5, 6, 7, 8, 13, 10, 11, 12, 9] (by decide) rfl))
   ·intro hJ11
    refine RS.splitP 22 rfl (fun hc10 => ?_) (fun hc10 => ?_)
    ·refine RS.no rfl rfl ?_
     refine RS.no rfl rfl ?_
     refine RS.no rfl rfl ?_
     refine RS.no rfl rfl ?_
     refine RS.no rfl rfl ?_
     refine RS.p (Pu.pickT rfl rfl) rfl rfl ?_
     exact hJ11 _ _ ⟨dOrT hc10, rfl, rfl, rfl, trivial⟩ (fun w s => s)
    ·refine RS.p (Pu.fieldAddr fd38_0 rfl) rfl rfl ?_
     refine RS.q (Qt.ldB 1 ty3 rfl rfl rfl) rfl rfl ?_
     refine RS.p (Pu.fieldAddr fd26_1 rfl) rfl rfl ?_
     refine RS.q (Qt.ldB 0 ty3 rfl rfl rfl) rfl rfl ?_
     refine RS.p (Pu.bin rfl rfl rfl) rfl rfl ?_
     refine RS.p (Pu.pickF rfl rfl) rfl rfl ?_
     exact hJ11 _ _ ⟨dOrF hc10, rfl, rfl, rfl, trivial⟩ (fun w s => s)
  ·intro hJ9
   refine RS.split 15 rfl (fun hc8 => ?_) (fun hc8 => ?_)
   ·refine RS.no rfl rfl ?_
    refine RS.no rfl rfl ?_
    refine RS.no rfl rfl ?_
    refine RS.no rfl rfl ?_
    refine RS.no rfl rfl ?_
    refine RS.p (Pu.pickT rfl rfl) rfl rfl ?_
    exact hJ9 _ _ ⟨dOrT hc8, rfl, rfl, rfl, trivial⟩ (fun w s => s)
   ·refine RS.p (Pu.fieldAddr fd38_1 rfl) rfl rfl ?_
    refine RS.q (Qt.ldB 1 ty3 rfl rfl rfl) rfl rfl ?_
    refine RS.p (Pu.fieldAddr fd26_0 rfl) rfl rfl ?_
    refine RS.q (Qt.ldB 0 ty3 rfl rfl rfl) rfl rfl ?_
    refine RS.p (Pu.bin rfl rfl rfl) rfl rfl ?_
    refine RS.p (Pu.pickF rfl rfl) rfl rfl ?_
    exact hJ9 _ _ ⟨dOrF (bne_of hc8), rfl, rfl, rfl, trivial⟩ (fun w s => s)
 ·intro z48 H hJ6
  refine RS.split 10 rfl (fun hc5 => ?_) (fun hc5 => ?_)
  ·have H := ifT hc5 H
   refine RS.no rfl rfl ?_
   refine RS.no rfl rfl ?_
   refine RS.no rfl rfl ?_
   refine RS.p (Pu.pickT rfl rfl) rfl rfl ?_
   obtain rfl := Option.some.inj H
   exact hJ6 _ _ ⟨rfl, rfl, rfl, rfl, trivial⟩ (fun w s => s)
  ·have H := ifB hc5 H
   refine RS.q (Qt.ldBA (us := [_, _, _, _, _, _, _, _]) 1 ty38 rfl rfl rfl rfl) rfl rfl ?_
   obtain ⟨x49, hx49, H⟩ := bindE H
   refine RS.q (Qt.call (vs := [.agg #[.int .i64 a1_n.frm, .int .i64 a1_n.dst, .int .i64 a1_n.input.turn, .int .i64 a1_n.input.player, .slice p5 a1_n.input.commands.length c5, .int .i64 a1_n.don, .int .u64 (a1_n.hash.toNat : Int), .int .i64 a1_n.hav]]) ent31 rfl fun w s => peer_MayNote_walk a1_n w ((Rd.base h5) w s) hx49) rfl rfl ?_
   refine RS.p (Pu.not rfl) rfl rfl ?_
   refine RS.p (Pu.pickF rfl rfl) rfl rfl ?_
   obtain rfl := Option.some.inj H
   exact hJ6 _ _ ⟨rfl, rfl, rfl, rfl, trivial⟩ (fun w s => s)
end Go.Proofs.Ytnadebijiaelkaa
