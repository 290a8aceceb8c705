/-
  Walks of what is called: inputs.
-/
import Derived.Test.YtnadebijiaelkaaRows
import Derived.Test.YtnadebijiaelkaaTH
set_option linter.unusedVariables false
set_option linter.unusedSimpArgs false
set_option maxRecDepth 20000
set_option maxHeartbeats 4000000
namespace Go.Proofs.Ytnadebijiaelkaa
open Go.Vg
open Enc (R)
theorem ent39 : Ent Try.prog 39 := ⟨_, _, Try.func39, by kernel_rfl, rfl⟩
theorem ent40 : Ent Try.prog 40 := ⟨_, _, Try.func40, by kernel_rfl, rfl⟩
theorem ent58 : Ent Try.prog 58 := ⟨_, _, Try.func58, by kernel_rfl, rfl⟩
theorem ent59 : Ent Try.prog 59 := ⟨_, _, Try.func59, by kernel_rfl, rfl⟩
theorem ent62 : Ent Try.prog 62 := ⟨_, _, Try.func62, by kernel_rfl, rfl⟩
theorem ent63 : Ent Try.prog 63 := ⟨_, _, Try.func63, by kernel_rfl, rfl⟩
theorem ent64 : Ent Try.prog 64 := ⟨_, _, Try.func64, by kernel_rfl, rfl⟩
theorem ent67 : Ent Try.prog 67 := ⟨_, _, Try.func67, by kernel_rfl, rfl⟩
theorem ent68 : Ent Try.prog 68 := ⟨_, _, Try.func68, by kernel_rfl, rfl⟩
theorem turns_Said_walk (a0_player : Int) (a1_l : List Cmd) (w : World) {v0 : Value} (h0 : R (hpOf w) a1_l [v0]) {r : Bool} (H : turns_Said a0_player a1_l = some r) : Calls Try.prog 39 #[.int .i64 a0_player, v0] w fun e w' => e = .returned (.bool r) ∧ Ext w w' := by
 have hm0 := R_max h0
 obtain ⟨p0, c0, rfl⟩ := R_form h0
 unfold turns_Said at H
 refine T.enter (args := [_, _]) (S := Sat w []) Try.func39 rfl rfl (Sat.start w) ?_
 refine T.seq fun K1 hK1 => ?_
 refine T.region ?_
 refine RS.p (Pu.assign rfl) rfl rfl ?_
 refine RS.nil (hK1 _ _ ?_)
 refine T.seq fun K2 hK2 => ?_
 refine T.seq fun K3 hK3 => ?_
 refine T.region ?_
 refine RS.p (Pu.move rfl) rfl rfl ?_
 refine RS.p (Pu.lenSl sl33 rfl) rfl rfl ?_
 refine RS.p (Pu.move rfl) rfl rfl ?_
 refine RS.nil (hK3 _ _ ?_)
 refine T.joinE (σ := Unit) (γ := Unit) H Ex.go [(1, _)] ⟨rfl, trivial⟩ (fun _ _ => []) (fun _ _ => Sat w []) ?_ ?_
 ·rintro ⟨⟩ ⟨⟩ H
  try dsimp only [Ex.then] at H
  refine Cont.conseq (fr' := [(1, _)]) ?_ ⟨rfl, trivial⟩ (fun _ s => s)
  refine id (hK2 _ _ ?_)
  refine T.seq fun K4 hK4 => ?_
  refine T.region ?_
  refine RS.p (Pu.move rfl) rfl rfl ?_
  refine RS.p (Pu.lenSl sl33 rfl) rfl rfl ?_
  refine RS.p (Pu.bin rfl rfl rfl) rfl rfl ?_
  refine RS.p (Pu.assign rfl) rfl rfl ?_
  refine RS.nil (hK4 _ _ (T.conseq (fr' := [(4, _)]) ?_ ⟨rfl, trivial⟩ (fun _ s => s)))
  obtain rfl := Option.some.inj H
  refine T.rt (Cont.ret1 rfl rfl fun w' s => ?_)
  exact ⟨rfl, s.ext⟩
 ·intro z1 hz1 HX1 hJ1
  refine T.block ?_
  refine T.loopA (γ := Unit) hz1 [(0, _), (1, _), (7, _), (8, _)] (fun v2 _ => [(9, .int .i64 v2)]) (fun v2 _ => Sat w []) () ⟨rfl, rfl, rfl, rfl, trivial⟩ ⟨rfl, trivial⟩ (fun w s => s) ?_
  rintro v2 ⟨⟩ y3 H hd1 KL1 hL1
  try dsimp only [Ex.then] at H
  refine T.conseq (fr' := [(9, _), (0, _), (1, _), (7, _), (8, _)]) ?_ ⟨rfl, rfl, rfl, rfl, rfl, trivial⟩ (fun _ s => s)
  refine T.seq fun K5 hK5 => ?_
  refine T.region ?_
  refine RS.p (Pu.bin rfl rfl rfl) rfl rfl ?_
  refine RS.nil (hK5 _ _ ?_)
  refine T.seq fun K6 hK6 => ?_
  refine T.condP rfl (fun hc4 => ?_) (fun hc4 => ?_)
  ·have H := ifT hc4 H
   refine T.skip (hK6 _ _ ?_)
   refine T.seq fun K7 hK7 => ?_
   refine T.block ?_
   refine T.seq fun K8 hK8 => ?_
   refine T.region ?_
   refine RS.p (Pu.move rfl) rfl rfl ?_
   obtain ⟨g5, H⟩ := gdE H
   obtain ⟨bl6, ol7, rfl⟩ := R_ptr h0 (ne_of_pos (pos_of g5))
   refine RS.p (Pu.indexSl sl33 rfl rfl g5) rfl rfl ?_
   obtain ⟨c8, hc9, ha10⟩ := R_el (α := Cmd) h0 g5
   obtain ⟨u11, rfl, hu11⟩ := hc9
   obtain ⟨p12, cc13, rfl⟩ := R_form hu11
   refine RS.q (Qt.ldZ (cs := [_, _, _, _, _, _, _, _, _, _]) ty63 rfl ha10 Held.base rfl) rfl rfl ?_
   refine RS.solid (Sd.alloc zr63 rfl) rfl rfl fun b14 => ?_
   refine RS.p (Pu.assign rfl) rfl rfl ?_
   refine RS.solid (Sd.stB (cs' := [_, _, _, _, _, _, _, _, _, _]) 0 ty63 rfl rfl rfl rfl rfl rfl rfl rfl) rfl rfl fun _ => ?_
   refine RS.nil (hK8 _ _ (T.conseq (fr' := [(0, _), (1, _), (5, _), (6, _), (7, _), (8, _), (9, _)]) ?_ ⟨rfl, rfl, rfl, rfl, rfl, rfl, rfl, trivial⟩ (fun _ s => s)))
   refine T.seq fun K9 hK9 => ?_
   refine T.drawn (fun _ => True) [(0, .rd), (1, .rd), (2, .pu), (3, .pu), (4, .pu), (5, .rd), (6, .pu), (7, .pu), (8, .pu), (9, .pu), (10, .pu), (11, .pu), (12, .pu), (13, .pu), (14, .pu), (15, .pu), (16, .pu), (17, .pu), (18, .rd), (19, .pu), (20, .rd), (21, .pu), (22, .pu), (23, .pu)] mixed (ClE.sat _ _) (by kernel_rfl) ?_
   refine RD.q (fun _ _ => trivial) rfl (Qt.ldBA (us := [_, _, _, _, _, _, _, _, _, _]) 0 ty63 rfl rfl rfl rfl) rfl rfl ?_
   obtain ⟨x15, hx15, H⟩ := bindE H
   refine RD.q (fun _ _ => trivial) rfl (Qt.call (vs := [.agg #[.int .i64 ((gi a1_l v2).player), .int .i64 ((gi a1_l v2).seq), .int .i64 ((gi a1_l v2).kind), .int .i64 ((gi a1_l v2).n), .slice p12 ((gi a1_l v2).units).length cc13, .int .i64 ((gi a1_l v2).tile), .int .i64 ((gi a1_l v2).w), .int .i64 ((gi a1_l v2).h), .int .i64 (((gi a1_l v2).pos).x), .int .i64 (((gi a1_l v2).pos).y)]]) ent67 rfl fun w s => command_May_walk (gi a1_l v2) w ((Rd.base hu11) w s) hx15) rfl rfl ?_
   refine RD.p (fun _ _ => trivial) rfl (Pu.not rfl) rfl rfl ?_
   refine RD.p (fun _ _ => trivial) rfl (Pu.move rfl) rfl rfl ?_
   refine RD.joinV 5 22 (.bool (decide (((!x15) = true) ∨ (¬ (gi a1_l v2).player = a0_player)))) [(0, _), (1, _), (5, _), (6, _), (7, _), (8, _), (9, _)] ⟨rfl, rfl, rfl, rfl, rfl, rfl, rfl, trivial⟩ ?_ ?_
   ·refine RD.p (fun _ _ => trivial) rfl (Pu.move rfl) rfl rfl ?_
    obtain ⟨g20, H⟩ := gdE H
    obtain ⟨g21, H⟩ := gdE H
    refine RD.joinV 14 37 (.bool (decide ((((!x15) = true) ∨ (¬ (gi a1_l v2).player = a0_player)) ∨ ((0 < v2) ∧ ((gi a1_l v2).seq ≤ (gi a1_l (v2 - 1)).seq))))) [(0, _), (1, _), (7, _), (8, _), (9, _)] ⟨rfl, rfl, rfl, rfl, rfl, trivial⟩ ?_ ?_
    ·refine RD.nil (hK9 _ _ ?_)
     refine T.condP rfl (fun hc22 => ?_) (fun hc22 => ?_)
     ·have H := ifT hc22 H
      refine T.conseq (fr' := []) ?_ trivial (fun _ s => s)
      refine T.seq fun K10 hK10 => ?_
      refine T.region ?_
      refine RS.p (Pu.assign rfl) rfl rfl ?_
      refine RS.nil (hK10 _ _ ?_)
      obtain rfl := hd1 _ H
      have H := HX1
      obtain rfl := Option.some.inj H
      refine T.rt (Cont.ret1 rfl rfl fun w' s => ?_)
      exact ⟨rfl, s.ext⟩
     ·have H := ifF hc22 H
      refine T.skip (hK7 _ _ ?_)
      refine T.region ?_
      obtain ⟨g23, H⟩ := gdE H
      refine RS.p (Pu.addS rfl rfl g23) rfl rfl ?_
      refine RS.p (Pu.move rfl) rfl rfl ?_
      refine RS.nil (hL1 _ _ (v2 + 1) () H ⟨rfl, rfl, rfl, rfl, trivial⟩ ⟨rfl, trivial⟩ (fun w s => s.pick [] (by decide) rfl))
    ·intro hJ19
     refine RD.splitP 23 rfl (fun hc18 => ?_) (fun hc18 => ?_)
     ·refine RD.no (fun _ _ => trivial) rfl rfl rfl (.inl rfl) ?_
      refine RD.no (fun _ _ => trivial) rfl rfl rfl (.inl rfl) ?_
      refine RD.no (fun _ _ => trivial) rfl rfl rfl (.inl rfl) ?_
      refine RD.no (fun _ _ => trivial) rfl rfl rfl (.inl rfl) ?_
      refine RD.no (fun _ _ => trivial) rfl rfl rfl (.inl rfl) ?_
      refine RD.no (fun _ _ => trivial) rfl rfl rfl (.inl rfl) ?_
      refine RD.no (fun _ _ => trivial) rfl rfl rfl (.inl rfl) ?_
      refine RD.no (fun _ _ => trivial) rfl rfl rfl (.inl rfl) ?_
      refine RD.no (fun _ _ => trivial) rfl rfl rfl (.inr (.inr rfl)) ?_
      refine RD.no (fun _ _ => trivial) rfl rfl rfl (.inl rfl) ?_
      refine RD.no (fun _ _ => trivial) rfl rfl rfl (.inr (.inr rfl)) ?_
      refine RD.no (fun _ _ => trivial) rfl rfl rfl (.inl rfl) ?_
      refine RD.no (fun _ _ => trivial) rfl rfl rfl (.inl rfl) ?_
      refine RD.p (fun _ _ => trivial) rfl (Pu.pickT rfl rfl) rfl rfl ?_
      exact hJ19 _ ⟨dOrT hc18, rfl, rfl, rfl, rfl, rfl, trivial⟩
     ·refine RD.p (fun _ _ => trivial) rfl (Pu.move rfl) rfl rfl ?_
      refine RD.p (fun _ _ => trivial) rfl (Pu.bin rfl rfl rfl) rfl rfl ?_
      refine RD.p (fun _ _ => trivial) rfl (Pu.move rfl) rfl rfl ?_
      refine RD.joinV 10 36 (.bool (decide ((0 < v2) ∧ ((gi a1_l v2).seq ≤ (gi a1_l (v2 - 1)).seq)))) [(0, _), (1, _), (5, _), (6, _), (7, _), (8, _), (9, _), (22, _), (23, _), (24, _), (25, _)] ⟨rfl, rfl, rfl, rfl, rfl, rfl, rfl, rfl, rfl, rfl, rfl, trivial⟩ ?_ ?_
      ·refine RD.p (fun _ _ => trivial) rfl (Pu.pickF rfl rfl) rfl rfl ?_
       exact hJ19 _ ⟨dOrF hc18, rfl, rfl, rfl, rfl, rfl, trivial⟩
      ·intro hJ25
       refine RD.splitP 26 rfl (fun hc24 => ?_) (fun hc24 => ?_)
       ·refine RD.p (fun _ _ => trivial) rfl (Pu.move rfl) rfl rfl ?_
        refine RD.p (fun _ _ => trivial) rfl (Pu.move rfl) rfl rfl ?_
        refine RD.p (fun _ _ => trivial) rfl (Pu.subS rfl rfl ((g20 hc18) hc24)) rfl rfl ?_
        refine RD.p (fun _ _ => trivial) rfl (Pu.indexSl sl33 rfl rfl ((g21 hc18) hc24)) rfl rfl ?_
        refine RD.p (fun _ _ => trivial) rfl (Pu.fieldAddr fd63_1 rfl) rfl rfl ?_
        refine RD.q (fun _ _ => trivial) rfl (Qt.ldF (α := Cmd) (Rd.base h0) ty3 rfl rfl ((g21 hc18) hc24) (by rintro _ _ ⟨_, rfl, _⟩; rfl)) rfl rfl ?_
        refine RD.p (fun _ _ => trivial) rfl (Pu.fieldAddr fd63_1 rfl) rfl rfl ?_
        refine RD.q (fun _ _ => trivial) rfl (Qt.ldB 0 ty3 rfl rfl rfl) rfl rfl ?_
        refine RD.p (fun _ _ => trivial) rfl (Pu.bin rfl rfl rfl) rfl rfl ?_
        refine RD.p (fun _ _ => trivial) rfl (Pu.pickT rfl rfl) rfl rfl ?_
        exact hJ25 _ ⟨dAndT hc24, rfl, rfl, rfl, rfl, rfl, rfl, rfl, rfl, rfl, rfl, rfl, trivial⟩
       ·refine RD.no (fun _ _ => trivial) rfl rfl rfl (.inl rfl) ?_
        refine RD.no (fun _ _ => trivial) rfl rfl rfl (.inl rfl) ?_
        refine RD.no (fun _ _ => trivial) rfl rfl rfl (.inl rfl) ?_
        refine RD.no (fun _ _ => trivial) rfl rfl rfl (.inl rfl) ?_
        refine RD.no (fun _ _ => trivial) rfl rfl rfl (.inl rfl) ?_
        refine RD.no (fun _ _ => trivial) rfl rfl rfl (.inr (.inr rfl)) ?_
        refine RD.no (fun _ _ => trivial) rfl rfl rfl (.inl rfl) ?_
        refine RD.no (fun _ _ => trivial) rfl rfl rfl (.inr (.inr rfl)) ?_
        refine RD.no (fun _ _ => trivial) rfl rfl rfl (.inl rfl) ?_
        refine RD.p (fun _ _ => trivial) rfl (Pu.pickF rfl rfl) rfl rfl ?_
        exact hJ25 _ ⟨dAndF hc24, rfl, rfl, rfl, rfl, rfl, rfl, rfl, rfl, rfl, rfl, rfl, trivial⟩
   ·intro hJ17
    refine RD.split 17 rfl (fun hc16 => ?_) (fun hc16 => ?_)
    ·refine RD.no (fun _ _ => trivial) rfl rfl rfl (.inl rfl) ?_
     refine RD.no (fun _ _ => trivial) rfl rfl rfl (.inr (.inr rfl)) ?_
     refine RD.no (fun _ _ => trivial) rfl rfl rfl (.inl rfl) ?_
     refine RD.no (fun _ _ => trivial) rfl rfl rfl (.inl rfl) ?_
     refine RD.p (fun _ _ => trivial) rfl (Pu.pickT rfl rfl) rfl rfl ?_
     exact hJ17 _ ⟨dOrT hc16, rfl, rfl, rfl, rfl, rfl, rfl, rfl, trivial⟩
    ·refine RD.p (fun _ _ => trivial) rfl (Pu.fieldAddr fd63_0 rfl) rfl rfl ?_
     refine RD.q (fun _ _ => trivial) rfl (Qt.ldB 0 ty3 rfl rfl rfl) rfl rfl ?_
     refine RD.p (fun _ _ => trivial) rfl (Pu.move rfl) rfl rfl ?_
     refine RD.p (fun _ _ => trivial) rfl (Pu.bin rfl rfl rfl) rfl rfl ?_
     refine RD.p (fun _ _ => trivial) rfl (Pu.pickF rfl rfl) rfl rfl ?_
     exact hJ17 _ ⟨dOrF (bne_of hc16), rfl, rfl, rfl, rfl, rfl, rfl, rfl, trivial⟩
  ·have H := ifF hc4 H
   obtain rfl := hd1 _ H
   refine T.xt (hJ1 _ _ () () HX1 ⟨rfl, trivial⟩ trivial (fun w s => s))
theorem turns_May_walk (a0_i : Inp) (w : World) {v0 : Value} (h0 : R (hpOf w) a0_i.commands [v0]) {r : Bool} (H : turns_May a0_i = some r) : Calls Try.prog 58 #[.agg #[.int .i64 a0_i.turn, .int .i64 a0_i.player, v0]] w fun e w' => e = .returned (.bool r) ∧ Ext w w' := by
 have hm0 := R_max h0
 obtain ⟨p0, c0, rfl⟩ := R_form h0
 unfold turns_May at H
 refine T.enter (args := [_]) (S := Sat w []) Try.func58 rfl rfl (Sat.start w) ?_
 refine T.seq fun K1 hK1 => ?_
 refine T.region ?_
 refine RS.solid (Sd.box (cs := [_, _, _]) rfl rfl) rfl rfl fun b1 => ?_
 refine RS.p (Pu.assign rfl) rfl rfl ?_
 refine RS.nil (hK1 _ _ ?_)
 refine T.seq fun K2 hK2 => ?_
 refine T.region ?_
 refine RS.p (Pu.fieldAddr fd35_0 rfl) rfl rfl ?_
 refine RS.q (Qt.ldB 0 ty3 rfl rfl rfl) rfl rfl ?_
 refine RS.p (Pu.bin rfl rfl rfl) rfl rfl ?_
 refine RS.p (Pu.move rfl) rfl rfl ?_
 refine RS.joinV 4 10 (.bool (decide ((0 ≤ a0_i.turn) ∧ (a0_i.turn ≤ 1099511627776)))) [(1, _), (2, _)] ⟨rfl, rfl, trivial⟩ ?_ ?_
 ·refine RS.p (Pu.move rfl) rfl rfl ?_
  refine RS.joinV 4 15 (.bool (decide (((0 ≤ a0_i.turn) ∧ (a0_i.turn ≤ 1099511627776)) ∧ (1 ≤ a0_i.player)))) [(1, _), (2, _)] ⟨rfl, rfl, trivial⟩ ?_ ?_
  ·refine RS.p (Pu.move rfl) rfl rfl ?_
   refine RS.joinV 4 20 (.bool (decide ((((0 ≤ a0_i.turn) ∧ (a0_i.turn ≤ 1099511627776)) ∧ (1 ≤ a0_i.player)) ∧ (a0_i.player ≤ 8)))) [(1, _), (2, _)] ⟨rfl, rfl, trivial⟩ ?_ ?_
   ·refine RS.p (Pu.move rfl) rfl rfl ?_
    refine RS.joinB H 6 27 (fun b10 => .bool b10) [(2, _)] ⟨rfl, trivial⟩ ?_ ?_
    ·intro b10 H
     refine RS.p (Pu.assign rfl) rfl rfl ?_
     refine RS.nil (hK2 _ _ ?_)
     obtain rfl := Option.some.inj H
     refine T.rt (Cont.ret1 rfl rfl fun w' s => ?_)
     exact ⟨rfl, s.ext⟩
    ·intro z11 H hJ9
     refine RS.splitP 21 rfl (fun hc8 => ?_) (fun hc8 => ?_)
     ·have H := ifT hc8 H
      refine RS.p (Pu.fieldAddr fd35_1 rfl) rfl rfl ?_
      refine RS.q (Qt.ldB 0 ty3 rfl rfl rfl) rfl rfl ?_
      refine RS.p (Pu.fieldAddr fd35_2 rfl) rfl rfl ?_
      refine RS.q (Qt.ldB 0 ty33 rfl rfl rfl) rfl rfl ?_
      obtain ⟨x12, hx12, H⟩ := bindE H
      refine RS.q (Qt.call (vs := [.int .i64 a0_i.player, .slice p0 a0_i.commands.length c0]) ent39 rfl fun w s => turns_Said_walk a0_i.player a0_i.commands w ((Rd.base h0) w s) hx12) rfl rfl ?_
      refine RS.p (Pu.pickT rfl rfl) rfl rfl ?_
      obtain rfl := Option.some.inj H
      exact hJ9 _ _ ⟨rfl, rfl, trivial⟩ (fun w s => s)
     ·have H := ifF hc8 H
      refine RS.no rfl rfl ?_
      refine RS.no rfl rfl ?_
      refine RS.no rfl rfl ?_
      refine RS.no rfl rfl ?_
      refine RS.no rfl rfl ?_
      refine RS.p (Pu.pickF rfl rfl) rfl rfl ?_
      obtain rfl := Option.some.inj H
      exact hJ9 _ _ ⟨rfl, rfl, trivial⟩ (fun w s => s)
   ·intro hJ7
    refine RS.splitP 16 rfl (fun hc6 => ?_) (fun hc6 => ?_)
    ·refine RS.p (Pu.fieldAddr fd35_1 rfl) rfl rfl ?_
     refine RS.q (Qt.ldB 0 ty3 rfl rfl rfl) rfl rfl ?_
     refine RS.p (Pu.bin rfl rfl rfl) rfl rfl ?_
     refine RS.p (Pu.pickT rfl rfl) rfl rfl ?_
     exact hJ7 _ _ ⟨dAndT hc6, rfl, rfl, trivial⟩ (fun w s => s)
    ·refine RS.no rfl rfl ?_
     refine RS.no rfl rfl ?_
     refine RS.no rfl rfl ?_
     refine RS.p (Pu.pickF rfl rfl) rfl rfl ?_
     exact hJ7 _ _ ⟨dAndF hc6, rfl, rfl, trivial⟩ (fun w s => s)
  ·intro hJ5
   refine RS.splitP 11 rfl (fun hc4 => ?_) (fun hc4 => ?_)
   ·refine RS.p (Pu.fieldAddr fd35_1 rfl) rfl rfl ?_
    refine RS.q (Qt.ldB 0 ty3 rfl rfl rfl) rfl rfl ?_
    refine RS.p (Pu.bin rfl rfl rfl) rfl rfl ?_
    refine RS.p (Pu.pickT rfl rfl) rfl rfl ?_
    exact hJ5 _ _ ⟨dAndT hc4, rfl, rfl, trivial⟩ (fun w s => s)
   ·refine RS.no rfl rfl ?_
    refine RS.no rfl rfl ?_
    refine RS.no rfl rfl ?_
    refine RS.p (Pu.pickF rfl rfl) rfl rfl ?_
    exact hJ5 _ _ ⟨dAndF hc4, rfl, rfl, trivial⟩ (fun w s => s)
 ·intro hJ3
  refine RS.splitP 6 rfl (fun hc2 => ?_) (fun hc2 => ?_)
  ·refine RS.p (Pu.fieldAddr fd35_0 rfl) rfl rfl ?_
   refine RS.q (Qt.ldB 0 ty3 rfl rfl rfl) rfl rfl ?_
   refine RS.p (Pu.bin rfl rfl rfl) rfl rfl ?_
   refine RS.p (Pu.pickT rfl rfl) rfl rfl ?_
   exact hJ3 _ _ ⟨dAndT hc2, rfl, rfl, trivial⟩ (fun w s => s)
  ·refine RS.no rfl rfl ?_
   refine RS.no rfl rfl ?_
   refine RS.no rfl rfl ?_
   refine RS.p (Pu.pickF rfl rfl) rfl rfl ?_
   exact hJ3 _ _ ⟨dAndF hc2, rfl, rfl, trivial⟩ (fun w s => s)
theorem turns_Own_walk (a0_i : Inp) (w : World) {v0 : Value} (h0 : R (hpOf w) a0_i.commands [v0]) {r : Inp} (H : turns_Own a0_i = some r) : Calls Try.prog 40 #[.agg #[.int .i64 a0_i.turn, .int .i64 a0_i.player, v0]] w fun e w' => ∃ q1 : (Option Nat × Nat), e = .returned (.agg #[.int .i64 r.turn, .int .i64 r.player, rowV q1 r.commands.length]) ∧ Sat w [drow 63 (rowV q1 r.commands.length) r.commands] w' := by
 have hm0 := R_max h0
 obtain ⟨p0, c0, rfl⟩ := R_form h0
 unfold turns_Own at H
 refine T.enter (args := [_]) (S := Sat w []) Try.func40 rfl rfl (Sat.start w) ?_
 refine T.seq fun K1 hK1 => ?_
 refine T.region ?_
 refine RS.solid (Sd.box (cs := [_, _, _]) rfl rfl) rfl rfl fun b1 => ?_
 refine RS.solid (Sd.alloc zr35 rfl) rfl rfl fun b2 => ?_
 refine RS.nil (hK1 _ _ ?_)
 refine T.seq fun K2 hK2 => ?_
 refine T.region ?_
 refine RS.p (Pu.fieldAddr fd35_2 rfl) rfl rfl ?_
 refine RS.q (Qt.ldB 0 ty33 rfl rfl rfl) rfl rfl ?_
 obtain ⟨x3, hx3, H⟩ := bindE H
 refine RS.solid (Sd.callN (vs := [.slice p0 a0_i.commands.length c0]) ent68 rfl (fun w s => command_OwnAll_walk a0_i.commands w ((Rd.base h0) w s) hx3)) rfl rfl fun q4 => ?_
 refine RS.p (Pu.fieldAddr fd35_2 rfl) rfl rfl ?_
 refine RS.solid (Sd.stB (cs' := [_, _, _]) 0 ty33 rfl rfl rfl rfl rfl rfl rfl rfl) rfl rfl fun _ => ?_
 refine RS.nil (hK2 _ _ (T.conseq (fr' := [(1, _), (2, _)]) ?_ ⟨rfl, rfl, trivial⟩ (fun _ s => s)))
 refine T.seq fun K3 hK3 => ?_
 refine T.region ?_
 refine RS.q (Qt.ldBA (us := [_, _, _]) 0 ty35 rfl rfl rfl rfl) rfl rfl ?_
 refine RS.solid (Sd.stB (cs' := [_, _, _]) 1 ty35 rfl rfl rfl rfl rfl rfl rfl rfl) rfl rfl fun _ => ?_
 refine RS.nil (hK3 _ _ ?_)
 obtain rfl := Option.some.inj H
 refine T.rt (Cont.retC 1 rfl ty35 rfl rfl rfl fun w' s => ?_)
 exact ⟨q4, rfl, s.pick [2] (by decide) rfl⟩
theorem turns_OwnAll_walk (a0_l : List Inp) (w : World) {v0 : Value} (h0 : R (hpOf w) a0_l [v0]) {r : List Inp} (H : turns_OwnAll a0_l = some r) : Calls Try.prog 59 #[v0] w fun e w' => ∃ q1 : (Option Nat × Nat), e = .returned (rowV q1 r.length) ∧ Sat w [drow 35 (rowV q1 r.length) r] w' := by
 have hm0 := R_max h0
 obtain ⟨p0, c0, rfl⟩ := R_form h0
 unfold turns_OwnAll at H
 refine T.enter (args := [_]) (S := Sat w []) Try.func59 rfl rfl (Sat.start w) ?_
 refine T.seq fun K1 hK1 => ?_
 refine T.region ?_
 refine RS.p (Pu.assign rfl) rfl rfl ?_
 refine RS.nil (hK1 _ _ ?_)
 refine T.seq fun K2 hK2 => ?_
 refine T.seq fun K3 hK3 => ?_
 refine T.region ?_
 refine RS.p (Pu.move rfl) rfl rfl ?_
 refine RS.p (Pu.lenSl sl22 rfl) rfl rfl ?_
 refine RS.p (Pu.move rfl) rfl rfl ?_
 refine RS.nil (hK3 _ _ ?_)
 refine T.joinE (σ := List Inp) (γ := (Option Nat × Nat)) H (fun s => s) [] trivial (fun v2 q3 => [(2, rowV q3 v2.length)]) (fun v2 q3 => Sat w [drow 35 (rowV q3 v2.length) v2]) ?_ ?_
 ·rintro v2 q3 H
  try dsimp only [Ex.then] at H
  refine Cont.conseq (fr' := [(2, _)]) ?_ ⟨rfl, trivial⟩ (fun _ s => s)
  refine id (hK2 _ _ ?_)
  refine T.seq fun K4 hK4 => ?_
  refine T.region ?_
  refine RS.p (Pu.move rfl) rfl rfl ?_
  refine RS.p (Pu.assign rfl) rfl rfl ?_
  refine RS.nil (hK4 _ _ ?_)
  obtain rfl := Option.some.inj H
  refine T.rt (Cont.ret1 rfl rfl fun w' s => ?_)
  exact ⟨q3, rfl, s.pick [0] (by decide) rfl⟩
 ·intro z1 hz1 HX1 hJ1
  refine T.block ?_
  refine T.loopA (γ := (Option Nat × Nat)) hz1 [(5, _), (6, _)] (fun (l4, v6) q5 => [(2, rowV q5 l4.length), (7, .int .i64 v6)]) (fun (l4, v6) q5 => Sat w [drow 35 (rowV q5 l4.length) l4]) (none, 0) ⟨rfl, rfl, trivial⟩ ⟨rfl, rfl, trivial⟩ (fun w s => (s.nilRowG (α := Inp) 35).pick [0] (by decide) rfl) ?_
  rintro ⟨l4, v6⟩ q5 y7 H hd1 KL1 hL1
  try dsimp only [Ex.then] at H
  refine T.conseq (fr' := [(2, _), (7, _), (5, _), (6, _)]) ?_ ⟨rfl, rfl, rfl, rfl, trivial⟩ (fun _ s => s)
  refine T.seq fun K5 hK5 => ?_
  refine T.region ?_
  refine RS.p (Pu.bin rfl rfl rfl) rfl rfl ?_
  refine RS.nil (hK5 _ _ ?_)
  refine T.seq fun K6 hK6 => ?_
  refine T.condP rfl (fun hc8 => ?_) (fun hc8 => ?_)
  ·have H := ifT hc8 H
   refine T.skip (hK6 _ _ ?_)
   refine T.seq fun K7 hK7 => ?_
   refine T.block ?_
   refine T.seq fun K8 hK8 => ?_
   refine T.region ?_
   obtain ⟨g9, H⟩ := gdE H
   obtain ⟨bl10, ol11, rfl⟩ := R_ptr h0 (ne_of_pos (pos_of g9))
   refine RS.p (Pu.indexSl sl22 rfl rfl g9) rfl rfl ?_
   obtain ⟨c12, hc13, ha14⟩ := R_el (α := Inp) h0 g9
   obtain ⟨u15, rfl, hu15⟩ := hc13
   obtain ⟨p16, cc17, rfl⟩ := R_form hu15
   refine RS.q (Qt.ldZ (cs := [_, _, _]) ty35 rfl ha14 Held.base rfl) rfl rfl ?_
   refine RS.solid (Sd.alloc zr35 rfl) rfl rfl fun b18 => ?_
   refine RS.solid (Sd.stB (cs' := [_, _, _]) 1 ty35 rfl rfl rfl rfl rfl rfl rfl rfl) rfl rfl fun _ => ?_
   refine RS.nil (hK8 _ _ (T.conseq (fr' := [(2, _), (4, _), (5, _), (6, _), (7, _)]) ?_ ⟨rfl, rfl, rfl, rfl, rfl, trivial⟩ (fun _ s => s)))
   refine T.region ?_
   refine RS.p (Pu.move rfl) rfl rfl ?_
   refine RS.q (Qt.ldBA (us := [_, _, _]) 1 ty35 rfl rfl rfl rfl) rfl rfl ?_
   obtain ⟨x19, hx19, H⟩ := bindE H
   refine RS.solid (Sd.callN (vs := [.agg #[.int .i64 ((gi a0_l v6).turn), .int .i64 ((gi a0_l v6).player), .slice p16 ((gi a0_l v6).commands).length cc17]]) ent40 rfl (fun w s => turns_Own_walk (gi a0_l v6) w ((Rd.base hu15) w s) hx19)) rfl rfl fun q20 => ?_
   refine RS.solid (Sd.litS (cs := [_, _, _]) sl22 zr35 rfl rfl rfl rfl rfl) rfl rfl fun b21 => ?_
   obtain ⟨g23, H⟩ := gdE H
   refine RS.solid (Sd.pre (fun w s => (Sat.starAt 2 4 (Sat.starAt 2 5 ((s.noStars).noStars) rfl rfl (by decide)) rfl rfl (by decide))) (Sd.appL (α := Inp) 0 3 2 ([x19] : List Inp) rfl rfl rfl (DRF.cons' (α := Inp) (x := x19) (fun _ h => ⟨_, rfl, h⟩) DRF.nil') rfl sl22 zr35 rfl rfl rfl rfl g23 (by decide))) rfl rfl fun q22 => ?_
   refine RS.p (Pu.assign rfl) rfl rfl ?_
   refine RS.nil (hK7 _ _ (T.conseq (fr' := [(2, _), (5, _), (6, _), (7, _)]) ?_ ⟨rfl, rfl, rfl, rfl, trivial⟩ (fun _ s => s)))
   refine T.region ?_
   obtain ⟨g24, H⟩ := gdE H
   refine RS.p (Pu.addS rfl rfl g24) rfl rfl ?_
   refine RS.p (Pu.move rfl) rfl rfl ?_
   refine RS.nil (hL1 _ _ ((l4 ++ ([x19] : List Inp)), (v6 + 1)) q22 H ⟨rfl, rfl, trivial⟩ ⟨rfl, rfl, trivial⟩ (fun w s => s.pick [0] (by decide) rfl))
  ·have H := ifF hc8 H
   obtain rfl := hd1 _ H
   refine T.xt (hJ1 _ _ l4 q5 HX1 trivial ⟨rfl, trivial⟩ (fun w s => s))
theorem turns_Rising_walk (a0_l : List Inp) (w : World) {v0 : Value} (h0 : R (hpOf w) a0_l [v0]) {r : Bool} (H : turns_Rising a0_l = some r) : Calls Try.prog 54 #[v0] w fun e w' => e = .returned (.bool r) ∧ Ext w w' := by
 have hm0 := R_max h0
 obtain ⟨p0, c0, rfl⟩ := R_form h0
 unfold turns_Rising at H
 refine T.enter (args := [_]) (S := Sat w []) Try.func54 rfl rfl (Sat.start w) ?_
 refine T.seq fun K1 hK1 => ?_
 refine T.region ?_
 refine RS.p (Pu.assign rfl) rfl rfl ?_
 refine RS.nil (hK1 _ _ ?_)
 refine T.seq fun K2 hK2 => ?_
 refine T.seq fun K3 hK3 => ?_
 refine T.region ?_
 refine RS.p (Pu.move rfl) rfl rfl ?_
 refine RS.p (Pu.lenSl sl22 rfl) rfl rfl ?_
 refine RS.p (Pu.move rfl) rfl rfl ?_
 refine RS.nil (hK3 _ _ ?_)
 refine T.joinE (σ := Unit) (γ := Unit) H Ex.go [] trivial (fun _ _ => []) (fun _ _ => Sat w []) ?_ ?_
 ·rintro ⟨⟩ ⟨⟩ H
  try dsimp only [Ex.then] at H
  refine Cont.conseq (fr' := []) ?_ trivial (fun _ s => s)
  refine id (hK2 _ _ ?_)
  refine T.seq fun K4 hK4 => ?_
  refine T.region ?_
  refine RS.p (Pu.assign rfl) rfl rfl ?_
  refine RS.nil (hK4 _ _ ?_)
  obtain rfl := Option.some.inj H
  refine T.rt (Cont.ret1 rfl rfl fun w' s => ?_)
  exact ⟨rfl, s.ext⟩
 ·intro z1 hz1 HX1 hJ1
  refine T.block ?_
  refine T.loopA (γ := Unit) hz1 [(0, _), (5, _), (6, _)] (fun v2 _ => [(7, .int .i64 v2)]) (fun v2 _ => Sat w []) () ⟨rfl, rfl, rfl, trivial⟩ ⟨rfl, trivial⟩ (fun w s => s) ?_
  rintro v2 ⟨⟩ y3 H hd1 KL1 hL1
  try dsimp only [Ex.then] at H
  refine T.conseq (fr' := [(7, _), (0, _), (5, _), (6, _)]) ?_ ⟨rfl, rfl, rfl, rfl, trivial⟩ (fun _ s => s)
  refine T.seq fun K5 hK5 => ?_
  refine T.region ?_
  refine RS.p (Pu.bin rfl rfl rfl) rfl rfl ?_
  refine RS.nil (hK5 _ _ ?_)
  refine T.seq fun K6 hK6 => ?_
  refine T.condP rfl (fun hc4 => ?_) (fun hc4 => ?_)
  ·have H := ifT hc4 H
   refine T.skip (hK6 _ _ ?_)
   refine T.seq fun K7 hK7 => ?_
   refine T.block ?_
   refine T.seq fun K8 hK8 => ?_
   refine T.region ?_
   refine RS.p (Pu.move rfl) rfl rfl ?_
   obtain ⟨g5, H⟩ := gdE H
   obtain ⟨bl6, ol7, rfl⟩ := R_ptr h0 (ne_of_pos (pos_of g5))
   refine RS.p (Pu.indexSl sl22 rfl rfl g5) rfl rfl ?_
   obtain ⟨c8, hc9, ha10⟩ := R_el (α := Inp) h0 g5
   obtain ⟨u11, rfl, hu11⟩ := hc9
   obtain ⟨p12, cc13, rfl⟩ := R_form hu11
   refine RS.q (Qt.ldZ (cs := [_, _, _]) ty35 rfl ha10 Held.base rfl) rfl rfl ?_
   refine RS.solid (Sd.alloc zr35 rfl) rfl rfl fun b14 => ?_
   refine RS.p (Pu.assign rfl) rfl rfl ?_
   refine RS.solid (Sd.stB (cs' := [_, _, _]) 0 ty35 rfl rfl rfl rfl rfl rfl rfl rfl) rfl rfl fun _ => ?_
   refine RS.nil (hK8 _ _ (T.conseq (fr' := [(0, _), (3, _), (4, _), (5, _), (6, _), (7, _)]) ?_ ⟨rfl, rfl, rfl, rfl, rfl, rfl, trivial⟩ (fun _ s => s)))
   refine T.seq fun K9 hK9 => ?_
   refine T.drawn (fun _ => True) [(0, .rd), (1, .rd), (2, .pu), (3, .pu), (4, .pu), (5, .pu), (6, .pu), (7, .pu), (8, .pu), (9, .pu), (10, .pu), (11, .rd), (12, .rd), (13, .rd), (14, .pu), (15, .pu), (16, .pu)] mixed (ClE.sat _ _) (by kernel_rfl) ?_
   refine RD.q (fun _ _ => trivial) rfl (Qt.ldBA (us := [_, _, _]) 0 ty35 rfl rfl rfl rfl) rfl rfl ?_
   obtain ⟨x15, hx15, H⟩ := bindE H
   refine RD.q (fun _ _ => trivial) rfl (Qt.call (vs := [.agg #[.int .i64 ((gi a0_l v2).turn), .int .i64 ((gi a0_l v2).player), .slice p12 ((gi a0_l v2).commands).length cc13]]) ent58 rfl fun w s => turns_May_walk (gi a0_l v2) w ((Rd.base hu11) w s) hx15) rfl rfl ?_
   refine RD.p (fun _ _ => trivial) rfl (Pu.not rfl) rfl rfl ?_
   refine RD.p (fun _ _ => trivial) rfl (Pu.move rfl) rfl rfl ?_
   refine RD.joinB H 13 28 (fun b18 => .bool b18) [(0, _), (5, _), (6, _), (7, _)] ⟨rfl, rfl, rfl, rfl, trivial⟩ ?_ ?_
   ·intro b18 H
    refine RD.nil (hK9 _ _ ?_)
    refine T.cond rfl (fun hc19 => ?_) (fun hc19 => ?_)
    ·have H := ifT hc19 H
     refine T.conseq (fr' := []) ?_ trivial (fun _ s => s)
     refine T.seq fun K10 hK10 => ?_
     refine T.region ?_
     refine RS.p (Pu.assign rfl) rfl rfl ?_
     refine RS.nil (hK10 _ _ ?_)
     obtain rfl := hd1 _ H
     have H := HX1
     obtain rfl := Option.some.inj H
     refine T.rt (Cont.ret1 rfl rfl fun w' s => ?_)
     exact ⟨rfl, s.ext⟩
    ·have H := ifB hc19 H
     refine T.skip (hK7 _ _ ?_)
     refine T.region ?_
     obtain ⟨g20, H⟩ := gdE H
     refine RS.p (Pu.addS rfl rfl g20) rfl rfl ?_
     refine RS.p (Pu.move rfl) rfl rfl ?_
     refine RS.nil (hL1 _ _ (v2 + 1) () H ⟨rfl, rfl, rfl, trivial⟩ ⟨rfl, trivial⟩ (fun w s => s.pick [] (by decide) rfl))
   ·intro z21 H hJ17
    refine RD.split 15 rfl (fun hc16 => ?_) (fun hc16 => ?_)
    ·have H := ifT hc16 H
     refine RD.no (fun _ _ => trivial) rfl rfl rfl (.inl rfl) ?_
     refine RD.no (fun _ _ => trivial) rfl rfl rfl (.inl rfl) ?_
     refine RD.no (fun _ _ => trivial) rfl rfl rfl (.inl rfl) ?_
     refine RD.no (fun _ _ => trivial) rfl rfl rfl (.inl rfl) ?_
     refine RD.no (fun _ _ => trivial) rfl rfl rfl (.inl rfl) ?_
     refine RD.no (fun _ _ => trivial) rfl rfl rfl (.inl rfl) ?_
     refine RD.no (fun _ _ => trivial) rfl rfl rfl (.inl rfl) ?_
     refine RD.no (fun _ _ => trivial) rfl rfl rfl (.inr (.inr rfl)) ?_
     refine RD.no (fun _ _ => trivial) rfl rfl rfl (.inr (.inr rfl)) ?_
     refine RD.no (fun _ _ => trivial) rfl rfl rfl (.inr (.inr rfl)) ?_
     refine RD.no (fun _ _ => trivial) rfl rfl rfl (.inl rfl) ?_
     refine RD.no (fun _ _ => trivial) rfl rfl rfl (.inl rfl) ?_
     refine RD.p (fun _ _ => trivial) rfl (Pu.pickT rfl rfl) rfl rfl ?_
     obtain rfl := Option.some.inj H
     exact hJ17 _ ⟨rfl, rfl, rfl, rfl, rfl, trivial⟩
    ·have H := ifB hc16 H
     refine RD.p (fun _ _ => trivial) rfl (Pu.move rfl) rfl rfl ?_
     refine RD.p (fun _ _ => trivial) rfl (Pu.bin rfl rfl rfl) rfl rfl ?_
     refine RD.p (fun _ _ => trivial) rfl (Pu.move rfl) rfl rfl ?_
     refine RD.joinB H 9 27 (fun b24 => .bool b24) [(0, _), (3, _), (4, _), (5, _), (6, _), (7, _), (12, _), (13, _), (14, _), (15, _), (16, _), (17, _)] ⟨rfl, rfl, rfl, rfl, rfl, rfl, rfl, rfl, rfl, rfl, rfl, rfl, trivial⟩ ?_ ?_
     ·intro b24 H
      refine RD.p (fun _ _ => trivial) rfl (Pu.pickF rfl rfl) rfl rfl ?_
      obtain rfl := Option.some.inj H
      exact hJ17 _ ⟨rfl, rfl, rfl, rfl, rfl, trivial⟩
     ·intro z25 H hJ23
      refine RD.splitP 18 rfl (fun hc22 => ?_) (fun hc22 => ?_)
      ·have H := ifT hc22 H
       refine RD.p (fun _ _ => trivial) rfl (Pu.move rfl) rfl rfl ?_
       refine RD.p (fun _ _ => trivial) rfl (Pu.move rfl) rfl rfl ?_
       obtain ⟨g26, H⟩ := gdE H
       refine RD.p (fun _ _ => trivial) rfl (Pu.subS rfl rfl g26) rfl rfl ?_
       obtain ⟨g27, H⟩ := gdE H
       refine RD.p (fun _ _ => trivial) rfl (Pu.indexSl sl22 rfl rfl g27) rfl rfl ?_
       obtain ⟨c28, hc29, ha30⟩ := R_el (α := Inp) h0 g27
       obtain ⟨u31, rfl, hu31⟩ := hc29
       obtain ⟨p32, cc33, rfl⟩ := R_form hu31
       refine RD.q (fun _ _ => trivial) rfl (Qt.ldZ (cs := [_, _, _]) ty35 rfl ha30 Held.base rfl) rfl rfl ?_
       refine RD.q (fun _ _ => trivial) rfl (Qt.ldBA (us := [_, _, _]) 0 ty35 rfl rfl rfl rfl) rfl rfl ?_
       obtain ⟨x34, hx34, H⟩ := bindE H
       refine RD.q (fun _ _ => trivial) rfl (Qt.call (vs := [.agg #[.int .i64 ((gi a0_l (v2 - 1)).turn), .int .i64 ((gi a0_l (v2 - 1)).player), .slice p32 ((gi a0_l (v2 - 1)).commands).length cc33], .agg #[.int .i64 ((gi a0_l v2).turn), .int .i64 ((gi a0_l v2).player), .slice p12 ((gi a0_l v2).commands).length cc13]]) ent63 rfl fun w s => turns_less_walk (gi a0_l (v2 - 1)) (gi a0_l v2) w  hx34) rfl rfl ?_
       refine RD.p (fun _ _ => trivial) rfl (Pu.bin rfl rfl rfl) rfl rfl ?_
       refine RD.p (fun _ _ => trivial) rfl (Pu.pickT rfl rfl) rfl rfl ?_
       obtain rfl := Option.some.inj H
       exact hJ23 _ ⟨rfl, rfl, rfl, rfl, rfl, rfl, rfl, rfl, rfl, rfl, rfl, rfl, rfl, trivial⟩
      ·have H := ifF hc22 H
       refine RD.no (fun _ _ => trivial) rfl rfl rfl (.inl rfl) ?_
       refine RD.no (fun _ _ => trivial) rfl rfl rfl (.inl rfl) ?_
       refine RD.no (fun _ _ => trivial) rfl rfl rfl (.inl rfl) ?_
       refine RD.no (fun _ _ => trivial) rfl rfl rfl (.inl rfl) ?_
       refine RD.no (fun _ _ => trivial) rfl rfl rfl (.inr (.inr rfl)) ?_
       refine RD.no (fun _ _ => trivial) rfl rfl rfl (.inr (.inr rfl)) ?_
       refine RD.no (fun _ _ => trivial) rfl rfl rfl (.inr (.inr rfl)) ?_
       refine RD.no (fun _ _ => trivial) rfl rfl rfl (.inl rfl) ?_
       refine RD.p (fun _ _ => trivial) rfl (Pu.pickF rfl rfl) rfl rfl ?_
       obtain rfl := Option.some.inj H
       exact hJ23 _ ⟨rfl, rfl, rfl, rfl, rfl, rfl, rfl, rfl, rfl, rfl, rfl, rfl, rfl, trivial⟩
  ·have H := ifF hc4 H
   obtain rfl := hd1 _ H
   refine T.xt (hJ1 _ _ () () HX1 trivial trivial (fun w s => s))
theorem turns_All_walk (a0_l : List Inp) (w : World) {v0 : Value} (h0 : R (hpOf w) a0_l [v0]) {r : List Cmd} (H : turns_All a0_l = some r) : Calls Try.prog 44 #[v0] w fun e w' => ∃ q1 : (Option Nat × Nat), e = .returned (rowV q1 r.length) ∧ Sat w [drow 63 (rowV q1 r.length) r] w' := by
 have hm0 := R_max h0
 obtain ⟨p0, c0, rfl⟩ := R_form h0
 unfold turns_All at H
 refine T.enter (args := [_]) (S := Sat w []) Try.func44 rfl rfl (Sat.start w) ?_
 refine T.seq fun K1 hK1 => ?_
 refine T.region ?_
 refine RS.p (Pu.assign rfl) rfl rfl ?_
 refine RS.nil (hK1 _ _ ?_)
 refine T.seq fun K2 hK2 => ?_
 refine T.seq fun K3 hK3 => ?_
 refine T.region ?_
 refine RS.p (Pu.move rfl) rfl rfl ?_
 refine RS.p (Pu.lenSl sl22 rfl) rfl rfl ?_
 refine RS.p (Pu.move rfl) rfl rfl ?_
 refine RS.nil (hK3 _ _ ?_)
 refine T.joinE (σ := List Cmd) (γ := (Option Nat × Nat)) H (fun s => s) [] trivial (fun v2 q3 => [(2, rowV q3 v2.length)]) (fun v2 q3 => Sat w [drow 63 (rowV q3 v2.length) v2]) ?_ ?_
 ·rintro v2 q3 H
  try dsimp only [Ex.then] at H
  refine Cont.conseq (fr' := [(2, _)]) ?_ ⟨rfl, trivial⟩ (fun _ s => s)
  refine id (hK2 _ _ ?_)
  refine T.seq fun K4 hK4 => ?_
  refine T.region ?_
  refine RS.p (Pu.move rfl) rfl rfl ?_
  refine RS.p (Pu.assign rfl) rfl rfl ?_
  refine RS.nil (hK4 _ _ ?_)
  obtain rfl := Option.some.inj H
  refine T.rt (Cont.ret1 rfl rfl fun w' s => ?_)
  exact ⟨q3, rfl, s.pick [0] (by decide) rfl⟩
 ·intro z1 hz1 HX1 hJ1
  refine T.block ?_
  refine T.loopA (γ := (Option Nat × Nat)) hz1 [(5, _), (6, _)] (fun (l4, v6) q5 => [(2, rowV q5 l4.length), (7, .int .i64 v6)]) (fun (l4, v6) q5 => Sat w [drow 63 (rowV q5 l4.length) l4]) (none, 0) ⟨rfl, rfl, trivial⟩ ⟨rfl, rfl, trivial⟩ (fun w s => (s.nilRowG (α := Cmd) 63).pick [0] (by decide) rfl) ?_
  rintro ⟨l4, v6⟩ q5 y7 H hd1 KL1 hL1
  try dsimp only [Ex.then] at H
  refine T.conseq (fr' := [(2, _), (7, _), (5, _), (6, _)]) ?_ ⟨rfl, rfl, rfl, rfl, trivial⟩ (fun _ s => s)
  refine T.seq fun K5 hK5 => ?_
  refine T.region ?_
  refine RS.p (Pu.bin rfl rfl rfl) rfl rfl ?_
  refine RS.nil (hK5 _ _ ?_)
  refine T.seq fun K6 hK6 => ?_
  refine T.condP rfl (fun hc8 => ?_) (fun hc8 => ?_)
  ·have H := ifT hc8 H
   refine T.skip (hK6 _ _ ?_)
   refine T.seq fun K7 hK7 => ?_
   refine T.block ?_
   refine T.seq fun K8 hK8 => ?_
   refine T.region ?_
   obtain ⟨g9, H⟩ := gdE H
   obtain ⟨bl10, ol11, rfl⟩ := R_ptr h0 (ne_of_pos (pos_of g9))
   refine RS.p (Pu.indexSl sl22 rfl rfl g9) rfl rfl ?_
   obtain ⟨c12, hc13, ha14⟩ := R_el (α := Inp) h0 g9
   obtain ⟨u15, rfl, hu15⟩ := hc13
   obtain ⟨p16, cc17, rfl⟩ := R_form hu15
   refine RS.q (Qt.ldZ (cs := [_, _, _]) ty35 rfl ha14 Held.base rfl) rfl rfl ?_
   refine RS.solid (Sd.alloc zr35 rfl) rfl rfl fun b18 => ?_
   refine RS.solid (Sd.stB (cs' := [_, _, _]) 1 ty35 rfl rfl rfl rfl rfl rfl rfl rfl) rfl rfl fun _ => ?_
   refine RS.nil (hK8 _ _ (T.conseq (fr' := [(2, _), (4, _), (5, _), (6, _), (7, _)]) ?_ ⟨rfl, rfl, rfl, rfl, rfl, trivial⟩ (fun _ s => s)))
   refine T.region ?_
   refine RS.p (Pu.move rfl) rfl rfl ?_
   refine RS.p (Pu.fieldAddr fd35_2 rfl) rfl rfl ?_
   refine RS.q (Qt.ldB 1 ty33 rfl rfl rfl) rfl rfl ?_
   obtain ⟨x19, hx19, H⟩ := bindE H
   refine RS.solid (Sd.callN (vs := [.slice p16 ((gi a0_l v6).commands).length cc17]) ent68 rfl (fun w s => command_OwnAll_walk ((gi a0_l v6).commands) w ((Rd.base hu15) w s) hx19)) rfl rfl fun q20 => ?_
   obtain ⟨g22, H⟩ := gdE H
   refine RS.solid (Sd.appD (α := Cmd) 0 2 rfl rfl rfl sl33 zr63 rfl rfl rfl g22 (by decide)) rfl rfl fun q21 => ?_
   refine RS.p (Pu.assign rfl) rfl rfl ?_
   refine RS.nil (hK7 _ _ (T.conseq (fr' := [(2, _), (5, _), (6, _), (7, _)]) ?_ ⟨rfl, rfl, rfl, rfl, trivial⟩ (fun _ s => s)))
   refine T.region ?_
   obtain ⟨g23, H⟩ := gdE H
   refine RS.p (Pu.addS rfl rfl g23) rfl rfl ?_
   refine RS.p (Pu.move rfl) rfl rfl ?_
   refine RS.nil (hL1 _ _ ((l4 ++ x19), (v6 + 1)) q21 H ⟨rfl, rfl, trivial⟩ ⟨rfl, rfl, trivial⟩ (fun w s => s.pick [0] (by decide) rfl))
  ·have H := ifF hc8 H
   obtain rfl := hd1 _ H
   refine T.xt (hJ1 _ _ l4 q5 HX1 trivial ⟨rfl, trivial⟩ (fun w s => s))
theorem turns_Part_walk (a0_l : List Inp) (a1_turn : Int) (w : World) {v0 : Value} (h0 : R (hpOf w) a0_l [v0]) {r : List Inp × List Inp} (H : turns_Part a0_l a1_turn = some r) : Calls Try.prog 38 #[v0, .int .i64 a1_turn] w fun e w' => ∃ g : (Option Nat × Nat) × (Option Nat × Nat), e = .returned (.tuple #[rowV g.1 r.1.length, rowV g.2 r.2.length]) ∧ Sat w [drow 35 (rowV g.1 r.1.length) r.1, drow 35 (rowV g.2 r.2.length) r.2] w' := by
 have hm0 := R_max h0
 obtain ⟨p0, c0, rfl⟩ := R_form h0
 unfold turns_Part at H
 refine T.enter (args := [_, _]) (S := Sat w []) Try.func38 rfl rfl (Sat.start w) ?_
 refine T.seq fun K1 hK1 => ?_
 refine T.region ?_
 refine RS.p (Pu.assign rfl) rfl rfl ?_
 refine RS.p (Pu.assign rfl) rfl rfl ?_
 refine RS.nil (hK1 _ _ ?_)
 refine T.seq fun K2 hK2 => ?_
 refine T.seq fun K3 hK3 => ?_
 refine T.region ?_
 refine RS.p (Pu.move rfl) rfl rfl ?_
 refine RS.p (Pu.lenSl sl22 rfl) rfl rfl ?_
 refine RS.p (Pu.move rfl) rfl rfl ?_
 refine RS.nil (hK3 _ _ ?_)
 refine T.joinE (σ := List Inp × List Inp) (γ := (Option Nat × Nat) × (Option Nat × Nat)) H (fun s => s) [] trivial (fun (v2, v4) (q3, q5) => [(4, rowV q3 v2.length), (5, rowV q5 v4.length)]) (fun (v2, v4) (q3, q5) => Sat w [drow 35 (rowV q3 v2.length) v2, drow 35 (rowV q5 v4.length) v4]) ?_ ?_
 ·rintro ⟨v2, v4⟩ ⟨q3, q5⟩ H
  try dsimp only [Ex.then] at H
  refine Cont.conseq (fr' := [(4, _), (5, _)]) ?_ ⟨rfl, rfl, trivial⟩ (fun _ s => s)
  refine id (hK2 _ _ ?_)
  refine T.seq fun K4 hK4 => ?_
  refine T.region ?_
  refine RS.p (Pu.move rfl) rfl rfl ?_
  refine RS.p (Pu.move rfl) rfl rfl ?_
  refine RS.p (Pu.assign rfl) rfl rfl ?_
  refine RS.p (Pu.assign rfl) rfl rfl ?_
  refine RS.nil (hK4 _ _ ?_)
  obtain rfl := Option.some.inj H
  refine T.rt (Cont.ret2 rfl rfl rfl fun w' s => ?_)
  exact ⟨⟨q3, q5⟩, rfl, s.pick [0, 1] (by decide) rfl⟩
 ·intro z1 hz1 HX1 hJ1
  refine T.block ?_
  refine T.loopA (γ := (Option Nat × Nat) × (Option Nat × Nat)) hz1 [(1, _), (8, _), (9, _)] (fun (l6, l8, v10) (q7, q9) => [(4, rowV q7 l6.length), (5, rowV q9 l8.length), (10, .int .i64 v10)]) (fun (l6, l8, v10) (q7, q9) => Sat w [drow 35 (rowV q7 l6.length) l6, drow 35 (rowV q9 l8.length) l8]) ((none, 0), (none, 0)) ⟨rfl, rfl, rfl, trivial⟩ ⟨rfl, rfl, rfl, trivial⟩ (fun w s => ((s.nilRowG (α := Inp) 35).nilRowG (α := Inp) 35).pick [0, 1] (by decide) rfl) ?_
  rintro ⟨l6, l8, v10⟩ ⟨q7, q9⟩ y11 H hd1 KL1 hL1
  try dsimp only [Ex.then] at H
  refine T.conseq (fr' := [(4, _), (5, _), (10, _), (1, _), (8, _), (9, _)]) ?_ ⟨rfl, rfl, rfl, rfl, rfl, rfl, trivial⟩ (fun _ s => s)
  refine T.seq fun K5 hK5 => ?_
  refine T.region ?_
  refine RS.p (Pu.bin rfl rfl rfl) rfl rfl ?_
  refine RS.nil (hK5 _ _ ?_)
  refine T.seq fun K6 hK6 => ?_
  refine T.condP rfl (fun hc12 => ?_) (fun hc12 => ?_)
  ·have H := ifT hc12 H
   refine T.skip (hK6 _ _ ?_)
   refine T.seq fun K7 hK7 => ?_
   refine T.block ?_
   refine T.seq fun K8 hK8 => ?_
   refine T.region ?_
   obtain ⟨g13, H⟩ := gdE H
   obtain ⟨bl14, ol15, rfl⟩ := R_ptr h0 (ne_of_pos (pos_of g13))
   refine RS.p (Pu.indexSl sl22 rfl rfl g13) rfl rfl ?_
   obtain ⟨c16, hc17, ha18⟩ := R_el (α := Inp) h0 g13
   obtain ⟨u19, rfl, hu19⟩ := hc17
   obtain ⟨p20, cc21, rfl⟩ := R_form hu19
   refine RS.q (Qt.ldZ (cs := [_, _, _]) ty35 rfl ha18 Held.base rfl) rfl rfl ?_
   refine RS.solid (Sd.alloc zr35 rfl) rfl rfl fun b22 => ?_
   refine RS.solid (Sd.stB (cs' := [_, _, _]) 2 ty35 rfl rfl rfl rfl rfl rfl rfl rfl) rfl rfl fun _ => ?_
   refine RS.nil (hK8 _ _ (T.conseq (fr' := [(1, _), (4, _), (5, _), (7, _), (8, _), (9, _), (10, _)]) ?_ ⟨rfl, rfl, rfl, rfl, rfl, rfl, rfl, trivial⟩ (fun _ s => s)))
   refine T.seq fun K9 hK9 => ?_
   refine T.region ?_
   refine RS.p (Pu.fieldAddr fd35_0 rfl) rfl rfl ?_
   refine RS.q (Qt.ldB 2 ty3 rfl rfl rfl) rfl rfl ?_
   refine RS.p (Pu.move rfl) rfl rfl ?_
   refine RS.p (Pu.bin rfl rfl rfl) rfl rfl ?_
   refine RS.nil (hK9 _ _ ?_)
   refine T.condP rfl (fun hc23 => ?_) (fun hc23 => ?_)
   ·have H := ifT hc23 H
    refine T.conseq (fr' := [(1, _), (4, _), (5, _), (7, _), (8, _), (9, _), (10, _)]) ?_ ⟨rfl, rfl, rfl, rfl, rfl, rfl, rfl, trivial⟩ (fun _ s => s)
    refine T.region ?_
    refine RS.p (Pu.move rfl) rfl rfl ?_
    refine RS.q (Qt.ldBA (us := [_, _, _]) 2 ty35 rfl rfl rfl rfl) rfl rfl ?_
    obtain ⟨x24, hx24, H⟩ := bindE H
    refine RS.solid (Sd.callN (vs := [.agg #[.int .i64 ((gi a0_l v10).turn), .int .i64 ((gi a0_l v10).player), .slice p20 ((gi a0_l v10).commands).length cc21]]) ent40 rfl (fun w s => turns_Own_walk (gi a0_l v10) w ((Rd.base hu19) w s) hx24)) rfl rfl fun q25 => ?_
    refine RS.solid (Sd.litS (cs := [_, _, _]) sl22 zr35 rfl rfl rfl rfl rfl) rfl rfl fun b26 => ?_
    obtain ⟨g28, H⟩ := gdE H
    refine RS.solid (Sd.pre (fun w s => (Sat.starAt 3 5 (Sat.starAt 3 6 ((s.noStars).noStars) rfl rfl (by decide)) rfl rfl (by decide))) (Sd.appL (α := Inp) 0 4 3 ([x24] : List Inp) rfl rfl rfl (DRF.cons' (α := Inp) (x := x24) (fun _ h => ⟨_, rfl, h⟩) DRF.nil') rfl sl22 zr35 rfl rfl rfl rfl g28 (by decide))) rfl rfl fun q27 => ?_
    refine RS.p (Pu.assign rfl) rfl rfl ?_
    refine RS.nil (hK7 _ _ (T.conseq (fr' := [(1, _), (4, _), (5, _), (8, _), (9, _), (10, _)]) ?_ ⟨rfl, rfl, rfl, rfl, rfl, rfl, trivial⟩ (fun _ s => s)))
    refine T.region ?_
    obtain ⟨g29, H⟩ := gdE H
    refine RS.p (Pu.addS rfl rfl g29) rfl rfl ?_
    refine RS.p (Pu.move rfl) rfl rfl ?_
    refine RS.nil (hL1 _ _ ((l6 ++ ([x24] : List Inp)), l8, (v10 + 1)) (q27, q9) H ⟨rfl, rfl, rfl, trivial⟩ ⟨rfl, rfl, rfl, trivial⟩ (fun w s => s.pick [0, 1] (by decide) rfl))
   ·have H := ifF hc23 H
    refine T.conseq (fr' := [(1, _), (4, _), (5, _), (7, _), (8, _), (9, _), (10, _)]) ?_ ⟨rfl, rfl, rfl, rfl, rfl, rfl, rfl, trivial⟩ (fun _ s => s)
    refine T.region ?_
    refine RS.p (Pu.move rfl) rfl rfl ?_
    refine RS.q (Qt.ldBA (us := [_, _, _]) 2 ty35 rfl rfl rfl rfl) rfl rfl ?_
    obtain ⟨x30, hx30, H⟩ := bindE H
    refine RS.solid (Sd.callN (vs := [.agg #[.int .i64 ((gi a0_l v10).turn), .int .i64 ((gi a0_l v10).player), .slice p20 ((gi a0_l v10).commands).length cc21]]) ent40 rfl (fun w s => turns_Own_walk (gi a0_l v10) w ((Rd.base hu19) w s) hx30)) rfl rfl fun q31 => ?_
    refine RS.solid (Sd.litS (cs := [_, _, _]) sl22 zr35 rfl rfl rfl rfl rfl) rfl rfl fun b32 => ?_
    obtain ⟨g34, H⟩ := gdE H
    refine RS.solid (Sd.pre (fun w s => (Sat.starAt 3 5 (Sat.starAt 3 6 ((s.noStars).noStars) rfl rfl (by decide)) rfl rfl (by decide))) (Sd.appL (α := Inp) 1 4 3 ([x30] : List Inp) rfl rfl rfl (DRF.cons' (α := Inp) (x := x30) (fun _ h => ⟨_, rfl, h⟩) DRF.nil') rfl sl22 zr35 rfl rfl rfl rfl g34 (by decide))) rfl rfl fun q33 => ?_
    refine RS.p (Pu.assign rfl) rfl rfl ?_
    refine RS.nil (hK7 _ _ (T.conseq (fr' := [(1, _), (4, _), (5, _), (8, _), (9, _), (10, _)]) ?_ ⟨rfl, rfl, rfl, rfl, rfl, rfl, trivial⟩ (fun _ s => s)))
    refine T.region ?_
    obtain ⟨g35, H⟩ := gdE H
    refine RS.p (Pu.addS rfl rfl g35) rfl rfl ?_
    refine RS.p (Pu.move rfl) rfl rfl ?_
    refine RS.nil (hL1 _ _ (l6, (l8 ++ ([x30] : List Inp)), (v10 + 1)) (q7, q33) H ⟨rfl, rfl, rfl, trivial⟩ ⟨rfl, rfl, rfl, trivial⟩ (fun w s => s.pick [0, 1] (by decide) rfl))
  ·have H := ifF hc12 H
   obtain rfl := hd1 _ H
   refine T.xt (hJ1 _ _ (l6, l8) (q7, q9) HX1 trivial ⟨rfl, rfl, trivial⟩ (fun w s => s))
theorem slices_BinarySearchFunc_walk (a0_x : List Inp) (a1_target : Inp) (a2_cmp : (Inp × Inp) → Option Int) (w : World) {v0 v1 v2 : Value} (h0 : R (hpOf w) a0_x [v0]) (h1 : R (hpOf w) a1_target.commands [v1]) (h2 : FnR Try.prog w v2 (fun (z : Inp × Inp) c => ∃ u0 u1 : Value, c = [.agg #[.int .i64 z.1.turn, .int .i64 z.1.player, u0], .agg #[.int .i64 z.2.turn, .int .i64 z.2.player, u1]]) (fun (r : Int) => .int .i64 r) a2_cmp) {r : Int × Bool} (H : slices_BinarySearchFunc a0_x a1_target a2_cmp = some r) : Calls Try.prog 62 #[v0, .agg #[.int .i64 a1_target.turn, .int .i64 a1_target.player, v1], v2] w fun e w' => e = .returned (.tuple #[.int .i64 r.1, .bool r.2]) ∧ Ext w w' := by
 have hm0 := R_max h0
 obtain ⟨p0, c0, rfl⟩ := R_form h0
 have hm1 := R_max h1
 obtain ⟨p1, c1, rfl⟩ := R_form h1
 unfold slices_BinarySearchFunc at H
 refine T.enter (args := [_, _, _]) (S := Sat w []) Try.func62 rfl rfl (Sat.start w) ?_
 refine T.seq fun K1 hK1 => ?_
 refine T.region ?_
 refine RS.solid (Sd.box (cs := [_, _, _]) rfl rfl) rfl rfl fun b1 => ?_
 refine RS.p (Pu.assign rfl) rfl rfl ?_
 refine RS.p (Pu.assign rfl) rfl rfl ?_
 refine RS.nil (hK1 _ _ (T.conseq (fr' := [(0, _), (2, _), (4, _)]) ?_ ⟨rfl, rfl, rfl, trivial⟩ (fun _ s => s)))
 refine T.seq fun K2 hK2 => ?_
 refine T.region ?_
 refine RS.p (Pu.move rfl) rfl rfl ?_
 refine RS.p (Pu.lenSl sl22 rfl) rfl rfl ?_
 refine RS.p (Pu.assign rfl) rfl rfl ?_
 refine RS.nil (hK2 _ _ ?_)
 refine T.seq fun K3 hK3 => ?_
 refine T.region ?_
 refine RS.p (Pu.move rfl) rfl rfl ?_
 refine RS.p (Pu.assign rfl) rfl rfl ?_
 refine RS.p (Pu.assign rfl) rfl rfl ?_
 refine RS.nil (hK3 _ _ (T.conseq (fr' := [(0, _), (2, _), (4, _), (8, _), (9, _), (10, _)]) ?_ ⟨rfl, rfl, rfl, rfl, rfl, rfl, trivial⟩ (fun _ s => s)))
 refine T.joinA (σ := Int) (γ := Unit) H (fun s => s) [(0, _), (2, _), (4, _), (8, _)] ⟨rfl, rfl, rfl, rfl, trivial⟩ (fun v3 _ => [(9, .int .i64 v3)]) (fun v3 _ => Sat w [blk b1 [.int .i64 a1_target.turn, .int .i64 a1_target.player, .slice p1 a1_target.commands.length c1] 35]) ?_ ?_
 ·rintro v3 ⟨⟩ H
  try dsimp only [Ex.then] at H
  refine T.conseq (fr' := [(9, _), (0, _), (2, _), (4, _), (8, _)]) ?_ ⟨rfl, rfl, rfl, rfl, rfl, trivial⟩ (fun _ s => s)
  refine T.seq fun K5 hK5 => ?_
  refine T.drawn (fun _ => True) [(0, .pu), (1, .pu), (2, .pu), (3, .pu), (4, .pu), (5, .pu), (6, .pu), (7, .pu), (8, .pu), (9, .rd), (10, .rd), (11, .rd), (12, .pu), (13, .pu), (14, .pu), (15, .pu)] mixed (ClE.sat _ _) (by kernel_rfl) ?_
  refine RD.p (fun _ _ => trivial) rfl (Pu.move rfl) rfl rfl ?_
  refine RD.p (fun _ _ => trivial) rfl (Pu.move rfl) rfl rfl ?_
  refine RD.p (fun _ _ => trivial) rfl (Pu.move rfl) rfl rfl ?_
  refine RD.p (fun _ _ => trivial) rfl (Pu.bin rfl rfl rfl) rfl rfl ?_
  refine RD.p (fun _ _ => trivial) rfl (Pu.move rfl) rfl rfl ?_
  refine RD.joinB H 9 48 (fun b6 => .bool b6) [(35, _)] ⟨rfl, trivial⟩ ?_ ?_
  ·intro b6 H
   refine RD.p (fun _ _ => trivial) rfl (Pu.assign rfl) rfl rfl ?_
   refine RD.p (fun _ _ => trivial) rfl (Pu.assign rfl) rfl rfl ?_
   refine RD.nil (hK5 _ _ ?_)
   obtain rfl := Option.some.inj H
   refine T.rt (Cont.ret2 rfl rfl rfl fun w' s => ?_)
   exact ⟨rfl, s.ext⟩
  ·intro z7 H hJ5
   refine RD.splitP 39 rfl (fun hc4 => ?_) (fun hc4 => ?_)
   ·have H := ifT hc4 H
    refine RD.p (fun _ _ => trivial) rfl (Pu.move rfl) rfl rfl ?_
    refine RD.p (fun _ _ => trivial) rfl (Pu.move rfl) rfl rfl ?_
    refine RD.p (fun _ _ => trivial) rfl (Pu.move rfl) rfl rfl ?_
    obtain ⟨g8, H⟩ := gdE H
    obtain ⟨bl9, ol10, rfl⟩ := R_ptr h0 (ne_of_pos (pos_of g8))
    refine RD.p (fun _ _ => trivial) rfl (Pu.indexSl sl22 rfl rfl g8) rfl rfl ?_
    obtain ⟨c11, hc12, ha13⟩ := R_el (α := Inp) h0 g8
    obtain ⟨u14, rfl, hu14⟩ := hc12
    obtain ⟨p15, cc16, rfl⟩ := R_form hu14
    refine RD.q (fun _ _ => trivial) rfl (Qt.ldZ (cs := [_, _, _]) ty35 rfl ha13 Held.base rfl) rfl rfl ?_
    refine RD.q (fun _ _ => trivial) rfl (Qt.ldBA (us := [_, _, _]) 0 ty35 rfl rfl rfl rfl) rfl rfl ?_
    obtain ⟨x17, hx17, H⟩ := bindE H
    refine RD.q (fun _ _ => trivial) rfl (Qt.callR rfl h2 (fun w s => s.ext) hx17 rfl ⟨_, _, rfl⟩) rfl rfl ?_
    refine RD.p (fun _ _ => trivial) rfl (Pu.bin rfl rfl rfl) rfl rfl ?_
    refine RD.p (fun _ _ => trivial) rfl (Pu.pickT rfl rfl) rfl rfl ?_
    obtain rfl := Option.some.inj H
    exact hJ5 _ ⟨rfl, rfl, trivial⟩
   ·have H := ifF hc4 H
    refine RD.no (fun _ _ => trivial) rfl rfl rfl (.inl rfl) ?_
    refine RD.no (fun _ _ => trivial) rfl rfl rfl (.inl rfl) ?_
    refine RD.no (fun _ _ => trivial) rfl rfl rfl (.inl rfl) ?_
    refine RD.no (fun _ _ => trivial) rfl rfl rfl (.inl rfl) ?_
    refine RD.no (fun _ _ => trivial) rfl rfl rfl (.inr (.inr rfl)) ?_
    refine RD.no (fun _ _ => trivial) rfl rfl rfl (.inr (.inr rfl)) ?_
    refine RD.no (fun _ _ => trivial) rfl rfl rfl (.inr (.inr rfl)) ?_
    refine RD.no (fun _ _ => trivial) rfl rfl rfl (.inl rfl) ?_
    refine RD.p (fun _ _ => trivial) rfl (Pu.pickF rfl rfl) rfl rfl ?_
    obtain rfl := Option.some.inj H
    exact hJ5 _ ⟨rfl, rfl, trivial⟩
 ·intro z2 hz2 HX2 K4 hJ2
  refine T.block ?_
  refine T.loopA (γ := Unit) hz2 [(0, _), (2, _), (4, _), (8, _)] (fun (v18, v19) _ => [(9, .int .i64 v18), (10, .int .i64 v19)]) (fun (v18, v19) _ => Sat w [blk b1 [.int .i64 a1_target.turn, .int .i64 a1_target.player, .slice p1 a1_target.commands.length c1] 35]) () ⟨rfl, rfl, rfl, rfl, trivial⟩ ⟨rfl, rfl, trivial⟩ (fun w s => s) ?_
  rintro ⟨v18, v19⟩ ⟨⟩ y20 H hd2 KL2 hL2
  try dsimp only [Ex.then] at H
  refine T.conseq (fr' := [(9, _), (10, _), (0, _), (2, _), (4, _), (8, _)]) ?_ ⟨rfl, rfl, rfl, rfl, rfl, rfl, trivial⟩ (fun _ s => s)
  refine T.seq fun K6 hK6 => ?_
  refine T.seq fun K7 hK7 => ?_
  refine T.region ?_
  refine RS.p (Pu.move rfl) rfl rfl ?_
  refine RS.p (Pu.move rfl) rfl rfl ?_
  refine RS.p (Pu.bin rfl rfl rfl) rfl rfl ?_
  refine RS.nil (hK7 _ _ ?_)
  refine T.condP rfl (fun hc21 => ?_) (fun hc21 => ?_)
  ·have H := ifT hc21 H
   refine T.skip (hK6 _ _ (T.conseq (fr' := [(0, _), (2, _), (4, _), (8, _), (9, _), (10, _)]) ?_ ⟨rfl, rfl, rfl, rfl, rfl, rfl, trivial⟩ (fun _ s => s)))
   refine T.block ?_
   refine T.seq fun K8 hK8 => ?_
   refine T.region ?_
   refine RS.p (Pu.move rfl) rfl rfl ?_
   refine RS.p (Pu.move rfl) rfl rfl ?_
   obtain ⟨g22, H⟩ := gdE H
   refine RS.p (Pu.addS rfl rfl g22) rfl rfl ?_
   refine RS.p (Pu.convUW us3 ul80 rfl) rfl rfl ?_
   obtain ⟨g23, H⟩ := gdE H
   refine RS.p (Pu.shr1 rfl rfl g23) rfl rfl ?_
   obtain ⟨g24, H⟩ := gdE H
   refine RS.p (Pu.convS us80 ul3 rfl g24) rfl rfl ?_
   refine RS.p (Pu.assign rfl) rfl rfl ?_
   refine RS.nil (hK8 _ _ (T.conseq (fr' := [(0, _), (2, _), (4, _), (8, _), (9, _), (10, _), (11, _)]) ?_ ⟨rfl, rfl, rfl, rfl, rfl, rfl, rfl, trivial⟩ (fun _ s => s)))
   refine T.seq fun K9 hK9 => ?_
   refine T.drawn (fun _ => True) [(0, .pu), (1, .pu), (2, .pu), (3, .pu), (4, .rd), (5, .rd), (6, .rd), (7, .pu)] mixed (ClE.sat _ _) (by kernel_rfl) ?_
   refine RD.p (fun _ _ => trivial) rfl (Pu.move rfl) rfl rfl ?_
   refine RD.p (fun _ _ => trivial) rfl (Pu.move rfl) rfl rfl ?_
   refine RD.p (fun _ _ => trivial) rfl (Pu.move rfl) rfl rfl ?_
   obtain ⟨g25, H⟩ := gdE H
   obtain ⟨bl26, ol27, rfl⟩ := R_ptr h0 (ne_of_pos (pos_of g25))
   refine RD.p (fun _ _ => trivial) rfl (Pu.indexSl sl22 rfl rfl g25) rfl rfl ?_
   obtain ⟨c28, hc29, ha30⟩ := R_el (α := Inp) h0 g25
   obtain ⟨u31, rfl, hu31⟩ := hc29
   obtain ⟨p32, cc33, rfl⟩ := R_form hu31
   refine RD.q (fun _ _ => trivial) rfl (Qt.ldZ (cs := [_, _, _]) ty35 rfl ha30 Held.base rfl) rfl rfl ?_
   refine RD.q (fun _ _ => trivial) rfl (Qt.ldBA (us := [_, _, _]) 0 ty35 rfl rfl rfl rfl) rfl rfl ?_
   obtain ⟨x34, hx34, H⟩ := bindE H
   refine RD.q (fun _ _ => trivial) rfl (Qt.callR rfl h2 (fun w s => s.ext) hx34 rfl ⟨_, _, rfl⟩) rfl rfl ?_
   refine RD.p (fun _ _ => trivial) rfl (Pu.bin rfl rfl rfl) rfl rfl ?_
   refine RD.nil (hK9 _ _ ?_)
   refine T.condP rfl (fun hc35 => ?_) (fun hc35 => ?_)
   ·have H := ifT hc35 H
    refine T.conseq (fr' := [(0, _), (2, _), (4, _), (8, _), (10, _), (11, _)]) ?_ ⟨rfl, rfl, rfl, rfl, rfl, rfl, trivial⟩ (fun _ s => s)
    refine T.region ?_
    refine RS.p (Pu.move rfl) rfl rfl ?_
    obtain ⟨g36, H⟩ := gdE H
    refine RS.p (Pu.addS rfl rfl g36) rfl rfl ?_
    refine RS.p (Pu.assign rfl) rfl rfl ?_
    refine RS.nil (hL2 _ _ (((((v18 + v19) % 18446744073709551616) / 2) + 1), v19) () H ⟨rfl, rfl, rfl, rfl, trivial⟩ ⟨rfl, rfl, trivial⟩ (fun w s => s))
   ·have H := ifF hc35 H
    refine T.conseq (fr' := [(0, _), (2, _), (4, _), (8, _), (9, _), (11, _)]) ?_ ⟨rfl, rfl, rfl, rfl, rfl, rfl, trivial⟩ (fun _ s => s)
    refine T.region ?_
    refine RS.p (Pu.move rfl) rfl rfl ?_
    refine RS.p (Pu.assign rfl) rfl rfl ?_
    refine RS.nil (hL2 _ _ (v18, (((v18 + v19) % 18446744073709551616) / 2)) () H ⟨rfl, rfl, rfl, rfl, trivial⟩ ⟨rfl, rfl, trivial⟩ (fun w s => s))
  ·have H := ifF hc21 H
   obtain rfl := hd2 _ H
   refine T.xt (hJ2 _ _ v18 () HX2 ⟨rfl, rfl, rfl, rfl, trivial⟩ ⟨rfl, trivial⟩ (fun w s => s))
theorem turns_In_walk (a0_l : List Inp) (a1_i : Inp) (w : World) {v0 v1 : Value} (h0 : R (hpOf w) a0_l [v0]) (h1 : R (hpOf w) a1_i.commands [v1]) {r : List Inp × Bool} (H : turns_In a0_l a1_i = some r) : Calls Try.prog 33 #[v0, .agg #[.int .i64 a1_i.turn, .int .i64 a1_i.player, v1]] w fun e w' => ∃ q1 : (Option Nat × Nat), e = .returned (.tuple #[rowV q1 r.1.length, .bool r.2]) ∧ Sat w [drow 35 (rowV q1 r.1.length) r.1] w' := by
 have hm0 := R_max h0
 obtain ⟨p0, c0, rfl⟩ := R_form h0
 have hm1 := R_max h1
 obtain ⟨p1, c1, rfl⟩ := R_form h1
 unfold turns_In at H
 refine T.enter (args := [_, _]) (S := Sat w []) Try.func33 rfl rfl (Sat.start w) ?_
 refine T.seq fun K1 hK1 => ?_
 refine T.region ?_
 refine RS.solid (Sd.box (cs := [_, _, _]) rfl rfl) rfl rfl fun b1 => ?_
 refine RS.p (Pu.assign rfl) rfl rfl ?_
 refine RS.p (Pu.assign rfl) rfl rfl ?_
 refine RS.nil (hK1 _ _ (T.conseq (fr' := [(0, _), (3, _)]) ?_ ⟨rfl, rfl, trivial⟩ (fun _ s => s)))
 refine T.seq fun K2 hK2 => ?_
 refine T.region ?_
 refine RS.p (Pu.move rfl) rfl rfl ?_
 refine RS.q (Qt.ldBA (us := [_, _, _]) 0 ty35 rfl rfl rfl rfl) rfl rfl ?_
 obtain ⟨x2, hx2, H⟩ := bindE H
 refine RS.q (Qt.call (vs := [.slice p0 a0_l.length c0, .agg #[.int .i64 a1_i.turn, .int .i64 a1_i.player, .slice p1 a1_i.commands.length c1], .func (.func 63) #[] #[]]) ent62 rfl fun w s => slices_BinarySearchFunc_walk a0_l a1_i (fun (y0, y1) => turns_less y0 y1) w ((Rd.base h0) w s) ((Rd.base h1) w s) (⟨63, _, rfl, ent63, fun ⟨y0, y1⟩ c r w' ⟨_, _, hc⟩ he hr => by subst hc; exact turns_less_walk y0 y1 w'  hr⟩) hx2) rfl rfl ?_
 refine RS.p (Pu.move rfl) rfl rfl ?_
 refine RS.p (Pu.extract rfl rfl) rfl rfl ?_
 refine RS.p (Pu.extract rfl rfl) rfl rfl ?_
 refine RS.p (Pu.assign rfl) rfl rfl ?_
 refine RS.p (Pu.assign rfl) rfl rfl ?_
 refine RS.nil (hK2 _ _ (T.conseq (fr' := [(0, _), (3, _), (6, _), (7, _)]) ?_ ⟨rfl, rfl, rfl, rfl, trivial⟩ (fun _ s => s)))
 refine T.seq fun K3 hK3 => ?_
 refine T.seq fun K4 hK4 => ?_
 refine T.region ?_
 refine RS.p (Pu.move rfl) rfl rfl ?_
 refine RS.nil (hK4 _ _ ?_)
 refine T.cond rfl (fun hc3 => ?_) (fun hc3 => ?_)
 ·have H := ifT hc3 H
  refine T.conseq (fr' := []) ?_ trivial (fun _ s => s)
  refine T.seq fun K5 hK5 => ?_
  refine T.region ?_
  refine RS.p (Pu.assign rfl) rfl rfl ?_
  refine RS.p (Pu.assign rfl) rfl rfl ?_
  refine RS.nil (hK5 _ _ ?_)
  obtain rfl := Option.some.inj H
  refine T.rt (Cont.ret2 rfl rfl rfl fun w' s => ?_)
  exact ⟨(none, 0), rfl, (s.nilRowG (α := Inp) 35).pick [1] (by decide) rfl⟩
 ·have H := ifB hc3 H
  refine T.skip (hK3 _ _ ?_)
  refine T.seq fun K6 hK6 => ?_
  refine T.drawnS [0] [(0, .pu), (2, .pu), (3, .wk), (1, .so), (4, .so), (5, .so), (6, .br), (7, .pu), (8, .pu)] mixed (by kernel_rfl) rfl ?_
  refine RD.p (fun w s => s.pick [0] (by decide) rfl) rfl (Pu.move rfl) rfl rfl ?_
  refine RD.p (fun w s => s.pick [0] (by decide) rfl) rfl (Pu.move rfl) rfl rfl ?_
  refine RD.w (fun w s => s.pick [0] (by decide) rfl) rfl (Qt.ldBA (us := [_, _, _]) 0 ty35 rfl rfl rfl rfl) rfl rfl ?_
  obtain ⟨x4, hx4, H⟩ := bindE H
  refine RD.solid rfl (.inl rfl) rfl rfl (Sd.callN (vs := [.slice p0 a0_l.length c0]) ent59 rfl (fun w s => turns_OwnAll_walk a0_l w ((Rd.base h0) w s) hx4)) (fun _ => ClE.sat _ _) (fun _ w s => s.pick [0] (by decide) rfl) (fun _ _ _ s => s.drop1) fun q5 => ?_
  obtain ⟨x6, hx6, H⟩ := bindE H
  refine RD.solid rfl (.inl rfl) rfl rfl (Sd.callN (vs := [.agg #[.int .i64 a1_i.turn, .int .i64 a1_i.player, .slice p1 a1_i.commands.length c1]]) ent40 rfl (fun w s => turns_Own_walk a1_i w ((Rd.base h1) w s) hx6)) (fun _ => ClE.sat _ _) (fun _ w s => s.pick [0] (by decide) rfl) (fun _ _ _ s => s.drop1) fun q7 => ?_
  refine RD.solid rfl (.inl rfl) rfl rfl (Sd.litS (cs := [_, _, _]) sl22 zr35 rfl rfl rfl rfl rfl) (fun _ => ClE.sat _ _) (fun _ w s => s.pick [0] (by decide) rfl) (fun _ _ _ s => s.drop1) fun b8 => ?_
  obtain ⟨x9, hx9, H⟩ := bindE H
  refine RD.solid rfl (.inr rfl) rfl rfl (Sd.pre (fun w s => (Sat.starAt 1 3 (Sat.litRowG (α := Inp) (m := 1) 3 2 ([x6] : List Inp) (Sat.starAt 2 4 (Sat.starAt 2 5 ((s.noStars).noStars) rfl rfl (by decide)) rfl rfl (by decide)) rfl rfl (by decide) (by decide) rfl (DRF.cons' (α := Inp) (x := x6) (fun _ h => ⟨_, rfl, h⟩) DRF.nil')) rfl rfl (by decide))) (Sd.callM 1 ent64 rfl rfl (fun w s => slices_InsertI_walk x4 x2.1 ([x6] : List Inp) rfl hx9 w s))) (fun _ => ClE.sat _ _) (fun _ w s => s.pick [0] (by decide) rfl) (fun h => nomatch h) fun q10 => ?_
  refine RD.p (fun w s => s.pick [0] (by decide) rfl) rfl (Pu.assign rfl) rfl rfl ?_
  refine RD.p (fun w s => s.pick [0] (by decide) rfl) rfl (Pu.assign rfl) rfl rfl ?_
  refine RD.nil (hK6 _ _ (T.conseq (fr' := [(4, _), (5, _)]) ?_ ⟨rfl, rfl, trivial⟩ (fun _ s => s)))
  obtain rfl := Option.some.inj H
  refine T.rt (Cont.ret2 rfl rfl rfl fun w' s => ?_)
  exact ⟨q10, rfl, s.pick [1] (by decide) rfl⟩
end Go.Proofs.Ytnadebijiaelkaa
