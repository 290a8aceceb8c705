/-
  Walks of what is called: inputs.
-/
import Derived.Test.YtnadebijiaelkaaGreatRows
import Derived.Test.YtnadebijiaelkaaGreatW3
import Derived.Test.YtnadebijiaelkaaGreatTH
set_option linter.unusedVariables false
set_option linter.unusedSimpArgs false
set_option maxRecDepth 20000
set_option maxHeartbeats 4000000
namespace Go.Proofs.YtnadebijiaelkaaGreat
open Go.Vg
open Enc (R)
theorem ent100 : Ent Tryz.prog 100 := ⟨_, _, Tryz.func100, by kernel_rfl, rfl⟩
theorem ent101 : Ent Tryz.prog 101 := ⟨_, _, Tryz.func101, by kernel_rfl, rfl⟩
theorem ent102 : Ent Tryz.prog 102 := ⟨_, _, Tryz.func102, by kernel_rfl, rfl⟩
theorem ent112 : Ent Tryz.prog 112 := ⟨_, _, Tryz.func112, by kernel_rfl, rfl⟩
theorem ent22 : Ent Tryz.prog 22 := ⟨_, _, Tryz.func22, by kernel_rfl, rfl⟩
theorem ent24 : Ent Tryz.prog 24 := ⟨_, _, Tryz.func24, by kernel_rfl, rfl⟩
theorem ent69 : Ent Tryz.prog 69 := ⟨_, _, Tryz.func69, by kernel_rfl, rfl⟩
theorem ent80 : Ent Tryz.prog 80 := ⟨_, _, Tryz.func80, by kernel_rfl, rfl⟩
theorem ent85 : Ent Tryz.prog 85 := ⟨_, _, Tryz.func85, by kernel_rfl, rfl⟩
theorem ent86 : Ent Tryz.prog 86 := ⟨_, _, Tryz.func86, by kernel_rfl, rfl⟩
theorem ent89 : Ent Tryz.prog 89 := ⟨_, _, Tryz.func89, by kernel_rfl, rfl⟩
theorem ent92 : Ent Tryz.prog 92 := ⟨_, _, Tryz.func92, by kernel_rfl, rfl⟩
theorem ent93 : Ent Tryz.prog 93 := ⟨_, _, Tryz.func93, by kernel_rfl, rfl⟩
theorem ent96 : Ent Tryz.prog 96 := ⟨_, _, Tryz.func96, by kernel_rfl, rfl⟩
theorem ent97 : Ent Tryz.prog 97 := ⟨_, _, Tryz.func97, by kernel_rfl, rfl⟩
theorem ent99 : Ent Tryz.prog 99 := ⟨_, _, Tryz.func99, by kernel_rfl, rfl⟩
theorem turns_Said_walk (a0_player : Int) (a1_l : List Cmd) (w : World) {v0 : Value} (h0 : R (hpOf w) a1_l [v0]) {r : Bool} (H : turns_Said a0_player a1_l = some r) : Calls Tryz.prog 80 #[.int .i64 a0_player, v0] w fun e w' => e = .returned (.bool r) ∧ Ext w w' := by
 have hm0 := R_max h0
 obtain ⟨p0, c0, rfl⟩ := R_form h0
 unfold turns_Said at H
 refine T.enter (args := [_, _]) (S := Sat w []) Tryz.func80 rfl rfl (Sat.start w) ?_
 refine T.seq fun K1 hK1 => T.region (rA rfl (RS.nil (hK1 _ _ ?_)))
 refine T.seq fun K2 hK2 => T.seq fun K3 hK3 => T.region (rM rfl (rp (Pu.lenSl sl39 rfl) (rM rfl (RS.nil (hK3 _ _ ?_)))))
 refine T.joinE (σ := Unit) (γ := Unit) H Ex.go [(1, _)] ⟨rfl, trivial⟩ (fun _ _ => []) (fun _ _ => Sat w []) ?_ ?_
 ·rintro ⟨⟩ ⟨⟩ H
  try dsimp only [Ex.then] at H
  refine Cont.conseq (fr' := [(1, _)]) ?_ ⟨rfl, trivial⟩ (fun _ s => s)
  refine id (hK2 _ _ ?_)
  refine T.seq fun K4 hK4 => T.region (rM rfl (rp (Pu.lenSl sl39 rfl) (rp (Pu.bin rfl rfl rfl) (rA rfl (RS.nil (hK4 _ _ (cq [(4, _)] ?_)))))))
  obtain rfl := sj H
  refine T.rt (Cont.ret1 rfl rfl fun w' s => ?_)
  exact ⟨rfl, s.ext⟩
 ·intro z1 hz1 HX1 hJ1
  refine T.block ?_
  refine T.loopA (γ := Unit) hz1 [(0, _), (1, _), (7, _), (8, _)] (fun v2 _ => [(9, .int .i64 v2)]) (fun v2 _ => Sat w []) () ⟨rfl, rfl, rfl, rfl, trivial⟩ ⟨rfl, trivial⟩ (fun w s => s) ?_
  rintro v2 ⟨⟩ y3 H hd1 KL1 hL1
  try dsimp only [Ex.then] at H
  refine cq [(9, _), (0, _), (1, _), (7, _), (8, _)] ?_
  refine T.seq fun K5 hK5 => T.region (rp (Pu.bin rfl rfl rfl) (RS.nil (hK5 _ _ ?_)))
  refine T.seq fun K6 hK6 => ?_
  refine T.condP rfl (fun hc4 => ?_) (fun hc4 => ?_)
  ·have H := ifT hc4 H
   refine T.skip (hK6 _ _ ?_)
   refine T.seq fun K7 hK7 => T.block (T.seq fun K8 hK8 => T.region (rM rfl ?_))
   obtain ⟨g5, H⟩ := gdE H
   obtain ⟨bl6, ol7, rfl⟩ := R_ptr h0 (ne_of_pos (pos_of g5))
   refine rp (Pu.indexSl sl39 rfl rfl g5) ?_
   obtain ⟨c8, hc9, ha10⟩ := R_el (α := Cmd) h0 g5
   obtain ⟨u11, rfl, hu11⟩ := hc9
   obtain ⟨p12, cc13, rfl⟩ := R_form hu11
   refine rq (Qt.ldZ (cs := [_, _, _, _, _, _, _, _, _, _]) ty88 rfl ha10 Held.base rfl) (RS.solid (Sd.alloc zr88 rfl) rfl rfl fun b14 => rA rfl (RS.solid (Sd.stB (cs' := [_, _, _, _, _, _, _, _, _, _]) 0 ty88 rfl rfl rfl rfl rfl rfl rfl rfl) rfl rfl fun _ => RS.nil (hK8 _ _ (cq [(0, _), (1, _), (5, _), (6, _), (7, _), (8, _), (9, _)] ?_))))
   refine T.seq fun K9 hK9 => ?_
   refine T.drawn (fun _ => True) [(0, .rd), (1, .rd), (2, .pu), (3, .pu), (4, .pu), (5, .rd), (6, .pu), (7, .pu), (8, .pu), (9, .pu), (10, .pu), (11, .pu), (12, .pu), (13, .pu), (14, .pu), (15, .pu), (16, .pu), (17, .pu), (18, .rd), (19, .pu), (20, .rd), (21, .pu), (22, .pu), (23, .pu)] mixed (ClE.sat _ _) (by kernel_rfl) ?_
   refine dq rfl (Qt.ldBA (us := [_, _, _, _, _, _, _, _, _, _]) 0 ty88 rfl rfl rfl rfl) ?_
   obtain ⟨x15, hx15, H⟩ := bindE H
   refine dq rfl (Qt.call (vs := [.agg #[.int .i64 ((gi a1_l v2).player), .int .i64 ((gi a1_l v2).seq), .int .i64 ((gi a1_l v2).kind), .int .i64 ((gi a1_l v2).n), .slice p12 ((gi a1_l v2).units).length cc13, .int .i64 ((gi a1_l v2).tile), .int .i64 ((gi a1_l v2).w), .int .i64 ((gi a1_l v2).h), .int .i64 (((gi a1_l v2).pos).x), .int .i64 (((gi a1_l v2).pos).y)]]) ent97 rfl fun w s => command_May_walk (gi a1_l v2) w ((Rd.base hu11) w s) hx15) (dp rfl (Pu.not rfl) (dp rfl (Pu.move rfl) ?_))
   refine RD.joinV 5 22 (.bool (decide (((!x15) = true) ∨ (¬ (gi a1_l v2).player = a0_player)))) [(0, _), (1, _), (5, _), (6, _), (7, _), (8, _), (9, _)] ⟨rfl, rfl, rfl, rfl, rfl, rfl, rfl, trivial⟩ ?_ ?_
   ·refine dp rfl (Pu.move rfl) ?_
    obtain ⟨g20, H⟩ := gdE H
    obtain ⟨g21, H⟩ := gdE H
    refine RD.joinV 14 37 (.bool (decide ((((!x15) = true) ∨ (¬ (gi a1_l v2).player = a0_player)) ∨ ((0 < v2) ∧ ((gi a1_l v2).seq ≤ (gi a1_l (v2 - 1)).seq))))) [(0, _), (1, _), (7, _), (8, _), (9, _)] ⟨rfl, rfl, rfl, rfl, rfl, trivial⟩ ?_ ?_
    ·refine RD.nil (hK9 _ _ ?_)
     refine T.condP rfl (fun hc22 => ?_) (fun hc22 => ?_)
     ·have H := ifT hc22 H
      refine cq [] ?_
      refine T.seq fun K10 hK10 => T.region (rA rfl (RS.nil (hK10 _ _ ?_)))
      obtain rfl := hd1 _ H
      have H := HX1
      obtain rfl := sj H
      refine T.rt (Cont.ret1 rfl rfl fun w' s => ?_)
      exact ⟨rfl, s.ext⟩
     ·have H := ifF hc22 H
      refine T.skip (hK7 _ _ ?_)
      refine T.region ?_
      obtain ⟨g23, H⟩ := gdE H
      refine rp (Pu.addS rfl rfl g23) (rM rfl (RS.nil (hL1 _ _ (v2 + 1) () H ⟨rfl, rfl, rfl, rfl, trivial⟩ ⟨rfl, trivial⟩ (fun w s => s.pick [] (by decide) rfl))))
    ·intro hJ19
     refine RD.splitP 23 rfl (fun hc18 => ?_) (fun hc18 => ?_)
     ·refine dn rfl (dn rfl (dn rfl (dn rfl (dn rfl (dn rfl (dn rfl (dn rfl (dn rfl (dn rfl (dn rfl (dn rfl (dn rfl (dp rfl (Pu.pickT rfl rfl) ?_)))))))))))))
      exact hJ19 _ ⟨dOrT hc18, rfl, rfl, rfl, rfl, rfl, trivial⟩
     ·refine dp rfl (Pu.move rfl) (dp rfl (Pu.bin rfl rfl rfl) (dp rfl (Pu.move rfl) ?_))
      refine RD.joinV 10 36 (.bool (decide ((0 < v2) ∧ ((gi a1_l v2).seq ≤ (gi a1_l (v2 - 1)).seq)))) [(0, _), (1, _), (5, _), (6, _), (7, _), (8, _), (9, _), (22, _), (23, _), (24, _), (25, _)] ⟨rfl, rfl, rfl, rfl, rfl, rfl, rfl, rfl, rfl, rfl, rfl, trivial⟩ ?_ ?_
      ·refine dp rfl (Pu.pickF rfl rfl) ?_
       exact hJ19 _ ⟨dOrF hc18, rfl, rfl, rfl, rfl, rfl, trivial⟩
      ·intro hJ25
       refine RD.splitP 26 rfl (fun hc24 => ?_) (fun hc24 => ?_)
       ·refine dp rfl (Pu.move rfl) (dp rfl (Pu.move rfl) (dp rfl (Pu.subS rfl rfl ((g20 hc18) hc24)) (dp rfl (Pu.indexSl sl39 rfl rfl ((g21 hc18) hc24)) (dp rfl (Pu.fieldAddr fd88_1 rfl) (dq rfl (Qt.ldF (α := Cmd) (Rd.base h0) ty3 rfl rfl ((g21 hc18) hc24) (by rintro _ _ ⟨_, rfl, _⟩; rfl)) (dp rfl (Pu.fieldAddr fd88_1 rfl) (dq rfl (Qt.ldB 0 ty3 rfl rfl rfl) (dp rfl (Pu.bin rfl rfl rfl) (dp rfl (Pu.pickT rfl rfl) ?_)))))))))
        exact hJ25 _ ⟨dAndT hc24, rfl, rfl, rfl, rfl, rfl, rfl, rfl, rfl, rfl, rfl, rfl, trivial⟩
       ·refine dn rfl (dn rfl (dn rfl (dn rfl (dn rfl (dn rfl (dn rfl (dn rfl (dn rfl (dp rfl (Pu.pickF rfl rfl) ?_)))))))))
        exact hJ25 _ ⟨dAndF hc24, rfl, rfl, rfl, rfl, rfl, rfl, rfl, rfl, rfl, rfl, rfl, trivial⟩
   ·intro hJ17
    refine RD.split 17 rfl (fun hc16 => ?_) (fun hc16 => ?_)
    ·refine dn rfl (dn rfl (dn rfl (dn rfl (dp rfl (Pu.pickT rfl rfl) ?_))))
     exact hJ17 _ ⟨dOrT hc16, rfl, rfl, rfl, rfl, rfl, rfl, rfl, trivial⟩
    ·refine dp rfl (Pu.fieldAddr fd88_0 rfl) (dq rfl (Qt.ldB 0 ty3 rfl rfl rfl) (dp rfl (Pu.move rfl) (dp rfl (Pu.bin rfl rfl rfl) (dp rfl (Pu.pickF rfl rfl) ?_))))
     exact hJ17 _ ⟨dOrF (bne_of hc16), rfl, rfl, rfl, rfl, rfl, rfl, rfl, trivial⟩
  ·have H := ifF hc4 H
   obtain rfl := hd1 _ H
   refine T.xt (hJ1 _ _ () () HX1 ⟨rfl, trivial⟩ trivial (fun w s => s))
theorem turns_May_walk (a0_i : Inp) (w : World) {v0 : Value} (h0 : R (hpOf w) a0_i.commands [v0]) {r : Bool} (H : turns_May a0_i = some r) : Calls Tryz.prog 85 #[.agg #[.int .i64 a0_i.turn, .int .i64 a0_i.player, v0]] w fun e w' => e = .returned (.bool r) ∧ Ext w w' := by
 have hm0 := R_max h0
 obtain ⟨p0, c0, rfl⟩ := R_form h0
 unfold turns_May at H
 refine T.enter (args := [_]) (S := Sat w []) Tryz.func85 rfl rfl (Sat.start w) ?_
 refine T.seq fun K1 hK1 => T.region (RS.solid (Sd.box (cs := [_, _, _]) rfl rfl) rfl rfl fun b1 => rA rfl (RS.nil (hK1 _ _ ?_)))
 refine T.seq fun K2 hK2 => T.region (rp (Pu.fieldAddr fd41_0 rfl) (rq (Qt.ldB 0 ty3 rfl rfl rfl) (rp (Pu.bin rfl rfl rfl) (rM rfl ?_))))
 refine RS.joinV 4 10 (.bool (decide ((0 ≤ a0_i.turn) ∧ (a0_i.turn ≤ 1099511627776)))) [(1, _), (2, _)] ⟨rfl, rfl, trivial⟩ ?_ ?_
 ·refine rM rfl ?_
  refine RS.joinV 4 15 (.bool (decide (((0 ≤ a0_i.turn) ∧ (a0_i.turn ≤ 1099511627776)) ∧ (1 ≤ a0_i.player)))) [(1, _), (2, _)] ⟨rfl, rfl, trivial⟩ ?_ ?_
  ·refine rM rfl ?_
   refine RS.joinV 4 20 (.bool (decide ((((0 ≤ a0_i.turn) ∧ (a0_i.turn ≤ 1099511627776)) ∧ (1 ≤ a0_i.player)) ∧ (a0_i.player ≤ 8)))) [(1, _), (2, _)] ⟨rfl, rfl, trivial⟩ ?_ ?_
   ·refine rM rfl ?_
    refine RS.joinB H 6 27 (fun b10 => .bool b10) [(2, _)] ⟨rfl, trivial⟩ ?_ ?_
    ·intro b10 H
     refine rA rfl (RS.nil (hK2 _ _ ?_))
     obtain rfl := sj H
     refine T.rt (Cont.ret1 rfl rfl fun w' s => ?_)
     exact ⟨rfl, s.ext⟩
    ·intro z11 H hJ9
     refine RS.splitP 21 rfl (fun hc8 => ?_) (fun hc8 => ?_)
     ·have H := ifT hc8 H
      refine rp (Pu.fieldAddr fd41_1 rfl) (rq (Qt.ldB 0 ty3 rfl rfl rfl) (rp (Pu.fieldAddr fd41_2 rfl) (rq (Qt.ldB 0 ty39 rfl rfl rfl) ?_)))
      obtain ⟨x12, hx12, H⟩ := bindE H
      refine rq (Qt.call (vs := [.int .i64 a0_i.player, .slice p0 a0_i.commands.length c0]) ent80 rfl fun w s => turns_Said_walk a0_i.player a0_i.commands w ((Rd.base h0) w s) hx12) (rp (Pu.pickT rfl rfl) ?_)
      obtain rfl := sj H
      exact hJ9 _ _ ⟨rfl, rfl, trivial⟩ (fun w s => s)
     ·have H := ifF hc8 H
      refine ro (ro (ro (ro (ro (rp (Pu.pickF rfl rfl) ?_)))))
      obtain rfl := sj H
      exact hJ9 _ _ ⟨rfl, rfl, trivial⟩ (fun w s => s)
   ·intro hJ7
    refine RS.splitP 16 rfl (fun hc6 => ?_) (fun hc6 => ?_)
    ·refine rp (Pu.fieldAddr fd41_1 rfl) (rq (Qt.ldB 0 ty3 rfl rfl rfl) (rp (Pu.bin rfl rfl rfl) (rp (Pu.pickT rfl rfl) ?_)))
     exact hJ7 _ _ ⟨dAndT hc6, rfl, rfl, trivial⟩ (fun w s => s)
    ·refine ro (ro (ro (rp (Pu.pickF rfl rfl) ?_)))
     exact hJ7 _ _ ⟨dAndF hc6, rfl, rfl, trivial⟩ (fun w s => s)
  ·intro hJ5
   refine RS.splitP 11 rfl (fun hc4 => ?_) (fun hc4 => ?_)
   ·refine rp (Pu.fieldAddr fd41_1 rfl) (rq (Qt.ldB 0 ty3 rfl rfl rfl) (rp (Pu.bin rfl rfl rfl) (rp (Pu.pickT rfl rfl) ?_)))
    exact hJ5 _ _ ⟨dAndT hc4, rfl, rfl, trivial⟩ (fun w s => s)
   ·refine ro (ro (ro (rp (Pu.pickF rfl rfl) ?_)))
    exact hJ5 _ _ ⟨dAndF hc4, rfl, rfl, trivial⟩ (fun w s => s)
 ·intro hJ3
  refine RS.splitP 6 rfl (fun hc2 => ?_) (fun hc2 => ?_)
  ·refine rp (Pu.fieldAddr fd41_0 rfl) (rq (Qt.ldB 0 ty3 rfl rfl rfl) (rp (Pu.bin rfl rfl rfl) (rp (Pu.pickT rfl rfl) ?_)))
   exact hJ3 _ _ ⟨dAndT hc2, rfl, rfl, trivial⟩ (fun w s => s)
  ·refine ro (ro (ro (rp (Pu.pickF rfl rfl) ?_)))
   exact hJ3 _ _ ⟨dAndF hc2, rfl, rfl, trivial⟩ (fun w s => s)
theorem turns_Own_walk (a0_i : Inp) (w : World) {v0 : Value} (h0 : R (hpOf w) a0_i.commands [v0]) {r : Inp} (H : turns_Own a0_i = some r) : Calls Tryz.prog 69 #[.agg #[.int .i64 a0_i.turn, .int .i64 a0_i.player, v0]] w fun e w' => ∃ q1 : (Option Nat × Nat), e = .returned (.agg #[.int .i64 r.turn, .int .i64 r.player, rowV q1 r.commands.length]) ∧ Sat w [drow 88 (rowV q1 r.commands.length) r.commands] w' := by
 have hm0 := R_max h0
 obtain ⟨p0, c0, rfl⟩ := R_form h0
 unfold turns_Own at H
 refine T.enter (args := [_]) (S := Sat w []) Tryz.func69 rfl rfl (Sat.start w) ?_
 refine T.seq fun K1 hK1 => T.region (RS.solid (Sd.box (cs := [_, _, _]) rfl rfl) rfl rfl fun b1 => RS.solid (Sd.alloc zr41 rfl) rfl rfl fun b2 => RS.nil (hK1 _ _ ?_))
 refine T.seq fun K2 hK2 => T.region (rp (Pu.fieldAddr fd41_2 rfl) (rq (Qt.ldB 0 ty39 rfl rfl rfl) ?_))
 obtain ⟨x3, hx3, H⟩ := bindE H
 refine RS.solid (Sd.callN (vs := [.slice p0 a0_i.commands.length c0]) ent96 rfl (fun w s => command_OwnAll_walk a0_i.commands w ((Rd.base h0) w s) hx3)) rfl rfl fun q4 => rp (Pu.fieldAddr fd41_2 rfl) (RS.solid (Sd.stB (cs' := [_, _, _]) 0 ty39 rfl rfl rfl rfl rfl rfl rfl rfl) rfl rfl fun _ => RS.nil (hK2 _ _ (cq [(1, _), (2, _)] ?_)))
 refine T.seq fun K3 hK3 => T.region (rq (Qt.ldBA (us := [_, _, _]) 0 ty41 rfl rfl rfl rfl) (RS.solid (Sd.stB (cs' := [_, _, _]) 1 ty41 rfl rfl rfl rfl rfl rfl rfl rfl) rfl rfl fun _ => RS.nil (hK3 _ _ ?_)))
 obtain rfl := sj H
 refine T.rt (Cont.retC 1 rfl ty41 rfl rfl rfl fun w' s => ?_)
 exact ⟨q4, rfl, s.pick [2] (by decide) rfl⟩
theorem turns_OwnAll_walk (a0_l : List Inp) (w : World) {v0 : Value} (h0 : R (hpOf w) a0_l [v0]) {r : List Inp} (H : turns_OwnAll a0_l = some r) : Calls Tryz.prog 89 #[v0] w fun e w' => ∃ q1 : (Option Nat × Nat), e = .returned (rowV q1 r.length) ∧ Sat w [drow 41 (rowV q1 r.length) r] w' := by
 have hm0 := R_max h0
 obtain ⟨p0, c0, rfl⟩ := R_form h0
 unfold turns_OwnAll at H
 refine T.enter (args := [_]) (S := Sat w []) Tryz.func89 rfl rfl (Sat.start w) ?_
 refine T.seq fun K1 hK1 => T.region (rA rfl (RS.nil (hK1 _ _ ?_)))
 refine T.seq fun K2 hK2 => T.seq fun K3 hK3 => T.region (rM rfl (rp (Pu.lenSl sl22 rfl) (rM rfl (RS.nil (hK3 _ _ ?_)))))
 refine T.joinE (σ := List Inp) (γ := (Option Nat × Nat)) H (fun s => s) [] trivial (fun v2 q3 => [(2, rowV q3 v2.length)]) (fun v2 q3 => Sat w [drow 41 (rowV q3 v2.length) v2]) ?_ ?_
 ·rintro v2 q3 H
  try dsimp only [Ex.then] at H
  refine Cont.conseq (fr' := [(2, _)]) ?_ ⟨rfl, trivial⟩ (fun _ s => s)
  refine id (hK2 _ _ ?_)
  refine T.seq fun K4 hK4 => T.region (rM rfl (rA rfl (RS.nil (hK4 _ _ ?_))))
  obtain rfl := sj H
  refine T.rt (Cont.ret1 rfl rfl fun w' s => ?_)
  exact ⟨q3, rfl, s.pick [0] (by decide) rfl⟩
 ·intro z1 hz1 HX1 hJ1
  refine T.block ?_
  refine T.loopA (γ := (Option Nat × Nat)) hz1 [(5, _), (6, _)] (fun (l4, v6) q5 => [(2, rowV q5 l4.length), (7, .int .i64 v6)]) (fun (l4, v6) q5 => Sat w [drow 41 (rowV q5 l4.length) l4]) (none, 0) ⟨rfl, rfl, trivial⟩ ⟨rfl, rfl, trivial⟩ (fun w s => (s.nilRowG (α := Inp) 41).pick [0] (by decide) rfl) ?_
  rintro ⟨l4, v6⟩ q5 y7 H hd1 KL1 hL1
  try dsimp only [Ex.then] at H
  refine cq [(2, _), (7, _), (5, _), (6, _)] ?_
  refine T.seq fun K5 hK5 => T.region (rp (Pu.bin rfl rfl rfl) (RS.nil (hK5 _ _ ?_)))
  refine T.seq fun K6 hK6 => ?_
  refine T.condP rfl (fun hc8 => ?_) (fun hc8 => ?_)
  ·have H := ifT hc8 H
   refine T.skip (hK6 _ _ ?_)
   refine T.seq fun K7 hK7 => T.block (T.seq fun K8 hK8 => T.region ?_)
   obtain ⟨g9, H⟩ := gdE H
   obtain ⟨bl10, ol11, rfl⟩ := R_ptr h0 (ne_of_pos (pos_of g9))
   refine rp (Pu.indexSl sl22 rfl rfl g9) ?_
   obtain ⟨c12, hc13, ha14⟩ := R_el (α := Inp) h0 g9
   obtain ⟨u15, rfl, hu15⟩ := hc13
   obtain ⟨p16, cc17, rfl⟩ := R_form hu15
   refine rq (Qt.ldZ (cs := [_, _, _]) ty41 rfl ha14 Held.base rfl) (RS.solid (Sd.alloc zr41 rfl) rfl rfl fun b18 => RS.solid (Sd.stB (cs' := [_, _, _]) 1 ty41 rfl rfl rfl rfl rfl rfl rfl rfl) rfl rfl fun _ => RS.nil (hK8 _ _ (cq [(2, _), (4, _), (5, _), (6, _), (7, _)] ?_)))
   refine T.region (rM rfl (rq (Qt.ldBA (us := [_, _, _]) 1 ty41 rfl rfl rfl rfl) ?_))
   obtain ⟨x19, hx19, H⟩ := bindE H
   refine RS.solid (Sd.callN (vs := [.agg #[.int .i64 ((gi a0_l v6).turn), .int .i64 ((gi a0_l v6).player), .slice p16 ((gi a0_l v6).commands).length cc17]]) ent69 rfl (fun w s => turns_Own_walk (gi a0_l v6) w ((Rd.base hu15) w s) hx19)) rfl rfl fun q20 => RS.solid (Sd.litS (cs := [_, _, _]) sl22 zr41 rfl rfl rfl rfl rfl) rfl rfl fun b21 => ?_
   obtain ⟨g23, H⟩ := gdE H
   refine RS.solid (Sd.pre (fun w s => (Sat.starAt 2 4 (Sat.starAt 2 5 ((s.noStars).noStars) rfl rfl (by decide)) rfl rfl (by decide))) (Sd.appL (α := Inp) 0 3 2 ([x19] : List Inp) rfl rfl rfl (DRF.cons' (α := Inp) (x := x19) (fun _ h => ⟨_, rfl, h⟩) DRF.nil') rfl sl22 zr41 rfl rfl rfl rfl g23 (by decide))) rfl rfl fun q22 => rA rfl (RS.nil (hK7 _ _ (cq [(2, _), (5, _), (6, _), (7, _)] ?_)))
   refine T.region ?_
   obtain ⟨g24, H⟩ := gdE H
   refine rp (Pu.addS rfl rfl g24) (rM rfl (RS.nil (hL1 _ _ ((l4 ++ ([x19] : List Inp)), (v6 + 1)) q22 H ⟨rfl, rfl, trivial⟩ ⟨rfl, rfl, trivial⟩ (fun w s => s.pick [0] (by decide) rfl))))
  ·have H := ifF hc8 H
   obtain rfl := hd1 _ H
   refine T.xt (hJ1 _ _ l4 q5 HX1 trivial ⟨rfl, trivial⟩ (fun w s => s))
theorem turns_Rising_walk (a0_l : List Inp) (w : World) {v0 : Value} (h0 : R (hpOf w) a0_l [v0]) {r : Bool} (H : turns_Rising a0_l = some r) : Calls Tryz.prog 56 #[v0] w fun e w' => e = .returned (.bool r) ∧ Ext w w' := by
 have hm0 := R_max h0
 obtain ⟨p0, c0, rfl⟩ := R_form h0
 unfold turns_Rising at H
 refine T.enter (args := [_]) (S := Sat w []) Tryz.func56 rfl rfl (Sat.start w) ?_
 refine T.seq fun K1 hK1 => T.region (rA rfl (RS.nil (hK1 _ _ ?_)))
 refine T.seq fun K2 hK2 => T.seq fun K3 hK3 => T.region (rM rfl (rp (Pu.lenSl sl22 rfl) (rM rfl (RS.nil (hK3 _ _ ?_)))))
 refine T.joinE (σ := Unit) (γ := Unit) H Ex.go [] trivial (fun _ _ => []) (fun _ _ => Sat w []) ?_ ?_
 ·rintro ⟨⟩ ⟨⟩ H
  try dsimp only [Ex.then] at H
  refine Cont.conseq (fr' := []) ?_ trivial (fun _ s => s)
  refine id (hK2 _ _ ?_)
  refine T.seq fun K4 hK4 => T.region (rA rfl (RS.nil (hK4 _ _ ?_)))
  obtain rfl := sj H
  refine T.rt (Cont.ret1 rfl rfl fun w' s => ?_)
  exact ⟨rfl, s.ext⟩
 ·intro z1 hz1 HX1 hJ1
  refine T.block ?_
  refine T.loopA (γ := Unit) hz1 [(0, _), (5, _), (6, _)] (fun v2 _ => [(7, .int .i64 v2)]) (fun v2 _ => Sat w []) () ⟨rfl, rfl, rfl, trivial⟩ ⟨rfl, trivial⟩ (fun w s => s) ?_
  rintro v2 ⟨⟩ y3 H hd1 KL1 hL1
  try dsimp only [Ex.then] at H
  refine cq [(7, _), (0, _), (5, _), (6, _)] ?_
  refine T.seq fun K5 hK5 => T.region (rp (Pu.bin rfl rfl rfl) (RS.nil (hK5 _ _ ?_)))
  refine T.seq fun K6 hK6 => ?_
  refine T.condP rfl (fun hc4 => ?_) (fun hc4 => ?_)
  ·have H := ifT hc4 H
   refine T.skip (hK6 _ _ ?_)
   refine T.seq fun K7 hK7 => T.block (T.seq fun K8 hK8 => T.region (rM rfl ?_))
   obtain ⟨g5, H⟩ := gdE H
   obtain ⟨bl6, ol7, rfl⟩ := R_ptr h0 (ne_of_pos (pos_of g5))
   refine rp (Pu.indexSl sl22 rfl rfl g5) ?_
   obtain ⟨c8, hc9, ha10⟩ := R_el (α := Inp) h0 g5
   obtain ⟨u11, rfl, hu11⟩ := hc9
   obtain ⟨p12, cc13, rfl⟩ := R_form hu11
   refine rq (Qt.ldZ (cs := [_, _, _]) ty41 rfl ha10 Held.base rfl) (RS.solid (Sd.alloc zr41 rfl) rfl rfl fun b14 => rA rfl (RS.solid (Sd.stB (cs' := [_, _, _]) 0 ty41 rfl rfl rfl rfl rfl rfl rfl rfl) rfl rfl fun _ => RS.nil (hK8 _ _ (cq [(0, _), (3, _), (4, _), (5, _), (6, _), (7, _)] ?_))))
   refine T.seq fun K9 hK9 => ?_
   refine T.drawn (fun _ => True) [(0, .rd), (1, .rd), (2, .pu), (3, .pu), (4, .pu), (5, .pu), (6, .pu), (7, .pu), (8, .pu), (9, .pu), (10, .pu), (11, .rd), (12, .rd), (13, .rd), (14, .pu), (15, .pu), (16, .pu)] mixed (ClE.sat _ _) (by kernel_rfl) ?_
   refine dq rfl (Qt.ldBA (us := [_, _, _]) 0 ty41 rfl rfl rfl rfl) ?_
   obtain ⟨x15, hx15, H⟩ := bindE H
   refine dq rfl (Qt.call (vs := [.agg #[.int .i64 ((gi a0_l v2).turn), .int .i64 ((gi a0_l v2).player), .slice p12 ((gi a0_l v2).commands).length cc13]]) ent85 rfl fun w s => turns_May_walk (gi a0_l v2) w ((Rd.base hu11) w s) hx15) (dp rfl (Pu.not rfl) (dp rfl (Pu.move rfl) ?_))
   refine RD.joinB H 13 28 (fun b18 => .bool b18) [(0, _), (5, _), (6, _), (7, _)] ⟨rfl, rfl, rfl, rfl, trivial⟩ ?_ ?_
   ·intro b18 H
    refine RD.nil (hK9 _ _ ?_)
    refine T.cond rfl (fun hc19 => ?_) (fun hc19 => ?_)
    ·have H := ifT hc19 H
     refine cq [] ?_
     refine T.seq fun K10 hK10 => T.region (rA rfl (RS.nil (hK10 _ _ ?_)))
     obtain rfl := hd1 _ H
     have H := HX1
     obtain rfl := sj H
     refine T.rt (Cont.ret1 rfl rfl fun w' s => ?_)
     exact ⟨rfl, s.ext⟩
    ·have H := ifB hc19 H
     refine T.skip (hK7 _ _ ?_)
     refine T.region ?_
     obtain ⟨g20, H⟩ := gdE H
     refine rp (Pu.addS rfl rfl g20) (rM rfl (RS.nil (hL1 _ _ (v2 + 1) () H ⟨rfl, rfl, rfl, trivial⟩ ⟨rfl, trivial⟩ (fun w s => s.pick [] (by decide) rfl))))
   ·intro z21 H hJ17
    refine RD.split 15 rfl (fun hc16 => ?_) (fun hc16 => ?_)
    ·have H := ifT hc16 H
     refine dn rfl (dn rfl (dn rfl (dn rfl (dn rfl (dn rfl (dn rfl (dn rfl (dn rfl (dn rfl (dn rfl (dn rfl (dp rfl (Pu.pickT rfl rfl) ?_))))))))))))
     obtain rfl := sj H
     exact hJ17 _ ⟨rfl, rfl, rfl, rfl, rfl, trivial⟩
    ·have H := ifB hc16 H
     refine dp rfl (Pu.move rfl) (dp rfl (Pu.bin rfl rfl rfl) (dp rfl (Pu.move rfl) ?_))
     refine RD.joinB H 9 27 (fun b24 => .bool b24) [(0, _), (3, _), (4, _), (5, _), (6, _), (7, _), (12, _), (13, _), (14, _), (15, _), (16, _), (17, _)] ⟨rfl, rfl, rfl, rfl, rfl, rfl, rfl, rfl, rfl, rfl, rfl, rfl, trivial⟩ ?_ ?_
     ·intro b24 H
      refine dp rfl (Pu.pickF rfl rfl) ?_
      obtain rfl := sj H
      exact hJ17 _ ⟨rfl, rfl, rfl, rfl, rfl, trivial⟩
     ·intro z25 H hJ23
      refine RD.splitP 18 rfl (fun hc22 => ?_) (fun hc22 => ?_)
      ·have H := ifT hc22 H
       refine dp rfl (Pu.move rfl) (dp rfl (Pu.move rfl) ?_)
       obtain ⟨g26, H⟩ := gdE H
       refine dp rfl (Pu.subS rfl rfl g26) ?_
       obtain ⟨g27, H⟩ := gdE H
       refine dp rfl (Pu.indexSl sl22 rfl rfl g27) ?_
       obtain ⟨c28, hc29, ha30⟩ := R_el (α := Inp) h0 g27
       obtain ⟨u31, rfl, hu31⟩ := hc29
       obtain ⟨p32, cc33, rfl⟩ := R_form hu31
       refine dq rfl (Qt.ldZ (cs := [_, _, _]) ty41 rfl ha30 Held.base rfl) (dq rfl (Qt.ldBA (us := [_, _, _]) 0 ty41 rfl rfl rfl rfl) ?_)
       obtain ⟨x34, hx34, H⟩ := bindE H
       refine dq rfl (Qt.call (vs := [.agg #[.int .i64 ((gi a0_l (v2 - 1)).turn), .int .i64 ((gi a0_l (v2 - 1)).player), .slice p32 ((gi a0_l (v2 - 1)).commands).length cc33], .agg #[.int .i64 ((gi a0_l v2).turn), .int .i64 ((gi a0_l v2).player), .slice p12 ((gi a0_l v2).commands).length cc13]]) ent86 rfl fun w s => turns_less_walk (gi a0_l (v2 - 1)) (gi a0_l v2) w  hx34) (dp rfl (Pu.bin rfl rfl rfl) (dp rfl (Pu.pickT rfl rfl) ?_))
       obtain rfl := sj H
       exact hJ23 _ ⟨rfl, rfl, rfl, rfl, rfl, rfl, rfl, rfl, rfl, rfl, rfl, rfl, rfl, trivial⟩
      ·have H := ifF hc22 H
       refine dn rfl (dn rfl (dn rfl (dn rfl (dn rfl (dn rfl (dn rfl (dn rfl (dp rfl (Pu.pickF rfl rfl) ?_))))))))
       obtain rfl := sj H
       exact hJ23 _ ⟨rfl, rfl, rfl, rfl, rfl, rfl, rfl, rfl, rfl, rfl, rfl, rfl, rfl, trivial⟩
  ·have H := ifF hc4 H
   obtain rfl := hd1 _ H
   refine T.xt (hJ1 _ _ () () HX1 trivial trivial (fun w s => s))
theorem turns_All_walk (a0_l : List Inp) (w : World) {v0 : Value} (h0 : R (hpOf w) a0_l [v0]) {r : List Cmd} (H : turns_All a0_l = some r) : Calls Tryz.prog 77 #[v0] w fun e w' => ∃ q1 : (Option Nat × Nat), e = .returned (rowV q1 r.length) ∧ Sat w [drow 88 (rowV q1 r.length) r] w' := by
 have hm0 := R_max h0
 obtain ⟨p0, c0, rfl⟩ := R_form h0
 unfold turns_All at H
 refine T.enter (args := [_]) (S := Sat w []) Tryz.func77 rfl rfl (Sat.start w) ?_
 refine T.seq fun K1 hK1 => T.region (rA rfl (RS.nil (hK1 _ _ ?_)))
 refine T.seq fun K2 hK2 => T.seq fun K3 hK3 => T.region (rM rfl (rp (Pu.lenSl sl22 rfl) (rM rfl (RS.nil (hK3 _ _ ?_)))))
 refine T.joinE (σ := List Cmd) (γ := (Option Nat × Nat)) H (fun s => s) [] trivial (fun v2 q3 => [(2, rowV q3 v2.length)]) (fun v2 q3 => Sat w [drow 88 (rowV q3 v2.length) v2]) ?_ ?_
 ·rintro v2 q3 H
  try dsimp only [Ex.then] at H
  refine Cont.conseq (fr' := [(2, _)]) ?_ ⟨rfl, trivial⟩ (fun _ s => s)
  refine id (hK2 _ _ ?_)
  refine T.seq fun K4 hK4 => T.region (rM rfl (rA rfl (RS.nil (hK4 _ _ ?_))))
  obtain rfl := sj H
  refine T.rt (Cont.ret1 rfl rfl fun w' s => ?_)
  exact ⟨q3, rfl, s.pick [0] (by decide) rfl⟩
 ·intro z1 hz1 HX1 hJ1
  refine T.block ?_
  refine T.loopA (γ := (Option Nat × Nat)) hz1 [(5, _), (6, _)] (fun (l4, v6) q5 => [(2, rowV q5 l4.length), (7, .int .i64 v6)]) (fun (l4, v6) q5 => Sat w [drow 88 (rowV q5 l4.length) l4]) (none, 0) ⟨rfl, rfl, trivial⟩ ⟨rfl, rfl, trivial⟩ (fun w s => (s.nilRowG (α := Cmd) 88).pick [0] (by decide) rfl) ?_
  rintro ⟨l4, v6⟩ q5 y7 H hd1 KL1 hL1
  try dsimp only [Ex.then] at H
  refine cq [(2, _), (7, _), (5, _), (6, _)] ?_
  refine T.seq fun K5 hK5 => T.region (rp (Pu.bin rfl rfl rfl) (RS.nil (hK5 _ _ ?_)))
  refine T.seq fun K6 hK6 => ?_
  refine T.condP rfl (fun hc8 => ?_) (fun hc8 => ?_)
  ·have H := ifT hc8 H
   refine T.skip (hK6 _ _ ?_)
   refine T.seq fun K7 hK7 => T.block (T.seq fun K8 hK8 => T.region ?_)
   obtain ⟨g9, H⟩ := gdE H
   obtain ⟨bl10, ol11, rfl⟩ := R_ptr h0 (ne_of_pos (pos_of g9))
   refine rp (Pu.indexSl sl22 rfl rfl g9) ?_
   obtain ⟨c12, hc13, ha14⟩ := R_el (α := Inp) h0 g9
   obtain ⟨u15, rfl, hu15⟩ := hc13
   obtain ⟨p16, cc17, rfl⟩ := R_form hu15
   refine rq (Qt.ldZ (cs := [_, _, _]) ty41 rfl ha14 Held.base rfl) (RS.solid (Sd.alloc zr41 rfl) rfl rfl fun b18 => RS.solid (Sd.stB (cs' := [_, _, _]) 1 ty41 rfl rfl rfl rfl rfl rfl rfl rfl) rfl rfl fun _ => RS.nil (hK8 _ _ (cq [(2, _), (4, _), (5, _), (6, _), (7, _)] ?_)))
   refine T.region (rM rfl (rp (Pu.fieldAddr fd41_2 rfl) (rq (Qt.ldB 1 ty39 rfl rfl rfl) ?_)))
   obtain ⟨x19, hx19, H⟩ := bindE H
   refine RS.solid (Sd.callN (vs := [.slice p16 ((gi a0_l v6).commands).length cc17]) ent96 rfl (fun w s => command_OwnAll_walk ((gi a0_l v6).commands) w ((Rd.base hu15) w s) hx19)) rfl rfl fun q20 => ?_
   obtain ⟨g22, H⟩ := gdE H
   refine RS.solid (Sd.appD (α := Cmd) 0 2 rfl rfl rfl sl39 zr88 rfl rfl rfl g22 (by decide)) rfl rfl fun q21 => rA rfl (RS.nil (hK7 _ _ (cq [(2, _), (5, _), (6, _), (7, _)] ?_)))
   refine T.region ?_
   obtain ⟨g23, H⟩ := gdE H
   refine rp (Pu.addS rfl rfl g23) (rM rfl (RS.nil (hL1 _ _ ((l4 ++ x19), (v6 + 1)) q21 H ⟨rfl, rfl, trivial⟩ ⟨rfl, rfl, trivial⟩ (fun w s => s.pick [0] (by decide) rfl))))
  ·have H := ifF hc8 H
   obtain rfl := hd1 _ H
   refine T.xt (hJ1 _ _ l4 q5 HX1 trivial ⟨rfl, trivial⟩ (fun w s => s))
theorem turns_Part_walk (a0_l : List Inp) (a1_turn : Int) (w : World) {v0 : Value} (h0 : R (hpOf w) a0_l [v0]) {r : List Inp × List Inp} (H : turns_Part a0_l a1_turn = some r) : Calls Tryz.prog 76 #[v0, .int .i64 a1_turn] w fun e w' => ∃ g : (Option Nat × Nat) × (Option Nat × Nat), e = .returned (.tuple #[rowV g.1 r.1.length, rowV g.2 r.2.length]) ∧ Sat w [drow 41 (rowV g.1 r.1.length) r.1, drow 41 (rowV g.2 r.2.length) r.2] w' := by
 have hm0 := R_max h0
 obtain ⟨p0, c0, rfl⟩ := R_form h0
 unfold turns_Part at H
 refine T.enter (args := [_, _]) (S := Sat w []) Tryz.func76 rfl rfl (Sat.start w) ?_
 refine T.seq fun K1 hK1 => T.region (rA rfl (rA rfl (RS.nil (hK1 _ _ ?_))))
 refine T.seq fun K2 hK2 => T.seq fun K3 hK3 => T.region (rM rfl (rp (Pu.lenSl sl22 rfl) (rM rfl (RS.nil (hK3 _ _ ?_)))))
 refine T.joinE (σ := List Inp × List Inp) (γ := (Option Nat × Nat) × (Option Nat × Nat)) H (fun s => s) [] trivial (fun (v2, v4) (q3, q5) => [(4, rowV q3 v2.length), (5, rowV q5 v4.length)]) (fun (v2, v4) (q3, q5) => Sat w [drow 41 (rowV q3 v2.length) v2, drow 41 (rowV q5 v4.length) v4]) ?_ ?_
 ·rintro ⟨v2, v4⟩ ⟨q3, q5⟩ H
  try dsimp only [Ex.then] at H
  refine Cont.conseq (fr' := [(4, _), (5, _)]) ?_ ⟨rfl, rfl, trivial⟩ (fun _ s => s)
  refine id (hK2 _ _ ?_)
  refine T.seq fun K4 hK4 => T.region (rM rfl (rM rfl (rA rfl (rA rfl (RS.nil (hK4 _ _ ?_))))))
  obtain rfl := sj H
  refine T.rt (Cont.ret2 rfl rfl rfl fun w' s => ?_)
  exact ⟨⟨q3, q5⟩, rfl, s.pick [0, 1] (by decide) rfl⟩
 ·intro z1 hz1 HX1 hJ1
  refine T.block ?_
  refine T.loopA (γ := (Option Nat × Nat) × (Option Nat × Nat)) hz1 [(1, _), (8, _), (9, _)] (fun (l6, l8, v10) (q7, q9) => [(4, rowV q7 l6.length), (5, rowV q9 l8.length), (10, .int .i64 v10)]) (fun (l6, l8, v10) (q7, q9) => Sat w [drow 41 (rowV q7 l6.length) l6, drow 41 (rowV q9 l8.length) l8]) ((none, 0), (none, 0)) ⟨rfl, rfl, rfl, trivial⟩ ⟨rfl, rfl, rfl, trivial⟩ (fun w s => ((s.nilRowG (α := Inp) 41).nilRowG (α := Inp) 41).pick [0, 1] (by decide) rfl) ?_
  rintro ⟨l6, l8, v10⟩ ⟨q7, q9⟩ y11 H hd1 KL1 hL1
  try dsimp only [Ex.then] at H
  refine cq [(4, _), (5, _), (10, _), (1, _), (8, _), (9, _)] ?_
  refine T.seq fun K5 hK5 => T.region (rp (Pu.bin rfl rfl rfl) (RS.nil (hK5 _ _ ?_)))
  refine T.seq fun K6 hK6 => ?_
  refine T.condP rfl (fun hc12 => ?_) (fun hc12 => ?_)
  ·have H := ifT hc12 H
   refine T.skip (hK6 _ _ ?_)
   refine T.seq fun K7 hK7 => T.block (T.seq fun K8 hK8 => T.region ?_)
   obtain ⟨g13, H⟩ := gdE H
   obtain ⟨bl14, ol15, rfl⟩ := R_ptr h0 (ne_of_pos (pos_of g13))
   refine rp (Pu.indexSl sl22 rfl rfl g13) ?_
   obtain ⟨c16, hc17, ha18⟩ := R_el (α := Inp) h0 g13
   obtain ⟨u19, rfl, hu19⟩ := hc17
   obtain ⟨p20, cc21, rfl⟩ := R_form hu19
   refine rq (Qt.ldZ (cs := [_, _, _]) ty41 rfl ha18 Held.base rfl) (RS.solid (Sd.alloc zr41 rfl) rfl rfl fun b22 => RS.solid (Sd.stB (cs' := [_, _, _]) 2 ty41 rfl rfl rfl rfl rfl rfl rfl rfl) rfl rfl fun _ => RS.nil (hK8 _ _ (cq [(1, _), (4, _), (5, _), (7, _), (8, _), (9, _), (10, _)] ?_)))
   refine T.seq fun K9 hK9 => T.region (rp (Pu.fieldAddr fd41_0 rfl) (rq (Qt.ldB 2 ty3 rfl rfl rfl) (rM rfl (rp (Pu.bin rfl rfl rfl) (RS.nil (hK9 _ _ ?_))))))
   refine T.condP rfl (fun hc23 => ?_) (fun hc23 => ?_)
   ·have H := ifT hc23 H
    refine cq [(1, _), (4, _), (5, _), (7, _), (8, _), (9, _), (10, _)] ?_
    refine T.region (rM rfl (rq (Qt.ldBA (us := [_, _, _]) 2 ty41 rfl rfl rfl rfl) ?_))
    obtain ⟨x24, hx24, H⟩ := bindE H
    refine RS.solid (Sd.callN (vs := [.agg #[.int .i64 ((gi a0_l v10).turn), .int .i64 ((gi a0_l v10).player), .slice p20 ((gi a0_l v10).commands).length cc21]]) ent69 rfl (fun w s => turns_Own_walk (gi a0_l v10) w ((Rd.base hu19) w s) hx24)) rfl rfl fun q25 => RS.solid (Sd.litS (cs := [_, _, _]) sl22 zr41 rfl rfl rfl rfl rfl) rfl rfl fun b26 => ?_
    obtain ⟨g28, H⟩ := gdE H
    refine RS.solid (Sd.pre (fun w s => (Sat.starAt 3 5 (Sat.starAt 3 6 ((s.noStars).noStars) rfl rfl (by decide)) rfl rfl (by decide))) (Sd.appL (α := Inp) 0 4 3 ([x24] : List Inp) rfl rfl rfl (DRF.cons' (α := Inp) (x := x24) (fun _ h => ⟨_, rfl, h⟩) DRF.nil') rfl sl22 zr41 rfl rfl rfl rfl g28 (by decide))) rfl rfl fun q27 => rA rfl (RS.nil (hK7 _ _ (cq [(1, _), (4, _), (5, _), (8, _), (9, _), (10, _)] ?_)))
    refine T.region ?_
    obtain ⟨g29, H⟩ := gdE H
    refine rp (Pu.addS rfl rfl g29) (rM rfl (RS.nil (hL1 _ _ ((l6 ++ ([x24] : List Inp)), l8, (v10 + 1)) (q27, q9) H ⟨rfl, rfl, rfl, trivial⟩ ⟨rfl, rfl, rfl, trivial⟩ (fun w s => s.pick [0, 1] (by decide) rfl))))
   ·have H := ifF hc23 H
    refine cq [(1, _), (4, _), (5, _), (7, _), (8, _), (9, _), (10, _)] ?_
    refine T.region (rM rfl (rq (Qt.ldBA (us := [_, _, _]) 2 ty41 rfl rfl rfl rfl) ?_))
    obtain ⟨x30, hx30, H⟩ := bindE H
    refine RS.solid (Sd.callN (vs := [.agg #[.int .i64 ((gi a0_l v10).turn), .int .i64 ((gi a0_l v10).player), .slice p20 ((gi a0_l v10).commands).length cc21]]) ent69 rfl (fun w s => turns_Own_walk (gi a0_l v10) w ((Rd.base hu19) w s) hx30)) rfl rfl fun q31 => RS.solid (Sd.litS (cs := [_, _, _]) sl22 zr41 rfl rfl rfl rfl rfl) rfl rfl fun b32 => ?_
    obtain ⟨g34, H⟩ := gdE H
    refine RS.solid (Sd.pre (fun w s => (Sat.starAt 3 5 (Sat.starAt 3 6 ((s.noStars).noStars) rfl rfl (by decide)) rfl rfl (by decide))) (Sd.appL (α := Inp) 1 4 3 ([x30] : List Inp) rfl rfl rfl (DRF.cons' (α := Inp) (x := x30) (fun _ h => ⟨_, rfl, h⟩) DRF.nil') rfl sl22 zr41 rfl rfl rfl rfl g34 (by decide))) rfl rfl fun q33 => rA rfl (RS.nil (hK7 _ _ (cq [(1, _), (4, _), (5, _), (8, _), (9, _), (10, _)] ?_)))
    refine T.region ?_
    obtain ⟨g35, H⟩ := gdE H
    refine rp (Pu.addS rfl rfl g35) (rM rfl (RS.nil (hL1 _ _ (l6, (l8 ++ ([x30] : List Inp)), (v10 + 1)) (q7, q33) H ⟨rfl, rfl, rfl, trivial⟩ ⟨rfl, rfl, rfl, trivial⟩ (fun w s => s.pick [0, 1] (by decide) rfl))))
  ·have H := ifF hc12 H
   obtain rfl := hd1 _ H
   refine T.xt (hJ1 _ _ (l6, l8) (q7, q9) HX1 trivial ⟨rfl, rfl, trivial⟩ (fun w s => s))
theorem throngref17_May_walk (a0_p : Vec) (a1_r : Int) (w : World) {r : Bool} (H : throngref17_May a0_p a1_r = some r) : Calls Tryz.prog 99 #[.agg #[.int .i64 a0_p.x, .int .i64 a0_p.y], .int .i64 a1_r] w fun e w' => e = .returned (.bool r) ∧ Ext w w' := by
 unfold throngref17_May at H
 refine T.enter (args := [_, _]) (S := Sat w []) Tryz.func99 rfl rfl (Sat.start w) ?_
 refine T.seq fun K1 hK1 => T.region (RS.solid (Sd.box (cs := [_, _]) rfl rfl) rfl rfl fun b1 => rA rfl (RS.nil (hK1 _ _ ?_)))
 refine T.seq fun K2 hK2 => T.region (rM rfl (rp (Pu.bin rfl rfl rfl) (rM rfl ?_)))
 refine RS.joinV 3 10 (.bool (decide ((0 ≤ a1_r) ∧ (a1_r ≤ 262144)))) [(2, _), (4, _)] ⟨rfl, rfl, trivial⟩ ?_ ?_
 ·refine rM rfl ?_
  refine RS.joinV 4 15 (.bool (decide (((0 ≤ a1_r) ∧ (a1_r ≤ 262144)) ∧ ((-1099511627776) ≤ a0_p.x)))) [(2, _), (4, _)] ⟨rfl, rfl, trivial⟩ ?_ ?_
  ·refine rM rfl ?_
   refine RS.joinV 4 20 (.bool (decide ((((0 ≤ a1_r) ∧ (a1_r ≤ 262144)) ∧ ((-1099511627776) ≤ a0_p.x)) ∧ (a0_p.x ≤ 1099511627776)))) [(2, _), (4, _)] ⟨rfl, rfl, trivial⟩ ?_ ?_
   ·refine rM rfl ?_
    refine RS.joinV 4 25 (.bool (decide (((((0 ≤ a1_r) ∧ (a1_r ≤ 262144)) ∧ ((-1099511627776) ≤ a0_p.x)) ∧ (a0_p.x ≤ 1099511627776)) ∧ ((-1099511627776) ≤ a0_p.y)))) [(2, _), (4, _)] ⟨rfl, rfl, trivial⟩ ?_ ?_
    ·refine rM rfl ?_
     refine RS.joinV 4 30 (.bool (decide ((((((0 ≤ a1_r) ∧ (a1_r ≤ 262144)) ∧ ((-1099511627776) ≤ a0_p.x)) ∧ (a0_p.x ≤ 1099511627776)) ∧ ((-1099511627776) ≤ a0_p.y)) ∧ (a0_p.y ≤ 1099511627776)))) [(4, _)] ⟨rfl, trivial⟩ ?_ ?_
     ·refine rA rfl (RS.nil (hK2 _ _ ?_))
      obtain rfl := sj H
      refine T.rt (Cont.ret1 rfl rfl fun w' s => ?_)
      exact ⟨rfl, s.ext⟩
     ·intro hJ11
      refine RS.splitP 26 rfl (fun hc10 => ?_) (fun hc10 => ?_)
      ·refine rp (Pu.fieldAddr fd86_1 rfl) (rq (Qt.ldB 0 ty2 rfl rfl rfl) (rp (Pu.bin rfl rfl rfl) (rp (Pu.pickT rfl rfl) ?_)))
       exact hJ11 _ _ ⟨dAndT hc10, rfl, trivial⟩ (fun w s => s)
      ·refine ro (ro (ro (rp (Pu.pickF rfl rfl) ?_)))
       exact hJ11 _ _ ⟨dAndF hc10, rfl, trivial⟩ (fun w s => s)
    ·intro hJ9
     refine RS.splitP 21 rfl (fun hc8 => ?_) (fun hc8 => ?_)
     ·refine rp (Pu.fieldAddr fd86_1 rfl) (rq (Qt.ldB 0 ty2 rfl rfl rfl) (rp (Pu.bin rfl rfl rfl) (rp (Pu.pickT rfl rfl) ?_)))
      exact hJ9 _ _ ⟨dAndT hc8, rfl, rfl, trivial⟩ (fun w s => s)
     ·refine ro (ro (ro (rp (Pu.pickF rfl rfl) ?_)))
      exact hJ9 _ _ ⟨dAndF hc8, rfl, rfl, trivial⟩ (fun w s => s)
   ·intro hJ7
    refine RS.splitP 16 rfl (fun hc6 => ?_) (fun hc6 => ?_)
    ·refine rp (Pu.fieldAddr fd86_0 rfl) (rq (Qt.ldB 0 ty2 rfl rfl rfl) (rp (Pu.bin rfl rfl rfl) (rp (Pu.pickT rfl rfl) ?_)))
     exact hJ7 _ _ ⟨dAndT hc6, rfl, rfl, trivial⟩ (fun w s => s)
    ·refine ro (ro (ro (rp (Pu.pickF rfl rfl) ?_)))
     exact hJ7 _ _ ⟨dAndF hc6, rfl, rfl, trivial⟩ (fun w s => s)
  ·intro hJ5
   refine RS.splitP 11 rfl (fun hc4 => ?_) (fun hc4 => ?_)
   ·refine rp (Pu.fieldAddr fd86_0 rfl) (rq (Qt.ldB 0 ty2 rfl rfl rfl) (rp (Pu.bin rfl rfl rfl) (rp (Pu.pickT rfl rfl) ?_)))
    exact hJ5 _ _ ⟨dAndT hc4, rfl, rfl, trivial⟩ (fun w s => s)
   ·refine ro (ro (ro (rp (Pu.pickF rfl rfl) ?_)))
    exact hJ5 _ _ ⟨dAndF hc4, rfl, rfl, trivial⟩ (fun w s => s)
 ·intro hJ3
  refine RS.splitP 7 rfl (fun hc2 => ?_) (fun hc2 => ?_)
  ·refine rM rfl (rp (Pu.bin rfl rfl rfl) (rp (Pu.pickT rfl rfl) ?_))
   exact hJ3 _ _ ⟨dAndT hc2, rfl, rfl, trivial⟩ (fun w s => s)
  ·refine ro (ro (rp (Pu.pickF rfl rfl) ?_))
   exact hJ3 _ _ ⟨dAndF hc2, rfl, rfl, trivial⟩ (fun w s => s)
theorem throngref21_ids_walk (a0_l : List Int) (w : World) {v0 : Value} (h0 : R (hpOf w) a0_l [v0]) {r : Bool} (H : throngref21_ids a0_l = some r) : Calls Tryz.prog 100 #[v0] w fun e w' => e = .returned (.bool r) ∧ Ext w w' := by
 have hm0 := R_max h0
 obtain ⟨p0, c0, rfl⟩ := R_form h0
 unfold throngref21_ids at H
 refine T.enter (args := [_]) (S := Sat w []) Tryz.func100 rfl rfl (Sat.start w) ?_
 refine T.seq fun K1 hK1 => T.region (rA rfl (RS.nil (hK1 _ _ ?_)))
 refine T.seq fun K2 hK2 => T.region (rM rfl (rp (Pu.lenSl sl23 rfl) (rp (Pu.bin rfl rfl rfl) (rM rfl ?_))))
 refine RS.joinV 4 10 (.bool (decide ((1 ≤ (a0_l.length : Int)) ∧ ((a0_l.length : Int) ≤ 64)))) [(0, _), (2, _)] ⟨rfl, rfl, trivial⟩ ?_ ?_
 ·refine rM rfl ?_
  refine RS.joinB H 3 14 (fun b5 => .bool b5) [(0, _), (2, _)] ⟨rfl, rfl, trivial⟩ ?_ ?_
  ·intro b5 H
   refine rM rfl ?_
   refine RS.joinB H 3 18 (fun b8 => .bool b8) [(2, _)] ⟨rfl, trivial⟩ ?_ ?_
   ·intro b8 H
    refine rA rfl (RS.nil (hK2 _ _ ?_))
    obtain rfl := sj H
    refine T.rt (Cont.ret1 rfl rfl fun w' s => ?_)
    exact ⟨rfl, s.ext⟩
   ·intro z9 H hJ7
    refine RS.split 15 rfl (fun hc6 => ?_) (fun hc6 => ?_)
    ·have H := ifT hc6 H
     refine rM rfl ?_
     obtain ⟨x10, hx10, H⟩ := bindE H
     refine rq (Qt.call (vs := [.slice p0 a0_l.length c0, .int .i64 1, .int .i64 1099511627776]) ent24 rfl fun w s => throngref0_Between_walk a0_l 1 1099511627776 w ((Rd.base h0) w s) hx10) (rp (Pu.pickT rfl rfl) ?_)
     obtain rfl := sj H
     exact hJ7 _ _ ⟨rfl, rfl, trivial⟩ (fun w s => s)
    ·have H := ifB hc6 H
     refine ro (ro (rp (Pu.pickF rfl rfl) ?_))
     obtain rfl := sj H
     exact hJ7 _ _ ⟨rfl, rfl, trivial⟩ (fun w s => s)
  ·intro z11 H hJ4
   refine RS.splitP 11 rfl (fun hc3 => ?_) (fun hc3 => ?_)
   ·have H := ifT hc3 H
    refine rM rfl ?_
    obtain ⟨x12, hx12, H⟩ := bindE H
    refine rq (Qt.call (vs := [.slice p0 a0_l.length c0]) ent112 rfl fun w s => throngref0_Rising_walk a0_l w ((Rd.base h0) w s) hx12) (rp (Pu.pickT rfl rfl) ?_)
    obtain rfl := sj H
    exact hJ4 _ _ ⟨rfl, rfl, rfl, trivial⟩ (fun w s => s)
   ·have H := ifF hc3 H
    refine ro (ro (rp (Pu.pickF rfl rfl) ?_))
    obtain rfl := sj H
    exact hJ4 _ _ ⟨rfl, rfl, rfl, trivial⟩ (fun w s => s)
 ·intro hJ2
  refine RS.splitP 6 rfl (fun hc1 => ?_) (fun hc1 => ?_)
  ·refine rM rfl (rp (Pu.lenSl sl23 rfl) (rp (Pu.bin rfl rfl rfl) (rp (Pu.pickT rfl rfl) ?_)))
   exact hJ2 _ _ ⟨dAndT hc1, rfl, rfl, trivial⟩ (fun w s => s)
  ·refine ro (ro (ro (rp (Pu.pickF rfl rfl) ?_)))
   exact hJ2 _ _ ⟨dAndF hc1, rfl, rfl, trivial⟩ (fun w s => s)
theorem throngref21_tile_walk (a0_t : Int) (w : World) {r : Bool} (H : throngref21_tile a0_t = some r) : Calls Tryz.prog 101 #[.int .i64 a0_t] w fun e w' => e = .returned (.bool r) ∧ Ext w w' := by
 unfold throngref21_tile at H
 refine T.enter (args := [_]) (S := Sat w []) Tryz.func101 rfl rfl (Sat.start w) ?_
 refine T.seq fun K1 hK1 => T.region (rA rfl (RS.nil (hK1 _ _ ?_)))
 refine T.seq fun K2 hK2 => T.region (rM rfl (rp (Pu.bin rfl rfl rfl) (rM rfl ?_)))
 refine RS.joinV 3 8 (.bool (decide ((0 ≤ a0_t) ∧ (a0_t < 16384)))) [(2, _)] ⟨rfl, trivial⟩ ?_ ?_
 ·refine rA rfl (RS.nil (hK2 _ _ ?_))
  obtain rfl := sj H
  refine T.rt (Cont.ret1 rfl rfl fun w' s => ?_)
  exact ⟨rfl, s.ext⟩
 ·intro hJ2
  refine RS.splitP 5 rfl (fun hc1 => ?_) (fun hc1 => ?_)
  ·refine rM rfl (rp (Pu.bin rfl rfl rfl) (rp (Pu.pickT rfl rfl) ?_))
   exact hJ2 _ _ ⟨dAndT hc1, rfl, trivial⟩ (fun w s => s)
  ·refine ro (ro (rp (Pu.pickF rfl rfl) ?_))
   exact hJ2 _ _ ⟨dAndF hc1, rfl, trivial⟩ (fun w s => s)
theorem throngref21_id_walk (a0_n : Int) (w : World) {r : Bool} (H : throngref21_id a0_n = some r) : Calls Tryz.prog 102 #[.int .i64 a0_n] w fun e w' => e = .returned (.bool r) ∧ Ext w w' := by
 unfold throngref21_id at H
 refine T.enter (args := [_]) (S := Sat w []) Tryz.func102 rfl rfl (Sat.start w) ?_
 refine T.seq fun K1 hK1 => T.region (rA rfl (RS.nil (hK1 _ _ ?_)))
 refine T.seq fun K2 hK2 => T.region (rM rfl (rp (Pu.bin rfl rfl rfl) (rM rfl ?_)))
 refine RS.joinV 3 8 (.bool (decide ((1 ≤ a0_n) ∧ (a0_n ≤ 1099511627776)))) [(2, _)] ⟨rfl, trivial⟩ ?_ ?_
 ·refine rA rfl (RS.nil (hK2 _ _ ?_))
  obtain rfl := sj H
  refine T.rt (Cont.ret1 rfl rfl fun w' s => ?_)
  exact ⟨rfl, s.ext⟩
 ·intro hJ2
  refine RS.splitP 5 rfl (fun hc1 => ?_) (fun hc1 => ?_)
  ·refine rM rfl (rp (Pu.bin rfl rfl rfl) (rp (Pu.pickT rfl rfl) ?_))
   exact hJ2 _ _ ⟨dAndT hc1, rfl, trivial⟩ (fun w s => s)
  ·refine ro (ro (rp (Pu.pickF rfl rfl) ?_))
   exact hJ2 _ _ ⟨dAndF hc1, rfl, trivial⟩ (fun w s => s)
theorem throngref21_Command_walk (a0_c : Cmd) (w : World) {v0 : Value} (h0 : R (hpOf w) a0_c.units [v0]) {r : Bool} (H : throngref21_Command a0_c = some r) : Calls Tryz.prog 84 #[.agg #[.int .i64 a0_c.player, .int .i64 a0_c.seq, .int .i64 a0_c.kind, .int .i64 a0_c.n, v0, .int .i64 a0_c.tile, .int .i64 a0_c.w, .int .i64 a0_c.h, .int .i64 a0_c.pos.x, .int .i64 a0_c.pos.y]] w fun e w' => e = .returned (.bool r) ∧ Ext w w' := by
 have hm0 := R_max h0
 obtain ⟨p0, c0, rfl⟩ := R_form h0
 unfold throngref21_Command at H
 refine T.enter (args := [_]) (S := Sat w []) Tryz.func84 rfl rfl (Sat.start w) ?_
 refine T.seq fun K1 hK1 => T.region (RS.solid (Sd.box (cs := [_, _, _, _, _, _, _, _, _, _]) rfl rfl) rfl rfl fun b1 => rA rfl (RS.nil (hK1 _ _ ?_)))
 refine T.seq fun K2 hK2 => T.region (rp (Pu.fieldAddr fd88_0 rfl) (rq (Qt.ldB 0 ty3 rfl rfl rfl) (rp (Pu.fieldAddr fd88_1 rfl) (rq (Qt.ldB 0 ty3 rfl rfl rfl) (rp (Pu.fieldAddr fd88_2 rfl) (rq (Qt.ldB 0 ty3 rfl rfl rfl) (rp (Pu.build (cells := [_, _, _, _, _, _, _, _, _, _]) st88 rfl rfl) (RS.solid (Sd.alloc zr88 rfl) rfl rfl fun b2 => RS.solid (Sd.stB (cs' := [_, _, _, _, _, _, _, _, _, _]) 1 ty88 rfl rfl rfl rfl rfl rfl rfl rfl) rfl rfl fun _ => RS.nil (hK2 _ _ (cq [(1, _), (3, _)] ?_))))))))))
 refine T.seq fun K3 hK3 => T.region (rp (Pu.fieldAddr fd88_0 rfl) (rq (Qt.ldB 0 ty3 rfl rfl rfl) (rp (Pu.bin rfl rfl rfl) (rM rfl ?_))))
 refine RS.joinV 4 19 (.bool (decide ((1 ≤ a0_c.player) ∧ (a0_c.player ≤ 8)))) [(1, _), (3, _)] ⟨rfl, rfl, trivial⟩ ?_ ?_
 ·refine rM rfl ?_
  refine RS.joinB H 4 24 (fun b7 => .bool b7) [(1, _), (3, _)] ⟨rfl, rfl, trivial⟩ ?_ ?_
  ·intro b7 H
   refine rA rfl (RS.nil (hK3 _ _ ?_))
   refine T.seq fun K4 hK4 => T.seq fun K5 hK5 => T.region (rp (Pu.fieldAddr fd88_2 rfl) (rq (Qt.ldB 0 ty3 rfl rfl rfl) (RS.nil (hK5 _ _ ?_))))
   refine T.block (T.seq fun K6 hK6 => T.region (rp (Pu.bin rfl rfl rfl) (rA rfl (RS.nil (hK6 _ _ ?_)))))
   refine T.condP rfl (fun hc8 => ?_) (fun hc8 => ?_)
   ·have H := ifT hc8 H
    refine cq [(1, _), (3, _), (4, _)] ?_
    refine T.seq fun K7 hK7 => ?_
    refine T.drawnS [0] [(0, .pu), (1, .rd), (2, .pu), (3, .wk), (4, .pu), (5, .br), (6, .pu), (7, .br)] mixed (by kernel_rfl) rfl ?_
    refine RD.p (fun w s => s.pick [0] (by decide) rfl) rfl (Pu.fieldAddr fd88_3 rfl) rfl rfl (RD.q (fun w s => s.pick [0] (by decide) rfl) rfl (Qt.ldB 0 ty3 rfl rfl rfl) rfl rfl (RD.p (fun w s => s.pick [0] (by decide) rfl) rfl (Pu.fieldAddr fd88_8 rfl) rfl rfl ?_))
    refine RD.w (fun w s => s.pick [0] (by decide) rfl) rfl (Qt.ldBA (us := [_, _]) 0 ty86 rfl rfl rfl rfl) rfl rfl ?_
    refine RD.p (fun w s => s.pick [0] (by decide) rfl) rfl (Pu.fieldAddr fd88_3 rfl) rfl rfl (RD.solid rfl (.inr rfl) rfl rfl (Sd.stB (cs' := [_, _, _, _, _, _, _, _, _, _]) 1 ty3 rfl rfl rfl rfl rfl rfl rfl rfl) (fun _ => ClE.sat _ _) (fun _ w s => s.pick [0] (by decide) rfl) (fun h => nomatch h) fun _ => ?_)
    refine RD.p (fun w s => s.pick [0] (by decide) rfl) rfl (Pu.fieldAddr fd88_8 rfl) rfl rfl (RD.solid rfl (.inr rfl) rfl rfl (Sd.stB (cs' := [_, _, _, _, _, _, _, _, _, _]) 1 ty86 rfl rfl rfl rfl rfl rfl rfl rfl) (fun _ => ClE.sat _ _) (fun _ w s => s.pick [0] (by decide) rfl) (fun h => nomatch h) fun _ => ?_)
    refine RD.nil (hK7 _ _ (cq [(1, _), (3, _), (4, _)] ?_))
    refine T.region (rM rfl (rM rfl ?_))
    refine RS.joinB H 4 40 (fun b11 => .bool b11) [(1, _), (3, _), (4, _)] ⟨rfl, rfl, rfl, trivial⟩ ?_ ?_
    ·intro b11 H
     refine rM rfl ?_
     refine RS.joinB H 4 45 (fun b14 => .bool b14) [(1, _), (3, _), (4, _)] ⟨rfl, rfl, rfl, trivial⟩ ?_ ?_
     ·intro b14 H
      refine rA rfl (RS.nil (hK4 _ _ ?_))
      refine T.seq fun K8 hK8 => T.region (rM rfl (rM rfl ?_))
      refine RS.joinB H 4 167 (fun b17 => .bool b17) [] trivial ?_ ?_
      ·intro b17 H
       refine rA rfl (RS.nil (hK8 _ _ ?_))
       obtain rfl := sj H
       refine T.rt (Cont.ret1 rfl rfl fun w' s => ?_)
       exact ⟨rfl, s.ext⟩
      ·intro z18 H hJ16
       refine RS.split 163 rfl (fun hc15 => ?_) (fun hc15 => ?_)
       ·have H := ifT hc15 H
        refine rq (Qt.ldBA (us := [_, _, _, _, _, _, _, _, _, _]) 1 ty88 rfl rfl rfl rfl) (rq (Qt.ldBA (us := [_, _, _, _, _, _, _, _, _, _]) 0 ty88 rfl rfl rfl rfl) ?_)
        obtain ⟨x19, hx19, H⟩ := bindE H
        refine rq (Qt.call (vs := [.agg #[.int .i64 a0_c.player, .int .i64 a0_c.seq, .int .i64 a0_c.kind, .int .i64 a0_c.n, .slice none 0 0, .int .i64 0, .int .i64 0, .int .i64 0, .int .i64 a0_c.pos.x, .int .i64 a0_c.pos.y], .agg #[.int .i64 a0_c.player, .int .i64 a0_c.seq, .int .i64 a0_c.kind, .int .i64 a0_c.n, .slice p0 a0_c.units.length c0, .int .i64 a0_c.tile, .int .i64 a0_c.w, .int .i64 a0_c.h, .int .i64 a0_c.pos.x, .int .i64 a0_c.pos.y]]) ent78 rfl fun w s => throngref0_EqCommand_walk (⟨a0_c.player, a0_c.seq, a0_c.kind, a0_c.n, [], 0, 0, 0, a0_c.pos⟩ : Cmd) a0_c w ((Rd.nil (α := Int)) w s) ((Rd.base h0) w s) hx19) (rp (Pu.pickT rfl rfl) ?_)
        obtain rfl := sj H
        exact hJ16 _ _ ⟨rfl, trivial⟩ (fun w s => s)
       ·have H := ifB hc15 H
        refine ro (ro (ro (rp (Pu.pickF rfl rfl) ?_)))
        obtain rfl := sj H
        exact hJ16 _ _ ⟨rfl, trivial⟩ (fun w s => s)
     ·intro z20 H hJ13
      refine RS.split 41 rfl (fun hc12 => ?_) (fun hc12 => ?_)
      ·have H := ifT hc12 H
       refine rp (Pu.fieldAddr fd88_8 rfl) (rq (Qt.ldBA (us := [_, _]) 0 ty86 rfl rfl rfl rfl) ?_)
       obtain ⟨x21, hx21, H⟩ := bindE H
       refine rq (Qt.call (vs := [.agg #[.int .i64 a0_c.pos.x, .int .i64 a0_c.pos.y], .int .i64 0]) ent99 rfl fun w s => throngref17_May_walk a0_c.pos 0 w  hx21) (rp (Pu.pickT rfl rfl) ?_)
       obtain rfl := sj H
       exact hJ13 _ _ ⟨rfl, rfl, rfl, rfl, trivial⟩ (fun w s => s)
      ·have H := ifB hc12 H
       refine ro (ro (ro (rp (Pu.pickF rfl rfl) ?_)))
       obtain rfl := sj H
       exact hJ13 _ _ ⟨rfl, rfl, rfl, rfl, trivial⟩ (fun w s => s)
    ·intro z22 H hJ10
     refine RS.split 36 rfl (fun hc9 => ?_) (fun hc9 => ?_)
     ·have H := ifT hc9 H
      refine rp (Pu.fieldAddr fd88_3 rfl) (rq (Qt.ldB 0 ty3 rfl rfl rfl) ?_)
      obtain ⟨x23, hx23, H⟩ := bindE H
      refine rq (Qt.call (vs := [.int .i64 a0_c.n, .int .i64 3]) ent22 rfl fun w s => throngref0_Num_walk a0_c.n 3 w  hx23) (rp (Pu.pickT rfl rfl) ?_)
      obtain rfl := sj H
      exact hJ10 _ _ ⟨rfl, rfl, rfl, rfl, trivial⟩ (fun w s => s)
     ·have H := ifB hc9 H
      refine ro (ro (ro (rp (Pu.pickF rfl rfl) ?_)))
      obtain rfl := sj H
      exact hJ10 _ _ ⟨rfl, rfl, rfl, rfl, trivial⟩ (fun w s => s)
   ·have H := ifF hc8 H
    refine cq [(1, _), (3, _), (4, _), (26, _)] ?_
    refine T.seq fun K9 hK9 => T.region (rp (Pu.bin rfl rfl rfl) (rA rfl (RS.nil (hK9 _ _ ?_))))
    refine T.condP rfl (fun hc24 => ?_) (fun hc24 => ?_)
    ·have H := ifT hc24 H
     refine cq [(1, _), (3, _), (4, _)] ?_
     refine T.seq fun K10 hK10 => ?_
     refine T.drawnS [0] [(0, .pu), (1, .rd), (2, .pu), (3, .wk), (4, .pu), (5, .br), (6, .pu), (7, .br)] mixed (by kernel_rfl) rfl ?_
     refine RD.p (fun w s => s.pick [0] (by decide) rfl) rfl (Pu.fieldAddr fd88_4 rfl) rfl rfl (RD.q (fun w s => s.pick [0] (by decide) rfl) rfl (Qt.ldB 0 ty23 rfl rfl rfl) rfl rfl (RD.p (fun w s => s.pick [0] (by decide) rfl) rfl (Pu.fieldAddr fd88_5 rfl) rfl rfl ?_))
     refine RD.w (fun w s => s.pick [0] (by decide) rfl) rfl (Qt.ldB 0 ty3 rfl rfl rfl) rfl rfl ?_
     refine RD.p (fun w s => s.pick [0] (by decide) rfl) rfl (Pu.fieldAddr fd88_4 rfl) rfl rfl (RD.solid rfl (.inr rfl) rfl rfl (Sd.stB (cs' := [_, _, _, _, _, _, _, _, _, _]) 1 ty23 rfl rfl rfl rfl rfl rfl rfl rfl) (fun _ => ClE.sat _ _) (fun _ w s => s.pick [0] (by decide) rfl) (fun h => nomatch h) fun _ => ?_)
     refine RD.p (fun w s => s.pick [0] (by decide) rfl) rfl (Pu.fieldAddr fd88_5 rfl) rfl rfl (RD.solid rfl (.inr rfl) rfl rfl (Sd.stB (cs' := [_, _, _, _, _, _, _, _, _, _]) 1 ty3 rfl rfl rfl rfl rfl rfl rfl rfl) (fun _ => ClE.sat _ _) (fun _ w s => s.pick [0] (by decide) rfl) (fun h => nomatch h) fun _ => ?_)
     refine RD.nil (hK10 _ _ (cq [(1, _), (3, _), (4, _)] ?_))
     refine T.region (rM rfl (rM rfl ?_))
     refine RS.joinB H 4 59 (fun b27 => .bool b27) [(1, _), (3, _), (4, _)] ⟨rfl, rfl, rfl, trivial⟩ ?_ ?_
     ·intro b27 H
      refine rM rfl ?_
      refine RS.joinB H 4 64 (fun b30 => .bool b30) [(1, _), (3, _), (4, _)] ⟨rfl, rfl, rfl, trivial⟩ ?_ ?_
      ·intro b30 H
       refine rA rfl (RS.nil (hK4 _ _ ?_))
       refine T.seq fun K11 hK11 => T.region (rM rfl (rM rfl ?_))
       refine RS.joinB H 4 167 (fun b33 => .bool b33) [] trivial ?_ ?_
       ·intro b33 H
        refine rA rfl (RS.nil (hK11 _ _ ?_))
        obtain rfl := sj H
        refine T.rt (Cont.ret1 rfl rfl fun w' s => ?_)
        exact ⟨rfl, s.ext⟩
       ·intro z34 H hJ32
        refine RS.split 163 rfl (fun hc31 => ?_) (fun hc31 => ?_)
        ·have H := ifT hc31 H
         refine rq (Qt.ldBA (us := [_, _, _, _, _, _, _, _, _, _]) 1 ty88 rfl rfl rfl rfl) (rq (Qt.ldBA (us := [_, _, _, _, _, _, _, _, _, _]) 0 ty88 rfl rfl rfl rfl) ?_)
         obtain ⟨x35, hx35, H⟩ := bindE H
         refine rq (Qt.call (vs := [.agg #[.int .i64 a0_c.player, .int .i64 a0_c.seq, .int .i64 a0_c.kind, .int .i64 0, .slice p0 a0_c.units.length c0, .int .i64 a0_c.tile, .int .i64 0, .int .i64 0, .int .i64 0, .int .i64 0], .agg #[.int .i64 a0_c.player, .int .i64 a0_c.seq, .int .i64 a0_c.kind, .int .i64 a0_c.n, .slice p0 a0_c.units.length c0, .int .i64 a0_c.tile, .int .i64 a0_c.w, .int .i64 a0_c.h, .int .i64 a0_c.pos.x, .int .i64 a0_c.pos.y]]) ent78 rfl fun w s => throngref0_EqCommand_walk (⟨a0_c.player, a0_c.seq, a0_c.kind, 0, a0_c.units, a0_c.tile, 0, 0, (⟨0, 0⟩ : Vec)⟩ : Cmd) a0_c w ((Rd.base h0) w s) ((Rd.base h0) w s) hx35) (rp (Pu.pickT rfl rfl) ?_)
         obtain rfl := sj H
         exact hJ32 _ _ ⟨rfl, trivial⟩ (fun w s => s)
        ·have H := ifB hc31 H
         refine ro (ro (ro (rp (Pu.pickF rfl rfl) ?_)))
         obtain rfl := sj H
         exact hJ32 _ _ ⟨rfl, trivial⟩ (fun w s => s)
      ·intro z36 H hJ29
       refine RS.split 60 rfl (fun hc28 => ?_) (fun hc28 => ?_)
       ·have H := ifT hc28 H
        refine rp (Pu.fieldAddr fd88_5 rfl) (rq (Qt.ldB 0 ty3 rfl rfl rfl) ?_)
        obtain ⟨x37, hx37, H⟩ := bindE H
        refine rq (Qt.call (vs := [.int .i64 a0_c.tile]) ent101 rfl fun w s => throngref21_tile_walk a0_c.tile w  hx37) (rp (Pu.pickT rfl rfl) ?_)
        obtain rfl := sj H
        exact hJ29 _ _ ⟨rfl, rfl, rfl, rfl, trivial⟩ (fun w s => s)
       ·have H := ifB hc28 H
        refine ro (ro (ro (rp (Pu.pickF rfl rfl) ?_)))
        obtain rfl := sj H
        exact hJ29 _ _ ⟨rfl, rfl, rfl, rfl, trivial⟩ (fun w s => s)
     ·intro z38 H hJ26
      refine RS.split 55 rfl (fun hc25 => ?_) (fun hc25 => ?_)
      ·have H := ifT hc25 H
       refine rp (Pu.fieldAddr fd88_4 rfl) (rq (Qt.ldB 0 ty23 rfl rfl rfl) ?_)
       obtain ⟨x39, hx39, H⟩ := bindE H
       refine rq (Qt.call (vs := [.slice p0 a0_c.units.length c0]) ent100 rfl fun w s => throngref21_ids_walk a0_c.units w ((Rd.base h0) w s) hx39) (rp (Pu.pickT rfl rfl) ?_)
       obtain rfl := sj H
       exact hJ26 _ _ ⟨rfl, rfl, rfl, rfl, trivial⟩ (fun w s => s)
      ·have H := ifB hc25 H
       refine ro (ro (ro (rp (Pu.pickF rfl rfl) ?_)))
       obtain rfl := sj H
       exact hJ26 _ _ ⟨rfl, rfl, rfl, rfl, trivial⟩ (fun w s => s)
    ·have H := ifF hc24 H
     refine T.seq fun K12 hK12 => T.region (rp (Pu.bin rfl rfl rfl) (rA rfl (RS.nil (hK12 _ _ ?_))))
     refine T.condP rfl (fun hc40 => ?_) (fun hc40 => ?_)
     ·have H := ifT hc40 H
      refine cq [(1, _), (3, _), (4, _)] ?_
      refine T.seq fun K13 hK13 => T.region (rp (Pu.fieldAddr fd88_4 rfl) (rq (Qt.ldB 0 ty23 rfl rfl rfl) (rp (Pu.fieldAddr fd88_4 rfl) (RS.solid (Sd.stB (cs' := [_, _, _, _, _, _, _, _, _, _]) 1 ty23 rfl rfl rfl rfl rfl rfl rfl rfl) rfl rfl fun _ => RS.nil (hK13 _ _ (cq [(1, _), (3, _), (4, _)] ?_))))))
      refine T.region (rM rfl (rM rfl ?_))
      refine RS.joinB H 4 75 (fun b43 => .bool b43) [(1, _), (3, _), (4, _)] ⟨rfl, rfl, rfl, trivial⟩ ?_ ?_
      ·intro b43 H
       refine rA rfl (RS.nil (hK4 _ _ ?_))
       refine T.seq fun K14 hK14 => T.region (rM rfl (rM rfl ?_))
       refine RS.joinB H 4 167 (fun b46 => .bool b46) [] trivial ?_ ?_
       ·intro b46 H
        refine rA rfl (RS.nil (hK14 _ _ ?_))
        obtain rfl := sj H
        refine T.rt (Cont.ret1 rfl rfl fun w' s => ?_)
        exact ⟨rfl, s.ext⟩
       ·intro z47 H hJ45
        refine RS.split 163 rfl (fun hc44 => ?_) (fun hc44 => ?_)
        ·have H := ifT hc44 H
         refine rq (Qt.ldBA (us := [_, _, _, _, _, _, _, _, _, _]) 1 ty88 rfl rfl rfl rfl) (rq (Qt.ldBA (us := [_, _, _, _, _, _, _, _, _, _]) 0 ty88 rfl rfl rfl rfl) ?_)
         obtain ⟨x48, hx48, H⟩ := bindE H
         refine rq (Qt.call (vs := [.agg #[.int .i64 a0_c.player, .int .i64 a0_c.seq, .int .i64 a0_c.kind, .int .i64 0, .slice p0 a0_c.units.length c0, .int .i64 0, .int .i64 0, .int .i64 0, .int .i64 0, .int .i64 0], .agg #[.int .i64 a0_c.player, .int .i64 a0_c.seq, .int .i64 a0_c.kind, .int .i64 a0_c.n, .slice p0 a0_c.units.length c0, .int .i64 a0_c.tile, .int .i64 a0_c.w, .int .i64 a0_c.h, .int .i64 a0_c.pos.x, .int .i64 a0_c.pos.y]]) ent78 rfl fun w s => throngref0_EqCommand_walk (⟨a0_c.player, a0_c.seq, a0_c.kind, 0, a0_c.units, 0, 0, 0, (⟨0, 0⟩ : Vec)⟩ : Cmd) a0_c w ((Rd.base h0) w s) ((Rd.base h0) w s) hx48) (rp (Pu.pickT rfl rfl) ?_)
         obtain rfl := sj H
         exact hJ45 _ _ ⟨rfl, trivial⟩ (fun w s => s)
        ·have H := ifB hc44 H
         refine ro (ro (ro (rp (Pu.pickF rfl rfl) ?_)))
         obtain rfl := sj H
         exact hJ45 _ _ ⟨rfl, trivial⟩ (fun w s => s)
      ·intro z49 H hJ42
       refine RS.split 71 rfl (fun hc41 => ?_) (fun hc41 => ?_)
       ·have H := ifT hc41 H
        refine rp (Pu.fieldAddr fd88_4 rfl) (rq (Qt.ldB 0 ty23 rfl rfl rfl) ?_)
        obtain ⟨x50, hx50, H⟩ := bindE H
        refine rq (Qt.call (vs := [.slice p0 a0_c.units.length c0]) ent100 rfl fun w s => throngref21_ids_walk a0_c.units w ((Rd.base h0) w s) hx50) (rp (Pu.pickT rfl rfl) ?_)
        obtain rfl := sj H
        exact hJ42 _ _ ⟨rfl, rfl, rfl, rfl, trivial⟩ (fun w s => s)
       ·have H := ifB hc41 H
        refine ro (ro (ro (rp (Pu.pickF rfl rfl) ?_)))
        obtain rfl := sj H
        exact hJ42 _ _ ⟨rfl, rfl, rfl, rfl, trivial⟩ (fun w s => s)
     ·have H := ifF hc40 H
      refine cq [(1, _), (3, _), (4, _), (26, _)] ?_
      refine T.seq fun K15 hK15 => T.region (rp (Pu.bin rfl rfl rfl) (rA rfl (RS.nil (hK15 _ _ ?_))))
      refine T.condP rfl (fun hc51 => ?_) (fun hc51 => ?_)
      ·have H := ifT hc51 H
       refine cq [(1, _), (3, _), (4, _)] ?_
       refine T.seq fun K16 hK16 => ?_
       refine T.drawnS [0] [(0, .pu), (1, .rd), (2, .pu), (3, .wk), (4, .pu), (5, .wk), (6, .pu), (7, .br), (8, .pu), (9, .br), (10, .pu), (11, .br)] mixed (by kernel_rfl) rfl ?_
       refine RD.p (fun w s => s.pick [0] (by decide) rfl) rfl (Pu.fieldAddr fd88_5 rfl) rfl rfl (RD.q (fun w s => s.pick [0] (by decide) rfl) rfl (Qt.ldB 0 ty3 rfl rfl rfl) rfl rfl (RD.p (fun w s => s.pick [0] (by decide) rfl) rfl (Pu.fieldAddr fd88_6 rfl) rfl rfl ?_))
       refine RD.w (fun w s => s.pick [0] (by decide) rfl) rfl (Qt.ldB 0 ty3 rfl rfl rfl) rfl rfl ?_
       refine RD.p (fun w s => s.pick [0] (by decide) rfl) rfl (Pu.fieldAddr fd88_7 rfl) rfl rfl ?_
       refine RD.w (fun w s => s.pick [0] (by decide) rfl) rfl (Qt.ldB 0 ty3 rfl rfl rfl) rfl rfl ?_
       refine RD.p (fun w s => s.pick [0] (by decide) rfl) rfl (Pu.fieldAddr fd88_5 rfl) rfl rfl (RD.solid rfl (.inr rfl) rfl rfl (Sd.stB (cs' := [_, _, _, _, _, _, _, _, _, _]) 1 ty3 rfl rfl rfl rfl rfl rfl rfl rfl) (fun _ => ClE.sat _ _) (fun _ w s => s.pick [0] (by decide) rfl) (fun h => nomatch h) fun _ => ?_)
       refine RD.p (fun w s => s.pick [0] (by decide) rfl) rfl (Pu.fieldAddr fd88_6 rfl) rfl rfl (RD.solid rfl (.inr rfl) rfl rfl (Sd.stB (cs' := [_, _, _, _, _, _, _, _, _, _]) 1 ty3 rfl rfl rfl rfl rfl rfl rfl rfl) (fun _ => ClE.sat _ _) (fun _ w s => s.pick [0] (by decide) rfl) (fun h => nomatch h) fun _ => ?_)
       refine RD.p (fun w s => s.pick [0] (by decide) rfl) rfl (Pu.fieldAddr fd88_7 rfl) rfl rfl (RD.solid rfl (.inr rfl) rfl rfl (Sd.stB (cs' := [_, _, _, _, _, _, _, _, _, _]) 1 ty3 rfl rfl rfl rfl rfl rfl rfl rfl) (fun _ => ClE.sat _ _) (fun _ w s => s.pick [0] (by decide) rfl) (fun h => nomatch h) fun _ => ?_)
       refine RD.nil (hK16 _ _ (cq [(1, _), (3, _), (4, _)] ?_))
       refine T.region (rM rfl (rM rfl ?_))
       refine RS.joinB H 4 92 (fun b54 => .bool b54) [(1, _), (3, _), (4, _)] ⟨rfl, rfl, rfl, trivial⟩ ?_ ?_
       ·intro b54 H
        refine rM rfl ?_
        refine RS.joinV 4 97 (.bool (decide ((b54 = true) ∧ (1 ≤ a0_c.w)))) [(1, _), (3, _), (4, _)] ⟨rfl, rfl, rfl, trivial⟩ ?_ ?_
        ·refine rM rfl ?_
         refine RS.joinV 4 102 (.bool (decide (((b54 = true) ∧ (1 ≤ a0_c.w)) ∧ (a0_c.w ≤ 4)))) [(1, _), (3, _), (4, _)] ⟨rfl, rfl, rfl, trivial⟩ ?_ ?_
         ·refine rM rfl ?_
          refine RS.joinV 4 107 (.bool (decide ((((b54 = true) ∧ (1 ≤ a0_c.w)) ∧ (a0_c.w ≤ 4)) ∧ (1 ≤ a0_c.h)))) [(1, _), (3, _), (4, _)] ⟨rfl, rfl, rfl, trivial⟩ ?_ ?_
          ·refine rM rfl ?_
           refine RS.joinV 4 112 (.bool (decide (((((b54 = true) ∧ (1 ≤ a0_c.w)) ∧ (a0_c.w ≤ 4)) ∧ (1 ≤ a0_c.h)) ∧ (a0_c.h ≤ 4)))) [(1, _), (3, _), (4, _)] ⟨rfl, rfl, rfl, trivial⟩ ?_ ?_
           ·refine rA rfl (RS.nil (hK4 _ _ ?_))
            refine T.seq fun K17 hK17 => T.region (rM rfl (rM rfl ?_))
            refine RS.joinB H 4 167 (fun b65 => .bool b65) [] trivial ?_ ?_
            ·intro b65 H
             refine rA rfl (RS.nil (hK17 _ _ ?_))
             obtain rfl := sj H
             refine T.rt (Cont.ret1 rfl rfl fun w' s => ?_)
             exact ⟨rfl, s.ext⟩
            ·intro z66 H hJ64
             refine RS.splitP 163 rfl (fun hc63 => ?_) (fun hc63 => ?_)
             ·have H := ifT hc63 H
              refine rq (Qt.ldBA (us := [_, _, _, _, _, _, _, _, _, _]) 1 ty88 rfl rfl rfl rfl) (rq (Qt.ldBA (us := [_, _, _, _, _, _, _, _, _, _]) 0 ty88 rfl rfl rfl rfl) ?_)
              obtain ⟨x67, hx67, H⟩ := bindE H
              refine rq (Qt.call (vs := [.agg #[.int .i64 a0_c.player, .int .i64 a0_c.seq, .int .i64 a0_c.kind, .int .i64 0, .slice none 0 0, .int .i64 a0_c.tile, .int .i64 a0_c.w, .int .i64 a0_c.h, .int .i64 0, .int .i64 0], .agg #[.int .i64 a0_c.player, .int .i64 a0_c.seq, .int .i64 a0_c.kind, .int .i64 a0_c.n, .slice p0 a0_c.units.length c0, .int .i64 a0_c.tile, .int .i64 a0_c.w, .int .i64 a0_c.h, .int .i64 a0_c.pos.x, .int .i64 a0_c.pos.y]]) ent78 rfl fun w s => throngref0_EqCommand_walk (⟨a0_c.player, a0_c.seq, a0_c.kind, 0, [], a0_c.tile, a0_c.w, a0_c.h, (⟨0, 0⟩ : Vec)⟩ : Cmd) a0_c w ((Rd.nil (α := Int)) w s) ((Rd.base h0) w s) hx67) (rp (Pu.pickT rfl rfl) ?_)
              obtain rfl := sj H
              exact hJ64 _ _ ⟨rfl, trivial⟩ (fun w s => s)
             ·have H := ifF hc63 H
              refine ro (ro (ro (rp (Pu.pickF rfl rfl) ?_)))
              obtain rfl := sj H
              exact hJ64 _ _ ⟨rfl, trivial⟩ (fun w s => s)
           ·intro hJ62
            refine RS.splitP 108 rfl (fun hc61 => ?_) (fun hc61 => ?_)
            ·refine rp (Pu.fieldAddr fd88_7 rfl) (rq (Qt.ldB 0 ty3 rfl rfl rfl) (rp (Pu.bin rfl rfl rfl) (rp (Pu.pickT rfl rfl) ?_)))
             exact hJ62 _ _ ⟨dAndT hc61, rfl, rfl, rfl, trivial⟩ (fun w s => s)
            ·refine ro (ro (ro (rp (Pu.pickF rfl rfl) ?_)))
             exact hJ62 _ _ ⟨dAndF hc61, rfl, rfl, rfl, trivial⟩ (fun w s => s)
          ·intro hJ60
           refine RS.splitP 103 rfl (fun hc59 => ?_) (fun hc59 => ?_)
           ·refine rp (Pu.fieldAddr fd88_7 rfl) (rq (Qt.ldB 0 ty3 rfl rfl rfl) (rp (Pu.bin rfl rfl rfl) (rp (Pu.pickT rfl rfl) ?_)))
            exact hJ60 _ _ ⟨dAndT hc59, rfl, rfl, rfl, trivial⟩ (fun w s => s)
           ·refine ro (ro (ro (rp (Pu.pickF rfl rfl) ?_)))
            exact hJ60 _ _ ⟨dAndF hc59, rfl, rfl, rfl, trivial⟩ (fun w s => s)
         ·intro hJ58
          refine RS.splitP 98 rfl (fun hc57 => ?_) (fun hc57 => ?_)
          ·refine rp (Pu.fieldAddr fd88_6 rfl) (rq (Qt.ldB 0 ty3 rfl rfl rfl) (rp (Pu.bin rfl rfl rfl) (rp (Pu.pickT rfl rfl) ?_)))
           exact hJ58 _ _ ⟨dAndT hc57, rfl, rfl, rfl, trivial⟩ (fun w s => s)
          ·refine ro (ro (ro (rp (Pu.pickF rfl rfl) ?_)))
           exact hJ58 _ _ ⟨dAndF hc57, rfl, rfl, rfl, trivial⟩ (fun w s => s)
        ·intro hJ56
         refine RS.split 93 rfl (fun hc55 => ?_) (fun hc55 => ?_)
         ·refine rp (Pu.fieldAddr fd88_6 rfl) (rq (Qt.ldB 0 ty3 rfl rfl rfl) (rp (Pu.bin rfl rfl rfl) (rp (Pu.pickT rfl rfl) ?_)))
          exact hJ56 _ _ ⟨dAndT hc55, rfl, rfl, rfl, trivial⟩ (fun w s => s)
         ·refine ro (ro (ro (rp (Pu.pickF rfl rfl) ?_)))
          exact hJ56 _ _ ⟨dAndF (bne_of hc55), rfl, rfl, rfl, trivial⟩ (fun w s => s)
       ·intro z68 H hJ53
        refine RS.split 88 rfl (fun hc52 => ?_) (fun hc52 => ?_)
        ·have H := ifT hc52 H
         refine rp (Pu.fieldAddr fd88_5 rfl) (rq (Qt.ldB 0 ty3 rfl rfl rfl) ?_)
         obtain ⟨x69, hx69, H⟩ := bindE H
         refine rq (Qt.call (vs := [.int .i64 a0_c.tile]) ent101 rfl fun w s => throngref21_tile_walk a0_c.tile w  hx69) (rp (Pu.pickT rfl rfl) ?_)
         obtain rfl := sj H
         exact hJ53 _ _ ⟨rfl, rfl, rfl, rfl, trivial⟩ (fun w s => s)
        ·have H := ifB hc52 H
         refine ro (ro (ro (rp (Pu.pickF rfl rfl) ?_)))
         obtain rfl := sj H
         exact hJ53 _ _ ⟨rfl, rfl, rfl, rfl, trivial⟩ (fun w s => s)
      ·have H := ifF hc51 H
       refine T.seq fun K18 hK18 => T.region (rp (Pu.bin rfl rfl rfl) (rA rfl (RS.nil (hK18 _ _ ?_))))
       refine T.condP rfl (fun hc70 => ?_) (fun hc70 => ?_)
       ·have H := ifT hc70 H
        refine cq [(1, _), (3, _), (4, _)] ?_
        refine T.seq fun K19 hK19 => T.region (rp (Pu.fieldAddr fd88_3 rfl) (rq (Qt.ldB 0 ty3 rfl rfl rfl) (rp (Pu.fieldAddr fd88_3 rfl) (RS.solid (Sd.stB (cs' := [_, _, _, _, _, _, _, _, _, _]) 1 ty3 rfl rfl rfl rfl rfl rfl rfl rfl) rfl rfl fun _ => RS.nil (hK19 _ _ (cq [(1, _), (3, _), (4, _)] ?_))))))
        refine T.region (rM rfl (rM rfl ?_))
        refine RS.joinB H 4 123 (fun b73 => .bool b73) [(1, _), (3, _), (4, _)] ⟨rfl, rfl, rfl, trivial⟩ ?_ ?_
        ·intro b73 H
         refine rA rfl (RS.nil (hK4 _ _ ?_))
         refine T.seq fun K20 hK20 => T.region (rM rfl (rM rfl ?_))
         refine RS.joinB H 4 167 (fun b76 => .bool b76) [] trivial ?_ ?_
         ·intro b76 H
          refine rA rfl (RS.nil (hK20 _ _ ?_))
          obtain rfl := sj H
          refine T.rt (Cont.ret1 rfl rfl fun w' s => ?_)
          exact ⟨rfl, s.ext⟩
         ·intro z77 H hJ75
          refine RS.split 163 rfl (fun hc74 => ?_) (fun hc74 => ?_)
          ·have H := ifT hc74 H
           refine rq (Qt.ldBA (us := [_, _, _, _, _, _, _, _, _, _]) 1 ty88 rfl rfl rfl rfl) (rq (Qt.ldBA (us := [_, _, _, _, _, _, _, _, _, _]) 0 ty88 rfl rfl rfl rfl) ?_)
           obtain ⟨x78, hx78, H⟩ := bindE H
           refine rq (Qt.call (vs := [.agg #[.int .i64 a0_c.player, .int .i64 a0_c.seq, .int .i64 a0_c.kind, .int .i64 a0_c.n, .slice none 0 0, .int .i64 0, .int .i64 0, .int .i64 0, .int .i64 0, .int .i64 0], .agg #[.int .i64 a0_c.player, .int .i64 a0_c.seq, .int .i64 a0_c.kind, .int .i64 a0_c.n, .slice p0 a0_c.units.length c0, .int .i64 a0_c.tile, .int .i64 a0_c.w, .int .i64 a0_c.h, .int .i64 a0_c.pos.x, .int .i64 a0_c.pos.y]]) ent78 rfl fun w s => throngref0_EqCommand_walk (⟨a0_c.player, a0_c.seq, a0_c.kind, a0_c.n, [], 0, 0, 0, (⟨0, 0⟩ : Vec)⟩ : Cmd) a0_c w ((Rd.nil (α := Int)) w s) ((Rd.base h0) w s) hx78) (rp (Pu.pickT rfl rfl) ?_)
           obtain rfl := sj H
           exact hJ75 _ _ ⟨rfl, trivial⟩ (fun w s => s)
          ·have H := ifB hc74 H
           refine ro (ro (ro (rp (Pu.pickF rfl rfl) ?_)))
           obtain rfl := sj H
           exact hJ75 _ _ ⟨rfl, trivial⟩ (fun w s => s)
        ·intro z79 H hJ72
         refine RS.split 119 rfl (fun hc71 => ?_) (fun hc71 => ?_)
         ·have H := ifT hc71 H
          refine rp (Pu.fieldAddr fd88_3 rfl) (rq (Qt.ldB 0 ty3 rfl rfl rfl) ?_)
          obtain ⟨x80, hx80, H⟩ := bindE H
          refine rq (Qt.call (vs := [.int .i64 a0_c.n]) ent102 rfl fun w s => throngref21_id_walk a0_c.n w  hx80) (rp (Pu.pickT rfl rfl) ?_)
          obtain rfl := sj H
          exact hJ72 _ _ ⟨rfl, rfl, rfl, rfl, trivial⟩ (fun w s => s)
         ·have H := ifB hc71 H
          refine ro (ro (ro (rp (Pu.pickF rfl rfl) ?_)))
          obtain rfl := sj H
          exact hJ72 _ _ ⟨rfl, rfl, rfl, rfl, trivial⟩ (fun w s => s)
       ·have H := ifF hc70 H
        refine cq [(1, _), (3, _), (4, _), (26, _)] ?_
        refine T.seq fun K21 hK21 => T.region (rp (Pu.bin rfl rfl rfl) (rA rfl (RS.nil (hK21 _ _ ?_))))
        refine T.condP rfl (fun hc81 => ?_) (fun hc81 => ?_)
        ·have H := ifT hc81 H
         refine cq [(1, _), (3, _), (4, _)] ?_
         refine T.seq fun K22 hK22 => ?_
         refine T.drawnS [0] [(0, .pu), (1, .rd), (2, .pu), (3, .wk), (4, .pu), (5, .br), (6, .pu), (7, .br)] mixed (by kernel_rfl) rfl ?_
         refine RD.p (fun w s => s.pick [0] (by decide) rfl) rfl (Pu.fieldAddr fd88_4 rfl) rfl rfl (RD.q (fun w s => s.pick [0] (by decide) rfl) rfl (Qt.ldB 0 ty23 rfl rfl rfl) rfl rfl (RD.p (fun w s => s.pick [0] (by decide) rfl) rfl (Pu.fieldAddr fd88_3 rfl) rfl rfl ?_))
         refine RD.w (fun w s => s.pick [0] (by decide) rfl) rfl (Qt.ldB 0 ty3 rfl rfl rfl) rfl rfl ?_
         refine RD.p (fun w s => s.pick [0] (by decide) rfl) rfl (Pu.fieldAddr fd88_4 rfl) rfl rfl (RD.solid rfl (.inr rfl) rfl rfl (Sd.stB (cs' := [_, _, _, _, _, _, _, _, _, _]) 1 ty23 rfl rfl rfl rfl rfl rfl rfl rfl) (fun _ => ClE.sat _ _) (fun _ w s => s.pick [0] (by decide) rfl) (fun h => nomatch h) fun _ => ?_)
         refine RD.p (fun w s => s.pick [0] (by decide) rfl) rfl (Pu.fieldAddr fd88_3 rfl) rfl rfl (RD.solid rfl (.inr rfl) rfl rfl (Sd.stB (cs' := [_, _, _, _, _, _, _, _, _, _]) 1 ty3 rfl rfl rfl rfl rfl rfl rfl rfl) (fun _ => ClE.sat _ _) (fun _ w s => s.pick [0] (by decide) rfl) (fun h => nomatch h) fun _ => ?_)
         refine RD.nil (hK22 _ _ (cq [(1, _), (3, _), (4, _)] ?_))
         refine T.region (rM rfl (rM rfl ?_))
         refine RS.joinB H 4 137 (fun b84 => .bool b84) [(1, _), (3, _), (4, _)] ⟨rfl, rfl, rfl, trivial⟩ ?_ ?_
         ·intro b84 H
          refine rM rfl ?_
          refine RS.joinB H 4 142 (fun b87 => .bool b87) [(1, _), (3, _), (4, _)] ⟨rfl, rfl, rfl, trivial⟩ ?_ ?_
          ·intro b87 H
           refine rA rfl (RS.nil (hK4 _ _ ?_))
           refine T.seq fun K23 hK23 => T.region (rM rfl (rM rfl ?_))
           refine RS.joinB H 4 167 (fun b90 => .bool b90) [] trivial ?_ ?_
           ·intro b90 H
            refine rA rfl (RS.nil (hK23 _ _ ?_))
            obtain rfl := sj H
            refine T.rt (Cont.ret1 rfl rfl fun w' s => ?_)
            exact ⟨rfl, s.ext⟩
           ·intro z91 H hJ89
            refine RS.split 163 rfl (fun hc88 => ?_) (fun hc88 => ?_)
            ·have H := ifT hc88 H
             refine rq (Qt.ldBA (us := [_, _, _, _, _, _, _, _, _, _]) 1 ty88 rfl rfl rfl rfl) (rq (Qt.ldBA (us := [_, _, _, _, _, _, _, _, _, _]) 0 ty88 rfl rfl rfl rfl) ?_)
             obtain ⟨x92, hx92, H⟩ := bindE H
             refine rq (Qt.call (vs := [.agg #[.int .i64 a0_c.player, .int .i64 a0_c.seq, .int .i64 a0_c.kind, .int .i64 a0_c.n, .slice p0 a0_c.units.length c0, .int .i64 0, .int .i64 0, .int .i64 0, .int .i64 0, .int .i64 0], .agg #[.int .i64 a0_c.player, .int .i64 a0_c.seq, .int .i64 a0_c.kind, .int .i64 a0_c.n, .slice p0 a0_c.units.length c0, .int .i64 a0_c.tile, .int .i64 a0_c.w, .int .i64 a0_c.h, .int .i64 a0_c.pos.x, .int .i64 a0_c.pos.y]]) ent78 rfl fun w s => throngref0_EqCommand_walk (⟨a0_c.player, a0_c.seq, a0_c.kind, a0_c.n, a0_c.units, 0, 0, 0, (⟨0, 0⟩ : Vec)⟩ : Cmd) a0_c w ((Rd.base h0) w s) ((Rd.base h0) w s) hx92) (rp (Pu.pickT rfl rfl) ?_)
             obtain rfl := sj H
             exact hJ89 _ _ ⟨rfl, trivial⟩ (fun w s => s)
            ·have H := ifB hc88 H
             refine ro (ro (ro (rp (Pu.pickF rfl rfl) ?_)))
             obtain rfl := sj H
             exact hJ89 _ _ ⟨rfl, trivial⟩ (fun w s => s)
          ·intro z93 H hJ86
           refine RS.split 138 rfl (fun hc85 => ?_) (fun hc85 => ?_)
           ·have H := ifT hc85 H
            refine rp (Pu.fieldAddr fd88_3 rfl) (rq (Qt.ldB 0 ty3 rfl rfl rfl) ?_)
            obtain ⟨x94, hx94, H⟩ := bindE H
            refine rq (Qt.call (vs := [.int .i64 a0_c.n]) ent102 rfl fun w s => throngref21_id_walk a0_c.n w  hx94) (rp (Pu.pickT rfl rfl) ?_)
            obtain rfl := sj H
            exact hJ86 _ _ ⟨rfl, rfl, rfl, rfl, trivial⟩ (fun w s => s)
           ·have H := ifB hc85 H
            refine ro (ro (ro (rp (Pu.pickF rfl rfl) ?_)))
            obtain rfl := sj H
            exact hJ86 _ _ ⟨rfl, rfl, rfl, rfl, trivial⟩ (fun w s => s)
         ·intro z95 H hJ83
          refine RS.split 133 rfl (fun hc82 => ?_) (fun hc82 => ?_)
          ·have H := ifT hc82 H
           refine rp (Pu.fieldAddr fd88_4 rfl) (rq (Qt.ldB 0 ty23 rfl rfl rfl) ?_)
           obtain ⟨x96, hx96, H⟩ := bindE H
           refine rq (Qt.call (vs := [.slice p0 a0_c.units.length c0]) ent100 rfl fun w s => throngref21_ids_walk a0_c.units w ((Rd.base h0) w s) hx96) (rp (Pu.pickT rfl rfl) ?_)
           obtain rfl := sj H
           exact hJ83 _ _ ⟨rfl, rfl, rfl, rfl, trivial⟩ (fun w s => s)
          ·have H := ifB hc82 H
           refine ro (ro (ro (rp (Pu.pickF rfl rfl) ?_)))
           obtain rfl := sj H
           exact hJ83 _ _ ⟨rfl, rfl, rfl, rfl, trivial⟩ (fun w s => s)
        ·have H := ifF hc81 H
         refine T.seq fun K24 hK24 => T.region (rp (Pu.bin rfl rfl rfl) (rA rfl (RS.nil (hK24 _ _ ?_))))
         refine T.condP rfl (fun hc97 => ?_) (fun hc97 => ?_)
         ·have H := ifT hc97 H
          refine cq [(1, _), (3, _), (4, _)] ?_
          refine T.seq fun K25 hK25 => ?_
          refine T.drawnS [0] [(0, .pu), (1, .rd), (2, .pu), (3, .wk), (4, .pu), (5, .br), (6, .pu), (7, .br)] mixed (by kernel_rfl) rfl ?_
          refine RD.p (fun w s => s.pick [0] (by decide) rfl) rfl (Pu.fieldAddr fd88_3 rfl) rfl rfl (RD.q (fun w s => s.pick [0] (by decide) rfl) rfl (Qt.ldB 0 ty3 rfl rfl rfl) rfl rfl (RD.p (fun w s => s.pick [0] (by decide) rfl) rfl (Pu.fieldAddr fd88_5 rfl) rfl rfl ?_))
          refine RD.w (fun w s => s.pick [0] (by decide) rfl) rfl (Qt.ldB 0 ty3 rfl rfl rfl) rfl rfl ?_
          refine RD.p (fun w s => s.pick [0] (by decide) rfl) rfl (Pu.fieldAddr fd88_3 rfl) rfl rfl (RD.solid rfl (.inr rfl) rfl rfl (Sd.stB (cs' := [_, _, _, _, _, _, _, _, _, _]) 1 ty3 rfl rfl rfl rfl rfl rfl rfl rfl) (fun _ => ClE.sat _ _) (fun _ w s => s.pick [0] (by decide) rfl) (fun h => nomatch h) fun _ => ?_)
          refine RD.p (fun w s => s.pick [0] (by decide) rfl) rfl (Pu.fieldAddr fd88_5 rfl) rfl rfl (RD.solid rfl (.inr rfl) rfl rfl (Sd.stB (cs' := [_, _, _, _, _, _, _, _, _, _]) 1 ty3 rfl rfl rfl rfl rfl rfl rfl rfl) (fun _ => ClE.sat _ _) (fun _ w s => s.pick [0] (by decide) rfl) (fun h => nomatch h) fun _ => ?_)
          refine RD.nil (hK25 _ _ (cq [(1, _), (3, _), (4, _)] ?_))
          refine T.region (rM rfl (rM rfl ?_))
          refine RS.joinB H 4 156 (fun b100 => .bool b100) [(1, _), (3, _), (4, _)] ⟨rfl, rfl, rfl, trivial⟩ ?_ ?_
          ·intro b100 H
           refine rM rfl ?_
           refine RS.joinB H 4 161 (fun b103 => .bool b103) [(1, _), (3, _), (4, _)] ⟨rfl, rfl, rfl, trivial⟩ ?_ ?_
           ·intro b103 H
            refine rA rfl (RS.nil (hK4 _ _ ?_))
            refine T.seq fun K26 hK26 => T.region (rM rfl (rM rfl ?_))
            refine RS.joinB H 4 167 (fun b106 => .bool b106) [] trivial ?_ ?_
            ·intro b106 H
             refine rA rfl (RS.nil (hK26 _ _ ?_))
             obtain rfl := sj H
             refine T.rt (Cont.ret1 rfl rfl fun w' s => ?_)
             exact ⟨rfl, s.ext⟩
            ·intro z107 H hJ105
             refine RS.split 163 rfl (fun hc104 => ?_) (fun hc104 => ?_)
             ·have H := ifT hc104 H
              refine rq (Qt.ldBA (us := [_, _, _, _, _, _, _, _, _, _]) 1 ty88 rfl rfl rfl rfl) (rq (Qt.ldBA (us := [_, _, _, _, _, _, _, _, _, _]) 0 ty88 rfl rfl rfl rfl) ?_)
              obtain ⟨x108, hx108, H⟩ := bindE H
              refine rq (Qt.call (vs := [.agg #[.int .i64 a0_c.player, .int .i64 a0_c.seq, .int .i64 a0_c.kind, .int .i64 a0_c.n, .slice none 0 0, .int .i64 a0_c.tile, .int .i64 0, .int .i64 0, .int .i64 0, .int .i64 0], .agg #[.int .i64 a0_c.player, .int .i64 a0_c.seq, .int .i64 a0_c.kind, .int .i64 a0_c.n, .slice p0 a0_c.units.length c0, .int .i64 a0_c.tile, .int .i64 a0_c.w, .int .i64 a0_c.h, .int .i64 a0_c.pos.x, .int .i64 a0_c.pos.y]]) ent78 rfl fun w s => throngref0_EqCommand_walk (⟨a0_c.player, a0_c.seq, a0_c.kind, a0_c.n, [], a0_c.tile, 0, 0, (⟨0, 0⟩ : Vec)⟩ : Cmd) a0_c w ((Rd.nil (α := Int)) w s) ((Rd.base h0) w s) hx108) (rp (Pu.pickT rfl rfl) ?_)
              obtain rfl := sj H
              exact hJ105 _ _ ⟨rfl, trivial⟩ (fun w s => s)
             ·have H := ifB hc104 H
              refine ro (ro (ro (rp (Pu.pickF rfl rfl) ?_)))
              obtain rfl := sj H
              exact hJ105 _ _ ⟨rfl, trivial⟩ (fun w s => s)
           ·intro z109 H hJ102
            refine RS.split 157 rfl (fun hc101 => ?_) (fun hc101 => ?_)
            ·have H := ifT hc101 H
             refine rp (Pu.fieldAddr fd88_5 rfl) (rq (Qt.ldB 0 ty3 rfl rfl rfl) ?_)
             obtain ⟨x110, hx110, H⟩ := bindE H
             refine rq (Qt.call (vs := [.int .i64 a0_c.tile]) ent101 rfl fun w s => throngref21_tile_walk a0_c.tile w  hx110) (rp (Pu.pickT rfl rfl) ?_)
             obtain rfl := sj H
             exact hJ102 _ _ ⟨rfl, rfl, rfl, rfl, trivial⟩ (fun w s => s)
            ·have H := ifB hc101 H
             refine ro (ro (ro (rp (Pu.pickF rfl rfl) ?_)))
             obtain rfl := sj H
             exact hJ102 _ _ ⟨rfl, rfl, rfl, rfl, trivial⟩ (fun w s => s)
          ·intro z111 H hJ99
           refine RS.split 152 rfl (fun hc98 => ?_) (fun hc98 => ?_)
           ·have H := ifT hc98 H
            refine rp (Pu.fieldAddr fd88_3 rfl) (rq (Qt.ldB 0 ty3 rfl rfl rfl) ?_)
            obtain ⟨x112, hx112, H⟩ := bindE H
            refine rq (Qt.call (vs := [.int .i64 a0_c.n]) ent102 rfl fun w s => throngref21_id_walk a0_c.n w  hx112) (rp (Pu.pickT rfl rfl) ?_)
            obtain rfl := sj H
            exact hJ99 _ _ ⟨rfl, rfl, rfl, rfl, trivial⟩ (fun w s => s)
           ·have H := ifB hc98 H
            refine ro (ro (ro (rp (Pu.pickF rfl rfl) ?_)))
            obtain rfl := sj H
            exact hJ99 _ _ ⟨rfl, rfl, rfl, rfl, trivial⟩ (fun w s => s)
         ·have H := ifF hc97 H
          refine cq [] ?_
          refine T.seq fun K27 hK27 => T.region (rA rfl (RS.nil (hK27 _ _ ?_)))
          obtain rfl := sj H
          refine T.rt (Cont.ret1 rfl rfl fun w' s => ?_)
          exact ⟨rfl, s.ext⟩
  ·intro z113 H hJ6
   refine RS.splitP 20 rfl (fun hc5 => ?_) (fun hc5 => ?_)
   ·have H := ifT hc5 H
    refine rp (Pu.fieldAddr fd88_1 rfl) (rq (Qt.ldB 0 ty3 rfl rfl rfl) ?_)
    obtain ⟨x114, hx114, H⟩ := bindE H
    refine rq (Qt.call (vs := [.int .i64 a0_c.seq, .int .i64 1099511627776]) ent22 rfl fun w s => throngref0_Num_walk a0_c.seq 1099511627776 w  hx114) (rp (Pu.pickT rfl rfl) ?_)
    obtain rfl := sj H
    exact hJ6 _ _ ⟨rfl, rfl, rfl, trivial⟩ (fun w s => s)
   ·have H := ifF hc5 H
    refine ro (ro (ro (rp (Pu.pickF rfl rfl) ?_)))
    obtain rfl := sj H
    exact hJ6 _ _ ⟨rfl, rfl, rfl, trivial⟩ (fun w s => s)
 ·intro hJ4
  refine RS.splitP 15 rfl (fun hc3 => ?_) (fun hc3 => ?_)
  ·refine rp (Pu.fieldAddr fd88_0 rfl) (rq (Qt.ldB 0 ty3 rfl rfl rfl) (rp (Pu.bin rfl rfl rfl) (rp (Pu.pickT rfl rfl) ?_)))
   exact hJ4 _ _ ⟨dAndT hc3, rfl, rfl, trivial⟩ (fun w s => s)
  ·refine ro (ro (ro (rp (Pu.pickF rfl rfl) ?_)))
   exact hJ4 _ _ ⟨dAndF hc3, rfl, rfl, trivial⟩ (fun w s => s)
theorem slices_BinarySearchFunc_walk (a0_x : List Inp) (a1_target : Inp) (a2_cmp : (Inp × Inp) → Option Int) (w : World) {v0 v1 v2 : Value} (h0 : R (hpOf w) a0_x [v0]) (h1 : R (hpOf w) a1_target.commands [v1]) (h2 : FnR Tryz.prog w v2 (fun (z : Inp × Inp) c => ∃ u0 u1 : Value, c = [.agg #[.int .i64 z.1.turn, .int .i64 z.1.player, u0], .agg #[.int .i64 z.2.turn, .int .i64 z.2.player, u1]]) (fun (r : Int) => .int .i64 r) a2_cmp) {r : Int × Bool} (H : slices_BinarySearchFunc a0_x a1_target a2_cmp = some r) : Calls Tryz.prog 92 #[v0, .agg #[.int .i64 a1_target.turn, .int .i64 a1_target.player, v1], v2] w fun e w' => e = .returned (.tuple #[.int .i64 r.1, .bool r.2]) ∧ Ext w w' := by
 have hm0 := R_max h0
 obtain ⟨p0, c0, rfl⟩ := R_form h0
 have hm1 := R_max h1
 obtain ⟨p1, c1, rfl⟩ := R_form h1
 unfold slices_BinarySearchFunc at H
 refine T.enter (args := [_, _, _]) (S := Sat w []) Tryz.func92 rfl rfl (Sat.start w) ?_
 refine T.seq fun K1 hK1 => T.region (RS.solid (Sd.box (cs := [_, _, _]) rfl rfl) rfl rfl fun b1 => rA rfl (rA rfl (RS.nil (hK1 _ _ (cq [(0, _), (2, _), (4, _)] ?_)))))
 refine T.seq fun K2 hK2 => T.region (rM rfl (rp (Pu.lenSl sl22 rfl) (rA rfl (RS.nil (hK2 _ _ ?_)))))
 refine T.seq fun K3 hK3 => T.region (rM rfl (rA rfl (rA rfl (RS.nil (hK3 _ _ (cq [(0, _), (2, _), (4, _), (8, _), (9, _), (10, _)] ?_))))))
 refine T.joinA (σ := Int) (γ := Unit) H (fun s => s) [(0, _), (2, _), (4, _), (8, _)] ⟨rfl, rfl, rfl, rfl, trivial⟩ (fun v3 _ => [(9, .int .i64 v3)]) (fun v3 _ => Sat w [blk b1 [.int .i64 a1_target.turn, .int .i64 a1_target.player, .slice p1 a1_target.commands.length c1] 41]) ?_ ?_
 ·rintro v3 ⟨⟩ H
  try dsimp only [Ex.then] at H
  refine cq [(9, _), (0, _), (2, _), (4, _), (8, _)] ?_
  refine T.seq fun K5 hK5 => ?_
  refine T.drawn (fun _ => True) [(0, .pu), (1, .pu), (2, .pu), (3, .pu), (4, .pu), (5, .pu), (6, .pu), (7, .pu), (8, .pu), (9, .rd), (10, .rd), (11, .rd), (12, .pu), (13, .pu), (14, .pu), (15, .pu)] mixed (ClE.sat _ _) (by kernel_rfl) ?_
  refine dp rfl (Pu.move rfl) (dp rfl (Pu.move rfl) (dp rfl (Pu.move rfl) (dp rfl (Pu.bin rfl rfl rfl) (dp rfl (Pu.move rfl) ?_))))
  refine RD.joinB H 9 48 (fun b6 => .bool b6) [(35, _)] ⟨rfl, trivial⟩ ?_ ?_
  ·intro b6 H
   refine dp rfl (Pu.assign rfl) (dp rfl (Pu.assign rfl) (RD.nil (hK5 _ _ ?_)))
   obtain rfl := sj H
   refine T.rt (Cont.ret2 rfl rfl rfl fun w' s => ?_)
   exact ⟨rfl, s.ext⟩
  ·intro z7 H hJ5
   refine RD.splitP 39 rfl (fun hc4 => ?_) (fun hc4 => ?_)
   ·have H := ifT hc4 H
    refine dp rfl (Pu.move rfl) (dp rfl (Pu.move rfl) (dp rfl (Pu.move rfl) ?_))
    obtain ⟨g8, H⟩ := gdE H
    obtain ⟨bl9, ol10, rfl⟩ := R_ptr h0 (ne_of_pos (pos_of g8))
    refine dp rfl (Pu.indexSl sl22 rfl rfl g8) ?_
    obtain ⟨c11, hc12, ha13⟩ := R_el (α := Inp) h0 g8
    obtain ⟨u14, rfl, hu14⟩ := hc12
    obtain ⟨p15, cc16, rfl⟩ := R_form hu14
    refine dq rfl (Qt.ldZ (cs := [_, _, _]) ty41 rfl ha13 Held.base rfl) (dq rfl (Qt.ldBA (us := [_, _, _]) 0 ty41 rfl rfl rfl rfl) ?_)
    obtain ⟨x17, hx17, H⟩ := bindE H
    refine dq rfl (Qt.callR rfl h2 (fun w s => s.ext) hx17 rfl ⟨_, _, rfl⟩) (dp rfl (Pu.bin rfl rfl rfl) (dp rfl (Pu.pickT rfl rfl) ?_))
    obtain rfl := sj H
    exact hJ5 _ ⟨rfl, rfl, trivial⟩
   ·have H := ifF hc4 H
    refine dn rfl (dn rfl (dn rfl (dn rfl (dn rfl (dn rfl (dn rfl (dn rfl (dp rfl (Pu.pickF rfl rfl) ?_))))))))
    obtain rfl := sj H
    exact hJ5 _ ⟨rfl, rfl, trivial⟩
 ·intro z2 hz2 HX2 K4 hJ2
  refine T.block ?_
  refine T.loopA (γ := Unit) hz2 [(0, _), (2, _), (4, _), (8, _)] (fun (v18, v19) _ => [(9, .int .i64 v18), (10, .int .i64 v19)]) (fun (v18, v19) _ => Sat w [blk b1 [.int .i64 a1_target.turn, .int .i64 a1_target.player, .slice p1 a1_target.commands.length c1] 41]) () ⟨rfl, rfl, rfl, rfl, trivial⟩ ⟨rfl, rfl, trivial⟩ (fun w s => s) ?_
  rintro ⟨v18, v19⟩ ⟨⟩ y20 H hd2 KL2 hL2
  try dsimp only [Ex.then] at H
  refine cq [(9, _), (10, _), (0, _), (2, _), (4, _), (8, _)] ?_
  refine T.seq fun K6 hK6 => T.seq fun K7 hK7 => T.region (rM rfl (rM rfl (rp (Pu.bin rfl rfl rfl) (RS.nil (hK7 _ _ ?_)))))
  refine T.condP rfl (fun hc21 => ?_) (fun hc21 => ?_)
  ·have H := ifT hc21 H
   refine T.skip (hK6 _ _ (cq [(0, _), (2, _), (4, _), (8, _), (9, _), (10, _)] ?_))
   refine T.block (T.seq fun K8 hK8 => T.region (rM rfl (rM rfl ?_)))
   obtain ⟨g22, H⟩ := gdE H
   refine rp (Pu.addS rfl rfl g22) (rp (Pu.convUW us3 ul93 rfl) ?_)
   obtain ⟨g23, H⟩ := gdE H
   refine rp (Pu.shr1 rfl rfl g23) ?_
   obtain ⟨g24, H⟩ := gdE H
   refine rp (Pu.convS us93 ul3 rfl g24) (rA rfl (RS.nil (hK8 _ _ (cq [(0, _), (2, _), (4, _), (8, _), (9, _), (10, _), (11, _)] ?_))))
   refine T.seq fun K9 hK9 => ?_
   refine T.drawn (fun _ => True) [(0, .pu), (1, .pu), (2, .pu), (3, .pu), (4, .rd), (5, .rd), (6, .rd), (7, .pu)] mixed (ClE.sat _ _) (by kernel_rfl) ?_
   refine dp rfl (Pu.move rfl) (dp rfl (Pu.move rfl) (dp rfl (Pu.move rfl) ?_))
   obtain ⟨g25, H⟩ := gdE H
   obtain ⟨bl26, ol27, rfl⟩ := R_ptr h0 (ne_of_pos (pos_of g25))
   refine dp rfl (Pu.indexSl sl22 rfl rfl g25) ?_
   obtain ⟨c28, hc29, ha30⟩ := R_el (α := Inp) h0 g25
   obtain ⟨u31, rfl, hu31⟩ := hc29
   obtain ⟨p32, cc33, rfl⟩ := R_form hu31
   refine dq rfl (Qt.ldZ (cs := [_, _, _]) ty41 rfl ha30 Held.base rfl) (dq rfl (Qt.ldBA (us := [_, _, _]) 0 ty41 rfl rfl rfl rfl) ?_)
   obtain ⟨x34, hx34, H⟩ := bindE H
   refine dq rfl (Qt.callR rfl h2 (fun w s => s.ext) hx34 rfl ⟨_, _, rfl⟩) (dp rfl (Pu.bin rfl rfl rfl) (RD.nil (hK9 _ _ ?_)))
   refine T.condP rfl (fun hc35 => ?_) (fun hc35 => ?_)
   ·have H := ifT hc35 H
    refine cq [(0, _), (2, _), (4, _), (8, _), (10, _), (11, _)] ?_
    refine T.region (rM rfl ?_)
    obtain ⟨g36, H⟩ := gdE H
    refine rp (Pu.addS rfl rfl g36) (rA rfl (RS.nil (hL2 _ _ (((((v18 + v19) % 18446744073709551616) / 2) + 1), v19) () H ⟨rfl, rfl, rfl, rfl, trivial⟩ ⟨rfl, rfl, trivial⟩ (fun w s => s))))
   ·have H := ifF hc35 H
    refine cq [(0, _), (2, _), (4, _), (8, _), (9, _), (11, _)] ?_
    refine T.region (rM rfl (rA rfl (RS.nil (hL2 _ _ (v18, (((v18 + v19) % 18446744073709551616) / 2)) () H ⟨rfl, rfl, rfl, rfl, trivial⟩ ⟨rfl, rfl, trivial⟩ (fun w s => s)))))
  ·have H := ifF hc21 H
   obtain rfl := hd2 _ H
   refine T.xt (hJ2 _ _ v18 () HX2 ⟨rfl, rfl, rfl, rfl, trivial⟩ ⟨rfl, trivial⟩ (fun w s => s))
theorem turns_In_walk (a0_l : List Inp) (a1_i : Inp) (w : World) {v0 v1 : Value} (h0 : R (hpOf w) a0_l [v0]) (h1 : R (hpOf w) a1_i.commands [v1]) {r : List Inp × Bool} (H : turns_In a0_l a1_i = some r) : Calls Tryz.prog 62 #[v0, .agg #[.int .i64 a1_i.turn, .int .i64 a1_i.player, v1]] w fun e w' => ∃ q1 : (Option Nat × Nat), e = .returned (.tuple #[rowV q1 r.1.length, .bool r.2]) ∧ Sat w [drow 41 (rowV q1 r.1.length) r.1] w' := by
 have hm0 := R_max h0
 obtain ⟨p0, c0, rfl⟩ := R_form h0
 have hm1 := R_max h1
 obtain ⟨p1, c1, rfl⟩ := R_form h1
 unfold turns_In at H
 refine T.enter (args := [_, _]) (S := Sat w []) Tryz.func62 rfl rfl (Sat.start w) ?_
 refine T.seq fun K1 hK1 => T.region (RS.solid (Sd.box (cs := [_, _, _]) rfl rfl) rfl rfl fun b1 => rA rfl (rA rfl (RS.nil (hK1 _ _ (cq [(0, _), (3, _)] ?_)))))
 refine T.seq fun K2 hK2 => T.region (rM rfl (rq (Qt.ldBA (us := [_, _, _]) 0 ty41 rfl rfl rfl rfl) ?_))
 obtain ⟨x2, hx2, H⟩ := bindE H
 refine rq (Qt.call (vs := [.slice p0 a0_l.length c0, .agg #[.int .i64 a1_i.turn, .int .i64 a1_i.player, .slice p1 a1_i.commands.length c1], .func (.func 86) #[] #[]]) ent92 rfl fun w s => slices_BinarySearchFunc_walk a0_l a1_i (fun (y0, y1) => turns_less y0 y1) w ((Rd.base h0) w s) ((Rd.base h1) w s) (⟨86, _, rfl, ent86, fun ⟨y0, y1⟩ c r w' ⟨_, _, hc⟩ he hr => by subst hc; exact turns_less_walk y0 y1 w'  hr⟩) hx2) (rM rfl (rp (Pu.extract rfl rfl) (rp (Pu.extract rfl rfl) (rA rfl (rA rfl (RS.nil (hK2 _ _ (cq [(0, _), (3, _), (6, _), (7, _)] ?_))))))))
 refine T.seq fun K3 hK3 => T.seq fun K4 hK4 => T.region (rM rfl (RS.nil (hK4 _ _ ?_)))
 refine T.cond rfl (fun hc3 => ?_) (fun hc3 => ?_)
 ·have H := ifT hc3 H
  refine cq [] ?_
  refine T.seq fun K5 hK5 => T.region (rA rfl (rA rfl (RS.nil (hK5 _ _ ?_))))
  obtain rfl := sj H
  refine T.rt (Cont.ret2 rfl rfl rfl fun w' s => ?_)
  exact ⟨(none, 0), rfl, (s.nilRowG (α := Inp) 41).pick [1] (by decide) rfl⟩
 ·have H := ifB hc3 H
  refine T.skip (hK3 _ _ ?_)
  refine T.seq fun K6 hK6 => ?_
  refine T.drawnS [0] [(0, .pu), (2, .pu), (3, .wk), (1, .so), (4, .so), (5, .so), (6, .br), (7, .pu), (8, .pu)] mixed (by kernel_rfl) rfl ?_
  refine RD.p (fun w s => s.pick [0] (by decide) rfl) rfl (Pu.move rfl) rfl rfl (RD.p (fun w s => s.pick [0] (by decide) rfl) rfl (Pu.move rfl) rfl rfl ?_)
  refine RD.w (fun w s => s.pick [0] (by decide) rfl) rfl (Qt.ldBA (us := [_, _, _]) 0 ty41 rfl rfl rfl rfl) rfl rfl ?_
  obtain ⟨x4, hx4, H⟩ := bindE H
  refine RD.solid rfl (.inl rfl) rfl rfl (Sd.callN (vs := [.slice p0 a0_l.length c0]) ent89 rfl (fun w s => turns_OwnAll_walk a0_l w ((Rd.base h0) w s) hx4)) (fun _ => ClE.sat _ _) (fun _ w s => s.pick [0] (by decide) rfl) (fun _ _ _ s => s.drop1) fun q5 => ?_
  obtain ⟨x6, hx6, H⟩ := bindE H
  refine RD.solid rfl (.inl rfl) rfl rfl (Sd.callN (vs := [.agg #[.int .i64 a1_i.turn, .int .i64 a1_i.player, .slice p1 a1_i.commands.length c1]]) ent69 rfl (fun w s => turns_Own_walk a1_i w ((Rd.base h1) w s) hx6)) (fun _ => ClE.sat _ _) (fun _ w s => s.pick [0] (by decide) rfl) (fun _ _ _ s => s.drop1) fun q7 => ?_
  refine RD.solid rfl (.inl rfl) rfl rfl (Sd.litS (cs := [_, _, _]) sl22 zr41 rfl rfl rfl rfl rfl) (fun _ => ClE.sat _ _) (fun _ w s => s.pick [0] (by decide) rfl) (fun _ _ _ s => s.drop1) fun b8 => ?_
  obtain ⟨x9, hx9, H⟩ := bindE H
  refine RD.solid rfl (.inr rfl) rfl rfl (Sd.pre (fun w s => (Sat.starAt 1 3 (Sat.litRowG (α := Inp) (m := 1) 3 2 ([x6] : List Inp) (Sat.starAt 2 4 (Sat.starAt 2 5 ((s.noStars).noStars) rfl rfl (by decide)) rfl rfl (by decide)) rfl rfl (by decide) (by decide) rfl (DRF.cons' (α := Inp) (x := x6) (fun _ h => ⟨_, rfl, h⟩) DRF.nil')) rfl rfl (by decide))) (Sd.callM 1 ent93 rfl rfl (fun w s => slices_InsertI_walk x4 x2.1 ([x6] : List Inp) rfl hx9 w s))) (fun _ => ClE.sat _ _) (fun _ w s => s.pick [0] (by decide) rfl) (fun h => nomatch h) fun q10 => ?_
  refine RD.p (fun w s => s.pick [0] (by decide) rfl) rfl (Pu.assign rfl) rfl rfl (RD.p (fun w s => s.pick [0] (by decide) rfl) rfl (Pu.assign rfl) rfl rfl (RD.nil (hK6 _ _ (cq [(4, _), (5, _)] ?_))))
  obtain rfl := sj H
  refine T.rt (Cont.ret2 rfl rfl rfl fun w' s => ?_)
  exact ⟨q10, rfl, s.pick [1] (by decide) rfl⟩
end Go.Proofs.YtnadebijiaelkaaGreat
