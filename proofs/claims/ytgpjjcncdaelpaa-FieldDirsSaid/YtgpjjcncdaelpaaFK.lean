/-
  Walks of what the statements of the fields call themselves.
-/
import Derived.Test.YtgpjjcncdaelpaaRows
import Derived.Test.YtgpjjcncdaelpaaFI
set_option linter.unusedVariables false
set_option linter.unusedSimpArgs false
set_option maxRecDepth 20000
set_option maxHeartbeats 4000000
namespace Go.Proofs.Ytgpjjcncdaelpaa
open Go.Vg
open Enc (R)
theorem thronglaw13_num_walk (a0_e : Int) (w : World) {r : Int} (H : thronglaw13_num a0_e = some r) : Calls Try.prog 40 #[.int .i64 a0_e] w fun e w' => e = .returned (.int .i64 r) ∧ Ext w w' := by
 unfold thronglaw13_num at H
 refine T.enter (args := [_]) (S := Sat w []) Try.func40 rfl rfl (Sat.start w) ?_
 refine T.seq fun K1 hK1 => ?_
 refine T.region ?_
 refine RS.p (Pu.assign rfl) rfl rfl ?_
 refine RS.nil (hK1 _ _ ?_)
 refine T.seq fun K2 hK2 => ?_
 refine T.region ?_
 refine RS.p (Pu.move rfl) rfl rfl ?_
 refine RS.p (Pu.assign rfl) rfl rfl ?_
 refine RS.nil (hK2 _ _ ?_)
 obtain rfl := Option.some.inj H
 refine T.retTo (by with_reducible ((repeat (first | apply RetTo.seq | apply RetTo.blk)); exact RetTo.refl _)) (Cont.ret1 rfl rfl fun w' s => ?_)
 exact ⟨rfl, s.ext⟩
theorem thronglaw13_wakes_walk (w : World) {r : Bool} (H : thronglaw13_wakes = some r) : Calls Try.prog 44 #[] w fun e w' => e = .returned (.bool r) ∧ Ext w w' := by
 unfold thronglaw13_wakes at H
 refine T.enter (args := []) (S := Sat w []) Try.func44 rfl rfl (Sat.start w) ?_
 refine T.seq fun K1 hK1 => ?_
 refine T.region ?_
 refine RS.p (Pu.assign rfl) rfl rfl ?_
 refine RS.nil (hK1 _ _ ?_)
 refine T.seq fun K2 hK2 => ?_
 refine T.region ?_
 obtain ⟨g2, H⟩ := gdE H
 refine RS.solid (Sd.make (α := UInt8) (B := nilH) (0 : UInt8) sl22 zr5 rfl (by decide) rfl rfl (by omega) (by omega) (by omega)) rfl rfl fun b1 => ?_
 refine RS.p (Pu.build (cells := [_, _, _]) st24 rfl rfl) rfl rfl ?_
 obtain ⟨x3, hx3, H⟩ := bindE H
 refine RS.solid (Sd.callN (vs := [.agg #[.int .i64 2, .int .i64 1, rowV (some b1, (2 : Int).toNat) ((2 : Int).toNat)], .slice none 0 0, .int .i64 0, .int .i64 0, .int .i64 1]) ent39 rfl (fun w s => field_Make_walk (⟨2, 1, (List.replicate (2 : Int).toNat (0 : UInt8))⟩ : Grd) [] 0 0 1 w ((Rd.ofRowN 0 rfl) w s) ((Rd.nil (α := Bld)) w s) hx3)) rfl rfl fun q4 => ?_
 refine RS.p (Pu.move rfl) rfl rfl ?_
 refine RS.p (Pu.extract rfl rfl) rfl rfl ?_
 refine RS.p (Pu.extract rfl rfl) rfl rfl ?_
 refine RS.p (Pu.assign rfl) rfl rfl ?_
 refine RS.p (Pu.assign rfl) rfl rfl ?_
 refine RS.nil (hK2 _ _ (T.conseq (fr' := [(1, _), (2, _)]) ?_ ⟨rfl, rfl, trivial⟩ (fun _ s => s)))
 refine T.seq fun K3 hK3 => ?_
 refine T.region ?_
 refine RS.p (Pu.move rfl) rfl rfl ?_
 obtain ⟨x5, hx5, H⟩ := bindE H
 refine RS.q (Qt.call (vs := [.int .i64 x3.2]) ent40 rfl fun w s => thronglaw13_num_walk x3.2 w  hx5) rfl rfl ?_
 refine RS.p (Pu.bin rfl rfl rfl) rfl rfl ?_
 refine RS.p (Pu.move rfl) rfl rfl ?_
 refine RS.joinB H 4 16 (fun b8 => .bool b8) [] trivial ?_ ?_
 ·intro b8 H
  refine RS.p (Pu.assign rfl) rfl rfl ?_
  refine RS.nil (hK3 _ _ ?_)
  obtain rfl := Option.some.inj H
  refine T.retTo (by with_reducible ((repeat (first | apply RetTo.seq | apply RetTo.blk)); exact RetTo.refl _)) (Cont.ret1 rfl rfl fun w' s => ?_)
  exact ⟨rfl, s.ext⟩
 ·intro z9 H hJ7
  refine RS.splitP 12 rfl (fun hc6 => ?_) (fun hc6 => ?_)
  ·have H := ifT hc6 H
   refine RS.p (Pu.move rfl) rfl rfl ?_
   refine RS.solid (Sd.litS (cs := [_, _]) sl26 zr3 rfl rfl rfl rfl rfl) rfl rfl fun b10 => ?_
   refine RS.weakS (fun w s => s.litRow (α := Int) (n := 2) 2 [20, 0] rfl (by decide) rfl ⟨[_], _, rfl, rfl, ⟨[_], _, rfl, rfl, rfl⟩⟩) ?_
   obtain ⟨x11, hx11, H⟩ := bindE H
   refine RS.q (Qt.call (vs := [rowV q4 x3.1.length, rowV (some b10, 2) 2]) ent41 rfl fun w s => throngref0_EqNumbers_walk x3.1 [20, 0] w ((Rd.ofRowN 1 rfl) w s) ((Rd.ofRowN 2 rfl) w s) hx11) rfl rfl ?_
   refine RS.p (Pu.pickT rfl rfl) rfl rfl ?_
   obtain rfl := Option.some.inj H
   exact hJ7 _ _ ⟨rfl, trivial⟩ (fun w s => s.pick [0, 1] (by decide) rfl)
  ·have H := ifF hc6 H
   refine RS.no rfl rfl ?_
   refine RS.no rfl rfl ?_
   refine RS.no rfl rfl ?_
   refine RS.p (Pu.pickF rfl rfl) rfl rfl ?_
   obtain rfl := Option.some.inj H
   exact hJ7 _ _ ⟨rfl, trivial⟩ (fun w s => s)
theorem thronglaw13_Heavy_walk (a0_p : Ask13) (w : World) {v0 v1 v2 : Value} (h0 : R (hpOf w) a0_p.g.tiles [v0]) (h1 : R (hpOf w) a0_p.l [v1]) (h2 : R (hpOf w) a0_p.ts [v2]) {r : Bool} (H : thronglaw13_Heavy a0_p = some r) : Calls Try.prog 34 #[.agg #[.int .i64 a0_p.g.w, .int .i64 a0_p.g.h, v0, v1, .int .i64 a0_p.cls, .int .i64 a0_p.size, v2]] w fun e w' => e = .returned (.bool r) ∧ Ext w w' := by
 have hm0 := R_max h0
 obtain ⟨p0, c0, rfl⟩ := R_form h0
 have hm1 := R_max h1
 obtain ⟨p1, c1, rfl⟩ := R_form h1
 have hm2 := R_max h2
 obtain ⟨p2, c2, rfl⟩ := R_form h2
 unfold thronglaw13_Heavy at H
 refine T.enter (args := [_]) (S := Sat w []) Try.func34 rfl rfl (Sat.start w) ?_
 refine T.seq fun K1 hK1 => ?_
 refine T.region ?_
 refine RS.solid (Sd.box (cs := [_, _, _, _, _, _, _]) rfl rfl) rfl rfl fun b1 => ?_
 refine RS.p (Pu.assign rfl) rfl rfl ?_
 refine RS.nil (hK1 _ _ ?_)
 refine T.seq fun K2 hK2 => ?_
 refine T.region ?_
 refine RS.p (Pu.fieldAddr fd56_0 rfl) rfl rfl ?_
 refine RS.q (Qt.ldBA (us := [_, _, _]) 0 ty24 rfl rfl rfl rfl) rfl rfl ?_
 refine RS.p (Pu.fieldAddr fd56_1 rfl) rfl rfl ?_
 refine RS.q (Qt.ldB 0 ty25 rfl rfl rfl) rfl rfl ?_
 obtain ⟨x2, hx2, H⟩ := bindE H
 refine RS.q (Qt.call (vs := [.agg #[.int .i64 a0_p.g.w, .int .i64 a0_p.g.h, .slice p0 a0_p.g.tiles.length c0], .slice p1 a0_p.l.length c1]) ent53 rfl fun w s => thronglaw0_Great_walk a0_p.g a0_p.l w ((Rd.base h0) w s) ((Rd.base h1) w s) hx2) rfl rfl ?_
 refine RS.p (Pu.move rfl) rfl rfl ?_
 refine RS.joinV 5 13 (.bool (decide ((x2 = true) ∨ (30 < (a0_p.ts.length : Int))))) [(2, _)] ⟨rfl, trivial⟩ ?_ ?_
 ·refine RS.p (Pu.assign rfl) rfl rfl ?_
  refine RS.nil (hK2 _ _ ?_)
  obtain rfl := Option.some.inj H
  refine T.retTo (by with_reducible ((repeat (first | apply RetTo.seq | apply RetTo.blk)); exact RetTo.refl _)) (Cont.ret1 rfl rfl fun w' s => ?_)
  exact ⟨rfl, s.ext⟩
 ·intro hJ4
  refine RS.split 8 rfl (fun hc3 => ?_) (fun hc3 => ?_)
  ·refine RS.no rfl rfl ?_
   refine RS.no rfl rfl ?_
   refine RS.no rfl rfl ?_
   refine RS.no rfl rfl ?_
   refine RS.p (Pu.pickT rfl rfl) rfl rfl ?_
   exact hJ4 _ _ ⟨dOrT hc3, rfl, trivial⟩ (fun w s => s)
  ·refine RS.p (Pu.fieldAddr fd56_4 rfl) rfl rfl ?_
   refine RS.q (Qt.ldB 0 ty26 rfl rfl rfl) rfl rfl ?_
   refine RS.p (Pu.lenSl sl26 rfl) rfl rfl ?_
   refine RS.p (Pu.bin rfl rfl rfl) rfl rfl ?_
   refine RS.p (Pu.pickF rfl rfl) rfl rfl ?_
   exact hJ4 _ _ ⟨dOrF (bne_of hc3), rfl, trivial⟩ (fun w s => s)
theorem thronglaw13_form_walk (a0_p : Ask13) (w : World) {v0 v1 v2 : Value} (h0 : R (hpOf w) a0_p.g.tiles [v0]) (h1 : R (hpOf w) a0_p.l [v1]) (h2 : R (hpOf w) a0_p.ts [v2]) {r : Int} (H : thronglaw13_form a0_p = some r) : Calls Try.prog 35 #[.agg #[.int .i64 a0_p.g.w, .int .i64 a0_p.g.h, v0, v1, .int .i64 a0_p.cls, .int .i64 a0_p.size, v2]] w fun e w' => e = .returned (.int .i64 r) ∧ Ext w w' := by
 have hm0 := R_max h0
 obtain ⟨p0, c0, rfl⟩ := R_form h0
 have hm1 := R_max h1
 obtain ⟨p1, c1, rfl⟩ := R_form h1
 have hm2 := R_max h2
 obtain ⟨p2, c2, rfl⟩ := R_form h2
 unfold thronglaw13_form at H
 refine T.enter (args := [_]) (S := Sat w []) Try.func35 rfl rfl (Sat.start w) ?_
 refine T.seq fun K1 hK1 => ?_
 refine T.region ?_
 refine RS.solid (Sd.box (cs := [_, _, _, _, _, _, _]) rfl rfl) rfl rfl fun b1 => ?_
 refine RS.p (Pu.assign rfl) rfl rfl ?_
 refine RS.nil (hK1 _ _ ?_)
 refine T.seq fun K2 hK2 => ?_
 refine T.seq fun K3 hK3 => ?_
 refine T.region ?_
 refine RS.p (Pu.fieldAddr fd56_0 rfl) rfl rfl ?_
 refine RS.q (Qt.ldBA (us := [_, _, _]) 0 ty24 rfl rfl rfl rfl) rfl rfl ?_
 refine RS.p (Pu.fieldAddr fd56_1 rfl) rfl rfl ?_
 refine RS.q (Qt.ldB 0 ty25 rfl rfl rfl) rfl rfl ?_
 refine RS.p (Pu.fieldAddr fd56_2 rfl) rfl rfl ?_
 refine RS.q (Qt.ldB 0 ty3 rfl rfl rfl) rfl rfl ?_
 refine RS.p (Pu.fieldAddr fd56_3 rfl) rfl rfl ?_
 refine RS.q (Qt.ldB 0 ty3 rfl rfl rfl) rfl rfl ?_
 obtain ⟨x2, hx2, H⟩ := bindE H
 refine RS.q (Qt.call (vs := [.agg #[.int .i64 a0_p.g.w, .int .i64 a0_p.g.h, .slice p0 a0_p.g.tiles.length c0], .slice p1 a0_p.l.length c1, .int .i64 a0_p.cls, .int .i64 a0_p.size]) ent45 rfl fun w s => throngref13_May_walk a0_p.g a0_p.l a0_p.cls a0_p.size w ((Rd.base h0) w s) ((Rd.base h1) w s) hx2) rfl rfl ?_
 refine RS.nil (hK3 _ _ ?_)
 refine T.cond rfl (fun hc3 => ?_) (fun hc3 => ?_)
 ·have H := ifT hc3 H
  refine T.conseq (fr' := []) ?_ trivial (fun _ s => s)
  refine T.seq fun K4 hK4 => ?_
  refine T.region ?_
  refine RS.p (Pu.assign rfl) rfl rfl ?_
  refine RS.nil (hK4 _ _ ?_)
  obtain rfl := Option.some.inj H
  refine T.retTo (by with_reducible ((repeat (first | apply RetTo.seq | apply RetTo.blk)); exact RetTo.refl _)) (Cont.ret1 rfl rfl fun w' s => ?_)
  exact ⟨rfl, s.ext⟩
 ·have H := ifB hc3 H
  refine T.skip (hK2 _ _ (T.conseq (fr' := []) ?_ trivial (fun _ s => s)))
  refine T.seq fun K5 hK5 => ?_
  refine T.region ?_
  refine RS.p (Pu.assign rfl) rfl rfl ?_
  refine RS.nil (hK5 _ _ ?_)
  obtain rfl := Option.some.inj H
  refine T.retTo (by with_reducible ((repeat (first | apply RetTo.seq | apply RetTo.blk)); exact RetTo.refl _)) (Cont.ret1 rfl rfl fun w' s => ?_)
  exact ⟨rfl, s.ext⟩
theorem thronglaw13_cost_walk (a0_g : Grd) (a1_class : Int) (a2_t : Int) (a3_u : Int) (w : World) {v0 : Value} (h0 : R (hpOf w) a0_g.tiles [v0]) {r : Int} (H : thronglaw13_cost a0_g a1_class a2_t a3_u = some r) : Calls Try.prog 52 #[.agg #[.int .i64 a0_g.w, .int .i64 a0_g.h, v0], .int .i64 a1_class, .int .i64 a2_t, .int .i64 a3_u] w fun e w' => e = .returned (.int .i64 r) ∧ Ext w w' := by
 have hm0 := R_max h0
 obtain ⟨p0, c0, rfl⟩ := R_form h0
 unfold thronglaw13_cost at H
 refine T.enter (args := [_, _, _, _]) (S := Sat w []) Try.func52 rfl rfl (Sat.start w) ?_
 refine T.seq fun K1 hK1 => ?_
 refine T.region ?_
 refine RS.solid (Sd.box (cs := [_, _, _]) rfl rfl) rfl rfl fun b1 => ?_
 refine RS.p (Pu.assign rfl) rfl rfl ?_
 refine RS.nil (hK1 _ _ ?_)
 refine T.seq fun K2 hK2 => ?_
 refine T.drawn (fun _ => True) [(0, .pu), (1, .pu), (2, .rd), (3, .pu), (4, .pu), (5, .rd), (6, .rd), (7, .pu), (8, .pu), (9, .rd), (10, .pu), (11, .pu), (12, .rd), (13, .rd), (14, .pu), (15, .pu)] mixed (ClE.sat _ _) (by kernel_rfl) ?_
 refine RD.p (fun _ _ => trivial) rfl (Pu.move rfl) rfl rfl ?_
 refine RD.p (fun _ _ => trivial) rfl (Pu.fieldAddr fd24_2 rfl) rfl rfl ?_
 refine RD.q (fun _ _ => trivial) rfl (Qt.ldB 0 ty22 rfl rfl rfl) rfl rfl ?_
 refine RD.p (fun _ _ => trivial) rfl (Pu.move rfl) rfl rfl ?_
 obtain ⟨g2, H⟩ := gdE H
 obtain ⟨bl3, ol4, rfl⟩ := R_ptr h0 (ne_of_pos (pos_of g2))
 refine RD.p (fun _ _ => trivial) rfl (Pu.indexSl sl22 rfl rfl g2) rfl rfl ?_
 refine RD.q (fun _ _ => trivial) rfl (Qt.ld0 (α := UInt8) (Rd.base h0) ty5 rfl rfl g2 (by rintro _ _ rfl; rfl)) rfl rfl ?_
 obtain ⟨x5, hx5, H⟩ := bindE H
 refine RD.q (fun _ _ => trivial) rfl (Qt.call (vs := [.int .i64 a1_class, .int .u8 ((gi a0_g.tiles a2_t).toNat : Int)]) ent83 rfl fun w s => throngref5_Cost_walk a1_class ((gi a0_g.tiles a2_t).toNat : Int) w  hx5) rfl rfl ?_
 refine RD.p (fun _ _ => trivial) rfl (Pu.move rfl) rfl rfl ?_
 refine RD.p (fun _ _ => trivial) rfl (Pu.fieldAddr fd24_2 rfl) rfl rfl ?_
 refine RD.q (fun _ _ => trivial) rfl (Qt.ldB 0 ty22 rfl rfl rfl) rfl rfl ?_
 refine RD.p (fun _ _ => trivial) rfl (Pu.move rfl) rfl rfl ?_
 obtain ⟨g6, H⟩ := gdE H
 refine RD.p (fun _ _ => trivial) rfl (Pu.indexSl sl22 rfl rfl g6) rfl rfl ?_
 refine RD.q (fun _ _ => trivial) rfl (Qt.ld0 (α := UInt8) (Rd.base h0) ty5 rfl rfl g6 (by rintro _ _ rfl; rfl)) rfl rfl ?_
 obtain ⟨x7, hx7, H⟩ := bindE H
 refine RD.q (fun _ _ => trivial) rfl (Qt.call (vs := [.int .i64 a1_class, .int .u8 ((gi a0_g.tiles a3_u).toNat : Int)]) ent83 rfl fun w s => throngref5_Cost_walk a1_class ((gi a0_g.tiles a3_u).toNat : Int) w  hx7) rfl rfl ?_
 obtain ⟨g8, H⟩ := gdE H
 refine RD.p (fun _ _ => trivial) rfl (Pu.addS rfl rfl g8) rfl rfl ?_
 refine RD.p (fun _ _ => trivial) rfl (Pu.assign rfl) rfl rfl ?_
 refine RD.nil (hK2 _ _ (T.conseq (fr' := [(2, _), (3, _), (4, _), (9, _)]) ?_ ⟨rfl, rfl, rfl, rfl, trivial⟩ (fun _ s => s)))
 refine T.seq fun K3 hK3 => ?_
 refine T.seq fun K4 hK4 => ?_
 refine T.drawn (fun _ => True) [(0, .pu), (1, .pu), (2, .rd), (3, .pu), (4, .pu), (5, .pu), (6, .rd), (7, .pu), (8, .pu), (9, .pu), (10, .pu), (11, .pu), (12, .rd), (13, .pu), (14, .pu), (15, .pu), (16, .rd), (17, .pu), (18, .pu), (19, .pu)] mixed (ClE.sat _ _) (by kernel_rfl) ?_
 refine RD.p (fun _ _ => trivial) rfl (Pu.move rfl) rfl rfl ?_
 refine RD.p (fun _ _ => trivial) rfl (Pu.fieldAddr fd24_0 rfl) rfl rfl ?_
 refine RD.q (fun _ _ => trivial) rfl (Qt.ldB 0 ty3 rfl rfl rfl) rfl rfl ?_
 obtain ⟨g9, H⟩ := gdE H
 refine RD.p (fun _ _ => trivial) rfl (Pu.remN rfl rfl (and3 g9)) rfl rfl ?_
 refine RD.p (fun _ _ => trivial) rfl (Pu.move rfl) rfl rfl ?_
 refine RD.p (fun _ _ => trivial) rfl (Pu.fieldAddr fd24_0 rfl) rfl rfl ?_
 refine RD.q (fun _ _ => trivial) rfl (Qt.ldB 0 ty3 rfl rfl rfl) rfl rfl ?_
 obtain ⟨g10, H⟩ := gdE H
 refine RD.p (fun _ _ => trivial) rfl (Pu.remN rfl rfl (and3 g10)) rfl rfl ?_
 refine RD.p (fun _ _ => trivial) rfl (Pu.bin rfl rfl rfl) rfl rfl ?_
 refine RD.p (fun _ _ => trivial) rfl (Pu.move rfl) rfl rfl ?_
 obtain ⟨g13, H⟩ := gdE H
 obtain ⟨g14, H⟩ := gdE H
 refine RD.joinV 10 44 (.bool (decide (((a2_t % a0_g.w) = (a3_u % a0_g.w)) ∨ ((a2_t / a0_g.w) = (a3_u / a0_g.w))))) [(9, _)] ⟨rfl, trivial⟩ ?_ ?_
 ·refine RD.nil (hK4 _ _ ?_)
  refine T.condP rfl (fun hc15 => ?_) (fun hc15 => ?_)
  ·have H := ifT hc15 H
   refine T.seq fun K5 hK5 => ?_
   refine T.region ?_
   refine RS.p (Pu.move rfl) rfl rfl ?_
   obtain ⟨g16, H⟩ := gdE H
   refine RS.p (Pu.mulS rfl rfl g16) rfl rfl ?_
   refine RS.p (Pu.assign rfl) rfl rfl ?_
   refine RS.nil (hK5 _ _ (T.conseq (fr' := [(8, _)]) ?_ ⟨rfl, trivial⟩ (fun _ s => s)))
   obtain rfl := Option.some.inj H
   refine T.retTo (by with_reducible ((repeat (first | apply RetTo.seq | apply RetTo.blk)); exact RetTo.refl _)) (Cont.ret1 rfl rfl fun w' s => ?_)
   exact ⟨rfl, s.ext⟩
  ·have H := ifF hc15 H
   refine T.skip (hK3 _ _ ?_)
   refine T.seq fun K6 hK6 => ?_
   refine T.region ?_
   refine RS.p (Pu.move rfl) rfl rfl ?_
   obtain ⟨g17, H⟩ := gdE H
   refine RS.p (Pu.mulS rfl rfl g17) rfl rfl ?_
   refine RS.p (Pu.assign rfl) rfl rfl ?_
   refine RS.nil (hK6 _ _ (T.conseq (fr' := [(8, _)]) ?_ ⟨rfl, trivial⟩ (fun _ s => s)))
   obtain rfl := Option.some.inj H
   refine T.retTo (by with_reducible ((repeat (first | apply RetTo.seq | apply RetTo.blk)); exact RetTo.refl _)) (Cont.ret1 rfl rfl fun w' s => ?_)
   exact ⟨rfl, s.ext⟩
 ·intro hJ12
  refine RD.splitP 34 rfl (fun hc11 => ?_) (fun hc11 => ?_)
  ·refine RD.no (fun _ _ => trivial) rfl rfl rfl (.inl rfl) ?_
   refine RD.no (fun _ _ => trivial) rfl rfl rfl (.inl rfl) ?_
   refine RD.no (fun _ _ => trivial) rfl rfl rfl (.inr (.inr rfl)) ?_
   refine RD.no (fun _ _ => trivial) rfl rfl rfl (.inl rfl) ?_
   refine RD.no (fun _ _ => trivial) rfl rfl rfl (.inl rfl) ?_
   refine RD.no (fun _ _ => trivial) rfl rfl rfl (.inl rfl) ?_
   refine RD.no (fun _ _ => trivial) rfl rfl rfl (.inr (.inr rfl)) ?_
   refine RD.no (fun _ _ => trivial) rfl rfl rfl (.inl rfl) ?_
   refine RD.no (fun _ _ => trivial) rfl rfl rfl (.inl rfl) ?_
   refine RD.p (fun _ _ => trivial) rfl (Pu.pickT rfl rfl) rfl rfl ?_
   exact hJ12 _ ⟨dOrT hc11, rfl, trivial⟩
  ·refine RD.p (fun _ _ => trivial) rfl (Pu.move rfl) rfl rfl ?_
   refine RD.p (fun _ _ => trivial) rfl (Pu.fieldAddr fd24_0 rfl) rfl rfl ?_
   refine RD.q (fun _ _ => trivial) rfl (Qt.ldB 0 ty3 rfl rfl rfl) rfl rfl ?_
   refine RD.p (fun _ _ => trivial) rfl (Pu.quoN rfl rfl (g13 hc11)) rfl rfl ?_
   refine RD.p (fun _ _ => trivial) rfl (Pu.move rfl) rfl rfl ?_
   refine RD.p (fun _ _ => trivial) rfl (Pu.fieldAddr fd24_0 rfl) rfl rfl ?_
   refine RD.q (fun _ _ => trivial) rfl (Qt.ldB 0 ty3 rfl rfl rfl) rfl rfl ?_
   refine RD.p (fun _ _ => trivial) rfl (Pu.quoN rfl rfl (g14 hc11)) rfl rfl ?_
   refine RD.p (fun _ _ => trivial) rfl (Pu.bin rfl rfl rfl) rfl rfl ?_
   refine RD.p (fun _ _ => trivial) rfl (Pu.pickF rfl rfl) rfl rfl ?_
   exact hJ12 _ ⟨dOrF hc11, rfl, trivial⟩
theorem sector_across_walk (a0_n : Int) (w : World) {r : Int} (H : sector_across a0_n = some r) : Calls Try.prog 80 #[.int .i64 a0_n] w fun e w' => e = .returned (.int .i64 r) ∧ Ext w w' := by
 unfold sector_across at H
 refine T.enter (args := [_]) (S := Sat w []) Try.func80 rfl rfl (Sat.start w) ?_
 refine T.seq fun K1 hK1 => ?_
 refine T.region ?_
 refine RS.p (Pu.assign rfl) rfl rfl ?_
 refine RS.nil (hK1 _ _ ?_)
 refine T.seq fun K2 hK2 => ?_
 refine T.region ?_
 refine RS.p (Pu.move rfl) rfl rfl ?_
 obtain ⟨g1, H⟩ := gdE H
 refine RS.p (Pu.addS rfl rfl g1) rfl rfl ?_
 obtain ⟨g2, H⟩ := gdE H
 refine RS.p (Pu.subS rfl rfl g2) rfl rfl ?_
 obtain ⟨g3, H⟩ := gdE H
 refine RS.p (Pu.quoN rfl rfl ⟨g3.1, g3.2, by decide⟩) rfl rfl ?_
 refine RS.p (Pu.assign rfl) rfl rfl ?_
 refine RS.nil (hK2 _ _ (T.conseq (fr' := [(2, _)]) ?_ ⟨rfl, trivial⟩ (fun _ s => s)))
 obtain rfl := Option.some.inj H
 refine T.retTo (by with_reducible ((repeat (first | apply RetTo.seq | apply RetTo.blk)); exact RetTo.refl _)) (Cont.ret1 rfl rfl fun w' s => ?_)
 exact ⟨rfl, s.ext⟩
theorem sector_May_walk (a0_w : Int) (a1_h : Int) (w : World) {r : Bool} (H : sector_May a0_w a1_h = some r) : Calls Try.prog 79 #[.int .i64 a0_w, .int .i64 a1_h] w fun e w' => e = .returned (.bool r) ∧ Ext w w' := by
 unfold sector_May at H
 refine T.enter (args := [_, _]) (S := Sat w []) Try.func79 rfl rfl (Sat.start w) ?_
 refine T.seq fun K1 hK1 => ?_
 refine T.region ?_
 refine RS.p (Pu.assign rfl) rfl rfl ?_
 refine RS.nil (hK1 _ _ ?_)
 refine T.seq fun K2 hK2 => ?_
 refine T.region ?_
 refine RS.p (Pu.move rfl) rfl rfl ?_
 obtain ⟨x1, hx1, H⟩ := bindE H
 refine RS.q (Qt.call (vs := [.int .i64 a0_w]) ent84 rfl fun w s => ground_Side_walk a0_w w  hx1) rfl rfl ?_
 refine RS.p (Pu.move rfl) rfl rfl ?_
 refine RS.joinB H 3 10 (fun b4 => .bool b4) [(4, _)] ⟨rfl, trivial⟩ ?_ ?_
 ·intro b4 H
  refine RS.p (Pu.assign rfl) rfl rfl ?_
  refine RS.nil (hK2 _ _ ?_)
  obtain rfl := Option.some.inj H
  refine T.retTo (by with_reducible ((repeat (first | apply RetTo.seq | apply RetTo.blk)); exact RetTo.refl _)) (Cont.ret1 rfl rfl fun w' s => ?_)
  exact ⟨rfl, s.ext⟩
 ·intro z5 H hJ3
  refine RS.split 7 rfl (fun hc2 => ?_) (fun hc2 => ?_)
  ·have H := ifT hc2 H
   refine RS.p (Pu.move rfl) rfl rfl ?_
   obtain ⟨x6, hx6, H⟩ := bindE H
   refine RS.q (Qt.call (vs := [.int .i64 a1_h]) ent84 rfl fun w s => ground_Side_walk a1_h w  hx6) rfl rfl ?_
   refine RS.p (Pu.pickT rfl rfl) rfl rfl ?_
   obtain rfl := Option.some.inj H
   exact hJ3 _ _ ⟨rfl, rfl, trivial⟩ (fun w s => s)
  ·have H := ifB hc2 H
   refine RS.no rfl rfl ?_
   refine RS.no rfl rfl ?_
   refine RS.p (Pu.pickF rfl rfl) rfl rfl ?_
   obtain rfl := Option.some.inj H
   exact hJ3 _ _ ⟨rfl, rfl, trivial⟩ (fun w s => s)
theorem sector_Count_walk (a0_w : Int) (a1_h : Int) (w : World) {r : Int × Int} (H : sector_Count a0_w a1_h = some r) : Calls Try.prog 48 #[.int .i64 a0_w, .int .i64 a1_h] w fun e w' => e = .returned (.tuple #[.int .i64 r.1, .int .i64 r.2]) ∧ Ext w w' := by
 unfold sector_Count at H
 refine T.enter (args := [_, _]) (S := Sat w []) Try.func48 rfl rfl (Sat.start w) ?_
 refine T.seq fun K1 hK1 => ?_
 refine T.region ?_
 refine RS.p (Pu.assign rfl) rfl rfl ?_
 refine RS.p (Pu.assign rfl) rfl rfl ?_
 refine RS.nil (hK1 _ _ ?_)
 refine T.seq fun K2 hK2 => ?_
 refine T.seq fun K3 hK3 => ?_
 refine T.region ?_
 refine RS.p (Pu.move rfl) rfl rfl ?_
 refine RS.p (Pu.move rfl) rfl rfl ?_
 obtain ⟨x1, hx1, H⟩ := bindE H
 refine RS.q (Qt.call (vs := [.int .i64 a0_w, .int .i64 a1_h]) ent79 rfl fun w s => sector_May_walk a0_w a1_h w  hx1) rfl rfl ?_
 refine RS.p (Pu.not rfl) rfl rfl ?_
 refine RS.nil (hK3 _ _ ?_)
 refine T.cond rfl (fun hc2 => ?_) (fun hc2 => ?_)
 ·have H := ifT hc2 H
  refine T.conseq (fr' := []) ?_ trivial (fun _ s => s)
  refine T.seq fun K4 hK4 => ?_
  refine T.region ?_
  refine RS.p (Pu.assign rfl) rfl rfl ?_
  refine RS.p (Pu.assign rfl) rfl rfl ?_
  refine RS.nil (hK4 _ _ ?_)
  obtain rfl := Option.some.inj H
  refine T.retTo (by with_reducible ((repeat (first | apply RetTo.seq | apply RetTo.blk)); exact RetTo.refl _)) (Cont.ret2 rfl rfl rfl fun w' s => ?_)
  exact ⟨rfl, s.ext⟩
 ·have H := ifB hc2 H
  refine T.skip (hK2 _ _ (T.conseq (fr' := [(0, _), (1, _)]) ?_ ⟨rfl, rfl, trivial⟩ (fun _ s => s)))
  refine T.seq fun K5 hK5 => ?_
  refine T.region ?_
  refine RS.p (Pu.move rfl) rfl rfl ?_
  obtain ⟨x3, hx3, H⟩ := bindE H
  refine RS.q (Qt.call (vs := [.int .i64 a0_w]) ent80 rfl fun w s => sector_across_walk a0_w w  hx3) rfl rfl ?_
  refine RS.p (Pu.move rfl) rfl rfl ?_
  obtain ⟨x4, hx4, H⟩ := bindE H
  refine RS.q (Qt.call (vs := [.int .i64 a1_h]) ent80 rfl fun w s => sector_across_walk a1_h w  hx4) rfl rfl ?_
  obtain ⟨g5, H⟩ := gdE H
  refine RS.p (Pu.mulS rfl rfl g5) rfl rfl ?_
  refine RS.p (Pu.assign rfl) rfl rfl ?_
  refine RS.p (Pu.assign rfl) rfl rfl ?_
  refine RS.nil (hK5 _ _ (T.conseq (fr' := [(4, _), (5, _)]) ?_ ⟨rfl, rfl, trivial⟩ (fun _ s => s)))
  obtain rfl := Option.some.inj H
  refine T.retTo (by with_reducible ((repeat (first | apply RetTo.seq | apply RetTo.blk)); exact RetTo.refl _)) (Cont.ret2 rfl rfl rfl fun w' s => ?_)
  exact ⟨rfl, s.ext⟩
end Go.Proofs.Ytgpjjcncdaelpaa
