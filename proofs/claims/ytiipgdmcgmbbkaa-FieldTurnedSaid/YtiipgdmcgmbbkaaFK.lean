/-
  Walks of what the statements of the fields call themselves.
-/
import Derived.Test.YtiipgdmcgmbbkaaRows
import Derived.Test.YtiipgdmcgmbbkaaFI
set_option linter.unusedVariables false
set_option linter.unusedSimpArgs false
set_option maxRecDepth 20000
set_option maxHeartbeats 4000000
namespace Go.Proofs.Ytiipgdmcgmbbkaa
open Go.Vg
open Enc (R)
theorem thronglaw13_num_walk (a0_e : Int) (w : World) {r : Int} (H : thronglaw13_num a0_e = some r) : Calls Try.prog 8 #[.int .i64 a0_e] w fun e w' => e = .returned (.int .i64 r) ∧ Ext w w' := by
 unfold thronglaw13_num at H
 refine T.enter (args := [_]) (S := Sat w []) Try.func8 rfl rfl (Sat.start w) ?_
 refine T.seq fun K1 hK1 => ?_
 refine T.region ?_
 refine RS.p (Pu.assign rfl) rfl rfl ?_
 refine RS.nil (hK1 _ _ ?_)
 refine T.seq fun K2 hK2 => ?_
 refine T.region ?_
 refine RS.p (Pu.move rfl) rfl rfl ?_
 refine RS.p (Pu.assign rfl) rfl rfl ?_
 refine RS.nil (hK2 _ _ ?_)
 obtain rfl := Option.some.inj H
 refine T.retTo (by with_reducible ((repeat (first | apply RetTo.seq | apply RetTo.blk)); exact RetTo.refl _)) (Cont.ret1 rfl rfl fun w' s => ?_)
 exact ⟨rfl, s.ext⟩
theorem thronglaw13_wakes_walk (w : World) {r : Bool} (H : thronglaw13_wakes = some r) : Calls Try.prog 9 #[] w fun e w' => e = .returned (.bool r) ∧ Ext w w' := by
 unfold thronglaw13_wakes at H
 refine T.enter (args := []) (S := Sat w []) Try.func9 rfl rfl (Sat.start w) ?_
 refine T.seq fun K1 hK1 => ?_
 refine T.region ?_
 refine RS.p (Pu.assign rfl) rfl rfl ?_
 refine RS.nil (hK1 _ _ ?_)
 refine T.seq fun K2 hK2 => ?_
 refine T.region ?_
 obtain ⟨g2, H⟩ := gdE H
 refine RS.solid (Sd.make (α := UInt8) (B := nilH) (0 : UInt8) sl22 zr5 rfl (by decide) rfl rfl (by omega) (by omega) (by omega)) rfl rfl fun b1 => ?_
 refine RS.p (Pu.build (cells := [_, _, _]) st24 rfl rfl) rfl rfl ?_
 obtain ⟨x3, hx3, H⟩ := bindE H
 refine RS.solid (Sd.callN (vs := [.agg #[.int .i64 2, .int .i64 1, rowV (some b1, (2 : Int).toNat) ((2 : Int).toNat)], .slice none 0 0, .int .i64 0, .int .i64 0, .int .i64 1]) ent7 rfl (fun w s => field_Make_walk (⟨2, 1, (List.replicate (2 : Int).toNat (0 : UInt8))⟩ : Grd) [] 0 0 1 w ((Rd.ofRowN 0 rfl) w s) ((Rd.nil (α := Bld)) w s) hx3)) rfl rfl fun q4 => ?_
 refine RS.p (Pu.move rfl) rfl rfl ?_
 refine RS.p (Pu.extract rfl rfl) rfl rfl ?_
 refine RS.p (Pu.extract rfl rfl) rfl rfl ?_
 refine RS.p (Pu.assign rfl) rfl rfl ?_
 refine RS.p (Pu.assign rfl) rfl rfl ?_
 refine RS.nil (hK2 _ _ (T.conseq (fr' := [(1, _), (2, _)]) ?_ ⟨rfl, rfl, trivial⟩ (fun _ s => s)))
 refine T.seq fun K3 hK3 => ?_
 refine T.region ?_
 refine RS.p (Pu.move rfl) rfl rfl ?_
 obtain ⟨x5, hx5, H⟩ := bindE H
 refine RS.q (Qt.call (vs := [.int .i64 x3.2]) ent8 rfl fun w s => thronglaw13_num_walk x3.2 w  hx5) rfl rfl ?_
 refine RS.p (Pu.bin rfl rfl rfl) rfl rfl ?_
 refine RS.p (Pu.move rfl) rfl rfl ?_
 refine RS.joinB H 4 16 (fun b8 => .bool b8) [] trivial ?_ ?_
 ·intro b8 H
  refine RS.p (Pu.assign rfl) rfl rfl ?_
  refine RS.nil (hK3 _ _ ?_)
  obtain rfl := Option.some.inj H
  refine T.retTo (by with_reducible ((repeat (first | apply RetTo.seq | apply RetTo.blk)); exact RetTo.refl _)) (Cont.ret1 rfl rfl fun w' s => ?_)
  exact ⟨rfl, s.ext⟩
 ·intro z9 H hJ7
  refine RS.splitP 12 rfl (fun hc6 => ?_) (fun hc6 => ?_)
  ·have H := ifT hc6 H
   refine RS.p (Pu.move rfl) rfl rfl ?_
   refine RS.solid (Sd.litS (cs := [_, _]) sl26 zr3 rfl rfl rfl rfl rfl) rfl rfl fun b10 => ?_
   refine RS.weakS (fun w s => s.litRow (α := Int) (n := 2) 2 [20, 0] rfl (by decide) rfl ⟨[_], _, rfl, rfl, ⟨[_], _, rfl, rfl, rfl⟩⟩) ?_
   obtain ⟨x11, hx11, H⟩ := bindE H
   refine RS.q (Qt.call (vs := [rowV q4 x3.1.length, rowV (some b10, 2) 2]) ent16 rfl fun w s => throngref0_EqNumbers_walk x3.1 [20, 0] w ((Rd.ofRowN 1 rfl) w s) ((Rd.ofRowN 2 rfl) w s) hx11) rfl rfl ?_
   refine RS.p (Pu.pickT rfl rfl) rfl rfl ?_
   obtain rfl := Option.some.inj H
   exact hJ7 _ _ ⟨rfl, trivial⟩ (fun w s => s.pick [0, 1] (by decide) rfl)
  ·have H := ifF hc6 H
   refine RS.no rfl rfl ?_
   refine RS.no rfl rfl ?_
   refine RS.no rfl rfl ?_
   refine RS.p (Pu.pickF rfl rfl) rfl rfl ?_
   obtain rfl := Option.some.inj H
   exact hJ7 _ _ ⟨rfl, trivial⟩ (fun w s => s)
theorem thronglaw13_Heavy_walk (a0_p : Ask13) (w : World) {v0 v1 v2 : Value} (h0 : R (hpOf w) a0_p.g.tiles [v0]) (h1 : R (hpOf w) a0_p.l [v1]) (h2 : R (hpOf w) a0_p.ts [v2]) {r : Bool} (H : thronglaw13_Heavy a0_p = some r) : Calls Try.prog 4 #[.agg #[.int .i64 a0_p.g.w, .int .i64 a0_p.g.h, v0, v1, .int .i64 a0_p.cls, .int .i64 a0_p.size, v2]] w fun e w' => e = .returned (.bool r) ∧ Ext w w' := by
 have hm0 := R_max h0
 obtain ⟨p0, c0, rfl⟩ := R_form h0
 have hm1 := R_max h1
 obtain ⟨p1, c1, rfl⟩ := R_form h1
 have hm2 := R_max h2
 obtain ⟨p2, c2, rfl⟩ := R_form h2
 unfold thronglaw13_Heavy at H
 refine T.enter (args := [_]) (S := Sat w []) Try.func4 rfl rfl (Sat.start w) ?_
 refine T.seq fun K1 hK1 => ?_
 refine T.region ?_
 refine RS.solid (Sd.box (cs := [_, _, _, _, _, _, _]) rfl rfl) rfl rfl fun b1 => ?_
 refine RS.p (Pu.assign rfl) rfl rfl ?_
 refine RS.nil (hK1 _ _ ?_)
 refine T.seq fun K2 hK2 => ?_
 refine T.region ?_
 refine RS.p (Pu.fieldAddr fd28_0 rfl) rfl rfl ?_
 refine RS.q (Qt.ldBA (us := [_, _, _]) 0 ty24 rfl rfl rfl rfl) rfl rfl ?_
 refine RS.p (Pu.fieldAddr fd28_1 rfl) rfl rfl ?_
 refine RS.q (Qt.ldB 0 ty25 rfl rfl rfl) rfl rfl ?_
 obtain ⟨x2, hx2, H⟩ := bindE H
 refine RS.q (Qt.call (vs := [.agg #[.int .i64 a0_p.g.w, .int .i64 a0_p.g.h, .slice p0 a0_p.g.tiles.length c0], .slice p1 a0_p.l.length c1]) ent10 rfl fun w s => thronglaw0_Great_walk a0_p.g a0_p.l w ((Rd.base h0) w s) ((Rd.base h1) w s) hx2) rfl rfl ?_
 refine RS.p (Pu.move rfl) rfl rfl ?_
 refine RS.joinV 5 13 (.bool (decide ((x2 = true) ∨ (30 < (a0_p.ts.length : Int))))) [(2, _)] ⟨rfl, trivial⟩ ?_ ?_
 ·refine RS.p (Pu.assign rfl) rfl rfl ?_
  refine RS.nil (hK2 _ _ ?_)
  obtain rfl := Option.some.inj H
  refine T.retTo (by with_reducible ((repeat (first | apply RetTo.seq | apply RetTo.blk)); exact RetTo.refl _)) (Cont.ret1 rfl rfl fun w' s => ?_)
  exact ⟨rfl, s.ext⟩
 ·intro hJ4
  refine RS.split 8 rfl (fun hc3 => ?_) (fun hc3 => ?_)
  ·refine RS.no rfl rfl ?_
   refine RS.no rfl rfl ?_
   refine RS.no rfl rfl ?_
   refine RS.no rfl rfl ?_
   refine RS.p (Pu.pickT rfl rfl) rfl rfl ?_
   exact hJ4 _ _ ⟨dOrT hc3, rfl, trivial⟩ (fun w s => s)
  ·refine RS.p (Pu.fieldAddr fd28_4 rfl) rfl rfl ?_
   refine RS.q (Qt.ldB 0 ty26 rfl rfl rfl) rfl rfl ?_
   refine RS.p (Pu.lenSl sl26 rfl) rfl rfl ?_
   refine RS.p (Pu.bin rfl rfl rfl) rfl rfl ?_
   refine RS.p (Pu.pickF rfl rfl) rfl rfl ?_
   exact hJ4 _ _ ⟨dOrF (bne_of hc3), rfl, trivial⟩ (fun w s => s)
theorem thronglaw13_form_walk (a0_p : Ask13) (w : World) {v0 v1 v2 : Value} (h0 : R (hpOf w) a0_p.g.tiles [v0]) (h1 : R (hpOf w) a0_p.l [v1]) (h2 : R (hpOf w) a0_p.ts [v2]) {r : Int} (H : thronglaw13_form a0_p = some r) : Calls Try.prog 5 #[.agg #[.int .i64 a0_p.g.w, .int .i64 a0_p.g.h, v0, v1, .int .i64 a0_p.cls, .int .i64 a0_p.size, v2]] w fun e w' => e = .returned (.int .i64 r) ∧ Ext w w' := by
 have hm0 := R_max h0
 obtain ⟨p0, c0, rfl⟩ := R_form h0
 have hm1 := R_max h1
 obtain ⟨p1, c1, rfl⟩ := R_form h1
 have hm2 := R_max h2
 obtain ⟨p2, c2, rfl⟩ := R_form h2
 unfold thronglaw13_form at H
 refine T.enter (args := [_]) (S := Sat w []) Try.func5 rfl rfl (Sat.start w) ?_
 refine T.seq fun K1 hK1 => ?_
 refine T.region ?_
 refine RS.solid (Sd.box (cs := [_, _, _, _, _, _, _]) rfl rfl) rfl rfl fun b1 => ?_
 refine RS.p (Pu.assign rfl) rfl rfl ?_
 refine RS.nil (hK1 _ _ ?_)
 refine T.seq fun K2 hK2 => ?_
 refine T.seq fun K3 hK3 => ?_
 refine T.region ?_
 refine RS.p (Pu.fieldAddr fd28_0 rfl) rfl rfl ?_
 refine RS.q (Qt.ldBA (us := [_, _, _]) 0 ty24 rfl rfl rfl rfl) rfl rfl ?_
 refine RS.p (Pu.fieldAddr fd28_1 rfl) rfl rfl ?_
 refine RS.q (Qt.ldB 0 ty25 rfl rfl rfl) rfl rfl ?_
 refine RS.p (Pu.fieldAddr fd28_2 rfl) rfl rfl ?_
 refine RS.q (Qt.ldB 0 ty3 rfl rfl rfl) rfl rfl ?_
 refine RS.p (Pu.fieldAddr fd28_3 rfl) rfl rfl ?_
 refine RS.q (Qt.ldB 0 ty3 rfl rfl rfl) rfl rfl ?_
 obtain ⟨x2, hx2, H⟩ := bindE H
 refine RS.q (Qt.call (vs := [.agg #[.int .i64 a0_p.g.w, .int .i64 a0_p.g.h, .slice p0 a0_p.g.tiles.length c0], .slice p1 a0_p.l.length c1, .int .i64 a0_p.cls, .int .i64 a0_p.size]) ent11 rfl fun w s => throngref13_May_walk a0_p.g a0_p.l a0_p.cls a0_p.size w ((Rd.base h0) w s) ((Rd.base h1) w s) hx2) rfl rfl ?_
 refine RS.nil (hK3 _ _ ?_)
 refine T.cond rfl (fun hc3 => ?_) (fun hc3 => ?_)
 ·have H := ifT hc3 H
  refine T.conseq (fr' := []) ?_ trivial (fun _ s => s)
  refine T.seq fun K4 hK4 => ?_
  refine T.region ?_
  refine RS.p (Pu.assign rfl) rfl rfl ?_
  refine RS.nil (hK4 _ _ ?_)
  obtain rfl := Option.some.inj H
  refine T.retTo (by with_reducible ((repeat (first | apply RetTo.seq | apply RetTo.blk)); exact RetTo.refl _)) (Cont.ret1 rfl rfl fun w' s => ?_)
  exact ⟨rfl, s.ext⟩
 ·have H := ifB hc3 H
  refine T.skip (hK2 _ _ (T.conseq (fr' := []) ?_ trivial (fun _ s => s)))
  refine T.seq fun K5 hK5 => ?_
  refine T.region ?_
  refine RS.p (Pu.assign rfl) rfl rfl ?_
  refine RS.nil (hK5 _ _ ?_)
  obtain rfl := Option.some.inj H
  refine T.retTo (by with_reducible ((repeat (first | apply RetTo.seq | apply RetTo.blk)); exact RetTo.refl _)) (Cont.ret1 rfl rfl fun w' s => ?_)
  exact ⟨rfl, s.ext⟩
end Go.Proofs.Ytiipgdmcgmbbkaa
