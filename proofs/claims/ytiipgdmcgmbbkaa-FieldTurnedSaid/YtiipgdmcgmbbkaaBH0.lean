/-
  Walks of what the statements of the buildings call: the smaller functions.
-/
import Derived.Test.YtiipgdmcgmbbkaaRows
import Derived.Test.YtiipgdmcgmbbkaaBG
set_option linter.unusedVariables false
set_option linter.unusedSimpArgs false
set_option maxRecDepth 20000
set_option maxHeartbeats 4000000
namespace Go.Proofs.Ytiipgdmcgmbbkaa
open Go.Vg
open Enc (R)
theorem ent51 : Ent Try.prog 51 := ⟨_, _, Try.func51, by kernel_rfl, rfl⟩
theorem ent52 : Ent Try.prog 52 := ⟨_, _, Try.func52, by kernel_rfl, rfl⟩
theorem ent61 : Ent Try.prog 61 := ⟨_, _, Try.func61, by kernel_rfl, rfl⟩
theorem fd24_0 : fdOff Try.prog 24 0 = some 0 := by kernel_rfl
theorem fd24_1 : fdOff Try.prog 24 1 = some 1 := by kernel_rfl
theorem fd24_2 : fdOff Try.prog 24 2 = some 2 := by kernel_rfl
theorem sl22 : slTy Try.prog 22 = some (5, 1, 1) := by kernel_rfl
theorem sl25 : slTy Try.prog 25 = some (64, 6, 48) := by kernel_rfl
theorem ty22 : tySz Try.prog 22 = some (1, false) := by kernel_rfl
theorem ty3 : tySz Try.prog 3 = some (1, false) := by kernel_rfl
theorem ty5 : tySz Try.prog 5 = some (1, false) := by kernel_rfl
theorem throngref0_EqNumbers_walk (a0_a : List Int) (a1_b : List Int) (w : World) {v0 v1 : Value} (h0 : R (hpOf w) a0_a [v0]) (h1 : R (hpOf w) a1_b [v1]) {r : Bool} (H : throngref0_EqNumbers a0_a a1_b = some r) : Calls Try.prog 16 #[v0, v1] w fun e w' => e = .returned (.bool r) ∧ Ext w w' := by
 have hm0 := R_max h0
 obtain ⟨p0, c0, rfl⟩ := R_form h0
 have hm1 := R_max h1
 obtain ⟨p1, c1, rfl⟩ := R_form h1
 unfold throngref0_EqNumbers at H
 refine T.enter (args := [_, _]) (S := Sat w []) Try.func16 rfl rfl (Sat.start w) ?_
 refine T.seq fun K1 hK1 => ?_
 refine T.region ?_
 refine RS.p (Pu.assign rfl) rfl rfl ?_
 refine RS.nil (hK1 _ _ ?_)
 refine T.seq fun K2 hK2 => ?_
 refine T.seq fun K3 hK3 => ?_
 refine T.region ?_
 refine RS.p (Pu.move rfl) rfl rfl ?_
 refine RS.p (Pu.lenSl sl26 rfl) rfl rfl ?_
 refine RS.p (Pu.move rfl) rfl rfl ?_
 refine RS.p (Pu.lenSl sl26 rfl) rfl rfl ?_
 refine RS.p (Pu.bin rfl rfl rfl) rfl rfl ?_
 refine RS.nil (hK3 _ _ ?_)
 refine T.condP rfl (fun hc1 => ?_) (fun hc1 => ?_)
 ·have H := ifT hc1 H
  refine T.conseq (fr' := []) ?_ trivial (fun _ s => s)
  refine T.seq fun K4 hK4 => ?_
  refine T.region ?_
  refine RS.p (Pu.assign rfl) rfl rfl ?_
  refine RS.nil (hK4 _ _ ?_)
  obtain rfl := Option.some.inj H
  refine T.retTo (by with_reducible ((repeat (first | apply RetTo.seq | apply RetTo.blk)); exact RetTo.refl _)) (Cont.ret1 rfl rfl fun w' s => ?_)
  exact ⟨rfl, s.ext⟩
 ·have H := ifF hc1 H
  refine T.skip (hK2 _ _ (T.conseq (fr' := [(0, _), (1, _)]) ?_ ⟨rfl, rfl, trivial⟩ (fun _ s => s)))
  refine T.seq fun K5 hK5 => ?_
  refine T.seq fun K6 hK6 => ?_
  refine T.region ?_
  refine RS.p (Pu.assign rfl) rfl rfl ?_
  refine RS.nil (hK6 _ _ ?_)
  refine T.joinE (σ := Unit) (γ := Unit) H Ex.go [] trivial (fun _ _ => []) (fun _ _ => Sat w []) ?_ ?_
  ·rintro ⟨⟩ ⟨⟩ H
   try dsimp only [Ex.then] at H
   refine Cont.conseq (fr' := []) ?_ trivial (fun _ s => s)
   refine id (hK5 _ _ ?_)
   refine T.seq fun K7 hK7 => ?_
   refine T.region ?_
   refine RS.p (Pu.assign rfl) rfl rfl ?_
   refine RS.nil (hK7 _ _ ?_)
   obtain rfl := Option.some.inj H
   refine T.retTo (by with_reducible ((repeat (first | apply RetTo.seq | apply RetTo.blk)); exact RetTo.refl _)) (Cont.ret1 rfl rfl fun w' s => ?_)
   exact ⟨rfl, s.ext⟩
  ·intro z2 hz2 HX2 hJ2
   refine T.block ?_
   refine T.loopA (γ := Unit) hz2 [(0, _), (1, _)] (fun v3 _ => [(5, .int .i64 v3)]) (fun v3 _ => Sat w []) () ⟨rfl, rfl, trivial⟩ ⟨rfl, trivial⟩ (fun w s => s) ?_
   rintro v3 ⟨⟩ y4 H hd2 KL2 hL2
   try dsimp only [Ex.then] at H
   refine T.conseq (fr' := [(5, _), (0, _), (1, _)]) ?_ ⟨rfl, rfl, rfl, trivial⟩ (fun _ s => s)
   refine T.seq fun K8 hK8 => ?_
   refine T.seq fun K9 hK9 => ?_
   refine T.region ?_
   refine RS.p (Pu.move rfl) rfl rfl ?_
   refine RS.p (Pu.move rfl) rfl rfl ?_
   refine RS.p (Pu.lenSl sl26 rfl) rfl rfl ?_
   refine RS.p (Pu.bin rfl rfl rfl) rfl rfl ?_
   refine RS.nil (hK9 _ _ ?_)
   refine T.condP rfl (fun hc5 => ?_) (fun hc5 => ?_)
   ·have H := ifT hc5 H
    refine T.skip (hK8 _ _ (T.conseq (fr' := [(0, _), (1, _), (5, _)]) ?_ ⟨rfl, rfl, rfl, trivial⟩ (fun _ s => s)))
    refine T.seq fun K10 hK10 => ?_
    refine T.block ?_
    refine T.seq fun K11 hK11 => ?_
    refine T.drawn (fun _ => True) [(0, .pu), (1, .pu), (2, .pu), (3, .rd), (4, .pu), (5, .pu), (6, .pu), (7, .rd), (8, .pu)] mixed (ClE.sat _ _) (by kernel_rfl) ?_
    refine RD.p (fun _ _ => trivial) rfl (Pu.move rfl) rfl rfl ?_
    refine RD.p (fun _ _ => trivial) rfl (Pu.move rfl) rfl rfl ?_
    obtain ⟨g6, H⟩ := gdE H
    obtain ⟨bl7, ol8, rfl⟩ := R_ptr h0 (ne_of_pos (pos_of g6))
    refine RD.p (fun _ _ => trivial) rfl (Pu.indexSl sl26 rfl rfl g6) rfl rfl ?_
    refine RD.q (fun _ _ => trivial) rfl (Qt.ld0 (α := Int) (Rd.base h0) ty3 rfl rfl g6 (by rintro _ _ rfl; rfl)) rfl rfl ?_
    refine RD.p (fun _ _ => trivial) rfl (Pu.move rfl) rfl rfl ?_
    refine RD.p (fun _ _ => trivial) rfl (Pu.move rfl) rfl rfl ?_
    obtain ⟨g9, H⟩ := gdE H
    obtain ⟨bl10, ol11, rfl⟩ := R_ptr h1 (ne_of_pos (pos_of g9))
    refine RD.p (fun _ _ => trivial) rfl (Pu.indexSl sl26 rfl rfl g9) rfl rfl ?_
    refine RD.q (fun _ _ => trivial) rfl (Qt.ld0 (α := Int) (Rd.base h1) ty3 rfl rfl g9 (by rintro _ _ rfl; rfl)) rfl rfl ?_
    refine RD.p (fun _ _ => trivial) rfl (Pu.bin rfl rfl rfl) rfl rfl ?_
    refine RD.nil (hK11 _ _ ?_)
    refine T.condP rfl (fun hc12 => ?_) (fun hc12 => ?_)
    ·have H := ifT hc12 H
     refine T.conseq (fr' := []) ?_ trivial (fun _ s => s)
     refine T.seq fun K12 hK12 => ?_
     refine T.region ?_
     refine RS.p (Pu.assign rfl) rfl rfl ?_
     refine RS.nil (hK12 _ _ ?_)
     obtain rfl := hd2 _ H
     have H := HX2
     obtain rfl := Option.some.inj H
     refine T.retTo (by with_reducible ((repeat (first | apply RetTo.seq | apply RetTo.blk)); exact RetTo.refl _)) (Cont.ret1 rfl rfl fun w' s => ?_)
     exact ⟨rfl, s.ext⟩
    ·have H := ifF hc12 H
     refine T.skip (hK10 _ _ (T.conseq (fr' := [(0, _), (1, _), (5, _)]) ?_ ⟨rfl, rfl, rfl, trivial⟩ (fun _ s => s)))
     refine T.region ?_
     refine RS.p (Pu.move rfl) rfl rfl ?_
     obtain ⟨g13, H⟩ := gdE H
     refine RS.p (Pu.addS rfl rfl g13) rfl rfl ?_
     refine RS.p (Pu.assign rfl) rfl rfl ?_
     refine RS.nil (hL2 _ _ (v3 + 1) () H ⟨rfl, rfl, trivial⟩ ⟨rfl, trivial⟩ (fun w s => s))
   ·have H := ifF hc5 H
    obtain rfl := hd2 _ H
    refine T.exitTo (by with_reducible (repeat (first | exact ExTo.here | exact ExTo.hereN | exact ExTo.deep (by repeat (first | exact NmTo.seq | apply NmTo.blk)) | apply ExTo.seq | refine ExTo.past (by decide) ?_))) (hJ2 _ _ () () HX2 trivial trivial (fun w s => s))
theorem throngref0_Num_walk (a0_n : Int) (a1_most : Int) (w : World) {r : Bool} (H : throngref0_Num a0_n a1_most = some r) : Calls Try.prog 19 #[.int .i64 a0_n, .int .i64 a1_most] w fun e w' => e = .returned (.bool r) ∧ Ext w w' := by
 unfold throngref0_Num at H
 refine T.enter (args := [_, _]) (S := Sat w []) Try.func19 rfl rfl (Sat.start w) ?_
 refine T.seq fun K1 hK1 => ?_
 refine T.region ?_
 refine RS.p (Pu.assign rfl) rfl rfl ?_
 refine RS.nil (hK1 _ _ ?_)
 refine T.seq fun K2 hK2 => ?_
 refine T.region ?_
 refine RS.p (Pu.move rfl) rfl rfl ?_
 refine RS.p (Pu.bin rfl rfl rfl) rfl rfl ?_
 refine RS.p (Pu.move rfl) rfl rfl ?_
 refine RS.joinV 4 11 (.bool (decide ((0 ≤ a0_n) ∧ (a0_n ≤ a1_most)))) [(4, _)] ⟨rfl, trivial⟩ ?_ ?_
 ·refine RS.p (Pu.assign rfl) rfl rfl ?_
  refine RS.nil (hK2 _ _ ?_)
  obtain rfl := Option.some.inj H
  refine T.retTo (by with_reducible ((repeat (first | apply RetTo.seq | apply RetTo.blk)); exact RetTo.refl _)) (Cont.ret1 rfl rfl fun w' s => ?_)
  exact ⟨rfl, s.ext⟩
 ·intro hJ2
  refine RS.splitP 7 rfl (fun hc1 => ?_) (fun hc1 => ?_)
  ·refine RS.p (Pu.move rfl) rfl rfl ?_
   refine RS.p (Pu.move rfl) rfl rfl ?_
   refine RS.p (Pu.bin rfl rfl rfl) rfl rfl ?_
   refine RS.p (Pu.pickT rfl rfl) rfl rfl ?_
   exact hJ2 _ _ ⟨dAndT hc1, rfl, trivial⟩ (fun w s => s)
  ·refine RS.no rfl rfl ?_
   refine RS.no rfl rfl ?_
   refine RS.no rfl rfl ?_
   refine RS.p (Pu.pickF rfl rfl) rfl rfl ?_
   exact hJ2 _ _ ⟨dAndF hc1, rfl, trivial⟩ (fun w s => s)
theorem thronglaw0_Great_walk (a0_g : Grd) (a1_l : List Bld) (w : World) {v0 v1 : Value} (h0 : R (hpOf w) a0_g.tiles [v0]) (h1 : R (hpOf w) a1_l [v1]) {r : Bool} (H : thronglaw0_Great a0_g a1_l = some r) : Calls Try.prog 10 #[.agg #[.int .i64 a0_g.w, .int .i64 a0_g.h, v0], v1] w fun e w' => e = .returned (.bool r) ∧ Ext w w' := by
 have hm0 := R_max h0
 obtain ⟨p0, c0, rfl⟩ := R_form h0
 have hm1 := R_max h1
 obtain ⟨p1, c1, rfl⟩ := R_form h1
 unfold thronglaw0_Great at H
 refine T.enter (args := [_, _]) (S := Sat w []) Try.func10 rfl rfl (Sat.start w) ?_
 refine T.seq fun K1 hK1 => ?_
 refine T.region ?_
 refine RS.solid (Sd.box (cs := [_, _, _]) rfl rfl) rfl rfl fun b1 => ?_
 refine RS.p (Pu.assign rfl) rfl rfl ?_
 refine RS.nil (hK1 _ _ ?_)
 refine T.seq fun K2 hK2 => ?_
 refine T.region ?_
 refine RS.p (Pu.fieldAddr fd24_2 rfl) rfl rfl ?_
 refine RS.q (Qt.ldB 0 ty22 rfl rfl rfl) rfl rfl ?_
 refine RS.p (Pu.lenSl sl22 rfl) rfl rfl ?_
 refine RS.p (Pu.bin rfl rfl rfl) rfl rfl ?_
 refine RS.p (Pu.move rfl) rfl rfl ?_
 refine RS.joinV 4 13 (.bool (decide ((700 < (a0_g.tiles.length : Int)) ∨ (30 < (a1_l.length : Int))))) [(4, _)] ⟨rfl, trivial⟩ ?_ ?_
 ·refine RS.p (Pu.assign rfl) rfl rfl ?_
  refine RS.nil (hK2 _ _ ?_)
  obtain rfl := Option.some.inj H
  refine T.retTo (by with_reducible ((repeat (first | apply RetTo.seq | apply RetTo.blk)); exact RetTo.refl _)) (Cont.ret1 rfl rfl fun w' s => ?_)
  exact ⟨rfl, s.ext⟩
 ·intro hJ3
  refine RS.splitP 9 rfl (fun hc2 => ?_) (fun hc2 => ?_)
  ·refine RS.no rfl rfl ?_
   refine RS.no rfl rfl ?_
   refine RS.no rfl rfl ?_
   refine RS.p (Pu.pickT rfl rfl) rfl rfl ?_
   exact hJ3 _ _ ⟨dOrT hc2, rfl, trivial⟩ (fun w s => s)
  ·refine RS.p (Pu.move rfl) rfl rfl ?_
   refine RS.p (Pu.lenSl sl25 rfl) rfl rfl ?_
   refine RS.p (Pu.bin rfl rfl rfl) rfl rfl ?_
   refine RS.p (Pu.pickF rfl rfl) rfl rfl ?_
   exact hJ3 _ _ ⟨dOrF hc2, rfl, trivial⟩ (fun w s => s)
theorem slices_Max_walk (a0_x : List UInt8) (w : World) {v0 : Value} (h0 : R (hpOf w) a0_x [v0]) {r : Int} (H : slices_Max a0_x = some r) : Calls Try.prog 52 #[v0] w fun e w' => e = .returned (.int .u8 r) ∧ Ext w w' := by
 have hm0 := R_max h0
 obtain ⟨p0, c0, rfl⟩ := R_form h0
 unfold slices_Max at H
 refine T.enter (args := [_]) (S := Sat w []) Try.func52 rfl rfl (Sat.start w) ?_
 refine T.seq fun K1 hK1 => ?_
 refine T.region ?_
 refine RS.p (Pu.assign rfl) rfl rfl ?_
 refine RS.nil (hK1 _ _ ?_)
 refine T.seq fun K2 hK2 => ?_
 refine T.seq fun K3 hK3 => ?_
 refine T.region ?_
 refine RS.p (Pu.move rfl) rfl rfl ?_
 refine RS.p (Pu.lenSl sl22 rfl) rfl rfl ?_
 refine RS.p (Pu.bin rfl rfl rfl) rfl rfl ?_
 refine RS.nil (hK3 _ _ ?_)
 refine T.joinE (σ := Unit) (γ := Unit) H (fun s => s) [(0, _)] ⟨rfl, trivial⟩ (fun _ _ => []) (fun _ _ => Sat w []) ?_ ?_
 ·rintro ⟨⟩ ⟨⟩ H
  try dsimp only [Ex.then] at H
  refine Cont.conseq (fr' := [(0, _)]) ?_ ⟨rfl, trivial⟩ (fun _ s => s)
  refine id (hK2 _ _ ?_)
  refine T.seq fun K4 hK4 => ?_
  refine T.region ?_
  refine RS.p (Pu.move rfl) rfl rfl ?_
  obtain ⟨g2, H⟩ := gdE H
  obtain ⟨bl3, ol4, rfl⟩ := R_ptr h0 (ne_of_pos (pos_of g2))
  refine RS.p (Pu.indexSl sl22 rfl rfl g2) rfl rfl ?_
  refine RS.q (Qt.ld0 (α := UInt8) (Rd.base h0) ty5 rfl rfl g2 (by rintro _ _ rfl; rfl)) rfl rfl ?_
  refine RS.p (Pu.assign rfl) rfl rfl ?_
  refine RS.nil (hK4 _ _ (T.conseq (fr' := [(0, _), (3, _)]) ?_ ⟨rfl, rfl, trivial⟩ (fun _ s => s)))
  refine T.seq fun K5 hK5 => ?_
  refine T.seq fun K6 hK6 => ?_
  refine T.region ?_
  refine RS.p (Pu.assign rfl) rfl rfl ?_
  refine RS.nil (hK6 _ _ ?_)
  refine T.joinE (σ := Int) (γ := Unit) H (fun s => s) [] trivial (fun v6 _ => [(3, .int .u8 v6)]) (fun v6 _ => Sat w []) ?_ ?_
  ·rintro v6 ⟨⟩ H
   try dsimp only [Ex.then] at H
   refine Cont.conseq (fr' := [(3, _)]) ?_ ⟨rfl, trivial⟩ (fun _ s => s)
   refine id (hK5 _ _ ?_)
   refine T.seq fun K7 hK7 => ?_
   refine T.region ?_
   refine RS.p (Pu.move rfl) rfl rfl ?_
   refine RS.p (Pu.assign rfl) rfl rfl ?_
   refine RS.nil (hK7 _ _ ?_)
   obtain rfl := Option.some.inj H
   refine T.retTo (by with_reducible ((repeat (first | apply RetTo.seq | apply RetTo.blk)); exact RetTo.refl _)) (Cont.ret1 rfl rfl fun w' s => ?_)
   exact ⟨rfl, s.ext⟩
  ·intro z5 hz5 HX5 hJ5
   refine T.block ?_
   refine T.loopA (γ := Unit) hz5 [(0, _)] (fun (v7, v8) _ => [(3, .int .u8 v7), (4, .int .i64 v8)]) (fun (v7, v8) _ => Sat w []) () ⟨rfl, trivial⟩ ⟨rfl, rfl, trivial⟩ (fun w s => s) ?_
   rintro ⟨v7, v8⟩ ⟨⟩ y9 H hd5 KL5 hL5
   try dsimp only [Ex.then] at H
   refine T.conseq (fr' := [(3, _), (4, _), (0, _)]) ?_ ⟨rfl, rfl, rfl, trivial⟩ (fun _ s => s)
   refine T.seq fun K8 hK8 => ?_
   refine T.seq fun K9 hK9 => ?_
   refine T.region ?_
   refine RS.p (Pu.move rfl) rfl rfl ?_
   refine RS.p (Pu.move rfl) rfl rfl ?_
   refine RS.p (Pu.lenSl sl22 rfl) rfl rfl ?_
   refine RS.p (Pu.bin rfl rfl rfl) rfl rfl ?_
   refine RS.nil (hK9 _ _ ?_)
   refine T.condP rfl (fun hc10 => ?_) (fun hc10 => ?_)
   ·have H := ifT hc10 H
    refine T.skip (hK8 _ _ (T.conseq (fr' := [(0, _), (3, _), (4, _)]) ?_ ⟨rfl, rfl, rfl, trivial⟩ (fun _ s => s)))
    refine T.seq fun K10 hK10 => ?_
    refine T.block ?_
    refine T.region ?_
    refine RS.p (Pu.move rfl) rfl rfl ?_
    refine RS.p (Pu.move rfl) rfl rfl ?_
    refine RS.p (Pu.move rfl) rfl rfl ?_
    obtain ⟨g11, H⟩ := gdE H
    refine RS.p (Pu.indexSl sl22 rfl rfl g11) rfl rfl ?_
    refine RS.q (Qt.ld0 (α := UInt8) (Rd.base h0) ty5 rfl rfl g11 (by rintro _ _ rfl; rfl)) rfl rfl ?_
    refine RS.p (Pu.maxI rfl rfl) rfl rfl ?_
    refine RS.p (Pu.assign rfl) rfl rfl ?_
    refine RS.nil (hK10 _ _ (T.conseq (fr' := [(0, _), (3, _), (4, _)]) ?_ ⟨rfl, rfl, rfl, trivial⟩ (fun _ s => s)))
    refine T.region ?_
    refine RS.p (Pu.move rfl) rfl rfl ?_
    obtain ⟨g12, H⟩ := gdE H
    refine RS.p (Pu.addS rfl rfl g12) rfl rfl ?_
    refine RS.p (Pu.assign rfl) rfl rfl ?_
    refine RS.nil (hL5 _ _ ((max v7 ((gi a0_x v8).toNat : Int)), (v8 + 1)) () H ⟨rfl, trivial⟩ ⟨rfl, rfl, trivial⟩ (fun w s => s))
   ·have H := ifF hc10 H
    obtain rfl := hd5 _ H
    refine T.exitTo (by with_reducible (repeat (first | exact ExTo.here | exact ExTo.hereN | exact ExTo.deep (by repeat (first | exact NmTo.seq | apply NmTo.blk)) | apply ExTo.seq | refine ExTo.past (by decide) ?_))) (hJ5 _ _ v7 () HX5 trivial ⟨rfl, trivial⟩ (fun w s => s))
 ·intro z1 H HX1 hJ1
  refine T.condP rfl (fun hc13 => ?_) (fun hc13 => ?_)
  ·have H := ifT hc13 H
   refine T.conseq (fr' := [(0, _)]) ?_ ⟨rfl, trivial⟩ (fun _ s => s)
   exact nomatch H
  ·have H := ifF hc13 H
   obtain rfl := Option.some.inj H
   refine T.skip (hJ1 _ _ () () HX1 ⟨rfl, trivial⟩ trivial (fun w s => s))
theorem slices_IndexFunc_walk (a0_s : List Int) (a1_f : Int → Option Bool) (w : World) {v0 v1 : Value} (h0 : R (hpOf w) a0_s [v0]) (h1 : FnQ Try.prog w v1 (fun (y0 : Int) => [.int .i64 y0]) (fun (r : Bool) => .bool r) a1_f) {r : Int} (H : slices_IndexFunc a0_s a1_f = some r) : Calls Try.prog 61 #[v0, v1] w fun e w' => e = .returned (.int .i64 r) ∧ Ext w w' := by
 have hm0 := R_max h0
 obtain ⟨p0, c0, rfl⟩ := R_form h0
 unfold slices_IndexFunc at H
 refine T.enter (args := [_, _]) (S := Sat w []) Try.func61 rfl rfl (Sat.start w) ?_
 refine T.seq fun K1 hK1 => ?_
 refine T.region ?_
 refine RS.p (Pu.assign rfl) rfl rfl ?_
 refine RS.nil (hK1 _ _ ?_)
 refine T.seq fun K2 hK2 => ?_
 refine T.seq fun K3 hK3 => ?_
 refine T.region ?_
 refine RS.p (Pu.move rfl) rfl rfl ?_
 refine RS.p (Pu.lenSl sl26 rfl) rfl rfl ?_
 refine RS.p (Pu.move rfl) rfl rfl ?_
 refine RS.nil (hK3 _ _ ?_)
 refine T.joinE (σ := Unit) (γ := Unit) H Ex.go [] trivial (fun _ _ => []) (fun _ _ => Sat w []) ?_ ?_
 ·rintro ⟨⟩ ⟨⟩ H
  try dsimp only [Ex.then] at H
  refine Cont.conseq (fr' := []) ?_ trivial (fun _ s => s)
  refine id (hK2 _ _ ?_)
  refine T.seq fun K4 hK4 => ?_
  refine T.region ?_
  refine RS.p (Pu.assign rfl) rfl rfl ?_
  refine RS.nil (hK4 _ _ ?_)
  obtain rfl := Option.some.inj H
  refine T.retTo (by with_reducible ((repeat (first | apply RetTo.seq | apply RetTo.blk)); exact RetTo.refl _)) (Cont.ret1 rfl rfl fun w' s => ?_)
  exact ⟨rfl, s.ext⟩
 ·intro z1 hz1 HX1 hJ1
  refine T.block ?_
  refine T.loopA (γ := Unit) hz1 [(0, _), (1, _), (7, _)] (fun v2 _ => [(8, .int .i64 v2)]) (fun v2 _ => Sat w []) () ⟨rfl, rfl, rfl, trivial⟩ ⟨rfl, trivial⟩ (fun w s => s) ?_
  rintro v2 ⟨⟩ y3 H hd1 KL1 hL1
  try dsimp only [Ex.then] at H
  refine T.conseq (fr' := [(8, _), (0, _), (1, _), (7, _)]) ?_ ⟨rfl, rfl, rfl, rfl, trivial⟩ (fun _ s => s)
  refine T.seq fun K5 hK5 => ?_
  refine T.region ?_
  refine RS.p (Pu.bin rfl rfl rfl) rfl rfl ?_
  refine RS.nil (hK5 _ _ ?_)
  refine T.seq fun K6 hK6 => ?_
  refine T.condP rfl (fun hc4 => ?_) (fun hc4 => ?_)
  ·have H := ifT hc4 H
   refine T.skip (hK6 _ _ ?_)
   refine T.seq fun K7 hK7 => ?_
   refine T.block ?_
   refine T.seq fun K8 hK8 => ?_
   refine T.region ?_
   refine RS.p (Pu.move rfl) rfl rfl ?_
   refine RS.p (Pu.assign rfl) rfl rfl ?_
   refine RS.nil (hK8 _ _ ?_)
   refine T.seq fun K9 hK9 => ?_
   refine T.region ?_
   refine RS.p (Pu.move rfl) rfl rfl ?_
   refine RS.p (Pu.move rfl) rfl rfl ?_
   refine RS.p (Pu.move rfl) rfl rfl ?_
   obtain ⟨g5, H⟩ := gdE H
   obtain ⟨bl6, ol7, rfl⟩ := R_ptr h0 (ne_of_pos (pos_of g5))
   refine RS.p (Pu.indexSl sl26 rfl rfl g5) rfl rfl ?_
   refine RS.q (Qt.ld0 (α := Int) (Rd.base h0) ty3 rfl rfl g5 (by rintro _ _ rfl; rfl)) rfl rfl ?_
   obtain ⟨x8, hx8, H⟩ := bindE H
   refine RS.q (Qt.callV rfl h1 (fun w s => s.ext) hx8 rfl) rfl rfl ?_
   refine RS.nil (hK9 _ _ ?_)
   refine T.cond rfl (fun hc9 => ?_) (fun hc9 => ?_)
   ·have H := ifT hc9 H
    refine T.conseq (fr' := [(5, _)]) ?_ ⟨rfl, trivial⟩ (fun _ s => s)
    refine T.seq fun K10 hK10 => ?_
    refine T.region ?_
    refine RS.p (Pu.move rfl) rfl rfl ?_
    refine RS.p (Pu.assign rfl) rfl rfl ?_
    refine RS.nil (hK10 _ _ ?_)
    obtain rfl := hd1 _ H
    have H := HX1
    obtain rfl := Option.some.inj H
    refine T.retTo (by with_reducible ((repeat (first | apply RetTo.seq | apply RetTo.blk)); exact RetTo.refl _)) (Cont.ret1 rfl rfl fun w' s => ?_)
    exact ⟨rfl, s.ext⟩
   ·have H := ifB hc9 H
    refine T.skip (hK7 _ _ (T.conseq (fr' := [(0, _), (1, _), (7, _), (8, _)]) ?_ ⟨rfl, rfl, rfl, rfl, trivial⟩ (fun _ s => s)))
    refine T.region ?_
    obtain ⟨g10, H⟩ := gdE H
    refine RS.p (Pu.addS rfl rfl g10) rfl rfl ?_
    refine RS.p (Pu.move rfl) rfl rfl ?_
    refine RS.nil (hL1 _ _ (v2 + 1) () H ⟨rfl, rfl, rfl, trivial⟩ ⟨rfl, trivial⟩ (fun w s => s))
  ·have H := ifF hc4 H
   obtain rfl := hd1 _ H
   refine T.exitTo (by with_reducible (repeat (first | exact ExTo.here | exact ExTo.hereN | exact ExTo.deep (by repeat (first | exact NmTo.seq | apply NmTo.blk)) | apply ExTo.seq | refine ExTo.past (by decide) ?_))) (hJ1 _ _ () () HX1 trivial trivial (fun w s => s))
theorem slices_ContainsFunc_walk (a0_s : List Int) (a1_f : Int → Option Bool) (w : World) {v0 v1 : Value} (h0 : R (hpOf w) a0_s [v0]) (h1 : FnQ Try.prog w v1 (fun (y0 : Int) => [.int .i64 y0]) (fun (r : Bool) => .bool r) a1_f) {r : Bool} (H : slices_ContainsFunc a0_s a1_f = some r) : Calls Try.prog 59 #[v0, v1] w fun e w' => e = .returned (.bool r) ∧ Ext w w' := by
 have hm0 := R_max h0
 obtain ⟨p0, c0, rfl⟩ := R_form h0
 unfold slices_ContainsFunc at H
 refine T.enter (args := [_, _]) (S := Sat w []) Try.func59 rfl rfl (Sat.start w) ?_
 refine T.seq fun K1 hK1 => ?_
 refine T.region ?_
 refine RS.p (Pu.assign rfl) rfl rfl ?_
 refine RS.nil (hK1 _ _ ?_)
 refine T.seq fun K2 hK2 => ?_
 refine T.region ?_
 refine RS.p (Pu.move rfl) rfl rfl ?_
 refine RS.p (Pu.move rfl) rfl rfl ?_
 obtain ⟨x1, hx1, H⟩ := bindE H
 refine RS.q (Qt.call (vs := [.slice p0 a0_s.length c0, v1]) ent61 rfl fun w s => slices_IndexFunc_walk a0_s a1_f w ((Rd.base h0) w s) (FnQ.ext s.ext h1) hx1) rfl rfl ?_
 refine RS.p (Pu.bin rfl rfl rfl) rfl rfl ?_
 refine RS.p (Pu.assign rfl) rfl rfl ?_
 refine RS.nil (hK2 _ _ (T.conseq (fr' := [(4, _)]) ?_ ⟨rfl, trivial⟩ (fun _ s => s)))
 obtain rfl := Option.some.inj H
 refine T.retTo (by with_reducible ((repeat (first | apply RetTo.seq | apply RetTo.blk)); exact RetTo.refl _)) (Cont.ret1 rfl rfl fun w' s => ?_)
 exact ⟨rfl, s.ext⟩
theorem ground_Side_walk (a0_n : Int) (w : World) {r : Bool} (H : ground_Side a0_n = some r) : Calls Try.prog 51 #[.int .i64 a0_n] w fun e w' => e = .returned (.bool r) ∧ Ext w w' := by
 unfold ground_Side at H
 refine T.enter (args := [_]) (S := Sat w []) Try.func51 rfl rfl (Sat.start w) ?_
 refine T.seq fun K1 hK1 => ?_
 refine T.region ?_
 refine RS.p (Pu.assign rfl) rfl rfl ?_
 refine RS.nil (hK1 _ _ ?_)
 refine T.seq fun K2 hK2 => ?_
 refine T.region ?_
 refine RS.p (Pu.move rfl) rfl rfl ?_
 refine RS.p (Pu.bin rfl rfl rfl) rfl rfl ?_
 refine RS.p (Pu.move rfl) rfl rfl ?_
 refine RS.joinV 3 8 (.bool (decide ((1 ≤ a0_n) ∧ (a0_n ≤ 128)))) [(2, _)] ⟨rfl, trivial⟩ ?_ ?_
 ·refine RS.p (Pu.assign rfl) rfl rfl ?_
  refine RS.nil (hK2 _ _ ?_)
  obtain rfl := Option.some.inj H
  refine T.retTo (by with_reducible ((repeat (first | apply RetTo.seq | apply RetTo.blk)); exact RetTo.refl _)) (Cont.ret1 rfl rfl fun w' s => ?_)
  exact ⟨rfl, s.ext⟩
 ·intro hJ2
  refine RS.splitP 5 rfl (fun hc1 => ?_) (fun hc1 => ?_)
  ·refine RS.p (Pu.move rfl) rfl rfl ?_
   refine RS.p (Pu.bin rfl rfl rfl) rfl rfl ?_
   refine RS.p (Pu.pickT rfl rfl) rfl rfl ?_
   exact hJ2 _ _ ⟨dAndT hc1, rfl, trivial⟩ (fun w s => s)
  ·refine RS.no rfl rfl ?_
   refine RS.no rfl rfl ?_
   refine RS.p (Pu.pickF rfl rfl) rfl rfl ?_
   exact hJ2 _ _ ⟨dAndF hc1, rfl, trivial⟩ (fun w s => s)
theorem ground_May_walk (a0_g : Grd) (w : World) {v0 : Value} (h0 : R (hpOf w) a0_g.tiles [v0]) {r : Bool} (H : ground_May a0_g = some r) : Calls Try.prog 44 #[.agg #[.int .i64 a0_g.w, .int .i64 a0_g.h, v0]] w fun e w' => e = .returned (.bool r) ∧ Ext w w' := by
 have hm0 := R_max h0
 obtain ⟨p0, c0, rfl⟩ := R_form h0
 unfold ground_May at H
 refine T.enter (args := [_]) (S := Sat w []) Try.func44 rfl rfl (Sat.start w) ?_
 refine T.seq fun K1 hK1 => ?_
 refine T.region ?_
 refine RS.solid (Sd.box (cs := [_, _, _]) rfl rfl) rfl rfl fun b1 => ?_
 refine RS.p (Pu.assign rfl) rfl rfl ?_
 refine RS.nil (hK1 _ _ ?_)
 refine T.seq fun K2 hK2 => ?_
 refine T.seq fun K3 hK3 => ?_
 refine T.region ?_
 refine RS.p (Pu.fieldAddr fd24_0 rfl) rfl rfl ?_
 refine RS.q (Qt.ldB 0 ty3 rfl rfl rfl) rfl rfl ?_
 obtain ⟨x2, hx2, H⟩ := bindE H
 refine RS.q (Qt.call (vs := [.int .i64 a0_g.w]) ent51 rfl fun w s => ground_Side_walk a0_g.w w  hx2) rfl rfl ?_
 refine RS.p (Pu.not rfl) rfl rfl ?_
 refine RS.p (Pu.move rfl) rfl rfl ?_
 refine RS.joinB H 5 12 (fun b5 => .bool b5) [(1, _)] ⟨rfl, trivial⟩ ?_ ?_
 ·intro b5 H
  refine RS.p (Pu.move rfl) rfl rfl ?_
  obtain ⟨g8, H⟩ := gdE H
  refine RS.joinV 10 23 (.bool (decide ((b5 = true) ∨ (¬ (a0_g.tiles.length : Int) = (a0_g.w * a0_g.h))))) [(1, _)] ⟨rfl, trivial⟩ ?_ ?_
  ·refine RS.nil (hK3 _ _ ?_)
   refine T.condP rfl (fun hc9 => ?_) (fun hc9 => ?_)
   ·have H := ifT hc9 H
    refine T.seq fun K4 hK4 => ?_
    refine T.region ?_
    refine RS.p (Pu.assign rfl) rfl rfl ?_
    refine RS.nil (hK4 _ _ ?_)
    obtain rfl := Option.some.inj H
    refine T.retTo (by with_reducible ((repeat (first | apply RetTo.seq | apply RetTo.blk)); exact RetTo.refl _)) (Cont.ret1 rfl rfl fun w' s => ?_)
    exact ⟨rfl, s.ext⟩
   ·have H := ifF hc9 H
    refine T.skip (hK2 _ _ ?_)
    refine T.seq fun K5 hK5 => ?_
    refine T.region ?_
    refine RS.p (Pu.fieldAddr fd24_2 rfl) rfl rfl ?_
    refine RS.q (Qt.ldB 0 ty22 rfl rfl rfl) rfl rfl ?_
    obtain ⟨x10, hx10, H⟩ := bindE H
    refine RS.q (Qt.call (vs := [.slice p0 a0_g.tiles.length c0]) ent52 rfl fun w s => slices_Max_walk a0_g.tiles w ((Rd.base h0) w s) hx10) rfl rfl ?_
    refine RS.p (Pu.bin rfl rfl rfl) rfl rfl ?_
    refine RS.p (Pu.assign rfl) rfl rfl ?_
    refine RS.nil (hK5 _ _ (T.conseq (fr' := [(2, _)]) ?_ ⟨rfl, trivial⟩ (fun _ s => s)))
    obtain rfl := Option.some.inj H
    refine T.retTo (by with_reducible ((repeat (first | apply RetTo.seq | apply RetTo.blk)); exact RetTo.refl _)) (Cont.ret1 rfl rfl fun w' s => ?_)
    exact ⟨rfl, s.ext⟩
  ·intro hJ7
   refine RS.split 13 rfl (fun hc6 => ?_) (fun hc6 => ?_)
   ·refine RS.no rfl rfl ?_
    refine RS.no rfl rfl ?_
    refine RS.no rfl rfl ?_
    refine RS.no rfl rfl ?_
    refine RS.no rfl rfl ?_
    refine RS.no rfl rfl ?_
    refine RS.no rfl rfl ?_
    refine RS.no rfl rfl ?_
    refine RS.no rfl rfl ?_
    refine RS.p (Pu.pickT rfl rfl) rfl rfl ?_
    exact hJ7 _ _ ⟨dOrT hc6, rfl, trivial⟩ (fun w s => s)
   ·refine RS.p (Pu.fieldAddr fd24_2 rfl) rfl rfl ?_
    refine RS.q (Qt.ldB 0 ty22 rfl rfl rfl) rfl rfl ?_
    refine RS.p (Pu.lenSl sl22 rfl) rfl rfl ?_
    refine RS.p (Pu.fieldAddr fd24_0 rfl) rfl rfl ?_
    refine RS.q (Qt.ldB 0 ty3 rfl rfl rfl) rfl rfl ?_
    refine RS.p (Pu.fieldAddr fd24_1 rfl) rfl rfl ?_
    refine RS.q (Qt.ldB 0 ty3 rfl rfl rfl) rfl rfl ?_
    refine RS.p (Pu.mulS rfl rfl (g8 (bne_of hc6))) rfl rfl ?_
    refine RS.p (Pu.bin rfl rfl rfl) rfl rfl ?_
    refine RS.p (Pu.pickF rfl rfl) rfl rfl ?_
    exact hJ7 _ _ ⟨dOrF (bne_of hc6), rfl, trivial⟩ (fun w s => s)
 ·intro z11 H hJ4
  refine RS.split 7 rfl (fun hc3 => ?_) (fun hc3 => ?_)
  ·have H := ifT hc3 H
   refine RS.no rfl rfl ?_
   refine RS.no rfl rfl ?_
   refine RS.no rfl rfl ?_
   refine RS.no rfl rfl ?_
   refine RS.p (Pu.pickT rfl rfl) rfl rfl ?_
   obtain rfl := Option.some.inj H
   exact hJ4 _ _ ⟨rfl, rfl, trivial⟩ (fun w s => s)
  ·have H := ifB hc3 H
   refine RS.p (Pu.fieldAddr fd24_1 rfl) rfl rfl ?_
   refine RS.q (Qt.ldB 0 ty3 rfl rfl rfl) rfl rfl ?_
   obtain ⟨x12, hx12, H⟩ := bindE H
   refine RS.q (Qt.call (vs := [.int .i64 a0_g.h]) ent51 rfl fun w s => ground_Side_walk a0_g.h w  hx12) rfl rfl ?_
   refine RS.p (Pu.not rfl) rfl rfl ?_
   refine RS.p (Pu.pickF rfl rfl) rfl rfl ?_
   obtain rfl := Option.some.inj H
   exact hJ4 _ _ ⟨rfl, rfl, trivial⟩ (fun w s => s)
theorem ground_Is_walk (a0_g : Grd) (a1_t : Int) (w : World) {v0 : Value} (h0 : R (hpOf w) a0_g.tiles [v0]) {r : Bool} (H : ground_Is a0_g a1_t = some r) : Calls Try.prog 21 #[.agg #[.int .i64 a0_g.w, .int .i64 a0_g.h, v0], .int .i64 a1_t] w fun e w' => e = .returned (.bool r) ∧ Ext w w' := by
 have hm0 := R_max h0
 obtain ⟨p0, c0, rfl⟩ := R_form h0
 unfold ground_Is at H
 refine T.enter (args := [_, _]) (S := Sat w []) Try.func21 rfl rfl (Sat.start w) ?_
 refine T.seq fun K1 hK1 => ?_
 refine T.region ?_
 refine RS.solid (Sd.box (cs := [_, _, _]) rfl rfl) rfl rfl fun b1 => ?_
 refine RS.p (Pu.assign rfl) rfl rfl ?_
 refine RS.nil (hK1 _ _ ?_)
 refine T.seq fun K2 hK2 => ?_
 refine T.region ?_
 refine RS.p (Pu.move rfl) rfl rfl ?_
 refine RS.p (Pu.bin rfl rfl rfl) rfl rfl ?_
 refine RS.p (Pu.move rfl) rfl rfl ?_
 obtain ⟨g4, H⟩ := gdE H
 refine RS.joinV 8 15 (.bool (decide ((0 ≤ a1_t) ∧ (a1_t < (a0_g.w * a0_g.h))))) [(4, _)] ⟨rfl, trivial⟩ ?_ ?_
 ·refine RS.p (Pu.assign rfl) rfl rfl ?_
  refine RS.nil (hK2 _ _ ?_)
  obtain rfl := Option.some.inj H
  refine T.retTo (by with_reducible ((repeat (first | apply RetTo.seq | apply RetTo.blk)); exact RetTo.refl _)) (Cont.ret1 rfl rfl fun w' s => ?_)
  exact ⟨rfl, s.ext⟩
 ·intro hJ3
  refine RS.splitP 7 rfl (fun hc2 => ?_) (fun hc2 => ?_)
  ·refine RS.p (Pu.move rfl) rfl rfl ?_
   refine RS.p (Pu.fieldAddr fd24_0 rfl) rfl rfl ?_
   refine RS.q (Qt.ldB 0 ty3 rfl rfl rfl) rfl rfl ?_
   refine RS.p (Pu.fieldAddr fd24_1 rfl) rfl rfl ?_
   refine RS.q (Qt.ldB 0 ty3 rfl rfl rfl) rfl rfl ?_
   refine RS.p (Pu.mulS rfl rfl (g4 hc2)) rfl rfl ?_
   refine RS.p (Pu.bin rfl rfl rfl) rfl rfl ?_
   refine RS.p (Pu.pickT rfl rfl) rfl rfl ?_
   exact hJ3 _ _ ⟨dAndT hc2, rfl, trivial⟩ (fun w s => s)
  ·refine RS.no rfl rfl ?_
   refine RS.no rfl rfl ?_
   refine RS.no rfl rfl ?_
   refine RS.no rfl rfl ?_
   refine RS.no rfl rfl ?_
   refine RS.no rfl rfl ?_
   refine RS.no rfl rfl ?_
   refine RS.p (Pu.pickF rfl rfl) rfl rfl ?_
   exact hJ3 _ _ ⟨dAndF hc2, rfl, trivial⟩ (fun w s => s)
theorem ground_On_walk (a0_g : Grd) (a1_x : Int) (a2_y : Int) (w : World) {v0 : Value} (h0 : R (hpOf w) a0_g.tiles [v0]) {r : Bool} (H : ground_On a0_g a1_x a2_y = some r) : Calls Try.prog 40 #[.agg #[.int .i64 a0_g.w, .int .i64 a0_g.h, v0], .int .i64 a1_x, .int .i64 a2_y] w fun e w' => e = .returned (.bool r) ∧ Ext w w' := by
 have hm0 := R_max h0
 obtain ⟨p0, c0, rfl⟩ := R_form h0
 unfold ground_On at H
 refine T.enter (args := [_, _, _]) (S := Sat w []) Try.func40 rfl rfl (Sat.start w) ?_
 refine T.seq fun K1 hK1 => ?_
 refine T.region ?_
 refine RS.solid (Sd.box (cs := [_, _, _]) rfl rfl) rfl rfl fun b1 => ?_
 refine RS.p (Pu.assign rfl) rfl rfl ?_
 refine RS.nil (hK1 _ _ ?_)
 refine T.seq fun K2 hK2 => ?_
 refine T.region ?_
 refine RS.p (Pu.move rfl) rfl rfl ?_
 refine RS.p (Pu.bin rfl rfl rfl) rfl rfl ?_
 refine RS.p (Pu.move rfl) rfl rfl ?_
 refine RS.joinV 5 14 (.bool (decide ((0 ≤ a1_x) ∧ (a1_x < a0_g.w)))) [(2, _), (3, _), (6, _)] ⟨rfl, rfl, rfl, trivial⟩ ?_ ?_
 ·refine RS.p (Pu.move rfl) rfl rfl ?_
  refine RS.joinV 3 18 (.bool (decide (((0 ≤ a1_x) ∧ (a1_x < a0_g.w)) ∧ (0 ≤ a2_y)))) [(2, _), (3, _), (6, _)] ⟨rfl, rfl, rfl, trivial⟩ ?_ ?_
  ·refine RS.p (Pu.move rfl) rfl rfl ?_
   refine RS.joinV 5 24 (.bool (decide ((((0 ≤ a1_x) ∧ (a1_x < a0_g.w)) ∧ (0 ≤ a2_y)) ∧ (a2_y < a0_g.h)))) [(6, _)] ⟨rfl, trivial⟩ ?_ ?_
   ·refine RS.p (Pu.assign rfl) rfl rfl ?_
    refine RS.nil (hK2 _ _ ?_)
    obtain rfl := Option.some.inj H
    refine T.retTo (by with_reducible ((repeat (first | apply RetTo.seq | apply RetTo.blk)); exact RetTo.refl _)) (Cont.ret1 rfl rfl fun w' s => ?_)
    exact ⟨rfl, s.ext⟩
   ·intro hJ7
    refine RS.splitP 19 rfl (fun hc6 => ?_) (fun hc6 => ?_)
    ·refine RS.p (Pu.move rfl) rfl rfl ?_
     refine RS.p (Pu.fieldAddr fd24_1 rfl) rfl rfl ?_
     refine RS.q (Qt.ldB 0 ty3 rfl rfl rfl) rfl rfl ?_
     refine RS.p (Pu.bin rfl rfl rfl) rfl rfl ?_
     refine RS.p (Pu.pickT rfl rfl) rfl rfl ?_
     exact hJ7 _ _ ⟨dAndT hc6, rfl, trivial⟩ (fun w s => s)
    ·refine RS.no rfl rfl ?_
     refine RS.no rfl rfl ?_
     refine RS.no rfl rfl ?_
     refine RS.no rfl rfl ?_
     refine RS.p (Pu.pickF rfl rfl) rfl rfl ?_
     exact hJ7 _ _ ⟨dAndF hc6, rfl, trivial⟩ (fun w s => s)
  ·intro hJ5
   refine RS.splitP 15 rfl (fun hc4 => ?_) (fun hc4 => ?_)
   ·refine RS.p (Pu.move rfl) rfl rfl ?_
    refine RS.p (Pu.bin rfl rfl rfl) rfl rfl ?_
    refine RS.p (Pu.pickT rfl rfl) rfl rfl ?_
    exact hJ5 _ _ ⟨dAndT hc4, rfl, rfl, rfl, trivial⟩ (fun w s => s)
   ·refine RS.no rfl rfl ?_
    refine RS.no rfl rfl ?_
    refine RS.p (Pu.pickF rfl rfl) rfl rfl ?_
    exact hJ5 _ _ ⟨dAndF hc4, rfl, rfl, rfl, trivial⟩ (fun w s => s)
 ·intro hJ3
  refine RS.splitP 9 rfl (fun hc2 => ?_) (fun hc2 => ?_)
  ·refine RS.p (Pu.move rfl) rfl rfl ?_
   refine RS.p (Pu.fieldAddr fd24_0 rfl) rfl rfl ?_
   refine RS.q (Qt.ldB 0 ty3 rfl rfl rfl) rfl rfl ?_
   refine RS.p (Pu.bin rfl rfl rfl) rfl rfl ?_
   refine RS.p (Pu.pickT rfl rfl) rfl rfl ?_
   exact hJ3 _ _ ⟨dAndT hc2, rfl, rfl, rfl, trivial⟩ (fun w s => s)
  ·refine RS.no rfl rfl ?_
   refine RS.no rfl rfl ?_
   refine RS.no rfl rfl ?_
   refine RS.no rfl rfl ?_
   refine RS.p (Pu.pickF rfl rfl) rfl rfl ?_
   exact hJ3 _ _ ⟨dAndF hc2, rfl, rfl, rfl, trivial⟩ (fun w s => s)
end Go.Proofs.Ytiipgdmcgmbbkaa
