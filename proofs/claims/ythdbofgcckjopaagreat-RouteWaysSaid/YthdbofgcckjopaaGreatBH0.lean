/-
  Walks of what the statements of the buildings call: the smaller functions.
-/
import Derived.Test.YthdbofgcckjopaaGreatRows
import Derived.Test.YthdbofgcckjopaaGreatW3
import Derived.Test.YthdbofgcckjopaaGreatBG
set_option linter.unusedVariables false
set_option linter.unusedSimpArgs false
set_option maxRecDepth 20000
set_option maxHeartbeats 4000000
namespace Go.Proofs.YthdbofgcckjopaaGreat
open Go.Vg
open Enc (R)
theorem ent131 : Ent Tryz.prog 131 := ⟨_, _, Tryz.func131, by kernel_rfl, rfl⟩
theorem ent138 : Ent Tryz.prog 138 := ⟨_, _, Tryz.func138, by kernel_rfl, rfl⟩
theorem ent185 : Ent Tryz.prog 185 := ⟨_, _, Tryz.func185, by kernel_rfl, rfl⟩
theorem ent96 : Ent Tryz.prog 96 := ⟨_, _, Tryz.func96, by kernel_rfl, rfl⟩
theorem fd36_0 : fdOff Tryz.prog 36 0 = some 0 := by kernel_rfl
theorem fd36_1 : fdOff Tryz.prog 36 1 = some 1 := by kernel_rfl
theorem fd36_2 : fdOff Tryz.prog 36 2 = some 2 := by kernel_rfl
theorem sl34 : slTy Tryz.prog 34 = some (5, 1, 1) := by kernel_rfl
theorem ty3 : tySz Tryz.prog 3 = some (1, false) := by kernel_rfl
theorem ty34 : tySz Tryz.prog 34 = some (1, false) := by kernel_rfl
theorem ty36 : tySz Tryz.prog 36 = some (3, true) := by kernel_rfl
theorem ty5 : tySz Tryz.prog 5 = some (1, false) := by kernel_rfl
theorem zr5 : zeroOf Tryz.prog 5 = some (.int .u8 0) := by kernel_rfl
theorem throngref0_EqNumbers_walk (a0_a : List Int) (a1_b : List Int) (w : World) {v0 v1 : Value} (h0 : R (hpOf w) a0_a [v0]) (h1 : R (hpOf w) a1_b [v1]) {r : Bool} (H : throngref0_EqNumbers a0_a a1_b = some r) : Calls Tryz.prog 20 #[v0, v1] w fun e w' => e = .returned (.bool r) ∧ Ext w w' := by
 have hm0 := R_max h0
 obtain ⟨p0, c0, rfl⟩ := R_form h0
 have hm1 := R_max h1
 obtain ⟨p1, c1, rfl⟩ := R_form h1
 unfold throngref0_EqNumbers at H
 refine T.enter (args := [_, _]) (S := Sat w []) Tryz.func20 rfl rfl (Sat.start w) ?_
 refine T.seq fun K1 hK1 => T.region (rA rfl (RS.nil (hK1 _ _ ?_)))
 refine T.seq fun K2 hK2 => T.seq fun K3 hK3 => T.region (rM rfl (rp (Pu.lenSl sl23 rfl) (rM rfl (rp (Pu.lenSl sl23 rfl) (rp (Pu.bin rfl rfl rfl) (RS.nil (hK3 _ _ ?_)))))))
 refine T.condP rfl (fun hc1 => ?_) (fun hc1 => ?_)
 ·have H := ifT hc1 H
  refine cq [] ?_
  refine T.seq fun K4 hK4 => T.region (rA rfl (RS.nil (hK4 _ _ ?_)))
  obtain rfl := sj H
  refine T.rt (Cont.ret1 rfl rfl fun w' s => ?_)
  exact ⟨rfl, s.ext⟩
 ·have H := ifF hc1 H
  refine T.skip (hK2 _ _ (cq [(0, _), (1, _)] ?_))
  refine T.seq fun K5 hK5 => T.seq fun K6 hK6 => T.region (rA rfl (RS.nil (hK6 _ _ ?_)))
  refine T.joinE (σ := Unit) (γ := Unit) H Ex.go [] trivial (fun _ _ => []) (fun _ _ => Sat w []) ?_ ?_
  ·rintro ⟨⟩ ⟨⟩ H
   try dsimp only [Ex.then] at H
   refine Cont.conseq (fr' := []) ?_ trivial (fun _ s => s)
   refine id (hK5 _ _ ?_)
   refine T.seq fun K7 hK7 => T.region (rA rfl (RS.nil (hK7 _ _ ?_)))
   obtain rfl := sj H
   refine T.rt (Cont.ret1 rfl rfl fun w' s => ?_)
   exact ⟨rfl, s.ext⟩
  ·intro z2 hz2 HX2 hJ2
   refine T.block ?_
   refine T.loopA (γ := Unit) hz2 [(0, _), (1, _)] (fun v3 _ => [(5, .int .i64 v3)]) (fun v3 _ => Sat w []) () ⟨rfl, rfl, trivial⟩ ⟨rfl, trivial⟩ (fun w s => s) ?_
   rintro v3 ⟨⟩ y4 H hd2 KL2 hL2
   try dsimp only [Ex.then] at H
   refine cq [(5, _), (0, _), (1, _)] ?_
   refine T.seq fun K8 hK8 => T.seq fun K9 hK9 => T.region (rM rfl (rM rfl (rp (Pu.lenSl sl23 rfl) (rp (Pu.bin rfl rfl rfl) (RS.nil (hK9 _ _ ?_))))))
   refine T.condP rfl (fun hc5 => ?_) (fun hc5 => ?_)
   ·have H := ifT hc5 H
    refine T.skip (hK8 _ _ (cq [(0, _), (1, _), (5, _)] ?_))
    refine T.seq fun K10 hK10 => T.block (T.seq fun K11 hK11 => ?_)
    refine T.drawn (fun _ => True) [(0, .pu), (1, .pu), (2, .pu), (3, .rd), (4, .pu), (5, .pu), (6, .pu), (7, .rd), (8, .pu)] mixed (ClE.sat _ _) (by kernel_rfl) ?_
    refine dp rfl (Pu.move rfl) (dp rfl (Pu.move rfl) ?_)
    obtain ⟨g6, H⟩ := gdE H
    obtain ⟨bl7, ol8, rfl⟩ := R_ptr h0 (ne_of_pos (pos_of g6))
    refine dp rfl (Pu.indexSl sl23 rfl rfl g6) (dq rfl (Qt.ld0 (α := Int) (Rd.base h0) ty3 rfl rfl g6 (by rintro _ _ rfl; rfl)) (dp rfl (Pu.move rfl) (dp rfl (Pu.move rfl) ?_)))
    obtain ⟨g9, H⟩ := gdE H
    obtain ⟨bl10, ol11, rfl⟩ := R_ptr h1 (ne_of_pos (pos_of g9))
    refine dp rfl (Pu.indexSl sl23 rfl rfl g9) (dq rfl (Qt.ld0 (α := Int) (Rd.base h1) ty3 rfl rfl g9 (by rintro _ _ rfl; rfl)) (dp rfl (Pu.bin rfl rfl rfl) (RD.nil (hK11 _ _ ?_))))
    refine T.condP rfl (fun hc12 => ?_) (fun hc12 => ?_)
    ·have H := ifT hc12 H
     refine cq [] ?_
     refine T.seq fun K12 hK12 => T.region (rA rfl (RS.nil (hK12 _ _ ?_)))
     obtain rfl := hd2 _ H
     have H := HX2
     obtain rfl := sj H
     refine T.rt (Cont.ret1 rfl rfl fun w' s => ?_)
     exact ⟨rfl, s.ext⟩
    ·have H := ifF hc12 H
     refine T.skip (hK10 _ _ (cq [(0, _), (1, _), (5, _)] ?_))
     refine T.region (rM rfl ?_)
     obtain ⟨g13, H⟩ := gdE H
     refine rp (Pu.addS rfl rfl g13) (rA rfl (RS.nil (hL2 _ _ (v3 + 1) () H ⟨rfl, rfl, trivial⟩ ⟨rfl, trivial⟩ (fun w s => s))))
   ·have H := ifF hc5 H
    obtain rfl := hd2 _ H
    refine T.xt (hJ2 _ _ () () HX2 trivial trivial (fun w s => s))
theorem throngref0_Num_walk (a0_n : Int) (a1_most : Int) (w : World) {r : Bool} (H : throngref0_Num a0_n a1_most = some r) : Calls Tryz.prog 38 #[.int .i64 a0_n, .int .i64 a1_most] w fun e w' => e = .returned (.bool r) ∧ Ext w w' := by
 unfold throngref0_Num at H
 refine T.enter (args := [_, _]) (S := Sat w []) Tryz.func38 rfl rfl (Sat.start w) ?_
 refine T.seq fun K1 hK1 => T.region (rA rfl (RS.nil (hK1 _ _ ?_)))
 refine T.seq fun K2 hK2 => T.region (rM rfl (rp (Pu.bin rfl rfl rfl) (rM rfl ?_)))
 refine RS.joinV 4 11 (.bool (decide ((0 ≤ a0_n) ∧ (a0_n ≤ a1_most)))) [(4, _)] ⟨rfl, trivial⟩ ?_ ?_
 ·refine rA rfl (RS.nil (hK2 _ _ ?_))
  obtain rfl := sj H
  refine T.rt (Cont.ret1 rfl rfl fun w' s => ?_)
  exact ⟨rfl, s.ext⟩
 ·intro hJ2
  refine RS.splitP 7 rfl (fun hc1 => ?_) (fun hc1 => ?_)
  ·refine rM rfl (rM rfl (rp (Pu.bin rfl rfl rfl) (rp (Pu.pickT rfl rfl) ?_)))
   exact hJ2 _ _ ⟨dAndT hc1, rfl, trivial⟩ (fun w s => s)
  ·refine ro (ro (ro (rp (Pu.pickF rfl rfl) ?_)))
   exact hJ2 _ _ ⟨dAndF hc1, rfl, trivial⟩ (fun w s => s)
theorem thronglaw0_Great_walk (a0_g : Grd) (a1_l : List Bld) (w : World) {v0 v1 : Value} (h0 : R (hpOf w) a0_g.tiles [v0]) (h1 : R (hpOf w) a1_l [v1]) {r : Bool} (H : thronglaw0_Great a0_g a1_l = some r) : Calls Tryz.prog 50 #[.agg #[.int .i64 a0_g.w, .int .i64 a0_g.h, v0], v1] w fun e w' => e = .returned (.bool r) ∧ Ext w w' := by
 have hm0 := R_max h0
 obtain ⟨p0, c0, rfl⟩ := R_form h0
 have hm1 := R_max h1
 obtain ⟨p1, c1, rfl⟩ := R_form h1
 unfold thronglaw0_Great at H
 refine T.enter (args := [_, _]) (S := Sat w []) Tryz.func50 rfl rfl (Sat.start w) ?_
 refine T.seq fun K1 hK1 => T.region (RS.solid (Sd.box (cs := [_, _, _]) rfl rfl) rfl rfl fun b1 => rA rfl (RS.nil (hK1 _ _ ?_)))
 refine T.seq fun K2 hK2 => T.region (rp (Pu.fieldAddr fd36_2 rfl) (rq (Qt.ldB 0 ty34 rfl rfl rfl) (rp (Pu.lenSl sl34 rfl) (rp (Pu.bin rfl rfl rfl) (rM rfl ?_)))))
 refine RS.joinV 4 13 (.bool (decide ((700 < (a0_g.tiles.length : Int)) ∨ (30 < (a1_l.length : Int))))) [(4, _)] ⟨rfl, trivial⟩ ?_ ?_
 ·refine rA rfl (RS.nil (hK2 _ _ ?_))
  obtain rfl := sj H
  refine T.rt (Cont.ret1 rfl rfl fun w' s => ?_)
  exact ⟨rfl, s.ext⟩
 ·intro hJ3
  refine RS.splitP 9 rfl (fun hc2 => ?_) (fun hc2 => ?_)
  ·refine ro (ro (ro (rp (Pu.pickT rfl rfl) ?_)))
   exact hJ3 _ _ ⟨dOrT hc2, rfl, trivial⟩ (fun w s => s)
  ·refine rM rfl (rp (Pu.lenSl sl37 rfl) (rp (Pu.bin rfl rfl rfl) (rp (Pu.pickF rfl rfl) ?_)))
   exact hJ3 _ _ ⟨dOrF hc2, rfl, trivial⟩ (fun w s => s)
theorem cmp_isNaN_walk (a0_x : Int) (w : World) {r : Bool} (H : cmp_isNaN a0_x = some r) : Calls Tryz.prog 131 #[.int .i64 a0_x] w fun e w' => e = .returned (.bool r) ∧ Ext w w' := by
 unfold cmp_isNaN at H
 refine T.enter (args := [_]) (S := Sat w []) Tryz.func131 rfl rfl (Sat.start w) ?_
 refine T.seq fun K1 hK1 => T.region (rA rfl (RS.nil (hK1 _ _ ?_)))
 refine T.seq fun K2 hK2 => T.region (rM rfl (rM rfl (rp (Pu.bin rfl rfl rfl) (rA rfl (RS.nil (hK2 _ _ (cq [(2, _)] ?_)))))))
 obtain rfl := sj H
 refine T.rt (Cont.ret1 rfl rfl fun w' s => ?_)
 exact ⟨rfl, s.ext⟩
theorem cmp_Compare_walk (a0_x : Int) (a1_y : Int) (w : World) {r : Int} (H : cmp_Compare a0_x a1_y = some r) : Calls Tryz.prog 101 #[.int .i64 a0_x, .int .i64 a1_y] w fun e w' => e = .returned (.int .i64 r) ∧ Ext w w' := by
 unfold cmp_Compare at H
 refine T.enter (args := [_, _]) (S := Sat w []) Tryz.func101 rfl rfl (Sat.start w) ?_
 refine T.seq fun K1 hK1 => T.region (rA rfl (RS.nil (hK1 _ _ ?_)))
 refine T.seq fun K2 hK2 => T.region (rM rfl ?_)
 obtain ⟨x1, hx1, H⟩ := bindE H
 refine rq (Qt.call (vs := [.int .i64 a0_x]) ent131 rfl fun w s => cmp_isNaN_walk a0_x w  hx1) (rA rfl (RS.nil (hK2 _ _ (cq [(0, _), (1, _), (5, _)] ?_))))
 refine T.seq fun K3 hK3 => T.region (rM rfl ?_)
 obtain ⟨x2, hx2, H⟩ := bindE H
 refine rq (Qt.call (vs := [.int .i64 a1_y]) ent131 rfl fun w s => cmp_isNaN_walk a1_y w  hx2) (rA rfl (RS.nil (hK3 _ _ ?_)))
 refine T.seq fun K4 hK4 => T.seq fun K5 hK5 => T.region (rM rfl (RS.nil (hK5 _ _ ?_)))
 refine T.cond rfl (fun hc3 => ?_) (fun hc3 => ?_)
 ·have H := ifT hc3 H
  refine cq [(6, _)] ?_
  refine T.seq fun K6 hK6 => T.seq fun K7 hK7 => T.region (rM rfl (RS.nil (hK7 _ _ ?_)))
  refine T.cond rfl (fun hc4 => ?_) (fun hc4 => ?_)
  ·have H := ifT hc4 H
   refine T.seq fun K8 hK8 => T.region (rA rfl (RS.nil (hK8 _ _ ?_)))
   obtain rfl := sj H
   refine T.rt (Cont.ret1 rfl rfl fun w' s => ?_)
   exact ⟨rfl, s.ext⟩
  ·have H := ifB hc4 H
   refine T.skip (hK6 _ _ ?_)
   refine T.seq fun K9 hK9 => T.region (rA rfl (RS.nil (hK9 _ _ ?_)))
   obtain rfl := sj H
   refine T.rt (Cont.ret1 rfl rfl fun w' s => ?_)
   exact ⟨rfl, s.ext⟩
 ·have H := ifB hc3 H
  refine T.skip (hK4 _ _ (cq [(0, _), (1, _), (6, _)] ?_))
  refine T.seq fun K10 hK10 => T.seq fun K11 hK11 => T.region (rM rfl (RS.nil (hK11 _ _ ?_)))
  refine T.cond rfl (fun hc5 => ?_) (fun hc5 => ?_)
  ·have H := ifT hc5 H
   refine cq [] ?_
   refine T.seq fun K12 hK12 => T.region (rA rfl (RS.nil (hK12 _ _ ?_)))
   obtain rfl := sj H
   refine T.rt (Cont.ret1 rfl rfl fun w' s => ?_)
   exact ⟨rfl, s.ext⟩
  ·have H := ifB hc5 H
   refine T.skip (hK10 _ _ ?_)
   refine T.seq fun K13 hK13 => T.seq fun K14 hK14 => T.region (rM rfl (rM rfl (rp (Pu.bin rfl rfl rfl) (RS.nil (hK14 _ _ ?_)))))
   refine T.condP rfl (fun hc6 => ?_) (fun hc6 => ?_)
   ·have H := ifT hc6 H
    refine cq [] ?_
    refine T.seq fun K15 hK15 => T.region (rA rfl (RS.nil (hK15 _ _ ?_)))
    obtain rfl := sj H
    refine T.rt (Cont.ret1 rfl rfl fun w' s => ?_)
    exact ⟨rfl, s.ext⟩
   ·have H := ifF hc6 H
    refine T.skip (hK13 _ _ (cq [(0, _), (1, _)] ?_))
    refine T.seq fun K16 hK16 => T.seq fun K17 hK17 => T.region (rM rfl (rM rfl (rp (Pu.bin rfl rfl rfl) (RS.nil (hK17 _ _ ?_)))))
    refine T.condP rfl (fun hc7 => ?_) (fun hc7 => ?_)
    ·have H := ifT hc7 H
     refine cq [] ?_
     refine T.seq fun K18 hK18 => T.region (rA rfl (RS.nil (hK18 _ _ ?_)))
     obtain rfl := sj H
     refine T.rt (Cont.ret1 rfl rfl fun w' s => ?_)
     exact ⟨rfl, s.ext⟩
    ·have H := ifF hc7 H
     refine T.skip (hK16 _ _ (cq [] ?_))
     refine T.seq fun K19 hK19 => T.region (rA rfl (RS.nil (hK19 _ _ ?_)))
     obtain rfl := sj H
     refine T.rt (Cont.ret1 rfl rfl fun w' s => ?_)
     exact ⟨rfl, s.ext⟩
theorem slices_Max_walk (a0_x : List UInt8) (w : World) {v0 : Value} (h0 : R (hpOf w) a0_x [v0]) {r : Int} (H : slices_Max a0_x = some r) : Calls Tryz.prog 138 #[v0] w fun e w' => e = .returned (.int .u8 r) ∧ Ext w w' := by
 have hm0 := R_max h0
 obtain ⟨p0, c0, rfl⟩ := R_form h0
 unfold slices_Max at H
 refine T.enter (args := [_]) (S := Sat w []) Tryz.func138 rfl rfl (Sat.start w) ?_
 refine T.seq fun K1 hK1 => T.region (rA rfl (RS.nil (hK1 _ _ ?_)))
 refine T.seq fun K2 hK2 => T.seq fun K3 hK3 => T.region (rM rfl (rp (Pu.lenSl sl34 rfl) (rp (Pu.bin rfl rfl rfl) (RS.nil (hK3 _ _ ?_)))))
 refine T.joinE (σ := Unit) (γ := Unit) H (fun s => s) [(0, _)] ⟨rfl, trivial⟩ (fun _ _ => []) (fun _ _ => Sat w []) ?_ ?_
 ·rintro ⟨⟩ ⟨⟩ H
  try dsimp only [Ex.then] at H
  refine Cont.conseq (fr' := [(0, _)]) ?_ ⟨rfl, trivial⟩ (fun _ s => s)
  refine id (hK2 _ _ ?_)
  refine T.seq fun K4 hK4 => T.region (rM rfl ?_)
  obtain ⟨g2, H⟩ := gdE H
  obtain ⟨bl3, ol4, rfl⟩ := R_ptr h0 (ne_of_pos (pos_of g2))
  refine rp (Pu.indexSl sl34 rfl rfl g2) (rq (Qt.ld0 (α := UInt8) (Rd.base h0) ty5 rfl rfl g2 (by rintro _ _ rfl; rfl)) (rA rfl (RS.nil (hK4 _ _ (cq [(0, _), (3, _)] ?_)))))
  refine T.seq fun K5 hK5 => T.seq fun K6 hK6 => T.region (rA rfl (RS.nil (hK6 _ _ ?_)))
  refine T.joinE (σ := Int) (γ := Unit) H (fun s => s) [] trivial (fun v6 _ => [(3, .int .u8 v6)]) (fun v6 _ => Sat w []) ?_ ?_
  ·rintro v6 ⟨⟩ H
   try dsimp only [Ex.then] at H
   refine Cont.conseq (fr' := [(3, _)]) ?_ ⟨rfl, trivial⟩ (fun _ s => s)
   refine id (hK5 _ _ ?_)
   refine T.seq fun K7 hK7 => T.region (rM rfl (rA rfl (RS.nil (hK7 _ _ ?_))))
   obtain rfl := sj H
   refine T.rt (Cont.ret1 rfl rfl fun w' s => ?_)
   exact ⟨rfl, s.ext⟩
  ·intro z5 hz5 HX5 hJ5
   refine T.block ?_
   refine T.loopA (γ := Unit) hz5 [(0, _)] (fun (v7, v8) _ => [(3, .int .u8 v7), (4, .int .i64 v8)]) (fun (v7, v8) _ => Sat w []) () ⟨rfl, trivial⟩ ⟨rfl, rfl, trivial⟩ (fun w s => s) ?_
   rintro ⟨v7, v8⟩ ⟨⟩ y9 H hd5 KL5 hL5
   try dsimp only [Ex.then] at H
   refine cq [(3, _), (4, _), (0, _)] ?_
   refine T.seq fun K8 hK8 => T.seq fun K9 hK9 => T.region (rM rfl (rM rfl (rp (Pu.lenSl sl34 rfl) (rp (Pu.bin rfl rfl rfl) (RS.nil (hK9 _ _ ?_))))))
   refine T.condP rfl (fun hc10 => ?_) (fun hc10 => ?_)
   ·have H := ifT hc10 H
    refine T.skip (hK8 _ _ (cq [(0, _), (3, _), (4, _)] ?_))
    refine T.seq fun K10 hK10 => T.block (T.region (rM rfl (rM rfl (rM rfl ?_))))
    obtain ⟨g11, H⟩ := gdE H
    refine rp (Pu.indexSl sl34 rfl rfl g11) (rq (Qt.ld0 (α := UInt8) (Rd.base h0) ty5 rfl rfl g11 (by rintro _ _ rfl; rfl)) (rp (Pu.maxI rfl rfl) (rA rfl (RS.nil (hK10 _ _ (cq [(0, _), (3, _), (4, _)] ?_))))))
    refine T.region (rM rfl ?_)
    obtain ⟨g12, H⟩ := gdE H
    refine rp (Pu.addS rfl rfl g12) (rA rfl (RS.nil (hL5 _ _ ((max v7 ((gi a0_x v8).toNat : Int)), (v8 + 1)) () H ⟨rfl, trivial⟩ ⟨rfl, rfl, trivial⟩ (fun w s => s))))
   ·have H := ifF hc10 H
    obtain rfl := hd5 _ H
    refine T.xt (hJ5 _ _ v7 () HX5 trivial ⟨rfl, trivial⟩ (fun w s => s))
 ·intro z1 H HX1 hJ1
  refine T.condP rfl (fun hc13 => ?_) (fun hc13 => ?_)
  ·have H := ifT hc13 H
   refine cq [(0, _)] ?_
   exact nomatch H
  ·have H := ifF hc13 H
   obtain rfl := sj H
   refine T.skip (hJ1 _ _ () () HX1 ⟨rfl, trivial⟩ trivial (fun w s => s))
theorem slices_IndexFunc_walk (a0_s : List Int) (a1_f : Int → Option Bool) (w : World) {v0 v1 : Value} (h0 : R (hpOf w) a0_s [v0]) (h1 : FnQ Tryz.prog w v1 (fun (y0 : Int) => [.int .i64 y0]) (fun (r : Bool) => .bool r) a1_f) {r : Int} (H : slices_IndexFunc a0_s a1_f = some r) : Calls Tryz.prog 185 #[v0, v1] w fun e w' => e = .returned (.int .i64 r) ∧ Ext w w' := by
 have hm0 := R_max h0
 obtain ⟨p0, c0, rfl⟩ := R_form h0
 unfold slices_IndexFunc at H
 refine T.enter (args := [_, _]) (S := Sat w []) Tryz.func185 rfl rfl (Sat.start w) ?_
 refine T.seq fun K1 hK1 => T.region (rA rfl (RS.nil (hK1 _ _ ?_)))
 refine T.seq fun K2 hK2 => T.seq fun K3 hK3 => T.region (rM rfl (rp (Pu.lenSl sl23 rfl) (rM rfl (RS.nil (hK3 _ _ ?_)))))
 refine T.joinE (σ := Unit) (γ := Unit) H Ex.go [] trivial (fun _ _ => []) (fun _ _ => Sat w []) ?_ ?_
 ·rintro ⟨⟩ ⟨⟩ H
  try dsimp only [Ex.then] at H
  refine Cont.conseq (fr' := []) ?_ trivial (fun _ s => s)
  refine id (hK2 _ _ ?_)
  refine T.seq fun K4 hK4 => T.region (rA rfl (RS.nil (hK4 _ _ ?_)))
  obtain rfl := sj H
  refine T.rt (Cont.ret1 rfl rfl fun w' s => ?_)
  exact ⟨rfl, s.ext⟩
 ·intro z1 hz1 HX1 hJ1
  refine T.block ?_
  refine T.loopA (γ := Unit) hz1 [(0, _), (1, _), (7, _)] (fun v2 _ => [(8, .int .i64 v2)]) (fun v2 _ => Sat w []) () ⟨rfl, rfl, rfl, trivial⟩ ⟨rfl, trivial⟩ (fun w s => s) ?_
  rintro v2 ⟨⟩ y3 H hd1 KL1 hL1
  try dsimp only [Ex.then] at H
  refine cq [(8, _), (0, _), (1, _), (7, _)] ?_
  refine T.seq fun K5 hK5 => T.region (rp (Pu.bin rfl rfl rfl) (RS.nil (hK5 _ _ ?_)))
  refine T.seq fun K6 hK6 => ?_
  refine T.condP rfl (fun hc4 => ?_) (fun hc4 => ?_)
  ·have H := ifT hc4 H
   refine T.skip (hK6 _ _ ?_)
   refine T.seq fun K7 hK7 => T.block (T.seq fun K8 hK8 => T.region (rM rfl (rA rfl (RS.nil (hK8 _ _ ?_)))))
   refine T.seq fun K9 hK9 => T.region (rM rfl (rM rfl (rM rfl ?_)))
   obtain ⟨g5, H⟩ := gdE H
   obtain ⟨bl6, ol7, rfl⟩ := R_ptr h0 (ne_of_pos (pos_of g5))
   refine rp (Pu.indexSl sl23 rfl rfl g5) (rq (Qt.ld0 (α := Int) (Rd.base h0) ty3 rfl rfl g5 (by rintro _ _ rfl; rfl)) ?_)
   obtain ⟨x8, hx8, H⟩ := bindE H
   refine rq (Qt.callV rfl h1 (fun w s => s.ext) hx8 rfl) (RS.nil (hK9 _ _ ?_))
   refine T.cond rfl (fun hc9 => ?_) (fun hc9 => ?_)
   ·have H := ifT hc9 H
    refine cq [(5, _)] ?_
    refine T.seq fun K10 hK10 => T.region (rM rfl (rA rfl (RS.nil (hK10 _ _ ?_))))
    obtain rfl := hd1 _ H
    have H := HX1
    obtain rfl := sj H
    refine T.rt (Cont.ret1 rfl rfl fun w' s => ?_)
    exact ⟨rfl, s.ext⟩
   ·have H := ifB hc9 H
    refine T.skip (hK7 _ _ (cq [(0, _), (1, _), (7, _), (8, _)] ?_))
    refine T.region ?_
    obtain ⟨g10, H⟩ := gdE H
    refine rp (Pu.addS rfl rfl g10) (rM rfl (RS.nil (hL1 _ _ (v2 + 1) () H ⟨rfl, rfl, rfl, trivial⟩ ⟨rfl, trivial⟩ (fun w s => s))))
  ·have H := ifF hc4 H
   obtain rfl := hd1 _ H
   refine T.xt (hJ1 _ _ () () HX1 trivial trivial (fun w s => s))
theorem slices_ContainsFunc_walk (a0_s : List Int) (a1_f : Int → Option Bool) (w : World) {v0 v1 : Value} (h0 : R (hpOf w) a0_s [v0]) (h1 : FnQ Tryz.prog w v1 (fun (y0 : Int) => [.int .i64 y0]) (fun (r : Bool) => .bool r) a1_f) {r : Bool} (H : slices_ContainsFunc a0_s a1_f = some r) : Calls Tryz.prog 167 #[v0, v1] w fun e w' => e = .returned (.bool r) ∧ Ext w w' := by
 have hm0 := R_max h0
 obtain ⟨p0, c0, rfl⟩ := R_form h0
 unfold slices_ContainsFunc at H
 refine T.enter (args := [_, _]) (S := Sat w []) Tryz.func167 rfl rfl (Sat.start w) ?_
 refine T.seq fun K1 hK1 => T.region (rA rfl (RS.nil (hK1 _ _ ?_)))
 refine T.seq fun K2 hK2 => T.region (rM rfl (rM rfl ?_))
 obtain ⟨x1, hx1, H⟩ := bindE H
 refine rq (Qt.call (vs := [.slice p0 a0_s.length c0, v1]) ent185 rfl fun w s => slices_IndexFunc_walk a0_s a1_f w ((Rd.base h0) w s) (FnQ.ext s.ext h1) hx1) (rp (Pu.bin rfl rfl rfl) (rA rfl (RS.nil (hK2 _ _ (cq [(4, _)] ?_)))))
 obtain rfl := sj H
 refine T.rt (Cont.ret1 rfl rfl fun w' s => ?_)
 exact ⟨rfl, s.ext⟩
theorem ground_Side_walk (a0_n : Int) (w : World) {r : Bool} (H : ground_Side a0_n = some r) : Calls Tryz.prog 96 #[.int .i64 a0_n] w fun e w' => e = .returned (.bool r) ∧ Ext w w' := by
 unfold ground_Side at H
 refine T.enter (args := [_]) (S := Sat w []) Tryz.func96 rfl rfl (Sat.start w) ?_
 refine T.seq fun K1 hK1 => T.region (rA rfl (RS.nil (hK1 _ _ ?_)))
 refine T.seq fun K2 hK2 => T.region (rM rfl (rp (Pu.bin rfl rfl rfl) (rM rfl ?_)))
 refine RS.joinV 3 8 (.bool (decide ((1 ≤ a0_n) ∧ (a0_n ≤ 128)))) [(2, _)] ⟨rfl, trivial⟩ ?_ ?_
 ·refine rA rfl (RS.nil (hK2 _ _ ?_))
  obtain rfl := sj H
  refine T.rt (Cont.ret1 rfl rfl fun w' s => ?_)
  exact ⟨rfl, s.ext⟩
 ·intro hJ2
  refine RS.splitP 5 rfl (fun hc1 => ?_) (fun hc1 => ?_)
  ·refine rM rfl (rp (Pu.bin rfl rfl rfl) (rp (Pu.pickT rfl rfl) ?_))
   exact hJ2 _ _ ⟨dAndT hc1, rfl, trivial⟩ (fun w s => s)
  ·refine ro (ro (rp (Pu.pickF rfl rfl) ?_))
   exact hJ2 _ _ ⟨dAndF hc1, rfl, trivial⟩ (fun w s => s)
theorem ground_May_walk (a0_g : Grd) (w : World) {v0 : Value} (h0 : R (hpOf w) a0_g.tiles [v0]) {r : Bool} (H : ground_May a0_g = some r) : Calls Tryz.prog 108 #[.agg #[.int .i64 a0_g.w, .int .i64 a0_g.h, v0]] w fun e w' => e = .returned (.bool r) ∧ Ext w w' := by
 have hm0 := R_max h0
 obtain ⟨p0, c0, rfl⟩ := R_form h0
 unfold ground_May at H
 refine T.enter (args := [_]) (S := Sat w []) Tryz.func108 rfl rfl (Sat.start w) ?_
 refine T.seq fun K1 hK1 => T.region (RS.solid (Sd.box (cs := [_, _, _]) rfl rfl) rfl rfl fun b1 => rA rfl (RS.nil (hK1 _ _ ?_)))
 refine T.seq fun K2 hK2 => T.seq fun K3 hK3 => T.region (rp (Pu.fieldAddr fd36_0 rfl) (rq (Qt.ldB 0 ty3 rfl rfl rfl) ?_))
 obtain ⟨x2, hx2, H⟩ := bindE H
 refine rq (Qt.call (vs := [.int .i64 a0_g.w]) ent96 rfl fun w s => ground_Side_walk a0_g.w w  hx2) (rp (Pu.not rfl) (rM rfl ?_))
 refine RS.joinB H 5 12 (fun b5 => .bool b5) [(1, _)] ⟨rfl, trivial⟩ ?_ ?_
 ·intro b5 H
  refine rM rfl ?_
  obtain ⟨g8, H⟩ := gdE H
  refine RS.joinV 10 23 (.bool (decide ((b5 = true) ∨ (¬ (a0_g.tiles.length : Int) = (a0_g.w * a0_g.h))))) [(1, _)] ⟨rfl, trivial⟩ ?_ ?_
  ·refine RS.nil (hK3 _ _ ?_)
   refine T.condP rfl (fun hc9 => ?_) (fun hc9 => ?_)
   ·have H := ifT hc9 H
    refine T.seq fun K4 hK4 => T.region (rA rfl (RS.nil (hK4 _ _ ?_)))
    obtain rfl := sj H
    refine T.rt (Cont.ret1 rfl rfl fun w' s => ?_)
    exact ⟨rfl, s.ext⟩
   ·have H := ifF hc9 H
    refine T.skip (hK2 _ _ ?_)
    refine T.seq fun K5 hK5 => T.region (rp (Pu.fieldAddr fd36_2 rfl) (rq (Qt.ldB 0 ty34 rfl rfl rfl) ?_))
    obtain ⟨x10, hx10, H⟩ := bindE H
    refine rq (Qt.call (vs := [.slice p0 a0_g.tiles.length c0]) ent138 rfl fun w s => slices_Max_walk a0_g.tiles w ((Rd.base h0) w s) hx10) (rp (Pu.bin rfl rfl rfl) (rA rfl (RS.nil (hK5 _ _ (cq [(2, _)] ?_)))))
    obtain rfl := sj H
    refine T.rt (Cont.ret1 rfl rfl fun w' s => ?_)
    exact ⟨rfl, s.ext⟩
  ·intro hJ7
   refine RS.split 13 rfl (fun hc6 => ?_) (fun hc6 => ?_)
   ·refine ro (ro (ro (ro (ro (ro (ro (ro (ro (rp (Pu.pickT rfl rfl) ?_)))))))))
    exact hJ7 _ _ ⟨dOrT hc6, rfl, trivial⟩ (fun w s => s)
   ·refine rp (Pu.fieldAddr fd36_2 rfl) (rq (Qt.ldB 0 ty34 rfl rfl rfl) (rp (Pu.lenSl sl34 rfl) (rp (Pu.fieldAddr fd36_0 rfl) (rq (Qt.ldB 0 ty3 rfl rfl rfl) (rp (Pu.fieldAddr fd36_1 rfl) (rq (Qt.ldB 0 ty3 rfl rfl rfl) (rp (Pu.mulS rfl rfl (g8 (bne_of hc6))) (rp (Pu.bin rfl rfl rfl) (rp (Pu.pickF rfl rfl) ?_)))))))))
    exact hJ7 _ _ ⟨dOrF (bne_of hc6), rfl, trivial⟩ (fun w s => s)
 ·intro z11 H hJ4
  refine RS.split 7 rfl (fun hc3 => ?_) (fun hc3 => ?_)
  ·have H := ifT hc3 H
   refine ro (ro (ro (ro (rp (Pu.pickT rfl rfl) ?_))))
   obtain rfl := sj H
   exact hJ4 _ _ ⟨rfl, rfl, trivial⟩ (fun w s => s)
  ·have H := ifB hc3 H
   refine rp (Pu.fieldAddr fd36_1 rfl) (rq (Qt.ldB 0 ty3 rfl rfl rfl) ?_)
   obtain ⟨x12, hx12, H⟩ := bindE H
   refine rq (Qt.call (vs := [.int .i64 a0_g.h]) ent96 rfl fun w s => ground_Side_walk a0_g.h w  hx12) (rp (Pu.not rfl) (rp (Pu.pickF rfl rfl) ?_))
   obtain rfl := sj H
   exact hJ4 _ _ ⟨rfl, rfl, trivial⟩ (fun w s => s)
theorem ground_Is_walk (a0_g : Grd) (a1_t : Int) (w : World) {v0 : Value} (h0 : R (hpOf w) a0_g.tiles [v0]) {r : Bool} (H : ground_Is a0_g a1_t = some r) : Calls Tryz.prog 45 #[.agg #[.int .i64 a0_g.w, .int .i64 a0_g.h, v0], .int .i64 a1_t] w fun e w' => e = .returned (.bool r) ∧ Ext w w' := by
 have hm0 := R_max h0
 obtain ⟨p0, c0, rfl⟩ := R_form h0
 unfold ground_Is at H
 refine T.enter (args := [_, _]) (S := Sat w []) Tryz.func45 rfl rfl (Sat.start w) ?_
 refine T.seq fun K1 hK1 => T.region (RS.solid (Sd.box (cs := [_, _, _]) rfl rfl) rfl rfl fun b1 => rA rfl (RS.nil (hK1 _ _ ?_)))
 refine T.seq fun K2 hK2 => T.region (rM rfl (rp (Pu.bin rfl rfl rfl) (rM rfl ?_)))
 obtain ⟨g4, H⟩ := gdE H
 refine RS.joinV 8 15 (.bool (decide ((0 ≤ a1_t) ∧ (a1_t < (a0_g.w * a0_g.h))))) [(4, _)] ⟨rfl, trivial⟩ ?_ ?_
 ·refine rA rfl (RS.nil (hK2 _ _ ?_))
  obtain rfl := sj H
  refine T.rt (Cont.ret1 rfl rfl fun w' s => ?_)
  exact ⟨rfl, s.ext⟩
 ·intro hJ3
  refine RS.splitP 7 rfl (fun hc2 => ?_) (fun hc2 => ?_)
  ·refine rM rfl (rp (Pu.fieldAddr fd36_0 rfl) (rq (Qt.ldB 0 ty3 rfl rfl rfl) (rp (Pu.fieldAddr fd36_1 rfl) (rq (Qt.ldB 0 ty3 rfl rfl rfl) (rp (Pu.mulS rfl rfl (g4 hc2)) (rp (Pu.bin rfl rfl rfl) (rp (Pu.pickT rfl rfl) ?_)))))))
   exact hJ3 _ _ ⟨dAndT hc2, rfl, trivial⟩ (fun w s => s)
  ·refine ro (ro (ro (ro (ro (ro (ro (rp (Pu.pickF rfl rfl) ?_)))))))
   exact hJ3 _ _ ⟨dAndF hc2, rfl, trivial⟩ (fun w s => s)
theorem ground_On_walk (a0_g : Grd) (a1_x : Int) (a2_y : Int) (w : World) {v0 : Value} (h0 : R (hpOf w) a0_g.tiles [v0]) {r : Bool} (H : ground_On a0_g a1_x a2_y = some r) : Calls Tryz.prog 134 #[.agg #[.int .i64 a0_g.w, .int .i64 a0_g.h, v0], .int .i64 a1_x, .int .i64 a2_y] w fun e w' => e = .returned (.bool r) ∧ Ext w w' := by
 have hm0 := R_max h0
 obtain ⟨p0, c0, rfl⟩ := R_form h0
 unfold ground_On at H
 refine T.enter (args := [_, _, _]) (S := Sat w []) Tryz.func134 rfl rfl (Sat.start w) ?_
 refine T.seq fun K1 hK1 => T.region (RS.solid (Sd.box (cs := [_, _, _]) rfl rfl) rfl rfl fun b1 => rA rfl (RS.nil (hK1 _ _ ?_)))
 refine T.seq fun K2 hK2 => T.region (rM rfl (rp (Pu.bin rfl rfl rfl) (rM rfl ?_)))
 refine RS.joinV 5 14 (.bool (decide ((0 ≤ a1_x) ∧ (a1_x < a0_g.w)))) [(2, _), (3, _), (6, _)] ⟨rfl, rfl, rfl, trivial⟩ ?_ ?_
 ·refine rM rfl ?_
  refine RS.joinV 3 18 (.bool (decide (((0 ≤ a1_x) ∧ (a1_x < a0_g.w)) ∧ (0 ≤ a2_y)))) [(2, _), (3, _), (6, _)] ⟨rfl, rfl, rfl, trivial⟩ ?_ ?_
  ·refine rM rfl ?_
   refine RS.joinV 5 24 (.bool (decide ((((0 ≤ a1_x) ∧ (a1_x < a0_g.w)) ∧ (0 ≤ a2_y)) ∧ (a2_y < a0_g.h)))) [(6, _)] ⟨rfl, trivial⟩ ?_ ?_
   ·refine rA rfl (RS.nil (hK2 _ _ ?_))
    obtain rfl := sj H
    refine T.rt (Cont.ret1 rfl rfl fun w' s => ?_)
    exact ⟨rfl, s.ext⟩
   ·intro hJ7
    refine RS.splitP 19 rfl (fun hc6 => ?_) (fun hc6 => ?_)
    ·refine rM rfl (rp (Pu.fieldAddr fd36_1 rfl) (rq (Qt.ldB 0 ty3 rfl rfl rfl) (rp (Pu.bin rfl rfl rfl) (rp (Pu.pickT rfl rfl) ?_))))
     exact hJ7 _ _ ⟨dAndT hc6, rfl, trivial⟩ (fun w s => s)
    ·refine ro (ro (ro (ro (rp (Pu.pickF rfl rfl) ?_))))
     exact hJ7 _ _ ⟨dAndF hc6, rfl, trivial⟩ (fun w s => s)
  ·intro hJ5
   refine RS.splitP 15 rfl (fun hc4 => ?_) (fun hc4 => ?_)
   ·refine rM rfl (rp (Pu.bin rfl rfl rfl) (rp (Pu.pickT rfl rfl) ?_))
    exact hJ5 _ _ ⟨dAndT hc4, rfl, rfl, rfl, trivial⟩ (fun w s => s)
   ·refine ro (ro (rp (Pu.pickF rfl rfl) ?_))
    exact hJ5 _ _ ⟨dAndF hc4, rfl, rfl, rfl, trivial⟩ (fun w s => s)
 ·intro hJ3
  refine RS.splitP 9 rfl (fun hc2 => ?_) (fun hc2 => ?_)
  ·refine rM rfl (rp (Pu.fieldAddr fd36_0 rfl) (rq (Qt.ldB 0 ty3 rfl rfl rfl) (rp (Pu.bin rfl rfl rfl) (rp (Pu.pickT rfl rfl) ?_))))
   exact hJ3 _ _ ⟨dAndT hc2, rfl, rfl, rfl, trivial⟩ (fun w s => s)
  ·refine ro (ro (ro (ro (rp (Pu.pickF rfl rfl) ?_))))
   exact hJ3 _ _ ⟨dAndF hc2, rfl, rfl, rfl, trivial⟩ (fun w s => s)
end Go.Proofs.YthdbofgcckjopaaGreat
