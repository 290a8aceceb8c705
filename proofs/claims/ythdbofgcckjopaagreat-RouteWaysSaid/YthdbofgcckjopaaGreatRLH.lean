/-
  Walks of what the statements of the routes call.
-/
import Derived.Test.YthdbofgcckjopaaGreatRows
import Derived.Test.YthdbofgcckjopaaGreatW3
import Derived.Test.YthdbofgcckjopaaGreatRLG
set_option linter.unusedVariables false
set_option linter.unusedSimpArgs false
set_option maxRecDepth 20000
set_option maxHeartbeats 4000000
namespace Go.Proofs.YthdbofgcckjopaaGreat
open Go.Vg
open Enc (R)
theorem ent25 : Ent Tryz.prog 25 := ⟨_, _, Tryz.func25, by kernel_rfl, rfl⟩
theorem ent26 : Ent Tryz.prog 26 := ⟨_, _, Tryz.func26, by kernel_rfl, rfl⟩
theorem st36 : stTy Tryz.prog 36 = some ([.int .i64 0, .int .i64 0, .slice none 0 0], [(0, 1), (1, 1), (2, 1)]) := by kernel_rfl
theorem throngref0_In_walk (a0_l : List Int) (a1_n : Int) (w : World) {v0 : Value} (h0 : R (hpOf w) a0_l [v0]) {r : Int} (H : throngref0_In a0_l a1_n = some r) : Calls Tryz.prog 33 #[v0, .int .i64 a1_n] w fun e w' => e = .returned (.int .i64 r) ∧ Ext w w' := by
 have hm0 := R_max h0
 obtain ⟨p0, c0, rfl⟩ := R_form h0
 unfold throngref0_In at H
 refine T.enter (args := [_, _]) (S := Sat w []) Tryz.func33 rfl rfl (Sat.start w) ?_
 refine T.seq fun K1 hK1 => T.region (rA rfl (RS.nil (hK1 _ _ ?_)))
 refine T.seq fun K2 hK2 => T.seq fun K3 hK3 => T.region (rA rfl (RS.nil (hK3 _ _ ?_)))
 refine T.joinE (σ := Unit) (γ := Unit) H Ex.go [] trivial (fun _ _ => []) (fun _ _ => Sat w []) ?_ ?_
 ·rintro ⟨⟩ ⟨⟩ H
  try dsimp only [Ex.then] at H
  refine Cont.conseq (fr' := []) ?_ trivial (fun _ s => s)
  refine id (hK2 _ _ ?_)
  refine T.seq fun K4 hK4 => T.region (rA rfl (RS.nil (hK4 _ _ ?_)))
  obtain rfl := sj H
  refine T.rt (Cont.ret1 rfl rfl fun w' s => ?_)
  exact ⟨rfl, s.ext⟩
 ·intro z1 hz1 HX1 hJ1
  refine T.block ?_
  refine T.loopA (γ := Unit) hz1 [(0, _), (1, _)] (fun v2 _ => [(5, .int .i64 v2)]) (fun v2 _ => Sat w []) () ⟨rfl, rfl, trivial⟩ ⟨rfl, trivial⟩ (fun w s => s) ?_
  rintro v2 ⟨⟩ y3 H hd1 KL1 hL1
  try dsimp only [Ex.then] at H
  refine cq [(5, _), (0, _), (1, _)] ?_
  refine T.seq fun K5 hK5 => T.seq fun K6 hK6 => T.region (rM rfl (rM rfl (rp (Pu.lenSl sl23 rfl) (rp (Pu.bin rfl rfl rfl) (RS.nil (hK6 _ _ ?_))))))
  refine T.condP rfl (fun hc4 => ?_) (fun hc4 => ?_)
  ·have H := ifT hc4 H
   refine T.skip (hK5 _ _ (cq [(0, _), (1, _), (5, _)] ?_))
   refine T.seq fun K7 hK7 => T.block (T.seq fun K8 hK8 => T.region (rM rfl (rM rfl ?_)))
   obtain ⟨g5, H⟩ := gdE H
   obtain ⟨bl6, ol7, rfl⟩ := R_ptr h0 (ne_of_pos (pos_of g5))
   refine rp (Pu.indexSl sl23 rfl rfl g5) (rq (Qt.ld0 (α := Int) (Rd.base h0) ty3 rfl rfl g5 (by rintro _ _ rfl; rfl)) (rM rfl (rp (Pu.bin rfl rfl rfl) (RS.nil (hK8 _ _ ?_)))))
   refine T.condP rfl (fun hc8 => ?_) (fun hc8 => ?_)
   ·have H := ifT hc8 H
    refine cq [(5, _)] ?_
    refine T.seq fun K9 hK9 => T.region (rM rfl (rA rfl (RS.nil (hK9 _ _ ?_))))
    obtain rfl := hd1 _ H
    have H := HX1
    obtain rfl := sj H
    refine T.rt (Cont.ret1 rfl rfl fun w' s => ?_)
    exact ⟨rfl, s.ext⟩
   ·have H := ifF hc8 H
    refine T.skip (hK7 _ _ (cq [(0, _), (1, _), (5, _)] ?_))
    refine T.region (rM rfl ?_)
    obtain ⟨g9, H⟩ := gdE H
    refine rp (Pu.addS rfl rfl g9) (rA rfl (RS.nil (hL1 _ _ (v2 + 1) () H ⟨rfl, rfl, trivial⟩ ⟨rfl, trivial⟩ (fun w s => s))))
  ·have H := ifF hc4 H
   obtain rfl := hd1 _ H
   refine T.xt (hJ1 _ _ () () HX1 trivial trivial (fun w s => s))
theorem thronglaw14_num_walk (a0_e : Int) (w : World) {r : Int} (H : thronglaw14_num a0_e = some r) : Calls Tryz.prog 26 #[.int .i64 a0_e] w fun e w' => e = .returned (.int .i64 r) ∧ Ext w w' := by
 unfold thronglaw14_num at H
 refine T.enter (args := [_]) (S := Sat w []) Tryz.func26 rfl rfl (Sat.start w) ?_
 refine T.seq fun K1 hK1 => T.region (rA rfl (RS.nil (hK1 _ _ ?_)))
 refine T.seq fun K2 hK2 => T.region (rM rfl (rA rfl (RS.nil (hK2 _ _ ?_))))
 obtain rfl := sj H
 refine T.rt (Cont.ret1 rfl rfl fun w' s => ?_)
 exact ⟨rfl, s.ext⟩
theorem thronglaw14_wakes_walk (w : World) {r : Bool} (H : thronglaw14_wakes = some r) : Calls Tryz.prog 29 #[] w fun e w' => e = .returned (.bool r) ∧ Ext w w' := by
 unfold thronglaw14_wakes at H
 refine T.enter (args := []) (S := Sat w []) Tryz.func29 rfl rfl (Sat.start w) ?_
 refine T.seq fun K1 hK1 => T.region (rA rfl (RS.nil (hK1 _ _ ?_)))
 refine T.seq fun K2 hK2 => T.region ?_
 obtain ⟨g2, H⟩ := gdE H
 refine RS.solid (Sd.make (α := UInt8) (B := nilH) (0 : UInt8) sl34 zr5 rfl (by decide) rfl rfl (by omega) (by omega) (by omega)) rfl rfl fun b1 => rp (Pu.build (cells := [_, _, _]) st36 rfl rfl) ?_
 obtain ⟨x3, hx3, H⟩ := bindE H
 refine RS.solid (Sd.callN (vs := [.agg #[.int .i64 2, .int .i64 1, rowV (some b1, (2 : Int).toNat) ((2 : Int).toNat)], .slice none 0 0, .int .i64 0, .int .i64 0, .int .i64 0, .int .i64 1]) ent25 rfl (fun w s => route_Find_walk (⟨2, 1, (List.replicate (2 : Int).toNat (0 : UInt8))⟩ : Grd) [] 0 0 0 1 w ((Rd.ofRowN 0 rfl) w s) ((Rd.nil (α := Bld)) w s) hx3)) rfl rfl fun ⟨q4, q5⟩ => ?_
 refine rM rfl (rp (Pu.extract rfl rfl) (rp (Pu.extract rfl rfl) (RS.solid (Sd.alloc zr52 rfl) rfl rfl fun b6 => RS.solid (Sd.stB (cs' := [_, _, _]) 3 ty52 rfl rfl rfl rfl rfl rfl rfl rfl) rfl rfl fun _ => rA rfl (RS.nil (hK2 _ _ (cq [(1, _), (2, _)] ?_))))))
 refine T.seq fun K3 hK3 => T.region (rM rfl ?_)
 obtain ⟨x7, hx7, H⟩ := bindE H
 refine rq (Qt.call (vs := [.int .i64 x3.2]) ent26 rfl fun w s => thronglaw14_num_walk x3.2 w  hx7) (rp (Pu.bin rfl rfl rfl) (rM rfl ?_))
 refine RS.joinV 4 16 (.bool (decide ((x7 = 0) ∧ (x3.1.cost = 20)))) [(1, _)] ⟨rfl, trivial⟩ ?_ ?_
 ·refine rM rfl ?_
  refine RS.joinV 5 22 (.bool (decide (((x7 = 0) ∧ (x3.1.cost = 20)) ∧ ((x3.1.portals.length : Int) = 0)))) [(1, _)] ⟨rfl, trivial⟩ ?_ ?_
  ·refine rM rfl ?_
   refine RS.joinB H 5 28 (fun b14 => .bool b14) [] trivial ?_ ?_
   ·intro b14 H
    refine rA rfl (RS.nil (hK3 _ _ ?_))
    obtain rfl := sj H
    refine T.rt (Cont.ret1 rfl rfl fun w' s => ?_)
    exact ⟨rfl, s.ext⟩
   ·intro z15 H hJ13
    refine RS.splitP 23 rfl (fun hc12 => ?_) (fun hc12 => ?_)
    ·have H := ifT hc12 H
     refine rp (Pu.fieldAddr fd52_2 rfl) (rq (Qt.ldB 3 ty23 rfl rfl rfl) (RS.solid (Sd.litS (cs := [_]) sl23 zr3 rfl rfl rfl rfl rfl) rfl rfl fun b16 => ?_))
     refine RS.weakS (fun w s => s.litRow (α := Int) (n := 1) 4 [0] rfl (by decide) rfl ⟨[_], _, rfl, rfl, rfl⟩) ?_
     obtain ⟨x17, hx17, H⟩ := bindE H
     refine rq (Qt.call (vs := [rowV q5 x3.1.sectors.length, rowV (some b16, 1) 1]) ent20 rfl fun w s => throngref0_EqNumbers_walk x3.1.sectors [0] w ((Rd.ofRowN 2 rfl) w s) ((Rd.ofRowN 4 rfl) w s) hx17) (rp (Pu.pickT rfl rfl) ?_)
     obtain rfl := sj H
     exact hJ13 _ _ ⟨rfl, trivial⟩ (fun w s => s.pick [0, 1, 2, 3] (by decide) rfl)
    ·have H := ifF hc12 H
     refine ro (ro (ro (ro (rp (Pu.pickF rfl rfl) ?_))))
     obtain rfl := sj H
     exact hJ13 _ _ ⟨rfl, trivial⟩ (fun w s => s)
  ·intro hJ11
   refine RS.splitP 17 rfl (fun hc10 => ?_) (fun hc10 => ?_)
   ·refine rp (Pu.fieldAddr fd52_1 rfl) (rq (Qt.ldB 3 ty23 rfl rfl rfl) (rp (Pu.lenSl sl23 rfl) (rp (Pu.bin rfl rfl rfl) (rp (Pu.pickT rfl rfl) ?_))))
    exact hJ11 _ _ ⟨dAndT hc10, rfl, trivial⟩ (fun w s => s)
   ·refine ro (ro (ro (ro (rp (Pu.pickF rfl rfl) ?_))))
    exact hJ11 _ _ ⟨dAndF hc10, rfl, trivial⟩ (fun w s => s)
 ·intro hJ9
  refine RS.splitP 12 rfl (fun hc8 => ?_) (fun hc8 => ?_)
  ·refine rp (Pu.fieldAddr fd52_0 rfl) (rq (Qt.ldB 3 ty3 rfl rfl rfl) (rp (Pu.bin rfl rfl rfl) (rp (Pu.pickT rfl rfl) ?_)))
   exact hJ9 _ _ ⟨dAndT hc8, rfl, trivial⟩ (fun w s => s)
  ·refine ro (ro (ro (rp (Pu.pickF rfl rfl) ?_)))
   exact hJ9 _ _ ⟨dAndF hc8, rfl, trivial⟩ (fun w s => s)
end Go.Proofs.YthdbofgcckjopaaGreat
