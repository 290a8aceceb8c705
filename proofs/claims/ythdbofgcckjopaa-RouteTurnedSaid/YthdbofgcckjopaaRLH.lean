/-
  Walks of what the statements of the routes call.
-/
import Derived.Test.YthdbofgcckjopaaRows
import Derived.Test.YthdbofgcckjopaaW3
import Derived.Test.YthdbofgcckjopaaRLG
set_option linter.unusedVariables false
set_option linter.unusedSimpArgs false
set_option maxRecDepth 20000
set_option maxHeartbeats 4000000
namespace Go.Proofs.Ythdbofgcckjopaa
open Go.Vg
open Enc (R)
theorem ent20 : Ent Try.prog 20 := ⟨_, _, Try.func20, by kernel_rfl, rfl⟩
theorem ent7 : Ent Try.prog 7 := ⟨_, _, Try.func7, by kernel_rfl, rfl⟩
theorem ent8 : Ent Try.prog 8 := ⟨_, _, Try.func8, by kernel_rfl, rfl⟩
theorem fd33_0 : fdOff Try.prog 33 0 = some 0 := by kernel_rfl
theorem fd33_1 : fdOff Try.prog 33 1 = some 1 := by kernel_rfl
theorem fd33_2 : fdOff Try.prog 33 2 = some 2 := by kernel_rfl
theorem st24 : stTy Try.prog 24 = some ([.int .i64 0, .int .i64 0, .slice none 0 0], [(0, 1), (1, 1), (2, 1)]) := by kernel_rfl
theorem zr5 : zeroOf Try.prog 5 = some (.int .u8 0) := by kernel_rfl
theorem thronglaw14_num_walk (a0_e : Int) (w : World) {r : Int} (H : thronglaw14_num a0_e = some r) : Calls Try.prog 8 #[.int .i64 a0_e] w fun e w' => e = .returned (.int .i64 r) ∧ Ext w w' := by
 unfold thronglaw14_num at H
 refine T.enter (args := [_]) (S := Sat w []) Try.func8 rfl rfl (Sat.start w) ?_
 refine T.seq fun K1 hK1 => T.region (rA rfl (RS.nil (hK1 _ _ ?_)))
 refine T.seq fun K2 hK2 => T.region (rM rfl (rA rfl (RS.nil (hK2 _ _ ?_))))
 obtain rfl := sj H
 refine T.rt (Cont.ret1 rfl rfl fun w' s => ?_)
 exact ⟨rfl, s.ext⟩
theorem thronglaw14_wakes_walk (w : World) {r : Bool} (H : thronglaw14_wakes = some r) : Calls Try.prog 9 #[] w fun e w' => e = .returned (.bool r) ∧ Ext w w' := by
 unfold thronglaw14_wakes at H
 refine T.enter (args := []) (S := Sat w []) Try.func9 rfl rfl (Sat.start w) ?_
 refine T.seq fun K1 hK1 => T.region (rA rfl (RS.nil (hK1 _ _ ?_)))
 refine T.seq fun K2 hK2 => T.region ?_
 obtain ⟨g2, H⟩ := gdE H
 refine RS.solid (Sd.make (α := UInt8) (B := nilH) (0 : UInt8) sl22 zr5 rfl (by decide) rfl rfl (by omega) (by omega) (by omega)) rfl rfl fun b1 => rp (Pu.build (cells := [_, _, _]) st24 rfl rfl) ?_
 obtain ⟨x3, hx3, H⟩ := bindE H
 refine RS.solid (Sd.callN (vs := [.agg #[.int .i64 2, .int .i64 1, rowV (some b1, (2 : Int).toNat) ((2 : Int).toNat)], .slice none 0 0, .int .i64 0, .int .i64 0, .int .i64 0, .int .i64 1]) ent7 rfl (fun w s => route_Find_walk (⟨2, 1, (List.replicate (2 : Int).toNat (0 : UInt8))⟩ : Grd) [] 0 0 0 1 w ((Rd.ofRowN 0 rfl) w s) ((Rd.nil (α := Bld)) w s) hx3)) rfl rfl fun ⟨q4, q5⟩ => ?_
 refine rM rfl (rp (Pu.extract rfl rfl) (rp (Pu.extract rfl rfl) (RS.solid (Sd.alloc zr33 rfl) rfl rfl fun b6 => RS.solid (Sd.stB (cs' := [_, _, _]) 3 ty33 rfl rfl rfl rfl rfl rfl rfl rfl) rfl rfl fun _ => rA rfl (RS.nil (hK2 _ _ (cq [(1, _), (2, _)] ?_))))))
 refine T.seq fun K3 hK3 => T.region (rM rfl ?_)
 obtain ⟨x7, hx7, H⟩ := bindE H
 refine rq (Qt.call (vs := [.int .i64 x3.2]) ent8 rfl fun w s => thronglaw14_num_walk x3.2 w  hx7) (rp (Pu.bin rfl rfl rfl) (rM rfl ?_))
 refine RS.joinV 4 16 (.bool (decide ((x7 = 0) ∧ (x3.1.cost = 20)))) [(1, _)] ⟨rfl, trivial⟩ ?_ ?_
 ·refine rM rfl ?_
  refine RS.joinV 5 22 (.bool (decide (((x7 = 0) ∧ (x3.1.cost = 20)) ∧ ((x3.1.portals.length : Int) = 0)))) [(1, _)] ⟨rfl, trivial⟩ ?_ ?_
  ·refine rM rfl ?_
   refine RS.joinB H 5 28 (fun b14 => .bool b14) [] trivial ?_ ?_
   ·intro b14 H
    refine rA rfl (RS.nil (hK3 _ _ ?_))
    obtain rfl := sj H
    refine T.rt (Cont.ret1 rfl rfl fun w' s => ?_)
    exact ⟨rfl, s.ext⟩
   ·intro z15 H hJ13
    refine RS.splitP 23 rfl (fun hc12 => ?_) (fun hc12 => ?_)
    ·have H := ifT hc12 H
     refine rp (Pu.fieldAddr fd33_2 rfl) (rq (Qt.ldB 3 ty26 rfl rfl rfl) (RS.solid (Sd.litS (cs := [_]) sl26 zr3 rfl rfl rfl rfl rfl) rfl rfl fun b16 => ?_))
     refine RS.weakS (fun w s => s.litRow (α := Int) (n := 1) 4 [0] rfl (by decide) rfl ⟨[_], _, rfl, rfl, rfl⟩) ?_
     obtain ⟨x17, hx17, H⟩ := bindE H
     refine rq (Qt.call (vs := [rowV q5 x3.1.sectors.length, rowV (some b16, 1) 1]) ent20 rfl fun w s => throngref0_EqNumbers_walk x3.1.sectors [0] w ((Rd.ofRowN 2 rfl) w s) ((Rd.ofRowN 4 rfl) w s) hx17) (rp (Pu.pickT rfl rfl) ?_)
     obtain rfl := sj H
     exact hJ13 _ _ ⟨rfl, trivial⟩ (fun w s => s.pick [0, 1, 2, 3] (by decide) rfl)
    ·have H := ifF hc12 H
     refine ro (ro (ro (ro (rp (Pu.pickF rfl rfl) ?_))))
     obtain rfl := sj H
     exact hJ13 _ _ ⟨rfl, trivial⟩ (fun w s => s)
  ·intro hJ11
   refine RS.splitP 17 rfl (fun hc10 => ?_) (fun hc10 => ?_)
   ·refine rp (Pu.fieldAddr fd33_1 rfl) (rq (Qt.ldB 3 ty26 rfl rfl rfl) (rp (Pu.lenSl sl26 rfl) (rp (Pu.bin rfl rfl rfl) (rp (Pu.pickT rfl rfl) ?_))))
    exact hJ11 _ _ ⟨dAndT hc10, rfl, trivial⟩ (fun w s => s)
   ·refine ro (ro (ro (ro (rp (Pu.pickF rfl rfl) ?_))))
    exact hJ11 _ _ ⟨dAndF hc10, rfl, trivial⟩ (fun w s => s)
 ·intro hJ9
  refine RS.splitP 12 rfl (fun hc8 => ?_) (fun hc8 => ?_)
  ·refine rp (Pu.fieldAddr fd33_0 rfl) (rq (Qt.ldB 3 ty3 rfl rfl rfl) (rp (Pu.bin rfl rfl rfl) (rp (Pu.pickT rfl rfl) ?_)))
   exact hJ9 _ _ ⟨dAndT hc8, rfl, trivial⟩ (fun w s => s)
  ·refine ro (ro (ro (rp (Pu.pickF rfl rfl) ?_)))
   exact hJ9 _ _ ⟨dAndF hc8, rfl, trivial⟩ (fun w s => s)
end Go.Proofs.Ythdbofgcckjopaa
