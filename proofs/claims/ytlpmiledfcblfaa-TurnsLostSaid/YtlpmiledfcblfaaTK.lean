/-
  Walk of what the statements of the turns call first.
-/
import Derived.Test.YtlpmiledfcblfaaRows
import Derived.Test.YtlpmiledfcblfaaTM
set_option linter.unusedVariables false
set_option linter.unusedSimpArgs false
set_option maxRecDepth 20000
set_option maxHeartbeats 4000000
namespace Go.Proofs.Ytlpmiledfcblfaa
open Go.Vg
open Enc (R)
theorem ent21 : Ent Try.prog 21 := ⟨_, _, Try.func21, by kernel_rfl, rfl⟩
theorem ent23 : Ent Try.prog 23 := ⟨_, _, Try.func23, by kernel_rfl, rfl⟩
theorem thronglaw27_wakes_walk (w : World) {r : Bool} (H : thronglaw27_wakes = some r) : Calls Try.prog 27 #[] w fun e w' => e = .returned (.bool r) ∧ Ext w w' := by
 unfold thronglaw27_wakes at H
 refine T.enter (args := []) (S := Sat w []) Try.func27 rfl rfl (Sat.start w) ?_
 refine T.seq fun K1 hK1 => ?_
 refine T.region ?_
 refine RS.p (Pu.assign rfl) rfl rfl ?_
 refine RS.nil (hK1 _ _ ?_)
 refine T.seq fun K2 hK2 => ?_
 refine T.region ?_
 refine RS.solid (Sd.litS (cs := [_]) sl25 zr3 rfl rfl rfl rfl rfl) rfl rfl fun b1 => ?_
 refine RS.weakS (fun w s => s.litRow (α := Int) (n := 1) 0 [1] rfl (by decide) rfl ⟨[_], _, rfl, rfl, rfl⟩) ?_
 refine RS.p (Pu.build (cells := [_, _, _, _, _, _, _, _, _, _]) st54 rfl rfl) rfl rfl ?_
 refine RS.solid (Sd.litS (cs := [_, _, _, _, _, _, _, _, _, _]) sl41 zr54 rfl rfl rfl rfl rfl) rfl rfl fun b2 => ?_
 refine RS.weakS (S' := Sat w [dead, drow 54 (rowV (some b2, 1) 1) ([(⟨2, 0, 3, 0, [1], 0, 0, 0, (⟨0, 0⟩ : Vec)⟩ : Cmd)] : List Cmd), dead, dead]) (fun w s => (Sat.litRowG (α := Cmd) (m := 1) 1 0 ([(⟨2, 0, 3, 0, [1], 0, 0, 0, (⟨0, 0⟩ : Vec)⟩ : Cmd)] : List Cmd) (Sat.starAt 0 2 (Sat.starAt 0 3 (Sat.relen (q := (some b1, 1)) (m := 1) 0 ((s.noStars).noStars) rfl) rfl rfl (by decide)) rfl rfl (by decide)) rfl rfl (by decide) (by decide) rfl (DRF.cons' (α := Cmd) (x := (⟨2, 0, 3, 0, [1], 0, 0, 0, (⟨0, 0⟩ : Vec)⟩ : Cmd)) (fun _ h => ⟨_, rfl, h⟩) DRF.nil'))) ?_
 refine RS.p (Pu.build (cells := [_, _, _]) st50 rfl rfl) rfl rfl ?_
 refine RS.solid (Sd.litS (cs := [_]) sl25 zr3 rfl rfl rfl rfl rfl) rfl rfl fun b3 => ?_
 refine RS.weakS (fun w s => s.litRow (α := Int) (n := 1) 4 [1] rfl (by decide) rfl ⟨[_], _, rfl, rfl, rfl⟩) ?_
 refine RS.p (Pu.build (cells := [_, _, _, _, _, _, _, _, _, _]) st54 rfl rfl) rfl rfl ?_
 refine RS.solid (Sd.litS (cs := [_, _, _, _, _, _, _, _, _, _]) sl41 zr54 rfl rfl rfl rfl rfl) rfl rfl fun b4 => ?_
 refine RS.weakS (S' := Sat w [dead, drow 54 (rowV (some b2, 1) 1) ([(⟨2, 0, 3, 0, [1], 0, 0, 0, (⟨0, 0⟩ : Vec)⟩ : Cmd)] : List Cmd), dead, dead, dead, drow 54 (rowV (some b4, 1) 1) ([(⟨1, 0, 3, 0, [1], 0, 0, 0, (⟨0, 0⟩ : Vec)⟩ : Cmd)] : List Cmd), dead, dead]) (fun w s => (Sat.litRowG (α := Cmd) (m := 1) 5 4 ([(⟨1, 0, 3, 0, [1], 0, 0, 0, (⟨0, 0⟩ : Vec)⟩ : Cmd)] : List Cmd) (Sat.starAt 4 6 (Sat.starAt 4 7 (Sat.relen (q := (some b3, 1)) (m := 1) 4 ((s.noStars).noStars) rfl) rfl rfl (by decide)) rfl rfl (by decide)) rfl rfl (by decide) (by decide) rfl (DRF.cons' (α := Cmd) (x := (⟨1, 0, 3, 0, [1], 0, 0, 0, (⟨0, 0⟩ : Vec)⟩ : Cmd)) (fun _ h => ⟨_, rfl, h⟩) DRF.nil'))) ?_
 refine RS.p (Pu.build (cells := [_, _, _]) st50 rfl rfl) rfl rfl ?_
 refine RS.solid (Sd.litS (cs := [_, _, _, _, _, _]) sl24 zr50 rfl rfl rfl rfl rfl) rfl rfl fun b5 => ?_
 refine RS.weakS (S' := Sat w [dead, dead, dead, dead, dead, dead, dead, dead, drow 50 (rowV (some b5, 2) 2) ([(⟨3, 2, ([(⟨2, 0, 3, 0, [1], 0, 0, 0, (⟨0, 0⟩ : Vec)⟩ : Cmd)] : List Cmd)⟩ : Inp), (⟨3, 1, ([(⟨1, 0, 3, 0, [1], 0, 0, 0, (⟨0, 0⟩ : Vec)⟩ : Cmd)] : List Cmd)⟩ : Inp)] : List Inp), dead, dead, dead]) (fun w s => (Sat.litRowG (α := Inp) (m := 2) 8 1 ([(⟨3, 2, ([(⟨2, 0, 3, 0, [1], 0, 0, 0, (⟨0, 0⟩ : Vec)⟩ : Cmd)] : List Cmd)⟩ : Inp), (⟨3, 1, ([(⟨1, 0, 3, 0, [1], 0, 0, 0, (⟨0, 0⟩ : Vec)⟩ : Cmd)] : List Cmd)⟩ : Inp)] : List Inp) (Sat.starAt 1 5 (Sat.starAt 1 11 (Sat.relenG (q := (some b2, 1)) (m := 1) 1 ((Sat.starAt 5 9 (Sat.starAt 5 10 (Sat.relenG (q := (some b4, 1)) (m := 1) 5 ((s.noStars).noStars) rfl) rfl rfl (by decide)) rfl rfl (by decide)).noStars) rfl) rfl rfl (by decide)) rfl rfl (by decide)) rfl rfl (by decide) (by decide) rfl (DRF.cons' (α := Inp) (x := (⟨3, 2, ([(⟨2, 0, 3, 0, [1], 0, 0, 0, (⟨0, 0⟩ : Vec)⟩ : Cmd)] : List Cmd)⟩ : Inp)) (fun _ h => ⟨_, rfl, h⟩) (DRF.cons' (α := Inp) (x := (⟨3, 1, ([(⟨1, 0, 3, 0, [1], 0, 0, 0, (⟨0, 0⟩ : Vec)⟩ : Cmd)] : List Cmd)⟩ : Inp)) (fun _ h => ⟨_, rfl, h⟩) DRF.nil')))) ?_
 obtain ⟨x6, hx6, H⟩ := bindE H
 refine RS.solid (Sd.callN (vs := [rowV (some b5, 2) 2]) ent21 rfl (fun w s => turns_Merge_walk ([(⟨3, 2, ([(⟨2, 0, 3, 0, [1], 0, 0, 0, (⟨0, 0⟩ : Vec)⟩ : Cmd)] : List Cmd)⟩ : Inp), (⟨3, 1, ([(⟨1, 0, 3, 0, [1], 0, 0, 0, (⟨0, 0⟩ : Vec)⟩ : Cmd)] : List Cmd)⟩ : Inp)] : List Inp) w ((Rd.ofG 8 rfl) w s) hx6)) rfl rfl fun q7 => ?_
 refine RS.p (Pu.move rfl) rfl rfl ?_
 refine RS.p (Pu.extract rfl rfl) rfl rfl ?_
 refine RS.p (Pu.extract rfl rfl) rfl rfl ?_
 refine RS.p (Pu.assign rfl) rfl rfl ?_
 refine RS.p (Pu.assign rfl) rfl rfl ?_
 refine RS.nil (hK2 _ _ (T.conseq (fr' := [(1, _), (2, _)]) ?_ ⟨rfl, rfl, trivial⟩ (fun _ s => s)))
 refine T.seq fun K3 hK3 => ?_
 refine T.region ?_
 refine RS.p (Pu.move rfl) rfl rfl ?_
 obtain ⟨x8, hx8, H⟩ := bindE H
 refine RS.q (Qt.call (vs := [.int .i64 x6.2]) ent23 rfl fun w s => thronglaw27_num_walk x6.2 w  hx8) rfl rfl ?_
 refine RS.p (Pu.bin rfl rfl rfl) rfl rfl ?_
 refine RS.p (Pu.move rfl) rfl rfl ?_
 refine RS.joinV 4 23 (.bool (decide ((x8 = 0) ∧ ((x6.1.length : Int) = 2)))) [(1, _)] ⟨rfl, trivial⟩ ?_ ?_
 ·refine RS.p (Pu.move rfl) rfl rfl ?_
  obtain ⟨g13, H⟩ := gdE H
  refine RS.joinV 6 30 (.bool (decide (((x8 = 0) ∧ ((x6.1.length : Int) = 2)) ∧ ((gi x6.1 (0 : Int)).player = 1)))) [] trivial ?_ ?_
  ·refine RS.p (Pu.assign rfl) rfl rfl ?_
   refine RS.nil (hK3 _ _ ?_)
   obtain rfl := Option.some.inj H
   refine T.retTo (by with_reducible ((repeat (first | apply RetTo.seq | apply RetTo.blk)); exact RetTo.refl _)) (Cont.ret1 rfl rfl fun w' s => ?_)
   exact ⟨rfl, s.ext⟩
  ·intro hJ12
   refine RS.splitP 24 rfl (fun hc11 => ?_) (fun hc11 => ?_)
   ·refine RS.p (Pu.move rfl) rfl rfl ?_
    refine RS.know (p := ∃ g cap, q7 = (some g, cap)) (fun w s => (s.row_someG (k := 12) rfl (pos_of (g13 hc11)))) ?_
    rintro ⟨gg14, cc15, rfl⟩
    refine RS.p (Pu.indexSl sl41 rfl rfl (g13 hc11)) rfl rfl ?_
    refine RS.p (Pu.fieldAddr fd54_0 rfl) rfl rfl ?_
    refine RS.q (Qt.ldF (α := Cmd) (Rd.ofG 12 rfl) ty3 rfl rfl (g13 hc11) (by rintro _ _ ⟨_, rfl, _⟩; rfl)) rfl rfl ?_
    refine RS.p (Pu.bin rfl rfl rfl) rfl rfl ?_
    refine RS.p (Pu.pickT rfl rfl) rfl rfl ?_
    exact hJ12 _ _ ⟨dAndT hc11, trivial⟩ (fun w s => s)
   ·refine RS.no rfl rfl ?_
    refine RS.no rfl rfl ?_
    refine RS.no rfl rfl ?_
    refine RS.no rfl rfl ?_
    refine RS.no rfl rfl ?_
    refine RS.p (Pu.pickF rfl rfl) rfl rfl ?_
    exact hJ12 _ _ ⟨dAndF hc11, trivial⟩ (fun w s => s)
 ·intro hJ10
  refine RS.splitP 19 rfl (fun hc9 => ?_) (fun hc9 => ?_)
  ·refine RS.p (Pu.move rfl) rfl rfl ?_
   refine RS.p (Pu.lenSl sl41 rfl) rfl rfl ?_
   refine RS.p (Pu.bin rfl rfl rfl) rfl rfl ?_
   refine RS.p (Pu.pickT rfl rfl) rfl rfl ?_
   exact hJ10 _ _ ⟨dAndT hc9, rfl, trivial⟩ (fun w s => s)
  ·refine RS.no rfl rfl ?_
   refine RS.no rfl rfl ?_
   refine RS.no rfl rfl ?_
   refine RS.p (Pu.pickF rfl rfl) rfl rfl ?_
   exact hJ10 _ _ ⟨dAndF hc9, rfl, trivial⟩ (fun w s => s)
end Go.Proofs.Ytlpmiledfcblfaa
