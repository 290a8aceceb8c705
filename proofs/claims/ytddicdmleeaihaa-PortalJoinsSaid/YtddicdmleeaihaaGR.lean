/-
  Walks of package ground: which places there are, the ways, the tiles beside one.
-/
import Derived.Test.YtddicdmleeaihaaRows
import Derived.Test.YtddicdmleeaihaaVK
import Derived.Test.YtddicdmleeaihaaVI
set_option linter.unusedVariables false
set_option linter.unusedSimpArgs false
set_option maxRecDepth 20000
set_option maxHeartbeats 4000000
namespace Go.Proofs.Ytddicdmleeaihaa
open Go.Vg
open Enc (R)
theorem ar67 : arTy Try.prog 67 = some (8, 3, 1) := by kernel_rfl
theorem ar77 : arTy Try.prog 77 = some (2, 3, 1) := by kernel_rfl
theorem ar78 : arTy Try.prog 78 = some (8, 77, 2) := by kernel_rfl
theorem at77 : atTy Try.prog 77 = some ([.int .i64 0, .int .i64 0], 1) := by kernel_rfl
theorem at78 : atTy Try.prog 78 = some ([.int .i64 0, .int .i64 0, .int .i64 0, .int .i64 0, .int .i64 0, .int .i64 0, .int .i64 0, .int .i64 0, .int .i64 0, .int .i64 0, .int .i64 0, .int .i64 0, .int .i64 0, .int .i64 0, .int .i64 0, .int .i64 0], 2) := by kernel_rfl
theorem ent45 : Ent Try.prog 45 := ⟨_, _, Try.func45, by kernel_rfl, rfl⟩
theorem ent46 : Ent Try.prog 46 := ⟨_, _, Try.func46, by kernel_rfl, rfl⟩
theorem fd66_0 : fdOff Try.prog 66 0 = some 0 := by kernel_rfl
theorem fd66_1 : fdOff Try.prog 66 1 = some 1 := by kernel_rfl
theorem mixed : Try.prog.follows .mixedOrders = true := by kernel_rfl
theorem ty3 : tySz Try.prog 3 = some (1, false) := by kernel_rfl
theorem ty66 : tySz Try.prog 66 = some (3, true) := by kernel_rfl
theorem ty67 : tySz Try.prog 67 = some (8, true) := by kernel_rfl
theorem ty77 : tySz Try.prog 77 = some (2, true) := by kernel_rfl
theorem ty78 : tySz Try.prog 78 = some (16, true) := by kernel_rfl
theorem zr67 : zeroOf Try.prog 67 = some (.agg #[.int .i64 0, .int .i64 0, .int .i64 0, .int .i64 0, .int .i64 0, .int .i64 0, .int .i64 0, .int .i64 0]) := by kernel_rfl
theorem zr77 : zeroOf Try.prog 77 = some (.agg #[.int .i64 0, .int .i64 0]) := by kernel_rfl
theorem zr78 : zeroOf Try.prog 78 = some (.agg #[.int .i64 0, .int .i64 0, .int .i64 0, .int .i64 0, .int .i64 0, .int .i64 0, .int .i64 0, .int .i64 0, .int .i64 0, .int .i64 0, .int .i64 0, .int .i64 0, .int .i64 0, .int .i64 0, .int .i64 0, .int .i64 0]) := by kernel_rfl
theorem on_calls (W H x y : Int) (tl : Value) (htl : tl.cells.toList = [tl]) (w : World) : Calls Try.prog 46 #[.agg #[.int .i64 W, .int .i64 H, tl], .int .i64 x, .int .i64 y] w fun e w' => e = .returned (.bool (decide ((0 ≤ x ∧ x < W) ∧ (0 ≤ y ∧ y < H)))) ∧ Ext w w' := by
 refine T.enter (args := [.agg #[.int .i64 W, .int .i64 H, tl], .int .i64 x, .int .i64 y]) (S := Sat w []) Try.func46 rfl rfl (Sat.start w) ?_
 refine T.seq fun K1 hK1 => ?_
 refine T.region ?_
 refine RS.solid (Sd.box (cs := [_, _, _]) rfl rfl) rfl rfl fun b3 => ?_
 refine RS.p (Pu.assign rfl) rfl rfl ?_
 refine RS.nil (hK1 _ _ ?_)
 refine T.seq fun K2 hK2 => ?_
 refine T.region ?_
 refine RS.p (Pu.move rfl) rfl rfl ?_
 refine RS.p (Pu.bin rfl rfl rfl) rfl rfl ?_
 refine RS.p (Pu.move rfl) rfl rfl ?_
 refine RS.splitP 9 rfl (fun h9 => ?_) (fun h9 => ?_)
 ·refine RS.p (Pu.move rfl) rfl rfl ?_
  refine RS.p (Pu.fieldAddr fd66_0 rfl) rfl rfl ?_
  refine RS.q (Qt.ldB 0 ty3 rfl rfl rfl) rfl rfl ?_
  refine RS.p (Pu.bin rfl rfl rfl) rfl rfl ?_
  refine RS.p (Pu.pickT rfl rfl) rfl rfl ?_
  refine RS.p (Pu.move rfl) rfl rfl ?_
  refine RS.splitP 15 rfl (fun h15 => ?_) (fun h15 => ?_)
  ·refine RS.p (Pu.move rfl) rfl rfl ?_
   refine RS.p (Pu.bin rfl rfl rfl) rfl rfl ?_
   refine RS.p (Pu.pickT rfl rfl) rfl rfl ?_
   refine RS.p (Pu.move rfl) rfl rfl ?_
   refine RS.splitP 19 rfl (fun h19 => ?_) (fun h19 => ?_)
   ·refine RS.p (Pu.move rfl) rfl rfl ?_
    refine RS.p (Pu.fieldAddr fd66_1 rfl) rfl rfl ?_
    refine RS.q (Qt.ldB 0 ty3 rfl rfl rfl) rfl rfl ?_
    refine RS.p (Pu.bin rfl rfl rfl) rfl rfl ?_
    refine RS.p (Pu.pickT rfl rfl) rfl rfl ?_
    refine RS.p (Pu.assign rfl) rfl rfl ?_
    refine RS.nil (hK2 _ _ (T.conseq (fr' := [(6, _)]) ?_ ⟨rfl, trivial⟩ (fun _ s => s)))
    refine T.retTo (by with_reducible ((repeat (first | apply RetTo.seq | apply RetTo.blk)); exact RetTo.refl _)) (Cont.ret1 rfl rfl fun w' s => ?_)
    exact ⟨by first | exact bT (by omega) | exact bF (by omega) | exact bD (by omega), s.ext⟩
   ·refine RS.no rfl rfl ?_
    refine RS.no rfl rfl ?_
    refine RS.no rfl rfl ?_
    refine RS.no rfl rfl ?_
    refine RS.p (Pu.pickF rfl rfl) rfl rfl ?_
    refine RS.p (Pu.assign rfl) rfl rfl ?_
    refine RS.nil (hK2 _ _ (T.conseq (fr' := [(6, _)]) ?_ ⟨rfl, trivial⟩ (fun _ s => s)))
    refine T.retTo (by with_reducible ((repeat (first | apply RetTo.seq | apply RetTo.blk)); exact RetTo.refl _)) (Cont.ret1 rfl rfl fun w' s => ?_)
    exact ⟨by first | exact bT (by omega) | exact bF (by omega) | exact bD (by omega), s.ext⟩
  ·refine RS.no rfl rfl ?_
   refine RS.no rfl rfl ?_
   refine RS.p (Pu.pickF rfl rfl) rfl rfl ?_
   refine RS.p (Pu.move rfl) rfl rfl ?_
   refine RS.no rfl rfl ?_
   refine RS.no rfl rfl ?_
   refine RS.no rfl rfl ?_
   refine RS.no rfl rfl ?_
   refine RS.p (Pu.pickF rfl rfl) rfl rfl ?_
   refine RS.p (Pu.assign rfl) rfl rfl ?_
   refine RS.nil (hK2 _ _ (T.conseq (fr' := [(6, _)]) ?_ ⟨rfl, trivial⟩ (fun _ s => s)))
   refine T.retTo (by with_reducible ((repeat (first | apply RetTo.seq | apply RetTo.blk)); exact RetTo.refl _)) (Cont.ret1 rfl rfl fun w' s => ?_)
   exact ⟨by first | exact bT (by omega) | exact bF (by omega) | exact bD (by omega), s.ext⟩
 ·refine RS.no rfl rfl ?_
  refine RS.no rfl rfl ?_
  refine RS.no rfl rfl ?_
  refine RS.no rfl rfl ?_
  refine RS.p (Pu.pickF rfl rfl) rfl rfl ?_
  refine RS.p (Pu.move rfl) rfl rfl ?_
  refine RS.no rfl rfl ?_
  refine RS.no rfl rfl ?_
  refine RS.p (Pu.pickF rfl rfl) rfl rfl ?_
  refine RS.p (Pu.move rfl) rfl rfl ?_
  refine RS.no rfl rfl ?_
  refine RS.no rfl rfl ?_
  refine RS.no rfl rfl ?_
  refine RS.no rfl rfl ?_
  refine RS.p (Pu.pickF rfl rfl) rfl rfl ?_
  refine RS.p (Pu.assign rfl) rfl rfl ?_
  refine RS.nil (hK2 _ _ (T.conseq (fr' := [(6, _)]) ?_ ⟨rfl, trivial⟩ (fun _ s => s)))
  refine T.retTo (by with_reducible ((repeat (first | apply RetTo.seq | apply RetTo.blk)); exact RetTo.refl _)) (Cont.ret1 rfl rfl fun w' s => ?_)
  exact ⟨by first | exact bT (by omega) | exact bF (by omega) | exact bD (by omega), s.ext⟩
def waysL : List Value := [.int .i64 (0), .int .i64 (-1), .int .i64 (1), .int .i64 (0), .int .i64 (0), .int .i64 (1), .int .i64 (-1), .int .i64 (0), .int .i64 (1), .int .i64 (-1), .int .i64 (1), .int .i64 (1), .int .i64 (-1), .int .i64 (1), .int .i64 (-1), .int .i64 (-1)]
theorem ways_calls (w : World) : Calls Try.prog 45 #[] w fun e w' => e = .returned (.agg waysL.toArray) ∧ Ext w w' := by
 refine T.enter (args := []) (S := Sat w []) Try.func45 rfl rfl (Sat.start w) ?_
 refine T.seq fun K1 hK1 => ?_
 refine T.region ?_
 refine RS.solid (Sd.alloc zr78 rfl) rfl rfl fun b0 => ?_
 refine RS.nil (hK1 _ _ ?_)
 refine T.seq fun K2 hK2 => ?_
 refine T.region ?_
 refine RS.p (Pu.buildAr (cells := [_, _]) at77 rfl rfl) rfl rfl ?_
 refine RS.p (Pu.buildAr (cells := [_, _]) at77 rfl rfl) rfl rfl ?_
 refine RS.p (Pu.buildAr (cells := [_, _]) at77 rfl rfl) rfl rfl ?_
 refine RS.p (Pu.buildAr (cells := [_, _]) at77 rfl rfl) rfl rfl ?_
 refine RS.p (Pu.buildAr (cells := [_, _]) at77 rfl rfl) rfl rfl ?_
 refine RS.p (Pu.buildAr (cells := [_, _]) at77 rfl rfl) rfl rfl ?_
 refine RS.p (Pu.buildAr (cells := [_, _]) at77 rfl rfl) rfl rfl ?_
 refine RS.p (Pu.buildAr (cells := [_, _]) at77 rfl rfl) rfl rfl ?_
 refine RS.p (Pu.buildAr (cells := [_, _, _, _, _, _, _, _, _, _, _, _, _, _, _, _]) at78 rfl rfl) rfl rfl ?_
 refine RS.solid (Sd.stB (cs' := [_, _, _, _, _, _, _, _, _, _, _, _, _, _, _, _]) 0 ty78 rfl rfl rfl rfl rfl rfl rfl rfl) rfl rfl fun _ => ?_
 refine RS.nil (hK2 _ _ (T.conseq (fr' := [(0, _)]) ?_ ⟨rfl, trivial⟩ (fun _ s => s)))
 refine T.retTo (by with_reducible ((repeat (first | apply RetTo.seq | apply RetTo.blk)); exact RetTo.refl _)) (Cont.retC 0 rfl ty78 rfl rfl rfl fun w' s => ?_)
 exact ⟨rfl, s.ext⟩
def wx (i : Int) : Int := gi [0, 1, 0, -1, 1, 1, -1, -1] i
def wy (i : Int) : Int := gi [-1, 0, 1, 0, -1, 1, 1, -1] i
def nb (W H t i : Int) : Int := if (0 ≤ t % W + wx i ∧ t % W + wx i < W) ∧ (0 ≤ t / W + wy i ∧ t / W + wy i < H) then t % W + wx i + W * (t / W + wy i) else -1
def besideL (W H t : Int) : List Int := [nb W H t 0, nb W H t 1, nb W H t 2, nb W H t 3, nb W H t 4, nb W H t 5, nb W H t 6, nb W H t 7]
theorem eight {p : Int → Prop} (h : p 0 ∧ p 1 ∧ p 2 ∧ p 3 ∧ p 4 ∧ p 5 ∧ p 6 ∧ p 7) {i : Int} (hi : 0 ≤ i ∧ i < 8) : p i := by
 rcases (show i = 0 ∨ i = 1 ∨ i = 2 ∨ i = 3 ∨ i = 4 ∨ i = 5 ∨ i = 6 ∨ i = 7 by omega) with rfl | rfl | rfl | rfl | rfl | rfl | rfl | rfl
 ·exact h.1
 ·exact h.2.1
 ·exact h.2.2.1
 ·exact h.2.2.2.1
 ·exact h.2.2.2.2.1
 ·exact h.2.2.2.2.2.1
 ·exact h.2.2.2.2.2.2.1
 ·exact h.2.2.2.2.2.2.2
theorem ways_at {i : Int} (h : 0 ≤ i ∧ i < 8) : waysL.toArray.extract (i.toNat * 2) (i.toNat * 2 + 2) = #[.int .i64 (wx i), .int .i64 (wy i)] :=
 eight (p := fun i => waysL.toArray.extract (i.toNat * 2) (i.toNat * 2 + 2) = #[.int .i64 (wx i), .int .i64 (wy i)]) ⟨rfl, rfl, rfl, rfl, rfl, rfl, rfl, rfl⟩ h
theorem ways_bd {i : Int} (h : 0 ≤ i ∧ i < 8) : (-1 ≤ wx i ∧ wx i ≤ 1) ∧ (-1 ≤ wy i ∧ wy i ≤ 1) :=
 eight (p := fun i => (-1 ≤ wx i ∧ wx i ≤ 1) ∧ (-1 ≤ wy i ∧ wy i ≤ 1)) (by decide) h
theorem beside_at {W H t i : Int} (h : 0 ≤ i ∧ i < 8) : gi (besideL W H t) i = nb W H t i :=
 eight (p := fun i => gi (besideL W H t) i = nb W H t i) ⟨rfl, rfl, rfl, rfl, rfl, rfl, rfl, rfl⟩ h
theorem divmodW {w t : Int} (hw : 1 ≤ w) (ht : 0 ≤ t) : 0 ≤ t % w ∧ t % w < w ∧ 0 ≤ t / w ∧ t / w ≤ t ∧ w * (t / w) + t % w = t :=
 ⟨Int.emod_nonneg _ (by omega), Int.emod_lt_of_pos _ (by omega), Int.ediv_nonneg ht (by omega), Int.ediv_le_self _ ht, Int.mul_ediv_add_emod t w⟩
theorem beside_calls (W H t : Int) (tl : Value) (htl : tl.cells.toList = [tl]) (hW : 1 ≤ W ∧ W ≤ 128) (hH : 1 ≤ H ∧ H ≤ 128) (ht : 0 ≤ t ∧ t < 4294967296) (w : World) : Calls Try.prog 39 #[.agg #[.int .i64 W, .int .i64 H, tl], .int .i64 t] w fun e w' => e = .returned (.agg (nums (besideL W H t)).toArray) ∧ Ext w w' := by
 refine T.enter (args := [.agg #[.int .i64 W, .int .i64 H, tl], .int .i64 t]) (S := Sat w []) Try.func39 rfl rfl (Sat.start w) ?_
 have hd := divmodW hW.1 ht.1
 refine T.seq fun K1 hK1 => ?_
 refine T.region ?_
 refine RS.solid (Sd.box (cs := [_, _, _]) rfl rfl) rfl rfl fun b2 => ?_
 refine RS.solid (Sd.alloc zr67 rfl) rfl rfl fun b4 => ?_
 refine RS.nil (hK1 _ _ ?_)
 refine T.seq fun K2 hK2 => ?_
 refine T.drawn (fun _ => True) [(0, .pu), (1, .pu), (2, .rd), (3, .pu), (4, .pu), (5, .pu), (6, .rd), (7, .pu), (8, .pu), (9, .pu)] mixed (ClE.sat _ _) (by kernel_rfl) ?_
 refine RD.p (fun _ _ => trivial) rfl (Pu.move rfl) rfl rfl ?_
 refine RD.p (fun _ _ => trivial) rfl (Pu.fieldAddr fd66_0 rfl) rfl rfl ?_
 refine RD.q (fun _ _ => trivial) rfl (Qt.ldB 0 ty3 rfl rfl rfl) rfl rfl ?_
 refine RD.p (fun _ _ => trivial) rfl (Pu.remN rfl rfl (by omega)) rfl rfl ?_
 refine RD.p (fun _ _ => trivial) rfl (Pu.move rfl) rfl rfl ?_
 refine RD.p (fun _ _ => trivial) rfl (Pu.fieldAddr fd66_0 rfl) rfl rfl ?_
 refine RD.q (fun _ _ => trivial) rfl (Qt.ldB 0 ty3 rfl rfl rfl) rfl rfl ?_
 refine RD.p (fun _ _ => trivial) rfl (Pu.quoN rfl rfl (by omega)) rfl rfl ?_
 refine RD.p (fun _ _ => trivial) rfl (Pu.assign rfl) rfl rfl ?_
 refine RD.p (fun _ _ => trivial) rfl (Pu.assign rfl) rfl rfl ?_
 refine RD.nil (hK2 _ _ (T.conseq (fr' := [(2, _), (4, _), (5, _), (6, _)]) ?_ ⟨rfl, rfl, rfl, rfl, trivial⟩ (fun _ s => s)))
 refine T.seq fun K3 hK3 => ?_
 refine T.seq fun K4 hK4 => ?_
 refine T.region ?_
 refine RS.q (Qt.call ent45 rfl fun w _s => ways_calls _) rfl rfl ?_
 refine RS.p (Pu.move rfl) rfl rfl ?_
 refine RS.nil (hK4 _ _ ?_)
 refine T.block ?_
 refine T.loopK (σ := Int × List Int) [(2, _), (4, _), (5, _), (6, _), (17, _)] (fun ⟨i, L⟩ => [(18, .int .i64 i)]) (fun ⟨i, L⟩ => Sat w [blk b2 [.int .i64 W, .int .i64 H, tl] 66, blk b4 (nums L) 67]) (fun ⟨i, L⟩ => 0 ≤ i ∧ i ≤ 8 ∧ L.length = 8 ∧ ∀ j : Int, 0 ≤ j → j < i → gi L j = nb W H t j) (fun ⟨i, L⟩ => (8 - i).toNat) (0, List.replicate 8 0) (⟨by omega, by omega, rfl, fun j h0 h1 => by omega⟩) ⟨rfl, rfl, rfl, rfl, rfl, trivial⟩ ⟨rfl, rfl, rfl, rfl, rfl, rfl, trivial⟩ (fun _ s => s) ?_
 intro ⟨i, L⟩ hI K4_ hL1
 refine T.conseq (fr' := [(18, _), (2, _), (4, _), (5, _), (6, _), (17, _)]) ?_ ⟨rfl, rfl, rfl, rfl, rfl, rfl, trivial⟩ (fun _ s => s)
 obtain ⟨hi0, hi1, hL, hq⟩ := hI
 try dsimp only at hi0 hi1 hL hq ⊢
 refine T.seq fun K5 hK5 => ?_
 refine T.region ?_
 refine RS.p (Pu.bin rfl rfl rfl) rfl rfl ?_
 refine RS.nil (hK5 _ _ ?_)
 refine T.seq fun K6 hK6 => ?_
 refine T.condP rfl (fun hc19 => ?_) (fun hc19 => ?_)
 ·refine T.skip (hK6 _ _ ?_)
  refine T.seq fun K7 hK7 => ?_
  refine T.block ?_
  refine T.seq fun K8 hK8 => ?_
  have hwb := ways_bd (i := i) (by omega)
  refine T.region ?_
  refine RS.p (Pu.move rfl) rfl rfl ?_
  refine RS.p (Pu.indexV (us := #[.int .i64 (wx i), .int .i64 (wy i)]) ar78 ty77 rfl rfl (by omega) (ways_at (by omega))) rfl rfl ?_
  refine RS.solid (Sd.alloc zr77 rfl) rfl rfl fun b8 => ?_
  refine RS.p (Pu.assign rfl) rfl rfl ?_
  refine RS.solid (Sd.stB (cs' := [_, _]) 2 ty77 rfl rfl rfl rfl rfl rfl rfl rfl) rfl rfl fun _ => ?_
  refine RS.nil (hK8 _ _ ?_)
  refine T.seq fun K9 hK9 => ?_
  refine T.region ?_
  refine RS.p (Pu.move rfl) rfl rfl ?_
  refine RS.p (Pu.indexAr ar67 rfl rfl (by omega)) rfl rfl ?_
  refine RS.solid (Sd.stAr 1 ty3 rfl rfl rfl rfl (by first | omega | (simp only [len_si, List.length_append, List.length_replicate, List.length_cons, List.length_nil, List.length_map, List.length_take] at *; omega))) rfl rfl fun _ => ?_
  refine RS.nil (hK9 _ _ (T.conseq (fr' := [(2, _), (4, _), (5, _), (6, _), (7, _), (8, _), (17, _), (18, _)]) ?_ ⟨rfl, rfl, rfl, rfl, rfl, rfl, rfl, rfl, trivial⟩ (fun _ s => s)))
  refine T.seq fun K10 hK10 => ?_
  refine T.region ?_
  refine RS.q (Qt.ldBA (us := [_, _, _]) 0 ty66 rfl rfl rfl rfl) rfl rfl ?_
  refine RS.p (Pu.move rfl) rfl rfl ?_
  refine RS.p (Pu.indexAr ar77 rfl rfl (by omega)) rfl rfl ?_
  refine RS.q (Qt.ldB 2 ty3 rfl rfl rfl) rfl rfl ?_
  refine RS.p (Pu.addS rfl rfl (by omega)) rfl rfl ?_
  refine RS.p (Pu.move rfl) rfl rfl ?_
  refine RS.p (Pu.indexAr ar77 rfl rfl (by omega)) rfl rfl ?_
  refine RS.q (Qt.ldB 2 ty3 rfl rfl rfl) rfl rfl ?_
  refine RS.p (Pu.addS rfl rfl (by omega)) rfl rfl ?_
  refine RS.q (Qt.call ent46 rfl fun w _s => on_calls _ _ _ _ _ (by assumption) _) rfl rfl ?_
  refine RS.nil (hK10 _ _ ?_)
  refine T.condP rfl (fun hc33 => ?_) (fun hc33 => ?_)
  ·have hm := mul_bd (a := W) (b := t / W + wy i) (A := 128) (B := 128) (by omega) (by omega)
   refine T.conseq (fr' := [(2, _), (4, _), (5, _), (6, _), (7, _), (8, _), (17, _), (18, _)]) ?_ ⟨rfl, rfl, rfl, rfl, rfl, rfl, rfl, rfl, trivial⟩ (fun _ s => s)
   refine T.region ?_
   refine RS.p (Pu.move rfl) rfl rfl ?_
   refine RS.p (Pu.move rfl) rfl rfl ?_
   refine RS.p (Pu.indexAr ar77 rfl rfl (by omega)) rfl rfl ?_
   refine RS.q (Qt.ldB 2 ty3 rfl rfl rfl) rfl rfl ?_
   refine RS.p (Pu.addS rfl rfl (by omega)) rfl rfl ?_
   refine RS.p (Pu.fieldAddr fd66_0 rfl) rfl rfl ?_
   refine RS.q (Qt.ldB 0 ty3 rfl rfl rfl) rfl rfl ?_
   refine RS.p (Pu.move rfl) rfl rfl ?_
   refine RS.p (Pu.indexAr ar77 rfl rfl (by omega)) rfl rfl ?_
   refine RS.q (Qt.ldB 2 ty3 rfl rfl rfl) rfl rfl ?_
   refine RS.p (Pu.addS rfl rfl (by omega)) rfl rfl ?_
   refine RS.p (Pu.mulS rfl rfl (by omega)) rfl rfl ?_
   refine RS.p (Pu.addS rfl rfl (by omega)) rfl rfl ?_
   refine RS.p (Pu.indexAr ar67 rfl rfl (by omega)) rfl rfl ?_
   refine RS.solid (Sd.stAr 1 ty3 rfl rfl rfl rfl (by first | omega | (simp only [len_si, List.length_append, List.length_replicate, List.length_cons, List.length_nil, List.length_map, List.length_take] at *; omega))) rfl rfl fun _ => ?_
   refine RS.nil (hK7 _ _ (T.conseq (fr' := [(2, _), (4, _), (5, _), (6, _), (17, _), (18, _)]) ?_ ⟨rfl, rfl, rfl, rfl, rfl, rfl, trivial⟩ (fun _ s => s)))
   refine T.region ?_
   refine RS.p (Pu.addS rfl rfl (by omega)) rfl rfl ?_
   refine RS.p (Pu.move rfl) rfl rfl ?_
   refine RS.nil (hL1 _ _ (i + 1, si (si L i (-1)) i (t % W + wx i + W * (t / W + wy i))) ⟨by omega, by omega, by simp only [len_si]; omega, fun j h0 h1 => by
    by_cases hj : j = i
    ·subst hj; rw [gi_si_self (by rw [len_si]; omega)]; unfold nb; rw [if_pos hc33]
    ·have hq' := hq j h0 (by omega)
     rw [gi_si_ne (by omega) (by omega) (fun e => hj e.symm)]; try rw [gi_si_ne (by omega) (by omega) (fun e => hj e.symm)]
     exact hq'⟩ (by show ((8 : Int) - (i + 1)).toNat < (8 - i).toNat; omega) ⟨rfl, rfl, rfl, rfl, rfl, rfl, trivial⟩ (fun w s => s.pick [0, 1] (by decide) rfl))
  ·refine T.skip (hK7 _ _ (T.conseq (fr' := [(2, _), (4, _), (5, _), (6, _), (17, _), (18, _)]) ?_ ⟨rfl, rfl, rfl, rfl, rfl, rfl, trivial⟩ (fun _ s => s)))
   refine T.region ?_
   refine RS.p (Pu.addS rfl rfl (by omega)) rfl rfl ?_
   refine RS.p (Pu.move rfl) rfl rfl ?_
   refine RS.nil (hL1 _ _ (i + 1, si L i (-1)) ⟨by omega, by omega, by simp only [len_si]; omega, fun j h0 h1 => by
    by_cases hj : j = i
    ·subst hj; rw [gi_si_self (by omega)]; unfold nb; rw [if_neg hc33]
    ·have hq' := hq j h0 (by omega)
     rw [gi_si_ne (by omega) (by omega) (fun e => hj e.symm)]; try rw [gi_si_ne (by omega) (by omega) (fun e => hj e.symm)]
     exact hq'⟩ (by show ((8 : Int) - (i + 1)).toNat < (8 - i).toNat; omega) ⟨rfl, rfl, rfl, rfl, rfl, rfl, trivial⟩ (fun w s => s.pick [0, 1] (by decide) rfl))
 ·refine T.exitTo (by with_reducible (repeat (first | exact ExTo.here | exact ExTo.hereN | exact ExTo.deep (by repeat (first | exact NmTo.seq | apply NmTo.blk)) | apply ExTo.seq | refine ExTo.past (by decide) ?_))) (hK3 _ _ (T.conseq (fr' := [(4, _)]) ?_ ⟨rfl, trivial⟩ (fun _ s => s)))
  refine T.seq fun K11 hK11 => ?_
  refine T.region ?_
  refine RS.q (Qt.ldBA (us := nums L) 1 ty67 rfl rfl (by rw [List.drop_zero]; exact List.take_of_length_le (by simp [nums, hL])) (by simp [nums, hL])) rfl rfl ?_
  refine RS.solid (Sd.stB (cs' := nums L) 1 ty67 rfl rfl rfl (us := nums L) (by simp [Value.cells]) (by simp [nums, hL]) (by simp [nums, hL]) (by simp [nums, Value.oneCell']) (by rw [List.take_zero, List.nil_append, List.drop_of_length_le (by simp [nums, hL]), List.append_nil])) rfl rfl fun _ => ?_
  refine RS.nil (hK11 _ _ ?_)
  refine T.retTo (by with_reducible ((repeat (first | apply RetTo.seq | apply RetTo.blk)); exact RetTo.refl _)) (Cont.retC 1 rfl ty67 rfl rfl (by simp [nums, hL]) fun w' s => ?_)
  have hLe : L = besideL W H t := ext_gi (by rw [hL]; rfl) (fun j h0 h1 => by rw [hq j h0 (by omega), beside_at ⟨h0, by omega⟩])
  exact ⟨by rw [hLe], s.ext⟩
end Go.Proofs.Ytddicdmleeaihaa
