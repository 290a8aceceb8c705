/-
  Walks of the small functions of package sector and of the page's own.
-/
import Derived.Test.YtddicdmleeaihaaRows
import Derived.Test.YtddicdmleeaihaaZ0
import Derived.Test.YtddicdmleeaihaaSP
import Derived.Test.YtddicdmleeaihaaVH
set_option linter.unusedVariables false
set_option linter.unusedSimpArgs false
set_option maxRecDepth 20000
set_option maxHeartbeats 4000000
namespace Go.Proofs.Ytddicdmleeaihaa
open Go.Vg
open Enc (R)
open Sp
theorem ent22 : Ent Try.prog 22 := ⟨_, _, Try.func22, by kernel_rfl, rfl⟩
theorem ent26 : Ent Try.prog 26 := ⟨_, _, Try.func26, by kernel_rfl, rfl⟩
theorem ent28 : Ent Try.prog 28 := ⟨_, _, Try.func28, by kernel_rfl, rfl⟩
theorem ent30 : Ent Try.prog 30 := ⟨_, _, Try.func30, by kernel_rfl, rfl⟩
theorem ent36 : Ent Try.prog 36 := ⟨_, _, Try.func36, by kernel_rfl, rfl⟩
theorem ground_Side_calls (n : Int) (w : World) : Calls Try.prog 30 #[.int .i64 n] w fun e w' => e = .returned (.bool (decide (1 ≤ n ∧ n ≤ 128))) ∧ Ext w w' := by
 refine T.enter (args := [.int .i64 n]) (S := Sat w []) Try.func30 rfl rfl (Sat.start w) ?_
 refine T.seq fun K1 hK1 => ?_
 refine T.region ?_
 refine RS.p (Pu.assign rfl) rfl rfl ?_
 refine RS.nil (hK1 _ _ ?_)
 refine T.seq fun K2 hK2 => ?_
 refine T.region ?_
 refine RS.p (Pu.move rfl) rfl rfl ?_
 refine RS.p (Pu.bin rfl rfl rfl) rfl rfl ?_
 refine RS.p (Pu.move rfl) rfl rfl ?_
 refine RS.splitP 5 rfl (fun h5 => ?_) (fun h5 => ?_)
 ·refine RS.p (Pu.move rfl) rfl rfl ?_
  refine RS.p (Pu.bin rfl rfl rfl) rfl rfl ?_
  refine RS.p (Pu.pickT rfl rfl) rfl rfl ?_
  refine RS.p (Pu.assign rfl) rfl rfl ?_
  refine RS.nil (hK2 _ _ (T.conseq (fr' := [(2, _)]) ?_ ⟨rfl, trivial⟩ (fun _ s => s)))
  refine T.retTo (by with_reducible ((repeat (first | apply RetTo.seq | apply RetTo.blk)); exact RetTo.refl _)) (Cont.ret1 rfl rfl fun w' s => ?_)
  exact ⟨by first | exact bT (by omega) | exact bF (by omega) | exact bD (by omega), s.ext⟩
 ·refine RS.no rfl rfl ?_
  refine RS.no rfl rfl ?_
  refine RS.p (Pu.pickF rfl rfl) rfl rfl ?_
  refine RS.p (Pu.assign rfl) rfl rfl ?_
  refine RS.nil (hK2 _ _ (T.conseq (fr' := [(2, _)]) ?_ ⟨rfl, trivial⟩ (fun _ s => s)))
  refine T.retTo (by with_reducible ((repeat (first | apply RetTo.seq | apply RetTo.blk)); exact RetTo.refl _)) (Cont.ret1 rfl rfl fun w' s => ?_)
  exact ⟨by first | exact bT (by omega) | exact bF (by omega) | exact bD (by omega), s.ext⟩
theorem sector_May_calls (x y : Int) (w : World) : Calls Try.prog 22 #[.int .i64 x, .int .i64 y] w fun e w' => e = .returned (.bool (decide (May x y))) ∧ Ext w w' := by
 refine T.enter (args := [.int .i64 x, .int .i64 y]) (S := Sat w []) Try.func22 rfl rfl (Sat.start w) ?_
 refine T.seq fun K1 hK1 => ?_
 refine T.region ?_
 refine RS.p (Pu.assign rfl) rfl rfl ?_
 refine RS.nil (hK1 _ _ ?_)
 refine T.seq fun K2 hK2 => ?_
 refine T.region ?_
 refine RS.p (Pu.move rfl) rfl rfl ?_
 refine RS.q (Qt.call ent30 rfl fun w _s => ground_Side_calls _ _) rfl rfl ?_
 refine RS.p (Pu.move rfl) rfl rfl ?_
 refine RS.splitP 7 rfl (fun h7 => ?_) (fun h7 => ?_)
 ·refine RS.p (Pu.move rfl) rfl rfl ?_
  refine RS.q (Qt.call ent30 rfl fun w _s => ground_Side_calls _ _) rfl rfl ?_
  refine RS.p (Pu.pickT rfl rfl) rfl rfl ?_
  refine RS.p (Pu.assign rfl) rfl rfl ?_
  refine RS.nil (hK2 _ _ (T.conseq (fr' := [(4, _)]) ?_ ⟨rfl, trivial⟩ (fun _ s => s)))
  refine T.retTo (by with_reducible ((repeat (first | apply RetTo.seq | apply RetTo.blk)); exact RetTo.refl _)) (Cont.ret1 rfl rfl fun w' s => ?_)
  exact ⟨by first | exact bT (by unfold May; omega) | exact bF (by unfold May; omega) | exact bD (by unfold May; omega), s.ext⟩
 ·refine RS.no rfl rfl ?_
  refine RS.no rfl rfl ?_
  refine RS.p (Pu.pickF rfl rfl) rfl rfl ?_
  refine RS.p (Pu.assign rfl) rfl rfl ?_
  refine RS.nil (hK2 _ _ (T.conseq (fr' := [(4, _)]) ?_ ⟨rfl, trivial⟩ (fun _ s => s)))
  refine T.retTo (by with_reducible ((repeat (first | apply RetTo.seq | apply RetTo.blk)); exact RetTo.refl _)) (Cont.ret1 rfl rfl fun w' s => ?_)
  exact ⟨by first | exact bT (by unfold May; omega) | exact bF (by unfold May; omega) | exact bD (by unfold May; omega), s.ext⟩
theorem sector_across_calls (n : Int) (hn : 0 ≤ n ∧ n ≤ 4294967296) (w : World) : Calls Try.prog 26 #[.int .i64 n] w fun e w' => e = .returned (.int .i64 (acr n)) ∧ Ext w w' := by
 refine T.enter (args := [.int .i64 n]) (S := Sat w []) Try.func26 rfl rfl (Sat.start w) ?_
 refine T.seq fun K1 hK1 => ?_
 refine T.region ?_
 refine RS.p (Pu.assign rfl) rfl rfl ?_
 refine RS.nil (hK1 _ _ ?_)
 refine T.seq fun K2 hK2 => ?_
 refine T.region ?_
 refine RS.p (Pu.move rfl) rfl rfl ?_
 refine RS.p (Pu.addS rfl rfl (by omega)) rfl rfl ?_
 refine RS.p (Pu.subS rfl rfl (by omega)) rfl rfl ?_
 refine RS.p (Pu.quoN rfl rfl (by omega)) rfl rfl ?_
 refine RS.p (Pu.assign rfl) rfl rfl ?_
 refine RS.nil (hK2 _ _ (T.conseq (fr' := [(2, _)]) ?_ ⟨rfl, trivial⟩ (fun _ s => s)))
 refine T.retTo (by with_reducible ((repeat (first | apply RetTo.seq | apply RetTo.blk)); exact RetTo.refl _)) (Cont.ret1 rfl rfl fun w' s => ?_)
 exact ⟨rfl, s.ext⟩
theorem throngref10_Across_calls (n : Int) (hn : 0 ≤ n ∧ n ≤ 4294967296) (w : World) : Calls Try.prog 28 #[.int .i64 n] w fun e w' => e = .returned (.int .i64 (acr n)) ∧ Ext w w' := by
 refine T.enter (args := [.int .i64 n]) (S := Sat w []) Try.func28 rfl rfl (Sat.start w) ?_
 refine T.seq fun K1 hK1 => ?_
 refine T.region ?_
 refine RS.p (Pu.assign rfl) rfl rfl ?_
 refine RS.nil (hK1 _ _ ?_)
 refine T.seq fun K2 hK2 => ?_
 refine T.region ?_
 refine RS.p (Pu.move rfl) rfl rfl ?_
 refine RS.p (Pu.addS rfl rfl (by omega)) rfl rfl ?_
 refine RS.p (Pu.subS rfl rfl (by omega)) rfl rfl ?_
 refine RS.p (Pu.quoN rfl rfl (by omega)) rfl rfl ?_
 refine RS.p (Pu.assign rfl) rfl rfl ?_
 refine RS.nil (hK2 _ _ (T.conseq (fr' := [(2, _)]) ?_ ⟨rfl, trivial⟩ (fun _ s => s)))
 refine T.retTo (by with_reducible ((repeat (first | apply RetTo.seq | apply RetTo.blk)); exact RetTo.refl _)) (Cont.ret1 rfl rfl fun w' s => ?_)
 exact ⟨rfl, s.ext⟩
theorem sector_At_calls (x t : Int) (hw : 1 ≤ x ∧ x ≤ 128) (ht : 0 ≤ t ∧ t ≤ 4294967296) (w : World) : Calls Try.prog 36 #[.int .i64 x, .int .i64 t] w fun e w' => e = .returned (.int .i64 (atS x t)) ∧ Ext w w' := by
 refine T.enter (args := [.int .i64 x, .int .i64 t]) (S := Sat w []) Try.func36 rfl rfl (Sat.start w) ?_
 have hd := divmod hw.1 ht.1
 have hq : 0 ≤ t / x / 8 ∧ t / x / 8 ≤ 4294967296 := by omega
 have ha : 0 ≤ acr x ∧ acr x ≤ 17 := by unfold acr; omega
 have hm := mul_bd ha hq
 refine T.seq fun K1 hK1 => ?_
 refine T.region ?_
 refine RS.p (Pu.assign rfl) rfl rfl ?_
 refine RS.nil (hK1 _ _ ?_)
 refine T.seq fun K2 hK2 => ?_
 refine T.drawn (fun _ => True) [(0, .pu), (1, .pu), (2, .pu), (3, .pu), (4, .pu), (5, .rd), (6, .pu), (7, .pu), (8, .pu), (9, .pu), (10, .pu), (11, .pu), (12, .pu)] mixed (ClE.sat _ _) (by kernel_rfl) ?_
 refine RD.p (fun _ _ => trivial) rfl (Pu.move rfl) rfl rfl ?_
 refine RD.p (fun _ _ => trivial) rfl (Pu.move rfl) rfl rfl ?_
 refine RD.p (fun _ _ => trivial) rfl (Pu.remN rfl rfl (by omega)) rfl rfl ?_
 refine RD.p (fun _ _ => trivial) rfl (Pu.quoN rfl rfl (by omega)) rfl rfl ?_
 refine RD.p (fun _ _ => trivial) rfl (Pu.move rfl) rfl rfl ?_
 refine RD.q (fun _ _ => trivial) rfl (Qt.call ent26 rfl fun w _s => sector_across_calls _ (by omega) _) rfl rfl ?_
 refine RD.p (fun _ _ => trivial) rfl (Pu.move rfl) rfl rfl ?_
 refine RD.p (fun _ _ => trivial) rfl (Pu.move rfl) rfl rfl ?_
 refine RD.p (fun _ _ => trivial) rfl (Pu.quoN rfl rfl (by omega)) rfl rfl ?_
 refine RD.p (fun _ _ => trivial) rfl (Pu.quoN rfl rfl (by omega)) rfl rfl ?_
 refine RD.p (fun _ _ => trivial) rfl (Pu.mulS rfl rfl (by omega)) rfl rfl ?_
 refine RD.p (fun _ _ => trivial) rfl (Pu.addS rfl rfl (by omega)) rfl rfl ?_
 refine RD.p (fun _ _ => trivial) rfl (Pu.assign rfl) rfl rfl ?_
 refine RD.nil (hK2 _ _ (T.conseq (fr' := [(4, _)]) ?_ ⟨rfl, trivial⟩ (fun _ s => s)))
 refine T.retTo (by with_reducible ((repeat (first | apply RetTo.seq | apply RetTo.blk)); exact RetTo.refl _)) (Cont.ret1 rfl rfl fun w' s => ?_)
 exact ⟨rfl, s.ext⟩
theorem throngref10_Of_calls (x t : Int) (hw : 1 ≤ x ∧ x ≤ 128) (ht : 0 ≤ t ∧ t ≤ 4294967296) (w : World) : Calls Try.prog 20 #[.int .i64 x, .int .i64 t] w fun e w' => e = .returned (.int .i64 (atS x t)) ∧ Ext w w' := by
 refine T.enter (args := [.int .i64 x, .int .i64 t]) (S := Sat w []) Try.func20 rfl rfl (Sat.start w) ?_
 have hd := divmod hw.1 ht.1
 have hq : 0 ≤ t / x / 8 ∧ t / x / 8 ≤ 4294967296 := by omega
 have ha : 0 ≤ acr x ∧ acr x ≤ 17 := by unfold acr; omega
 have hm := mul_bd ha hq
 refine T.seq fun K1 hK1 => ?_
 refine T.region ?_
 refine RS.p (Pu.assign rfl) rfl rfl ?_
 refine RS.nil (hK1 _ _ ?_)
 refine T.seq fun K2 hK2 => ?_
 refine T.drawn (fun _ => True) [(0, .pu), (1, .pu), (2, .pu), (3, .pu), (4, .pu), (5, .rd), (6, .pu), (7, .pu), (8, .pu), (9, .pu), (10, .pu), (11, .pu), (12, .pu)] mixed (ClE.sat _ _) (by kernel_rfl) ?_
 refine RD.p (fun _ _ => trivial) rfl (Pu.move rfl) rfl rfl ?_
 refine RD.p (fun _ _ => trivial) rfl (Pu.move rfl) rfl rfl ?_
 refine RD.p (fun _ _ => trivial) rfl (Pu.remN rfl rfl (by omega)) rfl rfl ?_
 refine RD.p (fun _ _ => trivial) rfl (Pu.quoN rfl rfl (by omega)) rfl rfl ?_
 refine RD.p (fun _ _ => trivial) rfl (Pu.move rfl) rfl rfl ?_
 refine RD.q (fun _ _ => trivial) rfl (Qt.call ent28 rfl fun w _s => throngref10_Across_calls _ (by omega) _) rfl rfl ?_
 refine RD.p (fun _ _ => trivial) rfl (Pu.move rfl) rfl rfl ?_
 refine RD.p (fun _ _ => trivial) rfl (Pu.move rfl) rfl rfl ?_
 refine RD.p (fun _ _ => trivial) rfl (Pu.quoN rfl rfl (by omega)) rfl rfl ?_
 refine RD.p (fun _ _ => trivial) rfl (Pu.quoN rfl rfl (by omega)) rfl rfl ?_
 refine RD.p (fun _ _ => trivial) rfl (Pu.mulS rfl rfl (by omega)) rfl rfl ?_
 refine RD.p (fun _ _ => trivial) rfl (Pu.addS rfl rfl (by omega)) rfl rfl ?_
 refine RD.p (fun _ _ => trivial) rfl (Pu.assign rfl) rfl rfl ?_
 refine RD.nil (hK2 _ _ (T.conseq (fr' := [(4, _)]) ?_ ⟨rfl, trivial⟩ (fun _ s => s)))
 refine T.retTo (by with_reducible ((repeat (first | apply RetTo.seq | apply RetTo.blk)); exact RetTo.refl _)) (Cont.ret1 rfl rfl fun w' s => ?_)
 exact ⟨rfl, s.ext⟩
theorem sector_Of_calls (x y t : Int) (ht : I64 t) (w : World) : Calls Try.prog 24 #[.int .i64 x, .int .i64 y, .int .i64 t] w fun e w' => e = .returned (.tuple #[.int .i64 (ofV x y t), .int .i64 (ofE x y t)]) ∧ Ext w w' := by
 refine T.enter (args := [.int .i64 x, .int .i64 y, .int .i64 t]) (S := Sat w []) Try.func24 rfl rfl (Sat.start w) ?_
 unfold I64 at ht
 refine T.seq fun K1 hK1 => ?_
 refine T.region ?_
 refine RS.p (Pu.assign rfl) rfl rfl ?_
 refine RS.p (Pu.assign rfl) rfl rfl ?_
 refine RS.nil (hK1 _ _ ?_)
 refine T.seq fun K2 hK2 => ?_
 refine T.block ?_
 refine T.seq fun K3 hK3 => ?_
 refine T.region ?_
 refine RS.p (Pu.move rfl) rfl rfl ?_
 refine RS.p (Pu.move rfl) rfl rfl ?_
 refine RS.q (Qt.call ent22 rfl fun w _s => sector_May_calls _ _ _) rfl rfl ?_
 refine RS.p (Pu.notP rfl) rfl rfl ?_
 refine RS.p (Pu.assign rfl) rfl rfl ?_
 refine RS.nil (hK3 _ _ ?_)
 refine T.condP rfl (fun hc => ?_) (fun hc => ?_)
 ·refine T.conseq (fr' := []) ?_ trivial (fun _ s => s)
  refine T.seq fun K4 hK4 => ?_
  refine T.region ?_
  refine RS.p (Pu.assign rfl) rfl rfl ?_
  refine RS.p (Pu.assign rfl) rfl rfl ?_
  refine RS.nil (hK4 _ _ ?_)
  refine T.retTo (by with_reducible ((repeat (first | apply RetTo.seq | apply RetTo.blk)); exact RetTo.refl _)) (Cont.ret2 rfl rfl rfl fun w' s => ?_)
  exact ⟨by unfold ofV ofE; rw [if_neg (fun h => hc h.1), if_neg hc], s.ext⟩
 ·have hmay : May x y := Decidable.not_not.1 hc
  have hmay2 := hmay
  unfold May at hmay2
  have hm := mul_bd (a := x) (b := y) (A := 128) (B := 128) (by omega) (by omega)
  refine T.conseq (fr' := [(0, _), (1, _), (2, _)]) ?_ ⟨rfl, rfl, rfl, trivial⟩ (fun _ s => s)
  refine T.seq fun K5 hK5 => ?_
  refine T.region ?_
  refine RS.p (Pu.move rfl) rfl rfl ?_
  refine RS.p (Pu.bin rfl rfl rfl) rfl rfl ?_
  refine RS.p (Pu.move rfl) rfl rfl ?_
  refine RS.splitP 16 rfl (fun h16 => ?_) (fun h16 => ?_)
  ·refine RS.no rfl rfl ?_
   refine RS.no rfl rfl ?_
   refine RS.no rfl rfl ?_
   refine RS.no rfl rfl ?_
   refine RS.no rfl rfl ?_
   refine RS.p (Pu.pickT rfl rfl) rfl rfl ?_
   refine RS.p (Pu.assign rfl) rfl rfl ?_
   refine RS.nil (hK5 _ _ ?_)
   refine T.condT rfl ?_
   refine T.conseq (fr' := []) ?_ trivial (fun _ s => s)
   refine T.seq fun K6 hK6 => ?_
   refine T.region ?_
   refine RS.p (Pu.assign rfl) rfl rfl ?_
   refine RS.p (Pu.assign rfl) rfl rfl ?_
   refine RS.nil (hK6 _ _ ?_)
   refine T.retTo (by with_reducible ((repeat (first | apply RetTo.seq | apply RetTo.blk)); exact RetTo.refl _)) (Cont.ret2 rfl rfl rfl fun w' s => ?_)
   exact ⟨by unfold ofV ofE; rw [if_neg (by omega), if_pos hmay, if_neg (by omega)], s.ext⟩
  ·refine RS.p (Pu.move rfl) rfl rfl ?_
   refine RS.p (Pu.move rfl) rfl rfl ?_
   refine RS.p (Pu.move rfl) rfl rfl ?_
   refine RS.p (Pu.mulS rfl rfl (by omega)) rfl rfl ?_
   refine RS.p (Pu.bin rfl rfl rfl) rfl rfl ?_
   refine RS.p (Pu.pickF rfl rfl) rfl rfl ?_
   refine RS.p (Pu.assign rfl) rfl rfl ?_
   refine RS.nil (hK5 _ _ ?_)
   refine T.condP rfl (fun hc13 => ?_) (fun hc13 => ?_)
   ·refine T.conseq (fr' := []) ?_ trivial (fun _ s => s)
    refine T.seq fun K7 hK7 => ?_
    refine T.region ?_
    refine RS.p (Pu.assign rfl) rfl rfl ?_
    refine RS.p (Pu.assign rfl) rfl rfl ?_
    refine RS.nil (hK7 _ _ ?_)
    refine T.retTo (by with_reducible ((repeat (first | apply RetTo.seq | apply RetTo.blk)); exact RetTo.refl _)) (Cont.ret2 rfl rfl rfl fun w' s => ?_)
    exact ⟨by unfold ofV ofE; rw [if_neg (by omega), if_pos hmay, if_neg (by omega)], s.ext⟩
   ·refine T.skip (hK2 _ _ (T.conseq (fr' := [(0, _), (2, _)]) ?_ ⟨rfl, rfl, trivial⟩ (fun _ s => s)))
    refine T.seq fun K8 hK8 => ?_
    refine T.region ?_
    refine RS.p (Pu.move rfl) rfl rfl ?_
    refine RS.p (Pu.move rfl) rfl rfl ?_
    refine RS.q (Qt.call ent36 rfl fun w _s => sector_At_calls _ _ (by omega) (by omega) _) rfl rfl ?_
    refine RS.p (Pu.assign rfl) rfl rfl ?_
    refine RS.p (Pu.assign rfl) rfl rfl ?_
    refine RS.nil (hK8 _ _ (T.conseq (fr' := [(6, _), (7, _)]) ?_ ⟨rfl, rfl, trivial⟩ (fun _ s => s)))
    refine T.retTo (by with_reducible ((repeat (first | apply RetTo.seq | apply RetTo.blk)); exact RetTo.refl _)) (Cont.ret2 rfl rfl rfl fun w' s => ?_)
    exact ⟨by unfold ofV ofE; rw [if_pos ⟨hmay, by omega⟩, if_pos hmay, if_pos (by omega)], s.ext⟩
end Go.Proofs.Ytddicdmleeaihaa
