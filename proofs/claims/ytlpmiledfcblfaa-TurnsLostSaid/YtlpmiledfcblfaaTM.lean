/-
  Walk of the turns' Merge.
-/
import Derived.Test.YtlpmiledfcblfaaRows
import Derived.Test.YtlpmiledfcblfaaTJ
import Derived.Test.YtlpmiledfcblfaaTW
import Derived.Test.YtlpmiledfcblfaaTR
set_option linter.unusedVariables false
set_option linter.unusedSimpArgs false
set_option maxRecDepth 20000
set_option maxHeartbeats 4000000
namespace Go.Proofs.Ytlpmiledfcblfaa
open Go.Vg
open Enc (R)
theorem ent54 : Ent Try.prog 54 := ⟨_, _, Try.func54, by kernel_rfl, rfl⟩
theorem ent55 : Ent Try.prog 55 := ⟨_, _, Try.func55, by kernel_rfl, rfl⟩
theorem ent58 : Ent Try.prog 58 := ⟨_, _, Try.func58, by kernel_rfl, rfl⟩
theorem turns_Merge_walk (a0_l : List Inp) (w : World) {v0 : Value} (h0 : R (hpOf w) a0_l [v0]) {r : List Cmd × Int} (H : turns_Merge a0_l = some r) : Calls Try.prog 21 #[v0] w fun e w' => ∃ q1 : (Option Nat × Nat), e = .returned (.tuple #[rowV q1 r.1.length, .int .i64 r.2]) ∧ Sat w [drow 54 (rowV q1 r.1.length) r.1] w' := by
 have hm0 := R_max h0
 obtain ⟨p0, c0, rfl⟩ := R_form h0
 unfold turns_Merge at H
 refine T.enter (args := [_]) (S := Sat w []) Try.func21 rfl rfl (Sat.start w) ?_
 refine T.seq fun K1 hK1 => ?_
 refine T.region ?_
 refine RS.p (Pu.assign rfl) rfl rfl ?_
 refine RS.p (Pu.assign rfl) rfl rfl ?_
 refine RS.nil (hK1 _ _ ?_)
 refine T.seq fun K2 hK2 => ?_
 refine T.region ?_
 refine RS.p (Pu.move rfl) rfl rfl ?_
 obtain ⟨x1, hx1, H⟩ := bindE H
 refine RS.solid (Sd.callN (vs := [.slice p0 a0_l.length c0]) ent54 rfl (fun w s => slices_CloneI_walk a0_l w (_) (s.ext.hp) (h0) hx1)) rfl rfl fun q2 => ?_
 refine RS.p (Pu.assign rfl) rfl rfl ?_
 refine RS.nil (hK2 _ _ (T.conseq (fr' := [(4, _)]) ?_ ⟨rfl, trivial⟩ (fun _ s => s)))
 refine T.seq fun K3 hK3 => ?_
 refine T.region ?_
 refine RS.p (Pu.move rfl) rfl rfl ?_
 obtain ⟨x3, hx3, H⟩ := bindE H
 refine RS.solid (Sd.callM 0 ent55 rfl rfl (fun w s => slices_SortFuncI_walk x1 rfl hx3 w s)) rfl rfl fun ⟨y4, hy5⟩ => ?_
 have H := turns_Merge_rest_inv hx3 hy5 H
 unfold turns_Merge_rest at H
 have hly4 := hy5.1.length_eq
 refine RS.weakS (S' := Sat w [rowG (FB (hpOf w)) 50 (rowV q2 x1.length) y4]) (fun w s => s) ?_
 refine RS.nil (hK3 _ _ ?_)
 refine T.seq fun K4 hK4 => ?_
 refine T.seq fun K5 hK5 => ?_
 refine T.drawn (fun _ => True) [(0, .pu), (1, .rd), (2, .pu), (3, .pu), (4, .pu), (5, .pu), (6, .pu), (7, .pu), (8, .pu), (9, .pu), (10, .pu), (11, .rd), (12, .pu), (13, .pu), (14, .pu), (15, .pu), (16, .pu), (17, .pu), (18, .rd), (19, .pu), (20, .pu), (21, .pu)] mixed (ClE.sat _ _) (by kernel_rfl) ?_
 refine RD.p (fun _ _ => trivial) rfl (Pu.move rfl) rfl rfl ?_
 obtain ⟨x6, hx6, H⟩ := bindE H
 refine RD.q (fun _ _ => trivial) rfl (Qt.call (vs := [rowV q2 x1.length]) ent57 rfl fun w s => turns_Rising_walk y4 w ((Rd.ofG 0 rfl) w s) hx6) rfl rfl ?_
 refine RD.p (fun _ _ => trivial) rfl (Pu.not rfl) rfl rfl ?_
 refine RD.p (fun _ _ => trivial) rfl (Pu.move rfl) rfl rfl ?_
 obtain ⟨g9, H⟩ := gdE H
 obtain ⟨g10, H⟩ := gdE H
 obtain ⟨g11, H⟩ := gdE H
 refine RD.joinV 18 30 (.bool (decide (((!x6) = true) ∨ ((0 < (x1.length : Int)) ∧ (¬ (gi y4 (0 : Int)).turn = (gi y4 ((x1.length : Int) - 1)).turn))))) [(4, _)] ⟨rfl, trivial⟩ ?_ ?_
 ·refine RD.nil (hK5 _ _ ?_)
  refine T.condP rfl (fun hc12 => ?_) (fun hc12 => ?_)
  ·have H := ifT hc12 H
   refine T.seq fun K6 hK6 => ?_
   refine T.region ?_
   refine RS.p (Pu.assign rfl) rfl rfl ?_
   refine RS.p (Pu.assign rfl) rfl rfl ?_
   refine RS.nil (hK6 _ _ ?_)
   obtain rfl := Option.some.inj H
   refine T.retTo (by with_reducible ((repeat (first | apply RetTo.seq | apply RetTo.blk)); exact RetTo.refl _)) (Cont.ret2 rfl rfl rfl fun w' s => ?_)
   exact ⟨(none, 0), rfl, (s.nilRowG (α := Cmd) 54).pick [1] (by decide) rfl⟩
  ·have H := ifF hc12 H
   refine T.skip (hK4 _ _ ?_)
   refine T.seq fun K7 hK7 => ?_
   refine T.region ?_
   refine RS.p (Pu.move rfl) rfl rfl ?_
   obtain ⟨x13, hx13, H⟩ := bindE H
   refine RS.solid (Sd.callN (vs := [rowV q2 x1.length]) ent58 rfl (fun w s => turns_All_walk y4 w ((Rd.ofG 0 rfl) w s) hx13)) rfl rfl fun q14 => ?_
   refine RS.p (Pu.assign rfl) rfl rfl ?_
   refine RS.p (Pu.assign rfl) rfl rfl ?_
   refine RS.nil (hK7 _ _ (T.conseq (fr' := [(2, _), (3, _)]) ?_ ⟨rfl, rfl, trivial⟩ (fun _ s => s)))
   obtain rfl := Option.some.inj H
   refine T.retTo (by with_reducible ((repeat (first | apply RetTo.seq | apply RetTo.blk)); exact RetTo.refl _)) (Cont.ret2 rfl rfl rfl fun w' s => ?_)
   exact ⟨q14, rfl, s.pick [1] (by decide) rfl⟩
 ·intro hJ8
  refine RD.split 12 rfl (fun hc7 => ?_) (fun hc7 => ?_)
  ·refine RD.no (fun _ _ => trivial) rfl rfl rfl (.inl rfl) ?_
   refine RD.no (fun _ _ => trivial) rfl rfl rfl (.inl rfl) ?_
   refine RD.no (fun _ _ => trivial) rfl rfl rfl (.inl rfl) ?_
   refine RD.no (fun _ _ => trivial) rfl rfl rfl (.inl rfl) ?_
   refine RD.no (fun _ _ => trivial) rfl rfl rfl (.inl rfl) ?_
   refine RD.no (fun _ _ => trivial) rfl rfl rfl (.inl rfl) ?_
   refine RD.no (fun _ _ => trivial) rfl rfl rfl (.inl rfl) ?_
   refine RD.no (fun _ _ => trivial) rfl rfl rfl (.inr (.inr rfl)) ?_
   refine RD.no (fun _ _ => trivial) rfl rfl rfl (.inl rfl) ?_
   refine RD.no (fun _ _ => trivial) rfl rfl rfl (.inl rfl) ?_
   refine RD.no (fun _ _ => trivial) rfl rfl rfl (.inl rfl) ?_
   refine RD.no (fun _ _ => trivial) rfl rfl rfl (.inl rfl) ?_
   refine RD.no (fun _ _ => trivial) rfl rfl rfl (.inl rfl) ?_
   refine RD.no (fun _ _ => trivial) rfl rfl rfl (.inl rfl) ?_
   refine RD.no (fun _ _ => trivial) rfl rfl rfl (.inr (.inr rfl)) ?_
   refine RD.no (fun _ _ => trivial) rfl rfl rfl (.inl rfl) ?_
   refine RD.no (fun _ _ => trivial) rfl rfl rfl (.inl rfl) ?_
   refine RD.p (fun _ _ => trivial) rfl (Pu.pickT rfl rfl) rfl rfl ?_
   exact hJ8 _ ⟨dOrT hc7, rfl, trivial⟩
  ·refine RD.p (fun _ _ => trivial) rfl (Pu.move rfl) rfl rfl ?_
   refine RD.p (fun _ _ => trivial) rfl (Pu.lenSl sl24 rfl) rfl rfl ?_
   refine RD.p (fun _ _ => trivial) rfl (Pu.bin rfl rfl rfl) rfl rfl ?_
   refine RD.p (fun _ _ => trivial) rfl (Pu.move rfl) rfl rfl ?_
   refine RD.joinV 13 29 (.bool (decide ((0 < (x1.length : Int)) ∧ (¬ (gi y4 (0 : Int)).turn = (gi y4 ((x1.length : Int) - 1)).turn)))) [(4, _), (7, _), (9, _), (10, _), (11, _), (12, _), (13, _), (14, _), (15, _)] ⟨rfl, rfl, rfl, rfl, rfl, rfl, rfl, rfl, rfl, trivial⟩ ?_ ?_
   ·refine RD.p (fun _ _ => trivial) rfl (Pu.pickF rfl rfl) rfl rfl ?_
    exact hJ8 _ ⟨dOrF (bne_of hc7), rfl, trivial⟩
   ·intro hJ16
    refine RD.splitP 16 rfl (fun hc15 => ?_) (fun hc15 => ?_)
    ·refine RD.p (fun _ _ => trivial) rfl (Pu.move rfl) rfl rfl ?_
     refine RD.know (fun w s => (s.row_fitsG (q := q2) (m := x1.length) (k := 0) rfl)) fun hf17 => ?_
     refine RD.know (p := ∃ g cap, q2 = (some g, cap)) (fun w s => (s.row_someG (k := 0) rfl (pos_of (idx_of hf17.1 ((g9 (bne_of hc7)) hc15))))) ?_
     rintro ⟨gg18, cc19, rfl⟩
     refine RD.p (fun _ _ => trivial) rfl (Pu.indexSl sl24 rfl rfl ((g9 (bne_of hc7)) hc15)) rfl rfl ?_
     refine RD.p (fun _ _ => trivial) rfl (Pu.fieldAddr fd50_0 rfl) rfl rfl ?_
     refine RD.q (fun _ _ => trivial) rfl (Qt.ldF (α := Inp) (Rd.ofG 0 rfl) ty3 rfl rfl (idx_of hf17.1 ((g9 (bne_of hc7)) hc15)) (by rintro _ _ ⟨_, rfl, _⟩; rfl)) rfl rfl ?_
     refine RD.p (fun _ _ => trivial) rfl (Pu.move rfl) rfl rfl ?_
     refine RD.p (fun _ _ => trivial) rfl (Pu.move rfl) rfl rfl ?_
     refine RD.p (fun _ _ => trivial) rfl (Pu.lenSl sl24 rfl) rfl rfl ?_
     refine RD.p (fun _ _ => trivial) rfl (Pu.subS rfl rfl ((g10 (bne_of hc7)) hc15)) rfl rfl ?_
     refine RD.know (fun w s => (s.row_fitsG (q := (some gg18, cc19)) (m := x1.length) (k := 0) rfl)) fun hf20 => ?_
     refine RD.p (fun _ _ => trivial) rfl (Pu.indexSl sl24 rfl rfl ((g11 (bne_of hc7)) hc15)) rfl rfl ?_
     refine RD.p (fun _ _ => trivial) rfl (Pu.fieldAddr fd50_0 rfl) rfl rfl ?_
     refine RD.q (fun _ _ => trivial) rfl (Qt.ldF (α := Inp) (Rd.ofG 0 rfl) ty3 rfl rfl (idx_of hf20.1 ((g11 (bne_of hc7)) hc15)) (by rintro _ _ ⟨_, rfl, _⟩; rfl)) rfl rfl ?_
     refine RD.p (fun _ _ => trivial) rfl (Pu.bin rfl rfl rfl) rfl rfl ?_
     refine RD.p (fun _ _ => trivial) rfl (Pu.pickT rfl rfl) rfl rfl ?_
     exact hJ16 _ ⟨dAndT hc15, rfl, rfl, rfl, rfl, rfl, rfl, rfl, rfl, rfl, trivial⟩
    ·refine RD.no (fun _ _ => trivial) rfl rfl rfl (.inl rfl) ?_
     refine RD.no (fun _ _ => trivial) rfl rfl rfl (.inl rfl) ?_
     refine RD.no (fun _ _ => trivial) rfl rfl rfl (.inl rfl) ?_
     refine RD.no (fun _ _ => trivial) rfl rfl rfl (.inr (.inr rfl)) ?_
     refine RD.no (fun _ _ => trivial) rfl rfl rfl (.inl rfl) ?_
     refine RD.no (fun _ _ => trivial) rfl rfl rfl (.inl rfl) ?_
     refine RD.no (fun _ _ => trivial) rfl rfl rfl (.inl rfl) ?_
     refine RD.no (fun _ _ => trivial) rfl rfl rfl (.inl rfl) ?_
     refine RD.no (fun _ _ => trivial) rfl rfl rfl (.inl rfl) ?_
     refine RD.no (fun _ _ => trivial) rfl rfl rfl (.inl rfl) ?_
     refine RD.no (fun _ _ => trivial) rfl rfl rfl (.inr (.inr rfl)) ?_
     refine RD.no (fun _ _ => trivial) rfl rfl rfl (.inl rfl) ?_
     refine RD.p (fun _ _ => trivial) rfl (Pu.pickF rfl rfl) rfl rfl ?_
     exact hJ16 _ ⟨dAndF hc15, rfl, rfl, rfl, rfl, rfl, rfl, rfl, rfl, rfl, trivial⟩
end Go.Proofs.Ytlpmiledfcblfaa
