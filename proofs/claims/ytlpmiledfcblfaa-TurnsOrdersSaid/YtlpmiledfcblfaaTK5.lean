/-
  Walk of TurnsOrders.
-/
import Derived.Test.YtlpmiledfcblfaaRows
import Derived.Test.YtlpmiledfcblfaaTK
import Derived.Test.YtlpmiledfcblfaaTG5
set_option linter.unusedVariables false
set_option linter.unusedSimpArgs false
set_option maxRecDepth 20000
set_option maxHeartbeats 4000000
namespace Go.Proofs.Ytlpmiledfcblfaa
open Go.Vg
open Enc (R)
theorem ent19 : Ent Try.prog 19 := ⟨_, _, Try.func19, by kernel_rfl, rfl⟩
theorem ent27 : Ent Try.prog 27 := ⟨_, _, Try.func27, by kernel_rfl, rfl⟩
theorem ty38 : tySz Try.prog 38 = some (3, true) := by kernel_rfl
theorem thronglaw27_TurnsOrders_walk (a0_p : Ask27) (w : World) {v0 v1 v2 : Value} (h0 : R (hpOf w) a0_p.l [v0]) (h1 : R (hpOf w) a0_p.more [v1]) (h2 : R (hpOf w) a0_p.ts [v2]) {r : Bool} (H : thronglaw27_TurnsOrders a0_p = some r) : Calls Try.prog 5 #[.agg #[v0, v1, v2]] w fun e w' => e = .returned (.bool r) ∧ Ext w w' := by
 have hm0 := R_max h0
 obtain ⟨p0, c0, rfl⟩ := R_form h0
 have hm1 := R_max h1
 obtain ⟨p1, c1, rfl⟩ := R_form h1
 have hm2 := R_max h2
 obtain ⟨p2, c2, rfl⟩ := R_form h2
 unfold thronglaw27_TurnsOrders at H
 refine T.enter (args := [_]) (S := Sat w []) Try.func5 rfl rfl (Sat.start w) ?_
 refine T.seq fun K1 hK1 => ?_
 refine T.region ?_
 refine RS.solid (Sd.box (cs := [_, _, _]) rfl rfl) rfl rfl fun b1 => ?_
 refine RS.p (Pu.assign rfl) rfl rfl ?_
 refine RS.nil (hK1 _ _ ?_)
 refine T.seq fun K2 hK2 => ?_
 refine T.seq fun K3 hK3 => ?_
 refine T.region ?_
 refine RS.q (Qt.ldBA (us := [_, _, _]) 0 ty38 rfl rfl rfl rfl) rfl rfl ?_
 obtain ⟨x2, hx2, H⟩ := bindE H
 refine RS.q (Qt.call (vs := [.agg #[.slice p0 a0_p.l.length c0, .slice p1 a0_p.more.length c1, .slice p2 a0_p.ts.length c2]]) ent19 rfl fun w s => thronglaw27_heavy_walk a0_p w ((Rd.base h0) w s) ((Rd.base h1) w s) ((Rd.base h2) w s) hx2) rfl rfl ?_
 refine RS.nil (hK3 _ _ ?_)
 refine T.cond rfl (fun hc3 => ?_) (fun hc3 => ?_)
 ·have H := ifT hc3 H
  refine T.conseq (fr' := []) ?_ trivial (fun _ s => s)
  refine T.seq fun K4 hK4 => ?_
  refine T.region ?_
  refine RS.p (Pu.assign rfl) rfl rfl ?_
  refine RS.nil (hK4 _ _ ?_)
  obtain rfl := Option.some.inj H
  refine T.retTo (by with_reducible ((repeat (first | apply RetTo.seq | apply RetTo.blk)); exact RetTo.refl _)) (Cont.ret1 rfl rfl fun w' s => ?_)
  exact ⟨rfl, s.ext⟩
 ·have H := ifB hc3 H
  refine T.skip (hK2 _ _ (T.conseq (fr' := [(1, _)]) ?_ ⟨rfl, trivial⟩ (fun _ s => s)))
  refine T.seq fun K5 hK5 => ?_
  refine T.region ?_
  refine RS.p (Pu.fieldAddr fd38_1 rfl) rfl rfl ?_
  refine RS.q (Qt.ldB 0 ty24 rfl rfl rfl) rfl rfl ?_
  obtain ⟨x4, hx4, H⟩ := bindE H
  refine RS.solid (Sd.callN (vs := [.slice p1 a0_p.more.length c1]) ent21 rfl (fun w s => turns_Merge_walk a0_p.more w ((Rd.base h1) w s) hx4)) rfl rfl fun q5 => ?_
  refine RS.p (Pu.move rfl) rfl rfl ?_
  refine RS.p (Pu.extract rfl rfl) rfl rfl ?_
  refine RS.p (Pu.extract rfl rfl) rfl rfl ?_
  refine RS.p (Pu.assign rfl) rfl rfl ?_
  refine RS.p (Pu.assign rfl) rfl rfl ?_
  refine RS.nil (hK5 _ _ (T.conseq (fr' := [(1, _), (3, _), (4, _)]) ?_ ⟨rfl, rfl, rfl, trivial⟩ (fun _ s => s)))
  refine T.seq fun K6 hK6 => ?_
  refine T.region ?_
  refine RS.p (Pu.assign rfl) rfl rfl ?_
  refine RS.nil (hK6 _ _ ?_)
  refine T.seq fun K7 hK7 => ?_
  refine T.region ?_
  refine RS.p (Pu.assign rfl) rfl rfl ?_
  refine RS.nil (hK7 _ _ ?_)
  refine T.seq fun K8 hK8 => ?_
  refine T.seq fun K9 hK9 => ?_
  refine T.region ?_
  refine RS.p (Pu.fieldAddr fd38_1 rfl) rfl rfl ?_
  refine RS.q (Qt.ldB 0 ty24 rfl rfl rfl) rfl rfl ?_
  refine RS.p (Pu.lenSl sl24 rfl) rfl rfl ?_
  obtain ⟨g6, H⟩ := gdE H
  refine RS.p (Pu.subS rfl rfl g6) rfl rfl ?_
  refine RS.p (Pu.assign rfl) rfl rfl ?_
  refine RS.nil (hK9 _ _ (T.conseq (fr' := [(1, _), (3, _), (4, _), (5, _), (6, _), (7, _)]) ?_ ⟨rfl, rfl, rfl, rfl, rfl, rfl, trivial⟩ (fun _ s => s)))
  refine T.joinE (σ := Int × List Inp) (γ := (Option Nat × Nat)) H (fun s => s) [(3, _), (4, _)] ⟨rfl, rfl, trivial⟩ (fun (v8, v9) q10 => [(5, rowV q10 v9.length), (6, .int .i64 v8)]) (fun (v8, v9) q10 => Sat w [blk b1 [.slice p0 a0_p.l.length c0, .slice p1 a0_p.more.length c1, .slice p2 a0_p.ts.length c2] 38, drow 54 (rowV q5 x4.1.length) x4.1, rowG (FB (hpOf w)) 50 (rowV q10 v9.length) v9]) ?_ ?_
  ·rintro ⟨v8, v9⟩ q10 H
   try dsimp only [Ex.then] at H
   refine Cont.conseq (fr' := [(5, _), (6, _), (3, _), (4, _)]) ?_ ⟨rfl, rfl, rfl, rfl, trivial⟩ (fun _ s => s)
   refine id (hK8 _ _ ?_)
   refine T.seq fun K10 hK10 => ?_
   refine T.region ?_
   refine RS.p (Pu.move rfl) rfl rfl ?_
   obtain ⟨x11, hx11, H⟩ := bindE H
   refine RS.solid (Sd.callN (vs := [rowV q10 v9.length]) ent21 rfl (fun w s => turns_Merge_walk v9 w ((Rd.ofG 2 rfl) w s) hx11)) rfl rfl fun q12 => ?_
   refine RS.p (Pu.move rfl) rfl rfl ?_
   refine RS.p (Pu.extract rfl rfl) rfl rfl ?_
   refine RS.p (Pu.extract rfl rfl) rfl rfl ?_
   refine RS.p (Pu.assign rfl) rfl rfl ?_
   refine RS.p (Pu.assign rfl) rfl rfl ?_
   refine RS.nil (hK10 _ _ (T.conseq (fr' := [(3, _), (4, _), (6, _), (8, _), (9, _)]) ?_ ⟨rfl, rfl, rfl, rfl, rfl, trivial⟩ (fun _ s => s)))
   refine T.seq fun K11 hK11 => ?_
   refine T.seq fun K12 hK12 => ?_
   refine T.region ?_
   refine RS.p (Pu.move rfl) rfl rfl ?_
   obtain ⟨x13, hx13, H⟩ := bindE H
   refine RS.q (Qt.call (vs := [.int .i64 x4.2]) ent23 rfl fun w s => thronglaw27_num_walk x4.2 w  hx13) rfl rfl ?_
   refine RS.p (Pu.move rfl) rfl rfl ?_
   obtain ⟨x14, hx14, H⟩ := bindE H
   refine RS.q (Qt.call (vs := [.int .i64 x11.2]) ent23 rfl fun w s => thronglaw27_num_walk x11.2 w  hx14) rfl rfl ?_
   refine RS.p (Pu.bin rfl rfl rfl) rfl rfl ?_
   refine RS.p (Pu.move rfl) rfl rfl ?_
   refine RS.joinB H 5 59 (fun b17 => .bool b17) [(3, _), (4, _), (6, _)] ⟨rfl, rfl, rfl, trivial⟩ ?_ ?_
   ·intro b17 H
    refine RS.nil (hK12 _ _ ?_)
    refine T.cond rfl (fun hc18 => ?_) (fun hc18 => ?_)
    ·have H := ifT hc18 H
     refine T.conseq (fr' := []) ?_ trivial (fun _ s => s)
     refine T.seq fun K13 hK13 => ?_
     refine T.region ?_
     refine RS.p (Pu.assign rfl) rfl rfl ?_
     refine RS.nil (hK13 _ _ ?_)
     obtain rfl := Option.some.inj H
     refine T.retTo (by with_reducible ((repeat (first | apply RetTo.seq | apply RetTo.blk)); exact RetTo.refl _)) (Cont.ret1 rfl rfl fun w' s => ?_)
     exact ⟨rfl, s.ext⟩
    ·have H := ifB hc18 H
     refine T.skip (hK11 _ _ ?_)
     refine T.seq fun K14 hK14 => ?_
     refine T.seq fun K15 hK15 => ?_
     refine T.region ?_
     refine RS.p (Pu.move rfl) rfl rfl ?_
     obtain ⟨x19, hx19, H⟩ := bindE H
     refine RS.q (Qt.call (vs := [.int .i64 x4.2]) ent23 rfl fun w s => thronglaw27_num_walk x4.2 w  hx19) rfl rfl ?_
     refine RS.p (Pu.bin rfl rfl rfl) rfl rfl ?_
     refine RS.nil (hK15 _ _ ?_)
     refine T.condP rfl (fun hc20 => ?_) (fun hc20 => ?_)
     ·have H := ifT hc20 H
      refine T.conseq (fr' := []) ?_ trivial (fun _ s => s)
      refine T.seq fun K16 hK16 => ?_
      refine T.region ?_
      obtain ⟨x21, hx21, H⟩ := bindE H
      refine RS.q (Qt.call (vs := []) ent27 rfl fun w s => thronglaw27_wakes_walk  w  hx21) rfl rfl ?_
      refine RS.p (Pu.assign rfl) rfl rfl ?_
      refine RS.nil (hK16 _ _ ?_)
      obtain rfl := Option.some.inj H
      refine T.retTo (by with_reducible ((repeat (first | apply RetTo.seq | apply RetTo.blk)); exact RetTo.refl _)) (Cont.ret1 rfl rfl fun w' s => ?_)
      exact ⟨rfl, s.ext⟩
     ·have H := ifF hc20 H
      refine T.skip (hK14 _ _ (T.conseq (fr' := [(3, _), (6, _)]) ?_ ⟨rfl, rfl, trivial⟩ (fun _ s => s)))
      refine T.seq fun K17 hK17 => ?_
      refine T.seq fun K18 hK18 => ?_
      refine T.region ?_
      refine RS.p (Pu.assign rfl) rfl rfl ?_
      refine RS.nil (hK18 _ _ ?_)
      refine T.joinE (σ := Unit) (γ := Unit) H Ex.go [(3, _), (6, _)] ⟨rfl, rfl, trivial⟩ (fun _ _ => []) (fun _ _ => Sat w [blk b1 [.slice p0 a0_p.l.length c0, .slice p1 a0_p.more.length c1, .slice p2 a0_p.ts.length c2] 38, drow 54 (rowV q5 x4.1.length) x4.1, rowG (FB (hpOf w)) 50 (rowV q10 v9.length) v9, drow 54 (rowV q12 x11.1.length) x11.1]) ?_ ?_
      ·rintro ⟨⟩ ⟨⟩ H
       try dsimp only [Ex.then] at H
       refine Cont.conseq (fr' := [(3, _), (6, _)]) ?_ ⟨rfl, rfl, trivial⟩ (fun _ s => s)
       refine id (hK17 _ _ ?_)
       refine T.seq fun K19 hK19 => ?_
       refine T.region ?_
       refine RS.p (Pu.move rfl) rfl rfl ?_
       refine RS.p (Pu.lenSl sl41 rfl) rfl rfl ?_
       refine RS.p (Pu.move rfl) rfl rfl ?_
       refine RS.p (Pu.bin rfl rfl rfl) rfl rfl ?_
       refine RS.p (Pu.move rfl) rfl rfl ?_
       refine RS.joinB H 2 116 (fun b25 => .bool b25) [] trivial ?_ ?_
       ·intro b25 H
        refine RS.p (Pu.assign rfl) rfl rfl ?_
        refine RS.nil (hK19 _ _ ?_)
        obtain rfl := Option.some.inj H
        refine T.retTo (by with_reducible ((repeat (first | apply RetTo.seq | apply RetTo.blk)); exact RetTo.refl _)) (Cont.ret1 rfl rfl fun w' s => ?_)
        exact ⟨rfl, s.ext⟩
       ·intro z26 H hJ24
        refine RS.splitP 114 rfl (fun hc23 => ?_) (fun hc23 => ?_)
        ·have H := ifT hc23 H
         obtain ⟨x27, hx27, H⟩ := bindE H
         refine RS.q (Qt.call (vs := []) ent27 rfl fun w s => thronglaw27_wakes_walk  w  hx27) rfl rfl ?_
         refine RS.p (Pu.pickT rfl rfl) rfl rfl ?_
         obtain rfl := Option.some.inj H
         exact hJ24 _ _ ⟨rfl, trivial⟩ (fun w s => s)
        ·have H := ifF hc23 H
         refine RS.no rfl rfl ?_
         refine RS.p (Pu.pickF rfl rfl) rfl rfl ?_
         obtain rfl := Option.some.inj H
         exact hJ24 _ _ ⟨rfl, trivial⟩ (fun w s => s)
      ·intro z22 hz22 HX22 hJ22
       refine T.block ?_
       refine T.loopA (γ := Unit) hz22 [(3, _), (6, _)] (fun v28 _ => [(10, .int .i64 v28)]) (fun v28 _ => Sat w [blk b1 [.slice p0 a0_p.l.length c0, .slice p1 a0_p.more.length c1, .slice p2 a0_p.ts.length c2] 38, drow 54 (rowV q5 x4.1.length) x4.1, rowG (FB (hpOf w)) 50 (rowV q10 v9.length) v9, drow 54 (rowV q12 x11.1.length) x11.1]) () ⟨rfl, rfl, trivial⟩ ⟨rfl, trivial⟩ (fun w s => s) ?_
       rintro v28 ⟨⟩ y29 H hd22 KL22 hL22
       try dsimp only [Ex.then] at H
       refine T.conseq (fr' := [(10, _), (3, _), (6, _)]) ?_ ⟨rfl, rfl, rfl, trivial⟩ (fun _ s => s)
       refine T.seq fun K20 hK20 => ?_
       refine T.seq fun K21 hK21 => ?_
       refine T.region ?_
       refine RS.p (Pu.move rfl) rfl rfl ?_
       refine RS.p (Pu.move rfl) rfl rfl ?_
       refine RS.p (Pu.lenSl sl41 rfl) rfl rfl ?_
       refine RS.p (Pu.bin rfl rfl rfl) rfl rfl ?_
       refine RS.nil (hK21 _ _ ?_)
       refine T.condP rfl (fun hc30 => ?_) (fun hc30 => ?_)
       ·have H := ifT hc30 H
        refine T.skip (hK20 _ _ (T.conseq (fr' := [(3, _), (6, _), (10, _)]) ?_ ⟨rfl, rfl, rfl, trivial⟩ (fun _ s => s)))
        refine T.seq fun K22 hK22 => ?_
        refine T.block ?_
        refine T.seq fun K23 hK23 => ?_
        refine T.drawn (fun _ => True) [(0, .pu), (1, .pu), (2, .pu), (3, .pu), (4, .pu), (5, .rd), (6, .pu), (7, .pu), (8, .pu), (9, .pu), (10, .rd), (11, .pu), (12, .pu), (13, .pu), (14, .pu), (15, .pu), (16, .pu), (17, .pu), (18, .rd), (19, .pu), (20, .pu), (21, .pu), (22, .pu), (23, .rd), (24, .pu), (25, .pu), (26, .pu), (27, .pu), (28, .pu), (29, .pu), (30, .pu), (31, .rd), (32, .pu), (33, .pu), (34, .pu), (35, .pu), (36, .rd), (37, .pu), (38, .pu), (39, .pu)] mixed (ClE.sat _ _) (by kernel_rfl) ?_
        refine RD.p (fun _ _ => trivial) rfl (Pu.move rfl) rfl rfl ?_
        refine RD.p (fun _ _ => trivial) rfl (Pu.move rfl) rfl rfl ?_
        obtain ⟨g31, H⟩ := gdE H
        refine RD.p (fun _ _ => trivial) rfl (Pu.subS rfl rfl g31) rfl rfl ?_
        obtain ⟨g32, H⟩ := gdE H
        refine RD.know (p := ∃ g cap, q5 = (some g, cap)) (fun w s => (s.row_someG (k := 1) rfl (pos_of g32))) ?_
        rintro ⟨gg33, cc34, rfl⟩
        refine RD.p (fun _ _ => trivial) rfl (Pu.indexSl sl41 rfl rfl g32) rfl rfl ?_
        refine RD.p (fun _ _ => trivial) rfl (Pu.fieldAddr fd54_0 rfl) rfl rfl ?_
        refine RD.q (fun _ _ => trivial) rfl (Qt.ldF (α := Cmd) (Rd.ofG 1 rfl) ty3 rfl rfl g32 (by rintro _ _ ⟨_, rfl, _⟩; rfl)) rfl rfl ?_
        refine RD.p (fun _ _ => trivial) rfl (Pu.move rfl) rfl rfl ?_
        refine RD.p (fun _ _ => trivial) rfl (Pu.move rfl) rfl rfl ?_
        obtain ⟨g35, H⟩ := gdE H
        refine RD.p (fun _ _ => trivial) rfl (Pu.indexSl sl41 rfl rfl g35) rfl rfl ?_
        refine RD.p (fun _ _ => trivial) rfl (Pu.fieldAddr fd54_0 rfl) rfl rfl ?_
        refine RD.q (fun _ _ => trivial) rfl (Qt.ldF (α := Cmd) (Rd.ofG 1 rfl) ty3 rfl rfl g35 (by rintro _ _ ⟨_, rfl, _⟩; rfl)) rfl rfl ?_
        refine RD.p (fun _ _ => trivial) rfl (Pu.bin rfl rfl rfl) rfl rfl ?_
        refine RD.p (fun _ _ => trivial) rfl (Pu.move rfl) rfl rfl ?_
        obtain ⟨g38, H⟩ := gdE H
        obtain ⟨g39, H⟩ := gdE H
        obtain ⟨g40, H⟩ := gdE H
        obtain ⟨g41, H⟩ := gdE H
        obtain ⟨g42, H⟩ := gdE H
        obtain ⟨g43, H⟩ := gdE H
        refine RD.joinV 27 109 (.bool (decide (((gi x4.1 v28).player < (gi x4.1 (v28 - 1)).player) ∨ (((gi x4.1 (v28 - 1)).player = (gi x4.1 v28).player) ∧ ((gi x4.1 v28).seq ≤ (gi x4.1 (v28 - 1)).seq))))) [(3, _), (6, _), (10, _)] ⟨rfl, rfl, rfl, trivial⟩ ?_ ?_
        ·refine RD.nil (hK23 _ _ ?_)
         refine T.condP rfl (fun hc44 => ?_) (fun hc44 => ?_)
         ·have H := ifT hc44 H
          refine T.conseq (fr' := []) ?_ trivial (fun _ s => s)
          refine T.seq fun K24 hK24 => ?_
          refine T.region ?_
          refine RS.p (Pu.assign rfl) rfl rfl ?_
          refine RS.nil (hK24 _ _ ?_)
          obtain rfl := hd22 _ H
          have H := HX22
          obtain rfl := Option.some.inj H
          refine T.retTo (by with_reducible ((repeat (first | apply RetTo.seq | apply RetTo.blk)); exact RetTo.refl _)) (Cont.ret1 rfl rfl fun w' s => ?_)
          exact ⟨rfl, s.ext⟩
         ·have H := ifF hc44 H
          refine T.skip (hK22 _ _ ?_)
          refine T.region ?_
          refine RS.p (Pu.move rfl) rfl rfl ?_
          obtain ⟨g45, H⟩ := gdE H
          refine RS.p (Pu.addS rfl rfl g45) rfl rfl ?_
          refine RS.p (Pu.assign rfl) rfl rfl ?_
          refine RS.nil (hL22 _ _ (v28 + 1) () H ⟨rfl, rfl, trivial⟩ ⟨rfl, trivial⟩ (fun w s => s))
        ·intro hJ37
         refine RD.splitP 82 rfl (fun hc36 => ?_) (fun hc36 => ?_)
         ·refine RD.no (fun _ _ => trivial) rfl rfl rfl (.inl rfl) ?_
          refine RD.no (fun _ _ => trivial) rfl rfl rfl (.inl rfl) ?_
          refine RD.no (fun _ _ => trivial) rfl rfl rfl (.inl rfl) ?_
          refine RD.no (fun _ _ => trivial) rfl rfl rfl (.inl rfl) ?_
          refine RD.no (fun _ _ => trivial) rfl rfl rfl (.inl rfl) ?_
          refine RD.no (fun _ _ => trivial) rfl rfl rfl (.inr (.inr rfl)) ?_
          refine RD.no (fun _ _ => trivial) rfl rfl rfl (.inl rfl) ?_
          refine RD.no (fun _ _ => trivial) rfl rfl rfl (.inl rfl) ?_
          refine RD.no (fun _ _ => trivial) rfl rfl rfl (.inl rfl) ?_
          refine RD.no (fun _ _ => trivial) rfl rfl rfl (.inl rfl) ?_
          refine RD.no (fun _ _ => trivial) rfl rfl rfl (.inr (.inr rfl)) ?_
          refine RD.no (fun _ _ => trivial) rfl rfl rfl (.inl rfl) ?_
          refine RD.no (fun _ _ => trivial) rfl rfl rfl (.inl rfl) ?_
          refine RD.no (fun _ _ => trivial) rfl rfl rfl (.inl rfl) ?_
          refine RD.no (fun _ _ => trivial) rfl rfl rfl (.inl rfl) ?_
          refine RD.no (fun _ _ => trivial) rfl rfl rfl (.inl rfl) ?_
          refine RD.no (fun _ _ => trivial) rfl rfl rfl (.inl rfl) ?_
          refine RD.no (fun _ _ => trivial) rfl rfl rfl (.inl rfl) ?_
          refine RD.no (fun _ _ => trivial) rfl rfl rfl (.inr (.inr rfl)) ?_
          refine RD.no (fun _ _ => trivial) rfl rfl rfl (.inl rfl) ?_
          refine RD.no (fun _ _ => trivial) rfl rfl rfl (.inl rfl) ?_
          refine RD.no (fun _ _ => trivial) rfl rfl rfl (.inl rfl) ?_
          refine RD.no (fun _ _ => trivial) rfl rfl rfl (.inl rfl) ?_
          refine RD.no (fun _ _ => trivial) rfl rfl rfl (.inr (.inr rfl)) ?_
          refine RD.no (fun _ _ => trivial) rfl rfl rfl (.inl rfl) ?_
          refine RD.no (fun _ _ => trivial) rfl rfl rfl (.inl rfl) ?_
          refine RD.p (fun _ _ => trivial) rfl (Pu.pickT rfl rfl) rfl rfl ?_
          exact hJ37 _ ⟨dOrT hc36, rfl, rfl, rfl, trivial⟩
         ·refine RD.p (fun _ _ => trivial) rfl (Pu.move rfl) rfl rfl ?_
          refine RD.p (fun _ _ => trivial) rfl (Pu.move rfl) rfl rfl ?_
          refine RD.p (fun _ _ => trivial) rfl (Pu.subS rfl rfl (g38 hc36)) rfl rfl ?_
          refine RD.p (fun _ _ => trivial) rfl (Pu.indexSl sl41 rfl rfl (g39 hc36)) rfl rfl ?_
          refine RD.p (fun _ _ => trivial) rfl (Pu.fieldAddr fd54_0 rfl) rfl rfl ?_
          refine RD.q (fun _ _ => trivial) rfl (Qt.ldF (α := Cmd) (Rd.ofG 1 rfl) ty3 rfl rfl (g39 hc36) (by rintro _ _ ⟨_, rfl, _⟩; rfl)) rfl rfl ?_
          refine RD.p (fun _ _ => trivial) rfl (Pu.move rfl) rfl rfl ?_
          refine RD.p (fun _ _ => trivial) rfl (Pu.move rfl) rfl rfl ?_
          refine RD.p (fun _ _ => trivial) rfl (Pu.indexSl sl41 rfl rfl (g40 hc36)) rfl rfl ?_
          refine RD.p (fun _ _ => trivial) rfl (Pu.fieldAddr fd54_0 rfl) rfl rfl ?_
          refine RD.q (fun _ _ => trivial) rfl (Qt.ldF (α := Cmd) (Rd.ofG 1 rfl) ty3 rfl rfl (g40 hc36) (by rintro _ _ ⟨_, rfl, _⟩; rfl)) rfl rfl ?_
          refine RD.p (fun _ _ => trivial) rfl (Pu.bin rfl rfl rfl) rfl rfl ?_
          refine RD.p (fun _ _ => trivial) rfl (Pu.move rfl) rfl rfl ?_
          refine RD.joinV 13 108 (.bool (decide (((gi x4.1 (v28 - 1)).player = (gi x4.1 v28).player) ∧ ((gi x4.1 v28).seq ≤ (gi x4.1 (v28 - 1)).seq)))) [(3, _), (6, _), (10, _), (70, _), (71, _), (72, _), (73, _), (74, _), (75, _), (76, _), (77, _), (78, _), (79, _), (80, _), (81, _), (82, _), (83, _), (84, _), (85, _), (86, _), (87, _), (88, _), (89, _), (90, _), (91, _), (92, _), (93, _), (94, _)] ⟨rfl, rfl, rfl, rfl, rfl, rfl, rfl, rfl, rfl, rfl, rfl, rfl, rfl, rfl, rfl, rfl, rfl, rfl, rfl, rfl, rfl, rfl, rfl, rfl, rfl, rfl, rfl, rfl, trivial⟩ ?_ ?_
          ·refine RD.p (fun _ _ => trivial) rfl (Pu.pickF rfl rfl) rfl rfl ?_
           exact hJ37 _ ⟨dOrF hc36, rfl, rfl, rfl, trivial⟩
          ·intro hJ47
           refine RD.splitP 95 rfl (fun hc46 => ?_) (fun hc46 => ?_)
           ·refine RD.p (fun _ _ => trivial) rfl (Pu.move rfl) rfl rfl ?_
            refine RD.p (fun _ _ => trivial) rfl (Pu.move rfl) rfl rfl ?_
            refine RD.p (fun _ _ => trivial) rfl (Pu.subS rfl rfl ((g41 hc36) hc46)) rfl rfl ?_
            refine RD.p (fun _ _ => trivial) rfl (Pu.indexSl sl41 rfl rfl ((g42 hc36) hc46)) rfl rfl ?_
            refine RD.p (fun _ _ => trivial) rfl (Pu.fieldAddr fd54_1 rfl) rfl rfl ?_
            refine RD.q (fun _ _ => trivial) rfl (Qt.ldF (α := Cmd) (Rd.ofG 1 rfl) ty3 rfl rfl ((g42 hc36) hc46) (by rintro _ _ ⟨_, rfl, _⟩; rfl)) rfl rfl ?_
            refine RD.p (fun _ _ => trivial) rfl (Pu.move rfl) rfl rfl ?_
            refine RD.p (fun _ _ => trivial) rfl (Pu.move rfl) rfl rfl ?_
            refine RD.p (fun _ _ => trivial) rfl (Pu.indexSl sl41 rfl rfl ((g43 hc36) hc46)) rfl rfl ?_
            refine RD.p (fun _ _ => trivial) rfl (Pu.fieldAddr fd54_1 rfl) rfl rfl ?_
            refine RD.q (fun _ _ => trivial) rfl (Qt.ldF (α := Cmd) (Rd.ofG 1 rfl) ty3 rfl rfl ((g43 hc36) hc46) (by rintro _ _ ⟨_, rfl, _⟩; rfl)) rfl rfl ?_
            refine RD.p (fun _ _ => trivial) rfl (Pu.bin rfl rfl rfl) rfl rfl ?_
            refine RD.p (fun _ _ => trivial) rfl (Pu.pickT rfl rfl) rfl rfl ?_
            exact hJ47 _ ⟨dAndT hc46, rfl, rfl, rfl, rfl, rfl, rfl, rfl, rfl, rfl, rfl, rfl, rfl, rfl, rfl, rfl, rfl, rfl, rfl, rfl, rfl, rfl, rfl, rfl, rfl, rfl, rfl, rfl, rfl, trivial⟩
           ·refine RD.no (fun _ _ => trivial) rfl rfl rfl (.inl rfl) ?_
            refine RD.no (fun _ _ => trivial) rfl rfl rfl (.inl rfl) ?_
            refine RD.no (fun _ _ => trivial) rfl rfl rfl (.inl rfl) ?_
            refine RD.no (fun _ _ => trivial) rfl rfl rfl (.inl rfl) ?_
            refine RD.no (fun _ _ => trivial) rfl rfl rfl (.inl rfl) ?_
            refine RD.no (fun _ _ => trivial) rfl rfl rfl (.inr (.inr rfl)) ?_
            refine RD.no (fun _ _ => trivial) rfl rfl rfl (.inl rfl) ?_
            refine RD.no (fun _ _ => trivial) rfl rfl rfl (.inl rfl) ?_
            refine RD.no (fun _ _ => trivial) rfl rfl rfl (.inl rfl) ?_
            refine RD.no (fun _ _ => trivial) rfl rfl rfl (.inl rfl) ?_
            refine RD.no (fun _ _ => trivial) rfl rfl rfl (.inr (.inr rfl)) ?_
            refine RD.no (fun _ _ => trivial) rfl rfl rfl (.inl rfl) ?_
            refine RD.p (fun _ _ => trivial) rfl (Pu.pickF rfl rfl) rfl rfl ?_
            exact hJ47 _ ⟨dAndF hc46, rfl, rfl, rfl, rfl, rfl, rfl, rfl, rfl, rfl, rfl, rfl, rfl, rfl, rfl, rfl, rfl, rfl, rfl, rfl, rfl, rfl, rfl, rfl, rfl, rfl, rfl, rfl, rfl, trivial⟩
       ·have H := ifF hc30 H
        obtain rfl := hd22 _ H
        refine T.exitTo (by with_reducible (repeat (first | exact ExTo.here | exact ExTo.hereN | exact ExTo.deep (by repeat (first | exact NmTo.seq | apply NmTo.blk)) | apply ExTo.seq | refine ExTo.past (by decide) ?_))) (hJ22 _ _ () () HX22 ⟨rfl, rfl, trivial⟩ trivial (fun w s => s))
   ·intro z48 H hJ16
    refine RS.splitP 54 rfl (fun hc15 => ?_) (fun hc15 => ?_)
    ·have H := ifT hc15 H
     refine RS.no rfl rfl ?_
     refine RS.no rfl rfl ?_
     refine RS.no rfl rfl ?_
     refine RS.no rfl rfl ?_
     refine RS.p (Pu.pickT rfl rfl) rfl rfl ?_
     obtain rfl := Option.some.inj H
     exact hJ16 _ _ ⟨rfl, rfl, rfl, rfl, trivial⟩ (fun w s => s)
    ·have H := ifF hc15 H
     refine RS.p (Pu.move rfl) rfl rfl ?_
     refine RS.p (Pu.move rfl) rfl rfl ?_
     obtain ⟨x49, hx49, H⟩ := bindE H
     refine RS.q (Qt.call (vs := [rowV q5 x4.1.length, rowV q12 x11.1.length]) ent24 rfl fun w s => throngref0_EqCommands_walk x4.1 x11.1 w ((Rd.ofG 1 rfl) w s) ((Rd.ofG 3 rfl) w s) hx49) rfl rfl ?_
     refine RS.p (Pu.not rfl) rfl rfl ?_
     refine RS.p (Pu.pickF rfl rfl) rfl rfl ?_
     obtain rfl := Option.some.inj H
     exact hJ16 _ _ ⟨rfl, rfl, rfl, rfl, trivial⟩ (fun w s => s)
  ·intro z7 hz7 HX7 hJ7
   refine T.block ?_
   refine T.loopA (γ := (Option Nat × Nat)) hz7 [(1, _), (3, _), (4, _)] (fun (l50, v52, v53) q51 => [(5, rowV q51 l50.length), (6, .int .i64 v52), (7, .int .i64 v53)]) (fun (l50, v52, v53) q51 => Sat w [blk b1 [.slice p0 a0_p.l.length c0, .slice p1 a0_p.more.length c1, .slice p2 a0_p.ts.length c2] 38, drow 54 (rowV q5 x4.1.length) x4.1, rowG (FB (hpOf w)) 50 (rowV q51 l50.length) l50]) (none, 0) ⟨rfl, rfl, rfl, trivial⟩ ⟨rfl, rfl, rfl, trivial⟩ (fun w s => (s.nilRowB (α := Inp) (B := (hpOf w)) 50).pick [0, 1, 2] (by decide) rfl) ?_
   rintro ⟨l50, v52, v53⟩ q51 y54 H hd7 KL7 hL7
   try dsimp only [Ex.then] at H
   refine T.conseq (fr' := [(5, _), (6, _), (7, _), (1, _), (3, _), (4, _)]) ?_ ⟨rfl, rfl, rfl, rfl, rfl, rfl, trivial⟩ (fun _ s => s)
   refine T.seq fun K25 hK25 => ?_
   refine T.seq fun K26 hK26 => ?_
   refine T.region ?_
   refine RS.p (Pu.move rfl) rfl rfl ?_
   refine RS.p (Pu.bin rfl rfl rfl) rfl rfl ?_
   refine RS.nil (hK26 _ _ ?_)
   refine T.condP rfl (fun hc55 => ?_) (fun hc55 => ?_)
   ·have H := ifT hc55 H
    refine T.skip (hK25 _ _ ?_)
    refine T.seq fun K27 hK27 => ?_
    refine T.block ?_
    refine T.seq fun K28 hK28 => ?_
    refine T.region ?_
    refine RS.p (Pu.move rfl) rfl rfl ?_
    refine RS.p (Pu.fieldAddr fd38_1 rfl) rfl rfl ?_
    refine RS.q (Qt.ldB 0 ty24 rfl rfl rfl) rfl rfl ?_
    refine RS.p (Pu.move rfl) rfl rfl ?_
    obtain ⟨g56, H⟩ := gdE H
    obtain ⟨bl57, ol58, rfl⟩ := R_ptr h1 (ne_of_pos (pos_of g56))
    refine RS.p (Pu.indexSl sl24 rfl rfl g56) rfl rfl ?_
    obtain ⟨c59, hc60, ha61⟩ := R_el (α := Inp) h1 g56
    obtain ⟨u62, rfl, hu62⟩ := hc60
    obtain ⟨p63, cc64, rfl⟩ := R_form hu62
    refine RS.q (Qt.ldZ (cs := [_, _, _]) ty50 rfl ha61 Held.base rfl) rfl rfl ?_
    refine RS.solid (Sd.litS (cs := [_, _, _]) sl24 zr50 rfl rfl rfl rfl rfl) rfl rfl fun b65 => ?_
    obtain ⟨g67, H⟩ := gdE H
    refine RS.solid (Sd.appBs (α := Inp) 2 3 ([(gi a0_p.more v53)] : List Inp) rfl rfl ⟨[_, _, _], _, rfl, ⟨_, rfl, hu62⟩, rfl⟩ sl24 zr50 rfl rfl rfl rfl g67 (by decide)) rfl rfl fun q66 => ?_
    refine RS.p (Pu.assign rfl) rfl rfl ?_
    refine RS.nil (hK28 _ _ (T.conseq (fr' := [(1, _), (3, _), (4, _), (5, _), (6, _), (7, _)]) ?_ ⟨rfl, rfl, rfl, rfl, rfl, rfl, trivial⟩ (fun _ s => s)))
    refine T.region ?_
    refine RS.p (Pu.move rfl) rfl rfl ?_
    refine RS.p (Pu.fieldAddr fd38_1 rfl) rfl rfl ?_
    refine RS.q (Qt.ldB 0 ty24 rfl rfl rfl) rfl rfl ?_
    refine RS.p (Pu.move rfl) rfl rfl ?_
    obtain ⟨g68, H⟩ := gdE H
    refine RS.p (Pu.indexSl sl24 rfl rfl g68) rfl rfl ?_
    refine RS.p (Pu.fieldAddr fd50_2 rfl) rfl rfl ?_
    obtain ⟨c69, hc70, ha71⟩ := R_el (α := Inp) h1 g68
    obtain ⟨u72, rfl, hu72⟩ := hc70
    obtain ⟨p73, cc74, rfl⟩ := R_form hu72
    refine RS.q (Qt.ldZ1 (cs := [_, _, _]) ty41 rfl ha71 Held.base rfl) rfl rfl ?_
    refine RS.p (Pu.lenSl sl41 rfl) rfl rfl ?_
    obtain ⟨g75, H⟩ := gdE H
    refine RS.p (Pu.addS rfl rfl g75) rfl rfl ?_
    refine RS.p (Pu.assign rfl) rfl rfl ?_
    refine RS.nil (hK27 _ _ (T.conseq (fr' := [(1, _), (3, _), (4, _), (5, _), (6, _), (7, _)]) ?_ ⟨rfl, rfl, rfl, rfl, rfl, rfl, trivial⟩ (fun _ s => s)))
    refine T.region ?_
    refine RS.p (Pu.move rfl) rfl rfl ?_
    obtain ⟨g76, H⟩ := gdE H
    refine RS.p (Pu.subS rfl rfl g76) rfl rfl ?_
    refine RS.p (Pu.assign rfl) rfl rfl ?_
    refine RS.nil (hL7 _ _ ((l50 ++ ([(gi a0_p.more v53)] : List Inp)), (v52 + (((gi a0_p.more v53).commands).length : Int)), (v53 - 1)) q66 H ⟨rfl, rfl, rfl, trivial⟩ ⟨rfl, rfl, rfl, trivial⟩ (fun w s => s.pick [0, 1, 2] (by decide) rfl))
   ·have H := ifF hc55 H
    obtain rfl := hd7 _ H
    refine T.exitTo (by with_reducible (repeat (first | exact ExTo.here | exact ExTo.hereN | exact ExTo.deep (by repeat (first | exact NmTo.seq | apply NmTo.blk)) | apply ExTo.seq | refine ExTo.past (by decide) ?_))) (hJ7 _ _ (v52, l50) q51 HX7 ⟨rfl, rfl, trivial⟩ ⟨rfl, rfl, trivial⟩ (fun w s => s))
end Go.Proofs.Ytlpmiledfcblfaa
