/-
  Walk of TurnsMerges.
-/
import Derived.Test.YtlpmiledfcblfaaRows
import Derived.Test.YtlpmiledfcblfaaTK
import Derived.Test.YtlpmiledfcblfaaTG2
set_option linter.unusedVariables false
set_option linter.unusedSimpArgs false
set_option maxRecDepth 20000
set_option maxHeartbeats 4000000
namespace Go.Proofs.Ytlpmiledfcblfaa
open Go.Vg
open Enc (R)
theorem ent19 : Ent Try.prog 19 := ⟨_, _, Try.func19, by kernel_rfl, rfl⟩
theorem ent22 : Ent Try.prog 22 := ⟨_, _, Try.func22, by kernel_rfl, rfl⟩
theorem ent25 : Ent Try.prog 25 := ⟨_, _, Try.func25, by kernel_rfl, rfl⟩
theorem ent27 : Ent Try.prog 27 := ⟨_, _, Try.func27, by kernel_rfl, rfl⟩
theorem ty38 : tySz Try.prog 38 = some (3, true) := by kernel_rfl
theorem ul4 : Try.prog.underlying 4 = some .bool := by kernel_rfl
theorem thronglaw27_TurnsMerges_walk (a0_p : Ask27) (w : World) {v0 v1 v2 : Value} (h0 : R (hpOf w) a0_p.l [v0]) (h1 : R (hpOf w) a0_p.more [v1]) (h2 : R (hpOf w) a0_p.ts [v2]) {r : Bool} (H : thronglaw27_TurnsMerges a0_p = some r) : Calls Try.prog 4 #[.agg #[v0, v1, v2]] w fun e w' => e = .returned (.bool r) ∧ Ext w w' := by
 have hm0 := R_max h0
 obtain ⟨p0, c0, rfl⟩ := R_form h0
 have hm1 := R_max h1
 obtain ⟨p1, c1, rfl⟩ := R_form h1
 have hm2 := R_max h2
 obtain ⟨p2, c2, rfl⟩ := R_form h2
 unfold thronglaw27_TurnsMerges at H
 refine T.enter (args := [_]) (S := Sat w []) Try.func4 rfl rfl (Sat.start w) ?_
 refine T.seq fun K1 hK1 => ?_
 refine T.region ?_
 refine RS.solid (Sd.box (cs := [_, _, _]) rfl rfl) rfl rfl fun b1 => ?_
 refine RS.p (Pu.assign rfl) rfl rfl ?_
 refine RS.nil (hK1 _ _ ?_)
 refine T.seq fun K2 hK2 => ?_
 refine T.seq fun K3 hK3 => ?_
 refine T.region ?_
 refine RS.q (Qt.ldBA (us := [_, _, _]) 0 ty38 rfl rfl rfl rfl) rfl rfl ?_
 obtain ⟨x2, hx2, H⟩ := bindE H
 refine RS.q (Qt.call (vs := [.agg #[.slice p0 a0_p.l.length c0, .slice p1 a0_p.more.length c1, .slice p2 a0_p.ts.length c2]]) ent19 rfl fun w s => thronglaw27_heavy_walk a0_p w ((Rd.base h0) w s) ((Rd.base h1) w s) ((Rd.base h2) w s) hx2) rfl rfl ?_
 refine RS.nil (hK3 _ _ ?_)
 refine T.cond rfl (fun hc3 => ?_) (fun hc3 => ?_)
 ·have H := ifT hc3 H
  refine T.conseq (fr' := []) ?_ trivial (fun _ s => s)
  refine T.seq fun K4 hK4 => ?_
  refine T.region ?_
  refine RS.p (Pu.assign rfl) rfl rfl ?_
  refine RS.nil (hK4 _ _ ?_)
  obtain rfl := Option.some.inj H
  refine T.retTo (by with_reducible ((repeat (first | apply RetTo.seq | apply RetTo.blk)); exact RetTo.refl _)) (Cont.ret1 rfl rfl fun w' s => ?_)
  exact ⟨rfl, s.ext⟩
 ·have H := ifB hc3 H
  refine T.skip (hK2 _ _ (T.conseq (fr' := [(1, _)]) ?_ ⟨rfl, trivial⟩ (fun _ s => s)))
  refine T.seq fun K5 hK5 => ?_
  refine T.seq fun K6 hK6 => ?_
  refine T.region ?_
  refine RS.p (Pu.assign rfl) rfl rfl ?_
  refine RS.nil (hK6 _ _ ?_)
  refine T.joinE (σ := Unit) (γ := Unit) H Ex.go [] trivial (fun _ _ => []) (fun _ _ => Sat w [blk b1 [.slice p0 a0_p.l.length c0, .slice p1 a0_p.more.length c1, .slice p2 a0_p.ts.length c2] 38]) ?_ ?_
  ·rintro ⟨⟩ ⟨⟩ H
   try dsimp only [Ex.then] at H
   refine Cont.conseq (fr' := []) ?_ trivial (fun _ s => s)
   refine id (hK5 _ _ ?_)
   refine T.seq fun K7 hK7 => ?_
   refine T.region ?_
   obtain ⟨x5, hx5, H⟩ := bindE H
   refine RS.q (Qt.call (vs := []) ent27 rfl fun w s => thronglaw27_wakes_walk  w  hx5) rfl rfl ?_
   refine RS.p (Pu.assign rfl) rfl rfl ?_
   refine RS.nil (hK7 _ _ ?_)
   obtain rfl := Option.some.inj H
   refine T.retTo (by with_reducible ((repeat (first | apply RetTo.seq | apply RetTo.blk)); exact RetTo.refl _)) (Cont.ret1 rfl rfl fun w' s => ?_)
   exact ⟨rfl, s.ext⟩
  ·intro z4 hz4 HX4 hJ4
   refine T.block ?_
   refine T.loopA (γ := Unit) hz4 [(1, _)] (fun v6 _ => [(3, .int .i64 v6)]) (fun v6 _ => Sat w [blk b1 [.slice p0 a0_p.l.length c0, .slice p1 a0_p.more.length c1, .slice p2 a0_p.ts.length c2] 38]) () ⟨rfl, trivial⟩ ⟨rfl, trivial⟩ (fun w s => s) ?_
   rintro v6 ⟨⟩ y7 H hd4 KL4 hL4
   try dsimp only [Ex.then] at H
   refine T.conseq (fr' := [(3, _), (1, _)]) ?_ ⟨rfl, rfl, trivial⟩ (fun _ s => s)
   refine T.seq fun K8 hK8 => ?_
   refine T.seq fun K9 hK9 => ?_
   refine T.region ?_
   refine RS.p (Pu.move rfl) rfl rfl ?_
   refine RS.p (Pu.fieldAddr fd38_1 rfl) rfl rfl ?_
   refine RS.q (Qt.ldB 0 ty24 rfl rfl rfl) rfl rfl ?_
   refine RS.p (Pu.lenSl sl24 rfl) rfl rfl ?_
   refine RS.p (Pu.bin rfl rfl rfl) rfl rfl ?_
   refine RS.p (Pu.move rfl) rfl rfl ?_
   refine RS.joinV 3 19 (.bool (decide ((v6 ≤ (a0_p.more.length : Int)) ∧ (v6 < 8)))) [(1, _), (3, _)] ⟨rfl, rfl, trivial⟩ ?_ ?_
   ·refine RS.nil (hK9 _ _ ?_)
    refine T.condP rfl (fun hc10 => ?_) (fun hc10 => ?_)
    ·have H := ifT hc10 H
     refine T.skip (hK8 _ _ ?_)
     refine T.seq fun K10 hK10 => ?_
     refine T.block ?_
     refine T.seq fun K11 hK11 => ?_
     refine T.region ?_
     refine RS.p (Pu.fieldAddr fd38_1 rfl) rfl rfl ?_
     refine RS.q (Qt.ldB 0 ty24 rfl rfl rfl) rfl rfl ?_
     refine RS.p (Pu.move rfl) rfl rfl ?_
     obtain ⟨g11, H⟩ := gdE H
     refine RS.p (Pu.sliceH sl24 rfl rfl (le_cap g11 (R_len h1).2.1)) rfl rfl ?_
     obtain ⟨x12, hx12, H⟩ := bindE H
     refine RS.solid (Sd.callN (vs := [.slice p1 (v6.toNat) c1]) ent20 rfl (fun w s => throngref0_CopyInputs_walk (a0_p.more.take v6.toNat) w ((Rd.take (Rd.base h1) (le_nat g11)) w s) hx12)) rfl rfl fun q13 => ?_
     refine RS.p (Pu.assign rfl) rfl rfl ?_
     refine RS.nil (hK11 _ _ (T.conseq (fr' := [(1, _), (3, _), (4, _)]) ?_ ⟨rfl, rfl, rfl, trivial⟩ (fun _ s => s)))
     refine T.seq fun K12 hK12 => ?_
     refine T.region ?_
     refine RS.p (Pu.move rfl) rfl rfl ?_
     obtain ⟨x14, hx14, H⟩ := bindE H
     refine RS.solid (Sd.callN (vs := [rowV q13 x12.length]) ent21 rfl (fun w s => turns_Merge_walk x12 w ((Rd.ofG 1 rfl) w s) hx14)) rfl rfl fun q15 => ?_
     refine RS.p (Pu.move rfl) rfl rfl ?_
     refine RS.p (Pu.extract rfl rfl) rfl rfl ?_
     refine RS.p (Pu.extract rfl rfl) rfl rfl ?_
     refine RS.p (Pu.assign rfl) rfl rfl ?_
     refine RS.p (Pu.assign rfl) rfl rfl ?_
     refine RS.nil (hK12 _ _ (T.conseq (fr' := [(1, _), (3, _), (4, _), (5, _), (6, _)]) ?_ ⟨rfl, rfl, rfl, rfl, rfl, trivial⟩ (fun _ s => s)))
     refine T.seq fun K13 hK13 => ?_
     refine T.region ?_
     refine RS.p (Pu.fieldAddr fd38_1 rfl) rfl rfl ?_
     refine RS.q (Qt.ldB 0 ty24 rfl rfl rfl) rfl rfl ?_
     refine RS.p (Pu.move rfl) rfl rfl ?_
     obtain ⟨g16, H⟩ := gdE H
     refine RS.p (Pu.sliceH sl24 rfl rfl (le_cap g16 (R_len h1).2.1)) rfl rfl ?_
     obtain ⟨x17, hx17, H⟩ := bindE H
     refine RS.solid (Sd.callN (vs := [.slice p1 (v6.toNat) c1]) ent22 rfl (fun w s => throngref27_Merge_walk (a0_p.more.take v6.toNat) w ((Rd.take (Rd.base h1) (le_nat g16)) w s) hx17)) rfl rfl fun q18 => ?_
     refine RS.p (Pu.move rfl) rfl rfl ?_
     refine RS.p (Pu.extract rfl rfl) rfl rfl ?_
     refine RS.p (Pu.extract rfl rfl) rfl rfl ?_
     refine RS.p (Pu.assign rfl) rfl rfl ?_
     refine RS.p (Pu.assign rfl) rfl rfl ?_
     refine RS.nil (hK13 _ _ (T.conseq (fr' := [(1, _), (3, _), (4, _), (5, _), (6, _), (7, _), (8, _)]) ?_ ⟨rfl, rfl, rfl, rfl, rfl, rfl, rfl, trivial⟩ (fun _ s => s)))
     refine T.seq fun K14 hK14 => ?_
     refine T.seq fun K15 hK15 => ?_
     refine T.region ?_
     refine RS.p (Pu.move rfl) rfl rfl ?_
     refine RS.p (Pu.move rfl) rfl rfl ?_
     obtain ⟨x19, hx19, H⟩ := bindE H
     refine RS.q (Qt.call (vs := [.int .i64 x14.2]) ent23 rfl fun w s => thronglaw27_num_walk x14.2 w  hx19) rfl rfl ?_
     refine RS.p (Pu.bin rfl rfl rfl) rfl rfl ?_
     refine RS.p (Pu.neB ul4 rfl rfl) rfl rfl ?_
     refine RS.p (Pu.move rfl) rfl rfl ?_
     refine RS.joinB H 8 53 (fun b22 => .bool b22) [(1, _), (3, _), (4, _), (5, _), (7, _)] ⟨rfl, rfl, rfl, rfl, rfl, trivial⟩ ?_ ?_
     ·intro b22 H
      refine RS.p (Pu.move rfl) rfl rfl ?_
      refine RS.joinB H 5 59 (fun b25 => .bool b25) [(1, _), (3, _), (4, _), (5, _)] ⟨rfl, rfl, rfl, rfl, trivial⟩ ?_ ?_
      ·intro b25 H
       refine RS.p (Pu.move rfl) rfl rfl ?_
       refine RS.joinB H 8 68 (fun b28 => .bool b28) [(1, _), (3, _), (4, _), (5, _)] ⟨rfl, rfl, rfl, rfl, trivial⟩ ?_ ?_
       ·intro b28 H
        refine RS.nil (hK15 _ _ ?_)
        refine T.cond rfl (fun hc29 => ?_) (fun hc29 => ?_)
        ·have H := ifT hc29 H
         refine T.conseq (fr' := []) ?_ trivial (fun _ s => s)
         refine T.seq fun K16 hK16 => ?_
         refine T.region ?_
         refine RS.p (Pu.assign rfl) rfl rfl ?_
         refine RS.nil (hK16 _ _ ?_)
         obtain rfl := hd4 _ H
         have H := HX4
         obtain rfl := Option.some.inj H
         refine T.retTo (by with_reducible ((repeat (first | apply RetTo.seq | apply RetTo.blk)); exact RetTo.refl _)) (Cont.ret1 rfl rfl fun w' s => ?_)
         exact ⟨rfl, s.ext⟩
        ·have H := ifB hc29 H
         refine T.skip (hK14 _ _ ?_)
         refine T.seq fun K17 hK17 => ?_
         refine T.region ?_
         refine RS.p (Pu.move rfl) rfl rfl ?_
         obtain ⟨x30, hx30, H⟩ := bindE H
         refine RS.solid (Sd.callF0 (vs := [rowV q15 x14.1.length]) (C' := dead) (v := .tuple #[]) 2 ent26 rfl rfl (fun w s => thronglaw0_Commands_walk x14.1 rfl  hx30 w s)) rfl rfl fun _ => ?_
         refine RS.nil (hK17 _ _ (T.conseq (fr' := [(1, _), (3, _), (4, _)]) ?_ ⟨rfl, rfl, rfl, trivial⟩ (fun _ s => s)))
         refine T.seq fun K18 hK18 => ?_
         refine T.region ?_
         refine RS.p (Pu.move rfl) rfl rfl ?_
         refine RS.p (Pu.fieldAddr fd38_1 rfl) rfl rfl ?_
         refine RS.q (Qt.ldB 0 ty24 rfl rfl rfl) rfl rfl ?_
         refine RS.p (Pu.move rfl) rfl rfl ?_
         obtain ⟨g31, H⟩ := gdE H
         refine RS.p (Pu.sliceH sl24 rfl rfl (le_cap g31 (R_len h1).2.1)) rfl rfl ?_
         obtain ⟨x32, hx32, H⟩ := bindE H
         refine RS.q (Qt.call (vs := [rowV q13 x12.length, .slice p1 (v6.toNat) c1]) ent25 rfl fun w s => throngref0_EqInputs_walk x12 (a0_p.more.take v6.toNat) w ((Rd.ofG 1 rfl) w s) ((Rd.take (Rd.base h1) (le_nat g31)) w s) hx32) rfl rfl ?_
         refine RS.p (Pu.not rfl) rfl rfl ?_
         refine RS.nil (hK18 _ _ ?_)
         refine T.cond rfl (fun hc33 => ?_) (fun hc33 => ?_)
         ·have H := ifT hc33 H
          refine T.conseq (fr' := []) ?_ trivial (fun _ s => s)
          refine T.seq fun K19 hK19 => ?_
          refine T.region ?_
          refine RS.p (Pu.assign rfl) rfl rfl ?_
          refine RS.nil (hK19 _ _ ?_)
          obtain rfl := hd4 _ H
          have H := HX4
          obtain rfl := Option.some.inj H
          refine T.retTo (by with_reducible ((repeat (first | apply RetTo.seq | apply RetTo.blk)); exact RetTo.refl _)) (Cont.ret1 rfl rfl fun w' s => ?_)
          exact ⟨rfl, s.ext⟩
         ·have H := ifB hc33 H
          refine T.skip (hK10 _ _ (T.conseq (fr' := [(1, _), (3, _)]) ?_ ⟨rfl, rfl, trivial⟩ (fun _ s => s)))
          refine T.region ?_
          refine RS.p (Pu.move rfl) rfl rfl ?_
          obtain ⟨g34, H⟩ := gdE H
          refine RS.p (Pu.addS rfl rfl g34) rfl rfl ?_
          refine RS.p (Pu.assign rfl) rfl rfl ?_
          refine RS.nil (hL4 _ _ (v6 + 1) () H ⟨rfl, trivial⟩ ⟨rfl, trivial⟩ (fun w s => s.pick [0] (by decide) rfl))
       ·intro z35 H hJ27
        refine RS.split 60 rfl (fun hc26 => ?_) (fun hc26 => ?_)
        ·have H := ifT hc26 H
         refine RS.no rfl rfl ?_
         refine RS.no rfl rfl ?_
         refine RS.no rfl rfl ?_
         refine RS.no rfl rfl ?_
         refine RS.no rfl rfl ?_
         refine RS.no rfl rfl ?_
         refine RS.no rfl rfl ?_
         refine RS.p (Pu.pickT rfl rfl) rfl rfl ?_
         obtain rfl := Option.some.inj H
         exact hJ27 _ _ ⟨rfl, rfl, rfl, rfl, rfl, trivial⟩ (fun w s => s)
        ·have H := ifB hc26 H
         refine RS.p (Pu.move rfl) rfl rfl ?_
         refine RS.p (Pu.fieldAddr fd38_1 rfl) rfl rfl ?_
         refine RS.q (Qt.ldB 0 ty24 rfl rfl rfl) rfl rfl ?_
         refine RS.p (Pu.move rfl) rfl rfl ?_
         obtain ⟨g36, H⟩ := gdE H
         refine RS.p (Pu.sliceH sl24 rfl rfl (le_cap g36 (R_len h1).2.1)) rfl rfl ?_
         obtain ⟨x37, hx37, H⟩ := bindE H
         refine RS.q (Qt.call (vs := [rowV q13 x12.length, .slice p1 (v6.toNat) c1]) ent25 rfl fun w s => throngref0_EqInputs_walk x12 (a0_p.more.take v6.toNat) w ((Rd.ofG 1 rfl) w s) ((Rd.take (Rd.base h1) (le_nat g36)) w s) hx37) rfl rfl ?_
         refine RS.p (Pu.not rfl) rfl rfl ?_
         refine RS.p (Pu.pickF rfl rfl) rfl rfl ?_
         obtain rfl := Option.some.inj H
         exact hJ27 _ _ ⟨rfl, rfl, rfl, rfl, rfl, trivial⟩ (fun w s => s)
      ·intro z38 H hJ24
       refine RS.split 54 rfl (fun hc23 => ?_) (fun hc23 => ?_)
       ·have H := ifT hc23 H
        refine RS.no rfl rfl ?_
        refine RS.no rfl rfl ?_
        refine RS.no rfl rfl ?_
        refine RS.no rfl rfl ?_
        refine RS.p (Pu.pickT rfl rfl) rfl rfl ?_
        obtain rfl := Option.some.inj H
        exact hJ24 _ _ ⟨rfl, rfl, rfl, rfl, rfl, trivial⟩ (fun w s => s)
       ·have H := ifB hc23 H
        refine RS.p (Pu.move rfl) rfl rfl ?_
        refine RS.p (Pu.move rfl) rfl rfl ?_
        obtain ⟨x39, hx39, H⟩ := bindE H
        refine RS.q (Qt.call (vs := [rowV q15 x14.1.length, rowV q18 x17.1.length]) ent24 rfl fun w s => throngref0_EqCommands_walk x14.1 x17.1 w ((Rd.ofG 2 rfl) w s) ((Rd.ofG 3 rfl) w s) hx39) rfl rfl ?_
        refine RS.p (Pu.not rfl) rfl rfl ?_
        refine RS.p (Pu.pickF rfl rfl) rfl rfl ?_
        obtain rfl := Option.some.inj H
        exact hJ24 _ _ ⟨rfl, rfl, rfl, rfl, rfl, trivial⟩ (fun w s => s)
     ·intro z40 H hJ21
      refine RS.splitP 45 rfl (fun hc20 => ?_) (fun hc20 => ?_)
      ·have H := ifT hc20 H
       refine RS.no rfl rfl ?_
       refine RS.no rfl rfl ?_
       refine RS.no rfl rfl ?_
       refine RS.no rfl rfl ?_
       refine RS.no rfl rfl ?_
       refine RS.no rfl rfl ?_
       refine RS.no rfl rfl ?_
       refine RS.p (Pu.pickT rfl rfl) rfl rfl ?_
       obtain rfl := Option.some.inj H
       exact hJ21 _ _ ⟨rfl, rfl, rfl, rfl, rfl, rfl, trivial⟩ (fun w s => s)
      ·have H := ifF hc20 H
       refine RS.p (Pu.move rfl) rfl rfl ?_
       refine RS.p (Pu.not rfl) rfl rfl ?_
       refine RS.p (Pu.move rfl) rfl rfl ?_
       refine RS.joinB H 4 52 (fun b43 => .bool b43) [(1, _), (3, _), (4, _), (5, _), (6, _), (7, _), (8, _), (40, _), (41, _), (42, _), (43, _), (44, _), (45, _), (46, _), (47, _)] ⟨rfl, rfl, rfl, rfl, rfl, rfl, rfl, rfl, rfl, rfl, rfl, rfl, rfl, rfl, rfl, trivial⟩ ?_ ?_
       ·intro b43 H
        refine RS.p (Pu.pickF rfl rfl) rfl rfl ?_
        obtain rfl := Option.some.inj H
        exact hJ21 _ _ ⟨rfl, rfl, rfl, rfl, rfl, rfl, trivial⟩ (fun w s => s)
       ·intro z44 H hJ42
        refine RS.split 48 rfl (fun hc41 => ?_) (fun hc41 => ?_)
        ·have H := ifT hc41 H
         refine RS.p (Pu.move rfl) rfl rfl ?_
         obtain ⟨x45, hx45, H⟩ := bindE H
         refine RS.q (Qt.call (vs := [.int .i64 x14.2]) ent23 rfl fun w s => thronglaw27_num_walk x14.2 w  hx45) rfl rfl ?_
         refine RS.p (Pu.bin rfl rfl rfl) rfl rfl ?_
         refine RS.p (Pu.pickT rfl rfl) rfl rfl ?_
         obtain rfl := Option.some.inj H
         exact hJ42 _ _ ⟨rfl, rfl, rfl, rfl, rfl, rfl, rfl, rfl, rfl, rfl, rfl, rfl, rfl, rfl, rfl, rfl, trivial⟩ (fun w s => s)
        ·have H := ifB hc41 H
         refine RS.no rfl rfl ?_
         refine RS.no rfl rfl ?_
         refine RS.no rfl rfl ?_
         refine RS.p (Pu.pickF rfl rfl) rfl rfl ?_
         obtain rfl := Option.some.inj H
         exact hJ42 _ _ ⟨rfl, rfl, rfl, rfl, rfl, rfl, rfl, rfl, rfl, rfl, rfl, rfl, rfl, rfl, rfl, rfl, trivial⟩ (fun w s => s)
    ·have H := ifF hc10 H
     obtain rfl := hd4 _ H
     refine T.exitTo (by with_reducible (repeat (first | exact ExTo.here | exact ExTo.hereN | exact ExTo.deep (by repeat (first | exact NmTo.seq | apply NmTo.blk)) | apply ExTo.seq | refine ExTo.past (by decide) ?_))) (hJ4 _ _ () () HX4 trivial trivial (fun w s => s))
   ·intro hJ9
    refine RS.splitP 16 rfl (fun hc8 => ?_) (fun hc8 => ?_)
    ·refine RS.p (Pu.move rfl) rfl rfl ?_
     refine RS.p (Pu.bin rfl rfl rfl) rfl rfl ?_
     refine RS.p (Pu.pickT rfl rfl) rfl rfl ?_
     exact hJ9 _ _ ⟨dAndT hc8, rfl, rfl, trivial⟩ (fun w s => s)
    ·refine RS.no rfl rfl ?_
     refine RS.no rfl rfl ?_
     refine RS.p (Pu.pickF rfl rfl) rfl rfl ?_
     exact hJ9 _ _ ⟨dAndF hc8, rfl, rfl, trivial⟩ (fun w s => s)
end Go.Proofs.Ytlpmiledfcblfaa
