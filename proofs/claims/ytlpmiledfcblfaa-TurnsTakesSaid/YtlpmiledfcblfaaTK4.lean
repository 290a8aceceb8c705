/-
  Walk of TurnsTakes.
-/
import Derived.Test.YtlpmiledfcblfaaRows
import Derived.Test.YtlpmiledfcblfaaTK
import Derived.Test.YtlpmiledfcblfaaTG4
set_option linter.unusedVariables false
set_option linter.unusedSimpArgs false
set_option maxRecDepth 20000
set_option maxHeartbeats 4000000
namespace Go.Proofs.Ytlpmiledfcblfaa
open Go.Vg
open Enc (R)
theorem ent19 : Ent Try.prog 19 := ⟨_, _, Try.func19, by kernel_rfl, rfl⟩
theorem ent25 : Ent Try.prog 25 := ⟨_, _, Try.func25, by kernel_rfl, rfl⟩
theorem ent27 : Ent Try.prog 27 := ⟨_, _, Try.func27, by kernel_rfl, rfl⟩
theorem ent36 : Ent Try.prog 36 := ⟨_, _, Try.func36, by kernel_rfl, rfl⟩
theorem ent37 : Ent Try.prog 37 := ⟨_, _, Try.func37, by kernel_rfl, rfl⟩
theorem ent38 : Ent Try.prog 38 := ⟨_, _, Try.func38, by kernel_rfl, rfl⟩
theorem ent39 : Ent Try.prog 39 := ⟨_, _, Try.func39, by kernel_rfl, rfl⟩
theorem ty38 : tySz Try.prog 38 = some (3, true) := by kernel_rfl
theorem thronglaw27_TurnsTakes_walk (a0_p : Ask27) (w : World) {v0 v1 v2 : Value} (h0 : R (hpOf w) a0_p.l [v0]) (h1 : R (hpOf w) a0_p.more [v1]) (h2 : R (hpOf w) a0_p.ts [v2]) {r : Bool} (H : thronglaw27_TurnsTakes a0_p = some r) : Calls Try.prog 8 #[.agg #[v0, v1, v2]] w fun e w' => e = .returned (.bool r) ∧ Ext w w' := by
 have hm0 := R_max h0
 obtain ⟨p0, c0, rfl⟩ := R_form h0
 have hm1 := R_max h1
 obtain ⟨p1, c1, rfl⟩ := R_form h1
 have hm2 := R_max h2
 obtain ⟨p2, c2, rfl⟩ := R_form h2
 unfold thronglaw27_TurnsTakes at H
 refine T.enter (args := [_]) (S := Sat w []) Try.func8 rfl rfl (Sat.start w) ?_
 refine T.seq fun K1 hK1 => ?_
 refine T.region ?_
 refine RS.solid (Sd.box (cs := [_, _, _]) rfl rfl) rfl rfl fun b1 => ?_
 refine RS.p (Pu.assign rfl) rfl rfl ?_
 refine RS.nil (hK1 _ _ ?_)
 refine T.seq fun K2 hK2 => ?_
 refine T.seq fun K3 hK3 => ?_
 refine T.region ?_
 refine RS.q (Qt.ldBA (us := [_, _, _]) 0 ty38 rfl rfl rfl rfl) rfl rfl ?_
 obtain ⟨x2, hx2, H⟩ := bindE H
 refine RS.q (Qt.call (vs := [.agg #[.slice p0 a0_p.l.length c0, .slice p1 a0_p.more.length c1, .slice p2 a0_p.ts.length c2]]) ent19 rfl fun w s => thronglaw27_heavy_walk a0_p w ((Rd.base h0) w s) ((Rd.base h1) w s) ((Rd.base h2) w s) hx2) rfl rfl ?_
 refine RS.nil (hK3 _ _ ?_)
 refine T.cond rfl (fun hc3 => ?_) (fun hc3 => ?_)
 ·have H := ifT hc3 H
  refine T.conseq (fr' := []) ?_ trivial (fun _ s => s)
  refine T.seq fun K4 hK4 => ?_
  refine T.region ?_
  refine RS.p (Pu.assign rfl) rfl rfl ?_
  refine RS.nil (hK4 _ _ ?_)
  obtain rfl := Option.some.inj H
  refine T.retTo (by with_reducible ((repeat (first | apply RetTo.seq | apply RetTo.blk)); exact RetTo.refl _)) (Cont.ret1 rfl rfl fun w' s => ?_)
  exact ⟨rfl, s.ext⟩
 ·have H := ifB hc3 H
  refine T.skip (hK2 _ _ (T.conseq (fr' := [(1, _)]) ?_ ⟨rfl, trivial⟩ (fun _ s => s)))
  refine T.seq fun K5 hK5 => ?_
  refine T.seq fun K6 hK6 => ?_
  refine T.region ?_
  refine RS.p (Pu.assign rfl) rfl rfl ?_
  refine RS.nil (hK6 _ _ ?_)
  refine T.joinE (σ := Unit) (γ := Unit) H Ex.go [] trivial (fun _ _ => []) (fun _ _ => Sat w [blk b1 [.slice p0 a0_p.l.length c0, .slice p1 a0_p.more.length c1, .slice p2 a0_p.ts.length c2] 38]) ?_ ?_
  ·rintro ⟨⟩ ⟨⟩ H
   try dsimp only [Ex.then] at H
   refine Cont.conseq (fr' := []) ?_ trivial (fun _ s => s)
   refine id (hK5 _ _ ?_)
   refine T.seq fun K7 hK7 => ?_
   refine T.region ?_
   obtain ⟨x5, hx5, H⟩ := bindE H
   refine RS.q (Qt.call (vs := []) ent27 rfl fun w s => thronglaw27_wakes_walk  w  hx5) rfl rfl ?_
   refine RS.p (Pu.assign rfl) rfl rfl ?_
   refine RS.nil (hK7 _ _ ?_)
   obtain rfl := Option.some.inj H
   refine T.retTo (by with_reducible ((repeat (first | apply RetTo.seq | apply RetTo.blk)); exact RetTo.refl _)) (Cont.ret1 rfl rfl fun w' s => ?_)
   exact ⟨rfl, s.ext⟩
  ·intro z4 hz4 HX4 hJ4
   refine T.block ?_
   refine T.loopA (γ := Unit) hz4 [(1, _)] (fun v6 _ => [(3, .int .i64 v6)]) (fun v6 _ => Sat w [blk b1 [.slice p0 a0_p.l.length c0, .slice p1 a0_p.more.length c1, .slice p2 a0_p.ts.length c2] 38]) () ⟨rfl, trivial⟩ ⟨rfl, trivial⟩ (fun w s => s) ?_
   rintro v6 ⟨⟩ y7 H hd4 KL4 hL4
   try dsimp only [Ex.then] at H
   refine T.conseq (fr' := [(3, _), (1, _)]) ?_ ⟨rfl, rfl, trivial⟩ (fun _ s => s)
   refine T.seq fun K8 hK8 => ?_
   refine T.seq fun K9 hK9 => ?_
   refine T.region ?_
   refine RS.p (Pu.move rfl) rfl rfl ?_
   refine RS.p (Pu.fieldAddr fd38_2 rfl) rfl rfl ?_
   refine RS.q (Qt.ldB 0 ty25 rfl rfl rfl) rfl rfl ?_
   refine RS.p (Pu.lenSl sl25 rfl) rfl rfl ?_
   refine RS.p (Pu.bin rfl rfl rfl) rfl rfl ?_
   refine RS.p (Pu.move rfl) rfl rfl ?_
   refine RS.joinV 3 21 (.bool (decide ((v6 < (a0_p.ts.length : Int)) ∧ (v6 < 10)))) [(1, _), (3, _)] ⟨rfl, rfl, trivial⟩ ?_ ?_
   ·refine RS.nil (hK9 _ _ ?_)
    refine T.condP rfl (fun hc10 => ?_) (fun hc10 => ?_)
    ·have H := ifT hc10 H
     refine T.skip (hK8 _ _ ?_)
     refine T.seq fun K10 hK10 => ?_
     refine T.block ?_
     refine T.seq fun K11 hK11 => ?_
     refine T.region ?_
     refine RS.p (Pu.assign rfl) rfl rfl ?_
     refine RS.nil (hK11 _ _ ?_)
     refine T.seq fun K12 hK12 => ?_
     refine T.region ?_
     refine RS.p (Pu.assign rfl) rfl rfl ?_
     refine RS.p (Pu.assign rfl) rfl rfl ?_
     refine RS.nil (hK12 _ _ ?_)
     refine T.seq fun K13 hK13 => ?_
     refine T.seq fun K14 hK14 => ?_
     refine T.region ?_
     refine RS.p (Pu.fieldAddr fd38_0 rfl) rfl rfl ?_
     refine RS.q (Qt.ldB 0 ty24 rfl rfl rfl) rfl rfl ?_
     obtain ⟨x11, hx11, H⟩ := bindE H
     refine RS.q (Qt.call (vs := [.slice p0 a0_p.l.length c0]) ent36 rfl fun w s => throngref27_List_walk a0_p.l w ((Rd.base h0) w s) hx11) rfl rfl ?_
     refine RS.nil (hK14 _ _ ?_)
     refine T.joinE (σ := Int × List Inp × List Inp) (γ := (Option Nat × Nat) × (Option Nat × Nat)) H (fun s => s) [(1, _), (3, _)] ⟨rfl, rfl, trivial⟩ (fun (v13, v14, v16) (q15, q17) => [(4, .int .i64 v13), (5, rowV q15 v14.length), (6, rowV q17 v16.length)]) (fun (v13, v14, v16) (q15, q17) => Sat w [blk b1 [.slice p0 a0_p.l.length c0, .slice p1 a0_p.more.length c1, .slice p2 a0_p.ts.length c2] 38, drow 50 (rowV q15 v14.length) v14, drow 50 (rowV q17 v16.length) v16]) ?_ ?_
     ·rintro ⟨v13, v14, v16⟩ ⟨q15, q17⟩ H
      try dsimp only [Ex.then] at H
      refine Cont.conseq (fr' := [(4, _), (5, _), (6, _), (1, _), (3, _)]) ?_ ⟨rfl, rfl, rfl, rfl, rfl, trivial⟩ (fun _ s => s)
      refine id (hK13 _ _ ?_)
      refine T.seq fun K15 hK15 => ?_
      refine T.region ?_
      refine RS.p (Pu.fieldAddr fd38_0 rfl) rfl rfl ?_
      refine RS.q (Qt.ldB 0 ty24 rfl rfl rfl) rfl rfl ?_
      obtain ⟨x18, hx18, H⟩ := bindE H
      refine RS.solid (Sd.callN (vs := [.slice p0 a0_p.l.length c0]) ent20 rfl (fun w s => throngref0_CopyInputs_walk a0_p.l w ((Rd.base h0) w s) hx18)) rfl rfl fun q19 => ?_
      refine RS.p (Pu.assign rfl) rfl rfl ?_
      refine RS.nil (hK15 _ _ (T.conseq (fr' := [(1, _), (3, _), (4, _), (5, _), (6, _), (7, _)]) ?_ ⟨rfl, rfl, rfl, rfl, rfl, rfl, trivial⟩ (fun _ s => s)))
      refine T.seq fun K16 hK16 => ?_
      refine T.region ?_
      refine RS.p (Pu.move rfl) rfl rfl ?_
      refine RS.p (Pu.fieldAddr fd38_2 rfl) rfl rfl ?_
      refine RS.q (Qt.ldB 0 ty25 rfl rfl rfl) rfl rfl ?_
      refine RS.p (Pu.move rfl) rfl rfl ?_
      obtain ⟨g20, H⟩ := gdE H
      obtain ⟨bl21, ol22, rfl⟩ := R_ptr h2 (ne_of_pos (pos_of g20))
      refine RS.p (Pu.indexSl sl25 rfl rfl g20) rfl rfl ?_
      refine RS.q (Qt.ld0 (α := Int) (Rd.base h2) ty3 rfl rfl g20 (by rintro _ _ rfl; rfl)) rfl rfl ?_
      obtain ⟨x23, hx23, H⟩ := bindE H
      refine RS.solid (Sd.callN (vs := [rowV q19 x18.length, .int .i64 (gi a0_p.ts v6)]) ent38 rfl (fun w s => turns_Take_walk x18 (gi a0_p.ts v6) w ((Rd.ofG 3 rfl) w s) hx23)) rfl rfl fun ⟨q24, q25⟩ => ?_
      refine RS.p (Pu.move rfl) rfl rfl ?_
      refine RS.p (Pu.extract rfl rfl) rfl rfl ?_
      refine RS.p (Pu.extract rfl rfl) rfl rfl ?_
      refine RS.p (Pu.extract rfl rfl) rfl rfl ?_
      refine RS.p (Pu.assign rfl) rfl rfl ?_
      refine RS.p (Pu.assign rfl) rfl rfl ?_
      refine RS.p (Pu.assign rfl) rfl rfl ?_
      refine RS.nil (hK16 _ _ (T.conseq (fr' := [(1, _), (3, _), (4, _), (5, _), (6, _), (7, _), (8, _), (9, _), (10, _)]) ?_ ⟨rfl, rfl, rfl, rfl, rfl, rfl, rfl, rfl, rfl, trivial⟩ (fun _ s => s)))
      refine T.seq fun K17 hK17 => ?_
      refine T.seq fun K18 hK18 => ?_
      refine T.region ?_
      refine RS.p (Pu.move rfl) rfl rfl ?_
      obtain ⟨x26, hx26, H⟩ := bindE H
      refine RS.q (Qt.call (vs := [.int .i64 x23.2.2]) ent23 rfl fun w s => thronglaw27_num_walk x23.2.2 w  hx26) rfl rfl ?_
      refine RS.p (Pu.move rfl) rfl rfl ?_
      refine RS.p (Pu.bin rfl rfl rfl) rfl rfl ?_
      refine RS.p (Pu.move rfl) rfl rfl ?_
      refine RS.joinB H 5 61 (fun b29 => .bool b29) [(1, _), (3, _), (6, _), (7, _), (8, _), (9, _)] ⟨rfl, rfl, rfl, rfl, rfl, rfl, trivial⟩ ?_ ?_
      ·intro b29 H
       refine RS.p (Pu.move rfl) rfl rfl ?_
       refine RS.joinB H 5 67 (fun b32 => .bool b32) [(1, _), (3, _), (7, _), (8, _), (9, _)] ⟨rfl, rfl, rfl, rfl, rfl, trivial⟩ ?_ ?_
       ·intro b32 H
        refine RS.p (Pu.move rfl) rfl rfl ?_
        refine RS.joinB H 6 74 (fun b35 => .bool b35) [(1, _), (3, _), (7, _), (8, _), (9, _)] ⟨rfl, rfl, rfl, rfl, rfl, trivial⟩ ?_ ?_
        ·intro b35 H
         refine RS.nil (hK18 _ _ ?_)
         refine T.cond rfl (fun hc36 => ?_) (fun hc36 => ?_)
         ·have H := ifT hc36 H
          refine T.conseq (fr' := []) ?_ trivial (fun _ s => s)
          refine T.seq fun K19 hK19 => ?_
          refine T.region ?_
          refine RS.p (Pu.assign rfl) rfl rfl ?_
          refine RS.nil (hK19 _ _ ?_)
          obtain rfl := hd4 _ H
          have H := HX4
          obtain rfl := Option.some.inj H
          refine T.retTo (by with_reducible ((repeat (first | apply RetTo.seq | apply RetTo.blk)); exact RetTo.refl _)) (Cont.ret1 rfl rfl fun w' s => ?_)
          exact ⟨rfl, s.ext⟩
         ·have H := ifB hc36 H
          refine T.skip (hK17 _ _ ?_)
          refine T.seq fun K20 hK20 => ?_
          refine T.region ?_
          refine RS.p (Pu.move rfl) rfl rfl ?_
          obtain ⟨x37, hx37, H⟩ := bindE H
          refine RS.solid (Sd.callF0 (vs := [rowV q24 x23.1.length]) (C' := dead) (v := .tuple #[]) 4 ent39 rfl rfl (fun w s => thronglaw0_Inputs_walk x23.1 rfl  hx37 w s)) rfl rfl fun _ => ?_
          refine RS.nil (hK20 _ _ (T.conseq (fr' := [(1, _), (3, _), (7, _), (9, _)]) ?_ ⟨rfl, rfl, rfl, rfl, trivial⟩ (fun _ s => s)))
          refine T.seq fun K21 hK21 => ?_
          refine T.region ?_
          refine RS.p (Pu.move rfl) rfl rfl ?_
          obtain ⟨x38, hx38, H⟩ := bindE H
          refine RS.solid (Sd.callF0 (vs := [rowV q25 x23.2.1.length]) (C' := dead) (v := .tuple #[]) 5 ent39 rfl rfl (fun w s => thronglaw0_Inputs_walk x23.2.1 rfl  hx38 w s)) rfl rfl fun _ => ?_
          refine RS.nil (hK21 _ _ (T.conseq (fr' := [(1, _), (3, _), (7, _)]) ?_ ⟨rfl, rfl, rfl, trivial⟩ (fun _ s => s)))
          refine T.seq fun K22 hK22 => ?_
          refine T.region ?_
          refine RS.p (Pu.move rfl) rfl rfl ?_
          refine RS.p (Pu.fieldAddr fd38_0 rfl) rfl rfl ?_
          refine RS.q (Qt.ldB 0 ty24 rfl rfl rfl) rfl rfl ?_
          obtain ⟨x39, hx39, H⟩ := bindE H
          refine RS.q (Qt.call (vs := [rowV q19 x18.length, .slice p0 a0_p.l.length c0]) ent25 rfl fun w s => throngref0_EqInputs_walk x18 a0_p.l w ((Rd.ofG 3 rfl) w s) ((Rd.base h0) w s) hx39) rfl rfl ?_
          refine RS.p (Pu.not rfl) rfl rfl ?_
          refine RS.nil (hK22 _ _ ?_)
          refine T.cond rfl (fun hc40 => ?_) (fun hc40 => ?_)
          ·have H := ifT hc40 H
           refine T.conseq (fr' := []) ?_ trivial (fun _ s => s)
           refine T.seq fun K23 hK23 => ?_
           refine T.region ?_
           refine RS.p (Pu.assign rfl) rfl rfl ?_
           refine RS.nil (hK23 _ _ ?_)
           obtain rfl := hd4 _ H
           have H := HX4
           obtain rfl := Option.some.inj H
           refine T.retTo (by with_reducible ((repeat (first | apply RetTo.seq | apply RetTo.blk)); exact RetTo.refl _)) (Cont.ret1 rfl rfl fun w' s => ?_)
           exact ⟨rfl, s.ext⟩
          ·have H := ifB hc40 H
           refine T.skip (hK10 _ _ (T.conseq (fr' := [(1, _), (3, _)]) ?_ ⟨rfl, rfl, trivial⟩ (fun _ s => s)))
           refine T.region ?_
           refine RS.p (Pu.move rfl) rfl rfl ?_
           obtain ⟨g41, H⟩ := gdE H
           refine RS.p (Pu.addS rfl rfl g41) rfl rfl ?_
           refine RS.p (Pu.assign rfl) rfl rfl ?_
           refine RS.nil (hL4 _ _ (v6 + 1) () H ⟨rfl, trivial⟩ ⟨rfl, trivial⟩ (fun w s => s.pick [0] (by decide) rfl))
        ·intro z42 H hJ34
         refine RS.split 68 rfl (fun hc33 => ?_) (fun hc33 => ?_)
         ·have H := ifT hc33 H
          refine RS.no rfl rfl ?_
          refine RS.no rfl rfl ?_
          refine RS.no rfl rfl ?_
          refine RS.no rfl rfl ?_
          refine RS.no rfl rfl ?_
          refine RS.p (Pu.pickT rfl rfl) rfl rfl ?_
          obtain rfl := Option.some.inj H
          exact hJ34 _ _ ⟨rfl, rfl, rfl, rfl, rfl, rfl, trivial⟩ (fun w s => s)
         ·have H := ifB hc33 H
          refine RS.p (Pu.move rfl) rfl rfl ?_
          refine RS.p (Pu.fieldAddr fd38_0 rfl) rfl rfl ?_
          refine RS.q (Qt.ldB 0 ty24 rfl rfl rfl) rfl rfl ?_
          obtain ⟨x43, hx43, H⟩ := bindE H
          refine RS.q (Qt.call (vs := [rowV q19 x18.length, .slice p0 a0_p.l.length c0]) ent25 rfl fun w s => throngref0_EqInputs_walk x18 a0_p.l w ((Rd.ofG 3 rfl) w s) ((Rd.base h0) w s) hx43) rfl rfl ?_
          refine RS.p (Pu.not rfl) rfl rfl ?_
          refine RS.p (Pu.pickF rfl rfl) rfl rfl ?_
          obtain rfl := Option.some.inj H
          exact hJ34 _ _ ⟨rfl, rfl, rfl, rfl, rfl, rfl, trivial⟩ (fun w s => s)
       ·intro z44 H hJ31
        refine RS.split 62 rfl (fun hc30 => ?_) (fun hc30 => ?_)
        ·have H := ifT hc30 H
         refine RS.no rfl rfl ?_
         refine RS.no rfl rfl ?_
         refine RS.no rfl rfl ?_
         refine RS.no rfl rfl ?_
         refine RS.p (Pu.pickT rfl rfl) rfl rfl ?_
         obtain rfl := Option.some.inj H
         exact hJ31 _ _ ⟨rfl, rfl, rfl, rfl, rfl, rfl, trivial⟩ (fun w s => s)
        ·have H := ifB hc30 H
         refine RS.p (Pu.move rfl) rfl rfl ?_
         refine RS.p (Pu.move rfl) rfl rfl ?_
         obtain ⟨x45, hx45, H⟩ := bindE H
         refine RS.q (Qt.call (vs := [rowV q25 x23.2.1.length, rowV q17 v16.length]) ent25 rfl fun w s => throngref0_EqInputs_walk x23.2.1 v16 w ((Rd.ofG 5 rfl) w s) ((Rd.ofG 2 rfl) w s) hx45) rfl rfl ?_
         refine RS.p (Pu.not rfl) rfl rfl ?_
         refine RS.p (Pu.pickF rfl rfl) rfl rfl ?_
         obtain rfl := Option.some.inj H
         exact hJ31 _ _ ⟨rfl, rfl, rfl, rfl, rfl, rfl, trivial⟩ (fun w s => s)
      ·intro z46 H hJ28
       refine RS.splitP 56 rfl (fun hc27 => ?_) (fun hc27 => ?_)
       ·have H := ifT hc27 H
        refine RS.no rfl rfl ?_
        refine RS.no rfl rfl ?_
        refine RS.no rfl rfl ?_
        refine RS.no rfl rfl ?_
        refine RS.p (Pu.pickT rfl rfl) rfl rfl ?_
        obtain rfl := Option.some.inj H
        exact hJ28 _ _ ⟨rfl, rfl, rfl, rfl, rfl, rfl, rfl, trivial⟩ (fun w s => s)
       ·have H := ifF hc27 H
        refine RS.p (Pu.move rfl) rfl rfl ?_
        refine RS.p (Pu.move rfl) rfl rfl ?_
        obtain ⟨x47, hx47, H⟩ := bindE H
        refine RS.q (Qt.call (vs := [rowV q24 x23.1.length, rowV q15 v14.length]) ent25 rfl fun w s => throngref0_EqInputs_walk x23.1 v14 w ((Rd.ofG 4 rfl) w s) ((Rd.ofG 1 rfl) w s) hx47) rfl rfl ?_
        refine RS.p (Pu.not rfl) rfl rfl ?_
        refine RS.p (Pu.pickF rfl rfl) rfl rfl ?_
        obtain rfl := Option.some.inj H
        exact hJ28 _ _ ⟨rfl, rfl, rfl, rfl, rfl, rfl, rfl, trivial⟩ (fun w s => s)
     ·intro z12 H HX12 hJ12
      refine T.cond rfl (fun hc48 => ?_) (fun hc48 => ?_)
      ·have H := ifT hc48 H
       refine T.conseq (fr' := [(1, _), (3, _)]) ?_ ⟨rfl, rfl, trivial⟩ (fun _ s => s)
       refine T.seq fun K24 hK24 => ?_
       refine T.region ?_
       refine RS.p (Pu.assign rfl) rfl rfl ?_
       refine RS.nil (hK24 _ _ ?_)
       refine T.drawn (fun _ => True) [(0, .pu), (1, .rd), (2, .pu), (3, .rd), (4, .pu), (5, .pu), (6, .rd), (7, .so), (8, .pu), (9, .pu), (10, .pu), (11, .pu), (12, .pu)] mixed (ClE.sat _ _) (by kernel_rfl) ?_
       refine RD.p (fun _ _ => trivial) rfl (Pu.fieldAddr fd38_0 rfl) rfl rfl ?_
       refine RD.q (fun _ _ => trivial) rfl (Qt.ldB 0 ty24 rfl rfl rfl) rfl rfl ?_
       refine RD.p (fun _ _ => trivial) rfl (Pu.fieldAddr fd38_2 rfl) rfl rfl ?_
       refine RD.q (fun _ _ => trivial) rfl (Qt.ldB 0 ty25 rfl rfl rfl) rfl rfl ?_
       refine RD.p (fun _ _ => trivial) rfl (Pu.move rfl) rfl rfl ?_
       obtain ⟨g49, H⟩ := gdE H
       obtain ⟨bl50, ol51, rfl⟩ := R_ptr h2 (ne_of_pos (pos_of g49))
       refine RD.p (fun _ _ => trivial) rfl (Pu.indexSl sl25 rfl rfl g49) rfl rfl ?_
       refine RD.q (fun _ _ => trivial) rfl (Qt.ld0 (α := Int) (Rd.base h2) ty3 rfl rfl g49 (by rintro _ _ rfl; rfl)) rfl rfl ?_
       obtain ⟨x52, hx52, H⟩ := bindE H
       refine RD.solid rfl (.inl rfl) rfl rfl (Sd.callN (vs := [.slice p0 a0_p.l.length c0, .int .i64 (gi a0_p.ts v6)]) ent37 rfl (fun w s => throngref27_Take_walk a0_p.l (gi a0_p.ts v6) w ((Rd.base h0) w s) hx52)) (fun _ => ClE.sat _ _) (fun _ _ _ => trivial) (fun _ _ _ s => s.drop1) fun ⟨q53, q54⟩ => ?_
       refine RD.p (fun _ _ => trivial) rfl (Pu.move rfl) rfl rfl ?_
       refine RD.p (fun _ _ => trivial) rfl (Pu.extract rfl rfl) rfl rfl ?_
       refine RD.p (fun _ _ => trivial) rfl (Pu.extract rfl rfl) rfl rfl ?_
       refine RD.p (fun _ _ => trivial) rfl (Pu.assign rfl) rfl rfl ?_
       refine RD.p (fun _ _ => trivial) rfl (Pu.assign rfl) rfl rfl ?_
       obtain rfl := Option.some.inj H
       refine RD.nil (hJ12 _ _ (0, x52.1, x52.2) (q53, q54) HX12 ⟨rfl, rfl, trivial⟩ ⟨rfl, rfl, rfl, trivial⟩ (fun w s => s))
      ·have H := ifB hc48 H
       obtain rfl := Option.some.inj H
       refine T.skip (hJ12 _ _ (1, [], []) ((none, 0), (none, 0)) HX12 ⟨rfl, rfl, trivial⟩ ⟨rfl, rfl, rfl, trivial⟩ (fun w s => ((s.nilRowG (α := Inp) 50).nilRowG (α := Inp) 50).pick [0, 1, 2] (by decide) rfl))
    ·have H := ifF hc10 H
     obtain rfl := hd4 _ H
     refine T.exitTo (by with_reducible (repeat (first | exact ExTo.here | exact ExTo.hereN | exact ExTo.deep (by repeat (first | exact NmTo.seq | apply NmTo.blk)) | apply ExTo.seq | refine ExTo.past (by decide) ?_))) (hJ4 _ _ () () HX4 trivial trivial (fun w s => s))
   ·intro hJ9
    refine RS.splitP 18 rfl (fun hc8 => ?_) (fun hc8 => ?_)
    ·refine RS.p (Pu.move rfl) rfl rfl ?_
     refine RS.p (Pu.bin rfl rfl rfl) rfl rfl ?_
     refine RS.p (Pu.pickT rfl rfl) rfl rfl ?_
     exact hJ9 _ _ ⟨dAndT hc8, rfl, rfl, trivial⟩ (fun w s => s)
    ·refine RS.no rfl rfl ?_
     refine RS.no rfl rfl ?_
     refine RS.p (Pu.pickF rfl rfl) rfl rfl ?_
     exact hJ9 _ _ ⟨dAndF hc8, rfl, rfl, trivial⟩ (fun w s => s)
end Go.Proofs.Ytlpmiledfcblfaa
