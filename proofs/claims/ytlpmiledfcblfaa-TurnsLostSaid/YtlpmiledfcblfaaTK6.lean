/-
  Walk of TurnsLost.
-/
import Derived.Test.YtlpmiledfcblfaaRows
import Derived.Test.YtlpmiledfcblfaaTK
import Derived.Test.YtlpmiledfcblfaaTG6
set_option linter.unusedVariables false
set_option linter.unusedSimpArgs false
set_option maxRecDepth 20000
set_option maxHeartbeats 4000000
namespace Go.Proofs.Ytlpmiledfcblfaa
open Go.Vg
open Enc (R)
theorem ent19 : Ent Try.prog 19 := ⟨_, _, Try.func19, by kernel_rfl, rfl⟩
theorem ent25 : Ent Try.prog 25 := ⟨_, _, Try.func25, by kernel_rfl, rfl⟩
theorem ent27 : Ent Try.prog 27 := ⟨_, _, Try.func27, by kernel_rfl, rfl⟩
theorem ent38 : Ent Try.prog 38 := ⟨_, _, Try.func38, by kernel_rfl, rfl⟩
theorem ent48 : Ent Try.prog 48 := ⟨_, _, Try.func48, by kernel_rfl, rfl⟩
theorem ty38 : tySz Try.prog 38 = some (3, true) := by kernel_rfl
theorem thronglaw27_TurnsLost_walk (a0_p : Ask27) (w : World) {v0 v1 v2 : Value} (h0 : R (hpOf w) a0_p.l [v0]) (h1 : R (hpOf w) a0_p.more [v1]) (h2 : R (hpOf w) a0_p.ts [v2]) {r : Bool} (H : thronglaw27_TurnsLost a0_p = some r) : Calls Try.prog 13 #[.agg #[v0, v1, v2]] w fun e w' => e = .returned (.bool r) ∧ Ext w w' := by
 have hm0 := R_max h0
 obtain ⟨p0, c0, rfl⟩ := R_form h0
 have hm1 := R_max h1
 obtain ⟨p1, c1, rfl⟩ := R_form h1
 have hm2 := R_max h2
 obtain ⟨p2, c2, rfl⟩ := R_form h2
 unfold thronglaw27_TurnsLost at H
 refine T.enter (args := [_]) (S := Sat w []) Try.func13 rfl rfl (Sat.start w) ?_
 refine T.seq fun K1 hK1 => ?_
 refine T.region ?_
 refine RS.solid (Sd.box (cs := [_, _, _]) rfl rfl) rfl rfl fun b1 => ?_
 refine RS.p (Pu.assign rfl) rfl rfl ?_
 refine RS.nil (hK1 _ _ ?_)
 refine T.seq fun K2 hK2 => ?_
 refine T.seq fun K3 hK3 => ?_
 refine T.region ?_
 refine RS.q (Qt.ldBA (us := [_, _, _]) 0 ty38 rfl rfl rfl rfl) rfl rfl ?_
 obtain ⟨x2, hx2, H⟩ := bindE H
 refine RS.q (Qt.call (vs := [.agg #[.slice p0 a0_p.l.length c0, .slice p1 a0_p.more.length c1, .slice p2 a0_p.ts.length c2]]) ent19 rfl fun w s => thronglaw27_heavy_walk a0_p w ((Rd.base h0) w s) ((Rd.base h1) w s) ((Rd.base h2) w s) hx2) rfl rfl ?_
 refine RS.nil (hK3 _ _ ?_)
 refine T.cond rfl (fun hc3 => ?_) (fun hc3 => ?_)
 ·have H := ifT hc3 H
  refine T.conseq (fr' := []) ?_ trivial (fun _ s => s)
  refine T.seq fun K4 hK4 => ?_
  refine T.region ?_
  refine RS.p (Pu.assign rfl) rfl rfl ?_
  refine RS.nil (hK4 _ _ ?_)
  obtain rfl := Option.some.inj H
  refine T.retTo (by with_reducible ((repeat (first | apply RetTo.seq | apply RetTo.blk)); exact RetTo.refl _)) (Cont.ret1 rfl rfl fun w' s => ?_)
  exact ⟨rfl, s.ext⟩
 ·have H := ifB hc3 H
  refine T.skip (hK2 _ _ (T.conseq (fr' := [(1, _)]) ?_ ⟨rfl, trivial⟩ (fun _ s => s)))
  refine T.seq fun K5 hK5 => ?_
  refine T.region ?_
  refine RS.p (Pu.assign rfl) rfl rfl ?_
  refine RS.nil (hK5 _ _ ?_)
  refine T.seq fun K6 hK6 => ?_
  refine T.region ?_
  refine RS.p (Pu.assign rfl) rfl rfl ?_
  refine RS.nil (hK6 _ _ ?_)
  refine T.seq fun K7 hK7 => ?_
  refine T.seq fun K8 hK8 => ?_
  refine T.region ?_
  refine RS.p (Pu.assign rfl) rfl rfl ?_
  refine RS.nil (hK8 _ _ ?_)
  refine T.joinE (σ := Int × List Inp) (γ := (Option Nat × Nat)) H Ex.go [(1, _)] ⟨rfl, trivial⟩ (fun (v5, v6) q7 => [(3, rowV q7 v6.length), (4, .int .i64 v5)]) (fun (v5, v6) q7 => Sat w [blk b1 [.slice p0 a0_p.l.length c0, .slice p1 a0_p.more.length c1, .slice p2 a0_p.ts.length c2] 38, drow 50 (rowV q7 v6.length) v6]) ?_ ?_
  ·rintro ⟨v5, v6⟩ q7 H
   try dsimp only [Ex.then] at H
   refine Cont.conseq (fr' := [(3, _), (4, _), (1, _)]) ?_ ⟨rfl, rfl, rfl, trivial⟩ (fun _ s => s)
   refine id (hK7 _ _ ?_)
   refine T.seq fun K9 hK9 => ?_
   refine T.seq fun K10 hK10 => ?_
   refine T.region ?_
   refine RS.p (Pu.assign rfl) rfl rfl ?_
   refine RS.nil (hK10 _ _ ?_)
   refine T.joinE (σ := Int × List Inp) (γ := (Option Nat × Nat)) H Ex.go [] trivial (fun (v9, v10) q11 => [(3, rowV q11 v10.length), (4, .int .i64 v9)]) (fun (v9, v10) q11 => Sat w [blk b1 [.slice p0 a0_p.l.length c0, .slice p1 a0_p.more.length c1, .slice p2 a0_p.ts.length c2] 38, drow 50 (rowV q11 v10.length) v10]) ?_ ?_
   ·rintro ⟨v9, v10⟩ q11 H
    try dsimp only [Ex.then] at H
    refine Cont.conseq (fr' := [(3, _), (4, _)]) ?_ ⟨rfl, rfl, trivial⟩ (fun _ s => s)
    refine id (hK9 _ _ ?_)
    refine T.seq fun K11 hK11 => ?_
    refine T.region ?_
    refine RS.p (Pu.move rfl) rfl rfl ?_
    refine RS.p (Pu.bin rfl rfl rfl) rfl rfl ?_
    refine RS.p (Pu.move rfl) rfl rfl ?_
    refine RS.joinV 4 130 (.bool (decide ((v9 = 0) ∧ ((v10.length : Int) = 0)))) [(3, _)] ⟨rfl, trivial⟩ ?_ ?_
    ·refine RS.p (Pu.move rfl) rfl rfl ?_
     refine RS.joinB H 3 134 (fun b16 => .bool b16) [] trivial ?_ ?_
     ·intro b16 H
      refine RS.p (Pu.move rfl) rfl rfl ?_
      refine RS.joinB H 2 137 (fun b19 => .bool b19) [] trivial ?_ ?_
      ·intro b19 H
       refine RS.p (Pu.assign rfl) rfl rfl ?_
       refine RS.nil (hK11 _ _ ?_)
       obtain rfl := Option.some.inj H
       refine T.retTo (by with_reducible ((repeat (first | apply RetTo.seq | apply RetTo.blk)); exact RetTo.refl _)) (Cont.ret1 rfl rfl fun w' s => ?_)
       exact ⟨rfl, s.ext⟩
      ·intro z20 H hJ18
       refine RS.split 135 rfl (fun hc17 => ?_) (fun hc17 => ?_)
       ·have H := ifT hc17 H
        obtain ⟨x21, hx21, H⟩ := bindE H
        refine RS.q (Qt.call (vs := []) ent27 rfl fun w s => thronglaw27_wakes_walk  w  hx21) rfl rfl ?_
        refine RS.p (Pu.pickT rfl rfl) rfl rfl ?_
        obtain rfl := Option.some.inj H
        exact hJ18 _ _ ⟨rfl, trivial⟩ (fun w s => s)
       ·have H := ifB hc17 H
        refine RS.no rfl rfl ?_
        refine RS.p (Pu.pickF rfl rfl) rfl rfl ?_
        obtain rfl := Option.some.inj H
        exact hJ18 _ _ ⟨rfl, trivial⟩ (fun w s => s)
     ·intro z22 H hJ15
      refine RS.splitP 131 rfl (fun hc14 => ?_) (fun hc14 => ?_)
      ·have H := ifT hc14 H
       refine RS.p (Pu.move rfl) rfl rfl ?_
       obtain ⟨x23, hx23, H⟩ := bindE H
       refine RS.q (Qt.call (vs := [.slice none 0 0, rowV q11 v10.length]) ent25 rfl fun w s => throngref0_EqInputs_walk [] v10 w ((Rd.nil (α := Inp)) w s) ((Rd.ofG 1 rfl) w s) hx23) rfl rfl ?_
       refine RS.p (Pu.pickT rfl rfl) rfl rfl ?_
       obtain rfl := Option.some.inj H
       exact hJ15 _ _ ⟨rfl, trivial⟩ (fun w s => s)
      ·have H := ifF hc14 H
       refine RS.no rfl rfl ?_
       refine RS.no rfl rfl ?_
       refine RS.p (Pu.pickF rfl rfl) rfl rfl ?_
       obtain rfl := Option.some.inj H
       exact hJ15 _ _ ⟨rfl, trivial⟩ (fun w s => s)
    ·intro hJ13
     refine RS.splitP 126 rfl (fun hc12 => ?_) (fun hc12 => ?_)
     ·refine RS.p (Pu.move rfl) rfl rfl ?_
      refine RS.p (Pu.lenSl sl24 rfl) rfl rfl ?_
      refine RS.p (Pu.bin rfl rfl rfl) rfl rfl ?_
      refine RS.p (Pu.pickT rfl rfl) rfl rfl ?_
      exact hJ13 _ _ ⟨dAndT hc12, rfl, trivial⟩ (fun w s => s)
     ·refine RS.no rfl rfl ?_
      refine RS.no rfl rfl ?_
      refine RS.no rfl rfl ?_
      refine RS.p (Pu.pickF rfl rfl) rfl rfl ?_
      exact hJ13 _ _ ⟨dAndF hc12, rfl, trivial⟩ (fun w s => s)
   ·intro z8 hz8 HX8 hJ8
    refine T.block ?_
    refine T.loopA (γ := (Option Nat × Nat)) hz8 [(1, _)] (fun (v24, v25, l26) q27 => [(3, rowV q27 l26.length), (4, .int .i64 v24), (10, .int .i64 v25)]) (fun (v24, v25, l26) q27 => Sat w [blk b1 [.slice p0 a0_p.l.length c0, .slice p1 a0_p.more.length c1, .slice p2 a0_p.ts.length c2] 38, drow 50 (rowV q27 l26.length) l26]) q7 ⟨rfl, trivial⟩ ⟨rfl, rfl, rfl, trivial⟩ (fun w s => s) ?_
    rintro ⟨v24, v25, l26⟩ q27 y28 H hd8 KL8 hL8
    try dsimp only [Ex.then] at H
    refine T.conseq (fr' := [(3, _), (4, _), (10, _), (1, _)]) ?_ ⟨rfl, rfl, rfl, rfl, trivial⟩ (fun _ s => s)
    refine T.seq fun K12 hK12 => ?_
    refine T.seq fun K13 hK13 => ?_
    refine T.region ?_
    refine RS.p (Pu.move rfl) rfl rfl ?_
    refine RS.p (Pu.fieldAddr fd38_1 rfl) rfl rfl ?_
    refine RS.q (Qt.ldB 0 ty24 rfl rfl rfl) rfl rfl ?_
    refine RS.p (Pu.lenSl sl24 rfl) rfl rfl ?_
    refine RS.p (Pu.bin rfl rfl rfl) rfl rfl ?_
    refine RS.p (Pu.move rfl) rfl rfl ?_
    refine RS.joinV 3 73 (.bool (decide ((v25 < (a0_p.more.length : Int)) ∧ (v25 < 20)))) [(1, _), (3, _), (4, _), (10, _)] ⟨rfl, rfl, rfl, rfl, trivial⟩ ?_ ?_
    ·refine RS.nil (hK13 _ _ ?_)
     refine T.condP rfl (fun hc31 => ?_) (fun hc31 => ?_)
     ·have H := ifT hc31 H
      refine T.skip (hK12 _ _ ?_)
      refine T.seq fun K14 hK14 => ?_
      refine T.block ?_
      refine T.seq fun K15 hK15 => ?_
      refine T.region ?_
      refine RS.p (Pu.move rfl) rfl rfl ?_
      refine RS.p (Pu.fieldAddr fd38_1 rfl) rfl rfl ?_
      refine RS.q (Qt.ldB 0 ty24 rfl rfl rfl) rfl rfl ?_
      refine RS.p (Pu.move rfl) rfl rfl ?_
      obtain ⟨g32, H⟩ := gdE H
      obtain ⟨bl33, ol34, rfl⟩ := R_ptr h1 (ne_of_pos (pos_of g32))
      refine RS.p (Pu.indexSl sl24 rfl rfl g32) rfl rfl ?_
      refine RS.p (Pu.fieldAddr fd50_0 rfl) rfl rfl ?_
      refine RS.q (Qt.ldF (α := Inp) (Rd.base h1) ty3 rfl rfl g32 (by rintro _ _ ⟨_, rfl, _⟩; rfl)) rfl rfl ?_
      obtain ⟨x35, hx35, H⟩ := bindE H
      refine RS.solid (Sd.callN (vs := [rowV q27 l26.length, .int .i64 ((gi a0_p.more v25).turn)]) ent38 rfl (fun w s => turns_Take_walk l26 ((gi a0_p.more v25).turn) w ((Rd.ofG 1 rfl) w s) hx35)) rfl rfl fun ⟨q36, q37⟩ => ?_
      refine RS.p (Pu.move rfl) rfl rfl ?_
      refine RS.p (Pu.extract rfl rfl) rfl rfl ?_
      refine RS.p (Pu.extract rfl rfl) rfl rfl ?_
      refine RS.p (Pu.extract rfl rfl) rfl rfl ?_
      refine RS.p (Pu.assign rfl) rfl rfl ?_
      refine RS.p (Pu.assign rfl) rfl rfl ?_
      refine RS.p (Pu.assign rfl) rfl rfl ?_
      refine RS.nil (hK15 _ _ (T.conseq (fr' := [(1, _), (3, _), (4, _), (10, _), (11, _), (12, _), (13, _)]) ?_ ⟨rfl, rfl, rfl, rfl, rfl, rfl, rfl, trivial⟩ (fun _ s => s)))
      refine T.seq fun K16 hK16 => ?_
      refine T.seq fun K17 hK17 => ?_
      refine T.region ?_
      refine RS.p (Pu.move rfl) rfl rfl ?_
      obtain ⟨x38, hx38, H⟩ := bindE H
      refine RS.q (Qt.call (vs := [.int .i64 x35.2.2]) ent23 rfl fun w s => thronglaw27_num_walk x35.2.2 w  hx38) rfl rfl ?_
      refine RS.p (Pu.bin rfl rfl rfl) rfl rfl ?_
      refine RS.p (Pu.move rfl) rfl rfl ?_
      obtain ⟨g41, H⟩ := gdE H
      refine RS.joinV 9 100 (.bool (decide ((¬ x38 = 0) ∨ (¬ ((x35.1.length : Int) + (x35.2.1.length : Int)) = (l26.length : Int))))) [(1, _), (4, _), (10, _), (11, _), (12, _)] ⟨rfl, rfl, rfl, rfl, rfl, trivial⟩ ?_ ?_
      ·refine RS.nil (hK17 _ _ ?_)
       refine T.condP rfl (fun hc42 => ?_) (fun hc42 => ?_)
       ·have H := ifT hc42 H
        refine T.conseq (fr' := []) ?_ trivial (fun _ s => s)
        refine T.seq fun K18 hK18 => ?_
        refine T.region ?_
        refine RS.p (Pu.assign rfl) rfl rfl ?_
        refine RS.nil (hK18 _ _ ?_)
        obtain rfl := hd8 _ H
        have H := HX8
        obtain rfl := Option.some.inj H
        refine T.retTo (by with_reducible ((repeat (first | apply RetTo.seq | apply RetTo.blk)); exact RetTo.refl _)) (Cont.ret1 rfl rfl fun w' s => ?_)
        exact ⟨rfl, s.ext⟩
       ·have H := ifF hc42 H
        refine T.skip (hK16 _ _ ?_)
        refine T.seq fun K19 hK19 => ?_
        refine T.seq fun K20 hK20 => ?_
        refine T.region ?_
        refine RS.p (Pu.assign rfl) rfl rfl ?_
        refine RS.nil (hK20 _ _ ?_)
        refine T.joinE (σ := Unit) (γ := Unit) H Ex.go [(1, _), (4, _), (10, _), (11, _), (12, _)] ⟨rfl, rfl, rfl, rfl, rfl, trivial⟩ (fun _ _ => []) (fun _ _ => Sat w [blk b1 [.slice p0 a0_p.l.length c0, .slice (some ⟨bl33, ol34, none⟩) a0_p.more.length c1, .slice p2 a0_p.ts.length c2] 38, drow 50 (rowV q27 l26.length) l26, drow 50 (rowV q36 x35.1.length) x35.1, drow 50 (rowV q37 x35.2.1.length) x35.2.1]) ?_ ?_
        ·rintro ⟨⟩ ⟨⟩ H
         try dsimp only [Ex.then] at H
         refine Cont.conseq (fr' := [(1, _), (4, _), (10, _), (11, _), (12, _)]) ?_ ⟨rfl, rfl, rfl, rfl, rfl, trivial⟩ (fun _ s => s)
         refine id (hK19 _ _ ?_)
         refine T.seq fun K21 hK21 => ?_
         refine T.region ?_
         refine RS.p (Pu.move rfl) rfl rfl ?_
         refine RS.p (Pu.move rfl) rfl rfl ?_
         refine RS.p (Pu.lenSl sl24 rfl) rfl rfl ?_
         obtain ⟨g44, H⟩ := gdE H
         refine RS.p (Pu.subS rfl rfl g44) rfl rfl ?_
         refine RS.p (Pu.assign rfl) rfl rfl ?_
         refine RS.nil (hK21 _ _ (T.conseq (fr' := [(1, _), (4, _), (10, _), (12, _)]) ?_ ⟨rfl, rfl, rfl, rfl, trivial⟩ (fun _ s => s)))
         refine T.region ?_
         refine RS.p (Pu.move rfl) rfl rfl ?_
         refine RS.p (Pu.assign rfl) rfl rfl ?_
         refine RS.nil (hK14 _ _ ?_)
         refine T.region ?_
         refine RS.p (Pu.move rfl) rfl rfl ?_
         obtain ⟨g45, H⟩ := gdE H
         refine RS.p (Pu.addS rfl rfl g45) rfl rfl ?_
         refine RS.p (Pu.assign rfl) rfl rfl ?_
         refine RS.nil (hL8 _ _ ((v24 - (x35.1.length : Int)), (v25 + 1), x35.2.1) q37 H ⟨rfl, trivial⟩ ⟨rfl, rfl, rfl, trivial⟩ (fun w s => s.pick [0, 3] (by decide) rfl))
        ·intro z43 hz43 HX43 hJ43
         refine T.block ?_
         refine T.loopA (γ := Unit) hz43 [(1, _), (4, _), (10, _), (11, _), (12, _)] (fun v46 _ => [(14, .int .i64 v46)]) (fun v46 _ => Sat w [blk b1 [.slice p0 a0_p.l.length c0, .slice (some ⟨bl33, ol34, none⟩) a0_p.more.length c1, .slice p2 a0_p.ts.length c2] 38, drow 50 (rowV q27 l26.length) l26, drow 50 (rowV q36 x35.1.length) x35.1, drow 50 (rowV q37 x35.2.1.length) x35.2.1]) () ⟨rfl, rfl, rfl, rfl, rfl, trivial⟩ ⟨rfl, trivial⟩ (fun w s => s) ?_
         rintro v46 ⟨⟩ y47 H hd43 KL43 hL43
         try dsimp only [Ex.then] at H
         refine T.conseq (fr' := [(14, _), (1, _), (4, _), (10, _), (11, _), (12, _)]) ?_ ⟨rfl, rfl, rfl, rfl, rfl, rfl, trivial⟩ (fun _ s => s)
         refine T.seq fun K22 hK22 => ?_
         refine T.seq fun K23 hK23 => ?_
         refine T.region ?_
         refine RS.p (Pu.move rfl) rfl rfl ?_
         refine RS.p (Pu.move rfl) rfl rfl ?_
         refine RS.p (Pu.lenSl sl24 rfl) rfl rfl ?_
         refine RS.p (Pu.bin rfl rfl rfl) rfl rfl ?_
         refine RS.nil (hK23 _ _ ?_)
         refine T.condP rfl (fun hc48 => ?_) (fun hc48 => ?_)
         ·have H := ifT hc48 H
          refine T.skip (hK22 _ _ (T.conseq (fr' := [(1, _), (4, _), (10, _), (11, _), (12, _), (14, _)]) ?_ ⟨rfl, rfl, rfl, rfl, rfl, rfl, trivial⟩ (fun _ s => s)))
          refine T.seq fun K24 hK24 => ?_
          refine T.block ?_
          refine T.seq fun K25 hK25 => ?_
          refine T.drawn (fun _ => True) [(0, .pu), (1, .pu), (2, .pu), (3, .pu), (4, .rd), (5, .pu), (6, .rd), (7, .pu), (8, .pu), (9, .pu), (10, .rd), (11, .pu)] mixed (ClE.sat _ _) (by kernel_rfl) ?_
          refine RD.p (fun _ _ => trivial) rfl (Pu.move rfl) rfl rfl ?_
          refine RD.p (fun _ _ => trivial) rfl (Pu.move rfl) rfl rfl ?_
          obtain ⟨g49, H⟩ := gdE H
          refine RD.know (p := ∃ g cap, q36 = (some g, cap)) (fun w s => (s.row_someG (k := 2) rfl (pos_of g49))) ?_
          rintro ⟨gg50, cc51, rfl⟩
          refine RD.p (fun _ _ => trivial) rfl (Pu.indexSl sl24 rfl rfl g49) rfl rfl ?_
          refine RD.p (fun _ _ => trivial) rfl (Pu.fieldAddr fd50_0 rfl) rfl rfl ?_
          refine RD.q (fun _ _ => trivial) rfl (Qt.ldF (α := Inp) (Rd.ofG 2 rfl) ty3 rfl rfl g49 (by rintro _ _ ⟨_, rfl, _⟩; rfl)) rfl rfl ?_
          refine RD.p (fun _ _ => trivial) rfl (Pu.fieldAddr fd38_1 rfl) rfl rfl ?_
          refine RD.q (fun _ _ => trivial) rfl (Qt.ldB 0 ty24 rfl rfl rfl) rfl rfl ?_
          refine RD.p (fun _ _ => trivial) rfl (Pu.move rfl) rfl rfl ?_
          obtain ⟨g52, H⟩ := gdE H
          refine RD.p (fun _ _ => trivial) rfl (Pu.indexSl sl24 rfl rfl g52) rfl rfl ?_
          refine RD.p (fun _ _ => trivial) rfl (Pu.fieldAddr fd50_0 rfl) rfl rfl ?_
          refine RD.q (fun _ _ => trivial) rfl (Qt.ldF (α := Inp) (Rd.base h1) ty3 rfl rfl g52 (by rintro _ _ ⟨_, rfl, _⟩; rfl)) rfl rfl ?_
          refine RD.p (fun _ _ => trivial) rfl (Pu.bin rfl rfl rfl) rfl rfl ?_
          refine RD.nil (hK25 _ _ ?_)
          refine T.condP rfl (fun hc53 => ?_) (fun hc53 => ?_)
          ·have H := ifT hc53 H
           refine T.conseq (fr' := []) ?_ trivial (fun _ s => s)
           refine T.seq fun K26 hK26 => ?_
           refine T.region ?_
           refine RS.p (Pu.assign rfl) rfl rfl ?_
           refine RS.nil (hK26 _ _ ?_)
           obtain rfl := hd43 _ H
           have H := HX43
           obtain rfl := hd8 _ H
           have H := HX8
           obtain rfl := Option.some.inj H
           refine T.retTo (by with_reducible ((repeat (first | apply RetTo.seq | apply RetTo.blk)); exact RetTo.refl _)) (Cont.ret1 rfl rfl fun w' s => ?_)
           exact ⟨rfl, s.ext⟩
          ·have H := ifF hc53 H
           refine T.skip (hK24 _ _ (T.conseq (fr' := [(1, _), (4, _), (10, _), (11, _), (12, _), (14, _)]) ?_ ⟨rfl, rfl, rfl, rfl, rfl, rfl, trivial⟩ (fun _ s => s)))
           refine T.region ?_
           refine RS.p (Pu.move rfl) rfl rfl ?_
           obtain ⟨g54, H⟩ := gdE H
           refine RS.p (Pu.addS rfl rfl g54) rfl rfl ?_
           refine RS.p (Pu.assign rfl) rfl rfl ?_
           refine RS.nil (hL43 _ _ (v46 + 1) () H ⟨rfl, rfl, rfl, rfl, rfl, trivial⟩ ⟨rfl, trivial⟩ (fun w s => s))
         ·have H := ifF hc48 H
          obtain rfl := hd43 _ H
          refine T.exitTo (by with_reducible (repeat (first | exact ExTo.here | exact ExTo.hereN | exact ExTo.deep (by repeat (first | exact NmTo.seq | apply NmTo.blk)) | apply ExTo.seq | refine ExTo.past (by decide) ?_))) (hJ43 _ _ () () HX43 ⟨rfl, rfl, rfl, rfl, rfl, trivial⟩ trivial (fun w s => s))
      ·intro hJ40
       refine RS.splitP 91 rfl (fun hc39 => ?_) (fun hc39 => ?_)
       ·refine RS.no rfl rfl ?_
        refine RS.no rfl rfl ?_
        refine RS.no rfl rfl ?_
        refine RS.no rfl rfl ?_
        refine RS.no rfl rfl ?_
        refine RS.no rfl rfl ?_
        refine RS.no rfl rfl ?_
        refine RS.no rfl rfl ?_
        refine RS.p (Pu.pickT rfl rfl) rfl rfl ?_
        exact hJ40 _ _ ⟨dOrT hc39, rfl, rfl, rfl, rfl, rfl, trivial⟩ (fun w s => s)
       ·refine RS.p (Pu.move rfl) rfl rfl ?_
        refine RS.p (Pu.lenSl sl24 rfl) rfl rfl ?_
        refine RS.p (Pu.move rfl) rfl rfl ?_
        refine RS.p (Pu.lenSl sl24 rfl) rfl rfl ?_
        refine RS.p (Pu.addS rfl rfl (g41 hc39)) rfl rfl ?_
        refine RS.p (Pu.move rfl) rfl rfl ?_
        refine RS.p (Pu.lenSl sl24 rfl) rfl rfl ?_
        refine RS.p (Pu.bin rfl rfl rfl) rfl rfl ?_
        refine RS.p (Pu.pickF rfl rfl) rfl rfl ?_
        exact hJ40 _ _ ⟨dOrF hc39, rfl, rfl, rfl, rfl, rfl, trivial⟩ (fun w s => s)
     ·have H := ifF hc31 H
      obtain rfl := hd8 _ H
      refine T.exitTo (by with_reducible (repeat (first | exact ExTo.here | exact ExTo.hereN | exact ExTo.deep (by repeat (first | exact NmTo.seq | apply NmTo.blk)) | apply ExTo.seq | refine ExTo.past (by decide) ?_))) (hJ8 _ _ (v24, l26) q27 HX8 trivial ⟨rfl, rfl, trivial⟩ (fun w s => s))
    ·intro hJ30
     refine RS.splitP 70 rfl (fun hc29 => ?_) (fun hc29 => ?_)
     ·refine RS.p (Pu.move rfl) rfl rfl ?_
      refine RS.p (Pu.bin rfl rfl rfl) rfl rfl ?_
      refine RS.p (Pu.pickT rfl rfl) rfl rfl ?_
      exact hJ30 _ _ ⟨dAndT hc29, rfl, rfl, rfl, rfl, trivial⟩ (fun w s => s)
     ·refine RS.no rfl rfl ?_
      refine RS.no rfl rfl ?_
      refine RS.p (Pu.pickF rfl rfl) rfl rfl ?_
      exact hJ30 _ _ ⟨dAndF hc29, rfl, rfl, rfl, rfl, trivial⟩ (fun w s => s)
  ·intro z4 hz4 HX4 hJ4
   refine T.block ?_
   refine T.loopA (γ := (Option Nat × Nat)) hz4 [(1, _)] (fun (l55, v57, v58) q56 => [(3, rowV q56 l55.length), (4, .int .i64 v57), (5, .int .i64 v58)]) (fun (l55, v57, v58) q56 => Sat w [blk b1 [.slice p0 a0_p.l.length c0, .slice p1 a0_p.more.length c1, .slice p2 a0_p.ts.length c2] 38, drow 50 (rowV q56 l55.length) l55]) (none, 0) ⟨rfl, trivial⟩ ⟨rfl, rfl, rfl, trivial⟩ (fun w s => (s.nilRowG (α := Inp) 50).pick [0, 1] (by decide) rfl) ?_
   rintro ⟨l55, v57, v58⟩ q56 y59 H hd4 KL4 hL4
   try dsimp only [Ex.then] at H
   refine T.conseq (fr' := [(3, _), (4, _), (5, _), (1, _)]) ?_ ⟨rfl, rfl, rfl, rfl, trivial⟩ (fun _ s => s)
   refine T.seq fun K27 hK27 => ?_
   refine T.seq fun K28 hK28 => ?_
   refine T.region ?_
   refine RS.p (Pu.move rfl) rfl rfl ?_
   refine RS.p (Pu.fieldAddr fd38_1 rfl) rfl rfl ?_
   refine RS.q (Qt.ldB 0 ty24 rfl rfl rfl) rfl rfl ?_
   refine RS.p (Pu.lenSl sl24 rfl) rfl rfl ?_
   refine RS.p (Pu.bin rfl rfl rfl) rfl rfl ?_
   refine RS.p (Pu.move rfl) rfl rfl ?_
   refine RS.joinV 3 25 (.bool (decide ((v58 < (a0_p.more.length : Int)) ∧ (v58 < 20)))) [(1, _), (3, _), (4, _), (5, _)] ⟨rfl, rfl, rfl, rfl, trivial⟩ ?_ ?_
   ·refine RS.nil (hK28 _ _ ?_)
    refine T.condP rfl (fun hc62 => ?_) (fun hc62 => ?_)
    ·have H := ifT hc62 H
     refine T.skip (hK27 _ _ ?_)
     refine T.seq fun K29 hK29 => ?_
     refine T.block ?_
     refine T.seq fun K30 hK30 => ?_
     refine T.region ?_
     refine RS.p (Pu.move rfl) rfl rfl ?_
     refine RS.p (Pu.fieldAddr fd38_1 rfl) rfl rfl ?_
     refine RS.q (Qt.ldB 0 ty24 rfl rfl rfl) rfl rfl ?_
     refine RS.p (Pu.move rfl) rfl rfl ?_
     obtain ⟨g63, H⟩ := gdE H
     obtain ⟨bl64, ol65, rfl⟩ := R_ptr h1 (ne_of_pos (pos_of g63))
     refine RS.p (Pu.indexSl sl24 rfl rfl g63) rfl rfl ?_
     obtain ⟨c66, hc67, ha68⟩ := R_el (α := Inp) h1 g63
     obtain ⟨u69, rfl, hu69⟩ := hc67
     obtain ⟨p70, cc71, rfl⟩ := R_form hu69
     refine RS.q (Qt.ldZ (cs := [_, _, _]) ty50 rfl ha68 Held.base rfl) rfl rfl ?_
     obtain ⟨x72, hx72, H⟩ := bindE H
     refine RS.solid (Sd.callN (vs := [rowV q56 l55.length, .agg #[.int .i64 ((gi a0_p.more v58).turn), .int .i64 ((gi a0_p.more v58).player), .slice p70 ((gi a0_p.more v58).commands).length cc71]]) ent48 rfl (fun w s => turns_Put_walk l55 (gi a0_p.more v58) w ((Rd.ofG 1 rfl) w s) ((Rd.base hu69) w s) hx72)) rfl rfl fun q73 => ?_
     refine RS.p (Pu.move rfl) rfl rfl ?_
     refine RS.p (Pu.extract rfl rfl) rfl rfl ?_
     refine RS.p (Pu.extract rfl rfl) rfl rfl ?_
     refine RS.p (Pu.assign rfl) rfl rfl ?_
     refine RS.p (Pu.assign rfl) rfl rfl ?_
     refine RS.nil (hK30 _ _ (T.conseq (fr' := [(1, _), (3, _), (4, _), (5, _), (6, _), (7, _)]) ?_ ⟨rfl, rfl, rfl, rfl, rfl, rfl, trivial⟩ (fun _ s => s)))
     refine T.seq fun K31 hK31 => ?_
     refine T.seq fun K32 hK32 => ?_
     refine T.region ?_
     refine RS.p (Pu.move rfl) rfl rfl ?_
     obtain ⟨x74, hx74, H⟩ := bindE H
     refine RS.q (Qt.call (vs := [.int .i64 x72.2]) ent23 rfl fun w s => thronglaw27_num_walk x72.2 w  hx74) rfl rfl ?_
     refine RS.p (Pu.bin rfl rfl rfl) rfl rfl ?_
     refine RS.nil (hK32 _ _ ?_)
     refine T.condP rfl (fun hc75 => ?_) (fun hc75 => ?_)
     ·have H := ifT hc75 H
      refine T.exitTo (by with_reducible (repeat (first | exact ExTo.here | exact ExTo.hereN | exact ExTo.deep (by repeat (first | exact NmTo.seq | apply NmTo.blk)) | apply ExTo.seq | refine ExTo.past (by decide) ?_))) (hK29 _ _ (T.conseq (fr' := [(1, _), (3, _), (4, _), (5, _)]) ?_ ⟨rfl, rfl, rfl, rfl, trivial⟩ (fun _ s => s)))
      refine T.region ?_
      refine RS.p (Pu.move rfl) rfl rfl ?_
      obtain ⟨g76, H⟩ := gdE H
      refine RS.p (Pu.addS rfl rfl g76) rfl rfl ?_
      refine RS.p (Pu.assign rfl) rfl rfl ?_
      refine RS.nil (hL4 _ _ (l55, v57, (v58 + 1)) q56 H ⟨rfl, trivial⟩ ⟨rfl, rfl, rfl, trivial⟩ (fun w s => s.pick [0, 1] (by decide) rfl))
     ·have H := ifF hc75 H
      refine T.skip (hK31 _ _ (T.conseq (fr' := [(1, _), (3, _), (4, _), (5, _), (6, _)]) ?_ ⟨rfl, rfl, rfl, rfl, rfl, trivial⟩ (fun _ s => s)))
      refine T.seq fun K33 hK33 => ?_
      refine T.region ?_
      refine RS.p (Pu.move rfl) rfl rfl ?_
      refine RS.p (Pu.fieldAddr fd38_1 rfl) rfl rfl ?_
      refine RS.q (Qt.ldB 0 ty24 rfl rfl rfl) rfl rfl ?_
      refine RS.p (Pu.move rfl) rfl rfl ?_
      obtain ⟨g77, H⟩ := gdE H
      refine RS.p (Pu.indexSl sl24 rfl rfl g77) rfl rfl ?_
      obtain ⟨c78, hc79, ha80⟩ := R_el (α := Inp) h1 g77
      obtain ⟨u81, rfl, hu81⟩ := hc79
      obtain ⟨p82, cc83, rfl⟩ := R_form hu81
      refine RS.q (Qt.ldZ (cs := [_, _, _]) ty50 rfl ha80 Held.base rfl) rfl rfl ?_
      obtain ⟨x84, hx84, H⟩ := bindE H
      refine RS.solid (Sd.callN (vs := [rowV q73 x72.1.length, .agg #[.int .i64 ((gi a0_p.more v58).turn), .int .i64 ((gi a0_p.more v58).player), .slice p82 ((gi a0_p.more v58).commands).length cc83]]) ent48 rfl (fun w s => turns_Put_walk x72.1 (gi a0_p.more v58) w ((Rd.ofG 2 rfl) w s) ((Rd.base hu81) w s) hx84)) rfl rfl fun q85 => ?_
      refine RS.p (Pu.move rfl) rfl rfl ?_
      refine RS.p (Pu.extract rfl rfl) rfl rfl ?_
      refine RS.p (Pu.extract rfl rfl) rfl rfl ?_
      refine RS.p (Pu.assign rfl) rfl rfl ?_
      refine RS.p (Pu.assign rfl) rfl rfl ?_
      refine RS.nil (hK33 _ _ (T.conseq (fr' := [(1, _), (3, _), (4, _), (5, _), (6, _), (9, _)]) ?_ ⟨rfl, rfl, rfl, rfl, rfl, rfl, trivial⟩ (fun _ s => s)))
      refine T.seq fun K34 hK34 => ?_
      refine T.seq fun K35 hK35 => ?_
      refine T.region ?_
      refine RS.p (Pu.move rfl) rfl rfl ?_
      obtain ⟨x86, hx86, H⟩ := bindE H
      refine RS.q (Qt.call (vs := [.int .i64 x84.2]) ent23 rfl fun w s => thronglaw27_num_walk x84.2 w  hx86) rfl rfl ?_
      refine RS.p (Pu.bin rfl rfl rfl) rfl rfl ?_
      refine RS.p (Pu.move rfl) rfl rfl ?_
      obtain ⟨g89, H⟩ := gdE H
      refine RS.joinV 7 61 (.bool (decide ((¬ x86 = 12) ∨ (¬ (x72.1.length : Int) = ((l55.length : Int) + 1))))) [(1, _), (4, _), (5, _), (6, _)] ⟨rfl, rfl, rfl, rfl, trivial⟩ ?_ ?_
      ·refine RS.nil (hK35 _ _ ?_)
       refine T.condP rfl (fun hc90 => ?_) (fun hc90 => ?_)
       ·have H := ifT hc90 H
        refine T.conseq (fr' := []) ?_ trivial (fun _ s => s)
        refine T.seq fun K36 hK36 => ?_
        refine T.region ?_
        refine RS.p (Pu.assign rfl) rfl rfl ?_
        refine RS.nil (hK36 _ _ ?_)
        obtain rfl := hd4 _ H
        have H := HX4
        obtain rfl := Option.some.inj H
        refine T.retTo (by with_reducible ((repeat (first | apply RetTo.seq | apply RetTo.blk)); exact RetTo.refl _)) (Cont.ret1 rfl rfl fun w' s => ?_)
        exact ⟨rfl, s.ext⟩
       ·have H := ifF hc90 H
        refine T.skip (hK34 _ _ ?_)
        refine T.seq fun K37 hK37 => ?_
        refine T.region ?_
        refine RS.p (Pu.move rfl) rfl rfl ?_
        refine RS.p (Pu.assign rfl) rfl rfl ?_
        refine RS.nil (hK37 _ _ (T.conseq (fr' := [(1, _), (3, _), (4, _), (5, _)]) ?_ ⟨rfl, rfl, rfl, rfl, trivial⟩ (fun _ s => s)))
        refine T.region ?_
        refine RS.p (Pu.move rfl) rfl rfl ?_
        obtain ⟨g91, H⟩ := gdE H
        refine RS.p (Pu.addS rfl rfl g91) rfl rfl ?_
        refine RS.p (Pu.assign rfl) rfl rfl ?_
        refine RS.nil (hK29 _ _ ?_)
        refine T.region ?_
        refine RS.p (Pu.move rfl) rfl rfl ?_
        obtain ⟨g92, H⟩ := gdE H
        refine RS.p (Pu.addS rfl rfl g92) rfl rfl ?_
        refine RS.p (Pu.assign rfl) rfl rfl ?_
        refine RS.nil (hL4 _ _ (x72.1, (v57 + 1), (v58 + 1)) q73 H ⟨rfl, trivial⟩ ⟨rfl, rfl, rfl, trivial⟩ (fun w s => s.pick [0, 2] (by decide) rfl))
      ·intro hJ88
       refine RS.splitP 54 rfl (fun hc87 => ?_) (fun hc87 => ?_)
       ·refine RS.no rfl rfl ?_
        refine RS.no rfl rfl ?_
        refine RS.no rfl rfl ?_
        refine RS.no rfl rfl ?_
        refine RS.no rfl rfl ?_
        refine RS.no rfl rfl ?_
        refine RS.p (Pu.pickT rfl rfl) rfl rfl ?_
        exact hJ88 _ _ ⟨dOrT hc87, rfl, rfl, rfl, rfl, trivial⟩ (fun w s => s)
       ·refine RS.p (Pu.move rfl) rfl rfl ?_
        refine RS.p (Pu.lenSl sl24 rfl) rfl rfl ?_
        refine RS.p (Pu.move rfl) rfl rfl ?_
        refine RS.p (Pu.lenSl sl24 rfl) rfl rfl ?_
        refine RS.p (Pu.addS rfl rfl (g89 hc87)) rfl rfl ?_
        refine RS.p (Pu.bin rfl rfl rfl) rfl rfl ?_
        refine RS.p (Pu.pickF rfl rfl) rfl rfl ?_
        exact hJ88 _ _ ⟨dOrF hc87, rfl, rfl, rfl, rfl, trivial⟩ (fun w s => s)
    ·have H := ifF hc62 H
     obtain rfl := hd4 _ H
     refine T.exitTo (by with_reducible (repeat (first | exact ExTo.here | exact ExTo.hereN | exact ExTo.deep (by repeat (first | exact NmTo.seq | apply NmTo.blk)) | apply ExTo.seq | refine ExTo.past (by decide) ?_))) (hJ4 _ _ (v57, l55) q56 HX4 ⟨rfl, trivial⟩ ⟨rfl, rfl, trivial⟩ (fun w s => s))
   ·intro hJ61
    refine RS.splitP 22 rfl (fun hc60 => ?_) (fun hc60 => ?_)
    ·refine RS.p (Pu.move rfl) rfl rfl ?_
     refine RS.p (Pu.bin rfl rfl rfl) rfl rfl ?_
     refine RS.p (Pu.pickT rfl rfl) rfl rfl ?_
     exact hJ61 _ _ ⟨dAndT hc60, rfl, rfl, rfl, rfl, trivial⟩ (fun w s => s)
    ·refine RS.no rfl rfl ?_
     refine RS.no rfl rfl ?_
     refine RS.p (Pu.pickF rfl rfl) rfl rfl ?_
     exact hJ61 _ _ ⟨dAndF hc60, rfl, rfl, rfl, rfl, trivial⟩ (fun w s => s)
end Go.Proofs.Ytlpmiledfcblfaa
