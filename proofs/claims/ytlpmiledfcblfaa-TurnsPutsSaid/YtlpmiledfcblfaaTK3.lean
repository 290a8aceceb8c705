/-
  Walk of TurnsPuts.
-/
import Derived.Test.YtlpmiledfcblfaaRows
import Derived.Test.YtlpmiledfcblfaaTK
import Derived.Test.YtlpmiledfcblfaaTG3
set_option linter.unusedVariables false
set_option linter.unusedSimpArgs false
set_option maxRecDepth 20000
set_option maxHeartbeats 4000000
namespace Go.Proofs.Ytlpmiledfcblfaa
open Go.Vg
open Enc (R)
theorem ent19 : Ent Try.prog 19 := ⟨_, _, Try.func19, by kernel_rfl, rfl⟩
theorem ent25 : Ent Try.prog 25 := ⟨_, _, Try.func25, by kernel_rfl, rfl⟩
theorem ent27 : Ent Try.prog 27 := ⟨_, _, Try.func27, by kernel_rfl, rfl⟩
theorem ent36 : Ent Try.prog 36 := ⟨_, _, Try.func36, by kernel_rfl, rfl⟩
theorem ent39 : Ent Try.prog 39 := ⟨_, _, Try.func39, by kernel_rfl, rfl⟩
theorem ent48 : Ent Try.prog 48 := ⟨_, _, Try.func48, by kernel_rfl, rfl⟩
theorem ty38 : tySz Try.prog 38 = some (3, true) := by kernel_rfl
theorem thronglaw27_TurnsPuts_walk (a0_p : Ask27) (w : World) {v0 v1 v2 : Value} (h0 : R (hpOf w) a0_p.l [v0]) (h1 : R (hpOf w) a0_p.more [v1]) (h2 : R (hpOf w) a0_p.ts [v2]) {r : Bool} (H : thronglaw27_TurnsPuts a0_p = some r) : Calls Try.prog 12 #[.agg #[v0, v1, v2]] w fun e w' => e = .returned (.bool r) ∧ Ext w w' := by
 have hm0 := R_max h0
 obtain ⟨p0, c0, rfl⟩ := R_form h0
 have hm1 := R_max h1
 obtain ⟨p1, c1, rfl⟩ := R_form h1
 have hm2 := R_max h2
 obtain ⟨p2, c2, rfl⟩ := R_form h2
 unfold thronglaw27_TurnsPuts at H
 refine T.enter (args := [_]) (S := Sat w []) Try.func12 rfl rfl (Sat.start w) ?_
 refine T.seq fun K1 hK1 => ?_
 refine T.region ?_
 refine RS.solid (Sd.box (cs := [_, _, _]) rfl rfl) rfl rfl fun b1 => ?_
 refine RS.p (Pu.assign rfl) rfl rfl ?_
 refine RS.nil (hK1 _ _ ?_)
 refine T.seq fun K2 hK2 => ?_
 refine T.seq fun K3 hK3 => ?_
 refine T.region ?_
 refine RS.q (Qt.ldBA (us := [_, _, _]) 0 ty38 rfl rfl rfl rfl) rfl rfl ?_
 obtain ⟨x2, hx2, H⟩ := bindE H
 refine RS.q (Qt.call (vs := [.agg #[.slice p0 a0_p.l.length c0, .slice p1 a0_p.more.length c1, .slice p2 a0_p.ts.length c2]]) ent19 rfl fun w s => thronglaw27_heavy_walk a0_p w ((Rd.base h0) w s) ((Rd.base h1) w s) ((Rd.base h2) w s) hx2) rfl rfl ?_
 refine RS.nil (hK3 _ _ ?_)
 refine T.cond rfl (fun hc3 => ?_) (fun hc3 => ?_)
 ·have H := ifT hc3 H
  refine T.conseq (fr' := []) ?_ trivial (fun _ s => s)
  refine T.seq fun K4 hK4 => ?_
  refine T.region ?_
  refine RS.p (Pu.assign rfl) rfl rfl ?_
  refine RS.nil (hK4 _ _ ?_)
  obtain rfl := Option.some.inj H
  refine T.retTo (by with_reducible ((repeat (first | apply RetTo.seq | apply RetTo.blk)); exact RetTo.refl _)) (Cont.ret1 rfl rfl fun w' s => ?_)
  exact ⟨rfl, s.ext⟩
 ·have H := ifB hc3 H
  refine T.skip (hK2 _ _ (T.conseq (fr' := [(1, _)]) ?_ ⟨rfl, trivial⟩ (fun _ s => s)))
  refine T.seq fun K5 hK5 => ?_
  refine T.region ?_
  refine RS.p (Pu.fieldAddr fd38_0 rfl) rfl rfl ?_
  refine RS.q (Qt.ldB 0 ty24 rfl rfl rfl) rfl rfl ?_
  obtain ⟨x4, hx4, H⟩ := bindE H
  refine RS.solid (Sd.callN (vs := [.slice p0 a0_p.l.length c0]) ent20 rfl (fun w s => throngref0_CopyInputs_walk a0_p.l w ((Rd.base h0) w s) hx4)) rfl rfl fun q5 => ?_
  refine RS.p (Pu.assign rfl) rfl rfl ?_
  refine RS.nil (hK5 _ _ (T.conseq (fr' := [(1, _), (3, _)]) ?_ ⟨rfl, rfl, trivial⟩ (fun _ s => s)))
  refine T.seq fun K6 hK6 => ?_
  refine T.seq fun K7 hK7 => ?_
  refine T.region ?_
  refine RS.p (Pu.assign rfl) rfl rfl ?_
  refine RS.nil (hK7 _ _ ?_)
  refine T.joinE (σ := Unit) (γ := Unit) H Ex.go [] trivial (fun _ _ => []) (fun _ _ => Sat w [blk b1 [.slice p0 a0_p.l.length c0, .slice p1 a0_p.more.length c1, .slice p2 a0_p.ts.length c2] 38, dead]) ?_ ?_
  ·rintro ⟨⟩ ⟨⟩ H
   try dsimp only [Ex.then] at H
   refine Cont.conseq (fr' := []) ?_ trivial (fun _ s => s)
   refine id (hK6 _ _ ?_)
   refine T.seq fun K8 hK8 => ?_
   refine T.region ?_
   obtain ⟨x7, hx7, H⟩ := bindE H
   refine RS.q (Qt.call (vs := []) ent27 rfl fun w s => thronglaw27_wakes_walk  w  hx7) rfl rfl ?_
   refine RS.p (Pu.assign rfl) rfl rfl ?_
   refine RS.nil (hK8 _ _ ?_)
   obtain rfl := Option.some.inj H
   refine T.retTo (by with_reducible ((repeat (first | apply RetTo.seq | apply RetTo.blk)); exact RetTo.refl _)) (Cont.ret1 rfl rfl fun w' s => ?_)
   exact ⟨rfl, s.ext⟩
  ·intro z6 hz6 HX6 hJ6
   refine T.block ?_
   refine T.loopA (γ := (Option Nat × Nat)) hz6 [(1, _)] (fun (v8, l9) q10 => [(3, rowV q10 l9.length), (4, .int .i64 v8)]) (fun (v8, l9) q10 => Sat w [blk b1 [.slice p0 a0_p.l.length c0, .slice p1 a0_p.more.length c1, .slice p2 a0_p.ts.length c2] 38, drow 50 (rowV q10 l9.length) l9]) q5 ⟨rfl, trivial⟩ ⟨rfl, rfl, trivial⟩ (fun w s => s) ?_
   rintro ⟨v8, l9⟩ q10 y11 H hd6 KL6 hL6
   try dsimp only [Ex.then] at H
   refine T.conseq (fr' := [(3, _), (4, _), (1, _)]) ?_ ⟨rfl, rfl, rfl, trivial⟩ (fun _ s => s)
   refine T.seq fun K9 hK9 => ?_
   refine T.seq fun K10 hK10 => ?_
   refine T.region ?_
   refine RS.p (Pu.move rfl) rfl rfl ?_
   refine RS.p (Pu.fieldAddr fd38_1 rfl) rfl rfl ?_
   refine RS.q (Qt.ldB 0 ty24 rfl rfl rfl) rfl rfl ?_
   refine RS.p (Pu.lenSl sl24 rfl) rfl rfl ?_
   refine RS.p (Pu.bin rfl rfl rfl) rfl rfl ?_
   refine RS.p (Pu.move rfl) rfl rfl ?_
   refine RS.joinV 3 23 (.bool (decide ((v8 < (a0_p.more.length : Int)) ∧ (v8 < 10)))) [(1, _), (3, _), (4, _)] ⟨rfl, rfl, rfl, trivial⟩ ?_ ?_
   ·refine RS.nil (hK10 _ _ ?_)
    refine T.condP rfl (fun hc14 => ?_) (fun hc14 => ?_)
    ·have H := ifT hc14 H
     refine T.skip (hK9 _ _ ?_)
     refine T.seq fun K11 hK11 => ?_
     refine T.block ?_
     refine T.seq fun K12 hK12 => ?_
     refine T.region ?_
     refine RS.p (Pu.assign rfl) rfl rfl ?_
     refine RS.p (Pu.assign rfl) rfl rfl ?_
     refine RS.nil (hK12 _ _ ?_)
     refine T.seq fun K13 hK13 => ?_
     refine T.seq fun K14 hK14 => ?_
     refine T.region ?_
     refine RS.p (Pu.move rfl) rfl rfl ?_
     obtain ⟨x15, hx15, H⟩ := bindE H
     refine RS.q (Qt.call (vs := [rowV q10 l9.length]) ent36 rfl fun w s => throngref27_List_walk l9 w ((Rd.ofG 1 rfl) w s) hx15) rfl rfl ?_
     refine RS.p (Pu.move rfl) rfl rfl ?_
     refine RS.joinB H 7 35 (fun b18 => .bool b18) [(1, _), (3, _), (4, _), (5, _), (6, _)] ⟨rfl, rfl, rfl, rfl, rfl, trivial⟩ ?_ ?_
     ·intro b18 H
      refine RS.nil (hK14 _ _ ?_)
      refine T.joinE (σ := Int × List Inp) (γ := (Option Nat × Nat)) H (fun s => s) [(1, _), (3, _), (4, _)] ⟨rfl, rfl, rfl, trivial⟩ (fun (v20, v21) q22 => [(5, .int .i64 v20), (6, rowV q22 v21.length)]) (fun (v20, v21) q22 => Sat w [blk b1 [.slice p0 a0_p.l.length c0, .slice p1 a0_p.more.length c1, .slice p2 a0_p.ts.length c2] 38, drow 50 (rowV q10 l9.length) l9, drow 50 (rowV q22 v21.length) v21]) ?_ ?_
      ·rintro ⟨v20, v21⟩ q22 H
       try dsimp only [Ex.then] at H
       refine Cont.conseq (fr' := [(5, _), (6, _), (1, _), (3, _), (4, _)]) ?_ ⟨rfl, rfl, rfl, rfl, rfl, trivial⟩ (fun _ s => s)
       refine id (hK13 _ _ ?_)
       refine T.seq fun K15 hK15 => ?_
       refine T.region ?_
       refine RS.p (Pu.move rfl) rfl rfl ?_
       obtain ⟨x23, hx23, H⟩ := bindE H
       refine RS.solid (Sd.callN (vs := [rowV q10 l9.length]) ent20 rfl (fun w s => throngref0_CopyInputs_walk l9 w ((Rd.ofG 1 rfl) w s) hx23)) rfl rfl fun q24 => ?_
       refine RS.p (Pu.assign rfl) rfl rfl ?_
       refine RS.nil (hK15 _ _ ?_)
       refine T.seq fun K16 hK16 => ?_
       refine T.region ?_
       refine RS.p (Pu.move rfl) rfl rfl ?_
       refine RS.p (Pu.fieldAddr fd38_1 rfl) rfl rfl ?_
       refine RS.q (Qt.ldB 0 ty24 rfl rfl rfl) rfl rfl ?_
       refine RS.p (Pu.move rfl) rfl rfl ?_
       obtain ⟨g25, H⟩ := gdE H
       obtain ⟨bl26, ol27, rfl⟩ := R_ptr h1 (ne_of_pos (pos_of g25))
       refine RS.p (Pu.indexSl sl24 rfl rfl g25) rfl rfl ?_
       obtain ⟨c28, hc29, ha30⟩ := R_el (α := Inp) h1 g25
       obtain ⟨u31, rfl, hu31⟩ := hc29
       obtain ⟨p32, cc33, rfl⟩ := R_form hu31
       refine RS.q (Qt.ldZ (cs := [_, _, _]) ty50 rfl ha30 Held.base rfl) rfl rfl ?_
       obtain ⟨x34, hx34, H⟩ := bindE H
       refine RS.solid (Sd.callN (vs := [.agg #[.int .i64 ((gi a0_p.more v8).turn), .int .i64 ((gi a0_p.more v8).player), .slice p32 ((gi a0_p.more v8).commands).length cc33]]) ent28 rfl (fun w s => throngref0_CopyInput_walk (gi a0_p.more v8) w ((Rd.base hu31) w s) hx34)) rfl rfl fun q35 => ?_
       obtain ⟨x36, hx36, H⟩ := bindE H
       refine RS.solid (Sd.callN (vs := [rowV q24 x23.length, .agg #[.int .i64 x34.turn, .int .i64 x34.player, rowV q35 x34.commands.length]]) ent48 rfl (fun w s => turns_Put_walk x23 x34 w ((Rd.ofG 3 rfl) w s) ((Rd.ofG 4 rfl) w s) hx36)) rfl rfl fun q37 => ?_
       refine RS.p (Pu.move rfl) rfl rfl ?_
       refine RS.p (Pu.extract rfl rfl) rfl rfl ?_
       refine RS.p (Pu.extract rfl rfl) rfl rfl ?_
       refine RS.p (Pu.assign rfl) rfl rfl ?_
       refine RS.p (Pu.assign rfl) rfl rfl ?_
       refine RS.nil (hK16 _ _ (T.conseq (fr' := [(1, _), (3, _), (4, _), (5, _), (6, _), (7, _), (8, _), (9, _)]) ?_ ⟨rfl, rfl, rfl, rfl, rfl, rfl, rfl, rfl, trivial⟩ (fun _ s => s)))
       refine T.seq fun K17 hK17 => ?_
       refine T.seq fun K18 hK18 => ?_
       refine T.region ?_
       refine RS.p (Pu.move rfl) rfl rfl ?_
       obtain ⟨x38, hx38, H⟩ := bindE H
       refine RS.q (Qt.call (vs := [.int .i64 x36.2]) ent23 rfl fun w s => thronglaw27_num_walk x36.2 w  hx38) rfl rfl ?_
       refine RS.p (Pu.move rfl) rfl rfl ?_
       refine RS.p (Pu.bin rfl rfl rfl) rfl rfl ?_
       refine RS.p (Pu.move rfl) rfl rfl ?_
       refine RS.joinB H 5 68 (fun b41 => .bool b41) [(1, _), (3, _), (4, _), (5, _), (6, _), (7, _), (8, _)] ⟨rfl, rfl, rfl, rfl, rfl, rfl, rfl, trivial⟩ ?_ ?_
       ·intro b41 H
        refine RS.p (Pu.move rfl) rfl rfl ?_
        refine RS.joinB H 5 74 (fun b44 => .bool b44) [(1, _), (3, _), (4, _), (5, _), (6, _), (7, _), (8, _)] ⟨rfl, rfl, rfl, rfl, rfl, rfl, rfl, trivial⟩ ?_ ?_
        ·intro b44 H
         refine RS.nil (hK18 _ _ ?_)
         refine T.cond rfl (fun hc45 => ?_) (fun hc45 => ?_)
         ·have H := ifT hc45 H
          refine T.conseq (fr' := []) ?_ trivial (fun _ s => s)
          refine T.seq fun K19 hK19 => ?_
          refine T.region ?_
          refine RS.p (Pu.assign rfl) rfl rfl ?_
          refine RS.nil (hK19 _ _ ?_)
          obtain rfl := hd6 _ H
          have H := HX6
          obtain rfl := Option.some.inj H
          refine T.retTo (by with_reducible ((repeat (first | apply RetTo.seq | apply RetTo.blk)); exact RetTo.refl _)) (Cont.ret1 rfl rfl fun w' s => ?_)
          exact ⟨rfl, s.ext⟩
         ·have H := ifB hc45 H
          refine T.skip (hK17 _ _ ?_)
          refine T.seq fun K20 hK20 => ?_
          refine T.region ?_
          refine RS.p (Pu.move rfl) rfl rfl ?_
          obtain ⟨x46, hx46, H⟩ := bindE H
          refine RS.solid (Sd.callF0 (vs := [rowV q37 x36.1.length]) (C' := dead) (v := .tuple #[]) 5 ent39 rfl rfl (fun w s => thronglaw0_Inputs_walk x36.1 rfl  hx46 w s)) rfl rfl fun _ => ?_
          refine RS.nil (hK20 _ _ (T.conseq (fr' := [(1, _), (3, _), (4, _), (5, _), (6, _), (7, _)]) ?_ ⟨rfl, rfl, rfl, rfl, rfl, rfl, trivial⟩ (fun _ s => s)))
          refine T.seq fun K21 hK21 => ?_
          refine T.seq fun K22 hK22 => ?_
          refine T.region ?_
          refine RS.p (Pu.move rfl) rfl rfl ?_
          refine RS.p (Pu.move rfl) rfl rfl ?_
          obtain ⟨x47, hx47, H⟩ := bindE H
          refine RS.q (Qt.call (vs := [rowV q24 x23.length, rowV q10 l9.length]) ent25 rfl fun w s => throngref0_EqInputs_walk x23 l9 w ((Rd.ofG 3 rfl) w s) ((Rd.ofG 1 rfl) w s) hx47) rfl rfl ?_
          refine RS.p (Pu.not rfl) rfl rfl ?_
          refine RS.nil (hK22 _ _ ?_)
          refine T.cond rfl (fun hc48 => ?_) (fun hc48 => ?_)
          ·have H := ifT hc48 H
           refine T.conseq (fr' := []) ?_ trivial (fun _ s => s)
           refine T.seq fun K23 hK23 => ?_
           refine T.region ?_
           refine RS.p (Pu.assign rfl) rfl rfl ?_
           refine RS.nil (hK23 _ _ ?_)
           obtain rfl := hd6 _ H
           have H := HX6
           obtain rfl := Option.some.inj H
           refine T.retTo (by with_reducible ((repeat (first | apply RetTo.seq | apply RetTo.blk)); exact RetTo.refl _)) (Cont.ret1 rfl rfl fun w' s => ?_)
           exact ⟨rfl, s.ext⟩
          ·have H := ifB hc48 H
           refine T.skip (hK21 _ _ (T.conseq (fr' := [(1, _), (3, _), (4, _), (5, _), (6, _)]) ?_ ⟨rfl, rfl, rfl, rfl, rfl, trivial⟩ (fun _ s => s)))
           refine T.seq fun K24 hK24 => ?_
           refine T.region ?_
           refine RS.p (Pu.move rfl) rfl rfl ?_
           refine RS.p (Pu.bin rfl rfl rfl) rfl rfl ?_
           refine RS.nil (hK24 _ _ ?_)
           refine T.condP rfl (fun hc49 => ?_) (fun hc49 => ?_)
           ·have H := ifT hc49 H
            refine T.conseq (fr' := [(1, _), (4, _), (6, _)]) ?_ ⟨rfl, rfl, rfl, trivial⟩ (fun _ s => s)
            refine T.region ?_
            refine RS.p (Pu.move rfl) rfl rfl ?_
            obtain ⟨x50, hx50, H⟩ := bindE H
            refine RS.solid (Sd.callN (vs := [rowV q22 v21.length]) ent20 rfl (fun w s => throngref0_CopyInputs_walk v21 w ((Rd.ofG 2 rfl) w s) hx50)) rfl rfl fun q51 => ?_
            refine RS.p (Pu.assign rfl) rfl rfl ?_
            refine RS.nil (hK11 _ _ (T.conseq (fr' := [(1, _), (3, _), (4, _)]) ?_ ⟨rfl, rfl, rfl, trivial⟩ (fun _ s => s)))
            refine T.region ?_
            refine RS.p (Pu.move rfl) rfl rfl ?_
            obtain ⟨g52, H⟩ := gdE H
            refine RS.p (Pu.addS rfl rfl g52) rfl rfl ?_
            refine RS.p (Pu.assign rfl) rfl rfl ?_
            refine RS.nil (hL6 _ _ ((v8 + 1), x50) q51 H ⟨rfl, trivial⟩ ⟨rfl, rfl, trivial⟩ (fun w s => s.pick [0, 6] (by decide) rfl))
           ·have H := ifF hc49 H
            refine T.skip (hK11 _ _ (T.conseq (fr' := [(1, _), (3, _), (4, _)]) ?_ ⟨rfl, rfl, rfl, trivial⟩ (fun _ s => s)))
            refine T.region ?_
            refine RS.p (Pu.move rfl) rfl rfl ?_
            obtain ⟨g53, H⟩ := gdE H
            refine RS.p (Pu.addS rfl rfl g53) rfl rfl ?_
            refine RS.p (Pu.assign rfl) rfl rfl ?_
            refine RS.nil (hL6 _ _ ((v8 + 1), l9) q10 H ⟨rfl, trivial⟩ ⟨rfl, rfl, trivial⟩ (fun w s => s.pick [0, 1] (by decide) rfl))
        ·intro z54 H hJ43
         refine RS.split 69 rfl (fun hc42 => ?_) (fun hc42 => ?_)
         ·have H := ifT hc42 H
          refine RS.no rfl rfl ?_
          refine RS.no rfl rfl ?_
          refine RS.no rfl rfl ?_
          refine RS.no rfl rfl ?_
          refine RS.p (Pu.pickT rfl rfl) rfl rfl ?_
          obtain rfl := Option.some.inj H
          exact hJ43 _ _ ⟨rfl, rfl, rfl, rfl, rfl, rfl, rfl, rfl, trivial⟩ (fun w s => s)
         ·have H := ifB hc42 H
          refine RS.p (Pu.move rfl) rfl rfl ?_
          refine RS.p (Pu.move rfl) rfl rfl ?_
          obtain ⟨x55, hx55, H⟩ := bindE H
          refine RS.q (Qt.call (vs := [rowV q24 x23.length, rowV q10 l9.length]) ent25 rfl fun w s => throngref0_EqInputs_walk x23 l9 w ((Rd.ofG 3 rfl) w s) ((Rd.ofG 1 rfl) w s) hx55) rfl rfl ?_
          refine RS.p (Pu.not rfl) rfl rfl ?_
          refine RS.p (Pu.pickF rfl rfl) rfl rfl ?_
          obtain rfl := Option.some.inj H
          exact hJ43 _ _ ⟨rfl, rfl, rfl, rfl, rfl, rfl, rfl, rfl, trivial⟩ (fun w s => s)
       ·intro z56 H hJ40
        refine RS.splitP 63 rfl (fun hc39 => ?_) (fun hc39 => ?_)
        ·have H := ifT hc39 H
         refine RS.no rfl rfl ?_
         refine RS.no rfl rfl ?_
         refine RS.no rfl rfl ?_
         refine RS.no rfl rfl ?_
         refine RS.p (Pu.pickT rfl rfl) rfl rfl ?_
         obtain rfl := Option.some.inj H
         exact hJ40 _ _ ⟨rfl, rfl, rfl, rfl, rfl, rfl, rfl, rfl, trivial⟩ (fun w s => s)
        ·have H := ifF hc39 H
         refine RS.p (Pu.move rfl) rfl rfl ?_
         refine RS.p (Pu.move rfl) rfl rfl ?_
         obtain ⟨x57, hx57, H⟩ := bindE H
         refine RS.q (Qt.call (vs := [rowV q37 x36.1.length, rowV q22 v21.length]) ent25 rfl fun w s => throngref0_EqInputs_walk x36.1 v21 w ((Rd.ofG 5 rfl) w s) ((Rd.ofG 2 rfl) w s) hx57) rfl rfl ?_
         refine RS.p (Pu.not rfl) rfl rfl ?_
         refine RS.p (Pu.pickF rfl rfl) rfl rfl ?_
         obtain rfl := Option.some.inj H
         exact hJ40 _ _ ⟨rfl, rfl, rfl, rfl, rfl, rfl, rfl, rfl, trivial⟩ (fun w s => s)
      ·intro z19 H HX19 hJ19
       refine T.cond rfl (fun hc58 => ?_) (fun hc58 => ?_)
       ·have H := ifT hc58 H
        refine T.conseq (fr' := [(1, _), (3, _), (4, _)]) ?_ ⟨rfl, rfl, rfl, trivial⟩ (fun _ s => s)
        refine T.region ?_
        refine RS.p (Pu.move rfl) rfl rfl ?_
        refine RS.p (Pu.fieldAddr fd38_1 rfl) rfl rfl ?_
        refine RS.q (Qt.ldB 0 ty24 rfl rfl rfl) rfl rfl ?_
        refine RS.p (Pu.move rfl) rfl rfl ?_
        obtain ⟨g59, H⟩ := gdE H
        obtain ⟨bl60, ol61, rfl⟩ := R_ptr h1 (ne_of_pos (pos_of g59))
        refine RS.p (Pu.indexSl sl24 rfl rfl g59) rfl rfl ?_
        obtain ⟨c62, hc63, ha64⟩ := R_el (α := Inp) h1 g59
        obtain ⟨u65, rfl, hu65⟩ := hc63
        obtain ⟨p66, cc67, rfl⟩ := R_form hu65
        refine RS.q (Qt.ldZ (cs := [_, _, _]) ty50 rfl ha64 Held.base rfl) rfl rfl ?_
        obtain ⟨x68, hx68, H⟩ := bindE H
        refine RS.solid (Sd.callN (vs := [rowV q10 l9.length, .agg #[.int .i64 ((gi a0_p.more v8).turn), .int .i64 ((gi a0_p.more v8).player), .slice p66 ((gi a0_p.more v8).commands).length cc67]]) ent47 rfl (fun w s => throngref27_Put_walk l9 (gi a0_p.more v8) w ((Rd.ofG 1 rfl) w s) ((Rd.base hu65) w s) hx68)) rfl rfl fun q69 => ?_
        refine RS.p (Pu.move rfl) rfl rfl ?_
        refine RS.p (Pu.extract rfl rfl) rfl rfl ?_
        refine RS.p (Pu.extract rfl rfl) rfl rfl ?_
        refine RS.p (Pu.assign rfl) rfl rfl ?_
        refine RS.p (Pu.assign rfl) rfl rfl ?_
        obtain rfl := Option.some.inj H
        refine RS.nil (hJ19 _ _ (x68.2, x68.1) q69 HX19 ⟨rfl, rfl, rfl, trivial⟩ ⟨rfl, rfl, trivial⟩ (fun w s => s))
       ·have H := ifB hc58 H
        obtain rfl := Option.some.inj H
        refine T.skip (hJ19 _ _ (1, []) (none, 0) HX19 ⟨rfl, rfl, rfl, trivial⟩ ⟨rfl, rfl, trivial⟩ (fun w s => (s.nilRowG (α := Inp) 50).pick [0, 1, 2] (by decide) rfl))
     ·intro z70 H hJ17
      refine RS.split 28 rfl (fun hc16 => ?_) (fun hc16 => ?_)
      ·have H := ifT hc16 H
       refine RS.p (Pu.fieldAddr fd38_1 rfl) rfl rfl ?_
       refine RS.q (Qt.ldB 0 ty24 rfl rfl rfl) rfl rfl ?_
       refine RS.p (Pu.move rfl) rfl rfl ?_
       obtain ⟨g71, H⟩ := gdE H
       obtain ⟨bl72, ol73, rfl⟩ := R_ptr h1 (ne_of_pos (pos_of g71))
       refine RS.p (Pu.indexSl sl24 rfl rfl g71) rfl rfl ?_
       obtain ⟨c74, hc75, ha76⟩ := R_el (α := Inp) h1 g71
       obtain ⟨u77, rfl, hu77⟩ := hc75
       obtain ⟨p78, cc79, rfl⟩ := R_form hu77
       refine RS.q (Qt.ldZ (cs := [_, _, _]) ty50 rfl ha76 Held.base rfl) rfl rfl ?_
       obtain ⟨x80, hx80, H⟩ := bindE H
       refine RS.q (Qt.call (vs := [.agg #[.int .i64 ((gi a0_p.more v8).turn), .int .i64 ((gi a0_p.more v8).player), .slice p78 ((gi a0_p.more v8).commands).length cc79]]) ent30 rfl fun w s => throngref27_May_walk (gi a0_p.more v8) w ((Rd.base hu77) w s) hx80) rfl rfl ?_
       refine RS.p (Pu.pickT rfl rfl) rfl rfl ?_
       obtain rfl := Option.some.inj H
       exact hJ17 _ _ ⟨rfl, rfl, rfl, rfl, rfl, rfl, trivial⟩ (fun w s => s)
      ·have H := ifB hc16 H
       refine RS.no rfl rfl ?_
       refine RS.no rfl rfl ?_
       refine RS.no rfl rfl ?_
       refine RS.no rfl rfl ?_
       refine RS.no rfl rfl ?_
       refine RS.no rfl rfl ?_
       refine RS.p (Pu.pickF rfl rfl) rfl rfl ?_
       obtain rfl := Option.some.inj H
       exact hJ17 _ _ ⟨rfl, rfl, rfl, rfl, rfl, rfl, trivial⟩ (fun w s => s)
    ·have H := ifF hc14 H
     obtain rfl := hd6 _ H
     refine T.exitTo (by with_reducible (repeat (first | exact ExTo.here | exact ExTo.hereN | exact ExTo.deep (by repeat (first | exact NmTo.seq | apply NmTo.blk)) | apply ExTo.seq | refine ExTo.past (by decide) ?_))) (hJ6 _ _ () () HX6 trivial trivial (fun w s => (s.deadRow).pick [0, 2] (by decide) rfl))
   ·intro hJ13
    refine RS.splitP 20 rfl (fun hc12 => ?_) (fun hc12 => ?_)
    ·refine RS.p (Pu.move rfl) rfl rfl ?_
     refine RS.p (Pu.bin rfl rfl rfl) rfl rfl ?_
     refine RS.p (Pu.pickT rfl rfl) rfl rfl ?_
     exact hJ13 _ _ ⟨dAndT hc12, rfl, rfl, rfl, trivial⟩ (fun w s => s)
    ·refine RS.no rfl rfl ?_
     refine RS.no rfl rfl ?_
     refine RS.p (Pu.pickF rfl rfl) rfl rfl ?_
     exact hJ13 _ _ ⟨dAndF hc12, rfl, rfl, rfl, trivial⟩ (fun w s => s)
end Go.Proofs.Ytlpmiledfcblfaa
