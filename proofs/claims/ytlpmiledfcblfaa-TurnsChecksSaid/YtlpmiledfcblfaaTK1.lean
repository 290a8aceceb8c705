/-
  Walk of TurnsChecks.
-/
import Derived.Test.YtlpmiledfcblfaaRows
import Derived.Test.YtlpmiledfcblfaaTK
import Derived.Test.YtlpmiledfcblfaaTG1
set_option linter.unusedVariables false
set_option linter.unusedSimpArgs false
set_option maxRecDepth 20000
set_option maxHeartbeats 4000000
namespace Go.Proofs.Ytlpmiledfcblfaa
open Go.Vg
open Enc (R)
theorem ent19 : Ent Try.prog 19 := ⟨_, _, Try.func19, by kernel_rfl, rfl⟩
theorem ent27 : Ent Try.prog 27 := ⟨_, _, Try.func27, by kernel_rfl, rfl⟩
theorem ent29 : Ent Try.prog 29 := ⟨_, _, Try.func29, by kernel_rfl, rfl⟩
theorem ty38 : tySz Try.prog 38 = some (3, true) := by kernel_rfl
theorem ul4 : Try.prog.underlying 4 = some .bool := by kernel_rfl
theorem thronglaw27_TurnsChecks_walk (a0_p : Ask27) (w : World) {v0 v1 v2 : Value} (h0 : R (hpOf w) a0_p.l [v0]) (h1 : R (hpOf w) a0_p.more [v1]) (h2 : R (hpOf w) a0_p.ts [v2]) {r : Bool} (H : thronglaw27_TurnsChecks a0_p = some r) : Calls Try.prog 6 #[.agg #[v0, v1, v2]] w fun e w' => e = .returned (.bool r) ∧ Ext w w' := by
 have hm0 := R_max h0
 obtain ⟨p0, c0, rfl⟩ := R_form h0
 have hm1 := R_max h1
 obtain ⟨p1, c1, rfl⟩ := R_form h1
 have hm2 := R_max h2
 obtain ⟨p2, c2, rfl⟩ := R_form h2
 unfold thronglaw27_TurnsChecks at H
 refine T.enter (args := [_]) (S := Sat w []) Try.func6 rfl rfl (Sat.start w) ?_
 refine T.seq fun K1 hK1 => ?_
 refine T.region ?_
 refine RS.solid (Sd.box (cs := [_, _, _]) rfl rfl) rfl rfl fun b1 => ?_
 refine RS.p (Pu.assign rfl) rfl rfl ?_
 refine RS.nil (hK1 _ _ ?_)
 refine T.seq fun K2 hK2 => ?_
 refine T.seq fun K3 hK3 => ?_
 refine T.region ?_
 refine RS.q (Qt.ldBA (us := [_, _, _]) 0 ty38 rfl rfl rfl rfl) rfl rfl ?_
 obtain ⟨x2, hx2, H⟩ := bindE H
 refine RS.q (Qt.call (vs := [.agg #[.slice p0 a0_p.l.length c0, .slice p1 a0_p.more.length c1, .slice p2 a0_p.ts.length c2]]) ent19 rfl fun w s => thronglaw27_heavy_walk a0_p w ((Rd.base h0) w s) ((Rd.base h1) w s) ((Rd.base h2) w s) hx2) rfl rfl ?_
 refine RS.nil (hK3 _ _ ?_)
 refine T.cond rfl (fun hc3 => ?_) (fun hc3 => ?_)
 ·have H := ifT hc3 H
  refine T.conseq (fr' := []) ?_ trivial (fun _ s => s)
  refine T.seq fun K4 hK4 => ?_
  refine T.region ?_
  refine RS.p (Pu.assign rfl) rfl rfl ?_
  refine RS.nil (hK4 _ _ ?_)
  obtain rfl := Option.some.inj H
  refine T.retTo (by with_reducible ((repeat (first | apply RetTo.seq | apply RetTo.blk)); exact RetTo.refl _)) (Cont.ret1 rfl rfl fun w' s => ?_)
  exact ⟨rfl, s.ext⟩
 ·have H := ifB hc3 H
  refine T.skip (hK2 _ _ (T.conseq (fr' := [(1, _)]) ?_ ⟨rfl, trivial⟩ (fun _ s => s)))
  refine T.seq fun K5 hK5 => ?_
  refine T.seq fun K6 hK6 => ?_
  refine T.region ?_
  refine RS.p (Pu.assign rfl) rfl rfl ?_
  refine RS.nil (hK6 _ _ ?_)
  refine T.joinE (σ := Unit) (γ := Unit) H Ex.go [] trivial (fun _ _ => []) (fun _ _ => Sat w [blk b1 [.slice p0 a0_p.l.length c0, .slice p1 a0_p.more.length c1, .slice p2 a0_p.ts.length c2] 38]) ?_ ?_
  ·rintro ⟨⟩ ⟨⟩ H
   try dsimp only [Ex.then] at H
   refine Cont.conseq (fr' := []) ?_ trivial (fun _ s => s)
   refine id (hK5 _ _ ?_)
   refine T.seq fun K7 hK7 => ?_
   refine T.region ?_
   obtain ⟨x5, hx5, H⟩ := bindE H
   refine RS.q (Qt.call (vs := []) ent27 rfl fun w s => thronglaw27_wakes_walk  w  hx5) rfl rfl ?_
   refine RS.p (Pu.assign rfl) rfl rfl ?_
   refine RS.nil (hK7 _ _ ?_)
   obtain rfl := Option.some.inj H
   refine T.retTo (by with_reducible ((repeat (first | apply RetTo.seq | apply RetTo.blk)); exact RetTo.refl _)) (Cont.ret1 rfl rfl fun w' s => ?_)
   exact ⟨rfl, s.ext⟩
  ·intro z4 hz4 HX4 hJ4
   refine T.block ?_
   refine T.loopA (γ := Unit) hz4 [(1, _)] (fun v6 _ => [(3, .int .i64 v6)]) (fun v6 _ => Sat w [blk b1 [.slice p0 a0_p.l.length c0, .slice p1 a0_p.more.length c1, .slice p2 a0_p.ts.length c2] 38]) () ⟨rfl, trivial⟩ ⟨rfl, trivial⟩ (fun w s => s) ?_
   rintro v6 ⟨⟩ y7 H hd4 KL4 hL4
   try dsimp only [Ex.then] at H
   refine T.conseq (fr' := [(3, _), (1, _)]) ?_ ⟨rfl, rfl, trivial⟩ (fun _ s => s)
   refine T.seq fun K8 hK8 => ?_
   refine T.seq fun K9 hK9 => ?_
   refine T.region ?_
   refine RS.p (Pu.move rfl) rfl rfl ?_
   refine RS.p (Pu.fieldAddr fd38_1 rfl) rfl rfl ?_
   refine RS.q (Qt.ldB 0 ty24 rfl rfl rfl) rfl rfl ?_
   refine RS.p (Pu.lenSl sl24 rfl) rfl rfl ?_
   refine RS.p (Pu.bin rfl rfl rfl) rfl rfl ?_
   refine RS.p (Pu.move rfl) rfl rfl ?_
   refine RS.joinV 3 16 (.bool (decide ((v6 < (a0_p.more.length : Int)) ∧ (v6 < 30)))) [(1, _), (3, _)] ⟨rfl, rfl, trivial⟩ ?_ ?_
   ·refine RS.nil (hK9 _ _ ?_)
    refine T.condP rfl (fun hc10 => ?_) (fun hc10 => ?_)
    ·have H := ifT hc10 H
     refine T.skip (hK8 _ _ ?_)
     refine T.seq fun K10 hK10 => ?_
     refine T.block ?_
     refine T.seq fun K11 hK11 => ?_
     refine T.region ?_
     refine RS.p (Pu.fieldAddr fd38_1 rfl) rfl rfl ?_
     refine RS.q (Qt.ldB 0 ty24 rfl rfl rfl) rfl rfl ?_
     refine RS.p (Pu.move rfl) rfl rfl ?_
     obtain ⟨g11, H⟩ := gdE H
     obtain ⟨bl12, ol13, rfl⟩ := R_ptr h1 (ne_of_pos (pos_of g11))
     refine RS.p (Pu.indexSl sl24 rfl rfl g11) rfl rfl ?_
     obtain ⟨c14, hc15, ha16⟩ := R_el (α := Inp) h1 g11
     obtain ⟨u17, rfl, hu17⟩ := hc15
     obtain ⟨p18, cc19, rfl⟩ := R_form hu17
     refine RS.q (Qt.ldZ (cs := [_, _, _]) ty50 rfl ha16 Held.base rfl) rfl rfl ?_
     obtain ⟨x20, hx20, H⟩ := bindE H
     refine RS.solid (Sd.callN (vs := [.agg #[.int .i64 ((gi a0_p.more v6).turn), .int .i64 ((gi a0_p.more v6).player), .slice p18 ((gi a0_p.more v6).commands).length cc19]]) ent28 rfl (fun w s => throngref0_CopyInput_walk (gi a0_p.more v6) w ((Rd.base hu17) w s) hx20)) rfl rfl fun q21 => ?_
     refine RS.solid (Sd.alloc zr50 rfl) rfl rfl fun b22 => ?_
     refine RS.solid (Sd.stB (cs' := [_, _, _]) 2 ty50 rfl rfl rfl rfl rfl rfl rfl rfl) rfl rfl fun _ => ?_
     refine RS.nil (hK11 _ _ (T.conseq (fr' := [(1, _), (3, _), (4, _)]) ?_ ⟨rfl, rfl, rfl, trivial⟩ (fun _ s => s)))
     refine T.seq fun K12 hK12 => ?_
     refine T.region ?_
     refine RS.q (Qt.ldBA (us := [_, _, _]) 2 ty50 rfl rfl rfl rfl) rfl rfl ?_
     obtain ⟨x23, hx23, H⟩ := bindE H
     refine RS.q (Qt.call (vs := [.agg #[.int .i64 x20.turn, .int .i64 x20.player, rowV q21 x20.commands.length]]) ent29 rfl fun w s => turns_Check_walk x20 w ((Rd.ofG 1 rfl) w s) hx23) rfl rfl ?_
     obtain ⟨x24, hx24, H⟩ := bindE H
     refine RS.q (Qt.call (vs := [.int .i64 x23]) ent23 rfl fun w s => thronglaw27_num_walk x23 w  hx24) rfl rfl ?_
     refine RS.p (Pu.assign rfl) rfl rfl ?_
     refine RS.nil (hK12 _ _ (T.conseq (fr' := [(1, _), (3, _), (4, _), (5, _)]) ?_ ⟨rfl, rfl, rfl, rfl, trivial⟩ (fun _ s => s)))
     refine T.seq fun K13 hK13 => ?_
     refine T.drawn (fun _ => True) [(0, .pu), (1, .pu), (2, .pu), (3, .rd), (4, .pu), (5, .pu), (6, .rd), (7, .rd), (8, .pu), (9, .pu), (10, .pu), (11, .pu), (12, .pu), (13, .pu), (14, .pu), (15, .pu), (16, .pu), (17, .pu), (18, .rd), (19, .pu), (20, .rd), (21, .pu), (22, .pu), (23, .rd), (24, .rd), (25, .pu), (26, .pu)] mixed (ClE.sat _ _) (by kernel_rfl) ?_
     refine RD.p (fun _ _ => trivial) rfl (Pu.move rfl) rfl rfl ?_
     refine RD.p (fun _ _ => trivial) rfl (Pu.bin rfl rfl rfl) rfl rfl ?_
     refine RD.p (fun _ _ => trivial) rfl (Pu.fieldAddr fd38_1 rfl) rfl rfl ?_
     refine RD.q (fun _ _ => trivial) rfl (Qt.ldB 0 ty24 rfl rfl rfl) rfl rfl ?_
     refine RD.p (fun _ _ => trivial) rfl (Pu.move rfl) rfl rfl ?_
     obtain ⟨g25, H⟩ := gdE H
     refine RD.p (fun _ _ => trivial) rfl (Pu.indexSl sl24 rfl rfl g25) rfl rfl ?_
     obtain ⟨c26, hc27, ha28⟩ := R_el (α := Inp) h1 g25
     obtain ⟨u29, rfl, hu29⟩ := hc27
     obtain ⟨p30, cc31, rfl⟩ := R_form hu29
     refine RD.q (fun _ _ => trivial) rfl (Qt.ldZ (cs := [_, _, _]) ty50 rfl ha28 Held.base rfl) rfl rfl ?_
     obtain ⟨x32, hx32, H⟩ := bindE H
     refine RD.q (fun _ _ => trivial) rfl (Qt.call (vs := [.agg #[.int .i64 ((gi a0_p.more v6).turn), .int .i64 ((gi a0_p.more v6).player), .slice p30 ((gi a0_p.more v6).commands).length cc31]]) ent30 rfl fun w s => throngref27_May_walk (gi a0_p.more v6) w ((Rd.base hu29) w s) hx32) rfl rfl ?_
     refine RD.p (fun _ _ => trivial) rfl (Pu.neB ul4 rfl rfl) rfl rfl ?_
     refine RD.p (fun _ _ => trivial) rfl (Pu.move rfl) rfl rfl ?_
     refine RD.joinV 7 44 (.bool (decide ((¬ (decide (x24 = 0)) = x32) ∨ ((¬ x24 = 0) ∧ (¬ x24 = 1))))) [(1, _), (3, _), (4, _)] ⟨rfl, rfl, rfl, trivial⟩ ?_ ?_
     ·refine RD.p (fun _ _ => trivial) rfl (Pu.move rfl) rfl rfl ?_
      refine RD.joinB H 9 54 (fun b37 => .bool b37) [(1, _), (3, _)] ⟨rfl, rfl, trivial⟩ ?_ ?_
      ·intro b37 H
       refine RD.nil (hK13 _ _ ?_)
       refine T.cond rfl (fun hc38 => ?_) (fun hc38 => ?_)
       ·have H := ifT hc38 H
        refine T.conseq (fr' := []) ?_ trivial (fun _ s => s)
        refine T.seq fun K14 hK14 => ?_
        refine T.region ?_
        refine RS.p (Pu.assign rfl) rfl rfl ?_
        refine RS.nil (hK14 _ _ ?_)
        obtain rfl := hd4 _ H
        have H := HX4
        obtain rfl := Option.some.inj H
        refine T.retTo (by with_reducible ((repeat (first | apply RetTo.seq | apply RetTo.blk)); exact RetTo.refl _)) (Cont.ret1 rfl rfl fun w' s => ?_)
        exact ⟨rfl, s.ext⟩
       ·have H := ifB hc38 H
        refine T.skip (hK10 _ _ ?_)
        refine T.region ?_
        refine RS.p (Pu.move rfl) rfl rfl ?_
        obtain ⟨g39, H⟩ := gdE H
        refine RS.p (Pu.addS rfl rfl g39) rfl rfl ?_
        refine RS.p (Pu.assign rfl) rfl rfl ?_
        refine RS.nil (hL4 _ _ (v6 + 1) () H ⟨rfl, trivial⟩ ⟨rfl, trivial⟩ (fun w s => s.pick [0] (by decide) rfl))
      ·intro z40 H hJ36
       refine RD.splitP 45 rfl (fun hc35 => ?_) (fun hc35 => ?_)
       ·have H := ifT hc35 H
        refine RD.no (fun _ _ => trivial) rfl rfl rfl (.inr (.inr rfl)) ?_
        refine RD.no (fun _ _ => trivial) rfl rfl rfl (.inl rfl) ?_
        refine RD.no (fun _ _ => trivial) rfl rfl rfl (.inr (.inr rfl)) ?_
        refine RD.no (fun _ _ => trivial) rfl rfl rfl (.inl rfl) ?_
        refine RD.no (fun _ _ => trivial) rfl rfl rfl (.inl rfl) ?_
        refine RD.no (fun _ _ => trivial) rfl rfl rfl (.inr (.inr rfl)) ?_
        refine RD.no (fun _ _ => trivial) rfl rfl rfl (.inr (.inr rfl)) ?_
        refine RD.no (fun _ _ => trivial) rfl rfl rfl (.inl rfl) ?_
        refine RD.p (fun _ _ => trivial) rfl (Pu.pickT rfl rfl) rfl rfl ?_
        obtain rfl := Option.some.inj H
        exact hJ36 _ ⟨rfl, rfl, rfl, trivial⟩
       ·have H := ifF hc35 H
        refine RD.q (fun _ _ => trivial) rfl (Qt.ldBA (us := [_, _, _]) 2 ty50 rfl rfl rfl rfl) rfl rfl ?_
        refine RD.p (fun _ _ => trivial) rfl (Pu.fieldAddr fd38_1 rfl) rfl rfl ?_
        refine RD.q (fun _ _ => trivial) rfl (Qt.ldB 0 ty24 rfl rfl rfl) rfl rfl ?_
        refine RD.p (fun _ _ => trivial) rfl (Pu.move rfl) rfl rfl ?_
        obtain ⟨g41, H⟩ := gdE H
        refine RD.p (fun _ _ => trivial) rfl (Pu.indexSl sl24 rfl rfl g41) rfl rfl ?_
        obtain ⟨c42, hc43, ha44⟩ := R_el (α := Inp) h1 g41
        obtain ⟨u45, rfl, hu45⟩ := hc43
        obtain ⟨p46, cc47, rfl⟩ := R_form hu45
        refine RD.q (fun _ _ => trivial) rfl (Qt.ldZ (cs := [_, _, _]) ty50 rfl ha44 Held.base rfl) rfl rfl ?_
        obtain ⟨x48, hx48, H⟩ := bindE H
        refine RD.q (fun _ _ => trivial) rfl (Qt.call (vs := [.agg #[.int .i64 x20.turn, .int .i64 x20.player, rowV q21 x20.commands.length], .agg #[.int .i64 ((gi a0_p.more v6).turn), .int .i64 ((gi a0_p.more v6).player), .slice p46 ((gi a0_p.more v6).commands).length cc47]]) ent31 rfl fun w s => throngref0_EqInput_walk x20 (gi a0_p.more v6) w ((Rd.ofG 1 rfl) w s) ((Rd.base hu45) w s) hx48) rfl rfl ?_
        refine RD.p (fun _ _ => trivial) rfl (Pu.not rfl) rfl rfl ?_
        refine RD.p (fun _ _ => trivial) rfl (Pu.pickF rfl rfl) rfl rfl ?_
        obtain rfl := Option.some.inj H
        exact hJ36 _ ⟨rfl, rfl, rfl, trivial⟩
     ·intro hJ34
      refine RD.splitP 37 rfl (fun hc33 => ?_) (fun hc33 => ?_)
      ·refine RD.no (fun _ _ => trivial) rfl rfl rfl (.inl rfl) ?_
       refine RD.no (fun _ _ => trivial) rfl rfl rfl (.inl rfl) ?_
       refine RD.no (fun _ _ => trivial) rfl rfl rfl (.inl rfl) ?_
       refine RD.no (fun _ _ => trivial) rfl rfl rfl (.inl rfl) ?_
       refine RD.no (fun _ _ => trivial) rfl rfl rfl (.inl rfl) ?_
       refine RD.no (fun _ _ => trivial) rfl rfl rfl (.inl rfl) ?_
       refine RD.p (fun _ _ => trivial) rfl (Pu.pickT rfl rfl) rfl rfl ?_
       exact hJ34 _ ⟨dOrT hc33, rfl, rfl, rfl, trivial⟩
      ·refine RD.p (fun _ _ => trivial) rfl (Pu.move rfl) rfl rfl ?_
       refine RD.p (fun _ _ => trivial) rfl (Pu.bin rfl rfl rfl) rfl rfl ?_
       refine RD.p (fun _ _ => trivial) rfl (Pu.move rfl) rfl rfl ?_
       refine RD.joinV 3 43 (.bool (decide ((¬ x24 = 0) ∧ (¬ x24 = 1)))) [(1, _), (3, _), (4, _), (5, _), (28, _), (29, _), (30, _), (31, _), (32, _), (33, _), (34, _), (35, _), (36, _), (37, _), (38, _), (39, _)] ⟨rfl, rfl, rfl, rfl, rfl, rfl, rfl, rfl, rfl, rfl, rfl, rfl, rfl, rfl, rfl, rfl, trivial⟩ ?_ ?_
       ·refine RD.p (fun _ _ => trivial) rfl (Pu.pickF rfl rfl) rfl rfl ?_
        exact hJ34 _ ⟨dOrF hc33, rfl, rfl, rfl, trivial⟩
       ·intro hJ50
        refine RD.splitP 40 rfl (fun hc49 => ?_) (fun hc49 => ?_)
        ·refine RD.p (fun _ _ => trivial) rfl (Pu.move rfl) rfl rfl ?_
         refine RD.p (fun _ _ => trivial) rfl (Pu.bin rfl rfl rfl) rfl rfl ?_
         refine RD.p (fun _ _ => trivial) rfl (Pu.pickT rfl rfl) rfl rfl ?_
         exact hJ50 _ ⟨dAndT hc49, rfl, rfl, rfl, rfl, rfl, rfl, rfl, rfl, rfl, rfl, rfl, rfl, rfl, rfl, rfl, rfl, trivial⟩
        ·refine RD.no (fun _ _ => trivial) rfl rfl rfl (.inl rfl) ?_
         refine RD.no (fun _ _ => trivial) rfl rfl rfl (.inl rfl) ?_
         refine RD.p (fun _ _ => trivial) rfl (Pu.pickF rfl rfl) rfl rfl ?_
         exact hJ50 _ ⟨dAndF hc49, rfl, rfl, rfl, rfl, rfl, rfl, rfl, rfl, rfl, rfl, rfl, rfl, rfl, rfl, rfl, rfl, trivial⟩
    ·have H := ifF hc10 H
     obtain rfl := hd4 _ H
     refine T.exitTo (by with_reducible (repeat (first | exact ExTo.here | exact ExTo.hereN | exact ExTo.deep (by repeat (first | exact NmTo.seq | apply NmTo.blk)) | apply ExTo.seq | refine ExTo.past (by decide) ?_))) (hJ4 _ _ () () HX4 trivial trivial (fun w s => s))
   ·intro hJ9
    refine RS.splitP 13 rfl (fun hc8 => ?_) (fun hc8 => ?_)
    ·refine RS.p (Pu.move rfl) rfl rfl ?_
     refine RS.p (Pu.bin rfl rfl rfl) rfl rfl ?_
     refine RS.p (Pu.pickT rfl rfl) rfl rfl ?_
     exact hJ9 _ _ ⟨dAndT hc8, rfl, rfl, trivial⟩ (fun w s => s)
    ·refine RS.no rfl rfl ?_
     refine RS.no rfl rfl ?_
     refine RS.p (Pu.pickF rfl rfl) rfl rfl ?_
     exact hJ9 _ _ ⟨dAndF hc8, rfl, rfl, trivial⟩ (fun w s => s)
end Go.Proofs.Ytlpmiledfcblfaa
