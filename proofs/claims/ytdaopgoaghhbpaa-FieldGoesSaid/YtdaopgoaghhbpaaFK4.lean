/-
  Walk of FieldGoes.
-/
import Derived.Test.YtdaopgoaghhbpaaRows
import Derived.Test.YtdaopgoaghhbpaaFK
import Derived.Test.YtdaopgoaghhbpaaFG4
set_option linter.unusedVariables false
set_option linter.unusedSimpArgs false
set_option maxRecDepth 20000
set_option maxHeartbeats 4000000
namespace Go.Proofs.Ytdaopgoaghhbpaa
open Go.Vg
open Enc (R)
theorem ent34 : Ent Try.prog 34 := ⟨_, _, Try.func34, by kernel_rfl, rfl⟩
theorem ent35 : Ent Try.prog 35 := ⟨_, _, Try.func35, by kernel_rfl, rfl⟩
theorem ent36 : Ent Try.prog 36 := ⟨_, _, Try.func36, by kernel_rfl, rfl⟩
theorem ent44 : Ent Try.prog 44 := ⟨_, _, Try.func44, by kernel_rfl, rfl⟩
theorem ent47 : Ent Try.prog 47 := ⟨_, _, Try.func47, by kernel_rfl, rfl⟩
theorem ent50 : Ent Try.prog 50 := ⟨_, _, Try.func50, by kernel_rfl, rfl⟩
theorem ent52 : Ent Try.prog 52 := ⟨_, _, Try.func52, by kernel_rfl, rfl⟩
theorem ty56 : tySz Try.prog 56 = some (7, true) := by kernel_rfl
theorem thronglaw13_FieldGoes_walk (a0_p : Ask13) (w : World) {v0 v1 v2 : Value} (h0 : R (hpOf w) a0_p.g.tiles [v0]) (h1 : R (hpOf w) a0_p.l [v1]) (h2 : R (hpOf w) a0_p.ts [v2]) {r : Bool} (H : thronglaw13_FieldGoes a0_p = some r) : Calls Try.prog 15 #[.agg #[.int .i64 a0_p.g.w, .int .i64 a0_p.g.h, v0, v1, .int .i64 a0_p.cls, .int .i64 a0_p.size, v2]] w fun e w' => e = .returned (.bool r) ∧ Ext w w' := by
 have hm0 := R_max h0
 obtain ⟨p0, c0, rfl⟩ := R_form h0
 have hm1 := R_max h1
 obtain ⟨p1, c1, rfl⟩ := R_form h1
 have hm2 := R_max h2
 obtain ⟨p2, c2, rfl⟩ := R_form h2
 unfold thronglaw13_FieldGoes at H
 refine T.enter (args := [_]) (S := Sat w []) Try.func15 rfl rfl (Sat.start w) ?_
 refine T.seq fun K1 hK1 => ?_
 refine T.region ?_
 refine RS.solid (Sd.box (cs := [_, _, _, _, _, _, _]) rfl rfl) rfl rfl fun b1 => ?_
 refine RS.p (Pu.assign rfl) rfl rfl ?_
 refine RS.nil (hK1 _ _ ?_)
 refine T.seq fun K2 hK2 => ?_
 refine T.seq fun K3 hK3 => ?_
 refine T.region ?_
 refine RS.q (Qt.ldBA (us := [_, _, _, _, _, _, _]) 0 ty56 rfl rfl rfl rfl) rfl rfl ?_
 obtain ⟨x2, hx2, H⟩ := bindE H
 refine RS.q (Qt.call (vs := [.agg #[.int .i64 a0_p.g.w, .int .i64 a0_p.g.h, .slice p0 a0_p.g.tiles.length c0, .slice p1 a0_p.l.length c1, .int .i64 a0_p.cls, .int .i64 a0_p.size, .slice p2 a0_p.ts.length c2]]) ent34 rfl fun w s => thronglaw13_Heavy_walk a0_p w ((Rd.base h0) w s) ((Rd.base h1) w s) ((Rd.base h2) w s) hx2) rfl rfl ?_
 refine RS.p (Pu.move rfl) rfl rfl ?_
 refine RS.joinB H 4 25 (fun b5 => .bool b5) [(1, _)] ⟨rfl, trivial⟩ ?_ ?_
 ·intro b5 H
  refine RS.nil (hK3 _ _ ?_)
  refine T.cond rfl (fun hc6 => ?_) (fun hc6 => ?_)
  ·have H := ifT hc6 H
   refine T.seq fun K4 hK4 => ?_
   refine T.region ?_
   refine RS.p (Pu.assign rfl) rfl rfl ?_
   refine RS.nil (hK4 _ _ ?_)
   obtain rfl := Option.some.inj H
   refine T.retTo (by with_reducible ((repeat (first | apply RetTo.seq | apply RetTo.blk)); exact RetTo.refl _)) (Cont.ret1 rfl rfl fun w' s => ?_)
   exact ⟨rfl, s.ext⟩
  ·have H := ifB hc6 H
   refine T.skip (hK2 _ _ ?_)
   refine T.seq fun K5 hK5 => ?_
   refine T.region ?_
   refine RS.p (Pu.fieldAddr fd56_0 rfl) rfl rfl ?_
   refine RS.q (Qt.ldBA (us := [_, _, _]) 0 ty24 rfl rfl rfl rfl) rfl rfl ?_
   refine RS.p (Pu.fieldAddr fd56_1 rfl) rfl rfl ?_
   refine RS.q (Qt.ldB 0 ty25 rfl rfl rfl) rfl rfl ?_
   refine RS.p (Pu.fieldAddr fd56_2 rfl) rfl rfl ?_
   refine RS.q (Qt.ldB 0 ty3 rfl rfl rfl) rfl rfl ?_
   refine RS.p (Pu.fieldAddr fd56_3 rfl) rfl rfl ?_
   refine RS.q (Qt.ldB 0 ty3 rfl rfl rfl) rfl rfl ?_
   obtain ⟨x7, hx7, H⟩ := bindE H
   refine RS.solid (Sd.callN (vs := [.agg #[.int .i64 a0_p.g.w, .int .i64 a0_p.g.h, .slice p0 a0_p.g.tiles.length c0], .slice p1 a0_p.l.length c1, .int .i64 a0_p.cls, .int .i64 a0_p.size]) ent47 rfl (fun w s => field_Good_walk a0_p.g a0_p.l a0_p.cls a0_p.size w ((Rd.base h0) w s) ((Rd.base h1) w s) hx7)) rfl rfl fun q8 => ?_
   refine RS.p (Pu.move rfl) rfl rfl ?_
   refine RS.p (Pu.extract rfl rfl) rfl rfl ?_
   refine RS.p (Pu.extract rfl rfl) rfl rfl ?_
   refine RS.p (Pu.assign rfl) rfl rfl ?_
   refine RS.p (Pu.assign rfl) rfl rfl ?_
   refine RS.nil (hK5 _ _ (T.conseq (fr' := [(1, _), (3, _), (4, _)]) ?_ ⟨rfl, rfl, rfl, trivial⟩ (fun _ s => s)))
   refine T.seq fun K6 hK6 => ?_
   refine T.seq fun K7 hK7 => ?_
   refine T.region ?_
   refine RS.p (Pu.move rfl) rfl rfl ?_
   obtain ⟨x9, hx9, H⟩ := bindE H
   refine RS.q (Qt.call (vs := [.int .i64 x7.2]) ent40 rfl fun w s => thronglaw13_num_walk x7.2 w  hx9) rfl rfl ?_
   refine RS.p (Pu.bin rfl rfl rfl) rfl rfl ?_
   refine RS.p (Pu.move rfl) rfl rfl ?_
   refine RS.joinV 8 49 (.bool (decide ((¬ x9 = 0) ∨ (¬ (x7.1.length : Int) = (a0_p.g.tiles.length : Int))))) [(1, _), (3, _)] ⟨rfl, rfl, trivial⟩ ?_ ?_
   ·refine RS.nil (hK7 _ _ ?_)
    refine T.condP rfl (fun hc12 => ?_) (fun hc12 => ?_)
    ·have H := ifT hc12 H
     refine T.conseq (fr' := []) ?_ trivial (fun _ s => s)
     refine T.seq fun K8 hK8 => ?_
     refine T.region ?_
     refine RS.p (Pu.assign rfl) rfl rfl ?_
     refine RS.nil (hK8 _ _ ?_)
     obtain rfl := Option.some.inj H
     refine T.retTo (by with_reducible ((repeat (first | apply RetTo.seq | apply RetTo.blk)); exact RetTo.refl _)) (Cont.ret1 rfl rfl fun w' s => ?_)
     exact ⟨rfl, s.ext⟩
    ·have H := ifF hc12 H
     refine T.skip (hK6 _ _ ?_)
     refine T.seq fun K9 hK9 => ?_
     refine T.seq fun K10 hK10 => ?_
     refine T.region ?_
     refine RS.p (Pu.assign rfl) rfl rfl ?_
     refine RS.nil (hK10 _ _ ?_)
     refine T.joinE (σ := Unit) (γ := Unit) H Ex.go [] trivial (fun _ _ => []) (fun _ _ => Sat w [blk b1 [.int .i64 a0_p.g.w, .int .i64 a0_p.g.h, .slice p0 a0_p.g.tiles.length c0, .slice p1 a0_p.l.length c1, .int .i64 a0_p.cls, .int .i64 a0_p.size, .slice p2 a0_p.ts.length c2] 56, row nilH 4 (rowV q8 x7.1.length) x7.1]) ?_ ?_
     ·rintro ⟨⟩ ⟨⟩ H
      try dsimp only [Ex.then] at H
      refine Cont.conseq (fr' := []) ?_ trivial (fun _ s => s)
      refine id (hK9 _ _ ?_)
      refine T.seq fun K11 hK11 => ?_
      refine T.region ?_
      obtain ⟨x14, hx14, H⟩ := bindE H
      refine RS.q (Qt.call (vs := []) ent44 rfl fun w s => thronglaw13_wakes_walk  w  hx14) rfl rfl ?_
      refine RS.p (Pu.assign rfl) rfl rfl ?_
      refine RS.nil (hK11 _ _ ?_)
      obtain rfl := Option.some.inj H
      refine T.retTo (by with_reducible ((repeat (first | apply RetTo.seq | apply RetTo.blk)); exact RetTo.refl _)) (Cont.ret1 rfl rfl fun w' s => ?_)
      exact ⟨rfl, s.ext⟩
     ·intro z13 hz13 HX13 hJ13
      refine T.block ?_
      refine T.loopA (γ := Unit) hz13 [(1, _), (3, _)] (fun v15 _ => [(5, .int .i64 v15)]) (fun v15 _ => Sat w [blk b1 [.int .i64 a0_p.g.w, .int .i64 a0_p.g.h, .slice p0 a0_p.g.tiles.length c0, .slice p1 a0_p.l.length c1, .int .i64 a0_p.cls, .int .i64 a0_p.size, .slice p2 a0_p.ts.length c2] 56, row nilH 4 (rowV q8 x7.1.length) x7.1]) () ⟨rfl, rfl, trivial⟩ ⟨rfl, trivial⟩ (fun w s => s) ?_
      rintro v15 ⟨⟩ y16 H hd13 KL13 hL13
      try dsimp only [Ex.then] at H
      refine T.conseq (fr' := [(5, _), (1, _), (3, _)]) ?_ ⟨rfl, rfl, rfl, trivial⟩ (fun _ s => s)
      refine T.seq fun K12 hK12 => ?_
      refine T.seq fun K13 hK13 => ?_
      refine T.region ?_
      refine RS.p (Pu.move rfl) rfl rfl ?_
      refine RS.p (Pu.fieldAddr fd56_4 rfl) rfl rfl ?_
      refine RS.q (Qt.ldB 0 ty26 rfl rfl rfl) rfl rfl ?_
      refine RS.p (Pu.lenSl sl26 rfl) rfl rfl ?_
      refine RS.p (Pu.bin rfl rfl rfl) rfl rfl ?_
      refine RS.p (Pu.move rfl) rfl rfl ?_
      refine RS.joinV 3 58 (.bool (decide ((v15 < (a0_p.ts.length : Int)) ∧ (v15 < 4)))) [(1, _), (3, _), (5, _)] ⟨rfl, rfl, rfl, trivial⟩ ?_ ?_
      ·refine RS.nil (hK13 _ _ ?_)
       refine T.condP rfl (fun hc19 => ?_) (fun hc19 => ?_)
       ·have H := ifT hc19 H
        refine T.skip (hK12 _ _ ?_)
        refine T.seq fun K14 hK14 => ?_
        refine T.block ?_
        refine T.seq fun K15 hK15 => ?_
        refine T.region ?_
        refine RS.p (Pu.fieldAddr fd56_4 rfl) rfl rfl ?_
        refine RS.q (Qt.ldB 0 ty26 rfl rfl rfl) rfl rfl ?_
        refine RS.p (Pu.move rfl) rfl rfl ?_
        obtain ⟨g20, H⟩ := gdE H
        obtain ⟨bl21, ol22, rfl⟩ := R_ptr h2 (ne_of_pos (pos_of g20))
        refine RS.p (Pu.indexSl sl26 rfl rfl g20) rfl rfl ?_
        refine RS.q (Qt.ld0 (α := Int) (Rd.base h2) ty3 rfl rfl g20 (by rintro _ _ rfl; rfl)) rfl rfl ?_
        refine RS.p (Pu.assign rfl) rfl rfl ?_
        refine RS.nil (hK15 _ _ (T.conseq (fr' := [(1, _), (3, _), (5, _), (6, _)]) ?_ ⟨rfl, rfl, rfl, rfl, trivial⟩ (fun _ s => s)))
        refine T.seq fun K16 hK16 => ?_
        refine T.seq fun K17 hK17 => ?_
        refine T.region ?_
        refine RS.p (Pu.fieldAddr fd56_0 rfl) rfl rfl ?_
        refine RS.q (Qt.ldBA (us := [_, _, _]) 0 ty24 rfl rfl rfl rfl) rfl rfl ?_
        refine RS.p (Pu.move rfl) rfl rfl ?_
        obtain ⟨x23, hx23, H⟩ := bindE H
        refine RS.q (Qt.call (vs := [.agg #[.int .i64 a0_p.g.w, .int .i64 a0_p.g.h, .slice p0 a0_p.g.tiles.length c0], .int .i64 (gi a0_p.ts v15)]) ent36 rfl fun w s => throngref5_Tile_walk a0_p.g (gi a0_p.ts v15) w ((Rd.base h0) w s) hx23) rfl rfl ?_
        refine RS.p (Pu.not rfl) rfl rfl ?_
        refine RS.nil (hK17 _ _ ?_)
        refine T.cond rfl (fun hc24 => ?_) (fun hc24 => ?_)
        ·have H := ifT hc24 H
         refine T.exitTo (by with_reducible (repeat (first | exact ExTo.here | exact ExTo.hereN | exact ExTo.deep (by repeat (first | exact NmTo.seq | apply NmTo.blk)) | apply ExTo.seq | refine ExTo.past (by decide) ?_))) (hK14 _ _ (T.conseq (fr' := [(1, _), (3, _), (5, _)]) ?_ ⟨rfl, rfl, rfl, trivial⟩ (fun _ s => s)))
         refine T.region ?_
         refine RS.p (Pu.move rfl) rfl rfl ?_
         obtain ⟨g25, H⟩ := gdE H
         refine RS.p (Pu.addS rfl rfl g25) rfl rfl ?_
         refine RS.p (Pu.assign rfl) rfl rfl ?_
         refine RS.nil (hL13 _ _ (v15 + 1) () H ⟨rfl, rfl, trivial⟩ ⟨rfl, trivial⟩ (fun w s => s))
        ·have H := ifB hc24 H
         refine T.skip (hK16 _ _ (T.conseq (fr' := [(1, _), (3, _), (5, _), (6, _)]) ?_ ⟨rfl, rfl, rfl, rfl, trivial⟩ (fun _ s => s)))
         refine T.seq fun K18 hK18 => ?_
         refine T.region ?_
         refine RS.p (Pu.fieldAddr fd56_0 rfl) rfl rfl ?_
         refine RS.q (Qt.ldBA (us := [_, _, _]) 0 ty24 rfl rfl rfl rfl) rfl rfl ?_
         refine RS.p (Pu.fieldAddr fd56_1 rfl) rfl rfl ?_
         refine RS.q (Qt.ldB 0 ty25 rfl rfl rfl) rfl rfl ?_
         refine RS.p (Pu.fieldAddr fd56_2 rfl) rfl rfl ?_
         refine RS.q (Qt.ldB 0 ty3 rfl rfl rfl) rfl rfl ?_
         refine RS.p (Pu.fieldAddr fd56_3 rfl) rfl rfl ?_
         refine RS.q (Qt.ldB 0 ty3 rfl rfl rfl) rfl rfl ?_
         refine RS.p (Pu.move rfl) rfl rfl ?_
         obtain ⟨x26, hx26, H⟩ := bindE H
         refine RS.solid (Sd.callN (vs := [.agg #[.int .i64 a0_p.g.w, .int .i64 a0_p.g.h, .slice p0 a0_p.g.tiles.length c0], .slice p1 a0_p.l.length c1, .int .i64 a0_p.cls, .int .i64 a0_p.size, .int .i64 (gi a0_p.ts v15)]) ent39 rfl (fun w s => field_Make_walk a0_p.g a0_p.l a0_p.cls a0_p.size (gi a0_p.ts v15) w ((Rd.base h0) w s) ((Rd.base h1) w s) hx26)) rfl rfl fun q27 => ?_
         refine RS.p (Pu.move rfl) rfl rfl ?_
         refine RS.p (Pu.extract rfl rfl) rfl rfl ?_
         refine RS.p (Pu.extract rfl rfl) rfl rfl ?_
         refine RS.p (Pu.assign rfl) rfl rfl ?_
         refine RS.p (Pu.assign rfl) rfl rfl ?_
         refine RS.nil (hK18 _ _ (T.conseq (fr' := [(1, _), (3, _), (5, _), (6, _), (7, _), (8, _)]) ?_ ⟨rfl, rfl, rfl, rfl, rfl, rfl, trivial⟩ (fun _ s => s)))
         refine T.seq fun K19 hK19 => ?_
         refine T.region ?_
         refine RS.p (Pu.fieldAddr fd56_0 rfl) rfl rfl ?_
         refine RS.q (Qt.ldBA (us := [_, _, _]) 0 ty24 rfl rfl rfl rfl) rfl rfl ?_
         refine RS.p (Pu.fieldAddr fd56_1 rfl) rfl rfl ?_
         refine RS.q (Qt.ldB 0 ty25 rfl rfl rfl) rfl rfl ?_
         refine RS.p (Pu.fieldAddr fd56_2 rfl) rfl rfl ?_
         refine RS.q (Qt.ldB 0 ty3 rfl rfl rfl) rfl rfl ?_
         refine RS.p (Pu.fieldAddr fd56_3 rfl) rfl rfl ?_
         refine RS.q (Qt.ldB 0 ty3 rfl rfl rfl) rfl rfl ?_
         refine RS.p (Pu.move rfl) rfl rfl ?_
         obtain ⟨x28, hx28, H⟩ := bindE H
         refine RS.solid (Sd.callN (vs := [.agg #[.int .i64 a0_p.g.w, .int .i64 a0_p.g.h, .slice p0 a0_p.g.tiles.length c0], .slice p1 a0_p.l.length c1, .int .i64 a0_p.cls, .int .i64 a0_p.size, .int .i64 (gi a0_p.ts v15)]) ent50 rfl (fun w s => field_Dirs_walk a0_p.g a0_p.l a0_p.cls a0_p.size (gi a0_p.ts v15) w ((Rd.base h0) w s) ((Rd.base h1) w s) hx28)) rfl rfl fun q29 => ?_
         refine RS.p (Pu.move rfl) rfl rfl ?_
         refine RS.p (Pu.extract rfl rfl) rfl rfl ?_
         refine RS.p (Pu.extract rfl rfl) rfl rfl ?_
         refine RS.p (Pu.assign rfl) rfl rfl ?_
         refine RS.p (Pu.assign rfl) rfl rfl ?_
         refine RS.nil (hK19 _ _ (T.conseq (fr' := [(1, _), (3, _), (5, _), (6, _), (7, _), (8, _), (9, _), (10, _)]) ?_ ⟨rfl, rfl, rfl, rfl, rfl, rfl, rfl, rfl, trivial⟩ (fun _ s => s)))
         refine T.seq fun K20 hK20 => ?_
         refine T.seq fun K21 hK21 => ?_
         refine T.region ?_
         refine RS.p (Pu.move rfl) rfl rfl ?_
         obtain ⟨x30, hx30, H⟩ := bindE H
         refine RS.q (Qt.call (vs := [.int .i64 x26.2]) ent40 rfl fun w s => thronglaw13_num_walk x26.2 w  hx30) rfl rfl ?_
         refine RS.p (Pu.bin rfl rfl rfl) rfl rfl ?_
         refine RS.p (Pu.move rfl) rfl rfl ?_
         refine RS.joinB H 4 104 (fun b33 => .bool b33) [(1, _), (3, _), (5, _), (6, _), (7, _), (9, _)] ⟨rfl, rfl, rfl, rfl, rfl, rfl, trivial⟩ ?_ ?_
         ·intro b33 H
          refine RS.p (Pu.move rfl) rfl rfl ?_
          refine RS.joinV 6 111 (.bool (decide ((b33 = true) ∨ (¬ (x26.1.length : Int) = (x7.1.length : Int))))) [(1, _), (3, _), (5, _), (6, _), (7, _), (9, _)] ⟨rfl, rfl, rfl, rfl, rfl, rfl, trivial⟩ ?_ ?_
          ·refine RS.p (Pu.move rfl) rfl rfl ?_
           refine RS.joinV 6 118 (.bool (decide (((b33 = true) ∨ (¬ (x26.1.length : Int) = (x7.1.length : Int))) ∨ (¬ (x28.1.length : Int) = (x7.1.length : Int))))) [(1, _), (3, _), (5, _), (6, _), (7, _), (9, _)] ⟨rfl, rfl, rfl, rfl, rfl, rfl, trivial⟩ ?_ ?_
           ·refine RS.nil (hK21 _ _ ?_)
            refine T.condP rfl (fun hc38 => ?_) (fun hc38 => ?_)
            ·have H := ifT hc38 H
             refine T.conseq (fr' := []) ?_ trivial (fun _ s => s)
             refine T.seq fun K22 hK22 => ?_
             refine T.region ?_
             refine RS.p (Pu.assign rfl) rfl rfl ?_
             refine RS.nil (hK22 _ _ ?_)
             obtain rfl := hd13 _ H
             have H := HX13
             obtain rfl := Option.some.inj H
             refine T.retTo (by with_reducible ((repeat (first | apply RetTo.seq | apply RetTo.blk)); exact RetTo.refl _)) (Cont.ret1 rfl rfl fun w' s => ?_)
             exact ⟨rfl, s.ext⟩
            ·have H := ifF hc38 H
             refine T.skip (hK20 _ _ ?_)
             refine T.seq fun K23 hK23 => ?_
             refine T.region ?_
             refine RS.p (Pu.assign rfl) rfl rfl ?_
             refine RS.nil (hK23 _ _ ?_)
             refine T.joinE (σ := Unit) (γ := Unit) H Ex.go [(1, _), (3, _), (5, _)] ⟨rfl, rfl, rfl, trivial⟩ (fun _ _ => []) (fun _ _ => Sat w [blk b1 [.int .i64 a0_p.g.w, .int .i64 a0_p.g.h, .slice p0 a0_p.g.tiles.length c0, .slice p1 a0_p.l.length c1, .int .i64 a0_p.cls, .int .i64 a0_p.size, .slice (some ⟨bl21, ol22, none⟩) a0_p.ts.length c2] 56, row nilH 4 (rowV q8 x7.1.length) x7.1, row nilH 3 (rowV q27 x26.1.length) x26.1, row nilH 3 (rowV q29 x28.1.length) x28.1]) ?_ ?_
             ·rintro ⟨⟩ ⟨⟩ H
              try dsimp only [Ex.then] at H
              refine Cont.conseq (fr' := [(1, _), (3, _), (5, _)]) ?_ ⟨rfl, rfl, rfl, trivial⟩ (fun _ s => s)
              refine id (hK14 _ _ ?_)
              refine T.region ?_
              refine RS.p (Pu.move rfl) rfl rfl ?_
              obtain ⟨g40, H⟩ := gdE H
              refine RS.p (Pu.addS rfl rfl g40) rfl rfl ?_
              refine RS.p (Pu.assign rfl) rfl rfl ?_
              refine RS.nil (hL13 _ _ (v15 + 1) () H ⟨rfl, rfl, trivial⟩ ⟨rfl, trivial⟩ (fun w s => s.pick [0, 1] (by decide) rfl))
             ·intro z39 hz39 HX39 hJ39
              refine T.block ?_
              refine T.loopA (γ := Unit) hz39 [(1, _), (3, _), (5, _), (6, _), (7, _), (9, _)] (fun v41 _ => [(11, .int .i64 v41)]) (fun v41 _ => Sat w [blk b1 [.int .i64 a0_p.g.w, .int .i64 a0_p.g.h, .slice p0 a0_p.g.tiles.length c0, .slice p1 a0_p.l.length c1, .int .i64 a0_p.cls, .int .i64 a0_p.size, .slice (some ⟨bl21, ol22, none⟩) a0_p.ts.length c2] 56, row nilH 4 (rowV q8 x7.1.length) x7.1, row nilH 3 (rowV q27 x26.1.length) x26.1, row nilH 3 (rowV q29 x28.1.length) x28.1]) () ⟨rfl, rfl, rfl, rfl, rfl, rfl, trivial⟩ ⟨rfl, trivial⟩ (fun w s => s) ?_
              rintro v41 ⟨⟩ y42 H hd39 KL39 hL39
              try dsimp only [Ex.then] at H
              refine T.conseq (fr' := [(11, _), (1, _), (3, _), (5, _), (6, _), (7, _), (9, _)]) ?_ ⟨rfl, rfl, rfl, rfl, rfl, rfl, rfl, trivial⟩ (fun _ s => s)
              refine T.seq fun K24 hK24 => ?_
              refine T.seq fun K25 hK25 => ?_
              refine T.region ?_
              refine RS.p (Pu.move rfl) rfl rfl ?_
              refine RS.p (Pu.move rfl) rfl rfl ?_
              refine RS.p (Pu.lenSl sl26 rfl) rfl rfl ?_
              refine RS.p (Pu.bin rfl rfl rfl) rfl rfl ?_
              refine RS.nil (hK25 _ _ ?_)
              refine T.condP rfl (fun hc43 => ?_) (fun hc43 => ?_)
              ·have H := ifT hc43 H
               refine T.skip (hK24 _ _ (T.conseq (fr' := [(1, _), (3, _), (5, _), (6, _), (7, _), (9, _), (11, _)]) ?_ ⟨rfl, rfl, rfl, rfl, rfl, rfl, rfl, trivial⟩ (fun _ s => s)))
               refine T.seq fun K26 hK26 => ?_
               refine T.block ?_
               refine T.seq fun K27 hK27 => ?_
               refine T.seq fun K28 hK28 => ?_
               refine T.drawn (fun _ => True) [(0, .pu), (1, .pu), (2, .pu), (3, .rd), (4, .pu), (5, .pu), (6, .pu), (7, .pu), (8, .pu), (9, .rd), (10, .pu), (11, .pu), (12, .pu), (13, .pu), (14, .pu), (15, .rd), (16, .pu), (17, .pu), (18, .pu), (19, .pu), (20, .pu), (21, .pu), (22, .pu), (23, .rd), (24, .pu), (25, .pu), (26, .pu), (27, .pu), (28, .pu), (29, .pu), (30, .pu), (31, .pu), (32, .pu), (33, .pu), (34, .pu), (35, .rd), (36, .pu), (37, .pu), (38, .pu), (39, .pu), (40, .rd), (41, .pu), (42, .pu), (43, .pu)] mixed (ClE.sat _ _) (by kernel_rfl) ?_
               refine RD.p (fun _ _ => trivial) rfl (Pu.move rfl) rfl rfl ?_
               refine RD.p (fun _ _ => trivial) rfl (Pu.move rfl) rfl rfl ?_
               obtain ⟨g44, H⟩ := gdE H
               refine RD.know (p := ∃ g cap, q27 = (some g, cap)) (fun w s => s.row_some (k := 2) rfl (pos_of g44)) ?_
               rintro ⟨gg45, cc46, rfl⟩
               refine RD.p (fun _ _ => trivial) rfl (Pu.indexSl sl26 rfl rfl g44) rfl rfl ?_
               refine RD.q (fun _ _ => trivial) rfl (Qt.ld0 (α := Int) (Rd.ofRowN 2 rfl) ty3 rfl rfl g44 (by rintro _ _ rfl; rfl)) rfl rfl ?_
               refine RD.p (fun _ _ => trivial) rfl (Pu.bin rfl rfl rfl) rfl rfl ?_
               refine RD.p (fun _ _ => trivial) rfl (Pu.move rfl) rfl rfl ?_
               obtain ⟨g49, H⟩ := gdE H
               obtain ⟨g50, H⟩ := gdE H
               refine RD.joinV 13 143 (.bool (decide (((gi x26.1 v41) < (-1)) ∨ ((0 ≤ (gi x26.1 v41)) ∧ ((!(gi x7.1 v41)) = true))))) [(1, _), (3, _), (5, _), (6, _), (7, _), (9, _), (11, _)] ⟨rfl, rfl, rfl, rfl, rfl, rfl, rfl, trivial⟩ ?_ ?_
               ·refine RD.p (fun _ _ => trivial) rfl (Pu.move rfl) rfl rfl ?_
                obtain ⟨g53, H⟩ := gdE H
                refine RD.joinV 11 155 (.bool (decide ((((gi x26.1 v41) < (-1)) ∨ ((0 ≤ (gi x26.1 v41)) ∧ ((!(gi x7.1 v41)) = true))) ∨ (((gi x26.1 v41) = 0) ∧ (¬ v41 = (gi a0_p.ts v15)))))) [(1, _), (3, _), (5, _), (6, _), (7, _), (9, _), (11, _)] ⟨rfl, rfl, rfl, rfl, rfl, rfl, rfl, trivial⟩ ?_ ?_
                ·refine RD.p (fun _ _ => trivial) rfl (Pu.move rfl) rfl rfl ?_
                 obtain ⟨g56, H⟩ := gdE H
                 obtain ⟨g57, H⟩ := gdE H
                 refine RD.joinV 12 168 (.bool (decide (((((gi x26.1 v41) < (-1)) ∨ ((0 ≤ (gi x26.1 v41)) ∧ ((!(gi x7.1 v41)) = true))) ∨ (((gi x26.1 v41) = 0) ∧ (¬ v41 = (gi a0_p.ts v15)))) ∨ (¬ (decide (0 ≤ (gi x28.1 v41))) = (decide (0 < (gi x26.1 v41))))))) [(1, _), (3, _), (5, _), (6, _), (7, _), (9, _), (11, _)] ⟨rfl, rfl, rfl, rfl, rfl, rfl, rfl, trivial⟩ ?_ ?_
                 ·refine RD.nil (hK28 _ _ ?_)
                  refine T.condP rfl (fun hc58 => ?_) (fun hc58 => ?_)
                  ·have H := ifT hc58 H
                   refine T.conseq (fr' := []) ?_ trivial (fun _ s => s)
                   refine T.seq fun K29 hK29 => ?_
                   refine T.region ?_
                   refine RS.p (Pu.assign rfl) rfl rfl ?_
                   refine RS.nil (hK29 _ _ ?_)
                   obtain rfl := hd39 _ H
                   have H := HX39
                   obtain rfl := hd13 _ H
                   have H := HX13
                   obtain rfl := Option.some.inj H
                   refine T.retTo (by with_reducible ((repeat (first | apply RetTo.seq | apply RetTo.blk)); exact RetTo.refl _)) (Cont.ret1 rfl rfl fun w' s => ?_)
                   exact ⟨rfl, s.ext⟩
                  ·have H := ifF hc58 H
                   refine T.skip (hK27 _ _ ?_)
                   refine T.seq fun K30 hK30 => ?_
                   refine T.region ?_
                   refine RS.p (Pu.move rfl) rfl rfl ?_
                   refine RS.p (Pu.assign rfl) rfl rfl ?_
                   refine RS.p (Pu.assign rfl) rfl rfl ?_
                   refine RS.nil (hK30 _ _ ?_)
                   refine T.seq fun K31 hK31 => ?_
                   refine T.seq fun K32 hK32 => ?_
                   refine T.region ?_
                   refine RS.p (Pu.assign rfl) rfl rfl ?_
                   refine RS.nil (hK32 _ _ ?_)
                   refine T.joinE (σ := Int × Int) (γ := Unit) H Ex.go [(1, _), (3, _), (5, _), (6, _), (7, _), (9, _), (11, _)] ⟨rfl, rfl, rfl, rfl, rfl, rfl, rfl, trivial⟩ (fun (v60, v61) _ => [(12, .int .i64 v60), (13, .int .i64 v61)]) (fun (v60, v61) _ => Sat w [blk b1 [.int .i64 a0_p.g.w, .int .i64 a0_p.g.h, .slice p0 a0_p.g.tiles.length c0, .slice p1 a0_p.l.length c1, .int .i64 a0_p.cls, .int .i64 a0_p.size, .slice (some ⟨bl21, ol22, none⟩) a0_p.ts.length c2] 56, row nilH 4 (rowV q8 x7.1.length) x7.1, row nilH 3 (rowV (some gg45, cc46) x26.1.length) x26.1, row nilH 3 (rowV q29 x28.1.length) x28.1]) ?_ ?_
                   ·rintro ⟨v60, v61⟩ ⟨⟩ H
                    try dsimp only [Ex.then] at H
                    refine Cont.conseq (fr' := [(12, _), (13, _), (1, _), (3, _), (5, _), (6, _), (7, _), (9, _), (11, _)]) ?_ ⟨rfl, rfl, rfl, rfl, rfl, rfl, rfl, rfl, rfl, trivial⟩ (fun _ s => s)
                    refine id (hK31 _ _ ?_)
                    refine T.seq fun K33 hK33 => ?_
                    refine T.seq fun K34 hK34 => ?_
                    refine T.region ?_
                    refine RS.p (Pu.move rfl) rfl rfl ?_
                    refine RS.p (Pu.move rfl) rfl rfl ?_
                    obtain ⟨g62, H⟩ := gdE H
                    refine RS.p (Pu.indexSl sl26 rfl rfl g62) rfl rfl ?_
                    refine RS.q (Qt.ld0 (α := Int) (Rd.ofRowN 2 rfl) ty3 rfl rfl g62 (by rintro _ _ rfl; rfl)) rfl rfl ?_
                    refine RS.p (Pu.bin rfl rfl rfl) rfl rfl ?_
                    refine RS.p (Pu.move rfl) rfl rfl ?_
                    obtain ⟨g65, H⟩ := gdE H
                    refine RS.joinV 12 288 (.bool (decide ((0 ≤ (gi x26.1 v41)) ∧ ((¬ v60 = (gi a0_p.ts v15)) ∨ (¬ v61 = (gi x26.1 v41)))))) [(1, _), (3, _), (5, _), (6, _), (7, _), (9, _), (11, _)] ⟨rfl, rfl, rfl, rfl, rfl, rfl, rfl, trivial⟩ ?_ ?_
                    ·refine RS.nil (hK34 _ _ ?_)
                     refine T.condP rfl (fun hc66 => ?_) (fun hc66 => ?_)
                     ·have H := ifT hc66 H
                      refine T.conseq (fr' := []) ?_ trivial (fun _ s => s)
                      refine T.seq fun K35 hK35 => ?_
                      refine T.region ?_
                      refine RS.p (Pu.assign rfl) rfl rfl ?_
                      refine RS.nil (hK35 _ _ ?_)
                      obtain rfl := hd39 _ H
                      have H := HX39
                      obtain rfl := hd13 _ H
                      have H := HX13
                      obtain rfl := Option.some.inj H
                      refine T.retTo (by with_reducible ((repeat (first | apply RetTo.seq | apply RetTo.blk)); exact RetTo.refl _)) (Cont.ret1 rfl rfl fun w' s => ?_)
                      exact ⟨rfl, s.ext⟩
                     ·have H := ifF hc66 H
                      refine T.skip (hK33 _ _ ?_)
                      refine T.seq fun K36 hK36 => ?_
                      refine T.region ?_
                      refine RS.p (Pu.fieldAddr fd56_0 rfl) rfl rfl ?_
                      refine RS.q (Qt.ldBA (us := [_, _, _]) 0 ty24 rfl rfl rfl rfl) rfl rfl ?_
                      refine RS.p (Pu.move rfl) rfl rfl ?_
                      obtain ⟨x67, hx67, H⟩ := bindE H
                      refine RS.solid (Sd.callN (vs := [.agg #[.int .i64 a0_p.g.w, .int .i64 a0_p.g.h, .slice p0 a0_p.g.tiles.length c0], .int .i64 v41]) ent51 rfl (fun w s => throngref5_Near_walk a0_p.g v41 w ((Rd.base h0) w s) hx67)) rfl rfl fun q68 => ?_
                      refine RS.p (Pu.assign rfl) rfl rfl ?_
                      refine RS.nil (hK36 _ _ (T.conseq (fr' := [(1, _), (3, _), (5, _), (6, _), (7, _), (9, _), (11, _), (16, _)]) ?_ ⟨rfl, rfl, rfl, rfl, rfl, rfl, rfl, rfl, trivial⟩ (fun _ s => s)))
                      refine T.seq fun K37 hK37 => ?_
                      refine T.region ?_
                      refine RS.p (Pu.assign rfl) rfl rfl ?_
                      refine RS.nil (hK37 _ _ ?_)
                      refine T.joinE (σ := Unit) (γ := Unit) H Ex.go [(1, _), (3, _), (5, _), (6, _), (7, _), (9, _), (11, _)] ⟨rfl, rfl, rfl, rfl, rfl, rfl, rfl, trivial⟩ (fun _ _ => []) (fun _ _ => Sat w [blk b1 [.int .i64 a0_p.g.w, .int .i64 a0_p.g.h, .slice p0 a0_p.g.tiles.length c0, .slice p1 a0_p.l.length c1, .int .i64 a0_p.cls, .int .i64 a0_p.size, .slice (some ⟨bl21, ol22, none⟩) a0_p.ts.length c2] 56, row nilH 4 (rowV q8 x7.1.length) x7.1, row nilH 3 (rowV (some gg45, cc46) x26.1.length) x26.1, row nilH 3 (rowV q29 x28.1.length) x28.1, row nilH 3 (rowV q68 x67.length) x67]) ?_ ?_
                      ·rintro ⟨⟩ ⟨⟩ H
                       try dsimp only [Ex.then] at H
                       refine Cont.conseq (fr' := [(1, _), (3, _), (5, _), (6, _), (7, _), (9, _), (11, _)]) ?_ ⟨rfl, rfl, rfl, rfl, rfl, rfl, rfl, trivial⟩ (fun _ s => s)
                       refine id (hK26 _ _ ?_)
                       refine T.region ?_
                       refine RS.p (Pu.move rfl) rfl rfl ?_
                       obtain ⟨g70, H⟩ := gdE H
                       refine RS.p (Pu.addS rfl rfl g70) rfl rfl ?_
                       refine RS.p (Pu.assign rfl) rfl rfl ?_
                       refine RS.nil (hL39 _ _ (v41 + 1) () H ⟨rfl, rfl, rfl, rfl, rfl, rfl, trivial⟩ ⟨rfl, trivial⟩ (fun w s => s.pick [0, 1, 2, 3] (by decide) rfl))
                      ·intro z69 hz69 HX69 hJ69
                       refine T.block ?_
                       refine T.loopA (γ := Unit) hz69 [(1, _), (3, _), (5, _), (6, _), (7, _), (9, _), (11, _), (16, _)] (fun v71 _ => [(17, .int .i64 v71)]) (fun v71 _ => Sat w [blk b1 [.int .i64 a0_p.g.w, .int .i64 a0_p.g.h, .slice p0 a0_p.g.tiles.length c0, .slice p1 a0_p.l.length c1, .int .i64 a0_p.cls, .int .i64 a0_p.size, .slice (some ⟨bl21, ol22, none⟩) a0_p.ts.length c2] 56, row nilH 4 (rowV q8 x7.1.length) x7.1, row nilH 3 (rowV (some gg45, cc46) x26.1.length) x26.1, row nilH 3 (rowV q29 x28.1.length) x28.1, row nilH 3 (rowV q68 x67.length) x67]) () ⟨rfl, rfl, rfl, rfl, rfl, rfl, rfl, rfl, trivial⟩ ⟨rfl, trivial⟩ (fun w s => s) ?_
                       rintro v71 ⟨⟩ y72 H hd69 KL69 hL69
                       try dsimp only [Ex.then] at H
                       refine T.conseq (fr' := [(17, _), (1, _), (3, _), (5, _), (6, _), (7, _), (9, _), (11, _), (16, _)]) ?_ ⟨rfl, rfl, rfl, rfl, rfl, rfl, rfl, rfl, rfl, trivial⟩ (fun _ s => s)
                       refine T.seq fun K38 hK38 => ?_
                       refine T.seq fun K39 hK39 => ?_
                       refine T.region ?_
                       refine RS.p (Pu.move rfl) rfl rfl ?_
                       refine RS.p (Pu.bin rfl rfl rfl) rfl rfl ?_
                       refine RS.nil (hK39 _ _ ?_)
                       refine T.condP rfl (fun hc73 => ?_) (fun hc73 => ?_)
                       ·have H := ifT hc73 H
                        refine T.skip (hK38 _ _ ?_)
                        refine T.seq fun K40 hK40 => ?_
                        refine T.block ?_
                        refine T.seq fun K41 hK41 => ?_
                        refine T.region ?_
                        refine RS.p (Pu.move rfl) rfl rfl ?_
                        refine RS.p (Pu.move rfl) rfl rfl ?_
                        obtain ⟨g74, H⟩ := gdE H
                        refine RS.know (p := ∃ g cap, q68 = (some g, cap)) (fun w s => s.row_some (k := 4) rfl (pos_of g74)) ?_
                        rintro ⟨gg75, cc76, rfl⟩
                        refine RS.p (Pu.indexSl sl26 rfl rfl g74) rfl rfl ?_
                        refine RS.q (Qt.ld0 (α := Int) (Rd.ofRowN 4 rfl) ty3 rfl rfl g74 (by rintro _ _ rfl; rfl)) rfl rfl ?_
                        refine RS.p (Pu.assign rfl) rfl rfl ?_
                        refine RS.nil (hK41 _ _ (T.conseq (fr' := [(1, _), (3, _), (5, _), (6, _), (7, _), (9, _), (11, _), (16, _), (17, _), (18, _)]) ?_ ⟨rfl, rfl, rfl, rfl, rfl, rfl, rfl, rfl, rfl, rfl, trivial⟩ (fun _ s => s)))
                        refine T.seq fun K42 hK42 => ?_
                        refine T.drawn (fun _ => True) [(0, .pu), (1, .pu), (2, .pu), (3, .pu), (4, .pu), (5, .pu), (6, .rd), (7, .pu), (8, .pu), (9, .pu), (10, .pu), (11, .pu), (12, .rd), (13, .pu), (14, .pu), (15, .pu), (16, .pu), (17, .pu), (18, .rd), (19, .pu), (20, .pu), (21, .pu), (22, .pu), (23, .rd), (24, .pu), (25, .pu), (26, .pu), (27, .pu), (28, .pu), (29, .pu), (30, .rd), (31, .pu), (32, .pu), (33, .pu), (34, .pu), (35, .pu), (36, .rd), (37, .pu), (38, .pu), (39, .pu), (40, .rd), (41, .pu), (42, .rd), (43, .pu), (44, .rd), (45, .pu), (46, .pu), (47, .rd), (48, .pu), (49, .pu), (50, .pu), (51, .pu), (52, .pu)] mixed (ClE.sat _ _) (by kernel_rfl) ?_
                        refine RD.p (fun _ _ => trivial) rfl (Pu.move rfl) rfl rfl ?_
                        refine RD.p (fun _ _ => trivial) rfl (Pu.bin rfl rfl rfl) rfl rfl ?_
                        refine RD.p (fun _ _ => trivial) rfl (Pu.move rfl) rfl rfl ?_
                        obtain ⟨g79, H⟩ := gdE H
                        refine RD.joinV 5 308 (.bool (decide ((0 ≤ (gi x67 v71)) ∧ ((gi x7.1 v41) = true)))) [(1, _), (3, _), (5, _), (6, _), (7, _), (9, _), (11, _), (16, _), (17, _), (18, _)] ⟨rfl, rfl, rfl, rfl, rfl, rfl, rfl, rfl, rfl, rfl, trivial⟩ ?_ ?_
                        ·refine RD.p (fun _ _ => trivial) rfl (Pu.move rfl) rfl rfl ?_
                         obtain ⟨g82, H⟩ := gdE H
                         refine RD.joinV 5 314 (.bool (decide (((0 ≤ (gi x67 v71)) ∧ ((gi x7.1 v41) = true)) ∧ ((gi x7.1 (gi x67 v71)) = true)))) [(1, _), (3, _), (5, _), (6, _), (7, _), (9, _), (11, _), (16, _), (17, _), (18, _)] ⟨rfl, rfl, rfl, rfl, rfl, rfl, rfl, rfl, rfl, rfl, trivial⟩ ?_ ?_
                         ·refine RD.p (fun _ _ => trivial) rfl (Pu.move rfl) rfl rfl ?_
                          refine RD.joinB H 38 353 (fun b85 => .bool b85) [(1, _), (3, _), (5, _), (6, _), (7, _), (9, _), (11, _), (16, _), (17, _)] ⟨rfl, rfl, rfl, rfl, rfl, rfl, rfl, rfl, rfl, trivial⟩ ?_ ?_
                          ·intro b85 H
                           refine RD.nil (hK42 _ _ ?_)
                           refine T.cond rfl (fun hc86 => ?_) (fun hc86 => ?_)
                           ·have H := ifT hc86 H
                            refine T.conseq (fr' := []) ?_ trivial (fun _ s => s)
                            refine T.seq fun K43 hK43 => ?_
                            refine T.region ?_
                            refine RS.p (Pu.assign rfl) rfl rfl ?_
                            refine RS.nil (hK43 _ _ ?_)
                            obtain rfl := hd69 _ H
                            have H := HX69
                            obtain rfl := hd39 _ H
                            have H := HX39
                            obtain rfl := hd13 _ H
                            have H := HX13
                            obtain rfl := Option.some.inj H
                            refine T.retTo (by with_reducible ((repeat (first | apply RetTo.seq | apply RetTo.blk)); exact RetTo.refl _)) (Cont.ret1 rfl rfl fun w' s => ?_)
                            exact ⟨rfl, s.ext⟩
                           ·have H := ifB hc86 H
                            refine T.skip (hK40 _ _ ?_)
                            refine T.region ?_
                            refine RS.p (Pu.move rfl) rfl rfl ?_
                            obtain ⟨g87, H⟩ := gdE H
                            refine RS.p (Pu.addS rfl rfl g87) rfl rfl ?_
                            refine RS.p (Pu.assign rfl) rfl rfl ?_
                            refine RS.nil (hL69 _ _ (v71 + 1) () H ⟨rfl, rfl, rfl, rfl, rfl, rfl, rfl, rfl, trivial⟩ ⟨rfl, trivial⟩ (fun w s => s))
                          ·intro z88 H hJ84
                           refine RD.splitP 315 rfl (fun hc83 => ?_) (fun hc83 => ?_)
                           ·have H := ifT hc83 H
                            refine RD.p (fun _ _ => trivial) rfl (Pu.move rfl) rfl rfl ?_
                            refine RD.p (fun _ _ => trivial) rfl (Pu.move rfl) rfl rfl ?_
                            obtain ⟨g89, H⟩ := gdE H
                            refine RD.p (fun _ _ => trivial) rfl (Pu.indexSl sl26 rfl rfl g89) rfl rfl ?_
                            refine RD.q (fun _ _ => trivial) rfl (Qt.ld0 (α := Int) (Rd.ofRowN 2 rfl) ty3 rfl rfl g89 (by rintro _ _ rfl; rfl)) rfl rfl ?_
                            refine RD.p (fun _ _ => trivial) rfl (Pu.bin rfl rfl rfl) rfl rfl ?_
                            refine RD.p (fun _ _ => trivial) rfl (Pu.move rfl) rfl rfl ?_
                            refine RD.p (fun _ _ => trivial) rfl (Pu.move rfl) rfl rfl ?_
                            obtain ⟨g90, H⟩ := gdE H
                            refine RD.p (fun _ _ => trivial) rfl (Pu.indexSl sl26 rfl rfl g90) rfl rfl ?_
                            refine RD.q (fun _ _ => trivial) rfl (Qt.ld0 (α := Int) (Rd.ofRowN 2 rfl) ty3 rfl rfl g90 (by rintro _ _ rfl; rfl)) rfl rfl ?_
                            refine RD.p (fun _ _ => trivial) rfl (Pu.bin rfl rfl rfl) rfl rfl ?_
                            refine RD.p (fun _ _ => trivial) rfl (Pu.neB ul4 rfl rfl) rfl rfl ?_
                            refine RD.p (fun _ _ => trivial) rfl (Pu.move rfl) rfl rfl ?_
                            refine RD.joinB H 25 352 (fun b93 => .bool b93) [(1, _), (3, _), (5, _), (6, _), (7, _), (9, _), (11, _), (16, _), (17, _), (18, _), (314, _), (315, _), (316, _), (317, _), (318, _), (319, _), (320, _), (321, _), (322, _), (323, _), (324, _), (325, _), (326, _)] ⟨rfl, rfl, rfl, rfl, rfl, rfl, rfl, rfl, rfl, rfl, rfl, rfl, rfl, rfl, rfl, rfl, rfl, rfl, rfl, rfl, rfl, rfl, rfl, trivial⟩ ?_ ?_
                            ·intro b93 H
                             refine RD.p (fun _ _ => trivial) rfl (Pu.pickT rfl rfl) rfl rfl ?_
                             obtain rfl := Option.some.inj H
                             exact hJ84 _ ⟨rfl, rfl, rfl, rfl, rfl, rfl, rfl, rfl, rfl, rfl, trivial⟩
                            ·intro z94 H hJ92
                             refine RD.splitP 327 rfl (fun hc91 => ?_) (fun hc91 => ?_)
                             ·have H := ifT hc91 H
                              refine RD.no (fun _ _ => trivial) rfl rfl rfl (.inl rfl) ?_
                              refine RD.no (fun _ _ => trivial) rfl rfl rfl (.inl rfl) ?_
                              refine RD.no (fun _ _ => trivial) rfl rfl rfl (.inl rfl) ?_
                              refine RD.no (fun _ _ => trivial) rfl rfl rfl (.inr (.inr rfl)) ?_
                              refine RD.no (fun _ _ => trivial) rfl rfl rfl (.inl rfl) ?_
                              refine RD.no (fun _ _ => trivial) rfl rfl rfl (.inl rfl) ?_
                              refine RD.no (fun _ _ => trivial) rfl rfl rfl (.inl rfl) ?_
                              refine RD.no (fun _ _ => trivial) rfl rfl rfl (.inl rfl) ?_
                              refine RD.no (fun _ _ => trivial) rfl rfl rfl (.inl rfl) ?_
                              refine RD.no (fun _ _ => trivial) rfl rfl rfl (.inr (.inr rfl)) ?_
                              refine RD.no (fun _ _ => trivial) rfl rfl rfl (.inl rfl) ?_
                              refine RD.no (fun _ _ => trivial) rfl rfl rfl (.inl rfl) ?_
                              refine RD.no (fun _ _ => trivial) rfl rfl rfl (.inl rfl) ?_
                              refine RD.no (fun _ _ => trivial) rfl rfl rfl (.inr (.inr rfl)) ?_
                              refine RD.no (fun _ _ => trivial) rfl rfl rfl (.inl rfl) ?_
                              refine RD.no (fun _ _ => trivial) rfl rfl rfl (.inr (.inr rfl)) ?_
                              refine RD.no (fun _ _ => trivial) rfl rfl rfl (.inl rfl) ?_
                              refine RD.no (fun _ _ => trivial) rfl rfl rfl (.inr (.inr rfl)) ?_
                              refine RD.no (fun _ _ => trivial) rfl rfl rfl (.inl rfl) ?_
                              refine RD.no (fun _ _ => trivial) rfl rfl rfl (.inl rfl) ?_
                              refine RD.no (fun _ _ => trivial) rfl rfl rfl (.inr (.inr rfl)) ?_
                              refine RD.no (fun _ _ => trivial) rfl rfl rfl (.inl rfl) ?_
                              refine RD.no (fun _ _ => trivial) rfl rfl rfl (.inl rfl) ?_
                              refine RD.no (fun _ _ => trivial) rfl rfl rfl (.inl rfl) ?_
                              refine RD.p (fun _ _ => trivial) rfl (Pu.pickT rfl rfl) rfl rfl ?_
                              obtain rfl := Option.some.inj H
                              exact hJ92 _ ⟨rfl, rfl, rfl, rfl, rfl, rfl, rfl, rfl, rfl, rfl, rfl, rfl, rfl, rfl, rfl, rfl, rfl, rfl, rfl, rfl, rfl, rfl, rfl, rfl, trivial⟩
                             ·have H := ifF hc91 H
                              refine RD.p (fun _ _ => trivial) rfl (Pu.move rfl) rfl rfl ?_
                              refine RD.p (fun _ _ => trivial) rfl (Pu.move rfl) rfl rfl ?_
                              obtain ⟨g95, H⟩ := gdE H
                              refine RD.p (fun _ _ => trivial) rfl (Pu.indexSl sl26 rfl rfl g95) rfl rfl ?_
                              refine RD.q (fun _ _ => trivial) rfl (Qt.ld0 (α := Int) (Rd.ofRowN 2 rfl) ty3 rfl rfl g95 (by rintro _ _ rfl; rfl)) rfl rfl ?_
                              refine RD.p (fun _ _ => trivial) rfl (Pu.bin rfl rfl rfl) rfl rfl ?_
                              refine RD.p (fun _ _ => trivial) rfl (Pu.move rfl) rfl rfl ?_
                              refine RD.joinB H 18 351 (fun b98 => .bool b98) [(1, _), (3, _), (5, _), (6, _), (7, _), (9, _), (11, _), (16, _), (17, _), (18, _), (314, _), (315, _), (316, _), (317, _), (318, _), (319, _), (320, _), (321, _), (322, _), (323, _), (324, _), (325, _), (326, _), (327, _), (328, _), (329, _), (330, _), (331, _), (332, _)] ⟨rfl, rfl, rfl, rfl, rfl, rfl, rfl, rfl, rfl, rfl, rfl, rfl, rfl, rfl, rfl, rfl, rfl, rfl, rfl, rfl, rfl, rfl, rfl, rfl, rfl, rfl, rfl, rfl, rfl, trivial⟩ ?_ ?_
                              ·intro b98 H
                               refine RD.p (fun _ _ => trivial) rfl (Pu.pickF rfl rfl) rfl rfl ?_
                               obtain rfl := Option.some.inj H
                               exact hJ92 _ ⟨rfl, rfl, rfl, rfl, rfl, rfl, rfl, rfl, rfl, rfl, rfl, rfl, rfl, rfl, rfl, rfl, rfl, rfl, rfl, rfl, rfl, rfl, rfl, rfl, trivial⟩
                              ·intro z99 H hJ97
                               refine RD.splitP 333 rfl (fun hc96 => ?_) (fun hc96 => ?_)
                               ·have H := ifT hc96 H
                                refine RD.p (fun _ _ => trivial) rfl (Pu.move rfl) rfl rfl ?_
                                refine RD.p (fun _ _ => trivial) rfl (Pu.move rfl) rfl rfl ?_
                                obtain ⟨g100, H⟩ := gdE H
                                refine RD.p (fun _ _ => trivial) rfl (Pu.indexSl sl26 rfl rfl g100) rfl rfl ?_
                                refine RD.q (fun _ _ => trivial) rfl (Qt.ld0 (α := Int) (Rd.ofRowN 2 rfl) ty3 rfl rfl g100 (by rintro _ _ rfl; rfl)) rfl rfl ?_
                                refine RD.p (fun _ _ => trivial) rfl (Pu.move rfl) rfl rfl ?_
                                refine RD.p (fun _ _ => trivial) rfl (Pu.move rfl) rfl rfl ?_
                                obtain ⟨g101, H⟩ := gdE H
                                refine RD.p (fun _ _ => trivial) rfl (Pu.indexSl sl26 rfl rfl g101) rfl rfl ?_
                                refine RD.q (fun _ _ => trivial) rfl (Qt.ld0 (α := Int) (Rd.ofRowN 2 rfl) ty3 rfl rfl g101 (by rintro _ _ rfl; rfl)) rfl rfl ?_
                                refine RD.p (fun _ _ => trivial) rfl (Pu.fieldAddr fd56_0 rfl) rfl rfl ?_
                                refine RD.q (fun _ _ => trivial) rfl (Qt.ldBA (us := [_, _, _]) 0 ty24 rfl rfl rfl rfl) rfl rfl ?_
                                refine RD.p (fun _ _ => trivial) rfl (Pu.fieldAddr fd56_2 rfl) rfl rfl ?_
                                refine RD.q (fun _ _ => trivial) rfl (Qt.ldB 0 ty3 rfl rfl rfl) rfl rfl ?_
                                refine RD.p (fun _ _ => trivial) rfl (Pu.move rfl) rfl rfl ?_
                                refine RD.p (fun _ _ => trivial) rfl (Pu.move rfl) rfl rfl ?_
                                obtain ⟨x102, hx102, H⟩ := bindE H
                                refine RD.q (fun _ _ => trivial) rfl (Qt.call (vs := [.agg #[.int .i64 a0_p.g.w, .int .i64 a0_p.g.h, .slice p0 a0_p.g.tiles.length c0], .int .i64 a0_p.cls, .int .i64 v41, .int .i64 (gi x67 v71)]) ent52 rfl fun w s => thronglaw13_cost_walk a0_p.g a0_p.cls v41 (gi x67 v71) w ((Rd.base h0) w s) hx102) rfl rfl ?_
                                obtain ⟨g103, H⟩ := gdE H
                                refine RD.p (fun _ _ => trivial) rfl (Pu.addS rfl rfl g103) rfl rfl ?_
                                refine RD.p (fun _ _ => trivial) rfl (Pu.bin rfl rfl rfl) rfl rfl ?_
                                refine RD.p (fun _ _ => trivial) rfl (Pu.pickT rfl rfl) rfl rfl ?_
                                obtain rfl := Option.some.inj H
                                exact hJ97 _ ⟨rfl, rfl, rfl, rfl, rfl, rfl, rfl, rfl, rfl, rfl, rfl, rfl, rfl, rfl, rfl, rfl, rfl, rfl, rfl, rfl, rfl, rfl, rfl, rfl, rfl, rfl, rfl, rfl, rfl, rfl, trivial⟩
                               ·have H := ifF hc96 H
                                refine RD.no (fun _ _ => trivial) rfl rfl rfl (.inl rfl) ?_
                                refine RD.no (fun _ _ => trivial) rfl rfl rfl (.inl rfl) ?_
                                refine RD.no (fun _ _ => trivial) rfl rfl rfl (.inl rfl) ?_
                                refine RD.no (fun _ _ => trivial) rfl rfl rfl (.inr (.inr rfl)) ?_
                                refine RD.no (fun _ _ => trivial) rfl rfl rfl (.inl rfl) ?_
                                refine RD.no (fun _ _ => trivial) rfl rfl rfl (.inl rfl) ?_
                                refine RD.no (fun _ _ => trivial) rfl rfl rfl (.inl rfl) ?_
                                refine RD.no (fun _ _ => trivial) rfl rfl rfl (.inr (.inr rfl)) ?_
                                refine RD.no (fun _ _ => trivial) rfl rfl rfl (.inl rfl) ?_
                                refine RD.no (fun _ _ => trivial) rfl rfl rfl (.inr (.inr rfl)) ?_
                                refine RD.no (fun _ _ => trivial) rfl rfl rfl (.inl rfl) ?_
                                refine RD.no (fun _ _ => trivial) rfl rfl rfl (.inr (.inr rfl)) ?_
                                refine RD.no (fun _ _ => trivial) rfl rfl rfl (.inl rfl) ?_
                                refine RD.no (fun _ _ => trivial) rfl rfl rfl (.inl rfl) ?_
                                refine RD.no (fun _ _ => trivial) rfl rfl rfl (.inr (.inr rfl)) ?_
                                refine RD.no (fun _ _ => trivial) rfl rfl rfl (.inl rfl) ?_
                                refine RD.no (fun _ _ => trivial) rfl rfl rfl (.inl rfl) ?_
                                refine RD.p (fun _ _ => trivial) rfl (Pu.pickF rfl rfl) rfl rfl ?_
                                obtain rfl := Option.some.inj H
                                exact hJ97 _ ⟨rfl, rfl, rfl, rfl, rfl, rfl, rfl, rfl, rfl, rfl, rfl, rfl, rfl, rfl, rfl, rfl, rfl, rfl, rfl, rfl, rfl, rfl, rfl, rfl, rfl, rfl, rfl, rfl, rfl, rfl, trivial⟩
                           ·have H := ifF hc83 H
                            refine RD.no (fun _ _ => trivial) rfl rfl rfl (.inl rfl) ?_
                            refine RD.no (fun _ _ => trivial) rfl rfl rfl (.inl rfl) ?_
                            refine RD.no (fun _ _ => trivial) rfl rfl rfl (.inl rfl) ?_
                            refine RD.no (fun _ _ => trivial) rfl rfl rfl (.inr (.inr rfl)) ?_
                            refine RD.no (fun _ _ => trivial) rfl rfl rfl (.inl rfl) ?_
                            refine RD.no (fun _ _ => trivial) rfl rfl rfl (.inl rfl) ?_
                            refine RD.no (fun _ _ => trivial) rfl rfl rfl (.inl rfl) ?_
                            refine RD.no (fun _ _ => trivial) rfl rfl rfl (.inl rfl) ?_
                            refine RD.no (fun _ _ => trivial) rfl rfl rfl (.inr (.inr rfl)) ?_
                            refine RD.no (fun _ _ => trivial) rfl rfl rfl (.inl rfl) ?_
                            refine RD.no (fun _ _ => trivial) rfl rfl rfl (.inl rfl) ?_
                            refine RD.no (fun _ _ => trivial) rfl rfl rfl (.inl rfl) ?_
                            refine RD.no (fun _ _ => trivial) rfl rfl rfl (.inl rfl) ?_
                            refine RD.no (fun _ _ => trivial) rfl rfl rfl (.inl rfl) ?_
                            refine RD.no (fun _ _ => trivial) rfl rfl rfl (.inl rfl) ?_
                            refine RD.no (fun _ _ => trivial) rfl rfl rfl (.inr (.inr rfl)) ?_
                            refine RD.no (fun _ _ => trivial) rfl rfl rfl (.inl rfl) ?_
                            refine RD.no (fun _ _ => trivial) rfl rfl rfl (.inl rfl) ?_
                            refine RD.no (fun _ _ => trivial) rfl rfl rfl (.inl rfl) ?_
                            refine RD.no (fun _ _ => trivial) rfl rfl rfl (.inl rfl) ?_
                            refine RD.no (fun _ _ => trivial) rfl rfl rfl (.inl rfl) ?_
                            refine RD.no (fun _ _ => trivial) rfl rfl rfl (.inr (.inr rfl)) ?_
                            refine RD.no (fun _ _ => trivial) rfl rfl rfl (.inl rfl) ?_
                            refine RD.no (fun _ _ => trivial) rfl rfl rfl (.inl rfl) ?_
                            refine RD.no (fun _ _ => trivial) rfl rfl rfl (.inl rfl) ?_
                            refine RD.no (fun _ _ => trivial) rfl rfl rfl (.inr (.inr rfl)) ?_
                            refine RD.no (fun _ _ => trivial) rfl rfl rfl (.inl rfl) ?_
                            refine RD.no (fun _ _ => trivial) rfl rfl rfl (.inr (.inr rfl)) ?_
                            refine RD.no (fun _ _ => trivial) rfl rfl rfl (.inl rfl) ?_
                            refine RD.no (fun _ _ => trivial) rfl rfl rfl (.inr (.inr rfl)) ?_
                            refine RD.no (fun _ _ => trivial) rfl rfl rfl (.inl rfl) ?_
                            refine RD.no (fun _ _ => trivial) rfl rfl rfl (.inl rfl) ?_
                            refine RD.no (fun _ _ => trivial) rfl rfl rfl (.inr (.inr rfl)) ?_
                            refine RD.no (fun _ _ => trivial) rfl rfl rfl (.inl rfl) ?_
                            refine RD.no (fun _ _ => trivial) rfl rfl rfl (.inl rfl) ?_
                            refine RD.no (fun _ _ => trivial) rfl rfl rfl (.inl rfl) ?_
                            refine RD.no (fun _ _ => trivial) rfl rfl rfl (.inl rfl) ?_
                            refine RD.p (fun _ _ => trivial) rfl (Pu.pickF rfl rfl) rfl rfl ?_
                            obtain rfl := Option.some.inj H
                            exact hJ84 _ ⟨rfl, rfl, rfl, rfl, rfl, rfl, rfl, rfl, rfl, rfl, trivial⟩
                         ·intro hJ81
                          refine RD.splitP 309 rfl (fun hc80 => ?_) (fun hc80 => ?_)
                          ·refine RD.p (fun _ _ => trivial) rfl (Pu.move rfl) rfl rfl ?_
                           refine RD.p (fun _ _ => trivial) rfl (Pu.move rfl) rfl rfl ?_
                           refine RD.know (p := ∃ g cap, q8 = (some g, cap)) (fun w s => s.row_some (k := 1) rfl (pos_of (g82 hc80))) ?_
                           rintro ⟨gg104, cc105, rfl⟩
                           refine RD.p (fun _ _ => trivial) rfl (Pu.indexSl sl45 rfl rfl (g82 hc80)) rfl rfl ?_
                           refine RD.q (fun _ _ => trivial) rfl (Qt.ld0 (α := Bool) (Rd.ofRowN 1 rfl) ty4 rfl rfl (g82 hc80) (by rintro _ _ rfl; rfl)) rfl rfl ?_
                           refine RD.p (fun _ _ => trivial) rfl (Pu.pickT rfl rfl) rfl rfl ?_
                           exact hJ81 _ ⟨dAndTB hc80, rfl, rfl, rfl, rfl, rfl, rfl, rfl, rfl, rfl, rfl, trivial⟩
                          ·refine RD.no (fun _ _ => trivial) rfl rfl rfl (.inl rfl) ?_
                           refine RD.no (fun _ _ => trivial) rfl rfl rfl (.inl rfl) ?_
                           refine RD.no (fun _ _ => trivial) rfl rfl rfl (.inl rfl) ?_
                           refine RD.no (fun _ _ => trivial) rfl rfl rfl (.inr (.inr rfl)) ?_
                           refine RD.p (fun _ _ => trivial) rfl (Pu.pickF rfl rfl) rfl rfl ?_
                           exact hJ81 _ ⟨dAndF hc80, rfl, rfl, rfl, rfl, rfl, rfl, rfl, rfl, rfl, rfl, trivial⟩
                        ·intro hJ78
                         refine RD.splitP 303 rfl (fun hc77 => ?_) (fun hc77 => ?_)
                         ·refine RD.p (fun _ _ => trivial) rfl (Pu.move rfl) rfl rfl ?_
                          refine RD.p (fun _ _ => trivial) rfl (Pu.move rfl) rfl rfl ?_
                          refine RD.know (p := ∃ g cap, q8 = (some g, cap)) (fun w s => s.row_some (k := 1) rfl (pos_of (g79 hc77))) ?_
                          rintro ⟨gg106, cc107, rfl⟩
                          refine RD.p (fun _ _ => trivial) rfl (Pu.indexSl sl45 rfl rfl (g79 hc77)) rfl rfl ?_
                          refine RD.q (fun _ _ => trivial) rfl (Qt.ld0 (α := Bool) (Rd.ofRowN 1 rfl) ty4 rfl rfl (g79 hc77) (by rintro _ _ rfl; rfl)) rfl rfl ?_
                          refine RD.p (fun _ _ => trivial) rfl (Pu.pickT rfl rfl) rfl rfl ?_
                          exact hJ78 _ ⟨dAndTB hc77, rfl, rfl, rfl, rfl, rfl, rfl, rfl, rfl, rfl, rfl, trivial⟩
                         ·refine RD.no (fun _ _ => trivial) rfl rfl rfl (.inl rfl) ?_
                          refine RD.no (fun _ _ => trivial) rfl rfl rfl (.inl rfl) ?_
                          refine RD.no (fun _ _ => trivial) rfl rfl rfl (.inl rfl) ?_
                          refine RD.no (fun _ _ => trivial) rfl rfl rfl (.inr (.inr rfl)) ?_
                          refine RD.p (fun _ _ => trivial) rfl (Pu.pickF rfl rfl) rfl rfl ?_
                          exact hJ78 _ ⟨dAndF hc77, rfl, rfl, rfl, rfl, rfl, rfl, rfl, rfl, rfl, rfl, trivial⟩
                       ·have H := ifF hc73 H
                        obtain rfl := hd69 _ H
                        refine T.exitTo (by with_reducible (repeat (first | exact ExTo.here | exact ExTo.hereN | exact ExTo.deep (by repeat (first | exact NmTo.seq | apply NmTo.blk)) | apply ExTo.seq | refine ExTo.past (by decide) ?_))) (hJ69 _ _ () () HX69 ⟨rfl, rfl, rfl, rfl, rfl, rfl, rfl, trivial⟩ trivial (fun w s => s))
                    ·intro hJ64
                     refine RS.splitP 276 rfl (fun hc63 => ?_) (fun hc63 => ?_)
                     ·refine RS.p (Pu.move rfl) rfl rfl ?_
                      refine RS.p (Pu.move rfl) rfl rfl ?_
                      refine RS.p (Pu.bin rfl rfl rfl) rfl rfl ?_
                      refine RS.p (Pu.move rfl) rfl rfl ?_
                      refine RS.joinV 7 287 (.bool (decide ((¬ v60 = (gi a0_p.ts v15)) ∨ (¬ v61 = (gi x26.1 v41))))) [(1, _), (3, _), (5, _), (6, _), (7, _), (9, _), (11, _), (12, _), (13, _), (271, _), (272, _), (273, _), (274, _), (275, _), (276, _), (277, _), (278, _), (279, _)] ⟨rfl, rfl, rfl, rfl, rfl, rfl, rfl, rfl, rfl, rfl, rfl, rfl, rfl, rfl, rfl, rfl, rfl, rfl, trivial⟩ ?_ ?_
                      ·refine RS.p (Pu.pickT rfl rfl) rfl rfl ?_
                       exact hJ64 _ _ ⟨dAndT hc63, rfl, rfl, rfl, rfl, rfl, rfl, rfl, trivial⟩ (fun w s => s)
                      ·intro hJ109
                       refine RS.splitP 280 rfl (fun hc108 => ?_) (fun hc108 => ?_)
                       ·refine RS.no rfl rfl ?_
                        refine RS.no rfl rfl ?_
                        refine RS.no rfl rfl ?_
                        refine RS.no rfl rfl ?_
                        refine RS.no rfl rfl ?_
                        refine RS.no rfl rfl ?_
                        refine RS.p (Pu.pickT rfl rfl) rfl rfl ?_
                        exact hJ109 _ _ ⟨dOrT hc108, rfl, rfl, rfl, rfl, rfl, rfl, rfl, rfl, rfl, rfl, rfl, rfl, rfl, rfl, rfl, rfl, rfl, rfl, trivial⟩ (fun w s => s)
                       ·refine RS.p (Pu.move rfl) rfl rfl ?_
                        refine RS.p (Pu.move rfl) rfl rfl ?_
                        refine RS.p (Pu.move rfl) rfl rfl ?_
                        refine RS.p (Pu.indexSl sl26 rfl rfl ((g65 hc63) hc108)) rfl rfl ?_
                        refine RS.q (Qt.ld0 (α := Int) (Rd.ofRowN 2 rfl) ty3 rfl rfl ((g65 hc63) hc108) (by rintro _ _ rfl; rfl)) rfl rfl ?_
                        refine RS.p (Pu.bin rfl rfl rfl) rfl rfl ?_
                        refine RS.p (Pu.pickF rfl rfl) rfl rfl ?_
                        exact hJ109 _ _ ⟨dOrF hc108, rfl, rfl, rfl, rfl, rfl, rfl, rfl, rfl, rfl, rfl, rfl, rfl, rfl, rfl, rfl, rfl, rfl, rfl, trivial⟩ (fun w s => s)
                     ·refine RS.no rfl rfl ?_
                      refine RS.no rfl rfl ?_
                      refine RS.no rfl rfl ?_
                      refine RS.no rfl rfl ?_
                      refine RS.no rfl rfl ?_
                      refine RS.no rfl rfl ?_
                      refine RS.no rfl rfl ?_
                      refine RS.no rfl rfl ?_
                      refine RS.no rfl rfl ?_
                      refine RS.no rfl rfl ?_
                      refine RS.no rfl rfl ?_
                      refine RS.p (Pu.pickF rfl rfl) rfl rfl ?_
                      exact hJ64 _ _ ⟨dAndF hc63, rfl, rfl, rfl, rfl, rfl, rfl, rfl, trivial⟩ (fun w s => s)
                   ·intro z59 hz59 HX59 hJ59
                    refine T.block ?_
                    refine T.loopA (γ := Unit) hz59 [(1, _), (3, _), (5, _), (6, _), (7, _), (9, _), (11, _)] (fun (v110, v111, v112) _ => [(12, .int .i64 v110), (13, .int .i64 v111), (14, .int .i64 v112)]) (fun (v110, v111, v112) _ => Sat w [blk b1 [.int .i64 a0_p.g.w, .int .i64 a0_p.g.h, .slice p0 a0_p.g.tiles.length c0, .slice p1 a0_p.l.length c1, .int .i64 a0_p.cls, .int .i64 a0_p.size, .slice (some ⟨bl21, ol22, none⟩) a0_p.ts.length c2] 56, row nilH 4 (rowV q8 x7.1.length) x7.1, row nilH 3 (rowV (some gg45, cc46) x26.1.length) x26.1, row nilH 3 (rowV q29 x28.1.length) x28.1]) () ⟨rfl, rfl, rfl, rfl, rfl, rfl, rfl, trivial⟩ ⟨rfl, rfl, rfl, trivial⟩ (fun w s => s) ?_
                    rintro ⟨v110, v111, v112⟩ ⟨⟩ y113 H hd59 KL59 hL59
                    try dsimp only [Ex.then] at H
                    refine T.conseq (fr' := [(12, _), (13, _), (14, _), (1, _), (3, _), (5, _), (6, _), (7, _), (9, _), (11, _)]) ?_ ⟨rfl, rfl, rfl, rfl, rfl, rfl, rfl, rfl, rfl, rfl, trivial⟩ (fun _ s => s)
                    refine T.seq fun K44 hK44 => ?_
                    refine T.seq fun K45 hK45 => ?_
                    refine T.region ?_
                    refine RS.p (Pu.move rfl) rfl rfl ?_
                    refine RS.p (Pu.move rfl) rfl rfl ?_
                    refine RS.p (Pu.lenSl sl26 rfl) rfl rfl ?_
                    refine RS.p (Pu.bin rfl rfl rfl) rfl rfl ?_
                    refine RS.p (Pu.move rfl) rfl rfl ?_
                    obtain ⟨g116, H⟩ := gdE H
                    refine RS.joinV 6 180 (.bool (decide ((v112 ≤ (x26.1.length : Int)) ∧ (0 < (gi x26.1 v110))))) [(1, _), (3, _), (5, _), (6, _), (7, _), (9, _), (11, _), (12, _), (13, _), (14, _)] ⟨rfl, rfl, rfl, rfl, rfl, rfl, rfl, rfl, rfl, rfl, trivial⟩ ?_ ?_
                    ·refine RS.nil (hK45 _ _ ?_)
                     refine T.condP rfl (fun hc117 => ?_) (fun hc117 => ?_)
                     ·have H := ifT hc117 H
                      refine T.skip (hK44 _ _ ?_)
                      refine T.seq fun K46 hK46 => ?_
                      refine T.block ?_
                      refine T.seq fun K47 hK47 => ?_
                      refine T.seq fun K48 hK48 => ?_
                      refine T.region ?_
                      refine RS.p (Pu.move rfl) rfl rfl ?_
                      refine RS.p (Pu.move rfl) rfl rfl ?_
                      obtain ⟨g118, H⟩ := gdE H
                      refine RS.know (p := ∃ g cap, q29 = (some g, cap)) (fun w s => s.row_some (k := 3) rfl (pos_of g118)) ?_
                      rintro ⟨gg119, cc120, rfl⟩
                      refine RS.p (Pu.indexSl sl26 rfl rfl g118) rfl rfl ?_
                      refine RS.q (Qt.ld0 (α := Int) (Rd.ofRowN 3 rfl) ty3 rfl rfl g118 (by rintro _ _ rfl; rfl)) rfl rfl ?_
                      refine RS.p (Pu.bin rfl rfl rfl) rfl rfl ?_
                      refine RS.p (Pu.move rfl) rfl rfl ?_
                      obtain ⟨g123, H⟩ := gdE H
                      refine RS.joinV 6 194 (.bool (decide (((gi x28.1 v110) < 0) ∨ (7 < (gi x28.1 v110))))) [(1, _), (3, _), (5, _), (6, _), (7, _), (9, _), (11, _), (12, _), (13, _), (14, _)] ⟨rfl, rfl, rfl, rfl, rfl, rfl, rfl, rfl, rfl, rfl, trivial⟩ ?_ ?_
                      ·refine RS.nil (hK48 _ _ ?_)
                       refine T.condP rfl (fun hc124 => ?_) (fun hc124 => ?_)
                       ·have H := ifT hc124 H
                        refine T.conseq (fr' := []) ?_ trivial (fun _ s => s)
                        refine T.seq fun K49 hK49 => ?_
                        refine T.region ?_
                        refine RS.p (Pu.assign rfl) rfl rfl ?_
                        refine RS.nil (hK49 _ _ ?_)
                        obtain rfl := hd59 _ H
                        have H := HX59
                        obtain rfl := hd39 _ H
                        have H := HX39
                        obtain rfl := hd13 _ H
                        have H := HX13
                        obtain rfl := Option.some.inj H
                        refine T.retTo (by with_reducible ((repeat (first | apply RetTo.seq | apply RetTo.blk)); exact RetTo.refl _)) (Cont.ret1 rfl rfl fun w' s => ?_)
                        exact ⟨rfl, s.ext⟩
                       ·have H := ifF hc124 H
                        refine T.skip (hK47 _ _ ?_)
                        refine T.seq fun K50 hK50 => ?_
                        refine T.drawn (fun _ => True) [(0, .pu), (1, .rd), (2, .pu), (4, .pu), (5, .pu), (6, .pu), (7, .rd), (3, .so), (8, .pu), (9, .rd), (10, .pu)] mixed (ClE.sat _ _) (by kernel_rfl) ?_
                        refine RD.p (fun _ _ => trivial) rfl (Pu.fieldAddr fd56_0 rfl) rfl rfl ?_
                        refine RD.q (fun _ _ => trivial) rfl (Qt.ldBA (us := [_, _, _]) 0 ty24 rfl rfl rfl rfl) rfl rfl ?_
                        refine RD.p (fun _ _ => trivial) rfl (Pu.move rfl) rfl rfl ?_
                        refine RD.p (fun _ _ => trivial) rfl (Pu.move rfl) rfl rfl ?_
                        refine RD.p (fun _ _ => trivial) rfl (Pu.move rfl) rfl rfl ?_
                        obtain ⟨g125, H⟩ := gdE H
                        refine RD.p (fun _ _ => trivial) rfl (Pu.indexSl sl26 rfl rfl g125) rfl rfl ?_
                        refine RD.q (fun _ _ => trivial) rfl (Qt.ld0 (α := Int) (Rd.ofRowN 3 rfl) ty3 rfl rfl g125 (by rintro _ _ rfl; rfl)) rfl rfl ?_
                        obtain ⟨x126, hx126, H⟩ := bindE H
                        refine RD.solid rfl (.inl rfl) rfl rfl (Sd.callN (vs := [.agg #[.int .i64 a0_p.g.w, .int .i64 a0_p.g.h, .slice p0 a0_p.g.tiles.length c0], .int .i64 v110]) ent51 rfl (fun w s => throngref5_Near_walk a0_p.g v110 w ((Rd.base h0) w s) hx126)) (fun _ => ClE.sat _ _) (fun _ _ _ => trivial) (fun _ _ _ s => s.drop1) fun q127 => ?_
                        obtain ⟨g128, H⟩ := gdE H
                        refine RD.know (p := ∃ g cap, q127 = (some g, cap)) (fun w s => s.row_some (k := 4) rfl (pos_of g128)) ?_
                        rintro ⟨gg129, cc130, rfl⟩
                        refine RD.p (fun _ _ => trivial) rfl (Pu.indexSl sl26 rfl rfl g128) rfl rfl ?_
                        refine RD.q (fun _ _ => trivial) rfl (Qt.ld0 (α := Int) (Rd.ofRowN 4 rfl) ty3 rfl rfl g128 (by rintro _ _ rfl; rfl)) rfl rfl ?_
                        refine RD.p (fun _ _ => trivial) rfl (Pu.assign rfl) rfl rfl ?_
                        refine RD.nil (hK50 _ _ (T.conseq (fr' := [(1, _), (3, _), (5, _), (6, _), (7, _), (9, _), (11, _), (12, _), (13, _), (14, _), (15, _)]) ?_ ⟨rfl, rfl, rfl, rfl, rfl, rfl, rfl, rfl, rfl, rfl, rfl, trivial⟩ (fun _ s => s)))
                        refine T.seq fun K51 hK51 => ?_
                        refine T.seq fun K52 hK52 => ?_
                        refine T.region ?_
                        refine RS.p (Pu.move rfl) rfl rfl ?_
                        refine RS.p (Pu.bin rfl rfl rfl) rfl rfl ?_
                        refine RS.p (Pu.move rfl) rfl rfl ?_
                        obtain ⟨g133, H⟩ := gdE H
                        refine RS.joinV 6 213 (.bool (decide (((gi x126 (gi x28.1 v110)) < 0) ∨ ((!(gi x7.1 (gi x126 (gi x28.1 v110)))) = true)))) [(1, _), (3, _), (5, _), (6, _), (7, _), (9, _), (11, _), (12, _), (13, _), (14, _), (15, _)] ⟨rfl, rfl, rfl, rfl, rfl, rfl, rfl, rfl, rfl, rfl, rfl, trivial⟩ ?_ ?_
                        ·refine RS.nil (hK52 _ _ ?_)
                         refine T.condP rfl (fun hc134 => ?_) (fun hc134 => ?_)
                         ·have H := ifT hc134 H
                          refine T.conseq (fr' := []) ?_ trivial (fun _ s => s)
                          refine T.seq fun K53 hK53 => ?_
                          refine T.region ?_
                          refine RS.p (Pu.assign rfl) rfl rfl ?_
                          refine RS.nil (hK53 _ _ ?_)
                          obtain rfl := hd59 _ H
                          have H := HX59
                          obtain rfl := hd39 _ H
                          have H := HX39
                          obtain rfl := hd13 _ H
                          have H := HX13
                          obtain rfl := Option.some.inj H
                          refine T.retTo (by with_reducible ((repeat (first | apply RetTo.seq | apply RetTo.blk)); exact RetTo.refl _)) (Cont.ret1 rfl rfl fun w' s => ?_)
                          exact ⟨rfl, s.ext⟩
                         ·have H := ifF hc134 H
                          refine T.skip (hK51 _ _ ?_)
                          refine T.seq fun K54 hK54 => ?_
                          refine T.seq fun K55 hK55 => ?_
                          refine T.drawn (fun _ => True) [(0, .pu), (1, .pu), (2, .pu), (3, .rd), (4, .pu), (5, .pu), (6, .pu), (7, .pu), (8, .pu), (9, .pu), (10, .rd), (11, .pu), (12, .pu), (13, .pu), (14, .pu), (15, .rd), (16, .pu), (17, .pu), (18, .pu), (19, .rd), (20, .pu), (21, .pu), (22, .pu), (23, .rd), (24, .pu), (25, .pu), (26, .pu), (27, .pu), (28, .pu), (29, .pu), (30, .rd), (31, .pu), (32, .pu), (33, .pu), (34, .pu), (35, .rd), (36, .pu), (37, .pu), (38, .pu), (39, .rd), (40, .pu), (41, .pu), (42, .pu), (43, .rd), (44, .pu), (45, .pu), (46, .pu)] mixed (ClE.sat _ _) (by kernel_rfl) ?_
                          refine RD.p (fun _ _ => trivial) rfl (Pu.move rfl) rfl rfl ?_
                          refine RD.p (fun _ _ => trivial) rfl (Pu.move rfl) rfl rfl ?_
                          obtain ⟨g135, H⟩ := gdE H
                          refine RD.p (fun _ _ => trivial) rfl (Pu.indexSl sl26 rfl rfl g135) rfl rfl ?_
                          refine RD.q (fun _ _ => trivial) rfl (Qt.ld0 (α := Int) (Rd.ofRowN 3 rfl) ty3 rfl rfl g135 (by rintro _ _ rfl; rfl)) rfl rfl ?_
                          refine RD.p (fun _ _ => trivial) rfl (Pu.bin rfl rfl rfl) rfl rfl ?_
                          refine RD.p (fun _ _ => trivial) rfl (Pu.move rfl) rfl rfl ?_
                          obtain ⟨g138, H⟩ := gdE H
                          obtain ⟨g139, H⟩ := gdE H
                          obtain ⟨g140, H⟩ := gdE H
                          obtain ⟨g141, H⟩ := gdE H
                          obtain ⟨g142, H⟩ := gdE H
                          obtain ⟨g143, H⟩ := gdE H
                          obtain ⟨g144, H⟩ := gdE H
                          obtain ⟨g145, H⟩ := gdE H
                          obtain ⟨g146, H⟩ := gdE H
                          obtain ⟨g147, H⟩ := gdE H
                          refine RD.joinV 41 260 (.bool (decide ((3 < (gi x28.1 v110)) ∧ (((!(gi x7.1 ((v110 % a0_p.g.w) + (((gi x126 (gi x28.1 v110)) / a0_p.g.w) * a0_p.g.w)))) = true) ∨ ((!(gi x7.1 (((gi x126 (gi x28.1 v110)) % a0_p.g.w) + ((v110 / a0_p.g.w) * a0_p.g.w)))) = true))))) [(1, _), (3, _), (5, _), (6, _), (7, _), (9, _), (11, _), (12, _), (13, _), (14, _), (15, _)] ⟨rfl, rfl, rfl, rfl, rfl, rfl, rfl, rfl, rfl, rfl, rfl, trivial⟩ ?_ ?_
                          ·refine RD.nil (hK55 _ _ ?_)
                           refine T.condP rfl (fun hc148 => ?_) (fun hc148 => ?_)
                           ·have H := ifT hc148 H
                            refine T.conseq (fr' := []) ?_ trivial (fun _ s => s)
                            refine T.seq fun K56 hK56 => ?_
                            refine T.region ?_
                            refine RS.p (Pu.assign rfl) rfl rfl ?_
                            refine RS.nil (hK56 _ _ ?_)
                            obtain rfl := hd59 _ H
                            have H := HX59
                            obtain rfl := hd39 _ H
                            have H := HX39
                            obtain rfl := hd13 _ H
                            have H := HX13
                            obtain rfl := Option.some.inj H
                            refine T.retTo (by with_reducible ((repeat (first | apply RetTo.seq | apply RetTo.blk)); exact RetTo.refl _)) (Cont.ret1 rfl rfl fun w' s => ?_)
                            exact ⟨rfl, s.ext⟩
                           ·have H := ifF hc148 H
                            refine T.skip (hK54 _ _ ?_)
                            refine T.seq fun K57 hK57 => ?_
                            refine T.region ?_
                            refine RS.p (Pu.move rfl) rfl rfl ?_
                            refine RS.p (Pu.fieldAddr fd56_0 rfl) rfl rfl ?_
                            refine RS.q (Qt.ldBA (us := [_, _, _]) 0 ty24 rfl rfl rfl rfl) rfl rfl ?_
                            refine RS.p (Pu.fieldAddr fd56_2 rfl) rfl rfl ?_
                            refine RS.q (Qt.ldB 0 ty3 rfl rfl rfl) rfl rfl ?_
                            refine RS.p (Pu.move rfl) rfl rfl ?_
                            refine RS.p (Pu.move rfl) rfl rfl ?_
                            obtain ⟨x149, hx149, H⟩ := bindE H
                            refine RS.q (Qt.call (vs := [.agg #[.int .i64 a0_p.g.w, .int .i64 a0_p.g.h, .slice p0 a0_p.g.tiles.length c0], .int .i64 a0_p.cls, .int .i64 v110, .int .i64 (gi x126 (gi x28.1 v110))]) ent52 rfl fun w s => thronglaw13_cost_walk a0_p.g a0_p.cls v110 (gi x126 (gi x28.1 v110)) w ((Rd.base h0) w s) hx149) rfl rfl ?_
                            obtain ⟨g150, H⟩ := gdE H
                            refine RS.p (Pu.addS rfl rfl g150) rfl rfl ?_
                            refine RS.p (Pu.assign rfl) rfl rfl ?_
                            refine RS.nil (hK57 _ _ (T.conseq (fr' := [(1, _), (3, _), (5, _), (6, _), (7, _), (9, _), (11, _), (13, _), (14, _), (15, _)]) ?_ ⟨rfl, rfl, rfl, rfl, rfl, rfl, rfl, rfl, rfl, rfl, trivial⟩ (fun _ s => s)))
                            refine T.region ?_
                            refine RS.p (Pu.move rfl) rfl rfl ?_
                            refine RS.p (Pu.assign rfl) rfl rfl ?_
                            refine RS.nil (hK46 _ _ ?_)
                            refine T.region ?_
                            refine RS.p (Pu.move rfl) rfl rfl ?_
                            obtain ⟨g151, H⟩ := gdE H
                            refine RS.p (Pu.addS rfl rfl g151) rfl rfl ?_
                            refine RS.p (Pu.assign rfl) rfl rfl ?_
                            refine RS.nil (hL59 _ _ ((gi x126 (gi x28.1 v110)), (v111 + x149), (v112 + 1)) () H ⟨rfl, rfl, rfl, rfl, rfl, rfl, rfl, trivial⟩ ⟨rfl, rfl, rfl, trivial⟩ (fun w s => s.pick [0, 1, 2, 3] (by decide) rfl))
                          ·intro hJ137
                           refine RD.splitP 219 rfl (fun hc136 => ?_) (fun hc136 => ?_)
                           ·refine RD.p (fun _ _ => trivial) rfl (Pu.move rfl) rfl rfl ?_
                            refine RD.p (fun _ _ => trivial) rfl (Pu.move rfl) rfl rfl ?_
                            refine RD.p (fun _ _ => trivial) rfl (Pu.fieldAddr fd56_0 rfl) rfl rfl ?_
                            refine RD.p (fun _ _ => trivial) rfl (Pu.fieldAddr fd24_0 rfl) rfl rfl ?_
                            refine RD.q (fun _ _ => trivial) rfl (Qt.ldB 0 ty3 rfl rfl rfl) rfl rfl ?_
                            refine RD.p (fun _ _ => trivial) rfl (Pu.remN rfl rfl (and3 (g138 hc136))) rfl rfl ?_
                            refine RD.p (fun _ _ => trivial) rfl (Pu.move rfl) rfl rfl ?_
                            refine RD.p (fun _ _ => trivial) rfl (Pu.fieldAddr fd56_0 rfl) rfl rfl ?_
                            refine RD.p (fun _ _ => trivial) rfl (Pu.fieldAddr fd24_0 rfl) rfl rfl ?_
                            refine RD.q (fun _ _ => trivial) rfl (Qt.ldB 0 ty3 rfl rfl rfl) rfl rfl ?_
                            refine RD.p (fun _ _ => trivial) rfl (Pu.quoN rfl rfl (g139 hc136)) rfl rfl ?_
                            refine RD.p (fun _ _ => trivial) rfl (Pu.fieldAddr fd56_0 rfl) rfl rfl ?_
                            refine RD.p (fun _ _ => trivial) rfl (Pu.fieldAddr fd24_0 rfl) rfl rfl ?_
                            refine RD.q (fun _ _ => trivial) rfl (Qt.ldB 0 ty3 rfl rfl rfl) rfl rfl ?_
                            refine RD.p (fun _ _ => trivial) rfl (Pu.mulS rfl rfl (g140 hc136)) rfl rfl ?_
                            refine RD.p (fun _ _ => trivial) rfl (Pu.addS rfl rfl (g141 hc136)) rfl rfl ?_
                            refine RD.know (p := ∃ g cap, q8 = (some g, cap)) (fun w s => s.row_some (k := 1) rfl (pos_of (g142 hc136))) ?_
                            rintro ⟨gg152, cc153, rfl⟩
                            refine RD.p (fun _ _ => trivial) rfl (Pu.indexSl sl45 rfl rfl (g142 hc136)) rfl rfl ?_
                            refine RD.q (fun _ _ => trivial) rfl (Qt.ld0 (α := Bool) (Rd.ofRowN 1 rfl) ty4 rfl rfl (g142 hc136) (by rintro _ _ rfl; rfl)) rfl rfl ?_
                            refine RD.p (fun _ _ => trivial) rfl (Pu.not rfl) rfl rfl ?_
                            refine RD.p (fun _ _ => trivial) rfl (Pu.move rfl) rfl rfl ?_
                            refine RD.joinV 20 259 (.bool (decide (((!(gi x7.1 ((v110 % a0_p.g.w) + (((gi x126 (gi x28.1 v110)) / a0_p.g.w) * a0_p.g.w)))) = true) ∨ ((!(gi x7.1 (((gi x126 (gi x28.1 v110)) % a0_p.g.w) + ((v110 / a0_p.g.w) * a0_p.g.w)))) = true)))) [(1, _), (3, _), (5, _), (6, _), (7, _), (9, _), (11, _), (12, _), (13, _), (14, _), (15, _), (213, _), (214, _), (215, _), (216, _), (217, _), (218, _), (219, _), (220, _), (221, _), (222, _), (223, _), (224, _), (225, _), (226, _), (227, _), (228, _), (229, _), (230, _), (231, _), (232, _), (233, _), (234, _), (235, _), (236, _), (237, _), (238, _)] ⟨rfl, rfl, rfl, rfl, rfl, rfl, rfl, rfl, rfl, rfl, rfl, rfl, rfl, rfl, rfl, rfl, rfl, rfl, rfl, rfl, rfl, rfl, rfl, rfl, rfl, rfl, rfl, rfl, rfl, rfl, rfl, rfl, rfl, rfl, rfl, rfl, rfl, trivial⟩ ?_ ?_
                            ·refine RD.p (fun _ _ => trivial) rfl (Pu.pickT rfl rfl) rfl rfl ?_
                             exact hJ137 _ ⟨dAndT hc136, rfl, rfl, rfl, rfl, rfl, rfl, rfl, rfl, rfl, rfl, rfl, trivial⟩
                            ·intro hJ155
                             refine RD.split 239 rfl (fun hc154 => ?_) (fun hc154 => ?_)
                             ·refine RD.no (fun _ _ => trivial) rfl rfl rfl (.inl rfl) ?_
                              refine RD.no (fun _ _ => trivial) rfl rfl rfl (.inl rfl) ?_
                              refine RD.no (fun _ _ => trivial) rfl rfl rfl (.inl rfl) ?_
                              refine RD.no (fun _ _ => trivial) rfl rfl rfl (.inl rfl) ?_
                              refine RD.no (fun _ _ => trivial) rfl rfl rfl (.inr (.inr rfl)) ?_
                              refine RD.no (fun _ _ => trivial) rfl rfl rfl (.inl rfl) ?_
                              refine RD.no (fun _ _ => trivial) rfl rfl rfl (.inl rfl) ?_
                              refine RD.no (fun _ _ => trivial) rfl rfl rfl (.inl rfl) ?_
                              refine RD.no (fun _ _ => trivial) rfl rfl rfl (.inl rfl) ?_
                              refine RD.no (fun _ _ => trivial) rfl rfl rfl (.inr (.inr rfl)) ?_
                              refine RD.no (fun _ _ => trivial) rfl rfl rfl (.inl rfl) ?_
                              refine RD.no (fun _ _ => trivial) rfl rfl rfl (.inl rfl) ?_
                              refine RD.no (fun _ _ => trivial) rfl rfl rfl (.inl rfl) ?_
                              refine RD.no (fun _ _ => trivial) rfl rfl rfl (.inr (.inr rfl)) ?_
                              refine RD.no (fun _ _ => trivial) rfl rfl rfl (.inl rfl) ?_
                              refine RD.no (fun _ _ => trivial) rfl rfl rfl (.inl rfl) ?_
                              refine RD.no (fun _ _ => trivial) rfl rfl rfl (.inl rfl) ?_
                              refine RD.no (fun _ _ => trivial) rfl rfl rfl (.inr (.inr rfl)) ?_
                              refine RD.no (fun _ _ => trivial) rfl rfl rfl (.inl rfl) ?_
                              refine RD.p (fun _ _ => trivial) rfl (Pu.pickT rfl rfl) rfl rfl ?_
                              exact hJ155 _ ⟨dOrT hc154, rfl, rfl, rfl, rfl, rfl, rfl, rfl, rfl, rfl, rfl, rfl, rfl, rfl, rfl, rfl, rfl, rfl, rfl, rfl, rfl, rfl, rfl, rfl, rfl, rfl, rfl, rfl, rfl, rfl, rfl, rfl, rfl, rfl, rfl, rfl, rfl, rfl, trivial⟩
                             ·refine RD.p (fun _ _ => trivial) rfl (Pu.move rfl) rfl rfl ?_
                              refine RD.p (fun _ _ => trivial) rfl (Pu.move rfl) rfl rfl ?_
                              refine RD.p (fun _ _ => trivial) rfl (Pu.fieldAddr fd56_0 rfl) rfl rfl ?_
                              refine RD.p (fun _ _ => trivial) rfl (Pu.fieldAddr fd24_0 rfl) rfl rfl ?_
                              refine RD.q (fun _ _ => trivial) rfl (Qt.ldB 0 ty3 rfl rfl rfl) rfl rfl ?_
                              refine RD.p (fun _ _ => trivial) rfl (Pu.remN rfl rfl (and3 ((g143 hc136) (bne_of hc154)))) rfl rfl ?_
                              refine RD.p (fun _ _ => trivial) rfl (Pu.move rfl) rfl rfl ?_
                              refine RD.p (fun _ _ => trivial) rfl (Pu.fieldAddr fd56_0 rfl) rfl rfl ?_
                              refine RD.p (fun _ _ => trivial) rfl (Pu.fieldAddr fd24_0 rfl) rfl rfl ?_
                              refine RD.q (fun _ _ => trivial) rfl (Qt.ldB 0 ty3 rfl rfl rfl) rfl rfl ?_
                              refine RD.p (fun _ _ => trivial) rfl (Pu.quoN rfl rfl ((g144 hc136) (bne_of hc154))) rfl rfl ?_
                              refine RD.p (fun _ _ => trivial) rfl (Pu.fieldAddr fd56_0 rfl) rfl rfl ?_
                              refine RD.p (fun _ _ => trivial) rfl (Pu.fieldAddr fd24_0 rfl) rfl rfl ?_
                              refine RD.q (fun _ _ => trivial) rfl (Qt.ldB 0 ty3 rfl rfl rfl) rfl rfl ?_
                              refine RD.p (fun _ _ => trivial) rfl (Pu.mulS rfl rfl ((g145 hc136) (bne_of hc154))) rfl rfl ?_
                              refine RD.p (fun _ _ => trivial) rfl (Pu.addS rfl rfl ((g146 hc136) (bne_of hc154))) rfl rfl ?_
                              refine RD.p (fun _ _ => trivial) rfl (Pu.indexSl sl45 rfl rfl ((g147 hc136) (bne_of hc154))) rfl rfl ?_
                              refine RD.q (fun _ _ => trivial) rfl (Qt.ld0 (α := Bool) (Rd.ofRowN 1 rfl) ty4 rfl rfl ((g147 hc136) (bne_of hc154)) (by rintro _ _ rfl; rfl)) rfl rfl ?_
                              refine RD.p (fun _ _ => trivial) rfl (Pu.not rfl) rfl rfl ?_
                              refine RD.p (fun _ _ => trivial) rfl (Pu.pickF rfl rfl) rfl rfl ?_
                              exact hJ155 _ ⟨dOrFB (bne_of hc154), rfl, rfl, rfl, rfl, rfl, rfl, rfl, rfl, rfl, rfl, rfl, rfl, rfl, rfl, rfl, rfl, rfl, rfl, rfl, rfl, rfl, rfl, rfl, rfl, rfl, rfl, rfl, rfl, rfl, rfl, rfl, rfl, rfl, rfl, rfl, rfl, rfl, trivial⟩
                           ·refine RD.no (fun _ _ => trivial) rfl rfl rfl (.inl rfl) ?_
                            refine RD.no (fun _ _ => trivial) rfl rfl rfl (.inl rfl) ?_
                            refine RD.no (fun _ _ => trivial) rfl rfl rfl (.inl rfl) ?_
                            refine RD.no (fun _ _ => trivial) rfl rfl rfl (.inl rfl) ?_
                            refine RD.no (fun _ _ => trivial) rfl rfl rfl (.inr (.inr rfl)) ?_
                            refine RD.no (fun _ _ => trivial) rfl rfl rfl (.inl rfl) ?_
                            refine RD.no (fun _ _ => trivial) rfl rfl rfl (.inl rfl) ?_
                            refine RD.no (fun _ _ => trivial) rfl rfl rfl (.inl rfl) ?_
                            refine RD.no (fun _ _ => trivial) rfl rfl rfl (.inl rfl) ?_
                            refine RD.no (fun _ _ => trivial) rfl rfl rfl (.inr (.inr rfl)) ?_
                            refine RD.no (fun _ _ => trivial) rfl rfl rfl (.inl rfl) ?_
                            refine RD.no (fun _ _ => trivial) rfl rfl rfl (.inl rfl) ?_
                            refine RD.no (fun _ _ => trivial) rfl rfl rfl (.inl rfl) ?_
                            refine RD.no (fun _ _ => trivial) rfl rfl rfl (.inr (.inr rfl)) ?_
                            refine RD.no (fun _ _ => trivial) rfl rfl rfl (.inl rfl) ?_
                            refine RD.no (fun _ _ => trivial) rfl rfl rfl (.inl rfl) ?_
                            refine RD.no (fun _ _ => trivial) rfl rfl rfl (.inl rfl) ?_
                            refine RD.no (fun _ _ => trivial) rfl rfl rfl (.inr (.inr rfl)) ?_
                            refine RD.no (fun _ _ => trivial) rfl rfl rfl (.inl rfl) ?_
                            refine RD.no (fun _ _ => trivial) rfl rfl rfl (.inl rfl) ?_
                            refine RD.no (fun _ _ => trivial) rfl rfl rfl (.inl rfl) ?_
                            refine RD.no (fun _ _ => trivial) rfl rfl rfl (.inl rfl) ?_
                            refine RD.no (fun _ _ => trivial) rfl rfl rfl (.inl rfl) ?_
                            refine RD.no (fun _ _ => trivial) rfl rfl rfl (.inl rfl) ?_
                            refine RD.no (fun _ _ => trivial) rfl rfl rfl (.inr (.inr rfl)) ?_
                            refine RD.no (fun _ _ => trivial) rfl rfl rfl (.inl rfl) ?_
                            refine RD.no (fun _ _ => trivial) rfl rfl rfl (.inl rfl) ?_
                            refine RD.no (fun _ _ => trivial) rfl rfl rfl (.inl rfl) ?_
                            refine RD.no (fun _ _ => trivial) rfl rfl rfl (.inl rfl) ?_
                            refine RD.no (fun _ _ => trivial) rfl rfl rfl (.inr (.inr rfl)) ?_
                            refine RD.no (fun _ _ => trivial) rfl rfl rfl (.inl rfl) ?_
                            refine RD.no (fun _ _ => trivial) rfl rfl rfl (.inl rfl) ?_
                            refine RD.no (fun _ _ => trivial) rfl rfl rfl (.inl rfl) ?_
                            refine RD.no (fun _ _ => trivial) rfl rfl rfl (.inr (.inr rfl)) ?_
                            refine RD.no (fun _ _ => trivial) rfl rfl rfl (.inl rfl) ?_
                            refine RD.no (fun _ _ => trivial) rfl rfl rfl (.inl rfl) ?_
                            refine RD.no (fun _ _ => trivial) rfl rfl rfl (.inl rfl) ?_
                            refine RD.no (fun _ _ => trivial) rfl rfl rfl (.inr (.inr rfl)) ?_
                            refine RD.no (fun _ _ => trivial) rfl rfl rfl (.inl rfl) ?_
                            refine RD.no (fun _ _ => trivial) rfl rfl rfl (.inl rfl) ?_
                            refine RD.p (fun _ _ => trivial) rfl (Pu.pickF rfl rfl) rfl rfl ?_
                            exact hJ137 _ ⟨dAndF hc136, rfl, rfl, rfl, rfl, rfl, rfl, rfl, rfl, rfl, rfl, rfl, trivial⟩
                        ·intro hJ132
                         refine RS.splitP 207 rfl (fun hc131 => ?_) (fun hc131 => ?_)
                         ·refine RS.no rfl rfl ?_
                          refine RS.no rfl rfl ?_
                          refine RS.no rfl rfl ?_
                          refine RS.no rfl rfl ?_
                          refine RS.no rfl rfl ?_
                          refine RS.p (Pu.pickT rfl rfl) rfl rfl ?_
                          exact hJ132 _ _ ⟨dOrT hc131, rfl, rfl, rfl, rfl, rfl, rfl, rfl, rfl, rfl, rfl, rfl, trivial⟩ (fun w s => s)
                         ·refine RS.p (Pu.move rfl) rfl rfl ?_
                          refine RS.p (Pu.move rfl) rfl rfl ?_
                          refine RS.know (p := ∃ g cap, q8 = (some g, cap)) (fun w s => s.row_some (k := 1) rfl (pos_of (g133 hc131))) ?_
                          rintro ⟨gg156, cc157, rfl⟩
                          refine RS.p (Pu.indexSl sl45 rfl rfl (g133 hc131)) rfl rfl ?_
                          refine RS.q (Qt.ld0 (α := Bool) (Rd.ofRowN 1 rfl) ty4 rfl rfl (g133 hc131) (by rintro _ _ rfl; rfl)) rfl rfl ?_
                          refine RS.p (Pu.not rfl) rfl rfl ?_
                          refine RS.p (Pu.pickF rfl rfl) rfl rfl ?_
                          exact hJ132 _ _ ⟨dOrFB hc131, rfl, rfl, rfl, rfl, rfl, rfl, rfl, rfl, rfl, rfl, rfl, trivial⟩ (fun w s => s)
                      ·intro hJ122
                       refine RS.splitP 188 rfl (fun hc121 => ?_) (fun hc121 => ?_)
                       ·refine RS.no rfl rfl ?_
                        refine RS.no rfl rfl ?_
                        refine RS.no rfl rfl ?_
                        refine RS.no rfl rfl ?_
                        refine RS.no rfl rfl ?_
                        refine RS.p (Pu.pickT rfl rfl) rfl rfl ?_
                        exact hJ122 _ _ ⟨dOrT hc121, rfl, rfl, rfl, rfl, rfl, rfl, rfl, rfl, rfl, rfl, trivial⟩ (fun w s => s)
                       ·refine RS.p (Pu.move rfl) rfl rfl ?_
                        refine RS.p (Pu.move rfl) rfl rfl ?_
                        refine RS.p (Pu.indexSl sl26 rfl rfl (g123 hc121)) rfl rfl ?_
                        refine RS.q (Qt.ld0 (α := Int) (Rd.ofRowN 3 rfl) ty3 rfl rfl (g123 hc121) (by rintro _ _ rfl; rfl)) rfl rfl ?_
                        refine RS.p (Pu.bin rfl rfl rfl) rfl rfl ?_
                        refine RS.p (Pu.pickF rfl rfl) rfl rfl ?_
                        exact hJ122 _ _ ⟨dOrF hc121, rfl, rfl, rfl, rfl, rfl, rfl, rfl, rfl, rfl, rfl, trivial⟩ (fun w s => s)
                     ·have H := ifF hc117 H
                      obtain rfl := hd59 _ H
                      refine T.exitTo (by with_reducible (repeat (first | exact ExTo.here | exact ExTo.hereN | exact ExTo.deep (by repeat (first | exact NmTo.seq | apply NmTo.blk)) | apply ExTo.seq | refine ExTo.past (by decide) ?_))) (hJ59 _ _ (v110, v111) () HX59 ⟨rfl, rfl, rfl, rfl, rfl, rfl, rfl, trivial⟩ ⟨rfl, rfl, trivial⟩ (fun w s => s))
                    ·intro hJ115
                     refine RS.splitP 174 rfl (fun hc114 => ?_) (fun hc114 => ?_)
                     ·refine RS.p (Pu.move rfl) rfl rfl ?_
                      refine RS.p (Pu.move rfl) rfl rfl ?_
                      refine RS.p (Pu.indexSl sl26 rfl rfl (g116 hc114)) rfl rfl ?_
                      refine RS.q (Qt.ld0 (α := Int) (Rd.ofRowN 2 rfl) ty3 rfl rfl (g116 hc114) (by rintro _ _ rfl; rfl)) rfl rfl ?_
                      refine RS.p (Pu.bin rfl rfl rfl) rfl rfl ?_
                      refine RS.p (Pu.pickT rfl rfl) rfl rfl ?_
                      exact hJ115 _ _ ⟨dAndT hc114, rfl, rfl, rfl, rfl, rfl, rfl, rfl, rfl, rfl, rfl, trivial⟩ (fun w s => s)
                     ·refine RS.no rfl rfl ?_
                      refine RS.no rfl rfl ?_
                      refine RS.no rfl rfl ?_
                      refine RS.no rfl rfl ?_
                      refine RS.no rfl rfl ?_
                      refine RS.p (Pu.pickF rfl rfl) rfl rfl ?_
                      exact hJ115 _ _ ⟨dAndF hc114, rfl, rfl, rfl, rfl, rfl, rfl, rfl, rfl, rfl, rfl, trivial⟩ (fun w s => s)
                 ·intro hJ55
                  refine RD.splitP 156 rfl (fun hc54 => ?_) (fun hc54 => ?_)
                  ·refine RD.no (fun _ _ => trivial) rfl rfl rfl (.inl rfl) ?_
                   refine RD.no (fun _ _ => trivial) rfl rfl rfl (.inl rfl) ?_
                   refine RD.no (fun _ _ => trivial) rfl rfl rfl (.inl rfl) ?_
                   refine RD.no (fun _ _ => trivial) rfl rfl rfl (.inr (.inr rfl)) ?_
                   refine RD.no (fun _ _ => trivial) rfl rfl rfl (.inl rfl) ?_
                   refine RD.no (fun _ _ => trivial) rfl rfl rfl (.inl rfl) ?_
                   refine RD.no (fun _ _ => trivial) rfl rfl rfl (.inl rfl) ?_
                   refine RD.no (fun _ _ => trivial) rfl rfl rfl (.inl rfl) ?_
                   refine RD.no (fun _ _ => trivial) rfl rfl rfl (.inr (.inr rfl)) ?_
                   refine RD.no (fun _ _ => trivial) rfl rfl rfl (.inl rfl) ?_
                   refine RD.no (fun _ _ => trivial) rfl rfl rfl (.inl rfl) ?_
                   refine RD.p (fun _ _ => trivial) rfl (Pu.pickT rfl rfl) rfl rfl ?_
                   exact hJ55 _ ⟨dOrT hc54, rfl, rfl, rfl, rfl, rfl, rfl, rfl, trivial⟩
                  ·refine RD.p (fun _ _ => trivial) rfl (Pu.move rfl) rfl rfl ?_
                   refine RD.p (fun _ _ => trivial) rfl (Pu.move rfl) rfl rfl ?_
                   refine RD.know (p := ∃ g cap, q29 = (some g, cap)) (fun w s => s.row_some (k := 3) rfl (pos_of (g56 hc54))) ?_
                   rintro ⟨gg158, cc159, rfl⟩
                   refine RD.p (fun _ _ => trivial) rfl (Pu.indexSl sl26 rfl rfl (g56 hc54)) rfl rfl ?_
                   refine RD.q (fun _ _ => trivial) rfl (Qt.ld0 (α := Int) (Rd.ofRowN 3 rfl) ty3 rfl rfl (g56 hc54) (by rintro _ _ rfl; rfl)) rfl rfl ?_
                   refine RD.p (fun _ _ => trivial) rfl (Pu.bin rfl rfl rfl) rfl rfl ?_
                   refine RD.p (fun _ _ => trivial) rfl (Pu.move rfl) rfl rfl ?_
                   refine RD.p (fun _ _ => trivial) rfl (Pu.move rfl) rfl rfl ?_
                   refine RD.p (fun _ _ => trivial) rfl (Pu.indexSl sl26 rfl rfl (g57 hc54)) rfl rfl ?_
                   refine RD.q (fun _ _ => trivial) rfl (Qt.ld0 (α := Int) (Rd.ofRowN 2 rfl) ty3 rfl rfl (g57 hc54) (by rintro _ _ rfl; rfl)) rfl rfl ?_
                   refine RD.p (fun _ _ => trivial) rfl (Pu.bin rfl rfl rfl) rfl rfl ?_
                   refine RD.p (fun _ _ => trivial) rfl (Pu.neB ul4 rfl rfl) rfl rfl ?_
                   refine RD.p (fun _ _ => trivial) rfl (Pu.pickF rfl rfl) rfl rfl ?_
                   exact hJ55 _ ⟨dOrF hc54, rfl, rfl, rfl, rfl, rfl, rfl, rfl, trivial⟩
                ·intro hJ52
                 refine RD.splitP 144 rfl (fun hc51 => ?_) (fun hc51 => ?_)
                 ·refine RD.no (fun _ _ => trivial) rfl rfl rfl (.inl rfl) ?_
                  refine RD.no (fun _ _ => trivial) rfl rfl rfl (.inl rfl) ?_
                  refine RD.no (fun _ _ => trivial) rfl rfl rfl (.inl rfl) ?_
                  refine RD.no (fun _ _ => trivial) rfl rfl rfl (.inr (.inr rfl)) ?_
                  refine RD.no (fun _ _ => trivial) rfl rfl rfl (.inl rfl) ?_
                  refine RD.no (fun _ _ => trivial) rfl rfl rfl (.inl rfl) ?_
                  refine RD.no (fun _ _ => trivial) rfl rfl rfl (.inl rfl) ?_
                  refine RD.no (fun _ _ => trivial) rfl rfl rfl (.inl rfl) ?_
                  refine RD.no (fun _ _ => trivial) rfl rfl rfl (.inl rfl) ?_
                  refine RD.no (fun _ _ => trivial) rfl rfl rfl (.inl rfl) ?_
                  refine RD.p (fun _ _ => trivial) rfl (Pu.pickT rfl rfl) rfl rfl ?_
                  exact hJ52 _ ⟨dOrT hc51, rfl, rfl, rfl, rfl, rfl, rfl, rfl, trivial⟩
                 ·refine RD.p (fun _ _ => trivial) rfl (Pu.move rfl) rfl rfl ?_
                  refine RD.p (fun _ _ => trivial) rfl (Pu.move rfl) rfl rfl ?_
                  refine RD.p (fun _ _ => trivial) rfl (Pu.indexSl sl26 rfl rfl (g53 hc51)) rfl rfl ?_
                  refine RD.q (fun _ _ => trivial) rfl (Qt.ld0 (α := Int) (Rd.ofRowN 2 rfl) ty3 rfl rfl (g53 hc51) (by rintro _ _ rfl; rfl)) rfl rfl ?_
                  refine RD.p (fun _ _ => trivial) rfl (Pu.bin rfl rfl rfl) rfl rfl ?_
                  refine RD.p (fun _ _ => trivial) rfl (Pu.move rfl) rfl rfl ?_
                  refine RD.joinV 4 154 (.bool (decide (((gi x26.1 v41) = 0) ∧ (¬ v41 = (gi a0_p.ts v15))))) [(1, _), (3, _), (5, _), (6, _), (7, _), (9, _), (11, _), (143, _), (144, _), (145, _), (146, _), (147, _), (148, _), (149, _)] ⟨rfl, rfl, rfl, rfl, rfl, rfl, rfl, rfl, rfl, rfl, rfl, rfl, rfl, rfl, trivial⟩ ?_ ?_
                  ·refine RD.p (fun _ _ => trivial) rfl (Pu.pickF rfl rfl) rfl rfl ?_
                   exact hJ52 _ ⟨dOrF hc51, rfl, rfl, rfl, rfl, rfl, rfl, rfl, trivial⟩
                  ·intro hJ161
                   refine RD.splitP 150 rfl (fun hc160 => ?_) (fun hc160 => ?_)
                   ·refine RD.p (fun _ _ => trivial) rfl (Pu.move rfl) rfl rfl ?_
                    refine RD.p (fun _ _ => trivial) rfl (Pu.move rfl) rfl rfl ?_
                    refine RD.p (fun _ _ => trivial) rfl (Pu.bin rfl rfl rfl) rfl rfl ?_
                    refine RD.p (fun _ _ => trivial) rfl (Pu.pickT rfl rfl) rfl rfl ?_
                    exact hJ161 _ ⟨dAndT hc160, rfl, rfl, rfl, rfl, rfl, rfl, rfl, rfl, rfl, rfl, rfl, rfl, rfl, rfl, trivial⟩
                   ·refine RD.no (fun _ _ => trivial) rfl rfl rfl (.inl rfl) ?_
                    refine RD.no (fun _ _ => trivial) rfl rfl rfl (.inl rfl) ?_
                    refine RD.no (fun _ _ => trivial) rfl rfl rfl (.inl rfl) ?_
                    refine RD.p (fun _ _ => trivial) rfl (Pu.pickF rfl rfl) rfl rfl ?_
                    exact hJ161 _ ⟨dAndF hc160, rfl, rfl, rfl, rfl, rfl, rfl, rfl, rfl, rfl, rfl, rfl, rfl, rfl, rfl, trivial⟩
               ·intro hJ48
                refine RD.splitP 130 rfl (fun hc47 => ?_) (fun hc47 => ?_)
                ·refine RD.no (fun _ _ => trivial) rfl rfl rfl (.inl rfl) ?_
                 refine RD.no (fun _ _ => trivial) rfl rfl rfl (.inl rfl) ?_
                 refine RD.no (fun _ _ => trivial) rfl rfl rfl (.inl rfl) ?_
                 refine RD.no (fun _ _ => trivial) rfl rfl rfl (.inr (.inr rfl)) ?_
                 refine RD.no (fun _ _ => trivial) rfl rfl rfl (.inl rfl) ?_
                 refine RD.no (fun _ _ => trivial) rfl rfl rfl (.inl rfl) ?_
                 refine RD.no (fun _ _ => trivial) rfl rfl rfl (.inl rfl) ?_
                 refine RD.no (fun _ _ => trivial) rfl rfl rfl (.inl rfl) ?_
                 refine RD.no (fun _ _ => trivial) rfl rfl rfl (.inl rfl) ?_
                 refine RD.no (fun _ _ => trivial) rfl rfl rfl (.inr (.inr rfl)) ?_
                 refine RD.no (fun _ _ => trivial) rfl rfl rfl (.inl rfl) ?_
                 refine RD.no (fun _ _ => trivial) rfl rfl rfl (.inl rfl) ?_
                 refine RD.p (fun _ _ => trivial) rfl (Pu.pickT rfl rfl) rfl rfl ?_
                 exact hJ48 _ ⟨dOrT hc47, rfl, rfl, rfl, rfl, rfl, rfl, rfl, trivial⟩
                ·refine RD.p (fun _ _ => trivial) rfl (Pu.move rfl) rfl rfl ?_
                 refine RD.p (fun _ _ => trivial) rfl (Pu.move rfl) rfl rfl ?_
                 refine RD.p (fun _ _ => trivial) rfl (Pu.indexSl sl26 rfl rfl (g49 hc47)) rfl rfl ?_
                 refine RD.q (fun _ _ => trivial) rfl (Qt.ld0 (α := Int) (Rd.ofRowN 2 rfl) ty3 rfl rfl (g49 hc47) (by rintro _ _ rfl; rfl)) rfl rfl ?_
                 refine RD.p (fun _ _ => trivial) rfl (Pu.bin rfl rfl rfl) rfl rfl ?_
                 refine RD.p (fun _ _ => trivial) rfl (Pu.move rfl) rfl rfl ?_
                 refine RD.joinV 6 142 (.bool (decide ((0 ≤ (gi x26.1 v41)) ∧ ((!(gi x7.1 v41)) = true)))) [(1, _), (3, _), (5, _), (6, _), (7, _), (9, _), (11, _), (125, _), (126, _), (127, _), (128, _), (129, _), (130, _), (131, _), (132, _), (133, _), (134, _), (135, _)] ⟨rfl, rfl, rfl, rfl, rfl, rfl, rfl, rfl, rfl, rfl, rfl, rfl, rfl, rfl, rfl, rfl, rfl, rfl, trivial⟩ ?_ ?_
                 ·refine RD.p (fun _ _ => trivial) rfl (Pu.pickF rfl rfl) rfl rfl ?_
                  exact hJ48 _ ⟨dOrF hc47, rfl, rfl, rfl, rfl, rfl, rfl, rfl, trivial⟩
                 ·intro hJ163
                  refine RD.splitP 136 rfl (fun hc162 => ?_) (fun hc162 => ?_)
                  ·refine RD.p (fun _ _ => trivial) rfl (Pu.move rfl) rfl rfl ?_
                   refine RD.p (fun _ _ => trivial) rfl (Pu.move rfl) rfl rfl ?_
                   refine RD.know (p := ∃ g cap, q8 = (some g, cap)) (fun w s => s.row_some (k := 1) rfl (pos_of ((g50 hc47) hc162))) ?_
                   rintro ⟨gg164, cc165, rfl⟩
                   refine RD.p (fun _ _ => trivial) rfl (Pu.indexSl sl45 rfl rfl ((g50 hc47) hc162)) rfl rfl ?_
                   refine RD.q (fun _ _ => trivial) rfl (Qt.ld0 (α := Bool) (Rd.ofRowN 1 rfl) ty4 rfl rfl ((g50 hc47) hc162) (by rintro _ _ rfl; rfl)) rfl rfl ?_
                   refine RD.p (fun _ _ => trivial) rfl (Pu.not rfl) rfl rfl ?_
                   refine RD.p (fun _ _ => trivial) rfl (Pu.pickT rfl rfl) rfl rfl ?_
                   exact hJ163 _ ⟨dAndTB hc162, rfl, rfl, rfl, rfl, rfl, rfl, rfl, rfl, rfl, rfl, rfl, rfl, rfl, rfl, rfl, rfl, rfl, rfl, trivial⟩
                  ·refine RD.no (fun _ _ => trivial) rfl rfl rfl (.inl rfl) ?_
                   refine RD.no (fun _ _ => trivial) rfl rfl rfl (.inl rfl) ?_
                   refine RD.no (fun _ _ => trivial) rfl rfl rfl (.inl rfl) ?_
                   refine RD.no (fun _ _ => trivial) rfl rfl rfl (.inr (.inr rfl)) ?_
                   refine RD.no (fun _ _ => trivial) rfl rfl rfl (.inl rfl) ?_
                   refine RD.p (fun _ _ => trivial) rfl (Pu.pickF rfl rfl) rfl rfl ?_
                   exact hJ163 _ ⟨dAndF hc162, rfl, rfl, rfl, rfl, rfl, rfl, rfl, rfl, rfl, rfl, rfl, rfl, rfl, rfl, rfl, rfl, rfl, rfl, trivial⟩
              ·have H := ifF hc43 H
               obtain rfl := hd39 _ H
               refine T.exitTo (by with_reducible (repeat (first | exact ExTo.here | exact ExTo.hereN | exact ExTo.deep (by repeat (first | exact NmTo.seq | apply NmTo.blk)) | apply ExTo.seq | refine ExTo.past (by decide) ?_))) (hJ39 _ _ () () HX39 ⟨rfl, rfl, rfl, trivial⟩ trivial (fun w s => s))
           ·intro hJ37
            refine RS.splitP 112 rfl (fun hc36 => ?_) (fun hc36 => ?_)
            ·refine RS.no rfl rfl ?_
             refine RS.no rfl rfl ?_
             refine RS.no rfl rfl ?_
             refine RS.no rfl rfl ?_
             refine RS.no rfl rfl ?_
             refine RS.p (Pu.pickT rfl rfl) rfl rfl ?_
             exact hJ37 _ _ ⟨dOrT hc36, rfl, rfl, rfl, rfl, rfl, rfl, trivial⟩ (fun w s => s)
            ·refine RS.p (Pu.move rfl) rfl rfl ?_
             refine RS.p (Pu.lenSl sl26 rfl) rfl rfl ?_
             refine RS.p (Pu.move rfl) rfl rfl ?_
             refine RS.p (Pu.lenSl sl45 rfl) rfl rfl ?_
             refine RS.p (Pu.bin rfl rfl rfl) rfl rfl ?_
             refine RS.p (Pu.pickF rfl rfl) rfl rfl ?_
             exact hJ37 _ _ ⟨dOrF hc36, rfl, rfl, rfl, rfl, rfl, rfl, trivial⟩ (fun w s => s)
          ·intro hJ35
           refine RS.split 105 rfl (fun hc34 => ?_) (fun hc34 => ?_)
           ·refine RS.no rfl rfl ?_
            refine RS.no rfl rfl ?_
            refine RS.no rfl rfl ?_
            refine RS.no rfl rfl ?_
            refine RS.no rfl rfl ?_
            refine RS.p (Pu.pickT rfl rfl) rfl rfl ?_
            exact hJ35 _ _ ⟨dOrT hc34, rfl, rfl, rfl, rfl, rfl, rfl, trivial⟩ (fun w s => s)
           ·refine RS.p (Pu.move rfl) rfl rfl ?_
            refine RS.p (Pu.lenSl sl26 rfl) rfl rfl ?_
            refine RS.p (Pu.move rfl) rfl rfl ?_
            refine RS.p (Pu.lenSl sl45 rfl) rfl rfl ?_
            refine RS.p (Pu.bin rfl rfl rfl) rfl rfl ?_
            refine RS.p (Pu.pickF rfl rfl) rfl rfl ?_
            exact hJ35 _ _ ⟨dOrF (bne_of hc34), rfl, rfl, rfl, rfl, rfl, rfl, trivial⟩ (fun w s => s)
         ·intro z166 H hJ32
          refine RS.splitP 100 rfl (fun hc31 => ?_) (fun hc31 => ?_)
          ·have H := ifT hc31 H
           refine RS.no rfl rfl ?_
           refine RS.no rfl rfl ?_
           refine RS.no rfl rfl ?_
           refine RS.p (Pu.pickT rfl rfl) rfl rfl ?_
           obtain rfl := Option.some.inj H
           exact hJ32 _ _ ⟨rfl, rfl, rfl, rfl, rfl, rfl, rfl, trivial⟩ (fun w s => s)
          ·have H := ifF hc31 H
           refine RS.p (Pu.move rfl) rfl rfl ?_
           obtain ⟨x167, hx167, H⟩ := bindE H
           refine RS.q (Qt.call (vs := [.int .i64 x28.2]) ent40 rfl fun w s => thronglaw13_num_walk x28.2 w  hx167) rfl rfl ?_
           refine RS.p (Pu.bin rfl rfl rfl) rfl rfl ?_
           refine RS.p (Pu.pickF rfl rfl) rfl rfl ?_
           obtain rfl := Option.some.inj H
           exact hJ32 _ _ ⟨rfl, rfl, rfl, rfl, rfl, rfl, rfl, trivial⟩ (fun w s => s)
       ·have H := ifF hc19 H
        obtain rfl := hd13 _ H
        refine T.exitTo (by with_reducible (repeat (first | exact ExTo.here | exact ExTo.hereN | exact ExTo.deep (by repeat (first | exact NmTo.seq | apply NmTo.blk)) | apply ExTo.seq | refine ExTo.past (by decide) ?_))) (hJ13 _ _ () () HX13 trivial trivial (fun w s => s))
      ·intro hJ18
       refine RS.splitP 55 rfl (fun hc17 => ?_) (fun hc17 => ?_)
       ·refine RS.p (Pu.move rfl) rfl rfl ?_
        refine RS.p (Pu.bin rfl rfl rfl) rfl rfl ?_
        refine RS.p (Pu.pickT rfl rfl) rfl rfl ?_
        exact hJ18 _ _ ⟨dAndT hc17, rfl, rfl, rfl, trivial⟩ (fun w s => s)
       ·refine RS.no rfl rfl ?_
        refine RS.no rfl rfl ?_
        refine RS.p (Pu.pickF rfl rfl) rfl rfl ?_
        exact hJ18 _ _ ⟨dAndF hc17, rfl, rfl, rfl, trivial⟩ (fun w s => s)
   ·intro hJ11
    refine RS.splitP 41 rfl (fun hc10 => ?_) (fun hc10 => ?_)
    ·refine RS.no rfl rfl ?_
     refine RS.no rfl rfl ?_
     refine RS.no rfl rfl ?_
     refine RS.no rfl rfl ?_
     refine RS.no rfl rfl ?_
     refine RS.no rfl rfl ?_
     refine RS.no rfl rfl ?_
     refine RS.p (Pu.pickT rfl rfl) rfl rfl ?_
     exact hJ11 _ _ ⟨dOrT hc10, rfl, rfl, trivial⟩ (fun w s => s)
    ·refine RS.p (Pu.move rfl) rfl rfl ?_
     refine RS.p (Pu.lenSl sl45 rfl) rfl rfl ?_
     refine RS.p (Pu.fieldAddr fd56_0 rfl) rfl rfl ?_
     refine RS.p (Pu.fieldAddr fd24_2 rfl) rfl rfl ?_
     refine RS.q (Qt.ldB 0 ty22 rfl rfl rfl) rfl rfl ?_
     refine RS.p (Pu.lenSl sl22 rfl) rfl rfl ?_
     refine RS.p (Pu.bin rfl rfl rfl) rfl rfl ?_
     refine RS.p (Pu.pickF rfl rfl) rfl rfl ?_
     exact hJ11 _ _ ⟨dOrF hc10, rfl, rfl, trivial⟩ (fun w s => s)
 ·intro z168 H hJ4
  refine RS.split 21 rfl (fun hc3 => ?_) (fun hc3 => ?_)
  ·have H := ifT hc3 H
   refine RS.no rfl rfl ?_
   refine RS.no rfl rfl ?_
   refine RS.no rfl rfl ?_
   refine RS.p (Pu.pickT rfl rfl) rfl rfl ?_
   obtain rfl := Option.some.inj H
   exact hJ4 _ _ ⟨rfl, rfl, trivial⟩ (fun w s => s)
  ·have H := ifB hc3 H
   refine RS.q (Qt.ldBA (us := [_, _, _, _, _, _, _]) 0 ty56 rfl rfl rfl rfl) rfl rfl ?_
   obtain ⟨x169, hx169, H⟩ := bindE H
   refine RS.q (Qt.call (vs := [.agg #[.int .i64 a0_p.g.w, .int .i64 a0_p.g.h, .slice p0 a0_p.g.tiles.length c0, .slice p1 a0_p.l.length c1, .int .i64 a0_p.cls, .int .i64 a0_p.size, .slice p2 a0_p.ts.length c2]]) ent35 rfl fun w s => thronglaw13_form_walk a0_p w ((Rd.base h0) w s) ((Rd.base h1) w s) ((Rd.base h2) w s) hx169) rfl rfl ?_
   refine RS.p (Pu.bin rfl rfl rfl) rfl rfl ?_
   refine RS.p (Pu.pickF rfl rfl) rfl rfl ?_
   obtain rfl := Option.some.inj H
   exact hJ4 _ _ ⟨rfl, rfl, trivial⟩ (fun w s => s)
end Go.Proofs.Ytdaopgoaghhbpaa
