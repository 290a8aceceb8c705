/-
  Walk of FieldPlain.
-/
import Derived.Test.YtdaopgoaghhbpaaRows
import Derived.Test.YtdaopgoaghhbpaaFK
import Derived.Test.YtdaopgoaghhbpaaFG7
import Derived.Test.YtdaopgoaghhbpaaVU
set_option linter.unusedVariables false
set_option linter.unusedSimpArgs false
set_option maxRecDepth 20000
set_option maxHeartbeats 4000000
namespace Go.Proofs.Ytdaopgoaghhbpaa
open Go.Vg
open Enc (R)
theorem ent44 : Ent Try.prog 44 := ⟨_, _, Try.func44, by kernel_rfl, rfl⟩
theorem thronglaw13_FieldPlain_walk (a0_p : Ask13) (w : World) {v0 v1 v2 : Value} (h0 : R (hpOf w) a0_p.g.tiles [v0]) (h1 : R (hpOf w) a0_p.l [v1]) (h2 : R (hpOf w) a0_p.ts [v2]) {r : Bool} (H : thronglaw13_FieldPlain a0_p = some r) : Calls Try.prog 10 #[.agg #[.int .i64 a0_p.g.w, .int .i64 a0_p.g.h, v0, v1, .int .i64 a0_p.cls, .int .i64 a0_p.size, v2]] w fun e w' => e = .returned (.bool r) ∧ Ext w w' := by
  have hm0 := R_max h0
  obtain ⟨p0, c0, rfl⟩ := R_form h0
  have hm1 := R_max h1
  obtain ⟨p1, c1, rfl⟩ := R_form h1
  have hm2 := R_max h2
  obtain ⟨p2, c2, rfl⟩ := R_form h2
  unfold thronglaw13_FieldPlain at H
  refine T.enter (args := [_]) (S := Sat w []) Try.func10 rfl rfl (Sat.start w) ?_
  refine T.seq fun K1 hK1 => ?_
  refine T.region ?_
  refine RS.solid (Sd.box (cs := [_, _, _, _, _, _, _]) rfl rfl) rfl rfl fun b1 => ?_
  refine RS.p (Pu.assign rfl) rfl rfl ?_
  refine RS.nil (hK1 _ _ ?_)
  refine T.seq fun K2 hK2 => ?_
  refine T.seq fun K3 hK3 => ?_
  refine T.region ?_
  refine RS.p (Pu.assign rfl) rfl rfl ?_
  refine RS.nil (hK3 _ _ ?_)
  refine T.joinE (σ := Unit) (γ := Unit) H Ex.go [] trivial (fun _ _ => []) (fun _ _ => Sat w [blk b1 [.int .i64 a0_p.g.w, .int .i64 a0_p.g.h, .slice p0 a0_p.g.tiles.length c0, .slice p1 a0_p.l.length c1, .int .i64 a0_p.cls, .int .i64 a0_p.size, .slice p2 a0_p.ts.length c2] 56]) ?_ ?_
  · rintro ⟨⟩ ⟨⟩ H
    try dsimp only [Ex.then] at H
    refine Cont.conseq (fr' := []) ?_ trivial (fun _ s => s)
    refine id (hK2 _ _ ?_)
    refine T.seq fun K4 hK4 => ?_
    refine T.region ?_
    obtain ⟨x3, hx3, H⟩ := bindE H
    refine RS.q (Qt.call (vs := []) ent44 rfl fun w s => thronglaw13_wakes_walk  w  hx3) rfl rfl ?_
    refine RS.p (Pu.assign rfl) rfl rfl ?_
    refine RS.nil (hK4 _ _ ?_)
    obtain rfl := Option.some.inj H
    refine T.retTo (by with_reducible ((repeat (first | apply RetTo.seq | apply RetTo.blk)); exact RetTo.refl _)) (Cont.ret1 rfl rfl fun w' s => ?_)
    exact ⟨rfl, s.ext⟩
  · intro z2 hz2 HX2 hJ2
    refine T.block ?_
    refine T.loopA (γ := Unit) hz2 [(1, _)] (fun v4 _ => [(3, .int .i64 v4)]) (fun v4 _ => Sat w [blk b1 [.int .i64 a0_p.g.w, .int .i64 a0_p.g.h, .slice p0 a0_p.g.tiles.length c0, .slice p1 a0_p.l.length c1, .int .i64 a0_p.cls, .int .i64 a0_p.size, .slice p2 a0_p.ts.length c2] 56]) () ⟨rfl, trivial⟩ ⟨rfl, trivial⟩ (fun w s => s) ?_
    rintro v4 ⟨⟩ y5 H hd2 KL2 hL2
    try dsimp only [Ex.then] at H
    refine T.conseq (fr' := [(3, _), (1, _)]) ?_ ⟨rfl, rfl, trivial⟩ (fun _ s => s)
    refine T.seq fun K5 hK5 => ?_
    refine T.seq fun K6 hK6 => ?_
    refine T.region ?_
    refine RS.p (Pu.move rfl) rfl rfl ?_
    refine RS.p (Pu.bin rfl rfl rfl) rfl rfl ?_
    refine RS.nil (hK6 _ _ ?_)
    refine T.condP rfl (fun hc6 => ?_) (fun hc6 => ?_)
    · have H := ifT hc6 H
      refine T.skip (hK5 _ _ ?_)
      refine T.seq fun K7 hK7 => ?_
      refine T.block ?_
      refine T.seq fun K8 hK8 => ?_
      refine T.drawn (fun _ => True) [(0, .pu), (1, .rd), (2, .pu), (3, .pu), (4, .pu), (5, .pu), (6, .pu), (7, .pu), (8, .rd), (9, .pu), (10, .pu), (11, .pu), (12, .pu), (13, .pu), (14, .pu), (15, .pu)] mixed (ClE.sat _ _) (by kernel_rfl) ?_
      refine RD.p (fun _ _ => trivial) rfl (Pu.fieldAddr fd56_4 rfl) rfl rfl ?_
      refine RD.q (fun _ _ => trivial) rfl (Qt.ldB 0 ty26 rfl rfl rfl) rfl rfl ?_
      refine RD.p (fun _ _ => trivial) rfl (Pu.lenSl sl26 rfl) rfl rfl ?_
      obtain ⟨g7, H⟩ := gdE H
      refine RD.p (fun _ _ => trivial) rfl (Pu.remN rfl rfl (and3 ⟨g7.1, g7.2, by decide⟩)) rfl rfl ?_
      obtain ⟨g8, H⟩ := gdE H
      refine RD.p (fun _ _ => trivial) rfl (Pu.addS rfl rfl g8) rfl rfl ?_
      refine RD.p (fun _ _ => trivial) rfl (Pu.move rfl) rfl rfl ?_
      obtain ⟨g9, H⟩ := gdE H
      refine RD.p (fun _ _ => trivial) rfl (Pu.addS rfl rfl g9) rfl rfl ?_
      refine RD.p (fun _ _ => trivial) rfl (Pu.fieldAddr fd56_3 rfl) rfl rfl ?_
      refine RD.q (fun _ _ => trivial) rfl (Qt.ldB 0 ty3 rfl rfl rfl) rfl rfl ?_
      refine RD.p (fun _ _ => trivial) rfl (Pu.andM4 rfl rfl) rfl rfl ?_
      obtain ⟨g10, H⟩ := gdE H
      refine RD.p (fun _ _ => trivial) rfl (Pu.addS rfl rfl g10) rfl rfl ?_
      refine RD.p (fun _ _ => trivial) rfl (Pu.move rfl) rfl rfl ?_
      obtain ⟨g11, H⟩ := gdE H
      refine RD.p (fun _ _ => trivial) rfl (Pu.mulS rfl rfl g11) rfl rfl ?_
      obtain ⟨g12, H⟩ := gdE H
      refine RD.p (fun _ _ => trivial) rfl (Pu.addS rfl rfl g12) rfl rfl ?_
      refine RD.p (fun _ _ => trivial) rfl (Pu.assign rfl) rfl rfl ?_
      refine RD.p (fun _ _ => trivial) rfl (Pu.assign rfl) rfl rfl ?_
      refine RD.nil (hK8 _ _ (T.conseq (fr' := [(1, _), (3, _), (4, _), (5, _)]) ?_ ⟨rfl, rfl, rfl, rfl, trivial⟩ (fun _ s => s)))
      refine T.seq fun K9 hK9 => ?_
      refine T.region ?_
      refine RS.p (Pu.move rfl) rfl rfl ?_
      refine RS.p (Pu.move rfl) rfl rfl ?_
      refine RS.p (Pu.move rfl) rfl rfl ?_
      refine RS.p (Pu.move rfl) rfl rfl ?_
      obtain ⟨g13, H⟩ := gdE H
      refine RS.p (Pu.mulS rfl rfl g13) rfl rfl ?_
      obtain ⟨g15, H⟩ := gdE H
      refine RS.solid (Sd.make (α := UInt8) (B := nilH) (0 : UInt8) sl22 zr5 rfl (by decide) rfl rfl (by omega) (by omega) (by omega)) rfl rfl fun b14 => ?_
      refine RS.p (Pu.build (cells := [_, _, _]) st24 rfl rfl) rfl rfl ?_
      refine RS.solid (Sd.alloc zr24 rfl) rfl rfl fun b16 => ?_
      refine RS.solid (Sd.stB (cs' := [_, _, _]) 2 ty24 rfl rfl rfl rfl rfl rfl rfl rfl) rfl rfl fun _ => ?_
      refine RS.nil (hK9 _ _ (T.conseq (fr' := [(1, _), (3, _), (4, _), (5, _), (6, _)]) ?_ ⟨rfl, rfl, rfl, rfl, rfl, trivial⟩ (fun _ s => s)))
      refine T.seq fun K10 hK10 => ?_
      refine T.region ?_
      refine RS.p (Pu.assign rfl) rfl rfl ?_
      refine RS.nil (hK10 _ _ ?_)
      refine T.joinE (σ := Unit) (γ := Unit) H Ex.go [(1, _), (3, _)] ⟨rfl, rfl, trivial⟩ (fun _ _ => []) (fun _ _ => Sat w [blk b1 [.int .i64 a0_p.g.w, .int .i64 a0_p.g.h, .slice p0 a0_p.g.tiles.length c0, .slice p1 a0_p.l.length c1, .int .i64 a0_p.cls, .int .i64 a0_p.size, .slice p2 a0_p.ts.length c2] 56, row nilH 5 (rowV (some b14, (((1 + ((a0_p.ts.length : Int) % 7)) + v4) * ((1 + (a0_p.size % 4)) + (2 * v4))).toNat) ((((1 + ((a0_p.ts.length : Int) % 7)) + v4) * ((1 + (a0_p.size % 4)) + (2 * v4))).toNat)) (List.replicate (((1 + ((a0_p.ts.length : Int) % 7)) + v4) * ((1 + (a0_p.size % 4)) + (2 * v4))).toNat (0 : UInt8)), blk b16 [.int .i64 ((1 + ((a0_p.ts.length : Int) % 7)) + v4), .int .i64 ((1 + (a0_p.size % 4)) + (2 * v4)), rowV (some b14, (((1 + ((a0_p.ts.length : Int) % 7)) + v4) * ((1 + (a0_p.size % 4)) + (2 * v4))).toNat) ((((1 + ((a0_p.ts.length : Int) % 7)) + v4) * ((1 + (a0_p.size % 4)) + (2 * v4))).toNat)] 24]) ?_ ?_
      · rintro ⟨⟩ ⟨⟩ H
        try dsimp only [Ex.then] at H
        refine Cont.conseq (fr' := [(1, _), (3, _)]) ?_ ⟨rfl, rfl, trivial⟩ (fun _ s => s)
        refine id (hK7 _ _ ?_)
        refine T.region ?_
        refine RS.p (Pu.move rfl) rfl rfl ?_
        obtain ⟨g18, H⟩ := gdE H
        refine RS.p (Pu.addS rfl rfl g18) rfl rfl ?_
        refine RS.p (Pu.assign rfl) rfl rfl ?_
        refine RS.nil (hL2 _ _ (v4 + 1) () H ⟨rfl, trivial⟩ ⟨rfl, trivial⟩ (fun w s => s.pick [0] (by decide) rfl))
      · intro z17 hz17 HX17 hJ17
        refine T.block ?_
        refine T.loopA (γ := Unit) hz17 [(1, _), (3, _), (4, _), (5, _), (6, _)] (fun v19 _ => [(7, .int .i64 v19)]) (fun v19 _ => Sat w [blk b1 [.int .i64 a0_p.g.w, .int .i64 a0_p.g.h, .slice p0 a0_p.g.tiles.length c0, .slice p1 a0_p.l.length c1, .int .i64 a0_p.cls, .int .i64 a0_p.size, .slice p2 a0_p.ts.length c2] 56, row nilH 5 (rowV (some b14, (((1 + ((a0_p.ts.length : Int) % 7)) + v4) * ((1 + (a0_p.size % 4)) + (2 * v4))).toNat) ((((1 + ((a0_p.ts.length : Int) % 7)) + v4) * ((1 + (a0_p.size % 4)) + (2 * v4))).toNat)) (List.replicate (((1 + ((a0_p.ts.length : Int) % 7)) + v4) * ((1 + (a0_p.size % 4)) + (2 * v4))).toNat (0 : UInt8)), blk b16 [.int .i64 ((1 + ((a0_p.ts.length : Int) % 7)) + v4), .int .i64 ((1 + (a0_p.size % 4)) + (2 * v4)), rowV (some b14, (((1 + ((a0_p.ts.length : Int) % 7)) + v4) * ((1 + (a0_p.size % 4)) + (2 * v4))).toNat) ((((1 + ((a0_p.ts.length : Int) % 7)) + v4) * ((1 + (a0_p.size % 4)) + (2 * v4))).toNat)] 24]) () ⟨rfl, rfl, rfl, rfl, rfl, trivial⟩ ⟨rfl, trivial⟩ (fun w s => s) ?_
        rintro v19 ⟨⟩ y20 H hd17 KL17 hL17
        try dsimp only [Ex.then] at H
        refine T.conseq (fr' := [(7, _), (1, _), (3, _), (4, _), (5, _), (6, _)]) ?_ ⟨rfl, rfl, rfl, rfl, rfl, rfl, trivial⟩ (fun _ s => s)
        refine T.seq fun K11 hK11 => ?_
        refine T.seq fun K12 hK12 => ?_
        refine T.region ?_
        refine RS.p (Pu.move rfl) rfl rfl ?_
        refine RS.p (Pu.move rfl) rfl rfl ?_
        refine RS.p (Pu.move rfl) rfl rfl ?_
        obtain ⟨g21, H⟩ := gdE H
        refine RS.p (Pu.mulS rfl rfl g21) rfl rfl ?_
        refine RS.p (Pu.bin rfl rfl rfl) rfl rfl ?_
        refine RS.nil (hK12 _ _ ?_)
        refine T.condP rfl (fun hc22 => ?_) (fun hc22 => ?_)
        · have H := ifT hc22 H
          refine T.skip (hK11 _ _ (T.conseq (fr' := [(1, _), (3, _), (4, _), (5, _), (6, _), (7, _)]) ?_ ⟨rfl, rfl, rfl, rfl, rfl, rfl, trivial⟩ (fun _ s => s)))
          refine T.seq fun K13 hK13 => ?_
          refine T.block ?_
          refine T.seq fun K14 hK14 => ?_
          refine T.region ?_
          refine RS.q (Qt.ldBA (us := [_, _, _]) 2 ty24 rfl rfl rfl rfl) rfl rfl ?_
          refine RS.p (Pu.move rfl) rfl rfl ?_
          obtain ⟨x23, hx23, H⟩ := bindE H
          refine RS.solid (Sd.callN (vs := [.agg #[.int .i64 ((1 + ((a0_p.ts.length : Int) % 7)) + v4), .int .i64 ((1 + (a0_p.size % 4)) + (2 * v4)), rowV (some b14, (((1 + ((a0_p.ts.length : Int) % 7)) + v4) * ((1 + (a0_p.size % 4)) + (2 * v4))).toNat) ((((1 + ((a0_p.ts.length : Int) % 7)) + v4) * ((1 + (a0_p.size % 4)) + (2 * v4))).toNat)], .slice none 0 0, .int .i64 0, .int .i64 0, .int .i64 v19]) ent39 rfl (fun w s => field_Make_walk (⟨((1 + ((a0_p.ts.length : Int) % 7)) + v4), ((1 + (a0_p.size % 4)) + (2 * v4)), (List.replicate (((1 + ((a0_p.ts.length : Int) % 7)) + v4) * ((1 + (a0_p.size % 4)) + (2 * v4))).toNat (0 : UInt8))⟩ : Grd) [] 0 0 v19 w ((Rd.ofRowN 1 rfl) w s) ((Rd.nil (α := Bld)) w s) hx23)) rfl rfl fun q24 => ?_
          refine RS.p (Pu.move rfl) rfl rfl ?_
          refine RS.p (Pu.extract rfl rfl) rfl rfl ?_
          refine RS.p (Pu.extract rfl rfl) rfl rfl ?_
          refine RS.p (Pu.assign rfl) rfl rfl ?_
          refine RS.p (Pu.assign rfl) rfl rfl ?_
          refine RS.nil (hK14 _ _ (T.conseq (fr' := [(1, _), (3, _), (4, _), (5, _), (6, _), (7, _), (8, _), (9, _)]) ?_ ⟨rfl, rfl, rfl, rfl, rfl, rfl, rfl, rfl, trivial⟩ (fun _ s => s)))
          refine T.seq fun K15 hK15 => ?_
          refine T.seq fun K16 hK16 => ?_
          refine T.region ?_
          refine RS.p (Pu.move rfl) rfl rfl ?_
          obtain ⟨x25, hx25, H⟩ := bindE H
          refine RS.q (Qt.call (vs := [.int .i64 x23.2]) ent40 rfl fun w s => thronglaw13_num_walk x23.2 w  hx25) rfl rfl ?_
          refine RS.p (Pu.bin rfl rfl rfl) rfl rfl ?_
          refine RS.p (Pu.move rfl) rfl rfl ?_
          obtain ⟨g28, H⟩ := gdE H
          refine RS.joinV 7 66 (.bool (decide ((¬ x25 = 0) ∨ (¬ (x23.1.length : Int) = (((1 + ((a0_p.ts.length : Int) % 7)) + v4) * ((1 + (a0_p.size % 4)) + (2 * v4))))))) [(1, _), (3, _), (4, _), (5, _), (6, _), (7, _), (8, _)] ⟨rfl, rfl, rfl, rfl, rfl, rfl, rfl, trivial⟩ ?_ ?_
          · refine RS.nil (hK16 _ _ ?_)
            refine T.condP rfl (fun hc29 => ?_) (fun hc29 => ?_)
            · have H := ifT hc29 H
              refine T.conseq (fr' := []) ?_ trivial (fun _ s => s)
              refine T.seq fun K17 hK17 => ?_
              refine T.region ?_
              refine RS.p (Pu.assign rfl) rfl rfl ?_
              refine RS.nil (hK17 _ _ ?_)
              obtain rfl := hd17 _ H
              have H := HX17
              obtain rfl := hd2 _ H
              have H := HX2
              obtain rfl := Option.some.inj H
              refine T.retTo (by with_reducible ((repeat (first | apply RetTo.seq | apply RetTo.blk)); exact RetTo.refl _)) (Cont.ret1 rfl rfl fun w' s => ?_)
              exact ⟨rfl, s.ext⟩
            · have H := ifF hc29 H
              refine T.skip (hK15 _ _ ?_)
              refine T.seq fun K18 hK18 => ?_
              refine T.region ?_
              refine RS.p (Pu.assign rfl) rfl rfl ?_
              refine RS.nil (hK18 _ _ ?_)
              refine T.joinE (σ := Unit) (γ := Unit) H Ex.go [(1, _), (3, _), (4, _), (5, _), (6, _), (7, _)] ⟨rfl, rfl, rfl, rfl, rfl, rfl, trivial⟩ (fun _ _ => []) (fun _ _ => Sat w [blk b1 [.int .i64 a0_p.g.w, .int .i64 a0_p.g.h, .slice p0 a0_p.g.tiles.length c0, .slice p1 a0_p.l.length c1, .int .i64 a0_p.cls, .int .i64 a0_p.size, .slice p2 a0_p.ts.length c2] 56, row nilH 5 (rowV (some b14, (((1 + ((a0_p.ts.length : Int) % 7)) + v4) * ((1 + (a0_p.size % 4)) + (2 * v4))).toNat) ((((1 + ((a0_p.ts.length : Int) % 7)) + v4) * ((1 + (a0_p.size % 4)) + (2 * v4))).toNat)) (List.replicate (((1 + ((a0_p.ts.length : Int) % 7)) + v4) * ((1 + (a0_p.size % 4)) + (2 * v4))).toNat (0 : UInt8)), blk b16 [.int .i64 ((1 + ((a0_p.ts.length : Int) % 7)) + v4), .int .i64 ((1 + (a0_p.size % 4)) + (2 * v4)), rowV (some b14, (((1 + ((a0_p.ts.length : Int) % 7)) + v4) * ((1 + (a0_p.size % 4)) + (2 * v4))).toNat) ((((1 + ((a0_p.ts.length : Int) % 7)) + v4) * ((1 + (a0_p.size % 4)) + (2 * v4))).toNat)] 24, row nilH 3 (rowV q24 x23.1.length) x23.1]) ?_ ?_
              · rintro ⟨⟩ ⟨⟩ H
                try dsimp only [Ex.then] at H
                refine Cont.conseq (fr' := [(1, _), (3, _), (4, _), (5, _), (6, _), (7, _)]) ?_ ⟨rfl, rfl, rfl, rfl, rfl, rfl, trivial⟩ (fun _ s => s)
                refine id (hK13 _ _ ?_)
                refine T.region ?_
                refine RS.p (Pu.move rfl) rfl rfl ?_
                obtain ⟨g31, H⟩ := gdE H
                refine RS.p (Pu.addS rfl rfl g31) rfl rfl ?_
                refine RS.p (Pu.move rfl) rfl rfl ?_
                refine RS.p (Pu.move rfl) rfl rfl ?_
                obtain ⟨g32, H⟩ := gdE H
                refine RS.p (Pu.mulS rfl rfl g32) rfl rfl ?_
                obtain ⟨g33, H⟩ := gdE H
                refine RS.p (Pu.quoN rfl rfl ⟨g33.1, g33.2, by decide⟩) rfl rfl ?_
                obtain ⟨g34, H⟩ := gdE H
                refine RS.p (Pu.addS rfl rfl g34) rfl rfl ?_
                refine RS.p (Pu.assign rfl) rfl rfl ?_
                refine RS.nil (hL17 _ _ ((v19 + 1) + ((((1 + ((a0_p.ts.length : Int) % 7)) + v4) * ((1 + (a0_p.size % 4)) + (2 * v4))) / 5)) () H ⟨rfl, rfl, rfl, rfl, rfl, trivial⟩ ⟨rfl, trivial⟩ (fun w s => s.pick [0, 1, 2] (by decide) rfl))
              · intro z30 hz30 HX30 hJ30
                refine T.block ?_
                refine T.loopA (γ := Unit) hz30 [(1, _), (3, _), (4, _), (5, _), (6, _), (7, _), (8, _)] (fun v35 _ => [(10, .int .i64 v35)]) (fun v35 _ => Sat w [blk b1 [.int .i64 a0_p.g.w, .int .i64 a0_p.g.h, .slice p0 a0_p.g.tiles.length c0, .slice p1 a0_p.l.length c1, .int .i64 a0_p.cls, .int .i64 a0_p.size, .slice p2 a0_p.ts.length c2] 56, row nilH 5 (rowV (some b14, (((1 + ((a0_p.ts.length : Int) % 7)) + v4) * ((1 + (a0_p.size % 4)) + (2 * v4))).toNat) ((((1 + ((a0_p.ts.length : Int) % 7)) + v4) * ((1 + (a0_p.size % 4)) + (2 * v4))).toNat)) (List.replicate (((1 + ((a0_p.ts.length : Int) % 7)) + v4) * ((1 + (a0_p.size % 4)) + (2 * v4))).toNat (0 : UInt8)), blk b16 [.int .i64 ((1 + ((a0_p.ts.length : Int) % 7)) + v4), .int .i64 ((1 + (a0_p.size % 4)) + (2 * v4)), rowV (some b14, (((1 + ((a0_p.ts.length : Int) % 7)) + v4) * ((1 + (a0_p.size % 4)) + (2 * v4))).toNat) ((((1 + ((a0_p.ts.length : Int) % 7)) + v4) * ((1 + (a0_p.size % 4)) + (2 * v4))).toNat)] 24, row nilH 3 (rowV q24 x23.1.length) x23.1]) () ⟨rfl, rfl, rfl, rfl, rfl, rfl, rfl, trivial⟩ ⟨rfl, trivial⟩ (fun w s => s) ?_
                rintro v35 ⟨⟩ y36 H hd30 KL30 hL30
                try dsimp only [Ex.then] at H
                refine T.conseq (fr' := [(10, _), (1, _), (3, _), (4, _), (5, _), (6, _), (7, _), (8, _)]) ?_ ⟨rfl, rfl, rfl, rfl, rfl, rfl, rfl, rfl, trivial⟩ (fun _ s => s)
                refine T.seq fun K19 hK19 => ?_
                refine T.seq fun K20 hK20 => ?_
                refine T.region ?_
                refine RS.p (Pu.move rfl) rfl rfl ?_
                refine RS.p (Pu.move rfl) rfl rfl ?_
                refine RS.p (Pu.move rfl) rfl rfl ?_
                obtain ⟨g37, H⟩ := gdE H
                refine RS.p (Pu.mulS rfl rfl g37) rfl rfl ?_
                refine RS.p (Pu.bin rfl rfl rfl) rfl rfl ?_
                refine RS.nil (hK20 _ _ ?_)
                refine T.condP rfl (fun hc38 => ?_) (fun hc38 => ?_)
                · have H := ifT hc38 H
                  refine T.skip (hK19 _ _ (T.conseq (fr' := [(1, _), (3, _), (4, _), (5, _), (6, _), (7, _), (8, _), (10, _)]) ?_ ⟨rfl, rfl, rfl, rfl, rfl, rfl, rfl, rfl, trivial⟩ (fun _ s => s)))
                  refine T.seq fun K21 hK21 => ?_
                  refine T.block ?_
                  refine T.seq fun K22 hK22 => ?_
                  refine T.drawn (fun _ => True) [(0, .pu), (1, .pu), (2, .pu), (3, .pu), (4, .pu), (5, .pu), (6, .pu), (7, .pu), (8, .pu), (9, .pu), (10, .pu), (11, .pu), (12, .pu), (13, .pu), (14, .pu), (15, .pu)] mixed (ClE.sat _ _) (by kernel_rfl) ?_
                  refine RD.p (fun _ _ => trivial) rfl (Pu.move rfl) rfl rfl ?_
                  refine RD.p (fun _ _ => trivial) rfl (Pu.move rfl) rfl rfl ?_
                  obtain ⟨g39, H⟩ := gdE H
                  refine RD.p (fun _ _ => trivial) rfl (Pu.remN rfl rfl (and3 g39)) rfl rfl ?_
                  refine RD.p (fun _ _ => trivial) rfl (Pu.move rfl) rfl rfl ?_
                  refine RD.p (fun _ _ => trivial) rfl (Pu.move rfl) rfl rfl ?_
                  obtain ⟨g40, H⟩ := gdE H
                  refine RD.p (fun _ _ => trivial) rfl (Pu.remN rfl rfl (and3 g40)) rfl rfl ?_
                  obtain ⟨g41, H⟩ := gdE H
                  refine RD.p (fun _ _ => trivial) rfl (Pu.subS rfl rfl g41) rfl rfl ?_
                  refine RD.p (fun _ _ => trivial) rfl (Pu.move rfl) rfl rfl ?_
                  refine RD.p (fun _ _ => trivial) rfl (Pu.move rfl) rfl rfl ?_
                  obtain ⟨g42, H⟩ := gdE H
                  refine RD.p (fun _ _ => trivial) rfl (Pu.quoN rfl rfl g42) rfl rfl ?_
                  refine RD.p (fun _ _ => trivial) rfl (Pu.move rfl) rfl rfl ?_
                  refine RD.p (fun _ _ => trivial) rfl (Pu.move rfl) rfl rfl ?_
                  obtain ⟨g43, H⟩ := gdE H
                  refine RD.p (fun _ _ => trivial) rfl (Pu.quoN rfl rfl g43) rfl rfl ?_
                  obtain ⟨g44, H⟩ := gdE H
                  refine RD.p (fun _ _ => trivial) rfl (Pu.subS rfl rfl g44) rfl rfl ?_
                  refine RD.p (fun _ _ => trivial) rfl (Pu.assign rfl) rfl rfl ?_
                  refine RD.p (fun _ _ => trivial) rfl (Pu.assign rfl) rfl rfl ?_
                  refine RD.nil (hK22 _ _ (T.conseq (fr' := [(1, _), (3, _), (4, _), (5, _), (6, _), (7, _), (8, _), (10, _), (11, _), (12, _)]) ?_ ⟨rfl, rfl, rfl, rfl, rfl, rfl, rfl, rfl, rfl, rfl, trivial⟩ (fun _ s => s)))
                  refine T.seq fun K23 hK23 => ?_
                  refine T.region ?_
                  refine RS.p (Pu.move rfl) rfl rfl ?_
                  refine RS.p (Pu.move rfl) rfl rfl ?_
                  obtain ⟨g45, H⟩ := gdE H
                  refine RS.p (Pu.negS rfl g45) rfl rfl ?_
                  refine RS.p (Pu.maxI rfl rfl) rfl rfl ?_
                  refine RS.p (Pu.move rfl) rfl rfl ?_
                  refine RS.p (Pu.move rfl) rfl rfl ?_
                  obtain ⟨g46, H⟩ := gdE H
                  refine RS.p (Pu.negS rfl g46) rfl rfl ?_
                  refine RS.p (Pu.maxI rfl rfl) rfl rfl ?_
                  refine RS.p (Pu.assign rfl) rfl rfl ?_
                  refine RS.p (Pu.assign rfl) rfl rfl ?_
                  refine RS.nil (hK23 _ _ (T.conseq (fr' := [(1, _), (3, _), (4, _), (5, _), (6, _), (7, _), (8, _), (10, _), (11, _), (12, _)]) ?_ ⟨rfl, rfl, rfl, rfl, rfl, rfl, rfl, rfl, rfl, rfl, trivial⟩ (fun _ s => s)))
                  refine T.seq fun K24 hK24 => ?_
                  refine T.region ?_
                  refine RS.p (Pu.move rfl) rfl rfl ?_
                  refine RS.p (Pu.move rfl) rfl rfl ?_
                  obtain ⟨g47, H⟩ := gdE H
                  refine RS.know (p := ∃ g cap, q24 = (some g, cap)) (fun w s => s.row_some (k := 3) rfl (pos_of g47)) ?_
                  rintro ⟨gg48, cc49, rfl⟩
                  refine RS.p (Pu.indexSl sl26 rfl rfl g47) rfl rfl ?_
                  refine RS.q (Qt.ld0 (α := Int) (Rd.ofRowN 3 rfl) ty3 rfl rfl g47 (by rintro _ _ rfl; rfl)) rfl rfl ?_
                  refine RS.p (Pu.move rfl) rfl rfl ?_
                  refine RS.p (Pu.move rfl) rfl rfl ?_
                  refine RS.p (Pu.minI rfl rfl) rfl rfl ?_
                  obtain ⟨g50, H⟩ := gdE H
                  refine RS.p (Pu.mulS rfl rfl g50) rfl rfl ?_
                  refine RS.p (Pu.move rfl) rfl rfl ?_
                  refine RS.p (Pu.move rfl) rfl rfl ?_
                  refine RS.p (Pu.maxI rfl rfl) rfl rfl ?_
                  refine RS.p (Pu.move rfl) rfl rfl ?_
                  refine RS.p (Pu.move rfl) rfl rfl ?_
                  refine RS.p (Pu.minI rfl rfl) rfl rfl ?_
                  obtain ⟨g51, H⟩ := gdE H
                  refine RS.p (Pu.subS rfl rfl g51) rfl rfl ?_
                  obtain ⟨g52, H⟩ := gdE H
                  refine RS.p (Pu.mulS rfl rfl g52) rfl rfl ?_
                  obtain ⟨g53, H⟩ := gdE H
                  refine RS.p (Pu.addS rfl rfl g53) rfl rfl ?_
                  refine RS.p (Pu.bin rfl rfl rfl) rfl rfl ?_
                  refine RS.nil (hK24 _ _ ?_)
                  refine T.condP rfl (fun hc54 => ?_) (fun hc54 => ?_)
                  · have H := ifT hc54 H
                    refine T.conseq (fr' := []) ?_ trivial (fun _ s => s)
                    refine T.seq fun K25 hK25 => ?_
                    refine T.region ?_
                    refine RS.p (Pu.assign rfl) rfl rfl ?_
                    refine RS.nil (hK25 _ _ ?_)
                    obtain rfl := hd30 _ H
                    have H := HX30
                    obtain rfl := hd17 _ H
                    have H := HX17
                    obtain rfl := hd2 _ H
                    have H := HX2
                    obtain rfl := Option.some.inj H
                    refine T.retTo (by with_reducible ((repeat (first | apply RetTo.seq | apply RetTo.blk)); exact RetTo.refl _)) (Cont.ret1 rfl rfl fun w' s => ?_)
                    exact ⟨rfl, s.ext⟩
                  · have H := ifF hc54 H
                    refine T.skip (hK21 _ _ (T.conseq (fr' := [(1, _), (3, _), (4, _), (5, _), (6, _), (7, _), (8, _), (10, _)]) ?_ ⟨rfl, rfl, rfl, rfl, rfl, rfl, rfl, rfl, trivial⟩ (fun _ s => s)))
                    refine T.region ?_
                    refine RS.p (Pu.move rfl) rfl rfl ?_
                    obtain ⟨g55, H⟩ := gdE H
                    refine RS.p (Pu.addS rfl rfl g55) rfl rfl ?_
                    refine RS.p (Pu.assign rfl) rfl rfl ?_
                    refine RS.nil (hL30 _ _ (v35 + 1) () H ⟨rfl, rfl, rfl, rfl, rfl, rfl, rfl, trivial⟩ ⟨rfl, trivial⟩ (fun w s => s))
                · have H := ifF hc38 H
                  obtain rfl := hd30 _ H
                  refine T.exitTo (by with_reducible (repeat (first | exact ExTo.here | exact ExTo.hereN | exact ExTo.deep (by repeat (first | exact NmTo.seq | apply NmTo.blk)) | apply ExTo.seq | refine ExTo.past (by decide) ?_))) (hJ30 _ _ () () HX30 ⟨rfl, rfl, rfl, rfl, rfl, rfl, trivial⟩ trivial (fun w s => s))
          · intro hJ27
            refine RS.splitP 59 rfl (fun hc26 => ?_) (fun hc26 => ?_)
            · refine RS.no rfl rfl ?_
              refine RS.no rfl rfl ?_
              refine RS.no rfl rfl ?_
              refine RS.no rfl rfl ?_
              refine RS.no rfl rfl ?_
              refine RS.no rfl rfl ?_
              refine RS.p (Pu.pickT rfl rfl) rfl rfl ?_
              exact hJ27 _ _ ⟨dOrT hc26, rfl, rfl, rfl, rfl, rfl, rfl, rfl, trivial⟩ (fun w s => s)
            · refine RS.p (Pu.move rfl) rfl rfl ?_
              refine RS.p (Pu.lenSl sl26 rfl) rfl rfl ?_
              refine RS.p (Pu.move rfl) rfl rfl ?_
              refine RS.p (Pu.move rfl) rfl rfl ?_
              refine RS.p (Pu.mulS rfl rfl (g28 hc26)) rfl rfl ?_
              refine RS.p (Pu.bin rfl rfl rfl) rfl rfl ?_
              refine RS.p (Pu.pickF rfl rfl) rfl rfl ?_
              exact hJ27 _ _ ⟨dOrF hc26, rfl, rfl, rfl, rfl, rfl, rfl, rfl, trivial⟩ (fun w s => s)
        · have H := ifF hc22 H
          obtain rfl := hd17 _ H
          refine T.exitTo (by with_reducible (repeat (first | exact ExTo.here | exact ExTo.hereN | exact ExTo.deep (by repeat (first | exact NmTo.seq | apply NmTo.blk)) | apply ExTo.seq | refine ExTo.past (by decide) ?_))) (hJ17 _ _ () () HX17 ⟨rfl, rfl, trivial⟩ trivial (fun w s => s))
    · have H := ifF hc6 H
      obtain rfl := hd2 _ H
      refine T.exitTo (by with_reducible (repeat (first | exact ExTo.here | exact ExTo.hereN | exact ExTo.deep (by repeat (first | exact NmTo.seq | apply NmTo.blk)) | apply ExTo.seq | refine ExTo.past (by decide) ?_))) (hJ2 _ _ () () HX2 trivial trivial (fun w s => s))
end Go.Proofs.Ytdaopgoaghhbpaa
