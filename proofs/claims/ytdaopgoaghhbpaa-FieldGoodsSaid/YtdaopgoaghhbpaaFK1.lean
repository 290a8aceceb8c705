/-
  Walk of FieldGoods.
-/
import Derived.Test.YtdaopgoaghhbpaaRows
import Derived.Test.YtdaopgoaghhbpaaFK
import Derived.Test.YtdaopgoaghhbpaaFG1
set_option linter.unusedVariables false
set_option linter.unusedSimpArgs false
set_option maxRecDepth 20000
set_option maxHeartbeats 4000000
namespace Go.Proofs.Ytdaopgoaghhbpaa
open Go.Vg
open Enc (R)
theorem ent29 : Ent Try.prog 29 := ⟨_, _, Try.func29, by kernel_rfl, rfl⟩
theorem ent30 : Ent Try.prog 30 := ⟨_, _, Try.func30, by kernel_rfl, rfl⟩
theorem ent34 : Ent Try.prog 34 := ⟨_, _, Try.func34, by kernel_rfl, rfl⟩
theorem ent35 : Ent Try.prog 35 := ⟨_, _, Try.func35, by kernel_rfl, rfl⟩
theorem ent44 : Ent Try.prog 44 := ⟨_, _, Try.func44, by kernel_rfl, rfl⟩
theorem ent47 : Ent Try.prog 47 := ⟨_, _, Try.func47, by kernel_rfl, rfl⟩
theorem ty56 : tySz Try.prog 56 = some (7, true) := by kernel_rfl
theorem thronglaw13_FieldGoods_walk (a0_p : Ask13) (w : World) {v0 v1 v2 : Value} (h0 : R (hpOf w) a0_p.g.tiles [v0]) (h1 : R (hpOf w) a0_p.l [v1]) (h2 : R (hpOf w) a0_p.ts [v2]) {r : Bool} (H : thronglaw13_FieldGoods a0_p = some r) : Calls Try.prog 12 #[.agg #[.int .i64 a0_p.g.w, .int .i64 a0_p.g.h, v0, v1, .int .i64 a0_p.cls, .int .i64 a0_p.size, v2]] w fun e w' => e = .returned (.bool r) ∧ Ext w w' := by
  have hm0 := R_max h0
  obtain ⟨p0, c0, rfl⟩ := R_form h0
  have hm1 := R_max h1
  obtain ⟨p1, c1, rfl⟩ := R_form h1
  have hm2 := R_max h2
  obtain ⟨p2, c2, rfl⟩ := R_form h2
  unfold thronglaw13_FieldGoods at H
  refine T.enter (args := [_]) (S := Sat w []) Try.func12 rfl rfl (Sat.start w) ?_
  refine T.seq fun K1 hK1 => ?_
  refine T.region ?_
  refine RS.solid (Sd.box (cs := [_, _, _, _, _, _, _]) rfl rfl) rfl rfl fun b1 => ?_
  refine RS.p (Pu.assign rfl) rfl rfl ?_
  refine RS.nil (hK1 _ _ ?_)
  refine T.seq fun K2 hK2 => ?_
  refine T.seq fun K3 hK3 => ?_
  refine T.region ?_
  refine RS.q (Qt.ldBA (us := [_, _, _, _, _, _, _]) 0 ty56 rfl rfl rfl rfl) rfl rfl ?_
  obtain ⟨x2, hx2, H⟩ := bindE H
  refine RS.q (Qt.call (vs := [.agg #[.int .i64 a0_p.g.w, .int .i64 a0_p.g.h, .slice p0 a0_p.g.tiles.length c0, .slice p1 a0_p.l.length c1, .int .i64 a0_p.cls, .int .i64 a0_p.size, .slice p2 a0_p.ts.length c2]]) ent34 rfl fun w s => thronglaw13_Heavy_walk a0_p w ((Rd.base h0) w s) ((Rd.base h1) w s) ((Rd.base h2) w s) hx2) rfl rfl ?_
  refine RS.nil (hK3 _ _ ?_)
  refine T.cond rfl (fun hc3 => ?_) (fun hc3 => ?_)
  · have H := ifT hc3 H
    refine T.conseq (fr' := []) ?_ trivial (fun _ s => s)
    refine T.seq fun K4 hK4 => ?_
    refine T.region ?_
    refine RS.p (Pu.assign rfl) rfl rfl ?_
    refine RS.nil (hK4 _ _ ?_)
    obtain rfl := Option.some.inj H
    refine T.retTo (by with_reducible ((repeat (first | apply RetTo.seq | apply RetTo.blk)); exact RetTo.refl _)) (Cont.ret1 rfl rfl fun w' s => ?_)
    exact ⟨rfl, s.ext⟩
  · have H := ifB hc3 H
    refine T.skip (hK2 _ _ (T.conseq (fr' := [(1, _)]) ?_ ⟨rfl, trivial⟩ (fun _ s => s)))
    refine T.seq fun K5 hK5 => ?_
    refine T.region ?_
    refine RS.q (Qt.ldBA (us := [_, _, _, _, _, _, _]) 0 ty56 rfl rfl rfl rfl) rfl rfl ?_
    obtain ⟨x4, hx4, H⟩ := bindE H
    refine RS.q (Qt.call (vs := [.agg #[.int .i64 a0_p.g.w, .int .i64 a0_p.g.h, .slice p0 a0_p.g.tiles.length c0, .slice p1 a0_p.l.length c1, .int .i64 a0_p.cls, .int .i64 a0_p.size, .slice p2 a0_p.ts.length c2]]) ent35 rfl fun w s => thronglaw13_form_walk a0_p w ((Rd.base h0) w s) ((Rd.base h1) w s) ((Rd.base h2) w s) hx4) rfl rfl ?_
    refine RS.p (Pu.assign rfl) rfl rfl ?_
    refine RS.p (Pu.assign rfl) rfl rfl ?_
    refine RS.nil (hK5 _ _ ?_)
    refine T.seq fun K6 hK6 => ?_
    refine T.seq fun K7 hK7 => ?_
    refine T.region ?_
    refine RS.p (Pu.move rfl) rfl rfl ?_
    refine RS.p (Pu.bin rfl rfl rfl) rfl rfl ?_
    refine RS.nil (hK7 _ _ ?_)
    refine T.joinE (σ := List Bool) (γ := (Option Nat × Nat)) H (fun s => s) [(1, _), (3, _)] ⟨rfl, rfl, trivial⟩ (fun v6 q7 => [(4, rowV q7 v6.length)]) (fun v6 q7 => Sat w [blk b1 [.int .i64 a0_p.g.w, .int .i64 a0_p.g.h, .slice p0 a0_p.g.tiles.length c0, .slice p1 a0_p.l.length c1, .int .i64 a0_p.cls, .int .i64 a0_p.size, .slice p2 a0_p.ts.length c2] 56, row nilH 4 (rowV q7 v6.length) v6]) ?_ ?_
    · rintro v6 q7 H
      try dsimp only [Ex.then] at H
      refine Cont.conseq (fr' := [(4, _), (1, _), (3, _)]) ?_ ⟨rfl, rfl, rfl, trivial⟩ (fun _ s => s)
      refine id (hK6 _ _ ?_)
      refine T.seq fun K8 hK8 => ?_
      refine T.region ?_
      refine RS.p (Pu.fieldAddr fd56_0 rfl) rfl rfl ?_
      refine RS.q (Qt.ldBA (us := [_, _, _]) 0 ty24 rfl rfl rfl rfl) rfl rfl ?_
      refine RS.p (Pu.fieldAddr fd56_1 rfl) rfl rfl ?_
      refine RS.q (Qt.ldB 0 ty25 rfl rfl rfl) rfl rfl ?_
      refine RS.p (Pu.fieldAddr fd56_2 rfl) rfl rfl ?_
      refine RS.q (Qt.ldB 0 ty3 rfl rfl rfl) rfl rfl ?_
      refine RS.p (Pu.fieldAddr fd56_3 rfl) rfl rfl ?_
      refine RS.q (Qt.ldB 0 ty3 rfl rfl rfl) rfl rfl ?_
      obtain ⟨x8, hx8, H⟩ := bindE H
      refine RS.solid (Sd.callN (vs := [.agg #[.int .i64 a0_p.g.w, .int .i64 a0_p.g.h, .slice p0 a0_p.g.tiles.length c0], .slice p1 a0_p.l.length c1, .int .i64 a0_p.cls, .int .i64 a0_p.size]) ent47 rfl (fun w s => field_Good_walk a0_p.g a0_p.l a0_p.cls a0_p.size w ((Rd.base h0) w s) ((Rd.base h1) w s) hx8)) rfl rfl fun q9 => ?_
      refine RS.p (Pu.move rfl) rfl rfl ?_
      refine RS.p (Pu.extract rfl rfl) rfl rfl ?_
      refine RS.p (Pu.extract rfl rfl) rfl rfl ?_
      refine RS.p (Pu.assign rfl) rfl rfl ?_
      refine RS.p (Pu.assign rfl) rfl rfl ?_
      refine RS.nil (hK8 _ _ (T.conseq (fr' := [(3, _), (4, _), (5, _), (6, _)]) ?_ ⟨rfl, rfl, rfl, rfl, trivial⟩ (fun _ s => s)))
      refine T.seq fun K9 hK9 => ?_
      refine T.seq fun K10 hK10 => ?_
      refine T.region ?_
      refine RS.p (Pu.move rfl) rfl rfl ?_
      obtain ⟨x10, hx10, H⟩ := bindE H
      refine RS.q (Qt.call (vs := [.int .i64 x8.2]) ent40 rfl fun w s => thronglaw13_num_walk x8.2 w  hx10) rfl rfl ?_
      refine RS.p (Pu.move rfl) rfl rfl ?_
      refine RS.p (Pu.bin rfl rfl rfl) rfl rfl ?_
      refine RS.p (Pu.move rfl) rfl rfl ?_
      refine RS.joinB H 5 43 (fun b13 => .bool b13) [(5, _)] ⟨rfl, trivial⟩ ?_ ?_
      · intro b13 H
        refine RS.nil (hK10 _ _ ?_)
        refine T.cond rfl (fun hc14 => ?_) (fun hc14 => ?_)
        · have H := ifT hc14 H
          refine T.seq fun K11 hK11 => ?_
          refine T.region ?_
          refine RS.p (Pu.assign rfl) rfl rfl ?_
          refine RS.nil (hK11 _ _ ?_)
          obtain rfl := Option.some.inj H
          refine T.retTo (by with_reducible ((repeat (first | apply RetTo.seq | apply RetTo.blk)); exact RetTo.refl _)) (Cont.ret1 rfl rfl fun w' s => ?_)
          exact ⟨rfl, s.ext⟩
        · have H := ifB hc14 H
          refine T.skip (hK9 _ _ ?_)
          refine T.seq fun K12 hK12 => ?_
          refine T.region ?_
          refine RS.p (Pu.move rfl) rfl rfl ?_
          obtain ⟨x15, hx15, H⟩ := bindE H
          refine RS.solid (Sd.callF0 (vs := [rowV q9 x8.1.length]) (C' := dead) (v := .tuple #[]) 2 ent30 rfl rfl (fun w s => thronglaw0_Bools_walk x8.1 rfl  hx15 w s)) rfl rfl fun _ => ?_
          refine RS.nil (hK12 _ _ (T.conseq (fr' := []) ?_ trivial (fun _ s => s)))
          refine T.seq fun K13 hK13 => ?_
          refine T.region ?_
          obtain ⟨x16, hx16, H⟩ := bindE H
          refine RS.q (Qt.call (vs := []) ent44 rfl fun w s => thronglaw13_wakes_walk  w  hx16) rfl rfl ?_
          refine RS.p (Pu.assign rfl) rfl rfl ?_
          refine RS.nil (hK13 _ _ ?_)
          obtain rfl := Option.some.inj H
          refine T.retTo (by with_reducible ((repeat (first | apply RetTo.seq | apply RetTo.blk)); exact RetTo.refl _)) (Cont.ret1 rfl rfl fun w' s => ?_)
          exact ⟨rfl, s.ext⟩
      · intro z17 H hJ12
        refine RS.splitP 38 rfl (fun hc11 => ?_) (fun hc11 => ?_)
        · have H := ifT hc11 H
          refine RS.no rfl rfl ?_
          refine RS.no rfl rfl ?_
          refine RS.no rfl rfl ?_
          refine RS.no rfl rfl ?_
          refine RS.p (Pu.pickT rfl rfl) rfl rfl ?_
          obtain rfl := Option.some.inj H
          exact hJ12 _ _ ⟨rfl, rfl, trivial⟩ (fun w s => s)
        · have H := ifF hc11 H
          refine RS.p (Pu.move rfl) rfl rfl ?_
          refine RS.p (Pu.move rfl) rfl rfl ?_
          obtain ⟨x18, hx18, H⟩ := bindE H
          refine RS.q (Qt.call (vs := [rowV q9 x8.1.length, rowV q7 v6.length]) ent29 rfl fun w s => throngref0_EqBools_walk x8.1 v6 w ((Rd.ofRowN 2 rfl) w s) ((Rd.ofRowN 1 rfl) w s) hx18) rfl rfl ?_
          refine RS.p (Pu.not rfl) rfl rfl ?_
          refine RS.p (Pu.pickF rfl rfl) rfl rfl ?_
          obtain rfl := Option.some.inj H
          exact hJ12 _ _ ⟨rfl, rfl, trivial⟩ (fun w s => s)
    · intro z5 H HX5 hJ5
      refine T.condP rfl (fun hc19 => ?_) (fun hc19 => ?_)
      · have H := ifT hc19 H
        refine T.conseq (fr' := [(1, _), (3, _)]) ?_ ⟨rfl, rfl, trivial⟩ (fun _ s => s)
        refine T.region ?_
        refine RS.p (Pu.fieldAddr fd56_0 rfl) rfl rfl ?_
        refine RS.q (Qt.ldBA (us := [_, _, _]) 0 ty24 rfl rfl rfl rfl) rfl rfl ?_
        refine RS.p (Pu.fieldAddr fd56_1 rfl) rfl rfl ?_
        refine RS.q (Qt.ldB 0 ty25 rfl rfl rfl) rfl rfl ?_
        refine RS.p (Pu.fieldAddr fd56_2 rfl) rfl rfl ?_
        refine RS.q (Qt.ldB 0 ty3 rfl rfl rfl) rfl rfl ?_
        refine RS.p (Pu.fieldAddr fd56_3 rfl) rfl rfl ?_
        refine RS.q (Qt.ldB 0 ty3 rfl rfl rfl) rfl rfl ?_
        obtain ⟨x20, hx20, H⟩ := bindE H
        refine RS.solid (Sd.callN (vs := [.agg #[.int .i64 a0_p.g.w, .int .i64 a0_p.g.h, .slice p0 a0_p.g.tiles.length c0], .slice p1 a0_p.l.length c1, .int .i64 a0_p.cls, .int .i64 a0_p.size]) ent46 rfl (fun w s => throngref13_Good_walk a0_p.g a0_p.l a0_p.cls a0_p.size w ((Rd.base h0) w s) ((Rd.base h1) w s) hx20)) rfl rfl fun q21 => ?_
        refine RS.p (Pu.assign rfl) rfl rfl ?_
        obtain rfl := Option.some.inj H
        refine RS.nil (hJ5 _ _ x20 q21 HX5 ⟨rfl, rfl, trivial⟩ ⟨rfl, trivial⟩ (fun w s => s))
      · have H := ifF hc19 H
        obtain rfl := Option.some.inj H
        refine T.skip (hJ5 _ _ [] (none, 0) HX5 ⟨rfl, rfl, trivial⟩ ⟨rfl, trivial⟩ (fun w s => (s.nilRow (α := Bool) 4).pick [0, 1] (by decide) rfl))
end Go.Proofs.Ytdaopgoaghhbpaa
