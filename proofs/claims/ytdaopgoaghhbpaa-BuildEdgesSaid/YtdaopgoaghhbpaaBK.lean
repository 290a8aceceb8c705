/-
  Walks of the statements of the buildings.
-/
import Derived.Test.YtdaopgoaghhbpaaRows
import Derived.Test.YtdaopgoaghhbpaaBH
set_option linter.unusedVariables false
set_option linter.unusedSimpArgs false
set_option maxRecDepth 20000
set_option maxHeartbeats 1000000
namespace Go.Proofs.Ytdaopgoaghhbpaa
open Go.Vg
open Enc (R)
theorem ent16 : Ent Try.prog 16 := ⟨_, _, Try.func16, by kernel_rfl, rfl⟩
theorem ent20 : Ent Try.prog 20 := ⟨_, _, Try.func20, by kernel_rfl, rfl⟩
theorem ent22 : Ent Try.prog 22 := ⟨_, _, Try.func22, by kernel_rfl, rfl⟩
theorem ent23 : Ent Try.prog 23 := ⟨_, _, Try.func23, by kernel_rfl, rfl⟩
theorem ent24 : Ent Try.prog 24 := ⟨_, _, Try.func24, by kernel_rfl, rfl⟩
theorem ent25 : Ent Try.prog 25 := ⟨_, _, Try.func25, by kernel_rfl, rfl⟩
theorem ent26 : Ent Try.prog 26 := ⟨_, _, Try.func26, by kernel_rfl, rfl⟩
theorem ent27 : Ent Try.prog 27 := ⟨_, _, Try.func27, by kernel_rfl, rfl⟩
theorem ent28 : Ent Try.prog 28 := ⟨_, _, Try.func28, by kernel_rfl, rfl⟩
theorem ent29 : Ent Try.prog 29 := ⟨_, _, Try.func29, by kernel_rfl, rfl⟩
theorem ent30 : Ent Try.prog 30 := ⟨_, _, Try.func30, by kernel_rfl, rfl⟩
theorem ent32 : Ent Try.prog 32 := ⟨_, _, Try.func32, by kernel_rfl, rfl⟩
theorem ent33 : Ent Try.prog 33 := ⟨_, _, Try.func33, by kernel_rfl, rfl⟩
theorem ty28 : tySz Try.prog 28 = some (6, true) := by kernel_rfl
theorem thronglaw8_BuildEdges_walk (a0_p : Ask8) (w : World) {v0 v1 v2 v3 : Value} (h0 : R (hpOf w) a0_p.g.tiles [v0]) (h1 : R (hpOf w) a0_p.l [v1]) (h2 : R (hpOf w) a0_p.more [v2]) (h3 : R (hpOf w) a0_p.ids [v3]) {r : Bool} (H : thronglaw8_BuildEdges a0_p = some r) : Calls Try.prog 3 #[.agg #[.int .i64 a0_p.g.w, .int .i64 a0_p.g.h, v0, v1, v2, v3]] w fun e w' => e = .returned (.bool r) ∧ Ext w w' := by
  have hm0 := R_max h0
  obtain ⟨p0, c0, rfl⟩ := R_form h0
  have hm1 := R_max h1
  obtain ⟨p1, c1, rfl⟩ := R_form h1
  have hm2 := R_max h2
  obtain ⟨p2, c2, rfl⟩ := R_form h2
  have hm3 := R_max h3
  obtain ⟨p3, c3, rfl⟩ := R_form h3
  unfold thronglaw8_BuildEdges at H
  refine T.enter (args := [_]) (S := Sat w []) Try.func3 rfl rfl (Sat.start w) ?_
  refine T.seq fun K1 hK1 => ?_
  refine T.region ?_
  refine RS.solid (Sd.box (cs := [_, _, _, _, _, _]) rfl rfl) rfl rfl fun b1 => ?_
  refine RS.p (Pu.assign rfl) rfl rfl ?_
  refine RS.nil (hK1 _ _ ?_)
  refine T.seq fun K2 hK2 => ?_
  refine T.seq fun K3 hK3 => ?_
  refine T.region ?_
  refine RS.q (Qt.ldBA (us := [_, _, _, _, _, _]) 0 ty28 rfl rfl rfl rfl) rfl rfl ?_
  obtain ⟨x2, hx2, H⟩ := bindE H
  refine RS.q (Qt.call ent16 rfl fun w s => thronglaw8_heavy_walk a0_p w ((Rd.base h0) w s) ((Rd.base h1) w s) ((Rd.base h2) w s) ((Rd.base h3) w s) hx2) rfl rfl ?_
  refine RS.p (Pu.move rfl) rfl rfl ?_
  refine RS.joinB H 5 16 (fun b5 => .bool b5) [(1, _)] ⟨rfl, trivial⟩ ?_ ?_
  · intro b5 H
    refine RS.p (Pu.move rfl) rfl rfl ?_
    refine RS.joinV 5 22 (.bool (decide ((b5 = true) ∨ (20 < a0_p.g.w)))) [(1, _)] ⟨rfl, trivial⟩ ?_ ?_
    · refine RS.p (Pu.move rfl) rfl rfl ?_
      refine RS.joinV 5 28 (.bool (decide (((b5 = true) ∨ (20 < a0_p.g.w)) ∨ (20 < a0_p.g.h)))) [(1, _)] ⟨rfl, trivial⟩ ?_ ?_
      · refine RS.nil (hK3 _ _ ?_)
        refine T.condP rfl (fun hc10 => ?_) (fun hc10 => ?_)
        · have H := ifT hc10 H
          refine T.seq fun K4 hK4 => ?_
          refine T.region ?_
          refine RS.p (Pu.assign rfl) rfl rfl ?_
          refine RS.nil (hK4 _ _ ?_)
          obtain rfl := Option.some.inj H
          refine T.retTo (by with_reducible ((repeat (first | apply RetTo.seq | apply RetTo.blk)); exact RetTo.refl _)) (Cont.ret1 rfl rfl fun w' s => ?_)
          exact ⟨rfl, s.ext⟩
        · have H := ifF hc10 H
          refine T.skip (hK2 _ _ ?_)
          refine T.joinA (σ := List UInt8) (γ := Nat × (Option Nat × Nat)) H (fun s => s) [] trivial (fun v13 (q12, q14) => [(3, .pointer (some ⟨q12, 0, none⟩))]) (fun v13 (q12, q14) => Sat w [blk b1 [.int .i64 a0_p.g.w, .int .i64 a0_p.g.h, .slice p0 a0_p.g.tiles.length c0, .slice p1 a0_p.l.length c1, .slice p2 a0_p.more.length c2, .slice p3 a0_p.ids.length c3] 28, blk q12 [.int .i64 a0_p.g.w, .int .i64 a0_p.g.h, rowV q14 v13.length] 24, row nilH 5 (rowV q14 v13.length) v13]) ?_ ?_
          · rintro v13 ⟨q12, q14⟩ H
            try dsimp only [Ex.then] at H
            refine T.conseq (fr' := [(3, _)]) ?_ ⟨rfl, trivial⟩ (fun _ s => s)
            refine T.seq fun K6 hK6 => ?_
            refine T.seq fun K7 hK7 => ?_
            refine T.region ?_
            refine RS.p (Pu.assign rfl) rfl rfl ?_
            refine RS.nil (hK7 _ _ ?_)
            refine T.joinE (σ := Unit) (γ := Unit) H Ex.go [] trivial (fun _ _ => []) (fun _ _ => Sat w [blk b1 [.int .i64 a0_p.g.w, .int .i64 a0_p.g.h, .slice p0 a0_p.g.tiles.length c0, .slice p1 a0_p.l.length c1, .slice p2 a0_p.more.length c2, .slice p3 a0_p.ids.length c3] 28, blk q12 [.int .i64 a0_p.g.w, .int .i64 a0_p.g.h, rowV q14 v13.length] 24, row nilH 5 (rowV q14 v13.length) v13]) ?_ ?_
            · rintro ⟨⟩ ⟨⟩ H
              try dsimp only [Ex.then] at H
              refine Cont.conseq (fr' := []) ?_ trivial (fun _ s => s)
              refine id (hK6 _ _ ?_)
              refine T.seq fun K8 hK8 => ?_
              refine T.region ?_
              obtain ⟨x16, hx16, H⟩ := bindE H
              refine RS.q (Qt.call ent20 rfl fun w s => thronglaw8_wakes_walk  w  hx16) rfl rfl ?_
              refine RS.p (Pu.assign rfl) rfl rfl ?_
              refine RS.nil (hK8 _ _ ?_)
              obtain rfl := Option.some.inj H
              refine T.retTo (by with_reducible ((repeat (first | apply RetTo.seq | apply RetTo.blk)); exact RetTo.refl _)) (Cont.ret1 rfl rfl fun w' s => ?_)
              exact ⟨rfl, s.ext⟩
            · intro z15 hz15 HX15 hJ15
              refine T.block ?_
              refine T.loopA (γ := Unit) hz15 [(3, _)] (fun v17 _ => [(4, .int .i64 v17)]) (fun v17 _ => Sat w [blk b1 [.int .i64 a0_p.g.w, .int .i64 a0_p.g.h, .slice p0 a0_p.g.tiles.length c0, .slice p1 a0_p.l.length c1, .slice p2 a0_p.more.length c2, .slice p3 a0_p.ids.length c3] 28, blk q12 [.int .i64 a0_p.g.w, .int .i64 a0_p.g.h, rowV q14 v13.length] 24, row nilH 5 (rowV q14 v13.length) v13]) () ⟨rfl, trivial⟩ ⟨rfl, trivial⟩ (fun w s => s) ?_
              rintro v17 ⟨⟩ y18 H hd15 KL15 hL15
              try dsimp only [Ex.then] at H
              refine T.conseq (fr' := [(4, _), (3, _)]) ?_ ⟨rfl, rfl, trivial⟩ (fun _ s => s)
              refine T.seq fun K9 hK9 => ?_
              refine T.seq fun K10 hK10 => ?_
              refine T.region ?_
              refine RS.p (Pu.move rfl) rfl rfl ?_
              refine RS.p (Pu.bin rfl rfl rfl) rfl rfl ?_
              refine RS.nil (hK10 _ _ ?_)
              refine T.condP rfl (fun hc19 => ?_) (fun hc19 => ?_)
              · have H := ifT hc19 H
                refine T.skip (hK9 _ _ ?_)
                refine T.seq fun K11 hK11 => ?_
                refine T.block ?_
                refine T.seq fun K12 hK12 => ?_
                refine T.region ?_
                refine RS.p (Pu.assign rfl) rfl rfl ?_
                refine RS.nil (hK12 _ _ ?_)
                refine T.joinE (σ := Unit) (γ := Unit) H Ex.go [(3, _), (4, _)] ⟨rfl, rfl, trivial⟩ (fun _ _ => []) (fun _ _ => Sat w [blk b1 [.int .i64 a0_p.g.w, .int .i64 a0_p.g.h, .slice p0 a0_p.g.tiles.length c0, .slice p1 a0_p.l.length c1, .slice p2 a0_p.more.length c2, .slice p3 a0_p.ids.length c3] 28, blk q12 [.int .i64 a0_p.g.w, .int .i64 a0_p.g.h, rowV q14 v13.length] 24, row nilH 5 (rowV q14 v13.length) v13]) ?_ ?_
                · rintro ⟨⟩ ⟨⟩ H
                  try dsimp only [Ex.then] at H
                  refine Cont.conseq (fr' := [(3, _), (4, _)]) ?_ ⟨rfl, rfl, trivial⟩ (fun _ s => s)
                  refine id (hK11 _ _ ?_)
                  refine T.region ?_
                  refine RS.p (Pu.move rfl) rfl rfl ?_
                  obtain ⟨g21, H⟩ := gdE H
                  refine RS.p (Pu.addS rfl rfl g21) rfl rfl ?_
                  refine RS.p (Pu.assign rfl) rfl rfl ?_
                  refine RS.nil (hL15 _ _ (v17 + 1) () H ⟨rfl, trivial⟩ ⟨rfl, trivial⟩ (fun w s => s))
                · intro z20 hz20 HX20 hJ20
                  refine T.block ?_
                  refine T.loopA (γ := Unit) hz20 [(3, _), (4, _)] (fun v22 _ => [(5, .int .i64 v22)]) (fun v22 _ => Sat w [blk b1 [.int .i64 a0_p.g.w, .int .i64 a0_p.g.h, .slice p0 a0_p.g.tiles.length c0, .slice p1 a0_p.l.length c1, .slice p2 a0_p.more.length c2, .slice p3 a0_p.ids.length c3] 28, blk q12 [.int .i64 a0_p.g.w, .int .i64 a0_p.g.h, rowV q14 v13.length] 24, row nilH 5 (rowV q14 v13.length) v13]) () ⟨rfl, rfl, trivial⟩ ⟨rfl, trivial⟩ (fun w s => s) ?_
                  rintro v22 ⟨⟩ y23 H hd20 KL20 hL20
                  try dsimp only [Ex.then] at H
                  refine T.conseq (fr' := [(5, _), (3, _), (4, _)]) ?_ ⟨rfl, rfl, rfl, trivial⟩ (fun _ s => s)
                  refine T.seq fun K13 hK13 => ?_
                  refine T.seq fun K14 hK14 => ?_
                  refine T.region ?_
                  refine RS.p (Pu.move rfl) rfl rfl ?_
                  refine RS.p (Pu.fieldAddr fd24_0 rfl) rfl rfl ?_
                  refine RS.q (Qt.ldB 1 ty3 rfl rfl rfl) rfl rfl ?_
                  refine RS.p (Pu.bin rfl rfl rfl) rfl rfl ?_
                  refine RS.nil (hK14 _ _ ?_)
                  refine T.condP rfl (fun hc24 => ?_) (fun hc24 => ?_)
                  · have H := ifT hc24 H
                    refine T.skip (hK13 _ _ (T.conseq (fr' := [(3, _), (4, _), (5, _)]) ?_ ⟨rfl, rfl, rfl, trivial⟩ (fun _ s => s)))
                    refine T.seq fun K15 hK15 => ?_
                    refine T.block ?_
                    refine T.seq fun K16 hK16 => ?_
                    refine T.region ?_
                    refine RS.q (Qt.ldBA (us := [_, _, _]) 1 ty24 rfl rfl rfl rfl) rfl rfl ?_
                    refine RS.p (Pu.move rfl) rfl rfl ?_
                    refine RS.p (Pu.move rfl) rfl rfl ?_
                    refine RS.p (Pu.build (cells := [_, _, _, _, _, _]) st35 rfl rfl) rfl rfl ?_
                    obtain ⟨x25, hx25, H⟩ := bindE H
                    refine RS.solid (Sd.callN ent18 rfl (fun w s => build_Add_walk (⟨a0_p.g.w, a0_p.g.h, v13⟩ : Grd) [] (⟨1, 1, v22, 0, v17, 1⟩ : Bld) w ((Rd.ofRowN 2 rfl) w s) ((Rd.nil (α := Bld)) w s) hx25)) rfl rfl fun q26 => ?_
                    refine RS.p (Pu.move rfl) rfl rfl ?_
                    refine RS.p (Pu.extract rfl rfl) rfl rfl ?_
                    refine RS.p (Pu.extract rfl rfl) rfl rfl ?_
                    refine RS.p (Pu.assign rfl) rfl rfl ?_
                    refine RS.p (Pu.assign rfl) rfl rfl ?_
                    refine RS.nil (hK16 _ _ (T.conseq (fr' := [(3, _), (4, _), (5, _), (6, _), (7, _)]) ?_ ⟨rfl, rfl, rfl, rfl, rfl, trivial⟩ (fun _ s => s)))
                    refine T.seq fun K17 hK17 => ?_
                    refine T.region ?_
                    refine RS.p (Pu.assign rfl) rfl rfl ?_
                    refine RS.nil (hK17 _ _ ?_)
                    refine T.seq fun K18 hK18 => ?_
                    refine T.seq fun K19 hK19 => ?_
                    refine T.region ?_
                    refine RS.p (Pu.move rfl) rfl rfl ?_
                    refine RS.p (Pu.bin rfl rfl rfl) rfl rfl ?_
                    refine RS.p (Pu.move rfl) rfl rfl ?_
                    refine RS.joinV 3 67 (.bool (decide ((v17 < 1) ∨ (4 < v17)))) [(3, _), (4, _), (5, _), (6, _), (7, _), (8, _)] ⟨rfl, rfl, rfl, rfl, rfl, rfl, trivial⟩ ?_ ?_
                    · refine RS.nil (hK19 _ _ ?_)
                      refine T.joinE (σ := Int) (γ := Unit) H (fun s => s) [(3, _), (4, _), (5, _), (6, _), (7, _)] ⟨rfl, rfl, rfl, rfl, rfl, trivial⟩ (fun v30 _ => [(8, .int .i64 v30)]) (fun v30 _ => Sat w [blk b1 [.int .i64 a0_p.g.w, .int .i64 a0_p.g.h, .slice p0 a0_p.g.tiles.length c0, .slice p1 a0_p.l.length c1, .slice p2 a0_p.more.length c2, .slice p3 a0_p.ids.length c3] 28, blk q12 [.int .i64 a0_p.g.w, .int .i64 a0_p.g.h, rowV q14 v13.length] 24, row nilH 5 (rowV q14 v13.length) v13, row nilH 35 (rowV q26 x25.1.length) x25.1]) ?_ ?_
                      · rintro v30 ⟨⟩ H
                        try dsimp only [Ex.then] at H
                        refine Cont.conseq (fr' := [(8, _), (3, _), (4, _), (5, _), (6, _), (7, _)]) ?_ ⟨rfl, rfl, rfl, rfl, rfl, rfl, trivial⟩ (fun _ s => s)
                        refine id (hK18 _ _ ?_)
                        refine T.seq fun K20 hK20 => ?_
                        refine T.region ?_
                        refine RS.p (Pu.move rfl) rfl rfl ?_
                        obtain ⟨x31, hx31, H⟩ := bindE H
                        refine RS.q (Qt.call ent19 rfl fun w s => thronglaw8_num_walk x25.2 w  hx31) rfl rfl ?_
                        refine RS.p (Pu.move rfl) rfl rfl ?_
                        refine RS.p (Pu.bin rfl rfl rfl) rfl rfl ?_
                        refine RS.p (Pu.move rfl) rfl rfl ?_
                        refine RS.joinV 7 89 (.bool (decide ((¬ x31 = v30) ∨ (¬ (decide (v30 = 0)) = (decide ((x25.1.length : Int) = 1)))))) [(3, _), (4, _), (5, _)] ⟨rfl, rfl, rfl, trivial⟩ ?_ ?_
                        · refine RS.nil (hK20 _ _ ?_)
                          refine T.condP rfl (fun hc34 => ?_) (fun hc34 => ?_)
                          · have H := ifT hc34 H
                            refine T.conseq (fr' := []) ?_ trivial (fun _ s => s)
                            refine T.seq fun K21 hK21 => ?_
                            refine T.region ?_
                            refine RS.p (Pu.assign rfl) rfl rfl ?_
                            refine RS.nil (hK21 _ _ ?_)
                            obtain rfl := hd20 _ H
                            have H := HX20
                            obtain rfl := hd15 _ H
                            have H := HX15
                            obtain rfl := Option.some.inj H
                            refine T.retTo (by with_reducible ((repeat (first | apply RetTo.seq | apply RetTo.blk)); exact RetTo.refl _)) (Cont.ret1 rfl rfl fun w' s => ?_)
                            exact ⟨rfl, s.ext⟩
                          · have H := ifF hc34 H
                            refine T.skip (hK15 _ _ ?_)
                            refine T.region ?_
                            refine RS.p (Pu.move rfl) rfl rfl ?_
                            obtain ⟨g35, H⟩ := gdE H
                            refine RS.p (Pu.addS rfl rfl g35) rfl rfl ?_
                            refine RS.p (Pu.assign rfl) rfl rfl ?_
                            refine RS.nil (hL20 _ _ (v22 + 1) () H ⟨rfl, rfl, trivial⟩ ⟨rfl, trivial⟩ (fun w s => s.pick [0, 1, 2] (by decide) rfl))
                        · intro hJ33
                          refine RS.splitP 82 rfl (fun hc32 => ?_) (fun hc32 => ?_)
                          · refine RS.no rfl rfl ?_
                            refine RS.no rfl rfl ?_
                            refine RS.no rfl rfl ?_
                            refine RS.no rfl rfl ?_
                            refine RS.no rfl rfl ?_
                            refine RS.no rfl rfl ?_
                            refine RS.p (Pu.pickT rfl rfl) rfl rfl ?_
                            exact hJ33 _ _ ⟨dOrT hc32, rfl, rfl, rfl, trivial⟩ (fun w s => s)
                          · refine RS.p (Pu.move rfl) rfl rfl ?_
                            refine RS.p (Pu.bin rfl rfl rfl) rfl rfl ?_
                            refine RS.p (Pu.move rfl) rfl rfl ?_
                            refine RS.p (Pu.lenSl sl25 rfl) rfl rfl ?_
                            refine RS.p (Pu.bin rfl rfl rfl) rfl rfl ?_
                            refine RS.p (Pu.neB ul4 rfl rfl) rfl rfl ?_
                            refine RS.p (Pu.pickF rfl rfl) rfl rfl ?_
                            exact hJ33 _ _ ⟨dOrF hc32, rfl, rfl, rfl, trivial⟩ (fun w s => s)
                      · intro z29 H HX29 hJ29
                        refine T.condP rfl (fun hc36 => ?_) (fun hc36 => ?_)
                        · have H := ifT hc36 H
                          refine T.region ?_
                          refine RS.p (Pu.assign rfl) rfl rfl ?_
                          obtain rfl := Option.some.inj H
                          refine RS.nil (hJ29 _ _ 1 () HX29 ⟨rfl, rfl, rfl, rfl, rfl, trivial⟩ ⟨rfl, trivial⟩ (fun w s => s))
                        · have H := ifF hc36 H
                          refine T.seq fun K22 hK22 => ?_
                          refine T.region ?_
                          refine RS.p (Pu.move rfl) rfl rfl ?_
                          refine RS.p (Pu.bin rfl rfl rfl) rfl rfl ?_
                          refine RS.p (Pu.move rfl) rfl rfl ?_
                          obtain ⟨g39, H⟩ := gdE H
                          refine RS.joinV 7 77 (.bool (decide ((v22 < 0) ∨ (a0_p.g.w < (v22 + v17))))) [(3, _), (4, _), (5, _), (6, _), (7, _), (8, _)] ⟨rfl, rfl, rfl, rfl, rfl, rfl, trivial⟩ ?_ ?_
                          · refine RS.nil (hK22 _ _ ?_)
                            refine T.condP rfl (fun hc40 => ?_) (fun hc40 => ?_)
                            · have H := ifT hc40 H
                              refine T.region ?_
                              refine RS.p (Pu.assign rfl) rfl rfl ?_
                              obtain rfl := Option.some.inj H
                              refine RS.nil (hJ29 _ _ 3 () HX29 ⟨rfl, rfl, rfl, rfl, rfl, trivial⟩ ⟨rfl, trivial⟩ (fun w s => s))
                            · have H := ifF hc40 H
                              obtain rfl := Option.some.inj H
                              refine T.skip (hJ29 _ _ 0 () HX29 ⟨rfl, rfl, rfl, rfl, rfl, trivial⟩ ⟨rfl, trivial⟩ (fun w s => s))
                          · intro hJ38
                            refine RS.splitP 70 rfl (fun hc37 => ?_) (fun hc37 => ?_)
                            · refine RS.no rfl rfl ?_
                              refine RS.no rfl rfl ?_
                              refine RS.no rfl rfl ?_
                              refine RS.no rfl rfl ?_
                              refine RS.no rfl rfl ?_
                              refine RS.no rfl rfl ?_
                              refine RS.p (Pu.pickT rfl rfl) rfl rfl ?_
                              exact hJ38 _ _ ⟨dOrT hc37, rfl, rfl, rfl, rfl, rfl, rfl, trivial⟩ (fun w s => s)
                            · refine RS.p (Pu.move rfl) rfl rfl ?_
                              refine RS.p (Pu.move rfl) rfl rfl ?_
                              refine RS.p (Pu.addS rfl rfl (g39 hc37)) rfl rfl ?_
                              refine RS.p (Pu.fieldAddr fd24_0 rfl) rfl rfl ?_
                              refine RS.q (Qt.ldB 1 ty3 rfl rfl rfl) rfl rfl ?_
                              refine RS.p (Pu.bin rfl rfl rfl) rfl rfl ?_
                              refine RS.p (Pu.pickF rfl rfl) rfl rfl ?_
                              exact hJ38 _ _ ⟨dOrF hc37, rfl, rfl, rfl, rfl, rfl, rfl, trivial⟩ (fun w s => s)
                    · intro hJ28
                      refine RS.splitP 64 rfl (fun hc27 => ?_) (fun hc27 => ?_)
                      · refine RS.no rfl rfl ?_
                        refine RS.no rfl rfl ?_
                        refine RS.p (Pu.pickT rfl rfl) rfl rfl ?_
                        exact hJ28 _ _ ⟨dOrT hc27, rfl, rfl, rfl, rfl, rfl, rfl, trivial⟩ (fun w s => s)
                      · refine RS.p (Pu.move rfl) rfl rfl ?_
                        refine RS.p (Pu.bin rfl rfl rfl) rfl rfl ?_
                        refine RS.p (Pu.pickF rfl rfl) rfl rfl ?_
                        exact hJ28 _ _ ⟨dOrF hc27, rfl, rfl, rfl, rfl, rfl, rfl, trivial⟩ (fun w s => s)
                  · have H := ifF hc24 H
                    obtain rfl := hd20 _ H
                    refine T.exitTo (by with_reducible (repeat (first | exact ExTo.here | exact ExTo.hereN | exact ExTo.deep (by repeat (first | exact NmTo.seq | apply NmTo.blk)) | apply ExTo.seq | refine ExTo.past (by decide) ?_))) (hJ20 _ _ () () HX20 ⟨rfl, rfl, trivial⟩ trivial (fun w s => s))
              · have H := ifF hc19 H
                obtain rfl := hd15 _ H
                refine T.exitTo (by with_reducible (repeat (first | exact ExTo.here | exact ExTo.hereN | exact ExTo.deep (by repeat (first | exact NmTo.seq | apply NmTo.blk)) | apply ExTo.seq | refine ExTo.past (by decide) ?_))) (hJ15 _ _ () () HX15 trivial trivial (fun w s => s))
          · intro z11 H HX11 K5 hJ11
            refine T.drawnT (fun _ => True) [(0, .pu), (1, .pu), (2, .rd), (3, .pu), (4, .pu), (5, .rd), (6, .pu), (7, .pu), (8, .rd), (9, .pu), (10, .pu), (11, .rd), (12, .pu), (13, .so), (14, .pu), (15, .so), (16, .br)] (.st 0 .pu (.st 1 .pu (.st 2 .rd (.st 3 .pu (.st 4 .pu (.st 5 .rd (.st 6 .pu (.st 7 .pu (.st 8 .rd (.st 9 .pu (.st 10 .pu (.st 11 .rd (.st 12 .pu (.two 13 .so (.st 14 .pu (.st 15 .so (.st 16 .br .nil))) 15 .so (.st 13 .so (.st 14 .pu (.st 16 .br .nil))))))))))))))))) mixed (ClE.sat _ _) (by kernel_rfl) ?_
            refine RT.p (fun _ _ => trivial) rfl (Pu.fieldAddr fd28_0 rfl) rfl rfl ?_
            refine RT.p (fun _ _ => trivial) rfl (Pu.fieldAddr fd24_0 rfl) rfl rfl ?_
            refine RT.q (fun _ _ => trivial) rfl (Qt.ldB 0 ty3 rfl rfl rfl) rfl rfl ?_
            refine RT.p (fun _ _ => trivial) rfl (Pu.fieldAddr fd28_0 rfl) rfl rfl ?_
            refine RT.p (fun _ _ => trivial) rfl (Pu.fieldAddr fd24_1 rfl) rfl rfl ?_
            refine RT.q (fun _ _ => trivial) rfl (Qt.ldB 0 ty3 rfl rfl rfl) rfl rfl ?_
            refine RT.p (fun _ _ => trivial) rfl (Pu.fieldAddr fd28_0 rfl) rfl rfl ?_
            refine RT.p (fun _ _ => trivial) rfl (Pu.fieldAddr fd24_0 rfl) rfl rfl ?_
            refine RT.q (fun _ _ => trivial) rfl (Qt.ldB 0 ty3 rfl rfl rfl) rfl rfl ?_
            refine RT.p (fun _ _ => trivial) rfl (Pu.fieldAddr fd28_0 rfl) rfl rfl ?_
            refine RT.p (fun _ _ => trivial) rfl (Pu.fieldAddr fd24_1 rfl) rfl rfl ?_
            refine RT.q (fun _ _ => trivial) rfl (Qt.ldB 0 ty3 rfl rfl rfl) rfl rfl ?_
            obtain ⟨g41, H⟩ := gdE H
            refine RT.p (fun _ _ => trivial) rfl (Pu.mulS rfl rfl g41) rfl rfl ?_
            obtain ⟨g43, H⟩ := gdE H
            refine RT.two ?_ ?_
            · refine RT1.solid rfl (.inl rfl) rfl rfl (Sd.make (α := UInt8) (B := nilH) (0 : UInt8) sl22 zr5 rfl (by decide) rfl rfl (by omega) (by omega) (by omega)) (fun _ => ClE.sat _ _) (fun _ _ _ => trivial) (fun _ _ _ s => s.drop1) fun b242 => ?_
              refine RT.p (fun _ _ => trivial) rfl (Pu.build (cells := [_, _, _]) st24 rfl rfl) rfl rfl ?_
              refine RT.solid rfl (.inl rfl) rfl rfl (Sd.alloc zr24 rfl) (fun _ => ClE.sat _ _) (fun _ _ _ => trivial) (fun _ _ _ s => s.drop1) fun b243 => ?_
              refine RT.solid rfl (.inr rfl) rfl rfl (Sd.stB (cs' := [_, _, _]) 2 ty24 rfl rfl rfl rfl rfl rfl rfl rfl) (fun _ => ClE.sat _ _) (fun _ _ _ => trivial) (fun h => nomatch h) fun _ => ?_
              obtain rfl := Option.some.inj H
              refine RT.nil (hJ11 _ _ (List.replicate (a0_p.g.w * a0_p.g.h).toNat (0 : UInt8)) (b243, (some b242, (a0_p.g.w * a0_p.g.h).toNat)) HX11 trivial ⟨rfl, trivial⟩ (fun w s => (Sat.cellB 2 (Sat.relen (q := (some b242, (a0_p.g.w * a0_p.g.h).toNat)) (m := (a0_p.g.w * a0_p.g.h).toNat) 1 s rfl) rfl (congrArg (fun z => [.int .i64 a0_p.g.w, .int .i64 a0_p.g.h, rowV (some b242, (a0_p.g.w * a0_p.g.h).toNat) z]) (s.row_fits (q := (some b242, (a0_p.g.w * a0_p.g.h).toNat)) (m := (a0_p.g.w * a0_p.g.h).toNat) (k := 1) rfl).1)).pick [0, 2, 1] (by decide) rfl))
            · refine RT1.solid rfl (.inl rfl) rfl rfl (Sd.alloc zr24 rfl) (fun _ => ClE.sat _ _) (fun _ _ _ => trivial) (fun _ _ _ s => s.drop1) fun b244 => ?_
              refine RT.solid rfl (.inl rfl) rfl rfl (Sd.make (α := UInt8) (B := nilH) (0 : UInt8) sl22 zr5 rfl (by decide) rfl rfl (by omega) (by omega) (by omega)) (fun _ => ClE.sat _ _) (fun _ _ _ => trivial) (fun _ _ _ s => s.drop1) fun b245 => ?_
              refine RT.p (fun _ _ => trivial) rfl (Pu.build (cells := [_, _, _]) st24 rfl rfl) rfl rfl ?_
              refine RT.solid rfl (.inr rfl) rfl rfl (Sd.stB (cs' := [_, _, _]) 1 ty24 rfl rfl rfl rfl rfl rfl rfl rfl) (fun _ => ClE.sat _ _) (fun _ _ _ => trivial) (fun h => nomatch h) fun _ => ?_
              obtain rfl := Option.some.inj H
              refine RT.nil (hJ11 _ _ (List.replicate (a0_p.g.w * a0_p.g.h).toNat (0 : UInt8)) (b244, (some b245, (a0_p.g.w * a0_p.g.h).toNat)) HX11 trivial ⟨rfl, trivial⟩ (fun w s => (Sat.cellB 1 (Sat.relen (q := (some b245, (a0_p.g.w * a0_p.g.h).toNat)) (m := (a0_p.g.w * a0_p.g.h).toNat) 2 s rfl) rfl (congrArg (fun z => [.int .i64 a0_p.g.w, .int .i64 a0_p.g.h, rowV (some b245, (a0_p.g.w * a0_p.g.h).toNat) z]) (s.row_fits (q := (some b245, (a0_p.g.w * a0_p.g.h).toNat)) (m := (a0_p.g.w * a0_p.g.h).toNat) (k := 2) rfl).1)).pick [0, 1, 2] (by decide) rfl))
      · intro hJ9
        refine RS.splitP 23 rfl (fun hc8 => ?_) (fun hc8 => ?_)
        · refine RS.no rfl rfl ?_
          refine RS.no rfl rfl ?_
          refine RS.no rfl rfl ?_
          refine RS.no rfl rfl ?_
          refine RS.p (Pu.pickT rfl rfl) rfl rfl ?_
          exact hJ9 _ _ ⟨dOrT hc8, rfl, trivial⟩ (fun w s => s)
        · refine RS.p (Pu.fieldAddr fd28_0 rfl) rfl rfl ?_
          refine RS.p (Pu.fieldAddr fd24_1 rfl) rfl rfl ?_
          refine RS.q (Qt.ldB 0 ty3 rfl rfl rfl) rfl rfl ?_
          refine RS.p (Pu.bin rfl rfl rfl) rfl rfl ?_
          refine RS.p (Pu.pickF rfl rfl) rfl rfl ?_
          exact hJ9 _ _ ⟨dOrF hc8, rfl, trivial⟩ (fun w s => s)
    · intro hJ7
      refine RS.split 17 rfl (fun hc6 => ?_) (fun hc6 => ?_)
      · refine RS.no rfl rfl ?_
        refine RS.no rfl rfl ?_
        refine RS.no rfl rfl ?_
        refine RS.no rfl rfl ?_
        refine RS.p (Pu.pickT rfl rfl) rfl rfl ?_
        exact hJ7 _ _ ⟨dOrT hc6, rfl, trivial⟩ (fun w s => s)
      · refine RS.p (Pu.fieldAddr fd28_0 rfl) rfl rfl ?_
        refine RS.p (Pu.fieldAddr fd24_0 rfl) rfl rfl ?_
        refine RS.q (Qt.ldB 0 ty3 rfl rfl rfl) rfl rfl ?_
        refine RS.p (Pu.bin rfl rfl rfl) rfl rfl ?_
        refine RS.p (Pu.pickF rfl rfl) rfl rfl ?_
        exact hJ7 _ _ ⟨dOrF (bne_of hc6), rfl, trivial⟩ (fun w s => s)
  · intro z246 H hJ4
    refine RS.split 11 rfl (fun hc3 => ?_) (fun hc3 => ?_)
    · have H := ifT hc3 H
      refine RS.no rfl rfl ?_
      refine RS.no rfl rfl ?_
      refine RS.no rfl rfl ?_
      refine RS.no rfl rfl ?_
      refine RS.p (Pu.pickT rfl rfl) rfl rfl ?_
      obtain rfl := Option.some.inj H
      exact hJ4 _ _ ⟨rfl, rfl, trivial⟩ (fun w s => s)
    · have H := ifB hc3 H
      refine RS.p (Pu.fieldAddr fd28_0 rfl) rfl rfl ?_
      refine RS.q (Qt.ldBA (us := [_, _, _]) 0 ty24 rfl rfl rfl rfl) rfl rfl ?_
      obtain ⟨x247, hx247, H⟩ := bindE H
      refine RS.q (Qt.call ent17 rfl fun w s => throngref5_Ground_walk a0_p.g w ((Rd.base h0) w s) hx247) rfl rfl ?_
      refine RS.p (Pu.not rfl) rfl rfl ?_
      refine RS.p (Pu.pickF rfl rfl) rfl rfl ?_
      obtain rfl := Option.some.inj H
      exact hJ4 _ _ ⟨rfl, rfl, trivial⟩ (fun w s => s)
theorem thronglaw8_BuildAdds_walk (a0_p : Ask8) (w : World) {v0 v1 v2 v3 : Value} (h0 : R (hpOf w) a0_p.g.tiles [v0]) (h1 : R (hpOf w) a0_p.l [v1]) (h2 : R (hpOf w) a0_p.more [v2]) (h3 : R (hpOf w) a0_p.ids [v3]) {r : Bool} (H : thronglaw8_BuildAdds a0_p = some r) : Calls Try.prog 4 #[.agg #[.int .i64 a0_p.g.w, .int .i64 a0_p.g.h, v0, v1, v2, v3]] w fun e w' => e = .returned (.bool r) ∧ Ext w w' := by
  have hm0 := R_max h0
  obtain ⟨p0, c0, rfl⟩ := R_form h0
  have hm1 := R_max h1
  obtain ⟨p1, c1, rfl⟩ := R_form h1
  have hm2 := R_max h2
  obtain ⟨p2, c2, rfl⟩ := R_form h2
  have hm3 := R_max h3
  obtain ⟨p3, c3, rfl⟩ := R_form h3
  unfold thronglaw8_BuildAdds at H
  refine T.enter (args := [_]) (S := Sat w []) Try.func4 rfl rfl (Sat.start w) ?_
  refine T.seq fun K1 hK1 => ?_
  refine T.region ?_
  refine RS.solid (Sd.box (cs := [_, _, _, _, _, _]) rfl rfl) rfl rfl fun b1 => ?_
  refine RS.p (Pu.assign rfl) rfl rfl ?_
  refine RS.nil (hK1 _ _ ?_)
  refine T.seq fun K2 hK2 => ?_
  refine T.seq fun K3 hK3 => ?_
  refine T.region ?_
  refine RS.q (Qt.ldBA (us := [_, _, _, _, _, _]) 0 ty28 rfl rfl rfl rfl) rfl rfl ?_
  obtain ⟨x2, hx2, H⟩ := bindE H
  refine RS.q (Qt.call ent16 rfl fun w s => thronglaw8_heavy_walk a0_p w ((Rd.base h0) w s) ((Rd.base h1) w s) ((Rd.base h2) w s) ((Rd.base h3) w s) hx2) rfl rfl ?_
  refine RS.nil (hK3 _ _ ?_)
  refine T.cond rfl (fun hc3 => ?_) (fun hc3 => ?_)
  · have H := ifT hc3 H
    refine T.conseq (fr' := []) ?_ trivial (fun _ s => s)
    refine T.seq fun K4 hK4 => ?_
    refine T.region ?_
    refine RS.p (Pu.assign rfl) rfl rfl ?_
    refine RS.nil (hK4 _ _ ?_)
    obtain rfl := Option.some.inj H
    refine T.retTo (by with_reducible ((repeat (first | apply RetTo.seq | apply RetTo.blk)); exact RetTo.refl _)) (Cont.ret1 rfl rfl fun w' s => ?_)
    exact ⟨rfl, s.ext⟩
  · have H := ifB hc3 H
    refine T.skip (hK2 _ _ (T.conseq (fr' := [(1, _)]) ?_ ⟨rfl, trivial⟩ (fun _ s => s)))
    refine T.seq fun K5 hK5 => ?_
    refine T.region ?_
    refine RS.p (Pu.fieldAddr fd28_1 rfl) rfl rfl ?_
    refine RS.q (Qt.ldB 0 ty25 rfl rfl rfl) rfl rfl ?_
    obtain ⟨x4, hx4, H⟩ := bindE H
    refine RS.solid (Sd.callN ent21 rfl (fun w s => throngref0_CopyBuildings_walk a0_p.l w ((Rd.base h1) w s) hx4)) rfl rfl fun q5 => ?_
    refine RS.p (Pu.assign rfl) rfl rfl ?_
    refine RS.nil (hK5 _ _ (T.conseq (fr' := [(1, _), (3, _)]) ?_ ⟨rfl, rfl, trivial⟩ (fun _ s => s)))
    refine T.seq fun K6 hK6 => ?_
    refine T.seq fun K7 hK7 => ?_
    refine T.region ?_
    refine RS.p (Pu.assign rfl) rfl rfl ?_
    refine RS.nil (hK7 _ _ ?_)
    refine T.joinE (σ := Unit) (γ := Unit) H Ex.go [] trivial (fun _ _ => []) (fun _ _ => Sat w [blk b1 [.int .i64 a0_p.g.w, .int .i64 a0_p.g.h, .slice p0 a0_p.g.tiles.length c0, .slice p1 a0_p.l.length c1, .slice p2 a0_p.more.length c2, .slice p3 a0_p.ids.length c3] 28, dead]) ?_ ?_
    · rintro ⟨⟩ ⟨⟩ H
      try dsimp only [Ex.then] at H
      refine Cont.conseq (fr' := []) ?_ trivial (fun _ s => s)
      refine id (hK6 _ _ ?_)
      refine T.seq fun K8 hK8 => ?_
      refine T.region ?_
      obtain ⟨x7, hx7, H⟩ := bindE H
      refine RS.q (Qt.call ent20 rfl fun w s => thronglaw8_wakes_walk  w  hx7) rfl rfl ?_
      refine RS.p (Pu.assign rfl) rfl rfl ?_
      refine RS.nil (hK8 _ _ ?_)
      obtain rfl := Option.some.inj H
      refine T.retTo (by with_reducible ((repeat (first | apply RetTo.seq | apply RetTo.blk)); exact RetTo.refl _)) (Cont.ret1 rfl rfl fun w' s => ?_)
      exact ⟨rfl, s.ext⟩
    · intro z6 hz6 HX6 hJ6
      refine T.block ?_
      refine T.loopA (γ := (Option Nat × Nat)) hz6 [(1, _)] (fun (v8, l9) q10 => [(3, rowV q10 l9.length), (4, .int .i64 v8)]) (fun (v8, l9) q10 => Sat w [blk b1 [.int .i64 a0_p.g.w, .int .i64 a0_p.g.h, .slice p0 a0_p.g.tiles.length c0, .slice p1 a0_p.l.length c1, .slice p2 a0_p.more.length c2, .slice p3 a0_p.ids.length c3] 28, row nilH 35 (rowV q10 l9.length) l9]) q5 ⟨rfl, trivial⟩ ⟨rfl, rfl, trivial⟩ (fun w s => s) ?_
      rintro ⟨v8, l9⟩ q10 y11 H hd6 KL6 hL6
      try dsimp only [Ex.then] at H
      refine T.conseq (fr' := [(3, _), (4, _), (1, _)]) ?_ ⟨rfl, rfl, rfl, trivial⟩ (fun _ s => s)
      refine T.seq fun K9 hK9 => ?_
      refine T.seq fun K10 hK10 => ?_
      refine T.region ?_
      refine RS.p (Pu.move rfl) rfl rfl ?_
      refine RS.p (Pu.fieldAddr fd28_2 rfl) rfl rfl ?_
      refine RS.q (Qt.ldB 0 ty25 rfl rfl rfl) rfl rfl ?_
      refine RS.p (Pu.lenSl sl25 rfl) rfl rfl ?_
      refine RS.p (Pu.bin rfl rfl rfl) rfl rfl ?_
      refine RS.p (Pu.move rfl) rfl rfl ?_
      refine RS.joinV 3 24 (.bool (decide ((v8 < (a0_p.more.length : Int)) ∧ (v8 < 15)))) [(1, _), (3, _), (4, _)] ⟨rfl, rfl, rfl, trivial⟩ ?_ ?_
      · refine RS.nil (hK10 _ _ ?_)
        refine T.condP rfl (fun hc14 => ?_) (fun hc14 => ?_)
        · have H := ifT hc14 H
          refine T.skip (hK9 _ _ ?_)
          refine T.seq fun K11 hK11 => ?_
          refine T.block ?_
          refine T.seq fun K12 hK12 => ?_
          refine T.region ?_
          refine RS.p (Pu.fieldAddr fd28_0 rfl) rfl rfl ?_
          refine RS.q (Qt.ldBA (us := [_, _, _]) 0 ty24 rfl rfl rfl rfl) rfl rfl ?_
          refine RS.p (Pu.move rfl) rfl rfl ?_
          obtain ⟨x15, hx15, H⟩ := bindE H
          refine RS.q (Qt.call ent22 rfl fun w s => thronglaw8_check_walk a0_p.g l9 w ((Rd.base h0) w s) ((Rd.ofRowN 1 rfl) w s) hx15) rfl rfl ?_
          refine RS.p (Pu.assign rfl) rfl rfl ?_
          refine RS.nil (hK12 _ _ (T.conseq (fr' := [(1, _), (3, _), (4, _), (5, _)]) ?_ ⟨rfl, rfl, rfl, rfl, trivial⟩ (fun _ s => s)))
          refine T.seq fun K13 hK13 => ?_
          refine T.region ?_
          refine RS.p (Pu.move rfl) rfl rfl ?_
          refine RS.p (Pu.assign rfl) rfl rfl ?_
          refine RS.p (Pu.assign rfl) rfl rfl ?_
          refine RS.nil (hK13 _ _ ?_)
          refine T.seq fun K14 hK14 => ?_
          refine T.seq fun K15 hK15 => ?_
          refine T.region ?_
          refine RS.p (Pu.move rfl) rfl rfl ?_
          refine RS.p (Pu.bin rfl rfl rfl) rfl rfl ?_
          refine RS.nil (hK15 _ _ ?_)
          refine T.joinE (σ := Int × List Bld) (γ := (Option Nat × Nat)) H (fun s => s) [(1, _), (3, _), (4, _), (5, _)] ⟨rfl, rfl, rfl, rfl, trivial⟩ (fun (v17, v18) q19 => [(6, rowV q19 v18.length), (7, .int .i64 v17)]) (fun (v17, v18) q19 => Sat w [blk b1 [.int .i64 a0_p.g.w, .int .i64 a0_p.g.h, .slice p0 a0_p.g.tiles.length c0, .slice p1 a0_p.l.length c1, .slice p2 a0_p.more.length c2, .slice p3 a0_p.ids.length c3] 28, row nilH 35 (rowV q10 l9.length) l9, row nilH 35 (rowV q19 v18.length) v18]) ?_ ?_
          · rintro ⟨v17, v18⟩ q19 H
            try dsimp only [Ex.then] at H
            refine Cont.conseq (fr' := [(6, _), (7, _), (1, _), (3, _), (4, _), (5, _)]) ?_ ⟨rfl, rfl, rfl, rfl, rfl, rfl, trivial⟩ (fun _ s => s)
            refine id (hK14 _ _ ?_)
            refine T.seq fun K16 hK16 => ?_
            refine T.region ?_
            refine RS.p (Pu.move rfl) rfl rfl ?_
            obtain ⟨x20, hx20, H⟩ := bindE H
            refine RS.solid (Sd.callN ent21 rfl (fun w s => throngref0_CopyBuildings_walk l9 w ((Rd.ofRowN 1 rfl) w s) hx20)) rfl rfl fun q21 => ?_
            refine RS.p (Pu.assign rfl) rfl rfl ?_
            refine RS.nil (hK16 _ _ ?_)
            refine T.seq fun K17 hK17 => ?_
            refine T.drawn (fun _ => True) [(0, .pu), (1, .rd), (2, .pu), (3, .pu), (4, .rd), (5, .pu), (6, .pu), (7, .rd), (8, .so), (9, .pu), (10, .pu), (11, .pu), (12, .pu), (13, .pu)] mixed (ClE.sat _ _) (by kernel_rfl) ?_
            refine RD.p (fun _ _ => trivial) rfl (Pu.fieldAddr fd28_0 rfl) rfl rfl ?_
            refine RD.q (fun _ _ => trivial) rfl (Qt.ldBA (us := [_, _, _]) 0 ty24 rfl rfl rfl rfl) rfl rfl ?_
            refine RD.p (fun _ _ => trivial) rfl (Pu.move rfl) rfl rfl ?_
            refine RD.p (fun _ _ => trivial) rfl (Pu.fieldAddr fd28_2 rfl) rfl rfl ?_
            refine RD.q (fun _ _ => trivial) rfl (Qt.ldB 0 ty25 rfl rfl rfl) rfl rfl ?_
            refine RD.p (fun _ _ => trivial) rfl (Pu.move rfl) rfl rfl ?_
            obtain ⟨g22, H⟩ := gdE H
            obtain ⟨bl23, ol24, rfl⟩ := R_ptr h2 (ne_of_pos (pos_of g22))
            refine RD.p (fun _ _ => trivial) rfl (Pu.indexSl sl25 rfl rfl g22) rfl rfl ?_
            refine RD.q (fun _ _ => trivial) rfl (Qt.ldW (α := Bld) (cs := [_, _, _, _, _, _]) (Rd.base h2) ty35 rfl rfl g22 rfl (by rintro _ _ rfl; rfl)) rfl rfl ?_
            obtain ⟨x25, hx25, H⟩ := bindE H
            refine RD.solid rfl (.inl rfl) rfl rfl (Sd.callN ent18 rfl (fun w s => build_Add_walk a0_p.g x20 (gi a0_p.more v8) w ((Rd.base h0) w s) ((Rd.ofRowN 3 rfl) w s) hx25)) (fun _ => ClE.sat _ _) (fun _ _ _ => trivial) (fun _ _ _ s => s.drop1) fun q26 => ?_
            refine RD.p (fun _ _ => trivial) rfl (Pu.move rfl) rfl rfl ?_
            refine RD.p (fun _ _ => trivial) rfl (Pu.extract rfl rfl) rfl rfl ?_
            refine RD.p (fun _ _ => trivial) rfl (Pu.extract rfl rfl) rfl rfl ?_
            refine RD.p (fun _ _ => trivial) rfl (Pu.assign rfl) rfl rfl ?_
            refine RD.p (fun _ _ => trivial) rfl (Pu.assign rfl) rfl rfl ?_
            refine RD.nil (hK17 _ _ (T.conseq (fr' := [(1, _), (3, _), (4, _), (5, _), (6, _), (7, _), (8, _), (9, _), (10, _)]) ?_ ⟨rfl, rfl, rfl, rfl, rfl, rfl, rfl, rfl, rfl, trivial⟩ (fun _ s => s)))
            refine T.seq fun K18 hK18 => ?_
            refine T.seq fun K19 hK19 => ?_
            refine T.region ?_
            refine RS.p (Pu.fieldAddr fd28_0 rfl) rfl rfl ?_
            refine RS.q (Qt.ldBA (us := [_, _, _]) 0 ty24 rfl rfl rfl rfl) rfl rfl ?_
            refine RS.p (Pu.move rfl) rfl rfl ?_
            obtain ⟨x27, hx27, H⟩ := bindE H
            refine RS.q (Qt.call ent24 rfl fun w s => build_Check_walk a0_p.g x20 w ((Rd.base h0) w s) ((Rd.ofRowN 3 rfl) w s) hx27) rfl rfl ?_
            obtain ⟨x28, hx28, H⟩ := bindE H
            refine RS.q (Qt.call ent19 rfl fun w s => thronglaw8_num_walk x27 w  hx28) rfl rfl ?_
            refine RS.p (Pu.move rfl) rfl rfl ?_
            refine RS.p (Pu.bin rfl rfl rfl) rfl rfl ?_
            refine RS.p (Pu.move rfl) rfl rfl ?_
            refine RS.joinB H 5 72 (fun b31 => .bool b31) [(1, _), (3, _), (4, _), (6, _), (7, _), (8, _), (9, _)] ⟨rfl, rfl, rfl, rfl, rfl, rfl, rfl, trivial⟩ ?_ ?_
            · intro b31 H
              refine RS.p (Pu.move rfl) rfl rfl ?_
              refine RS.joinB H 5 78 (fun b34 => .bool b34) [(1, _), (3, _), (4, _), (6, _), (7, _), (8, _), (9, _)] ⟨rfl, rfl, rfl, rfl, rfl, rfl, rfl, trivial⟩ ?_ ?_
              · intro b34 H
                refine RS.p (Pu.move rfl) rfl rfl ?_
                refine RS.joinB H 5 84 (fun b37 => .bool b37) [(1, _), (3, _), (4, _), (6, _), (7, _), (8, _), (9, _)] ⟨rfl, rfl, rfl, rfl, rfl, rfl, rfl, trivial⟩ ?_ ?_
                · intro b37 H
                  refine RS.nil (hK19 _ _ ?_)
                  refine T.cond rfl (fun hc38 => ?_) (fun hc38 => ?_)
                  · have H := ifT hc38 H
                    refine T.conseq (fr' := []) ?_ trivial (fun _ s => s)
                    refine T.seq fun K20 hK20 => ?_
                    refine T.region ?_
                    refine RS.p (Pu.assign rfl) rfl rfl ?_
                    refine RS.nil (hK20 _ _ ?_)
                    obtain rfl := hd6 _ H
                    have H := HX6
                    obtain rfl := Option.some.inj H
                    refine T.retTo (by with_reducible ((repeat (first | apply RetTo.seq | apply RetTo.blk)); exact RetTo.refl _)) (Cont.ret1 rfl rfl fun w' s => ?_)
                    exact ⟨rfl, s.ext⟩
                  · have H := ifB hc38 H
                    refine T.skip (hK18 _ _ ?_)
                    refine T.seq fun K21 hK21 => ?_
                    refine T.region ?_
                    refine RS.p (Pu.move rfl) rfl rfl ?_
                    obtain ⟨x39, hx39, H⟩ := bindE H
                    refine RS.solid (Sd.callF0 4 ent26 rfl rfl (fun w s => thronglaw0_Buildings_walk x25.1 rfl  hx39 w s)) rfl rfl fun _ => ?_
                    refine RS.nil (hK21 _ _ (T.conseq (fr' := [(1, _), (3, _), (4, _), (6, _), (7, _), (8, _)]) ?_ ⟨rfl, rfl, rfl, rfl, rfl, rfl, trivial⟩ (fun _ s => s)))
                    refine T.seq fun K22 hK22 => ?_
                    refine T.seq fun K23 hK23 => ?_
                    refine T.region ?_
                    refine RS.p (Pu.move rfl) rfl rfl ?_
                    refine RS.p (Pu.move rfl) rfl rfl ?_
                    obtain ⟨x40, hx40, H⟩ := bindE H
                    refine RS.q (Qt.call ent25 rfl fun w s => throngref0_EqBuildings_walk x20 l9 w ((Rd.ofRowN 3 rfl) w s) ((Rd.ofRowN 1 rfl) w s) hx40) rfl rfl ?_
                    refine RS.p (Pu.not rfl) rfl rfl ?_
                    refine RS.nil (hK23 _ _ ?_)
                    refine T.cond rfl (fun hc41 => ?_) (fun hc41 => ?_)
                    · have H := ifT hc41 H
                      refine T.conseq (fr' := []) ?_ trivial (fun _ s => s)
                      refine T.seq fun K24 hK24 => ?_
                      refine T.region ?_
                      refine RS.p (Pu.assign rfl) rfl rfl ?_
                      refine RS.nil (hK24 _ _ ?_)
                      obtain rfl := hd6 _ H
                      have H := HX6
                      obtain rfl := Option.some.inj H
                      refine T.retTo (by with_reducible ((repeat (first | apply RetTo.seq | apply RetTo.blk)); exact RetTo.refl _)) (Cont.ret1 rfl rfl fun w' s => ?_)
                      exact ⟨rfl, s.ext⟩
                    · have H := ifB hc41 H
                      refine T.skip (hK22 _ _ (T.conseq (fr' := [(1, _), (3, _), (4, _), (6, _), (7, _)]) ?_ ⟨rfl, rfl, rfl, rfl, rfl, trivial⟩ (fun _ s => s)))
                      refine T.seq fun K25 hK25 => ?_
                      refine T.region ?_
                      refine RS.p (Pu.move rfl) rfl rfl ?_
                      refine RS.p (Pu.bin rfl rfl rfl) rfl rfl ?_
                      refine RS.nil (hK25 _ _ ?_)
                      refine T.condP rfl (fun hc42 => ?_) (fun hc42 => ?_)
                      · have H := ifT hc42 H
                        refine T.conseq (fr' := [(1, _), (4, _), (6, _)]) ?_ ⟨rfl, rfl, rfl, trivial⟩ (fun _ s => s)
                        refine T.region ?_
                        refine RS.p (Pu.move rfl) rfl rfl ?_
                        obtain ⟨x43, hx43, H⟩ := bindE H
                        refine RS.solid (Sd.callN ent21 rfl (fun w s => throngref0_CopyBuildings_walk v18 w ((Rd.ofRowN 2 rfl) w s) hx43)) rfl rfl fun q44 => ?_
                        refine RS.p (Pu.assign rfl) rfl rfl ?_
                        refine RS.nil (hK11 _ _ (T.conseq (fr' := [(1, _), (3, _), (4, _)]) ?_ ⟨rfl, rfl, rfl, trivial⟩ (fun _ s => s)))
                        refine T.region ?_
                        refine RS.p (Pu.move rfl) rfl rfl ?_
                        obtain ⟨g45, H⟩ := gdE H
                        refine RS.p (Pu.addS rfl rfl g45) rfl rfl ?_
                        refine RS.p (Pu.assign rfl) rfl rfl ?_
                        refine RS.nil (hL6 _ _ ((v8 + 1), x43) q44 H ⟨rfl, trivial⟩ ⟨rfl, rfl, trivial⟩ (fun w s => s.pick [0, 5] (by decide) rfl))
                      · have H := ifF hc42 H
                        refine T.skip (hK11 _ _ (T.conseq (fr' := [(1, _), (3, _), (4, _)]) ?_ ⟨rfl, rfl, rfl, trivial⟩ (fun _ s => s)))
                        refine T.region ?_
                        refine RS.p (Pu.move rfl) rfl rfl ?_
                        obtain ⟨g46, H⟩ := gdE H
                        refine RS.p (Pu.addS rfl rfl g46) rfl rfl ?_
                        refine RS.p (Pu.assign rfl) rfl rfl ?_
                        refine RS.nil (hL6 _ _ ((v8 + 1), l9) q10 H ⟨rfl, trivial⟩ ⟨rfl, rfl, trivial⟩ (fun w s => s.pick [0, 1] (by decide) rfl))
                · intro z47 H hJ36
                  refine RS.split 79 rfl (fun hc35 => ?_) (fun hc35 => ?_)
                  · have H := ifT hc35 H
                    refine RS.no rfl rfl ?_
                    refine RS.no rfl rfl ?_
                    refine RS.no rfl rfl ?_
                    refine RS.no rfl rfl ?_
                    refine RS.p (Pu.pickT rfl rfl) rfl rfl ?_
                    obtain rfl := Option.some.inj H
                    exact hJ36 _ _ ⟨rfl, rfl, rfl, rfl, rfl, rfl, rfl, rfl, trivial⟩ (fun w s => s)
                  · have H := ifB hc35 H
                    refine RS.p (Pu.move rfl) rfl rfl ?_
                    refine RS.p (Pu.move rfl) rfl rfl ?_
                    obtain ⟨x48, hx48, H⟩ := bindE H
                    refine RS.q (Qt.call ent25 rfl fun w s => throngref0_EqBuildings_walk x20 l9 w ((Rd.ofRowN 3 rfl) w s) ((Rd.ofRowN 1 rfl) w s) hx48) rfl rfl ?_
                    refine RS.p (Pu.not rfl) rfl rfl ?_
                    refine RS.p (Pu.pickF rfl rfl) rfl rfl ?_
                    obtain rfl := Option.some.inj H
                    exact hJ36 _ _ ⟨rfl, rfl, rfl, rfl, rfl, rfl, rfl, rfl, trivial⟩ (fun w s => s)
              · intro z49 H hJ33
                refine RS.split 73 rfl (fun hc32 => ?_) (fun hc32 => ?_)
                · have H := ifT hc32 H
                  refine RS.no rfl rfl ?_
                  refine RS.no rfl rfl ?_
                  refine RS.no rfl rfl ?_
                  refine RS.no rfl rfl ?_
                  refine RS.p (Pu.pickT rfl rfl) rfl rfl ?_
                  obtain rfl := Option.some.inj H
                  exact hJ33 _ _ ⟨rfl, rfl, rfl, rfl, rfl, rfl, rfl, rfl, trivial⟩ (fun w s => s)
                · have H := ifB hc32 H
                  refine RS.p (Pu.move rfl) rfl rfl ?_
                  refine RS.p (Pu.move rfl) rfl rfl ?_
                  obtain ⟨x50, hx50, H⟩ := bindE H
                  refine RS.q (Qt.call ent25 rfl fun w s => throngref0_EqBuildings_walk x25.1 v18 w ((Rd.ofRowN 4 rfl) w s) ((Rd.ofRowN 2 rfl) w s) hx50) rfl rfl ?_
                  refine RS.p (Pu.not rfl) rfl rfl ?_
                  refine RS.p (Pu.pickF rfl rfl) rfl rfl ?_
                  obtain rfl := Option.some.inj H
                  exact hJ33 _ _ ⟨rfl, rfl, rfl, rfl, rfl, rfl, rfl, rfl, trivial⟩ (fun w s => s)
            · intro z51 H hJ30
              refine RS.splitP 67 rfl (fun hc29 => ?_) (fun hc29 => ?_)
              · have H := ifT hc29 H
                refine RS.no rfl rfl ?_
                refine RS.no rfl rfl ?_
                refine RS.no rfl rfl ?_
                refine RS.no rfl rfl ?_
                refine RS.p (Pu.pickT rfl rfl) rfl rfl ?_
                obtain rfl := Option.some.inj H
                exact hJ30 _ _ ⟨rfl, rfl, rfl, rfl, rfl, rfl, rfl, rfl, trivial⟩ (fun w s => s)
              · have H := ifF hc29 H
                refine RS.p (Pu.move rfl) rfl rfl ?_
                obtain ⟨x52, hx52, H⟩ := bindE H
                refine RS.q (Qt.call ent19 rfl fun w s => thronglaw8_num_walk x25.2 w  hx52) rfl rfl ?_
                refine RS.p (Pu.move rfl) rfl rfl ?_
                refine RS.p (Pu.bin rfl rfl rfl) rfl rfl ?_
                refine RS.p (Pu.pickF rfl rfl) rfl rfl ?_
                obtain rfl := Option.some.inj H
                exact hJ30 _ _ ⟨rfl, rfl, rfl, rfl, rfl, rfl, rfl, rfl, trivial⟩ (fun w s => s)
          · intro z16 H HX16 hJ16
            refine T.condP rfl (fun hc53 => ?_) (fun hc53 => ?_)
            · have H := ifT hc53 H
              refine T.conseq (fr' := [(1, _), (3, _), (4, _), (5, _)]) ?_ ⟨rfl, rfl, rfl, rfl, trivial⟩ (fun _ s => s)
              refine T.drawn (fun _ => True) [(0, .pu), (1, .rd), (2, .pu), (3, .pu), (4, .rd), (5, .pu), (6, .pu), (7, .rd), (8, .so), (9, .pu), (10, .pu), (11, .pu), (12, .pu), (13, .pu)] mixed (ClE.sat _ _) (by kernel_rfl) ?_
              refine RD.p (fun _ _ => trivial) rfl (Pu.fieldAddr fd28_0 rfl) rfl rfl ?_
              refine RD.q (fun _ _ => trivial) rfl (Qt.ldBA (us := [_, _, _]) 0 ty24 rfl rfl rfl rfl) rfl rfl ?_
              refine RD.p (fun _ _ => trivial) rfl (Pu.move rfl) rfl rfl ?_
              refine RD.p (fun _ _ => trivial) rfl (Pu.fieldAddr fd28_2 rfl) rfl rfl ?_
              refine RD.q (fun _ _ => trivial) rfl (Qt.ldB 0 ty25 rfl rfl rfl) rfl rfl ?_
              refine RD.p (fun _ _ => trivial) rfl (Pu.move rfl) rfl rfl ?_
              obtain ⟨g54, H⟩ := gdE H
              obtain ⟨bl55, ol56, rfl⟩ := R_ptr h2 (ne_of_pos (pos_of g54))
              refine RD.p (fun _ _ => trivial) rfl (Pu.indexSl sl25 rfl rfl g54) rfl rfl ?_
              refine RD.q (fun _ _ => trivial) rfl (Qt.ldW (α := Bld) (cs := [_, _, _, _, _, _]) (Rd.base h2) ty35 rfl rfl g54 rfl (by rintro _ _ rfl; rfl)) rfl rfl ?_
              obtain ⟨x57, hx57, H⟩ := bindE H
              refine RD.solid rfl (.inl rfl) rfl rfl (Sd.callN ent23 rfl (fun w s => throngref8_Add_walk a0_p.g l9 (gi a0_p.more v8) w ((Rd.base h0) w s) ((Rd.ofRowN 1 rfl) w s) hx57)) (fun _ => ClE.sat _ _) (fun _ _ _ => trivial) (fun _ _ _ s => s.drop1) fun q58 => ?_
              refine RD.p (fun _ _ => trivial) rfl (Pu.move rfl) rfl rfl ?_
              refine RD.p (fun _ _ => trivial) rfl (Pu.extract rfl rfl) rfl rfl ?_
              refine RD.p (fun _ _ => trivial) rfl (Pu.extract rfl rfl) rfl rfl ?_
              refine RD.p (fun _ _ => trivial) rfl (Pu.assign rfl) rfl rfl ?_
              refine RD.p (fun _ _ => trivial) rfl (Pu.assign rfl) rfl rfl ?_
              obtain rfl := Option.some.inj H
              refine RD.nil (hJ16 _ _ (x57.2, x57.1) q58 HX16 ⟨rfl, rfl, rfl, rfl, trivial⟩ ⟨rfl, rfl, trivial⟩ (fun w s => s))
            · have H := ifF hc53 H
              obtain rfl := Option.some.inj H
              refine T.skip (hJ16 _ _ (x15, []) (none, 0) HX16 ⟨rfl, rfl, rfl, rfl, trivial⟩ ⟨rfl, rfl, trivial⟩ (fun w s => (s.nilRow (α := Bld) 35).pick [0, 1, 2] (by decide) rfl))
        · have H := ifF hc14 H
          obtain rfl := hd6 _ H
          refine T.exitTo (by with_reducible (repeat (first | exact ExTo.here | exact ExTo.hereN | exact ExTo.deep (by repeat (first | exact NmTo.seq | apply NmTo.blk)) | apply ExTo.seq | refine ExTo.past (by decide) ?_))) (hJ6 _ _ () () HX6 trivial trivial (fun w s => (s.deadRow).pick [0, 2] (by decide) rfl))
      · intro hJ13
        refine RS.splitP 21 rfl (fun hc12 => ?_) (fun hc12 => ?_)
        · refine RS.p (Pu.move rfl) rfl rfl ?_
          refine RS.p (Pu.bin rfl rfl rfl) rfl rfl ?_
          refine RS.p (Pu.pickT rfl rfl) rfl rfl ?_
          exact hJ13 _ _ ⟨dAndT hc12, rfl, rfl, rfl, trivial⟩ (fun w s => s)
        · refine RS.no rfl rfl ?_
          refine RS.no rfl rfl ?_
          refine RS.p (Pu.pickF rfl rfl) rfl rfl ?_
          exact hJ13 _ _ ⟨dAndF hc12, rfl, rfl, rfl, trivial⟩ (fun w s => s)
theorem thronglaw8_BuildCovers_walk (a0_p : Ask8) (w : World) {v0 v1 v2 v3 : Value} (h0 : R (hpOf w) a0_p.g.tiles [v0]) (h1 : R (hpOf w) a0_p.l [v1]) (h2 : R (hpOf w) a0_p.more [v2]) (h3 : R (hpOf w) a0_p.ids [v3]) {r : Bool} (H : thronglaw8_BuildCovers a0_p = some r) : Calls Try.prog 5 #[.agg #[.int .i64 a0_p.g.w, .int .i64 a0_p.g.h, v0, v1, v2, v3]] w fun e w' => e = .returned (.bool r) ∧ Ext w w' := by
  have hm0 := R_max h0
  obtain ⟨p0, c0, rfl⟩ := R_form h0
  have hm1 := R_max h1
  obtain ⟨p1, c1, rfl⟩ := R_form h1
  have hm2 := R_max h2
  obtain ⟨p2, c2, rfl⟩ := R_form h2
  have hm3 := R_max h3
  obtain ⟨p3, c3, rfl⟩ := R_form h3
  unfold thronglaw8_BuildCovers at H
  refine T.enter (args := [_]) (S := Sat w []) Try.func5 rfl rfl (Sat.start w) ?_
  refine T.seq fun K1 hK1 => ?_
  refine T.region ?_
  refine RS.solid (Sd.box (cs := [_, _, _, _, _, _]) rfl rfl) rfl rfl fun b1 => ?_
  refine RS.p (Pu.assign rfl) rfl rfl ?_
  refine RS.nil (hK1 _ _ ?_)
  refine T.seq fun K2 hK2 => ?_
  refine T.seq fun K3 hK3 => ?_
  refine T.region ?_
  refine RS.q (Qt.ldBA (us := [_, _, _, _, _, _]) 0 ty28 rfl rfl rfl rfl) rfl rfl ?_
  obtain ⟨x2, hx2, H⟩ := bindE H
  refine RS.q (Qt.call ent16 rfl fun w s => thronglaw8_heavy_walk a0_p w ((Rd.base h0) w s) ((Rd.base h1) w s) ((Rd.base h2) w s) ((Rd.base h3) w s) hx2) rfl rfl ?_
  refine RS.nil (hK3 _ _ ?_)
  refine T.cond rfl (fun hc3 => ?_) (fun hc3 => ?_)
  · have H := ifT hc3 H
    refine T.conseq (fr' := []) ?_ trivial (fun _ s => s)
    refine T.seq fun K4 hK4 => ?_
    refine T.region ?_
    refine RS.p (Pu.assign rfl) rfl rfl ?_
    refine RS.nil (hK4 _ _ ?_)
    obtain rfl := Option.some.inj H
    refine T.retTo (by with_reducible ((repeat (first | apply RetTo.seq | apply RetTo.blk)); exact RetTo.refl _)) (Cont.ret1 rfl rfl fun w' s => ?_)
    exact ⟨rfl, s.ext⟩
  · have H := ifB hc3 H
    refine T.skip (hK2 _ _ (T.conseq (fr' := [(1, _)]) ?_ ⟨rfl, trivial⟩ (fun _ s => s)))
    refine T.seq fun K5 hK5 => ?_
    refine T.region ?_
    refine RS.p (Pu.fieldAddr fd28_0 rfl) rfl rfl ?_
    refine RS.q (Qt.ldBA (us := [_, _, _]) 0 ty24 rfl rfl rfl rfl) rfl rfl ?_
    refine RS.p (Pu.fieldAddr fd28_1 rfl) rfl rfl ?_
    refine RS.q (Qt.ldB 0 ty25 rfl rfl rfl) rfl rfl ?_
    obtain ⟨x4, hx4, H⟩ := bindE H
    refine RS.q (Qt.call ent22 rfl fun w s => thronglaw8_check_walk a0_p.g a0_p.l w ((Rd.base h0) w s) ((Rd.base h1) w s) hx4) rfl rfl ?_
    refine RS.p (Pu.assign rfl) rfl rfl ?_
    refine RS.p (Pu.assign rfl) rfl rfl ?_
    refine RS.nil (hK5 _ _ (T.conseq (fr' := [(1, _), (3, _), (4, _)]) ?_ ⟨rfl, rfl, rfl, trivial⟩ (fun _ s => s)))
    refine T.seq fun K6 hK6 => ?_
    refine T.seq fun K7 hK7 => ?_
    refine T.region ?_
    refine RS.p (Pu.move rfl) rfl rfl ?_
    refine RS.p (Pu.bin rfl rfl rfl) rfl rfl ?_
    refine RS.nil (hK7 _ _ ?_)
    refine T.joinE (σ := List Bool) (γ := (Option Nat × Nat)) H (fun s => s) [(1, _), (3, _)] ⟨rfl, rfl, trivial⟩ (fun v6 q7 => [(4, rowV q7 v6.length)]) (fun v6 q7 => Sat w [blk b1 [.int .i64 a0_p.g.w, .int .i64 a0_p.g.h, .slice p0 a0_p.g.tiles.length c0, .slice p1 a0_p.l.length c1, .slice p2 a0_p.more.length c2, .slice p3 a0_p.ids.length c3] 28, row nilH 4 (rowV q7 v6.length) v6]) ?_ ?_
    · rintro v6 q7 H
      try dsimp only [Ex.then] at H
      refine Cont.conseq (fr' := [(4, _), (1, _), (3, _)]) ?_ ⟨rfl, rfl, rfl, trivial⟩ (fun _ s => s)
      refine id (hK6 _ _ ?_)
      refine T.seq fun K8 hK8 => ?_
      refine T.region ?_
      refine RS.p (Pu.fieldAddr fd28_0 rfl) rfl rfl ?_
      refine RS.q (Qt.ldBA (us := [_, _, _]) 0 ty24 rfl rfl rfl rfl) rfl rfl ?_
      refine RS.p (Pu.fieldAddr fd28_1 rfl) rfl rfl ?_
      refine RS.q (Qt.ldB 0 ty25 rfl rfl rfl) rfl rfl ?_
      obtain ⟨x8, hx8, H⟩ := bindE H
      refine RS.solid (Sd.callN ent28 rfl (fun w s => build_Covered_walk a0_p.g a0_p.l w ((Rd.base h0) w s) ((Rd.base h1) w s) hx8)) rfl rfl fun q9 => ?_
      refine RS.p (Pu.move rfl) rfl rfl ?_
      refine RS.p (Pu.extract rfl rfl) rfl rfl ?_
      refine RS.p (Pu.extract rfl rfl) rfl rfl ?_
      refine RS.p (Pu.assign rfl) rfl rfl ?_
      refine RS.p (Pu.assign rfl) rfl rfl ?_
      refine RS.nil (hK8 _ _ (T.conseq (fr' := [(3, _), (4, _), (5, _), (6, _)]) ?_ ⟨rfl, rfl, rfl, rfl, trivial⟩ (fun _ s => s)))
      refine T.seq fun K9 hK9 => ?_
      refine T.seq fun K10 hK10 => ?_
      refine T.region ?_
      refine RS.p (Pu.move rfl) rfl rfl ?_
      obtain ⟨x10, hx10, H⟩ := bindE H
      refine RS.q (Qt.call ent19 rfl fun w s => thronglaw8_num_walk x8.2 w  hx10) rfl rfl ?_
      refine RS.p (Pu.move rfl) rfl rfl ?_
      refine RS.p (Pu.bin rfl rfl rfl) rfl rfl ?_
      refine RS.p (Pu.move rfl) rfl rfl ?_
      refine RS.joinB H 5 38 (fun b13 => .bool b13) [(5, _)] ⟨rfl, trivial⟩ ?_ ?_
      · intro b13 H
        refine RS.nil (hK10 _ _ ?_)
        refine T.cond rfl (fun hc14 => ?_) (fun hc14 => ?_)
        · have H := ifT hc14 H
          refine T.seq fun K11 hK11 => ?_
          refine T.region ?_
          refine RS.p (Pu.assign rfl) rfl rfl ?_
          refine RS.nil (hK11 _ _ ?_)
          obtain rfl := Option.some.inj H
          refine T.retTo (by with_reducible ((repeat (first | apply RetTo.seq | apply RetTo.blk)); exact RetTo.refl _)) (Cont.ret1 rfl rfl fun w' s => ?_)
          exact ⟨rfl, s.ext⟩
        · have H := ifB hc14 H
          refine T.skip (hK9 _ _ ?_)
          refine T.seq fun K12 hK12 => ?_
          refine T.region ?_
          refine RS.p (Pu.move rfl) rfl rfl ?_
          obtain ⟨x15, hx15, H⟩ := bindE H
          refine RS.solid (Sd.callF0 2 ent30 rfl rfl (fun w s => thronglaw0_Bools_walk x8.1 rfl  hx15 w s)) rfl rfl fun _ => ?_
          refine RS.nil (hK12 _ _ (T.conseq (fr' := []) ?_ trivial (fun _ s => s)))
          refine T.seq fun K13 hK13 => ?_
          refine T.region ?_
          obtain ⟨x16, hx16, H⟩ := bindE H
          refine RS.q (Qt.call ent20 rfl fun w s => thronglaw8_wakes_walk  w  hx16) rfl rfl ?_
          refine RS.p (Pu.assign rfl) rfl rfl ?_
          refine RS.nil (hK13 _ _ ?_)
          obtain rfl := Option.some.inj H
          refine T.retTo (by with_reducible ((repeat (first | apply RetTo.seq | apply RetTo.blk)); exact RetTo.refl _)) (Cont.ret1 rfl rfl fun w' s => ?_)
          exact ⟨rfl, s.ext⟩
      · intro z17 H hJ12
        refine RS.splitP 33 rfl (fun hc11 => ?_) (fun hc11 => ?_)
        · have H := ifT hc11 H
          refine RS.no rfl rfl ?_
          refine RS.no rfl rfl ?_
          refine RS.no rfl rfl ?_
          refine RS.no rfl rfl ?_
          refine RS.p (Pu.pickT rfl rfl) rfl rfl ?_
          obtain rfl := Option.some.inj H
          exact hJ12 _ _ ⟨rfl, rfl, trivial⟩ (fun w s => s)
        · have H := ifF hc11 H
          refine RS.p (Pu.move rfl) rfl rfl ?_
          refine RS.p (Pu.move rfl) rfl rfl ?_
          obtain ⟨x18, hx18, H⟩ := bindE H
          refine RS.q (Qt.call ent29 rfl fun w s => throngref0_EqBools_walk x8.1 v6 w ((Rd.ofRowN 2 rfl) w s) ((Rd.ofRowN 1 rfl) w s) hx18) rfl rfl ?_
          refine RS.p (Pu.not rfl) rfl rfl ?_
          refine RS.p (Pu.pickF rfl rfl) rfl rfl ?_
          obtain rfl := Option.some.inj H
          exact hJ12 _ _ ⟨rfl, rfl, trivial⟩ (fun w s => s)
    · intro z5 H HX5 hJ5
      refine T.condP rfl (fun hc19 => ?_) (fun hc19 => ?_)
      · have H := ifT hc19 H
        refine T.conseq (fr' := [(1, _), (3, _)]) ?_ ⟨rfl, rfl, trivial⟩ (fun _ s => s)
        refine T.region ?_
        refine RS.p (Pu.fieldAddr fd28_0 rfl) rfl rfl ?_
        refine RS.q (Qt.ldBA (us := [_, _, _]) 0 ty24 rfl rfl rfl rfl) rfl rfl ?_
        refine RS.p (Pu.fieldAddr fd28_1 rfl) rfl rfl ?_
        refine RS.q (Qt.ldB 0 ty25 rfl rfl rfl) rfl rfl ?_
        obtain ⟨x20, hx20, H⟩ := bindE H
        refine RS.solid (Sd.callN ent27 rfl (fun w s => throngref8_Covered_walk a0_p.g a0_p.l w ((Rd.base h0) w s) ((Rd.base h1) w s) hx20)) rfl rfl fun q21 => ?_
        refine RS.p (Pu.assign rfl) rfl rfl ?_
        obtain rfl := Option.some.inj H
        refine RS.nil (hJ5 _ _ x20 q21 HX5 ⟨rfl, rfl, trivial⟩ ⟨rfl, trivial⟩ (fun w s => s))
      · have H := ifF hc19 H
        obtain rfl := Option.some.inj H
        refine T.skip (hJ5 _ _ [] (none, 0) HX5 ⟨rfl, rfl, trivial⟩ ⟨rfl, trivial⟩ (fun w s => (s.nilRow (α := Bool) 4).pick [0, 1] (by decide) rfl))
theorem thronglaw8_BuildDrops_walk (a0_p : Ask8) (w : World) {v0 v1 v2 v3 : Value} (h0 : R (hpOf w) a0_p.g.tiles [v0]) (h1 : R (hpOf w) a0_p.l [v1]) (h2 : R (hpOf w) a0_p.more [v2]) (h3 : R (hpOf w) a0_p.ids [v3]) {r : Bool} (H : thronglaw8_BuildDrops a0_p = some r) : Calls Try.prog 6 #[.agg #[.int .i64 a0_p.g.w, .int .i64 a0_p.g.h, v0, v1, v2, v3]] w fun e w' => e = .returned (.bool r) ∧ Ext w w' := by
  have hm0 := R_max h0
  obtain ⟨p0, c0, rfl⟩ := R_form h0
  have hm1 := R_max h1
  obtain ⟨p1, c1, rfl⟩ := R_form h1
  have hm2 := R_max h2
  obtain ⟨p2, c2, rfl⟩ := R_form h2
  have hm3 := R_max h3
  obtain ⟨p3, c3, rfl⟩ := R_form h3
  unfold thronglaw8_BuildDrops at H
  refine T.enter (args := [_]) (S := Sat w []) Try.func6 rfl rfl (Sat.start w) ?_
  refine T.seq fun K1 hK1 => ?_
  refine T.region ?_
  refine RS.solid (Sd.box (cs := [_, _, _, _, _, _]) rfl rfl) rfl rfl fun b1 => ?_
  refine RS.p (Pu.assign rfl) rfl rfl ?_
  refine RS.nil (hK1 _ _ ?_)
  refine T.seq fun K2 hK2 => ?_
  refine T.seq fun K3 hK3 => ?_
  refine T.region ?_
  refine RS.q (Qt.ldBA (us := [_, _, _, _, _, _]) 0 ty28 rfl rfl rfl rfl) rfl rfl ?_
  obtain ⟨x2, hx2, H⟩ := bindE H
  refine RS.q (Qt.call ent16 rfl fun w s => thronglaw8_heavy_walk a0_p w ((Rd.base h0) w s) ((Rd.base h1) w s) ((Rd.base h2) w s) ((Rd.base h3) w s) hx2) rfl rfl ?_
  refine RS.nil (hK3 _ _ ?_)
  refine T.cond rfl (fun hc3 => ?_) (fun hc3 => ?_)
  · have H := ifT hc3 H
    refine T.conseq (fr' := []) ?_ trivial (fun _ s => s)
    refine T.seq fun K4 hK4 => ?_
    refine T.region ?_
    refine RS.p (Pu.assign rfl) rfl rfl ?_
    refine RS.nil (hK4 _ _ ?_)
    obtain rfl := Option.some.inj H
    refine T.retTo (by with_reducible ((repeat (first | apply RetTo.seq | apply RetTo.blk)); exact RetTo.refl _)) (Cont.ret1 rfl rfl fun w' s => ?_)
    exact ⟨rfl, s.ext⟩
  · have H := ifB hc3 H
    refine T.skip (hK2 _ _ (T.conseq (fr' := [(1, _)]) ?_ ⟨rfl, trivial⟩ (fun _ s => s)))
    refine T.seq fun K5 hK5 => ?_
    refine T.seq fun K6 hK6 => ?_
    refine T.region ?_
    refine RS.p (Pu.assign rfl) rfl rfl ?_
    refine RS.nil (hK6 _ _ ?_)
    refine T.joinE (σ := Unit) (γ := Unit) H Ex.go [] trivial (fun _ _ => []) (fun _ _ => Sat w [blk b1 [.int .i64 a0_p.g.w, .int .i64 a0_p.g.h, .slice p0 a0_p.g.tiles.length c0, .slice p1 a0_p.l.length c1, .slice p2 a0_p.more.length c2, .slice p3 a0_p.ids.length c3] 28]) ?_ ?_
    · rintro ⟨⟩ ⟨⟩ H
      try dsimp only [Ex.then] at H
      refine Cont.conseq (fr' := []) ?_ trivial (fun _ s => s)
      refine id (hK5 _ _ ?_)
      refine T.seq fun K7 hK7 => ?_
      refine T.region ?_
      obtain ⟨x5, hx5, H⟩ := bindE H
      refine RS.q (Qt.call ent20 rfl fun w s => thronglaw8_wakes_walk  w  hx5) rfl rfl ?_
      refine RS.p (Pu.assign rfl) rfl rfl ?_
      refine RS.nil (hK7 _ _ ?_)
      obtain rfl := Option.some.inj H
      refine T.retTo (by with_reducible ((repeat (first | apply RetTo.seq | apply RetTo.blk)); exact RetTo.refl _)) (Cont.ret1 rfl rfl fun w' s => ?_)
      exact ⟨rfl, s.ext⟩
    · intro z4 hz4 HX4 hJ4
      refine T.block ?_
      refine T.loopA (γ := Unit) hz4 [(1, _)] (fun v6 _ => [(3, .int .i64 v6)]) (fun v6 _ => Sat w [blk b1 [.int .i64 a0_p.g.w, .int .i64 a0_p.g.h, .slice p0 a0_p.g.tiles.length c0, .slice p1 a0_p.l.length c1, .slice p2 a0_p.more.length c2, .slice p3 a0_p.ids.length c3] 28]) () ⟨rfl, trivial⟩ ⟨rfl, trivial⟩ (fun w s => s) ?_
      rintro v6 ⟨⟩ y7 H hd4 KL4 hL4
      try dsimp only [Ex.then] at H
      refine T.conseq (fr' := [(3, _), (1, _)]) ?_ ⟨rfl, rfl, trivial⟩ (fun _ s => s)
      refine T.seq fun K8 hK8 => ?_
      refine T.seq fun K9 hK9 => ?_
      refine T.region ?_
      refine RS.p (Pu.move rfl) rfl rfl ?_
      refine RS.p (Pu.fieldAddr fd28_3 rfl) rfl rfl ?_
      refine RS.q (Qt.ldB 0 ty26 rfl rfl rfl) rfl rfl ?_
      refine RS.p (Pu.lenSl sl26 rfl) rfl rfl ?_
      refine RS.p (Pu.bin rfl rfl rfl) rfl rfl ?_
      refine RS.p (Pu.move rfl) rfl rfl ?_
      refine RS.joinV 3 21 (.bool (decide ((v6 < (a0_p.ids.length : Int)) ∧ (v6 < 15)))) [(1, _), (3, _)] ⟨rfl, rfl, trivial⟩ ?_ ?_
      · refine RS.nil (hK9 _ _ ?_)
        refine T.condP rfl (fun hc10 => ?_) (fun hc10 => ?_)
        · have H := ifT hc10 H
          refine T.skip (hK8 _ _ ?_)
          refine T.seq fun K10 hK10 => ?_
          refine T.block ?_
          refine T.seq fun K11 hK11 => ?_
          refine T.region ?_
          refine RS.p (Pu.assign rfl) rfl rfl ?_
          refine RS.p (Pu.assign rfl) rfl rfl ?_
          refine RS.nil (hK11 _ _ ?_)
          refine T.seq fun K12 hK12 => ?_
          refine T.seq fun K13 hK13 => ?_
          refine T.region ?_
          refine RS.p (Pu.fieldAddr fd28_1 rfl) rfl rfl ?_
          refine RS.q (Qt.ldB 0 ty25 rfl rfl rfl) rfl rfl ?_
          obtain ⟨x11, hx11, H⟩ := bindE H
          refine RS.q (Qt.call ent31 rfl fun w s => throngref8_IDs_walk a0_p.l w ((Rd.base h1) w s) hx11) rfl rfl ?_
          refine RS.nil (hK13 _ _ ?_)
          refine T.joinE (σ := Int × List Bld) (γ := (Option Nat × Nat)) H (fun s => s) [(1, _), (3, _)] ⟨rfl, rfl, trivial⟩ (fun (v13, v14) q15 => [(4, .int .i64 v13), (5, rowV q15 v14.length)]) (fun (v13, v14) q15 => Sat w [blk b1 [.int .i64 a0_p.g.w, .int .i64 a0_p.g.h, .slice p0 a0_p.g.tiles.length c0, .slice p1 a0_p.l.length c1, .slice p2 a0_p.more.length c2, .slice p3 a0_p.ids.length c3] 28, row nilH 35 (rowV q15 v14.length) v14]) ?_ ?_
          · rintro ⟨v13, v14⟩ q15 H
            try dsimp only [Ex.then] at H
            refine Cont.conseq (fr' := [(4, _), (5, _), (1, _), (3, _)]) ?_ ⟨rfl, rfl, rfl, rfl, trivial⟩ (fun _ s => s)
            refine id (hK12 _ _ ?_)
            refine T.seq fun K14 hK14 => ?_
            refine T.region ?_
            refine RS.p (Pu.fieldAddr fd28_1 rfl) rfl rfl ?_
            refine RS.q (Qt.ldB 0 ty25 rfl rfl rfl) rfl rfl ?_
            obtain ⟨x16, hx16, H⟩ := bindE H
            refine RS.solid (Sd.callN ent21 rfl (fun w s => throngref0_CopyBuildings_walk a0_p.l w ((Rd.base h1) w s) hx16)) rfl rfl fun q17 => ?_
            refine RS.p (Pu.assign rfl) rfl rfl ?_
            refine RS.nil (hK14 _ _ (T.conseq (fr' := [(1, _), (3, _), (4, _), (5, _), (8, _)]) ?_ ⟨rfl, rfl, rfl, rfl, rfl, trivial⟩ (fun _ s => s)))
            refine T.seq fun K15 hK15 => ?_
            refine T.region ?_
            refine RS.p (Pu.move rfl) rfl rfl ?_
            refine RS.p (Pu.fieldAddr fd28_3 rfl) rfl rfl ?_
            refine RS.q (Qt.ldB 0 ty26 rfl rfl rfl) rfl rfl ?_
            refine RS.p (Pu.move rfl) rfl rfl ?_
            obtain ⟨g18, H⟩ := gdE H
            obtain ⟨bl19, ol20, rfl⟩ := R_ptr h3 (ne_of_pos (pos_of g18))
            refine RS.p (Pu.indexSl sl26 rfl rfl g18) rfl rfl ?_
            refine RS.q (Qt.ld0 (α := Int) (Rd.base h3) ty3 rfl rfl g18 (by rintro _ _ rfl; rfl)) rfl rfl ?_
            obtain ⟨x21, hx21, H⟩ := bindE H
            refine RS.solid (Sd.callN ent33 rfl (fun w s => build_Drop_walk x16 (gi a0_p.ids v6) w ((Rd.ofRowN 2 rfl) w s) hx21)) rfl rfl fun q22 => ?_
            refine RS.p (Pu.move rfl) rfl rfl ?_
            refine RS.p (Pu.extract rfl rfl) rfl rfl ?_
            refine RS.p (Pu.extract rfl rfl) rfl rfl ?_
            refine RS.p (Pu.assign rfl) rfl rfl ?_
            refine RS.p (Pu.assign rfl) rfl rfl ?_
            refine RS.nil (hK15 _ _ (T.conseq (fr' := [(1, _), (3, _), (4, _), (5, _), (8, _), (9, _), (10, _)]) ?_ ⟨rfl, rfl, rfl, rfl, rfl, rfl, rfl, trivial⟩ (fun _ s => s)))
            refine T.seq fun K16 hK16 => ?_
            refine T.region ?_
            refine RS.p (Pu.move rfl) rfl rfl ?_
            obtain ⟨x23, hx23, H⟩ := bindE H
            refine RS.q (Qt.call ent19 rfl fun w s => thronglaw8_num_walk x21.2 w  hx23) rfl rfl ?_
            refine RS.p (Pu.move rfl) rfl rfl ?_
            refine RS.p (Pu.bin rfl rfl rfl) rfl rfl ?_
            refine RS.p (Pu.move rfl) rfl rfl ?_
            refine RS.joinB H 5 63 (fun b26 => .bool b26) [(1, _), (3, _), (8, _)] ⟨rfl, rfl, rfl, trivial⟩ ?_ ?_
            · intro b26 H
              refine RS.p (Pu.move rfl) rfl rfl ?_
              refine RS.joinB H 6 70 (fun b29 => .bool b29) [(1, _), (3, _)] ⟨rfl, rfl, trivial⟩ ?_ ?_
              · intro b29 H
                refine RS.nil (hK16 _ _ ?_)
                refine T.cond rfl (fun hc30 => ?_) (fun hc30 => ?_)
                · have H := ifT hc30 H
                  refine T.conseq (fr' := []) ?_ trivial (fun _ s => s)
                  refine T.seq fun K17 hK17 => ?_
                  refine T.region ?_
                  refine RS.p (Pu.assign rfl) rfl rfl ?_
                  refine RS.nil (hK17 _ _ ?_)
                  obtain rfl := hd4 _ H
                  have H := HX4
                  obtain rfl := Option.some.inj H
                  refine T.retTo (by with_reducible ((repeat (first | apply RetTo.seq | apply RetTo.blk)); exact RetTo.refl _)) (Cont.ret1 rfl rfl fun w' s => ?_)
                  exact ⟨rfl, s.ext⟩
                · have H := ifB hc30 H
                  refine T.skip (hK10 _ _ ?_)
                  refine T.region ?_
                  refine RS.p (Pu.move rfl) rfl rfl ?_
                  obtain ⟨g31, H⟩ := gdE H
                  refine RS.p (Pu.addS rfl rfl g31) rfl rfl ?_
                  refine RS.p (Pu.assign rfl) rfl rfl ?_
                  refine RS.nil (hL4 _ _ (v6 + 1) () H ⟨rfl, trivial⟩ ⟨rfl, trivial⟩ (fun w s => s.pick [0] (by decide) rfl))
              · intro z32 H hJ28
                refine RS.split 64 rfl (fun hc27 => ?_) (fun hc27 => ?_)
                · have H := ifT hc27 H
                  refine RS.no rfl rfl ?_
                  refine RS.no rfl rfl ?_
                  refine RS.no rfl rfl ?_
                  refine RS.no rfl rfl ?_
                  refine RS.no rfl rfl ?_
                  refine RS.p (Pu.pickT rfl rfl) rfl rfl ?_
                  obtain rfl := Option.some.inj H
                  exact hJ28 _ _ ⟨rfl, rfl, rfl, trivial⟩ (fun w s => s)
                · have H := ifB hc27 H
                  refine RS.p (Pu.move rfl) rfl rfl ?_
                  refine RS.p (Pu.fieldAddr fd28_1 rfl) rfl rfl ?_
                  refine RS.q (Qt.ldB 0 ty25 rfl rfl rfl) rfl rfl ?_
                  obtain ⟨x33, hx33, H⟩ := bindE H
                  refine RS.q (Qt.call ent25 rfl fun w s => throngref0_EqBuildings_walk x16 a0_p.l w ((Rd.ofRowN 2 rfl) w s) ((Rd.base h1) w s) hx33) rfl rfl ?_
                  refine RS.p (Pu.not rfl) rfl rfl ?_
                  refine RS.p (Pu.pickF rfl rfl) rfl rfl ?_
                  obtain rfl := Option.some.inj H
                  exact hJ28 _ _ ⟨rfl, rfl, rfl, trivial⟩ (fun w s => s)
            · intro z34 H hJ25
              refine RS.splitP 58 rfl (fun hc24 => ?_) (fun hc24 => ?_)
              · have H := ifT hc24 H
                refine RS.no rfl rfl ?_
                refine RS.no rfl rfl ?_
                refine RS.no rfl rfl ?_
                refine RS.no rfl rfl ?_
                refine RS.p (Pu.pickT rfl rfl) rfl rfl ?_
                obtain rfl := Option.some.inj H
                exact hJ25 _ _ ⟨rfl, rfl, rfl, rfl, trivial⟩ (fun w s => s)
              · have H := ifF hc24 H
                refine RS.p (Pu.move rfl) rfl rfl ?_
                refine RS.p (Pu.move rfl) rfl rfl ?_
                obtain ⟨x35, hx35, H⟩ := bindE H
                refine RS.q (Qt.call ent25 rfl fun w s => throngref0_EqBuildings_walk x21.1 v14 w ((Rd.ofRowN 3 rfl) w s) ((Rd.ofRowN 1 rfl) w s) hx35) rfl rfl ?_
                refine RS.p (Pu.not rfl) rfl rfl ?_
                refine RS.p (Pu.pickF rfl rfl) rfl rfl ?_
                obtain rfl := Option.some.inj H
                exact hJ25 _ _ ⟨rfl, rfl, rfl, rfl, trivial⟩ (fun w s => s)
          · intro z12 H HX12 hJ12
            refine T.cond rfl (fun hc36 => ?_) (fun hc36 => ?_)
            · have H := ifT hc36 H
              refine T.conseq (fr' := [(1, _), (3, _)]) ?_ ⟨rfl, rfl, trivial⟩ (fun _ s => s)
              refine T.seq fun K18 hK18 => ?_
              refine T.drawn (fun _ => True) [(0, .pu), (1, .rd), (2, .pu), (3, .rd), (4, .pu), (5, .pu), (6, .rd), (7, .so), (8, .pu), (9, .pu), (10, .pu), (11, .pu), (12, .pu)] mixed (ClE.sat _ _) (by kernel_rfl) ?_
              refine RD.p (fun _ _ => trivial) rfl (Pu.fieldAddr fd28_1 rfl) rfl rfl ?_
              refine RD.q (fun _ _ => trivial) rfl (Qt.ldB 0 ty25 rfl rfl rfl) rfl rfl ?_
              refine RD.p (fun _ _ => trivial) rfl (Pu.fieldAddr fd28_3 rfl) rfl rfl ?_
              refine RD.q (fun _ _ => trivial) rfl (Qt.ldB 0 ty26 rfl rfl rfl) rfl rfl ?_
              refine RD.p (fun _ _ => trivial) rfl (Pu.move rfl) rfl rfl ?_
              obtain ⟨g37, H⟩ := gdE H
              obtain ⟨bl38, ol39, rfl⟩ := R_ptr h3 (ne_of_pos (pos_of g37))
              refine RD.p (fun _ _ => trivial) rfl (Pu.indexSl sl26 rfl rfl g37) rfl rfl ?_
              refine RD.q (fun _ _ => trivial) rfl (Qt.ld0 (α := Int) (Rd.base h3) ty3 rfl rfl g37 (by rintro _ _ rfl; rfl)) rfl rfl ?_
              obtain ⟨x40, hx40, H⟩ := bindE H
              refine RD.solid rfl (.inl rfl) rfl rfl (Sd.callN ent32 rfl (fun w s => throngref8_Drop_walk a0_p.l (gi a0_p.ids v6) w ((Rd.base h1) w s) hx40)) (fun _ => ClE.sat _ _) (fun _ _ _ => trivial) (fun _ _ _ s => s.drop1) fun q41 => ?_
              refine RD.p (fun _ _ => trivial) rfl (Pu.move rfl) rfl rfl ?_
              refine RD.p (fun _ _ => trivial) rfl (Pu.extract rfl rfl) rfl rfl ?_
              refine RD.p (fun _ _ => trivial) rfl (Pu.extract rfl rfl) rfl rfl ?_
              refine RD.p (fun _ _ => trivial) rfl (Pu.assign rfl) rfl rfl ?_
              refine RD.p (fun _ _ => trivial) rfl (Pu.assign rfl) rfl rfl ?_
              refine RD.nil (hK18 _ _ (T.conseq (fr' := [(1, _), (3, _), (6, _), (7, _)]) ?_ ⟨rfl, rfl, rfl, rfl, trivial⟩ (fun _ s => s)))
              refine T.seq fun K19 hK19 => ?_
              refine T.region ?_
              refine RS.p (Pu.move rfl) rfl rfl ?_
              refine RS.p (Pu.assign rfl) rfl rfl ?_
              refine RS.p (Pu.assign rfl) rfl rfl ?_
              refine RS.nil (hK19 _ _ ?_)
              refine T.seq fun K20 hK20 => ?_
              refine T.region ?_
              refine RS.p (Pu.move rfl) rfl rfl ?_
              refine RS.p (Pu.not rfl) rfl rfl ?_
              refine RS.nil (hK20 _ _ ?_)
              refine T.cond rfl (fun hc42 => ?_) (fun hc42 => ?_)
              · have H := ifT hc42 H
                refine T.conseq (fr' := [(1, _), (3, _), (5, _)]) ?_ ⟨rfl, rfl, rfl, trivial⟩ (fun _ s => s)
                refine T.region ?_
                refine RS.p (Pu.assign rfl) rfl rfl ?_
                obtain rfl := Option.some.inj H
                refine RS.nil (hJ12 _ _ (3, x40.1) q41 HX12 ⟨rfl, rfl, trivial⟩ ⟨rfl, rfl, trivial⟩ (fun w s => s))
              · have H := ifB hc42 H
                obtain rfl := Option.some.inj H
                refine T.skip (hJ12 _ _ (0, x40.1) q41 HX12 ⟨rfl, rfl, trivial⟩ ⟨rfl, rfl, trivial⟩ (fun w s => s))
            · have H := ifB hc36 H
              obtain rfl := Option.some.inj H
              refine T.skip (hJ12 _ _ (1, []) (none, 0) HX12 ⟨rfl, rfl, trivial⟩ ⟨rfl, rfl, trivial⟩ (fun w s => (s.nilRow (α := Bld) 35).pick [0, 1] (by decide) rfl))
        · have H := ifF hc10 H
          obtain rfl := hd4 _ H
          refine T.exitTo (by with_reducible (repeat (first | exact ExTo.here | exact ExTo.hereN | exact ExTo.deep (by repeat (first | exact NmTo.seq | apply NmTo.blk)) | apply ExTo.seq | refine ExTo.past (by decide) ?_))) (hJ4 _ _ () () HX4 trivial trivial (fun w s => s))
      · intro hJ9
        refine RS.splitP 18 rfl (fun hc8 => ?_) (fun hc8 => ?_)
        · refine RS.p (Pu.move rfl) rfl rfl ?_
          refine RS.p (Pu.bin rfl rfl rfl) rfl rfl ?_
          refine RS.p (Pu.pickT rfl rfl) rfl rfl ?_
          exact hJ9 _ _ ⟨dAndT hc8, rfl, rfl, trivial⟩ (fun w s => s)
        · refine RS.no rfl rfl ?_
          refine RS.no rfl rfl ?_
          refine RS.p (Pu.pickF rfl rfl) rfl rfl ?_
          exact hJ9 _ _ ⟨dAndF hc8, rfl, rfl, trivial⟩ (fun w s => s)
theorem thronglaw8_BuildOrders_walk (a0_p : Ask8) (w : World) {v0 v1 v2 v3 : Value} (h0 : R (hpOf w) a0_p.g.tiles [v0]) (h1 : R (hpOf w) a0_p.l [v1]) (h2 : R (hpOf w) a0_p.more [v2]) (h3 : R (hpOf w) a0_p.ids [v3]) {r : Bool} (H : thronglaw8_BuildOrders a0_p = some r) : Calls Try.prog 7 #[.agg #[.int .i64 a0_p.g.w, .int .i64 a0_p.g.h, v0, v1, v2, v3]] w fun e w' => e = .returned (.bool r) ∧ Ext w w' := by
  have hm0 := R_max h0
  obtain ⟨p0, c0, rfl⟩ := R_form h0
  have hm1 := R_max h1
  obtain ⟨p1, c1, rfl⟩ := R_form h1
  have hm2 := R_max h2
  obtain ⟨p2, c2, rfl⟩ := R_form h2
  have hm3 := R_max h3
  obtain ⟨p3, c3, rfl⟩ := R_form h3
  unfold thronglaw8_BuildOrders at H
  refine T.enter (args := [_]) (S := Sat w []) Try.func7 rfl rfl (Sat.start w) ?_
  refine T.seq fun K1 hK1 => ?_
  refine T.region ?_
  refine RS.solid (Sd.box (cs := [_, _, _, _, _, _]) rfl rfl) rfl rfl fun b1 => ?_
  refine RS.p (Pu.assign rfl) rfl rfl ?_
  refine RS.nil (hK1 _ _ ?_)
  refine T.seq fun K2 hK2 => ?_
  refine T.seq fun K3 hK3 => ?_
  refine T.region ?_
  refine RS.q (Qt.ldBA (us := [_, _, _, _, _, _]) 0 ty28 rfl rfl rfl rfl) rfl rfl ?_
  obtain ⟨x2, hx2, H⟩ := bindE H
  refine RS.q (Qt.call ent16 rfl fun w s => thronglaw8_heavy_walk a0_p w ((Rd.base h0) w s) ((Rd.base h1) w s) ((Rd.base h2) w s) ((Rd.base h3) w s) hx2) rfl rfl ?_
  refine RS.p (Pu.move rfl) rfl rfl ?_
  refine RS.joinB H 8 28 (fun b5 => .bool b5) [(1, _)] ⟨rfl, trivial⟩ ?_ ?_
  · intro b5 H
    refine RS.nil (hK3 _ _ ?_)
    refine T.cond rfl (fun hc6 => ?_) (fun hc6 => ?_)
    · have H := ifT hc6 H
      refine T.seq fun K4 hK4 => ?_
      refine T.region ?_
      refine RS.p (Pu.assign rfl) rfl rfl ?_
      refine RS.nil (hK4 _ _ ?_)
      obtain rfl := Option.some.inj H
      refine T.retTo (by with_reducible ((repeat (first | apply RetTo.seq | apply RetTo.blk)); exact RetTo.refl _)) (Cont.ret1 rfl rfl fun w' s => ?_)
      exact ⟨rfl, s.ext⟩
    · have H := ifB hc6 H
      refine T.skip (hK2 _ _ ?_)
      refine T.seq fun K5 hK5 => ?_
      refine T.region ?_
      refine RS.p (Pu.assign rfl) rfl rfl ?_
      refine RS.nil (hK5 _ _ ?_)
      refine T.seq fun K6 hK6 => ?_
      refine T.region ?_
      refine RS.p (Pu.assign rfl) rfl rfl ?_
      refine RS.nil (hK6 _ _ ?_)
      refine T.seq fun K7 hK7 => ?_
      refine T.seq fun K8 hK8 => ?_
      refine T.region ?_
      refine RS.p (Pu.fieldAddr fd28_1 rfl) rfl rfl ?_
      refine RS.q (Qt.ldB 0 ty25 rfl rfl rfl) rfl rfl ?_
      refine RS.p (Pu.lenSl sl25 rfl) rfl rfl ?_
      obtain ⟨g7, H⟩ := gdE H
      refine RS.p (Pu.subS rfl rfl g7) rfl rfl ?_
      refine RS.p (Pu.assign rfl) rfl rfl ?_
      refine RS.nil (hK8 _ _ (T.conseq (fr' := [(1, _), (3, _), (4, _), (5, _)]) ?_ ⟨rfl, rfl, rfl, rfl, trivial⟩ (fun _ s => s)))
      refine T.joinE (σ := Int × List Bld) (γ := (Option Nat × Nat)) H Ex.go [(1, _)] ⟨rfl, trivial⟩ (fun (v9, v10) q11 => [(3, rowV q11 v10.length), (4, .int .i64 v9)]) (fun (v9, v10) q11 => Sat w [blk b1 [.int .i64 a0_p.g.w, .int .i64 a0_p.g.h, .slice p0 a0_p.g.tiles.length c0, .slice p1 a0_p.l.length c1, .slice p2 a0_p.more.length c2, .slice p3 a0_p.ids.length c3] 28, row nilH 35 (rowV q11 v10.length) v10]) ?_ ?_
      · rintro ⟨v9, v10⟩ q11 H
        try dsimp only [Ex.then] at H
        refine Cont.conseq (fr' := [(3, _), (4, _), (1, _)]) ?_ ⟨rfl, rfl, rfl, trivial⟩ (fun _ s => s)
        refine id (hK7 _ _ ?_)
        refine T.seq fun K9 hK9 => ?_
        refine T.region ?_
        refine RS.p (Pu.fieldAddr fd28_0 rfl) rfl rfl ?_
        refine RS.q (Qt.ldBA (us := [_, _, _]) 0 ty24 rfl rfl rfl rfl) rfl rfl ?_
        refine RS.p (Pu.fieldAddr fd28_1 rfl) rfl rfl ?_
        refine RS.q (Qt.ldB 0 ty25 rfl rfl rfl) rfl rfl ?_
        obtain ⟨x12, hx12, H⟩ := bindE H
        refine RS.solid (Sd.callN ent28 rfl (fun w s => build_Covered_walk a0_p.g a0_p.l w ((Rd.base h0) w s) ((Rd.base h1) w s) hx12)) rfl rfl fun q13 => ?_
        refine RS.p (Pu.move rfl) rfl rfl ?_
        refine RS.p (Pu.extract rfl rfl) rfl rfl ?_
        refine RS.p (Pu.extract rfl rfl) rfl rfl ?_
        refine RS.p (Pu.assign rfl) rfl rfl ?_
        refine RS.p (Pu.assign rfl) rfl rfl ?_
        refine RS.nil (hK9 _ _ (T.conseq (fr' := [(1, _), (3, _), (4, _), (8, _), (9, _)]) ?_ ⟨rfl, rfl, rfl, rfl, rfl, trivial⟩ (fun _ s => s)))
        refine T.seq fun K10 hK10 => ?_
        refine T.seq fun K11 hK11 => ?_
        refine T.region ?_
        refine RS.p (Pu.move rfl) rfl rfl ?_
        obtain ⟨x14, hx14, H⟩ := bindE H
        refine RS.q (Qt.call ent19 rfl fun w s => thronglaw8_num_walk x12.2 w  hx14) rfl rfl ?_
        refine RS.p (Pu.bin rfl rfl rfl) rfl rfl ?_
        refine RS.p (Pu.move rfl) rfl rfl ?_
        refine RS.joinB H 6 85 (fun b17 => .bool b17) [(1, _), (4, _), (8, _)] ⟨rfl, rfl, rfl, trivial⟩ ?_ ?_
        · intro b17 H
          refine RS.nil (hK11 _ _ ?_)
          refine T.cond rfl (fun hc18 => ?_) (fun hc18 => ?_)
          · have H := ifT hc18 H
            refine T.conseq (fr' := []) ?_ trivial (fun _ s => s)
            refine T.seq fun K12 hK12 => ?_
            refine T.region ?_
            refine RS.p (Pu.assign rfl) rfl rfl ?_
            refine RS.nil (hK12 _ _ ?_)
            obtain rfl := Option.some.inj H
            refine T.retTo (by with_reducible ((repeat (first | apply RetTo.seq | apply RetTo.blk)); exact RetTo.refl _)) (Cont.ret1 rfl rfl fun w' s => ?_)
            exact ⟨rfl, s.ext⟩
          · have H := ifB hc18 H
            refine T.skip (hK10 _ _ ?_)
            refine T.seq fun K13 hK13 => ?_
            refine T.seq fun K14 hK14 => ?_
            refine T.region ?_
            refine RS.p (Pu.assign rfl) rfl rfl ?_
            refine RS.nil (hK14 _ _ ?_)
            refine T.joinE (σ := Int) (γ := Unit) H Ex.go [(1, _)] ⟨rfl, trivial⟩ (fun v20 _ => [(4, .int .i64 v20)]) (fun v20 _ => Sat w [blk b1 [.int .i64 a0_p.g.w, .int .i64 a0_p.g.h, .slice p0 a0_p.g.tiles.length c0, .slice p1 a0_p.l.length c1, .slice p2 a0_p.more.length c2, .slice p3 a0_p.ids.length c3] 28, row nilH 35 (rowV q11 v10.length) v10, row nilH 4 (rowV q13 x12.1.length) x12.1]) ?_ ?_
            · rintro v20 ⟨⟩ H
              try dsimp only [Ex.then] at H
              refine Cont.conseq (fr' := [(4, _), (1, _)]) ?_ ⟨rfl, rfl, trivial⟩ (fun _ s => s)
              refine id (hK13 _ _ ?_)
              refine T.seq fun K15 hK15 => ?_
              refine T.seq fun K16 hK16 => ?_
              refine T.region ?_
              refine RS.p (Pu.assign rfl) rfl rfl ?_
              refine RS.nil (hK16 _ _ ?_)
              refine T.joinE (σ := Unit) (γ := Unit) H Ex.go [(4, _)] ⟨rfl, trivial⟩ (fun _ _ => []) (fun _ _ => Sat w [blk b1 [.int .i64 a0_p.g.w, .int .i64 a0_p.g.h, .slice p0 a0_p.g.tiles.length c0, .slice p1 a0_p.l.length c1, .slice p2 a0_p.more.length c2, .slice p3 a0_p.ids.length c3] 28, row nilH 35 (rowV q11 v10.length) v10, row nilH 4 (rowV q13 x12.1.length) x12.1]) ?_ ?_
              · rintro ⟨⟩ ⟨⟩ H
                try dsimp only [Ex.then] at H
                refine Cont.conseq (fr' := [(4, _)]) ?_ ⟨rfl, trivial⟩ (fun _ s => s)
                refine id (hK15 _ _ ?_)
                refine T.seq fun K17 hK17 => ?_
                refine T.region ?_
                refine RS.p (Pu.move rfl) rfl rfl ?_
                refine RS.p (Pu.bin rfl rfl rfl) rfl rfl ?_
                refine RS.p (Pu.move rfl) rfl rfl ?_
                refine RS.joinB H 2 182 (fun b24 => .bool b24) [] trivial ?_ ?_
                · intro b24 H
                  refine RS.p (Pu.assign rfl) rfl rfl ?_
                  refine RS.nil (hK17 _ _ ?_)
                  obtain rfl := Option.some.inj H
                  refine T.retTo (by with_reducible ((repeat (first | apply RetTo.seq | apply RetTo.blk)); exact RetTo.refl _)) (Cont.ret1 rfl rfl fun w' s => ?_)
                  exact ⟨rfl, s.ext⟩
                · intro z25 H hJ23
                  refine RS.splitP 180 rfl (fun hc22 => ?_) (fun hc22 => ?_)
                  · have H := ifT hc22 H
                    obtain ⟨x26, hx26, H⟩ := bindE H
                    refine RS.q (Qt.call ent20 rfl fun w s => thronglaw8_wakes_walk  w  hx26) rfl rfl ?_
                    refine RS.p (Pu.pickT rfl rfl) rfl rfl ?_
                    obtain rfl := Option.some.inj H
                    exact hJ23 _ _ ⟨rfl, trivial⟩ (fun w s => s)
                  · have H := ifF hc22 H
                    refine RS.no rfl rfl ?_
                    refine RS.p (Pu.pickF rfl rfl) rfl rfl ?_
                    obtain rfl := Option.some.inj H
                    exact hJ23 _ _ ⟨rfl, trivial⟩ (fun w s => s)
              · intro z21 hz21 HX21 hJ21
                refine T.block ?_
                refine T.loopA (γ := Unit) hz21 [(1, _), (4, _)] (fun v27 _ => [(11, .int .i64 v27)]) (fun v27 _ => Sat w [blk b1 [.int .i64 a0_p.g.w, .int .i64 a0_p.g.h, .slice p0 a0_p.g.tiles.length c0, .slice p1 a0_p.l.length c1, .slice p2 a0_p.more.length c2, .slice p3 a0_p.ids.length c3] 28, row nilH 35 (rowV q11 v10.length) v10, row nilH 4 (rowV q13 x12.1.length) x12.1]) () ⟨rfl, rfl, trivial⟩ ⟨rfl, trivial⟩ (fun w s => s) ?_
                rintro v27 ⟨⟩ y28 H hd21 KL21 hL21
                try dsimp only [Ex.then] at H
                refine T.conseq (fr' := [(11, _), (1, _), (4, _)]) ?_ ⟨rfl, rfl, rfl, trivial⟩ (fun _ s => s)
                refine T.seq fun K18 hK18 => ?_
                refine T.seq fun K19 hK19 => ?_
                refine T.region ?_
                refine RS.p (Pu.move rfl) rfl rfl ?_
                refine RS.p (Pu.fieldAddr fd28_1 rfl) rfl rfl ?_
                refine RS.q (Qt.ldB 0 ty25 rfl rfl rfl) rfl rfl ?_
                refine RS.p (Pu.lenSl sl25 rfl) rfl rfl ?_
                refine RS.p (Pu.bin rfl rfl rfl) rfl rfl ?_
                refine RS.nil (hK19 _ _ ?_)
                refine T.condP rfl (fun hc29 => ?_) (fun hc29 => ?_)
                · have H := ifT hc29 H
                  refine T.skip (hK18 _ _ (T.conseq (fr' := [(1, _), (4, _), (11, _)]) ?_ ⟨rfl, rfl, rfl, trivial⟩ (fun _ s => s)))
                  refine T.seq fun K20 hK20 => ?_
                  refine T.block ?_
                  refine T.seq fun K21 hK21 => ?_
                  refine T.drawn (fun _ => True) [(0, .pu), (1, .rd), (2, .pu), (3, .rd), (4, .pu), (5, .pu), (6, .pu), (7, .rd), (8, .so), (9, .pu), (10, .pu), (11, .pu), (12, .pu), (13, .pu)] mixed (ClE.sat _ _) (by kernel_rfl) ?_
                  refine RD.p (fun _ _ => trivial) rfl (Pu.fieldAddr fd28_1 rfl) rfl rfl ?_
                  refine RD.q (fun _ _ => trivial) rfl (Qt.ldB 0 ty25 rfl rfl rfl) rfl rfl ?_
                  refine RD.p (fun _ _ => trivial) rfl (Pu.fieldAddr fd28_1 rfl) rfl rfl ?_
                  refine RD.q (fun _ _ => trivial) rfl (Qt.ldB 0 ty25 rfl rfl rfl) rfl rfl ?_
                  refine RD.p (fun _ _ => trivial) rfl (Pu.move rfl) rfl rfl ?_
                  obtain ⟨g30, H⟩ := gdE H
                  obtain ⟨bl31, ol32, rfl⟩ := R_ptr h1 (ne_of_pos (pos_of g30))
                  refine RD.p (fun _ _ => trivial) rfl (Pu.indexSl sl25 rfl rfl g30) rfl rfl ?_
                  refine RD.p (fun _ _ => trivial) rfl (Pu.fieldAddr fd35_0 rfl) rfl rfl ?_
                  refine RD.q (fun _ _ => trivial) rfl (Qt.ldF (α := Bld) (Rd.base h1) ty3 rfl rfl g30 (by rintro _ _ rfl; rfl)) rfl rfl ?_
                  obtain ⟨x33, hx33, H⟩ := bindE H
                  refine RD.solid rfl (.inl rfl) rfl rfl (Sd.callN ent33 rfl (fun w s => build_Drop_walk a0_p.l ((gi a0_p.l v27).id) w ((Rd.base h1) w s) hx33)) (fun _ => ClE.sat _ _) (fun _ _ _ => trivial) (fun _ _ _ s => s.drop1) fun q34 => ?_
                  refine RD.p (fun _ _ => trivial) rfl (Pu.move rfl) rfl rfl ?_
                  refine RD.p (fun _ _ => trivial) rfl (Pu.extract rfl rfl) rfl rfl ?_
                  refine RD.p (fun _ _ => trivial) rfl (Pu.extract rfl rfl) rfl rfl ?_
                  refine RD.p (fun _ _ => trivial) rfl (Pu.assign rfl) rfl rfl ?_
                  refine RD.p (fun _ _ => trivial) rfl (Pu.assign rfl) rfl rfl ?_
                  refine RD.nil (hK21 _ _ (T.conseq (fr' := [(1, _), (4, _), (11, _), (12, _), (13, _)]) ?_ ⟨rfl, rfl, rfl, rfl, rfl, trivial⟩ (fun _ s => s)))
                  refine T.seq fun K22 hK22 => ?_
                  refine T.drawn (fun _ => True) [(0, .pu), (1, .rd), (2, .pu), (3, .rd), (4, .pu), (5, .rd), (6, .pu), (7, .pu), (8, .rd), (9, .so), (10, .pu), (11, .pu), (12, .pu), (13, .pu), (14, .pu)] mixed (ClE.sat _ _) (by kernel_rfl) ?_
                  refine RD.p (fun _ _ => trivial) rfl (Pu.fieldAddr fd28_0 rfl) rfl rfl ?_
                  refine RD.q (fun _ _ => trivial) rfl (Qt.ldBA (us := [_, _, _]) 0 ty24 rfl rfl rfl rfl) rfl rfl ?_
                  refine RD.p (fun _ _ => trivial) rfl (Pu.fieldAddr fd28_1 rfl) rfl rfl ?_
                  refine RD.q (fun _ _ => trivial) rfl (Qt.ldB 0 ty25 rfl rfl rfl) rfl rfl ?_
                  refine RD.p (fun _ _ => trivial) rfl (Pu.fieldAddr fd28_1 rfl) rfl rfl ?_
                  refine RD.q (fun _ _ => trivial) rfl (Qt.ldB 0 ty25 rfl rfl rfl) rfl rfl ?_
                  refine RD.p (fun _ _ => trivial) rfl (Pu.move rfl) rfl rfl ?_
                  obtain ⟨g35, H⟩ := gdE H
                  refine RD.p (fun _ _ => trivial) rfl (Pu.indexSl sl25 rfl rfl g35) rfl rfl ?_
                  refine RD.q (fun _ _ => trivial) rfl (Qt.ldW (α := Bld) (cs := [_, _, _, _, _, _]) (Rd.base h1) ty35 rfl rfl g35 rfl (by rintro _ _ rfl; rfl)) rfl rfl ?_
                  obtain ⟨x36, hx36, H⟩ := bindE H
                  refine RD.solid rfl (.inl rfl) rfl rfl (Sd.callN ent18 rfl (fun w s => build_Add_walk a0_p.g a0_p.l (gi a0_p.l v27) w ((Rd.base h0) w s) ((Rd.base h1) w s) hx36)) (fun _ => ClE.sat _ _) (fun _ _ _ => trivial) (fun _ _ _ s => s.drop1) fun q37 => ?_
                  refine RD.p (fun _ _ => trivial) rfl (Pu.move rfl) rfl rfl ?_
                  refine RD.p (fun _ _ => trivial) rfl (Pu.extract rfl rfl) rfl rfl ?_
                  refine RD.p (fun _ _ => trivial) rfl (Pu.extract rfl rfl) rfl rfl ?_
                  refine RD.p (fun _ _ => trivial) rfl (Pu.assign rfl) rfl rfl ?_
                  refine RD.p (fun _ _ => trivial) rfl (Pu.assign rfl) rfl rfl ?_
                  refine RD.nil (hK22 _ _ (T.conseq (fr' := [(1, _), (4, _), (11, _), (12, _), (13, _), (15, _)]) ?_ ⟨rfl, rfl, rfl, rfl, rfl, rfl, trivial⟩ (fun _ s => s)))
                  refine T.seq fun K23 hK23 => ?_
                  refine T.drawn (fun _ => True) [(0, .pu), (1, .rd), (2, .pu), (3, .pu), (4, .rd), (5, .pu), (6, .pu), (7, .rd), (8, .so), (9, .pu), (10, .pu), (11, .pu), (12, .pu), (13, .pu)] mixed (ClE.sat _ _) (by kernel_rfl) ?_
                  refine RD.p (fun _ _ => trivial) rfl (Pu.fieldAddr fd28_0 rfl) rfl rfl ?_
                  refine RD.q (fun _ _ => trivial) rfl (Qt.ldBA (us := [_, _, _]) 0 ty24 rfl rfl rfl rfl) rfl rfl ?_
                  refine RD.p (fun _ _ => trivial) rfl (Pu.move rfl) rfl rfl ?_
                  refine RD.p (fun _ _ => trivial) rfl (Pu.fieldAddr fd28_1 rfl) rfl rfl ?_
                  refine RD.q (fun _ _ => trivial) rfl (Qt.ldB 0 ty25 rfl rfl rfl) rfl rfl ?_
                  refine RD.p (fun _ _ => trivial) rfl (Pu.move rfl) rfl rfl ?_
                  obtain ⟨g38, H⟩ := gdE H
                  refine RD.p (fun _ _ => trivial) rfl (Pu.indexSl sl25 rfl rfl g38) rfl rfl ?_
                  refine RD.q (fun _ _ => trivial) rfl (Qt.ldW (α := Bld) (cs := [_, _, _, _, _, _]) (Rd.base h1) ty35 rfl rfl g38 rfl (by rintro _ _ rfl; rfl)) rfl rfl ?_
                  obtain ⟨x39, hx39, H⟩ := bindE H
                  refine RD.solid rfl (.inl rfl) rfl rfl (Sd.callN ent18 rfl (fun w s => build_Add_walk a0_p.g x33.1 (gi a0_p.l v27) w ((Rd.base h0) w s) ((Rd.ofRowN 3 rfl) w s) hx39)) (fun _ => ClE.sat _ _) (fun _ _ _ => trivial) (fun _ _ _ s => s.drop1) fun q40 => ?_
                  refine RD.p (fun _ _ => trivial) rfl (Pu.move rfl) rfl rfl ?_
                  refine RD.p (fun _ _ => trivial) rfl (Pu.extract rfl rfl) rfl rfl ?_
                  refine RD.p (fun _ _ => trivial) rfl (Pu.extract rfl rfl) rfl rfl ?_
                  refine RD.p (fun _ _ => trivial) rfl (Pu.assign rfl) rfl rfl ?_
                  refine RD.p (fun _ _ => trivial) rfl (Pu.assign rfl) rfl rfl ?_
                  refine RD.nil (hK23 _ _ (T.conseq (fr' := [(1, _), (4, _), (11, _), (13, _), (15, _), (16, _), (17, _)]) ?_ ⟨rfl, rfl, rfl, rfl, rfl, rfl, rfl, trivial⟩ (fun _ s => s)))
                  refine T.seq fun K24 hK24 => ?_
                  refine T.region ?_
                  refine RS.p (Pu.move rfl) rfl rfl ?_
                  obtain ⟨x41, hx41, H⟩ := bindE H
                  refine RS.q (Qt.call ent19 rfl fun w s => thronglaw8_num_walk x33.2 w  hx41) rfl rfl ?_
                  refine RS.p (Pu.bin rfl rfl rfl) rfl rfl ?_
                  refine RS.p (Pu.move rfl) rfl rfl ?_
                  refine RS.joinB H 4 165 (fun b44 => .bool b44) [(1, _), (4, _), (11, _), (16, _), (17, _)] ⟨rfl, rfl, rfl, rfl, rfl, trivial⟩ ?_ ?_
                  · intro b44 H
                    refine RS.p (Pu.move rfl) rfl rfl ?_
                    refine RS.joinB H 4 170 (fun b47 => .bool b47) [(1, _), (4, _), (11, _), (16, _)] ⟨rfl, rfl, rfl, rfl, trivial⟩ ?_ ?_
                    · intro b47 H
                      refine RS.p (Pu.move rfl) rfl rfl ?_
                      refine RS.joinB H 6 177 (fun b50 => .bool b50) [(1, _), (4, _), (11, _)] ⟨rfl, rfl, rfl, trivial⟩ ?_ ?_
                      · intro b50 H
                        refine RS.nil (hK24 _ _ ?_)
                        refine T.cond rfl (fun hc51 => ?_) (fun hc51 => ?_)
                        · have H := ifT hc51 H
                          refine T.conseq (fr' := []) ?_ trivial (fun _ s => s)
                          refine T.seq fun K25 hK25 => ?_
                          refine T.region ?_
                          refine RS.p (Pu.assign rfl) rfl rfl ?_
                          refine RS.nil (hK25 _ _ ?_)
                          obtain rfl := hd21 _ H
                          have H := HX21
                          obtain rfl := Option.some.inj H
                          refine T.retTo (by with_reducible ((repeat (first | apply RetTo.seq | apply RetTo.blk)); exact RetTo.refl _)) (Cont.ret1 rfl rfl fun w' s => ?_)
                          exact ⟨rfl, s.ext⟩
                        · have H := ifB hc51 H
                          refine T.skip (hK20 _ _ ?_)
                          refine T.region ?_
                          refine RS.p (Pu.move rfl) rfl rfl ?_
                          obtain ⟨g52, H⟩ := gdE H
                          refine RS.p (Pu.addS rfl rfl g52) rfl rfl ?_
                          refine RS.p (Pu.assign rfl) rfl rfl ?_
                          refine RS.nil (hL21 _ _ (v27 + 1) () H ⟨rfl, rfl, trivial⟩ ⟨rfl, trivial⟩ (fun w s => s.pick [0, 1, 2] (by decide) rfl))
                      · intro z53 H hJ49
                        refine RS.split 171 rfl (fun hc48 => ?_) (fun hc48 => ?_)
                        · have H := ifT hc48 H
                          refine RS.no rfl rfl ?_
                          refine RS.no rfl rfl ?_
                          refine RS.no rfl rfl ?_
                          refine RS.no rfl rfl ?_
                          refine RS.no rfl rfl ?_
                          refine RS.p (Pu.pickT rfl rfl) rfl rfl ?_
                          obtain rfl := Option.some.inj H
                          exact hJ49 _ _ ⟨rfl, rfl, rfl, rfl, trivial⟩ (fun w s => s)
                        · have H := ifB hc48 H
                          refine RS.p (Pu.move rfl) rfl rfl ?_
                          refine RS.p (Pu.fieldAddr fd28_1 rfl) rfl rfl ?_
                          refine RS.q (Qt.ldB 0 ty25 rfl rfl rfl) rfl rfl ?_
                          obtain ⟨x54, hx54, H⟩ := bindE H
                          refine RS.q (Qt.call ent25 rfl fun w s => throngref0_EqBuildings_walk x39.1 a0_p.l w ((Rd.ofRowN 5 rfl) w s) ((Rd.base h1) w s) hx54) rfl rfl ?_
                          refine RS.p (Pu.not rfl) rfl rfl ?_
                          refine RS.p (Pu.pickF rfl rfl) rfl rfl ?_
                          obtain rfl := Option.some.inj H
                          exact hJ49 _ _ ⟨rfl, rfl, rfl, rfl, trivial⟩ (fun w s => s)
                    · intro z55 H hJ46
                      refine RS.split 166 rfl (fun hc45 => ?_) (fun hc45 => ?_)
                      · have H := ifT hc45 H
                        refine RS.no rfl rfl ?_
                        refine RS.no rfl rfl ?_
                        refine RS.no rfl rfl ?_
                        refine RS.p (Pu.pickT rfl rfl) rfl rfl ?_
                        obtain rfl := Option.some.inj H
                        exact hJ46 _ _ ⟨rfl, rfl, rfl, rfl, rfl, trivial⟩ (fun w s => s)
                      · have H := ifB hc45 H
                        refine RS.p (Pu.move rfl) rfl rfl ?_
                        obtain ⟨x56, hx56, H⟩ := bindE H
                        refine RS.q (Qt.call ent19 rfl fun w s => thronglaw8_num_walk x39.2 w  hx56) rfl rfl ?_
                        refine RS.p (Pu.bin rfl rfl rfl) rfl rfl ?_
                        refine RS.p (Pu.pickF rfl rfl) rfl rfl ?_
                        obtain rfl := Option.some.inj H
                        exact hJ46 _ _ ⟨rfl, rfl, rfl, rfl, rfl, trivial⟩ (fun w s => s)
                  · intro z57 H hJ43
                    refine RS.splitP 161 rfl (fun hc42 => ?_) (fun hc42 => ?_)
                    · have H := ifT hc42 H
                      refine RS.no rfl rfl ?_
                      refine RS.no rfl rfl ?_
                      refine RS.no rfl rfl ?_
                      refine RS.p (Pu.pickT rfl rfl) rfl rfl ?_
                      obtain rfl := Option.some.inj H
                      exact hJ43 _ _ ⟨rfl, rfl, rfl, rfl, rfl, rfl, trivial⟩ (fun w s => s)
                    · have H := ifF hc42 H
                      refine RS.p (Pu.move rfl) rfl rfl ?_
                      obtain ⟨x58, hx58, H⟩ := bindE H
                      refine RS.q (Qt.call ent19 rfl fun w s => thronglaw8_num_walk x36.2 w  hx58) rfl rfl ?_
                      refine RS.p (Pu.bin rfl rfl rfl) rfl rfl ?_
                      refine RS.p (Pu.pickF rfl rfl) rfl rfl ?_
                      obtain rfl := Option.some.inj H
                      exact hJ43 _ _ ⟨rfl, rfl, rfl, rfl, rfl, rfl, trivial⟩ (fun w s => s)
                · have H := ifF hc29 H
                  obtain rfl := hd21 _ H
                  refine T.exitTo (by with_reducible (repeat (first | exact ExTo.here | exact ExTo.hereN | exact ExTo.deep (by repeat (first | exact NmTo.seq | apply NmTo.blk)) | apply ExTo.seq | refine ExTo.past (by decide) ?_))) (hJ21 _ _ () () HX21 ⟨rfl, trivial⟩ trivial (fun w s => s))
            · intro z19 hz19 HX19 hJ19
              refine T.block ?_
              refine T.loopA (γ := Unit) hz19 [(1, _), (8, _)] (fun (v59, v60) _ => [(4, .int .i64 v59), (10, .int .i64 v60)]) (fun (v59, v60) _ => Sat w [blk b1 [.int .i64 a0_p.g.w, .int .i64 a0_p.g.h, .slice p0 a0_p.g.tiles.length c0, .slice p1 a0_p.l.length c1, .slice p2 a0_p.more.length c2, .slice p3 a0_p.ids.length c3] 28, row nilH 35 (rowV q11 v10.length) v10, row nilH 4 (rowV q13 x12.1.length) x12.1]) () ⟨rfl, rfl, trivial⟩ ⟨rfl, rfl, trivial⟩ (fun w s => s) ?_
              rintro ⟨v59, v60⟩ ⟨⟩ y61 H hd19 KL19 hL19
              try dsimp only [Ex.then] at H
              refine T.conseq (fr' := [(4, _), (10, _), (1, _), (8, _)]) ?_ ⟨rfl, rfl, rfl, rfl, trivial⟩ (fun _ s => s)
              refine T.seq fun K26 hK26 => ?_
              refine T.seq fun K27 hK27 => ?_
              refine T.region ?_
              refine RS.p (Pu.move rfl) rfl rfl ?_
              refine RS.p (Pu.move rfl) rfl rfl ?_
              refine RS.p (Pu.lenSl sl45 rfl) rfl rfl ?_
              refine RS.p (Pu.bin rfl rfl rfl) rfl rfl ?_
              refine RS.nil (hK27 _ _ ?_)
              refine T.condP rfl (fun hc62 => ?_) (fun hc62 => ?_)
              · have H := ifT hc62 H
                refine T.skip (hK26 _ _ (T.conseq (fr' := [(1, _), (4, _), (8, _), (10, _)]) ?_ ⟨rfl, rfl, rfl, rfl, trivial⟩ (fun _ s => s)))
                refine T.seq fun K28 hK28 => ?_
                refine T.block ?_
                refine T.seq fun K29 hK29 => ?_
                refine T.region ?_
                refine RS.p (Pu.move rfl) rfl rfl ?_
                refine RS.p (Pu.move rfl) rfl rfl ?_
                obtain ⟨g63, H⟩ := gdE H
                refine RS.know (p := ∃ g cap, q13 = (some g, cap)) (fun w s => s.row_some (k := 2) rfl (pos_of g63)) ?_
                rintro ⟨gg64, cc65, rfl⟩
                refine RS.p (Pu.indexSl sl45 rfl rfl g63) rfl rfl ?_
                refine RS.q (Qt.ld0 (α := Bool) (Rd.ofRowN 2 rfl) ty4 rfl rfl g63 (by rintro _ _ rfl; rfl)) rfl rfl ?_
                refine RS.nil (hK29 _ _ ?_)
                refine T.cond rfl (fun hc66 => ?_) (fun hc66 => ?_)
                · have H := ifT hc66 H
                  refine T.conseq (fr' := [(1, _), (4, _), (8, _), (10, _)]) ?_ ⟨rfl, rfl, rfl, rfl, trivial⟩ (fun _ s => s)
                  refine T.seq fun K30 hK30 => ?_
                  refine T.region ?_
                  refine RS.p (Pu.move rfl) rfl rfl ?_
                  obtain ⟨g67, H⟩ := gdE H
                  refine RS.p (Pu.subS rfl rfl g67) rfl rfl ?_
                  refine RS.p (Pu.assign rfl) rfl rfl ?_
                  refine RS.nil (hK30 _ _ ?_)
                  refine T.seq fun K31 hK31 => ?_
                  refine T.region ?_
                  refine RS.p (Pu.fieldAddr fd28_0 rfl) rfl rfl ?_
                  refine RS.p (Pu.fieldAddr fd24_2 rfl) rfl rfl ?_
                  refine RS.q (Qt.ldB 0 ty22 rfl rfl rfl) rfl rfl ?_
                  refine RS.p (Pu.move rfl) rfl rfl ?_
                  obtain ⟨g68, H⟩ := gdE H
                  obtain ⟨bl69, ol70, rfl⟩ := R_ptr h0 (ne_of_pos (pos_of g68))
                  refine RS.p (Pu.indexSl sl22 rfl rfl g68) rfl rfl ?_
                  refine RS.q (Qt.ld0 (α := UInt8) (Rd.base h0) ty5 rfl rfl g68 (by rintro _ _ rfl; rfl)) rfl rfl ?_
                  refine RS.p (Pu.bin rfl rfl rfl) rfl rfl ?_
                  refine RS.p (Pu.move rfl) rfl rfl ?_
                  obtain ⟨g73, H⟩ := gdE H
                  refine RS.joinV 8 113 (.bool (decide ((¬ ((gi a0_p.g.tiles v60).toNat : Int) = 0) ∧ (¬ ((gi a0_p.g.tiles v60).toNat : Int) = 1)))) [(1, _), (4, _), (8, _), (10, _)] ⟨rfl, rfl, rfl, rfl, trivial⟩ ?_ ?_
                  · refine RS.nil (hK31 _ _ ?_)
                    refine T.condP rfl (fun hc74 => ?_) (fun hc74 => ?_)
                    · have H := ifT hc74 H
                      refine T.conseq (fr' := []) ?_ trivial (fun _ s => s)
                      refine T.seq fun K32 hK32 => ?_
                      refine T.region ?_
                      refine RS.p (Pu.assign rfl) rfl rfl ?_
                      refine RS.nil (hK32 _ _ ?_)
                      obtain rfl := hd19 _ H
                      have H := HX19
                      obtain rfl := Option.some.inj H
                      refine T.retTo (by with_reducible ((repeat (first | apply RetTo.seq | apply RetTo.blk)); exact RetTo.refl _)) (Cont.ret1 rfl rfl fun w' s => ?_)
                      exact ⟨rfl, s.ext⟩
                    · have H := ifF hc74 H
                      refine T.skip (hK28 _ _ ?_)
                      refine T.region ?_
                      refine RS.p (Pu.move rfl) rfl rfl ?_
                      obtain ⟨g75, H⟩ := gdE H
                      refine RS.p (Pu.addS rfl rfl g75) rfl rfl ?_
                      refine RS.p (Pu.assign rfl) rfl rfl ?_
                      refine RS.nil (hL19 _ _ ((v59 - 1), (v60 + 1)) () H ⟨rfl, rfl, trivial⟩ ⟨rfl, rfl, trivial⟩ (fun w s => s))
                  · intro hJ72
                    refine RS.splitP 105 rfl (fun hc71 => ?_) (fun hc71 => ?_)
                    · refine RS.p (Pu.fieldAddr fd28_0 rfl) rfl rfl ?_
                      refine RS.p (Pu.fieldAddr fd24_2 rfl) rfl rfl ?_
                      refine RS.q (Qt.ldB 0 ty22 rfl rfl rfl) rfl rfl ?_
                      refine RS.p (Pu.move rfl) rfl rfl ?_
                      refine RS.p (Pu.indexSl sl22 rfl rfl (g73 hc71)) rfl rfl ?_
                      refine RS.q (Qt.ld0 (α := UInt8) (Rd.base h0) ty5 rfl rfl (g73 hc71) (by rintro _ _ rfl; rfl)) rfl rfl ?_
                      refine RS.p (Pu.bin rfl rfl rfl) rfl rfl ?_
                      refine RS.p (Pu.pickT rfl rfl) rfl rfl ?_
                      exact hJ72 _ _ ⟨dAndT hc71, rfl, rfl, rfl, rfl, trivial⟩ (fun w s => s)
                    · refine RS.no rfl rfl ?_
                      refine RS.no rfl rfl ?_
                      refine RS.no rfl rfl ?_
                      refine RS.no rfl rfl ?_
                      refine RS.no rfl rfl ?_
                      refine RS.no rfl rfl ?_
                      refine RS.no rfl rfl ?_
                      refine RS.p (Pu.pickF rfl rfl) rfl rfl ?_
                      exact hJ72 _ _ ⟨dAndF hc71, rfl, rfl, rfl, rfl, trivial⟩ (fun w s => s)
                · have H := ifB hc66 H
                  refine T.skip (hK28 _ _ (T.conseq (fr' := [(1, _), (4, _), (8, _), (10, _)]) ?_ ⟨rfl, rfl, rfl, rfl, trivial⟩ (fun _ s => s)))
                  refine T.region ?_
                  refine RS.p (Pu.move rfl) rfl rfl ?_
                  obtain ⟨g76, H⟩ := gdE H
                  refine RS.p (Pu.addS rfl rfl g76) rfl rfl ?_
                  refine RS.p (Pu.assign rfl) rfl rfl ?_
                  refine RS.nil (hL19 _ _ (v59, (v60 + 1)) () H ⟨rfl, rfl, trivial⟩ ⟨rfl, rfl, trivial⟩ (fun w s => s))
              · have H := ifF hc62 H
                obtain rfl := hd19 _ H
                refine T.exitTo (by with_reducible (repeat (first | exact ExTo.here | exact ExTo.hereN | exact ExTo.deep (by repeat (first | exact NmTo.seq | apply NmTo.blk)) | apply ExTo.seq | refine ExTo.past (by decide) ?_))) (hJ19 _ _ v59 () HX19 ⟨rfl, trivial⟩ ⟨rfl, trivial⟩ (fun w s => s))
        · intro z77 H hJ16
          refine RS.splitP 79 rfl (fun hc15 => ?_) (fun hc15 => ?_)
          · have H := ifT hc15 H
            refine RS.no rfl rfl ?_
            refine RS.no rfl rfl ?_
            refine RS.no rfl rfl ?_
            refine RS.no rfl rfl ?_
            refine RS.no rfl rfl ?_
            refine RS.p (Pu.pickT rfl rfl) rfl rfl ?_
            obtain rfl := Option.some.inj H
            exact hJ16 _ _ ⟨rfl, rfl, rfl, rfl, trivial⟩ (fun w s => s)
          · have H := ifF hc15 H
            refine RS.p (Pu.move rfl) rfl rfl ?_
            refine RS.p (Pu.fieldAddr fd28_1 rfl) rfl rfl ?_
            refine RS.q (Qt.ldB 0 ty25 rfl rfl rfl) rfl rfl ?_
            obtain ⟨x78, hx78, H⟩ := bindE H
            refine RS.q (Qt.call ent25 rfl fun w s => throngref0_EqBuildings_walk v10 a0_p.l w ((Rd.ofRowN 1 rfl) w s) ((Rd.base h1) w s) hx78) rfl rfl ?_
            refine RS.p (Pu.not rfl) rfl rfl ?_
            refine RS.p (Pu.pickF rfl rfl) rfl rfl ?_
            obtain rfl := Option.some.inj H
            exact hJ16 _ _ ⟨rfl, rfl, rfl, rfl, trivial⟩ (fun w s => s)
      · intro z8 hz8 HX8 hJ8
        refine T.block ?_
        refine T.loopA (γ := (Option Nat × Nat)) hz8 [(1, _)] (fun (l79, v81, v82) q80 => [(3, rowV q80 l79.length), (4, .int .i64 v81), (5, .int .i64 v82)]) (fun (l79, v81, v82) q80 => Sat w [blk b1 [.int .i64 a0_p.g.w, .int .i64 a0_p.g.h, .slice p0 a0_p.g.tiles.length c0, .slice p1 a0_p.l.length c1, .slice p2 a0_p.more.length c2, .slice p3 a0_p.ids.length c3] 28, row nilH 35 (rowV q80 l79.length) l79]) (none, 0) ⟨rfl, trivial⟩ ⟨rfl, rfl, rfl, trivial⟩ (fun w s => (s.nilRow (α := Bld) 35).pick [0, 1] (by decide) rfl) ?_
        rintro ⟨l79, v81, v82⟩ q80 y83 H hd8 KL8 hL8
        try dsimp only [Ex.then] at H
        refine T.conseq (fr' := [(3, _), (4, _), (5, _), (1, _)]) ?_ ⟨rfl, rfl, rfl, rfl, trivial⟩ (fun _ s => s)
        refine T.seq fun K33 hK33 => ?_
        refine T.seq fun K34 hK34 => ?_
        refine T.region ?_
        refine RS.p (Pu.move rfl) rfl rfl ?_
        refine RS.p (Pu.bin rfl rfl rfl) rfl rfl ?_
        refine RS.nil (hK34 _ _ ?_)
        refine T.condP rfl (fun hc84 => ?_) (fun hc84 => ?_)
        · have H := ifT hc84 H
          refine T.skip (hK33 _ _ ?_)
          refine T.seq fun K35 hK35 => ?_
          refine T.block ?_
          refine T.seq fun K36 hK36 => ?_
          refine T.drawn (fun _ => True) [(0, .pu), (1, .rd), (2, .pu), (3, .pu), (4, .rd), (5, .pu), (6, .pu), (7, .rd), (8, .so), (9, .pu), (10, .pu), (11, .pu), (12, .pu), (13, .pu)] mixed (ClE.sat _ _) (by kernel_rfl) ?_
          refine RD.p (fun _ _ => trivial) rfl (Pu.fieldAddr fd28_0 rfl) rfl rfl ?_
          refine RD.q (fun _ _ => trivial) rfl (Qt.ldBA (us := [_, _, _]) 0 ty24 rfl rfl rfl rfl) rfl rfl ?_
          refine RD.p (fun _ _ => trivial) rfl (Pu.move rfl) rfl rfl ?_
          refine RD.p (fun _ _ => trivial) rfl (Pu.fieldAddr fd28_1 rfl) rfl rfl ?_
          refine RD.q (fun _ _ => trivial) rfl (Qt.ldB 0 ty25 rfl rfl rfl) rfl rfl ?_
          refine RD.p (fun _ _ => trivial) rfl (Pu.move rfl) rfl rfl ?_
          obtain ⟨g85, H⟩ := gdE H
          obtain ⟨bl86, ol87, rfl⟩ := R_ptr h1 (ne_of_pos (pos_of g85))
          refine RD.p (fun _ _ => trivial) rfl (Pu.indexSl sl25 rfl rfl g85) rfl rfl ?_
          refine RD.q (fun _ _ => trivial) rfl (Qt.ldW (α := Bld) (cs := [_, _, _, _, _, _]) (Rd.base h1) ty35 rfl rfl g85 rfl (by rintro _ _ rfl; rfl)) rfl rfl ?_
          obtain ⟨x88, hx88, H⟩ := bindE H
          refine RD.solid rfl (.inl rfl) rfl rfl (Sd.callN ent18 rfl (fun w s => build_Add_walk a0_p.g l79 (gi a0_p.l v82) w ((Rd.base h0) w s) ((Rd.ofRowN 1 rfl) w s) hx88)) (fun _ => ClE.sat _ _) (fun _ _ _ => trivial) (fun _ _ _ s => s.drop1) fun q89 => ?_
          refine RD.p (fun _ _ => trivial) rfl (Pu.move rfl) rfl rfl ?_
          refine RD.p (fun _ _ => trivial) rfl (Pu.extract rfl rfl) rfl rfl ?_
          refine RD.p (fun _ _ => trivial) rfl (Pu.extract rfl rfl) rfl rfl ?_
          refine RD.p (fun _ _ => trivial) rfl (Pu.assign rfl) rfl rfl ?_
          refine RD.p (fun _ _ => trivial) rfl (Pu.assign rfl) rfl rfl ?_
          refine RD.nil (hK36 _ _ (T.conseq (fr' := [(1, _), (4, _), (5, _), (6, _), (7, _)]) ?_ ⟨rfl, rfl, rfl, rfl, rfl, trivial⟩ (fun _ s => s)))
          refine T.seq fun K37 hK37 => ?_
          refine T.seq fun K38 hK38 => ?_
          refine T.region ?_
          refine RS.p (Pu.move rfl) rfl rfl ?_
          obtain ⟨x90, hx90, H⟩ := bindE H
          refine RS.q (Qt.call ent19 rfl fun w s => thronglaw8_num_walk x88.2 w  hx90) rfl rfl ?_
          refine RS.p (Pu.bin rfl rfl rfl) rfl rfl ?_
          refine RS.nil (hK38 _ _ ?_)
          refine T.condP rfl (fun hc91 => ?_) (fun hc91 => ?_)
          · have H := ifT hc91 H
            refine T.conseq (fr' := []) ?_ trivial (fun _ s => s)
            refine T.seq fun K39 hK39 => ?_
            refine T.region ?_
            refine RS.p (Pu.assign rfl) rfl rfl ?_
            refine RS.nil (hK39 _ _ ?_)
            obtain rfl := hd8 _ H
            have H := HX8
            obtain rfl := Option.some.inj H
            refine T.retTo (by with_reducible ((repeat (first | apply RetTo.seq | apply RetTo.blk)); exact RetTo.refl _)) (Cont.ret1 rfl rfl fun w' s => ?_)
            exact ⟨rfl, s.ext⟩
          · have H := ifF hc91 H
            refine T.skip (hK37 _ _ (T.conseq (fr' := [(1, _), (4, _), (5, _), (6, _)]) ?_ ⟨rfl, rfl, rfl, rfl, trivial⟩ (fun _ s => s)))
            refine T.seq fun K40 hK40 => ?_
            refine T.region ?_
            refine RS.p (Pu.move rfl) rfl rfl ?_
            refine RS.p (Pu.assign rfl) rfl rfl ?_
            refine RS.nil (hK40 _ _ ?_)
            refine T.drawn (fun _ => True) [(0, .pu), (1, .pu), (2, .rd), (3, .pu), (4, .pu), (5, .pu), (6, .rd), (7, .pu), (8, .rd), (9, .pu), (10, .pu), (11, .pu), (12, .rd), (13, .pu), (14, .pu), (15, .pu)] mixed (ClE.sat _ _) (by kernel_rfl) ?_
            refine RD.p (fun _ _ => trivial) rfl (Pu.move rfl) rfl rfl ?_
            refine RD.p (fun _ _ => trivial) rfl (Pu.fieldAddr fd28_1 rfl) rfl rfl ?_
            refine RD.q (fun _ _ => trivial) rfl (Qt.ldB 0 ty25 rfl rfl rfl) rfl rfl ?_
            refine RD.p (fun _ _ => trivial) rfl (Pu.move rfl) rfl rfl ?_
            obtain ⟨g92, H⟩ := gdE H
            refine RD.p (fun _ _ => trivial) rfl (Pu.indexSl sl25 rfl rfl g92) rfl rfl ?_
            refine RD.p (fun _ _ => trivial) rfl (Pu.fieldAddr fd35_4 rfl) rfl rfl ?_
            refine RD.q (fun _ _ => trivial) rfl (Qt.ldF (α := Bld) (Rd.base h1) ty3 rfl rfl g92 (by rintro _ _ rfl; rfl)) rfl rfl ?_
            refine RD.p (fun _ _ => trivial) rfl (Pu.fieldAddr fd28_1 rfl) rfl rfl ?_
            refine RD.q (fun _ _ => trivial) rfl (Qt.ldB 0 ty25 rfl rfl rfl) rfl rfl ?_
            refine RD.p (fun _ _ => trivial) rfl (Pu.move rfl) rfl rfl ?_
            obtain ⟨g93, H⟩ := gdE H
            refine RD.p (fun _ _ => trivial) rfl (Pu.indexSl sl25 rfl rfl g93) rfl rfl ?_
            refine RD.p (fun _ _ => trivial) rfl (Pu.fieldAddr fd35_5 rfl) rfl rfl ?_
            refine RD.q (fun _ _ => trivial) rfl (Qt.ldF (α := Bld) (Rd.base h1) ty3 rfl rfl g93 (by rintro _ _ rfl; rfl)) rfl rfl ?_
            obtain ⟨g94, H⟩ := gdE H
            refine RD.p (fun _ _ => trivial) rfl (Pu.mulS rfl rfl g94) rfl rfl ?_
            obtain ⟨g95, H⟩ := gdE H
            refine RD.p (fun _ _ => trivial) rfl (Pu.addS rfl rfl g95) rfl rfl ?_
            refine RD.p (fun _ _ => trivial) rfl (Pu.assign rfl) rfl rfl ?_
            refine RD.nil (hK35 _ _ (T.conseq (fr' := [(1, _), (3, _), (4, _), (5, _)]) ?_ ⟨rfl, rfl, rfl, rfl, trivial⟩ (fun _ s => s)))
            refine T.region ?_
            refine RS.p (Pu.move rfl) rfl rfl ?_
            obtain ⟨g96, H⟩ := gdE H
            refine RS.p (Pu.subS rfl rfl g96) rfl rfl ?_
            refine RS.p (Pu.assign rfl) rfl rfl ?_
            refine RS.nil (hL8 _ _ (x88.1, (v81 + (((gi a0_p.l v82).w) * ((gi a0_p.l v82).h))), (v82 - 1)) q89 H ⟨rfl, trivial⟩ ⟨rfl, rfl, rfl, trivial⟩ (fun w s => s.pick [0, 2] (by decide) rfl))
        · have H := ifF hc84 H
          obtain rfl := hd8 _ H
          refine T.exitTo (by with_reducible (repeat (first | exact ExTo.here | exact ExTo.hereN | exact ExTo.deep (by repeat (first | exact NmTo.seq | apply NmTo.blk)) | apply ExTo.seq | refine ExTo.past (by decide) ?_))) (hJ8 _ _ (v81, l79) q80 HX8 ⟨rfl, trivial⟩ ⟨rfl, rfl, trivial⟩ (fun w s => s))
  · intro z97 H hJ4
    refine RS.split 20 rfl (fun hc3 => ?_) (fun hc3 => ?_)
    · have H := ifT hc3 H
      refine RS.no rfl rfl ?_
      refine RS.no rfl rfl ?_
      refine RS.no rfl rfl ?_
      refine RS.no rfl rfl ?_
      refine RS.no rfl rfl ?_
      refine RS.no rfl rfl ?_
      refine RS.no rfl rfl ?_
      refine RS.p (Pu.pickT rfl rfl) rfl rfl ?_
      obtain rfl := Option.some.inj H
      exact hJ4 _ _ ⟨rfl, rfl, trivial⟩ (fun w s => s)
    · have H := ifB hc3 H
      refine RS.p (Pu.fieldAddr fd28_0 rfl) rfl rfl ?_
      refine RS.q (Qt.ldBA (us := [_, _, _]) 0 ty24 rfl rfl rfl rfl) rfl rfl ?_
      refine RS.p (Pu.fieldAddr fd28_1 rfl) rfl rfl ?_
      refine RS.q (Qt.ldB 0 ty25 rfl rfl rfl) rfl rfl ?_
      obtain ⟨x98, hx98, H⟩ := bindE H
      refine RS.q (Qt.call ent24 rfl fun w s => build_Check_walk a0_p.g a0_p.l w ((Rd.base h0) w s) ((Rd.base h1) w s) hx98) rfl rfl ?_
      obtain ⟨x99, hx99, H⟩ := bindE H
      refine RS.q (Qt.call ent19 rfl fun w s => thronglaw8_num_walk x98 w  hx99) rfl rfl ?_
      refine RS.p (Pu.bin rfl rfl rfl) rfl rfl ?_
      refine RS.p (Pu.pickF rfl rfl) rfl rfl ?_
      obtain rfl := Option.some.inj H
      exact hJ4 _ _ ⟨rfl, rfl, trivial⟩ (fun w s => s)
end Go.Proofs.Ytdaopgoaghhbpaa
