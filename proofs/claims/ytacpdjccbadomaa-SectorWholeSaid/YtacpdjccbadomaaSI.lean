/-
  Walks of the statements of the sectors.
-/
import Derived.Test.YtacpdjccbadomaaRows
import Derived.Test.YtacpdjccbadomaaSH
set_option linter.unusedVariables false
set_option linter.unusedSimpArgs false
set_option maxRecDepth 20000
set_option maxHeartbeats 1000000
namespace Go.Proofs.Ytacpdjccbadomaa
open Go.Vg
open Enc (R)
open Sp
theorem ent23 : Ent Try.prog 23 := ⟨_, _, Try.func23, by kernel_rfl, rfl⟩
theorem ent24 : Ent Try.prog 24 := ⟨_, _, Try.func24, by kernel_rfl, rfl⟩
theorem ent26 : Ent Try.prog 26 := ⟨_, _, Try.func26, by kernel_rfl, rfl⟩
theorem ent29 : Ent Try.prog 29 := ⟨_, _, Try.func29, by kernel_rfl, rfl⟩
theorem ent30 : Ent Try.prog 30 := ⟨_, _, Try.func30, by kernel_rfl, rfl⟩
theorem ent31 : Ent Try.prog 31 := ⟨_, _, Try.func31, by kernel_rfl, rfl⟩
theorem ent33 : Ent Try.prog 33 := ⟨_, _, Try.func33, by kernel_rfl, rfl⟩
theorem ent36 : Ent Try.prog 36 := ⟨_, _, Try.func36, by kernel_rfl, rfl⟩
theorem ent38 : Ent Try.prog 38 := ⟨_, _, Try.func38, by kernel_rfl, rfl⟩
theorem ent39 : Ent Try.prog 39 := ⟨_, _, Try.func39, by kernel_rfl, rfl⟩
theorem ty41 : tySz Try.prog 41 = some (5, true) := by kernel_rfl
theorem thronglaw10_SectorNumbers_walk (a0_p : Ask) (w : World) {v0 v1 v2 : Value} (h0 : R (hpOf w) a0_p.Free [v0]) (h1 : R (hpOf w) a0_p.Ts [v1]) (h2 : R (hpOf w) a0_p.Parts [v2]) {r : Bool} (H : thronglaw10_SectorNumbers a0_p = some r) : Calls Try.prog 7 #[.agg #[.int .i64 a0_p.W, .int .i64 a0_p.H, v0, v1, v2]] w fun e w' => e = .returned (.bool r) ∧ Ext w w' := by
  have hm0 := R_max h0
  obtain ⟨p0, c0, rfl⟩ := R_form h0
  have hm1 := R_max h1
  obtain ⟨p1, c1, rfl⟩ := R_form h1
  have hm2 := R_max h2
  obtain ⟨p2, c2, rfl⟩ := R_form h2
  unfold thronglaw10_SectorNumbers at H
  refine T.enter (args := [_]) (S := Sat w []) Try.func7 rfl rfl (Sat.start w) ?_
  refine T.seq fun K1 hK1 => ?_
  refine T.region ?_
  refine RS.solid (Sd.box (cs := [_, _, _, _, _]) rfl rfl) rfl rfl fun b1 => ?_
  refine RS.p (Pu.assign rfl) rfl rfl ?_
  refine RS.nil (hK1 _ _ ?_)
  refine T.seq fun K2 hK2 => ?_
  refine T.seq fun K3 hK3 => ?_
  refine T.region ?_
  refine RS.q (Qt.ldBA (us := [_, _, _, _, _]) 0 ty41 rfl rfl rfl rfl) rfl rfl ?_
  obtain ⟨x2, hx2, H⟩ := bindE H
  refine RS.q (Qt.call ent23 rfl fun w s => thronglaw10_heavy_walk a0_p w ((Rd.base h0) w s) ((Rd.base h1) w s) ((Rd.base h2) w s) hx2) rfl rfl ?_
  refine RS.nil (hK3 _ _ ?_)
  refine T.cond rfl (fun hc3 => ?_) (fun hc3 => ?_)
  · have H := ifT hc3 H
    refine T.conseq (fr' := []) ?_ trivial (fun _ s => s)
    refine T.seq fun K4 hK4 => ?_
    refine T.region ?_
    refine RS.p (Pu.assign rfl) rfl rfl ?_
    refine RS.nil (hK4 _ _ ?_)
    obtain rfl := Option.some.inj H
    refine T.retTo (by with_reducible ((repeat (first | apply RetTo.seq | apply RetTo.blk)); exact RetTo.refl _)) (Cont.ret1 rfl rfl fun w' s => ?_)
    exact ⟨rfl, s.ext⟩
  · have H := ifB hc3 H
    refine T.skip (hK2 _ _ (T.conseq (fr' := [(1, _)]) ?_ ⟨rfl, trivial⟩ (fun _ s => s)))
    refine T.seq fun K5 hK5 => ?_
    refine T.region ?_
    refine RS.p (Pu.fieldAddr fd41_0 rfl) rfl rfl ?_
    refine RS.q (Qt.ldB 0 ty3 rfl rfl rfl) rfl rfl ?_
    refine RS.p (Pu.bin rfl rfl rfl) rfl rfl ?_
    refine RS.p (Pu.move rfl) rfl rfl ?_
    refine RS.joinV 4 23 (.bool (decide ((1 ≤ a0_p.W) ∧ (a0_p.W ≤ 128)))) [(1, _)] ⟨rfl, trivial⟩ ?_ ?_
    · refine RS.p (Pu.move rfl) rfl rfl ?_
      refine RS.joinV 4 28 (.bool (decide (((1 ≤ a0_p.W) ∧ (a0_p.W ≤ 128)) ∧ (1 ≤ a0_p.H)))) [(1, _)] ⟨rfl, trivial⟩ ?_ ?_
      · refine RS.p (Pu.move rfl) rfl rfl ?_
        refine RS.joinV 4 33 (.bool (decide ((((1 ≤ a0_p.W) ∧ (a0_p.W ≤ 128)) ∧ (1 ≤ a0_p.H)) ∧ (a0_p.H ≤ 128)))) [(1, _)] ⟨rfl, trivial⟩ ?_ ?_
        · refine RS.p (Pu.assign rfl) rfl rfl ?_
          refine RS.nil (hK5 _ _ ?_)
          refine T.seq fun K6 hK6 => ?_
          refine T.region ?_
          refine RS.p (Pu.assign rfl) rfl rfl ?_
          refine RS.p (Pu.assign rfl) rfl rfl ?_
          refine RS.nil (hK6 _ _ ?_)
          refine T.seq fun K7 hK7 => ?_
          refine T.seq fun K8 hK8 => ?_
          refine T.region ?_
          refine RS.p (Pu.move rfl) rfl rfl ?_
          refine RS.nil (hK8 _ _ ?_)
          refine T.joinE (σ := Int × Int) (γ := Unit) H (fun s => s) [(1, _), (3, _)] ⟨rfl, rfl, trivial⟩ (fun (v11, v12) _ => [(4, .int .i64 v11), (5, .int .i64 v12)]) (fun (v11, v12) _ => Sat w [blk b1 [.int .i64 a0_p.W, .int .i64 a0_p.H, .slice p0 a0_p.Free.length c0, .slice p1 a0_p.Ts.length c1, .slice p2 a0_p.Parts.length c2] 41]) ?_ ?_
          · rintro ⟨v11, v12⟩ ⟨⟩ H
            try dsimp only [Ex.then] at H
            refine Cont.conseq (fr' := [(4, _), (5, _), (1, _), (3, _)]) ?_ ⟨rfl, rfl, rfl, rfl, trivial⟩ (fun _ s => s)
            refine id (hK7 _ _ ?_)
            refine T.seq fun K9 hK9 => ?_
            refine T.region ?_
            refine RS.p (Pu.fieldAddr fd41_0 rfl) rfl rfl ?_
            refine RS.q (Qt.ldB 0 ty3 rfl rfl rfl) rfl rfl ?_
            refine RS.p (Pu.fieldAddr fd41_1 rfl) rfl rfl ?_
            refine RS.q (Qt.ldB 0 ty3 rfl rfl rfl) rfl rfl ?_
            obtain ⟨x13, hx13, H⟩ := bindE H
            refine RS.q (Qt.call ent33 rfl fun w s => sector_Count_walk a0_p.W a0_p.H w  hx13) rfl rfl ?_
            refine RS.p (Pu.move rfl) rfl rfl ?_
            refine RS.p (Pu.extract rfl rfl) rfl rfl ?_
            refine RS.p (Pu.extract rfl rfl) rfl rfl ?_
            refine RS.p (Pu.assign rfl) rfl rfl ?_
            refine RS.p (Pu.assign rfl) rfl rfl ?_
            refine RS.nil (hK9 _ _ (T.conseq (fr' := [(1, _), (3, _), (4, _), (5, _), (6, _), (7, _)]) ?_ ⟨rfl, rfl, rfl, rfl, rfl, rfl, trivial⟩ (fun _ s => s)))
            refine T.seq fun K10 hK10 => ?_
            refine T.seq fun K11 hK11 => ?_
            refine T.region ?_
            refine RS.p (Pu.move rfl) rfl rfl ?_
            obtain ⟨x14, hx14, H⟩ := bindE H
            refine RS.q (Qt.call ent28 rfl fun w s => thronglaw10_num_walk x13.2 w  hx14) rfl rfl ?_
            refine RS.p (Pu.move rfl) rfl rfl ?_
            refine RS.p (Pu.bin rfl rfl rfl) rfl rfl ?_
            refine RS.p (Pu.move rfl) rfl rfl ?_
            refine RS.joinV 4 58 (.bool (decide ((¬ x14 = v11) ∨ (¬ x13.1 = v12)))) [(1, _), (3, _)] ⟨rfl, rfl, trivial⟩ ?_ ?_
            · refine RS.nil (hK11 _ _ ?_)
              refine T.condP rfl (fun hc17 => ?_) (fun hc17 => ?_)
              · have H := ifT hc17 H
                refine T.conseq (fr' := []) ?_ trivial (fun _ s => s)
                refine T.seq fun K12 hK12 => ?_
                refine T.region ?_
                refine RS.p (Pu.assign rfl) rfl rfl ?_
                refine RS.nil (hK12 _ _ ?_)
                obtain rfl := Option.some.inj H
                refine T.retTo (by with_reducible ((repeat (first | apply RetTo.seq | apply RetTo.blk)); exact RetTo.refl _)) (Cont.ret1 rfl rfl fun w' s => ?_)
                exact ⟨rfl, s.ext⟩
              · have H := ifF hc17 H
                refine T.skip (hK10 _ _ ?_)
                refine T.seq fun K13 hK13 => ?_
                refine T.seq fun K14 hK14 => ?_
                refine T.region ?_
                refine RS.p (Pu.assign rfl) rfl rfl ?_
                refine RS.nil (hK14 _ _ ?_)
                refine T.joinE (σ := Unit) (γ := Unit) H Ex.go [] trivial (fun _ _ => []) (fun _ _ => Sat w [blk b1 [.int .i64 a0_p.W, .int .i64 a0_p.H, .slice p0 a0_p.Free.length c0, .slice p1 a0_p.Ts.length c1, .slice p2 a0_p.Parts.length c2] 41]) ?_ ?_
                · rintro ⟨⟩ ⟨⟩ H
                  try dsimp only [Ex.then] at H
                  refine Cont.conseq (fr' := []) ?_ trivial (fun _ s => s)
                  refine id (hK13 _ _ ?_)
                  refine T.seq fun K15 hK15 => ?_
                  refine T.region ?_
                  obtain ⟨x19, hx19, H⟩ := bindE H
                  refine RS.q (Qt.call ent31 rfl fun w s => thronglaw10_wakes_walk  w  hx19) rfl rfl ?_
                  refine RS.p (Pu.assign rfl) rfl rfl ?_
                  refine RS.nil (hK15 _ _ ?_)
                  obtain rfl := Option.some.inj H
                  refine T.retTo (by with_reducible ((repeat (first | apply RetTo.seq | apply RetTo.blk)); exact RetTo.refl _)) (Cont.ret1 rfl rfl fun w' s => ?_)
                  exact ⟨rfl, s.ext⟩
                · intro z18 hz18 HX18 hJ18
                  refine T.block ?_
                  refine T.loopA (γ := Unit) hz18 [(1, _), (3, _)] (fun v20 _ => [(8, .int .i64 v20)]) (fun v20 _ => Sat w [blk b1 [.int .i64 a0_p.W, .int .i64 a0_p.H, .slice p0 a0_p.Free.length c0, .slice p1 a0_p.Ts.length c1, .slice p2 a0_p.Parts.length c2] 41]) () ⟨rfl, rfl, trivial⟩ ⟨rfl, trivial⟩ (fun w s => s) ?_
                  rintro v20 ⟨⟩ y21 H hd18 KL18 hL18
                  try dsimp only [Ex.then] at H
                  refine T.conseq (fr' := [(8, _), (1, _), (3, _)]) ?_ ⟨rfl, rfl, rfl, trivial⟩ (fun _ s => s)
                  refine T.seq fun K16 hK16 => ?_
                  refine T.seq fun K17 hK17 => ?_
                  refine T.region ?_
                  refine RS.p (Pu.move rfl) rfl rfl ?_
                  refine RS.p (Pu.fieldAddr fd41_3 rfl) rfl rfl ?_
                  refine RS.q (Qt.ldB 0 ty26 rfl rfl rfl) rfl rfl ?_
                  refine RS.p (Pu.lenSl sl26 rfl) rfl rfl ?_
                  refine RS.p (Pu.bin rfl rfl rfl) rfl rfl ?_
                  refine RS.nil (hK17 _ _ ?_)
                  refine T.condP rfl (fun hc22 => ?_) (fun hc22 => ?_)
                  · have H := ifT hc22 H
                    refine T.skip (hK16 _ _ (T.conseq (fr' := [(1, _), (3, _), (8, _)]) ?_ ⟨rfl, rfl, rfl, trivial⟩ (fun _ s => s)))
                    refine T.seq fun K18 hK18 => ?_
                    refine T.block ?_
                    refine T.seq fun K19 hK19 => ?_
                    refine T.region ?_
                    refine RS.p (Pu.fieldAddr fd41_3 rfl) rfl rfl ?_
                    refine RS.q (Qt.ldB 0 ty26 rfl rfl rfl) rfl rfl ?_
                    refine RS.p (Pu.move rfl) rfl rfl ?_
                    obtain ⟨g23, H⟩ := gdE H
                    obtain ⟨bl24, ol25, rfl⟩ := R_ptr h1 (ne_of_pos (pos_of g23))
                    refine RS.p (Pu.indexSl sl26 rfl rfl g23) rfl rfl ?_
                    refine RS.q (Qt.ld0 (α := Int) (Rd.base h1) ty3 rfl rfl g23 (by rintro _ _ rfl; rfl)) rfl rfl ?_
                    refine RS.p (Pu.assign rfl) rfl rfl ?_
                    refine RS.nil (hK19 _ _ (T.conseq (fr' := [(1, _), (3, _), (8, _), (9, _)]) ?_ ⟨rfl, rfl, rfl, rfl, trivial⟩ (fun _ s => s)))
                    refine T.seq fun K20 hK20 => ?_
                    refine T.region ?_
                    refine RS.p (Pu.assign rfl) rfl rfl ?_
                    refine RS.p (Pu.assign rfl) rfl rfl ?_
                    refine RS.nil (hK20 _ _ ?_)
                    refine T.seq fun K21 hK21 => ?_
                    refine T.seq fun K22 hK22 => ?_
                    refine T.region ?_
                    refine RS.p (Pu.move rfl) rfl rfl ?_
                    refine RS.nil (hK22 _ _ ?_)
                    refine T.joinE (σ := Int × Int) (γ := Unit) H (fun s => s) [(1, _), (3, _), (8, _), (9, _)] ⟨rfl, rfl, rfl, rfl, trivial⟩ (fun (v27, v28) _ => [(10, .int .i64 v27), (11, .int .i64 v28)]) (fun (v27, v28) _ => Sat w [blk b1 [.int .i64 a0_p.W, .int .i64 a0_p.H, .slice p0 a0_p.Free.length c0, .slice (some ⟨bl24, ol25, none⟩) a0_p.Ts.length c1, .slice p2 a0_p.Parts.length c2] 41]) ?_ ?_
                    · rintro ⟨v27, v28⟩ ⟨⟩ H
                      try dsimp only [Ex.then] at H
                      refine Cont.conseq (fr' := [(10, _), (11, _), (1, _), (3, _), (8, _), (9, _)]) ?_ ⟨rfl, rfl, rfl, rfl, rfl, rfl, trivial⟩ (fun _ s => s)
                      refine id (hK21 _ _ ?_)
                      refine T.seq fun K23 hK23 => ?_
                      refine T.region ?_
                      refine RS.p (Pu.fieldAddr fd41_0 rfl) rfl rfl ?_
                      refine RS.q (Qt.ldB 0 ty3 rfl rfl rfl) rfl rfl ?_
                      refine RS.p (Pu.fieldAddr fd41_1 rfl) rfl rfl ?_
                      refine RS.q (Qt.ldB 0 ty3 rfl rfl rfl) rfl rfl ?_
                      refine RS.p (Pu.move rfl) rfl rfl ?_
                      obtain ⟨x29, hx29, H⟩ := bindE H
                      refine RS.q (Qt.call ent35 rfl fun w s => sector_Of_walk a0_p.W a0_p.H (gi a0_p.Ts v20) w  hx29) rfl rfl ?_
                      refine RS.p (Pu.move rfl) rfl rfl ?_
                      refine RS.p (Pu.extract rfl rfl) rfl rfl ?_
                      refine RS.p (Pu.extract rfl rfl) rfl rfl ?_
                      refine RS.p (Pu.assign rfl) rfl rfl ?_
                      refine RS.p (Pu.assign rfl) rfl rfl ?_
                      refine RS.nil (hK23 _ _ (T.conseq (fr' := [(1, _), (3, _), (8, _), (10, _), (11, _), (12, _), (13, _)]) ?_ ⟨rfl, rfl, rfl, rfl, rfl, rfl, rfl, trivial⟩ (fun _ s => s)))
                      refine T.seq fun K24 hK24 => ?_
                      refine T.region ?_
                      refine RS.p (Pu.move rfl) rfl rfl ?_
                      obtain ⟨x30, hx30, H⟩ := bindE H
                      refine RS.q (Qt.call ent28 rfl fun w s => thronglaw10_num_walk x29.2 w  hx30) rfl rfl ?_
                      refine RS.p (Pu.move rfl) rfl rfl ?_
                      refine RS.p (Pu.bin rfl rfl rfl) rfl rfl ?_
                      refine RS.p (Pu.move rfl) rfl rfl ?_
                      refine RS.joinV 4 104 (.bool (decide ((¬ x30 = v27) ∨ (¬ x29.1 = v28)))) [(1, _), (3, _), (8, _)] ⟨rfl, rfl, rfl, trivial⟩ ?_ ?_
                      · refine RS.nil (hK24 _ _ ?_)
                        refine T.condP rfl (fun hc33 => ?_) (fun hc33 => ?_)
                        · have H := ifT hc33 H
                          refine T.conseq (fr' := []) ?_ trivial (fun _ s => s)
                          refine T.seq fun K25 hK25 => ?_
                          refine T.region ?_
                          refine RS.p (Pu.assign rfl) rfl rfl ?_
                          refine RS.nil (hK25 _ _ ?_)
                          obtain rfl := hd18 _ H
                          have H := HX18
                          obtain rfl := Option.some.inj H
                          refine T.retTo (by with_reducible ((repeat (first | apply RetTo.seq | apply RetTo.blk)); exact RetTo.refl _)) (Cont.ret1 rfl rfl fun w' s => ?_)
                          exact ⟨rfl, s.ext⟩
                        · have H := ifF hc33 H
                          refine T.skip (hK18 _ _ ?_)
                          refine T.region ?_
                          refine RS.p (Pu.move rfl) rfl rfl ?_
                          obtain ⟨g34, H⟩ := gdE H
                          refine RS.p (Pu.addS rfl rfl g34) rfl rfl ?_
                          refine RS.p (Pu.assign rfl) rfl rfl ?_
                          refine RS.nil (hL18 _ _ (v20 + 1) () H ⟨rfl, rfl, trivial⟩ ⟨rfl, trivial⟩ (fun w s => s))
                      · intro hJ32
                        refine RS.splitP 100 rfl (fun hc31 => ?_) (fun hc31 => ?_)
                        · refine RS.no rfl rfl ?_
                          refine RS.no rfl rfl ?_
                          refine RS.no rfl rfl ?_
                          refine RS.p (Pu.pickT rfl rfl) rfl rfl ?_
                          exact hJ32 _ _ ⟨dOrT hc31, rfl, rfl, rfl, trivial⟩ (fun w s => s)
                        · refine RS.p (Pu.move rfl) rfl rfl ?_
                          refine RS.p (Pu.move rfl) rfl rfl ?_
                          refine RS.p (Pu.bin rfl rfl rfl) rfl rfl ?_
                          refine RS.p (Pu.pickF rfl rfl) rfl rfl ?_
                          exact hJ32 _ _ ⟨dOrF hc31, rfl, rfl, rfl, trivial⟩ (fun w s => s)
                    · intro z26 H HX26 hJ26
                      refine T.condP rfl (fun hc35 => ?_) (fun hc35 => ?_)
                      · have H := ifT hc35 H
                        refine T.seq fun K26 hK26 => ?_
                        refine T.region ?_
                        refine RS.p (Pu.assign rfl) rfl rfl ?_
                        refine RS.nil (hK26 _ _ ?_)
                        refine T.seq fun K27 hK27 => ?_
                        refine T.region ?_
                        refine RS.p (Pu.move rfl) rfl rfl ?_
                        refine RS.p (Pu.bin rfl rfl rfl) rfl rfl ?_
                        refine RS.p (Pu.move rfl) rfl rfl ?_
                        obtain ⟨g38, H⟩ := gdE H
                        refine RS.joinV 8 82 (.bool (decide ((0 ≤ (gi a0_p.Ts v20)) ∧ ((gi a0_p.Ts v20) < (a0_p.W * a0_p.H))))) [(1, _), (3, _), (8, _), (9, _), (10, _), (11, _)] ⟨rfl, rfl, rfl, rfl, rfl, rfl, trivial⟩ ?_ ?_
                        · refine RS.nil (hK27 _ _ ?_)
                          refine T.condP rfl (fun hc39 => ?_) (fun hc39 => ?_)
                          · have H := ifT hc39 H
                            refine T.conseq (fr' := [(1, _), (3, _), (8, _), (9, _)]) ?_ ⟨rfl, rfl, rfl, rfl, trivial⟩ (fun _ s => s)
                            refine T.region ?_
                            refine RS.p (Pu.fieldAddr fd41_0 rfl) rfl rfl ?_
                            refine RS.q (Qt.ldB 0 ty3 rfl rfl rfl) rfl rfl ?_
                            refine RS.p (Pu.move rfl) rfl rfl ?_
                            obtain ⟨x40, hx40, H⟩ := bindE H
                            refine RS.q (Qt.call ent34 rfl fun w s => throngref10_Of_walk a0_p.W (gi a0_p.Ts v20) w  hx40) rfl rfl ?_
                            refine RS.p (Pu.assign rfl) rfl rfl ?_
                            refine RS.p (Pu.assign rfl) rfl rfl ?_
                            obtain rfl := Option.some.inj H
                            refine RS.nil (hJ26 _ _ (0, x40) () HX26 ⟨rfl, rfl, rfl, rfl, trivial⟩ ⟨rfl, rfl, trivial⟩ (fun w s => s))
                          · have H := ifF hc39 H
                            obtain rfl := Option.some.inj H
                            refine T.skip (hJ26 _ _ (3, 0) () HX26 ⟨rfl, rfl, rfl, rfl, trivial⟩ ⟨rfl, rfl, trivial⟩ (fun w s => s))
                        · intro hJ37
                          refine RS.splitP 74 rfl (fun hc36 => ?_) (fun hc36 => ?_)
                          · refine RS.p (Pu.move rfl) rfl rfl ?_
                            refine RS.p (Pu.fieldAddr fd41_0 rfl) rfl rfl ?_
                            refine RS.q (Qt.ldB 0 ty3 rfl rfl rfl) rfl rfl ?_
                            refine RS.p (Pu.fieldAddr fd41_1 rfl) rfl rfl ?_
                            refine RS.q (Qt.ldB 0 ty3 rfl rfl rfl) rfl rfl ?_
                            refine RS.p (Pu.mulS rfl rfl (g38 hc36)) rfl rfl ?_
                            refine RS.p (Pu.bin rfl rfl rfl) rfl rfl ?_
                            refine RS.p (Pu.pickT rfl rfl) rfl rfl ?_
                            exact hJ37 _ _ ⟨dAndT hc36, rfl, rfl, rfl, rfl, rfl, rfl, trivial⟩ (fun w s => s)
                          · refine RS.no rfl rfl ?_
                            refine RS.no rfl rfl ?_
                            refine RS.no rfl rfl ?_
                            refine RS.no rfl rfl ?_
                            refine RS.no rfl rfl ?_
                            refine RS.no rfl rfl ?_
                            refine RS.no rfl rfl ?_
                            refine RS.p (Pu.pickF rfl rfl) rfl rfl ?_
                            exact hJ37 _ _ ⟨dAndF hc36, rfl, rfl, rfl, rfl, rfl, rfl, trivial⟩ (fun w s => s)
                      · have H := ifF hc35 H
                        obtain rfl := Option.some.inj H
                        refine T.skip (hJ26 _ _ (1, 0) () HX26 ⟨rfl, rfl, rfl, rfl, trivial⟩ ⟨rfl, rfl, trivial⟩ (fun w s => s))
                  · have H := ifF hc22 H
                    obtain rfl := hd18 _ H
                    refine T.exitTo (by with_reducible (repeat (first | exact ExTo.here | exact ExTo.hereN | exact ExTo.deep (by repeat (first | exact NmTo.seq | apply NmTo.blk)) | apply ExTo.seq | refine ExTo.past (by decide) ?_))) (hJ18 _ _ () () HX18 trivial trivial (fun w s => s))
            · intro hJ16
              refine RS.splitP 54 rfl (fun hc15 => ?_) (fun hc15 => ?_)
              · refine RS.no rfl rfl ?_
                refine RS.no rfl rfl ?_
                refine RS.no rfl rfl ?_
                refine RS.p (Pu.pickT rfl rfl) rfl rfl ?_
                exact hJ16 _ _ ⟨dOrT hc15, rfl, rfl, trivial⟩ (fun w s => s)
              · refine RS.p (Pu.move rfl) rfl rfl ?_
                refine RS.p (Pu.move rfl) rfl rfl ?_
                refine RS.p (Pu.bin rfl rfl rfl) rfl rfl ?_
                refine RS.p (Pu.pickF rfl rfl) rfl rfl ?_
                exact hJ16 _ _ ⟨dOrF hc15, rfl, rfl, trivial⟩ (fun w s => s)
          · intro z10 H HX10 hJ10
            refine T.condP rfl (fun hc41 => ?_) (fun hc41 => ?_)
            · have H := ifT hc41 H
              refine T.conseq (fr' := [(1, _), (3, _)]) ?_ ⟨rfl, rfl, trivial⟩ (fun _ s => s)
              refine T.drawn (fun _ => True) [(0, .pu), (1, .rd), (2, .rd), (3, .pu), (4, .rd), (5, .rd), (6, .pu), (7, .pu), (8, .pu)] mixed (ClE.sat _ _) (by kernel_rfl) ?_
              refine RD.p (fun _ _ => trivial) rfl (Pu.fieldAddr fd41_0 rfl) rfl rfl ?_
              refine RD.q (fun _ _ => trivial) rfl (Qt.ldB 0 ty3 rfl rfl rfl) rfl rfl ?_
              obtain ⟨x42, hx42, H⟩ := bindE H
              refine RD.q (fun _ _ => trivial) rfl (Qt.call ent32 rfl fun w s => throngref10_Across_walk a0_p.W w  hx42) rfl rfl ?_
              refine RD.p (fun _ _ => trivial) rfl (Pu.fieldAddr fd41_1 rfl) rfl rfl ?_
              refine RD.q (fun _ _ => trivial) rfl (Qt.ldB 0 ty3 rfl rfl rfl) rfl rfl ?_
              obtain ⟨x43, hx43, H⟩ := bindE H
              refine RD.q (fun _ _ => trivial) rfl (Qt.call ent32 rfl fun w s => throngref10_Across_walk a0_p.H w  hx43) rfl rfl ?_
              obtain ⟨g44, H⟩ := gdE H
              refine RD.p (fun _ _ => trivial) rfl (Pu.mulS rfl rfl g44) rfl rfl ?_
              refine RD.p (fun _ _ => trivial) rfl (Pu.assign rfl) rfl rfl ?_
              refine RD.p (fun _ _ => trivial) rfl (Pu.assign rfl) rfl rfl ?_
              obtain rfl := Option.some.inj H
              refine RD.nil (hJ10 _ _ (0, (x42 * x43)) () HX10 ⟨rfl, rfl, trivial⟩ ⟨rfl, rfl, trivial⟩ (fun w s => s))
            · have H := ifF hc41 H
              obtain rfl := Option.some.inj H
              refine T.skip (hJ10 _ _ (1, 0) () HX10 ⟨rfl, rfl, trivial⟩ ⟨rfl, rfl, trivial⟩ (fun w s => s))
        · intro hJ9
          refine RS.splitP 29 rfl (fun hc8 => ?_) (fun hc8 => ?_)
          · refine RS.p (Pu.fieldAddr fd41_1 rfl) rfl rfl ?_
            refine RS.q (Qt.ldB 0 ty3 rfl rfl rfl) rfl rfl ?_
            refine RS.p (Pu.bin rfl rfl rfl) rfl rfl ?_
            refine RS.p (Pu.pickT rfl rfl) rfl rfl ?_
            exact hJ9 _ _ ⟨dAndT hc8, rfl, trivial⟩ (fun w s => s)
          · refine RS.no rfl rfl ?_
            refine RS.no rfl rfl ?_
            refine RS.no rfl rfl ?_
            refine RS.p (Pu.pickF rfl rfl) rfl rfl ?_
            exact hJ9 _ _ ⟨dAndF hc8, rfl, trivial⟩ (fun w s => s)
      · intro hJ7
        refine RS.splitP 24 rfl (fun hc6 => ?_) (fun hc6 => ?_)
        · refine RS.p (Pu.fieldAddr fd41_1 rfl) rfl rfl ?_
          refine RS.q (Qt.ldB 0 ty3 rfl rfl rfl) rfl rfl ?_
          refine RS.p (Pu.bin rfl rfl rfl) rfl rfl ?_
          refine RS.p (Pu.pickT rfl rfl) rfl rfl ?_
          exact hJ7 _ _ ⟨dAndT hc6, rfl, trivial⟩ (fun w s => s)
        · refine RS.no rfl rfl ?_
          refine RS.no rfl rfl ?_
          refine RS.no rfl rfl ?_
          refine RS.p (Pu.pickF rfl rfl) rfl rfl ?_
          exact hJ7 _ _ ⟨dAndF hc6, rfl, trivial⟩ (fun w s => s)
    · intro hJ5
      refine RS.splitP 19 rfl (fun hc4 => ?_) (fun hc4 => ?_)
      · refine RS.p (Pu.fieldAddr fd41_0 rfl) rfl rfl ?_
        refine RS.q (Qt.ldB 0 ty3 rfl rfl rfl) rfl rfl ?_
        refine RS.p (Pu.bin rfl rfl rfl) rfl rfl ?_
        refine RS.p (Pu.pickT rfl rfl) rfl rfl ?_
        exact hJ5 _ _ ⟨dAndT hc4, rfl, trivial⟩ (fun w s => s)
      · refine RS.no rfl rfl ?_
        refine RS.no rfl rfl ?_
        refine RS.no rfl rfl ?_
        refine RS.p (Pu.pickF rfl rfl) rfl rfl ?_
        exact hJ5 _ _ ⟨dAndF hc4, rfl, trivial⟩ (fun w s => s)
theorem thronglaw10_SectorParts_walk (a0_p : Ask) (w : World) {v0 v1 v2 : Value} (h0 : R (hpOf w) a0_p.Free [v0]) (h1 : R (hpOf w) a0_p.Ts [v1]) (h2 : R (hpOf w) a0_p.Parts [v2]) {r : Bool} (H : thronglaw10_SectorParts a0_p = some r) : Calls Try.prog 6 #[.agg #[.int .i64 a0_p.W, .int .i64 a0_p.H, v0, v1, v2]] w fun e w' => e = .returned (.bool r) ∧ Ext w w' := by
  have hm0 := R_max h0
  obtain ⟨p0, c0, rfl⟩ := R_form h0
  have hm1 := R_max h1
  obtain ⟨p1, c1, rfl⟩ := R_form h1
  have hm2 := R_max h2
  obtain ⟨p2, c2, rfl⟩ := R_form h2
  unfold thronglaw10_SectorParts at H
  refine T.enter (args := [_]) (S := Sat w []) Try.func6 rfl rfl (Sat.start w) ?_
  refine T.seq fun K1 hK1 => ?_
  refine T.region ?_
  refine RS.solid (Sd.box (cs := [_, _, _, _, _]) rfl rfl) rfl rfl fun b1 => ?_
  refine RS.p (Pu.assign rfl) rfl rfl ?_
  refine RS.nil (hK1 _ _ ?_)
  refine T.seq fun K2 hK2 => ?_
  refine T.seq fun K3 hK3 => ?_
  refine T.region ?_
  refine RS.q (Qt.ldBA (us := [_, _, _, _, _]) 0 ty41 rfl rfl rfl rfl) rfl rfl ?_
  obtain ⟨x2, hx2, H⟩ := bindE H
  refine RS.q (Qt.call ent23 rfl fun w s => thronglaw10_heavy_walk a0_p w ((Rd.base h0) w s) ((Rd.base h1) w s) ((Rd.base h2) w s) hx2) rfl rfl ?_
  refine RS.nil (hK3 _ _ ?_)
  refine T.cond rfl (fun hc3 => ?_) (fun hc3 => ?_)
  · have H := ifT hc3 H
    refine T.conseq (fr' := []) ?_ trivial (fun _ s => s)
    refine T.seq fun K4 hK4 => ?_
    refine T.region ?_
    refine RS.p (Pu.assign rfl) rfl rfl ?_
    refine RS.nil (hK4 _ _ ?_)
    obtain rfl := Option.some.inj H
    refine T.retTo (by with_reducible ((repeat (first | apply RetTo.seq | apply RetTo.blk)); exact RetTo.refl _)) (Cont.ret1 rfl rfl fun w' s => ?_)
    exact ⟨rfl, s.ext⟩
  · have H := ifB hc3 H
    refine T.skip (hK2 _ _ (T.conseq (fr' := [(1, _)]) ?_ ⟨rfl, trivial⟩ (fun _ s => s)))
    refine T.seq fun K5 hK5 => ?_
    refine T.region ?_
    refine RS.q (Qt.ldBA (us := [_, _, _, _, _]) 0 ty41 rfl rfl rfl rfl) rfl rfl ?_
    obtain ⟨x4, hx4, H⟩ := bindE H
    refine RS.q (Qt.call ent24 rfl fun w s => thronglaw10_form_walk a0_p w ((Rd.base h0) w s) ((Rd.base h1) w s) ((Rd.base h2) w s) hx4) rfl rfl ?_
    refine RS.p (Pu.assign rfl) rfl rfl ?_
    refine RS.p (Pu.assign rfl) rfl rfl ?_
    refine RS.nil (hK5 _ _ ?_)
    refine T.seq fun K6 hK6 => ?_
    refine T.seq fun K7 hK7 => ?_
    refine T.region ?_
    refine RS.p (Pu.move rfl) rfl rfl ?_
    refine RS.p (Pu.bin rfl rfl rfl) rfl rfl ?_
    refine RS.nil (hK7 _ _ ?_)
    refine T.joinE (σ := List Int) (γ := Option Nat × Nat) H (fun s => s) [(1, _), (3, _)] ⟨rfl, rfl, trivial⟩ (fun v6 q7 => [(4, rowV q7 v6.length)]) (fun v6 q7 => Sat w [blk b1 [.int .i64 a0_p.W, .int .i64 a0_p.H, .slice p0 a0_p.Free.length c0, .slice p1 a0_p.Ts.length c1, .slice p2 a0_p.Parts.length c2] 41, row nilH 3 (rowV q7 v6.length) v6]) ?_ ?_
    · rintro v6 q7 H
      try dsimp only [Ex.then] at H
      refine Cont.conseq (fr' := [(4, _), (1, _), (3, _)]) ?_ ⟨rfl, rfl, rfl, trivial⟩ (fun _ s => s)
      refine id (hK6 _ _ ?_)
      refine T.seq fun K8 hK8 => ?_
      refine T.region ?_
      refine RS.p (Pu.fieldAddr fd41_2 rfl) rfl rfl ?_
      refine RS.q (Qt.ldB 0 ty39 rfl rfl rfl) rfl rfl ?_
      obtain ⟨x8, hx8, H⟩ := bindE H
      refine RS.solid (Sd.callN ent26 rfl (fun w s => throngref0_CopyBools_walk a0_p.Free w ((Rd.base h0) w s) hx8)) rfl rfl fun q9 => ?_
      refine RS.p (Pu.assign rfl) rfl rfl ?_
      refine RS.nil (hK8 _ _ (T.conseq (fr' := [(1, _), (3, _), (4, _), (5, _)]) ?_ ⟨rfl, rfl, rfl, rfl, trivial⟩ (fun _ s => s)))
      refine T.seq fun K9 hK9 => ?_
      refine T.region ?_
      refine RS.p (Pu.fieldAddr fd41_0 rfl) rfl rfl ?_
      refine RS.q (Qt.ldB 0 ty3 rfl rfl rfl) rfl rfl ?_
      refine RS.p (Pu.fieldAddr fd41_1 rfl) rfl rfl ?_
      refine RS.q (Qt.ldB 0 ty3 rfl rfl rfl) rfl rfl ?_
      refine RS.p (Pu.move rfl) rfl rfl ?_
      obtain ⟨x10, hx10, H⟩ := bindE H
      refine RS.solid (Sd.callN ent27 rfl (fun w s => sector_Parts_walk a0_p.W a0_p.H x8 w ((Rd.ofRowN 2 rfl) w s) hx10)) rfl rfl fun q11 => ?_
      refine RS.p (Pu.move rfl) rfl rfl ?_
      refine RS.p (Pu.extract rfl rfl) rfl rfl ?_
      refine RS.p (Pu.extract rfl rfl) rfl rfl ?_
      refine RS.p (Pu.assign rfl) rfl rfl ?_
      refine RS.p (Pu.assign rfl) rfl rfl ?_
      refine RS.nil (hK9 _ _ (T.conseq (fr' := [(1, _), (3, _), (4, _), (5, _), (6, _), (7, _)]) ?_ ⟨rfl, rfl, rfl, rfl, rfl, rfl, trivial⟩ (fun _ s => s)))
      refine T.seq fun K10 hK10 => ?_
      refine T.seq fun K11 hK11 => ?_
      refine T.region ?_
      refine RS.p (Pu.move rfl) rfl rfl ?_
      obtain ⟨x12, hx12, H⟩ := bindE H
      refine RS.q (Qt.call ent28 rfl fun w s => thronglaw10_num_walk x10.2 w  hx12) rfl rfl ?_
      refine RS.p (Pu.move rfl) rfl rfl ?_
      refine RS.p (Pu.bin rfl rfl rfl) rfl rfl ?_
      refine RS.p (Pu.move rfl) rfl rfl ?_
      refine RS.joinB H 5 42 (fun b15 => .bool b15) [(1, _), (5, _), (6, _)] ⟨rfl, rfl, rfl, trivial⟩ ?_ ?_
      · intro b15 H
        refine RS.p (Pu.move rfl) rfl rfl ?_
        refine RS.joinB H 6 49 (fun b18 => .bool b18) [(6, _)] ⟨rfl, trivial⟩ ?_ ?_
        · intro b18 H
          refine RS.nil (hK11 _ _ ?_)
          refine T.cond rfl (fun hc19 => ?_) (fun hc19 => ?_)
          · have H := ifT hc19 H
            refine T.seq fun K12 hK12 => ?_
            refine T.region ?_
            refine RS.p (Pu.assign rfl) rfl rfl ?_
            refine RS.nil (hK12 _ _ ?_)
            obtain rfl := Option.some.inj H
            refine T.retTo (by with_reducible ((repeat (first | apply RetTo.seq | apply RetTo.blk)); exact RetTo.refl _)) (Cont.ret1 rfl rfl fun w' s => ?_)
            exact ⟨rfl, s.ext⟩
          · have H := ifB hc19 H
            refine T.skip (hK10 _ _ ?_)
            refine T.seq fun K13 hK13 => ?_
            refine T.region ?_
            refine RS.p (Pu.move rfl) rfl rfl ?_
            obtain ⟨x20, hx20, H⟩ := bindE H
            refine RS.solid (Sd.callU 3 ent30 rfl rfl (fun F w s => thronglaw0_Numbers_walk x10.1 rfl  hx20 w s)) rfl rfl fun _ => ?_
            refine RS.nil (hK13 _ _ (T.conseq (fr' := []) ?_ trivial (fun _ s => s)))
            refine T.seq fun K14 hK14 => ?_
            refine T.region ?_
            obtain ⟨x21, hx21, H⟩ := bindE H
            refine RS.q (Qt.call ent31 rfl fun w s => thronglaw10_wakes_walk  w  hx21) rfl rfl ?_
            refine RS.p (Pu.assign rfl) rfl rfl ?_
            refine RS.nil (hK14 _ _ ?_)
            obtain rfl := Option.some.inj H
            refine T.retTo (by with_reducible ((repeat (first | apply RetTo.seq | apply RetTo.blk)); exact RetTo.refl _)) (Cont.ret1 rfl rfl fun w' s => ?_)
            exact ⟨rfl, s.ext⟩
        · intro z22 H hJ17
          refine RS.split 43 rfl (fun hc16 => ?_) (fun hc16 => ?_)
          · have H := ifT hc16 H
            refine RS.no rfl rfl ?_
            refine RS.no rfl rfl ?_
            refine RS.no rfl rfl ?_
            refine RS.no rfl rfl ?_
            refine RS.no rfl rfl ?_
            refine RS.p (Pu.pickT rfl rfl) rfl rfl ?_
            obtain rfl := Option.some.inj H
            exact hJ17 _ _ ⟨rfl, rfl, trivial⟩ (fun w s => s)
          · have H := ifB hc16 H
            refine RS.p (Pu.move rfl) rfl rfl ?_
            refine RS.p (Pu.fieldAddr fd41_2 rfl) rfl rfl ?_
            refine RS.q (Qt.ldB 0 ty39 rfl rfl rfl) rfl rfl ?_
            obtain ⟨x23, hx23, H⟩ := bindE H
            refine RS.q (Qt.call ent29 rfl fun w s => throngref0_EqBools_walk x8 a0_p.Free w ((Rd.ofRowN 2 rfl) w s) ((Rd.base h0) w s) hx23) rfl rfl ?_
            refine RS.p (Pu.not rfl) rfl rfl ?_
            refine RS.p (Pu.pickF rfl rfl) rfl rfl ?_
            obtain rfl := Option.some.inj H
            exact hJ17 _ _ ⟨rfl, rfl, trivial⟩ (fun w s => s)
      · intro z24 H hJ14
        refine RS.splitP 37 rfl (fun hc13 => ?_) (fun hc13 => ?_)
        · have H := ifT hc13 H
          refine RS.no rfl rfl ?_
          refine RS.no rfl rfl ?_
          refine RS.no rfl rfl ?_
          refine RS.no rfl rfl ?_
          refine RS.p (Pu.pickT rfl rfl) rfl rfl ?_
          obtain rfl := Option.some.inj H
          exact hJ14 _ _ ⟨rfl, rfl, rfl, rfl, trivial⟩ (fun w s => s)
        · have H := ifF hc13 H
          refine RS.p (Pu.move rfl) rfl rfl ?_
          refine RS.p (Pu.move rfl) rfl rfl ?_
          obtain ⟨x25, hx25, H⟩ := bindE H
          refine RS.q (Qt.call ent22 rfl fun w s => throngref0_EqNumbers_walk x10.1 v6 w ((Rd.ofRowN 3 rfl) w s) ((Rd.ofRowN 1 rfl) w s) hx25) rfl rfl ?_
          refine RS.p (Pu.not rfl) rfl rfl ?_
          refine RS.p (Pu.pickF rfl rfl) rfl rfl ?_
          obtain rfl := Option.some.inj H
          exact hJ14 _ _ ⟨rfl, rfl, rfl, rfl, trivial⟩ (fun w s => s)
    · intro z5 H HX5 hJ5
      refine T.condP rfl (fun hc26 => ?_) (fun hc26 => ?_)
      · have H := ifT hc26 H
        refine T.conseq (fr' := [(1, _), (3, _)]) ?_ ⟨rfl, rfl, trivial⟩ (fun _ s => s)
        refine T.region ?_
        refine RS.p (Pu.fieldAddr fd41_0 rfl) rfl rfl ?_
        refine RS.q (Qt.ldB 0 ty3 rfl rfl rfl) rfl rfl ?_
        refine RS.p (Pu.fieldAddr fd41_1 rfl) rfl rfl ?_
        refine RS.q (Qt.ldB 0 ty3 rfl rfl rfl) rfl rfl ?_
        refine RS.p (Pu.fieldAddr fd41_2 rfl) rfl rfl ?_
        refine RS.q (Qt.ldB 0 ty39 rfl rfl rfl) rfl rfl ?_
        obtain ⟨x27, hx27, H⟩ := bindE H
        refine RS.solid (Sd.callN ent25 rfl (fun w s => throngref10_Parts_walk a0_p.W a0_p.H a0_p.Free w ((Rd.base h0) w s) hx27)) rfl rfl fun q28 => ?_
        refine RS.p (Pu.assign rfl) rfl rfl ?_
        obtain rfl := Option.some.inj H
        refine RS.nil (hJ5 _ _ x27 q28 HX5 ⟨rfl, rfl, trivial⟩ ⟨rfl, trivial⟩ (fun w s => s))
      · have H := ifF hc26 H
        obtain rfl := Option.some.inj H
        refine T.skip (hJ5 _ _ [] (none, 0) HX5 ⟨rfl, rfl, trivial⟩ ⟨rfl, trivial⟩ (fun w s => (s.nilRow (α := Int) 3).pick [0, 1] (by decide) rfl))
theorem thronglaw10_SectorRedo_walk (a0_p : Ask) (w : World) {v0 v1 v2 : Value} (h0 : R (hpOf w) a0_p.Free [v0]) (h1 : R (hpOf w) a0_p.Ts [v1]) (h2 : R (hpOf w) a0_p.Parts [v2]) {r : Bool} (H : thronglaw10_SectorRedo a0_p = some r) : Calls Try.prog 9 #[.agg #[.int .i64 a0_p.W, .int .i64 a0_p.H, v0, v1, v2]] w fun e w' => e = .returned (.bool r) ∧ Ext w w' := by
  have hm0 := R_max h0
  obtain ⟨p0, c0, rfl⟩ := R_form h0
  have hm1 := R_max h1
  obtain ⟨p1, c1, rfl⟩ := R_form h1
  have hm2 := R_max h2
  obtain ⟨p2, c2, rfl⟩ := R_form h2
  unfold thronglaw10_SectorRedo at H
  refine T.enter (args := [_]) (S := Sat w []) Try.func9 rfl rfl (Sat.start w) ?_
  refine T.seq fun K1 hK1 => ?_
  refine T.region ?_
  refine RS.solid (Sd.box (cs := [_, _, _, _, _]) rfl rfl) rfl rfl fun b1 => ?_
  refine RS.p (Pu.assign rfl) rfl rfl ?_
  refine RS.nil (hK1 _ _ ?_)
  refine T.seq fun K2 hK2 => ?_
  refine T.seq fun K3 hK3 => ?_
  refine T.region ?_
  refine RS.q (Qt.ldBA (us := [_, _, _, _, _]) 0 ty41 rfl rfl rfl rfl) rfl rfl ?_
  obtain ⟨x2, hx2, H⟩ := bindE H
  refine RS.q (Qt.call ent23 rfl fun w s => thronglaw10_heavy_walk a0_p w ((Rd.base h0) w s) ((Rd.base h1) w s) ((Rd.base h2) w s) hx2) rfl rfl ?_
  refine RS.nil (hK3 _ _ ?_)
  refine T.cond rfl (fun hc3 => ?_) (fun hc3 => ?_)
  · have H := ifT hc3 H
    refine T.conseq (fr' := []) ?_ trivial (fun _ s => s)
    refine T.seq fun K4 hK4 => ?_
    refine T.region ?_
    refine RS.p (Pu.assign rfl) rfl rfl ?_
    refine RS.nil (hK4 _ _ ?_)
    obtain rfl := Option.some.inj H
    refine T.retTo (by with_reducible ((repeat (first | apply RetTo.seq | apply RetTo.blk)); exact RetTo.refl _)) (Cont.ret1 rfl rfl fun w' s => ?_)
    exact ⟨rfl, s.ext⟩
  · have H := ifB hc3 H
    refine T.skip (hK2 _ _ (T.conseq (fr' := [(1, _)]) ?_ ⟨rfl, trivial⟩ (fun _ s => s)))
    refine T.seq fun K5 hK5 => ?_
    refine T.seq fun K6 hK6 => ?_
    refine T.region ?_
    refine RS.p (Pu.assign rfl) rfl rfl ?_
    refine RS.nil (hK6 _ _ ?_)
    refine T.joinE (σ := Unit) (γ := Unit) H Ex.go [] trivial (fun _ _ => []) (fun _ _ => Sat w [blk b1 [.int .i64 a0_p.W, .int .i64 a0_p.H, .slice p0 a0_p.Free.length c0, .slice p1 a0_p.Ts.length c1, .slice p2 a0_p.Parts.length c2] 41]) ?_ ?_
    · rintro ⟨⟩ ⟨⟩ H
      try dsimp only [Ex.then] at H
      refine Cont.conseq (fr' := []) ?_ trivial (fun _ s => s)
      refine id (hK5 _ _ ?_)
      refine T.seq fun K7 hK7 => ?_
      refine T.region ?_
      obtain ⟨x5, hx5, H⟩ := bindE H
      refine RS.q (Qt.call ent31 rfl fun w s => thronglaw10_wakes_walk  w  hx5) rfl rfl ?_
      refine RS.p (Pu.assign rfl) rfl rfl ?_
      refine RS.nil (hK7 _ _ ?_)
      obtain rfl := Option.some.inj H
      refine T.retTo (by with_reducible ((repeat (first | apply RetTo.seq | apply RetTo.blk)); exact RetTo.refl _)) (Cont.ret1 rfl rfl fun w' s => ?_)
      exact ⟨rfl, s.ext⟩
    · intro z4 hz4 HX4 hJ4
      refine T.block ?_
      refine T.loopA (γ := Unit) hz4 [(1, _)] (fun v6 _ => [(3, .int .i64 v6)]) (fun v6 _ => Sat w [blk b1 [.int .i64 a0_p.W, .int .i64 a0_p.H, .slice p0 a0_p.Free.length c0, .slice p1 a0_p.Ts.length c1, .slice p2 a0_p.Parts.length c2] 41]) () ⟨rfl, trivial⟩ ⟨rfl, trivial⟩ (fun w s => s) ?_
      rintro v6 ⟨⟩ y7 H hd4 KL4 hL4
      try dsimp only [Ex.then] at H
      refine T.conseq (fr' := [(3, _), (1, _)]) ?_ ⟨rfl, rfl, trivial⟩ (fun _ s => s)
      refine T.seq fun K8 hK8 => ?_
      refine T.seq fun K9 hK9 => ?_
      refine T.region ?_
      refine RS.p (Pu.move rfl) rfl rfl ?_
      refine RS.p (Pu.fieldAddr fd41_3 rfl) rfl rfl ?_
      refine RS.q (Qt.ldB 0 ty26 rfl rfl rfl) rfl rfl ?_
      refine RS.p (Pu.lenSl sl26 rfl) rfl rfl ?_
      refine RS.p (Pu.bin rfl rfl rfl) rfl rfl ?_
      refine RS.p (Pu.move rfl) rfl rfl ?_
      refine RS.joinV 3 19 (.bool (decide ((v6 < (a0_p.Ts.length : Int)) ∧ (v6 < 10)))) [(1, _), (3, _)] ⟨rfl, rfl, trivial⟩ ?_ ?_
      · refine RS.nil (hK9 _ _ ?_)
        refine T.condP rfl (fun hc10 => ?_) (fun hc10 => ?_)
        · have H := ifT hc10 H
          refine T.skip (hK8 _ _ ?_)
          refine T.seq fun K10 hK10 => ?_
          refine T.block ?_
          refine T.seq fun K11 hK11 => ?_
          refine T.region ?_
          refine RS.q (Qt.ldBA (us := [_, _, _, _, _]) 0 ty41 rfl rfl rfl rfl) rfl rfl ?_
          obtain ⟨x11, hx11, H⟩ := bindE H
          refine RS.q (Qt.call ent24 rfl fun w s => thronglaw10_form_walk a0_p w ((Rd.base h0) w s) ((Rd.base h1) w s) ((Rd.base h2) w s) hx11) rfl rfl ?_
          refine RS.p (Pu.assign rfl) rfl rfl ?_
          refine RS.p (Pu.assign rfl) rfl rfl ?_
          refine RS.nil (hK11 _ _ (T.conseq (fr' := [(1, _), (3, _), (4, _), (5, _)]) ?_ ⟨rfl, rfl, rfl, rfl, trivial⟩ (fun _ s => s)))
          refine T.seq fun K12 hK12 => ?_
          refine T.seq fun K13 hK13 => ?_
          refine T.region ?_
          refine RS.p (Pu.move rfl) rfl rfl ?_
          refine RS.p (Pu.bin rfl rfl rfl) rfl rfl ?_
          refine RS.p (Pu.move rfl) rfl rfl ?_
          obtain ⟨g14, H⟩ := gdE H
          refine RS.joinV 10 36 (.bool (decide ((x11 = 0) ∧ (¬ (a0_p.Parts.length : Int) = (a0_p.W * a0_p.H))))) [(1, _), (3, _), (4, _), (5, _)] ⟨rfl, rfl, rfl, rfl, trivial⟩ ?_ ?_
          · refine RS.nil (hK13 _ _ ?_)
            refine T.joinE (σ := Int) (γ := Unit) H (fun s => s) [(1, _), (3, _), (5, _)] ⟨rfl, rfl, rfl, trivial⟩ (fun v16 _ => [(4, .int .i64 v16)]) (fun v16 _ => Sat w [blk b1 [.int .i64 a0_p.W, .int .i64 a0_p.H, .slice p0 a0_p.Free.length c0, .slice p1 a0_p.Ts.length c1, .slice p2 a0_p.Parts.length c2] 41]) ?_ ?_
            · rintro v16 ⟨⟩ H
              try dsimp only [Ex.then] at H
              refine Cont.conseq (fr' := [(4, _), (1, _), (3, _), (5, _)]) ?_ ⟨rfl, rfl, rfl, rfl, trivial⟩ (fun _ s => s)
              refine id (hK12 _ _ ?_)
              refine T.seq fun K14 hK14 => ?_
              refine T.seq fun K15 hK15 => ?_
              refine T.drawn (fun _ => True) [(0, .pu), (1, .pu), (2, .pu), (3, .pu), (4, .rd), (5, .pu), (6, .pu), (7, .rd), (8, .pu), (9, .pu), (10, .pu), (11, .rd), (12, .pu), (13, .pu), (14, .rd), (15, .pu), (16, .rd), (17, .pu), (18, .rd), (19, .pu), (20, .pu), (21, .pu), (22, .pu)] mixed (ClE.sat _ _) (by kernel_rfl) ?_
              refine RD.p (fun _ _ => trivial) rfl (Pu.move rfl) rfl rfl ?_
              refine RD.p (fun _ _ => trivial) rfl (Pu.bin rfl rfl rfl) rfl rfl ?_
              refine RD.p (fun _ _ => trivial) rfl (Pu.move rfl) rfl rfl ?_
              obtain ⟨g19, H⟩ := gdE H
              obtain ⟨g20, H⟩ := gdE H
              obtain ⟨g21, H⟩ := gdE H
              refine RD.joinV 20 59 (.bool (decide ((v16 = 0) ∧ (((gi a0_p.Ts v6) < 0) ∨ ((a0_p.W * a0_p.H) ≤ (gi a0_p.Ts v6)))))) [(1, _), (3, _), (4, _), (5, _)] ⟨rfl, rfl, rfl, rfl, trivial⟩ ?_ ?_
              · refine RD.nil (hK15 _ _ ?_)
                refine T.joinE (σ := Int) (γ := Unit) H (fun s => s) [(1, _), (3, _), (5, _)] ⟨rfl, rfl, rfl, trivial⟩ (fun v23 _ => [(4, .int .i64 v23)]) (fun v23 _ => Sat w [blk b1 [.int .i64 a0_p.W, .int .i64 a0_p.H, .slice p0 a0_p.Free.length c0, .slice p1 a0_p.Ts.length c1, .slice p2 a0_p.Parts.length c2] 41]) ?_ ?_
                · rintro v23 ⟨⟩ H
                  try dsimp only [Ex.then] at H
                  refine Cont.conseq (fr' := [(4, _), (1, _), (3, _), (5, _)]) ?_ ⟨rfl, rfl, rfl, rfl, trivial⟩ (fun _ s => s)
                  refine id (hK14 _ _ ?_)
                  refine T.seq fun K16 hK16 => ?_
                  refine T.seq fun K17 hK17 => ?_
                  refine T.region ?_
                  refine RS.p (Pu.move rfl) rfl rfl ?_
                  refine RS.p (Pu.bin rfl rfl rfl) rfl rfl ?_
                  refine RS.nil (hK17 _ _ ?_)
                  refine T.joinE (σ := List Int) (γ := Option Nat × Nat) H (fun s => s) [(1, _), (3, _), (4, _)] ⟨rfl, rfl, rfl, trivial⟩ (fun v25 q26 => [(5, rowV q26 v25.length)]) (fun v25 q26 => Sat w [blk b1 [.int .i64 a0_p.W, .int .i64 a0_p.H, .slice p0 a0_p.Free.length c0, .slice p1 a0_p.Ts.length c1, .slice p2 a0_p.Parts.length c2] 41, row nilH 3 (rowV q26 v25.length) v25]) ?_ ?_
                  · rintro v25 q26 H
                    try dsimp only [Ex.then] at H
                    refine Cont.conseq (fr' := [(5, _), (1, _), (3, _), (4, _)]) ?_ ⟨rfl, rfl, rfl, rfl, trivial⟩ (fun _ s => s)
                    refine id (hK16 _ _ ?_)
                    refine T.seq fun K18 hK18 => ?_
                    refine T.region ?_
                    refine RS.p (Pu.fieldAddr fd41_4 rfl) rfl rfl ?_
                    refine RS.q (Qt.ldB 0 ty26 rfl rfl rfl) rfl rfl ?_
                    obtain ⟨x27, hx27, H⟩ := bindE H
                    refine RS.solid (Sd.callN ent37 rfl (fun w s => throngref0_CopyNumbers_walk a0_p.Parts w ((Rd.base h2) w s) hx27)) rfl rfl fun q28 => ?_
                    refine RS.p (Pu.assign rfl) rfl rfl ?_
                    refine RS.nil (hK18 _ _ (T.conseq (fr' := [(1, _), (3, _), (4, _), (5, _), (6, _)]) ?_ ⟨rfl, rfl, rfl, rfl, rfl, trivial⟩ (fun _ s => s)))
                    refine T.seq fun K19 hK19 => ?_
                    refine T.drawn (fun _ => True) [(0, .pu), (1, .rd), (2, .pu), (3, .rd), (4, .pu), (5, .rd), (6, .pu), (7, .pu), (8, .rd), (9, .pu), (10, .pu), (11, .rd), (12, .so), (13, .pu), (14, .pu), (15, .pu), (16, .pu), (17, .pu)] mixed (ClE.sat _ _) (by kernel_rfl) ?_
                    refine RD.p (fun _ _ => trivial) rfl (Pu.fieldAddr fd41_0 rfl) rfl rfl ?_
                    refine RD.q (fun _ _ => trivial) rfl (Qt.ldB 0 ty3 rfl rfl rfl) rfl rfl ?_
                    refine RD.p (fun _ _ => trivial) rfl (Pu.fieldAddr fd41_1 rfl) rfl rfl ?_
                    refine RD.q (fun _ _ => trivial) rfl (Qt.ldB 0 ty3 rfl rfl rfl) rfl rfl ?_
                    refine RD.p (fun _ _ => trivial) rfl (Pu.fieldAddr fd41_2 rfl) rfl rfl ?_
                    refine RD.q (fun _ _ => trivial) rfl (Qt.ldB 0 ty39 rfl rfl rfl) rfl rfl ?_
                    refine RD.p (fun _ _ => trivial) rfl (Pu.move rfl) rfl rfl ?_
                    refine RD.p (fun _ _ => trivial) rfl (Pu.fieldAddr fd41_3 rfl) rfl rfl ?_
                    refine RD.q (fun _ _ => trivial) rfl (Qt.ldB 0 ty26 rfl rfl rfl) rfl rfl ?_
                    refine RD.p (fun _ _ => trivial) rfl (Pu.move rfl) rfl rfl ?_
                    obtain ⟨g29, H⟩ := gdE H
                    obtain ⟨bl30, ol31, rfl⟩ := R_ptr h1 (ne_of_pos (pos_of g29))
                    refine RD.p (fun _ _ => trivial) rfl (Pu.indexSl sl26 rfl rfl g29) rfl rfl ?_
                    refine RD.q (fun _ _ => trivial) rfl (Qt.ld0 (α := Int) (Rd.base h1) ty3 rfl rfl g29 (by rintro _ _ rfl; rfl)) rfl rfl ?_
                    obtain ⟨x32, hx32, H⟩ := bindE H
                    refine RD.solid rfl (.inl rfl) rfl rfl (Sd.callN ent38 rfl (fun w s => sector_Redo_walk a0_p.W a0_p.H a0_p.Free x27 (gi a0_p.Ts v6) w ((Rd.base h0) w s) ((Rd.ofRowN 2 rfl) w s) hx32)) (fun _ => ClE.sat _ _) (fun _ _ _ => trivial) (fun _ _ _ s => s.drop1) fun q33 => ?_
                    refine RD.p (fun _ _ => trivial) rfl (Pu.move rfl) rfl rfl ?_
                    refine RD.p (fun _ _ => trivial) rfl (Pu.extract rfl rfl) rfl rfl ?_
                    refine RD.p (fun _ _ => trivial) rfl (Pu.extract rfl rfl) rfl rfl ?_
                    refine RD.p (fun _ _ => trivial) rfl (Pu.assign rfl) rfl rfl ?_
                    refine RD.p (fun _ _ => trivial) rfl (Pu.assign rfl) rfl rfl ?_
                    refine RD.nil (hK19 _ _ (T.conseq (fr' := [(1, _), (3, _), (4, _), (5, _), (6, _), (7, _), (8, _)]) ?_ ⟨rfl, rfl, rfl, rfl, rfl, rfl, rfl, trivial⟩ (fun _ s => s)))
                    refine T.seq fun K20 hK20 => ?_
                    refine T.region ?_
                    refine RS.p (Pu.move rfl) rfl rfl ?_
                    obtain ⟨x34, hx34, H⟩ := bindE H
                    refine RS.q (Qt.call ent28 rfl fun w s => thronglaw10_num_walk x32.2 w  hx34) rfl rfl ?_
                    refine RS.p (Pu.move rfl) rfl rfl ?_
                    refine RS.p (Pu.bin rfl rfl rfl) rfl rfl ?_
                    refine RS.p (Pu.move rfl) rfl rfl ?_
                    refine RS.joinB H 5 104 (fun b37 => .bool b37) [(1, _), (3, _), (6, _)] ⟨rfl, rfl, rfl, trivial⟩ ?_ ?_
                    · intro b37 H
                      refine RS.p (Pu.move rfl) rfl rfl ?_
                      refine RS.joinB H 6 111 (fun b40 => .bool b40) [(1, _), (3, _)] ⟨rfl, rfl, trivial⟩ ?_ ?_
                      · intro b40 H
                        refine RS.nil (hK20 _ _ ?_)
                        refine T.cond rfl (fun hc41 => ?_) (fun hc41 => ?_)
                        · have H := ifT hc41 H
                          refine T.conseq (fr' := []) ?_ trivial (fun _ s => s)
                          refine T.seq fun K21 hK21 => ?_
                          refine T.region ?_
                          refine RS.p (Pu.assign rfl) rfl rfl ?_
                          refine RS.nil (hK21 _ _ ?_)
                          obtain rfl := hd4 _ H
                          have H := HX4
                          obtain rfl := Option.some.inj H
                          refine T.retTo (by with_reducible ((repeat (first | apply RetTo.seq | apply RetTo.blk)); exact RetTo.refl _)) (Cont.ret1 rfl rfl fun w' s => ?_)
                          exact ⟨rfl, s.ext⟩
                        · have H := ifB hc41 H
                          refine T.skip (hK10 _ _ ?_)
                          refine T.region ?_
                          refine RS.p (Pu.move rfl) rfl rfl ?_
                          obtain ⟨g42, H⟩ := gdE H
                          refine RS.p (Pu.addS rfl rfl g42) rfl rfl ?_
                          refine RS.p (Pu.assign rfl) rfl rfl ?_
                          refine RS.nil (hL4 _ _ (v6 + 1) () H ⟨rfl, trivial⟩ ⟨rfl, trivial⟩ (fun w s => s.pick [0] (by decide) rfl))
                      · intro z43 H hJ39
                        refine RS.split 105 rfl (fun hc38 => ?_) (fun hc38 => ?_)
                        · have H := ifT hc38 H
                          refine RS.no rfl rfl ?_
                          refine RS.no rfl rfl ?_
                          refine RS.no rfl rfl ?_
                          refine RS.no rfl rfl ?_
                          refine RS.no rfl rfl ?_
                          refine RS.p (Pu.pickT rfl rfl) rfl rfl ?_
                          obtain rfl := Option.some.inj H
                          exact hJ39 _ _ ⟨rfl, rfl, rfl, trivial⟩ (fun w s => s)
                        · have H := ifB hc38 H
                          refine RS.p (Pu.move rfl) rfl rfl ?_
                          refine RS.p (Pu.fieldAddr fd41_4 rfl) rfl rfl ?_
                          refine RS.q (Qt.ldB 0 ty26 rfl rfl rfl) rfl rfl ?_
                          obtain ⟨x44, hx44, H⟩ := bindE H
                          refine RS.q (Qt.call ent22 rfl fun w s => throngref0_EqNumbers_walk x27 a0_p.Parts w ((Rd.ofRowN 2 rfl) w s) ((Rd.base h2) w s) hx44) rfl rfl ?_
                          refine RS.p (Pu.not rfl) rfl rfl ?_
                          refine RS.p (Pu.pickF rfl rfl) rfl rfl ?_
                          obtain rfl := Option.some.inj H
                          exact hJ39 _ _ ⟨rfl, rfl, rfl, trivial⟩ (fun w s => s)
                    · intro z45 H hJ36
                      refine RS.splitP 99 rfl (fun hc35 => ?_) (fun hc35 => ?_)
                      · have H := ifT hc35 H
                        refine RS.no rfl rfl ?_
                        refine RS.no rfl rfl ?_
                        refine RS.no rfl rfl ?_
                        refine RS.no rfl rfl ?_
                        refine RS.p (Pu.pickT rfl rfl) rfl rfl ?_
                        obtain rfl := Option.some.inj H
                        exact hJ36 _ _ ⟨rfl, rfl, rfl, rfl, trivial⟩ (fun w s => s)
                      · have H := ifF hc35 H
                        refine RS.p (Pu.move rfl) rfl rfl ?_
                        refine RS.p (Pu.move rfl) rfl rfl ?_
                        obtain ⟨x46, hx46, H⟩ := bindE H
                        refine RS.q (Qt.call ent22 rfl fun w s => throngref0_EqNumbers_walk x32.1 v25 w ((Rd.ofRowN 3 rfl) w s) ((Rd.ofRowN 1 rfl) w s) hx46) rfl rfl ?_
                        refine RS.p (Pu.not rfl) rfl rfl ?_
                        refine RS.p (Pu.pickF rfl rfl) rfl rfl ?_
                        obtain rfl := Option.some.inj H
                        exact hJ36 _ _ ⟨rfl, rfl, rfl, rfl, trivial⟩ (fun w s => s)
                  · intro z24 H HX24 hJ24
                    refine T.condP rfl (fun hc47 => ?_) (fun hc47 => ?_)
                    · have H := ifT hc47 H
                      refine T.conseq (fr' := [(1, _), (3, _), (4, _)]) ?_ ⟨rfl, rfl, rfl, trivial⟩ (fun _ s => s)
                      refine T.drawn (fun _ => True) [(0, .pu), (1, .rd), (2, .pu), (3, .rd), (4, .pu), (5, .rd), (6, .pu), (7, .rd), (8, .pu), (9, .rd), (10, .pu), (11, .pu), (12, .rd), (13, .so), (14, .pu)] mixed (ClE.sat _ _) (by kernel_rfl) ?_
                      refine RD.p (fun _ _ => trivial) rfl (Pu.fieldAddr fd41_0 rfl) rfl rfl ?_
                      refine RD.q (fun _ _ => trivial) rfl (Qt.ldB 0 ty3 rfl rfl rfl) rfl rfl ?_
                      refine RD.p (fun _ _ => trivial) rfl (Pu.fieldAddr fd41_1 rfl) rfl rfl ?_
                      refine RD.q (fun _ _ => trivial) rfl (Qt.ldB 0 ty3 rfl rfl rfl) rfl rfl ?_
                      refine RD.p (fun _ _ => trivial) rfl (Pu.fieldAddr fd41_2 rfl) rfl rfl ?_
                      refine RD.q (fun _ _ => trivial) rfl (Qt.ldB 0 ty39 rfl rfl rfl) rfl rfl ?_
                      refine RD.p (fun _ _ => trivial) rfl (Pu.fieldAddr fd41_4 rfl) rfl rfl ?_
                      refine RD.q (fun _ _ => trivial) rfl (Qt.ldB 0 ty26 rfl rfl rfl) rfl rfl ?_
                      refine RD.p (fun _ _ => trivial) rfl (Pu.fieldAddr fd41_3 rfl) rfl rfl ?_
                      refine RD.q (fun _ _ => trivial) rfl (Qt.ldB 0 ty26 rfl rfl rfl) rfl rfl ?_
                      refine RD.p (fun _ _ => trivial) rfl (Pu.move rfl) rfl rfl ?_
                      obtain ⟨g48, H⟩ := gdE H
                      obtain ⟨bl49, ol50, rfl⟩ := R_ptr h1 (ne_of_pos (pos_of g48))
                      refine RD.p (fun _ _ => trivial) rfl (Pu.indexSl sl26 rfl rfl g48) rfl rfl ?_
                      refine RD.q (fun _ _ => trivial) rfl (Qt.ld0 (α := Int) (Rd.base h1) ty3 rfl rfl g48 (by rintro _ _ rfl; rfl)) rfl rfl ?_
                      obtain ⟨x51, hx51, H⟩ := bindE H
                      refine RD.solid rfl (.inl rfl) rfl rfl (Sd.callN ent36 rfl (fun w s => throngref10_Redo_walk a0_p.W a0_p.H a0_p.Free a0_p.Parts (gi a0_p.Ts v6) w ((Rd.base h0) w s) ((Rd.base h2) w s) hx51)) (fun _ => ClE.sat _ _) (fun _ _ _ => trivial) (fun _ _ _ s => s.drop1) fun q52 => ?_
                      refine RD.p (fun _ _ => trivial) rfl (Pu.assign rfl) rfl rfl ?_
                      obtain rfl := Option.some.inj H
                      refine RD.nil (hJ24 _ _ x51 q52 HX24 ⟨rfl, rfl, rfl, trivial⟩ ⟨rfl, trivial⟩ (fun w s => s))
                    · have H := ifF hc47 H
                      obtain rfl := Option.some.inj H
                      refine T.skip (hJ24 _ _ [] (none, 0) HX24 ⟨rfl, rfl, rfl, trivial⟩ ⟨rfl, trivial⟩ (fun w s => (s.nilRow (α := Int) 3).pick [0, 1] (by decide) rfl))
                · intro z22 H HX22 hJ22
                  refine T.condP rfl (fun hc53 => ?_) (fun hc53 => ?_)
                  · have H := ifT hc53 H
                    refine T.region ?_
                    refine RS.p (Pu.assign rfl) rfl rfl ?_
                    obtain rfl := Option.some.inj H
                    refine RS.nil (hJ22 _ _ 3 () HX22 ⟨rfl, rfl, rfl, trivial⟩ ⟨rfl, trivial⟩ (fun w s => s))
                  · have H := ifF hc53 H
                    obtain rfl := Option.some.inj H
                    refine T.skip (hJ22 _ _ v16 () HX22 ⟨rfl, rfl, rfl, trivial⟩ ⟨rfl, trivial⟩ (fun w s => s))
              · intro hJ18
                refine RD.splitP 39 rfl (fun hc17 => ?_) (fun hc17 => ?_)
                · refine RD.p (fun _ _ => trivial) rfl (Pu.fieldAddr fd41_3 rfl) rfl rfl ?_
                  refine RD.q (fun _ _ => trivial) rfl (Qt.ldB 0 ty26 rfl rfl rfl) rfl rfl ?_
                  refine RD.p (fun _ _ => trivial) rfl (Pu.move rfl) rfl rfl ?_
                  obtain ⟨bl54, ol55, rfl⟩ := R_ptr h1 (ne_of_pos (pos_of (g19 hc17)))
                  refine RD.p (fun _ _ => trivial) rfl (Pu.indexSl sl26 rfl rfl (g19 hc17)) rfl rfl ?_
                  refine RD.q (fun _ _ => trivial) rfl (Qt.ld0 (α := Int) (Rd.base h1) ty3 rfl rfl (g19 hc17) (by rintro _ _ rfl; rfl)) rfl rfl ?_
                  refine RD.p (fun _ _ => trivial) rfl (Pu.bin rfl rfl rfl) rfl rfl ?_
                  refine RD.p (fun _ _ => trivial) rfl (Pu.move rfl) rfl rfl ?_
                  refine RD.joinV 12 58 (.bool (decide (((gi a0_p.Ts v6) < 0) ∨ ((a0_p.W * a0_p.H) ≤ (gi a0_p.Ts v6))))) [(1, _), (3, _), (4, _), (5, _), (37, _), (38, _), (39, _), (40, _), (41, _), (42, _), (43, _), (44, _), (45, _)] ⟨rfl, rfl, rfl, rfl, rfl, rfl, rfl, rfl, rfl, rfl, rfl, rfl, rfl, trivial⟩ ?_ ?_
                  · refine RD.p (fun _ _ => trivial) rfl (Pu.pickT rfl rfl) rfl rfl ?_
                    exact hJ18 _ ⟨dAndT hc17, rfl, rfl, rfl, rfl, trivial⟩
                  · intro hJ57
                    refine RD.splitP 46 rfl (fun hc56 => ?_) (fun hc56 => ?_)
                    · refine RD.no (fun _ _ => trivial) rfl rfl rfl (.inl rfl) ?_
                      refine RD.no (fun _ _ => trivial) rfl rfl rfl (.inr (.inr rfl)) ?_
                      refine RD.no (fun _ _ => trivial) rfl rfl rfl (.inl rfl) ?_
                      refine RD.no (fun _ _ => trivial) rfl rfl rfl (.inl rfl) ?_
                      refine RD.no (fun _ _ => trivial) rfl rfl rfl (.inr (.inr rfl)) ?_
                      refine RD.no (fun _ _ => trivial) rfl rfl rfl (.inl rfl) ?_
                      refine RD.no (fun _ _ => trivial) rfl rfl rfl (.inr (.inr rfl)) ?_
                      refine RD.no (fun _ _ => trivial) rfl rfl rfl (.inl rfl) ?_
                      refine RD.no (fun _ _ => trivial) rfl rfl rfl (.inr (.inr rfl)) ?_
                      refine RD.no (fun _ _ => trivial) rfl rfl rfl (.inl rfl) ?_
                      refine RD.no (fun _ _ => trivial) rfl rfl rfl (.inl rfl) ?_
                      refine RD.p (fun _ _ => trivial) rfl (Pu.pickT rfl rfl) rfl rfl ?_
                      exact hJ57 _ ⟨dOrT hc56, rfl, rfl, rfl, rfl, rfl, rfl, rfl, rfl, rfl, rfl, rfl, rfl, rfl, trivial⟩
                    · refine RD.p (fun _ _ => trivial) rfl (Pu.fieldAddr fd41_3 rfl) rfl rfl ?_
                      refine RD.q (fun _ _ => trivial) rfl (Qt.ldB 0 ty26 rfl rfl rfl) rfl rfl ?_
                      refine RD.p (fun _ _ => trivial) rfl (Pu.move rfl) rfl rfl ?_
                      refine RD.p (fun _ _ => trivial) rfl (Pu.indexSl sl26 rfl rfl ((g20 hc17) hc56)) rfl rfl ?_
                      refine RD.q (fun _ _ => trivial) rfl (Qt.ld0 (α := Int) (Rd.base h1) ty3 rfl rfl ((g20 hc17) hc56) (by rintro _ _ rfl; rfl)) rfl rfl ?_
                      refine RD.p (fun _ _ => trivial) rfl (Pu.fieldAddr fd41_0 rfl) rfl rfl ?_
                      refine RD.q (fun _ _ => trivial) rfl (Qt.ldB 0 ty3 rfl rfl rfl) rfl rfl ?_
                      refine RD.p (fun _ _ => trivial) rfl (Pu.fieldAddr fd41_1 rfl) rfl rfl ?_
                      refine RD.q (fun _ _ => trivial) rfl (Qt.ldB 0 ty3 rfl rfl rfl) rfl rfl ?_
                      refine RD.p (fun _ _ => trivial) rfl (Pu.mulS rfl rfl ((g21 hc17) hc56)) rfl rfl ?_
                      refine RD.p (fun _ _ => trivial) rfl (Pu.bin rfl rfl rfl) rfl rfl ?_
                      refine RD.p (fun _ _ => trivial) rfl (Pu.pickF rfl rfl) rfl rfl ?_
                      exact hJ57 _ ⟨dOrF hc56, rfl, rfl, rfl, rfl, rfl, rfl, rfl, rfl, rfl, rfl, rfl, rfl, rfl, trivial⟩
                · refine RD.no (fun _ _ => trivial) rfl rfl rfl (.inl rfl) ?_
                  refine RD.no (fun _ _ => trivial) rfl rfl rfl (.inr (.inr rfl)) ?_
                  refine RD.no (fun _ _ => trivial) rfl rfl rfl (.inl rfl) ?_
                  refine RD.no (fun _ _ => trivial) rfl rfl rfl (.inl rfl) ?_
                  refine RD.no (fun _ _ => trivial) rfl rfl rfl (.inr (.inr rfl)) ?_
                  refine RD.no (fun _ _ => trivial) rfl rfl rfl (.inl rfl) ?_
                  refine RD.no (fun _ _ => trivial) rfl rfl rfl (.inl rfl) ?_
                  refine RD.no (fun _ _ => trivial) rfl rfl rfl (.inl rfl) ?_
                  refine RD.no (fun _ _ => trivial) rfl rfl rfl (.inr (.inr rfl)) ?_
                  refine RD.no (fun _ _ => trivial) rfl rfl rfl (.inl rfl) ?_
                  refine RD.no (fun _ _ => trivial) rfl rfl rfl (.inl rfl) ?_
                  refine RD.no (fun _ _ => trivial) rfl rfl rfl (.inr (.inr rfl)) ?_
                  refine RD.no (fun _ _ => trivial) rfl rfl rfl (.inl rfl) ?_
                  refine RD.no (fun _ _ => trivial) rfl rfl rfl (.inr (.inr rfl)) ?_
                  refine RD.no (fun _ _ => trivial) rfl rfl rfl (.inl rfl) ?_
                  refine RD.no (fun _ _ => trivial) rfl rfl rfl (.inr (.inr rfl)) ?_
                  refine RD.no (fun _ _ => trivial) rfl rfl rfl (.inl rfl) ?_
                  refine RD.no (fun _ _ => trivial) rfl rfl rfl (.inl rfl) ?_
                  refine RD.no (fun _ _ => trivial) rfl rfl rfl (.inl rfl) ?_
                  refine RD.p (fun _ _ => trivial) rfl (Pu.pickF rfl rfl) rfl rfl ?_
                  exact hJ18 _ ⟨dAndF hc17, rfl, rfl, rfl, rfl, trivial⟩
            · intro z15 H HX15 hJ15
              refine T.condP rfl (fun hc58 => ?_) (fun hc58 => ?_)
              · have H := ifT hc58 H
                refine T.region ?_
                refine RS.p (Pu.assign rfl) rfl rfl ?_
                obtain rfl := Option.some.inj H
                refine RS.nil (hJ15 _ _ 1 () HX15 ⟨rfl, rfl, rfl, trivial⟩ ⟨rfl, trivial⟩ (fun w s => s))
              · have H := ifF hc58 H
                obtain rfl := Option.some.inj H
                refine T.skip (hJ15 _ _ x11 () HX15 ⟨rfl, rfl, rfl, trivial⟩ ⟨rfl, trivial⟩ (fun w s => s))
          · intro hJ13
            refine RS.splitP 26 rfl (fun hc12 => ?_) (fun hc12 => ?_)
            · refine RS.p (Pu.fieldAddr fd41_4 rfl) rfl rfl ?_
              refine RS.q (Qt.ldB 0 ty26 rfl rfl rfl) rfl rfl ?_
              refine RS.p (Pu.lenSl sl26 rfl) rfl rfl ?_
              refine RS.p (Pu.fieldAddr fd41_0 rfl) rfl rfl ?_
              refine RS.q (Qt.ldB 0 ty3 rfl rfl rfl) rfl rfl ?_
              refine RS.p (Pu.fieldAddr fd41_1 rfl) rfl rfl ?_
              refine RS.q (Qt.ldB 0 ty3 rfl rfl rfl) rfl rfl ?_
              refine RS.p (Pu.mulS rfl rfl (g14 hc12)) rfl rfl ?_
              refine RS.p (Pu.bin rfl rfl rfl) rfl rfl ?_
              refine RS.p (Pu.pickT rfl rfl) rfl rfl ?_
              exact hJ13 _ _ ⟨dAndT hc12, rfl, rfl, rfl, rfl, trivial⟩ (fun w s => s)
            · refine RS.no rfl rfl ?_
              refine RS.no rfl rfl ?_
              refine RS.no rfl rfl ?_
              refine RS.no rfl rfl ?_
              refine RS.no rfl rfl ?_
              refine RS.no rfl rfl ?_
              refine RS.no rfl rfl ?_
              refine RS.no rfl rfl ?_
              refine RS.no rfl rfl ?_
              refine RS.p (Pu.pickF rfl rfl) rfl rfl ?_
              exact hJ13 _ _ ⟨dAndF hc12, rfl, rfl, rfl, rfl, trivial⟩ (fun w s => s)
        · have H := ifF hc10 H
          obtain rfl := hd4 _ H
          refine T.exitTo (by with_reducible (repeat (first | exact ExTo.here | exact ExTo.hereN | exact ExTo.deep (by repeat (first | exact NmTo.seq | apply NmTo.blk)) | apply ExTo.seq | refine ExTo.past (by decide) ?_))) (hJ4 _ _ () () HX4 trivial trivial (fun w s => s))
      · intro hJ9
        refine RS.splitP 16 rfl (fun hc8 => ?_) (fun hc8 => ?_)
        · refine RS.p (Pu.move rfl) rfl rfl ?_
          refine RS.p (Pu.bin rfl rfl rfl) rfl rfl ?_
          refine RS.p (Pu.pickT rfl rfl) rfl rfl ?_
          exact hJ9 _ _ ⟨dAndT hc8, rfl, rfl, trivial⟩ (fun w s => s)
        · refine RS.no rfl rfl ?_
          refine RS.no rfl rfl ?_
          refine RS.p (Pu.pickF rfl rfl) rfl rfl ?_
          exact hJ9 _ _ ⟨dAndF hc8, rfl, rfl, trivial⟩ (fun w s => s)
theorem thronglaw10_SectorWhole_walk (a0_p : Ask) (w : World) {v0 v1 v2 : Value} (h0 : R (hpOf w) a0_p.Free [v0]) (h1 : R (hpOf w) a0_p.Ts [v1]) (h2 : R (hpOf w) a0_p.Parts [v2]) {r : Bool} (H : thronglaw10_SectorWhole a0_p = some r) : Calls Try.prog 10 #[.agg #[.int .i64 a0_p.W, .int .i64 a0_p.H, v0, v1, v2]] w fun e w' => e = .returned (.bool r) ∧ Ext w w' := by
  have hm0 := R_max h0
  obtain ⟨p0, c0, rfl⟩ := R_form h0
  have hm1 := R_max h1
  obtain ⟨p1, c1, rfl⟩ := R_form h1
  have hm2 := R_max h2
  obtain ⟨p2, c2, rfl⟩ := R_form h2
  unfold thronglaw10_SectorWhole at H
  refine T.enter (args := [_]) (S := Sat w []) Try.func10 rfl rfl (Sat.start w) ?_
  refine T.seq fun K1 hK1 => ?_
  refine T.region ?_
  refine RS.solid (Sd.box (cs := [_, _, _, _, _]) rfl rfl) rfl rfl fun b1 => ?_
  refine RS.p (Pu.assign rfl) rfl rfl ?_
  refine RS.nil (hK1 _ _ ?_)
  refine T.seq fun K2 hK2 => ?_
  refine T.seq fun K3 hK3 => ?_
  refine T.region ?_
  refine RS.q (Qt.ldBA (us := [_, _, _, _, _]) 0 ty41 rfl rfl rfl rfl) rfl rfl ?_
  obtain ⟨x2, hx2, H⟩ := bindE H
  refine RS.q (Qt.call ent23 rfl fun w s => thronglaw10_heavy_walk a0_p w ((Rd.base h0) w s) ((Rd.base h1) w s) ((Rd.base h2) w s) hx2) rfl rfl ?_
  refine RS.nil (hK3 _ _ ?_)
  refine T.cond rfl (fun hc3 => ?_) (fun hc3 => ?_)
  · have H := ifT hc3 H
    refine T.conseq (fr' := []) ?_ trivial (fun _ s => s)
    refine T.seq fun K4 hK4 => ?_
    refine T.region ?_
    refine RS.p (Pu.assign rfl) rfl rfl ?_
    refine RS.nil (hK4 _ _ ?_)
    obtain rfl := Option.some.inj H
    refine T.retTo (by with_reducible ((repeat (first | apply RetTo.seq | apply RetTo.blk)); exact RetTo.refl _)) (Cont.ret1 rfl rfl fun w' s => ?_)
    exact ⟨rfl, s.ext⟩
  · have H := ifB hc3 H
    refine T.skip (hK2 _ _ (T.conseq (fr' := [(1, _)]) ?_ ⟨rfl, trivial⟩ (fun _ s => s)))
    refine T.seq fun K5 hK5 => ?_
    refine T.region ?_
    refine RS.p (Pu.fieldAddr fd41_0 rfl) rfl rfl ?_
    refine RS.q (Qt.ldB 0 ty3 rfl rfl rfl) rfl rfl ?_
    refine RS.p (Pu.fieldAddr fd41_1 rfl) rfl rfl ?_
    refine RS.q (Qt.ldB 0 ty3 rfl rfl rfl) rfl rfl ?_
    refine RS.p (Pu.fieldAddr fd41_2 rfl) rfl rfl ?_
    refine RS.q (Qt.ldB 0 ty39 rfl rfl rfl) rfl rfl ?_
    obtain ⟨x4, hx4, H⟩ := bindE H
    refine RS.solid (Sd.callN ent27 rfl (fun w s => sector_Parts_walk a0_p.W a0_p.H a0_p.Free w ((Rd.base h0) w s) hx4)) rfl rfl fun q5 => ?_
    refine RS.p (Pu.move rfl) rfl rfl ?_
    refine RS.p (Pu.extract rfl rfl) rfl rfl ?_
    refine RS.p (Pu.extract rfl rfl) rfl rfl ?_
    refine RS.p (Pu.assign rfl) rfl rfl ?_
    refine RS.p (Pu.assign rfl) rfl rfl ?_
    refine RS.nil (hK5 _ _ (T.conseq (fr' := [(1, _), (3, _), (4, _)]) ?_ ⟨rfl, rfl, rfl, trivial⟩ (fun _ s => s)))
    refine T.seq fun K6 hK6 => ?_
    refine T.seq fun K7 hK7 => ?_
    refine T.region ?_
    refine RS.p (Pu.move rfl) rfl rfl ?_
    obtain ⟨x6, hx6, H⟩ := bindE H
    refine RS.q (Qt.call ent28 rfl fun w s => thronglaw10_num_walk x4.2 w  hx6) rfl rfl ?_
    refine RS.p (Pu.bin rfl rfl rfl) rfl rfl ?_
    refine RS.nil (hK7 _ _ ?_)
    refine T.condP rfl (fun hc7 => ?_) (fun hc7 => ?_)
    · have H := ifT hc7 H
      refine T.conseq (fr' := []) ?_ trivial (fun _ s => s)
      refine T.seq fun K8 hK8 => ?_
      refine T.region ?_
      refine RS.p (Pu.assign rfl) rfl rfl ?_
      refine RS.nil (hK8 _ _ ?_)
      obtain rfl := Option.some.inj H
      refine T.retTo (by with_reducible ((repeat (first | apply RetTo.seq | apply RetTo.blk)); exact RetTo.refl _)) (Cont.ret1 rfl rfl fun w' s => ?_)
      exact ⟨rfl, s.ext⟩
    · have H := ifF hc7 H
      refine T.skip (hK6 _ _ (T.conseq (fr' := [(1, _), (3, _)]) ?_ ⟨rfl, rfl, trivial⟩ (fun _ s => s)))
      refine T.seq fun K9 hK9 => ?_
      refine T.seq fun K10 hK10 => ?_
      refine T.region ?_
      refine RS.p (Pu.move rfl) rfl rfl ?_
      refine RS.p (Pu.lenSl sl26 rfl) rfl rfl ?_
      refine RS.p (Pu.fieldAddr fd41_0 rfl) rfl rfl ?_
      refine RS.q (Qt.ldB 0 ty3 rfl rfl rfl) rfl rfl ?_
      refine RS.p (Pu.fieldAddr fd41_1 rfl) rfl rfl ?_
      refine RS.q (Qt.ldB 0 ty3 rfl rfl rfl) rfl rfl ?_
      obtain ⟨g8, H⟩ := gdE H
      refine RS.p (Pu.mulS rfl rfl g8) rfl rfl ?_
      refine RS.p (Pu.bin rfl rfl rfl) rfl rfl ?_
      refine RS.nil (hK10 _ _ ?_)
      refine T.condP rfl (fun hc9 => ?_) (fun hc9 => ?_)
      · have H := ifT hc9 H
        refine T.conseq (fr' := []) ?_ trivial (fun _ s => s)
        refine T.seq fun K11 hK11 => ?_
        refine T.region ?_
        refine RS.p (Pu.assign rfl) rfl rfl ?_
        refine RS.nil (hK11 _ _ ?_)
        obtain rfl := Option.some.inj H
        refine T.retTo (by with_reducible ((repeat (first | apply RetTo.seq | apply RetTo.blk)); exact RetTo.refl _)) (Cont.ret1 rfl rfl fun w' s => ?_)
        exact ⟨rfl, s.ext⟩
      · have H := ifF hc9 H
        refine T.skip (hK9 _ _ (T.conseq (fr' := [(1, _), (3, _)]) ?_ ⟨rfl, rfl, trivial⟩ (fun _ s => s)))
        refine T.seq fun K12 hK12 => ?_
        refine T.region ?_
        refine RS.p (Pu.move rfl) rfl rfl ?_
        refine RS.p (Pu.lenSl sl26 rfl) rfl rfl ?_
        obtain ⟨g11, H⟩ := gdE H
        refine RS.solid (Sd.make (α := Int) (B := nilH) 0 sl26 zr3 rfl (by decide) rfl rfl (by omega) (by omega) (by omega)) rfl rfl fun b10 => ?_
        refine RS.p (Pu.assign rfl) rfl rfl ?_
        refine RS.nil (hK12 _ _ (T.conseq (fr' := [(1, _), (3, _), (5, _)]) ?_ ⟨rfl, rfl, rfl, trivial⟩ (fun _ s => s)))
        refine T.seq fun K13 hK13 => ?_
        refine T.seq fun K14 hK14 => ?_
        refine T.region ?_
        refine RS.p (Pu.assign rfl) rfl rfl ?_
        refine RS.nil (hK14 _ _ ?_)
        refine T.joinE (σ := List Int) (γ := Option Nat × Nat) H Ex.go [(3, _)] ⟨rfl, trivial⟩ (fun v13 q14 => [(5, rowV q14 v13.length)]) (fun v13 q14 => Sat w [blk b1 [.int .i64 a0_p.W, .int .i64 a0_p.H, .slice p0 a0_p.Free.length c0, .slice p1 a0_p.Ts.length c1, .slice p2 a0_p.Parts.length c2] 41, row nilH 3 (rowV q5 x4.1.length) x4.1, row nilH 3 (rowV q14 v13.length) v13]) ?_ ?_
        · rintro v13 q14 H
          try dsimp only [Ex.then] at H
          refine Cont.conseq (fr' := [(5, _), (3, _)]) ?_ ⟨rfl, rfl, trivial⟩ (fun _ s => s)
          refine id (hK13 _ _ ?_)
          refine T.seq fun K15 hK15 => ?_
          refine T.region ?_
          refine RS.p (Pu.move rfl) rfl rfl ?_
          refine RS.p (Pu.move rfl) rfl rfl ?_
          obtain ⟨x15, hx15, H⟩ := bindE H
          refine RS.q (Qt.call ent22 rfl fun w s => throngref0_EqNumbers_walk v13 x4.1 w ((Rd.ofRowN 2 rfl) w s) ((Rd.ofRowN 1 rfl) w s) hx15) rfl rfl ?_
          refine RS.p (Pu.move rfl) rfl rfl ?_
          refine RS.joinB H 2 224 (fun b18 => .bool b18) [] trivial ?_ ?_
          · intro b18 H
            refine RS.p (Pu.assign rfl) rfl rfl ?_
            refine RS.nil (hK15 _ _ ?_)
            obtain rfl := Option.some.inj H
            refine T.retTo (by with_reducible ((repeat (first | apply RetTo.seq | apply RetTo.blk)); exact RetTo.refl _)) (Cont.ret1 rfl rfl fun w' s => ?_)
            exact ⟨rfl, s.ext⟩
          · intro z19 H hJ17
            refine RS.split 222 rfl (fun hc16 => ?_) (fun hc16 => ?_)
            · have H := ifT hc16 H
              obtain ⟨x20, hx20, H⟩ := bindE H
              refine RS.q (Qt.call ent31 rfl fun w s => thronglaw10_wakes_walk  w  hx20) rfl rfl ?_
              refine RS.p (Pu.pickT rfl rfl) rfl rfl ?_
              obtain rfl := Option.some.inj H
              exact hJ17 _ _ ⟨rfl, trivial⟩ (fun w s => s)
            · have H := ifB hc16 H
              refine RS.no rfl rfl ?_
              refine RS.p (Pu.pickF rfl rfl) rfl rfl ?_
              obtain rfl := Option.some.inj H
              exact hJ17 _ _ ⟨rfl, trivial⟩ (fun w s => s)
        · intro z12 hz12 HX12 hJ12
          refine T.block ?_
          refine T.know (fun w s => s.row_fits (q := (some b10, (x4.1.length : Int).toNat)) (m := (x4.1.length : Int).toNat) (k := 2) rfl) fun hf24 => ?_
          refine T.loopA (γ := (Option Nat × Nat)) hz12 [(1, _), (3, _)] (fun (v21, l22) q23 => [(5, rowV q23 l22.length), (6, .int .i64 v21)]) (fun (v21, l22) q23 => Sat w [blk b1 [.int .i64 a0_p.W, .int .i64 a0_p.H, .slice p0 a0_p.Free.length c0, .slice p1 a0_p.Ts.length c1, .slice p2 a0_p.Parts.length c2] 41, row nilH 3 (rowV q5 x4.1.length) x4.1, row nilH 3 (rowV q23 l22.length) l22]) (some b10, (x4.1.length : Int).toNat) ⟨rfl, rfl, trivial⟩ ⟨veqN (q := (some b10, (x4.1.length : Int).toNat)) hf24.1, rfl, trivial⟩ (fun w s => (Sat.relen (q := (some b10, (x4.1.length : Int).toNat)) (m := (x4.1.length : Int).toNat) 2 s rfl).pick [0, 1, 2] (by decide) rfl) ?_
          rintro ⟨v21, l22⟩ q23 y25 H hd12 KL12 hL12
          try dsimp only [Ex.then] at H
          refine T.conseq (fr' := [(5, _), (6, _), (1, _), (3, _)]) ?_ ⟨rfl, rfl, rfl, rfl, trivial⟩ (fun _ s => s)
          refine T.seq fun K16 hK16 => ?_
          refine T.seq fun K17 hK17 => ?_
          refine T.region ?_
          refine RS.p (Pu.move rfl) rfl rfl ?_
          refine RS.p (Pu.move rfl) rfl rfl ?_
          refine RS.p (Pu.lenSl sl26 rfl) rfl rfl ?_
          refine RS.p (Pu.bin rfl rfl rfl) rfl rfl ?_
          refine RS.nil (hK17 _ _ ?_)
          refine T.condP rfl (fun hc26 => ?_) (fun hc26 => ?_)
          · have H := ifT hc26 H
            refine T.skip (hK16 _ _ (T.conseq (fr' := [(1, _), (3, _), (5, _), (6, _)]) ?_ ⟨rfl, rfl, rfl, rfl, trivial⟩ (fun _ s => s)))
            refine T.seq fun K18 hK18 => ?_
            refine T.block ?_
            refine T.seq fun K19 hK19 => ?_
            refine T.region ?_
            refine RS.p (Pu.fieldAddr fd41_0 rfl) rfl rfl ?_
            refine RS.q (Qt.ldB 0 ty3 rfl rfl rfl) rfl rfl ?_
            refine RS.p (Pu.fieldAddr fd41_1 rfl) rfl rfl ?_
            refine RS.q (Qt.ldB 0 ty3 rfl rfl rfl) rfl rfl ?_
            refine RS.p (Pu.move rfl) rfl rfl ?_
            obtain ⟨x27, hx27, H⟩ := bindE H
            refine RS.q (Qt.call ent35 rfl fun w s => sector_Of_walk a0_p.W a0_p.H v21 w  hx27) rfl rfl ?_
            refine RS.p (Pu.move rfl) rfl rfl ?_
            refine RS.p (Pu.extract rfl rfl) rfl rfl ?_
            refine RS.p (Pu.extract rfl rfl) rfl rfl ?_
            refine RS.p (Pu.assign rfl) rfl rfl ?_
            refine RS.p (Pu.assign rfl) rfl rfl ?_
            refine RS.nil (hK19 _ _ (T.conseq (fr' := [(1, _), (3, _), (5, _), (6, _), (7, _), (8, _)]) ?_ ⟨rfl, rfl, rfl, rfl, rfl, rfl, trivial⟩ (fun _ s => s)))
            refine T.seq fun K20 hK20 => ?_
            refine T.seq fun K21 hK21 => ?_
            refine T.drawn (fun _ => True) [(0, .pu), (1, .rd), (2, .pu), (3, .pu), (4, .pu), (5, .pu), (6, .pu), (7, .rd), (8, .pu), (9, .pu), (10, .rd), (11, .pu), (12, .pu), (13, .rd), (14, .pu), (15, .pu), (16, .pu), (17, .pu), (18, .pu), (19, .pu), (20, .rd), (21, .pu), (22, .pu), (23, .pu)] mixed (ClE.sat _ _) (by kernel_rfl) ?_
            refine RD.p (fun _ _ => trivial) rfl (Pu.move rfl) rfl rfl ?_
            obtain ⟨x28, hx28, H⟩ := bindE H
            refine RD.q (fun _ _ => trivial) rfl (Qt.call ent28 rfl fun w s => thronglaw10_num_walk x27.2 w  hx28) rfl rfl ?_
            refine RD.p (fun _ _ => trivial) rfl (Pu.bin rfl rfl rfl) rfl rfl ?_
            refine RD.p (fun _ _ => trivial) rfl (Pu.move rfl) rfl rfl ?_
            obtain ⟨g31, H⟩ := gdE H
            obtain ⟨g32, H⟩ := gdE H
            refine RD.joinV 12 70 (.bool (decide ((¬ x28 = 0) ∨ (¬ (decide (0 ≤ (gi x4.1 v21))) = (gi a0_p.Free v21))))) [(1, _), (3, _), (5, _), (6, _), (7, _)] ⟨rfl, rfl, rfl, rfl, rfl, trivial⟩ ?_ ?_
            · refine RD.p (fun _ _ => trivial) rfl (Pu.move rfl) rfl rfl ?_
              obtain ⟨g35, H⟩ := gdE H
              refine RD.joinV 7 78 (.bool (decide (((¬ x28 = 0) ∨ (¬ (decide (0 ≤ (gi x4.1 v21))) = (gi a0_p.Free v21))) ∨ (v21 < (gi x4.1 v21))))) [(1, _), (3, _), (5, _), (6, _), (7, _)] ⟨rfl, rfl, rfl, rfl, rfl, trivial⟩ ?_ ?_
              · refine RD.nil (hK21 _ _ ?_)
                refine T.condP rfl (fun hc36 => ?_) (fun hc36 => ?_)
                · have H := ifT hc36 H
                  refine T.conseq (fr' := []) ?_ trivial (fun _ s => s)
                  refine T.seq fun K22 hK22 => ?_
                  refine T.region ?_
                  refine RS.p (Pu.assign rfl) rfl rfl ?_
                  refine RS.nil (hK22 _ _ ?_)
                  obtain rfl := hd12 _ H
                  have H := HX12
                  obtain rfl := Option.some.inj H
                  refine T.retTo (by with_reducible ((repeat (first | apply RetTo.seq | apply RetTo.blk)); exact RetTo.refl _)) (Cont.ret1 rfl rfl fun w' s => ?_)
                  exact ⟨rfl, s.ext⟩
                · have H := ifF hc36 H
                  refine T.skip (hK20 _ _ ?_)
                  refine T.seq fun K23 hK23 => ?_
                  refine T.seq fun K24 hK24 => ?_
                  refine T.region ?_
                  refine RS.p (Pu.move rfl) rfl rfl ?_
                  refine RS.p (Pu.fieldAddr fd41_0 rfl) rfl rfl ?_
                  refine RS.q (Qt.ldB 0 ty3 rfl rfl rfl) rfl rfl ?_
                  obtain ⟨g37, H⟩ := gdE H
                  refine RS.p (Pu.remN rfl rfl (and3 g37)) rfl rfl ?_
                  obtain ⟨g38, H⟩ := gdE H
                  refine RS.p (Pu.remN rfl rfl (and3 ⟨g38.1, g38.2, by decide⟩)) rfl rfl ?_
                  refine RS.p (Pu.bin rfl rfl rfl) rfl rfl ?_
                  refine RS.p (Pu.move rfl) rfl rfl ?_
                  obtain ⟨g41, H⟩ := gdE H
                  obtain ⟨g42, H⟩ := gdE H
                  refine RS.joinV 7 92 (.bool (decide ((((v21 % a0_p.W) % 8) = 0) ∧ (((v21 / a0_p.W) % 8) = 0)))) [(1, _), (3, _), (5, _), (6, _), (7, _)] ⟨rfl, rfl, rfl, rfl, rfl, trivial⟩ ?_ ?_
                  · refine RS.nil (hK24 _ _ ?_)
                    refine T.joinE (σ := List Int) (γ := Option Nat × Nat) H Ex.go [(1, _), (3, _), (6, _), (7, _)] ⟨rfl, rfl, rfl, rfl, trivial⟩ (fun v44 q45 => [(5, rowV q45 v44.length)]) (fun v44 q45 => Sat w [blk b1 [.int .i64 a0_p.W, .int .i64 a0_p.H, .slice p0 a0_p.Free.length c0, .slice p1 a0_p.Ts.length c1, .slice p2 a0_p.Parts.length c2] 41, row nilH 3 (rowV q5 x4.1.length) x4.1, dead, row nilH 3 (rowV q45 v44.length) v44]) ?_ ?_
                    · rintro v44 q45 H
                      try dsimp only [Ex.then] at H
                      refine Cont.conseq (fr' := [(5, _), (1, _), (3, _), (6, _), (7, _)]) ?_ ⟨rfl, rfl, rfl, rfl, rfl, trivial⟩ (fun _ s => s)
                      refine id (hK23 _ _ ?_)
                      refine T.seq fun K25 hK25 => ?_
                      refine T.seq fun K26 hK26 => ?_
                      refine T.region ?_
                      refine RS.p (Pu.fieldAddr fd41_2 rfl) rfl rfl ?_
                      refine RS.q (Qt.ldB 0 ty39 rfl rfl rfl) rfl rfl ?_
                      refine RS.p (Pu.move rfl) rfl rfl ?_
                      obtain ⟨g46, H⟩ := gdE H
                      obtain ⟨bl47, ol48, rfl⟩ := R_ptr h0 (ne_of_pos (pos_of g46))
                      refine RS.p (Pu.indexSl sl39 rfl rfl g46) rfl rfl ?_
                      refine RS.q (Qt.ld0 (α := Bool) (Rd.base h0) ty4 rfl rfl g46 (by rintro _ _ rfl; rfl)) rfl rfl ?_
                      refine RS.p (Pu.not rfl) rfl rfl ?_
                      refine RS.nil (hK26 _ _ ?_)
                      refine T.cond rfl (fun hc49 => ?_) (fun hc49 => ?_)
                      · have H := ifT hc49 H
                        refine T.exitTo (by with_reducible (repeat (first | exact ExTo.here | exact ExTo.hereN | exact ExTo.deep (by repeat (first | exact NmTo.seq | apply NmTo.blk)) | apply ExTo.seq | refine ExTo.past (by decide) ?_))) (hK18 _ _ (T.conseq (fr' := [(1, _), (3, _), (5, _), (6, _)]) ?_ ⟨rfl, rfl, rfl, rfl, trivial⟩ (fun _ s => s)))
                        refine T.region ?_
                        refine RS.p (Pu.move rfl) rfl rfl ?_
                        obtain ⟨g50, H⟩ := gdE H
                        refine RS.p (Pu.addS rfl rfl g50) rfl rfl ?_
                        refine RS.p (Pu.assign rfl) rfl rfl ?_
                        refine RS.nil (hL12 _ _ ((v21 + 1), v44) q45 H ⟨rfl, rfl, trivial⟩ ⟨rfl, rfl, trivial⟩ (fun w s => s.pick [0, 1, 3] (by decide) rfl))
                      · have H := ifB hc49 H
                        refine T.skip (hK25 _ _ (T.conseq (fr' := [(1, _), (3, _), (5, _), (6, _), (7, _)]) ?_ ⟨rfl, rfl, rfl, rfl, rfl, trivial⟩ (fun _ s => s)))
                        refine T.seq fun K27 hK27 => ?_
                        refine T.drawn (fun _ => True) [(0, .pu), (1, .rd), (2, .pu), (3, .rd), (4, .pu), (5, .pu), (6, .pu), (7, .rd), (8, .rd), (9, .pu), (10, .pu), (11, .pu), (12, .pu), (13, .pu)] mixed (ClE.sat _ _) (by kernel_rfl) ?_
                        refine RD.p (fun _ _ => trivial) rfl (Pu.fieldAddr fd41_0 rfl) rfl rfl ?_
                        refine RD.q (fun _ _ => trivial) rfl (Qt.ldB 0 ty3 rfl rfl rfl) rfl rfl ?_
                        refine RD.p (fun _ _ => trivial) rfl (Pu.fieldAddr fd41_1 rfl) rfl rfl ?_
                        refine RD.q (fun _ _ => trivial) rfl (Qt.ldB 0 ty3 rfl rfl rfl) rfl rfl ?_
                        refine RD.p (fun _ _ => trivial) rfl (Pu.move rfl) rfl rfl ?_
                        refine RD.p (fun _ _ => trivial) rfl (Pu.move rfl) rfl rfl ?_
                        obtain ⟨g51, H⟩ := gdE H
                        refine RD.know (p := ∃ g cap, q5 = (some g, cap)) (fun w s => s.row_some (k := 1) rfl (pos_of g51)) ?_
                        rintro ⟨gg52, cc53, rfl⟩
                        refine RD.p (fun _ _ => trivial) rfl (Pu.indexSl sl26 rfl rfl g51) rfl rfl ?_
                        refine RD.q (fun _ _ => trivial) rfl (Qt.ld0 (α := Int) (Rd.ofRowN 1 rfl) ty3 rfl rfl g51 (by rintro _ _ rfl; rfl)) rfl rfl ?_
                        obtain ⟨x54, hx54, H⟩ := bindE H
                        refine RD.q (fun _ _ => trivial) rfl (Qt.call ent35 rfl fun w s => sector_Of_walk a0_p.W a0_p.H (gi x4.1 v21) w  hx54) rfl rfl ?_
                        refine RD.p (fun _ _ => trivial) rfl (Pu.move rfl) rfl rfl ?_
                        refine RD.p (fun _ _ => trivial) rfl (Pu.extract rfl rfl) rfl rfl ?_
                        refine RD.p (fun _ _ => trivial) rfl (Pu.extract rfl rfl) rfl rfl ?_
                        refine RD.p (fun _ _ => trivial) rfl (Pu.assign rfl) rfl rfl ?_
                        refine RD.p (fun _ _ => trivial) rfl (Pu.assign rfl) rfl rfl ?_
                        refine RD.nil (hK27 _ _ (T.conseq (fr' := [(1, _), (3, _), (5, _), (6, _), (7, _), (11, _), (12, _)]) ?_ ⟨rfl, rfl, rfl, rfl, rfl, rfl, rfl, trivial⟩ (fun _ s => s)))
                        refine T.seq fun K28 hK28 => ?_
                        refine T.seq fun K29 hK29 => ?_
                        refine T.drawn (fun _ => True) [(0, .pu), (1, .rd), (2, .pu), (3, .pu), (4, .pu), (5, .pu), (6, .pu), (7, .pu), (8, .pu), (9, .pu), (10, .pu), (11, .pu), (12, .pu), (13, .rd), (14, .pu), (15, .rd), (16, .pu), (17, .pu), (18, .pu), (19, .rd), (20, .pu), (21, .pu)] mixed (ClE.sat _ _) (by kernel_rfl) ?_
                        refine RD.p (fun _ _ => trivial) rfl (Pu.move rfl) rfl rfl ?_
                        obtain ⟨x55, hx55, H⟩ := bindE H
                        refine RD.q (fun _ _ => trivial) rfl (Qt.call ent28 rfl fun w s => thronglaw10_num_walk x54.2 w  hx55) rfl rfl ?_
                        refine RD.p (fun _ _ => trivial) rfl (Pu.bin rfl rfl rfl) rfl rfl ?_
                        refine RD.p (fun _ _ => trivial) rfl (Pu.move rfl) rfl rfl ?_
                        refine RD.joinV 4 134 (.bool (decide ((¬ x55 = 0) ∨ (¬ x54.1 = x27.1)))) [(1, _), (3, _), (5, _), (6, _), (7, _)] ⟨rfl, rfl, rfl, rfl, rfl, trivial⟩ ?_ ?_
                        · refine RD.p (fun _ _ => trivial) rfl (Pu.move rfl) rfl rfl ?_
                          obtain ⟨g60, H⟩ := gdE H
                          obtain ⟨g61, H⟩ := gdE H
                          obtain ⟨g62, H⟩ := gdE H
                          refine RD.joinV 13 148 (.bool (decide (((¬ x55 = 0) ∨ (¬ x54.1 = x27.1)) ∨ (¬ (gi x4.1 (gi x4.1 v21)) = (gi x4.1 v21))))) [(1, _), (3, _), (5, _), (6, _), (7, _)] ⟨rfl, rfl, rfl, rfl, rfl, trivial⟩ ?_ ?_
                          · refine RD.nil (hK29 _ _ ?_)
                            refine T.condP rfl (fun hc63 => ?_) (fun hc63 => ?_)
                            · have H := ifT hc63 H
                              refine T.conseq (fr' := []) ?_ trivial (fun _ s => s)
                              refine T.seq fun K30 hK30 => ?_
                              refine T.region ?_
                              refine RS.p (Pu.assign rfl) rfl rfl ?_
                              refine RS.nil (hK30 _ _ ?_)
                              obtain rfl := hd12 _ H
                              have H := HX12
                              obtain rfl := Option.some.inj H
                              refine T.retTo (by with_reducible ((repeat (first | apply RetTo.seq | apply RetTo.blk)); exact RetTo.refl _)) (Cont.ret1 rfl rfl fun w' s => ?_)
                              exact ⟨rfl, s.ext⟩
                            · have H := ifF hc63 H
                              refine T.skip (hK28 _ _ ?_)
                              refine T.seq fun K31 hK31 => ?_
                              refine T.region ?_
                              refine RS.p (Pu.move rfl) rfl rfl ?_
                              obtain ⟨g64, H⟩ := gdE H
                              refine RS.p (Pu.addS rfl rfl g64) rfl rfl ?_
                              refine RS.p (Pu.assign rfl) rfl rfl ?_
                              refine RS.nil (hK31 _ _ (T.conseq (fr' := [(1, _), (3, _), (5, _), (6, _), (7, _), (13, _)]) ?_ ⟨rfl, rfl, rfl, rfl, rfl, rfl, trivial⟩ (fun _ s => s)))
                              refine T.seq fun K32 hK32 => ?_
                              refine T.seq fun K33 hK33 => ?_
                              refine T.drawn (fun _ => True) [(0, .pu), (1, .pu), (2, .rd), (3, .pu), (4, .pu), (5, .rd), (6, .pu), (7, .pu), (8, .pu), (9, .pu), (10, .rd), (11, .pu), (12, .pu), (13, .rd), (14, .pu), (15, .pu), (16, .rd), (17, .pu), (18, .pu), (19, .rd), (20, .pu), (21, .pu), (22, .pu), (23, .pu), (24, .pu), (25, .rd), (26, .pu), (27, .pu), (28, .pu), (29, .rd), (30, .pu), (31, .pu)] mixed (ClE.sat _ _) (by kernel_rfl) ?_
                              refine RD.p (fun _ _ => trivial) rfl (Pu.move rfl) rfl rfl ?_
                              refine RD.p (fun _ _ => trivial) rfl (Pu.fieldAddr fd41_0 rfl) rfl rfl ?_
                              refine RD.q (fun _ _ => trivial) rfl (Qt.ldB 0 ty3 rfl rfl rfl) rfl rfl ?_
                              obtain ⟨g65, H⟩ := gdE H
                              refine RD.p (fun _ _ => trivial) rfl (Pu.remN rfl rfl (and3 g65)) rfl rfl ?_
                              refine RD.p (fun _ _ => trivial) rfl (Pu.fieldAddr fd41_0 rfl) rfl rfl ?_
                              refine RD.q (fun _ _ => trivial) rfl (Qt.ldB 0 ty3 rfl rfl rfl) rfl rfl ?_
                              obtain ⟨g66, H⟩ := gdE H
                              refine RD.p (fun _ _ => trivial) rfl (Pu.subS rfl rfl g66) rfl rfl ?_
                              refine RD.p (fun _ _ => trivial) rfl (Pu.bin rfl rfl rfl) rfl rfl ?_
                              refine RD.p (fun _ _ => trivial) rfl (Pu.move rfl) rfl rfl ?_
                              obtain ⟨g69, H⟩ := gdE H
                              refine RD.joinV 6 165 (.bool (decide (((v21 % a0_p.W) < (a0_p.W - 1)) ∧ ((gi a0_p.Free (v21 + 1)) = true)))) [(1, _), (3, _), (5, _), (6, _), (7, _), (13, _)] ⟨rfl, rfl, rfl, rfl, rfl, rfl, trivial⟩ ?_ ?_
                              · refine RD.p (fun _ _ => trivial) rfl (Pu.move rfl) rfl rfl ?_
                                refine RD.joinB H 5 171 (fun b72 => .bool b72) [(1, _), (3, _), (5, _), (6, _), (7, _), (13, _)] ⟨rfl, rfl, rfl, rfl, rfl, rfl, trivial⟩ ?_ ?_
                                · intro b72 H
                                  refine RD.p (fun _ _ => trivial) rfl (Pu.move rfl) rfl rfl ?_
                                  obtain ⟨g75, H⟩ := gdE H
                                  obtain ⟨g76, H⟩ := gdE H
                                  refine RD.joinV 10 182 (.bool (decide ((b72 = true) ∧ (¬ (gi x4.1 (v21 + 1)) = (gi x4.1 v21))))) [(1, _), (3, _), (5, _), (6, _), (7, _)] ⟨rfl, rfl, rfl, rfl, rfl, trivial⟩ ?_ ?_
                                  · refine RD.nil (hK33 _ _ ?_)
                                    refine T.condP rfl (fun hc77 => ?_) (fun hc77 => ?_)
                                    · have H := ifT hc77 H
                                      refine T.conseq (fr' := []) ?_ trivial (fun _ s => s)
                                      refine T.seq fun K34 hK34 => ?_
                                      refine T.region ?_
                                      refine RS.p (Pu.assign rfl) rfl rfl ?_
                                      refine RS.nil (hK34 _ _ ?_)
                                      obtain rfl := hd12 _ H
                                      have H := HX12
                                      obtain rfl := Option.some.inj H
                                      refine T.retTo (by with_reducible ((repeat (first | apply RetTo.seq | apply RetTo.blk)); exact RetTo.refl _)) (Cont.ret1 rfl rfl fun w' s => ?_)
                                      exact ⟨rfl, s.ext⟩
                                    · have H := ifF hc77 H
                                      refine T.skip (hK32 _ _ ?_)
                                      refine T.seq fun K35 hK35 => ?_
                                      refine T.region ?_
                                      refine RS.p (Pu.move rfl) rfl rfl ?_
                                      refine RS.p (Pu.fieldAddr fd41_0 rfl) rfl rfl ?_
                                      refine RS.q (Qt.ldB 0 ty3 rfl rfl rfl) rfl rfl ?_
                                      obtain ⟨g78, H⟩ := gdE H
                                      refine RS.p (Pu.addS rfl rfl g78) rfl rfl ?_
                                      refine RS.p (Pu.assign rfl) rfl rfl ?_
                                      refine RS.nil (hK35 _ _ (T.conseq (fr' := [(1, _), (3, _), (5, _), (6, _), (7, _), (13, _)]) ?_ ⟨rfl, rfl, rfl, rfl, rfl, rfl, trivial⟩ (fun _ s => s)))
                                      refine T.seq fun K36 hK36 => ?_
                                      refine T.drawn (fun _ => True) [(0, .pu), (1, .pu), (2, .rd), (3, .pu), (4, .pu), (5, .rd), (6, .pu), (7, .pu), (8, .pu), (9, .pu), (10, .rd), (11, .pu), (12, .pu), (13, .rd), (14, .pu), (15, .pu), (16, .rd), (17, .pu), (18, .pu), (19, .rd), (20, .pu), (21, .pu), (22, .pu), (23, .pu), (24, .pu), (25, .rd), (26, .pu), (27, .pu), (28, .pu), (29, .rd), (30, .pu), (31, .pu)] mixed (ClE.sat _ _) (by kernel_rfl) ?_
                                      refine RD.p (fun _ _ => trivial) rfl (Pu.move rfl) rfl rfl ?_
                                      refine RD.p (fun _ _ => trivial) rfl (Pu.fieldAddr fd41_0 rfl) rfl rfl ?_
                                      refine RD.q (fun _ _ => trivial) rfl (Qt.ldB 0 ty3 rfl rfl rfl) rfl rfl ?_
                                      obtain ⟨g79, H⟩ := gdE H
                                      refine RD.p (fun _ _ => trivial) rfl (Pu.quoN rfl rfl g79) rfl rfl ?_
                                      refine RD.p (fun _ _ => trivial) rfl (Pu.fieldAddr fd41_1 rfl) rfl rfl ?_
                                      refine RD.q (fun _ _ => trivial) rfl (Qt.ldB 0 ty3 rfl rfl rfl) rfl rfl ?_
                                      obtain ⟨g80, H⟩ := gdE H
                                      refine RD.p (fun _ _ => trivial) rfl (Pu.subS rfl rfl g80) rfl rfl ?_
                                      refine RD.p (fun _ _ => trivial) rfl (Pu.bin rfl rfl rfl) rfl rfl ?_
                                      refine RD.p (fun _ _ => trivial) rfl (Pu.move rfl) rfl rfl ?_
                                      obtain ⟨g83, H⟩ := gdE H
                                      refine RD.joinV 6 201 (.bool (decide (((v21 / a0_p.W) < (a0_p.H - 1)) ∧ ((gi a0_p.Free (v21 + a0_p.W)) = true)))) [(1, _), (3, _), (5, _), (6, _), (7, _), (13, _)] ⟨rfl, rfl, rfl, rfl, rfl, rfl, trivial⟩ ?_ ?_
                                      · refine RD.p (fun _ _ => trivial) rfl (Pu.move rfl) rfl rfl ?_
                                        refine RD.joinB H 5 207 (fun b86 => .bool b86) [(1, _), (3, _), (5, _), (6, _), (13, _)] ⟨rfl, rfl, rfl, rfl, rfl, trivial⟩ ?_ ?_
                                        · intro b86 H
                                          refine RD.p (fun _ _ => trivial) rfl (Pu.move rfl) rfl rfl ?_
                                          obtain ⟨g89, H⟩ := gdE H
                                          obtain ⟨g90, H⟩ := gdE H
                                          refine RD.joinV 10 218 (.bool (decide ((b86 = true) ∧ (¬ (gi x4.1 (v21 + a0_p.W)) = (gi x4.1 v21))))) [(1, _), (3, _), (5, _), (6, _)] ⟨rfl, rfl, rfl, rfl, trivial⟩ ?_ ?_
                                          · refine RD.nil (hK36 _ _ ?_)
                                            refine T.condP rfl (fun hc91 => ?_) (fun hc91 => ?_)
                                            · have H := ifT hc91 H
                                              refine T.conseq (fr' := []) ?_ trivial (fun _ s => s)
                                              refine T.seq fun K37 hK37 => ?_
                                              refine T.region ?_
                                              refine RS.p (Pu.assign rfl) rfl rfl ?_
                                              refine RS.nil (hK37 _ _ ?_)
                                              obtain rfl := hd12 _ H
                                              have H := HX12
                                              obtain rfl := Option.some.inj H
                                              refine T.retTo (by with_reducible ((repeat (first | apply RetTo.seq | apply RetTo.blk)); exact RetTo.refl _)) (Cont.ret1 rfl rfl fun w' s => ?_)
                                              exact ⟨rfl, s.ext⟩
                                            · have H := ifF hc91 H
                                              refine T.skip (hK18 _ _ ?_)
                                              refine T.region ?_
                                              refine RS.p (Pu.move rfl) rfl rfl ?_
                                              obtain ⟨g92, H⟩ := gdE H
                                              refine RS.p (Pu.addS rfl rfl g92) rfl rfl ?_
                                              refine RS.p (Pu.assign rfl) rfl rfl ?_
                                              refine RS.nil (hL12 _ _ ((v21 + 1), v44) q45 H ⟨rfl, rfl, trivial⟩ ⟨rfl, rfl, trivial⟩ (fun w s => s.pick [0, 1, 3] (by decide) rfl))
                                          · intro hJ88
                                            refine RD.split 208 rfl (fun hc87 => ?_) (fun hc87 => ?_)
                                            · refine RD.p (fun _ _ => trivial) rfl (Pu.move rfl) rfl rfl ?_
                                              refine RD.p (fun _ _ => trivial) rfl (Pu.move rfl) rfl rfl ?_
                                              refine RD.p (fun _ _ => trivial) rfl (Pu.indexSl sl26 rfl rfl (g89 hc87)) rfl rfl ?_
                                              refine RD.q (fun _ _ => trivial) rfl (Qt.ld0 (α := Int) (Rd.ofRowN 1 rfl) ty3 rfl rfl (g89 hc87) (by rintro _ _ rfl; rfl)) rfl rfl ?_
                                              refine RD.p (fun _ _ => trivial) rfl (Pu.move rfl) rfl rfl ?_
                                              refine RD.p (fun _ _ => trivial) rfl (Pu.move rfl) rfl rfl ?_
                                              refine RD.p (fun _ _ => trivial) rfl (Pu.indexSl sl26 rfl rfl (g90 hc87)) rfl rfl ?_
                                              refine RD.q (fun _ _ => trivial) rfl (Qt.ld0 (α := Int) (Rd.ofRowN 1 rfl) ty3 rfl rfl (g90 hc87) (by rintro _ _ rfl; rfl)) rfl rfl ?_
                                              refine RD.p (fun _ _ => trivial) rfl (Pu.bin rfl rfl rfl) rfl rfl ?_
                                              refine RD.p (fun _ _ => trivial) rfl (Pu.pickT rfl rfl) rfl rfl ?_
                                              exact hJ88 _ ⟨dAndT hc87, rfl, rfl, rfl, rfl, trivial⟩
                                            · refine RD.no (fun _ _ => trivial) rfl rfl rfl (.inl rfl) ?_
                                              refine RD.no (fun _ _ => trivial) rfl rfl rfl (.inl rfl) ?_
                                              refine RD.no (fun _ _ => trivial) rfl rfl rfl (.inl rfl) ?_
                                              refine RD.no (fun _ _ => trivial) rfl rfl rfl (.inr (.inr rfl)) ?_
                                              refine RD.no (fun _ _ => trivial) rfl rfl rfl (.inl rfl) ?_
                                              refine RD.no (fun _ _ => trivial) rfl rfl rfl (.inl rfl) ?_
                                              refine RD.no (fun _ _ => trivial) rfl rfl rfl (.inl rfl) ?_
                                              refine RD.no (fun _ _ => trivial) rfl rfl rfl (.inr (.inr rfl)) ?_
                                              refine RD.no (fun _ _ => trivial) rfl rfl rfl (.inl rfl) ?_
                                              refine RD.p (fun _ _ => trivial) rfl (Pu.pickF rfl rfl) rfl rfl ?_
                                              exact hJ88 _ ⟨dAndF (bne_of hc87), rfl, rfl, rfl, rfl, trivial⟩
                                        · intro z93 H hJ85
                                          refine RD.splitP 202 rfl (fun hc84 => ?_) (fun hc84 => ?_)
                                          · have H := ifT hc84 H
                                            refine RD.q (fun _ _ => trivial) rfl (Qt.ldBA (us := [_, _, _, _, _]) 0 ty41 rfl rfl rfl rfl) rfl rfl ?_
                                            refine RD.p (fun _ _ => trivial) rfl (Pu.move rfl) rfl rfl ?_
                                            refine RD.p (fun _ _ => trivial) rfl (Pu.move rfl) rfl rfl ?_
                                            obtain ⟨x94, hx94, H⟩ := bindE H
                                            refine RD.q (fun _ _ => trivial) rfl (Qt.call ent39 rfl fun w s => thronglaw10_same_walk a0_p (v21 + a0_p.W) x27.1 w ((Rd.base h0) w s) ((Rd.base h1) w s) ((Rd.base h2) w s) hx94) rfl rfl ?_
                                            refine RD.p (fun _ _ => trivial) rfl (Pu.pickT rfl rfl) rfl rfl ?_
                                            obtain rfl := Option.some.inj H
                                            exact hJ85 _ ⟨rfl, rfl, rfl, rfl, rfl, rfl, trivial⟩
                                          · have H := ifF hc84 H
                                            refine RD.no (fun _ _ => trivial) rfl rfl rfl (.inr (.inr rfl)) ?_
                                            refine RD.no (fun _ _ => trivial) rfl rfl rfl (.inl rfl) ?_
                                            refine RD.no (fun _ _ => trivial) rfl rfl rfl (.inl rfl) ?_
                                            refine RD.no (fun _ _ => trivial) rfl rfl rfl (.inr (.inr rfl)) ?_
                                            refine RD.p (fun _ _ => trivial) rfl (Pu.pickF rfl rfl) rfl rfl ?_
                                            obtain rfl := Option.some.inj H
                                            exact hJ85 _ ⟨rfl, rfl, rfl, rfl, rfl, rfl, trivial⟩
                                      · intro hJ82
                                        refine RD.splitP 195 rfl (fun hc81 => ?_) (fun hc81 => ?_)
                                        · refine RD.p (fun _ _ => trivial) rfl (Pu.fieldAddr fd41_2 rfl) rfl rfl ?_
                                          refine RD.q (fun _ _ => trivial) rfl (Qt.ldB 0 ty39 rfl rfl rfl) rfl rfl ?_
                                          refine RD.p (fun _ _ => trivial) rfl (Pu.move rfl) rfl rfl ?_
                                          refine RD.p (fun _ _ => trivial) rfl (Pu.indexSl sl39 rfl rfl (g83 hc81)) rfl rfl ?_
                                          refine RD.q (fun _ _ => trivial) rfl (Qt.ld0 (α := Bool) (Rd.base h0) ty4 rfl rfl (g83 hc81) (by rintro _ _ rfl; rfl)) rfl rfl ?_
                                          refine RD.p (fun _ _ => trivial) rfl (Pu.pickT rfl rfl) rfl rfl ?_
                                          exact hJ82 _ ⟨dAndTB hc81, rfl, rfl, rfl, rfl, rfl, rfl, trivial⟩
                                        · refine RD.no (fun _ _ => trivial) rfl rfl rfl (.inl rfl) ?_
                                          refine RD.no (fun _ _ => trivial) rfl rfl rfl (.inr (.inr rfl)) ?_
                                          refine RD.no (fun _ _ => trivial) rfl rfl rfl (.inl rfl) ?_
                                          refine RD.no (fun _ _ => trivial) rfl rfl rfl (.inl rfl) ?_
                                          refine RD.no (fun _ _ => trivial) rfl rfl rfl (.inr (.inr rfl)) ?_
                                          refine RD.p (fun _ _ => trivial) rfl (Pu.pickF rfl rfl) rfl rfl ?_
                                          exact hJ82 _ ⟨dAndF hc81, rfl, rfl, rfl, rfl, rfl, rfl, trivial⟩
                                  · intro hJ74
                                    refine RD.split 172 rfl (fun hc73 => ?_) (fun hc73 => ?_)
                                    · refine RD.p (fun _ _ => trivial) rfl (Pu.move rfl) rfl rfl ?_
                                      refine RD.p (fun _ _ => trivial) rfl (Pu.move rfl) rfl rfl ?_
                                      refine RD.p (fun _ _ => trivial) rfl (Pu.indexSl sl26 rfl rfl (g75 hc73)) rfl rfl ?_
                                      refine RD.q (fun _ _ => trivial) rfl (Qt.ld0 (α := Int) (Rd.ofRowN 1 rfl) ty3 rfl rfl (g75 hc73) (by rintro _ _ rfl; rfl)) rfl rfl ?_
                                      refine RD.p (fun _ _ => trivial) rfl (Pu.move rfl) rfl rfl ?_
                                      refine RD.p (fun _ _ => trivial) rfl (Pu.move rfl) rfl rfl ?_
                                      refine RD.p (fun _ _ => trivial) rfl (Pu.indexSl sl26 rfl rfl (g76 hc73)) rfl rfl ?_
                                      refine RD.q (fun _ _ => trivial) rfl (Qt.ld0 (α := Int) (Rd.ofRowN 1 rfl) ty3 rfl rfl (g76 hc73) (by rintro _ _ rfl; rfl)) rfl rfl ?_
                                      refine RD.p (fun _ _ => trivial) rfl (Pu.bin rfl rfl rfl) rfl rfl ?_
                                      refine RD.p (fun _ _ => trivial) rfl (Pu.pickT rfl rfl) rfl rfl ?_
                                      exact hJ74 _ ⟨dAndT hc73, rfl, rfl, rfl, rfl, rfl, trivial⟩
                                    · refine RD.no (fun _ _ => trivial) rfl rfl rfl (.inl rfl) ?_
                                      refine RD.no (fun _ _ => trivial) rfl rfl rfl (.inl rfl) ?_
                                      refine RD.no (fun _ _ => trivial) rfl rfl rfl (.inl rfl) ?_
                                      refine RD.no (fun _ _ => trivial) rfl rfl rfl (.inr (.inr rfl)) ?_
                                      refine RD.no (fun _ _ => trivial) rfl rfl rfl (.inl rfl) ?_
                                      refine RD.no (fun _ _ => trivial) rfl rfl rfl (.inl rfl) ?_
                                      refine RD.no (fun _ _ => trivial) rfl rfl rfl (.inl rfl) ?_
                                      refine RD.no (fun _ _ => trivial) rfl rfl rfl (.inr (.inr rfl)) ?_
                                      refine RD.no (fun _ _ => trivial) rfl rfl rfl (.inl rfl) ?_
                                      refine RD.p (fun _ _ => trivial) rfl (Pu.pickF rfl rfl) rfl rfl ?_
                                      exact hJ74 _ ⟨dAndF (bne_of hc73), rfl, rfl, rfl, rfl, rfl, trivial⟩
                                · intro z95 H hJ71
                                  refine RD.splitP 166 rfl (fun hc70 => ?_) (fun hc70 => ?_)
                                  · have H := ifT hc70 H
                                    refine RD.q (fun _ _ => trivial) rfl (Qt.ldBA (us := [_, _, _, _, _]) 0 ty41 rfl rfl rfl rfl) rfl rfl ?_
                                    refine RD.p (fun _ _ => trivial) rfl (Pu.move rfl) rfl rfl ?_
                                    refine RD.p (fun _ _ => trivial) rfl (Pu.move rfl) rfl rfl ?_
                                    obtain ⟨x96, hx96, H⟩ := bindE H
                                    refine RD.q (fun _ _ => trivial) rfl (Qt.call ent39 rfl fun w s => thronglaw10_same_walk a0_p (v21 + 1) x27.1 w ((Rd.base h0) w s) ((Rd.base h1) w s) ((Rd.base h2) w s) hx96) rfl rfl ?_
                                    refine RD.p (fun _ _ => trivial) rfl (Pu.pickT rfl rfl) rfl rfl ?_
                                    obtain rfl := Option.some.inj H
                                    exact hJ71 _ ⟨rfl, rfl, rfl, rfl, rfl, rfl, rfl, trivial⟩
                                  · have H := ifF hc70 H
                                    refine RD.no (fun _ _ => trivial) rfl rfl rfl (.inr (.inr rfl)) ?_
                                    refine RD.no (fun _ _ => trivial) rfl rfl rfl (.inl rfl) ?_
                                    refine RD.no (fun _ _ => trivial) rfl rfl rfl (.inl rfl) ?_
                                    refine RD.no (fun _ _ => trivial) rfl rfl rfl (.inr (.inr rfl)) ?_
                                    refine RD.p (fun _ _ => trivial) rfl (Pu.pickF rfl rfl) rfl rfl ?_
                                    obtain rfl := Option.some.inj H
                                    exact hJ71 _ ⟨rfl, rfl, rfl, rfl, rfl, rfl, rfl, trivial⟩
                              · intro hJ68
                                refine RD.splitP 159 rfl (fun hc67 => ?_) (fun hc67 => ?_)
                                · refine RD.p (fun _ _ => trivial) rfl (Pu.fieldAddr fd41_2 rfl) rfl rfl ?_
                                  refine RD.q (fun _ _ => trivial) rfl (Qt.ldB 0 ty39 rfl rfl rfl) rfl rfl ?_
                                  refine RD.p (fun _ _ => trivial) rfl (Pu.move rfl) rfl rfl ?_
                                  refine RD.p (fun _ _ => trivial) rfl (Pu.indexSl sl39 rfl rfl (g69 hc67)) rfl rfl ?_
                                  refine RD.q (fun _ _ => trivial) rfl (Qt.ld0 (α := Bool) (Rd.base h0) ty4 rfl rfl (g69 hc67) (by rintro _ _ rfl; rfl)) rfl rfl ?_
                                  refine RD.p (fun _ _ => trivial) rfl (Pu.pickT rfl rfl) rfl rfl ?_
                                  exact hJ68 _ ⟨dAndTB hc67, rfl, rfl, rfl, rfl, rfl, rfl, trivial⟩
                                · refine RD.no (fun _ _ => trivial) rfl rfl rfl (.inl rfl) ?_
                                  refine RD.no (fun _ _ => trivial) rfl rfl rfl (.inr (.inr rfl)) ?_
                                  refine RD.no (fun _ _ => trivial) rfl rfl rfl (.inl rfl) ?_
                                  refine RD.no (fun _ _ => trivial) rfl rfl rfl (.inl rfl) ?_
                                  refine RD.no (fun _ _ => trivial) rfl rfl rfl (.inr (.inr rfl)) ?_
                                  refine RD.p (fun _ _ => trivial) rfl (Pu.pickF rfl rfl) rfl rfl ?_
                                  exact hJ68 _ ⟨dAndF hc67, rfl, rfl, rfl, rfl, rfl, rfl, trivial⟩
                          · intro hJ59
                            refine RD.splitP 135 rfl (fun hc58 => ?_) (fun hc58 => ?_)
                            · refine RD.no (fun _ _ => trivial) rfl rfl rfl (.inl rfl) ?_
                              refine RD.no (fun _ _ => trivial) rfl rfl rfl (.inl rfl) ?_
                              refine RD.no (fun _ _ => trivial) rfl rfl rfl (.inl rfl) ?_
                              refine RD.no (fun _ _ => trivial) rfl rfl rfl (.inl rfl) ?_
                              refine RD.no (fun _ _ => trivial) rfl rfl rfl (.inr (.inr rfl)) ?_
                              refine RD.no (fun _ _ => trivial) rfl rfl rfl (.inl rfl) ?_
                              refine RD.no (fun _ _ => trivial) rfl rfl rfl (.inr (.inr rfl)) ?_
                              refine RD.no (fun _ _ => trivial) rfl rfl rfl (.inl rfl) ?_
                              refine RD.no (fun _ _ => trivial) rfl rfl rfl (.inl rfl) ?_
                              refine RD.no (fun _ _ => trivial) rfl rfl rfl (.inl rfl) ?_
                              refine RD.no (fun _ _ => trivial) rfl rfl rfl (.inr (.inr rfl)) ?_
                              refine RD.no (fun _ _ => trivial) rfl rfl rfl (.inl rfl) ?_
                              refine RD.p (fun _ _ => trivial) rfl (Pu.pickT rfl rfl) rfl rfl ?_
                              exact hJ59 _ ⟨dOrT hc58, rfl, rfl, rfl, rfl, rfl, trivial⟩
                            · refine RD.p (fun _ _ => trivial) rfl (Pu.move rfl) rfl rfl ?_
                              refine RD.p (fun _ _ => trivial) rfl (Pu.move rfl) rfl rfl ?_
                              refine RD.p (fun _ _ => trivial) rfl (Pu.move rfl) rfl rfl ?_
                              refine RD.p (fun _ _ => trivial) rfl (Pu.indexSl sl26 rfl rfl (g60 hc58)) rfl rfl ?_
                              refine RD.q (fun _ _ => trivial) rfl (Qt.ld0 (α := Int) (Rd.ofRowN 1 rfl) ty3 rfl rfl (g60 hc58) (by rintro _ _ rfl; rfl)) rfl rfl ?_
                              refine RD.p (fun _ _ => trivial) rfl (Pu.indexSl sl26 rfl rfl (g61 hc58)) rfl rfl ?_
                              refine RD.q (fun _ _ => trivial) rfl (Qt.ld0 (α := Int) (Rd.ofRowN 1 rfl) ty3 rfl rfl (g61 hc58) (by rintro _ _ rfl; rfl)) rfl rfl ?_
                              refine RD.p (fun _ _ => trivial) rfl (Pu.move rfl) rfl rfl ?_
                              refine RD.p (fun _ _ => trivial) rfl (Pu.move rfl) rfl rfl ?_
                              refine RD.p (fun _ _ => trivial) rfl (Pu.indexSl sl26 rfl rfl (g62 hc58)) rfl rfl ?_
                              refine RD.q (fun _ _ => trivial) rfl (Qt.ld0 (α := Int) (Rd.ofRowN 1 rfl) ty3 rfl rfl (g62 hc58) (by rintro _ _ rfl; rfl)) rfl rfl ?_
                              refine RD.p (fun _ _ => trivial) rfl (Pu.bin rfl rfl rfl) rfl rfl ?_
                              refine RD.p (fun _ _ => trivial) rfl (Pu.pickF rfl rfl) rfl rfl ?_
                              exact hJ59 _ ⟨dOrF hc58, rfl, rfl, rfl, rfl, rfl, trivial⟩
                        · intro hJ57
                          refine RD.splitP 130 rfl (fun hc56 => ?_) (fun hc56 => ?_)
                          · refine RD.no (fun _ _ => trivial) rfl rfl rfl (.inl rfl) ?_
                            refine RD.no (fun _ _ => trivial) rfl rfl rfl (.inl rfl) ?_
                            refine RD.no (fun _ _ => trivial) rfl rfl rfl (.inl rfl) ?_
                            refine RD.p (fun _ _ => trivial) rfl (Pu.pickT rfl rfl) rfl rfl ?_
                            exact hJ57 _ ⟨dOrT hc56, rfl, rfl, rfl, rfl, rfl, trivial⟩
                          · refine RD.p (fun _ _ => trivial) rfl (Pu.move rfl) rfl rfl ?_
                            refine RD.p (fun _ _ => trivial) rfl (Pu.move rfl) rfl rfl ?_
                            refine RD.p (fun _ _ => trivial) rfl (Pu.bin rfl rfl rfl) rfl rfl ?_
                            refine RD.p (fun _ _ => trivial) rfl (Pu.pickF rfl rfl) rfl rfl ?_
                            exact hJ57 _ ⟨dOrF hc56, rfl, rfl, rfl, rfl, rfl, trivial⟩
                    · intro z43 H HX43 hJ43
                      refine T.condP rfl (fun hc97 => ?_) (fun hc97 => ?_)
                      · have H := ifT hc97 H
                        refine T.seq fun K38 hK38 => ?_
                        refine T.region ?_
                        refine RS.p (Pu.fieldAddr fd41_0 rfl) rfl rfl ?_
                        refine RS.q (Qt.ldB 0 ty3 rfl rfl rfl) rfl rfl ?_
                        refine RS.p (Pu.fieldAddr fd41_1 rfl) rfl rfl ?_
                        refine RS.q (Qt.ldB 0 ty3 rfl rfl rfl) rfl rfl ?_
                        refine RS.p (Pu.fieldAddr fd41_2 rfl) rfl rfl ?_
                        refine RS.q (Qt.ldB 0 ty39 rfl rfl rfl) rfl rfl ?_
                        refine RS.p (Pu.move rfl) rfl rfl ?_
                        refine RS.p (Pu.move rfl) rfl rfl ?_
                        obtain ⟨x98, hx98, H⟩ := bindE H
                        refine RS.solid (Sd.callN ent38 rfl (fun w s => sector_Redo_walk a0_p.W a0_p.H a0_p.Free l22 v21 w ((Rd.base h0) w s) ((Rd.ofRowN 2 rfl) w s) hx98)) rfl rfl fun q99 => ?_
                        refine RS.p (Pu.move rfl) rfl rfl ?_
                        refine RS.p (Pu.extract rfl rfl) rfl rfl ?_
                        refine RS.p (Pu.extract rfl rfl) rfl rfl ?_
                        refine RS.p (Pu.assign rfl) rfl rfl ?_
                        refine RS.p (Pu.assign rfl) rfl rfl ?_
                        refine RS.nil (hK38 _ _ (T.conseq (fr' := [(1, _), (3, _), (6, _), (7, _), (9, _), (10, _)]) ?_ ⟨rfl, rfl, rfl, rfl, rfl, rfl, trivial⟩ (fun _ s => s)))
                        refine T.seq fun K39 hK39 => ?_
                        refine T.seq fun K40 hK40 => ?_
                        refine T.region ?_
                        refine RS.p (Pu.move rfl) rfl rfl ?_
                        obtain ⟨x100, hx100, H⟩ := bindE H
                        refine RS.q (Qt.call ent28 rfl fun w s => thronglaw10_num_walk x98.2 w  hx100) rfl rfl ?_
                        refine RS.p (Pu.bin rfl rfl rfl) rfl rfl ?_
                        refine RS.nil (hK40 _ _ ?_)
                        refine T.condP rfl (fun hc101 => ?_) (fun hc101 => ?_)
                        · have H := ifT hc101 H
                          refine T.conseq (fr' := []) ?_ trivial (fun _ s => s)
                          refine T.seq fun K41 hK41 => ?_
                          refine T.region ?_
                          refine RS.p (Pu.assign rfl) rfl rfl ?_
                          refine RS.nil (hK41 _ _ ?_)
                          obtain rfl := Option.some.inj H
                          have H := HX43
                          obtain rfl := hd12 _ H
                          have H := HX12
                          obtain rfl := Option.some.inj H
                          refine T.retTo (by with_reducible ((repeat (first | apply RetTo.seq | apply RetTo.blk)); exact RetTo.refl _)) (Cont.ret1 rfl rfl fun w' s => ?_)
                          exact ⟨rfl, s.ext⟩
                        · have H := ifF hc101 H
                          refine T.skip (hK39 _ _ (T.conseq (fr' := [(1, _), (3, _), (6, _), (7, _), (9, _)]) ?_ ⟨rfl, rfl, rfl, rfl, rfl, trivial⟩ (fun _ s => s)))
                          refine T.region ?_
                          refine RS.p (Pu.move rfl) rfl rfl ?_
                          refine RS.p (Pu.assign rfl) rfl rfl ?_
                          obtain rfl := Option.some.inj H
                          refine RS.nil (hJ43 _ _ x98.1 q99 HX43 ⟨rfl, rfl, rfl, rfl, trivial⟩ ⟨rfl, trivial⟩ (fun w s => (s.deadRow).pick [0, 1, 4, 3] (by decide) rfl))
                      · have H := ifF hc97 H
                        obtain rfl := Option.some.inj H
                        refine T.skip (hJ43 _ _ l22 q23 HX43 ⟨rfl, rfl, rfl, rfl, trivial⟩ ⟨rfl, trivial⟩ (fun w s => (s.deadRow).pick [0, 1, 3, 2] (by decide) rfl))
                  · intro hJ40
                    refine RS.splitP 85 rfl (fun hc39 => ?_) (fun hc39 => ?_)
                    · refine RS.p (Pu.move rfl) rfl rfl ?_
                      refine RS.p (Pu.fieldAddr fd41_0 rfl) rfl rfl ?_
                      refine RS.q (Qt.ldB 0 ty3 rfl rfl rfl) rfl rfl ?_
                      refine RS.p (Pu.quoN rfl rfl (g41 hc39)) rfl rfl ?_
                      refine RS.p (Pu.remN rfl rfl (and3 ⟨(g42 hc39).1, (g42 hc39).2, by decide⟩)) rfl rfl ?_
                      refine RS.p (Pu.bin rfl rfl rfl) rfl rfl ?_
                      refine RS.p (Pu.pickT rfl rfl) rfl rfl ?_
                      exact hJ40 _ _ ⟨dAndT hc39, rfl, rfl, rfl, rfl, rfl, trivial⟩ (fun w s => s)
                    · refine RS.no rfl rfl ?_
                      refine RS.no rfl rfl ?_
                      refine RS.no rfl rfl ?_
                      refine RS.no rfl rfl ?_
                      refine RS.no rfl rfl ?_
                      refine RS.no rfl rfl ?_
                      refine RS.p (Pu.pickF rfl rfl) rfl rfl ?_
                      exact hJ40 _ _ ⟨dAndF hc39, rfl, rfl, rfl, rfl, rfl, trivial⟩ (fun w s => s)
              · intro hJ34
                refine RD.splitP 71 rfl (fun hc33 => ?_) (fun hc33 => ?_)
                · refine RD.no (fun _ _ => trivial) rfl rfl rfl (.inl rfl) ?_
                  refine RD.no (fun _ _ => trivial) rfl rfl rfl (.inl rfl) ?_
                  refine RD.no (fun _ _ => trivial) rfl rfl rfl (.inl rfl) ?_
                  refine RD.no (fun _ _ => trivial) rfl rfl rfl (.inr (.inr rfl)) ?_
                  refine RD.no (fun _ _ => trivial) rfl rfl rfl (.inl rfl) ?_
                  refine RD.no (fun _ _ => trivial) rfl rfl rfl (.inl rfl) ?_
                  refine RD.p (fun _ _ => trivial) rfl (Pu.pickT rfl rfl) rfl rfl ?_
                  exact hJ34 _ ⟨dOrT hc33, rfl, rfl, rfl, rfl, rfl, trivial⟩
                · refine RD.p (fun _ _ => trivial) rfl (Pu.move rfl) rfl rfl ?_
                  refine RD.p (fun _ _ => trivial) rfl (Pu.move rfl) rfl rfl ?_
                  refine RD.know (p := ∃ g cap, q5 = (some g, cap)) (fun w s => s.row_some (k := 1) rfl (pos_of (g35 hc33))) ?_
                  rintro ⟨gg102, cc103, rfl⟩
                  refine RD.p (fun _ _ => trivial) rfl (Pu.indexSl sl26 rfl rfl (g35 hc33)) rfl rfl ?_
                  refine RD.q (fun _ _ => trivial) rfl (Qt.ld0 (α := Int) (Rd.ofRowN 1 rfl) ty3 rfl rfl (g35 hc33) (by rintro _ _ rfl; rfl)) rfl rfl ?_
                  refine RD.p (fun _ _ => trivial) rfl (Pu.move rfl) rfl rfl ?_
                  refine RD.p (fun _ _ => trivial) rfl (Pu.bin rfl rfl rfl) rfl rfl ?_
                  refine RD.p (fun _ _ => trivial) rfl (Pu.pickF rfl rfl) rfl rfl ?_
                  exact hJ34 _ ⟨dOrF hc33, rfl, rfl, rfl, rfl, rfl, trivial⟩
            · intro hJ30
              refine RD.splitP 58 rfl (fun hc29 => ?_) (fun hc29 => ?_)
              · refine RD.no (fun _ _ => trivial) rfl rfl rfl (.inl rfl) ?_
                refine RD.no (fun _ _ => trivial) rfl rfl rfl (.inl rfl) ?_
                refine RD.no (fun _ _ => trivial) rfl rfl rfl (.inl rfl) ?_
                refine RD.no (fun _ _ => trivial) rfl rfl rfl (.inr (.inr rfl)) ?_
                refine RD.no (fun _ _ => trivial) rfl rfl rfl (.inl rfl) ?_
                refine RD.no (fun _ _ => trivial) rfl rfl rfl (.inl rfl) ?_
                refine RD.no (fun _ _ => trivial) rfl rfl rfl (.inr (.inr rfl)) ?_
                refine RD.no (fun _ _ => trivial) rfl rfl rfl (.inl rfl) ?_
                refine RD.no (fun _ _ => trivial) rfl rfl rfl (.inl rfl) ?_
                refine RD.no (fun _ _ => trivial) rfl rfl rfl (.inr (.inr rfl)) ?_
                refine RD.no (fun _ _ => trivial) rfl rfl rfl (.inl rfl) ?_
                refine RD.p (fun _ _ => trivial) rfl (Pu.pickT rfl rfl) rfl rfl ?_
                exact hJ30 _ ⟨dOrT hc29, rfl, rfl, rfl, rfl, rfl, trivial⟩
              · refine RD.p (fun _ _ => trivial) rfl (Pu.move rfl) rfl rfl ?_
                refine RD.p (fun _ _ => trivial) rfl (Pu.move rfl) rfl rfl ?_
                refine RD.know (p := ∃ g cap, q5 = (some g, cap)) (fun w s => s.row_some (k := 1) rfl (pos_of (g31 hc29))) ?_
                rintro ⟨gg104, cc105, rfl⟩
                refine RD.p (fun _ _ => trivial) rfl (Pu.indexSl sl26 rfl rfl (g31 hc29)) rfl rfl ?_
                refine RD.q (fun _ _ => trivial) rfl (Qt.ld0 (α := Int) (Rd.ofRowN 1 rfl) ty3 rfl rfl (g31 hc29) (by rintro _ _ rfl; rfl)) rfl rfl ?_
                refine RD.p (fun _ _ => trivial) rfl (Pu.bin rfl rfl rfl) rfl rfl ?_
                refine RD.p (fun _ _ => trivial) rfl (Pu.fieldAddr fd41_2 rfl) rfl rfl ?_
                refine RD.q (fun _ _ => trivial) rfl (Qt.ldB 0 ty39 rfl rfl rfl) rfl rfl ?_
                refine RD.p (fun _ _ => trivial) rfl (Pu.move rfl) rfl rfl ?_
                obtain ⟨bl106, ol107, rfl⟩ := R_ptr h0 (ne_of_pos (pos_of (g32 hc29)))
                refine RD.p (fun _ _ => trivial) rfl (Pu.indexSl sl39 rfl rfl (g32 hc29)) rfl rfl ?_
                refine RD.q (fun _ _ => trivial) rfl (Qt.ld0 (α := Bool) (Rd.base h0) ty4 rfl rfl (g32 hc29) (by rintro _ _ rfl; rfl)) rfl rfl ?_
                refine RD.p (fun _ _ => trivial) rfl (Pu.neB ul4 rfl rfl) rfl rfl ?_
                refine RD.p (fun _ _ => trivial) rfl (Pu.pickF rfl rfl) rfl rfl ?_
                exact hJ30 _ ⟨dOrF hc29, rfl, rfl, rfl, rfl, rfl, trivial⟩
          · have H := ifF hc26 H
            obtain rfl := hd12 _ H
            refine T.exitTo (by with_reducible (repeat (first | exact ExTo.here | exact ExTo.hereN | exact ExTo.deep (by repeat (first | exact NmTo.seq | apply NmTo.blk)) | apply ExTo.seq | refine ExTo.past (by decide) ?_))) (hJ12 _ _ l22 q23 HX12 ⟨rfl, trivial⟩ ⟨rfl, trivial⟩ (fun w s => s))
theorem thronglaw10_SectorEdges_walk (a0_p : Ask) (w : World) {v0 v1 v2 : Value} (h0 : R (hpOf w) a0_p.Free [v0]) (h1 : R (hpOf w) a0_p.Ts [v1]) (h2 : R (hpOf w) a0_p.Parts [v2]) {r : Bool} (H : thronglaw10_SectorEdges a0_p = some r) : Calls Try.prog 8 #[.agg #[.int .i64 a0_p.W, .int .i64 a0_p.H, v0, v1, v2]] w fun e w' => e = .returned (.bool r) ∧ Ext w w' := by
  have hm0 := R_max h0
  obtain ⟨p0, c0, rfl⟩ := R_form h0
  have hm1 := R_max h1
  obtain ⟨p1, c1, rfl⟩ := R_form h1
  have hm2 := R_max h2
  obtain ⟨p2, c2, rfl⟩ := R_form h2
  unfold thronglaw10_SectorEdges at H
  refine T.enter (args := [_]) (S := Sat w []) Try.func8 rfl rfl (Sat.start w) ?_
  refine T.seq fun K1 hK1 => ?_
  refine T.region ?_
  refine RS.solid (Sd.box (cs := [_, _, _, _, _]) rfl rfl) rfl rfl fun b1 => ?_
  refine RS.p (Pu.assign rfl) rfl rfl ?_
  refine RS.nil (hK1 _ _ ?_)
  refine T.seq fun K2 hK2 => ?_
  refine T.seq fun K3 hK3 => ?_
  refine T.region ?_
  refine RS.p (Pu.assign rfl) rfl rfl ?_
  refine RS.nil (hK3 _ _ ?_)
  refine T.joinE (σ := Unit) (γ := Unit) H Ex.go [(1, _)] ⟨rfl, trivial⟩ (fun _ _ => []) (fun _ _ => Sat w [blk b1 [.int .i64 a0_p.W, .int .i64 a0_p.H, .slice p0 a0_p.Free.length c0, .slice p1 a0_p.Ts.length c1, .slice p2 a0_p.Parts.length c2] 41]) ?_ ?_
  · rintro ⟨⟩ ⟨⟩ H
    try dsimp only [Ex.then] at H
    refine Cont.conseq (fr' := [(1, _)]) ?_ ⟨rfl, trivial⟩ (fun _ s => s)
    refine id (hK2 _ _ ?_)
    refine T.seq fun K4 hK4 => ?_
    refine T.region ?_
    obtain ⟨x3, hx3, H⟩ := bindE H
    refine RS.q (Qt.call ent33 rfl fun w s => sector_Count_walk 0 1 w  hx3) rfl rfl ?_
    refine RS.p (Pu.move rfl) rfl rfl ?_
    refine RS.p (Pu.extract rfl rfl) rfl rfl ?_
    refine RS.p (Pu.extract rfl rfl) rfl rfl ?_
    refine RS.p (Pu.assign rfl) rfl rfl ?_
    refine RS.p (Pu.assign rfl) rfl rfl ?_
    refine RS.nil (hK4 _ _ (T.conseq (fr' := [(1, _), (14, _)]) ?_ ⟨rfl, rfl, trivial⟩ (fun _ s => s)))
    refine T.seq fun K5 hK5 => ?_
    refine T.region ?_
    obtain ⟨x4, hx4, H⟩ := bindE H
    refine RS.q (Qt.call ent33 rfl fun w s => sector_Count_walk 1 129 w  hx4) rfl rfl ?_
    refine RS.p (Pu.move rfl) rfl rfl ?_
    refine RS.p (Pu.extract rfl rfl) rfl rfl ?_
    refine RS.p (Pu.extract rfl rfl) rfl rfl ?_
    refine RS.p (Pu.assign rfl) rfl rfl ?_
    refine RS.p (Pu.assign rfl) rfl rfl ?_
    refine RS.nil (hK5 _ _ (T.conseq (fr' := [(1, _), (14, _), (16, _)]) ?_ ⟨rfl, rfl, rfl, trivial⟩ (fun _ s => s)))
    refine T.seq fun K6 hK6 => ?_
    refine T.region ?_
    obtain ⟨x5, hx5, H⟩ := bindE H
    refine RS.q (Qt.call ent35 rfl fun w s => sector_Of_walk 3 3 9 w  hx5) rfl rfl ?_
    refine RS.p (Pu.move rfl) rfl rfl ?_
    refine RS.p (Pu.extract rfl rfl) rfl rfl ?_
    refine RS.p (Pu.extract rfl rfl) rfl rfl ?_
    refine RS.p (Pu.assign rfl) rfl rfl ?_
    refine RS.p (Pu.assign rfl) rfl rfl ?_
    refine RS.nil (hK6 _ _ (T.conseq (fr' := [(1, _), (14, _), (16, _), (18, _)]) ?_ ⟨rfl, rfl, rfl, rfl, trivial⟩ (fun _ s => s)))
    refine T.seq fun K7 hK7 => ?_
    refine T.region ?_
    refine RS.p (Pu.move rfl) rfl rfl ?_
    obtain ⟨x6, hx6, H⟩ := bindE H
    refine RS.q (Qt.call ent28 rfl fun w s => thronglaw10_num_walk x3.2 w  hx6) rfl rfl ?_
    refine RS.p (Pu.bin rfl rfl rfl) rfl rfl ?_
    refine RS.p (Pu.move rfl) rfl rfl ?_
    refine RS.joinB H 4 129 (fun b9 => .bool b9) [(1, _), (18, _)] ⟨rfl, rfl, trivial⟩ ?_ ?_
    · intro b9 H
      refine RS.p (Pu.move rfl) rfl rfl ?_
      refine RS.joinB H 4 134 (fun b12 => .bool b12) [(1, _)] ⟨rfl, trivial⟩ ?_ ?_
      · intro b12 H
        refine RS.p (Pu.move rfl) rfl rfl ?_
        refine RS.joinV 5 140 (.bool (decide ((b12 = true) ∧ (0 ≤ (a0_p.Ts.length : Int))))) [] trivial ?_ ?_
        · refine RS.p (Pu.move rfl) rfl rfl ?_
          refine RS.joinB H 2 143 (fun b17 => .bool b17) [] trivial ?_ ?_
          · intro b17 H
            refine RS.p (Pu.assign rfl) rfl rfl ?_
            refine RS.nil (hK7 _ _ ?_)
            obtain rfl := Option.some.inj H
            refine T.retTo (by with_reducible ((repeat (first | apply RetTo.seq | apply RetTo.blk)); exact RetTo.refl _)) (Cont.ret1 rfl rfl fun w' s => ?_)
            exact ⟨rfl, s.ext⟩
          · intro z18 H hJ16
            refine RS.splitP 141 rfl (fun hc15 => ?_) (fun hc15 => ?_)
            · have H := ifT hc15 H
              obtain ⟨x19, hx19, H⟩ := bindE H
              refine RS.q (Qt.call ent31 rfl fun w s => thronglaw10_wakes_walk  w  hx19) rfl rfl ?_
              refine RS.p (Pu.pickT rfl rfl) rfl rfl ?_
              obtain rfl := Option.some.inj H
              exact hJ16 _ _ ⟨rfl, trivial⟩ (fun w s => s)
            · have H := ifF hc15 H
              refine RS.no rfl rfl ?_
              refine RS.p (Pu.pickF rfl rfl) rfl rfl ?_
              obtain rfl := Option.some.inj H
              exact hJ16 _ _ ⟨rfl, trivial⟩ (fun w s => s)
        · intro hJ14
          refine RS.split 135 rfl (fun hc13 => ?_) (fun hc13 => ?_)
          · refine RS.p (Pu.fieldAddr fd41_3 rfl) rfl rfl ?_
            refine RS.q (Qt.ldB 0 ty26 rfl rfl rfl) rfl rfl ?_
            refine RS.p (Pu.lenSl sl26 rfl) rfl rfl ?_
            refine RS.p (Pu.bin rfl rfl rfl) rfl rfl ?_
            refine RS.p (Pu.pickT rfl rfl) rfl rfl ?_
            exact hJ14 _ _ ⟨dAndT hc13, trivial⟩ (fun w s => s)
          · refine RS.no rfl rfl ?_
            refine RS.no rfl rfl ?_
            refine RS.no rfl rfl ?_
            refine RS.no rfl rfl ?_
            refine RS.p (Pu.pickF rfl rfl) rfl rfl ?_
            exact hJ14 _ _ ⟨dAndF (bne_of hc13), trivial⟩ (fun w s => s)
      · intro z20 H hJ11
        refine RS.split 130 rfl (fun hc10 => ?_) (fun hc10 => ?_)
        · have H := ifT hc10 H
          refine RS.p (Pu.move rfl) rfl rfl ?_
          obtain ⟨x21, hx21, H⟩ := bindE H
          refine RS.q (Qt.call ent28 rfl fun w s => thronglaw10_num_walk x5.2 w  hx21) rfl rfl ?_
          refine RS.p (Pu.bin rfl rfl rfl) rfl rfl ?_
          refine RS.p (Pu.pickT rfl rfl) rfl rfl ?_
          obtain rfl := Option.some.inj H
          exact hJ11 _ _ ⟨rfl, rfl, trivial⟩ (fun w s => s)
        · have H := ifB hc10 H
          refine RS.no rfl rfl ?_
          refine RS.no rfl rfl ?_
          refine RS.no rfl rfl ?_
          refine RS.p (Pu.pickF rfl rfl) rfl rfl ?_
          obtain rfl := Option.some.inj H
          exact hJ11 _ _ ⟨rfl, rfl, trivial⟩ (fun w s => s)
    · intro z22 H hJ8
      refine RS.splitP 125 rfl (fun hc7 => ?_) (fun hc7 => ?_)
      · have H := ifT hc7 H
        refine RS.p (Pu.move rfl) rfl rfl ?_
        obtain ⟨x23, hx23, H⟩ := bindE H
        refine RS.q (Qt.call ent28 rfl fun w s => thronglaw10_num_walk x4.2 w  hx23) rfl rfl ?_
        refine RS.p (Pu.bin rfl rfl rfl) rfl rfl ?_
        refine RS.p (Pu.pickT rfl rfl) rfl rfl ?_
        obtain rfl := Option.some.inj H
        exact hJ8 _ _ ⟨rfl, rfl, rfl, trivial⟩ (fun w s => s)
      · have H := ifF hc7 H
        refine RS.no rfl rfl ?_
        refine RS.no rfl rfl ?_
        refine RS.no rfl rfl ?_
        refine RS.p (Pu.pickF rfl rfl) rfl rfl ?_
        obtain rfl := Option.some.inj H
        exact hJ8 _ _ ⟨rfl, rfl, rfl, trivial⟩ (fun w s => s)
  · intro z2 hz2 HX2 hJ2
    refine T.block ?_
    refine T.loopA (γ := Unit) hz2 [(1, _)] (fun v24 _ => [(3, .int .i64 v24)]) (fun v24 _ => Sat w [blk b1 [.int .i64 a0_p.W, .int .i64 a0_p.H, .slice p0 a0_p.Free.length c0, .slice p1 a0_p.Ts.length c1, .slice p2 a0_p.Parts.length c2] 41]) () ⟨rfl, trivial⟩ ⟨rfl, trivial⟩ (fun w s => s) ?_
    rintro v24 ⟨⟩ y25 H hd2 KL2 hL2
    try dsimp only [Ex.then] at H
    refine T.conseq (fr' := [(3, _), (1, _)]) ?_ ⟨rfl, rfl, trivial⟩ (fun _ s => s)
    refine T.seq fun K8 hK8 => ?_
    refine T.seq fun K9 hK9 => ?_
    refine T.region ?_
    refine RS.p (Pu.move rfl) rfl rfl ?_
    refine RS.p (Pu.bin rfl rfl rfl) rfl rfl ?_
    refine RS.nil (hK9 _ _ ?_)
    refine T.condP rfl (fun hc26 => ?_) (fun hc26 => ?_)
    · have H := ifT hc26 H
      refine T.skip (hK8 _ _ ?_)
      refine T.seq fun K10 hK10 => ?_
      refine T.block ?_
      refine T.seq fun K11 hK11 => ?_
      refine T.region ?_
      refine RS.p (Pu.assign rfl) rfl rfl ?_
      refine RS.nil (hK11 _ _ ?_)
      refine T.joinE (σ := Unit) (γ := Unit) H Ex.go [(1, _), (3, _)] ⟨rfl, rfl, trivial⟩ (fun _ _ => []) (fun _ _ => Sat w [blk b1 [.int .i64 a0_p.W, .int .i64 a0_p.H, .slice p0 a0_p.Free.length c0, .slice p1 a0_p.Ts.length c1, .slice p2 a0_p.Parts.length c2] 41]) ?_ ?_
      · rintro ⟨⟩ ⟨⟩ H
        try dsimp only [Ex.then] at H
        refine Cont.conseq (fr' := [(1, _), (3, _)]) ?_ ⟨rfl, rfl, trivial⟩ (fun _ s => s)
        refine id (hK10 _ _ ?_)
        refine T.region ?_
        refine RS.p (Pu.move rfl) rfl rfl ?_
        obtain ⟨g28, H⟩ := gdE H
        refine RS.p (Pu.addS rfl rfl g28) rfl rfl ?_
        refine RS.p (Pu.move rfl) rfl rfl ?_
        obtain ⟨g29, H⟩ := gdE H
        refine RS.p (Pu.quoN rfl rfl ⟨g29.1, g29.2, by decide⟩) rfl rfl ?_
        obtain ⟨g30, H⟩ := gdE H
        refine RS.p (Pu.addS rfl rfl g30) rfl rfl ?_
        refine RS.p (Pu.assign rfl) rfl rfl ?_
        refine RS.nil (hL2 _ _ ((v24 + 1) + (v24 / 6)) () H ⟨rfl, trivial⟩ ⟨rfl, trivial⟩ (fun w s => s))
      · intro z27 hz27 HX27 hJ27
        refine T.block ?_
        refine T.loopA (γ := Unit) hz27 [(1, _), (3, _)] (fun v31 _ => [(4, .int .i64 v31)]) (fun v31 _ => Sat w [blk b1 [.int .i64 a0_p.W, .int .i64 a0_p.H, .slice p0 a0_p.Free.length c0, .slice p1 a0_p.Ts.length c1, .slice p2 a0_p.Parts.length c2] 41]) () ⟨rfl, rfl, trivial⟩ ⟨rfl, trivial⟩ (fun w s => s) ?_
        rintro v31 ⟨⟩ y32 H hd27 KL27 hL27
        try dsimp only [Ex.then] at H
        refine T.conseq (fr' := [(4, _), (1, _), (3, _)]) ?_ ⟨rfl, rfl, rfl, trivial⟩ (fun _ s => s)
        refine T.seq fun K12 hK12 => ?_
        refine T.seq fun K13 hK13 => ?_
        refine T.region ?_
        refine RS.p (Pu.move rfl) rfl rfl ?_
        refine RS.p (Pu.bin rfl rfl rfl) rfl rfl ?_
        refine RS.nil (hK13 _ _ ?_)
        refine T.condP rfl (fun hc33 => ?_) (fun hc33 => ?_)
        · have H := ifT hc33 H
          refine T.skip (hK12 _ _ ?_)
          refine T.seq fun K14 hK14 => ?_
          refine T.block ?_
          refine T.seq fun K15 hK15 => ?_
          refine T.region ?_
          refine RS.p (Pu.move rfl) rfl rfl ?_
          refine RS.p (Pu.move rfl) rfl rfl ?_
          obtain ⟨x34, hx34, H⟩ := bindE H
          refine RS.q (Qt.call ent33 rfl fun w s => sector_Count_walk v24 v31 w  hx34) rfl rfl ?_
          refine RS.p (Pu.move rfl) rfl rfl ?_
          refine RS.p (Pu.extract rfl rfl) rfl rfl ?_
          refine RS.p (Pu.extract rfl rfl) rfl rfl ?_
          refine RS.p (Pu.assign rfl) rfl rfl ?_
          refine RS.p (Pu.assign rfl) rfl rfl ?_
          refine RS.nil (hK15 _ _ (T.conseq (fr' := [(1, _), (3, _), (4, _), (5, _), (6, _)]) ?_ ⟨rfl, rfl, rfl, rfl, rfl, trivial⟩ (fun _ s => s)))
          refine T.seq fun K16 hK16 => ?_
          refine T.region ?_
          refine RS.p (Pu.move rfl) rfl rfl ?_
          refine RS.p (Pu.move rfl) rfl rfl ?_
          obtain ⟨x35, hx35, H⟩ := bindE H
          refine RS.q (Qt.call ent35 rfl fun w s => sector_Of_walk v24 v31 0 w  hx35) rfl rfl ?_
          refine RS.p (Pu.move rfl) rfl rfl ?_
          refine RS.p (Pu.extract rfl rfl) rfl rfl ?_
          refine RS.p (Pu.extract rfl rfl) rfl rfl ?_
          refine RS.p (Pu.assign rfl) rfl rfl ?_
          refine RS.p (Pu.assign rfl) rfl rfl ?_
          refine RS.nil (hK16 _ _ (T.conseq (fr' := [(1, _), (3, _), (4, _), (5, _), (6, _), (7, _), (8, _)]) ?_ ⟨rfl, rfl, rfl, rfl, rfl, rfl, rfl, trivial⟩ (fun _ s => s)))
          refine T.seq fun K17 hK17 => ?_
          refine T.region ?_
          refine RS.p (Pu.move rfl) rfl rfl ?_
          refine RS.p (Pu.move rfl) rfl rfl ?_
          refine RS.p (Pu.move rfl) rfl rfl ?_
          refine RS.p (Pu.move rfl) rfl rfl ?_
          obtain ⟨g36, H⟩ := gdE H
          refine RS.p (Pu.mulS rfl rfl g36) rfl rfl ?_
          obtain ⟨g37, H⟩ := gdE H
          refine RS.p (Pu.subS rfl rfl g37) rfl rfl ?_
          obtain ⟨x38, hx38, H⟩ := bindE H
          refine RS.q (Qt.call ent35 rfl fun w s => sector_Of_walk v24 v31 ((v24 * v31) - 1) w  hx38) rfl rfl ?_
          refine RS.p (Pu.move rfl) rfl rfl ?_
          refine RS.p (Pu.extract rfl rfl) rfl rfl ?_
          refine RS.p (Pu.extract rfl rfl) rfl rfl ?_
          refine RS.p (Pu.assign rfl) rfl rfl ?_
          refine RS.p (Pu.assign rfl) rfl rfl ?_
          refine RS.nil (hK17 _ _ (T.conseq (fr' := [(1, _), (3, _), (4, _), (5, _), (6, _), (7, _), (8, _), (9, _), (10, _)]) ?_ ⟨rfl, rfl, rfl, rfl, rfl, rfl, rfl, rfl, rfl, trivial⟩ (fun _ s => s)))
          refine T.seq fun K18 hK18 => ?_
          refine T.region ?_
          refine RS.p (Pu.move rfl) rfl rfl ?_
          refine RS.p (Pu.move rfl) rfl rfl ?_
          refine RS.p (Pu.move rfl) rfl rfl ?_
          obtain ⟨g39, H⟩ := gdE H
          refine RS.p (Pu.subS rfl rfl g39) rfl rfl ?_
          obtain ⟨x40, hx40, H⟩ := bindE H
          refine RS.q (Qt.call ent35 rfl fun w s => sector_Of_walk v24 v31 (v24 - 1) w  hx40) rfl rfl ?_
          refine RS.p (Pu.move rfl) rfl rfl ?_
          refine RS.p (Pu.extract rfl rfl) rfl rfl ?_
          refine RS.p (Pu.extract rfl rfl) rfl rfl ?_
          refine RS.p (Pu.assign rfl) rfl rfl ?_
          refine RS.p (Pu.assign rfl) rfl rfl ?_
          refine RS.nil (hK18 _ _ (T.conseq (fr' := [(1, _), (3, _), (4, _), (5, _), (6, _), (7, _), (8, _), (9, _), (10, _), (11, _), (12, _)]) ?_ ⟨rfl, rfl, rfl, rfl, rfl, rfl, rfl, rfl, rfl, rfl, rfl, trivial⟩ (fun _ s => s)))
          refine T.seq fun K19 hK19 => ?_
          refine T.region ?_
          refine RS.p (Pu.move rfl) rfl rfl ?_
          obtain ⟨x41, hx41, H⟩ := bindE H
          refine RS.q (Qt.call ent28 rfl fun w s => thronglaw10_num_walk x34.2 w  hx41) rfl rfl ?_
          refine RS.p (Pu.bin rfl rfl rfl) rfl rfl ?_
          refine RS.p (Pu.move rfl) rfl rfl ?_
          refine RS.joinB H 4 70 (fun b44 => .bool b44) [(1, _), (3, _), (4, _), (5, _), (7, _), (9, _), (10, _), (11, _), (12, _)] ⟨rfl, rfl, rfl, rfl, rfl, rfl, rfl, rfl, rfl, trivial⟩ ?_ ?_
          · intro b44 H
            refine RS.p (Pu.move rfl) rfl rfl ?_
            refine RS.joinB H 4 75 (fun b47 => .bool b47) [(1, _), (3, _), (4, _), (5, _), (7, _), (9, _), (11, _), (12, _)] ⟨rfl, rfl, rfl, rfl, rfl, rfl, rfl, rfl, trivial⟩ ?_ ?_
            · intro b47 H
              refine RS.p (Pu.move rfl) rfl rfl ?_
              refine RS.joinB H 4 80 (fun b50 => .bool b50) [(1, _), (3, _), (4, _), (5, _), (7, _), (9, _), (11, _)] ⟨rfl, rfl, rfl, rfl, rfl, rfl, rfl, trivial⟩ ?_ ?_
              · intro b50 H
                refine RS.p (Pu.move rfl) rfl rfl ?_
                obtain ⟨g53, H⟩ := gdE H
                obtain ⟨g54, H⟩ := gdE H
                obtain ⟨g55, H⟩ := gdE H
                obtain ⟨g56, H⟩ := gdE H
                obtain ⟨g57, H⟩ := gdE H
                refine RS.joinV 10 91 (.bool (decide ((b50 = true) ∨ (¬ x34.1 = (((v24 + 7) / 8) * ((v31 + 7) / 8)))))) [(1, _), (3, _), (4, _), (5, _), (7, _), (9, _), (11, _)] ⟨rfl, rfl, rfl, rfl, rfl, rfl, rfl, trivial⟩ ?_ ?_
                · refine RS.p (Pu.move rfl) rfl rfl ?_
                  refine RS.joinV 3 95 (.bool (decide (((b50 = true) ∨ (¬ x34.1 = (((v24 + 7) / 8) * ((v31 + 7) / 8)))) ∨ (¬ x35.1 = 0)))) [(1, _), (3, _), (4, _), (5, _), (9, _), (11, _)] ⟨rfl, rfl, rfl, rfl, rfl, rfl, trivial⟩ ?_ ?_
                  · refine RS.p (Pu.move rfl) rfl rfl ?_
                    obtain ⟨g62, H⟩ := gdE H
                    refine RS.joinV 5 101 (.bool (decide ((((b50 = true) ∨ (¬ x34.1 = (((v24 + 7) / 8) * ((v31 + 7) / 8)))) ∨ (¬ x35.1 = 0)) ∨ (¬ x38.1 = (x34.1 - 1))))) [(1, _), (3, _), (4, _), (11, _)] ⟨rfl, rfl, rfl, rfl, trivial⟩ ?_ ?_
                    · refine RS.p (Pu.move rfl) rfl rfl ?_
                      obtain ⟨g65, H⟩ := gdE H
                      obtain ⟨g66, H⟩ := gdE H
                      obtain ⟨g67, H⟩ := gdE H
                      refine RS.joinV 7 109 (.bool (decide (((((b50 = true) ∨ (¬ x34.1 = (((v24 + 7) / 8) * ((v31 + 7) / 8)))) ∨ (¬ x35.1 = 0)) ∨ (¬ x38.1 = (x34.1 - 1))) ∨ (¬ x40.1 = (((v24 + 7) / 8) - 1))))) [(1, _), (3, _), (4, _)] ⟨rfl, rfl, rfl, trivial⟩ ?_ ?_
                      · refine RS.nil (hK19 _ _ ?_)
                        refine T.condP rfl (fun hc68 => ?_) (fun hc68 => ?_)
                        · have H := ifT hc68 H
                          refine T.conseq (fr' := []) ?_ trivial (fun _ s => s)
                          refine T.seq fun K20 hK20 => ?_
                          refine T.region ?_
                          refine RS.p (Pu.assign rfl) rfl rfl ?_
                          refine RS.nil (hK20 _ _ ?_)
                          obtain rfl := hd27 _ H
                          have H := HX27
                          obtain rfl := hd2 _ H
                          have H := HX2
                          obtain rfl := Option.some.inj H
                          refine T.retTo (by with_reducible ((repeat (first | apply RetTo.seq | apply RetTo.blk)); exact RetTo.refl _)) (Cont.ret1 rfl rfl fun w' s => ?_)
                          exact ⟨rfl, s.ext⟩
                        · have H := ifF hc68 H
                          refine T.skip (hK14 _ _ ?_)
                          refine T.region ?_
                          refine RS.p (Pu.move rfl) rfl rfl ?_
                          obtain ⟨g69, H⟩ := gdE H
                          refine RS.p (Pu.addS rfl rfl g69) rfl rfl ?_
                          refine RS.p (Pu.move rfl) rfl rfl ?_
                          obtain ⟨g70, H⟩ := gdE H
                          refine RS.p (Pu.quoN rfl rfl ⟨g70.1, g70.2, by decide⟩) rfl rfl ?_
                          obtain ⟨g71, H⟩ := gdE H
                          refine RS.p (Pu.addS rfl rfl g71) rfl rfl ?_
                          refine RS.p (Pu.assign rfl) rfl rfl ?_
                          refine RS.nil (hL27 _ _ ((v31 + 1) + (v31 / 6)) () H ⟨rfl, rfl, trivial⟩ ⟨rfl, trivial⟩ (fun w s => s))
                      · intro hJ64
                        refine RS.splitP 102 rfl (fun hc63 => ?_) (fun hc63 => ?_)
                        · refine RS.no rfl rfl ?_
                          refine RS.no rfl rfl ?_
                          refine RS.no rfl rfl ?_
                          refine RS.no rfl rfl ?_
                          refine RS.no rfl rfl ?_
                          refine RS.no rfl rfl ?_
                          refine RS.p (Pu.pickT rfl rfl) rfl rfl ?_
                          exact hJ64 _ _ ⟨dOrT hc63, rfl, rfl, rfl, trivial⟩ (fun w s => s)
                        · refine RS.p (Pu.move rfl) rfl rfl ?_
                          refine RS.p (Pu.move rfl) rfl rfl ?_
                          refine RS.p (Pu.addS rfl rfl (g65 hc63)) rfl rfl ?_
                          refine RS.p (Pu.quoN rfl rfl ⟨(g66 hc63).1, (g66 hc63).2, by decide⟩) rfl rfl ?_
                          refine RS.p (Pu.subS rfl rfl (g67 hc63)) rfl rfl ?_
                          refine RS.p (Pu.bin rfl rfl rfl) rfl rfl ?_
                          refine RS.p (Pu.pickF rfl rfl) rfl rfl ?_
                          exact hJ64 _ _ ⟨dOrF hc63, rfl, rfl, rfl, trivial⟩ (fun w s => s)
                    · intro hJ61
                      refine RS.splitP 96 rfl (fun hc60 => ?_) (fun hc60 => ?_)
                      · refine RS.no rfl rfl ?_
                        refine RS.no rfl rfl ?_
                        refine RS.no rfl rfl ?_
                        refine RS.no rfl rfl ?_
                        refine RS.p (Pu.pickT rfl rfl) rfl rfl ?_
                        exact hJ61 _ _ ⟨dOrT hc60, rfl, rfl, rfl, rfl, trivial⟩ (fun w s => s)
                      · refine RS.p (Pu.move rfl) rfl rfl ?_
                        refine RS.p (Pu.move rfl) rfl rfl ?_
                        refine RS.p (Pu.subS rfl rfl (g62 hc60)) rfl rfl ?_
                        refine RS.p (Pu.bin rfl rfl rfl) rfl rfl ?_
                        refine RS.p (Pu.pickF rfl rfl) rfl rfl ?_
                        exact hJ61 _ _ ⟨dOrF hc60, rfl, rfl, rfl, rfl, trivial⟩ (fun w s => s)
                  · intro hJ59
                    refine RS.splitP 92 rfl (fun hc58 => ?_) (fun hc58 => ?_)
                    · refine RS.no rfl rfl ?_
                      refine RS.no rfl rfl ?_
                      refine RS.p (Pu.pickT rfl rfl) rfl rfl ?_
                      exact hJ59 _ _ ⟨dOrT hc58, rfl, rfl, rfl, rfl, rfl, rfl, trivial⟩ (fun w s => s)
                    · refine RS.p (Pu.move rfl) rfl rfl ?_
                      refine RS.p (Pu.bin rfl rfl rfl) rfl rfl ?_
                      refine RS.p (Pu.pickF rfl rfl) rfl rfl ?_
                      exact hJ59 _ _ ⟨dOrF hc58, rfl, rfl, rfl, rfl, rfl, rfl, trivial⟩ (fun w s => s)
                · intro hJ52
                  refine RS.split 81 rfl (fun hc51 => ?_) (fun hc51 => ?_)
                  · refine RS.no rfl rfl ?_
                    refine RS.no rfl rfl ?_
                    refine RS.no rfl rfl ?_
                    refine RS.no rfl rfl ?_
                    refine RS.no rfl rfl ?_
                    refine RS.no rfl rfl ?_
                    refine RS.no rfl rfl ?_
                    refine RS.no rfl rfl ?_
                    refine RS.no rfl rfl ?_
                    refine RS.p (Pu.pickT rfl rfl) rfl rfl ?_
                    exact hJ52 _ _ ⟨dOrT hc51, rfl, rfl, rfl, rfl, rfl, rfl, rfl, trivial⟩ (fun w s => s)
                  · refine RS.p (Pu.move rfl) rfl rfl ?_
                    refine RS.p (Pu.move rfl) rfl rfl ?_
                    refine RS.p (Pu.addS rfl rfl (g53 (bne_of hc51))) rfl rfl ?_
                    refine RS.p (Pu.quoN rfl rfl ⟨(g54 (bne_of hc51)).1, (g54 (bne_of hc51)).2, by decide⟩) rfl rfl ?_
                    refine RS.p (Pu.move rfl) rfl rfl ?_
                    refine RS.p (Pu.addS rfl rfl (g55 (bne_of hc51))) rfl rfl ?_
                    refine RS.p (Pu.quoN rfl rfl ⟨(g56 (bne_of hc51)).1, (g56 (bne_of hc51)).2, by decide⟩) rfl rfl ?_
                    refine RS.p (Pu.mulS rfl rfl (g57 (bne_of hc51))) rfl rfl ?_
                    refine RS.p (Pu.bin rfl rfl rfl) rfl rfl ?_
                    refine RS.p (Pu.pickF rfl rfl) rfl rfl ?_
                    exact hJ52 _ _ ⟨dOrF (bne_of hc51), rfl, rfl, rfl, rfl, rfl, rfl, rfl, trivial⟩ (fun w s => s)
              · intro z72 H hJ49
                refine RS.split 76 rfl (fun hc48 => ?_) (fun hc48 => ?_)
                · have H := ifT hc48 H
                  refine RS.no rfl rfl ?_
                  refine RS.no rfl rfl ?_
                  refine RS.no rfl rfl ?_
                  refine RS.p (Pu.pickT rfl rfl) rfl rfl ?_
                  obtain rfl := Option.some.inj H
                  exact hJ49 _ _ ⟨rfl, rfl, rfl, rfl, rfl, rfl, rfl, rfl, trivial⟩ (fun w s => s)
                · have H := ifB hc48 H
                  refine RS.p (Pu.move rfl) rfl rfl ?_
                  obtain ⟨x73, hx73, H⟩ := bindE H
                  refine RS.q (Qt.call ent28 rfl fun w s => thronglaw10_num_walk x40.2 w  hx73) rfl rfl ?_
                  refine RS.p (Pu.bin rfl rfl rfl) rfl rfl ?_
                  refine RS.p (Pu.pickF rfl rfl) rfl rfl ?_
                  obtain rfl := Option.some.inj H
                  exact hJ49 _ _ ⟨rfl, rfl, rfl, rfl, rfl, rfl, rfl, rfl, trivial⟩ (fun w s => s)
            · intro z74 H hJ46
              refine RS.split 71 rfl (fun hc45 => ?_) (fun hc45 => ?_)
              · have H := ifT hc45 H
                refine RS.no rfl rfl ?_
                refine RS.no rfl rfl ?_
                refine RS.no rfl rfl ?_
                refine RS.p (Pu.pickT rfl rfl) rfl rfl ?_
                obtain rfl := Option.some.inj H
                exact hJ46 _ _ ⟨rfl, rfl, rfl, rfl, rfl, rfl, rfl, rfl, rfl, trivial⟩ (fun w s => s)
              · have H := ifB hc45 H
                refine RS.p (Pu.move rfl) rfl rfl ?_
                obtain ⟨x75, hx75, H⟩ := bindE H
                refine RS.q (Qt.call ent28 rfl fun w s => thronglaw10_num_walk x38.2 w  hx75) rfl rfl ?_
                refine RS.p (Pu.bin rfl rfl rfl) rfl rfl ?_
                refine RS.p (Pu.pickF rfl rfl) rfl rfl ?_
                obtain rfl := Option.some.inj H
                exact hJ46 _ _ ⟨rfl, rfl, rfl, rfl, rfl, rfl, rfl, rfl, rfl, trivial⟩ (fun w s => s)
          · intro z76 H hJ43
            refine RS.splitP 66 rfl (fun hc42 => ?_) (fun hc42 => ?_)
            · have H := ifT hc42 H
              refine RS.no rfl rfl ?_
              refine RS.no rfl rfl ?_
              refine RS.no rfl rfl ?_
              refine RS.p (Pu.pickT rfl rfl) rfl rfl ?_
              obtain rfl := Option.some.inj H
              exact hJ43 _ _ ⟨rfl, rfl, rfl, rfl, rfl, rfl, rfl, rfl, rfl, rfl, trivial⟩ (fun w s => s)
            · have H := ifF hc42 H
              refine RS.p (Pu.move rfl) rfl rfl ?_
              obtain ⟨x77, hx77, H⟩ := bindE H
              refine RS.q (Qt.call ent28 rfl fun w s => thronglaw10_num_walk x35.2 w  hx77) rfl rfl ?_
              refine RS.p (Pu.bin rfl rfl rfl) rfl rfl ?_
              refine RS.p (Pu.pickF rfl rfl) rfl rfl ?_
              obtain rfl := Option.some.inj H
              exact hJ43 _ _ ⟨rfl, rfl, rfl, rfl, rfl, rfl, rfl, rfl, rfl, rfl, trivial⟩ (fun w s => s)
        · have H := ifF hc33 H
          obtain rfl := hd27 _ H
          refine T.exitTo (by with_reducible (repeat (first | exact ExTo.here | exact ExTo.hereN | exact ExTo.deep (by repeat (first | exact NmTo.seq | apply NmTo.blk)) | apply ExTo.seq | refine ExTo.past (by decide) ?_))) (hJ27 _ _ () () HX27 ⟨rfl, rfl, trivial⟩ trivial (fun w s => s))
    · have H := ifF hc26 H
      obtain rfl := hd2 _ H
      refine T.exitTo (by with_reducible (repeat (first | exact ExTo.here | exact ExTo.hereN | exact ExTo.deep (by repeat (first | exact NmTo.seq | apply NmTo.blk)) | apply ExTo.seq | refine ExTo.past (by decide) ?_))) (hJ2 _ _ () () HX2 ⟨rfl, trivial⟩ trivial (fun w s => s))
end Go.Proofs.Ytacpdjccbadomaa
