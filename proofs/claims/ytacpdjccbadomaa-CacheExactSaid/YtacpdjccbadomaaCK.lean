/-
  Walks of the statements of the cache.
-/
import Derived.Test.YtacpdjccbadomaaRows
import Derived.Test.YtacpdjccbadomaaCH
set_option linter.unusedVariables false
set_option linter.unusedSimpArgs false
set_option maxRecDepth 20000
set_option maxHeartbeats 1000000
namespace Go.Proofs.Ytacpdjccbadomaa
open Go.Vg
open Enc (R)
theorem ent15 : Ent Try.prog 15 := ⟨_, _, Try.func15, by kernel_rfl, rfl⟩
theorem ent22 : Ent Try.prog 22 := ⟨_, _, Try.func22, by kernel_rfl, rfl⟩
theorem ent30 : Ent Try.prog 30 := ⟨_, _, Try.func30, by kernel_rfl, rfl⟩
theorem ent44 : Ent Try.prog 44 := ⟨_, _, Try.func44, by kernel_rfl, rfl⟩
theorem ent46 : Ent Try.prog 46 := ⟨_, _, Try.func46, by kernel_rfl, rfl⟩
theorem ent47 : Ent Try.prog 47 := ⟨_, _, Try.func47, by kernel_rfl, rfl⟩
theorem ent48 : Ent Try.prog 48 := ⟨_, _, Try.func48, by kernel_rfl, rfl⟩
theorem ent49 : Ent Try.prog 49 := ⟨_, _, Try.func49, by kernel_rfl, rfl⟩
theorem ent51 : Ent Try.prog 51 := ⟨_, _, Try.func51, by kernel_rfl, rfl⟩
theorem fd62_0 : fdOff Try.prog 62 0 = some 0 := by kernel_rfl
theorem fd62_1 : fdOff Try.prog 62 1 = some 1 := by kernel_rfl
theorem fd66_0 : fdOff Try.prog 66 0 = some 0 := by kernel_rfl
theorem fd66_1 : fdOff Try.prog 66 1 = some 1 := by kernel_rfl
theorem fd66_2 : fdOff Try.prog 66 2 = some 2 := by kernel_rfl
theorem sl60 : slTy Try.prog 60 = some (66, 3, 24) := by kernel_rfl
theorem st75 : stTy Try.prog 75 = some ([.int .i64 0, .int .i64 0, .int .i64 0, .slice none 0 0, .slice none 0 0], [(0, 1), (1, 1), (2, 1), (3, 1), (4, 1)]) := by kernel_rfl
theorem ty60 : tySz Try.prog 60 = some (1, false) := by kernel_rfl
theorem ty66 : tySz Try.prog 66 = some (3, true) := by kernel_rfl
theorem ul4 : Try.prog.underlying 4 = some .bool := by kernel_rfl
theorem zr66 : zeroOf Try.prog 66 = some (.agg #[.int .i64 0, .int .i64 0, .int .i64 0]) := by kernel_rfl
theorem thronglaw15_CacheExact_walk (a0_p : CScr) (w : World) {v0 : Value} (h0 : R (hpOf w) a0_p.l [v0]) {r : Bool} (H : thronglaw15_CacheExact a0_p = some r) : Calls Try.prog 12 #[.agg #[.int .i64 a0_p.room, v0]] w fun e w' => e = .returned (.bool r) ∧ Ext w w' := by
  have hm0 := R_max h0
  obtain ⟨p0, c0, rfl⟩ := R_form h0
  unfold thronglaw15_CacheExact at H
  refine T.enter (args := [_]) (S := Sat w []) Try.func12 rfl rfl (Sat.start w) ?_
  refine T.seq fun K1 hK1 => ?_
  refine T.region ?_
  refine RS.solid (Sd.box (cs := [_, _]) rfl rfl) rfl rfl fun b1 => ?_
  refine RS.p (Pu.assign rfl) rfl rfl ?_
  refine RS.nil (hK1 _ _ ?_)
  refine T.seq fun K2 hK2 => ?_
  refine T.region ?_
  refine RS.p (Pu.fieldAddr fd62_0 rfl) rfl rfl ?_
  refine RS.q (Qt.ldB 0 ty3 rfl rfl rfl) rfl rfl ?_
  obtain ⟨x2, hx2, H⟩ := bindE H
  obtain ⟨o3, o4⟩ := x2
  dsimp only at H
  refine RS.solid (Sd.callN ent40 rfl (fun w s => cache_New_walk a0_p.room w  hx2)) rfl rfl fun g5 => ?_
  refine RS.p (Pu.move rfl) rfl rfl ?_
  refine RS.p (Pu.extract rfl rfl) rfl rfl ?_
  refine RS.p (Pu.extract rfl rfl) rfl rfl ?_
  refine RS.p (Pu.assign rfl) rfl rfl ?_
  refine RS.p (Pu.assign rfl) rfl rfl ?_
  refine RS.nil (hK2 _ _ (T.conseq (fr' := [(1, _), (3, _), (4, _)]) ?_ ⟨rfl, rfl, rfl, trivial⟩ (fun _ s => s)))
  refine T.seq fun K3 hK3 => ?_
  refine T.seq fun K4 hK4 => ?_
  refine T.region ?_
  refine RS.p (Pu.fieldAddr fd62_0 rfl) rfl rfl ?_
  refine RS.q (Qt.ldB 0 ty3 rfl rfl rfl) rfl rfl ?_
  obtain ⟨x6, hx6, H⟩ := bindE H
  refine RS.q (Qt.call ent47 rfl fun w s => throngref15_Room_walk a0_p.room w  hx6) rfl rfl ?_
  refine RS.p (Pu.move rfl) rfl rfl ?_
  obtain ⟨x7, hx7, H⟩ := bindE H
  refine RS.q (Qt.call ent41 rfl fun w s => thronglaw15_num_walk o4 w  hx7) rfl rfl ?_
  refine RS.p (Pu.bin rfl rfl rfl) rfl rfl ?_
  refine RS.p (Pu.neB ul4 rfl rfl) rfl rfl ?_
  refine RS.p (Pu.move rfl) rfl rfl ?_
  refine RS.joinB H 7 33 (fun b10 => .bool b10) [(1, _), (3, _), (4, _)] ⟨rfl, rfl, rfl, trivial⟩ ?_ ?_
  · intro b10 H
    refine RS.p (Pu.move rfl) rfl rfl ?_
    refine RS.joinB H 9 43 (fun b13 => .bool b13) [(1, _), (3, _)] ⟨rfl, rfl, trivial⟩ ?_ ?_
    · intro b13 H
      refine RS.nil (hK4 _ _ ?_)
      refine T.cond rfl (fun hc14 => ?_) (fun hc14 => ?_)
      · have H := ifT hc14 H
        refine T.conseq (fr' := []) ?_ trivial (fun _ s => s)
        refine T.seq fun K5 hK5 => ?_
        refine T.region ?_
        refine RS.p (Pu.assign rfl) rfl rfl ?_
        refine RS.nil (hK5 _ _ ?_)
        obtain rfl := Option.some.inj H
        refine T.retTo (by with_reducible ((repeat (first | apply RetTo.seq | apply RetTo.blk)); exact RetTo.refl _)) (Cont.ret1 rfl rfl fun w' s => ?_)
        exact ⟨rfl, s.ext⟩
      · have H := ifB hc14 H
        refine T.skip (hK3 _ _ ?_)
        refine T.seq fun K6 hK6 => ?_
        refine T.seq fun K7 hK7 => ?_
        refine T.region ?_
        refine RS.p (Pu.move rfl) rfl rfl ?_
        refine RS.p (Pu.eqNilO ul63 rfl) rfl rfl ?_
        refine RS.nil (hK7 _ _ ?_)
        refine T.cond rfl (fun hc15 => ?_) (fun hc15 => ?_)
        · have H := ifT hc15 H
          refine T.conseq (fr' := []) ?_ trivial (fun _ s => s)
          refine T.seq fun K8 hK8 => ?_
          refine T.region ?_
          obtain ⟨x16, hx16, H⟩ := bindE H
          refine RS.q (Qt.call ent46 rfl fun w s => thronglaw15_wakes_walk  w  hx16) rfl rfl ?_
          refine RS.p (Pu.assign rfl) rfl rfl ?_
          refine RS.nil (hK8 _ _ ?_)
          obtain rfl := Option.some.inj H
          refine T.retTo (by with_reducible ((repeat (first | apply RetTo.seq | apply RetTo.blk)); exact RetTo.refl _)) (Cont.ret1 rfl rfl fun w' s => ?_)
          exact ⟨rfl, s.ext⟩
        · have H := ifB hc15 H
          obtain ⟨z17, hz17, HZz17⟩ := bindE H
          subst hz17
          have H := HZz17
          refine T.weakS (fun w s => s.optSome (C := Cach_ch) 1 rfl) ?_
          refine T.skip (hK6 _ _ (T.conseq (fr' := [(1, _), (3, _)]) ?_ ⟨rfl, rfl, trivial⟩ (fun _ s => s)))
          refine T.seq fun K9 hK9 => ?_
          refine T.region ?_
          refine RS.p (Pu.fieldAddr fd62_0 rfl) rfl rfl ?_
          refine RS.q (Qt.ldB 0 ty3 rfl rfl rfl) rfl rfl ?_
          refine RS.p (Pu.build (cells := [_, _, _, _, _]) st75 rfl rfl) rfl rfl ?_
          refine RS.solid (Sd.box (cs := [_, _, _, _, _]) rfl rfl) rfl rfl fun b18 => ?_
          refine RS.weakS (fun w s => s.nilRow (α := Int) 3) ?_
          refine RS.weakS (fun w s => s.nilRow (α := Int) 3) ?_
          refine RS.p (Pu.assign rfl) rfl rfl ?_
          refine RS.nil (hK9 _ _ (T.conseq (fr' := [(1, _), (3, _), (5, _)]) ?_ ⟨rfl, rfl, rfl, trivial⟩ (fun _ s => s)))
          refine T.seq fun K10 hK10 => ?_
          refine T.seq fun K11 hK11 => ?_
          refine T.region ?_
          refine RS.p (Pu.assign rfl) rfl rfl ?_
          refine RS.nil (hK11 _ _ ?_)
          refine T.joinE (σ := Cach × Int × Int × Int × List Int × List Int) (γ := (Option Nat × Nat) × (Option Nat × Nat)) H Ex.go [] trivial (fun (v20, v21, v22, v23, v24, v26) (q25, q27) => []) (fun (v20, v21, v22, v23, v24, v26) (q25, q27) => Sat w [blk b1 [.int .i64 a0_p.room, .slice p0 a0_p.l.length c0] 62, Cach_ch g5 v20, blk b18 [.int .i64 v21, .int .i64 v22, .int .i64 v23, rowV q25 v24.length, rowV q27 v26.length] 75, row nilH 3 (rowV q25 v24.length) v24, row nilH 3 (rowV q27 v26.length) v26]) ?_ ?_
          · rintro ⟨v20, v21, v22, v23, v24, v26⟩ ⟨q25, q27⟩ H
            try dsimp only [Ex.then] at H
            refine Cont.conseq (fr' := []) ?_ trivial (fun _ s => s)
            refine id (hK10 _ _ ?_)
            refine T.seq fun K12 hK12 => ?_
            refine T.region ?_
            obtain ⟨x28, hx28, H⟩ := bindE H
            refine RS.q (Qt.call ent46 rfl fun w s => thronglaw15_wakes_walk  w  hx28) rfl rfl ?_
            refine RS.p (Pu.assign rfl) rfl rfl ?_
            refine RS.nil (hK12 _ _ ?_)
            obtain rfl := Option.some.inj H
            refine T.retTo (by with_reducible ((repeat (first | apply RetTo.seq | apply RetTo.blk)); exact RetTo.refl _)) (Cont.ret1 rfl rfl fun w' s => ?_)
            exact ⟨rfl, s.ext⟩
          · intro z19 hz19 HX19 hJ19
            refine T.block ?_
            refine T.loopA (γ := (Option Nat × Nat) × (Option Nat × Nat)) hz19 [(1, _), (3, _), (5, _)] (fun (v29, v30, v31, v32, v33, l34, l36) (q35, q37) => [(6, .int .i64 v29)]) (fun (v29, v30, v31, v32, v33, l34, l36) (q35, q37) => Sat w [blk b1 [.int .i64 a0_p.room, .slice p0 a0_p.l.length c0] 62, Cach_ch g5 v33, blk b18 [.int .i64 v30, .int .i64 v31, .int .i64 v32, rowV q35 l34.length, rowV q37 l36.length] 75, row nilH 3 (rowV q35 l34.length) l34, row nilH 3 (rowV q37 l36.length) l36]) ((none, 0), (none, 0)) ⟨rfl, rfl, rfl, trivial⟩ ⟨rfl, trivial⟩ (fun w s => s) ?_
            rintro ⟨v29, v30, v31, v32, v33, l34, l36⟩ ⟨q35, q37⟩ y38 H hd19 KL19 hL19
            try dsimp only [Ex.then] at H
            refine T.conseq (fr' := [(6, _), (1, _), (3, _), (5, _)]) ?_ ⟨rfl, rfl, rfl, rfl, trivial⟩ (fun _ s => s)
            refine T.seq fun K13 hK13 => ?_
            refine T.seq fun K14 hK14 => ?_
            refine T.region ?_
            refine RS.p (Pu.move rfl) rfl rfl ?_
            refine RS.p (Pu.fieldAddr fd62_1 rfl) rfl rfl ?_
            refine RS.q (Qt.ldB 0 ty60 rfl rfl rfl) rfl rfl ?_
            refine RS.p (Pu.lenSl sl60 rfl) rfl rfl ?_
            refine RS.p (Pu.bin rfl rfl rfl) rfl rfl ?_
            refine RS.p (Pu.move rfl) rfl rfl ?_
            refine RS.joinV 3 59 (.bool (decide ((v29 < (a0_p.l.length : Int)) ∧ (v29 < 80)))) [(1, _), (3, _), (5, _), (6, _)] ⟨rfl, rfl, rfl, rfl, trivial⟩ ?_ ?_
            · refine RS.nil (hK14 _ _ ?_)
              refine T.condP rfl (fun hc41 => ?_) (fun hc41 => ?_)
              · have H := ifT hc41 H
                refine T.skip (hK13 _ _ ?_)
                refine T.seq fun K15 hK15 => ?_
                refine T.block ?_
                refine T.seq fun K16 hK16 => ?_
                refine T.region ?_
                refine RS.p (Pu.fieldAddr fd62_1 rfl) rfl rfl ?_
                refine RS.q (Qt.ldB 0 ty60 rfl rfl rfl) rfl rfl ?_
                refine RS.p (Pu.move rfl) rfl rfl ?_
                obtain ⟨g42, H⟩ := gdE H
                obtain ⟨bl43, ol44, rfl⟩ := R_ptr h0 (ne_of_pos (pos_of g42))
                refine RS.p (Pu.indexSl sl60 rfl rfl g42) rfl rfl ?_
                refine RS.q (Qt.ldW (α := CAct) (cs := [_, _, _]) (Rd.base h0) ty66 rfl rfl g42 rfl (by rintro _ _ rfl; rfl)) rfl rfl ?_
                refine RS.solid (Sd.alloc zr66 rfl) rfl rfl fun b45 => ?_
                refine RS.solid (Sd.stB (cs' := [_, _, _]) 5 ty66 rfl rfl rfl rfl rfl rfl rfl rfl) rfl rfl fun _ => ?_
                refine RS.nil (hK16 _ _ (T.conseq (fr' := [(1, _), (3, _), (5, _), (6, _), (7, _)]) ?_ ⟨rfl, rfl, rfl, rfl, rfl, trivial⟩ (fun _ s => s)))
                refine T.seq fun K17 hK17 => ?_
                refine T.seq fun K18 hK18 => ?_
                refine T.region ?_
                refine RS.p (Pu.fieldAddr fd66_0 rfl) rfl rfl ?_
                refine RS.q (Qt.ldB 5 ty3 rfl rfl rfl) rfl rfl ?_
                obtain ⟨x46, hx46, H⟩ := bindE H
                refine RS.q (Qt.call ent15 rfl fun w s => thronglaw0_Within_walk ((gi a0_p.l v29).act) 10 w  hx46) rfl rfl ?_
                refine RS.nil (hK18 _ _ ?_)
                refine T.joinE (σ := Cach × Int × Int × Int × List Int × List Int) (γ := (Option Nat × Nat) × (Option Nat × Nat)) H Ex.go [(1, _), (3, _), (5, _), (6, _)] ⟨rfl, rfl, rfl, rfl, trivial⟩ (fun (v48, v49, v50, v51, v52, v54) (q53, q55) => []) (fun (v48, v49, v50, v51, v52, v54) (q53, q55) => Sat w [blk b1 [.int .i64 a0_p.room, .slice (some ⟨bl43, ol44, none⟩) a0_p.l.length c0] 62, Cach_ch g5 v48, blk b18 [.int .i64 v49, .int .i64 v50, .int .i64 v51, rowV q53 v52.length, rowV q55 v54.length] 75, dead, dead, blk b45 [.int .i64 ((gi a0_p.l v29).act), .int .i64 ((gi a0_p.l v29).key), .int .i64 ((gi a0_p.l v29).val)] 66, row nilH 3 (rowV q53 v52.length) v52, row nilH 3 (rowV q55 v54.length) v54]) ?_ ?_
                · rintro ⟨v48, v49, v50, v51, v52, v54⟩ ⟨q53, q55⟩ H
                  try dsimp only [Ex.then] at H
                  refine Cont.conseq (fr' := [(1, _), (3, _), (5, _), (6, _)]) ?_ ⟨rfl, rfl, rfl, rfl, trivial⟩ (fun _ s => s)
                  refine id (hK17 _ _ ?_)
                  refine T.seq fun K19 hK19 => ?_
                  refine T.region ?_
                  refine RS.p (Pu.move rfl) rfl rfl ?_
                  obtain ⟨x56, hx56, H⟩ := bindE H
                  refine RS.solid (Sd.callF 1 ent44 rfl rfl (fun w s => cache_Cache_Keys_walk g5 v48  hx56 w s)) rfl rfl fun q57 => ?_
                  refine RS.p (Pu.assign rfl) rfl rfl ?_
                  refine RS.nil (hK19 _ _ ?_)
                  refine T.seq fun K20 hK20 => ?_
                  refine T.seq fun K21 hK21 => ?_
                  refine T.drawnS [0, 2, 3, 4, 5, 6, 7, 8] [(0, .pu), (1, .pu), (2, .pu), (3, .pu), (4, .wk), (5, .wk), (6, .pu), (7, .pu), (8, .pu), (10, .pu), (11, .pu), (12, .pu), (13, .wk), (9, .br), (14, .pu), (15, .pu), (16, .pu), (17, .pu), (19, .pu), (20, .pu), (21, .pu), (22, .wk), (18, .br), (23, .pu), (24, .pu)] mixed (by kernel_rfl) rfl ?_
                  refine RD.p (fun w s => s.pick [0, 2, 3, 4, 5, 6, 7, 8] (by decide) rfl) rfl (Pu.move rfl) rfl rfl ?_
                  refine RD.p (fun w s => s.pick [0, 2, 3, 4, 5, 6, 7, 8] (by decide) rfl) rfl (Pu.move rfl) rfl rfl ?_
                  refine RD.p (fun w s => s.pick [0, 2, 3, 4, 5, 6, 7, 8] (by decide) rfl) rfl (Pu.nilCheck rfl) rfl rfl ?_
                  refine RD.p (fun w s => s.pick [0, 2, 3, 4, 5, 6, 7, 8] (by decide) rfl) rfl (Pu.fieldAddr fd75_3 rfl) rfl rfl ?_
                  refine RD.w (fun w s => s.pick [0, 2, 3, 4, 5, 6, 7, 8] (by decide) rfl) rfl (Qt.ldB 1 ty26 rfl rfl rfl) rfl rfl ?_
                  obtain ⟨x58, hx58, H⟩ := bindE H
                  refine RD.w (fun w s => s.pick [0, 2, 3, 4, 5, 6, 7, 8] (by decide) rfl) rfl (Qt.call ent22 rfl fun w s => throngref0_EqNumbers_walk x56 v52 w ((Rd.ofRowN 7 rfl) w s) ((Rd.ofRowN 5 rfl) w s) hx58) rfl rfl ?_
                  refine RD.p (fun w s => s.pick [0, 2, 3, 4, 5, 6, 7, 8] (by decide) rfl) rfl (Pu.not rfl) rfl rfl ?_
                  refine RD.p (fun w s => s.pick [0, 2, 3, 4, 5, 6, 7, 8] (by decide) rfl) rfl (Pu.move rfl) rfl rfl ?_
                  refine RD.joinB H 8 147 (fun b61 => .bool b61) [(1, _), (3, _), (5, _), (6, _), (12, _)] ⟨rfl, rfl, rfl, rfl, rfl, trivial⟩ ?_ ?_
                  · intro b61 H
                    refine RD.p (fun w s => s.pick [0, 2, 3, 4, 5, 6, 7, 8] (by decide) rfl) rfl (Pu.move rfl) rfl rfl ?_
                    refine RD.joinB H 8 156 (fun b64 => .bool b64) [(1, _), (3, _), (5, _), (6, _), (12, _)] ⟨rfl, rfl, rfl, rfl, rfl, trivial⟩ ?_ ?_
                    · intro b64 H
                      refine RD.nil (hK21 _ _ ?_)
                      refine T.cond rfl (fun hc65 => ?_) (fun hc65 => ?_)
                      · have H := ifT hc65 H
                        refine T.conseq (fr' := []) ?_ trivial (fun _ s => s)
                        refine T.seq fun K22 hK22 => ?_
                        refine T.region ?_
                        refine RS.p (Pu.assign rfl) rfl rfl ?_
                        refine RS.nil (hK22 _ _ ?_)
                        obtain rfl := hd19 _ H
                        have H := HX19
                        obtain rfl := Option.some.inj H
                        refine T.retTo (by with_reducible ((repeat (first | apply RetTo.seq | apply RetTo.blk)); exact RetTo.refl _)) (Cont.ret1 rfl rfl fun w' s => ?_)
                        exact ⟨rfl, s.ext⟩
                      · have H := ifB hc65 H
                        refine T.skip (hK20 _ _ ?_)
                        refine T.region ?_
                        refine RS.p (Pu.move rfl) rfl rfl ?_
                        obtain ⟨x66, hx66, H⟩ := bindE H
                        refine RS.solid (Sd.callF0 8 ent30 rfl rfl (fun w s => thronglaw0_Numbers_walk x56 rfl  hx66 w s)) rfl rfl fun _ => ?_
                        refine RS.nil (hK15 _ _ (T.conseq (fr' := [(1, _), (3, _), (5, _), (6, _)]) ?_ ⟨rfl, rfl, rfl, rfl, trivial⟩ (fun _ s => s)))
                        refine T.region ?_
                        refine RS.p (Pu.move rfl) rfl rfl ?_
                        obtain ⟨g67, H⟩ := gdE H
                        refine RS.p (Pu.addS rfl rfl g67) rfl rfl ?_
                        refine RS.p (Pu.assign rfl) rfl rfl ?_
                        refine RS.nil (hL19 _ _ ((v29 + 1), v49, v50, v51, v48, v52, v54) (q53, q55) H ⟨rfl, rfl, rfl, trivial⟩ ⟨rfl, trivial⟩ (fun w s => s.pick [0, 1, 2, 6, 7] (by decide) rfl))
                    · intro z68 H hJ63
                      refine RD.split 148 rfl (fun hc62 => ?_) (fun hc62 => ?_)
                      · have H := ifT hc62 H
                        refine RD.no (fun w s => s.pick [0, 2, 3, 4, 5, 6, 7, 8] (by decide) rfl) rfl rfl rfl (.inl rfl) ?_
                        refine RD.no (fun w s => s.pick [0, 2, 3, 4, 5, 6, 7, 8] (by decide) rfl) rfl rfl rfl (.inl rfl) ?_
                        refine RD.no (fun w s => s.pick [0, 2, 3, 4, 5, 6, 7, 8] (by decide) rfl) rfl rfl rfl (.inl rfl) ?_
                        refine RD.no (fun w s => s.pick [0, 2, 3, 4, 5, 6, 7, 8] (by decide) rfl) rfl rfl rfl (.inl rfl) ?_
                        refine RD.no (fun w s => s.pick [0, 2, 3, 4, 5, 6, 7, 8] (by decide) rfl) rfl rfl rfl (.inr (.inl rfl)) ?_
                        refine RD.noS rfl (.inr rfl) rfl rfl ?_
                        refine RD.no (fun w s => s.pick [0, 2, 3, 4, 5, 6, 7, 8] (by decide) rfl) rfl rfl rfl (.inl rfl) ?_
                        refine RD.p (fun w s => s.pick [0, 2, 3, 4, 5, 6, 7, 8] (by decide) rfl) rfl (Pu.pickT rfl rfl) rfl rfl ?_
                        obtain rfl := Option.some.inj H
                        exact hJ63 _ ⟨rfl, rfl, rfl, rfl, rfl, rfl, trivial⟩
                      · have H := ifB hc62 H
                        refine RD.p (fun w s => s.pick [0, 2, 3, 4, 5, 6, 7, 8] (by decide) rfl) rfl (Pu.move rfl) rfl rfl ?_
                        refine RD.p (fun w s => s.pick [0, 2, 3, 4, 5, 6, 7, 8] (by decide) rfl) rfl (Pu.move rfl) rfl rfl ?_
                        refine RD.p (fun w s => s.pick [0, 2, 3, 4, 5, 6, 7, 8] (by decide) rfl) rfl (Pu.nilCheck rfl) rfl rfl ?_
                        refine RD.p (fun w s => s.pick [0, 2, 3, 4, 5, 6, 7, 8] (by decide) rfl) rfl (Pu.fieldAddr fd75_2 rfl) rfl rfl ?_
                        refine RD.w (fun w s => s.pick [0, 2, 3, 4, 5, 6, 7, 8] (by decide) rfl) rfl (Qt.ldB 1 ty3 rfl rfl rfl) rfl rfl ?_
                        obtain ⟨x69, hx69, H⟩ := bindE H
                        refine RD.solid rfl (.inr rfl) rfl rfl (Sd.callF0 1 ent54 rfl rfl (fun w s => cache_Cache_Misses_walk g5 v48  hx69 w s)) (fun _ => ClE.sat _ _) (fun _ w s => s.pick [0, 2, 3, 4, 5, 6, 7, 8] (by decide) rfl) (fun h => nomatch h) fun _ => ?_
                        refine RD.p (fun w s => s.pick [0, 2, 3, 4, 5, 6, 7, 8] (by decide) rfl) rfl (Pu.bin rfl rfl rfl) rfl rfl ?_
                        refine RD.p (fun w s => s.pick [0, 2, 3, 4, 5, 6, 7, 8] (by decide) rfl) rfl (Pu.pickF rfl rfl) rfl rfl ?_
                        obtain rfl := Option.some.inj H
                        exact hJ63 _ ⟨rfl, rfl, rfl, rfl, rfl, rfl, trivial⟩
                  · intro z70 H hJ60
                    refine RD.split 139 rfl (fun hc59 => ?_) (fun hc59 => ?_)
                    · have H := ifT hc59 H
                      refine RD.no (fun w s => s.pick [0, 2, 3, 4, 5, 6, 7, 8] (by decide) rfl) rfl rfl rfl (.inl rfl) ?_
                      refine RD.no (fun w s => s.pick [0, 2, 3, 4, 5, 6, 7, 8] (by decide) rfl) rfl rfl rfl (.inl rfl) ?_
                      refine RD.no (fun w s => s.pick [0, 2, 3, 4, 5, 6, 7, 8] (by decide) rfl) rfl rfl rfl (.inl rfl) ?_
                      refine RD.no (fun w s => s.pick [0, 2, 3, 4, 5, 6, 7, 8] (by decide) rfl) rfl rfl rfl (.inl rfl) ?_
                      refine RD.no (fun w s => s.pick [0, 2, 3, 4, 5, 6, 7, 8] (by decide) rfl) rfl rfl rfl (.inr (.inl rfl)) ?_
                      refine RD.noS rfl (.inr rfl) rfl rfl ?_
                      refine RD.no (fun w s => s.pick [0, 2, 3, 4, 5, 6, 7, 8] (by decide) rfl) rfl rfl rfl (.inl rfl) ?_
                      refine RD.p (fun w s => s.pick [0, 2, 3, 4, 5, 6, 7, 8] (by decide) rfl) rfl (Pu.pickT rfl rfl) rfl rfl ?_
                      obtain rfl := Option.some.inj H
                      exact hJ60 _ ⟨rfl, rfl, rfl, rfl, rfl, rfl, trivial⟩
                    · have H := ifB hc59 H
                      refine RD.p (fun w s => s.pick [0, 2, 3, 4, 5, 6, 7, 8] (by decide) rfl) rfl (Pu.move rfl) rfl rfl ?_
                      refine RD.p (fun w s => s.pick [0, 2, 3, 4, 5, 6, 7, 8] (by decide) rfl) rfl (Pu.move rfl) rfl rfl ?_
                      refine RD.p (fun w s => s.pick [0, 2, 3, 4, 5, 6, 7, 8] (by decide) rfl) rfl (Pu.nilCheck rfl) rfl rfl ?_
                      refine RD.p (fun w s => s.pick [0, 2, 3, 4, 5, 6, 7, 8] (by decide) rfl) rfl (Pu.fieldAddr fd75_1 rfl) rfl rfl ?_
                      refine RD.w (fun w s => s.pick [0, 2, 3, 4, 5, 6, 7, 8] (by decide) rfl) rfl (Qt.ldB 1 ty3 rfl rfl rfl) rfl rfl ?_
                      obtain ⟨x71, hx71, H⟩ := bindE H
                      refine RD.solid rfl (.inr rfl) rfl rfl (Sd.callF0 1 ent53 rfl rfl (fun w s => cache_Cache_Hits_walk g5 v48  hx71 w s)) (fun _ => ClE.sat _ _) (fun _ w s => s.pick [0, 2, 3, 4, 5, 6, 7, 8] (by decide) rfl) (fun h => nomatch h) fun _ => ?_
                      refine RD.p (fun w s => s.pick [0, 2, 3, 4, 5, 6, 7, 8] (by decide) rfl) rfl (Pu.bin rfl rfl rfl) rfl rfl ?_
                      refine RD.p (fun w s => s.pick [0, 2, 3, 4, 5, 6, 7, 8] (by decide) rfl) rfl (Pu.pickF rfl rfl) rfl rfl ?_
                      obtain rfl := Option.some.inj H
                      exact hJ60 _ ⟨rfl, rfl, rfl, rfl, rfl, rfl, trivial⟩
                · intro z47 H HX47 hJ47
                  refine T.block ?_
                  refine T.seq fun K23 hK23 => ?_
                  refine T.seq fun K24 hK24 => ?_
                  refine T.region ?_
                  refine RS.p (Pu.bin rfl rfl rfl) rfl rfl ?_
                  refine RS.p (Pu.assign rfl) rfl rfl ?_
                  refine RS.nil (hK24 _ _ ?_)
                  refine T.joinE (σ := Bool) (γ := Unit) H (fun s => s) [(1, _), (3, _), (5, _), (6, _), (7, _), (69, _)] ⟨rfl, rfl, rfl, rfl, rfl, rfl, trivial⟩ (fun v73 _ => [(82, .bool v73)]) (fun v73 _ => Sat w [blk b1 [.int .i64 a0_p.room, .slice (some ⟨bl43, ol44, none⟩) a0_p.l.length c0] 62, Cach_ch g5 v33, blk b18 [.int .i64 v30, .int .i64 v31, .int .i64 v32, rowV q35 l34.length, rowV q37 l36.length] 75, row nilH 3 (rowV q35 l34.length) l34, row nilH 3 (rowV q37 l36.length) l36, blk b45 [.int .i64 ((gi a0_p.l v29).act), .int .i64 ((gi a0_p.l v29).key), .int .i64 ((gi a0_p.l v29).val)] 66]) ?_ ?_
                  · rintro v73 ⟨⟩ H
                    try dsimp only [Ex.then] at H
                    refine Cont.conseq (fr' := [(82, _), (1, _), (3, _), (5, _), (6, _), (7, _), (69, _)]) ?_ ⟨rfl, rfl, rfl, rfl, rfl, rfl, rfl, trivial⟩ (fun _ s => s)
                    refine id (hK23 _ _ ?_)
                    refine T.cond rfl (fun hc74 => ?_) (fun hc74 => ?_)
                    · have H := ifT hc74 H
                      refine T.seq fun K25 hK25 => ?_
                      refine T.region ?_
                      refine RS.p (Pu.move rfl) rfl rfl ?_
                      refine RS.p (Pu.fieldAddr fd66_1 rfl) rfl rfl ?_
                      refine RS.q (Qt.ldB 5 ty3 rfl rfl rfl) rfl rfl ?_
                      obtain ⟨x75, hx75, H⟩ := bindE H
                      refine RS.solid (Sd.callF0 1 ent45 rfl rfl (fun w s => cache_Cache_Get_walk g5 v33 ((gi a0_p.l v29).key)  hx75 w s)) rfl rfl fun _ => ?_
                      refine RS.p (Pu.move rfl) rfl rfl ?_
                      refine RS.p (Pu.extract rfl rfl) rfl rfl ?_
                      refine RS.p (Pu.extract rfl rfl) rfl rfl ?_
                      refine RS.p (Pu.assign rfl) rfl rfl ?_
                      refine RS.p (Pu.assign rfl) rfl rfl ?_
                      refine RS.nil (hK25 _ _ (T.conseq (fr' := [(1, _), (3, _), (5, _), (6, _), (7, _), (8, _), (9, _)]) ?_ ⟨rfl, rfl, rfl, rfl, rfl, rfl, rfl, trivial⟩ (fun _ s => s)))
                      refine T.seq fun K26 hK26 => ?_
                      refine T.region ?_
                      refine RS.p (Pu.move rfl) rfl rfl ?_
                      refine RS.p (Pu.fieldAddr fd66_1 rfl) rfl rfl ?_
                      refine RS.q (Qt.ldB 5 ty3 rfl rfl rfl) rfl rfl ?_
                      refine RS.weakS (fun w s => CRef_shut (R := [blk b1 [.int .i64 a0_p.room, .slice (some ⟨bl43, ol44, none⟩) a0_p.l.length c0] 62, Cach_ch g5 x75.2.2, blk b45 [.int .i64 ((gi a0_p.l v29).act), .int .i64 ((gi a0_p.l v29).key), .int .i64 ((gi a0_p.l v29).val)] 66]) (g := b18) (x := (⟨v30, v31, v32, l34, l36⟩ : CRef)) ⟨q35, q37⟩ (s.pick [0, 1, 5, 2, 3, 4] (by decide) rfl)) ?_
                      obtain ⟨x76, hx76, H⟩ := bindE H
                      refine RS.solid (Sd.callF0 0 ent48 rfl rfl (fun w s => throngref15_Cache_Get_walk b18 (⟨v30, v31, v32, l34, l36⟩ : CRef) ((gi a0_p.l v29).key)  hx76 w s)) rfl rfl fun _ => ?_
                      refine RS.ex (S' := fun q : (Option Nat × Nat) × (Option Nat × Nat) => Sat w [blk b1 [.int .i64 a0_p.room, .slice (some ⟨bl43, ol44, none⟩) a0_p.l.length c0] 62, Cach_ch g5 x75.2.2, blk b18 [.int .i64 x76.2.2.room, .int .i64 x76.2.2.hits, .int .i64 x76.2.2.misses, rowV q.1 x76.2.2.k.length, rowV q.2 x76.2.2.v.length] 75, row nilH 3 (rowV q.1 x76.2.2.k.length) x76.2.2.k, row nilH 3 (rowV q.2 x76.2.2.v.length) x76.2.2.v, blk b45 [.int .i64 ((gi a0_p.l v29).act), .int .i64 ((gi a0_p.l v29).key), .int .i64 ((gi a0_p.l v29).val)] 66]) (fun w s => let ⟨q, s⟩ := CRef_open 0 rfl s; ⟨q, s.pick [1, 2, 0, 4, 5, 3] (by decide) rfl⟩) ?_
                      rintro ⟨q77, q78⟩
                      show RS _ _ _ _ _ _ (Sat w [blk b1 [.int .i64 a0_p.room, .slice (some ⟨bl43, ol44, none⟩) a0_p.l.length c0] 62, Cach_ch g5 x75.2.2, blk b18 [.int .i64 x76.2.2.room, .int .i64 x76.2.2.hits, .int .i64 x76.2.2.misses, rowV q77 x76.2.2.k.length, rowV q78 x76.2.2.v.length] 75, row nilH 3 (rowV q77 x76.2.2.k.length) x76.2.2.k, row nilH 3 (rowV q78 x76.2.2.v.length) x76.2.2.v, blk b45 [.int .i64 ((gi a0_p.l v29).act), .int .i64 ((gi a0_p.l v29).key), .int .i64 ((gi a0_p.l v29).val)] 66])
                      refine RS.p (Pu.move rfl) rfl rfl ?_
                      refine RS.p (Pu.extract rfl rfl) rfl rfl ?_
                      refine RS.p (Pu.extract rfl rfl) rfl rfl ?_
                      refine RS.p (Pu.assign rfl) rfl rfl ?_
                      refine RS.p (Pu.assign rfl) rfl rfl ?_
                      refine RS.nil (hK26 _ _ (T.conseq (fr' := [(1, _), (3, _), (5, _), (6, _), (8, _), (9, _), (10, _), (11, _)]) ?_ ⟨rfl, rfl, rfl, rfl, rfl, rfl, rfl, rfl, trivial⟩ (fun _ s => s)))
                      refine T.seq fun K27 hK27 => ?_
                      refine T.region ?_
                      refine RS.p (Pu.move rfl) rfl rfl ?_
                      refine RS.p (Pu.move rfl) rfl rfl ?_
                      refine RS.p (Pu.bin rfl rfl rfl) rfl rfl ?_
                      refine RS.p (Pu.move rfl) rfl rfl ?_
                      refine RS.joinV 4 108 (.bool (decide ((¬ x75.1 = x76.1) ∨ (¬ x75.2.1 = x76.2.1)))) [(1, _), (3, _), (5, _), (6, _)] ⟨rfl, rfl, rfl, rfl, trivial⟩ ?_ ?_
                      · refine RS.nil (hK27 _ _ ?_)
                        refine T.condP rfl (fun hc81 => ?_) (fun hc81 => ?_)
                        · have H := ifT hc81 H
                          refine T.conseq (fr' := []) ?_ trivial (fun _ s => s)
                          refine T.seq fun K28 hK28 => ?_
                          refine T.region ?_
                          refine RS.p (Pu.assign rfl) rfl rfl ?_
                          refine RS.nil (hK28 _ _ ?_)
                          obtain rfl := Option.some.inj H
                          have H := HX47
                          obtain rfl := hd19 _ H
                          have H := HX19
                          obtain rfl := Option.some.inj H
                          refine T.retTo (by with_reducible ((repeat (first | apply RetTo.seq | apply RetTo.blk)); exact RetTo.refl _)) (Cont.ret1 rfl rfl fun w' s => ?_)
                          exact ⟨rfl, s.ext⟩
                        · have H := ifF hc81 H
                          obtain rfl := Option.some.inj H
                          refine T.skip (hJ47 _ _ (x75.2.2, x76.2.2.room, x76.2.2.hits, x76.2.2.misses, x76.2.2.k, x76.2.2.v) (q77, q78) HX47 ⟨rfl, rfl, rfl, rfl, trivial⟩ trivial (fun w s => ((s.deadRow).deadRow).pick [0, 1, 2, 6, 7, 5, 3, 4] (by decide) rfl))
                      · intro hJ80
                        refine RS.splitP 104 rfl (fun hc79 => ?_) (fun hc79 => ?_)
                        · refine RS.no rfl rfl ?_
                          refine RS.no rfl rfl ?_
                          refine RS.no rfl rfl ?_
                          refine RS.p (Pu.pickT rfl rfl) rfl rfl ?_
                          exact hJ80 _ _ ⟨dOrT hc79, rfl, rfl, rfl, rfl, trivial⟩ (fun w s => s)
                        · refine RS.p (Pu.move rfl) rfl rfl ?_
                          refine RS.p (Pu.move rfl) rfl rfl ?_
                          refine RS.p (Pu.neB ul4 rfl rfl) rfl rfl ?_
                          refine RS.p (Pu.pickF rfl rfl) rfl rfl ?_
                          exact hJ80 _ _ ⟨dOrF hc79, rfl, rfl, rfl, rfl, trivial⟩ (fun w s => s)
                    · have H := ifB hc74 H
                      refine T.seq fun K29 hK29 => ?_
                      refine T.region ?_
                      refine RS.p (Pu.bin rfl rfl rfl) rfl rfl ?_
                      refine RS.p (Pu.assign rfl) rfl rfl ?_
                      refine RS.nil (hK29 _ _ ?_)
                      refine T.condP rfl (fun hc82 => ?_) (fun hc82 => ?_)
                      · have H := ifT hc82 H
                        refine T.conseq (fr' := [(1, _), (3, _), (5, _), (6, _), (7, _)]) ?_ ⟨rfl, rfl, rfl, rfl, rfl, trivial⟩ (fun _ s => s)
                        refine T.seq fun K30 hK30 => ?_
                        refine T.weakS (fun w s => CRef_shut (R := [blk b1 [.int .i64 a0_p.room, .slice (some ⟨bl43, ol44, none⟩) a0_p.l.length c0] 62, Cach_ch g5 v33, blk b45 [.int .i64 ((gi a0_p.l v29).act), .int .i64 ((gi a0_p.l v29).key), .int .i64 ((gi a0_p.l v29).val)] 66]) (g := b18) (x := (⟨v30, v31, v32, l34, l36⟩ : CRef)) ⟨q35, q37⟩ (s.pick [0, 1, 5, 2, 3, 4] (by decide) rfl)) ?_
                        refine T.drawnS [1, 3] [(0, .pu), (1, .pu), (2, .wk), (4, .pu), (5, .pu), (6, .wk), (3, .br), (7, .br), (8, .pu)] mixed (by kernel_rfl) rfl ?_
                        refine RD.p (fun w s => s.pick [1, 3] (by decide) rfl) rfl (Pu.move rfl) rfl rfl ?_
                        refine RD.p (fun w s => s.pick [1, 3] (by decide) rfl) rfl (Pu.fieldAddr fd66_1 rfl) rfl rfl ?_
                        refine RD.w (fun w s => s.pick [1, 3] (by decide) rfl) rfl (Qt.ldB 1 ty3 rfl rfl rfl) rfl rfl ?_
                        refine RD.p (fun w s => s.pick [1, 3] (by decide) rfl) rfl (Pu.move rfl) rfl rfl ?_
                        refine RD.p (fun w s => s.pick [1, 3] (by decide) rfl) rfl (Pu.fieldAddr fd66_1 rfl) rfl rfl ?_
                        refine RD.w (fun w s => s.pick [1, 3] (by decide) rfl) rfl (Qt.ldB 1 ty3 rfl rfl rfl) rfl rfl ?_
                        obtain ⟨x83, hx83, H⟩ := bindE H
                        refine RD.solid rfl (.inr rfl) rfl rfl (Sd.callF0 2 ent49 rfl rfl (fun w s => cache_Cache_Drop_walk g5 v33 ((gi a0_p.l v29).key)  hx83 w s)) (fun _ => ClE.sat _ _) (fun _ w s => s.pick [1, 3] (by decide) rfl) (fun h => nomatch h) fun _ => ?_
                        obtain ⟨x84, hx84, H⟩ := bindE H
                        refine RD.solid rfl (.inr rfl) rfl rfl (Sd.callF0 0 ent50 rfl rfl (fun w s => throngref15_Cache_Drop_walk b18 (⟨v30, v31, v32, l34, l36⟩ : CRef) ((gi a0_p.l v29).key)  hx84 w s)) (fun _ => ClE.sat _ _) (fun _ w s => s.pick [1, 3] (by decide) rfl) (fun h => nomatch h) fun _ => ?_
                        refine RD.p (fun w s => s.pick [1, 3] (by decide) rfl) rfl (Pu.neB ul4 rfl rfl) rfl rfl ?_
                        refine RD.nil ?_
                        refine Cont.ex (S' := fun q : (Option Nat × Nat) × (Option Nat × Nat) => Sat w [blk b1 [.int .i64 a0_p.room, .slice (some ⟨bl43, ol44, none⟩) a0_p.l.length c0] 62, Cach_ch g5 x83.2, blk b18 [.int .i64 x84.2.room, .int .i64 x84.2.hits, .int .i64 x84.2.misses, rowV q.1 x84.2.k.length, rowV q.2 x84.2.v.length] 75, row nilH 3 (rowV q.1 x84.2.k.length) x84.2.k, row nilH 3 (rowV q.2 x84.2.v.length) x84.2.v, blk b45 [.int .i64 ((gi a0_p.l v29).act), .int .i64 ((gi a0_p.l v29).key), .int .i64 ((gi a0_p.l v29).val)] 66]) (fun w s => let ⟨q, s⟩ := CRef_open 0 rfl s; ⟨q, s.pick [1, 2, 0, 4, 5, 3] (by decide) rfl⟩) ?_
                        rintro ⟨q85, q86⟩
                        show Cont _ _ _ (Sat w [blk b1 [.int .i64 a0_p.room, .slice (some ⟨bl43, ol44, none⟩) a0_p.l.length c0] 62, Cach_ch g5 x83.2, blk b18 [.int .i64 x84.2.room, .int .i64 x84.2.hits, .int .i64 x84.2.misses, rowV q85 x84.2.k.length, rowV q86 x84.2.v.length] 75, row nilH 3 (rowV q85 x84.2.k.length) x84.2.k, row nilH 3 (rowV q86 x84.2.v.length) x84.2.v, blk b45 [.int .i64 ((gi a0_p.l v29).act), .int .i64 ((gi a0_p.l v29).key), .int .i64 ((gi a0_p.l v29).val)] 66])
                        refine id (hK30 _ _ ?_)
                        refine T.condP rfl (fun hc87 => ?_) (fun hc87 => ?_)
                        · have H := ifT hc87 H
                          refine T.conseq (fr' := []) ?_ trivial (fun _ s => s)
                          refine T.seq fun K31 hK31 => ?_
                          refine T.region ?_
                          refine RS.p (Pu.assign rfl) rfl rfl ?_
                          refine RS.nil (hK31 _ _ ?_)
                          obtain rfl := Option.some.inj H
                          have H := HX47
                          obtain rfl := hd19 _ H
                          have H := HX19
                          obtain rfl := Option.some.inj H
                          refine T.retTo (by with_reducible ((repeat (first | apply RetTo.seq | apply RetTo.blk)); exact RetTo.refl _)) (Cont.ret1 rfl rfl fun w' s => ?_)
                          exact ⟨rfl, s.ext⟩
                        · have H := ifF hc87 H
                          obtain rfl := Option.some.inj H
                          refine T.skip (hJ47 _ _ (x83.2, x84.2.room, x84.2.hits, x84.2.misses, x84.2.k, x84.2.v) (q85, q86) HX47 ⟨rfl, rfl, rfl, rfl, trivial⟩ trivial (fun w s => ((s.deadRow).deadRow).pick [0, 1, 2, 6, 7, 5, 3, 4] (by decide) rfl))
                      · have H := ifF hc82 H
                        refine T.conseq (fr' := [(1, _), (3, _), (5, _), (6, _), (7, _), (69, _)]) ?_ ⟨rfl, rfl, rfl, rfl, rfl, rfl, trivial⟩ (fun _ s => s)
                        refine T.seq fun K32 hK32 => ?_
                        refine T.region ?_
                        refine RS.p (Pu.bin rfl rfl rfl) rfl rfl ?_
                        refine RS.p (Pu.assign rfl) rfl rfl ?_
                        refine RS.nil (hK32 _ _ ?_)
                        refine T.condP rfl (fun hc88 => ?_) (fun hc88 => ?_)
                        · have H := ifT hc88 H
                          refine T.conseq (fr' := [(1, _), (3, _), (5, _), (6, _)]) ?_ ⟨rfl, rfl, rfl, rfl, trivial⟩ (fun _ s => s)
                          refine T.seq fun K33 hK33 => ?_
                          refine T.region ?_
                          refine RS.p (Pu.move rfl) rfl rfl ?_
                          obtain ⟨x89, hx89, H⟩ := bindE H
                          refine RS.solid (Sd.callF0 1 ent51 rfl rfl (fun w s => cache_Cache_Clear_walk g5 v33  hx89 w s)) rfl rfl fun _ => ?_
                          refine RS.nil (hK33 _ _ ?_)
                          refine T.region ?_
                          refine RS.p (Pu.move rfl) rfl rfl ?_
                          refine RS.p (Pu.move rfl) rfl rfl ?_
                          refine RS.p (Pu.nilCheck rfl) rfl rfl ?_
                          refine RS.p (Pu.fieldAddr fd75_3 rfl) rfl rfl ?_
                          refine RS.solid (Sd.stB (cs' := [_, _, _, _, _]) 2 ty26 rfl rfl rfl rfl rfl rfl rfl rfl) rfl rfl fun _ => ?_
                          refine RS.p (Pu.nilCheck rfl) rfl rfl ?_
                          refine RS.p (Pu.fieldAddr fd75_4 rfl) rfl rfl ?_
                          refine RS.solid (Sd.stB (cs' := [_, _, _, _, _]) 2 ty26 rfl rfl rfl rfl rfl rfl rfl rfl) rfl rfl fun _ => ?_
                          obtain rfl := Option.some.inj H
                          refine RS.nil (hJ47 _ _ (x89, v30, v31, v32, [], []) ((none, 0), (none, 0)) HX47 ⟨rfl, rfl, rfl, rfl, trivial⟩ trivial (fun w s => ((((s.deadRow).deadRow).nilRow (α := Int) 3).nilRow (α := Int) 3).pick [0, 1, 2, 6, 7, 5, 8, 9] (by decide) rfl))
                        · have H := ifF hc88 H
                          refine T.conseq (fr' := [(1, _), (3, _), (5, _), (6, _), (7, _)]) ?_ ⟨rfl, rfl, rfl, rfl, rfl, trivial⟩ (fun _ s => s)
                          refine T.seq fun K34 hK34 => ?_
                          refine T.region ?_
                          refine RS.p (Pu.move rfl) rfl rfl ?_
                          refine RS.p (Pu.fieldAddr fd66_1 rfl) rfl rfl ?_
                          refine RS.q (Qt.ldB 5 ty3 rfl rfl rfl) rfl rfl ?_
                          refine RS.p (Pu.fieldAddr fd66_2 rfl) rfl rfl ?_
                          refine RS.q (Qt.ldB 5 ty3 rfl rfl rfl) rfl rfl ?_
                          obtain ⟨x90, hx90, H⟩ := bindE H
                          refine RS.solid (Sd.callF0 1 ent43 rfl rfl (fun w s => cache_Cache_Put_walk g5 v33 ((gi a0_p.l v29).key) ((gi a0_p.l v29).val)  hx90 w s)) rfl rfl fun _ => ?_
                          refine RS.nil (hK34 _ _ (T.conseq (fr' := [(1, _), (3, _), (5, _), (6, _), (7, _)]) ?_ ⟨rfl, rfl, rfl, rfl, rfl, trivial⟩ (fun _ s => s)))
                          refine T.region ?_
                          refine RS.p (Pu.move rfl) rfl rfl ?_
                          refine RS.p (Pu.fieldAddr fd66_1 rfl) rfl rfl ?_
                          refine RS.q (Qt.ldB 5 ty3 rfl rfl rfl) rfl rfl ?_
                          refine RS.p (Pu.fieldAddr fd66_2 rfl) rfl rfl ?_
                          refine RS.q (Qt.ldB 5 ty3 rfl rfl rfl) rfl rfl ?_
                          refine RS.weakS (fun w s => CRef_shut (R := [blk b1 [.int .i64 a0_p.room, .slice (some ⟨bl43, ol44, none⟩) a0_p.l.length c0] 62, Cach_ch g5 x90, blk b45 [.int .i64 ((gi a0_p.l v29).act), .int .i64 ((gi a0_p.l v29).key), .int .i64 ((gi a0_p.l v29).val)] 66]) (g := b18) (x := (⟨v30, v31, v32, l34, l36⟩ : CRef)) ⟨q35, q37⟩ (s.pick [0, 1, 5, 2, 3, 4] (by decide) rfl)) ?_
                          obtain ⟨x91, hx91, H⟩ := bindE H
                          refine RS.solid (Sd.callF0 0 ent52 rfl rfl (fun w s => throngref15_Cache_Put_walk b18 (⟨v30, v31, v32, l34, l36⟩ : CRef) ((gi a0_p.l v29).key) ((gi a0_p.l v29).val)  hx91 w s)) rfl rfl fun _ => ?_
                          refine RS.ex (S' := fun q : (Option Nat × Nat) × (Option Nat × Nat) => Sat w [blk b1 [.int .i64 a0_p.room, .slice (some ⟨bl43, ol44, none⟩) a0_p.l.length c0] 62, Cach_ch g5 x90, blk b18 [.int .i64 x91.room, .int .i64 x91.hits, .int .i64 x91.misses, rowV q.1 x91.k.length, rowV q.2 x91.v.length] 75, row nilH 3 (rowV q.1 x91.k.length) x91.k, row nilH 3 (rowV q.2 x91.v.length) x91.v, blk b45 [.int .i64 ((gi a0_p.l v29).act), .int .i64 ((gi a0_p.l v29).key), .int .i64 ((gi a0_p.l v29).val)] 66]) (fun w s => let ⟨q, s⟩ := CRef_open 0 rfl s; ⟨q, s.pick [1, 2, 0, 4, 5, 3] (by decide) rfl⟩) ?_
                          rintro ⟨q92, q93⟩
                          show RS _ _ _ _ _ _ (Sat w [blk b1 [.int .i64 a0_p.room, .slice (some ⟨bl43, ol44, none⟩) a0_p.l.length c0] 62, Cach_ch g5 x90, blk b18 [.int .i64 x91.room, .int .i64 x91.hits, .int .i64 x91.misses, rowV q92 x91.k.length, rowV q93 x91.v.length] 75, row nilH 3 (rowV q92 x91.k.length) x91.k, row nilH 3 (rowV q93 x91.v.length) x91.v, blk b45 [.int .i64 ((gi a0_p.l v29).act), .int .i64 ((gi a0_p.l v29).key), .int .i64 ((gi a0_p.l v29).val)] 66])
                          obtain rfl := Option.some.inj H
                          refine RS.nil (hJ47 _ _ (x90, x91.room, x91.hits, x91.misses, x91.k, x91.v) (q92, q93) HX47 ⟨rfl, rfl, rfl, rfl, trivial⟩ trivial (fun w s => ((s.deadRow).deadRow).pick [0, 1, 2, 6, 7, 5, 3, 4] (by decide) rfl))
                  · intro z72 H HX72 hJ72
                    refine T.condP rfl (fun hc94 => ?_) (fun hc94 => ?_)
                    · have H := ifT hc94 H
                      obtain rfl := Option.some.inj H
                      refine T.skip (hJ72 _ _ (decide (x46 = 4)) () HX72 ⟨rfl, rfl, rfl, rfl, rfl, rfl, trivial⟩ ⟨rfl, trivial⟩ (fun w s => s))
                    · have H := ifF hc94 H
                      refine T.conseq (fr' := [(1, _), (3, _), (5, _), (6, _), (7, _), (69, _)]) ?_ ⟨rfl, rfl, rfl, rfl, rfl, rfl, trivial⟩ (fun _ s => s)
                      refine T.seq fun K35 hK35 => ?_
                      refine T.region ?_
                      refine RS.p (Pu.bin rfl rfl rfl) rfl rfl ?_
                      refine RS.p (Pu.assign rfl) rfl rfl ?_
                      refine RS.nil (hK35 _ _ ?_)
                      refine T.condP rfl (fun hc95 => ?_) (fun hc95 => ?_)
                      · have H := ifT hc95 H
                        obtain rfl := Option.some.inj H
                        refine T.skip (hJ72 _ _ (decide (x46 = 5)) () HX72 ⟨rfl, rfl, rfl, rfl, rfl, rfl, trivial⟩ ⟨rfl, trivial⟩ (fun w s => s))
                      · have H := ifF hc95 H
                        refine T.seq fun K36 hK36 => ?_
                        refine T.region ?_
                        refine RS.p (Pu.bin rfl rfl rfl) rfl rfl ?_
                        refine RS.p (Pu.assign rfl) rfl rfl ?_
                        refine RS.nil (hK36 _ _ ?_)
                        refine T.condP rfl (fun hc96 => ?_) (fun hc96 => ?_)
                        · have H := ifT hc96 H
                          obtain rfl := Option.some.inj H
                          refine T.skip (hJ72 _ _ (decide (x46 = 6)) () HX72 ⟨rfl, rfl, rfl, rfl, rfl, rfl, trivial⟩ ⟨rfl, trivial⟩ (fun w s => s))
                        · have H := ifF hc96 H
                          refine T.conseq (fr' := [(1, _), (3, _), (5, _), (6, _), (7, _), (69, _)]) ?_ ⟨rfl, rfl, rfl, rfl, rfl, rfl, trivial⟩ (fun _ s => s)
                          refine T.region ?_
                          refine RS.p (Pu.bin rfl rfl rfl) rfl rfl ?_
                          refine RS.p (Pu.assign rfl) rfl rfl ?_
                          obtain rfl := Option.some.inj H
                          refine RS.nil (hJ72 _ _ (decide (x46 = 7)) () HX72 ⟨rfl, rfl, rfl, rfl, rfl, rfl, trivial⟩ ⟨rfl, trivial⟩ (fun w s => s))
              · have H := ifF hc41 H
                obtain rfl := hd19 _ H
                refine T.exitTo (by with_reducible (repeat (first | exact ExTo.here | exact ExTo.hereN | exact ExTo.deep (by repeat (first | exact NmTo.seq | apply NmTo.blk)) | apply ExTo.seq | refine ExTo.past (by decide) ?_))) (hJ19 _ _ (v33, v30, v31, v32, l34, l36) (q35, q37) HX19 trivial trivial (fun w s => s))
            · intro hJ40
              refine RS.splitP 56 rfl (fun hc39 => ?_) (fun hc39 => ?_)
              · refine RS.p (Pu.move rfl) rfl rfl ?_
                refine RS.p (Pu.bin rfl rfl rfl) rfl rfl ?_
                refine RS.p (Pu.pickT rfl rfl) rfl rfl ?_
                exact hJ40 _ _ ⟨dAndT hc39, rfl, rfl, rfl, rfl, trivial⟩ (fun w s => s)
              · refine RS.no rfl rfl ?_
                refine RS.no rfl rfl ?_
                refine RS.p (Pu.pickF rfl rfl) rfl rfl ?_
                exact hJ40 _ _ ⟨dAndF hc39, rfl, rfl, rfl, rfl, trivial⟩ (fun w s => s)
    · intro z97 H hJ12
      refine RS.split 34 rfl (fun hc11 => ?_) (fun hc11 => ?_)
      · have H := ifT hc11 H
        refine RS.no rfl rfl ?_
        refine RS.no rfl rfl ?_
        refine RS.no rfl rfl ?_
        refine RS.no rfl rfl ?_
        refine RS.no rfl rfl ?_
        refine RS.no rfl rfl ?_
        refine RS.no rfl rfl ?_
        refine RS.no rfl rfl ?_
        refine RS.p (Pu.pickT rfl rfl) rfl rfl ?_
        obtain rfl := Option.some.inj H
        exact hJ12 _ _ ⟨rfl, rfl, rfl, trivial⟩ (fun w s => s)
      · have H := ifB hc11 H
        refine RS.p (Pu.move rfl) rfl rfl ?_
        obtain ⟨x98, hx98, H⟩ := bindE H
        refine RS.q (Qt.call ent41 rfl fun w s => thronglaw15_num_walk o4 w  hx98) rfl rfl ?_
        refine RS.p (Pu.bin rfl rfl rfl) rfl rfl ?_
        refine RS.p (Pu.move rfl) rfl rfl ?_
        refine RS.joinB H 4 42 (fun b101 => .bool b101) [(1, _), (3, _), (4, _), (33, _), (34, _), (35, _), (36, _), (37, _)] ⟨rfl, rfl, rfl, rfl, rfl, rfl, rfl, rfl, trivial⟩ ?_ ?_
        · intro b101 H
          refine RS.p (Pu.pickF rfl rfl) rfl rfl ?_
          obtain rfl := Option.some.inj H
          exact hJ12 _ _ ⟨rfl, rfl, rfl, trivial⟩ (fun w s => s)
        · intro z102 H hJ100
          refine RS.splitP 38 rfl (fun hc99 => ?_) (fun hc99 => ?_)
          · have H := ifT hc99 H
            refine RS.p (Pu.move rfl) rfl rfl ?_
            obtain ⟨x103, hx103, H⟩ := bindE H
            refine RS.q (Qt.call ent41 rfl fun w s => thronglaw15_num_walk o4 w  hx103) rfl rfl ?_
            refine RS.p (Pu.bin rfl rfl rfl) rfl rfl ?_
            refine RS.p (Pu.pickT rfl rfl) rfl rfl ?_
            obtain rfl := Option.some.inj H
            exact hJ100 _ _ ⟨rfl, rfl, rfl, rfl, rfl, rfl, rfl, rfl, rfl, trivial⟩ (fun w s => s)
          · have H := ifF hc99 H
            refine RS.no rfl rfl ?_
            refine RS.no rfl rfl ?_
            refine RS.no rfl rfl ?_
            refine RS.p (Pu.pickF rfl rfl) rfl rfl ?_
            obtain rfl := Option.some.inj H
            exact hJ100 _ _ ⟨rfl, rfl, rfl, rfl, rfl, rfl, rfl, rfl, rfl, trivial⟩ (fun w s => s)
  · intro z104 H hJ9
    refine RS.splitP 26 rfl (fun hc8 => ?_) (fun hc8 => ?_)
    · have H := ifT hc8 H
      refine RS.no rfl rfl ?_
      refine RS.no rfl rfl ?_
      refine RS.no rfl rfl ?_
      refine RS.no rfl rfl ?_
      refine RS.no rfl rfl ?_
      refine RS.no rfl rfl ?_
      refine RS.p (Pu.pickT rfl rfl) rfl rfl ?_
      obtain rfl := Option.some.inj H
      exact hJ9 _ _ ⟨rfl, rfl, rfl, rfl, trivial⟩ (fun w s => s)
    · have H := ifF hc8 H
      refine RS.p (Pu.move rfl) rfl rfl ?_
      refine RS.p (Pu.eqNilO ul63 rfl) rfl rfl ?_
      refine RS.p (Pu.move rfl) rfl rfl ?_
      obtain ⟨x105, hx105, H⟩ := bindE H
      refine RS.q (Qt.call ent41 rfl fun w s => thronglaw15_num_walk o4 w  hx105) rfl rfl ?_
      refine RS.p (Pu.bin rfl rfl rfl) rfl rfl ?_
      refine RS.p (Pu.neB ul4 rfl rfl) rfl rfl ?_
      refine RS.p (Pu.pickF rfl rfl) rfl rfl ?_
      obtain rfl := Option.some.inj H
      exact hJ9 _ _ ⟨rfl, rfl, rfl, rfl, trivial⟩ (fun w s => s)
theorem thronglaw15_CacheHolds_walk (a0_p : CScr) (w : World) {v0 : Value} (h0 : R (hpOf w) a0_p.l [v0]) {r : Bool} (H : thronglaw15_CacheHolds a0_p = some r) : Calls Try.prog 11 #[.agg #[.int .i64 a0_p.room, v0]] w fun e w' => e = .returned (.bool r) ∧ Ext w w' := by
  have hm0 := R_max h0
  obtain ⟨p0, c0, rfl⟩ := R_form h0
  unfold thronglaw15_CacheHolds at H
  refine T.enter (args := [_]) (S := Sat w []) Try.func11 rfl rfl (Sat.start w) ?_
  refine T.seq fun K1 hK1 => ?_
  refine T.region ?_
  refine RS.solid (Sd.box (cs := [_, _]) rfl rfl) rfl rfl fun b1 => ?_
  refine RS.p (Pu.assign rfl) rfl rfl ?_
  refine RS.nil (hK1 _ _ ?_)
  refine T.seq fun K2 hK2 => ?_
  refine T.region ?_
  refine RS.p (Pu.fieldAddr fd62_0 rfl) rfl rfl ?_
  refine RS.q (Qt.ldB 0 ty3 rfl rfl rfl) rfl rfl ?_
  obtain ⟨x2, hx2, H⟩ := bindE H
  refine RS.q (Qt.call ent15 rfl fun w s => thronglaw0_Within_walk a0_p.room 20 w  hx2) rfl rfl ?_
  obtain ⟨g3, H⟩ := gdE H
  refine RS.p (Pu.addS rfl rfl g3) rfl rfl ?_
  obtain ⟨x4, hx4, H⟩ := bindE H
  obtain ⟨o5, o6⟩ := x4
  dsimp only at H
  refine RS.solid (Sd.callN ent40 rfl (fun w s => cache_New_walk (1 + x2) w  hx4)) rfl rfl fun g7 => ?_
  refine RS.p (Pu.move rfl) rfl rfl ?_
  refine RS.p (Pu.extract rfl rfl) rfl rfl ?_
  refine RS.p (Pu.extract rfl rfl) rfl rfl ?_
  refine RS.p (Pu.assign rfl) rfl rfl ?_
  refine RS.p (Pu.assign rfl) rfl rfl ?_
  refine RS.nil (hK2 _ _ (T.conseq (fr' := [(1, _), (3, _), (4, _)]) ?_ ⟨rfl, rfl, rfl, trivial⟩ (fun _ s => s)))
  refine T.seq fun K3 hK3 => ?_
  refine T.region ?_
  obtain ⟨x8, hx8, H⟩ := bindE H
  obtain ⟨o9, o10⟩ := x8
  dsimp only at H
  refine RS.solid (Sd.callN ent40 rfl (fun w s => cache_New_walk 81 w  hx8)) rfl rfl fun g11 => ?_
  refine RS.p (Pu.move rfl) rfl rfl ?_
  refine RS.p (Pu.extract rfl rfl) rfl rfl ?_
  refine RS.p (Pu.extract rfl rfl) rfl rfl ?_
  refine RS.p (Pu.assign rfl) rfl rfl ?_
  refine RS.p (Pu.assign rfl) rfl rfl ?_
  refine RS.nil (hK3 _ _ (T.conseq (fr' := [(1, _), (3, _), (4, _), (5, _), (6, _)]) ?_ ⟨rfl, rfl, rfl, rfl, rfl, trivial⟩ (fun _ s => s)))
  refine T.seq fun K4 hK4 => ?_
  refine T.seq fun K5 hK5 => ?_
  refine T.region ?_
  refine RS.p (Pu.move rfl) rfl rfl ?_
  obtain ⟨x12, hx12, H⟩ := bindE H
  refine RS.q (Qt.call ent41 rfl fun w s => thronglaw15_num_walk o6 w  hx12) rfl rfl ?_
  refine RS.p (Pu.bin rfl rfl rfl) rfl rfl ?_
  refine RS.p (Pu.move rfl) rfl rfl ?_
  refine RS.joinB H 4 36 (fun b15 => .bool b15) [(1, _), (3, _), (5, _)] ⟨rfl, rfl, rfl, trivial⟩ ?_ ?_
  · intro b15 H
    refine RS.p (Pu.move rfl) rfl rfl ?_
    refine RS.joinV 3 40 (.bool (decide ((b15 = true) ∨ (o5.isNone = true)))) [(1, _), (3, _), (5, _)] ⟨rfl, rfl, rfl, trivial⟩ ?_ ?_
    · refine RS.p (Pu.move rfl) rfl rfl ?_
      refine RS.joinV 3 44 (.bool (decide (((b15 = true) ∨ (o5.isNone = true)) ∨ (o9.isNone = true)))) [(1, _), (3, _), (5, _)] ⟨rfl, rfl, rfl, trivial⟩ ?_ ?_
      · refine RS.nil (hK5 _ _ ?_)
        refine T.condP rfl (fun hc20 => ?_) (fun hc20 => ?_)
        · have H := ifT hc20 H
          refine T.conseq (fr' := []) ?_ trivial (fun _ s => s)
          refine T.seq fun K6 hK6 => ?_
          refine T.region ?_
          refine RS.p (Pu.assign rfl) rfl rfl ?_
          refine RS.nil (hK6 _ _ ?_)
          obtain rfl := Option.some.inj H
          refine T.retTo (by with_reducible ((repeat (first | apply RetTo.seq | apply RetTo.blk)); exact RetTo.refl _)) (Cont.ret1 rfl rfl fun w' s => ?_)
          exact ⟨rfl, s.ext⟩
        · have H := ifF hc20 H
          obtain ⟨z21, hz21, HZz21⟩ := bindE H
          subst hz21
          have H := HZz21
          refine T.weakS (fun w s => s.optSome (C := Cach_ch) 1 rfl) ?_
          obtain ⟨z22, hz22, HZz22⟩ := bindE H
          subst hz22
          have H := HZz22
          refine T.weakS (fun w s => s.optSome (C := Cach_ch) 2 rfl) ?_
          refine T.skip (hK4 _ _ ?_)
          refine T.seq fun K7 hK7 => ?_
          refine T.region ?_
          refine RS.p (Pu.assign rfl) rfl rfl ?_
          refine RS.p (Pu.assign rfl) rfl rfl ?_
          refine RS.nil (hK7 _ _ ?_)
          refine T.seq fun K8 hK8 => ?_
          refine T.seq fun K9 hK9 => ?_
          refine T.region ?_
          refine RS.p (Pu.assign rfl) rfl rfl ?_
          refine RS.nil (hK9 _ _ ?_)
          refine T.joinE (σ := Cach × Cach) (γ := Unit) H Ex.go [] trivial (fun (v24, v25) _ => []) (fun (v24, v25) _ => Sat w [blk b1 [.int .i64 a0_p.room, .slice p0 a0_p.l.length c0] 62, Cach_ch g7 v24, Cach_ch g11 v25]) ?_ ?_
          · rintro ⟨v24, v25⟩ ⟨⟩ H
            try dsimp only [Ex.then] at H
            refine Cont.conseq (fr' := []) ?_ trivial (fun _ s => s)
            refine id (hK8 _ _ ?_)
            refine T.seq fun K10 hK10 => ?_
            refine T.region ?_
            obtain ⟨x26, hx26, H⟩ := bindE H
            refine RS.q (Qt.call ent46 rfl fun w s => thronglaw15_wakes_walk  w  hx26) rfl rfl ?_
            refine RS.p (Pu.assign rfl) rfl rfl ?_
            refine RS.nil (hK10 _ _ ?_)
            obtain rfl := Option.some.inj H
            refine T.retTo (by with_reducible ((repeat (first | apply RetTo.seq | apply RetTo.blk)); exact RetTo.refl _)) (Cont.ret1 rfl rfl fun w' s => ?_)
            exact ⟨rfl, s.ext⟩
          · intro z23 hz23 HX23 hJ23
            refine T.block ?_
            refine T.loopA (γ := (Option Nat × Nat) × (Option Nat × Nat)) hz23 [(1, _), (3, _), (5, _)] (fun (l27, l29, v31, v32, v33) (q28, q30) => [(7, rowV q28 l27.length), (8, rowV q30 l29.length), (9, .int .i64 v31)]) (fun (l27, l29, v31, v32, v33) (q28, q30) => Sat w [blk b1 [.int .i64 a0_p.room, .slice p0 a0_p.l.length c0] 62, Cach_ch g7 v32, Cach_ch g11 v33, row nilH 3 (rowV q28 l27.length) l27, row nilH 3 (rowV q30 l29.length) l29]) ((none, 0), (none, 0)) ⟨rfl, rfl, rfl, trivial⟩ ⟨rfl, rfl, rfl, trivial⟩ (fun w s => ((s.nilRow (α := Int) 3).nilRow (α := Int) 3).pick [0, 1, 2, 3, 4] (by decide) rfl) ?_
            rintro ⟨l27, l29, v31, v32, v33⟩ ⟨q28, q30⟩ y34 H hd23 KL23 hL23
            try dsimp only [Ex.then] at H
            refine T.conseq (fr' := [(7, _), (8, _), (9, _), (1, _), (3, _), (5, _)]) ?_ ⟨rfl, rfl, rfl, rfl, rfl, rfl, trivial⟩ (fun _ s => s)
            refine T.seq fun K11 hK11 => ?_
            refine T.seq fun K12 hK12 => ?_
            refine T.region ?_
            refine RS.p (Pu.move rfl) rfl rfl ?_
            refine RS.p (Pu.fieldAddr fd62_1 rfl) rfl rfl ?_
            refine RS.q (Qt.ldB 0 ty60 rfl rfl rfl) rfl rfl ?_
            refine RS.p (Pu.lenSl sl60 rfl) rfl rfl ?_
            refine RS.p (Pu.bin rfl rfl rfl) rfl rfl ?_
            refine RS.p (Pu.move rfl) rfl rfl ?_
            refine RS.joinV 3 53 (.bool (decide ((v31 < (a0_p.l.length : Int)) ∧ (v31 < 80)))) [(1, _), (3, _), (5, _), (7, _), (8, _), (9, _)] ⟨rfl, rfl, rfl, rfl, rfl, rfl, trivial⟩ ?_ ?_
            · refine RS.nil (hK12 _ _ ?_)
              refine T.condP rfl (fun hc37 => ?_) (fun hc37 => ?_)
              · have H := ifT hc37 H
                refine T.skip (hK11 _ _ ?_)
                refine T.seq fun K13 hK13 => ?_
                refine T.block ?_
                refine T.seq fun K14 hK14 => ?_
                refine T.region ?_
                refine RS.p (Pu.fieldAddr fd62_1 rfl) rfl rfl ?_
                refine RS.q (Qt.ldB 0 ty60 rfl rfl rfl) rfl rfl ?_
                refine RS.p (Pu.move rfl) rfl rfl ?_
                obtain ⟨g38, H⟩ := gdE H
                obtain ⟨bl39, ol40, rfl⟩ := R_ptr h0 (ne_of_pos (pos_of g38))
                refine RS.p (Pu.indexSl sl60 rfl rfl g38) rfl rfl ?_
                refine RS.q (Qt.ldW (α := CAct) (cs := [_, _, _]) (Rd.base h0) ty66 rfl rfl g38 rfl (by rintro _ _ rfl; rfl)) rfl rfl ?_
                refine RS.solid (Sd.alloc zr66 rfl) rfl rfl fun b41 => ?_
                refine RS.solid (Sd.stB (cs' := [_, _, _]) 5 ty66 rfl rfl rfl rfl rfl rfl rfl rfl) rfl rfl fun _ => ?_
                refine RS.nil (hK14 _ _ (T.conseq (fr' := [(1, _), (3, _), (5, _), (7, _), (8, _), (9, _), (10, _)]) ?_ ⟨rfl, rfl, rfl, rfl, rfl, rfl, rfl, trivial⟩ (fun _ s => s)))
                refine T.seq fun K15 hK15 => ?_
                refine T.region ?_
                refine RS.p (Pu.move rfl) rfl rfl ?_
                refine RS.p (Pu.fieldAddr fd66_1 rfl) rfl rfl ?_
                refine RS.q (Qt.ldB 5 ty3 rfl rfl rfl) rfl rfl ?_
                obtain ⟨x42, hx42, H⟩ := bindE H
                refine RS.q (Qt.call ent42 rfl fun w s => throngref0_In_walk l27 ((gi a0_p.l v31).key) w ((Rd.ofRowN 3 rfl) w s) hx42) rfl rfl ?_
                refine RS.p (Pu.assign rfl) rfl rfl ?_
                refine RS.nil (hK15 _ _ (T.conseq (fr' := [(1, _), (3, _), (5, _), (7, _), (8, _), (9, _), (10, _), (11, _)]) ?_ ⟨rfl, rfl, rfl, rfl, rfl, rfl, rfl, rfl, trivial⟩ (fun _ s => s)))
                refine T.seq fun K16 hK16 => ?_
                refine T.seq fun K17 hK17 => ?_
                refine T.region ?_
                refine RS.p (Pu.fieldAddr fd66_0 rfl) rfl rfl ?_
                refine RS.q (Qt.ldB 5 ty3 rfl rfl rfl) rfl rfl ?_
                obtain ⟨x43, hx43, H⟩ := bindE H
                refine RS.q (Qt.call ent15 rfl fun w s => thronglaw0_Within_walk ((gi a0_p.l v31).act) 2 w  hx43) rfl rfl ?_
                refine RS.p (Pu.bin rfl rfl rfl) rfl rfl ?_
                refine RS.nil (hK17 _ _ ?_)
                refine T.condP rfl (fun hc44 => ?_) (fun hc44 => ?_)
                · have H := ifT hc44 H
                  refine T.conseq (fr' := [(1, _), (3, _), (5, _), (7, _), (8, _), (9, _), (10, _), (11, _)]) ?_ ⟨rfl, rfl, rfl, rfl, rfl, rfl, rfl, rfl, trivial⟩ (fun _ s => s)
                  refine T.seq fun K18 hK18 => ?_
                  refine T.region ?_
                  refine RS.p (Pu.move rfl) rfl rfl ?_
                  refine RS.p (Pu.fieldAddr fd66_1 rfl) rfl rfl ?_
                  refine RS.q (Qt.ldB 5 ty3 rfl rfl rfl) rfl rfl ?_
                  refine RS.p (Pu.fieldAddr fd66_2 rfl) rfl rfl ?_
                  refine RS.q (Qt.ldB 5 ty3 rfl rfl rfl) rfl rfl ?_
                  obtain ⟨x45, hx45, H⟩ := bindE H
                  refine RS.solid (Sd.callF0 1 ent43 rfl rfl (fun w s => cache_Cache_Put_walk g7 v32 ((gi a0_p.l v31).key) ((gi a0_p.l v31).val)  hx45 w s)) rfl rfl fun _ => ?_
                  refine RS.nil (hK18 _ _ (T.conseq (fr' := [(1, _), (3, _), (5, _), (7, _), (8, _), (9, _), (10, _), (11, _)]) ?_ ⟨rfl, rfl, rfl, rfl, rfl, rfl, rfl, rfl, trivial⟩ (fun _ s => s)))
                  refine T.seq fun K19 hK19 => ?_
                  refine T.region ?_
                  refine RS.p (Pu.move rfl) rfl rfl ?_
                  refine RS.p (Pu.fieldAddr fd66_1 rfl) rfl rfl ?_
                  refine RS.q (Qt.ldB 5 ty3 rfl rfl rfl) rfl rfl ?_
                  refine RS.p (Pu.fieldAddr fd66_2 rfl) rfl rfl ?_
                  refine RS.q (Qt.ldB 5 ty3 rfl rfl rfl) rfl rfl ?_
                  obtain ⟨x46, hx46, H⟩ := bindE H
                  refine RS.solid (Sd.callF0 2 ent43 rfl rfl (fun w s => cache_Cache_Put_walk g11 v33 ((gi a0_p.l v31).key) ((gi a0_p.l v31).val)  hx46 w s)) rfl rfl fun _ => ?_
                  refine RS.nil (hK19 _ _ (T.conseq (fr' := [(1, _), (3, _), (5, _), (7, _), (8, _), (9, _), (10, _), (11, _)]) ?_ ⟨rfl, rfl, rfl, rfl, rfl, rfl, rfl, rfl, trivial⟩ (fun _ s => s)))
                  refine T.seq fun K20 hK20 => ?_
                  refine T.seq fun K21 hK21 => ?_
                  refine T.region ?_
                  refine RS.p (Pu.move rfl) rfl rfl ?_
                  refine RS.p (Pu.bin rfl rfl rfl) rfl rfl ?_
                  refine RS.nil (hK21 _ _ ?_)
                  refine T.joinE (σ := List Int × List Int) (γ := (Option Nat × Nat) × (Option Nat × Nat)) H (fun s => s) [(1, _), (3, _), (5, _), (9, _), (10, _)] ⟨rfl, rfl, rfl, rfl, rfl, trivial⟩ (fun (v48, v50) (q49, q51) => [(7, rowV q49 v48.length), (8, rowV q51 v50.length)]) (fun (v48, v50) (q49, q51) => Sat w [blk b1 [.int .i64 a0_p.room, .slice (some ⟨bl39, ol40, none⟩) a0_p.l.length c0] 62, Cach_ch g7 x45, Cach_ch g11 x46, row nilH 3 (rowV q49 v48.length) v48, row nilH 3 (rowV q51 v50.length) v50, blk b41 [.int .i64 ((gi a0_p.l v31).act), .int .i64 ((gi a0_p.l v31).key), .int .i64 ((gi a0_p.l v31).val)] 66]) ?_ ?_
                  · rintro ⟨v48, v50⟩ ⟨q49, q51⟩ H
                    try dsimp only [Ex.then] at H
                    refine Cont.conseq (fr' := [(7, _), (8, _), (1, _), (3, _), (5, _), (9, _), (10, _)]) ?_ ⟨rfl, rfl, rfl, rfl, rfl, rfl, rfl, trivial⟩ (fun _ s => s)
                    refine id (hK20 _ _ ?_)
                    refine T.seq fun K22 hK22 => ?_
                    refine T.region ?_
                    refine RS.p (Pu.move rfl) rfl rfl ?_
                    obtain ⟨x52, hx52, H⟩ := bindE H
                    refine RS.solid (Sd.callF 1 ent44 rfl rfl (fun w s => cache_Cache_Keys_walk g7 x45  hx52 w s)) rfl rfl fun q53 => ?_
                    refine RS.p (Pu.assign rfl) rfl rfl ?_
                    refine RS.nil (hK22 _ _ ?_)
                    refine T.seq fun K23 hK23 => ?_
                    refine T.seq fun K24 hK24 => ?_
                    refine T.drawnS [0, 1, 3, 4, 5, 6] [(0, .pu), (1, .pu), (2, .pu), (3, .pu), (4, .pu), (5, .pu), (6, .wk), (7, .pu), (8, .wk), (9, .pu), (10, .pu), (11, .pu), (12, .pu), (13, .pu), (14, .pu), (15, .wk), (16, .wk), (17, .pu), (18, .pu), (19, .pu), (20, .pu), (21, .pu), (24, .pu), (25, .pu), (22, .br), (23, .pu), (26, .pu), (27, .pu)] mixed (by kernel_rfl) rfl ?_
                    refine RD.p (fun w s => s.pick [0, 1, 3, 4, 5, 6] (by decide) rfl) rfl (Pu.move rfl) rfl rfl ?_
                    refine RD.p (fun w s => s.pick [0, 1, 3, 4, 5, 6] (by decide) rfl) rfl (Pu.lenSl sl26 rfl) rfl rfl ?_
                    refine RD.p (fun w s => s.pick [0, 1, 3, 4, 5, 6] (by decide) rfl) rfl (Pu.bin rfl rfl rfl) rfl rfl ?_
                    refine RD.p (fun w s => s.pick [0, 1, 3, 4, 5, 6] (by decide) rfl) rfl (Pu.move rfl) rfl rfl ?_
                    obtain ⟨g56, H⟩ := gdE H
                    refine RD.joinV 7 110 (.bool (decide (((x52.length : Int) = 0) ∨ (¬ (gi x52 (0 : Int)) = (gi a0_p.l v31).key)))) [(1, _), (3, _), (5, _), (7, _), (8, _), (9, _), (12, _)] ⟨rfl, rfl, rfl, rfl, rfl, rfl, rfl, trivial⟩ ?_ ?_
                    · refine RD.p (fun w s => s.pick [0, 1, 3, 4, 5, 6] (by decide) rfl) rfl (Pu.move rfl) rfl rfl ?_
                      refine RD.joinB H 8 119 (fun b59 => .bool b59) [(1, _), (3, _), (5, _), (7, _), (8, _), (9, _)] ⟨rfl, rfl, rfl, rfl, rfl, rfl, trivial⟩ ?_ ?_
                      · intro b59 H
                        refine RD.p (fun w s => s.pick [0, 1, 3, 4, 5, 6] (by decide) rfl) rfl (Pu.move rfl) rfl rfl ?_
                        refine RD.split 120 rfl (fun hc60 => ?_) (fun hc60 => ?_)
                        · have H := ifT hc60 H
                          refine RD.no (fun w s => s.pick [0, 1, 3, 4, 5, 6] (by decide) rfl) rfl rfl rfl (.inl rfl) ?_
                          refine RD.no (fun w s => s.pick [0, 1, 3, 4, 5, 6] (by decide) rfl) rfl rfl rfl (.inl rfl) ?_
                          refine RD.no (fun w s => s.pick [0, 1, 3, 4, 5, 6] (by decide) rfl) rfl rfl rfl (.inl rfl) ?_
                          refine RD.noS rfl (.inr rfl) rfl rfl ?_
                          refine RD.no (fun w s => s.pick [0, 1, 3, 4, 5, 6] (by decide) rfl) rfl rfl rfl (.inl rfl) ?_
                          refine RD.no (fun w s => s.pick [0, 1, 3, 4, 5, 6] (by decide) rfl) rfl rfl rfl (.inl rfl) ?_
                          refine RD.p (fun w s => s.pick [0, 1, 3, 4, 5, 6] (by decide) rfl) rfl (Pu.pickT rfl rfl) rfl rfl ?_
                          refine RD.nil (hK24 _ _ ?_)
                          refine T.condT rfl ?_
                          refine T.conseq (fr' := []) ?_ trivial (fun _ s => s)
                          refine T.seq fun K25 hK25 => ?_
                          refine T.region ?_
                          refine RS.p (Pu.assign rfl) rfl rfl ?_
                          refine RS.nil (hK25 _ _ ?_)
                          obtain rfl := hd23 _ H
                          have H := HX23
                          obtain rfl := Option.some.inj H
                          refine T.retTo (by with_reducible ((repeat (first | apply RetTo.seq | apply RetTo.blk)); exact RetTo.refl _)) (Cont.ret1 rfl rfl fun w' s => ?_)
                          exact ⟨rfl, s.ext⟩
                        · have H := ifB hc60 H
                          refine RD.p (fun w s => s.pick [0, 1, 3, 4, 5, 6] (by decide) rfl) rfl (Pu.move rfl) rfl rfl ?_
                          refine RD.p (fun w s => s.pick [0, 1, 3, 4, 5, 6] (by decide) rfl) rfl (Pu.move rfl) rfl rfl ?_
                          refine RD.p (fun w s => s.pick [0, 1, 3, 4, 5, 6] (by decide) rfl) rfl (Pu.lenSl sl26 rfl) rfl rfl ?_
                          obtain ⟨x61, hx61, H⟩ := bindE H
                          refine RD.solid rfl (.inr rfl) rfl rfl (Sd.callF 2 ent44 rfl rfl (fun w s => cache_Cache_Keys_walk g11 x46  hx61 w s)) (fun _ => ClE.sat _ _) (fun _ w s => s.pick [0, 1, 3, 4, 5, 6] (by decide) rfl) (fun h => nomatch h) fun q62 => ?_
                          refine RD.p (fun w s => s.pick [0, 1, 3, 4, 5, 6] (by decide) rfl) rfl (Pu.lenSl sl26 rfl) rfl rfl ?_
                          refine RD.p (fun w s => s.pick [0, 1, 3, 4, 5, 6] (by decide) rfl) rfl (Pu.bin rfl rfl rfl) rfl rfl ?_
                          refine RD.p (fun w s => s.pick [0, 1, 3, 4, 5, 6] (by decide) rfl) rfl (Pu.pickF rfl rfl) rfl rfl ?_
                          refine RD.nil (hK24 _ _ ?_)
                          refine T.condP rfl (fun hc63 => ?_) (fun hc63 => ?_)
                          · have H := ifT hc63 H
                            refine T.conseq (fr' := []) ?_ trivial (fun _ s => s)
                            refine T.seq fun K26 hK26 => ?_
                            refine T.region ?_
                            refine RS.p (Pu.assign rfl) rfl rfl ?_
                            refine RS.nil (hK26 _ _ ?_)
                            obtain rfl := hd23 _ H
                            have H := HX23
                            obtain rfl := Option.some.inj H
                            refine T.retTo (by with_reducible ((repeat (first | apply RetTo.seq | apply RetTo.blk)); exact RetTo.refl _)) (Cont.ret1 rfl rfl fun w' s => ?_)
                            exact ⟨rfl, s.ext⟩
                          · have H := ifF hc63 H
                            refine T.skip (hK23 _ _ (T.conseq (fr' := [(1, _), (3, _), (5, _), (7, _), (8, _), (9, _)]) ?_ ⟨rfl, rfl, rfl, rfl, rfl, rfl, trivial⟩ (fun _ s => s)))
                            refine T.exitTo (by with_reducible (repeat (first | exact ExTo.here | exact ExTo.hereN | exact ExTo.deep (by repeat (first | exact NmTo.seq | apply NmTo.blk)) | apply ExTo.seq | refine ExTo.past (by decide) ?_))) (hK13 _ _ ?_)
                            refine T.region ?_
                            refine RS.p (Pu.move rfl) rfl rfl ?_
                            obtain ⟨g64, H⟩ := gdE H
                            refine RS.p (Pu.addS rfl rfl g64) rfl rfl ?_
                            refine RS.p (Pu.assign rfl) rfl rfl ?_
                            refine RS.nil (hL23 _ _ (v48, v50, (v31 + 1), x45, x46) (q49, q51) H ⟨rfl, rfl, rfl, trivial⟩ ⟨rfl, rfl, rfl, trivial⟩ (fun w s => s.pick [0, 1, 2, 3, 4] (by decide) rfl))
                      · intro z65 H hJ58
                        refine RD.splitP 111 rfl (fun hc57 => ?_) (fun hc57 => ?_)
                        · have H := ifT hc57 H
                          refine RD.no (fun w s => s.pick [0, 1, 3, 4, 5, 6] (by decide) rfl) rfl rfl rfl (.inl rfl) ?_
                          refine RD.no (fun w s => s.pick [0, 1, 3, 4, 5, 6] (by decide) rfl) rfl rfl rfl (.inl rfl) ?_
                          refine RD.no (fun w s => s.pick [0, 1, 3, 4, 5, 6] (by decide) rfl) rfl rfl rfl (.inl rfl) ?_
                          refine RD.no (fun w s => s.pick [0, 1, 3, 4, 5, 6] (by decide) rfl) rfl rfl rfl (.inr (.inl rfl)) ?_
                          refine RD.no (fun w s => s.pick [0, 1, 3, 4, 5, 6] (by decide) rfl) rfl rfl rfl (.inr (.inl rfl)) ?_
                          refine RD.no (fun w s => s.pick [0, 1, 3, 4, 5, 6] (by decide) rfl) rfl rfl rfl (.inl rfl) ?_
                          refine RD.no (fun w s => s.pick [0, 1, 3, 4, 5, 6] (by decide) rfl) rfl rfl rfl (.inl rfl) ?_
                          refine RD.p (fun w s => s.pick [0, 1, 3, 4, 5, 6] (by decide) rfl) rfl (Pu.pickT rfl rfl) rfl rfl ?_
                          obtain rfl := Option.some.inj H
                          exact hJ58 _ ⟨rfl, rfl, rfl, rfl, rfl, rfl, rfl, trivial⟩
                        · have H := ifF hc57 H
                          refine RD.p (fun w s => s.pick [0, 1, 3, 4, 5, 6] (by decide) rfl) rfl (Pu.move rfl) rfl rfl ?_
                          refine RD.p (fun w s => s.pick [0, 1, 3, 4, 5, 6] (by decide) rfl) rfl (Pu.lenSl sl26 rfl) rfl rfl ?_
                          refine RD.p (fun w s => s.pick [0, 1, 3, 4, 5, 6] (by decide) rfl) rfl (Pu.fieldAddr fd62_0 rfl) rfl rfl ?_
                          refine RD.w (fun w s => s.pick [0, 1, 3, 4, 5, 6] (by decide) rfl) rfl (Qt.ldB 0 ty3 rfl rfl rfl) rfl rfl ?_
                          obtain ⟨x66, hx66, H⟩ := bindE H
                          refine RD.w (fun w s => s.pick [0, 1, 3, 4, 5, 6] (by decide) rfl) rfl (Qt.call ent15 rfl fun w s => thronglaw0_Within_walk a0_p.room 20 w  hx66) rfl rfl ?_
                          obtain ⟨g67, H⟩ := gdE H
                          refine RD.p (fun w s => s.pick [0, 1, 3, 4, 5, 6] (by decide) rfl) rfl (Pu.addS rfl rfl g67) rfl rfl ?_
                          refine RD.p (fun w s => s.pick [0, 1, 3, 4, 5, 6] (by decide) rfl) rfl (Pu.bin rfl rfl rfl) rfl rfl ?_
                          refine RD.p (fun w s => s.pick [0, 1, 3, 4, 5, 6] (by decide) rfl) rfl (Pu.pickF rfl rfl) rfl rfl ?_
                          obtain rfl := Option.some.inj H
                          exact hJ58 _ ⟨rfl, rfl, rfl, rfl, rfl, rfl, rfl, trivial⟩
                    · intro hJ55
                      refine RD.splitP 103 rfl (fun hc54 => ?_) (fun hc54 => ?_)
                      · refine RD.no (fun w s => s.pick [0, 1, 3, 4, 5, 6] (by decide) rfl) rfl rfl rfl (.inl rfl) ?_
                        refine RD.no (fun w s => s.pick [0, 1, 3, 4, 5, 6] (by decide) rfl) rfl rfl rfl (.inl rfl) ?_
                        refine RD.no (fun w s => s.pick [0, 1, 3, 4, 5, 6] (by decide) rfl) rfl rfl rfl (.inr (.inl rfl)) ?_
                        refine RD.no (fun w s => s.pick [0, 1, 3, 4, 5, 6] (by decide) rfl) rfl rfl rfl (.inl rfl) ?_
                        refine RD.no (fun w s => s.pick [0, 1, 3, 4, 5, 6] (by decide) rfl) rfl rfl rfl (.inr (.inl rfl)) ?_
                        refine RD.no (fun w s => s.pick [0, 1, 3, 4, 5, 6] (by decide) rfl) rfl rfl rfl (.inl rfl) ?_
                        refine RD.p (fun w s => s.pick [0, 1, 3, 4, 5, 6] (by decide) rfl) rfl (Pu.pickT rfl rfl) rfl rfl ?_
                        exact hJ55 _ ⟨dOrT hc54, rfl, rfl, rfl, rfl, rfl, rfl, rfl, trivial⟩
                      · refine RD.p (fun w s => s.pick [0, 1, 3, 4, 5, 6] (by decide) rfl) rfl (Pu.move rfl) rfl rfl ?_
                        refine RD.know (p := ∃ g cap, q53 = (some g, cap)) (fun w s => s.row_some (k := 6) rfl (pos_of (g56 hc54))) ?_
                        rintro ⟨gg68, cc69, rfl⟩
                        refine RD.p (fun w s => s.pick [0, 1, 3, 4, 5, 6] (by decide) rfl) rfl (Pu.indexSl sl26 rfl rfl (g56 hc54)) rfl rfl ?_
                        refine RD.w (fun w s => s.pick [0, 1, 3, 4, 5, 6] (by decide) rfl) rfl (Qt.ld0 (α := Int) (Rd.ofRowN 5 rfl) ty3 rfl rfl (g56 hc54) (by rintro _ _ rfl; rfl)) rfl rfl ?_
                        refine RD.p (fun w s => s.pick [0, 1, 3, 4, 5, 6] (by decide) rfl) rfl (Pu.fieldAddr fd66_1 rfl) rfl rfl ?_
                        refine RD.w (fun w s => s.pick [0, 1, 3, 4, 5, 6] (by decide) rfl) rfl (Qt.ldB 4 ty3 rfl rfl rfl) rfl rfl ?_
                        refine RD.p (fun w s => s.pick [0, 1, 3, 4, 5, 6] (by decide) rfl) rfl (Pu.bin rfl rfl rfl) rfl rfl ?_
                        refine RD.p (fun w s => s.pick [0, 1, 3, 4, 5, 6] (by decide) rfl) rfl (Pu.pickF rfl rfl) rfl rfl ?_
                        exact hJ55 _ ⟨dOrF hc54, rfl, rfl, rfl, rfl, rfl, rfl, rfl, trivial⟩
                  · intro z47 H HX47 hJ47
                    refine T.condP rfl (fun hc70 => ?_) (fun hc70 => ?_)
                    · have H := ifT hc70 H
                      refine T.conseq (fr' := [(1, _), (3, _), (5, _), (7, _), (8, _), (9, _), (10, _)]) ?_ ⟨rfl, rfl, rfl, rfl, rfl, rfl, rfl, trivial⟩ (fun _ s => s)
                      refine T.drawnTS [0, 1, 2, 5] [(0, .pu), (1, .pu), (2, .wk), (3, .so), (4, .br), (5, .pu), (6, .pu), (7, .wk), (8, .so), (9, .br), (10, .pu), (11, .pu)] (.st 0 .pu (.st 1 .pu (.st 2 .wk (.st 5 .pu (.st 6 .pu (.st 7 .wk (.two 3 .so (.two 4 .br (.st 8 .so (.st 9 .br (.st 10 .pu (.st 11 .pu .nil)))) 8 .so (.st 4 .br (.st 9 .br (.st 10 .pu (.st 11 .pu .nil))))) 8 .so (.st 3 .so (.st 4 .br (.st 9 .br (.st 10 .pu (.st 11 .pu .nil)))))))))))) mixed (by kernel_rfl) rfl ?_
                      refine RT.p (fun w s => s.pick [0, 1, 2, 5] (by decide) rfl) rfl (Pu.move rfl) rfl rfl ?_
                      refine RT.p (fun w s => s.pick [0, 1, 2, 5] (by decide) rfl) rfl (Pu.fieldAddr fd66_1 rfl) rfl rfl ?_
                      refine RT.w (fun w s => s.pick [0, 1, 2, 5] (by decide) rfl) rfl (Qt.ldB 3 ty3 rfl rfl rfl) rfl rfl ?_
                      refine RT.p (fun w s => s.pick [0, 1, 2, 5] (by decide) rfl) rfl (Pu.move rfl) rfl rfl ?_
                      refine RT.p (fun w s => s.pick [0, 1, 2, 5] (by decide) rfl) rfl (Pu.fieldAddr fd66_2 rfl) rfl rfl ?_
                      refine RT.w (fun w s => s.pick [0, 1, 2, 5] (by decide) rfl) rfl (Qt.ldB 3 ty3 rfl rfl rfl) rfl rfl ?_
                      obtain ⟨g73, H⟩ := gdE H
                      obtain ⟨g76, H⟩ := gdE H
                      refine RT.two ?_ ?_
                      · refine RT1.solid rfl (.inl rfl) rfl rfl (Sd.litS (cs := [_]) sl26 zr3 rfl rfl rfl rfl rfl) (fun _ => ClE.sat _ _) (fun _ w s => s.pick [0, 1, 2, 5] (by decide) rfl) (fun _ _ _ s => s.drop1) fun b271 => ?_
                        refine RT.two ?_ ?_
                        · refine RT1.solid rfl (.inr rfl) rfl rfl (Sd.app1c (α := Int) 3 6 ((gi a0_p.l v31).key) rfl rfl (nilH_lt _) sl26 zr3 rfl rfl rfl rfl g73 (by decide)) (fun _ => ClE.sat _ _) (fun _ w s => s.pick [0, 1, 2, 5] (by decide) rfl) (fun h => nomatch h) fun q272 => ?_
                          refine RT.solid rfl (.inl rfl) rfl rfl (Sd.litS (cs := [_]) sl26 zr3 rfl rfl rfl rfl rfl) (fun _ => ClE.sat _ _) (fun _ w s => s.pick [0, 1, 2, 5] (by decide) rfl) (fun _ _ _ s => s.drop1) fun b273 => ?_
                          refine RT.solid rfl (.inr rfl) rfl rfl (Sd.app1c (α := Int) 4 7 ((gi a0_p.l v31).val) rfl rfl (nilH_lt _) sl26 zr3 rfl rfl rfl rfl g76 (by decide)) (fun _ => ClE.sat _ _) (fun _ w s => s.pick [0, 1, 2, 5] (by decide) rfl) (fun h => nomatch h) fun q274 => ?_
                          refine RT.p (fun w s => s.pick [0, 1, 2, 5] (by decide) rfl) rfl (Pu.assign rfl) rfl rfl ?_
                          refine RT.p (fun w s => s.pick [0, 1, 2, 5] (by decide) rfl) rfl (Pu.assign rfl) rfl rfl ?_
                          obtain rfl := Option.some.inj H
                          refine RT.nil (hJ47 _ _ ((l27 ++ [(gi a0_p.l v31).key]), (l29 ++ [(gi a0_p.l v31).val])) (q272, q274) HX47 ⟨rfl, rfl, rfl, rfl, rfl, trivial⟩ ⟨rfl, rfl, trivial⟩ (fun w s => s.pick [0, 1, 2, 3, 4, 5] (by decide) rfl))
                        · refine RT1.solid rfl (.inl rfl) rfl rfl (Sd.litS (cs := [_]) sl26 zr3 rfl rfl rfl rfl rfl) (fun _ => ClE.sat _ _) (fun _ w s => s.pick [0, 1, 2, 5] (by decide) rfl) (fun _ _ _ s => s.drop1) fun b275 => ?_
                          refine RT.solid rfl (.inr rfl) rfl rfl (Sd.app1c (α := Int) 3 6 ((gi a0_p.l v31).key) rfl rfl (nilH_lt _) sl26 zr3 rfl rfl rfl rfl g73 (by decide)) (fun _ => ClE.sat _ _) (fun _ w s => s.pick [0, 1, 2, 5] (by decide) rfl) (fun h => nomatch h) fun q276 => ?_
                          refine RT.solid rfl (.inr rfl) rfl rfl (Sd.app1c (α := Int) 4 7 ((gi a0_p.l v31).val) rfl rfl (nilH_lt _) sl26 zr3 rfl rfl rfl rfl g76 (by decide)) (fun _ => ClE.sat _ _) (fun _ w s => s.pick [0, 1, 2, 5] (by decide) rfl) (fun h => nomatch h) fun q277 => ?_
                          refine RT.p (fun w s => s.pick [0, 1, 2, 5] (by decide) rfl) rfl (Pu.assign rfl) rfl rfl ?_
                          refine RT.p (fun w s => s.pick [0, 1, 2, 5] (by decide) rfl) rfl (Pu.assign rfl) rfl rfl ?_
                          obtain rfl := Option.some.inj H
                          refine RT.nil (hJ47 _ _ ((l27 ++ [(gi a0_p.l v31).key]), (l29 ++ [(gi a0_p.l v31).val])) (q276, q277) HX47 ⟨rfl, rfl, rfl, rfl, rfl, trivial⟩ ⟨rfl, rfl, trivial⟩ (fun w s => s.pick [0, 1, 2, 3, 4, 5] (by decide) rfl))
                      · refine RT1.solid rfl (.inl rfl) rfl rfl (Sd.litS (cs := [_]) sl26 zr3 rfl rfl rfl rfl rfl) (fun _ => ClE.sat _ _) (fun _ w s => s.pick [0, 1, 2, 5] (by decide) rfl) (fun _ _ _ s => s.drop1) fun b278 => ?_
                        refine RT.solid rfl (.inl rfl) rfl rfl (Sd.litS (cs := [_]) sl26 zr3 rfl rfl rfl rfl rfl) (fun _ => ClE.sat _ _) (fun _ w s => s.pick [0, 1, 2, 5] (by decide) rfl) (fun _ _ _ s => s.drop1) fun b279 => ?_
                        refine RT.solid rfl (.inr rfl) rfl rfl (Sd.app1c (α := Int) 3 7 ((gi a0_p.l v31).key) rfl rfl (nilH_lt _) sl26 zr3 rfl rfl rfl rfl g73 (by decide)) (fun _ => ClE.sat _ _) (fun _ w s => s.pick [0, 1, 2, 5] (by decide) rfl) (fun h => nomatch h) fun q280 => ?_
                        refine RT.solid rfl (.inr rfl) rfl rfl (Sd.app1c (α := Int) 4 6 ((gi a0_p.l v31).val) rfl rfl (nilH_lt _) sl26 zr3 rfl rfl rfl rfl g76 (by decide)) (fun _ => ClE.sat _ _) (fun _ w s => s.pick [0, 1, 2, 5] (by decide) rfl) (fun h => nomatch h) fun q281 => ?_
                        refine RT.p (fun w s => s.pick [0, 1, 2, 5] (by decide) rfl) rfl (Pu.assign rfl) rfl rfl ?_
                        refine RT.p (fun w s => s.pick [0, 1, 2, 5] (by decide) rfl) rfl (Pu.assign rfl) rfl rfl ?_
                        obtain rfl := Option.some.inj H
                        refine RT.nil (hJ47 _ _ ((l27 ++ [(gi a0_p.l v31).key]), (l29 ++ [(gi a0_p.l v31).val])) (q280, q281) HX47 ⟨rfl, rfl, rfl, rfl, rfl, trivial⟩ ⟨rfl, rfl, trivial⟩ (fun w s => s.pick [0, 1, 2, 3, 4, 5] (by decide) rfl))
                    · have H := ifF hc70 H
                      refine T.region ?_
                      refine RS.p (Pu.move rfl) rfl rfl ?_
                      refine RS.p (Pu.move rfl) rfl rfl ?_
                      refine RS.p (Pu.fieldAddr fd66_2 rfl) rfl rfl ?_
                      refine RS.q (Qt.ldB 5 ty3 rfl rfl rfl) rfl rfl ?_
                      obtain ⟨g282, H⟩ := gdE H
                      refine RS.know (p := ∃ g cap, q30 = (some g, cap)) (fun w s => s.row_some (k := 4) rfl (pos_of g282)) ?_
                      rintro ⟨gg283, cc284, rfl⟩
                      refine RS.p (Pu.indexSl sl26 rfl rfl g282) rfl rfl ?_
                      refine RS.solid (Sd.st0 (α := Int) 4 ((gi a0_p.l v31).val) rfl ty3 rfl rfl rfl g282 rfl rfl (by decide) rfl (by rintro _ _ rfl; rfl)) rfl rfl fun _ => ?_
                      obtain rfl := Option.some.inj H
                      refine RS.nil (Cont.know (fun w s => s.row_fits (q := (some gg283, cc284)) (m := l29.length) (k := 4) rfl) fun hf285 => hJ47 _ _ (l27, (si l29 x42 ((gi a0_p.l v31).val))) (q28, (some gg283, cc284)) HX47 ⟨rfl, rfl, rfl, rfl, rfl, trivial⟩ ⟨rfl, veqN (q := (some gg283, cc284)) hf285.1, trivial⟩ (fun w s => (Sat.relen (q := (some gg283, cc284)) (m := l29.length) 4 s rfl).pick [0, 1, 2, 3, 4, 5] (by decide) rfl))
                · have H := ifF hc44 H
                  refine T.skip (hK16 _ _ (T.conseq (fr' := [(1, _), (3, _), (5, _), (7, _), (8, _), (9, _), (10, _), (11, _)]) ?_ ⟨rfl, rfl, rfl, rfl, rfl, rfl, rfl, rfl, trivial⟩ (fun _ s => s)))
                  refine T.seq fun K27 hK27 => ?_
                  refine T.region ?_
                  refine RS.p (Pu.move rfl) rfl rfl ?_
                  refine RS.p (Pu.fieldAddr fd66_1 rfl) rfl rfl ?_
                  refine RS.q (Qt.ldB 5 ty3 rfl rfl rfl) rfl rfl ?_
                  obtain ⟨x286, hx286, H⟩ := bindE H
                  refine RS.solid (Sd.callF0 1 ent45 rfl rfl (fun w s => cache_Cache_Get_walk g7 v32 ((gi a0_p.l v31).key)  hx286 w s)) rfl rfl fun _ => ?_
                  refine RS.p (Pu.move rfl) rfl rfl ?_
                  refine RS.p (Pu.extract rfl rfl) rfl rfl ?_
                  refine RS.p (Pu.extract rfl rfl) rfl rfl ?_
                  refine RS.p (Pu.assign rfl) rfl rfl ?_
                  refine RS.p (Pu.assign rfl) rfl rfl ?_
                  refine RS.nil (hK27 _ _ (T.conseq (fr' := [(1, _), (3, _), (5, _), (7, _), (8, _), (9, _), (10, _), (11, _), (13, _), (14, _)]) ?_ ⟨rfl, rfl, rfl, rfl, rfl, rfl, rfl, rfl, rfl, rfl, trivial⟩ (fun _ s => s)))
                  refine T.seq fun K28 hK28 => ?_
                  refine T.region ?_
                  refine RS.p (Pu.move rfl) rfl rfl ?_
                  refine RS.p (Pu.fieldAddr fd66_1 rfl) rfl rfl ?_
                  refine RS.q (Qt.ldB 5 ty3 rfl rfl rfl) rfl rfl ?_
                  obtain ⟨x287, hx287, H⟩ := bindE H
                  refine RS.solid (Sd.callF0 2 ent45 rfl rfl (fun w s => cache_Cache_Get_walk g11 v33 ((gi a0_p.l v31).key)  hx287 w s)) rfl rfl fun _ => ?_
                  refine RS.p (Pu.move rfl) rfl rfl ?_
                  refine RS.p (Pu.extract rfl rfl) rfl rfl ?_
                  refine RS.p (Pu.extract rfl rfl) rfl rfl ?_
                  refine RS.p (Pu.assign rfl) rfl rfl ?_
                  refine RS.p (Pu.assign rfl) rfl rfl ?_
                  refine RS.nil (hK28 _ _ (T.conseq (fr' := [(1, _), (3, _), (5, _), (7, _), (8, _), (9, _), (11, _), (13, _), (14, _), (15, _), (16, _)]) ?_ ⟨rfl, rfl, rfl, rfl, rfl, rfl, rfl, rfl, rfl, rfl, rfl, trivial⟩ (fun _ s => s)))
                  refine T.seq fun K29 hK29 => ?_
                  refine T.region ?_
                  refine RS.p (Pu.move rfl) rfl rfl ?_
                  refine RS.p (Pu.move rfl) rfl rfl ?_
                  obtain ⟨g290, H⟩ := gdE H
                  refine RS.joinV 11 154 (.bool (decide ((x286.2.1 = true) ∧ ((x42 < 0) ∨ (¬ x286.1 = (gi l29 x42)))))) [(1, _), (3, _), (5, _), (7, _), (8, _), (9, _), (11, _), (15, _), (16, _)] ⟨rfl, rfl, rfl, rfl, rfl, rfl, rfl, rfl, rfl, trivial⟩ ?_ ?_
                  · refine RS.p (Pu.move rfl) rfl rfl ?_
                    refine RS.joinV 5 160 (.bool (decide (((x286.2.1 = true) ∧ ((x42 < 0) ∨ (¬ x286.1 = (gi l29 x42)))) ∨ (¬ x287.2.1 = (decide (0 ≤ x42)))))) [(1, _), (3, _), (5, _), (7, _), (8, _), (9, _), (11, _), (15, _), (16, _)] ⟨rfl, rfl, rfl, rfl, rfl, rfl, rfl, rfl, rfl, trivial⟩ ?_ ?_
                    · refine RS.p (Pu.move rfl) rfl rfl ?_
                      obtain ⟨g295, H⟩ := gdE H
                      refine RS.joinV 10 171 (.bool (decide ((((x286.2.1 = true) ∧ ((x42 < 0) ∨ (¬ x286.1 = (gi l29 x42)))) ∨ (¬ x287.2.1 = (decide (0 ≤ x42)))) ∨ ((x287.2.1 = true) ∧ (¬ x287.1 = (gi l29 x42)))))) [(1, _), (3, _), (5, _), (7, _), (8, _), (9, _)] ⟨rfl, rfl, rfl, rfl, rfl, rfl, trivial⟩ ?_ ?_
                      · refine RS.nil (hK29 _ _ ?_)
                        refine T.condP rfl (fun hc296 => ?_) (fun hc296 => ?_)
                        · have H := ifT hc296 H
                          refine T.conseq (fr' := []) ?_ trivial (fun _ s => s)
                          refine T.seq fun K30 hK30 => ?_
                          refine T.region ?_
                          refine RS.p (Pu.assign rfl) rfl rfl ?_
                          refine RS.nil (hK30 _ _ ?_)
                          obtain rfl := hd23 _ H
                          have H := HX23
                          obtain rfl := Option.some.inj H
                          refine T.retTo (by with_reducible ((repeat (first | apply RetTo.seq | apply RetTo.blk)); exact RetTo.refl _)) (Cont.ret1 rfl rfl fun w' s => ?_)
                          exact ⟨rfl, s.ext⟩
                        · have H := ifF hc296 H
                          refine T.skip (hK13 _ _ ?_)
                          refine T.region ?_
                          refine RS.p (Pu.move rfl) rfl rfl ?_
                          obtain ⟨g297, H⟩ := gdE H
                          refine RS.p (Pu.addS rfl rfl g297) rfl rfl ?_
                          refine RS.p (Pu.assign rfl) rfl rfl ?_
                          refine RS.nil (hL23 _ _ (l27, l29, (v31 + 1), x286.2.2, x287.2.2) (q28, q30) H ⟨rfl, rfl, rfl, trivial⟩ ⟨rfl, rfl, rfl, trivial⟩ (fun w s => s.pick [0, 1, 2, 3, 4] (by decide) rfl))
                      · intro hJ294
                        refine RS.splitP 161 rfl (fun hc293 => ?_) (fun hc293 => ?_)
                        · refine RS.no rfl rfl ?_
                          refine RS.no rfl rfl ?_
                          refine RS.no rfl rfl ?_
                          refine RS.no rfl rfl ?_
                          refine RS.no rfl rfl ?_
                          refine RS.no rfl rfl ?_
                          refine RS.no rfl rfl ?_
                          refine RS.no rfl rfl ?_
                          refine RS.no rfl rfl ?_
                          refine RS.p (Pu.pickT rfl rfl) rfl rfl ?_
                          exact hJ294 _ _ ⟨dOrT hc293, rfl, rfl, rfl, rfl, rfl, rfl, trivial⟩ (fun w s => s)
                        · refine RS.p (Pu.move rfl) rfl rfl ?_
                          refine RS.p (Pu.move rfl) rfl rfl ?_
                          refine RS.joinV 7 170 (.bool (decide ((x287.2.1 = true) ∧ (¬ x287.1 = (gi l29 x42))))) [(1, _), (3, _), (5, _), (7, _), (8, _), (9, _), (11, _), (15, _), (16, _), (160, _), (161, _), (162, _)] ⟨rfl, rfl, rfl, rfl, rfl, rfl, rfl, rfl, rfl, rfl, rfl, rfl, trivial⟩ ?_ ?_
                          · refine RS.p (Pu.pickF rfl rfl) rfl rfl ?_
                            exact hJ294 _ _ ⟨dOrF hc293, rfl, rfl, rfl, rfl, rfl, rfl, trivial⟩ (fun w s => s)
                          · intro hJ299
                            refine RS.split 163 rfl (fun hc298 => ?_) (fun hc298 => ?_)
                            · refine RS.p (Pu.move rfl) rfl rfl ?_
                              refine RS.p (Pu.move rfl) rfl rfl ?_
                              refine RS.p (Pu.move rfl) rfl rfl ?_
                              refine RS.know (p := ∃ g cap, q30 = (some g, cap)) (fun w s => s.row_some (k := 4) rfl (pos_of ((g295 hc293) hc298))) ?_
                              rintro ⟨gg300, cc301, rfl⟩
                              refine RS.p (Pu.indexSl sl26 rfl rfl ((g295 hc293) hc298)) rfl rfl ?_
                              refine RS.q (Qt.ld0 (α := Int) (Rd.ofRowN 4 rfl) ty3 rfl rfl ((g295 hc293) hc298) (by rintro _ _ rfl; rfl)) rfl rfl ?_
                              refine RS.p (Pu.bin rfl rfl rfl) rfl rfl ?_
                              refine RS.p (Pu.pickT rfl rfl) rfl rfl ?_
                              exact hJ299 _ _ ⟨dAndT hc298, rfl, rfl, rfl, rfl, rfl, rfl, rfl, rfl, rfl, rfl, rfl, rfl, trivial⟩ (fun w s => s)
                            · refine RS.no rfl rfl ?_
                              refine RS.no rfl rfl ?_
                              refine RS.no rfl rfl ?_
                              refine RS.no rfl rfl ?_
                              refine RS.no rfl rfl ?_
                              refine RS.no rfl rfl ?_
                              refine RS.p (Pu.pickF rfl rfl) rfl rfl ?_
                              exact hJ299 _ _ ⟨dAndF (bne_of hc298), rfl, rfl, rfl, rfl, rfl, rfl, rfl, rfl, rfl, rfl, rfl, rfl, trivial⟩ (fun w s => s)
                    · intro hJ292
                      refine RS.splitP 155 rfl (fun hc291 => ?_) (fun hc291 => ?_)
                      · refine RS.no rfl rfl ?_
                        refine RS.no rfl rfl ?_
                        refine RS.no rfl rfl ?_
                        refine RS.no rfl rfl ?_
                        refine RS.p (Pu.pickT rfl rfl) rfl rfl ?_
                        exact hJ292 _ _ ⟨dOrT hc291, rfl, rfl, rfl, rfl, rfl, rfl, rfl, rfl, rfl, trivial⟩ (fun w s => s)
                      · refine RS.p (Pu.move rfl) rfl rfl ?_
                        refine RS.p (Pu.move rfl) rfl rfl ?_
                        refine RS.p (Pu.bin rfl rfl rfl) rfl rfl ?_
                        refine RS.p (Pu.neB ul4 rfl rfl) rfl rfl ?_
                        refine RS.p (Pu.pickF rfl rfl) rfl rfl ?_
                        exact hJ292 _ _ ⟨dOrF hc291, rfl, rfl, rfl, rfl, rfl, rfl, rfl, rfl, rfl, trivial⟩ (fun w s => s)
                  · intro hJ289
                    refine RS.split 143 rfl (fun hc288 => ?_) (fun hc288 => ?_)
                    · refine RS.p (Pu.move rfl) rfl rfl ?_
                      refine RS.p (Pu.bin rfl rfl rfl) rfl rfl ?_
                      refine RS.p (Pu.move rfl) rfl rfl ?_
                      refine RS.joinV 7 153 (.bool (decide ((x42 < 0) ∨ (¬ x286.1 = (gi l29 x42))))) [(1, _), (3, _), (5, _), (7, _), (8, _), (9, _), (11, _), (13, _), (14, _), (15, _), (16, _), (142, _), (143, _), (144, _), (145, _)] ⟨rfl, rfl, rfl, rfl, rfl, rfl, rfl, rfl, rfl, rfl, rfl, rfl, rfl, rfl, rfl, trivial⟩ ?_ ?_
                      · refine RS.p (Pu.pickT rfl rfl) rfl rfl ?_
                        exact hJ289 _ _ ⟨dAndT hc288, rfl, rfl, rfl, rfl, rfl, rfl, rfl, rfl, rfl, trivial⟩ (fun w s => s)
                      · intro hJ303
                        refine RS.splitP 146 rfl (fun hc302 => ?_) (fun hc302 => ?_)
                        · refine RS.no rfl rfl ?_
                          refine RS.no rfl rfl ?_
                          refine RS.no rfl rfl ?_
                          refine RS.no rfl rfl ?_
                          refine RS.no rfl rfl ?_
                          refine RS.no rfl rfl ?_
                          refine RS.p (Pu.pickT rfl rfl) rfl rfl ?_
                          exact hJ303 _ _ ⟨dOrT hc302, rfl, rfl, rfl, rfl, rfl, rfl, rfl, rfl, rfl, rfl, rfl, rfl, rfl, rfl, rfl, trivial⟩ (fun w s => s)
                        · refine RS.p (Pu.move rfl) rfl rfl ?_
                          refine RS.p (Pu.move rfl) rfl rfl ?_
                          refine RS.p (Pu.move rfl) rfl rfl ?_
                          refine RS.know (p := ∃ g cap, q30 = (some g, cap)) (fun w s => s.row_some (k := 4) rfl (pos_of ((g290 hc288) hc302))) ?_
                          rintro ⟨gg304, cc305, rfl⟩
                          refine RS.p (Pu.indexSl sl26 rfl rfl ((g290 hc288) hc302)) rfl rfl ?_
                          refine RS.q (Qt.ld0 (α := Int) (Rd.ofRowN 4 rfl) ty3 rfl rfl ((g290 hc288) hc302) (by rintro _ _ rfl; rfl)) rfl rfl ?_
                          refine RS.p (Pu.bin rfl rfl rfl) rfl rfl ?_
                          refine RS.p (Pu.pickF rfl rfl) rfl rfl ?_
                          exact hJ303 _ _ ⟨dOrF hc302, rfl, rfl, rfl, rfl, rfl, rfl, rfl, rfl, rfl, rfl, rfl, rfl, rfl, rfl, rfl, trivial⟩ (fun w s => s)
                    · refine RS.no rfl rfl ?_
                      refine RS.no rfl rfl ?_
                      refine RS.no rfl rfl ?_
                      refine RS.no rfl rfl ?_
                      refine RS.no rfl rfl ?_
                      refine RS.no rfl rfl ?_
                      refine RS.no rfl rfl ?_
                      refine RS.no rfl rfl ?_
                      refine RS.no rfl rfl ?_
                      refine RS.no rfl rfl ?_
                      refine RS.p (Pu.pickF rfl rfl) rfl rfl ?_
                      exact hJ289 _ _ ⟨dAndF (bne_of hc288), rfl, rfl, rfl, rfl, rfl, rfl, rfl, rfl, rfl, trivial⟩ (fun w s => s)
              · have H := ifF hc37 H
                obtain rfl := hd23 _ H
                refine T.exitTo (by with_reducible (repeat (first | exact ExTo.here | exact ExTo.hereN | exact ExTo.deep (by repeat (first | exact NmTo.seq | apply NmTo.blk)) | apply ExTo.seq | refine ExTo.past (by decide) ?_))) (hJ23 _ _ (v32, v33) () HX23 trivial trivial (fun w s => s.pick [0, 1, 2] (by decide) rfl))
            · intro hJ36
              refine RS.splitP 50 rfl (fun hc35 => ?_) (fun hc35 => ?_)
              · refine RS.p (Pu.move rfl) rfl rfl ?_
                refine RS.p (Pu.bin rfl rfl rfl) rfl rfl ?_
                refine RS.p (Pu.pickT rfl rfl) rfl rfl ?_
                exact hJ36 _ _ ⟨dAndT hc35, rfl, rfl, rfl, rfl, rfl, rfl, trivial⟩ (fun w s => s)
              · refine RS.no rfl rfl ?_
                refine RS.no rfl rfl ?_
                refine RS.p (Pu.pickF rfl rfl) rfl rfl ?_
                exact hJ36 _ _ ⟨dAndF hc35, rfl, rfl, rfl, rfl, rfl, rfl, trivial⟩ (fun w s => s)
      · intro hJ19
        refine RS.splitP 41 rfl (fun hc18 => ?_) (fun hc18 => ?_)
        · refine RS.no rfl rfl ?_
          refine RS.no rfl rfl ?_
          refine RS.p (Pu.pickT rfl rfl) rfl rfl ?_
          exact hJ19 _ _ ⟨dOrT hc18, rfl, rfl, rfl, trivial⟩ (fun w s => s)
        · refine RS.p (Pu.move rfl) rfl rfl ?_
          refine RS.p (Pu.eqNilO ul63 rfl) rfl rfl ?_
          refine RS.p (Pu.pickF rfl rfl) rfl rfl ?_
          exact hJ19 _ _ ⟨dOrFB hc18, rfl, rfl, rfl, trivial⟩ (fun w s => s)
    · intro hJ17
      refine RS.split 37 rfl (fun hc16 => ?_) (fun hc16 => ?_)
      · refine RS.no rfl rfl ?_
        refine RS.no rfl rfl ?_
        refine RS.p (Pu.pickT rfl rfl) rfl rfl ?_
        exact hJ17 _ _ ⟨dOrT hc16, rfl, rfl, rfl, trivial⟩ (fun w s => s)
      · refine RS.p (Pu.move rfl) rfl rfl ?_
        refine RS.p (Pu.eqNilO ul63 rfl) rfl rfl ?_
        refine RS.p (Pu.pickF rfl rfl) rfl rfl ?_
        exact hJ17 _ _ ⟨dOrFB (bne_of hc16), rfl, rfl, rfl, trivial⟩ (fun w s => s)
  · intro z306 H hJ14
    refine RS.splitP 32 rfl (fun hc13 => ?_) (fun hc13 => ?_)
    · have H := ifT hc13 H
      refine RS.no rfl rfl ?_
      refine RS.no rfl rfl ?_
      refine RS.no rfl rfl ?_
      refine RS.p (Pu.pickT rfl rfl) rfl rfl ?_
      obtain rfl := Option.some.inj H
      exact hJ14 _ _ ⟨rfl, rfl, rfl, rfl, trivial⟩ (fun w s => s)
    · have H := ifF hc13 H
      refine RS.p (Pu.move rfl) rfl rfl ?_
      obtain ⟨x307, hx307, H⟩ := bindE H
      refine RS.q (Qt.call ent41 rfl fun w s => thronglaw15_num_walk o10 w  hx307) rfl rfl ?_
      refine RS.p (Pu.bin rfl rfl rfl) rfl rfl ?_
      refine RS.p (Pu.pickF rfl rfl) rfl rfl ?_
      obtain rfl := Option.some.inj H
      exact hJ14 _ _ ⟨rfl, rfl, rfl, rfl, trivial⟩ (fun w s => s)
theorem thronglaw15_CacheOrder_walk (a0_p : CScr) (w : World) {v0 : Value} (h0 : R (hpOf w) a0_p.l [v0]) {r : Bool} (H : thronglaw15_CacheOrder a0_p = some r) : Calls Try.prog 13 #[.agg #[.int .i64 a0_p.room, v0]] w fun e w' => e = .returned (.bool r) ∧ Ext w w' := by
  have hm0 := R_max h0
  obtain ⟨p0, c0, rfl⟩ := R_form h0
  unfold thronglaw15_CacheOrder at H
  refine T.enter (args := [_]) (S := Sat w []) Try.func13 rfl rfl (Sat.start w) ?_
  refine T.seq fun K1 hK1 => ?_
  refine T.region ?_
  refine RS.solid (Sd.box (cs := [_, _]) rfl rfl) rfl rfl fun b1 => ?_
  refine RS.p (Pu.assign rfl) rfl rfl ?_
  refine RS.nil (hK1 _ _ ?_)
  refine T.seq fun K2 hK2 => ?_
  refine T.region ?_
  refine RS.p (Pu.fieldAddr fd62_1 rfl) rfl rfl ?_
  refine RS.q (Qt.ldB 0 ty60 rfl rfl rfl) rfl rfl ?_
  refine RS.p (Pu.lenSl sl60 rfl) rfl rfl ?_
  obtain ⟨g2, H⟩ := gdE H
  refine RS.p (Pu.remN rfl rfl (and3 ⟨g2.1, g2.2, by decide⟩)) rfl rfl ?_
  obtain ⟨g3, H⟩ := gdE H
  refine RS.p (Pu.addS rfl rfl g3) rfl rfl ?_
  refine RS.p (Pu.assign rfl) rfl rfl ?_
  refine RS.nil (hK2 _ _ (T.conseq (fr' := [(3, _)]) ?_ ⟨rfl, trivial⟩ (fun _ s => s)))
  refine T.seq fun K3 hK3 => ?_
  refine T.region ?_
  refine RS.p (Pu.move rfl) rfl rfl ?_
  obtain ⟨x4, hx4, H⟩ := bindE H
  obtain ⟨o5, o6⟩ := x4
  dsimp only at H
  refine RS.solid (Sd.callN ent40 rfl (fun w s => cache_New_walk (1 + ((a0_p.l.length : Int) % 5)) w  hx4)) rfl rfl fun g7 => ?_
  refine RS.p (Pu.move rfl) rfl rfl ?_
  refine RS.p (Pu.extract rfl rfl) rfl rfl ?_
  refine RS.p (Pu.extract rfl rfl) rfl rfl ?_
  refine RS.p (Pu.assign rfl) rfl rfl ?_
  refine RS.p (Pu.assign rfl) rfl rfl ?_
  refine RS.nil (hK3 _ _ (T.conseq (fr' := [(3, _), (4, _), (5, _)]) ?_ ⟨rfl, rfl, rfl, trivial⟩ (fun _ s => s)))
  refine T.seq fun K4 hK4 => ?_
  refine T.seq fun K5 hK5 => ?_
  refine T.region ?_
  refine RS.p (Pu.move rfl) rfl rfl ?_
  obtain ⟨x8, hx8, H⟩ := bindE H
  refine RS.q (Qt.call ent41 rfl fun w s => thronglaw15_num_walk o6 w  hx8) rfl rfl ?_
  refine RS.p (Pu.bin rfl rfl rfl) rfl rfl ?_
  refine RS.p (Pu.move rfl) rfl rfl ?_
  refine RS.joinV 3 31 (.bool (decide ((¬ x8 = 0) ∨ (o5.isNone = true)))) [(3, _), (4, _)] ⟨rfl, rfl, trivial⟩ ?_ ?_
  · refine RS.nil (hK5 _ _ ?_)
    refine T.condP rfl (fun hc11 => ?_) (fun hc11 => ?_)
    · have H := ifT hc11 H
      refine T.conseq (fr' := []) ?_ trivial (fun _ s => s)
      refine T.seq fun K6 hK6 => ?_
      refine T.region ?_
      refine RS.p (Pu.assign rfl) rfl rfl ?_
      refine RS.nil (hK6 _ _ ?_)
      obtain rfl := Option.some.inj H
      refine T.retTo (by with_reducible ((repeat (first | apply RetTo.seq | apply RetTo.blk)); exact RetTo.refl _)) (Cont.ret1 rfl rfl fun w' s => ?_)
      exact ⟨rfl, s.ext⟩
    · have H := ifF hc11 H
      obtain ⟨z12, hz12, HZz12⟩ := bindE H
      subst hz12
      have H := HZz12
      refine T.weakS (fun w s => s.optSome (C := Cach_ch) 1 rfl) ?_
      refine T.skip (hK4 _ _ ?_)
      refine T.seq fun K7 hK7 => ?_
      refine T.seq fun K8 hK8 => ?_
      refine T.region ?_
      refine RS.p (Pu.assign rfl) rfl rfl ?_
      refine RS.nil (hK8 _ _ ?_)
      refine T.joinE (σ := Cach) (γ := Unit) H Ex.go [(3, _), (4, _)] ⟨rfl, rfl, trivial⟩ (fun v14 _ => []) (fun v14 _ => Sat w [blk b1 [.int .i64 a0_p.room, .slice p0 a0_p.l.length c0] 62, Cach_ch g7 v14]) ?_ ?_
      · rintro v14 ⟨⟩ H
        try dsimp only [Ex.then] at H
        refine Cont.conseq (fr' := [(3, _), (4, _)]) ?_ ⟨rfl, rfl, trivial⟩ (fun _ s => s)
        refine id (hK7 _ _ ?_)
        refine T.seq fun K9 hK9 => ?_
        refine T.region ?_
        refine RS.p (Pu.move rfl) rfl rfl ?_
        refine RS.p (Pu.move rfl) rfl rfl ?_
        obtain ⟨g15, H⟩ := gdE H
        refine RS.p (Pu.subS rfl rfl g15) rfl rfl ?_
        obtain ⟨x16, hx16, H⟩ := bindE H
        refine RS.solid (Sd.callF0 1 ent45 rfl rfl (fun w s => cache_Cache_Get_walk g7 v14 (20 - (1 + ((a0_p.l.length : Int) % 5)))  hx16 w s)) rfl rfl fun _ => ?_
        refine RS.p (Pu.move rfl) rfl rfl ?_
        refine RS.p (Pu.extract rfl rfl) rfl rfl ?_
        refine RS.p (Pu.extract rfl rfl) rfl rfl ?_
        refine RS.p (Pu.assign rfl) rfl rfl ?_
        refine RS.p (Pu.assign rfl) rfl rfl ?_
        refine RS.nil (hK9 _ _ (T.conseq (fr' := [(3, _), (4, _), (9, _), (10, _)]) ?_ ⟨rfl, rfl, rfl, rfl, trivial⟩ (fun _ s => s)))
        refine T.seq fun K10 hK10 => ?_
        refine T.seq fun K11 hK11 => ?_
        refine T.region ?_
        refine RS.p (Pu.move rfl) rfl rfl ?_
        refine RS.p (Pu.not rfl) rfl rfl ?_
        refine RS.p (Pu.move rfl) rfl rfl ?_
        obtain ⟨g19, H⟩ := gdE H
        obtain ⟨g20, H⟩ := gdE H
        refine RS.joinV 6 79 (.bool (decide (((!x16.2.1) = true) ∨ (¬ x16.1 = (10 * (20 - (1 + ((a0_p.l.length : Int) % 5)))))))) [(3, _), (4, _)] ⟨rfl, rfl, trivial⟩ ?_ ?_
        · refine RS.p (Pu.move rfl) rfl rfl ?_
          refine RS.joinB H 5 85 (fun b23 => .bool b23) [(3, _), (4, _)] ⟨rfl, rfl, trivial⟩ ?_ ?_
          · intro b23 H
            refine RS.p (Pu.move rfl) rfl rfl ?_
            refine RS.joinB H 8 94 (fun b26 => .bool b26) [(3, _), (4, _)] ⟨rfl, rfl, trivial⟩ ?_ ?_
            · intro b26 H
              refine RS.nil (hK11 _ _ ?_)
              refine T.cond rfl (fun hc27 => ?_) (fun hc27 => ?_)
              · have H := ifT hc27 H
                refine T.conseq (fr' := []) ?_ trivial (fun _ s => s)
                refine T.seq fun K12 hK12 => ?_
                refine T.region ?_
                refine RS.p (Pu.assign rfl) rfl rfl ?_
                refine RS.nil (hK12 _ _ ?_)
                obtain rfl := Option.some.inj H
                refine T.retTo (by with_reducible ((repeat (first | apply RetTo.seq | apply RetTo.blk)); exact RetTo.refl _)) (Cont.ret1 rfl rfl fun w' s => ?_)
                exact ⟨rfl, s.ext⟩
              · have H := ifB hc27 H
                refine T.skip (hK10 _ _ ?_)
                refine T.seq fun K13 hK13 => ?_
                refine T.region ?_
                refine RS.p (Pu.move rfl) rfl rfl ?_
                obtain ⟨x28, hx28, H⟩ := bindE H
                refine RS.solid (Sd.callF0 1 ent43 rfl rfl (fun w s => cache_Cache_Put_walk g7 x16.2.2 99 1  hx28 w s)) rfl rfl fun _ => ?_
                refine RS.nil (hK13 _ _ (T.conseq (fr' := [(3, _), (4, _)]) ?_ ⟨rfl, rfl, trivial⟩ (fun _ s => s)))
                refine T.seq fun K14 hK14 => ?_
                refine T.region ?_
                refine RS.p (Pu.move rfl) rfl rfl ?_
                refine RS.p (Pu.move rfl) rfl rfl ?_
                obtain ⟨g29, H⟩ := gdE H
                refine RS.p (Pu.subS rfl rfl g29) rfl rfl ?_
                obtain ⟨x30, hx30, H⟩ := bindE H
                refine RS.solid (Sd.callF0 1 ent45 rfl rfl (fun w s => cache_Cache_Get_walk g7 x28 (20 - (1 + ((a0_p.l.length : Int) % 5)))  hx30 w s)) rfl rfl fun _ => ?_
                refine RS.p (Pu.move rfl) rfl rfl ?_
                refine RS.p (Pu.extract rfl rfl) rfl rfl ?_
                refine RS.p (Pu.extract rfl rfl) rfl rfl ?_
                refine RS.p (Pu.assign rfl) rfl rfl ?_
                refine RS.p (Pu.assign rfl) rfl rfl ?_
                refine RS.nil (hK14 _ _ (T.conseq (fr' := [(3, _), (4, _), (12, _)]) ?_ ⟨rfl, rfl, rfl, trivial⟩ (fun _ s => s)))
                refine T.seq fun K15 hK15 => ?_
                refine T.seq fun K16 hK16 => ?_
                refine T.region ?_
                refine RS.p (Pu.move rfl) rfl rfl ?_
                refine RS.p (Pu.bin rfl rfl rfl) rfl rfl ?_
                refine RS.p (Pu.move rfl) rfl rfl ?_
                refine RS.joinV 3 109 (.bool (decide ((1 < (1 + ((a0_p.l.length : Int) % 5))) ∧ ((!x30.2.1) = true)))) [(3, _), (4, _), (12, _)] ⟨rfl, rfl, rfl, trivial⟩ ?_ ?_
                · refine RS.p (Pu.move rfl) rfl rfl ?_
                  refine RS.joinV 6 116 (.bool (decide (((1 < (1 + ((a0_p.l.length : Int) % 5))) ∧ ((!x30.2.1) = true)) ∨ (((1 + ((a0_p.l.length : Int) % 5)) = 1) ∧ (x30.2.1 = true))))) [(3, _), (4, _)] ⟨rfl, rfl, trivial⟩ ?_ ?_
                  · refine RS.nil (hK16 _ _ ?_)
                    refine T.condP rfl (fun hc35 => ?_) (fun hc35 => ?_)
                    · have H := ifT hc35 H
                      refine T.conseq (fr' := []) ?_ trivial (fun _ s => s)
                      refine T.seq fun K17 hK17 => ?_
                      refine T.region ?_
                      refine RS.p (Pu.assign rfl) rfl rfl ?_
                      refine RS.nil (hK17 _ _ ?_)
                      obtain rfl := Option.some.inj H
                      refine T.retTo (by with_reducible ((repeat (first | apply RetTo.seq | apply RetTo.blk)); exact RetTo.refl _)) (Cont.ret1 rfl rfl fun w' s => ?_)
                      exact ⟨rfl, s.ext⟩
                    · have H := ifF hc35 H
                      refine T.skip (hK15 _ _ ?_)
                      refine T.seq fun K18 hK18 => ?_
                      refine T.region ?_
                      refine RS.p (Pu.move rfl) rfl rfl ?_
                      obtain ⟨x36, hx36, H⟩ := bindE H
                      refine RS.solid (Sd.callF0 1 ent43 rfl rfl (fun w s => cache_Cache_Put_walk g7 x30.2.2 99 2  hx36 w s)) rfl rfl fun _ => ?_
                      refine RS.nil (hK18 _ _ (T.conseq (fr' := [(3, _), (4, _)]) ?_ ⟨rfl, rfl, trivial⟩ (fun _ s => s)))
                      refine T.seq fun K19 hK19 => ?_
                      refine T.region ?_
                      refine RS.p (Pu.move rfl) rfl rfl ?_
                      obtain ⟨x37, hx37, H⟩ := bindE H
                      refine RS.solid (Sd.callF0 1 ent45 rfl rfl (fun w s => cache_Cache_Get_walk g7 x36 99  hx37 w s)) rfl rfl fun _ => ?_
                      refine RS.p (Pu.move rfl) rfl rfl ?_
                      refine RS.p (Pu.extract rfl rfl) rfl rfl ?_
                      refine RS.p (Pu.extract rfl rfl) rfl rfl ?_
                      refine RS.p (Pu.assign rfl) rfl rfl ?_
                      refine RS.p (Pu.assign rfl) rfl rfl ?_
                      refine RS.nil (hK19 _ _ (T.conseq (fr' := [(3, _), (4, _), (13, _)]) ?_ ⟨rfl, rfl, rfl, trivial⟩ (fun _ s => s)))
                      refine T.seq fun K20 hK20 => ?_
                      refine T.seq fun K21 hK21 => ?_
                      refine T.region ?_
                      refine RS.p (Pu.move rfl) rfl rfl ?_
                      refine RS.p (Pu.bin rfl rfl rfl) rfl rfl ?_
                      refine RS.p (Pu.move rfl) rfl rfl ?_
                      refine RS.joinB H 6 132 (fun b40 => .bool b40) [(4, _)] ⟨rfl, trivial⟩ ?_ ?_
                      · intro b40 H
                        refine RS.p (Pu.move rfl) rfl rfl ?_
                        refine RS.split 133 rfl (fun hc41 => ?_) (fun hc41 => ?_)
                        · have H := ifT hc41 H
                          refine RS.no rfl rfl ?_
                          refine RS.no rfl rfl ?_
                          refine RS.no rfl rfl ?_
                          refine RS.p (Pu.pickT rfl rfl) rfl rfl ?_
                          refine RS.p (Pu.move rfl) rfl rfl ?_
                          refine RS.no rfl rfl ?_
                          refine RS.no rfl rfl ?_
                          refine RS.p (Pu.pickT rfl rfl) rfl rfl ?_
                          refine RS.nil (hK21 _ _ ?_)
                          refine T.condT rfl ?_
                          refine T.conseq (fr' := []) ?_ trivial (fun _ s => s)
                          refine T.seq fun K22 hK22 => ?_
                          refine T.region ?_
                          refine RS.p (Pu.assign rfl) rfl rfl ?_
                          refine RS.nil (hK22 _ _ ?_)
                          obtain rfl := Option.some.inj H
                          refine T.retTo (by with_reducible ((repeat (first | apply RetTo.seq | apply RetTo.blk)); exact RetTo.refl _)) (Cont.ret1 rfl rfl fun w' s => ?_)
                          exact ⟨rfl, s.ext⟩
                        · have H := ifB hc41 H
                          refine RS.p (Pu.move rfl) rfl rfl ?_
                          obtain ⟨x42, hx42, H⟩ := bindE H
                          refine RS.solid (Sd.callF0 1 ent49 rfl rfl (fun w s => cache_Cache_Drop_walk g7 x37.2.2 99  hx42 w s)) rfl rfl fun _ => ?_
                          refine RS.p (Pu.not rfl) rfl rfl ?_
                          refine RS.p (Pu.pickF rfl rfl) rfl rfl ?_
                          refine RS.p (Pu.move rfl) rfl rfl ?_
                          refine RS.split 138 rfl (fun hc43 => ?_) (fun hc43 => ?_)
                          · have H := ifT hc43 H
                            refine RS.no rfl rfl ?_
                            refine RS.no rfl rfl ?_
                            refine RS.p (Pu.pickT rfl rfl) rfl rfl ?_
                            refine RS.nil (hK21 _ _ ?_)
                            refine T.condT rfl ?_
                            refine T.conseq (fr' := []) ?_ trivial (fun _ s => s)
                            refine T.seq fun K23 hK23 => ?_
                            refine T.region ?_
                            refine RS.p (Pu.assign rfl) rfl rfl ?_
                            refine RS.nil (hK23 _ _ ?_)
                            obtain rfl := Option.some.inj H
                            refine T.retTo (by with_reducible ((repeat (first | apply RetTo.seq | apply RetTo.blk)); exact RetTo.refl _)) (Cont.ret1 rfl rfl fun w' s => ?_)
                            exact ⟨rfl, s.ext⟩
                          · have H := ifB hc43 H
                            refine RS.p (Pu.move rfl) rfl rfl ?_
                            obtain ⟨x44, hx44, H⟩ := bindE H
                            refine RS.solid (Sd.callF0 1 ent49 rfl rfl (fun w s => cache_Cache_Drop_walk g7 x42.2 99  hx44 w s)) rfl rfl fun _ => ?_
                            refine RS.p (Pu.pickF rfl rfl) rfl rfl ?_
                            refine RS.nil (hK21 _ _ ?_)
                            refine T.cond rfl (fun hc45 => ?_) (fun hc45 => ?_)
                            · have H := ifT hc45 H
                              refine T.conseq (fr' := []) ?_ trivial (fun _ s => s)
                              refine T.seq fun K24 hK24 => ?_
                              refine T.region ?_
                              refine RS.p (Pu.assign rfl) rfl rfl ?_
                              refine RS.nil (hK24 _ _ ?_)
                              obtain rfl := Option.some.inj H
                              refine T.retTo (by with_reducible ((repeat (first | apply RetTo.seq | apply RetTo.blk)); exact RetTo.refl _)) (Cont.ret1 rfl rfl fun w' s => ?_)
                              exact ⟨rfl, s.ext⟩
                            · have H := ifB hc45 H
                              refine T.skip (hK20 _ _ (T.conseq (fr' := [(4, _)]) ?_ ⟨rfl, trivial⟩ (fun _ s => s)))
                              refine T.seq fun K25 hK25 => ?_
                              refine T.region ?_
                              refine RS.p (Pu.move rfl) rfl rfl ?_
                              obtain ⟨x46, hx46, H⟩ := bindE H
                              refine RS.solid (Sd.callF0 1 ent51 rfl rfl (fun w s => cache_Cache_Clear_walk g7 x44.2  hx46 w s)) rfl rfl fun _ => ?_
                              refine RS.nil (hK25 _ _ ?_)
                              refine T.seq fun K26 hK26 => ?_
                              refine T.region ?_
                              refine RS.p (Pu.move rfl) rfl rfl ?_
                              obtain ⟨x47, hx47, H⟩ := bindE H
                              refine RS.solid (Sd.callF 1 ent44 rfl rfl (fun w s => cache_Cache_Keys_walk g7 x46  hx47 w s)) rfl rfl fun q48 => ?_
                              refine RS.p (Pu.lenSl sl26 rfl) rfl rfl ?_
                              refine RS.p (Pu.bin rfl rfl rfl) rfl rfl ?_
                              refine RS.p (Pu.move rfl) rfl rfl ?_
                              refine RS.joinB H 2 150 (fun b51 => .bool b51) [] trivial ?_ ?_
                              · intro b51 H
                                refine RS.p (Pu.assign rfl) rfl rfl ?_
                                refine RS.nil (hK26 _ _ ?_)
                                obtain rfl := Option.some.inj H
                                refine T.retTo (by with_reducible ((repeat (first | apply RetTo.seq | apply RetTo.blk)); exact RetTo.refl _)) (Cont.ret1 rfl rfl fun w' s => ?_)
                                exact ⟨rfl, s.ext⟩
                              · intro z52 H hJ50
                                refine RS.splitP 148 rfl (fun hc49 => ?_) (fun hc49 => ?_)
                                · have H := ifT hc49 H
                                  obtain ⟨x53, hx53, H⟩ := bindE H
                                  refine RS.q (Qt.call ent46 rfl fun w s => thronglaw15_wakes_walk  w  hx53) rfl rfl ?_
                                  refine RS.p (Pu.pickT rfl rfl) rfl rfl ?_
                                  obtain rfl := Option.some.inj H
                                  exact hJ50 _ _ ⟨rfl, trivial⟩ (fun w s => s)
                                · have H := ifF hc49 H
                                  refine RS.no rfl rfl ?_
                                  refine RS.p (Pu.pickF rfl rfl) rfl rfl ?_
                                  obtain rfl := Option.some.inj H
                                  exact hJ50 _ _ ⟨rfl, trivial⟩ (fun w s => s)
                      · intro z54 H hJ39
                        refine RS.splitP 126 rfl (fun hc38 => ?_) (fun hc38 => ?_)
                        · have H := ifT hc38 H
                          refine RS.no rfl rfl ?_
                          refine RS.no rfl rfl ?_
                          refine RS.no rfl rfl ?_
                          refine RS.no rfl rfl ?_
                          refine RS.no rfl rfl ?_
                          refine RS.p (Pu.pickT rfl rfl) rfl rfl ?_
                          obtain rfl := Option.some.inj H
                          exact hJ39 _ _ ⟨rfl, rfl, trivial⟩ (fun w s => s)
                        · have H := ifF hc38 H
                          refine RS.p (Pu.move rfl) rfl rfl ?_
                          obtain ⟨x55, hx55, H⟩ := bindE H
                          refine RS.solid (Sd.callF 1 ent44 rfl rfl (fun w s => cache_Cache_Keys_walk g7 x37.2.2  hx55 w s)) rfl rfl fun q56 => ?_
                          refine RS.p (Pu.lenSl sl26 rfl) rfl rfl ?_
                          refine RS.p (Pu.move rfl) rfl rfl ?_
                          refine RS.p (Pu.bin rfl rfl rfl) rfl rfl ?_
                          refine RS.p (Pu.pickF rfl rfl) rfl rfl ?_
                          obtain rfl := Option.some.inj H
                          exact hJ39 _ _ ⟨rfl, rfl, trivial⟩ (fun w s => s.pick [0, 1] (by decide) rfl)
                  · intro hJ34
                    refine RS.splitP 110 rfl (fun hc33 => ?_) (fun hc33 => ?_)
                    · refine RS.no rfl rfl ?_
                      refine RS.no rfl rfl ?_
                      refine RS.no rfl rfl ?_
                      refine RS.no rfl rfl ?_
                      refine RS.no rfl rfl ?_
                      refine RS.p (Pu.pickT rfl rfl) rfl rfl ?_
                      exact hJ34 _ _ ⟨dOrT hc33, rfl, rfl, trivial⟩ (fun w s => s)
                    · refine RS.p (Pu.move rfl) rfl rfl ?_
                      refine RS.p (Pu.bin rfl rfl rfl) rfl rfl ?_
                      refine RS.p (Pu.move rfl) rfl rfl ?_
                      refine RS.joinV 2 115 (.bool (decide (((1 + ((a0_p.l.length : Int) % 5)) = 1) ∧ (x30.2.1 = true)))) [(3, _), (4, _), (12, _), (109, _), (110, _), (111, _), (112, _)] ⟨rfl, rfl, rfl, rfl, rfl, rfl, rfl, trivial⟩ ?_ ?_
                      · refine RS.p (Pu.pickF rfl rfl) rfl rfl ?_
                        exact hJ34 _ _ ⟨dOrF hc33, rfl, rfl, trivial⟩ (fun w s => s)
                      · intro hJ58
                        refine RS.splitP 113 rfl (fun hc57 => ?_) (fun hc57 => ?_)
                        · refine RS.p (Pu.move rfl) rfl rfl ?_
                          refine RS.p (Pu.pickT rfl rfl) rfl rfl ?_
                          exact hJ58 _ _ ⟨dAndTB hc57, rfl, rfl, rfl, rfl, rfl, rfl, rfl, trivial⟩ (fun w s => s)
                        · refine RS.no rfl rfl ?_
                          refine RS.p (Pu.pickF rfl rfl) rfl rfl ?_
                          exact hJ58 _ _ ⟨dAndF hc57, rfl, rfl, rfl, rfl, rfl, rfl, rfl, trivial⟩ (fun w s => s)
                · intro hJ32
                  refine RS.splitP 106 rfl (fun hc31 => ?_) (fun hc31 => ?_)
                  · refine RS.p (Pu.move rfl) rfl rfl ?_
                    refine RS.p (Pu.not rfl) rfl rfl ?_
                    refine RS.p (Pu.pickT rfl rfl) rfl rfl ?_
                    exact hJ32 _ _ ⟨dAndTB hc31, rfl, rfl, rfl, trivial⟩ (fun w s => s)
                  · refine RS.no rfl rfl ?_
                    refine RS.no rfl rfl ?_
                    refine RS.p (Pu.pickF rfl rfl) rfl rfl ?_
                    exact hJ32 _ _ ⟨dAndF hc31, rfl, rfl, rfl, trivial⟩ (fun w s => s)
            · intro z59 H hJ25
              refine RS.split 86 rfl (fun hc24 => ?_) (fun hc24 => ?_)
              · have H := ifT hc24 H
                refine RS.no rfl rfl ?_
                refine RS.no rfl rfl ?_
                refine RS.no rfl rfl ?_
                refine RS.no rfl rfl ?_
                refine RS.no rfl rfl ?_
                refine RS.no rfl rfl ?_
                refine RS.no rfl rfl ?_
                refine RS.p (Pu.pickT rfl rfl) rfl rfl ?_
                obtain rfl := Option.some.inj H
                exact hJ25 _ _ ⟨rfl, rfl, rfl, trivial⟩ (fun w s => s)
              · have H := ifB hc24 H
                refine RS.p (Pu.move rfl) rfl rfl ?_
                obtain ⟨x60, hx60, H⟩ := bindE H
                refine RS.solid (Sd.callF 1 ent44 rfl rfl (fun w s => cache_Cache_Keys_walk g7 x16.2.2  hx60 w s)) rfl rfl fun q61 => ?_
                obtain ⟨g62, H⟩ := gdE H
                refine RS.know (p := ∃ g cap, q61 = (some g, cap)) (fun w s => s.row_some (k := 2) rfl (pos_of g62)) ?_
                rintro ⟨gg63, cc64, rfl⟩
                refine RS.p (Pu.indexSl sl26 rfl rfl g62) rfl rfl ?_
                refine RS.q (Qt.ld0 (α := Int) (Rd.ofRowN 2 rfl) ty3 rfl rfl g62 (by rintro _ _ rfl; rfl)) rfl rfl ?_
                refine RS.p (Pu.move rfl) rfl rfl ?_
                obtain ⟨g65, H⟩ := gdE H
                refine RS.p (Pu.subS rfl rfl g65) rfl rfl ?_
                refine RS.p (Pu.bin rfl rfl rfl) rfl rfl ?_
                refine RS.p (Pu.pickF rfl rfl) rfl rfl ?_
                obtain rfl := Option.some.inj H
                exact hJ25 _ _ ⟨rfl, rfl, rfl, trivial⟩ (fun w s => s.pick [0, 1] (by decide) rfl)
          · intro z66 H hJ22
            refine RS.splitP 80 rfl (fun hc21 => ?_) (fun hc21 => ?_)
            · have H := ifT hc21 H
              refine RS.no rfl rfl ?_
              refine RS.no rfl rfl ?_
              refine RS.no rfl rfl ?_
              refine RS.no rfl rfl ?_
              refine RS.p (Pu.pickT rfl rfl) rfl rfl ?_
              obtain rfl := Option.some.inj H
              exact hJ22 _ _ ⟨rfl, rfl, rfl, trivial⟩ (fun w s => s)
            · have H := ifF hc21 H
              refine RS.p (Pu.move rfl) rfl rfl ?_
              obtain ⟨x67, hx67, H⟩ := bindE H
              refine RS.solid (Sd.callF 1 ent44 rfl rfl (fun w s => cache_Cache_Keys_walk g7 x16.2.2  hx67 w s)) rfl rfl fun q68 => ?_
              refine RS.p (Pu.lenSl sl26 rfl) rfl rfl ?_
              refine RS.p (Pu.bin rfl rfl rfl) rfl rfl ?_
              refine RS.p (Pu.pickF rfl rfl) rfl rfl ?_
              obtain rfl := Option.some.inj H
              exact hJ22 _ _ ⟨rfl, rfl, rfl, trivial⟩ (fun w s => s.pick [0, 1] (by decide) rfl)
        · intro hJ18
          refine RS.split 73 rfl (fun hc17 => ?_) (fun hc17 => ?_)
          · refine RS.no rfl rfl ?_
            refine RS.no rfl rfl ?_
            refine RS.no rfl rfl ?_
            refine RS.no rfl rfl ?_
            refine RS.no rfl rfl ?_
            refine RS.p (Pu.pickT rfl rfl) rfl rfl ?_
            exact hJ18 _ _ ⟨dOrT hc17, rfl, rfl, trivial⟩ (fun w s => s)
          · refine RS.p (Pu.move rfl) rfl rfl ?_
            refine RS.p (Pu.move rfl) rfl rfl ?_
            refine RS.p (Pu.subS rfl rfl (g19 (bne_of hc17))) rfl rfl ?_
            refine RS.p (Pu.mulS rfl rfl (g20 (bne_of hc17))) rfl rfl ?_
            refine RS.p (Pu.bin rfl rfl rfl) rfl rfl ?_
            refine RS.p (Pu.pickF rfl rfl) rfl rfl ?_
            exact hJ18 _ _ ⟨dOrF (bne_of hc17), rfl, rfl, trivial⟩ (fun w s => s)
      · intro z13 hz13 HX13 hJ13
        refine T.block ?_
        refine T.loopA (γ := Unit) hz13 [(3, _), (4, _)] (fun (v69, v70) _ => [(6, .int .i64 v69)]) (fun (v69, v70) _ => Sat w [blk b1 [.int .i64 a0_p.room, .slice p0 a0_p.l.length c0] 62, Cach_ch g7 v70]) () ⟨rfl, rfl, trivial⟩ ⟨rfl, trivial⟩ (fun w s => s) ?_
        rintro ⟨v69, v70⟩ ⟨⟩ y71 H hd13 KL13 hL13
        try dsimp only [Ex.then] at H
        refine T.conseq (fr' := [(6, _), (3, _), (4, _)]) ?_ ⟨rfl, rfl, rfl, trivial⟩ (fun _ s => s)
        refine T.seq fun K27 hK27 => ?_
        refine T.seq fun K28 hK28 => ?_
        refine T.region ?_
        refine RS.p (Pu.move rfl) rfl rfl ?_
        refine RS.p (Pu.bin rfl rfl rfl) rfl rfl ?_
        refine RS.nil (hK28 _ _ ?_)
        refine T.condP rfl (fun hc72 => ?_) (fun hc72 => ?_)
        · have H := ifT hc72 H
          refine T.skip (hK27 _ _ ?_)
          refine T.seq fun K29 hK29 => ?_
          refine T.block ?_
          refine T.seq fun K30 hK30 => ?_
          refine T.region ?_
          refine RS.p (Pu.move rfl) rfl rfl ?_
          refine RS.p (Pu.move rfl) rfl rfl ?_
          refine RS.p (Pu.move rfl) rfl rfl ?_
          obtain ⟨g73, H⟩ := gdE H
          refine RS.p (Pu.mulS rfl rfl g73) rfl rfl ?_
          obtain ⟨x74, hx74, H⟩ := bindE H
          refine RS.solid (Sd.callF0 1 ent43 rfl rfl (fun w s => cache_Cache_Put_walk g7 v70 v69 (10 * v69)  hx74 w s)) rfl rfl fun _ => ?_
          refine RS.nil (hK30 _ _ (T.conseq (fr' := [(3, _), (4, _), (6, _)]) ?_ ⟨rfl, rfl, rfl, trivial⟩ (fun _ s => s)))
          refine T.seq fun K31 hK31 => ?_
          refine T.region ?_
          refine RS.p (Pu.move rfl) rfl rfl ?_
          obtain ⟨x75, hx75, H⟩ := bindE H
          refine RS.solid (Sd.callF 1 ent44 rfl rfl (fun w s => cache_Cache_Keys_walk g7 x74  hx75 w s)) rfl rfl fun q76 => ?_
          refine RS.p (Pu.assign rfl) rfl rfl ?_
          refine RS.nil (hK31 _ _ ?_)
          refine T.seq fun K32 hK32 => ?_
          refine T.seq fun K33 hK33 => ?_
          refine T.region ?_
          refine RS.p (Pu.move rfl) rfl rfl ?_
          refine RS.p (Pu.lenSl sl26 rfl) rfl rfl ?_
          refine RS.p (Pu.move rfl) rfl rfl ?_
          obtain ⟨g77, H⟩ := gdE H
          refine RS.p (Pu.addS rfl rfl g77) rfl rfl ?_
          refine RS.p (Pu.move rfl) rfl rfl ?_
          refine RS.p (Pu.minI rfl rfl) rfl rfl ?_
          refine RS.p (Pu.bin rfl rfl rfl) rfl rfl ?_
          refine RS.nil (hK33 _ _ ?_)
          refine T.condP rfl (fun hc78 => ?_) (fun hc78 => ?_)
          · have H := ifT hc78 H
            refine T.conseq (fr' := []) ?_ trivial (fun _ s => s)
            refine T.seq fun K34 hK34 => ?_
            refine T.region ?_
            refine RS.p (Pu.assign rfl) rfl rfl ?_
            refine RS.nil (hK34 _ _ ?_)
            obtain rfl := hd13 _ H
            have H := HX13
            obtain rfl := Option.some.inj H
            refine T.retTo (by with_reducible ((repeat (first | apply RetTo.seq | apply RetTo.blk)); exact RetTo.refl _)) (Cont.ret1 rfl rfl fun w' s => ?_)
            exact ⟨rfl, s.ext⟩
          · have H := ifF hc78 H
            refine T.skip (hK32 _ _ (T.conseq (fr' := [(3, _), (4, _), (6, _), (7, _)]) ?_ ⟨rfl, rfl, rfl, rfl, trivial⟩ (fun _ s => s)))
            refine T.seq fun K35 hK35 => ?_
            refine T.region ?_
            refine RS.p (Pu.assign rfl) rfl rfl ?_
            refine RS.nil (hK35 _ _ ?_)
            refine T.joinE (σ := Unit) (γ := Unit) H Ex.go [(3, _), (4, _), (6, _)] ⟨rfl, rfl, rfl, trivial⟩ (fun _ _ => []) (fun _ _ => Sat w [blk b1 [.int .i64 a0_p.room, .slice p0 a0_p.l.length c0] 62, Cach_ch g7 x74, row nilH 3 (rowV q76 x75.length) x75]) ?_ ?_
            · rintro ⟨⟩ ⟨⟩ H
              try dsimp only [Ex.then] at H
              refine Cont.conseq (fr' := [(3, _), (4, _), (6, _)]) ?_ ⟨rfl, rfl, rfl, trivial⟩ (fun _ s => s)
              refine id (hK29 _ _ ?_)
              refine T.region ?_
              refine RS.p (Pu.move rfl) rfl rfl ?_
              obtain ⟨g80, H⟩ := gdE H
              refine RS.p (Pu.addS rfl rfl g80) rfl rfl ?_
              refine RS.p (Pu.assign rfl) rfl rfl ?_
              refine RS.nil (hL13 _ _ ((v69 + 1), x74) () H ⟨rfl, rfl, trivial⟩ ⟨rfl, trivial⟩ (fun w s => s.pick [0, 1] (by decide) rfl))
            · intro z79 hz79 HX79 hJ79
              refine T.block ?_
              refine T.loopA (γ := Unit) hz79 [(3, _), (4, _), (6, _), (7, _)] (fun v81 _ => [(8, .int .i64 v81)]) (fun v81 _ => Sat w [blk b1 [.int .i64 a0_p.room, .slice p0 a0_p.l.length c0] 62, Cach_ch g7 x74, row nilH 3 (rowV q76 x75.length) x75]) () ⟨rfl, rfl, rfl, rfl, trivial⟩ ⟨rfl, trivial⟩ (fun w s => s) ?_
              rintro v81 ⟨⟩ y82 H hd79 KL79 hL79
              try dsimp only [Ex.then] at H
              refine T.conseq (fr' := [(8, _), (3, _), (4, _), (6, _), (7, _)]) ?_ ⟨rfl, rfl, rfl, rfl, rfl, trivial⟩ (fun _ s => s)
              refine T.seq fun K36 hK36 => ?_
              refine T.seq fun K37 hK37 => ?_
              refine T.region ?_
              refine RS.p (Pu.move rfl) rfl rfl ?_
              refine RS.p (Pu.move rfl) rfl rfl ?_
              refine RS.p (Pu.lenSl sl26 rfl) rfl rfl ?_
              refine RS.p (Pu.bin rfl rfl rfl) rfl rfl ?_
              refine RS.nil (hK37 _ _ ?_)
              refine T.condP rfl (fun hc83 => ?_) (fun hc83 => ?_)
              · have H := ifT hc83 H
                refine T.skip (hK36 _ _ (T.conseq (fr' := [(3, _), (4, _), (6, _), (7, _), (8, _)]) ?_ ⟨rfl, rfl, rfl, rfl, rfl, trivial⟩ (fun _ s => s)))
                refine T.seq fun K38 hK38 => ?_
                refine T.block ?_
                refine T.seq fun K39 hK39 => ?_
                refine T.region ?_
                refine RS.p (Pu.move rfl) rfl rfl ?_
                refine RS.p (Pu.move rfl) rfl rfl ?_
                obtain ⟨g84, H⟩ := gdE H
                refine RS.know (p := ∃ g cap, q76 = (some g, cap)) (fun w s => s.row_some (k := 2) rfl (pos_of g84)) ?_
                rintro ⟨gg85, cc86, rfl⟩
                refine RS.p (Pu.indexSl sl26 rfl rfl g84) rfl rfl ?_
                refine RS.q (Qt.ld0 (α := Int) (Rd.ofRowN 2 rfl) ty3 rfl rfl g84 (by rintro _ _ rfl; rfl)) rfl rfl ?_
                refine RS.p (Pu.move rfl) rfl rfl ?_
                refine RS.p (Pu.move rfl) rfl rfl ?_
                obtain ⟨g87, H⟩ := gdE H
                refine RS.p (Pu.subS rfl rfl g87) rfl rfl ?_
                refine RS.p (Pu.bin rfl rfl rfl) rfl rfl ?_
                refine RS.nil (hK39 _ _ ?_)
                refine T.condP rfl (fun hc88 => ?_) (fun hc88 => ?_)
                · have H := ifT hc88 H
                  refine T.conseq (fr' := []) ?_ trivial (fun _ s => s)
                  refine T.seq fun K40 hK40 => ?_
                  refine T.region ?_
                  refine RS.p (Pu.assign rfl) rfl rfl ?_
                  refine RS.nil (hK40 _ _ ?_)
                  obtain rfl := hd79 _ H
                  have H := HX79
                  obtain rfl := hd13 _ H
                  have H := HX13
                  obtain rfl := Option.some.inj H
                  refine T.retTo (by with_reducible ((repeat (first | apply RetTo.seq | apply RetTo.blk)); exact RetTo.refl _)) (Cont.ret1 rfl rfl fun w' s => ?_)
                  exact ⟨rfl, s.ext⟩
                · have H := ifF hc88 H
                  refine T.skip (hK38 _ _ (T.conseq (fr' := [(3, _), (4, _), (6, _), (7, _), (8, _)]) ?_ ⟨rfl, rfl, rfl, rfl, rfl, trivial⟩ (fun _ s => s)))
                  refine T.region ?_
                  refine RS.p (Pu.move rfl) rfl rfl ?_
                  obtain ⟨g89, H⟩ := gdE H
                  refine RS.p (Pu.addS rfl rfl g89) rfl rfl ?_
                  refine RS.p (Pu.assign rfl) rfl rfl ?_
                  refine RS.nil (hL79 _ _ (v81 + 1) () H ⟨rfl, rfl, rfl, rfl, trivial⟩ ⟨rfl, trivial⟩ (fun w s => s))
              · have H := ifF hc83 H
                obtain rfl := hd79 _ H
                refine T.exitTo (by with_reducible (repeat (first | exact ExTo.here | exact ExTo.hereN | exact ExTo.deep (by repeat (first | exact NmTo.seq | apply NmTo.blk)) | apply ExTo.seq | refine ExTo.past (by decide) ?_))) (hJ79 _ _ () () HX79 ⟨rfl, rfl, rfl, trivial⟩ trivial (fun w s => s))
        · have H := ifF hc72 H
          obtain rfl := hd13 _ H
          refine T.exitTo (by with_reducible (repeat (first | exact ExTo.here | exact ExTo.hereN | exact ExTo.deep (by repeat (first | exact NmTo.seq | apply NmTo.blk)) | apply ExTo.seq | refine ExTo.past (by decide) ?_))) (hJ13 _ _ v70 () HX13 ⟨rfl, rfl, trivial⟩ trivial (fun w s => s))
  · intro hJ10
    refine RS.splitP 28 rfl (fun hc9 => ?_) (fun hc9 => ?_)
    · refine RS.no rfl rfl ?_
      refine RS.no rfl rfl ?_
      refine RS.p (Pu.pickT rfl rfl) rfl rfl ?_
      exact hJ10 _ _ ⟨dOrT hc9, rfl, rfl, trivial⟩ (fun w s => s)
    · refine RS.p (Pu.move rfl) rfl rfl ?_
      refine RS.p (Pu.eqNilO ul63 rfl) rfl rfl ?_
      refine RS.p (Pu.pickF rfl rfl) rfl rfl ?_
      exact hJ10 _ _ ⟨dOrFB hc9, rfl, rfl, trivial⟩ (fun w s => s)
end Go.Proofs.Ytacpdjccbadomaa
