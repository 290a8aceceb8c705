/-
  Walks of what the statements of the fields call.
-/
import Derived.Test.YthdbofgcckjopaaGreatRows
import Derived.Test.YthdbofgcckjopaaGreatW3
import Derived.Test.YthdbofgcckjopaaGreatFH
set_option linter.unusedVariables false
set_option linter.unusedSimpArgs false
set_option maxRecDepth 20000
set_option maxHeartbeats 4000000
namespace Go.Proofs.YthdbofgcckjopaaGreat
open Go.Vg
open Enc (R)
theorem queue_item_less_walk (a0_a : Itm) (a1_b : Itm) (w : World) {r : Bool} (H : queue_item_less a0_a a1_b = some r) : Calls Tryz.prog 126 #[.agg #[.int .i64 a0_a.key, .int .i64 a0_a.val], .agg #[.int .i64 a1_b.key, .int .i64 a1_b.val]] w fun e w' => e = .returned (.bool r) ∧ Ext w w' := by
 unfold queue_item_less at H
 refine T.enter (args := [_, _]) (S := Sat w []) Tryz.func126 rfl rfl (Sat.start w) ?_
 refine T.seq fun K1 hK1 => T.region (RS.solid (Sd.box (cs := [_, _]) rfl rfl) rfl rfl fun b1 => RS.solid (Sd.box (cs := [_, _]) rfl rfl) rfl rfl fun b2 => rA rfl (RS.nil (hK1 _ _ (cq [(2, _), (3, _)] ?_))))
 refine T.seq fun K2 hK2 => T.region (rp (Pu.fieldAddr fd195_0 rfl) (rq (Qt.ldB 0 ty3 rfl rfl rfl) (rp (Pu.fieldAddr fd195_0 rfl) (rq (Qt.ldB 1 ty3 rfl rfl rfl) (rp (Pu.bin rfl rfl rfl) (rM rfl ?_))))))
 refine RS.joinV 13 23 (.bool (decide ((a0_a.key < a1_b.key) ∨ ((a0_a.key = a1_b.key) ∧ (a0_a.val < a1_b.val))))) [] trivial ?_ ?_
 ·refine rA rfl (RS.nil (hK2 _ _ ?_))
  obtain rfl := sj H
  refine T.rt (Cont.ret1 rfl rfl fun w' s => ?_)
  exact ⟨rfl, s.ext⟩
 ·intro hJ4
  refine RS.splitP 10 rfl (fun hc3 => ?_) (fun hc3 => ?_)
  ·refine ro (ro (ro (ro (ro (ro (ro (ro (ro (ro (ro (ro (rp (Pu.pickT rfl rfl) ?_))))))))))))
   exact hJ4 _ _ ⟨dOrT hc3, trivial⟩ (fun w s => s)
  ·refine rp (Pu.fieldAddr fd195_0 rfl) (rq (Qt.ldB 0 ty3 rfl rfl rfl) (rp (Pu.fieldAddr fd195_0 rfl) (rq (Qt.ldB 1 ty3 rfl rfl rfl) (rp (Pu.bin rfl rfl rfl) (rM rfl ?_)))))
   refine RS.joinV 6 22 (.bool (decide ((a0_a.key = a1_b.key) ∧ (a0_a.val < a1_b.val)))) [(2, _), (3, _), (5, _), (6, _), (7, _), (8, _), (9, _), (10, _), (11, _), (12, _), (13, _), (14, _), (15, _)] ⟨rfl, rfl, rfl, rfl, rfl, rfl, rfl, rfl, rfl, rfl, rfl, rfl, rfl, trivial⟩ ?_ ?_
   ·refine rp (Pu.pickF rfl rfl) ?_
    exact hJ4 _ _ ⟨dOrF hc3, trivial⟩ (fun w s => s)
   ·intro hJ6
    refine RS.splitP 16 rfl (fun hc5 => ?_) (fun hc5 => ?_)
    ·refine rp (Pu.fieldAddr fd195_1 rfl) (rq (Qt.ldB 0 ty3 rfl rfl rfl) (rp (Pu.fieldAddr fd195_1 rfl) (rq (Qt.ldB 1 ty3 rfl rfl rfl) (rp (Pu.bin rfl rfl rfl) (rp (Pu.pickT rfl rfl) ?_)))))
     exact hJ6 _ _ ⟨dAndT hc5, rfl, rfl, rfl, rfl, rfl, rfl, rfl, rfl, rfl, rfl, rfl, rfl, rfl, trivial⟩ (fun w s => s)
    ·refine ro (ro (ro (ro (ro (rp (Pu.pickF rfl rfl) ?_)))))
     exact hJ6 _ _ ⟨dAndF hc5, rfl, rfl, rfl, rfl, rfl, rfl, rfl, rfl, rfl, rfl, rfl, rfl, rfl, trivial⟩ (fun w s => s)
theorem queue_New_walk (w : World) {r : Option Que} (H : queue_New = some r) : Calls Tryz.prog 88 #[] w fun e w' => ∃ g1 : Nat, e = .returned (.pointer (optA g1 r)) ∧ Sat w [optCh Que_ch g1 r] w' := by
 unfold queue_New at H
 refine T.enter (args := []) (S := Sat w []) Tryz.func88 rfl rfl (Sat.start w) ?_
 refine T.seq fun K1 hK1 => T.region (rA rfl (RS.nil (hK1 _ _ ?_)))
 refine T.seq fun K2 hK2 => T.region (rp (Pu.build (cells := [_]) st190 rfl rfl) (RS.solid (Sd.box (cs := [_]) rfl rfl) rfl rfl fun b1 => ?_))
 refine RS.weakS (fun w s => (s.nilRow (α := Itm) 195)) ?_
 refine rA rfl (RS.nil (hK2 _ _ ?_))
 obtain rfl := sj H
 refine T.rt (Cont.ret1 rfl rfl fun w' s => ?_)
 exact ⟨b1, rfl, Que_shut (x := (⟨([] : List Itm)⟩ : Que)) (none, 0) (s.pick [0, 1] (by decide) rfl)⟩
theorem queue_Queue_Push_walk {w0 : World} {F : Ch} (g0 : Nat) (a0_q : Que) (a1_key : Int) (a2_val : Int) {r : Que} (H : queue_Queue_Push a0_q a1_key a2_val = some r) (w : World) (s : Sat w0 [Que_ch g0 a0_q, F] w) : Calls Tryz.prog 103 #[.pointer (some ⟨g0, 0, none⟩), .int .i64 a1_key, .int .i64 a2_val] w fun e w' => e = .returned (.tuple #[]) ∧ Sat w0 [Que_ch g0 r, F] w' := by
 unfold queue_Queue_Push at H
 refine T.enter (args := [_, _, _]) (S := Sat w0 [Que_ch g0 a0_q, F]) Tryz.func103 rfl rfl (s) ?_
 refine T.ex (S' := fun q : (Option Nat × Nat) => Sat w0 [blk g0 [rowV q a0_q.l.length] 190, F, row nilH 195 (rowV q a0_q.l.length) a0_q.l]) (fun w s => Que_open 0 rfl s) ?_
 rintro q1
 show T _ _ _ _ (Sat w0 [blk g0 [rowV q1 a0_q.l.length] 190, F, row nilH 195 (rowV q1 a0_q.l.length) a0_q.l]) _
 refine T.seq fun K1 hK1 => T.region (rM rfl (rM rfl (rp (Pu.nilCheck rfl) (rp (Pu.fieldAddr fd190_0 rfl) (rq (Qt.ldB 0 ty188 rfl rfl rfl) (rM rfl (rM rfl (rp (Pu.build (cells := [_, _]) st195 rfl rfl) (RS.solid (Sd.litS (cs := [_, _]) sl188 zr195 rfl rfl rfl rfl rfl) rfl rfl fun b2 => ?_)))))))))
 obtain ⟨g4, H⟩ := gdE H
 refine RS.solid (Sd.app1c (α := Itm) 2 3 (⟨a1_key, a2_val⟩ : Itm) rfl rfl (nilH_lt _) sl188 zr195 rfl rfl rfl rfl g4 (by decide)) rfl rfl fun q3 => rp (Pu.nilCheck rfl) (rp (Pu.fieldAddr fd190_0 rfl) (RS.solid (Sd.stB (cs' := [_]) 0 ty188 rfl rfl rfl rfl rfl rfl rfl rfl) rfl rfl fun _ => RS.nil (hK1 _ _ (cq [(0, _)] ?_))))
 refine T.seq fun K2 hK2 => T.region (rM rfl (rp (Pu.nilCheck rfl) (rp (Pu.fieldAddr fd190_0 rfl) (rq (Qt.ldB 0 ty188 rfl rfl rfl) (rp (Pu.lenSl sl188 rfl) ?_)))))
 obtain ⟨g5, H⟩ := gdE H
 refine rp (Pu.subS rfl rfl g5) (rA rfl (RS.nil (hK2 _ _ (cq [(0, _), (6, _)] ?_))))
 refine T.joinE (σ := List Itm) (γ := Unit) H Ex.go [] trivial (fun v7 _ => []) (fun v7 _ => Sat w0 [blk g0 [rowV q3 ((a0_q.l ++ [(⟨a1_key, a2_val⟩ : Itm)]).length)] 190, F, row nilH 195 (rowV q3 ((a0_q.l ++ [(⟨a1_key, a2_val⟩ : Itm)]).length)) v7, blk b2 [.int .i64 a1_key, .int .i64 a2_val] 195]) ?_ ?_
 ·rintro v7 ⟨⟩ H
  try dsimp only [Ex.then] at H
  refine Cont.conseq (fr' := []) ?_ trivial (fun _ s => s)
  obtain rfl := sj H
  refine id (Cont.end0 rfl fun w' s => ?_)
  exact ⟨rfl, Que_shut (x := (⟨v7⟩ : Que)) q3 ((Sat.cellB 0 (Sat.relen (q := q3) (m := (a0_q.l ++ [(⟨a1_key, a2_val⟩ : Itm)]).length) 2 s rfl) rfl (congrArg (fun z => [rowV q3 z]) (s.row_fits (q := q3) (m := (a0_q.l ++ [(⟨a1_key, a2_val⟩ : Itm)]).length) (k := 2) rfl).1)).pick [1, 0, 2] (by decide) rfl)⟩
 ·intro z6 hz6 HX6 hJ6
  refine T.block ?_
  refine T.loopA (γ := Unit) hz6 [(0, _)] (fun (v8, l9) _ => [(6, .int .i64 v8)]) (fun (v8, l9) _ => Sat w0 [blk g0 [rowV q3 ((a0_q.l ++ [(⟨a1_key, a2_val⟩ : Itm)]).length)] 190, F, row nilH 195 (rowV q3 ((a0_q.l ++ [(⟨a1_key, a2_val⟩ : Itm)]).length)) l9, blk b2 [.int .i64 a1_key, .int .i64 a2_val] 195]) () ⟨rfl, trivial⟩ ⟨rfl, trivial⟩ (fun w s => s) ?_
  rintro ⟨v8, l9⟩ ⟨⟩ y10 H hd6 KL6 hL6
  try dsimp only [Ex.then] at H
  refine cq [(6, _), (0, _)] ?_
  refine T.seq fun K3 hK3 => T.seq fun K4 hK4 => T.region (rM rfl (rp (Pu.bin rfl rfl rfl) (RS.nil (hK4 _ _ ?_))))
  refine T.condP rfl (fun hc11 => ?_) (fun hc11 => ?_)
  ·have H := ifT hc11 H
   refine T.skip (hK3 _ _ ?_)
   refine T.block (T.seq fun K5 hK5 => T.region (rM rfl ?_))
   obtain ⟨g12, H⟩ := gdE H
   refine rp (Pu.subS rfl rfl g12) ?_
   obtain ⟨g13, H⟩ := gdE H
   refine rp (Pu.quoN rfl rfl ⟨g13.1, g13.2, by decide⟩) (rA rfl (RS.nil (hK5 _ _ (cq [(0, _), (6, _), (7, _)] ?_))))
   refine T.seq fun K6 hK6 => T.seq fun K7 hK7 => ?_
   refine T.drawn (fun _ => True) [(0, .pu), (1, .pu), (2, .pu), (3, .rd), (4, .pu), (5, .pu), (6, .rd), (7, .pu), (8, .pu), (9, .pu), (10, .rd), (11, .pu), (12, .pu), (13, .rd), (14, .rd), (15, .pu)] mixed (ClE.sat _ _) (by kernel_rfl) ?_
   refine dp rfl (Pu.move rfl) (dp rfl (Pu.nilCheck rfl) (dp rfl (Pu.fieldAddr fd190_0 rfl) (dq rfl (Qt.ldB 0 ty188 rfl rfl rfl) (dp rfl (Pu.move rfl) ?_))))
   obtain ⟨g14, H⟩ := gdE H
   refine RD.know (fun w s => (s.row_fits (q := q3) (m := (a0_q.l ++ [(⟨a1_key, a2_val⟩ : Itm)]).length) (k := 2) rfl)) fun hf15 => ?_
   refine RD.know (p := ∃ g cap, q3 = (some g, cap)) (fun w s => (s.row_some (k := 2) rfl (pos_of (idx_of hf15.1 g14)))) ?_
   rintro ⟨gg16, cc17, rfl⟩
   refine dp rfl (Pu.indexSl sl188 rfl rfl g14) (dq rfl (Qt.ldW (α := Itm) (cs := [_, _]) (Rd.ofRowN 2 rfl) ty195 rfl rfl (idx_of hf15.1 g14) rfl (by rintro _ _ rfl; rfl)) (dp rfl (Pu.move rfl) (dp rfl (Pu.nilCheck rfl) (dp rfl (Pu.fieldAddr fd190_0 rfl) (dq rfl (Qt.ldB 0 ty188 rfl rfl rfl) (dp rfl (Pu.move rfl) ?_))))))
   obtain ⟨g18, H⟩ := gdE H
   refine RD.know (fun w s => (s.row_fits (q := (some gg16, cc17)) (m := (a0_q.l ++ [(⟨a1_key, a2_val⟩ : Itm)]).length) (k := 2) rfl)) fun hf19 => ?_
   refine dp rfl (Pu.indexSl sl188 rfl rfl g18) (dq rfl (Qt.ldW (α := Itm) (cs := [_, _]) (Rd.ofRowN 2 rfl) ty195 rfl rfl (idx_of hf19.1 g18) rfl (by rintro _ _ rfl; rfl)) ?_)
   obtain ⟨x20, hx20, H⟩ := bindE H
   refine dq rfl (Qt.call (vs := [.agg #[.int .i64 ((gi l9 v8).key), .int .i64 ((gi l9 v8).val)], .agg #[.int .i64 ((gi l9 ((v8 - 1) / 2)).key), .int .i64 ((gi l9 ((v8 - 1) / 2)).val)]]) ent126 rfl fun w s => queue_item_less_walk (gi l9 v8) (gi l9 ((v8 - 1) / 2)) w  hx20) (dp rfl (Pu.not rfl) (RD.nil (hK7 _ _ ?_)))
   refine T.cond rfl (fun hc21 => ?_) (fun hc21 => ?_)
   ·have H := ifT hc21 H
    obtain rfl := hd6 _ H
    have H := HX6
    obtain rfl := sj H
    refine T.rt (Cont.ret0 rfl fun w' s => ?_)
    exact ⟨rfl, Que_shut (x := (⟨l9⟩ : Que)) (some gg16, cc17) ((Sat.cellB 0 (Sat.relen (q := (some gg16, cc17)) (m := (a0_q.l ++ [(⟨a1_key, a2_val⟩ : Itm)]).length) 2 s rfl) rfl (congrArg (fun z => [rowV (some gg16, cc17) z]) (s.row_fits (q := (some gg16, cc17)) (m := (a0_q.l ++ [(⟨a1_key, a2_val⟩ : Itm)]).length) (k := 2) rfl).1)).pick [1, 0, 2] (by decide) rfl)⟩
   ·have H := ifB hc21 H
    refine T.skip (hK6 _ _ (cq [(0, _), (6, _), (7, _)] ?_))
    refine T.seq fun K8 hK8 => ?_
    refine T.drawn (fun _ => True) [(0, .pu), (1, .pu), (2, .pu), (3, .rd), (4, .pu), (5, .pu), (6, .pu), (7, .pu), (8, .rd), (9, .pu), (10, .pu), (11, .pu), (12, .pu), (13, .rd), (14, .pu), (15, .pu), (16, .rd), (17, .pu), (18, .pu), (19, .pu), (20, .rd), (21, .pu), (22, .pu), (23, .rd), (24, .pu), (25, .br), (26, .pu), (27, .br)] mixed (ClE.sat _ _) (by kernel_rfl) ?_
    refine dp rfl (Pu.move rfl) (dp rfl (Pu.nilCheck rfl) (dp rfl (Pu.fieldAddr fd190_0 rfl) (dq rfl (Qt.ldB 0 ty188 rfl rfl rfl) (dp rfl (Pu.move rfl) (dp rfl (Pu.move rfl) (dp rfl (Pu.nilCheck rfl) (dp rfl (Pu.fieldAddr fd190_0 rfl) (dq rfl (Qt.ldB 0 ty188 rfl rfl rfl) (dp rfl (Pu.move rfl) (dp rfl (Pu.move rfl) (dp rfl (Pu.nilCheck rfl) (dp rfl (Pu.fieldAddr fd190_0 rfl) (dq rfl (Qt.ldB 0 ty188 rfl rfl rfl) ?_)))))))))))))
    refine dp rfl (Pu.move rfl) ?_
    obtain ⟨g22, H⟩ := gdE H
    refine RD.know (fun w s => (s.row_fits (q := (some gg16, cc17)) (m := (a0_q.l ++ [(⟨a1_key, a2_val⟩ : Itm)]).length) (k := 2) rfl)) fun hf23 => ?_
    refine dp rfl (Pu.indexSl sl188 rfl rfl g22) (dq rfl (Qt.ldW (α := Itm) (cs := [_, _]) (Rd.ofRowN 2 rfl) ty195 rfl rfl (idx_of hf23.1 g22) rfl (by rintro _ _ rfl; rfl)) (dp rfl (Pu.move rfl) (dp rfl (Pu.nilCheck rfl) (dp rfl (Pu.fieldAddr fd190_0 rfl) (dq rfl (Qt.ldB 0 ty188 rfl rfl rfl) (dp rfl (Pu.move rfl) ?_))))))
    obtain ⟨g24, H⟩ := gdE H
    refine RD.know (fun w s => (s.row_fits (q := (some gg16, cc17)) (m := (a0_q.l ++ [(⟨a1_key, a2_val⟩ : Itm)]).length) (k := 2) rfl)) fun hf25 => ?_
    refine dp rfl (Pu.indexSl sl188 rfl rfl g24) (dq rfl (Qt.ldW (α := Itm) (cs := [_, _]) (Rd.ofRowN 2 rfl) ty195 rfl rfl (idx_of hf25.1 g24) rfl (by rintro _ _ rfl; rfl)) ?_)
    obtain ⟨g26, H⟩ := gdE H
    refine RD.know (fun w s => (s.row_fits (q := (some gg16, cc17)) (m := (a0_q.l ++ [(⟨a1_key, a2_val⟩ : Itm)]).length) (k := 2) rfl)) fun hf27 => ?_
    refine dp rfl (Pu.indexSl sl188 rfl rfl g26) (RD.solid rfl (.inr rfl) rfl rfl (Sd.st0 (α := Itm) 2 (gi l9 ((v8 - 1) / 2)) rfl ty195 rfl rfl rfl (idx_of hf27.1 g26) rfl rfl (by decide) rfl (by rintro _ _ rfl; rfl)) (fun _ => ClE.sat _ _) (fun _ _ _ => trivial) (fun h => nomatch h) fun _ => ?_)
    obtain ⟨g28, H⟩ := gdE H
    refine RD.know (fun w s => (s.row_fits (q := (some gg16, cc17)) (m := (a0_q.l ++ [(⟨a1_key, a2_val⟩ : Itm)]).length) (k := 2) rfl)) fun hf29 => ?_
    refine dp rfl (Pu.indexSl sl188 rfl rfl g28) (RD.solid rfl (.inr rfl) rfl rfl (Sd.st0 (α := Itm) 2 (gi l9 v8) rfl ty195 rfl rfl rfl (idx_of hf29.1 g28) rfl rfl (by decide) rfl (by rintro _ _ rfl; rfl)) (fun _ => ClE.sat _ _) (fun _ _ _ => trivial) (fun h => nomatch h) fun _ => ?_)
    refine RD.nil (hK8 _ _ (cq [(0, _), (7, _)] ?_))
    refine T.region (rM rfl (rA rfl (RS.nil (hL6 _ _ (((v8 - 1) / 2), (si (si l9 v8 (gi l9 ((v8 - 1) / 2))) ((v8 - 1) / 2) (gi l9 v8))) () H ⟨rfl, trivial⟩ ⟨rfl, trivial⟩ (fun w s => s)))))
  ·have H := ifF hc11 H
   obtain rfl := hd6 _ H
   refine T.xt (hJ6 _ _ l9 () HX6 trivial trivial (fun w s => s))
theorem queue_Queue_Pop_walk {w0 : World} {F : Ch} (g0 : Nat) (a0_q : Que) {r : Int × Int × Bool × Que} (H : queue_Queue_Pop a0_q = some r) (w : World) (s : Sat w0 [Que_ch g0 a0_q, F] w) : Calls Tryz.prog 93 #[.pointer (some ⟨g0, 0, none⟩)] w fun e w' => e = .returned (.tuple #[.int .i64 r.1, .int .i64 r.2.1, .bool r.2.2.1]) ∧ Sat w0 [Que_ch g0 r.2.2.2, F] w' := by
 unfold queue_Queue_Pop at H
 refine T.enter (args := [_]) (S := Sat w0 [Que_ch g0 a0_q, F]) Tryz.func93 rfl rfl (s) ?_
 refine T.ex (S' := fun q : (Option Nat × Nat) => Sat w0 [blk g0 [rowV q a0_q.l.length] 190, F, row nilH 195 (rowV q a0_q.l.length) a0_q.l]) (fun w s => Que_open 0 rfl s) ?_
 rintro q1
 show T _ _ _ _ (Sat w0 [blk g0 [rowV q1 a0_q.l.length] 190, F, row nilH 195 (rowV q1 a0_q.l.length) a0_q.l]) _
 refine T.seq fun K1 hK1 => T.region (rA rfl (rA rfl (rA rfl (RS.nil (hK1 _ _ (cq [(0, _)] ?_))))))
 refine T.seq fun K2 hK2 => T.region (rM rfl (rp (Pu.nilCheck rfl) (rp (Pu.fieldAddr fd190_0 rfl) (rq (Qt.ldB 0 ty188 rfl rfl rfl) (rp (Pu.lenSl sl188 rfl) ?_)))))
 obtain ⟨g2, H⟩ := gdE H
 refine rp (Pu.subS rfl rfl g2) (rA rfl (RS.nil (hK2 _ _ (cq [(0, _), (5, _)] ?_))))
 refine T.seq fun K3 hK3 => T.seq fun K4 hK4 => T.region (rM rfl (rp (Pu.bin rfl rfl rfl) (RS.nil (hK4 _ _ ?_))))
 refine T.condP rfl (fun hc3 => ?_) (fun hc3 => ?_)
 ·have H := ifT hc3 H
  refine cq [] ?_
  refine T.seq fun K5 hK5 => T.region (rA rfl (rA rfl (rA rfl (RS.nil (hK5 _ _ ?_)))))
  obtain rfl := sj H
  refine T.rt (Cont.ret3 rfl rfl rfl rfl fun w' s => ?_)
  exact ⟨rfl, Que_shut (x := a0_q) q1 (s.pick [1, 0, 2] (by decide) rfl)⟩
 ·have H := ifF hc3 H
  refine T.skip (hK3 _ _ ?_)
  refine T.seq fun K6 hK6 => T.region (rM rfl (rp (Pu.nilCheck rfl) (rp (Pu.fieldAddr fd190_0 rfl) (rq (Qt.ldB 0 ty188 rfl rfl rfl) ?_))))
  obtain ⟨g4, H⟩ := gdE H
  refine RS.know (p := ∃ g cap, q1 = (some g, cap)) (fun w s => (s.row_some (k := 2) rfl (pos_of g4))) ?_
  rintro ⟨gg5, cc6, rfl⟩
  refine rp (Pu.indexSl sl188 rfl rfl g4) (rq (Qt.ldW (α := Itm) (cs := [_, _]) (Rd.ofRowN 2 rfl) ty195 rfl rfl g4 rfl (by rintro _ _ rfl; rfl)) (RS.solid (Sd.alloc zr195 rfl) rfl rfl fun b7 => RS.solid (Sd.stB (cs' := [_, _]) 3 ty195 rfl rfl rfl rfl rfl rfl rfl rfl) rfl rfl fun _ => RS.nil (hK6 _ _ (cq [(0, _), (5, _), (6, _)] ?_))))
  refine T.seq fun K7 hK7 => ?_
  refine T.drawn (fun _ => True) [(0, .pu), (1, .pu), (2, .pu), (3, .rd), (4, .pu), (5, .pu), (6, .pu), (7, .rd), (8, .pu), (9, .pu), (10, .rd), (11, .pu), (12, .br)] mixed (ClE.sat _ _) (by kernel_rfl) ?_
  refine dp rfl (Pu.move rfl) (dp rfl (Pu.nilCheck rfl) (dp rfl (Pu.fieldAddr fd190_0 rfl) (dq rfl (Qt.ldB 0 ty188 rfl rfl rfl) (dp rfl (Pu.move rfl) (dp rfl (Pu.nilCheck rfl) (dp rfl (Pu.fieldAddr fd190_0 rfl) (dq rfl (Qt.ldB 0 ty188 rfl rfl rfl) (dp rfl (Pu.move rfl) ?_))))))))
  obtain ⟨g8, H⟩ := gdE H
  refine dp rfl (Pu.indexSl sl188 rfl rfl g8) (dq rfl (Qt.ldW (α := Itm) (cs := [_, _]) (Rd.ofRowN 2 rfl) ty195 rfl rfl g8 rfl (by rintro _ _ rfl; rfl)) ?_)
  obtain ⟨g9, H⟩ := gdE H
  refine dp rfl (Pu.indexSl sl188 rfl rfl g9) (RD.solid rfl (.inr rfl) rfl rfl (Sd.st0 (α := Itm) 2 (gi a0_q.l ((a0_q.l.length : Int) - 1)) rfl ty195 rfl rfl rfl g9 rfl rfl (by decide) rfl (by rintro _ _ rfl; rfl)) (fun _ => ClE.sat _ _) (fun _ _ _ => trivial) (fun h => nomatch h) fun _ => ?_)
  refine RD.nil (hK7 _ _ (cq [(0, _), (5, _), (6, _)] ?_))
  refine T.seq fun K8 hK8 => T.region (rM rfl (rM rfl (rp (Pu.nilCheck rfl) (rp (Pu.fieldAddr fd190_0 rfl) (rq (Qt.ldB 0 ty188 rfl rfl rfl) (rM rfl ?_))))))
  obtain ⟨g10, H⟩ := gdE H
  refine RS.know (fun w s => (s.row_fits (q := (some gg5, cc6)) (m := a0_q.l.length) (k := 2) rfl)) fun hf11 => ?_
  refine rp (Pu.sliceH sl188 rfl rfl (le_cap g10 hf11.2.1)) ?_
  refine RS.weakS (fun w s => s.cutRow (q := (some gg5, cc6)) (m := a0_q.l.length) 2 (((a0_q.l.length : Int) - 1).toNat) rfl (by have h1 := g10; have h2 := hf11.1; omega)) ?_
  refine rp (Pu.nilCheck rfl) (rp (Pu.fieldAddr fd190_0 rfl) (RS.solid (Sd.stB (cs' := [_]) 0 ty188 rfl rfl rfl rfl rfl rfl rfl rfl) rfl rfl fun _ => RS.nil (hK8 _ _ (cq [(0, _), (5, _), (6, _)] ?_))))
  refine T.seq fun K9 hK9 => T.seq fun K10 hK10 => T.region (rA rfl (RS.nil (hK10 _ _ ?_)))
  refine T.joinE (σ := List Itm) (γ := Unit) H (fun s => s) [(6, _)] ⟨rfl, trivial⟩ (fun v13 _ => []) (fun v13 _ => Sat w0 [blk g0 [rowV (some gg5, cc6) (((a0_q.l.length : Int) - 1).toNat)] 190, F, row nilH 195 (rowV (some gg5, cc6) (((a0_q.l.length : Int) - 1).toNat)) v13, blk b7 [.int .i64 ((gi a0_q.l (0 : Int)).key), .int .i64 ((gi a0_q.l (0 : Int)).val)] 195]) ?_ ?_
  ·rintro v13 ⟨⟩ H
   try dsimp only [Ex.then] at H
   refine Cont.conseq (fr' := [(6, _)]) ?_ ⟨rfl, trivial⟩ (fun _ s => s)
   refine id (hK9 _ _ ?_)
   refine T.seq fun K11 hK11 => ?_
   refine T.drawn (fun _ => True) [(0, .pu), (1, .rd), (2, .pu), (3, .rd), (4, .pu), (5, .pu), (6, .pu)] mixed (ClE.sat _ _) (by kernel_rfl) ?_
   refine dp rfl (Pu.fieldAddr fd195_0 rfl) (dq rfl (Qt.ldB 3 ty3 rfl rfl rfl) (dp rfl (Pu.fieldAddr fd195_1 rfl) (dq rfl (Qt.ldB 3 ty3 rfl rfl rfl) (dp rfl (Pu.assign rfl) (dp rfl (Pu.assign rfl) (dp rfl (Pu.assign rfl) (RD.nil (hK11 _ _ (cq [(2, _), (3, _), (4, _)] ?_)))))))))
   obtain rfl := sj H
   refine T.rt (Cont.ret3 rfl rfl rfl rfl fun w' s => ?_)
   exact ⟨rfl, Que_shut (x := (⟨v13⟩ : Que)) (some gg5, cc6) ((Sat.cellB 0 (Sat.relen (q := (some gg5, cc6)) (m := ((a0_q.l.length : Int) - 1).toNat) 2 s rfl) rfl (congrArg (fun z => [rowV (some gg5, cc6) z]) (s.row_fits (q := (some gg5, cc6)) (m := ((a0_q.l.length : Int) - 1).toNat) (k := 2) rfl).1)).pick [1, 0, 2] (by decide) rfl)⟩
  ·intro z12 hz12 HX12 hJ12
   refine T.block ?_
   refine T.loopA (γ := Unit) hz12 [(0, _), (5, _), (6, _)] (fun (v14, l15) _ => [(7, .int .i64 v14)]) (fun (v14, l15) _ => Sat w0 [blk g0 [rowV (some gg5, cc6) (((a0_q.l.length : Int) - 1).toNat)] 190, F, row nilH 195 (rowV (some gg5, cc6) (((a0_q.l.length : Int) - 1).toNat)) l15, blk b7 [.int .i64 ((gi a0_q.l (0 : Int)).key), .int .i64 ((gi a0_q.l (0 : Int)).val)] 195]) () ⟨rfl, rfl, rfl, trivial⟩ ⟨rfl, trivial⟩ (fun w s => s) ?_
   rintro ⟨v14, l15⟩ ⟨⟩ y16 H hd12 KL12 hL12
   try dsimp only [Ex.then] at H
   refine cq [(7, _), (0, _), (5, _), (6, _)] ?_
   refine T.block (T.seq fun K12 hK12 => T.region (rM rfl ?_))
   obtain ⟨g17, H⟩ := gdE H
   refine rp (Pu.mulS rfl rfl g17) ?_
   obtain ⟨g18, H⟩ := gdE H
   refine rp (Pu.addS rfl rfl g18) (rA rfl (RS.nil (hK12 _ _ (cq [(0, _), (5, _), (6, _), (7, _), (8, _)] ?_))))
   refine T.seq fun K13 hK13 => T.seq fun K14 hK14 => T.region (rM rfl (rM rfl (rp (Pu.bin rfl rfl rfl) (RS.nil (hK14 _ _ ?_)))))
   refine T.condP rfl (fun hc19 => ?_) (fun hc19 => ?_)
   ·have H := ifT hc19 H
    obtain rfl := hd12 _ H
    refine T.xt (hJ12 _ _ l15 () HX12 ⟨rfl, trivial⟩ trivial (fun w s => s))
   ·have H := ifF hc19 H
    refine T.skip (hK13 _ _ (cq [(0, _), (5, _), (6, _), (7, _), (8, _)] ?_))
    refine T.seq fun K15 hK15 => T.seq fun K16 hK16 => ?_
    refine T.drawn (fun _ => True) [(0, .pu), (1, .pu), (2, .pu), (3, .pu), (4, .pu), (5, .pu), (6, .pu), (7, .pu), (8, .rd), (9, .pu), (10, .pu), (11, .pu), (12, .rd), (13, .pu), (14, .pu), (15, .pu), (16, .rd), (17, .pu), (18, .pu), (19, .rd), (20, .rd), (21, .pu)] mixed (ClE.sat _ _) (by kernel_rfl) ?_
    refine dp rfl (Pu.move rfl) ?_
    obtain ⟨g20, H⟩ := gdE H
    refine dp rfl (Pu.addS rfl rfl g20) (dp rfl (Pu.move rfl) (dp rfl (Pu.bin rfl rfl rfl) (dp rfl (Pu.move rfl) ?_)))
    refine RD.joinB H 17 71 (fun b23 => .bool b23) [(0, _), (5, _), (6, _), (7, _), (8, _)] ⟨rfl, rfl, rfl, rfl, rfl, trivial⟩ ?_ ?_
    ·intro b23 H
     refine RD.nil (hK16 _ _ ?_)
     refine T.joinE (σ := Int) (γ := Unit) H (fun s => s) [(0, _), (5, _), (6, _), (7, _)] ⟨rfl, rfl, rfl, rfl, trivial⟩ (fun v25 _ => [(8, .int .i64 v25)]) (fun v25 _ => Sat w0 [blk g0 [rowV (some gg5, cc6) (((a0_q.l.length : Int) - 1).toNat)] 190, F, row nilH 195 (rowV (some gg5, cc6) (((a0_q.l.length : Int) - 1).toNat)) l15, blk b7 [.int .i64 ((gi a0_q.l (0 : Int)).key), .int .i64 ((gi a0_q.l (0 : Int)).val)] 195]) ?_ ?_
     ·rintro v25 ⟨⟩ H
      try dsimp only [Ex.then] at H
      refine Cont.conseq (fr' := [(8, _), (0, _), (5, _), (6, _), (7, _)]) ?_ ⟨rfl, rfl, rfl, rfl, rfl, trivial⟩ (fun _ s => s)
      refine id (hK15 _ _ ?_)
      refine T.seq fun K17 hK17 => T.seq fun K18 hK18 => ?_
      refine T.drawn (fun _ => True) [(0, .pu), (1, .pu), (2, .pu), (3, .rd), (4, .pu), (5, .pu), (6, .rd), (7, .pu), (8, .pu), (9, .pu), (10, .rd), (11, .pu), (12, .pu), (13, .rd), (14, .rd), (15, .pu)] mixed (ClE.sat _ _) (by kernel_rfl) ?_
      refine dp rfl (Pu.move rfl) (dp rfl (Pu.nilCheck rfl) (dp rfl (Pu.fieldAddr fd190_0 rfl) (dq rfl (Qt.ldB 0 ty188 rfl rfl rfl) (dp rfl (Pu.move rfl) ?_))))
      obtain ⟨g26, H⟩ := gdE H
      refine RD.know (fun w s => (s.row_fits (q := (some gg5, cc6)) (m := ((a0_q.l.length : Int) - 1).toNat) (k := 2) rfl)) fun hf27 => ?_
      refine dp rfl (Pu.indexSl sl188 rfl rfl g26) (dq rfl (Qt.ldW (α := Itm) (cs := [_, _]) (Rd.ofRowN 2 rfl) ty195 rfl rfl (idx_of hf27.1 g26) rfl (by rintro _ _ rfl; rfl)) (dp rfl (Pu.move rfl) (dp rfl (Pu.nilCheck rfl) (dp rfl (Pu.fieldAddr fd190_0 rfl) (dq rfl (Qt.ldB 0 ty188 rfl rfl rfl) (dp rfl (Pu.move rfl) ?_))))))
      obtain ⟨g28, H⟩ := gdE H
      refine RD.know (fun w s => (s.row_fits (q := (some gg5, cc6)) (m := ((a0_q.l.length : Int) - 1).toNat) (k := 2) rfl)) fun hf29 => ?_
      refine dp rfl (Pu.indexSl sl188 rfl rfl g28) (dq rfl (Qt.ldW (α := Itm) (cs := [_, _]) (Rd.ofRowN 2 rfl) ty195 rfl rfl (idx_of hf29.1 g28) rfl (by rintro _ _ rfl; rfl)) ?_)
      obtain ⟨x30, hx30, H⟩ := bindE H
      refine dq rfl (Qt.call (vs := [.agg #[.int .i64 ((gi l15 v25).key), .int .i64 ((gi l15 v25).val)], .agg #[.int .i64 ((gi l15 v14).key), .int .i64 ((gi l15 v14).val)]]) ent126 rfl fun w s => queue_item_less_walk (gi l15 v25) (gi l15 v14) w  hx30) (dp rfl (Pu.not rfl) (RD.nil (hK18 _ _ ?_)))
      refine T.cond rfl (fun hc31 => ?_) (fun hc31 => ?_)
      ·have H := ifT hc31 H
       obtain rfl := hd12 _ H
       refine T.xt (hJ12 _ _ l15 () HX12 ⟨rfl, trivial⟩ trivial (fun w s => s))
      ·have H := ifB hc31 H
       refine T.skip (hK17 _ _ (cq [(0, _), (5, _), (6, _), (7, _), (8, _)] ?_))
       refine T.seq fun K19 hK19 => ?_
       refine T.drawn (fun _ => True) [(0, .pu), (1, .pu), (2, .pu), (3, .rd), (4, .pu), (5, .pu), (6, .pu), (7, .pu), (8, .rd), (9, .pu), (10, .pu), (11, .pu), (12, .pu), (13, .rd), (14, .pu), (15, .pu), (16, .rd), (17, .pu), (18, .pu), (19, .pu), (20, .rd), (21, .pu), (22, .pu), (23, .rd), (24, .pu), (25, .br), (26, .pu), (27, .br)] mixed (ClE.sat _ _) (by kernel_rfl) ?_
       refine dp rfl (Pu.move rfl) (dp rfl (Pu.nilCheck rfl) (dp rfl (Pu.fieldAddr fd190_0 rfl) (dq rfl (Qt.ldB 0 ty188 rfl rfl rfl) (dp rfl (Pu.move rfl) (dp rfl (Pu.move rfl) (dp rfl (Pu.nilCheck rfl) (dp rfl (Pu.fieldAddr fd190_0 rfl) (dq rfl (Qt.ldB 0 ty188 rfl rfl rfl) (dp rfl (Pu.move rfl) (dp rfl (Pu.move rfl) (dp rfl (Pu.nilCheck rfl) (dp rfl (Pu.fieldAddr fd190_0 rfl) (dq rfl (Qt.ldB 0 ty188 rfl rfl rfl) ?_)))))))))))))
       refine dp rfl (Pu.move rfl) ?_
       obtain ⟨g32, H⟩ := gdE H
       refine RD.know (fun w s => (s.row_fits (q := (some gg5, cc6)) (m := ((a0_q.l.length : Int) - 1).toNat) (k := 2) rfl)) fun hf33 => ?_
       refine dp rfl (Pu.indexSl sl188 rfl rfl g32) (dq rfl (Qt.ldW (α := Itm) (cs := [_, _]) (Rd.ofRowN 2 rfl) ty195 rfl rfl (idx_of hf33.1 g32) rfl (by rintro _ _ rfl; rfl)) (dp rfl (Pu.move rfl) (dp rfl (Pu.nilCheck rfl) (dp rfl (Pu.fieldAddr fd190_0 rfl) (dq rfl (Qt.ldB 0 ty188 rfl rfl rfl) (dp rfl (Pu.move rfl) ?_))))))
       obtain ⟨g34, H⟩ := gdE H
       refine RD.know (fun w s => (s.row_fits (q := (some gg5, cc6)) (m := ((a0_q.l.length : Int) - 1).toNat) (k := 2) rfl)) fun hf35 => ?_
       refine dp rfl (Pu.indexSl sl188 rfl rfl g34) (dq rfl (Qt.ldW (α := Itm) (cs := [_, _]) (Rd.ofRowN 2 rfl) ty195 rfl rfl (idx_of hf35.1 g34) rfl (by rintro _ _ rfl; rfl)) ?_)
       obtain ⟨g36, H⟩ := gdE H
       refine RD.know (fun w s => (s.row_fits (q := (some gg5, cc6)) (m := ((a0_q.l.length : Int) - 1).toNat) (k := 2) rfl)) fun hf37 => ?_
       refine dp rfl (Pu.indexSl sl188 rfl rfl g36) (RD.solid rfl (.inr rfl) rfl rfl (Sd.st0 (α := Itm) 2 (gi l15 v25) rfl ty195 rfl rfl rfl (idx_of hf37.1 g36) rfl rfl (by decide) rfl (by rintro _ _ rfl; rfl)) (fun _ => ClE.sat _ _) (fun _ _ _ => trivial) (fun h => nomatch h) fun _ => ?_)
       obtain ⟨g38, H⟩ := gdE H
       refine RD.know (fun w s => (s.row_fits (q := (some gg5, cc6)) (m := ((a0_q.l.length : Int) - 1).toNat) (k := 2) rfl)) fun hf39 => ?_
       refine dp rfl (Pu.indexSl sl188 rfl rfl g38) (RD.solid rfl (.inr rfl) rfl rfl (Sd.st0 (α := Itm) 2 (gi l15 v14) rfl ty195 rfl rfl rfl (idx_of hf39.1 g38) rfl rfl (by decide) rfl (by rintro _ _ rfl; rfl)) (fun _ => ClE.sat _ _) (fun _ _ _ => trivial) (fun h => nomatch h) fun _ => ?_)
       refine RD.nil (hK19 _ _ (cq [(0, _), (5, _), (6, _), (8, _)] ?_))
       refine T.region (rM rfl (rA rfl (RS.nil (hL12 _ _ (v25, (si (si l15 v14 (gi l15 v25)) v25 (gi l15 v14))) () H ⟨rfl, rfl, rfl, trivial⟩ ⟨rfl, trivial⟩ (fun w s => s)))))
     ·intro z24 H HX24 hJ24
      refine T.cond rfl (fun hc40 => ?_) (fun hc40 => ?_)
      ·have H := ifT hc40 H
       refine T.region (rM rfl ?_)
       obtain ⟨g41, H⟩ := gdE H
       refine rp (Pu.addS rfl rfl g41) (rA rfl ?_)
       obtain rfl := sj H
       refine RS.nil (hJ24 _ _ (((2 * v14) + 1) + 1) () HX24 ⟨rfl, rfl, rfl, rfl, trivial⟩ ⟨rfl, trivial⟩ (fun w s => s))
      ·have H := ifB hc40 H
       obtain rfl := sj H
       refine T.skip (hJ24 _ _ ((2 * v14) + 1) () HX24 ⟨rfl, rfl, rfl, rfl, trivial⟩ ⟨rfl, trivial⟩ (fun w s => s))
    ·intro z42 H hJ22
     refine RD.splitP 54 rfl (fun hc21 => ?_) (fun hc21 => ?_)
     ·have H := ifT hc21 H
      refine dp rfl (Pu.move rfl) (dp rfl (Pu.nilCheck rfl) (dp rfl (Pu.fieldAddr fd190_0 rfl) (dq rfl (Qt.ldB 0 ty188 rfl rfl rfl) (dp rfl (Pu.move rfl) ?_))))
      obtain ⟨g43, H⟩ := gdE H
      refine dp rfl (Pu.addS rfl rfl g43) ?_
      obtain ⟨g44, H⟩ := gdE H
      refine RD.know (fun w s => (s.row_fits (q := (some gg5, cc6)) (m := ((a0_q.l.length : Int) - 1).toNat) (k := 2) rfl)) fun hf45 => ?_
      refine dp rfl (Pu.indexSl sl188 rfl rfl g44) (dq rfl (Qt.ldW (α := Itm) (cs := [_, _]) (Rd.ofRowN 2 rfl) ty195 rfl rfl (idx_of hf45.1 g44) rfl (by rintro _ _ rfl; rfl)) (dp rfl (Pu.move rfl) (dp rfl (Pu.nilCheck rfl) (dp rfl (Pu.fieldAddr fd190_0 rfl) (dq rfl (Qt.ldB 0 ty188 rfl rfl rfl) (dp rfl (Pu.move rfl) ?_))))))
      obtain ⟨g46, H⟩ := gdE H
      refine RD.know (fun w s => (s.row_fits (q := (some gg5, cc6)) (m := ((a0_q.l.length : Int) - 1).toNat) (k := 2) rfl)) fun hf47 => ?_
      refine dp rfl (Pu.indexSl sl188 rfl rfl g46) (dq rfl (Qt.ldW (α := Itm) (cs := [_, _]) (Rd.ofRowN 2 rfl) ty195 rfl rfl (idx_of hf47.1 g46) rfl (by rintro _ _ rfl; rfl)) ?_)
      obtain ⟨x48, hx48, H⟩ := bindE H
      refine dq rfl (Qt.call (vs := [.agg #[.int .i64 ((gi l15 (((2 * v14) + 1) + 1)).key), .int .i64 ((gi l15 (((2 * v14) + 1) + 1)).val)], .agg #[.int .i64 ((gi l15 ((2 * v14) + 1)).key), .int .i64 ((gi l15 ((2 * v14) + 1)).val)]]) ent126 rfl fun w s => queue_item_less_walk (gi l15 (((2 * v14) + 1) + 1)) (gi l15 ((2 * v14) + 1)) w  hx48) (dp rfl (Pu.pickT rfl rfl) ?_)
      obtain rfl := sj H
      exact hJ22 _ ⟨rfl, rfl, rfl, rfl, rfl, rfl, trivial⟩
     ·have H := ifF hc21 H
      refine dn rfl (dn rfl (dn rfl (dn rfl (dn rfl (dn rfl (dn rfl (dn rfl (dn rfl (dn rfl (dn rfl (dn rfl (dn rfl (dn rfl ?_)))))))))))))
      refine dn rfl (dn rfl (dp rfl (Pu.pickF rfl rfl) ?_))
      obtain rfl := sj H
      exact hJ22 _ ⟨rfl, rfl, rfl, rfl, rfl, rfl, trivial⟩
theorem field_May_walk (a0_g : Grd) (a1_l : List Bld) (a2_class : Int) (a3_size : Int) (w : World) {v0 v1 : Value} (h0 : R (hpOf w) a0_g.tiles [v0]) (h1 : R (hpOf w) a1_l [v1]) {r : Bool} (H : field_May a0_g a1_l a2_class a3_size = some r) : Calls Tryz.prog 44 #[.agg #[.int .i64 a0_g.w, .int .i64 a0_g.h, v0], v1, .int .i64 a2_class, .int .i64 a3_size] w fun e w' => e = .returned (.bool r) ∧ Ext w w' := by
 have hm0 := R_max h0
 obtain ⟨p0, c0, rfl⟩ := R_form h0
 have hm1 := R_max h1
 obtain ⟨p1, c1, rfl⟩ := R_form h1
 unfold field_May at H
 refine T.enter (args := [_, _, _, _]) (S := Sat w []) Tryz.func44 rfl rfl (Sat.start w) ?_
 refine T.seq fun K1 hK1 => T.region (RS.solid (Sd.box (cs := [_, _, _]) rfl rfl) rfl rfl fun b1 => rA rfl (RS.nil (hK1 _ _ ?_)))
 refine T.seq fun K2 hK2 => T.region (rM rfl (rp (Pu.bin rfl rfl rfl) (rM rfl ?_)))
 refine RS.joinV 3 14 (.bool (decide ((0 ≤ a3_size) ∧ (a3_size ≤ 3)))) [(1, _), (2, _), (4, _), (8, _)] ⟨rfl, rfl, rfl, rfl, trivial⟩ ?_ ?_
 ·refine rM rfl ?_
  refine RS.joinB H 5 20 (fun b6 => .bool b6) [(8, _)] ⟨rfl, trivial⟩ ?_ ?_
  ·intro b6 H
   refine rA rfl (RS.nil (hK2 _ _ ?_))
   obtain rfl := sj H
   refine T.rt (Cont.ret1 rfl rfl fun w' s => ?_)
   exact ⟨rfl, s.ext⟩
  ·intro z7 H hJ5
   refine RS.splitP 15 rfl (fun hc4 => ?_) (fun hc4 => ?_)
   ·have H := ifT hc4 H
    refine rq (Qt.ldBA (us := [_, _, _]) 0 ty36 rfl rfl rfl rfl) (rM rfl (rM rfl ?_))
    obtain ⟨x8, hx8, H⟩ := bindE H
    refine rq (Qt.call (vs := [.agg #[.int .i64 a0_g.w, .int .i64 a0_g.h, .slice p0 a0_g.tiles.length c0], .slice p1 a1_l.length c1, .int .i64 a2_class]) ent75 rfl fun w s => clear_May_walk a0_g a1_l a2_class w ((Rd.base h0) w s) ((Rd.base h1) w s) hx8) (rp (Pu.pickT rfl rfl) ?_)
    obtain rfl := sj H
    exact hJ5 _ _ ⟨rfl, rfl, trivial⟩ (fun w s => s)
   ·have H := ifF hc4 H
    refine ro (ro (ro (ro (rp (Pu.pickF rfl rfl) ?_))))
    obtain rfl := sj H
    exact hJ5 _ _ ⟨rfl, rfl, trivial⟩ (fun w s => s)
 ·intro hJ3
  refine RS.splitP 11 rfl (fun hc2 => ?_) (fun hc2 => ?_)
  ·refine rM rfl (rp (Pu.bin rfl rfl rfl) (rp (Pu.pickT rfl rfl) ?_))
   exact hJ3 _ _ ⟨dAndT hc2, rfl, rfl, rfl, rfl, trivial⟩ (fun w s => s)
  ·refine ro (ro (rp (Pu.pickF rfl rfl) ?_))
   exact hJ3 _ _ ⟨dAndF hc2, rfl, rfl, rfl, rfl, trivial⟩ (fun w s => s)
theorem field_Fit_walk (a0_g : Grd) (a1_l : List Bld) (a2_class : Int) (a3_size : Int) (w : World) {v0 v1 : Value} (h0 : R (hpOf w) a0_g.tiles [v0]) (h1 : R (hpOf w) a1_l [v1]) {r : List Bool} (H : field_Fit a0_g a1_l a2_class a3_size = some r) : Calls Tryz.prog 60 #[.agg #[.int .i64 a0_g.w, .int .i64 a0_g.h, v0], v1, .int .i64 a2_class, .int .i64 a3_size] w fun e w' => ∃ q1 : (Option Nat × Nat), e = .returned (rowV q1 r.length) ∧ Sat w [row nilH 4 (rowV q1 r.length) r] w' := by
 have hm0 := R_max h0
 obtain ⟨p0, c0, rfl⟩ := R_form h0
 have hm1 := R_max h1
 obtain ⟨p1, c1, rfl⟩ := R_form h1
 unfold field_Fit at H
 refine T.enter (args := [_, _, _, _]) (S := Sat w []) Tryz.func60 rfl rfl (Sat.start w) ?_
 refine T.seq fun K1 hK1 => T.region (RS.solid (Sd.box (cs := [_, _, _]) rfl rfl) rfl rfl fun b1 => rA rfl (RS.nil (hK1 _ _ ?_)))
 refine T.seq fun K2 hK2 => T.region (rp (Pu.fieldAddr fd36_2 rfl) (rq (Qt.ldB 0 ty34 rfl rfl rfl) (rp (Pu.lenSl sl34 rfl) ?_)))
 obtain ⟨g3, H⟩ := gdE H
 refine RS.solid (Sd.make (α := Bool) (B := nilH) false sl59 zr4 rfl (by decide) rfl rfl (by omega) (by omega) (by omega)) rfl rfl fun b2 => rA rfl (RS.nil (hK2 _ _ (cq [(1, _), (2, _), (3, _), (4, _), (9, _)] ?_)))
 refine T.seq fun K3 hK3 => T.seq fun K4 hK4 => T.region (rq (Qt.ldBA (us := [_, _, _]) 0 ty36 rfl rfl rfl rfl) (rM rfl (rM rfl ?_)))
 obtain ⟨x4, hx4, H⟩ := bindE H
 refine RS.solid (Sd.callN (vs := [.agg #[.int .i64 a0_g.w, .int .i64 a0_g.h, .slice p0 a0_g.tiles.length c0], .slice p1 a1_l.length c1, .int .i64 a2_class]) ent95 rfl (fun w s => clear_Room_walk a0_g a1_l a2_class w ((Rd.base h0) w s) ((Rd.base h1) w s) hx4)) rfl rfl fun q5 => rp (Pu.lenSl sl23 rfl) (rM rfl (RS.nil (hK4 _ _ (cq [(3, _), (9, _), (19, _), (20, _), (21, _)] ?_))))
 refine T.joinE (σ := List Bool) (γ := Unit) H (fun s => s) [(9, _)] ⟨rfl, trivial⟩ (fun v7 _ => []) (fun v7 _ => Sat w [blk b1 [.int .i64 a0_g.w, .int .i64 a0_g.h, .slice p0 a0_g.tiles.length c0] 36, row nilH 4 (rowV (some b2, (a0_g.tiles.length : Int).toNat) ((a0_g.tiles.length : Int).toNat)) v7, row nilH 3 (rowV q5 x4.length) x4]) ?_ ?_
 ·rintro v7 ⟨⟩ H
  try dsimp only [Ex.then] at H
  refine Cont.conseq (fr' := [(9, _)]) ?_ ⟨rfl, trivial⟩ (fun _ s => s)
  refine id (hK3 _ _ ?_)
  refine T.seq fun K5 hK5 => T.region (rM rfl (rA rfl (RS.nil (hK5 _ _ ?_))))
  obtain rfl := sj H
  refine T.rt (Cont.ret1 rfl rfl fun w' s => ?_)
  exact ⟨(some b2, (a0_g.tiles.length : Int).toNat), (by simp only [(s.row_fits (q := (some b2, (a0_g.tiles.length : Int).toNat)) (m := (a0_g.tiles.length : Int).toNat) (k := 1) rfl).1]; try rfl), (Sat.relen (q := (some b2, (a0_g.tiles.length : Int).toNat)) (m := (a0_g.tiles.length : Int).toNat) 1 s rfl).pick [1] (by decide) rfl⟩
 ·intro z6 hz6 HX6 hJ6
  refine T.block ?_
  refine T.loopA (γ := Unit) hz6 [(3, _), (9, _), (19, _), (20, _)] (fun (v8, l9) _ => [(21, .int .i64 v8)]) (fun (v8, l9) _ => Sat w [blk b1 [.int .i64 a0_g.w, .int .i64 a0_g.h, .slice p0 a0_g.tiles.length c0] 36, row nilH 4 (rowV (some b2, (a0_g.tiles.length : Int).toNat) ((a0_g.tiles.length : Int).toNat)) l9, row nilH 3 (rowV q5 x4.length) x4]) () ⟨rfl, rfl, rfl, rfl, trivial⟩ ⟨rfl, trivial⟩ (fun w s => s) ?_
  rintro ⟨v8, l9⟩ ⟨⟩ y10 H hd6 KL6 hL6
  try dsimp only [Ex.then] at H
  refine cq [(21, _), (3, _), (9, _), (19, _), (20, _)] ?_
  refine T.seq fun K6 hK6 => T.region (rp (Pu.bin rfl rfl rfl) (RS.nil (hK6 _ _ ?_)))
  refine T.seq fun K7 hK7 => ?_
  refine T.condP rfl (fun hc11 => ?_) (fun hc11 => ?_)
  ·have H := ifT hc11 H
   refine T.skip (hK7 _ _ ?_)
   refine T.seq fun K8 hK8 => T.block (T.seq fun K9 hK9 => T.region (rM rfl ?_))
   obtain ⟨g12, H⟩ := gdE H
   refine RS.know (p := ∃ g cap, q5 = (some g, cap)) (fun w s => (s.row_some (k := 2) rfl (pos_of g12))) ?_
   rintro ⟨gg13, cc14, rfl⟩
   refine rp (Pu.indexSl sl23 rfl rfl g12) (rq (Qt.ld0 (α := Int) (Rd.ofRowN 2 rfl) ty3 rfl rfl g12 (by rintro _ _ rfl; rfl)) (rA rfl (rA rfl (RS.nil (hK9 _ _ (cq [(3, _), (9, _), (10, _), (11, _), (19, _), (20, _), (21, _)] ?_))))))
   refine T.region (rM rfl (rM rfl (rM rfl (rM rfl (rp (Pu.bin rfl rfl rfl) ?_)))))
   obtain ⟨g15, H⟩ := gdE H
   refine RS.know (fun w s => (s.row_fits (q := (some b2, (a0_g.tiles.length : Int).toNat)) (m := (a0_g.tiles.length : Int).toNat) (k := 1) rfl)) fun hf16 => ?_
   refine rp (Pu.indexSl sl59 rfl rfl g15) (RS.solid (Sd.st0 (α := Bool) 1 (decide (a3_size < (gi x4 v8))) rfl ty4 rfl rfl rfl (idx_of hf16.1 g15) rfl rfl (by decide) rfl (by rintro _ _ rfl; rfl)) rfl rfl fun _ => RS.nil (hK8 _ _ (cq [(3, _), (9, _), (19, _), (20, _), (21, _)] ?_)))
   refine T.region ?_
   obtain ⟨g17, H⟩ := gdE H
   refine rp (Pu.addS rfl rfl g17) (rM rfl (RS.nil (hL6 _ _ ((v8 + 1), (si l9 v8 (decide (a3_size < (gi x4 v8))))) () H ⟨rfl, rfl, rfl, rfl, trivial⟩ ⟨rfl, trivial⟩ (fun w s => s))))
  ·have H := ifF hc11 H
   obtain rfl := hd6 _ H
   refine T.xt (hJ6 _ _ l9 () HX6 ⟨rfl, trivial⟩ trivial (fun w s => s))
theorem field_Good_walk (a0_g : Grd) (a1_l : List Bld) (a2_class : Int) (a3_size : Int) (w : World) {v0 v1 : Value} (h0 : R (hpOf w) a0_g.tiles [v0]) (h1 : R (hpOf w) a1_l [v1]) {r : List Bool × Int} (H : field_Good a0_g a1_l a2_class a3_size = some r) : Calls Tryz.prog 30 #[.agg #[.int .i64 a0_g.w, .int .i64 a0_g.h, v0], v1, .int .i64 a2_class, .int .i64 a3_size] w fun e w' => ∃ q1 : (Option Nat × Nat), e = .returned (.tuple #[rowV q1 r.1.length, .int .i64 r.2]) ∧ Sat w [row nilH 4 (rowV q1 r.1.length) r.1] w' := by
 have hm0 := R_max h0
 obtain ⟨p0, c0, rfl⟩ := R_form h0
 have hm1 := R_max h1
 obtain ⟨p1, c1, rfl⟩ := R_form h1
 unfold field_Good at H
 refine T.enter (args := [_, _, _, _]) (S := Sat w []) Tryz.func30 rfl rfl (Sat.start w) ?_
 refine T.seq fun K1 hK1 => T.region (RS.solid (Sd.box (cs := [_, _, _]) rfl rfl) rfl rfl fun b1 => rA rfl (rA rfl (RS.nil (hK1 _ _ (cq [(1, _), (2, _), (3, _), (4, _)] ?_)))))
 refine T.seq fun K2 hK2 => T.seq fun K3 hK3 => T.region (rq (Qt.ldBA (us := [_, _, _]) 0 ty36 rfl rfl rfl rfl) (rM rfl (rM rfl (rM rfl ?_))))
 obtain ⟨x2, hx2, H⟩ := bindE H
 refine rq (Qt.call (vs := [.agg #[.int .i64 a0_g.w, .int .i64 a0_g.h, .slice p0 a0_g.tiles.length c0], .slice p1 a1_l.length c1, .int .i64 a2_class, .int .i64 a3_size]) ent44 rfl fun w s => field_May_walk a0_g a1_l a2_class a3_size w ((Rd.base h0) w s) ((Rd.base h1) w s) hx2) (rp (Pu.not rfl) (RS.nil (hK3 _ _ ?_)))
 refine T.cond rfl (fun hc3 => ?_) (fun hc3 => ?_)
 ·have H := ifT hc3 H
  refine cq [] ?_
  refine T.seq fun K4 hK4 => T.region (rA rfl (rA rfl (RS.nil (hK4 _ _ ?_))))
  obtain rfl := sj H
  refine T.rt (Cont.ret2 rfl rfl rfl fun w' s => ?_)
  exact ⟨(none, 0), rfl, (s.nilRow (α := Bool) 4).pick [1] (by decide) rfl⟩
 ·have H := ifB hc3 H
  refine T.skip (hK2 _ _ (cq [(1, _), (2, _), (3, _), (4, _)] ?_))
  refine T.seq fun K5 hK5 => T.region (rq (Qt.ldBA (us := [_, _, _]) 0 ty36 rfl rfl rfl rfl) (rM rfl (rM rfl (rM rfl ?_))))
  obtain ⟨x4, hx4, H⟩ := bindE H
  refine RS.solid (Sd.callN (vs := [.agg #[.int .i64 a0_g.w, .int .i64 a0_g.h, .slice p0 a0_g.tiles.length c0], .slice p1 a1_l.length c1, .int .i64 a2_class, .int .i64 a3_size]) ent60 rfl (fun w s => field_Fit_walk a0_g a1_l a2_class a3_size w ((Rd.base h0) w s) ((Rd.base h1) w s) hx4)) rfl rfl fun q5 => rA rfl (rA rfl (RS.nil (hK5 _ _ (cq [(8, _), (9, _)] ?_))))
  obtain rfl := sj H
  refine T.rt (Cont.ret2 rfl rfl rfl fun w' s => ?_)
  exact ⟨q5, rfl, s.pick [1] (by decide) rfl⟩
theorem field_sides_walk (a0_i : Int) (w : World) {r : Int × Int} (H : field_sides a0_i = some r) : Calls Tryz.prog 136 #[.int .i64 a0_i] w fun e w' => e = .returned (.tuple #[.int .i64 r.1, .int .i64 r.2]) ∧ Ext w w' := by
 unfold field_sides at H
 refine T.enter (args := [_]) (S := Sat w []) Tryz.func136 rfl rfl (Sat.start w) ?_
 refine T.seq fun K1 hK1 => T.region (rA rfl (rA rfl (RS.nil (hK1 _ _ ?_))))
 refine T.seq fun K2 hK2 => ?_
 refine T.drawn (fun _ => True) [(0, .pu), (1, .pu), (2, .pu), (3, .pu), (4, .pu), (5, .pu), (6, .pu), (7, .pu)] mixed (ClE.sat _ _) (by kernel_rfl) ?_
 refine dp rfl (Pu.buildAr (cells := [_, _, _, _, _, _, _, _]) at124 rfl rfl) (dp rfl (Pu.move rfl) ?_)
 obtain ⟨g1, H⟩ := gdE H
 refine dp rfl (Pu.indexN (xs := [0, 0, 0, 0, 0, 1, 2, 3]) ar124 ty3 rfl rfl g1) (dp rfl (Pu.buildAr (cells := [_, _, _, _, _, _, _, _]) at124 rfl rfl) (dp rfl (Pu.move rfl) ?_))
 obtain ⟨g2, H⟩ := gdE H
 refine dp rfl (Pu.indexN (xs := [0, 0, 0, 0, 1, 2, 3, 0]) ar124 ty3 rfl rfl g2) (dp rfl (Pu.assign rfl) (dp rfl (Pu.assign rfl) (RD.nil (hK2 _ _ (cq [(2, _), (3, _)] ?_)))))
 obtain rfl := sj H
 refine T.rt (Cont.ret2 rfl rfl rfl fun w' s => ?_)
 exact ⟨rfl, s.ext⟩
theorem field_Net_Step_walk (a0_n : Net) (a1_t : Int) (a2_near : List Int) (a3_way : Int) (a4_in : Int → Option Bool) (w : World) {v0 v1 v2 : Value} {p0g : Nat} (hb0 : blk p0g [.int .i64 a0_n.g.w, .int .i64 a0_n.g.h, v0, .int .i64 a0_n.cls, v1] 101 (hpOf w)) (h0 : R (hpOf w) a0_n.g.tiles [v0]) (h1 : R (hpOf w) a0_n.free [v1]) (h2 : FnQ Tryz.prog w v2 (fun (y0 : Int) => [.int .i64 y0]) (fun (r : Bool) => .bool r) a4_in) {r : Int} (H : field_Net_Step a0_n a1_t a2_near a3_way a4_in = some r) : Calls Tryz.prog 105 #[.pointer (some ⟨p0g, 0, none⟩), .int .i64 a1_t, .agg (nums a2_near).toArray, .int .i64 a3_way, v2] w fun e w' => e = .returned (.int .i64 r) ∧ Ext w w' := by
 have hm0 := R_max h0
 obtain ⟨p0, c0, rfl⟩ := R_form h0
 have hm1 := R_max h1
 obtain ⟨p1, c1, rfl⟩ := R_form h1
 unfold field_Net_Step at H
 refine T.enter (args := [_, _, _, _, _]) (S := Sat w []) Tryz.func105 rfl rfl (Sat.start w) ?_
 refine T.seq fun K1 hK1 => T.region (RS.solid (Sd.box (cs := nums a2_near) rfl (by simp [Value.cells])) rfl rfl fun b1 => rA rfl (RS.nil (hK1 _ _ ?_)))
 refine T.seq fun K2 hK2 => T.region (rM rfl ?_)
 obtain ⟨g2, H⟩ := gdE H
 refine rp (Pu.indexAr ar124 rfl rfl (by have := g2; omega)) (rq (Qt.ldAr 0 ty3 rfl rfl rfl (by have := g2; omega)) (rA rfl (RS.nil (hK2 _ _ (cq [(0, _), (1, _), (3, _), (4, _), (7, _), (11, _)] ?_)))))
 refine T.seq fun K3 hK3 => T.seq fun K4 hK4 => T.region (rM rfl (rp (Pu.bin rfl rfl rfl) (rM rfl ?_)))
 obtain ⟨g5, H⟩ := gdE H
 refine RS.joinV 9 29 (.bool (decide (((gi a2_near a3_way) < 0) ∨ ((!(gi a0_n.free (gi a2_near a3_way))) = true)))) [(0, _), (1, _), (3, _), (4, _), (7, _), (11, _)] ⟨rfl, rfl, rfl, rfl, rfl, rfl, trivial⟩ ?_ ?_
 ·refine rM rfl ?_
  refine RS.joinB H 5 35 (fun b8 => .bool b8) [(0, _), (1, _), (3, _), (4, _), (7, _), (11, _)] ⟨rfl, rfl, rfl, rfl, rfl, rfl, trivial⟩ ?_ ?_
  ·intro b8 H
   refine RS.nil (hK4 _ _ ?_)
   refine T.cond rfl (fun hc9 => ?_) (fun hc9 => ?_)
   ·have H := ifT hc9 H
    refine cq [] ?_
    refine T.seq fun K5 hK5 => T.region (rA rfl (RS.nil (hK5 _ _ ?_)))
    obtain rfl := sj H
    refine T.rt (Cont.ret1 rfl rfl fun w' s => ?_)
    exact ⟨rfl, s.ext⟩
   ·have H := ifB hc9 H
    refine T.skip (hK3 _ _ ?_)
    refine T.seq fun K6 hK6 => ?_
    refine T.drawn (fun _ => True) [(0, .pu), (1, .pu), (2, .pu), (3, .rd), (4, .pu), (5, .pu), (6, .pu), (7, .pu), (8, .rd), (9, .pu), (10, .pu), (11, .rd), (12, .rd), (13, .pu), (14, .pu), (15, .pu), (16, .rd), (17, .pu), (18, .pu), (19, .pu), (20, .pu), (21, .rd), (22, .pu), (23, .pu), (24, .rd), (25, .rd), (26, .pu), (27, .pu)] mixed (ClE.sat _ _) (by kernel_rfl) ?_
    refine dp rfl (Pu.move rfl) (dp rfl (Pu.nilCheck rfl) (dp rfl (Pu.fieldAddr fd101_1 rfl) (dq rfl (Qt.ldX ty3 rfl hb0 (fun w s => s.ext) rfl) (dp rfl (Pu.move rfl) (dp rfl (Pu.nilCheck rfl) (dp rfl (Pu.fieldAddr fd101_0 rfl) (dp rfl (Pu.fieldAddr fd36_2 rfl) (dq rfl (Qt.ldX ty34 rfl hb0 (fun w s => s.ext) rfl) (dp rfl (Pu.move rfl) ?_)))))))))
    obtain ⟨g10, H⟩ := gdE H
    obtain ⟨bl11, ol12, rfl⟩ := R_ptr h0 (ne_of_pos (pos_of g10))
    refine dp rfl (Pu.indexSl sl34 rfl rfl g10) (dq rfl (Qt.ld0 (α := UInt8) (Rd.base h0) ty5 rfl rfl g10 (by rintro _ _ rfl; rfl)) ?_)
    obtain ⟨x13, hx13, H⟩ := bindE H
    refine dq rfl (Qt.call (vs := [.int .i64 a0_n.cls, .int .u8 ((gi a0_n.g.tiles a1_t).toNat : Int)]) ent135 rfl fun w s => kind_Price_walk a0_n.cls ((gi a0_n.g.tiles a1_t).toNat : Int) w  hx13) (dp rfl (Pu.move rfl) (dp rfl (Pu.nilCheck rfl) (dp rfl (Pu.fieldAddr fd101_1 rfl) (dq rfl (Qt.ldX ty3 rfl hb0 (fun w s => s.ext) rfl) (dp rfl (Pu.move rfl) (dp rfl (Pu.nilCheck rfl) (dp rfl (Pu.fieldAddr fd101_0 rfl) (dp rfl (Pu.fieldAddr fd36_2 rfl) (dq rfl (Qt.ldX ty34 rfl hb0 (fun w s => s.ext) rfl) (dp rfl (Pu.move rfl) ?_))))))))))
    obtain ⟨g14, H⟩ := gdE H
    refine dp rfl (Pu.indexSl sl34 rfl rfl g14) (dq rfl (Qt.ld0 (α := UInt8) (Rd.base h0) ty5 rfl rfl g14 (by rintro _ _ rfl; rfl)) ?_)
    obtain ⟨x15, hx15, H⟩ := bindE H
    refine dq rfl (Qt.call (vs := [.int .i64 a0_n.cls, .int .u8 ((gi a0_n.g.tiles (gi a2_near a3_way)).toNat : Int)]) ent135 rfl fun w s => kind_Price_walk a0_n.cls ((gi a0_n.g.tiles (gi a2_near a3_way)).toNat : Int) w  hx15) ?_
    obtain ⟨g16, H⟩ := gdE H
    refine dp rfl (Pu.addS rfl rfl g16) (dp rfl (Pu.assign rfl) (RD.nil (hK6 _ _ (cq [(0, _), (3, _), (4, _), (7, _), (12, _)] ?_))))
    refine T.seq fun K7 hK7 => T.seq fun K8 hK8 => T.region (rM rfl (rp (Pu.bin rfl rfl rfl) (RS.nil (hK8 _ _ ?_))))
    refine T.condP rfl (fun hc17 => ?_) (fun hc17 => ?_)
    ·have H := ifT hc17 H
     refine cq [(12, _)] ?_
     refine T.seq fun K9 hK9 => T.region (rM rfl ?_)
     obtain ⟨g18, H⟩ := gdE H
     refine rp (Pu.mulS rfl rfl g18) (rA rfl (RS.nil (hK9 _ _ (cq [(10, _)] ?_))))
     obtain rfl := sj H
     refine T.rt (Cont.ret1 rfl rfl fun w' s => ?_)
     exact ⟨rfl, s.ext⟩
    ·have H := ifF hc17 H
     refine T.skip (hK7 _ _ ?_)
     refine T.seq fun K10 hK10 => T.region (rM rfl ?_)
     obtain ⟨x19, hx19, H⟩ := bindE H
     refine rq (Qt.call (vs := [.int .i64 a3_way]) ent136 rfl fun w s => field_sides_walk a3_way w  hx19) (rM rfl (rp (Pu.extract rfl rfl) (rp (Pu.extract rfl rfl) (rA rfl (rA rfl (RS.nil (hK10 _ _ (cq [(0, _), (4, _), (7, _), (12, _), (13, _), (14, _)] ?_))))))))
     refine T.seq fun K11 hK11 => T.seq fun K12 hK12 => ?_
     refine T.drawn (fun _ => True) [(0, .pu), (1, .pu), (2, .rd), (3, .pu), (4, .pu), (5, .pu), (6, .pu), (7, .rd), (8, .pu), (9, .pu), (10, .pu), (11, .pu), (12, .pu), (13, .pu), (14, .rd), (15, .pu), (16, .pu), (17, .rd), (18, .pu), (19, .rd), (20, .pu), (21, .pu), (22, .pu), (23, .pu), (24, .pu), (25, .pu), (26, .rd), (27, .pu), (28, .pu), (29, .rd), (30, .pu), (31, .rd), (32, .pu), (33, .pu), (34, .pu), (35, .pu), (36, .pu), (37, .pu), (38, .rd), (39, .rd), (40, .pu), (41, .pu), (42, .pu), (43, .pu), (44, .pu), (45, .pu), (46, .rd), (47, .rd), (48, .pu), (49, .pu)] mixed (ClE.sat _ _) (by kernel_rfl) ?_
     refine dp rfl (Pu.move rfl) ?_
     obtain ⟨g20, H⟩ := gdE H
     refine dp rfl (Pu.indexAr ar124 rfl rfl (by have := g20; omega)) (dq rfl (Qt.ldAr 0 ty3 rfl rfl rfl (by have := g20; omega)) (dp rfl (Pu.bin rfl rfl rfl) (dp rfl (Pu.move rfl) ?_)))
     obtain ⟨g23, H⟩ := gdE H
     refine RD.joinV 5 81 (.bool (decide (((gi a2_near x19.1) < 0) ∨ ((gi a2_near x19.2) < 0)))) [(0, _), (4, _), (7, _), (12, _), (13, _), (14, _)] ⟨rfl, rfl, rfl, rfl, rfl, rfl, trivial⟩ ?_ ?_
     ·refine dp rfl (Pu.move rfl) ?_
      obtain ⟨g26, H⟩ := gdE H
      obtain ⟨g27, H⟩ := gdE H
      refine RD.joinV 11 93 (.bool (decide ((((gi a2_near x19.1) < 0) ∨ ((gi a2_near x19.2) < 0)) ∨ ((!(gi a0_n.free (gi a2_near x19.1))) = true)))) [(0, _), (4, _), (7, _), (12, _), (13, _), (14, _)] ⟨rfl, rfl, rfl, rfl, rfl, rfl, trivial⟩ ?_ ?_
      ·refine dp rfl (Pu.move rfl) ?_
       obtain ⟨g30, H⟩ := gdE H
       obtain ⟨g31, H⟩ := gdE H
       refine RD.joinV 11 105 (.bool (decide (((((gi a2_near x19.1) < 0) ∨ ((gi a2_near x19.2) < 0)) ∨ ((!(gi a0_n.free (gi a2_near x19.1))) = true)) ∨ ((!(gi a0_n.free (gi a2_near x19.2))) = true)))) [(4, _), (7, _), (12, _), (13, _), (14, _)] ⟨rfl, rfl, rfl, rfl, rfl, trivial⟩ ?_ ?_
       ·refine dp rfl (Pu.move rfl) ?_
        refine RD.joinB H 7 113 (fun b34 => .bool b34) [(4, _), (7, _), (12, _), (14, _)] ⟨rfl, rfl, rfl, rfl, trivial⟩ ?_ ?_
        ·intro b34 H
         refine dp rfl (Pu.move rfl) ?_
         refine RD.joinB H 7 121 (fun b37 => .bool b37) [(12, _)] ⟨rfl, trivial⟩ ?_ ?_
         ·intro b37 H
          refine RD.nil (hK12 _ _ ?_)
          refine T.cond rfl (fun hc38 => ?_) (fun hc38 => ?_)
          ·have H := ifT hc38 H
           refine T.seq fun K13 hK13 => T.region (rA rfl (RS.nil (hK13 _ _ ?_)))
           obtain rfl := sj H
           refine T.rt (Cont.ret1 rfl rfl fun w' s => ?_)
           exact ⟨rfl, s.ext⟩
          ·have H := ifB hc38 H
           refine T.skip (hK11 _ _ ?_)
           refine T.seq fun K14 hK14 => T.region (rM rfl ?_)
           obtain ⟨g39, H⟩ := gdE H
           refine rp (Pu.mulS rfl rfl g39) (rA rfl (RS.nil (hK14 _ _ (cq [(10, _)] ?_))))
           obtain rfl := sj H
           refine T.rt (Cont.ret1 rfl rfl fun w' s => ?_)
           exact ⟨rfl, s.ext⟩
         ·intro z40 H hJ36
          refine RD.split 114 rfl (fun hc35 => ?_) (fun hc35 => ?_)
          ·have H := ifT hc35 H
           refine dn rfl (dn rfl (dn rfl (dn rfl (dn rfl (dn rfl (dp rfl (Pu.pickT rfl rfl) ?_))))))
           obtain rfl := sj H
           exact hJ36 _ ⟨rfl, rfl, trivial⟩
          ·have H := ifB hc35 H
           refine dp rfl (Pu.move rfl) (dp rfl (Pu.move rfl) ?_)
           obtain ⟨g41, H⟩ := gdE H
           refine dp rfl (Pu.indexAr ar124 rfl rfl (by have := g41; omega)) (dq rfl (Qt.ldAr 0 ty3 rfl rfl rfl (by have := g41; omega)) ?_)
           obtain ⟨x42, hx42, H⟩ := bindE H
           refine dq rfl (Qt.callV rfl h2 (fun w s => s.ext) hx42 rfl) (dp rfl (Pu.not rfl) (dp rfl (Pu.pickF rfl rfl) ?_))
           obtain rfl := sj H
           exact hJ36 _ ⟨rfl, rfl, trivial⟩
        ·intro z43 H hJ33
         refine RD.splitP 106 rfl (fun hc32 => ?_) (fun hc32 => ?_)
         ·have H := ifT hc32 H
          refine dn rfl (dn rfl (dn rfl (dn rfl (dn rfl (dn rfl (dp rfl (Pu.pickT rfl rfl) ?_))))))
          obtain rfl := sj H
          exact hJ33 _ ⟨rfl, rfl, rfl, rfl, rfl, trivial⟩
         ·have H := ifF hc32 H
          refine dp rfl (Pu.move rfl) (dp rfl (Pu.move rfl) ?_)
          obtain ⟨g44, H⟩ := gdE H
          refine dp rfl (Pu.indexAr ar124 rfl rfl (by have := g44; omega)) (dq rfl (Qt.ldAr 0 ty3 rfl rfl rfl (by have := g44; omega)) ?_)
          obtain ⟨x45, hx45, H⟩ := bindE H
          refine dq rfl (Qt.callV rfl h2 (fun w s => s.ext) hx45 rfl) (dp rfl (Pu.not rfl) (dp rfl (Pu.pickF rfl rfl) ?_))
          obtain rfl := sj H
          exact hJ33 _ ⟨rfl, rfl, rfl, rfl, rfl, trivial⟩
       ·intro hJ29
        refine RD.splitP 94 rfl (fun hc28 => ?_) (fun hc28 => ?_)
        ·refine dn rfl (dn rfl (dn rfl (dn rfl (dn rfl (dn rfl (dn rfl (dn rfl (dn rfl (dn rfl (dp rfl (Pu.pickT rfl rfl) ?_))))))))))
         exact hJ29 _ ⟨dOrT hc28, rfl, rfl, rfl, rfl, rfl, trivial⟩
        ·refine dp rfl (Pu.move rfl) (dp rfl (Pu.nilCheck rfl) (dp rfl (Pu.fieldAddr fd101_2 rfl) (dq rfl (Qt.ldX ty59 rfl hb0 (fun w s => s.ext) rfl) (dp rfl (Pu.move rfl) (dp rfl (Pu.indexAr ar124 rfl rfl (by have := (g30 hc28); omega)) (dq rfl (Qt.ldAr 0 ty3 rfl rfl rfl (by have := (g30 hc28); omega)) ?_))))))
         obtain ⟨bl46, ol47, rfl⟩ := R_ptr h1 (ne_of_pos (pos_of (g31 hc28)))
         refine dp rfl (Pu.indexSl sl59 rfl rfl (g31 hc28)) (dq rfl (Qt.ld0 (α := Bool) (Rd.base h1) ty4 rfl rfl (g31 hc28) (by rintro _ _ rfl; rfl)) (dp rfl (Pu.not rfl) (dp rfl (Pu.pickF rfl rfl) ?_)))
         exact hJ29 _ ⟨dOrFB hc28, rfl, rfl, rfl, rfl, rfl, trivial⟩
      ·intro hJ25
       refine RD.splitP 82 rfl (fun hc24 => ?_) (fun hc24 => ?_)
       ·refine dn rfl (dn rfl (dn rfl (dn rfl (dn rfl (dn rfl (dn rfl (dn rfl (dn rfl (dn rfl (dp rfl (Pu.pickT rfl rfl) ?_))))))))))
        exact hJ25 _ ⟨dOrT hc24, rfl, rfl, rfl, rfl, rfl, rfl, trivial⟩
       ·refine dp rfl (Pu.move rfl) (dp rfl (Pu.nilCheck rfl) (dp rfl (Pu.fieldAddr fd101_2 rfl) (dq rfl (Qt.ldX ty59 rfl hb0 (fun w s => s.ext) rfl) (dp rfl (Pu.move rfl) (dp rfl (Pu.indexAr ar124 rfl rfl (by have := (g26 hc24); omega)) (dq rfl (Qt.ldAr 0 ty3 rfl rfl rfl (by have := (g26 hc24); omega)) ?_))))))
        obtain ⟨bl48, ol49, rfl⟩ := R_ptr h1 (ne_of_pos (pos_of (g27 hc24)))
        refine dp rfl (Pu.indexSl sl59 rfl rfl (g27 hc24)) (dq rfl (Qt.ld0 (α := Bool) (Rd.base h1) ty4 rfl rfl (g27 hc24) (by rintro _ _ rfl; rfl)) (dp rfl (Pu.not rfl) (dp rfl (Pu.pickF rfl rfl) ?_)))
        exact hJ25 _ ⟨dOrFB hc24, rfl, rfl, rfl, rfl, rfl, rfl, trivial⟩
     ·intro hJ22
      refine RD.splitP 76 rfl (fun hc21 => ?_) (fun hc21 => ?_)
      ·refine dn rfl (dn rfl (dn rfl (dn rfl (dp rfl (Pu.pickT rfl rfl) ?_))))
       exact hJ22 _ ⟨dOrT hc21, rfl, rfl, rfl, rfl, rfl, rfl, trivial⟩
      ·refine dp rfl (Pu.move rfl) (dp rfl (Pu.indexAr ar124 rfl rfl (by have := (g23 hc21); omega)) (dq rfl (Qt.ldAr 0 ty3 rfl rfl rfl (by have := (g23 hc21); omega)) (dp rfl (Pu.bin rfl rfl rfl) (dp rfl (Pu.pickF rfl rfl) ?_))))
       exact hJ22 _ ⟨dOrF hc21, rfl, rfl, rfl, rfl, rfl, rfl, trivial⟩
  ·intro z50 H hJ7
   refine RS.splitP 30 rfl (fun hc6 => ?_) (fun hc6 => ?_)
   ·have H := ifT hc6 H
    refine ro (ro (ro (ro (rp (Pu.pickT rfl rfl) ?_))))
    obtain rfl := sj H
    exact hJ7 _ _ ⟨rfl, rfl, rfl, rfl, rfl, rfl, rfl, trivial⟩ (fun w s => s)
   ·have H := ifF hc6 H
    refine rM rfl (rM rfl ?_)
    obtain ⟨x51, hx51, H⟩ := bindE H
    refine rq (Qt.callV rfl h2 (fun w s => s.ext) hx51 rfl) (rp (Pu.not rfl) (rp (Pu.pickF rfl rfl) ?_))
    obtain rfl := sj H
    exact hJ7 _ _ ⟨rfl, rfl, rfl, rfl, rfl, rfl, rfl, trivial⟩ (fun w s => s)
 ·intro hJ4
  refine RS.splitP 20 rfl (fun hc3 => ?_) (fun hc3 => ?_)
  ·refine ro (ro (ro (ro (ro (ro (ro (ro (rp (Pu.pickT rfl rfl) ?_))))))))
   exact hJ4 _ _ ⟨dOrT hc3, rfl, rfl, rfl, rfl, rfl, rfl, trivial⟩ (fun w s => s)
  ·refine rM rfl (rp (Pu.nilCheck rfl) (rp (Pu.fieldAddr fd101_2 rfl) (rq (Qt.ldX ty59 rfl hb0 (fun w s => s.ext) rfl) (rM rfl ?_))))
   obtain ⟨bl52, ol53, rfl⟩ := R_ptr h1 (ne_of_pos (pos_of (g5 hc3)))
   refine rp (Pu.indexSl sl59 rfl rfl (g5 hc3)) (rq (Qt.ld0 (α := Bool) (Rd.base h1) ty4 rfl rfl (g5 hc3) (by rintro _ _ rfl; rfl)) (rp (Pu.not rfl) (rp (Pu.pickF rfl rfl) ?_)))
   exact hJ4 _ _ ⟨dOrFB hc3, rfl, rfl, rfl, rfl, rfl, rfl, trivial⟩ (fun w s => s)
theorem field_everywhere_walk (a0_x : Int) (w : World) {r : Bool} (H : field_everywhere a0_x = some r) : Calls Tryz.prog 66 #[.int .i64 a0_x] w fun e w' => e = .returned (.bool r) ∧ Ext w w' := by
 unfold field_everywhere at H
 refine T.enter (args := [_]) (S := Sat w []) Tryz.func66 rfl rfl (Sat.start w) ?_
 refine T.seq fun K1 hK1 => T.region (rA rfl (RS.nil (hK1 _ _ ?_)))
 refine T.seq fun K2 hK2 => T.region (rA rfl (RS.nil (hK2 _ _ ?_)))
 obtain rfl := sj H
 refine T.rt (Cont.ret1 rfl rfl fun w' s => ?_)
 exact ⟨rfl, s.ext⟩
theorem field_Net_From_walk (a0_n : Net) (a1_goal : Int) (a2_in : Int → Option Bool) (w : World) {v0 v1 v2 : Value} {p0g : Nat} (hb0 : blk p0g [.int .i64 a0_n.g.w, .int .i64 a0_n.g.h, v0, .int .i64 a0_n.cls, v1] 101 (hpOf w)) (h0 : R (hpOf w) a0_n.g.tiles [v0]) (h1 : R (hpOf w) a0_n.free [v1]) (h2 : FnQ Tryz.prog w v2 (fun (y0 : Int) => [.int .i64 y0]) (fun (r : Bool) => .bool r) a2_in) {r : List Int} (H : field_Net_From a0_n a1_goal a2_in = some r) : Calls Tryz.prog 65 #[.pointer (some ⟨p0g, 0, none⟩), .int .i64 a1_goal, v2] w fun e w' => ∃ q1 : (Option Nat × Nat), e = .returned (rowV q1 r.length) ∧ Sat w [row nilH 3 (rowV q1 r.length) r] w' := by
 have hm0 := R_max h0
 obtain ⟨p0, c0, rfl⟩ := R_form h0
 have hm1 := R_max h1
 obtain ⟨p1, c1, rfl⟩ := R_form h1
 unfold field_Net_From at H
 refine T.enter (args := [_, _, _]) (S := Sat w []) Tryz.func65 rfl rfl (Sat.start w) ?_
 refine T.seq fun K1 hK1 => T.region (rA rfl (RS.nil (hK1 _ _ ?_)))
 refine T.seq fun K2 hK2 => T.region (RS.solid (Sd.litS (cs := [_]) sl23 zr3 rfl rfl rfl rfl rfl) rfl rfl fun b1 => ?_)
 refine RS.weakS (fun w s => s.litRow (α := Int) (n := 1) 0 [(-1)] rfl (by decide) rfl ⟨[_], _, rfl, rfl, rfl⟩) ?_
 refine rM rfl (rp (Pu.nilCheck rfl) (rp (Pu.fieldAddr fd101_0 rfl) (rp (Pu.fieldAddr fd36_2 rfl) (rq (Qt.ldX ty34 rfl hb0 (fun w s => s.ext) rfl) (rp (Pu.lenSl sl34 rfl) ?_)))))
 obtain ⟨x2, hx2, H⟩ := bindE H
 refine RS.solid (Sd.callN (vs := [rowV (some b1, 1) 1, .int .i64 (a0_n.g.tiles.length : Int)]) ent102 rfl (fun w s => slices_Repeat_Int_walk [(-1)] (a0_n.g.tiles.length : Int) w ((Rd.ofRowN 0 rfl) w s) hx2)) rfl rfl fun q3 => rA rfl (RS.nil (hK2 _ _ (cq [(0, _), (1, _), (2, _), (7, _)] ?_)))
 refine T.seq fun K3 hK3 => T.seq fun K4 hK4 => T.region (rM rfl (rp (Pu.nilCheck rfl) (rp (Pu.fieldAddr fd101_2 rfl) (rq (Qt.ldX ty59 rfl hb0 (fun w s => s.ext) rfl) (rM rfl ?_)))))
 obtain ⟨g4, H⟩ := gdE H
 obtain ⟨bl5, ol6, rfl⟩ := R_ptr h1 (ne_of_pos (pos_of g4))
 refine rp (Pu.indexSl sl59 rfl rfl g4) (rq (Qt.ld0 (α := Bool) (Rd.base h1) ty4 rfl rfl g4 (by rintro _ _ rfl; rfl)) (rp (Pu.not rfl) (RS.nil (hK4 _ _ ?_))))
 refine T.cond rfl (fun hc7 => ?_) (fun hc7 => ?_)
 ·have H := ifT hc7 H
  refine cq [(7, _)] ?_
  refine T.seq fun K5 hK5 => T.region (rM rfl (rA rfl (RS.nil (hK5 _ _ ?_))))
  obtain rfl := sj H
  refine T.rt (Cont.ret1 rfl rfl fun w' s => ?_)
  exact ⟨q3, rfl, s.pick [1] (by decide) rfl⟩
 ·have H := ifB hc7 H
  refine T.skip (hK3 _ _ (cq [(0, _), (1, _), (2, _), (7, _)] ?_))
  refine T.seq fun K6 hK6 => T.region (rM rfl (rp (Pu.lenSl sl23 rfl) ?_))
  obtain ⟨g9, H⟩ := gdE H
  refine RS.solid (Sd.make (α := Bool) (B := nilH) false sl59 zr4 rfl (by decide) rfl rfl (by omega) (by omega) (by omega)) rfl rfl fun b8 => rA rfl (RS.nil (hK6 _ _ (cq [(0, _), (1, _), (2, _), (7, _), (8, _)] ?_)))
  refine T.seq fun K7 hK7 => T.region (rM rfl (rM rfl ?_))
  obtain ⟨g10, H⟩ := gdE H
  refine RS.know (p := ∃ g cap, q3 = (some g, cap)) (fun w s => (s.row_some (k := 1) rfl (pos_of g10))) ?_
  rintro ⟨gg11, cc12, rfl⟩
  refine rp (Pu.indexSl sl23 rfl rfl g10) (RS.solid (Sd.st0 (α := Int) 1 0 rfl ty3 rfl rfl rfl g10 rfl rfl (by decide) rfl (by rintro _ _ rfl; rfl)) rfl rfl fun _ => RS.nil (hK7 _ _ (cq [(0, _), (1, _), (2, _), (7, _), (8, _)] ?_)))
  refine T.seq fun K8 hK8 => T.region ?_
  obtain ⟨x13, hx13, H⟩ := bindE H
  obtain ⟨o14, rfl⟩ : ∃ z, z = x13 := ⟨_, rfl⟩
  refine RS.solid (Sd.callN (vs := []) ent88 rfl (fun w s => queue_New_walk  w  hx13)) rfl rfl fun g15 => rA rfl (RS.nil (hK8 _ _ ?_))
  refine T.seq fun K9 hK9 => T.region (rM rfl (rM rfl ?_))
  obtain ⟨z16, hz16, HZz16⟩ := bindE H
  subst hz16
  have H := HZz16
  refine RS.weakS (fun w s => s.optSome (C := Que_ch) 3 rfl) ?_
  obtain ⟨x17, hx17, H⟩ := bindE H
  refine RS.solid (Sd.callF0 3 ent103 rfl rfl (fun w s => queue_Queue_Push_walk g15 z16 0 a1_goal  hx17 w s)) rfl rfl fun _ => RS.nil (hK9 _ _ (cq [(0, _), (2, _), (7, _), (8, _), (9, _)] ?_))
  refine T.seq fun K10 hK10 => T.seq fun K11 hK11 => T.region (rM rfl ?_)
  obtain ⟨x18, hx18, H⟩ := bindE H
  refine RS.solid (Sd.callF0 3 ent93 rfl rfl (fun w s => queue_Queue_Pop_walk g15 x17  hx18 w s)) rfl rfl fun _ => rM rfl (rp (Pu.extract rfl rfl) (rp (Pu.extract rfl rfl) (rp (Pu.extract rfl rfl) (rA rfl (rA rfl (rA rfl (RS.nil (hK11 _ _ (cq [(0, _), (2, _), (7, _), (8, _), (9, _), (10, _), (11, _), (12, _)] ?_)))))))))
  refine T.joinE (σ := Que × List Int) (γ := Unit) H (fun s => s) [(7, _)] ⟨rfl, trivial⟩ (fun (v20, v21) _ => []) (fun (v20, v21) _ => Sat w [row nilH 3 (rowV (some b1, 1) 1) [(-1)], row nilH 3 (rowV (some gg11, cc12) x2.length) v21, dead, Que_ch g15 v20]) ?_ ?_
  ·rintro ⟨v20, v21⟩ ⟨⟩ H
   try dsimp only [Ex.then] at H
   refine Cont.conseq (fr' := [(7, _)]) ?_ ⟨rfl, trivial⟩ (fun _ s => s)
   refine id (hK10 _ _ ?_)
   refine T.seq fun K12 hK12 => T.region (rM rfl (rA rfl (RS.nil (hK12 _ _ ?_))))
   obtain rfl := sj H
   refine T.rt (Cont.ret1 rfl rfl fun w' s => ?_)
   exact ⟨(some gg11, cc12), (by simp only [(s.row_fits (q := (some gg11, cc12)) (m := x2.length) (k := 1) rfl).1]; try rfl), (Sat.relen (q := (some gg11, cc12)) (m := x2.length) 1 s rfl).pick [1] (by decide) rfl⟩
  ·intro z19 hz19 HX19 hJ19
   refine T.block ?_
   refine T.loopA (γ := Unit) hz19 [(0, _), (2, _), (7, _), (8, _), (9, _)] (fun (v22, v23, v24, l25, l26, v27) _ => [(10, .int .i64 v22), (11, .int .i64 v23), (12, .bool v24)]) (fun (v22, v23, v24, l25, l26, v27) _ => Sat w [row nilH 3 (rowV (some b1, 1) 1) [(-1)], row nilH 3 (rowV (some gg11, cc12) x2.length) l25, row nilH 4 (rowV (some b8, (x2.length : Int).toNat) ((x2.length : Int).toNat)) l26, Que_ch g15 v27]) () ⟨rfl, rfl, rfl, rfl, rfl, trivial⟩ ⟨rfl, rfl, rfl, trivial⟩ (fun w s => s) ?_
   rintro ⟨v22, v23, v24, l25, l26, v27⟩ ⟨⟩ y28 H hd19 KL19 hL19
   try dsimp only [Ex.then] at H
   refine cq [(10, _), (11, _), (12, _), (0, _), (2, _), (7, _), (8, _), (9, _)] ?_
   refine T.seq fun K13 hK13 => T.seq fun K14 hK14 => T.region (rM rfl (RS.nil (hK14 _ _ ?_)))
   refine T.cond rfl (fun hc29 => ?_) (fun hc29 => ?_)
   ·have H := ifT hc29 H
    refine T.skip (hK13 _ _ ?_)
    refine T.seq fun K15 hK15 => T.block (T.seq fun K16 hK16 => T.seq fun K17 hK17 => T.region (rM rfl (rM rfl ?_)))
    obtain ⟨g30, H⟩ := gdE H
    refine RS.know (fun w s => (s.row_fits (q := (some b8, (x2.length : Int).toNat)) (m := (x2.length : Int).toNat) (k := 2) rfl)) fun hf31 => ?_
    refine rp (Pu.indexSl sl59 rfl rfl g30) (rq (Qt.ld0 (α := Bool) (Rd.ofRowN 2 rfl) ty4 rfl rfl (idx_of hf31.1 g30) (by rintro _ _ rfl; rfl)) (RS.nil (hK17 _ _ ?_)))
    refine T.cond rfl (fun hc32 => ?_) (fun hc32 => ?_)
    ·have H := ifT hc32 H
     refine T.xt (hK15 _ _ (cq [(0, _), (2, _), (7, _), (8, _), (9, _)] ?_))
     refine T.region (rM rfl ?_)
     obtain ⟨x33, hx33, H⟩ := bindE H
     refine RS.solid (Sd.callF0 3 ent93 rfl rfl (fun w s => queue_Queue_Pop_walk g15 v27  hx33 w s)) rfl rfl fun _ => rM rfl (rp (Pu.extract rfl rfl) (rp (Pu.extract rfl rfl) (rp (Pu.extract rfl rfl) (rA rfl (rA rfl (rA rfl (RS.nil (hL19 _ _ (x33.1, x33.2.1, x33.2.2.1, l25, l26, x33.2.2.2) () H ⟨rfl, rfl, rfl, rfl, rfl, trivial⟩ ⟨rfl, rfl, rfl, trivial⟩ (fun w s => s)))))))))
    ·have H := ifB hc32 H
     refine T.skip (hK16 _ _ (cq [(0, _), (2, _), (7, _), (8, _), (9, _), (10, _), (11, _)] ?_))
     refine T.seq fun K18 hK18 => T.region (rM rfl (rM rfl ?_))
     obtain ⟨g34, H⟩ := gdE H
     refine RS.know (fun w s => (s.row_fits (q := (some b8, (x2.length : Int).toNat)) (m := (x2.length : Int).toNat) (k := 2) rfl)) fun hf35 => ?_
     refine rp (Pu.indexSl sl59 rfl rfl g34) (RS.solid (Sd.st0 (α := Bool) 2 true rfl ty4 rfl rfl rfl (idx_of hf35.1 g34) rfl rfl (by decide) rfl (by rintro _ _ rfl; rfl)) rfl rfl fun _ => RS.nil (hK18 _ _ (cq [(0, _), (2, _), (7, _), (8, _), (9, _), (10, _), (11, _)] ?_)))
     refine T.seq fun K19 hK19 => T.region (rM rfl (rp (Pu.nilCheck rfl) (rp (Pu.fieldAddr fd101_0 rfl) (rq (Qt.ldXA (us := [_, _, _]) ty36 rfl hb0 (fun w s => s.ext) rfl rfl) (rM rfl ?_)))))
     obtain ⟨x36, hx36, H⟩ := bindE H
     refine rq (Qt.call (vs := [.agg #[.int .i64 a0_n.g.w, .int .i64 a0_n.g.h, .slice p0 a0_n.g.tiles.length c0], .int .i64 v23]) ent104 rfl fun w s => ground_Beside_walk a0_n.g v23 w ((Rd.base h0) w s) hx36) (RS.solid (Sd.alloc (cs := nums (List.replicate 8 0)) zr124 rfl) rfl rfl fun b37 => ?_)
     obtain ⟨g38, H⟩ := gdE H
     refine RS.solid (Sd.stB (cs' := nums x36) (us := nums x36) 4 ty124 rfl rfl rfl (by first | rfl | simp [Value.cells]) (by simp [nums, (g38).2]) (by simp [nums, (g38).1]) (by simp [nums, Value.oneCell']) (by rw [List.take_zero, List.nil_append, List.drop_of_length_le (by simp [nums, (g38).1]), List.append_nil])) rfl rfl fun _ => RS.nil (hK19 _ _ (cq [(0, _), (2, _), (7, _), (8, _), (9, _), (10, _), (11, _), (13, _)] ?_))
     refine T.seq fun K20 hK20 => T.region ?_
     obtain ⟨g39, H⟩ := gdE H
     refine rq (Qt.ldBA (us := nums x36) 4 ty124 rfl rfl (by rw [List.drop_zero]; exact List.take_of_length_le (by simp [nums, g39])) (by simp [nums, g39])) (rM rfl (RS.nil (hK20 _ _ ?_)))
     refine T.joinE (σ := Que × List Int) (γ := Unit) H (fun s => s) [(0, _), (2, _), (7, _), (8, _), (9, _)] ⟨rfl, rfl, rfl, rfl, rfl, trivial⟩ (fun (v41, v42) _ => []) (fun (v41, v42) _ => Sat w [row nilH 3 (rowV (some b1, 1) 1) [(-1)], row nilH 3 (rowV (some gg11, cc12) x2.length) v42, row nilH 4 (rowV (some b8, (x2.length : Int).toNat) ((x2.length : Int).toNat)) (si l26 v23 true), Que_ch g15 v41, blk b37 (nums x36) 124]) ?_ ?_
     ·rintro ⟨v41, v42⟩ ⟨⟩ H
      try dsimp only [Ex.then] at H
      refine Cont.conseq (fr' := [(0, _), (2, _), (7, _), (8, _), (9, _)]) ?_ ⟨rfl, rfl, rfl, rfl, rfl, trivial⟩ (fun _ s => s)
      refine id (hK15 _ _ ?_)
      refine T.region (rM rfl ?_)
      obtain ⟨x43, hx43, H⟩ := bindE H
      refine RS.solid (Sd.callF0 3 ent93 rfl rfl (fun w s => queue_Queue_Pop_walk g15 v41  hx43 w s)) rfl rfl fun _ => rM rfl (rp (Pu.extract rfl rfl) (rp (Pu.extract rfl rfl) (rp (Pu.extract rfl rfl) (rA rfl (rA rfl (rA rfl (RS.nil (hL19 _ _ (x43.1, x43.2.1, x43.2.2.1, v42, (si l26 v23 true), x43.2.2.2) () H ⟨rfl, rfl, rfl, rfl, rfl, trivial⟩ ⟨rfl, rfl, rfl, trivial⟩ (fun w s => s.pick [0, 1, 2, 3] (by decide) rfl)))))))))
     ·intro z40 hz40 HX40 hJ40
      refine T.block ?_
      refine T.loopA (γ := Unit) hz40 [(0, _), (2, _), (7, _), (8, _), (9, _), (10, _), (11, _), (13, _), (70, _)] (fun (v44, l45, v46) _ => [(71, .int .i64 v44)]) (fun (v44, l45, v46) _ => Sat w [row nilH 3 (rowV (some b1, 1) 1) [(-1)], row nilH 3 (rowV (some gg11, cc12) x2.length) l45, row nilH 4 (rowV (some b8, (x2.length : Int).toNat) ((x2.length : Int).toNat)) (si l26 v23 true), Que_ch g15 v46, blk b37 (nums x36) 124]) () ⟨rfl, rfl, rfl, rfl, rfl, rfl, rfl, rfl, rfl, trivial⟩ ⟨rfl, trivial⟩ (fun w s => s) ?_
      rintro ⟨v44, l45, v46⟩ ⟨⟩ y47 H hd40 KL40 hL40
      try dsimp only [Ex.then] at H
      refine cq [(71, _), (0, _), (2, _), (7, _), (8, _), (9, _), (10, _), (11, _), (13, _), (70, _)] ?_
      refine T.seq fun K21 hK21 => T.region (rp (Pu.bin rfl rfl rfl) (RS.nil (hK21 _ _ ?_)))
      refine T.seq fun K22 hK22 => ?_
      refine T.condP rfl (fun hc48 => ?_) (fun hc48 => ?_)
      ·have H := ifT hc48 H
       refine T.skip (hK22 _ _ ?_)
       refine T.seq fun K23 hK23 => T.block (T.seq fun K24 hK24 => T.region (rM rfl ?_))
       obtain ⟨g49, H⟩ := gdE H
       refine rp (Pu.indexN (xs := x36) ar124 ty3 rfl rfl g49) (rA rfl (rA rfl (RS.nil (hK24 _ _ (cq [(0, _), (2, _), (7, _), (8, _), (9, _), (10, _), (11, _), (13, _), (14, _), (15, _), (70, _), (71, _)] ?_)))))
       refine T.seq fun K25 hK25 => T.region (rM rfl (rM rfl ?_))
       obtain ⟨g50, H⟩ := gdE H
       refine rq (Qt.ldBA (us := nums x36) 4 ty124 rfl rfl (by rw [List.drop_zero]; exact List.take_of_length_le (by simp [nums, g50])) (by simp [nums, g50])) (rM rfl (rM rfl ?_))
       obtain ⟨x51, hx51, H⟩ := bindE H
       refine rq (Qt.call (vs := [.pointer (some ⟨p0g, 0, none⟩), .int .i64 v23, .agg (nums x36).toArray, .int .i64 v44, v2]) ent105 rfl fun w s => field_Net_Step_walk a0_n v23 x36 v44 a2_in w (blk_ext s.ext hb0) ((Rd.base h0) w s) ((Rd.base h1) w s) (FnQ.ext s.ext h2) hx51) (rA rfl (RS.nil (hK25 _ _ (cq [(0, _), (2, _), (7, _), (8, _), (9, _), (10, _), (11, _), (13, _), (15, _), (16, _), (70, _), (71, _)] ?_))))
       refine T.seq fun K26 hK26 => T.region (rM rfl (rp (Pu.bin rfl rfl rfl) (rM rfl ?_)))
       obtain ⟨g54, H⟩ := gdE H
       refine RS.joinV 6 89 (.bool (decide ((0 < x51) ∧ ((!(gi (si l26 v23 true) (gi x36 v44))) = true)))) [(0, _), (2, _), (7, _), (8, _), (9, _), (10, _), (11, _), (13, _), (15, _), (16, _), (70, _), (71, _)] ⟨rfl, rfl, rfl, rfl, rfl, rfl, rfl, rfl, rfl, rfl, rfl, rfl, trivial⟩ ?_ ?_
       ·refine rM rfl ?_
        obtain ⟨g57, H⟩ := gdE H
        obtain ⟨g58, H⟩ := gdE H
        obtain ⟨g59, H⟩ := gdE H
        refine RS.joinV 16 106 (.bool (decide (((0 < x51) ∧ ((!(gi (si l26 v23 true) (gi x36 v44))) = true)) ∧ (((gi l45 (gi x36 v44)) < 0) ∨ ((v22 + x51) < (gi l45 (gi x36 v44))))))) [(0, _), (2, _), (7, _), (8, _), (9, _), (10, _), (11, _), (13, _), (15, _), (16, _), (70, _), (71, _)] ⟨rfl, rfl, rfl, rfl, rfl, rfl, rfl, rfl, rfl, rfl, rfl, rfl, trivial⟩ ?_ ?_
        ·refine RS.nil (hK26 _ _ ?_)
         refine T.condP rfl (fun hc60 => ?_) (fun hc60 => ?_)
         ·have H := ifT hc60 H
          refine T.seq fun K27 hK27 => T.region (rM rfl (rM rfl (rM rfl (rM rfl ?_))))
          obtain ⟨g61, H⟩ := gdE H
          refine rp (Pu.addS rfl rfl g61) ?_
          obtain ⟨g62, H⟩ := gdE H
          refine RS.know (fun w s => (s.row_fits (q := (some gg11, cc12)) (m := x2.length) (k := 1) rfl)) fun hf63 => ?_
          refine rp (Pu.indexSl sl23 rfl rfl g62) (RS.solid (Sd.st0 (α := Int) 1 (v22 + x51) rfl ty3 rfl rfl rfl (idx_of hf63.1 g62) rfl rfl (by decide) rfl (by rintro _ _ rfl; rfl)) rfl rfl fun _ => RS.nil (hK27 _ _ (cq [(0, _), (2, _), (7, _), (8, _), (9, _), (10, _), (11, _), (13, _), (15, _), (16, _), (70, _), (71, _)] ?_)))
          refine T.region (rM rfl (rM rfl (rM rfl ?_)))
          obtain ⟨g64, H⟩ := gdE H
          refine rp (Pu.addS rfl rfl g64) (rM rfl ?_)
          obtain ⟨x65, hx65, H⟩ := bindE H
          refine RS.solid (Sd.callF0 3 ent103 rfl rfl (fun w s => queue_Queue_Push_walk g15 v46 (v22 + x51) (gi x36 v44)  hx65 w s)) rfl rfl fun _ => RS.nil (hK23 _ _ (cq [(0, _), (2, _), (7, _), (8, _), (9, _), (10, _), (11, _), (13, _), (70, _), (71, _)] ?_))
          refine T.region ?_
          obtain ⟨g66, H⟩ := gdE H
          refine rp (Pu.addS rfl rfl g66) (rM rfl (RS.nil (hL40 _ _ ((v44 + 1), (si l45 (gi x36 v44) (v22 + x51)), x65) () H ⟨rfl, rfl, rfl, rfl, rfl, rfl, rfl, rfl, rfl, trivial⟩ ⟨rfl, trivial⟩ (fun w s => s))))
         ·have H := ifF hc60 H
          refine T.skip (hK23 _ _ (cq [(0, _), (2, _), (7, _), (8, _), (9, _), (10, _), (11, _), (13, _), (70, _), (71, _)] ?_))
          refine T.region ?_
          obtain ⟨g67, H⟩ := gdE H
          refine rp (Pu.addS rfl rfl g67) (rM rfl (RS.nil (hL40 _ _ ((v44 + 1), l45, v46) () H ⟨rfl, rfl, rfl, rfl, rfl, rfl, rfl, rfl, rfl, trivial⟩ ⟨rfl, trivial⟩ (fun w s => s))))
        ·intro hJ56
         refine RS.splitP 90 rfl (fun hc55 => ?_) (fun hc55 => ?_)
         ·refine rM rfl (rM rfl ?_)
          refine RS.know (fun w s => (s.row_fits (q := (some gg11, cc12)) (m := x2.length) (k := 1) rfl)) fun hf68 => ?_
          refine rp (Pu.indexSl sl23 rfl rfl (g57 hc55)) (rq (Qt.ld0 (α := Int) (Rd.ofRowN 1 rfl) ty3 rfl rfl (idx_of hf68.1 (g57 hc55)) (by rintro _ _ rfl; rfl)) (rp (Pu.bin rfl rfl rfl) (rM rfl ?_)))
          refine RS.joinV 9 105 (.bool (decide (((gi l45 (gi x36 v44)) < 0) ∨ ((v22 + x51) < (gi l45 (gi x36 v44)))))) [(0, _), (2, _), (7, _), (8, _), (9, _), (10, _), (11, _), (13, _), (15, _), (16, _), (70, _), (71, _), (89, _), (90, _), (91, _), (92, _), (93, _), (94, _), (95, _)] ⟨rfl, rfl, rfl, rfl, rfl, rfl, rfl, rfl, rfl, rfl, rfl, rfl, rfl, rfl, rfl, rfl, rfl, rfl, rfl, trivial⟩ ?_ ?_
          ·refine rp (Pu.pickT rfl rfl) ?_
           exact hJ56 _ _ ⟨dAndT hc55, rfl, rfl, rfl, rfl, rfl, rfl, rfl, rfl, rfl, rfl, rfl, rfl, trivial⟩ (fun w s => s)
          ·intro hJ70
           refine RS.splitP 96 rfl (fun hc69 => ?_) (fun hc69 => ?_)
           ·refine ro (ro (ro (ro (ro (ro (ro (ro (rp (Pu.pickT rfl rfl) ?_))))))))
            exact hJ70 _ _ ⟨dOrT hc69, rfl, rfl, rfl, rfl, rfl, rfl, rfl, rfl, rfl, rfl, rfl, rfl, rfl, rfl, rfl, rfl, rfl, rfl, rfl, trivial⟩ (fun w s => s)
           ·refine rM rfl (rM rfl (rp (Pu.addS rfl rfl ((g58 hc55) hc69)) (rM rfl (rM rfl ?_))))
            refine RS.know (fun w s => (s.row_fits (q := (some gg11, cc12)) (m := x2.length) (k := 1) rfl)) fun hf71 => ?_
            refine rp (Pu.indexSl sl23 rfl rfl ((g59 hc55) hc69)) (rq (Qt.ld0 (α := Int) (Rd.ofRowN 1 rfl) ty3 rfl rfl (idx_of hf71.1 ((g59 hc55) hc69)) (by rintro _ _ rfl; rfl)) (rp (Pu.bin rfl rfl rfl) (rp (Pu.pickF rfl rfl) ?_)))
            exact hJ70 _ _ ⟨dOrF hc69, rfl, rfl, rfl, rfl, rfl, rfl, rfl, rfl, rfl, rfl, rfl, rfl, rfl, rfl, rfl, rfl, rfl, rfl, rfl, trivial⟩ (fun w s => s)
         ·refine ro (ro (ro (ro (ro (ro (ro (ro (ro (ro (ro (ro (ro (ro ?_)))))))))))))
          refine ro (rp (Pu.pickF rfl rfl) ?_)
          exact hJ56 _ _ ⟨dAndF hc55, rfl, rfl, rfl, rfl, rfl, rfl, rfl, rfl, rfl, rfl, rfl, rfl, trivial⟩ (fun w s => s)
       ·intro hJ53
        refine RS.splitP 83 rfl (fun hc52 => ?_) (fun hc52 => ?_)
        ·refine rM rfl (rM rfl ?_)
         refine RS.know (fun w s => (s.row_fits (q := (some b8, (x2.length : Int).toNat)) (m := (x2.length : Int).toNat) (k := 2) rfl)) fun hf72 => ?_
         refine rp (Pu.indexSl sl59 rfl rfl (g54 hc52)) (rq (Qt.ld0 (α := Bool) (Rd.ofRowN 2 rfl) ty4 rfl rfl (idx_of hf72.1 (g54 hc52)) (by rintro _ _ rfl; rfl)) (rp (Pu.not rfl) (rp (Pu.pickT rfl rfl) ?_)))
         exact hJ53 _ _ ⟨dAndTB hc52, rfl, rfl, rfl, rfl, rfl, rfl, rfl, rfl, rfl, rfl, rfl, rfl, trivial⟩ (fun w s => s)
        ·refine ro (ro (ro (ro (ro (rp (Pu.pickF rfl rfl) ?_)))))
         exact hJ53 _ _ ⟨dAndF hc52, rfl, rfl, rfl, rfl, rfl, rfl, rfl, rfl, rfl, rfl, rfl, rfl, trivial⟩ (fun w s => s)
      ·have H := ifF hc48 H
       obtain rfl := hd40 _ H
       refine T.xt (hJ40 _ _ (v46, l45) () HX40 ⟨rfl, rfl, rfl, rfl, rfl, trivial⟩ trivial (fun w s => s))
   ·have H := ifB hc29 H
    obtain rfl := hd19 _ H
    refine T.xt (hJ19 _ _ (v27, l25) () HX19 ⟨rfl, trivial⟩ trivial (fun w s => (s.deadRow).pick [0, 1, 4, 3] (by decide) rfl))
theorem field_Open_walk (a0_g : Grd) (a1_l : List Bld) (a2_class : Int) (a3_size : Int) (w : World) {v0 v1 : Value} (h0 : R (hpOf w) a0_g.tiles [v0]) (h1 : R (hpOf w) a1_l [v1]) {r : Net} (H : field_Open a0_g a1_l a2_class a3_size = some r) : Calls Tryz.prog 55 #[.agg #[.int .i64 a0_g.w, .int .i64 a0_g.h, v0], v1, .int .i64 a2_class, .int .i64 a3_size] w fun e w' => ∃ g : Nat × (Option Nat × Nat), e = .returned (.pointer (some ⟨g.1, 0, none⟩)) ∧ Sat w [blk g.1 [.int .i64 r.g.w, .int .i64 r.g.h, v0, .int .i64 r.cls, rowV g.2 r.free.length] 101, row nilH 4 (rowV g.2 r.free.length) r.free] w' := by
 have hm0 := R_max h0
 obtain ⟨p0, c0, rfl⟩ := R_form h0
 have hm1 := R_max h1
 obtain ⟨p1, c1, rfl⟩ := R_form h1
 unfold field_Open at H
 refine T.enter (args := [_, _, _, _]) (S := Sat w []) Tryz.func55 rfl rfl (Sat.start w) ?_
 refine T.seq fun K1 hK1 => T.region (RS.solid (Sd.box (cs := [_, _, _]) rfl rfl) rfl rfl fun b1 => rA rfl (RS.nil (hK1 _ _ ?_)))
 refine T.seq fun K2 hK2 => ?_
 refine T.drawn (fun _ => True) [(0, .rd), (1, .pu), (2, .rd), (3, .pu), (4, .pu), (5, .pu), (6, .so), (7, .pu), (8, .so), (9, .pu)] mixed (ClE.sat _ _) (by kernel_rfl) ?_
 refine dq rfl (Qt.ldBA (us := [_, _, _]) 0 ty36 rfl rfl rfl rfl) (dp rfl (Pu.move rfl) (dq rfl (Qt.ldBA (us := [_, _, _]) 0 ty36 rfl rfl rfl rfl) (dp rfl (Pu.move rfl) (dp rfl (Pu.move rfl) (dp rfl (Pu.move rfl) ?_)))))
 obtain ⟨x2, hx2, H⟩ := bindE H
 refine RD.solid rfl (.inl rfl) rfl rfl (Sd.callN (vs := [.agg #[.int .i64 a0_g.w, .int .i64 a0_g.h, .slice p0 a0_g.tiles.length c0], .slice p1 a1_l.length c1, .int .i64 a2_class, .int .i64 a3_size]) ent60 rfl (fun w s => field_Fit_walk a0_g a1_l a2_class a3_size w ((Rd.base h0) w s) ((Rd.base h1) w s) hx2)) (fun _ => ClE.sat _ _) (fun _ _ _ => trivial) (fun _ _ _ s => s.drop1) fun q3 => ?_
 refine dp rfl (Pu.build (cells := [_, _, _, _, _]) st101 rfl rfl) (RD.solid rfl (.inl rfl) rfl rfl (Sd.box (cs := [_, _, _, _, _]) rfl rfl) (fun _ => ClE.sat _ _) (fun _ _ _ => trivial) (fun _ _ _ s => s.drop1) fun b4 => ?_)
 refine dp rfl (Pu.assign rfl) (RD.nil (hK2 _ _ (cq [(8, _)] ?_)))
 obtain rfl := sj H
 refine T.rt (Cont.ret1 rfl rfl fun w' s => ?_)
 exact ⟨⟨b4, q3⟩, rfl, s.pick [2, 1] (by decide) rfl⟩
theorem field_ask_walk (a0_g : Grd) (a1_l : List Bld) (a2_class : Int) (a3_size : Int) (a4_goal : Int) (w : World) {v0 v1 : Value} (h0 : R (hpOf w) a0_g.tiles [v0]) (h1 : R (hpOf w) a1_l [v1]) {r : Int} (H : field_ask a0_g a1_l a2_class a3_size a4_goal = some r) : Calls Tryz.prog 64 #[.agg #[.int .i64 a0_g.w, .int .i64 a0_g.h, v0], v1, .int .i64 a2_class, .int .i64 a3_size, .int .i64 a4_goal] w fun e w' => e = .returned (.int .i64 r) ∧ Ext w w' := by
 have hm0 := R_max h0
 obtain ⟨p0, c0, rfl⟩ := R_form h0
 have hm1 := R_max h1
 obtain ⟨p1, c1, rfl⟩ := R_form h1
 unfold field_ask at H
 refine T.enter (args := [_, _, _, _, _]) (S := Sat w []) Tryz.func64 rfl rfl (Sat.start w) ?_
 refine T.seq fun K1 hK1 => T.region (RS.solid (Sd.box (cs := [_, _, _]) rfl rfl) rfl rfl fun b1 => rA rfl (RS.nil (hK1 _ _ ?_)))
 refine T.seq fun K2 hK2 => T.block (T.seq fun K3 hK3 => T.region (rq (Qt.ldBA (us := [_, _, _]) 0 ty36 rfl rfl rfl rfl) (rM rfl (rM rfl (rM rfl ?_)))))
 obtain ⟨x2, hx2, H⟩ := bindE H
 refine rq (Qt.call (vs := [.agg #[.int .i64 a0_g.w, .int .i64 a0_g.h, .slice p0 a0_g.tiles.length c0], .slice p1 a1_l.length c1, .int .i64 a2_class, .int .i64 a3_size]) ent44 rfl fun w s => field_May_walk a0_g a1_l a2_class a3_size w ((Rd.base h0) w s) ((Rd.base h1) w s) hx2) (rp (Pu.not rfl) (rA rfl (RS.nil (hK3 _ _ ?_))))
 refine T.cond rfl (fun hc3 => ?_) (fun hc3 => ?_)
 ·have H := ifT hc3 H
  refine cq [] ?_
  refine T.seq fun K4 hK4 => T.region (rA rfl (RS.nil (hK4 _ _ ?_)))
  obtain rfl := sj H
  refine T.rt (Cont.ret1 rfl rfl fun w' s => ?_)
  exact ⟨rfl, s.ext⟩
 ·have H := ifB hc3 H
  refine cq [(4, _), (5, _)] ?_
  refine T.seq fun K5 hK5 => T.region (rq (Qt.ldBA (us := [_, _, _]) 0 ty36 rfl rfl rfl rfl) (rM rfl ?_))
  obtain ⟨x4, hx4, H⟩ := bindE H
  refine rq (Qt.call (vs := [.agg #[.int .i64 a0_g.w, .int .i64 a0_g.h, .slice p0 a0_g.tiles.length c0], .int .i64 a4_goal]) ent45 rfl fun w s => ground_Is_walk a0_g a4_goal w ((Rd.base h0) w s) hx4) (rp (Pu.not rfl) (rA rfl (RS.nil (hK5 _ _ ?_))))
  refine T.cond rfl (fun hc5 => ?_) (fun hc5 => ?_)
  ·have H := ifT hc5 H
   refine cq [] ?_
   refine T.seq fun K6 hK6 => T.region (rA rfl (RS.nil (hK6 _ _ ?_)))
   obtain rfl := sj H
   refine T.rt (Cont.ret1 rfl rfl fun w' s => ?_)
   exact ⟨rfl, s.ext⟩
  ·have H := ifB hc5 H
   refine T.skip (hK2 _ _ (cq [] ?_))
   refine T.seq fun K7 hK7 => T.region (rA rfl (RS.nil (hK7 _ _ ?_)))
   obtain rfl := sj H
   refine T.rt (Cont.ret1 rfl rfl fun w' s => ?_)
   exact ⟨rfl, s.ext⟩
theorem field_Make_walk (a0_g : Grd) (a1_l : List Bld) (a2_class : Int) (a3_size : Int) (a4_goal : Int) (w : World) {v0 v1 : Value} (h0 : R (hpOf w) a0_g.tiles [v0]) (h1 : R (hpOf w) a1_l [v1]) {r : List Int × Int} (H : field_Make a0_g a1_l a2_class a3_size a4_goal = some r) : Calls Tryz.prog 34 #[.agg #[.int .i64 a0_g.w, .int .i64 a0_g.h, v0], v1, .int .i64 a2_class, .int .i64 a3_size, .int .i64 a4_goal] w fun e w' => ∃ q1 : (Option Nat × Nat), e = .returned (.tuple #[rowV q1 r.1.length, .int .i64 r.2]) ∧ Sat w [row nilH 3 (rowV q1 r.1.length) r.1] w' := by
 have hm0 := R_max h0
 obtain ⟨p0, c0, rfl⟩ := R_form h0
 have hm1 := R_max h1
 obtain ⟨p1, c1, rfl⟩ := R_form h1
 unfold field_Make at H
 refine T.enter (args := [_, _, _, _, _]) (S := Sat w []) Tryz.func34 rfl rfl (Sat.start w) ?_
 refine T.seq fun K1 hK1 => T.region (RS.solid (Sd.box (cs := [_, _, _]) rfl rfl) rfl rfl fun b1 => rA rfl (rA rfl (RS.nil (hK1 _ _ (cq [(1, _), (2, _), (3, _), (4, _), (5, _)] ?_)))))
 refine T.seq fun K2 hK2 => T.seq fun K3 hK3 => T.region (rq (Qt.ldBA (us := [_, _, _]) 0 ty36 rfl rfl rfl rfl) (rM rfl (rM rfl (rM rfl (rM rfl ?_)))))
 obtain ⟨x2, hx2, H⟩ := bindE H
 refine rq (Qt.call (vs := [.agg #[.int .i64 a0_g.w, .int .i64 a0_g.h, .slice p0 a0_g.tiles.length c0], .slice p1 a1_l.length c1, .int .i64 a2_class, .int .i64 a3_size, .int .i64 a4_goal]) ent64 rfl fun w s => field_ask_walk a0_g a1_l a2_class a3_size a4_goal w ((Rd.base h0) w s) ((Rd.base h1) w s) hx2) (rA rfl (RS.nil (hK3 _ _ (cq [(1, _), (2, _), (3, _), (4, _), (5, _), (12, _)] ?_))))
 refine T.seq fun K4 hK4 => T.region (rM rfl (rp (Pu.bin rfl rfl rfl) (RS.nil (hK4 _ _ ?_))))
 refine T.condP rfl (fun hc3 => ?_) (fun hc3 => ?_)
 ·have H := ifT hc3 H
  refine cq [(12, _)] ?_
  refine T.seq fun K5 hK5 => T.region (rM rfl (rA rfl (rA rfl (RS.nil (hK5 _ _ ?_)))))
  obtain rfl := sj H
  refine T.rt (Cont.ret2 rfl rfl rfl fun w' s => ?_)
  exact ⟨(none, 0), rfl, (s.nilRow (α := Int) 3).pick [1] (by decide) rfl⟩
 ·have H := ifF hc3 H
  refine T.skip (hK2 _ _ (cq [(1, _), (2, _), (3, _), (4, _), (5, _)] ?_))
  refine T.seq fun K6 hK6 => T.region (rq (Qt.ldBA (us := [_, _, _]) 0 ty36 rfl rfl rfl rfl) (rM rfl (rM rfl (rM rfl ?_))))
  obtain ⟨x4, hx4, H⟩ := bindE H
  refine RS.solid (Sd.callN (vs := [.agg #[.int .i64 a0_g.w, .int .i64 a0_g.h, .slice p0 a0_g.tiles.length c0], .slice p1 a1_l.length c1, .int .i64 a2_class, .int .i64 a3_size]) ent55 rfl (fun w s => field_Open_walk a0_g a1_l a2_class a3_size w ((Rd.base h0) w s) ((Rd.base h1) w s) hx4)) rfl rfl fun ⟨g5, q6⟩ => ?_
  refine rM rfl ?_
  obtain ⟨x7, hx7, H⟩ := bindE H
  refine RS.solid (Sd.callN (vs := [.pointer (some ⟨g5, 0, none⟩), .int .i64 a4_goal, .func (.func 66) #[] #[]]) ent65 rfl (fun w s => field_Net_From_walk (⟨(⟨x4.g.w, x4.g.h, a0_g.tiles⟩ : Grd), x4.cls, x4.free⟩ : Net) a4_goal (fun y0 => field_everywhere y0) w (blk_of s (k := 1) rfl) ((Rd.base h0) w s) ((Rd.ofRowN 2 rfl) w s) (⟨66, _, rfl, ent66, fun y0 r w' he hr => field_everywhere_walk y0 w'  hr⟩) hx7)) rfl rfl fun q8 => rA rfl (rA rfl (RS.nil (hK6 _ _ (cq [(10, _), (11, _)] ?_))))
  obtain rfl := sj H
  refine T.rt (Cont.ret2 rfl rfl rfl fun w' s => ?_)
  exact ⟨q8, rfl, s.pick [3] (by decide) rfl⟩
theorem throngref10_Across_walk (a0_w : Int) (w : World) {r : Int} (H : throngref10_Across a0_w = some r) : Calls Tryz.prog 63 #[.int .i64 a0_w] w fun e w' => e = .returned (.int .i64 r) ∧ Ext w w' := by
 unfold throngref10_Across at H
 refine T.enter (args := [_]) (S := Sat w []) Tryz.func63 rfl rfl (Sat.start w) ?_
 refine T.seq fun K1 hK1 => T.region (rA rfl (RS.nil (hK1 _ _ ?_)))
 refine T.seq fun K2 hK2 => T.region (rM rfl ?_)
 obtain ⟨g1, H⟩ := gdE H
 refine rp (Pu.addS rfl rfl g1) ?_
 obtain ⟨g2, H⟩ := gdE H
 refine rp (Pu.subS rfl rfl g2) ?_
 obtain ⟨g3, H⟩ := gdE H
 refine rp (Pu.quoN rfl rfl ⟨g3.1, g3.2, by decide⟩) (rA rfl (RS.nil (hK2 _ _ (cq [(2, _)] ?_))))
 obtain rfl := sj H
 refine T.rt (Cont.ret1 rfl rfl fun w' s => ?_)
 exact ⟨rfl, s.ext⟩
theorem throngref10_Of_walk (a0_w : Int) (a1_t : Int) (w : World) {r : Int} (H : throngref10_Of a0_w a1_t = some r) : Calls Tryz.prog 32 #[.int .i64 a0_w, .int .i64 a1_t] w fun e w' => e = .returned (.int .i64 r) ∧ Ext w w' := by
 unfold throngref10_Of at H
 refine T.enter (args := [_, _]) (S := Sat w []) Tryz.func32 rfl rfl (Sat.start w) ?_
 refine T.seq fun K1 hK1 => T.region (rA rfl (RS.nil (hK1 _ _ ?_)))
 refine T.seq fun K2 hK2 => ?_
 refine T.drawn (fun _ => True) [(0, .pu), (1, .pu), (2, .pu), (3, .pu), (4, .pu), (5, .rd), (6, .pu), (7, .pu), (8, .pu), (9, .pu), (10, .pu), (11, .pu), (12, .pu)] mixed (ClE.sat _ _) (by kernel_rfl) ?_
 refine dp rfl (Pu.move rfl) (dp rfl (Pu.move rfl) ?_)
 obtain ⟨g1, H⟩ := gdE H
 refine dp rfl (Pu.remN rfl rfl (and3 g1)) ?_
 obtain ⟨g2, H⟩ := gdE H
 refine dp rfl (Pu.quoN rfl rfl ⟨g2.1, g2.2, by decide⟩) (dp rfl (Pu.move rfl) ?_)
 obtain ⟨x3, hx3, H⟩ := bindE H
 refine dq rfl (Qt.call (vs := [.int .i64 a0_w]) ent63 rfl fun w s => throngref10_Across_walk a0_w w  hx3) (dp rfl (Pu.move rfl) (dp rfl (Pu.move rfl) ?_))
 obtain ⟨g4, H⟩ := gdE H
 refine dp rfl (Pu.quoN rfl rfl g4) ?_
 obtain ⟨g5, H⟩ := gdE H
 refine dp rfl (Pu.quoN rfl rfl ⟨g5.1, g5.2, by decide⟩) ?_
 obtain ⟨g6, H⟩ := gdE H
 refine dp rfl (Pu.mulS rfl rfl g6) ?_
 obtain ⟨g7, H⟩ := gdE H
 refine dp rfl (Pu.addS rfl rfl g7) (dp rfl (Pu.assign rfl) (RD.nil (hK2 _ _ (cq [(4, _)] ?_))))
 obtain rfl := sj H
 refine T.rt (Cont.ret1 rfl rfl fun w' s => ?_)
 exact ⟨rfl, s.ext⟩
theorem throngref13_May_walk (a0_g : Grd) (a1_l : List Bld) (a2_class : Int) (a3_size : Int) (w : World) {v0 v1 : Value} (h0 : R (hpOf w) a0_g.tiles [v0]) (h1 : R (hpOf w) a1_l [v1]) {r : Bool} (H : throngref13_May a0_g a1_l a2_class a3_size = some r) : Calls Tryz.prog 14 #[.agg #[.int .i64 a0_g.w, .int .i64 a0_g.h, v0], v1, .int .i64 a2_class, .int .i64 a3_size] w fun e w' => e = .returned (.bool r) ∧ Ext w w' := by
 have hm0 := R_max h0
 obtain ⟨p0, c0, rfl⟩ := R_form h0
 have hm1 := R_max h1
 obtain ⟨p1, c1, rfl⟩ := R_form h1
 unfold throngref13_May at H
 refine T.enter (args := [_, _, _, _]) (S := Sat w []) Tryz.func14 rfl rfl (Sat.start w) ?_
 refine T.seq fun K1 hK1 => T.region (RS.solid (Sd.box (cs := [_, _, _]) rfl rfl) rfl rfl fun b1 => rA rfl (RS.nil (hK1 _ _ ?_)))
 refine T.seq fun K2 hK2 => T.region (rq (Qt.ldBA (us := [_, _, _]) 0 ty36 rfl rfl rfl rfl) (rM rfl ?_))
 obtain ⟨x2, hx2, H⟩ := bindE H
 refine rq (Qt.call (vs := [.agg #[.int .i64 a0_g.w, .int .i64 a0_g.h, .slice p0 a0_g.tiles.length c0], .slice p1 a1_l.length c1]) ent36 rfl fun w s => throngref8_May_walk a0_g a1_l w ((Rd.base h0) w s) ((Rd.base h1) w s) hx2) (rM rfl ?_)
 refine RS.joinB H 3 15 (fun b5 => .bool b5) [(3, _), (8, _)] ⟨rfl, rfl, trivial⟩ ?_ ?_
 ·intro b5 H
  refine rM rfl ?_
  refine RS.joinB H 3 19 (fun b8 => .bool b8) [(8, _)] ⟨rfl, trivial⟩ ?_ ?_
  ·intro b8 H
   refine rA rfl (RS.nil (hK2 _ _ ?_))
   obtain rfl := sj H
   refine T.rt (Cont.ret1 rfl rfl fun w' s => ?_)
   exact ⟨rfl, s.ext⟩
  ·intro z9 H hJ7
   refine RS.split 16 rfl (fun hc6 => ?_) (fun hc6 => ?_)
   ·have H := ifT hc6 H
    refine rM rfl ?_
    obtain ⟨x10, hx10, H⟩ := bindE H
    refine rq (Qt.call (vs := [.int .i64 a3_size, .int .i64 3]) ent38 rfl fun w s => throngref0_Num_walk a3_size 3 w  hx10) (rp (Pu.pickT rfl rfl) ?_)
    obtain rfl := sj H
    exact hJ7 _ _ ⟨rfl, rfl, trivial⟩ (fun w s => s)
   ·have H := ifB hc6 H
    refine ro (ro (rp (Pu.pickF rfl rfl) ?_))
    obtain rfl := sj H
    exact hJ7 _ _ ⟨rfl, rfl, trivial⟩ (fun w s => s)
 ·intro z11 H hJ4
  refine RS.split 12 rfl (fun hc3 => ?_) (fun hc3 => ?_)
  ·have H := ifT hc3 H
   refine rM rfl ?_
   obtain ⟨x12, hx12, H⟩ := bindE H
   refine rq (Qt.call (vs := [.int .i64 a2_class]) ent37 rfl fun w s => throngref5_Class_walk a2_class w  hx12) (rp (Pu.pickT rfl rfl) ?_)
   obtain rfl := sj H
   exact hJ4 _ _ ⟨rfl, rfl, rfl, trivial⟩ (fun w s => s)
  ·have H := ifB hc3 H
   refine ro (ro (rp (Pu.pickF rfl rfl) ?_))
   obtain rfl := sj H
   exact hJ4 _ _ ⟨rfl, rfl, rfl, trivial⟩ (fun w s => s)
end Go.Proofs.YthdbofgcckjopaaGreat
