/-
  Walks of what the statements of the fields call themselves.
-/
import Derived.Test.YthdbofgcckjopaaGreatRows
import Derived.Test.YthdbofgcckjopaaGreatW3
import Derived.Test.YthdbofgcckjopaaGreatFI
set_option linter.unusedVariables false
set_option linter.unusedSimpArgs false
set_option maxRecDepth 20000
set_option maxHeartbeats 4000000
namespace Go.Proofs.YthdbofgcckjopaaGreat
open Go.Vg
open Enc (R)
theorem thronglaw13_Heavy_walk (a0_p : Ask13) (w : World) {v0 v1 v2 : Value} (h0 : R (hpOf w) a0_p.g.tiles [v0]) (h1 : R (hpOf w) a0_p.l [v1]) (h2 : R (hpOf w) a0_p.ts [v2]) {r : Bool} (H : thronglaw13_Heavy a0_p = some r) : Calls Tryz.prog 23 #[.agg #[.int .i64 a0_p.g.w, .int .i64 a0_p.g.h, v0, v1, .int .i64 a0_p.cls, .int .i64 a0_p.size, v2]] w fun e w' => e = .returned (.bool r) ∧ Ext w w' := by
 have hm0 := R_max h0
 obtain ⟨p0, c0, rfl⟩ := R_form h0
 have hm1 := R_max h1
 obtain ⟨p1, c1, rfl⟩ := R_form h1
 have hm2 := R_max h2
 obtain ⟨p2, c2, rfl⟩ := R_form h2
 unfold thronglaw13_Heavy at H
 refine T.enter (args := [_]) (S := Sat w []) Tryz.func23 rfl rfl (Sat.start w) ?_
 refine T.seq fun K1 hK1 => T.region (RS.solid (Sd.box (cs := [_, _, _, _, _, _, _]) rfl rfl) rfl rfl fun b1 => rA rfl (RS.nil (hK1 _ _ ?_)))
 refine T.seq fun K2 hK2 => T.region (rp (Pu.fieldAddr fd39_0 rfl) (rq (Qt.ldBA (us := [_, _, _]) 0 ty36 rfl rfl rfl rfl) (rp (Pu.fieldAddr fd39_1 rfl) (rq (Qt.ldB 0 ty37 rfl rfl rfl) ?_))))
 obtain ⟨x2, hx2, H⟩ := bindE H
 refine rq (Qt.call (vs := [.agg #[.int .i64 a0_p.g.w, .int .i64 a0_p.g.h, .slice p0 a0_p.g.tiles.length c0], .slice p1 a0_p.l.length c1]) ent50 rfl fun w s => thronglaw0_Great_walk a0_p.g a0_p.l w ((Rd.base h0) w s) ((Rd.base h1) w s) hx2) (rM rfl ?_)
 refine RS.joinV 5 13 (.bool (decide ((x2 = true) ∨ (30 < (a0_p.ts.length : Int))))) [(2, _)] ⟨rfl, trivial⟩ ?_ ?_
 ·refine rA rfl (RS.nil (hK2 _ _ ?_))
  obtain rfl := sj H
  refine T.rt (Cont.ret1 rfl rfl fun w' s => ?_)
  exact ⟨rfl, s.ext⟩
 ·intro hJ4
  refine RS.split 8 rfl (fun hc3 => ?_) (fun hc3 => ?_)
  ·refine ro (ro (ro (ro (rp (Pu.pickT rfl rfl) ?_))))
   exact hJ4 _ _ ⟨dOrT hc3, rfl, trivial⟩ (fun w s => s)
  ·refine rp (Pu.fieldAddr fd39_4 rfl) (rq (Qt.ldB 0 ty23 rfl rfl rfl) (rp (Pu.lenSl sl23 rfl) (rp (Pu.bin rfl rfl rfl) (rp (Pu.pickF rfl rfl) ?_))))
   exact hJ4 _ _ ⟨dOrF (bne_of hc3), rfl, trivial⟩ (fun w s => s)
theorem sector_across_walk (a0_n : Int) (w : World) {r : Int} (H : sector_across a0_n = some r) : Calls Tryz.prog 120 #[.int .i64 a0_n] w fun e w' => e = .returned (.int .i64 r) ∧ Ext w w' := by
 unfold sector_across at H
 refine T.enter (args := [_]) (S := Sat w []) Tryz.func120 rfl rfl (Sat.start w) ?_
 refine T.seq fun K1 hK1 => T.region (rA rfl (RS.nil (hK1 _ _ ?_)))
 refine T.seq fun K2 hK2 => T.region (rM rfl ?_)
 obtain ⟨g1, H⟩ := gdE H
 refine rp (Pu.addS rfl rfl g1) ?_
 obtain ⟨g2, H⟩ := gdE H
 refine rp (Pu.subS rfl rfl g2) ?_
 obtain ⟨g3, H⟩ := gdE H
 refine rp (Pu.quoN rfl rfl ⟨g3.1, g3.2, by decide⟩) (rA rfl (RS.nil (hK2 _ _ (cq [(2, _)] ?_))))
 obtain rfl := sj H
 refine T.rt (Cont.ret1 rfl rfl fun w' s => ?_)
 exact ⟨rfl, s.ext⟩
theorem sector_May_walk (a0_w : Int) (a1_h : Int) (w : World) {r : Bool} (H : sector_May a0_w a1_h = some r) : Calls Tryz.prog 61 #[.int .i64 a0_w, .int .i64 a1_h] w fun e w' => e = .returned (.bool r) ∧ Ext w w' := by
 unfold sector_May at H
 refine T.enter (args := [_, _]) (S := Sat w []) Tryz.func61 rfl rfl (Sat.start w) ?_
 refine T.seq fun K1 hK1 => T.region (rA rfl (RS.nil (hK1 _ _ ?_)))
 refine T.seq fun K2 hK2 => T.region (rM rfl ?_)
 obtain ⟨x1, hx1, H⟩ := bindE H
 refine rq (Qt.call (vs := [.int .i64 a0_w]) ent96 rfl fun w s => ground_Side_walk a0_w w  hx1) (rM rfl ?_)
 refine RS.joinB H 3 10 (fun b4 => .bool b4) [(4, _)] ⟨rfl, trivial⟩ ?_ ?_
 ·intro b4 H
  refine rA rfl (RS.nil (hK2 _ _ ?_))
  obtain rfl := sj H
  refine T.rt (Cont.ret1 rfl rfl fun w' s => ?_)
  exact ⟨rfl, s.ext⟩
 ·intro z5 H hJ3
  refine RS.split 7 rfl (fun hc2 => ?_) (fun hc2 => ?_)
  ·have H := ifT hc2 H
   refine rM rfl ?_
   obtain ⟨x6, hx6, H⟩ := bindE H
   refine rq (Qt.call (vs := [.int .i64 a1_h]) ent96 rfl fun w s => ground_Side_walk a1_h w  hx6) (rp (Pu.pickT rfl rfl) ?_)
   obtain rfl := sj H
   exact hJ3 _ _ ⟨rfl, rfl, trivial⟩ (fun w s => s)
  ·have H := ifB hc2 H
   refine ro (ro (rp (Pu.pickF rfl rfl) ?_))
   obtain rfl := sj H
   exact hJ3 _ _ ⟨rfl, rfl, trivial⟩ (fun w s => s)
end Go.Proofs.YthdbofgcckjopaaGreat
