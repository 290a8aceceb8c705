/-
  Walks of what the statements of the fields call.
-/
import Derived.Test.YthdbofgcckjopaaGreatRows
import Derived.Test.YthdbofgcckjopaaGreatW3
import Derived.Test.YthdbofgcckjopaaGreatLI
import Derived.Test.YthdbofgcckjopaaGreatFK
set_option linter.unusedVariables false
set_option linter.unusedSimpArgs false
set_option maxRecDepth 20000
set_option maxHeartbeats 4000000
namespace Go.Proofs.YthdbofgcckjopaaGreat
open Go.Vg
open Enc (R)
theorem ent11 : Ent Tryz.prog 11 := ⟨_, _, Tryz.func11, by kernel_rfl, rfl⟩
theorem ent18 : Ent Tryz.prog 18 := ⟨_, _, Tryz.func18, by kernel_rfl, rfl⟩
theorem ent20 : Ent Tryz.prog 20 := ⟨_, _, Tryz.func20, by kernel_rfl, rfl⟩
theorem ent22 : Ent Tryz.prog 22 := ⟨_, _, Tryz.func22, by kernel_rfl, rfl⟩
theorem ent23 : Ent Tryz.prog 23 := ⟨_, _, Tryz.func23, by kernel_rfl, rfl⟩
theorem ent9 : Ent Tryz.prog 9 := ⟨_, _, Tryz.func9, by kernel_rfl, rfl⟩
theorem fd25_1 : fdOff Tryz.prog 25 1 = some 1 := by kernel_rfl
theorem fd25_2 : fdOff Tryz.prog 25 2 = some 2 := by kernel_rfl
theorem sl22 : slTy Tryz.prog 22 = some (39, 7, 104) := by kernel_rfl
theorem st36 : stTy Tryz.prog 36 = some ([.int .i64 0, .int .i64 0, .slice none 0 0], [(0, 1), (1, 1), (2, 1)]) := by kernel_rfl
theorem ty22 : tySz Tryz.prog 22 = some (1, false) := by kernel_rfl
theorem ty39 : tySz Tryz.prog 39 = some (7, true) := by kernel_rfl
theorem ul27 : Tryz.prog.underlying 27 = some (.pointer 79) := by kernel_rfl
theorem thronglaw18_num_walk (a0_e : Int) (w : World) {r : Int} (H : thronglaw18_num a0_e = some r) : Calls Tryz.prog 11 #[.int .i64 a0_e] w fun e w' => e = .returned (.int .i64 r) ∧ Ext w w' := by
 unfold thronglaw18_num at H
 refine T.enter (args := [_]) (S := Sat w []) Tryz.func11 rfl rfl (Sat.start w) ?_
 refine T.seq fun K1 hK1 => T.region (rA rfl (RS.nil (hK1 _ _ ?_)))
 refine T.seq fun K2 hK2 => T.region (rM rfl (rA rfl (RS.nil (hK2 _ _ ?_))))
 obtain rfl := sj H
 refine T.rt (Cont.ret1 rfl rfl fun w' s => ?_)
 exact ⟨rfl, s.ext⟩
theorem thronglaw18_wakes_walk (w : World) {r : Bool} (H : thronglaw18_wakes = some r) : Calls Tryz.prog 12 #[] w fun e w' => e = .returned (.bool r) ∧ Ext w w' := by
 unfold thronglaw18_wakes at H
 refine T.enter (args := []) (S := Sat w []) Tryz.func12 rfl rfl (Sat.start w) ?_
 refine T.seq fun K1 hK1 => T.region (rA rfl (RS.nil (hK1 _ _ ?_)))
 refine T.seq fun K2 hK2 => T.region ?_
 obtain ⟨x1, hx1, H⟩ := bindE H
 obtain ⟨o2, o3⟩ := x1
 dsimp only at H
 refine RS.solid (Sd.callN (vs := [.int .i64 2]) ent9 rfl (fun w s => fields_New_walk 2 w  hx1)) rfl rfl fun g4 => rM rfl (rp (Pu.extract rfl rfl) (rp (Pu.extract rfl rfl) (rA rfl (rA rfl (RS.nil (hK2 _ _ (cq [(1, _), (2, _)] ?_)))))))
 refine T.seq fun K3 hK3 => T.seq fun K4 hK4 => T.region (rM rfl ?_)
 obtain ⟨x5, hx5, H⟩ := bindE H
 refine rq (Qt.call (vs := [.int .i64 o3]) ent11 rfl fun w s => thronglaw18_num_walk o3 w  hx5) (rp (Pu.bin rfl rfl rfl) (rM rfl ?_))
 refine RS.joinV 3 18 (.bool (decide ((¬ x5 = 0) ∨ (o2.isNone = true)))) [(1, _)] ⟨rfl, trivial⟩ ?_ ?_
 ·refine RS.nil (hK4 _ _ ?_)
  refine T.condP rfl (fun hc8 => ?_) (fun hc8 => ?_)
  ·have H := ifT hc8 H
   refine T.seq fun K5 hK5 => T.region (rA rfl (RS.nil (hK5 _ _ ?_)))
   obtain rfl := sj H
   refine T.rt (Cont.ret1 rfl rfl fun w' s => ?_)
   exact ⟨rfl, s.ext⟩
  ·have H := ifF hc8 H
   obtain ⟨z9, hz9, HZz9⟩ := bindE H
   subst hz9
   have H := HZz9
   refine T.weakS (fun w s => s.optSome (C := Fld_ch) 0 rfl) ?_
   refine T.skip (hK3 _ _ ?_)
   refine T.seq fun K6 hK6 => T.region ?_
   obtain ⟨g11, H⟩ := gdE H
   refine RS.solid (Sd.make (α := UInt8) (B := nilH) (0 : UInt8) sl34 zr5 rfl (by decide) rfl rfl (by omega) (by omega) (by omega)) rfl rfl fun b10 => rp (Pu.build (cells := [_, _, _]) st36 rfl rfl) (RS.solid (Sd.alloc zr36 rfl) rfl rfl fun b12 => RS.solid (Sd.stB (cs' := [_, _, _]) 2 ty36 rfl rfl rfl rfl rfl rfl rfl rfl) rfl rfl fun _ => RS.nil (hK6 _ _ (cq [(1, _), (3, _)] ?_)))
   refine T.seq fun K7 hK7 => T.region (rM rfl (rq (Qt.ldBA (us := [_, _, _]) 2 ty36 rfl rfl rfl rfl) ?_))
   obtain ⟨x13, hx13, H⟩ := bindE H
   refine RS.solid (Sd.callF 0 ent18 rfl rfl (fun w s => fields_Dirs_walk g4 z9 (⟨2, 1, (List.replicate (2 : Int).toNat (0 : UInt8))⟩ : Grd) [] 0 0 1 (Rd.rest 1 rfl (by decide) (Rd.ofRowN 0 rfl)) (Rd.nil (α := Bld)) hx13 w s)) rfl rfl fun q14 => rM rfl (rp (Pu.extract rfl rfl) (rp (Pu.extract rfl rfl) (rA rfl (rA rfl (RS.nil (hK7 _ _ (cq [(1, _), (3, _), (4, _), (5, _)] ?_)))))))
   refine T.seq fun K8 hK8 => T.region (rM rfl (rq (Qt.ldBA (us := [_, _, _]) 2 ty36 rfl rfl rfl rfl) ?_))
   obtain ⟨x15, hx15, H⟩ := bindE H
   refine RS.solid (Sd.callF 0 ent18 rfl rfl (fun w s => fields_Dirs_walk g4 x13.2.2 (⟨2, 1, (List.replicate (2 : Int).toNat (0 : UInt8))⟩ : Grd) [] 0 0 1 (Rd.rest 1 rfl (by decide) (Rd.ofRowN 0 rfl)) (Rd.nil (α := Bld)) hx15 w s)) rfl rfl fun q16 => rM rfl (rp (Pu.extract rfl rfl) (rp (Pu.extract rfl rfl) (rA rfl (rA rfl (RS.nil (hK8 _ _ (cq [(1, _), (4, _), (5, _), (6, _), (7, _)] ?_)))))))
   refine T.seq fun K9 hK9 => T.region (rM rfl ?_)
   obtain ⟨x17, hx17, H⟩ := bindE H
   refine rq (Qt.call (vs := [.int .i64 x13.2.1]) ent11 rfl fun w s => thronglaw18_num_walk x13.2.1 w  hx17) (rp (Pu.bin rfl rfl rfl) (rM rfl ?_))
   refine RS.joinB H 4 40 (fun b20 => .bool b20) [(1, _), (4, _), (6, _)] ⟨rfl, rfl, rfl, trivial⟩ ?_ ?_
   ·intro b20 H
    refine rM rfl ?_
    refine RS.joinB H 4 45 (fun b23 => .bool b23) [(1, _), (4, _), (6, _)] ⟨rfl, rfl, rfl, trivial⟩ ?_ ?_
    ·intro b23 H
     refine rM rfl ?_
     refine RS.joinB H 4 50 (fun b26 => .bool b26) [(1, _)] ⟨rfl, trivial⟩ ?_ ?_
     ·intro b26 H
      refine rM rfl ?_
      refine RS.joinB H 4 55 (fun b29 => .bool b29) [] trivial ?_ ?_
      ·intro b29 H
       refine rA rfl (RS.nil (hK9 _ _ ?_))
       obtain rfl := sj H
       refine T.rt (Cont.ret1 rfl rfl fun w' s => ?_)
       exact ⟨rfl, s.ext⟩
      ·intro z30 H hJ28
       refine RS.split 51 rfl (fun hc27 => ?_) (fun hc27 => ?_)
       ·have H := ifT hc27 H
        refine rM rfl ?_
        obtain ⟨x31, hx31, H⟩ := bindE H
        refine RS.solid (Sd.callF0 0 ent22 rfl rfl (fun w s => fields_Made_walk g4 x15.2.2  hx31 w s)) rfl rfl fun _ => rp (Pu.bin rfl rfl rfl) (rp (Pu.pickT rfl rfl) ?_)
        obtain rfl := sj H
        exact hJ28 _ _ ⟨rfl, trivial⟩ (fun w s => s)
       ·have H := ifB hc27 H
        refine ro (ro (ro (rp (Pu.pickF rfl rfl) ?_)))
        obtain rfl := sj H
        exact hJ28 _ _ ⟨rfl, trivial⟩ (fun w s => s)
     ·intro z32 H hJ25
      refine RS.split 46 rfl (fun hc24 => ?_) (fun hc24 => ?_)
      ·have H := ifT hc24 H
       refine rM rfl (rM rfl ?_)
       obtain ⟨x33, hx33, H⟩ := bindE H
       refine rq (Qt.call (vs := [rowV q14 x13.1.length, rowV q16 x15.1.length]) ent20 rfl fun w s => throngref0_EqNumbers_walk x13.1 x15.1 w ((Rd.ofRowN 3 rfl) w s) ((Rd.ofRowN 4 rfl) w s) hx33) (rp (Pu.pickT rfl rfl) ?_)
       obtain rfl := sj H
       exact hJ25 _ _ ⟨rfl, rfl, trivial⟩ (fun w s => s)
      ·have H := ifB hc24 H
       refine ro (ro (ro (rp (Pu.pickF rfl rfl) ?_)))
       obtain rfl := sj H
       exact hJ25 _ _ ⟨rfl, rfl, trivial⟩ (fun w s => s)
    ·intro z34 H hJ22
     refine RS.split 41 rfl (fun hc21 => ?_) (fun hc21 => ?_)
     ·have H := ifT hc21 H
      refine rM rfl (RS.solid (Sd.litS (cs := [_, _]) sl23 zr3 rfl rfl rfl rfl rfl) rfl rfl fun b35 => ?_)
      refine RS.weakS (fun w s => s.litRow (α := Int) (n := 2) 5 [1, (-1)] rfl (by decide) rfl ⟨[_], _, rfl, rfl, ⟨[_], _, rfl, rfl, rfl⟩⟩) ?_
      obtain ⟨x36, hx36, H⟩ := bindE H
      refine rq (Qt.call (vs := [rowV q14 x13.1.length, rowV (some b35, 2) 2]) ent20 rfl fun w s => throngref0_EqNumbers_walk x13.1 [1, (-1)] w ((Rd.ofRowN 3 rfl) w s) ((Rd.ofRowN 5 rfl) w s) hx36) (rp (Pu.pickT rfl rfl) ?_)
      obtain rfl := sj H
      exact hJ22 _ _ ⟨rfl, rfl, rfl, rfl, trivial⟩ (fun w s => s.pick [0, 1, 2, 3, 4] (by decide) rfl)
     ·have H := ifB hc21 H
      refine ro (ro (ro (rp (Pu.pickF rfl rfl) ?_)))
      obtain rfl := sj H
      exact hJ22 _ _ ⟨rfl, rfl, rfl, rfl, trivial⟩ (fun w s => s)
   ·intro z37 H hJ19
    refine RS.splitP 36 rfl (fun hc18 => ?_) (fun hc18 => ?_)
    ·have H := ifT hc18 H
     refine rM rfl ?_
     obtain ⟨x38, hx38, H⟩ := bindE H
     refine rq (Qt.call (vs := [.int .i64 x15.2.1]) ent11 rfl fun w s => thronglaw18_num_walk x15.2.1 w  hx38) (rp (Pu.bin rfl rfl rfl) (rp (Pu.pickT rfl rfl) ?_))
     obtain rfl := sj H
     exact hJ19 _ _ ⟨rfl, rfl, rfl, rfl, trivial⟩ (fun w s => s)
    ·have H := ifF hc18 H
     refine ro (ro (ro (rp (Pu.pickF rfl rfl) ?_)))
     obtain rfl := sj H
     exact hJ19 _ _ ⟨rfl, rfl, rfl, rfl, trivial⟩ (fun w s => s)
 ·intro hJ7
  refine RS.splitP 15 rfl (fun hc6 => ?_) (fun hc6 => ?_)
  ·refine ro (ro (rp (Pu.pickT rfl rfl) ?_))
   exact hJ7 _ _ ⟨dOrT hc6, rfl, trivial⟩ (fun w s => s)
  ·refine rM rfl (rp (Pu.eqNilO ul27 rfl) (rp (Pu.pickF rfl rfl) ?_))
   exact hJ7 _ _ ⟨dOrFB hc6, rfl, trivial⟩ (fun w s => s)
theorem thronglaw18_heavy_walk (a0_p : Scr18) (w : World) {v0 v1 : Value} (h0 : R (hpOf w) a0_p.l [v0]) (h1 : R (hpOf w) a0_p.order [v1]) {r : Bool} (H : thronglaw18_heavy a0_p = some r) : Calls Tryz.prog 8 #[.agg #[.int .i64 a0_p.room, v0, v1, .int .i64 a0_p.forget]] w fun e w' => e = .returned (.bool r) ∧ Ext w w' := by
 have hm0 := R_max h0
 obtain ⟨p0, c0, rfl⟩ := R_form h0
 have hm1 := R_max h1
 obtain ⟨p1, c1, rfl⟩ := R_form h1
 unfold thronglaw18_heavy at H
 refine T.enter (args := [_]) (S := Sat w []) Tryz.func8 rfl rfl (Sat.start w) ?_
 refine T.seq fun K1 hK1 => T.region (RS.solid (Sd.box (cs := [_, _, _, _]) rfl rfl) rfl rfl fun b1 => rA rfl (RS.nil (hK1 _ _ ?_)))
 refine T.seq fun K2 hK2 => T.seq fun K3 hK3 => T.region (rA rfl (RS.nil (hK3 _ _ ?_)))
 refine T.joinE (σ := Unit) (γ := Unit) H Ex.go [(1, _)] ⟨rfl, trivial⟩ (fun _ _ => []) (fun _ _ => Sat w [blk b1 [.int .i64 a0_p.room, .slice p0 a0_p.l.length c0, .slice p1 a0_p.order.length c1, .int .i64 a0_p.forget] 25]) ?_ ?_
 ·rintro ⟨⟩ ⟨⟩ H
  try dsimp only [Ex.then] at H
  refine Cont.conseq (fr' := [(1, _)]) ?_ ⟨rfl, trivial⟩ (fun _ s => s)
  refine id (hK2 _ _ ?_)
  refine T.seq fun K4 hK4 => T.region (rp (Pu.fieldAddr fd25_2 rfl) (rq (Qt.ldB 0 ty23 rfl rfl rfl) (rp (Pu.lenSl sl23 rfl) (rp (Pu.bin rfl rfl rfl) (rA rfl (RS.nil (hK4 _ _ (cq [(2, _)] ?_))))))))
  obtain rfl := sj H
  refine T.rt (Cont.ret1 rfl rfl fun w' s => ?_)
  exact ⟨rfl, s.ext⟩
 ·intro z2 hz2 HX2 hJ2
  refine T.block ?_
  refine T.loopA (γ := Unit) hz2 [(1, _)] (fun v3 _ => [(3, .int .i64 v3)]) (fun v3 _ => Sat w [blk b1 [.int .i64 a0_p.room, .slice p0 a0_p.l.length c0, .slice p1 a0_p.order.length c1, .int .i64 a0_p.forget] 25]) () ⟨rfl, trivial⟩ ⟨rfl, trivial⟩ (fun w s => s) ?_
  rintro v3 ⟨⟩ y4 H hd2 KL2 hL2
  try dsimp only [Ex.then] at H
  refine cq [(3, _), (1, _)] ?_
  refine T.seq fun K5 hK5 => T.seq fun K6 hK6 => T.region (rM rfl (rp (Pu.fieldAddr fd25_1 rfl) (rq (Qt.ldB 0 ty22 rfl rfl rfl) (rp (Pu.lenSl sl22 rfl) (rp (Pu.bin rfl rfl rfl) (RS.nil (hK6 _ _ ?_)))))))
  refine T.condP rfl (fun hc5 => ?_) (fun hc5 => ?_)
  ·have H := ifT hc5 H
   refine T.skip (hK5 _ _ (cq [(1, _), (3, _)] ?_))
   refine T.seq fun K7 hK7 => T.block (T.seq fun K8 hK8 => T.region (rM rfl (rp (Pu.bin rfl rfl rfl) (rM rfl ?_))))
   refine RS.joinB H 7 20 (fun b8 => .bool b8) [(1, _), (3, _)] ⟨rfl, rfl, trivial⟩ ?_ ?_
   ·intro b8 H
    refine RS.nil (hK8 _ _ ?_)
    refine T.cond rfl (fun hc9 => ?_) (fun hc9 => ?_)
    ·have H := ifT hc9 H
     refine cq [] ?_
     refine T.seq fun K9 hK9 => T.region (rA rfl (RS.nil (hK9 _ _ ?_)))
     obtain rfl := hd2 _ H
     have H := HX2
     obtain rfl := sj H
     refine T.rt (Cont.ret1 rfl rfl fun w' s => ?_)
     exact ⟨rfl, s.ext⟩
    ·have H := ifB hc9 H
     refine T.skip (hK7 _ _ ?_)
     refine T.region (rM rfl ?_)
     obtain ⟨g10, H⟩ := gdE H
     refine rp (Pu.addS rfl rfl g10) (rA rfl (RS.nil (hL2 _ _ (v3 + 1) () H ⟨rfl, trivial⟩ ⟨rfl, trivial⟩ (fun w s => s))))
   ·intro z11 H hJ7
    refine RS.splitP 13 rfl (fun hc6 => ?_) (fun hc6 => ?_)
    ·have H := ifT hc6 H
     refine ro (ro (ro (ro (ro (ro (rp (Pu.pickT rfl rfl) ?_))))))
     obtain rfl := sj H
     exact hJ7 _ _ ⟨rfl, rfl, rfl, trivial⟩ (fun w s => s)
    ·have H := ifF hc6 H
     refine rp (Pu.fieldAddr fd25_1 rfl) (rq (Qt.ldB 0 ty22 rfl rfl rfl) (rM rfl ?_))
     obtain ⟨g12, H⟩ := gdE H
     obtain ⟨bl13, ol14, rfl⟩ := R_ptr h0 (ne_of_pos (pos_of g12))
     refine rp (Pu.indexSl sl22 rfl rfl g12) ?_
     obtain ⟨c15, hc16, ha17⟩ := R_el (α := Ask13) h0 g12
     obtain ⟨u18, u19, u20, rfl, hu18, hu19, hu20⟩ := hc16
     obtain ⟨p21, cc22, rfl⟩ := R_form hu18
     obtain ⟨p23, cc24, rfl⟩ := R_form hu19
     obtain ⟨p25, cc26, rfl⟩ := R_form hu20
     refine rq (Qt.ldZ (cs := [_, _, _, _, _, _, _]) ty39 rfl ha17 Held.base rfl) ?_
     obtain ⟨x27, hx27, H⟩ := bindE H
     refine rq (Qt.call (vs := [.agg #[.int .i64 (((gi a0_p.l v3).g).w), .int .i64 (((gi a0_p.l v3).g).h), .slice p21 (((gi a0_p.l v3).g).tiles).length cc22, .slice p23 ((gi a0_p.l v3).l).length cc24, .int .i64 ((gi a0_p.l v3).cls), .int .i64 ((gi a0_p.l v3).size), .slice p25 ((gi a0_p.l v3).ts).length cc26]]) ent23 rfl fun w s => thronglaw13_Heavy_walk (gi a0_p.l v3) w ((Rd.base hu18) w s) ((Rd.base hu19) w s) ((Rd.base hu20) w s) hx27) (rp (Pu.pickF rfl rfl) ?_)
     obtain rfl := sj H
     exact hJ7 _ _ ⟨rfl, rfl, rfl, trivial⟩ (fun w s => s)
  ·have H := ifF hc5 H
   obtain rfl := hd2 _ H
   refine T.xt (hJ2 _ _ () () HX2 ⟨rfl, trivial⟩ trivial (fun w s => s))
end Go.Proofs.YthdbofgcckjopaaGreat
