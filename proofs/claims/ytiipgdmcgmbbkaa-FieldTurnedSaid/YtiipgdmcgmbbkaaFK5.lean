/-
  Walk of FieldTurned.
-/
import Derived.Test.YtiipgdmcgmbbkaaRows
import Derived.Test.YtiipgdmcgmbbkaaFK
import Derived.Test.YtiipgdmcgmbbkaaFG5
import Derived.Test.YtiipgdmcgmbbkaaVX
set_option linter.unusedVariables false
set_option linter.unusedSimpArgs false
set_option maxRecDepth 20000
set_option maxHeartbeats 4000000
namespace Go.Proofs.Ytiipgdmcgmbbkaa
open Go.Vg
open Enc (R)
theorem ent4 : Ent Try.prog 4 := ⟨_, _, Try.func4, by kernel_rfl, rfl⟩
theorem ent5 : Ent Try.prog 5 := ⟨_, _, Try.func5, by kernel_rfl, rfl⟩
theorem ent6 : Ent Try.prog 6 := ⟨_, _, Try.func6, by kernel_rfl, rfl⟩
theorem ent9 : Ent Try.prog 9 := ⟨_, _, Try.func9, by kernel_rfl, rfl⟩
theorem sl31 : slTy Try.prog 31 = some (26, 1, 24) := by kernel_rfl
theorem ty28 : tySz Try.prog 28 = some (7, true) := by kernel_rfl
theorem zr26 : zeroOf Try.prog 26 = some (.slice none 0 0) := by kernel_rfl
instance : Deep (List Int) where
 D h x c := ∃ q0 : Option Nat × Nat, c = [rowV q0 x.length] ∧ stars [row nilH 3 (rowV q0 x.length) x] h
 toR := fun ⟨q0, e, ⟨_, _, a0, _, _, l0, k0⟩⟩ => by rw [e]; exact Enc.mono l0 (row_R a0)
 mono := fun hl ⟨q0, e, s⟩ => ⟨_, e, stars_mono hl s⟩
theorem thronglaw13_FieldTurned_walk (a0_p : Ask13) (w : World) {v0 v1 v2 : Value} (h0 : R (hpOf w) a0_p.g.tiles [v0]) (h1 : R (hpOf w) a0_p.l [v1]) (h2 : R (hpOf w) a0_p.ts [v2]) {r : Bool} (H : thronglaw13_FieldTurned a0_p = some r) : Calls Try.prog 3 #[.agg #[.int .i64 a0_p.g.w, .int .i64 a0_p.g.h, v0, v1, .int .i64 a0_p.cls, .int .i64 a0_p.size, v2]] w fun e w' => e = .returned (.bool r) ∧ Ext w w' := by
 have hm0 := R_max h0
 obtain ⟨p0, c0, rfl⟩ := R_form h0
 have hm1 := R_max h1
 obtain ⟨p1, c1, rfl⟩ := R_form h1
 have hm2 := R_max h2
 obtain ⟨p2, c2, rfl⟩ := R_form h2
 unfold thronglaw13_FieldTurned at H
 refine T.enter (args := [_]) (S := Sat w []) Try.func3 rfl rfl (Sat.start w) ?_
 refine T.seq fun K1 hK1 => ?_
 refine T.region ?_
 refine RS.solid (Sd.box (cs := [_, _, _, _, _, _, _]) rfl rfl) rfl rfl fun b1 => ?_
 refine RS.p (Pu.assign rfl) rfl rfl ?_
 refine RS.nil (hK1 _ _ ?_)
 refine T.seq fun K2 hK2 => ?_
 refine T.seq fun K3 hK3 => ?_
 refine T.region ?_
 refine RS.q (Qt.ldBA (us := [_, _, _, _, _, _, _]) 0 ty28 rfl rfl rfl rfl) rfl rfl ?_
 obtain ⟨x2, hx2, H⟩ := bindE H
 refine RS.q (Qt.call (vs := [.agg #[.int .i64 a0_p.g.w, .int .i64 a0_p.g.h, .slice p0 a0_p.g.tiles.length c0, .slice p1 a0_p.l.length c1, .int .i64 a0_p.cls, .int .i64 a0_p.size, .slice p2 a0_p.ts.length c2]]) ent4 rfl fun w s => thronglaw13_Heavy_walk a0_p w ((Rd.base h0) w s) ((Rd.base h1) w s) ((Rd.base h2) w s) hx2) rfl rfl ?_
 refine RS.p (Pu.move rfl) rfl rfl ?_
 refine RS.joinB H 4 20 (fun b5 => .bool b5) [(1, _)] ⟨rfl, trivial⟩ ?_ ?_
 ·intro b5 H
  refine RS.nil (hK3 _ _ ?_)
  refine T.cond rfl (fun hc6 => ?_) (fun hc6 => ?_)
  ·have H := ifT hc6 H
   refine T.seq fun K4 hK4 => ?_
   refine T.region ?_
   refine RS.p (Pu.assign rfl) rfl rfl ?_
   refine RS.nil (hK4 _ _ ?_)
   obtain rfl := Option.some.inj H
   refine T.retTo (by with_reducible ((repeat (first | apply RetTo.seq | apply RetTo.blk)); exact RetTo.refl _)) (Cont.ret1 rfl rfl fun w' s => ?_)
   exact ⟨rfl, s.ext⟩
  ·have H := ifB hc6 H
   refine T.skip (hK2 _ _ ?_)
   refine T.seq fun K5 hK5 => ?_
   refine T.region ?_
   refine RS.p (Pu.assign rfl) rfl rfl ?_
   refine RS.nil (hK5 _ _ ?_)
   refine T.seq fun K6 hK6 => ?_
   refine T.region ?_
   refine RS.p (Pu.assign rfl) rfl rfl ?_
   refine RS.nil (hK6 _ _ ?_)
   refine T.seq fun K7 hK7 => ?_
   refine T.seq fun K8 hK8 => ?_
   refine T.region ?_
   refine RS.p (Pu.assign rfl) rfl rfl ?_
   refine RS.nil (hK8 _ _ ?_)
   refine T.joinE (σ := List (List Int) × List Int) (γ := (Option Nat × Nat) × (Option Nat × Nat)) H Ex.go [] trivial (fun (v8, v10) (q9, q11) => [(3, rowV q9 v8.length), (4, rowV q11 v10.length)]) (fun (v8, v10) (q9, q11) => Sat w [blk b1 [.int .i64 a0_p.g.w, .int .i64 a0_p.g.h, .slice p0 a0_p.g.tiles.length c0, .slice p1 a0_p.l.length c1, .int .i64 a0_p.cls, .int .i64 a0_p.size, .slice p2 a0_p.ts.length c2] 28, drow 26 (rowV q9 v8.length) v8, row nilH 3 (rowV q11 v10.length) v10]) ?_ ?_
   ·rintro ⟨v8, v10⟩ ⟨q9, q11⟩ H
    try dsimp only [Ex.then] at H
    refine Cont.conseq (fr' := [(3, _), (4, _)]) ?_ ⟨rfl, rfl, trivial⟩ (fun _ s => s)
    refine id (hK7 _ _ ?_)
    refine T.seq fun K9 hK9 => ?_
    refine T.seq fun K10 hK10 => ?_
    refine T.region ?_
    refine RS.p (Pu.assign rfl) rfl rfl ?_
    refine RS.nil (hK10 _ _ ?_)
    refine T.joinE (σ := Unit) (γ := Unit) H Ex.go [] trivial (fun _ _ => []) (fun _ _ => Sat w [blk b1 [.int .i64 a0_p.g.w, .int .i64 a0_p.g.h, .slice p0 a0_p.g.tiles.length c0, .slice p1 a0_p.l.length c1, .int .i64 a0_p.cls, .int .i64 a0_p.size, .slice p2 a0_p.ts.length c2] 28, drow 26 (rowV q9 v8.length) v8, row nilH 3 (rowV q11 v10.length) v10]) ?_ ?_
    ·rintro ⟨⟩ ⟨⟩ H
     try dsimp only [Ex.then] at H
     refine Cont.conseq (fr' := []) ?_ trivial (fun _ s => s)
     refine id (hK9 _ _ ?_)
     refine T.seq fun K11 hK11 => ?_
     refine T.region ?_
     obtain ⟨x13, hx13, H⟩ := bindE H
     refine RS.q (Qt.call (vs := []) ent9 rfl fun w s => thronglaw13_wakes_walk  w  hx13) rfl rfl ?_
     refine RS.p (Pu.assign rfl) rfl rfl ?_
     refine RS.nil (hK11 _ _ ?_)
     obtain rfl := Option.some.inj H
     refine T.retTo (by with_reducible ((repeat (first | apply RetTo.seq | apply RetTo.blk)); exact RetTo.refl _)) (Cont.ret1 rfl rfl fun w' s => ?_)
     exact ⟨rfl, s.ext⟩
    ·intro z12 hz12 HX12 hJ12
     refine T.block ?_
     refine T.loopA (γ := Unit) hz12 [(3, _), (4, _)] (fun v14 _ => [(8, .int .i64 v14)]) (fun v14 _ => Sat w [blk b1 [.int .i64 a0_p.g.w, .int .i64 a0_p.g.h, .slice p0 a0_p.g.tiles.length c0, .slice p1 a0_p.l.length c1, .int .i64 a0_p.cls, .int .i64 a0_p.size, .slice p2 a0_p.ts.length c2] 28, drow 26 (rowV q9 v8.length) v8, row nilH 3 (rowV q11 v10.length) v10]) () ⟨rfl, rfl, trivial⟩ ⟨rfl, trivial⟩ (fun w s => s) ?_
     rintro v14 ⟨⟩ y15 H hd12 KL12 hL12
     try dsimp only [Ex.then] at H
     refine T.conseq (fr' := [(8, _), (3, _), (4, _)]) ?_ ⟨rfl, rfl, rfl, trivial⟩ (fun _ s => s)
     refine T.seq fun K12 hK12 => ?_
     refine T.seq fun K13 hK13 => ?_
     refine T.region ?_
     refine RS.p (Pu.move rfl) rfl rfl ?_
     refine RS.p (Pu.move rfl) rfl rfl ?_
     refine RS.p (Pu.lenSl sl26 rfl) rfl rfl ?_
     refine RS.p (Pu.bin rfl rfl rfl) rfl rfl ?_
     refine RS.nil (hK13 _ _ ?_)
     refine T.condP rfl (fun hc16 => ?_) (fun hc16 => ?_)
     ·have H := ifT hc16 H
      refine T.skip (hK12 _ _ (T.conseq (fr' := [(3, _), (4, _), (8, _)]) ?_ ⟨rfl, rfl, rfl, trivial⟩ (fun _ s => s)))
      refine T.seq fun K14 hK14 => ?_
      refine T.block ?_
      refine T.seq fun K15 hK15 => ?_
      refine T.seq fun K16 hK16 => ?_
      refine T.exP (fun w s => s.freeze 1 rfl) fun hh17 hz18 => ?_
      refine T.drawn (fun _ => True) [(0, .pu), (1, .pu), (2, .pu), (3, .rd), (4, .pu), (5, .pu), (6, .pu), (7, .rd), (8, .pu), (9, .rd), (10, .pu)] mixed (ClE.sat _ _) (by kernel_rfl) ?_
      refine RD.p (fun _ _ => trivial) rfl (Pu.move rfl) rfl rfl ?_
      refine RD.p (fun _ _ => trivial) rfl (Pu.move rfl) rfl rfl ?_
      obtain ⟨g19, H⟩ := gdE H
      refine RD.know (p := ∃ g cap, q9 = (some g, cap)) (fun w s => (row_some' (e := 26) (drow_R hz18) (pos_of g19))) ?_
      rintro ⟨gg20, cc21, rfl⟩
      refine RD.p (fun _ _ => trivial) rfl (Pu.indexSl sl31 rfl rfl g19) rfl rfl ?_
      obtain ⟨c22, hc23, ha24⟩ := R_el (α := (List Int)) (drow_R hz18) g19
      obtain ⟨u25, rfl, hu25⟩ := R_one hc23
      obtain ⟨p26, cc27, rfl⟩ := R_form hu25
      refine RD.q (fun _ _ => trivial) rfl (Qt.ldZ0 ty26 rfl ha24 (Held.fz 1 rfl) rfl) rfl rfl ?_
      refine RD.p (fun _ _ => trivial) rfl (Pu.move rfl) rfl rfl ?_
      refine RD.p (fun _ _ => trivial) rfl (Pu.move rfl) rfl rfl ?_
      obtain ⟨g28, H⟩ := gdE H
      refine RD.know (p := ∃ g cap, q11 = (some g, cap)) (fun w s => (s.row_some (k := 2) rfl (pos_of g28))) ?_
      rintro ⟨gg29, cc30, rfl⟩
      refine RD.p (fun _ _ => trivial) rfl (Pu.indexSl sl26 rfl rfl g28) rfl rfl ?_
      refine RD.q (fun _ _ => trivial) rfl (Qt.ld0 (α := Int) (Rd.ofRowN 2 rfl) ty3 rfl rfl g28 (by rintro _ _ rfl; rfl)) rfl rfl ?_
      obtain ⟨g31, H⟩ := gdE H
      obtain ⟨bl32, ol33, rfl⟩ := R_ptr hu25 (ne_of_pos (pos_of g31))
      refine RD.p (fun _ _ => trivial) rfl (Pu.indexSl sl26 rfl rfl g31) rfl rfl ?_
      refine RD.q (fun _ _ => trivial) rfl (Qt.ld0 (α := Int) (Rd.ofFz 1 rfl hu25) ty3 rfl rfl g31 (by rintro _ _ rfl; rfl)) rfl rfl ?_
      refine RD.p (fun _ _ => trivial) rfl (Pu.bin rfl rfl rfl) rfl rfl ?_
      refine RD.nil (hK16 _ _ ?_)
      refine T.condP rfl (fun hc34 => ?_) (fun hc34 => ?_)
      ·have H := ifT hc34 H
       refine T.conseq (fr' := []) ?_ trivial (fun _ s => s)
       refine T.seq fun K17 hK17 => ?_
       refine T.region ?_
       refine RS.p (Pu.assign rfl) rfl rfl ?_
       refine RS.nil (hK17 _ _ ?_)
       obtain rfl := hd12 _ H
       have H := HX12
       obtain rfl := Option.some.inj H
       refine T.retTo (by with_reducible ((repeat (first | apply RetTo.seq | apply RetTo.blk)); exact RetTo.refl _)) (Cont.ret1 rfl rfl fun w' s => ?_)
       exact ⟨rfl, s.ext⟩
      ·have H := ifF hc34 H
       refine T.skip (hK15 _ _ (T.conseq (fr' := [(3, _), (4, _), (8, _)]) ?_ ⟨rfl, rfl, rfl, trivial⟩ (fun _ s => s)))
       refine T.seq fun K18 hK18 => ?_
       refine T.region ?_
       refine RS.p (Pu.assign rfl) rfl rfl ?_
       refine RS.nil (hK18 _ _ ?_)
       refine T.joinE (σ := Unit) (γ := Unit) H Ex.go [(3, _), (4, _), (8, _)] ⟨rfl, rfl, rfl, trivial⟩ (fun _ _ => []) (fun _ _ => Sat w [blk b1 [.int .i64 a0_p.g.w, .int .i64 a0_p.g.h, .slice p0 a0_p.g.tiles.length c0, .slice p1 a0_p.l.length c1, .int .i64 a0_p.cls, .int .i64 a0_p.size, .slice p2 a0_p.ts.length c2] 28, fz hh17, row nilH 3 (rowV (some gg29, cc30) v10.length) v10]) ?_ ?_
       ·rintro ⟨⟩ ⟨⟩ H
        try dsimp only [Ex.then] at H
        refine Cont.conseq (fr' := [(3, _), (4, _), (8, _)]) ?_ ⟨rfl, rfl, rfl, trivial⟩ (fun _ s => s)
        refine id (hK14 _ _ ?_)
        refine T.region ?_
        refine RS.p (Pu.move rfl) rfl rfl ?_
        obtain ⟨g36, H⟩ := gdE H
        refine RS.p (Pu.addS rfl rfl g36) rfl rfl ?_
        refine RS.p (Pu.assign rfl) rfl rfl ?_
        refine RS.nil (hL12 _ _ (v14 + 1) () H ⟨rfl, rfl, trivial⟩ ⟨rfl, trivial⟩ (fun w s => (Sat.thaw hz18 1 rfl s).pick [0, 1, 2] (by decide) rfl))
       ·intro z35 hz35 HX35 hJ35
        refine T.block ?_
        refine T.loopA (γ := Unit) hz35 [(3, _), (4, _), (8, _)] (fun v37 _ => [(9, .int .i64 v37)]) (fun v37 _ => Sat w [blk b1 [.int .i64 a0_p.g.w, .int .i64 a0_p.g.h, .slice p0 a0_p.g.tiles.length c0, .slice p1 a0_p.l.length c1, .int .i64 a0_p.cls, .int .i64 a0_p.size, .slice p2 a0_p.ts.length c2] 28, fz hh17, row nilH 3 (rowV (some gg29, cc30) v10.length) v10]) () ⟨rfl, rfl, rfl, trivial⟩ ⟨rfl, trivial⟩ (fun w s => s) ?_
        rintro v37 ⟨⟩ y38 H hd35 KL35 hL35
        try dsimp only [Ex.then] at H
        refine T.conseq (fr' := [(9, _), (3, _), (4, _), (8, _)]) ?_ ⟨rfl, rfl, rfl, rfl, trivial⟩ (fun _ s => s)
        refine T.seq fun K19 hK19 => ?_
        refine T.seq fun K20 hK20 => ?_
        refine T.region ?_
        refine RS.p (Pu.move rfl) rfl rfl ?_
        refine RS.p (Pu.move rfl) rfl rfl ?_
        refine RS.p (Pu.lenSl sl26 rfl) rfl rfl ?_
        refine RS.p (Pu.bin rfl rfl rfl) rfl rfl ?_
        refine RS.nil (hK20 _ _ ?_)
        refine T.condP rfl (fun hc39 => ?_) (fun hc39 => ?_)
        ·have H := ifT hc39 H
         refine T.skip (hK19 _ _ (T.conseq (fr' := [(3, _), (4, _), (8, _), (9, _)]) ?_ ⟨rfl, rfl, rfl, rfl, trivial⟩ (fun _ s => s)))
         refine T.seq fun K21 hK21 => ?_
         refine T.block ?_
         refine T.seq fun K22 hK22 => ?_
         refine T.seq fun K23 hK23 => ?_
         refine T.drawn (fun _ => True) [(0, .pu), (1, .pu), (2, .pu), (3, .rd), (4, .pu), (5, .pu), (6, .pu), (7, .rd), (8, .pu), (9, .rd), (10, .pu), (11, .pu), (12, .pu), (13, .rd), (14, .pu), (15, .pu), (16, .pu), (17, .rd), (18, .pu), (19, .rd), (20, .pu)] mixed (ClE.sat _ _) (by kernel_rfl) ?_
         refine RD.p (fun _ _ => trivial) rfl (Pu.move rfl) rfl rfl ?_
         refine RD.p (fun _ _ => trivial) rfl (Pu.move rfl) rfl rfl ?_
         obtain ⟨g40, H⟩ := gdE H
         refine RD.p (fun _ _ => trivial) rfl (Pu.indexSl sl31 rfl rfl g40) rfl rfl ?_
         obtain ⟨c41, hc42, ha43⟩ := R_el (α := (List Int)) (drow_R hz18) g40
         obtain ⟨u44, rfl, hu44⟩ := R_one hc42
         obtain ⟨p45, cc46, rfl⟩ := R_form hu44
         refine RD.q (fun _ _ => trivial) rfl (Qt.ldZ0 ty26 rfl ha43 (Held.fz 1 rfl) rfl) rfl rfl ?_
         refine RD.p (fun _ _ => trivial) rfl (Pu.move rfl) rfl rfl ?_
         refine RD.p (fun _ _ => trivial) rfl (Pu.move rfl) rfl rfl ?_
         obtain ⟨g47, H⟩ := gdE H
         refine RD.p (fun _ _ => trivial) rfl (Pu.indexSl sl26 rfl rfl g47) rfl rfl ?_
         refine RD.q (fun _ _ => trivial) rfl (Qt.ld0 (α := Int) (Rd.ofRowN 2 rfl) ty3 rfl rfl g47 (by rintro _ _ rfl; rfl)) rfl rfl ?_
         obtain ⟨g48, H⟩ := gdE H
         obtain ⟨bl49, ol50, rfl⟩ := R_ptr hu44 (ne_of_pos (pos_of g48))
         refine RD.p (fun _ _ => trivial) rfl (Pu.indexSl sl26 rfl rfl g48) rfl rfl ?_
         refine RD.q (fun _ _ => trivial) rfl (Qt.ld0 (α := Int) (Rd.ofFz 1 rfl hu44) ty3 rfl rfl g48 (by rintro _ _ rfl; rfl)) rfl rfl ?_
         refine RD.p (fun _ _ => trivial) rfl (Pu.move rfl) rfl rfl ?_
         refine RD.p (fun _ _ => trivial) rfl (Pu.move rfl) rfl rfl ?_
         obtain ⟨g51, H⟩ := gdE H
         refine RD.p (fun _ _ => trivial) rfl (Pu.indexSl sl31 rfl rfl g51) rfl rfl ?_
         obtain ⟨c52, hc53, ha54⟩ := R_el (α := (List Int)) (drow_R hz18) g51
         obtain ⟨u55, rfl, hu55⟩ := R_one hc53
         obtain ⟨p56, cc57, rfl⟩ := R_form hu55
         refine RD.q (fun _ _ => trivial) rfl (Qt.ldZ0 ty26 rfl ha54 (Held.fz 1 rfl) rfl) rfl rfl ?_
         refine RD.p (fun _ _ => trivial) rfl (Pu.move rfl) rfl rfl ?_
         refine RD.p (fun _ _ => trivial) rfl (Pu.move rfl) rfl rfl ?_
         obtain ⟨g58, H⟩ := gdE H
         refine RD.p (fun _ _ => trivial) rfl (Pu.indexSl sl26 rfl rfl g58) rfl rfl ?_
         refine RD.q (fun _ _ => trivial) rfl (Qt.ld0 (α := Int) (Rd.ofRowN 2 rfl) ty3 rfl rfl g58 (by rintro _ _ rfl; rfl)) rfl rfl ?_
         obtain ⟨g59, H⟩ := gdE H
         obtain ⟨bl60, ol61, rfl⟩ := R_ptr hu55 (ne_of_pos (pos_of g59))
         refine RD.p (fun _ _ => trivial) rfl (Pu.indexSl sl26 rfl rfl g59) rfl rfl ?_
         refine RD.q (fun _ _ => trivial) rfl (Qt.ld0 (α := Int) (Rd.ofFz 1 rfl hu55) ty3 rfl rfl g59 (by rintro _ _ rfl; rfl)) rfl rfl ?_
         refine RD.p (fun _ _ => trivial) rfl (Pu.bin rfl rfl rfl) rfl rfl ?_
         refine RD.nil (hK23 _ _ ?_)
         refine T.condP rfl (fun hc62 => ?_) (fun hc62 => ?_)
         ·have H := ifT hc62 H
          refine T.conseq (fr' := []) ?_ trivial (fun _ s => s)
          refine T.seq fun K24 hK24 => ?_
          refine T.region ?_
          refine RS.p (Pu.assign rfl) rfl rfl ?_
          refine RS.nil (hK24 _ _ ?_)
          obtain rfl := hd35 _ H
          have H := HX35
          obtain rfl := hd12 _ H
          have H := HX12
          obtain rfl := Option.some.inj H
          refine T.retTo (by with_reducible ((repeat (first | apply RetTo.seq | apply RetTo.blk)); exact RetTo.refl _)) (Cont.ret1 rfl rfl fun w' s => ?_)
          exact ⟨rfl, s.ext⟩
         ·have H := ifF hc62 H
          refine T.skip (hK22 _ _ (T.conseq (fr' := [(3, _), (4, _), (8, _), (9, _)]) ?_ ⟨rfl, rfl, rfl, rfl, trivial⟩ (fun _ s => s)))
          refine T.seq fun K25 hK25 => ?_
          refine T.region ?_
          refine RS.p (Pu.assign rfl) rfl rfl ?_
          refine RS.nil (hK25 _ _ ?_)
          refine T.joinE (σ := Unit) (γ := Unit) H Ex.go [(3, _), (4, _), (8, _), (9, _)] ⟨rfl, rfl, rfl, rfl, trivial⟩ (fun _ _ => []) (fun _ _ => Sat w [blk b1 [.int .i64 a0_p.g.w, .int .i64 a0_p.g.h, .slice p0 a0_p.g.tiles.length c0, .slice p1 a0_p.l.length c1, .int .i64 a0_p.cls, .int .i64 a0_p.size, .slice p2 a0_p.ts.length c2] 28, fz hh17, row nilH 3 (rowV (some gg29, cc30) v10.length) v10]) ?_ ?_
          ·rintro ⟨⟩ ⟨⟩ H
           try dsimp only [Ex.then] at H
           refine Cont.conseq (fr' := [(3, _), (4, _), (8, _), (9, _)]) ?_ ⟨rfl, rfl, rfl, rfl, trivial⟩ (fun _ s => s)
           refine id (hK21 _ _ ?_)
           refine T.region ?_
           refine RS.p (Pu.move rfl) rfl rfl ?_
           obtain ⟨g64, H⟩ := gdE H
           refine RS.p (Pu.addS rfl rfl g64) rfl rfl ?_
           refine RS.p (Pu.assign rfl) rfl rfl ?_
           refine RS.nil (hL35 _ _ (v37 + 1) () H ⟨rfl, rfl, rfl, trivial⟩ ⟨rfl, trivial⟩ (fun w s => s))
          ·intro z63 hz63 HX63 hJ63
           refine T.block ?_
           refine T.loopA (γ := Unit) hz63 [(3, _), (4, _), (8, _), (9, _)] (fun v65 _ => [(10, .int .i64 v65)]) (fun v65 _ => Sat w [blk b1 [.int .i64 a0_p.g.w, .int .i64 a0_p.g.h, .slice p0 a0_p.g.tiles.length c0, .slice p1 a0_p.l.length c1, .int .i64 a0_p.cls, .int .i64 a0_p.size, .slice p2 a0_p.ts.length c2] 28, fz hh17, row nilH 3 (rowV (some gg29, cc30) v10.length) v10]) () ⟨rfl, rfl, rfl, rfl, trivial⟩ ⟨rfl, trivial⟩ (fun w s => s) ?_
           rintro v65 ⟨⟩ y66 H hd63 KL63 hL63
           try dsimp only [Ex.then] at H
           refine T.conseq (fr' := [(10, _), (3, _), (4, _), (8, _), (9, _)]) ?_ ⟨rfl, rfl, rfl, rfl, rfl, trivial⟩ (fun _ s => s)
           refine T.seq fun K26 hK26 => ?_
           refine T.seq fun K27 hK27 => ?_
           refine T.region ?_
           refine RS.p (Pu.move rfl) rfl rfl ?_
           refine RS.p (Pu.move rfl) rfl rfl ?_
           refine RS.p (Pu.lenSl sl26 rfl) rfl rfl ?_
           refine RS.p (Pu.bin rfl rfl rfl) rfl rfl ?_
           refine RS.nil (hK27 _ _ ?_)
           refine T.condP rfl (fun hc67 => ?_) (fun hc67 => ?_)
           ·have H := ifT hc67 H
            refine T.skip (hK26 _ _ (T.conseq (fr' := [(3, _), (4, _), (8, _), (9, _), (10, _)]) ?_ ⟨rfl, rfl, rfl, rfl, rfl, trivial⟩ (fun _ s => s)))
            refine T.seq fun K28 hK28 => ?_
            refine T.block ?_
            refine T.seq fun K29 hK29 => ?_
            refine T.drawn (fun _ => True) [(0, .pu), (1, .pu), (2, .pu), (3, .rd), (4, .pu), (5, .pu), (6, .pu), (7, .rd), (8, .pu), (9, .rd), (10, .pu), (11, .pu), (12, .pu), (13, .rd), (14, .pu), (15, .pu), (16, .pu), (17, .rd), (18, .pu), (19, .rd), (20, .pu), (21, .pu), (22, .pu), (23, .rd), (24, .pu), (25, .pu), (26, .pu), (27, .rd), (28, .pu), (29, .rd), (30, .pu), (31, .pu), (32, .pu)] mixed (ClE.sat _ _) (by kernel_rfl) ?_
            refine RD.p (fun _ _ => trivial) rfl (Pu.move rfl) rfl rfl ?_
            refine RD.p (fun _ _ => trivial) rfl (Pu.move rfl) rfl rfl ?_
            obtain ⟨g68, H⟩ := gdE H
            refine RD.p (fun _ _ => trivial) rfl (Pu.indexSl sl31 rfl rfl g68) rfl rfl ?_
            obtain ⟨c69, hc70, ha71⟩ := R_el (α := (List Int)) (drow_R hz18) g68
            obtain ⟨u72, rfl, hu72⟩ := R_one hc70
            obtain ⟨p73, cc74, rfl⟩ := R_form hu72
            refine RD.q (fun _ _ => trivial) rfl (Qt.ldZ0 ty26 rfl ha71 (Held.fz 1 rfl) rfl) rfl rfl ?_
            refine RD.p (fun _ _ => trivial) rfl (Pu.move rfl) rfl rfl ?_
            refine RD.p (fun _ _ => trivial) rfl (Pu.move rfl) rfl rfl ?_
            obtain ⟨g75, H⟩ := gdE H
            refine RD.p (fun _ _ => trivial) rfl (Pu.indexSl sl26 rfl rfl g75) rfl rfl ?_
            refine RD.q (fun _ _ => trivial) rfl (Qt.ld0 (α := Int) (Rd.ofRowN 2 rfl) ty3 rfl rfl g75 (by rintro _ _ rfl; rfl)) rfl rfl ?_
            obtain ⟨g76, H⟩ := gdE H
            obtain ⟨bl77, ol78, rfl⟩ := R_ptr hu72 (ne_of_pos (pos_of g76))
            refine RD.p (fun _ _ => trivial) rfl (Pu.indexSl sl26 rfl rfl g76) rfl rfl ?_
            refine RD.q (fun _ _ => trivial) rfl (Qt.ld0 (α := Int) (Rd.ofFz 1 rfl hu72) ty3 rfl rfl g76 (by rintro _ _ rfl; rfl)) rfl rfl ?_
            refine RD.p (fun _ _ => trivial) rfl (Pu.move rfl) rfl rfl ?_
            refine RD.p (fun _ _ => trivial) rfl (Pu.move rfl) rfl rfl ?_
            obtain ⟨g79, H⟩ := gdE H
            refine RD.p (fun _ _ => trivial) rfl (Pu.indexSl sl31 rfl rfl g79) rfl rfl ?_
            obtain ⟨c80, hc81, ha82⟩ := R_el (α := (List Int)) (drow_R hz18) g79
            obtain ⟨u83, rfl, hu83⟩ := R_one hc81
            obtain ⟨p84, cc85, rfl⟩ := R_form hu83
            refine RD.q (fun _ _ => trivial) rfl (Qt.ldZ0 ty26 rfl ha82 (Held.fz 1 rfl) rfl) rfl rfl ?_
            refine RD.p (fun _ _ => trivial) rfl (Pu.move rfl) rfl rfl ?_
            refine RD.p (fun _ _ => trivial) rfl (Pu.move rfl) rfl rfl ?_
            obtain ⟨g86, H⟩ := gdE H
            refine RD.p (fun _ _ => trivial) rfl (Pu.indexSl sl26 rfl rfl g86) rfl rfl ?_
            refine RD.q (fun _ _ => trivial) rfl (Qt.ld0 (α := Int) (Rd.ofRowN 2 rfl) ty3 rfl rfl g86 (by rintro _ _ rfl; rfl)) rfl rfl ?_
            obtain ⟨g87, H⟩ := gdE H
            obtain ⟨bl88, ol89, rfl⟩ := R_ptr hu83 (ne_of_pos (pos_of g87))
            refine RD.p (fun _ _ => trivial) rfl (Pu.indexSl sl26 rfl rfl g87) rfl rfl ?_
            refine RD.q (fun _ _ => trivial) rfl (Qt.ld0 (α := Int) (Rd.ofFz 1 rfl hu83) ty3 rfl rfl g87 (by rintro _ _ rfl; rfl)) rfl rfl ?_
            refine RD.p (fun _ _ => trivial) rfl (Pu.move rfl) rfl rfl ?_
            refine RD.p (fun _ _ => trivial) rfl (Pu.move rfl) rfl rfl ?_
            obtain ⟨g90, H⟩ := gdE H
            refine RD.p (fun _ _ => trivial) rfl (Pu.indexSl sl31 rfl rfl g90) rfl rfl ?_
            obtain ⟨c91, hc92, ha93⟩ := R_el (α := (List Int)) (drow_R hz18) g90
            obtain ⟨u94, rfl, hu94⟩ := R_one hc92
            obtain ⟨p95, cc96, rfl⟩ := R_form hu94
            refine RD.q (fun _ _ => trivial) rfl (Qt.ldZ0 ty26 rfl ha93 (Held.fz 1 rfl) rfl) rfl rfl ?_
            refine RD.p (fun _ _ => trivial) rfl (Pu.move rfl) rfl rfl ?_
            refine RD.p (fun _ _ => trivial) rfl (Pu.move rfl) rfl rfl ?_
            obtain ⟨g97, H⟩ := gdE H
            refine RD.p (fun _ _ => trivial) rfl (Pu.indexSl sl26 rfl rfl g97) rfl rfl ?_
            refine RD.q (fun _ _ => trivial) rfl (Qt.ld0 (α := Int) (Rd.ofRowN 2 rfl) ty3 rfl rfl g97 (by rintro _ _ rfl; rfl)) rfl rfl ?_
            obtain ⟨g98, H⟩ := gdE H
            obtain ⟨bl99, ol100, rfl⟩ := R_ptr hu94 (ne_of_pos (pos_of g98))
            refine RD.p (fun _ _ => trivial) rfl (Pu.indexSl sl26 rfl rfl g98) rfl rfl ?_
            refine RD.q (fun _ _ => trivial) rfl (Qt.ld0 (α := Int) (Rd.ofFz 1 rfl hu94) ty3 rfl rfl g98 (by rintro _ _ rfl; rfl)) rfl rfl ?_
            refine RD.p (fun _ _ => trivial) rfl (Pu.assign rfl) rfl rfl ?_
            refine RD.p (fun _ _ => trivial) rfl (Pu.assign rfl) rfl rfl ?_
            refine RD.p (fun _ _ => trivial) rfl (Pu.assign rfl) rfl rfl ?_
            refine RD.nil (hK29 _ _ (T.conseq (fr' := [(3, _), (4, _), (8, _), (9, _), (10, _), (11, _), (12, _), (13, _)]) ?_ ⟨rfl, rfl, rfl, rfl, rfl, rfl, rfl, rfl, trivial⟩ (fun _ s => s)))
            refine T.seq fun K30 hK30 => ?_
            refine T.region ?_
            refine RS.p (Pu.move rfl) rfl rfl ?_
            refine RS.p (Pu.bin rfl rfl rfl) rfl rfl ?_
            refine RS.p (Pu.move rfl) rfl rfl ?_
            refine RS.joinV 3 167 (.bool (decide ((0 ≤ (gi (gi v8 v14) (gi v10 v65))) ∧ (0 ≤ (gi (gi v8 v65) (gi v10 v37)))))) [(3, _), (4, _), (8, _), (9, _), (10, _), (11, _), (12, _), (13, _)] ⟨rfl, rfl, rfl, rfl, rfl, rfl, rfl, rfl, trivial⟩ ?_ ?_
            ·refine RS.p (Pu.move rfl) rfl rfl ?_
             obtain ⟨g105, H⟩ := gdE H
             refine RS.joinV 10 178 (.bool (decide (((0 ≤ (gi (gi v8 v14) (gi v10 v65))) ∧ (0 ≤ (gi (gi v8 v65) (gi v10 v37)))) ∧ (((gi (gi v8 v14) (gi v10 v37)) < 0) ∨ (((gi (gi v8 v14) (gi v10 v65)) + (gi (gi v8 v65) (gi v10 v37))) < (gi (gi v8 v14) (gi v10 v37))))))) [(3, _), (4, _), (8, _), (9, _), (10, _)] ⟨rfl, rfl, rfl, rfl, rfl, trivial⟩ ?_ ?_
             ·refine RS.nil (hK30 _ _ ?_)
              refine T.condP rfl (fun hc106 => ?_) (fun hc106 => ?_)
              ·have H := ifT hc106 H
               refine T.conseq (fr' := []) ?_ trivial (fun _ s => s)
               refine T.seq fun K31 hK31 => ?_
               refine T.region ?_
               refine RS.p (Pu.assign rfl) rfl rfl ?_
               refine RS.nil (hK31 _ _ ?_)
               obtain rfl := hd63 _ H
               have H := HX63
               obtain rfl := hd35 _ H
               have H := HX35
               obtain rfl := hd12 _ H
               have H := HX12
               obtain rfl := Option.some.inj H
               refine T.retTo (by with_reducible ((repeat (first | apply RetTo.seq | apply RetTo.blk)); exact RetTo.refl _)) (Cont.ret1 rfl rfl fun w' s => ?_)
               exact ⟨rfl, s.ext⟩
              ·have H := ifF hc106 H
               refine T.skip (hK28 _ _ ?_)
               refine T.region ?_
               refine RS.p (Pu.move rfl) rfl rfl ?_
               obtain ⟨g107, H⟩ := gdE H
               refine RS.p (Pu.addS rfl rfl g107) rfl rfl ?_
               refine RS.p (Pu.assign rfl) rfl rfl ?_
               refine RS.nil (hL63 _ _ (v65 + 1) () H ⟨rfl, rfl, rfl, rfl, trivial⟩ ⟨rfl, trivial⟩ (fun w s => s))
             ·intro hJ104
              refine RS.splitP 168 rfl (fun hc103 => ?_) (fun hc103 => ?_)
              ·refine RS.p (Pu.move rfl) rfl rfl ?_
               refine RS.p (Pu.bin rfl rfl rfl) rfl rfl ?_
               refine RS.p (Pu.move rfl) rfl rfl ?_
               refine RS.joinV 6 177 (.bool (decide (((gi (gi v8 v14) (gi v10 v37)) < 0) ∨ (((gi (gi v8 v14) (gi v10 v65)) + (gi (gi v8 v65) (gi v10 v37))) < (gi (gi v8 v14) (gi v10 v37)))))) [(3, _), (4, _), (8, _), (9, _), (10, _), (11, _), (12, _), (13, _), (167, _), (168, _), (169, _), (170, _)] ⟨rfl, rfl, rfl, rfl, rfl, rfl, rfl, rfl, rfl, rfl, rfl, rfl, trivial⟩ ?_ ?_
               ·refine RS.p (Pu.pickT rfl rfl) rfl rfl ?_
                exact hJ104 _ _ ⟨dAndT hc103, rfl, rfl, rfl, rfl, rfl, trivial⟩ (fun w s => s)
               ·intro hJ109
                refine RS.splitP 171 rfl (fun hc108 => ?_) (fun hc108 => ?_)
                ·refine RS.no rfl rfl ?_
                 refine RS.no rfl rfl ?_
                 refine RS.no rfl rfl ?_
                 refine RS.no rfl rfl ?_
                 refine RS.no rfl rfl ?_
                 refine RS.p (Pu.pickT rfl rfl) rfl rfl ?_
                 exact hJ109 _ _ ⟨dOrT hc108, rfl, rfl, rfl, rfl, rfl, rfl, rfl, rfl, rfl, rfl, rfl, rfl, trivial⟩ (fun w s => s)
                ·refine RS.p (Pu.move rfl) rfl rfl ?_
                 refine RS.p (Pu.move rfl) rfl rfl ?_
                 refine RS.p (Pu.move rfl) rfl rfl ?_
                 refine RS.p (Pu.addS rfl rfl ((g105 hc103) hc108)) rfl rfl ?_
                 refine RS.p (Pu.bin rfl rfl rfl) rfl rfl ?_
                 refine RS.p (Pu.pickF rfl rfl) rfl rfl ?_
                 exact hJ109 _ _ ⟨dOrF hc108, rfl, rfl, rfl, rfl, rfl, rfl, rfl, rfl, rfl, rfl, rfl, rfl, trivial⟩ (fun w s => s)
              ·refine RS.no rfl rfl ?_
               refine RS.no rfl rfl ?_
               refine RS.no rfl rfl ?_
               refine RS.no rfl rfl ?_
               refine RS.no rfl rfl ?_
               refine RS.no rfl rfl ?_
               refine RS.no rfl rfl ?_
               refine RS.no rfl rfl ?_
               refine RS.no rfl rfl ?_
               refine RS.p (Pu.pickF rfl rfl) rfl rfl ?_
               exact hJ104 _ _ ⟨dAndF hc103, rfl, rfl, rfl, rfl, rfl, trivial⟩ (fun w s => s)
            ·intro hJ102
             refine RS.splitP 164 rfl (fun hc101 => ?_) (fun hc101 => ?_)
             ·refine RS.p (Pu.move rfl) rfl rfl ?_
              refine RS.p (Pu.bin rfl rfl rfl) rfl rfl ?_
              refine RS.p (Pu.pickT rfl rfl) rfl rfl ?_
              exact hJ102 _ _ ⟨dAndT hc101, rfl, rfl, rfl, rfl, rfl, rfl, rfl, rfl, trivial⟩ (fun w s => s)
             ·refine RS.no rfl rfl ?_
              refine RS.no rfl rfl ?_
              refine RS.p (Pu.pickF rfl rfl) rfl rfl ?_
              exact hJ102 _ _ ⟨dAndF hc101, rfl, rfl, rfl, rfl, rfl, rfl, rfl, rfl, trivial⟩ (fun w s => s)
           ·have H := ifF hc67 H
            obtain rfl := hd63 _ H
            refine T.exitTo (by with_reducible (repeat (first | exact ExTo.here | exact ExTo.hereN | exact ExTo.deep (by repeat (first | exact NmTo.seq | apply NmTo.blk)) | apply ExTo.seq | refine ExTo.past (by decide) ?_))) (hJ63 _ _ () () HX63 ⟨rfl, rfl, rfl, rfl, trivial⟩ trivial (fun w s => s))
        ·have H := ifF hc39 H
         obtain rfl := hd35 _ H
         refine T.exitTo (by with_reducible (repeat (first | exact ExTo.here | exact ExTo.hereN | exact ExTo.deep (by repeat (first | exact NmTo.seq | apply NmTo.blk)) | apply ExTo.seq | refine ExTo.past (by decide) ?_))) (hJ35 _ _ () () HX35 ⟨rfl, rfl, rfl, trivial⟩ trivial (fun w s => s))
     ·have H := ifF hc16 H
      obtain rfl := hd12 _ H
      refine T.exitTo (by with_reducible (repeat (first | exact ExTo.here | exact ExTo.hereN | exact ExTo.deep (by repeat (first | exact NmTo.seq | apply NmTo.blk)) | apply ExTo.seq | refine ExTo.past (by decide) ?_))) (hJ12 _ _ () () HX12 trivial trivial (fun w s => s))
   ·intro z7 hz7 HX7 hJ7
    refine T.block ?_
    refine T.loopA (γ := (Option Nat × Nat) × (Option Nat × Nat)) hz7 [(1, _)] (fun (l110, l112, v114) (q111, q113) => [(3, rowV q111 l110.length), (4, rowV q113 l112.length), (5, .int .i64 v114)]) (fun (l110, l112, v114) (q111, q113) => Sat w [blk b1 [.int .i64 a0_p.g.w, .int .i64 a0_p.g.h, .slice p0 a0_p.g.tiles.length c0, .slice p1 a0_p.l.length c1, .int .i64 a0_p.cls, .int .i64 a0_p.size, .slice p2 a0_p.ts.length c2] 28, drow 26 (rowV q111 l110.length) l110, row nilH 3 (rowV q113 l112.length) l112]) ((none, 0), (none, 0)) ⟨rfl, trivial⟩ ⟨rfl, rfl, rfl, trivial⟩ (fun w s => ((s.nilRowG (α := (List Int)) 26).nilRow (α := Int) 3).pick [0, 1, 2] (by decide) rfl) ?_
    rintro ⟨l110, l112, v114⟩ ⟨q111, q113⟩ y115 H hd7 KL7 hL7
    try dsimp only [Ex.then] at H
    refine T.conseq (fr' := [(3, _), (4, _), (5, _), (1, _)]) ?_ ⟨rfl, rfl, rfl, rfl, trivial⟩ (fun _ s => s)
    refine T.seq fun K32 hK32 => ?_
    refine T.seq fun K33 hK33 => ?_
    refine T.region ?_
    refine RS.p (Pu.move rfl) rfl rfl ?_
    refine RS.p (Pu.fieldAddr fd28_4 rfl) rfl rfl ?_
    refine RS.q (Qt.ldB 0 ty26 rfl rfl rfl) rfl rfl ?_
    refine RS.p (Pu.lenSl sl26 rfl) rfl rfl ?_
    refine RS.p (Pu.bin rfl rfl rfl) rfl rfl ?_
    refine RS.p (Pu.move rfl) rfl rfl ?_
    refine RS.joinV 3 29 (.bool (decide ((v114 < (a0_p.ts.length : Int)) ∧ (v114 < 5)))) [(1, _), (3, _), (4, _), (5, _)] ⟨rfl, rfl, rfl, rfl, trivial⟩ ?_ ?_
    ·refine RS.nil (hK33 _ _ ?_)
     refine T.condP rfl (fun hc118 => ?_) (fun hc118 => ?_)
     ·have H := ifT hc118 H
      refine T.skip (hK32 _ _ ?_)
      refine T.seq fun K34 hK34 => ?_
      refine T.block ?_
      refine T.seq fun K35 hK35 => ?_
      refine T.seq fun K36 hK36 => ?_
      refine T.drawn (fun _ => True) [(0, .pu), (1, .rd), (2, .pu), (3, .rd), (4, .pu), (5, .pu), (6, .rd), (7, .rd), (8, .pu)] mixed (ClE.sat _ _) (by kernel_rfl) ?_
      refine RD.p (fun _ _ => trivial) rfl (Pu.fieldAddr fd28_0 rfl) rfl rfl ?_
      refine RD.q (fun _ _ => trivial) rfl (Qt.ldBA (us := [_, _, _]) 0 ty24 rfl rfl rfl rfl) rfl rfl ?_
      refine RD.p (fun _ _ => trivial) rfl (Pu.fieldAddr fd28_4 rfl) rfl rfl ?_
      refine RD.q (fun _ _ => trivial) rfl (Qt.ldB 0 ty26 rfl rfl rfl) rfl rfl ?_
      refine RD.p (fun _ _ => trivial) rfl (Pu.move rfl) rfl rfl ?_
      obtain ⟨g119, H⟩ := gdE H
      obtain ⟨bl120, ol121, rfl⟩ := R_ptr h2 (ne_of_pos (pos_of g119))
      refine RD.p (fun _ _ => trivial) rfl (Pu.indexSl sl26 rfl rfl g119) rfl rfl ?_
      refine RD.q (fun _ _ => trivial) rfl (Qt.ld0 (α := Int) (Rd.base h2) ty3 rfl rfl g119 (by rintro _ _ rfl; rfl)) rfl rfl ?_
      obtain ⟨x122, hx122, H⟩ := bindE H
      refine RD.q (fun _ _ => trivial) rfl (Qt.call (vs := [.agg #[.int .i64 a0_p.g.w, .int .i64 a0_p.g.h, .slice p0 a0_p.g.tiles.length c0], .int .i64 (gi a0_p.ts v114)]) ent6 rfl fun w s => throngref5_Tile_walk a0_p.g (gi a0_p.ts v114) w ((Rd.base h0) w s) hx122) rfl rfl ?_
      refine RD.p (fun _ _ => trivial) rfl (Pu.not rfl) rfl rfl ?_
      refine RD.nil (hK36 _ _ ?_)
      refine T.cond rfl (fun hc123 => ?_) (fun hc123 => ?_)
      ·have H := ifT hc123 H
       refine T.exitTo (by with_reducible (repeat (first | exact ExTo.here | exact ExTo.hereN | exact ExTo.deep (by repeat (first | exact NmTo.seq | apply NmTo.blk)) | apply ExTo.seq | refine ExTo.past (by decide) ?_))) (hK34 _ _ (T.conseq (fr' := [(1, _), (3, _), (4, _), (5, _)]) ?_ ⟨rfl, rfl, rfl, rfl, trivial⟩ (fun _ s => s)))
       refine T.region ?_
       refine RS.p (Pu.move rfl) rfl rfl ?_
       obtain ⟨g124, H⟩ := gdE H
       refine RS.p (Pu.addS rfl rfl g124) rfl rfl ?_
       refine RS.p (Pu.assign rfl) rfl rfl ?_
       refine RS.nil (hL7 _ _ (l110, l112, (v114 + 1)) (q111, q113) H ⟨rfl, trivial⟩ ⟨rfl, rfl, rfl, trivial⟩ (fun w s => s))
      ·have H := ifB hc123 H
       refine T.skip (hK35 _ _ (T.conseq (fr' := [(1, _), (3, _), (4, _), (5, _)]) ?_ ⟨rfl, rfl, rfl, rfl, trivial⟩ (fun _ s => s)))
       refine T.seq fun K37 hK37 => ?_
       refine T.drawn (fun _ => True) [(0, .pu), (1, .rd), (2, .pu), (3, .rd), (4, .pu), (5, .rd), (6, .pu), (7, .rd), (8, .pu), (9, .rd), (10, .pu), (11, .pu), (12, .rd), (13, .so), (14, .pu), (15, .pu), (16, .pu), (17, .pu), (18, .pu)] mixed (ClE.sat _ _) (by kernel_rfl) ?_
       refine RD.p (fun _ _ => trivial) rfl (Pu.fieldAddr fd28_0 rfl) rfl rfl ?_
       refine RD.q (fun _ _ => trivial) rfl (Qt.ldBA (us := [_, _, _]) 0 ty24 rfl rfl rfl rfl) rfl rfl ?_
       refine RD.p (fun _ _ => trivial) rfl (Pu.fieldAddr fd28_1 rfl) rfl rfl ?_
       refine RD.q (fun _ _ => trivial) rfl (Qt.ldB 0 ty25 rfl rfl rfl) rfl rfl ?_
       refine RD.p (fun _ _ => trivial) rfl (Pu.fieldAddr fd28_2 rfl) rfl rfl ?_
       refine RD.q (fun _ _ => trivial) rfl (Qt.ldB 0 ty3 rfl rfl rfl) rfl rfl ?_
       refine RD.p (fun _ _ => trivial) rfl (Pu.fieldAddr fd28_3 rfl) rfl rfl ?_
       refine RD.q (fun _ _ => trivial) rfl (Qt.ldB 0 ty3 rfl rfl rfl) rfl rfl ?_
       refine RD.p (fun _ _ => trivial) rfl (Pu.fieldAddr fd28_4 rfl) rfl rfl ?_
       refine RD.q (fun _ _ => trivial) rfl (Qt.ldB 0 ty26 rfl rfl rfl) rfl rfl ?_
       refine RD.p (fun _ _ => trivial) rfl (Pu.move rfl) rfl rfl ?_
       obtain ⟨g125, H⟩ := gdE H
       refine RD.p (fun _ _ => trivial) rfl (Pu.indexSl sl26 rfl rfl g125) rfl rfl ?_
       refine RD.q (fun _ _ => trivial) rfl (Qt.ld0 (α := Int) (Rd.base h2) ty3 rfl rfl g125 (by rintro _ _ rfl; rfl)) rfl rfl ?_
       obtain ⟨x126, hx126, H⟩ := bindE H
       refine RD.solid rfl (.inl rfl) rfl rfl (Sd.callN (vs := [.agg #[.int .i64 a0_p.g.w, .int .i64 a0_p.g.h, .slice p0 a0_p.g.tiles.length c0], .slice p1 a0_p.l.length c1, .int .i64 a0_p.cls, .int .i64 a0_p.size, .int .i64 (gi a0_p.ts v114)]) ent7 rfl (fun w s => field_Make_walk a0_p.g a0_p.l a0_p.cls a0_p.size (gi a0_p.ts v114) w ((Rd.base h0) w s) ((Rd.base h1) w s) hx126)) (fun _ => ClE.sat _ _) (fun _ _ _ => trivial) (fun _ _ _ s => s.drop1) fun q127 => ?_
       refine RD.p (fun _ _ => trivial) rfl (Pu.move rfl) rfl rfl ?_
       refine RD.p (fun _ _ => trivial) rfl (Pu.extract rfl rfl) rfl rfl ?_
       refine RD.p (fun _ _ => trivial) rfl (Pu.extract rfl rfl) rfl rfl ?_
       refine RD.p (fun _ _ => trivial) rfl (Pu.assign rfl) rfl rfl ?_
       refine RD.p (fun _ _ => trivial) rfl (Pu.assign rfl) rfl rfl ?_
       refine RD.nil (hK37 _ _ (T.conseq (fr' := [(1, _), (3, _), (4, _), (5, _), (6, _), (7, _)]) ?_ ⟨rfl, rfl, rfl, rfl, rfl, rfl, trivial⟩ (fun _ s => s)))
       refine T.seq fun K38 hK38 => ?_
       refine T.seq fun K39 hK39 => ?_
       refine T.region ?_
       refine RS.p (Pu.move rfl) rfl rfl ?_
       obtain ⟨x128, hx128, H⟩ := bindE H
       refine RS.q (Qt.call (vs := [.int .i64 x126.2]) ent8 rfl fun w s => thronglaw13_num_walk x126.2 w  hx128) rfl rfl ?_
       refine RS.p (Pu.bin rfl rfl rfl) rfl rfl ?_
       refine RS.p (Pu.move rfl) rfl rfl ?_
       refine RS.joinV 8 69 (.bool (decide ((¬ x128 = 0) ∨ (¬ (x126.1.length : Int) = (a0_p.g.tiles.length : Int))))) [(1, _), (3, _), (4, _), (5, _), (6, _)] ⟨rfl, rfl, rfl, rfl, rfl, trivial⟩ ?_ ?_
       ·refine RS.nil (hK39 _ _ ?_)
        refine T.condP rfl (fun hc131 => ?_) (fun hc131 => ?_)
        ·have H := ifT hc131 H
         refine T.conseq (fr' := []) ?_ trivial (fun _ s => s)
         refine T.seq fun K40 hK40 => ?_
         refine T.region ?_
         refine RS.p (Pu.assign rfl) rfl rfl ?_
         refine RS.nil (hK40 _ _ ?_)
         obtain rfl := hd7 _ H
         have H := HX7
         obtain rfl := Option.some.inj H
         refine T.retTo (by with_reducible ((repeat (first | apply RetTo.seq | apply RetTo.blk)); exact RetTo.refl _)) (Cont.ret1 rfl rfl fun w' s => ?_)
         exact ⟨rfl, s.ext⟩
        ·have H := ifF hc131 H
         refine T.skip (hK38 _ _ ?_)
         refine T.drawnTS [0] [(0, .pu), (1, .pu), (2, .so), (3, .br), (4, .pu), (5, .pu), (6, .wk), (7, .pu), (8, .pu), (9, .wk), (10, .so), (11, .br), (12, .pu), (13, .pu)] (.st 0 .pu (.st 1 .pu (.st 4 .pu (.st 5 .pu (.st 6 .wk (.st 7 .pu (.st 8 .pu (.st 9 .wk (.two 2 .so (.two 3 .br (.st 10 .so (.st 11 .br (.st 12 .pu (.st 13 .pu .nil)))) 10 .so (.st 3 .br (.st 11 .br (.st 12 .pu (.st 13 .pu .nil))))) 10 .so (.st 2 .so (.st 3 .br (.st 11 .br (.st 12 .pu (.st 13 .pu .nil)))))))))))))) mixed (by kernel_rfl) rfl ?_
         refine RT.p (fun w s => s.pick [0] (by decide) rfl) rfl (Pu.move rfl) rfl rfl ?_
         refine RT.p (fun w s => s.pick [0] (by decide) rfl) rfl (Pu.move rfl) rfl rfl ?_
         refine RT.p (fun w s => s.pick [0] (by decide) rfl) rfl (Pu.move rfl) rfl rfl ?_
         refine RT.p (fun w s => s.pick [0] (by decide) rfl) rfl (Pu.fieldAddr fd28_4 rfl) rfl rfl ?_
         refine RT.w (fun w s => s.pick [0] (by decide) rfl) rfl (Qt.ldB 0 ty26 rfl rfl rfl) rfl rfl ?_
         refine RT.p (fun w s => s.pick [0] (by decide) rfl) rfl (Pu.move rfl) rfl rfl ?_
         obtain ⟨g132, H⟩ := gdE H
         refine RT.p (fun w s => s.pick [0] (by decide) rfl) rfl (Pu.indexSl sl26 rfl rfl g132) rfl rfl ?_
         refine RT.w (fun w s => s.pick [0] (by decide) rfl) rfl (Qt.ld0 (α := Int) (Rd.base h2) ty3 rfl rfl g132 (by rintro _ _ rfl; rfl)) rfl rfl ?_
         obtain ⟨g135, H⟩ := gdE H
         obtain ⟨g138, H⟩ := gdE H
         refine RT.two ?_ ?_
         ·refine RT1.solid rfl (.inl rfl) rfl rfl (Sd.litS (cs := [_]) sl31 zr26 rfl rfl rfl rfl rfl) (fun _ => ClE.sat _ _) (fun _ w s => s.pick [0] (by decide) rfl) (fun _ _ _ s => s.drop1) fun b333 => ?_
          refine RT.two ?_ ?_
          ·refine RT1.solid rfl (.inr rfl) rfl rfl (Sd.pre (fun w s => (Sat.starAt 3 5 (Sat.starAt 3 6 ((s.noStars).noStars) rfl rfl (by decide)) rfl rfl (by decide))) (Sd.appL (α := (List Int)) 1 4 3 ([x126.1] : List (List Int)) rfl rfl rfl (DRF.cons' (α := (List Int)) (x := x126.1) (fun _ h => ⟨_, rfl, h⟩) DRF.nil') rfl sl31 zr26 rfl rfl rfl rfl g135 (by decide))) (fun _ => ClE.sat _ _) (fun _ w s => s.pick [0] (by decide) rfl) (fun h => nomatch h) fun q334 => ?_
           refine RT.solid rfl (.inl rfl) rfl rfl (Sd.litS (cs := [_]) sl26 zr3 rfl rfl rfl rfl rfl) (fun _ => ClE.sat _ _) (fun _ w s => s.pick [0] (by decide) rfl) (fun _ _ _ s => s.drop1) fun b335 => ?_
           refine RT.solid rfl (.inr rfl) rfl rfl (Sd.app1c (α := Int) 2 7 (gi a0_p.ts v114) rfl rfl (nilH_lt _) sl26 zr3 rfl rfl rfl rfl g138 (by decide)) (fun _ => ClE.sat _ _) (fun _ w s => s.pick [0] (by decide) rfl) (fun h => nomatch h) fun q336 => ?_
           refine RT.p (fun w s => s.pick [0] (by decide) rfl) rfl (Pu.assign rfl) rfl rfl ?_
           refine RT.p (fun w s => s.pick [0] (by decide) rfl) rfl (Pu.assign rfl) rfl rfl ?_
           refine RT.nil (hK34 _ _ (T.conseq (fr' := [(1, _), (3, _), (4, _), (5, _)]) ?_ ⟨rfl, rfl, rfl, rfl, trivial⟩ (fun _ s => s)))
           refine T.region ?_
           refine RS.p (Pu.move rfl) rfl rfl ?_
           obtain ⟨g337, H⟩ := gdE H
           refine RS.p (Pu.addS rfl rfl g337) rfl rfl ?_
           refine RS.p (Pu.assign rfl) rfl rfl ?_
           refine RS.nil (hL7 _ _ ((l110 ++ ([x126.1] : List (List Int))), (l112 ++ [(gi a0_p.ts v114)]), (v114 + 1)) (q334, q336) H ⟨rfl, trivial⟩ ⟨rfl, rfl, rfl, trivial⟩ (fun w s => s.pick [0, 1, 2] (by decide) rfl))
          ·refine RT1.solid rfl (.inl rfl) rfl rfl (Sd.litS (cs := [_]) sl26 zr3 rfl rfl rfl rfl rfl) (fun _ => ClE.sat _ _) (fun _ w s => s.pick [0] (by decide) rfl) (fun _ _ _ s => s.drop1) fun b338 => ?_
           refine RT.solid rfl (.inr rfl) rfl rfl (Sd.pre (fun w s => (Sat.starAt 3 6 (Sat.starAt 3 7 ((s.noStars).noStars) rfl rfl (by decide)) rfl rfl (by decide))) (Sd.appL (α := (List Int)) 1 4 3 ([x126.1] : List (List Int)) rfl rfl rfl (DRF.cons' (α := (List Int)) (x := x126.1) (fun _ h => ⟨_, rfl, h⟩) DRF.nil') rfl sl31 zr26 rfl rfl rfl rfl g135 (by decide))) (fun _ => ClE.sat _ _) (fun _ w s => s.pick [0] (by decide) rfl) (fun h => nomatch h) fun q339 => ?_
           refine RT.solid rfl (.inr rfl) rfl rfl (Sd.app1c (α := Int) 2 5 (gi a0_p.ts v114) rfl rfl (nilH_lt _) sl26 zr3 rfl rfl rfl rfl g138 (by decide)) (fun _ => ClE.sat _ _) (fun _ w s => s.pick [0] (by decide) rfl) (fun h => nomatch h) fun q340 => ?_
           refine RT.p (fun w s => s.pick [0] (by decide) rfl) rfl (Pu.assign rfl) rfl rfl ?_
           refine RT.p (fun w s => s.pick [0] (by decide) rfl) rfl (Pu.assign rfl) rfl rfl ?_
           refine RT.nil (hK34 _ _ (T.conseq (fr' := [(1, _), (3, _), (4, _), (5, _)]) ?_ ⟨rfl, rfl, rfl, rfl, trivial⟩ (fun _ s => s)))
           refine T.region ?_
           refine RS.p (Pu.move rfl) rfl rfl ?_
           obtain ⟨g341, H⟩ := gdE H
           refine RS.p (Pu.addS rfl rfl g341) rfl rfl ?_
           refine RS.p (Pu.assign rfl) rfl rfl ?_
           refine RS.nil (hL7 _ _ ((l110 ++ ([x126.1] : List (List Int))), (l112 ++ [(gi a0_p.ts v114)]), (v114 + 1)) (q339, q340) H ⟨rfl, trivial⟩ ⟨rfl, rfl, rfl, trivial⟩ (fun w s => s.pick [0, 1, 2] (by decide) rfl))
         ·refine RT1.solid rfl (.inl rfl) rfl rfl (Sd.litS (cs := [_]) sl26 zr3 rfl rfl rfl rfl rfl) (fun _ => ClE.sat _ _) (fun _ w s => s.pick [0] (by decide) rfl) (fun _ _ _ s => s.drop1) fun b342 => ?_
          refine RT.solid rfl (.inl rfl) rfl rfl (Sd.litS (cs := [_]) sl31 zr26 rfl rfl rfl rfl rfl) (fun _ => ClE.sat _ _) (fun _ w s => s.pick [0] (by decide) rfl) (fun _ _ _ s => s.drop1) fun b343 => ?_
          refine RT.solid rfl (.inr rfl) rfl rfl (Sd.pre (fun w s => (Sat.starAt 3 6 (Sat.starAt 3 7 ((s.noStars).noStars) rfl rfl (by decide)) rfl rfl (by decide))) (Sd.appL (α := (List Int)) 1 5 3 ([x126.1] : List (List Int)) rfl rfl rfl (DRF.cons' (α := (List Int)) (x := x126.1) (fun _ h => ⟨_, rfl, h⟩) DRF.nil') rfl sl31 zr26 rfl rfl rfl rfl g135 (by decide))) (fun _ => ClE.sat _ _) (fun _ w s => s.pick [0] (by decide) rfl) (fun h => nomatch h) fun q344 => ?_
          refine RT.solid rfl (.inr rfl) rfl rfl (Sd.app1c (α := Int) 2 4 (gi a0_p.ts v114) rfl rfl (nilH_lt _) sl26 zr3 rfl rfl rfl rfl g138 (by decide)) (fun _ => ClE.sat _ _) (fun _ w s => s.pick [0] (by decide) rfl) (fun h => nomatch h) fun q345 => ?_
          refine RT.p (fun w s => s.pick [0] (by decide) rfl) rfl (Pu.assign rfl) rfl rfl ?_
          refine RT.p (fun w s => s.pick [0] (by decide) rfl) rfl (Pu.assign rfl) rfl rfl ?_
          refine RT.nil (hK34 _ _ (T.conseq (fr' := [(1, _), (3, _), (4, _), (5, _)]) ?_ ⟨rfl, rfl, rfl, rfl, trivial⟩ (fun _ s => s)))
          refine T.region ?_
          refine RS.p (Pu.move rfl) rfl rfl ?_
          obtain ⟨g346, H⟩ := gdE H
          refine RS.p (Pu.addS rfl rfl g346) rfl rfl ?_
          refine RS.p (Pu.assign rfl) rfl rfl ?_
          refine RS.nil (hL7 _ _ ((l110 ++ ([x126.1] : List (List Int))), (l112 ++ [(gi a0_p.ts v114)]), (v114 + 1)) (q344, q345) H ⟨rfl, trivial⟩ ⟨rfl, rfl, rfl, trivial⟩ (fun w s => s.pick [0, 1, 2] (by decide) rfl))
       ·intro hJ130
        refine RS.splitP 61 rfl (fun hc129 => ?_) (fun hc129 => ?_)
        ·refine RS.no rfl rfl ?_
         refine RS.no rfl rfl ?_
         refine RS.no rfl rfl ?_
         refine RS.no rfl rfl ?_
         refine RS.no rfl rfl ?_
         refine RS.no rfl rfl ?_
         refine RS.no rfl rfl ?_
         refine RS.p (Pu.pickT rfl rfl) rfl rfl ?_
         exact hJ130 _ _ ⟨dOrT hc129, rfl, rfl, rfl, rfl, rfl, trivial⟩ (fun w s => s)
        ·refine RS.p (Pu.move rfl) rfl rfl ?_
         refine RS.p (Pu.lenSl sl26 rfl) rfl rfl ?_
         refine RS.p (Pu.fieldAddr fd28_0 rfl) rfl rfl ?_
         refine RS.p (Pu.fieldAddr fd24_2 rfl) rfl rfl ?_
         refine RS.q (Qt.ldB 0 ty22 rfl rfl rfl) rfl rfl ?_
         refine RS.p (Pu.lenSl sl22 rfl) rfl rfl ?_
         refine RS.p (Pu.bin rfl rfl rfl) rfl rfl ?_
         refine RS.p (Pu.pickF rfl rfl) rfl rfl ?_
         exact hJ130 _ _ ⟨dOrF hc129, rfl, rfl, rfl, rfl, rfl, trivial⟩ (fun w s => s)
     ·have H := ifF hc118 H
      obtain rfl := hd7 _ H
      refine T.exitTo (by with_reducible (repeat (first | exact ExTo.here | exact ExTo.hereN | exact ExTo.deep (by repeat (first | exact NmTo.seq | apply NmTo.blk)) | apply ExTo.seq | refine ExTo.past (by decide) ?_))) (hJ7 _ _ (l110, l112) (q111, q113) HX7 trivial ⟨rfl, rfl, trivial⟩ (fun w s => s))
    ·intro hJ117
     refine RS.splitP 26 rfl (fun hc116 => ?_) (fun hc116 => ?_)
     ·refine RS.p (Pu.move rfl) rfl rfl ?_
      refine RS.p (Pu.bin rfl rfl rfl) rfl rfl ?_
      refine RS.p (Pu.pickT rfl rfl) rfl rfl ?_
      exact hJ117 _ _ ⟨dAndT hc116, rfl, rfl, rfl, rfl, trivial⟩ (fun w s => s)
     ·refine RS.no rfl rfl ?_
      refine RS.no rfl rfl ?_
      refine RS.p (Pu.pickF rfl rfl) rfl rfl ?_
      exact hJ117 _ _ ⟨dAndF hc116, rfl, rfl, rfl, rfl, trivial⟩ (fun w s => s)
 ·intro z347 H hJ4
  refine RS.split 16 rfl (fun hc3 => ?_) (fun hc3 => ?_)
  ·have H := ifT hc3 H
   refine RS.no rfl rfl ?_
   refine RS.no rfl rfl ?_
   refine RS.no rfl rfl ?_
   refine RS.p (Pu.pickT rfl rfl) rfl rfl ?_
   obtain rfl := Option.some.inj H
   exact hJ4 _ _ ⟨rfl, rfl, trivial⟩ (fun w s => s)
  ·have H := ifB hc3 H
   refine RS.q (Qt.ldBA (us := [_, _, _, _, _, _, _]) 0 ty28 rfl rfl rfl rfl) rfl rfl ?_
   obtain ⟨x348, hx348, H⟩ := bindE H
   refine RS.q (Qt.call (vs := [.agg #[.int .i64 a0_p.g.w, .int .i64 a0_p.g.h, .slice p0 a0_p.g.tiles.length c0, .slice p1 a0_p.l.length c1, .int .i64 a0_p.cls, .int .i64 a0_p.size, .slice p2 a0_p.ts.length c2]]) ent5 rfl fun w s => thronglaw13_form_walk a0_p w ((Rd.base h0) w s) ((Rd.base h1) w s) ((Rd.base h2) w s) hx348) rfl rfl ?_
   refine RS.p (Pu.bin rfl rfl rfl) rfl rfl ?_
   refine RS.p (Pu.pickF rfl rfl) rfl rfl ?_
   obtain rfl := Option.some.inj H
   exact hJ4 _ _ ⟨rfl, rfl, trivial⟩ (fun w s => s)
end Go.Proofs.Ytiipgdmcgmbbkaa
