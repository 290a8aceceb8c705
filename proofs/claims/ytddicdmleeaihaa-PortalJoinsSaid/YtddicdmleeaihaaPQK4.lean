/-
  Walk of PortalJoins.
-/
import Derived.Test.YtddicdmleeaihaaRows
import Derived.Test.YtddicdmleeaihaaPQH
import Derived.Test.YtddicdmleeaihaaPQG4
set_option linter.unusedVariables false
set_option linter.unusedSimpArgs false
set_option maxRecDepth 20000
set_option maxHeartbeats 4000000
namespace Go.Proofs.Ytddicdmleeaihaa
open Go.Vg
open Enc (R)
open Sp
theorem ent16 : Ent Try.prog 16 := ⟨_, _, Try.func16, by kernel_rfl, rfl⟩
theorem ent17 : Ent Try.prog 17 := ⟨_, _, Try.func17, by kernel_rfl, rfl⟩
theorem ent18 : Ent Try.prog 18 := ⟨_, _, Try.func18, by kernel_rfl, rfl⟩
theorem ent7 : Ent Try.prog 7 := ⟨_, _, Try.func7, by kernel_rfl, rfl⟩
theorem ty25 : tySz Try.prog 25 = some (5, true) := by kernel_rfl
theorem thronglaw11_PortalJoins_walk (a0_p : Ask) (w : World) {v0 v1 v2 : Value} (h0 : R (hpOf w) a0_p.Free [v0]) (h1 : R (hpOf w) a0_p.Ts [v1]) (h2 : R (hpOf w) a0_p.Parts [v2]) {r : Bool} (H : thronglaw11_PortalJoins a0_p = some r) : Calls Try.prog 6 #[.agg #[.int .i64 a0_p.W, .int .i64 a0_p.H, v0, v1, v2]] w fun e w' => e = .returned (.bool r) ∧ Ext w w' := by
 have hm0 := R_max h0
 obtain ⟨p0, c0, rfl⟩ := R_form h0
 have hm1 := R_max h1
 obtain ⟨p1, c1, rfl⟩ := R_form h1
 have hm2 := R_max h2
 obtain ⟨p2, c2, rfl⟩ := R_form h2
 unfold thronglaw11_PortalJoins at H
 refine T.enter (args := [_]) (S := Sat w []) Try.func6 rfl rfl (Sat.start w) ?_
 refine T.seq fun K1 hK1 => ?_
 refine T.region ?_
 refine RS.solid (Sd.box (cs := [_, _, _, _, _]) rfl rfl) rfl rfl fun b1 => ?_
 refine RS.p (Pu.assign rfl) rfl rfl ?_
 refine RS.nil (hK1 _ _ ?_)
 refine T.seq fun K2 hK2 => ?_
 refine T.seq fun K3 hK3 => ?_
 refine T.region ?_
 refine RS.q (Qt.ldBA (us := [_, _, _, _, _]) 0 ty25 rfl rfl rfl rfl) rfl rfl ?_
 obtain ⟨x2, hx2, H⟩ := bindE H
 refine RS.q (Qt.call (vs := [.agg #[.int .i64 a0_p.W, .int .i64 a0_p.H, .slice p0 a0_p.Free.length c0, .slice p1 a0_p.Ts.length c1, .slice p2 a0_p.Parts.length c2]]) ent7 rfl fun w s => thronglaw11_heavy_walk a0_p w ((Rd.base h0) w s) ((Rd.base h1) w s) ((Rd.base h2) w s) hx2) rfl rfl ?_
 refine RS.nil (hK3 _ _ ?_)
 refine T.cond rfl (fun hc3 => ?_) (fun hc3 => ?_)
 ·have H := ifT hc3 H
  refine T.conseq (fr' := []) ?_ trivial (fun _ s => s)
  refine T.seq fun K4 hK4 => ?_
  refine T.region ?_
  refine RS.p (Pu.assign rfl) rfl rfl ?_
  refine RS.nil (hK4 _ _ ?_)
  obtain rfl := Option.some.inj H
  refine T.rt (Cont.ret1 rfl rfl fun w' s => ?_)
  exact ⟨rfl, s.ext⟩
 ·have H := ifB hc3 H
  refine T.skip (hK2 _ _ (T.conseq (fr' := [(1, _)]) ?_ ⟨rfl, trivial⟩ (fun _ s => s)))
  refine T.seq fun K5 hK5 => ?_
  refine T.region ?_
  refine RS.p (Pu.fieldAddr fd25_0 rfl) rfl rfl ?_
  refine RS.q (Qt.ldB 0 ty3 rfl rfl rfl) rfl rfl ?_
  refine RS.p (Pu.fieldAddr fd25_1 rfl) rfl rfl ?_
  refine RS.q (Qt.ldB 0 ty3 rfl rfl rfl) rfl rfl ?_
  refine RS.p (Pu.fieldAddr fd25_2 rfl) rfl rfl ?_
  refine RS.q (Qt.ldB 0 ty22 rfl rfl rfl) rfl rfl ?_
  obtain ⟨x4, hx4, H⟩ := bindE H
  refine RS.solid (Sd.callN (vs := [.int .i64 a0_p.W, .int .i64 a0_p.H, .slice p0 a0_p.Free.length c0]) ent11 rfl (fun w s => portal_Find_walk a0_p.W a0_p.H a0_p.Free w ((Rd.base h0) w s) hx4)) rfl rfl fun q5 => ?_
  refine RS.p (Pu.move rfl) rfl rfl ?_
  refine RS.p (Pu.extract rfl rfl) rfl rfl ?_
  refine RS.p (Pu.extract rfl rfl) rfl rfl ?_
  refine RS.p (Pu.assign rfl) rfl rfl ?_
  refine RS.p (Pu.assign rfl) rfl rfl ?_
  refine RS.nil (hK5 _ _ (T.conseq (fr' := [(1, _), (3, _), (4, _)]) ?_ ⟨rfl, rfl, rfl, trivial⟩ (fun _ s => s)))
  refine T.seq fun K6 hK6 => ?_
  refine T.region ?_
  refine RS.p (Pu.fieldAddr fd25_0 rfl) rfl rfl ?_
  refine RS.q (Qt.ldB 0 ty3 rfl rfl rfl) rfl rfl ?_
  refine RS.p (Pu.fieldAddr fd25_1 rfl) rfl rfl ?_
  refine RS.q (Qt.ldB 0 ty3 rfl rfl rfl) rfl rfl ?_
  refine RS.p (Pu.fieldAddr fd25_2 rfl) rfl rfl ?_
  refine RS.q (Qt.ldB 0 ty22 rfl rfl rfl) rfl rfl ?_
  obtain ⟨x6, hx6, H⟩ := bindE H
  refine RS.solid (Sd.callN (vs := [.int .i64 a0_p.W, .int .i64 a0_p.H, .slice p0 a0_p.Free.length c0]) ent18 rfl (fun w s => sector_Parts_walk a0_p.W a0_p.H a0_p.Free w ((Rd.base h0) w s) hx6)) rfl rfl fun q7 => ?_
  refine RS.p (Pu.move rfl) rfl rfl ?_
  refine RS.p (Pu.extract rfl rfl) rfl rfl ?_
  refine RS.p (Pu.extract rfl rfl) rfl rfl ?_
  refine RS.p (Pu.assign rfl) rfl rfl ?_
  refine RS.p (Pu.assign rfl) rfl rfl ?_
  refine RS.nil (hK6 _ _ (T.conseq (fr' := [(1, _), (3, _), (4, _), (5, _), (6, _)]) ?_ ⟨rfl, rfl, rfl, rfl, rfl, trivial⟩ (fun _ s => s)))
  refine T.seq fun K7 hK7 => ?_
  refine T.seq fun K8 hK8 => ?_
  refine T.region ?_
  refine RS.p (Pu.move rfl) rfl rfl ?_
  obtain ⟨x8, hx8, H⟩ := bindE H
  refine RS.q (Qt.call (vs := [.int .i64 x4.2]) ent12 rfl fun w s => thronglaw11_num_walk x4.2 w  hx8) rfl rfl ?_
  refine RS.p (Pu.bin rfl rfl rfl) rfl rfl ?_
  refine RS.nil (hK8 _ _ ?_)
  refine T.condP rfl (fun hc9 => ?_) (fun hc9 => ?_)
  ·have H := ifT hc9 H
   refine T.conseq (fr' := [(4, _), (6, _)]) ?_ ⟨rfl, rfl, trivial⟩ (fun _ s => s)
   refine T.seq fun K9 hK9 => ?_
   refine T.region ?_
   refine RS.p (Pu.move rfl) rfl rfl ?_
   obtain ⟨x10, hx10, H⟩ := bindE H
   refine RS.q (Qt.call (vs := [.int .i64 x6.2]) ent12 rfl fun w s => thronglaw11_num_walk x6.2 w  hx10) rfl rfl ?_
   refine RS.p (Pu.move rfl) rfl rfl ?_
   obtain ⟨x11, hx11, H⟩ := bindE H
   refine RS.q (Qt.call (vs := [.int .i64 x4.2]) ent12 rfl fun w s => thronglaw11_num_walk x4.2 w  hx11) rfl rfl ?_
   refine RS.p (Pu.bin rfl rfl rfl) rfl rfl ?_
   refine RS.p (Pu.assign rfl) rfl rfl ?_
   refine RS.nil (hK9 _ _ (T.conseq (fr' := [(2, _)]) ?_ ⟨rfl, trivial⟩ (fun _ s => s)))
   obtain rfl := Option.some.inj H
   refine T.rt (Cont.ret1 rfl rfl fun w' s => ?_)
   exact ⟨rfl, s.ext⟩
  ·have H := ifF hc9 H
   refine T.skip (hK7 _ _ (T.conseq (fr' := [(1, _), (3, _), (5, _), (6, _)]) ?_ ⟨rfl, rfl, rfl, rfl, trivial⟩ (fun _ s => s)))
   refine T.seq fun K10 hK10 => ?_
   refine T.seq fun K11 hK11 => ?_
   refine T.region ?_
   refine RS.p (Pu.move rfl) rfl rfl ?_
   obtain ⟨x12, hx12, H⟩ := bindE H
   refine RS.q (Qt.call (vs := [.int .i64 x6.2]) ent12 rfl fun w s => thronglaw11_num_walk x6.2 w  hx12) rfl rfl ?_
   refine RS.p (Pu.bin rfl rfl rfl) rfl rfl ?_
   refine RS.p (Pu.move rfl) rfl rfl ?_
   obtain ⟨g15, H⟩ := gdE H
   refine RS.joinV 9 54 (.bool (decide ((¬ x12 = 0) ∨ (¬ (x6.1.length : Int) = (a0_p.W * a0_p.H))))) [(1, _), (3, _), (5, _)] ⟨rfl, rfl, rfl, trivial⟩ ?_ ?_
   ·refine RS.nil (hK11 _ _ ?_)
    refine T.condP rfl (fun hc16 => ?_) (fun hc16 => ?_)
    ·have H := ifT hc16 H
     refine T.conseq (fr' := []) ?_ trivial (fun _ s => s)
     refine T.seq fun K12 hK12 => ?_
     refine T.region ?_
     refine RS.p (Pu.assign rfl) rfl rfl ?_
     refine RS.nil (hK12 _ _ ?_)
     obtain rfl := Option.some.inj H
     refine T.rt (Cont.ret1 rfl rfl fun w' s => ?_)
     exact ⟨rfl, s.ext⟩
    ·have H := ifF hc16 H
     refine T.skip (hK10 _ _ ?_)
     refine T.seq fun K13 hK13 => ?_
     refine T.seq fun K14 hK14 => ?_
     refine T.region ?_
     refine RS.p (Pu.assign rfl) rfl rfl ?_
     refine RS.nil (hK14 _ _ ?_)
     refine T.joinE (σ := Unit) (γ := Unit) H Ex.go [] trivial (fun _ _ => []) (fun _ _ => Sat w [blk b1 [.int .i64 a0_p.W, .int .i64 a0_p.H, .slice p0 a0_p.Free.length c0, .slice p1 a0_p.Ts.length c1, .slice p2 a0_p.Parts.length c2] 25, row nilH 40 (rowV q5 x4.1.length) x4.1, row nilH 3 (rowV q7 x6.1.length) x6.1]) ?_ ?_
     ·rintro ⟨⟩ ⟨⟩ H
      try dsimp only [Ex.then] at H
      refine Cont.conseq (fr' := []) ?_ trivial (fun _ s => s)
      refine id (hK13 _ _ ?_)
      refine T.seq fun K15 hK15 => ?_
      refine T.region ?_
      obtain ⟨x18, hx18, H⟩ := bindE H
      refine RS.q (Qt.call (vs := []) ent16 rfl fun w s => thronglaw11_wakes_walk  w  hx18) rfl rfl ?_
      refine RS.p (Pu.assign rfl) rfl rfl ?_
      refine RS.nil (hK15 _ _ ?_)
      obtain rfl := Option.some.inj H
      refine T.rt (Cont.ret1 rfl rfl fun w' s => ?_)
      exact ⟨rfl, s.ext⟩
     ·intro z17 hz17 HX17 hJ17
      refine T.block ?_
      refine T.loopA (γ := Unit) hz17 [(1, _), (3, _), (5, _)] (fun v19 _ => [(7, .int .i64 v19)]) (fun v19 _ => Sat w [blk b1 [.int .i64 a0_p.W, .int .i64 a0_p.H, .slice p0 a0_p.Free.length c0, .slice p1 a0_p.Ts.length c1, .slice p2 a0_p.Parts.length c2] 25, row nilH 40 (rowV q5 x4.1.length) x4.1, row nilH 3 (rowV q7 x6.1.length) x6.1]) () ⟨rfl, rfl, rfl, trivial⟩ ⟨rfl, trivial⟩ (fun w s => s) ?_
      rintro v19 ⟨⟩ y20 H hd17 KL17 hL17
      try dsimp only [Ex.then] at H
      refine T.conseq (fr' := [(7, _), (1, _), (3, _), (5, _)]) ?_ ⟨rfl, rfl, rfl, rfl, trivial⟩ (fun _ s => s)
      refine T.seq fun K16 hK16 => ?_
      refine T.seq fun K17 hK17 => ?_
      refine T.region ?_
      refine RS.p (Pu.move rfl) rfl rfl ?_
      refine RS.p (Pu.fieldAddr fd25_0 rfl) rfl rfl ?_
      refine RS.q (Qt.ldB 0 ty3 rfl rfl rfl) rfl rfl ?_
      refine RS.p (Pu.fieldAddr fd25_1 rfl) rfl rfl ?_
      refine RS.q (Qt.ldB 0 ty3 rfl rfl rfl) rfl rfl ?_
      obtain ⟨g21, H⟩ := gdE H
      refine RS.p (Pu.mulS rfl rfl g21) rfl rfl ?_
      refine RS.p (Pu.bin rfl rfl rfl) rfl rfl ?_
      refine RS.nil (hK17 _ _ ?_)
      refine T.condP rfl (fun hc22 => ?_) (fun hc22 => ?_)
      ·have H := ifT hc22 H
       refine T.skip (hK16 _ _ (T.conseq (fr' := [(1, _), (3, _), (5, _), (7, _)]) ?_ ⟨rfl, rfl, rfl, rfl, trivial⟩ (fun _ s => s)))
       refine T.seq fun K18 hK18 => ?_
       refine T.block ?_
       refine T.seq fun K19 hK19 => ?_
       refine T.region ?_
       refine RS.p (Pu.assign rfl) rfl rfl ?_
       refine RS.nil (hK19 _ _ ?_)
       refine T.joinE (σ := Unit) (γ := Unit) H Ex.go [(1, _), (3, _), (5, _), (7, _)] ⟨rfl, rfl, rfl, rfl, trivial⟩ (fun _ _ => []) (fun _ _ => Sat w [blk b1 [.int .i64 a0_p.W, .int .i64 a0_p.H, .slice p0 a0_p.Free.length c0, .slice p1 a0_p.Ts.length c1, .slice p2 a0_p.Parts.length c2] 25, row nilH 40 (rowV q5 x4.1.length) x4.1, row nilH 3 (rowV q7 x6.1.length) x6.1]) ?_ ?_
       ·rintro ⟨⟩ ⟨⟩ H
        try dsimp only [Ex.then] at H
        refine Cont.conseq (fr' := [(1, _), (3, _), (5, _), (7, _)]) ?_ ⟨rfl, rfl, rfl, rfl, trivial⟩ (fun _ s => s)
        refine id (hK18 _ _ ?_)
        refine T.region ?_
        refine RS.p (Pu.move rfl) rfl rfl ?_
        obtain ⟨g24, H⟩ := gdE H
        refine RS.p (Pu.addS rfl rfl g24) rfl rfl ?_
        refine RS.p (Pu.assign rfl) rfl rfl ?_
        refine RS.nil (hL17 _ _ (v19 + 1) () H ⟨rfl, rfl, rfl, trivial⟩ ⟨rfl, trivial⟩ (fun w s => s))
       ·intro z23 hz23 HX23 hJ23
        refine T.block ?_
        refine T.loopA (γ := Unit) hz23 [(1, _), (3, _), (5, _), (7, _)] (fun v25 _ => [(8, .int .i64 v25)]) (fun v25 _ => Sat w [blk b1 [.int .i64 a0_p.W, .int .i64 a0_p.H, .slice p0 a0_p.Free.length c0, .slice p1 a0_p.Ts.length c1, .slice p2 a0_p.Parts.length c2] 25, row nilH 40 (rowV q5 x4.1.length) x4.1, row nilH 3 (rowV q7 x6.1.length) x6.1]) () ⟨rfl, rfl, rfl, rfl, trivial⟩ ⟨rfl, trivial⟩ (fun w s => s) ?_
        rintro v25 ⟨⟩ y26 H hd23 KL23 hL23
        try dsimp only [Ex.then] at H
        refine T.conseq (fr' := [(8, _), (1, _), (3, _), (5, _), (7, _)]) ?_ ⟨rfl, rfl, rfl, rfl, rfl, trivial⟩ (fun _ s => s)
        refine T.seq fun K20 hK20 => ?_
        refine T.seq fun K21 hK21 => ?_
        refine T.region ?_
        refine RS.p (Pu.move rfl) rfl rfl ?_
        refine RS.p (Pu.bin rfl rfl rfl) rfl rfl ?_
        refine RS.nil (hK21 _ _ ?_)
        refine T.condP rfl (fun hc27 => ?_) (fun hc27 => ?_)
        ·have H := ifT hc27 H
         refine T.skip (hK20 _ _ ?_)
         refine T.joinA (σ := Unit) (γ := Unit) H Ex.go [(1, _), (3, _), (5, _), (7, _), (8, _)] ⟨rfl, rfl, rfl, rfl, rfl, trivial⟩ (fun _ _ => []) (fun _ _ => Sat w [blk b1 [.int .i64 a0_p.W, .int .i64 a0_p.H, .slice p0 a0_p.Free.length c0, .slice p1 a0_p.Ts.length c1, .slice p2 a0_p.Parts.length c2] 25, row nilH 40 (rowV q5 x4.1.length) x4.1, row nilH 3 (rowV q7 x6.1.length) x6.1]) ?_ ?_
         ·rintro ⟨⟩ ⟨⟩ H
          try dsimp only [Ex.then] at H
          refine T.conseq (fr' := [(1, _), (3, _), (5, _), (7, _), (8, _)]) ?_ ⟨rfl, rfl, rfl, rfl, rfl, trivial⟩ (fun _ s => s)
          refine T.region ?_
          refine RS.p (Pu.move rfl) rfl rfl ?_
          obtain ⟨g29, H⟩ := gdE H
          refine RS.p (Pu.addS rfl rfl g29) rfl rfl ?_
          refine RS.p (Pu.assign rfl) rfl rfl ?_
          refine RS.nil (hL23 _ _ (v25 + 1) () H ⟨rfl, rfl, rfl, rfl, trivial⟩ ⟨rfl, trivial⟩ (fun w s => s))
         ·intro z28 H HX28 K22 hJ28
          refine T.block ?_
          refine T.seq fun K23 hK23 => ?_
          refine T.region ?_
          refine RS.p (Pu.move rfl) rfl rfl ?_
          obtain ⟨g30, H⟩ := gdE H
          refine RS.p (Pu.addS rfl rfl g30) rfl rfl ?_
          refine RS.p (Pu.assign rfl) rfl rfl ?_
          refine RS.nil (hK23 _ _ (T.conseq (fr' := [(1, _), (3, _), (5, _), (7, _), (8, _), (9, _)]) ?_ ⟨rfl, rfl, rfl, rfl, rfl, rfl, trivial⟩ (fun _ s => s)))
          refine T.seq fun K24 hK24 => ?_
          refine T.seq fun K25 hK25 => ?_
          refine T.region ?_
          refine RS.p (Pu.move rfl) rfl rfl ?_
          refine RS.p (Pu.bin rfl rfl rfl) rfl rfl ?_
          refine RS.nil (hK25 _ _ ?_)
          refine T.joinE (σ := Int) (γ := Unit) H Ex.go [(1, _), (3, _), (5, _), (7, _), (8, _)] ⟨rfl, rfl, rfl, rfl, rfl, trivial⟩ (fun v32 _ => [(9, .int .i64 v32)]) (fun v32 _ => Sat w [blk b1 [.int .i64 a0_p.W, .int .i64 a0_p.H, .slice p0 a0_p.Free.length c0, .slice p1 a0_p.Ts.length c1, .slice p2 a0_p.Parts.length c2] 25, row nilH 40 (rowV q5 x4.1.length) x4.1, row nilH 3 (rowV q7 x6.1.length) x6.1]) ?_ ?_
          ·rintro v32 ⟨⟩ H
           try dsimp only [Ex.then] at H
           refine Cont.conseq (fr' := [(9, _), (1, _), (3, _), (5, _), (7, _), (8, _)]) ?_ ⟨rfl, rfl, rfl, rfl, rfl, rfl, trivial⟩ (fun _ s => s)
           refine id (hK24 _ _ ?_)
           refine T.seq fun K26 hK26 => ?_
           refine T.seq fun K27 hK27 => ?_
           refine T.region ?_
           refine RS.q (Qt.ldBA (us := [_, _, _, _, _]) 0 ty25 rfl rfl rfl rfl) rfl rfl ?_
           refine RS.p (Pu.move rfl) rfl rfl ?_
           refine RS.p (Pu.move rfl) rfl rfl ?_
           obtain ⟨x33, hx33, H⟩ := bindE H
           refine RS.q (Qt.call (vs := [.agg #[.int .i64 a0_p.W, .int .i64 a0_p.H, .slice p0 a0_p.Free.length c0, .slice p1 a0_p.Ts.length c1, .slice p2 a0_p.Parts.length c2], .int .i64 v19, .int .i64 v32]) ent17 rfl fun w s => thronglaw11_apart_walk a0_p v19 v32 w ((Rd.base h0) w s) ((Rd.base h1) w s) ((Rd.base h2) w s) hx33) rfl rfl ?_
           refine RS.p (Pu.not rfl) rfl rfl ?_
           refine RS.nil (hK27 _ _ ?_)
           refine T.cond rfl (fun hc34 => ?_) (fun hc34 => ?_)
           ·have H := ifT hc34 H
            obtain rfl := Option.some.inj H
            refine T.xt (hJ28 _ _ () () HX28 ⟨rfl, rfl, rfl, rfl, rfl, trivial⟩ trivial (fun w s => s))
           ·have H := ifB hc34 H
            refine T.skip (hK26 _ _ (T.conseq (fr' := [(1, _), (3, _), (5, _), (7, _), (8, _), (9, _)]) ?_ ⟨rfl, rfl, rfl, rfl, rfl, rfl, trivial⟩ (fun _ s => s)))
            refine T.seq fun K28 hK28 => ?_
            refine T.region ?_
            refine RS.p (Pu.assign rfl) rfl rfl ?_
            refine RS.nil (hK28 _ _ ?_)
            refine T.seq fun K29 hK29 => ?_
            refine T.seq fun K30 hK30 => ?_
            refine T.region ?_
            refine RS.p (Pu.assign rfl) rfl rfl ?_
            refine RS.nil (hK30 _ _ ?_)
            refine T.joinE (σ := Bool) (γ := Unit) H Ex.go [(1, _), (3, _), (5, _), (7, _), (8, _)] ⟨rfl, rfl, rfl, rfl, rfl, trivial⟩ (fun v36 _ => [(10, .bool v36)]) (fun v36 _ => Sat w [blk b1 [.int .i64 a0_p.W, .int .i64 a0_p.H, .slice p0 a0_p.Free.length c0, .slice p1 a0_p.Ts.length c1, .slice p2 a0_p.Parts.length c2] 25, row nilH 40 (rowV q5 x4.1.length) x4.1, row nilH 3 (rowV q7 x6.1.length) x6.1]) ?_ ?_
            ·rintro v36 ⟨⟩ H
             try dsimp only [Ex.then] at H
             refine Cont.conseq (fr' := [(10, _), (1, _), (3, _), (5, _), (7, _), (8, _)]) ?_ ⟨rfl, rfl, rfl, rfl, rfl, rfl, trivial⟩ (fun _ s => s)
             refine id (hK29 _ _ ?_)
             refine T.seq fun K31 hK31 => ?_
             refine T.region ?_
             refine RS.p (Pu.move rfl) rfl rfl ?_
             refine RS.p (Pu.not rfl) rfl rfl ?_
             refine RS.nil (hK31 _ _ ?_)
             refine T.cond rfl (fun hc37 => ?_) (fun hc37 => ?_)
             ·have H := ifT hc37 H
              refine T.conseq (fr' := []) ?_ trivial (fun _ s => s)
              refine T.seq fun K32 hK32 => ?_
              refine T.region ?_
              refine RS.p (Pu.assign rfl) rfl rfl ?_
              refine RS.nil (hK32 _ _ ?_)
              obtain rfl := Option.some.inj H
              have H := HX28
              obtain rfl := hd23 _ H
              have H := HX23
              obtain rfl := hd17 _ H
              have H := HX17
              obtain rfl := Option.some.inj H
              refine T.rt (Cont.ret1 rfl rfl fun w' s => ?_)
              exact ⟨rfl, s.ext⟩
             ·have H := ifB hc37 H
              obtain rfl := Option.some.inj H
              refine T.skip (hJ28 _ _ () () HX28 ⟨rfl, rfl, rfl, rfl, rfl, trivial⟩ trivial (fun w s => s))
            ·intro z35 hz35 HX35 hJ35
             refine T.block ?_
             refine T.loopA (γ := Unit) hz35 [(1, _), (3, _), (5, _), (7, _), (8, _), (9, _)] (fun (v38, v39) _ => [(10, .bool v38), (11, .int .i64 v39)]) (fun (v38, v39) _ => Sat w [blk b1 [.int .i64 a0_p.W, .int .i64 a0_p.H, .slice p0 a0_p.Free.length c0, .slice p1 a0_p.Ts.length c1, .slice p2 a0_p.Parts.length c2] 25, row nilH 40 (rowV q5 x4.1.length) x4.1, row nilH 3 (rowV q7 x6.1.length) x6.1]) () ⟨rfl, rfl, rfl, rfl, rfl, rfl, trivial⟩ ⟨rfl, rfl, trivial⟩ (fun w s => s) ?_
             rintro ⟨v38, v39⟩ ⟨⟩ y40 H hd35 KL35 hL35
             try dsimp only [Ex.then] at H
             refine T.conseq (fr' := [(10, _), (11, _), (1, _), (3, _), (5, _), (7, _), (8, _), (9, _)]) ?_ ⟨rfl, rfl, rfl, rfl, rfl, rfl, rfl, rfl, trivial⟩ (fun _ s => s)
             refine T.seq fun K33 hK33 => ?_
             refine T.seq fun K34 hK34 => ?_
             refine T.region ?_
             refine RS.p (Pu.move rfl) rfl rfl ?_
             refine RS.p (Pu.move rfl) rfl rfl ?_
             refine RS.p (Pu.lenSl sl27 rfl) rfl rfl ?_
             refine RS.p (Pu.bin rfl rfl rfl) rfl rfl ?_
             refine RS.nil (hK34 _ _ ?_)
             refine T.condP rfl (fun hc41 => ?_) (fun hc41 => ?_)
             ·have H := ifT hc41 H
              refine T.skip (hK33 _ _ (T.conseq (fr' := [(1, _), (3, _), (5, _), (7, _), (8, _), (9, _), (10, _), (11, _)]) ?_ ⟨rfl, rfl, rfl, rfl, rfl, rfl, rfl, rfl, trivial⟩ (fun _ s => s)))
              refine T.seq fun K35 hK35 => ?_
              refine T.block ?_
              refine T.seq fun K36 hK36 => ?_
              refine T.seq fun K37 hK37 => ?_
              refine T.region ?_
              refine RS.p (Pu.move rfl) rfl rfl ?_
              refine RS.p (Pu.move rfl) rfl rfl ?_
              obtain ⟨g42, H⟩ := gdE H
              refine RS.know (p := ∃ g cap, q5 = (some g, cap)) (fun w s => (s.row_some (k := 1) rfl (pos_of g42))) ?_
              rintro ⟨gg43, cc44, rfl⟩
              refine RS.p (Pu.indexSl sl27 rfl rfl g42) rfl rfl ?_
              refine RS.p (Pu.fieldAddr fd40_0 rfl) rfl rfl ?_
              refine RS.q (Qt.ldF (α := Prt) (Rd.ofRowN 1 rfl) ty3 rfl rfl g42 (by rintro _ _ rfl; rfl)) rfl rfl ?_
              refine RS.p (Pu.bin rfl rfl rfl) rfl rfl ?_
              refine RS.p (Pu.move rfl) rfl rfl ?_
              obtain ⟨g47, H⟩ := gdE H
              refine RS.joinV 9 118 (.bool (decide (((gi x4.1 v39).a < 0) ∨ ((x6.1.length : Int) ≤ (gi x4.1 v39).a)))) [(1, _), (3, _), (5, _), (7, _), (8, _), (9, _), (10, _), (11, _)] ⟨rfl, rfl, rfl, rfl, rfl, rfl, rfl, rfl, trivial⟩ ?_ ?_
              ·refine RS.p (Pu.move rfl) rfl rfl ?_
               obtain ⟨g50, H⟩ := gdE H
               refine RS.joinV 7 126 (.bool (decide ((((gi x4.1 v39).a < 0) ∨ ((x6.1.length : Int) ≤ (gi x4.1 v39).a)) ∨ ((gi x4.1 v39).b < 0)))) [(1, _), (3, _), (5, _), (7, _), (8, _), (9, _), (10, _), (11, _)] ⟨rfl, rfl, rfl, rfl, rfl, rfl, rfl, rfl, trivial⟩ ?_ ?_
               ·refine RS.p (Pu.move rfl) rfl rfl ?_
                obtain ⟨g53, H⟩ := gdE H
                refine RS.joinV 9 136 (.bool (decide (((((gi x4.1 v39).a < 0) ∨ ((x6.1.length : Int) ≤ (gi x4.1 v39).a)) ∨ ((gi x4.1 v39).b < 0)) ∨ ((x6.1.length : Int) ≤ (gi x4.1 v39).b)))) [(1, _), (3, _), (5, _), (7, _), (8, _), (9, _), (10, _), (11, _)] ⟨rfl, rfl, rfl, rfl, rfl, rfl, rfl, rfl, trivial⟩ ?_ ?_
                ·refine RS.nil (hK37 _ _ ?_)
                 refine T.condP rfl (fun hc54 => ?_) (fun hc54 => ?_)
                 ·have H := ifT hc54 H
                  refine T.conseq (fr' := []) ?_ trivial (fun _ s => s)
                  refine T.seq fun K38 hK38 => ?_
                  refine T.region ?_
                  refine RS.p (Pu.assign rfl) rfl rfl ?_
                  refine RS.nil (hK38 _ _ ?_)
                  obtain rfl := hd35 _ H
                  have H := HX35
                  obtain rfl := Option.some.inj H
                  have H := HX28
                  obtain rfl := hd23 _ H
                  have H := HX23
                  obtain rfl := hd17 _ H
                  have H := HX17
                  obtain rfl := Option.some.inj H
                  refine T.rt (Cont.ret1 rfl rfl fun w' s => ?_)
                  exact ⟨rfl, s.ext⟩
                 ·have H := ifF hc54 H
                  refine T.skip (hK36 _ _ ?_)
                  refine T.drawn (fun _ => True) [(0, .pu), (1, .pu), (2, .pu), (3, .pu), (4, .pu), (5, .pu), (6, .pu), (7, .rd), (8, .pu), (9, .rd), (10, .pu), (11, .pu), (12, .pu), (13, .rd), (14, .pu), (15, .pu), (16, .pu), (17, .pu), (18, .pu), (19, .pu), (20, .pu), (21, .rd), (22, .pu), (23, .rd), (24, .pu), (25, .pu), (26, .pu), (27, .rd), (28, .pu), (29, .pu), (30, .pu), (31, .pu)] mixed (ClE.sat _ _) (by kernel_rfl) ?_
                  refine RD.p (fun _ _ => trivial) rfl (Pu.move rfl) rfl rfl ?_
                  refine RD.p (fun _ _ => trivial) rfl (Pu.move rfl) rfl rfl ?_
                  obtain ⟨g57, H⟩ := gdE H
                  obtain ⟨g58, H⟩ := gdE H
                  obtain ⟨g59, H⟩ := gdE H
                  obtain ⟨g60, H⟩ := gdE H
                  obtain ⟨g61, H⟩ := gdE H
                  obtain ⟨g62, H⟩ := gdE H
                  refine RD.joinV 29 167 (.bool (decide ((v38 = true) ∨ (((gi x6.1 ((gi x4.1 v39).a)) = (gi x6.1 v19)) ∧ ((gi x6.1 ((gi x4.1 v39).b)) = (gi x6.1 v32)))))) [(1, _), (3, _), (5, _), (7, _), (8, _), (9, _), (10, _), (11, _)] ⟨rfl, rfl, rfl, rfl, rfl, rfl, rfl, rfl, trivial⟩ ?_ ?_
                  ·refine RD.p (fun _ _ => trivial) rfl (Pu.assign rfl) rfl rfl ?_
                   refine RD.nil (hK35 _ _ ?_)
                   refine T.region ?_
                   refine RS.p (Pu.move rfl) rfl rfl ?_
                   obtain ⟨g63, H⟩ := gdE H
                   refine RS.p (Pu.addS rfl rfl g63) rfl rfl ?_
                   refine RS.p (Pu.assign rfl) rfl rfl ?_
                   refine RS.nil (hL35 _ _ (decide ((v38 = true) ∨ (((gi x6.1 ((gi x4.1 v39).a)) = (gi x6.1 v19)) ∧ ((gi x6.1 ((gi x4.1 v39).b)) = (gi x6.1 v32)))), (v39 + 1)) () H ⟨rfl, rfl, rfl, rfl, rfl, rfl, trivial⟩ ⟨rfl, rfl, trivial⟩ (fun w s => s))
                  ·intro hJ56
                   refine RD.split 138 rfl (fun hc55 => ?_) (fun hc55 => ?_)
                   ·refine RD.no (fun _ _ => trivial) rfl rfl rfl (.inl rfl) ?_
                    refine RD.no (fun _ _ => trivial) rfl rfl rfl (.inl rfl) ?_
                    refine RD.no (fun _ _ => trivial) rfl rfl rfl (.inl rfl) ?_
                    refine RD.no (fun _ _ => trivial) rfl rfl rfl (.inl rfl) ?_
                    refine RD.no (fun _ _ => trivial) rfl rfl rfl (.inl rfl) ?_
                    refine RD.no (fun _ _ => trivial) rfl rfl rfl (.inr (.inr rfl)) ?_
                    refine RD.no (fun _ _ => trivial) rfl rfl rfl (.inl rfl) ?_
                    refine RD.no (fun _ _ => trivial) rfl rfl rfl (.inr (.inr rfl)) ?_
                    refine RD.no (fun _ _ => trivial) rfl rfl rfl (.inl rfl) ?_
                    refine RD.no (fun _ _ => trivial) rfl rfl rfl (.inl rfl) ?_
                    refine RD.no (fun _ _ => trivial) rfl rfl rfl (.inl rfl) ?_
                    refine RD.no (fun _ _ => trivial) rfl rfl rfl (.inr (.inr rfl)) ?_
                    refine RD.no (fun _ _ => trivial) rfl rfl rfl (.inl rfl) ?_
                    refine RD.no (fun _ _ => trivial) rfl rfl rfl (.inl rfl) ?_
                    refine RD.no (fun _ _ => trivial) rfl rfl rfl (.inl rfl) ?_
                    refine RD.no (fun _ _ => trivial) rfl rfl rfl (.inl rfl) ?_
                    refine RD.no (fun _ _ => trivial) rfl rfl rfl (.inl rfl) ?_
                    refine RD.no (fun _ _ => trivial) rfl rfl rfl (.inl rfl) ?_
                    refine RD.no (fun _ _ => trivial) rfl rfl rfl (.inl rfl) ?_
                    refine RD.no (fun _ _ => trivial) rfl rfl rfl (.inr (.inr rfl)) ?_
                    refine RD.no (fun _ _ => trivial) rfl rfl rfl (.inl rfl) ?_
                    refine RD.no (fun _ _ => trivial) rfl rfl rfl (.inr (.inr rfl)) ?_
                    refine RD.no (fun _ _ => trivial) rfl rfl rfl (.inl rfl) ?_
                    refine RD.no (fun _ _ => trivial) rfl rfl rfl (.inl rfl) ?_
                    refine RD.no (fun _ _ => trivial) rfl rfl rfl (.inl rfl) ?_
                    refine RD.no (fun _ _ => trivial) rfl rfl rfl (.inr (.inr rfl)) ?_
                    refine RD.no (fun _ _ => trivial) rfl rfl rfl (.inl rfl) ?_
                    refine RD.no (fun _ _ => trivial) rfl rfl rfl (.inl rfl) ?_
                    refine RD.p (fun _ _ => trivial) rfl (Pu.pickT rfl rfl) rfl rfl ?_
                    exact hJ56 _ ⟨dOrT hc55, rfl, rfl, rfl, rfl, rfl, rfl, rfl, rfl, trivial⟩
                   ·refine RD.p (fun _ _ => trivial) rfl (Pu.move rfl) rfl rfl ?_
                    refine RD.p (fun _ _ => trivial) rfl (Pu.move rfl) rfl rfl ?_
                    refine RD.p (fun _ _ => trivial) rfl (Pu.move rfl) rfl rfl ?_
                    refine RD.p (fun _ _ => trivial) rfl (Pu.indexSl sl27 rfl rfl (g57 (bne_of hc55))) rfl rfl ?_
                    refine RD.p (fun _ _ => trivial) rfl (Pu.fieldAddr fd40_0 rfl) rfl rfl ?_
                    refine RD.q (fun _ _ => trivial) rfl (Qt.ldF (α := Prt) (Rd.ofRowN 1 rfl) ty3 rfl rfl (g57 (bne_of hc55)) (by rintro _ _ rfl; rfl)) rfl rfl ?_
                    refine RD.know (p := ∃ g cap, q7 = (some g, cap)) (fun w s => (s.row_some (k := 2) rfl (pos_of (g58 (bne_of hc55))))) ?_
                    rintro ⟨gg64, cc65, rfl⟩
                    refine RD.p (fun _ _ => trivial) rfl (Pu.indexSl sl23 rfl rfl (g58 (bne_of hc55))) rfl rfl ?_
                    refine RD.q (fun _ _ => trivial) rfl (Qt.ld0 (α := Int) (Rd.ofRowN 2 rfl) ty3 rfl rfl (g58 (bne_of hc55)) (by rintro _ _ rfl; rfl)) rfl rfl ?_
                    refine RD.p (fun _ _ => trivial) rfl (Pu.move rfl) rfl rfl ?_
                    refine RD.p (fun _ _ => trivial) rfl (Pu.move rfl) rfl rfl ?_
                    refine RD.p (fun _ _ => trivial) rfl (Pu.indexSl sl23 rfl rfl (g59 (bne_of hc55))) rfl rfl ?_
                    refine RD.q (fun _ _ => trivial) rfl (Qt.ld0 (α := Int) (Rd.ofRowN 2 rfl) ty3 rfl rfl (g59 (bne_of hc55)) (by rintro _ _ rfl; rfl)) rfl rfl ?_
                    refine RD.p (fun _ _ => trivial) rfl (Pu.bin rfl rfl rfl) rfl rfl ?_
                    refine RD.p (fun _ _ => trivial) rfl (Pu.move rfl) rfl rfl ?_
                    refine RD.joinV 14 166 (.bool (decide (((gi x6.1 ((gi x4.1 v39).a)) = (gi x6.1 v19)) ∧ ((gi x6.1 ((gi x4.1 v39).b)) = (gi x6.1 v32))))) [(1, _), (3, _), (5, _), (7, _), (8, _), (9, _), (10, _), (11, _), (136, _), (137, _), (138, _), (139, _), (140, _), (141, _), (142, _), (143, _), (144, _), (145, _), (146, _), (147, _), (148, _), (149, _), (150, _), (151, _)] ⟨rfl, rfl, rfl, rfl, rfl, rfl, rfl, rfl, rfl, rfl, rfl, rfl, rfl, rfl, rfl, rfl, rfl, rfl, rfl, rfl, rfl, rfl, rfl, rfl, trivial⟩ ?_ ?_
                    ·refine RD.p (fun _ _ => trivial) rfl (Pu.pickF rfl rfl) rfl rfl ?_
                     exact hJ56 _ ⟨dOrF (bne_of hc55), rfl, rfl, rfl, rfl, rfl, rfl, rfl, rfl, trivial⟩
                    ·intro hJ67
                     refine RD.splitP 152 rfl (fun hc66 => ?_) (fun hc66 => ?_)
                     ·refine RD.p (fun _ _ => trivial) rfl (Pu.move rfl) rfl rfl ?_
                      refine RD.p (fun _ _ => trivial) rfl (Pu.move rfl) rfl rfl ?_
                      refine RD.p (fun _ _ => trivial) rfl (Pu.move rfl) rfl rfl ?_
                      refine RD.p (fun _ _ => trivial) rfl (Pu.indexSl sl27 rfl rfl ((g60 (bne_of hc55)) hc66)) rfl rfl ?_
                      refine RD.p (fun _ _ => trivial) rfl (Pu.fieldAddr fd40_1 rfl) rfl rfl ?_
                      refine RD.q (fun _ _ => trivial) rfl (Qt.ldF (α := Prt) (Rd.ofRowN 1 rfl) ty3 rfl rfl ((g60 (bne_of hc55)) hc66) (by rintro _ _ rfl; rfl)) rfl rfl ?_
                      refine RD.p (fun _ _ => trivial) rfl (Pu.indexSl sl23 rfl rfl ((g61 (bne_of hc55)) hc66)) rfl rfl ?_
                      refine RD.q (fun _ _ => trivial) rfl (Qt.ld0 (α := Int) (Rd.ofRowN 2 rfl) ty3 rfl rfl ((g61 (bne_of hc55)) hc66) (by rintro _ _ rfl; rfl)) rfl rfl ?_
                      refine RD.p (fun _ _ => trivial) rfl (Pu.move rfl) rfl rfl ?_
                      refine RD.p (fun _ _ => trivial) rfl (Pu.move rfl) rfl rfl ?_
                      refine RD.p (fun _ _ => trivial) rfl (Pu.indexSl sl23 rfl rfl ((g62 (bne_of hc55)) hc66)) rfl rfl ?_
                      refine RD.q (fun _ _ => trivial) rfl (Qt.ld0 (α := Int) (Rd.ofRowN 2 rfl) ty3 rfl rfl ((g62 (bne_of hc55)) hc66) (by rintro _ _ rfl; rfl)) rfl rfl ?_
                      refine RD.p (fun _ _ => trivial) rfl (Pu.bin rfl rfl rfl) rfl rfl ?_
                      refine RD.p (fun _ _ => trivial) rfl (Pu.pickT rfl rfl) rfl rfl ?_
                      exact hJ67 _ ⟨dAndT hc66, rfl, rfl, rfl, rfl, rfl, rfl, rfl, rfl, rfl, rfl, rfl, rfl, rfl, rfl, rfl, rfl, rfl, rfl, rfl, rfl, rfl, rfl, rfl, rfl, trivial⟩
                     ·refine RD.no (fun _ _ => trivial) rfl rfl rfl (.inl rfl) ?_
                      refine RD.no (fun _ _ => trivial) rfl rfl rfl (.inl rfl) ?_
                      refine RD.no (fun _ _ => trivial) rfl rfl rfl (.inl rfl) ?_
                      refine RD.no (fun _ _ => trivial) rfl rfl rfl (.inl rfl) ?_
                      refine RD.no (fun _ _ => trivial) rfl rfl rfl (.inl rfl) ?_
                      refine RD.no (fun _ _ => trivial) rfl rfl rfl (.inr (.inr rfl)) ?_
                      refine RD.no (fun _ _ => trivial) rfl rfl rfl (.inl rfl) ?_
                      refine RD.no (fun _ _ => trivial) rfl rfl rfl (.inr (.inr rfl)) ?_
                      refine RD.no (fun _ _ => trivial) rfl rfl rfl (.inl rfl) ?_
                      refine RD.no (fun _ _ => trivial) rfl rfl rfl (.inl rfl) ?_
                      refine RD.no (fun _ _ => trivial) rfl rfl rfl (.inl rfl) ?_
                      refine RD.no (fun _ _ => trivial) rfl rfl rfl (.inr (.inr rfl)) ?_
                      refine RD.no (fun _ _ => trivial) rfl rfl rfl (.inl rfl) ?_
                      refine RD.p (fun _ _ => trivial) rfl (Pu.pickF rfl rfl) rfl rfl ?_
                      exact hJ67 _ ⟨dAndF hc66, rfl, rfl, rfl, rfl, rfl, rfl, rfl, rfl, rfl, rfl, rfl, rfl, rfl, rfl, rfl, rfl, rfl, rfl, rfl, rfl, rfl, rfl, rfl, rfl, trivial⟩
                ·intro hJ52
                 refine RS.splitP 127 rfl (fun hc51 => ?_) (fun hc51 => ?_)
                 ·refine RS.no rfl rfl ?_
                  refine RS.no rfl rfl ?_
                  refine RS.no rfl rfl ?_
                  refine RS.no rfl rfl ?_
                  refine RS.no rfl rfl ?_
                  refine RS.no rfl rfl ?_
                  refine RS.no rfl rfl ?_
                  refine RS.no rfl rfl ?_
                  refine RS.p (Pu.pickT rfl rfl) rfl rfl ?_
                  exact hJ52 _ _ ⟨dOrT hc51, rfl, rfl, rfl, rfl, rfl, rfl, rfl, rfl, trivial⟩ (fun w s => s)
                 ·refine RS.p (Pu.move rfl) rfl rfl ?_
                  refine RS.p (Pu.move rfl) rfl rfl ?_
                  refine RS.p (Pu.indexSl sl27 rfl rfl (g53 hc51)) rfl rfl ?_
                  refine RS.p (Pu.fieldAddr fd40_1 rfl) rfl rfl ?_
                  refine RS.q (Qt.ldF (α := Prt) (Rd.ofRowN 1 rfl) ty3 rfl rfl (g53 hc51) (by rintro _ _ rfl; rfl)) rfl rfl ?_
                  refine RS.p (Pu.move rfl) rfl rfl ?_
                  refine RS.p (Pu.lenSl sl23 rfl) rfl rfl ?_
                  refine RS.p (Pu.bin rfl rfl rfl) rfl rfl ?_
                  refine RS.p (Pu.pickF rfl rfl) rfl rfl ?_
                  exact hJ52 _ _ ⟨dOrF hc51, rfl, rfl, rfl, rfl, rfl, rfl, rfl, rfl, trivial⟩ (fun w s => s)
               ·intro hJ49
                refine RS.splitP 119 rfl (fun hc48 => ?_) (fun hc48 => ?_)
                ·refine RS.no rfl rfl ?_
                 refine RS.no rfl rfl ?_
                 refine RS.no rfl rfl ?_
                 refine RS.no rfl rfl ?_
                 refine RS.no rfl rfl ?_
                 refine RS.no rfl rfl ?_
                 refine RS.p (Pu.pickT rfl rfl) rfl rfl ?_
                 exact hJ49 _ _ ⟨dOrT hc48, rfl, rfl, rfl, rfl, rfl, rfl, rfl, rfl, trivial⟩ (fun w s => s)
                ·refine RS.p (Pu.move rfl) rfl rfl ?_
                 refine RS.p (Pu.move rfl) rfl rfl ?_
                 refine RS.p (Pu.indexSl sl27 rfl rfl (g50 hc48)) rfl rfl ?_
                 refine RS.p (Pu.fieldAddr fd40_1 rfl) rfl rfl ?_
                 refine RS.q (Qt.ldF (α := Prt) (Rd.ofRowN 1 rfl) ty3 rfl rfl (g50 hc48) (by rintro _ _ rfl; rfl)) rfl rfl ?_
                 refine RS.p (Pu.bin rfl rfl rfl) rfl rfl ?_
                 refine RS.p (Pu.pickF rfl rfl) rfl rfl ?_
                 exact hJ49 _ _ ⟨dOrF hc48, rfl, rfl, rfl, rfl, rfl, rfl, rfl, rfl, trivial⟩ (fun w s => s)
              ·intro hJ46
               refine RS.splitP 109 rfl (fun hc45 => ?_) (fun hc45 => ?_)
               ·refine RS.no rfl rfl ?_
                refine RS.no rfl rfl ?_
                refine RS.no rfl rfl ?_
                refine RS.no rfl rfl ?_
                refine RS.no rfl rfl ?_
                refine RS.no rfl rfl ?_
                refine RS.no rfl rfl ?_
                refine RS.no rfl rfl ?_
                refine RS.p (Pu.pickT rfl rfl) rfl rfl ?_
                exact hJ46 _ _ ⟨dOrT hc45, rfl, rfl, rfl, rfl, rfl, rfl, rfl, rfl, trivial⟩ (fun w s => s)
               ·refine RS.p (Pu.move rfl) rfl rfl ?_
                refine RS.p (Pu.move rfl) rfl rfl ?_
                refine RS.p (Pu.indexSl sl27 rfl rfl (g47 hc45)) rfl rfl ?_
                refine RS.p (Pu.fieldAddr fd40_0 rfl) rfl rfl ?_
                refine RS.q (Qt.ldF (α := Prt) (Rd.ofRowN 1 rfl) ty3 rfl rfl (g47 hc45) (by rintro _ _ rfl; rfl)) rfl rfl ?_
                refine RS.p (Pu.move rfl) rfl rfl ?_
                refine RS.p (Pu.lenSl sl23 rfl) rfl rfl ?_
                refine RS.p (Pu.bin rfl rfl rfl) rfl rfl ?_
                refine RS.p (Pu.pickF rfl rfl) rfl rfl ?_
                exact hJ46 _ _ ⟨dOrF hc45, rfl, rfl, rfl, rfl, rfl, rfl, rfl, rfl, trivial⟩ (fun w s => s)
             ·have H := ifF hc41 H
              obtain rfl := hd35 _ H
              refine T.xt (hJ35 _ _ v38 () HX35 ⟨rfl, rfl, rfl, rfl, rfl, trivial⟩ ⟨rfl, trivial⟩ (fun w s => s))
          ·intro z31 H HX31 hJ31
           refine T.condP rfl (fun hc68 => ?_) (fun hc68 => ?_)
           ·have H := ifT hc68 H
            refine T.conseq (fr' := [(1, _), (3, _), (5, _), (7, _), (8, _)]) ?_ ⟨rfl, rfl, rfl, rfl, rfl, trivial⟩ (fun _ s => s)
            refine T.seq fun K39 hK39 => ?_
            refine T.region ?_
            refine RS.p (Pu.move rfl) rfl rfl ?_
            refine RS.p (Pu.fieldAddr fd25_0 rfl) rfl rfl ?_
            refine RS.q (Qt.ldB 0 ty3 rfl rfl rfl) rfl rfl ?_
            obtain ⟨g69, H⟩ := gdE H
            refine RS.p (Pu.addS rfl rfl g69) rfl rfl ?_
            refine RS.p (Pu.assign rfl) rfl rfl ?_
            refine RS.nil (hK39 _ _ (T.conseq (fr' := [(1, _), (3, _), (5, _), (7, _), (8, _), (9, _)]) ?_ ⟨rfl, rfl, rfl, rfl, rfl, rfl, trivial⟩ (fun _ s => s)))
            refine T.seq fun K40 hK40 => ?_
            refine T.drawn (fun _ => True) [(0, .pu), (1, .pu), (2, .rd), (3, .pu), (4, .pu), (5, .rd), (6, .pu), (7, .pu)] mixed (ClE.sat _ _) (by kernel_rfl) ?_
            refine RD.p (fun _ _ => trivial) rfl (Pu.move rfl) rfl rfl ?_
            refine RD.p (fun _ _ => trivial) rfl (Pu.fieldAddr fd25_0 rfl) rfl rfl ?_
            refine RD.q (fun _ _ => trivial) rfl (Qt.ldB 0 ty3 rfl rfl rfl) rfl rfl ?_
            obtain ⟨g70, H⟩ := gdE H
            refine RD.p (fun _ _ => trivial) rfl (Pu.quoN rfl rfl g70) rfl rfl ?_
            refine RD.p (fun _ _ => trivial) rfl (Pu.fieldAddr fd25_1 rfl) rfl rfl ?_
            refine RD.q (fun _ _ => trivial) rfl (Qt.ldB 0 ty3 rfl rfl rfl) rfl rfl ?_
            obtain ⟨g71, H⟩ := gdE H
            refine RD.p (fun _ _ => trivial) rfl (Pu.subS rfl rfl g71) rfl rfl ?_
            refine RD.p (fun _ _ => trivial) rfl (Pu.bin rfl rfl rfl) rfl rfl ?_
            refine RD.nil (hK40 _ _ ?_)
            refine T.condP rfl (fun hc72 => ?_) (fun hc72 => ?_)
            ·have H := ifT hc72 H
             obtain rfl := Option.some.inj H
             have H := HX31
             obtain rfl := Option.some.inj H
             refine T.xt (hJ28 _ _ () () HX28 ⟨rfl, rfl, rfl, rfl, rfl, trivial⟩ trivial (fun w s => s))
            ·have H := ifF hc72 H
             obtain rfl := Option.some.inj H
             refine T.skip (hJ31 _ _ (v19 + a0_p.W) () HX31 ⟨rfl, rfl, rfl, rfl, rfl, trivial⟩ ⟨rfl, trivial⟩ (fun w s => s))
           ·have H := ifF hc68 H
            refine T.seq fun K41 hK41 => ?_
            refine T.drawn (fun _ => True) [(0, .pu), (1, .pu), (2, .rd), (3, .pu), (4, .pu), (5, .rd), (6, .pu), (7, .pu)] mixed (ClE.sat _ _) (by kernel_rfl) ?_
            refine RD.p (fun _ _ => trivial) rfl (Pu.move rfl) rfl rfl ?_
            refine RD.p (fun _ _ => trivial) rfl (Pu.fieldAddr fd25_0 rfl) rfl rfl ?_
            refine RD.q (fun _ _ => trivial) rfl (Qt.ldB 0 ty3 rfl rfl rfl) rfl rfl ?_
            obtain ⟨g73, H⟩ := gdE H
            refine RD.p (fun _ _ => trivial) rfl (Pu.remN rfl rfl (and3 g73)) rfl rfl ?_
            refine RD.p (fun _ _ => trivial) rfl (Pu.fieldAddr fd25_0 rfl) rfl rfl ?_
            refine RD.q (fun _ _ => trivial) rfl (Qt.ldB 0 ty3 rfl rfl rfl) rfl rfl ?_
            obtain ⟨g74, H⟩ := gdE H
            refine RD.p (fun _ _ => trivial) rfl (Pu.subS rfl rfl g74) rfl rfl ?_
            refine RD.p (fun _ _ => trivial) rfl (Pu.bin rfl rfl rfl) rfl rfl ?_
            refine RD.nil (hK41 _ _ ?_)
            refine T.condP rfl (fun hc75 => ?_) (fun hc75 => ?_)
            ·have H := ifT hc75 H
             obtain rfl := Option.some.inj H
             have H := HX31
             obtain rfl := Option.some.inj H
             refine T.xt (hJ28 _ _ () () HX28 ⟨rfl, rfl, rfl, rfl, rfl, trivial⟩ trivial (fun w s => s))
            ·have H := ifF hc75 H
             obtain rfl := Option.some.inj H
             refine T.skip (hJ31 _ _ (v19 + 1) () HX31 ⟨rfl, rfl, rfl, rfl, rfl, trivial⟩ ⟨rfl, trivial⟩ (fun w s => s))
        ·have H := ifF hc27 H
         obtain rfl := hd23 _ H
         refine T.xt (hJ23 _ _ () () HX23 ⟨rfl, rfl, rfl, rfl, trivial⟩ trivial (fun w s => s))
      ·have H := ifF hc22 H
       obtain rfl := hd17 _ H
       refine T.xt (hJ17 _ _ () () HX17 trivial trivial (fun w s => s))
   ·intro hJ14
    refine RS.splitP 45 rfl (fun hc13 => ?_) (fun hc13 => ?_)
    ·refine RS.no rfl rfl ?_
     refine RS.no rfl rfl ?_
     refine RS.no rfl rfl ?_
     refine RS.no rfl rfl ?_
     refine RS.no rfl rfl ?_
     refine RS.no rfl rfl ?_
     refine RS.no rfl rfl ?_
     refine RS.no rfl rfl ?_
     refine RS.p (Pu.pickT rfl rfl) rfl rfl ?_
     exact hJ14 _ _ ⟨dOrT hc13, rfl, rfl, rfl, trivial⟩ (fun w s => s)
    ·refine RS.p (Pu.move rfl) rfl rfl ?_
     refine RS.p (Pu.lenSl sl23 rfl) rfl rfl ?_
     refine RS.p (Pu.fieldAddr fd25_0 rfl) rfl rfl ?_
     refine RS.q (Qt.ldB 0 ty3 rfl rfl rfl) rfl rfl ?_
     refine RS.p (Pu.fieldAddr fd25_1 rfl) rfl rfl ?_
     refine RS.q (Qt.ldB 0 ty3 rfl rfl rfl) rfl rfl ?_
     refine RS.p (Pu.mulS rfl rfl (g15 hc13)) rfl rfl ?_
     refine RS.p (Pu.bin rfl rfl rfl) rfl rfl ?_
     refine RS.p (Pu.pickF rfl rfl) rfl rfl ?_
     exact hJ14 _ _ ⟨dOrF hc13, rfl, rfl, rfl, trivial⟩ (fun w s => s)
end Go.Proofs.Ytddicdmleeaihaa
