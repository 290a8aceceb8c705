/-
  Walk of PortalFinds.
-/
import Derived.Test.YtddicdmleeaihaaRows
import Derived.Test.YtddicdmleeaihaaPQH
import Derived.Test.YtddicdmleeaihaaPQG1
set_option linter.unusedVariables false
set_option linter.unusedSimpArgs false
set_option maxRecDepth 20000
set_option maxHeartbeats 4000000
namespace Go.Proofs.Ytddicdmleeaihaa
open Go.Vg
open Enc (R)
open Sp
theorem ent10 : Ent Try.prog 10 := ⟨_, _, Try.func10, by kernel_rfl, rfl⟩
theorem ent14 : Ent Try.prog 14 := ⟨_, _, Try.func14, by kernel_rfl, rfl⟩
theorem ent15 : Ent Try.prog 15 := ⟨_, _, Try.func15, by kernel_rfl, rfl⟩
theorem ent16 : Ent Try.prog 16 := ⟨_, _, Try.func16, by kernel_rfl, rfl⟩
theorem ent7 : Ent Try.prog 7 := ⟨_, _, Try.func7, by kernel_rfl, rfl⟩
theorem ent8 : Ent Try.prog 8 := ⟨_, _, Try.func8, by kernel_rfl, rfl⟩
theorem ent9 : Ent Try.prog 9 := ⟨_, _, Try.func9, by kernel_rfl, rfl⟩
theorem ty25 : tySz Try.prog 25 = some (5, true) := by kernel_rfl
theorem thronglaw11_PortalFinds_walk (a0_p : Ask) (w : World) {v0 v1 v2 : Value} (h0 : R (hpOf w) a0_p.Free [v0]) (h1 : R (hpOf w) a0_p.Ts [v1]) (h2 : R (hpOf w) a0_p.Parts [v2]) {r : Bool} (H : thronglaw11_PortalFinds a0_p = some r) : Calls Try.prog 3 #[.agg #[.int .i64 a0_p.W, .int .i64 a0_p.H, v0, v1, v2]] w fun e w' => e = .returned (.bool r) ∧ Ext w w' := by
 have hm0 := R_max h0
 obtain ⟨p0, c0, rfl⟩ := R_form h0
 have hm1 := R_max h1
 obtain ⟨p1, c1, rfl⟩ := R_form h1
 have hm2 := R_max h2
 obtain ⟨p2, c2, rfl⟩ := R_form h2
 unfold thronglaw11_PortalFinds at H
 refine T.enter (args := [_]) (S := Sat w []) Try.func3 rfl rfl (Sat.start w) ?_
 refine T.seq fun K1 hK1 => ?_
 refine T.region ?_
 refine RS.solid (Sd.box (cs := [_, _, _, _, _]) rfl rfl) rfl rfl fun b1 => ?_
 refine RS.p (Pu.assign rfl) rfl rfl ?_
 refine RS.nil (hK1 _ _ ?_)
 refine T.seq fun K2 hK2 => ?_
 refine T.seq fun K3 hK3 => ?_
 refine T.region ?_
 refine RS.q (Qt.ldBA (us := [_, _, _, _, _]) 0 ty25 rfl rfl rfl rfl) rfl rfl ?_
 obtain ⟨x2, hx2, H⟩ := bindE H
 refine RS.q (Qt.call (vs := [.agg #[.int .i64 a0_p.W, .int .i64 a0_p.H, .slice p0 a0_p.Free.length c0, .slice p1 a0_p.Ts.length c1, .slice p2 a0_p.Parts.length c2]]) ent7 rfl fun w s => thronglaw11_heavy_walk a0_p w ((Rd.base h0) w s) ((Rd.base h1) w s) ((Rd.base h2) w s) hx2) rfl rfl ?_
 refine RS.nil (hK3 _ _ ?_)
 refine T.cond rfl (fun hc3 => ?_) (fun hc3 => ?_)
 ·have H := ifT hc3 H
  refine T.conseq (fr' := []) ?_ trivial (fun _ s => s)
  refine T.seq fun K4 hK4 => ?_
  refine T.region ?_
  refine RS.p (Pu.assign rfl) rfl rfl ?_
  refine RS.nil (hK4 _ _ ?_)
  obtain rfl := Option.some.inj H
  refine T.rt (Cont.ret1 rfl rfl fun w' s => ?_)
  exact ⟨rfl, s.ext⟩
 ·have H := ifB hc3 H
  refine T.skip (hK2 _ _ (T.conseq (fr' := [(1, _)]) ?_ ⟨rfl, trivial⟩ (fun _ s => s)))
  refine T.seq fun K5 hK5 => ?_
  refine T.region ?_
  refine RS.p (Pu.assign rfl) rfl rfl ?_
  refine RS.p (Pu.assign rfl) rfl rfl ?_
  refine RS.nil (hK5 _ _ ?_)
  refine T.seq fun K6 hK6 => ?_
  refine T.seq fun K7 hK7 => ?_
  refine T.region ?_
  refine RS.p (Pu.fieldAddr fd25_0 rfl) rfl rfl ?_
  refine RS.q (Qt.ldB 0 ty3 rfl rfl rfl) rfl rfl ?_
  refine RS.p (Pu.fieldAddr fd25_1 rfl) rfl rfl ?_
  refine RS.q (Qt.ldB 0 ty3 rfl rfl rfl) rfl rfl ?_
  refine RS.p (Pu.fieldAddr fd25_2 rfl) rfl rfl ?_
  refine RS.q (Qt.ldB 0 ty22 rfl rfl rfl) rfl rfl ?_
  obtain ⟨x4, hx4, H⟩ := bindE H
  refine RS.q (Qt.call (vs := [.int .i64 a0_p.W, .int .i64 a0_p.H, .slice p0 a0_p.Free.length c0]) ent8 rfl fun w s => throngref10_May_walk a0_p.W a0_p.H a0_p.Free w ((Rd.base h0) w s) hx4) rfl rfl ?_
  refine RS.nil (hK7 _ _ ?_)
  refine T.joinE (σ := Int × List Prt) (γ := (Option Nat × Nat)) H (fun s => s) [(1, _)] ⟨rfl, trivial⟩ (fun (v6, v7) q8 => [(3, .int .i64 v6), (4, rowV q8 v7.length)]) (fun (v6, v7) q8 => Sat w [blk b1 [.int .i64 a0_p.W, .int .i64 a0_p.H, .slice p0 a0_p.Free.length c0, .slice p1 a0_p.Ts.length c1, .slice p2 a0_p.Parts.length c2] 25, row nilH 40 (rowV q8 v7.length) v7]) ?_ ?_
  ·rintro ⟨v6, v7⟩ q8 H
   try dsimp only [Ex.then] at H
   refine Cont.conseq (fr' := [(3, _), (4, _), (1, _)]) ?_ ⟨rfl, rfl, rfl, trivial⟩ (fun _ s => s)
   refine id (hK6 _ _ ?_)
   refine T.seq fun K8 hK8 => ?_
   refine T.region ?_
   refine RS.p (Pu.fieldAddr fd25_2 rfl) rfl rfl ?_
   refine RS.q (Qt.ldB 0 ty22 rfl rfl rfl) rfl rfl ?_
   obtain ⟨x9, hx9, H⟩ := bindE H
   refine RS.solid (Sd.callN (vs := [.slice p0 a0_p.Free.length c0]) ent10 rfl (fun w s => throngref0_CopyBools_walk a0_p.Free w ((Rd.base h0) w s) hx9)) rfl rfl fun q10 => ?_
   refine RS.p (Pu.assign rfl) rfl rfl ?_
   refine RS.nil (hK8 _ _ (T.conseq (fr' := [(1, _), (3, _), (4, _), (5, _)]) ?_ ⟨rfl, rfl, rfl, rfl, trivial⟩ (fun _ s => s)))
   refine T.seq fun K9 hK9 => ?_
   refine T.region ?_
   refine RS.p (Pu.fieldAddr fd25_0 rfl) rfl rfl ?_
   refine RS.q (Qt.ldB 0 ty3 rfl rfl rfl) rfl rfl ?_
   refine RS.p (Pu.fieldAddr fd25_1 rfl) rfl rfl ?_
   refine RS.q (Qt.ldB 0 ty3 rfl rfl rfl) rfl rfl ?_
   refine RS.p (Pu.move rfl) rfl rfl ?_
   obtain ⟨x11, hx11, H⟩ := bindE H
   refine RS.solid (Sd.callN (vs := [.int .i64 a0_p.W, .int .i64 a0_p.H, rowV q10 x9.length]) ent11 rfl (fun w s => portal_Find_walk a0_p.W a0_p.H x9 w ((Rd.ofRowN 2 rfl) w s) hx11)) rfl rfl fun q12 => ?_
   refine RS.p (Pu.move rfl) rfl rfl ?_
   refine RS.p (Pu.extract rfl rfl) rfl rfl ?_
   refine RS.p (Pu.extract rfl rfl) rfl rfl ?_
   refine RS.p (Pu.assign rfl) rfl rfl ?_
   refine RS.p (Pu.assign rfl) rfl rfl ?_
   refine RS.nil (hK9 _ _ (T.conseq (fr' := [(1, _), (3, _), (4, _), (5, _), (6, _), (7, _)]) ?_ ⟨rfl, rfl, rfl, rfl, rfl, rfl, trivial⟩ (fun _ s => s)))
   refine T.seq fun K10 hK10 => ?_
   refine T.seq fun K11 hK11 => ?_
   refine T.region ?_
   refine RS.p (Pu.move rfl) rfl rfl ?_
   obtain ⟨x13, hx13, H⟩ := bindE H
   refine RS.q (Qt.call (vs := [.int .i64 x11.2]) ent12 rfl fun w s => thronglaw11_num_walk x11.2 w  hx13) rfl rfl ?_
   refine RS.p (Pu.move rfl) rfl rfl ?_
   refine RS.p (Pu.bin rfl rfl rfl) rfl rfl ?_
   refine RS.p (Pu.move rfl) rfl rfl ?_
   refine RS.joinB H 5 45 (fun b16 => .bool b16) [(1, _), (5, _), (6, _)] ⟨rfl, rfl, rfl, trivial⟩ ?_ ?_
   ·intro b16 H
    refine RS.p (Pu.move rfl) rfl rfl ?_
    refine RS.joinB H 6 52 (fun b19 => .bool b19) [(6, _)] ⟨rfl, trivial⟩ ?_ ?_
    ·intro b19 H
     refine RS.nil (hK11 _ _ ?_)
     refine T.cond rfl (fun hc20 => ?_) (fun hc20 => ?_)
     ·have H := ifT hc20 H
      refine T.seq fun K12 hK12 => ?_
      refine T.region ?_
      refine RS.p (Pu.assign rfl) rfl rfl ?_
      refine RS.nil (hK12 _ _ ?_)
      obtain rfl := Option.some.inj H
      refine T.rt (Cont.ret1 rfl rfl fun w' s => ?_)
      exact ⟨rfl, s.ext⟩
     ·have H := ifB hc20 H
      refine T.skip (hK10 _ _ ?_)
      refine T.seq fun K13 hK13 => ?_
      refine T.region ?_
      refine RS.p (Pu.move rfl) rfl rfl ?_
      obtain ⟨x21, hx21, H⟩ := bindE H
      refine RS.solid (Sd.callF0 (vs := [rowV q12 x11.1.length]) (C' := dead) (v := .tuple #[]) 3 ent15 rfl rfl (fun w s => thronglaw0_Portals_walk x11.1 rfl  hx21 w s)) rfl rfl fun _ => ?_
      refine RS.nil (hK13 _ _ (T.conseq (fr' := []) ?_ trivial (fun _ s => s)))
      refine T.seq fun K14 hK14 => ?_
      refine T.region ?_
      obtain ⟨x22, hx22, H⟩ := bindE H
      refine RS.q (Qt.call (vs := []) ent16 rfl fun w s => thronglaw11_wakes_walk  w  hx22) rfl rfl ?_
      refine RS.p (Pu.assign rfl) rfl rfl ?_
      refine RS.nil (hK14 _ _ ?_)
      obtain rfl := Option.some.inj H
      refine T.rt (Cont.ret1 rfl rfl fun w' s => ?_)
      exact ⟨rfl, s.ext⟩
    ·intro z23 H hJ18
     refine RS.split 46 rfl (fun hc17 => ?_) (fun hc17 => ?_)
     ·have H := ifT hc17 H
      refine RS.no rfl rfl ?_
      refine RS.no rfl rfl ?_
      refine RS.no rfl rfl ?_
      refine RS.no rfl rfl ?_
      refine RS.no rfl rfl ?_
      refine RS.p (Pu.pickT rfl rfl) rfl rfl ?_
      obtain rfl := Option.some.inj H
      exact hJ18 _ _ ⟨rfl, rfl, trivial⟩ (fun w s => s)
     ·have H := ifB hc17 H
      refine RS.p (Pu.move rfl) rfl rfl ?_
      refine RS.p (Pu.fieldAddr fd25_2 rfl) rfl rfl ?_
      refine RS.q (Qt.ldB 0 ty22 rfl rfl rfl) rfl rfl ?_
      obtain ⟨x24, hx24, H⟩ := bindE H
      refine RS.q (Qt.call (vs := [rowV q10 x9.length, .slice p0 a0_p.Free.length c0]) ent14 rfl fun w s => throngref0_EqBools_walk x9 a0_p.Free w ((Rd.ofRowN 2 rfl) w s) ((Rd.base h0) w s) hx24) rfl rfl ?_
      refine RS.p (Pu.not rfl) rfl rfl ?_
      refine RS.p (Pu.pickF rfl rfl) rfl rfl ?_
      obtain rfl := Option.some.inj H
      exact hJ18 _ _ ⟨rfl, rfl, trivial⟩ (fun w s => s)
   ·intro z25 H hJ15
    refine RS.splitP 40 rfl (fun hc14 => ?_) (fun hc14 => ?_)
    ·have H := ifT hc14 H
     refine RS.no rfl rfl ?_
     refine RS.no rfl rfl ?_
     refine RS.no rfl rfl ?_
     refine RS.no rfl rfl ?_
     refine RS.p (Pu.pickT rfl rfl) rfl rfl ?_
     obtain rfl := Option.some.inj H
     exact hJ15 _ _ ⟨rfl, rfl, rfl, rfl, trivial⟩ (fun w s => s)
    ·have H := ifF hc14 H
     refine RS.p (Pu.move rfl) rfl rfl ?_
     refine RS.p (Pu.move rfl) rfl rfl ?_
     obtain ⟨x26, hx26, H⟩ := bindE H
     refine RS.q (Qt.call (vs := [rowV q12 x11.1.length, rowV q8 v7.length]) ent13 rfl fun w s => throngref0_EqPortals_walk x11.1 v7 w ((Rd.ofRowN 3 rfl) w s) ((Rd.ofRowN 1 rfl) w s) hx26) rfl rfl ?_
     refine RS.p (Pu.not rfl) rfl rfl ?_
     refine RS.p (Pu.pickF rfl rfl) rfl rfl ?_
     obtain rfl := Option.some.inj H
     exact hJ15 _ _ ⟨rfl, rfl, rfl, rfl, trivial⟩ (fun w s => s)
  ·intro z5 H HX5 hJ5
   refine T.cond rfl (fun hc27 => ?_) (fun hc27 => ?_)
   ·have H := ifT hc27 H
    refine T.conseq (fr' := [(1, _)]) ?_ ⟨rfl, trivial⟩ (fun _ s => s)
    refine T.region ?_
    refine RS.p (Pu.fieldAddr fd25_0 rfl) rfl rfl ?_
    refine RS.q (Qt.ldB 0 ty3 rfl rfl rfl) rfl rfl ?_
    refine RS.p (Pu.fieldAddr fd25_1 rfl) rfl rfl ?_
    refine RS.q (Qt.ldB 0 ty3 rfl rfl rfl) rfl rfl ?_
    refine RS.p (Pu.fieldAddr fd25_2 rfl) rfl rfl ?_
    refine RS.q (Qt.ldB 0 ty22 rfl rfl rfl) rfl rfl ?_
    obtain ⟨x28, hx28, H⟩ := bindE H
    refine RS.solid (Sd.callN (vs := [.int .i64 a0_p.W, .int .i64 a0_p.H, .slice p0 a0_p.Free.length c0]) ent9 rfl (fun w s => throngref10_Find_walk a0_p.W a0_p.H a0_p.Free w ((Rd.base h0) w s) hx28)) rfl rfl fun q29 => ?_
    refine RS.p (Pu.assign rfl) rfl rfl ?_
    refine RS.p (Pu.assign rfl) rfl rfl ?_
    obtain rfl := Option.some.inj H
    refine RS.nil (hJ5 _ _ (0, x28) q29 HX5 ⟨rfl, trivial⟩ ⟨rfl, rfl, trivial⟩ (fun w s => s))
   ·have H := ifB hc27 H
    obtain rfl := Option.some.inj H
    refine T.skip (hJ5 _ _ (1, []) (none, 0) HX5 ⟨rfl, trivial⟩ ⟨rfl, rfl, trivial⟩ (fun w s => (s.nilRow (α := Prt) 40).pick [0, 1] (by decide) rfl))
end Go.Proofs.Ytddicdmleeaihaa
