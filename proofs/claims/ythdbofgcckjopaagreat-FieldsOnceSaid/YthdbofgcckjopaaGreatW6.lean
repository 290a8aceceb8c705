/-
  Texts of one's own, joined: LF LN LS.
-/
import Derived.Test.YthdbofgcckjopaaGreatRows
import Derived.Test.YthdbofgcckjopaaGreatW3
import Derived.Test.YthdbofgcckjopaaGreatLP
set_option linter.unusedVariables false
set_option linter.unusedSimpArgs false
set_option maxRecDepth 20000
set_option maxHeartbeats 4000000
namespace Go.Proofs.YthdbofgcckjopaaGreat
open Go.Vg
open Enc (R)
theorem ent144 : Ent Tryz.prog 144 := ⟨_, _, Tryz.func144, by kernel_rfl, rfl⟩
theorem ent145 : Ent Tryz.prog 145 := ⟨_, _, Tryz.func145, by kernel_rfl, rfl⟩
theorem ent146 : Ent Tryz.prog 146 := ⟨_, _, Tryz.func146, by kernel_rfl, rfl⟩
theorem ent169 : Ent Tryz.prog 169 := ⟨_, _, Tryz.func169, by kernel_rfl, rfl⟩
theorem ent17 : Ent Tryz.prog 17 := ⟨_, _, Tryz.func17, by kernel_rfl, rfl⟩
theorem ent170 : Ent Tryz.prog 170 := ⟨_, _, Tryz.func170, by kernel_rfl, rfl⟩
theorem ent35 : Ent Tryz.prog 35 := ⟨_, _, Tryz.func35, by kernel_rfl, rfl⟩
theorem ent43 : Ent Tryz.prog 43 := ⟨_, _, Tryz.func43, by kernel_rfl, rfl⟩
theorem ent49 : Ent Tryz.prog 49 := ⟨_, _, Tryz.func49, by kernel_rfl, rfl⟩
theorem fd79_0 : fdOff Tryz.prog 79 0 = some 0 := by kernel_rfl
theorem fd79_1 : fdOff Tryz.prog 79 1 = some 1 := by kernel_rfl
theorem fd79_2 : fdOff Tryz.prog 79 2 = some 2 := by kernel_rfl
theorem fd79_3 : fdOff Tryz.prog 79 3 = some 3 := by kernel_rfl
theorem fd79_4 : fdOff Tryz.prog 79 4 = some 6 := by kernel_rfl
theorem fd79_5 : fdOff Tryz.prog 79 5 = some 7 := by kernel_rfl
theorem fd79_6 : fdOff Tryz.prog 79 6 = some 8 := by kernel_rfl
theorem st79 : stTy Tryz.prog 79 = some ([.pointer none, .int .i64 0, .bool false, .int .i64 0, .int .i64 0, .slice none 0 0, .slice none 0 0, .map none, .map none, .int .i64 0], [(0, 1), (1, 1), (2, 1), (3, 3), (6, 1), (7, 1), (8, 1), (9, 1)]) := by kernel_rfl
theorem ty68 : tySz Tryz.prog 68 = some (1, false) := by kernel_rfl
theorem ty76 : tySz Tryz.prog 76 = some (1, false) := by kernel_rfl
theorem ty77 : tySz Tryz.prog 77 = some (1, false) := by kernel_rfl
theorem callFr {w0 : World} {P : Program} {f : FuncId} {vs : Array Value} {A B : List Ch} {ι : Type} {val : ι → Value} {A' : ι → List Ch} (hc : ∀ w, Sat w0 (A ++ [stars B]) w → Calls P f vs w fun e w' => ∃ i, e = .returned (val i) ∧ Sat w0 (A' i ++ [stars B]) w') {w : World} (s : Sat w0 (A ++ B) w) :
  Calls P f vs w fun e w' => ∃ i, e = .returned (val i) ∧ Sat w0 (A' i ++ B) w' :=
 (hc w (Sat.toStars B (G := A) s).rot).mono fun e w' ⟨i, h1, h2⟩ => ⟨i, h1, Sat.unstars B h2.rotB⟩
theorem fields_same_walk (a0_f : Fld) (a1_g : Grd) (a2_l : List Bld) (w : World) {z0 z1 z2 : Value} {v0 v1 v2 v3 : Value} {p0g : Nat} (hb0 : blk p0g [z0, .int .i64 a0_f.made, .bool a0_f.has, .int .i64 a0_f.g.w, .int .i64 a0_f.g.h, v0, v1, z1, z2, .int .i64 a0_f.count] 79 (hpOf w)) (h0 : R (hpOf w) a0_f.g.tiles [v0]) (h1 : R (hpOf w) a0_f.l [v1]) (h2 : R (hpOf w) a1_g.tiles [v2]) (h3 : R (hpOf w) a2_l [v3]) {r : Bool} (H : fields_same a0_f a1_g a2_l = some r) : Calls Tryz.prog 144 #[.pointer (some ⟨p0g, 0, none⟩), .agg #[.int .i64 a1_g.w, .int .i64 a1_g.h, v2], v3] w fun e w' => e = .returned (.bool r) ∧ Ext w w' := by
 have hm0 := R_max h0
 obtain ⟨p0, c0, rfl⟩ := R_form h0
 have hm1 := R_max h1
 obtain ⟨p1, c1, rfl⟩ := R_form h1
 have hm2 := R_max h2
 obtain ⟨p2, c2, rfl⟩ := R_form h2
 have hm3 := R_max h3
 obtain ⟨p3, c3, rfl⟩ := R_form h3
 unfold fields_same at H
 refine T.enter (args := [_, _, _]) (S := Sat w []) Tryz.func144 rfl rfl (Sat.start w) ?_
 refine T.seq fun K1 hK1 => T.region (RS.solid (Sd.box (cs := [_, _, _]) rfl rfl) rfl rfl fun b1 => rA rfl (RS.nil (hK1 _ _ ?_)))
 refine T.seq fun K2 hK2 => ?_
 refine T.drawn (fun _ => True) [(0, .pu), (1, .pu), (2, .pu), (3, .rd), (4, .pu), (5, .pu), (6, .pu), (7, .pu), (8, .pu), (9, .rd), (10, .pu), (11, .rd), (12, .pu), (13, .pu), (14, .pu), (15, .pu), (16, .pu), (17, .pu), (18, .pu), (19, .rd), (20, .pu), (21, .rd), (22, .pu), (23, .pu), (24, .pu), (25, .pu), (26, .pu), (27, .pu), (28, .rd), (29, .pu), (30, .rd), (31, .pu), (32, .pu), (33, .pu), (34, .pu), (35, .pu), (36, .pu), (37, .rd), (38, .pu), (39, .rd), (40, .rd), (41, .pu), (42, .pu)] mixed (ClE.sat _ _) (by kernel_rfl) ?_
 refine dp rfl (Pu.move rfl) (dp rfl (Pu.nilCheck rfl) (dp rfl (Pu.fieldAddr fd79_2 rfl) (dq rfl (Qt.ldX ty4 rfl hb0 (fun w s => s.ext) rfl) (dp rfl (Pu.move rfl) ?_))))
 refine RD.joinV 9 20 (.bool (decide ((a0_f.has = true) ∧ (a0_f.g.w = a1_g.w)))) [(0, _), (2, _), (4, _), (6, _)] ⟨rfl, rfl, rfl, rfl, trivial⟩ ?_ ?_
 ·refine dp rfl (Pu.move rfl) ?_
  refine RD.joinV 9 30 (.bool (decide (((a0_f.has = true) ∧ (a0_f.g.w = a1_g.w)) ∧ (a0_f.g.h = a1_g.h)))) [(0, _), (2, _), (4, _), (6, _)] ⟨rfl, rfl, rfl, rfl, trivial⟩ ?_ ?_
  ·refine dp rfl (Pu.move rfl) ?_
   refine RD.joinB H 7 38 (fun b8 => .bool b8) [(0, _), (4, _), (6, _)] ⟨rfl, rfl, rfl, trivial⟩ ?_ ?_
   ·intro b8 H
    refine dp rfl (Pu.move rfl) ?_
    refine RD.joinB H 9 48 (fun b11 => .bool b11) [(6, _)] ⟨rfl, trivial⟩ ?_ ?_
    ·intro b11 H
     refine dp rfl (Pu.assign rfl) (RD.nil (hK2 _ _ ?_))
     obtain rfl := sj H
     refine T.rt (Cont.ret1 rfl rfl fun w' s => ?_)
     exact ⟨rfl, s.ext⟩
    ·intro z12 H hJ10
     refine RD.split 39 rfl (fun hc9 => ?_) (fun hc9 => ?_)
     ·have H := ifT hc9 H
      refine dp rfl (Pu.move rfl) (dp rfl (Pu.nilCheck rfl) (dp rfl (Pu.fieldAddr fd79_3 rfl) (dp rfl (Pu.fieldAddr fd36_2 rfl) (dq rfl (Qt.ldX ty34 rfl hb0 (fun w s => s.ext) rfl) (dp rfl (Pu.fieldAddr fd36_2 rfl) (dq rfl (Qt.ldB 0 ty34 rfl rfl rfl) ?_))))))
      obtain ⟨x13, hx13, H⟩ := bindE H
      refine dq rfl (Qt.call (vs := [.slice p0 a0_f.g.tiles.length c0, .slice p2 a1_g.tiles.length c2]) ent170 rfl fun w s => slices_EqualBytes_walk a0_f.g.tiles a1_g.tiles w ((Rd.base h0) w s) ((Rd.base h2) w s) hx13) (dp rfl (Pu.pickT rfl rfl) ?_)
      obtain rfl := sj H
      exact hJ10 _ ⟨rfl, rfl, trivial⟩
     ·have H := ifB hc9 H
      refine dn rfl (dn rfl (dn rfl (dn rfl (dn rfl (dn rfl (dn rfl (dn rfl (dp rfl (Pu.pickF rfl rfl) ?_))))))))
      obtain rfl := sj H
      exact hJ10 _ ⟨rfl, rfl, trivial⟩
   ·intro z14 H hJ7
    refine RD.splitP 31 rfl (fun hc6 => ?_) (fun hc6 => ?_)
    ·have H := ifT hc6 H
     refine dp rfl (Pu.move rfl) (dp rfl (Pu.nilCheck rfl) (dp rfl (Pu.fieldAddr fd79_4 rfl) (dq rfl (Qt.ldX ty37 rfl hb0 (fun w s => s.ext) rfl) (dp rfl (Pu.move rfl) ?_))))
     obtain ⟨x15, hx15, H⟩ := bindE H
     refine dq rfl (Qt.call (vs := [.slice p1 a0_f.l.length c1, .slice p3 a2_l.length c3]) ent169 rfl fun w s => slices_EqualBld_walk a0_f.l a2_l w ((Rd.base h1) w s) ((Rd.base h3) w s) hx15) (dp rfl (Pu.pickT rfl rfl) ?_)
     obtain rfl := sj H
     exact hJ7 _ ⟨rfl, rfl, rfl, rfl, trivial⟩
    ·have H := ifF hc6 H
     refine dn rfl (dn rfl (dn rfl (dn rfl (dn rfl (dn rfl (dp rfl (Pu.pickF rfl rfl) ?_))))))
     obtain rfl := sj H
     exact hJ7 _ ⟨rfl, rfl, rfl, rfl, trivial⟩
  ·intro hJ5
   refine RD.splitP 21 rfl (fun hc4 => ?_) (fun hc4 => ?_)
   ·refine dp rfl (Pu.move rfl) (dp rfl (Pu.nilCheck rfl) (dp rfl (Pu.fieldAddr fd79_3 rfl) (dp rfl (Pu.fieldAddr fd36_1 rfl) (dq rfl (Qt.ldX ty3 rfl hb0 (fun w s => s.ext) rfl) (dp rfl (Pu.fieldAddr fd36_1 rfl) (dq rfl (Qt.ldB 0 ty3 rfl rfl rfl) (dp rfl (Pu.bin rfl rfl rfl) (dp rfl (Pu.pickT rfl rfl) ?_))))))))
    exact hJ5 _ ⟨dAndT hc4, rfl, rfl, rfl, rfl, trivial⟩
   ·refine dn rfl (dn rfl (dn rfl (dn rfl (dn rfl (dn rfl (dn rfl (dn rfl (dp rfl (Pu.pickF rfl rfl) ?_))))))))
    exact hJ5 _ ⟨dAndF hc4, rfl, rfl, rfl, rfl, trivial⟩
 ·intro hJ3
  refine RD.split 11 rfl (fun hc2 => ?_) (fun hc2 => ?_)
  ·refine dp rfl (Pu.move rfl) (dp rfl (Pu.nilCheck rfl) (dp rfl (Pu.fieldAddr fd79_3 rfl) (dp rfl (Pu.fieldAddr fd36_0 rfl) (dq rfl (Qt.ldX ty3 rfl hb0 (fun w s => s.ext) rfl) (dp rfl (Pu.fieldAddr fd36_0 rfl) (dq rfl (Qt.ldB 0 ty3 rfl rfl rfl) (dp rfl (Pu.bin rfl rfl rfl) (dp rfl (Pu.pickT rfl rfl) ?_))))))))
   exact hJ3 _ ⟨dAndT hc2, rfl, rfl, rfl, rfl, trivial⟩
  ·refine dn rfl (dn rfl (dn rfl (dn rfl (dn rfl (dn rfl (dn rfl (dn rfl (dp rfl (Pu.pickF rfl rfl) ?_))))))))
   exact hJ3 _ ⟨dAndF (bne_of hc2), rfl, rfl, rfl, rfl, trivial⟩
theorem fields_Forget_walk {w0 : World} {F : Ch} (gF gc : Nat) (c : Cach) {c' : Cach} (H : cache_Cache_Clear c = some c') {m h W Hh tv lv mv nv k : Value} (w : World) (s : Sat w0 [blk gF [.pointer (some ⟨gc, 0, none⟩), m, h, W, Hh, tv, lv, mv, nv, k] 79, Cach_ch gc c, F] w) : Calls Tryz.prog 17 #[.pointer (some ⟨gF, 0, none⟩)] w fun e w' => ∃ q : Nat × Nat, e = .returned (.tuple #[]) ∧ Sat w0 ([blk gF [.pointer (some ⟨gc, 0, none⟩), m, .bool false, W, Hh, tv, lv, .map (some q.1), .map (some q.2), k] 79, Cach_ch gc c', mapL q.1 [], mapL q.2 []] ++ [F]) w' := by
 refine T.enter (args := [_]) (S := Sat w0 [blk gF [.pointer (some ⟨gc, 0, none⟩), m, h, W, Hh, tv, lv, mv, nv, k] 79, Cach_ch gc c, F]) Tryz.func17 rfl rfl (s) ?_
 refine T.seq fun K1 hK1 => T.region (rM rfl (rp (Pu.nilCheck rfl) (rp (Pu.fieldAddr fd79_0 rfl) (rq (Qt.ldB 0 ty68 rfl rfl rfl) (RS.solid (Sd.callF0 1 ent43 rfl rfl (fun w s => cache_Cache_Clear_walk gc c H w s)) rfl rfl fun _ => RS.nil (hK1 _ _ (cq [(0, _)] ?_)))))))
 refine T.region (rM rfl (rM rfl (rM rfl (RS.solid Sd.makeMapL rfl rfl fun gn => ?_))))
 refine RS.solid Sd.makeMapL rfl rfl fun gw => ?_
 refine rp (Pu.nilCheck rfl) (rp (Pu.fieldAddr fd79_2 rfl) (RS.solid (Sd.stB (cs' := [_, _, _, _, _, _, _, _, _, _]) 0 ty4 rfl rfl rfl rfl rfl rfl rfl rfl) rfl rfl fun _ => rp (Pu.nilCheck rfl) (rp (Pu.fieldAddr fd79_5 rfl) (RS.solid (Sd.stB (cs' := [_, _, _, _, _, _, _, _, _, _]) 0 ty76 rfl rfl rfl rfl rfl rfl rfl rfl) rfl rfl fun _ => rp (Pu.nilCheck rfl) (rp (Pu.fieldAddr fd79_6 rfl) (RS.solid (Sd.stB (cs' := [_, _, _, _, _, _, _, _, _, _]) 0 ty77 rfl rfl rfl rfl rfl rfl rfl rfl) rfl rfl fun _ => RS.nil (Cont.end0 rfl fun w' s => ?_)))))))
 exact ⟨(gn, gw), rfl, s.pick [0, 1, 3, 4, 2] (by decide) rfl⟩
def fields_Made (x : Fld) : Option Int := some x.made
theorem fields_Made_walk {w0 : World} {F : Ch} (g0 : Nat) (x : Fld) {r : Int} (H : fields_Made x = some r) (w : World) (s : Sat w0 [Fld_ch g0 x, F] w) : Calls Tryz.prog 22 #[.pointer (some ⟨g0, 0, none⟩)] w fun e w' => e = .returned (.int .i64 r) ∧ Sat w0 [Fld_ch g0 x, F] w' := by
 refine T.enter (args := [_]) (S := Sat w0 [Fld_ch g0 x, F]) Tryz.func22 rfl rfl (s) ?_
 refine T.ex (fun w s => Fld_open 0 rfl s) fun q => ?_
 show T _ _ _ _ (Sat w0 [blk g0 [.pointer (some ⟨q.gc, 0, none⟩), .int .i64 x.made, .bool x.has, .int .i64 x.g.w, .int .i64 x.g.h, q.tv, q.lv, .map (some q.gn), .map (some q.gw), .int .i64 x.count] 79, F, Cach_ch q.gc x.c, mapL q.gn (raw q.N), mapL q.gw (raw q.W), fz q.hA]) _
 refine T.seq fun K1 hK1 => T.region (rA rfl (RS.nil (hK1 _ _ ?_)))
 refine T.seq fun K2 hK2 => T.region (rM rfl (rp (Pu.nilCheck rfl) (rp (Pu.fieldAddr fd79_1 rfl) (rq (Qt.call ent49 rfl fun w s => atomicLoad_walk (s.focus (k := 0) rfl) rfl) (rA rfl (RS.nil (hK2 _ _ (cq [(2, _)] ?_))))))))
 refine T.retTo (by with_reducible ((repeat (first | apply RetTo.seq | apply RetTo.blk)); exact RetTo.refl _)) (Cont.ret1 rfl rfl fun w' s => ?_)
 obtain rfl := sj H
 exact ⟨rfl, Fld_shut q (s.pick [1, 0, 2, 3, 4, 5] (by decide) rfl)⟩
theorem fields_New_no (room : Int) (H : cache_New room = some (none, 1)) (w : World) : Calls Tryz.prog 9 #[.int .i64 room] w fun e w' => e = .returned (.tuple #[.pointer none, .int .i64 1]) ∧ Ext w w' := by
 refine T.enter (args := [_]) (S := Sat w []) Tryz.func9 rfl rfl (Sat.start w) ?_
 refine T.seq fun K1 hK1 => T.region (rA rfl (rA rfl (RS.nil (hK1 _ _ ?_))))
 refine T.seq fun K2 hK2 => T.region (rM rfl (RS.solid (Sd.callN ent35 rfl (fun w s => cache_New_walk room w H)) rfl rfl fun gc => rM rfl (rp (Pu.extract rfl rfl) (rp (Pu.extract rfl rfl) (rA rfl (rA rfl (RS.nil (hK2 _ _ (cq [(4, _), (5, _)] ?_)))))))))
 refine T.seq fun K3 hK3 => T.seq fun K4 hK4 => T.region (rM rfl (rp (Pu.bin rfl rfl rfl) (RS.nil (hK4 _ _ ?_))))
 refine T.condP rfl (fun hc13 => ?_) (fun hc13 => ?_)
 ·refine cq [(5, _)] ?_
  refine T.seq fun K5 hK5 => T.region (rM rfl (rA rfl (rA rfl (RS.nil (hK5 _ _ ?_)))))
  refine T.retTo (by with_reducible ((repeat (first | apply RetTo.seq | apply RetTo.blk)); exact RetTo.refl _)) (Cont.ret2 rfl rfl rfl fun w' s => ?_)
  exact ⟨rfl, s.ext⟩
 ·exact absurd (by decide) hc13 -- end
theorem fields_New_ok (room : Int) {c c' : Cach} (H : cache_New room = some (some c, 0)) (H2 : cache_Cache_Clear c = some c') (w : World) : Calls Tryz.prog 9 #[.int .i64 room] w fun e w' => ∃ g : Nat, e = .returned (.tuple #[.pointer (some ⟨g, 0, none⟩), .int .i64 0]) ∧ Sat w [Fld_ch g ⟨c', 0, false, ⟨0, 0, []⟩, [], [], [], 0⟩] w' := by
 refine T.enter (args := [_]) (S := Sat w []) Tryz.func9 rfl rfl (Sat.start w) ?_
 refine T.seq fun K1 hK1 => T.region (rA rfl (rA rfl (RS.nil (hK1 _ _ ?_))))
 refine T.seq fun K2 hK2 => T.region (rM rfl (RS.solid (Sd.callN ent35 rfl (fun w s => cache_New_walk room w H)) rfl rfl fun gc => rM rfl (rp (Pu.extract rfl rfl) (rp (Pu.extract rfl rfl) (rA rfl (rA rfl (RS.nil (hK2 _ _ (cq [(4, _), (5, _)] ?_)))))))))
 refine T.seq fun K3 hK3 => T.seq fun K4 hK4 => T.region (rM rfl (rp (Pu.bin rfl rfl rfl) (RS.nil (hK4 _ _ ?_))))
 refine T.condP rfl (fun hc13 => ?_) (fun hc13 => ?_)
 ·exact absurd rfl hc13 -- end
 ·refine T.skip (hK3 _ _ (cq [(4, _)] ?_))
  refine T.seq fun K5 hK5 => ?_
  refine T.weakS (fun w s => s.optSome 0 rfl) ?_
  refine T.region (rM rfl (rp (Pu.build (cells := [_, _, _, _, _, _, _, _, _, _]) st79 rfl rfl) (RS.solid (Sd.box (cs := [_, _, _, _, _, _, _, _, _, _]) rfl rfl) rfl rfl fun b17 => rA rfl (RS.nil (hK5 _ _ (cq [(6, _)] ?_))))))
  refine T.seq fun K6 hK6 => T.region (rM rfl (RS.solid (Sd.call ent17 rfl (fun w s => callFr (A := [_, _]) (B := []) (fun w s => fields_Forget_walk b17 gc c H2 w s) (s.pick [1, 0] (by decide) rfl))) rfl rfl fun q => RS.nil (hK6 _ _ ?_)))
  refine T.seq fun K7 hK7 => T.region (rM rfl (rA rfl (rA rfl (RS.nil (hK7 _ _ (cq [(2, _), (3, _)] ?_))))))
  refine T.retTo (by with_reducible ((repeat (first | apply RetTo.seq | apply RetTo.blk)); exact RetTo.refl _)) (Cont.ret2 rfl rfl rfl fun w' s => ?_)
  obtain ⟨hA, _, s⟩ := s.newArena
  exact ⟨b17, rfl, Fld_shut (x := ⟨c', 0, false, ⟨0, 0, []⟩, [], [], [], 0⟩) ⟨gc, q.1, q.2, .slice none 0 0, .slice none 0 0, hA, [], [], rfl, rfl, by simp, by simp, ⟨none, 0, rfl, by simp, by simp, .inl rfl⟩, ⟨none, 0, rfl, by simp, by simp, .inl rfl⟩⟩ (s.pick [0, 1, 2, 3, 4] (by decide) rfl)⟩
theorem fields_New_walk (room : Int) (w : World) {r : Option Fld × Int} (H : fields_New room = some r) : Calls Tryz.prog 9 #[.int .i64 room] w fun e w' => ∃ g : Nat, e = .returned (.tuple #[.pointer (optA g r.1), .int .i64 r.2]) ∧ Sat w [optCh Fld_ch g r.1] w' := by
 unfold fields_New at H
 obtain ⟨y, hy, H⟩ := bindE H
 have h2 : y = (none, 1) ∨ ∃ c, y = (some c, 0) := by
  unfold cache_New at hy
  split at hy
  ·exact .inl (Option.some.inj hy).symm
  ·exact .inr ⟨_, (Option.some.inj hy).symm⟩
 rcases h2 with rfl | ⟨c, rfl⟩
 ·obtain rfl := sj H
  exact (fields_New_no room hy w).mono fun e w' ⟨he, hx⟩ => ⟨0, he, ((Sat.start w).grow hx).addEmpty dead fun _ => trivial⟩
 ·obtain ⟨c', hc, H⟩ := bindE H
  obtain rfl := sj H
  exact fields_New_ok room hy hc w
theorem fields_on_walk {w0 : World} {F : Ch} (g0 : Nat) (x : Fld) (g : Grd) (l : List Bld) {v0 v1 : Value} (h0 : Rd (Sat w0 [F]) g.tiles [v0]) (h1 : Rd (Sat w0 [F]) l [v1]) {r : Fld} (H : fields_on x g l = some r) (w : World) (s : Sat w0 [Fld_ch g0 x, F] w) : Calls Tryz.prog 111 #[.pointer (some ⟨g0, 0, none⟩), .agg #[.int .i64 g.w, .int .i64 g.h, v0], v1] w fun e w' => e = .returned (.tuple #[]) ∧ Sat w0 [Fld_ch g0 r, F] w' := by
 refine T.enter (args := [_, _, _]) (S := Sat w0 [Fld_ch g0 x, F]) Tryz.func111 rfl rfl (s) ?_
 refine T.ex (fun w s => Fld_open 0 rfl s) fun q => ?_
 show T _ _ _ _ (Sat w0 [blk g0 [.pointer (some ⟨q.gc, 0, none⟩), .int .i64 x.made, .bool x.has, .int .i64 x.g.w, .int .i64 x.g.h, q.tv, q.lv, .map (some q.gn), .map (some q.gw), .int .i64 x.count] 79, F, Cach_ch q.gc x.c, mapL q.gn (raw q.N), mapL q.gw (raw q.W), fz q.hA]) _
 unfold fields_on at H
 obtain ⟨b, hb, H⟩ := bindE H
 refine T.seq fun K1 hK1 => T.region (RS.solid (Sd.box (cs := [_, _, _]) rfl rfl) rfl rfl fun b4 => RS.nil (hK1 _ _ ?_))
 refine T.seq fun K2 hK2 => T.seq fun K3 hK3 => T.region (rM rfl (rq (Qt.ldBA (us := [_, _, _]) 6 ty36 rfl rfl rfl rfl) (rM rfl (rq (Qt.call ent144 rfl fun w s => fields_same_walk x g l w (s.getBlk (k := 0) rfl).1 (Rd.ofFz 5 rfl q.rt w s) (Rd.ofFz 5 rfl q.rl w s) (Rd.ofFrame 1 rfl h0 w s) (Rd.ofFrame 1 rfl h1 w s) hb) (RS.nil (hK3 _ _ ?_))))))
 refine T.cond rfl (fun hc9 => ?_) (fun hc9 => ?_)
 ·refine T.retTo (by with_reducible ((repeat (first | apply RetTo.seq | apply RetTo.blk)); exact RetTo.refl _)) (Cont.ret0 rfl fun w' s => ?_)
  rw [if_pos hc9] at H
  obtain rfl := sj H
  exact ⟨rfl, Fld_shut q (s.pick [1, 0, 2, 3, 4, 5] (by decide) rfl)⟩
 ·have H := ifB hc9 H
  obtain ⟨c', hc', H⟩ := bindE H
  obtain ⟨g', hg', H⟩ := bindE H
  obtain ⟨l', hl', H⟩ := bindE H
  obtain rfl := sj H
  refine T.skip (hK2 _ _ (cq [(0, _), (2, _), (4, _)] ?_))
  refine T.seq fun K4 hK4 => T.region (rM rfl (RS.solid (Sd.call ent17 rfl (fun w s => callFr (A := [_, _]) (B := [F, mapL q.gn (raw q.N), mapL q.gw (raw q.W), fz q.hA, _]) (fun w s => fields_Forget_walk g0 q.gc x.c hc' w s) (s.pick [0, 2, 1, 3, 4, 5, 6] (by decide) rfl))) rfl rfl fun p => RS.nil (hK4 _ _ ?_)))
  refine T.region (rM rfl (rM rfl (rM rfl (rq (Qt.ldBA (us := [_, _, _]) 8 ty36 rfl rfl rfl rfl) (RS.solid (Sd.callN ent145 rfl (fun w s => ground_Own_walk g w (Rd.ofFrame 4 rfl h0 w s) hg')) rfl rfl fun q1 => rM rfl (RS.solid (Sd.callN ent146 rfl (fun w s => slices_Clone_Bld_walk l w (Rd.ofFrame 4 rfl h1 w s) hl')) rfl rfl fun q2 => rp (Pu.nilCheck rfl) (rp (Pu.fieldAddr fd79_2 rfl) (RS.solid (Sd.stB (cs' := [_, _, _, _, _, _, _, _, _, _]) 0 ty4 rfl rfl rfl rfl rfl rfl rfl rfl) rfl rfl fun _ => rp (Pu.nilCheck rfl) (rp (Pu.fieldAddr fd79_3 rfl) (RS.solid (Sd.stB (cs' := [_, _, _, _, _, _, _, _, _, _]) 0 ty36 rfl rfl rfl rfl rfl rfl rfl rfl) rfl rfl fun _ => ?_))))))))))
  refine rp (Pu.nilCheck rfl) (rp (Pu.fieldAddr fd79_4 rfl) (RS.solid (Sd.stB (cs' := [_, _, _, _, _, _, _, _, _, _]) 0 ty37 rfl rfl rfl rfl rfl rfl rfl rfl) rfl rfl fun _ => RS.nil (Cont.end0 rfl fun w' s => ?_)))
  obtain ⟨hB, ⟨l1, p1, hp1, k1⟩, s⟩ := s.absorb 7 9 rfl rfl (by decide)
  obtain ⟨hC, ⟨l2, p2, hp2, k2⟩, s⟩ := s.absorb 7 10 rfl rfl (by decide)
  exact ⟨rfl, Fld_shut (x := ⟨c', x.made, true, g', l', [], [], x.count⟩) ⟨q.gc, p.1, p.2, rowV q1 g'.tiles.length, rowV q2 l'.length, hC, [], [], rfl, rfl, by simp, by simp, Enc.mono (Hp.le_trans k1 l2) (row_R hp1), Enc.mono k2 (row_R hp2)⟩ (s.pick [4, 0, 1, 2, 3, 7] (by decide) rfl)⟩
end Go.Proofs.YthdbofgcckjopaaGreat
set_option linter.unusedVariables false
set_option linter.unusedSimpArgs false
set_option maxRecDepth 20000
set_option maxHeartbeats 4000000
namespace Go.Proofs.YthdbofgcckjopaaGreat
open Go.Vg
open Enc (R)
theorem ent111 : Ent Tryz.prog 111 := ⟨_, _, Tryz.func111, by kernel_rfl, rfl⟩
theorem ent80 : Ent Tryz.prog 80 := ⟨_, _, Tryz.func80, by kernel_rfl, rfl⟩
theorem fd179_0 : fdOff Tryz.prog 179 0 = some 0 := by kernel_rfl
theorem fd179_1 : fdOff Tryz.prog 179 1 = some 3 := by kernel_rfl
theorem mpz76 : mpZ Tryz.prog 76 = some (.pointer none) := by kernel_rfl
theorem st179 : stTy Tryz.prog 179 = some ([.int .u32 0, .int .i32 0, .int .u32 0, .pointer none], [(0, 3), (3, 1)]) := by kernel_rfl
theorem ty177 : tySz Tryz.prog 177 = some (1, false) := by kernel_rfl
theorem ty27 : tySz Tryz.prog 27 = some (1, false) := by kernel_rfl
theorem ty98 : tySz Tryz.prog 98 = some (1, false) := by kernel_rfl
theorem ul177 : Tryz.prog.underlying 177 = some (.pointer 179) := by kernel_rfl
theorem zr177 : zeroOf Tryz.prog 177 = some (.pointer none) := by kernel_rfl
theorem cellOf {w : World} {b o : Nat} {cs : List Value} {e : TypeId} {v : Value} (h : w.heap[b]? = some (.cells cs.toArray e (0, 0))) (hv : cs[o]? = some v) : w.cell? ⟨b, o, none⟩ = some v := by
 simp [World.cell?, h, hv]
theorem Qt.ldH {w0 : World} {G : List Ch} {P : Program} {n : Nat} {fr : Fr} {dst : Option Tmp} {ty : TypeId} {pos : String} {aft : Array Edge} {gd : Option (Nat × Bool)} {t e : TypeId} {x : Operand} {b o : Nat} {cs : List Value} {v : Value} {H : Hp} (k : Nat) (hk : G[k]? = some (fz H)) (ht : tySz P t = some (1, false)) (hx : ev fr x = some (.pointer (some ⟨b, o, none⟩))) (hb : blk b cs e H) (hv : cs[o]? = some v) :
  Qt P n ⟨dst, .load t x, ty, pos, aft, gd⟩ fr (Sat w0 G) v := Qt.ld ht hx fun w s => cellOf (Held.fz k hk w s _ _ hb) hv
theorem Qt.lookP {w0 : World} {G : List Ch} {P : Program} {n : Nat} {fr : Fr} {dst : Option Tmp} {ty : TypeId} {pos : String} {aft : Array Edge} {gd : Option (Nat × Bool)} (k : Nat) {t : TypeId} {x y : Operand} {b : Nat} {L : List (Int × Value)} {i : Int} {z v : Value} (hv : (kget L i).getD z = v) (ht : mpZ P t = some z) (hx : ev fr x = some (.map (some b))) (hy : ev fr y = some (.int .i64 i)) (hk : G[k]? = some (mapL b L)) :
  Qt P n ⟨dst, .lookup t x y false, ty, pos, aft, gd⟩ fr (Sat w0 G) v := hv ▸ Qt.lookL1 k ht hx hy hk
theorem raw_get {α : Type} {L : List (Int × (Nat × α))} {k : Int} {z : Nat × α} (h : kget L k = some z) (d : Value) : (kget (raw L) k).getD d = pt z.1 := by
 unfold raw; rw [kget_mapV, h]; rfl
theorem raw_none {α : Type} {L : List (Int × (Nat × α))} {k : Int} (h : kget L k = none) (d : Value) : (kget (raw L) k).getD d = d := by
 unfold raw; rw [kget_mapV, h]; rfl
theorem raw_put {α : Type} {L : List (Int × (Nat × α))} {k : Int} (z : Nat × α) : kput (raw L) k (pt z.1) = raw (kput L k z) := kput_mapV _ _ _ _
theorem abs_put {α : Type} {L : List (Int × (Nat × α))} {k : Int} (z : Nat × α) : kput (abs L) k z.2 = abs (kput L k z) := kput_mapV _ _ _ _
theorem abs_get {α : Type} {L : List (Int × (Nat × α))} {k : Int} {x : α} (h : kget (abs L) k = some x) : ∃ z, kget L k = some z ∧ z.2 = x := by
 unfold abs at h; rw [kget_mapV] at h
 obtain ⟨z, h1, h2⟩ := Option.map_eq_some_iff.1 h
 exact ⟨z, h1, h2⟩
theorem abs_none {α : Type} {L : List (Int × (Nat × α))} {k : Int} (h : kget (abs L) k = none) : kget L k = none := by
 unfold abs at h; rw [kget_mapV] at h
 exact Option.map_eq_none_iff.1 h
theorem put_get {β : Type} (L : List (Int × β)) (k : Int) (v d : β) : (kget (kput L k v) k).getD d = v := by rw [kget_put, if_pos rfl]; rfl
theorem net1_walk {w0 : World} {F : Ch} (bx gF b5 b8 b9 b12 : Nat) (hA : Hp) (g : Grd) (l : List Bld) (cls size : Int) {n : Net} (H : field_Open g l cls size = some n) {sv c0 m hs tv lv mv nv k : Value} (rt : R hA g.tiles [tv]) (rl : R hA l [lv]) (w : World) (s : Sat w0 [blk bx [.int .u32 0, .int .i32 1, sv, .pointer none] 179, blk gF [c0, m, hs, .int .i64 g.w, .int .i64 g.h, tv, lv, mv, nv, k] 79, blk b5 [.pointer (some ⟨gF, 0, none⟩)] 27, blk b8 [.int .i64 cls] 3, blk b9 [.int .i64 size] 3, blk b12 [.pointer (some ⟨bx, 0, none⟩)] 177, fz hA, F] w) : Calls Tryz.prog 112 #[.pointer (some ⟨b5, 0, none⟩), .pointer (some ⟨b8, 0, none⟩), .pointer (some ⟨b9, 0, none⟩), .pointer (some ⟨b12, 0, none⟩)] w fun e w' => e = .returned (.tuple #[]) ∧ ∃ p : Nat × (Option Nat × Nat), Sat w0 [blk bx [.int .u32 0, .int .i32 1, sv, .pointer (some ⟨p.1, 0, none⟩)] 179, blk gF [c0, m, hs, .int .i64 g.w, .int .i64 g.h, tv, lv, mv, nv, k] 79, blk b5 [.pointer (some ⟨gF, 0, none⟩)] 27, blk b8 [.int .i64 cls] 3, blk b9 [.int .i64 size] 3, blk b12 [.pointer (some ⟨bx, 0, none⟩)] 177, fz hA, blk p.1 [.int .i64 n.g.w, .int .i64 n.g.h, tv, .int .i64 n.cls, rowV p.2 n.free.length] 101, row nilH 4 (rowV p.2 n.free.length) n.free, F] w' := by
 refine T.enter (args := [_, _, _, _]) (S := Sat w0 [blk bx [.int .u32 0, .int .i32 1, sv, .pointer none] 179, blk gF [c0, m, hs, .int .i64 g.w, .int .i64 g.h, tv, lv, mv, nv, k] 79, blk b5 [.pointer (some ⟨gF, 0, none⟩)] 27, blk b8 [.int .i64 cls] 3, blk b9 [.int .i64 size] 3, blk b12 [.pointer (some ⟨bx, 0, none⟩)] 177, fz hA, F]) Tryz.func112 rfl rfl (s) ?_
 refine T.drawn (fun _ => True) [(0, .rd), (1, .rd), (2, .pu), (3, .pu), (4, .rd), (5, .rd), (6, .pu), (7, .pu), (8, .rd), (9, .rd), (10, .rd), (11, .so), (12, .pu), (13, .pu), (14, .br)] mixed (ClE.sat _ _) (by kernel_rfl) ?_
 refine dq rfl (Qt.ldB 5 ty177 rfl rfl rfl) (dq rfl (Qt.ldB 2 ty27 rfl rfl rfl) (dp rfl (Pu.nilCheck rfl) (dp rfl (Pu.fieldAddr fd79_3 rfl) (dq rfl (Qt.ldBA (us := [_, _, _]) 1 ty36 rfl rfl rfl rfl) (dq rfl (Qt.ldB 2 ty27 rfl rfl rfl) (dp rfl (Pu.nilCheck rfl) (dp rfl (Pu.fieldAddr fd79_4 rfl) (dq rfl (Qt.ldB 1 ty37 rfl rfl rfl) (dq rfl (Qt.ldB 3 ty3 rfl rfl rfl) (dq rfl (Qt.ldB 4 ty3 rfl rfl rfl) (RD.solid rfl (.inl rfl) rfl rfl (Sd.callN ent55 rfl (fun w s => field_Open_walk g l cls size w (Rd.ofFz 6 rfl rt w s) (Rd.ofFz 6 rfl rl w s) H)) (fun _ => ClE.sat _ _) (fun _ _ _ => trivial) (fun _ _ _ s => s.drop1) fun p => ?_)))))))))))
 refine dp rfl (Pu.nilCheck rfl) (dp rfl (Pu.fieldAddr fd179_1 rfl) (RD.solid rfl (.inr rfl) rfl rfl (Sd.stB (cs' := [_, _, _, _]) 0 ty98 rfl rfl rfl rfl rfl rfl rfl rfl) (fun _ => ClE.sat _ _) (fun _ _ _ => trivial) (fun h => nomatch h) fun _ => ?_))
 refine RD.nil (Cont.end0 rfl fun w' s => ?_)
 exact ⟨rfl, p, s.pick [0, 1, 2, 3, 4, 5, 6, 8, 9, 7] (by decide) rfl⟩
theorem net_do {w0 : World} {F : Ch} (bx gF b5 b8 b9 b12 : Nat) (hA : Hp) (g : Grd) (l : List Bld) (cls size : Int) {n : Net} (H : field_Open g l cls size = some n) {sv c0 m hs tv lv mv nv k : Value} (rt : R hA g.tiles [tv]) (rl : R hA l [lv]) (w : World) (s : Sat w0 [blk bx [.int .u32 0, .int .i32 0, sv, .pointer none] 179, blk gF [c0, m, hs, .int .i64 g.w, .int .i64 g.h, tv, lv, mv, nv, k] 79, blk b5 [.pointer (some ⟨gF, 0, none⟩)] 27, blk b8 [.int .i64 cls] 3, blk b9 [.int .i64 size] 3, blk b12 [.pointer (some ⟨bx, 0, none⟩)] 177, fz hA, F] w) :
  Calls Tryz.prog 80 #[.pointer (some ⟨bx, 0, none⟩), .func (.func 112) #[] #[.pointer (some ⟨b5, 0, none⟩), .pointer (some ⟨b8, 0, none⟩), .pointer (some ⟨b9, 0, none⟩), .pointer (some ⟨b12, 0, none⟩)]] w fun e w' => ∃ p : Nat × (Option Nat × Nat), e = .returned (.tuple #[]) ∧ Sat w0 ([blk bx [.int .u32 1, .int .i32 0, sv, .pointer (some ⟨p.1, 0, none⟩)] 179, blk gF [c0, m, hs, .int .i64 g.w, .int .i64 g.h, tv, lv, mv, nv, k] 79, blk b5 [.pointer (some ⟨gF, 0, none⟩)] 27, blk b8 [.int .i64 cls] 3, blk b9 [.int .i64 size] 3, blk b12 [.pointer (some ⟨bx, 0, none⟩)] 177, fz hA, blk p.1 [.int .i64 n.g.w, .int .i64 n.g.h, tv, .int .i64 n.cls, rowV p.2 n.free.length] 101, row nilH 4 (rowV p.2 n.free.length) n.free] ++ [F]) w' := by
 refine (once_112 ⟨b5, 0, none⟩ ⟨b8, 0, none⟩ ⟨b9, 0, none⟩ ⟨b12, 0, none⟩ s (k := 0) rfl (fun p : Nat × (Option Nat × Nat) => [blk bx [.int .u32 0, .int .i32 1, sv, .pointer (some ⟨p.1, 0, none⟩)] 179, blk gF [c0, m, hs, .int .i64 g.w, .int .i64 g.h, tv, lv, mv, nv, k] 79, blk b5 [.pointer (some ⟨gF, 0, none⟩)] 27, blk b8 [.int .i64 cls] 3, blk b9 [.int .i64 size] 3, blk b12 [.pointer (some ⟨bx, 0, none⟩)] 177, fz hA, blk p.1 [.int .i64 n.g.w, .int .i64 n.g.h, tv, .int .i64 n.cls, rowV p.2 n.free.length] 101, row nilH 4 (rowV p.2 n.free.length) n.free, F]) (fun p => [sv, .pointer (some ⟨p.1, 0, none⟩)]) (fun _ => rfl) (fun w1 s1 => net1_walk bx gF b5 b8 b9 b12 hA g l cls size H rt rl w1 s1)).mono ?_
 rintro e w' ⟨he, p, s'⟩
 exact ⟨p, he, s'⟩
theorem net_done_walk {w0 : World} {F : Ch} (g0 : Nat) (x : Fld) (g : Grd) (l : List Bld) (cls size : Int) {v0 v1 : Value} (h0 : Rd (Sat w0 [F]) g.tiles [v0]) (h1 : Rd (Sat w0 [F]) l [v1]) {x1 : Fld} (H1 : fields_on x g l = some x1) (g1 : I64 (4 * cls)) (g2 : I64 (4 * cls + size)) {n : Net} (K : kget x1.nets (4 * cls + size) = some n) (w : World) (s : Sat w0 [Fld_ch g0 x, F] w) : Calls Tryz.prog 76 #[.pointer (some ⟨g0, 0, none⟩), .agg #[.int .i64 g.w, .int .i64 g.h, v0], v1, .int .i64 cls, .int .i64 size] w fun e w' => ∃ z : {z : FldIn x1 × Nat // NetB z.1.hA z.2 n}, e = .returned (.pointer (some ⟨z.1.2, 0, none⟩)) ∧ Sat w0 ([blk g0 [.pointer (some ⟨z.1.1.gc, 0, none⟩), .int .i64 x1.made, .bool x1.has, .int .i64 x1.g.w, .int .i64 x1.g.h, z.1.1.tv, z.1.1.lv, .map (some z.1.1.gn), .map (some z.1.1.gw), .int .i64 x1.count] 79, Cach_ch z.1.1.gc x1.c, mapL z.1.1.gn (raw z.1.1.N), mapL z.1.1.gw (raw z.1.1.W), fz z.1.1.hA] ++ [F]) w' := by
 refine T.enter (args := [_, _, _, _, _]) (S := Sat w0 [Fld_ch g0 x, F]) Tryz.func76 rfl rfl (s) ?_
 refine T.seq fun K1 hK1 => T.region (RS.solid (Sd.box (cs := [_]) rfl rfl) rfl rfl fun b5 => RS.solid (Sd.box (cs := [_, _, _]) rfl rfl) rfl rfl fun b6 => RS.solid (Sd.box (cs := [_]) rfl rfl) rfl rfl fun b8 => RS.solid (Sd.box (cs := [_]) rfl rfl) rfl rfl fun b9 => rA rfl (RS.nil (hK1 _ _ (cq [(2, _), (5, _), (6, _), (8, _), (9, _)] ?_))))
 refine T.seq fun K2 hK2 => T.region (rq (Qt.ldB 2 ty27 rfl rfl rfl) (rq (Qt.ldBA (us := [_, _, _]) 3 ty36 rfl rfl rfl rfl) (rM rfl (RS.solid (Sd.callF0 0 ent111 rfl rfl (fun w s => fields_on_walk g0 x g l (Rd.rest 1 rfl (by decide) h0) (Rd.rest 1 rfl (by decide) h1) H1 w s)) rfl rfl fun _ => RS.nil (hK2 _ _ (cq [(5, _), (8, _), (9, _)] ?_))))))
 refine T.seq fun K3 hK3 => T.region (rq (Qt.ldB 4 ty3 rfl rfl rfl) (rp (Pu.mulS rfl rfl g1) (rq (Qt.ldB 5 ty3 rfl rfl rfl) (rp (Pu.addS rfl rfl g2) (rA rfl (RS.nil (hK3 _ _ (cq [(5, _), (8, _), (9, _), (11, _)] ?_))))))))
 refine T.seq fun K4 hK4 => T.seq fun K5 hK5 => ?_
 refine T.ex (fun w s => Fld_open 0 rfl s) fun q => ?_
 show T _ _ _ _ (Sat w0 [blk g0 [.pointer (some ⟨q.gc, 0, none⟩), .int .i64 x1.made, .bool x1.has, .int .i64 x1.g.w, .int .i64 x1.g.h, q.tv, q.lv, .map (some q.gn), .map (some q.gw), .int .i64 x1.count] 79, F, blk b5 [.pointer (some ⟨g0, 0, none⟩)] 27, blk b6 [.int .i64 g.w, .int .i64 g.h, v0] 36, blk b8 [.int .i64 cls] 3, blk b9 [.int .i64 size] 3, Cach_ch q.gc x1.c, mapL q.gn (raw q.N), mapL q.gw (raw q.W), fz q.hA]) _
 obtain ⟨z, hz, hzn⟩ := abs_get (q.hN ▸ K)
 obtain ⟨sv, nb, a1, a2⟩ := q.aN _ (kget_mem hz)
 refine T.region (rq (Qt.ldB 2 ty27 rfl rfl rfl) (rp (Pu.nilCheck rfl) (rp (Pu.fieldAddr fd79_5 rfl) (rq (Qt.ldB 0 ty76 rfl rfl rfl) (rM rfl (rq (Qt.lookP 7 (raw_get hz _) mpz76 rfl rfl rfl) (rp (Pu.eqNil ul177 rfl) (RS.nil (hK5 _ _ ?_)))))))))
 refine T.cond rfl (fun hc27 => ?_) (fun hc27 => ?_)
 ·cases hc27 -- end
 ·refine T.skip (hK4 _ _ (cq [(5, _), (8, _), (9, _), (11, _)] ?_))
  refine T.seq fun K6 hK6 => T.region (rq (Qt.ldB 2 ty27 rfl rfl rfl) (rp (Pu.nilCheck rfl) (rp (Pu.fieldAddr fd79_5 rfl) (rq (Qt.ldB 0 ty76 rfl rfl rfl) (rM rfl (rq (Qt.lookP 7 (raw_get hz _) mpz76 rfl rfl rfl) (RS.solid (Sd.alloc zr177 rfl) rfl rfl fun b12 => RS.solid (Sd.stB (cs' := [_]) 10 ty177 rfl rfl rfl rfl rfl rfl rfl rfl) rfl rfl fun _ => RS.nil (hK6 _ _ (cq [(5, _), (8, _), (9, _), (12, _)] ?_)))))))))
  refine T.seq fun K7 hK7 => T.region (rq (Qt.ldB 10 ty177 rfl rfl rfl) (rp (Pu.nilCheck rfl) (rp (Pu.fieldAddr fd179_0 rfl) (rp (Pu.makeFunc (cs := [_, _, _, _]) rfl) (rq (Qt.call ent80 rfl fun w s => (do_done ⟨z.1, 0, none⟩ _ w (cellOf (Held.fz 9 rfl w s _ _ a1) rfl)).mono fun e w' ⟨he, hw⟩ => ⟨he, hw ▸ Ext.refl w⟩) (RS.nil (hK7 _ _ (cq [(12, _)] ?_))))))))
  refine T.seq fun K8 hK8 => T.region (rq (Qt.ldB 10 ty177 rfl rfl rfl) (rp (Pu.nilCheck rfl) (rp (Pu.fieldAddr fd179_1 rfl) (rq (Qt.ldH 9 rfl ty98 rfl a1 rfl) (rA rfl (RS.nil (hK8 _ _ (cq [(10, _)] ?_))))))))
  refine T.retTo (by with_reducible ((repeat (first | apply RetTo.seq | apply RetTo.blk)); exact RetTo.refl _)) (Cont.ret1 rfl rfl fun w' s => ?_)
  subst hzn
  exact ⟨⟨(q, nb), a2⟩, rfl, s.pick [0, 6, 7, 8, 9, 1] (by decide) rfl⟩
theorem net_new_walk {w0 : World} {F : Ch} (g0 : Nat) (x : Fld) (g : Grd) (l : List Bld) (cls size : Int) {v0 v1 : Value} (h0 : Rd (Sat w0 [F]) g.tiles [v0]) (h1 : Rd (Sat w0 [F]) l [v1]) {x1 : Fld} (H1 : fields_on x g l = some x1) (g1 : I64 (4 * cls)) (g2 : I64 (4 * cls + size)) {n : Net} (K : kget x1.nets (4 * cls + size) = none) (H2 : field_Open x1.g x1.l cls size = some n) (w : World) (s : Sat w0 [Fld_ch g0 x, F] w) : Calls Tryz.prog 76 #[.pointer (some ⟨g0, 0, none⟩), .agg #[.int .i64 g.w, .int .i64 g.h, v0], v1, .int .i64 cls, .int .i64 size] w fun e w' => ∃ z : {z : FldIn (⟨x1.c, x1.made, x1.has, x1.g, x1.l, kput x1.nets (4 * cls + size) n, x1.ways, x1.count⟩ : Fld) × Nat // NetB z.1.hA z.2 n}, e = .returned (.pointer (some ⟨z.1.2, 0, none⟩)) ∧ Sat w0 ([blk g0 [.pointer (some ⟨z.1.1.gc, 0, none⟩), .int .i64 (⟨x1.c, x1.made, x1.has, x1.g, x1.l, kput x1.nets (4 * cls + size) n, x1.ways, x1.count⟩ : Fld).made, .bool (⟨x1.c, x1.made, x1.has, x1.g, x1.l, kput x1.nets (4 * cls + size) n, x1.ways, x1.count⟩ : Fld).has, .int .i64 (⟨x1.c, x1.made, x1.has, x1.g, x1.l, kput x1.nets (4 * cls + size) n, x1.ways, x1.count⟩ : Fld).g.w, .int .i64 (⟨x1.c, x1.made, x1.has, x1.g, x1.l, kput x1.nets (4 * cls + size) n, x1.ways, x1.count⟩ : Fld).g.h, z.1.1.tv, z.1.1.lv, .map (some z.1.1.gn), .map (some z.1.1.gw), .int .i64 (⟨x1.c, x1.made, x1.has, x1.g, x1.l, kput x1.nets (4 * cls + size) n, x1.ways, x1.count⟩ : Fld).count] 79, Cach_ch z.1.1.gc (⟨x1.c, x1.made, x1.has, x1.g, x1.l, kput x1.nets (4 * cls + size) n, x1.ways, x1.count⟩ : Fld).c, mapL z.1.1.gn (raw z.1.1.N), mapL z.1.1.gw (raw z.1.1.W), fz z.1.1.hA] ++ [F]) w' := by
 refine T.enter (args := [_, _, _, _, _]) (S := Sat w0 [Fld_ch g0 x, F]) Tryz.func76 rfl rfl (s) ?_
 refine T.seq fun K1 hK1 => T.region (RS.solid (Sd.box (cs := [_]) rfl rfl) rfl rfl fun b5 => RS.solid (Sd.box (cs := [_, _, _]) rfl rfl) rfl rfl fun b6 => RS.solid (Sd.box (cs := [_]) rfl rfl) rfl rfl fun b8 => RS.solid (Sd.box (cs := [_]) rfl rfl) rfl rfl fun b9 => rA rfl (RS.nil (hK1 _ _ (cq [(2, _), (5, _), (6, _), (8, _), (9, _)] ?_))))
 refine T.seq fun K2 hK2 => T.region (rq (Qt.ldB 2 ty27 rfl rfl rfl) (rq (Qt.ldBA (us := [_, _, _]) 3 ty36 rfl rfl rfl rfl) (rM rfl (RS.solid (Sd.callF0 0 ent111 rfl rfl (fun w s => fields_on_walk g0 x g l (Rd.rest 1 rfl (by decide) h0) (Rd.rest 1 rfl (by decide) h1) H1 w s)) rfl rfl fun _ => RS.nil (hK2 _ _ (cq [(5, _), (8, _), (9, _)] ?_))))))
 refine T.seq fun K3 hK3 => T.region (rq (Qt.ldB 4 ty3 rfl rfl rfl) (rp (Pu.mulS rfl rfl g1) (rq (Qt.ldB 5 ty3 rfl rfl rfl) (rp (Pu.addS rfl rfl g2) (rA rfl (RS.nil (hK3 _ _ (cq [(5, _), (8, _), (9, _), (11, _)] ?_))))))))
 refine T.seq fun K4 hK4 => T.seq fun K5 hK5 => ?_
 refine T.ex (fun w s => Fld_open 0 rfl s) fun q => ?_
 show T _ _ _ _ (Sat w0 [blk g0 [.pointer (some ⟨q.gc, 0, none⟩), .int .i64 x1.made, .bool x1.has, .int .i64 x1.g.w, .int .i64 x1.g.h, q.tv, q.lv, .map (some q.gn), .map (some q.gw), .int .i64 x1.count] 79, F, blk b5 [.pointer (some ⟨g0, 0, none⟩)] 27, blk b6 [.int .i64 g.w, .int .i64 g.h, v0] 36, blk b8 [.int .i64 cls] 3, blk b9 [.int .i64 size] 3, Cach_ch q.gc x1.c, mapL q.gn (raw q.N), mapL q.gw (raw q.W), fz q.hA]) _
 have K2 := abs_none (q.hN ▸ K)
 refine T.region (rq (Qt.ldB 2 ty27 rfl rfl rfl) (rp (Pu.nilCheck rfl) (rp (Pu.fieldAddr fd79_5 rfl) (rq (Qt.ldB 0 ty76 rfl rfl rfl) (rM rfl (rq (Qt.lookP 7 (raw_none K2 _) mpz76 rfl rfl rfl) (rp (Pu.eqNil ul177 rfl) (RS.nil (hK5 _ _ ?_)))))))))
 refine T.cond rfl (fun hc27 => ?_) (fun hc27 => ?_)
 ·refine cq [(5, _), (8, _), (9, _), (11, _)] ?_
  refine T.region (rq (Qt.ldB 2 ty27 rfl rfl rfl) (rp (Pu.nilCheck rfl) (rp (Pu.fieldAddr fd79_5 rfl) (rq (Qt.ldB 0 ty76 rfl rfl rfl) (rM rfl (rp (Pu.build (cells := [_, _, _, _]) st179 rfl rfl) (RS.solid (Sd.box (cs := [_, _, _, _]) rfl rfl) rfl rfl fun b34 => RS.solid (Sd.mapPut 7 mpz76 rfl rfl rfl rfl) rfl rfl fun _ => RS.nil (hK4 _ _ (cq [(5, _), (8, _), (9, _), (11, _)] ?_)))))))))
  refine T.seq fun K6 hK6 => T.region (rq (Qt.ldB 2 ty27 rfl rfl rfl) (rp (Pu.nilCheck rfl) (rp (Pu.fieldAddr fd79_5 rfl) (rq (Qt.ldB 0 ty76 rfl rfl rfl) (rM rfl (rq (Qt.lookP 7 (put_get _ _ _ _) mpz76 rfl rfl rfl) (RS.solid (Sd.alloc zr177 rfl) rfl rfl fun b12 => RS.solid (Sd.stB (cs' := [_]) 11 ty177 rfl rfl rfl rfl rfl rfl rfl rfl) rfl rfl fun _ => RS.nil (hK6 _ _ (cq [(5, _), (8, _), (9, _), (12, _)] ?_)))))))))
  refine T.seq fun K7 hK7 => T.region (rq (Qt.ldB 11 ty177 rfl rfl rfl) (rp (Pu.nilCheck rfl) (rp (Pu.fieldAddr fd179_0 rfl) (rp (Pu.makeFunc (cs := [_, _, _, _]) rfl) (RS.solid (Sd.call ent80 rfl (fun w s => callFr (A := [_, _, _, _, _, _, _]) (B := [_, _, _, _, _]) (fun w s => net_do b34 g0 b5 b8 b9 b12 q.hA x1.g x1.l cls size H2 q.rt q.rl w s) (s.pick [10, 0, 2, 4, 5, 11, 9, 1, 3, 6, 7, 8] (by decide) rfl))) rfl rfl fun p => RS.nil (hK7 _ _ (cq [(12, _)] ?_)))))))
  refine T.seq fun K8 hK8 => T.region (rq (Qt.ldB 5 ty177 rfl rfl rfl) (rp (Pu.nilCheck rfl) (rp (Pu.fieldAddr fd179_1 rfl) (rq (Qt.ldB 0 ty98 rfl rfl rfl) (rA rfl (RS.nil (hK8 _ _ (cq [(10, _)] ?_))))))))
  refine T.retTo (by with_reducible ((repeat (first | apply RetTo.seq | apply RetTo.blk)); exact RetTo.refl _)) (Cont.ret1 rfl rfl fun w' s => ?_)
  obtain ⟨hB, ⟨l1, p1, hp1, k1⟩, s⟩ := s.absorb 6 8 rfl rfl (by decide)
  obtain ⟨hC, ⟨l2, p2, hp2, k2⟩, s⟩ := s.absorb 6 7 rfl rfl (by decide)
  obtain ⟨hD, ⟨l3, p3, hp3, k3⟩, s⟩ := s.absorb 6 0 rfl rfl (by decide)
  have hg : n.g = x1.g := by
   unfold field_Open at H2
   obtain ⟨y, _, H2⟩ := bindE H2
   cases H2; rfl
  have nb : NetB hD p.1 n := ⟨_, _, l3 _ _ (k2 _ _ hp2), Enc.mono (Hp.le_trans (Hp.le_trans l1 l2) l3) (by rw [hg]; exact q.rt), Enc.mono (Hp.le_trans k1 (Hp.le_trans l2 l3)) (row_R hp1)⟩
  have hl : q.hA.le hD := Hp.le_trans (Hp.le_trans l1 l2) l3
  refine ⟨⟨(⟨q.gc, q.gn, q.gw, q.tv, q.lv, hD, kput q.N (4 * cls + size) (b34, n), q.W, ?_, q.hW, ?_, fun e he => (q.aW e he).mono hl, Enc.mono hl q.rt, Enc.mono hl q.rl⟩, p.1), nb⟩, rfl, ?_⟩
  ·show kput x1.nets _ n = _
   rw [q.hN]; exact abs_put (b34, n)
  ·intro e he
   rcases mem_kput he with rfl | ⟨he, _⟩
   ·exact ⟨_, p.1, k3 _ _ hp3, nb⟩
   ·exact (q.aN e he).mono hl
  ·have e1 := raw_put (L := q.N) (k := 4 * cls + size) (b34, n)
   have s2 := s.pick (G' := [blk g0 [.pointer (some ⟨q.gc, 0, none⟩), .int .i64 x1.made, .bool x1.has, .int .i64 x1.g.w, .int .i64 x1.g.h, q.tv, q.lv, .map (some q.gn), .map (some q.gw), .int .i64 x1.count] 79, Cach_ch q.gc x1.c, mapL q.gn (kput (raw q.N) (4 * cls + size) (pt b34)), mapL q.gw (raw q.W), fz hD, F]) [1, 11, 12, 13, 6, 9] (by decide) rfl
   rw [e1] at s2
   exact s2
 ·cases hc27 -- end
end Go.Proofs.YthdbofgcckjopaaGreat
set_option linter.unusedVariables false
set_option linter.unusedSimpArgs false
set_option maxRecDepth 20000
set_option maxHeartbeats 4000000
namespace Go.Proofs.YthdbofgcckjopaaGreat
open Go.Vg
open Enc (R)
attribute [local go_sem] Oper.semAt_some
theorem ent114 : Ent Tryz.prog 114 := ⟨_, _, Tryz.func114, by kernel_rfl, rfl⟩
theorem ent115 : Ent Tryz.prog 115 := ⟨_, _, Tryz.func115, by kernel_rfl, rfl⟩
theorem ent149 : Ent Tryz.prog 149 := ⟨_, _, Tryz.func149, by kernel_rfl, rfl⟩
theorem ent77 : Ent Tryz.prog 77 := ⟨_, _, Tryz.func77, by kernel_rfl, rfl⟩
theorem mpz77 : mpZ Tryz.prog 77 = some (.pointer none) := by kernel_rfl
theorem zr77 : zeroOf Tryz.prog 77 = some (.map none) := by kernel_rfl
theorem back_make (q : Option Nat × Nat) (n : Nat) (w : World) : Calls Tryz.prog 115 #[rowV q n] w fun e w' => ∃ b : Nat, e = .returned (.func (.func 149) #[] #[.pointer (some ⟨b, 0, none⟩)]) ∧ Sat w [blk b [rowV q n] 23] w' := by
 refine T.enter (args := [_]) (S := Sat w []) Tryz.func115 rfl rfl (Sat.start w) ?_
 refine T.seq fun K1 hK1 => ?_
 refine T.region ?_
 refine RS.solid (Sd.box (cs := [_]) rfl rfl) rfl rfl fun b1 => ?_
 refine RS.p (Pu.assign rfl) rfl rfl ?_
 refine RS.nil (hK1 _ _ ?_)
 refine T.seq fun K2 hK2 => ?_
 refine T.region ?_
 refine RS.p (Pu.makeFunc (cs := [_]) rfl) rfl rfl ?_
 refine RS.p (Pu.assign rfl) rfl rfl ?_
 refine RS.nil (hK2 _ _ ?_)
 refine T.retTo (by with_reducible ((repeat (first | apply RetTo.seq | apply RetTo.blk)); exact RetTo.refl _)) (Cont.ret1 rfl rfl fun w' s => ?_)
 exact ⟨b1, rfl, s⟩
theorem run_yieldV {P : Program} {n : Nat} {fr : Fr} {dst : Option Tmp} {ty : TypeId} {pos : String} {aft : Array Edge} {gd : Option (Nat × Bool)} {l : Nat} {xo : Operand} {xs : List Operand} {ts : Array TypeId} {vs : List Value} (hv : ev fr xo = some (.func (.yield l) #[] #[])) (hx : evs fr xs = some vs) {a : Act} (k : Knows n fr a) (w : World) :
  (execOp a.eval ⟨dst, .call { callee := .value xo, args := xs.toArray, argTypes := ts }, ty, pos, aft, gd⟩).run P w = (Instr.yield l vs.toArray).run P w := by
 have := k.evs hx
 have hv' := k.ev hv
 simp [execOp, resolve, hv', Deferred.ofValue, invoke, this]
theorem back_walk {w0 : World} (bs : Nat) (q : Option Nat × Nat) (xs : List Int) (hx0 : xs.length < 1099511627776) (GG : Nat → List Ch) (jb jr : Nat) (hb : ∀ k, (GG k)[jb]? = some (blk bs [rowV q xs.length] 23)) (hr : ∀ k, (GG k)[jr]? = some (row nilH 3 (rowV q xs.length) xs)) (l : Nat) (E : List Ch) (w : World) (s : Sat w0 (GG 0 ++ E) w)
  (hR : ∀ k w1, k < xs.length → Sat w0 (GG k ++ E) w1 → ∃ fn tmps assign body, (Instr.yield l #[.int .i64 ((xs.length : Int) - 1 - (k : Nat)), .int .i64 (gi xs ((xs.length : Int) - 1 - (k : Nat)))]).run Tryz.prog w1 = .ok (.round l fn tmps assign body) w1 ∧ RoundIn (WF none) 0 Tryz.prog l fn tmps assign body w1 fun e w' => e = .returned (.bool true) ∧ Sat w0 (GG (k + 1) ++ E) w') :
  CallsIn (WF none) 0 Tryz.prog 149 (#[.func (.yield l) #[] #[]] ++ #[.pointer (some ⟨bs, 0, none⟩)]) w fun e w' => (∃ v, e = .returned v) ∧ Sat w0 (GG xs.length ++ E) w' := by
 have kb : ∀ k, (GG k ++ E)[jb]? = some (blk bs [rowV q xs.length] 23) := fun k => by
  rw [List.getElem?_append_left (List.getElem?_eq_some_iff.1 (hb k)).1]; exact hb k
 have kr : ∀ k, (GG k ++ E)[jr]? = some (row nilH 3 (rowV q xs.length) xs) := fun k => by
  rw [List.getElem?_append_left (List.getElem?_eq_some_iff.1 (hr k)).1]; exact hr k
 refine callsWF (TR.enter (args := [_, _]) (S := Sat w0 (GG 0 ++ E)) Tryz.func149 rfl rfl s ?_)
 refine TR.seq fun K1 hK1 => ?_
 refine TR.region ?_
 refine RR.q (Qt.ldB jb ty23 rfl (kb 0) rfl) rfl rfl ?_
 refine RR.p (Pu.lenSl sl23 rfl) rfl rfl ?_
 refine RR.p (Pu.subS rfl rfl (by omega)) rfl rfl ?_
 refine RR.p (Pu.assign rfl) rfl rfl ?_
 refine RR.nil (hK1 _ _ _ ?_)
 refine TR.block ?_
 refine TR.loop (σ := Nat) (fun k => [(0, .func (.yield l) #[] #[]), (1, .pointer (some ⟨bs, 0, none⟩)), (3, .int .i64 ((xs.length : Int) - 1 - (k : Nat)))]) (fun k => Sat w0 (GG k ++ E)) (fun k => k ≤ xs.length) (fun k => xs.length - k) 0 (Nat.zero_le _) ⟨rfl, rfl, congrArg (fun z => some (Value.int .i64 z)) (show (xs.length : Int) - 1 = (xs.length : Int) - 1 - ((0 : Nat) : Int) by omega), trivial⟩ (fun _ s => s) ?_
 intro k hk K2 hK2
 refine TR.seq fun K3 hK3 => ?_
 refine TR.seq fun K4 hK4 => ?_
 refine TR.region ?_
 refine RR.p (Pu.move rfl) rfl rfl ?_
 refine RR.p (Pu.bin rfl rfl rfl) rfl rfl ?_
 refine RR.nil (hK4 _ _ _ ?_)
 refine TR.cond rfl (fun hc => ?_) (fun hc => ?_)
 ·have hc := of_decide_eq_true hc
  refine TR.skip (hK3 _ _ _ ?_)
  refine TR.know (p := ∃ g cap, q = (some g, cap)) (fun w s => s.row_some (k := jr) (kr k) (by omega)) ?_
  rintro ⟨g, cap, rfl⟩
  refine TR.seq fun K5 hK5 => ?_
  refine TR.block ?_
  refine TR.seq fun K6 hK6 => ?_
  refine TR.region ?_
  refine RR.p (Pu.move rfl) rfl rfl ?_
  refine RR.p (Pu.move rfl) rfl rfl ?_
  refine RR.q (Qt.ldB jb ty23 rfl (kb k) rfl) rfl rfl ?_
  refine RR.p (Pu.move rfl) rfl rfl ?_
  refine RR.p (Pu.indexSl sl23 rfl rfl (by omega)) rfl rfl ?_
  refine RR.q (Qt.ld0 (α := Int) (Rd.ofRowN jr (kr k)) ty3 rfl rfl (by omega) (by rintro _ _ rfl; rfl)) rfl rfl ?_
  refine RR.round (l := l) (val := fun _ : Unit => .bool true) (S' := fun _ => Sat w0 (GG (k + 1) ++ E)) (by intro c h; cases h) (fun a w kn s => ?_) rfl rfl fun _ => ?_
  ·obtain ⟨fn, tmps, assign, body, h1, h2⟩ := hR k w (by omega) s
   refine ⟨fn, tmps, assign, body, ?_, h2.mono fun e w' ⟨h3, h4⟩ => ⟨(), h3, h4⟩⟩
   exact (run_yieldV (xs := [_, _]) rfl rfl kn w).trans h1
  refine RR.p (Pu.not rfl) rfl rfl ?_
  refine RR.nil (hK6 _ _ _ ?_)
  refine TR.cond rfl (fun h => by cases h) (fun _ => ?_)
  refine TR.skip (hK5 _ _ _ ?_)
  refine TR.region ?_
  refine RR.p (Pu.move rfl) rfl rfl ?_
  refine RR.p (Pu.subS rfl rfl (by omega)) rfl rfl ?_
  refine RR.p (Pu.assign rfl) rfl rfl ?_
  exact RR.nil (hK2 _ _ (k + 1) (by omega) (by omega) ⟨rfl, rfl, congrArg (fun z => some (Value.int .i64 z)) (show (xs.length : Int) - 1 - (k : Nat) - 1 = (xs.length : Int) - 1 - ((k + 1 : Nat) : Int) by omega), trivial⟩ (fun _ s => s))
 ·have hc := of_decide_eq_false hc
  have hkn : k = xs.length := by omega
  subst hkn
  refine TR.exitTo (ExTo.seq (ExTo.seq ExTo.hereN)) ?_
  exact CR.endN rfl fun w s => ⟨⟨_, rfl⟩, s⟩
theorem enters_ent {P : Program} {f : FuncId} (he : Ent P f) (args : Array Value) (w : World) : (callFunc f args).run P w = .ok (.enter f args) w := by
 obtain ⟨fn, c, h1, h2, h3⟩ := he
 have h2' : ¬ fn.name = "runtime.NumGoroutine" := by simpa using h2
 simp [callFunc, h1, h2', h3]
def stepF {α : Type} (L : List (Int × α)) (key : Int) (z : Cach × List (Int × α)) : Option (Cach × List (Int × α)) := Option.bind (cache_Cache_Get z.1 key) fun y =>
  if y.2.1 = true then Option.bind (kget L y.1) fun v => some (y.2.2, kput z.2 y.1 v) else some (y.2.2, z.2)
theorem sweep_states {α : Type} {L : List (Int × α)} : ∀ {r : List Int} {c : Cach} {K : List (Int × α)} {z : Cach × List (Int × α)}, sweepL L r c K = some z → ∃ st : Nat → Cach × List (Int × α), st 0 = (c, K) ∧ (∀ k, k < r.length → stepF L (gi r k) (st k) = some (st (k + 1))) ∧ st r.length = z
 | [], c, K, z, h => ⟨fun _ => (c, K), rfl, fun k hk => by simp at hk, Option.some.inj h⟩
 | key :: r, c, K, z, h => by
  have h2 : ∃ u, stepF L key (c, K) = some u ∧ sweepL L r u.1 u.2 = some z := by
   simp only [sweepL] at h
   obtain ⟨y, hy, h⟩ := bindE h
   simp only [stepF, hy, Option.bind_some]
   by_cases hc : y.2.1 = true
   ·rw [if_pos hc] at h ⊢
    obtain ⟨v, hv, h⟩ := bindE h
    exact ⟨_, by rw [hv]; rfl, h⟩
   ·rw [if_neg hc] at h ⊢
    exact ⟨_, rfl, h⟩
  obtain ⟨u, h3, h4⟩ := h2
  obtain ⟨st, e0, es, en⟩ := sweep_states h4
  refine ⟨fun k => match k with | 0 => (c, K) | k + 1 => st k, rfl, fun k hk => ?_, en⟩
  cases k with
  | zero => show stepF L (gi (key :: r) 0) (c, K) = some (st 0); rw [e0]; exact h3
  | succ k =>
   have h5 := es k (by simpa using hk)
   show stepF L (gi (key :: r) ((k + 1 : Nat) : Int)) (st k) = some (st (k + 1))
   rw [show gi (key :: r) ((k + 1 : Nat) : Int) = gi r k by simp [gi]]
   exact h5
theorem gi_rev {xs : List Int} {k : Nat} (h : k < xs.length) : gi xs.reverse k = gi xs ((xs.length : Int) - 1 - (k : Nat)) := by
 unfold gi
 rw [show ((xs.length : Int) - 1 - (k : Nat)).toNat = xs.length - 1 - k by omega, show ((k : Int)).toNat = k by simp]
 simp [List.getD, List.getElem?_reverse h]
theorem sweep_walk {w0 : World} {F : Ch} (gF gc gw : Nat) (c : Cach) (L : List (Int × Value)) {z : Cach × List (Int × Value)} (H : sweepF c L = some z) {m hs W Hh tv lv mv kk : Value} (w : World) (s : Sat w0 [blk gF [.pointer (some ⟨gc, 0, none⟩), m, hs, W, Hh, tv, lv, mv, .map (some gw), kk] 79, Cach_ch gc c, mapL gw L, F] w) :
  Calls Tryz.prog 79 #[.pointer (some ⟨gF, 0, none⟩)] w fun e w' => ∃ gw' : Nat, e = .returned (.tuple #[]) ∧ Sat w0 ([blk gF [.pointer (some ⟨gc, 0, none⟩), m, hs, W, Hh, tv, lv, mv, .map (some gw'), kk] 79, Cach_ch gc z.1, mapL gw' z.2] ++ [F]) w' := by
 unfold sweepF at H
 obtain ⟨hkl, H⟩ := gdE H
 have hK : cache_Cache_Keys c = some c.keys := by unfold cache_Cache_Keys slices_Clone_Int; rw [if_pos (by omega)]; rfl
 refine TR.enter (args := [_]) (S := Sat w0 [blk gF [.pointer (some ⟨gc, 0, none⟩), m, hs, W, Hh, tv, lv, mv, .map (some gw), kk] 79, Cach_ch gc c, mapL gw L, F]) Tryz.func79 rfl rfl s ?_
 refine TR.seq fun K1 hK1 => ?_
 refine TR.region ?_
 refine RR.solid (Sd.box (cs := [_]) rfl rfl) rfl rfl fun b1 => ?_
 refine RR.nil (hK1 _ _ _ ?_)
 refine TR.seq fun K2 hK2 => ?_
 refine TR.region ?_
 refine RR.q (Qt.ldB 4 ty27 rfl rfl rfl) rfl rfl ?_
 refine RR.p (Pu.nilCheck rfl) rfl rfl ?_
 refine RR.p (Pu.fieldAddr fd79_0 rfl) rfl rfl ?_
 refine RR.q (Qt.ldB 0 ty68 rfl rfl rfl) rfl rfl ?_
 refine RR.solid (Sd.callF 1 ent114 rfl rfl (fun w s => cache_Cache_Keys_walk gc c hK w s)) rfl rfl fun q => ?_
 refine RR.p (Pu.assign rfl) rfl rfl ?_
 refine RR.nil (hK2 _ _ _ ?_)
 refine TR.conseq (fr' := [(1, _), (2, _)]) ?_ ⟨rfl, rfl, trivial⟩ (fun _ s => s)
 refine TR.seq fun K3 hK3 => ?_
 refine TR.seq fun K4 hK4 => ?_
 refine TR.region ?_
 refine RR.q (Qt.ldB 4 ty27 rfl rfl rfl) rfl rfl ?_
 refine RR.p (Pu.nilCheck rfl) rfl rfl ?_
 refine RR.p (Pu.fieldAddr fd79_6 rfl) rfl rfl ?_
 refine RR.q (Qt.ldB 0 ty77 rfl rfl rfl) rfl rfl ?_
 refine RR.q (Qt.lenL 2 mpz77 rfl rfl) rfl rfl ?_
 refine RR.p (Pu.move rfl) rfl rfl ?_
 refine RR.p (Pu.lenSl sl23 rfl) rfl rfl ?_
 refine RR.p (Pu.mulS rfl rfl (by omega)) rfl rfl ?_
 refine RR.p (Pu.bin rfl rfl rfl) rfl rfl ?_
 refine RR.nil (hK4 _ _ _ ?_)
 refine TR.cond rfl (fun hc => ?_) (fun hc => ?_)
 ·rw [if_pos (of_decide_eq_true hc)] at H
  obtain rfl := Option.some.inj H
  refine TR.ret ?_
  exact CR.retN rfl fun w s => ⟨gw, rfl, s.pick [0, 1, 2, 3] (by decide) rfl⟩
 rw [if_neg (of_decide_eq_false hc)] at H
 refine TR.skip (hK3 _ _ _ ?_)
 refine TR.conseq (fr' := [(1, _), (2, _)]) ?_ ⟨rfl, rfl, trivial⟩ (fun _ s => s)
 refine TR.seq fun K5 hK5 => ?_
 refine TR.region ?_
 refine RR.solid Sd.makeMapL rfl rfl fun gk => ?_
 refine RR.solid (Sd.alloc zr77 rfl) rfl rfl fun b3 => ?_
 refine RR.solid (Sd.stB (cs' := [_]) 7 ty77 rfl rfl rfl rfl rfl rfl rfl rfl) rfl rfl fun _ => ?_
 refine RR.nil (hK5 _ _ _ ?_)
 refine TR.seq fun K6 hK6 => ?_
 refine TR.seq fun K7 hK7 => ?_
 refine TR.region ?_
 refine RR.p (Pu.move rfl) rfl rfl ?_
 refine RR.solid (Sd.callN ent115 rfl (fun w s => back_make q c.keys.length w)) rfl rfl fun bs => ?_
 refine RR.nil (hK7 _ _ _ ?_)
 refine TR.conseq (fr' := [(1, .pointer (some ⟨b1, 0, none⟩)), (3, .pointer (some ⟨b3, 0, none⟩)), (24, .func (.func 149) #[] #[.pointer (some ⟨bs, 0, none⟩)])]) ?_ ⟨rfl, rfl, rfl, trivial⟩ (fun _ s => s)
 obtain ⟨st, e0, est, en⟩ := sweep_states H
 have hst : ∀ k, k < c.keys.length → stepF L (gi c.keys ((c.keys.length : Int) - 1 - (k : Nat))) (st k) = some (st (k + 1)) := fun k hk => by
  rw [← gi_rev hk]; exact est k (by simpa using hk)
 rw [List.length_reverse] at en
 refine TR.block ?_
 refine TR.range2 (gf := 149) (lb := #[.pointer (some ⟨bs, 0, none⟩)]) rfl (enters_ent ent149) rfl rfl (fun k => .int .i64 ((c.keys.length : Int) - 1 - (k : Nat))) (fun k => .int .i64 (gi c.keys ((c.keys.length : Int) - 1 - (k : Nat)))) c.keys.length
  (fun k => [blk gF [.pointer (some ⟨gc, 0, none⟩), m, hs, W, Hh, tv, lv, mv, .map (some gw), kk] 79, Cach_ch gc (st k).1, mapL gw L, F, blk b1 [.pointer (some ⟨gF, 0, none⟩)] 27, row nilH 3 (rowV q c.keys.length) c.keys, mapL gk (st k).2, blk b3 [.map (some gk)] 77, blk bs [rowV q c.keys.length] 23]) ?_
  (fun k => [(5, .int .i64 (gi c.keys ((c.keys.length : Int) - 1 - (k : Nat)))), (1, .pointer (some ⟨b1, 0, none⟩)), (3, .pointer (some ⟨b3, 0, none⟩))]) ?_ ?_ ?_ ?_
 ·rw [e0]; rfl
 ·intro l E w s hR
  exact back_walk bs q c.keys (by omega) (fun k => [blk gF [.pointer (some ⟨gc, 0, none⟩), m, hs, W, Hh, tv, lv, mv, .map (some gw), kk] 79, Cach_ch gc (st k).1, mapL gw L, F, blk b1 [.pointer (some ⟨gF, 0, none⟩)] 27, row nilH 3 (rowV q c.keys.length) c.keys, mapL gk (st k).2, blk b3 [.map (some gk)] 77, blk bs [rowV q c.keys.length] 23]) 8 5 (fun _ => rfl) (fun _ => rfl) l E w s hR
 ·intro l k E K hk hK0
  refine TR.region ?_
  refine RR.p (Pu.assign rfl) rfl rfl ?_
  exact RR.nil (hK0.conseq ⟨rfl, rfl, rfl, trivial⟩ (fun _ s => s))
 ·intro l k E K hk hK0
  have hs1 := hst k hk
  unfold stepF at hs1
  obtain ⟨y, hy, hs1⟩ := bindE hs1
  refine TR.block ?_
  refine TR.seq fun K8 hK8 => ?_
  refine TR.region ?_
  refine RR.q (Qt.ldB 4 ty27 rfl rfl rfl) rfl rfl ?_
  refine RR.p (Pu.nilCheck rfl) rfl rfl ?_
  refine RR.p (Pu.fieldAddr fd79_0 rfl) rfl rfl ?_
  refine RR.q (Qt.ldB 0 ty68 rfl rfl rfl) rfl rfl ?_
  refine RR.p (Pu.move rfl) rfl rfl ?_
  refine RR.solid (Sd.callF0 1 ent77 rfl rfl (fun w s => cache_Cache_Get_walk gc (st k).1 _ hy w s)) rfl rfl fun _ => ?_
  refine RR.p (Pu.move rfl) rfl rfl ?_
  refine RR.p (Pu.extract rfl rfl) rfl rfl ?_
  refine RR.p (Pu.extract rfl rfl) rfl rfl ?_
  refine RR.p (Pu.assign rfl) rfl rfl ?_
  refine RR.p (Pu.assign rfl) rfl rfl ?_
  refine RR.nil (hK8 _ _ _ ?_)
  refine TR.conseq (fr' := [(1, _), (3, _), (6, _), (7, _)]) ?_ ⟨rfl, rfl, rfl, rfl, trivial⟩ (fun _ s => s)
  refine TR.seq fun K9 hK9 => ?_
  refine TR.region ?_
  refine RR.p (Pu.move rfl) rfl rfl ?_
  refine RR.nil (hK9 _ _ _ ?_)
  refine TR.cond rfl (fun hc => ?_) (fun hc => ?_)
  ·rw [if_pos hc] at hs1
   obtain ⟨v, hv, hs1⟩ := bindE hs1
   have e := Option.some.inj hs1
   refine TR.drawn (fun _ => True) [(0, .rd), (1, .pu), (2, .rd), (3, .pu), (4, .pu), (5, .rd), (6, .pu), (7, .rd), (8, .br)] mixed (ClE.sat _ _) (by kernel_rfl) ?_
   refine RD.q (fun _ _ => trivial) rfl (Qt.ldB 7 ty77 rfl rfl rfl) rfl rfl ?_
   refine RD.p (fun _ _ => trivial) rfl (Pu.move rfl) rfl rfl ?_
   refine RD.q (fun _ _ => trivial) rfl (Qt.ldB 4 ty27 rfl rfl rfl) rfl rfl ?_
   refine RD.p (fun _ _ => trivial) rfl (Pu.nilCheck rfl) rfl rfl ?_
   refine RD.p (fun _ _ => trivial) rfl (Pu.fieldAddr fd79_6 rfl) rfl rfl ?_
   refine RD.q (fun _ _ => trivial) rfl (Qt.ldB 0 ty77 rfl rfl rfl) rfl rfl ?_
   refine RD.p (fun _ _ => trivial) rfl (Pu.move rfl) rfl rfl ?_
   refine RD.q (fun _ _ => trivial) rfl (Qt.lookP (v := v) 2 (by rw [hv]; rfl) mpz77 rfl rfl rfl) rfl rfl ?_
   refine RD.solid rfl (.inr rfl) rfl rfl (Sd.mapPut 6 mpz77 rfl rfl rfl rfl) (fun _ => ClE.sat _ _) (fun _ _ _ => trivial) (fun h => nomatch h) fun _ => ?_
   refine RD.nil (CR.lift ?_)
   refine CR.conseq (fr' := []) (hK0 []) trivial (fun w s => ?_)
   rw [← e]
   exact s
  ·rw [if_neg (by rw [hc]; simp)] at hs1
   have e := Option.some.inj hs1
   refine TR.skip ?_
   refine CR.conseq (fr' := []) (hK0 []) trivial (fun w s => ?_)
   rw [← e]
   exact s
 ·intro D
  refine hK6 _ _ _ ?_
  refine TR.region ?_
  refine RR.q (Qt.ldB 4 ty27 rfl rfl rfl) rfl rfl ?_
  refine RR.q (Qt.ldB 7 ty77 rfl rfl rfl) rfl rfl ?_
  refine RR.p (Pu.nilCheck rfl) rfl rfl ?_
  refine RR.p (Pu.fieldAddr fd79_6 rfl) rfl rfl ?_
  refine RR.solid (Sd.stB (cs' := [_, _, _, _, _, _, _, _, _, _]) 0 ty77 rfl rfl rfl rfl rfl rfl rfl rfl) rfl rfl fun _ => ?_
  refine RR.nil (CR.end0 9 rfl rfl fun w s => ⟨gk, rfl, ?_⟩)
  rw [← en]
  exact s.pick [0, 1, 6, 3] (by decide) rfl
end Go.Proofs.YthdbofgcckjopaaGreat
