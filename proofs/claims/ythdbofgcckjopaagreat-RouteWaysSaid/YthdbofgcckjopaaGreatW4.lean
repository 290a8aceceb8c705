/-
  Texts of one's own, joined: RW1 RW2 RW3 RW4 RW5 RW6.
-/
import Derived.Test.YthdbofgcckjopaaGreatRows
import Derived.Test.YthdbofgcckjopaaGreatW3
import Derived.Test.YthdbofgcckjopaaGreatRQ
set_option linter.unusedVariables false
set_option linter.unusedSimpArgs false
set_option maxRecDepth 20000
set_option maxHeartbeats 4000000
namespace Go.Proofs.YthdbofgcckjopaaGreat
open Go.Vg
open Enc (R)
theorem ent121 : Ent Tryz.prog 121 := ⟨_, _, Tryz.func121, by kernel_rfl, rfl⟩
theorem ent122 : Ent Tryz.prog 122 := ⟨_, _, Tryz.func122, by kernel_rfl, rfl⟩
theorem ent123 : Ent Tryz.prog 123 := ⟨_, _, Tryz.func123, by kernel_rfl, rfl⟩
theorem fd153_3 : fdOff Tryz.prog 153 3 = some 3 := by kernel_rfl
theorem mpz151 : mpZ Tryz.prog 151 = some (.slice none 0 0) := by kernel_rfl
theorem ty102 : tySz Tryz.prog 102 = some (1, false) := by kernel_rfl
theorem ty151 : tySz Tryz.prog 151 = some (1, false) := by kernel_rfl
theorem far1_walk {m n ga gf b3 b9 : Nat} {x : Mx} {v0 v1 v2 : Value} {s u : Int} {r : Bool} (H : inSec x.z.net.g.w s u = some r) (w : World) (h3 : blk b3 [.pointer (some ⟨m, 0, none⟩)] 102 (hpOf w)) (h9 : blk b9 [.int .i64 s] 3 (hpOf w)) (b1 : blk m [.pointer (some ⟨n, 0, none⟩), v2, .map (some ga), .map (some gf)] 153 (hpOf w)) (b2 : blk n [.int .i64 x.z.net.g.w, .int .i64 x.z.net.g.h, v0, .int .i64 x.z.net.cls, v1] 101 (hpOf w)) : Calls Tryz.prog 121 #[.int .i64 u, .pointer (some ⟨b3, 0, none⟩), .pointer (some ⟨b9, 0, none⟩)] w fun e w' => e = .returned (.bool r) ∧ Ext w w' := by
 unfold inSec at H
 refine T.enter (args := [_, _, _]) (S := Sat w []) Tryz.func121 rfl rfl (Sat.start w) ?_
 refine T.seq fun K1 hK1 => T.region (rA rfl (RS.nil (hK1 _ _ ?_)))
 refine T.seq fun K2 hK2 => ?_
 refine T.drawn (fun _ => True) [(0, .rd), (1, .pu), (2, .pu), (3, .rd), (4, .pu), (5, .pu), (6, .pu), (7, .rd), (8, .pu), (9, .rd), (10, .rd), (11, .pu), (12, .pu)] mixed (ClE.sat _ _) (by kernel_rfl) ?_
 refine dq rfl (Qt.ldX ty102 rfl h3 (fun w s => s.ext) rfl) (dp rfl (Pu.nilCheck rfl) (dp rfl (Pu.fieldAddr fd153_0 rfl) (dq rfl (Qt.ldX ty98 rfl b1 (fun w s => s.ext) rfl) (dp rfl (Pu.nilCheck rfl) (dp rfl (Pu.fieldAddr fd101_0 rfl) (dp rfl (Pu.fieldAddr fd36_0 rfl) (dq rfl (Qt.ldX ty3 rfl b2 (fun w s => s.ext) rfl) (dp rfl (Pu.move rfl) ?_))))))))
 obtain ⟨y, hy, H⟩ := bindE H
 refine dq rfl (Qt.call ent87 rfl fun w s => sector_At_walk x.z.net.g.w u w hy) (dq rfl (Qt.ldX ty3 rfl h9 (fun w s => s.ext) rfl) (dp rfl (Pu.bin rfl rfl rfl) (dp rfl (Pu.assign rfl) (RD.nil (hK2 _ _ (cq [(4, _)] ?_))))))
 refine T.retTo (by with_reducible ((repeat (first | apply RetTo.seq | apply RetTo.blk)); exact RetTo.refl _)) (Cont.ret1 rfl rfl fun w' s => ?_)
 obtain rfl := sj H
 exact ⟨rfl, s.ext⟩
theorem far_there {w0 : World} {H0 : Hp} (hH : H0.le (hpOf w0)) {F : Ch} {m : Nat} {x : Mx} (q : MxIn H0 m x) {t u k : Int} {d : List Int} {bl ol cc : Nat} (K : kget q.F t = some (.slice (some ⟨bl, ol, none⟩) d.length cc, d)) (hR : R q.hA d [.slice (some ⟨bl, ol, none⟩) d.length cc]) (Hk : route_maze_spot x.z u = some k) (hk : 0 ≤ k ∧ k < (d.length : Int)) (w : World) (s : Sat w0 [mapL q.gf (vraw q.F), mapL q.ga (vraw q.A), fz q.hA, F] w) : Calls Tryz.prog 90 #[.pointer (some ⟨m, 0, none⟩), .int .i64 t, .int .i64 u] w fun e w' => ∃ z : {z : MxIn H0 m x // q.hA.le z.hA}, e = .returned (.int .i64 (gi d k)) ∧ Sat w0 ([mapL z.1.gf (vraw z.1.F), mapL z.1.ga (vraw z.1.A), fz z.1.hA] ++ [F]) w' := by
 refine T.enter (args := [_, _, _]) (S := Sat w0 [mapL q.gf (vraw q.F), mapL q.ga (vraw q.A), fz q.hA, F]) Tryz.func90 rfl rfl (s) ?_
 refine T.seq fun K1 hK1 => T.region (RS.solid (Sd.box (cs := [_]) rfl rfl) rfl rfl fun b3 => rA rfl (RS.nil (hK1 _ _ ?_)))
 refine T.seq fun K2 hK2 => T.region (rq (Qt.ldB 4 ty102 rfl rfl rfl) (rp (Pu.nilCheck rfl) (rp (Pu.fieldAddr fd153_3 rfl) (rq (Qt.ldFz 2 rfl ty151 rfl q.b1 rfl) (rM rfl (rq (Qt.lookV2 (c := true) 0 (vraw_get K _) (by rw [vraw_some]; unfold vabs; rw [kget_vmap, K]; rfl) mpz151 rfl rfl rfl) (rM rfl (rp (Pu.extract rfl rfl) (rp (Pu.extract rfl rfl) (rA rfl (rA rfl (RS.nil (hK2 _ _ (cq [(1, _), (2, _), (3, _), (7, _), (8, _)] ?_))))))))))))))
 refine T.seq fun K3 hK3 => T.seq fun K4 hK4 => T.region (rM rfl (rp (Pu.not rfl) (RS.nil (hK4 _ _ ?_))))
 refine T.cond rfl (fun hc23 => ?_) (fun hc23 => ?_)
 ·cases hc23 -- end
 ·refine T.skip (hK3 _ _ (cq [(2, _), (3, _), (7, _)] ?_))
  refine T.seq fun K5 hK5 => T.region (rM rfl (rq (Qt.ldB 4 ty102 rfl rfl rfl) (rM rfl (rq (Qt.call ent123 rfl fun w s => (route_maze_spot_walk x.z u w (Held.fz 2 rfl w s _ _ q.b1) (Held.fz 2 rfl w s _ _ q.b2) (Enc.mono (Hp.le_trans hH s.ext.hp) q.r0) (Enc.mono (Held.fz 2 rfl w s) q.r1) (Enc.mono (Held.fz 2 rfl w s) q.r2) Hk)) (rp (Pu.indexSl sl23 rfl rfl hk) (rq (Qt.ld0 (α := Int) (Rd.ofFz 2 rfl hR) ty3 rfl rfl hk (by rintro _ _ rfl; rfl)) (rA rfl (RS.nil (hK5 _ _ (cq [(6, _)] ?_))))))))))
  refine T.retTo (by with_reducible ((repeat (first | apply RetTo.seq | apply RetTo.blk)); exact RetTo.refl _)) (Cont.ret1 rfl rfl fun w' s => ?_)
  exact ⟨⟨q, Hp.le_refl _⟩, rfl, s.pick [0, 1, 2, 3] (by decide) rfl⟩
theorem far_new {w0 : World} {H0 : Hp} (hH : H0.le (hpOf w0)) {F : Ch} {m : Nat} {x : Mx} (q : MxIn H0 m x) {t u k : Int} {sc : Int} {all tl d : List Int} (K : kget q.F t = none) (h1 : sector_At x.z.net.g.w t = some sc) (h2 : field_Net_From x.z.net t (inSec x.z.net.g.w sc) = some all) (h3 : sector_Tiles x.z.net.g.w x.z.net.g.h sc = some tl) (h4 : rowL x.z all tl (List.replicate 64 0) = some d) (Hk : route_maze_spot x.z u = some k) (hk : 0 ≤ k ∧ k < (d.length : Int)) (w : World) (s : Sat w0 [mapL q.gf (vraw q.F), mapL q.ga (vraw q.A), fz q.hA, F] w) : Calls Tryz.prog 90 #[.pointer (some ⟨m, 0, none⟩), .int .i64 t, .int .i64 u] w fun e w' => ∃ z : {z : MxIn H0 m x // q.hA.le z.hA}, e = .returned (.int .i64 (gi d k)) ∧ Sat w0 ([mapL z.1.gf (vraw z.1.F), mapL z.1.ga (vraw z.1.A), fz z.1.hA] ++ [F]) w' := by
 refine T.enter (args := [_, _, _]) (S := Sat w0 [mapL q.gf (vraw q.F), mapL q.ga (vraw q.A), fz q.hA, F]) Tryz.func90 rfl rfl (s) ?_
 refine T.seq fun K1 hK1 => T.region (RS.solid (Sd.box (cs := [_]) rfl rfl) rfl rfl fun b3 => rA rfl (RS.nil (hK1 _ _ ?_)))
 refine T.seq fun K2 hK2 => T.region (rq (Qt.ldB 4 ty102 rfl rfl rfl) (rp (Pu.nilCheck rfl) (rp (Pu.fieldAddr fd153_3 rfl) (rq (Qt.ldFz 2 rfl ty151 rfl q.b1 rfl) (rM rfl (rq (Qt.lookV2 (c := false) 0 (vraw_none K _) (by rw [vraw_some]; unfold vabs; rw [kget_vmap, K]; rfl) mpz151 rfl rfl rfl) (rM rfl (rp (Pu.extract rfl rfl) (rp (Pu.extract rfl rfl) (rA rfl (rA rfl (RS.nil (hK2 _ _ (cq [(1, _), (2, _), (3, _), (7, _), (8, _)] ?_))))))))))))))
 refine T.seq fun K3 hK3 => T.seq fun K4 hK4 => T.region (rM rfl (rp (Pu.not rfl) (RS.nil (hK4 _ _ ?_))))
 refine T.cond rfl (fun hc23 => ?_) (fun hc23 => ?_)
 ·refine cq [(1, _), (2, _), (3, _)] ?_
  refine T.seq fun K5 hK5 => T.region (rq (Qt.ldB 4 ty102 rfl rfl rfl) (rp (Pu.nilCheck rfl) (rp (Pu.fieldAddr fd153_0 rfl) (rq (Qt.ldFz 2 rfl ty98 rfl q.b1 rfl) (rp (Pu.nilCheck rfl) (rp (Pu.fieldAddr fd101_0 rfl) (rp (Pu.fieldAddr fd36_0 rfl) (rq (Qt.ldFz 2 rfl ty3 rfl q.b2 rfl) (rM rfl (rq (Qt.call ent87 rfl fun w s => sector_At_walk x.z.net.g.w t w h1) (RS.solid (Sd.alloc zr3 rfl) rfl rfl fun b9 => RS.solid (Sd.stB (cs' := [_]) 5 ty3 rfl rfl rfl rfl rfl rfl rfl rfl) rfl rfl fun _ => ?_)))))))))))
  refine RS.nil (hK5 _ _ (cq [(1, _), (2, _), (3, _), (9, _)] ?_))
  refine T.seq fun K6 hK6 => T.region (rq (Qt.ldB 4 ty102 rfl rfl rfl) (rp (Pu.nilCheck rfl) (rp (Pu.fieldAddr fd153_0 rfl) (rq (Qt.ldFz 2 rfl ty98 rfl q.b1 rfl) (rM rfl (rp (Pu.makeFunc (cs := [_, _]) rfl) (RS.solid (Sd.callN ent65 rfl (fun w s => field_Net_From_walk x.z.net t (inSec x.z.net.g.w sc) w (Held.fz 2 rfl w s _ _ q.b2) (Enc.mono (Hp.le_trans hH s.ext.hp) q.r0) (Enc.mono (Held.fz 2 rfl w s) q.r1) ⟨121, [_, _], rfl, ent121, fun u r w' e hp => far1_walk hp w' (e.hp _ _ (s.getBlk (k := 4) rfl).1) (e.hp _ _ (s.getBlk (k := 5) rfl).1) (e.hp _ _ (Held.fz 2 rfl w s _ _ q.b1)) (e.hp _ _ (Held.fz 2 rfl w s _ _ q.b2))⟩ h2)) rfl rfl fun q40 => rA rfl (RS.nil (hK6 _ _ (cq [(1, _), (2, _), (3, _), (9, _), (10, _)] ?_))))))))))
  refine T.seq fun K7 hK7 => T.region (RS.solid (Sd.make (α := Int) (B := nilH) 0 sl23 zr3 rfl (by decide) rfl rfl (by omega) (by omega) (by omega)) rfl rfl fun b41 => rA rfl (RS.nil (hK7 _ _ ?_)))
  refine T.seq fun K8 hK8 => T.seq fun K9 hK9 => ?_
  refine T.drawn (fun _ => True) [(0, .rd), (1, .pu), (2, .pu), (3, .rd), (4, .pu), (5, .pu), (6, .pu), (7, .rd), (8, .rd), (9, .pu), (10, .pu), (11, .rd), (12, .pu), (13, .pu), (14, .pu), (15, .rd), (16, .rd), (19, .pu), (17, .so), (18, .pu)] mixed (ClE.sat _ _) (by kernel_rfl) ?_
  refine dq rfl (Qt.ldB 4 ty102 rfl rfl rfl) (dp rfl (Pu.nilCheck rfl) (dp rfl (Pu.fieldAddr fd153_0 rfl) (dq rfl (Qt.ldFz 2 rfl ty98 rfl q.b1 rfl) (dp rfl (Pu.nilCheck rfl) (dp rfl (Pu.fieldAddr fd101_0 rfl) (dp rfl (Pu.fieldAddr fd36_0 rfl) (dq rfl (Qt.ldFz 2 rfl ty3 rfl q.b2 rfl) (dq rfl (Qt.ldB 4 ty102 rfl rfl rfl) (dp rfl (Pu.nilCheck rfl) (dp rfl (Pu.fieldAddr fd153_0 rfl) (dq rfl (Qt.ldFz 2 rfl ty98 rfl q.b1 rfl) (dp rfl (Pu.nilCheck rfl) (dp rfl (Pu.fieldAddr fd101_0 rfl) ?_)))))))))))))
  refine dp rfl (Pu.fieldAddr fd36_1 rfl) (dq rfl (Qt.ldFz 2 rfl ty3 rfl q.b2 rfl) (dq rfl (Qt.ldB 5 ty3 rfl rfl rfl) (dp rfl (Pu.move rfl) (RD.solid rfl (.inl rfl) rfl rfl (Sd.callN ent122 rfl (fun w s => sector_Tiles_walk x.z.net.g.w x.z.net.g.h sc w h3)) (fun _ => ClE.sat _ _) (fun _ _ _ => trivial) (fun _ _ _ s => s.drop1) fun q59 => ?_))))
  refine dp rfl (Pu.lenSl sl23 rfl) (RD.nil (hK9 _ _ (cq [(1, _), (2, _), (3, _), (7, _), (10, _), (59, _), (60, _), (61, _)] ?_)))
  refine T.block ?_
  refine T.know (fun w s => s.row_fits (k := 8) rfl) fun hlt => ?_
  have hlt2 : tl.length ≤ 9223372036854775807 := by have := hlt.2; unfold maxLen at this; omega
  refine T.loopK (σ := Int × List Int) [(1, _), (2, _), (3, _), (7, _), (10, _), (59, _), (60, _)] (fun ⟨j, dk⟩ => [(61, .int .i64 j)]) (fun ⟨j, dk⟩ => Sat w0 [mapL q.gf (vraw q.F), mapL q.ga (vraw q.A), fz q.hA, F, blk b3 [.pointer (some ⟨m, 0, none⟩)] 102, blk b9 [.int .i64 sc] 3, row nilH 3 (rowV q40 all.length) all, row nilH 3 (rowV (some b41, 64) 64) dk, row nilH 3 (rowV q59 tl.length) tl]) (fun ⟨j, dk⟩ => 0 ≤ j ∧ j ≤ tl.length ∧ dk.length = 64 ∧ rowL x.z all (tl.drop j.toNat) dk = some d) (fun ⟨j, dk⟩ => ((tl.length : Int) - j).toNat) (0, List.replicate 64 0) (⟨by omega, by omega, by simp, h4⟩) ⟨rfl, rfl, rfl, rfl, rfl, rfl, rfl, trivial⟩ ⟨rfl, rfl, rfl, rfl, rfl, rfl, rfl, rfl, trivial⟩ (fun _ s => s) ?_
  intro ⟨j, dk⟩ hI K9_ hL1
  refine cq [(61, _), (1, _), (2, _), (3, _), (7, _), (10, _), (59, _), (60, _)] ?_
  obtain ⟨hk0, hk1, hdl, hI⟩ := hI
  try dsimp only at hk0 hk1 hdl hI ⊢
  refine T.seq fun K10 hK10 => T.region (rp (Pu.bin rfl rfl rfl) (RS.nil (hK10 _ _ ?_)))
  refine T.seq fun K11 hK11 => ?_
  refine T.condP rfl (fun hc62 => ?_) (fun hc62 => ?_)
  ·refine T.skip (hK11 _ _ ?_)
   refine T.seq fun K12 hK12 => T.block (T.seq fun K13 hK13 => ?_)
   have hdr := drop_gi ⟨hk0, hc62⟩
   rw [hdr] at hI
   simp only [rowL] at hI
   obtain ⟨kk, hkk, hI⟩ := bindE hI
   obtain ⟨hv, hI⟩ := gdE hI
   obtain ⟨hkd, hI⟩ := gdE hI
   refine T.region ?_
   refine RS.know (p := ∃ g cap, q59 = (some g, cap)) (fun w s => s.row_some (k := 8) rfl (by first | omega | (simp only [len_si, List.length_append, List.length_replicate, List.length_cons, List.length_nil, List.length_map, List.length_take] at *; omega))) ?_
   rintro ⟨g8_q59, cap8_q59, rfl⟩
   refine rp (Pu.indexSl sl23 rfl rfl (by first | omega | (simp only [len_si, List.length_append, List.length_replicate, List.length_cons, List.length_nil, List.length_map, List.length_take] at *; omega))) (rq (Qt.ld0 (α := Int) (Rd.ofRowN 8 rfl) ty3 rfl rfl (by first | omega | (simp only [len_si, List.length_append, List.length_replicate, List.length_cons, List.length_nil, List.length_map, List.length_take] at *; omega)) (by rintro _ _ rfl; rfl)) (rA rfl (RS.nil (hK13 _ _ (cq [(1, _), (2, _), (3, _), (7, _), (10, _), (12, _), (59, _), (60, _), (61, _)] ?_)))))
   refine T.know (p := ∃ g cap, q40 = (some g, cap)) (fun w s => s.row_some (k := 6) rfl (by first | omega | (simp only [len_si, List.length_append, List.length_replicate, List.length_cons, List.length_nil, List.length_map, List.length_take] at *; omega))) ?_
   rintro ⟨g6_q40, cap6_q40, rfl⟩
   refine T.drawn (fun _ => True) [(0, .pu), (1, .rd), (2, .pu), (3, .rd), (4, .pu), (5, .pu), (6, .pu), (7, .rd), (8, .pu), (9, .br)] mixed (ClE.sat _ _) (by kernel_rfl) ?_
   refine dp rfl (Pu.move rfl) (dq rfl (Qt.ldB 4 ty102 rfl rfl rfl) (dp rfl (Pu.move rfl) (dq rfl (Qt.call ent123 rfl fun w s => route_maze_spot_walk x.z (gi tl j) w (Held.fz 2 rfl w s _ _ q.b1) (Held.fz 2 rfl w s _ _ q.b2) (Enc.mono (Hp.le_trans hH s.ext.hp) q.r0) (Enc.mono (Held.fz 2 rfl w s) q.r1) (Enc.mono (Held.fz 2 rfl w s) q.r2) hkk) (dp rfl (Pu.move rfl) (dp rfl (Pu.move rfl) (dp rfl (Pu.indexSl sl23 rfl rfl (by first | omega | (simp only [len_si, List.length_append, List.length_replicate, List.length_cons, List.length_nil, List.length_map, List.length_take] at *; omega))) (dq rfl (Qt.ld0 (α := Int) (Rd.ofRowN 6 rfl) ty3 rfl rfl (by first | omega | (simp only [len_si, List.length_append, List.length_replicate, List.length_cons, List.length_nil, List.length_map, List.length_take] at *; omega)) (by rintro _ _ rfl; rfl)) (dp rfl (Pu.indexSl sl23 rfl rfl (by first | omega | (simp only [len_si, List.length_append, List.length_replicate, List.length_cons, List.length_nil, List.length_map, List.length_take] at *; omega))) (RD.solid rfl (.inr rfl) rfl rfl (Sd.st0 (α := Int) 7 _ rfl ty3 rfl rfl rfl (by first | omega | (simp only [len_si, List.length_append, List.length_replicate, List.length_cons, List.length_nil, List.length_map, List.length_take] at *; omega)) rfl rfl (by decide) rfl (by rintro _ _ rfl; rfl)) (fun _ => ClE.sat _ _) (fun _ _ _ => trivial) (fun h => nomatch h) fun _ => ?_)))))))))
   refine RD.nil (hK12 _ _ (cq [(1, _), (2, _), (3, _), (7, _), (10, _), (59, _), (60, _), (61, _)] ?_))
   refine T.region (rp (Pu.addS rfl rfl (by omega)) (rM rfl (RS.nil (hL1 _ _ (j + 1, si dk kk (gi all (gi tl j))) ⟨by omega, by omega, by rw [len_si]; exact hdl, hI⟩ (by show ((tl.length : Int) - (j + 1)).toNat < ((tl.length : Int) - j).toNat; omega) ⟨rfl, rfl, rfl, rfl, rfl, rfl, rfl, rfl, trivial⟩ (fun w s => s)))))
  ·refine T.exitTo (by with_reducible (repeat (first | exact ExTo.here | exact ExTo.hereN | exact ExTo.deep (by repeat (first | exact NmTo.seq | apply NmTo.blk)) | apply ExTo.seq | refine ExTo.past (by decide) ?_))) (hK8 _ _ (cq [(1, _), (2, _), (3, _), (7, _)] ?_))
   have hke : tl.drop j.toNat = [] := List.drop_eq_nil_of_le (by omega)
   rw [hke] at hI
   obtain rfl : dk = d := Option.some.inj hI
   refine T.region (rq (Qt.ldB 4 ty102 rfl rfl rfl) (rp (Pu.nilCheck rfl) (rp (Pu.fieldAddr fd153_3 rfl) (rq (Qt.ldFz 2 rfl ty151 rfl q.b1 rfl) (rM rfl (rM rfl (RS.solid (Sd.mapPut 0 mpz151 rfl rfl rfl rfl) rfl rfl fun _ => RS.nil (hK3 _ _ (cq [(2, _), (3, _), (7, _)] ?_)))))))))
   refine T.seq fun K14 hK14 => T.region (rM rfl (rq (Qt.ldB 4 ty102 rfl rfl rfl) (rM rfl (rq (Qt.call ent123 rfl fun w s => route_maze_spot_walk x.z u w (Held.fz 2 rfl w s _ _ q.b1) (Held.fz 2 rfl w s _ _ q.b2) (Enc.mono (Hp.le_trans hH s.ext.hp) q.r0) (Enc.mono (Held.fz 2 rfl w s) q.r1) (Enc.mono (Held.fz 2 rfl w s) q.r2) Hk) (rp (Pu.indexSl sl23 rfl rfl (by first | omega | (simp only [len_si, List.length_append, List.length_replicate, List.length_cons, List.length_nil, List.length_map, List.length_take] at *; omega))) (rq (Qt.ld0 (α := Int) (Rd.ofRowN 7 rfl) ty3 rfl rfl (by first | omega | (simp only [len_si, List.length_append, List.length_replicate, List.length_cons, List.length_nil, List.length_map, List.length_take] at *; omega)) (by rintro _ _ rfl; rfl)) (rA rfl (RS.nil (hK14 _ _ (cq [(6, _)] ?_))))))))))
   refine T.retTo (by with_reducible ((repeat (first | apply RetTo.seq | apply RetTo.blk)); exact RetTo.refl _)) (Cont.ret1 rfl rfl fun w' s => ?_)
   obtain ⟨hB, ⟨l1, p1, hp1, k1⟩, s⟩ := s.absorb 2 7 rfl rfl (by decide)
   have s2 := s.pick (G' := [mapL q.gf (kput (vraw q.F) t (rowV (some b41, 64) 64)), mapL q.ga (vraw q.A), fz hB, F]) [0, 1, 2, 3] (by decide) rfl
   rw [vraw_put (L := q.F) (k := t) (rowV (some b41, 64) 64, dk)] at s2
   refine ⟨⟨⟨hB, q.gf, q.ga, q.n, q.v0, q.v1, q.v2, q.A, kput q.F t (rowV (some b41, 64) 64, dk), l1 _ _ q.b1, l1 _ _ q.b2, q.r0, Enc.mono l1 q.r1, Enc.mono l1 q.r2, q.aA, fun e he => Enc.mono l1 (q.rA e he), fun e he => ?_⟩, l1⟩, rfl, s2⟩
   rcases mem_vput he with rfl | he
   ·exact ⟨Enc.mono k1 (row_R hp1), by simp only [mz_row, h1, h2, h3, h4, Option.bind_some]⟩
   ·exact ⟨Enc.mono l1 (q.rF e he).1, (q.rF e he).2⟩
 ·cases hc23 -- end
theorem mx_far_walk {w0 : World} {H0 : Hp} (hH : H0.le (hpOf w0)) {F : Ch} {m : Nat} {x : Mx} (q : MxIn H0 m x) {t u r : Int} (H : mx_far x t u = some r) (w : World) (s : Sat w0 ([mapL q.gf (vraw q.F), mapL q.ga (vraw q.A), fz q.hA] ++ [F]) w) : Calls Tryz.prog 90 #[.pointer (some ⟨m, 0, none⟩), .int .i64 t, .int .i64 u] w fun e w' => ∃ z : {z : MxIn H0 m x // q.hA.le z.hA}, e = .returned (.int .i64 r) ∧ Sat w0 ([mapL z.1.gf (vraw z.1.F), mapL z.1.ga (vraw z.1.A), fz z.1.hA] ++ [F]) w' := by
 unfold mx_far at H
 obtain ⟨d, hd, H⟩ := bindE H
 obtain ⟨k, Hk, H⟩ := bindE H
 obtain ⟨hk, H⟩ := gdE H
 obtain rfl := sj H
 cases K : kget q.F t with
 | none =>
  unfold mz_row at hd
  obtain ⟨sc, h1, hd⟩ := bindE hd
  obtain ⟨all, h2, hd⟩ := bindE hd
  obtain ⟨tl, h3, h4⟩ := bindE hd
  exact far_new hH q K h1 h2 h3 h4 Hk hk w s
 | some z =>
  obtain ⟨v, d'⟩ := z
  have hf : R q.hA d' [v] ∧ mz_row x.z t = some d' := q.rF _ (vget_mem K)
  obtain rfl : d' = d := Option.some.inj (hf.2.symm.trans hd)
  obtain ⟨p, cc, rfl⟩ := R_form hf.1
  obtain ⟨bl, ol, rfl⟩ := R_ptr hf.1 (ne_of_pos (by omega))
  exact far_there hH q K hf.1 Hk hk w s
end Go.Proofs.YthdbofgcckjopaaGreat
set_option linter.unusedVariables false
set_option linter.unusedSimpArgs false
set_option maxRecDepth 20000
set_option maxHeartbeats 4000000
namespace Go.Proofs.YthdbofgcckjopaaGreat
open Go.Vg
open Enc (R)
theorem ent125 : Ent Tryz.prog 125 := ⟨_, _, Tryz.func125, by kernel_rfl, rfl⟩
theorem ent46 : Ent Tryz.prog 46 := ⟨_, _, Tryz.func46, by kernel_rfl, rfl⟩
theorem ent90 : Ent Tryz.prog 90 := ⟨_, _, Tryz.func90, by kernel_rfl, rfl⟩
theorem ent91 : Ent Tryz.prog 91 := ⟨_, _, Tryz.func91, by kernel_rfl, rfl⟩
theorem ent94 : Ent Tryz.prog 94 := ⟨_, _, Tryz.func94, by kernel_rfl, rfl⟩
theorem fd153_2 : fdOff Tryz.prog 153 2 = some 2 := by kernel_rfl
theorem fd160_0 : fdOff Tryz.prog 160 0 = some 0 := by kernel_rfl
theorem fd160_1 : fdOff Tryz.prog 160 1 = some 1 := by kernel_rfl
theorem fd160_2 : fdOff Tryz.prog 160 2 = some 2 := by kernel_rfl
theorem fd160_3 : fdOff Tryz.prog 160 3 = some 3 := by kernel_rfl
theorem mpz155 : mpZ Tryz.prog 155 = some (.agg #[.int .i64 0, .slice none 0 0]) := by kernel_rfl
theorem mpz156 : mpZ Tryz.prog 156 = some (.bool false) := by kernel_rfl
theorem st105 : stTy Tryz.prog 105 = some ([.int .i64 0, .slice none 0 0], [(0, 1), (1, 1)]) := by kernel_rfl
theorem ty105 : tySz Tryz.prog 105 = some (2, true) := by kernel_rfl
theorem ty155 : tySz Tryz.prog 155 = some (1, false) := by kernel_rfl
theorem ty156 : tySz Tryz.prog 156 = some (1, false) := by kernel_rfl
theorem ty157 : tySz Tryz.prog 157 = some (1, false) := by kernel_rfl
theorem zr105 : zeroOf Tryz.prog 105 = some (.agg #[.int .i64 0, .slice none 0 0]) := by kernel_rfl
theorem spread_in {w0 : World} {H0 : Hp} (hH : H0.le (hpOf w0)) {F : Ch} {s m : Nat} {x : Mx} {y y2 : Srs} (q : SrIn y) (qM : MxIn H0 m x) {t sc : Int} {way : Lbl} {v : Value} {l : List Int} {p : Option Addr} {cc : Nat} (hv : R q.hS way.l [v]) (h1 : sector_At x.z.net.g.w t = some sc) (hl : (kget (vraw qM.A) sc).getD (.slice none 0 0) = .slice p l.length cc) (hlr : R qM.hA l [.slice p l.length cc]) (hll : l.length < 1099511627776) (H : spreadL x t way l y = some y2) (w : World) (S : Sat w0 [mapL qM.gf (vraw qM.F), mapL qM.ga (vraw qM.A), fz qM.hA, blk s [.pointer (some ⟨m, 0, none⟩), .map (some q.gb), .map (some q.gd), .pointer (some ⟨q.gq, 0, none⟩)] 160, mapL q.gb (vmap lblV q.B), mapL q.gd (vmap Value.bool y.done), Que_ch q.gq y.q, fz q.hS, F] w) : Calls Tryz.prog 92 #[.pointer (some ⟨s, 0, none⟩), .int .i64 t, .agg #[.int .i64 way.cost, v]] w fun e w' => ∃ z : {z : SrIn y2 × MxIn H0 m x // q.hS.le z.1.hS ∧ qM.hA.le z.2.hA}, e = .returned (.tuple #[]) ∧ Sat w0 [mapL z.1.2.gf (vraw z.1.2.F), mapL z.1.2.ga (vraw z.1.2.A), fz z.1.2.hA, blk s [.pointer (some ⟨m, 0, none⟩), .map (some q.gb), .map (some q.gd), .pointer (some ⟨q.gq, 0, none⟩)] 160, mapL q.gb (vmap lblV z.1.1.B), mapL q.gd (vmap Value.bool y2.done), Que_ch q.gq y2.q, fz z.1.1.hS, F] w' := by
 refine T.enter (args := [_, _, _]) (S := Sat w0 [mapL qM.gf (vraw qM.F), mapL qM.ga (vraw qM.A), fz qM.hA, blk s [.pointer (some ⟨m, 0, none⟩), .map (some q.gb), .map (some q.gd), .pointer (some ⟨q.gq, 0, none⟩)] 160, mapL q.gb (vmap lblV q.B), mapL q.gd (vmap Value.bool y.done), Que_ch q.gq y.q, fz q.hS, F]) Tryz.func92 rfl rfl (S) ?_
 refine T.seq fun K1 hK1 => T.region (RS.solid (Sd.box (cs := [_, _]) rfl rfl) rfl rfl fun b5 => RS.nil (hK1 _ _ ?_))
 refine T.seq fun K2 hK2 => ?_
 refine T.drawn (fun _ => True) [(0, .pu), (1, .pu), (2, .pu), (3, .rd), (4, .pu), (5, .pu), (6, .rd), (7, .pu), (8, .pu), (9, .pu), (10, .rd), (11, .pu), (12, .pu), (13, .rd), (14, .pu), (15, .pu), (16, .pu), (17, .rd), (18, .pu), (19, .rd), (20, .rd), (21, .pu), (22, .pu)] mixed (ClE.sat _ _) (by kernel_rfl) ?_
 refine dp rfl (Pu.move rfl) (dp rfl (Pu.nilCheck rfl) (dp rfl (Pu.fieldAddr fd160_0 rfl) (dq rfl (Qt.ldB 3 ty102 rfl rfl rfl) (dp rfl (Pu.nilCheck rfl) (dp rfl (Pu.fieldAddr fd153_2 rfl) (dq rfl (Qt.ldFz 2 rfl ty151 rfl qM.b1 rfl) (dp rfl (Pu.move rfl) (dp rfl (Pu.nilCheck rfl) (dp rfl (Pu.fieldAddr fd160_0 rfl) (dq rfl (Qt.ldB 3 ty102 rfl rfl rfl) (dp rfl (Pu.nilCheck rfl) (dp rfl (Pu.fieldAddr fd153_0 rfl) (dq rfl (Qt.ldFz 2 rfl ty98 rfl qM.b1 rfl) ?_)))))))))))))
 refine dp rfl (Pu.nilCheck rfl) (dp rfl (Pu.fieldAddr fd101_0 rfl) (dp rfl (Pu.fieldAddr fd36_0 rfl) (dq rfl (Qt.ldFz 2 rfl ty3 rfl qM.b2 rfl) (dp rfl (Pu.move rfl) (dq rfl (Qt.call ent87 rfl fun w s => sector_At_walk x.z.net.g.w t w h1) (dq rfl (Qt.lookV 1 hl mpz151 rfl rfl rfl) (dp rfl (Pu.lenSl sl23 rfl) (dp rfl (Pu.move rfl) (RD.nil (hK2 _ _ (cq [(0, _), (1, _), (5, _), (33, _), (34, _), (35, _)] ?_)))))))))))
 refine T.block ?_
 refine T.loopK (σ := Int × (y1 : Srs) × {z : SrIn y1 × MxIn H0 m x // q.hS.le z.1.hS ∧ qM.hA.le z.2.hA ∧ z.1.gb = q.gb ∧ z.1.gd = q.gd ∧ z.1.gq = q.gq}) [(0, _), (1, _), (5, _), (33, _), (34, _)] (fun ⟨j, y1, ⟨⟨q1, qM1⟩, hle⟩⟩ => [(35, .int .i64 j)]) (fun ⟨j, y1, ⟨⟨q1, qM1⟩, hle⟩⟩ => Sat w0 [mapL qM1.gf (vraw qM1.F), mapL qM1.ga (vraw qM1.A), fz qM1.hA, blk s [.pointer (some ⟨m, 0, none⟩), .map (some q1.gb), .map (some q1.gd), .pointer (some ⟨q1.gq, 0, none⟩)] 160, mapL q1.gb (vmap lblV q1.B), mapL q1.gd (vmap Value.bool y1.done), Que_ch q1.gq y1.q, fz q1.hS, F, blk b5 [.int .i64 way.cost, v] 105]) (fun ⟨j, y1, ⟨⟨q1, qM1⟩, hle⟩⟩ => 0 ≤ j ∧ j ≤ l.length ∧ spreadL x t way (l.drop j.toNat) y1 = some y2) (fun ⟨j, y1, ⟨⟨q1, qM1⟩, hle⟩⟩ => ((l.length : Int) - j).toNat) (0, ⟨y, ⟨(q, qM), Hp.le_refl _, Hp.le_refl _, rfl, rfl, rfl⟩⟩) (⟨by omega, by omega, H⟩) ⟨rfl, rfl, rfl, rfl, rfl, trivial⟩ ⟨rfl, rfl, rfl, rfl, rfl, rfl, trivial⟩ (fun _ s => s) ?_
 intro ⟨j, y1, ⟨⟨q1, qM1⟩, hle⟩⟩ hI K2_ hL1
 refine cq [(35, _), (0, _), (1, _), (5, _), (33, _), (34, _)] ?_
 obtain ⟨hk0, hk1, hI⟩ := hI
 try dsimp only at hk0 hk1 hI hle ⊢
 refine T.seq fun K3 hK3 => T.region (rp (Pu.bin rfl rfl rfl) (RS.nil (hK3 _ _ ?_)))
 refine T.seq fun K4 hK4 => ?_
 refine T.condP rfl (fun hc36 => ?_) (fun hc36 => ?_)
 ·refine T.skip (hK4 _ _ ?_)
  refine T.seq fun K5 hK5 => T.block (T.seq fun K6 hK6 => ?_)
  have hj : 0 ≤ j ∧ j < (l.length : Int) := ⟨hk0, hc36⟩
  obtain ⟨bl, ol, rfl⟩ := R_ptr hlr (ne_of_pos (by omega))
  have hdr := drop_gi hj
  rw [hdr] at hI
  simp only [spreadL] at hI
  obtain ⟨u, hu, hI⟩ := bindE hI
  obtain ⟨d, hd, hI⟩ := bindE hI
  refine T.region (rp (Pu.indexSl sl23 rfl rfl hj) (rq (Qt.ld0 (α := Int) (Rd.ofFz 2 rfl (Enc.mono hle.2.1 hlr)) ty3 rfl rfl hj (by rintro _ _ rfl; rfl)) (rA rfl (RS.nil (hK6 _ _ (cq [(0, _), (1, _), (5, _), (7, _), (33, _), (34, _), (35, _)] ?_))))))
  refine T.seq fun K7 hK7 => ?_
  refine T.drawnS [3, 4, 5, 6, 7, 8, 9] [(0, .pu), (1, .pu), (2, .pu), (3, .rd), (4, .pu), (5, .pu), (6, .pu), (7, .pu), (8, .wk), (9, .pu), (10, .rd), (11, .br), (12, .pu)] mixed (by kernel_rfl) rfl ?_
  refine RD.p (fun w s => s.pick [3, 4, 5, 6, 7, 8, 9] (by decide) rfl) rfl (Pu.move rfl) rfl rfl (RD.p (fun w s => s.pick [3, 4, 5, 6, 7, 8, 9] (by decide) rfl) rfl (Pu.nilCheck rfl) rfl rfl (RD.p (fun w s => s.pick [3, 4, 5, 6, 7, 8, 9] (by decide) rfl) rfl (Pu.fieldAddr fd160_0 rfl) rfl rfl (RD.q (fun w s => s.pick [3, 4, 5, 6, 7, 8, 9] (by decide) rfl) rfl (Qt.ldB 3 ty102 rfl rfl rfl) rfl rfl (RD.p (fun w s => s.pick [3, 4, 5, 6, 7, 8, 9] (by decide) rfl) rfl (Pu.move rfl) rfl rfl (RD.p (fun w s => s.pick [3, 4, 5, 6, 7, 8, 9] (by decide) rfl) rfl (Pu.move rfl) rfl rfl (RD.p (fun w s => s.pick [3, 4, 5, 6, 7, 8, 9] (by decide) rfl) rfl (Pu.nilCheck rfl) rfl rfl (RD.p (fun w s => s.pick [3, 4, 5, 6, 7, 8, 9] (by decide) rfl) rfl (Pu.fieldAddr fd160_0 rfl) rfl rfl ?_)))))))
  refine RD.w (fun w s => s.pick [3, 4, 5, 6, 7, 8, 9] (by decide) rfl) rfl (Qt.ldB 0 ty102 rfl rfl rfl) rfl rfl ?_
  refine RD.p (fun w s => s.pick [3, 4, 5, 6, 7, 8, 9] (by decide) rfl) rfl (Pu.move rfl) rfl rfl (RD.q (fun w s => s.pick [3, 4, 5, 6, 7, 8, 9] (by decide) rfl) rfl (Qt.call ent94 rfl fun w s => route_maze_tile_walk x.z (gi l j) w (Held.fz 2 rfl w s _ _ qM1.b1) (Held.fz 2 rfl w s _ _ qM1.b2) (Enc.mono (Hp.le_trans hH s.ext.hp) qM1.r0) (Enc.mono (Held.fz 2 rfl w s) qM1.r1) (Enc.mono (Held.fz 2 rfl w s) qM1.r2) hu) rfl rfl (RD.solid rfl (.inr rfl) rfl rfl (Sd.call ent90 rfl (fun w s => callFx (A := [_, _, _]) (B := [_, _, _, _, _, _, _]) (fun w s => mx_far_walk hH qM1 hd w s) s)) (fun _ => ClE.sat _ _) (fun _ w s => s.pick [3, 4, 5, 6, 7, 8, 9] (by decide) rfl) (fun h => nomatch h) fun z => ?_))
  refine RD.p (fun w s => s.pick [3, 4, 5, 6, 7, 8, 9] (by decide) rfl) rfl (Pu.assign rfl) rfl rfl (RD.nil (hK7 _ _ (cq [(0, _), (1, _), (5, _), (7, _), (8, _), (33, _), (34, _), (35, _)] ?_)))
  refine T.seq fun K8 hK8 => T.seq fun K9 hK9 => T.region (rM rfl (rp (Pu.bin rfl rfl rfl) (RS.nil (hK9 _ _ ?_))))
  refine T.condP rfl (fun hc52 => ?_) (fun hc52 => ?_)
  ·rw [if_pos hc52] at hI
   refine T.exitTo (by with_reducible (repeat (first | exact ExTo.here | exact ExTo.hereN | exact ExTo.deep (by repeat (first | exact NmTo.seq | apply NmTo.blk)) | apply ExTo.seq | refine ExTo.past (by decide) ?_))) (hK5 _ _ (cq [(0, _), (1, _), (5, _), (33, _), (34, _), (35, _)] ?_))
   refine T.region (rp (Pu.addS rfl rfl (by omega)) (rM rfl (RS.nil (hL1 _ _ (j + 1, ⟨y1, ⟨(q1, z.1), hle.1, Hp.le_trans hle.2.1 z.2, hle.2.2⟩⟩) ⟨by omega, by omega, hI⟩ (by show ((l.length : Int) - (j + 1)).toNat < ((l.length : Int) - j).toNat; omega) ⟨rfl, rfl, rfl, rfl, rfl, rfl, trivial⟩ (fun w s => s.pick [0, 1, 2, 3, 4, 5, 6, 7, 8, 9] (by decide) rfl)))))
  ·rw [if_neg hc52] at hI
   obtain ⟨hp, hI⟩ := gdE hI
   obtain ⟨g1, hI⟩ := gdE hI
   obtain ⟨ov, hov, hI⟩ := bindE hI
   obtain ⟨g2, hI⟩ := gdE hI
   obtain ⟨lc, hlc, hI⟩ := bindE hI
   obtain ⟨g3, hI⟩ := gdE hI
   try dsimp only at hI
   refine T.skip (hK8 _ _ ?_)
   refine T.seq fun K10 hK10 => T.region (rM rfl (rp (Pu.xor1 rfl rfl hp) (rA rfl (RS.nil (hK10 _ _ (cq [(0, _), (1, _), (5, _), (7, _), (8, _), (9, _), (33, _), (34, _), (35, _)] ?_))))))
   refine T.seqJoinK (σ := Nat × (Option Nat × Nat)) [(0, _), (1, _), (5, _), (9, _), (33, _), (34, _), (35, _)] (fun ⟨b10, qr⟩ => [(10, .pointer (some ⟨b10, 0, none⟩))]) (fun ⟨b10, qr⟩ => Sat w0 [mapL z.1.gf (vraw z.1.F), mapL z.1.ga (vraw z.1.A), fz z.1.hA, blk s [.pointer (some ⟨m, 0, none⟩), .map (some q1.gb), .map (some q1.gd), .pointer (some ⟨q1.gq, 0, none⟩)] 160, mapL q1.gb (vmap lblV q1.B), mapL q1.gd (vmap Value.bool y1.done), Que_ch q1.gq y1.q, fz q1.hS, F, blk b5 [.int .i64 way.cost, v] 105, row nilH 3 (rowV qr (lc ++ [gi l j / 2]).length) (lc ++ [gi l j / 2]), blk b10 [.int .i64 (way.cost + d + ov), rowV qr (lc ++ [gi l j / 2]).length] 105]) (fun ⟨b10, qr⟩ => True) ⟨rfl, rfl, rfl, rfl, rfl, rfl, rfl, trivial⟩ (fun ⟨b10, qr⟩ hJ11 => ?_) (fun K11 hK11 => ?_)
   ·refine cq [(10, _), (0, _), (1, _), (5, _), (9, _), (33, _), (34, _), (35, _)] ?_
    refine T.seq fun K12 hK12 => ?_
    obtain ⟨po, co, lo, hgo, hro, hlo, hso⟩ := best_val q1 (gi l j + 1 - 2 * (gi l j % 2))
    refine T.region (rM rfl (rp (Pu.nilCheck rfl) (rp (Pu.fieldAddr fd160_1 rfl) (rq (Qt.ldB 3 ty155 rfl rfl rfl) (rM rfl (rq (Qt.lookV2 4 hgo hso mpz155 rfl rfl rfl) (rM rfl (rp (Pu.extract rfl rfl) (rp (Pu.extract rfl rfl) (RS.solid (Sd.alloc zr105 rfl) rfl rfl fun b11 => RS.solid (Sd.stB (cs' := [_, _]) 12 ty105 rfl rfl rfl rfl rfl rfl rfl rfl) rfl rfl fun _ => rA rfl (RS.nil (hK12 _ _ (cq [(0, _), (1, _), (5, _), (9, _), (10, _), (11, _), (12, _), (33, _), (34, _), (35, _)] ?_)))))))))))))
    refine T.seq fun K13 hK13 => T.region (rM rfl (rp (Pu.nilCheck rfl) (rp (Pu.fieldAddr fd160_2 rfl) (rq (Qt.ldB 3 ty156 rfl rfl rfl) (rM rfl (rq (Qt.lookV 5 done_get mpz156 rfl rfl rfl) (rp (Pu.not rfl) (rM rfl ?_))))))))
    refine RS.split 91 rfl (fun h91 => ?_) (fun h91 => ?_)
    ·have hnd : ¬ (kget y1.done (gi l j + 1 - 2 * (gi l j % 2))).getD false = true := by simpa using h91
     rw [if_neg hnd] at hI
     refine rM rfl (rp (Pu.not rfl) (rM rfl ?_))
     refine RS.split 94 rfl (fun h94 => ?_) (fun h94 => ?_)
     ·have hno : kget y1.best (gi l j + 1 - 2 * (gi l j % 2)) = none := by simpa using h94
      rw [hno] at hI
      simp only [Option.bind_some, if_true] at hI
      refine ro (ro (ro (rp (Pu.pickT rfl rfl) (rp (Pu.pickT rfl rfl) (RS.nil (hK13 _ _ ?_))))))
      refine T.condT rfl ?_
      refine cq [(0, _), (1, _), (5, _), (9, _), (10, _), (33, _), (34, _), (35, _)] ?_
      refine T.seq fun K14 hK14 => ?_
      refine T.drawn (fun _ => True) [(0, .pu), (1, .pu), (2, .pu), (3, .rd), (4, .pu), (5, .rd), (6, .br)] mixed (ClE.sat _ _) (by kernel_rfl) ?_
      refine dp rfl (Pu.move rfl) (dp rfl (Pu.nilCheck rfl) (dp rfl (Pu.fieldAddr fd160_1 rfl) (dq rfl (Qt.ldB 3 ty155 rfl rfl rfl) (dp rfl (Pu.move rfl) (dq rfl (Qt.ldBA (us := [_, _]) 11 ty105 rfl rfl rfl rfl) (RD.solid rfl (.inr rfl) rfl rfl (Sd.mapPut 4 mpz155 rfl rfl rfl rfl) (fun _ => ClE.sat _ _) (fun _ _ _ => trivial) (fun h => nomatch h) fun _ => ?_))))))
      refine RD.nil (hK14 _ _ (cq [(0, _), (1, _), (5, _), (9, _), (10, _), (33, _), (34, _), (35, _)] ?_))
      obtain ⟨qq, hqq, hI⟩ := bindE hI
      refine T.drawn (fun _ => True) [(0, .pu), (1, .pu), (2, .pu), (3, .rd), (4, .pu), (5, .rd), (6, .pu), (7, .br)] mixed (ClE.sat _ _) (by kernel_rfl) ?_
      refine dp rfl (Pu.move rfl) (dp rfl (Pu.nilCheck rfl) (dp rfl (Pu.fieldAddr fd160_3 rfl) (dq rfl (Qt.ldB 3 ty157 rfl rfl rfl) (dp rfl (Pu.fieldAddr fd105_0 rfl) (dq rfl (Qt.ldB 11 ty3 rfl rfl rfl) (dp rfl (Pu.move rfl) (RD.solid rfl (.inr rfl) rfl rfl (Sd.callF0 6 ent103 rfl rfl (fun w s => queue_Queue_Push_walk q1.gq y1.q _ (gi l j + 1 - 2 * (gi l j % 2)) hqq w s)) (fun _ => ClE.sat _ _) (fun _ _ _ => trivial) (fun h => nomatch h) fun _ => ?_)))))))
      refine RD.nil (hK5 _ _ (cq [(0, _), (1, _), (5, _), (33, _), (34, _), (35, _)] ?_))
      refine T.region (rp (Pu.addS rfl rfl (by omega)) (rM rfl (RS.nil (Cont.exP (fun w s => s.absorb 7 10 rfl rfl (by decide)) fun hB hz => ?_))))
      obtain ⟨l1, p1, hp1, k1⟩ := hz
      refine hL1 _ _ (j + 1, ⟨⟨kput y1.best (gi l j + 1 - 2 * (gi l j % 2)) (⟨way.cost + d + ov, lc ++ [gi l j / 2]⟩ : Lbl), y1.done, qq⟩, ⟨(⟨hB, q1.gb, q1.gd, q1.gq, kput q1.B (gi l j + 1 - 2 * (gi l j % 2)) (rowV qr (lc ++ [gi l j / 2]).length, (⟨way.cost + d + ov, lc ++ [gi l j / 2]⟩ : Lbl)), by rw [q1.aB]; exact vabs_put (rowV qr (lc ++ [gi l j / 2]).length, (⟨way.cost + d + ov, lc ++ [gi l j / 2]⟩ : Lbl)), fun e he => ?_⟩, z.1), Hp.le_trans hle.1 l1, Hp.le_trans hle.2.1 z.2, hle.2.2⟩⟩) ⟨by omega, by omega, hI⟩ (by show ((l.length : Int) - (j + 1)).toNat < ((l.length : Int) - j).toNat; omega) ⟨rfl, rfl, rfl, rfl, rfl, rfl, trivial⟩ (fun w s => ?_)
      ·rcases mem_vput he with rfl | he
       ·exact LB.mono k1 (LB.row hp1)
       ·exact LB.mono l1 (q1.rB e he)
      ·have s2 := s.pick (G' := [_, _, _, _, mapL q1.gb (kput (vmap lblV q1.B) (gi l j + 1 - 2 * (gi l j % 2)) (lblV (rowV qr (lc ++ [gi l j / 2]).length, (⟨way.cost + d + ov, lc ++ [gi l j / 2]⟩ : Lbl)))), _, _, _, _, _]) [0, 1, 2, 3, 4, 5, 6, 7, 8, 9] (by decide) rfl
       rw [kput_vmap] at s2
       exact s2
     ·obtain ⟨old, hold⟩ : ∃ o, kget y1.best (gi l j + 1 - 2 * (gi l j % 2)) = some o := by cases h : kget y1.best (gi l j + 1 - 2 * (gi l j % 2)) <;> simp_all
      obtain rfl : old = lo := by rw [hold] at hlo; exact hlo
      rw [hold] at hI
      dsimp only at hI
      obtain ⟨bb, hb, hI⟩ := bindE hI
      refine rq (Qt.ldBA (us := [_, _]) 11 ty105 rfl rfl rfl rfl) (rq (Qt.ldBA (us := [_, _]) 12 ty105 rfl rfl rfl rfl) (rq (Qt.call ent91 rfl fun w s => route_label_less_walk (⟨way.cost + d + ov, lc ++ [gi l j / 2]⟩ : Lbl) old w ((Rd.ofRowN 10 rfl) w s) (Enc.mono (Held.fz 7 rfl w s) hro.toR) hb) (rp (Pu.pickF rfl rfl) (rp (Pu.pickT rfl rfl) (RS.nil (hK13 _ _ ?_))))))
      refine T.cond rfl (fun hc99 => ?_) (fun hc99 => ?_)
      ·rw [if_pos hc99] at hI
       refine cq [(0, _), (1, _), (5, _), (9, _), (10, _), (33, _), (34, _), (35, _)] ?_
       refine T.seq fun K15 hK15 => ?_
       refine T.drawn (fun _ => True) [(0, .pu), (1, .pu), (2, .pu), (3, .rd), (4, .pu), (5, .rd), (6, .br)] mixed (ClE.sat _ _) (by kernel_rfl) ?_
       refine dp rfl (Pu.move rfl) (dp rfl (Pu.nilCheck rfl) (dp rfl (Pu.fieldAddr fd160_1 rfl) (dq rfl (Qt.ldB 3 ty155 rfl rfl rfl) (dp rfl (Pu.move rfl) (dq rfl (Qt.ldBA (us := [_, _]) 11 ty105 rfl rfl rfl rfl) (RD.solid rfl (.inr rfl) rfl rfl (Sd.mapPut 4 mpz155 rfl rfl rfl rfl) (fun _ => ClE.sat _ _) (fun _ _ _ => trivial) (fun h => nomatch h) fun _ => ?_))))))
       refine RD.nil (hK15 _ _ (cq [(0, _), (1, _), (5, _), (9, _), (10, _), (33, _), (34, _), (35, _)] ?_))
       obtain ⟨qq, hqq, hI⟩ := bindE hI
       refine T.drawn (fun _ => True) [(0, .pu), (1, .pu), (2, .pu), (3, .rd), (4, .pu), (5, .rd), (6, .pu), (7, .br)] mixed (ClE.sat _ _) (by kernel_rfl) ?_
       refine dp rfl (Pu.move rfl) (dp rfl (Pu.nilCheck rfl) (dp rfl (Pu.fieldAddr fd160_3 rfl) (dq rfl (Qt.ldB 3 ty157 rfl rfl rfl) (dp rfl (Pu.fieldAddr fd105_0 rfl) (dq rfl (Qt.ldB 11 ty3 rfl rfl rfl) (dp rfl (Pu.move rfl) (RD.solid rfl (.inr rfl) rfl rfl (Sd.callF0 6 ent103 rfl rfl (fun w s => queue_Queue_Push_walk q1.gq y1.q _ (gi l j + 1 - 2 * (gi l j % 2)) hqq w s)) (fun _ => ClE.sat _ _) (fun _ _ _ => trivial) (fun h => nomatch h) fun _ => ?_)))))))
       refine RD.nil (hK5 _ _ (cq [(0, _), (1, _), (5, _), (33, _), (34, _), (35, _)] ?_))
       refine T.region (rp (Pu.addS rfl rfl (by omega)) (rM rfl (RS.nil (Cont.exP (fun w s => s.absorb 7 10 rfl rfl (by decide)) fun hB hz => ?_))))
       obtain ⟨l1, p1, hp1, k1⟩ := hz
       refine hL1 _ _ (j + 1, ⟨⟨kput y1.best (gi l j + 1 - 2 * (gi l j % 2)) (⟨way.cost + d + ov, lc ++ [gi l j / 2]⟩ : Lbl), y1.done, qq⟩, ⟨(⟨hB, q1.gb, q1.gd, q1.gq, kput q1.B (gi l j + 1 - 2 * (gi l j % 2)) (rowV qr (lc ++ [gi l j / 2]).length, (⟨way.cost + d + ov, lc ++ [gi l j / 2]⟩ : Lbl)), by rw [q1.aB]; exact vabs_put (rowV qr (lc ++ [gi l j / 2]).length, (⟨way.cost + d + ov, lc ++ [gi l j / 2]⟩ : Lbl)), fun e he => ?_⟩, z.1), Hp.le_trans hle.1 l1, Hp.le_trans hle.2.1 z.2, hle.2.2⟩⟩) ⟨by omega, by omega, hI⟩ (by show ((l.length : Int) - (j + 1)).toNat < ((l.length : Int) - j).toNat; omega) ⟨rfl, rfl, rfl, rfl, rfl, rfl, trivial⟩ (fun w s => ?_)
       ·rcases mem_vput he with rfl | he
        ·exact LB.mono k1 (LB.row hp1)
        ·exact LB.mono l1 (q1.rB e he)
       ·have s2 := s.pick (G' := [_, _, _, _, mapL q1.gb (kput (vmap lblV q1.B) (gi l j + 1 - 2 * (gi l j % 2)) (lblV (rowV qr (lc ++ [gi l j / 2]).length, (⟨way.cost + d + ov, lc ++ [gi l j / 2]⟩ : Lbl)))), _, _, _, _, _]) [0, 1, 2, 3, 4, 5, 6, 7, 8, 9] (by decide) rfl
        rw [kput_vmap] at s2
        exact s2
      ·rw [if_neg (by rw [hc99]; simp)] at hI
       refine T.skip (hK5 _ _ (cq [(0, _), (1, _), (5, _), (33, _), (34, _), (35, _)] ?_))
       refine T.region (rp (Pu.addS rfl rfl (by omega)) (rM rfl (RS.nil (hL1 _ _ (j + 1, ⟨y1, ⟨(q1, z.1), hle.1, Hp.le_trans hle.2.1 z.2, hle.2.2⟩⟩) ⟨by omega, by omega, hI⟩ (by show ((l.length : Int) - (j + 1)).toNat < ((l.length : Int) - j).toNat; omega) ⟨rfl, rfl, rfl, rfl, rfl, rfl, trivial⟩ (fun w s => s.pick [0, 1, 2, 3, 4, 5, 6, 7, 8, 9] (by decide) rfl)))))
    ·have hnd : (kget y1.done (gi l j + 1 - 2 * (gi l j % 2))).getD false = true := by simpa using h91
     rw [if_pos hnd] at hI
     refine ro (ro (ro (ro (ro (ro (ro (rp (Pu.pickF rfl rfl) (RS.nil (hK13 _ _ ?_)))))))))
     refine T.condF rfl ?_
     refine T.skip (hK5 _ _ (cq [(0, _), (1, _), (5, _), (33, _), (34, _), (35, _)] ?_))
     refine T.region (rp (Pu.addS rfl rfl (by omega)) (rM rfl (RS.nil (hL1 _ _ (j + 1, ⟨y1, ⟨(q1, z.1), hle.1, Hp.le_trans hle.2.1 z.2, hle.2.2⟩⟩) ⟨by omega, by omega, hI⟩ (by show ((l.length : Int) - (j + 1)).toNat < ((l.length : Int) - j).toNat; omega) ⟨rfl, rfl, rfl, rfl, rfl, rfl, trivial⟩ (fun w s => s.pick [0, 1, 2, 3, 4, 5, 6, 7, 8, 9] (by decide) rfl)))))
   ·refine T.drawnMS [0, 1, 2, 3, 4, 5, 6, 7, 8, 9] [(0, .pu), (1, .wk), (2, .pu), (3, .pu), (4, .pu), (5, .pu), (6, .pu), (7, .wk), (8, .pu), (9, .pu), (10, .wk), (11, .pu), (12, .pu), (13, .wk), (14, .so), (15, .pu), (16, .pu), (17, .so), (18, .br), (19, .pu), (20, .so), (21, .br)] (.st 0 .pu (.st 1 .wk (.st 2 .pu (.st 3 .pu (.st 4 .pu (.st 5 .pu (.st 6 .pu (.st 7 .wk (.st 8 .pu (.st 9 .pu (.st 10 .wk (.st 11 .pu (.st 12 .pu (.st 13 .wk (.st 15 .pu (.st 16 .pu (.three 14 .so (.two 17 .so (.two 18 .br (.st 19 .pu (.st 20 .so (.st 21 .br .nil))) 20 .so (.st 18 .br (.st 19 .pu (.st 21 .br .nil)))) 20 .so (.st 17 .so (.st 18 .br (.st 19 .pu (.st 21 .br .nil))))) 17 .so (.two 14 .so (.two 18 .br (.st 19 .pu (.st 20 .so (.st 21 .br .nil))) 20 .so (.st 18 .br (.st 19 .pu (.st 21 .br .nil)))) 20 .so (.st 14 .so (.st 18 .br (.st 19 .pu (.st 21 .br .nil))))) 20 .so (.two 14 .so (.st 17 .so (.st 18 .br (.st 19 .pu (.st 21 .br .nil)))) 17 .so (.st 14 .so (.st 18 .br (.st 19 .pu (.st 21 .br .nil)))))))))))))))))))))) mixed (by kernel_rfl) rfl ?_
    refine RM.p (fun w s => s.pick [0, 1, 2, 3, 4, 5, 6, 7, 8, 9] (by decide) rfl) rfl (Pu.fieldAddr fd105_0 rfl) rfl rfl ?_
    refine RM.w (fun w s => s.pick [0, 1, 2, 3, 4, 5, 6, 7, 8, 9] (by decide) rfl) rfl (Qt.ldB 9 ty3 rfl rfl rfl) rfl rfl ?_
    refine RM.p (fun w s => s.pick [0, 1, 2, 3, 4, 5, 6, 7, 8, 9] (by decide) rfl) rfl (Pu.move rfl) rfl rfl ?_
    refine RM.p (fun w s => s.pick [0, 1, 2, 3, 4, 5, 6, 7, 8, 9] (by decide) rfl) rfl (Pu.addS rfl rfl g1) rfl rfl ?_
    refine RM.p (fun w s => s.pick [0, 1, 2, 3, 4, 5, 6, 7, 8, 9] (by decide) rfl) rfl (Pu.move rfl) rfl rfl ?_
    refine RM.p (fun w s => s.pick [0, 1, 2, 3, 4, 5, 6, 7, 8, 9] (by decide) rfl) rfl (Pu.nilCheck rfl) rfl rfl ?_
    refine RM.p (fun w s => s.pick [0, 1, 2, 3, 4, 5, 6, 7, 8, 9] (by decide) rfl) rfl (Pu.fieldAddr fd160_0 rfl) rfl rfl ?_
    refine RM.w (fun w s => s.pick [0, 1, 2, 3, 4, 5, 6, 7, 8, 9] (by decide) rfl) rfl (Qt.ldB 3 ty102 rfl rfl rfl) rfl rfl ?_
    refine RM.p (fun w s => s.pick [0, 1, 2, 3, 4, 5, 6, 7, 8, 9] (by decide) rfl) rfl (Pu.move rfl) rfl rfl ?_
    refine RM.p (fun w s => s.pick [0, 1, 2, 3, 4, 5, 6, 7, 8, 9] (by decide) rfl) rfl (Pu.quoN rfl rfl ⟨hp.1, hp.2, by decide⟩) rfl rfl ?_
    refine RM.w (fun w s => s.pick [0, 1, 2, 3, 4, 5, 6, 7, 8, 9] (by decide) rfl) rfl (Qt.call ent125 rfl fun w s => route_maze_over_walk x.z (gi l j / 2) w (Held.fz 2 rfl w s _ _ z.1.b1) (Held.fz 2 rfl w s _ _ z.1.b2) (Enc.mono (Hp.le_trans hH s.ext.hp) z.1.r0) (Enc.mono (Held.fz 2 rfl w s) z.1.r1) (Enc.mono (Held.fz 2 rfl w s) z.1.r2) hov) rfl rfl ?_
    refine RM.p (fun w s => s.pick [0, 1, 2, 3, 4, 5, 6, 7, 8, 9] (by decide) rfl) rfl (Pu.addS rfl rfl g2) rfl rfl ?_
    refine RM.p (fun w s => s.pick [0, 1, 2, 3, 4, 5, 6, 7, 8, 9] (by decide) rfl) rfl (Pu.fieldAddr fd105_1 rfl) rfl rfl ?_
    refine RM.w (fun w s => s.pick [0, 1, 2, 3, 4, 5, 6, 7, 8, 9] (by decide) rfl) rfl (Qt.ldB 9 ty23 rfl rfl rfl) rfl rfl ?_
    refine RM.p (fun w s => s.pick [0, 1, 2, 3, 4, 5, 6, 7, 8, 9] (by decide) rfl) rfl (Pu.move rfl) rfl rfl ?_
    refine RM.p (fun w s => s.pick [0, 1, 2, 3, 4, 5, 6, 7, 8, 9] (by decide) rfl) rfl (Pu.quoN rfl rfl ⟨hp.1, hp.2, by decide⟩) rfl rfl ?_
    refine RM.three ?_ ?_ ?_
    ·refine RT1.solid rfl (.inl rfl) rfl rfl (Sd.callN ent46 rfl (fun w s => slices_Clone_Int_walk way.l w (Enc.mono (Held.fz 7 rfl w s) (Enc.mono hle.1 hv)) hlc)) (fun _ => ClE.sat _ _) (fun _ w s => s.pick [0, 1, 2, 3, 4, 5, 6, 7, 8, 9] (by decide) rfl) (fun _ _ _ s => s.drop1) fun q69 => ?_
     refine RT.two ?_ ?_
     ·refine RT1.solid rfl (.inl rfl) rfl rfl (Sd.litS (cs := [_]) sl23 zr3 rfl rfl rfl rfl rfl) (fun _ => ClE.sat _ _) (fun _ w s => s.pick [0, 1, 2, 3, 4, 5, 6, 7, 8, 9] (by decide) rfl) (fun _ _ _ s => s.drop1) fun b72 => ?_
      refine RT.two ?_ ?_
      ·refine RT1.solid rfl (.inr rfl) rfl rfl (Sd.app1c (α := Int) 10 11 (gi l j / 2) rfl rfl (nilH_lt _) sl23 zr3 rfl rfl rfl rfl g3 (by decide)) (fun _ => ClE.sat _ _) (fun _ w s => s.pick [0, 1, 2, 3, 4, 5, 6, 7, 8, 9] (by decide) rfl) (fun h => nomatch h) fun q73 => ?_
       refine RT.p (fun w s => s.pick [0, 1, 2, 3, 4, 5, 6, 7, 8, 9] (by decide) rfl) rfl (Pu.build (cells := [_, _]) st105 rfl rfl) rfl rfl (RT.solid rfl (.inl rfl) rfl rfl (Sd.alloc zr105 rfl) (fun _ => ClE.sat _ _) (fun _ w s => s.pick [0, 1, 2, 3, 4, 5, 6, 7, 8, 9] (by decide) rfl) (fun _ _ _ s => s.drop1) fun b10 => ?_)
       refine RT.solid rfl (.inr rfl) rfl rfl (Sd.stB (cs' := [_, _]) 12 ty105 rfl rfl rfl rfl rfl rfl rfl rfl) (fun _ => ClE.sat _ _) (fun _ w s => s.pick [0, 1, 2, 3, 4, 5, 6, 7, 8, 9] (by decide) rfl) (fun h => nomatch h) fun _ => ?_
       refine RT.nil (Cont.weakS (S' := Sat w0 [mapL z.1.gf (vraw z.1.F), mapL z.1.ga (vraw z.1.A), fz z.1.hA, blk s [.pointer (some ⟨m, 0, none⟩), .map (some q1.gb), .map (some q1.gd), .pointer (some ⟨q1.gq, 0, none⟩)] 160, mapL q1.gb (vmap lblV q1.B), mapL q1.gd (vmap Value.bool y1.done), Que_ch q1.gq y1.q, fz q1.hS, F, blk b5 [.int .i64 way.cost, v] 105, row nilH 3 (rowV q73 (lc ++ [gi l j / 2]).length) (lc ++ [gi l j / 2]), blk b10 [.int .i64 (way.cost + d + ov), rowV q73 (lc ++ [gi l j / 2]).length] 105]) (fun w s => s.pick [0, 1, 2, 3, 4, 5, 6, 7, 8, 9, 10, 12] (by decide) rfl) ?_)
       refine id (hK11 _ _ (b10, q73) trivial ⟨rfl, rfl, rfl, rfl, rfl, rfl, rfl, rfl, trivial⟩ (fun w s => s))
      ·refine RT1.solid rfl (.inl rfl) rfl rfl (Sd.alloc zr105 rfl) (fun _ => ClE.sat _ _) (fun _ w s => s.pick [0, 1, 2, 3, 4, 5, 6, 7, 8, 9] (by decide) rfl) (fun _ _ _ s => s.drop1) fun b10 => ?_
       refine RT.solid rfl (.inr rfl) rfl rfl (Sd.app1c (α := Int) 10 11 (gi l j / 2) rfl rfl (nilH_lt _) sl23 zr3 rfl rfl rfl rfl g3 (by decide)) (fun _ => ClE.sat _ _) (fun _ w s => s.pick [0, 1, 2, 3, 4, 5, 6, 7, 8, 9] (by decide) rfl) (fun h => nomatch h) fun q73 => ?_
       refine RT.p (fun w s => s.pick [0, 1, 2, 3, 4, 5, 6, 7, 8, 9] (by decide) rfl) rfl (Pu.build (cells := [_, _]) st105 rfl rfl) rfl rfl (RT.solid rfl (.inr rfl) rfl rfl (Sd.stB (cs' := [_, _]) 12 ty105 rfl rfl rfl rfl rfl rfl rfl rfl) (fun _ => ClE.sat _ _) (fun _ w s => s.pick [0, 1, 2, 3, 4, 5, 6, 7, 8, 9] (by decide) rfl) (fun h => nomatch h) fun _ => ?_)
       refine RT.nil (Cont.weakS (S' := Sat w0 [mapL z.1.gf (vraw z.1.F), mapL z.1.ga (vraw z.1.A), fz z.1.hA, blk s [.pointer (some ⟨m, 0, none⟩), .map (some q1.gb), .map (some q1.gd), .pointer (some ⟨q1.gq, 0, none⟩)] 160, mapL q1.gb (vmap lblV q1.B), mapL q1.gd (vmap Value.bool y1.done), Que_ch q1.gq y1.q, fz q1.hS, F, blk b5 [.int .i64 way.cost, v] 105, row nilH 3 (rowV q73 (lc ++ [gi l j / 2]).length) (lc ++ [gi l j / 2]), blk b10 [.int .i64 (way.cost + d + ov), rowV q73 (lc ++ [gi l j / 2]).length] 105]) (fun w s => s.pick [0, 1, 2, 3, 4, 5, 6, 7, 8, 9, 10, 12] (by decide) rfl) ?_)
       refine id (hK11 _ _ (b10, q73) trivial ⟨rfl, rfl, rfl, rfl, rfl, rfl, rfl, rfl, trivial⟩ (fun w s => s))
     ·refine RT1.solid rfl (.inl rfl) rfl rfl (Sd.alloc zr105 rfl) (fun _ => ClE.sat _ _) (fun _ w s => s.pick [0, 1, 2, 3, 4, 5, 6, 7, 8, 9] (by decide) rfl) (fun _ _ _ s => s.drop1) fun b10 => ?_
      refine RT.solid rfl (.inl rfl) rfl rfl (Sd.litS (cs := [_]) sl23 zr3 rfl rfl rfl rfl rfl) (fun _ => ClE.sat _ _) (fun _ w s => s.pick [0, 1, 2, 3, 4, 5, 6, 7, 8, 9] (by decide) rfl) (fun _ _ _ s => s.drop1) fun b72 => ?_
      refine RT.solid rfl (.inr rfl) rfl rfl (Sd.app1c (α := Int) 10 12 (gi l j / 2) rfl rfl (nilH_lt _) sl23 zr3 rfl rfl rfl rfl g3 (by decide)) (fun _ => ClE.sat _ _) (fun _ w s => s.pick [0, 1, 2, 3, 4, 5, 6, 7, 8, 9] (by decide) rfl) (fun h => nomatch h) fun q73 => ?_
      refine RT.p (fun w s => s.pick [0, 1, 2, 3, 4, 5, 6, 7, 8, 9] (by decide) rfl) rfl (Pu.build (cells := [_, _]) st105 rfl rfl) rfl rfl (RT.solid rfl (.inr rfl) rfl rfl (Sd.stB (cs' := [_, _]) 11 ty105 rfl rfl rfl rfl rfl rfl rfl rfl) (fun _ => ClE.sat _ _) (fun _ w s => s.pick [0, 1, 2, 3, 4, 5, 6, 7, 8, 9] (by decide) rfl) (fun h => nomatch h) fun _ => ?_)
      refine RT.nil (Cont.weakS (S' := Sat w0 [mapL z.1.gf (vraw z.1.F), mapL z.1.ga (vraw z.1.A), fz z.1.hA, blk s [.pointer (some ⟨m, 0, none⟩), .map (some q1.gb), .map (some q1.gd), .pointer (some ⟨q1.gq, 0, none⟩)] 160, mapL q1.gb (vmap lblV q1.B), mapL q1.gd (vmap Value.bool y1.done), Que_ch q1.gq y1.q, fz q1.hS, F, blk b5 [.int .i64 way.cost, v] 105, row nilH 3 (rowV q73 (lc ++ [gi l j / 2]).length) (lc ++ [gi l j / 2]), blk b10 [.int .i64 (way.cost + d + ov), rowV q73 (lc ++ [gi l j / 2]).length] 105]) (fun w s => s.pick [0, 1, 2, 3, 4, 5, 6, 7, 8, 9, 10, 11] (by decide) rfl) ?_)
      refine id (hK11 _ _ (b10, q73) trivial ⟨rfl, rfl, rfl, rfl, rfl, rfl, rfl, rfl, trivial⟩ (fun w s => s))
    ·refine RT1.solid rfl (.inl rfl) rfl rfl (Sd.litS (cs := [_]) sl23 zr3 rfl rfl rfl rfl rfl) (fun _ => ClE.sat _ _) (fun _ w s => s.pick [0, 1, 2, 3, 4, 5, 6, 7, 8, 9] (by decide) rfl) (fun _ _ _ s => s.drop1) fun b72 => ?_
     refine RT.two ?_ ?_
     ·refine RT1.solid rfl (.inl rfl) rfl rfl (Sd.callN ent46 rfl (fun w s => slices_Clone_Int_walk way.l w (Enc.mono (Held.fz 7 rfl w s) (Enc.mono hle.1 hv)) hlc)) (fun _ => ClE.sat _ _) (fun _ w s => s.pick [0, 1, 2, 3, 4, 5, 6, 7, 8, 9] (by decide) rfl) (fun _ _ _ s => s.drop1) fun q69 => ?_
      refine RT.two ?_ ?_
      ·refine RT1.solid rfl (.inr rfl) rfl rfl (Sd.app1c (α := Int) 11 10 (gi l j / 2) rfl rfl (nilH_lt _) sl23 zr3 rfl rfl rfl rfl g3 (by decide)) (fun _ => ClE.sat _ _) (fun _ w s => s.pick [0, 1, 2, 3, 4, 5, 6, 7, 8, 9] (by decide) rfl) (fun h => nomatch h) fun q73 => ?_
       refine RT.p (fun w s => s.pick [0, 1, 2, 3, 4, 5, 6, 7, 8, 9] (by decide) rfl) rfl (Pu.build (cells := [_, _]) st105 rfl rfl) rfl rfl (RT.solid rfl (.inl rfl) rfl rfl (Sd.alloc zr105 rfl) (fun _ => ClE.sat _ _) (fun _ w s => s.pick [0, 1, 2, 3, 4, 5, 6, 7, 8, 9] (by decide) rfl) (fun _ _ _ s => s.drop1) fun b10 => ?_)
       refine RT.solid rfl (.inr rfl) rfl rfl (Sd.stB (cs' := [_, _]) 12 ty105 rfl rfl rfl rfl rfl rfl rfl rfl) (fun _ => ClE.sat _ _) (fun _ w s => s.pick [0, 1, 2, 3, 4, 5, 6, 7, 8, 9] (by decide) rfl) (fun h => nomatch h) fun _ => ?_
       refine RT.nil (Cont.weakS (S' := Sat w0 [mapL z.1.gf (vraw z.1.F), mapL z.1.ga (vraw z.1.A), fz z.1.hA, blk s [.pointer (some ⟨m, 0, none⟩), .map (some q1.gb), .map (some q1.gd), .pointer (some ⟨q1.gq, 0, none⟩)] 160, mapL q1.gb (vmap lblV q1.B), mapL q1.gd (vmap Value.bool y1.done), Que_ch q1.gq y1.q, fz q1.hS, F, blk b5 [.int .i64 way.cost, v] 105, row nilH 3 (rowV q73 (lc ++ [gi l j / 2]).length) (lc ++ [gi l j / 2]), blk b10 [.int .i64 (way.cost + d + ov), rowV q73 (lc ++ [gi l j / 2]).length] 105]) (fun w s => s.pick [0, 1, 2, 3, 4, 5, 6, 7, 8, 9, 11, 12] (by decide) rfl) ?_)
       refine id (hK11 _ _ (b10, q73) trivial ⟨rfl, rfl, rfl, rfl, rfl, rfl, rfl, rfl, trivial⟩ (fun w s => s))
      ·refine RT1.solid rfl (.inl rfl) rfl rfl (Sd.alloc zr105 rfl) (fun _ => ClE.sat _ _) (fun _ w s => s.pick [0, 1, 2, 3, 4, 5, 6, 7, 8, 9] (by decide) rfl) (fun _ _ _ s => s.drop1) fun b10 => ?_
       refine RT.solid rfl (.inr rfl) rfl rfl (Sd.app1c (α := Int) 11 10 (gi l j / 2) rfl rfl (nilH_lt _) sl23 zr3 rfl rfl rfl rfl g3 (by decide)) (fun _ => ClE.sat _ _) (fun _ w s => s.pick [0, 1, 2, 3, 4, 5, 6, 7, 8, 9] (by decide) rfl) (fun h => nomatch h) fun q73 => ?_
       refine RT.p (fun w s => s.pick [0, 1, 2, 3, 4, 5, 6, 7, 8, 9] (by decide) rfl) rfl (Pu.build (cells := [_, _]) st105 rfl rfl) rfl rfl (RT.solid rfl (.inr rfl) rfl rfl (Sd.stB (cs' := [_, _]) 12 ty105 rfl rfl rfl rfl rfl rfl rfl rfl) (fun _ => ClE.sat _ _) (fun _ w s => s.pick [0, 1, 2, 3, 4, 5, 6, 7, 8, 9] (by decide) rfl) (fun h => nomatch h) fun _ => ?_)
       refine RT.nil (Cont.weakS (S' := Sat w0 [mapL z.1.gf (vraw z.1.F), mapL z.1.ga (vraw z.1.A), fz z.1.hA, blk s [.pointer (some ⟨m, 0, none⟩), .map (some q1.gb), .map (some q1.gd), .pointer (some ⟨q1.gq, 0, none⟩)] 160, mapL q1.gb (vmap lblV q1.B), mapL q1.gd (vmap Value.bool y1.done), Que_ch q1.gq y1.q, fz q1.hS, F, blk b5 [.int .i64 way.cost, v] 105, row nilH 3 (rowV q73 (lc ++ [gi l j / 2]).length) (lc ++ [gi l j / 2]), blk b10 [.int .i64 (way.cost + d + ov), rowV q73 (lc ++ [gi l j / 2]).length] 105]) (fun w s => s.pick [0, 1, 2, 3, 4, 5, 6, 7, 8, 9, 11, 12] (by decide) rfl) ?_)
       refine id (hK11 _ _ (b10, q73) trivial ⟨rfl, rfl, rfl, rfl, rfl, rfl, rfl, rfl, trivial⟩ (fun w s => s))
     ·refine RT1.solid rfl (.inl rfl) rfl rfl (Sd.alloc zr105 rfl) (fun _ => ClE.sat _ _) (fun _ w s => s.pick [0, 1, 2, 3, 4, 5, 6, 7, 8, 9] (by decide) rfl) (fun _ _ _ s => s.drop1) fun b10 => ?_
      refine RT.solid rfl (.inl rfl) rfl rfl (Sd.callN ent46 rfl (fun w s => slices_Clone_Int_walk way.l w (Enc.mono (Held.fz 7 rfl w s) (Enc.mono hle.1 hv)) hlc)) (fun _ => ClE.sat _ _) (fun _ w s => s.pick [0, 1, 2, 3, 4, 5, 6, 7, 8, 9] (by decide) rfl) (fun _ _ _ s => s.drop1) fun q69 => ?_
      refine RT.solid rfl (.inr rfl) rfl rfl (Sd.app1c (α := Int) 12 10 (gi l j / 2) rfl rfl (nilH_lt _) sl23 zr3 rfl rfl rfl rfl g3 (by decide)) (fun _ => ClE.sat _ _) (fun _ w s => s.pick [0, 1, 2, 3, 4, 5, 6, 7, 8, 9] (by decide) rfl) (fun h => nomatch h) fun q73 => ?_
      refine RT.p (fun w s => s.pick [0, 1, 2, 3, 4, 5, 6, 7, 8, 9] (by decide) rfl) rfl (Pu.build (cells := [_, _]) st105 rfl rfl) rfl rfl (RT.solid rfl (.inr rfl) rfl rfl (Sd.stB (cs' := [_, _]) 11 ty105 rfl rfl rfl rfl rfl rfl rfl rfl) (fun _ => ClE.sat _ _) (fun _ w s => s.pick [0, 1, 2, 3, 4, 5, 6, 7, 8, 9] (by decide) rfl) (fun h => nomatch h) fun _ => ?_)
      refine RT.nil (Cont.weakS (S' := Sat w0 [mapL z.1.gf (vraw z.1.F), mapL z.1.ga (vraw z.1.A), fz z.1.hA, blk s [.pointer (some ⟨m, 0, none⟩), .map (some q1.gb), .map (some q1.gd), .pointer (some ⟨q1.gq, 0, none⟩)] 160, mapL q1.gb (vmap lblV q1.B), mapL q1.gd (vmap Value.bool y1.done), Que_ch q1.gq y1.q, fz q1.hS, F, blk b5 [.int .i64 way.cost, v] 105, row nilH 3 (rowV q73 (lc ++ [gi l j / 2]).length) (lc ++ [gi l j / 2]), blk b10 [.int .i64 (way.cost + d + ov), rowV q73 (lc ++ [gi l j / 2]).length] 105]) (fun w s => s.pick [0, 1, 2, 3, 4, 5, 6, 7, 8, 9, 12, 11] (by decide) rfl) ?_)
      refine id (hK11 _ _ (b10, q73) trivial ⟨rfl, rfl, rfl, rfl, rfl, rfl, rfl, rfl, trivial⟩ (fun w s => s))
    ·refine RT1.solid rfl (.inl rfl) rfl rfl (Sd.alloc zr105 rfl) (fun _ => ClE.sat _ _) (fun _ w s => s.pick [0, 1, 2, 3, 4, 5, 6, 7, 8, 9] (by decide) rfl) (fun _ _ _ s => s.drop1) fun b10 => ?_
     refine RT.two ?_ ?_
     ·refine RT1.solid rfl (.inl rfl) rfl rfl (Sd.callN ent46 rfl (fun w s => slices_Clone_Int_walk way.l w (Enc.mono (Held.fz 7 rfl w s) (Enc.mono hle.1 hv)) hlc)) (fun _ => ClE.sat _ _) (fun _ w s => s.pick [0, 1, 2, 3, 4, 5, 6, 7, 8, 9] (by decide) rfl) (fun _ _ _ s => s.drop1) fun q69 => ?_
      refine RT.solid rfl (.inl rfl) rfl rfl (Sd.litS (cs := [_]) sl23 zr3 rfl rfl rfl rfl rfl) (fun _ => ClE.sat _ _) (fun _ w s => s.pick [0, 1, 2, 3, 4, 5, 6, 7, 8, 9] (by decide) rfl) (fun _ _ _ s => s.drop1) fun b72 => ?_
      refine RT.solid rfl (.inr rfl) rfl rfl (Sd.app1c (α := Int) 11 12 (gi l j / 2) rfl rfl (nilH_lt _) sl23 zr3 rfl rfl rfl rfl g3 (by decide)) (fun _ => ClE.sat _ _) (fun _ w s => s.pick [0, 1, 2, 3, 4, 5, 6, 7, 8, 9] (by decide) rfl) (fun h => nomatch h) fun q73 => ?_
      refine RT.p (fun w s => s.pick [0, 1, 2, 3, 4, 5, 6, 7, 8, 9] (by decide) rfl) rfl (Pu.build (cells := [_, _]) st105 rfl rfl) rfl rfl (RT.solid rfl (.inr rfl) rfl rfl (Sd.stB (cs' := [_, _]) 10 ty105 rfl rfl rfl rfl rfl rfl rfl rfl) (fun _ => ClE.sat _ _) (fun _ w s => s.pick [0, 1, 2, 3, 4, 5, 6, 7, 8, 9] (by decide) rfl) (fun h => nomatch h) fun _ => ?_)
      refine RT.nil (Cont.weakS (S' := Sat w0 [mapL z.1.gf (vraw z.1.F), mapL z.1.ga (vraw z.1.A), fz z.1.hA, blk s [.pointer (some ⟨m, 0, none⟩), .map (some q1.gb), .map (some q1.gd), .pointer (some ⟨q1.gq, 0, none⟩)] 160, mapL q1.gb (vmap lblV q1.B), mapL q1.gd (vmap Value.bool y1.done), Que_ch q1.gq y1.q, fz q1.hS, F, blk b5 [.int .i64 way.cost, v] 105, row nilH 3 (rowV q73 (lc ++ [gi l j / 2]).length) (lc ++ [gi l j / 2]), blk b10 [.int .i64 (way.cost + d + ov), rowV q73 (lc ++ [gi l j / 2]).length] 105]) (fun w s => s.pick [0, 1, 2, 3, 4, 5, 6, 7, 8, 9, 11, 10] (by decide) rfl) ?_)
      refine id (hK11 _ _ (b10, q73) trivial ⟨rfl, rfl, rfl, rfl, rfl, rfl, rfl, rfl, trivial⟩ (fun w s => s))
     ·refine RT1.solid rfl (.inl rfl) rfl rfl (Sd.litS (cs := [_]) sl23 zr3 rfl rfl rfl rfl rfl) (fun _ => ClE.sat _ _) (fun _ w s => s.pick [0, 1, 2, 3, 4, 5, 6, 7, 8, 9] (by decide) rfl) (fun _ _ _ s => s.drop1) fun b72 => ?_
      refine RT.solid rfl (.inl rfl) rfl rfl (Sd.callN ent46 rfl (fun w s => slices_Clone_Int_walk way.l w (Enc.mono (Held.fz 7 rfl w s) (Enc.mono hle.1 hv)) hlc)) (fun _ => ClE.sat _ _) (fun _ w s => s.pick [0, 1, 2, 3, 4, 5, 6, 7, 8, 9] (by decide) rfl) (fun _ _ _ s => s.drop1) fun q69 => ?_
      refine RT.solid rfl (.inr rfl) rfl rfl (Sd.app1c (α := Int) 12 11 (gi l j / 2) rfl rfl (nilH_lt _) sl23 zr3 rfl rfl rfl rfl g3 (by decide)) (fun _ => ClE.sat _ _) (fun _ w s => s.pick [0, 1, 2, 3, 4, 5, 6, 7, 8, 9] (by decide) rfl) (fun h => nomatch h) fun q73 => ?_
      refine RT.p (fun w s => s.pick [0, 1, 2, 3, 4, 5, 6, 7, 8, 9] (by decide) rfl) rfl (Pu.build (cells := [_, _]) st105 rfl rfl) rfl rfl (RT.solid rfl (.inr rfl) rfl rfl (Sd.stB (cs' := [_, _]) 10 ty105 rfl rfl rfl rfl rfl rfl rfl rfl) (fun _ => ClE.sat _ _) (fun _ w s => s.pick [0, 1, 2, 3, 4, 5, 6, 7, 8, 9] (by decide) rfl) (fun h => nomatch h) fun _ => ?_)
      refine RT.nil (Cont.weakS (S' := Sat w0 [mapL z.1.gf (vraw z.1.F), mapL z.1.ga (vraw z.1.A), fz z.1.hA, blk s [.pointer (some ⟨m, 0, none⟩), .map (some q1.gb), .map (some q1.gd), .pointer (some ⟨q1.gq, 0, none⟩)] 160, mapL q1.gb (vmap lblV q1.B), mapL q1.gd (vmap Value.bool y1.done), Que_ch q1.gq y1.q, fz q1.hS, F, blk b5 [.int .i64 way.cost, v] 105, row nilH 3 (rowV q73 (lc ++ [gi l j / 2]).length) (lc ++ [gi l j / 2]), blk b10 [.int .i64 (way.cost + d + ov), rowV q73 (lc ++ [gi l j / 2]).length] 105]) (fun w s => s.pick [0, 1, 2, 3, 4, 5, 6, 7, 8, 9, 12, 10] (by decide) rfl) ?_)
      refine id (hK11 _ _ (b10, q73) trivial ⟨rfl, rfl, rfl, rfl, rfl, rfl, rfl, rfl, trivial⟩ (fun w s => s))
 ·refine T.exitTo (by with_reducible (repeat (first | exact ExTo.here | exact ExTo.hereN | exact ExTo.deep (by repeat (first | exact NmTo.seq | apply NmTo.blk)) | apply ExTo.seq | refine ExTo.past (by decide) ?_))) (Cont.end0 rfl fun w' s => ?_)
  have hke : l.drop j.toNat = [] := List.drop_eq_nil_of_le (by omega)
  rw [hke] at hI
  obtain rfl : y1 = y2 := Option.some.inj hI
  have s2 := s.pick (G' := [mapL qM1.gf (vraw qM1.F), mapL qM1.ga (vraw qM1.A), fz qM1.hA, blk _ [.pointer (some ⟨m, 0, none⟩), .map (some q1.gb), .map (some q1.gd), .pointer (some ⟨q1.gq, 0, none⟩)] 160, mapL q1.gb (vmap lblV q1.B), mapL q1.gd (vmap Value.bool y1.done), Que_ch q1.gq y1.q, fz q1.hS, F]) [0, 1, 2, 3, 4, 5, 6, 7, 8] (by decide) rfl
  rw [hle.2.2.1, hle.2.2.2.1, hle.2.2.2.2] at s2
  exact ⟨⟨(q1, qM1), hle.1, hle.2.1⟩, rfl, s2⟩
theorem mx_spread_walk {w0 : World} {H0 : Hp} (hH : H0.le (hpOf w0)) {F : Ch} {s m : Nat} {x : Mx} {y y2 : Srs} (q : SrIn y) (qM : MxIn H0 m x) {t : Int} {way : Lbl} {v : Value} (hv : R q.hS way.l [v]) (H : mx_spread x t way y = some y2) (w : World) (S : Sat w0 ([mapL qM.gf (vraw qM.F), mapL qM.ga (vraw qM.A), fz qM.hA, blk s [.pointer (some ⟨m, 0, none⟩), .map (some q.gb), .map (some q.gd), .pointer (some ⟨q.gq, 0, none⟩)] 160, mapL q.gb (vmap lblV q.B), mapL q.gd (vmap Value.bool y.done), Que_ch q.gq y.q, fz q.hS] ++ [F]) w) : Calls Tryz.prog 92 #[.pointer (some ⟨s, 0, none⟩), .int .i64 t, .agg #[.int .i64 way.cost, v]] w fun e w' => ∃ z : {z : SrIn y2 × MxIn H0 m x // q.hS.le z.1.hS ∧ qM.hA.le z.2.hA}, e = .returned (.tuple #[]) ∧ Sat w0 ([mapL z.1.2.gf (vraw z.1.2.F), mapL z.1.2.ga (vraw z.1.2.A), fz z.1.2.hA, blk s [.pointer (some ⟨m, 0, none⟩), .map (some q.gb), .map (some q.gd), .pointer (some ⟨q.gq, 0, none⟩)] 160, mapL q.gb (vmap lblV z.1.1.B), mapL q.gd (vmap Value.bool y2.done), Que_ch q.gq y2.q, fz z.1.1.hS] ++ [F]) w' := by
 unfold mx_spread at H
 obtain ⟨sc, h1, H⟩ := bindE H
 obtain ⟨hll, H⟩ := gdE H
 obtain ⟨p, c, hl, hlr⟩ := at_val qM sc
 exact spread_in hH q qM hv h1 hl hlr hll H w S
end Go.Proofs.YthdbofgcckjopaaGreat
set_option linter.unusedVariables false
set_option linter.unusedSimpArgs false
set_option maxRecDepth 20000
set_option maxHeartbeats 4000000
namespace Go.Proofs.YthdbofgcckjopaaGreat
open Go.Vg
open Enc (R)
theorem end_walk {w0 : World} {H0 : Hp} (hH : H0.le (hpOf w0)) {F X1 X2 X3 X4 : Ch} {m b3 b9 b5 b7 b6 : Nat} {hS : Hp} {x : Mx} (qM : MxIn H0 m x) {home goal t : Int} {way b : Lbl} {ok : Bool} {pv pb : Option Addr} {cv cb : Nat} (hv : LB hS way.l (.slice pv way.l.length cv)) (hb : LB hS b.l (.slice pb b.l.length cb)) {r : Lbl × Bool} (H : mx_end x home goal t way b ok = some r) (w : World) (S : Sat w0 ([mapL qM.gf (vraw qM.F), mapL qM.ga (vraw qM.A), fz qM.hA, X1, X2, X3, X4, fz hS, blk b3 [.pointer (some ⟨m, 0, none⟩)] 102, blk b9 [.int .i64 home] 3, blk b5 [.int .i64 goal] 3, blk b7 [.bool ok] 4, blk b6 [.int .i64 b.cost, .slice pb b.l.length cb] 105] ++ [F]) w) : Calls Tryz.prog 89 #[.int .i64 t, .agg #[.int .i64 way.cost, .slice pv way.l.length cv], .pointer (some ⟨b3, 0, none⟩), .pointer (some ⟨b9, 0, none⟩), .pointer (some ⟨b5, 0, none⟩), .pointer (some ⟨b7, 0, none⟩), .pointer (some ⟨b6, 0, none⟩)] w fun e w' => ∃ z : {z : MxIn H0 m x × Option Addr × Nat // qM.hA.le z.1.hA ∧ LB hS r.1.l (.slice z.2.1 r.1.l.length z.2.2)}, e = .returned (.tuple #[]) ∧ Sat w0 ([mapL z.1.1.gf (vraw z.1.1.F), mapL z.1.1.ga (vraw z.1.1.A), fz z.1.1.hA, X1, X2, X3, X4, fz hS, blk b3 [.pointer (some ⟨m, 0, none⟩)] 102, blk b9 [.int .i64 home] 3, blk b5 [.int .i64 goal] 3, blk b7 [.bool r.2] 4, blk b6 [.int .i64 r.1.cost, .slice z.1.2.1 r.1.l.length z.1.2.2] 105] ++ [F]) w' := by
 unfold mx_end at H
 obtain ⟨sc, h1, H⟩ := bindE H
 refine T.enter (args := [_, _, _, _, _, _, _]) (S := Sat w0 ([mapL qM.gf (vraw qM.F), mapL qM.ga (vraw qM.A), fz qM.hA, X1, X2, X3, X4, fz hS, blk b3 [.pointer (some ⟨m, 0, none⟩)] 102, blk b9 [.int .i64 home] 3, blk b5 [.int .i64 goal] 3, blk b7 [.bool ok] 4, blk b6 [.int .i64 b.cost, .slice pb b.l.length cb] 105] ++ [F])) Tryz.func89 rfl rfl (S) ?_
 refine T.seq fun K1 hK1 => T.region (RS.solid (Sd.box (cs := [_, _]) rfl rfl) rfl rfl fun b8 => RS.nil (hK1 _ _ ?_))
 refine T.seq fun K2 hK2 => T.seq fun K3 hK3 => ?_
 refine T.drawn (fun _ => True) [(0, .rd), (1, .pu), (2, .pu), (3, .rd), (4, .pu), (5, .pu), (6, .pu), (7, .rd), (8, .pu), (9, .rd), (10, .rd), (11, .pu)] mixed (ClE.sat _ _) (by kernel_rfl) ?_
 refine dq rfl (Qt.ldB 8 ty102 rfl rfl rfl) (dp rfl (Pu.nilCheck rfl) (dp rfl (Pu.fieldAddr fd153_0 rfl) (dq rfl (Qt.ldFz 2 rfl ty98 rfl qM.b1 rfl) (dp rfl (Pu.nilCheck rfl) (dp rfl (Pu.fieldAddr fd101_0 rfl) (dp rfl (Pu.fieldAddr fd36_0 rfl) (dq rfl (Qt.ldFz 2 rfl ty3 rfl qM.b2 rfl) (dp rfl (Pu.move rfl) (dq rfl (Qt.call ent87 rfl fun w s => sector_At_walk x.z.net.g.w t w h1) (dq rfl (Qt.ldB 9 ty3 rfl rfl rfl) (dp rfl (Pu.bin rfl rfl rfl) (RD.nil (hK3 _ _ ?_)))))))))))))
 refine T.condP rfl (fun hc22 => ?_) (fun hc22 => ?_)
 ·rw [if_neg hc22] at H
  refine T.retTo (by with_reducible ((repeat (first | apply RetTo.seq | apply RetTo.blk)); exact RetTo.refl _)) (Cont.ret0 rfl fun w' s => ?_)
  obtain rfl := sj H
  exact ⟨⟨(qM, pb, cb), Hp.le_refl _, hb⟩, rfl, s.pick [0, 1, 2, 3, 4, 5, 6, 7, 8, 9, 10, 11, 12, 13] (by decide) rfl⟩
 ·rw [if_pos (Classical.not_not.1 hc22)] at H
  obtain ⟨d, hd, H⟩ := bindE H
  obtain ⟨g1, H⟩ := gdE H
  refine T.skip (hK2 _ _ (cq [(0, _), (2, _), (4, _), (5, _), (6, _), (8, _)] ?_))
  refine T.seq fun K4 hK4 => T.region (rq (Qt.ldB 8 ty102 rfl rfl rfl) (rM rfl (rq (Qt.ldB 10 ty3 rfl rfl rfl) (RS.solid (Sd.call ent90 rfl (fun w s => callFx (A := [_, _, _]) (B := [_, _, _, _, _, _, _, _, _, _, _, _]) (fun w s => mx_far_walk hH qM hd w s) s)) rfl rfl fun z => rA rfl (RS.nil (hK4 _ _ (cq [(5, _), (6, _), (8, _), (9, _)] ?_)))))))
  refine T.seq fun K5 hK5 => T.region (rp (Pu.fieldAddr fd105_0 rfl) (rq (Qt.ldB 14 ty3 rfl rfl rfl) (rM rfl (rp (Pu.addS rfl rfl g1) (rp (Pu.fieldAddr fd105_1 rfl) (rq (Qt.ldB 14 ty23 rfl rfl rfl) (rp (Pu.build (cells := [_, _]) st105 rfl rfl) (RS.solid (Sd.alloc zr105 rfl) rfl rfl fun b10 => RS.solid (Sd.stB (cs' := [_, _]) 15 ty105 rfl rfl rfl rfl rfl rfl rfl rfl) rfl rfl fun _ => RS.nil (hK5 _ _ (cq [(5, _), (6, _), (9, _), (10, _)] ?_))))))))))
  refine T.seq fun K6 hK6 => T.region (rM rfl (rp (Pu.bin rfl rfl rfl) (rM rfl ?_)))
  refine RS.splitP 36 rfl (fun h36 => ?_) (fun h36 => ?_)
  ·rw [if_pos h36] at H
   refine rq (Qt.ldB 11 ty4 rfl rfl rfl) (rp (Pu.not rfl) (rM rfl ?_))
   refine RS.split 39 rfl (fun h39 => ?_) (fun h39 => ?_)
   ·have hok : ok = false := by simpa using h39
    rw [if_neg (by rw [hok]; simp)] at H
    refine ro (ro (ro (rp (Pu.pickT rfl rfl) (rp (Pu.pickT rfl rfl) (RS.nil (hK6 _ _ ?_))))))
    refine T.condT rfl ?_
    refine cq [(5, _), (6, _), (10, _)] ?_
    refine T.region (rq (Qt.ldBA (us := [_, _]) 15 ty105 rfl rfl rfl rfl) (RS.solid (Sd.stB (cs' := [_, _]) 12 ty105 rfl rfl rfl rfl rfl rfl rfl rfl) rfl rfl fun _ => RS.solid (Sd.stB (cs' := [_]) 11 ty4 rfl rfl rfl rfl rfl rfl rfl rfl) rfl rfl fun _ => RS.nil (Cont.end0 rfl fun w' s => ?_)))
    obtain rfl := sj H
    first | exact ⟨⟨(z.1, pv, cv), z.2, hv⟩, rfl, s.pick [0, 1, 2, 3, 4, 5, 6, 7, 8, 9, 10, 11, 12, 13] (by decide) rfl⟩ | exact ⟨⟨(z.1, pb, cb), z.2, hb⟩, rfl, s.pick [0, 1, 2, 3, 4, 5, 6, 7, 8, 9, 10, 11, 12, 13] (by decide) rfl⟩
   ·have hok : ok = true := by simpa using h39
    rw [if_pos hok] at H
    obtain ⟨cc, hcc, H⟩ := bindE H
    refine rq (Qt.ldBA (us := [_, _]) 15 ty105 rfl rfl rfl rfl) (rq (Qt.ldBA (us := [_, _]) 12 ty105 rfl rfl rfl rfl) (rq (Qt.call ent91 rfl fun w s => route_label_less_walk (⟨way.cost + d, way.l⟩ : Lbl) b w (Enc.mono (Held.fz 7 rfl w s) hv.toR) (Enc.mono (Held.fz 7 rfl w s) hb.toR) hcc) (rp (Pu.pickF rfl rfl) (rp (Pu.pickT rfl rfl) (RS.nil (hK6 _ _ ?_))))))
    refine T.cond rfl (fun hc44 => ?_) (fun hc44 => ?_)
    ·rw [if_pos hc44] at H
     refine cq [(5, _), (6, _), (10, _)] ?_
     refine T.region (rq (Qt.ldBA (us := [_, _]) 15 ty105 rfl rfl rfl rfl) (RS.solid (Sd.stB (cs' := [_, _]) 12 ty105 rfl rfl rfl rfl rfl rfl rfl rfl) rfl rfl fun _ => RS.solid (Sd.stB (cs' := [_]) 11 ty4 rfl rfl rfl rfl rfl rfl rfl rfl) rfl rfl fun _ => RS.nil (Cont.end0 rfl fun w' s => ?_)))
     obtain rfl := sj H
     first | exact ⟨⟨(z.1, pv, cv), z.2, hv⟩, rfl, s.pick [0, 1, 2, 3, 4, 5, 6, 7, 8, 9, 10, 11, 12, 13] (by decide) rfl⟩ | exact ⟨⟨(z.1, pb, cb), z.2, hb⟩, rfl, s.pick [0, 1, 2, 3, 4, 5, 6, 7, 8, 9, 10, 11, 12, 13] (by decide) rfl⟩
    ·rw [if_neg (by rw [hc44]; simp)] at H
     refine T.skip (Cont.end0 rfl fun w' s => ?_)
     obtain rfl := sj H
     first | exact ⟨⟨(z.1, pv, cv), z.2, hv⟩, rfl, s.pick [0, 1, 2, 3, 4, 5, 6, 7, 8, 9, 10, 11, 12, 13] (by decide) rfl⟩ | exact ⟨⟨(z.1, pb, cb), z.2, hb⟩, rfl, s.pick [0, 1, 2, 3, 4, 5, 6, 7, 8, 9, 10, 11, 12, 13] (by decide) rfl⟩
  ·rw [if_neg h36] at H
   refine ro (ro (ro (ro (ro (ro (ro (rp (Pu.pickF rfl rfl) (RS.nil (hK6 _ _ ?_)))))))))
   refine T.condF rfl ?_
   refine T.skip (Cont.end0 rfl fun w' s => ?_)
   obtain rfl := sj H
   first | exact ⟨⟨(z.1, pv, cv), z.2, hv⟩, rfl, s.pick [0, 1, 2, 3, 4, 5, 6, 7, 8, 9, 10, 11, 12, 13] (by decide) rfl⟩ | exact ⟨⟨(z.1, pb, cb), z.2, hb⟩, rfl, s.pick [0, 1, 2, 3, 4, 5, 6, 7, 8, 9, 10, 11, 12, 13] (by decide) rfl⟩
end Go.Proofs.YthdbofgcckjopaaGreat
set_option linter.unusedVariables false
set_option linter.unusedSimpArgs false
set_option maxRecDepth 20000
set_option maxHeartbeats 4000000
namespace Go.Proofs.YthdbofgcckjopaaGreat
open Go.Vg
open Enc (R)
theorem ent89 : Ent Tryz.prog 89 := ⟨_, _, Tryz.func89, by kernel_rfl, rfl⟩
theorem ent92 : Ent Tryz.prog 92 := ⟨_, _, Tryz.func92, by kernel_rfl, rfl⟩
theorem fld105_0 : fldTy Tryz.prog 105 0 = some (3, 0) := by kernel_rfl
theorem st160 : stTy Tryz.prog 160 = some ([.pointer none, .map none, .map none, .pointer none], [(0, 1), (1, 1), (2, 1), (3, 1)]) := by kernel_rfl
theorem find_in {w0 : World} {H0 : Hp} (hH : H0.le (hpOf w0)) {F : Ch} {m : Nat} {x : Mx} (qM : MxIn H0 m x) {n : Nat} {start goal home : Int} {e r : Lbl × Bool} {y : Srs} {z1 : Int × Int × Bool × Que} (h1 : sector_At x.z.net.g.w goal = some home) (h2 : mx_end x home goal start ⟨0, []⟩ ⟨0, []⟩ false = some e) (h3 : mx_spread x start ⟨0, []⟩ ⟨[], [], ⟨[]⟩⟩ = some y) (h4 : queue_Queue_Pop y.q = some z1) (h5 : findN x home goal n ⟨z1.1, z1.2.1, z1.2.2.1, ⟨y.best, y.done, z1.2.2.2⟩, e.1, e.2⟩ = some r) (w : World) (S : Sat w0 ([mapL qM.gf (vraw qM.F), mapL qM.ga (vraw qM.A), fz qM.hA] ++ [F]) w) : Calls Tryz.prog 57 #[.pointer (some ⟨m, 0, none⟩), .int .i64 start, .int .i64 goal] w fun e w' => ∃ z : {z : MxIn H0 m x × Hp × Option Addr × Nat // LB z.2.1 r.1.l (.slice z.2.2.1 r.1.l.length z.2.2.2)}, e = .returned (.tuple #[.agg #[.int .i64 r.1.cost, .slice z.1.2.2.1 r.1.l.length z.1.2.2.2], .bool r.2]) ∧ Sat w0 ([mapL z.1.1.gf (vraw z.1.1.F), mapL z.1.1.ga (vraw z.1.1.A), fz z.1.1.hA, fz z.1.2.1] ++ [F]) w' := by
 refine T.enter (args := [_, _, _]) (S := Sat w0 ([mapL qM.gf (vraw qM.F), mapL qM.ga (vraw qM.A), fz qM.hA] ++ [F])) Tryz.func57 rfl rfl (S) ?_
 refine T.seq fun K1 hK1 => T.region (RS.solid (Sd.box (cs := [_]) rfl rfl) rfl rfl fun b3 => RS.solid (Sd.box (cs := [_]) rfl rfl) rfl rfl fun b5 => RS.solid (Sd.alloc zr105 rfl) rfl rfl fun b6 => RS.solid (Sd.alloc zr4 rfl) rfl rfl fun b7 => RS.nil (hK1 _ _ ?_))
 refine T.seqJoinK (σ := Nat × SrIn (⟨[], [], ⟨[]⟩⟩ : Srs)) [(1, _), (3, _), (5, _), (6, _), (7, _)] (fun ⟨sb, q⟩ => [(8, .pointer (some ⟨sb, 0, none⟩))]) (fun ⟨sb, q⟩ => Sat w0 [mapL qM.gf (vraw qM.F), mapL qM.ga (vraw qM.A), fz qM.hA, blk sb [.pointer (some ⟨m, 0, none⟩), .map (some q.gb), .map (some q.gd), .pointer (some ⟨q.gq, 0, none⟩)] 160, mapL q.gb (vmap lblV q.B), mapL q.gd (vmap Value.bool (⟨[], [], ⟨[]⟩⟩ : Srs).done), Que_ch q.gq (⟨[], [], ⟨[]⟩⟩ : Srs).q, fz q.hS, blk b3 [.pointer (some ⟨m, 0, none⟩)] 102, blk b5 [.int .i64 goal] 3, blk b6 [.int .i64 0, .slice none 0 0] 105, blk b7 [.bool false] 4, F]) (fun ⟨sb, q⟩ => True) ⟨rfl, rfl, rfl, rfl, rfl, trivial⟩ (fun ⟨sb, q⟩ hJ2 => ?_) (fun K2 hK2 => ?_)
 ·refine cq [(8, _), (1, _), (3, _), (5, _), (6, _), (7, _)] ?_
  refine T.seq fun K3 hK3 => ?_
  refine T.drawn (fun _ => True) [(0, .rd), (1, .pu), (2, .pu), (3, .rd), (4, .pu), (5, .pu), (6, .pu), (7, .rd), (8, .rd), (9, .rd), (10, .so), (11, .br)] mixed (ClE.sat _ _) (by kernel_rfl) ?_
  refine dq rfl (Qt.ldB 8 ty102 rfl rfl rfl) (dp rfl (Pu.nilCheck rfl) (dp rfl (Pu.fieldAddr fd153_0 rfl) (dq rfl (Qt.ldFz 2 rfl ty98 rfl qM.b1 rfl) (dp rfl (Pu.nilCheck rfl) (dp rfl (Pu.fieldAddr fd101_0 rfl) (dp rfl (Pu.fieldAddr fd36_0 rfl) (dq rfl (Qt.ldFz 2 rfl ty3 rfl qM.b2 rfl) (dq rfl (Qt.ldB 9 ty3 rfl rfl rfl) (dq rfl (Qt.call ent87 rfl fun w s => sector_At_walk x.z.net.g.w goal w h1) (RD.solid rfl (.inl rfl) rfl rfl (Sd.alloc zr3 rfl) (fun _ => ClE.sat _ _) (fun _ _ _ => trivial) (fun _ _ _ s => s.drop1) fun b9 => ?_))))))))))
  refine RD.solid rfl (.inr rfl) rfl rfl (Sd.stB (cs' := [_]) 13 ty3 rfl rfl rfl rfl rfl rfl rfl rfl) (fun _ => ClE.sat _ _) (fun _ _ _ => trivial) (fun h => nomatch h) fun _ => ?_
  refine RD.nil (hK3 _ _ (cq [(1, _), (3, _), (5, _), (6, _), (7, _), (8, _), (9, _)] ?_))
  refine T.seq fun K4 hK4 => ?_
  refine T.weakS (S' := Sat w0 [mapL qM.gf (vraw qM.F), mapL qM.ga (vraw qM.A), fz qM.hA, blk sb [.pointer (some ⟨m, 0, none⟩), .map (some q.gb), .map (some q.gd), .pointer (some ⟨q.gq, 0, none⟩)] 160, mapL q.gb (vmap lblV q.B), mapL q.gd (vmap Value.bool (⟨[], [], ⟨[]⟩⟩ : Srs).done), Que_ch q.gq (⟨[], [], ⟨[]⟩⟩ : Srs).q, fz q.hS, blk b3 [.pointer (some ⟨m, 0, none⟩)] 102, blk b9 [.int .i64 home] 3, blk b5 [.int .i64 goal] 3, blk b7 [.bool false] 4, blk b6 [.int .i64 0, .slice none 0 0] 105, F]) (fun w s => s.pick [0, 1, 2, 3, 4, 5, 6, 7, 8, 13, 9, 11, 10, 12] (by decide) rfl) ?_
  refine T.region (rp (Pu.makeFunc (cs := [_, _, _, _, _]) rfl) (rA rfl (RS.nil (hK4 _ _ (cq [(1, _), (3, _), (6, _), (7, _), (8, _), (10, _)] ?_)))))
  refine T.seq fun K5 hK5 => T.region (rM rfl (rM rfl (rp (Pu.build (cells := [_, _]) st105 rfl rfl) ?_)))
  have hE := fun w s => end_walk (w0 := w0) (F := F) (X1 := blk sb [.pointer (some ⟨m, 0, none⟩), .map (some q.gb), .map (some q.gd), .pointer (some ⟨q.gq, 0, none⟩)] 160) (X2 := mapL q.gb (vmap lblV q.B)) (X3 := mapL q.gd (vmap Value.bool [])) (X4 := Que_ch q.gq ⟨[]⟩) (m := m) (b3 := b3) (b9 := b9) (b5 := b5) (b7 := b7) (b6 := b6) (hS := q.hS) (way := ⟨0, []⟩) (b := ⟨0, []⟩) (ok := false) (t := start) (pv := none) (cv := 0) (pb := none) (cb := 0) hH qM LB.nil LB.nil h2 w s
  clear S
  refine RS.solid (Sd.callV (vs := [.int .i64 start, .agg #[.int .i64 0, .slice none 0 0]]) (cs := [.pointer (some ⟨b3, 0, none⟩), .pointer (some ⟨b9, 0, none⟩), .pointer (some ⟨b5, 0, none⟩), .pointer (some ⟨b7, 0, none⟩), .pointer (some ⟨b6, 0, none⟩)]) ent89 rfl rfl hE) rfl rfl fun z => RS.nil (hK5 _ _ (cq [(1, _), (3, _), (6, _), (7, _), (8, _), (10, _)] ?_))
  refine T.seq fun K6 hK6 => T.region (rM rfl (rM rfl (rp (Pu.build (cells := [_, _]) st105 rfl rfl) (RS.solid (Sd.call ent92 rfl (fun w s => callFx (A := [_, _, _, _, _, _, _, _]) (B := [_, _, _, _, _, _]) (fun w s => mx_spread_walk (way := ⟨0, []⟩) (v := .slice none 0 0) (t := start) hH q z.1.1 nil_R h3 w s) s)) rfl rfl fun z2 => RS.nil (hK6 _ _ (cq [(3, _), (6, _), (7, _), (8, _), (10, _)] ?_))))))
  refine T.seq fun K7 hK7 => T.seq fun K8 hK8 => T.region (rM rfl (rp (Pu.nilCheck rfl) (rp (Pu.fieldAddr fd160_3 rfl) (rq (Qt.ldB 3 ty157 rfl rfl rfl) (RS.solid (Sd.callF0 6 ent93 rfl rfl (fun w s => queue_Queue_Pop_walk _ _ h4 w s)) rfl rfl fun _ => rM rfl (rp (Pu.extract rfl rfl) (rp (Pu.extract rfl rfl) (rp (Pu.extract rfl rfl) (rA rfl (rA rfl ?_))))))))))
  refine rA rfl (RS.nil (hK8 _ _ (cq [(3, _), (6, _), (7, _), (8, _), (10, _), (11, _), (12, _), (13, _)] ?_)))
  refine T.block ?_
  refine T.loopK (σ := Nat × (fs : FS) × {z : SrIn fs.y × MxIn H0 m x × Option Addr × Nat // LB z.1.hS fs.b.l (.slice z.2.2.1 fs.b.l.length z.2.2.2)}) [(3, _), (6, _), (7, _), (8, _), (10, _)] (fun ⟨nf, fs, ⟨⟨q1, qM1, pb, cb⟩, hb⟩⟩ => [(11, .int .i64 fs.cost), (12, .int .i64 fs.place), (13, .bool fs.more)]) (fun ⟨nf, fs, ⟨⟨q1, qM1, pb, cb⟩, hb⟩⟩ => Sat w0 [mapL qM1.gf (vraw qM1.F), mapL qM1.ga (vraw qM1.A), fz qM1.hA, blk sb [.pointer (some ⟨m, 0, none⟩), .map (some q1.gb), .map (some q1.gd), .pointer (some ⟨q1.gq, 0, none⟩)] 160, mapL q1.gb (vmap lblV q1.B), mapL q1.gd (vmap Value.bool fs.y.done), Que_ch q1.gq fs.y.q, fz q1.hS, blk b3 [.pointer (some ⟨m, 0, none⟩)] 102, blk b9 [.int .i64 home] 3, blk b5 [.int .i64 goal] 3, blk b7 [.bool fs.ok] 4, blk b6 [.int .i64 fs.b.cost, .slice pb fs.b.l.length cb] 105, F]) (fun ⟨nf, fs, ⟨⟨q1, qM1, pb, cb⟩, hb⟩⟩ => findN x home goal nf fs = some r) (fun ⟨nf, fs, ⟨⟨q1, qM1, pb, cb⟩, hb⟩⟩ => nf) (n, ⟨⟨z1.1, z1.2.1, z1.2.2.1, ⟨y.best, y.done, z1.2.2.2⟩, e.1, e.2⟩, ⟨((⟨z2.1.1.hS, q.gb, q.gd, q.gq, z2.1.1.B, z2.1.1.aB, z2.1.1.rB⟩ : SrIn (⟨y.best, y.done, z1.2.2.2⟩ : Srs)), z2.1.2, z.1.2.1, z.1.2.2), LB.mono z2.2.1 z.2.2⟩⟩) (h5) ⟨rfl, rfl, rfl, rfl, rfl, trivial⟩ ⟨rfl, rfl, rfl, rfl, rfl, rfl, rfl, rfl, trivial⟩ (fun _ s => s) ?_
  intro ⟨nf, fs, ⟨⟨q1, qM1, pb, cb⟩, hb⟩⟩ hI K8_ hL1
  refine cq [(11, _), (12, _), (13, _), (3, _), (6, _), (7, _), (8, _), (10, _)] ?_
  try dsimp only at hI hb ⊢
  obtain ⟨n2, rfl⟩ : ∃ k, nf = k + 1 := by
   cases nf with
   | zero => simp [findN] at hI
   | succ k => exact ⟨k, rfl⟩
  simp only [findN] at hI
  refine T.seq fun K9 hK9 => T.seq fun K10 hK10 => T.region (rM rfl (RS.nil (hK10 _ _ ?_)))
  refine T.cond rfl (fun hc48 => ?_) (fun hc48 => ?_)
  ·rw [if_pos hc48] at hI
   obtain ⟨po, co, lo, hgo, hro, hlo, hso⟩ := best_val q1 fs.place
   refine T.skip (hK9 _ _ ?_)
   refine T.seq fun K11 hK11 => T.block (T.seq fun K12 hK12 => T.seq fun K13 hK13 => T.region (rM rfl (rp (Pu.nilCheck rfl) (rp (Pu.fieldAddr fd160_2 rfl) (rq (Qt.ldB 3 ty156 rfl rfl rfl) (rM rfl (rq (Qt.lookV 5 done_get mpz156 rfl rfl rfl) (rM rfl ?_))))))))
   refine RS.split 64 rfl (fun h64 => ?_) (fun h64 => ?_)
   ·rw [if_pos (.inl h64)] at hI
    obtain ⟨z1, hz1, hI⟩ := bindE hI
    refine ro (ro (ro (ro (ro (ro (ro (ro (ro (rp (Pu.pickT rfl rfl) (RS.nil (hK13 _ _ ?_)))))))))))
    refine T.condT rfl ?_
    refine T.exitTo (by with_reducible (repeat (first | exact ExTo.here | exact ExTo.hereN | exact ExTo.deep (by repeat (first | exact NmTo.seq | apply NmTo.blk)) | apply ExTo.seq | refine ExTo.past (by decide) ?_))) (hK11 _ _ (cq [(3, _), (6, _), (7, _), (8, _), (10, _)] ?_))
    refine T.region (rM rfl (rp (Pu.nilCheck rfl) (rp (Pu.fieldAddr fd160_3 rfl) (rq (Qt.ldB 3 ty157 rfl rfl rfl) (RS.solid (Sd.callF0 6 ent93 rfl rfl (fun w s => queue_Queue_Pop_walk _ _ hz1 w s)) rfl rfl fun _ => rM rfl (rp (Pu.extract rfl rfl) (rp (Pu.extract rfl rfl) (rp (Pu.extract rfl rfl) (rA rfl (rA rfl (rA rfl (RS.nil (hL1 _ _ (n2, ⟨⟨z1.1, z1.2.1, z1.2.2.1, ⟨fs.y.best, fs.y.done, z1.2.2.2⟩, fs.b, fs.ok⟩, ⟨((⟨q1.hS, q1.gb, q1.gd, q1.gq, q1.B, q1.aB, q1.rB⟩ : SrIn (⟨fs.y.best, fs.y.done, z1.2.2.2⟩ : Srs)), qM1, pb, cb), hb⟩⟩) hI (by show n2 < n2 + 1; omega) ⟨rfl, rfl, rfl, rfl, rfl, rfl, rfl, rfl, trivial⟩ (fun w s => s.pick [0, 1, 2, 3, 4, 5, 6, 7, 8, 9, 10, 11, 12, 13] (by decide) rfl))))))))))))))
   ·refine rM rfl (rM rfl (rp (Pu.nilCheck rfl) (rp (Pu.fieldAddr fd160_1 rfl) (rq (Qt.ldB 3 ty155 rfl rfl rfl) (rM rfl (rq (Qt.lookV 4 hgo mpz155 rfl rfl rfl) (rp (Pu.fieldS fld105_0 ty3 rfl rfl) (rp (Pu.bin rfl rfl rfl) (rp (Pu.pickF rfl rfl) (RS.nil (hK13 _ _ ?_)))))))))))
    refine T.condP rfl (fun hc74 => ?_) (fun hc74 => ?_)
    ·rw [if_pos (.inr (by rw [hlo]; exact hc74))] at hI
     obtain ⟨z1, hz1, hI⟩ := bindE hI
     refine T.exitTo (by with_reducible (repeat (first | exact ExTo.here | exact ExTo.hereN | exact ExTo.deep (by repeat (first | exact NmTo.seq | apply NmTo.blk)) | apply ExTo.seq | refine ExTo.past (by decide) ?_))) (hK11 _ _ (cq [(3, _), (6, _), (7, _), (8, _), (10, _)] ?_))
     refine T.region (rM rfl (rp (Pu.nilCheck rfl) (rp (Pu.fieldAddr fd160_3 rfl) (rq (Qt.ldB 3 ty157 rfl rfl rfl) (RS.solid (Sd.callF0 6 ent93 rfl rfl (fun w s => queue_Queue_Pop_walk _ _ hz1 w s)) rfl rfl fun _ => rM rfl (rp (Pu.extract rfl rfl) (rp (Pu.extract rfl rfl) (rp (Pu.extract rfl rfl) (rA rfl (rA rfl (rA rfl (RS.nil (hL1 _ _ (n2, ⟨⟨z1.1, z1.2.1, z1.2.2.1, ⟨fs.y.best, fs.y.done, z1.2.2.2⟩, fs.b, fs.ok⟩, ⟨((⟨q1.hS, q1.gb, q1.gd, q1.gq, q1.B, q1.aB, q1.rB⟩ : SrIn (⟨fs.y.best, fs.y.done, z1.2.2.2⟩ : Srs)), qM1, pb, cb), hb⟩⟩) hI (by show n2 < n2 + 1; omega) ⟨rfl, rfl, rfl, rfl, rfl, rfl, rfl, rfl, trivial⟩ (fun w s => s.pick [0, 1, 2, 3, 4, 5, 6, 7, 8, 9, 10, 11, 12, 13] (by decide) rfl))))))))))))))
    ·rw [if_neg (fun h => h.elim (fun h => by rw [h64] at h; cases h) (fun h => hc74 (by rw [hlo] at h; exact h)))] at hI
     refine T.skip (hK12 _ _ (cq [(3, _), (6, _), (7, _), (8, _), (10, _), (11, _), (12, _)] ?_))
     refine T.seq fun K14 hK14 => T.seq fun K15 hK15 => T.region (rq (Qt.ldB 11 ty4 rfl rfl rfl) (rM rfl ?_))
     refine RS.split 76 rfl (fun h76 => ?_) (fun h76 => ?_)
     ·refine rM rfl (rp (Pu.fieldAddr fd105_0 rfl) (rq (Qt.ldB 12 ty3 rfl rfl rfl) (rp (Pu.bin rfl rfl rfl) (rp (Pu.pickT rfl rfl) (RS.nil (hK15 _ _ ?_))))))
      refine T.condP rfl (fun hc81 => ?_) (fun hc81 => ?_)
      ·rw [if_pos ⟨h76, hc81⟩] at hI
       refine T.exitTo (by with_reducible (repeat (first | exact ExTo.here | exact ExTo.hereN | exact ExTo.deep (by repeat (first | exact NmTo.seq | apply NmTo.blk)) | apply ExTo.seq | refine ExTo.past (by decide) ?_))) (hK7 _ _ (cq [(6, _), (7, _)] ?_))
       refine T.seq fun K16 hK16 => ?_
       refine T.drawnS [0, 1, 2, 3, 4, 5, 6, 7, 8, 9, 10, 11, 12, 13] [(0, .rd), (1, .wk), (2, .br), (3, .br)] mixed (by kernel_rfl) rfl ?_
       refine RD.q (fun w s => s.pick [0, 1, 2, 3, 4, 5, 6, 7, 8, 9, 10, 11, 12, 13] (by decide) rfl) rfl (Qt.ldBA (us := [_, _]) 12 ty105 rfl rfl rfl rfl) rfl rfl ?_
       refine RD.w (fun w s => s.pick [0, 1, 2, 3, 4, 5, 6, 7, 8, 9, 10, 11, 12, 13] (by decide) rfl) rfl (Qt.ldB 11 ty4 rfl rfl rfl) rfl rfl ?_
       refine RD.solid rfl (.inr rfl) rfl rfl (Sd.stB (cs' := [_, _]) 12 ty105 rfl rfl rfl rfl rfl rfl rfl rfl) (fun _ => ClE.sat _ _) (fun _ w s => s.pick [0, 1, 2, 3, 4, 5, 6, 7, 8, 9, 10, 11, 12, 13] (by decide) rfl) (fun h => nomatch h) fun _ => ?_
       refine RD.solid rfl (.inr rfl) rfl rfl (Sd.stB (cs' := [_]) 11 ty4 rfl rfl rfl rfl rfl rfl rfl rfl) (fun _ => ClE.sat _ _) (fun _ w s => s.pick [0, 1, 2, 3, 4, 5, 6, 7, 8, 9, 10, 11, 12, 13] (by decide) rfl) (fun h => nomatch h) fun _ => ?_
       refine RD.nil (hK16 _ _ ?_)
       refine T.retTo (by with_reducible ((repeat (first | apply RetTo.seq | apply RetTo.blk)); exact RetTo.refl _)) (Cont.retCC 12 11 rfl ty105 ty4 rfl rfl rfl rfl rfl fun w' s => ?_)
       obtain rfl := Option.some.inj hI
       exact ⟨⟨(qM1, q1.hS, pb, cb), hb⟩, rfl, s.pick [0, 1, 2, 7, 13] (by decide) rfl⟩
      ·rw [if_neg (fun h => hc81 h.2)] at hI
       refine T.skip (hK14 _ _ (cq [(3, _), (6, _), (7, _), (8, _), (10, _), (12, _)] ?_))
       refine T.seq fun K17 hK17 => ?_
       obtain ⟨t1, ht1, hI⟩ := bindE hI
       obtain ⟨e1, he1, hI⟩ := bindE hI
       obtain ⟨y1, hy1, hI⟩ := bindE hI
       obtain ⟨z1, hz1, hI⟩ := bindE hI
       rw [hlo] at he1 hy1
       refine T.region (rM rfl (rp (Pu.nilCheck rfl) (rp (Pu.fieldAddr fd160_2 rfl) (rq (Qt.ldB 3 ty156 rfl rfl rfl) (rM rfl (RS.solid (Sd.mapPut 5 mpz156 rfl rfl rfl rfl) rfl rfl fun _ => ?_))))))
       refine RS.weakS (S' := Sat w0 [mapL qM1.gf (vraw qM1.F), mapL qM1.ga (vraw qM1.A), fz qM1.hA, blk sb [.pointer (some ⟨m, 0, none⟩), .map (some q1.gb), .map (some q1.gd), .pointer (some ⟨q1.gq, 0, none⟩)] 160, mapL q1.gb (vmap lblV q1.B), mapL q1.gd (vmap Value.bool (kput fs.y.done fs.place true)), Que_ch q1.gq fs.y.q, fz q1.hS, blk b3 [.pointer (some ⟨m, 0, none⟩)] 102, blk b9 [.int .i64 home] 3, blk b5 [.int .i64 goal] 3, blk b7 [.bool fs.ok] 4, blk b6 [.int .i64 fs.b.cost, .slice pb fs.b.l.length cb] 105, F]) (fun w s => by
         have s2 := s.pick (G' := [_, _, _, _, _, mapL q1.gd (kput (vmap Value.bool fs.y.done) fs.place (.bool true)), _, _, _, _, _, _, _, _]) [0, 1, 2, 3, 4, 5, 6, 7, 8, 9, 10, 11, 12, 13] (by decide) rfl
         rw [kput_vmap] at s2
         exact s2) ?_
       refine RS.nil (hK17 _ _ (cq [(3, _), (6, _), (7, _), (8, _), (10, _), (12, _)] ?_))
       refine T.seq fun K18 hK18 => ?_
       refine T.drawnS [3, 4, 5, 6, 7, 8, 9, 10, 13] [(0, .pu), (1, .wk), (2, .pu), (3, .rd), (4, .pu), (5, .pu), (6, .pu), (7, .wk), (8, .pu), (9, .rd), (10, .br)] mixed (by kernel_rfl) rfl ?_
       refine RD.p (fun w s => s.pick [3, 4, 5, 6, 7, 8, 9, 10, 13] (by decide) rfl) rfl (Pu.move rfl) rfl rfl ?_
       refine RD.w (fun w s => s.pick [3, 4, 5, 6, 7, 8, 9, 10, 13] (by decide) rfl) rfl (Qt.ldB 5 ty102 rfl rfl rfl) rfl rfl ?_
       refine RD.p (fun w s => s.pick [3, 4, 5, 6, 7, 8, 9, 10, 13] (by decide) rfl) rfl (Pu.move rfl) rfl rfl (RD.q (fun w s => s.pick [3, 4, 5, 6, 7, 8, 9, 10, 13] (by decide) rfl) rfl (Qt.call ent94 rfl fun w s => route_maze_tile_walk x.z fs.place w (Held.fz 2 rfl w s _ _ qM1.b1) (Held.fz 2 rfl w s _ _ qM1.b2) (Enc.mono (Hp.le_trans hH s.ext.hp) qM1.r0) (Enc.mono (Held.fz 2 rfl w s) qM1.r1) (Enc.mono (Held.fz 2 rfl w s) qM1.r2) ht1) rfl rfl (RD.p (fun w s => s.pick [3, 4, 5, 6, 7, 8, 9, 10, 13] (by decide) rfl) rfl (Pu.move rfl) rfl rfl (RD.p (fun w s => s.pick [3, 4, 5, 6, 7, 8, 9, 10, 13] (by decide) rfl) rfl (Pu.nilCheck rfl) rfl rfl (RD.p (fun w s => s.pick [3, 4, 5, 6, 7, 8, 9, 10, 13] (by decide) rfl) rfl (Pu.fieldAddr fd160_1 rfl) rfl rfl ?_))))
       refine RD.w (fun w s => s.pick [3, 4, 5, 6, 7, 8, 9, 10, 13] (by decide) rfl) rfl (Qt.ldB 0 ty155 rfl rfl rfl) rfl rfl ?_
       refine RD.p (fun w s => s.pick [3, 4, 5, 6, 7, 8, 9, 10, 13] (by decide) rfl) rfl (Pu.move rfl) rfl rfl (RD.q (fun w s => s.pick [3, 4, 5, 6, 7, 8, 9, 10, 13] (by decide) rfl) rfl (Qt.lookV 4 hgo mpz155 rfl rfl rfl) rfl rfl (RD.solid rfl (.inr rfl) rfl rfl (Sd.callV (vs := [.int .i64 t1, .agg #[.int .i64 lo.cost, .slice po lo.l.length co]]) (cs := [.pointer (some ⟨b3, 0, none⟩), .pointer (some ⟨b9, 0, none⟩), .pointer (some ⟨b5, 0, none⟩), .pointer (some ⟨b7, 0, none⟩), .pointer (some ⟨b6, 0, none⟩)]) ent89 rfl rfl (fun w s => end_walk (way := lo) (b := fs.b) (ok := fs.ok) (t := t1) hH qM1 hro hb he1 w s)) (fun _ => ClE.sat _ _) (fun _ w s => s.pick [3, 4, 5, 6, 7, 8, 9, 10, 13] (by decide) rfl) (fun h => nomatch h) fun z => ?_))
       refine RD.nil (hK18 _ _ (cq [(3, _), (6, _), (7, _), (8, _), (10, _), (12, _)] ?_))
       refine T.drawnS [3, 8, 9, 10, 11, 12, 13] [(0, .pu), (1, .wk), (2, .pu), (3, .rd), (4, .pu), (5, .pu), (6, .pu), (7, .wk), (8, .pu), (9, .rd), (10, .br)] mixed (by kernel_rfl) rfl ?_
       refine RD.p (fun w s => s.pick [3, 8, 9, 10, 11, 12, 13] (by decide) rfl) rfl (Pu.move rfl) rfl rfl ?_
       refine RD.w (fun w s => s.pick [3, 8, 9, 10, 11, 12, 13] (by decide) rfl) rfl (Qt.ldB 1 ty102 rfl rfl rfl) rfl rfl ?_
       refine RD.p (fun w s => s.pick [3, 8, 9, 10, 11, 12, 13] (by decide) rfl) rfl (Pu.move rfl) rfl rfl (RD.q (fun w s => s.pick [3, 8, 9, 10, 11, 12, 13] (by decide) rfl) rfl (Qt.call ent94 rfl fun w s => route_maze_tile_walk x.z fs.place w (Held.fz 2 rfl w s _ _ z.1.1.b1) (Held.fz 2 rfl w s _ _ z.1.1.b2) (Enc.mono (Hp.le_trans hH s.ext.hp) z.1.1.r0) (Enc.mono (Held.fz 2 rfl w s) z.1.1.r1) (Enc.mono (Held.fz 2 rfl w s) z.1.1.r2) ht1) rfl rfl (RD.p (fun w s => s.pick [3, 8, 9, 10, 11, 12, 13] (by decide) rfl) rfl (Pu.move rfl) rfl rfl (RD.p (fun w s => s.pick [3, 8, 9, 10, 11, 12, 13] (by decide) rfl) rfl (Pu.nilCheck rfl) rfl rfl (RD.p (fun w s => s.pick [3, 8, 9, 10, 11, 12, 13] (by decide) rfl) rfl (Pu.fieldAddr fd160_1 rfl) rfl rfl ?_))))
       refine RD.w (fun w s => s.pick [3, 8, 9, 10, 11, 12, 13] (by decide) rfl) rfl (Qt.ldB 0 ty155 rfl rfl rfl) rfl rfl ?_
       refine RD.p (fun w s => s.pick [3, 8, 9, 10, 11, 12, 13] (by decide) rfl) rfl (Pu.move rfl) rfl rfl (RD.q (fun w s => s.pick [3, 8, 9, 10, 11, 12, 13] (by decide) rfl) rfl (Qt.lookV 4 hgo mpz155 rfl rfl rfl) rfl rfl (RD.solid rfl (.inr rfl) rfl rfl (Sd.call ent92 rfl (fun w s => callFx (A := [_, _, _, _, _, _, _, _]) (B := [_, _, _, _, _, _]) (fun w s => mx_spread_walk hH (⟨q1.hS, q1.gb, q1.gd, q1.gq, q1.B, q1.aB, q1.rB⟩ : SrIn (⟨fs.y.best, kput fs.y.done fs.place true, fs.y.q⟩ : Srs)) z.1.1 (way := lo) (t := t1) hro.toR hy1 w s) s)) (fun _ => ClE.sat _ _) (fun _ w s => s.pick [3, 8, 9, 10, 11, 12, 13] (by decide) rfl) (fun h => nomatch h) fun z2 => ?_))
       refine RD.nil (hK11 _ _ (cq [(3, _), (6, _), (7, _), (8, _), (10, _)] ?_))
       refine T.region (rM rfl (rp (Pu.nilCheck rfl) (rp (Pu.fieldAddr fd160_3 rfl) (rq (Qt.ldB 3 ty157 rfl rfl rfl) (RS.solid (Sd.callF0 6 ent93 rfl rfl (fun w s => queue_Queue_Pop_walk _ _ hz1 w s)) rfl rfl fun _ => rM rfl (rp (Pu.extract rfl rfl) (rp (Pu.extract rfl rfl) (rp (Pu.extract rfl rfl) (rA rfl (rA rfl (rA rfl (RS.nil (hL1 _ _ (n2, ⟨⟨z1.1, z1.2.1, z1.2.2.1, ⟨y1.best, y1.done, z1.2.2.2⟩, e1.1, e1.2⟩, ⟨((⟨z2.1.1.hS, q1.gb, q1.gd, q1.gq, z2.1.1.B, z2.1.1.aB, z2.1.1.rB⟩ : SrIn (⟨y1.best, y1.done, z1.2.2.2⟩ : Srs)), z2.1.2, z.1.2.1, z.1.2.2), LB.mono z2.2.1 z.2.2⟩⟩) hI (by show n2 < n2 + 1; omega) ⟨rfl, rfl, rfl, rfl, rfl, rfl, rfl, rfl, trivial⟩ (fun w s => s.pick [0, 1, 2, 3, 4, 5, 6, 7, 8, 9, 10, 11, 12, 13] (by decide) rfl))))))))))))))
     ·rw [if_neg (fun h => by rw [h76] at h; cases h.1)] at hI
      refine ro (ro (ro (ro (rp (Pu.pickF rfl rfl) (RS.nil (hK15 _ _ ?_))))))
      refine T.condF rfl ?_
      refine T.skip (hK14 _ _ (cq [(3, _), (6, _), (7, _), (8, _), (10, _), (12, _)] ?_))
      refine T.seq fun K19 hK19 => ?_
      obtain ⟨t1, ht1, hI⟩ := bindE hI
      obtain ⟨e1, he1, hI⟩ := bindE hI
      obtain ⟨y1, hy1, hI⟩ := bindE hI
      obtain ⟨z1, hz1, hI⟩ := bindE hI
      rw [hlo] at he1 hy1
      refine T.region (rM rfl (rp (Pu.nilCheck rfl) (rp (Pu.fieldAddr fd160_2 rfl) (rq (Qt.ldB 3 ty156 rfl rfl rfl) (rM rfl (RS.solid (Sd.mapPut 5 mpz156 rfl rfl rfl rfl) rfl rfl fun _ => ?_))))))
      refine RS.weakS (S' := Sat w0 [mapL qM1.gf (vraw qM1.F), mapL qM1.ga (vraw qM1.A), fz qM1.hA, blk sb [.pointer (some ⟨m, 0, none⟩), .map (some q1.gb), .map (some q1.gd), .pointer (some ⟨q1.gq, 0, none⟩)] 160, mapL q1.gb (vmap lblV q1.B), mapL q1.gd (vmap Value.bool (kput fs.y.done fs.place true)), Que_ch q1.gq fs.y.q, fz q1.hS, blk b3 [.pointer (some ⟨m, 0, none⟩)] 102, blk b9 [.int .i64 home] 3, blk b5 [.int .i64 goal] 3, blk b7 [.bool fs.ok] 4, blk b6 [.int .i64 fs.b.cost, .slice pb fs.b.l.length cb] 105, F]) (fun w s => by
        have s2 := s.pick (G' := [_, _, _, _, _, mapL q1.gd (kput (vmap Value.bool fs.y.done) fs.place (.bool true)), _, _, _, _, _, _, _, _]) [0, 1, 2, 3, 4, 5, 6, 7, 8, 9, 10, 11, 12, 13] (by decide) rfl
        rw [kput_vmap] at s2
        exact s2) ?_
      refine RS.nil (hK19 _ _ (cq [(3, _), (6, _), (7, _), (8, _), (10, _), (12, _)] ?_))
      refine T.seq fun K20 hK20 => ?_
      refine T.drawnS [3, 4, 5, 6, 7, 8, 9, 10, 13] [(0, .pu), (1, .wk), (2, .pu), (3, .rd), (4, .pu), (5, .pu), (6, .pu), (7, .wk), (8, .pu), (9, .rd), (10, .br)] mixed (by kernel_rfl) rfl ?_
      refine RD.p (fun w s => s.pick [3, 4, 5, 6, 7, 8, 9, 10, 13] (by decide) rfl) rfl (Pu.move rfl) rfl rfl ?_
      refine RD.w (fun w s => s.pick [3, 4, 5, 6, 7, 8, 9, 10, 13] (by decide) rfl) rfl (Qt.ldB 5 ty102 rfl rfl rfl) rfl rfl ?_
      refine RD.p (fun w s => s.pick [3, 4, 5, 6, 7, 8, 9, 10, 13] (by decide) rfl) rfl (Pu.move rfl) rfl rfl (RD.q (fun w s => s.pick [3, 4, 5, 6, 7, 8, 9, 10, 13] (by decide) rfl) rfl (Qt.call ent94 rfl fun w s => route_maze_tile_walk x.z fs.place w (Held.fz 2 rfl w s _ _ qM1.b1) (Held.fz 2 rfl w s _ _ qM1.b2) (Enc.mono (Hp.le_trans hH s.ext.hp) qM1.r0) (Enc.mono (Held.fz 2 rfl w s) qM1.r1) (Enc.mono (Held.fz 2 rfl w s) qM1.r2) ht1) rfl rfl (RD.p (fun w s => s.pick [3, 4, 5, 6, 7, 8, 9, 10, 13] (by decide) rfl) rfl (Pu.move rfl) rfl rfl (RD.p (fun w s => s.pick [3, 4, 5, 6, 7, 8, 9, 10, 13] (by decide) rfl) rfl (Pu.nilCheck rfl) rfl rfl (RD.p (fun w s => s.pick [3, 4, 5, 6, 7, 8, 9, 10, 13] (by decide) rfl) rfl (Pu.fieldAddr fd160_1 rfl) rfl rfl ?_))))
      refine RD.w (fun w s => s.pick [3, 4, 5, 6, 7, 8, 9, 10, 13] (by decide) rfl) rfl (Qt.ldB 0 ty155 rfl rfl rfl) rfl rfl ?_
      refine RD.p (fun w s => s.pick [3, 4, 5, 6, 7, 8, 9, 10, 13] (by decide) rfl) rfl (Pu.move rfl) rfl rfl (RD.q (fun w s => s.pick [3, 4, 5, 6, 7, 8, 9, 10, 13] (by decide) rfl) rfl (Qt.lookV 4 hgo mpz155 rfl rfl rfl) rfl rfl (RD.solid rfl (.inr rfl) rfl rfl (Sd.callV (vs := [.int .i64 t1, .agg #[.int .i64 lo.cost, .slice po lo.l.length co]]) (cs := [.pointer (some ⟨b3, 0, none⟩), .pointer (some ⟨b9, 0, none⟩), .pointer (some ⟨b5, 0, none⟩), .pointer (some ⟨b7, 0, none⟩), .pointer (some ⟨b6, 0, none⟩)]) ent89 rfl rfl (fun w s => end_walk (way := lo) (b := fs.b) (ok := fs.ok) (t := t1) hH qM1 hro hb he1 w s)) (fun _ => ClE.sat _ _) (fun _ w s => s.pick [3, 4, 5, 6, 7, 8, 9, 10, 13] (by decide) rfl) (fun h => nomatch h) fun z => ?_))
      refine RD.nil (hK20 _ _ (cq [(3, _), (6, _), (7, _), (8, _), (10, _), (12, _)] ?_))
      refine T.drawnS [3, 8, 9, 10, 11, 12, 13] [(0, .pu), (1, .wk), (2, .pu), (3, .rd), (4, .pu), (5, .pu), (6, .pu), (7, .wk), (8, .pu), (9, .rd), (10, .br)] mixed (by kernel_rfl) rfl ?_
      refine RD.p (fun w s => s.pick [3, 8, 9, 10, 11, 12, 13] (by decide) rfl) rfl (Pu.move rfl) rfl rfl ?_
      refine RD.w (fun w s => s.pick [3, 8, 9, 10, 11, 12, 13] (by decide) rfl) rfl (Qt.ldB 1 ty102 rfl rfl rfl) rfl rfl ?_
      refine RD.p (fun w s => s.pick [3, 8, 9, 10, 11, 12, 13] (by decide) rfl) rfl (Pu.move rfl) rfl rfl (RD.q (fun w s => s.pick [3, 8, 9, 10, 11, 12, 13] (by decide) rfl) rfl (Qt.call ent94 rfl fun w s => route_maze_tile_walk x.z fs.place w (Held.fz 2 rfl w s _ _ z.1.1.b1) (Held.fz 2 rfl w s _ _ z.1.1.b2) (Enc.mono (Hp.le_trans hH s.ext.hp) z.1.1.r0) (Enc.mono (Held.fz 2 rfl w s) z.1.1.r1) (Enc.mono (Held.fz 2 rfl w s) z.1.1.r2) ht1) rfl rfl (RD.p (fun w s => s.pick [3, 8, 9, 10, 11, 12, 13] (by decide) rfl) rfl (Pu.move rfl) rfl rfl (RD.p (fun w s => s.pick [3, 8, 9, 10, 11, 12, 13] (by decide) rfl) rfl (Pu.nilCheck rfl) rfl rfl (RD.p (fun w s => s.pick [3, 8, 9, 10, 11, 12, 13] (by decide) rfl) rfl (Pu.fieldAddr fd160_1 rfl) rfl rfl ?_))))
      refine RD.w (fun w s => s.pick [3, 8, 9, 10, 11, 12, 13] (by decide) rfl) rfl (Qt.ldB 0 ty155 rfl rfl rfl) rfl rfl ?_
      refine RD.p (fun w s => s.pick [3, 8, 9, 10, 11, 12, 13] (by decide) rfl) rfl (Pu.move rfl) rfl rfl (RD.q (fun w s => s.pick [3, 8, 9, 10, 11, 12, 13] (by decide) rfl) rfl (Qt.lookV 4 hgo mpz155 rfl rfl rfl) rfl rfl (RD.solid rfl (.inr rfl) rfl rfl (Sd.call ent92 rfl (fun w s => callFx (A := [_, _, _, _, _, _, _, _]) (B := [_, _, _, _, _, _]) (fun w s => mx_spread_walk hH (⟨q1.hS, q1.gb, q1.gd, q1.gq, q1.B, q1.aB, q1.rB⟩ : SrIn (⟨fs.y.best, kput fs.y.done fs.place true, fs.y.q⟩ : Srs)) z.1.1 (way := lo) (t := t1) hro.toR hy1 w s) s)) (fun _ => ClE.sat _ _) (fun _ w s => s.pick [3, 8, 9, 10, 11, 12, 13] (by decide) rfl) (fun h => nomatch h) fun z2 => ?_))
      refine RD.nil (hK11 _ _ (cq [(3, _), (6, _), (7, _), (8, _), (10, _)] ?_))
      refine T.region (rM rfl (rp (Pu.nilCheck rfl) (rp (Pu.fieldAddr fd160_3 rfl) (rq (Qt.ldB 3 ty157 rfl rfl rfl) (RS.solid (Sd.callF0 6 ent93 rfl rfl (fun w s => queue_Queue_Pop_walk _ _ hz1 w s)) rfl rfl fun _ => rM rfl (rp (Pu.extract rfl rfl) (rp (Pu.extract rfl rfl) (rp (Pu.extract rfl rfl) (rA rfl (rA rfl (rA rfl (RS.nil (hL1 _ _ (n2, ⟨⟨z1.1, z1.2.1, z1.2.2.1, ⟨y1.best, y1.done, z1.2.2.2⟩, e1.1, e1.2⟩, ⟨((⟨z2.1.1.hS, q1.gb, q1.gd, q1.gq, z2.1.1.B, z2.1.1.aB, z2.1.1.rB⟩ : SrIn (⟨y1.best, y1.done, z1.2.2.2⟩ : Srs)), z2.1.2, z.1.2.1, z.1.2.2), LB.mono z2.2.1 z.2.2⟩⟩) hI (by show n2 < n2 + 1; omega) ⟨rfl, rfl, rfl, rfl, rfl, rfl, rfl, rfl, trivial⟩ (fun w s => s.pick [0, 1, 2, 3, 4, 5, 6, 7, 8, 9, 10, 11, 12, 13] (by decide) rfl))))))))))))))
  ·rw [if_neg (by rw [hc48]; simp)] at hI
   refine T.exitTo (by with_reducible (repeat (first | exact ExTo.here | exact ExTo.hereN | exact ExTo.deep (by repeat (first | exact NmTo.seq | apply NmTo.blk)) | apply ExTo.seq | refine ExTo.past (by decide) ?_))) (hK7 _ _ (cq [(6, _), (7, _)] ?_))
   refine T.seq fun K21 hK21 => ?_
   refine T.drawnS [0, 1, 2, 3, 4, 5, 6, 7, 8, 9, 10, 11, 12, 13] [(0, .rd), (1, .wk), (2, .br), (3, .br)] mixed (by kernel_rfl) rfl ?_
   refine RD.q (fun w s => s.pick [0, 1, 2, 3, 4, 5, 6, 7, 8, 9, 10, 11, 12, 13] (by decide) rfl) rfl (Qt.ldBA (us := [_, _]) 12 ty105 rfl rfl rfl rfl) rfl rfl ?_
   refine RD.w (fun w s => s.pick [0, 1, 2, 3, 4, 5, 6, 7, 8, 9, 10, 11, 12, 13] (by decide) rfl) rfl (Qt.ldB 11 ty4 rfl rfl rfl) rfl rfl ?_
   refine RD.solid rfl (.inr rfl) rfl rfl (Sd.stB (cs' := [_, _]) 12 ty105 rfl rfl rfl rfl rfl rfl rfl rfl) (fun _ => ClE.sat _ _) (fun _ w s => s.pick [0, 1, 2, 3, 4, 5, 6, 7, 8, 9, 10, 11, 12, 13] (by decide) rfl) (fun h => nomatch h) fun _ => ?_
   refine RD.solid rfl (.inr rfl) rfl rfl (Sd.stB (cs' := [_]) 11 ty4 rfl rfl rfl rfl rfl rfl rfl rfl) (fun _ => ClE.sat _ _) (fun _ w s => s.pick [0, 1, 2, 3, 4, 5, 6, 7, 8, 9, 10, 11, 12, 13] (by decide) rfl) (fun h => nomatch h) fun _ => ?_
   refine RD.nil (hK21 _ _ ?_)
   refine T.retTo (by with_reducible ((repeat (first | apply RetTo.seq | apply RetTo.blk)); exact RetTo.refl _)) (Cont.retCC 12 11 rfl ty105 ty4 rfl rfl rfl rfl rfl fun w' s => ?_)
   obtain rfl := Option.some.inj hI
   exact ⟨⟨(qM1, q1.hS, pb, cb), hb⟩, rfl, s.pick [0, 1, 2, 7, 13] (by decide) rfl⟩
 ·refine T.drawnMS [0, 1, 2, 3, 4, 5, 6, 7] [(0, .rd), (1, .so), (2, .so), (3, .so), (4, .pu), (5, .so), (6, .pu)] (.st 0 .rd (.three 1 .so (.two 2 .so (.st 3 .so (.st 4 .pu (.st 5 .so (.st 6 .pu .nil)))) 3 .so (.st 2 .so (.st 4 .pu (.st 5 .so (.st 6 .pu .nil))))) 2 .so (.two 1 .so (.st 3 .so (.st 4 .pu (.st 5 .so (.st 6 .pu .nil)))) 3 .so (.st 1 .so (.st 4 .pu (.st 5 .so (.st 6 .pu .nil))))) 3 .so (.two 1 .so (.st 2 .so (.st 4 .pu (.st 5 .so (.st 6 .pu .nil)))) 2 .so (.st 1 .so (.st 4 .pu (.st 5 .so (.st 6 .pu .nil))))))) mixed (by kernel_rfl) rfl ?_
  refine RM.q (fun w s => s.pick [0, 1, 2, 3, 4, 5, 6, 7] (by decide) rfl) rfl (Qt.ldB 4 ty102 rfl rfl rfl) rfl rfl ?_
  refine RM.three ?_ ?_ ?_
  ·refine RT1.solid rfl (.inl rfl) rfl rfl (Sd.makeMapL) (fun _ => ClE.sat _ _) (fun _ w s => s.pick [0, 1, 2, 3, 4, 5, 6, 7] (by decide) rfl) (fun _ _ _ s => s.drop1) fun gb => ?_
   refine RT.two ?_ ?_
   ·refine RT1.solid rfl (.inl rfl) rfl rfl (Sd.makeMapL) (fun _ => ClE.sat _ _) (fun _ w s => s.pick [0, 1, 2, 3, 4, 5, 6, 7] (by decide) rfl) (fun _ _ _ s => s.drop1) fun gd => ?_
    refine RT.solid rfl (.inl rfl) rfl rfl (Sd.callN ent88 rfl (fun w s => queue_New_walk w (r := some ⟨[]⟩) rfl)) (fun _ => ClE.sat _ _) (fun _ w s => s.pick [0, 1, 2, 3, 4, 5, 6, 7] (by decide) rfl) (fun _ _ _ s => s.drop1) fun gq => ?_
    refine RT.p (fun w s => s.pick [0, 1, 2, 3, 4, 5, 6, 7] (by decide) rfl) rfl (Pu.build (cells := [_, _, _, _]) st160 rfl rfl) rfl rfl (RT.solid rfl (.inl rfl) rfl rfl (Sd.box (cs := [_, _, _, _]) rfl rfl) (fun _ => ClE.sat _ _) (fun _ w s => s.pick [0, 1, 2, 3, 4, 5, 6, 7] (by decide) rfl) (fun _ _ _ s => s.drop1) fun sb => ?_)
    refine RT.p (fun w s => s.pick [0, 1, 2, 3, 4, 5, 6, 7] (by decide) rfl) rfl (Pu.assign rfl) rfl rfl (RT.nil (Cont.exP (fun w s => s.newArena) fun hS _ => ?_))
    refine Cont.weakS (S' := Sat w0 [mapL qM.gf (vraw qM.F), mapL qM.ga (vraw qM.A), fz qM.hA, blk sb [.pointer (some ⟨m, 0, none⟩), .map (some gb), .map (some gd), .pointer (some ⟨gq, 0, none⟩)] 160, mapL gb (([] : List (Int × Value))), mapL gd (([] : List (Int × Value))), Que_ch gq ⟨[]⟩, fz hS, blk b3 [.pointer (some ⟨m, 0, none⟩)] 102, blk b5 [.int .i64 goal] 3, blk b6 [.int .i64 0, .slice none 0 0] 105, blk b7 [.bool false] 4, F]) (fun w s => s.pick [0, 1, 2, 11, 8, 9, 10, 12, 4, 5, 6, 7, 3] (by decide) rfl) ?_
    refine id (hK2 _ _ (sb, (⟨hS, gb, gd, gq, [], rfl, fun e he => by cases he⟩ : SrIn (⟨[], [], ⟨[]⟩⟩ : Srs))) trivial ⟨rfl, rfl, rfl, rfl, rfl, rfl, trivial⟩ (fun w s => s))
   ·refine RT1.solid rfl (.inl rfl) rfl rfl (Sd.callN ent88 rfl (fun w s => queue_New_walk w (r := some ⟨[]⟩) rfl)) (fun _ => ClE.sat _ _) (fun _ w s => s.pick [0, 1, 2, 3, 4, 5, 6, 7] (by decide) rfl) (fun _ _ _ s => s.drop1) fun gq => ?_
    refine RT.solid rfl (.inl rfl) rfl rfl (Sd.makeMapL) (fun _ => ClE.sat _ _) (fun _ w s => s.pick [0, 1, 2, 3, 4, 5, 6, 7] (by decide) rfl) (fun _ _ _ s => s.drop1) fun gd => ?_
    refine RT.p (fun w s => s.pick [0, 1, 2, 3, 4, 5, 6, 7] (by decide) rfl) rfl (Pu.build (cells := [_, _, _, _]) st160 rfl rfl) rfl rfl (RT.solid rfl (.inl rfl) rfl rfl (Sd.box (cs := [_, _, _, _]) rfl rfl) (fun _ => ClE.sat _ _) (fun _ w s => s.pick [0, 1, 2, 3, 4, 5, 6, 7] (by decide) rfl) (fun _ _ _ s => s.drop1) fun sb => ?_)
    refine RT.p (fun w s => s.pick [0, 1, 2, 3, 4, 5, 6, 7] (by decide) rfl) rfl (Pu.assign rfl) rfl rfl (RT.nil (Cont.exP (fun w s => s.newArena) fun hS _ => ?_))
    refine Cont.weakS (S' := Sat w0 [mapL qM.gf (vraw qM.F), mapL qM.ga (vraw qM.A), fz qM.hA, blk sb [.pointer (some ⟨m, 0, none⟩), .map (some gb), .map (some gd), .pointer (some ⟨gq, 0, none⟩)] 160, mapL gb (([] : List (Int × Value))), mapL gd (([] : List (Int × Value))), Que_ch gq ⟨[]⟩, fz hS, blk b3 [.pointer (some ⟨m, 0, none⟩)] 102, blk b5 [.int .i64 goal] 3, blk b6 [.int .i64 0, .slice none 0 0] 105, blk b7 [.bool false] 4, F]) (fun w s => s.pick [0, 1, 2, 11, 8, 10, 9, 12, 4, 5, 6, 7, 3] (by decide) rfl) ?_
    refine id (hK2 _ _ (sb, (⟨hS, gb, gd, gq, [], rfl, fun e he => by cases he⟩ : SrIn (⟨[], [], ⟨[]⟩⟩ : Srs))) trivial ⟨rfl, rfl, rfl, rfl, rfl, rfl, trivial⟩ (fun w s => s))
  ·refine RT1.solid rfl (.inl rfl) rfl rfl (Sd.makeMapL) (fun _ => ClE.sat _ _) (fun _ w s => s.pick [0, 1, 2, 3, 4, 5, 6, 7] (by decide) rfl) (fun _ _ _ s => s.drop1) fun gd => ?_
   refine RT.two ?_ ?_
   ·refine RT1.solid rfl (.inl rfl) rfl rfl (Sd.makeMapL) (fun _ => ClE.sat _ _) (fun _ w s => s.pick [0, 1, 2, 3, 4, 5, 6, 7] (by decide) rfl) (fun _ _ _ s => s.drop1) fun gb => ?_
    refine RT.solid rfl (.inl rfl) rfl rfl (Sd.callN ent88 rfl (fun w s => queue_New_walk w (r := some ⟨[]⟩) rfl)) (fun _ => ClE.sat _ _) (fun _ w s => s.pick [0, 1, 2, 3, 4, 5, 6, 7] (by decide) rfl) (fun _ _ _ s => s.drop1) fun gq => ?_
    refine RT.p (fun w s => s.pick [0, 1, 2, 3, 4, 5, 6, 7] (by decide) rfl) rfl (Pu.build (cells := [_, _, _, _]) st160 rfl rfl) rfl rfl (RT.solid rfl (.inl rfl) rfl rfl (Sd.box (cs := [_, _, _, _]) rfl rfl) (fun _ => ClE.sat _ _) (fun _ w s => s.pick [0, 1, 2, 3, 4, 5, 6, 7] (by decide) rfl) (fun _ _ _ s => s.drop1) fun sb => ?_)
    refine RT.p (fun w s => s.pick [0, 1, 2, 3, 4, 5, 6, 7] (by decide) rfl) rfl (Pu.assign rfl) rfl rfl (RT.nil (Cont.exP (fun w s => s.newArena) fun hS _ => ?_))
    refine Cont.weakS (S' := Sat w0 [mapL qM.gf (vraw qM.F), mapL qM.ga (vraw qM.A), fz qM.hA, blk sb [.pointer (some ⟨m, 0, none⟩), .map (some gb), .map (some gd), .pointer (some ⟨gq, 0, none⟩)] 160, mapL gb (([] : List (Int × Value))), mapL gd (([] : List (Int × Value))), Que_ch gq ⟨[]⟩, fz hS, blk b3 [.pointer (some ⟨m, 0, none⟩)] 102, blk b5 [.int .i64 goal] 3, blk b6 [.int .i64 0, .slice none 0 0] 105, blk b7 [.bool false] 4, F]) (fun w s => s.pick [0, 1, 2, 11, 9, 8, 10, 12, 4, 5, 6, 7, 3] (by decide) rfl) ?_
    refine id (hK2 _ _ (sb, (⟨hS, gb, gd, gq, [], rfl, fun e he => by cases he⟩ : SrIn (⟨[], [], ⟨[]⟩⟩ : Srs))) trivial ⟨rfl, rfl, rfl, rfl, rfl, rfl, trivial⟩ (fun w s => s))
   ·refine RT1.solid rfl (.inl rfl) rfl rfl (Sd.callN ent88 rfl (fun w s => queue_New_walk w (r := some ⟨[]⟩) rfl)) (fun _ => ClE.sat _ _) (fun _ w s => s.pick [0, 1, 2, 3, 4, 5, 6, 7] (by decide) rfl) (fun _ _ _ s => s.drop1) fun gq => ?_
    refine RT.solid rfl (.inl rfl) rfl rfl (Sd.makeMapL) (fun _ => ClE.sat _ _) (fun _ w s => s.pick [0, 1, 2, 3, 4, 5, 6, 7] (by decide) rfl) (fun _ _ _ s => s.drop1) fun gb => ?_
    refine RT.p (fun w s => s.pick [0, 1, 2, 3, 4, 5, 6, 7] (by decide) rfl) rfl (Pu.build (cells := [_, _, _, _]) st160 rfl rfl) rfl rfl (RT.solid rfl (.inl rfl) rfl rfl (Sd.box (cs := [_, _, _, _]) rfl rfl) (fun _ => ClE.sat _ _) (fun _ w s => s.pick [0, 1, 2, 3, 4, 5, 6, 7] (by decide) rfl) (fun _ _ _ s => s.drop1) fun sb => ?_)
    refine RT.p (fun w s => s.pick [0, 1, 2, 3, 4, 5, 6, 7] (by decide) rfl) rfl (Pu.assign rfl) rfl rfl (RT.nil (Cont.exP (fun w s => s.newArena) fun hS _ => ?_))
    refine Cont.weakS (S' := Sat w0 [mapL qM.gf (vraw qM.F), mapL qM.ga (vraw qM.A), fz qM.hA, blk sb [.pointer (some ⟨m, 0, none⟩), .map (some gb), .map (some gd), .pointer (some ⟨gq, 0, none⟩)] 160, mapL gb (([] : List (Int × Value))), mapL gd (([] : List (Int × Value))), Que_ch gq ⟨[]⟩, fz hS, blk b3 [.pointer (some ⟨m, 0, none⟩)] 102, blk b5 [.int .i64 goal] 3, blk b6 [.int .i64 0, .slice none 0 0] 105, blk b7 [.bool false] 4, F]) (fun w s => s.pick [0, 1, 2, 11, 10, 8, 9, 12, 4, 5, 6, 7, 3] (by decide) rfl) ?_
    refine id (hK2 _ _ (sb, (⟨hS, gb, gd, gq, [], rfl, fun e he => by cases he⟩ : SrIn (⟨[], [], ⟨[]⟩⟩ : Srs))) trivial ⟨rfl, rfl, rfl, rfl, rfl, rfl, trivial⟩ (fun w s => s))
  ·refine RT1.solid rfl (.inl rfl) rfl rfl (Sd.callN ent88 rfl (fun w s => queue_New_walk w (r := some ⟨[]⟩) rfl)) (fun _ => ClE.sat _ _) (fun _ w s => s.pick [0, 1, 2, 3, 4, 5, 6, 7] (by decide) rfl) (fun _ _ _ s => s.drop1) fun gq => ?_
   refine RT.two ?_ ?_
   ·refine RT1.solid rfl (.inl rfl) rfl rfl (Sd.makeMapL) (fun _ => ClE.sat _ _) (fun _ w s => s.pick [0, 1, 2, 3, 4, 5, 6, 7] (by decide) rfl) (fun _ _ _ s => s.drop1) fun gb => ?_
    refine RT.solid rfl (.inl rfl) rfl rfl (Sd.makeMapL) (fun _ => ClE.sat _ _) (fun _ w s => s.pick [0, 1, 2, 3, 4, 5, 6, 7] (by decide) rfl) (fun _ _ _ s => s.drop1) fun gd => ?_
    refine RT.p (fun w s => s.pick [0, 1, 2, 3, 4, 5, 6, 7] (by decide) rfl) rfl (Pu.build (cells := [_, _, _, _]) st160 rfl rfl) rfl rfl (RT.solid rfl (.inl rfl) rfl rfl (Sd.box (cs := [_, _, _, _]) rfl rfl) (fun _ => ClE.sat _ _) (fun _ w s => s.pick [0, 1, 2, 3, 4, 5, 6, 7] (by decide) rfl) (fun _ _ _ s => s.drop1) fun sb => ?_)
    refine RT.p (fun w s => s.pick [0, 1, 2, 3, 4, 5, 6, 7] (by decide) rfl) rfl (Pu.assign rfl) rfl rfl (RT.nil (Cont.exP (fun w s => s.newArena) fun hS _ => ?_))
    refine Cont.weakS (S' := Sat w0 [mapL qM.gf (vraw qM.F), mapL qM.ga (vraw qM.A), fz qM.hA, blk sb [.pointer (some ⟨m, 0, none⟩), .map (some gb), .map (some gd), .pointer (some ⟨gq, 0, none⟩)] 160, mapL gb (([] : List (Int × Value))), mapL gd (([] : List (Int × Value))), Que_ch gq ⟨[]⟩, fz hS, blk b3 [.pointer (some ⟨m, 0, none⟩)] 102, blk b5 [.int .i64 goal] 3, blk b6 [.int .i64 0, .slice none 0 0] 105, blk b7 [.bool false] 4, F]) (fun w s => s.pick [0, 1, 2, 11, 9, 10, 8, 12, 4, 5, 6, 7, 3] (by decide) rfl) ?_
    refine id (hK2 _ _ (sb, (⟨hS, gb, gd, gq, [], rfl, fun e he => by cases he⟩ : SrIn (⟨[], [], ⟨[]⟩⟩ : Srs))) trivial ⟨rfl, rfl, rfl, rfl, rfl, rfl, trivial⟩ (fun w s => s))
   ·refine RT1.solid rfl (.inl rfl) rfl rfl (Sd.makeMapL) (fun _ => ClE.sat _ _) (fun _ w s => s.pick [0, 1, 2, 3, 4, 5, 6, 7] (by decide) rfl) (fun _ _ _ s => s.drop1) fun gd => ?_
    refine RT.solid rfl (.inl rfl) rfl rfl (Sd.makeMapL) (fun _ => ClE.sat _ _) (fun _ w s => s.pick [0, 1, 2, 3, 4, 5, 6, 7] (by decide) rfl) (fun _ _ _ s => s.drop1) fun gb => ?_
    refine RT.p (fun w s => s.pick [0, 1, 2, 3, 4, 5, 6, 7] (by decide) rfl) rfl (Pu.build (cells := [_, _, _, _]) st160 rfl rfl) rfl rfl (RT.solid rfl (.inl rfl) rfl rfl (Sd.box (cs := [_, _, _, _]) rfl rfl) (fun _ => ClE.sat _ _) (fun _ w s => s.pick [0, 1, 2, 3, 4, 5, 6, 7] (by decide) rfl) (fun _ _ _ s => s.drop1) fun sb => ?_)
    refine RT.p (fun w s => s.pick [0, 1, 2, 3, 4, 5, 6, 7] (by decide) rfl) rfl (Pu.assign rfl) rfl rfl (RT.nil (Cont.exP (fun w s => s.newArena) fun hS _ => ?_))
    refine Cont.weakS (S' := Sat w0 [mapL qM.gf (vraw qM.F), mapL qM.ga (vraw qM.A), fz qM.hA, blk sb [.pointer (some ⟨m, 0, none⟩), .map (some gb), .map (some gd), .pointer (some ⟨gq, 0, none⟩)] 160, mapL gb (([] : List (Int × Value))), mapL gd (([] : List (Int × Value))), Que_ch gq ⟨[]⟩, fz hS, blk b3 [.pointer (some ⟨m, 0, none⟩)] 102, blk b5 [.int .i64 goal] 3, blk b6 [.int .i64 0, .slice none 0 0] 105, blk b7 [.bool false] 4, F]) (fun w s => s.pick [0, 1, 2, 11, 10, 9, 8, 12, 4, 5, 6, 7, 3] (by decide) rfl) ?_
    refine id (hK2 _ _ (sb, (⟨hS, gb, gd, gq, [], rfl, fun e he => by cases he⟩ : SrIn (⟨[], [], ⟨[]⟩⟩ : Srs))) trivial ⟨rfl, rfl, rfl, rfl, rfl, rfl, trivial⟩ (fun w s => s))
theorem mx_find_walk {w0 : World} {H0 : Hp} (hH : H0.le (hpOf w0)) {F : Ch} {m : Nat} {x : Mx} (qM : MxIn H0 m x) {n : Nat} {start goal : Int} {r : Lbl × Bool} (H : mx_find n x start goal = some r) (w : World) (S : Sat w0 ([mapL qM.gf (vraw qM.F), mapL qM.ga (vraw qM.A), fz qM.hA] ++ [F]) w) : Calls Tryz.prog 57 #[.pointer (some ⟨m, 0, none⟩), .int .i64 start, .int .i64 goal] w fun e w' => ∃ z : {z : MxIn H0 m x × Hp × Option Addr × Nat // LB z.2.1 r.1.l (.slice z.2.2.1 r.1.l.length z.2.2.2)}, e = .returned (.tuple #[.agg #[.int .i64 r.1.cost, .slice z.1.2.2.1 r.1.l.length z.1.2.2.2], .bool r.2]) ∧ Sat w0 ([mapL z.1.1.gf (vraw z.1.1.F), mapL z.1.1.ga (vraw z.1.1.A), fz z.1.1.hA, fz z.1.2.1] ++ [F]) w' := by
 unfold mx_find at H
 obtain ⟨home, h1, H⟩ := bindE H
 obtain ⟨e, h2, H⟩ := bindE H
 obtain ⟨y, h3, H⟩ := bindE H
 obtain ⟨z1, h4, h5⟩ := bindE H
 exact find_in hH qM h1 h2 h3 h4 h5 w S
end Go.Proofs.YthdbofgcckjopaaGreat
set_option linter.unusedVariables false
set_option linter.unusedSimpArgs false
set_option maxRecDepth 20000
set_option maxHeartbeats 4000000
namespace Go.Proofs.YthdbofgcckjopaaGreat
open Go.Vg
open Enc (R)
theorem st153 : stTy Tryz.prog 153 = some ([.pointer none, .slice none 0 0, .map none, .map none], [(0, 1), (1, 1), (2, 1), (3, 1)]) := by kernel_rfl
theorem fresh_in {w0 : World} {F : Ch} {A : Hp} {n : Nat} {net : Net} {v0 v1 : Value} {ps : List Prt} {AT : List (Int × List Int)} (b2 : blk n [.int .i64 net.g.w, .int .i64 net.g.h, v0, .int .i64 net.cls, v1] 101 A) (r1 : R A net.free [v1]) (hps : portal_All net.g.w net.g.h net.free = some ps) (H : atL net.g.w ps 0 [] = some AT) (w : World) (S : Sat w0 ([fz A] ++ [F]) w) : Calls Tryz.prog 56 #[.pointer (some ⟨n, 0, none⟩)] w fun e w' => ∃ z : Nat × (Option Nat × Nat) × Nat × Nat × {L : List (Int × RowAt) // rwx L = AT}, e = .returned (.pointer (some ⟨z.1, 0, none⟩)) ∧ Sat w0 ([fz A, row nilH 67 (rowV z.2.1 ps.length) ps, mapL z.2.2.1 (rwv z.2.2.2.2.1), mapL z.2.2.2.1 [], blk z.1 [.pointer (some ⟨n, 0, none⟩), rowV z.2.1 ps.length, .map (some z.2.2.1), .map (some z.2.2.2.1)] 153, stars (rws 3 z.2.2.2.2.1)] ++ [F]) w' := by
 refine T.enter (args := [_]) (S := Sat w0 ([fz A] ++ [F])) Tryz.func56 rfl rfl (S) ?_
 refine T.seq fun K1 hK1 => T.region (rA rfl (RS.nil (hK1 _ _ ?_)))
 refine T.seqJoinK (σ := Nat × (Option Nat × Nat) × Nat × Nat) [(0, _)] (fun ⟨mb, qp, ga, gf⟩ => [(3, .pointer (some ⟨mb, 0, none⟩))]) (fun ⟨mb, qp, ga, gf⟩ => Sat w0 [fz A, F, row nilH 67 (rowV qp ps.length) ps, mapL ga [], mapL gf [], blk mb [.pointer (some ⟨n, 0, none⟩), rowV qp ps.length, .map (some ga), .map (some gf)] 153]) (fun ⟨mb, qp, ga, gf⟩ => True) ⟨rfl, trivial⟩ (fun ⟨mb, qp, ga, gf⟩ hJ2 => ?_) (fun K2 hK2 => ?_)
 ·refine cq [(3, _), (0, _)] ?_
  refine T.seq fun K3 hK3 => T.seq fun K4 hK4 => T.region (rM rfl (rp (Pu.nilCheck rfl) (rp (Pu.fieldAddr fd153_1 rfl) (rq (Qt.ldB 5 ty62 rfl rfl rfl) (rp (Pu.lenSl sl62 rfl) (rM rfl (RS.nil (hK4 _ _ (cq [(0, _), (3, _), (32, _), (33, _), (34, _)] ?_)))))))))
  refine T.block ?_
  refine T.know (fun w s => s.row_fits (k := 2) rfl) fun hlt => ?_
  have hlt2 : ps.length ≤ 9223372036854775807 := by have := hlt.2; unfold maxLen at this; omega
  refine T.weakS (S' := Sat w0 [fz A, F, row nilH 67 (rowV qp ps.length) ps, mapL ga (rwv []), mapL gf [], blk mb [.pointer (some ⟨n, 0, none⟩), rowV qp ps.length, .map (some ga), .map (some gf)] 153, stars (rws 3 [])]) (fun w s => s.addEmpty (stars (rws 3 [])) (fun _ => trivial)) ?_
  refine T.loopK (σ := Int × List (Int × RowAt)) [(0, _), (3, _), (32, _), (33, _)] (fun ⟨k, L⟩ => [(34, .int .i64 k)]) (fun ⟨k, L⟩ => Sat w0 [fz A, F, row nilH 67 (rowV qp ps.length) ps, mapL ga (rwv L), mapL gf [], blk mb [.pointer (some ⟨n, 0, none⟩), rowV qp ps.length, .map (some ga), .map (some gf)] 153, stars (rws 3 L)]) (fun ⟨k, L⟩ => 0 ≤ k ∧ k ≤ ps.length ∧ atL net.g.w (ps.drop k.toNat) k (rwx L) = some AT) (fun ⟨k, L⟩ => ((ps.length : Int) - k).toNat) (0, []) (⟨by omega, by omega, H⟩) ⟨rfl, rfl, rfl, rfl, trivial⟩ ⟨rfl, rfl, rfl, rfl, rfl, trivial⟩ (fun _ s => s) ?_
  intro ⟨k, L⟩ hI K4_ hL1
  refine cq [(34, _), (0, _), (3, _), (32, _), (33, _)] ?_
  obtain ⟨hk0, hk1, hIo⟩ := hI
  try dsimp only at hk0 hk1 hIo ⊢
  refine T.seq fun K5 hK5 => T.region (rp (Pu.bin rfl rfl rfl) (RS.nil (hK5 _ _ ?_)))
  refine T.seq fun K6 hK6 => ?_
  refine T.condP rfl (fun hc35 => ?_) (fun hc35 => ?_)
  ·refine T.skip (hK6 _ _ ?_)
   refine T.seq fun K7 hK7 => T.block (T.seq fun K8 hK8 => ?_)
   have hkp : 0 ≤ k ∧ k < (ps.length : Int) := ⟨hk0, hc35⟩
   have hdr := drop_gi hkp
   rw [hdr] at hIo
   simp only [atL] at hIo
   obtain ⟨g1, hIo⟩ := gdE hIo
   obtain ⟨s0, hs0, hIo⟩ := bindE hIo
   obtain ⟨s1, hs1, hIo⟩ := bindE hIo
   obtain ⟨hl0, hIo⟩ := gdE hIo
   obtain ⟨hl1, hIo⟩ := gdE hIo
   obtain ⟨A1, hA1⟩ : ∃ A1, A1 = kput (rwx L) s0 ((kget (rwx L) s0).getD [] ++ [2 * k]) := ⟨_, rfl⟩
   rw [← hA1] at hl1 hIo
   obtain ⟨A2, hA2⟩ : ∃ A2, A2 = kput A1 s1 ((kget A1 s1).getD [] ++ [2 * k + 1]) := ⟨_, rfl⟩
   rw [← hA2] at hIo
   unfold I64 at g1
   refine T.region (rM rfl ?_)
   refine RS.know (p := ∃ g cap, qp = (some g, cap)) (fun w s => s.row_some (k := 2) rfl (by first | omega | (simp only [len_si, List.length_append, List.length_replicate, List.length_cons, List.length_nil, List.length_map, List.length_take] at *; omega))) ?_
   rintro ⟨g2_qp, cap2_qp, rfl⟩
   refine rp (Pu.indexSl sl62 rfl rfl (by first | omega | (simp only [len_si, List.length_append, List.length_replicate, List.length_cons, List.length_nil, List.length_map, List.length_take] at *; omega))) (rq (Qt.ldW (α := Prt) (cs := [_, _, _]) (Rd.ofRowN 2 rfl) ty67 rfl rfl (by first | omega | (simp only [len_si, List.length_append, List.length_replicate, List.length_cons, List.length_nil, List.length_map, List.length_take] at *; omega)) rfl (by rintro _ _ rfl; rfl)) (RS.solid (Sd.alloc zr67 rfl) rfl rfl fun b5 => rA rfl (RS.solid (Sd.stB (cs' := [_, _, _]) 7 ty67 rfl rfl rfl rfl rfl rfl rfl rfl) rfl rfl fun _ => RS.nil (hK8 _ _ (cq [(0, _), (3, _), (4, _), (5, _), (32, _), (33, _), (34, _)] ?_)))))
   refine T.seq fun K9 hK9 => T.region (rp (Pu.fieldAddr fd67_0 rfl) (rq (Qt.ldB 7 ty3 rfl rfl rfl) (rp (Pu.fieldAddr fd67_1 rfl) (rq (Qt.ldB 7 ty3 rfl rfl rfl) (RS.solid (Sd.litS (cs := [_, _]) sl23 zr3 rfl rfl rfl rfl rfl) rfl rfl fun b43 => rp (Pu.lenSl sl23 rfl) (rM rfl (RS.nil (hK9 _ _ (cq [(0, _), (3, _), (4, _), (32, _), (33, _), (34, _), (43, _), (44, _), (45, _)] ?_)))))))))
   refine T.block ?_
   refine T.weakS (S' := Sat w0 [fz A, F, row nilH 67 (rowV (some g2_qp, cap2_qp) ps.length) ps, mapL ga (rwv L), mapL gf [], blk mb [.pointer (some ⟨n, 0, none⟩), rowV (some g2_qp, cap2_qp) ps.length, .map (some ga), .map (some gf)] 153, stars (rws 3 L), blk b5 [.int .i64 (gi ps k).a, .int .i64 (gi ps k).b, .int .i64 (gi ps k).width] 67, row nilH 3 (rowV (some b43, 2) 2) [(gi ps k).a, (gi ps k).b]]) (fun w s => s.litRow (α := Int) (n := 2) 8 [(gi ps k).a, (gi ps k).b] rfl (by decide) rfl ⟨[_], _, rfl, rfl, ⟨[_], _, rfl, rfl, rfl⟩⟩) ?_
   refine T.loopK (σ := Int × List (Int × RowAt)) [(0, _), (3, _), (4, _), (32, _), (33, _), (34, _), (43, _), (44, _)] (fun ⟨i, L2⟩ => [(45, .int .i64 i)]) (fun ⟨i, L2⟩ => Sat w0 [fz A, F, row nilH 67 (rowV (some g2_qp, cap2_qp) ps.length) ps, mapL ga (rwv L2), mapL gf [], blk mb [.pointer (some ⟨n, 0, none⟩), rowV (some g2_qp, cap2_qp) ps.length, .map (some ga), .map (some gf)] 153, stars (rws 3 L2), blk b5 [.int .i64 (gi ps k).a, .int .i64 (gi ps k).b, .int .i64 (gi ps k).width] 67, row nilH 3 (rowV (some b43, 2) 2) [(gi ps k).a, (gi ps k).b]]) (fun ⟨i, L2⟩ => 0 ≤ i ∧ i ≤ 2 ∧ ((i = 0 ∧ rwx L2 = rwx L) ∨ (i = 1 ∧ rwx L2 = A1) ∨ (i = 2 ∧ rwx L2 = A2))) (fun ⟨i, L2⟩ => (2 - i).toNat) (0, L) (⟨by omega, by omega, .inl ⟨rfl, rfl⟩⟩) ⟨rfl, rfl, rfl, rfl, rfl, rfl, rfl, rfl, trivial⟩ ⟨rfl, rfl, rfl, rfl, rfl, rfl, rfl, rfl, rfl, trivial⟩ (fun _ s => s) ?_
   intro ⟨i, L2⟩ hI K9_ hL2
   refine cq [(45, _), (0, _), (3, _), (4, _), (32, _), (33, _), (34, _), (43, _), (44, _)] ?_
   obtain ⟨hi0, hi1, hI2⟩ := hI
   try dsimp only at hi0 hi1 hI2 ⊢
   refine T.seq fun K10 hK10 => T.region (rp (Pu.bin rfl rfl rfl) (RS.nil (hK10 _ _ ?_)))
   refine T.seq fun K11 hK11 => ?_
   refine T.condP rfl (fun hc46 => ?_) (fun hc46 => ?_)
   ·refine T.skip (hK11 _ _ ?_)
    refine T.seq fun K12 hK12 => T.block (T.seq fun K13 hK13 => ?_)
    obtain ⟨sc, hsc, hln, hnx⟩ : ∃ sc, sector_At net.g.w (gi [(gi ps k).a, (gi ps k).b] i) = some sc ∧ ((kget (rwx L2) sc).getD []).length < 1099511627776 ∧ (∀ X, X = kput (rwx L2) sc ((kget (rwx L2) sc).getD [] ++ [2 * k + i]) → (i + 1 = 1 ∧ X = A1) ∨ (i + 1 = 2 ∧ X = A2)) := by
     rcases hI2 with ⟨rfl, e⟩ | ⟨rfl, e⟩ | ⟨rfl, e⟩
     ·rw [e]
      refine ⟨s0, hs0, hl0, fun X hX => .inl ⟨rfl, ?_⟩⟩
      rw [hX, show 2 * k + (0 : Int) = 2 * k by omega]
      exact hA1.symm
     ·rw [e]
      exact ⟨s1, hs1, hl1, fun X hX => .inr ⟨rfl, hX.trans hA2.symm⟩⟩
     ·omega
    refine T.region (rM rfl (rp (Pu.indexSl sl23 rfl rfl (by first | omega | (simp only [len_si, List.length_append, List.length_replicate, List.length_cons, List.length_nil, List.length_map, List.length_take] at *; omega))) (rq (Qt.ld0 (α := Int) (Rd.ofRowN 8 rfl) ty3 rfl rfl (by first | omega | (simp only [len_si, List.length_append, List.length_replicate, List.length_cons, List.length_nil, List.length_map, List.length_take] at *; omega)) (by rintro _ _ rfl; rfl)) (rA rfl (rA rfl (RS.nil (hK13 _ _ (cq [(0, _), (3, _), (4, _), (6, _), (7, _), (32, _), (33, _), (34, _), (43, _), (44, _), (45, _)] ?_))))))))
    refine T.seq fun K14 hK14 => T.region (rM rfl (rp (Pu.nilCheck rfl) (rp (Pu.fieldAddr fd101_0 rfl) (rp (Pu.fieldAddr fd36_0 rfl) (rq (Qt.ldFz 0 rfl ty3 rfl b2 rfl) (rM rfl (rq (Qt.call ent87 rfl fun w s => sector_At_walk net.g.w _ w hsc) (rA rfl (RS.nil (hK14 _ _ (cq [(0, _), (3, _), (4, _), (6, _), (8, _), (32, _), (33, _), (34, _), (43, _), (44, _), (45, _)] ?_)))))))))))
    obtain ⟨zq, zl, hz⟩ : ∃ zq zl, (kget L2 sc).getD ((none, 0), []) = (zq, zl) := ⟨_, _, rfl⟩
    have hzl : (kget (rwx L2) sc).getD [] = zl := by rw [rwx_get, hz]
    rw [hzl] at hln
    refine T.weakS (S' := Sat w0 [fz A, F, row nilH 67 (rowV (some g2_qp, cap2_qp) ps.length) ps, mapL ga (rwv L2), mapL gf [], blk mb [.pointer (some ⟨n, 0, none⟩), rowV (some g2_qp, cap2_qp) ps.length, .map (some ga), .map (some gf)] 153, stars (rws 3 (vdel L2 sc)), blk b5 [.int .i64 (gi ps k).a, .int .i64 (gi ps k).b, .int .i64 (gi ps k).width] 67, row nilH 3 (rowV (some b43, 2) 2) [(gi ps k).a, (gi ps k).b], row nilH 3 (rowV zq zl.length) zl]) (fun w s => by
      have s2 := s.pullRow 6 sc rfl
      rw [hz] at s2
      exact s2) ?_
    refine T.drawnS [0, 1, 2, 4, 5, 6, 7, 8] [(0, .pu), (1, .pu), (2, .pu), (3, .wk), (4, .pu), (5, .pu), (6, .pu), (7, .pu), (8, .wk), (9, .pu), (10, .rd), (11, .pu), (12, .pu), (13, .pu), (14, .pu), (15, .so), (16, .br), (17, .br)] mixed (by kernel_rfl) rfl ?_
    refine RD.p (fun w s => s.pick [0, 1, 2, 4, 5, 6, 7, 8] (by decide) rfl) rfl (Pu.move rfl) rfl rfl (RD.p (fun w s => s.pick [0, 1, 2, 4, 5, 6, 7, 8] (by decide) rfl) rfl (Pu.nilCheck rfl) rfl rfl (RD.p (fun w s => s.pick [0, 1, 2, 4, 5, 6, 7, 8] (by decide) rfl) rfl (Pu.fieldAddr fd153_2 rfl) rfl rfl ?_))
    refine RD.w (fun w s => s.pick [0, 1, 2, 4, 5, 6, 7, 8] (by decide) rfl) rfl (Qt.ldB 4 ty151 rfl rfl rfl) rfl rfl ?_
    refine RD.p (fun w s => s.pick [0, 1, 2, 4, 5, 6, 7, 8] (by decide) rfl) rfl (Pu.move rfl) rfl rfl (RD.p (fun w s => s.pick [0, 1, 2, 4, 5, 6, 7, 8] (by decide) rfl) rfl (Pu.move rfl) rfl rfl (RD.p (fun w s => s.pick [0, 1, 2, 4, 5, 6, 7, 8] (by decide) rfl) rfl (Pu.nilCheck rfl) rfl rfl (RD.p (fun w s => s.pick [0, 1, 2, 4, 5, 6, 7, 8] (by decide) rfl) rfl (Pu.fieldAddr fd153_2 rfl) rfl rfl ?_)))
    refine RD.w (fun w s => s.pick [0, 1, 2, 4, 5, 6, 7, 8] (by decide) rfl) rfl (Qt.ldB 4 ty151 rfl rfl rfl) rfl rfl ?_
    refine RD.p (fun w s => s.pick [0, 1, 2, 4, 5, 6, 7, 8] (by decide) rfl) rfl (Pu.move rfl) rfl rfl (RD.q (fun w s => s.pick [0, 1, 2, 4, 5, 6, 7, 8] (by decide) rfl) rfl (Qt.lookV (v := rowV zq zl.length) 3 (by rw [rwv_get, hz]) mpz151 rfl rfl rfl) rfl rfl (RD.p (fun w s => s.pick [0, 1, 2, 4, 5, 6, 7, 8] (by decide) rfl) rfl (Pu.move rfl) rfl rfl (RD.p (fun w s => s.pick [0, 1, 2, 4, 5, 6, 7, 8] (by decide) rfl) rfl (Pu.mulS rfl rfl (by omega)) rfl rfl (RD.p (fun w s => s.pick [0, 1, 2, 4, 5, 6, 7, 8] (by decide) rfl) rfl (Pu.move rfl) rfl rfl (RD.p (fun w s => s.pick [0, 1, 2, 4, 5, 6, 7, 8] (by decide) rfl) rfl (Pu.addS rfl rfl (by omega)) rfl rfl (RD.solid rfl (.inl rfl) rfl rfl (Sd.litS (cs := [_]) sl23 zr3 rfl rfl rfl rfl rfl) (fun _ => ClE.sat _ _) (fun _ w s => s.pick [0, 1, 2, 4, 5, 6, 7, 8] (by decide) rfl) (fun _ _ _ s => s.drop1) fun b72 => ?_))))))
    refine RD.solid rfl (.inr rfl) rfl rfl (Sd.app1c (α := Int) 9 10 (2 * k + i) rfl rfl (nilH_lt _) sl23 zr3 rfl rfl rfl rfl hln (by decide)) (fun _ => ClE.sat _ _) (fun _ w s => s.pick [0, 1, 2, 4, 5, 6, 7, 8] (by decide) rfl) (fun h => nomatch h) fun qn => ?_
    refine RD.solid rfl (.inr rfl) rfl rfl (Sd.mapPut 3 mpz151 rfl rfl rfl rfl) (fun _ => ClE.sat _ _) (fun _ w s => s.pick [0, 1, 2, 4, 5, 6, 7, 8] (by decide) rfl) (fun h => nomatch h) fun _ => ?_
    refine RD.nil (hK12 _ _ (cq [(0, _), (3, _), (4, _), (32, _), (33, _), (34, _), (43, _), (44, _), (45, _)] ?_))
    refine T.region (rp (Pu.addS rfl rfl (by omega)) (rM rfl (RS.nil (hL2 _ _ (i + 1, kput L2 sc (qn, zl ++ [2 * k + i])) ⟨by omega, by omega, ?_⟩ (by show (2 - (i + 1)).toNat < (2 - i).toNat; omega) ⟨rfl, rfl, rfl, rfl, rfl, rfl, rfl, rfl, rfl, trivial⟩ (fun w s => ?_)))))
    ·have e := hnx _ rfl
     rw [hzl, rwx_put (qn, zl ++ [2 * k + i])] at e
     exact .inr e
    ·have s2 := s.pick (G' := [rwc 3 (qn, zl ++ [2 * k + i]), stars (rws 3 (vdel L2 sc)), fz A, F, row nilH 67 (rowV (some g2_qp, cap2_qp) ps.length) ps, mapL ga (kput (rwv L2) sc (rowV qn (zl ++ [2 * k + i]).length)), mapL gf [], blk mb [.pointer (some ⟨n, 0, none⟩), rowV (some g2_qp, cap2_qp) ps.length, .map (some ga), .map (some gf)] 153, blk b5 [.int .i64 (gi ps k).a, .int .i64 (gi ps k).b, .int .i64 (gi ps k).width] 67, row nilH 3 (rowV (some b43, 2) 2) [(gi ps k).a, (gi ps k).b]]) [9, 6, 0, 1, 2, 3, 4, 5, 7, 8] (by decide) rfl
     have s3 := s2.pushRow sc
     rw [rwv_put (qn, zl ++ [2 * k + i])] at s3
     exact s3.pick [1, 2, 3, 4, 5, 6, 0, 7, 8] (by decide) rfl
   ·refine T.exitTo (by with_reducible (repeat (first | exact ExTo.here | exact ExTo.hereN | exact ExTo.deep (by repeat (first | exact NmTo.seq | apply NmTo.blk)) | apply ExTo.seq | refine ExTo.past (by decide) ?_))) (hK7 _ _ (cq [(0, _), (3, _), (32, _), (33, _), (34, _)] ?_))
    have e2 : rwx L2 = A2 := by
     rcases hI2 with h | h | h
     ·exact absurd h.1 (by omega)
     ·exact absurd h.1 (by omega)
     ·exact h.2
    refine T.region (rp (Pu.addS rfl rfl (by omega)) (rM rfl (RS.nil (hL1 _ _ (k + 1, L2) ⟨by omega, by omega, by rw [e2]; exact hIo⟩ (by show ((ps.length : Int) - (k + 1)).toNat < ((ps.length : Int) - k).toNat; omega) ⟨rfl, rfl, rfl, rfl, rfl, trivial⟩ (fun w s => s.pick [0, 1, 2, 3, 4, 5, 6] (by decide) rfl)))))
  ·refine T.exitTo (by with_reducible (repeat (first | exact ExTo.here | exact ExTo.hereN | exact ExTo.deep (by repeat (first | exact NmTo.seq | apply NmTo.blk)) | apply ExTo.seq | refine ExTo.past (by decide) ?_))) (hK3 _ _ (cq [(3, _)] ?_))
   refine T.seq fun K15 hK15 => T.region (rM rfl (rA rfl (RS.nil (hK15 _ _ ?_))))
   refine T.retTo (by with_reducible ((repeat (first | apply RetTo.seq | apply RetTo.blk)); exact RetTo.refl _)) (Cont.ret1 rfl rfl fun w' s => ?_)
   have hke : ps.drop k.toNat = [] := List.drop_eq_nil_of_le (by omega)
   rw [hke] at hIo
   have e : rwx L = AT := Option.some.inj hIo
   exact ⟨(mb, qp, ga, gf, ⟨L, e⟩), rfl, s.pick [0, 2, 3, 4, 5, 6, 1] (by decide) rfl⟩
 ·refine T.drawnMS [0, 1] [(0, .pu), (1, .pu), (2, .pu), (3, .pu), (4, .pu), (5, .rd), (6, .pu), (7, .pu), (8, .pu), (9, .pu), (10, .rd), (11, .pu), (12, .pu), (13, .pu), (14, .rd), (15, .so), (16, .so), (17, .so), (18, .pu), (19, .so), (20, .pu)] (.st 0 .pu (.st 1 .pu (.st 2 .pu (.st 3 .pu (.st 4 .pu (.st 5 .rd (.st 6 .pu (.st 7 .pu (.st 8 .pu (.st 9 .pu (.st 10 .rd (.st 11 .pu (.st 12 .pu (.st 13 .pu (.st 14 .rd (.three 15 .so (.two 16 .so (.st 17 .so (.st 18 .pu (.st 19 .so (.st 20 .pu .nil)))) 17 .so (.st 16 .so (.st 18 .pu (.st 19 .so (.st 20 .pu .nil))))) 16 .so (.two 15 .so (.st 17 .so (.st 18 .pu (.st 19 .so (.st 20 .pu .nil)))) 17 .so (.st 15 .so (.st 18 .pu (.st 19 .so (.st 20 .pu .nil))))) 17 .so (.two 15 .so (.st 16 .so (.st 18 .pu (.st 19 .so (.st 20 .pu .nil)))) 16 .so (.st 15 .so (.st 18 .pu (.st 19 .so (.st 20 .pu .nil))))))))))))))))))))) mixed (by kernel_rfl) rfl ?_
  refine RM.p (fun w s => s.pick [0, 1] (by decide) rfl) rfl (Pu.move rfl) rfl rfl ?_
  refine RM.p (fun w s => s.pick [0, 1] (by decide) rfl) rfl (Pu.move rfl) rfl rfl ?_
  refine RM.p (fun w s => s.pick [0, 1] (by decide) rfl) rfl (Pu.nilCheck rfl) rfl rfl ?_
  refine RM.p (fun w s => s.pick [0, 1] (by decide) rfl) rfl (Pu.fieldAddr fd101_0 rfl) rfl rfl ?_
  refine RM.p (fun w s => s.pick [0, 1] (by decide) rfl) rfl (Pu.fieldAddr fd36_0 rfl) rfl rfl ?_
  refine RM.q (fun w s => s.pick [0, 1] (by decide) rfl) rfl (Qt.ldFz 0 rfl ty3 rfl b2 rfl) rfl rfl ?_
  refine RM.p (fun w s => s.pick [0, 1] (by decide) rfl) rfl (Pu.move rfl) rfl rfl ?_
  refine RM.p (fun w s => s.pick [0, 1] (by decide) rfl) rfl (Pu.nilCheck rfl) rfl rfl ?_
  refine RM.p (fun w s => s.pick [0, 1] (by decide) rfl) rfl (Pu.fieldAddr fd101_0 rfl) rfl rfl ?_
  refine RM.p (fun w s => s.pick [0, 1] (by decide) rfl) rfl (Pu.fieldAddr fd36_1 rfl) rfl rfl ?_
  refine RM.q (fun w s => s.pick [0, 1] (by decide) rfl) rfl (Qt.ldFz 0 rfl ty3 rfl b2 rfl) rfl rfl ?_
  refine RM.p (fun w s => s.pick [0, 1] (by decide) rfl) rfl (Pu.move rfl) rfl rfl ?_
  refine RM.p (fun w s => s.pick [0, 1] (by decide) rfl) rfl (Pu.nilCheck rfl) rfl rfl ?_
  refine RM.p (fun w s => s.pick [0, 1] (by decide) rfl) rfl (Pu.fieldAddr fd101_2 rfl) rfl rfl ?_
  refine RM.q (fun w s => s.pick [0, 1] (by decide) rfl) rfl (Qt.ldFz 0 rfl ty59 rfl b2 rfl) rfl rfl ?_
  refine RM.three ?_ ?_ ?_
  ·refine RT1.solid rfl (.inl rfl) rfl rfl (Sd.callN ent62 rfl (fun w s => portal_All_walk net.g.w net.g.h net.free w (Enc.mono (Held.fz 0 rfl w s) r1) hps)) (fun _ => ClE.sat _ _) (fun _ w s => s.pick [0, 1] (by decide) rfl) (fun _ _ _ s => s.drop1) fun qp => ?_
   refine RT.two ?_ ?_
   ·refine RT1.solid rfl (.inl rfl) rfl rfl (Sd.makeMapL) (fun _ => ClE.sat _ _) (fun _ w s => s.pick [0, 1] (by decide) rfl) (fun _ _ _ s => s.drop1) fun ga => ?_
    refine RT.solid rfl (.inl rfl) rfl rfl (Sd.makeMapL) (fun _ => ClE.sat _ _) (fun _ w s => s.pick [0, 1] (by decide) rfl) (fun _ _ _ s => s.drop1) fun gf => ?_
    refine RT.p (fun w s => s.pick [0, 1] (by decide) rfl) rfl (Pu.build (cells := [_, _, _, _]) st153 rfl rfl) rfl rfl (RT.solid rfl (.inl rfl) rfl rfl (Sd.box (cs := [_, _, _, _]) rfl rfl) (fun _ => ClE.sat _ _) (fun _ w s => s.pick [0, 1] (by decide) rfl) (fun _ _ _ s => s.drop1) fun mb => ?_)
    refine RT.p (fun w s => s.pick [0, 1] (by decide) rfl) rfl (Pu.assign rfl) rfl rfl (RT.nil (Cont.weakS (S' := Sat w0 [fz A, F, row nilH 67 (rowV qp ps.length) ps, mapL ga [], mapL gf [], blk mb [.pointer (some ⟨n, 0, none⟩), rowV qp ps.length, .map (some ga), .map (some gf)] 153]) (fun w s => s.pick [0, 1, 2, 3, 4, 5] (by decide) rfl) ?_))
    refine id (hK2 _ _ (mb, qp, ga, gf) trivial ⟨rfl, rfl, trivial⟩ (fun w s => s))
   ·refine RT1.solid rfl (.inl rfl) rfl rfl (Sd.makeMapL) (fun _ => ClE.sat _ _) (fun _ w s => s.pick [0, 1] (by decide) rfl) (fun _ _ _ s => s.drop1) fun gf => ?_
    refine RT.solid rfl (.inl rfl) rfl rfl (Sd.makeMapL) (fun _ => ClE.sat _ _) (fun _ w s => s.pick [0, 1] (by decide) rfl) (fun _ _ _ s => s.drop1) fun ga => ?_
    refine RT.p (fun w s => s.pick [0, 1] (by decide) rfl) rfl (Pu.build (cells := [_, _, _, _]) st153 rfl rfl) rfl rfl (RT.solid rfl (.inl rfl) rfl rfl (Sd.box (cs := [_, _, _, _]) rfl rfl) (fun _ => ClE.sat _ _) (fun _ w s => s.pick [0, 1] (by decide) rfl) (fun _ _ _ s => s.drop1) fun mb => ?_)
    refine RT.p (fun w s => s.pick [0, 1] (by decide) rfl) rfl (Pu.assign rfl) rfl rfl (RT.nil (Cont.weakS (S' := Sat w0 [fz A, F, row nilH 67 (rowV qp ps.length) ps, mapL ga [], mapL gf [], blk mb [.pointer (some ⟨n, 0, none⟩), rowV qp ps.length, .map (some ga), .map (some gf)] 153]) (fun w s => s.pick [0, 1, 2, 4, 3, 5] (by decide) rfl) ?_))
    refine id (hK2 _ _ (mb, qp, ga, gf) trivial ⟨rfl, rfl, trivial⟩ (fun w s => s))
  ·refine RT1.solid rfl (.inl rfl) rfl rfl (Sd.makeMapL) (fun _ => ClE.sat _ _) (fun _ w s => s.pick [0, 1] (by decide) rfl) (fun _ _ _ s => s.drop1) fun ga => ?_
   refine RT.two ?_ ?_
   ·refine RT1.solid rfl (.inl rfl) rfl rfl (Sd.callN ent62 rfl (fun w s => portal_All_walk net.g.w net.g.h net.free w (Enc.mono (Held.fz 0 rfl w s) r1) hps)) (fun _ => ClE.sat _ _) (fun _ w s => s.pick [0, 1] (by decide) rfl) (fun _ _ _ s => s.drop1) fun qp => ?_
    refine RT.solid rfl (.inl rfl) rfl rfl (Sd.makeMapL) (fun _ => ClE.sat _ _) (fun _ w s => s.pick [0, 1] (by decide) rfl) (fun _ _ _ s => s.drop1) fun gf => ?_
    refine RT.p (fun w s => s.pick [0, 1] (by decide) rfl) rfl (Pu.build (cells := [_, _, _, _]) st153 rfl rfl) rfl rfl (RT.solid rfl (.inl rfl) rfl rfl (Sd.box (cs := [_, _, _, _]) rfl rfl) (fun _ => ClE.sat _ _) (fun _ w s => s.pick [0, 1] (by decide) rfl) (fun _ _ _ s => s.drop1) fun mb => ?_)
    refine RT.p (fun w s => s.pick [0, 1] (by decide) rfl) rfl (Pu.assign rfl) rfl rfl (RT.nil (Cont.weakS (S' := Sat w0 [fz A, F, row nilH 67 (rowV qp ps.length) ps, mapL ga [], mapL gf [], blk mb [.pointer (some ⟨n, 0, none⟩), rowV qp ps.length, .map (some ga), .map (some gf)] 153]) (fun w s => s.pick [0, 1, 3, 2, 4, 5] (by decide) rfl) ?_))
    refine id (hK2 _ _ (mb, qp, ga, gf) trivial ⟨rfl, rfl, trivial⟩ (fun w s => s))
   ·refine RT1.solid rfl (.inl rfl) rfl rfl (Sd.makeMapL) (fun _ => ClE.sat _ _) (fun _ w s => s.pick [0, 1] (by decide) rfl) (fun _ _ _ s => s.drop1) fun gf => ?_
    refine RT.solid rfl (.inl rfl) rfl rfl (Sd.callN ent62 rfl (fun w s => portal_All_walk net.g.w net.g.h net.free w (Enc.mono (Held.fz 0 rfl w s) r1) hps)) (fun _ => ClE.sat _ _) (fun _ w s => s.pick [0, 1] (by decide) rfl) (fun _ _ _ s => s.drop1) fun qp => ?_
    refine RT.p (fun w s => s.pick [0, 1] (by decide) rfl) rfl (Pu.build (cells := [_, _, _, _]) st153 rfl rfl) rfl rfl (RT.solid rfl (.inl rfl) rfl rfl (Sd.box (cs := [_, _, _, _]) rfl rfl) (fun _ => ClE.sat _ _) (fun _ w s => s.pick [0, 1] (by decide) rfl) (fun _ _ _ s => s.drop1) fun mb => ?_)
    refine RT.p (fun w s => s.pick [0, 1] (by decide) rfl) rfl (Pu.assign rfl) rfl rfl (RT.nil (Cont.weakS (S' := Sat w0 [fz A, F, row nilH 67 (rowV qp ps.length) ps, mapL ga [], mapL gf [], blk mb [.pointer (some ⟨n, 0, none⟩), rowV qp ps.length, .map (some ga), .map (some gf)] 153]) (fun w s => s.pick [0, 1, 4, 2, 3, 5] (by decide) rfl) ?_))
    refine id (hK2 _ _ (mb, qp, ga, gf) trivial ⟨rfl, rfl, trivial⟩ (fun w s => s))
  ·refine RT1.solid rfl (.inl rfl) rfl rfl (Sd.makeMapL) (fun _ => ClE.sat _ _) (fun _ w s => s.pick [0, 1] (by decide) rfl) (fun _ _ _ s => s.drop1) fun gf => ?_
   refine RT.two ?_ ?_
   ·refine RT1.solid rfl (.inl rfl) rfl rfl (Sd.callN ent62 rfl (fun w s => portal_All_walk net.g.w net.g.h net.free w (Enc.mono (Held.fz 0 rfl w s) r1) hps)) (fun _ => ClE.sat _ _) (fun _ w s => s.pick [0, 1] (by decide) rfl) (fun _ _ _ s => s.drop1) fun qp => ?_
    refine RT.solid rfl (.inl rfl) rfl rfl (Sd.makeMapL) (fun _ => ClE.sat _ _) (fun _ w s => s.pick [0, 1] (by decide) rfl) (fun _ _ _ s => s.drop1) fun ga => ?_
    refine RT.p (fun w s => s.pick [0, 1] (by decide) rfl) rfl (Pu.build (cells := [_, _, _, _]) st153 rfl rfl) rfl rfl (RT.solid rfl (.inl rfl) rfl rfl (Sd.box (cs := [_, _, _, _]) rfl rfl) (fun _ => ClE.sat _ _) (fun _ w s => s.pick [0, 1] (by decide) rfl) (fun _ _ _ s => s.drop1) fun mb => ?_)
    refine RT.p (fun w s => s.pick [0, 1] (by decide) rfl) rfl (Pu.assign rfl) rfl rfl (RT.nil (Cont.weakS (S' := Sat w0 [fz A, F, row nilH 67 (rowV qp ps.length) ps, mapL ga [], mapL gf [], blk mb [.pointer (some ⟨n, 0, none⟩), rowV qp ps.length, .map (some ga), .map (some gf)] 153]) (fun w s => s.pick [0, 1, 3, 4, 2, 5] (by decide) rfl) ?_))
    refine id (hK2 _ _ (mb, qp, ga, gf) trivial ⟨rfl, rfl, trivial⟩ (fun w s => s))
   ·refine RT1.solid rfl (.inl rfl) rfl rfl (Sd.makeMapL) (fun _ => ClE.sat _ _) (fun _ w s => s.pick [0, 1] (by decide) rfl) (fun _ _ _ s => s.drop1) fun ga => ?_
    refine RT.solid rfl (.inl rfl) rfl rfl (Sd.callN ent62 rfl (fun w s => portal_All_walk net.g.w net.g.h net.free w (Enc.mono (Held.fz 0 rfl w s) r1) hps)) (fun _ => ClE.sat _ _) (fun _ w s => s.pick [0, 1] (by decide) rfl) (fun _ _ _ s => s.drop1) fun qp => ?_
    refine RT.p (fun w s => s.pick [0, 1] (by decide) rfl) rfl (Pu.build (cells := [_, _, _, _]) st153 rfl rfl) rfl rfl (RT.solid rfl (.inl rfl) rfl rfl (Sd.box (cs := [_, _, _, _]) rfl rfl) (fun _ => ClE.sat _ _) (fun _ w s => s.pick [0, 1] (by decide) rfl) (fun _ _ _ s => s.drop1) fun mb => ?_)
    refine RT.p (fun w s => s.pick [0, 1] (by decide) rfl) rfl (Pu.assign rfl) rfl rfl (RT.nil (Cont.weakS (S' := Sat w0 [fz A, F, row nilH 67 (rowV qp ps.length) ps, mapL ga [], mapL gf [], blk mb [.pointer (some ⟨n, 0, none⟩), rowV qp ps.length, .map (some ga), .map (some gf)] 153]) (fun w s => s.pick [0, 1, 4, 3, 2, 5] (by decide) rfl) ?_))
    refine id (hK2 _ _ (mb, qp, ga, gf) trivial ⟨rfl, rfl, trivial⟩ (fun w s => s))
def rwA (L : List (Int × RowAt)) : List (Int × (Value × List Int)) := vmap (fun z : RowAt => (rowV z.1 z.2.length, z.2)) L
theorem rwA_raw (L : List (Int × RowAt)) : rwv L = vraw (rwA L) := by unfold rwv vraw rwA vmap; rw [List.map_map]; rfl
theorem rwA_abs (L : List (Int × RowAt)) : rwx L = vabs (rwA L) := by unfold rwx vabs rwA vmap; rw [List.map_map]; rfl
theorem fresh_walk {w0 : World} {H0 : Hp} {F : Ch} {A : Hp} {n : Nat} {net : Net} {v0 v1 : Value} {x : Mx} (b2 : blk n [.int .i64 net.g.w, .int .i64 net.g.h, v0, .int .i64 net.cls, v1] 101 A) (r0 : R H0 net.g.tiles [v0]) (r1 : R A net.free [v1]) (H : route_fresh net = some x) (w : World) (S : Sat w0 ([fz A] ++ [F]) w) : Calls Tryz.prog 56 #[.pointer (some ⟨n, 0, none⟩)] w fun e w' => ∃ z : (m : Nat) × MxIn H0 m x, e = .returned (.pointer (some ⟨z.1, 0, none⟩)) ∧ Sat w0 ([mapL z.2.gf (vraw z.2.F), mapL z.2.ga (vraw z.2.A), fz z.2.hA] ++ [F]) w' := by
 unfold route_fresh at H
 obtain ⟨ps, hps, H⟩ := bindE H
 obtain ⟨_, H⟩ := gdE H
 obtain ⟨AT, hA, H⟩ := bindE H
 obtain rfl := sj H
 refine (fresh_in b2 r1 hps hA w S).mono ?_
 rintro e w' ⟨⟨mb, qp, ga, gf, L, eL⟩, he, s⟩
 dsimp only at he s
 obtain ⟨h1, ⟨l1, p1, hp1, k1⟩, s⟩ := s.absorb 0 1 rfl rfl (by decide)
 obtain ⟨h2, ⟨l2, p2, hp2, k2⟩, s⟩ := s.absorb 0 4 rfl rfl (by decide)
 obtain ⟨h3, ⟨l3, p3, hp3, k3⟩, s⟩ := s.absorb 0 5 rfl rfl (by decide)
 have s2 := s.pick (G' := [mapL gf [], mapL ga (rwv L), fz h3, F]) [3, 2, 0, 6] (by decide) rfl
 rw [rwA_raw] at s2
 refine ⟨⟨mb, ⟨h3, gf, ga, n, v0, v1, rowV qp ps.length, rwA L, [], l3 _ _ (k2 _ _ hp2), l3 _ _ (l2 _ _ (l1 _ _ b2)), r0, Enc.mono (Hp.le_trans l1 (Hp.le_trans l2 l3)) r1, Enc.mono (Hp.le_trans k1 (Hp.le_trans l2 l3)) (row_R hp1), ?_, ?_, fun e he => by cases he⟩⟩, he, s2⟩
 ·rw [← rwA_abs]; exact eL.symm
 ·intro e he
  obtain ⟨y, hy, rfl⟩ := List.mem_map.1 he
  exact Enc.mono k3 (rws_R hp3 y hy)
end Go.Proofs.YthdbofgcckjopaaGreat
set_option linter.unusedVariables false
set_option linter.unusedSimpArgs false
set_option maxRecDepth 20000
set_option maxHeartbeats 4000000
namespace Go.Proofs.YthdbofgcckjopaaGreat
open Go.Vg
open Enc (R)
theorem ent56 : Ent Tryz.prog 56 := ⟨_, _, Tryz.func56, by kernel_rfl, rfl⟩
theorem ent57 : Ent Tryz.prog 57 := ⟨_, _, Tryz.func57, by kernel_rfl, rfl⟩
theorem ent58 : Ent Tryz.prog 58 := ⟨_, _, Tryz.func58, by kernel_rfl, rfl⟩
theorem st52 : stTy Tryz.prog 52 = some ([.int .i64 0, .slice none 0 0, .slice none 0 0], [(0, 1), (1, 1), (2, 1)]) := by kernel_rfl
theorem ty52 : tySz Tryz.prog 52 = some (3, true) := by kernel_rfl
theorem zr52 : zeroOf Tryz.prog 52 = some (.agg #[.int .i64 0, .slice none 0 0, .slice none 0 0]) := by kernel_rfl
theorem route_Find_walk {N : Nat} (g : Grd) (l : List Bld) (cls size start goal : Int) (w : World) {v0 v1 : Value} (h0 : R (hpOf w) g.tiles [v0]) (h1 : R (hpOf w) l [v1]) {r : Rte × Int} (H : route_Find N g l cls size start goal = some r) : Calls Tryz.prog 25 #[.agg #[.int .i64 g.w, .int .i64 g.h, v0], v1, .int .i64 cls, .int .i64 size, .int .i64 start, .int .i64 goal] w fun e w' => ∃ q : (Option Nat × Nat) × (Option Nat × Nat), e = .returned (.tuple #[.agg #[.int .i64 r.1.cost, rowV q.1 r.1.portals.length, rowV q.2 r.1.sectors.length], .int .i64 r.2]) ∧ Sat w [row nilH 3 (rowV q.1 r.1.portals.length) r.1.portals, row nilH 3 (rowV q.2 r.1.sectors.length) r.1.sectors] w' := by
 unfold route_Find at H
 refine T.enter (args := [_, _, _, _, _, _]) (S := Sat w []) Tryz.func25 rfl rfl (Sat.start w) ?_
 obtain ⟨b, hb, H⟩ := bindE H
 refine T.seq fun K1 hK1 => T.region (RS.solid (Sd.box (cs := [_, _, _]) rfl rfl) rfl rfl fun b6 => RS.solid (Sd.alloc zr52 rfl) rfl rfl fun b12 => rA rfl (RS.nil (hK1 _ _ ?_)))
 refine T.seq fun K2 hK2 => T.block (T.seq fun K3 hK3 => T.region (rq (Qt.ldBA (us := [_, _, _]) 0 ty36 rfl rfl rfl rfl) (rM rfl (rM rfl (rM rfl (rq (Qt.call ent44 rfl fun w2 s => field_May_walk g l cls size w2 (Enc.mono s.ext.hp h0) (Enc.mono s.ext.hp h1) hb) (rp (Pu.not rfl) (rA rfl (RS.nil (hK3 _ _ ?_))))))))))
 refine T.cond rfl (fun hc18 => ?_) (fun hc18 => ?_)
 ·rw [if_pos hc18] at H
  refine cq [(12, _)] ?_
  refine T.seq fun K4 hK4 => T.region (rp (Pu.build (cells := [_, _, _]) st52 rfl rfl) (RS.solid (Sd.stB (cs' := [_, _, _]) 1 ty52 rfl rfl rfl rfl rfl rfl rfl rfl) rfl rfl fun _ => rA rfl (RS.nil (hK4 _ _ ?_))))
  refine T.retTo (by with_reducible ((repeat (first | apply RetTo.seq | apply RetTo.blk)); exact RetTo.refl _)) (Cont.retCT 1 rfl ty52 rfl rfl rfl rfl fun w' s => ?_)
  obtain rfl := sj H
  exact ⟨((none, 0), (none, 0)), rfl, ((s.nilRow (α := Int) 3).nilRow (α := Int) 3).pick [2, 3] (by decide) rfl⟩
 ·rw [if_neg (by rw [hc18]; simp)] at H
  obtain ⟨b1, hb1, H⟩ := bindE H
  refine cq [(1, _), (2, _), (3, _), (4, _), (5, _), (6, _), (12, _)] ?_
  refine T.seq fun K5 hK5 => T.region (rq (Qt.ldBA (us := [_, _, _]) 0 ty36 rfl rfl rfl rfl) (rM rfl (rq (Qt.call ent45 rfl fun w2 s => ground_Is_walk g start w2 (Enc.mono s.ext.hp h0) hb1) (rp (Pu.not rfl) (rM rfl ?_)))))
  refine RS.split 31 rfl (fun h31 => ?_) (fun h31 => ?_)
  ·rw [if_pos h31] at H
   refine ro (ro (ro (ro (rp (Pu.pickT rfl rfl) (rA rfl (RS.nil (hK5 _ _ ?_)))))))
   refine T.condT rfl ?_
   refine cq [(12, _)] ?_
   refine T.seq fun K6 hK6 => T.region (rp (Pu.build (cells := [_, _, _]) st52 rfl rfl) (RS.solid (Sd.stB (cs' := [_, _, _]) 1 ty52 rfl rfl rfl rfl rfl rfl rfl rfl) rfl rfl fun _ => rA rfl (RS.nil (hK6 _ _ ?_))))
   refine T.retTo (by with_reducible ((repeat (first | apply RetTo.seq | apply RetTo.blk)); exact RetTo.refl _)) (Cont.retCT 1 rfl ty52 rfl rfl rfl rfl fun w' s => ?_)
   obtain rfl := sj H
   exact ⟨((none, 0), (none, 0)), rfl, ((s.nilRow (α := Int) 3).nilRow (α := Int) 3).pick [2, 3] (by decide) rfl⟩
  ·rw [if_neg (by rw [h31]; simp)] at H
   obtain ⟨b2, hb2, H⟩ := bindE H
   refine rq (Qt.ldBA (us := [_, _, _]) 0 ty36 rfl rfl rfl rfl) (rM rfl (rq (Qt.call ent45 rfl fun w2 s => ground_Is_walk g goal w2 (Enc.mono s.ext.hp h0) hb2) (rp (Pu.not rfl) (rp (Pu.pickF rfl rfl) (rA rfl (RS.nil (hK5 _ _ ?_)))))))
   refine T.cond rfl (fun hc26 => ?_) (fun hc26 => ?_)
   ·rw [if_pos hc26] at H
    refine cq [(12, _)] ?_
    refine T.seq fun K7 hK7 => T.region (rp (Pu.build (cells := [_, _, _]) st52 rfl rfl) (RS.solid (Sd.stB (cs' := [_, _, _]) 1 ty52 rfl rfl rfl rfl rfl rfl rfl rfl) rfl rfl fun _ => rA rfl (RS.nil (hK7 _ _ ?_))))
    refine T.retTo (by with_reducible ((repeat (first | apply RetTo.seq | apply RetTo.blk)); exact RetTo.refl _)) (Cont.retCT 1 rfl ty52 rfl rfl rfl rfl fun w' s => ?_)
    obtain rfl := sj H
    exact ⟨((none, 0), (none, 0)), rfl, ((s.nilRow (α := Int) 3).nilRow (α := Int) 3).pick [2, 3] (by decide) rfl⟩
   ·rw [if_neg (by rw [hc26]; simp)] at H
    obtain ⟨n, hn, H⟩ := bindE H
    obtain ⟨gs, H⟩ := gdE H
    obtain ⟨gg, H⟩ := gdE H
    refine T.skip (hK2 _ _ (cq [(1, _), (2, _), (3, _), (4, _), (5, _), (6, _), (12, _)] ?_))
    refine T.seq fun K8 hK8 => T.region (rq (Qt.ldBA (us := [_, _, _]) 0 ty36 rfl rfl rfl rfl) (rM rfl (rM rfl (rM rfl (RS.solid (Sd.callN ent55 rfl (fun w2 s => field_Open_walk g l cls size w2 (Enc.mono s.ext.hp h0) (Enc.mono s.ext.hp h1) hn)) rfl rfl fun q => ?_)))))
    obtain ⟨nb, qf⟩ := q
    dsimp only
    refine rA rfl (RS.nil (hK8 _ _ (cq [(4, _), (5, _), (12, _), (14, _)] ?_)))
    refine T.seq fun K9 hK9 => T.seq fun K10 hK10 => T.region (rM rfl (rp (Pu.nilCheck rfl) (rp (Pu.fieldAddr fd101_2 rfl) (rq (Qt.ldB 2 ty59 rfl rfl rfl) (rM rfl ?_)))))
    refine RS.know (p := ∃ g cap, qf = (some g, cap)) (fun w s => s.row_some (k := 3) rfl (by first | omega | (simp only [len_si, List.length_append, List.length_replicate, List.length_cons, List.length_nil, List.length_map, List.length_take] at *; omega))) ?_
    rintro ⟨g3_qf, cap3_qf, rfl⟩
    refine rp (Pu.indexSl sl59 rfl rfl (by first | omega | (simp only [len_si, List.length_append, List.length_replicate, List.length_cons, List.length_nil, List.length_map, List.length_take] at *; omega))) (rq (Qt.ld0 (α := Bool) (Rd.ofRowN 3 rfl) ty4 rfl rfl (by first | omega | (simp only [len_si, List.length_append, List.length_replicate, List.length_cons, List.length_nil, List.length_map, List.length_take] at *; omega)) (by rintro _ _ rfl; rfl)) (rp (Pu.not rfl) (rM rfl ?_)))
    refine RS.split 51 rfl (fun h51 => ?_) (fun h51 => ?_)
    ·rw [if_pos (.inl h51)] at H
     refine ro (ro (ro (ro (ro (ro (ro (ro (rp (Pu.pickT rfl rfl) (RS.nil (hK10 _ _ ?_))))))))))
     refine T.condT rfl ?_
     refine cq [(12, _)] ?_
     refine T.seq fun K11 hK11 => T.region (rp (Pu.build (cells := [_, _, _]) st52 rfl rfl) (RS.solid (Sd.stB (cs' := [_, _, _]) 1 ty52 rfl rfl rfl rfl rfl rfl rfl rfl) rfl rfl fun _ => rA rfl (RS.nil (hK11 _ _ ?_))))
     refine T.retTo (by with_reducible ((repeat (first | apply RetTo.seq | apply RetTo.blk)); exact RetTo.refl _)) (Cont.retCT 1 rfl ty52 rfl rfl rfl rfl fun w' s => ?_)
     obtain rfl := sj H
     exact ⟨((none, 0), (none, 0)), rfl, ((s.nilRow (α := Int) 3).nilRow (α := Int) 3).pick [4, 5] (by decide) rfl⟩
    ·refine rM rfl (rp (Pu.nilCheck rfl) (rp (Pu.fieldAddr fd101_2 rfl) (rq (Qt.ldB 2 ty59 rfl rfl rfl) (rM rfl (rp (Pu.indexSl sl59 rfl rfl (by first | omega | (simp only [len_si, List.length_append, List.length_replicate, List.length_cons, List.length_nil, List.length_map, List.length_take] at *; omega))) (rq (Qt.ld0 (α := Bool) (Rd.ofRowN 3 rfl) ty4 rfl rfl (by first | omega | (simp only [len_si, List.length_append, List.length_replicate, List.length_cons, List.length_nil, List.length_map, List.length_take] at *; omega)) (by rintro _ _ rfl; rfl)) (rp (Pu.not rfl) (rp (Pu.pickF rfl rfl) (RS.nil (hK10 _ _ ?_))))))))))
     refine T.cond rfl (fun hc60 => ?_) (fun hc60 => ?_)
     ·rw [if_pos (.inr hc60)] at H
      refine cq [(12, _)] ?_
      refine T.seq fun K12 hK12 => T.region (rp (Pu.build (cells := [_, _, _]) st52 rfl rfl) (RS.solid (Sd.stB (cs' := [_, _, _]) 1 ty52 rfl rfl rfl rfl rfl rfl rfl rfl) rfl rfl fun _ => rA rfl (RS.nil (hK12 _ _ ?_))))
      refine T.retTo (by with_reducible ((repeat (first | apply RetTo.seq | apply RetTo.blk)); exact RetTo.refl _)) (Cont.retCT 1 rfl ty52 rfl rfl rfl rfl fun w' s => ?_)
      obtain rfl := sj H
      exact ⟨((none, 0), (none, 0)), rfl, ((s.nilRow (α := Int) 3).nilRow (α := Int) 3).pick [4, 5] (by decide) rfl⟩
     ·rw [if_neg (fun h => h.elim (fun h => by rw [h51] at h; cases h) (fun h => by rw [hc60] at h; cases h))] at H
      obtain ⟨x, hx, H⟩ := bindE H
      obtain ⟨e, he, H⟩ := bindE H
      refine T.skip (hK9 _ _ (cq [(4, _), (5, _), (12, _), (14, _)] ?_))
      refine T.seq fun K13 hK13 => ?_
      have hgn : n.g = g := by
       unfold field_Open at hn
       obtain ⟨y, _, hn⟩ := bindE hn
       cases hn; rfl
      have hr0 : R (hpOf w) n.g.tiles [v0] := by rw [hgn]; exact h0
      refine T.exP (fun w s => s.newArena) fun hA0 _ => ?_
      refine T.exP (fun w s => s.absorb 4 2 rfl rfl (by decide)) fun hA1 hz1 => ?_
      refine T.exP (fun w s => s.absorb 4 3 rfl rfl (by decide)) fun hA2 hz2 => ?_
      obtain ⟨l1, p1, hp1, k1⟩ := hz1
      obtain ⟨l2, p2, hp2, k2⟩ := hz2
      refine T.weakS (S' := Sat w ([fz hA2] ++ [blk b6 [.int .i64 g.w, .int .i64 g.h, v0] 36, blk b12 [.int .i64 0, .slice none 0 0, .slice none 0 0] 52])) (fun w s => s.pick [4, 0, 1] (by decide) rfl) ?_
      refine T.region (rM rfl (RS.solid (Sd.call ent56 rfl (fun w2 s => callFx (A := [_]) (B := [_, _]) (fun w2 s => fresh_walk (l2 _ _ (k1 _ _ hp1)) hr0 (Enc.mono k2 (row_R hp2)) hx w2 s) s)) rfl rfl fun z => ?_))
      obtain ⟨m, qM⟩ := z
      dsimp only
      refine rA rfl (RS.nil (hK13 _ _ (cq [(4, _), (5, _), (12, _), (15, _)] ?_)))
      refine T.seq fun K14 hK14 => T.region (rM rfl (rM rfl (rM rfl (RS.solid (Sd.call ent57 rfl (fun w2 s => callFx (A := [_, _, _]) (B := [_, _]) (fun w2 s => mx_find_walk (Hp.le_refl _) qM he w2 s) s)) rfl rfl fun z => ?_))))
      obtain ⟨⟨qM2, hS, pb, cb⟩, hLB⟩ := z
      dsimp only at hLB ⊢
      refine rM rfl (rp (Pu.extract rfl rfl) (rp (Pu.extract rfl rfl) (RS.solid (Sd.alloc zr105 rfl) rfl rfl fun b16 => RS.solid (Sd.stB (cs' := [_, _]) 6 ty105 rfl rfl rfl rfl rfl rfl rfl rfl) rfl rfl fun _ => rA rfl (RS.nil (hK14 _ _ (cq [(4, _), (12, _), (15, _), (16, _), (17, _)] ?_))))))
      refine T.seq fun K15 hK15 => T.seq fun K16 hK16 => T.region (rM rfl (rp (Pu.not rfl) (RS.nil (hK16 _ _ ?_))))
      refine T.cond rfl (fun hc72 => ?_) (fun hc72 => ?_)
      ·rw [if_pos hc72] at H
       refine cq [(12, _)] ?_
       refine T.seq fun K17 hK17 => T.region (rp (Pu.build (cells := [_, _, _]) st52 rfl rfl) (RS.solid (Sd.stB (cs' := [_, _, _]) 5 ty52 rfl rfl rfl rfl rfl rfl rfl rfl) rfl rfl fun _ => rA rfl (RS.nil (hK17 _ _ ?_))))
       refine T.retTo (by with_reducible ((repeat (first | apply RetTo.seq | apply RetTo.blk)); exact RetTo.refl _)) (Cont.retCT 5 rfl ty52 rfl rfl rfl rfl fun w' s => ?_)
       obtain rfl := sj H
       exact ⟨((none, 0), (none, 0)), rfl, ((s.nilRow (α := Int) 3).nilRow (α := Int) 3).pick [7, 8] (by decide) rfl⟩
      ·rw [if_neg (by rw [hc72]; simp)] at H
       obtain ⟨sl, hsl, H⟩ := bindE H
       refine T.skip (hK15 _ _ (cq [(4, _), (12, _), (15, _), (16, _)] ?_))
       refine T.seq fun K18 hK18 => ?_
       refine T.drawn (fun _ => True) [(0, .pu), (1, .rd), (2, .pu), (3, .rd), (4, .pu), (5, .pu), (6, .pu), (7, .rd), (8, .so), (9, .pu), (10, .br), (11, .pu)] mixed (ClE.sat _ _) (by kernel_rfl) ?_
       refine dp rfl (Pu.fieldAddr fd105_0 rfl) (dq rfl (Qt.ldB 6 ty3 rfl rfl rfl) (dp rfl (Pu.fieldAddr fd105_1 rfl) (dq rfl (Qt.ldB 6 ty23 rfl rfl rfl) (dp rfl (Pu.move rfl) (dp rfl (Pu.move rfl) (dp rfl (Pu.fieldAddr fd105_1 rfl) (dq rfl (Qt.ldB 6 ty23 rfl rfl rfl) (RD.solid rfl (.inl rfl) rfl rfl (Sd.callN ent58 rfl (fun w s => route_maze_sectors_walk x.z start e.1.l w (Held.fz 2 rfl w s _ _ qM2.b1) (Held.fz 2 rfl w s _ _ qM2.b2) (Enc.mono s.ext.hp qM2.r0) (Enc.mono (Held.fz 2 rfl w s) qM2.r1) (Enc.mono (Held.fz 2 rfl w s) qM2.r2) (Enc.mono (Held.fz 3 rfl w s) hLB.toR) hsl)) (fun _ => ClE.sat _ _) (fun _ _ _ => trivial) (fun _ _ _ s => s.drop1) fun qs => ?_))))))))
       refine dp rfl (Pu.build (cells := [_, _, _]) st52 rfl rfl) (RD.solid rfl (.inr rfl) rfl rfl (Sd.stB (cs' := [_, _, _]) 5 ty52 rfl rfl rfl rfl rfl rfl rfl rfl) (fun _ => ClE.sat _ _) (fun _ _ _ => trivial) (fun h => nomatch h) fun _ => ?_)
       refine dp rfl (Pu.assign rfl) (RD.nil (hK18 _ _ (cq [(12, _), (13, _)] ?_)))
       refine T.retTo (by with_reducible ((repeat (first | apply RetTo.seq | apply RetTo.blk)); exact RetTo.refl _)) (Cont.retCT 5 rfl ty52 rfl rfl rfl rfl fun w' s => ?_)
       obtain rfl := sj H
       obtain ⟨qb, hqb, hrow⟩ := hLB
       exact ⟨(qb, qs), by rw [hqb], (s.weaken 3 rfl (row nilH 3 (rowV qb e.1.l.length) e.1.l) (fun p hp => by have hp : p = hS := hp; subst hp; exact hrow)).pick [3, 7] (by decide) rfl⟩
end Go.Proofs.YthdbofgcckjopaaGreat
