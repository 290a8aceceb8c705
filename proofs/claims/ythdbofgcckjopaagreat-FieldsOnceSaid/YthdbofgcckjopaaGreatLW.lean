/-
  The walk of fields.Ways: a field is reckoned once, as long as it is kept.
-/
import Derived.Test.YthdbofgcckjopaaGreatRows
import Derived.Test.YthdbofgcckjopaaGreatW3
import Derived.Test.YthdbofgcckjopaaGreatW6
set_option linter.unusedVariables false
set_option linter.unusedSimpArgs false
set_option maxRecDepth 20000
set_option maxHeartbeats 4000000
namespace Go.Proofs.YthdbofgcckjopaaGreat
open Go.Vg
open Enc (R)
theorem ent76 : Ent Tryz.prog 76 := ⟨_, _, Tryz.func76, by kernel_rfl, rfl⟩
theorem ent78 : Ent Tryz.prog 78 := ⟨_, _, Tryz.func78, by kernel_rfl, rfl⟩
theorem ent79 : Ent Tryz.prog 79 := ⟨_, _, Tryz.func79, by kernel_rfl, rfl⟩
theorem ent83 : Ent Tryz.prog 83 := ⟨_, _, Tryz.func83, by kernel_rfl, rfl⟩
theorem fd142_0 : fdOff Tryz.prog 142 0 = some 0 := by kernel_rfl
theorem fd142_1 : fdOff Tryz.prog 142 1 = some 3 := by kernel_rfl
theorem fd79_7 : fdOff Tryz.prog 79 7 = some 9 := by kernel_rfl
theorem st142 : stTy Tryz.prog 142 = some ([.int .u32 0, .int .i32 0, .int .u32 0, .slice none 0 0], [(0, 3), (3, 1)]) := by kernel_rfl
theorem ty130 : tySz Tryz.prog 130 = some (1, false) := by kernel_rfl
theorem zr130 : zeroOf Tryz.prog 130 = some (.pointer none) := by kernel_rfl
theorem zr98 : zeroOf Tryz.prog 98 = some (.pointer none) := by kernel_rfl
theorem rdStars {w0 : World} {α : Type} [Enc α] {L : List Ch} (jj : Nat) {D : Ch} (hj : L[jj]? = some D) {x : α} {cs : List Value} (h : Rd (Sat w0 [D]) x cs) : Rd (Sat w0 [stars L]) x cs := fun w s => h w (Sat.pick (Sat.unstars L (G := []) s) [jj] (by simp) (by simp [hj]))
theorem fields_Net_walk {w0 : World} {F : Ch} (g0 : Nat) (x : Fld) (g : Grd) (l : List Bld) (cls size : Int) {v0 v1 : Value} (h0 : Rd (Sat w0 [F]) g.tiles [v0]) (h1 : Rd (Sat w0 [F]) l [v1]) {r : Net × Fld} (H : fields_Net x g l cls size = some r) (w : World) (s : Sat w0 [Fld_ch g0 x, F] w) : Calls Tryz.prog 76 #[.pointer (some ⟨g0, 0, none⟩), .agg #[.int .i64 g.w, .int .i64 g.h, v0], v1, .int .i64 cls, .int .i64 size] w fun e w' => ∃ z : {z : FldIn r.2 × Nat // NetB z.1.hA z.2 r.1}, e = .returned (.pointer (some ⟨z.1.2, 0, none⟩)) ∧ Sat w0 ([blk g0 [.pointer (some ⟨z.1.1.gc, 0, none⟩), .int .i64 r.2.made, .bool r.2.has, .int .i64 r.2.g.w, .int .i64 r.2.g.h, z.1.1.tv, z.1.1.lv, .map (some z.1.1.gn), .map (some z.1.1.gw), .int .i64 r.2.count] 79, Cach_ch z.1.1.gc r.2.c, mapL z.1.1.gn (raw z.1.1.N), mapL z.1.1.gw (raw z.1.1.W), fz z.1.1.hA] ++ [F]) w' := by
 unfold fields_Net at H
 obtain ⟨x1, H1, H⟩ := bindE H
 obtain ⟨g1, H⟩ := gdE H
 obtain ⟨g2, H⟩ := gdE H
 cases hk : kget x1.nets (4 * cls + size) with
 | some n =>
  rw [hk] at H
  obtain rfl := sj H
  exact net_done_walk g0 x g l cls size h0 h1 H1 g1 g2 hk w s
 | none =>
  rw [hk] at H
  obtain ⟨n, H2, H⟩ := bindE H
  obtain rfl := sj H
  exact net_new_walk g0 x g l cls size h0 h1 H1 g1 g2 hk H2 w s
theorem fields_Net_g {x : Fld} {g : Grd} {l : List Bld} {cls size : Int} {r : Net × Fld} (H : fields_Net x g l cls size = some r) : I64 (4 * cls) ∧ I64 (4 * cls + size) := by
 unfold fields_Net at H
 obtain ⟨x1, H1, H⟩ := bindE H
 obtain ⟨g1, H⟩ := gdE H
 obtain ⟨g2, H⟩ := gdE H
 exact ⟨g1, g2⟩
theorem sweep_both {W : List (Int × (Nat × List Int))} {c : Cach} {L : List (Int × List Int)} {z : Cach × List (Int × List Int)} (h : sweepF c L = some z) (e : L = abs W) : ∃ u : Cach × List (Int × (Nat × List Int)), sweepF c (raw W) = some (u.1, raw u.2) ∧ z = (u.1, abs u.2) ∧ ∀ e ∈ u.2, e ∈ W := by
 subst e
 unfold abs at h
 rw [sweepF_map] at h
 obtain ⟨u, h1, h2⟩ := Option.map_eq_some_iff.1 h
 exact ⟨u, by unfold raw; rw [sweepF_map, h1]; rfl, h2.symm, sweepF_mem h1⟩
theorem way1_walk {w0 : World} {F : Ch} (bx gF b6 b13 b11 b17 nb : Nat) (hA : Hp) (n : Net) (made goal : Int) {d : List Int} (H : field_Net_Toward n goal = some d) (g1 : I64 (made + 1)) (hn : NetB hA nb n) {sv c0 hs W Hh tv lv mv nv k : Value} (w : World) (s : Sat w0 [blk bx [.int .u32 0, .int .i32 1, sv, .slice none 0 0] 142, blk gF [c0, .int .i64 made, hs, W, Hh, tv, lv, mv, nv, k] 79, blk b6 [.pointer (some ⟨gF, 0, none⟩)] 27, blk b13 [.pointer (some ⟨nb, 0, none⟩)] 98, blk b11 [.int .i64 goal] 3, blk b17 [.pointer (some ⟨bx, 0, none⟩)] 130, fz hA, F] w) : Calls Tryz.prog 81 #[.pointer (some ⟨b6, 0, none⟩), .pointer (some ⟨b13, 0, none⟩), .pointer (some ⟨b11, 0, none⟩), .pointer (some ⟨b17, 0, none⟩)] w fun e w' => e = .returned (.tuple #[]) ∧ ∃ p : Option Nat × Nat, Sat w0 [blk bx [.int .u32 0, .int .i32 1, sv, rowV p d.length] 142, blk gF [c0, .int .i64 (made + 1), hs, W, Hh, tv, lv, mv, nv, k] 79, blk b6 [.pointer (some ⟨gF, 0, none⟩)] 27, blk b13 [.pointer (some ⟨nb, 0, none⟩)] 98, blk b11 [.int .i64 goal] 3, blk b17 [.pointer (some ⟨bx, 0, none⟩)] 130, fz hA, row nilH 3 (rowV p d.length) d, F] w' := by
 refine T.enter (args := [_, _, _, _]) (S := Sat w0 [blk bx [.int .u32 0, .int .i32 1, sv, .slice none 0 0] 142, blk gF [c0, .int .i64 made, hs, W, Hh, tv, lv, mv, nv, k] 79, blk b6 [.pointer (some ⟨gF, 0, none⟩)] 27, blk b13 [.pointer (some ⟨nb, 0, none⟩)] 98, blk b11 [.int .i64 goal] 3, blk b17 [.pointer (some ⟨bx, 0, none⟩)] 130, fz hA, F]) Tryz.func81 rfl rfl (s) ?_
 obtain ⟨v0, v1, a, b, c⟩ := hn
 refine T.seq fun K1 hK1 => T.region (rq (Qt.ldB 2 ty27 rfl rfl rfl) (rp (Pu.nilCheck rfl) (rp (Pu.fieldAddr fd79_1 rfl) (RS.solid (Sd.callF0 1 ent82 rfl rfl (fun w s => atomicAdd_walk (cs' := [_, _, _, _, _, _, _, _, _, _]) s rfl g1 rfl)) rfl rfl fun _ => RS.nil (hK1 _ _ (cq [(1, _), (2, _), (3, _)] ?_))))))
 refine T.drawn (fun _ => True) [(0, .rd), (1, .rd), (2, .rd), (3, .so), (4, .pu), (5, .pu), (6, .br)] mixed (ClE.sat _ _) (by kernel_rfl) ?_
 refine dq rfl (Qt.ldB 5 ty130 rfl rfl rfl) (dq rfl (Qt.ldB 3 ty98 rfl rfl rfl) (dq rfl (Qt.ldB 4 ty3 rfl rfl rfl) (RD.solid rfl (.inl rfl) rfl rfl (Sd.callN ent83 rfl (fun w s => field_Net_Toward_walk n goal w (Held.fz 6 rfl w s _ _ a) (Rd.ofFz 6 rfl b w s) (Rd.ofFz 6 rfl c w s) H)) (fun _ => ClE.sat _ _) (fun _ _ _ => trivial) (fun _ _ _ s => s.drop1) fun p => ?_)))
 refine dp rfl (Pu.nilCheck rfl) (dp rfl (Pu.fieldAddr fd142_1 rfl) (RD.solid rfl (.inr rfl) rfl rfl (Sd.stB (cs' := [_, _, _, _]) 0 ty23 rfl rfl rfl rfl rfl rfl rfl rfl) (fun _ => ClE.sat _ _) (fun _ _ _ => trivial) (fun h => nomatch h) fun _ => ?_))
 refine RD.nil (Cont.end0 rfl fun w' s => ?_)
 exact ⟨rfl, p, s.pick [0, 1, 2, 3, 4, 5, 6, 8, 7] (by decide) rfl⟩
theorem way_do {w0 : World} {F : Ch} (bx gF b6 b13 b11 b17 nb : Nat) (hA : Hp) (n : Net) (made goal : Int) {d : List Int} (H : field_Net_Toward n goal = some d) (g1 : I64 (made + 1)) (hn : NetB hA nb n) {sv c0 hs W Hh tv lv mv nv k : Value} (w : World) (s : Sat w0 [blk bx [.int .u32 0, .int .i32 0, sv, .slice none 0 0] 142, blk gF [c0, .int .i64 made, hs, W, Hh, tv, lv, mv, nv, k] 79, blk b6 [.pointer (some ⟨gF, 0, none⟩)] 27, blk b13 [.pointer (some ⟨nb, 0, none⟩)] 98, blk b11 [.int .i64 goal] 3, blk b17 [.pointer (some ⟨bx, 0, none⟩)] 130, fz hA, F] w) :
  Calls Tryz.prog 80 #[.pointer (some ⟨bx, 0, none⟩), .func (.func 81) #[] #[.pointer (some ⟨b6, 0, none⟩), .pointer (some ⟨b13, 0, none⟩), .pointer (some ⟨b11, 0, none⟩), .pointer (some ⟨b17, 0, none⟩)]] w fun e w' => ∃ p : Option Nat × Nat, e = .returned (.tuple #[]) ∧ Sat w0 ([blk bx [.int .u32 1, .int .i32 0, sv, rowV p d.length] 142, blk gF [c0, .int .i64 (made + 1), hs, W, Hh, tv, lv, mv, nv, k] 79, blk b6 [.pointer (some ⟨gF, 0, none⟩)] 27, blk b13 [.pointer (some ⟨nb, 0, none⟩)] 98, blk b11 [.int .i64 goal] 3, blk b17 [.pointer (some ⟨bx, 0, none⟩)] 130, fz hA, row nilH 3 (rowV p d.length) d] ++ [F]) w' := by
 refine (once_81 ⟨b6, 0, none⟩ ⟨b13, 0, none⟩ ⟨b11, 0, none⟩ ⟨b17, 0, none⟩ s (k := 0) rfl (fun p : Option Nat × Nat => [blk bx [.int .u32 0, .int .i32 1, sv, rowV p d.length] 142, blk gF [c0, .int .i64 (made + 1), hs, W, Hh, tv, lv, mv, nv, k] 79, blk b6 [.pointer (some ⟨gF, 0, none⟩)] 27, blk b13 [.pointer (some ⟨nb, 0, none⟩)] 98, blk b11 [.int .i64 goal] 3, blk b17 [.pointer (some ⟨bx, 0, none⟩)] 130, fz hA, row nilH 3 (rowV p d.length) d, F]) (fun p => [sv, rowV p d.length]) (fun _ => rfl) (fun w1 s1 => way1_walk bx gF b6 b13 b11 b17 nb hA n made goal H g1 hn w1 s1)).mono ?_
 rintro e w' ⟨he, p, s'⟩
 exact ⟨p, he, s'⟩
theorem ways_there {w0 : World} {F : Ch} (g0 : Nat) (x : Fld) (g : Grd) (l : List Bld) (cls size goal : Int) {v0 v1 : Value} (h0 : Rd (Sat w0 [F]) g.tiles [v0]) (h1 : Rd (Sat w0 [F]) l [v1]) {n : Net} {x2 : Fld} (H1 : fields_Net x g l cls size = some (n, x2)) (g3 : I64 ((4 * cls + size) * 128)) (g4 : I64 ((4 * cls + size) * 128 * 128)) (g5 : I64 ((4 * cls + size) * 128 * 128 + goal)) {kz : Int} {c2 : Cach} (H2 : cache_Cache_Get x2.c ((4 * cls + size) * 128 * 128 + goal) = some (kz, true, c2)) {d : List Int} (H3 : kget x2.ways kz = some d) (w : World) (s : Sat w0 [Fld_ch g0 x, F] w) : Calls Tryz.prog 47 #[.pointer (some ⟨g0, 0, none⟩), .agg #[.int .i64 g.w, .int .i64 g.h, v0], v1, .int .i64 cls, .int .i64 size, .int .i64 goal] w fun e w' => ∃ z : {z : FldIn (⟨c2, x2.made, x2.has, x2.g, x2.l, x2.nets, x2.ways, x2.count⟩ : Fld) × Value // R z.1.hA d [z.2]}, e = .returned z.1.2 ∧ Sat w0 ([blk g0 [.pointer (some ⟨z.1.1.gc, 0, none⟩), .int .i64 (⟨c2, x2.made, x2.has, x2.g, x2.l, x2.nets, x2.ways, x2.count⟩ : Fld).made, .bool (⟨c2, x2.made, x2.has, x2.g, x2.l, x2.nets, x2.ways, x2.count⟩ : Fld).has, .int .i64 (⟨c2, x2.made, x2.has, x2.g, x2.l, x2.nets, x2.ways, x2.count⟩ : Fld).g.w, .int .i64 (⟨c2, x2.made, x2.has, x2.g, x2.l, x2.nets, x2.ways, x2.count⟩ : Fld).g.h, z.1.1.tv, z.1.1.lv, .map (some z.1.1.gn), .map (some z.1.1.gw), .int .i64 (⟨c2, x2.made, x2.has, x2.g, x2.l, x2.nets, x2.ways, x2.count⟩ : Fld).count] 79, Cach_ch z.1.1.gc (⟨c2, x2.made, x2.has, x2.g, x2.l, x2.nets, x2.ways, x2.count⟩ : Fld).c, mapL z.1.1.gn (raw z.1.1.N), mapL z.1.1.gw (raw z.1.1.W), fz z.1.1.hA] ++ [F]) w' := by
 refine T.enter (args := [_, _, _, _, _, _]) (S := Sat w0 [Fld_ch g0 x, F]) Tryz.func47 rfl rfl (s) ?_
 obtain ⟨g1, g2⟩ := fields_Net_g H1
 refine T.seq fun K1 hK1 => T.region (RS.solid (Sd.box (cs := [_]) rfl rfl) rfl rfl fun b6 => RS.solid (Sd.box (cs := [_, _, _]) rfl rfl) rfl rfl fun b7 => RS.solid (Sd.box (cs := [_]) rfl rfl) rfl rfl fun b11 => rA rfl (RS.nil (hK1 _ _ (cq [(2, _), (3, _), (4, _), (6, _), (7, _), (11, _)] ?_))))
 refine T.seq fun K2 hK2 => T.region (rq (Qt.ldB 2 ty27 rfl rfl rfl) (rq (Qt.ldBA (us := [_, _, _]) 3 ty36 rfl rfl rfl rfl) (rM rfl (rM rfl (rM rfl (RS.solid (Sd.call ent76 rfl (fun w s => callFr (A := [Fld_ch g0 x]) (B := [F, _, _, _]) (fun w s => fields_Net_walk g0 x g l cls size (rdStars 0 rfl h0) (rdStars 0 rfl h1) H1 w s) s)) rfl rfl fun z => ?_))))))
 obtain ⟨⟨q, nb⟩, hnb⟩ := z
 refine RS.weakS (fun w s => Sat.pick (G' := [blk g0 [.pointer (some ⟨q.gc, 0, none⟩), .int .i64 x2.made, .bool x2.has, .int .i64 x2.g.w, .int .i64 x2.g.h, q.tv, q.lv, .map (some q.gn), .map (some q.gw), .int .i64 x2.count] 79, Cach_ch q.gc x2.c, mapL q.gn (raw q.N), mapL q.gw (raw q.W), fz q.hA, F, blk b6 [.pointer (some ⟨g0, 0, none⟩)] 27, blk b7 [.int .i64 g.w, .int .i64 g.h, v0] 36, blk b11 [.int .i64 goal] 3]) s [0, 1, 2, 3, 4, 5, 6, 7, 8] (by decide) rfl) ?_
 refine RS.solid (Sd.alloc zr98 rfl) rfl rfl fun b13 => RS.solid (Sd.stB (cs' := [_]) 9 ty98 rfl rfl rfl rfl rfl rfl rfl rfl) rfl rfl fun _ => RS.nil (hK2 _ _ (cq [(3, _), (4, _), (6, _), (11, _), (13, _)] ?_))
 refine T.seq fun K3 hK3 => T.region (rM rfl (rp (Pu.mulS rfl rfl g1) (rM rfl (rp (Pu.addS rfl rfl g2) (rp (Pu.mulS rfl rfl g3) (rp (Pu.mulS rfl rfl g4) (rq (Qt.ldB 8 ty3 rfl rfl rfl) (rp (Pu.addS rfl rfl g5) (rA rfl (RS.nil (hK3 _ _ (cq [(6, _), (11, _), (13, _), (14, _)] ?_))))))))))))
 refine T.seq fun K4 hK4 => T.region (rq (Qt.ldB 6 ty27 rfl rfl rfl) (rp (Pu.nilCheck rfl) (rp (Pu.fieldAddr fd79_0 rfl) (rq (Qt.ldB 0 ty68 rfl rfl rfl) (rM rfl (RS.solid (Sd.callF0 1 ent77 rfl rfl (fun w s => cache_Cache_Get_walk q.gc x2.c _ H2 w s)) rfl rfl fun _ => rM rfl (rp (Pu.extract rfl rfl) (rp (Pu.extract rfl rfl) (rA rfl (rA rfl (RS.nil (hK4 _ _ (cq [(6, _), (11, _), (13, _), (14, _), (15, _), (16, _)] ?_)))))))))))))
 refine T.seq fun K5 hK5 => T.seq fun K6 hK6 => T.region (rM rfl (rp (Pu.not rfl) (RS.nil (hK6 _ _ ?_))))
 refine T.cond rfl (fun hc42 => ?_) (fun hc42 => ?_)
 ·cases hc42 -- end
 ·refine T.skip (hK5 _ _ (cq [(6, _), (11, _), (13, _), (15, _)] ?_))
  refine T.seq fun K7 hK7 => ?_
  obtain ⟨z, hz, hzd⟩ := abs_get (q.hW ▸ H3)
  obtain ⟨sv, v, a1, a2⟩ := q.aW _ (kget_mem hz)
  refine T.region (rq (Qt.ldB 6 ty27 rfl rfl rfl) (rp (Pu.nilCheck rfl) (rp (Pu.fieldAddr fd79_6 rfl) (rq (Qt.ldB 0 ty77 rfl rfl rfl) (rM rfl (rq (Qt.lookP 3 (raw_get hz _) mpz77 rfl rfl rfl) (RS.solid (Sd.alloc zr130 rfl) rfl rfl fun b17 => RS.solid (Sd.stB (cs' := [_]) 10 ty130 rfl rfl rfl rfl rfl rfl rfl rfl) rfl rfl fun _ => RS.nil (hK7 _ _ (cq [(6, _), (11, _), (13, _), (17, _)] ?_)))))))))
  refine T.seq fun K8 hK8 => T.region (rq (Qt.ldB 10 ty130 rfl rfl rfl) (rp (Pu.nilCheck rfl) (rp (Pu.fieldAddr fd142_0 rfl) (rp (Pu.makeFunc (cs := [_, _, _, _]) rfl) (rq (Qt.call ent80 rfl fun w s => (do_done ⟨z.1, 0, none⟩ _ w (cellOf (Held.fz 4 rfl w s _ _ a1) rfl)).mono fun e w' ⟨he, hw⟩ => ⟨he, hw ▸ Ext.refl w⟩) (RS.nil (hK8 _ _ (cq [(17, _)] ?_))))))))
  refine T.seq fun K9 hK9 => T.region (rq (Qt.ldB 10 ty130 rfl rfl rfl) (rp (Pu.nilCheck rfl) (rp (Pu.fieldAddr fd142_1 rfl) (rq (Qt.ldH 4 rfl ty23 rfl a1 rfl) (rA rfl (RS.nil (hK9 _ _ (cq [(12, _)] ?_))))))))
  refine T.retTo (by with_reducible ((repeat (first | apply RetTo.seq | apply RetTo.blk)); exact RetTo.refl _)) (Cont.ret1 rfl rfl fun w' s => ?_)
  subst hzd
  exact ⟨⟨(⟨q.gc, q.gn, q.gw, q.tv, q.lv, q.hA, q.N, q.W, q.hN, q.hW, q.aN, q.aW, q.rt, q.rl⟩, v), a2⟩, rfl, s.pick [0, 1, 2, 3, 4, 5] (by decide) rfl⟩
theorem ways_new {w0 : World} {F : Ch} (g0 : Nat) (x : Fld) (g : Grd) (l : List Bld) (cls size goal : Int) {v0 v1 : Value} (h0 : Rd (Sat w0 [F]) g.tiles [v0]) (h1 : Rd (Sat w0 [F]) l [v1]) {n : Net} {x2 : Fld} (H1 : fields_Net x g l cls size = some (n, x2)) (g3 : I64 ((4 * cls + size) * 128)) (g4 : I64 ((4 * cls + size) * 128 * 128)) (g5 : I64 ((4 * cls + size) * 128 * 128 + goal)) {kz : Int} {c2 : Cach} (H2 : cache_Cache_Get x2.c ((4 * cls + size) * 128 * 128 + goal) = some (kz, false, c2)) (g6 : I64 (x2.count + 1)) (g7 : I64 (x2.made + 1)) {c3 : Cach} (H3 : cache_Cache_Put c2 ((4 * cls + size) * 128 * 128 + goal) (x2.count + 1) = some c3) {d : List Int} (H4 : field_Net_Toward n goal = some d) (H5 : kget x2.ways (x2.count + 1) = none) {c4 : Cach} {W4 : List (Int × List Int)} (H6 : sweepF c3 (kput x2.ways (x2.count + 1) d) = some (c4, W4)) (H7 : (kget W4 (x2.count + 1)).isSome = true) (w : World) (s : Sat w0 [Fld_ch g0 x, F] w) : Calls Tryz.prog 47 #[.pointer (some ⟨g0, 0, none⟩), .agg #[.int .i64 g.w, .int .i64 g.h, v0], v1, .int .i64 cls, .int .i64 size, .int .i64 goal] w fun e w' => ∃ z : {z : FldIn (⟨c4, x2.made + 1, x2.has, x2.g, x2.l, x2.nets, W4, x2.count + 1⟩ : Fld) × Value // R z.1.hA d [z.2]}, e = .returned z.1.2 ∧ Sat w0 ([blk g0 [.pointer (some ⟨z.1.1.gc, 0, none⟩), .int .i64 (⟨c4, x2.made + 1, x2.has, x2.g, x2.l, x2.nets, W4, x2.count + 1⟩ : Fld).made, .bool (⟨c4, x2.made + 1, x2.has, x2.g, x2.l, x2.nets, W4, x2.count + 1⟩ : Fld).has, .int .i64 (⟨c4, x2.made + 1, x2.has, x2.g, x2.l, x2.nets, W4, x2.count + 1⟩ : Fld).g.w, .int .i64 (⟨c4, x2.made + 1, x2.has, x2.g, x2.l, x2.nets, W4, x2.count + 1⟩ : Fld).g.h, z.1.1.tv, z.1.1.lv, .map (some z.1.1.gn), .map (some z.1.1.gw), .int .i64 (⟨c4, x2.made + 1, x2.has, x2.g, x2.l, x2.nets, W4, x2.count + 1⟩ : Fld).count] 79, Cach_ch z.1.1.gc (⟨c4, x2.made + 1, x2.has, x2.g, x2.l, x2.nets, W4, x2.count + 1⟩ : Fld).c, mapL z.1.1.gn (raw z.1.1.N), mapL z.1.1.gw (raw z.1.1.W), fz z.1.1.hA] ++ [F]) w' := by
 refine T.enter (args := [_, _, _, _, _, _]) (S := Sat w0 [Fld_ch g0 x, F]) Tryz.func47 rfl rfl (s) ?_
 obtain ⟨g1, g2⟩ := fields_Net_g H1
 refine T.seq fun K1 hK1 => T.region (RS.solid (Sd.box (cs := [_]) rfl rfl) rfl rfl fun b6 => RS.solid (Sd.box (cs := [_, _, _]) rfl rfl) rfl rfl fun b7 => RS.solid (Sd.box (cs := [_]) rfl rfl) rfl rfl fun b11 => rA rfl (RS.nil (hK1 _ _ (cq [(2, _), (3, _), (4, _), (6, _), (7, _), (11, _)] ?_))))
 refine T.seq fun K2 hK2 => T.region (rq (Qt.ldB 2 ty27 rfl rfl rfl) (rq (Qt.ldBA (us := [_, _, _]) 3 ty36 rfl rfl rfl rfl) (rM rfl (rM rfl (rM rfl (RS.solid (Sd.call ent76 rfl (fun w s => callFr (A := [Fld_ch g0 x]) (B := [F, _, _, _]) (fun w s => fields_Net_walk g0 x g l cls size (rdStars 0 rfl h0) (rdStars 0 rfl h1) H1 w s) s)) rfl rfl fun z => ?_))))))
 obtain ⟨⟨q, nb⟩, hnb⟩ := z
 refine RS.weakS (fun w s => Sat.pick (G' := [blk g0 [.pointer (some ⟨q.gc, 0, none⟩), .int .i64 x2.made, .bool x2.has, .int .i64 x2.g.w, .int .i64 x2.g.h, q.tv, q.lv, .map (some q.gn), .map (some q.gw), .int .i64 x2.count] 79, Cach_ch q.gc x2.c, mapL q.gn (raw q.N), mapL q.gw (raw q.W), fz q.hA, F, blk b6 [.pointer (some ⟨g0, 0, none⟩)] 27, blk b7 [.int .i64 g.w, .int .i64 g.h, v0] 36, blk b11 [.int .i64 goal] 3]) s [0, 1, 2, 3, 4, 5, 6, 7, 8] (by decide) rfl) ?_
 refine RS.solid (Sd.alloc zr98 rfl) rfl rfl fun b13 => RS.solid (Sd.stB (cs' := [_]) 9 ty98 rfl rfl rfl rfl rfl rfl rfl rfl) rfl rfl fun _ => RS.nil (hK2 _ _ (cq [(3, _), (4, _), (6, _), (11, _), (13, _)] ?_))
 refine T.seq fun K3 hK3 => T.region (rM rfl (rp (Pu.mulS rfl rfl g1) (rM rfl (rp (Pu.addS rfl rfl g2) (rp (Pu.mulS rfl rfl g3) (rp (Pu.mulS rfl rfl g4) (rq (Qt.ldB 8 ty3 rfl rfl rfl) (rp (Pu.addS rfl rfl g5) (rA rfl (RS.nil (hK3 _ _ (cq [(6, _), (11, _), (13, _), (14, _)] ?_))))))))))))
 refine T.seq fun K4 hK4 => T.region (rq (Qt.ldB 6 ty27 rfl rfl rfl) (rp (Pu.nilCheck rfl) (rp (Pu.fieldAddr fd79_0 rfl) (rq (Qt.ldB 0 ty68 rfl rfl rfl) (rM rfl (RS.solid (Sd.callF0 1 ent77 rfl rfl (fun w s => cache_Cache_Get_walk q.gc x2.c _ H2 w s)) rfl rfl fun _ => rM rfl (rp (Pu.extract rfl rfl) (rp (Pu.extract rfl rfl) (rA rfl (rA rfl (RS.nil (hK4 _ _ (cq [(6, _), (11, _), (13, _), (14, _), (15, _), (16, _)] ?_)))))))))))))
 refine T.seq fun K5 hK5 => T.seq fun K6 hK6 => T.region (rM rfl (rp (Pu.not rfl) (RS.nil (hK6 _ _ ?_))))
 refine T.cond rfl (fun hc42 => ?_) (fun hc42 => ?_)
 ·refine cq [(6, _), (11, _), (13, _), (14, _)] ?_
  refine T.seq fun K7 hK7 => T.region (rq (Qt.ldB 6 ty27 rfl rfl rfl) (rp (Pu.nilCheck rfl) (rp (Pu.fieldAddr fd79_7 rfl) (rq (Qt.ldB 0 ty3 rfl rfl rfl) (rp (Pu.addS rfl rfl g6) (rp (Pu.nilCheck rfl) (rp (Pu.fieldAddr fd79_7 rfl) (RS.solid (Sd.stB (cs' := [_, _, _, _, _, _, _, _, _, _]) 0 ty3 rfl rfl rfl rfl rfl rfl rfl rfl) rfl rfl fun _ => RS.nil (hK7 _ _ (cq [(6, _), (11, _), (13, _), (14, _)] ?_))))))))))
  refine T.seq fun K8 hK8 => T.region (rq (Qt.ldB 6 ty27 rfl rfl rfl) (rp (Pu.nilCheck rfl) (rp (Pu.fieldAddr fd79_7 rfl) (rq (Qt.ldB 0 ty3 rfl rfl rfl) (rA rfl (RS.nil (hK8 _ _ (cq [(6, _), (11, _), (13, _), (14, _), (15, _)] ?_))))))))
  refine T.seq fun K9 hK9 => T.region (rq (Qt.ldB 6 ty27 rfl rfl rfl) (rp (Pu.nilCheck rfl) (rp (Pu.fieldAddr fd79_0 rfl) (rq (Qt.ldB 0 ty68 rfl rfl rfl) (rM rfl (rM rfl (RS.solid (Sd.callF0 1 ent78 rfl rfl (fun w s => cache_Cache_Put_walk q.gc c2 _ _ H3 w s)) rfl rfl fun _ => RS.nil (hK9 _ _ (cq [(6, _), (11, _), (13, _), (15, _)] ?_)))))))))
  refine T.seq fun K10 hK10 => T.region (rq (Qt.ldB 6 ty27 rfl rfl rfl) (rp (Pu.nilCheck rfl) (rp (Pu.fieldAddr fd79_6 rfl) (rq (Qt.ldB 0 ty77 rfl rfl rfl) (rM rfl (rp (Pu.build (cells := [_, _, _, _]) st142 rfl rfl) (RS.solid (Sd.box (cs := [_, _, _, _]) rfl rfl) rfl rfl fun b67 => RS.solid (Sd.mapPut 3 mpz77 rfl rfl rfl rfl) rfl rfl fun _ => RS.nil (hK10 _ _ (cq [(6, _), (11, _), (13, _), (15, _)] ?_)))))))))
  have hk2 : kget q.W (x2.count + 1) = none := abs_none (q.hW ▸ H5)
  obtain ⟨u, hu1, hu2, hu3⟩ := sweep_both (W := kput q.W (x2.count + 1) (b67, d)) H6 (by rw [q.hW]; exact abs_put (b67, d))
  have e4 : c4 = u.1 := congrArg Prod.fst hu2
  have e5 : W4 = abs u.2 := congrArg Prod.snd hu2
  have hmem : ∀ e ∈ u.2, e = (x2.count + 1, (b67, d)) ∨ (e ∈ q.W ∧ e.1 ≠ x2.count + 1) := fun e he => (mem_kput (hu3 e he)).imp id fun h => ⟨h.1, h.2 hk2⟩
  have hz : kget u.2 (x2.count + 1) = some (b67, d) := by
   rw [e5] at H7
   obtain ⟨y, hy⟩ := Option.isSome_iff_exists.1 H7
   obtain ⟨z, hz, _⟩ := abs_get hy
   rcases hmem _ (kget_mem hz) with h | h
   ·rw [hz]; exact congrArg some (Prod.mk.inj h).2
   ·exact absurd rfl h.2
  have e1 := raw_put (L := q.W) (k := x2.count + 1) (b67, d)
  refine T.weakS (S' := Sat w0 [blk g0 [.pointer (some ⟨q.gc, 0, none⟩), .int .i64 x2.made, .bool x2.has, .int .i64 x2.g.w, .int .i64 x2.g.h, q.tv, q.lv, .map (some q.gn), .map (some q.gw), .int .i64 (x2.count + 1)] 79, Cach_ch q.gc c3, mapL q.gn (raw q.N), mapL q.gw (raw (kput q.W (x2.count + 1) (b67, d))), fz q.hA, F, blk b6 [.pointer (some ⟨g0, 0, none⟩)] 27, blk b7 [.int .i64 g.w, .int .i64 g.h, v0] 36, blk b11 [.int .i64 goal] 3, blk b13 [.pointer (some ⟨nb, 0, none⟩)] 98, blk b67 [.int .u32 0, .int .i32 0, .int .u32 0, .slice none 0 0] 142]) (fun w s => by rw [← e1]; exact s) ?_
  refine T.region (rq (Qt.ldB 6 ty27 rfl rfl rfl) (RS.solid (Sd.call ent79 rfl (fun w s => callFr (A := [_, _, _]) (B := [_, _, _, _, _, _, _, _]) (fun w s => sweep_walk g0 q.gc q.gw c3 _ hu1 w s) (s.pick [0, 1, 3, 2, 4, 5, 6, 7, 8, 9, 10] (by decide) rfl))) rfl rfl fun gw2 => RS.nil (hK5 _ _ ?_)))
  refine T.seq fun K11 hK11 => T.region (rq (Qt.ldB 6 ty27 rfl rfl rfl) (rp (Pu.nilCheck rfl) (rp (Pu.fieldAddr fd79_6 rfl) (rq (Qt.ldB 0 ty77 rfl rfl rfl) (rM rfl (rq (Qt.lookP 2 (raw_get hz _) mpz77 rfl rfl rfl) (RS.solid (Sd.alloc zr130 rfl) rfl rfl fun b17 => RS.solid (Sd.stB (cs' := [_]) 11 ty130 rfl rfl rfl rfl rfl rfl rfl rfl) rfl rfl fun _ => RS.nil (hK11 _ _ (cq [(6, _), (11, _), (13, _), (17, _)] ?_)))))))))
  refine T.seq fun K12 hK12 => T.region (rq (Qt.ldB 11 ty130 rfl rfl rfl) (rp (Pu.nilCheck rfl) (rp (Pu.fieldAddr fd142_0 rfl) (rp (Pu.makeFunc (cs := [_, _, _, _]) rfl) (RS.solid (Sd.call ent80 rfl (fun w s => callFr (A := [_, _, _, _, _, _, _]) (B := [_, _, _, _, _]) (fun w s => way_do b67 g0 b6 b13 b11 b17 nb q.hA n x2.made goal H4 g7 hnb w s) (s.pick [10, 0, 6, 9, 8, 11, 4, 1, 2, 3, 5, 7] (by decide) rfl))) rfl rfl fun p => RS.nil (hK12 _ _ (cq [(17, _)] ?_)))))))
  refine T.seq fun K13 hK13 => T.region (rq (Qt.ldB 5 ty130 rfl rfl rfl) (rp (Pu.nilCheck rfl) (rp (Pu.fieldAddr fd142_1 rfl) (rq (Qt.ldB 0 ty23 rfl rfl rfl) (rA rfl (RS.nil (hK13 _ _ (cq [(12, _)] ?_))))))))
  refine T.retTo (by with_reducible ((repeat (first | apply RetTo.seq | apply RetTo.blk)); exact RetTo.refl _)) (Cont.ret1 rfl rfl fun w' s => ?_)
  obtain ⟨hB, ⟨l1, p1, hp1, k1⟩, s⟩ := s.absorb 6 7 rfl rfl (by decide)
  obtain ⟨hC, ⟨l2, p2, hp2, k2⟩, s⟩ := s.absorb 6 0 rfl rfl (by decide)
  have hl : q.hA.le hC := Hp.le_trans l1 l2
  have hd : R hC d [rowV p d.length] := Enc.mono (Hp.le_trans k1 l2) (row_R hp1)
  subst e4 e5
  refine ⟨⟨(⟨q.gc, q.gn, gw2, q.tv, q.lv, hC, q.N, u.2, q.hN, rfl, fun e he => (q.aN e he).mono hl, ?_, Enc.mono hl q.rt, Enc.mono hl q.rl⟩, rowV p d.length), hd⟩, rfl, s.pick [1, 8, 10, 9, 6, 11] (by decide) rfl⟩
  intro e he
  rcases hmem e he with rfl | ⟨he, _⟩
  ·exact ⟨_, _, k2 _ _ hp2, hd⟩
  ·exact (q.aW e he).mono hl
 ·cases hc42 -- end
end Go.Proofs.YthdbofgcckjopaaGreat
