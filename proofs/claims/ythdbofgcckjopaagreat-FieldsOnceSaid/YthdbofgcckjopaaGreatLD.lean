/-
  The walk of fields.Dirs.
-/
import Derived.Test.YthdbofgcckjopaaGreatRows
import Derived.Test.YthdbofgcckjopaaGreatW3
import Derived.Test.YthdbofgcckjopaaGreatLW
set_option linter.unusedVariables false
set_option linter.unusedSimpArgs false
set_option maxRecDepth 20000
set_option maxHeartbeats 4000000
namespace Go.Proofs.YthdbofgcckjopaaGreat
open Go.Vg
open Enc (R)
theorem ent47 : Ent Tryz.prog 47 := ⟨_, _, Tryz.func47, by kernel_rfl, rfl⟩
theorem fields_Ways_walk {w0 : World} {F : Ch} (g0 : Nat) (x : Fld) (g : Grd) (l : List Bld) (cls size goal : Int) {v0 v1 : Value} (h0 : Rd (Sat w0 [F]) g.tiles [v0]) (h1 : Rd (Sat w0 [F]) l [v1]) {r : List Int × Fld} (H : fields_Ways x g l cls size goal = some r) (w : World) (s : Sat w0 [Fld_ch g0 x, F] w) : Calls Tryz.prog 47 #[.pointer (some ⟨g0, 0, none⟩), .agg #[.int .i64 g.w, .int .i64 g.h, v0], v1, .int .i64 cls, .int .i64 size, .int .i64 goal] w fun e w' => ∃ z : {z : FldIn r.2 × Value // R z.1.hA r.1 [z.2]}, e = .returned z.1.2 ∧ Sat w0 ([blk g0 [.pointer (some ⟨z.1.1.gc, 0, none⟩), .int .i64 r.2.made, .bool r.2.has, .int .i64 r.2.g.w, .int .i64 r.2.g.h, z.1.1.tv, z.1.1.lv, .map (some z.1.1.gn), .map (some z.1.1.gw), .int .i64 r.2.count] 79, Cach_ch z.1.1.gc r.2.c, mapL z.1.1.gn (raw z.1.1.N), mapL z.1.1.gw (raw z.1.1.W), fz z.1.1.hA] ++ [F]) w' := by
 unfold fields_Ways at H
 obtain ⟨⟨n, x2⟩, H1, H⟩ := bindE H
 obtain ⟨g3, H⟩ := gdE H
 obtain ⟨g4, H⟩ := gdE H
 obtain ⟨g5, H⟩ := gdE H
 obtain ⟨⟨kz, th, c2⟩, H2, H⟩ := bindE H
 cases th with
 | true =>
  have H := ifT rfl H
  obtain ⟨d, H3, H⟩ := bindE H
  obtain rfl := sj H
  exact ways_there g0 x g l cls size goal h0 h1 H1 g3 g4 g5 H2 H3 w s
 | false =>
  have H := ifB rfl H
  obtain ⟨g6, H⟩ := gdE H
  obtain ⟨g7, H⟩ := gdE H
  obtain ⟨c3, H3, H⟩ := bindE H
  obtain ⟨d, H4, H⟩ := bindE H
  obtain ⟨H5, H⟩ := gdE H
  obtain ⟨⟨c4, W4⟩, H6, H⟩ := bindE H
  obtain ⟨H7, H⟩ := gdE H
  obtain rfl := sj H
  exact ways_new g0 x g l cls size goal h0 h1 H1 g3 g4 g5 H2 g6 g7 H3 H4 H5 H6 H7 w s
theorem fields_Dirs_walk {w0 : World} {F : Ch} (g0 : Nat) (x : Fld) (g : Grd) (l : List Bld) (cls size goal : Int) {v0 v1 : Value} (h0 : Rd (Sat w0 [F]) g.tiles [v0]) (h1 : Rd (Sat w0 [F]) l [v1]) {r : List Int × Int × Fld} (H : fields_Dirs x g l cls size goal = some r) (w : World) (s : Sat w0 [Fld_ch g0 x, F] w) : Calls Tryz.prog 18 #[.pointer (some ⟨g0, 0, none⟩), .agg #[.int .i64 g.w, .int .i64 g.h, v0], v1, .int .i64 cls, .int .i64 size, .int .i64 goal] w fun e w' => ∃ q : Option Nat × Nat, e = .returned (.tuple #[rowV q r.1.length, .int .i64 r.2.1]) ∧ Sat w0 ([Fld_ch g0 r.2.2, F] ++ [row nilH 3 (rowV q r.1.length) r.1]) w' := by
 refine T.enter (args := [_, _, _, _, _, _]) (S := Sat w0 [Fld_ch g0 x, F]) Tryz.func18 rfl rfl (s) ?_
 unfold fields_Dirs at H
 obtain ⟨b, hb, H⟩ := bindE H
 refine T.seq fun K1 hK1 => T.region (RS.solid (Sd.box (cs := [_, _, _]) rfl rfl) rfl rfl fun b7 => rA rfl (rA rfl (RS.nil (hK1 _ _ (cq [(0, _), (2, _), (3, _), (4, _), (5, _), (7, _)] ?_)))))
 refine T.seq fun K2 hK2 => T.block (T.seq fun K3 hK3 => T.region (rq (Qt.ldBA (us := [_, _, _]) 2 ty36 rfl rfl rfl rfl) (rM rfl (rM rfl (rM rfl (rq (Qt.call ent44 rfl fun w s => field_May_walk g l cls size w (Rd.ofFrame 1 rfl h0 w s) (Rd.ofFrame 1 rfl h1 w s) hb) (rp (Pu.not rfl) (rA rfl (RS.nil (hK3 _ _ ?_))))))))))
 refine T.cond rfl (fun hc14 => ?_) (fun hc14 => ?_)
 ·refine cq [] ?_
  refine T.seq fun K4 hK4 => T.region (rA rfl (rA rfl (RS.nil (hK4 _ _ ?_))))
  refine T.retTo (by with_reducible ((repeat (first | apply RetTo.seq | apply RetTo.blk)); exact RetTo.refl _)) (Cont.ret2 rfl rfl rfl fun w' s => ?_)
  have H := ifT hc14 H
  obtain rfl := sj H
  exact ⟨(none, 0), rfl, (s.nilRow (α := Int) 3).pick [0, 1, 3] (by decide) rfl⟩
 ·have H := ifB hc14 H
  obtain ⟨b2, hb2, H⟩ := bindE H
  refine cq [(0, _), (2, _), (3, _), (4, _), (5, _), (7, _)] ?_
  refine T.seq fun K5 hK5 => T.region (rq (Qt.ldBA (us := [_, _, _]) 2 ty36 rfl rfl rfl rfl) (rM rfl (rq (Qt.call ent45 rfl fun w s => ground_Is_walk g goal w (Rd.ofFrame 1 rfl h0 w s) hb2) (rp (Pu.not rfl) (rA rfl (RS.nil (hK5 _ _ ?_)))))))
  refine T.cond rfl (fun hc21 => ?_) (fun hc21 => ?_)
  ·refine cq [] ?_
   refine T.seq fun K6 hK6 => T.region (rA rfl (rA rfl (RS.nil (hK6 _ _ ?_))))
   refine T.retTo (by with_reducible ((repeat (first | apply RetTo.seq | apply RetTo.blk)); exact RetTo.refl _)) (Cont.ret2 rfl rfl rfl fun w' s => ?_)
   have H := ifT hc21 H
   obtain rfl := sj H
   exact ⟨(none, 0), rfl, (s.nilRow (α := Int) 3).pick [0, 1, 3] (by decide) rfl⟩
  ·have H := ifB hc21 H
   obtain ⟨y, hy, H⟩ := bindE H
   obtain ⟨d, hd, H⟩ := bindE H
   obtain rfl := sj H
   refine T.skip (hK2 _ _ (cq [(0, _), (2, _), (3, _), (4, _), (5, _), (7, _)] ?_))
   refine T.seq fun K7 hK7 => T.region (rM rfl (rq (Qt.ldBA (us := [_, _, _]) 2 ty36 rfl rfl rfl rfl) (rM rfl (rM rfl (rM rfl (rM rfl (RS.solid (Sd.call ent47 rfl (fun w s => callFr (A := [Fld_ch g0 x]) (B := [F, _]) (fun w s => fields_Ways_walk g0 x g l cls size goal (rdStars 0 rfl h0) (rdStars 0 rfl h1) hy w s) s)) rfl rfl fun z => RS.solid (Sd.callN ent46 rfl (fun w s => slices_Clone_Int_walk y.1 w (Rd.ofFz 4 rfl z.2 w s) hd)) rfl rfl fun q => rA rfl (rA rfl (RS.nil (hK7 _ _ (cq [(12, _), (13, _)] ?_)))))))))))
   refine T.retTo (by with_reducible ((repeat (first | apply RetTo.seq | apply RetTo.blk)); exact RetTo.refl _)) (Cont.ret2 rfl rfl rfl fun w' s => ?_)
   exact ⟨q, rfl, Fld_shut z.1.1 (s.pick [5, 7, 0, 1, 2, 3, 4] (by decide) rfl)⟩
theorem fields_Forget_objwalk {w0 : World} {F : Ch} (g0 : Nat) (x : Fld) {r : Fld} (H : fields_Forget x = some r) (w : World) (s : Sat w0 [Fld_ch g0 x, F] w) : Calls Tryz.prog 17 #[.pointer (some ⟨g0, 0, none⟩)] w fun e w' => e = .returned (.tuple #[]) ∧ Sat w0 [Fld_ch g0 r, F] w' := by
 unfold fields_Forget at H
 obtain ⟨c', hc, H⟩ := bindE H
 obtain rfl := sj H
 obtain ⟨q, s⟩ := Fld_open 0 rfl s
 refine (callFr (A := [_, _]) (B := [F, mapL q.gn (raw q.N), mapL q.gw (raw q.W), fz q.hA]) (fun w s => fields_Forget_walk g0 q.gc x.c hc w s) (s.pick [0, 2, 1, 3, 4, 5] (by decide) rfl)).mono ?_
 rintro e w' ⟨p, he, s'⟩
 exact ⟨he, Fld_shut (x := ⟨c', x.made, false, x.g, x.l, [], [], x.count⟩) ⟨q.gc, p.1, p.2, q.tv, q.lv, q.hA, [], [], rfl, rfl, by simp, by simp, q.rt, q.rl⟩ (s'.pick [4, 0, 1, 2, 3, 7] (by decide) rfl)⟩
end Go.Proofs.YthdbofgcckjopaaGreat
