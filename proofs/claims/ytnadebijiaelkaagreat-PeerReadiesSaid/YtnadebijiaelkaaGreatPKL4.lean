/-
  Walk of PeerReadies.
-/
import Derived.Test.YtnadebijiaelkaaGreatRows
import Derived.Test.YtnadebijiaelkaaGreatW3
import Derived.Test.YtnadebijiaelkaaGreatPE
import Derived.Test.YtnadebijiaelkaaGreatPGL4
set_option linter.unusedVariables false
set_option linter.unusedSimpArgs false
set_option maxRecDepth 20000
set_option maxHeartbeats 4000000
namespace Go.Proofs.YtnadebijiaelkaaGreat
open Go.Vg
open Enc (R)
theorem ent9 : Ent Tryz.prog 9 := ⟨_, _, Tryz.func9, by kernel_rfl, rfl⟩
theorem thronglaw28_PeerReadies_walk (a0_p : Scr28) (w : World) {v0 v1 v2 v3 v4 v5 : Value} (h0 : R (hpOf w) a0_p.p.mine [v0]) (h1 : R (hpOf w) a0_p.p.inputs [v1]) (h2 : R (hpOf w) a0_p.p.has [v2]) (h3 : R (hpOf w) a0_p.p.acked [v3]) (h4 : R (hpOf w) a0_p.p.hashes [v4]) (h5 : R (hpOf w) a0_p.l [v5]) {r : Bool} (H : thronglaw28_PeerReadies a0_p = some r) : Calls Tryz.prog 6 #[.agg #[.int .i64 a0_p.p.id, .int .i64 a0_p.p.players, .int .i64 a0_p.p.delay, .int .i64 a0_p.p.turn, .int .i64 a0_p.p.said, v0, v1, v2, v3, v4, .bool a0_p.p.split, v5]] w fun e w' => e = .returned (.bool r) ∧ Ext w w' := by
 have hm0 := R_max h0
 obtain ⟨p0, c0, rfl⟩ := R_form h0
 have hm1 := R_max h1
 obtain ⟨p1, c1, rfl⟩ := R_form h1
 have hm2 := R_max h2
 obtain ⟨p2, c2, rfl⟩ := R_form h2
 have hm3 := R_max h3
 obtain ⟨p3, c3, rfl⟩ := R_form h3
 have hm4 := R_max h4
 obtain ⟨p4, c4, rfl⟩ := R_form h4
 have hm5 := R_max h5
 obtain ⟨p5, c5, rfl⟩ := R_form h5
 unfold thronglaw28_PeerReadies at H
 refine T.enter (args := [_]) (S := Sat w []) Tryz.func6 rfl rfl (Sat.start w) ?_
 refine T.seq fun K1 hK1 => T.region (RS.solid (Sd.box (cs := [_, _, _, _, _, _, _, _, _, _, _, _]) rfl rfl) rfl rfl fun b1 => rA rfl (RS.nil (hK1 _ _ ?_)))
 refine T.seq fun K2 hK2 => T.region (rq (Qt.ldBA (us := [_, _, _, _, _, _, _, _, _, _, _, _]) 0 ty29 rfl rfl rfl rfl) ?_)
 obtain ⟨x2, hx2, H⟩ := bindE H
 refine rq (Qt.call (vs := [.agg #[.int .i64 a0_p.p.id, .int .i64 a0_p.p.players, .int .i64 a0_p.p.delay, .int .i64 a0_p.p.turn, .int .i64 a0_p.p.said, .slice p0 a0_p.p.mine.length c0, .slice p1 a0_p.p.inputs.length c1, .slice p2 a0_p.p.has.length c2, .slice p3 a0_p.p.acked.length c3, .slice p4 a0_p.p.hashes.length c4, .bool a0_p.p.split, .slice p5 a0_p.l.length c5], .int .i64 6]) ent9 rfl fun w s => thronglaw28_only_walk a0_p 6 w ((Rd.base h0) w s) ((Rd.base h1) w s) ((Rd.base h2) w s) ((Rd.base h3) w s) ((Rd.base h4) w s) ((Rd.base h5) w s) hx2) (rA rfl (RS.nil (hK2 _ _ (cq [(2, _)] ?_))))
 obtain rfl := sj H
 refine T.rt (Cont.ret1 rfl rfl fun w' s => ?_)
 exact ⟨rfl, s.ext⟩
end Go.Proofs.YtnadebijiaelkaaGreat
