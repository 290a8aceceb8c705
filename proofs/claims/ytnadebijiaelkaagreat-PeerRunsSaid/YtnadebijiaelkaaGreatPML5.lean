/-
  PeerRuns: what any peer is when it has executed a turn is the page's, or refused. For every input, with no condition.
-/
import Derived.Test.YtnadebijiaelkaaGreatRows
import Derived.Test.YtnadebijiaelkaaGreatPKL5
import Derived.Test.YtnadebijiaelkaaGreatW6
set_option linter.unusedVariables false
set_option linter.unusedSimpArgs false
set_option maxRecDepth 20000
set_option maxHeartbeats 4000000
namespace Go.Proofs.YtnadebijiaelkaaGreat
open Go.Vg
open Enc (R)
open Go.ChangeShapes Go.WideShapes Go.RowKit
theorem laidOut : laidOutB Tryz.prog = true := by kernel_rfl
theorem own : ownKnob Tryz.prog.godebug = none := by kernel_rfl
theorem runs_true {x : Scr28} (h : x.Wf) (_ : x.p.mine.length ≤ 9223372036854775807) (_ : x.p.inputs.length ≤ 9223372036854775807) (_ : x.p.has.length ≤ 9223372036854775807) (_ : x.p.acked.length ≤ 9223372036854775807) (_ : x.p.hashes.length ≤ 9223372036854775807) (_ : x.l.length ≤ 9223372036854775807) : thronglaw28_PeerRuns x = some true := by
 unfold thronglaw28_PeerRuns
 rw [only_p h]; rfl
set_option maxRecDepth 100000 in
theorem peerRuns_lifted (os : Os) (started : os.Started) (H : Type) (enc : TypeId × Value → H) :
  ReturnsInHanded {} Tryz.checked os 7 .any (Rows.peerRunsSpec.pre6 enc Tryz.prog Tryz.f7 Rows.peerRunsRow.domain false) (Rows.peerRunsSpec.post enc Tryz.prog Tryz.f7 false true false false) := by
 refine returnsInHanded_of_change_sized (C := Tryz.checked) own started (by kernel_rfl) Tryz.func7
  (ChangeSpec.witness6 (enc := enc) (C := Tryz.checked) false ⟨#[], #[.agg #[.int .i64 0, .int .i64 0, .int .i64 0, .int .i64 0, .int .i64 0, .slice none 0 0, .slice none 0 0, .slice none 0 0, .slice none 0 0, .slice none 0 0, .bool false, .slice none 0 0]], []⟩ 8 (by kernel_rfl) (by kernel_rfl) (by kernel_rfl) (by kernel_rfl)) ?_
 intro W base args ds gs before hval0 hW _ hsz0 _
 have hval : ∀ (j : Nat) t v, Tryz.f7.params[j]? = some t → args[j]? = some v → Value.okWide Tryz.prog W .any base t v := hval0
 have hW' := hW
 obtain ⟨p, q, hA0, hV, rfl, _, _⟩ := hW
 have hA : DataW.TrodAll enc Tryz.prog W 0 (fun _ => true) true Tryz.f7.params.toList args.toList ds p := hA0
 rw [Tryz.params7] at hA hval
 obtain ⟨v0, vs0, d0, ds0, p0, q0, hargs, rfl, rfl, h0, r0⟩ := trodAll_cons hA
 obtain ⟨rfl, rfl, rfl⟩ := trodAll_nil r0
 obtain rfl : args = #[v0] := by cases args; simp_all
 obtain ⟨rfl, rfl⟩ := trodVars_none hV
 obtain ⟨x0, hR0, hx0⟩ := Rdbl.arg rd_Scr28 h0 (Zd.each hsz0 (j := 0) rfl rfl)
 obtain ⟨fs0, hu0, _⟩ := structOf_spec uf29
 obtain ⟨cs0, rfl, _⟩ := okWide_struct hu0 (hval 0 29 v0 rfl rfl)
 obtain ⟨u0_5, u0_6, u0_7, u0_8, u0_9, u0_11, e0, s0_5, s0_6, s0_7, s0_8, s0_9, s0_11⟩ := hR0
 obtain rfl : cs0 = #[.int .i64 x0.p.id, .int .i64 x0.p.players, .int .i64 x0.p.delay, .int .i64 x0.p.turn, .int .i64 x0.p.said, u0_5, u0_6, u0_7, u0_8, u0_9, .bool x0.p.split, u0_11] := by
  have h9 : cs0.toList = [.int .i64 x0.p.id, .int .i64 x0.p.players, .int .i64 x0.p.delay, .int .i64 x0.p.turn, .int .i64 x0.p.said, u0_5, u0_6, u0_7, u0_8, u0_9, .bool x0.p.split, u0_11] := e0
  cases cs0; simp_all
 have hlaw := runs_true hx0 (R_max s0_5) (R_max s0_6) (R_max s0_7) (R_max s0_8) (R_max s0_9) (R_max s0_11)
 refine (thronglaw28_PeerRuns_walk x0 W s0_5 s0_6 s0_7 s0_8 s0_9 s0_11 hlaw).mono fun e W' ⟨he, hg⟩ => ?_
 subst he
 exact ⟨_, rfl, post_ext laidOut (by kernel_rfl) hW' (trodAll_cons_mk (shut_bool ul4 _) trodAll_mk0) rfl rfl rfl hg⟩
theorem peerRuns_holds : Rows.PeerRunsSaid :=
 OpenClaim.holds_of_wide 7 Tryz.f7 rfl rfl rfl rfl rfl rfl rfl ⟨rfl, rfl, rfl, rfl, rfl⟩ rfl rfl rfl rfl rfl (by kernel_rfl) Tryz.func7 (by kernel_rfl)
  (of_decide_eq_true (by kernel_rfl)) (by unfold Func.isWrapper; first | (rw [if_pos (by decide +kernel)]; kernel_rfl) | (rw [if_neg (by decide +kernel)]; exact ⟨rfl, rfl⟩))
  (fun os started H enc _ => peerRuns_lifted os started H enc)
end Go.Proofs.YtnadebijiaelkaaGreat
