/-
  RouteWays: there is a route where there is a way, and nowhere else; it does not cost less than the field says. For every input, with no condition.
-/
import Derived.Test.YthdbofgcckjopaaGreatRows
import Derived.Test.YthdbofgcckjopaaGreatRLK4
import Derived.Test.YthdbofgcckjopaaGreatRX4
set_option linter.unusedVariables false
set_option linter.unusedSimpArgs false
set_option maxRecDepth 20000
set_option maxHeartbeats 4000000
namespace Go.Proofs.YthdbofgcckjopaaGreat
open Go.Vg
open Enc (R)
open Go.ChangeShapes Go.WideShapes Go.RowKit
theorem laidOut : laidOutB Tryz.prog = true := by kernel_rfl
theorem own : ownKnob Tryz.prog.godebug = none := by kernel_rfl
theorem rways_true {x : Ask13} (_ : x.Wf) (_ : x.g.tiles.length ≤ 9223372036854775807) (_ : x.l.length ≤ 9223372036854775807) (_ : x.ts.length ≤ 9223372036854775807) : thronglaw14_RouteWays x = some true := rways_law
set_option maxRecDepth 100000 in
theorem routeWays_lifted (os : Os) (started : os.Started) (H : Type) (enc : TypeId × Value → H) :
  ReturnsInHanded {} Tryz.checked os 7 .any (Rows.routeWaysSpec.pre6 enc Tryz.prog Tryz.f7 Rows.routeWaysRow.domain false) (Rows.routeWaysSpec.post enc Tryz.prog Tryz.f7 false true false false) := by
 refine returnsInHanded_of_change_sized (C := Tryz.checked) own started (by kernel_rfl) Tryz.func7
  (ChangeSpec.witness6 (enc := enc) (C := Tryz.checked) false ⟨#[], #[.agg #[.int .i64 0, .int .i64 0, .slice none 0 0, .slice none 0 0, .int .i64 0, .int .i64 0, .slice none 0 0]], []⟩ 8 (by kernel_rfl) (by kernel_rfl) (by kernel_rfl) (by kernel_rfl)) ?_
 intro W base args ds gs before hval0 hW _ hsz0 _
 have hval : ∀ (j : Nat) t v, Tryz.f7.params[j]? = some t → args[j]? = some v → Value.okWide Tryz.prog W .any base t v := hval0
 have hW' := hW
 obtain ⟨p, q, hA0, hV, rfl, _, _⟩ := hW
 have hA : DataW.TrodAll enc Tryz.prog W 0 (fun _ => true) true Tryz.f7.params.toList args.toList ds p := hA0
 rw [Tryz.params7] at hA hval
 obtain ⟨v0, vs0, d0, ds0, p0, q0, hargs, rfl, rfl, h0, r0⟩ := trodAll_cons hA
 obtain ⟨rfl, rfl, rfl⟩ := trodAll_nil r0
 obtain rfl : args = #[v0] := by cases args; simp_all
 obtain ⟨rfl, rfl⟩ := trodVars_none hV
 obtain ⟨x0, hR0, hx0⟩ := Rdbl.arg rd_Ask13 h0 (Zd.each hsz0 (j := 0) rfl rfl)
 obtain ⟨fs0, hu0, _⟩ := structOf_spec uf39
 obtain ⟨cs0, rfl, _⟩ := okWide_struct hu0 (hval 0 39 v0 rfl rfl)
 obtain ⟨u0_2, u0_3, u0_6, e0, s0_2, s0_3, s0_6⟩ := hR0
 obtain rfl : cs0 = #[.int .i64 x0.g.w, .int .i64 x0.g.h, u0_2, u0_3, .int .i64 x0.cls, .int .i64 x0.size, u0_6] := by
  have h9 : cs0.toList = [.int .i64 x0.g.w, .int .i64 x0.g.h, u0_2, u0_3, .int .i64 x0.cls, .int .i64 x0.size, u0_6] := e0
  cases cs0; simp_all
 have hlaw := rways_true hx0 (R_max s0_2) (R_max s0_3) (R_max s0_6)
 refine (thronglaw14_RouteWays_walk x0 W s0_2 s0_3 s0_6 hlaw).mono fun e W' ⟨he, hg⟩ => ?_
 subst he
 exact ⟨_, rfl, post_ext laidOut (by kernel_rfl) hW' (trodAll_cons_mk (shut_bool ul4 _) trodAll_mk0) rfl rfl rfl hg⟩
theorem routeWays_holds : Rows.RouteWaysSaid :=
 OpenClaim.holds_of_wide 7 Tryz.f7 rfl rfl rfl rfl rfl rfl rfl ⟨rfl, rfl, rfl, rfl, rfl⟩ rfl rfl rfl rfl rfl (by kernel_rfl) Tryz.func7 (by kernel_rfl)
  (of_decide_eq_true (by kernel_rfl)) (by unfold Func.isWrapper; first | (rw [if_pos (by decide +kernel)]; kernel_rfl) | (rw [if_neg (by decide +kernel)]; exact ⟨rfl, rfl⟩))
  (fun os started H enc _ => routeWays_lifted os started H enc)
end Go.Proofs.YthdbofgcckjopaaGreat
