/-
  TopSolid: what is built shuts the way, and opens it again when it is gone. For every input, with no condition.
-/
import Derived.Test.YtmngdgclldkcfaaGreatRows
import Derived.Test.YtmngdgclldkcfaaGreatJ29
import Derived.Test.YtmngdgclldkcfaaGreatTS3
set_option linter.unusedVariables false
set_option linter.unusedSimpArgs false
set_option maxRecDepth 20000
set_option maxHeartbeats 4000000
namespace Go.Proofs.YtmngdgclldkcfaaGreat
open Go.Vg
open Enc (R)
open Go.ChangeShapes Go.WideShapes Go.RowKit
theorem laidOut:laidOutB Tryz.prog = true:=by kernel_rfl
theorem own:ownKnob Tryz.prog.godebug = none:=by kernel_rfl
theorem topSolid_in {x:Crd} (h:x.Wf) (h1:x.g.tiles.length ≤ 9223372036854775807):throngtop_TopSolid x = some true:=solid_true x
set_option maxRecDepth 100000 in
theorem topSolid_lifted (os:Os) (started:os.Started) (H:Type) (enc:TypeId × Value→H) :
  ReturnsInHanded {} Tryz.checked os 6 .any (Rows.topSolidSpec.pre6 enc Tryz.prog Tryz.f6 Rows.topSolidRow.domain false) (Rows.topSolidSpec.post enc Tryz.prog Tryz.f6 false true false false):=by
 refine returnsInHanded_of_change_sized (C:=Tryz.checked) own started (by kernel_rfl) Tryz.func6
  (ChangeSpec.witness6 (enc:=enc) (C:=Tryz.checked) false ⟨#[],#[.agg #[.int .i64 0,.int .i64 0,.slice none 0 0,.int .i64 0,.int .i64 0,.int .i64 0,.int .i64 0,.int .i64 0,.int .i64 0]],[]⟩ 8 (by kernel_rfl) (by kernel_rfl) (by kernel_rfl) (by kernel_rfl)) ?_
 intro W base args ds gs before hval0 hW _ hsz0 _
 have hval:∀ (j:Nat) t v,Tryz.f6.params[j]? = some t→args[j]? = some v→Value.okWide Tryz.prog W .any base t v:=hval0
 have hW':=hW
 obtain ⟨p,q,hA0,hV,rfl,_,_⟩:=hW
 have hA:DataW.TrodAll enc Tryz.prog W 0 (fun _=>true) true Tryz.f6.params.toList args.toList ds p:=hA0
 rw [Tryz.params6] at hA hval
 obtain ⟨v0,vs0,d0,ds0,p0,q0,hargs,rfl,rfl,h0,r0⟩:=trodAll_cons hA
 obtain ⟨rfl,rfl,rfl⟩:=trodAll_nil r0
 obtain rfl:args = #[v0]:=by cases args; simp_all
 obtain ⟨rfl,rfl⟩:=trodVars_none hV
 obtain ⟨x0,hR0,hx0⟩:=Rdbl.arg rd_Crd h0 (Zd.each hsz0 (j:=0) rfl rfl)
 obtain ⟨fs0,hu0,_⟩:=structOf_spec uf60
 obtain ⟨cs0,rfl,_⟩:=okWide_struct hu0 (hval 0 60 v0 rfl rfl)
 obtain ⟨u0_2,e0,s0_2⟩:=hR0
 obtain rfl:cs0 = #[.int .i64 x0.g.w,.int .i64 x0.g.h,u0_2,.int .i64 x0.n,.int .i64 x0.kind,.int .i64 x0.to,.int .i64 x0.ticks,.int .i64 x0.many,.int .i64 x0.room]:=by
  have h9:cs0.toList = [.int .i64 x0.g.w,.int .i64 x0.g.h,u0_2,.int .i64 x0.n,.int .i64 x0.kind,.int .i64 x0.to,.int .i64 x0.ticks,.int .i64 x0.many,.int .i64 x0.room]:=e0
  cases cs0; simp_all
 have hlaw:=topSolid_in hx0 (R_max s0_2)
 refine (throngtop_TopSolid_walk x0 W s0_2 hlaw).mono fun e W' ⟨he,hg⟩=>?_
 subst he
 exact ⟨_,rfl,post_ext laidOut (by kernel_rfl) hW' (trodAll_cons_mk (shut_bool ul4 _) trodAll_mk0) rfl rfl rfl hg⟩
theorem topSolid_c0:(laidOutB Tryz.prog) = true:=by kernel_rfl
theorem topSolid_c1:(mapsRowed Tryz.prog) = true:=by kernel_rfl
theorem topSolid_c2:(Rows.topSolidRow.inPlace == Tryz.prog.inPlace 6) = true:=by kernel_rfl
theorem topSolid_c3:(Rows.topSolidRow.unfollowed == Tryz.prog.unfollowed 6) = true:=by kernel_rfl
theorem topSolid_c4:(Rows.topSolidRow.recurses == Tryz.prog.recurses 6) = true:=by kernel_rfl
theorem topSolid_c5:(Rows.topSolidRow.named == Tryz.prog.varsNamed 6) = true:=by kernel_rfl
theorem topSolid_c6:(Rows.topSolidRow.plainKeys == Tryz.prog.plainKeys) = true:=by kernel_rfl
theorem topSolid_c7:(Tryz.prog.stopsHeard) = true:=by kernel_rfl
theorem topSolid_c8:(Tryz.prog.mayEnter) = true:=by kernel_rfl
theorem topSolid_c9:(Rows.topSolidRow.lifted == Tryz.prog.liftsFinal) = true:=by kernel_rfl
theorem topSolid_fn:Tryz.checked.prog.funcNamed Rows.topSolidRow.func = some 6:=by kernel_rfl
theorem topSolid_closed:joinedFacts Tryz.prog 6 Tryz.f6 Rows.topSolidSpec Rows.topSolidRow = true:=by
 unfold joinedFacts
 rw [topSolid_c0,topSolid_c1,topSolid_c2,topSolid_c3,topSolid_c4,topSolid_c5,topSolid_c6,topSolid_c7,topSolid_c8,topSolid_c9]
 kernel_rfl
theorem topSolid_holds:Rows.TopSolidSaid :=
 OpenClaim.holds_of_wide 6 Tryz.f6 rfl rfl rfl rfl rfl rfl rfl ⟨rfl,rfl,rfl,rfl,rfl⟩ rfl rfl rfl rfl rfl topSolid_fn Tryz.func6 topSolid_closed
  (of_decide_eq_true (by kernel_rfl)) (by unfold Func.isWrapper; first | (rw [if_pos (by decide +kernel)]; kernel_rfl) | (rw [if_neg (by decide +kernel)]; exact ⟨rfl,rfl⟩))
  (fun os started H enc _=>topSolid_lifted os started H enc)
end Go.Proofs.YtmngdgclldkcfaaGreat
