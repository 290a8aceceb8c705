/-
  TopOrder: whoever speaks first, the lesser player's commands are done first, at every peer. For every input, with no condition.
-/
import Derived.Test.YtmngdgclldkcfaaGreatRows
import Derived.Test.YtmngdgclldkcfaaGreatTLK2
import Derived.Test.YtmngdgclldkcfaaGreatOX3
set_option linter.unusedVariables false
set_option linter.unusedSimpArgs false
set_option maxRecDepth 20000
set_option maxHeartbeats 4000000
namespace Go.Proofs.YtmngdgclldkcfaaGreat
open Go.Vg
open Enc (R)
open Go.ChangeShapes Go.WideShapes Go.RowKit
theorem laidOut:laidOutB Tryz.prog = true:=by kernel_rfl
theorem own:ownKnob Tryz.prog.godebug = none:=by kernel_rfl
theorem topOrder_in {x:Scr30} (h:x.Wf) (h1:x.g.tiles.length ≤ 9223372036854775807) (_:x.l.length ≤ 9223372036854775807):throngtop_TopOrder x = some true:=order_true h (by have:=h.1.2.2.2; omega)
set_option maxRecDepth 100000 in
theorem topOrder_lifted (os:Os) (started:os.Started) (H:Type) (enc:TypeId × Value→H) :
  ReturnsInHanded {} Tryz.checked os 3 .any (Rows.topOrderSpec.pre6 enc Tryz.prog Tryz.f3 Rows.topOrderRow.domain false) (Rows.topOrderSpec.post enc Tryz.prog Tryz.f3 false true false false):=by
 refine returnsInHanded_of_change_sized (C:=Tryz.checked) own started (by kernel_rfl) Tryz.func3
  (ChangeSpec.witness6 (enc:=enc) (C:=Tryz.checked) false ⟨#[],#[.agg #[.int .i64 0,.int .i64 0,.slice none 0 0,.int .i64 0,.int .i64 0,.int .i64 0,.slice none 0 0]],[]⟩ 8 (by kernel_rfl) (by kernel_rfl) (by kernel_rfl) (by kernel_rfl)) ?_
 intro W base args ds gs before hval0 hW _ hsz0 _
 have hval:∀ (j:Nat) t v,Tryz.f3.params[j]? = some t→args[j]? = some v→Value.okWide Tryz.prog W .any base t v:=hval0
 have hW':=hW
 obtain ⟨p,q,hA0,hV,rfl,_,_⟩:=hW
 have hA:DataW.TrodAll enc Tryz.prog W 0 (fun _=>true) true Tryz.f3.params.toList args.toList ds p:=hA0
 rw [Tryz.params3] at hA hval
 obtain ⟨v0,vs0,d0,ds0,p0,q0,hargs,rfl,rfl,h0,r0⟩:=trodAll_cons hA
 obtain ⟨rfl,rfl,rfl⟩:=trodAll_nil r0
 obtain rfl:args = #[v0]:=by cases args; simp_all
 obtain ⟨rfl,rfl⟩:=trodVars_none hV
 obtain ⟨x0,hR0,hx0⟩:=Rdbl.arg rd_Scr30 h0 (Zd.each hsz0 (j:=0) rfl rfl)
 obtain ⟨fs0,hu0,_⟩:=structOf_spec uf27
 obtain ⟨cs0,rfl,_⟩:=okWide_struct hu0 (hval 0 27 v0 rfl rfl)
 obtain ⟨u0_2,u0_6,e0,s0_2,s0_6⟩:=hR0
 obtain rfl:cs0 = #[.int .i64 x0.g.w,.int .i64 x0.g.h,u0_2,.int .i64 x0.players,.int .i64 x0.delay,.int .i64 x0.room,u0_6]:=by
  have h9:cs0.toList = [.int .i64 x0.g.w,.int .i64 x0.g.h,u0_2,.int .i64 x0.players,.int .i64 x0.delay,.int .i64 x0.room,u0_6]:=e0
  cases cs0; simp_all
 have hlaw:=topOrder_in hx0 (R_max s0_2) (R_max s0_6)
 refine (throngtop_TopOrder_walk x0 W s0_2 s0_6 hlaw).mono fun e W' ⟨he,hg⟩=>?_
 subst he
 exact ⟨_,rfl,post_ext laidOut (by kernel_rfl) hW' (trodAll_cons_mk (shut_bool ul4 _) trodAll_mk0) rfl rfl rfl hg⟩
theorem topOrder_c0:(laidOutB Tryz.prog) = true:=by kernel_rfl
theorem topOrder_c1:(mapsRowed Tryz.prog) = true:=by kernel_rfl
theorem topOrder_c2:(Rows.topOrderRow.inPlace == Tryz.prog.inPlace 3) = true:=by kernel_rfl
theorem topOrder_c3:(Rows.topOrderRow.unfollowed == Tryz.prog.unfollowed 3) = true:=by kernel_rfl
theorem topOrder_c4:(Rows.topOrderRow.recurses == Tryz.prog.recurses 3) = true:=by kernel_rfl
theorem topOrder_c5:(Rows.topOrderRow.named == Tryz.prog.varsNamed 3) = true:=by kernel_rfl
theorem topOrder_c6:(Rows.topOrderRow.plainKeys == Tryz.prog.plainKeys) = true:=by kernel_rfl
theorem topOrder_c7:(Tryz.prog.stopsHeard) = true:=by kernel_rfl
theorem topOrder_c8:(Tryz.prog.mayEnter) = true:=by kernel_rfl
theorem topOrder_c9:(Rows.topOrderRow.lifted == Tryz.prog.liftsFinal) = true:=by kernel_rfl
theorem topOrder_fn:Tryz.checked.prog.funcNamed Rows.topOrderRow.func = some 3:=by kernel_rfl
theorem topOrder_closed:joinedFacts Tryz.prog 3 Tryz.f3 Rows.topOrderSpec Rows.topOrderRow = true:=by
 unfold joinedFacts
 rw [topOrder_c0,topOrder_c1,topOrder_c2,topOrder_c3,topOrder_c4,topOrder_c5,topOrder_c6,topOrder_c7,topOrder_c8,topOrder_c9]
 kernel_rfl
theorem topOrder_holds:Rows.TopOrderSaid :=
 OpenClaim.holds_of_wide 3 Tryz.f3 rfl rfl rfl rfl rfl rfl rfl ⟨rfl,rfl,rfl,rfl,rfl⟩ rfl rfl rfl rfl rfl topOrder_fn Tryz.func3 topOrder_closed
  (of_decide_eq_true (by kernel_rfl)) (by unfold Func.isWrapper; first | (rw [if_pos (by decide +kernel)]; kernel_rfl) | (rw [if_neg (by decide +kernel)]; exact ⟨rfl,rfl⟩))
  (fun os started H enc _=>topOrder_lifted os started H enc)
end Go.Proofs.YtmngdgclldkcfaaGreat
