/-
  PeerNews: a new peer is the page's, or refused. For every input, with no condition.
-/
import Derived.Test.YtlpmiledfcblfaaRows
import Derived.Test.YtlpmiledfcblfaaPK1
import Derived.Test.YtlpmiledfcblfaaPT1
set_option linter.unusedVariables false
set_option linter.unusedSimpArgs false
set_option maxRecDepth 20000
set_option maxHeartbeats 4000000
namespace Go.Proofs.Ytlpmiledfcblfaa
open Go.Vg
open Enc (R)
open Go.ChangeShapes Go.WideShapes Go.RowKit
theorem bz23 : decide (0 < Try.prog.bytesOf 23) = true := by kernel_rfl
theorem co23 : Try.prog.cellsOf 23 = 3 := by kernel_rfl
theorem laidOut : laidOutB Try.prog = true := by kernel_rfl
theorem own : ownKnob Try.prog.godebug = none := by kernel_rfl
theorem uar23 : Try.prog.underlying 23 = some (.array 3 3) := by kernel_rfl
theorem usl22 : Try.prog.underlying 22 = some (.slice 23) := by kernel_rfl
theorem news_true {x : List Pr3} (_ : (∀ y ∈ x, Pr3.Wf y) ∧ x.length ≤ 140737488351232) (_ : x.length ≤ 9223372036854775807) : thronglaw28_PeerNews x = some true := news_law
set_option maxRecDepth 100000 in
theorem peerNews_lifted (os : Os) (started : os.Started) (H : Type) (enc : TypeId × Value → H) :
  ReturnsInHanded {} Try.checked os 3 .any (Rows.peerNewsSpec.pre6 enc Try.prog Try.f3 Rows.peerNewsRow.domain false) (Rows.peerNewsSpec.post enc Try.prog Try.f3 false true false false) := by
 refine returnsInHanded_of_change_sized (C := Try.checked) own started (by kernel_rfl) Try.func3
  (ChangeSpec.witness6 (enc := enc) (C := Try.checked) false ⟨#[], #[.slice none 0 0], []⟩ 8 (by kernel_rfl) (by kernel_rfl) (by kernel_rfl) (by kernel_rfl)) ?_
 intro W base args ds gs before hval0 hW _ hsz0 _
 have hval : ∀ (j : Nat) t v, Try.f3.params[j]? = some t → args[j]? = some v → Value.okWide Try.prog W .any base t v := hval0
 have hW' := hW
 obtain ⟨p, q, hA0, hV, rfl, _, _⟩ := hW
 have hA : DataW.TrodAll enc Try.prog W 0 (fun _ => true) true Try.f3.params.toList args.toList ds p := hA0
 rw [Try.params3] at hA hval
 obtain ⟨v0, vs0, d0, ds0, p0, q0, hargs, rfl, rfl, h0, r0⟩ := trodAll_cons hA
 obtain ⟨rfl, rfl, rfl⟩ := trodAll_nil r0
 obtain rfl : args = #[v0] := by cases args; simp_all
 obtain ⟨rfl, rfl⟩ := trodVars_none hV
 obtain ⟨x0, hR0, hx0⟩ := Rdbl.arg (Rdbl.slice usl22 co23 (by decide) (Rdbl.pr3 uar23 ul3 co3 co23) bz23) h0 (Zd.each hsz0 (j := 0) rfl rfl)
 obtain ⟨a0, len0, cap0, rfl⟩ := okWide_slice usl22 (hval 0 22 v0 rfl rfl)
 have hlaw := news_true hx0 (R_max hR0)
 refine (thronglaw28_PeerNews_walk x0 W hR0 hlaw).mono fun e W' ⟨he, hg⟩ => ?_
 subst he
 exact ⟨_, rfl, post_ext laidOut (by kernel_rfl) hW' (trodAll_cons_mk (shut_bool ul4 _) trodAll_mk0) rfl rfl rfl hg⟩
theorem peerNews_holds : Rows.PeerNewsSaid :=
 OpenClaim.holds_of_wide 3 Try.f3 rfl rfl rfl rfl rfl rfl rfl ⟨rfl, rfl, rfl, rfl, rfl⟩ rfl rfl rfl rfl rfl (by kernel_rfl) Try.func3 (by kernel_rfl)
  (of_decide_eq_true (by kernel_rfl)) (by unfold Func.isWrapper; first | (rw [if_pos (by decide +kernel)]; kernel_rfl) | (rw [if_neg (by decide +kernel)]; exact ⟨rfl, rfl⟩))
  (fun os started H enc _ => peerNews_lifted os started H enc)
end Go.Proofs.Ytlpmiledfcblfaa
