/-
  What slices.Clone and slices.Repeat answer, as pure functions, with their walks. The conditions stand in each function.
-/
import Derived.Test.YthdbofgcckjopaaGreatRows
import Derived.Test.YthdbofgcckjopaaGreatW2
import Derived.Test.YthdbofgcckjopaaGreatFH
set_option linter.unusedVariables false
set_option linter.unusedSimpArgs false
set_option maxRecDepth 20000
set_option maxHeartbeats 4000000
namespace Go.Proofs.YthdbofgcckjopaaGreat
open Go.Vg
open Enc (R)
theorem cloneByte_calls_nil {l : List UInt8} {n c : Nat} (w : World) (hA : R (hpOf w) l [.slice none n c]) : Calls Tryz.prog 171 #[.slice none n c] w fun e w' => ∃ q : Option Nat × Nat, e = .returned (rowV q l.length) ∧ Sat w [row nilH 5 (rowV q l.length) l] w' := by
 refine T.enter (args := [.slice none n c]) (S := Sat w []) Tryz.func171 rfl rfl (Sat.start w) ?_
 refine T.seq fun K1 hK1 => ?_
 refine T.region ?_
 refine RS.p (Pu.assign rfl) rfl rfl ?_
 refine RS.nil (hK1 _ _ ?_)
 refine T.seq fun K2 hK2 => ?_
 refine T.seq fun K3 hK3 => ?_
 refine T.region ?_
 refine RS.p (Pu.move rfl) rfl rfl ?_
 refine RS.p (Pu.eqNilSl usl34 rfl) rfl rfl ?_
 refine RS.nil (hK3 _ _ ?_)
 refine T.cond rfl (fun hc4 => ?_) (fun hc4 => ?_)
 ·refine T.conseq (fr' := []) ?_ trivial (fun _ s => s)
  refine T.seq fun K4 hK4 => ?_
  refine T.region ?_
  refine RS.p (Pu.assign rfl) rfl rfl ?_
  refine RS.nil (hK4 _ _ ?_)
  refine T.retTo (by with_reducible ((repeat (first | apply RetTo.seq | apply RetTo.blk)); exact RetTo.refl _)) (Cont.ret1 rfl rfl fun w' s => ?_)
  have hl0 : l = [] := by
   obtain ⟨p', c', e', s1, s2, s3⟩ := hA
   simp only [List.cons.injEq, Value.slice.injEq, and_true] at e'
   obtain ⟨rfl, rfl, rfl⟩ := e'
   rcases s3 with h | ⟨b, o, cs, h, _⟩
   ·exact h
   ·cases h
  subst hl0
  exact ⟨(none, 0), rfl, s.addEmpty _ (fun p => .inl ⟨rfl, rfl⟩)⟩
 ·exact absurd hc4 (by simp) -- end
theorem cloneByte_calls_some {l : List UInt8} {a : Addr} {n c : Nat} (hsz : n < 1099511627776) (w : World) (hA : R (hpOf w) l [.slice (some a) n c]) : Calls Tryz.prog 171 #[.slice (some a) n c] w fun e w' => ∃ q : Option Nat × Nat, e = .returned (rowV q l.length) ∧ Sat w [row nilH 5 (rowV q l.length) l] w' := by
 refine T.enter (args := [.slice (some a) n c]) (S := Sat w []) Tryz.func171 rfl rfl (Sat.start w) ?_
 refine T.seq fun K1 hK1 => ?_
 refine T.region ?_
 refine RS.p (Pu.assign rfl) rfl rfl ?_
 refine RS.nil (hK1 _ _ ?_)
 refine T.seq fun K2 hK2 => ?_
 refine T.seq fun K3 hK3 => ?_
 refine T.region ?_
 refine RS.p (Pu.move rfl) rfl rfl ?_
 refine RS.p (Pu.eqNilSl usl34 rfl) rfl rfl ?_
 refine RS.nil (hK3 _ _ ?_)
 refine T.cond rfl (fun hc4 => ?_) (fun hc4 => ?_)
 ·exact absurd hc4 (by simp) -- end
 ·refine T.skip (hK2 _ _ (T.conseq (fr' := [(0, _)]) ?_ ⟨rfl, trivial⟩ (fun _ s => s)))
  refine T.seq fun K4 hK4 => ?_
  refine T.region ?_
  refine RS.solid (Sd.lit0 (α := UInt8) (B := nilH) sl34) rfl rfl fun b5 => ?_
  refine RS.p (Pu.move rfl) rfl rfl ?_
  refine RS.solid (Sd.appB (α := UInt8) 0 (nilH_lt _) rfl sl34 zr5 rfl rfl rfl hA (by simp only [List.length_nil]; omega) (by simp only [List.length_nil]; unfold maxLen; omega)) rfl rfl fun q7 => ?_
  refine RS.p (Pu.assign rfl) rfl rfl ?_
  refine RS.nil (hK4 _ _ (T.conseq (fr' := [(2, _)]) ?_ ⟨rfl, trivial⟩ (fun _ s => s)))
  refine T.retTo (by with_reducible ((repeat (first | apply RetTo.seq | apply RetTo.blk)); exact RetTo.refl _)) (Cont.ret1 rfl rfl fun w' s => ?_)
  have hn : n = l.length := (R_len hA).1
  simp only [List.length_nil, Nat.zero_add, List.nil_append] at s
  subst hn
  exact ⟨q7, by simp, s.pick (G' := [_]) [0] (by decide) rfl⟩
theorem cloneByte_calls {l : List UInt8} {v : Value} (hsz : l.length < 1099511627776) (w : World) (hA : R (hpOf w) l [v]) : Calls Tryz.prog 171 #[v] w fun e w' => ∃ q : Option Nat × Nat, e = .returned (rowV q l.length) ∧ Sat w [row nilH 5 (rowV q l.length) l] w' := by
 obtain ⟨p, c, rfl⟩ := R_form hA
 cases p with
 | none => exact cloneByte_calls_nil w hA
 | some a => exact cloneByte_calls_some hsz w hA
def slices_Clone_Byte (l : List UInt8) : Option (List UInt8) := if l.length < 1099511627776 then some l else none
theorem slices_Clone_Byte_walk (l : List UInt8) (w : World) {v0 : Value} (h0 : R (hpOf w) l [v0]) {r : List UInt8} (H : slices_Clone_Byte l = some r) : Calls Tryz.prog 171 #[v0] w fun e w' => ∃ g : (Option Nat × Nat), e = .returned (rowV g r.length) ∧ Sat w [row nilH 5 (rowV g r.length) r] w' := by
 unfold slices_Clone_Byte at H
 obtain ⟨h1, H⟩ := gdE H
 obtain rfl := Option.some.inj H
 exact cloneByte_calls h1 w h0
end Go.Proofs.YthdbofgcckjopaaGreat
