/-
  Walks of the library's atomic numbers: one that adds, one that loads. For every world in which the number lies in a block of its own.
-/
import Derived.Test.YthdbofgcckjopaaGreatRows
import Derived.Test.YthdbofgcckjopaaGreatW2
set_option linter.unusedVariables false
set_option maxRecDepth 20000
namespace Go.Proofs.YthdbofgcckjopaaGreat
open Go.Vg
open Enc (R)
theorem fdAtomic : fdOff Tryz.prog 75 2 = some 0 := by kernel_rfl
theorem add_ext : ∃ fn, Tryz.prog.funcs[(118 : Nat)]? = some fn ∧ isAdd fn := ⟨_, Tryz.func118, by kernel_rfl, by kernel_rfl, by kernel_rfl, by kernel_rfl⟩
theorem load_ext : ∃ fn, Tryz.prog.funcs[(84 : Nat)]? = some fn ∧ isLoad fn := ⟨_, Tryz.func84, by kernel_rfl, by kernel_rfl, by kernel_rfl, by kernel_rfl⟩
theorem atomicAdd_walk {w0 : World} {F : Ch} {g o : Nat} {cs cs' : List Value} {t : TypeId} {u d : Int} {w : World} (s : Sat w0 [blk g cs t, F] w) (hc : cs[o]? = some (.int .i64 u)) (hd : I64 (u + d)) (he : cs.set o (.int .i64 (u + d)) = cs') :
    Calls Tryz.prog 82 #[.pointer (some ⟨g, o, none⟩), .int .i64 d] w fun e w' => e = .returned (.int .i64 (u + d)) ∧ Sat w0 [blk g cs' t, F] w' := by
  subst he
  obtain ⟨fn, hf, ha⟩ := add_ext
  refine T.enter (args := [_, _]) (S := Sat w0 [blk g cs t, F]) Tryz.func82 rfl rfl s ?_
  refine T.seq fun K1 hK1 => ?_
  refine T.region ?_
  refine RS.p (Pu.assign rfl) rfl rfl ?_
  refine RS.nil (hK1 _ _ ?_)
  refine T.seq fun K2 hK2 => ?_
  refine T.region ?_
  refine RS.p (Pu.move rfl) rfl rfl ?_
  refine RS.p (Pu.nilCheck rfl) rfl rfl ?_
  refine RS.p (Pu.fieldAddr fdAtomic rfl) rfl rfl ?_
  refine RS.p (Pu.move rfl) rfl rfl ?_
  refine RS.solid (Sd.extAdd 0 hf ha rfl rfl rfl hc hd) rfl rfl fun _ => ?_
  refine RS.p (Pu.assign rfl) rfl rfl ?_
  refine RS.nil (hK2 _ _ ?_)
  refine T.retTo (RetTo.refl _) (Cont.ret1 rfl rfl fun w' s => ?_)
  exact ⟨rfl, s⟩
theorem atomicLoad_walk {w0 : World} {F : Ch} {g o : Nat} {cs : List Value} {t : TypeId} {u : Int} {w : World} (s : Sat w0 [blk g cs t, F] w) (hc : cs[o]? = some (.int .i64 u)) :
    Calls Tryz.prog 49 #[.pointer (some ⟨g, o, none⟩)] w fun e w' => e = .returned (.int .i64 u) ∧ Ext w w' := by
  obtain ⟨fn, hf, ha⟩ := load_ext
  have hb := (s.getBlk (k := 0) rfl)
  have hcell : ∀ w1, Ext w w1 → w1.cell? ⟨g, o, none⟩ = some (.int .i64 u) := fun w1 h1 => by
    unfold World.cell?
    rw [h1.block g (lt_of_hp hb.1), hb.1]
    simp [hc]
  refine T.enter (args := [_]) (S := fun w1 => Ext w w1) Tryz.func49 rfl rfl (Ext.refl w) ?_
  refine T.seq fun K1 hK1 => ?_
  refine T.region ?_
  refine RS.p (Pu.assign rfl) rfl rfl ?_
  refine RS.nil (hK1 _ _ ?_)
  refine T.seq fun K2 hK2 => ?_
  refine T.region ?_
  refine RS.p (Pu.move rfl) rfl rfl ?_
  refine RS.p (Pu.nilCheck rfl) rfl rfl ?_
  refine RS.p (Pu.fieldAddr fdAtomic rfl) rfl rfl ?_
  refine RS.solid (Sd.extLoadS hf ha rfl hcell) rfl rfl fun _ => ?_
  refine RS.p (Pu.assign rfl) rfl rfl ?_
  refine RS.nil (hK2 _ _ ?_)
  refine T.retTo (RetTo.refl _) (Cont.ret1 rfl rfl fun w' s => ?_)
  exact ⟨rfl, s⟩
end Go.Proofs.YthdbofgcckjopaaGreat
