/-
  Labels and mazes as structures.
-/
import Derived.Test.YthdbofgcckjopaaGreatRows
import Derived.Test.YthdbofgcckjopaaGreatPQO
import Derived.Test.YthdbofgcckjopaaGreatFO
set_option linter.unusedVariables false
set_option linter.unusedSimpArgs false
set_option maxRecDepth 20000
set_option maxHeartbeats 4000000
namespace Go.Proofs.YthdbofgcckjopaaGreat
open Go.Vg
open Enc (R)
structure Lbl where
 cost:Int
 l:List Int
 deriving Inhabited
instance:Enc Lbl where
 sz:=2
 R h x cs:=∃ v1,cs = [.int .i64 x.cost,v1]∧Enc.R h (x.l:List Int) [v1]
 len:=fun ⟨v1,e,h1⟩=>by rw [e]; rfl
 one:=fun ⟨v1,e,h1⟩ u hu=>by
  rw [e] at hu; simp only [List.mem_cons,List.not_mem_nil,or_false] at hu
  rcases hu with rfl | rfl
  ·rfl
  ·exact Enc.one h1 _ (by simp)
 mono:=fun hl ⟨v1,e,h1⟩=>⟨v1,e,Enc.mono hl h1⟩
structure Rte where
 cost:Int
 portals:List Int
 sectors:List Int
 deriving Inhabited
instance:Enc Rte where
 sz:=3
 R h x cs:=∃ v1 v2,cs = [.int .i64 x.cost,v1,v2]∧Enc.R h (x.portals:List Int) [v1]∧Enc.R h (x.sectors:List Int) [v2]
 len:=fun ⟨v1,v2,e,h1,h2⟩=>by rw [e]; rfl
 one:=fun ⟨v1,v2,e,h1,h2⟩ u hu=>by
  rw [e] at hu; simp only [List.mem_cons,List.not_mem_nil,or_false] at hu
  rcases hu with rfl | rfl | rfl
  ·rfl
  ·exact Enc.one h1 _ (by simp)
  ·exact Enc.one h2 _ (by simp)
 mono:=fun hl ⟨v1,v2,e,h1,h2⟩=>⟨v1,v2,e,Enc.mono hl h1,Enc.mono hl h2⟩
structure Mz where
 net:Net
 ps:List Prt
 deriving Inhabited
end Go.Proofs.YthdbofgcckjopaaGreat
