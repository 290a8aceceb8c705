/-
  Portals as a structure.
-/
import Derived.Test.YtddicdmleeaihaaRows
import Derived.Test.YtddicdmleeaihaaSF
import Derived.Test.YtddicdmleeaihaaVX
import Derived.Test.YtddicdmleeaihaaV5
set_option linter.unusedVariables false
set_option linter.unusedSimpArgs false
set_option maxRecDepth 20000
set_option maxHeartbeats 4000000
namespace Go.Proofs.Ytddicdmleeaihaa
open Go.Vg
open Enc (R)
theorem co40 : Try.prog.cellsOf 40 = 3 := by kernel_rfl
theorem uf40 : structOf Try.prog 40 = some [(3, 0), (3, 1), (3, 2)] := by kernel_rfl
structure Prt where
 a : Int
 b : Int
 width : Int
 deriving Inhabited, DecidableEq
theorem eq_Prt (x y : Prt) : (x.a == y.a && (x.b == y.b && (x.width == y.width && (true)))) = decide (x = y) := by
 obtain ⟨a0, a1, a2⟩ := x
 obtain ⟨b0, b1, b2⟩ := y
 simp only [Prt.mk.injEq, Bool.and_true, beq_iff_eq, Bool.decide_and]
 simp only [Bool.beq_eq_decide_eq]
instance : Enc Prt where
 sz := 3
 R h x cs := cs = [.int .i64 x.a, .int .i64 x.b, .int .i64 x.width]
 len := fun e => by rw [e]; rfl
 one := fun e u hu => by
  rw [e] at hu; simp only [List.mem_cons, List.not_mem_nil, or_false] at hu
  rcases hu with rfl | rfl | rfl
  ·rfl
  ·rfl
  ·rfl
 mono := fun hl e => e
instance : Flat Prt := ⟨fun h => h⟩
def Prt.Wf (x : Prt) : Prop := (I64 x.a) ∧ (I64 x.b) ∧ (I64 x.width)
theorem rd_Prt : Rdbl Try.prog 40 Prt Prt.Wf := fun H enc w fuel cs x h hzd => by
 obtain ⟨fs, hu, hfs⟩ := structOf_spec uf40
 obtain ⟨hl, m, hf⟩ := trod_field hu h hzd
 obtain ⟨f0, hf0, ht0, ho0⟩ : ∃ f, fs[0]? = some f ∧ f.type = 3 ∧ f.offset = 0 := by
  have h1 : (fs.toList.map (fun f => (f.type, f.offset)))[0]? = some (3, 0) := by rw [hfs]; rfl
  rw [List.getElem?_map, Option.map_eq_some_iff] at h1
  obtain ⟨f, h2, h3⟩ := h1
  simp only [Prod.mk.injEq] at h3
  exact ⟨f, by simpa using h2, h3.1, h3.2⟩
 obtain ⟨y0, hy0⟩ := hf 0 f0 hf0
 rw [ht0, ho0, co3] at hy0
 obtain ⟨a0, ha0, hw0⟩ := Rdbl.part (Rdbl.int ul3) hy0
 obtain ⟨f1, hf1, ht1, ho1⟩ : ∃ f, fs[1]? = some f ∧ f.type = 3 ∧ f.offset = 1 := by
  have h1 : (fs.toList.map (fun f => (f.type, f.offset)))[1]? = some (3, 1) := by rw [hfs]; rfl
  rw [List.getElem?_map, Option.map_eq_some_iff] at h1
  obtain ⟨f, h2, h3⟩ := h1
  simp only [Prod.mk.injEq] at h3
  exact ⟨f, by simpa using h2, h3.1, h3.2⟩
 obtain ⟨y1, hy1⟩ := hf 1 f1 hf1
 rw [ht1, ho1, co3] at hy1
 obtain ⟨a1, ha1, hw1⟩ := Rdbl.part (Rdbl.int ul3) hy1
 obtain ⟨f2, hf2, ht2, ho2⟩ : ∃ f, fs[2]? = some f ∧ f.type = 3 ∧ f.offset = 2 := by
  have h1 : (fs.toList.map (fun f => (f.type, f.offset)))[2]? = some (3, 2) := by rw [hfs]; rfl
  rw [List.getElem?_map, Option.map_eq_some_iff] at h1
  obtain ⟨f, h2, h3⟩ := h1
  simp only [Prod.mk.injEq] at h3
  exact ⟨f, by simpa using h2, h3.1, h3.2⟩
 obtain ⟨y2, hy2⟩ := hf 2 f2 hf2
 rw [ht2, ho2, co3] at hy2
 obtain ⟨a2, ha2, hw2⟩ := Rdbl.part (Rdbl.int ul3) hy2
 rw [co40] at hl
 obtain ⟨x0, x1, x2, rfl⟩ : ∃ x0 x1 x2, cs = [x0, x1, x2] := by
  match cs, hl with
  | [x0, x1, x2], _ => exact ⟨x0, x1, x2, rfl⟩
 simp only [List.drop_succ_cons, List.drop_zero, List.take_succ_cons, List.take_zero] at ha0 ha1 ha2
 obtain rfl : x0 = _ := by simpa [Enc.R] using ha0
 obtain rfl : x1 = _ := by simpa [Enc.R] using ha1
 obtain rfl : x2 = _ := by simpa [Enc.R] using ha2
 exact ⟨⟨a0, a1, a2⟩, rfl, ⟨hw0, hw1, hw2⟩⟩
end Go.Proofs.Ytddicdmleeaihaa
