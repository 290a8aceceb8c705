/-
  Grounds and buildings as structures; what the statements are asked with.
-/
import Derived.Test.YthdbofgcckjopaaGreatRows
import Derived.Test.YthdbofgcckjopaaGreatW2
set_option linter.unusedVariables false
set_option linter.unusedSimpArgs false
set_option maxRecDepth 20000
set_option maxHeartbeats 4000000
namespace Go.Proofs.YthdbofgcckjopaaGreat
open Go.Vg
open Enc (R)
theorem bz5 : decide (0 < Tryz.prog.bytesOf 5) = true := by kernel_rfl
theorem co120 : Tryz.prog.cellsOf 120 = 6 := by kernel_rfl
theorem co3 : Tryz.prog.cellsOf 3 = 1 := by kernel_rfl
theorem co34 : Tryz.prog.cellsOf 34 = 1 := by kernel_rfl
theorem co36 : Tryz.prog.cellsOf 36 = 3 := by kernel_rfl
theorem co5 : Tryz.prog.cellsOf 5 = 1 := by kernel_rfl
theorem uf120 : structOf Tryz.prog 120 = some [(3, 0), (3, 1), (3, 2), (3, 3), (3, 4), (3, 5)] := by kernel_rfl
theorem uf36 : structOf Tryz.prog 36 = some [(3, 0), (3, 1), (34, 2)] := by kernel_rfl
theorem ul3 : Tryz.prog.underlying 3 = some (.int .i64) := by kernel_rfl
theorem ul5 : Tryz.prog.underlying 5 = some (.int .u8) := by kernel_rfl
theorem usl34 : Tryz.prog.underlying 34 = some (.slice 5) := by kernel_rfl
structure Grd where
 w : Int
 h : Int
 tiles : List UInt8
 deriving Inhabited
instance : Enc Grd where
 sz := 3
 R h x cs := ∃ v2, cs = [.int .i64 x.w, .int .i64 x.h, v2] ∧ Enc.R h (x.tiles : List UInt8) [v2]
 len := fun ⟨v2, e, h2⟩ => by rw [e]; rfl
 one := fun ⟨v2, e, h2⟩ u hu => by
  rw [e] at hu; simp only [List.mem_cons, List.not_mem_nil, or_false] at hu
  rcases hu with rfl | rfl | rfl
  ·rfl
  ·rfl
  ·exact Enc.one h2 _ (by simp)
 mono := fun hl ⟨v2, e, h2⟩ => ⟨v2, e, Enc.mono hl h2⟩
def Grd.Wf (x : Grd) : Prop := (I64 x.w) ∧ (I64 x.h) ∧ ((∀ y ∈ x.tiles, True) ∧ x.tiles.length ≤ 140737488351232)
theorem rd_Grd : Rdbl Tryz.prog 36 Grd Grd.Wf := fun H enc w fuel cs x h hzd => by
 obtain ⟨fs, hu, hfs⟩ := structOf_spec uf36
 obtain ⟨hl, m, hf⟩ := trod_field hu h hzd
 obtain ⟨f0, hf0, ht0, ho0⟩ : ∃ f, fs[0]? = some f ∧ f.type = 3 ∧ f.offset = 0 := by
  have h1 : (fs.toList.map (fun f => (f.type, f.offset)))[0]? = some (3, 0) := by rw [hfs]; rfl
  rw [List.getElem?_map, Option.map_eq_some_iff] at h1
  obtain ⟨f, h2, h3⟩ := h1
  simp only [Prod.mk.injEq] at h3
  exact ⟨f, by simpa using h2, h3.1, h3.2⟩
 obtain ⟨y0, hy0⟩ := hf 0 f0 hf0
 rw [ht0, ho0, co3] at hy0
 obtain ⟨a0, ha0, hw0⟩ := Rdbl.part (Rdbl.int ul3) hy0
 obtain ⟨f1, hf1, ht1, ho1⟩ : ∃ f, fs[1]? = some f ∧ f.type = 3 ∧ f.offset = 1 := by
  have h1 : (fs.toList.map (fun f => (f.type, f.offset)))[1]? = some (3, 1) := by rw [hfs]; rfl
  rw [List.getElem?_map, Option.map_eq_some_iff] at h1
  obtain ⟨f, h2, h3⟩ := h1
  simp only [Prod.mk.injEq] at h3
  exact ⟨f, by simpa using h2, h3.1, h3.2⟩
 obtain ⟨y1, hy1⟩ := hf 1 f1 hf1
 rw [ht1, ho1, co3] at hy1
 obtain ⟨a1, ha1, hw1⟩ := Rdbl.part (Rdbl.int ul3) hy1
 obtain ⟨f2, hf2, ht2, ho2⟩ : ∃ f, fs[2]? = some f ∧ f.type = 34 ∧ f.offset = 2 := by
  have h1 : (fs.toList.map (fun f => (f.type, f.offset)))[2]? = some (34, 2) := by rw [hfs]; rfl
  rw [List.getElem?_map, Option.map_eq_some_iff] at h1
  obtain ⟨f, h2, h3⟩ := h1
  simp only [Prod.mk.injEq] at h3
  exact ⟨f, by simpa using h2, h3.1, h3.2⟩
 obtain ⟨y2, hy2⟩ := hf 2 f2 hf2
 rw [ht2, ho2, co34] at hy2
 obtain ⟨a2, ha2, hw2⟩ := Rdbl.part (Rdbl.slice usl34 co5 (by decide) (Rdbl.u8 ul5) bz5) hy2
 rw [co36] at hl
 obtain ⟨x0, x1, x2, rfl⟩ : ∃ x0 x1 x2, cs = [x0, x1, x2] := by
  match cs, hl with
  | [x0, x1, x2], _ => exact ⟨x0, x1, x2, rfl⟩
 simp only [List.drop_succ_cons, List.drop_zero, List.take_succ_cons, List.take_zero] at ha0 ha1 ha2
 obtain rfl : x0 = _ := by simpa [Enc.R] using ha0
 obtain rfl : x1 = _ := by simpa [Enc.R] using ha1
 exact ⟨⟨a0, a1, a2⟩, ⟨_, rfl, ha2⟩, ⟨hw0, hw1, hw2⟩⟩
structure Bld where
 id : Int
 owner : Int
 x : Int
 y : Int
 w : Int
 h : Int
 deriving Inhabited, DecidableEq
instance : Enc Bld where
 sz := 6
 R h x cs := cs = [.int .i64 x.id, .int .i64 x.owner, .int .i64 x.x, .int .i64 x.y, .int .i64 x.w, .int .i64 x.h]
 len := fun e => by rw [e]; rfl
 one := fun e u hu => by
  rw [e] at hu; simp only [List.mem_cons, List.not_mem_nil, or_false] at hu
  rcases hu with rfl | rfl | rfl | rfl | rfl | rfl
  ·rfl
  ·rfl
  ·rfl
  ·rfl
  ·rfl
  ·rfl
 mono := fun hl e => e
def Bld.Wf (x : Bld) : Prop := (I64 x.id) ∧ (I64 x.owner) ∧ (I64 x.x) ∧ (I64 x.y) ∧ (I64 x.w) ∧ (I64 x.h)
theorem rd_Bld : Rdbl Tryz.prog 120 Bld Bld.Wf := fun H enc w fuel cs x h hzd => by
 obtain ⟨fs, hu, hfs⟩ := structOf_spec uf120
 obtain ⟨hl, m, hf⟩ := trod_field hu h hzd
 obtain ⟨f0, hf0, ht0, ho0⟩ : ∃ f, fs[0]? = some f ∧ f.type = 3 ∧ f.offset = 0 := by
  have h1 : (fs.toList.map (fun f => (f.type, f.offset)))[0]? = some (3, 0) := by rw [hfs]; rfl
  rw [List.getElem?_map, Option.map_eq_some_iff] at h1
  obtain ⟨f, h2, h3⟩ := h1
  simp only [Prod.mk.injEq] at h3
  exact ⟨f, by simpa using h2, h3.1, h3.2⟩
 obtain ⟨y0, hy0⟩ := hf 0 f0 hf0
 rw [ht0, ho0, co3] at hy0
 obtain ⟨a0, ha0, hw0⟩ := Rdbl.part (Rdbl.int ul3) hy0
 obtain ⟨f1, hf1, ht1, ho1⟩ : ∃ f, fs[1]? = some f ∧ f.type = 3 ∧ f.offset = 1 := by
  have h1 : (fs.toList.map (fun f => (f.type, f.offset)))[1]? = some (3, 1) := by rw [hfs]; rfl
  rw [List.getElem?_map, Option.map_eq_some_iff] at h1
  obtain ⟨f, h2, h3⟩ := h1
  simp only [Prod.mk.injEq] at h3
  exact ⟨f, by simpa using h2, h3.1, h3.2⟩
 obtain ⟨y1, hy1⟩ := hf 1 f1 hf1
 rw [ht1, ho1, co3] at hy1
 obtain ⟨a1, ha1, hw1⟩ := Rdbl.part (Rdbl.int ul3) hy1
 obtain ⟨f2, hf2, ht2, ho2⟩ : ∃ f, fs[2]? = some f ∧ f.type = 3 ∧ f.offset = 2 := by
  have h1 : (fs.toList.map (fun f => (f.type, f.offset)))[2]? = some (3, 2) := by rw [hfs]; rfl
  rw [List.getElem?_map, Option.map_eq_some_iff] at h1
  obtain ⟨f, h2, h3⟩ := h1
  simp only [Prod.mk.injEq] at h3
  exact ⟨f, by simpa using h2, h3.1, h3.2⟩
 obtain ⟨y2, hy2⟩ := hf 2 f2 hf2
 rw [ht2, ho2, co3] at hy2
 obtain ⟨a2, ha2, hw2⟩ := Rdbl.part (Rdbl.int ul3) hy2
 obtain ⟨f3, hf3, ht3, ho3⟩ : ∃ f, fs[3]? = some f ∧ f.type = 3 ∧ f.offset = 3 := by
  have h1 : (fs.toList.map (fun f => (f.type, f.offset)))[3]? = some (3, 3) := by rw [hfs]; rfl
  rw [List.getElem?_map, Option.map_eq_some_iff] at h1
  obtain ⟨f, h2, h3⟩ := h1
  simp only [Prod.mk.injEq] at h3
  exact ⟨f, by simpa using h2, h3.1, h3.2⟩
 obtain ⟨y3, hy3⟩ := hf 3 f3 hf3
 rw [ht3, ho3, co3] at hy3
 obtain ⟨a3, ha3, hw3⟩ := Rdbl.part (Rdbl.int ul3) hy3
 obtain ⟨f4, hf4, ht4, ho4⟩ : ∃ f, fs[4]? = some f ∧ f.type = 3 ∧ f.offset = 4 := by
  have h1 : (fs.toList.map (fun f => (f.type, f.offset)))[4]? = some (3, 4) := by rw [hfs]; rfl
  rw [List.getElem?_map, Option.map_eq_some_iff] at h1
  obtain ⟨f, h2, h3⟩ := h1
  simp only [Prod.mk.injEq] at h3
  exact ⟨f, by simpa using h2, h3.1, h3.2⟩
 obtain ⟨y4, hy4⟩ := hf 4 f4 hf4
 rw [ht4, ho4, co3] at hy4
 obtain ⟨a4, ha4, hw4⟩ := Rdbl.part (Rdbl.int ul3) hy4
 obtain ⟨f5, hf5, ht5, ho5⟩ : ∃ f, fs[5]? = some f ∧ f.type = 3 ∧ f.offset = 5 := by
  have h1 : (fs.toList.map (fun f => (f.type, f.offset)))[5]? = some (3, 5) := by rw [hfs]; rfl
  rw [List.getElem?_map, Option.map_eq_some_iff] at h1
  obtain ⟨f, h2, h3⟩ := h1
  simp only [Prod.mk.injEq] at h3
  exact ⟨f, by simpa using h2, h3.1, h3.2⟩
 obtain ⟨y5, hy5⟩ := hf 5 f5 hf5
 rw [ht5, ho5, co3] at hy5
 obtain ⟨a5, ha5, hw5⟩ := Rdbl.part (Rdbl.int ul3) hy5
 rw [co120] at hl
 obtain ⟨x0, x1, x2, x3, x4, x5, rfl⟩ : ∃ x0 x1 x2 x3 x4 x5, cs = [x0, x1, x2, x3, x4, x5] := by
  match cs, hl with
  | [x0, x1, x2, x3, x4, x5], _ => exact ⟨x0, x1, x2, x3, x4, x5, rfl⟩
 simp only [List.drop_succ_cons, List.drop_zero, List.take_succ_cons, List.take_zero] at ha0 ha1 ha2 ha3 ha4 ha5
 obtain rfl : x0 = _ := by simpa [Enc.R] using ha0
 obtain rfl : x1 = _ := by simpa [Enc.R] using ha1
 obtain rfl : x2 = _ := by simpa [Enc.R] using ha2
 obtain rfl : x3 = _ := by simpa [Enc.R] using ha3
 obtain rfl : x4 = _ := by simpa [Enc.R] using ha4
 obtain rfl : x5 = _ := by simpa [Enc.R] using ha5
 exact ⟨⟨a0, a1, a2, a3, a4, a5⟩, rfl, ⟨hw0, hw1, hw2, hw3, hw4, hw5⟩⟩
end Go.Proofs.YthdbofgcckjopaaGreat
