/-
  Commands, inputs, notes, peers as structures.
-/
import Derived.Test.YtlpmiledfcblfaaRows
import Derived.Test.YtlpmiledfcblfaaVY
set_option linter.unusedVariables false
set_option linter.unusedSimpArgs false
set_option maxRecDepth 20000
set_option maxHeartbeats 4000000
namespace Go.Proofs.Ytlpmiledfcblfaa
open Go.Vg
open Enc (R)
theorem bz3 : decide (0 < Try.prog.bytesOf 3) = true := by kernel_rfl
theorem bz50 : decide (0 < Try.prog.bytesOf 50) = true := by kernel_rfl
theorem bz54 : decide (0 < Try.prog.bytesOf 54) = true := by kernel_rfl
theorem co2 : Try.prog.cellsOf 2 = 1 := by kernel_rfl
theorem co24 : Try.prog.cellsOf 24 = 1 := by kernel_rfl
theorem co25 : Try.prog.cellsOf 25 = 1 := by kernel_rfl
theorem co3 : Try.prog.cellsOf 3 = 1 := by kernel_rfl
theorem co38 : Try.prog.cellsOf 38 = 3 := by kernel_rfl
theorem co41 : Try.prog.cellsOf 41 = 1 := by kernel_rfl
theorem co50 : Try.prog.cellsOf 50 = 3 := by kernel_rfl
theorem co52 : Try.prog.cellsOf 52 = 2 := by kernel_rfl
theorem co54 : Try.prog.cellsOf 54 = 10 := by kernel_rfl
theorem uf38 : structOf Try.prog 38 = some [(24, 0), (24, 1), (25, 2)] := by kernel_rfl
theorem uf50 : structOf Try.prog 50 = some [(3, 0), (3, 1), (41, 2)] := by kernel_rfl
theorem uf52 : structOf Try.prog 52 = some [(2, 0), (2, 1)] := by kernel_rfl
theorem uf54 : structOf Try.prog 54 = some [(3, 0), (3, 1), (3, 2), (3, 3), (25, 4), (3, 5), (3, 6), (3, 7), (52, 8)] := by kernel_rfl
theorem ul2 : Try.prog.underlying 2 = some (.int .i64) := by kernel_rfl
theorem ul3 : Try.prog.underlying 3 = some (.int .i64) := by kernel_rfl
theorem usl24 : Try.prog.underlying 24 = some (.slice 50) := by kernel_rfl
theorem usl25 : Try.prog.underlying 25 = some (.slice 3) := by kernel_rfl
theorem usl41 : Try.prog.underlying 41 = some (.slice 54) := by kernel_rfl
structure Vec where
 x : Int
 y : Int
 deriving Inhabited, DecidableEq
theorem eq_Vec (x y : Vec) : (x.x == y.x && (x.y == y.y && (true))) = decide (x = y) := by
 obtain ⟨a0, a1⟩ := x
 obtain ⟨b0, b1⟩ := y
 simp only [Vec.mk.injEq, Bool.and_true, beq_iff_eq, Bool.decide_and]
 simp only [Bool.beq_eq_decide_eq]
instance : Enc Vec where
 sz := 2
 R h x cs := cs = [.int .i64 x.x, .int .i64 x.y]
 len := fun e => by rw [e]; rfl
 one := fun e u hu => by
  rw [e] at hu; simp only [List.mem_cons, List.not_mem_nil, or_false] at hu
  rcases hu with rfl | rfl
  ·rfl
  ·rfl
 mono := fun hl e => e
instance : Flat Vec := ⟨fun h => h⟩
def Vec.Wf (x : Vec) : Prop := (I64 x.x) ∧ (I64 x.y)
theorem rd_Vec : Rdbl Try.prog 52 Vec Vec.Wf := fun H enc w fuel cs x h hzd => by
 obtain ⟨fs, hu, hfs⟩ := structOf_spec uf52
 obtain ⟨hl, m, hf⟩ := trod_field hu h hzd
 obtain ⟨f0, hf0, ht0, ho0⟩ : ∃ f, fs[0]? = some f ∧ f.type = 2 ∧ f.offset = 0 := by
  have h1 : (fs.toList.map (fun f => (f.type, f.offset)))[0]? = some (2, 0) := by rw [hfs]; rfl
  rw [List.getElem?_map, Option.map_eq_some_iff] at h1
  obtain ⟨f, h2, h3⟩ := h1
  simp only [Prod.mk.injEq] at h3
  exact ⟨f, by simpa using h2, h3.1, h3.2⟩
 obtain ⟨y0, hy0⟩ := hf 0 f0 hf0
 rw [ht0, ho0, co2] at hy0
 obtain ⟨a0, ha0, hw0⟩ := Rdbl.part (Rdbl.int ul2) hy0
 obtain ⟨f1, hf1, ht1, ho1⟩ : ∃ f, fs[1]? = some f ∧ f.type = 2 ∧ f.offset = 1 := by
  have h1 : (fs.toList.map (fun f => (f.type, f.offset)))[1]? = some (2, 1) := by rw [hfs]; rfl
  rw [List.getElem?_map, Option.map_eq_some_iff] at h1
  obtain ⟨f, h2, h3⟩ := h1
  simp only [Prod.mk.injEq] at h3
  exact ⟨f, by simpa using h2, h3.1, h3.2⟩
 obtain ⟨y1, hy1⟩ := hf 1 f1 hf1
 rw [ht1, ho1, co2] at hy1
 obtain ⟨a1, ha1, hw1⟩ := Rdbl.part (Rdbl.int ul2) hy1
 rw [co52] at hl
 obtain ⟨x0, x1, rfl⟩ : ∃ x0 x1, cs = [x0, x1] := by
  match cs, hl with
  | [x0, x1], _ => exact ⟨x0, x1, rfl⟩
 simp only [List.drop_succ_cons, List.drop_zero, List.take_succ_cons, List.take_zero] at ha0 ha1
 obtain rfl : x0 = _ := by simpa [Enc.R] using ha0
 obtain rfl : x1 = _ := by simpa [Enc.R] using ha1
 exact ⟨⟨a0, a1⟩, rfl, ⟨hw0, hw1⟩⟩
structure Cmd where
 player : Int
 seq : Int
 kind : Int
 n : Int
 units : List Int
 tile : Int
 w : Int
 h : Int
 pos : Vec
 deriving Inhabited, DecidableEq
instance : Enc Cmd where
 sz := 10
 R h x cs := ∃ v4, cs = [.int .i64 x.player, .int .i64 x.seq, .int .i64 x.kind, .int .i64 x.n, v4, .int .i64 x.tile, .int .i64 x.w, .int .i64 x.h, .int .i64 x.pos.x, .int .i64 x.pos.y] ∧ Enc.R h (x.units : List Int) [v4]
 len := fun ⟨v4, e, h4⟩ => by rw [e]; rfl
 one := fun ⟨v4, e, h4⟩ u hu => by
  rw [e] at hu; simp only [List.mem_cons, List.not_mem_nil, or_false] at hu
  rcases hu with rfl | rfl | rfl | rfl | rfl | rfl | rfl | rfl | rfl | rfl
  ·rfl
  ·rfl
  ·rfl
  ·rfl
  ·exact Enc.one h4 _ (by simp)
  ·rfl
  ·rfl
  ·rfl
  ·rfl
  ·rfl
 mono := fun hl ⟨v4, e, h4⟩ => ⟨v4, e, Enc.mono hl h4⟩
instance : Deep Cmd where
 D h x c := ∃ q0 : Option Nat × Nat, c = [.int .i64 x.player, .int .i64 x.seq, .int .i64 x.kind, .int .i64 x.n, rowV q0 x.units.length, .int .i64 x.tile, .int .i64 x.w, .int .i64 x.h, .int .i64 x.pos.x, .int .i64 x.pos.y] ∧ stars [row nilH 3 (rowV q0 x.units.length) x.units] h
 toR := fun ⟨q0, e, ⟨_, _, a0, _, _, l0, k0⟩⟩ => ⟨_, e, Enc.mono l0 (row_R a0)⟩
 mono := fun hl ⟨q0, e, s⟩ => ⟨_, e, stars_mono hl s⟩
def Cmd.Wf (x : Cmd) : Prop := (I64 x.player) ∧ (I64 x.seq) ∧ (I64 x.kind) ∧ (I64 x.n) ∧ ((∀ y ∈ x.units, I64 y) ∧ x.units.length ≤ 140737488351232) ∧ (I64 x.tile) ∧ (I64 x.w) ∧ (I64 x.h) ∧ (Vec.Wf x.pos)
theorem rd_Cmd : Rdbl Try.prog 54 Cmd Cmd.Wf := fun H enc w fuel cs x h hzd => by
 obtain ⟨fs, hu, hfs⟩ := structOf_spec uf54
 obtain ⟨hl, m, hf⟩ := trod_field hu h hzd
 obtain ⟨f0, hf0, ht0, ho0⟩ : ∃ f, fs[0]? = some f ∧ f.type = 3 ∧ f.offset = 0 := by
  have h1 : (fs.toList.map (fun f => (f.type, f.offset)))[0]? = some (3, 0) := by rw [hfs]; rfl
  rw [List.getElem?_map, Option.map_eq_some_iff] at h1
  obtain ⟨f, h2, h3⟩ := h1
  simp only [Prod.mk.injEq] at h3
  exact ⟨f, by simpa using h2, h3.1, h3.2⟩
 obtain ⟨y0, hy0⟩ := hf 0 f0 hf0
 rw [ht0, ho0, co3] at hy0
 obtain ⟨a0, ha0, hw0⟩ := Rdbl.part (Rdbl.int ul3) hy0
 obtain ⟨f1, hf1, ht1, ho1⟩ : ∃ f, fs[1]? = some f ∧ f.type = 3 ∧ f.offset = 1 := by
  have h1 : (fs.toList.map (fun f => (f.type, f.offset)))[1]? = some (3, 1) := by rw [hfs]; rfl
  rw [List.getElem?_map, Option.map_eq_some_iff] at h1
  obtain ⟨f, h2, h3⟩ := h1
  simp only [Prod.mk.injEq] at h3
  exact ⟨f, by simpa using h2, h3.1, h3.2⟩
 obtain ⟨y1, hy1⟩ := hf 1 f1 hf1
 rw [ht1, ho1, co3] at hy1
 obtain ⟨a1, ha1, hw1⟩ := Rdbl.part (Rdbl.int ul3) hy1
 obtain ⟨f2, hf2, ht2, ho2⟩ : ∃ f, fs[2]? = some f ∧ f.type = 3 ∧ f.offset = 2 := by
  have h1 : (fs.toList.map (fun f => (f.type, f.offset)))[2]? = some (3, 2) := by rw [hfs]; rfl
  rw [List.getElem?_map, Option.map_eq_some_iff] at h1
  obtain ⟨f, h2, h3⟩ := h1
  simp only [Prod.mk.injEq] at h3
  exact ⟨f, by simpa using h2, h3.1, h3.2⟩
 obtain ⟨y2, hy2⟩ := hf 2 f2 hf2
 rw [ht2, ho2, co3] at hy2
 obtain ⟨a2, ha2, hw2⟩ := Rdbl.part (Rdbl.int ul3) hy2
 obtain ⟨f3, hf3, ht3, ho3⟩ : ∃ f, fs[3]? = some f ∧ f.type = 3 ∧ f.offset = 3 := by
  have h1 : (fs.toList.map (fun f => (f.type, f.offset)))[3]? = some (3, 3) := by rw [hfs]; rfl
  rw [List.getElem?_map, Option.map_eq_some_iff] at h1
  obtain ⟨f, h2, h3⟩ := h1
  simp only [Prod.mk.injEq] at h3
  exact ⟨f, by simpa using h2, h3.1, h3.2⟩
 obtain ⟨y3, hy3⟩ := hf 3 f3 hf3
 rw [ht3, ho3, co3] at hy3
 obtain ⟨a3, ha3, hw3⟩ := Rdbl.part (Rdbl.int ul3) hy3
 obtain ⟨f4, hf4, ht4, ho4⟩ : ∃ f, fs[4]? = some f ∧ f.type = 25 ∧ f.offset = 4 := by
  have h1 : (fs.toList.map (fun f => (f.type, f.offset)))[4]? = some (25, 4) := by rw [hfs]; rfl
  rw [List.getElem?_map, Option.map_eq_some_iff] at h1
  obtain ⟨f, h2, h3⟩ := h1
  simp only [Prod.mk.injEq] at h3
  exact ⟨f, by simpa using h2, h3.1, h3.2⟩
 obtain ⟨y4, hy4⟩ := hf 4 f4 hf4
 rw [ht4, ho4, co25] at hy4
 obtain ⟨a4, ha4, hw4⟩ := Rdbl.part (Rdbl.slice usl25 co3 (by decide) (Rdbl.int ul3) bz3) hy4
 obtain ⟨f5, hf5, ht5, ho5⟩ : ∃ f, fs[5]? = some f ∧ f.type = 3 ∧ f.offset = 5 := by
  have h1 : (fs.toList.map (fun f => (f.type, f.offset)))[5]? = some (3, 5) := by rw [hfs]; rfl
  rw [List.getElem?_map, Option.map_eq_some_iff] at h1
  obtain ⟨f, h2, h3⟩ := h1
  simp only [Prod.mk.injEq] at h3
  exact ⟨f, by simpa using h2, h3.1, h3.2⟩
 obtain ⟨y5, hy5⟩ := hf 5 f5 hf5
 rw [ht5, ho5, co3] at hy5
 obtain ⟨a5, ha5, hw5⟩ := Rdbl.part (Rdbl.int ul3) hy5
 obtain ⟨f6, hf6, ht6, ho6⟩ : ∃ f, fs[6]? = some f ∧ f.type = 3 ∧ f.offset = 6 := by
  have h1 : (fs.toList.map (fun f => (f.type, f.offset)))[6]? = some (3, 6) := by rw [hfs]; rfl
  rw [List.getElem?_map, Option.map_eq_some_iff] at h1
  obtain ⟨f, h2, h3⟩ := h1
  simp only [Prod.mk.injEq] at h3
  exact ⟨f, by simpa using h2, h3.1, h3.2⟩
 obtain ⟨y6, hy6⟩ := hf 6 f6 hf6
 rw [ht6, ho6, co3] at hy6
 obtain ⟨a6, ha6, hw6⟩ := Rdbl.part (Rdbl.int ul3) hy6
 obtain ⟨f7, hf7, ht7, ho7⟩ : ∃ f, fs[7]? = some f ∧ f.type = 3 ∧ f.offset = 7 := by
  have h1 : (fs.toList.map (fun f => (f.type, f.offset)))[7]? = some (3, 7) := by rw [hfs]; rfl
  rw [List.getElem?_map, Option.map_eq_some_iff] at h1
  obtain ⟨f, h2, h3⟩ := h1
  simp only [Prod.mk.injEq] at h3
  exact ⟨f, by simpa using h2, h3.1, h3.2⟩
 obtain ⟨y7, hy7⟩ := hf 7 f7 hf7
 rw [ht7, ho7, co3] at hy7
 obtain ⟨a7, ha7, hw7⟩ := Rdbl.part (Rdbl.int ul3) hy7
 obtain ⟨f8, hf8, ht8, ho8⟩ : ∃ f, fs[8]? = some f ∧ f.type = 52 ∧ f.offset = 8 := by
  have h1 : (fs.toList.map (fun f => (f.type, f.offset)))[8]? = some (52, 8) := by rw [hfs]; rfl
  rw [List.getElem?_map, Option.map_eq_some_iff] at h1
  obtain ⟨f, h2, h3⟩ := h1
  simp only [Prod.mk.injEq] at h3
  exact ⟨f, by simpa using h2, h3.1, h3.2⟩
 obtain ⟨y8, hy8⟩ := hf 8 f8 hf8
 rw [ht8, ho8, co52] at hy8
 obtain ⟨a8, ha8, hw8⟩ := Rdbl.part rd_Vec hy8
 rw [co54] at hl
 obtain ⟨x0, x1, x2, x3, x4, x5, x6, x7, x8, x9, rfl⟩ : ∃ x0 x1 x2 x3 x4 x5 x6 x7 x8 x9, cs = [x0, x1, x2, x3, x4, x5, x6, x7, x8, x9] := by
  match cs, hl with
  | [x0, x1, x2, x3, x4, x5, x6, x7, x8, x9], _ => exact ⟨x0, x1, x2, x3, x4, x5, x6, x7, x8, x9, rfl⟩
 simp only [List.drop_succ_cons, List.drop_zero, List.take_succ_cons, List.take_zero] at ha0 ha1 ha2 ha3 ha4 ha5 ha6 ha7 ha8
 obtain rfl : x0 = _ := by simpa [Enc.R] using ha0
 obtain rfl : x1 = _ := by simpa [Enc.R] using ha1
 obtain rfl : x2 = _ := by simpa [Enc.R] using ha2
 obtain rfl : x3 = _ := by simpa [Enc.R] using ha3
 obtain rfl : x5 = _ := by simpa [Enc.R] using ha5
 obtain rfl : x6 = _ := by simpa [Enc.R] using ha6
 obtain rfl : x7 = _ := by simpa [Enc.R] using ha7
 have e8 := ha8
 simp only [Enc.R, List.cons.injEq, and_true] at e8
 obtain ⟨rfl, rfl⟩ := e8
 exact ⟨⟨a0, a1, a2, a3, a4, a5, a6, a7, a8⟩, ⟨_, rfl, ha4⟩, ⟨hw0, hw1, hw2, hw3, hw4, hw5, hw6, hw7, hw8⟩⟩
structure Inp where
 turn : Int
 player : Int
 commands : List Cmd
 deriving Inhabited, DecidableEq
instance : Enc Inp where
 sz := 3
 R h x cs := ∃ v2, cs = [.int .i64 x.turn, .int .i64 x.player, v2] ∧ Enc.R h (x.commands : List Cmd) [v2]
 len := fun ⟨v2, e, h2⟩ => by rw [e]; rfl
 one := fun ⟨v2, e, h2⟩ u hu => by
  rw [e] at hu; simp only [List.mem_cons, List.not_mem_nil, or_false] at hu
  rcases hu with rfl | rfl | rfl
  ·rfl
  ·rfl
  ·exact Enc.one h2 _ (by simp)
 mono := fun hl ⟨v2, e, h2⟩ => ⟨v2, e, Enc.mono hl h2⟩
instance : Deep Inp where
 D h x c := ∃ q0 : Option Nat × Nat, c = [.int .i64 x.turn, .int .i64 x.player, rowV q0 x.commands.length] ∧ stars [drow 54 (rowV q0 x.commands.length) x.commands] h
 toR := fun ⟨q0, e, ⟨_, _, a0, _, _, l0, k0⟩⟩ => ⟨_, e, Enc.mono l0 (drow_R a0)⟩
 mono := fun hl ⟨q0, e, s⟩ => ⟨_, e, stars_mono hl s⟩
def Inp.Wf (x : Inp) : Prop := (I64 x.turn) ∧ (I64 x.player) ∧ ((∀ y ∈ x.commands, Cmd.Wf y) ∧ x.commands.length ≤ 140737488351232)
theorem rd_Inp : Rdbl Try.prog 50 Inp Inp.Wf := fun H enc w fuel cs x h hzd => by
 obtain ⟨fs, hu, hfs⟩ := structOf_spec uf50
 obtain ⟨hl, m, hf⟩ := trod_field hu h hzd
 obtain ⟨f0, hf0, ht0, ho0⟩ : ∃ f, fs[0]? = some f ∧ f.type = 3 ∧ f.offset = 0 := by
  have h1 : (fs.toList.map (fun f => (f.type, f.offset)))[0]? = some (3, 0) := by rw [hfs]; rfl
  rw [List.getElem?_map, Option.map_eq_some_iff] at h1
  obtain ⟨f, h2, h3⟩ := h1
  simp only [Prod.mk.injEq] at h3
  exact ⟨f, by simpa using h2, h3.1, h3.2⟩
 obtain ⟨y0, hy0⟩ := hf 0 f0 hf0
 rw [ht0, ho0, co3] at hy0
 obtain ⟨a0, ha0, hw0⟩ := Rdbl.part (Rdbl.int ul3) hy0
 obtain ⟨f1, hf1, ht1, ho1⟩ : ∃ f, fs[1]? = some f ∧ f.type = 3 ∧ f.offset = 1 := by
  have h1 : (fs.toList.map (fun f => (f.type, f.offset)))[1]? = some (3, 1) := by rw [hfs]; rfl
  rw [List.getElem?_map, Option.map_eq_some_iff] at h1
  obtain ⟨f, h2, h3⟩ := h1
  simp only [Prod.mk.injEq] at h3
  exact ⟨f, by simpa using h2, h3.1, h3.2⟩
 obtain ⟨y1, hy1⟩ := hf 1 f1 hf1
 rw [ht1, ho1, co3] at hy1
 obtain ⟨a1, ha1, hw1⟩ := Rdbl.part (Rdbl.int ul3) hy1
 obtain ⟨f2, hf2, ht2, ho2⟩ : ∃ f, fs[2]? = some f ∧ f.type = 41 ∧ f.offset = 2 := by
  have h1 : (fs.toList.map (fun f => (f.type, f.offset)))[2]? = some (41, 2) := by rw [hfs]; rfl
  rw [List.getElem?_map, Option.map_eq_some_iff] at h1
  obtain ⟨f, h2, h3⟩ := h1
  simp only [Prod.mk.injEq] at h3
  exact ⟨f, by simpa using h2, h3.1, h3.2⟩
 obtain ⟨y2, hy2⟩ := hf 2 f2 hf2
 rw [ht2, ho2, co41] at hy2
 obtain ⟨a2, ha2, hw2⟩ := Rdbl.part (Rdbl.slice usl41 co54 (by decide) rd_Cmd bz54) hy2
 rw [co50] at hl
 obtain ⟨x0, x1, x2, rfl⟩ : ∃ x0 x1 x2, cs = [x0, x1, x2] := by
  match cs, hl with
  | [x0, x1, x2], _ => exact ⟨x0, x1, x2, rfl⟩
 simp only [List.drop_succ_cons, List.drop_zero, List.take_succ_cons, List.take_zero] at ha0 ha1 ha2
 obtain rfl : x0 = _ := by simpa [Enc.R] using ha0
 obtain rfl : x1 = _ := by simpa [Enc.R] using ha1
 exact ⟨⟨a0, a1, a2⟩, ⟨_, rfl, ha2⟩, ⟨hw0, hw1, hw2⟩⟩
structure Ask27 where
 l : List Inp
 more : List Inp
 ts : List Int
 deriving Inhabited
instance : Enc Ask27 where
 sz := 3
 R h x cs := ∃ v0 v1 v2, cs = [v0, v1, v2] ∧ Enc.R h (x.l : List Inp) [v0] ∧ Enc.R h (x.more : List Inp) [v1] ∧ Enc.R h (x.ts : List Int) [v2]
 len := fun ⟨v0, v1, v2, e, h0, h1, h2⟩ => by rw [e]; rfl
 one := fun ⟨v0, v1, v2, e, h0, h1, h2⟩ u hu => by
  rw [e] at hu; simp only [List.mem_cons, List.not_mem_nil, or_false] at hu
  rcases hu with rfl | rfl | rfl
  ·exact Enc.one h0 _ (by simp)
  ·exact Enc.one h1 _ (by simp)
  ·exact Enc.one h2 _ (by simp)
 mono := fun hl ⟨v0, v1, v2, e, h0, h1, h2⟩ => ⟨v0, v1, v2, e, Enc.mono hl h0, Enc.mono hl h1, Enc.mono hl h2⟩
def Ask27.Wf (x : Ask27) : Prop := ((∀ y ∈ x.l, Inp.Wf y) ∧ x.l.length ≤ 140737488351232) ∧ ((∀ y ∈ x.more, Inp.Wf y) ∧ x.more.length ≤ 140737488351232) ∧ ((∀ y ∈ x.ts, I64 y) ∧ x.ts.length ≤ 140737488351232)
theorem rd_Ask27 : Rdbl Try.prog 38 Ask27 Ask27.Wf := fun H enc w fuel cs x h hzd => by
 obtain ⟨fs, hu, hfs⟩ := structOf_spec uf38
 obtain ⟨hl, m, hf⟩ := trod_field hu h hzd
 obtain ⟨f0, hf0, ht0, ho0⟩ : ∃ f, fs[0]? = some f ∧ f.type = 24 ∧ f.offset = 0 := by
  have h1 : (fs.toList.map (fun f => (f.type, f.offset)))[0]? = some (24, 0) := by rw [hfs]; rfl
  rw [List.getElem?_map, Option.map_eq_some_iff] at h1
  obtain ⟨f, h2, h3⟩ := h1
  simp only [Prod.mk.injEq] at h3
  exact ⟨f, by simpa using h2, h3.1, h3.2⟩
 obtain ⟨y0, hy0⟩ := hf 0 f0 hf0
 rw [ht0, ho0, co24] at hy0
 obtain ⟨a0, ha0, hw0⟩ := Rdbl.part (Rdbl.slice usl24 co50 (by decide) rd_Inp bz50) hy0
 obtain ⟨f1, hf1, ht1, ho1⟩ : ∃ f, fs[1]? = some f ∧ f.type = 24 ∧ f.offset = 1 := by
  have h1 : (fs.toList.map (fun f => (f.type, f.offset)))[1]? = some (24, 1) := by rw [hfs]; rfl
  rw [List.getElem?_map, Option.map_eq_some_iff] at h1
  obtain ⟨f, h2, h3⟩ := h1
  simp only [Prod.mk.injEq] at h3
  exact ⟨f, by simpa using h2, h3.1, h3.2⟩
 obtain ⟨y1, hy1⟩ := hf 1 f1 hf1
 rw [ht1, ho1, co24] at hy1
 obtain ⟨a1, ha1, hw1⟩ := Rdbl.part (Rdbl.slice usl24 co50 (by decide) rd_Inp bz50) hy1
 obtain ⟨f2, hf2, ht2, ho2⟩ : ∃ f, fs[2]? = some f ∧ f.type = 25 ∧ f.offset = 2 := by
  have h1 : (fs.toList.map (fun f => (f.type, f.offset)))[2]? = some (25, 2) := by rw [hfs]; rfl
  rw [List.getElem?_map, Option.map_eq_some_iff] at h1
  obtain ⟨f, h2, h3⟩ := h1
  simp only [Prod.mk.injEq] at h3
  exact ⟨f, by simpa using h2, h3.1, h3.2⟩
 obtain ⟨y2, hy2⟩ := hf 2 f2 hf2
 rw [ht2, ho2, co25] at hy2
 obtain ⟨a2, ha2, hw2⟩ := Rdbl.part (Rdbl.slice usl25 co3 (by decide) (Rdbl.int ul3) bz3) hy2
 rw [co38] at hl
 obtain ⟨x0, x1, x2, rfl⟩ : ∃ x0 x1 x2, cs = [x0, x1, x2] := by
  match cs, hl with
  | [x0, x1, x2], _ => exact ⟨x0, x1, x2, rfl⟩
 simp only [List.drop_succ_cons, List.drop_zero, List.take_succ_cons, List.take_zero] at ha0 ha1 ha2
 exact ⟨⟨a0, a1, a2⟩, ⟨_, _, _, rfl, ha0, ha1, ha2⟩, ⟨hw0, hw1, hw2⟩⟩
end Go.Proofs.Ytlpmiledfcblfaa
