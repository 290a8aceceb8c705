/-
  Commands, inputs, notes, peers as structures.
-/
import Derived.Test.YtlpmiledfcblfaaRows
import Derived.Test.YtlpmiledfcblfaaVY
set_option linter.unusedVariables false
set_option linter.unusedSimpArgs false
set_option maxRecDepth 20000
set_option maxHeartbeats 4000000
namespace Go.Proofs.Ytlpmiledfcblfaa
open Go.Vg
open Enc (R)
theorem bz3 : decide (0 < Try.prog.bytesOf 3) = true := by kernel_rfl
theorem bz50 : decide (0 < Try.prog.bytesOf 50) = true := by kernel_rfl
theorem bz54 : decide (0 < Try.prog.bytesOf 54) = true := by kernel_rfl
theorem bz67 : decide (0 < Try.prog.bytesOf 67) = true := by kernel_rfl
theorem bz88 : decide (0 < Try.prog.bytesOf 88) = true := by kernel_rfl
theorem bz94 : decide (0 < Try.prog.bytesOf 94) = true := by kernel_rfl
theorem co2 : Try.prog.cellsOf 2 = 1 := by kernel_rfl
theorem co24 : Try.prog.cellsOf 24 = 1 := by kernel_rfl
theorem co25 : Try.prog.cellsOf 25 = 1 := by kernel_rfl
theorem co26 : Try.prog.cellsOf 26 = 1 := by kernel_rfl
theorem co28 : Try.prog.cellsOf 28 = 11 := by kernel_rfl
theorem co3 : Try.prog.cellsOf 3 = 1 := by kernel_rfl
theorem co38 : Try.prog.cellsOf 38 = 3 := by kernel_rfl
theorem co4 : Try.prog.cellsOf 4 = 1 := by kernel_rfl
theorem co41 : Try.prog.cellsOf 41 = 1 := by kernel_rfl
theorem co50 : Try.prog.cellsOf 50 = 3 := by kernel_rfl
theorem co52 : Try.prog.cellsOf 52 = 2 := by kernel_rfl
theorem co54 : Try.prog.cellsOf 54 = 10 := by kernel_rfl
theorem co59 : Try.prog.cellsOf 59 = 1 := by kernel_rfl
theorem co61 : Try.prog.cellsOf 61 = 3 := by kernel_rfl
theorem co67 : Try.prog.cellsOf 67 = 1 := by kernel_rfl
theorem co79 : Try.prog.cellsOf 79 = 8 := by kernel_rfl
theorem co81 : Try.prog.cellsOf 81 = 1 := by kernel_rfl
theorem co83 : Try.prog.cellsOf 83 = 12 := by kernel_rfl
theorem co88 : Try.prog.cellsOf 88 = 12 := by kernel_rfl
theorem co94 : Try.prog.cellsOf 94 = 3 := by kernel_rfl
theorem uf28 : structOf Try.prog 28 = some [(3, 0), (3, 1), (3, 2), (3, 3), (3, 4), (24, 5), (24, 6), (25, 7), (25, 8), (26, 9), (4, 10)] := by kernel_rfl
theorem uf38 : structOf Try.prog 38 = some [(24, 0), (24, 1), (25, 2)] := by kernel_rfl
theorem uf50 : structOf Try.prog 50 = some [(3, 0), (3, 1), (41, 2)] := by kernel_rfl
theorem uf52 : structOf Try.prog 52 = some [(2, 0), (2, 1)] := by kernel_rfl
theorem uf54 : structOf Try.prog 54 = some [(3, 0), (3, 1), (3, 2), (3, 3), (25, 4), (3, 5), (3, 6), (3, 7), (52, 8)] := by kernel_rfl
theorem uf61 : structOf Try.prog 61 = some [(3, 0), (3, 1), (59, 2)] := by kernel_rfl
theorem uf79 : structOf Try.prog 79 = some [(3, 0), (3, 1), (50, 2), (3, 5), (67, 6), (3, 7)] := by kernel_rfl
theorem uf83 : structOf Try.prog 83 = some [(28, 0), (81, 11)] := by kernel_rfl
theorem uf88 : structOf Try.prog 88 = some [(3, 0), (41, 1), (79, 2), (4, 10), (67, 11)] := by kernel_rfl
theorem uf94 : structOf Try.prog 94 = some [(3, 0), (3, 1), (3, 2)] := by kernel_rfl
theorem ul2 : Try.prog.underlying 2 = some (.int .i64) := by kernel_rfl
theorem ul3 : Try.prog.underlying 3 = some (.int .i64) := by kernel_rfl
theorem ul4 : Try.prog.underlying 4 = some .bool := by kernel_rfl
theorem ul67 : Try.prog.underlying 67 = some (.int .u64) := by kernel_rfl
theorem usl24 : Try.prog.underlying 24 = some (.slice 50) := by kernel_rfl
theorem usl25 : Try.prog.underlying 25 = some (.slice 3) := by kernel_rfl
theorem usl26 : Try.prog.underlying 26 = some (.slice 67) := by kernel_rfl
theorem usl41 : Try.prog.underlying 41 = some (.slice 54) := by kernel_rfl
theorem usl59 : Try.prog.underlying 59 = some (.slice 94) := by kernel_rfl
theorem usl81 : Try.prog.underlying 81 = some (.slice 88) := by kernel_rfl
structure Vec where
 x : Int
 y : Int
 deriving Inhabited, DecidableEq
theorem eq_Vec (x y : Vec) : (x.x == y.x && (x.y == y.y && (true))) = decide (x = y) := by
 obtain ⟨a0, a1⟩ := x
 obtain ⟨b0, b1⟩ := y
 simp only [Vec.mk.injEq, Bool.and_true, beq_iff_eq, Bool.decide_and]
 simp only [Bool.beq_eq_decide_eq]
instance : Enc Vec where
 sz := 2
 R h x cs := cs = [.int .i64 x.x, .int .i64 x.y]
 len := fun e => by rw [e]; rfl
 one := fun e u hu => by
  rw [e] at hu; simp only [List.mem_cons, List.not_mem_nil, or_false] at hu
  rcases hu with rfl | rfl
  ·rfl
  ·rfl
 mono := fun hl e => e
instance : Flat Vec := ⟨fun h => h⟩
def Vec.Wf (x : Vec) : Prop := (I64 x.x) ∧ (I64 x.y)
theorem rd_Vec : Rdbl Try.prog 52 Vec Vec.Wf := fun H enc w fuel cs x h hzd => by
 obtain ⟨fs, hu, hfs⟩ := structOf_spec uf52
 obtain ⟨hl, m, hf⟩ := trod_field hu h hzd
 obtain ⟨f0, hf0, ht0, ho0⟩ : ∃ f, fs[0]? = some f ∧ f.type = 2 ∧ f.offset = 0 := by
  have h1 : (fs.toList.map (fun f => (f.type, f.offset)))[0]? = some (2, 0) := by rw [hfs]; rfl
  rw [List.getElem?_map, Option.map_eq_some_iff] at h1
  obtain ⟨f, h2, h3⟩ := h1
  simp only [Prod.mk.injEq] at h3
  exact ⟨f, by simpa using h2, h3.1, h3.2⟩
 obtain ⟨y0, hy0⟩ := hf 0 f0 hf0
 rw [ht0, ho0, co2] at hy0
 obtain ⟨a0, ha0, hw0⟩ := Rdbl.part (Rdbl.int ul2) hy0
 obtain ⟨f1, hf1, ht1, ho1⟩ : ∃ f, fs[1]? = some f ∧ f.type = 2 ∧ f.offset = 1 := by
  have h1 : (fs.toList.map (fun f => (f.type, f.offset)))[1]? = some (2, 1) := by rw [hfs]; rfl
  rw [List.getElem?_map, Option.map_eq_some_iff] at h1
  obtain ⟨f, h2, h3⟩ := h1
  simp only [Prod.mk.injEq] at h3
  exact ⟨f, by simpa using h2, h3.1, h3.2⟩
 obtain ⟨y1, hy1⟩ := hf 1 f1 hf1
 rw [ht1, ho1, co2] at hy1
 obtain ⟨a1, ha1, hw1⟩ := Rdbl.part (Rdbl.int ul2) hy1
 rw [co52] at hl
 obtain ⟨x0, x1, rfl⟩ : ∃ x0 x1, cs = [x0, x1] := by
  match cs, hl with
  | [x0, x1], _ => exact ⟨x0, x1, rfl⟩
 simp only [List.drop_succ_cons, List.drop_zero, List.take_succ_cons, List.take_zero] at ha0 ha1
 obtain rfl : x0 = _ := by simpa [Enc.R] using ha0
 obtain rfl : x1 = _ := by simpa [Enc.R] using ha1
 exact ⟨⟨a0, a1⟩, rfl, ⟨hw0, hw1⟩⟩
structure Cmd where
 player : Int
 seq : Int
 kind : Int
 n : Int
 units : List Int
 tile : Int
 w : Int
 h : Int
 pos : Vec
 deriving Inhabited, DecidableEq
instance : Enc Cmd where
 sz := 10
 R h x cs := ∃ v4, cs = [.int .i64 x.player, .int .i64 x.seq, .int .i64 x.kind, .int .i64 x.n, v4, .int .i64 x.tile, .int .i64 x.w, .int .i64 x.h, .int .i64 x.pos.x, .int .i64 x.pos.y] ∧ Enc.R h (x.units : List Int) [v4]
 len := fun ⟨v4, e, h4⟩ => by rw [e]; rfl
 one := fun ⟨v4, e, h4⟩ u hu => by
  rw [e] at hu; simp only [List.mem_cons, List.not_mem_nil, or_false] at hu
  rcases hu with rfl | rfl | rfl | rfl | rfl | rfl | rfl | rfl | rfl | rfl
  ·rfl
  ·rfl
  ·rfl
  ·rfl
  ·exact Enc.one h4 _ (by simp)
  ·rfl
  ·rfl
  ·rfl
  ·rfl
  ·rfl
 mono := fun hl ⟨v4, e, h4⟩ => ⟨v4, e, Enc.mono hl h4⟩
instance : Deep Cmd where
 D h x c := ∃ q0 : Option Nat × Nat, c = [.int .i64 x.player, .int .i64 x.seq, .int .i64 x.kind, .int .i64 x.n, rowV q0 x.units.length, .int .i64 x.tile, .int .i64 x.w, .int .i64 x.h, .int .i64 x.pos.x, .int .i64 x.pos.y] ∧ stars [row nilH 3 (rowV q0 x.units.length) x.units] h
 toR := fun ⟨q0, e, ⟨_, _, a0, _, _, l0, k0⟩⟩ => ⟨_, e, Enc.mono l0 (row_R a0)⟩
 mono := fun hl ⟨q0, e, s⟩ => ⟨_, e, stars_mono hl s⟩
def Cmd.Wf (x : Cmd) : Prop := (I64 x.player) ∧ (I64 x.seq) ∧ (I64 x.kind) ∧ (I64 x.n) ∧ ((∀ y ∈ x.units, I64 y) ∧ x.units.length ≤ 140737488351232) ∧ (I64 x.tile) ∧ (I64 x.w) ∧ (I64 x.h) ∧ (Vec.Wf x.pos)
theorem rd_Cmd : Rdbl Try.prog 54 Cmd Cmd.Wf := fun H enc w fuel cs x h hzd => by
 obtain ⟨fs, hu, hfs⟩ := structOf_spec uf54
 obtain ⟨hl, m, hf⟩ := trod_field hu h hzd
 obtain ⟨f0, hf0, ht0, ho0⟩ : ∃ f, fs[0]? = some f ∧ f.type = 3 ∧ f.offset = 0 := by
  have h1 : (fs.toList.map (fun f => (f.type, f.offset)))[0]? = some (3, 0) := by rw [hfs]; rfl
  rw [List.getElem?_map, Option.map_eq_some_iff] at h1
  obtain ⟨f, h2, h3⟩ := h1
  simp only [Prod.mk.injEq] at h3
  exact ⟨f, by simpa using h2, h3.1, h3.2⟩
 obtain ⟨y0, hy0⟩ := hf 0 f0 hf0
 rw [ht0, ho0, co3] at hy0
 obtain ⟨a0, ha0, hw0⟩ := Rdbl.part (Rdbl.int ul3) hy0
 obtain ⟨f1, hf1, ht1, ho1⟩ : ∃ f, fs[1]? = some f ∧ f.type = 3 ∧ f.offset = 1 := by
  have h1 : (fs.toList.map (fun f => (f.type, f.offset)))[1]? = some (3, 1) := by rw [hfs]; rfl
  rw [List.getElem?_map, Option.map_eq_some_iff] at h1
  obtain ⟨f, h2, h3⟩ := h1
  simp only [Prod.mk.injEq] at h3
  exact ⟨f, by simpa using h2, h3.1, h3.2⟩
 obtain ⟨y1, hy1⟩ := hf 1 f1 hf1
 rw [ht1, ho1, co3] at hy1
 obtain ⟨a1, ha1, hw1⟩ := Rdbl.part (Rdbl.int ul3) hy1
 obtain ⟨f2, hf2, ht2, ho2⟩ : ∃ f, fs[2]? = some f ∧ f.type = 3 ∧ f.offset = 2 := by
  have h1 : (fs.toList.map (fun f => (f.type, f.offset)))[2]? = some (3, 2) := by rw [hfs]; rfl
  rw [List.getElem?_map, Option.map_eq_some_iff] at h1
  obtain ⟨f, h2, h3⟩ := h1
  simp only [Prod.mk.injEq] at h3
  exact ⟨f, by simpa using h2, h3.1, h3.2⟩
 obtain ⟨y2, hy2⟩ := hf 2 f2 hf2
 rw [ht2, ho2, co3] at hy2
 obtain ⟨a2, ha2, hw2⟩ := Rdbl.part (Rdbl.int ul3) hy2
 obtain ⟨f3, hf3, ht3, ho3⟩ : ∃ f, fs[3]? = some f ∧ f.type = 3 ∧ f.offset = 3 := by
  have h1 : (fs.toList.map (fun f => (f.type, f.offset)))[3]? = some (3, 3) := by rw [hfs]; rfl
  rw [List.getElem?_map, Option.map_eq_some_iff] at h1
  obtain ⟨f, h2, h3⟩ := h1
  simp only [Prod.mk.injEq] at h3
  exact ⟨f, by simpa using h2, h3.1, h3.2⟩
 obtain ⟨y3, hy3⟩ := hf 3 f3 hf3
 rw [ht3, ho3, co3] at hy3
 obtain ⟨a3, ha3, hw3⟩ := Rdbl.part (Rdbl.int ul3) hy3
 obtain ⟨f4, hf4, ht4, ho4⟩ : ∃ f, fs[4]? = some f ∧ f.type = 25 ∧ f.offset = 4 := by
  have h1 : (fs.toList.map (fun f => (f.type, f.offset)))[4]? = some (25, 4) := by rw [hfs]; rfl
  rw [List.getElem?_map, Option.map_eq_some_iff] at h1
  obtain ⟨f, h2, h3⟩ := h1
  simp only [Prod.mk.injEq] at h3
  exact ⟨f, by simpa using h2, h3.1, h3.2⟩
 obtain ⟨y4, hy4⟩ := hf 4 f4 hf4
 rw [ht4, ho4, co25] at hy4
 obtain ⟨a4, ha4, hw4⟩ := Rdbl.part (Rdbl.slice usl25 co3 (by decide) (Rdbl.int ul3) bz3) hy4
 obtain ⟨f5, hf5, ht5, ho5⟩ : ∃ f, fs[5]? = some f ∧ f.type = 3 ∧ f.offset = 5 := by
  have h1 : (fs.toList.map (fun f => (f.type, f.offset)))[5]? = some (3, 5) := by rw [hfs]; rfl
  rw [List.getElem?_map, Option.map_eq_some_iff] at h1
  obtain ⟨f, h2, h3⟩ := h1
  simp only [Prod.mk.injEq] at h3
  exact ⟨f, by simpa using h2, h3.1, h3.2⟩
 obtain ⟨y5, hy5⟩ := hf 5 f5 hf5
 rw [ht5, ho5, co3] at hy5
 obtain ⟨a5, ha5, hw5⟩ := Rdbl.part (Rdbl.int ul3) hy5
 obtain ⟨f6, hf6, ht6, ho6⟩ : ∃ f, fs[6]? = some f ∧ f.type = 3 ∧ f.offset = 6 := by
  have h1 : (fs.toList.map (fun f => (f.type, f.offset)))[6]? = some (3, 6) := by rw [hfs]; rfl
  rw [List.getElem?_map, Option.map_eq_some_iff] at h1
  obtain ⟨f, h2, h3⟩ := h1
  simp only [Prod.mk.injEq] at h3
  exact ⟨f, by simpa using h2, h3.1, h3.2⟩
 obtain ⟨y6, hy6⟩ := hf 6 f6 hf6
 rw [ht6, ho6, co3] at hy6
 obtain ⟨a6, ha6, hw6⟩ := Rdbl.part (Rdbl.int ul3) hy6
 obtain ⟨f7, hf7, ht7, ho7⟩ : ∃ f, fs[7]? = some f ∧ f.type = 3 ∧ f.offset = 7 := by
  have h1 : (fs.toList.map (fun f => (f.type, f.offset)))[7]? = some (3, 7) := by rw [hfs]; rfl
  rw [List.getElem?_map, Option.map_eq_some_iff] at h1
  obtain ⟨f, h2, h3⟩ := h1
  simp only [Prod.mk.injEq] at h3
  exact ⟨f, by simpa using h2, h3.1, h3.2⟩
 obtain ⟨y7, hy7⟩ := hf 7 f7 hf7
 rw [ht7, ho7, co3] at hy7
 obtain ⟨a7, ha7, hw7⟩ := Rdbl.part (Rdbl.int ul3) hy7
 obtain ⟨f8, hf8, ht8, ho8⟩ : ∃ f, fs[8]? = some f ∧ f.type = 52 ∧ f.offset = 8 := by
  have h1 : (fs.toList.map (fun f => (f.type, f.offset)))[8]? = some (52, 8) := by rw [hfs]; rfl
  rw [List.getElem?_map, Option.map_eq_some_iff] at h1
  obtain ⟨f, h2, h3⟩ := h1
  simp only [Prod.mk.injEq] at h3
  exact ⟨f, by simpa using h2, h3.1, h3.2⟩
 obtain ⟨y8, hy8⟩ := hf 8 f8 hf8
 rw [ht8, ho8, co52] at hy8
 obtain ⟨a8, ha8, hw8⟩ := Rdbl.part rd_Vec hy8
 rw [co54] at hl
 obtain ⟨x0, x1, x2, x3, x4, x5, x6, x7, x8, x9, rfl⟩ : ∃ x0 x1 x2 x3 x4 x5 x6 x7 x8 x9, cs = [x0, x1, x2, x3, x4, x5, x6, x7, x8, x9] := by
  match cs, hl with
  | [x0, x1, x2, x3, x4, x5, x6, x7, x8, x9], _ => exact ⟨x0, x1, x2, x3, x4, x5, x6, x7, x8, x9, rfl⟩
 simp only [List.drop_succ_cons, List.drop_zero, List.take_succ_cons, List.take_zero] at ha0 ha1 ha2 ha3 ha4 ha5 ha6 ha7 ha8
 obtain rfl : x0 = _ := by simpa [Enc.R] using ha0
 obtain rfl : x1 = _ := by simpa [Enc.R] using ha1
 obtain rfl : x2 = _ := by simpa [Enc.R] using ha2
 obtain rfl : x3 = _ := by simpa [Enc.R] using ha3
 obtain rfl : x5 = _ := by simpa [Enc.R] using ha5
 obtain rfl : x6 = _ := by simpa [Enc.R] using ha6
 obtain rfl : x7 = _ := by simpa [Enc.R] using ha7
 have e8 := ha8
 simp only [Enc.R, List.cons.injEq, and_true] at e8
 obtain ⟨rfl, rfl⟩ := e8
 exact ⟨⟨a0, a1, a2, a3, a4, a5, a6, a7, a8⟩, ⟨_, rfl, ha4⟩, ⟨hw0, hw1, hw2, hw3, hw4, hw5, hw6, hw7, hw8⟩⟩
structure Inp where
 turn : Int
 player : Int
 commands : List Cmd
 deriving Inhabited, DecidableEq
instance : Enc Inp where
 sz := 3
 R h x cs := ∃ v2, cs = [.int .i64 x.turn, .int .i64 x.player, v2] ∧ Enc.R h (x.commands : List Cmd) [v2]
 len := fun ⟨v2, e, h2⟩ => by rw [e]; rfl
 one := fun ⟨v2, e, h2⟩ u hu => by
  rw [e] at hu; simp only [List.mem_cons, List.not_mem_nil, or_false] at hu
  rcases hu with rfl | rfl | rfl
  ·rfl
  ·rfl
  ·exact Enc.one h2 _ (by simp)
 mono := fun hl ⟨v2, e, h2⟩ => ⟨v2, e, Enc.mono hl h2⟩
instance : Deep Inp where
 D h x c := ∃ q0 : Option Nat × Nat, c = [.int .i64 x.turn, .int .i64 x.player, rowV q0 x.commands.length] ∧ stars [drow 54 (rowV q0 x.commands.length) x.commands] h
 toR := fun ⟨q0, e, ⟨_, _, a0, _, _, l0, k0⟩⟩ => ⟨_, e, Enc.mono l0 (drow_R a0)⟩
 mono := fun hl ⟨q0, e, s⟩ => ⟨_, e, stars_mono hl s⟩
def Inp.Wf (x : Inp) : Prop := (I64 x.turn) ∧ (I64 x.player) ∧ ((∀ y ∈ x.commands, Cmd.Wf y) ∧ x.commands.length ≤ 140737488351232)
theorem rd_Inp : Rdbl Try.prog 50 Inp Inp.Wf := fun H enc w fuel cs x h hzd => by
 obtain ⟨fs, hu, hfs⟩ := structOf_spec uf50
 obtain ⟨hl, m, hf⟩ := trod_field hu h hzd
 obtain ⟨f0, hf0, ht0, ho0⟩ : ∃ f, fs[0]? = some f ∧ f.type = 3 ∧ f.offset = 0 := by
  have h1 : (fs.toList.map (fun f => (f.type, f.offset)))[0]? = some (3, 0) := by rw [hfs]; rfl
  rw [List.getElem?_map, Option.map_eq_some_iff] at h1
  obtain ⟨f, h2, h3⟩ := h1
  simp only [Prod.mk.injEq] at h3
  exact ⟨f, by simpa using h2, h3.1, h3.2⟩
 obtain ⟨y0, hy0⟩ := hf 0 f0 hf0
 rw [ht0, ho0, co3] at hy0
 obtain ⟨a0, ha0, hw0⟩ := Rdbl.part (Rdbl.int ul3) hy0
 obtain ⟨f1, hf1, ht1, ho1⟩ : ∃ f, fs[1]? = some f ∧ f.type = 3 ∧ f.offset = 1 := by
  have h1 : (fs.toList.map (fun f => (f.type, f.offset)))[1]? = some (3, 1) := by rw [hfs]; rfl
  rw [List.getElem?_map, Option.map_eq_some_iff] at h1
  obtain ⟨f, h2, h3⟩ := h1
  simp only [Prod.mk.injEq] at h3
  exact ⟨f, by simpa using h2, h3.1, h3.2⟩
 obtain ⟨y1, hy1⟩ := hf 1 f1 hf1
 rw [ht1, ho1, co3] at hy1
 obtain ⟨a1, ha1, hw1⟩ := Rdbl.part (Rdbl.int ul3) hy1
 obtain ⟨f2, hf2, ht2, ho2⟩ : ∃ f, fs[2]? = some f ∧ f.type = 41 ∧ f.offset = 2 := by
  have h1 : (fs.toList.map (fun f => (f.type, f.offset)))[2]? = some (41, 2) := by rw [hfs]; rfl
  rw [List.getElem?_map, Option.map_eq_some_iff] at h1
  obtain ⟨f, h2, h3⟩ := h1
  simp only [Prod.mk.injEq] at h3
  exact ⟨f, by simpa using h2, h3.1, h3.2⟩
 obtain ⟨y2, hy2⟩ := hf 2 f2 hf2
 rw [ht2, ho2, co41] at hy2
 obtain ⟨a2, ha2, hw2⟩ := Rdbl.part (Rdbl.slice usl41 co54 (by decide) rd_Cmd bz54) hy2
 rw [co50] at hl
 obtain ⟨x0, x1, x2, rfl⟩ : ∃ x0 x1 x2, cs = [x0, x1, x2] := by
  match cs, hl with
  | [x0, x1, x2], _ => exact ⟨x0, x1, x2, rfl⟩
 simp only [List.drop_succ_cons, List.drop_zero, List.take_succ_cons, List.take_zero] at ha0 ha1 ha2
 obtain rfl : x0 = _ := by simpa [Enc.R] using ha0
 obtain rfl : x1 = _ := by simpa [Enc.R] using ha1
 exact ⟨⟨a0, a1, a2⟩, ⟨_, rfl, ha2⟩, ⟨hw0, hw1, hw2⟩⟩
structure Ask27 where
 l : List Inp
 more : List Inp
 ts : List Int
 deriving Inhabited
instance : Enc Ask27 where
 sz := 3
 R h x cs := ∃ v0 v1 v2, cs = [v0, v1, v2] ∧ Enc.R h (x.l : List Inp) [v0] ∧ Enc.R h (x.more : List Inp) [v1] ∧ Enc.R h (x.ts : List Int) [v2]
 len := fun ⟨v0, v1, v2, e, h0, h1, h2⟩ => by rw [e]; rfl
 one := fun ⟨v0, v1, v2, e, h0, h1, h2⟩ u hu => by
  rw [e] at hu; simp only [List.mem_cons, List.not_mem_nil, or_false] at hu
  rcases hu with rfl | rfl | rfl
  ·exact Enc.one h0 _ (by simp)
  ·exact Enc.one h1 _ (by simp)
  ·exact Enc.one h2 _ (by simp)
 mono := fun hl ⟨v0, v1, v2, e, h0, h1, h2⟩ => ⟨v0, v1, v2, e, Enc.mono hl h0, Enc.mono hl h1, Enc.mono hl h2⟩
def Ask27.Wf (x : Ask27) : Prop := ((∀ y ∈ x.l, Inp.Wf y) ∧ x.l.length ≤ 140737488351232) ∧ ((∀ y ∈ x.more, Inp.Wf y) ∧ x.more.length ≤ 140737488351232) ∧ ((∀ y ∈ x.ts, I64 y) ∧ x.ts.length ≤ 140737488351232)
theorem rd_Ask27 : Rdbl Try.prog 38 Ask27 Ask27.Wf := fun H enc w fuel cs x h hzd => by
 obtain ⟨fs, hu, hfs⟩ := structOf_spec uf38
 obtain ⟨hl, m, hf⟩ := trod_field hu h hzd
 obtain ⟨f0, hf0, ht0, ho0⟩ : ∃ f, fs[0]? = some f ∧ f.type = 24 ∧ f.offset = 0 := by
  have h1 : (fs.toList.map (fun f => (f.type, f.offset)))[0]? = some (24, 0) := by rw [hfs]; rfl
  rw [List.getElem?_map, Option.map_eq_some_iff] at h1
  obtain ⟨f, h2, h3⟩ := h1
  simp only [Prod.mk.injEq] at h3
  exact ⟨f, by simpa using h2, h3.1, h3.2⟩
 obtain ⟨y0, hy0⟩ := hf 0 f0 hf0
 rw [ht0, ho0, co24] at hy0
 obtain ⟨a0, ha0, hw0⟩ := Rdbl.part (Rdbl.slice usl24 co50 (by decide) rd_Inp bz50) hy0
 obtain ⟨f1, hf1, ht1, ho1⟩ : ∃ f, fs[1]? = some f ∧ f.type = 24 ∧ f.offset = 1 := by
  have h1 : (fs.toList.map (fun f => (f.type, f.offset)))[1]? = some (24, 1) := by rw [hfs]; rfl
  rw [List.getElem?_map, Option.map_eq_some_iff] at h1
  obtain ⟨f, h2, h3⟩ := h1
  simp only [Prod.mk.injEq] at h3
  exact ⟨f, by simpa using h2, h3.1, h3.2⟩
 obtain ⟨y1, hy1⟩ := hf 1 f1 hf1
 rw [ht1, ho1, co24] at hy1
 obtain ⟨a1, ha1, hw1⟩ := Rdbl.part (Rdbl.slice usl24 co50 (by decide) rd_Inp bz50) hy1
 obtain ⟨f2, hf2, ht2, ho2⟩ : ∃ f, fs[2]? = some f ∧ f.type = 25 ∧ f.offset = 2 := by
  have h1 : (fs.toList.map (fun f => (f.type, f.offset)))[2]? = some (25, 2) := by rw [hfs]; rfl
  rw [List.getElem?_map, Option.map_eq_some_iff] at h1
  obtain ⟨f, h2, h3⟩ := h1
  simp only [Prod.mk.injEq] at h3
  exact ⟨f, by simpa using h2, h3.1, h3.2⟩
 obtain ⟨y2, hy2⟩ := hf 2 f2 hf2
 rw [ht2, ho2, co25] at hy2
 obtain ⟨a2, ha2, hw2⟩ := Rdbl.part (Rdbl.slice usl25 co3 (by decide) (Rdbl.int ul3) bz3) hy2
 rw [co38] at hl
 obtain ⟨x0, x1, x2, rfl⟩ : ∃ x0 x1 x2, cs = [x0, x1, x2] := by
  match cs, hl with
  | [x0, x1, x2], _ => exact ⟨x0, x1, x2, rfl⟩
 simp only [List.drop_succ_cons, List.drop_zero, List.take_succ_cons, List.take_zero] at ha0 ha1 ha2
 exact ⟨⟨a0, a1, a2⟩, ⟨_, _, _, rfl, ha0, ha1, ha2⟩, ⟨hw0, hw1, hw2⟩⟩
structure Nte where
 frm : Int
 dst : Int
 input : Inp
 don : Int
 hash : UInt64
 hav : Int
 deriving Inhabited, DecidableEq
instance : Enc Nte where
 sz := 8
 R h x cs := ∃ v4, cs = [.int .i64 x.frm, .int .i64 x.dst, .int .i64 x.input.turn, .int .i64 x.input.player, v4, .int .i64 x.don, .int .u64 x.hash.toNat, .int .i64 x.hav] ∧ Enc.R h (x.input.commands : List Cmd) [v4]
 len := fun ⟨v4, e, h4⟩ => by rw [e]; rfl
 one := fun ⟨v4, e, h4⟩ u hu => by
  rw [e] at hu; simp only [List.mem_cons, List.not_mem_nil, or_false] at hu
  rcases hu with rfl | rfl | rfl | rfl | rfl | rfl | rfl | rfl
  ·rfl
  ·rfl
  ·rfl
  ·rfl
  ·exact Enc.one h4 _ (by simp)
  ·rfl
  ·rfl
  ·rfl
 mono := fun hl ⟨v4, e, h4⟩ => ⟨v4, e, Enc.mono hl h4⟩
instance : Deep Nte where
 D h x c := ∃ q0 : Option Nat × Nat, c = [.int .i64 x.frm, .int .i64 x.dst, .int .i64 x.input.turn, .int .i64 x.input.player, rowV q0 x.input.commands.length, .int .i64 x.don, .int .u64 x.hash.toNat, .int .i64 x.hav] ∧ stars [drow 54 (rowV q0 x.input.commands.length) x.input.commands] h
 toR := fun ⟨q0, e, ⟨_, _, a0, _, _, l0, k0⟩⟩ => ⟨_, e, Enc.mono l0 (drow_R a0)⟩
 mono := fun hl ⟨q0, e, s⟩ => ⟨_, e, stars_mono hl s⟩
def Nte.Wf (x : Nte) : Prop := (I64 x.frm) ∧ (I64 x.dst) ∧ (Inp.Wf x.input) ∧ (I64 x.don) ∧ (I64 x.hav)
theorem rd_Nte : Rdbl Try.prog 79 Nte Nte.Wf := fun H enc w fuel cs x h hzd => by
 obtain ⟨fs, hu, hfs⟩ := structOf_spec uf79
 obtain ⟨hl, m, hf⟩ := trod_field hu h hzd
 obtain ⟨f0, hf0, ht0, ho0⟩ : ∃ f, fs[0]? = some f ∧ f.type = 3 ∧ f.offset = 0 := by
  have h1 : (fs.toList.map (fun f => (f.type, f.offset)))[0]? = some (3, 0) := by rw [hfs]; rfl
  rw [List.getElem?_map, Option.map_eq_some_iff] at h1
  obtain ⟨f, h2, h3⟩ := h1
  simp only [Prod.mk.injEq] at h3
  exact ⟨f, by simpa using h2, h3.1, h3.2⟩
 obtain ⟨y0, hy0⟩ := hf 0 f0 hf0
 rw [ht0, ho0, co3] at hy0
 obtain ⟨a0, ha0, hw0⟩ := Rdbl.part (Rdbl.int ul3) hy0
 obtain ⟨f1, hf1, ht1, ho1⟩ : ∃ f, fs[1]? = some f ∧ f.type = 3 ∧ f.offset = 1 := by
  have h1 : (fs.toList.map (fun f => (f.type, f.offset)))[1]? = some (3, 1) := by rw [hfs]; rfl
  rw [List.getElem?_map, Option.map_eq_some_iff] at h1
  obtain ⟨f, h2, h3⟩ := h1
  simp only [Prod.mk.injEq] at h3
  exact ⟨f, by simpa using h2, h3.1, h3.2⟩
 obtain ⟨y1, hy1⟩ := hf 1 f1 hf1
 rw [ht1, ho1, co3] at hy1
 obtain ⟨a1, ha1, hw1⟩ := Rdbl.part (Rdbl.int ul3) hy1
 obtain ⟨f2, hf2, ht2, ho2⟩ : ∃ f, fs[2]? = some f ∧ f.type = 50 ∧ f.offset = 2 := by
  have h1 : (fs.toList.map (fun f => (f.type, f.offset)))[2]? = some (50, 2) := by rw [hfs]; rfl
  rw [List.getElem?_map, Option.map_eq_some_iff] at h1
  obtain ⟨f, h2, h3⟩ := h1
  simp only [Prod.mk.injEq] at h3
  exact ⟨f, by simpa using h2, h3.1, h3.2⟩
 obtain ⟨y2, hy2⟩ := hf 2 f2 hf2
 rw [ht2, ho2, co50] at hy2
 obtain ⟨a2, ha2, hw2⟩ := Rdbl.part rd_Inp hy2
 obtain ⟨f3, hf3, ht3, ho3⟩ : ∃ f, fs[3]? = some f ∧ f.type = 3 ∧ f.offset = 5 := by
  have h1 : (fs.toList.map (fun f => (f.type, f.offset)))[3]? = some (3, 5) := by rw [hfs]; rfl
  rw [List.getElem?_map, Option.map_eq_some_iff] at h1
  obtain ⟨f, h2, h3⟩ := h1
  simp only [Prod.mk.injEq] at h3
  exact ⟨f, by simpa using h2, h3.1, h3.2⟩
 obtain ⟨y3, hy3⟩ := hf 3 f3 hf3
 rw [ht3, ho3, co3] at hy3
 obtain ⟨a3, ha3, hw3⟩ := Rdbl.part (Rdbl.int ul3) hy3
 obtain ⟨f4, hf4, ht4, ho4⟩ : ∃ f, fs[4]? = some f ∧ f.type = 67 ∧ f.offset = 6 := by
  have h1 : (fs.toList.map (fun f => (f.type, f.offset)))[4]? = some (67, 6) := by rw [hfs]; rfl
  rw [List.getElem?_map, Option.map_eq_some_iff] at h1
  obtain ⟨f, h2, h3⟩ := h1
  simp only [Prod.mk.injEq] at h3
  exact ⟨f, by simpa using h2, h3.1, h3.2⟩
 obtain ⟨y4, hy4⟩ := hf 4 f4 hf4
 rw [ht4, ho4, co67] at hy4
 obtain ⟨a4, ha4, hw4⟩ := Rdbl.part (Rdbl.u64 ul67) hy4
 obtain ⟨f5, hf5, ht5, ho5⟩ : ∃ f, fs[5]? = some f ∧ f.type = 3 ∧ f.offset = 7 := by
  have h1 : (fs.toList.map (fun f => (f.type, f.offset)))[5]? = some (3, 7) := by rw [hfs]; rfl
  rw [List.getElem?_map, Option.map_eq_some_iff] at h1
  obtain ⟨f, h2, h3⟩ := h1
  simp only [Prod.mk.injEq] at h3
  exact ⟨f, by simpa using h2, h3.1, h3.2⟩
 obtain ⟨y5, hy5⟩ := hf 5 f5 hf5
 rw [ht5, ho5, co3] at hy5
 obtain ⟨a5, ha5, hw5⟩ := Rdbl.part (Rdbl.int ul3) hy5
 rw [co79] at hl
 obtain ⟨x0, x1, x2, x3, x4, x5, x6, x7, rfl⟩ : ∃ x0 x1 x2 x3 x4 x5 x6 x7, cs = [x0, x1, x2, x3, x4, x5, x6, x7] := by
  match cs, hl with
  | [x0, x1, x2, x3, x4, x5, x6, x7], _ => exact ⟨x0, x1, x2, x3, x4, x5, x6, x7, rfl⟩
 simp only [List.drop_succ_cons, List.drop_zero, List.take_succ_cons, List.take_zero] at ha0 ha1 ha2 ha3 ha4 ha5
 obtain rfl : x0 = _ := by simpa [Enc.R] using ha0
 obtain rfl : x1 = _ := by simpa [Enc.R] using ha1
 obtain ⟨v2_2, e2, r2_2⟩ := ha2
 simp only [List.cons.injEq, and_true] at e2
 obtain ⟨rfl, rfl, rfl⟩ := e2
 obtain rfl : x5 = _ := by simpa [Enc.R] using ha3
 obtain rfl : x6 = _ := by simpa [Enc.R] using ha4
 obtain rfl : x7 = _ := by simpa [Enc.R] using ha5
 exact ⟨⟨a0, a1, a2, a3, a4, a5⟩, ⟨_, rfl, r2_2⟩, ⟨hw0, hw1, hw2, hw3, hw5⟩⟩
structure Per where
 id : Int
 players : Int
 delay : Int
 turn : Int
 said : Int
 mine : List Inp
 inputs : List Inp
 has : List Int
 acked : List Int
 hashes : List UInt64
 split : Bool
 deriving Inhabited, DecidableEq
instance : Enc Per where
 sz := 11
 R h x cs := ∃ v5 v6 v7 v8 v9, cs = [.int .i64 x.id, .int .i64 x.players, .int .i64 x.delay, .int .i64 x.turn, .int .i64 x.said, v5, v6, v7, v8, v9, .bool x.split] ∧ Enc.R h (x.mine : List Inp) [v5] ∧ Enc.R h (x.inputs : List Inp) [v6] ∧ Enc.R h (x.has : List Int) [v7] ∧ Enc.R h (x.acked : List Int) [v8] ∧ Enc.R h (x.hashes : List UInt64) [v9]
 len := fun ⟨v5, v6, v7, v8, v9, e, h5, h6, h7, h8, h9⟩ => by rw [e]; rfl
 one := fun ⟨v5, v6, v7, v8, v9, e, h5, h6, h7, h8, h9⟩ u hu => by
  rw [e] at hu; simp only [List.mem_cons, List.not_mem_nil, or_false] at hu
  rcases hu with rfl | rfl | rfl | rfl | rfl | rfl | rfl | rfl | rfl | rfl | rfl
  ·rfl
  ·rfl
  ·rfl
  ·rfl
  ·rfl
  ·exact Enc.one h5 _ (by simp)
  ·exact Enc.one h6 _ (by simp)
  ·exact Enc.one h7 _ (by simp)
  ·exact Enc.one h8 _ (by simp)
  ·exact Enc.one h9 _ (by simp)
  ·rfl
 mono := fun hl ⟨v5, v6, v7, v8, v9, e, h5, h6, h7, h8, h9⟩ => ⟨v5, v6, v7, v8, v9, e, Enc.mono hl h5, Enc.mono hl h6, Enc.mono hl h7, Enc.mono hl h8, Enc.mono hl h9⟩
instance : Deep Per where
 D h x c := ∃ q0 q1 q2 q3 q4 : Option Nat × Nat, c = [.int .i64 x.id, .int .i64 x.players, .int .i64 x.delay, .int .i64 x.turn, .int .i64 x.said, rowV q0 x.mine.length, rowV q1 x.inputs.length, rowV q2 x.has.length, rowV q3 x.acked.length, rowV q4 x.hashes.length, .bool x.split] ∧ stars [drow 50 (rowV q0 x.mine.length) x.mine, drow 50 (rowV q1 x.inputs.length) x.inputs, row nilH 3 (rowV q2 x.has.length) x.has, row nilH 3 (rowV q3 x.acked.length) x.acked, row nilH 67 (rowV q4 x.hashes.length) x.hashes] h
 toR := fun ⟨q0, q1, q2, q3, q4, e, ⟨_, _, a0, ⟨_, _, a1, ⟨_, _, a2, ⟨_, _, a3, ⟨_, _, a4, _, _, l4, k4⟩, _, l3, k3⟩, _, l2, k2⟩, _, l1, k1⟩, _, l0, k0⟩⟩ => ⟨_, _, _, _, _, e, Enc.mono l0 (drow_R a0), Enc.mono (Hp.le_trans l1 k0) (drow_R a1), Enc.mono (Hp.le_trans l2 (Hp.le_trans k1 k0)) (row_R a2), Enc.mono (Hp.le_trans l3 (Hp.le_trans k2 (Hp.le_trans k1 k0))) (row_R a3), Enc.mono (Hp.le_trans l4 (Hp.le_trans k3 (Hp.le_trans k2 (Hp.le_trans k1 k0)))) (row_R a4)⟩
 mono := fun hl ⟨q0, q1, q2, q3, q4, e, s⟩ => ⟨_, _, _, _, _, e, stars_mono hl s⟩
def Per.Wf (x : Per) : Prop := (I64 x.id) ∧ (I64 x.players) ∧ (I64 x.delay) ∧ (I64 x.turn) ∧ (I64 x.said) ∧ ((∀ y ∈ x.mine, Inp.Wf y) ∧ x.mine.length ≤ 140737488351232) ∧ ((∀ y ∈ x.inputs, Inp.Wf y) ∧ x.inputs.length ≤ 140737488351232) ∧ ((∀ y ∈ x.has, I64 y) ∧ x.has.length ≤ 140737488351232) ∧ ((∀ y ∈ x.acked, I64 y) ∧ x.acked.length ≤ 140737488351232) ∧ ((∀ y ∈ x.hashes, True) ∧ x.hashes.length ≤ 140737488351232)
theorem rd_Per : Rdbl Try.prog 28 Per Per.Wf := fun H enc w fuel cs x h hzd => by
 obtain ⟨fs, hu, hfs⟩ := structOf_spec uf28
 obtain ⟨hl, m, hf⟩ := trod_field hu h hzd
 obtain ⟨f0, hf0, ht0, ho0⟩ : ∃ f, fs[0]? = some f ∧ f.type = 3 ∧ f.offset = 0 := by
  have h1 : (fs.toList.map (fun f => (f.type, f.offset)))[0]? = some (3, 0) := by rw [hfs]; rfl
  rw [List.getElem?_map, Option.map_eq_some_iff] at h1
  obtain ⟨f, h2, h3⟩ := h1
  simp only [Prod.mk.injEq] at h3
  exact ⟨f, by simpa using h2, h3.1, h3.2⟩
 obtain ⟨y0, hy0⟩ := hf 0 f0 hf0
 rw [ht0, ho0, co3] at hy0
 obtain ⟨a0, ha0, hw0⟩ := Rdbl.part (Rdbl.int ul3) hy0
 obtain ⟨f1, hf1, ht1, ho1⟩ : ∃ f, fs[1]? = some f ∧ f.type = 3 ∧ f.offset = 1 := by
  have h1 : (fs.toList.map (fun f => (f.type, f.offset)))[1]? = some (3, 1) := by rw [hfs]; rfl
  rw [List.getElem?_map, Option.map_eq_some_iff] at h1
  obtain ⟨f, h2, h3⟩ := h1
  simp only [Prod.mk.injEq] at h3
  exact ⟨f, by simpa using h2, h3.1, h3.2⟩
 obtain ⟨y1, hy1⟩ := hf 1 f1 hf1
 rw [ht1, ho1, co3] at hy1
 obtain ⟨a1, ha1, hw1⟩ := Rdbl.part (Rdbl.int ul3) hy1
 obtain ⟨f2, hf2, ht2, ho2⟩ : ∃ f, fs[2]? = some f ∧ f.type = 3 ∧ f.offset = 2 := by
  have h1 : (fs.toList.map (fun f => (f.type, f.offset)))[2]? = some (3, 2) := by rw [hfs]; rfl
  rw [List.getElem?_map, Option.map_eq_some_iff] at h1
  obtain ⟨f, h2, h3⟩ := h1
  simp only [Prod.mk.injEq] at h3
  exact ⟨f, by simpa using h2, h3.1, h3.2⟩
 obtain ⟨y2, hy2⟩ := hf 2 f2 hf2
 rw [ht2, ho2, co3] at hy2
 obtain ⟨a2, ha2, hw2⟩ := Rdbl.part (Rdbl.int ul3) hy2
 obtain ⟨f3, hf3, ht3, ho3⟩ : ∃ f, fs[3]? = some f ∧ f.type = 3 ∧ f.offset = 3 := by
  have h1 : (fs.toList.map (fun f => (f.type, f.offset)))[3]? = some (3, 3) := by rw [hfs]; rfl
  rw [List.getElem?_map, Option.map_eq_some_iff] at h1
  obtain ⟨f, h2, h3⟩ := h1
  simp only [Prod.mk.injEq] at h3
  exact ⟨f, by simpa using h2, h3.1, h3.2⟩
 obtain ⟨y3, hy3⟩ := hf 3 f3 hf3
 rw [ht3, ho3, co3] at hy3
 obtain ⟨a3, ha3, hw3⟩ := Rdbl.part (Rdbl.int ul3) hy3
 obtain ⟨f4, hf4, ht4, ho4⟩ : ∃ f, fs[4]? = some f ∧ f.type = 3 ∧ f.offset = 4 := by
  have h1 : (fs.toList.map (fun f => (f.type, f.offset)))[4]? = some (3, 4) := by rw [hfs]; rfl
  rw [List.getElem?_map, Option.map_eq_some_iff] at h1
  obtain ⟨f, h2, h3⟩ := h1
  simp only [Prod.mk.injEq] at h3
  exact ⟨f, by simpa using h2, h3.1, h3.2⟩
 obtain ⟨y4, hy4⟩ := hf 4 f4 hf4
 rw [ht4, ho4, co3] at hy4
 obtain ⟨a4, ha4, hw4⟩ := Rdbl.part (Rdbl.int ul3) hy4
 obtain ⟨f5, hf5, ht5, ho5⟩ : ∃ f, fs[5]? = some f ∧ f.type = 24 ∧ f.offset = 5 := by
  have h1 : (fs.toList.map (fun f => (f.type, f.offset)))[5]? = some (24, 5) := by rw [hfs]; rfl
  rw [List.getElem?_map, Option.map_eq_some_iff] at h1
  obtain ⟨f, h2, h3⟩ := h1
  simp only [Prod.mk.injEq] at h3
  exact ⟨f, by simpa using h2, h3.1, h3.2⟩
 obtain ⟨y5, hy5⟩ := hf 5 f5 hf5
 rw [ht5, ho5, co24] at hy5
 obtain ⟨a5, ha5, hw5⟩ := Rdbl.part (Rdbl.slice usl24 co50 (by decide) rd_Inp bz50) hy5
 obtain ⟨f6, hf6, ht6, ho6⟩ : ∃ f, fs[6]? = some f ∧ f.type = 24 ∧ f.offset = 6 := by
  have h1 : (fs.toList.map (fun f => (f.type, f.offset)))[6]? = some (24, 6) := by rw [hfs]; rfl
  rw [List.getElem?_map, Option.map_eq_some_iff] at h1
  obtain ⟨f, h2, h3⟩ := h1
  simp only [Prod.mk.injEq] at h3
  exact ⟨f, by simpa using h2, h3.1, h3.2⟩
 obtain ⟨y6, hy6⟩ := hf 6 f6 hf6
 rw [ht6, ho6, co24] at hy6
 obtain ⟨a6, ha6, hw6⟩ := Rdbl.part (Rdbl.slice usl24 co50 (by decide) rd_Inp bz50) hy6
 obtain ⟨f7, hf7, ht7, ho7⟩ : ∃ f, fs[7]? = some f ∧ f.type = 25 ∧ f.offset = 7 := by
  have h1 : (fs.toList.map (fun f => (f.type, f.offset)))[7]? = some (25, 7) := by rw [hfs]; rfl
  rw [List.getElem?_map, Option.map_eq_some_iff] at h1
  obtain ⟨f, h2, h3⟩ := h1
  simp only [Prod.mk.injEq] at h3
  exact ⟨f, by simpa using h2, h3.1, h3.2⟩
 obtain ⟨y7, hy7⟩ := hf 7 f7 hf7
 rw [ht7, ho7, co25] at hy7
 obtain ⟨a7, ha7, hw7⟩ := Rdbl.part (Rdbl.slice usl25 co3 (by decide) (Rdbl.int ul3) bz3) hy7
 obtain ⟨f8, hf8, ht8, ho8⟩ : ∃ f, fs[8]? = some f ∧ f.type = 25 ∧ f.offset = 8 := by
  have h1 : (fs.toList.map (fun f => (f.type, f.offset)))[8]? = some (25, 8) := by rw [hfs]; rfl
  rw [List.getElem?_map, Option.map_eq_some_iff] at h1
  obtain ⟨f, h2, h3⟩ := h1
  simp only [Prod.mk.injEq] at h3
  exact ⟨f, by simpa using h2, h3.1, h3.2⟩
 obtain ⟨y8, hy8⟩ := hf 8 f8 hf8
 rw [ht8, ho8, co25] at hy8
 obtain ⟨a8, ha8, hw8⟩ := Rdbl.part (Rdbl.slice usl25 co3 (by decide) (Rdbl.int ul3) bz3) hy8
 obtain ⟨f9, hf9, ht9, ho9⟩ : ∃ f, fs[9]? = some f ∧ f.type = 26 ∧ f.offset = 9 := by
  have h1 : (fs.toList.map (fun f => (f.type, f.offset)))[9]? = some (26, 9) := by rw [hfs]; rfl
  rw [List.getElem?_map, Option.map_eq_some_iff] at h1
  obtain ⟨f, h2, h3⟩ := h1
  simp only [Prod.mk.injEq] at h3
  exact ⟨f, by simpa using h2, h3.1, h3.2⟩
 obtain ⟨y9, hy9⟩ := hf 9 f9 hf9
 rw [ht9, ho9, co26] at hy9
 obtain ⟨a9, ha9, hw9⟩ := Rdbl.part (Rdbl.slice usl26 co67 (by decide) (Rdbl.u64 ul67) bz67) hy9
 obtain ⟨f10, hf10, ht10, ho10⟩ : ∃ f, fs[10]? = some f ∧ f.type = 4 ∧ f.offset = 10 := by
  have h1 : (fs.toList.map (fun f => (f.type, f.offset)))[10]? = some (4, 10) := by rw [hfs]; rfl
  rw [List.getElem?_map, Option.map_eq_some_iff] at h1
  obtain ⟨f, h2, h3⟩ := h1
  simp only [Prod.mk.injEq] at h3
  exact ⟨f, by simpa using h2, h3.1, h3.2⟩
 obtain ⟨y10, hy10⟩ := hf 10 f10 hf10
 rw [ht10, ho10, co4] at hy10
 obtain ⟨a10, ha10, hw10⟩ := Rdbl.part (Rdbl.bool ul4) hy10
 rw [co28] at hl
 obtain ⟨x0, x1, x2, x3, x4, x5, x6, x7, x8, x9, x10, rfl⟩ : ∃ x0 x1 x2 x3 x4 x5 x6 x7 x8 x9 x10, cs = [x0, x1, x2, x3, x4, x5, x6, x7, x8, x9, x10] := by
  match cs, hl with
  | [x0, x1, x2, x3, x4, x5, x6, x7, x8, x9, x10], _ => exact ⟨x0, x1, x2, x3, x4, x5, x6, x7, x8, x9, x10, rfl⟩
 simp only [List.drop_succ_cons, List.drop_zero, List.take_succ_cons, List.take_zero] at ha0 ha1 ha2 ha3 ha4 ha5 ha6 ha7 ha8 ha9 ha10
 obtain rfl : x0 = _ := by simpa [Enc.R] using ha0
 obtain rfl : x1 = _ := by simpa [Enc.R] using ha1
 obtain rfl : x2 = _ := by simpa [Enc.R] using ha2
 obtain rfl : x3 = _ := by simpa [Enc.R] using ha3
 obtain rfl : x4 = _ := by simpa [Enc.R] using ha4
 obtain rfl : x10 = _ := by simpa [Enc.R] using ha10
 exact ⟨⟨a0, a1, a2, a3, a4, a5, a6, a7, a8, a9, a10⟩, ⟨_, _, _, _, _, rfl, ha5, ha6, ha7, ha8, ha9⟩, ⟨hw0, hw1, hw2, hw3, hw4, hw5, hw6, hw7, hw8, hw9⟩⟩
structure Act28 where
 act : Int
 l : List Cmd
 n : Nte
 fit : Bool
 h : UInt64
 deriving Inhabited
instance : Enc Act28 where
 sz := 12
 R h x cs := ∃ v1 v6, cs = [.int .i64 x.act, v1, .int .i64 x.n.frm, .int .i64 x.n.dst, .int .i64 x.n.input.turn, .int .i64 x.n.input.player, v6, .int .i64 x.n.don, .int .u64 x.n.hash.toNat, .int .i64 x.n.hav, .bool x.fit, .int .u64 x.h.toNat] ∧ Enc.R h (x.l : List Cmd) [v1] ∧ Enc.R h (x.n.input.commands : List Cmd) [v6]
 len := fun ⟨v1, v6, e, h1, h6⟩ => by rw [e]; rfl
 one := fun ⟨v1, v6, e, h1, h6⟩ u hu => by
  rw [e] at hu; simp only [List.mem_cons, List.not_mem_nil, or_false] at hu
  rcases hu with rfl | rfl | rfl | rfl | rfl | rfl | rfl | rfl | rfl | rfl | rfl | rfl
  ·rfl
  ·exact Enc.one h1 _ (by simp)
  ·rfl
  ·rfl
  ·rfl
  ·rfl
  ·exact Enc.one h6 _ (by simp)
  ·rfl
  ·rfl
  ·rfl
  ·rfl
  ·rfl
 mono := fun hl ⟨v1, v6, e, h1, h6⟩ => ⟨v1, v6, e, Enc.mono hl h1, Enc.mono hl h6⟩
def Act28.Wf (x : Act28) : Prop := (I64 x.act) ∧ ((∀ y ∈ x.l, Cmd.Wf y) ∧ x.l.length ≤ 140737488351232) ∧ (Nte.Wf x.n)
theorem rd_Act28 : Rdbl Try.prog 88 Act28 Act28.Wf := fun H enc w fuel cs x h hzd => by
 obtain ⟨fs, hu, hfs⟩ := structOf_spec uf88
 obtain ⟨hl, m, hf⟩ := trod_field hu h hzd
 obtain ⟨f0, hf0, ht0, ho0⟩ : ∃ f, fs[0]? = some f ∧ f.type = 3 ∧ f.offset = 0 := by
  have h1 : (fs.toList.map (fun f => (f.type, f.offset)))[0]? = some (3, 0) := by rw [hfs]; rfl
  rw [List.getElem?_map, Option.map_eq_some_iff] at h1
  obtain ⟨f, h2, h3⟩ := h1
  simp only [Prod.mk.injEq] at h3
  exact ⟨f, by simpa using h2, h3.1, h3.2⟩
 obtain ⟨y0, hy0⟩ := hf 0 f0 hf0
 rw [ht0, ho0, co3] at hy0
 obtain ⟨a0, ha0, hw0⟩ := Rdbl.part (Rdbl.int ul3) hy0
 obtain ⟨f1, hf1, ht1, ho1⟩ : ∃ f, fs[1]? = some f ∧ f.type = 41 ∧ f.offset = 1 := by
  have h1 : (fs.toList.map (fun f => (f.type, f.offset)))[1]? = some (41, 1) := by rw [hfs]; rfl
  rw [List.getElem?_map, Option.map_eq_some_iff] at h1
  obtain ⟨f, h2, h3⟩ := h1
  simp only [Prod.mk.injEq] at h3
  exact ⟨f, by simpa using h2, h3.1, h3.2⟩
 obtain ⟨y1, hy1⟩ := hf 1 f1 hf1
 rw [ht1, ho1, co41] at hy1
 obtain ⟨a1, ha1, hw1⟩ := Rdbl.part (Rdbl.slice usl41 co54 (by decide) rd_Cmd bz54) hy1
 obtain ⟨f2, hf2, ht2, ho2⟩ : ∃ f, fs[2]? = some f ∧ f.type = 79 ∧ f.offset = 2 := by
  have h1 : (fs.toList.map (fun f => (f.type, f.offset)))[2]? = some (79, 2) := by rw [hfs]; rfl
  rw [List.getElem?_map, Option.map_eq_some_iff] at h1
  obtain ⟨f, h2, h3⟩ := h1
  simp only [Prod.mk.injEq] at h3
  exact ⟨f, by simpa using h2, h3.1, h3.2⟩
 obtain ⟨y2, hy2⟩ := hf 2 f2 hf2
 rw [ht2, ho2, co79] at hy2
 obtain ⟨a2, ha2, hw2⟩ := Rdbl.part rd_Nte hy2
 obtain ⟨f3, hf3, ht3, ho3⟩ : ∃ f, fs[3]? = some f ∧ f.type = 4 ∧ f.offset = 10 := by
  have h1 : (fs.toList.map (fun f => (f.type, f.offset)))[3]? = some (4, 10) := by rw [hfs]; rfl
  rw [List.getElem?_map, Option.map_eq_some_iff] at h1
  obtain ⟨f, h2, h3⟩ := h1
  simp only [Prod.mk.injEq] at h3
  exact ⟨f, by simpa using h2, h3.1, h3.2⟩
 obtain ⟨y3, hy3⟩ := hf 3 f3 hf3
 rw [ht3, ho3, co4] at hy3
 obtain ⟨a3, ha3, hw3⟩ := Rdbl.part (Rdbl.bool ul4) hy3
 obtain ⟨f4, hf4, ht4, ho4⟩ : ∃ f, fs[4]? = some f ∧ f.type = 67 ∧ f.offset = 11 := by
  have h1 : (fs.toList.map (fun f => (f.type, f.offset)))[4]? = some (67, 11) := by rw [hfs]; rfl
  rw [List.getElem?_map, Option.map_eq_some_iff] at h1
  obtain ⟨f, h2, h3⟩ := h1
  simp only [Prod.mk.injEq] at h3
  exact ⟨f, by simpa using h2, h3.1, h3.2⟩
 obtain ⟨y4, hy4⟩ := hf 4 f4 hf4
 rw [ht4, ho4, co67] at hy4
 obtain ⟨a4, ha4, hw4⟩ := Rdbl.part (Rdbl.u64 ul67) hy4
 rw [co88] at hl
 obtain ⟨x0, x1, x2, x3, x4, x5, x6, x7, x8, x9, x10, x11, rfl⟩ : ∃ x0 x1 x2 x3 x4 x5 x6 x7 x8 x9 x10 x11, cs = [x0, x1, x2, x3, x4, x5, x6, x7, x8, x9, x10, x11] := by
  match cs, hl with
  | [x0, x1, x2, x3, x4, x5, x6, x7, x8, x9, x10, x11], _ => exact ⟨x0, x1, x2, x3, x4, x5, x6, x7, x8, x9, x10, x11, rfl⟩
 simp only [List.drop_succ_cons, List.drop_zero, List.take_succ_cons, List.take_zero] at ha0 ha1 ha2 ha3 ha4
 obtain rfl : x0 = _ := by simpa [Enc.R] using ha0
 obtain ⟨v2_4, e2, r2_4⟩ := ha2
 simp only [List.cons.injEq, and_true] at e2
 obtain ⟨rfl, rfl, rfl, rfl, rfl, rfl, rfl, rfl⟩ := e2
 obtain rfl : x10 = _ := by simpa [Enc.R] using ha3
 obtain rfl : x11 = _ := by simpa [Enc.R] using ha4
 exact ⟨⟨a0, a1, a2, a3, a4⟩, ⟨_, _, rfl, ha1, r2_4⟩, ⟨hw0, hw1, hw2⟩⟩
structure Scr28 where
 p : Per
 l : List Act28
 deriving Inhabited
instance : Enc Scr28 where
 sz := 12
 R h x cs := ∃ v5 v6 v7 v8 v9 v11, cs = [.int .i64 x.p.id, .int .i64 x.p.players, .int .i64 x.p.delay, .int .i64 x.p.turn, .int .i64 x.p.said, v5, v6, v7, v8, v9, .bool x.p.split, v11] ∧ Enc.R h (x.p.mine : List Inp) [v5] ∧ Enc.R h (x.p.inputs : List Inp) [v6] ∧ Enc.R h (x.p.has : List Int) [v7] ∧ Enc.R h (x.p.acked : List Int) [v8] ∧ Enc.R h (x.p.hashes : List UInt64) [v9] ∧ Enc.R h (x.l : List Act28) [v11]
 len := fun ⟨v5, v6, v7, v8, v9, v11, e, h5, h6, h7, h8, h9, h11⟩ => by rw [e]; rfl
 one := fun ⟨v5, v6, v7, v8, v9, v11, e, h5, h6, h7, h8, h9, h11⟩ u hu => by
  rw [e] at hu; simp only [List.mem_cons, List.not_mem_nil, or_false] at hu
  rcases hu with rfl | rfl | rfl | rfl | rfl | rfl | rfl | rfl | rfl | rfl | rfl | rfl
  ·rfl
  ·rfl
  ·rfl
  ·rfl
  ·rfl
  ·exact Enc.one h5 _ (by simp)
  ·exact Enc.one h6 _ (by simp)
  ·exact Enc.one h7 _ (by simp)
  ·exact Enc.one h8 _ (by simp)
  ·exact Enc.one h9 _ (by simp)
  ·rfl
  ·exact Enc.one h11 _ (by simp)
 mono := fun hl ⟨v5, v6, v7, v8, v9, v11, e, h5, h6, h7, h8, h9, h11⟩ => ⟨v5, v6, v7, v8, v9, v11, e, Enc.mono hl h5, Enc.mono hl h6, Enc.mono hl h7, Enc.mono hl h8, Enc.mono hl h9, Enc.mono hl h11⟩
def Scr28.Wf (x : Scr28) : Prop := (Per.Wf x.p) ∧ ((∀ y ∈ x.l, Act28.Wf y) ∧ x.l.length ≤ 140737488351232)
theorem rd_Scr28 : Rdbl Try.prog 83 Scr28 Scr28.Wf := fun H enc w fuel cs x h hzd => by
 obtain ⟨fs, hu, hfs⟩ := structOf_spec uf83
 obtain ⟨hl, m, hf⟩ := trod_field hu h hzd
 obtain ⟨f0, hf0, ht0, ho0⟩ : ∃ f, fs[0]? = some f ∧ f.type = 28 ∧ f.offset = 0 := by
  have h1 : (fs.toList.map (fun f => (f.type, f.offset)))[0]? = some (28, 0) := by rw [hfs]; rfl
  rw [List.getElem?_map, Option.map_eq_some_iff] at h1
  obtain ⟨f, h2, h3⟩ := h1
  simp only [Prod.mk.injEq] at h3
  exact ⟨f, by simpa using h2, h3.1, h3.2⟩
 obtain ⟨y0, hy0⟩ := hf 0 f0 hf0
 rw [ht0, ho0, co28] at hy0
 obtain ⟨a0, ha0, hw0⟩ := Rdbl.part rd_Per hy0
 obtain ⟨f1, hf1, ht1, ho1⟩ : ∃ f, fs[1]? = some f ∧ f.type = 81 ∧ f.offset = 11 := by
  have h1 : (fs.toList.map (fun f => (f.type, f.offset)))[1]? = some (81, 11) := by rw [hfs]; rfl
  rw [List.getElem?_map, Option.map_eq_some_iff] at h1
  obtain ⟨f, h2, h3⟩ := h1
  simp only [Prod.mk.injEq] at h3
  exact ⟨f, by simpa using h2, h3.1, h3.2⟩
 obtain ⟨y1, hy1⟩ := hf 1 f1 hf1
 rw [ht1, ho1, co81] at hy1
 obtain ⟨a1, ha1, hw1⟩ := Rdbl.part (Rdbl.slice usl81 co88 (by decide) rd_Act28 bz88) hy1
 rw [co83] at hl
 obtain ⟨x0, x1, x2, x3, x4, x5, x6, x7, x8, x9, x10, x11, rfl⟩ : ∃ x0 x1 x2 x3 x4 x5 x6 x7 x8 x9 x10 x11, cs = [x0, x1, x2, x3, x4, x5, x6, x7, x8, x9, x10, x11] := by
  match cs, hl with
  | [x0, x1, x2, x3, x4, x5, x6, x7, x8, x9, x10, x11], _ => exact ⟨x0, x1, x2, x3, x4, x5, x6, x7, x8, x9, x10, x11, rfl⟩
 simp only [List.drop_succ_cons, List.drop_zero, List.take_succ_cons, List.take_zero] at ha0 ha1
 obtain ⟨v0_5, v0_6, v0_7, v0_8, v0_9, e0, r0_5, r0_6, r0_7, r0_8, r0_9⟩ := ha0
 simp only [List.cons.injEq, and_true] at e0
 obtain ⟨rfl, rfl, rfl, rfl, rfl, rfl, rfl, rfl, rfl, rfl, rfl⟩ := e0
 exact ⟨⟨a0, a1⟩, ⟨_, _, _, _, _, _, rfl, r0_5, r0_6, r0_7, r0_8, r0_9, ha1⟩, ⟨hw0, hw1⟩⟩
structure Fate where
 act : Int
 peer : Int
 k : Int
 deriving Inhabited, DecidableEq
theorem eq_Fate (x y : Fate) : (x.act == y.act && (x.peer == y.peer && (x.k == y.k && (true)))) = decide (x = y) := by
 obtain ⟨a0, a1, a2⟩ := x
 obtain ⟨b0, b1, b2⟩ := y
 simp only [Fate.mk.injEq, Bool.and_true, beq_iff_eq, Bool.decide_and]
 simp only [Bool.beq_eq_decide_eq]
instance : Enc Fate where
 sz := 3
 R h x cs := cs = [.int .i64 x.act, .int .i64 x.peer, .int .i64 x.k]
 len := fun e => by rw [e]; rfl
 one := fun e u hu => by
  rw [e] at hu; simp only [List.mem_cons, List.not_mem_nil, or_false] at hu
  rcases hu with rfl | rfl | rfl
  ·rfl
  ·rfl
  ·rfl
 mono := fun hl e => e
instance : Flat Fate := ⟨fun h => h⟩
def Fate.Wf (x : Fate) : Prop := (I64 x.act) ∧ (I64 x.peer) ∧ (I64 x.k)
theorem rd_Fate : Rdbl Try.prog 94 Fate Fate.Wf := fun H enc w fuel cs x h hzd => by
 obtain ⟨fs, hu, hfs⟩ := structOf_spec uf94
 obtain ⟨hl, m, hf⟩ := trod_field hu h hzd
 obtain ⟨f0, hf0, ht0, ho0⟩ : ∃ f, fs[0]? = some f ∧ f.type = 3 ∧ f.offset = 0 := by
  have h1 : (fs.toList.map (fun f => (f.type, f.offset)))[0]? = some (3, 0) := by rw [hfs]; rfl
  rw [List.getElem?_map, Option.map_eq_some_iff] at h1
  obtain ⟨f, h2, h3⟩ := h1
  simp only [Prod.mk.injEq] at h3
  exact ⟨f, by simpa using h2, h3.1, h3.2⟩
 obtain ⟨y0, hy0⟩ := hf 0 f0 hf0
 rw [ht0, ho0, co3] at hy0
 obtain ⟨a0, ha0, hw0⟩ := Rdbl.part (Rdbl.int ul3) hy0
 obtain ⟨f1, hf1, ht1, ho1⟩ : ∃ f, fs[1]? = some f ∧ f.type = 3 ∧ f.offset = 1 := by
  have h1 : (fs.toList.map (fun f => (f.type, f.offset)))[1]? = some (3, 1) := by rw [hfs]; rfl
  rw [List.getElem?_map, Option.map_eq_some_iff] at h1
  obtain ⟨f, h2, h3⟩ := h1
  simp only [Prod.mk.injEq] at h3
  exact ⟨f, by simpa using h2, h3.1, h3.2⟩
 obtain ⟨y1, hy1⟩ := hf 1 f1 hf1
 rw [ht1, ho1, co3] at hy1
 obtain ⟨a1, ha1, hw1⟩ := Rdbl.part (Rdbl.int ul3) hy1
 obtain ⟨f2, hf2, ht2, ho2⟩ : ∃ f, fs[2]? = some f ∧ f.type = 3 ∧ f.offset = 2 := by
  have h1 : (fs.toList.map (fun f => (f.type, f.offset)))[2]? = some (3, 2) := by rw [hfs]; rfl
  rw [List.getElem?_map, Option.map_eq_some_iff] at h1
  obtain ⟨f, h2, h3⟩ := h1
  simp only [Prod.mk.injEq] at h3
  exact ⟨f, by simpa using h2, h3.1, h3.2⟩
 obtain ⟨y2, hy2⟩ := hf 2 f2 hf2
 rw [ht2, ho2, co3] at hy2
 obtain ⟨a2, ha2, hw2⟩ := Rdbl.part (Rdbl.int ul3) hy2
 rw [co94] at hl
 obtain ⟨x0, x1, x2, rfl⟩ : ∃ x0 x1 x2, cs = [x0, x1, x2] := by
  match cs, hl with
  | [x0, x1, x2], _ => exact ⟨x0, x1, x2, rfl⟩
 simp only [List.drop_succ_cons, List.drop_zero, List.take_succ_cons, List.take_zero] at ha0 ha1 ha2
 obtain rfl : x0 = _ := by simpa [Enc.R] using ha0
 obtain rfl : x1 = _ := by simpa [Enc.R] using ha1
 obtain rfl : x2 = _ := by simpa [Enc.R] using ha2
 exact ⟨⟨a0, a1, a2⟩, rfl, ⟨hw0, hw1, hw2⟩⟩
structure Wld28 where
 n : Int
 delay : Int
 l : List Fate
 deriving Inhabited
instance : Enc Wld28 where
 sz := 3
 R h x cs := ∃ v2, cs = [.int .i64 x.n, .int .i64 x.delay, v2] ∧ Enc.R h (x.l : List Fate) [v2]
 len := fun ⟨v2, e, h2⟩ => by rw [e]; rfl
 one := fun ⟨v2, e, h2⟩ u hu => by
  rw [e] at hu; simp only [List.mem_cons, List.not_mem_nil, or_false] at hu
  rcases hu with rfl | rfl | rfl
  ·rfl
  ·rfl
  ·exact Enc.one h2 _ (by simp)
 mono := fun hl ⟨v2, e, h2⟩ => ⟨v2, e, Enc.mono hl h2⟩
def Wld28.Wf (x : Wld28) : Prop := (I64 x.n) ∧ (I64 x.delay) ∧ ((∀ y ∈ x.l, Fate.Wf y) ∧ x.l.length ≤ 140737488351232)
theorem rd_Wld28 : Rdbl Try.prog 61 Wld28 Wld28.Wf := fun H enc w fuel cs x h hzd => by
 obtain ⟨fs, hu, hfs⟩ := structOf_spec uf61
 obtain ⟨hl, m, hf⟩ := trod_field hu h hzd
 obtain ⟨f0, hf0, ht0, ho0⟩ : ∃ f, fs[0]? = some f ∧ f.type = 3 ∧ f.offset = 0 := by
  have h1 : (fs.toList.map (fun f => (f.type, f.offset)))[0]? = some (3, 0) := by rw [hfs]; rfl
  rw [List.getElem?_map, Option.map_eq_some_iff] at h1
  obtain ⟨f, h2, h3⟩ := h1
  simp only [Prod.mk.injEq] at h3
  exact ⟨f, by simpa using h2, h3.1, h3.2⟩
 obtain ⟨y0, hy0⟩ := hf 0 f0 hf0
 rw [ht0, ho0, co3] at hy0
 obtain ⟨a0, ha0, hw0⟩ := Rdbl.part (Rdbl.int ul3) hy0
 obtain ⟨f1, hf1, ht1, ho1⟩ : ∃ f, fs[1]? = some f ∧ f.type = 3 ∧ f.offset = 1 := by
  have h1 : (fs.toList.map (fun f => (f.type, f.offset)))[1]? = some (3, 1) := by rw [hfs]; rfl
  rw [List.getElem?_map, Option.map_eq_some_iff] at h1
  obtain ⟨f, h2, h3⟩ := h1
  simp only [Prod.mk.injEq] at h3
  exact ⟨f, by simpa using h2, h3.1, h3.2⟩
 obtain ⟨y1, hy1⟩ := hf 1 f1 hf1
 rw [ht1, ho1, co3] at hy1
 obtain ⟨a1, ha1, hw1⟩ := Rdbl.part (Rdbl.int ul3) hy1
 obtain ⟨f2, hf2, ht2, ho2⟩ : ∃ f, fs[2]? = some f ∧ f.type = 59 ∧ f.offset = 2 := by
  have h1 : (fs.toList.map (fun f => (f.type, f.offset)))[2]? = some (59, 2) := by rw [hfs]; rfl
  rw [List.getElem?_map, Option.map_eq_some_iff] at h1
  obtain ⟨f, h2, h3⟩ := h1
  simp only [Prod.mk.injEq] at h3
  exact ⟨f, by simpa using h2, h3.1, h3.2⟩
 obtain ⟨y2, hy2⟩ := hf 2 f2 hf2
 rw [ht2, ho2, co59] at hy2
 obtain ⟨a2, ha2, hw2⟩ := Rdbl.part (Rdbl.slice usl59 co94 (by decide) rd_Fate bz94) hy2
 rw [co61] at hl
 obtain ⟨x0, x1, x2, rfl⟩ : ∃ x0 x1 x2, cs = [x0, x1, x2] := by
  match cs, hl with
  | [x0, x1, x2], _ => exact ⟨x0, x1, x2, rfl⟩
 simp only [List.drop_succ_cons, List.drop_zero, List.take_succ_cons, List.take_zero] at ha0 ha1 ha2
 obtain rfl : x0 = _ := by simpa [Enc.R] using ha0
 obtain rfl : x1 = _ := by simpa [Enc.R] using ha1
 exact ⟨⟨a0, a1, a2⟩, ⟨_, rfl, ha2⟩, ⟨hw0, hw1, hw2⟩⟩
end Go.Proofs.Ytlpmiledfcblfaa
