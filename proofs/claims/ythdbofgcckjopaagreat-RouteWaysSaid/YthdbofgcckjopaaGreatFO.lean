/-
  Nets and queues as structures; what the statements are asked with.
-/
import Derived.Test.YthdbofgcckjopaaGreatRows
import Derived.Test.YthdbofgcckjopaaGreatBH
import Derived.Test.YthdbofgcckjopaaGreatW3
set_option linter.unusedVariables false
set_option linter.unusedSimpArgs false
set_option maxRecDepth 20000
set_option maxHeartbeats 4000000
namespace Go.Proofs.YthdbofgcckjopaaGreat
open Go.Vg
open Enc (R)
theorem bz120 : decide (0 < Tryz.prog.bytesOf 120) = true := by kernel_rfl
theorem bz3 : decide (0 < Tryz.prog.bytesOf 3) = true := by kernel_rfl
theorem co23 : Tryz.prog.cellsOf 23 = 1 := by kernel_rfl
theorem co37 : Tryz.prog.cellsOf 37 = 1 := by kernel_rfl
theorem co39 : Tryz.prog.cellsOf 39 = 7 := by kernel_rfl
theorem uf39 : structOf Tryz.prog 39 = some [(36, 0), (37, 3), (3, 4), (3, 5), (23, 6)] := by kernel_rfl
theorem ul4 : Tryz.prog.underlying 4 = some .bool := by kernel_rfl
structure Itm where
 key : Int
 val : Int
 deriving Inhabited, DecidableEq
instance : Enc Itm where
 sz := 2
 R h x cs := cs = [.int .i64 x.key, .int .i64 x.val]
 len := fun e => by rw [e]; rfl
 one := fun e u hu => by
  rw [e] at hu; simp only [List.mem_cons, List.not_mem_nil, or_false] at hu
  rcases hu with rfl | rfl
  ·rfl
  ·rfl
 mono := fun hl e => e
instance : Flat Itm := ⟨fun h => h⟩
structure Que where
 l : List Itm
 deriving Inhabited
def Que_ch (g : Nat) (x : Que) : Ch := exch fun q : (Option Nat × Nat) => stars (blk g [rowV q x.l.length] 190 :: [row nilH 195 (rowV q x.l.length) x.l])
theorem Que_open {w0 w : World} {G : List Ch} {g : Nat} {x : Que} (k : Nat) (hk : G[k]? = some (Que_ch g x)) (h : Sat w0 G w) : ∃ q : (Option Nat × Nat), Sat w0 (G.set k (blk g [rowV q x.l.length] 190) ++ [row nilH 195 (rowV q x.l.length) x.l]) w := Sat.openAt (A := fun q : (Option Nat × Nat) => blk g [rowV q x.l.length] 190) (L := fun q : (Option Nat × Nat) => [row nilH 195 (rowV q x.l.length) x.l]) k hk h
theorem Que_shut {w0 w : World} {R : List Ch} {g : Nat} {x : Que} (q : (Option Nat × Nat)) (h : Sat w0 (R ++ [blk g [rowV q x.l.length] 190, row nilH 195 (rowV q x.l.length) x.l]) w) : Sat w0 (Que_ch g x :: R) w := Sat.toEx (C := fun q : (Option Nat × Nat) => stars (blk g [rowV q x.l.length] 190 :: [row nilH 195 (rowV q x.l.length) x.l])) q (Sat.toStars (blk g [rowV q x.l.length] 190 :: [row nilH 195 (rowV q x.l.length) x.l]) (G := R) h)
structure Net where
 g : Grd
 cls : Int
 free : List Bool
 deriving Inhabited
structure Ask13 where
 g : Grd
 l : List Bld
 cls : Int
 size : Int
 ts : List Int
 deriving Inhabited
instance : Enc Ask13 where
 sz := 7
 R h x cs := ∃ v2 v3 v6, cs = [.int .i64 x.g.w, .int .i64 x.g.h, v2, v3, .int .i64 x.cls, .int .i64 x.size, v6] ∧ Enc.R h (x.g.tiles : List UInt8) [v2] ∧ Enc.R h (x.l : List Bld) [v3] ∧ Enc.R h (x.ts : List Int) [v6]
 len := fun ⟨v2, v3, v6, e, h2, h3, h6⟩ => by rw [e]; rfl
 one := fun ⟨v2, v3, v6, e, h2, h3, h6⟩ u hu => by
  rw [e] at hu; simp only [List.mem_cons, List.not_mem_nil, or_false] at hu
  rcases hu with rfl | rfl | rfl | rfl | rfl | rfl | rfl
  ·rfl
  ·rfl
  ·exact Enc.one h2 _ (by simp)
  ·exact Enc.one h3 _ (by simp)
  ·rfl
  ·rfl
  ·exact Enc.one h6 _ (by simp)
 mono := fun hl ⟨v2, v3, v6, e, h2, h3, h6⟩ => ⟨v2, v3, v6, e, Enc.mono hl h2, Enc.mono hl h3, Enc.mono hl h6⟩
def Ask13.Wf (x : Ask13) : Prop := (Grd.Wf x.g) ∧ ((∀ y ∈ x.l, Bld.Wf y) ∧ x.l.length ≤ 140737488351232) ∧ (I64 x.cls) ∧ (I64 x.size) ∧ ((∀ y ∈ x.ts, I64 y) ∧ x.ts.length ≤ 140737488351232)
theorem rd_Ask13 : Rdbl Tryz.prog 39 Ask13 Ask13.Wf := fun H enc w fuel cs x h hzd => by
 obtain ⟨fs, hu, hfs⟩ := structOf_spec uf39
 obtain ⟨hl, m, hf⟩ := trod_field hu h hzd
 obtain ⟨f0, hf0, ht0, ho0⟩ : ∃ f, fs[0]? = some f ∧ f.type = 36 ∧ f.offset = 0 := by
  have h1 : (fs.toList.map (fun f => (f.type, f.offset)))[0]? = some (36, 0) := by rw [hfs]; rfl
  rw [List.getElem?_map, Option.map_eq_some_iff] at h1
  obtain ⟨f, h2, h3⟩ := h1
  simp only [Prod.mk.injEq] at h3
  exact ⟨f, by simpa using h2, h3.1, h3.2⟩
 obtain ⟨y0, hy0⟩ := hf 0 f0 hf0
 rw [ht0, ho0, co36] at hy0
 obtain ⟨a0, ha0, hw0⟩ := Rdbl.part rd_Grd hy0
 obtain ⟨f1, hf1, ht1, ho1⟩ : ∃ f, fs[1]? = some f ∧ f.type = 37 ∧ f.offset = 3 := by
  have h1 : (fs.toList.map (fun f => (f.type, f.offset)))[1]? = some (37, 3) := by rw [hfs]; rfl
  rw [List.getElem?_map, Option.map_eq_some_iff] at h1
  obtain ⟨f, h2, h3⟩ := h1
  simp only [Prod.mk.injEq] at h3
  exact ⟨f, by simpa using h2, h3.1, h3.2⟩
 obtain ⟨y1, hy1⟩ := hf 1 f1 hf1
 rw [ht1, ho1, co37] at hy1
 obtain ⟨a1, ha1, hw1⟩ := Rdbl.part (Rdbl.slice usl37 co120 (by decide) rd_Bld bz120) hy1
 obtain ⟨f2, hf2, ht2, ho2⟩ : ∃ f, fs[2]? = some f ∧ f.type = 3 ∧ f.offset = 4 := by
  have h1 : (fs.toList.map (fun f => (f.type, f.offset)))[2]? = some (3, 4) := by rw [hfs]; rfl
  rw [List.getElem?_map, Option.map_eq_some_iff] at h1
  obtain ⟨f, h2, h3⟩ := h1
  simp only [Prod.mk.injEq] at h3
  exact ⟨f, by simpa using h2, h3.1, h3.2⟩
 obtain ⟨y2, hy2⟩ := hf 2 f2 hf2
 rw [ht2, ho2, co3] at hy2
 obtain ⟨a2, ha2, hw2⟩ := Rdbl.part (Rdbl.int ul3) hy2
 obtain ⟨f3, hf3, ht3, ho3⟩ : ∃ f, fs[3]? = some f ∧ f.type = 3 ∧ f.offset = 5 := by
  have h1 : (fs.toList.map (fun f => (f.type, f.offset)))[3]? = some (3, 5) := by rw [hfs]; rfl
  rw [List.getElem?_map, Option.map_eq_some_iff] at h1
  obtain ⟨f, h2, h3⟩ := h1
  simp only [Prod.mk.injEq] at h3
  exact ⟨f, by simpa using h2, h3.1, h3.2⟩
 obtain ⟨y3, hy3⟩ := hf 3 f3 hf3
 rw [ht3, ho3, co3] at hy3
 obtain ⟨a3, ha3, hw3⟩ := Rdbl.part (Rdbl.int ul3) hy3
 obtain ⟨f4, hf4, ht4, ho4⟩ : ∃ f, fs[4]? = some f ∧ f.type = 23 ∧ f.offset = 6 := by
  have h1 : (fs.toList.map (fun f => (f.type, f.offset)))[4]? = some (23, 6) := by rw [hfs]; rfl
  rw [List.getElem?_map, Option.map_eq_some_iff] at h1
  obtain ⟨f, h2, h3⟩ := h1
  simp only [Prod.mk.injEq] at h3
  exact ⟨f, by simpa using h2, h3.1, h3.2⟩
 obtain ⟨y4, hy4⟩ := hf 4 f4 hf4
 rw [ht4, ho4, co23] at hy4
 obtain ⟨a4, ha4, hw4⟩ := Rdbl.part (Rdbl.slice usl23 co3 (by decide) (Rdbl.int ul3) bz3) hy4
 rw [co39] at hl
 obtain ⟨x0, x1, x2, x3, x4, x5, x6, rfl⟩ : ∃ x0 x1 x2 x3 x4 x5 x6, cs = [x0, x1, x2, x3, x4, x5, x6] := by
  match cs, hl with
  | [x0, x1, x2, x3, x4, x5, x6], _ => exact ⟨x0, x1, x2, x3, x4, x5, x6, rfl⟩
 simp only [List.drop_succ_cons, List.drop_zero, List.take_succ_cons, List.take_zero] at ha0 ha1 ha2 ha3 ha4
 obtain ⟨v0_2, e0, r0_2⟩ := ha0
 simp only [List.cons.injEq, and_true] at e0
 obtain ⟨rfl, rfl, rfl⟩ := e0
 obtain rfl : x4 = _ := by simpa [Enc.R] using ha2
 obtain rfl : x5 = _ := by simpa [Enc.R] using ha3
 exact ⟨⟨a0, a1, a2, a3, a4⟩, ⟨_, _, _, rfl, r0_2, ha1, ha4⟩, ⟨hw0, hw1, hw2, hw3, hw4⟩⟩
end Go.Proofs.YthdbofgcckjopaaGreat
