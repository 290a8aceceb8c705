/-
  Caches and the scripts of the statements of the fields, as structures.
-/
import Derived.Test.YthdbofgcckjopaaGreatRows
import Derived.Test.YthdbofgcckjopaaGreatCL
import Derived.Test.YthdbofgcckjopaaGreatFO
import Derived.Test.YthdbofgcckjopaaGreatW3
import Derived.Test.YthdbofgcckjopaaGreatZC
set_option linter.unusedVariables false
set_option linter.unusedSimpArgs false
set_option maxRecDepth 20000
set_option maxHeartbeats 4000000
namespace Go.Proofs.YthdbofgcckjopaaGreat
open Go.Vg
open Enc (R)
theorem bz39 : decide (0 < Tryz.prog.bytesOf 39) = true := by kernel_rfl
theorem co22 : Tryz.prog.cellsOf 22 = 1 := by kernel_rfl
theorem co25 : Tryz.prog.cellsOf 25 = 4 := by kernel_rfl
theorem uf25 : structOf Tryz.prog 25 = some [(3, 0), (22, 1), (23, 2), (3, 3)] := by kernel_rfl
theorem usl22 : Tryz.prog.underlying 22 = some (.slice 39) := by kernel_rfl
structure Cach where
 room : Int
 vals : (Int → Option Int)
 keys : List Int
 hits : Int
 misses : Int
 deriving Inhabited
def Cach_ch (g : Nat) (x : Cach) : Ch := exch fun q : Nat × (Option Nat × Nat) => stars (blk g [.int .i64 x.room, .map (some q.1), rowV q.2 x.keys.length, .int .i64 x.hits, .int .i64 x.misses] 115 :: [mapCh q.1 x.vals, row nilH 3 (rowV q.2 x.keys.length) x.keys])
theorem Cach_open {w0 w : World} {G : List Ch} {g : Nat} {x : Cach} (k : Nat) (hk : G[k]? = some (Cach_ch g x)) (h : Sat w0 G w) : ∃ q : Nat × (Option Nat × Nat), Sat w0 (G.set k (blk g [.int .i64 x.room, .map (some q.1), rowV q.2 x.keys.length, .int .i64 x.hits, .int .i64 x.misses] 115) ++ [mapCh q.1 x.vals, row nilH 3 (rowV q.2 x.keys.length) x.keys]) w := Sat.openAt (A := fun q : Nat × (Option Nat × Nat) => blk g [.int .i64 x.room, .map (some q.1), rowV q.2 x.keys.length, .int .i64 x.hits, .int .i64 x.misses] 115) (L := fun q : Nat × (Option Nat × Nat) => [mapCh q.1 x.vals, row nilH 3 (rowV q.2 x.keys.length) x.keys]) k hk h
theorem Cach_shut {w0 w : World} {R : List Ch} {g : Nat} {x : Cach} (q : Nat × (Option Nat × Nat)) (h : Sat w0 (R ++ [blk g [.int .i64 x.room, .map (some q.1), rowV q.2 x.keys.length, .int .i64 x.hits, .int .i64 x.misses] 115, mapCh q.1 x.vals, row nilH 3 (rowV q.2 x.keys.length) x.keys]) w) : Sat w0 (Cach_ch g x :: R) w := Sat.toEx (C := fun q : Nat × (Option Nat × Nat) => stars (blk g [.int .i64 x.room, .map (some q.1), rowV q.2 x.keys.length, .int .i64 x.hits, .int .i64 x.misses] 115 :: [mapCh q.1 x.vals, row nilH 3 (rowV q.2 x.keys.length) x.keys])) q (Sat.toStars (blk g [.int .i64 x.room, .map (some q.1), rowV q.2 x.keys.length, .int .i64 x.hits, .int .i64 x.misses] 115 :: [mapCh q.1 x.vals, row nilH 3 (rowV q.2 x.keys.length) x.keys]) (G := R) h)
structure Scr18 where
 room : Int
 l : List Ask13
 order : List Int
 forget : Int
 deriving Inhabited
instance : Enc Scr18 where
 sz := 4
 R h x cs := ∃ v1 v2, cs = [.int .i64 x.room, v1, v2, .int .i64 x.forget] ∧ Enc.R h (x.l : List Ask13) [v1] ∧ Enc.R h (x.order : List Int) [v2]
 len := fun ⟨v1, v2, e, h1, h2⟩ => by rw [e]; rfl
 one := fun ⟨v1, v2, e, h1, h2⟩ u hu => by
  rw [e] at hu; simp only [List.mem_cons, List.not_mem_nil, or_false] at hu
  rcases hu with rfl | rfl | rfl | rfl
  ·rfl
  ·exact Enc.one h1 _ (by simp)
  ·exact Enc.one h2 _ (by simp)
  ·rfl
 mono := fun hl ⟨v1, v2, e, h1, h2⟩ => ⟨v1, v2, e, Enc.mono hl h1, Enc.mono hl h2⟩
def Scr18.Wf (x : Scr18) : Prop := (I64 x.room) ∧ ((∀ y ∈ x.l, Ask13.Wf y) ∧ x.l.length ≤ 140737488351232) ∧ ((∀ y ∈ x.order, I64 y) ∧ x.order.length ≤ 140737488351232) ∧ (I64 x.forget)
theorem rd_Scr18 : Rdbl Tryz.prog 25 Scr18 Scr18.Wf := fun H enc w fuel cs x h hzd => by
 obtain ⟨fs, hu, hfs⟩ := structOf_spec uf25
 obtain ⟨hl, m, hf⟩ := trod_field hu h hzd
 obtain ⟨f0, hf0, ht0, ho0⟩ : ∃ f, fs[0]? = some f ∧ f.type = 3 ∧ f.offset = 0 := by
  have h1 : (fs.toList.map (fun f => (f.type, f.offset)))[0]? = some (3, 0) := by rw [hfs]; rfl
  rw [List.getElem?_map, Option.map_eq_some_iff] at h1
  obtain ⟨f, h2, h3⟩ := h1
  simp only [Prod.mk.injEq] at h3
  exact ⟨f, by simpa using h2, h3.1, h3.2⟩
 obtain ⟨y0, hy0⟩ := hf 0 f0 hf0
 rw [ht0, ho0, co3] at hy0
 obtain ⟨a0, ha0, hw0⟩ := Rdbl.part (Rdbl.int ul3) hy0
 obtain ⟨f1, hf1, ht1, ho1⟩ : ∃ f, fs[1]? = some f ∧ f.type = 22 ∧ f.offset = 1 := by
  have h1 : (fs.toList.map (fun f => (f.type, f.offset)))[1]? = some (22, 1) := by rw [hfs]; rfl
  rw [List.getElem?_map, Option.map_eq_some_iff] at h1
  obtain ⟨f, h2, h3⟩ := h1
  simp only [Prod.mk.injEq] at h3
  exact ⟨f, by simpa using h2, h3.1, h3.2⟩
 obtain ⟨y1, hy1⟩ := hf 1 f1 hf1
 rw [ht1, ho1, co22] at hy1
 obtain ⟨a1, ha1, hw1⟩ := Rdbl.part (Rdbl.slice usl22 co39 (by decide) rd_Ask13 bz39) hy1
 obtain ⟨f2, hf2, ht2, ho2⟩ : ∃ f, fs[2]? = some f ∧ f.type = 23 ∧ f.offset = 2 := by
  have h1 : (fs.toList.map (fun f => (f.type, f.offset)))[2]? = some (23, 2) := by rw [hfs]; rfl
  rw [List.getElem?_map, Option.map_eq_some_iff] at h1
  obtain ⟨f, h2, h3⟩ := h1
  simp only [Prod.mk.injEq] at h3
  exact ⟨f, by simpa using h2, h3.1, h3.2⟩
 obtain ⟨y2, hy2⟩ := hf 2 f2 hf2
 rw [ht2, ho2, co23] at hy2
 obtain ⟨a2, ha2, hw2⟩ := Rdbl.part (Rdbl.slice usl23 co3 (by decide) (Rdbl.int ul3) bz3) hy2
 obtain ⟨f3, hf3, ht3, ho3⟩ : ∃ f, fs[3]? = some f ∧ f.type = 3 ∧ f.offset = 3 := by
  have h1 : (fs.toList.map (fun f => (f.type, f.offset)))[3]? = some (3, 3) := by rw [hfs]; rfl
  rw [List.getElem?_map, Option.map_eq_some_iff] at h1
  obtain ⟨f, h2, h3⟩ := h1
  simp only [Prod.mk.injEq] at h3
  exact ⟨f, by simpa using h2, h3.1, h3.2⟩
 obtain ⟨y3, hy3⟩ := hf 3 f3 hf3
 rw [ht3, ho3, co3] at hy3
 obtain ⟨a3, ha3, hw3⟩ := Rdbl.part (Rdbl.int ul3) hy3
 rw [co25] at hl
 obtain ⟨x0, x1, x2, x3, rfl⟩ : ∃ x0 x1 x2 x3, cs = [x0, x1, x2, x3] := by
  match cs, hl with
  | [x0, x1, x2, x3], _ => exact ⟨x0, x1, x2, x3, rfl⟩
 simp only [List.drop_succ_cons, List.drop_zero, List.take_succ_cons, List.take_zero] at ha0 ha1 ha2 ha3
 obtain rfl : x0 = _ := by simpa [Enc.R] using ha0
 obtain rfl : x3 = _ := by simpa [Enc.R] using ha3
 exact ⟨⟨a0, a1, a2, a3⟩, ⟨_, _, rfl, ha1, ha2⟩, ⟨hw0, hw1, hw2, hw3⟩⟩
end Go.Proofs.YthdbofgcckjopaaGreat
