/-
  Caches, the program's and the page's: what they hold, as structures; scripts.
-/
import Derived.Test.YtacpdjccbadomaaRows
import Derived.Test.YtacpdjccbadomaaCL
import Derived.Test.YtacpdjccbadomaaZC
set_option linter.unusedVariables false
set_option linter.unusedSimpArgs false
set_option maxRecDepth 20000
set_option maxHeartbeats 1000000
namespace Go.Proofs.Ytacpdjccbadomaa
open Go.Vg
open Enc (R)
theorem co3 : Try.prog.cellsOf 3 = 1 := by kernel_rfl
theorem co60 : Try.prog.cellsOf 60 = 1 := by kernel_rfl
theorem co62 : Try.prog.cellsOf 62 = 2 := by kernel_rfl
theorem co66 : Try.prog.cellsOf 66 = 3 := by kernel_rfl
theorem uf62 : structOf Try.prog 62 = some [(3, 0), (60, 1)] := by kernel_rfl
theorem uf66 : structOf Try.prog 66 = some [(3, 0), (3, 1), (3, 2)] := by kernel_rfl
theorem usl60 : Try.prog.underlying 60 = some (.slice 66) := by kernel_rfl
structure Cach where
  room : Int
  vals : (Int → Option Int)
  keys : List Int
  hits : Int
  misses : Int
  deriving Inhabited
def Cach_ch (g : Nat) (x : Cach) : Ch := exch fun q : Nat × (Option Nat × Nat) => stars (blk g [.int .i64 x.room, .map (some q.1), rowV q.2 x.keys.length, .int .i64 x.hits, .int .i64 x.misses] 95 :: [mapCh q.1 x.vals, row nilH 3 (rowV q.2 x.keys.length) x.keys])
theorem Cach_open {w0 w : World} {G : List Ch} {g : Nat} {x : Cach} (k : Nat) (hk : G[k]? = some (Cach_ch g x)) (h : Sat w0 G w) : ∃ q : Nat × (Option Nat × Nat), Sat w0 (G.set k (blk g [.int .i64 x.room, .map (some q.1), rowV q.2 x.keys.length, .int .i64 x.hits, .int .i64 x.misses] 95) ++ [mapCh q.1 x.vals, row nilH 3 (rowV q.2 x.keys.length) x.keys]) w := Sat.openAt (A := fun q : Nat × (Option Nat × Nat) => blk g [.int .i64 x.room, .map (some q.1), rowV q.2 x.keys.length, .int .i64 x.hits, .int .i64 x.misses] 95) (L := fun q : Nat × (Option Nat × Nat) => [mapCh q.1 x.vals, row nilH 3 (rowV q.2 x.keys.length) x.keys]) k hk h
theorem Cach_shut {w0 w : World} {R : List Ch} {g : Nat} {x : Cach} (q : Nat × (Option Nat × Nat)) (h : Sat w0 (R ++ [blk g [.int .i64 x.room, .map (some q.1), rowV q.2 x.keys.length, .int .i64 x.hits, .int .i64 x.misses] 95, mapCh q.1 x.vals, row nilH 3 (rowV q.2 x.keys.length) x.keys]) w) : Sat w0 (Cach_ch g x :: R) w := Sat.toEx (C := fun q : Nat × (Option Nat × Nat) => stars (blk g [.int .i64 x.room, .map (some q.1), rowV q.2 x.keys.length, .int .i64 x.hits, .int .i64 x.misses] 95 :: [mapCh q.1 x.vals, row nilH 3 (rowV q.2 x.keys.length) x.keys])) q (Sat.toStars (blk g [.int .i64 x.room, .map (some q.1), rowV q.2 x.keys.length, .int .i64 x.hits, .int .i64 x.misses] 95 :: [mapCh q.1 x.vals, row nilH 3 (rowV q.2 x.keys.length) x.keys]) (G := R) h)
structure CRef where
  room : Int
  hits : Int
  misses : Int
  k : List Int
  v : List Int
  deriving Inhabited
def CRef_ch (g : Nat) (x : CRef) : Ch := exch fun q : (Option Nat × Nat) × (Option Nat × Nat) => stars (blk g [.int .i64 x.room, .int .i64 x.hits, .int .i64 x.misses, rowV q.1 x.k.length, rowV q.2 x.v.length] 75 :: [row nilH 3 (rowV q.1 x.k.length) x.k, row nilH 3 (rowV q.2 x.v.length) x.v])
theorem CRef_open {w0 w : World} {G : List Ch} {g : Nat} {x : CRef} (k : Nat) (hk : G[k]? = some (CRef_ch g x)) (h : Sat w0 G w) : ∃ q : (Option Nat × Nat) × (Option Nat × Nat), Sat w0 (G.set k (blk g [.int .i64 x.room, .int .i64 x.hits, .int .i64 x.misses, rowV q.1 x.k.length, rowV q.2 x.v.length] 75) ++ [row nilH 3 (rowV q.1 x.k.length) x.k, row nilH 3 (rowV q.2 x.v.length) x.v]) w := Sat.openAt (A := fun q : (Option Nat × Nat) × (Option Nat × Nat) => blk g [.int .i64 x.room, .int .i64 x.hits, .int .i64 x.misses, rowV q.1 x.k.length, rowV q.2 x.v.length] 75) (L := fun q : (Option Nat × Nat) × (Option Nat × Nat) => [row nilH 3 (rowV q.1 x.k.length) x.k, row nilH 3 (rowV q.2 x.v.length) x.v]) k hk h
theorem CRef_shut {w0 w : World} {R : List Ch} {g : Nat} {x : CRef} (q : (Option Nat × Nat) × (Option Nat × Nat)) (h : Sat w0 (R ++ [blk g [.int .i64 x.room, .int .i64 x.hits, .int .i64 x.misses, rowV q.1 x.k.length, rowV q.2 x.v.length] 75, row nilH 3 (rowV q.1 x.k.length) x.k, row nilH 3 (rowV q.2 x.v.length) x.v]) w) : Sat w0 (CRef_ch g x :: R) w := Sat.toEx (C := fun q : (Option Nat × Nat) × (Option Nat × Nat) => stars (blk g [.int .i64 x.room, .int .i64 x.hits, .int .i64 x.misses, rowV q.1 x.k.length, rowV q.2 x.v.length] 75 :: [row nilH 3 (rowV q.1 x.k.length) x.k, row nilH 3 (rowV q.2 x.v.length) x.v])) q (Sat.toStars (blk g [.int .i64 x.room, .int .i64 x.hits, .int .i64 x.misses, rowV q.1 x.k.length, rowV q.2 x.v.length] 75 :: [row nilH 3 (rowV q.1 x.k.length) x.k, row nilH 3 (rowV q.2 x.v.length) x.v]) (G := R) h)
structure CAct where
  act : Int
  key : Int
  val : Int
  deriving Inhabited
instance : Enc CAct where
  sz := 3
  R h x cs := cs = [.int .i64 x.act, .int .i64 x.key, .int .i64 x.val]
  len := fun e => by rw [e]; rfl
  one := fun e u hu => by
    rw [e] at hu; simp only [List.mem_cons, List.not_mem_nil, or_false] at hu
    rcases hu with rfl | rfl | rfl
    · rfl
    · rfl
    · rfl
  mono := fun hl e => e
instance : Flat CAct := ⟨fun h => h⟩
def CAct.Wf (x : CAct) : Prop := (I64 x.act) ∧ (I64 x.key) ∧ (I64 x.val)
theorem rd_CAct : Rdbl Try.prog 66 CAct CAct.Wf := fun H enc w fuel cs x h => by
  obtain ⟨fs, hu, hfs⟩ := structOf_spec uf66
  obtain ⟨hl, m, hf⟩ := trod_field hu h
  obtain ⟨f0, hf0, ht0, ho0⟩ : ∃ f, fs[0]? = some f ∧ f.type = 3 ∧ f.offset = 0 := by
    have h1 : (fs.toList.map (fun f => (f.type, f.offset)))[0]? = some (3, 0) := by rw [hfs]; rfl
    rw [List.getElem?_map, Option.map_eq_some_iff] at h1
    obtain ⟨f, h2, h3⟩ := h1
    simp only [Prod.mk.injEq] at h3
    exact ⟨f, by simpa using h2, h3.1, h3.2⟩
  obtain ⟨y0, hy0⟩ := hf 0 f0 hf0
  rw [ht0, ho0, co3] at hy0
  obtain ⟨a0, ha0, hw0⟩ := Rdbl.part (Rdbl.int ul3) hy0
  obtain ⟨f1, hf1, ht1, ho1⟩ : ∃ f, fs[1]? = some f ∧ f.type = 3 ∧ f.offset = 1 := by
    have h1 : (fs.toList.map (fun f => (f.type, f.offset)))[1]? = some (3, 1) := by rw [hfs]; rfl
    rw [List.getElem?_map, Option.map_eq_some_iff] at h1
    obtain ⟨f, h2, h3⟩ := h1
    simp only [Prod.mk.injEq] at h3
    exact ⟨f, by simpa using h2, h3.1, h3.2⟩
  obtain ⟨y1, hy1⟩ := hf 1 f1 hf1
  rw [ht1, ho1, co3] at hy1
  obtain ⟨a1, ha1, hw1⟩ := Rdbl.part (Rdbl.int ul3) hy1
  obtain ⟨f2, hf2, ht2, ho2⟩ : ∃ f, fs[2]? = some f ∧ f.type = 3 ∧ f.offset = 2 := by
    have h1 : (fs.toList.map (fun f => (f.type, f.offset)))[2]? = some (3, 2) := by rw [hfs]; rfl
    rw [List.getElem?_map, Option.map_eq_some_iff] at h1
    obtain ⟨f, h2, h3⟩ := h1
    simp only [Prod.mk.injEq] at h3
    exact ⟨f, by simpa using h2, h3.1, h3.2⟩
  obtain ⟨y2, hy2⟩ := hf 2 f2 hf2
  rw [ht2, ho2, co3] at hy2
  obtain ⟨a2, ha2, hw2⟩ := Rdbl.part (Rdbl.int ul3) hy2
  rw [co66] at hl
  obtain ⟨x0, x1, x2, rfl⟩ : ∃ x0 x1 x2, cs = [x0, x1, x2] := by
    match cs, hl with
    | [x0, x1, x2], _ => exact ⟨x0, x1, x2, rfl⟩
  simp only [List.drop_succ_cons, List.drop_zero, List.take_succ_cons, List.take_zero] at ha0 ha1 ha2
  obtain rfl : x0 = _ := by simpa [Enc.R] using ha0
  obtain rfl : x1 = _ := by simpa [Enc.R] using ha1
  obtain rfl : x2 = _ := by simpa [Enc.R] using ha2
  exact ⟨⟨a0, a1, a2⟩, rfl, ⟨hw0, hw1, hw2⟩⟩
structure CScr where
  room : Int
  l : List CAct
  deriving Inhabited
instance : Enc CScr where
  sz := 2
  R h x cs := ∃ v1, cs = [.int .i64 x.room, v1] ∧ Enc.R h (x.l : List CAct) [v1]
  len := fun ⟨v1, e, h1⟩ => by rw [e]; rfl
  one := fun ⟨v1, e, h1⟩ u hu => by
    rw [e] at hu; simp only [List.mem_cons, List.not_mem_nil, or_false] at hu
    rcases hu with rfl | rfl
    · rfl
    · exact Enc.one h1 _ (by simp)
  mono := fun hl ⟨v1, e, h1⟩ => ⟨v1, e, Enc.mono hl h1⟩
def CScr.Wf (x : CScr) : Prop := (I64 x.room) ∧ (∀ y ∈ x.l, CAct.Wf y)
theorem rd_CScr : Rdbl Try.prog 62 CScr CScr.Wf := fun H enc w fuel cs x h => by
  obtain ⟨fs, hu, hfs⟩ := structOf_spec uf62
  obtain ⟨hl, m, hf⟩ := trod_field hu h
  obtain ⟨f0, hf0, ht0, ho0⟩ : ∃ f, fs[0]? = some f ∧ f.type = 3 ∧ f.offset = 0 := by
    have h1 : (fs.toList.map (fun f => (f.type, f.offset)))[0]? = some (3, 0) := by rw [hfs]; rfl
    rw [List.getElem?_map, Option.map_eq_some_iff] at h1
    obtain ⟨f, h2, h3⟩ := h1
    simp only [Prod.mk.injEq] at h3
    exact ⟨f, by simpa using h2, h3.1, h3.2⟩
  obtain ⟨y0, hy0⟩ := hf 0 f0 hf0
  rw [ht0, ho0, co3] at hy0
  obtain ⟨a0, ha0, hw0⟩ := Rdbl.part (Rdbl.int ul3) hy0
  obtain ⟨f1, hf1, ht1, ho1⟩ : ∃ f, fs[1]? = some f ∧ f.type = 60 ∧ f.offset = 1 := by
    have h1 : (fs.toList.map (fun f => (f.type, f.offset)))[1]? = some (60, 1) := by rw [hfs]; rfl
    rw [List.getElem?_map, Option.map_eq_some_iff] at h1
    obtain ⟨f, h2, h3⟩ := h1
    simp only [Prod.mk.injEq] at h3
    exact ⟨f, by simpa using h2, h3.1, h3.2⟩
  obtain ⟨y1, hy1⟩ := hf 1 f1 hf1
  rw [ht1, ho1, co60] at hy1
  obtain ⟨a1, ha1, hw1⟩ := Rdbl.part (Rdbl.slice usl60 co66 (by decide) rd_CAct) hy1
  rw [co62] at hl
  obtain ⟨x0, x1, rfl⟩ : ∃ x0 x1, cs = [x0, x1] := by
    match cs, hl with
    | [x0, x1], _ => exact ⟨x0, x1, rfl⟩
  simp only [List.drop_succ_cons, List.drop_zero, List.take_succ_cons, List.take_zero] at ha0 ha1
  obtain rfl : x0 = _ := by simpa [Enc.R] using ha0
  exact ⟨⟨a0, a1⟩, ⟨_, rfl, ha1⟩, ⟨hw0, hw1⟩⟩
end Go.Proofs.Ytacpdjccbadomaa
