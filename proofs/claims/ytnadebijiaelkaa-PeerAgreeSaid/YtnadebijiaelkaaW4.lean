/-
  Texts of one's own, joined: TO ZC TI DR PO.
-/
import Derived.Test.YtnadebijiaelkaaRows
import Derived.Test.YtnadebijiaelkaaW3
import Derived.Test.YtnadebijiaelkaaW2
set_option linter.unusedVariables false
set_option linter.unusedSimpArgs false
set_option maxRecDepth 20000
set_option maxHeartbeats 4000000
namespace Go.Proofs.Ytnadebijiaelkaa
open Go.Vg
open Enc (R)
theorem bz59 : decide (0 < Try.prog.bytesOf 59) = true := by kernel_rfl
theorem co3 : Try.prog.cellsOf 3 = 1 := by kernel_rfl
theorem co51 : Try.prog.cellsOf 51 = 1 := by kernel_rfl
theorem co53 : Try.prog.cellsOf 53 = 3 := by kernel_rfl
theorem co59 : Try.prog.cellsOf 59 = 3 := by kernel_rfl
theorem uf53 : structOf Try.prog 53 = some [(3, 0), (3, 1), (51, 2)] := by kernel_rfl
theorem uf59 : structOf Try.prog 59 = some [(3, 0), (3, 1), (3, 2)] := by kernel_rfl
theorem ul3 : Try.prog.underlying 3 = some (.int .i64) := by kernel_rfl
theorem ul36 : Try.prog.underlying 36 = some (.int .u64) := by kernel_rfl
theorem ul4 : Try.prog.underlying 4 = some .bool := by kernel_rfl
theorem usl23 : Try.prog.underlying 23 = some (.slice 3) := by kernel_rfl
theorem usl24 : Try.prog.underlying 24 = some (.slice 36) := by kernel_rfl
theorem usl51 : Try.prog.underlying 51 = some (.slice 59) := by kernel_rfl
structure Vec where
 x : Int
 y : Int
 deriving Inhabited, DecidableEq
theorem eq_Vec (x y : Vec) : (x.x == y.x && (x.y == y.y && (true))) = decide (x = y) := by
 obtain ⟨a0, a1⟩ := x
 obtain ⟨b0, b1⟩ := y
 simp only [Vec.mk.injEq, Bool.and_true, beq_iff_eq, Bool.decide_and]
 simp only [Bool.beq_eq_decide_eq]
instance : Enc Vec where
 sz := 2
 R h x cs := cs = [.int .i64 x.x, .int .i64 x.y]
 len := fun e => by rw [e]; rfl
 one := fun e u hu => by
  rw [e] at hu; simp only [List.mem_cons, List.not_mem_nil, or_false] at hu
  rcases hu with rfl | rfl
  ·rfl
  ·rfl
 mono := fun hl e => e
instance : Flat Vec := ⟨fun h => h⟩
def Vec.Wf (x : Vec) : Prop := (I64 x.x) ∧ (I64 x.y)
structure Cmd where
 player : Int
 seq : Int
 kind : Int
 n : Int
 units : List Int
 tile : Int
 w : Int
 h : Int
 pos : Vec
 deriving Inhabited, DecidableEq
instance : Enc Cmd where
 sz := 10
 R h x cs := ∃ v4, cs = [.int .i64 x.player, .int .i64 x.seq, .int .i64 x.kind, .int .i64 x.n, v4, .int .i64 x.tile, .int .i64 x.w, .int .i64 x.h, .int .i64 x.pos.x, .int .i64 x.pos.y] ∧ Enc.R h (x.units : List Int) [v4]
 len := fun ⟨v4, e, h4⟩ => by rw [e]; rfl
 one := fun ⟨v4, e, h4⟩ u hu => by
  rw [e] at hu; simp only [List.mem_cons, List.not_mem_nil, or_false] at hu
  rcases hu with rfl | rfl | rfl | rfl | rfl | rfl | rfl | rfl | rfl | rfl
  ·rfl
  ·rfl
  ·rfl
  ·rfl
  ·exact Enc.one h4 _ (by simp)
  ·rfl
  ·rfl
  ·rfl
  ·rfl
  ·rfl
 mono := fun hl ⟨v4, e, h4⟩ => ⟨v4, e, Enc.mono hl h4⟩
instance : Deep Cmd where
 D h x c := ∃ q0 : Option Nat × Nat, c = [.int .i64 x.player, .int .i64 x.seq, .int .i64 x.kind, .int .i64 x.n, rowV q0 x.units.length, .int .i64 x.tile, .int .i64 x.w, .int .i64 x.h, .int .i64 x.pos.x, .int .i64 x.pos.y] ∧ stars [row nilH 3 (rowV q0 x.units.length) x.units] h
 toR := fun ⟨q0, e, ⟨_, _, a0, _, _, l0, k0⟩⟩ => ⟨_, e, Enc.mono l0 (row_R a0)⟩
 mono := fun hl ⟨q0, e, s⟩ => ⟨_, e, stars_mono hl s⟩
def Cmd.Wf (x : Cmd) : Prop := (I64 x.player) ∧ (I64 x.seq) ∧ (I64 x.kind) ∧ (I64 x.n) ∧ ((∀ y ∈ x.units, I64 y) ∧ x.units.length ≤ 140737488351232) ∧ (I64 x.tile) ∧ (I64 x.w) ∧ (I64 x.h) ∧ (Vec.Wf x.pos)
structure Inp where
 turn : Int
 player : Int
 commands : List Cmd
 deriving Inhabited, DecidableEq
instance : Enc Inp where
 sz := 3
 R h x cs := ∃ v2, cs = [.int .i64 x.turn, .int .i64 x.player, v2] ∧ Enc.R h (x.commands : List Cmd) [v2]
 len := fun ⟨v2, e, h2⟩ => by rw [e]; rfl
 one := fun ⟨v2, e, h2⟩ u hu => by
  rw [e] at hu; simp only [List.mem_cons, List.not_mem_nil, or_false] at hu
  rcases hu with rfl | rfl | rfl
  ·rfl
  ·rfl
  ·exact Enc.one h2 _ (by simp)
 mono := fun hl ⟨v2, e, h2⟩ => ⟨v2, e, Enc.mono hl h2⟩
instance : Deep Inp where
 D h x c := ∃ q0 : Option Nat × Nat, c = [.int .i64 x.turn, .int .i64 x.player, rowV q0 x.commands.length] ∧ stars [drow 63 (rowV q0 x.commands.length) x.commands] h
 toR := fun ⟨q0, e, ⟨_, _, a0, _, _, l0, k0⟩⟩ => ⟨_, e, Enc.mono l0 (drow_R a0)⟩
 mono := fun hl ⟨q0, e, s⟩ => ⟨_, e, stars_mono hl s⟩
def Inp.Wf (x : Inp) : Prop := (I64 x.turn) ∧ (I64 x.player) ∧ ((∀ y ∈ x.commands, Cmd.Wf y) ∧ x.commands.length ≤ 140737488351232)
structure Nte where
 frm : Int
 dst : Int
 input : Inp
 don : Int
 hash : UInt64
 hav : Int
 deriving Inhabited, DecidableEq
instance : Enc Nte where
 sz := 8
 R h x cs := ∃ v4, cs = [.int .i64 x.frm, .int .i64 x.dst, .int .i64 x.input.turn, .int .i64 x.input.player, v4, .int .i64 x.don, .int .u64 x.hash.toNat, .int .i64 x.hav] ∧ Enc.R h (x.input.commands : List Cmd) [v4]
 len := fun ⟨v4, e, h4⟩ => by rw [e]; rfl
 one := fun ⟨v4, e, h4⟩ u hu => by
  rw [e] at hu; simp only [List.mem_cons, List.not_mem_nil, or_false] at hu
  rcases hu with rfl | rfl | rfl | rfl | rfl | rfl | rfl | rfl
  ·rfl
  ·rfl
  ·rfl
  ·rfl
  ·exact Enc.one h4 _ (by simp)
  ·rfl
  ·rfl
  ·rfl
 mono := fun hl ⟨v4, e, h4⟩ => ⟨v4, e, Enc.mono hl h4⟩
instance : Deep Nte where
 D h x c := ∃ q0 : Option Nat × Nat, c = [.int .i64 x.frm, .int .i64 x.dst, .int .i64 x.input.turn, .int .i64 x.input.player, rowV q0 x.input.commands.length, .int .i64 x.don, .int .u64 x.hash.toNat, .int .i64 x.hav] ∧ stars [drow 63 (rowV q0 x.input.commands.length) x.input.commands] h
 toR := fun ⟨q0, e, ⟨_, _, a0, _, _, l0, k0⟩⟩ => ⟨_, e, Enc.mono l0 (drow_R a0)⟩
 mono := fun hl ⟨q0, e, s⟩ => ⟨_, e, stars_mono hl s⟩
def Nte.Wf (x : Nte) : Prop := (I64 x.frm) ∧ (I64 x.dst) ∧ (Inp.Wf x.input) ∧ (I64 x.don) ∧ (I64 x.hav)
structure Per where
 id : Int
 players : Int
 delay : Int
 turn : Int
 said : Int
 mine : List Inp
 inputs : List Inp
 has : List Int
 acked : List Int
 hashes : List UInt64
 split : Bool
 deriving Inhabited, DecidableEq
instance : Enc Per where
 sz := 11
 R h x cs := ∃ v5 v6 v7 v8 v9, cs = [.int .i64 x.id, .int .i64 x.players, .int .i64 x.delay, .int .i64 x.turn, .int .i64 x.said, v5, v6, v7, v8, v9, .bool x.split] ∧ Enc.R h (x.mine : List Inp) [v5] ∧ Enc.R h (x.inputs : List Inp) [v6] ∧ Enc.R h (x.has : List Int) [v7] ∧ Enc.R h (x.acked : List Int) [v8] ∧ Enc.R h (x.hashes : List UInt64) [v9]
 len := fun ⟨v5, v6, v7, v8, v9, e, h5, h6, h7, h8, h9⟩ => by rw [e]; rfl
 one := fun ⟨v5, v6, v7, v8, v9, e, h5, h6, h7, h8, h9⟩ u hu => by
  rw [e] at hu; simp only [List.mem_cons, List.not_mem_nil, or_false] at hu
  rcases hu with rfl | rfl | rfl | rfl | rfl | rfl | rfl | rfl | rfl | rfl | rfl
  ·rfl
  ·rfl
  ·rfl
  ·rfl
  ·rfl
  ·exact Enc.one h5 _ (by simp)
  ·exact Enc.one h6 _ (by simp)
  ·exact Enc.one h7 _ (by simp)
  ·exact Enc.one h8 _ (by simp)
  ·exact Enc.one h9 _ (by simp)
  ·rfl
 mono := fun hl ⟨v5, v6, v7, v8, v9, e, h5, h6, h7, h8, h9⟩ => ⟨v5, v6, v7, v8, v9, e, Enc.mono hl h5, Enc.mono hl h6, Enc.mono hl h7, Enc.mono hl h8, Enc.mono hl h9⟩
instance : Deep Per where
 D h x c := ∃ q0 q1 q2 q3 q4 : Option Nat × Nat, c = [.int .i64 x.id, .int .i64 x.players, .int .i64 x.delay, .int .i64 x.turn, .int .i64 x.said, rowV q0 x.mine.length, rowV q1 x.inputs.length, rowV q2 x.has.length, rowV q3 x.acked.length, rowV q4 x.hashes.length, .bool x.split] ∧ stars [drow 35 (rowV q0 x.mine.length) x.mine, drow 35 (rowV q1 x.inputs.length) x.inputs, row nilH 3 (rowV q2 x.has.length) x.has, row nilH 3 (rowV q3 x.acked.length) x.acked, row nilH 36 (rowV q4 x.hashes.length) x.hashes] h
 toR := fun ⟨q0, q1, q2, q3, q4, e, ⟨_, _, a0, ⟨_, _, a1, ⟨_, _, a2, ⟨_, _, a3, ⟨_, _, a4, _, _, l4, k4⟩, _, l3, k3⟩, _, l2, k2⟩, _, l1, k1⟩, _, l0, k0⟩⟩ => ⟨_, _, _, _, _, e, Enc.mono l0 (drow_R a0), Enc.mono (Hp.le_trans l1 k0) (drow_R a1), Enc.mono (Hp.le_trans l2 (Hp.le_trans k1 k0)) (row_R a2), Enc.mono (Hp.le_trans l3 (Hp.le_trans k2 (Hp.le_trans k1 k0))) (row_R a3), Enc.mono (Hp.le_trans l4 (Hp.le_trans k3 (Hp.le_trans k2 (Hp.le_trans k1 k0)))) (row_R a4)⟩
 mono := fun hl ⟨q0, q1, q2, q3, q4, e, s⟩ => ⟨_, _, _, _, _, e, stars_mono hl s⟩
def Per.Wf (x : Per) : Prop := (I64 x.id) ∧ (I64 x.players) ∧ (I64 x.delay) ∧ (I64 x.turn) ∧ (I64 x.said) ∧ ((∀ y ∈ x.mine, Inp.Wf y) ∧ x.mine.length ≤ 140737488351232) ∧ ((∀ y ∈ x.inputs, Inp.Wf y) ∧ x.inputs.length ≤ 140737488351232) ∧ ((∀ y ∈ x.has, I64 y) ∧ x.has.length ≤ 140737488351232) ∧ ((∀ y ∈ x.acked, I64 y) ∧ x.acked.length ≤ 140737488351232) ∧ ((∀ y ∈ x.hashes, True) ∧ x.hashes.length ≤ 140737488351232)
structure Act28 where
 act : Int
 l : List Cmd
 n : Nte
 fit : Bool
 h : UInt64
 deriving Inhabited
instance : Enc Act28 where
 sz := 12
 R h x cs := ∃ v1 v6, cs = [.int .i64 x.act, v1, .int .i64 x.n.frm, .int .i64 x.n.dst, .int .i64 x.n.input.turn, .int .i64 x.n.input.player, v6, .int .i64 x.n.don, .int .u64 x.n.hash.toNat, .int .i64 x.n.hav, .bool x.fit, .int .u64 x.h.toNat] ∧ Enc.R h (x.l : List Cmd) [v1] ∧ Enc.R h (x.n.input.commands : List Cmd) [v6]
 len := fun ⟨v1, v6, e, h1, h6⟩ => by rw [e]; rfl
 one := fun ⟨v1, v6, e, h1, h6⟩ u hu => by
  rw [e] at hu; simp only [List.mem_cons, List.not_mem_nil, or_false] at hu
  rcases hu with rfl | rfl | rfl | rfl | rfl | rfl | rfl | rfl | rfl | rfl | rfl | rfl
  ·rfl
  ·exact Enc.one h1 _ (by simp)
  ·rfl
  ·rfl
  ·rfl
  ·rfl
  ·exact Enc.one h6 _ (by simp)
  ·rfl
  ·rfl
  ·rfl
  ·rfl
  ·rfl
 mono := fun hl ⟨v1, v6, e, h1, h6⟩ => ⟨v1, v6, e, Enc.mono hl h1, Enc.mono hl h6⟩
def Act28.Wf (x : Act28) : Prop := (I64 x.act) ∧ ((∀ y ∈ x.l, Cmd.Wf y) ∧ x.l.length ≤ 140737488351232) ∧ (Nte.Wf x.n)
structure Scr28 where
 p : Per
 l : List Act28
 deriving Inhabited
instance : Enc Scr28 where
 sz := 12
 R h x cs := ∃ v5 v6 v7 v8 v9 v11, cs = [.int .i64 x.p.id, .int .i64 x.p.players, .int .i64 x.p.delay, .int .i64 x.p.turn, .int .i64 x.p.said, v5, v6, v7, v8, v9, .bool x.p.split, v11] ∧ Enc.R h (x.p.mine : List Inp) [v5] ∧ Enc.R h (x.p.inputs : List Inp) [v6] ∧ Enc.R h (x.p.has : List Int) [v7] ∧ Enc.R h (x.p.acked : List Int) [v8] ∧ Enc.R h (x.p.hashes : List UInt64) [v9] ∧ Enc.R h (x.l : List Act28) [v11]
 len := fun ⟨v5, v6, v7, v8, v9, v11, e, h5, h6, h7, h8, h9, h11⟩ => by rw [e]; rfl
 one := fun ⟨v5, v6, v7, v8, v9, v11, e, h5, h6, h7, h8, h9, h11⟩ u hu => by
  rw [e] at hu; simp only [List.mem_cons, List.not_mem_nil, or_false] at hu
  rcases hu with rfl | rfl | rfl | rfl | rfl | rfl | rfl | rfl | rfl | rfl | rfl | rfl
  ·rfl
  ·rfl
  ·rfl
  ·rfl
  ·rfl
  ·exact Enc.one h5 _ (by simp)
  ·exact Enc.one h6 _ (by simp)
  ·exact Enc.one h7 _ (by simp)
  ·exact Enc.one h8 _ (by simp)
  ·exact Enc.one h9 _ (by simp)
  ·rfl
  ·exact Enc.one h11 _ (by simp)
 mono := fun hl ⟨v5, v6, v7, v8, v9, v11, e, h5, h6, h7, h8, h9, h11⟩ => ⟨v5, v6, v7, v8, v9, v11, e, Enc.mono hl h5, Enc.mono hl h6, Enc.mono hl h7, Enc.mono hl h8, Enc.mono hl h9, Enc.mono hl h11⟩
def Scr28.Wf (x : Scr28) : Prop := (Per.Wf x.p) ∧ ((∀ y ∈ x.l, Act28.Wf y) ∧ x.l.length ≤ 140737488351232)
structure Fate where
 act : Int
 peer : Int
 k : Int
 deriving Inhabited, DecidableEq
instance : Enc Fate where
 sz := 3
 R h x cs := cs = [.int .i64 x.act, .int .i64 x.peer, .int .i64 x.k]
 len := fun e => by rw [e]; rfl
 one := fun e u hu => by
  rw [e] at hu; simp only [List.mem_cons, List.not_mem_nil, or_false] at hu
  rcases hu with rfl | rfl | rfl
  ·rfl
  ·rfl
  ·rfl
 mono := fun hl e => e
instance : Flat Fate := ⟨fun h => h⟩
def Fate.Wf (x : Fate) : Prop := (I64 x.act) ∧ (I64 x.peer) ∧ (I64 x.k)
theorem rd_Fate : Rdbl Try.prog 59 Fate Fate.Wf := fun H enc w fuel cs x h hzd => by
 obtain ⟨fs, hu, hfs⟩ := structOf_spec uf59
 obtain ⟨hl, m, hf⟩ := trod_field hu h hzd
 obtain ⟨f0, hf0, ht0, ho0⟩ : ∃ f, fs[0]? = some f ∧ f.type = 3 ∧ f.offset = 0 := by
  have h1 : (fs.toList.map (fun f => (f.type, f.offset)))[0]? = some (3, 0) := by rw [hfs]; rfl
  rw [List.getElem?_map, Option.map_eq_some_iff] at h1
  obtain ⟨f, h2, h3⟩ := h1
  simp only [Prod.mk.injEq] at h3
  exact ⟨f, by simpa using h2, h3.1, h3.2⟩
 obtain ⟨y0, hy0⟩ := hf 0 f0 hf0
 rw [ht0, ho0, co3] at hy0
 obtain ⟨a0, ha0, hw0⟩ := Rdbl.part (Rdbl.int ul3) hy0
 obtain ⟨f1, hf1, ht1, ho1⟩ : ∃ f, fs[1]? = some f ∧ f.type = 3 ∧ f.offset = 1 := by
  have h1 : (fs.toList.map (fun f => (f.type, f.offset)))[1]? = some (3, 1) := by rw [hfs]; rfl
  rw [List.getElem?_map, Option.map_eq_some_iff] at h1
  obtain ⟨f, h2, h3⟩ := h1
  simp only [Prod.mk.injEq] at h3
  exact ⟨f, by simpa using h2, h3.1, h3.2⟩
 obtain ⟨y1, hy1⟩ := hf 1 f1 hf1
 rw [ht1, ho1, co3] at hy1
 obtain ⟨a1, ha1, hw1⟩ := Rdbl.part (Rdbl.int ul3) hy1
 obtain ⟨f2, hf2, ht2, ho2⟩ : ∃ f, fs[2]? = some f ∧ f.type = 3 ∧ f.offset = 2 := by
  have h1 : (fs.toList.map (fun f => (f.type, f.offset)))[2]? = some (3, 2) := by rw [hfs]; rfl
  rw [List.getElem?_map, Option.map_eq_some_iff] at h1
  obtain ⟨f, h2, h3⟩ := h1
  simp only [Prod.mk.injEq] at h3
  exact ⟨f, by simpa using h2, h3.1, h3.2⟩
 obtain ⟨y2, hy2⟩ := hf 2 f2 hf2
 rw [ht2, ho2, co3] at hy2
 obtain ⟨a2, ha2, hw2⟩ := Rdbl.part (Rdbl.int ul3) hy2
 rw [co59] at hl
 obtain ⟨x0, x1, x2, rfl⟩ : ∃ x0 x1 x2, cs = [x0, x1, x2] := by
  match cs, hl with
  | [x0, x1, x2], _ => exact ⟨x0, x1, x2, rfl⟩
 simp only [List.drop_succ_cons, List.drop_zero, List.take_succ_cons, List.take_zero] at ha0 ha1 ha2
 obtain rfl : x0 = _ := by simpa [Enc.R] using ha0
 obtain rfl : x1 = _ := by simpa [Enc.R] using ha1
 obtain rfl : x2 = _ := by simpa [Enc.R] using ha2
 exact ⟨⟨a0, a1, a2⟩, rfl, ⟨hw0, hw1, hw2⟩⟩
structure Wld28 where
 n : Int
 delay : Int
 l : List Fate
 deriving Inhabited
instance : Enc Wld28 where
 sz := 3
 R h x cs := ∃ v2, cs = [.int .i64 x.n, .int .i64 x.delay, v2] ∧ Enc.R h (x.l : List Fate) [v2]
 len := fun ⟨v2, e, h2⟩ => by rw [e]; rfl
 one := fun ⟨v2, e, h2⟩ u hu => by
  rw [e] at hu; simp only [List.mem_cons, List.not_mem_nil, or_false] at hu
  rcases hu with rfl | rfl | rfl
  ·rfl
  ·rfl
  ·exact Enc.one h2 _ (by simp)
 mono := fun hl ⟨v2, e, h2⟩ => ⟨v2, e, Enc.mono hl h2⟩
def Wld28.Wf (x : Wld28) : Prop := (I64 x.n) ∧ (I64 x.delay) ∧ ((∀ y ∈ x.l, Fate.Wf y) ∧ x.l.length ≤ 140737488351232)
theorem rd_Wld28 : Rdbl Try.prog 53 Wld28 Wld28.Wf := fun H enc w fuel cs x h hzd => by
 obtain ⟨fs, hu, hfs⟩ := structOf_spec uf53
 obtain ⟨hl, m, hf⟩ := trod_field hu h hzd
 obtain ⟨f0, hf0, ht0, ho0⟩ : ∃ f, fs[0]? = some f ∧ f.type = 3 ∧ f.offset = 0 := by
  have h1 : (fs.toList.map (fun f => (f.type, f.offset)))[0]? = some (3, 0) := by rw [hfs]; rfl
  rw [List.getElem?_map, Option.map_eq_some_iff] at h1
  obtain ⟨f, h2, h3⟩ := h1
  simp only [Prod.mk.injEq] at h3
  exact ⟨f, by simpa using h2, h3.1, h3.2⟩
 obtain ⟨y0, hy0⟩ := hf 0 f0 hf0
 rw [ht0, ho0, co3] at hy0
 obtain ⟨a0, ha0, hw0⟩ := Rdbl.part (Rdbl.int ul3) hy0
 obtain ⟨f1, hf1, ht1, ho1⟩ : ∃ f, fs[1]? = some f ∧ f.type = 3 ∧ f.offset = 1 := by
  have h1 : (fs.toList.map (fun f => (f.type, f.offset)))[1]? = some (3, 1) := by rw [hfs]; rfl
  rw [List.getElem?_map, Option.map_eq_some_iff] at h1
  obtain ⟨f, h2, h3⟩ := h1
  simp only [Prod.mk.injEq] at h3
  exact ⟨f, by simpa using h2, h3.1, h3.2⟩
 obtain ⟨y1, hy1⟩ := hf 1 f1 hf1
 rw [ht1, ho1, co3] at hy1
 obtain ⟨a1, ha1, hw1⟩ := Rdbl.part (Rdbl.int ul3) hy1
 obtain ⟨f2, hf2, ht2, ho2⟩ : ∃ f, fs[2]? = some f ∧ f.type = 51 ∧ f.offset = 2 := by
  have h1 : (fs.toList.map (fun f => (f.type, f.offset)))[2]? = some (51, 2) := by rw [hfs]; rfl
  rw [List.getElem?_map, Option.map_eq_some_iff] at h1
  obtain ⟨f, h2, h3⟩ := h1
  simp only [Prod.mk.injEq] at h3
  exact ⟨f, by simpa using h2, h3.1, h3.2⟩
 obtain ⟨y2, hy2⟩ := hf 2 f2 hf2
 rw [ht2, ho2, co51] at hy2
 obtain ⟨a2, ha2, hw2⟩ := Rdbl.part (Rdbl.slice usl51 co59 (by decide) rd_Fate bz59) hy2
 rw [co53] at hl
 obtain ⟨x0, x1, x2, rfl⟩ : ∃ x0 x1 x2, cs = [x0, x1, x2] := by
  match cs, hl with
  | [x0, x1, x2], _ => exact ⟨x0, x1, x2, rfl⟩
 simp only [List.drop_succ_cons, List.drop_zero, List.take_succ_cons, List.take_zero] at ha0 ha1 ha2
 obtain rfl : x0 = _ := by simpa [Enc.R] using ha0
 obtain rfl : x1 = _ := by simpa [Enc.R] using ha1
 exact ⟨⟨a0, a1, a2⟩, ⟨_, rfl, ha2⟩, ⟨hw0, hw1, hw2⟩⟩
end Go.Proofs.Ytnadebijiaelkaa
set_option linter.unusedVariables false
set_option linter.unusedSimpArgs false
set_option maxRecDepth 20000
set_option maxHeartbeats 4000000
namespace Go.Proofs.Ytnadebijiaelkaa
open Go.Vg
open Enc (R)
theorem ent69 : Ent Try.prog 69 := ⟨_, _, Try.func69, by kernel_rfl, rfl⟩
theorem ent80 : Ent Try.prog 80 := ⟨_, _, Try.func80, by kernel_rfl, rfl⟩
theorem mixed : Try.prog.follows .mixedOrders = true := by kernel_rfl
theorem sl23 : slTy Try.prog 23 = some (3, 1, 8) := by kernel_rfl
theorem sl24 : slTy Try.prog 24 = some (36, 1, 8) := by kernel_rfl
theorem ul80 : Try.prog.underlying 80 = some (.int .u64) := by kernel_rfl
theorem us3 : (Try.prog.underlying 3).isSome = true := by kernel_rfl
theorem us80 : (Try.prog.underlying 80).isSome = true := by kernel_rfl
theorem zr3 : zeroOf Try.prog 3 = some (.int .i64 0) := by kernel_rfl
theorem zr36 : zeroOf Try.prog 36 = some (.int .u64 0) := by kernel_rfl
theorem mul64_calls (a b : Int) (ha : 0 ≤ a ∧ a < 2147483648) (hb : 0 ≤ b ∧ b < 2147483648) (w : World) : Calls Try.prog 80 #[.int .u64 a, .int .u64 b] w fun e w' => e = .returned (.tuple #[.int .u64 0, .int .u64 (a * b)]) ∧ Ext w w' := by
 refine T.enter (args := [.int .u64 a, .int .u64 b]) (S := Sat w []) Try.func80 rfl rfl (Sat.start w) ?_
 have ea : a % 4294967296 = a := by omega
 have eb : b % 4294967296 = b := by omega
 have ea2 : a / 4294967296 = 0 := by omega
 have eb2 : b / 4294967296 = 0 := by omega
 have hm := mul_bd (a := a) (b := b) (A := 2147483648) (B := 2147483648) (by omega) (by omega)
 refine T.seq fun K1 hK1 => ?_
 refine T.region ?_
 refine RS.p (Pu.assign rfl) rfl rfl ?_
 refine RS.p (Pu.assign rfl) rfl rfl ?_
 refine RS.nil (hK1 _ _ ?_)
 refine T.seq fun K2 hK2 => ?_
 refine T.region ?_
 refine RS.p (Pu.move rfl) rfl rfl ?_
 refine RS.p (Pu.andU rfl rfl (by omega)) rfl rfl ?_
 rw [ea]
 refine RS.p (Pu.assign rfl) rfl rfl ?_
 refine RS.nil (hK2 _ _ (T.conseq (fr' := [(0, _), (1, _), (6, _)]) ?_ ⟨rfl, rfl, rfl, trivial⟩ (fun _ s => s)))
 refine T.seq fun K3 hK3 => ?_
 refine T.region ?_
 refine RS.p (Pu.move rfl) rfl rfl ?_
 refine RS.p (Pu.shrU rfl rfl) rfl rfl ?_
 rw [ea2]
 refine RS.p (Pu.assign rfl) rfl rfl ?_
 refine RS.nil (hK3 _ _ ?_)
 refine T.seq fun K4 hK4 => ?_
 refine T.region ?_
 refine RS.p (Pu.move rfl) rfl rfl ?_
 refine RS.p (Pu.andU rfl rfl (by omega)) rfl rfl ?_
 rw [eb]
 refine RS.p (Pu.assign rfl) rfl rfl ?_
 refine RS.nil (hK4 _ _ (T.conseq (fr' := [(0, _), (1, _), (6, _), (7, _), (8, _)]) ?_ ⟨rfl, rfl, rfl, rfl, rfl, trivial⟩ (fun _ s => s)))
 refine T.seq fun K5 hK5 => ?_
 refine T.region ?_
 refine RS.p (Pu.move rfl) rfl rfl ?_
 refine RS.p (Pu.shrU rfl rfl) rfl rfl ?_
 rw [eb2]
 refine RS.p (Pu.assign rfl) rfl rfl ?_
 refine RS.nil (hK5 _ _ ?_)
 refine T.seq fun K6 hK6 => ?_
 refine T.region ?_
 refine RS.p (Pu.move rfl) rfl rfl ?_
 refine RS.p (Pu.move rfl) rfl rfl ?_
 refine RS.p (Pu.mulU rfl rfl (by omega)) rfl rfl ?_
 refine RS.p (Pu.assign rfl) rfl rfl ?_
 refine RS.nil (hK6 _ _ (T.conseq (fr' := [(0, _), (1, _), (6, _), (7, _), (8, _), (9, _), (10, _)]) ?_ ⟨rfl, rfl, rfl, rfl, rfl, rfl, rfl, trivial⟩ (fun _ s => s)))
 refine T.seq fun K7 hK7 => ?_
 refine T.region ?_
 refine RS.p (Pu.move rfl) rfl rfl ?_
 refine RS.p (Pu.move rfl) rfl rfl ?_
 refine RS.p (Pu.mulU rfl rfl (by omega)) rfl rfl ?_
 refine RS.p (Pu.move rfl) rfl rfl ?_
 refine RS.p (Pu.shrU rfl rfl) rfl rfl ?_
 refine RS.p (Pu.addU rfl rfl (by omega)) rfl rfl ?_
 refine RS.p (Pu.assign rfl) rfl rfl ?_
 refine RS.nil (hK7 _ _ (T.conseq (fr' := [(0, _), (1, _), (6, _), (7, _), (9, _), (11, _)]) ?_ ⟨rfl, rfl, rfl, rfl, rfl, rfl, trivial⟩ (fun _ s => s)))
 refine T.seq fun K8 hK8 => ?_
 refine T.region ?_
 refine RS.p (Pu.move rfl) rfl rfl ?_
 refine RS.p (Pu.andU rfl rfl (by omega)) rfl rfl ?_
 refine RS.p (Pu.assign rfl) rfl rfl ?_
 refine RS.nil (hK8 _ _ ?_)
 refine T.seq fun K9 hK9 => ?_
 refine T.region ?_
 refine RS.p (Pu.move rfl) rfl rfl ?_
 refine RS.p (Pu.shrU rfl rfl) rfl rfl ?_
 refine RS.p (Pu.assign rfl) rfl rfl ?_
 refine RS.nil (hK9 _ _ (T.conseq (fr' := [(0, _), (1, _), (6, _), (7, _), (9, _), (12, _), (13, _)]) ?_ ⟨rfl, rfl, rfl, rfl, rfl, rfl, rfl, trivial⟩ (fun _ s => s)))
 refine T.seq fun K10 hK10 => ?_
 refine T.region ?_
 refine RS.p (Pu.move rfl) rfl rfl ?_
 refine RS.p (Pu.move rfl) rfl rfl ?_
 refine RS.p (Pu.move rfl) rfl rfl ?_
 refine RS.p (Pu.mulU rfl rfl (by omega)) rfl rfl ?_
 refine RS.p (Pu.addU rfl rfl (by omega)) rfl rfl ?_
 refine RS.p (Pu.assign rfl) rfl rfl ?_
 refine RS.nil (hK10 _ _ (T.conseq (fr' := [(0, _), (1, _), (7, _), (9, _), (12, _), (13, _)]) ?_ ⟨rfl, rfl, rfl, rfl, rfl, rfl, trivial⟩ (fun _ s => s)))
 refine T.seq fun K11 hK11 => ?_
 refine T.region ?_
 refine RS.p (Pu.move rfl) rfl rfl ?_
 refine RS.p (Pu.move rfl) rfl rfl ?_
 refine RS.p (Pu.mulU rfl rfl (by omega)) rfl rfl ?_
 refine RS.p (Pu.move rfl) rfl rfl ?_
 refine RS.p (Pu.addU rfl rfl (by omega)) rfl rfl ?_
 refine RS.p (Pu.move rfl) rfl rfl ?_
 refine RS.p (Pu.shrU rfl rfl) rfl rfl ?_
 refine RS.p (Pu.addU rfl rfl (by omega)) rfl rfl ?_
 refine RS.p (Pu.assign rfl) rfl rfl ?_
 refine RS.nil (hK11 _ _ (T.conseq (fr' := [(0, _), (1, _), (4, _)]) ?_ ⟨rfl, rfl, rfl, trivial⟩ (fun _ s => s)))
 refine T.seq fun K12 hK12 => ?_
 refine T.region ?_
 refine RS.p (Pu.move rfl) rfl rfl ?_
 refine RS.p (Pu.move rfl) rfl rfl ?_
 refine RS.p (Pu.mulU rfl rfl (by omega)) rfl rfl ?_
 refine RS.p (Pu.assign rfl) rfl rfl ?_
 refine RS.nil (hK12 _ _ (T.conseq (fr' := [(4, _), (5, _)]) ?_ ⟨rfl, rfl, trivial⟩ (fun _ s => s)))
 refine T.retTo (by with_reducible ((repeat (first | apply RetTo.seq | apply RetTo.blk)); exact RetTo.refl _)) (Cont.ret2 rfl rfl rfl fun w' s => ?_)
 refine ⟨?_, s.ext⟩
 congr 6
 omega
theorem mul_calls (a b : Int) (ha : 0 ≤ a ∧ a < 2147483648) (hb : 0 ≤ b ∧ b < 2147483648) (w : World) : Calls Try.prog 69 #[.int .u64 a, .int .u64 b] w fun e w' => e = .returned (.tuple #[.int .u64 0, .int .u64 (a * b)]) ∧ Ext w w' := by
 refine T.enter (args := [.int .u64 a, .int .u64 b]) (S := Sat w []) Try.func69 rfl rfl (Sat.start w) ?_
 refine T.seq fun K1 hK1 => ?_
 refine T.region ?_
 refine RS.p (Pu.assign rfl) rfl rfl ?_
 refine RS.p (Pu.assign rfl) rfl rfl ?_
 refine RS.nil (hK1 _ _ ?_)
 refine T.seq fun K2 hK2 => ?_
 refine T.condF rfl ?_
 refine T.skip (hK2 _ _ ?_)
 refine T.seq fun K3 hK3 => ?_
 refine T.region ?_
 refine RS.p (Pu.move rfl) rfl rfl ?_
 refine RS.p (Pu.move rfl) rfl rfl ?_
 refine RS.q (Qt.call ent80 rfl fun w _s => mul64_calls _ _ (by omega) (by omega) _) rfl rfl ?_
 refine RS.p (Pu.move rfl) rfl rfl ?_
 refine RS.p (Pu.extract rfl rfl) rfl rfl ?_
 refine RS.p (Pu.extract rfl rfl) rfl rfl ?_
 refine RS.p (Pu.assign rfl) rfl rfl ?_
 refine RS.p (Pu.assign rfl) rfl rfl ?_
 refine RS.nil (hK3 _ _ (T.conseq (fr' := [(8, _), (9, _)]) ?_ ⟨rfl, rfl, trivial⟩ (fun _ s => s)))
 refine T.seq fun K4 hK4 => ?_
 refine T.region ?_
 refine RS.p (Pu.move rfl) rfl rfl ?_
 refine RS.p (Pu.move rfl) rfl rfl ?_
 refine RS.p (Pu.assign rfl) rfl rfl ?_
 refine RS.p (Pu.assign rfl) rfl rfl ?_
 refine RS.nil (hK4 _ _ (T.conseq (fr' := [(4, _), (5, _)]) ?_ ⟨rfl, rfl, trivial⟩ (fun _ s => s)))
 refine T.retTo (by with_reducible ((repeat (first | apply RetTo.seq | apply RetTo.blk)); exact RetTo.refl _)) (Cont.ret2 rfl rfl rfl fun w' s => ?_)
 exact ⟨rfl, s.ext⟩
theorem cloneInt_calls_nil {l : List Int} {n c : Nat} (w : World) (hA : R (hpOf w) l [.slice none n c]) : Calls Try.prog 60 #[.slice none n c] w fun e w' => ∃ q : Option Nat × Nat, e = .returned (rowV q l.length) ∧ Sat w [row nilH 3 (rowV q l.length) l] w' := by
 refine T.enter (args := [.slice none n c]) (S := Sat w []) Try.func60 rfl rfl (Sat.start w) ?_
 refine T.seq fun K1 hK1 => ?_
 refine T.region ?_
 refine RS.p (Pu.assign rfl) rfl rfl ?_
 refine RS.nil (hK1 _ _ ?_)
 refine T.seq fun K2 hK2 => ?_
 refine T.seq fun K3 hK3 => ?_
 refine T.region ?_
 refine RS.p (Pu.move rfl) rfl rfl ?_
 refine RS.p (Pu.eqNilSl usl23 rfl) rfl rfl ?_
 refine RS.nil (hK3 _ _ ?_)
 refine T.cond rfl (fun hc4 => ?_) (fun hc4 => ?_)
 ·refine T.conseq (fr' := []) ?_ trivial (fun _ s => s)
  refine T.seq fun K4 hK4 => ?_
  refine T.region ?_
  refine RS.p (Pu.assign rfl) rfl rfl ?_
  refine RS.nil (hK4 _ _ ?_)
  refine T.retTo (by with_reducible ((repeat (first | apply RetTo.seq | apply RetTo.blk)); exact RetTo.refl _)) (Cont.ret1 rfl rfl fun w' s => ?_)
  have hl0 : l = [] := by
   obtain ⟨p', c', e', s1, s2, s3⟩ := hA
   simp only [List.cons.injEq, Value.slice.injEq, and_true] at e'
   obtain ⟨rfl, rfl, rfl⟩ := e'
   rcases s3 with h | ⟨b, o, cs, h, _⟩
   ·exact h
   ·cases h
  subst hl0
  exact ⟨(none, 0), rfl, s.addEmpty _ (fun p => .inl ⟨rfl, rfl⟩)⟩
 ·exact absurd hc4 (by simp) -- end
theorem cloneInt_calls_some {l : List Int} {a : Addr} {n c : Nat} (hsz : n < 1099511627776) (w : World) (hA : R (hpOf w) l [.slice (some a) n c]) : Calls Try.prog 60 #[.slice (some a) n c] w fun e w' => ∃ q : Option Nat × Nat, e = .returned (rowV q l.length) ∧ Sat w [row nilH 3 (rowV q l.length) l] w' := by
 refine T.enter (args := [.slice (some a) n c]) (S := Sat w []) Try.func60 rfl rfl (Sat.start w) ?_
 refine T.seq fun K1 hK1 => ?_
 refine T.region ?_
 refine RS.p (Pu.assign rfl) rfl rfl ?_
 refine RS.nil (hK1 _ _ ?_)
 refine T.seq fun K2 hK2 => ?_
 refine T.seq fun K3 hK3 => ?_
 refine T.region ?_
 refine RS.p (Pu.move rfl) rfl rfl ?_
 refine RS.p (Pu.eqNilSl usl23 rfl) rfl rfl ?_
 refine RS.nil (hK3 _ _ ?_)
 refine T.cond rfl (fun hc4 => ?_) (fun hc4 => ?_)
 ·exact absurd hc4 (by simp) -- end
 ·refine T.skip (hK2 _ _ (T.conseq (fr' := [(0, _)]) ?_ ⟨rfl, trivial⟩ (fun _ s => s)))
  refine T.seq fun K4 hK4 => ?_
  refine T.region ?_
  refine RS.solid (Sd.lit0 (α := Int) (B := nilH) sl23) rfl rfl fun b5 => ?_
  refine RS.p (Pu.move rfl) rfl rfl ?_
  refine RS.solid (Sd.appB (α := Int) 0 (nilH_lt _) rfl sl23 zr3 rfl rfl rfl hA (by simp only [List.length_nil]; omega) (by simp only [List.length_nil]; unfold maxLen; omega)) rfl rfl fun q7 => ?_
  refine RS.p (Pu.assign rfl) rfl rfl ?_
  refine RS.nil (hK4 _ _ (T.conseq (fr' := [(2, _)]) ?_ ⟨rfl, trivial⟩ (fun _ s => s)))
  refine T.retTo (by with_reducible ((repeat (first | apply RetTo.seq | apply RetTo.blk)); exact RetTo.refl _)) (Cont.ret1 rfl rfl fun w' s => ?_)
  have hn : n = l.length := (R_len hA).1
  simp only [List.length_nil, Nat.zero_add, List.nil_append] at s
  subst hn
  exact ⟨q7, by simp, s.pick (G' := [_]) [0] (by decide) rfl⟩
theorem cloneInt_calls {l : List Int} {v : Value} (hsz : l.length < 1099511627776) (w : World) (hA : R (hpOf w) l [v]) : Calls Try.prog 60 #[v] w fun e w' => ∃ q : Option Nat × Nat, e = .returned (rowV q l.length) ∧ Sat w [row nilH 3 (rowV q l.length) l] w' := by
 obtain ⟨p, c, rfl⟩ := R_form hA
 cases p with
 | none => exact cloneInt_calls_nil w hA
 | some a => exact cloneInt_calls_some hsz w hA
def slices_Clone_Int (l : List Int) : Option (List Int) := if l.length < 1099511627776 then some l else none
theorem slices_Clone_Int_walk (l : List Int) (w : World) {v0 : Value} (h0 : R (hpOf w) l [v0]) {r : List Int} (H : slices_Clone_Int l = some r) : Calls Try.prog 60 #[v0] w fun e w' => ∃ g : (Option Nat × Nat), e = .returned (rowV g r.length) ∧ Sat w [row nilH 3 (rowV g r.length) r] w' := by
 unfold slices_Clone_Int at H
 obtain ⟨h1, H⟩ := gdE H
 obtain rfl := Option.some.inj H
 exact cloneInt_calls h1 w h0
theorem repeatInt_calls {x : Int} {n : Int} (hn : 1 ≤ n ∧ n < 2147483648) {va : Value} (w : World) (hA : R (hpOf w) [x] [va]) : Calls Try.prog 41 #[va, .int .i64 n] w fun e w' => ∃ b : Nat, e = .returned (.slice (some ⟨b, 0, none⟩) n.toNat n.toNat) ∧ Sat w [row nilH 3 (.slice (some ⟨b, 0, none⟩) n.toNat n.toNat) (List.replicate n.toNat x)] w' := by
 refine T.enter (args := [_, _]) (S := Sat w []) Try.func41 rfl rfl (Sat.start w) ?_
 obtain ⟨pa, ca, rfl⟩ := R_form hA
 dsimp only [List.length_cons, List.length_nil] at *
 refine T.seq fun K1 hK1 => ?_
 refine T.region ?_
 refine RS.p (Pu.assign rfl) rfl rfl ?_
 refine RS.nil (hK1 _ _ ?_)
 refine T.seq fun K2 hK2 => ?_
 refine T.seq fun K3 hK3 => ?_
 refine T.region ?_
 refine RS.p (Pu.move rfl) rfl rfl ?_
 refine RS.p (Pu.bin rfl rfl rfl) rfl rfl ?_
 refine RS.nil (hK3 _ _ ?_)
 refine T.condP rfl (fun hc10 => ?_) (fun hc10 => ?_)
 ·exact absurd hc10 (by omega) -- end
 ·refine T.skip (hK2 _ _ (T.conseq (fr' := [(0, _), (1, _)]) ?_ ⟨rfl, rfl, trivial⟩ (fun _ s => s)))
  refine T.seq fun K4 hK4 => ?_
  refine T.region ?_
  refine RS.p (Pu.move rfl) rfl rfl ?_
  refine RS.p (Pu.lenSl sl23 rfl) rfl rfl ?_
  refine RS.p (Pu.convU us3 ul80 rfl (by omega)) rfl rfl ?_
  refine RS.p (Pu.move rfl) rfl rfl ?_
  refine RS.p (Pu.convU us3 ul80 rfl (by omega)) rfl rfl ?_
  refine RS.q (Qt.call ent69 rfl fun w _s => mul_calls _ _ (by omega) (by omega) _) rfl rfl ?_
  rw [show ((0 + 1 : Nat) : Int) * n = n by omega]
  refine RS.p (Pu.move rfl) rfl rfl ?_
  refine RS.p (Pu.extract rfl rfl) rfl rfl ?_
  refine RS.p (Pu.extract rfl rfl) rfl rfl ?_
  refine RS.p (Pu.assign rfl) rfl rfl ?_
  refine RS.p (Pu.assign rfl) rfl rfl ?_
  refine RS.nil (hK4 _ _ (T.conseq (fr' := [(0, _), (5, _), (6, _)]) ?_ ⟨rfl, rfl, rfl, trivial⟩ (fun _ s => s)))
  refine T.seq fun K5 hK5 => ?_
  refine T.seq fun K6 hK6 => ?_
  refine T.region ?_
  refine RS.p (Pu.move rfl) rfl rfl ?_
  refine RS.p (Pu.bin rfl rfl rfl) rfl rfl ?_
  refine RS.p (Pu.move rfl) rfl rfl ?_
  refine RS.splitP 23 rfl (fun h23 => ?_) (fun h23 => ?_)
  ·exact absurd h23 (by omega) -- end
  ·refine RS.p (Pu.move rfl) rfl rfl ?_
   refine RS.p (Pu.bin rfl rfl rfl) rfl rfl ?_
   refine RS.p (Pu.pickF rfl rfl) rfl rfl ?_
   refine RS.nil (hK6 _ _ ?_)
   refine T.condP rfl (fun hc26 => ?_) (fun hc26 => ?_)
   ·exact absurd hc26 (by omega) -- end
   ·refine T.skip (hK5 _ _ (T.conseq (fr' := [(0, _), (6, _)]) ?_ ⟨rfl, rfl, trivial⟩ (fun _ s => s)))
    refine T.seq fun K7 hK7 => ?_
    refine T.region ?_
    refine RS.p (Pu.move rfl) rfl rfl ?_
    refine RS.p (Pu.convS us80 ul3 rfl (by omega)) rfl rfl ?_
    refine RS.solid (Sd.make (α := Int) (B := nilH) 0 sl23 zr3 rfl (by decide) rfl rfl (by omega) (by omega) (by omega)) rfl rfl fun b30 => ?_
    refine RS.p (Pu.assign rfl) rfl rfl ?_
    refine RS.nil (hK7 _ _ (T.conseq (fr' := [(0, _), (7, _)]) ?_ ⟨rfl, rfl, trivial⟩ (fun _ s => s)))
    refine T.seq fun K8 hK8 => ?_
    refine T.region ?_
    refine RS.p (Pu.move rfl) rfl rfl ?_
    refine RS.p (Pu.move rfl) rfl rfl ?_
    refine RS.solid (Sd.copyR 0 (o := 0) rfl sl23 rfl rfl (Rd.base hA) (by simp) (by simp only [List.length_replicate]; show 0 + min (0 + 1) n.toNat ≤ _; omega)) rfl rfl fun _ => ?_
    refine RS.p (Pu.assign rfl) rfl rfl ?_
    refine RS.nil (hK8 _ _ (T.conseq (fr' := [(7, _), (8, _)]) ?_ ⟨rfl, rfl, trivial⟩ (fun _ s => s)))
    refine T.seq fun K9 hK9 => ?_
    refine T.block ?_
    refine T.loopK (σ := Int) [(7, _)] (fun c => [(8, .int .i64 c)]) (fun c => Sat w [row nilH 3 (.slice (some ⟨b30, 0, none⟩) n.toNat n.toNat) (List.replicate c.toNat x ++ List.replicate (n - c).toNat 0)]) (fun c => 1 ≤ c ∧ c ≤ n) (fun c => (n - c).toNat) 1 (⟨by omega, by omega⟩) ⟨rfl, trivial⟩ ⟨ieq (by show ((min (0 + 1) n.toNat : Nat) : Int) = 1; omega), rfl, trivial⟩ (fun w2 s => by
     have hmn : Nat.min (0 + 1) n.toNat = 1 := by show min (0 + 1) n.toNat = 1; omega
     have s2 := s.pick (G' := [_]) [0] (by decide) rfl
     rw [hmn] at s2
     have e : List.take 0 (List.replicate n.toNat 0) ++ List.take 1 [x] ++ List.drop (0 + 1) (List.replicate n.toNat 0) = List.replicate (1 : Int).toNat x ++ List.replicate (n - 1).toNat 0 := by
      rw [List.drop_replicate, show n.toNat - (0 + 1) = (n - 1).toNat by omega]; rfl
     rw [e] at s2
     exact s2) ?_
    intro c hI K9_ hL1
    refine T.conseq (fr' := [(8, _), (7, _)]) ?_ ⟨rfl, rfl, trivial⟩ (fun _ s => s)
    obtain ⟨hc1, hc2⟩ := hI
    refine T.seq fun K10 hK10 => ?_
    refine T.seq fun K11 hK11 => ?_
    refine T.region ?_
    refine RS.p (Pu.move rfl) rfl rfl ?_
    refine RS.p (Pu.move rfl) rfl rfl ?_
    refine RS.p (Pu.lenSl sl23 rfl) rfl rfl ?_
    refine RS.p (Pu.bin rfl rfl rfl) rfl rfl ?_
    refine RS.nil (hK11 _ _ ?_)
    refine T.condP rfl (fun hc37 => ?_) (fun hc37 => ?_)
    ·refine T.skip (hK10 _ _ (T.conseq (fr' := [(7, _), (8, _)]) ?_ ⟨rfl, rfl, trivial⟩ (fun _ s => s)))
     refine T.block ?_
     refine T.drawn (fun _ => True) [(0, .pu), (1, .pu), (2, .pu), (3, .pu), (4, .pu), (5, .pu), (6, .pu), (7, .br), (8, .pu), (9, .pu)] mixed (ClE.sat _ _) (by kernel_rfl) ?_
     refine RD.p (fun _ _ => trivial) rfl (Pu.move rfl) rfl rfl ?_
     refine RD.p (fun _ _ => trivial) rfl (Pu.move rfl) rfl rfl ?_
     refine RD.p (fun _ _ => trivial) rfl (Pu.move rfl) rfl rfl ?_
     refine RD.p (fun _ _ => trivial) rfl (Pu.sliceL sl23 rfl rfl (by omega)) rfl rfl ?_
     rw [cutP_lt (by omega)]
     refine RD.p (fun _ _ => trivial) rfl (Pu.move rfl) rfl rfl ?_
     refine RD.p (fun _ _ => trivial) rfl (Pu.move rfl) rfl rfl ?_
     refine RD.p (fun _ _ => trivial) rfl (Pu.sliceH sl23 rfl rfl (by omega)) rfl rfl ?_
     refine RD.solid rfl (.inr rfl) rfl rfl (Sd.copyR 0 (o := c.toNat) rfl sl23 rfl rfl (fun w s => take_reads (s.getRow (k := 0) rfl (nilH_le _)) (by simp only [List.length_append, List.length_replicate]; omega)) (by simp [Enc.sz]) (by simp only [List.length_append, List.length_replicate]; show c.toNat + min c.toNat (n.toNat - c.toNat) ≤ _; omega)) (fun _ => ClE.sat _ _) (fun _ _ _ => trivial) (fun h => nomatch h) fun _ => ?_
     have hml : Nat.min c.toNat (n.toNat - c.toNat) ≤ c.toNat := Nat.min_le_left _ _
     refine RD.p (fun _ _ => trivial) rfl (Pu.addS rfl rfl (by omega)) rfl rfl ?_
     refine RD.p (fun _ _ => trivial) rfl (Pu.assign rfl) rfl rfl ?_
     obtain ⟨m, hm⟩ : ∃ m, m = Nat.min c.toNat (n.toNat - c.toNat) := ⟨_, rfl⟩
     have hm' : m = min c.toNat (n.toNat - c.toNat) := hm
     refine RD.nil (hL1 _ _ (c + (m : Int)) ⟨by omega, by omega⟩ (by omega) ⟨by rw [hm]; rfl, rfl, trivial⟩ (fun w2 s1 => by
      have s2 := s1.pick (G' := [_]) [0] (by decide) rfl
      rw [← hm, rep_step (by omega) (by omega)] at s2
      rw [show (c + (m : Int)).toNat = c.toNat + m by omega, show (n - (c + (m : Int))).toNat = (n - c).toNat - m by omega]
      exact s2))
    ·refine T.exitTo (by with_reducible (repeat (first | exact ExTo.here | exact ExTo.hereN | exact ExTo.deep (by repeat (first | exact NmTo.seq | apply NmTo.blk)) | apply ExTo.seq | refine ExTo.past (by decide) ?_))) (hK9 _ _ (T.conseq (fr' := [(7, _)]) ?_ ⟨rfl, trivial⟩ (fun _ s => s)))
     refine T.seq fun K12 hK12 => ?_
     refine T.region ?_
     refine RS.p (Pu.move rfl) rfl rfl ?_
     refine RS.p (Pu.assign rfl) rfl rfl ?_
     refine RS.nil (hK12 _ _ ?_)
     refine T.retTo (by with_reducible ((repeat (first | apply RetTo.seq | apply RetTo.blk)); exact RetTo.refl _)) (Cont.ret1 rfl rfl fun w' s => ?_)
     have hcn : c = n := by omega
     rw [hcn, show (n - n).toNat = 0 by omega, List.replicate_zero, List.append_nil] at s
     exact ⟨b30, rfl, s⟩
def slices_Repeat_Int (x : List Int) (n : Int) : Option (List Int) := if x.length = 1 ∧ 1 ≤ n ∧ n < 2147483648 then some (List.replicate n.toNat (gi x 0)) else none
theorem slices_Repeat_Int_walk (x : List Int) (n : Int) (w : World) {v0 : Value} (h0 : R (hpOf w) x [v0]) {r : List Int} (H : slices_Repeat_Int x n = some r) : Calls Try.prog 41 #[v0, .int .i64 n] w fun e w' => ∃ g : (Option Nat × Nat), e = .returned (rowV g r.length) ∧ Sat w [row nilH 3 (rowV g r.length) r] w' := by
 unfold slices_Repeat_Int at H
 obtain ⟨⟨hx, h1, h2⟩, H⟩ := gdE H
 obtain rfl := Option.some.inj H
 obtain ⟨a, rfl⟩ : ∃ a, x = [a] := by
  match x, hx with
  | [a], _ => exact ⟨a, rfl⟩
 refine (repeatInt_calls ⟨h1, h2⟩ w h0).mono ?_
 rintro e w' ⟨b, he, hs⟩
 refine ⟨(some b, n.toNat), ?_, ?_⟩
 ·rw [he, List.length_replicate]; rfl
 ·rw [List.length_replicate]; exact hs
theorem cloneU64_calls_nil {l : List UInt64} {n c : Nat} (w : World) (hA : R (hpOf w) l [.slice none n c]) : Calls Try.prog 61 #[.slice none n c] w fun e w' => ∃ q : Option Nat × Nat, e = .returned (rowV q l.length) ∧ Sat w [row nilH 36 (rowV q l.length) l] w' := by
 refine T.enter (args := [.slice none n c]) (S := Sat w []) Try.func61 rfl rfl (Sat.start w) ?_
 refine T.seq fun K1 hK1 => ?_
 refine T.region ?_
 refine RS.p (Pu.assign rfl) rfl rfl ?_
 refine RS.nil (hK1 _ _ ?_)
 refine T.seq fun K2 hK2 => ?_
 refine T.seq fun K3 hK3 => ?_
 refine T.region ?_
 refine RS.p (Pu.move rfl) rfl rfl ?_
 refine RS.p (Pu.eqNilSl usl24 rfl) rfl rfl ?_
 refine RS.nil (hK3 _ _ ?_)
 refine T.cond rfl (fun hc4 => ?_) (fun hc4 => ?_)
 ·refine T.conseq (fr' := []) ?_ trivial (fun _ s => s)
  refine T.seq fun K4 hK4 => ?_
  refine T.region ?_
  refine RS.p (Pu.assign rfl) rfl rfl ?_
  refine RS.nil (hK4 _ _ ?_)
  refine T.retTo (by with_reducible ((repeat (first | apply RetTo.seq | apply RetTo.blk)); exact RetTo.refl _)) (Cont.ret1 rfl rfl fun w' s => ?_)
  have hl0 : l = [] := by
   obtain ⟨p', c', e', s1, s2, s3⟩ := hA
   simp only [List.cons.injEq, Value.slice.injEq, and_true] at e'
   obtain ⟨rfl, rfl, rfl⟩ := e'
   rcases s3 with h | ⟨b, o, cs, h, _⟩
   ·exact h
   ·cases h
  subst hl0
  exact ⟨(none, 0), rfl, s.addEmpty _ (fun p => .inl ⟨rfl, rfl⟩)⟩
 ·exact absurd hc4 (by simp) -- end
theorem cloneU64_calls_some {l : List UInt64} {a : Addr} {n c : Nat} (hsz : n < 1099511627776) (w : World) (hA : R (hpOf w) l [.slice (some a) n c]) : Calls Try.prog 61 #[.slice (some a) n c] w fun e w' => ∃ q : Option Nat × Nat, e = .returned (rowV q l.length) ∧ Sat w [row nilH 36 (rowV q l.length) l] w' := by
 refine T.enter (args := [.slice (some a) n c]) (S := Sat w []) Try.func61 rfl rfl (Sat.start w) ?_
 refine T.seq fun K1 hK1 => ?_
 refine T.region ?_
 refine RS.p (Pu.assign rfl) rfl rfl ?_
 refine RS.nil (hK1 _ _ ?_)
 refine T.seq fun K2 hK2 => ?_
 refine T.seq fun K3 hK3 => ?_
 refine T.region ?_
 refine RS.p (Pu.move rfl) rfl rfl ?_
 refine RS.p (Pu.eqNilSl usl24 rfl) rfl rfl ?_
 refine RS.nil (hK3 _ _ ?_)
 refine T.cond rfl (fun hc4 => ?_) (fun hc4 => ?_)
 ·exact absurd hc4 (by simp) -- end
 ·refine T.skip (hK2 _ _ (T.conseq (fr' := [(0, _)]) ?_ ⟨rfl, trivial⟩ (fun _ s => s)))
  refine T.seq fun K4 hK4 => ?_
  refine T.region ?_
  refine RS.solid (Sd.lit0 (α := UInt64) (B := nilH) sl24) rfl rfl fun b5 => ?_
  refine RS.p (Pu.move rfl) rfl rfl ?_
  refine RS.solid (Sd.appB (α := UInt64) 0 (nilH_lt _) rfl sl24 zr36 rfl rfl rfl hA (by simp only [List.length_nil]; omega) (by simp only [List.length_nil]; unfold maxLen; omega)) rfl rfl fun q7 => ?_
  refine RS.p (Pu.assign rfl) rfl rfl ?_
  refine RS.nil (hK4 _ _ (T.conseq (fr' := [(2, _)]) ?_ ⟨rfl, trivial⟩ (fun _ s => s)))
  refine T.retTo (by with_reducible ((repeat (first | apply RetTo.seq | apply RetTo.blk)); exact RetTo.refl _)) (Cont.ret1 rfl rfl fun w' s => ?_)
  have hn : n = l.length := (R_len hA).1
  simp only [List.length_nil, Nat.zero_add, List.nil_append] at s
  subst hn
  exact ⟨q7, by simp, s.pick (G' := [_]) [0] (by decide) rfl⟩
theorem cloneU64_calls {l : List UInt64} {v : Value} (hsz : l.length < 1099511627776) (w : World) (hA : R (hpOf w) l [v]) : Calls Try.prog 61 #[v] w fun e w' => ∃ q : Option Nat × Nat, e = .returned (rowV q l.length) ∧ Sat w [row nilH 36 (rowV q l.length) l] w' := by
 obtain ⟨p, c, rfl⟩ := R_form hA
 cases p with
 | none => exact cloneU64_calls_nil w hA
 | some a => exact cloneU64_calls_some hsz w hA
def slices_Clone_U64 (l : List UInt64) : Option (List UInt64) := if l.length < 1099511627776 then some l else none
theorem slices_Clone_U64_walk (l : List UInt64) (w : World) {v0 : Value} (h0 : R (hpOf w) l [v0]) {r : List UInt64} (H : slices_Clone_U64 l = some r) : Calls Try.prog 61 #[v0] w fun e w' => ∃ g : (Option Nat × Nat), e = .returned (rowV g r.length) ∧ Sat w [row nilH 36 (rowV g r.length) r] w' := by
 unfold slices_Clone_U64 at H
 obtain ⟨h1, H⟩ := gdE H
 obtain rfl := Option.some.inj H
 exact cloneU64_calls h1 w h0
end Go.Proofs.Ytnadebijiaelkaa
set_option linter.unusedVariables false
set_option linter.unusedSimpArgs false
set_option maxRecDepth 20000
set_option maxHeartbeats 4000000
namespace Go.Proofs.Ytnadebijiaelkaa
open Go.Vg
open Enc (R)
--BEGIN
theorem tI_sl : slTy Try.prog 22 = some (35, Enc.sz Raw3, 40) := by kernel_rfl
theorem tI_zr : ∃ z, zeroOf Try.prog 35 = some z ∧ z.cells.size = Enc.sz Raw3 ∧ (∀ u ∈ z.cells.toList, u.oneCell' = true) ∧ R nilH ((⟨.int .i64 0, .int .i64 0, .slice none 0 0, rfl⟩ : Raw3) : Raw3) z.cells.toList := ⟨(.agg #[.int .i64 0, .int .i64 0, .slice none 0 0]), by kernel_rfl, by rfl, by decide, by rfl⟩
theorem tI_mixed : Try.prog.follows .mixedOrders = true := by kernel_rfl
theorem tI_bool : (Try.prog.underlying 3) = some (.int .i64) := by kernel_rfl
def raw_Insert (xs : List Raw3) (i : Int) (ys : List Raw3) : Option (List Raw3) := if ys.length = 1 ∧ (0 ≤ i ∧ i ≤ (xs.length : Int)) ∧ xs.length < 1099511627775 then some (xs.take i.toNat ++ ys ++ xs.drop i.toNat) else none
theorem tI_ovl : ∃ fn, Try.prog.funcs[(74 : Nat)]? = some fn ∧ isOvl fn 22 4 := ⟨_, Try.func74, by kernel_rfl, by kernel_rfl, by kernel_rfl, by kernel_rfl⟩
theorem raw_Insert_walk {w0 : World} {F : Ch} (a0 : List Raw3) (a1 : Int) (a2 : List Raw3) {q0 : Option Nat × Nat} {m0 : Nat} (hm : m0 = a0.length) {v0 : Value} (hv : Rd (Sat w0 [F]) a2 [v0]) {r : List Raw3} (H : raw_Insert a0 a1 a2 = some r) (w : World) (s : Sat w0 [row nilH 35 (rowV q0 m0) a0, F] w) :
    Calls Try.prog 64 #[rowV q0 m0, .int .i64 a1, v0] w fun e w' => ∃ q : Option Nat × Nat, e = .returned (rowV q r.length) ∧ Sat w0 [row nilH 35 (rowV q r.length) r, F] w' := by
  subst hm
  unfold raw_Insert at H
  obtain ⟨⟨hy1, ⟨h0, h1⟩, h3⟩, H⟩ := gdE H
  obtain rfl := Option.some.inj H
  obtain ⟨y, rfl⟩ : ∃ y, a2 = [y] := by
    match a2, hy1 with
    | [y], _ => exact ⟨y, rfl⟩
  obtain ⟨i, rfl⟩ := Int.eq_ofNat_of_zero_le h0
  simp only [Int.toNat_natCast]
  have hin : i ≤ a0.length := by omega
  have hfit := s.row_fits (k := 0) rfl
  obtain ⟨p, cc, rfl⟩ := R_form (hv w (s.pick [1] (by decide) rfl))
  have hl1 : ([y] : List Raw3).length = 1 := rfl
  rw [hl1] at hv ⊢
  obtain ⟨z, hz1, hz2, hz3, hz4⟩ := tI_zr
  refine T.enter (args := [_, _, _]) (S := Sat w0 [row nilH 35 (rowV q0 a0.length) a0, F]) Try.func64 rfl rfl s ?_
  refine T.seq fun K1 hK1 => ?_
  refine T.region ?_
  refine RS.p (Pu.assign rfl) rfl rfl ?_
  refine RS.nil (hK1 _ _ ?_)
  refine T.seq fun K2 hK2 => ?_
  refine T.region ?_
  refine RS.p (Pu.move rfl) rfl rfl ?_
  refine RS.p (Pu.move rfl) rfl rfl ?_
  refine RS.p (Pu.sliceL tI_sl rfl rfl (by omega)) rfl rfl ?_
  refine RS.nil (hK2 _ _ ?_)
  refine T.seq fun K3 hK3 => ?_
  refine T.region ?_
  refine RS.p (Pu.move rfl) rfl rfl ?_
  refine RS.p (Pu.lenSl tI_sl rfl) rfl rfl ?_
  refine RS.p (Pu.assign rfl) rfl rfl ?_
  refine RS.nil (hK3 _ _ ?_)
  refine T.seq fun K4 hK4 => ?_
  refine T.seq fun K5 hK5 => ?_
  refine T.region ?_
  refine RS.p (Pu.move rfl) rfl rfl ?_
  refine RS.p (Pu.bin rfl rfl rfl) rfl rfl ?_
  refine RS.nil (hK5 _ _ ?_)
  refine T.condP rfl (fun hc => absurd hc (by omega)) (fun hc => ?_)
  refine T.skip (hK4 _ _ ?_)
  refine T.seq fun K6 hK6 => ?_
  refine T.region ?_
  refine RS.p (Pu.move rfl) rfl rfl ?_
  refine RS.p (Pu.lenSl tI_sl rfl) rfl rfl ?_
  refine RS.p (Pu.assign rfl) rfl rfl ?_
  refine RS.nil (hK6 _ _ ?_)
  refine T.seq fun K7 hK7 => ?_
  refine T.seq fun K8 hK8 => ?_
  refine T.region ?_
  refine RS.p (Pu.move rfl) rfl rfl ?_
  refine RS.p (Pu.move rfl) rfl rfl ?_
  refine RS.p (Pu.bin rfl rfl rfl) rfl rfl ?_
  refine RS.nil (hK8 _ _ ?_)
  refine T.condP rfl (fun hin' => ?_) (fun hin' => ?_)
  · refine T.seq fun K9 hK9 => ?_
    refine T.region ?_
    refine RS.p (Pu.move rfl) rfl rfl ?_
    refine RS.p (Pu.move rfl) rfl rfl ?_
    refine RS.solid (Sd.appR (α := Raw3) 0 (nilH_lt _) rfl tI_sl hz1 hz2 rfl rfl (Rd.ofFrame 1 rfl hv) (by simp only [List.length_cons, List.length_nil]; omega) (by decide)) rfl rfl fun q => ?_
    refine RS.p (Pu.assign rfl) rfl rfl ?_
    refine RS.nil (hK9 _ _ ?_)
    refine T.retTo (by with_reducible ((repeat (first | apply RetTo.seq | apply RetTo.blk)); exact RetTo.refl _)) (Cont.ret1 rfl rfl fun w' s => ?_)
    have hi : i = a0.length := by omega
    subst hi
    rw [List.take_length, List.drop_length, List.append_nil]
    exact ⟨q, rfl, s⟩
  refine T.skip (hK7 _ _ ?_)
  have hlt : i < a0.length := by omega
  refine T.know (p := ∃ g cap, q0 = (some g, cap)) (fun w s => s.row_some (k := 0) rfl (by omega)) ?_
  rintro ⟨gg, c, rfl⟩
  try dsimp only at hfit
  refine T.seq fun KA1 hKA1 => ?_
  refine T.seq fun KB1 hKB1 => ?_
  refine T.region ?_
  refine RS.p (Pu.move rfl) rfl rfl ?_
  refine RS.p (Pu.move rfl) rfl rfl ?_
  refine RS.p (Pu.addS rfl rfl (by omega)) rfl rfl ?_
  refine RS.p (Pu.move rfl) rfl rfl ?_
  refine RS.p (Pu.capSl tI_sl rfl) rfl rfl ?_
  refine RS.p (Pu.bin rfl rfl rfl) rfl rfl ?_
  refine RS.nil (hKB1 _ _ ?_)
  refine T.condP rfl (fun hg => ?_) (fun hg => ?_)
  · have hkk : (((a0.length : Nat) : Int) + ((1 : Nat) : Int) - (i : Int)) = ((a0.length + 1 - i : Nat) : Int) := by omega
    refine T.seq fun KC1 hKC1 => ?_
    refine T.region ?_
    refine RS.p (Pu.move rfl) rfl rfl ?_
    refine RS.p (Pu.move rfl) rfl rfl ?_
    refine RS.p (Pu.sliceHn (j := i) tI_sl rfl rfl rfl (by omega)) rfl rfl ?_
    refine RS.p (Pu.move rfl) rfl rfl ?_
    refine RS.p (Pu.move rfl) rfl rfl ?_
    refine RS.p (Pu.addS rfl rfl (by omega)) rfl rfl ?_
    refine RS.p (Pu.move rfl) rfl rfl ?_
    refine RS.p (Pu.subS rfl rfl (by omega)) rfl rfl ?_
    refine RS.solid (Sd.appZeros (α := Raw3) (z0 := (⟨.int .i64 0, .int .i64 0, .slice none 0 0, rfl⟩ : Raw3)) (kk := a0.length + 1 - i) 0 i rfl tI_sl hz1 hz4 (by decide) tI_bool rfl rfl hkk (by omega) (by omega) (by omega) (by omega) (by decide)) rfl rfl fun q => ?_
    refine RS.p (Pu.assign rfl) rfl rfl ?_
    refine RS.nil (hKC1 _ _ ?_)
    have hTl : (a0.take i ++ List.replicate (a0.length + 1 - i) ((⟨.int .i64 0, .int .i64 0, .slice none 0 0, rfl⟩ : Raw3) : Raw3)).length = i + (a0.length + 1 - i) := by simp only [List.length_append, List.length_take, List.length_replicate]; omega
    refine T.know (p := ∃ g cap, q = (some g, cap)) (fun w s => s.row_some (k := 2) rfl (by rw [hTl]; omega)) ?_
    rintro ⟨bb, cb, rfl⟩
    refine T.know (fun w s => s.row_fits (k := 2) rfl) fun hfb => ?_
    try dsimp only at hfb
    have hfb2 := hfb.2.1
    refine T.seq fun KD1 hKD1 => ?_
    refine T.region ?_
    refine RS.p (Pu.move rfl) rfl rfl ?_
    refine RS.p (Pu.move rfl) rfl rfl ?_
    refine RS.p (Pu.sliceLs (j := i) tI_sl rfl rfl rfl (by omega) (by omega)) rfl rfl ?_
    refine RS.p (Pu.move rfl) rfl rfl ?_
    refine RS.solid (Sd.copyR (α := Raw3) (o := i) 2 rfl tI_sl rfl rfl (Rd.ofFrame 1 rfl hv) (Nat.zero_add _) (by rw [hTl]; have h : Nat.min 1 (i + (a0.length + 1 - i) - i) ≤ 1 := Nat.min_le_left _ _; omega)) rfl rfl fun _ => ?_
    refine RS.nil (hKD1 _ _ ?_)
    refine T.seq fun KE1 hKE1 => ?_
    refine T.drawn (fun _ => True) [(0, .pu), (1, .pu), (2, .pu), (3, .pu), (4, .pu), (5, .pu), (6, .pu), (7, .pu), (8, .br)] tI_mixed (ClE.sat _ _) (by kernel_rfl) ?_
    refine RD.p (fun _ _ => trivial) rfl (Pu.move rfl) rfl rfl ?_
    refine RD.p (fun _ _ => trivial) rfl (Pu.move rfl) rfl rfl ?_
    refine RD.p (fun _ _ => trivial) rfl (Pu.move rfl) rfl rfl ?_
    refine RD.p (fun _ _ => trivial) rfl (Pu.addS rfl rfl (by omega)) rfl rfl ?_
    refine RD.p (fun _ _ => trivial) rfl (Pu.sliceLs (j := i + 1) tI_sl rfl rfl (by omega) (by omega) (by omega)) rfl rfl ?_
    refine RD.p (fun _ _ => trivial) rfl (Pu.move rfl) rfl rfl ?_
    refine RD.p (fun _ _ => trivial) rfl (Pu.move rfl) rfl rfl ?_
    refine RD.p (fun _ _ => trivial) rfl (Pu.sliceLn (j := i) tI_sl rfl rfl rfl hin) rfl rfl ?_
    have hX : (a0.take i ++ List.replicate (a0.length + 1 - i) ((⟨.int .i64 0, .int .i64 0, .slice none 0 0, rfl⟩ : Raw3) : Raw3)).take i ++ [y].take (Nat.min 1 (i + (a0.length + 1 - i) - i)) ++ (a0.take i ++ List.replicate (a0.length + 1 - i) ((⟨.int .i64 0, .int .i64 0, .slice none 0 0, rfl⟩ : Raw3) : Raw3)).drop (i + Nat.min 1 (i + (a0.length + 1 - i) - i)) = (a0.take i ++ List.replicate (a0.length + 1 - i) ((⟨.int .i64 0, .int .i64 0, .slice none 0 0, rfl⟩ : Raw3) : Raw3)).take i ++ [y].take (Nat.min 1 (a0.length + 1 - i)) ++ (a0.take i ++ List.replicate (a0.length + 1 - i) ((⟨.int .i64 0, .int .i64 0, .slice none 0 0, rfl⟩ : Raw3) : Raw3)).drop (i + Nat.min 1 (a0.length + 1 - i)) := by rw [Nat.add_sub_cancel_left]
    have hXl : ((a0.take i ++ List.replicate (a0.length + 1 - i) ((⟨.int .i64 0, .int .i64 0, .slice none 0 0, rfl⟩ : Raw3) : Raw3)).take i ++ [y].take (Nat.min 1 (i + (a0.length + 1 - i) - i)) ++ (a0.take i ++ List.replicate (a0.length + 1 - i) ((⟨.int .i64 0, .int .i64 0, .slice none 0 0, rfl⟩ : Raw3) : Raw3)).drop (i + Nat.min 1 (i + (a0.length + 1 - i) - i))).length = a0.length + 1 := by
      have h : Nat.min 1 (i + (a0.length + 1 - i) - i) = 1 := Nat.min_eq_left (by omega)
      rw [h]; simp only [List.length_append, List.length_take, List.length_drop, List.length_replicate, List.length_cons, List.length_nil]; omega
    refine RD.solid rfl (.inr rfl) rfl rfl (Sd.copyR (α := Raw3) (o := i + 1) 2 rfl tI_sl rfl rfl (Rd.drop (Rd.ofRowN 0 rfl) hin rfl) (Nat.zero_add _) (by rw [hXl]; have h : Nat.min (a0.length - i) (i + (a0.length + 1 - i) - (i + 1)) ≤ a0.length - i := Nat.min_le_left _ _; omega)) (fun _ => ClE.sat _ _) (fun _ _ _ => trivial) (fun h => nomatch h) fun _ => ?_
    refine RD.nil (hKE1 _ _ ?_)
    refine T.seq fun KF1 hKF1 => ?_
    refine T.region ?_
    refine RS.p (Pu.move rfl) rfl rfl ?_
    refine RS.p (Pu.assign rfl) rfl rfl ?_
    refine RS.nil (hKF1 _ _ ?_)
    refine T.retTo (by with_reducible ((repeat (first | apply RetTo.seq | apply RetTo.blk)); exact RetTo.refl _)) (Cont.ret1 rfl rfl fun w' s => ?_)
    have hmm : Nat.min (a0.length - i) (i + (a0.length + 1 - i) - (i + 1)) = Nat.min (a0.length - i) (a0.length - i) := by congr 1; omega
    have hfin := ins_grow (xs := a0) (i := i) (y := y) (z := ((⟨.int .i64 0, .int .i64 0, .slice none 0 0, rfl⟩ : Raw3) : Raw3)) hlt
    refine ⟨(some bb, cb), ?_, ?_⟩
    · show Ending.returned (.slice (some ⟨bb, 0, none⟩) (i + (a0.length + 1 - i)) cb) = .returned (.slice (some ⟨bb, 0, none⟩) (a0.take i ++ [y] ++ a0.drop i).length cb)
      congr 2
      simp only [List.length_append, List.length_take, List.length_drop, List.length_cons, List.length_nil]; omega
    · have s2 := s.pick (G' := [row nilH 35 (.slice (some ⟨bb, 0, none⟩) (i + (a0.length + 1 - i)) cb) _, F]) [2, 1] (by decide) rfl
      have hl : (a0.take i ++ [y] ++ a0.drop i).length = i + (a0.length + 1 - i) := by simp only [List.length_append, List.length_take, List.length_drop, List.length_cons, List.length_nil]; omega
      rw [hmm, hX, hfin] at s2
      rw [hl]
      exact s2
  refine T.skip (hKA1 _ _ ?_)
  have hroom : a0.length + 1 ≤ c := by omega
  obtain ⟨bv, ov, rfl, hbv, _⟩ := apart_of (C := row nilH 35 (rowV (some gg, c) a0.length) a0) (F := F) s (fun q hq => by
    rcases hq with ⟨hq, _⟩ | ⟨g', cap, cs, sp, hq, h1, _⟩
    · simp [rowV] at hq
    · simp only [rowV, Option.map_some, Value.slice.injEq, Option.some.injEq, Addr.mk.injEq, and_true] at hq
      obtain ⟨rfl, _⟩ := hq
      exact ⟨_, h1⟩) hv (by decide)
  refine T.seq fun KG1 hKG1 => ?_
  refine T.region ?_
  refine RS.p (Pu.move rfl) rfl rfl ?_
  refine RS.p (Pu.move rfl) rfl rfl ?_
  refine RS.p (Pu.move rfl) rfl rfl ?_
  refine RS.p (Pu.addS rfl rfl (by omega)) rfl rfl ?_
  refine RS.p (Pu.sliceHn (j := a0.length + 1) tI_sl rfl rfl (by omega) hroom) rfl rfl ?_
  refine RS.p (Pu.assign rfl) rfl rfl ?_
  refine RS.nil (hKG1 _ _ ?_)
  refine T.seq fun KH1 hKH1 => ?_
  refine T.seq fun KI1 hKI1 => ?_
  refine T.region ?_
  refine RS.p (Pu.move rfl) rfl rfl ?_
  refine RS.p (Pu.move rfl) rfl rfl ?_
  refine RS.p (Pu.move rfl) rfl rfl ?_
  refine RS.p (Pu.move rfl) rfl rfl ?_
  refine RS.p (Pu.addS rfl rfl (by omega)) rfl rfl ?_
  refine RS.p (Pu.sliceLs (j := i + 1) tI_sl rfl rfl (by omega) (by omega) (by omega)) rfl rfl ?_
  obtain ⟨fno, hfo, hoo⟩ := tI_ovl
  refine RS.q (Qt.overlaps hfo hoo tI_sl rfl rfl (fun w s => ?_)) rfl rfl ?_
  · have hsp : Sat w0 [row nilH 35 (rowV (some gg, c) a0.length) a0, F] w := s
    obtain ⟨b2, o2, e2, hb2, hcells⟩ := apart_of (C := row nilH 35 (rowV (some gg, c) a0.length) a0) (F := F) hsp (fun q hq => by
      rcases hq with ⟨hq, _⟩ | ⟨g', cap, cs, sp, hq, h1, _⟩
      · simp [rowV] at hq
      · simp only [rowV, Option.map_some, Value.slice.injEq, Option.some.injEq, Addr.mk.injEq, and_true] at hq
        obtain ⟨rfl, _⟩ := hq
        exact ⟨_, h1⟩) hv (by decide)
    simp only [Option.some.injEq, Addr.mk.injEq, and_true] at e2
    obtain ⟨rfl, rfl⟩ := e2
    obtain ⟨cs, sp, k1, _, k3, _⟩ := hsp.rowCells (k := 0) rfl
    refine ⟨hbv, hcells, _, _, k1, ?_⟩
    simp only [List.size_toArray]
    rw [k3]
    exact Nat.mul_pos (by omega) (by decide)
  refine RS.p (Pu.not rfl) rfl rfl ?_
  refine RS.nil (hKI1 _ _ ?_)
  refine T.condT rfl ?_
  refine T.seq fun KJ1 hKJ1 => ?_
  refine T.drawn (fun _ => True) [(0, .pu), (1, .pu), (2, .pu), (3, .pu), (4, .pu), (5, .pu), (6, .pu), (7, .pu), (8, .br)] tI_mixed (ClE.sat _ _) (by kernel_rfl) ?_
  refine RD.p (fun _ _ => trivial) rfl (Pu.move rfl) rfl rfl ?_
  refine RD.p (fun _ _ => trivial) rfl (Pu.move rfl) rfl rfl ?_
  refine RD.p (fun _ _ => trivial) rfl (Pu.move rfl) rfl rfl ?_
  refine RD.p (fun _ _ => trivial) rfl (Pu.addS rfl rfl (by omega)) rfl rfl ?_
  refine RD.p (fun _ _ => trivial) rfl (Pu.sliceLs (j := i + 1) tI_sl rfl rfl (by omega) (by omega) (by omega)) rfl rfl ?_
  refine RD.p (fun _ _ => trivial) rfl (Pu.move rfl) rfl rfl ?_
  refine RD.p (fun _ _ => trivial) rfl (Pu.move rfl) rfl rfl ?_
  refine RD.p (fun _ _ => trivial) rfl (Pu.sliceLs (j := i) tI_sl rfl rfl rfl (by omega) (by omega)) rfl rfl ?_
  refine RD.solid rfl (.inr rfl) rfl rfl (Sd.copyUp (α := Raw3) 0 i rfl tI_sl hlt hroom (vsl (by omega) (by omega)) (vsl (by omega) rfl) (by omega)) (fun _ => ClE.sat _ _) (fun _ _ _ => trivial) (fun h => nomatch h) fun _ => ?_
  refine RD.nil (hKJ1 _ _ ?_)
  have hXl : (a0.take (i + 1) ++ a0.drop i).length = a0.length + 1 := by simp only [List.length_append, List.length_take, List.length_drop]; omega
  refine T.seq fun KL1 hKL1 => ?_
  refine T.region ?_
  refine RS.p (Pu.move rfl) rfl rfl ?_
  refine RS.p (Pu.move rfl) rfl rfl ?_
  refine RS.p (Pu.sliceLs (j := i) tI_sl rfl rfl rfl (by omega) (by omega)) rfl rfl ?_
  refine RS.p (Pu.move rfl) rfl rfl ?_
  refine RS.solid (Sd.copyR (α := Raw3) (o := i) 0 rfl tI_sl rfl rfl (Rd.ofFrame 1 rfl hv) (Nat.zero_add _) (by rw [hXl]; have h : Nat.min 1 (a0.length + 1 - i) ≤ 1 := Nat.min_le_left _ _; omega)) rfl rfl fun _ => ?_
  refine RS.nil (hKL1 _ _ ?_)
  refine T.seq fun KM1 hKM1 => ?_
  refine T.region ?_
  refine RS.p (Pu.move rfl) rfl rfl ?_
  refine RS.p (Pu.assign rfl) rfl rfl ?_
  refine RS.nil (hKM1 _ _ ?_)
  refine T.retTo (by with_reducible ((repeat (first | apply RetTo.seq | apply RetTo.blk)); exact RetTo.refl _)) (Cont.ret1 rfl rfl fun w' s => ?_)
  have hfin := ins_up (xs := a0) (i := i) (y := y) (m := Nat.min 1 (a0.length + 1 - i)) hlt (Nat.min_eq_left (by omega))
  have hl : (a0.take i ++ [y] ++ a0.drop i).length = a0.length + 1 := by simp only [List.length_append, List.length_take, List.length_drop, List.length_cons, List.length_nil]; omega
  have s2 := s.pick (G' := [row nilH 35 (.slice (some ⟨gg, 0, none⟩) (a0.length + 1) c) _, F]) [0, 1] (by decide) rfl
  rw [hfin] at s2
  rw [hl]
  exact ⟨(some gg, c), rfl, s2⟩

def slices_InsertI (xs : List Inp) (i : Int) (ys : List Inp) : Option (List Inp) := if ys.length = 1 ∧ (0 ≤ i ∧ i ≤ (xs.length : Int)) ∧ xs.length < 1099511627775 then some (xs.take i.toNat ++ ys ++ xs.drop i.toNat) else none
theorem slices_InsertI_walk {w0 : World} {F : Ch} (a0 : List Inp) (a1 : Int) (a2 : List Inp) {q0 : Option Nat × Nat} {m0 : Nat} (hm : m0 = a0.length) {e2 : TypeId} {v0 : Value} {r : List Inp} (H : slices_InsertI a0 a1 a2 = some r) (w : World) (s : Sat w0 [star (drow 35 (rowV q0 m0) a0) (drow e2 v0 a2), F] w) :
    Calls Try.prog 64 #[rowV q0 m0, .int .i64 a1, v0] w fun e w' => ∃ q : Option Nat × Nat, e = .returned (rowV q r.length) ∧ Sat w0 [drow 35 (rowV q r.length) r, F] w' := by
  unfold slices_InsertI at H
  obtain ⟨⟨hy1, ⟨h0, h1⟩, h3⟩, H⟩ := gdE H
  obtain rfl := Option.some.inj H
  obtain ⟨zs, hz, s2⟩ := (s.unstarAt 0 rfl).toZ (α := Inp) rfl 0 rfl
  obtain ⟨ys, hy, s3⟩ := s2.toZ (α := Inp) rfl 2 rfl
  have hzl : (zs.map (·.2)).length = a0.length := by rw [← hz]; simp
  have hyl : (ys.map (·.2)).length = a2.length := by rw [← hy]; simp
  have hI : raw_Insert (zs.map (·.2)) a1 (ys.map (·.2)) = some ((zs.take a1.toNat ++ ys ++ zs.drop a1.toNat).map (·.2)) := by
    unfold raw_Insert
    rw [hzl, hyl, if_pos ⟨hy1, ⟨h0, h1⟩, h3⟩]
    simp [List.map_take, List.map_drop]
  have hfst : (zs.take a1.toNat ++ ys ++ zs.drop a1.toNat).map (·.1) = a0.take a1.toNat ++ a2 ++ a0.drop a1.toNat := by
    rw [← hz, ← hy]; simp [List.map_take, List.map_drop]
  refine (raw_Insert_walk (zs.map (·.2)) a1 (ys.map (·.2)) (by rw [hzl]; exact hm) (Rd.rest 2 rfl (by decide) (Rd.ofRowN 0 rfl)) hI w (s3.focus (k := 0) rfl)).mono ?_
  rintro e w' ⟨q, rfl, s4⟩
  have s5 := Sat.unfocus (D := []) (G := [row nilH 35 (rowV q0 m0) (zs.map (·.2)), F, row nilH e2 v0 (ys.map (·.2)), inn zs, inn ys]) (k := 0) (Nat.zero_lt_succ _) s4
  have s6 := s5.merge2 3 4 rfl rfl (by decide) (inn (zs.take a1.toNat ++ ys ++ zs.drop a1.toNat)) fun p q r a b d l1 l2 => by
    refine DZ.perm ?_ (DZ.append b a d l1 l2)
    have e1 : zs ++ ys = zs.take a1.toNat ++ (zs.drop a1.toNat ++ ys) := by rw [← List.append_assoc, List.take_append_drop]
    rw [e1, List.append_assoc]
    exact List.Perm.append_left _ List.perm_append_comm
  have s7 := s6.ofZ (α := Inp) rfl 0 3 rfl rfl (by decide) (zs := zs.take a1.toNat ++ ys ++ zs.drop a1.toNat) rfl
  refine ⟨q, ?_, ?_⟩
  · rw [← hfst]; simp
  · rw [← hfst]
    have s8 := s7.pick (G' := [_, F]) [0, 1] (by decide) rfl
    simpa using s8
end Go.Proofs.Ytnadebijiaelkaa
set_option linter.unusedVariables false
set_option linter.unusedSimpArgs false
set_option maxRecDepth 20000
set_option maxHeartbeats 4000000
namespace Go.Proofs.Ytnadebijiaelkaa
open Go.Vg
open Enc (R)
theorem ent42r : Ent Try.prog 42 := ⟨_, _, Try.func42, by kernel_rfl, rfl⟩
theorem sl22r : slTy Try.prog 22 = some (35, 3, 40) := by kernel_rfl
theorem ty35r : tySz Try.prog 35 = some (3, true) := by kernel_rfl
theorem zr35r : zeroOf Try.prog 35 = some (.agg #[.int .i64 0, .int .i64 0, .slice none 0 0]) := by kernel_rfl
def raw_IndexFunc (a0_s : List Raw3) (a1_f : Raw3 → Option Bool) : Option Int :=
  Option.bind (α := Ex (Unit) (Int)) (loop (σ := Int) (β := Ex (Unit) (Int)) (fun v2 =>
  if v2 < (a0_s.length : Int) then
  if 0 ≤ v2 ∧ v2 < (a0_s.length : Int) then
  Option.bind (a1_f (gi a0_s v2)) fun x8 =>
  if x8 = true then
  some (St.done (Ex.up v2))
  else
  if I64 (v2 + 1) then
  some (St.next (v2 + 1))
  else none
  else none
  else
  some (St.done (Ex.go ()))) 0) fun x => x.then fun _ =>
  some (-1)
theorem raw_IndexFunc_walk (a0_s : List Raw3) (a1_f : Raw3 → Option Bool) (w : World) {v0 v1 : Value} (h0 : R (hpOf w) a0_s [v0]) (h1 : FnQ Try.prog w v1 (fun (y0 : Raw3) => [.agg #[y0.a, y0.b, y0.c]]) (fun (r : Bool) => .bool r) a1_f) {r : Int} (H : raw_IndexFunc a0_s a1_f = some r) : Calls Try.prog 42 #[v0, v1] w fun e w' => e = .returned (.int .i64 r) ∧ Ext w w' := by
 have hm0 := R_max h0
 obtain ⟨p0, c0, rfl⟩ := R_form h0
 unfold raw_IndexFunc at H
 refine T.enter (args := [_, _]) (S := Sat w []) Try.func42 rfl rfl (Sat.start w) ?_
 refine T.seq fun K1 hK1 => ?_
 refine T.region ?_
 refine RS.p (Pu.assign rfl) rfl rfl ?_
 refine RS.nil (hK1 _ _ ?_)
 refine T.seq fun K2 hK2 => ?_
 refine T.seq fun K3 hK3 => ?_
 refine T.region ?_
 refine RS.p (Pu.move rfl) rfl rfl ?_
 refine RS.p (Pu.lenSl sl22r rfl) rfl rfl ?_
 refine RS.p (Pu.move rfl) rfl rfl ?_
 refine RS.nil (hK3 _ _ ?_)
 refine T.joinE (σ := Unit) (γ := Unit) H Ex.go [] trivial (fun _ _ => []) (fun _ _ => Sat w []) ?_ ?_
 ·rintro ⟨⟩ ⟨⟩ H
  try dsimp only [Ex.then] at H
  refine Cont.conseq (fr' := []) ?_ trivial (fun _ s => s)
  refine id (hK2 _ _ ?_)
  refine T.seq fun K4 hK4 => ?_
  refine T.region ?_
  refine RS.p (Pu.assign rfl) rfl rfl ?_
  refine RS.nil (hK4 _ _ ?_)
  obtain rfl := Option.some.inj H
  refine T.rt (Cont.ret1 rfl rfl fun w' s => ?_)
  exact ⟨rfl, s.ext⟩
 ·intro z1 hz1 HX1 hJ1
  refine T.block ?_
  refine T.loopA (γ := Unit) hz1 [(0, _), (1, _), (7, _)] (fun v2 _ => [(8, .int .i64 v2)]) (fun v2 _ => Sat w []) () ⟨rfl, rfl, rfl, trivial⟩ ⟨rfl, trivial⟩ (fun w s => s) ?_
  rintro v2 ⟨⟩ y3 H hd1 KL1 hL1
  try dsimp only [Ex.then] at H
  refine T.conseq (fr' := [(8, _), (0, _), (1, _), (7, _)]) ?_ ⟨rfl, rfl, rfl, rfl, trivial⟩ (fun _ s => s)
  refine T.seq fun K5 hK5 => ?_
  refine T.region ?_
  refine RS.p (Pu.bin rfl rfl rfl) rfl rfl ?_
  refine RS.nil (hK5 _ _ ?_)
  refine T.seq fun K6 hK6 => ?_
  refine T.condP rfl (fun hc4 => ?_) (fun hc4 => ?_)
  ·have H := ifT hc4 H
   refine T.skip (hK6 _ _ ?_)
   refine T.seq fun K7 hK7 => ?_
   refine T.block ?_
   refine T.seq fun K8 hK8 => ?_
   refine T.region ?_
   refine RS.p (Pu.move rfl) rfl rfl ?_
   refine RS.p (Pu.assign rfl) rfl rfl ?_
   refine RS.nil (hK8 _ _ ?_)
   refine T.seq fun K9 hK9 => ?_
   refine T.region ?_
   refine RS.p (Pu.move rfl) rfl rfl ?_
   refine RS.p (Pu.move rfl) rfl rfl ?_
   refine RS.p (Pu.move rfl) rfl rfl ?_
   obtain ⟨g5, H⟩ := gdE H
   obtain ⟨bl6, ol7, rfl⟩ := R_ptr h0 (ne_of_pos (pos_of g5))
   refine RS.p (Pu.indexSl sl22r rfl rfl g5) rfl rfl ?_
   refine RS.q (Qt.ldW (α := Raw3) (cs := [_, _, _]) (Rd.base h0) ty35r rfl rfl g5 rfl (by rintro _ _ rfl; rfl)) rfl rfl ?_
   obtain ⟨x8, hx8, H⟩ := bindE H
   refine RS.q (Qt.callV rfl h1 (fun w s => s.ext) hx8 rfl) rfl rfl ?_
   refine RS.nil (hK9 _ _ ?_)
   refine T.cond rfl (fun hc9 => ?_) (fun hc9 => ?_)
   ·have H := ifT hc9 H
    refine T.conseq (fr' := [(5, _)]) ?_ ⟨rfl, trivial⟩ (fun _ s => s)
    refine T.seq fun K10 hK10 => ?_
    refine T.region ?_
    refine RS.p (Pu.move rfl) rfl rfl ?_
    refine RS.p (Pu.assign rfl) rfl rfl ?_
    refine RS.nil (hK10 _ _ ?_)
    obtain rfl := hd1 _ H
    have H := HX1
    obtain rfl := Option.some.inj H
    refine T.rt (Cont.ret1 rfl rfl fun w' s => ?_)
    exact ⟨rfl, s.ext⟩
   ·have H := ifB hc9 H
    refine T.skip (hK7 _ _ (T.conseq (fr' := [(0, _), (1, _), (7, _), (8, _)]) ?_ ⟨rfl, rfl, rfl, rfl, trivial⟩ (fun _ s => s)))
    refine T.region ?_
    obtain ⟨g10, H⟩ := gdE H
    refine RS.p (Pu.addS rfl rfl g10) rfl rfl ?_
    refine RS.p (Pu.move rfl) rfl rfl ?_
    refine RS.nil (hL1 _ _ (v2 + 1) () H ⟨rfl, rfl, rfl, trivial⟩ ⟨rfl, trivial⟩ (fun w s => s))
  ·have H := ifF hc4 H
   obtain rfl := hd1 _ H
   refine T.xt (hJ1 _ _ () () HX1 trivial trivial (fun w s => s))
def raw_DeleteFunc (a0_s : List Raw3) (a1_del : Raw3 → Option Bool) : Option (List Raw3) :=
  Option.bind (raw_IndexFunc a0_s a1_del) fun x1 =>
  if x1 = (-1) then
  some a0_s
  else
  if I64 (x1 + 1) then
  Option.bind (α := Int × List Raw3) (loop (σ := Int × Int × List Raw3) (β := Int × List Raw3) (fun (v12, v13, l14) =>
  if v13 < (a0_s.length : Int) then
  if 0 ≤ v13 ∧ v13 < (a0_s.length : Int) then
  Option.bind (a1_del (gi l14 v13)) fun x22 =>
  if (!x22) = true then
  if 0 ≤ v12 ∧ v12 < (a0_s.length : Int) then
  if I64 (v12 + 1) then
  if I64 (v13 + 1) then
  some (St.next ((v12 + 1), (v13 + 1), (si l14 v12 (gi l14 v13))))
  else none
  else none
  else none
  else
  if I64 (v13 + 1) then
  some (St.next (v12, (v13 + 1), l14))
  else none
  else none
  else
  some (St.done (v12, l14))) (x1, (x1 + 1), a0_s)) fun (v5, v6) =>
  if 0 ≤ v5 ∧ v5 < (a0_s.length : Int) then
  some (v6.take v5.toNat)
  else none
  else none
theorem raw_DeleteFunc_walk {w0 : World} {F : Ch} (a0_s : List Raw3) (a1_del : Raw3 → Option Bool) {q0 : Option Nat × Nat} {m0 : Nat} (hm : m0 = a0_s.length) {v0 : Value} (h0 : FnF Try.prog w0 F v0 (fun (y0 : Raw3) => [.agg #[y0.a, y0.b, y0.c]]) (fun (r : Bool) => .bool r) a1_del) {r : List Raw3} (H : raw_DeleteFunc a0_s a1_del = some r) (w : World) (s : Sat w0 [row nilH 35 (rowV q0 m0) a0_s, F] w) : Calls Try.prog 65 #[rowV q0 m0, v0] w fun e w' => ∃ q : Option Nat × Nat, e = .returned (rowV q r.length) ∧ Sat w0 [row nilH 35 (rowV q r.length) r, F] w' := by
 subst hm
 unfold raw_DeleteFunc at H
 refine T.enter (args := [_, _]) (S := Sat w0 [row nilH 35 (rowV q0 a0_s.length) a0_s, F]) Try.func65 rfl rfl (s) ?_
 refine T.seq fun K1 hK1 => ?_
 refine T.region ?_
 refine RS.p (Pu.assign rfl) rfl rfl ?_
 refine RS.nil (hK1 _ _ ?_)
 refine T.seq fun K2 hK2 => ?_
 refine T.region ?_
 refine RS.p (Pu.move rfl) rfl rfl ?_
 refine RS.p (Pu.move rfl) rfl rfl ?_
 obtain ⟨x1, hx1, H⟩ := bindE H
 refine RS.q (Qt.call (vs := [rowV q0 a0_s.length, v0]) ent42r rfl fun w s => raw_IndexFunc_walk a0_s a1_del w ((Rd.ofRowN 0 rfl) w s) (FnF.toQ h0 (s.pick [1] (by decide) rfl)) hx1) rfl rfl ?_
 refine RS.p (Pu.assign rfl) rfl rfl ?_
 refine RS.nil (hK2 _ _ (T.conseq (fr' := [(0, _), (1, _), (5, _)]) ?_ ⟨rfl, rfl, rfl, trivial⟩ (fun _ s => s)))
 refine T.seq fun K3 hK3 => ?_
 refine T.seq fun K4 hK4 => ?_
 refine T.region ?_
 refine RS.p (Pu.move rfl) rfl rfl ?_
 refine RS.p (Pu.bin rfl rfl rfl) rfl rfl ?_
 refine RS.nil (hK4 _ _ ?_)
 refine T.condP rfl (fun hc2 => ?_) (fun hc2 => ?_)
 ·have H := ifT hc2 H
  refine T.conseq (fr' := [(0, _)]) ?_ ⟨rfl, trivial⟩ (fun _ s => s)
  refine T.seq fun K5 hK5 => ?_
  refine T.region ?_
  refine RS.p (Pu.move rfl) rfl rfl ?_
  refine RS.p (Pu.assign rfl) rfl rfl ?_
  refine RS.nil (hK5 _ _ ?_)
  obtain rfl := Option.some.inj H
  refine T.rt (Cont.ret1 rfl rfl fun w' s => ?_)
  exact ⟨q0, rfl, s.pick [0, 1] (by decide) rfl⟩
 ·have H := ifF hc2 H
  refine T.skip (hK3 _ _ ?_)
  refine T.seq fun K6 hK6 => ?_
  refine T.seq fun K7 hK7 => ?_
  refine T.region ?_
  refine RS.p (Pu.move rfl) rfl rfl ?_
  obtain ⟨g3, H⟩ := gdE H
  refine RS.p (Pu.addS rfl rfl g3) rfl rfl ?_
  refine RS.p (Pu.assign rfl) rfl rfl ?_
  refine RS.nil (hK7 _ _ (T.conseq (fr' := [(0, _), (1, _), (5, _), (6, _)]) ?_ ⟨rfl, rfl, rfl, rfl, trivial⟩ (fun _ s => s)))
  refine T.joinE (σ := Int × List Raw3) (γ := Unit) H (fun s => s) [(0, _)] ⟨rfl, trivial⟩ (fun (v5, v6) _ => [(5, .int .i64 v5)]) (fun (v5, v6) _ => Sat w0 [row nilH 35 (rowV q0 a0_s.length) v6, F]) ?_ ?_
  ·rintro ⟨v5, v6⟩ ⟨⟩ H
   try dsimp only [Ex.then] at H
   refine Cont.conseq (fr' := [(5, _), (0, _)]) ?_ ⟨rfl, rfl, trivial⟩ (fun _ s => s)
   refine id (hK6 _ _ ?_)
   refine T.seq fun K8 hK8 => ?_
   refine T.region ?_
   refine RS.p (Pu.move rfl) rfl rfl ?_
   refine RS.p (Pu.move rfl) rfl rfl ?_
   obtain ⟨g7, H⟩ := gdE H
   refine RS.know (p := ∃ g cap, q0 = (some g, cap)) (fun w s => (s.row_some (k := 0) rfl (by have h1 := g7; have h2 := (s.row_fits (q := q0) (m := a0_s.length) (k := 0) rfl).1; omega))) ?_
   rintro ⟨gg8, cc9, rfl⟩
   refine RS.know (fun w s => (s.row_fits (q := (some gg8, cc9)) (m := a0_s.length) (k := 0) rfl)) fun hf10 => ?_
   refine RS.p (Pu.sliceLs (j := v5.toNat) sl22r rfl rfl (by have h1 := g7; omega) (by have h1 := g7; omega) (by have h1 := g7; have h2 := hf10.2.1; omega)) rfl rfl ?_
   refine RS.weakS (fun w s => s.cutRow (q := (some gg8, cc9)) (m := a0_s.length) 0 v5.toNat rfl (by have h1 := g7; omega)) ?_
   refine RS.solid (Sd.clearSp (α := Raw3) 0 v5.toNat rfl sl22r zr35r rfl (by decide) (by simp only [ev, look_cons]; simp; rfl) (by rw [List.length_take]; exact Nat.min_le_left _ _) (by have h1 := g7; have h2 := hf10.2.1; omega) (by have h1 := g7; omega)) rfl rfl fun _ => ?_
   refine RS.nil (hK8 _ _ (T.conseq (fr' := [(0, _), (5, _)]) ?_ ⟨rfl, rfl, trivial⟩ (fun _ s => s)))
   refine T.seq fun K9 hK9 => ?_
   refine T.region ?_
   refine RS.p (Pu.move rfl) rfl rfl ?_
   refine RS.p (Pu.move rfl) rfl rfl ?_
   refine RS.know (fun w s => (s.row_fits (q := (some gg8, cc9)) (m := v5.toNat) (k := 0) rfl)) fun hf11 => ?_
   refine RS.p (Pu.sliceH sl22r rfl rfl (by have h1 := g7; have h2 := hf11.2.1; omega)) rfl rfl ?_
   refine RS.p (Pu.assign rfl) rfl rfl ?_
   refine RS.nil (hK9 _ _ (T.conseq (fr' := [(4, _)]) ?_ ⟨rfl, trivial⟩ (fun _ s => s)))
   obtain rfl := Option.some.inj H
   refine T.rt (Cont.ret1 rfl rfl fun w' s => ?_)
   exact ⟨(some gg8, cc9), (by have h9 := (s.row_fits (q := (some gg8, cc9)) (m := v5.toNat) (k := 0) rfl).1; first | (rw [← h9]; done) | (rw [← h9]; rfl)), (Sat.relen (q := (some gg8, cc9)) (m := v5.toNat) 0 s rfl).pick [0, 1] (by decide) rfl⟩
  ·intro z4 hz4 HX4 hJ4
   refine T.block ?_
   refine T.loopA (γ := Unit) hz4 [(0, _), (1, _)] (fun (v12, v13, l14) _ => [(5, .int .i64 v12), (6, .int .i64 v13)]) (fun (v12, v13, l14) _ => Sat w0 [row nilH 35 (rowV q0 a0_s.length) l14, F]) () ⟨rfl, rfl, trivial⟩ ⟨rfl, rfl, trivial⟩ (fun w s => s) ?_
   rintro ⟨v12, v13, l14⟩ ⟨⟩ y15 H hd4 KL4 hL4
   try dsimp only [Ex.then] at H
   refine T.conseq (fr' := [(5, _), (6, _), (0, _), (1, _)]) ?_ ⟨rfl, rfl, rfl, rfl, trivial⟩ (fun _ s => s)
   refine T.seq fun K10 hK10 => ?_
   refine T.seq fun K11 hK11 => ?_
   refine T.region ?_
   refine RS.p (Pu.move rfl) rfl rfl ?_
   refine RS.p (Pu.move rfl) rfl rfl ?_
   refine RS.p (Pu.lenSl sl22r rfl) rfl rfl ?_
   refine RS.p (Pu.bin rfl rfl rfl) rfl rfl ?_
   refine RS.nil (hK11 _ _ ?_)
   refine T.condP rfl (fun hc16 => ?_) (fun hc16 => ?_)
   ·have H := ifT hc16 H
    refine T.skip (hK10 _ _ (T.conseq (fr' := [(0, _), (1, _), (5, _), (6, _)]) ?_ ⟨rfl, rfl, rfl, rfl, trivial⟩ (fun _ s => s)))
    refine T.seq fun K12 hK12 => ?_
    refine T.block ?_
    refine T.seq fun K13 hK13 => ?_
    refine T.region ?_
    refine RS.p (Pu.move rfl) rfl rfl ?_
    refine RS.p (Pu.move rfl) rfl rfl ?_
    obtain ⟨g17, H⟩ := gdE H
    refine RS.know (fun w s => (s.row_fits (q := q0) (m := a0_s.length) (k := 0) rfl)) fun hf18 => ?_
    refine RS.know (p := ∃ g cap, q0 = (some g, cap)) (fun w s => (s.row_some (k := 0) rfl (pos_of (idx_of hf18.1 g17)))) ?_
    rintro ⟨gg19, cc20, rfl⟩
    refine RS.p (Pu.indexSl sl22r rfl rfl g17) rfl rfl ?_
    refine RS.q (Qt.ldW (α := Raw3) (cs := [_, _, _]) (Rd.ofRowN 0 rfl) ty35r rfl rfl (idx_of hf18.1 g17) rfl (by rintro _ _ rfl; rfl)) rfl rfl ?_
    refine RS.solid (Sd.alloc zr35r rfl) rfl rfl fun b21 => ?_
    refine RS.solid (Sd.stB (cs' := [_, _, _]) 2 ty35r rfl rfl rfl rfl rfl rfl (by exact all_raw _) rfl) rfl rfl fun _ => ?_
    refine RS.nil (hK13 _ _ (T.conseq (fr' := [(0, _), (1, _), (5, _), (6, _), (7, _)]) ?_ ⟨rfl, rfl, rfl, rfl, rfl, trivial⟩ (fun _ s => s)))
    refine T.seq fun K14 hK14 => ?_
    refine T.region ?_
    refine RS.p (Pu.move rfl) rfl rfl ?_
    refine RS.q (Qt.ldBA (us := [_, _, _]) 2 ty35r rfl rfl rfl rfl) rfl rfl ?_
    obtain ⟨x22, hx22, H⟩ := bindE H
    refine RS.q (Qt.callF rfl h0 (fun w s => s.pick [1] (by decide) rfl) hx22 rfl) rfl rfl ?_
    refine RS.p (Pu.not rfl) rfl rfl ?_
    refine RS.nil (hK14 _ _ ?_)
    refine T.cond rfl (fun hc23 => ?_) (fun hc23 => ?_)
    ·have H := ifT hc23 H
     refine T.conseq (fr' := [(0, _), (1, _), (5, _), (6, _), (7, _)]) ?_ ⟨rfl, rfl, rfl, rfl, rfl, trivial⟩ (fun _ s => s)
     refine T.seq fun K15 hK15 => ?_
     refine T.region ?_
     refine RS.p (Pu.move rfl) rfl rfl ?_
     refine RS.p (Pu.move rfl) rfl rfl ?_
     refine RS.q (Qt.ldBA (us := [_, _, _]) 2 ty35r rfl rfl rfl rfl) rfl rfl ?_
     obtain ⟨g24, H⟩ := gdE H
     refine RS.know (fun w s => (s.row_fits (q := (some gg19, cc20)) (m := a0_s.length) (k := 0) rfl)) fun hf25 => ?_
     refine RS.p (Pu.indexSl sl22r rfl rfl g24) rfl rfl ?_
     refine RS.solid (Sd.st0 (α := Raw3) 0 (gi l14 v13) rfl ty35r rfl rfl rfl (idx_of hf25.1 g24) rfl rfl (by decide) (by exact all_raw _) (by rintro _ _ rfl; rfl)) rfl rfl fun _ => ?_
     refine RS.nil (hK15 _ _ (T.conseq (fr' := [(0, _), (1, _), (5, _), (6, _)]) ?_ ⟨rfl, rfl, rfl, rfl, trivial⟩ (fun _ s => s)))
     refine T.region ?_
     refine RS.p (Pu.move rfl) rfl rfl ?_
     obtain ⟨g26, H⟩ := gdE H
     refine RS.p (Pu.addS rfl rfl g26) rfl rfl ?_
     refine RS.p (Pu.assign rfl) rfl rfl ?_
     refine RS.nil (hK12 _ _ ?_)
     refine T.region ?_
     refine RS.p (Pu.move rfl) rfl rfl ?_
     obtain ⟨g27, H⟩ := gdE H
     refine RS.p (Pu.addS rfl rfl g27) rfl rfl ?_
     refine RS.p (Pu.assign rfl) rfl rfl ?_
     refine RS.nil (hL4 _ _ ((v12 + 1), (v13 + 1), (si l14 v12 (gi l14 v13))) () H ⟨rfl, rfl, trivial⟩ ⟨rfl, rfl, trivial⟩ (fun w s => s.pick [0, 1] (by decide) rfl))
    ·have H := ifB hc23 H
     refine T.skip (hK12 _ _ (T.conseq (fr' := [(0, _), (1, _), (5, _), (6, _)]) ?_ ⟨rfl, rfl, rfl, rfl, trivial⟩ (fun _ s => s)))
     refine T.region ?_
     refine RS.p (Pu.move rfl) rfl rfl ?_
     obtain ⟨g28, H⟩ := gdE H
     refine RS.p (Pu.addS rfl rfl g28) rfl rfl ?_
     refine RS.p (Pu.assign rfl) rfl rfl ?_
     refine RS.nil (hL4 _ _ (v12, (v13 + 1), l14) () H ⟨rfl, rfl, trivial⟩ ⟨rfl, rfl, trivial⟩ (fun w s => s.pick [0, 1] (by decide) rfl))
   ·have H := ifF hc16 H
    obtain rfl := hd4 _ H
    refine T.xt (hJ4 _ _ (v12, l14) () HX4 ⟨rfl, trivial⟩ ⟨rfl, trivial⟩ (fun w s => s))
end Go.Proofs.Ytnadebijiaelkaa
set_option linter.unusedVariables false
set_option linter.unusedSimpArgs false
set_option maxRecDepth 20000
set_option maxHeartbeats 4000000
namespace Go.Proofs.Ytnadebijiaelkaa
open Go.Vg
open Enc (R)
def Per_ch (g : Nat) (x : Per) : Ch := exch fun q : (Option Nat × Nat) × (Option Nat × Nat) × (Option Nat × Nat) × (Option Nat × Nat) × (Option Nat × Nat) => stars (blk g [.int .i64 x.id, .int .i64 x.players, .int .i64 x.delay, .int .i64 x.turn, .int .i64 x.said, rowV q.1 x.mine.length, rowV q.2.1 x.inputs.length, rowV q.2.2.1 x.has.length, rowV q.2.2.2.1 x.acked.length, rowV q.2.2.2.2 x.hashes.length, .bool x.split] 26 :: [drow 35 (rowV q.1 x.mine.length) x.mine, drow 35 (rowV q.2.1 x.inputs.length) x.inputs, row nilH 3 (rowV q.2.2.1 x.has.length) x.has, row nilH 3 (rowV q.2.2.2.1 x.acked.length) x.acked, row nilH 36 (rowV q.2.2.2.2 x.hashes.length) x.hashes])
theorem Per_open {w0 w : World} {G : List Ch} {g : Nat} {x : Per} (k : Nat) (hk : G[k]? = some (Per_ch g x)) (h : Sat w0 G w) : ∃ q : (Option Nat × Nat) × (Option Nat × Nat) × (Option Nat × Nat) × (Option Nat × Nat) × (Option Nat × Nat), Sat w0 (G.set k (blk g [.int .i64 x.id, .int .i64 x.players, .int .i64 x.delay, .int .i64 x.turn, .int .i64 x.said, rowV q.1 x.mine.length, rowV q.2.1 x.inputs.length, rowV q.2.2.1 x.has.length, rowV q.2.2.2.1 x.acked.length, rowV q.2.2.2.2 x.hashes.length, .bool x.split] 26) ++ [drow 35 (rowV q.1 x.mine.length) x.mine, drow 35 (rowV q.2.1 x.inputs.length) x.inputs, row nilH 3 (rowV q.2.2.1 x.has.length) x.has, row nilH 3 (rowV q.2.2.2.1 x.acked.length) x.acked, row nilH 36 (rowV q.2.2.2.2 x.hashes.length) x.hashes]) w := Sat.openAt (A := fun q : (Option Nat × Nat) × (Option Nat × Nat) × (Option Nat × Nat) × (Option Nat × Nat) × (Option Nat × Nat) => blk g [.int .i64 x.id, .int .i64 x.players, .int .i64 x.delay, .int .i64 x.turn, .int .i64 x.said, rowV q.1 x.mine.length, rowV q.2.1 x.inputs.length, rowV q.2.2.1 x.has.length, rowV q.2.2.2.1 x.acked.length, rowV q.2.2.2.2 x.hashes.length, .bool x.split] 26) (L := fun q : (Option Nat × Nat) × (Option Nat × Nat) × (Option Nat × Nat) × (Option Nat × Nat) × (Option Nat × Nat) => [drow 35 (rowV q.1 x.mine.length) x.mine, drow 35 (rowV q.2.1 x.inputs.length) x.inputs, row nilH 3 (rowV q.2.2.1 x.has.length) x.has, row nilH 3 (rowV q.2.2.2.1 x.acked.length) x.acked, row nilH 36 (rowV q.2.2.2.2 x.hashes.length) x.hashes]) k hk h
theorem Per_shut {w0 w : World} {R : List Ch} {g : Nat} {x : Per} (q : (Option Nat × Nat) × (Option Nat × Nat) × (Option Nat × Nat) × (Option Nat × Nat) × (Option Nat × Nat)) (h : Sat w0 (R ++ [blk g [.int .i64 x.id, .int .i64 x.players, .int .i64 x.delay, .int .i64 x.turn, .int .i64 x.said, rowV q.1 x.mine.length, rowV q.2.1 x.inputs.length, rowV q.2.2.1 x.has.length, rowV q.2.2.2.1 x.acked.length, rowV q.2.2.2.2 x.hashes.length, .bool x.split] 26, drow 35 (rowV q.1 x.mine.length) x.mine, drow 35 (rowV q.2.1 x.inputs.length) x.inputs, row nilH 3 (rowV q.2.2.1 x.has.length) x.has, row nilH 3 (rowV q.2.2.2.1 x.acked.length) x.acked, row nilH 36 (rowV q.2.2.2.2 x.hashes.length) x.hashes]) w) : Sat w0 (Per_ch g x :: R) w := Sat.toEx (C := fun q : (Option Nat × Nat) × (Option Nat × Nat) × (Option Nat × Nat) × (Option Nat × Nat) × (Option Nat × Nat) => stars (blk g [.int .i64 x.id, .int .i64 x.players, .int .i64 x.delay, .int .i64 x.turn, .int .i64 x.said, rowV q.1 x.mine.length, rowV q.2.1 x.inputs.length, rowV q.2.2.1 x.has.length, rowV q.2.2.2.1 x.acked.length, rowV q.2.2.2.2 x.hashes.length, .bool x.split] 26 :: [drow 35 (rowV q.1 x.mine.length) x.mine, drow 35 (rowV q.2.1 x.inputs.length) x.inputs, row nilH 3 (rowV q.2.2.1 x.has.length) x.has, row nilH 3 (rowV q.2.2.2.1 x.acked.length) x.acked, row nilH 36 (rowV q.2.2.2.2 x.hashes.length) x.hashes])) q (Sat.toStars (blk g [.int .i64 x.id, .int .i64 x.players, .int .i64 x.delay, .int .i64 x.turn, .int .i64 x.said, rowV q.1 x.mine.length, rowV q.2.1 x.inputs.length, rowV q.2.2.1 x.has.length, rowV q.2.2.2.1 x.acked.length, rowV q.2.2.2.2 x.hashes.length, .bool x.split] 26 :: [drow 35 (rowV q.1 x.mine.length) x.mine, drow 35 (rowV q.2.1 x.inputs.length) x.inputs, row nilH 3 (rowV q.2.2.1 x.has.length) x.has, row nilH 3 (rowV q.2.2.2.1 x.acked.length) x.acked, row nilH 36 (rowV q.2.2.2.2 x.hashes.length) x.hashes]) (G := R) h)
end Go.Proofs.Ytnadebijiaelkaa
