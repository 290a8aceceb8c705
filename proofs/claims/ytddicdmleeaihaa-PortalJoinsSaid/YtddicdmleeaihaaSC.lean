/-
  The statements' argument: sides, what is free, tiles, parts.
-/
import Derived.Test.YtddicdmleeaihaaRows
import Derived.Test.YtddicdmleeaihaaSB
import Derived.Test.YtddicdmleeaihaaVH
set_option linter.unusedVariables false
set_option linter.unusedSimpArgs false
set_option maxRecDepth 20000
set_option maxHeartbeats 4000000
namespace Go.Proofs.Ytddicdmleeaihaa
open Go.Vg
open Enc (R)
open Sp
theorem bz3 : decide (0 < Try.prog.bytesOf 3) = true := by kernel_rfl
theorem bz4 : decide (0 < Try.prog.bytesOf 4) = true := by kernel_rfl
theorem co22 : Try.prog.cellsOf 22 = 1 := by kernel_rfl
theorem co23 : Try.prog.cellsOf 23 = 1 := by kernel_rfl
theorem co25 : Try.prog.cellsOf 25 = 5 := by kernel_rfl
theorem co3 : Try.prog.cellsOf 3 = 1 := by kernel_rfl
theorem co4 : Try.prog.cellsOf 4 = 1 := by kernel_rfl
theorem uf25 : structOf Try.prog 25 = some [(3, 0), (3, 1), (22, 2), (23, 3), (23, 4)] := by kernel_rfl
theorem ul3 : Try.prog.underlying 3 = some (.int .i64) := by kernel_rfl
theorem usl22 : Try.prog.underlying 22 = some (.slice 4) := by kernel_rfl
theorem usl23 : Try.prog.underlying 23 = some (.slice 3) := by kernel_rfl
structure Ask where
 W : Int
 H : Int
 Free : List Bool
 Ts : List Int
 Parts : List Int
 deriving Inhabited
instance : Enc Ask where
 sz := 5
 R h x cs := ∃ v2 v3 v4, cs = [.int .i64 x.W, .int .i64 x.H, v2, v3, v4] ∧ Enc.R h (x.Free : List Bool) [v2] ∧ Enc.R h (x.Ts : List Int) [v3] ∧ Enc.R h (x.Parts : List Int) [v4]
 len := fun ⟨v2, v3, v4, e, h2, h3, h4⟩ => by rw [e]; rfl
 one := fun ⟨v2, v3, v4, e, h2, h3, h4⟩ u hu => by
  rw [e] at hu; simp only [List.mem_cons, List.not_mem_nil, or_false] at hu
  rcases hu with rfl | rfl | rfl | rfl | rfl
  ·rfl
  ·rfl
  ·exact Enc.one h2 _ (by simp)
  ·exact Enc.one h3 _ (by simp)
  ·exact Enc.one h4 _ (by simp)
 mono := fun hl ⟨v2, v3, v4, e, h2, h3, h4⟩ => ⟨v2, v3, v4, e, Enc.mono hl h2, Enc.mono hl h3, Enc.mono hl h4⟩
def Ask.Wf (x : Ask) : Prop := (I64 x.W) ∧ (I64 x.H) ∧ ((∀ y ∈ x.Free, True) ∧ x.Free.length ≤ 140737488351232) ∧ ((∀ y ∈ x.Ts, I64 y) ∧ x.Ts.length ≤ 140737488351232) ∧ ((∀ y ∈ x.Parts, I64 y) ∧ x.Parts.length ≤ 140737488351232)
theorem rd_Ask : Rdbl Try.prog 25 Ask Ask.Wf := fun H enc w fuel cs x h hzd => by
 obtain ⟨fs, hu, hfs⟩ := structOf_spec uf25
 obtain ⟨hl, m, hf⟩ := trod_field hu h hzd
 obtain ⟨f0, hf0, ht0, ho0⟩ : ∃ f, fs[0]? = some f ∧ f.type = 3 ∧ f.offset = 0 := by
  have h1 : (fs.toList.map (fun f => (f.type, f.offset)))[0]? = some (3, 0) := by rw [hfs]; rfl
  rw [List.getElem?_map, Option.map_eq_some_iff] at h1
  obtain ⟨f, h2, h3⟩ := h1
  simp only [Prod.mk.injEq] at h3
  exact ⟨f, by simpa using h2, h3.1, h3.2⟩
 obtain ⟨y0, hy0⟩ := hf 0 f0 hf0
 rw [ht0, ho0, co3] at hy0
 obtain ⟨a0, ha0, hw0⟩ := Rdbl.part (Rdbl.int ul3) hy0
 obtain ⟨f1, hf1, ht1, ho1⟩ : ∃ f, fs[1]? = some f ∧ f.type = 3 ∧ f.offset = 1 := by
  have h1 : (fs.toList.map (fun f => (f.type, f.offset)))[1]? = some (3, 1) := by rw [hfs]; rfl
  rw [List.getElem?_map, Option.map_eq_some_iff] at h1
  obtain ⟨f, h2, h3⟩ := h1
  simp only [Prod.mk.injEq] at h3
  exact ⟨f, by simpa using h2, h3.1, h3.2⟩
 obtain ⟨y1, hy1⟩ := hf 1 f1 hf1
 rw [ht1, ho1, co3] at hy1
 obtain ⟨a1, ha1, hw1⟩ := Rdbl.part (Rdbl.int ul3) hy1
 obtain ⟨f2, hf2, ht2, ho2⟩ : ∃ f, fs[2]? = some f ∧ f.type = 22 ∧ f.offset = 2 := by
  have h1 : (fs.toList.map (fun f => (f.type, f.offset)))[2]? = some (22, 2) := by rw [hfs]; rfl
  rw [List.getElem?_map, Option.map_eq_some_iff] at h1
  obtain ⟨f, h2, h3⟩ := h1
  simp only [Prod.mk.injEq] at h3
  exact ⟨f, by simpa using h2, h3.1, h3.2⟩
 obtain ⟨y2, hy2⟩ := hf 2 f2 hf2
 rw [ht2, ho2, co22] at hy2
 obtain ⟨a2, ha2, hw2⟩ := Rdbl.part (Rdbl.slice usl22 co4 (by decide) (Rdbl.bool ul4) bz4) hy2
 obtain ⟨f3, hf3, ht3, ho3⟩ : ∃ f, fs[3]? = some f ∧ f.type = 23 ∧ f.offset = 3 := by
  have h1 : (fs.toList.map (fun f => (f.type, f.offset)))[3]? = some (23, 3) := by rw [hfs]; rfl
  rw [List.getElem?_map, Option.map_eq_some_iff] at h1
  obtain ⟨f, h2, h3⟩ := h1
  simp only [Prod.mk.injEq] at h3
  exact ⟨f, by simpa using h2, h3.1, h3.2⟩
 obtain ⟨y3, hy3⟩ := hf 3 f3 hf3
 rw [ht3, ho3, co23] at hy3
 obtain ⟨a3, ha3, hw3⟩ := Rdbl.part (Rdbl.slice usl23 co3 (by decide) (Rdbl.int ul3) bz3) hy3
 obtain ⟨f4, hf4, ht4, ho4⟩ : ∃ f, fs[4]? = some f ∧ f.type = 23 ∧ f.offset = 4 := by
  have h1 : (fs.toList.map (fun f => (f.type, f.offset)))[4]? = some (23, 4) := by rw [hfs]; rfl
  rw [List.getElem?_map, Option.map_eq_some_iff] at h1
  obtain ⟨f, h2, h3⟩ := h1
  simp only [Prod.mk.injEq] at h3
  exact ⟨f, by simpa using h2, h3.1, h3.2⟩
 obtain ⟨y4, hy4⟩ := hf 4 f4 hf4
 rw [ht4, ho4, co23] at hy4
 obtain ⟨a4, ha4, hw4⟩ := Rdbl.part (Rdbl.slice usl23 co3 (by decide) (Rdbl.int ul3) bz3) hy4
 rw [co25] at hl
 obtain ⟨x0, x1, x2, x3, x4, rfl⟩ : ∃ x0 x1 x2 x3 x4, cs = [x0, x1, x2, x3, x4] := by
  match cs, hl with
  | [x0, x1, x2, x3, x4], _ => exact ⟨x0, x1, x2, x3, x4, rfl⟩
 simp only [List.drop_succ_cons, List.drop_zero, List.take_succ_cons, List.take_zero] at ha0 ha1 ha2 ha3 ha4
 obtain rfl : x0 = _ := by simpa [Enc.R] using ha0
 obtain rfl : x1 = _ := by simpa [Enc.R] using ha1
 exact ⟨⟨a0, a1, a2, a3, a4⟩, ⟨_, _, _, rfl, ha2, ha3, ha4⟩, ⟨hw0, hw1, hw2, hw3, hw4⟩⟩
theorem refMay_calls {W H : Int} {pa : Option Addr} {la ca : Nat} (w : World) : Calls Try.prog 8 #[.int .i64 W, .int .i64 H, .slice pa la ca] w fun e w' => e = .returned (.bool (decide (May W H ∧ (la : Int) = W * H))) ∧ Ext w w' := by
 refine T.enter (args := [.int .i64 W, .int .i64 H, .slice pa la ca]) (S := Sat w []) Try.func8 rfl rfl (Sat.start w) ?_
 refine T.seq fun K1 hK1 => ?_
 refine T.region ?_
 refine RS.p (Pu.assign rfl) rfl rfl ?_
 refine RS.nil (hK1 _ _ ?_)
 refine T.seq fun K2 hK2 => ?_
 refine T.region ?_
 refine RS.p (Pu.move rfl) rfl rfl ?_
 refine RS.p (Pu.bin rfl rfl rfl) rfl rfl ?_
 refine RS.p (Pu.move rfl) rfl rfl ?_
 refine RS.splitP 9 rfl (fun h9 => ?_) (fun h9 => ?_)
 ·refine RS.p (Pu.move rfl) rfl rfl ?_
  refine RS.p (Pu.bin rfl rfl rfl) rfl rfl ?_
  refine RS.p (Pu.pickT rfl rfl) rfl rfl ?_
  refine RS.p (Pu.move rfl) rfl rfl ?_
  refine RS.splitP 13 rfl (fun h13 => ?_) (fun h13 => ?_)
  ·refine RS.p (Pu.move rfl) rfl rfl ?_
   refine RS.p (Pu.bin rfl rfl rfl) rfl rfl ?_
   refine RS.p (Pu.pickT rfl rfl) rfl rfl ?_
   refine RS.p (Pu.move rfl) rfl rfl ?_
   refine RS.splitP 17 rfl (fun h17 => ?_) (fun h17 => ?_)
   ·refine RS.p (Pu.move rfl) rfl rfl ?_
    refine RS.p (Pu.bin rfl rfl rfl) rfl rfl ?_
    refine RS.p (Pu.pickT rfl rfl) rfl rfl ?_
    refine RS.p (Pu.move rfl) rfl rfl ?_
    refine RS.splitP 21 rfl (fun h21 => ?_) (fun h21 => ?_)
    ·have hm := mul_bd (a := W) (b := H) (A := 128) (B := 128) (by omega) (by omega)
     refine RS.p (Pu.move rfl) rfl rfl ?_
     refine RS.p (Pu.lenSl sl22 rfl) rfl rfl ?_
     refine RS.p (Pu.move rfl) rfl rfl ?_
     refine RS.p (Pu.move rfl) rfl rfl ?_
     refine RS.p (Pu.mulS rfl rfl (by omega)) rfl rfl ?_
     refine RS.p (Pu.bin rfl rfl rfl) rfl rfl ?_
     refine RS.p (Pu.pickT rfl rfl) rfl rfl ?_
     refine RS.p (Pu.assign rfl) rfl rfl ?_
     refine RS.nil (hK2 _ _ (T.conseq (fr' := [(6, _)]) ?_ ⟨rfl, trivial⟩ (fun _ s => s)))
     refine T.retTo (by with_reducible ((repeat (first | apply RetTo.seq | apply RetTo.blk)); exact RetTo.refl _)) (Cont.ret1 rfl rfl fun w' s => ?_)
     exact ⟨by first | exact bT (by unfold May; omega) | exact bF (by unfold May; omega) | exact bD (by unfold May; omega), s.ext⟩
    ·refine RS.no rfl rfl ?_
     refine RS.no rfl rfl ?_
     refine RS.no rfl rfl ?_
     refine RS.no rfl rfl ?_
     refine RS.no rfl rfl ?_
     refine RS.no rfl rfl ?_
     refine RS.p (Pu.pickF rfl rfl) rfl rfl ?_
     refine RS.p (Pu.assign rfl) rfl rfl ?_
     refine RS.nil (hK2 _ _ (T.conseq (fr' := [(6, _)]) ?_ ⟨rfl, trivial⟩ (fun _ s => s)))
     refine T.retTo (by with_reducible ((repeat (first | apply RetTo.seq | apply RetTo.blk)); exact RetTo.refl _)) (Cont.ret1 rfl rfl fun w' s => ?_)
     exact ⟨by first | exact bT (by unfold May; omega) | exact bF (by unfold May; omega) | exact bD (by unfold May; omega), s.ext⟩
   ·refine RS.no rfl rfl ?_
    refine RS.no rfl rfl ?_
    refine RS.p (Pu.pickF rfl rfl) rfl rfl ?_
    refine RS.p (Pu.move rfl) rfl rfl ?_
    refine RS.no rfl rfl ?_
    refine RS.no rfl rfl ?_
    refine RS.no rfl rfl ?_
    refine RS.no rfl rfl ?_
    refine RS.no rfl rfl ?_
    refine RS.no rfl rfl ?_
    refine RS.p (Pu.pickF rfl rfl) rfl rfl ?_
    refine RS.p (Pu.assign rfl) rfl rfl ?_
    refine RS.nil (hK2 _ _ (T.conseq (fr' := [(6, _)]) ?_ ⟨rfl, trivial⟩ (fun _ s => s)))
    refine T.retTo (by with_reducible ((repeat (first | apply RetTo.seq | apply RetTo.blk)); exact RetTo.refl _)) (Cont.ret1 rfl rfl fun w' s => ?_)
    exact ⟨by first | exact bT (by unfold May; omega) | exact bF (by unfold May; omega) | exact bD (by unfold May; omega), s.ext⟩
  ·refine RS.no rfl rfl ?_
   refine RS.no rfl rfl ?_
   refine RS.p (Pu.pickF rfl rfl) rfl rfl ?_
   refine RS.p (Pu.move rfl) rfl rfl ?_
   refine RS.no rfl rfl ?_
   refine RS.no rfl rfl ?_
   refine RS.p (Pu.pickF rfl rfl) rfl rfl ?_
   refine RS.p (Pu.move rfl) rfl rfl ?_
   refine RS.no rfl rfl ?_
   refine RS.no rfl rfl ?_
   refine RS.no rfl rfl ?_
   refine RS.no rfl rfl ?_
   refine RS.no rfl rfl ?_
   refine RS.no rfl rfl ?_
   refine RS.p (Pu.pickF rfl rfl) rfl rfl ?_
   refine RS.p (Pu.assign rfl) rfl rfl ?_
   refine RS.nil (hK2 _ _ (T.conseq (fr' := [(6, _)]) ?_ ⟨rfl, trivial⟩ (fun _ s => s)))
   refine T.retTo (by with_reducible ((repeat (first | apply RetTo.seq | apply RetTo.blk)); exact RetTo.refl _)) (Cont.ret1 rfl rfl fun w' s => ?_)
   exact ⟨by first | exact bT (by unfold May; omega) | exact bF (by unfold May; omega) | exact bD (by unfold May; omega), s.ext⟩
 ·refine RS.no rfl rfl ?_
  refine RS.no rfl rfl ?_
  refine RS.p (Pu.pickF rfl rfl) rfl rfl ?_
  refine RS.p (Pu.move rfl) rfl rfl ?_
  refine RS.no rfl rfl ?_
  refine RS.no rfl rfl ?_
  refine RS.p (Pu.pickF rfl rfl) rfl rfl ?_
  refine RS.p (Pu.move rfl) rfl rfl ?_
  refine RS.no rfl rfl ?_
  refine RS.no rfl rfl ?_
  refine RS.p (Pu.pickF rfl rfl) rfl rfl ?_
  refine RS.p (Pu.move rfl) rfl rfl ?_
  refine RS.no rfl rfl ?_
  refine RS.no rfl rfl ?_
  refine RS.no rfl rfl ?_
  refine RS.no rfl rfl ?_
  refine RS.no rfl rfl ?_
  refine RS.no rfl rfl ?_
  refine RS.p (Pu.pickF rfl rfl) rfl rfl ?_
  refine RS.p (Pu.assign rfl) rfl rfl ?_
  refine RS.nil (hK2 _ _ (T.conseq (fr' := [(6, _)]) ?_ ⟨rfl, trivial⟩ (fun _ s => s)))
  refine T.retTo (by with_reducible ((repeat (first | apply RetTo.seq | apply RetTo.blk)); exact RetTo.refl _)) (Cont.ret1 rfl rfl fun w' s => ?_)
  exact ⟨by first | exact bT (by unfold May; omega) | exact bF (by unfold May; omega) | exact bD (by unfold May; omega), s.ext⟩
end Go.Proofs.Ytddicdmleeaihaa
