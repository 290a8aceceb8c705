/-
  The statements' argument: sides, what is free, tiles, parts.
-/
import Derived.Test.YtacpdjccbadomaaRows
import Derived.Test.YtacpdjccbadomaaSB
import Derived.Test.YtacpdjccbadomaaVH
set_option linter.unusedVariables false
set_option linter.unusedSimpArgs false
set_option maxRecDepth 20000
set_option maxHeartbeats 1000000
namespace Go.Proofs.Ytacpdjccbadomaa
open Go.Vg
open Enc (R)
open Sp
theorem co26 : Try.prog.cellsOf 26 = 1 := by kernel_rfl
theorem co3 : Try.prog.cellsOf 3 = 1 := by kernel_rfl
theorem co39 : Try.prog.cellsOf 39 = 1 := by kernel_rfl
theorem co4 : Try.prog.cellsOf 4 = 1 := by kernel_rfl
theorem co41 : Try.prog.cellsOf 41 = 5 := by kernel_rfl
theorem ent56 : Ent Try.prog 56 := ⟨_, _, Try.func56, by kernel_rfl, rfl⟩
theorem fd41_0 : fdOff Try.prog 41 0 = some 0 := by kernel_rfl
theorem fd41_1 : fdOff Try.prog 41 1 = some 1 := by kernel_rfl
theorem fd41_2 : fdOff Try.prog 41 2 = some 2 := by kernel_rfl
theorem fd41_3 : fdOff Try.prog 41 3 = some 3 := by kernel_rfl
theorem fd41_4 : fdOff Try.prog 41 4 = some 4 := by kernel_rfl
theorem ty26 : tySz Try.prog 26 = some (1, false) := by kernel_rfl
theorem ty39 : tySz Try.prog 39 = some (1, false) := by kernel_rfl
theorem uf41 : structOf Try.prog 41 = some [(3, 0), (3, 1), (39, 2), (26, 3), (26, 4)] := by kernel_rfl
theorem ul3 : Try.prog.underlying 3 = some (.int .i64) := by kernel_rfl
theorem usl26 : Try.prog.underlying 26 = some (.slice 3) := by kernel_rfl
theorem usl39 : Try.prog.underlying 39 = some (.slice 4) := by kernel_rfl
structure Ask where
  W : Int
  H : Int
  Free : List Bool
  Ts : List Int
  Parts : List Int
  deriving Inhabited
instance : Enc Ask where
  sz := 5
  R h x cs := ∃ v2 v3 v4, cs = [.int .i64 x.W, .int .i64 x.H, v2, v3, v4] ∧ Enc.R h (x.Free : List Bool) [v2] ∧ Enc.R h (x.Ts : List Int) [v3] ∧ Enc.R h (x.Parts : List Int) [v4]
  len := fun ⟨v2, v3, v4, e, h2, h3, h4⟩ => by rw [e]; rfl
  one := fun ⟨v2, v3, v4, e, h2, h3, h4⟩ u hu => by
    rw [e] at hu; simp only [List.mem_cons, List.not_mem_nil, or_false] at hu
    rcases hu with rfl | rfl | rfl | rfl | rfl
    · rfl
    · rfl
    · exact Enc.one h2 _ (by simp)
    · exact Enc.one h3 _ (by simp)
    · exact Enc.one h4 _ (by simp)
  mono := fun hl ⟨v2, v3, v4, e, h2, h3, h4⟩ => ⟨v2, v3, v4, e, Enc.mono hl h2, Enc.mono hl h3, Enc.mono hl h4⟩
def Ask.Wf (x : Ask) : Prop := (I64 x.W) ∧ (I64 x.H) ∧ (∀ y ∈ x.Ts, I64 y) ∧ (∀ y ∈ x.Parts, I64 y)
theorem rd_Ask : Rdbl Try.prog 41 Ask Ask.Wf := fun H enc w fuel cs x h => by
  obtain ⟨fs, hu, hfs⟩ := structOf_spec uf41
  obtain ⟨hl, m, hf⟩ := trod_field hu h
  obtain ⟨f0, hf0, ht0, ho0⟩ : ∃ f, fs[0]? = some f ∧ f.type = 3 ∧ f.offset = 0 := by
    have h1 : (fs.toList.map (fun f => (f.type, f.offset)))[0]? = some (3, 0) := by rw [hfs]; rfl
    rw [List.getElem?_map, Option.map_eq_some_iff] at h1
    obtain ⟨f, h2, h3⟩ := h1
    simp only [Prod.mk.injEq] at h3
    exact ⟨f, by simpa using h2, h3.1, h3.2⟩
  obtain ⟨y0, hy0⟩ := hf 0 f0 hf0
  rw [ht0, ho0, co3] at hy0
  obtain ⟨a0, ha0, hw0⟩ := Rdbl.part (Rdbl.int ul3) hy0
  obtain ⟨f1, hf1, ht1, ho1⟩ : ∃ f, fs[1]? = some f ∧ f.type = 3 ∧ f.offset = 1 := by
    have h1 : (fs.toList.map (fun f => (f.type, f.offset)))[1]? = some (3, 1) := by rw [hfs]; rfl
    rw [List.getElem?_map, Option.map_eq_some_iff] at h1
    obtain ⟨f, h2, h3⟩ := h1
    simp only [Prod.mk.injEq] at h3
    exact ⟨f, by simpa using h2, h3.1, h3.2⟩
  obtain ⟨y1, hy1⟩ := hf 1 f1 hf1
  rw [ht1, ho1, co3] at hy1
  obtain ⟨a1, ha1, hw1⟩ := Rdbl.part (Rdbl.int ul3) hy1
  obtain ⟨f2, hf2, ht2, ho2⟩ : ∃ f, fs[2]? = some f ∧ f.type = 39 ∧ f.offset = 2 := by
    have h1 : (fs.toList.map (fun f => (f.type, f.offset)))[2]? = some (39, 2) := by rw [hfs]; rfl
    rw [List.getElem?_map, Option.map_eq_some_iff] at h1
    obtain ⟨f, h2, h3⟩ := h1
    simp only [Prod.mk.injEq] at h3
    exact ⟨f, by simpa using h2, h3.1, h3.2⟩
  obtain ⟨y2, hy2⟩ := hf 2 f2 hf2
  rw [ht2, ho2, co39] at hy2
  obtain ⟨a2, ha2, hw2⟩ := Rdbl.part (Rdbl.slice usl39 co4 (by decide) (Rdbl.bool ul4)) hy2
  obtain ⟨f3, hf3, ht3, ho3⟩ : ∃ f, fs[3]? = some f ∧ f.type = 26 ∧ f.offset = 3 := by
    have h1 : (fs.toList.map (fun f => (f.type, f.offset)))[3]? = some (26, 3) := by rw [hfs]; rfl
    rw [List.getElem?_map, Option.map_eq_some_iff] at h1
    obtain ⟨f, h2, h3⟩ := h1
    simp only [Prod.mk.injEq] at h3
    exact ⟨f, by simpa using h2, h3.1, h3.2⟩
  obtain ⟨y3, hy3⟩ := hf 3 f3 hf3
  rw [ht3, ho3, co26] at hy3
  obtain ⟨a3, ha3, hw3⟩ := Rdbl.part (Rdbl.slice usl26 co3 (by decide) (Rdbl.int ul3)) hy3
  obtain ⟨f4, hf4, ht4, ho4⟩ : ∃ f, fs[4]? = some f ∧ f.type = 26 ∧ f.offset = 4 := by
    have h1 : (fs.toList.map (fun f => (f.type, f.offset)))[4]? = some (26, 4) := by rw [hfs]; rfl
    rw [List.getElem?_map, Option.map_eq_some_iff] at h1
    obtain ⟨f, h2, h3⟩ := h1
    simp only [Prod.mk.injEq] at h3
    exact ⟨f, by simpa using h2, h3.1, h3.2⟩
  obtain ⟨y4, hy4⟩ := hf 4 f4 hf4
  rw [ht4, ho4, co26] at hy4
  obtain ⟨a4, ha4, hw4⟩ := Rdbl.part (Rdbl.slice usl26 co3 (by decide) (Rdbl.int ul3)) hy4
  rw [co41] at hl
  obtain ⟨x0, x1, x2, x3, x4, rfl⟩ : ∃ x0 x1 x2 x3 x4, cs = [x0, x1, x2, x3, x4] := by
    match cs, hl with
    | [x0, x1, x2, x3, x4], _ => exact ⟨x0, x1, x2, x3, x4, rfl⟩
  simp only [List.drop_succ_cons, List.drop_zero, List.take_succ_cons, List.take_zero] at ha0 ha1 ha2 ha3 ha4
  obtain rfl : x0 = _ := by simpa [Enc.R] using ha0
  obtain rfl : x1 = _ := by simpa [Enc.R] using ha1
  exact ⟨⟨a0, a1, a2, a3, a4⟩, ⟨_, _, _, rfl, ha2, ha3, ha4⟩, ⟨hw0, hw1, hw3, hw4⟩⟩
theorem heavy_calls {W H : Int} {pa pb pc : Option Addr} {la ca lb cb lc cc : Nat} (w : World) : Calls Try.prog 23 #[.agg #[.int .i64 W, .int .i64 H, .slice pa la ca, .slice pb lb cb, .slice pc lc cc]] w fun e w' => e = .returned (.bool (decide (900 < (la : Int) ∨ 60 < (lb : Int) ∨ 2000 < (lc : Int)))) ∧ Ext w w' := by
  refine T.enter (args := [.agg #[.int .i64 W, .int .i64 H, .slice pa la ca, .slice pb lb cb, .slice pc lc cc]]) (S := Sat w []) Try.func23 rfl rfl (Sat.start w) ?_
  refine T.seq fun K1 hK1 => ?_
  refine T.region ?_
  refine RS.solid (Sd.box (cs := [_, _, _, _, _]) rfl rfl) rfl rfl fun b1 => ?_
  refine RS.p (Pu.assign rfl) rfl rfl ?_
  refine RS.nil (hK1 _ _ ?_)
  refine T.seq fun K2 hK2 => ?_
  refine T.region ?_
  refine RS.p (Pu.fieldAddr fd41_2 rfl) rfl rfl ?_
  refine RS.q (Qt.ldB 0 ty39 rfl rfl rfl) rfl rfl ?_
  refine RS.p (Pu.lenSl sl39 rfl) rfl rfl ?_
  refine RS.p (Pu.bin rfl rfl rfl) rfl rfl ?_
  refine RS.p (Pu.move rfl) rfl rfl ?_
  refine RS.splitP 7 rfl (fun h7 => ?_) (fun h7 => ?_)
  · refine RS.no rfl rfl ?_
    refine RS.no rfl rfl ?_
    refine RS.no rfl rfl ?_
    refine RS.no rfl rfl ?_
    refine RS.p (Pu.pickT rfl rfl) rfl rfl ?_
    refine RS.p (Pu.move rfl) rfl rfl ?_
    refine RS.no rfl rfl ?_
    refine RS.no rfl rfl ?_
    refine RS.no rfl rfl ?_
    refine RS.no rfl rfl ?_
    refine RS.p (Pu.pickT rfl rfl) rfl rfl ?_
    refine RS.p (Pu.assign rfl) rfl rfl ?_
    refine RS.nil (hK2 _ _ (T.conseq (fr' := [(2, _)]) ?_ ⟨rfl, trivial⟩ (fun _ s => s)))
    refine T.retTo (by with_reducible ((repeat (first | apply RetTo.seq | apply RetTo.blk)); exact RetTo.refl _)) (Cont.ret1 rfl rfl fun w' s => ?_)
    exact ⟨by first | exact bT (by omega) | exact bF (by omega) | exact bD (by omega), s.ext⟩
  · refine RS.p (Pu.fieldAddr fd41_3 rfl) rfl rfl ?_
    refine RS.q (Qt.ldB 0 ty26 rfl rfl rfl) rfl rfl ?_
    refine RS.p (Pu.lenSl sl26 rfl) rfl rfl ?_
    refine RS.p (Pu.bin rfl rfl rfl) rfl rfl ?_
    refine RS.p (Pu.pickF rfl rfl) rfl rfl ?_
    refine RS.p (Pu.move rfl) rfl rfl ?_
    refine RS.splitP 13 rfl (fun h13 => ?_) (fun h13 => ?_)
    · refine RS.no rfl rfl ?_
      refine RS.no rfl rfl ?_
      refine RS.no rfl rfl ?_
      refine RS.no rfl rfl ?_
      refine RS.p (Pu.pickT rfl rfl) rfl rfl ?_
      refine RS.p (Pu.assign rfl) rfl rfl ?_
      refine RS.nil (hK2 _ _ (T.conseq (fr' := [(2, _)]) ?_ ⟨rfl, trivial⟩ (fun _ s => s)))
      refine T.retTo (by with_reducible ((repeat (first | apply RetTo.seq | apply RetTo.blk)); exact RetTo.refl _)) (Cont.ret1 rfl rfl fun w' s => ?_)
      exact ⟨by first | exact bT (by omega) | exact bF (by omega) | exact bD (by omega), s.ext⟩
    · refine RS.p (Pu.fieldAddr fd41_4 rfl) rfl rfl ?_
      refine RS.q (Qt.ldB 0 ty26 rfl rfl rfl) rfl rfl ?_
      refine RS.p (Pu.lenSl sl26 rfl) rfl rfl ?_
      refine RS.p (Pu.bin rfl rfl rfl) rfl rfl ?_
      refine RS.p (Pu.pickF rfl rfl) rfl rfl ?_
      refine RS.p (Pu.assign rfl) rfl rfl ?_
      refine RS.nil (hK2 _ _ (T.conseq (fr' := [(2, _)]) ?_ ⟨rfl, trivial⟩ (fun _ s => s)))
      refine T.retTo (by with_reducible ((repeat (first | apply RetTo.seq | apply RetTo.blk)); exact RetTo.refl _)) (Cont.ret1 rfl rfl fun w' s => ?_)
      exact ⟨by first | exact bT (by omega) | exact bF (by omega) | exact bD (by omega), s.ext⟩
theorem refMay_calls {W H : Int} {pa : Option Addr} {la ca : Nat} (w : World) : Calls Try.prog 56 #[.int .i64 W, .int .i64 H, .slice pa la ca] w fun e w' => e = .returned (.bool (decide (May W H ∧ (la : Int) = W * H))) ∧ Ext w w' := by
  refine T.enter (args := [.int .i64 W, .int .i64 H, .slice pa la ca]) (S := Sat w []) Try.func56 rfl rfl (Sat.start w) ?_
  refine T.seq fun K1 hK1 => ?_
  refine T.region ?_
  refine RS.p (Pu.assign rfl) rfl rfl ?_
  refine RS.nil (hK1 _ _ ?_)
  refine T.seq fun K2 hK2 => ?_
  refine T.region ?_
  refine RS.p (Pu.move rfl) rfl rfl ?_
  refine RS.p (Pu.bin rfl rfl rfl) rfl rfl ?_
  refine RS.p (Pu.move rfl) rfl rfl ?_
  refine RS.splitP 9 rfl (fun h9 => ?_) (fun h9 => ?_)
  · refine RS.p (Pu.move rfl) rfl rfl ?_
    refine RS.p (Pu.bin rfl rfl rfl) rfl rfl ?_
    refine RS.p (Pu.pickT rfl rfl) rfl rfl ?_
    refine RS.p (Pu.move rfl) rfl rfl ?_
    refine RS.splitP 13 rfl (fun h13 => ?_) (fun h13 => ?_)
    · refine RS.p (Pu.move rfl) rfl rfl ?_
      refine RS.p (Pu.bin rfl rfl rfl) rfl rfl ?_
      refine RS.p (Pu.pickT rfl rfl) rfl rfl ?_
      refine RS.p (Pu.move rfl) rfl rfl ?_
      refine RS.splitP 17 rfl (fun h17 => ?_) (fun h17 => ?_)
      · refine RS.p (Pu.move rfl) rfl rfl ?_
        refine RS.p (Pu.bin rfl rfl rfl) rfl rfl ?_
        refine RS.p (Pu.pickT rfl rfl) rfl rfl ?_
        refine RS.p (Pu.move rfl) rfl rfl ?_
        refine RS.splitP 21 rfl (fun h21 => ?_) (fun h21 => ?_)
        · have hm := mul_bd (a := W) (b := H) (A := 128) (B := 128) (by omega) (by omega)
          refine RS.p (Pu.move rfl) rfl rfl ?_
          refine RS.p (Pu.lenSl sl39 rfl) rfl rfl ?_
          refine RS.p (Pu.move rfl) rfl rfl ?_
          refine RS.p (Pu.move rfl) rfl rfl ?_
          refine RS.p (Pu.mulS rfl rfl (by omega)) rfl rfl ?_
          refine RS.p (Pu.bin rfl rfl rfl) rfl rfl ?_
          refine RS.p (Pu.pickT rfl rfl) rfl rfl ?_
          refine RS.p (Pu.assign rfl) rfl rfl ?_
          refine RS.nil (hK2 _ _ (T.conseq (fr' := [(6, _)]) ?_ ⟨rfl, trivial⟩ (fun _ s => s)))
          refine T.retTo (by with_reducible ((repeat (first | apply RetTo.seq | apply RetTo.blk)); exact RetTo.refl _)) (Cont.ret1 rfl rfl fun w' s => ?_)
          exact ⟨by first | exact bT (by unfold May; omega) | exact bF (by unfold May; omega) | exact bD (by unfold May; omega), s.ext⟩
        · refine RS.no rfl rfl ?_
          refine RS.no rfl rfl ?_
          refine RS.no rfl rfl ?_
          refine RS.no rfl rfl ?_
          refine RS.no rfl rfl ?_
          refine RS.no rfl rfl ?_
          refine RS.p (Pu.pickF rfl rfl) rfl rfl ?_
          refine RS.p (Pu.assign rfl) rfl rfl ?_
          refine RS.nil (hK2 _ _ (T.conseq (fr' := [(6, _)]) ?_ ⟨rfl, trivial⟩ (fun _ s => s)))
          refine T.retTo (by with_reducible ((repeat (first | apply RetTo.seq | apply RetTo.blk)); exact RetTo.refl _)) (Cont.ret1 rfl rfl fun w' s => ?_)
          exact ⟨by first | exact bT (by unfold May; omega) | exact bF (by unfold May; omega) | exact bD (by unfold May; omega), s.ext⟩
      · refine RS.no rfl rfl ?_
        refine RS.no rfl rfl ?_
        refine RS.p (Pu.pickF rfl rfl) rfl rfl ?_
        refine RS.p (Pu.move rfl) rfl rfl ?_
        refine RS.no rfl rfl ?_
        refine RS.no rfl rfl ?_
        refine RS.no rfl rfl ?_
        refine RS.no rfl rfl ?_
        refine RS.no rfl rfl ?_
        refine RS.no rfl rfl ?_
        refine RS.p (Pu.pickF rfl rfl) rfl rfl ?_
        refine RS.p (Pu.assign rfl) rfl rfl ?_
        refine RS.nil (hK2 _ _ (T.conseq (fr' := [(6, _)]) ?_ ⟨rfl, trivial⟩ (fun _ s => s)))
        refine T.retTo (by with_reducible ((repeat (first | apply RetTo.seq | apply RetTo.blk)); exact RetTo.refl _)) (Cont.ret1 rfl rfl fun w' s => ?_)
        exact ⟨by first | exact bT (by unfold May; omega) | exact bF (by unfold May; omega) | exact bD (by unfold May; omega), s.ext⟩
    · refine RS.no rfl rfl ?_
      refine RS.no rfl rfl ?_
      refine RS.p (Pu.pickF rfl rfl) rfl rfl ?_
      refine RS.p (Pu.move rfl) rfl rfl ?_
      refine RS.no rfl rfl ?_
      refine RS.no rfl rfl ?_
      refine RS.p (Pu.pickF rfl rfl) rfl rfl ?_
      refine RS.p (Pu.move rfl) rfl rfl ?_
      refine RS.no rfl rfl ?_
      refine RS.no rfl rfl ?_
      refine RS.no rfl rfl ?_
      refine RS.no rfl rfl ?_
      refine RS.no rfl rfl ?_
      refine RS.no rfl rfl ?_
      refine RS.p (Pu.pickF rfl rfl) rfl rfl ?_
      refine RS.p (Pu.assign rfl) rfl rfl ?_
      refine RS.nil (hK2 _ _ (T.conseq (fr' := [(6, _)]) ?_ ⟨rfl, trivial⟩ (fun _ s => s)))
      refine T.retTo (by with_reducible ((repeat (first | apply RetTo.seq | apply RetTo.blk)); exact RetTo.refl _)) (Cont.ret1 rfl rfl fun w' s => ?_)
      exact ⟨by first | exact bT (by unfold May; omega) | exact bF (by unfold May; omega) | exact bD (by unfold May; omega), s.ext⟩
  · refine RS.no rfl rfl ?_
    refine RS.no rfl rfl ?_
    refine RS.p (Pu.pickF rfl rfl) rfl rfl ?_
    refine RS.p (Pu.move rfl) rfl rfl ?_
    refine RS.no rfl rfl ?_
    refine RS.no rfl rfl ?_
    refine RS.p (Pu.pickF rfl rfl) rfl rfl ?_
    refine RS.p (Pu.move rfl) rfl rfl ?_
    refine RS.no rfl rfl ?_
    refine RS.no rfl rfl ?_
    refine RS.p (Pu.pickF rfl rfl) rfl rfl ?_
    refine RS.p (Pu.move rfl) rfl rfl ?_
    refine RS.no rfl rfl ?_
    refine RS.no rfl rfl ?_
    refine RS.no rfl rfl ?_
    refine RS.no rfl rfl ?_
    refine RS.no rfl rfl ?_
    refine RS.no rfl rfl ?_
    refine RS.p (Pu.pickF rfl rfl) rfl rfl ?_
    refine RS.p (Pu.assign rfl) rfl rfl ?_
    refine RS.nil (hK2 _ _ (T.conseq (fr' := [(6, _)]) ?_ ⟨rfl, trivial⟩ (fun _ s => s)))
    refine T.retTo (by with_reducible ((repeat (first | apply RetTo.seq | apply RetTo.blk)); exact RetTo.refl _)) (Cont.ret1 rfl rfl fun w' s => ?_)
    exact ⟨by first | exact bT (by unfold May; omega) | exact bF (by unfold May; omega) | exact bD (by unfold May; omega), s.ext⟩
theorem form_calls {W H : Int} {pa pb pc : Option Addr} {la ca lb cb lc cc : Nat} (w : World) : Calls Try.prog 24 #[.agg #[.int .i64 W, .int .i64 H, .slice pa la ca, .slice pb lb cb, .slice pc lc cc]] w fun e w' => e = .returned (.int .i64 (if May W H ∧ (la : Int) = W * H then 0 else 1)) ∧ Ext w w' := by
  refine T.enter (args := [.agg #[.int .i64 W, .int .i64 H, .slice pa la ca, .slice pb lb cb, .slice pc lc cc]]) (S := Sat w []) Try.func24 rfl rfl (Sat.start w) ?_
  refine T.seq fun K1 hK1 => ?_
  refine T.region ?_
  refine RS.solid (Sd.box (cs := [_, _, _, _, _]) rfl rfl) rfl rfl fun b1 => ?_
  refine RS.p (Pu.assign rfl) rfl rfl ?_
  refine RS.nil (hK1 _ _ ?_)
  refine T.seq fun K2 hK2 => ?_
  refine T.seq fun K3 hK3 => ?_
  refine T.region ?_
  refine RS.p (Pu.fieldAddr fd41_0 rfl) rfl rfl ?_
  refine RS.q (Qt.ldB 0 ty3 rfl rfl rfl) rfl rfl ?_
  refine RS.p (Pu.fieldAddr fd41_1 rfl) rfl rfl ?_
  refine RS.q (Qt.ldB 0 ty3 rfl rfl rfl) rfl rfl ?_
  refine RS.p (Pu.fieldAddr fd41_2 rfl) rfl rfl ?_
  refine RS.q (Qt.ldB 0 ty39 rfl rfl rfl) rfl rfl ?_
  refine RS.q (Qt.call ent56 rfl fun w _s => refMay_calls _) rfl rfl ?_
  refine RS.nil (hK3 _ _ ?_)
  refine T.condP rfl (fun hc => ?_) (fun hc => ?_)
  · refine T.conseq (fr' := []) ?_ trivial (fun _ s => s)
    refine T.seq fun K4 hK4 => ?_
    refine T.region ?_
    refine RS.p (Pu.assign rfl) rfl rfl ?_
    refine RS.nil (hK4 _ _ ?_)
    refine T.retTo (by with_reducible ((repeat (first | apply RetTo.seq | apply RetTo.blk)); exact RetTo.refl _)) (Cont.ret1 rfl rfl fun w' s => ?_)
    exact ⟨by rw [if_pos hc], s.ext⟩
  · refine T.skip (hK2 _ _ (T.conseq (fr' := []) ?_ trivial (fun _ s => s)))
    refine T.seq fun K5 hK5 => ?_
    refine T.region ?_
    refine RS.p (Pu.assign rfl) rfl rfl ?_
    refine RS.nil (hK5 _ _ ?_)
    refine T.retTo (by with_reducible ((repeat (first | apply RetTo.seq | apply RetTo.blk)); exact RetTo.refl _)) (Cont.ret1 rfl rfl fun w' s => ?_)
    exact ⟨by rw [if_neg hc], s.ext⟩
end Go.Proofs.Ytacpdjccbadomaa
