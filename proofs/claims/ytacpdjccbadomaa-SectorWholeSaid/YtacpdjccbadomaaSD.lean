/-
  The page's tiles beside one.
-/
import Derived.Test.YtacpdjccbadomaaRows
import Derived.Test.YtacpdjccbadomaaSC
set_option linter.unusedVariables false
set_option linter.unusedSimpArgs false
set_option maxRecDepth 20000
set_option maxHeartbeats 1000000
namespace Go.Proofs.Ytacpdjccbadomaa
open Go.Vg
open Enc (R)
open Sp
def bs1 (W H t : Int) : List Int := if 0 < t / W then [t - W] else []
def bs2 (W H t : Int) : List Int := bs1 W H t ++ if t % W < W - 1 then [t + 1] else []
def bs3 (W H t : Int) : List Int := bs2 W H t ++ if t / W < H - 1 then [t + W] else []
def bs4 (W H t : Int) : List Int := bs3 W H t ++ if 0 < t % W then [t - 1] else []
theorem len_bs1 (W H t : Int) : (bs1 W H t).length ≤ 1 := by unfold bs1; split <;> simp
theorem len_bs2 (W H t : Int) : (bs2 W H t).length ≤ 2 := by have := len_bs1 W H t; unfold bs2; rw [List.length_append]; split <;> simp <;> omega
theorem len_bs3 (W H t : Int) : (bs3 W H t).length ≤ 3 := by have := len_bs2 W H t; unfold bs3; rw [List.length_append]; split <;> simp <;> omega
theorem refBeside_calls (W H t : Int) (hW : 1 ≤ W ∧ W ≤ 128) (hH : 1 ≤ H ∧ H ≤ 128) (ht : 0 ≤ t ∧ t ≤ 4294967296) (w : World) : Calls Try.prog 57 #[.int .i64 W, .int .i64 H, .int .i64 t] w fun e w' => ∃ q : Option Nat × Nat, e = .returned (rowV q (bs4 W H t).length) ∧ Sat w [row nilH 3 (rowV q (bs4 W H t).length) (bs4 W H t)] w' := by
  refine T.enter (args := [.int .i64 W, .int .i64 H, .int .i64 t]) (S := Sat w []) Try.func57 rfl rfl (Sat.start w) ?_
  have hd := divmod hW.1 ht.1
  refine T.seq fun K1 hK1 => ?_
  refine T.region ?_
  refine RS.p (Pu.assign rfl) rfl rfl ?_
  refine RS.nil (hK1 _ _ ?_)
  refine T.seq fun K2 hK2 => ?_
  refine T.region ?_
  refine RS.p (Pu.assign rfl) rfl rfl ?_
  refine RS.nil (hK2 _ _ ?_)
  refine T.conseq (fr' := [(0, _), (1, _), (2, _), (7, rowV (none, 0) ([] : List Int).length)]) (S' := Sat w [row nilH 3 (rowV (none, 0) ([] : List Int).length) ([] : List Int)]) ?_ ⟨rfl, rfl, rfl, rfl, trivial⟩ (fun w s => s.addEmpty _ (fun p => .inl ⟨rfl, rfl⟩))
  refine T.seqJoinK (σ := List Int × (Option Nat × Nat)) [(0, _), (1, _), (2, _)] (fun ⟨l, q⟩ => [(7, rowV q l.length)]) (fun ⟨l, q⟩ => Sat w [row nilH 3 (rowV q l.length) l]) (fun ⟨l, q⟩ => l = bs1 W H t) ⟨rfl, rfl, rfl, trivial⟩ (fun ⟨l, q⟩ hJ3 => ?_) (fun K3 hK3 => ?_)
  · refine T.conseq (fr' := [(7, _), (0, _), (1, _), (2, _)]) ?_ ⟨rfl, rfl, rfl, rfl, trivial⟩ (fun _ s => s)
    try dsimp only at hJ3 ⊢
    have hlen : l.length ≤ 1 := by rw [hJ3]; exact len_bs1 W H t
    refine T.seqJoinK (σ := List Int × (Option Nat × Nat)) [(0, _), (1, _), (2, _)] (fun ⟨l, q⟩ => [(7, rowV q l.length)]) (fun ⟨l, q⟩ => Sat w [row nilH 3 (rowV q l.length) l]) (fun ⟨l, q⟩ => l = bs2 W H t) ⟨rfl, rfl, rfl, trivial⟩ (fun ⟨l, q⟩ hJ4 => ?_) (fun K4 hK4 => ?_)
    · refine T.conseq (fr' := [(7, _), (0, _), (1, _), (2, _)]) ?_ ⟨rfl, rfl, rfl, rfl, trivial⟩ (fun _ s => s)
      try dsimp only at hJ4 ⊢
      have hlen : l.length ≤ 2 := by rw [hJ4]; exact len_bs2 W H t
      refine T.seqJoinK (σ := List Int × (Option Nat × Nat)) [(0, _), (2, _)] (fun ⟨l, q⟩ => [(7, rowV q l.length)]) (fun ⟨l, q⟩ => Sat w [row nilH 3 (rowV q l.length) l]) (fun ⟨l, q⟩ => l = bs3 W H t) ⟨rfl, rfl, trivial⟩ (fun ⟨l, q⟩ hJ5 => ?_) (fun K5 hK5 => ?_)
      · refine T.conseq (fr' := [(7, _), (0, _), (2, _)]) ?_ ⟨rfl, rfl, rfl, trivial⟩ (fun _ s => s)
        try dsimp only at hJ5 ⊢
        have hlen : l.length ≤ 3 := by rw [hJ5]; exact len_bs3 W H t
        refine T.seqJoinK (σ := List Int × (Option Nat × Nat)) [] (fun ⟨l, q⟩ => [(7, rowV q l.length)]) (fun ⟨l, q⟩ => Sat w [row nilH 3 (rowV q l.length) l]) (fun ⟨l, q⟩ => l = bs4 W H t) trivial (fun ⟨l, q⟩ hJ6 => ?_) (fun K6 hK6 => ?_)
        · refine T.conseq (fr' := [(7, _)]) ?_ ⟨rfl, trivial⟩ (fun _ s => s)
          try dsimp only at hJ6 ⊢
          refine T.seq fun K7 hK7 => ?_
          refine T.region ?_
          refine RS.p (Pu.move rfl) rfl rfl ?_
          refine RS.p (Pu.assign rfl) rfl rfl ?_
          refine RS.nil (hK7 _ _ ?_)
          refine T.retTo (by with_reducible ((repeat (first | apply RetTo.seq | apply RetTo.blk)); exact RetTo.refl _)) (Cont.ret1 rfl rfl fun w' s => ?_)
          exact ⟨q, by rw [hJ6], by rw [← hJ6]; exact s⟩
        · refine T.seq fun K8 hK8 => ?_
          refine T.region ?_
          refine RS.p (Pu.move rfl) rfl rfl ?_
          refine RS.p (Pu.move rfl) rfl rfl ?_
          refine RS.p (Pu.remN rfl rfl (by omega)) rfl rfl ?_
          refine RS.p (Pu.bin rfl rfl rfl) rfl rfl ?_
          refine RS.nil (hK8 _ _ ?_)
          refine T.condP rfl (fun hc44 => ?_) (fun hc44 => ?_)
          · refine T.conseq (fr' := [(2, _), (7, _)]) ?_ ⟨rfl, rfl, trivial⟩ (fun _ s => s)
            refine T.region ?_
            refine RS.p (Pu.move rfl) rfl rfl ?_
            refine RS.p (Pu.move rfl) rfl rfl ?_
            refine RS.p (Pu.subS rfl rfl (by omega)) rfl rfl ?_
            refine RS.solid (Sd.litS (cs := [_]) sl26 zr3 rfl rfl rfl rfl rfl) rfl rfl fun b48 => ?_
            refine RS.solid (Sd.app1 (α := Int) 0 1 rfl rfl (nilH_lt _) sl26 zr3 rfl rfl rfl rfl (by omega) (by unfold maxLen; omega)) rfl rfl fun q49 => ?_
            refine RS.p (Pu.assign rfl) rfl rfl ?_
            refine RS.nil (hK6 _ _ (l ++ [t - 1], q49) (by show l ++ [t - 1] = bs4 W H t; rw [bs4, if_pos hc44, hJ5]) ⟨(by first | rfl | exact veq (by simp)), trivial⟩ (fun w2 s1 => by
              have s2 := s1.pick (G' := [_]) [0] (by decide) rfl
              rw [show l.length + 1 = (l ++ [t - 1]).length by simp] at s2
              exact s2))
          · refine T.skip (hK6 _ _ (l, q) (by show l = bs4 W H t; rw [bs4, if_neg hc44, List.append_nil, hJ5]) ⟨(by first | rfl | exact veq (by simp)), trivial⟩ (fun _ s => s))
      · refine T.seq fun K9 hK9 => ?_
        refine T.region ?_
        refine RS.p (Pu.move rfl) rfl rfl ?_
        refine RS.p (Pu.move rfl) rfl rfl ?_
        refine RS.p (Pu.quoN rfl rfl (by omega)) rfl rfl ?_
        refine RS.p (Pu.move rfl) rfl rfl ?_
        refine RS.p (Pu.subS rfl rfl (by omega)) rfl rfl ?_
        refine RS.p (Pu.bin rfl rfl rfl) rfl rfl ?_
        refine RS.nil (hK9 _ _ ?_)
        refine T.condP rfl (fun hc34 => ?_) (fun hc34 => ?_)
        · refine T.conseq (fr' := [(0, _), (2, _), (7, _)]) ?_ ⟨rfl, rfl, rfl, trivial⟩ (fun _ s => s)
          refine T.region ?_
          refine RS.p (Pu.move rfl) rfl rfl ?_
          refine RS.p (Pu.move rfl) rfl rfl ?_
          refine RS.p (Pu.move rfl) rfl rfl ?_
          refine RS.p (Pu.addS rfl rfl (by omega)) rfl rfl ?_
          refine RS.solid (Sd.litS (cs := [_]) sl26 zr3 rfl rfl rfl rfl rfl) rfl rfl fun b39 => ?_
          refine RS.solid (Sd.app1 (α := Int) 0 1 rfl rfl (nilH_lt _) sl26 zr3 rfl rfl rfl rfl (by omega) (by unfold maxLen; omega)) rfl rfl fun q40 => ?_
          refine RS.p (Pu.assign rfl) rfl rfl ?_
          refine RS.nil (hK5 _ _ (l ++ [t + W], q40) (by show l ++ [t + W] = bs3 W H t; rw [bs3, if_pos hc34, hJ4]) ⟨(by first | rfl | exact veq (by simp)), rfl, rfl, trivial⟩ (fun w2 s1 => by
            have s2 := s1.pick (G' := [_]) [0] (by decide) rfl
            rw [show l.length + 1 = (l ++ [t + W]).length by simp] at s2
            exact s2))
        · refine T.skip (hK5 _ _ (l, q) (by show l = bs3 W H t; rw [bs3, if_neg hc34, List.append_nil, hJ4]) ⟨(by first | rfl | exact veq (by simp)), rfl, rfl, trivial⟩ (fun _ s => s))
    · refine T.seq fun K10 hK10 => ?_
      refine T.region ?_
      refine RS.p (Pu.move rfl) rfl rfl ?_
      refine RS.p (Pu.move rfl) rfl rfl ?_
      refine RS.p (Pu.remN rfl rfl (by omega)) rfl rfl ?_
      refine RS.p (Pu.move rfl) rfl rfl ?_
      refine RS.p (Pu.subS rfl rfl (by omega)) rfl rfl ?_
      refine RS.p (Pu.bin rfl rfl rfl) rfl rfl ?_
      refine RS.nil (hK10 _ _ ?_)
      refine T.condP rfl (fun hc23 => ?_) (fun hc23 => ?_)
      · refine T.conseq (fr' := [(0, _), (1, _), (2, _), (7, _)]) ?_ ⟨rfl, rfl, rfl, rfl, trivial⟩ (fun _ s => s)
        refine T.region ?_
        refine RS.p (Pu.move rfl) rfl rfl ?_
        refine RS.p (Pu.move rfl) rfl rfl ?_
        refine RS.p (Pu.addS rfl rfl (by omega)) rfl rfl ?_
        refine RS.solid (Sd.litS (cs := [_]) sl26 zr3 rfl rfl rfl rfl rfl) rfl rfl fun b27 => ?_
        refine RS.solid (Sd.app1 (α := Int) 0 1 rfl rfl (nilH_lt _) sl26 zr3 rfl rfl rfl rfl (by omega) (by unfold maxLen; omega)) rfl rfl fun q28 => ?_
        refine RS.p (Pu.assign rfl) rfl rfl ?_
        refine RS.nil (hK4 _ _ (l ++ [t + 1], q28) (by show l ++ [t + 1] = bs2 W H t; rw [bs2, if_pos hc23, hJ3]) ⟨(by first | rfl | exact veq (by simp)), rfl, rfl, rfl, trivial⟩ (fun w2 s1 => by
          have s2 := s1.pick (G' := [_]) [0] (by decide) rfl
          rw [show l.length + 1 = (l ++ [t + 1]).length by simp] at s2
          exact s2))
      · refine T.skip (hK4 _ _ (l, q) (by show l = bs2 W H t; rw [bs2, if_neg hc23, List.append_nil, hJ3]) ⟨(by first | rfl | exact veq (by simp)), rfl, rfl, rfl, trivial⟩ (fun _ s => s))
  · refine T.seq fun K11 hK11 => ?_
    refine T.region ?_
    refine RS.p (Pu.move rfl) rfl rfl ?_
    refine RS.p (Pu.move rfl) rfl rfl ?_
    refine RS.p (Pu.quoN rfl rfl (by omega)) rfl rfl ?_
    refine RS.p (Pu.bin rfl rfl rfl) rfl rfl ?_
    refine RS.nil (hK11 _ _ ?_)
    refine T.condP rfl (fun hc11 => ?_) (fun hc11 => ?_)
    · refine T.conseq (fr' := [(0, _), (1, _), (2, _), (7, _)]) ?_ ⟨rfl, rfl, rfl, rfl, trivial⟩ (fun _ s => s)
      refine T.region ?_
      refine RS.p (Pu.move rfl) rfl rfl ?_
      refine RS.p (Pu.move rfl) rfl rfl ?_
      refine RS.p (Pu.move rfl) rfl rfl ?_
      refine RS.p (Pu.subS rfl rfl (by omega)) rfl rfl ?_
      refine RS.solid (Sd.litS (cs := [_]) sl26 zr3 rfl rfl rfl rfl rfl) rfl rfl fun b16 => ?_
      refine RS.solid (Sd.app1 (α := Int) 0 1 rfl rfl (nilH_lt _) sl26 zr3 rfl rfl rfl rfl (by simp) (by simp; unfold maxLen; omega)) rfl rfl fun q17 => ?_
      refine RS.p (Pu.assign rfl) rfl rfl ?_
      refine RS.nil (hK3 _ _ (([] : List Int) ++ [t - W], q17) (by show ([] : List Int) ++ [t - W] = bs1 W H t; rw [bs1, if_pos hc11]; rfl) ⟨(by first | rfl | exact veq (by simp)), rfl, rfl, rfl, trivial⟩ (fun w2 s1 => by
        have s2 := s1.pick (G' := [_]) [0] (by decide) rfl
        rw [show ([] : List Int).length + 1 = (([] : List Int) ++ [t - W]).length by simp] at s2
        exact s2))
    · refine T.skip (hK3 _ _ (([] : List Int), (none, 0)) (by show ([] : List Int) = bs1 W H t; rw [bs1, if_neg hc11]) ⟨(by first | rfl | exact veq (by simp)), rfl, rfl, rfl, trivial⟩ (fun _ s => s))
end Go.Proofs.Ytacpdjccbadomaa
