/-
  The walk of sector.Tiles.
-/
import Derived.Test.YtddicdmleeaihaaRows
import Derived.Test.YtddicdmleeaihaaSA
import Derived.Test.YtddicdmleeaihaaST
set_option linter.unusedVariables false
set_option linter.unusedSimpArgs false
set_option maxRecDepth 20000
set_option maxHeartbeats 4000000
namespace Go.Proofs.Ytddicdmleeaihaa
open Go.Vg
open Enc (R)
open Sp
theorem sl23 : slTy Try.prog 23 = some (3, 1, 8) := by kernel_rfl
theorem zr3 : zeroOf Try.prog 3 = some (.int .i64 0) := by kernel_rfl
theorem tiles_calls (W H s : Int) (hW : 1 ≤ W ∧ W ≤ 128) (hH : 1 ≤ H ∧ H ≤ 128) (hs : 0 ≤ s ∧ s < acr W * acr H) (w : World) : Calls Try.prog 38 #[.int .i64 W, .int .i64 H, .int .i64 s] w fun e w' => ∃ i : { x : List Int × (Option Nat × Nat) // TilesOk W H s x.1 }, e = .returned (rowV i.1.2 i.1.1.length) ∧ Sat w [row nilH 3 (rowV i.1.2 i.1.1.length) i.1.1] w' := by
 refine T.enter (args := [.int .i64 W, .int .i64 H, .int .i64 s]) (S := Sat w []) Try.func38 rfl rfl (Sat.start w) ?_
 have ha : 1 ≤ acr W ∧ acr W ≤ 16 ∧ acr W * 8 < W + 8 := by unfold acr; omega
 have hb : 1 ≤ acr H ∧ acr H ≤ 16 ∧ acr H * 8 < H + 8 := by unfold acr; omega
 have hab := mul_bd (a := acr W) (b := acr H) (A := 16) (B := 16) (by omega) (by omega)
 have hr1 := Int.emod_nonneg s (show acr W ≠ 0 by omega)
 have hr2 := Int.emod_lt_of_pos s (show 0 < acr W by omega)
 have hq1 : 0 ≤ s / acr W := Int.ediv_nonneg hs.1 (by omega)
 have hq2 : s / acr W < acr H := Int.ediv_lt_of_lt_mul (by omega) (by rw [Int.mul_comm]; exact hs.2)
 refine T.seq fun K1 hK1 => ?_
 refine T.region ?_
 refine RS.p (Pu.assign rfl) rfl rfl ?_
 refine RS.nil (hK1 _ _ ?_)
 refine T.seq fun K2 hK2 => ?_
 refine T.drawn (fun _ => True) [(0, .pu), (1, .pu), (2, .rd), (3, .pu), (4, .pu), (5, .pu), (6, .pu), (7, .rd), (8, .pu), (9, .pu), (10, .pu), (11, .pu)] mixed (ClE.sat _ _) (by kernel_rfl) ?_
 refine RD.p (fun _ _ => trivial) rfl (Pu.move rfl) rfl rfl ?_
 refine RD.p (fun _ _ => trivial) rfl (Pu.move rfl) rfl rfl ?_
 refine RD.q (fun _ _ => trivial) rfl (Qt.call ent26 rfl fun w _s => sector_across_calls _ (by omega) _) rfl rfl ?_
 refine RD.p (fun _ _ => trivial) rfl (Pu.remN rfl rfl (by omega)) rfl rfl ?_
 refine RD.p (fun _ _ => trivial) rfl (Pu.mulS rfl rfl (by omega)) rfl rfl ?_
 refine RD.p (fun _ _ => trivial) rfl (Pu.move rfl) rfl rfl ?_
 refine RD.p (fun _ _ => trivial) rfl (Pu.move rfl) rfl rfl ?_
 refine RD.q (fun _ _ => trivial) rfl (Qt.call ent26 rfl fun w _s => sector_across_calls _ (by omega) _) rfl rfl ?_
 refine RD.p (fun _ _ => trivial) rfl (Pu.quoN rfl rfl (by omega)) rfl rfl ?_
 refine RD.p (fun _ _ => trivial) rfl (Pu.mulS rfl rfl (by omega)) rfl rfl ?_
 refine RD.p (fun _ _ => trivial) rfl (Pu.assign rfl) rfl rfl ?_
 refine RD.p (fun _ _ => trivial) rfl (Pu.assign rfl) rfl rfl ?_
 refine RD.nil (hK2 _ _ (T.conseq (fr' := [(0, _), (1, _), (6, _), (7, _), (8, _)]) ?_ ⟨rfl, rfl, rfl, rfl, rfl, trivial⟩ (fun _ s => s)))
 refine T.seq fun K3 hK3 => ?_
 refine T.seq fun K4 hK4 => ?_
 obtain ⟨x0, hx0⟩ : ∃ x0, x0 = s % acr W * 8 := ⟨_, rfl⟩
 obtain ⟨y0, hy0⟩ : ∃ y0, y0 = s / acr W * 8 := ⟨_, rfl⟩
 rw [← hx0, ← hy0]
 have hxy : 0 ≤ x0 ∧ x0 < W ∧ 0 ≤ y0 ∧ y0 < H := by omega
 refine T.region ?_
 refine RS.p (Pu.move rfl) rfl rfl ?_
 refine RS.p (Pu.assign rfl) rfl rfl ?_
 refine RS.nil (hK4 _ _ ?_)
 refine T.block ?_
 refine T.loopK (σ := Int × List Int × (Option Nat × Nat)) [(0, _), (1, _), (7, _), (8, _)] (fun ⟨j, l, q⟩ => [(6, rowV q l.length), (9, .int .i64 j)]) (fun ⟨j, l, q⟩ => Sat w [row nilH 3 (rowV q l.length) l]) (fun ⟨j, l, q⟩ => y0 ≤ j ∧ j ≤ min (y0 + 8) H ∧ Sp.TI W x0 (min (x0 + 8) W) y0 j x0 l ∧ (l.length : Int) ≤ (j - y0) * 8) (fun ⟨j, l, q⟩ => (H - j).toNat) (y0, [], (none, 0)) (⟨by omega, by omega, TI.start, by simp⟩) ⟨rfl, rfl, rfl, rfl, trivial⟩ ⟨rfl, rfl, rfl, rfl, rfl, rfl, trivial⟩ (fun w s => s.addEmpty _ (fun p => .inl ⟨rfl, rfl⟩)) ?_
 intro ⟨j, l, q⟩ hI K4_ hL1
 refine T.conseq (fr' := [(6, _), (9, _), (0, _), (1, _), (7, _), (8, _)]) ?_ ⟨rfl, rfl, rfl, rfl, rfl, rfl, trivial⟩ (fun _ s => s)
 obtain ⟨hj0, hj1, htj, hlj⟩ := hI
 try dsimp only at hj0 hj1 htj hlj ⊢
 refine T.seq fun K5 hK5 => ?_
 refine T.seq fun K6 hK6 => ?_
 refine T.region ?_
 refine RS.p (Pu.move rfl) rfl rfl ?_
 refine RS.p (Pu.move rfl) rfl rfl ?_
 refine RS.p (Pu.addS rfl rfl (by omega)) rfl rfl ?_
 refine RS.p (Pu.move rfl) rfl rfl ?_
 refine RS.p (Pu.minI rfl rfl) rfl rfl ?_
 refine RS.p (Pu.bin rfl rfl rfl) rfl rfl ?_
 refine RS.nil (hK6 _ _ ?_)
 refine T.condP rfl (fun hc27 => ?_) (fun hc27 => ?_)
 ·refine T.skip (hK5 _ _ (T.conseq (fr' := [(0, _), (1, _), (6, _), (7, _), (8, _), (9, _)]) ?_ ⟨rfl, rfl, rfl, rfl, rfl, rfl, trivial⟩ (fun _ s => s)))
  refine T.seq fun K7 hK7 => ?_
  refine T.block ?_
  refine T.seq fun K8 hK8 => ?_
  refine T.region ?_
  refine RS.p (Pu.move rfl) rfl rfl ?_
  refine RS.p (Pu.assign rfl) rfl rfl ?_
  refine RS.nil (hK8 _ _ ?_)
  refine T.block ?_
  refine T.loopK (σ := Int × List Int × (Option Nat × Nat)) [(0, _), (1, _), (7, _), (8, _), (9, _)] (fun ⟨i, l2, q2⟩ => [(6, rowV q2 l2.length), (10, .int .i64 i)]) (fun ⟨i, l2, q2⟩ => Sat w [row nilH 3 (rowV q2 l2.length) l2]) (fun ⟨i, l2, q2⟩ => x0 ≤ i ∧ i ≤ min (x0 + 8) W ∧ Sp.TI W x0 (min (x0 + 8) W) y0 j i l2 ∧ (l2.length : Int) ≤ (j - y0) * 8 + (i - x0)) (fun ⟨i, l2, q2⟩ => (W - i).toNat) (x0, l, q) (⟨by omega, by omega, htj, by show (l.length : Int) ≤ _; omega⟩) ⟨rfl, rfl, rfl, rfl, rfl, trivial⟩ ⟨rfl, rfl, rfl, rfl, rfl, rfl, rfl, trivial⟩ (fun _ s => s) ?_
  intro ⟨i, l2, q2⟩ hI K8_ hL2
  refine T.conseq (fr' := [(6, _), (10, _), (0, _), (1, _), (7, _), (8, _), (9, _)]) ?_ ⟨rfl, rfl, rfl, rfl, rfl, rfl, rfl, trivial⟩ (fun _ s => s)
  obtain ⟨hi0, hi1, hti, hli⟩ := hI
  try dsimp only at hi0 hi1 hti hli ⊢
  have hmm := mul_bd (a := W) (b := j) (A := 128) (B := 128) (by omega) (by omega)
  refine T.seq fun K9 hK9 => ?_
  refine T.seq fun K10 hK10 => ?_
  refine T.region ?_
  refine RS.p (Pu.move rfl) rfl rfl ?_
  refine RS.p (Pu.move rfl) rfl rfl ?_
  refine RS.p (Pu.addS rfl rfl (by omega)) rfl rfl ?_
  refine RS.p (Pu.move rfl) rfl rfl ?_
  refine RS.p (Pu.minI rfl rfl) rfl rfl ?_
  refine RS.p (Pu.bin rfl rfl rfl) rfl rfl ?_
  refine RS.nil (hK10 _ _ ?_)
  refine T.condP rfl (fun hc36 => ?_) (fun hc36 => ?_)
  ·refine T.skip (hK9 _ _ (T.conseq (fr' := [(0, _), (1, _), (6, _), (7, _), (8, _), (9, _), (10, _)]) ?_ ⟨rfl, rfl, rfl, rfl, rfl, rfl, rfl, trivial⟩ (fun _ s => s)))
   refine T.seq fun K11 hK11 => ?_
   refine T.block ?_
   refine T.region ?_
   refine RS.p (Pu.move rfl) rfl rfl ?_
   refine RS.p (Pu.move rfl) rfl rfl ?_
   refine RS.p (Pu.move rfl) rfl rfl ?_
   refine RS.p (Pu.move rfl) rfl rfl ?_
   refine RS.p (Pu.mulS rfl rfl (by omega)) rfl rfl ?_
   refine RS.p (Pu.addS rfl rfl (by omega)) rfl rfl ?_
   refine RS.solid (Sd.litS (cs := [_]) sl23 zr3 rfl rfl rfl rfl rfl) rfl rfl fun b45 => ?_
   refine RS.solid (Sd.app1 (α := Int) 0 1 rfl rfl (nilH_lt _) sl23 zr3 rfl rfl rfl rfl (by omega) (by unfold maxLen; omega)) rfl rfl fun q46 => ?_
   refine RS.p (Pu.assign rfl) rfl rfl ?_
   refine RS.nil (hK11 _ _ (T.conseq (fr' := [(0, _), (1, _), (6, _), (7, _), (8, _), (9, _), (10, _)]) ?_ ⟨rfl, rfl, rfl, rfl, rfl, rfl, rfl, trivial⟩ (fun _ s => s)))
   refine T.region ?_
   refine RS.p (Pu.move rfl) rfl rfl ?_
   refine RS.p (Pu.addS rfl rfl (by omega)) rfl rfl ?_
   refine RS.p (Pu.assign rfl) rfl rfl ?_
   refine RS.nil (hL2 _ _ (i + 1, l2 ++ [i + W * j], q46) ⟨by omega, by omega, hti.step (by omega) (by omega), by simp only [List.length_append, List.length_cons, List.length_nil]; omega⟩ (by show (W - (i + 1)).toNat < (W - i).toNat; omega) ⟨veq (by simp), rfl, rfl, rfl, rfl, rfl, rfl, trivial⟩ (fun w2 s1 => by
    have s2 := s1.pick (G' := [_]) [0] (by decide) rfl
    rw [show l2.length + 1 = (l2 ++ [i + W * j]).length by simp] at s2
    exact s2))
  ·refine T.exitTo (by with_reducible (repeat (first | exact ExTo.here | exact ExTo.hereN | exact ExTo.deep (by repeat (first | exact NmTo.seq | apply NmTo.blk)) | apply ExTo.seq | refine ExTo.past (by decide) ?_))) (hK7 _ _ (T.conseq (fr' := [(0, _), (1, _), (6, _), (7, _), (8, _), (9, _)]) ?_ ⟨rfl, rfl, rfl, rfl, rfl, rfl, trivial⟩ (fun _ s => s)))
   refine T.region ?_
   refine RS.p (Pu.move rfl) rfl rfl ?_
   refine RS.p (Pu.addS rfl rfl (by omega)) rfl rfl ?_
   refine RS.p (Pu.assign rfl) rfl rfl ?_
   refine RS.nil (hL1 _ _ (j + 1, l2, q2) ⟨by omega, by omega, hti.skip (by omega), by omega⟩ (by show (H - (j + 1)).toNat < (H - j).toNat; omega) ⟨rfl, rfl, rfl, rfl, rfl, rfl, trivial⟩ (fun _ s => s))
 ·refine T.exitTo (by with_reducible (repeat (first | exact ExTo.here | exact ExTo.hereN | exact ExTo.deep (by repeat (first | exact NmTo.seq | apply NmTo.blk)) | apply ExTo.seq | refine ExTo.past (by decide) ?_))) (hK3 _ _ (T.conseq (fr' := [(6, _)]) ?_ ⟨rfl, trivial⟩ (fun _ s => s)))
  refine T.seq fun K12 hK12 => ?_
  refine T.region ?_
  refine RS.p (Pu.move rfl) rfl rfl ?_
  refine RS.p (Pu.assign rfl) rfl rfl ?_
  refine RS.nil (hK12 _ _ ?_)
  refine T.retTo (by with_reducible ((repeat (first | apply RetTo.seq | apply RetTo.blk)); exact RetTo.refl _)) (Cont.ret1 rfl rfl fun w' s => ?_)
  exact ⟨⟨(l, q), TI.done hW hH hs hx0 hy0 (by omega) (x := x0) (i := x0) htj⟩, rfl, s⟩
end Go.Proofs.Ytddicdmleeaihaa
