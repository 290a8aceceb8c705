/-
  What the page's and the statements' small helpers do: lists held against each other, copied, written over. For lists of fewer than 2^40 elements where one grows.
-/
import Derived.Test.YtddicdmleeaihaaRows
import Derived.Test.YtddicdmleeaihaaVI
set_option linter.unusedVariables false
set_option linter.unusedSimpArgs false
set_option maxRecDepth 20000
set_option maxHeartbeats 4000000
namespace Go.Proofs.Ytddicdmleeaihaa
open Go.Vg
open Enc (R)
theorem mixed : Try.prog.follows .mixedOrders = true := by kernel_rfl
theorem sl22 : slTy Try.prog 22 = some (4, 1, 1) := by kernel_rfl
theorem ty4 : tySz Try.prog 4 = some (1, false) := by kernel_rfl
theorem ul4 : Try.prog.underlying 4 = some .bool := by kernel_rfl
theorem zr4 : zeroOf Try.prog 4 = some (.bool false) := by kernel_rfl
theorem veq {q : Option Nat × Nat} {a b : Nat} (h : a = b) : some (rowV q a) = some (rowV q b) := by rw [h]
theorem take_next {α : Type} [Inhabited α] {s : List α} {i : Int} (h : 0 ≤ i ∧ i < s.length) : s.take (i + 1).toNat = s.take i.toNat ++ [gi s i] := by
 have hl : i.toNat < s.length := by omega
 rw [show (i + 1).toNat = i.toNat + 1 by omega, List.take_succ_eq_append_getElem hl]
 simp [gi, List.getD, List.getElem?_eq_getElem hl]
theorem eqBools_calls {a b : List Bool} {va vb : Value} (w : World) (hA : R (hpOf w) a [va]) (hB : R (hpOf w) b [vb]) : Calls Try.prog 14 #[va, vb] w fun e w' => e = .returned (.bool (decide (a = b))) ∧ Ext w w' := by
 refine T.enter (args := [_, _]) (S := Sat w []) Try.func14 rfl rfl (Sat.start w) ?_
 have hmA := R_max hA
 have hmB := R_max hB
 obtain ⟨pa, ca, rfl⟩ := R_form hA
 obtain ⟨pb, cb, rfl⟩ := R_form hB
 refine T.seq fun K1 hK1 => ?_
 refine T.region ?_
 refine RS.p (Pu.assign rfl) rfl rfl ?_
 refine RS.nil (hK1 _ _ ?_)
 refine T.seq fun K2 hK2 => ?_
 refine T.seq fun K3 hK3 => ?_
 refine T.region ?_
 refine RS.p (Pu.move rfl) rfl rfl ?_
 refine RS.p (Pu.lenSl sl22 rfl) rfl rfl ?_
 refine RS.p (Pu.move rfl) rfl rfl ?_
 refine RS.p (Pu.lenSl sl22 rfl) rfl rfl ?_
 refine RS.p (Pu.bin rfl rfl rfl) rfl rfl ?_
 refine RS.nil (hK3 _ _ ?_)
 refine T.condP rfl (fun hc10 => ?_) (fun hc10 => ?_)
 ·refine T.conseq (fr' := []) ?_ trivial (fun _ s => s)
  refine T.seq fun K4 hK4 => ?_
  refine T.region ?_
  refine RS.p (Pu.assign rfl) rfl rfl ?_
  refine RS.nil (hK4 _ _ ?_)
  refine T.retTo (by with_reducible ((repeat (first | apply RetTo.seq | apply RetTo.blk)); exact RetTo.refl _)) (Cont.ret1 rfl rfl fun w' s => ?_)
  refine ⟨by rw [decide_eq_false (fun e => hc10 (by rw [e]))], s.ext⟩
 ·refine T.skip (hK2 _ _ (T.conseq (fr' := [(0, _), (1, _)]) ?_ ⟨rfl, rfl, trivial⟩ (fun _ s => s)))
  refine T.seq fun K5 hK5 => ?_
  refine T.seq fun K6 hK6 => ?_
  refine T.region ?_
  refine RS.p (Pu.assign rfl) rfl rfl ?_
  refine RS.nil (hK6 _ _ ?_)
  refine T.block ?_
  refine T.loopC (σ := Int) [(0, _), (1, _)] (fun i => [(5, .int .i64 i)]) (fun i => 0 ≤ i ∧ i ≤ a.length ∧ ∀ j : Int, 0 ≤ j → j < i → gi a j = gi b j) (fun i => (a.length - i).toNat) 0 (⟨by omega, by omega, fun j h0 h1 => by omega⟩) ⟨rfl, rfl, trivial⟩ ⟨rfl, rfl, rfl, trivial⟩ ?_
  intro i hI K6_ hL1
  refine T.conseq (fr' := [(5, _), (0, _), (1, _)]) ?_ ⟨rfl, rfl, rfl, trivial⟩ (fun _ s => s)
  obtain ⟨hi0, hi1, hq⟩ := hI
  refine T.seq fun K7 hK7 => ?_
  refine T.seq fun K8 hK8 => ?_
  refine T.region ?_
  refine RS.p (Pu.move rfl) rfl rfl ?_
  refine RS.p (Pu.move rfl) rfl rfl ?_
  refine RS.p (Pu.lenSl sl22 rfl) rfl rfl ?_
  refine RS.p (Pu.bin rfl rfl rfl) rfl rfl ?_
  refine RS.nil (hK8 _ _ ?_)
  refine T.condP rfl (fun hc14 => ?_) (fun hc14 => ?_)
  ·refine T.skip (hK7 _ _ (T.conseq (fr' := [(0, _), (1, _), (5, _)]) ?_ ⟨rfl, rfl, rfl, trivial⟩ (fun _ s => s)))
   refine T.seq fun K9 hK9 => ?_
   refine T.block ?_
   refine T.seq fun K10 hK10 => ?_
   refine T.drawn (fun _ => True) [(0, .pu), (1, .pu), (2, .pu), (3, .rd), (4, .pu), (5, .pu), (6, .pu), (7, .rd), (8, .pu)] mixed (ClE.sat _ _) (by kernel_rfl) ?_
   refine RD.p (fun _ _ => trivial) rfl (Pu.move rfl) rfl rfl ?_
   refine RD.p (fun _ _ => trivial) rfl (Pu.move rfl) rfl rfl ?_
   obtain ⟨bl_hA, ol_hA, rfl⟩ := R_ptr hA (ne_of_pos (by first | omega | (simp only [len_si, List.length_append, List.length_replicate, List.length_cons, List.length_nil, List.length_map, List.length_take] at *; omega)))
   refine RD.p (fun _ _ => trivial) rfl (Pu.indexSl sl22 rfl rfl (by first | omega | (simp only [len_si, List.length_append, List.length_replicate, List.length_cons, List.length_nil, List.length_map, List.length_take] at *; omega))) rfl rfl ?_
   refine RD.q (fun _ _ => trivial) rfl (Qt.ld0 (α := Bool) (Rd.base hA) ty4 rfl rfl (by first | omega | (simp only [len_si, List.length_append, List.length_replicate, List.length_cons, List.length_nil, List.length_map, List.length_take] at *; omega)) (by rintro _ _ rfl; rfl)) rfl rfl ?_
   refine RD.p (fun _ _ => trivial) rfl (Pu.move rfl) rfl rfl ?_
   refine RD.p (fun _ _ => trivial) rfl (Pu.move rfl) rfl rfl ?_
   obtain ⟨bl_hB, ol_hB, rfl⟩ := R_ptr hB (ne_of_pos (by first | omega | (simp only [len_si, List.length_append, List.length_replicate, List.length_cons, List.length_nil, List.length_map, List.length_take] at *; omega)))
   refine RD.p (fun _ _ => trivial) rfl (Pu.indexSl sl22 rfl rfl (by first | omega | (simp only [len_si, List.length_append, List.length_replicate, List.length_cons, List.length_nil, List.length_map, List.length_take] at *; omega))) rfl rfl ?_
   refine RD.q (fun _ _ => trivial) rfl (Qt.ld0 (α := Bool) (Rd.base hB) ty4 rfl rfl (by first | omega | (simp only [len_si, List.length_append, List.length_replicate, List.length_cons, List.length_nil, List.length_map, List.length_take] at *; omega)) (by rintro _ _ rfl; rfl)) rfl rfl ?_
   refine RD.p (fun _ _ => trivial) rfl (Pu.neB ul4 rfl rfl) rfl rfl ?_
   refine RD.nil (hK10 _ _ ?_)
   refine T.condP rfl (fun hc25 => ?_) (fun hc25 => ?_)
   ·refine T.conseq (fr' := []) ?_ trivial (fun _ s => s)
    refine T.seq fun K11 hK11 => ?_
    refine T.region ?_
    refine RS.p (Pu.assign rfl) rfl rfl ?_
    refine RS.nil (hK11 _ _ ?_)
    refine T.retTo (by with_reducible ((repeat (first | apply RetTo.seq | apply RetTo.blk)); exact RetTo.refl _)) (Cont.ret1 rfl rfl fun w' s => ?_)
    refine ⟨by rw [decide_eq_false (fun e => hc25 (by rw [e]))], s.ext⟩
   ·refine T.skip (hK9 _ _ (T.conseq (fr' := [(0, _), (1, _), (5, _)]) ?_ ⟨rfl, rfl, rfl, trivial⟩ (fun _ s => s)))
    refine T.region ?_
    refine RS.p (Pu.move rfl) rfl rfl ?_
    refine RS.p (Pu.addS rfl rfl (by omega)) rfl rfl ?_
    refine RS.p (Pu.assign rfl) rfl rfl ?_
    refine RS.nil (hL1 _ _ (i + 1) ⟨by omega, by omega, fun j h0 h1 => by
     by_cases hj : j = i
     ·rw [hj]; exact Decidable.not_not.1 hc25
     ·exact hq j h0 (by omega)⟩ (by omega) ⟨rfl, rfl, rfl, trivial⟩ (fun _ s => s))
  ·refine T.exitTo (by with_reducible (repeat (first | exact ExTo.here | exact ExTo.hereN | exact ExTo.deep (by repeat (first | exact NmTo.seq | apply NmTo.blk)) | apply ExTo.seq | refine ExTo.past (by decide) ?_))) (hK5 _ _ (T.conseq (fr' := []) ?_ trivial (fun _ s => s)))
   refine T.seq fun K12 hK12 => ?_
   refine T.region ?_
   refine RS.p (Pu.assign rfl) rfl rfl ?_
   refine RS.nil (hK12 _ _ ?_)
   refine T.retTo (by with_reducible ((repeat (first | apply RetTo.seq | apply RetTo.blk)); exact RetTo.refl _)) (Cont.ret1 rfl rfl fun w' s => ?_)
   refine ⟨by rw [decide_eq_true (ext_gi (by omega) (fun j h0 h1 => hq j h0 (by omega)))], s.ext⟩
theorem copyBools_calls {a : List Bool} {va : Value} (hsz : a.length < 1099511627776) (w : World) (hA : R (hpOf w) a [va]) : Calls Try.prog 10 #[va] w fun e w' => ∃ q : Option Nat × Nat, e = .returned (rowV q a.length) ∧ Sat w [row nilH 4 (rowV q a.length) a] w' := by
 refine T.enter (args := [_]) (S := Sat w []) Try.func10 rfl rfl (Sat.start w) ?_
 have hmA := R_max hA
 obtain ⟨pa, ca, rfl⟩ := R_form hA
 refine T.seq fun K1 hK1 => ?_
 refine T.region ?_
 refine RS.p (Pu.assign rfl) rfl rfl ?_
 refine RS.nil (hK1 _ _ ?_)
 refine T.seq fun K2 hK2 => ?_
 refine T.region ?_
 refine RS.p (Pu.assign rfl) rfl rfl ?_
 refine RS.nil (hK2 _ _ ?_)
 refine T.seq fun K3 hK3 => ?_
 refine T.seq fun K4 hK4 => ?_
 refine T.region ?_
 refine RS.p (Pu.assign rfl) rfl rfl ?_
 refine RS.nil (hK4 _ _ ?_)
 refine T.block ?_
 refine T.loopK (σ := Int × (Option Nat × Nat)) [(0, _)] (fun ⟨i, q⟩ => [(3, rowV q i.toNat), (4, .int .i64 i)]) (fun ⟨i, q⟩ => Sat w [row nilH 4 (rowV q i.toNat) (a.take i.toNat)]) (fun ⟨i, q⟩ => 0 ≤ i ∧ i ≤ a.length) (fun ⟨i, q⟩ => (a.length - i).toNat) (0, (none, 0)) (⟨by omega, by omega⟩) ⟨rfl, trivial⟩ ⟨rfl, rfl, rfl, trivial⟩ (fun w s => s.addEmpty _ (fun p => .inl ⟨rfl, rfl⟩)) ?_
 intro ⟨i, q⟩ hI K4_ hL1
 refine T.conseq (fr' := [(3, _), (4, _), (0, _)]) ?_ ⟨rfl, rfl, rfl, trivial⟩ (fun _ s => s)
 obtain ⟨hi0, hi1⟩ := hI
 try dsimp only at hi0 hi1 ⊢
 refine T.seq fun K5 hK5 => ?_
 refine T.seq fun K6 hK6 => ?_
 refine T.region ?_
 refine RS.p (Pu.move rfl) rfl rfl ?_
 refine RS.p (Pu.move rfl) rfl rfl ?_
 refine RS.p (Pu.lenSl sl22 rfl) rfl rfl ?_
 refine RS.p (Pu.bin rfl rfl rfl) rfl rfl ?_
 refine RS.nil (hK6 _ _ ?_)
 refine T.condP rfl (fun hc8 => ?_) (fun hc8 => ?_)
 ·refine T.skip (hK5 _ _ (T.conseq (fr' := [(0, _), (3, _), (4, _)]) ?_ ⟨rfl, rfl, rfl, trivial⟩ (fun _ s => s)))
  refine T.seq fun K7 hK7 => ?_
  refine T.block ?_
  refine T.region ?_
  refine RS.p (Pu.move rfl) rfl rfl ?_
  refine RS.p (Pu.move rfl) rfl rfl ?_
  refine RS.p (Pu.move rfl) rfl rfl ?_
  obtain ⟨bl_hA, ol_hA, rfl⟩ := R_ptr hA (ne_of_pos (by first | omega | (simp only [len_si, List.length_append, List.length_replicate, List.length_cons, List.length_nil, List.length_map, List.length_take] at *; omega)))
  refine RS.p (Pu.indexSl sl22 rfl rfl (by first | omega | (simp only [len_si, List.length_append, List.length_replicate, List.length_cons, List.length_nil, List.length_map, List.length_take] at *; omega))) rfl rfl ?_
  refine RS.q (Qt.ld0 (α := Bool) (Rd.base hA) ty4 rfl rfl (by first | omega | (simp only [len_si, List.length_append, List.length_replicate, List.length_cons, List.length_nil, List.length_map, List.length_take] at *; omega)) (by rintro _ _ rfl; rfl)) rfl rfl ?_
  refine RS.solid (Sd.litS (cs := [_]) sl22 zr4 rfl rfl rfl rfl rfl) rfl rfl fun b16 => ?_
  refine RS.solid (Sd.app1 (α := Bool) 0 1 rfl rfl (nilH_lt _) sl22 zr4 rfl rfl rfl rfl (by rw [List.length_take]; omega) (by rw [List.length_take]; unfold maxLen; omega)) rfl rfl fun q17 => ?_
  refine RS.p (Pu.assign rfl) rfl rfl ?_
  refine RS.nil (hK7 _ _ (T.conseq (fr' := [(0, _), (3, _), (4, _)]) ?_ ⟨rfl, rfl, rfl, trivial⟩ (fun _ s => s)))
  refine T.region ?_
  refine RS.p (Pu.move rfl) rfl rfl ?_
  refine RS.p (Pu.addS rfl rfl (by omega)) rfl rfl ?_
  refine RS.p (Pu.assign rfl) rfl rfl ?_
  refine RS.nil (hL1 _ _ (i + 1, q17) ⟨by omega, by omega⟩ (by show ((a.length : Int) - (i + 1)).toNat < (a.length - i).toNat; omega) ⟨veq (by rw [List.length_take]; omega), rfl, rfl, trivial⟩ (fun w2 s1 => by
   have e1 : (List.take i.toNat a).length + 1 = (i + 1).toNat := by rw [List.length_take]; omega
   have s2 := s1.pick (G' := [_]) [0] (by decide) rfl
   rw [e1] at s2
   show Sat w [row nilH 4 (rowV q17 (i + 1).toNat) (a.take (i + 1).toNat)] w2
   rw [take_next ⟨by omega, by omega⟩]
   exact s2))
 ·refine T.exitTo (by with_reducible (repeat (first | exact ExTo.here | exact ExTo.hereN | exact ExTo.deep (by repeat (first | exact NmTo.seq | apply NmTo.blk)) | apply ExTo.seq | refine ExTo.past (by decide) ?_))) (hK3 _ _ (T.conseq (fr' := [(3, _)]) ?_ ⟨rfl, trivial⟩ (fun _ s => s)))
  refine T.seq fun K8 hK8 => ?_
  refine T.region ?_
  refine RS.p (Pu.move rfl) rfl rfl ?_
  refine RS.p (Pu.assign rfl) rfl rfl ?_
  refine RS.nil (hK8 _ _ ?_)
  refine T.retTo (by with_reducible ((repeat (first | apply RetTo.seq | apply RetTo.blk)); exact RetTo.refl _)) (Cont.ret1 rfl rfl fun w' s => ?_)
  have hn : i.toNat = a.length := by omega
  rw [hn, List.take_length] at s
  exact ⟨q, by rw [hn], s⟩
end Go.Proofs.Ytddicdmleeaihaa
