/-
  The walk of sector.redo.
-/
import Derived.Test.YtddicdmleeaihaaRows
import Derived.Test.YtddicdmleeaihaaFS
set_option linter.unusedVariables false
set_option linter.unusedSimpArgs false
set_option maxRecDepth 20000
set_option maxHeartbeats 4000000
namespace Go.Proofs.Ytddicdmleeaihaa
open Go.Vg
open Enc (R)
open Sp
theorem ent38 : Ent Try.prog 38 := ⟨_, _, Try.func38, by kernel_rfl, rfl⟩
theorem ent39 : Ent Try.prog 39 := ⟨_, _, Try.func39, by kernel_rfl, rfl⟩
theorem st66 : stTy Try.prog 66 = some ([.int .i64 0, .int .i64 0, .slice none 0 0], [(0, 1), (1, 1), (2, 1)]) := by kernel_rfl
theorem zr66 : zeroOf Try.prog 66 = some (.agg #[.int .i64 0, .int .i64 0, .slice none 0 0]) := by kernel_rfl
def RedoOk (W H s : Int) (fr : List Bool) (p p' : List Int) : Prop := (p'.length : Int) = W * H ∧ (∀ v, 0 ≤ v → v < W * H → atS W v ≠ s → gi p' v = gi p v) ∧ ∀ v, 0 ≤ v → v < W * H → atS W v = s → Part W H fr v (gi p' v)
theorem redo_calls {w0 : World} {F : Ch} (W H s : Int) (fr : List Bool) (p : List Int) (q : Option Nat × Nat) (vf : Value) (hW : 1 ≤ W ∧ W ≤ 128) (hH : 1 ≤ H ∧ H ≤ 128) (hs : 0 ≤ s ∧ s < acr W * acr H) (hfr : (fr.length : Int) = W * H) (hp : (p.length : Int) = W * H) (hF : R (hpOf w0) fr [vf]) (w : World) (h : Sat w0 [row nilH 3 (rowV q p.length) p, F] w) : Calls Try.prog 27 #[.int .i64 W, .int .i64 H, vf, rowV q p.length, .int .i64 s] w fun e w' => ∃ i : { p' : List Int // RedoOk W H s fr p p' }, e = .returned (.tuple #[]) ∧ Sat w0 [row nilH 3 (rowV q p.length) i.1, F] w' := by
 refine T.enter (args := [.int .i64 W, .int .i64 H, _, rowV q p.length, .int .i64 s]) (S := Sat w0 [row nilH 3 (rowV q p.length) p, F]) Try.func27 rfl rfl (h) ?_
 have hm := mul_bd (a := W) (b := H) (A := 128) (B := 128) (by omega) (by omega)
 have hWH : 1 ≤ W * H := by have := Int.mul_le_mul_of_nonneg_left hH.1 (show 0 ≤ W by omega); omega
 obtain ⟨pf, cf, rfl⟩ := R_form hF
 refine T.know (p := ∃ g cap, q = (some g, cap)) (fun w s => s.row_some (k := 0) rfl (by omega)) ?_
 rintro ⟨g0, c0, rfl⟩
 refine T.seq fun K1 hK1 => ?_
 refine T.region ?_
 refine RS.p (Pu.move rfl) rfl rfl ?_
 refine RS.p (Pu.move rfl) rfl rfl ?_
 refine RS.p (Pu.move rfl) rfl rfl ?_
 refine RS.solid (Sd.callN ent38 rfl (fun w _ => tiles_calls W H s hW hH hs w)) rfl rfl fun ⟨⟨l, ql⟩, hl⟩ => ?_
 refine RS.p (Pu.assign rfl) rfl rfl ?_
 refine RS.nil (hK1 _ _ (T.conseq (fr' := [(0, _), (1, _), (2, _), (3, _), (4, _), (10, _)]) ?_ ⟨rfl, rfl, rfl, rfl, rfl, rfl, trivial⟩ (fun _ s => s)))
 refine T.seq fun K2 hK2 => ?_
 refine T.seq fun K3 hK3 => ?_
 try dsimp only at hl ⊢
 refine T.know (fun w s => s.row_fits (k := 2) rfl) fun hlm => ?_
 have hlm2 : l.length ≤ 9223372036854775807 := by have := hlm.2; unfold maxLen at this; omega
 refine T.region ?_
 refine RS.p (Pu.move rfl) rfl rfl ?_
 refine RS.p (Pu.lenSl sl23 rfl) rfl rfl ?_
 refine RS.p (Pu.move rfl) rfl rfl ?_
 refine RS.nil (hK3 _ _ ?_)
 refine T.block ?_
 refine T.loopK (σ := Int × List Int) [(0, _), (1, _), (2, _), (3, _), (4, _), (10, _), (25, _), (26, _)] (fun ⟨k, p1⟩ => [(27, .int .i64 k)]) (fun ⟨k, p1⟩ => Sat w0 [row nilH 3 (rowV (some g0, c0) p.length) p1, F, row nilH 3 (rowV ql l.length) l]) (fun ⟨k, p1⟩ => 0 ≤ k ∧ k ≤ l.length ∧ (p1.length : Int) = W * H ∧ (∀ v, 0 ≤ v → v < W * H → atS W v ≠ s → gi p1 v = gi p v) ∧ ∀ j : Int, 0 ≤ j → j < k → gi p1 (gi l j) = -1) (fun ⟨k, p1⟩ => (l.length - k).toNat) (0, p) (⟨by omega, by omega, hp, fun _ _ _ _ => rfl, fun j a b => by omega⟩) ⟨rfl, rfl, rfl, rfl, rfl, rfl, rfl, rfl, trivial⟩ ⟨rfl, rfl, rfl, rfl, rfl, rfl, rfl, rfl, rfl, trivial⟩ (fun _ s => s) ?_
 intro ⟨k, p1⟩ hI K3_ hL1
 refine T.conseq (fr' := [(27, _), (0, _), (1, _), (2, _), (3, _), (4, _), (10, _), (25, _), (26, _)]) ?_ ⟨rfl, rfl, rfl, rfl, rfl, rfl, rfl, rfl, rfl, trivial⟩ (fun _ s => s)
 obtain ⟨hk0, hk1, hp1, ho1, hd1⟩ := hI
 try dsimp only at hk0 hk1 hp1 ho1 hd1 ⊢
 refine T.seq fun K4 hK4 => ?_
 refine T.region ?_
 refine RS.p (Pu.bin rfl rfl rfl) rfl rfl ?_
 refine RS.nil (hK4 _ _ ?_)
 refine T.seq fun K5 hK5 => ?_
 refine T.condP rfl (fun hc28 => ?_) (fun hc28 => ?_)
 ·refine T.skip (hK5 _ _ ?_)
  refine T.seq fun K6 hK6 => ?_
  refine T.block ?_
  refine T.seq fun K7 hK7 => ?_
  have hin := (hl.1 _).1 (gi_mem (xs := l) ⟨hk0, hc28⟩)
  refine T.region ?_
  refine RS.know (p := ∃ g cap, ql = (some g, cap)) (fun w s => s.row_some (k := 2) rfl (by first | omega | (simp only [len_si, List.length_append, List.length_replicate, List.length_cons, List.length_nil, List.length_map, List.length_take] at *; omega))) ?_
  rintro ⟨g2_ql, cap2_ql, rfl⟩
  refine RS.p (Pu.indexSl sl23 rfl rfl (by first | omega | (simp only [len_si, List.length_append, List.length_replicate, List.length_cons, List.length_nil, List.length_map, List.length_take] at *; omega))) rfl rfl ?_
  refine RS.q (Qt.ld0 (α := Int) (Rd.ofRowN 2 rfl) ty3 rfl rfl (by first | omega | (simp only [len_si, List.length_append, List.length_replicate, List.length_cons, List.length_nil, List.length_map, List.length_take] at *; omega)) (by rintro _ _ rfl; rfl)) rfl rfl ?_
  refine RS.p (Pu.assign rfl) rfl rfl ?_
  refine RS.nil (hK7 _ _ (T.conseq (fr' := [(0, _), (1, _), (2, _), (3, _), (4, _), (10, _), (12, _), (25, _), (26, _), (27, _)]) ?_ ⟨rfl, rfl, rfl, rfl, rfl, rfl, rfl, rfl, rfl, rfl, trivial⟩ (fun _ s => s)))
  refine T.region ?_
  refine RS.p (Pu.move rfl) rfl rfl ?_
  refine RS.p (Pu.move rfl) rfl rfl ?_
  refine RS.p (Pu.indexSl sl23 rfl rfl (by first | omega | (simp only [len_si, List.length_append, List.length_replicate, List.length_cons, List.length_nil, List.length_map, List.length_take] at *; omega))) rfl rfl ?_
  refine RS.solid (Sd.st0 (α := Int) 0 _ rfl ty3 rfl rfl rfl (by first | omega | (simp only [len_si, List.length_append, List.length_replicate, List.length_cons, List.length_nil, List.length_map, List.length_take] at *; omega)) rfl rfl (by decide) rfl (by rintro _ _ rfl; rfl)) rfl rfl fun _ => ?_
  refine RS.nil (hK6 _ _ (T.conseq (fr' := [(0, _), (1, _), (2, _), (3, _), (4, _), (10, _), (25, _), (26, _), (27, _)]) ?_ ⟨rfl, rfl, rfl, rfl, rfl, rfl, rfl, rfl, rfl, trivial⟩ (fun _ s => s)))
  refine T.region ?_
  refine RS.p (Pu.addS rfl rfl (by omega)) rfl rfl ?_
  refine RS.p (Pu.move rfl) rfl rfl ?_
  refine RS.nil (hL1 _ _ (k + 1, si p1 (gi l k) (-1)) ⟨by omega, by omega, by rw [len_si]; exact hp1, fun v v0 v1 vs => ?_, fun j j0 j1 => ?_⟩ (by show ((l.length : Int) - (k + 1)).toNat < (l.length - k).toNat; omega) ⟨rfl, rfl, rfl, rfl, rfl, rfl, rfl, rfl, rfl, trivial⟩ (fun w s => s))
  ·rw [gi_si_ne hin.1 v0 (fun e => vs (e ▸ hin.2.2))]; exact ho1 v v0 v1 vs
  ·by_cases hj : gi l k = gi l j
   ·rw [← hj]; exact gi_si_self (by omega)
   ·have hjl := (hl.1 _).1 (gi_mem (xs := l) ⟨j0, by omega⟩)
    rw [gi_si_ne hin.1 hjl.1 hj]
    by_cases hjk : j = k
    ·subst hjk; exact absurd rfl hj
    ·exact hd1 j j0 (by omega)
 ·refine T.exitTo (by with_reducible (repeat (first | exact ExTo.here | exact ExTo.hereN | exact ExTo.deep (by repeat (first | exact NmTo.seq | apply NmTo.blk)) | apply ExTo.seq | refine ExTo.past (by decide) ?_))) (hK2 _ _ (T.conseq (fr' := [(0, _), (1, _), (2, _), (3, _), (4, _), (10, _)]) ?_ ⟨rfl, rfl, rfl, rfl, rfl, rfl, trivial⟩ (fun _ s => s)))
  refine T.seq fun K8 hK8 => ?_
  refine T.region ?_
  refine RS.p (Pu.move rfl) rfl rfl ?_
  refine RS.p (Pu.move rfl) rfl rfl ?_
  refine RS.p (Pu.build (cells := [_, _, _]) st66 rfl rfl) rfl rfl ?_
  refine RS.solid (Sd.alloc zr66 rfl) rfl rfl fun b13 => ?_
  refine RS.solid (Sd.stB (cs' := [_, _, _]) 3 ty66 rfl rfl rfl rfl rfl rfl rfl rfl) rfl rfl fun _ => ?_
  refine RS.nil (hK8 _ _ (T.conseq (fr' := [(0, _), (2, _), (3, _), (4, _), (10, _), (13, _)]) ?_ ⟨rfl, rfl, rfl, rfl, rfl, rfl, trivial⟩ (fun _ s => s)))
  refine T.seq fun K9 hK9 => ?_
  have hall : ∀ v, 0 ≤ v → v < W * H → atS W v = s → gi p1 v = -1 := fun v a b c => by
   obtain ⟨j, hj, hje⟩ := List.getElem_of_mem ((hl.1 v).2 ⟨a, b, c⟩)
   have hju : gi l (j : Int) = v := by rw [gi_nat]; simp [List.getD, List.getElem?_eq_getElem hj, hje]
   rw [← hju]; exact hd1 j (by omega) (by omega)
  refine T.region ?_
  refine RS.p (Pu.move rfl) rfl rfl ?_
  refine RS.p (Pu.lenSl sl23 rfl) rfl rfl ?_
  refine RS.p (Pu.move rfl) rfl rfl ?_
  refine RS.nil (hK9 _ _ ?_)
  refine T.block ?_
  refine T.loopK (σ := Int × List Int) [(0, _), (2, _), (3, _), (4, _), (13, _), (38, _), (39, _)] (fun ⟨k, p2⟩ => [(40, .int .i64 k)]) (fun ⟨k, p2⟩ => Sat w0 [row nilH 3 (rowV (some g0, c0) p.length) p2, F, row nilH 3 (rowV ql l.length) l, blk b13 [.int .i64 W, .int .i64 H, .slice none 0 0] 66]) (fun ⟨k, p2⟩ => 0 ≤ k ∧ k ≤ l.length ∧ OI W H s fr l p p2 k) (fun ⟨k, p2⟩ => (l.length - k).toNat) (0, p1) (⟨by omega, by omega, OI.start hp hp1 ho1 hall⟩) ⟨rfl, rfl, rfl, rfl, rfl, rfl, rfl, trivial⟩ ⟨rfl, rfl, rfl, rfl, rfl, rfl, rfl, rfl, trivial⟩ (fun _ s => s) ?_
  intro ⟨k, p2⟩ hI K9_ hL2
  refine T.conseq (fr' := [(40, _), (0, _), (2, _), (3, _), (4, _), (13, _), (38, _), (39, _)]) ?_ ⟨rfl, rfl, rfl, rfl, rfl, rfl, rfl, rfl, trivial⟩ (fun _ s => s)
  obtain ⟨hk0, hk1, hoi⟩ := hI
  try dsimp only at hk0 hk1 hoi ⊢
  have hp2 := hoi.1
  refine T.seq fun K10 hK10 => ?_
  refine T.region ?_
  refine RS.p (Pu.bin rfl rfl rfl) rfl rfl ?_
  refine RS.nil (hK10 _ _ ?_)
  refine T.seq fun K11 hK11 => ?_
  refine T.condP rfl (fun hc41 => ?_) (fun hc41 => ?_)
  ·refine T.skip (hK11 _ _ ?_)
   refine T.seq fun K12 hK12 => ?_
   refine T.block ?_
   refine T.seq fun K13 hK13 => ?_
   have hin := (hl.1 _).1 (gi_mem (xs := l) ⟨hk0, hc41⟩)
   refine T.region ?_
   refine RS.know (p := ∃ g cap, ql = (some g, cap)) (fun w s => s.row_some (k := 2) rfl (by first | omega | (simp only [len_si, List.length_append, List.length_replicate, List.length_cons, List.length_nil, List.length_map, List.length_take] at *; omega))) ?_
   rintro ⟨g2_ql, cap2_ql, rfl⟩
   refine RS.p (Pu.indexSl sl23 rfl rfl (by first | omega | (simp only [len_si, List.length_append, List.length_replicate, List.length_cons, List.length_nil, List.length_map, List.length_take] at *; omega))) rfl rfl ?_
   refine RS.q (Qt.ld0 (α := Int) (Rd.ofRowN 2 rfl) ty3 rfl rfl (by first | omega | (simp only [len_si, List.length_append, List.length_replicate, List.length_cons, List.length_nil, List.length_map, List.length_take] at *; omega)) (by rintro _ _ rfl; rfl)) rfl rfl ?_
   refine RS.p (Pu.assign rfl) rfl rfl ?_
   refine RS.nil (hK13 _ _ (T.conseq (fr' := [(0, _), (2, _), (3, _), (4, _), (13, _), (15, _), (38, _), (39, _), (40, _)]) ?_ ⟨rfl, rfl, rfl, rfl, rfl, rfl, rfl, rfl, rfl, trivial⟩ (fun _ s => s)))
   refine T.seq fun K14 hK14 => ?_
   refine T.seq fun K15 hK15 => ?_
   refine T.region ?_
   refine RS.p (Pu.move rfl) rfl rfl ?_
   refine RS.p (Pu.move rfl) rfl rfl ?_
   obtain ⟨bl_hF, ol_hF, rfl⟩ := R_ptr hF (ne_of_pos (by first | omega | (simp only [len_si, List.length_append, List.length_replicate, List.length_cons, List.length_nil, List.length_map, List.length_take] at *; omega)))
   refine RS.p (Pu.indexSl sl22 rfl rfl (by first | omega | (simp only [len_si, List.length_append, List.length_replicate, List.length_cons, List.length_nil, List.length_map, List.length_take] at *; omega))) rfl rfl ?_
   refine RS.q (Qt.ld0 (α := Bool) (Rd.base hF) ty4 rfl rfl (by first | omega | (simp only [len_si, List.length_append, List.length_replicate, List.length_cons, List.length_nil, List.length_map, List.length_take] at *; omega)) (by rintro _ _ rfl; rfl)) rfl rfl ?_
   refine RS.p (Pu.not rfl) rfl rfl ?_
   refine RS.p (Pu.move rfl) rfl rfl ?_
   refine RS.split 49 rfl (fun h49 => ?_) (fun h49 => ?_)
   ·refine RS.no rfl rfl ?_
    refine RS.no rfl rfl ?_
    refine RS.no rfl rfl ?_
    refine RS.no rfl rfl ?_
    refine RS.no rfl rfl ?_
    refine RS.p (Pu.pickT rfl rfl) rfl rfl ?_
    refine RS.nil (hK15 _ _ ?_)
    refine T.condT rfl ?_
    refine T.exitTo (by with_reducible (repeat (first | exact ExTo.here | exact ExTo.hereN | exact ExTo.deep (by repeat (first | exact NmTo.seq | apply NmTo.blk)) | apply ExTo.seq | refine ExTo.past (by decide) ?_))) (hK12 _ _ (T.conseq (fr' := [(0, _), (2, _), (3, _), (4, _), (13, _), (38, _), (39, _), (40, _)]) ?_ ⟨rfl, rfl, rfl, rfl, rfl, rfl, rfl, rfl, trivial⟩ (fun _ s => s)))
    refine T.region ?_
    refine RS.p (Pu.addS rfl rfl (by omega)) rfl rfl ?_
    refine RS.p (Pu.move rfl) rfl rfl ?_
    refine RS.nil (hL2 _ _ (k + 1, p2) ⟨by omega, by omega, hoi.skip (fun hf => by first | omega | exact Bool.noConfusion (hf.symm.trans (by simpa using h49)))⟩ (by show ((l.length : Int) - (k + 1)).toNat < (l.length - k).toNat; omega) ⟨rfl, rfl, rfl, rfl, rfl, rfl, rfl, rfl, trivial⟩ (fun _ s => s))
   ·refine RS.p (Pu.move rfl) rfl rfl ?_
    refine RS.p (Pu.move rfl) rfl rfl ?_
    refine RS.p (Pu.indexSl sl23 rfl rfl (by first | omega | (simp only [len_si, List.length_append, List.length_replicate, List.length_cons, List.length_nil, List.length_map, List.length_take] at *; omega))) rfl rfl ?_
    refine RS.q (Qt.ld0 (α := Int) (Rd.ofRowN 0 rfl) ty3 rfl rfl (by first | omega | (simp only [len_si, List.length_append, List.length_replicate, List.length_cons, List.length_nil, List.length_map, List.length_take] at *; omega)) (by rintro _ _ rfl; rfl)) rfl rfl ?_
    refine RS.p (Pu.bin rfl rfl rfl) rfl rfl ?_
    refine RS.p (Pu.pickF rfl rfl) rfl rfl ?_
    refine RS.nil (hK15 _ _ ?_)
    refine T.condP rfl (fun hc55 => ?_) (fun hc55 => ?_)
    ·refine T.exitTo (by with_reducible (repeat (first | exact ExTo.here | exact ExTo.hereN | exact ExTo.deep (by repeat (first | exact NmTo.seq | apply NmTo.blk)) | apply ExTo.seq | refine ExTo.past (by decide) ?_))) (hK12 _ _ (T.conseq (fr' := [(0, _), (2, _), (3, _), (4, _), (13, _), (38, _), (39, _), (40, _)]) ?_ ⟨rfl, rfl, rfl, rfl, rfl, rfl, rfl, rfl, trivial⟩ (fun _ s => s)))
     refine T.region ?_
     refine RS.p (Pu.addS rfl rfl (by omega)) rfl rfl ?_
     refine RS.p (Pu.move rfl) rfl rfl ?_
     refine RS.nil (hL2 _ _ (k + 1, p2) ⟨by omega, by omega, hoi.skip (fun hf => by first | omega | exact Bool.noConfusion (hf.symm.trans (by simpa using h49)))⟩ (by show ((l.length : Int) - (k + 1)).toNat < (l.length - k).toNat; omega) ⟨rfl, rfl, rfl, rfl, rfl, rfl, rfl, rfl, trivial⟩ (fun _ s => s))
    ·refine T.skip (hK14 _ _ (T.conseq (fr' := [(0, _), (2, _), (3, _), (4, _), (13, _), (15, _), (38, _), (39, _), (40, _)]) ?_ ⟨rfl, rfl, rfl, rfl, rfl, rfl, rfl, rfl, rfl, trivial⟩ (fun _ s => s)))
     refine T.seq fun K16 hK16 => ?_
     have hfree : gi fr (gi l k) = true := by simpa using h49
     have hneg : gi p2 (gi l k) = -1 := by rcases hoi.2.2.1 _ hin.1 hin.2.1 hin.2.2 with h | h <;> omega
     refine T.region ?_
     refine RS.p (Pu.move rfl) rfl rfl ?_
     refine RS.p (Pu.move rfl) rfl rfl ?_
     refine RS.p (Pu.move rfl) rfl rfl ?_
     refine RS.p (Pu.indexSl sl23 rfl rfl (by first | omega | (simp only [len_si, List.length_append, List.length_replicate, List.length_cons, List.length_nil, List.length_map, List.length_take] at *; omega))) rfl rfl ?_
     refine RS.solid (Sd.st0 (α := Int) 0 _ rfl ty3 rfl rfl rfl (by first | omega | (simp only [len_si, List.length_append, List.length_replicate, List.length_cons, List.length_nil, List.length_map, List.length_take] at *; omega)) rfl rfl (by decide) rfl (by rintro _ _ rfl; rfl)) rfl rfl fun _ => ?_
     refine RS.nil (hK16 _ _ (T.conseq (fr' := [(0, _), (2, _), (3, _), (4, _), (13, _), (15, _), (38, _), (39, _), (40, _)]) ?_ ⟨rfl, rfl, rfl, rfl, rfl, rfl, rfl, rfl, rfl, trivial⟩ (fun _ s => s)))
     refine T.seq fun K17 hK17 => ?_
     refine T.region ?_
     refine RS.p (Pu.move rfl) rfl rfl ?_
     refine RS.solid (Sd.litS (cs := [_]) sl23 zr3 rfl rfl rfl rfl rfl) rfl rfl fun b61 => ?_
     refine RS.p (Pu.assign rfl) rfl rfl ?_
     refine RS.nil (hK17 _ _ ?_)
     refine T.block ?_
     refine T.loopK (σ := List Int × List Int × (Option Nat × Nat)) [(0, _), (2, _), (3, _), (4, _), (13, _), (15, _), (38, _), (39, _), (40, _)] (fun ⟨p3, todo, q3⟩ => [(16, rowV q3 todo.length)]) (fun ⟨p3, todo, q3⟩ => Sat w0 [row nilH 3 (rowV (some g0, c0) p.length) p3, F, row nilH 3 (rowV (some g2_ql, cap2_ql) l.length) l, blk b13 [.int .i64 W, .int .i64 H, .slice none 0 0] 66, row nilH 3 (rowV q3 todo.length) todo]) (fun ⟨p3, todo, q3⟩ => FI W H fr p2 (gi l k) p3 todo ∧ 2 * p3.countP (· < 0) + todo.length ≤ 32769) (fun ⟨p3, todo, q3⟩ => 2 * p3.countP (· < 0) + todo.length) (si p2 (gi l k) (gi l k), [gi l k], (some b61, 1)) (⟨FI.start hp2 ⟨hin.1, hin.2.1⟩ hneg, by have h1 := count_si (p := p2) (x := gi l k) (t := gi l k) (by omega) (by omega) hin.1; have h2 := List.countP_le_length (p := fun y : Int => decide (y < 0)) (l := p2); show 2 * _ + 1 ≤ _; omega⟩) ⟨rfl, rfl, rfl, rfl, rfl, rfl, rfl, rfl, rfl, trivial⟩ ⟨rfl, rfl, rfl, rfl, rfl, rfl, rfl, rfl, rfl, rfl, trivial⟩ (fun w s => s.weaken 4 rfl (row nilH 3 (rowV (some b61, 1) 1) [gi l k]) (fun p hp => .inr ⟨b61, 1, [.int .i64 (gi l k)], [], rfl, hp, by simp, by unfold maxLen; omega, rfl, RF.single rfl⟩)) ?_
     intro ⟨p3, todo, q3⟩ hI K17_ hL3
     refine T.conseq (fr' := [(16, _), (0, _), (2, _), (3, _), (4, _), (13, _), (15, _), (38, _), (39, _), (40, _)]) ?_ ⟨rfl, rfl, rfl, rfl, rfl, rfl, rfl, rfl, rfl, rfl, trivial⟩ (fun _ s => s)
     obtain ⟨hI, hbd⟩ := hI
     try dsimp only at hI hbd ⊢
     refine T.know (fun w s => s.row_fits (k := 4) rfl) fun hlt => ?_
     have hlt2 : todo.length ≤ 9223372036854775807 := by have := hlt.2; unfold maxLen at this; omega
     refine T.seq fun K18 hK18 => ?_
     refine T.seq fun K19 hK19 => ?_
     refine T.region ?_
     refine RS.p (Pu.move rfl) rfl rfl ?_
     refine RS.p (Pu.lenSl sl23 rfl) rfl rfl ?_
     refine RS.p (Pu.bin rfl rfl rfl) rfl rfl ?_
     refine RS.nil (hK19 _ _ ?_)
     refine T.condP rfl (fun hc64 => ?_) (fun hc64 => ?_)
     ·refine T.skip (hK18 _ _ (T.conseq (fr' := [(0, _), (2, _), (3, _), (4, _), (13, _), (15, _), (16, _), (38, _), (39, _), (40, _)]) ?_ ⟨rfl, rfl, rfl, rfl, rfl, rfl, rfl, rfl, rfl, rfl, trivial⟩ (fun _ s => s)))
      refine T.block ?_
      refine T.seq fun K20 hK20 => ?_
      have hu := hI.2.2.2.1 _ (gi_mem (xs := todo) (j := (todo.length : Int) - 1) (by omega))
      obtain ⟨u, hue⟩ : ∃ u, u = gi todo ((todo.length : Int) - 1) := ⟨_, rfl⟩
      have htd : todo = todo.take (todo.length - 1) ++ [u] := by
       have := take_next (s := todo) (i := (todo.length : Int) - 1) (by omega)
       rw [show ((todo.length : Int) - 1 + 1).toNat = todo.length by omega, List.take_length, show ((todo.length : Int) - 1).toNat = todo.length - 1 by omega, ← hue] at this
       exact this
      refine T.region ?_
      refine RS.p (Pu.move rfl) rfl rfl ?_
      refine RS.p (Pu.move rfl) rfl rfl ?_
      refine RS.p (Pu.lenSl sl23 rfl) rfl rfl ?_
      refine RS.p (Pu.subS rfl rfl (by omega)) rfl rfl ?_
      refine RS.know (p := ∃ g cap, q3 = (some g, cap)) (fun w s => s.row_some (k := 4) rfl (by first | omega | (simp only [len_si, List.length_append, List.length_replicate, List.length_cons, List.length_nil, List.length_map, List.length_take] at *; omega))) ?_
      rintro ⟨g4_q3, cap4_q3, rfl⟩
      refine RS.p (Pu.indexSl sl23 rfl rfl (by first | omega | (simp only [len_si, List.length_append, List.length_replicate, List.length_cons, List.length_nil, List.length_map, List.length_take] at *; omega))) rfl rfl ?_
      refine RS.q (Qt.ld0 (α := Int) (Rd.ofRowN 4 rfl) ty3 rfl rfl (by first | omega | (simp only [len_si, List.length_append, List.length_replicate, List.length_cons, List.length_nil, List.length_map, List.length_take] at *; omega)) (by rintro _ _ rfl; rfl)) rfl rfl ?_
      rw [← hue]
      refine RS.p (Pu.assign rfl) rfl rfl ?_
      refine RS.nil (hK20 _ _ (T.conseq (fr' := [(0, _), (2, _), (3, _), (4, _), (13, _), (15, _), (16, _), (17, _), (38, _), (39, _), (40, _)]) ?_ ⟨rfl, rfl, rfl, rfl, rfl, rfl, rfl, rfl, rfl, rfl, rfl, trivial⟩ (fun _ s => s)))
      refine T.seq fun K21 hK21 => ?_
      refine T.region ?_
      refine RS.p (Pu.move rfl) rfl rfl ?_
      refine RS.p (Pu.move rfl) rfl rfl ?_
      refine RS.p (Pu.lenSl sl23 rfl) rfl rfl ?_
      refine RS.p (Pu.subS rfl rfl (by omega)) rfl rfl ?_
      refine RS.p (Pu.sliceH sl23 rfl rfl (by omega)) rfl rfl ?_
      refine RS.p (Pu.assign rfl) rfl rfl ?_
      refine RS.nil (hK21 _ _ (T.conseq (fr' := [(0, _), (2, _), (3, _), (4, _), (13, _), (15, _), (16, _), (17, _), (38, _), (39, _), (40, _)]) ?_ ⟨rfl, rfl, rfl, rfl, rfl, rfl, rfl, rfl, rfl, rfl, rfl, trivial⟩ (fun _ s => s)))
      refine T.seq fun K22 hK22 => ?_
      refine T.region ?_
      refine RS.q (Qt.ldBA (us := [_, _, _]) 3 ty66 rfl rfl rfl rfl) rfl rfl ?_
      refine RS.p (Pu.move rfl) rfl rfl ?_
      refine RS.q (Qt.call ent39 rfl fun w _s => beside_calls W H u (.slice none 0 0) rfl (by omega) (by omega) (by rw [hue]; omega) _) rfl rfl ?_
      refine RS.solid (Sd.alloc zr67 rfl) rfl rfl fun b18 => ?_
      refine RS.solid (Sd.stB (cs' := nums (besideL W H u)) (us := nums (besideL W H u)) 5 ty67 rfl rfl rfl rfl rfl rfl rfl rfl) rfl rfl fun _ => ?_
      refine RS.nil (hK22 _ _ (T.conseq (fr' := [(0, _), (2, _), (3, _), (4, _), (13, _), (15, _), (16, _), (18, _), (38, _), (39, _), (40, _)]) ?_ ⟨rfl, rfl, rfl, rfl, rfl, rfl, rfl, rfl, rfl, rfl, rfl, trivial⟩ (fun _ s => s)))
      refine T.seq fun K23 hK23 => ?_
      refine T.region ?_
      refine RS.p (Pu.sliceArH ar67 rfl rfl (by omega)) rfl rfl ?_
      refine RS.p (Pu.lenSl sl23 rfl) rfl rfl ?_
      refine RS.p (Pu.move rfl) rfl rfl ?_
      refine RS.nil (hK23 _ _ ?_)
      refine T.block ?_
      refine T.loopK (σ := Int × List Int × List Int × (Option Nat × Nat)) [(0, _), (2, _), (3, _), (4, _), (13, _), (15, _), (38, _), (39, _), (40, _), (79, _), (80, _)] (fun ⟨kk, p4, td, q4⟩ => [(16, rowV q4 td.length), (81, .int .i64 kk)]) (fun ⟨kk, p4, td, q4⟩ => Sat w0 [row nilH 3 (rowV (some g0, c0) p.length) p4, F, row nilH 3 (rowV (some g2_ql, cap2_ql) l.length) l, blk b13 [.int .i64 W, .int .i64 H, .slice none 0 0] 66, row nilH 3 (rowV q4 td.length) td, blk b18 (nums (besideL W H u)) 67]) (fun ⟨kk, p4, td, q4⟩ => 0 ≤ kk ∧ kk ≤ 4 ∧ GI W H fr p2 (gi l k) u kk p4 td ∧ 2 * p4.countP (· < 0) + td.length + 1 ≤ 2 * p3.countP (· < 0) + todo.length) (fun ⟨kk, p4, td, q4⟩ => (4 - kk).toNat) (0, p3, todo.take (todo.length - 1), (some g4_q3, cap4_q3)) (⟨by omega, by omega, by rw [htd] at hI; exact hI.pop, by rw [List.length_take]; omega⟩) ⟨rfl, rfl, rfl, rfl, rfl, rfl, rfl, rfl, rfl, rfl, rfl, trivial⟩ ⟨(by rw [show (todo.take (todo.length - 1)).length = ((todo.length : Int) - 1).toNat by rw [List.length_take]; omega]; rfl), rfl, rfl, rfl, rfl, rfl, rfl, rfl, rfl, rfl, rfl, rfl, rfl, trivial⟩ (fun w s => by
       have s2 := s.weaken 4 rfl _ (fun p hp => row_take (q := (some g4_q3, cap4_q3)) (k := todo.length - 1) hp (by omega) rfl)
       have e : (todo.take (todo.length - 1)).length = todo.length - 1 := by rw [List.length_take]; omega
       show Sat w0 [_, _, _, _, row nilH 3 (rowV (some g4_q3, cap4_q3) (todo.take (todo.length - 1)).length) (todo.take (todo.length - 1)), _] w
       rw [e]
       exact s2) ?_
      intro ⟨kk, p4, td, q4⟩ hI K23_ hL4
      refine T.conseq (fr' := [(16, _), (81, _), (0, _), (2, _), (3, _), (4, _), (13, _), (15, _), (38, _), (39, _), (40, _), (79, _), (80, _)]) ?_ ⟨rfl, rfl, rfl, rfl, rfl, rfl, rfl, rfl, rfl, rfl, rfl, rfl, rfl, trivial⟩ (fun _ s => s)
      obtain ⟨hkk0, hkk1, hg, hmz⟩ := hI
      try dsimp only at hkk0 hkk1 hg hmz ⊢
      have hp4 := hg.2.1
      have hur := hg.1.1
      obtain ⟨_, huf, hus0⟩ := Rch.in hW.1 hg.1.2 ⟨⟨hin.1, hin.2.1⟩, hfree⟩
      have hus := hus0.trans hin.2.2
      refine T.seq fun K24 hK24 => ?_
      refine T.region ?_
      refine RS.p (Pu.bin rfl rfl rfl) rfl rfl ?_
      refine RS.nil (hK24 _ _ ?_)
      refine T.seq fun K25 hK25 => ?_
      refine T.condP rfl (fun hc82 => ?_) (fun hc82 => ?_)
      ·refine T.skip (hK25 _ _ ?_)
       refine T.seq fun K26 hK26 => ?_
       refine T.block ?_
       refine T.seq fun K27 hK27 => ?_
       refine T.region ?_
       refine RS.p (Pu.indexSl sl23 rfl rfl (by omega)) rfl rfl ?_
       refine RS.q (Qt.ldAr 5 ty3 rfl rfl rfl (by refine ⟨by omega, ?_⟩; show kk < ((8 : Nat) : Int); omega)) rfl rfl ?_   -- sector.go:66
       rw [beside_at (by omega)]
       refine RS.p (Pu.assign rfl) rfl rfl ?_
       refine RS.nil (hK27 _ _ (T.conseq (fr' := [(0, _), (2, _), (3, _), (4, _), (13, _), (15, _), (16, _), (20, _), (38, _), (39, _), (40, _), (79, _), (80, _), (81, _)]) ?_ ⟨rfl, rfl, rfl, rfl, rfl, rfl, rfl, rfl, rfl, rfl, rfl, rfl, rfl, rfl, trivial⟩ (fun _ s => s)))
       refine T.seq fun K28 hK28 => ?_
       refine T.region ?_
       refine RS.p (Pu.move rfl) rfl rfl ?_
       refine RS.p (Pu.bin rfl rfl rfl) rfl rfl ?_
       refine RS.p (Pu.move rfl) rfl rfl ?_
       refine RS.splitP 87 rfl (fun h87 => ?_) (fun h87 => ?_)
       ·have hnr := nbr_in hW.1 hur (nb_nbr hW.1 hur ⟨hkk0, by omega⟩ h87)
        refine RS.p (Pu.move rfl) rfl rfl ?_
        refine RS.p (Pu.move rfl) rfl rfl ?_
        refine RS.p (Pu.indexSl sl22 rfl rfl (by first | omega | (simp only [len_si, List.length_append, List.length_replicate, List.length_cons, List.length_nil, List.length_map, List.length_take] at *; omega))) rfl rfl ?_
        refine RS.q (Qt.ld0 (α := Bool) (Rd.base hF) ty4 rfl rfl (by first | omega | (simp only [len_si, List.length_append, List.length_replicate, List.length_cons, List.length_nil, List.length_map, List.length_take] at *; omega)) (by rintro _ _ rfl; rfl)) rfl rfl ?_
        refine RS.p (Pu.pickT rfl rfl) rfl rfl ?_
        refine RS.p (Pu.move rfl) rfl rfl ?_
        refine RS.split 93 rfl (fun h93 => ?_) (fun h93 => ?_)
        ·refine RS.p (Pu.move rfl) rfl rfl ?_
         refine RS.p (Pu.move rfl) rfl rfl ?_
         refine RS.p (Pu.indexSl sl23 rfl rfl (by first | omega | (simp only [len_si, List.length_append, List.length_replicate, List.length_cons, List.length_nil, List.length_map, List.length_take] at *; omega))) rfl rfl ?_
         refine RS.q (Qt.ld0 (α := Int) (Rd.ofRowN 0 rfl) ty3 rfl rfl (by first | omega | (simp only [len_si, List.length_append, List.length_replicate, List.length_cons, List.length_nil, List.length_map, List.length_take] at *; omega)) (by rintro _ _ rfl; rfl)) rfl rfl ?_
         refine RS.p (Pu.bin rfl rfl rfl) rfl rfl ?_
         refine RS.p (Pu.pickT rfl rfl) rfl rfl ?_
         refine RS.p (Pu.move rfl) rfl rfl ?_
         refine RS.splitP 100 rfl (fun h100 => ?_) (fun h100 => ?_)
         ·refine RS.p (Pu.move rfl) rfl rfl ?_
          refine RS.p (Pu.move rfl) rfl rfl ?_
          refine RS.q (Qt.call ent36 rfl fun w _s => sector_At_calls _ _ (by omega) (by omega) _) rfl rfl ?_
          refine RS.p (Pu.move rfl) rfl rfl ?_
          refine RS.p (Pu.bin rfl rfl rfl) rfl rfl ?_
          refine RS.p (Pu.pickT rfl rfl) rfl rfl ?_
          refine RS.nil (hK28 _ _ ?_)
          refine T.condP rfl (fun hc106 => ?_) (fun hc106 => ?_)
          ·refine T.conseq (fr' := [(0, _), (2, _), (3, _), (4, _), (13, _), (15, _), (16, _), (20, _), (38, _), (39, _), (40, _), (79, _), (80, _), (81, _)]) ?_ ⟨rfl, rfl, rfl, rfl, rfl, rfl, rfl, rfl, rfl, rfl, rfl, rfl, rfl, rfl, trivial⟩ (fun _ s => s)
           refine T.seq fun K29 hK29 => ?_
           refine T.region ?_
           refine RS.p (Pu.move rfl) rfl rfl ?_
           refine RS.p (Pu.move rfl) rfl rfl ?_
           refine RS.p (Pu.move rfl) rfl rfl ?_
           refine RS.p (Pu.indexSl sl23 rfl rfl (by first | omega | (simp only [len_si, List.length_append, List.length_replicate, List.length_cons, List.length_nil, List.length_map, List.length_take] at *; omega))) rfl rfl ?_
           refine RS.solid (Sd.st0 (α := Int) 0 _ rfl ty3 rfl rfl rfl (by first | omega | (simp only [len_si, List.length_append, List.length_replicate, List.length_cons, List.length_nil, List.length_map, List.length_take] at *; omega)) rfl rfl (by decide) rfl (by rintro _ _ rfl; rfl)) rfl rfl fun _ => ?_
           refine RS.nil (hK29 _ _ (T.conseq (fr' := [(0, _), (2, _), (3, _), (4, _), (13, _), (15, _), (16, _), (20, _), (38, _), (39, _), (40, _), (79, _), (80, _), (81, _)]) ?_ ⟨rfl, rfl, rfl, rfl, rfl, rfl, rfl, rfl, rfl, rfl, rfl, rfl, rfl, rfl, trivial⟩ (fun _ s => s)))
           refine T.region ?_
           refine RS.p (Pu.move rfl) rfl rfl ?_
           refine RS.p (Pu.move rfl) rfl rfl ?_
           refine RS.solid (Sd.litS (cs := [_]) sl23 zr3 rfl rfl rfl rfl rfl) rfl rfl fun b113 => ?_
           refine RS.solid (Sd.app1 (α := Int) 4 6 rfl rfl (nilH_lt _) sl23 zr3 rfl rfl rfl rfl (by omega) (by unfold maxLen; omega)) rfl rfl fun q114 => ?_
           refine RS.p (Pu.assign rfl) rfl rfl ?_
           refine RS.nil (hK26 _ _ (T.conseq (fr' := [(0, _), (2, _), (3, _), (4, _), (13, _), (15, _), (16, _), (38, _), (39, _), (40, _), (79, _), (80, _), (81, _)]) ?_ ⟨rfl, rfl, rfl, rfl, rfl, rfl, rfl, rfl, rfl, rfl, rfl, rfl, rfl, trivial⟩ (fun _ s => s)))
           refine T.region ?_
           refine RS.p (Pu.addS rfl rfl (by omega)) rfl rfl ?_
           refine RS.p (Pu.move rfl) rfl rfl ?_
           have hadj : Adj W H fr u (nb W H u kk) := ⟨hur, huf, h93, hc106.trans hus.symm, nb_nbr hW.1 hur ⟨hkk0, by omega⟩ h87⟩
           refine RS.nil (hL4 _ _ (kk + 1, si p4 (nb W H u kk) (gi l k), td ++ [nb W H u kk], q114) ⟨by omega, by omega, hg.push hW.1 hin.1 hnr hadj h100 (fun h => by rcases hoi.2.2.1 _ hnr.1 hnr.2 hc106 with h | h <;> omega), by
            have h1 := count_si (p := p4) (x := nb W H u kk) (t := gi l k) (by omega) h100 hin.1
            simp only [List.length_append, List.length_cons, List.length_nil]; omega⟩ (by show ((4 : Int) - (kk + 1)).toNat < (4 - kk).toNat; omega) ⟨(by first | rfl | exact veq (by simp)), rfl, rfl, rfl, rfl, rfl, rfl, rfl, rfl, rfl, rfl, rfl, rfl, trivial⟩ (fun w s1 => by
            have s2 := s1.pick (G' := [_, _, _, _, _, _]) [0, 1, 2, 3, 4, 5] (by decide) rfl
            rw [show td.length + 1 = (td ++ [nb W H u kk]).length by simp] at s2
            exact s2))
          ·refine T.skip (hK26 _ _ (T.conseq (fr' := [(0, _), (2, _), (3, _), (4, _), (13, _), (15, _), (16, _), (38, _), (39, _), (40, _), (79, _), (80, _), (81, _)]) ?_ ⟨rfl, rfl, rfl, rfl, rfl, rfl, rfl, rfl, rfl, rfl, rfl, rfl, rfl, trivial⟩ (fun _ s => s)))
           refine T.region ?_
           refine RS.p (Pu.addS rfl rfl (by omega)) rfl rfl ?_
           refine RS.p (Pu.move rfl) rfl rfl ?_
           refine RS.nil (hL4 _ _ (kk + 1, p4, td, q4) ⟨by omega, by omega, hg.skip (fun ha => by first | omega | exact absurd (h93.symm.trans ha.2.2.1) Bool.false_ne_true | exact absurd (ha.2.2.2.1.trans hus) hc106 | exact absurd (nbr_in hW.1 ha.1 ha.2.2.2.2).1 h87), hmz⟩ (by show ((4 : Int) - (kk + 1)).toNat < (4 - kk).toNat; omega) ⟨(by first | rfl | exact veq (by simp)), rfl, rfl, rfl, rfl, rfl, rfl, rfl, rfl, rfl, rfl, rfl, rfl, trivial⟩ (fun _ s => s))
         ·refine RS.no rfl rfl ?_
          refine RS.no rfl rfl ?_
          refine RS.no rfl rfl ?_
          refine RS.no rfl rfl ?_
          refine RS.no rfl rfl ?_
          refine RS.p (Pu.pickF rfl rfl) rfl rfl ?_
          refine RS.nil (hK28 _ _ ?_)
          refine T.condF rfl ?_
          refine T.skip (hK26 _ _ (T.conseq (fr' := [(0, _), (2, _), (3, _), (4, _), (13, _), (15, _), (16, _), (38, _), (39, _), (40, _), (79, _), (80, _), (81, _)]) ?_ ⟨rfl, rfl, rfl, rfl, rfl, rfl, rfl, rfl, rfl, rfl, rfl, rfl, rfl, trivial⟩ (fun _ s => s)))
          refine T.region ?_
          refine RS.p (Pu.addS rfl rfl (by omega)) rfl rfl ?_
          refine RS.p (Pu.move rfl) rfl rfl ?_
          refine RS.nil (hL4 _ _ (kk + 1, p4, td, q4) ⟨by omega, by omega, hg.skip (fun ha => by first | omega | exact absurd (h93.symm.trans ha.2.2.1) Bool.false_ne_true | exact absurd (ha.2.2.2.1.trans hus) hc106 | exact absurd (nbr_in hW.1 ha.1 ha.2.2.2.2).1 h87), hmz⟩ (by show ((4 : Int) - (kk + 1)).toNat < (4 - kk).toNat; omega) ⟨(by first | rfl | exact veq (by simp)), rfl, rfl, rfl, rfl, rfl, rfl, rfl, rfl, rfl, rfl, rfl, rfl, trivial⟩ (fun _ s => s))
        ·refine RS.no rfl rfl ?_
         refine RS.no rfl rfl ?_
         refine RS.no rfl rfl ?_
         refine RS.no rfl rfl ?_
         refine RS.no rfl rfl ?_
         refine RS.p (Pu.pickF rfl rfl) rfl rfl ?_
         refine RS.p (Pu.move rfl) rfl rfl ?_
         refine RS.no rfl rfl ?_
         refine RS.no rfl rfl ?_
         refine RS.no rfl rfl ?_
         refine RS.no rfl rfl ?_
         refine RS.no rfl rfl ?_
         refine RS.p (Pu.pickF rfl rfl) rfl rfl ?_
         refine RS.nil (hK28 _ _ ?_)
         refine T.condF rfl ?_
         refine T.skip (hK26 _ _ (T.conseq (fr' := [(0, _), (2, _), (3, _), (4, _), (13, _), (15, _), (16, _), (38, _), (39, _), (40, _), (79, _), (80, _), (81, _)]) ?_ ⟨rfl, rfl, rfl, rfl, rfl, rfl, rfl, rfl, rfl, rfl, rfl, rfl, rfl, trivial⟩ (fun _ s => s)))
         refine T.region ?_
         refine RS.p (Pu.addS rfl rfl (by omega)) rfl rfl ?_
         refine RS.p (Pu.move rfl) rfl rfl ?_
         refine RS.nil (hL4 _ _ (kk + 1, p4, td, q4) ⟨by omega, by omega, hg.skip (fun ha => by first | omega | exact absurd (h93.symm.trans ha.2.2.1) Bool.false_ne_true | exact absurd (ha.2.2.2.1.trans hus) hc106 | exact absurd (nbr_in hW.1 ha.1 ha.2.2.2.2).1 h87), hmz⟩ (by show ((4 : Int) - (kk + 1)).toNat < (4 - kk).toNat; omega) ⟨(by first | rfl | exact veq (by simp)), rfl, rfl, rfl, rfl, rfl, rfl, rfl, rfl, rfl, rfl, rfl, rfl, trivial⟩ (fun _ s => s))
       ·refine RS.no rfl rfl ?_
        refine RS.no rfl rfl ?_
        refine RS.no rfl rfl ?_
        refine RS.no rfl rfl ?_
        refine RS.p (Pu.pickF rfl rfl) rfl rfl ?_
        refine RS.p (Pu.move rfl) rfl rfl ?_
        refine RS.no rfl rfl ?_
        refine RS.no rfl rfl ?_
        refine RS.no rfl rfl ?_
        refine RS.no rfl rfl ?_
        refine RS.no rfl rfl ?_
        refine RS.p (Pu.pickF rfl rfl) rfl rfl ?_
        refine RS.p (Pu.move rfl) rfl rfl ?_
        refine RS.no rfl rfl ?_
        refine RS.no rfl rfl ?_
        refine RS.no rfl rfl ?_
        refine RS.no rfl rfl ?_
        refine RS.no rfl rfl ?_
        refine RS.p (Pu.pickF rfl rfl) rfl rfl ?_
        refine RS.nil (hK28 _ _ ?_)
        refine T.condF rfl ?_
        refine T.skip (hK26 _ _ (T.conseq (fr' := [(0, _), (2, _), (3, _), (4, _), (13, _), (15, _), (16, _), (38, _), (39, _), (40, _), (79, _), (80, _), (81, _)]) ?_ ⟨rfl, rfl, rfl, rfl, rfl, rfl, rfl, rfl, rfl, rfl, rfl, rfl, rfl, trivial⟩ (fun _ s => s)))
        refine T.region ?_
        refine RS.p (Pu.addS rfl rfl (by omega)) rfl rfl ?_
        refine RS.p (Pu.move rfl) rfl rfl ?_
        refine RS.nil (hL4 _ _ (kk + 1, p4, td, q4) ⟨by omega, by omega, hg.skip (fun ha => by first | omega | exact absurd (h93.symm.trans ha.2.2.1) Bool.false_ne_true | exact absurd (ha.2.2.2.1.trans hus) hc106 | exact absurd (nbr_in hW.1 ha.1 ha.2.2.2.2).1 h87), hmz⟩ (by show ((4 : Int) - (kk + 1)).toNat < (4 - kk).toNat; omega) ⟨(by first | rfl | exact veq (by simp)), rfl, rfl, rfl, rfl, rfl, rfl, rfl, rfl, rfl, rfl, rfl, rfl, trivial⟩ (fun _ s => s))
      ·refine T.exitTo (by with_reducible (repeat (first | exact ExTo.here | exact ExTo.hereN | exact ExTo.deep (by repeat (first | exact NmTo.seq | apply NmTo.blk)) | apply ExTo.seq | refine ExTo.past (by decide) ?_))) (hL3 _ _ (p4, td, q4) ⟨(by have e4 : kk = 4 := (by omega); exact (e4 ▸ hg).next hW.1), by show 2 * _ + td.length ≤ _; omega⟩ (by show 2 * p4.countP (· < 0) + td.length < 2 * p3.countP (· < 0) + todo.length; omega) ⟨rfl, rfl, rfl, rfl, rfl, rfl, rfl, rfl, rfl, rfl, trivial⟩ (fun w s => s.pick [0, 1, 2, 3, 4] (by decide) rfl))
     ·refine T.exitTo (by with_reducible (repeat (first | exact ExTo.here | exact ExTo.hereN | exact ExTo.deep (by repeat (first | exact NmTo.seq | apply NmTo.blk)) | apply ExTo.seq | refine ExTo.past (by decide) ?_))) (hK12 _ _ (T.conseq (fr' := [(0, _), (2, _), (3, _), (4, _), (13, _), (38, _), (39, _), (40, _)]) ?_ ⟨rfl, rfl, rfl, rfl, rfl, rfl, rfl, rfl, trivial⟩ (fun _ s => s)))
      refine T.region ?_
      refine RS.p (Pu.addS rfl rfl (by omega)) rfl rfl ?_
      refine RS.p (Pu.move rfl) rfl rfl ?_
      have htd0 : todo = [] := List.eq_nil_of_length_eq_zero (by omega)
      rw [htd0] at hI
      refine RS.nil (hL2 _ _ (k + 1, p3) ⟨by omega, by omega, hoi.flood hW.1 hl ⟨hk0, hc41⟩ rfl hfree hneg hI⟩ (by show ((l.length : Int) - (k + 1)).toNat < (l.length - k).toNat; omega) ⟨rfl, rfl, rfl, rfl, rfl, rfl, rfl, rfl, trivial⟩ (fun w s => s.pick [0, 1, 2, 3] (by decide) rfl))
  ·refine T.exitTo (by with_reducible (repeat (first | exact ExTo.here | exact ExTo.hereN | exact ExTo.deep (by repeat (first | exact NmTo.seq | apply NmTo.blk)) | apply ExTo.seq | refine ExTo.past (by decide) ?_))) (Cont.end0 rfl fun w' s => ?_)
   refine ⟨⟨p2, hoi.done hl (by omega)⟩, rfl, s.pick [0, 1] (by decide) rfl⟩
end Go.Proofs.Ytddicdmleeaihaa
