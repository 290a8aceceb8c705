/-
  slices.IndexFunc and slices.DeleteFunc of inputs, over the elements' cells.
-/
import Derived.Test.YtlpmiledfcblfaaRows
import Derived.Test.YtlpmiledfcblfaaV3
import Derived.Test.YtlpmiledfcblfaaVP
import Derived.Test.YtlpmiledfcblfaaTO
set_option linter.unusedVariables false
set_option linter.unusedSimpArgs false
set_option maxRecDepth 20000
set_option maxHeartbeats 4000000
namespace Go.Proofs.Ytlpmiledfcblfaa
open Go.Vg
open Enc (R)
theorem ent70 : Ent Try.prog 70 := ⟨_, _, Try.func70, by kernel_rfl, rfl⟩
theorem sl24 : slTy Try.prog 24 = some (50, 3, 40) := by kernel_rfl
theorem ty50 : tySz Try.prog 50 = some (3, true) := by kernel_rfl
theorem zr50 : zeroOf Try.prog 50 = some (.agg #[.int .i64 0, .int .i64 0, .slice none 0 0]) := by kernel_rfl
def raw_IndexFunc (a0_s : List Raw3) (a1_f : Raw3 → Option Bool) : Option Int :=
  Option.bind (α := Ex (Unit) (Int)) (loop (σ := Int) (β := Ex (Unit) (Int)) (fun v2 =>
  if v2 < (a0_s.length : Int) then
  if 0 ≤ v2 ∧ v2 < (a0_s.length : Int) then
  Option.bind (a1_f (gi a0_s v2)) fun x8 =>
  if x8 = true then
  some (St.done (Ex.up v2))
  else
  if I64 (v2 + 1) then
  some (St.next (v2 + 1))
  else none
  else none
  else
  some (St.done (Ex.go ()))) 0) fun x => x.then fun _ =>
  some (-1)
theorem raw_IndexFunc_walk (a0_s : List Raw3) (a1_f : Raw3 → Option Bool) (w : World) {v0 v1 : Value} (h0 : R (hpOf w) a0_s [v0]) (h1 : FnQ Try.prog w v1 (fun (y0 : Raw3) => [.agg #[y0.a, y0.b, y0.c]]) (fun (r : Bool) => .bool r) a1_f) {r : Int} (H : raw_IndexFunc a0_s a1_f = some r) : Calls Try.prog 70 #[v0, v1] w fun e w' => e = .returned (.int .i64 r) ∧ Ext w w' := by
 have hm0 := R_max h0
 obtain ⟨p0, c0, rfl⟩ := R_form h0
 unfold raw_IndexFunc at H
 refine T.enter (args := [_, _]) (S := Sat w []) Try.func70 rfl rfl (Sat.start w) ?_
 refine T.seq fun K1 hK1 => ?_
 refine T.region ?_
 refine RS.p (Pu.assign rfl) rfl rfl ?_
 refine RS.nil (hK1 _ _ ?_)
 refine T.seq fun K2 hK2 => ?_
 refine T.seq fun K3 hK3 => ?_
 refine T.region ?_
 refine RS.p (Pu.move rfl) rfl rfl ?_
 refine RS.p (Pu.lenSl sl24 rfl) rfl rfl ?_
 refine RS.p (Pu.move rfl) rfl rfl ?_
 refine RS.nil (hK3 _ _ ?_)
 refine T.joinE (σ := Unit) (γ := Unit) H Ex.go [] trivial (fun _ _ => []) (fun _ _ => Sat w []) ?_ ?_
 ·rintro ⟨⟩ ⟨⟩ H
  try dsimp only [Ex.then] at H
  refine Cont.conseq (fr' := []) ?_ trivial (fun _ s => s)
  refine id (hK2 _ _ ?_)
  refine T.seq fun K4 hK4 => ?_
  refine T.region ?_
  refine RS.p (Pu.assign rfl) rfl rfl ?_
  refine RS.nil (hK4 _ _ ?_)
  obtain rfl := Option.some.inj H
  refine T.retTo (by with_reducible ((repeat (first | apply RetTo.seq | apply RetTo.blk)); exact RetTo.refl _)) (Cont.ret1 rfl rfl fun w' s => ?_)
  exact ⟨rfl, s.ext⟩
 ·intro z1 hz1 HX1 hJ1
  refine T.block ?_
  refine T.loopA (γ := Unit) hz1 [(0, _), (1, _), (7, _)] (fun v2 _ => [(8, .int .i64 v2)]) (fun v2 _ => Sat w []) () ⟨rfl, rfl, rfl, trivial⟩ ⟨rfl, trivial⟩ (fun w s => s) ?_
  rintro v2 ⟨⟩ y3 H hd1 KL1 hL1
  try dsimp only [Ex.then] at H
  refine T.conseq (fr' := [(8, _), (0, _), (1, _), (7, _)]) ?_ ⟨rfl, rfl, rfl, rfl, trivial⟩ (fun _ s => s)
  refine T.seq fun K5 hK5 => ?_
  refine T.region ?_
  refine RS.p (Pu.bin rfl rfl rfl) rfl rfl ?_
  refine RS.nil (hK5 _ _ ?_)
  refine T.seq fun K6 hK6 => ?_
  refine T.condP rfl (fun hc4 => ?_) (fun hc4 => ?_)
  ·have H := ifT hc4 H
   refine T.skip (hK6 _ _ ?_)
   refine T.seq fun K7 hK7 => ?_
   refine T.block ?_
   refine T.seq fun K8 hK8 => ?_
   refine T.region ?_
   refine RS.p (Pu.move rfl) rfl rfl ?_
   refine RS.p (Pu.assign rfl) rfl rfl ?_
   refine RS.nil (hK8 _ _ ?_)
   refine T.seq fun K9 hK9 => ?_
   refine T.region ?_
   refine RS.p (Pu.move rfl) rfl rfl ?_
   refine RS.p (Pu.move rfl) rfl rfl ?_
   refine RS.p (Pu.move rfl) rfl rfl ?_
   obtain ⟨g5, H⟩ := gdE H
   obtain ⟨bl6, ol7, rfl⟩ := R_ptr h0 (ne_of_pos (pos_of g5))
   refine RS.p (Pu.indexSl sl24 rfl rfl g5) rfl rfl ?_
   refine RS.q (Qt.ldW (α := Raw3) (cs := [_, _, _]) (Rd.base h0) ty50 rfl rfl g5 rfl (by rintro _ _ rfl; rfl)) rfl rfl ?_
   obtain ⟨x8, hx8, H⟩ := bindE H
   refine RS.q (Qt.callV rfl h1 (fun w s => s.ext) hx8 rfl) rfl rfl ?_
   refine RS.nil (hK9 _ _ ?_)
   refine T.cond rfl (fun hc9 => ?_) (fun hc9 => ?_)
   ·have H := ifT hc9 H
    refine T.conseq (fr' := [(5, _)]) ?_ ⟨rfl, trivial⟩ (fun _ s => s)
    refine T.seq fun K10 hK10 => ?_
    refine T.region ?_
    refine RS.p (Pu.move rfl) rfl rfl ?_
    refine RS.p (Pu.assign rfl) rfl rfl ?_
    refine RS.nil (hK10 _ _ ?_)
    obtain rfl := hd1 _ H
    have H := HX1
    obtain rfl := Option.some.inj H
    refine T.retTo (by with_reducible ((repeat (first | apply RetTo.seq | apply RetTo.blk)); exact RetTo.refl _)) (Cont.ret1 rfl rfl fun w' s => ?_)
    exact ⟨rfl, s.ext⟩
   ·have H := ifB hc9 H
    refine T.skip (hK7 _ _ (T.conseq (fr' := [(0, _), (1, _), (7, _), (8, _)]) ?_ ⟨rfl, rfl, rfl, rfl, trivial⟩ (fun _ s => s)))
    refine T.region ?_
    obtain ⟨g10, H⟩ := gdE H
    refine RS.p (Pu.addS rfl rfl g10) rfl rfl ?_
    refine RS.p (Pu.move rfl) rfl rfl ?_
    refine RS.nil (hL1 _ _ (v2 + 1) () H ⟨rfl, rfl, rfl, trivial⟩ ⟨rfl, trivial⟩ (fun w s => s))
  ·have H := ifF hc4 H
   obtain rfl := hd1 _ H
   refine T.exitTo (by with_reducible (repeat (first | exact ExTo.here | exact ExTo.hereN | exact ExTo.deep (by repeat (first | exact NmTo.seq | apply NmTo.blk)) | apply ExTo.seq | refine ExTo.past (by decide) ?_))) (hJ1 _ _ () () HX1 trivial trivial (fun w s => s))
def raw_DeleteFunc (a0_s : List Raw3) (a1_del : Raw3 → Option Bool) : Option (List Raw3) :=
  Option.bind (raw_IndexFunc a0_s a1_del) fun x1 =>
  if x1 = (-1) then
  some a0_s
  else
  if I64 (x1 + 1) then
  Option.bind (α := Int × List Raw3) (loop (σ := Int × Int × List Raw3) (β := Int × List Raw3) (fun (v12, v13, l14) =>
  if v13 < (a0_s.length : Int) then
  if 0 ≤ v13 ∧ v13 < (a0_s.length : Int) then
  Option.bind (a1_del (gi l14 v13)) fun x22 =>
  if (!x22) = true then
  if 0 ≤ v12 ∧ v12 < (a0_s.length : Int) then
  if I64 (v12 + 1) then
  if I64 (v13 + 1) then
  some (St.next ((v12 + 1), (v13 + 1), (si l14 v12 (gi l14 v13))))
  else none
  else none
  else none
  else
  if I64 (v13 + 1) then
  some (St.next (v12, (v13 + 1), l14))
  else none
  else none
  else
  some (St.done (v12, l14))) (x1, (x1 + 1), a0_s)) fun (v5, v6) =>
  if 0 ≤ v5 ∧ v5 < (a0_s.length : Int) then
  some (v6.take v5.toNat)
  else none
  else none
theorem raw_DeleteFunc_walk {w0 : World} {F : Ch} (a0_s : List Raw3) (a1_del : Raw3 → Option Bool) {q0 : Option Nat × Nat} {m0 : Nat} (hm : m0 = a0_s.length) {v0 : Value} (h0 : FnF Try.prog w0 F v0 (fun (y0 : Raw3) => [.agg #[y0.a, y0.b, y0.c]]) (fun (r : Bool) => .bool r) a1_del) {r : List Raw3} (H : raw_DeleteFunc a0_s a1_del = some r) (w : World) (s : Sat w0 [row nilH 50 (rowV q0 m0) a0_s, F] w) : Calls Try.prog 106 #[rowV q0 m0, v0] w fun e w' => ∃ q : Option Nat × Nat, e = .returned (rowV q r.length) ∧ Sat w0 [row nilH 50 (rowV q r.length) r, F] w' := by
 subst hm
 unfold raw_DeleteFunc at H
 refine T.enter (args := [_, _]) (S := Sat w0 [row nilH 50 (rowV q0 a0_s.length) a0_s, F]) Try.func106 rfl rfl (s) ?_
 refine T.seq fun K1 hK1 => ?_
 refine T.region ?_
 refine RS.p (Pu.assign rfl) rfl rfl ?_
 refine RS.nil (hK1 _ _ ?_)
 refine T.seq fun K2 hK2 => ?_
 refine T.region ?_
 refine RS.p (Pu.move rfl) rfl rfl ?_
 refine RS.p (Pu.move rfl) rfl rfl ?_
 obtain ⟨x1, hx1, H⟩ := bindE H
 refine RS.q (Qt.call (vs := [rowV q0 a0_s.length, v0]) ent70 rfl fun w s => raw_IndexFunc_walk a0_s a1_del w ((Rd.ofRowN 0 rfl) w s) (FnF.toQ h0 (s.pick [1] (by decide) rfl)) hx1) rfl rfl ?_
 refine RS.p (Pu.assign rfl) rfl rfl ?_
 refine RS.nil (hK2 _ _ (T.conseq (fr' := [(0, _), (1, _), (5, _)]) ?_ ⟨rfl, rfl, rfl, trivial⟩ (fun _ s => s)))
 refine T.seq fun K3 hK3 => ?_
 refine T.seq fun K4 hK4 => ?_
 refine T.region ?_
 refine RS.p (Pu.move rfl) rfl rfl ?_
 refine RS.p (Pu.bin rfl rfl rfl) rfl rfl ?_
 refine RS.nil (hK4 _ _ ?_)
 refine T.condP rfl (fun hc2 => ?_) (fun hc2 => ?_)
 ·have H := ifT hc2 H
  refine T.conseq (fr' := [(0, _)]) ?_ ⟨rfl, trivial⟩ (fun _ s => s)
  refine T.seq fun K5 hK5 => ?_
  refine T.region ?_
  refine RS.p (Pu.move rfl) rfl rfl ?_
  refine RS.p (Pu.assign rfl) rfl rfl ?_
  refine RS.nil (hK5 _ _ ?_)
  obtain rfl := Option.some.inj H
  refine T.retTo (by with_reducible ((repeat (first | apply RetTo.seq | apply RetTo.blk)); exact RetTo.refl _)) (Cont.ret1 rfl rfl fun w' s => ?_)
  exact ⟨q0, rfl, s.pick [0, 1] (by decide) rfl⟩
 ·have H := ifF hc2 H
  refine T.skip (hK3 _ _ ?_)
  refine T.seq fun K6 hK6 => ?_
  refine T.seq fun K7 hK7 => ?_
  refine T.region ?_
  refine RS.p (Pu.move rfl) rfl rfl ?_
  obtain ⟨g3, H⟩ := gdE H
  refine RS.p (Pu.addS rfl rfl g3) rfl rfl ?_
  refine RS.p (Pu.assign rfl) rfl rfl ?_
  refine RS.nil (hK7 _ _ (T.conseq (fr' := [(0, _), (1, _), (5, _), (6, _)]) ?_ ⟨rfl, rfl, rfl, rfl, trivial⟩ (fun _ s => s)))
  refine T.joinE (σ := Int × List Raw3) (γ := Unit) H (fun s => s) [(0, _)] ⟨rfl, trivial⟩ (fun (v5, v6) _ => [(5, .int .i64 v5)]) (fun (v5, v6) _ => Sat w0 [row nilH 50 (rowV q0 a0_s.length) v6, F]) ?_ ?_
  ·rintro ⟨v5, v6⟩ ⟨⟩ H
   try dsimp only [Ex.then] at H
   refine Cont.conseq (fr' := [(5, _), (0, _)]) ?_ ⟨rfl, rfl, trivial⟩ (fun _ s => s)
   refine id (hK6 _ _ ?_)
   refine T.seq fun K8 hK8 => ?_
   refine T.region ?_
   refine RS.p (Pu.move rfl) rfl rfl ?_
   refine RS.p (Pu.move rfl) rfl rfl ?_
   obtain ⟨g7, H⟩ := gdE H
   refine RS.know (p := ∃ g cap, q0 = (some g, cap)) (fun w s => (s.row_some (k := 0) rfl (by have h1 := g7; have h2 := (s.row_fits (q := q0) (m := a0_s.length) (k := 0) rfl).1; omega))) ?_
   rintro ⟨gg8, cc9, rfl⟩
   refine RS.know (fun w s => (s.row_fits (q := (some gg8, cc9)) (m := a0_s.length) (k := 0) rfl)) fun hf10 => ?_
   refine RS.p (Pu.sliceLs (j := v5.toNat) sl24 rfl rfl (by have h1 := g7; omega) (by have h1 := g7; omega) (by have h1 := g7; have h2 := hf10.2.1; omega)) rfl rfl ?_
   refine RS.weakS (fun w s => s.cutRow (q := (some gg8, cc9)) (m := a0_s.length) 0 v5.toNat rfl (by have h1 := g7; omega)) ?_
   refine RS.solid (Sd.clearSp (α := Raw3) 0 v5.toNat rfl sl24 zr50 rfl (by decide) (by simp only [ev, look_cons]; simp; rfl) (by rw [List.length_take]; exact Nat.min_le_left _ _) (by have h1 := g7; have h2 := hf10.2.1; omega) (by have h1 := g7; omega)) rfl rfl fun _ => ?_
   refine RS.nil (hK8 _ _ (T.conseq (fr' := [(0, _), (5, _)]) ?_ ⟨rfl, rfl, trivial⟩ (fun _ s => s)))
   refine T.seq fun K9 hK9 => ?_
   refine T.region ?_
   refine RS.p (Pu.move rfl) rfl rfl ?_
   refine RS.p (Pu.move rfl) rfl rfl ?_
   refine RS.know (fun w s => (s.row_fits (q := (some gg8, cc9)) (m := v5.toNat) (k := 0) rfl)) fun hf11 => ?_
   refine RS.p (Pu.sliceH sl24 rfl rfl (by have h1 := g7; have h2 := hf11.2.1; omega)) rfl rfl ?_
   refine RS.p (Pu.assign rfl) rfl rfl ?_
   refine RS.nil (hK9 _ _ (T.conseq (fr' := [(4, _)]) ?_ ⟨rfl, trivial⟩ (fun _ s => s)))
   obtain rfl := Option.some.inj H
   refine T.retTo (by with_reducible ((repeat (first | apply RetTo.seq | apply RetTo.blk)); exact RetTo.refl _)) (Cont.ret1 rfl rfl fun w' s => ?_)
   exact ⟨(some gg8, cc9), (by have h9 := (s.row_fits (q := (some gg8, cc9)) (m := v5.toNat) (k := 0) rfl).1; first | (rw [← h9]; done) | (rw [← h9]; rfl)), (Sat.relen (q := (some gg8, cc9)) (m := v5.toNat) 0 s rfl).pick [0, 1] (by decide) rfl⟩
  ·intro z4 hz4 HX4 hJ4
   refine T.block ?_
   refine T.loopA (γ := Unit) hz4 [(0, _), (1, _)] (fun (v12, v13, l14) _ => [(5, .int .i64 v12), (6, .int .i64 v13)]) (fun (v12, v13, l14) _ => Sat w0 [row nilH 50 (rowV q0 a0_s.length) l14, F]) () ⟨rfl, rfl, trivial⟩ ⟨rfl, rfl, trivial⟩ (fun w s => s) ?_
   rintro ⟨v12, v13, l14⟩ ⟨⟩ y15 H hd4 KL4 hL4
   try dsimp only [Ex.then] at H
   refine T.conseq (fr' := [(5, _), (6, _), (0, _), (1, _)]) ?_ ⟨rfl, rfl, rfl, rfl, trivial⟩ (fun _ s => s)
   refine T.seq fun K10 hK10 => ?_
   refine T.seq fun K11 hK11 => ?_
   refine T.region ?_
   refine RS.p (Pu.move rfl) rfl rfl ?_
   refine RS.p (Pu.move rfl) rfl rfl ?_
   refine RS.p (Pu.lenSl sl24 rfl) rfl rfl ?_
   refine RS.p (Pu.bin rfl rfl rfl) rfl rfl ?_
   refine RS.nil (hK11 _ _ ?_)
   refine T.condP rfl (fun hc16 => ?_) (fun hc16 => ?_)
   ·have H := ifT hc16 H
    refine T.skip (hK10 _ _ (T.conseq (fr' := [(0, _), (1, _), (5, _), (6, _)]) ?_ ⟨rfl, rfl, rfl, rfl, trivial⟩ (fun _ s => s)))
    refine T.seq fun K12 hK12 => ?_
    refine T.block ?_
    refine T.seq fun K13 hK13 => ?_
    refine T.region ?_
    refine RS.p (Pu.move rfl) rfl rfl ?_
    refine RS.p (Pu.move rfl) rfl rfl ?_
    obtain ⟨g17, H⟩ := gdE H
    refine RS.know (fun w s => (s.row_fits (q := q0) (m := a0_s.length) (k := 0) rfl)) fun hf18 => ?_
    refine RS.know (p := ∃ g cap, q0 = (some g, cap)) (fun w s => (s.row_some (k := 0) rfl (pos_of (idx_of hf18.1 g17)))) ?_
    rintro ⟨gg19, cc20, rfl⟩
    refine RS.p (Pu.indexSl sl24 rfl rfl g17) rfl rfl ?_
    refine RS.q (Qt.ldW (α := Raw3) (cs := [_, _, _]) (Rd.ofRowN 0 rfl) ty50 rfl rfl (idx_of hf18.1 g17) rfl (by rintro _ _ rfl; rfl)) rfl rfl ?_
    refine RS.solid (Sd.alloc zr50 rfl) rfl rfl fun b21 => ?_
    refine RS.solid (Sd.stB (cs' := [_, _, _]) 2 ty50 rfl rfl rfl rfl rfl rfl (by exact all_raw _) rfl) rfl rfl fun _ => ?_
    refine RS.nil (hK13 _ _ (T.conseq (fr' := [(0, _), (1, _), (5, _), (6, _), (7, _)]) ?_ ⟨rfl, rfl, rfl, rfl, rfl, trivial⟩ (fun _ s => s)))
    refine T.seq fun K14 hK14 => ?_
    refine T.region ?_
    refine RS.p (Pu.move rfl) rfl rfl ?_
    refine RS.q (Qt.ldBA (us := [_, _, _]) 2 ty50 rfl rfl rfl rfl) rfl rfl ?_
    obtain ⟨x22, hx22, H⟩ := bindE H
    refine RS.q (Qt.callF rfl h0 (fun w s => s.pick [1] (by decide) rfl) hx22 rfl) rfl rfl ?_
    refine RS.p (Pu.not rfl) rfl rfl ?_
    refine RS.nil (hK14 _ _ ?_)
    refine T.cond rfl (fun hc23 => ?_) (fun hc23 => ?_)
    ·have H := ifT hc23 H
     refine T.conseq (fr' := [(0, _), (1, _), (5, _), (6, _), (7, _)]) ?_ ⟨rfl, rfl, rfl, rfl, rfl, trivial⟩ (fun _ s => s)
     refine T.seq fun K15 hK15 => ?_
     refine T.region ?_
     refine RS.p (Pu.move rfl) rfl rfl ?_
     refine RS.p (Pu.move rfl) rfl rfl ?_
     refine RS.q (Qt.ldBA (us := [_, _, _]) 2 ty50 rfl rfl rfl rfl) rfl rfl ?_
     obtain ⟨g24, H⟩ := gdE H
     refine RS.know (fun w s => (s.row_fits (q := (some gg19, cc20)) (m := a0_s.length) (k := 0) rfl)) fun hf25 => ?_
     refine RS.p (Pu.indexSl sl24 rfl rfl g24) rfl rfl ?_
     refine RS.solid (Sd.st0 (α := Raw3) 0 (gi l14 v13) rfl ty50 rfl rfl rfl (idx_of hf25.1 g24) rfl rfl (by decide) (by exact all_raw _) (by rintro _ _ rfl; rfl)) rfl rfl fun _ => ?_
     refine RS.nil (hK15 _ _ (T.conseq (fr' := [(0, _), (1, _), (5, _), (6, _)]) ?_ ⟨rfl, rfl, rfl, rfl, trivial⟩ (fun _ s => s)))
     refine T.region ?_
     refine RS.p (Pu.move rfl) rfl rfl ?_
     obtain ⟨g26, H⟩ := gdE H
     refine RS.p (Pu.addS rfl rfl g26) rfl rfl ?_
     refine RS.p (Pu.assign rfl) rfl rfl ?_
     refine RS.nil (hK12 _ _ ?_)
     refine T.region ?_
     refine RS.p (Pu.move rfl) rfl rfl ?_
     obtain ⟨g27, H⟩ := gdE H
     refine RS.p (Pu.addS rfl rfl g27) rfl rfl ?_
     refine RS.p (Pu.assign rfl) rfl rfl ?_
     refine RS.nil (hL4 _ _ ((v12 + 1), (v13 + 1), (si l14 v12 (gi l14 v13))) () H ⟨rfl, rfl, trivial⟩ ⟨rfl, rfl, trivial⟩ (fun w s => s.pick [0, 1] (by decide) rfl))
    ·have H := ifB hc23 H
     refine T.skip (hK12 _ _ (T.conseq (fr' := [(0, _), (1, _), (5, _), (6, _)]) ?_ ⟨rfl, rfl, rfl, rfl, trivial⟩ (fun _ s => s)))
     refine T.region ?_
     refine RS.p (Pu.move rfl) rfl rfl ?_
     obtain ⟨g28, H⟩ := gdE H
     refine RS.p (Pu.addS rfl rfl g28) rfl rfl ?_
     refine RS.p (Pu.assign rfl) rfl rfl ?_
     refine RS.nil (hL4 _ _ (v12, (v13 + 1), l14) () H ⟨rfl, rfl, trivial⟩ ⟨rfl, rfl, trivial⟩ (fun w s => s.pick [0, 1] (by decide) rfl))
   ·have H := ifF hc16 H
    obtain rfl := hd4 _ H
    refine T.exitTo (by with_reducible (repeat (first | exact ExTo.here | exact ExTo.hereN | exact ExTo.deep (by repeat (first | exact NmTo.seq | apply NmTo.blk)) | apply ExTo.seq | refine ExTo.past (by decide) ?_))) (hJ4 _ _ (v12, l14) () HX4 ⟨rfl, trivial⟩ ⟨rfl, trivial⟩ (fun w s => s))
end Go.Proofs.Ytlpmiledfcblfaa
