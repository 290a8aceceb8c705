/-
  The walks of package queue: what New, Push, Pop and Len do to a queue that stands for a sorted list. For every queue of fewer than 2^40 entries.
-/
import Derived.Test.YtacpdjccbadomaaRows
import Derived.Test.YtacpdjccbadomaaQP
import Derived.Test.YtacpdjccbadomaaVG
set_option linter.unusedVariables false
set_option linter.unusedSimpArgs false
set_option maxRecDepth 20000
set_option maxHeartbeats 1000000
namespace Go.Proofs.Ytacpdjccbadomaa
open Go.Vg
open Enc (R)
open Qp
theorem ent55 : Ent Try.prog 55 := ⟨_, _, Try.func55, by kernel_rfl, rfl⟩
theorem fd78_0 : fdOff Try.prog 78 0 = some 0 := by kernel_rfl
theorem fd81_0 : fdOff Try.prog 81 0 = some 0 := by kernel_rfl
theorem fd81_1 : fdOff Try.prog 81 1 = some 1 := by kernel_rfl
theorem mixed : Try.prog.follows .mixedOrders = true := by kernel_rfl
theorem sl76 : slTy Try.prog 76 = some (81, 2, 16) := by kernel_rfl
theorem st78 : stTy Try.prog 78 = some ([.slice none 0 0], [(0, 1)]) := by kernel_rfl
theorem st81 : stTy Try.prog 81 = some ([.int .i64 0, .int .i64 0], [(0, 1), (1, 1)]) := by kernel_rfl
theorem ty3 : tySz Try.prog 3 = some (1, false) := by kernel_rfl
theorem ty76 : tySz Try.prog 76 = some (1, false) := by kernel_rfl
theorem ty81 : tySz Try.prog 81 = some (2, true) := by kernel_rfl
theorem zr81 : zeroOf Try.prog 81 = some (.agg #[.int .i64 0, .int .i64 0]) := by kernel_rfl
instance : Enc Item where
  sz := 2
  R _ x cs := cs = [.int .i64 x.key, .int .i64 x.val]
  len := fun h => by rw [h]; rfl
  one := fun h u hu => by rw [h] at hu; simp only [List.mem_cons, List.not_mem_nil, or_false] at hu; rcases hu with rfl | rfl <;> rfl
  mono := fun _ h => h
instance : Flat Item := ⟨fun h => h⟩
theorem less_calls (a b : Item) (w : World) : Calls Try.prog 55 #[.agg #[.int .i64 a.key, .int .i64 a.val], .agg #[.int .i64 b.key, .int .i64 b.val]] w fun e w' => e = .returned (.bool (decide (a.Lt b))) ∧ Ext w w' := by
  refine T.enter (args := [.agg #[.int .i64 a.key, .int .i64 a.val], .agg #[.int .i64 b.key, .int .i64 b.val]]) (S := Sat w []) Try.func55 rfl rfl (Sat.start w) ?_
  refine T.seq fun K1 hK1 => ?_
  refine T.region ?_
  refine RS.solid (Sd.box (cs := [_, _]) rfl rfl) rfl rfl fun b2 => ?_
  refine RS.solid (Sd.box (cs := [_, _]) rfl rfl) rfl rfl fun b3 => ?_
  refine RS.p (Pu.assign rfl) rfl rfl ?_
  refine RS.nil (hK1 _ _ (T.conseq (fr' := [(2, _), (3, _)]) ?_ ⟨rfl, rfl, trivial⟩ (fun _ s => s)))
  refine T.seq fun K2 hK2 => ?_
  refine T.region ?_
  refine RS.p (Pu.fieldAddr fd81_0 rfl) rfl rfl ?_
  refine RS.q (Qt.ldB 0 ty3 rfl rfl rfl) rfl rfl ?_
  refine RS.p (Pu.fieldAddr fd81_0 rfl) rfl rfl ?_
  refine RS.q (Qt.ldB 1 ty3 rfl rfl rfl) rfl rfl ?_
  refine RS.p (Pu.bin rfl rfl rfl) rfl rfl ?_
  refine RS.p (Pu.move rfl) rfl rfl ?_
  refine RS.splitP 10 rfl (fun h10 => ?_) (fun h10 => ?_)
  · refine RS.no rfl rfl ?_
    refine RS.no rfl rfl ?_
    refine RS.no rfl rfl ?_
    refine RS.no rfl rfl ?_
    refine RS.no rfl rfl ?_
    refine RS.no rfl rfl ?_
    refine RS.no rfl rfl ?_
    refine RS.no rfl rfl ?_
    refine RS.no rfl rfl ?_
    refine RS.no rfl rfl ?_
    refine RS.no rfl rfl ?_
    refine RS.no rfl rfl ?_
    refine RS.p (Pu.pickT rfl rfl) rfl rfl ?_
    refine RS.p (Pu.assign rfl) rfl rfl ?_
    refine RS.nil (hK2 _ _ (T.conseq (fr' := [(4, _)]) ?_ ⟨rfl, trivial⟩ (fun _ s => s)))
    refine T.retTo (by with_reducible ((repeat (first | apply RetTo.seq | apply RetTo.blk)); exact RetTo.refl _)) (Cont.ret1 rfl rfl fun w' s => ?_)
    exact ⟨by simp [Item.Lt, h10], s.ext⟩
  · refine RS.p (Pu.fieldAddr fd81_0 rfl) rfl rfl ?_
    refine RS.q (Qt.ldB 0 ty3 rfl rfl rfl) rfl rfl ?_
    refine RS.p (Pu.fieldAddr fd81_0 rfl) rfl rfl ?_
    refine RS.q (Qt.ldB 1 ty3 rfl rfl rfl) rfl rfl ?_
    refine RS.p (Pu.bin rfl rfl rfl) rfl rfl ?_
    refine RS.p (Pu.move rfl) rfl rfl ?_
    refine RS.splitP 16 rfl (fun h16 => ?_) (fun h16 => ?_)
    · refine RS.p (Pu.fieldAddr fd81_1 rfl) rfl rfl ?_
      refine RS.q (Qt.ldB 0 ty3 rfl rfl rfl) rfl rfl ?_
      refine RS.p (Pu.fieldAddr fd81_1 rfl) rfl rfl ?_
      refine RS.q (Qt.ldB 1 ty3 rfl rfl rfl) rfl rfl ?_
      refine RS.p (Pu.bin rfl rfl rfl) rfl rfl ?_
      refine RS.p (Pu.pickT rfl rfl) rfl rfl ?_
      refine RS.p (Pu.pickF rfl rfl) rfl rfl ?_
      refine RS.p (Pu.assign rfl) rfl rfl ?_
      refine RS.nil (hK2 _ _ (T.conseq (fr' := [(4, _)]) ?_ ⟨rfl, trivial⟩ (fun _ s => s)))
      refine T.retTo (by with_reducible ((repeat (first | apply RetTo.seq | apply RetTo.blk)); exact RetTo.refl _)) (Cont.ret1 rfl rfl fun w' s => ?_)
      exact ⟨by simp [Item.Lt, h10, h16], s.ext⟩
    · refine RS.no rfl rfl ?_
      refine RS.no rfl rfl ?_
      refine RS.no rfl rfl ?_
      refine RS.no rfl rfl ?_
      refine RS.no rfl rfl ?_
      refine RS.p (Pu.pickF rfl rfl) rfl rfl ?_
      refine RS.p (Pu.pickF rfl rfl) rfl rfl ?_
      refine RS.p (Pu.assign rfl) rfl rfl ?_
      refine RS.nil (hK2 _ _ (T.conseq (fr' := [(4, _)]) ?_ ⟨rfl, trivial⟩ (fun _ s => s)))
      refine T.retTo (by with_reducible ((repeat (first | apply RetTo.seq | apply RetTo.blk)); exact RetTo.refl _)) (Cont.ret1 rfl rfl fun w' s => ?_)
      exact ⟨by simp [Item.Lt, h10, h16], s.ext⟩
/-- A queue that stands for a sorted list. -/
def Qr (s : List Item) : Type := { x : List Item × (Option Nat × Nat) // Heap x.1 ∧ x.1.Perm s ∧ Srt s }
def qch (bq : Nat) (s : List Item) : Ch := exch fun i : Qr s => star (blk bq [rowV i.1.2 i.1.1.length] 78) (row nilH 81 (rowV i.1.2 i.1.1.length) i.1.1)
theorem qch_open {w0 w : World} {bq : Nat} {s : List Item} {F : Ch} (h : Sat w0 [qch bq s, F] w) : ∃ i : Qr s, Sat w0 [blk bq [rowV i.1.2 i.1.1.length] 78, row nilH 81 (rowV i.1.2 i.1.1.length) i.1.1, F] w :=
  let ⟨i, hi⟩ := h.unex; ⟨i, hi.unstar⟩
theorem qch_close {w0 w : World} {bq : Nat} {s l : List Item} {q : Option Nat × Nat} {F : Ch} (h1 : Heap l) (h2 : l.Perm s) (h3 : Srt s) (h : Sat w0 [blk bq [rowV q l.length] 78, row nilH 81 (rowV q l.length) l, F] w) : Sat w0 [qch bq s, F] w :=
  Sat.toEx (C := fun i : Qr s => star (blk bq [rowV i.1.2 i.1.1.length] 78) (row nilH 81 (rowV i.1.2 i.1.1.length) i.1.1)) ⟨(l, q), h1, h2, h3⟩ h.toStar
theorem len_calls {w0 : World} {bq : Nat} {s : List Item} {F : Ch} (w : World) (h : Sat w0 [qch bq s, F] w) : Calls Try.prog 20 #[.pointer (some ⟨bq, 0, none⟩)] w fun e w' => e = .returned (.int .i64 (s.length : Int)) ∧ Sat w0 [qch bq s, F] w' := by
  refine T.enter (args := [.pointer (some ⟨bq, 0, none⟩)]) (S := Sat w0 [qch bq s, F]) Try.func20 rfl rfl (h) ?_
  refine T.ex (fun w h => qch_open h) fun ⟨⟨l, q⟩, hh, hp, hs⟩ => ?_
  dsimp only at hh hp ⊢
  have hlen := hp.length_eq
  refine T.seq fun K1 hK1 => ?_
  refine T.region ?_
  refine RS.p (Pu.assign rfl) rfl rfl ?_
  refine RS.nil (hK1 _ _ ?_)
  refine T.seq fun K2 hK2 => ?_
  refine T.region ?_
  refine RS.p (Pu.move rfl) rfl rfl ?_
  refine RS.p (Pu.nilCheck rfl) rfl rfl ?_
  refine RS.p (Pu.fieldAddr fd78_0 rfl) rfl rfl ?_
  refine RS.q (Qt.ldB 0 ty76 rfl rfl rfl) rfl rfl ?_
  refine RS.p (Pu.lenSl sl76 rfl) rfl rfl ?_
  refine RS.p (Pu.assign rfl) rfl rfl ?_
  refine RS.nil (hK2 _ _ (T.conseq (fr' := [(2, _)]) ?_ ⟨rfl, trivial⟩ (fun _ s => s)))
  refine T.retTo (by with_reducible ((repeat (first | apply RetTo.seq | apply RetTo.blk)); exact RetTo.refl _)) (Cont.ret1 rfl rfl fun w' s => ?_)
  refine ⟨by rw [hlen], qch_close hh hp hs s⟩
theorem push_calls {w0 : World} {bq : Nat} {s : List Item} {F : Ch} (k v : Int) (hsz : s.length < 1099511627776) (w : World) (h : Sat w0 [qch bq s, F] w) : Calls Try.prog 16 #[.pointer (some ⟨bq, 0, none⟩), .int .i64 k, .int .i64 v] w fun e w' => e = .returned (.tuple #[]) ∧ Sat w0 [qch bq (ins ⟨k, v⟩ s), F] w' := by
  refine T.enter (args := [.pointer (some ⟨bq, 0, none⟩), .int .i64 k, .int .i64 v]) (S := Sat w0 [qch bq s, F]) Try.func16 rfl rfl (h) ?_
  refine T.ex (fun w h => qch_open h) fun ⟨⟨l, q⟩, hh, hp, hs⟩ => ?_
  dsimp only at hh hp ⊢
  have hlen := hp.length_eq
  refine T.seq fun K1 hK1 => ?_
  refine T.region ?_
  refine RS.p (Pu.move rfl) rfl rfl ?_
  refine RS.p (Pu.move rfl) rfl rfl ?_
  refine RS.p (Pu.nilCheck rfl) rfl rfl ?_
  refine RS.p (Pu.fieldAddr fd78_0 rfl) rfl rfl ?_
  refine RS.q (Qt.ldB 0 ty76 rfl rfl rfl) rfl rfl ?_
  refine RS.p (Pu.move rfl) rfl rfl ?_
  refine RS.p (Pu.move rfl) rfl rfl ?_
  refine RS.p (Pu.build (cells := [_, _]) st81 rfl rfl) rfl rfl ?_
  refine RS.solid (Sd.litS (cs := [_, _]) sl76 zr81 rfl rfl rfl rfl rfl) rfl rfl fun b16 => ?_
  refine RS.solid (Sd.app1 (y0 := ⟨k, v⟩) 1 3 rfl rfl (nilH_lt _) sl76 zr81 rfl rfl rfl rfl (by omega) (by unfold maxLen; omega)) rfl rfl fun q1 => ?_
  refine RS.p (Pu.nilCheck rfl) rfl rfl ?_
  refine RS.p (Pu.fieldAddr fd78_0 rfl) rfl rfl ?_
  refine RS.solid (Sd.stB 0 ty76 rfl rfl rfl rfl rfl rfl rfl rfl) rfl rfl fun _ => ?_
  refine RS.know (p := ∃ g cap, q1 = (some g, cap)) (fun w s => s.row_some (k := 1) rfl (by simp)) ?_
  rintro ⟨g, cap, rfl⟩
  refine RS.nil (hK1 _ _ (T.conseq (fr' := [(0, _)]) ?_ ⟨rfl, trivial⟩ (fun _ s => s)))
  refine T.seq fun K2 hK2 => ?_
  refine T.region ?_
  refine RS.p (Pu.move rfl) rfl rfl ?_
  refine RS.p (Pu.nilCheck rfl) rfl rfl ?_
  refine RS.p (Pu.fieldAddr fd78_0 rfl) rfl rfl ?_
  refine RS.q (Qt.ldB 0 ty76 rfl rfl rfl) rfl rfl ?_
  refine RS.p (Pu.lenSl sl76 rfl) rfl rfl ?_
  refine RS.p (Pu.subS rfl rfl (by omega)) rfl rfl ?_
  refine RS.p (Pu.assign rfl) rfl rfl ?_
  refine RS.nil (hK2 _ _ (T.conseq (fr' := [(0, _), (6, _)]) ?_ ⟨rfl, rfl, trivial⟩ (fun _ s => s)))
  refine T.block ?_
  refine T.loop (σ := List Item × Nat) (fun ⟨l2, i⟩ => [(0, .pointer (some ⟨bq, 0, none⟩)), (6, .int .i64 (i : Int))]) (fun ⟨l2, i⟩ => Sat w0 [blk bq [rowV (some g, cap) (l.length + 1)] 78, row nilH 81 (rowV (some g, cap) (l.length + 1)) l2, F]) (fun ⟨l2, i⟩ => HUp l2 i ∧ l2.length = l.length + 1 ∧ i < l.length + 1 ∧ l2.Perm (l ++ [⟨k, v⟩])) (fun ⟨l2, i⟩ => i) (l ++ [⟨k, v⟩], l.length) (⟨hh.push _, by simp, by omega, .refl _⟩) ⟨rfl, ieq (by omega), trivial⟩ (fun w s => s.pick [0, 1, 2] (by decide) rfl) ?_
  intro ⟨l2, i⟩ hI K2_ hL1
  obtain ⟨hu, hl2, hi2, hp2⟩ := hI
  dsimp only at hu hl2 hi2 hp2 ⊢
  refine T.seq fun K3 hK3 => ?_
  refine T.seq fun K4 hK4 => ?_
  refine T.region ?_
  refine RS.p (Pu.move rfl) rfl rfl ?_
  refine RS.p (Pu.bin rfl rfl rfl) rfl rfl ?_
  refine RS.nil (hK4 _ _ ?_)
  refine T.condP rfl (fun hc27 => ?_) (fun hc27 => ?_)
  · refine T.skip (hK3 _ _ ?_)
    refine T.block ?_
    refine T.seq fun K5 hK5 => ?_
    refine T.region ?_
    refine RS.p (Pu.move rfl) rfl rfl ?_
    refine RS.p (Pu.subS rfl rfl (by omega)) rfl rfl ?_
    refine RS.p (Pu.quoN rfl rfl (by omega)) rfl rfl ?_
    refine RS.p (Pu.assign rfl) rfl rfl ?_
    refine RS.nil (hK5 _ _ (T.conseq (fr' := [(0, _), (6, _), (7, _)]) ?_ ⟨rfl, rfl, rfl, trivial⟩ (fun _ s => s)))
    refine T.seq fun K6 hK6 => ?_
    refine T.seq fun K7 hK7 => ?_
    refine T.drawn (fun _ => True) [(0, .pu), (1, .pu), (2, .pu), (3, .rd), (4, .pu), (5, .pu), (6, .rd), (7, .pu), (8, .pu), (9, .pu), (10, .rd), (11, .pu), (12, .pu), (13, .rd), (14, .rd), (15, .pu)] mixed (ClE.sat _ _) (by kernel_rfl) ?_
    refine RD.p (fun _ _ => trivial) rfl (Pu.move rfl) rfl rfl ?_
    refine RD.p (fun _ _ => trivial) rfl (Pu.nilCheck rfl) rfl rfl ?_
    refine RD.p (fun _ _ => trivial) rfl (Pu.fieldAddr fd78_0 rfl) rfl rfl ?_
    refine RD.q (fun _ _ => trivial) rfl (Qt.ldB 0 ty76 rfl rfl rfl) rfl rfl ?_
    refine RD.p (fun _ _ => trivial) rfl (Pu.move rfl) rfl rfl ?_
    refine RD.p (fun _ _ => trivial) rfl (Pu.indexSl sl76 rfl rfl (by omega)) rfl rfl ?_
    refine RD.q (fun _ _ => trivial) rfl (Qt.ldEA (α := Item) (i := i) (x0 := el l2 (i)) (cs := [_, _]) (Rd.ofRowN 1 rfl) (el_eq (by omega)) ty81 rfl (by simp [Enc.sz]; try omega) rfl (by rintro _ _ rfl; rfl)) rfl rfl ?_
    refine RD.p (fun _ _ => trivial) rfl (Pu.move rfl) rfl rfl ?_
    refine RD.p (fun _ _ => trivial) rfl (Pu.nilCheck rfl) rfl rfl ?_
    refine RD.p (fun _ _ => trivial) rfl (Pu.fieldAddr fd78_0 rfl) rfl rfl ?_
    refine RD.q (fun _ _ => trivial) rfl (Qt.ldB 0 ty76 rfl rfl rfl) rfl rfl ?_
    refine RD.p (fun _ _ => trivial) rfl (Pu.move rfl) rfl rfl ?_
    refine RD.p (fun _ _ => trivial) rfl (Pu.indexSl sl76 rfl rfl (by omega)) rfl rfl ?_
    refine RD.q (fun _ _ => trivial) rfl (Qt.ldEA (α := Item) (i := (i - 1) / 2) (x0 := el l2 ((i - 1) / 2)) (cs := [_, _]) (Rd.ofRowN 1 rfl) (el_eq (by omega)) ty81 rfl (by simp [Enc.sz]; try omega) rfl (by rintro _ _ rfl; rfl)) rfl rfl ?_
    refine RD.q (fun _ _ => trivial) rfl (Qt.call ent55 rfl fun w _s => less_calls _ _ _) rfl rfl ?_
    refine RD.p (fun _ _ => trivial) rfl (Pu.notP rfl) rfl rfl ?_
    refine RD.nil (hK7 _ _ ?_)
    refine T.condP rfl (fun hc46 => ?_) (fun hc46 => ?_)
    · refine T.retTo (by with_reducible ((repeat (first | apply RetTo.seq | apply RetTo.blk)); exact RetTo.refl _)) (Cont.ret0 rfl fun w' s => ?_)
      refine ⟨rfl, ?_⟩
      have hl3 : l2.length = l.length + 1 := hl2
      rw [← hl3] at s
      exact qch_close (hu.done (.inr (by simpa using hc46))) (hp2.trans ((List.perm_append_comm).trans ((hp.cons _).trans (ins_perm _ _).symm))) hs.ins s
    · refine T.skip (hK6 _ _ (T.conseq (fr' := [(0, _), (6, _), (7, _)]) ?_ ⟨rfl, rfl, rfl, trivial⟩ (fun _ s => s)))
      refine T.seq fun K8 hK8 => ?_
      refine T.drawn (Sat w0 [blk bq [rowV (some g, cap) (l.length + 1)] 78, F]) [(0, .pu), (1, .pu), (2, .pu), (3, .rd), (4, .pu), (5, .pu), (6, .pu), (7, .pu), (8, .rd), (9, .pu), (10, .pu), (11, .pu), (12, .pu), (13, .rd), (14, .pu), (15, .pu), (16, .rd), (17, .pu), (18, .pu), (19, .pu), (20, .rd), (21, .pu), (22, .pu), (23, .rd), (24, .pu), (25, .br), (26, .pu), (27, .br)] mixed (ClE.sat _ _) (by kernel_rfl) ?_
      refine RD.p (fun w s => s.pick [0, 2] (by decide) rfl) rfl (Pu.move rfl) rfl rfl ?_
      refine RD.p (fun w s => s.pick [0, 2] (by decide) rfl) rfl (Pu.nilCheck rfl) rfl rfl ?_
      refine RD.p (fun w s => s.pick [0, 2] (by decide) rfl) rfl (Pu.fieldAddr fd78_0 rfl) rfl rfl ?_
      refine RD.q (fun w s => s.pick [0, 2] (by decide) rfl) rfl (Qt.ldB 0 ty76 rfl rfl rfl) rfl rfl ?_
      refine RD.p (fun w s => s.pick [0, 2] (by decide) rfl) rfl (Pu.move rfl) rfl rfl ?_
      refine RD.p (fun w s => s.pick [0, 2] (by decide) rfl) rfl (Pu.move rfl) rfl rfl ?_
      refine RD.p (fun w s => s.pick [0, 2] (by decide) rfl) rfl (Pu.nilCheck rfl) rfl rfl ?_
      refine RD.p (fun w s => s.pick [0, 2] (by decide) rfl) rfl (Pu.fieldAddr fd78_0 rfl) rfl rfl ?_
      refine RD.q (fun w s => s.pick [0, 2] (by decide) rfl) rfl (Qt.ldB 0 ty76 rfl rfl rfl) rfl rfl ?_
      refine RD.p (fun w s => s.pick [0, 2] (by decide) rfl) rfl (Pu.move rfl) rfl rfl ?_
      refine RD.p (fun w s => s.pick [0, 2] (by decide) rfl) rfl (Pu.move rfl) rfl rfl ?_
      refine RD.p (fun w s => s.pick [0, 2] (by decide) rfl) rfl (Pu.nilCheck rfl) rfl rfl ?_
      refine RD.p (fun w s => s.pick [0, 2] (by decide) rfl) rfl (Pu.fieldAddr fd78_0 rfl) rfl rfl ?_
      refine RD.q (fun w s => s.pick [0, 2] (by decide) rfl) rfl (Qt.ldB 0 ty76 rfl rfl rfl) rfl rfl ?_
      refine RD.p (fun w s => s.pick [0, 2] (by decide) rfl) rfl (Pu.move rfl) rfl rfl ?_
      refine RD.p (fun w s => s.pick [0, 2] (by decide) rfl) rfl (Pu.indexSl sl76 rfl rfl (by omega)) rfl rfl ?_
      refine RD.q (fun w s => s.pick [0, 2] (by decide) rfl) rfl (Qt.ldEA (α := Item) (i := (i - 1) / 2) (x0 := el l2 ((i - 1) / 2)) (cs := [_, _]) (Rd.ofRowN 1 rfl) (el_eq (by omega)) ty81 rfl (by simp [Enc.sz]; try omega) rfl (by rintro _ _ rfl; rfl)) rfl rfl ?_
      refine RD.p (fun w s => s.pick [0, 2] (by decide) rfl) rfl (Pu.move rfl) rfl rfl ?_
      refine RD.p (fun w s => s.pick [0, 2] (by decide) rfl) rfl (Pu.nilCheck rfl) rfl rfl ?_
      refine RD.p (fun w s => s.pick [0, 2] (by decide) rfl) rfl (Pu.fieldAddr fd78_0 rfl) rfl rfl ?_
      refine RD.q (fun w s => s.pick [0, 2] (by decide) rfl) rfl (Qt.ldB 0 ty76 rfl rfl rfl) rfl rfl ?_
      refine RD.p (fun w s => s.pick [0, 2] (by decide) rfl) rfl (Pu.move rfl) rfl rfl ?_
      refine RD.p (fun w s => s.pick [0, 2] (by decide) rfl) rfl (Pu.indexSl sl76 rfl rfl (by omega)) rfl rfl ?_
      refine RD.q (fun w s => s.pick [0, 2] (by decide) rfl) rfl (Qt.ldEA (α := Item) (i := i) (x0 := el l2 (i)) (cs := [_, _]) (Rd.ofRowN 1 rfl) (el_eq (by omega)) ty81 rfl (by simp [Enc.sz]; try omega) rfl (by rintro _ _ rfl; rfl)) rfl rfl ?_
      refine RD.p (fun w s => s.pick [0, 2] (by decide) rfl) rfl (Pu.indexSl sl76 rfl rfl (by omega)) rfl rfl ?_
      refine RD.solid rfl (.inr rfl) rfl rfl (Sd.stE (α := Item) (i := i) (j := 0) (x0 := el l2 i) (x1 := el l2 ((i - 1) / 2)) (us := [_, _]) 1 rfl (el_eq (by omega)) ty81 rfl rfl (by simp [Enc.sz]; try omega) rfl rfl (by decide) rfl (by rintro _ _ rfl; rfl)) (fun _ => ClE.sat _ _) (fun _ w s => s.pick [0, 2] (by decide) rfl) (fun h => nomatch h) fun _ => ?_
      refine RD.p (fun w s => s.pick [0, 2] (by decide) rfl) rfl (Pu.indexSl sl76 rfl rfl (by omega)) rfl rfl ?_
      refine RD.solid rfl (.inr rfl) rfl rfl (Sd.stE (α := Item) (i := (i - 1) / 2) (j := 0) (x0 := el l2 ((i - 1) / 2)) (x1 := el l2 i) (us := [_, _]) 1 rfl (by rw [List.getElem?_set_ne (by omega)]; exact el_eq (by omega)) ty81 rfl rfl (by simp [Enc.sz]; try omega) rfl rfl (by decide) rfl (by rintro _ _ rfl; rfl)) (fun _ => ClE.sat _ _) (fun _ w s => s.pick [0, 2] (by decide) rfl) (fun h => nomatch h) fun _ => ?_   -- queue.go:26
      refine RD.nil (hK8 _ _ (T.conseq (fr' := [(0, _), (7, _)]) ?_ ⟨rfl, rfl, trivial⟩ (fun _ s => s)))
      refine T.region ?_
      refine RS.p (Pu.move rfl) rfl rfl ?_
      refine RS.p (Pu.assign rfl) rfl rfl ?_
      refine RS.nil (hL1 _ _ (swp l2 i ((i - 1) / 2), (i - 1) / 2) ⟨hu.step (by omega) (by omega) (Decidable.not_not.1 hc46), by rw [len_swp]; omega, by omega, (perm_swp (by omega) (by omega)).trans hp2⟩ (by show (i - 1) / 2 < i; omega) ⟨rfl, ieq (by omega), trivial⟩ (fun w s => s))
  · have hi0 : i = 0 := by omega
    refine T.exitTo (by with_reducible (repeat (first | exact ExTo.here | exact ExTo.hereN | apply ExTo.seq | refine ExTo.past (by decide) ?_))) (Cont.end0 rfl fun w' s => ?_)
    refine ⟨rfl, ?_⟩
    have hl3 : l2.length = l.length + 1 := hl2
    rw [← hl3] at s
    exact qch_close (hu.done (.inl hi0)) (hp2.trans ((List.perm_append_comm).trans ((hp.cons _).trans (ins_perm _ _).symm))) hs.ins s
theorem new_calls (w : World) : Calls Try.prog 14 #[] w fun e w' => ∃ b : Nat, e = .returned (.pointer (some ⟨b, 0, none⟩)) ∧ Sat w [qch b []] w' := by
  refine T.enter (args := []) (S := Sat w []) Try.func14 rfl rfl (Sat.start w) ?_
  refine T.seq fun K1 hK1 => ?_
  refine T.region ?_
  refine RS.p (Pu.assign rfl) rfl rfl ?_
  refine RS.nil (hK1 _ _ ?_)
  refine T.seq fun K2 hK2 => ?_
  refine T.region ?_
  refine RS.p (Pu.build (cells := [_]) st78 rfl rfl) rfl rfl ?_
  refine RS.solid (Sd.box (cs := [_]) rfl rfl) rfl rfl fun b2 => ?_
  refine RS.p (Pu.assign rfl) rfl rfl ?_
  refine RS.nil (hK2 _ _ ?_)
  refine T.retTo (by with_reducible ((repeat (first | apply RetTo.seq | apply RetTo.blk)); exact RetTo.refl _)) (Cont.ret1 rfl rfl fun w' s => ?_)
  refine ⟨b2, rfl, ?_⟩
  have hp0 : ([] : List Item).Perm [] := .refl _
  have e := s.ext.size
  have s1 : Sat w [blk b2 [rowV (none, 0) ([] : List Item).length] 78, row nilH 81 (rowV (none, 0) ([] : List Item).length) ([] : List Item)] w' := s.addEmpty _ (fun p => .inl ⟨rfl, rfl⟩)
  exact Sat.toEx (C := fun i : Qr [] => star (blk b2 [rowV i.1.2 i.1.1.length] 78) (row nilH 81 (rowV i.1.2 i.1.1.length) i.1.1)) ⟨([], (none, 0)), fun j _ h => by simp at h, .refl _, trivial⟩ s1.toStar
theorem pop_nil {w0 : World} {bq : Nat} {F : Ch} (w : World) (h : Sat w0 [qch bq [], F] w) : Calls Try.prog 18 #[.pointer (some ⟨bq, 0, none⟩)] w fun e w' => e = .returned (.tuple #[.int .i64 0, .int .i64 0, .bool false]) ∧ Sat w0 [qch bq [], F] w' := by
  refine T.enter (args := [.pointer (some ⟨bq, 0, none⟩)]) (S := Sat w0 [qch bq [], F]) Try.func18 rfl rfl (h) ?_
  refine T.ex (fun w h => qch_open h) fun ⟨⟨l, q⟩, hh, hp, hs⟩ => ?_
  dsimp only at hh hp ⊢
  have hlen := hp.length_eq
  obtain rfl : l = [] := by simpa using hlen
  refine T.seq fun K1 hK1 => ?_
  refine T.region ?_
  refine RS.p (Pu.assign rfl) rfl rfl ?_
  refine RS.p (Pu.assign rfl) rfl rfl ?_
  refine RS.p (Pu.assign rfl) rfl rfl ?_
  refine RS.nil (hK1 _ _ (T.conseq (fr' := [(0, _)]) ?_ ⟨rfl, trivial⟩ (fun _ s => s)))
  refine T.seq fun K2 hK2 => ?_
  refine T.region ?_
  refine RS.p (Pu.move rfl) rfl rfl ?_
  refine RS.p (Pu.nilCheck rfl) rfl rfl ?_
  refine RS.p (Pu.fieldAddr fd78_0 rfl) rfl rfl ?_
  refine RS.q (Qt.ldB 0 ty76 rfl rfl rfl) rfl rfl ?_
  refine RS.p (Pu.lenSl sl76 rfl) rfl rfl ?_
  refine RS.p (Pu.subS rfl rfl (by simp)) rfl rfl ?_
  refine RS.p (Pu.assign rfl) rfl rfl ?_
  refine RS.nil (hK2 _ _ (T.conseq (fr' := [(0, _), (5, _)]) ?_ ⟨rfl, rfl, trivial⟩ (fun _ s => s)))
  refine T.seq fun K3 hK3 => ?_
  refine T.seq fun K4 hK4 => ?_
  refine T.region ?_
  refine RS.p (Pu.move rfl) rfl rfl ?_
  refine RS.p (Pu.bin rfl rfl rfl) rfl rfl ?_
  refine RS.nil (hK4 _ _ ?_)
  refine T.condP rfl (fun h16 => ?_) (fun h16 => ?_)
  · refine T.conseq (fr' := []) ?_ trivial (fun _ s => s)
    refine T.seq fun K5 hK5 => ?_
    refine T.region ?_
    refine RS.p (Pu.assign rfl) rfl rfl ?_
    refine RS.p (Pu.assign rfl) rfl rfl ?_
    refine RS.p (Pu.assign rfl) rfl rfl ?_
    refine RS.nil (hK5 _ _ ?_)
    refine T.retTo (by with_reducible ((repeat (first | apply RetTo.seq | apply RetTo.blk)); exact RetTo.refl _)) (Cont.ret3 rfl rfl rfl rfl fun w' s => ?_)
    exact ⟨rfl, qch_close hh hp hs s⟩
  · exact absurd (by simp) h16 -- end
theorem pop_cons {w0 : World} {bq : Nat} {x : Item} {r : List Item} {F : Ch} (hsz : (x :: r).length < 1099511627776) (w : World) (h : Sat w0 [qch bq (x :: r), F] w) : Calls Try.prog 18 #[.pointer (some ⟨bq, 0, none⟩)] w fun e w' => e = .returned (.tuple #[.int .i64 x.key, .int .i64 x.val, .bool true]) ∧ Sat w0 [qch bq r, F] w' := by
  refine T.enter (args := [.pointer (some ⟨bq, 0, none⟩)]) (S := Sat w0 [qch bq (x :: r), F]) Try.func18 rfl rfl (h) ?_
  refine T.ex (fun w h => qch_open h) fun ⟨⟨l, q⟩, hh, hp, hs⟩ => ?_
  dsimp only at hh hp ⊢
  have hlen := hp.length_eq
  simp only [List.length_cons] at hlen hsz
  obtain ⟨N, hN⟩ : ∃ N, l.length = N + 1 := ⟨_, hlen⟩
  obtain ⟨r', hr'⟩ := head_eq hh hs hp (by omega)
  refine T.know (p := ∃ g cap, q = (some g, cap)) (fun w s => s.row_some (k := 1) rfl (by omega)) ?_
  rintro ⟨g, cap, rfl⟩
  refine T.know (p := l.length ≤ cap) (fun w s => s.row_cap (k := 1) rfl) fun hcap => ?_
  refine T.seq fun K1 hK1 => ?_
  refine T.region ?_
  refine RS.p (Pu.assign rfl) rfl rfl ?_
  refine RS.p (Pu.assign rfl) rfl rfl ?_
  refine RS.p (Pu.assign rfl) rfl rfl ?_
  refine RS.nil (hK1 _ _ (T.conseq (fr' := [(0, _)]) ?_ ⟨rfl, trivial⟩ (fun _ s => s)))
  refine T.seq fun K2 hK2 => ?_
  refine T.region ?_
  refine RS.p (Pu.move rfl) rfl rfl ?_
  refine RS.p (Pu.nilCheck rfl) rfl rfl ?_
  refine RS.p (Pu.fieldAddr fd78_0 rfl) rfl rfl ?_
  refine RS.q (Qt.ldB 0 ty76 rfl rfl rfl) rfl rfl ?_
  refine RS.p (Pu.lenSl sl76 rfl) rfl rfl ?_
  refine RS.p (Pu.subS rfl rfl (by omega)) rfl rfl ?_
  refine RS.p (Pu.assign rfl) rfl rfl ?_
  refine RS.nil (hK2 _ _ (T.conseq (fr' := [(0, _), (5, .int .i64 (N : Int))]) ?_ ⟨rfl, ieq (by omega), trivial⟩ (fun _ s => s)))
  refine T.seq fun K3 hK3 => ?_
  refine T.seq fun K4 hK4 => ?_
  refine T.region ?_
  refine RS.p (Pu.move rfl) rfl rfl ?_
  refine RS.p (Pu.bin rfl rfl rfl) rfl rfl ?_
  refine RS.nil (hK4 _ _ ?_)
  refine T.condP rfl (fun h16 => ?_) (fun h16 => ?_)
  · exact absurd h16 (by omega) -- end
  · refine T.skip (hK3 _ _ ?_)
    refine T.seq fun K5 hK5 => ?_
    refine T.region ?_
    refine RS.p (Pu.move rfl) rfl rfl ?_
    refine RS.p (Pu.nilCheck rfl) rfl rfl ?_
    refine RS.p (Pu.fieldAddr fd78_0 rfl) rfl rfl ?_
    refine RS.q (Qt.ldB 0 ty76 rfl rfl rfl) rfl rfl ?_
    refine RS.p (Pu.indexSl sl76 rfl rfl (by omega)) rfl rfl ?_
    refine RS.q (Qt.ldEA (α := Item) (i := 0) (x0 := el l (0)) (cs := [_, _]) (Rd.ofRowN 1 rfl) (el_eq (by omega)) ty81 rfl (by simp [Enc.sz]; try omega) rfl (by rintro _ _ rfl; rfl)) rfl rfl ?_
    refine RS.solid (Sd.alloc zr81 rfl) rfl rfl fun b6 => ?_
    refine RS.solid (Sd.stB (cs' := [_, _]) 3 ty81 rfl rfl rfl rfl rfl rfl rfl rfl) rfl rfl fun _ => ?_
    refine RS.nil (hK5 _ _ (T.conseq (fr' := [(0, _), (5, _), (6, _)]) ?_ ⟨rfl, rfl, rfl, trivial⟩ (fun _ s => s)))
    refine T.seq fun K6 hK6 => ?_
    refine T.drawn (Sat w0 [blk bq [rowV (some g, cap) l.length] 78, F]) [(0, .pu), (1, .pu), (2, .pu), (3, .rd), (4, .pu), (5, .pu), (6, .pu), (7, .rd), (8, .pu), (9, .pu), (10, .rd), (11, .pu), (12, .br)] mixed (ClE.sat _ _) (by kernel_rfl) ?_
    refine RD.p (fun w s => s.pick [0, 2] (by decide) rfl) rfl (Pu.move rfl) rfl rfl ?_
    refine RD.p (fun w s => s.pick [0, 2] (by decide) rfl) rfl (Pu.nilCheck rfl) rfl rfl ?_
    refine RD.p (fun w s => s.pick [0, 2] (by decide) rfl) rfl (Pu.fieldAddr fd78_0 rfl) rfl rfl ?_
    refine RD.q (fun w s => s.pick [0, 2] (by decide) rfl) rfl (Qt.ldB 0 ty76 rfl rfl rfl) rfl rfl ?_
    refine RD.p (fun w s => s.pick [0, 2] (by decide) rfl) rfl (Pu.move rfl) rfl rfl ?_
    refine RD.p (fun w s => s.pick [0, 2] (by decide) rfl) rfl (Pu.nilCheck rfl) rfl rfl ?_
    refine RD.p (fun w s => s.pick [0, 2] (by decide) rfl) rfl (Pu.fieldAddr fd78_0 rfl) rfl rfl ?_
    refine RD.q (fun w s => s.pick [0, 2] (by decide) rfl) rfl (Qt.ldB 0 ty76 rfl rfl rfl) rfl rfl ?_
    refine RD.p (fun w s => s.pick [0, 2] (by decide) rfl) rfl (Pu.move rfl) rfl rfl ?_
    refine RD.p (fun w s => s.pick [0, 2] (by decide) rfl) rfl (Pu.indexSl sl76 rfl rfl (by omega)) rfl rfl ?_
    refine RD.q (fun w s => s.pick [0, 2] (by decide) rfl) rfl (Qt.ldEA (α := Item) (i := N) (x0 := el l (N)) (cs := [_, _]) (Rd.ofRowN 1 rfl) (el_eq (by omega)) ty81 rfl (by simp [Enc.sz]; try omega) rfl (by rintro _ _ rfl; rfl)) rfl rfl ?_
    refine RD.p (fun w s => s.pick [0, 2] (by decide) rfl) rfl (Pu.indexSl sl76 rfl rfl (by omega)) rfl rfl ?_
    refine RD.solid rfl (.inr rfl) rfl rfl (Sd.stE (α := Item) (i := 0) (j := 0) (x0 := el l 0) (x1 := el l N) (us := [_, _]) 1 rfl (el_eq (by omega)) ty81 rfl rfl (by simp [Enc.sz]; try omega) rfl rfl (by decide) rfl (by rintro _ _ rfl; rfl)) (fun _ => ClE.sat _ _) (fun _ w s => s.pick [0, 2] (by decide) rfl) (fun h => nomatch h) fun _ => ?_
    refine RD.nil (hK6 _ _ (T.conseq (fr' := [(0, _), (5, _), (6, _)]) ?_ ⟨rfl, rfl, rfl, trivial⟩ (fun _ s => s)))
    refine T.seq fun K7 hK7 => ?_
    refine T.region ?_
    refine RS.p (Pu.move rfl) rfl rfl ?_
    refine RS.p (Pu.move rfl) rfl rfl ?_
    refine RS.p (Pu.nilCheck rfl) rfl rfl ?_
    refine RS.p (Pu.fieldAddr fd78_0 rfl) rfl rfl ?_
    refine RS.q (Qt.ldB 0 ty76 rfl rfl rfl) rfl rfl ?_
    refine RS.p (Pu.move rfl) rfl rfl ?_
    refine RS.p (Pu.sliceH sl76 rfl rfl (by omega)) rfl rfl ?_
    refine RS.p (Pu.nilCheck rfl) rfl rfl ?_
    refine RS.p (Pu.fieldAddr fd78_0 rfl) rfl rfl ?_
    refine RS.solid (Sd.stB 0 ty76 rfl rfl rfl rfl rfl rfl rfl rfl) rfl rfl fun _ => ?_
    refine RS.nil (hK7 _ _ (T.conseq (fr' := [(0, _), (5, _), (6, _)]) (S' := Sat w0 [blk bq [rowV (some g, cap) N] 78, row nilH 81 (rowV (some g, cap) N) ((l.set 0 (el l N)).take N), F, blk b6 [.int .i64 (el l 0).key, .int .i64 (el l 0).val] 81]) ?_ ⟨rfl, rfl, rfl, trivial⟩ (fun _ s => s.weaken 1 rfl _ (fun p hp => row_take (q := (some g, cap)) hp (by simp; omega) rfl))))
    refine T.seqJoin (σ := List Item) (fun l2 => [(6, .pointer (some ⟨b6, 0, none⟩))]) (fun l2 => Sat w0 [blk bq [rowV (some g, cap) N] 78, row nilH 81 (rowV (some g, cap) N) l2, F, blk b6 [.int .i64 (el l 0).key, .int .i64 (el l 0).val] 81]) (fun l2 => Heap l2 ∧ l2.length = N ∧ l2.Perm ((l.set 0 (el l N)).take N)) (fun l2 hJ8 => ?_) (fun K8 hK8 => ?_)
    · obtain ⟨hh2, hl2, hp2⟩ := hJ8
      refine T.seq fun K9 hK9 => ?_
      refine T.drawn (fun _ => True) [(0, .pu), (1, .rd), (2, .pu), (3, .rd), (4, .pu), (5, .pu), (6, .pu)] mixed (ClE.sat _ _) (by kernel_rfl) ?_
      refine RD.p (fun _ _ => trivial) rfl (Pu.fieldAddr fd81_0 rfl) rfl rfl ?_
      refine RD.q (fun _ _ => trivial) rfl (Qt.ldB 3 ty3 rfl rfl rfl) rfl rfl ?_
      refine RD.p (fun _ _ => trivial) rfl (Pu.fieldAddr fd81_1 rfl) rfl rfl ?_
      refine RD.q (fun _ _ => trivial) rfl (Qt.ldB 3 ty3 rfl rfl rfl) rfl rfl ?_
      refine RD.p (fun _ _ => trivial) rfl (Pu.assign rfl) rfl rfl ?_
      refine RD.p (fun _ _ => trivial) rfl (Pu.assign rfl) rfl rfl ?_
      refine RD.p (fun _ _ => trivial) rfl (Pu.assign rfl) rfl rfl ?_
      refine RD.nil (hK9 _ _ (T.conseq (fr' := [(2, _), (3, _), (4, _)]) ?_ ⟨rfl, rfl, rfl, trivial⟩ (fun _ s => s)))
      refine T.retTo (by with_reducible ((repeat (first | apply RetTo.seq | apply RetTo.blk)); exact RetTo.refl _)) (Cont.ret3 rfl rfl rfl rfl fun w' s => ?_)
      refine ⟨?_, ?_⟩
      · have := (List.cons.inj hr').1; rw [this]
      · have hl3 : N = l2.length := hl2.symm
        rw [hl3] at s
        have hpr : l2.Perm r := by
          have h1 := pop_perm (l := l) (by omega)
          rw [show l.length - 1 = N by omega] at h1
          have h2 := h1.trans hp
          rw [(List.cons.inj hr').1] at h2
          exact hp2.trans h2.cons_inv
        exact qch_close hh2 hpr hs.2 (s.pick [0, 1, 2] (by decide) rfl)
    · refine T.seq fun K10 hK10 => ?_
      refine T.region ?_
      refine RS.p (Pu.assign rfl) rfl rfl ?_
      refine RS.nil (hK10 _ _ ?_)
      refine T.block ?_
      refine T.loop (σ := List Item × Nat) (fun ⟨l2, i⟩ => [(0, .pointer (some ⟨bq, 0, none⟩)), (5, .int .i64 (N : Int)), (6, .pointer (some ⟨b6, 0, none⟩)), (7, .int .i64 (i : Int))]) (fun ⟨l2, i⟩ => Sat w0 [blk bq [rowV (some g, cap) N] 78, row nilH 81 (rowV (some g, cap) N) l2, F, blk b6 [.int .i64 (el l 0).key, .int .i64 (el l 0).val] 81]) (fun ⟨l2, i⟩ => HDn l2 i ∧ l2.length = N ∧ (i < N ∨ i = 0) ∧ l2.Perm ((l.set 0 (el l N)).take N)) (fun ⟨l2, i⟩ => N - i) ((l.set 0 (el l N)).take N, 0) (⟨by have := hh.popStart (by omega); rwa [show l.length - 1 = N by omega] at this, by simp; omega, .inr rfl, .refl _⟩) ⟨rfl, rfl, rfl, rfl, trivial⟩ (fun _ s => s) ?_
      intro ⟨l2, i⟩ hI K10_ hL1
      obtain ⟨hd, hl2, hi2, hp2⟩ := hI
      dsimp only at hd hl2 hi2 hp2 ⊢
      refine T.block ?_
      refine T.seq fun K11 hK11 => ?_
      refine T.region ?_
      refine RS.p (Pu.move rfl) rfl rfl ?_
      refine RS.p (Pu.mulS rfl rfl (by omega)) rfl rfl ?_
      refine RS.p (Pu.addS rfl rfl (by omega)) rfl rfl ?_
      refine RS.p (Pu.assign rfl) rfl rfl ?_
      refine RS.nil (hK11 _ _ (T.conseq (fr' := [(0, _), (5, _), (6, _), (7, _), (8, _)]) ?_ ⟨rfl, rfl, rfl, rfl, rfl, trivial⟩ (fun _ s => s)))
      refine T.seq fun K12 hK12 => ?_
      refine T.seq fun K13 hK13 => ?_
      refine T.region ?_
      refine RS.p (Pu.move rfl) rfl rfl ?_
      refine RS.p (Pu.move rfl) rfl rfl ?_
      refine RS.p (Pu.bin rfl rfl rfl) rfl rfl ?_
      refine RS.nil (hK13 _ _ ?_)
      refine T.condP rfl (fun h49 => ?_) (fun h49 => ?_)
      · refine T.exitTo (by with_reducible (repeat (first | exact ExTo.here | exact ExTo.hereN | apply ExTo.seq | refine ExTo.past (by decide) ?_))) (hK8 _ _ l2 ⟨hd.done (fun j h0 hj hpj => by omega), hl2, hp2⟩ ⟨rfl, trivial⟩ (fun w s => s))
      · refine T.skip (hK12 _ _ (T.conseq (fr' := [(0, _), (5, _), (6, _), (7, _), (8, _)]) ?_ ⟨rfl, rfl, rfl, rfl, rfl, trivial⟩ (fun _ s => s)))
        refine T.seqJoin (σ := Nat) (fun k => [(0, .pointer (some ⟨bq, 0, none⟩)), (5, .int .i64 (N : Int)), (6, .pointer (some ⟨b6, 0, none⟩)), (7, .int .i64 (i : Int)), (8, .int .i64 (k : Int))]) (fun k => Sat w0 [blk bq [rowV (some g, cap) N] 78, row nilH 81 (rowV (some g, cap) N) l2, F, blk b6 [.int .i64 (el l 0).key, .int .i64 (el l 0).val] 81]) (fun k => 0 < k ∧ k < N ∧ (k - 1) / 2 = i ∧ ∀ j, 0 < j → j < N → (j - 1) / 2 = i → ¬ (el l2 j).Lt (el l2 k)) (fun k hJ14 => ?_) (fun K14 hK14 => ?_)
        · obtain ⟨hk0, hkN, hki, hmin⟩ := hJ14
          refine T.seq fun K15 hK15 => ?_
          refine T.seq fun K16 hK16 => ?_
          refine T.drawn (fun _ => True) [(0, .pu), (1, .pu), (2, .pu), (3, .rd), (4, .pu), (5, .pu), (6, .rd), (7, .pu), (8, .pu), (9, .pu), (10, .rd), (11, .pu), (12, .pu), (13, .rd), (14, .rd), (15, .pu)] mixed (ClE.sat _ _) (by kernel_rfl) ?_
          refine RD.p (fun _ _ => trivial) rfl (Pu.move rfl) rfl rfl ?_
          refine RD.p (fun _ _ => trivial) rfl (Pu.nilCheck rfl) rfl rfl ?_
          refine RD.p (fun _ _ => trivial) rfl (Pu.fieldAddr fd78_0 rfl) rfl rfl ?_
          refine RD.q (fun _ _ => trivial) rfl (Qt.ldB 0 ty76 rfl rfl rfl) rfl rfl ?_
          refine RD.p (fun _ _ => trivial) rfl (Pu.move rfl) rfl rfl ?_
          refine RD.p (fun _ _ => trivial) rfl (Pu.indexSl sl76 rfl rfl (by omega)) rfl rfl ?_
          refine RD.q (fun _ _ => trivial) rfl (Qt.ldEA (α := Item) (i := k) (x0 := el l2 (k)) (cs := [_, _]) (Rd.ofRowN 1 rfl) (el_eq (by omega)) ty81 rfl (by simp [Enc.sz]; try omega) rfl (by rintro _ _ rfl; rfl)) rfl rfl ?_
          refine RD.p (fun _ _ => trivial) rfl (Pu.move rfl) rfl rfl ?_
          refine RD.p (fun _ _ => trivial) rfl (Pu.nilCheck rfl) rfl rfl ?_
          refine RD.p (fun _ _ => trivial) rfl (Pu.fieldAddr fd78_0 rfl) rfl rfl ?_
          refine RD.q (fun _ _ => trivial) rfl (Qt.ldB 0 ty76 rfl rfl rfl) rfl rfl ?_
          refine RD.p (fun _ _ => trivial) rfl (Pu.move rfl) rfl rfl ?_
          refine RD.p (fun _ _ => trivial) rfl (Pu.indexSl sl76 rfl rfl (by omega)) rfl rfl ?_
          refine RD.q (fun _ _ => trivial) rfl (Qt.ldEA (α := Item) (i := i) (x0 := el l2 (i)) (cs := [_, _]) (Rd.ofRowN 1 rfl) (el_eq (by omega)) ty81 rfl (by simp [Enc.sz]; try omega) rfl (by rintro _ _ rfl; rfl)) rfl rfl ?_
          refine RD.q (fun _ _ => trivial) rfl (Qt.call ent55 rfl fun w _s => less_calls _ _ _) rfl rfl ?_
          refine RD.p (fun _ _ => trivial) rfl (Pu.notP rfl) rfl rfl ?_
          refine RD.nil (hK16 _ _ ?_)
          refine T.condP rfl (fun hc89 => ?_) (fun hc89 => ?_)
          · refine T.exitTo (by with_reducible (repeat (first | exact ExTo.here | exact ExTo.hereN | apply ExTo.seq | refine ExTo.past (by decide) ?_))) (hK8 _ _ l2 ⟨hd.done (fun j h0 hj hpj => by
              have h1 := hmin j h0 (by omega) hpj
              unfold Item.Lt at *; omega), hl2, hp2⟩ ⟨rfl, trivial⟩ (fun w s => s))
          · refine T.skip (hK15 _ _ (T.conseq (fr' := [(0, _), (5, _), (6, _), (7, _), (8, _)]) ?_ ⟨rfl, rfl, rfl, rfl, rfl, trivial⟩ (fun _ s => s)))
            refine T.seq fun K17 hK17 => ?_
            refine T.drawn (Sat w0 [blk bq [rowV (some g, cap) N] 78, F]) [(0, .pu), (1, .pu), (2, .pu), (3, .rd), (4, .pu), (5, .pu), (6, .pu), (7, .pu), (8, .rd), (9, .pu), (10, .pu), (11, .pu), (12, .pu), (13, .rd), (14, .pu), (15, .pu), (16, .rd), (17, .pu), (18, .pu), (19, .pu), (20, .rd), (21, .pu), (22, .pu), (23, .rd), (24, .pu), (25, .br), (26, .pu), (27, .br)] mixed (ClE.sat _ _) (by kernel_rfl) ?_
            refine RD.p (fun w s => s.pick [0, 2] (by decide) rfl) rfl (Pu.move rfl) rfl rfl ?_
            refine RD.p (fun w s => s.pick [0, 2] (by decide) rfl) rfl (Pu.nilCheck rfl) rfl rfl ?_
            refine RD.p (fun w s => s.pick [0, 2] (by decide) rfl) rfl (Pu.fieldAddr fd78_0 rfl) rfl rfl ?_
            refine RD.q (fun w s => s.pick [0, 2] (by decide) rfl) rfl (Qt.ldB 0 ty76 rfl rfl rfl) rfl rfl ?_
            refine RD.p (fun w s => s.pick [0, 2] (by decide) rfl) rfl (Pu.move rfl) rfl rfl ?_
            refine RD.p (fun w s => s.pick [0, 2] (by decide) rfl) rfl (Pu.move rfl) rfl rfl ?_
            refine RD.p (fun w s => s.pick [0, 2] (by decide) rfl) rfl (Pu.nilCheck rfl) rfl rfl ?_
            refine RD.p (fun w s => s.pick [0, 2] (by decide) rfl) rfl (Pu.fieldAddr fd78_0 rfl) rfl rfl ?_
            refine RD.q (fun w s => s.pick [0, 2] (by decide) rfl) rfl (Qt.ldB 0 ty76 rfl rfl rfl) rfl rfl ?_
            refine RD.p (fun w s => s.pick [0, 2] (by decide) rfl) rfl (Pu.move rfl) rfl rfl ?_
            refine RD.p (fun w s => s.pick [0, 2] (by decide) rfl) rfl (Pu.move rfl) rfl rfl ?_
            refine RD.p (fun w s => s.pick [0, 2] (by decide) rfl) rfl (Pu.nilCheck rfl) rfl rfl ?_
            refine RD.p (fun w s => s.pick [0, 2] (by decide) rfl) rfl (Pu.fieldAddr fd78_0 rfl) rfl rfl ?_
            refine RD.q (fun w s => s.pick [0, 2] (by decide) rfl) rfl (Qt.ldB 0 ty76 rfl rfl rfl) rfl rfl ?_
            refine RD.p (fun w s => s.pick [0, 2] (by decide) rfl) rfl (Pu.move rfl) rfl rfl ?_
            refine RD.p (fun w s => s.pick [0, 2] (by decide) rfl) rfl (Pu.indexSl sl76 rfl rfl (by omega)) rfl rfl ?_
            refine RD.q (fun w s => s.pick [0, 2] (by decide) rfl) rfl (Qt.ldEA (α := Item) (i := k) (x0 := el l2 (k)) (cs := [_, _]) (Rd.ofRowN 1 rfl) (el_eq (by omega)) ty81 rfl (by simp [Enc.sz]; try omega) rfl (by rintro _ _ rfl; rfl)) rfl rfl ?_
            refine RD.p (fun w s => s.pick [0, 2] (by decide) rfl) rfl (Pu.move rfl) rfl rfl ?_
            refine RD.p (fun w s => s.pick [0, 2] (by decide) rfl) rfl (Pu.nilCheck rfl) rfl rfl ?_
            refine RD.p (fun w s => s.pick [0, 2] (by decide) rfl) rfl (Pu.fieldAddr fd78_0 rfl) rfl rfl ?_
            refine RD.q (fun w s => s.pick [0, 2] (by decide) rfl) rfl (Qt.ldB 0 ty76 rfl rfl rfl) rfl rfl ?_
            refine RD.p (fun w s => s.pick [0, 2] (by decide) rfl) rfl (Pu.move rfl) rfl rfl ?_
            refine RD.p (fun w s => s.pick [0, 2] (by decide) rfl) rfl (Pu.indexSl sl76 rfl rfl (by omega)) rfl rfl ?_
            refine RD.q (fun w s => s.pick [0, 2] (by decide) rfl) rfl (Qt.ldEA (α := Item) (i := i) (x0 := el l2 (i)) (cs := [_, _]) (Rd.ofRowN 1 rfl) (el_eq (by omega)) ty81 rfl (by simp [Enc.sz]; try omega) rfl (by rintro _ _ rfl; rfl)) rfl rfl ?_
            refine RD.p (fun w s => s.pick [0, 2] (by decide) rfl) rfl (Pu.indexSl sl76 rfl rfl (by omega)) rfl rfl ?_
            refine RD.solid rfl (.inr rfl) rfl rfl (Sd.stE (α := Item) (i := i) (j := 0) (x0 := el l2 i) (x1 := el l2 k) (us := [_, _]) 1 rfl (el_eq (by omega)) ty81 rfl rfl (by simp [Enc.sz]; try omega) rfl rfl (by decide) rfl (by rintro _ _ rfl; rfl)) (fun _ => ClE.sat _ _) (fun _ w s => s.pick [0, 2] (by decide) rfl) (fun h => nomatch h) fun _ => ?_
            refine RD.p (fun w s => s.pick [0, 2] (by decide) rfl) rfl (Pu.indexSl sl76 rfl rfl (by omega)) rfl rfl ?_
            refine RD.solid rfl (.inr rfl) rfl rfl (Sd.stE (α := Item) (i := k) (j := 0) (x0 := el l2 k) (x1 := el l2 i) (us := [_, _]) 1 rfl (by rw [List.getElem?_set_ne (by omega)]; exact el_eq (by omega)) ty81 rfl rfl (by simp [Enc.sz]; try omega) rfl rfl (by decide) rfl (by rintro _ _ rfl; rfl)) (fun _ => ClE.sat _ _) (fun _ w s => s.pick [0, 2] (by decide) rfl) (fun h => nomatch h) fun _ => ?_   -- queue.go:51
            refine RD.nil (hK17 _ _ (T.conseq (fr' := [(0, _), (5, _), (6, _), (8, _)]) ?_ ⟨rfl, rfl, rfl, rfl, trivial⟩ (fun _ s => s)))
            refine T.region ?_
            refine RS.p (Pu.move rfl) rfl rfl ?_
            refine RS.p (Pu.assign rfl) rfl rfl ?_
            refine RS.nil (hL1 _ _ (swp l2 i k, k) ⟨hd.step (by omega) hk0 hki (Decidable.not_not.1 hc89) (fun j h0 hj hpj => hmin j h0 (by omega) hpj), by rw [len_swp]; exact hl2, .inl hkN, (perm_swp (by omega) (by omega)).trans hp2⟩ (by show N - k < N - i; omega) ⟨rfl, rfl, rfl, rfl, trivial⟩ (fun w s => s))
        · refine T.seq fun K18 hK18 => ?_
          refine T.drawn (fun _ => True) [(0, .pu), (1, .pu), (2, .pu), (3, .pu), (4, .pu), (5, .pu), (6, .pu), (7, .pu), (8, .rd), (9, .pu), (10, .pu), (11, .pu), (12, .rd), (13, .pu), (14, .pu), (15, .pu), (16, .rd), (17, .pu), (18, .pu), (19, .rd), (20, .rd), (21, .pu)] mixed (ClE.sat _ _) (by kernel_rfl) ?_
          refine RD.p (fun _ _ => trivial) rfl (Pu.move rfl) rfl rfl ?_
          refine RD.p (fun _ _ => trivial) rfl (Pu.addS rfl rfl (by omega)) rfl rfl ?_
          refine RD.p (fun _ _ => trivial) rfl (Pu.move rfl) rfl rfl ?_
          refine RD.p (fun _ _ => trivial) rfl (Pu.bin rfl rfl rfl) rfl rfl ?_
          refine RD.p (fun _ _ => trivial) rfl (Pu.move rfl) rfl rfl ?_
          refine RD.splitP 54 rfl (fun h54 => ?_) (fun h54 => ?_)
          · refine RD.p (fun _ _ => trivial) rfl (Pu.move rfl) rfl rfl ?_
            refine RD.p (fun _ _ => trivial) rfl (Pu.nilCheck rfl) rfl rfl ?_
            refine RD.p (fun _ _ => trivial) rfl (Pu.fieldAddr fd78_0 rfl) rfl rfl ?_
            refine RD.q (fun _ _ => trivial) rfl (Qt.ldB 0 ty76 rfl rfl rfl) rfl rfl ?_
            refine RD.p (fun _ _ => trivial) rfl (Pu.move rfl) rfl rfl ?_
            refine RD.p (fun _ _ => trivial) rfl (Pu.addS rfl rfl (by omega)) rfl rfl ?_
            refine RD.p (fun _ _ => trivial) rfl (Pu.indexSl sl76 rfl rfl (by omega)) rfl rfl ?_
            refine RD.q (fun _ _ => trivial) rfl (Qt.ldEA (α := Item) (i := 2 * i + 2) (x0 := el l2 (2 * i + 2)) (cs := [_, _]) (Rd.ofRowN 1 rfl) (el_eq (by omega)) ty81 rfl (by simp [Enc.sz]; try omega) rfl (by rintro _ _ rfl; rfl)) rfl rfl ?_
            refine RD.p (fun _ _ => trivial) rfl (Pu.move rfl) rfl rfl ?_
            refine RD.p (fun _ _ => trivial) rfl (Pu.nilCheck rfl) rfl rfl ?_
            refine RD.p (fun _ _ => trivial) rfl (Pu.fieldAddr fd78_0 rfl) rfl rfl ?_
            refine RD.q (fun _ _ => trivial) rfl (Qt.ldB 0 ty76 rfl rfl rfl) rfl rfl ?_
            refine RD.p (fun _ _ => trivial) rfl (Pu.move rfl) rfl rfl ?_
            refine RD.p (fun _ _ => trivial) rfl (Pu.indexSl sl76 rfl rfl (by omega)) rfl rfl ?_
            refine RD.q (fun _ _ => trivial) rfl (Qt.ldEA (α := Item) (i := 2 * i + 1) (x0 := el l2 (2 * i + 1)) (cs := [_, _]) (Rd.ofRowN 1 rfl) (el_eq (by omega)) ty81 rfl (by simp [Enc.sz]; try omega) rfl (by rintro _ _ rfl; rfl)) rfl rfl ?_
            refine RD.q (fun _ _ => trivial) rfl (Qt.call ent55 rfl fun w _s => less_calls _ _ _) rfl rfl ?_
            refine RD.p (fun _ _ => trivial) rfl (Pu.pickT rfl rfl) rfl rfl ?_
            refine RD.nil (hK18 _ _ ?_)
            refine T.condP rfl (fun hc71 => ?_) (fun hc71 => ?_)
            · refine T.conseq (fr' := [(0, _), (5, _), (6, _), (7, _), (8, _)]) ?_ ⟨rfl, rfl, rfl, rfl, rfl, trivial⟩ (fun _ s => s)
              refine T.region ?_
              refine RS.p (Pu.move rfl) rfl rfl ?_
              refine RS.p (Pu.addS rfl rfl (by omega)) rfl rfl ?_
              refine RS.p (Pu.assign rfl) rfl rfl ?_
              refine RS.nil (hK14 _ _ (2 * i + 2) ⟨by omega, by omega, by omega, fun j h0 hj hpj => by
                rcases (show j = 2 * i + 1 ∨ j = 2 * i + 2 by omega) with rfl | rfl
                · have hx := hc71; unfold Item.Lt at *; omega
                · unfold Item.Lt; omega⟩ ⟨rfl, rfl, rfl, rfl, ieq (by omega), trivial⟩ (fun w s => s))
            · refine T.skip (hK14 _ _ (2 * i + 1) ⟨by omega, by omega, by omega, fun j h0 hj hpj => by
                rcases (show j = 2 * i + 1 ∨ j = 2 * i + 2 by omega) with rfl | rfl
                · unfold Item.Lt; omega
                · exact hc71⟩ ⟨rfl, rfl, rfl, rfl, ieq (by omega), trivial⟩ (fun w s => s))
          · refine RD.no (fun _ _ => trivial) rfl rfl rfl (.inl rfl) ?_
            refine RD.no (fun _ _ => trivial) rfl rfl rfl (.inl rfl) ?_
            refine RD.no (fun _ _ => trivial) rfl rfl rfl (.inl rfl) ?_
            refine RD.no (fun _ _ => trivial) rfl rfl rfl (.inr (.inr rfl)) ?_
            refine RD.no (fun _ _ => trivial) rfl rfl rfl (.inl rfl) ?_
            refine RD.no (fun _ _ => trivial) rfl rfl rfl (.inl rfl) ?_
            refine RD.no (fun _ _ => trivial) rfl rfl rfl (.inl rfl) ?_
            refine RD.no (fun _ _ => trivial) rfl rfl rfl (.inr (.inr rfl)) ?_
            refine RD.no (fun _ _ => trivial) rfl rfl rfl (.inl rfl) ?_
            refine RD.no (fun _ _ => trivial) rfl rfl rfl (.inl rfl) ?_
            refine RD.no (fun _ _ => trivial) rfl rfl rfl (.inl rfl) ?_
            refine RD.no (fun _ _ => trivial) rfl rfl rfl (.inr (.inr rfl)) ?_
            refine RD.no (fun _ _ => trivial) rfl rfl rfl (.inl rfl) ?_
            refine RD.no (fun _ _ => trivial) rfl rfl rfl (.inl rfl) ?_
            refine RD.no (fun _ _ => trivial) rfl rfl rfl (.inr (.inr rfl)) ?_
            refine RD.no (fun _ _ => trivial) rfl rfl rfl (.inr (.inr rfl)) ?_
            refine RD.p (fun _ _ => trivial) rfl (Pu.pickF rfl rfl) rfl rfl ?_
            refine RD.nil (hK18 _ _ ?_)
            refine T.condF rfl ?_
            refine T.skip (hK14 _ _ (2 * i + 1) ⟨by omega, by omega, by omega, fun j h0 hj hpj => by
              rcases (show j = 2 * i + 1 ∨ j = 2 * i + 2 by omega) with rfl | rfl
              · unfold Item.Lt; omega
              · omega⟩ ⟨rfl, rfl, rfl, rfl, ieq (by omega), trivial⟩ (fun w s => s))
end Go.Proofs.Ytacpdjccbadomaa
