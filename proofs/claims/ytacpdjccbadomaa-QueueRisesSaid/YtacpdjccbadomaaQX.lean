/-
  The walks of the page's queue: what Push and Pop do to a queue that stands for a sorted list. For every queue of fewer than 2^40 entries.
-/
import Derived.Test.YtacpdjccbadomaaRows
import Derived.Test.YtacpdjccbadomaaQR
import Derived.Test.YtacpdjccbadomaaVI
import Derived.Test.YtacpdjccbadomaaQW
set_option linter.unusedVariables false
set_option linter.unusedSimpArgs false
set_option maxRecDepth 20000
set_option maxHeartbeats 1000000
namespace Go.Proofs.Ytacpdjccbadomaa
open Go.Vg
open Enc (R)
open Qp
theorem fd28_0 : fdOff Try.prog 28 0 = some 0 := by kernel_rfl
theorem fd28_1 : fdOff Try.prog 28 1 = some 1 := by kernel_rfl
theorem sl26 : slTy Try.prog 26 = some (3, 1, 8) := by kernel_rfl
theorem ty26 : tySz Try.prog 26 = some (1, false) := by kernel_rfl
theorem zr3 : zeroOf Try.prog 3 = some (.int .i64 0) := by kernel_rfl
/-- The page's queue, that stands for a sorted list. -/
def Rr (s : List Item) : Type := { x : List Item × ((Option Nat × Nat) × (Option Nat × Nat)) // x.1.Perm s ∧ Srt s }
abbrev rbx (br : Nat) (q1 q2 : Option Nat × Nat) (n : Nat) : Ch := blk br [rowV q1 n, rowV q2 n] 28
abbrev rk (q : Option Nat × Nat) (n : Nat) (l : List Item) : Ch := row nilH 3 (rowV q n) (l.map (·.key))
abbrev rv (q : Option Nat × Nat) (n : Nat) (l : List Item) : Ch := row nilH 3 (rowV q n) (l.map (·.val))
abbrev rL (br : Nat) (q1 q2 : Option Nat × Nat) (l : List Item) : List Ch := [rbx br q1 q2 l.length, rk q1 l.length l, rv q2 l.length l]
def rch (br : Nat) (s : List Item) : Ch := exch fun i : Rr s => stars (rL br i.1.2.1 i.1.2.2 i.1.1)
theorem rch_open {w0 w : World} {br : Nat} {s : List Item} {F : Ch} (h : Sat w0 [rch br s, F] w) : ∃ i : Rr s, Sat w0 [rbx br i.1.2.1 i.1.2.2 i.1.1.length, rk i.1.2.1 i.1.1.length i.1.1, rv i.1.2.2 i.1.1.length i.1.1, F] w :=
  let ⟨i, hi⟩ := h.unex; ⟨i, hi.openS⟩
theorem rch_close {w0 w : World} {br : Nat} {s l : List Item} {q1 q2 : Option Nat × Nat} {F : Ch} (h2 : l.Perm s) (h3 : Srt s) (h : Sat w0 [rbx br q1 q2 l.length, rk q1 l.length l, rv q2 l.length l, F] w) : Sat w0 [rch br s, F] w :=
  Sat.toEx (C := fun i : Rr s => stars (rL br i.1.2.1 i.1.2.2 i.1.1)) ⟨(l, q1, q2), h2, h3⟩ (Sat.shutS (L := rL br q1 q2 l) h)
theorem rch_new {w0 w : World} {br : Nat} (h : Sat w0 [blk br [.slice none 0 0, .slice none 0 0] 28] w) : Sat w0 [rch br []] w :=
  Sat.toEx (C := fun i : Rr [] => stars (rL br i.1.2.1 i.1.2.2 i.1.1)) ⟨([], (none, 0), (none, 0)), .refl _, trivial⟩
    (Sat.shut1 (L := rL br (none, 0) (none, 0) []) ((h.addEmpty (rk (none, 0) 0 []) (fun p => .inl ⟨rfl, rfl⟩)).addEmpty (rv (none, 0) 0 []) (fun p => .inl ⟨rfl, rfl⟩)))
theorem rpush_calls {w0 : World} {br : Nat} {s : List Item} {F : Ch} (k v : Int) (hsz : s.length < 1099511627776) (w : World) (h : Sat w0 [rch br s, F] w) : Calls Try.prog 17 #[.pointer (some ⟨br, 0, none⟩), .int .i64 k, .int .i64 v] w fun e w' => e = .returned (.tuple #[]) ∧ Sat w0 [rch br (ins ⟨k, v⟩ s), F] w' := by
  refine T.enter (args := [.pointer (some ⟨br, 0, none⟩), .int .i64 k, .int .i64 v]) (S := Sat w0 [rch br s, F]) Try.func17 rfl rfl (h) ?_
  refine T.ex (fun w h => rch_open h) fun ⟨⟨l, q1, q2⟩, hp, hs⟩ => ?_
  dsimp only at hp ⊢
  have hlen := hp.length_eq
  refine T.seq fun K1 hK1 => ?_
  refine T.region ?_
  refine RS.p (Pu.move rfl) rfl rfl ?_
  refine RS.p (Pu.move rfl) rfl rfl ?_
  refine RS.p (Pu.nilCheck rfl) rfl rfl ?_
  refine RS.p (Pu.fieldAddr fd28_0 rfl) rfl rfl ?_
  refine RS.q (Qt.ldB 0 ty26 rfl rfl rfl) rfl rfl ?_
  refine RS.p (Pu.move rfl) rfl rfl ?_
  refine RS.solid (Sd.litS (cs := [_]) sl26 zr3 rfl rfl rfl rfl rfl) rfl rfl fun b12 => ?_
  refine RS.solid (Sd.app1 (α := Int) 1 4 rfl rfl (nilH_lt _) sl26 zr3 rfl rfl rfl rfl (by simp only [List.length_map]; omega) (by simp only [List.length_map]; unfold maxLen; omega)) rfl rfl fun q13 => ?_
  refine RS.p (Pu.nilCheck rfl) rfl rfl ?_
  refine RS.p (Pu.fieldAddr fd28_0 rfl) rfl rfl ?_
  refine RS.solid (Sd.stB (cs' := [_, _]) 0 ty26 rfl rfl rfl rfl rfl rfl rfl rfl) rfl rfl fun _ => ?_
  refine RS.nil (hK1 _ _ (T.conseq (fr' := [(0, _), (2, _)]) ?_ ⟨rfl, rfl, trivial⟩ (fun _ s => s)))
  refine T.region ?_
  refine RS.p (Pu.move rfl) rfl rfl ?_
  refine RS.p (Pu.move rfl) rfl rfl ?_
  refine RS.p (Pu.nilCheck rfl) rfl rfl ?_
  refine RS.p (Pu.fieldAddr fd28_1 rfl) rfl rfl ?_
  refine RS.q (Qt.ldB 0 ty26 rfl rfl rfl) rfl rfl ?_
  refine RS.p (Pu.move rfl) rfl rfl ?_
  refine RS.solid (Sd.litS (cs := [_]) sl26 zr3 rfl rfl rfl rfl rfl) rfl rfl fun b22 => ?_
  refine RS.solid (Sd.app1 (α := Int) 2 5 rfl rfl (nilH_lt _) sl26 zr3 rfl rfl rfl rfl (by simp only [List.length_map]; omega) (by simp only [List.length_map]; unfold maxLen; omega)) rfl rfl fun q23 => ?_
  refine RS.p (Pu.nilCheck rfl) rfl rfl ?_
  refine RS.p (Pu.fieldAddr fd28_1 rfl) rfl rfl ?_
  refine RS.solid (Sd.stB (cs' := [_, _]) 0 ty26 rfl rfl rfl rfl rfl rfl rfl rfl) rfl rfl fun _ => ?_
  refine RS.nil (Cont.end0 rfl fun w' s => ?_)
  refine ⟨rfl, ?_⟩
  have s1 : Sat w0 [rbx br q13 q23 (l ++ [(⟨k, v⟩ : Item)]).length, rk q13 (l ++ [(⟨k, v⟩ : Item)]).length (l ++ [(⟨k, v⟩ : Item)]), rv q23 (l ++ [(⟨k, v⟩ : Item)]).length (l ++ [(⟨k, v⟩ : Item)]), F] w' := by
    have s2 := s.pick (G' := [_, _, _, _]) [0, 1, 2, 3] (by decide) rfl
    simpa only [rbx, rk, rv, List.length_append, List.length_map, List.length_cons, List.length_nil, List.map_append, List.map_cons, List.map_nil, Nat.zero_add] using s2
  exact rch_close ((List.perm_append_comm).trans ((hp.cons _).trans (ins_perm _ _).symm)) hs.ins s1
theorem rpop_nil {w0 : World} {br : Nat} {F : Ch} (w : World) (h : Sat w0 [rch br [], F] w) : Calls Try.prog 19 #[.pointer (some ⟨br, 0, none⟩)] w fun e w' => e = .returned (.tuple #[.int .i64 0, .int .i64 0, .bool false]) ∧ Sat w0 [rch br [], F] w' := by
  refine T.enter (args := [.pointer (some ⟨br, 0, none⟩)]) (S := Sat w0 [rch br [], F]) Try.func19 rfl rfl (h) ?_
  refine T.ex (fun w h => rch_open h) fun ⟨⟨l, q1, q2⟩, hp, hs⟩ => ?_
  dsimp only at hp ⊢
  have hlen := hp.length_eq
  obtain rfl : l = [] := by simpa using hlen
  refine T.seq fun K1 hK1 => ?_
  refine T.region ?_
  refine RS.p (Pu.assign rfl) rfl rfl ?_
  refine RS.p (Pu.assign rfl) rfl rfl ?_
  refine RS.p (Pu.assign rfl) rfl rfl ?_
  refine RS.nil (hK1 _ _ (T.conseq (fr' := [(0, _)]) ?_ ⟨rfl, trivial⟩ (fun _ s => s)))
  refine T.seq fun K2 hK2 => ?_
  refine T.seq fun K3 hK3 => ?_
  refine T.region ?_
  refine RS.p (Pu.move rfl) rfl rfl ?_
  refine RS.p (Pu.nilCheck rfl) rfl rfl ?_
  refine RS.p (Pu.fieldAddr fd28_0 rfl) rfl rfl ?_
  refine RS.q (Qt.ldB 0 ty26 rfl rfl rfl) rfl rfl ?_
  refine RS.p (Pu.lenSl sl26 rfl) rfl rfl ?_
  refine RS.p (Pu.bin rfl rfl rfl) rfl rfl ?_
  refine RS.nil (hK3 _ _ ?_)
  refine T.condP rfl (fun h14 => ?_) (fun h14 => ?_)
  · refine T.conseq (fr' := []) ?_ trivial (fun _ s => s)
    refine T.seq fun K4 hK4 => ?_
    refine T.region ?_
    refine RS.p (Pu.assign rfl) rfl rfl ?_
    refine RS.p (Pu.assign rfl) rfl rfl ?_
    refine RS.p (Pu.assign rfl) rfl rfl ?_
    refine RS.nil (hK4 _ _ ?_)
    refine T.retTo (by with_reducible ((repeat (first | apply RetTo.seq | apply RetTo.blk)); exact RetTo.refl _)) (Cont.ret3 rfl rfl rfl rfl fun w' s => ?_)
    exact ⟨rfl, rch_close hp hs s⟩
  · exact absurd (by simp) h14 -- end
theorem rpop_cons {w0 : World} {br : Nat} {x : Item} {r : List Item} {F : Ch} (hsz : (x :: r).length < 1099511627776) (w : World) (h : Sat w0 [rch br (x :: r), F] w) : Calls Try.prog 19 #[.pointer (some ⟨br, 0, none⟩)] w fun e w' => e = .returned (.tuple #[.int .i64 x.key, .int .i64 x.val, .bool true]) ∧ Sat w0 [rch br r, F] w' := by
  refine T.enter (args := [.pointer (some ⟨br, 0, none⟩)]) (S := Sat w0 [rch br (x :: r), F]) Try.func19 rfl rfl (h) ?_
  refine T.ex (fun w h => rch_open h) fun ⟨⟨l, q1, q2⟩, hp, hs⟩ => ?_
  dsimp only at hp ⊢
  have hlen := hp.length_eq
  simp only [List.length_cons] at hlen hsz
  refine T.know (p := ∃ g cap, q1 = (some g, cap)) (fun w s => s.row_some (k := 1) rfl (by simp only [List.length_map]; omega)) ?_
  rintro ⟨g1, cap1, rfl⟩
  refine T.know (p := ∃ g cap, q2 = (some g, cap)) (fun w s => s.row_some (k := 2) rfl (by simp only [List.length_map]; omega)) ?_
  rintro ⟨g2, cap2, rfl⟩
  refine T.know (p := l.length ≤ cap1) (fun w s => (s.row_fits (k := 1) rfl).2.1) fun hcap1 => ?_
  refine T.know (p := l.length ≤ cap2) (fun w s => (s.row_fits (k := 2) rfl).2.1) fun hcap2 => ?_
  refine T.seq fun K1 hK1 => ?_
  refine T.region ?_
  refine RS.p (Pu.assign rfl) rfl rfl ?_
  refine RS.p (Pu.assign rfl) rfl rfl ?_
  refine RS.p (Pu.assign rfl) rfl rfl ?_
  refine RS.nil (hK1 _ _ (T.conseq (fr' := [(0, _)]) ?_ ⟨rfl, trivial⟩ (fun _ s => s)))
  refine T.seq fun K2 hK2 => ?_
  refine T.seq fun K3 hK3 => ?_
  refine T.region ?_
  refine RS.p (Pu.move rfl) rfl rfl ?_
  refine RS.p (Pu.nilCheck rfl) rfl rfl ?_
  refine RS.p (Pu.fieldAddr fd28_0 rfl) rfl rfl ?_
  refine RS.q (Qt.ldB 0 ty26 rfl rfl rfl) rfl rfl ?_
  refine RS.p (Pu.lenSl sl26 rfl) rfl rfl ?_
  refine RS.p (Pu.bin rfl rfl rfl) rfl rfl ?_
  refine RS.nil (hK3 _ _ ?_)
  refine T.condP rfl (fun h14 => ?_) (fun h14 => ?_)
  · exact absurd h14 (by omega) -- end
  · refine T.skip (hK2 _ _ (T.conseq (fr' := [(0, _)]) ?_ ⟨rfl, trivial⟩ (fun _ s => s)))
    refine T.seq fun K4 hK4 => ?_
    refine T.region ?_
    refine RS.p (Pu.assign rfl) rfl rfl ?_
    refine RS.nil (hK4 _ _ ?_)
    refine T.seq fun K5 hK5 => ?_
    refine T.seq fun K6 hK6 => ?_
    refine T.region ?_
    refine RS.p (Pu.assign rfl) rfl rfl ?_
    refine RS.nil (hK6 _ _ ?_)
    refine T.block ?_
    refine T.loopC (σ := Int × Int) [(0, _)] (fun ⟨b, i⟩ => [(5, .int .i64 b), (6, .int .i64 i)]) (fun ⟨b, i⟩ => 0 ≤ b ∧ b < l.length ∧ 1 ≤ i ∧ i ≤ l.length ∧ ∀ j : Int, 0 ≤ j → j < i → ¬ (gi l j).Lt (gi l b)) (fun ⟨b, i⟩ => (l.length - i).toNat) (0, 1) (⟨by omega, by omega, by omega, by omega, fun j h0 h1 => by rw [show j = 0 by omega]; unfold Item.Lt; omega⟩) ⟨rfl, trivial⟩ ⟨rfl, rfl, rfl, trivial⟩ ?_
    intro ⟨b, i⟩ hI K6_ hL1
    refine T.conseq (fr' := [(5, _), (6, _), (0, _)]) ?_ ⟨rfl, rfl, rfl, trivial⟩ (fun _ s => s)
    obtain ⟨hb0, hb1, hi1, hi2, hmin⟩ := hI
    try dsimp only at hb0 hb1 hi1 hi2 hmin ⊢
    refine T.seq fun K7 hK7 => ?_
    refine T.seq fun K8 hK8 => ?_
    refine T.region ?_
    refine RS.p (Pu.move rfl) rfl rfl ?_
    refine RS.p (Pu.move rfl) rfl rfl ?_
    refine RS.p (Pu.nilCheck rfl) rfl rfl ?_
    refine RS.p (Pu.fieldAddr fd28_0 rfl) rfl rfl ?_
    refine RS.q (Qt.ldB 0 ty26 rfl rfl rfl) rfl rfl ?_
    refine RS.p (Pu.lenSl sl26 rfl) rfl rfl ?_
    refine RS.p (Pu.bin rfl rfl rfl) rfl rfl ?_
    refine RS.nil (hK8 _ _ ?_)
    refine T.condP rfl (fun hc21 => ?_) (fun hc21 => ?_)
    · refine T.skip (hK7 _ _ (T.conseq (fr' := [(0, _), (5, _), (6, _)]) ?_ ⟨rfl, rfl, rfl, trivial⟩ (fun _ s => s)))
      refine T.seq fun K9 hK9 => ?_
      refine T.block ?_
      refine T.seq fun K10 hK10 => ?_
      refine T.drawn (fun _ => True) [(0, .pu), (1, .pu), (2, .pu), (3, .rd), (4, .pu), (5, .pu), (6, .rd), (7, .pu), (8, .pu), (9, .pu), (10, .rd), (11, .pu), (12, .pu), (13, .rd), (14, .pu), (15, .pu), (16, .pu), (17, .pu), (18, .pu), (19, .rd), (20, .pu), (21, .pu), (22, .rd), (23, .pu), (24, .pu), (25, .pu), (26, .rd), (27, .pu), (28, .pu), (29, .rd), (30, .pu), (31, .pu), (32, .pu), (33, .pu), (34, .pu), (35, .rd), (36, .pu), (37, .pu), (38, .rd), (39, .pu), (40, .pu), (41, .pu), (42, .rd), (43, .pu), (44, .pu), (45, .rd), (46, .pu), (47, .pu), (48, .pu)] mixed (ClE.sat _ _) (by kernel_rfl) ?_
      refine RD.p (fun _ _ => trivial) rfl (Pu.move rfl) rfl rfl ?_
      refine RD.p (fun _ _ => trivial) rfl (Pu.nilCheck rfl) rfl rfl ?_
      refine RD.p (fun _ _ => trivial) rfl (Pu.fieldAddr fd28_0 rfl) rfl rfl ?_
      refine RD.q (fun _ _ => trivial) rfl (Qt.ldB 0 ty26 rfl rfl rfl) rfl rfl ?_
      refine RD.p (fun _ _ => trivial) rfl (Pu.move rfl) rfl rfl ?_
      refine RD.p (fun _ _ => trivial) rfl (Pu.indexSl sl26 rfl rfl (by first | omega | (simp only [len_si, List.length_append, List.length_replicate, List.length_cons, List.length_nil, List.length_map, List.length_take] at *; omega))) rfl rfl ?_
      refine RD.q (fun _ _ => trivial) rfl (Qt.ld0 (α := Int) (Rd.ofRowN 1 rfl) ty3 rfl rfl (by first | omega | (simp only [len_si, List.length_append, List.length_replicate, List.length_cons, List.length_nil, List.length_map, List.length_take] at *; omega)) (by rintro _ _ rfl; rfl)) rfl rfl ?_
      refine RD.p (fun _ _ => trivial) rfl (Pu.move rfl) rfl rfl ?_
      refine RD.p (fun _ _ => trivial) rfl (Pu.nilCheck rfl) rfl rfl ?_
      refine RD.p (fun _ _ => trivial) rfl (Pu.fieldAddr fd28_0 rfl) rfl rfl ?_
      refine RD.q (fun _ _ => trivial) rfl (Qt.ldB 0 ty26 rfl rfl rfl) rfl rfl ?_
      refine RD.p (fun _ _ => trivial) rfl (Pu.move rfl) rfl rfl ?_
      refine RD.p (fun _ _ => trivial) rfl (Pu.indexSl sl26 rfl rfl (by first | omega | (simp only [len_si, List.length_append, List.length_replicate, List.length_cons, List.length_nil, List.length_map, List.length_take] at *; omega))) rfl rfl ?_
      refine RD.q (fun _ _ => trivial) rfl (Qt.ld0 (α := Int) (Rd.ofRowN 1 rfl) ty3 rfl rfl (by first | omega | (simp only [len_si, List.length_append, List.length_replicate, List.length_cons, List.length_nil, List.length_map, List.length_take] at *; omega)) (by rintro _ _ rfl; rfl)) rfl rfl ?_
      refine RD.p (fun _ _ => trivial) rfl (Pu.bin rfl rfl rfl) rfl rfl ?_
      refine RD.p (fun _ _ => trivial) rfl (Pu.move rfl) rfl rfl ?_
      refine RD.splitP 39 rfl (fun h39 => ?_) (fun h39 => ?_)
      · refine RD.no (fun _ _ => trivial) rfl rfl rfl (.inl rfl) ?_
        refine RD.no (fun _ _ => trivial) rfl rfl rfl (.inl rfl) ?_
        refine RD.no (fun _ _ => trivial) rfl rfl rfl (.inl rfl) ?_
        refine RD.no (fun _ _ => trivial) rfl rfl rfl (.inr (.inr rfl)) ?_
        refine RD.no (fun _ _ => trivial) rfl rfl rfl (.inl rfl) ?_
        refine RD.no (fun _ _ => trivial) rfl rfl rfl (.inl rfl) ?_
        refine RD.no (fun _ _ => trivial) rfl rfl rfl (.inr (.inr rfl)) ?_
        refine RD.no (fun _ _ => trivial) rfl rfl rfl (.inl rfl) ?_
        refine RD.no (fun _ _ => trivial) rfl rfl rfl (.inl rfl) ?_
        refine RD.no (fun _ _ => trivial) rfl rfl rfl (.inl rfl) ?_
        refine RD.no (fun _ _ => trivial) rfl rfl rfl (.inr (.inr rfl)) ?_
        refine RD.no (fun _ _ => trivial) rfl rfl rfl (.inl rfl) ?_
        refine RD.no (fun _ _ => trivial) rfl rfl rfl (.inl rfl) ?_
        refine RD.no (fun _ _ => trivial) rfl rfl rfl (.inr (.inr rfl)) ?_
        refine RD.no (fun _ _ => trivial) rfl rfl rfl (.inl rfl) ?_
        refine RD.no (fun _ _ => trivial) rfl rfl rfl (.inl rfl) ?_
        refine RD.no (fun _ _ => trivial) rfl rfl rfl (.inl rfl) ?_
        refine RD.no (fun _ _ => trivial) rfl rfl rfl (.inl rfl) ?_
        refine RD.no (fun _ _ => trivial) rfl rfl rfl (.inl rfl) ?_
        refine RD.no (fun _ _ => trivial) rfl rfl rfl (.inr (.inr rfl)) ?_
        refine RD.no (fun _ _ => trivial) rfl rfl rfl (.inl rfl) ?_
        refine RD.no (fun _ _ => trivial) rfl rfl rfl (.inl rfl) ?_
        refine RD.no (fun _ _ => trivial) rfl rfl rfl (.inr (.inr rfl)) ?_
        refine RD.no (fun _ _ => trivial) rfl rfl rfl (.inl rfl) ?_
        refine RD.no (fun _ _ => trivial) rfl rfl rfl (.inl rfl) ?_
        refine RD.no (fun _ _ => trivial) rfl rfl rfl (.inl rfl) ?_
        refine RD.no (fun _ _ => trivial) rfl rfl rfl (.inr (.inr rfl)) ?_
        refine RD.no (fun _ _ => trivial) rfl rfl rfl (.inl rfl) ?_
        refine RD.no (fun _ _ => trivial) rfl rfl rfl (.inl rfl) ?_
        refine RD.no (fun _ _ => trivial) rfl rfl rfl (.inr (.inr rfl)) ?_
        refine RD.no (fun _ _ => trivial) rfl rfl rfl (.inl rfl) ?_
        refine RD.no (fun _ _ => trivial) rfl rfl rfl (.inl rfl) ?_
        refine RD.p (fun _ _ => trivial) rfl (Pu.pickT rfl rfl) rfl rfl ?_
        refine RD.nil (hK10 _ _ ?_)
        refine T.condT rfl ?_
        refine T.conseq (fr' := [(0, _), (6, _)]) ?_ ⟨rfl, rfl, trivial⟩ (fun _ s => s)
        refine T.region ?_
        refine RS.p (Pu.move rfl) rfl rfl ?_
        refine RS.p (Pu.assign rfl) rfl rfl ?_
        refine RS.nil (hK9 _ _ ?_)
        refine T.region ?_
        refine RS.p (Pu.move rfl) rfl rfl ?_
        refine RS.p (Pu.addS rfl rfl (by omega)) rfl rfl ?_
        refine RS.p (Pu.assign rfl) rfl rfl ?_
        refine RS.nil (hL1 _ _ (i, i + 1) ⟨by omega, by omega, by omega, by omega, fun j h0 h1 => by
          simp only [gi_map (·.key) (show 0 ≤ i ∧ i < l.length by omega), gi_map (·.key) (show 0 ≤ b ∧ b < l.length by omega), gi_map (·.val) (show 0 ≤ i ∧ i < l.length by omega), gi_map (·.val) (show 0 ≤ b ∧ b < l.length by omega)] at *
          by_cases hj : j = i
          · subst hj; unfold Item.Lt at *; omega
          · have := hmin j h0 (by omega); unfold Item.Lt at *; omega⟩ (by show ((l.length : Int) - (i + 1)).toNat < ((l.length : Int) - i).toNat; omega) ⟨rfl, rfl, rfl, trivial⟩ (fun _ s => s))
      · refine RD.p (fun _ _ => trivial) rfl (Pu.move rfl) rfl rfl ?_
        refine RD.p (fun _ _ => trivial) rfl (Pu.nilCheck rfl) rfl rfl ?_
        refine RD.p (fun _ _ => trivial) rfl (Pu.fieldAddr fd28_0 rfl) rfl rfl ?_
        refine RD.q (fun _ _ => trivial) rfl (Qt.ldB 0 ty26 rfl rfl rfl) rfl rfl ?_
        refine RD.p (fun _ _ => trivial) rfl (Pu.move rfl) rfl rfl ?_
        refine RD.p (fun _ _ => trivial) rfl (Pu.indexSl sl26 rfl rfl (by first | omega | (simp only [len_si, List.length_append, List.length_replicate, List.length_cons, List.length_nil, List.length_map, List.length_take] at *; omega))) rfl rfl ?_
        refine RD.q (fun _ _ => trivial) rfl (Qt.ld0 (α := Int) (Rd.ofRowN 1 rfl) ty3 rfl rfl (by first | omega | (simp only [len_si, List.length_append, List.length_replicate, List.length_cons, List.length_nil, List.length_map, List.length_take] at *; omega)) (by rintro _ _ rfl; rfl)) rfl rfl ?_
        refine RD.p (fun _ _ => trivial) rfl (Pu.move rfl) rfl rfl ?_
        refine RD.p (fun _ _ => trivial) rfl (Pu.nilCheck rfl) rfl rfl ?_
        refine RD.p (fun _ _ => trivial) rfl (Pu.fieldAddr fd28_0 rfl) rfl rfl ?_
        refine RD.q (fun _ _ => trivial) rfl (Qt.ldB 0 ty26 rfl rfl rfl) rfl rfl ?_
        refine RD.p (fun _ _ => trivial) rfl (Pu.move rfl) rfl rfl ?_
        refine RD.p (fun _ _ => trivial) rfl (Pu.indexSl sl26 rfl rfl (by first | omega | (simp only [len_si, List.length_append, List.length_replicate, List.length_cons, List.length_nil, List.length_map, List.length_take] at *; omega))) rfl rfl ?_
        refine RD.q (fun _ _ => trivial) rfl (Qt.ld0 (α := Int) (Rd.ofRowN 1 rfl) ty3 rfl rfl (by first | omega | (simp only [len_si, List.length_append, List.length_replicate, List.length_cons, List.length_nil, List.length_map, List.length_take] at *; omega)) (by rintro _ _ rfl; rfl)) rfl rfl ?_
        refine RD.p (fun _ _ => trivial) rfl (Pu.bin rfl rfl rfl) rfl rfl ?_
        refine RD.p (fun _ _ => trivial) rfl (Pu.move rfl) rfl rfl ?_
        refine RD.splitP 55 rfl (fun h55 => ?_) (fun h55 => ?_)
        · refine RD.p (fun _ _ => trivial) rfl (Pu.move rfl) rfl rfl ?_
          refine RD.p (fun _ _ => trivial) rfl (Pu.nilCheck rfl) rfl rfl ?_
          refine RD.p (fun _ _ => trivial) rfl (Pu.fieldAddr fd28_1 rfl) rfl rfl ?_
          refine RD.q (fun _ _ => trivial) rfl (Qt.ldB 0 ty26 rfl rfl rfl) rfl rfl ?_
          refine RD.p (fun _ _ => trivial) rfl (Pu.move rfl) rfl rfl ?_
          refine RD.p (fun _ _ => trivial) rfl (Pu.indexSl sl26 rfl rfl (by first | omega | (simp only [len_si, List.length_append, List.length_replicate, List.length_cons, List.length_nil, List.length_map, List.length_take] at *; omega))) rfl rfl ?_
          refine RD.q (fun _ _ => trivial) rfl (Qt.ld0 (α := Int) (Rd.ofRowN 2 rfl) ty3 rfl rfl (by first | omega | (simp only [len_si, List.length_append, List.length_replicate, List.length_cons, List.length_nil, List.length_map, List.length_take] at *; omega)) (by rintro _ _ rfl; rfl)) rfl rfl ?_
          refine RD.p (fun _ _ => trivial) rfl (Pu.move rfl) rfl rfl ?_
          refine RD.p (fun _ _ => trivial) rfl (Pu.nilCheck rfl) rfl rfl ?_
          refine RD.p (fun _ _ => trivial) rfl (Pu.fieldAddr fd28_1 rfl) rfl rfl ?_
          refine RD.q (fun _ _ => trivial) rfl (Qt.ldB 0 ty26 rfl rfl rfl) rfl rfl ?_
          refine RD.p (fun _ _ => trivial) rfl (Pu.move rfl) rfl rfl ?_
          refine RD.p (fun _ _ => trivial) rfl (Pu.indexSl sl26 rfl rfl (by first | omega | (simp only [len_si, List.length_append, List.length_replicate, List.length_cons, List.length_nil, List.length_map, List.length_take] at *; omega))) rfl rfl ?_
          refine RD.q (fun _ _ => trivial) rfl (Qt.ld0 (α := Int) (Rd.ofRowN 2 rfl) ty3 rfl rfl (by first | omega | (simp only [len_si, List.length_append, List.length_replicate, List.length_cons, List.length_nil, List.length_map, List.length_take] at *; omega)) (by rintro _ _ rfl; rfl)) rfl rfl ?_
          refine RD.p (fun _ _ => trivial) rfl (Pu.bin rfl rfl rfl) rfl rfl ?_
          refine RD.p (fun _ _ => trivial) rfl (Pu.pickT rfl rfl) rfl rfl ?_
          refine RD.p (fun _ _ => trivial) rfl (Pu.pickF rfl rfl) rfl rfl ?_
          refine RD.nil (hK10 _ _ ?_)
          refine T.condP rfl (fun hc72 => ?_) (fun hc72 => ?_)
          · refine T.conseq (fr' := [(0, _), (6, _)]) ?_ ⟨rfl, rfl, trivial⟩ (fun _ s => s)
            refine T.region ?_
            refine RS.p (Pu.move rfl) rfl rfl ?_
            refine RS.p (Pu.assign rfl) rfl rfl ?_
            refine RS.nil (hK9 _ _ ?_)
            refine T.region ?_
            refine RS.p (Pu.move rfl) rfl rfl ?_
            refine RS.p (Pu.addS rfl rfl (by omega)) rfl rfl ?_
            refine RS.p (Pu.assign rfl) rfl rfl ?_
            refine RS.nil (hL1 _ _ (i, i + 1) ⟨by omega, by omega, by omega, by omega, fun j h0 h1 => by
              simp only [gi_map (·.key) (show 0 ≤ i ∧ i < l.length by omega), gi_map (·.key) (show 0 ≤ b ∧ b < l.length by omega), gi_map (·.val) (show 0 ≤ i ∧ i < l.length by omega), gi_map (·.val) (show 0 ≤ b ∧ b < l.length by omega)] at *
              by_cases hj : j = i
              · subst hj; unfold Item.Lt at *; omega
              · have := hmin j h0 (by omega); unfold Item.Lt at *; omega⟩ (by show ((l.length : Int) - (i + 1)).toNat < ((l.length : Int) - i).toNat; omega) ⟨rfl, rfl, rfl, trivial⟩ (fun _ s => s))
          · refine T.skip (hK9 _ _ (T.conseq (fr' := [(0, _), (5, _), (6, _)]) ?_ ⟨rfl, rfl, rfl, trivial⟩ (fun _ s => s)))
            refine T.region ?_
            refine RS.p (Pu.move rfl) rfl rfl ?_
            refine RS.p (Pu.addS rfl rfl (by omega)) rfl rfl ?_
            refine RS.p (Pu.assign rfl) rfl rfl ?_
            refine RS.nil (hL1 _ _ (b, i + 1) ⟨by omega, by omega, by omega, by omega, fun j h0 h1 => by
              simp only [gi_map (·.key) (show 0 ≤ i ∧ i < l.length by omega), gi_map (·.key) (show 0 ≤ b ∧ b < l.length by omega), gi_map (·.val) (show 0 ≤ i ∧ i < l.length by omega), gi_map (·.val) (show 0 ≤ b ∧ b < l.length by omega)] at *
              by_cases hj : j = i
              · subst hj; unfold Item.Lt at *; omega
              · have := hmin j h0 (by omega); unfold Item.Lt at *; omega⟩ (by show ((l.length : Int) - (i + 1)).toNat < ((l.length : Int) - i).toNat; omega) ⟨rfl, rfl, rfl, trivial⟩ (fun _ s => s))
        · refine RD.no (fun _ _ => trivial) rfl rfl rfl (.inl rfl) ?_
          refine RD.no (fun _ _ => trivial) rfl rfl rfl (.inl rfl) ?_
          refine RD.no (fun _ _ => trivial) rfl rfl rfl (.inl rfl) ?_
          refine RD.no (fun _ _ => trivial) rfl rfl rfl (.inr (.inr rfl)) ?_
          refine RD.no (fun _ _ => trivial) rfl rfl rfl (.inl rfl) ?_
          refine RD.no (fun _ _ => trivial) rfl rfl rfl (.inl rfl) ?_
          refine RD.no (fun _ _ => trivial) rfl rfl rfl (.inr (.inr rfl)) ?_
          refine RD.no (fun _ _ => trivial) rfl rfl rfl (.inl rfl) ?_
          refine RD.no (fun _ _ => trivial) rfl rfl rfl (.inl rfl) ?_
          refine RD.no (fun _ _ => trivial) rfl rfl rfl (.inl rfl) ?_
          refine RD.no (fun _ _ => trivial) rfl rfl rfl (.inr (.inr rfl)) ?_
          refine RD.no (fun _ _ => trivial) rfl rfl rfl (.inl rfl) ?_
          refine RD.no (fun _ _ => trivial) rfl rfl rfl (.inl rfl) ?_
          refine RD.no (fun _ _ => trivial) rfl rfl rfl (.inr (.inr rfl)) ?_
          refine RD.no (fun _ _ => trivial) rfl rfl rfl (.inl rfl) ?_
          refine RD.p (fun _ _ => trivial) rfl (Pu.pickF rfl rfl) rfl rfl ?_
          refine RD.p (fun _ _ => trivial) rfl (Pu.pickF rfl rfl) rfl rfl ?_
          refine RD.nil (hK10 _ _ ?_)
          refine T.condF rfl ?_
          refine T.skip (hK9 _ _ (T.conseq (fr' := [(0, _), (5, _), (6, _)]) ?_ ⟨rfl, rfl, rfl, trivial⟩ (fun _ s => s)))
          refine T.region ?_
          refine RS.p (Pu.move rfl) rfl rfl ?_
          refine RS.p (Pu.addS rfl rfl (by omega)) rfl rfl ?_
          refine RS.p (Pu.assign rfl) rfl rfl ?_
          refine RS.nil (hL1 _ _ (b, i + 1) ⟨by omega, by omega, by omega, by omega, fun j h0 h1 => by
            simp only [gi_map (·.key) (show 0 ≤ i ∧ i < l.length by omega), gi_map (·.key) (show 0 ≤ b ∧ b < l.length by omega), gi_map (·.val) (show 0 ≤ i ∧ i < l.length by omega), gi_map (·.val) (show 0 ≤ b ∧ b < l.length by omega)] at *
            by_cases hj : j = i
            · subst hj; unfold Item.Lt at *; omega
            · have := hmin j h0 (by omega); unfold Item.Lt at *; omega⟩ (by show ((l.length : Int) - (i + 1)).toNat < ((l.length : Int) - i).toNat; omega) ⟨rfl, rfl, rfl, trivial⟩ (fun _ s => s))
    · refine T.exitTo (by with_reducible (repeat (first | exact ExTo.here | exact ExTo.hereN | apply ExTo.seq | refine ExTo.past (by decide) ?_))) (hK5 _ _ (T.conseq (fr' := [(0, _), (5, _)]) ?_ ⟨rfl, rfl, trivial⟩ (fun _ s => s)))
      refine T.seq fun K11 hK11 => ?_
      refine T.drawn (fun _ => True) [(0, .pu), (1, .pu), (2, .pu), (3, .rd), (4, .pu), (5, .pu), (6, .rd), (7, .pu), (8, .pu), (9, .pu), (10, .rd), (11, .pu), (12, .pu), (13, .rd), (14, .pu), (15, .pu)] mixed (ClE.sat _ _) (by kernel_rfl) ?_
      refine RD.p (fun _ _ => trivial) rfl (Pu.move rfl) rfl rfl ?_
      refine RD.p (fun _ _ => trivial) rfl (Pu.nilCheck rfl) rfl rfl ?_
      refine RD.p (fun _ _ => trivial) rfl (Pu.fieldAddr fd28_0 rfl) rfl rfl ?_
      refine RD.q (fun _ _ => trivial) rfl (Qt.ldB 0 ty26 rfl rfl rfl) rfl rfl ?_
      refine RD.p (fun _ _ => trivial) rfl (Pu.move rfl) rfl rfl ?_
      refine RD.p (fun _ _ => trivial) rfl (Pu.indexSl sl26 rfl rfl (by first | omega | (simp only [len_si, List.length_append, List.length_replicate, List.length_cons, List.length_nil, List.length_map, List.length_take] at *; omega))) rfl rfl ?_
      refine RD.q (fun _ _ => trivial) rfl (Qt.ld0 (α := Int) (Rd.ofRowN 1 rfl) ty3 rfl rfl (by first | omega | (simp only [len_si, List.length_append, List.length_replicate, List.length_cons, List.length_nil, List.length_map, List.length_take] at *; omega)) (by rintro _ _ rfl; rfl)) rfl rfl ?_
      refine RD.p (fun _ _ => trivial) rfl (Pu.move rfl) rfl rfl ?_
      refine RD.p (fun _ _ => trivial) rfl (Pu.nilCheck rfl) rfl rfl ?_
      refine RD.p (fun _ _ => trivial) rfl (Pu.fieldAddr fd28_1 rfl) rfl rfl ?_
      refine RD.q (fun _ _ => trivial) rfl (Qt.ldB 0 ty26 rfl rfl rfl) rfl rfl ?_
      refine RD.p (fun _ _ => trivial) rfl (Pu.move rfl) rfl rfl ?_
      refine RD.p (fun _ _ => trivial) rfl (Pu.indexSl sl26 rfl rfl (by first | omega | (simp only [len_si, List.length_append, List.length_replicate, List.length_cons, List.length_nil, List.length_map, List.length_take] at *; omega))) rfl rfl ?_
      refine RD.q (fun _ _ => trivial) rfl (Qt.ld0 (α := Int) (Rd.ofRowN 2 rfl) ty3 rfl rfl (by first | omega | (simp only [len_si, List.length_append, List.length_replicate, List.length_cons, List.length_nil, List.length_map, List.length_take] at *; omega)) (by rintro _ _ rfl; rfl)) rfl rfl ?_
      refine RD.p (fun _ _ => trivial) rfl (Pu.assign rfl) rfl rfl ?_
      refine RD.p (fun _ _ => trivial) rfl (Pu.assign rfl) rfl rfl ?_
      refine RD.nil (hK11 _ _ (T.conseq (fr' := [(0, _), (5, _), (7, _), (8, _)]) ?_ ⟨rfl, rfl, rfl, rfl, trivial⟩ (fun _ s => s)))
      refine T.seq fun K12 hK12 => ?_
      refine T.drawn (fun _ => True) [(0, .pu), (1, .pu), (2, .pu), (3, .rd), (4, .pu), (5, .pu), (6, .pu), (7, .pu), (8, .rd), (9, .pu), (10, .pu), (11, .pu), (12, .pu), (13, .rd), (14, .pu), (15, .pu), (16, .pu), (17, .rd), (18, .pu), (19, .pu), (20, .pu), (21, .rd), (22, .pu), (23, .pu), (24, .pu), (25, .rd), (26, .pu), (27, .pu), (28, .pu), (29, .rd), (30, .pu), (31, .pu), (32, .pu), (33, .rd), (34, .pu), (35, .br), (36, .pu), (37, .br)] mixed (ClE.sat _ _) (by kernel_rfl) ?_
      refine RD.p (fun _ _ => trivial) rfl (Pu.move rfl) rfl rfl ?_
      refine RD.p (fun _ _ => trivial) rfl (Pu.nilCheck rfl) rfl rfl ?_
      refine RD.p (fun _ _ => trivial) rfl (Pu.fieldAddr fd28_0 rfl) rfl rfl ?_
      refine RD.q (fun _ _ => trivial) rfl (Qt.ldB 0 ty26 rfl rfl rfl) rfl rfl ?_
      refine RD.p (fun _ _ => trivial) rfl (Pu.move rfl) rfl rfl ?_
      refine RD.p (fun _ _ => trivial) rfl (Pu.move rfl) rfl rfl ?_
      refine RD.p (fun _ _ => trivial) rfl (Pu.nilCheck rfl) rfl rfl ?_
      refine RD.p (fun _ _ => trivial) rfl (Pu.fieldAddr fd28_1 rfl) rfl rfl ?_
      refine RD.q (fun _ _ => trivial) rfl (Qt.ldB 0 ty26 rfl rfl rfl) rfl rfl ?_
      refine RD.p (fun _ _ => trivial) rfl (Pu.move rfl) rfl rfl ?_
      refine RD.p (fun _ _ => trivial) rfl (Pu.move rfl) rfl rfl ?_
      refine RD.p (fun _ _ => trivial) rfl (Pu.nilCheck rfl) rfl rfl ?_
      refine RD.p (fun _ _ => trivial) rfl (Pu.fieldAddr fd28_0 rfl) rfl rfl ?_
      refine RD.q (fun _ _ => trivial) rfl (Qt.ldB 0 ty26 rfl rfl rfl) rfl rfl ?_
      refine RD.p (fun _ _ => trivial) rfl (Pu.move rfl) rfl rfl ?_
      refine RD.p (fun _ _ => trivial) rfl (Pu.nilCheck rfl) rfl rfl ?_
      refine RD.p (fun _ _ => trivial) rfl (Pu.fieldAddr fd28_0 rfl) rfl rfl ?_
      refine RD.q (fun _ _ => trivial) rfl (Qt.ldB 0 ty26 rfl rfl rfl) rfl rfl ?_
      refine RD.p (fun _ _ => trivial) rfl (Pu.lenSl sl26 rfl) rfl rfl ?_
      refine RD.p (fun _ _ => trivial) rfl (Pu.subS rfl rfl (by omega)) rfl rfl ?_
      refine RD.p (fun _ _ => trivial) rfl (Pu.indexSl sl26 rfl rfl (by first | omega | (simp only [len_si, List.length_append, List.length_replicate, List.length_cons, List.length_nil, List.length_map, List.length_take] at *; omega))) rfl rfl ?_
      refine RD.q (fun _ _ => trivial) rfl (Qt.ld0 (α := Int) (Rd.ofRowN 1 rfl) ty3 rfl rfl (by first | omega | (simp only [len_si, List.length_append, List.length_replicate, List.length_cons, List.length_nil, List.length_map, List.length_take] at *; omega)) (by rintro _ _ rfl; rfl)) rfl rfl ?_
      refine RD.p (fun _ _ => trivial) rfl (Pu.move rfl) rfl rfl ?_
      refine RD.p (fun _ _ => trivial) rfl (Pu.nilCheck rfl) rfl rfl ?_
      refine RD.p (fun _ _ => trivial) rfl (Pu.fieldAddr fd28_1 rfl) rfl rfl ?_
      refine RD.q (fun _ _ => trivial) rfl (Qt.ldB 0 ty26 rfl rfl rfl) rfl rfl ?_
      refine RD.p (fun _ _ => trivial) rfl (Pu.move rfl) rfl rfl ?_
      refine RD.p (fun _ _ => trivial) rfl (Pu.nilCheck rfl) rfl rfl ?_
      refine RD.p (fun _ _ => trivial) rfl (Pu.fieldAddr fd28_1 rfl) rfl rfl ?_
      refine RD.q (fun _ _ => trivial) rfl (Qt.ldB 0 ty26 rfl rfl rfl) rfl rfl ?_
      refine RD.p (fun _ _ => trivial) rfl (Pu.lenSl sl26 rfl) rfl rfl ?_
      refine RD.p (fun _ _ => trivial) rfl (Pu.subS rfl rfl (by omega)) rfl rfl ?_
      refine RD.p (fun _ _ => trivial) rfl (Pu.indexSl sl26 rfl rfl (by first | omega | (simp only [len_si, List.length_append, List.length_replicate, List.length_cons, List.length_nil, List.length_map, List.length_take] at *; omega))) rfl rfl ?_
      refine RD.q (fun _ _ => trivial) rfl (Qt.ld0 (α := Int) (Rd.ofRowN 2 rfl) ty3 rfl rfl (by first | omega | (simp only [len_si, List.length_append, List.length_replicate, List.length_cons, List.length_nil, List.length_map, List.length_take] at *; omega)) (by rintro _ _ rfl; rfl)) rfl rfl ?_
      refine RD.p (fun _ _ => trivial) rfl (Pu.indexSl sl26 rfl rfl (by first | omega | (simp only [len_si, List.length_append, List.length_replicate, List.length_cons, List.length_nil, List.length_map, List.length_take] at *; omega))) rfl rfl ?_
      refine RD.solid rfl (.inr rfl) rfl rfl (Sd.st0 (α := Int) 1 _ rfl ty3 rfl rfl rfl (by first | omega | (simp only [len_si, List.length_append, List.length_replicate, List.length_cons, List.length_nil, List.length_map, List.length_take] at *; omega)) rfl rfl (by decide) rfl (by rintro _ _ rfl; rfl)) (fun _ => ClE.sat _ _) (fun _ _ _ => trivial) (fun h => nomatch h) fun _ => ?_
      refine RD.p (fun _ _ => trivial) rfl (Pu.indexSl sl26 rfl rfl (by first | omega | (simp only [len_si, List.length_append, List.length_replicate, List.length_cons, List.length_nil, List.length_map, List.length_take] at *; omega))) rfl rfl ?_
      refine RD.solid rfl (.inr rfl) rfl rfl (Sd.st0 (α := Int) 2 _ rfl ty3 rfl rfl rfl (by first | omega | (simp only [len_si, List.length_append, List.length_replicate, List.length_cons, List.length_nil, List.length_map, List.length_take] at *; omega)) rfl rfl (by decide) rfl (by rintro _ _ rfl; rfl)) (fun _ => ClE.sat _ _) (fun _ _ _ => trivial) (fun h => nomatch h) fun _ => ?_
      refine RD.nil (hK12 _ _ (T.conseq (fr' := [(0, _), (7, _), (8, _)]) ?_ ⟨rfl, rfl, rfl, trivial⟩ (fun _ s => s)))
      refine T.seq fun K13 hK13 => ?_
      refine T.drawn (fun _ => True) [(0, .pu), (1, .pu), (2, .pu), (3, .pu), (4, .pu), (5, .rd), (6, .pu), (7, .pu), (8, .pu), (9, .rd), (10, .pu), (11, .pu), (12, .pu), (13, .pu), (14, .pu), (15, .pu), (16, .rd), (17, .pu), (18, .pu), (19, .pu), (20, .rd), (21, .pu), (22, .pu), (23, .pu), (24, .pu), (25, .pu), (26, .br), (27, .pu), (28, .pu), (29, .br)] mixed (ClE.sat _ _) (by kernel_rfl) ?_
      refine RD.p (fun _ _ => trivial) rfl (Pu.move rfl) rfl rfl ?_
      refine RD.p (fun _ _ => trivial) rfl (Pu.move rfl) rfl rfl ?_
      refine RD.p (fun _ _ => trivial) rfl (Pu.move rfl) rfl rfl ?_
      refine RD.p (fun _ _ => trivial) rfl (Pu.nilCheck rfl) rfl rfl ?_
      refine RD.p (fun _ _ => trivial) rfl (Pu.fieldAddr fd28_0 rfl) rfl rfl ?_
      refine RD.q (fun _ _ => trivial) rfl (Qt.ldB 0 ty26 rfl rfl rfl) rfl rfl ?_
      refine RD.p (fun _ _ => trivial) rfl (Pu.move rfl) rfl rfl ?_
      refine RD.p (fun _ _ => trivial) rfl (Pu.nilCheck rfl) rfl rfl ?_
      refine RD.p (fun _ _ => trivial) rfl (Pu.fieldAddr fd28_0 rfl) rfl rfl ?_
      refine RD.q (fun _ _ => trivial) rfl (Qt.ldB 0 ty26 rfl rfl rfl) rfl rfl ?_
      refine RD.p (fun _ _ => trivial) rfl (Pu.lenSl sl26 rfl) rfl rfl ?_
      refine RD.p (fun _ _ => trivial) rfl (Pu.subS rfl rfl (by omega)) rfl rfl ?_
      refine RD.p (fun _ _ => trivial) rfl (Pu.sliceH sl26 rfl rfl (by omega)) rfl rfl ?_
      refine RD.p (fun _ _ => trivial) rfl (Pu.move rfl) rfl rfl ?_
      refine RD.p (fun _ _ => trivial) rfl (Pu.nilCheck rfl) rfl rfl ?_
      refine RD.p (fun _ _ => trivial) rfl (Pu.fieldAddr fd28_1 rfl) rfl rfl ?_
      refine RD.q (fun _ _ => trivial) rfl (Qt.ldB 0 ty26 rfl rfl rfl) rfl rfl ?_
      refine RD.p (fun _ _ => trivial) rfl (Pu.move rfl) rfl rfl ?_
      refine RD.p (fun _ _ => trivial) rfl (Pu.nilCheck rfl) rfl rfl ?_
      refine RD.p (fun _ _ => trivial) rfl (Pu.fieldAddr fd28_1 rfl) rfl rfl ?_
      refine RD.q (fun _ _ => trivial) rfl (Qt.ldB 0 ty26 rfl rfl rfl) rfl rfl ?_
      refine RD.p (fun _ _ => trivial) rfl (Pu.lenSl sl26 rfl) rfl rfl ?_
      refine RD.p (fun _ _ => trivial) rfl (Pu.subS rfl rfl (by omega)) rfl rfl ?_
      refine RD.p (fun _ _ => trivial) rfl (Pu.sliceH sl26 rfl rfl (by omega)) rfl rfl ?_
      refine RD.p (fun _ _ => trivial) rfl (Pu.nilCheck rfl) rfl rfl ?_
      refine RD.p (fun _ _ => trivial) rfl (Pu.fieldAddr fd28_0 rfl) rfl rfl ?_
      refine RD.solid rfl (.inr rfl) rfl rfl (Sd.stB (cs' := [_, _]) 0 ty26 rfl rfl rfl rfl rfl rfl rfl rfl) (fun _ => ClE.sat _ _) (fun _ _ _ => trivial) (fun h => nomatch h) fun _ => ?_
      refine RD.p (fun _ _ => trivial) rfl (Pu.nilCheck rfl) rfl rfl ?_
      refine RD.p (fun _ _ => trivial) rfl (Pu.fieldAddr fd28_1 rfl) rfl rfl ?_
      refine RD.solid rfl (.inr rfl) rfl rfl (Sd.stB (cs' := [_, _]) 0 ty26 rfl rfl rfl rfl rfl rfl rfl rfl) (fun _ => ClE.sat _ _) (fun _ _ _ => trivial) (fun h => nomatch h) fun _ => ?_
      refine RD.nil (hK13 _ _ (T.conseq (fr' := [(7, _), (8, _)]) ?_ ⟨rfl, rfl, trivial⟩ (fun _ s => s)))
      refine T.seq fun K14 hK14 => ?_
      refine T.region ?_
      refine RS.p (Pu.move rfl) rfl rfl ?_
      refine RS.p (Pu.move rfl) rfl rfl ?_
      refine RS.p (Pu.assign rfl) rfl rfl ?_
      refine RS.p (Pu.assign rfl) rfl rfl ?_
      refine RS.p (Pu.assign rfl) rfl rfl ?_
      refine RS.nil (hK14 _ _ (T.conseq (fr' := [(2, _), (3, _), (4, _)]) ?_ ⟨rfl, rfl, rfl, trivial⟩ (fun _ s => s)))
      refine T.retTo (by with_reducible ((repeat (first | apply RetTo.seq | apply RetTo.blk)); exact RetTo.refl _)) (Cont.ret3 rfl rfl rfl rfl fun w' s => ?_)
      have hb : 0 ≤ b ∧ b < l.length := ⟨hb0, hb1⟩
      have hx := rq_min hp hs hb (fun j h0 h1 => hmin j h0 (by omega))
      have hr := rq_rest hp hb hx
      refine ⟨by rw [gi_map _ hb, gi_map _ hb, hx], ?_⟩
      have hN : ((l.length : Int) - 1).toNat = l.length - 1 := by omega
      rw [hN] at s
      have s1 := s.weaken 1 rfl _ (fun p hp => row_take (q := (some g1, cap1)) (k := l.length - 1) hp (by simp [len_si]) rfl)
      have s2 := s1.weaken 2 rfl _ (fun p hp => row_take (q := (some g2, cap2)) (k := l.length - 1) hp (by simp [len_si]) rfl)
      rw [rq_maps (by omega), rq_maps (by omega)] at s2
      have hl : ((si l b (gi l ((l.length : Int) - 1))).take (l.length - 1)).length = l.length - 1 := by simp [len_si]
      refine rch_close (q1 := (some g1, cap1)) (q2 := (some g2, cap2)) hr hs.2 ?_
      simp only [rbx, rk, rv]
      rw [hl]
      exact s2
end Go.Proofs.Ytacpdjccbadomaa
