/-
  QueueRises: proved for every input, without a condition.
-/
import Derived.Test.YtacpdjccbadomaaRows
import Derived.Test.YtacpdjccbadomaaQM
set_option linter.unusedVariables false
set_option linter.unusedSimpArgs false
set_option maxRecDepth 20000
set_option maxHeartbeats 1000000
namespace Go.Proofs.Ytacpdjccbadomaa
open Go.Vg
open Enc (R)
open Qp
open Go.ChangeShapes Go.WideShapes Go.RowKit
theorem ent22 : Ent Try.prog 22 := ⟨_, _, Try.func22, by kernel_rfl, rfl⟩
namespace Qp
def itm (a : QAct) : Item := ⟨a.key, a.val⟩
theorem Srt.le {s : List Item} (h : Srt s) : ∀ {i j : Nat}, i < j → j < s.length → ¬ (el s j).Lt (el s i) := by
  induction s with
  | nil => intro i j _ hj; simp at hj
  | cons y r ih =>
    intro i j hij hj
    obtain ⟨j', rfl⟩ : ∃ j', j = j' + 1 := ⟨j - 1, by omega⟩
    have hj' : j' < r.length := by simpa using hj
    have ej : el (y :: r) (j' + 1) = el r j' := by simp [el]
    rw [ej]
    cases i with
    | zero =>
      have e0 : el (y :: r) 0 = y := by simp [el]
      rw [e0]
      refine h.1 _ ?_
      unfold el; rw [List.getD_eq_getElem?_getD, List.getElem?_eq_getElem hj']; exact List.getElem_mem hj'
    | succ i =>
      have ei : el (y :: r) (i + 1) = el r i := by simp [el]
      rw [ei]; exact ih h.2 (by omega) hj'
theorem hd_drop {s : List Item} {i : Int} (h : 0 ≤ i ∧ i < s.length) : hd (s.drop i.toNat) = gi s i ∧ s.drop i.toNat ≠ [] ∧ (s.drop i.toNat).tail = s.drop (i + 1).toNat := by
  have hl : i.toNat < s.length := by omega
  rw [show (i + 1).toNat = i.toNat + 1 by omega, List.drop_eq_getElem_cons hl]
  refine ⟨?_, List.cons_ne_nil _ _, rfl⟩
  simp [hd, gi, List.getD, hl]
theorem take_next {α : Type} [Inhabited α] {s : List α} {i : Int} (h : 0 ≤ i ∧ i < s.length) : s.take (i + 1).toNat = s.take i.toNat ++ [gi s i] := by
  have hl : i.toNat < s.length := by omega
  rw [show (i + 1).toNat = i.toNat + 1 by omega, List.take_succ_eq_append_getElem hl]
  simp [gi, List.getD, List.getElem?_eq_getElem hl]
theorem gi_take {α : Type} [Inhabited α] {s : List α} {i j : Int} (h : 0 ≤ i ∧ i < j) : gi (s.take j.toNat) i = gi s i := by
  have hl : i.toNat < j.toNat := by omega
  simp [gi, List.getD, List.getElem?_take, hl]
theorem count_next {s : List Item} {i : Int} (h : 0 ≤ i ∧ i < s.length) (a : Item) : ((s.take (i + 1).toNat).count a : Int) = (s.take i.toNat).count a + (if gi s i = a then 1 else 0) := by
  rw [take_next h, List.count_append, List.count_cons, List.count_nil]
  split <;> simp_all
theorem ins_next {l : List QAct} {i : Int} {s : List Item} (h : 0 ≤ i ∧ i < l.length) (hp : s.Perm ((l.take i.toNat).map itm)) : (ins ⟨(gi l i).key, (gi l i).val⟩ s).Perm ((l.take (i + 1).toNat).map itm) := by
  rw [take_next h, List.map_append]
  refine (ins_perm _ _).trans ((hp.cons _).trans ?_)
  exact (List.perm_append_comm (l₁ := [itm (gi l i)]))
theorem itm_eq (a b : QAct) : (itm a = itm b) = (a.key = b.key ∧ a.val = b.val) := by simp [itm]
theorem it_eq (y : Item) (b : QAct) : (y = itm b) = (y.key = b.key ∧ y.val = b.val) := by cases y; simp [itm]
theorem veq {q : Option Nat × Nat} {a b : Nat} (h : a = b) : some (rowV q a) = some (rowV q b) := by rw [h]
theorem qch_srt {w0 w : World} {bq : Nat} {s : List Item} (h : Sat w0 [qch bq s] w) : Srt s := by
  obtain ⟨p, ⟨i, _⟩, _⟩ := h.get 0 rfl
  exact i.2.2.2
end Qp
theorem queueRises_walk (l : List QAct) (hl : ∀ x ∈ l, QAct.Wf x) (w : World) (v : Value) (hR : R (hpOf w) l [v]) : Calls Try.prog 4 #[v] w fun e w' => e = .returned (.bool true) ∧ Ext w w' := by
  refine T.enter (args := [_]) (S := Sat w []) Try.func4 rfl rfl (Sat.start w) ?_
  have hm := R_max hR
  obtain ⟨p, c, rfl⟩ := R_form hR
  refine T.seq fun K1 hK1 => ?_
  refine T.region ?_
  refine RS.p (Pu.assign rfl) rfl rfl ?_
  refine RS.nil (hK1 _ _ ?_)
  refine T.seq fun K2 hK2 => ?_
  refine T.region ?_
  refine RS.solid (Sd.callN ent14 rfl (fun w _ => new_calls w)) rfl rfl fun bq => ?_
  refine RS.p (Pu.assign rfl) rfl rfl ?_
  refine RS.nil (hK2 _ _ ?_)
  refine T.seq fun K3 hK3 => ?_
  refine T.seq fun K4 hK4 => ?_
  refine T.region ?_
  refine RS.p (Pu.move rfl) rfl rfl ?_
  refine RS.p (Pu.eqNil ul23 rfl) rfl rfl ?_
  refine RS.nil (hK4 _ _ ?_)
  refine T.condF rfl ?_
  refine T.skip (hK3 _ _ (T.conseq (fr' := [(0, _), (3, _)]) ?_ ⟨rfl, rfl, trivial⟩ (fun _ s => s)))
  refine T.seq fun K5 hK5 => ?_
  refine T.region ?_
  refine RS.p (Pu.move rfl) rfl rfl ?_
  refine RS.p (Pu.lenSl sl22 rfl) rfl rfl ?_
  refine RS.p (Pu.minI rfl rfl) rfl rfl ?_
  obtain ⟨n, hn⟩ : ∃ n : Int, n = min (l.length : Int) 80 := ⟨_, rfl⟩
  rw [← hn]
  have hn0 : 0 ≤ n ∧ n ≤ l.length ∧ n ≤ 80 := by omega
  refine RS.p (Pu.assign rfl) rfl rfl ?_
  refine RS.nil (hK5 _ _ (T.conseq (fr' := [(0, _), (3, _), (4, _)]) ?_ ⟨rfl, rfl, rfl, trivial⟩ (fun _ s => s)))
  refine T.seq fun K6 hK6 => ?_
  refine T.seq fun K7 hK7 => ?_
  refine T.region ?_
  refine RS.p (Pu.assign rfl) rfl rfl ?_
  refine RS.nil (hK7 _ _ ?_)
  refine T.block ?_
  refine T.loopK (σ := Int × List Item) [(0, _), (3, _), (4, _)] (fun ⟨i, s⟩ => [(5, .int .i64 i)]) (fun ⟨i, s⟩ => Sat w [qch bq s]) (fun ⟨i, s⟩ => 0 ≤ i ∧ (s.length : Int) = i ∧ i ≤ n ∧ s.Perm ((l.take i.toNat).map itm)) (fun ⟨i, s⟩ => (n - i).toNat) (0, []) (⟨by omega, by simp, by omega, .refl _⟩) ⟨rfl, rfl, rfl, trivial⟩ ⟨rfl, rfl, rfl, rfl, trivial⟩ (fun w s => s) ?_
  intro ⟨i, s⟩ hI K7_ hL1
  refine T.conseq (fr' := [(5, _), (0, _), (3, _), (4, _)]) ?_ ⟨rfl, rfl, rfl, rfl, trivial⟩ (fun _ s => s)
  obtain ⟨hi0, hi1, hi2, hip⟩ := hI
  try dsimp only at hi0 hi1 hi2 hip ⊢
  refine T.seq fun K8 hK8 => ?_
  refine T.seq fun K9 hK9 => ?_
  refine T.region ?_
  refine RS.p (Pu.move rfl) rfl rfl ?_
  refine RS.p (Pu.move rfl) rfl rfl ?_
  refine RS.p (Pu.bin rfl rfl rfl) rfl rfl ?_
  refine RS.nil (hK9 _ _ ?_)
  refine T.condP rfl (fun hc27 => ?_) (fun hc27 => ?_)
  · refine T.skip (hK8 _ _ (T.conseq (fr' := [(0, _), (3, _), (4, _), (5, _)]) ?_ ⟨rfl, rfl, rfl, rfl, trivial⟩ (fun _ s => s)))
    refine T.seq fun K10 hK10 => ?_
    refine T.block ?_
    refine T.drawn (fun _ => True) [(0, .pu), (1, .pu), (2, .pu), (3, .pu), (4, .pu), (5, .rd), (6, .pu), (7, .pu), (8, .pu), (9, .pu), (10, .rd), (11, .br)] mixed (ClE.sat _ _) (by kernel_rfl) ?_
    refine RD.p (fun _ _ => trivial) rfl (Pu.move rfl) rfl rfl ?_
    refine RD.p (fun _ _ => trivial) rfl (Pu.move rfl) rfl rfl ?_
    refine RD.p (fun _ _ => trivial) rfl (Pu.move rfl) rfl rfl ?_
    obtain ⟨bl_hR, ol_hR, rfl⟩ := R_ptr hR (ne_of_pos (by first | omega | (simp only [len_si, List.length_append, List.length_replicate, List.length_cons, List.length_nil, List.length_map, List.length_take] at *; omega)))
    refine RD.p (fun _ _ => trivial) rfl (Pu.indexSl sl22 rfl rfl (by first | omega | (simp only [len_si, List.length_append, List.length_replicate, List.length_cons, List.length_nil, List.length_map, List.length_take] at *; omega))) rfl rfl ?_
    refine RD.p (fun _ _ => trivial) rfl (Pu.fieldAddr fd31_1 rfl) rfl rfl ?_
    refine RD.q (fun _ _ => trivial) rfl (Qt.ldF (α := QAct) (Rd.base hR) ty3 rfl rfl (by first | omega | (simp only [len_si, List.length_append, List.length_replicate, List.length_cons, List.length_nil, List.length_map, List.length_take] at *; omega)) (by rintro _ _ rfl; rfl)) rfl rfl ?_
    refine RD.p (fun _ _ => trivial) rfl (Pu.move rfl) rfl rfl ?_
    refine RD.p (fun _ _ => trivial) rfl (Pu.move rfl) rfl rfl ?_
    refine RD.p (fun _ _ => trivial) rfl (Pu.indexSl sl22 rfl rfl (by first | omega | (simp only [len_si, List.length_append, List.length_replicate, List.length_cons, List.length_nil, List.length_map, List.length_take] at *; omega))) rfl rfl ?_
    refine RD.p (fun _ _ => trivial) rfl (Pu.fieldAddr fd31_2 rfl) rfl rfl ?_
    refine RD.q (fun _ _ => trivial) rfl (Qt.ldF (α := QAct) (Rd.base hR) ty3 rfl rfl (by first | omega | (simp only [len_si, List.length_append, List.length_replicate, List.length_cons, List.length_nil, List.length_map, List.length_take] at *; omega)) (by rintro _ _ rfl; rfl)) rfl rfl ?_
    refine RD.solid rfl (.inr rfl) rfl rfl (Sd.callU 0 ent16 rfl rfl (fun F w h => (push_calls _ _ (by first | omega | (simp only [Qp.len_ins, List.length_tail, List.length_cons, List.length_nil] at *; omega)) w h))) (fun _ => ClE.sat _ _) (fun _ _ _ => trivial) (fun h => nomatch h) fun _ => ?_
    refine RD.nil (hK10 _ _ (T.conseq (fr' := [(0, _), (3, _), (4, _), (5, _)]) ?_ ⟨rfl, rfl, rfl, rfl, trivial⟩ (fun _ s => s)))
    refine T.region ?_
    refine RS.p (Pu.move rfl) rfl rfl ?_
    refine RS.p (Pu.addS rfl rfl (by omega)) rfl rfl ?_
    refine RS.p (Pu.assign rfl) rfl rfl ?_
    refine RS.nil (hL1 _ _ (i + 1, ins ⟨(gi l i).key, (gi l i).val⟩ s) ⟨by omega, by rw [len_ins]; omega, by omega, ins_next (by omega) hip⟩ (by show (n - (i + 1)).toNat < (n - i).toNat; omega) ⟨rfl, rfl, rfl, rfl, trivial⟩ (fun w s => s))
  · refine T.exitTo (by with_reducible (repeat (first | exact ExTo.here | exact ExTo.hereN | apply ExTo.seq | refine ExTo.past (by decide) ?_))) (hK6 _ _ (T.conseq (fr' := [(0, _), (3, _), (4, _)]) ?_ ⟨rfl, rfl, rfl, trivial⟩ (fun _ s => s)))
    refine T.seq fun K11 hK11 => ?_
    obtain hin : i = n := by omega
    refine T.know (fun w s => qch_srt s) fun hs => ?_
    refine T.region ?_
    refine RS.p (Pu.assign rfl) rfl rfl ?_
    refine RS.p (Pu.assign rfl) rfl rfl ?_
    refine RS.nil (hK11 _ _ ?_)
    refine T.seq fun K12 hK12 => ?_
    refine T.seq fun K13 hK13 => ?_
    refine T.region ?_
    refine RS.p (Pu.assign rfl) rfl rfl ?_
    refine RS.nil (hK13 _ _ ?_)
    refine T.block ?_
    refine T.loopK (σ := Int × (Option Nat × Nat) × (Option Nat × Nat)) [(0, _), (3, _), (4, _)] (fun ⟨j, q1, q2⟩ => [(6, rowV q1 j.toNat), (7, rowV q2 j.toNat), (8, .int .i64 j)]) (fun ⟨j, q1, q2⟩ => Sat w [qch bq (s.drop j.toNat), row nilH 3 (rowV q1 j.toNat) ((s.take j.toNat).map (·.key)), row nilH 3 (rowV q2 j.toNat) ((s.take j.toNat).map (·.val))]) (fun ⟨j, q1, q2⟩ => 0 ≤ j ∧ j ≤ n) (fun ⟨j, q1, q2⟩ => (n - j).toNat) (0, (none, 0), (none, 0)) (⟨by omega, by omega⟩) ⟨rfl, rfl, rfl, trivial⟩ ⟨rfl, rfl, rfl, rfl, rfl, rfl, trivial⟩ (fun w s => (s.addEmpty _ (fun p => .inl ⟨rfl, rfl⟩)).addEmpty _ (fun p => .inl ⟨rfl, rfl⟩)) ?_
    intro ⟨j, q1, q2⟩ hI K13_ hL2
    refine T.conseq (fr' := [(6, _), (7, _), (8, _), (0, _), (3, _), (4, _)]) ?_ ⟨rfl, rfl, rfl, rfl, rfl, rfl, trivial⟩ (fun _ s => s)
    obtain ⟨hj0, hj1⟩ := hI
    try dsimp only at hj0 hj1 ⊢
    refine T.seq fun K14 hK14 => ?_
    refine T.seq fun K15 hK15 => ?_
    refine T.region ?_
    refine RS.p (Pu.move rfl) rfl rfl ?_
    refine RS.p (Pu.move rfl) rfl rfl ?_
    refine RS.p (Pu.bin rfl rfl rfl) rfl rfl ?_
    refine RS.nil (hK15 _ _ ?_)
    refine T.condP rfl (fun hc44 => ?_) (fun hc44 => ?_)
    · refine T.skip (hK14 _ _ (T.conseq (fr' := [(0, _), (3, _), (4, _), (6, _), (7, _), (8, _)]) ?_ ⟨rfl, rfl, rfl, rfl, rfl, rfl, trivial⟩ (fun _ s => s)))
      refine T.seq fun K16 hK16 => ?_
      refine T.block ?_
      refine T.seq fun K17 hK17 => ?_
      refine T.region ?_
      refine RS.p (Pu.move rfl) rfl rfl ?_
      refine RS.solid (Sd.callU 0 ent18 rfl rfl (fun F w h => (pop_calls (by rw [List.length_drop]; omega) w h))) rfl rfl fun _ => ?_
      refine RS.p (Pu.move rfl) rfl rfl ?_
      refine RS.p (Pu.extract rfl rfl) rfl rfl ?_
      refine RS.p (Pu.extract rfl rfl) rfl rfl ?_
      refine RS.p (Pu.extract rfl rfl) rfl rfl ?_
      refine RS.p (Pu.assign rfl) rfl rfl ?_
      refine RS.p (Pu.assign rfl) rfl rfl ?_
      refine RS.p (Pu.assign rfl) rfl rfl ?_
      refine RS.nil (hK17 _ _ (T.conseq (fr' := [(0, _), (3, _), (4, _), (6, _), (7, _), (8, _), (9, _), (10, _), (11, _)]) ?_ ⟨rfl, rfl, rfl, rfl, rfl, rfl, rfl, rfl, rfl, trivial⟩ (fun _ s => s)))
      refine T.seq fun K18 hK18 => ?_
      refine T.seq fun K19 hK19 => ?_
      obtain ⟨hd1, hd2, hd3⟩ := hd_drop (s := s) (i := j) (by omega)
      rw [hd1, hd3]
      refine T.region ?_
      refine RS.p (Pu.move rfl) rfl rfl ?_
      refine RS.p (Pu.notP rfl) rfl rfl ?_
      refine RS.p (Pu.move rfl) rfl rfl ?_
      refine RS.splitP 55 rfl (fun h55 => ?_) (fun h55 => ?_)
      · exact absurd hd2 h55 -- end
      · refine RS.p (Pu.move rfl) rfl rfl ?_
        refine RS.p (Pu.bin rfl rfl rfl) rfl rfl ?_
        refine RS.p (Pu.move rfl) rfl rfl ?_
        refine RS.splitP 58 rfl (fun h58 => ?_) (fun h58 => ?_)
        · have hsl := Srt.le hs (i := (j - 1).toNat) (j := j.toNat) (by omega) (by omega)
          rw [← gi_el, ← gi_el] at hsl
          unfold Item.Lt at hsl
          have hg1 : gi (List.map (fun x => x.key) (List.take j.toNat s)) (j - 1) = (gi s (j - 1)).key := by rw [gi_map _ (by rw [List.length_take]; omega), gi_take (by omega)]
          have hg2 : gi (List.map (fun x => x.val) (List.take j.toNat s)) (j - 1) = (gi s (j - 1)).val := by rw [gi_map _ (by rw [List.length_take]; omega), gi_take (by omega)]
          refine RS.p (Pu.move rfl) rfl rfl ?_
          refine RS.p (Pu.move rfl) rfl rfl ?_
          refine RS.p (Pu.subS rfl rfl (by omega)) rfl rfl ?_
          refine RS.know (p := ∃ g cap, q1 = (some g, cap)) (fun w s => s.row_some (k := 1) rfl (by rw [List.length_map, List.length_take]; omega)) ?_
          rintro ⟨g1_q1, cap1_q1, rfl⟩
          refine RS.p (Pu.indexSl sl26 rfl rfl (by first | omega | (simp only [len_si, List.length_append, List.length_replicate, List.length_cons, List.length_nil, List.length_map, List.length_take] at *; omega))) rfl rfl ?_
          refine RS.q (Qt.ld0 (α := Int) (Rd.ofRowN 1 rfl) ty3 rfl rfl (by first | omega | (simp only [len_si, List.length_append, List.length_replicate, List.length_cons, List.length_nil, List.length_map, List.length_take] at *; omega)) (by rintro _ _ rfl; rfl)) rfl rfl ?_
          refine RS.p (Pu.move rfl) rfl rfl ?_
          refine RS.p (Pu.bin rfl rfl rfl) rfl rfl ?_
          refine RS.p (Pu.move rfl) rfl rfl ?_
          refine RS.splitP 66 rfl (fun h66 => ?_) (fun h66 => ?_)
          · exact absurd h66 (by rw [hg1]; omega) -- end
          · refine RS.p (Pu.move rfl) rfl rfl ?_
            refine RS.p (Pu.move rfl) rfl rfl ?_
            refine RS.p (Pu.subS rfl rfl (by omega)) rfl rfl ?_
            refine RS.p (Pu.indexSl sl26 rfl rfl (by first | omega | (simp only [len_si, List.length_append, List.length_replicate, List.length_cons, List.length_nil, List.length_map, List.length_take] at *; omega))) rfl rfl ?_
            refine RS.q (Qt.ld0 (α := Int) (Rd.ofRowN 1 rfl) ty3 rfl rfl (by first | omega | (simp only [len_si, List.length_append, List.length_replicate, List.length_cons, List.length_nil, List.length_map, List.length_take] at *; omega)) (by rintro _ _ rfl; rfl)) rfl rfl ?_
            refine RS.p (Pu.move rfl) rfl rfl ?_
            refine RS.p (Pu.bin rfl rfl rfl) rfl rfl ?_
            refine RS.p (Pu.move rfl) rfl rfl ?_
            refine RS.splitP 74 rfl (fun h74 => ?_) (fun h74 => ?_)
            · rw [hg1] at h74
              refine RS.p (Pu.move rfl) rfl rfl ?_
              refine RS.p (Pu.move rfl) rfl rfl ?_
              refine RS.p (Pu.subS rfl rfl (by omega)) rfl rfl ?_
              refine RS.know (p := ∃ g cap, q2 = (some g, cap)) (fun w s => s.row_some (k := 2) rfl (by rw [List.length_map, List.length_take]; omega)) ?_
              rintro ⟨g2_q2, cap2_q2, rfl⟩
              refine RS.p (Pu.indexSl sl26 rfl rfl (by first | omega | (simp only [len_si, List.length_append, List.length_replicate, List.length_cons, List.length_nil, List.length_map, List.length_take] at *; omega))) rfl rfl ?_
              refine RS.q (Qt.ld0 (α := Int) (Rd.ofRowN 2 rfl) ty3 rfl rfl (by first | omega | (simp only [len_si, List.length_append, List.length_replicate, List.length_cons, List.length_nil, List.length_map, List.length_take] at *; omega)) (by rintro _ _ rfl; rfl)) rfl rfl ?_
              refine RS.p (Pu.move rfl) rfl rfl ?_
              refine RS.p (Pu.bin rfl rfl rfl) rfl rfl ?_
              refine RS.p (Pu.pickT rfl rfl) rfl rfl ?_
              refine RS.p (Pu.pickF rfl rfl) rfl rfl ?_
              refine RS.p (Pu.pickT rfl rfl) rfl rfl ?_
              refine RS.p (Pu.pickF rfl rfl) rfl rfl ?_
              refine RS.nil (hK19 _ _ ?_)
              refine T.condP rfl (fun hc85 => ?_) (fun hc85 => ?_)
              · exact absurd hc85 (by rw [hg2]; omega) -- end
              · refine T.skip (hK18 _ _ (T.conseq (fr' := [(0, _), (3, _), (4, _), (6, _), (7, _), (8, _), (9, _), (10, _)]) ?_ ⟨rfl, rfl, rfl, rfl, rfl, rfl, rfl, rfl, trivial⟩ (fun _ s => s)))
                refine T.region ?_
                refine RS.p (Pu.move rfl) rfl rfl ?_
                refine RS.p (Pu.move rfl) rfl rfl ?_
                refine RS.solid (Sd.litS (cs := [_]) sl26 zr3 rfl rfl rfl rfl rfl) rfl rfl fun b88 => ?_
                refine RS.solid (Sd.app1 (α := Int) 1 3 rfl rfl (nilH_lt _) sl26 zr3 rfl rfl rfl rfl (by rw [List.length_map, List.length_take]; omega) (by rw [List.length_map, List.length_take]; unfold maxLen; omega)) rfl rfl fun q89 => ?_
                refine RS.p (Pu.move rfl) rfl rfl ?_
                refine RS.p (Pu.move rfl) rfl rfl ?_
                refine RS.solid (Sd.litS (cs := [_]) sl26 zr3 rfl rfl rfl rfl rfl) rfl rfl fun b92 => ?_
                refine RS.solid (Sd.app1 (α := Int) 2 4 rfl rfl (nilH_lt _) sl26 zr3 rfl rfl rfl rfl (by rw [List.length_map, List.length_take]; omega) (by rw [List.length_map, List.length_take]; unfold maxLen; omega)) rfl rfl fun q93 => ?_
                refine RS.p (Pu.assign rfl) rfl rfl ?_
                refine RS.p (Pu.assign rfl) rfl rfl ?_
                refine RS.nil (hK16 _ _ (T.conseq (fr' := [(0, _), (3, _), (4, _), (6, _), (7, _), (8, _)]) ?_ ⟨rfl, rfl, rfl, rfl, rfl, rfl, trivial⟩ (fun _ s => s)))
                refine T.region ?_
                refine RS.p (Pu.move rfl) rfl rfl ?_
                refine RS.p (Pu.addS rfl rfl (by omega)) rfl rfl ?_
                refine RS.p (Pu.assign rfl) rfl rfl ?_
                refine RS.nil (hL2 _ _ (j + 1, q89, q93) ⟨by omega, by omega⟩ (by show (n - (j + 1)).toNat < (n - j).toNat; omega) ⟨veq (by rw [List.length_map, List.length_take]; omega), veq (by rw [List.length_map, List.length_take]; omega), rfl, rfl, rfl, rfl, trivial⟩ (fun w2 s1 => by
                  have e := take_next (s := s) (i := j) (by omega)
                  have e1 : (List.map (fun x => x.key) (List.take j.toNat s)).length + 1 = (j + 1).toNat := by rw [List.length_map, List.length_take]; omega
                  have e2 : (List.map (fun x => x.val) (List.take j.toNat s)).length + 1 = (j + 1).toNat := by rw [List.length_map, List.length_take]; omega
                  have s2 := s1.pick (G' := [_, _, _]) [0, 1, 2] (by decide) rfl
                  rw [e1, e2] at s2
                  show Sat w [qch bq (s.drop (j + 1).toNat), row nilH 3 (rowV q89 (j + 1).toNat) ((s.take (j + 1).toNat).map (·.key)), row nilH 3 (rowV q93 (j + 1).toNat) ((s.take (j + 1).toNat).map (·.val))] w2
                  rw [e, List.map_append, List.map_append]
                  exact s2))
            · refine RS.no rfl rfl ?_
              refine RS.no rfl rfl ?_
              refine RS.no rfl rfl ?_
              refine RS.no rfl rfl ?_
              refine RS.no rfl rfl ?_
              refine RS.no rfl rfl ?_
              refine RS.no rfl rfl ?_
              refine RS.p (Pu.pickF rfl rfl) rfl rfl ?_
              refine RS.p (Pu.pickF rfl rfl) rfl rfl ?_
              refine RS.p (Pu.pickT rfl rfl) rfl rfl ?_
              refine RS.p (Pu.pickF rfl rfl) rfl rfl ?_
              refine RS.nil (hK19 _ _ ?_)
              refine T.condF rfl ?_
              refine T.skip (hK18 _ _ (T.conseq (fr' := [(0, _), (3, _), (4, _), (6, _), (7, _), (8, _), (9, _), (10, _)]) ?_ ⟨rfl, rfl, rfl, rfl, rfl, rfl, rfl, rfl, trivial⟩ (fun _ s => s)))
              refine T.region ?_
              refine RS.p (Pu.move rfl) rfl rfl ?_
              refine RS.p (Pu.move rfl) rfl rfl ?_
              refine RS.solid (Sd.litS (cs := [_]) sl26 zr3 rfl rfl rfl rfl rfl) rfl rfl fun b88 => ?_
              refine RS.solid (Sd.app1 (α := Int) 1 3 rfl rfl (nilH_lt _) sl26 zr3 rfl rfl rfl rfl (by rw [List.length_map, List.length_take]; omega) (by rw [List.length_map, List.length_take]; unfold maxLen; omega)) rfl rfl fun q89 => ?_
              refine RS.p (Pu.move rfl) rfl rfl ?_
              refine RS.p (Pu.move rfl) rfl rfl ?_
              refine RS.solid (Sd.litS (cs := [_]) sl26 zr3 rfl rfl rfl rfl rfl) rfl rfl fun b92 => ?_
              refine RS.solid (Sd.app1 (α := Int) 2 4 rfl rfl (nilH_lt _) sl26 zr3 rfl rfl rfl rfl (by rw [List.length_map, List.length_take]; omega) (by rw [List.length_map, List.length_take]; unfold maxLen; omega)) rfl rfl fun q93 => ?_
              refine RS.p (Pu.assign rfl) rfl rfl ?_
              refine RS.p (Pu.assign rfl) rfl rfl ?_
              refine RS.nil (hK16 _ _ (T.conseq (fr' := [(0, _), (3, _), (4, _), (6, _), (7, _), (8, _)]) ?_ ⟨rfl, rfl, rfl, rfl, rfl, rfl, trivial⟩ (fun _ s => s)))
              refine T.region ?_
              refine RS.p (Pu.move rfl) rfl rfl ?_
              refine RS.p (Pu.addS rfl rfl (by omega)) rfl rfl ?_
              refine RS.p (Pu.assign rfl) rfl rfl ?_
              refine RS.nil (hL2 _ _ (j + 1, q89, q93) ⟨by omega, by omega⟩ (by show (n - (j + 1)).toNat < (n - j).toNat; omega) ⟨veq (by rw [List.length_map, List.length_take]; omega), veq (by rw [List.length_map, List.length_take]; omega), rfl, rfl, rfl, rfl, trivial⟩ (fun w2 s1 => by
                have e := take_next (s := s) (i := j) (by omega)
                have e1 : (List.map (fun x => x.key) (List.take j.toNat s)).length + 1 = (j + 1).toNat := by rw [List.length_map, List.length_take]; omega
                have e2 : (List.map (fun x => x.val) (List.take j.toNat s)).length + 1 = (j + 1).toNat := by rw [List.length_map, List.length_take]; omega
                have s2 := s1.pick (G' := [_, _, _]) [0, 1, 2] (by decide) rfl
                rw [e1, e2] at s2
                show Sat w [qch bq (s.drop (j + 1).toNat), row nilH 3 (rowV q89 (j + 1).toNat) ((s.take (j + 1).toNat).map (·.key)), row nilH 3 (rowV q93 (j + 1).toNat) ((s.take (j + 1).toNat).map (·.val))] w2
                rw [e, List.map_append, List.map_append]
                exact s2))
        · refine RS.no rfl rfl ?_
          refine RS.no rfl rfl ?_
          refine RS.no rfl rfl ?_
          refine RS.no rfl rfl ?_
          refine RS.no rfl rfl ?_
          refine RS.no rfl rfl ?_
          refine RS.no rfl rfl ?_
          refine RS.no rfl rfl ?_
          refine RS.no rfl rfl ?_
          refine RS.no rfl rfl ?_
          refine RS.no rfl rfl ?_
          refine RS.no rfl rfl ?_
          refine RS.no rfl rfl ?_
          refine RS.no rfl rfl ?_
          refine RS.no rfl rfl ?_
          refine RS.no rfl rfl ?_
          refine RS.no rfl rfl ?_
          refine RS.no rfl rfl ?_
          refine RS.no rfl rfl ?_
          refine RS.no rfl rfl ?_
          refine RS.no rfl rfl ?_
          refine RS.no rfl rfl ?_
          refine RS.no rfl rfl ?_
          refine RS.no rfl rfl ?_
          refine RS.no rfl rfl ?_
          refine RS.p (Pu.pickF rfl rfl) rfl rfl ?_
          refine RS.p (Pu.pickF rfl rfl) rfl rfl ?_
          refine RS.nil (hK19 _ _ ?_)
          refine T.condF rfl ?_
          refine T.skip (hK18 _ _ (T.conseq (fr' := [(0, _), (3, _), (4, _), (6, _), (7, _), (8, _), (9, _), (10, _)]) ?_ ⟨rfl, rfl, rfl, rfl, rfl, rfl, rfl, rfl, trivial⟩ (fun _ s => s)))
          refine T.region ?_
          refine RS.p (Pu.move rfl) rfl rfl ?_
          refine RS.p (Pu.move rfl) rfl rfl ?_
          refine RS.solid (Sd.litS (cs := [_]) sl26 zr3 rfl rfl rfl rfl rfl) rfl rfl fun b88 => ?_
          refine RS.solid (Sd.app1 (α := Int) 1 3 rfl rfl (nilH_lt _) sl26 zr3 rfl rfl rfl rfl (by rw [List.length_map, List.length_take]; omega) (by rw [List.length_map, List.length_take]; unfold maxLen; omega)) rfl rfl fun q89 => ?_
          refine RS.p (Pu.move rfl) rfl rfl ?_
          refine RS.p (Pu.move rfl) rfl rfl ?_
          refine RS.solid (Sd.litS (cs := [_]) sl26 zr3 rfl rfl rfl rfl rfl) rfl rfl fun b92 => ?_
          refine RS.solid (Sd.app1 (α := Int) 2 4 rfl rfl (nilH_lt _) sl26 zr3 rfl rfl rfl rfl (by rw [List.length_map, List.length_take]; omega) (by rw [List.length_map, List.length_take]; unfold maxLen; omega)) rfl rfl fun q93 => ?_
          refine RS.p (Pu.assign rfl) rfl rfl ?_
          refine RS.p (Pu.assign rfl) rfl rfl ?_
          refine RS.nil (hK16 _ _ (T.conseq (fr' := [(0, _), (3, _), (4, _), (6, _), (7, _), (8, _)]) ?_ ⟨rfl, rfl, rfl, rfl, rfl, rfl, trivial⟩ (fun _ s => s)))
          refine T.region ?_
          refine RS.p (Pu.move rfl) rfl rfl ?_
          refine RS.p (Pu.addS rfl rfl (by omega)) rfl rfl ?_
          refine RS.p (Pu.assign rfl) rfl rfl ?_
          refine RS.nil (hL2 _ _ (j + 1, q89, q93) ⟨by omega, by omega⟩ (by show (n - (j + 1)).toNat < (n - j).toNat; omega) ⟨veq (by rw [List.length_map, List.length_take]; omega), veq (by rw [List.length_map, List.length_take]; omega), rfl, rfl, rfl, rfl, trivial⟩ (fun w2 s1 => by
            have e := take_next (s := s) (i := j) (by omega)
            have e1 : (List.map (fun x => x.key) (List.take j.toNat s)).length + 1 = (j + 1).toNat := by rw [List.length_map, List.length_take]; omega
            have e2 : (List.map (fun x => x.val) (List.take j.toNat s)).length + 1 = (j + 1).toNat := by rw [List.length_map, List.length_take]; omega
            have s2 := s1.pick (G' := [_, _, _]) [0, 1, 2] (by decide) rfl
            rw [e1, e2] at s2
            show Sat w [qch bq (s.drop (j + 1).toNat), row nilH 3 (rowV q89 (j + 1).toNat) ((s.take (j + 1).toNat).map (·.key)), row nilH 3 (rowV q93 (j + 1).toNat) ((s.take (j + 1).toNat).map (·.val))] w2
            rw [e, List.map_append, List.map_append]
            exact s2))
    · refine T.exitTo (by with_reducible (repeat (first | exact ExTo.here | exact ExTo.hereN | apply ExTo.seq | refine ExTo.past (by decide) ?_))) (hK12 _ _ (T.conseq (fr' := [(0, _), (3, _), (4, _), (6, _), (7, _)]) ?_ ⟨rfl, rfl, rfl, rfl, rfl, trivial⟩ (fun _ s => s)))
      refine T.seq fun K20 hK20 => ?_
      have hjn : j = n := by omega
      have hdn : s.drop j.toNat = [] := List.drop_of_length_le (by omega)
      rw [hdn]
      refine T.region ?_
      refine RS.p (Pu.move rfl) rfl rfl ?_
      refine RS.solid (Sd.callU 0 ent18 rfl rfl (fun F w h => (pop_calls (by simp) w h))) rfl rfl fun _ => ?_
      refine RS.p (Pu.move rfl) rfl rfl ?_
      refine RS.p (Pu.extract rfl rfl) rfl rfl ?_
      refine RS.p (Pu.extract rfl rfl) rfl rfl ?_
      refine RS.p (Pu.extract rfl rfl) rfl rfl ?_
      refine RS.p (Pu.assign rfl) rfl rfl ?_
      refine RS.p (Pu.assign rfl) rfl rfl ?_
      refine RS.p (Pu.assign rfl) rfl rfl ?_
      refine RS.nil (hK20 _ _ (T.conseq (fr' := [(0, _), (3, _), (4, _), (6, _), (7, _), (14, _)]) ?_ ⟨rfl, rfl, rfl, rfl, rfl, rfl, trivial⟩ (fun _ s => s)))
      refine T.seq fun K21 hK21 => ?_
      refine T.seq fun K22 hK22 => ?_
      refine T.region ?_
      refine RS.p (Pu.move rfl) rfl rfl ?_
      refine RS.p (Pu.move rfl) rfl rfl ?_
      refine RS.splitP 101 rfl (fun h101 => ?_) (fun h101 => ?_)
      · exact absurd rfl h101 -- end
      · refine RS.p (Pu.move rfl) rfl rfl ?_
        refine RS.solid (Sd.callU 0 ent20 rfl rfl (fun F w h => (len_calls w h))) rfl rfl fun _ => ?_
        refine RS.p (Pu.bin rfl rfl rfl) rfl rfl ?_
        refine RS.p (Pu.pickF rfl rfl) rfl rfl ?_
        refine RS.nil (hK22 _ _ ?_)
        refine T.condP rfl (fun hc105 => ?_) (fun hc105 => ?_)
        · exact absurd rfl hc105 -- end
        · refine T.skip (hK21 _ _ (T.conseq (fr' := [(0, _), (4, _), (6, _), (7, _)]) ?_ ⟨rfl, rfl, rfl, rfl, trivial⟩ (fun _ s => s)))
          refine T.seq fun K23 hK23 => ?_
          refine T.seq fun K24 hK24 => ?_
          refine T.region ?_
          refine RS.p (Pu.assign rfl) rfl rfl ?_
          refine RS.nil (hK24 _ _ ?_)
          refine T.block ?_
          refine T.loopC (σ := Int) [(0, _), (4, _), (6, _), (7, _)] (fun x => [(15, .int .i64 x)]) (fun x => 0 ≤ x ∧ x ≤ n) (fun x => (n - x).toNat) 0 (⟨by omega, by omega⟩) ⟨rfl, rfl, rfl, rfl, trivial⟩ ⟨rfl, rfl, rfl, rfl, rfl, trivial⟩ ?_
          intro x hI K24_ hL3
          refine T.conseq (fr' := [(15, _), (0, _), (4, _), (6, _), (7, _)]) ?_ ⟨rfl, rfl, rfl, rfl, rfl, trivial⟩ (fun _ s => s)
          obtain ⟨hx0, hx1⟩ := hI
          refine T.seq fun K25 hK25 => ?_
          refine T.seq fun K26 hK26 => ?_
          refine T.region ?_
          refine RS.p (Pu.move rfl) rfl rfl ?_
          refine RS.p (Pu.move rfl) rfl rfl ?_
          refine RS.p (Pu.bin rfl rfl rfl) rfl rfl ?_
          refine RS.nil (hK26 _ _ ?_)
          refine T.condP rfl (fun hc108 => ?_) (fun hc108 => ?_)
          · refine T.skip (hK25 _ _ (T.conseq (fr' := [(0, _), (4, _), (6, _), (7, _), (15, _)]) ?_ ⟨rfl, rfl, rfl, rfl, rfl, trivial⟩ (fun _ s => s)))
            refine T.seq fun K27 hK27 => ?_
            refine T.block ?_
            refine T.seq fun K28 hK28 => ?_
            refine T.region ?_
            refine RS.p (Pu.assign rfl) rfl rfl ?_
            refine RS.p (Pu.assign rfl) rfl rfl ?_
            refine RS.nil (hK28 _ _ ?_)
            refine T.seq fun K29 hK29 => ?_
            refine T.seq fun K30 hK30 => ?_
            refine T.region ?_
            refine RS.p (Pu.assign rfl) rfl rfl ?_
            refine RS.nil (hK30 _ _ ?_)
            refine T.block ?_
            refine T.loopC (σ := Int × Int × Int) [(0, _), (4, _), (6, _), (7, _), (15, _)] (fun ⟨a, b, k⟩ => [(16, .int .i64 a), (17, .int .i64 b), (18, .int .i64 k)]) (fun ⟨a, b, k⟩ => 0 ≤ k ∧ k ≤ n ∧ a = (((l.map itm).take k.toNat).count (itm (gi l x)) : Nat) ∧ b = ((s.take k.toNat).count (itm (gi l x)) : Nat)) (fun ⟨a, b, k⟩ => (n - k).toNat) (0, 0, 0) (⟨by omega, by omega, by simp, by simp⟩) ⟨rfl, rfl, rfl, rfl, rfl, trivial⟩ ⟨rfl, rfl, rfl, rfl, rfl, rfl, rfl, rfl, trivial⟩ ?_
            intro ⟨a, b, k⟩ hI K30_ hL4
            refine T.conseq (fr' := [(16, _), (17, _), (18, _), (0, _), (4, _), (6, _), (7, _), (15, _)]) ?_ ⟨rfl, rfl, rfl, rfl, rfl, rfl, rfl, rfl, trivial⟩ (fun _ s => s)
            obtain ⟨hk0, hk1, hka, hkb⟩ := hI
            try dsimp only at hk0 hk1 hka hkb ⊢
            have hca := List.count_le_length (a := itm (gi l x)) (l := (l.map itm).take k.toNat)
            rw [List.length_take] at hca
            have hcb := List.count_le_length (a := itm (gi l x)) (l := s.take k.toNat)
            rw [List.length_take] at hcb
            refine T.seq fun K31 hK31 => ?_
            refine T.seq fun K32 hK32 => ?_
            refine T.region ?_
            refine RS.p (Pu.move rfl) rfl rfl ?_
            refine RS.p (Pu.move rfl) rfl rfl ?_
            refine RS.p (Pu.bin rfl rfl rfl) rfl rfl ?_
            refine RS.nil (hK32 _ _ ?_)
            refine T.condP rfl (fun hc113 => ?_) (fun hc113 => ?_)
            · refine T.skip (hK31 _ _ (T.conseq (fr' := [(0, _), (4, _), (6, _), (7, _), (15, _), (16, _), (17, _), (18, _)]) ?_ ⟨rfl, rfl, rfl, rfl, rfl, rfl, rfl, rfl, trivial⟩ (fun _ s => s)))
              refine T.seq fun K33 hK33 => ?_
              refine T.block ?_
              refine T.seq fun K34 hK34 => ?_
              refine T.seq fun K35 hK35 => ?_
              have ca := count_next (s := l.map itm) (i := k) (by rw [List.length_map]; omega) (itm (gi l x))
              rw [gi_map itm (by omega)] at ca
              simp only [itm_eq] at ca
              have cb := count_next (s := s) (i := k) (by omega) (itm (gi l x))
              simp only [it_eq] at cb
              have hg1 : gi (List.map (fun x => x.key) (List.take j.toNat s)) k = (gi s k).key := by rw [gi_map _ (by rw [List.length_take]; omega), gi_take (by omega)]
              have hg2 : gi (List.map (fun x => x.val) (List.take j.toNat s)) k = (gi s k).val := by rw [gi_map _ (by rw [List.length_take]; omega), gi_take (by omega)]
              refine T.drawn (fun _ => True) [(0, .pu), (1, .pu), (2, .pu), (3, .pu), (4, .rd), (5, .pu), (6, .pu), (7, .pu), (8, .pu), (9, .rd), (10, .pu), (11, .pu), (12, .pu), (13, .pu), (14, .pu), (15, .pu), (16, .rd), (17, .pu), (18, .pu), (19, .pu), (20, .pu), (21, .rd), (22, .pu), (23, .pu)] mixed (ClE.sat _ _) (by kernel_rfl) ?_
              refine RD.p (fun _ _ => trivial) rfl (Pu.move rfl) rfl rfl ?_
              refine RD.p (fun _ _ => trivial) rfl (Pu.move rfl) rfl rfl ?_
              obtain ⟨bl_hR, ol_hR, rfl⟩ := R_ptr hR (ne_of_pos (by first | omega | (simp only [len_si, List.length_append, List.length_replicate, List.length_cons, List.length_nil, List.length_map, List.length_take] at *; omega)))
              refine RD.p (fun _ _ => trivial) rfl (Pu.indexSl sl22 rfl rfl (by first | omega | (simp only [len_si, List.length_append, List.length_replicate, List.length_cons, List.length_nil, List.length_map, List.length_take] at *; omega))) rfl rfl ?_
              refine RD.p (fun _ _ => trivial) rfl (Pu.fieldAddr fd31_1 rfl) rfl rfl ?_
              refine RD.q (fun _ _ => trivial) rfl (Qt.ldF (α := QAct) (Rd.base hR) ty3 rfl rfl (by first | omega | (simp only [len_si, List.length_append, List.length_replicate, List.length_cons, List.length_nil, List.length_map, List.length_take] at *; omega)) (by rintro _ _ rfl; rfl)) rfl rfl ?_
              refine RD.p (fun _ _ => trivial) rfl (Pu.move rfl) rfl rfl ?_
              refine RD.p (fun _ _ => trivial) rfl (Pu.move rfl) rfl rfl ?_
              refine RD.p (fun _ _ => trivial) rfl (Pu.indexSl sl22 rfl rfl (by first | omega | (simp only [len_si, List.length_append, List.length_replicate, List.length_cons, List.length_nil, List.length_map, List.length_take] at *; omega))) rfl rfl ?_
              refine RD.p (fun _ _ => trivial) rfl (Pu.fieldAddr fd31_1 rfl) rfl rfl ?_
              refine RD.q (fun _ _ => trivial) rfl (Qt.ldF (α := QAct) (Rd.base hR) ty3 rfl rfl (by first | omega | (simp only [len_si, List.length_append, List.length_replicate, List.length_cons, List.length_nil, List.length_map, List.length_take] at *; omega)) (by rintro _ _ rfl; rfl)) rfl rfl ?_
              refine RD.p (fun _ _ => trivial) rfl (Pu.bin rfl rfl rfl) rfl rfl ?_
              refine RD.p (fun _ _ => trivial) rfl (Pu.move rfl) rfl rfl ?_
              refine RD.splitP 127 rfl (fun h127 => ?_) (fun h127 => ?_)
              · refine RD.p (fun _ _ => trivial) rfl (Pu.move rfl) rfl rfl ?_
                refine RD.p (fun _ _ => trivial) rfl (Pu.move rfl) rfl rfl ?_
                refine RD.p (fun _ _ => trivial) rfl (Pu.indexSl sl22 rfl rfl (by first | omega | (simp only [len_si, List.length_append, List.length_replicate, List.length_cons, List.length_nil, List.length_map, List.length_take] at *; omega))) rfl rfl ?_
                refine RD.p (fun _ _ => trivial) rfl (Pu.fieldAddr fd31_2 rfl) rfl rfl ?_
                refine RD.q (fun _ _ => trivial) rfl (Qt.ldF (α := QAct) (Rd.base hR) ty3 rfl rfl (by first | omega | (simp only [len_si, List.length_append, List.length_replicate, List.length_cons, List.length_nil, List.length_map, List.length_take] at *; omega)) (by rintro _ _ rfl; rfl)) rfl rfl ?_
                refine RD.p (fun _ _ => trivial) rfl (Pu.move rfl) rfl rfl ?_
                refine RD.p (fun _ _ => trivial) rfl (Pu.move rfl) rfl rfl ?_
                refine RD.p (fun _ _ => trivial) rfl (Pu.indexSl sl22 rfl rfl (by first | omega | (simp only [len_si, List.length_append, List.length_replicate, List.length_cons, List.length_nil, List.length_map, List.length_take] at *; omega))) rfl rfl ?_
                refine RD.p (fun _ _ => trivial) rfl (Pu.fieldAddr fd31_2 rfl) rfl rfl ?_
                refine RD.q (fun _ _ => trivial) rfl (Qt.ldF (α := QAct) (Rd.base hR) ty3 rfl rfl (by first | omega | (simp only [len_si, List.length_append, List.length_replicate, List.length_cons, List.length_nil, List.length_map, List.length_take] at *; omega)) (by rintro _ _ rfl; rfl)) rfl rfl ?_
                refine RD.p (fun _ _ => trivial) rfl (Pu.bin rfl rfl rfl) rfl rfl ?_
                refine RD.p (fun _ _ => trivial) rfl (Pu.pickT rfl rfl) rfl rfl ?_
                refine RD.nil (hK35 _ _ ?_)
                refine T.condP rfl (fun hc139 => ?_) (fun hc139 => ?_)
                · refine T.conseq (fr' := [(0, _), (4, _), (6, _), (7, _), (15, _), (16, _), (17, _), (18, _)]) ?_ ⟨rfl, rfl, rfl, rfl, rfl, rfl, rfl, rfl, trivial⟩ (fun _ s => s)
                  refine T.region ?_
                  refine RS.p (Pu.move rfl) rfl rfl ?_
                  refine RS.p (Pu.addS rfl rfl (by omega)) rfl rfl ?_
                  refine RS.p (Pu.assign rfl) rfl rfl ?_
                  refine RS.nil (hK34 _ _ ?_)
                  refine T.seq fun K36 hK36 => ?_
                  refine T.know (p := ∃ g cap, q1 = (some g, cap)) (fun w s => s.row_some (k := 1) rfl (by rw [List.length_map, List.length_take]; omega)) ?_
                  rintro ⟨g1_q1, cap1_q1, rfl⟩
                  refine T.know (p := ∃ g cap, q2 = (some g, cap)) (fun w s => s.row_some (k := 2) rfl (by rw [List.length_map, List.length_take]; omega)) ?_
                  rintro ⟨g2_q2, cap2_q2, rfl⟩
                  refine T.drawn (fun _ => True) [(0, .pu), (1, .pu), (2, .pu), (3, .rd), (4, .pu), (5, .pu), (6, .pu), (7, .pu), (8, .rd), (9, .pu), (10, .pu), (11, .pu), (12, .pu), (13, .pu), (14, .rd), (15, .pu), (16, .pu), (17, .pu), (18, .pu), (19, .rd), (20, .pu), (21, .pu)] mixed (ClE.sat _ _) (by kernel_rfl) ?_
                  refine RD.p (fun _ _ => trivial) rfl (Pu.move rfl) rfl rfl ?_
                  refine RD.p (fun _ _ => trivial) rfl (Pu.move rfl) rfl rfl ?_
                  refine RD.p (fun _ _ => trivial) rfl (Pu.indexSl sl26 rfl rfl (by first | omega | (simp only [len_si, List.length_append, List.length_replicate, List.length_cons, List.length_nil, List.length_map, List.length_take] at *; omega))) rfl rfl ?_
                  refine RD.q (fun _ _ => trivial) rfl (Qt.ld0 (α := Int) (Rd.ofRowN 1 rfl) ty3 rfl rfl (by first | omega | (simp only [len_si, List.length_append, List.length_replicate, List.length_cons, List.length_nil, List.length_map, List.length_take] at *; omega)) (by rintro _ _ rfl; rfl)) rfl rfl ?_
                  refine RD.p (fun _ _ => trivial) rfl (Pu.move rfl) rfl rfl ?_
                  refine RD.p (fun _ _ => trivial) rfl (Pu.move rfl) rfl rfl ?_
                  refine RD.p (fun _ _ => trivial) rfl (Pu.indexSl sl22 rfl rfl (by first | omega | (simp only [len_si, List.length_append, List.length_replicate, List.length_cons, List.length_nil, List.length_map, List.length_take] at *; omega))) rfl rfl ?_
                  refine RD.p (fun _ _ => trivial) rfl (Pu.fieldAddr fd31_1 rfl) rfl rfl ?_
                  refine RD.q (fun _ _ => trivial) rfl (Qt.ldF (α := QAct) (Rd.base hR) ty3 rfl rfl (by first | omega | (simp only [len_si, List.length_append, List.length_replicate, List.length_cons, List.length_nil, List.length_map, List.length_take] at *; omega)) (by rintro _ _ rfl; rfl)) rfl rfl ?_
                  refine RD.p (fun _ _ => trivial) rfl (Pu.bin rfl rfl rfl) rfl rfl ?_
                  refine RD.p (fun _ _ => trivial) rfl (Pu.move rfl) rfl rfl ?_
                  refine RD.splitP 152 rfl (fun h152 => ?_) (fun h152 => ?_)
                  · refine RD.p (fun _ _ => trivial) rfl (Pu.move rfl) rfl rfl ?_
                    refine RD.p (fun _ _ => trivial) rfl (Pu.move rfl) rfl rfl ?_
                    refine RD.p (fun _ _ => trivial) rfl (Pu.indexSl sl26 rfl rfl (by first | omega | (simp only [len_si, List.length_append, List.length_replicate, List.length_cons, List.length_nil, List.length_map, List.length_take] at *; omega))) rfl rfl ?_
                    refine RD.q (fun _ _ => trivial) rfl (Qt.ld0 (α := Int) (Rd.ofRowN 2 rfl) ty3 rfl rfl (by first | omega | (simp only [len_si, List.length_append, List.length_replicate, List.length_cons, List.length_nil, List.length_map, List.length_take] at *; omega)) (by rintro _ _ rfl; rfl)) rfl rfl ?_
                    refine RD.p (fun _ _ => trivial) rfl (Pu.move rfl) rfl rfl ?_
                    refine RD.p (fun _ _ => trivial) rfl (Pu.move rfl) rfl rfl ?_
                    refine RD.p (fun _ _ => trivial) rfl (Pu.indexSl sl22 rfl rfl (by first | omega | (simp only [len_si, List.length_append, List.length_replicate, List.length_cons, List.length_nil, List.length_map, List.length_take] at *; omega))) rfl rfl ?_
                    refine RD.p (fun _ _ => trivial) rfl (Pu.fieldAddr fd31_2 rfl) rfl rfl ?_
                    refine RD.q (fun _ _ => trivial) rfl (Qt.ldF (α := QAct) (Rd.base hR) ty3 rfl rfl (by first | omega | (simp only [len_si, List.length_append, List.length_replicate, List.length_cons, List.length_nil, List.length_map, List.length_take] at *; omega)) (by rintro _ _ rfl; rfl)) rfl rfl ?_
                    refine RD.p (fun _ _ => trivial) rfl (Pu.bin rfl rfl rfl) rfl rfl ?_
                    refine RD.p (fun _ _ => trivial) rfl (Pu.pickT rfl rfl) rfl rfl ?_
                    refine RD.nil (hK36 _ _ ?_)
                    refine T.condP rfl (fun hc163 => ?_) (fun hc163 => ?_)
                    · refine T.conseq (fr' := [(0, _), (4, _), (6, _), (7, _), (15, _), (16, _), (17, _), (18, _)]) ?_ ⟨rfl, rfl, rfl, rfl, rfl, rfl, rfl, rfl, trivial⟩ (fun _ s => s)
                      refine T.region ?_
                      refine RS.p (Pu.move rfl) rfl rfl ?_
                      refine RS.p (Pu.addS rfl rfl (by omega)) rfl rfl ?_
                      refine RS.p (Pu.assign rfl) rfl rfl ?_
                      refine RS.nil (hK33 _ _ ?_)
                      refine T.region ?_
                      refine RS.p (Pu.move rfl) rfl rfl ?_
                      refine RS.p (Pu.addS rfl rfl (by omega)) rfl rfl ?_
                      refine RS.p (Pu.assign rfl) rfl rfl ?_
                      refine RS.nil (hL4 _ _ (_, _, k + 1) ⟨by omega, by omega, by split at ca <;> omega, by split at cb <;> omega⟩ (by show (n - (k + 1)).toNat < (n - k).toNat; omega) ⟨rfl, rfl, rfl, rfl, rfl, rfl, rfl, rfl, trivial⟩ (fun _ s => s))
                    · refine T.skip (hK33 _ _ (T.conseq (fr' := [(0, _), (4, _), (6, _), (7, _), (15, _), (16, _), (17, _), (18, _)]) ?_ ⟨rfl, rfl, rfl, rfl, rfl, rfl, rfl, rfl, trivial⟩ (fun _ s => s)))
                      refine T.region ?_
                      refine RS.p (Pu.move rfl) rfl rfl ?_
                      refine RS.p (Pu.addS rfl rfl (by omega)) rfl rfl ?_
                      refine RS.p (Pu.assign rfl) rfl rfl ?_
                      refine RS.nil (hL4 _ _ (_, _, k + 1) ⟨by omega, by omega, by split at ca <;> omega, by split at cb <;> omega⟩ (by show (n - (k + 1)).toNat < (n - k).toNat; omega) ⟨rfl, rfl, rfl, rfl, rfl, rfl, rfl, rfl, trivial⟩ (fun _ s => s))
                  · refine RD.no (fun _ _ => trivial) rfl rfl rfl (.inl rfl) ?_
                    refine RD.no (fun _ _ => trivial) rfl rfl rfl (.inl rfl) ?_
                    refine RD.no (fun _ _ => trivial) rfl rfl rfl (.inl rfl) ?_
                    refine RD.no (fun _ _ => trivial) rfl rfl rfl (.inr (.inr rfl)) ?_
                    refine RD.no (fun _ _ => trivial) rfl rfl rfl (.inl rfl) ?_
                    refine RD.no (fun _ _ => trivial) rfl rfl rfl (.inl rfl) ?_
                    refine RD.no (fun _ _ => trivial) rfl rfl rfl (.inl rfl) ?_
                    refine RD.no (fun _ _ => trivial) rfl rfl rfl (.inl rfl) ?_
                    refine RD.no (fun _ _ => trivial) rfl rfl rfl (.inr (.inr rfl)) ?_
                    refine RD.no (fun _ _ => trivial) rfl rfl rfl (.inl rfl) ?_
                    refine RD.p (fun _ _ => trivial) rfl (Pu.pickF rfl rfl) rfl rfl ?_
                    refine RD.nil (hK36 _ _ ?_)
                    refine T.condF rfl ?_
                    refine T.skip (hK33 _ _ (T.conseq (fr' := [(0, _), (4, _), (6, _), (7, _), (15, _), (16, _), (17, _), (18, _)]) ?_ ⟨rfl, rfl, rfl, rfl, rfl, rfl, rfl, rfl, trivial⟩ (fun _ s => s)))
                    refine T.region ?_
                    refine RS.p (Pu.move rfl) rfl rfl ?_
                    refine RS.p (Pu.addS rfl rfl (by omega)) rfl rfl ?_
                    refine RS.p (Pu.assign rfl) rfl rfl ?_
                    refine RS.nil (hL4 _ _ (_, _, k + 1) ⟨by omega, by omega, by split at ca <;> omega, by split at cb <;> omega⟩ (by show (n - (k + 1)).toNat < (n - k).toNat; omega) ⟨rfl, rfl, rfl, rfl, rfl, rfl, rfl, rfl, trivial⟩ (fun _ s => s))
                · refine T.skip (hK34 _ _ (T.conseq (fr' := [(0, _), (4, _), (6, _), (7, _), (15, _), (16, _), (17, _), (18, _)]) ?_ ⟨rfl, rfl, rfl, rfl, rfl, rfl, rfl, rfl, trivial⟩ (fun _ s => s)))
                  refine T.seq fun K37 hK37 => ?_
                  refine T.know (p := ∃ g cap, q1 = (some g, cap)) (fun w s => s.row_some (k := 1) rfl (by rw [List.length_map, List.length_take]; omega)) ?_
                  rintro ⟨g1_q1, cap1_q1, rfl⟩
                  refine T.know (p := ∃ g cap, q2 = (some g, cap)) (fun w s => s.row_some (k := 2) rfl (by rw [List.length_map, List.length_take]; omega)) ?_
                  rintro ⟨g2_q2, cap2_q2, rfl⟩
                  refine T.drawn (fun _ => True) [(0, .pu), (1, .pu), (2, .pu), (3, .rd), (4, .pu), (5, .pu), (6, .pu), (7, .pu), (8, .rd), (9, .pu), (10, .pu), (11, .pu), (12, .pu), (13, .pu), (14, .rd), (15, .pu), (16, .pu), (17, .pu), (18, .pu), (19, .rd), (20, .pu), (21, .pu)] mixed (ClE.sat _ _) (by kernel_rfl) ?_
                  refine RD.p (fun _ _ => trivial) rfl (Pu.move rfl) rfl rfl ?_
                  refine RD.p (fun _ _ => trivial) rfl (Pu.move rfl) rfl rfl ?_
                  refine RD.p (fun _ _ => trivial) rfl (Pu.indexSl sl26 rfl rfl (by first | omega | (simp only [len_si, List.length_append, List.length_replicate, List.length_cons, List.length_nil, List.length_map, List.length_take] at *; omega))) rfl rfl ?_
                  refine RD.q (fun _ _ => trivial) rfl (Qt.ld0 (α := Int) (Rd.ofRowN 1 rfl) ty3 rfl rfl (by first | omega | (simp only [len_si, List.length_append, List.length_replicate, List.length_cons, List.length_nil, List.length_map, List.length_take] at *; omega)) (by rintro _ _ rfl; rfl)) rfl rfl ?_
                  refine RD.p (fun _ _ => trivial) rfl (Pu.move rfl) rfl rfl ?_
                  refine RD.p (fun _ _ => trivial) rfl (Pu.move rfl) rfl rfl ?_
                  refine RD.p (fun _ _ => trivial) rfl (Pu.indexSl sl22 rfl rfl (by first | omega | (simp only [len_si, List.length_append, List.length_replicate, List.length_cons, List.length_nil, List.length_map, List.length_take] at *; omega))) rfl rfl ?_
                  refine RD.p (fun _ _ => trivial) rfl (Pu.fieldAddr fd31_1 rfl) rfl rfl ?_
                  refine RD.q (fun _ _ => trivial) rfl (Qt.ldF (α := QAct) (Rd.base hR) ty3 rfl rfl (by first | omega | (simp only [len_si, List.length_append, List.length_replicate, List.length_cons, List.length_nil, List.length_map, List.length_take] at *; omega)) (by rintro _ _ rfl; rfl)) rfl rfl ?_
                  refine RD.p (fun _ _ => trivial) rfl (Pu.bin rfl rfl rfl) rfl rfl ?_
                  refine RD.p (fun _ _ => trivial) rfl (Pu.move rfl) rfl rfl ?_
                  refine RD.splitP 152 rfl (fun h152 => ?_) (fun h152 => ?_)
                  · refine RD.p (fun _ _ => trivial) rfl (Pu.move rfl) rfl rfl ?_
                    refine RD.p (fun _ _ => trivial) rfl (Pu.move rfl) rfl rfl ?_
                    refine RD.p (fun _ _ => trivial) rfl (Pu.indexSl sl26 rfl rfl (by first | omega | (simp only [len_si, List.length_append, List.length_replicate, List.length_cons, List.length_nil, List.length_map, List.length_take] at *; omega))) rfl rfl ?_
                    refine RD.q (fun _ _ => trivial) rfl (Qt.ld0 (α := Int) (Rd.ofRowN 2 rfl) ty3 rfl rfl (by first | omega | (simp only [len_si, List.length_append, List.length_replicate, List.length_cons, List.length_nil, List.length_map, List.length_take] at *; omega)) (by rintro _ _ rfl; rfl)) rfl rfl ?_
                    refine RD.p (fun _ _ => trivial) rfl (Pu.move rfl) rfl rfl ?_
                    refine RD.p (fun _ _ => trivial) rfl (Pu.move rfl) rfl rfl ?_
                    refine RD.p (fun _ _ => trivial) rfl (Pu.indexSl sl22 rfl rfl (by first | omega | (simp only [len_si, List.length_append, List.length_replicate, List.length_cons, List.length_nil, List.length_map, List.length_take] at *; omega))) rfl rfl ?_
                    refine RD.p (fun _ _ => trivial) rfl (Pu.fieldAddr fd31_2 rfl) rfl rfl ?_
                    refine RD.q (fun _ _ => trivial) rfl (Qt.ldF (α := QAct) (Rd.base hR) ty3 rfl rfl (by first | omega | (simp only [len_si, List.length_append, List.length_replicate, List.length_cons, List.length_nil, List.length_map, List.length_take] at *; omega)) (by rintro _ _ rfl; rfl)) rfl rfl ?_
                    refine RD.p (fun _ _ => trivial) rfl (Pu.bin rfl rfl rfl) rfl rfl ?_
                    refine RD.p (fun _ _ => trivial) rfl (Pu.pickT rfl rfl) rfl rfl ?_
                    refine RD.nil (hK37 _ _ ?_)
                    refine T.condP rfl (fun hc163 => ?_) (fun hc163 => ?_)
                    · refine T.conseq (fr' := [(0, _), (4, _), (6, _), (7, _), (15, _), (16, _), (17, _), (18, _)]) ?_ ⟨rfl, rfl, rfl, rfl, rfl, rfl, rfl, rfl, trivial⟩ (fun _ s => s)
                      refine T.region ?_
                      refine RS.p (Pu.move rfl) rfl rfl ?_
                      refine RS.p (Pu.addS rfl rfl (by omega)) rfl rfl ?_
                      refine RS.p (Pu.assign rfl) rfl rfl ?_
                      refine RS.nil (hK33 _ _ ?_)
                      refine T.region ?_
                      refine RS.p (Pu.move rfl) rfl rfl ?_
                      refine RS.p (Pu.addS rfl rfl (by omega)) rfl rfl ?_
                      refine RS.p (Pu.assign rfl) rfl rfl ?_
                      refine RS.nil (hL4 _ _ (_, _, k + 1) ⟨by omega, by omega, by split at ca <;> omega, by split at cb <;> omega⟩ (by show (n - (k + 1)).toNat < (n - k).toNat; omega) ⟨rfl, rfl, rfl, rfl, rfl, rfl, rfl, rfl, trivial⟩ (fun _ s => s))
                    · refine T.skip (hK33 _ _ (T.conseq (fr' := [(0, _), (4, _), (6, _), (7, _), (15, _), (16, _), (17, _), (18, _)]) ?_ ⟨rfl, rfl, rfl, rfl, rfl, rfl, rfl, rfl, trivial⟩ (fun _ s => s)))
                      refine T.region ?_
                      refine RS.p (Pu.move rfl) rfl rfl ?_
                      refine RS.p (Pu.addS rfl rfl (by omega)) rfl rfl ?_
                      refine RS.p (Pu.assign rfl) rfl rfl ?_
                      refine RS.nil (hL4 _ _ (_, _, k + 1) ⟨by omega, by omega, by split at ca <;> omega, by split at cb <;> omega⟩ (by show (n - (k + 1)).toNat < (n - k).toNat; omega) ⟨rfl, rfl, rfl, rfl, rfl, rfl, rfl, rfl, trivial⟩ (fun _ s => s))
                  · refine RD.no (fun _ _ => trivial) rfl rfl rfl (.inl rfl) ?_
                    refine RD.no (fun _ _ => trivial) rfl rfl rfl (.inl rfl) ?_
                    refine RD.no (fun _ _ => trivial) rfl rfl rfl (.inl rfl) ?_
                    refine RD.no (fun _ _ => trivial) rfl rfl rfl (.inr (.inr rfl)) ?_
                    refine RD.no (fun _ _ => trivial) rfl rfl rfl (.inl rfl) ?_
                    refine RD.no (fun _ _ => trivial) rfl rfl rfl (.inl rfl) ?_
                    refine RD.no (fun _ _ => trivial) rfl rfl rfl (.inl rfl) ?_
                    refine RD.no (fun _ _ => trivial) rfl rfl rfl (.inl rfl) ?_
                    refine RD.no (fun _ _ => trivial) rfl rfl rfl (.inr (.inr rfl)) ?_
                    refine RD.no (fun _ _ => trivial) rfl rfl rfl (.inl rfl) ?_
                    refine RD.p (fun _ _ => trivial) rfl (Pu.pickF rfl rfl) rfl rfl ?_
                    refine RD.nil (hK37 _ _ ?_)
                    refine T.condF rfl ?_
                    refine T.skip (hK33 _ _ (T.conseq (fr' := [(0, _), (4, _), (6, _), (7, _), (15, _), (16, _), (17, _), (18, _)]) ?_ ⟨rfl, rfl, rfl, rfl, rfl, rfl, rfl, rfl, trivial⟩ (fun _ s => s)))
                    refine T.region ?_
                    refine RS.p (Pu.move rfl) rfl rfl ?_
                    refine RS.p (Pu.addS rfl rfl (by omega)) rfl rfl ?_
                    refine RS.p (Pu.assign rfl) rfl rfl ?_
                    refine RS.nil (hL4 _ _ (_, _, k + 1) ⟨by omega, by omega, by split at ca <;> omega, by split at cb <;> omega⟩ (by show (n - (k + 1)).toNat < (n - k).toNat; omega) ⟨rfl, rfl, rfl, rfl, rfl, rfl, rfl, rfl, trivial⟩ (fun _ s => s))
              · refine RD.no (fun _ _ => trivial) rfl rfl rfl (.inl rfl) ?_
                refine RD.no (fun _ _ => trivial) rfl rfl rfl (.inl rfl) ?_
                refine RD.no (fun _ _ => trivial) rfl rfl rfl (.inl rfl) ?_
                refine RD.no (fun _ _ => trivial) rfl rfl rfl (.inl rfl) ?_
                refine RD.no (fun _ _ => trivial) rfl rfl rfl (.inr (.inr rfl)) ?_
                refine RD.no (fun _ _ => trivial) rfl rfl rfl (.inl rfl) ?_
                refine RD.no (fun _ _ => trivial) rfl rfl rfl (.inl rfl) ?_
                refine RD.no (fun _ _ => trivial) rfl rfl rfl (.inl rfl) ?_
                refine RD.no (fun _ _ => trivial) rfl rfl rfl (.inl rfl) ?_
                refine RD.no (fun _ _ => trivial) rfl rfl rfl (.inr (.inr rfl)) ?_
                refine RD.no (fun _ _ => trivial) rfl rfl rfl (.inl rfl) ?_
                refine RD.p (fun _ _ => trivial) rfl (Pu.pickF rfl rfl) rfl rfl ?_
                refine RD.nil (hK35 _ _ ?_)
                refine T.condF rfl ?_
                refine T.skip (hK34 _ _ (T.conseq (fr' := [(0, _), (4, _), (6, _), (7, _), (15, _), (16, _), (17, _), (18, _)]) ?_ ⟨rfl, rfl, rfl, rfl, rfl, rfl, rfl, rfl, trivial⟩ (fun _ s => s)))
                refine T.seq fun K38 hK38 => ?_
                refine T.know (p := ∃ g cap, q1 = (some g, cap)) (fun w s => s.row_some (k := 1) rfl (by rw [List.length_map, List.length_take]; omega)) ?_
                rintro ⟨g1_q1, cap1_q1, rfl⟩
                refine T.know (p := ∃ g cap, q2 = (some g, cap)) (fun w s => s.row_some (k := 2) rfl (by rw [List.length_map, List.length_take]; omega)) ?_
                rintro ⟨g2_q2, cap2_q2, rfl⟩
                refine T.drawn (fun _ => True) [(0, .pu), (1, .pu), (2, .pu), (3, .rd), (4, .pu), (5, .pu), (6, .pu), (7, .pu), (8, .rd), (9, .pu), (10, .pu), (11, .pu), (12, .pu), (13, .pu), (14, .rd), (15, .pu), (16, .pu), (17, .pu), (18, .pu), (19, .rd), (20, .pu), (21, .pu)] mixed (ClE.sat _ _) (by kernel_rfl) ?_
                refine RD.p (fun _ _ => trivial) rfl (Pu.move rfl) rfl rfl ?_
                refine RD.p (fun _ _ => trivial) rfl (Pu.move rfl) rfl rfl ?_
                refine RD.p (fun _ _ => trivial) rfl (Pu.indexSl sl26 rfl rfl (by first | omega | (simp only [len_si, List.length_append, List.length_replicate, List.length_cons, List.length_nil, List.length_map, List.length_take] at *; omega))) rfl rfl ?_
                refine RD.q (fun _ _ => trivial) rfl (Qt.ld0 (α := Int) (Rd.ofRowN 1 rfl) ty3 rfl rfl (by first | omega | (simp only [len_si, List.length_append, List.length_replicate, List.length_cons, List.length_nil, List.length_map, List.length_take] at *; omega)) (by rintro _ _ rfl; rfl)) rfl rfl ?_
                refine RD.p (fun _ _ => trivial) rfl (Pu.move rfl) rfl rfl ?_
                refine RD.p (fun _ _ => trivial) rfl (Pu.move rfl) rfl rfl ?_
                refine RD.p (fun _ _ => trivial) rfl (Pu.indexSl sl22 rfl rfl (by first | omega | (simp only [len_si, List.length_append, List.length_replicate, List.length_cons, List.length_nil, List.length_map, List.length_take] at *; omega))) rfl rfl ?_
                refine RD.p (fun _ _ => trivial) rfl (Pu.fieldAddr fd31_1 rfl) rfl rfl ?_
                refine RD.q (fun _ _ => trivial) rfl (Qt.ldF (α := QAct) (Rd.base hR) ty3 rfl rfl (by first | omega | (simp only [len_si, List.length_append, List.length_replicate, List.length_cons, List.length_nil, List.length_map, List.length_take] at *; omega)) (by rintro _ _ rfl; rfl)) rfl rfl ?_
                refine RD.p (fun _ _ => trivial) rfl (Pu.bin rfl rfl rfl) rfl rfl ?_
                refine RD.p (fun _ _ => trivial) rfl (Pu.move rfl) rfl rfl ?_
                refine RD.splitP 152 rfl (fun h152 => ?_) (fun h152 => ?_)
                · refine RD.p (fun _ _ => trivial) rfl (Pu.move rfl) rfl rfl ?_
                  refine RD.p (fun _ _ => trivial) rfl (Pu.move rfl) rfl rfl ?_
                  refine RD.p (fun _ _ => trivial) rfl (Pu.indexSl sl26 rfl rfl (by first | omega | (simp only [len_si, List.length_append, List.length_replicate, List.length_cons, List.length_nil, List.length_map, List.length_take] at *; omega))) rfl rfl ?_
                  refine RD.q (fun _ _ => trivial) rfl (Qt.ld0 (α := Int) (Rd.ofRowN 2 rfl) ty3 rfl rfl (by first | omega | (simp only [len_si, List.length_append, List.length_replicate, List.length_cons, List.length_nil, List.length_map, List.length_take] at *; omega)) (by rintro _ _ rfl; rfl)) rfl rfl ?_
                  refine RD.p (fun _ _ => trivial) rfl (Pu.move rfl) rfl rfl ?_
                  refine RD.p (fun _ _ => trivial) rfl (Pu.move rfl) rfl rfl ?_
                  refine RD.p (fun _ _ => trivial) rfl (Pu.indexSl sl22 rfl rfl (by first | omega | (simp only [len_si, List.length_append, List.length_replicate, List.length_cons, List.length_nil, List.length_map, List.length_take] at *; omega))) rfl rfl ?_
                  refine RD.p (fun _ _ => trivial) rfl (Pu.fieldAddr fd31_2 rfl) rfl rfl ?_
                  refine RD.q (fun _ _ => trivial) rfl (Qt.ldF (α := QAct) (Rd.base hR) ty3 rfl rfl (by first | omega | (simp only [len_si, List.length_append, List.length_replicate, List.length_cons, List.length_nil, List.length_map, List.length_take] at *; omega)) (by rintro _ _ rfl; rfl)) rfl rfl ?_
                  refine RD.p (fun _ _ => trivial) rfl (Pu.bin rfl rfl rfl) rfl rfl ?_
                  refine RD.p (fun _ _ => trivial) rfl (Pu.pickT rfl rfl) rfl rfl ?_
                  refine RD.nil (hK38 _ _ ?_)
                  refine T.condP rfl (fun hc163 => ?_) (fun hc163 => ?_)
                  · refine T.conseq (fr' := [(0, _), (4, _), (6, _), (7, _), (15, _), (16, _), (17, _), (18, _)]) ?_ ⟨rfl, rfl, rfl, rfl, rfl, rfl, rfl, rfl, trivial⟩ (fun _ s => s)
                    refine T.region ?_
                    refine RS.p (Pu.move rfl) rfl rfl ?_
                    refine RS.p (Pu.addS rfl rfl (by omega)) rfl rfl ?_
                    refine RS.p (Pu.assign rfl) rfl rfl ?_
                    refine RS.nil (hK33 _ _ ?_)
                    refine T.region ?_
                    refine RS.p (Pu.move rfl) rfl rfl ?_
                    refine RS.p (Pu.addS rfl rfl (by omega)) rfl rfl ?_
                    refine RS.p (Pu.assign rfl) rfl rfl ?_
                    refine RS.nil (hL4 _ _ (_, _, k + 1) ⟨by omega, by omega, by split at ca <;> omega, by split at cb <;> omega⟩ (by show (n - (k + 1)).toNat < (n - k).toNat; omega) ⟨rfl, rfl, rfl, rfl, rfl, rfl, rfl, rfl, trivial⟩ (fun _ s => s))
                  · refine T.skip (hK33 _ _ (T.conseq (fr' := [(0, _), (4, _), (6, _), (7, _), (15, _), (16, _), (17, _), (18, _)]) ?_ ⟨rfl, rfl, rfl, rfl, rfl, rfl, rfl, rfl, trivial⟩ (fun _ s => s)))
                    refine T.region ?_
                    refine RS.p (Pu.move rfl) rfl rfl ?_
                    refine RS.p (Pu.addS rfl rfl (by omega)) rfl rfl ?_
                    refine RS.p (Pu.assign rfl) rfl rfl ?_
                    refine RS.nil (hL4 _ _ (_, _, k + 1) ⟨by omega, by omega, by split at ca <;> omega, by split at cb <;> omega⟩ (by show (n - (k + 1)).toNat < (n - k).toNat; omega) ⟨rfl, rfl, rfl, rfl, rfl, rfl, rfl, rfl, trivial⟩ (fun _ s => s))
                · refine RD.no (fun _ _ => trivial) rfl rfl rfl (.inl rfl) ?_
                  refine RD.no (fun _ _ => trivial) rfl rfl rfl (.inl rfl) ?_
                  refine RD.no (fun _ _ => trivial) rfl rfl rfl (.inl rfl) ?_
                  refine RD.no (fun _ _ => trivial) rfl rfl rfl (.inr (.inr rfl)) ?_
                  refine RD.no (fun _ _ => trivial) rfl rfl rfl (.inl rfl) ?_
                  refine RD.no (fun _ _ => trivial) rfl rfl rfl (.inl rfl) ?_
                  refine RD.no (fun _ _ => trivial) rfl rfl rfl (.inl rfl) ?_
                  refine RD.no (fun _ _ => trivial) rfl rfl rfl (.inl rfl) ?_
                  refine RD.no (fun _ _ => trivial) rfl rfl rfl (.inr (.inr rfl)) ?_
                  refine RD.no (fun _ _ => trivial) rfl rfl rfl (.inl rfl) ?_
                  refine RD.p (fun _ _ => trivial) rfl (Pu.pickF rfl rfl) rfl rfl ?_
                  refine RD.nil (hK38 _ _ ?_)
                  refine T.condF rfl ?_
                  refine T.skip (hK33 _ _ (T.conseq (fr' := [(0, _), (4, _), (6, _), (7, _), (15, _), (16, _), (17, _), (18, _)]) ?_ ⟨rfl, rfl, rfl, rfl, rfl, rfl, rfl, rfl, trivial⟩ (fun _ s => s)))
                  refine T.region ?_
                  refine RS.p (Pu.move rfl) rfl rfl ?_
                  refine RS.p (Pu.addS rfl rfl (by omega)) rfl rfl ?_
                  refine RS.p (Pu.assign rfl) rfl rfl ?_
                  refine RS.nil (hL4 _ _ (_, _, k + 1) ⟨by omega, by omega, by split at ca <;> omega, by split at cb <;> omega⟩ (by show (n - (k + 1)).toNat < (n - k).toNat; omega) ⟨rfl, rfl, rfl, rfl, rfl, rfl, rfl, rfl, trivial⟩ (fun _ s => s))
            · refine T.exitTo (by with_reducible (repeat (first | exact ExTo.here | exact ExTo.hereN | apply ExTo.seq | refine ExTo.past (by decide) ?_))) (hK29 _ _ (T.conseq (fr' := [(0, _), (4, _), (6, _), (7, _), (15, _), (16, _), (17, _)]) ?_ ⟨rfl, rfl, rfl, rfl, rfl, rfl, rfl, trivial⟩ (fun _ s => s)))
              refine T.seq fun K39 hK39 => ?_
              refine T.region ?_
              refine RS.p (Pu.move rfl) rfl rfl ?_
              refine RS.p (Pu.move rfl) rfl rfl ?_
              refine RS.p (Pu.bin rfl rfl rfl) rfl rfl ?_
              refine RS.nil (hK39 _ _ ?_)
              refine T.condP rfl (fun hc168 => ?_) (fun hc168 => ?_)
              · refine absurd ?_ hc168
                have hk : k = n := by omega
                have h1 : s.take k.toNat = s := List.take_of_length_le (by omega)
                have h2 : (l.map itm).take k.toNat = (l.take i.toNat).map itm := by rw [List.map_take, hk, hin]
                rw [h1] at hkb
                rw [h2] at hka
                rw [hka, hkb, hip.count_eq] -- end
              · refine T.skip (hK27 _ _ (T.conseq (fr' := [(0, _), (4, _), (6, _), (7, _), (15, _)]) ?_ ⟨rfl, rfl, rfl, rfl, rfl, trivial⟩ (fun _ s => s)))
                refine T.region ?_
                refine RS.p (Pu.move rfl) rfl rfl ?_
                refine RS.p (Pu.addS rfl rfl (by omega)) rfl rfl ?_
                refine RS.p (Pu.assign rfl) rfl rfl ?_
                refine RS.nil (hL3 _ _ (x + 1) ⟨by omega, by omega⟩ (by omega) ⟨rfl, rfl, rfl, rfl, rfl, trivial⟩ (fun _ s => s))
          · refine T.exitTo (by with_reducible (repeat (first | exact ExTo.here | exact ExTo.hereN | apply ExTo.seq | refine ExTo.past (by decide) ?_))) (hK23 _ _ (T.conseq (fr' := []) ?_ trivial (fun _ s => s)))
            refine T.seq fun K40 hK40 => ?_
            refine T.region ?_
            refine RS.q (Qt.call ent22 rfl fun w _s => eqNumbers_calls (a := []) (b := []) w ⟨none, 0, rfl, by simp, by simp, .inl rfl⟩ ⟨none, 0, rfl, by simp, by simp, .inl rfl⟩) rfl rfl ?_
            refine RS.p (Pu.move rfl) rfl rfl ?_
            refine RS.splitP 170 rfl (fun h170 => ?_) (fun h170 => ?_)
            · refine RS.q (Qt.call ent21 rfl fun w _s => wakes12_calls _) rfl rfl ?_
              refine RS.p (Pu.pickT rfl rfl) rfl rfl ?_
              refine RS.p (Pu.assign rfl) rfl rfl ?_
              refine RS.nil (hK40 _ _ (T.conseq (fr' := [(2, _)]) ?_ ⟨rfl, trivial⟩ (fun _ s => s)))
              refine T.retTo (by with_reducible ((repeat (first | apply RetTo.seq | apply RetTo.blk)); exact RetTo.refl _)) (Cont.ret1 rfl rfl fun w' s => ?_)
              exact ⟨rfl, s.ext⟩
            · exact absurd rfl h170 -- end
set_option maxRecDepth 100000 in
theorem queueRises_lifted (os : Os) (started : os.Started) (H : Type) (enc : TypeId × Value → H) :
    ReturnsInHanded {} Try.checked os 4 .any (Rows.queueRisesSpec.pre6 enc Try.prog Try.f4 Rows.queueRisesRow.domain false) (Rows.queueRisesSpec.post enc Try.prog Try.f4 false true false false) := by
  refine returnsInHanded_of_change_sized (C := Try.checked) own started (by kernel_rfl) Try.func4
    (ChangeSpec.witness6 (enc := enc) (C := Try.checked) false ⟨#[], #[.slice none 0 0], []⟩ 8 (by kernel_rfl) (by kernel_rfl) (by kernel_rfl) (by kernel_rfl)) ?_
  intro W base args ds gs before hval0 hW _ hsz0 _
  have hval : ∀ (j : Nat) t v, Try.f4.params[j]? = some t → args[j]? = some v → Value.okWide Try.prog W .any base t v := hval0
  have hW' := hW
  obtain ⟨p, q, hA0, hV, rfl, _, _⟩ := hW
  have hA : DataW.TrodAll enc Try.prog W 0 (fun _ => true) true Try.f4.params.toList args.toList ds p := hA0
  rw [Try.params4] at hA hval
  obtain ⟨v0, vs0, d0, ds0, p0, q0, hargs, rfl, rfl, h0, r0⟩ := trodAll_cons hA
  obtain ⟨rfl, rfl, rfl⟩ := trodAll_nil r0
  obtain rfl : args = #[v0] := by cases args; simp_all
  obtain ⟨rfl, rfl⟩ := trodVars_none hV
  obtain ⟨x0, hR0, hx0⟩ := Rdbl.arg (Rdbl.slice usl22 co31 (by decide) rd_QAct) h0
  obtain ⟨a0, len0, cap0, rfl⟩ := okWide_slice usl22 (hval 0 22 v0 rfl rfl)
  refine (queueRises_walk x0 hx0 W _ hR0).mono fun e W' ⟨he, hg⟩ => ?_
  subst he
  exact ⟨_, rfl, post_ext laidOut (by kernel_rfl) hW' (trodAll_cons_mk (shut_bool ul4 _) trodAll_mk0) rfl rfl rfl hg⟩
theorem queueRises_holds : Rows.QueueRisesSaid :=
  OpenClaim.holds_of_wide 4 Try.f4 rfl rfl rfl rfl rfl rfl rfl ⟨rfl, rfl, rfl, rfl, rfl⟩ rfl rfl rfl rfl rfl (by kernel_rfl) Try.func4 (by kernel_rfl)
    (of_decide_eq_true (by kernel_rfl)) (by unfold Func.isWrapper; first | (rw [if_pos (by decide +kernel)]; kernel_rfl) | (rw [if_neg (by decide +kernel)]; exact ⟨rfl, rfl⟩))
    (fun os started H enc _ => queueRises_lifted os started H enc)
end Go.Proofs.Ytacpdjccbadomaa
