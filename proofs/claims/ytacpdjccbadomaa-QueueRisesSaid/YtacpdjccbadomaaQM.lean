/-
  QueueMixed: proved for every input, without a condition.
-/
import Derived.Test.YtacpdjccbadomaaRows
import Derived.Test.YtacpdjccbadomaaQE
set_option linter.unusedVariables false
set_option linter.unusedSimpArgs false
set_option maxRecDepth 20000
set_option maxHeartbeats 1000000
namespace Go.Proofs.Ytacpdjccbadomaa
open Go.Vg
open Enc (R)
open Qp
open Go.ChangeShapes Go.WideShapes Go.RowKit
namespace Qp
theorem ins_ne (x : Item) (s : List Item) : ins x s ≠ [] := by
  intro h; have := len_ins x s; rw [h] at this; simp at this
theorem hd_ins (x : Item) (s : List Item) : ¬ x.Lt (hd (ins x s)) := by
  cases s with
  | nil => unfold ins hd Item.Lt; simp
  | cons y r =>
    unfold ins
    split
    · unfold hd Item.Lt; simp
    · rename_i h; exact h
theorem hd_ins_le (x : Item) (s : List Item) : (hd (ins x s)).key < x.key ∨ (hd (ins x s)).key = x.key ∧ (hd (ins x s)).val ≤ x.val := by
  have := hd_ins x s
  unfold Item.Lt at this; omega
end Qp
theorem queueMixed_walk (l : List QAct) (hl : ∀ x ∈ l, QAct.Wf x) (w : World) (v : Value) (hR : R (hpOf w) l [v]) : Calls Try.prog 5 #[v] w fun e w' => e = .returned (.bool true) ∧ Ext w w' := by
  refine T.enter (args := [_]) (S := Sat w []) Try.func5 rfl rfl (Sat.start w) ?_
  have hm := R_max hR
  obtain ⟨p, c, rfl⟩ := R_form hR
  refine T.seq fun K1 hK1 => ?_
  refine T.region ?_
  refine RS.p (Pu.assign rfl) rfl rfl ?_
  refine RS.nil (hK1 _ _ ?_)
  refine T.seq fun K2 hK2 => ?_
  refine T.region ?_
  refine RS.solid (Sd.callN ent14 rfl (fun w _ => new_calls w)) rfl rfl fun bq => ?_
  refine RS.p (Pu.assign rfl) rfl rfl ?_
  refine RS.nil (hK2 _ _ ?_)
  refine T.seq fun K3 hK3 => ?_
  refine T.seq fun K4 hK4 => ?_
  refine T.region ?_
  refine RS.p (Pu.move rfl) rfl rfl ?_
  refine RS.p (Pu.eqNil ul23 rfl) rfl rfl ?_
  refine RS.nil (hK4 _ _ ?_)
  refine T.condF rfl ?_
  refine T.skip (hK3 _ _ (T.conseq (fr' := [(0, _), (3, _)]) ?_ ⟨rfl, rfl, trivial⟩ (fun _ s => s)))
  refine T.seq fun K5 hK5 => ?_
  refine T.region ?_
  refine RS.p (Pu.assign rfl) rfl rfl ?_
  refine RS.p (Pu.assign rfl) rfl rfl ?_
  refine RS.nil (hK5 _ _ ?_)
  refine T.seq fun K6 hK6 => ?_
  refine T.seq fun K7 hK7 => ?_
  refine T.region ?_
  refine RS.p (Pu.assign rfl) rfl rfl ?_
  refine RS.nil (hK7 _ _ ?_)
  refine T.block ?_
  refine T.loopK (σ := Int × List Item) [(0, _), (3, _)] (fun ⟨i, s⟩ => [(4, .int .i64 (2 * i)), (5, .int .i64 i), (6, .int .i64 i)]) (fun ⟨i, s⟩ => Sat w [qch bq s]) (fun ⟨i, s⟩ => 0 ≤ i ∧ (s.length : Int) = i ∧ i ≤ 80) (fun ⟨i, s⟩ => (80 - i).toNat) (0, []) (⟨by omega, by simp, by omega⟩) ⟨rfl, rfl, trivial⟩ ⟨rfl, rfl, rfl, rfl, rfl, trivial⟩ (fun w s => s) ?_
  intro ⟨i, s⟩ hI K7_ hL1
  refine T.conseq (fr' := [(4, _), (5, _), (6, _), (0, _), (3, _)]) ?_ ⟨rfl, rfl, rfl, rfl, rfl, trivial⟩ (fun _ s => s)
  obtain ⟨hi0, hi1, hi2⟩ := hI
  try dsimp only at hi0 hi1 hi2 ⊢
  refine T.seq fun K8 hK8 => ?_
  refine T.seq fun K9 hK9 => ?_
  refine T.region ?_
  refine RS.p (Pu.move rfl) rfl rfl ?_
  refine RS.p (Pu.move rfl) rfl rfl ?_
  refine RS.p (Pu.lenSl sl22 rfl) rfl rfl ?_
  refine RS.p (Pu.bin rfl rfl rfl) rfl rfl ?_
  refine RS.p (Pu.move rfl) rfl rfl ?_
  refine RS.splitP 20 rfl (fun h20 => ?_) (fun h20 => ?_)
  · refine RS.p (Pu.move rfl) rfl rfl ?_
    refine RS.p (Pu.bin rfl rfl rfl) rfl rfl ?_
    refine RS.p (Pu.pickT rfl rfl) rfl rfl ?_
    refine RS.nil (hK9 _ _ ?_)
    refine T.condP rfl (fun hc23 => ?_) (fun hc23 => ?_)
    · refine T.skip (hK8 _ _ (T.conseq (fr' := [(0, _), (3, _), (4, _), (5, _), (6, _)]) ?_ ⟨rfl, rfl, rfl, rfl, rfl, trivial⟩ (fun _ s => s)))
      refine T.seq fun K10 hK10 => ?_
      refine T.block ?_
      refine T.seq fun K11 hK11 => ?_
      refine T.drawn (fun _ => True) [(0, .pu), (1, .pu), (2, .pu), (3, .pu), (4, .pu), (5, .rd), (6, .pu), (7, .pu), (8, .pu), (9, .pu), (10, .rd), (11, .br)] mixed (ClE.sat _ _) (by kernel_rfl) ?_
      refine RD.p (fun _ _ => trivial) rfl (Pu.move rfl) rfl rfl ?_
      refine RD.p (fun _ _ => trivial) rfl (Pu.move rfl) rfl rfl ?_
      refine RD.p (fun _ _ => trivial) rfl (Pu.move rfl) rfl rfl ?_
      obtain ⟨bl_hR, ol_hR, rfl⟩ := R_ptr hR (ne_of_pos (by first | omega | (simp only [len_si, List.length_append, List.length_replicate, List.length_cons, List.length_nil, List.length_map, List.length_take] at *; omega)))
      refine RD.p (fun _ _ => trivial) rfl (Pu.indexSl sl22 rfl rfl (by first | omega | (simp only [len_si, List.length_append, List.length_replicate, List.length_cons, List.length_nil, List.length_map, List.length_take] at *; omega))) rfl rfl ?_
      refine RD.p (fun _ _ => trivial) rfl (Pu.fieldAddr fd31_1 rfl) rfl rfl ?_
      refine RD.q (fun _ _ => trivial) rfl (Qt.ldF (α := QAct) (Rd.base hR) ty3 rfl rfl (by first | omega | (simp only [len_si, List.length_append, List.length_replicate, List.length_cons, List.length_nil, List.length_map, List.length_take] at *; omega)) (by rintro _ _ rfl; rfl)) rfl rfl ?_
      refine RD.p (fun _ _ => trivial) rfl (Pu.move rfl) rfl rfl ?_
      refine RD.p (fun _ _ => trivial) rfl (Pu.move rfl) rfl rfl ?_
      refine RD.p (fun _ _ => trivial) rfl (Pu.indexSl sl22 rfl rfl (by first | omega | (simp only [len_si, List.length_append, List.length_replicate, List.length_cons, List.length_nil, List.length_map, List.length_take] at *; omega))) rfl rfl ?_
      refine RD.p (fun _ _ => trivial) rfl (Pu.fieldAddr fd31_2 rfl) rfl rfl ?_
      refine RD.q (fun _ _ => trivial) rfl (Qt.ldF (α := QAct) (Rd.base hR) ty3 rfl rfl (by first | omega | (simp only [len_si, List.length_append, List.length_replicate, List.length_cons, List.length_nil, List.length_map, List.length_take] at *; omega)) (by rintro _ _ rfl; rfl)) rfl rfl ?_
      refine RD.solid rfl (.inr rfl) rfl rfl (Sd.callU 0 ent16 rfl rfl (fun F w h => (push_calls _ _ (by first | omega | (simp only [Qp.len_ins, List.length_tail, List.length_cons, List.length_nil] at *; omega)) w h))) (fun _ => ClE.sat _ _) (fun _ _ _ => trivial) (fun h => nomatch h) fun _ => ?_
      refine RD.nil (hK11 _ _ (T.conseq (fr' := [(0, _), (3, _), (4, _), (5, _), (6, _)]) ?_ ⟨rfl, rfl, rfl, rfl, rfl, trivial⟩ (fun _ s => s)))
      refine T.seq fun K12 hK12 => ?_
      refine T.drawn (fun _ => True) [(0, .pu), (1, .pu), (2, .pu), (3, .pu), (4, .pu), (5, .rd), (6, .pu), (7, .pu), (8, .pu), (9, .pu), (10, .rd), (11, .br)] mixed (ClE.sat _ _) (by kernel_rfl) ?_
      refine RD.p (fun _ _ => trivial) rfl (Pu.move rfl) rfl rfl ?_
      refine RD.p (fun _ _ => trivial) rfl (Pu.move rfl) rfl rfl ?_
      refine RD.p (fun _ _ => trivial) rfl (Pu.move rfl) rfl rfl ?_
      refine RD.p (fun _ _ => trivial) rfl (Pu.indexSl sl22 rfl rfl (by first | omega | (simp only [len_si, List.length_append, List.length_replicate, List.length_cons, List.length_nil, List.length_map, List.length_take] at *; omega))) rfl rfl ?_
      refine RD.p (fun _ _ => trivial) rfl (Pu.fieldAddr fd31_1 rfl) rfl rfl ?_
      refine RD.q (fun _ _ => trivial) rfl (Qt.ldF (α := QAct) (Rd.base hR) ty3 rfl rfl (by first | omega | (simp only [len_si, List.length_append, List.length_replicate, List.length_cons, List.length_nil, List.length_map, List.length_take] at *; omega)) (by rintro _ _ rfl; rfl)) rfl rfl ?_
      refine RD.p (fun _ _ => trivial) rfl (Pu.move rfl) rfl rfl ?_
      refine RD.p (fun _ _ => trivial) rfl (Pu.move rfl) rfl rfl ?_
      refine RD.p (fun _ _ => trivial) rfl (Pu.indexSl sl22 rfl rfl (by first | omega | (simp only [len_si, List.length_append, List.length_replicate, List.length_cons, List.length_nil, List.length_map, List.length_take] at *; omega))) rfl rfl ?_
      refine RD.p (fun _ _ => trivial) rfl (Pu.fieldAddr fd31_2 rfl) rfl rfl ?_
      refine RD.q (fun _ _ => trivial) rfl (Qt.ldF (α := QAct) (Rd.base hR) ty3 rfl rfl (by first | omega | (simp only [len_si, List.length_append, List.length_replicate, List.length_cons, List.length_nil, List.length_map, List.length_take] at *; omega)) (by rintro _ _ rfl; rfl)) rfl rfl ?_
      refine RD.solid rfl (.inr rfl) rfl rfl (Sd.callU 0 ent16 rfl rfl (fun F w h => (push_calls _ _ (by first | omega | (simp only [Qp.len_ins, List.length_tail, List.length_cons, List.length_nil] at *; omega)) w h))) (fun _ => ClE.sat _ _) (fun _ _ _ => trivial) (fun h => nomatch h) fun _ => ?_
      refine RD.nil (hK12 _ _ (T.conseq (fr' := [(0, _), (3, _), (4, _), (5, _), (6, _)]) ?_ ⟨rfl, rfl, rfl, rfl, rfl, trivial⟩ (fun _ s => s)))
      refine T.seq fun K13 hK13 => ?_
      refine T.region ?_
      refine RS.p (Pu.move rfl) rfl rfl ?_
      refine RS.p (Pu.addS rfl rfl (by omega)) rfl rfl ?_
      refine RS.p (Pu.assign rfl) rfl rfl ?_
      refine RS.nil (hK13 _ _ ?_)
      refine T.seq fun K14 hK14 => ?_
      refine T.region ?_
      refine RS.p (Pu.move rfl) rfl rfl ?_
      refine RS.solid (Sd.callU 0 ent18 rfl rfl (fun F w h => (pop_calls (by first | omega | (simp only [Qp.len_ins, List.length_tail, List.length_cons, List.length_nil] at *; omega)) w h))) rfl rfl fun _ => ?_
      refine RS.p (Pu.move rfl) rfl rfl ?_
      refine RS.p (Pu.extract rfl rfl) rfl rfl ?_
      refine RS.p (Pu.extract rfl rfl) rfl rfl ?_
      refine RS.p (Pu.extract rfl rfl) rfl rfl ?_
      refine RS.p (Pu.assign rfl) rfl rfl ?_
      refine RS.p (Pu.assign rfl) rfl rfl ?_
      refine RS.p (Pu.assign rfl) rfl rfl ?_
      refine RS.nil (hK14 _ _ (T.conseq (fr' := [(0, _), (3, _), (4, _), (5, _), (6, _), (7, _), (8, _), (9, _)]) ?_ ⟨rfl, rfl, rfl, rfl, rfl, rfl, rfl, rfl, trivial⟩ (fun _ s => s)))
      refine T.seq fun K15 hK15 => ?_
      refine T.seq fun K16 hK16 => ?_
      refine T.region ?_
      refine RS.p (Pu.move rfl) rfl rfl ?_
      refine RS.p (Pu.notP rfl) rfl rfl ?_
      refine RS.p (Pu.move rfl) rfl rfl ?_
      refine RS.splitP 60 rfl (fun h60 => ?_) (fun h60 => ?_)
      · exact absurd (ins_ne _ _) h60 -- end
      · refine RS.p (Pu.move rfl) rfl rfl ?_
        refine RS.p (Pu.move rfl) rfl rfl ?_
        refine RS.p (Pu.move rfl) rfl rfl ?_
        refine RS.p (Pu.indexSl sl22 rfl rfl (by first | omega | (simp only [len_si, List.length_append, List.length_replicate, List.length_cons, List.length_nil, List.length_map, List.length_take] at *; omega))) rfl rfl ?_
        refine RS.p (Pu.fieldAddr fd31_1 rfl) rfl rfl ?_
        refine RS.q (Qt.ldF (α := QAct) (Rd.base hR) ty3 rfl rfl (by first | omega | (simp only [len_si, List.length_append, List.length_replicate, List.length_cons, List.length_nil, List.length_map, List.length_take] at *; omega)) (by rintro _ _ rfl; rfl)) rfl rfl ?_
        refine RS.p (Pu.bin rfl rfl rfl) rfl rfl ?_
        refine RS.p (Pu.pickF rfl rfl) rfl rfl ?_
        refine RS.p (Pu.move rfl) rfl rfl ?_
        refine RS.splitP 69 rfl (fun h69 => ?_) (fun h69 => ?_)
        · have hle := hd_ins_le (⟨(gi l i).key, (gi l i).val⟩ : Item) (ins ⟨(gi l i).key, (gi l i).val⟩ s)
          dsimp only at hle
          exact absurd h69 (by omega) -- end
        · refine RS.p (Pu.move rfl) rfl rfl ?_
          refine RS.p (Pu.move rfl) rfl rfl ?_
          refine RS.p (Pu.move rfl) rfl rfl ?_
          refine RS.p (Pu.indexSl sl22 rfl rfl (by first | omega | (simp only [len_si, List.length_append, List.length_replicate, List.length_cons, List.length_nil, List.length_map, List.length_take] at *; omega))) rfl rfl ?_
          refine RS.p (Pu.fieldAddr fd31_1 rfl) rfl rfl ?_
          refine RS.q (Qt.ldF (α := QAct) (Rd.base hR) ty3 rfl rfl (by first | omega | (simp only [len_si, List.length_append, List.length_replicate, List.length_cons, List.length_nil, List.length_map, List.length_take] at *; omega)) (by rintro _ _ rfl; rfl)) rfl rfl ?_
          refine RS.p (Pu.bin rfl rfl rfl) rfl rfl ?_
          refine RS.p (Pu.move rfl) rfl rfl ?_
          refine RS.splitP 77 rfl (fun h77 => ?_) (fun h77 => ?_)
          · have hle := hd_ins_le (⟨(gi l i).key, (gi l i).val⟩ : Item) (ins ⟨(gi l i).key, (gi l i).val⟩ s)
            dsimp only at hle
            refine RS.p (Pu.move rfl) rfl rfl ?_
            refine RS.p (Pu.move rfl) rfl rfl ?_
            refine RS.p (Pu.move rfl) rfl rfl ?_
            refine RS.p (Pu.indexSl sl22 rfl rfl (by first | omega | (simp only [len_si, List.length_append, List.length_replicate, List.length_cons, List.length_nil, List.length_map, List.length_take] at *; omega))) rfl rfl ?_
            refine RS.p (Pu.fieldAddr fd31_2 rfl) rfl rfl ?_
            refine RS.q (Qt.ldF (α := QAct) (Rd.base hR) ty3 rfl rfl (by first | omega | (simp only [len_si, List.length_append, List.length_replicate, List.length_cons, List.length_nil, List.length_map, List.length_take] at *; omega)) (by rintro _ _ rfl; rfl)) rfl rfl ?_
            refine RS.p (Pu.bin rfl rfl rfl) rfl rfl ?_
            refine RS.p (Pu.pickT rfl rfl) rfl rfl ?_
            refine RS.p (Pu.pickF rfl rfl) rfl rfl ?_
            refine RS.nil (hK16 _ _ ?_)
            refine T.condP rfl (fun hc86 => ?_) (fun hc86 => ?_)
            · exact absurd hc86 (by omega) -- end
            · refine T.skip (hK15 _ _ (T.conseq (fr' := [(0, _), (3, _), (4, _), (5, _), (6, _)]) ?_ ⟨rfl, rfl, rfl, rfl, rfl, trivial⟩ (fun _ s => s)))
              refine T.seq fun K17 hK17 => ?_
              refine T.region ?_
              refine RS.p (Pu.move rfl) rfl rfl ?_
              refine RS.p (Pu.addS rfl rfl (by omega)) rfl rfl ?_
              refine RS.p (Pu.assign rfl) rfl rfl ?_
              refine RS.nil (hK17 _ _ ?_)
              refine T.seq fun K18 hK18 => ?_
              refine T.region ?_
              refine RS.p (Pu.move rfl) rfl rfl ?_
              have hlt : (List.tail (ins ⟨(gi l i).key, (gi l i).val⟩ (ins ⟨(gi l i).key, (gi l i).val⟩ s))).length = s.length + 1 := by simp only [List.length_tail, len_ins]; omega
              refine RS.solid (Sd.callU 0 ent20 rfl rfl (fun F w h => (len_calls w h))) rfl rfl fun _ => ?_
              refine RS.p (Pu.move rfl) rfl rfl ?_
              refine RS.p (Pu.move rfl) rfl rfl ?_
              refine RS.p (Pu.subS rfl rfl (by omega)) rfl rfl ?_
              refine RS.p (Pu.bin rfl rfl rfl) rfl rfl ?_
              refine RS.nil (hK18 _ _ ?_)
              refine T.condP rfl (fun hc94 => ?_) (fun hc94 => ?_)
              · exact absurd (by omega) hc94 -- end
              · refine T.skip (hK10 _ _ (T.conseq (fr' := [(0, _), (3, _), (4, _), (5, _), (6, _)]) ?_ ⟨rfl, rfl, rfl, rfl, rfl, trivial⟩ (fun _ s => s)))
                refine T.region ?_
                refine RS.p (Pu.move rfl) rfl rfl ?_
                refine RS.p (Pu.addS rfl rfl (by omega)) rfl rfl ?_
                refine RS.p (Pu.assign rfl) rfl rfl ?_
                refine RS.nil (hL1 _ _ (i + 1, List.tail (ins ⟨(gi l i).key, (gi l i).val⟩ (ins ⟨(gi l i).key, (gi l i).val⟩ s))) ⟨by omega, by omega, by omega⟩ (by show ((80 : Int) - (i + 1)).toNat < (80 - i).toNat; omega) ⟨ieq (by omega), rfl, rfl, rfl, rfl, trivial⟩ (fun w s => s))
          · refine RS.no rfl rfl ?_
            refine RS.no rfl rfl ?_
            refine RS.no rfl rfl ?_
            refine RS.no rfl rfl ?_
            refine RS.no rfl rfl ?_
            refine RS.no rfl rfl ?_
            refine RS.no rfl rfl ?_
            refine RS.p (Pu.pickF rfl rfl) rfl rfl ?_
            refine RS.p (Pu.pickF rfl rfl) rfl rfl ?_
            refine RS.nil (hK16 _ _ ?_)
            refine T.condF rfl ?_
            refine T.skip (hK15 _ _ (T.conseq (fr' := [(0, _), (3, _), (4, _), (5, _), (6, _)]) ?_ ⟨rfl, rfl, rfl, rfl, rfl, trivial⟩ (fun _ s => s)))
            refine T.seq fun K19 hK19 => ?_
            refine T.region ?_
            refine RS.p (Pu.move rfl) rfl rfl ?_
            refine RS.p (Pu.addS rfl rfl (by omega)) rfl rfl ?_
            refine RS.p (Pu.assign rfl) rfl rfl ?_
            refine RS.nil (hK19 _ _ ?_)
            refine T.seq fun K20 hK20 => ?_
            refine T.region ?_
            refine RS.p (Pu.move rfl) rfl rfl ?_
            have hlt : (List.tail (ins ⟨(gi l i).key, (gi l i).val⟩ (ins ⟨(gi l i).key, (gi l i).val⟩ s))).length = s.length + 1 := by simp only [List.length_tail, len_ins]; omega
            refine RS.solid (Sd.callU 0 ent20 rfl rfl (fun F w h => (len_calls w h))) rfl rfl fun _ => ?_
            refine RS.p (Pu.move rfl) rfl rfl ?_
            refine RS.p (Pu.move rfl) rfl rfl ?_
            refine RS.p (Pu.subS rfl rfl (by omega)) rfl rfl ?_
            refine RS.p (Pu.bin rfl rfl rfl) rfl rfl ?_
            refine RS.nil (hK20 _ _ ?_)
            refine T.condP rfl (fun hc94 => ?_) (fun hc94 => ?_)
            · exact absurd (by omega) hc94 -- end
            · refine T.skip (hK10 _ _ (T.conseq (fr' := [(0, _), (3, _), (4, _), (5, _), (6, _)]) ?_ ⟨rfl, rfl, rfl, rfl, rfl, trivial⟩ (fun _ s => s)))
              refine T.region ?_
              refine RS.p (Pu.move rfl) rfl rfl ?_
              refine RS.p (Pu.addS rfl rfl (by omega)) rfl rfl ?_
              refine RS.p (Pu.assign rfl) rfl rfl ?_
              refine RS.nil (hL1 _ _ (i + 1, List.tail (ins ⟨(gi l i).key, (gi l i).val⟩ (ins ⟨(gi l i).key, (gi l i).val⟩ s))) ⟨by omega, by omega, by omega⟩ (by show ((80 : Int) - (i + 1)).toNat < (80 - i).toNat; omega) ⟨ieq (by omega), rfl, rfl, rfl, rfl, trivial⟩ (fun w s => s))
    · refine T.exitTo (by with_reducible (repeat (first | exact ExTo.here | exact ExTo.hereN | apply ExTo.seq | refine ExTo.past (by decide) ?_))) (hK6 _ _ (T.conseq (fr' := [(3, _), (4, _), (5, _)]) ?_ ⟨rfl, rfl, rfl, trivial⟩ (fun _ s => s)))
      refine T.seq fun K21 hK21 => ?_
      refine T.block ?_
      refine T.loopK (σ := Int × List Item) [(3, _), (4, _)] (fun ⟨o, s2⟩ => [(5, .int .i64 o)]) (fun ⟨o, s2⟩ => Sat w [qch bq s2]) (fun ⟨o, s2⟩ => 0 ≤ o ∧ o + s2.length = 2 * i) (fun ⟨o, s2⟩ => s2.length) (i, s) (⟨by omega, by show i + (s.length : Int) = 2 * i; omega⟩) ⟨rfl, rfl, trivial⟩ ⟨rfl, rfl, rfl, trivial⟩ (fun _ s => s) ?_
      intro ⟨o, s2⟩ hI K21_ hL2
      refine T.conseq (fr' := [(5, _), (3, _), (4, _)]) ?_ ⟨rfl, rfl, rfl, trivial⟩ (fun _ s => s)
      obtain ⟨ho0, ho1⟩ := hI
      try dsimp only at ho0 ho1 ⊢
      refine T.seq fun K22 hK22 => ?_
      refine T.seq fun K23 hK23 => ?_
      refine T.region ?_
      refine RS.p (Pu.move rfl) rfl rfl ?_
      refine RS.solid (Sd.callU 0 ent20 rfl rfl (fun F w h => (len_calls w h))) rfl rfl fun _ => ?_
      refine RS.p (Pu.bin rfl rfl rfl) rfl rfl ?_
      refine RS.nil (hK23 _ _ ?_)
      refine T.condP rfl (fun hc97 => ?_) (fun hc97 => ?_)
      · refine T.skip (hK22 _ _ (T.conseq (fr' := [(3, _), (4, _), (5, _)]) ?_ ⟨rfl, rfl, rfl, trivial⟩ (fun _ s => s)))
        refine T.block ?_
        refine T.seq fun K24 hK24 => ?_
        refine T.region ?_
        have hne : s2 ≠ [] := ne_of_pos (by omega)
        refine RS.p (Pu.move rfl) rfl rfl ?_
        refine RS.solid (Sd.callU 0 ent18 rfl rfl (fun F w h => (pop_calls (by first | omega | (simp only [Qp.len_ins, List.length_tail, List.length_cons, List.length_nil] at *; omega)) w h))) rfl rfl fun _ => ?_
        refine RS.p (Pu.move rfl) rfl rfl ?_
        refine RS.p (Pu.extract rfl rfl) rfl rfl ?_
        refine RS.p (Pu.extract rfl rfl) rfl rfl ?_
        refine RS.p (Pu.extract rfl rfl) rfl rfl ?_
        refine RS.p (Pu.assign rfl) rfl rfl ?_
        refine RS.p (Pu.assign rfl) rfl rfl ?_
        refine RS.p (Pu.assign rfl) rfl rfl ?_
        refine RS.nil (hK24 _ _ (T.conseq (fr' := [(3, _), (4, _), (5, _), (12, _)]) ?_ ⟨rfl, rfl, rfl, rfl, trivial⟩ (fun _ s => s)))
        refine T.seq fun K25 hK25 => ?_
        refine T.seq fun K26 hK26 => ?_
        refine T.region ?_
        refine RS.p (Pu.move rfl) rfl rfl ?_
        refine RS.p (Pu.notP rfl) rfl rfl ?_
        refine RS.p (Pu.move rfl) rfl rfl ?_
        refine RS.splitP 106 rfl (fun h106 => ?_) (fun h106 => ?_)
        · exact absurd hne h106 -- end
        · refine RS.p (Pu.move rfl) rfl rfl ?_
          refine RS.p (Pu.bin rfl rfl rfl) rfl rfl ?_
          refine RS.p (Pu.pickF rfl rfl) rfl rfl ?_
          refine RS.nil (hK26 _ _ ?_)
          refine T.condP rfl (fun hc109 => ?_) (fun hc109 => ?_)
          · exact absurd hc109 (by omega) -- end
          · refine T.skip (hK25 _ _ (T.conseq (fr' := [(3, _), (4, _), (5, _)]) ?_ ⟨rfl, rfl, rfl, trivial⟩ (fun _ s => s)))
            refine T.region ?_
            refine RS.p (Pu.move rfl) rfl rfl ?_
            refine RS.p (Pu.addS rfl rfl (by omega)) rfl rfl ?_
            refine RS.p (Pu.assign rfl) rfl rfl ?_
            refine RS.nil (hL2 _ _ (o + 1, s2.tail) ⟨by omega, by simp only [List.length_tail]; omega⟩ (by simp only [List.length_tail]; omega) ⟨rfl, rfl, rfl, trivial⟩ (fun w s => s))
      · refine T.exitTo (by with_reducible (repeat (first | exact ExTo.here | exact ExTo.hereN | apply ExTo.seq | refine ExTo.past (by decide) ?_))) (hK21 _ _ (T.conseq (fr' := [(4, _), (5, _)]) ?_ ⟨rfl, rfl, trivial⟩ (fun _ s => s)))
        refine T.seq fun K27 hK27 => ?_
        refine T.region ?_
        refine RS.p (Pu.move rfl) rfl rfl ?_
        refine RS.p (Pu.move rfl) rfl rfl ?_
        refine RS.p (Pu.bin rfl rfl rfl) rfl rfl ?_
        refine RS.p (Pu.move rfl) rfl rfl ?_
        refine RS.splitP 115 rfl (fun h115 => ?_) (fun h115 => ?_)
        · refine RS.q (Qt.call ent21 rfl fun w _s => wakes12_calls _) rfl rfl ?_
          refine RS.p (Pu.pickT rfl rfl) rfl rfl ?_
          refine RS.p (Pu.assign rfl) rfl rfl ?_
          refine RS.nil (hK27 _ _ (T.conseq (fr' := [(2, _)]) ?_ ⟨rfl, trivial⟩ (fun _ s => s)))
          refine T.retTo (by with_reducible ((repeat (first | apply RetTo.seq | apply RetTo.blk)); exact RetTo.refl _)) (Cont.ret1 rfl rfl fun w' s => ?_)
          exact ⟨rfl, s.ext⟩
        · exact absurd (by omega) h115 -- end
  · refine RS.no rfl rfl ?_
    refine RS.no rfl rfl ?_
    refine RS.p (Pu.pickF rfl rfl) rfl rfl ?_
    refine RS.nil (hK9 _ _ ?_)
    refine T.condF rfl ?_
    refine T.exitTo (by with_reducible (repeat (first | exact ExTo.here | exact ExTo.hereN | apply ExTo.seq | refine ExTo.past (by decide) ?_))) (hK6 _ _ (T.conseq (fr' := [(3, _), (4, _), (5, _)]) ?_ ⟨rfl, rfl, rfl, trivial⟩ (fun _ s => s)))
    refine T.seq fun K28 hK28 => ?_
    refine T.block ?_
    refine T.loopK (σ := Int × List Item) [(3, _), (4, _)] (fun ⟨o, s2⟩ => [(5, .int .i64 o)]) (fun ⟨o, s2⟩ => Sat w [qch bq s2]) (fun ⟨o, s2⟩ => 0 ≤ o ∧ o + s2.length = 2 * i) (fun ⟨o, s2⟩ => s2.length) (i, s) (⟨by omega, by show i + (s.length : Int) = 2 * i; omega⟩) ⟨rfl, rfl, trivial⟩ ⟨rfl, rfl, rfl, trivial⟩ (fun _ s => s) ?_
    intro ⟨o, s2⟩ hI K28_ hL2
    refine T.conseq (fr' := [(5, _), (3, _), (4, _)]) ?_ ⟨rfl, rfl, rfl, trivial⟩ (fun _ s => s)
    obtain ⟨ho0, ho1⟩ := hI
    try dsimp only at ho0 ho1 ⊢
    refine T.seq fun K29 hK29 => ?_
    refine T.seq fun K30 hK30 => ?_
    refine T.region ?_
    refine RS.p (Pu.move rfl) rfl rfl ?_
    refine RS.solid (Sd.callU 0 ent20 rfl rfl (fun F w h => (len_calls w h))) rfl rfl fun _ => ?_
    refine RS.p (Pu.bin rfl rfl rfl) rfl rfl ?_
    refine RS.nil (hK30 _ _ ?_)
    refine T.condP rfl (fun hc97 => ?_) (fun hc97 => ?_)
    · refine T.skip (hK29 _ _ (T.conseq (fr' := [(3, _), (4, _), (5, _)]) ?_ ⟨rfl, rfl, rfl, trivial⟩ (fun _ s => s)))
      refine T.block ?_
      refine T.seq fun K31 hK31 => ?_
      refine T.region ?_
      have hne : s2 ≠ [] := ne_of_pos (by omega)
      refine RS.p (Pu.move rfl) rfl rfl ?_
      refine RS.solid (Sd.callU 0 ent18 rfl rfl (fun F w h => (pop_calls (by first | omega | (simp only [Qp.len_ins, List.length_tail, List.length_cons, List.length_nil] at *; omega)) w h))) rfl rfl fun _ => ?_
      refine RS.p (Pu.move rfl) rfl rfl ?_
      refine RS.p (Pu.extract rfl rfl) rfl rfl ?_
      refine RS.p (Pu.extract rfl rfl) rfl rfl ?_
      refine RS.p (Pu.extract rfl rfl) rfl rfl ?_
      refine RS.p (Pu.assign rfl) rfl rfl ?_
      refine RS.p (Pu.assign rfl) rfl rfl ?_
      refine RS.p (Pu.assign rfl) rfl rfl ?_
      refine RS.nil (hK31 _ _ (T.conseq (fr' := [(3, _), (4, _), (5, _), (12, _)]) ?_ ⟨rfl, rfl, rfl, rfl, trivial⟩ (fun _ s => s)))
      refine T.seq fun K32 hK32 => ?_
      refine T.seq fun K33 hK33 => ?_
      refine T.region ?_
      refine RS.p (Pu.move rfl) rfl rfl ?_
      refine RS.p (Pu.notP rfl) rfl rfl ?_
      refine RS.p (Pu.move rfl) rfl rfl ?_
      refine RS.splitP 106 rfl (fun h106 => ?_) (fun h106 => ?_)
      · exact absurd hne h106 -- end
      · refine RS.p (Pu.move rfl) rfl rfl ?_
        refine RS.p (Pu.bin rfl rfl rfl) rfl rfl ?_
        refine RS.p (Pu.pickF rfl rfl) rfl rfl ?_
        refine RS.nil (hK33 _ _ ?_)
        refine T.condP rfl (fun hc109 => ?_) (fun hc109 => ?_)
        · exact absurd hc109 (by omega) -- end
        · refine T.skip (hK32 _ _ (T.conseq (fr' := [(3, _), (4, _), (5, _)]) ?_ ⟨rfl, rfl, rfl, trivial⟩ (fun _ s => s)))
          refine T.region ?_
          refine RS.p (Pu.move rfl) rfl rfl ?_
          refine RS.p (Pu.addS rfl rfl (by omega)) rfl rfl ?_
          refine RS.p (Pu.assign rfl) rfl rfl ?_
          refine RS.nil (hL2 _ _ (o + 1, s2.tail) ⟨by omega, by simp only [List.length_tail]; omega⟩ (by simp only [List.length_tail]; omega) ⟨rfl, rfl, rfl, trivial⟩ (fun w s => s))
    · refine T.exitTo (by with_reducible (repeat (first | exact ExTo.here | exact ExTo.hereN | apply ExTo.seq | refine ExTo.past (by decide) ?_))) (hK28 _ _ (T.conseq (fr' := [(4, _), (5, _)]) ?_ ⟨rfl, rfl, trivial⟩ (fun _ s => s)))
      refine T.seq fun K34 hK34 => ?_
      refine T.region ?_
      refine RS.p (Pu.move rfl) rfl rfl ?_
      refine RS.p (Pu.move rfl) rfl rfl ?_
      refine RS.p (Pu.bin rfl rfl rfl) rfl rfl ?_
      refine RS.p (Pu.move rfl) rfl rfl ?_
      refine RS.splitP 115 rfl (fun h115 => ?_) (fun h115 => ?_)
      · refine RS.q (Qt.call ent21 rfl fun w _s => wakes12_calls _) rfl rfl ?_
        refine RS.p (Pu.pickT rfl rfl) rfl rfl ?_
        refine RS.p (Pu.assign rfl) rfl rfl ?_
        refine RS.nil (hK34 _ _ (T.conseq (fr' := [(2, _)]) ?_ ⟨rfl, trivial⟩ (fun _ s => s)))
        refine T.retTo (by with_reducible ((repeat (first | apply RetTo.seq | apply RetTo.blk)); exact RetTo.refl _)) (Cont.ret1 rfl rfl fun w' s => ?_)
        exact ⟨rfl, s.ext⟩
      · exact absurd (by omega) h115 -- end
set_option maxRecDepth 100000 in
theorem queueMixed_lifted (os : Os) (started : os.Started) (H : Type) (enc : TypeId × Value → H) :
    ReturnsInHanded {} Try.checked os 5 .any (Rows.queueMixedSpec.pre6 enc Try.prog Try.f5 Rows.queueMixedRow.domain false) (Rows.queueMixedSpec.post enc Try.prog Try.f5 false true false false) := by
  refine returnsInHanded_of_change_sized (C := Try.checked) own started (by kernel_rfl) Try.func5
    (ChangeSpec.witness6 (enc := enc) (C := Try.checked) false ⟨#[], #[.slice none 0 0], []⟩ 8 (by kernel_rfl) (by kernel_rfl) (by kernel_rfl) (by kernel_rfl)) ?_
  intro W base args ds gs before hval0 hW _ hsz0 _
  have hval : ∀ (j : Nat) t v, Try.f5.params[j]? = some t → args[j]? = some v → Value.okWide Try.prog W .any base t v := hval0
  have hW' := hW
  obtain ⟨p, q, hA0, hV, rfl, _, _⟩ := hW
  have hA : DataW.TrodAll enc Try.prog W 0 (fun _ => true) true Try.f5.params.toList args.toList ds p := hA0
  rw [Try.params5] at hA hval
  obtain ⟨v0, vs0, d0, ds0, p0, q0, hargs, rfl, rfl, h0, r0⟩ := trodAll_cons hA
  obtain ⟨rfl, rfl, rfl⟩ := trodAll_nil r0
  obtain rfl : args = #[v0] := by cases args; simp_all
  obtain ⟨rfl, rfl⟩ := trodVars_none hV
  obtain ⟨x0, hR0, hx0⟩ := Rdbl.arg (Rdbl.slice usl22 co31 (by decide) rd_QAct) h0
  obtain ⟨a0, len0, cap0, rfl⟩ := okWide_slice usl22 (hval 0 22 v0 rfl rfl)
  refine (queueMixed_walk x0 hx0 W _ hR0).mono fun e W' ⟨he, hg⟩ => ?_
  subst he
  exact ⟨_, rfl, post_ext laidOut (by kernel_rfl) hW' (trodAll_cons_mk (shut_bool ul4 _) trodAll_mk0) rfl rfl rfl hg⟩
theorem queueMixed_holds : Rows.QueueMixedSaid :=
  OpenClaim.holds_of_wide 5 Try.f5 rfl rfl rfl rfl rfl rfl rfl ⟨rfl, rfl, rfl, rfl, rfl⟩ rfl rfl rfl rfl rfl (by kernel_rfl) Try.func5 (by kernel_rfl)
    (of_decide_eq_true (by kernel_rfl)) (by unfold Func.isWrapper; first | (rw [if_pos (by decide +kernel)]; kernel_rfl) | (rw [if_neg (by decide +kernel)]; exact ⟨rfl, rfl⟩))
    (fun os started H enc _ => queueMixed_lifted os started H enc)
end Go.Proofs.Ytacpdjccbadomaa
