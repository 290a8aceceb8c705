/-
  QueueExact: proved for every input, without a condition.
-/
import Derived.Test.YtacpdjccbadomaaRows
import Derived.Test.YtacpdjccbadomaaQL
set_option linter.unusedVariables false
set_option linter.unusedSimpArgs false
set_option maxRecDepth 20000
set_option maxHeartbeats 1000000
namespace Go.Proofs.Ytacpdjccbadomaa
open Go.Vg
open Enc (R)
open Qp
open Go.ChangeShapes Go.WideShapes Go.RowKit
theorem co3 : Try.prog.cellsOf 3 = 1 := by kernel_rfl
theorem co31 : Try.prog.cellsOf 31 = 3 := by kernel_rfl
theorem ent15 : Ent Try.prog 15 := ⟨_, _, Try.func15, by kernel_rfl, rfl⟩
theorem ent17 : Ent Try.prog 17 := ⟨_, _, Try.func17, by kernel_rfl, rfl⟩
theorem ent19 : Ent Try.prog 19 := ⟨_, _, Try.func19, by kernel_rfl, rfl⟩
theorem ent21 : Ent Try.prog 21 := ⟨_, _, Try.func21, by kernel_rfl, rfl⟩
theorem fd31_0 : fdOff Try.prog 31 0 = some 0 := by kernel_rfl
theorem fd31_1 : fdOff Try.prog 31 1 = some 1 := by kernel_rfl
theorem fd31_2 : fdOff Try.prog 31 2 = some 2 := by kernel_rfl
theorem laidOut : laidOutB Try.prog = true := by kernel_rfl
theorem own : ownKnob Try.prog.godebug = none := by kernel_rfl
theorem sl22 : slTy Try.prog 22 = some (31, 3, 24) := by kernel_rfl
theorem st28 : stTy Try.prog 28 = some ([.slice none 0 0, .slice none 0 0], [(0, 1), (1, 1)]) := by kernel_rfl
theorem uf31 : structOf Try.prog 31 = some [(3, 0), (3, 1), (3, 2)] := by kernel_rfl
theorem ul4 : Try.prog.underlying 4 = some .bool := by kernel_rfl
theorem usl22 : Try.prog.underlying 22 = some (.slice 31) := by kernel_rfl
structure QAct where
  do_ : Int
  key : Int
  val : Int
  deriving Inhabited
instance : Enc QAct where
  sz := 3
  R _ x cs := cs = [.int .i64 x.do_, .int .i64 x.key, .int .i64 x.val]
  len := fun h => by rw [h]; rfl
  one := fun h u hu => by rw [h] at hu; simp only [List.mem_cons, List.not_mem_nil, or_false] at hu; rcases hu with rfl | rfl | rfl <;> rfl
  mono := fun _ h => h
instance : Flat QAct := ⟨fun h => h⟩
def QAct.Wf (x : QAct) : Prop := I64 x.do_ ∧ I64 x.key ∧ I64 x.val
theorem rd_QAct : Rdbl Try.prog 31 QAct QAct.Wf := fun H enc w fuel cs x h => by
  obtain ⟨fs, hu, hfs⟩ := structOf_spec uf31
  obtain ⟨hl, m, hf⟩ := trod_field hu h
  obtain ⟨f0, hf0, ht0, ho0⟩ : ∃ f, fs[0]? = some f ∧ f.type = 3 ∧ f.offset = 0 := by
    have h1 : (fs.toList.map (fun f => (f.type, f.offset)))[0]? = some (3, 0) := by rw [hfs]; rfl
    rw [List.getElem?_map, Option.map_eq_some_iff] at h1
    obtain ⟨f, h2, h3⟩ := h1
    simp only [Prod.mk.injEq] at h3
    exact ⟨f, by simpa using h2, h3.1, h3.2⟩
  obtain ⟨y0, hy0⟩ := hf 0 f0 hf0
  rw [ht0, ho0, co3] at hy0
  obtain ⟨a0, ha0, hw0⟩ := Rdbl.part (Rdbl.int ul3) hy0
  obtain ⟨f1, hf1, ht1, ho1⟩ : ∃ f, fs[1]? = some f ∧ f.type = 3 ∧ f.offset = 1 := by
    have h1 : (fs.toList.map (fun f => (f.type, f.offset)))[1]? = some (3, 1) := by rw [hfs]; rfl
    rw [List.getElem?_map, Option.map_eq_some_iff] at h1
    obtain ⟨f, h2, h3⟩ := h1
    simp only [Prod.mk.injEq] at h3
    exact ⟨f, by simpa using h2, h3.1, h3.2⟩
  obtain ⟨y1, hy1⟩ := hf 1 f1 hf1
  rw [ht1, ho1, co3] at hy1
  obtain ⟨a1, ha1, hw1⟩ := Rdbl.part (Rdbl.int ul3) hy1
  obtain ⟨f2, hf2, ht2, ho2⟩ : ∃ f, fs[2]? = some f ∧ f.type = 3 ∧ f.offset = 2 := by
    have h1 : (fs.toList.map (fun f => (f.type, f.offset)))[2]? = some (3, 2) := by rw [hfs]; rfl
    rw [List.getElem?_map, Option.map_eq_some_iff] at h1
    obtain ⟨f, h2, h3⟩ := h1
    simp only [Prod.mk.injEq] at h3
    exact ⟨f, by simpa using h2, h3.1, h3.2⟩
  obtain ⟨y2, hy2⟩ := hf 2 f2 hf2
  rw [ht2, ho2, co3] at hy2
  obtain ⟨a2, ha2, hw2⟩ := Rdbl.part (Rdbl.int ul3) hy2
  rw [co31] at hl
  obtain ⟨x0, x1, x2, rfl⟩ : ∃ x0 x1 x2, cs = [x0, x1, x2] := by
    match cs, hl with
    | [x0, x1, x2], _ => exact ⟨x0, x1, x2, rfl⟩
  refine ⟨⟨a0, a1, a2⟩, ?_, ⟨hw0, hw1, hw2⟩⟩
  simp only [Enc.R, List.drop_succ_cons, List.drop_zero, List.take_succ_cons, List.take_zero, List.cons.injEq, and_true] at ha0 ha1 ha2 ⊢
  simp only [ha0, ha1, ha2, and_self]
theorem rch_newF {w0 w : World} {br : Nat} {F : Ch} (h : Sat w0 [blk br [.slice none 0 0, .slice none 0 0] 28, F] w) : Sat w0 [rch br [], F] w :=
  Sat.toEx (C := fun i : Rr [] => stars (rL br i.1.2.1 i.1.2.2 i.1.1)) ⟨([], (none, 0), (none, 0)), .refl _, trivial⟩
    (Sat.shutS (L := rL br (none, 0) (none, 0) []) (((h.addEmpty (rk (none, 0) 0 []) (fun p => .inl ⟨rfl, rfl⟩)).addEmpty (rv (none, 0) 0 []) (fun p => .inl ⟨rfl, rfl⟩)).pick [0, 2, 3, 1] (by decide) rfl))
theorem rnew1 {w0 w : World} {br : Nat} {F : Ch} (h : Sat w0 [F, blk br [.slice none 0 0, .slice none 0 0] 28] w) : Sat w0 [F, rch br []] w :=
  (rch_newF (h.pick [1, 0] (by decide) rfl)).pick [1, 0] (by decide) rfl
theorem ropen1 {w0 w : World} {br : Nat} {s : List Item} {F : Ch} (h : Sat w0 [F, rch br s] w) : ∃ i : Rr s, Sat w0 [F, rbx br i.1.2.1 i.1.2.2 i.1.1.length, rk i.1.2.1 i.1.1.length i.1.1, rv i.1.2.2 i.1.1.length i.1.1] w :=
  let ⟨i, hi⟩ := rch_open (h.pick [1, 0] (by decide) rfl); ⟨i, hi.pick [3, 0, 1, 2] (by decide) rfl⟩
theorem rclose1 {w0 w : World} {br : Nat} {s l : List Item} {q1 q2 : Option Nat × Nat} {F : Ch} (h2 : l.Perm s) (h3 : Srt s) (h : Sat w0 [F, rbx br q1 q2 l.length, rk q1 l.length l, rv q2 l.length l] w) : Sat w0 [F, rch br s] w :=
  (rch_close h2 h3 (h.pick [1, 2, 3, 0] (by decide) rfl)).pick [1, 0] (by decide) rfl
theorem queueExact_walk (l : List QAct) (hl : ∀ x ∈ l, QAct.Wf x) (w : World) (v : Value) (hR : R (hpOf w) l [v]) : Calls Try.prog 3 #[v] w fun e w' => e = .returned (.bool true) ∧ Ext w w' := by
  refine T.enter (args := [_]) (S := Sat w []) Try.func3 rfl rfl (Sat.start w) ?_
  have hm := R_max hR
  obtain ⟨p, c, rfl⟩ := R_form hR
  refine T.seq fun K1 hK1 => ?_
  refine T.region ?_
  refine RS.p (Pu.assign rfl) rfl rfl ?_
  refine RS.nil (hK1 _ _ ?_)
  refine T.seq fun K2 hK2 => ?_
  refine T.region ?_
  refine RS.solid (Sd.callN ent14 rfl (fun w _ => new_calls w)) rfl rfl fun bq => ?_
  refine RS.p (Pu.assign rfl) rfl rfl ?_
  refine RS.nil (hK2 _ _ ?_)
  refine T.seq fun K3 hK3 => ?_
  refine T.seq fun K4 hK4 => ?_
  refine T.region ?_
  refine RS.p (Pu.move rfl) rfl rfl ?_
  refine RS.p (Pu.eqNil ul23 rfl) rfl rfl ?_
  refine RS.nil (hK4 _ _ ?_)
  refine T.condF rfl ?_
  refine T.skip (hK3 _ _ (T.conseq (fr' := [(0, _), (3, _)]) ?_ ⟨rfl, rfl, trivial⟩ (fun _ s => s)))
  refine T.seq fun K5 hK5 => ?_
  refine T.region ?_
  refine RS.p (Pu.build (cells := [_, _]) st28 rfl rfl) rfl rfl ?_
  refine RS.solid (Sd.box (cs := [_, _]) rfl rfl) rfl rfl fun b16 => ?_
  refine RS.p (Pu.assign rfl) rfl rfl ?_
  refine RS.nil (hK5 _ _ ?_)
  refine T.seq fun K6 hK6 => ?_
  refine T.seq fun K7 hK7 => ?_
  refine T.region ?_
  refine RS.p (Pu.assign rfl) rfl rfl ?_
  refine RS.nil (hK7 _ _ ?_)
  refine T.block ?_
  refine T.loopK (σ := Int × List Item) [(0, _), (3, _), (4, _)] (fun ⟨i, s⟩ => [(5, .int .i64 i)]) (fun ⟨i, s⟩ => Sat w [qch bq s, rch b16 s]) (fun ⟨i, s⟩ => 0 ≤ i ∧ (s.length : Int) ≤ i ∧ i ≤ 80) (fun ⟨i, s⟩ => (80 - i).toNat) (0, []) (⟨by omega, by simp, by omega⟩) ⟨rfl, rfl, rfl, trivial⟩ ⟨rfl, rfl, rfl, rfl, trivial⟩ (fun w s => rnew1 s) ?_
  intro ⟨i, s⟩ hI K7_ hL1
  refine T.conseq (fr' := [(5, _), (0, _), (3, _), (4, _)]) ?_ ⟨rfl, rfl, rfl, rfl, trivial⟩ (fun _ s => s)
  obtain ⟨hi0, hi1, hi2⟩ := hI
  try dsimp only at hi0 hi1 hi2 ⊢
  refine T.seq fun K8 hK8 => ?_
  refine T.seq fun K9 hK9 => ?_
  refine T.region ?_
  refine RS.p (Pu.move rfl) rfl rfl ?_
  refine RS.p (Pu.move rfl) rfl rfl ?_
  refine RS.p (Pu.lenSl sl22 rfl) rfl rfl ?_
  refine RS.p (Pu.bin rfl rfl rfl) rfl rfl ?_
  refine RS.p (Pu.move rfl) rfl rfl ?_
  refine RS.splitP 21 rfl (fun h21 => ?_) (fun h21 => ?_)
  · refine RS.p (Pu.move rfl) rfl rfl ?_
    refine RS.p (Pu.bin rfl rfl rfl) rfl rfl ?_
    refine RS.p (Pu.pickT rfl rfl) rfl rfl ?_
    refine RS.nil (hK9 _ _ ?_)
    refine T.condP rfl (fun hc24 => ?_) (fun hc24 => ?_)
    · refine T.skip (hK8 _ _ (T.conseq (fr' := [(0, _), (3, _), (4, _), (5, _)]) ?_ ⟨rfl, rfl, rfl, rfl, trivial⟩ (fun _ s => s)))
      refine T.seq fun K10 hK10 => ?_
      refine T.block ?_
      refine T.seq fun K11 hK11 => ?_
      refine T.seq fun K12 hK12 => ?_
      refine T.region ?_
      refine RS.p (Pu.move rfl) rfl rfl ?_
      refine RS.p (Pu.move rfl) rfl rfl ?_
      obtain ⟨bl_hR, ol_hR, rfl⟩ := R_ptr hR (ne_of_pos (by first | omega | (simp only [len_si, List.length_append, List.length_replicate, List.length_cons, List.length_nil, List.length_map, List.length_take] at *; omega)))
      refine RS.p (Pu.indexSl sl22 rfl rfl (by first | omega | (simp only [len_si, List.length_append, List.length_replicate, List.length_cons, List.length_nil, List.length_map, List.length_take] at *; omega))) rfl rfl ?_
      refine RS.p (Pu.fieldAddr fd31_0 rfl) rfl rfl ?_
      refine RS.q (Qt.ldF (α := QAct) (Rd.base hR) ty3 rfl rfl (by first | omega | (simp only [len_si, List.length_append, List.length_replicate, List.length_cons, List.length_nil, List.length_map, List.length_take] at *; omega)) (by rintro _ _ rfl; rfl)) rfl rfl ?_
      refine RS.q (Qt.call ent15 rfl fun w _s => within_calls _ _ (by omega) _) rfl rfl ?_
      refine RS.p (Pu.bin rfl rfl rfl) rfl rfl ?_
      refine RS.nil (hK12 _ _ ?_)
      refine T.condP rfl (fun hc33 => ?_) (fun hc33 => ?_)
      · refine T.conseq (fr' := [(0, _), (3, _), (4, _), (5, _)]) ?_ ⟨rfl, rfl, rfl, rfl, trivial⟩ (fun _ s => s)
        refine T.seq fun K13 hK13 => ?_
        refine T.drawn (fun _ => True) [(0, .pu), (1, .pu), (2, .pu), (3, .pu), (4, .pu), (5, .rd), (6, .pu), (7, .pu), (8, .pu), (9, .pu), (10, .rd), (11, .br)] mixed (ClE.sat _ _) (by kernel_rfl) ?_
        refine RD.p (fun _ _ => trivial) rfl (Pu.move rfl) rfl rfl ?_
        refine RD.p (fun _ _ => trivial) rfl (Pu.move rfl) rfl rfl ?_
        refine RD.p (fun _ _ => trivial) rfl (Pu.move rfl) rfl rfl ?_
        refine RD.p (fun _ _ => trivial) rfl (Pu.indexSl sl22 rfl rfl (by first | omega | (simp only [len_si, List.length_append, List.length_replicate, List.length_cons, List.length_nil, List.length_map, List.length_take] at *; omega))) rfl rfl ?_
        refine RD.p (fun _ _ => trivial) rfl (Pu.fieldAddr fd31_1 rfl) rfl rfl ?_
        refine RD.q (fun _ _ => trivial) rfl (Qt.ldF (α := QAct) (Rd.base hR) ty3 rfl rfl (by first | omega | (simp only [len_si, List.length_append, List.length_replicate, List.length_cons, List.length_nil, List.length_map, List.length_take] at *; omega)) (by rintro _ _ rfl; rfl)) rfl rfl ?_
        refine RD.p (fun _ _ => trivial) rfl (Pu.move rfl) rfl rfl ?_
        refine RD.p (fun _ _ => trivial) rfl (Pu.move rfl) rfl rfl ?_
        refine RD.p (fun _ _ => trivial) rfl (Pu.indexSl sl22 rfl rfl (by first | omega | (simp only [len_si, List.length_append, List.length_replicate, List.length_cons, List.length_nil, List.length_map, List.length_take] at *; omega))) rfl rfl ?_
        refine RD.p (fun _ _ => trivial) rfl (Pu.fieldAddr fd31_2 rfl) rfl rfl ?_
        refine RD.q (fun _ _ => trivial) rfl (Qt.ldF (α := QAct) (Rd.base hR) ty3 rfl rfl (by first | omega | (simp only [len_si, List.length_append, List.length_replicate, List.length_cons, List.length_nil, List.length_map, List.length_take] at *; omega)) (by rintro _ _ rfl; rfl)) rfl rfl ?_
        refine RD.solid rfl (.inr rfl) rfl rfl (Sd.callU 0 ent16 rfl rfl (fun F w h => (push_calls _ _ (by first | omega | (simp only [Qp.len_ins, List.length_tail, List.length_cons, List.length_nil] at *; omega)) w h))) (fun _ => ClE.sat _ _) (fun _ _ _ => trivial) (fun h => nomatch h) fun _ => ?_
        refine RD.nil (hK13 _ _ (T.conseq (fr' := [(0, _), (3, _), (4, _), (5, _)]) ?_ ⟨rfl, rfl, rfl, rfl, trivial⟩ (fun _ s => s)))
        refine T.drawn (fun _ => True) [(0, .pu), (1, .pu), (2, .pu), (3, .pu), (4, .pu), (5, .rd), (6, .pu), (7, .pu), (8, .pu), (9, .pu), (10, .rd), (11, .br)] mixed (ClE.sat _ _) (by kernel_rfl) ?_
        refine RD.p (fun _ _ => trivial) rfl (Pu.move rfl) rfl rfl ?_
        refine RD.p (fun _ _ => trivial) rfl (Pu.move rfl) rfl rfl ?_
        refine RD.p (fun _ _ => trivial) rfl (Pu.move rfl) rfl rfl ?_
        refine RD.p (fun _ _ => trivial) rfl (Pu.indexSl sl22 rfl rfl (by first | omega | (simp only [len_si, List.length_append, List.length_replicate, List.length_cons, List.length_nil, List.length_map, List.length_take] at *; omega))) rfl rfl ?_
        refine RD.p (fun _ _ => trivial) rfl (Pu.fieldAddr fd31_1 rfl) rfl rfl ?_
        refine RD.q (fun _ _ => trivial) rfl (Qt.ldF (α := QAct) (Rd.base hR) ty3 rfl rfl (by first | omega | (simp only [len_si, List.length_append, List.length_replicate, List.length_cons, List.length_nil, List.length_map, List.length_take] at *; omega)) (by rintro _ _ rfl; rfl)) rfl rfl ?_
        refine RD.p (fun _ _ => trivial) rfl (Pu.move rfl) rfl rfl ?_
        refine RD.p (fun _ _ => trivial) rfl (Pu.move rfl) rfl rfl ?_
        refine RD.p (fun _ _ => trivial) rfl (Pu.indexSl sl22 rfl rfl (by first | omega | (simp only [len_si, List.length_append, List.length_replicate, List.length_cons, List.length_nil, List.length_map, List.length_take] at *; omega))) rfl rfl ?_
        refine RD.p (fun _ _ => trivial) rfl (Pu.fieldAddr fd31_2 rfl) rfl rfl ?_
        refine RD.q (fun _ _ => trivial) rfl (Qt.ldF (α := QAct) (Rd.base hR) ty3 rfl rfl (by first | omega | (simp only [len_si, List.length_append, List.length_replicate, List.length_cons, List.length_nil, List.length_map, List.length_take] at *; omega)) (by rintro _ _ rfl; rfl)) rfl rfl ?_
        refine RD.solid rfl (.inr rfl) rfl rfl (Sd.callU 1 ent17 rfl rfl (fun F w h => (rpush_calls _ _ (by first | omega | (simp only [Qp.len_ins, List.length_tail, List.length_cons, List.length_nil] at *; omega)) w h))) (fun _ => ClE.sat _ _) (fun _ _ _ => trivial) (fun h => nomatch h) fun _ => ?_
        refine RD.nil (hK11 _ _ (T.conseq (fr' := [(0, _), (3, _), (4, _), (5, _)]) ?_ ⟨rfl, rfl, rfl, rfl, trivial⟩ (fun _ s => s)))
        refine T.seq fun K14 hK14 => ?_
        refine T.ex (fun w h => ropen1 h) fun ⟨⟨l2, q1, q2⟩, hp, hs⟩ => ?_
        try dsimp only at hp hs ⊢
        have hlen := hp.length_eq
        refine T.drawn (fun _ => True) [(0, .pu), (2, .pu), (3, .pu), (4, .pu), (5, .rd), (6, .pu), (1, .so), (7, .pu)] mixed (ClE.sat _ _) (by kernel_rfl) ?_
        refine RD.p (fun _ _ => trivial) rfl (Pu.move rfl) rfl rfl ?_
        refine RD.p (fun _ _ => trivial) rfl (Pu.move rfl) rfl rfl ?_
        refine RD.p (fun _ _ => trivial) rfl (Pu.nilCheck rfl) rfl rfl ?_
        refine RD.p (fun _ _ => trivial) rfl (Pu.fieldAddr fd28_0 rfl) rfl rfl ?_
        refine RD.q (fun _ _ => trivial) rfl (Qt.ldB 1 ty26 rfl rfl rfl) rfl rfl ?_
        refine RD.p (fun _ _ => trivial) rfl (Pu.lenSl sl26 rfl) rfl rfl ?_
        refine RD.solid rfl (.inl rfl) rfl rfl (Sd.callU 0 ent20 rfl rfl (fun F w h => (len_calls w h))) (fun _ => ClE.sat _ _) (fun _ _ _ => trivial) (fun _ _ _ s => s) fun _ => ?_
        refine RD.p (fun _ _ => trivial) rfl (Pu.bin rfl rfl rfl) rfl rfl ?_
        refine RD.nil (hK14 _ _ ?_)
        refine T.condP rfl (fun hc90 => ?_) (fun hc90 => ?_)
        · exact absurd (by rw [hlen]) hc90 -- end
        · refine T.skip (hK10 _ _ (T.conseq (fr' := [(0, _), (3, _), (4, _), (5, _)]) ?_ ⟨rfl, rfl, rfl, rfl, trivial⟩ (fun _ s => s)))
          refine T.region ?_
          refine RS.p (Pu.move rfl) rfl rfl ?_
          refine RS.p (Pu.addS rfl rfl (by omega)) rfl rfl ?_
          refine RS.p (Pu.assign rfl) rfl rfl ?_
          refine RS.nil (hL1 _ _ (i + 1, ins ⟨(gi l i).key, (gi l i).val⟩ s) ⟨by omega, by first | omega | (simp only [Qp.len_ins, List.length_tail]; omega), by omega⟩ (by show ((80 : Int) - (i + 1)).toNat < (80 - i).toNat; omega) ⟨rfl, rfl, rfl, rfl, trivial⟩ (fun w s => rclose1 hp hs s))
      · refine T.conseq (fr' := [(0, _), (3, _), (4, _), (5, _)]) ?_ ⟨rfl, rfl, rfl, rfl, trivial⟩ (fun _ s => s)
        refine T.seq fun K15 hK15 => ?_
        refine T.region ?_
        refine RS.p (Pu.move rfl) rfl rfl ?_
        refine RS.solid (Sd.callU 0 ent18 rfl rfl (fun F w h => (pop_calls (by first | omega | (simp only [Qp.len_ins, List.length_tail, List.length_cons, List.length_nil] at *; omega)) w h))) rfl rfl fun _ => ?_
        refine RS.p (Pu.move rfl) rfl rfl ?_
        refine RS.p (Pu.extract rfl rfl) rfl rfl ?_
        refine RS.p (Pu.extract rfl rfl) rfl rfl ?_
        refine RS.p (Pu.extract rfl rfl) rfl rfl ?_
        refine RS.p (Pu.assign rfl) rfl rfl ?_
        refine RS.p (Pu.assign rfl) rfl rfl ?_
        refine RS.p (Pu.assign rfl) rfl rfl ?_
        refine RS.nil (hK15 _ _ (T.conseq (fr' := [(0, _), (3, _), (4, _), (5, _), (6, _), (7, _), (8, _)]) ?_ ⟨rfl, rfl, rfl, rfl, rfl, rfl, rfl, trivial⟩ (fun _ s => s)))
        refine T.seq fun K16 hK16 => ?_
        refine T.region ?_
        refine RS.p (Pu.move rfl) rfl rfl ?_
        refine RS.solid (Sd.callU 1 ent19 rfl rfl (fun F w h => (rpop_calls (by first | omega | (simp only [Qp.len_ins, List.length_tail, List.length_cons, List.length_nil] at *; omega)) w h))) rfl rfl fun _ => ?_
        refine RS.p (Pu.move rfl) rfl rfl ?_
        refine RS.p (Pu.extract rfl rfl) rfl rfl ?_
        refine RS.p (Pu.extract rfl rfl) rfl rfl ?_
        refine RS.p (Pu.extract rfl rfl) rfl rfl ?_
        refine RS.p (Pu.assign rfl) rfl rfl ?_
        refine RS.p (Pu.assign rfl) rfl rfl ?_
        refine RS.p (Pu.assign rfl) rfl rfl ?_
        refine RS.nil (hK16 _ _ (T.conseq (fr' := [(0, _), (3, _), (4, _), (5, _), (6, _), (7, _), (8, _), (9, _), (10, _), (11, _)]) ?_ ⟨rfl, rfl, rfl, rfl, rfl, rfl, rfl, rfl, rfl, rfl, trivial⟩ (fun _ s => s)))
        refine T.seq fun K17 hK17 => ?_
        refine T.region ?_
        refine RS.p (Pu.move rfl) rfl rfl ?_
        refine RS.p (Pu.move rfl) rfl rfl ?_
        refine RS.p (Pu.bin rfl rfl rfl) rfl rfl ?_
        refine RS.p (Pu.move rfl) rfl rfl ?_
        refine RS.splitP 73 rfl (fun h73 => ?_) (fun h73 => ?_)
        · exact absurd rfl h73 -- end
        · refine RS.p (Pu.move rfl) rfl rfl ?_
          refine RS.p (Pu.move rfl) rfl rfl ?_
          refine RS.p (Pu.bin rfl rfl rfl) rfl rfl ?_
          refine RS.p (Pu.pickF rfl rfl) rfl rfl ?_
          refine RS.p (Pu.move rfl) rfl rfl ?_
          refine RS.splitP 78 rfl (fun h78 => ?_) (fun h78 => ?_)
          · exact absurd rfl h78 -- end
          · refine RS.p (Pu.move rfl) rfl rfl ?_
            refine RS.p (Pu.move rfl) rfl rfl ?_
            refine RS.p (Pu.neB ul4 rfl rfl) rfl rfl ?_
            refine RS.p (Pu.pickF rfl rfl) rfl rfl ?_
            refine RS.nil (hK17 _ _ ?_)
            refine T.condP rfl (fun hc82 => ?_) (fun hc82 => ?_)
            · exact absurd rfl hc82 -- end
            · refine T.skip (hK11 _ _ (T.conseq (fr' := [(0, _), (3, _), (4, _), (5, _)]) ?_ ⟨rfl, rfl, rfl, rfl, trivial⟩ (fun _ s => s)))
              refine T.seq fun K18 hK18 => ?_
              refine T.ex (fun w h => ropen1 h) fun ⟨⟨l2, q1, q2⟩, hp, hs⟩ => ?_
              try dsimp only at hp hs ⊢
              have hlen := hp.length_eq
              refine T.drawn (fun _ => True) [(0, .pu), (2, .pu), (3, .pu), (4, .pu), (5, .rd), (6, .pu), (1, .so), (7, .pu)] mixed (ClE.sat _ _) (by kernel_rfl) ?_
              refine RD.p (fun _ _ => trivial) rfl (Pu.move rfl) rfl rfl ?_
              refine RD.p (fun _ _ => trivial) rfl (Pu.move rfl) rfl rfl ?_
              refine RD.p (fun _ _ => trivial) rfl (Pu.nilCheck rfl) rfl rfl ?_
              refine RD.p (fun _ _ => trivial) rfl (Pu.fieldAddr fd28_0 rfl) rfl rfl ?_
              refine RD.q (fun _ _ => trivial) rfl (Qt.ldB 1 ty26 rfl rfl rfl) rfl rfl ?_
              refine RD.p (fun _ _ => trivial) rfl (Pu.lenSl sl26 rfl) rfl rfl ?_
              refine RD.solid rfl (.inl rfl) rfl rfl (Sd.callU 0 ent20 rfl rfl (fun F w h => (len_calls w h))) (fun _ => ClE.sat _ _) (fun _ _ _ => trivial) (fun _ _ _ s => s) fun _ => ?_
              refine RD.p (fun _ _ => trivial) rfl (Pu.bin rfl rfl rfl) rfl rfl ?_
              refine RD.nil (hK18 _ _ ?_)
              refine T.condP rfl (fun hc90 => ?_) (fun hc90 => ?_)
              · exact absurd (by rw [hlen]) hc90 -- end
              · refine T.skip (hK10 _ _ (T.conseq (fr' := [(0, _), (3, _), (4, _), (5, _)]) ?_ ⟨rfl, rfl, rfl, rfl, trivial⟩ (fun _ s => s)))
                refine T.region ?_
                refine RS.p (Pu.move rfl) rfl rfl ?_
                refine RS.p (Pu.addS rfl rfl (by omega)) rfl rfl ?_
                refine RS.p (Pu.assign rfl) rfl rfl ?_
                refine RS.nil (hL1 _ _ (i + 1, s.tail) ⟨by omega, by first | omega | (simp only [Qp.len_ins, List.length_tail]; omega), by omega⟩ (by show ((80 : Int) - (i + 1)).toNat < (80 - i).toNat; omega) ⟨rfl, rfl, rfl, rfl, trivial⟩ (fun w s => rclose1 hp hs s))
    · refine T.exitTo (by with_reducible (repeat (first | exact ExTo.here | exact ExTo.hereN | apply ExTo.seq | refine ExTo.past (by decide) ?_))) (hK6 _ _ (T.conseq (fr' := []) ?_ trivial (fun _ s => s)))
      refine T.seq fun K19 hK19 => ?_
      refine T.region ?_
      refine RS.q (Qt.call ent21 rfl fun w _s => wakes12_calls _) rfl rfl ?_
      refine RS.p (Pu.assign rfl) rfl rfl ?_
      refine RS.nil (hK19 _ _ ?_)
      refine T.retTo (by with_reducible ((repeat (first | apply RetTo.seq | apply RetTo.blk)); exact RetTo.refl _)) (Cont.ret1 rfl rfl fun w' s => ?_)
      exact ⟨rfl, s.ext⟩
  · refine RS.no rfl rfl ?_
    refine RS.no rfl rfl ?_
    refine RS.p (Pu.pickF rfl rfl) rfl rfl ?_
    refine RS.nil (hK9 _ _ ?_)
    refine T.condF rfl ?_
    refine T.exitTo (by with_reducible (repeat (first | exact ExTo.here | exact ExTo.hereN | apply ExTo.seq | refine ExTo.past (by decide) ?_))) (hK6 _ _ (T.conseq (fr' := []) ?_ trivial (fun _ s => s)))
    refine T.seq fun K20 hK20 => ?_
    refine T.region ?_
    refine RS.q (Qt.call ent21 rfl fun w _s => wakes12_calls _) rfl rfl ?_
    refine RS.p (Pu.assign rfl) rfl rfl ?_
    refine RS.nil (hK20 _ _ ?_)
    refine T.retTo (by with_reducible ((repeat (first | apply RetTo.seq | apply RetTo.blk)); exact RetTo.refl _)) (Cont.ret1 rfl rfl fun w' s => ?_)
    exact ⟨rfl, s.ext⟩
set_option maxRecDepth 100000 in
theorem queueExact_lifted (os : Os) (started : os.Started) (H : Type) (enc : TypeId × Value → H) :
    ReturnsInHanded {} Try.checked os 3 .any (Rows.queueExactSpec.pre6 enc Try.prog Try.f3 Rows.queueExactRow.domain false) (Rows.queueExactSpec.post enc Try.prog Try.f3 false true false false) := by
  refine returnsInHanded_of_change_sized (C := Try.checked) own started (by kernel_rfl) Try.func3
    (ChangeSpec.witness6 (enc := enc) (C := Try.checked) false ⟨#[], #[.slice none 0 0], []⟩ 8 (by kernel_rfl) (by kernel_rfl) (by kernel_rfl) (by kernel_rfl)) ?_
  intro W base args ds gs before hval0 hW _ hsz0 _
  have hval : ∀ (j : Nat) t v, Try.f3.params[j]? = some t → args[j]? = some v → Value.okWide Try.prog W .any base t v := hval0
  have hW' := hW
  obtain ⟨p, q, hA0, hV, rfl, _, _⟩ := hW
  have hA : DataW.TrodAll enc Try.prog W 0 (fun _ => true) true Try.f3.params.toList args.toList ds p := hA0
  rw [Try.params3] at hA hval
  obtain ⟨v0, vs0, d0, ds0, p0, q0, hargs, rfl, rfl, h0, r0⟩ := trodAll_cons hA
  obtain ⟨rfl, rfl, rfl⟩ := trodAll_nil r0
  obtain rfl : args = #[v0] := by cases args; simp_all
  obtain ⟨rfl, rfl⟩ := trodVars_none hV
  obtain ⟨x0, hR0, hx0⟩ := Rdbl.arg (Rdbl.slice usl22 co31 (by decide) rd_QAct) h0
  obtain ⟨a0, len0, cap0, rfl⟩ := okWide_slice usl22 (hval 0 22 v0 rfl rfl)
  refine (queueExact_walk x0 hx0 W _ hR0).mono fun e W' ⟨he, hg⟩ => ?_
  subst he
  exact ⟨_, rfl, post_ext laidOut (by kernel_rfl) hW' (trodAll_cons_mk (shut_bool ul4 _) trodAll_mk0) rfl rfl rfl hg⟩
theorem queueExact_holds : Rows.QueueExactSaid :=
  OpenClaim.holds_of_wide 3 Try.f3 rfl rfl rfl rfl rfl rfl rfl ⟨rfl, rfl, rfl, rfl, rfl⟩ rfl rfl rfl rfl rfl (by kernel_rfl) Try.func3 (by kernel_rfl)
    (of_decide_eq_true (by kernel_rfl)) (by unfold Func.isWrapper; first | (rw [if_pos (by decide +kernel)]; kernel_rfl) | (rw [if_neg (by decide +kernel)]; exact ⟨rfl, rfl⟩))
    (fun os started H enc _ => queueExact_lifted os started H enc)
end Go.Proofs.Ytacpdjccbadomaa
