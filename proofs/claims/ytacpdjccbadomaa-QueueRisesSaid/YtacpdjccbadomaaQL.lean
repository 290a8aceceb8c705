/-
  Whichever one of some numbers is meant; two lists held against each other; the queue wakes. For every input.
-/
import Derived.Test.YtacpdjccbadomaaRows
import Derived.Test.YtacpdjccbadomaaQX
import Derived.Test.YtacpdjccbadomaaVH
set_option linter.unusedVariables false
set_option linter.unusedSimpArgs false
set_option maxRecDepth 20000
set_option maxHeartbeats 1000000
namespace Go.Proofs.Ytacpdjccbadomaa
open Go.Vg
open Enc (R)
open Qp
theorem ent14 : Ent Try.prog 14 := ⟨_, _, Try.func14, by kernel_rfl, rfl⟩
theorem ent16 : Ent Try.prog 16 := ⟨_, _, Try.func16, by kernel_rfl, rfl⟩
theorem ent18 : Ent Try.prog 18 := ⟨_, _, Try.func18, by kernel_rfl, rfl⟩
theorem ent20 : Ent Try.prog 20 := ⟨_, _, Try.func20, by kernel_rfl, rfl⟩
theorem ul23 : Try.prog.underlying 23 = some (.pointer 78) := by kernel_rfl
theorem ul3 : Try.prog.underlying 3 = some (.int .i64) := by kernel_rfl
theorem ul79 : Try.prog.underlying 79 = some (.int .u64) := by kernel_rfl
theorem us3 : (Try.prog.underlying 3).isSome = true := by kernel_rfl
theorem us79 : (Try.prog.underlying 79).isSome = true := by kernel_rfl
def within (i n : Int) : Int := (i % 18446744073709551616) % n
theorem wrap_u (a : Int) : IntKind.u64.wrap a = a % 18446744073709551616 := by simp [IntKind.wrap, IntKind.bits, IntKind.signed]
theorem wrap_s (a : Int) : IntKind.i64.wrap a = (if a % 18446744073709551616 ≥ 9223372036854775808 then a % 18446744073709551616 - 18446744073709551616 else a % 18446744073709551616) := by simp [IntKind.wrap, IntKind.bits, IntKind.signed]
theorem within_lt (i : Int) {n : Int} (h : 1 ≤ n) : 0 ≤ within i n ∧ within i n < n := ⟨Int.emod_nonneg _ (by omega), Int.emod_lt_of_pos _ (by omega)⟩
theorem within_calls (i n : Int) (hn : 1 ≤ n ∧ n ≤ 9223372036854775807) (w : World) : Calls Try.prog 15 #[.int .i64 i, .int .i64 n] w fun e w' => e = .returned (.int .i64 (within i n)) ∧ Ext w w' := by
  refine T.enter (args := [.int .i64 i, .int .i64 n]) (S := Sat w []) Try.func15 rfl rfl (Sat.start w) ?_
  refine T.seq fun K1 hK1 => ?_
  refine T.region ?_
  refine RS.p (Pu.assign rfl) rfl rfl ?_
  refine RS.nil (hK1 _ _ ?_)
  refine T.seq fun K2 hK2 => ?_
  refine T.region ?_
  refine RS.p (Pu.move rfl) rfl rfl ?_
  refine RS.p (Pu.conv us3 ul79 rfl) rfl rfl ?_
  refine RS.p (Pu.move rfl) rfl rfl ?_
  refine RS.p (Pu.conv us3 ul79 rfl) rfl rfl ?_
  refine RS.p (Pu.remN rfl rfl (by rw [wrap_u, wrap_u]; omega)) rfl rfl ?_
  refine RS.p (Pu.conv us79 ul3 rfl) rfl rfl ?_
  refine RS.p (Pu.assign rfl) rfl rfl ?_
  refine RS.nil (hK2 _ _ (T.conseq (fr' := [(4, _)]) ?_ ⟨rfl, trivial⟩ (fun _ s => s)))
  refine T.retTo (by with_reducible ((repeat (first | apply RetTo.seq | apply RetTo.blk)); exact RetTo.refl _)) (Cont.ret1 rfl rfl fun w' s => ?_)
  refine ⟨?_, s.ext⟩
  rw [wrap_u, wrap_u, wrap_s]
  have e1 : n % 18446744073709551616 = n := by omega
  have e2 := within_lt i hn.1
  unfold within at *
  rw [e1]
  have e3 : (i % 18446744073709551616 % n) % 18446744073709551616 = i % 18446744073709551616 % n := by omega
  rw [e3, if_neg (by omega)]
theorem eqNumbers_calls {a b : List Int} {va vb : Value} (w : World) (hA : R (hpOf w) a [va]) (hB : R (hpOf w) b [vb]) : Calls Try.prog 22 #[va, vb] w fun e w' => e = .returned (.bool (decide (a = b))) ∧ Ext w w' := by
  refine T.enter (args := [_, _]) (S := Sat w []) Try.func22 rfl rfl (Sat.start w) ?_
  have hmA := R_max hA
  have hmB := R_max hB
  obtain ⟨pa, ca, rfl⟩ := R_form hA
  obtain ⟨pb, cb, rfl⟩ := R_form hB
  refine T.seq fun K1 hK1 => ?_
  refine T.region ?_
  refine RS.p (Pu.assign rfl) rfl rfl ?_
  refine RS.nil (hK1 _ _ ?_)
  refine T.seq fun K2 hK2 => ?_
  refine T.seq fun K3 hK3 => ?_
  refine T.region ?_
  refine RS.p (Pu.move rfl) rfl rfl ?_
  refine RS.p (Pu.lenSl sl26 rfl) rfl rfl ?_
  refine RS.p (Pu.move rfl) rfl rfl ?_
  refine RS.p (Pu.lenSl sl26 rfl) rfl rfl ?_
  refine RS.p (Pu.bin rfl rfl rfl) rfl rfl ?_
  refine RS.nil (hK3 _ _ ?_)
  refine T.condP rfl (fun hc10 => ?_) (fun hc10 => ?_)
  · refine T.conseq (fr' := []) ?_ trivial (fun _ s => s)
    refine T.seq fun K4 hK4 => ?_
    refine T.region ?_
    refine RS.p (Pu.assign rfl) rfl rfl ?_
    refine RS.nil (hK4 _ _ ?_)
    refine T.retTo (by with_reducible ((repeat (first | apply RetTo.seq | apply RetTo.blk)); exact RetTo.refl _)) (Cont.ret1 rfl rfl fun w' s => ?_)
    refine ⟨by rw [decide_eq_false (fun e => hc10 (by rw [e]))], s.ext⟩
  · refine T.skip (hK2 _ _ (T.conseq (fr' := [(0, _), (1, _)]) ?_ ⟨rfl, rfl, trivial⟩ (fun _ s => s)))
    refine T.seq fun K5 hK5 => ?_
    refine T.seq fun K6 hK6 => ?_
    refine T.region ?_
    refine RS.p (Pu.assign rfl) rfl rfl ?_
    refine RS.nil (hK6 _ _ ?_)
    refine T.block ?_
    refine T.loopC (σ := Int) [(0, _), (1, _)] (fun i => [(5, .int .i64 i)]) (fun i => 0 ≤ i ∧ i ≤ a.length ∧ ∀ j : Int, 0 ≤ j → j < i → gi a j = gi b j) (fun i => (a.length - i).toNat) 0 (⟨by omega, by omega, fun j h0 h1 => by omega⟩) ⟨rfl, rfl, trivial⟩ ⟨rfl, rfl, rfl, trivial⟩ ?_
    intro i hI K6_ hL1
    refine T.conseq (fr' := [(5, _), (0, _), (1, _)]) ?_ ⟨rfl, rfl, rfl, trivial⟩ (fun _ s => s)
    obtain ⟨hi0, hi1, hq⟩ := hI
    refine T.seq fun K7 hK7 => ?_
    refine T.seq fun K8 hK8 => ?_
    refine T.region ?_
    refine RS.p (Pu.move rfl) rfl rfl ?_
    refine RS.p (Pu.move rfl) rfl rfl ?_
    refine RS.p (Pu.lenSl sl26 rfl) rfl rfl ?_
    refine RS.p (Pu.bin rfl rfl rfl) rfl rfl ?_
    refine RS.nil (hK8 _ _ ?_)
    refine T.condP rfl (fun hc14 => ?_) (fun hc14 => ?_)
    · refine T.skip (hK7 _ _ (T.conseq (fr' := [(0, _), (1, _), (5, _)]) ?_ ⟨rfl, rfl, rfl, trivial⟩ (fun _ s => s)))
      refine T.seq fun K9 hK9 => ?_
      refine T.block ?_
      refine T.seq fun K10 hK10 => ?_
      refine T.drawn (fun _ => True) [(0, .pu), (1, .pu), (2, .pu), (3, .rd), (4, .pu), (5, .pu), (6, .pu), (7, .rd), (8, .pu)] mixed (ClE.sat _ _) (by kernel_rfl) ?_
      refine RD.p (fun _ _ => trivial) rfl (Pu.move rfl) rfl rfl ?_
      refine RD.p (fun _ _ => trivial) rfl (Pu.move rfl) rfl rfl ?_
      obtain ⟨bl_hA, ol_hA, rfl⟩ := R_ptr hA (ne_of_pos (by first | omega | (simp only [len_si, List.length_append, List.length_replicate, List.length_cons, List.length_nil, List.length_map, List.length_take] at *; omega)))
      refine RD.p (fun _ _ => trivial) rfl (Pu.indexSl sl26 rfl rfl (by first | omega | (simp only [len_si, List.length_append, List.length_replicate, List.length_cons, List.length_nil, List.length_map, List.length_take] at *; omega))) rfl rfl ?_
      refine RD.q (fun _ _ => trivial) rfl (Qt.ld0 (α := Int) (Rd.base hA) ty3 rfl rfl (by first | omega | (simp only [len_si, List.length_append, List.length_replicate, List.length_cons, List.length_nil, List.length_map, List.length_take] at *; omega)) (by rintro _ _ rfl; rfl)) rfl rfl ?_
      refine RD.p (fun _ _ => trivial) rfl (Pu.move rfl) rfl rfl ?_
      refine RD.p (fun _ _ => trivial) rfl (Pu.move rfl) rfl rfl ?_
      obtain ⟨bl_hB, ol_hB, rfl⟩ := R_ptr hB (ne_of_pos (by first | omega | (simp only [len_si, List.length_append, List.length_replicate, List.length_cons, List.length_nil, List.length_map, List.length_take] at *; omega)))
      refine RD.p (fun _ _ => trivial) rfl (Pu.indexSl sl26 rfl rfl (by first | omega | (simp only [len_si, List.length_append, List.length_replicate, List.length_cons, List.length_nil, List.length_map, List.length_take] at *; omega))) rfl rfl ?_
      refine RD.q (fun _ _ => trivial) rfl (Qt.ld0 (α := Int) (Rd.base hB) ty3 rfl rfl (by first | omega | (simp only [len_si, List.length_append, List.length_replicate, List.length_cons, List.length_nil, List.length_map, List.length_take] at *; omega)) (by rintro _ _ rfl; rfl)) rfl rfl ?_
      refine RD.p (fun _ _ => trivial) rfl (Pu.bin rfl rfl rfl) rfl rfl ?_
      refine RD.nil (hK10 _ _ ?_)
      refine T.condP rfl (fun hc25 => ?_) (fun hc25 => ?_)
      · refine T.conseq (fr' := []) ?_ trivial (fun _ s => s)
        refine T.seq fun K11 hK11 => ?_
        refine T.region ?_
        refine RS.p (Pu.assign rfl) rfl rfl ?_
        refine RS.nil (hK11 _ _ ?_)
        refine T.retTo (by with_reducible ((repeat (first | apply RetTo.seq | apply RetTo.blk)); exact RetTo.refl _)) (Cont.ret1 rfl rfl fun w' s => ?_)
        refine ⟨by rw [decide_eq_false (fun e => hc25 (by rw [e]))], s.ext⟩
      · refine T.skip (hK9 _ _ (T.conseq (fr' := [(0, _), (1, _), (5, _)]) ?_ ⟨rfl, rfl, rfl, trivial⟩ (fun _ s => s)))
        refine T.region ?_
        refine RS.p (Pu.move rfl) rfl rfl ?_
        refine RS.p (Pu.addS rfl rfl (by omega)) rfl rfl ?_
        refine RS.p (Pu.assign rfl) rfl rfl ?_
        refine RS.nil (hL1 _ _ (i + 1) ⟨by omega, by omega, fun j h0 h1 => by
          by_cases hj : j = i
          · rw [hj]; exact Decidable.not_not.1 hc25
          · exact hq j h0 (by omega)⟩ (by omega) ⟨rfl, rfl, rfl, trivial⟩ (fun _ s => s))
    · refine T.exitTo (by with_reducible (repeat (first | exact ExTo.here | exact ExTo.hereN | apply ExTo.seq | refine ExTo.past (by decide) ?_))) (hK5 _ _ (T.conseq (fr' := []) ?_ trivial (fun _ s => s)))
      refine T.seq fun K12 hK12 => ?_
      refine T.region ?_
      refine RS.p (Pu.assign rfl) rfl rfl ?_
      refine RS.nil (hK12 _ _ ?_)
      refine T.retTo (by with_reducible ((repeat (first | apply RetTo.seq | apply RetTo.blk)); exact RetTo.refl _)) (Cont.ret1 rfl rfl fun w' s => ?_)
      refine ⟨by rw [decide_eq_true (ext_gi (by omega) (fun j h0 h1 => hq j h0 (by omega)))], s.ext⟩
def hd (s : List Item) : Item := s.headD ⟨0, 0⟩
theorem pop_calls {w0 : World} {bq : Nat} {s : List Item} {F : Ch} (hsz : s.length < 1099511627776) (w : World) (h : Sat w0 [qch bq s, F] w) : Calls Try.prog 18 #[.pointer (some ⟨bq, 0, none⟩)] w fun e w' => e = .returned (.tuple #[.int .i64 (hd s).key, .int .i64 (hd s).val, .bool (decide (s ≠ []))]) ∧ Sat w0 [qch bq s.tail, F] w' := by
  cases s with
  | nil => exact pop_nil w h
  | cons x r => exact pop_cons hsz w h
theorem rpop_calls {w0 : World} {bq : Nat} {s : List Item} {F : Ch} (hsz : s.length < 1099511627776) (w : World) (h : Sat w0 [rch bq s, F] w) : Calls Try.prog 19 #[.pointer (some ⟨bq, 0, none⟩)] w fun e w' => e = .returned (.tuple #[.int .i64 (hd s).key, .int .i64 (hd s).val, .bool (decide (s ≠ []))]) ∧ Sat w0 [rch bq s.tail, F] w' := by
  cases s with
  | nil => exact rpop_nil w h
  | cons x r => exact rpop_cons hsz w h
namespace Qp
theorem len_ins (x : Item) (s : List Item) : (ins x s).length = s.length + 1 := by rw [(ins_perm x s).length_eq]; rfl
end Qp
theorem wakes12_calls (w : World) : Calls Try.prog 21 #[] w fun e w' => e = .returned (.bool true) ∧ Ext w w' := by
  refine T.enter (args := []) (S := Sat w []) Try.func21 rfl rfl (Sat.start w) ?_
  refine T.seq fun K1 hK1 => ?_
  refine T.region ?_
  refine RS.p (Pu.assign rfl) rfl rfl ?_
  refine RS.nil (hK1 _ _ ?_)
  refine T.seq fun K2 hK2 => ?_
  refine T.region ?_
  refine RS.solid (Sd.callN ent14 rfl (fun w _ => new_calls w)) rfl rfl fun bq => ?_
  refine RS.p (Pu.assign rfl) rfl rfl ?_
  refine RS.nil (hK2 _ _ ?_)
  refine T.seq fun K3 hK3 => ?_
  refine T.seq fun K4 hK4 => ?_
  refine T.region ?_
  refine RS.p (Pu.move rfl) rfl rfl ?_
  refine RS.p (Pu.eqNil ul23 rfl) rfl rfl ?_
  refine RS.nil (hK4 _ _ ?_)
  refine T.condF rfl ?_
  refine T.skip (hK3 _ _ (T.conseq (fr' := [(1, _)]) ?_ ⟨rfl, trivial⟩ (fun _ s => s)))
  refine T.seq fun K5 hK5 => ?_
  refine T.region ?_
  refine RS.p (Pu.move rfl) rfl rfl ?_
  refine RS.solid (Sd.callU 0 ent16 rfl rfl (fun F w h => (push_calls _ _ (by first | omega | (simp only [Qp.len_ins, List.length_tail, List.length_cons, List.length_nil] at *; omega)) w h))) rfl rfl fun _ => ?_
  refine RS.nil (hK5 _ _ ?_)
  refine T.seq fun K6 hK6 => ?_
  refine T.region ?_
  refine RS.p (Pu.move rfl) rfl rfl ?_
  refine RS.solid (Sd.callU 0 ent16 rfl rfl (fun F w h => (push_calls _ _ (by first | omega | (simp only [Qp.len_ins, List.length_tail, List.length_cons, List.length_nil] at *; omega)) w h))) rfl rfl fun _ => ?_
  refine RS.nil (hK6 _ _ (T.conseq (fr' := [(1, _)]) ?_ ⟨rfl, trivial⟩ (fun _ s => s)))
  refine T.seq fun K7 hK7 => ?_
  refine T.region ?_
  refine RS.p (Pu.move rfl) rfl rfl ?_
  refine RS.solid (Sd.callU 0 ent16 rfl rfl (fun F w h => (push_calls _ _ (by first | omega | (simp only [Qp.len_ins, List.length_tail, List.length_cons, List.length_nil] at *; omega)) w h))) rfl rfl fun _ => ?_
  refine RS.nil (hK7 _ _ ?_)
  refine T.seq fun K8 hK8 => ?_
  refine T.region ?_
  refine RS.p (Pu.move rfl) rfl rfl ?_
  refine RS.solid (Sd.callU 0 ent18 rfl rfl (fun F w h => (pop_cons (x := ⟨1, 3⟩) (r := [⟨1, 9⟩, ⟨2, 1⟩]) (by simp) w h))) rfl rfl fun _ => ?_
  refine RS.p (Pu.move rfl) rfl rfl ?_
  refine RS.p (Pu.extract rfl rfl) rfl rfl ?_
  refine RS.p (Pu.extract rfl rfl) rfl rfl ?_
  refine RS.p (Pu.extract rfl rfl) rfl rfl ?_
  refine RS.p (Pu.assign rfl) rfl rfl ?_
  refine RS.p (Pu.assign rfl) rfl rfl ?_
  refine RS.p (Pu.assign rfl) rfl rfl ?_
  refine RS.nil (hK8 _ _ (T.conseq (fr' := [(1, _), (2, _), (3, _), (4, _)]) ?_ ⟨rfl, rfl, rfl, rfl, trivial⟩ (fun _ s => s)))
  refine T.seq fun K9 hK9 => ?_
  refine T.region ?_
  refine RS.p (Pu.move rfl) rfl rfl ?_
  refine RS.p (Pu.move rfl) rfl rfl ?_
  refine RS.p (Pu.move rfl) rfl rfl ?_
  refine RS.p (Pu.bin rfl rfl rfl) rfl rfl ?_
  refine RS.p (Pu.pickT rfl rfl) rfl rfl ?_
  refine RS.p (Pu.move rfl) rfl rfl ?_
  refine RS.splitP 25 rfl (fun h25 => ?_) (fun h25 => ?_)
  · refine RS.p (Pu.move rfl) rfl rfl ?_
    refine RS.p (Pu.bin rfl rfl rfl) rfl rfl ?_
    refine RS.p (Pu.pickT rfl rfl) rfl rfl ?_
    refine RS.p (Pu.move rfl) rfl rfl ?_
    refine RS.splitP 29 rfl (fun h29 => ?_) (fun h29 => ?_)
    · refine RS.p (Pu.move rfl) rfl rfl ?_
      refine RS.solid (Sd.callU 0 ent20 rfl rfl (fun F w h => (len_calls w h))) rfl rfl fun _ => ?_
      refine RS.p (Pu.bin rfl rfl rfl) rfl rfl ?_
      refine RS.p (Pu.pickT rfl rfl) rfl rfl ?_
      refine RS.p (Pu.assign rfl) rfl rfl ?_
      refine RS.nil (hK9 _ _ (T.conseq (fr' := [(0, _)]) ?_ ⟨rfl, trivial⟩ (fun _ s => s)))
      refine T.retTo (by with_reducible ((repeat (first | apply RetTo.seq | apply RetTo.blk)); exact RetTo.refl _)) (Cont.ret1 rfl rfl fun w' s => ?_)
      exact ⟨rfl, s.ext⟩
    · exact absurd rfl h29 -- end
  · exact absurd rfl h25 -- end
end Go.Proofs.Ytacpdjccbadomaa
