/-
  What some functions of Go's library do, for small numbers.
-/
import Derived.Test.YtddicdmleeaihaaRows
import Derived.Test.YtddicdmleeaihaaZ0
import Derived.Test.YtddicdmleeaihaaVJ
import Derived.Test.YtddicdmleeaihaaVK
set_option linter.unusedVariables false
set_option linter.unusedSimpArgs false
set_option maxRecDepth 20000
set_option maxHeartbeats 4000000
namespace Go.Proofs.Ytddicdmleeaihaa
open Go.Vg
open Enc (R)
theorem ent37 : Ent Try.prog 37 := ⟨_, _, Try.func37, by kernel_rfl, rfl⟩
theorem ent44 : Ent Try.prog 44 := ⟨_, _, Try.func44, by kernel_rfl, rfl⟩
theorem sl23 : slTy Try.prog 23 = some (3, 1, 8) := by kernel_rfl
theorem ul3 : Try.prog.underlying 3 = some (.int .i64) := by kernel_rfl
theorem ul60 : Try.prog.underlying 60 = some (.int .u64) := by kernel_rfl
theorem us3 : (Try.prog.underlying 3).isSome = true := by kernel_rfl
theorem us60 : (Try.prog.underlying 60).isSome = true := by kernel_rfl
theorem zr3 : zeroOf Try.prog 3 = some (.int .i64 0) := by kernel_rfl
theorem mul64_calls (a b : Int) (ha : 0 ≤ a ∧ a < 2147483648) (hb : 0 ≤ b ∧ b < 2147483648) (w : World) : Calls Try.prog 44 #[.int .u64 a, .int .u64 b] w fun e w' => e = .returned (.tuple #[.int .u64 0, .int .u64 (a * b)]) ∧ Ext w w' := by
 refine T.enter (args := [.int .u64 a, .int .u64 b]) (S := Sat w []) Try.func44 rfl rfl (Sat.start w) ?_
 have ea : a % 4294967296 = a := by omega
 have eb : b % 4294967296 = b := by omega
 have ea2 : a / 4294967296 = 0 := by omega
 have eb2 : b / 4294967296 = 0 := by omega
 have hm := mul_bd (a := a) (b := b) (A := 2147483648) (B := 2147483648) (by omega) (by omega)
 refine T.seq fun K1 hK1 => ?_
 refine T.region ?_
 refine RS.p (Pu.assign rfl) rfl rfl ?_
 refine RS.p (Pu.assign rfl) rfl rfl ?_
 refine RS.nil (hK1 _ _ ?_)
 refine T.seq fun K2 hK2 => ?_
 refine T.region ?_
 refine RS.p (Pu.move rfl) rfl rfl ?_
 refine RS.p (Pu.andU rfl rfl (by omega)) rfl rfl ?_
 rw [ea]
 refine RS.p (Pu.assign rfl) rfl rfl ?_
 refine RS.nil (hK2 _ _ (T.conseq (fr' := [(0, _), (1, _), (6, _)]) ?_ ⟨rfl, rfl, rfl, trivial⟩ (fun _ s => s)))
 refine T.seq fun K3 hK3 => ?_
 refine T.region ?_
 refine RS.p (Pu.move rfl) rfl rfl ?_
 refine RS.p (Pu.shrU rfl rfl) rfl rfl ?_
 rw [ea2]
 refine RS.p (Pu.assign rfl) rfl rfl ?_
 refine RS.nil (hK3 _ _ ?_)
 refine T.seq fun K4 hK4 => ?_
 refine T.region ?_
 refine RS.p (Pu.move rfl) rfl rfl ?_
 refine RS.p (Pu.andU rfl rfl (by omega)) rfl rfl ?_
 rw [eb]
 refine RS.p (Pu.assign rfl) rfl rfl ?_
 refine RS.nil (hK4 _ _ (T.conseq (fr' := [(0, _), (1, _), (6, _), (7, _), (8, _)]) ?_ ⟨rfl, rfl, rfl, rfl, rfl, trivial⟩ (fun _ s => s)))
 refine T.seq fun K5 hK5 => ?_
 refine T.region ?_
 refine RS.p (Pu.move rfl) rfl rfl ?_
 refine RS.p (Pu.shrU rfl rfl) rfl rfl ?_
 rw [eb2]
 refine RS.p (Pu.assign rfl) rfl rfl ?_
 refine RS.nil (hK5 _ _ ?_)
 refine T.seq fun K6 hK6 => ?_
 refine T.region ?_
 refine RS.p (Pu.move rfl) rfl rfl ?_
 refine RS.p (Pu.move rfl) rfl rfl ?_
 refine RS.p (Pu.mulU rfl rfl (by omega)) rfl rfl ?_
 refine RS.p (Pu.assign rfl) rfl rfl ?_
 refine RS.nil (hK6 _ _ (T.conseq (fr' := [(0, _), (1, _), (6, _), (7, _), (8, _), (9, _), (10, _)]) ?_ ⟨rfl, rfl, rfl, rfl, rfl, rfl, rfl, trivial⟩ (fun _ s => s)))
 refine T.seq fun K7 hK7 => ?_
 refine T.region ?_
 refine RS.p (Pu.move rfl) rfl rfl ?_
 refine RS.p (Pu.move rfl) rfl rfl ?_
 refine RS.p (Pu.mulU rfl rfl (by omega)) rfl rfl ?_
 refine RS.p (Pu.move rfl) rfl rfl ?_
 refine RS.p (Pu.shrU rfl rfl) rfl rfl ?_
 refine RS.p (Pu.addU rfl rfl (by omega)) rfl rfl ?_
 refine RS.p (Pu.assign rfl) rfl rfl ?_
 refine RS.nil (hK7 _ _ (T.conseq (fr' := [(0, _), (1, _), (6, _), (7, _), (9, _), (11, _)]) ?_ ⟨rfl, rfl, rfl, rfl, rfl, rfl, trivial⟩ (fun _ s => s)))
 refine T.seq fun K8 hK8 => ?_
 refine T.region ?_
 refine RS.p (Pu.move rfl) rfl rfl ?_
 refine RS.p (Pu.andU rfl rfl (by omega)) rfl rfl ?_
 refine RS.p (Pu.assign rfl) rfl rfl ?_
 refine RS.nil (hK8 _ _ ?_)
 refine T.seq fun K9 hK9 => ?_
 refine T.region ?_
 refine RS.p (Pu.move rfl) rfl rfl ?_
 refine RS.p (Pu.shrU rfl rfl) rfl rfl ?_
 refine RS.p (Pu.assign rfl) rfl rfl ?_
 refine RS.nil (hK9 _ _ (T.conseq (fr' := [(0, _), (1, _), (6, _), (7, _), (9, _), (12, _), (13, _)]) ?_ ⟨rfl, rfl, rfl, rfl, rfl, rfl, rfl, trivial⟩ (fun _ s => s)))
 refine T.seq fun K10 hK10 => ?_
 refine T.region ?_
 refine RS.p (Pu.move rfl) rfl rfl ?_
 refine RS.p (Pu.move rfl) rfl rfl ?_
 refine RS.p (Pu.move rfl) rfl rfl ?_
 refine RS.p (Pu.mulU rfl rfl (by omega)) rfl rfl ?_
 refine RS.p (Pu.addU rfl rfl (by omega)) rfl rfl ?_
 refine RS.p (Pu.assign rfl) rfl rfl ?_
 refine RS.nil (hK10 _ _ (T.conseq (fr' := [(0, _), (1, _), (7, _), (9, _), (12, _), (13, _)]) ?_ ⟨rfl, rfl, rfl, rfl, rfl, rfl, trivial⟩ (fun _ s => s)))
 refine T.seq fun K11 hK11 => ?_
 refine T.region ?_
 refine RS.p (Pu.move rfl) rfl rfl ?_
 refine RS.p (Pu.move rfl) rfl rfl ?_
 refine RS.p (Pu.mulU rfl rfl (by omega)) rfl rfl ?_
 refine RS.p (Pu.move rfl) rfl rfl ?_
 refine RS.p (Pu.addU rfl rfl (by omega)) rfl rfl ?_
 refine RS.p (Pu.move rfl) rfl rfl ?_
 refine RS.p (Pu.shrU rfl rfl) rfl rfl ?_
 refine RS.p (Pu.addU rfl rfl (by omega)) rfl rfl ?_
 refine RS.p (Pu.assign rfl) rfl rfl ?_
 refine RS.nil (hK11 _ _ (T.conseq (fr' := [(0, _), (1, _), (4, _)]) ?_ ⟨rfl, rfl, rfl, trivial⟩ (fun _ s => s)))
 refine T.seq fun K12 hK12 => ?_
 refine T.region ?_
 refine RS.p (Pu.move rfl) rfl rfl ?_
 refine RS.p (Pu.move rfl) rfl rfl ?_
 refine RS.p (Pu.mulU rfl rfl (by omega)) rfl rfl ?_
 refine RS.p (Pu.assign rfl) rfl rfl ?_
 refine RS.nil (hK12 _ _ (T.conseq (fr' := [(4, _), (5, _)]) ?_ ⟨rfl, rfl, trivial⟩ (fun _ s => s)))
 refine T.retTo (by with_reducible ((repeat (first | apply RetTo.seq | apply RetTo.blk)); exact RetTo.refl _)) (Cont.ret2 rfl rfl rfl fun w' s => ?_)
 refine ⟨?_, s.ext⟩
 congr 6
 omega
theorem mul_calls (a b : Int) (ha : 0 ≤ a ∧ a < 2147483648) (hb : 0 ≤ b ∧ b < 2147483648) (w : World) : Calls Try.prog 37 #[.int .u64 a, .int .u64 b] w fun e w' => e = .returned (.tuple #[.int .u64 0, .int .u64 (a * b)]) ∧ Ext w w' := by
 refine T.enter (args := [.int .u64 a, .int .u64 b]) (S := Sat w []) Try.func37 rfl rfl (Sat.start w) ?_
 refine T.seq fun K1 hK1 => ?_
 refine T.region ?_
 refine RS.p (Pu.assign rfl) rfl rfl ?_
 refine RS.p (Pu.assign rfl) rfl rfl ?_
 refine RS.nil (hK1 _ _ ?_)
 refine T.seq fun K2 hK2 => ?_
 refine T.condF rfl ?_
 refine T.skip (hK2 _ _ ?_)
 refine T.seq fun K3 hK3 => ?_
 refine T.region ?_
 refine RS.p (Pu.move rfl) rfl rfl ?_
 refine RS.p (Pu.move rfl) rfl rfl ?_
 refine RS.q (Qt.call ent44 rfl fun w _s => mul64_calls _ _ (by omega) (by omega) _) rfl rfl ?_
 refine RS.p (Pu.move rfl) rfl rfl ?_
 refine RS.p (Pu.extract rfl rfl) rfl rfl ?_
 refine RS.p (Pu.extract rfl rfl) rfl rfl ?_
 refine RS.p (Pu.assign rfl) rfl rfl ?_
 refine RS.p (Pu.assign rfl) rfl rfl ?_
 refine RS.nil (hK3 _ _ (T.conseq (fr' := [(8, _), (9, _)]) ?_ ⟨rfl, rfl, trivial⟩ (fun _ s => s)))
 refine T.seq fun K4 hK4 => ?_
 refine T.region ?_
 refine RS.p (Pu.move rfl) rfl rfl ?_
 refine RS.p (Pu.move rfl) rfl rfl ?_
 refine RS.p (Pu.assign rfl) rfl rfl ?_
 refine RS.p (Pu.assign rfl) rfl rfl ?_
 refine RS.nil (hK4 _ _ (T.conseq (fr' := [(4, _), (5, _)]) ?_ ⟨rfl, rfl, trivial⟩ (fun _ s => s)))
 refine T.retTo (by with_reducible ((repeat (first | apply RetTo.seq | apply RetTo.blk)); exact RetTo.refl _)) (Cont.ret2 rfl rfl rfl fun w' s => ?_)
 exact ⟨rfl, s.ext⟩
theorem repeatInt_calls {x : Int} {n : Int} (hn : 1 ≤ n ∧ n < 2147483648) {va : Value} (w : World) (hA : R (hpOf w) [x] [va]) : Calls Try.prog 25 #[va, .int .i64 n] w fun e w' => ∃ b : Nat, e = .returned (.slice (some ⟨b, 0, none⟩) n.toNat n.toNat) ∧ Sat w [row nilH 3 (.slice (some ⟨b, 0, none⟩) n.toNat n.toNat) (List.replicate n.toNat x)] w' := by
 refine T.enter (args := [_, _]) (S := Sat w []) Try.func25 rfl rfl (Sat.start w) ?_
 obtain ⟨pa, ca, rfl⟩ := R_form hA
 dsimp only [List.length_cons, List.length_nil] at *
 refine T.seq fun K1 hK1 => ?_
 refine T.region ?_
 refine RS.p (Pu.assign rfl) rfl rfl ?_
 refine RS.nil (hK1 _ _ ?_)
 refine T.seq fun K2 hK2 => ?_
 refine T.seq fun K3 hK3 => ?_
 refine T.region ?_
 refine RS.p (Pu.move rfl) rfl rfl ?_
 refine RS.p (Pu.bin rfl rfl rfl) rfl rfl ?_
 refine RS.nil (hK3 _ _ ?_)
 refine T.condP rfl (fun hc10 => ?_) (fun hc10 => ?_)
 ·exact absurd hc10 (by omega) -- end
 ·refine T.skip (hK2 _ _ (T.conseq (fr' := [(0, _), (1, _)]) ?_ ⟨rfl, rfl, trivial⟩ (fun _ s => s)))
  refine T.seq fun K4 hK4 => ?_
  refine T.region ?_
  refine RS.p (Pu.move rfl) rfl rfl ?_
  refine RS.p (Pu.lenSl sl23 rfl) rfl rfl ?_
  refine RS.p (Pu.convU us3 ul60 rfl (by omega)) rfl rfl ?_
  refine RS.p (Pu.move rfl) rfl rfl ?_
  refine RS.p (Pu.convU us3 ul60 rfl (by omega)) rfl rfl ?_
  refine RS.q (Qt.call ent37 rfl fun w _s => mul_calls _ _ (by omega) (by omega) _) rfl rfl ?_
  rw [show ((0 + 1 : Nat) : Int) * n = n by omega]
  refine RS.p (Pu.move rfl) rfl rfl ?_
  refine RS.p (Pu.extract rfl rfl) rfl rfl ?_
  refine RS.p (Pu.extract rfl rfl) rfl rfl ?_
  refine RS.p (Pu.assign rfl) rfl rfl ?_
  refine RS.p (Pu.assign rfl) rfl rfl ?_
  refine RS.nil (hK4 _ _ (T.conseq (fr' := [(0, _), (5, _), (6, _)]) ?_ ⟨rfl, rfl, rfl, trivial⟩ (fun _ s => s)))
  refine T.seq fun K5 hK5 => ?_
  refine T.seq fun K6 hK6 => ?_
  refine T.region ?_
  refine RS.p (Pu.move rfl) rfl rfl ?_
  refine RS.p (Pu.bin rfl rfl rfl) rfl rfl ?_
  refine RS.p (Pu.move rfl) rfl rfl ?_
  refine RS.splitP 23 rfl (fun h23 => ?_) (fun h23 => ?_)
  ·exact absurd h23 (by omega) -- end
  ·refine RS.p (Pu.move rfl) rfl rfl ?_
   refine RS.p (Pu.bin rfl rfl rfl) rfl rfl ?_
   refine RS.p (Pu.pickF rfl rfl) rfl rfl ?_
   refine RS.nil (hK6 _ _ ?_)
   refine T.condP rfl (fun hc26 => ?_) (fun hc26 => ?_)
   ·exact absurd hc26 (by omega) -- end
   ·refine T.skip (hK5 _ _ (T.conseq (fr' := [(0, _), (6, _)]) ?_ ⟨rfl, rfl, trivial⟩ (fun _ s => s)))
    refine T.seq fun K7 hK7 => ?_
    refine T.region ?_
    refine RS.p (Pu.move rfl) rfl rfl ?_
    refine RS.p (Pu.convS us60 ul3 rfl (by omega)) rfl rfl ?_
    refine RS.solid (Sd.make (α := Int) (B := nilH) 0 sl23 zr3 rfl (by decide) rfl rfl (by omega) (by omega) (by omega)) rfl rfl fun b30 => ?_
    refine RS.p (Pu.assign rfl) rfl rfl ?_
    refine RS.nil (hK7 _ _ (T.conseq (fr' := [(0, _), (7, _)]) ?_ ⟨rfl, rfl, trivial⟩ (fun _ s => s)))
    refine T.seq fun K8 hK8 => ?_
    refine T.region ?_
    refine RS.p (Pu.move rfl) rfl rfl ?_
    refine RS.p (Pu.move rfl) rfl rfl ?_
    refine RS.solid (Sd.copyR 0 (o := 0) rfl sl23 rfl rfl (Rd.base hA) (by simp) (by simp only [List.length_replicate]; show 0 + min (0 + 1) n.toNat ≤ _; omega)) rfl rfl fun _ => ?_
    refine RS.p (Pu.assign rfl) rfl rfl ?_
    refine RS.nil (hK8 _ _ (T.conseq (fr' := [(7, _), (8, _)]) ?_ ⟨rfl, rfl, trivial⟩ (fun _ s => s)))
    refine T.seq fun K9 hK9 => ?_
    refine T.block ?_
    refine T.loopK (σ := Int) [(7, _)] (fun c => [(8, .int .i64 c)]) (fun c => Sat w [row nilH 3 (.slice (some ⟨b30, 0, none⟩) n.toNat n.toNat) (List.replicate c.toNat x ++ List.replicate (n - c).toNat 0)]) (fun c => 1 ≤ c ∧ c ≤ n) (fun c => (n - c).toNat) 1 (⟨by omega, by omega⟩) ⟨rfl, trivial⟩ ⟨ieq (by show ((min (0 + 1) n.toNat : Nat) : Int) = 1; omega), rfl, trivial⟩ (fun w2 s => by
     have hmn : Nat.min (0 + 1) n.toNat = 1 := by show min (0 + 1) n.toNat = 1; omega
     have s2 := s.pick (G' := [_]) [0] (by decide) rfl
     rw [hmn] at s2
     have e : List.take 0 (List.replicate n.toNat 0) ++ List.take 1 [x] ++ List.drop (0 + 1) (List.replicate n.toNat 0) = List.replicate (1 : Int).toNat x ++ List.replicate (n - 1).toNat 0 := by
      rw [List.drop_replicate, show n.toNat - (0 + 1) = (n - 1).toNat by omega]; rfl
     rw [e] at s2
     exact s2) ?_
    intro c hI K9_ hL1
    refine T.conseq (fr' := [(8, _), (7, _)]) ?_ ⟨rfl, rfl, trivial⟩ (fun _ s => s)
    obtain ⟨hc1, hc2⟩ := hI
    refine T.seq fun K10 hK10 => ?_
    refine T.seq fun K11 hK11 => ?_
    refine T.region ?_
    refine RS.p (Pu.move rfl) rfl rfl ?_
    refine RS.p (Pu.move rfl) rfl rfl ?_
    refine RS.p (Pu.lenSl sl23 rfl) rfl rfl ?_
    refine RS.p (Pu.bin rfl rfl rfl) rfl rfl ?_
    refine RS.nil (hK11 _ _ ?_)
    refine T.condP rfl (fun hc37 => ?_) (fun hc37 => ?_)
    ·refine T.skip (hK10 _ _ (T.conseq (fr' := [(7, _), (8, _)]) ?_ ⟨rfl, rfl, trivial⟩ (fun _ s => s)))
     refine T.block ?_
     refine T.drawn (fun _ => True) [(0, .pu), (1, .pu), (2, .pu), (3, .pu), (4, .pu), (5, .pu), (6, .pu), (7, .br), (8, .pu), (9, .pu)] mixed (ClE.sat _ _) (by kernel_rfl) ?_
     refine RD.p (fun _ _ => trivial) rfl (Pu.move rfl) rfl rfl ?_
     refine RD.p (fun _ _ => trivial) rfl (Pu.move rfl) rfl rfl ?_
     refine RD.p (fun _ _ => trivial) rfl (Pu.move rfl) rfl rfl ?_
     refine RD.p (fun _ _ => trivial) rfl (Pu.sliceL sl23 rfl rfl (by omega)) rfl rfl ?_
     rw [cutP_lt (by omega)]
     refine RD.p (fun _ _ => trivial) rfl (Pu.move rfl) rfl rfl ?_
     refine RD.p (fun _ _ => trivial) rfl (Pu.move rfl) rfl rfl ?_
     refine RD.p (fun _ _ => trivial) rfl (Pu.sliceH sl23 rfl rfl (by omega)) rfl rfl ?_
     refine RD.solid rfl (.inr rfl) rfl rfl (Sd.copyR 0 (o := c.toNat) rfl sl23 rfl rfl (fun w s => take_reads (s.getRow (k := 0) rfl (nilH_le _)) (by simp only [List.length_append, List.length_replicate]; omega)) (by simp [Enc.sz]) (by simp only [List.length_append, List.length_replicate]; show c.toNat + min c.toNat (n.toNat - c.toNat) ≤ _; omega)) (fun _ => ClE.sat _ _) (fun _ _ _ => trivial) (fun h => nomatch h) fun _ => ?_
     have hml : Nat.min c.toNat (n.toNat - c.toNat) ≤ c.toNat := Nat.min_le_left _ _
     refine RD.p (fun _ _ => trivial) rfl (Pu.addS rfl rfl (by omega)) rfl rfl ?_
     refine RD.p (fun _ _ => trivial) rfl (Pu.assign rfl) rfl rfl ?_
     obtain ⟨m, hm⟩ : ∃ m, m = Nat.min c.toNat (n.toNat - c.toNat) := ⟨_, rfl⟩
     have hm' : m = min c.toNat (n.toNat - c.toNat) := hm
     refine RD.nil (hL1 _ _ (c + (m : Int)) ⟨by omega, by omega⟩ (by omega) ⟨by rw [hm]; rfl, rfl, trivial⟩ (fun w2 s1 => by
      have s2 := s1.pick (G' := [_]) [0] (by decide) rfl
      rw [← hm, rep_step (by omega) (by omega)] at s2
      rw [show (c + (m : Int)).toNat = c.toNat + m by omega, show (n - (c + (m : Int))).toNat = (n - c).toNat - m by omega]
      exact s2))
    ·refine T.exitTo (by with_reducible (repeat (first | exact ExTo.here | exact ExTo.hereN | exact ExTo.deep (by repeat (first | exact NmTo.seq | apply NmTo.blk)) | apply ExTo.seq | refine ExTo.past (by decide) ?_))) (hK9 _ _ (T.conseq (fr' := [(7, _)]) ?_ ⟨rfl, trivial⟩ (fun _ s => s)))
     refine T.seq fun K12 hK12 => ?_
     refine T.region ?_
     refine RS.p (Pu.move rfl) rfl rfl ?_
     refine RS.p (Pu.assign rfl) rfl rfl ?_
     refine RS.nil (hK12 _ _ ?_)
     refine T.retTo (by with_reducible ((repeat (first | apply RetTo.seq | apply RetTo.blk)); exact RetTo.refl _)) (Cont.ret1 rfl rfl fun w' s => ?_)
     have hcn : c = n := by omega
     rw [hcn, show (n - n).toNat = 0 by omega, List.replicate_zero, List.append_nil] at s
     exact ⟨b30, rfl, s⟩
end Go.Proofs.Ytddicdmleeaihaa
