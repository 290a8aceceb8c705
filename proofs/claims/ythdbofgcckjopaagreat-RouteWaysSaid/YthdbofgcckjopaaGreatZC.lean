/-
  What slices.Clone and slices.Repeat answer, as pure functions, with their walks. The conditions stand in each function.
-/
import Derived.Test.YthdbofgcckjopaaGreatRows
import Derived.Test.YthdbofgcckjopaaGreatW3
import Derived.Test.YthdbofgcckjopaaGreatW2
import Derived.Test.YthdbofgcckjopaaGreatBO
set_option linter.unusedVariables false
set_option linter.unusedSimpArgs false
set_option maxRecDepth 20000
set_option maxHeartbeats 4000000
namespace Go.Proofs.YthdbofgcckjopaaGreat
open Go.Vg
open Enc (R)
theorem ent132 : Ent Tryz.prog 132 := ⟨_, _, Tryz.func132, by kernel_rfl, rfl⟩
theorem ent166 : Ent Tryz.prog 166 := ⟨_, _, Tryz.func166, by kernel_rfl, rfl⟩
theorem mixed : Tryz.prog.follows .mixedOrders = true := by kernel_rfl
theorem sl23 : slTy Tryz.prog 23 = some (3, 1, 8) := by kernel_rfl
theorem sl37 : slTy Tryz.prog 37 = some (120, 6, 48) := by kernel_rfl
theorem ul80 : Tryz.prog.underlying 80 = some (.int .u64) := by kernel_rfl
theorem us3 : (Tryz.prog.underlying 3).isSome = true := by kernel_rfl
theorem us80 : (Tryz.prog.underlying 80).isSome = true := by kernel_rfl
theorem usl23 : Tryz.prog.underlying 23 = some (.slice 3) := by kernel_rfl
theorem usl37 : Tryz.prog.underlying 37 = some (.slice 120) := by kernel_rfl
theorem zr120 : zeroOf Tryz.prog 120 = some (.agg #[.int .i64 0, .int .i64 0, .int .i64 0, .int .i64 0, .int .i64 0, .int .i64 0]) := by kernel_rfl
theorem zr3 : zeroOf Tryz.prog 3 = some (.int .i64 0) := by kernel_rfl
theorem mul64_calls (a b : Int) (ha : 0 ≤ a ∧ a < 2147483648) (hb : 0 ≤ b ∧ b < 2147483648) (w : World) : Calls Tryz.prog 166 #[.int .u64 a, .int .u64 b] w fun e w' => e = .returned (.tuple #[.int .u64 0, .int .u64 (a * b)]) ∧ Ext w w' := by
 refine T.enter (args := [.int .u64 a, .int .u64 b]) (S := Sat w []) Tryz.func166 rfl rfl (Sat.start w) ?_
 have ea : a % 4294967296 = a := by omega
 have eb : b % 4294967296 = b := by omega
 have ea2 : a / 4294967296 = 0 := by omega
 have eb2 : b / 4294967296 = 0 := by omega
 have hm := mul_bd (a := a) (b := b) (A := 2147483648) (B := 2147483648) (by omega) (by omega)
 refine T.seq fun K1 hK1 => T.region (rA rfl (rA rfl (RS.nil (hK1 _ _ ?_))))
 refine T.seq fun K2 hK2 => T.region (rM rfl (rp (Pu.andU rfl rfl (by omega)) ?_))
 rw [ea]
 refine rA rfl (RS.nil (hK2 _ _ (cq [(0, _), (1, _), (6, _)] ?_)))
 refine T.seq fun K3 hK3 => T.region (rM rfl (rp (Pu.shrU rfl rfl) ?_))
 rw [ea2]
 refine rA rfl (RS.nil (hK3 _ _ ?_))
 refine T.seq fun K4 hK4 => T.region (rM rfl (rp (Pu.andU rfl rfl (by omega)) ?_))
 rw [eb]
 refine rA rfl (RS.nil (hK4 _ _ (cq [(0, _), (1, _), (6, _), (7, _), (8, _)] ?_)))
 refine T.seq fun K5 hK5 => T.region (rM rfl (rp (Pu.shrU rfl rfl) ?_))
 rw [eb2]
 refine rA rfl (RS.nil (hK5 _ _ ?_))
 refine T.seq fun K6 hK6 => T.region (rM rfl (rM rfl (rp (Pu.mulU rfl rfl (by omega)) (rA rfl (RS.nil (hK6 _ _ (cq [(0, _), (1, _), (6, _), (7, _), (8, _), (9, _), (10, _)] ?_)))))))
 refine T.seq fun K7 hK7 => T.region (rM rfl (rM rfl (rp (Pu.mulU rfl rfl (by omega)) (rM rfl (rp (Pu.shrU rfl rfl) (rp (Pu.addU rfl rfl (by omega)) (rA rfl (RS.nil (hK7 _ _ (cq [(0, _), (1, _), (6, _), (7, _), (9, _), (11, _)] ?_))))))))))
 refine T.seq fun K8 hK8 => T.region (rM rfl (rp (Pu.andU rfl rfl (by omega)) (rA rfl (RS.nil (hK8 _ _ ?_)))))
 refine T.seq fun K9 hK9 => T.region (rM rfl (rp (Pu.shrU rfl rfl) (rA rfl (RS.nil (hK9 _ _ (cq [(0, _), (1, _), (6, _), (7, _), (9, _), (12, _), (13, _)] ?_))))))
 refine T.seq fun K10 hK10 => T.region (rM rfl (rM rfl (rM rfl (rp (Pu.mulU rfl rfl (by omega)) (rp (Pu.addU rfl rfl (by omega)) (rA rfl (RS.nil (hK10 _ _ (cq [(0, _), (1, _), (7, _), (9, _), (12, _), (13, _)] ?_)))))))))
 refine T.seq fun K11 hK11 => T.region (rM rfl (rM rfl (rp (Pu.mulU rfl rfl (by omega)) (rM rfl (rp (Pu.addU rfl rfl (by omega)) (rM rfl (rp (Pu.shrU rfl rfl) (rp (Pu.addU rfl rfl (by omega)) (rA rfl (RS.nil (hK11 _ _ (cq [(0, _), (1, _), (4, _)] ?_))))))))))))
 refine T.seq fun K12 hK12 => T.region (rM rfl (rM rfl (rp (Pu.mulU rfl rfl (by omega)) (rA rfl (RS.nil (hK12 _ _ (cq [(4, _), (5, _)] ?_)))))))
 refine T.retTo (by with_reducible ((repeat (first | apply RetTo.seq | apply RetTo.blk)); exact RetTo.refl _)) (Cont.ret2 rfl rfl rfl fun w' s => ?_)
 refine ⟨?_, s.ext⟩
 congr 6
 omega
theorem mul_calls (a b : Int) (ha : 0 ≤ a ∧ a < 2147483648) (hb : 0 ≤ b ∧ b < 2147483648) (w : World) : Calls Tryz.prog 132 #[.int .u64 a, .int .u64 b] w fun e w' => e = .returned (.tuple #[.int .u64 0, .int .u64 (a * b)]) ∧ Ext w w' := by
 refine T.enter (args := [.int .u64 a, .int .u64 b]) (S := Sat w []) Tryz.func132 rfl rfl (Sat.start w) ?_
 refine T.seq fun K1 hK1 => T.region (rA rfl (rA rfl (RS.nil (hK1 _ _ ?_))))
 refine T.seq fun K2 hK2 => ?_
 refine T.condF rfl ?_
 refine T.skip (hK2 _ _ ?_)
 refine T.seq fun K3 hK3 => T.region (rM rfl (rM rfl (rq (Qt.call ent166 rfl fun w _s => mul64_calls _ _ (by omega) (by omega) _) (rM rfl (rp (Pu.extract rfl rfl) (rp (Pu.extract rfl rfl) (rA rfl (rA rfl (RS.nil (hK3 _ _ (cq [(8, _), (9, _)] ?_)))))))))))
 refine T.seq fun K4 hK4 => T.region (rM rfl (rM rfl (rA rfl (rA rfl (RS.nil (hK4 _ _ (cq [(4, _), (5, _)] ?_)))))))
 refine T.retTo (by with_reducible ((repeat (first | apply RetTo.seq | apply RetTo.blk)); exact RetTo.refl _)) (Cont.ret2 rfl rfl rfl fun w' s => ?_)
 exact ⟨rfl, s.ext⟩
theorem cloneInt_calls_nil {l : List Int} {n c : Nat} (w : World) (hA : R (hpOf w) l [.slice none n c]) : Calls Tryz.prog 46 #[.slice none n c] w fun e w' => ∃ q : Option Nat × Nat, e = .returned (rowV q l.length) ∧ Sat w [row nilH 3 (rowV q l.length) l] w' := by
 refine T.enter (args := [.slice none n c]) (S := Sat w []) Tryz.func46 rfl rfl (Sat.start w) ?_
 refine T.seq fun K1 hK1 => T.region (rA rfl (RS.nil (hK1 _ _ ?_)))
 refine T.seq fun K2 hK2 => T.seq fun K3 hK3 => T.region (rM rfl (rp (Pu.eqNilSl usl23 rfl) (RS.nil (hK3 _ _ ?_))))
 refine T.cond rfl (fun hc4 => ?_) (fun hc4 => ?_)
 ·refine cq [] ?_
  refine T.seq fun K4 hK4 => T.region (rA rfl (RS.nil (hK4 _ _ ?_)))
  refine T.retTo (by with_reducible ((repeat (first | apply RetTo.seq | apply RetTo.blk)); exact RetTo.refl _)) (Cont.ret1 rfl rfl fun w' s => ?_)
  have hl0 : l = [] := by
   obtain ⟨p', c', e', s1, s2, s3⟩ := hA
   simp only [List.cons.injEq, Value.slice.injEq, and_true] at e'
   obtain ⟨rfl, rfl, rfl⟩ := e'
   rcases s3 with h | ⟨b, o, cs, h, _⟩
   ·exact h
   ·cases h
  subst hl0
  exact ⟨(none, 0), rfl, s.addEmpty _ (fun p => .inl ⟨rfl, rfl⟩)⟩
 ·exact absurd hc4 (by simp) -- end
theorem cloneInt_calls_some {l : List Int} {a : Addr} {n c : Nat} (hsz : n < 1099511627776) (w : World) (hA : R (hpOf w) l [.slice (some a) n c]) : Calls Tryz.prog 46 #[.slice (some a) n c] w fun e w' => ∃ q : Option Nat × Nat, e = .returned (rowV q l.length) ∧ Sat w [row nilH 3 (rowV q l.length) l] w' := by
 refine T.enter (args := [.slice (some a) n c]) (S := Sat w []) Tryz.func46 rfl rfl (Sat.start w) ?_
 refine T.seq fun K1 hK1 => T.region (rA rfl (RS.nil (hK1 _ _ ?_)))
 refine T.seq fun K2 hK2 => T.seq fun K3 hK3 => T.region (rM rfl (rp (Pu.eqNilSl usl23 rfl) (RS.nil (hK3 _ _ ?_))))
 refine T.cond rfl (fun hc4 => ?_) (fun hc4 => ?_)
 ·exact absurd hc4 (by simp) -- end
 ·refine T.skip (hK2 _ _ (cq [(0, _)] ?_))
  refine T.seq fun K4 hK4 => T.region (RS.solid (Sd.lit0 (α := Int) (B := nilH) sl23) rfl rfl fun b5 => rM rfl (RS.solid (Sd.appB (α := Int) 0 (nilH_lt _) rfl sl23 zr3 rfl rfl rfl hA (by simp only [List.length_nil]; omega) (by simp only [List.length_nil]; unfold maxLen; omega)) rfl rfl fun q7 => rA rfl (RS.nil (hK4 _ _ (cq [(2, _)] ?_)))))
  refine T.retTo (by with_reducible ((repeat (first | apply RetTo.seq | apply RetTo.blk)); exact RetTo.refl _)) (Cont.ret1 rfl rfl fun w' s => ?_)
  have hn : n = l.length := (R_len hA).1
  simp only [List.length_nil, Nat.zero_add, List.nil_append] at s
  subst hn
  exact ⟨q7, by simp, s.pick (G' := [_]) [0] (by decide) rfl⟩
theorem cloneInt_calls {l : List Int} {v : Value} (hsz : l.length < 1099511627776) (w : World) (hA : R (hpOf w) l [v]) : Calls Tryz.prog 46 #[v] w fun e w' => ∃ q : Option Nat × Nat, e = .returned (rowV q l.length) ∧ Sat w [row nilH 3 (rowV q l.length) l] w' := by
 obtain ⟨p, c, rfl⟩ := R_form hA
 cases p with
 | none => exact cloneInt_calls_nil w hA
 | some a => exact cloneInt_calls_some hsz w hA
def slices_Clone_Int (l : List Int) : Option (List Int) := if l.length < 1099511627776 then some l else none
theorem slices_Clone_Int_walk (l : List Int) (w : World) {v0 : Value} (h0 : R (hpOf w) l [v0]) {r : List Int} (H : slices_Clone_Int l = some r) : Calls Tryz.prog 46 #[v0] w fun e w' => ∃ g : (Option Nat × Nat), e = .returned (rowV g r.length) ∧ Sat w [row nilH 3 (rowV g r.length) r] w' := by
 unfold slices_Clone_Int at H
 obtain ⟨h1, H⟩ := gdE H
 obtain rfl := sj H
 exact cloneInt_calls h1 w h0
theorem repeatInt_calls {x : Int} {n : Int} (hn : 1 ≤ n ∧ n < 2147483648) {va : Value} (w : World) (hA : R (hpOf w) [x] [va]) : Calls Tryz.prog 102 #[va, .int .i64 n] w fun e w' => ∃ b : Nat, e = .returned (.slice (some ⟨b, 0, none⟩) n.toNat n.toNat) ∧ Sat w [row nilH 3 (.slice (some ⟨b, 0, none⟩) n.toNat n.toNat) (List.replicate n.toNat x)] w' := by
 refine T.enter (args := [_, _]) (S := Sat w []) Tryz.func102 rfl rfl (Sat.start w) ?_
 obtain ⟨pa, ca, rfl⟩ := R_form hA
 dsimp only [List.length_cons, List.length_nil] at *
 refine T.seq fun K1 hK1 => T.region (rA rfl (RS.nil (hK1 _ _ ?_)))
 refine T.seq fun K2 hK2 => T.seq fun K3 hK3 => T.region (rM rfl (rp (Pu.bin rfl rfl rfl) (RS.nil (hK3 _ _ ?_))))
 refine T.condP rfl (fun hc10 => ?_) (fun hc10 => ?_)
 ·exact absurd hc10 (by omega) -- end
 ·refine T.skip (hK2 _ _ (cq [(0, _), (1, _)] ?_))
  refine T.seq fun K4 hK4 => T.region (rM rfl (rp (Pu.lenSl sl23 rfl) (rp (Pu.convU us3 ul80 rfl (by omega)) (rM rfl (rp (Pu.convU us3 ul80 rfl (by omega)) (rq (Qt.call ent132 rfl fun w _s => mul_calls _ _ (by omega) (by omega) _) ?_))))))
  rw [show ((0 + 1 : Nat) : Int) * n = n by omega]
  refine rM rfl (rp (Pu.extract rfl rfl) (rp (Pu.extract rfl rfl) (rA rfl (rA rfl (RS.nil (hK4 _ _ (cq [(0, _), (5, _), (6, _)] ?_)))))))
  refine T.seq fun K5 hK5 => T.seq fun K6 hK6 => T.region (rM rfl (rp (Pu.bin rfl rfl rfl) (rM rfl ?_)))
  refine RS.splitP 23 rfl (fun h23 => ?_) (fun h23 => ?_)
  ·exact absurd h23 (by omega) -- end
  ·refine rM rfl (rp (Pu.bin rfl rfl rfl) (rp (Pu.pickF rfl rfl) (RS.nil (hK6 _ _ ?_))))
   refine T.condP rfl (fun hc26 => ?_) (fun hc26 => ?_)
   ·exact absurd hc26 (by omega) -- end
   ·refine T.skip (hK5 _ _ (cq [(0, _), (6, _)] ?_))
    refine T.seq fun K7 hK7 => T.region (rM rfl (rp (Pu.convS us80 ul3 rfl (by omega)) (RS.solid (Sd.make (α := Int) (B := nilH) 0 sl23 zr3 rfl (by decide) rfl rfl (by omega) (by omega) (by omega)) rfl rfl fun b30 => rA rfl (RS.nil (hK7 _ _ (cq [(0, _), (7, _)] ?_))))))
    refine T.seq fun K8 hK8 => T.region (rM rfl (rM rfl (RS.solid (Sd.copyR 0 (o := 0) rfl sl23 rfl rfl (Rd.base hA) (by simp) (by simp only [List.length_replicate]; show 0 + min (0 + 1) n.toNat ≤ _; omega)) rfl rfl fun _ => rA rfl (RS.nil (hK8 _ _ (cq [(7, _), (8, _)] ?_))))))
    refine T.seq fun K9 hK9 => T.block ?_
    refine T.loopK (σ := Int) [(7, _)] (fun c => [(8, .int .i64 c)]) (fun c => Sat w [row nilH 3 (.slice (some ⟨b30, 0, none⟩) n.toNat n.toNat) (List.replicate c.toNat x ++ List.replicate (n - c).toNat 0)]) (fun c => 1 ≤ c ∧ c ≤ n) (fun c => (n - c).toNat) 1 (⟨by omega, by omega⟩) ⟨rfl, trivial⟩ ⟨ieq (by show ((min (0 + 1) n.toNat : Nat) : Int) = 1; omega), rfl, trivial⟩ (fun w2 s => by
     have hmn : Nat.min (0 + 1) n.toNat = 1 := by show min (0 + 1) n.toNat = 1; omega
     have s2 := s.pick (G' := [_]) [0] (by decide) rfl
     rw [hmn] at s2
     have e : List.take 0 (List.replicate n.toNat 0) ++ List.take 1 [x] ++ List.drop (0 + 1) (List.replicate n.toNat 0) = List.replicate (1 : Int).toNat x ++ List.replicate (n - 1).toNat 0 := by
      rw [List.drop_replicate, show n.toNat - (0 + 1) = (n - 1).toNat by omega]; rfl
     rw [e] at s2
     exact s2) ?_
    intro c hI K9_ hL1
    refine cq [(8, _), (7, _)] ?_
    obtain ⟨hc1, hc2⟩ := hI
    refine T.seq fun K10 hK10 => T.seq fun K11 hK11 => T.region (rM rfl (rM rfl (rp (Pu.lenSl sl23 rfl) (rp (Pu.bin rfl rfl rfl) (RS.nil (hK11 _ _ ?_))))))
    refine T.condP rfl (fun hc37 => ?_) (fun hc37 => ?_)
    ·refine T.skip (hK10 _ _ (cq [(7, _), (8, _)] ?_))
     refine T.block ?_
     refine T.drawn (fun _ => True) [(0, .pu), (1, .pu), (2, .pu), (3, .pu), (4, .pu), (5, .pu), (6, .pu), (7, .br), (8, .pu), (9, .pu)] mixed (ClE.sat _ _) (by kernel_rfl) ?_
     refine dp rfl (Pu.move rfl) (dp rfl (Pu.move rfl) (dp rfl (Pu.move rfl) (dp rfl (Pu.sliceL sl23 rfl rfl (by omega)) ?_)))
     rw [cutP_lt (by omega)]
     refine dp rfl (Pu.move rfl) (dp rfl (Pu.move rfl) (dp rfl (Pu.sliceH sl23 rfl rfl (by omega)) (RD.solid rfl (.inr rfl) rfl rfl (Sd.copyR 0 (o := c.toNat) rfl sl23 rfl rfl (fun w s => take_reads (s.getRow (k := 0) rfl (nilH_le _)) (by simp only [List.length_append, List.length_replicate]; omega)) (by simp [Enc.sz]) (by simp only [List.length_append, List.length_replicate]; show c.toNat + min c.toNat (n.toNat - c.toNat) ≤ _; omega)) (fun _ => ClE.sat _ _) (fun _ _ _ => trivial) (fun h => nomatch h) fun _ => ?_)))
     have hml : Nat.min c.toNat (n.toNat - c.toNat) ≤ c.toNat := Nat.min_le_left _ _
     refine dp rfl (Pu.addS rfl rfl (by omega)) (dp rfl (Pu.assign rfl) ?_)
     obtain ⟨m, hm⟩ : ∃ m, m = Nat.min c.toNat (n.toNat - c.toNat) := ⟨_, rfl⟩
     have hm' : m = min c.toNat (n.toNat - c.toNat) := hm
     refine RD.nil (hL1 _ _ (c + (m : Int)) ⟨by omega, by omega⟩ (by omega) ⟨by rw [hm]; rfl, rfl, trivial⟩ (fun w2 s1 => by
      have s2 := s1.pick (G' := [_]) [0] (by decide) rfl
      rw [← hm, rep_step (by omega) (by omega)] at s2
      rw [show (c + (m : Int)).toNat = c.toNat + m by omega, show (n - (c + (m : Int))).toNat = (n - c).toNat - m by omega]
      exact s2))
    ·refine T.exitTo (by with_reducible (repeat (first | exact ExTo.here | exact ExTo.hereN | exact ExTo.deep (by repeat (first | exact NmTo.seq | apply NmTo.blk)) | apply ExTo.seq | refine ExTo.past (by decide) ?_))) (hK9 _ _ (cq [(7, _)] ?_))
     refine T.seq fun K12 hK12 => T.region (rM rfl (rA rfl (RS.nil (hK12 _ _ ?_))))
     refine T.retTo (by with_reducible ((repeat (first | apply RetTo.seq | apply RetTo.blk)); exact RetTo.refl _)) (Cont.ret1 rfl rfl fun w' s => ?_)
     have hcn : c = n := by omega
     rw [hcn, show (n - n).toNat = 0 by omega, List.replicate_zero, List.append_nil] at s
     exact ⟨b30, rfl, s⟩
def slices_Repeat_Int (x : List Int) (n : Int) : Option (List Int) := if x.length = 1 ∧ 1 ≤ n ∧ n < 2147483648 then some (List.replicate n.toNat (gi x 0)) else none
theorem slices_Repeat_Int_walk (x : List Int) (n : Int) (w : World) {v0 : Value} (h0 : R (hpOf w) x [v0]) {r : List Int} (H : slices_Repeat_Int x n = some r) : Calls Tryz.prog 102 #[v0, .int .i64 n] w fun e w' => ∃ g : (Option Nat × Nat), e = .returned (rowV g r.length) ∧ Sat w [row nilH 3 (rowV g r.length) r] w' := by
 unfold slices_Repeat_Int at H
 obtain ⟨⟨hx, h1, h2⟩, H⟩ := gdE H
 obtain rfl := sj H
 obtain ⟨a, rfl⟩ : ∃ a, x = [a] := by
  match x, hx with
  | [a], _ => exact ⟨a, rfl⟩
 refine (repeatInt_calls ⟨h1, h2⟩ w h0).mono ?_
 rintro e w' ⟨b, he, hs⟩
 refine ⟨(some b, n.toNat), ?_, ?_⟩
 ·rw [he, List.length_replicate]; rfl
 ·rw [List.length_replicate]; exact hs
end Go.Proofs.YthdbofgcckjopaaGreat
