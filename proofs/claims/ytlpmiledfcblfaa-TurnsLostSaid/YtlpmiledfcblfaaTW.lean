/-
  Walks of what is written over.
-/
import Derived.Test.YtlpmiledfcblfaaRows
import Derived.Test.YtlpmiledfcblfaaTH
import Derived.Test.YtlpmiledfcblfaaV1
set_option linter.unusedVariables false
set_option linter.unusedSimpArgs false
set_option maxRecDepth 20000
set_option maxHeartbeats 4000000
namespace Go.Proofs.Ytlpmiledfcblfaa
open Go.Vg
open Enc (R)
theorem ent26 : Ent Try.prog 26 := ⟨_, _, Try.func26, by kernel_rfl, rfl⟩
theorem ent60 : Ent Try.prog 60 := ⟨_, _, Try.func60, by kernel_rfl, rfl⟩
theorem st50 : stTy Try.prog 50 = some ([.int .i64 0, .int .i64 0, .slice none 0 0], [(0, 1), (1, 1), (2, 1)]) := by kernel_rfl
theorem thronglaw0_Commands_walk {w0 : World} {F : Ch} (a0 : List Cmd) {q0 : Option Nat × Nat} {m0 : Nat} (hm : m0 = a0.length) {r : Unit} (H : thronglaw0_Commands a0 = some r) (w : World) (s : Sat w0 [drow 54 (rowV q0 m0) a0, F] w) : Calls Try.prog 26 #[rowV q0 m0] w fun e w' => e = .returned (.tuple #[]) ∧ Sat w0 [dead, F] w' := by
 subst hm
 unfold thronglaw0_Commands at H
 obtain ⟨zs, hz, s1⟩ := Sat.toN (n := 10) rfl 0 s rfl
 have hzl : (zs.map (·.2)).length = a0.length := by rw [← hz]; simp
 have s2 := s1.addPc (p := (zs.map (·.2)).length = a0.length ∧ zs.map (·.1) = a0.drop (0 : Int).toNat ∧ ∀ (k : Nat) (z : Cmd × RawN 10), zs[k]? = some z → gi (zs.map (·.2)) (0 + (k : Int)) = z.2) ⟨hzl, by simp [hz], fun k z hk => by simp [gi, List.getD, hk]⟩
 refine T.enter (args := [_]) (S := Sat w0 [row nilH 54 (rowV q0 a0.length) (List.map (fun z : Cmd × RawN 10 => z.2) zs), F, fun h => DN h zs, pc ((List.map (fun z : Cmd × RawN 10 => z.2) zs).length = a0.length ∧ zs.map (fun z : Cmd × RawN 10 => z.1) = a0.drop (0 : Int).toNat ∧ ∀ (k : Nat) (z : Cmd × RawN 10), zs[k]? = some z → gi (List.map (fun z : Cmd × RawN 10 => z.2) zs) (0 + (k : Int)) = z.2)]) Try.func26 rfl rfl s2 ?_
 refine T.seq fun K1 hK1 => ?_
 refine T.seq fun K2 hK2 => ?_
 refine T.region ?_
 refine RS.p (Pu.assign rfl) rfl rfl ?_
 refine RS.nil (hK2 _ _ ?_)
 refine T.joinE (σ := Unit) (γ := List (RawN 10)) H (fun s => s) [(0, _)] ⟨rfl, trivial⟩ (fun _ _ => []) (fun _ rs => Sat w0 [row nilH 54 (rowV q0 a0.length) rs, F, pc (rs.length = a0.length)]) ?_ ?_
 ·rintro ⟨⟩ rs H
  refine Cont.conseq (fr' := [(0, _)]) ?_ ⟨rfl, trivial⟩ (fun _ s => s)
  refine id (hK1 _ _ ?_)
  refine T.know (fun w s => s.getPc 2 rfl) fun hlr => ?_
  refine T.region ?_
  refine RS.p (Pu.move rfl) rfl rfl ?_
  refine RS.p (Pu.build (cells := [_, _, _, _, _, _, _, _, _, _]) st54 rfl rfl) rfl rfl ?_
  refine RS.solid (Sd.litS (cs := [_, _, _, _, _, _, _, _, _, _]) sl41 zr54 rfl rfl rfl rfl rfl) rfl rfl fun b3 => ?_
  obtain ⟨g5, H⟩ := gdE H
  refine RS.solid (Sd.app1c (α := RawN 10) 0 3 (⟨[.int .i64 0, .int .i64 0, .int .i64 0, .int .i64 0, .slice none 0 0, .int .i64 0, .int .i64 0, .int .i64 0, .int .i64 0, .int .i64 0], rfl, by intro u hu; simp only [List.mem_cons, List.not_mem_nil, or_false] at hu; rcases hu with rfl | rfl | rfl | rfl | rfl | rfl | rfl | rfl | rfl | rfl <;> rfl⟩ : RawN 10) rfl rfl (nilH_lt _) sl41 zr54 rfl rfl rfl rfl (by rw [hlr]; exact g5) (by decide)) rfl rfl fun q4 => ?_
  refine RS.p (Pu.assign rfl) rfl rfl ?_
  refine RS.nil (Cont.end0 rfl fun w' s => ?_)
  exact ⟨rfl, (s.deadRow).pick [4, 1] (by decide) rfl⟩
 ·intro z1 hz1 HX1 hJ1
  refine T.block ?_
  refine T.loopA (γ := List (RawN 10) × List (Cmd × RawN 10)) hz1 [(0, _)] (fun v _ => [(2, .int .i64 v)]) (fun v g => Sat w0 [row nilH 54 (rowV q0 a0.length) g.1, F, fun h => DN h g.2, pc (g.1.length = a0.length ∧ g.2.map (·.1) = a0.drop v.toNat ∧ ∀ (k : Nat) (z : Cmd × RawN 10), g.2[k]? = some z → gi g.1 (v + (k : Int)) = z.2)]) ((List.map (fun z : Cmd × RawN 10 => z.2) zs), zs) ⟨rfl, trivial⟩ ⟨rfl, trivial⟩ (fun w s => s) ?_
  rintro v ⟨rs, zs1⟩ y8 H hd1 KL1 hL1
  dsimp only at H ⊢
  refine T.conseq (fr' := [(2, _), (0, _)]) ?_ ⟨rfl, rfl, trivial⟩ (fun _ s => s)
  refine T.know (fun w s => s.getPc 3 rfl) fun hI => ?_
  obtain ⟨hlr, hzd, hzg⟩ := hI
  refine T.seq fun K3 hK3 => ?_
  refine T.seq fun K4 hK4 => ?_
  refine T.region ?_
  refine RS.p (Pu.move rfl) rfl rfl ?_
  refine RS.p (Pu.move rfl) rfl rfl ?_
  refine RS.p (Pu.lenSl sl41 rfl) rfl rfl ?_
  refine RS.p (Pu.bin rfl rfl rfl) rfl rfl ?_
  refine RS.nil (hK4 _ _ ?_)
  refine T.condP rfl (fun hc9 => ?_) (fun hc9 => ?_)
  ·have H := ifT hc9 H
   refine T.skip (hK3 _ _ (T.conseq (fr' := [(0, _), (2, _)]) ?_ ⟨rfl, rfl, trivial⟩ (fun _ s => s)))
   obtain ⟨g10, H⟩ := gdE H
   obtain ⟨x11, hx11, H⟩ := bindE H
   obtain ⟨z, zs2, rfl⟩ : ∃ z zs2, zs1 = z :: zs2 := by
    cases zs1 with
    | nil =>
     have h1 := congrArg List.length hzd
     simp at h1
     omega
    | cons z zs2 => exact ⟨z, zs2, rfl⟩
   have hge : gi rs v = z.2 := by
    have := hzg 0 z rfl
    simpa using this
   have hz1 : z.1 = gi a0 v := by
    have h1 : a0.drop v.toNat = gi a0 v :: a0.drop (v.toNat + 1) := by
     have hlt : v.toNat < a0.length := by omega
     rw [List.drop_eq_getElem_cons hlt]
     simp [gi, List.getD, hlt]
    rw [h1] at hzd
    exact (List.cons.inj hzd).1
   refine T.seq fun K5 hK5 => ?_
   refine T.block ?_
   refine T.seq fun K6 hK6 => ?_
   refine T.region ?_
   refine RS.p (Pu.move rfl) rfl rfl ?_
   refine RS.p (Pu.move rfl) rfl rfl ?_
   refine RS.know (p := ∃ g cap, q0 = (some g, cap)) (fun w s => s.row_some (k := 0) rfl (by rw [hlr]; omega)) ?_
   rintro ⟨gg12, cc13, rfl⟩
   refine RS.p (Pu.indexSl sl41 rfl rfl g10) rfl rfl ?_
   refine RS.p (Pu.fieldAddr fd54_4 rfl) rfl rfl ?_
   refine RS.exP (p := fun q : Option Nat × Nat => z.2.c = [.int .i64 z.1.player, .int .i64 z.1.seq, .int .i64 z.1.kind, .int .i64 z.1.n, rowV q z.1.units.length, .int .i64 z.1.tile, .int .i64 z.1.w, .int .i64 z.1.h, .int .i64 z.1.pos.x, .int .i64 z.1.pos.y]) (S' := fun q => Sat w0 [row nilH 54 (rowV (some gg12, cc13) a0.length) rs, F, fun h => stars [row nilH 3 (rowV q z.1.units.length) z.1.units] h, pc _, fun h => DN h zs2]) (fun w s => (s.popN 2 rfl).exAtP 2 rfl) fun q hq => ?_
   refine RS.weakS (fun w s => Sat.unstarAt (A := row nilH 3 (rowV q z.1.units.length) z.1.units) (B := stars []) 2 s rfl) ?_
   refine RS.q (Qt.ldF (α := RawN 10) (Rd.ofRowN 0 rfl) ty25 rfl rfl (by rw [hlr]; exact g10) (fun h c hc => by rw [RawN.get hc, hge, hq]; rfl)) rfl rfl ?_
   refine RS.solid (Sd.callF0 (C' := dead) (v := .tuple #[]) 2 ent60 rfl rfl (fun w s => thronglaw0_Numbers_walk z.1.units rfl (by rw [hz1]; exact hx11) w s)) rfl rfl fun _ => ?_
   refine RS.nil (hK6 _ _ (T.conseq (fr' := [(0, _), (2, _)]) ?_ ⟨rfl, rfl, trivial⟩ (fun _ s => s)))
   refine T.region ?_
   refine RS.p (Pu.move rfl) rfl rfl ?_
   refine RS.p (Pu.move rfl) rfl rfl ?_
   refine RS.p (Pu.build (cells := [_, _, _, _, _, _, _, _, _, _]) st54 rfl rfl) rfl rfl ?_
   refine RS.p (Pu.indexSl sl41 rfl rfl g10) rfl rfl ?_
   refine RS.solid (Sd.st0 (α := RawN 10) 0 (⟨[.int .i64 0, .int .i64 0, .int .i64 (-9), .int .i64 0, .slice none 0 0, .int .i64 0, .int .i64 0, .int .i64 0, .int .i64 0, .int .i64 0], rfl, by intro u hu; simp only [List.mem_cons, List.not_mem_nil, or_false] at hu; rcases hu with rfl | rfl | rfl | rfl | rfl | rfl | rfl | rfl | rfl | rfl <;> rfl⟩ : RawN 10) rfl ty54 rfl rfl rfl (by rw [hlr]; exact g10) rfl rfl (by decide) rfl (fun h c hc => by
    have hl : c.length = 10 := by rw [RawN.get hc]; exact (gi rs v).hl
    show _ = ([.int .i64 0, .int .i64 0, .int .i64 (-9), .int .i64 0, .slice none 0 0, .int .i64 0, .int .i64 0, .int .i64 0, .int .i64 0, .int .i64 0] : List Value)
    rw [List.take_zero, List.nil_append, List.drop_eq_nil_of_le (by rw [hl]; decide), List.append_nil]
    rfl)) rfl rfl fun _ => ?_
   refine RS.nil (hK5 _ _ (T.conseq (fr' := [(0, _), (2, _)]) ?_ ⟨rfl, rfl, trivial⟩ (fun _ s => s)))
   refine T.region ?_
   refine RS.p (Pu.move rfl) rfl rfl ?_
   obtain ⟨g14, H⟩ := gdE H
   refine RS.p (Pu.addS rfl rfl g14) rfl rfl ?_
   refine RS.p (Pu.assign rfl) rfl rfl ?_
   have hnx : (si rs v (⟨[.int .i64 0, .int .i64 0, .int .i64 (-9), .int .i64 0, .slice none 0 0, .int .i64 0, .int .i64 0, .int .i64 0, .int .i64 0, .int .i64 0], rfl, by intro u hu; simp only [List.mem_cons, List.not_mem_nil, or_false] at hu; rcases hu with rfl | rfl | rfl | rfl | rfl | rfl | rfl | rfl | rfl | rfl <;> rfl⟩ : RawN 10)).length = a0.length ∧ zs2.map (·.1) = a0.drop (v + 1).toNat ∧ ∀ (k : Nat) (y : Cmd × RawN 10), zs2[k]? = some y → gi (si rs v (⟨[.int .i64 0, .int .i64 0, .int .i64 (-9), .int .i64 0, .slice none 0 0, .int .i64 0, .int .i64 0, .int .i64 0, .int .i64 0, .int .i64 0], rfl, by intro u hu; simp only [List.mem_cons, List.not_mem_nil, or_false] at hu; rcases hu with rfl | rfl | rfl | rfl | rfl | rfl | rfl | rfl | rfl | rfl <;> rfl⟩ : RawN 10)) (v + 1 + (k : Int)) = y.2 := by
    refine ⟨by rw [len_si]; exact hlr, ?_, fun k y hk => ?_⟩
    ·have h2 := congrArg List.tail hzd
     rw [List.map_cons, List.tail_cons, List.tail_drop] at h2
     rw [h2, show (v + 1).toNat = v.toNat + 1 by omega]
    ·rw [gi_si_ne (by omega) (by omega) (by omega)]
     have h2 := hzg (k + 1) y (by simpa using hk)
     rw [← h2]
     congr 1
     push_cast
     omega
   refine RS.nil (hL1 _ _ (v + 1) (si rs v (⟨[.int .i64 0, .int .i64 0, .int .i64 (-9), .int .i64 0, .slice none 0 0, .int .i64 0, .int .i64 0, .int .i64 0, .int .i64 0, .int .i64 0], rfl, by intro u hu; simp only [List.mem_cons, List.not_mem_nil, or_false] at hu; rcases hu with rfl | rfl | rfl | rfl | rfl | rfl | rfl | rfl | rfl | rfl <;> rfl⟩ : RawN 10), zs2) H ⟨rfl, trivial⟩ ⟨rfl, trivial⟩ (fun w s => (s.addPc hnx).pick [0, 1, 4, 6] (by decide) rfl))
  ·have H := ifF hc9 H
   obtain rfl := hd1 _ H
   refine T.exitTo (by with_reducible (repeat (first | exact ExTo.here | exact ExTo.hereN | exact ExTo.deep (by repeat (first | exact NmTo.seq | apply NmTo.blk)) | apply ExTo.seq | refine ExTo.past (by decide) ?_))) (hJ1 _ _ () rs HX1 ⟨rfl, trivial⟩ trivial (fun w s => (s.addPc hlr).pick [0, 1, 4] (by decide) rfl))
theorem thronglaw0_Inputs_walk {w0 : World} {F : Ch} (a0 : List Inp) {q0 : Option Nat × Nat} {m0 : Nat} (hm : m0 = a0.length) {r : Unit} (H : thronglaw0_Inputs a0 = some r) (w : World) (s : Sat w0 [drow 50 (rowV q0 m0) a0, F] w) : Calls Try.prog 39 #[rowV q0 m0] w fun e w' => e = .returned (.tuple #[]) ∧ Sat w0 [dead, F] w' := by
 subst hm
 unfold thronglaw0_Inputs at H
 obtain ⟨zs, hz, s1⟩ := Sat.toN (n := 3) rfl 0 s rfl
 have hzl : (zs.map (·.2)).length = a0.length := by rw [← hz]; simp
 have s2 := s1.addPc (p := (zs.map (·.2)).length = a0.length ∧ zs.map (·.1) = a0.drop (0 : Int).toNat ∧ ∀ (k : Nat) (z : Inp × RawN 3), zs[k]? = some z → gi (zs.map (·.2)) (0 + (k : Int)) = z.2) ⟨hzl, by simp [hz], fun k z hk => by simp [gi, List.getD, hk]⟩
 refine T.enter (args := [_]) (S := Sat w0 [row nilH 50 (rowV q0 a0.length) (List.map (fun z : Inp × RawN 3 => z.2) zs), F, fun h => DN h zs, pc ((List.map (fun z : Inp × RawN 3 => z.2) zs).length = a0.length ∧ zs.map (fun z : Inp × RawN 3 => z.1) = a0.drop (0 : Int).toNat ∧ ∀ (k : Nat) (z : Inp × RawN 3), zs[k]? = some z → gi (List.map (fun z : Inp × RawN 3 => z.2) zs) (0 + (k : Int)) = z.2)]) Try.func39 rfl rfl s2 ?_
 refine T.seq fun K1 hK1 => ?_
 refine T.seq fun K2 hK2 => ?_
 refine T.region ?_
 refine RS.p (Pu.assign rfl) rfl rfl ?_
 refine RS.nil (hK2 _ _ ?_)
 refine T.joinE (σ := Unit) (γ := List (RawN 3)) H (fun s => s) [(0, _)] ⟨rfl, trivial⟩ (fun _ _ => []) (fun _ rs => Sat w0 [row nilH 50 (rowV q0 a0.length) rs, F, pc (rs.length = a0.length)]) ?_ ?_
 ·rintro ⟨⟩ rs H
  refine Cont.conseq (fr' := [(0, _)]) ?_ ⟨rfl, trivial⟩ (fun _ s => s)
  refine id (hK1 _ _ ?_)
  refine T.know (fun w s => s.getPc 2 rfl) fun hlr => ?_
  refine T.region ?_
  refine RS.p (Pu.move rfl) rfl rfl ?_
  refine RS.p (Pu.build (cells := [_, _, _]) st50 rfl rfl) rfl rfl ?_
  refine RS.solid (Sd.litS (cs := [_, _, _]) sl24 zr50 rfl rfl rfl rfl rfl) rfl rfl fun b3 => ?_
  obtain ⟨g5, H⟩ := gdE H
  refine RS.solid (Sd.app1c (α := RawN 3) 0 3 (⟨[.int .i64 0, .int .i64 0, .slice none 0 0], rfl, by intro u hu; simp only [List.mem_cons, List.not_mem_nil, or_false] at hu; rcases hu with rfl | rfl | rfl <;> rfl⟩ : RawN 3) rfl rfl (nilH_lt _) sl24 zr50 rfl rfl rfl rfl (by rw [hlr]; exact g5) (by decide)) rfl rfl fun q4 => ?_
  refine RS.p (Pu.assign rfl) rfl rfl ?_
  refine RS.nil (Cont.end0 rfl fun w' s => ?_)
  exact ⟨rfl, (s.deadRow).pick [4, 1] (by decide) rfl⟩
 ·intro z1 hz1 HX1 hJ1
  refine T.block ?_
  refine T.loopA (γ := List (RawN 3) × List (Inp × RawN 3)) hz1 [(0, _)] (fun v _ => [(2, .int .i64 v)]) (fun v g => Sat w0 [row nilH 50 (rowV q0 a0.length) g.1, F, fun h => DN h g.2, pc (g.1.length = a0.length ∧ g.2.map (·.1) = a0.drop v.toNat ∧ ∀ (k : Nat) (z : Inp × RawN 3), g.2[k]? = some z → gi g.1 (v + (k : Int)) = z.2)]) ((List.map (fun z : Inp × RawN 3 => z.2) zs), zs) ⟨rfl, trivial⟩ ⟨rfl, trivial⟩ (fun w s => s) ?_
  rintro v ⟨rs, zs1⟩ y8 H hd1 KL1 hL1
  dsimp only at H ⊢
  refine T.conseq (fr' := [(2, _), (0, _)]) ?_ ⟨rfl, rfl, trivial⟩ (fun _ s => s)
  refine T.know (fun w s => s.getPc 3 rfl) fun hI => ?_
  obtain ⟨hlr, hzd, hzg⟩ := hI
  refine T.seq fun K3 hK3 => ?_
  refine T.seq fun K4 hK4 => ?_
  refine T.region ?_
  refine RS.p (Pu.move rfl) rfl rfl ?_
  refine RS.p (Pu.move rfl) rfl rfl ?_
  refine RS.p (Pu.lenSl sl24 rfl) rfl rfl ?_
  refine RS.p (Pu.bin rfl rfl rfl) rfl rfl ?_
  refine RS.nil (hK4 _ _ ?_)
  refine T.condP rfl (fun hc9 => ?_) (fun hc9 => ?_)
  ·have H := ifT hc9 H
   refine T.skip (hK3 _ _ (T.conseq (fr' := [(0, _), (2, _)]) ?_ ⟨rfl, rfl, trivial⟩ (fun _ s => s)))
   obtain ⟨g10, H⟩ := gdE H
   obtain ⟨x11, hx11, H⟩ := bindE H
   obtain ⟨z, zs2, rfl⟩ : ∃ z zs2, zs1 = z :: zs2 := by
    cases zs1 with
    | nil =>
     have h1 := congrArg List.length hzd
     simp at h1
     omega
    | cons z zs2 => exact ⟨z, zs2, rfl⟩
   have hge : gi rs v = z.2 := by
    have := hzg 0 z rfl
    simpa using this
   have hz1 : z.1 = gi a0 v := by
    have h1 : a0.drop v.toNat = gi a0 v :: a0.drop (v.toNat + 1) := by
     have hlt : v.toNat < a0.length := by omega
     rw [List.drop_eq_getElem_cons hlt]
     simp [gi, List.getD, hlt]
    rw [h1] at hzd
    exact (List.cons.inj hzd).1
   refine T.seq fun K5 hK5 => ?_
   refine T.block ?_
   refine T.seq fun K6 hK6 => ?_
   refine T.region ?_
   refine RS.p (Pu.move rfl) rfl rfl ?_
   refine RS.p (Pu.move rfl) rfl rfl ?_
   refine RS.know (p := ∃ g cap, q0 = (some g, cap)) (fun w s => s.row_some (k := 0) rfl (by rw [hlr]; omega)) ?_
   rintro ⟨gg12, cc13, rfl⟩
   refine RS.p (Pu.indexSl sl24 rfl rfl g10) rfl rfl ?_
   refine RS.p (Pu.fieldAddr fd50_2 rfl) rfl rfl ?_
   refine RS.exP (p := fun q : Option Nat × Nat => z.2.c = [.int .i64 z.1.turn, .int .i64 z.1.player, rowV q z.1.commands.length]) (S' := fun q => Sat w0 [row nilH 50 (rowV (some gg12, cc13) a0.length) rs, F, fun h => stars [drow 54 (rowV q z.1.commands.length) z.1.commands] h, pc _, fun h => DN h zs2]) (fun w s => (s.popN 2 rfl).exAtP 2 rfl) fun q hq => ?_
   refine RS.weakS (fun w s => Sat.unstarAt (A := drow 54 (rowV q z.1.commands.length) z.1.commands) (B := stars []) 2 s rfl) ?_
   refine RS.q (Qt.ldF (α := RawN 3) (Rd.ofRowN 0 rfl) ty41 rfl rfl (by rw [hlr]; exact g10) (fun h c hc => by rw [RawN.get hc, hge, hq]; rfl)) rfl rfl ?_
   refine RS.solid (Sd.callF0 (C' := dead) (v := .tuple #[]) 2 ent26 rfl rfl (fun w s => thronglaw0_Commands_walk z.1.commands rfl (by rw [hz1]; exact hx11) w s)) rfl rfl fun _ => ?_
   refine RS.nil (hK6 _ _ (T.conseq (fr' := [(0, _), (2, _)]) ?_ ⟨rfl, rfl, trivial⟩ (fun _ s => s)))
   refine T.region ?_
   refine RS.p (Pu.move rfl) rfl rfl ?_
   refine RS.p (Pu.move rfl) rfl rfl ?_
   refine RS.p (Pu.build (cells := [_, _, _]) st50 rfl rfl) rfl rfl ?_
   refine RS.p (Pu.indexSl sl24 rfl rfl g10) rfl rfl ?_
   refine RS.solid (Sd.st0 (α := RawN 3) 0 (⟨[.int .i64 (-9), .int .i64 0, .slice none 0 0], rfl, by intro u hu; simp only [List.mem_cons, List.not_mem_nil, or_false] at hu; rcases hu with rfl | rfl | rfl <;> rfl⟩ : RawN 3) rfl ty50 rfl rfl rfl (by rw [hlr]; exact g10) rfl rfl (by decide) rfl (fun h c hc => by
    have hl : c.length = 3 := by rw [RawN.get hc]; exact (gi rs v).hl
    show _ = ([.int .i64 (-9), .int .i64 0, .slice none 0 0] : List Value)
    rw [List.take_zero, List.nil_append, List.drop_eq_nil_of_le (by rw [hl]; decide), List.append_nil]
    rfl)) rfl rfl fun _ => ?_
   refine RS.nil (hK5 _ _ (T.conseq (fr' := [(0, _), (2, _)]) ?_ ⟨rfl, rfl, trivial⟩ (fun _ s => s)))
   refine T.region ?_
   refine RS.p (Pu.move rfl) rfl rfl ?_
   obtain ⟨g14, H⟩ := gdE H
   refine RS.p (Pu.addS rfl rfl g14) rfl rfl ?_
   refine RS.p (Pu.assign rfl) rfl rfl ?_
   have hnx : (si rs v (⟨[.int .i64 (-9), .int .i64 0, .slice none 0 0], rfl, by intro u hu; simp only [List.mem_cons, List.not_mem_nil, or_false] at hu; rcases hu with rfl | rfl | rfl <;> rfl⟩ : RawN 3)).length = a0.length ∧ zs2.map (·.1) = a0.drop (v + 1).toNat ∧ ∀ (k : Nat) (y : Inp × RawN 3), zs2[k]? = some y → gi (si rs v (⟨[.int .i64 (-9), .int .i64 0, .slice none 0 0], rfl, by intro u hu; simp only [List.mem_cons, List.not_mem_nil, or_false] at hu; rcases hu with rfl | rfl | rfl <;> rfl⟩ : RawN 3)) (v + 1 + (k : Int)) = y.2 := by
    refine ⟨by rw [len_si]; exact hlr, ?_, fun k y hk => ?_⟩
    ·have h2 := congrArg List.tail hzd
     rw [List.map_cons, List.tail_cons, List.tail_drop] at h2
     rw [h2, show (v + 1).toNat = v.toNat + 1 by omega]
    ·rw [gi_si_ne (by omega) (by omega) (by omega)]
     have h2 := hzg (k + 1) y (by simpa using hk)
     rw [← h2]
     congr 1
     push_cast
     omega
   refine RS.nil (hL1 _ _ (v + 1) (si rs v (⟨[.int .i64 (-9), .int .i64 0, .slice none 0 0], rfl, by intro u hu; simp only [List.mem_cons, List.not_mem_nil, or_false] at hu; rcases hu with rfl | rfl | rfl <;> rfl⟩ : RawN 3), zs2) H ⟨rfl, trivial⟩ ⟨rfl, trivial⟩ (fun w s => (s.addPc hnx).pick [0, 1, 4, 6] (by decide) rfl))
  ·have H := ifF hc9 H
   obtain rfl := hd1 _ H
   refine T.exitTo (by with_reducible (repeat (first | exact ExTo.here | exact ExTo.hereN | exact ExTo.deep (by repeat (first | exact NmTo.seq | apply NmTo.blk)) | apply ExTo.seq | refine ExTo.past (by decide) ?_))) (hJ1 _ _ () rs HX1 ⟨rfl, trivial⟩ trivial (fun w s => (s.addPc hlr).pick [0, 1, 4] (by decide) rfl))
end Go.Proofs.Ytlpmiledfcblfaa
