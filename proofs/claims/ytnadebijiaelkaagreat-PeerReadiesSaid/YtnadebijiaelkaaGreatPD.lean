/-
  Walks of what is written over.
-/
import Derived.Test.YtnadebijiaelkaaGreatRows
import Derived.Test.YtnadebijiaelkaaGreatW3
import Derived.Test.YtnadebijiaelkaaGreatPC
set_option linter.unusedVariables false
set_option linter.unusedSimpArgs false
set_option maxRecDepth 20000
set_option maxHeartbeats 4000000
namespace Go.Proofs.YtnadebijiaelkaaGreat
open Go.Vg
open Enc (R)
theorem thronglaw0_Commands_walk {w0 : World} {F : Ch} (a0 : List Cmd) {q0 : Option Nat × Nat} {m0 : Nat} (hm : m0 = a0.length) {r : Unit} (H : thronglaw0_Commands a0 = some r) (w : World) (s : Sat w0 [drow 88 (rowV q0 m0) a0, F] w) : Calls Tryz.prog 33 #[rowV q0 m0] w fun e w' => e = .returned (.tuple #[]) ∧ Sat w0 [dead, F] w' := by
 subst hm
 unfold thronglaw0_Commands at H
 obtain ⟨zs, hz, s1⟩ := Sat.toN (n := 10) rfl 0 s rfl
 have hzl : (zs.map (·.2)).length = a0.length := by rw [← hz]; simp
 have s2 := s1.addPc (p := (zs.map (·.2)).length = a0.length ∧ zs.map (·.1) = a0.drop (0 : Int).toNat ∧ ∀ (k : Nat) (z : Cmd × RawN 10), zs[k]? = some z → gi (zs.map (·.2)) (0 + (k : Int)) = z.2) ⟨hzl, by simp [hz], fun k z hk => by simp [gi, List.getD, hk]⟩
 refine T.enter (args := [_]) (S := Sat w0 [row nilH 88 (rowV q0 a0.length) (List.map (fun z : Cmd × RawN 10 => z.2) zs), F, fun h => DN h zs, pc ((List.map (fun z : Cmd × RawN 10 => z.2) zs).length = a0.length ∧ zs.map (fun z : Cmd × RawN 10 => z.1) = a0.drop (0 : Int).toNat ∧ ∀ (k : Nat) (z : Cmd × RawN 10), zs[k]? = some z → gi (List.map (fun z : Cmd × RawN 10 => z.2) zs) (0 + (k : Int)) = z.2)]) Tryz.func33 rfl rfl s2 ?_
 refine T.seq fun K1 hK1 => T.seq fun K2 hK2 => T.region (rA rfl (RS.nil (hK2 _ _ ?_)))
 refine T.joinE (σ := Unit) (γ := List (RawN 10)) H (fun s => s) [(0, _)] ⟨rfl, trivial⟩ (fun _ _ => []) (fun _ rs => Sat w0 [row nilH 88 (rowV q0 a0.length) rs, F, pc (rs.length = a0.length)]) ?_ ?_
 ·rintro ⟨⟩ rs H
  refine Cont.conseq (fr' := [(0, _)]) ?_ ⟨rfl, trivial⟩ (fun _ s => s)
  refine id (hK1 _ _ ?_)
  refine T.know (fun w s => s.getPc 2 rfl) fun hlr => ?_
  refine T.region (rM rfl (rp (Pu.build (cells := [_, _, _, _, _, _, _, _, _, _]) st88 rfl rfl) (RS.solid (Sd.litS (cs := [_, _, _, _, _, _, _, _, _, _]) sl39 zr88 rfl rfl rfl rfl rfl) rfl rfl fun b3 => ?_)))
  obtain ⟨g5, H⟩ := gdE H
  refine RS.solid (Sd.app1c (α := RawN 10) 0 3 (⟨[.int .i64 0, .int .i64 0, .int .i64 0, .int .i64 0, .slice none 0 0, .int .i64 0, .int .i64 0, .int .i64 0, .int .i64 0, .int .i64 0], rfl, by intro u hu; simp only [List.mem_cons, List.not_mem_nil, or_false] at hu; rcases hu with rfl | rfl | rfl | rfl | rfl | rfl | rfl | rfl | rfl | rfl <;> rfl⟩ : RawN 10) rfl rfl (nilH_lt _) sl39 zr88 rfl rfl rfl rfl (by rw [hlr]; exact g5) (by decide)) rfl rfl fun q4 => rA rfl (RS.nil (Cont.end0 rfl fun w' s => ?_))
  exact ⟨rfl, (s.deadRow).pick [4, 1] (by decide) rfl⟩
 ·intro z1 hz1 HX1 hJ1
  refine T.block ?_
  refine T.loopA (γ := List (RawN 10) × List (Cmd × RawN 10)) hz1 [(0, _)] (fun v _ => [(2, .int .i64 v)]) (fun v g => Sat w0 [row nilH 88 (rowV q0 a0.length) g.1, F, fun h => DN h g.2, pc (g.1.length = a0.length ∧ g.2.map (·.1) = a0.drop v.toNat ∧ ∀ (k : Nat) (z : Cmd × RawN 10), g.2[k]? = some z → gi g.1 (v + (k : Int)) = z.2)]) ((List.map (fun z : Cmd × RawN 10 => z.2) zs), zs) ⟨rfl, trivial⟩ ⟨rfl, trivial⟩ (fun w s => s) ?_
  rintro v ⟨rs, zs1⟩ y8 H hd1 KL1 hL1
  dsimp only at H ⊢
  refine cq [(2, _), (0, _)] ?_
  refine T.know (fun w s => s.getPc 3 rfl) fun hI => ?_
  obtain ⟨hlr, hzd, hzg⟩ := hI
  refine T.seq fun K3 hK3 => T.seq fun K4 hK4 => T.region (rM rfl (rM rfl (rp (Pu.lenSl sl39 rfl) (rp (Pu.bin rfl rfl rfl) (RS.nil (hK4 _ _ ?_))))))
  refine T.condP rfl (fun hc9 => ?_) (fun hc9 => ?_)
  ·have H := ifT hc9 H
   refine T.skip (hK3 _ _ (cq [(0, _), (2, _)] ?_))
   obtain ⟨g10, H⟩ := gdE H
   obtain ⟨x11, hx11, H⟩ := bindE H
   obtain ⟨z, zs2, rfl⟩ : ∃ z zs2, zs1 = z :: zs2 := by
    cases zs1 with
    | nil =>
     have h1 := congrArg List.length hzd
     simp at h1
     omega
    | cons z zs2 => exact ⟨z, zs2, rfl⟩
   have hge : gi rs v = z.2 := by
    have := hzg 0 z rfl
    simpa using this
   have hz1 : z.1 = gi a0 v := by
    have h1 : a0.drop v.toNat = gi a0 v :: a0.drop (v.toNat + 1) := by
     have hlt : v.toNat < a0.length := by omega
     rw [List.drop_eq_getElem_cons hlt]
     simp [gi, List.getD, hlt]
    rw [h1] at hzd
    exact (List.cons.inj hzd).1
   refine T.seq fun K5 hK5 => T.block (T.seq fun K6 hK6 => T.region (rM rfl (rM rfl ?_)))
   refine RS.know (p := ∃ g cap, q0 = (some g, cap)) (fun w s => s.row_some (k := 0) rfl (by rw [hlr]; omega)) ?_
   rintro ⟨gg12, cc13, rfl⟩
   refine rp (Pu.indexSl sl39 rfl rfl g10) (rp (Pu.fieldAddr fd88_4 rfl) ?_)
   refine RS.exP (p := fun q : Option Nat × Nat => z.2.c = [.int .i64 z.1.player, .int .i64 z.1.seq, .int .i64 z.1.kind, .int .i64 z.1.n, rowV q z.1.units.length, .int .i64 z.1.tile, .int .i64 z.1.w, .int .i64 z.1.h, .int .i64 z.1.pos.x, .int .i64 z.1.pos.y]) (S' := fun q => Sat w0 [row nilH 88 (rowV (some gg12, cc13) a0.length) rs, F, fun h => stars [row nilH 3 (rowV q z.1.units.length) z.1.units] h, pc _, fun h => DN h zs2]) (fun w s => (s.popN 2 rfl).exAtP 2 rfl) fun q hq => ?_
   refine RS.weakS (fun w s => Sat.unstarAt (A := row nilH 3 (rowV q z.1.units.length) z.1.units) (B := stars []) 2 s rfl) ?_
   refine rq (Qt.ldF (α := RawN 10) (f := 4) (Rd.ofRowN 0 rfl) ty23 rfl rfl (by rw [hlr]; exact g10) (fun h c hc => by rw [RawN.get hc, hge, hq]; rfl)) (RS.solid (Sd.callF0 (C' := dead) (v := .tuple #[]) 2 ent66 rfl rfl (fun w s => thronglaw0_Numbers_walk z.1.units rfl (by rw [hz1]; exact hx11) w s)) rfl rfl fun _ => RS.nil (hK6 _ _ (cq [(0, _), (2, _)] ?_)))
   refine T.region (rM rfl (rM rfl (rp (Pu.build (cells := [_, _, _, _, _, _, _, _, _, _]) st88 rfl rfl) (rp (Pu.indexSl sl39 rfl rfl g10) ?_))))
   refine RS.solid (Sd.st0 (α := RawN 10) 0 (⟨[.int .i64 0, .int .i64 0, .int .i64 (-9), .int .i64 0, .slice none 0 0, .int .i64 0, .int .i64 0, .int .i64 0, .int .i64 0, .int .i64 0], rfl, by intro u hu; simp only [List.mem_cons, List.not_mem_nil, or_false] at hu; rcases hu with rfl | rfl | rfl | rfl | rfl | rfl | rfl | rfl | rfl | rfl <;> rfl⟩ : RawN 10) rfl ty88 rfl rfl rfl (by rw [hlr]; exact g10) rfl rfl (by decide) rfl (fun h c hc => by
    have hl : c.length = 10 := by rw [RawN.get hc]; exact (gi rs v).hl
    show _ = ([.int .i64 0, .int .i64 0, .int .i64 (-9), .int .i64 0, .slice none 0 0, .int .i64 0, .int .i64 0, .int .i64 0, .int .i64 0, .int .i64 0] : List Value)
    rw [List.take_zero, List.nil_append, List.drop_eq_nil_of_le (by rw [hl]; decide), List.append_nil]
    rfl)) rfl rfl fun _ => ?_
   refine RS.nil (hK5 _ _ (cq [(0, _), (2, _)] ?_))
   refine T.region (rM rfl ?_)
   obtain ⟨g14, H⟩ := gdE H
   refine rp (Pu.addS rfl rfl g14) (rA rfl ?_)
   have hnx : (si rs v (⟨[.int .i64 0, .int .i64 0, .int .i64 (-9), .int .i64 0, .slice none 0 0, .int .i64 0, .int .i64 0, .int .i64 0, .int .i64 0, .int .i64 0], rfl, by intro u hu; simp only [List.mem_cons, List.not_mem_nil, or_false] at hu; rcases hu with rfl | rfl | rfl | rfl | rfl | rfl | rfl | rfl | rfl | rfl <;> rfl⟩ : RawN 10)).length = a0.length ∧ zs2.map (·.1) = a0.drop (v + 1).toNat ∧ ∀ (k : Nat) (y : Cmd × RawN 10), zs2[k]? = some y → gi (si rs v (⟨[.int .i64 0, .int .i64 0, .int .i64 (-9), .int .i64 0, .slice none 0 0, .int .i64 0, .int .i64 0, .int .i64 0, .int .i64 0, .int .i64 0], rfl, by intro u hu; simp only [List.mem_cons, List.not_mem_nil, or_false] at hu; rcases hu with rfl | rfl | rfl | rfl | rfl | rfl | rfl | rfl | rfl | rfl <;> rfl⟩ : RawN 10)) (v + 1 + (k : Int)) = y.2 := by
    refine ⟨by rw [len_si]; exact hlr, ?_, fun k y hk => ?_⟩
    ·have h2 := congrArg List.tail hzd
     rw [List.map_cons, List.tail_cons, List.tail_drop] at h2
     rw [h2, show (v + 1).toNat = v.toNat + 1 by omega]
    ·rw [gi_si_ne (by omega) (by omega) (by omega)]
     have h2 := hzg (k + 1) y (by simpa using hk)
     rw [← h2]
     congr 1
     push_cast
     omega
   refine RS.nil (hL1 _ _ (v + 1) (si rs v (⟨[.int .i64 0, .int .i64 0, .int .i64 (-9), .int .i64 0, .slice none 0 0, .int .i64 0, .int .i64 0, .int .i64 0, .int .i64 0, .int .i64 0], rfl, by intro u hu; simp only [List.mem_cons, List.not_mem_nil, or_false] at hu; rcases hu with rfl | rfl | rfl | rfl | rfl | rfl | rfl | rfl | rfl | rfl <;> rfl⟩ : RawN 10), zs2) H ⟨rfl, trivial⟩ ⟨rfl, trivial⟩ (fun w s => (s.addPc hnx).pick [0, 1, 4, 6] (by decide) rfl))
  ·have H := ifF hc9 H
   obtain rfl := hd1 _ H
   refine T.exitTo (by with_reducible (repeat (first | exact ExTo.here | exact ExTo.hereN | exact ExTo.deep (by repeat (first | exact NmTo.seq | apply NmTo.blk)) | apply ExTo.seq | refine ExTo.past (by decide) ?_))) (hJ1 _ _ () rs HX1 ⟨rfl, trivial⟩ trivial (fun w s => (s.addPc hlr).pick [0, 1, 4] (by decide) rfl))
theorem thronglaw0_Inputs_walk {w0 : World} {F : Ch} (a0 : List Inp) {q0 : Option Nat × Nat} {m0 : Nat} (hm : m0 = a0.length) {r : Unit} (H : thronglaw0_Inputs a0 = some r) (w : World) (s : Sat w0 [drow 41 (rowV q0 m0) a0, F] w) : Calls Tryz.prog 81 #[rowV q0 m0] w fun e w' => e = .returned (.tuple #[]) ∧ Sat w0 [dead, F] w' := by
 subst hm
 unfold thronglaw0_Inputs at H
 obtain ⟨zs, hz, s1⟩ := Sat.toN (n := 3) rfl 0 s rfl
 have hzl : (zs.map (·.2)).length = a0.length := by rw [← hz]; simp
 have s2 := s1.addPc (p := (zs.map (·.2)).length = a0.length ∧ zs.map (·.1) = a0.drop (0 : Int).toNat ∧ ∀ (k : Nat) (z : Inp × RawN 3), zs[k]? = some z → gi (zs.map (·.2)) (0 + (k : Int)) = z.2) ⟨hzl, by simp [hz], fun k z hk => by simp [gi, List.getD, hk]⟩
 refine T.enter (args := [_]) (S := Sat w0 [row nilH 41 (rowV q0 a0.length) (List.map (fun z : Inp × RawN 3 => z.2) zs), F, fun h => DN h zs, pc ((List.map (fun z : Inp × RawN 3 => z.2) zs).length = a0.length ∧ zs.map (fun z : Inp × RawN 3 => z.1) = a0.drop (0 : Int).toNat ∧ ∀ (k : Nat) (z : Inp × RawN 3), zs[k]? = some z → gi (List.map (fun z : Inp × RawN 3 => z.2) zs) (0 + (k : Int)) = z.2)]) Tryz.func81 rfl rfl s2 ?_
 refine T.seq fun K1 hK1 => T.seq fun K2 hK2 => T.region (rA rfl (RS.nil (hK2 _ _ ?_)))
 refine T.joinE (σ := Unit) (γ := List (RawN 3)) H (fun s => s) [(0, _)] ⟨rfl, trivial⟩ (fun _ _ => []) (fun _ rs => Sat w0 [row nilH 41 (rowV q0 a0.length) rs, F, pc (rs.length = a0.length)]) ?_ ?_
 ·rintro ⟨⟩ rs H
  refine Cont.conseq (fr' := [(0, _)]) ?_ ⟨rfl, trivial⟩ (fun _ s => s)
  refine id (hK1 _ _ ?_)
  refine T.know (fun w s => s.getPc 2 rfl) fun hlr => ?_
  refine T.region (rM rfl (rp (Pu.build (cells := [_, _, _]) st41 rfl rfl) (RS.solid (Sd.litS (cs := [_, _, _]) sl22 zr41 rfl rfl rfl rfl rfl) rfl rfl fun b3 => ?_)))
  obtain ⟨g5, H⟩ := gdE H
  refine RS.solid (Sd.app1c (α := RawN 3) 0 3 (⟨[.int .i64 0, .int .i64 0, .slice none 0 0], rfl, by intro u hu; simp only [List.mem_cons, List.not_mem_nil, or_false] at hu; rcases hu with rfl | rfl | rfl <;> rfl⟩ : RawN 3) rfl rfl (nilH_lt _) sl22 zr41 rfl rfl rfl rfl (by rw [hlr]; exact g5) (by decide)) rfl rfl fun q4 => rA rfl (RS.nil (Cont.end0 rfl fun w' s => ?_))
  exact ⟨rfl, (s.deadRow).pick [4, 1] (by decide) rfl⟩
 ·intro z1 hz1 HX1 hJ1
  refine T.block ?_
  refine T.loopA (γ := List (RawN 3) × List (Inp × RawN 3)) hz1 [(0, _)] (fun v _ => [(2, .int .i64 v)]) (fun v g => Sat w0 [row nilH 41 (rowV q0 a0.length) g.1, F, fun h => DN h g.2, pc (g.1.length = a0.length ∧ g.2.map (·.1) = a0.drop v.toNat ∧ ∀ (k : Nat) (z : Inp × RawN 3), g.2[k]? = some z → gi g.1 (v + (k : Int)) = z.2)]) ((List.map (fun z : Inp × RawN 3 => z.2) zs), zs) ⟨rfl, trivial⟩ ⟨rfl, trivial⟩ (fun w s => s) ?_
  rintro v ⟨rs, zs1⟩ y8 H hd1 KL1 hL1
  dsimp only at H ⊢
  refine cq [(2, _), (0, _)] ?_
  refine T.know (fun w s => s.getPc 3 rfl) fun hI => ?_
  obtain ⟨hlr, hzd, hzg⟩ := hI
  refine T.seq fun K3 hK3 => T.seq fun K4 hK4 => T.region (rM rfl (rM rfl (rp (Pu.lenSl sl22 rfl) (rp (Pu.bin rfl rfl rfl) (RS.nil (hK4 _ _ ?_))))))
  refine T.condP rfl (fun hc9 => ?_) (fun hc9 => ?_)
  ·have H := ifT hc9 H
   refine T.skip (hK3 _ _ (cq [(0, _), (2, _)] ?_))
   obtain ⟨g10, H⟩ := gdE H
   obtain ⟨x11, hx11, H⟩ := bindE H
   obtain ⟨z, zs2, rfl⟩ : ∃ z zs2, zs1 = z :: zs2 := by
    cases zs1 with
    | nil =>
     have h1 := congrArg List.length hzd
     simp at h1
     omega
    | cons z zs2 => exact ⟨z, zs2, rfl⟩
   have hge : gi rs v = z.2 := by
    have := hzg 0 z rfl
    simpa using this
   have hz1 : z.1 = gi a0 v := by
    have h1 : a0.drop v.toNat = gi a0 v :: a0.drop (v.toNat + 1) := by
     have hlt : v.toNat < a0.length := by omega
     rw [List.drop_eq_getElem_cons hlt]
     simp [gi, List.getD, hlt]
    rw [h1] at hzd
    exact (List.cons.inj hzd).1
   refine T.seq fun K5 hK5 => T.block (T.seq fun K6 hK6 => T.region (rM rfl (rM rfl ?_)))
   refine RS.know (p := ∃ g cap, q0 = (some g, cap)) (fun w s => s.row_some (k := 0) rfl (by rw [hlr]; omega)) ?_
   rintro ⟨gg12, cc13, rfl⟩
   refine rp (Pu.indexSl sl22 rfl rfl g10) (rp (Pu.fieldAddr fd41_2 rfl) ?_)
   refine RS.exP (p := fun q : Option Nat × Nat => z.2.c = [.int .i64 z.1.turn, .int .i64 z.1.player, rowV q z.1.commands.length]) (S' := fun q => Sat w0 [row nilH 41 (rowV (some gg12, cc13) a0.length) rs, F, fun h => stars [drow 88 (rowV q z.1.commands.length) z.1.commands] h, pc _, fun h => DN h zs2]) (fun w s => (s.popN 2 rfl).exAtP 2 rfl) fun q hq => ?_
   refine RS.weakS (fun w s => Sat.unstarAt (A := drow 88 (rowV q z.1.commands.length) z.1.commands) (B := stars []) 2 s rfl) ?_
   refine rq (Qt.ldF (α := RawN 3) (f := 2) (Rd.ofRowN 0 rfl) ty39 rfl rfl (by rw [hlr]; exact g10) (fun h c hc => by rw [RawN.get hc, hge, hq]; rfl)) (RS.solid (Sd.callF0 (C' := dead) (v := .tuple #[]) 2 ent33 rfl rfl (fun w s => thronglaw0_Commands_walk z.1.commands rfl (by rw [hz1]; exact hx11) w s)) rfl rfl fun _ => RS.nil (hK6 _ _ (cq [(0, _), (2, _)] ?_)))
   refine T.region (rM rfl (rM rfl (rp (Pu.build (cells := [_, _, _]) st41 rfl rfl) (rp (Pu.indexSl sl22 rfl rfl g10) ?_))))
   refine RS.solid (Sd.st0 (α := RawN 3) 0 (⟨[.int .i64 (-9), .int .i64 0, .slice none 0 0], rfl, by intro u hu; simp only [List.mem_cons, List.not_mem_nil, or_false] at hu; rcases hu with rfl | rfl | rfl <;> rfl⟩ : RawN 3) rfl ty41 rfl rfl rfl (by rw [hlr]; exact g10) rfl rfl (by decide) rfl (fun h c hc => by
    have hl : c.length = 3 := by rw [RawN.get hc]; exact (gi rs v).hl
    show _ = ([.int .i64 (-9), .int .i64 0, .slice none 0 0] : List Value)
    rw [List.take_zero, List.nil_append, List.drop_eq_nil_of_le (by rw [hl]; decide), List.append_nil]
    rfl)) rfl rfl fun _ => ?_
   refine RS.nil (hK5 _ _ (cq [(0, _), (2, _)] ?_))
   refine T.region (rM rfl ?_)
   obtain ⟨g14, H⟩ := gdE H
   refine rp (Pu.addS rfl rfl g14) (rA rfl ?_)
   have hnx : (si rs v (⟨[.int .i64 (-9), .int .i64 0, .slice none 0 0], rfl, by intro u hu; simp only [List.mem_cons, List.not_mem_nil, or_false] at hu; rcases hu with rfl | rfl | rfl <;> rfl⟩ : RawN 3)).length = a0.length ∧ zs2.map (·.1) = a0.drop (v + 1).toNat ∧ ∀ (k : Nat) (y : Inp × RawN 3), zs2[k]? = some y → gi (si rs v (⟨[.int .i64 (-9), .int .i64 0, .slice none 0 0], rfl, by intro u hu; simp only [List.mem_cons, List.not_mem_nil, or_false] at hu; rcases hu with rfl | rfl | rfl <;> rfl⟩ : RawN 3)) (v + 1 + (k : Int)) = y.2 := by
    refine ⟨by rw [len_si]; exact hlr, ?_, fun k y hk => ?_⟩
    ·have h2 := congrArg List.tail hzd
     rw [List.map_cons, List.tail_cons, List.tail_drop] at h2
     rw [h2, show (v + 1).toNat = v.toNat + 1 by omega]
    ·rw [gi_si_ne (by omega) (by omega) (by omega)]
     have h2 := hzg (k + 1) y (by simpa using hk)
     rw [← h2]
     congr 1
     push_cast
     omega
   refine RS.nil (hL1 _ _ (v + 1) (si rs v (⟨[.int .i64 (-9), .int .i64 0, .slice none 0 0], rfl, by intro u hu; simp only [List.mem_cons, List.not_mem_nil, or_false] at hu; rcases hu with rfl | rfl | rfl <;> rfl⟩ : RawN 3), zs2) H ⟨rfl, trivial⟩ ⟨rfl, trivial⟩ (fun w s => (s.addPc hnx).pick [0, 1, 4, 6] (by decide) rfl))
  ·have H := ifF hc9 H
   obtain rfl := hd1 _ H
   refine T.exitTo (by with_reducible (repeat (first | exact ExTo.here | exact ExTo.hereN | exact ExTo.deep (by repeat (first | exact NmTo.seq | apply NmTo.blk)) | apply ExTo.seq | refine ExTo.past (by decide) ?_))) (hJ1 _ _ () rs HX1 ⟨rfl, trivial⟩ trivial (fun w s => (s.addPc hlr).pick [0, 1, 4] (by decide) rfl))
theorem thronglaw0_Notes_walk {w0 : World} {F : Ch} (a0 : List Nte) {q0 : Option Nat × Nat} {m0 : Nat} (hm : m0 = a0.length) {r : Unit} (H : thronglaw0_Notes a0 = some r) (w : World) (s : Sat w0 [drow 44 (rowV q0 m0) a0, F] w) : Calls Tryz.prog 38 #[rowV q0 m0] w fun e w' => e = .returned (.tuple #[]) ∧ Sat w0 [dead, F] w' := by
 subst hm
 unfold thronglaw0_Notes at H
 obtain ⟨zs, hz, s1⟩ := Sat.toN (n := 8) rfl 0 s rfl
 have hzl : (zs.map (·.2)).length = a0.length := by rw [← hz]; simp
 have s2 := s1.addPc (p := (zs.map (·.2)).length = a0.length ∧ zs.map (·.1) = a0.drop (0 : Int).toNat ∧ ∀ (k : Nat) (z : Nte × RawN 8), zs[k]? = some z → gi (zs.map (·.2)) (0 + (k : Int)) = z.2) ⟨hzl, by simp [hz], fun k z hk => by simp [gi, List.getD, hk]⟩
 refine T.enter (args := [_]) (S := Sat w0 [row nilH 44 (rowV q0 a0.length) (List.map (fun z : Nte × RawN 8 => z.2) zs), F, fun h => DN h zs, pc ((List.map (fun z : Nte × RawN 8 => z.2) zs).length = a0.length ∧ zs.map (fun z : Nte × RawN 8 => z.1) = a0.drop (0 : Int).toNat ∧ ∀ (k : Nat) (z : Nte × RawN 8), zs[k]? = some z → gi (List.map (fun z : Nte × RawN 8 => z.2) zs) (0 + (k : Int)) = z.2)]) Tryz.func38 rfl rfl s2 ?_
 refine T.seq fun K1 hK1 => T.region (rA rfl (RS.nil (hK1 _ _ ?_)))
 refine T.joinE (σ := Unit) (γ := List (RawN 8)) H (fun s => s) [(0, _)] ⟨rfl, trivial⟩ (fun _ _ => []) (fun _ rs => Sat w0 [row nilH 44 (rowV q0 a0.length) rs, F, pc (rs.length = a0.length)]) ?_ ?_
 ·rintro ⟨⟩ rs H
  refine Cont.conseq (fr' := []) ?_ trivial (fun _ s => s)
  obtain rfl := sj H
  refine id (Cont.end0 rfl fun w' s => ?_)
  exact ⟨rfl, (s.deadRow).pick [3, 1] (by decide) rfl⟩
 ·intro z1 hz1 HX1 hJ1
  refine T.block ?_
  refine T.loopA (γ := List (RawN 8) × List (Nte × RawN 8)) hz1 [(0, _)] (fun v _ => [(2, .int .i64 v)]) (fun v g => Sat w0 [row nilH 44 (rowV q0 a0.length) g.1, F, fun h => DN h g.2, pc (g.1.length = a0.length ∧ g.2.map (·.1) = a0.drop v.toNat ∧ ∀ (k : Nat) (z : Nte × RawN 8), g.2[k]? = some z → gi g.1 (v + (k : Int)) = z.2)]) ((List.map (fun z : Nte × RawN 8 => z.2) zs), zs) ⟨rfl, trivial⟩ ⟨rfl, trivial⟩ (fun w s => s) ?_
  rintro v ⟨rs, zs1⟩ y8 H hd1 KL1 hL1
  dsimp only at H ⊢
  refine cq [(2, _), (0, _)] ?_
  refine T.know (fun w s => s.getPc 3 rfl) fun hI => ?_
  obtain ⟨hlr, hzd, hzg⟩ := hI
  refine T.seq fun K3 hK3 => T.seq fun K4 hK4 => T.region (rM rfl (rM rfl (rp (Pu.lenSl sl66 rfl) (rp (Pu.bin rfl rfl rfl) (RS.nil (hK4 _ _ ?_))))))
  refine T.condP rfl (fun hc9 => ?_) (fun hc9 => ?_)
  ·have H := ifT hc9 H
   refine T.skip (hK3 _ _ (cq [(0, _), (2, _)] ?_))
   obtain ⟨g10, H⟩ := gdE H
   obtain ⟨x11, hx11, H⟩ := bindE H
   obtain ⟨z, zs2, rfl⟩ : ∃ z zs2, zs1 = z :: zs2 := by
    cases zs1 with
    | nil =>
     have h1 := congrArg List.length hzd
     simp at h1
     omega
    | cons z zs2 => exact ⟨z, zs2, rfl⟩
   have hge : gi rs v = z.2 := by
    have := hzg 0 z rfl
    simpa using this
   have hz1 : z.1 = gi a0 v := by
    have h1 : a0.drop v.toNat = gi a0 v :: a0.drop (v.toNat + 1) := by
     have hlt : v.toNat < a0.length := by omega
     rw [List.drop_eq_getElem_cons hlt]
     simp [gi, List.getD, hlt]
    rw [h1] at hzd
    exact (List.cons.inj hzd).1
   refine T.seq fun K5 hK5 => T.block (T.seq fun K6 hK6 => T.region (rM rfl (rM rfl ?_)))
   refine RS.know (p := ∃ g cap, q0 = (some g, cap)) (fun w s => s.row_some (k := 0) rfl (by rw [hlr]; omega)) ?_
   rintro ⟨gg12, cc13, rfl⟩
   refine rp (Pu.indexSl sl66 rfl rfl g10) (rp (Pu.fieldAddr fd44_2 rfl) (rp (Pu.fieldAddr fd41_2 rfl) ?_))
   refine RS.exP (p := fun q : Option Nat × Nat => z.2.c = [.int .i64 z.1.frm, .int .i64 z.1.dst, .int .i64 z.1.input.turn, .int .i64 z.1.input.player, rowV q z.1.input.commands.length, .int .i64 z.1.don, .int .u64 (z.1.hash.toNat : Int), .int .i64 z.1.hav]) (S' := fun q => Sat w0 [row nilH 44 (rowV (some gg12, cc13) a0.length) rs, F, fun h => stars [drow 88 (rowV q z.1.input.commands.length) z.1.input.commands] h, pc _, fun h => DN h zs2]) (fun w s => (s.popN 2 rfl).exAtP 2 rfl) fun q hq => ?_
   refine RS.weakS (fun w s => Sat.unstarAt (A := drow 88 (rowV q z.1.input.commands.length) z.1.input.commands) (B := stars []) 2 s rfl) ?_
   refine rq (Qt.ldF (α := RawN 8) (f := 4) (Rd.ofRowN 0 rfl) ty39 rfl rfl (by rw [hlr]; exact g10) (fun h c hc => by rw [RawN.get hc, hge, hq]; rfl)) (RS.solid (Sd.callF0 (C' := dead) (v := .tuple #[]) 2 ent33 rfl rfl (fun w s => thronglaw0_Commands_walk z.1.input.commands rfl (by rw [hz1]; exact hx11) w s)) rfl rfl fun _ => RS.nil (hK6 _ _ (cq [(0, _), (2, _)] ?_)))
   refine T.region (rM rfl (rM rfl (rp (Pu.build (cells := [_, _, _, _, _, _, _, _]) st44 rfl rfl) (rp (Pu.indexSl sl66 rfl rfl g10) ?_))))
   refine RS.solid (Sd.st0 (α := RawN 8) 0 (⟨[.int .i64 (-9), .int .i64 0, .int .i64 0, .int .i64 0, .slice none 0 0, .int .i64 0, .int .u64 0, .int .i64 0], rfl, by intro u hu; simp only [List.mem_cons, List.not_mem_nil, or_false] at hu; rcases hu with rfl | rfl | rfl | rfl | rfl | rfl | rfl | rfl <;> rfl⟩ : RawN 8) rfl ty44 rfl rfl rfl (by rw [hlr]; exact g10) rfl rfl (by decide) rfl (fun h c hc => by
    have hl : c.length = 8 := by rw [RawN.get hc]; exact (gi rs v).hl
    show _ = ([.int .i64 (-9), .int .i64 0, .int .i64 0, .int .i64 0, .slice none 0 0, .int .i64 0, .int .u64 0, .int .i64 0] : List Value)
    rw [List.take_zero, List.nil_append, List.drop_eq_nil_of_le (by rw [hl]; decide), List.append_nil]
    rfl)) rfl rfl fun _ => ?_
   refine RS.nil (hK5 _ _ (cq [(0, _), (2, _)] ?_))
   refine T.region (rM rfl ?_)
   obtain ⟨g14, H⟩ := gdE H
   refine rp (Pu.addS rfl rfl g14) (rA rfl ?_)
   have hnx : (si rs v (⟨[.int .i64 (-9), .int .i64 0, .int .i64 0, .int .i64 0, .slice none 0 0, .int .i64 0, .int .u64 0, .int .i64 0], rfl, by intro u hu; simp only [List.mem_cons, List.not_mem_nil, or_false] at hu; rcases hu with rfl | rfl | rfl | rfl | rfl | rfl | rfl | rfl <;> rfl⟩ : RawN 8)).length = a0.length ∧ zs2.map (·.1) = a0.drop (v + 1).toNat ∧ ∀ (k : Nat) (y : Nte × RawN 8), zs2[k]? = some y → gi (si rs v (⟨[.int .i64 (-9), .int .i64 0, .int .i64 0, .int .i64 0, .slice none 0 0, .int .i64 0, .int .u64 0, .int .i64 0], rfl, by intro u hu; simp only [List.mem_cons, List.not_mem_nil, or_false] at hu; rcases hu with rfl | rfl | rfl | rfl | rfl | rfl | rfl | rfl <;> rfl⟩ : RawN 8)) (v + 1 + (k : Int)) = y.2 := by
    refine ⟨by rw [len_si]; exact hlr, ?_, fun k y hk => ?_⟩
    ·have h2 := congrArg List.tail hzd
     rw [List.map_cons, List.tail_cons, List.tail_drop] at h2
     rw [h2, show (v + 1).toNat = v.toNat + 1 by omega]
    ·rw [gi_si_ne (by omega) (by omega) (by omega)]
     have h2 := hzg (k + 1) y (by simpa using hk)
     rw [← h2]
     congr 1
     push_cast
     omega
   refine RS.nil (hL1 _ _ (v + 1) (si rs v (⟨[.int .i64 (-9), .int .i64 0, .int .i64 0, .int .i64 0, .slice none 0 0, .int .i64 0, .int .u64 0, .int .i64 0], rfl, by intro u hu; simp only [List.mem_cons, List.not_mem_nil, or_false] at hu; rcases hu with rfl | rfl | rfl | rfl | rfl | rfl | rfl | rfl <;> rfl⟩ : RawN 8), zs2) H ⟨rfl, trivial⟩ ⟨rfl, trivial⟩ (fun w s => (s.addPc hnx).pick [0, 1, 4, 6] (by decide) rfl))
  ·have H := ifF hc9 H
   obtain rfl := hd1 _ H
   refine T.exitTo (by with_reducible (repeat (first | exact ExTo.here | exact ExTo.hereN | exact ExTo.deep (by repeat (first | exact NmTo.seq | apply NmTo.blk)) | apply ExTo.seq | refine ExTo.past (by decide) ?_))) (hJ1 _ _ () rs HX1 ⟨rfl, trivial⟩ trivial (fun w s => (s.addPc hlr).pick [0, 1, 4] (by decide) rfl))
theorem thronglaw0_HashesO_walk {w0 : World} {F : Ch} (a0 : List UInt64) {v0 : Value} {r : Unit} (H : thronglaw0_Hashes a0 = some r) (w : World) (s : Sat w0 [osl 42 v0 a0, F] w) : Calls Tryz.prog 82 #[v0] w fun e w' => e = .returned (.tuple #[]) ∧ Sat w0 [dead, F] w' := by
 obtain ⟨p, cp, rfl⟩ := s.osl_form (k := 0) rfl
 unfold thronglaw0_Hashes at H
 refine T.enter (args := [_]) (S := Sat w0 [anyB 42 a0.length p, F]) Tryz.func82 rfl rfl (s.oslAny 0 rfl rfl) ?_
 refine T.seq fun K1 hK1 => T.region (rA rfl (RS.nil (hK1 _ _ ?_)))
 refine T.joinE (σ := Unit) (γ := Unit) H (fun s => s) [] trivial (fun _ _ => []) (fun _ _ => Sat w0 [dead, F]) ?_ ?_
 ·rintro ⟨⟩ ⟨⟩ H
  refine Cont.conseq (fr' := []) ?_ trivial (fun _ s => s)
  obtain rfl := sj H
  refine id (Cont.end0 rfl fun w' s => ?_)
  exact ⟨rfl, (s.deadRow).pick [2, 1] (by decide) rfl⟩
 ·intro z1 hz1 HX1 hJ1
  refine T.block ?_
  refine T.loopA (γ := Unit) hz1 [(0, _)] (fun (v2, l3) _ => [(2, .int .i64 v2)]) (fun (v2, l3) _ => Sat w0 [anyB 42 a0.length p, F]) () ⟨rfl, trivial⟩ ⟨rfl, trivial⟩ (fun w s => s) ?_
  rintro ⟨v2, l3⟩ ⟨⟩ y4 H hd1 KL1 hL1
  refine cq [(2, _), (0, _)] ?_
  refine T.seq fun K2 hK2 => T.seq fun K3 hK3 => T.region (rM rfl (rM rfl (rp (Pu.lenSl sl24 rfl) (rp (Pu.bin rfl rfl rfl) (RS.nil (hK3 _ _ ?_))))))
  refine T.condP rfl (fun hc5 => ?_) (fun hc5 => ?_)
  ·have H := ifT hc5 H
   refine T.skip (hK2 _ _ (cq [(0, _), (2, _)] ?_))
   refine T.seq fun K4 hK4 => T.block (T.region (rM rfl (rM rfl ?_)))
   obtain ⟨g6, H⟩ := gdE H
   refine RS.exP (fun w s => s.openAny 0 rfl (pos_of g6)) ?_
   rintro ⟨b, o, cs⟩ ⟨rfl, hb⟩
   dsimp only at hb ⊢
   refine rp (Pu.indexSl sl24 rfl rfl g6) (RS.solid (Sd.stB (cs' := _) 0 ty42 rfl rfl rfl rfl rfl (by rw [Nat.ble_eq]; omega) rfl rfl) rfl rfl fun _ => ?_)
   refine RS.weakS (S' := Sat w0 [anyB 42 a0.length (some ⟨b, o, none⟩), F]) (fun w s => Sat.shutAny 0 s rfl (by have h9 : (Value.int .u64 99).cells.toList.length = 1 := rfl; simp only [List.length_append, List.length_drop, h9]; rw [List.length_take, Nat.min_eq_left (by omega)]; omega)) ?_
   refine RS.nil (hK4 _ _ (cq [(0, _), (2, _)] ?_))
   refine T.region (rM rfl ?_)
   obtain ⟨g10, H⟩ := gdE H
   refine rp (Pu.addS rfl rfl g10) (rA rfl (RS.nil (hL1 _ _ ((v2 + 1), (si l3 v2 (99 : UInt64))) () H ⟨rfl, trivial⟩ ⟨rfl, trivial⟩ (fun w s => s))))
  ·have H := ifF hc5 H
   obtain rfl := hd1 _ H
   refine T.xt (hJ1 _ _ () () HX1 trivial trivial (fun w s => (s.deadRow).pick [2, 1] (by decide) rfl))
theorem thronglaw0_Peer_walk {w0 : World} {F : Ch} (a0_p : Per) {q0 q1 q2 q3 : Option Nat × Nat} {v4 : Value} {r : Unit} (H : thronglaw0_Peer a0_p = some r) (w : World) (s : Sat w0 [star (drow 41 (rowV q0 a0_p.mine.length) a0_p.mine) (star (drow 41 (rowV q1 a0_p.inputs.length) a0_p.inputs) (star (row nilH 3 (rowV q2 a0_p.has.length) a0_p.has) (star (row nilH 3 (rowV q3 a0_p.acked.length) a0_p.acked) (osl 42 (v4) a0_p.hashes)))), F] w) : Calls Tryz.prog 47 #[.agg #[.int .i64 a0_p.id, .int .i64 a0_p.players, .int .i64 a0_p.delay, .int .i64 a0_p.turn, .int .i64 a0_p.said, rowV q0 a0_p.mine.length, rowV q1 a0_p.inputs.length, rowV q2 a0_p.has.length, rowV q3 a0_p.acked.length, v4, .bool a0_p.split]] w fun e w' => e = .returned (.tuple #[]) ∧ Sat w0 [dead, F] w' := by
 unfold thronglaw0_Peer at H
 refine T.enter (args := [_]) (S := Sat w0 [drow 41 (rowV q0 a0_p.mine.length) a0_p.mine, F, drow 41 (rowV q1 a0_p.inputs.length) a0_p.inputs, row nilH 3 (rowV q2 a0_p.has.length) a0_p.has, row nilH 3 (rowV q3 a0_p.acked.length) a0_p.acked, osl 42 (v4) a0_p.hashes]) Tryz.func47 rfl rfl ((((s.unstarAt 0 rfl).unstarAt 2 rfl).unstarAt 3 rfl).unstarAt 4 rfl) ?_
 refine T.seq fun K1 hK1 => T.region (RS.solid (Sd.box (cs := [_, _, _, _, _, _, _, _, _, _, _]) rfl rfl) rfl rfl fun b1 => RS.nil (hK1 _ _ ?_))
 refine T.seq fun K2 hK2 => ?_
 try dsimp only [List.set, List.cons_append, List.nil_append]
 refine T.region (rp (Pu.fieldAddr fd26_5 rfl) (rq (Qt.ldB 6 ty22 rfl rfl rfl) ?_))
 obtain ⟨x2, hx2, H⟩ := bindE H
 refine RS.solid (Sd.callF0 (vs := [rowV q0 a0_p.mine.length]) (C' := dead) (v := .tuple #[]) 0 ent81 rfl rfl (fun w s => thronglaw0_Inputs_walk a0_p.mine rfl  hx2 w s)) rfl rfl fun _ => RS.nil (hK2 _ _ (cq [(1, _)] ?_))
 refine T.seq fun K3 hK3 => ?_
 try dsimp only [List.set, List.cons_append, List.nil_append]
 refine T.region (rp (Pu.fieldAddr fd26_6 rfl) (rq (Qt.ldB 6 ty22 rfl rfl rfl) ?_))
 obtain ⟨x3, hx3, H⟩ := bindE H
 refine RS.solid (Sd.callF0 (vs := [rowV q1 a0_p.inputs.length]) (C' := dead) (v := .tuple #[]) 2 ent81 rfl rfl (fun w s => thronglaw0_Inputs_walk a0_p.inputs rfl  hx3 w s)) rfl rfl fun _ => RS.nil (hK3 _ _ (cq [(1, _)] ?_))
 refine T.seq fun K4 hK4 => ?_
 try dsimp only [List.set, List.cons_append, List.nil_append]
 refine T.region (rp (Pu.fieldAddr fd26_7 rfl) (rq (Qt.ldB 6 ty23 rfl rfl rfl) ?_))
 obtain ⟨x4, hx4, H⟩ := bindE H
 refine RS.solid (Sd.callF0 (vs := [rowV q2 a0_p.has.length]) (C' := dead) (v := .tuple #[]) 3 ent66 rfl rfl (fun w s => thronglaw0_Numbers_walk a0_p.has rfl  hx4 w s)) rfl rfl fun _ => RS.nil (hK4 _ _ (cq [(1, _)] ?_))
 refine T.seq fun K5 hK5 => ?_
 try dsimp only [List.set, List.cons_append, List.nil_append]
 refine T.region (rp (Pu.fieldAddr fd26_8 rfl) (rq (Qt.ldB 6 ty23 rfl rfl rfl) ?_))
 obtain ⟨x5, hx5, H⟩ := bindE H
 refine RS.solid (Sd.callF0 (vs := [rowV q3 a0_p.acked.length]) (C' := dead) (v := .tuple #[]) 4 ent66 rfl rfl (fun w s => thronglaw0_Numbers_walk a0_p.acked rfl  hx5 w s)) rfl rfl fun _ => RS.nil (hK5 _ _ (cq [(1, _)] ?_))
 try dsimp only [List.set, List.cons_append, List.nil_append]
 refine T.region (rp (Pu.fieldAddr fd26_9 rfl) (rq (Qt.ldB 6 ty24 rfl rfl rfl) ?_))
 obtain ⟨x6, hx6, H⟩ := bindE H
 refine RS.solid (Sd.callF0 (vs := [v4]) (C' := dead) (v := .tuple #[]) 5 ent82 rfl rfl (fun w s => thronglaw0_HashesO_walk a0_p.hashes   hx6 w s)) rfl rfl fun _ => ?_
 obtain rfl := sj H
 refine RS.nil (Cont.end0 rfl fun w' s => ?_)
 exact ⟨rfl, (s.deadRow).pick [7, 1] (by decide) rfl⟩
end Go.Proofs.YtnadebijiaelkaaGreat
