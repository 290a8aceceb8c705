/-
  Walks of caches, copies, comparisons.
-/
import Derived.Test.YthdbofgcckjopaaGreatRows
import Derived.Test.YthdbofgcckjopaaGreatW3
import Derived.Test.YthdbofgcckjopaaGreatLG
import Derived.Test.YthdbofgcckjopaaGreatFI
set_option linter.unusedVariables false
set_option linter.unusedSimpArgs false
set_option maxRecDepth 20000
set_option maxHeartbeats 4000000
namespace Go.Proofs.YthdbofgcckjopaaGreat
open Go.Vg
open Enc (R)
theorem ent113 : Ent Tryz.prog 113 := ⟨_, _, Tryz.func113, by kernel_rfl, rfl⟩
theorem ent147 : Ent Tryz.prog 147 := ⟨_, _, Tryz.func147, by kernel_rfl, rfl⟩
theorem ent148 : Ent Tryz.prog 148 := ⟨_, _, Tryz.func148, by kernel_rfl, rfl⟩
theorem ent171 : Ent Tryz.prog 171 := ⟨_, _, Tryz.func171, by kernel_rfl, rfl⟩
theorem ent172 : Ent Tryz.prog 172 := ⟨_, _, Tryz.func172, by kernel_rfl, rfl⟩
theorem ent173 : Ent Tryz.prog 173 := ⟨_, _, Tryz.func173, by kernel_rfl, rfl⟩
theorem ent46 : Ent Tryz.prog 46 := ⟨_, _, Tryz.func46, by kernel_rfl, rfl⟩
theorem ent82 : Ent Tryz.prog 82 := ⟨_, _, Tryz.func82, by kernel_rfl, rfl⟩
theorem eqt120 : eqTy Tryz.prog 120 = some [0, 1, 2, 3, 4, 5] := by kernel_rfl
theorem fd115_0 : fdOff Tryz.prog 115 0 = some 0 := by kernel_rfl
theorem fd115_1 : fdOff Tryz.prog 115 1 = some 1 := by kernel_rfl
theorem fd115_2 : fdOff Tryz.prog 115 2 = some 2 := by kernel_rfl
theorem fd115_3 : fdOff Tryz.prog 115 3 = some 3 := by kernel_rfl
theorem fd115_4 : fdOff Tryz.prog 115 4 = some 4 := by kernel_rfl
theorem mp113 : mpTy Tryz.prog 113 = true := by kernel_rfl
theorem st115 : stTy Tryz.prog 115 = some ([.int .i64 0, .map none, .slice none 0 0, .int .i64 0, .int .i64 0], [(0, 1), (1, 1), (2, 1), (3, 1), (4, 1)]) := by kernel_rfl
theorem ty113 : tySz Tryz.prog 113 = some (1, false) := by kernel_rfl
theorem slices_Index_walk (a0_s : List Int) (a1_v : Int) (w : World) {v0 : Value} (h0 : R (hpOf w) a0_s [v0]) {r : Int} (H : slices_Index a0_s a1_v = some r) : Calls Tryz.prog 172 #[v0, .int .i64 a1_v] w fun e w' => e = .returned (.int .i64 r) ∧ Ext w w' := by
 have hm0 := R_max h0
 obtain ⟨p0, c0, rfl⟩ := R_form h0
 unfold slices_Index at H
 refine T.enter (args := [_, _]) (S := Sat w []) Tryz.func172 rfl rfl (Sat.start w) ?_
 refine T.seq fun K1 hK1 => T.region (rA rfl (RS.nil (hK1 _ _ ?_)))
 refine T.seq fun K2 hK2 => T.seq fun K3 hK3 => T.region (rM rfl (rp (Pu.lenSl sl23 rfl) (rM rfl (RS.nil (hK3 _ _ ?_)))))
 refine T.joinE (σ := Unit) (γ := Unit) H Ex.go [] trivial (fun _ _ => []) (fun _ _ => Sat w []) ?_ ?_
 ·rintro ⟨⟩ ⟨⟩ H
  try dsimp only [Ex.then] at H
  refine Cont.conseq (fr' := []) ?_ trivial (fun _ s => s)
  refine id (hK2 _ _ ?_)
  refine T.seq fun K4 hK4 => T.region (rA rfl (RS.nil (hK4 _ _ ?_)))
  obtain rfl := sj H
  refine T.rt (Cont.ret1 rfl rfl fun w' s => ?_)
  exact ⟨rfl, s.ext⟩
 ·intro z1 hz1 HX1 hJ1
  refine T.block ?_
  refine T.loopA (γ := Unit) hz1 [(0, _), (1, _), (7, _)] (fun v2 _ => [(8, .int .i64 v2)]) (fun v2 _ => Sat w []) () ⟨rfl, rfl, rfl, trivial⟩ ⟨rfl, trivial⟩ (fun w s => s) ?_
  rintro v2 ⟨⟩ y3 H hd1 KL1 hL1
  try dsimp only [Ex.then] at H
  refine cq [(8, _), (0, _), (1, _), (7, _)] ?_
  refine T.seq fun K5 hK5 => T.region (rp (Pu.bin rfl rfl rfl) (RS.nil (hK5 _ _ ?_)))
  refine T.seq fun K6 hK6 => ?_
  refine T.condP rfl (fun hc4 => ?_) (fun hc4 => ?_)
  ·have H := ifT hc4 H
   refine T.skip (hK6 _ _ ?_)
   refine T.seq fun K7 hK7 => T.block (T.seq fun K8 hK8 => T.region (rM rfl (rA rfl (RS.nil (hK8 _ _ ?_)))))
   refine T.seq fun K9 hK9 => T.region (rM rfl (rM rfl (rM rfl ?_)))
   obtain ⟨g5, H⟩ := gdE H
   obtain ⟨bl6, ol7, rfl⟩ := R_ptr h0 (ne_of_pos (pos_of g5))
   refine rp (Pu.indexSl sl23 rfl rfl g5) (rq (Qt.ld0 (α := Int) (Rd.base h0) ty3 rfl rfl g5 (by rintro _ _ rfl; rfl)) (rp (Pu.bin rfl rfl rfl) (RS.nil (hK9 _ _ ?_))))
   refine T.condP rfl (fun hc8 => ?_) (fun hc8 => ?_)
   ·have H := ifT hc8 H
    refine cq [(5, _)] ?_
    refine T.seq fun K10 hK10 => T.region (rM rfl (rA rfl (RS.nil (hK10 _ _ ?_))))
    obtain rfl := hd1 _ H
    have H := HX1
    obtain rfl := sj H
    refine T.rt (Cont.ret1 rfl rfl fun w' s => ?_)
    exact ⟨rfl, s.ext⟩
   ·have H := ifF hc8 H
    refine T.skip (hK7 _ _ (cq [(0, _), (1, _), (7, _), (8, _)] ?_))
    refine T.region ?_
    obtain ⟨g9, H⟩ := gdE H
    refine rp (Pu.addS rfl rfl g9) (rM rfl (RS.nil (hL1 _ _ (v2 + 1) () H ⟨rfl, rfl, rfl, trivial⟩ ⟨rfl, trivial⟩ (fun w s => s))))
  ·have H := ifF hc4 H
   obtain rfl := hd1 _ H
   refine T.xt (hJ1 _ _ () () HX1 trivial trivial (fun w s => s))
theorem cache_New_walk (a0_room : Int) (w : World) {r : Option Cach × Int} (H : cache_New a0_room = some r) : Calls Tryz.prog 35 #[.int .i64 a0_room] w fun e w' => ∃ g1 : Nat, e = .returned (.tuple #[.pointer (optA g1 r.1), .int .i64 r.2]) ∧ Sat w [optCh Cach_ch g1 r.1] w' := by
 unfold cache_New at H
 refine T.enter (args := [_]) (S := Sat w []) Tryz.func35 rfl rfl (Sat.start w) ?_
 refine T.seq fun K1 hK1 => T.region (rA rfl (rA rfl (RS.nil (hK1 _ _ ?_))))
 refine T.seq fun K2 hK2 => T.seq fun K3 hK3 => T.region (rM rfl (rp (Pu.bin rfl rfl rfl) (rM rfl ?_)))
 refine RS.joinV 3 9 (.bool (decide ((a0_room < 1) ∨ (4096 < a0_room)))) [(0, _)] ⟨rfl, trivial⟩ ?_ ?_
 ·refine RS.nil (hK3 _ _ ?_)
  refine T.condP rfl (fun hc3 => ?_) (fun hc3 => ?_)
  ·have H := ifT hc3 H
   refine T.seq fun K4 hK4 => T.region (rA rfl (rA rfl (RS.nil (hK4 _ _ ?_))))
   obtain rfl := sj H
   refine T.rt (Cont.ret2 rfl rfl rfl fun w' s => ?_)
   exact ⟨0, rfl, (s.deadRow).pick [0] (by decide) rfl⟩
  ·have H := ifF hc3 H
   refine T.skip (hK2 _ _ ?_)
   refine T.seq fun K5 hK5 => T.region (rM rfl (RS.solid (Sd.makeMap) rfl rfl fun b4 => rp (Pu.build (cells := [_, _, _, _, _]) st115 rfl rfl) (RS.solid (Sd.box (cs := [_, _, _, _, _]) rfl rfl) rfl rfl fun b5 => ?_)))
   refine RS.weakS (fun w s => (s.nilRow (α := Int) 3)) ?_
   refine rA rfl (rA rfl (RS.nil (hK5 _ _ (cq [(2, _), (3, _)] ?_))))
   obtain rfl := sj H
   refine T.rt (Cont.ret2 rfl rfl rfl fun w' s => ?_)
   exact ⟨b5, rfl, Cach_shut (x := (⟨a0_room, mNil, ([] : List Int), 0, 0⟩ : Cach)) ⟨b4, (none, 0)⟩ (s.pick [1, 0, 2] (by decide) rfl)⟩
 ·intro hJ2
  refine RS.splitP 6 rfl (fun hc1 => ?_) (fun hc1 => ?_)
  ·refine ro (ro (rp (Pu.pickT rfl rfl) ?_))
   exact hJ2 _ _ ⟨dOrT hc1, rfl, trivial⟩ (fun w s => s)
  ·refine rM rfl (rp (Pu.bin rfl rfl rfl) (rp (Pu.pickF rfl rfl) ?_))
   exact hJ2 _ _ ⟨dOrF hc1, rfl, trivial⟩ (fun w s => s)
theorem cache_Cache_out_walk {w0 : World} {F : Ch} (g0 : Nat) (a0_c : Cach) (a1_key : Int) {r : Cach} (H : cache_Cache_out a0_c a1_key = some r) (w : World) (s : Sat w0 [Cach_ch g0 a0_c, F] w) : Calls Tryz.prog 147 #[.pointer (some ⟨g0, 0, none⟩), .int .i64 a1_key] w fun e w' => e = .returned (.tuple #[]) ∧ Sat w0 [Cach_ch g0 r, F] w' := by
 unfold cache_Cache_out at H
 refine T.enter (args := [_, _]) (S := Sat w0 [Cach_ch g0 a0_c, F]) Tryz.func147 rfl rfl (s) ?_
 refine T.ex (S' := fun q : Nat × (Option Nat × Nat) => Sat w0 [blk g0 [.int .i64 a0_c.room, .map (some q.1), rowV q.2 a0_c.keys.length, .int .i64 a0_c.hits, .int .i64 a0_c.misses] 115, F, mapCh q.1 a0_c.vals, row nilH 3 (rowV q.2 a0_c.keys.length) a0_c.keys]) (fun w s => Cach_open 0 rfl s) ?_
 rintro ⟨q1, q2⟩
 show T _ _ _ _ (Sat w0 [blk g0 [.int .i64 a0_c.room, .map (some q1), rowV q2 a0_c.keys.length, .int .i64 a0_c.hits, .int .i64 a0_c.misses] 115, F, mapCh q1 a0_c.vals, row nilH 3 (rowV q2 a0_c.keys.length) a0_c.keys]) _
 refine T.seq fun K1 hK1 => T.region (rM rfl (rp (Pu.nilCheck rfl) (rp (Pu.fieldAddr fd115_2 rfl) (rq (Qt.ldB 0 ty23 rfl rfl rfl) (rM rfl ?_)))))
 obtain ⟨x3, hx3, H⟩ := bindE H
 refine rq (Qt.call (vs := [rowV q2 a0_c.keys.length, .int .i64 a1_key]) ent172 rfl fun w s => slices_Index_walk a0_c.keys a1_key w ((Rd.ofRowN 3 rfl) w s) hx3) (rA rfl (RS.nil (hK1 _ _ (cq [(0, _), (4, _)] ?_))))
 refine T.seq fun K2 hK2 => T.region (rM rfl (rp (Pu.bin rfl rfl rfl) (RS.nil (hK2 _ _ ?_))))
 refine T.condP rfl (fun hc4 => ?_) (fun hc4 => ?_)
 ·have H := ifT hc4 H
  refine T.region (rM rfl (rM rfl (rp (Pu.nilCheck rfl) (rp (Pu.fieldAddr fd115_2 rfl) (rq (Qt.ldB 0 ty23 rfl rfl rfl) (rM rfl (rM rfl ?_)))))))
  obtain ⟨g5, H⟩ := gdE H
  refine rp (Pu.addS rfl rfl g5) ?_
  obtain ⟨x6, hx6, H⟩ := bindE H
  refine RS.solid (Sd.callM 3 ent173 rfl rfl (fun w s => slices_Delete_walk a0_c.keys x3 (x3 + 1) rfl  hx6 w s)) rfl rfl fun q7 => rp (Pu.nilCheck rfl) (rp (Pu.fieldAddr fd115_2 rfl) (RS.solid (Sd.stB (cs' := [_, _, _, _, _]) 0 ty23 rfl rfl rfl rfl rfl rfl rfl rfl) rfl rfl fun _ => ?_))
  obtain rfl := sj H
  refine RS.nil (Cont.end0 rfl fun w' s => ?_)
  exact ⟨rfl, Cach_shut (x := (⟨a0_c.room, a0_c.vals, x6, a0_c.hits, a0_c.misses⟩ : Cach)) ⟨q1, q7⟩ (s.pick [1, 0, 2, 3] (by decide) rfl)⟩
 ·have H := ifF hc4 H
  obtain rfl := sj H
  refine T.skip (Cont.end0 rfl fun w' s => ?_)
  exact ⟨rfl, Cach_shut (x := a0_c) ⟨q1, q2⟩ (s.pick [1, 0, 2, 3] (by decide) rfl)⟩
theorem cache_Cache_use_walk {w0 : World} {F : Ch} (g0 : Nat) (a0_c : Cach) (a1_key : Int) {r : Cach} (H : cache_Cache_use a0_c a1_key = some r) (w : World) (s : Sat w0 [Cach_ch g0 a0_c, F] w) : Calls Tryz.prog 113 #[.pointer (some ⟨g0, 0, none⟩), .int .i64 a1_key] w fun e w' => e = .returned (.tuple #[]) ∧ Sat w0 [Cach_ch g0 r, F] w' := by
 unfold cache_Cache_use at H
 refine T.enter (args := [_, _]) (S := Sat w0 [Cach_ch g0 a0_c, F]) Tryz.func113 rfl rfl (s) ?_
 refine T.ex (S' := fun q : Nat × (Option Nat × Nat) => Sat w0 [blk g0 [.int .i64 a0_c.room, .map (some q.1), rowV q.2 a0_c.keys.length, .int .i64 a0_c.hits, .int .i64 a0_c.misses] 115, F, mapCh q.1 a0_c.vals, row nilH 3 (rowV q.2 a0_c.keys.length) a0_c.keys]) (fun w s => Cach_open 0 rfl s) ?_
 rintro ⟨q1, q2⟩
 show T _ _ _ _ (Sat w0 [blk g0 [.int .i64 a0_c.room, .map (some q1), rowV q2 a0_c.keys.length, .int .i64 a0_c.hits, .int .i64 a0_c.misses] 115, F, mapCh q1 a0_c.vals, row nilH 3 (rowV q2 a0_c.keys.length) a0_c.keys]) _
 refine T.seq fun K1 hK1 => T.region (rM rfl (rM rfl ?_))
 refine RS.weakS (fun w s => Cach_shut (R := [F]) (g := g0) (x := a0_c) ⟨q1, q2⟩ (s.pick [1, 0, 2, 3] (by decide) rfl)) ?_
 obtain ⟨x3, hx3, H⟩ := bindE H
 refine RS.solid (Sd.callF0 0 ent147 rfl rfl (fun w s => cache_Cache_out_walk g0 a0_c a1_key  hx3 w s)) rfl rfl fun _ => ?_
 refine RS.ex (S' := fun q : Nat × (Option Nat × Nat) => Sat w0 [blk g0 [.int .i64 x3.room, .map (some q.1), rowV q.2 x3.keys.length, .int .i64 x3.hits, .int .i64 x3.misses] 115, F, mapCh q.1 x3.vals, row nilH 3 (rowV q.2 x3.keys.length) x3.keys]) (fun w s => let ⟨q, s⟩ := Cach_open 0 rfl s; ⟨q, s⟩) ?_
 rintro ⟨q4, q5⟩
 show RS _ _ _ _ _ _ (Sat w0 [blk g0 [.int .i64 x3.room, .map (some q4), rowV q5 x3.keys.length, .int .i64 x3.hits, .int .i64 x3.misses] 115, F, mapCh q4 x3.vals, row nilH 3 (rowV q5 x3.keys.length) x3.keys])
 refine RS.nil (hK1 _ _ (cq [(0, _), (1, _)] ?_))
 refine T.region (rM rfl (rM rfl (rp (Pu.nilCheck rfl) (rp (Pu.fieldAddr fd115_2 rfl) (rq (Qt.ldB 0 ty23 rfl rfl rfl) (rM rfl (RS.solid (Sd.litS (cs := [_]) sl23 zr3 rfl rfl rfl rfl rfl) rfl rfl fun b6 => ?_)))))))
 refine RS.weakS (fun w s => s.litRow (α := Int) (n := 1) 4 [a1_key] rfl (by decide) rfl ⟨[_], _, rfl, rfl, rfl⟩) ?_
 obtain ⟨x7, hx7, H⟩ := bindE H
 refine RS.solid (Sd.callM 3 ent148 rfl rfl (fun w s => slices_Insert_walk x3.keys 0 [a1_key] rfl (Rd.rest 4 rfl (by decide) (Rd.ofRowN 0 rfl)) hx7 w s)) rfl rfl fun q8 => rp (Pu.nilCheck rfl) (rp (Pu.fieldAddr fd115_2 rfl) (RS.solid (Sd.stB (cs' := [_, _, _, _, _]) 0 ty23 rfl rfl rfl rfl rfl rfl rfl rfl) rfl rfl fun _ => ?_))
 obtain rfl := sj H
 refine RS.nil (Cont.end0 rfl fun w' s => ?_)
 exact ⟨rfl, Cach_shut (x := (⟨x3.room, x3.vals, x7, x3.hits, x3.misses⟩ : Cach)) ⟨q4, q8⟩ (s.pick [1, 0, 2, 3] (by decide) rfl)⟩
theorem cache_Cache_Put_walk {w0 : World} {F : Ch} (g0 : Nat) (a0_c : Cach) (a1_key : Int) (a2_val : Int) {r : Cach} (H : cache_Cache_Put a0_c a1_key a2_val = some r) (w : World) (s : Sat w0 [Cach_ch g0 a0_c, F] w) : Calls Tryz.prog 78 #[.pointer (some ⟨g0, 0, none⟩), .int .i64 a1_key, .int .i64 a2_val] w fun e w' => e = .returned (.tuple #[]) ∧ Sat w0 [Cach_ch g0 r, F] w' := by
 unfold cache_Cache_Put at H
 refine T.enter (args := [_, _, _]) (S := Sat w0 [Cach_ch g0 a0_c, F]) Tryz.func78 rfl rfl (s) ?_
 refine T.ex (S' := fun q : Nat × (Option Nat × Nat) => Sat w0 [blk g0 [.int .i64 a0_c.room, .map (some q.1), rowV q.2 a0_c.keys.length, .int .i64 a0_c.hits, .int .i64 a0_c.misses] 115, F, mapCh q.1 a0_c.vals, row nilH 3 (rowV q.2 a0_c.keys.length) a0_c.keys]) (fun w s => Cach_open 0 rfl s) ?_
 rintro ⟨q1, q2⟩
 show T _ _ _ _ (Sat w0 [blk g0 [.int .i64 a0_c.room, .map (some q1), rowV q2 a0_c.keys.length, .int .i64 a0_c.hits, .int .i64 a0_c.misses] 115, F, mapCh q1 a0_c.vals, row nilH 3 (rowV q2 a0_c.keys.length) a0_c.keys]) _
 refine T.seq fun K1 hK1 => T.region (rM rfl (rp (Pu.nilCheck rfl) (rp (Pu.fieldAddr fd115_1 rfl) (rq (Qt.ldB 0 ty113 rfl rfl rfl) (rM rfl (rM rfl (RS.solid (Sd.mapUpdate 2 mp113 rfl rfl rfl rfl) rfl rfl fun _ => RS.nil (hK1 _ _ (cq [(0, _), (1, _)] ?_)))))))))
 refine T.seq fun K2 hK2 => T.region (rM rfl (rM rfl ?_))
 refine RS.weakS (fun w s => Cach_shut (R := [F]) (g := g0) (x := (⟨a0_c.room, (mPut a0_c.vals a1_key a2_val), a0_c.keys, a0_c.hits, a0_c.misses⟩ : Cach)) ⟨q1, q2⟩ (s.pick [1, 0, 2, 3] (by decide) rfl)) ?_
 obtain ⟨x3, hx3, H⟩ := bindE H
 refine RS.solid (Sd.callF0 0 ent113 rfl rfl (fun w s => cache_Cache_use_walk g0 (⟨a0_c.room, (mPut a0_c.vals a1_key a2_val), a0_c.keys, a0_c.hits, a0_c.misses⟩ : Cach) a1_key  hx3 w s)) rfl rfl fun _ => ?_
 refine RS.ex (S' := fun q : Nat × (Option Nat × Nat) => Sat w0 [blk g0 [.int .i64 x3.room, .map (some q.1), rowV q.2 x3.keys.length, .int .i64 x3.hits, .int .i64 x3.misses] 115, F, mapCh q.1 x3.vals, row nilH 3 (rowV q.2 x3.keys.length) x3.keys]) (fun w s => let ⟨q, s⟩ := Cach_open 0 rfl s; ⟨q, s⟩) ?_
 rintro ⟨q4, q5⟩
 show RS _ _ _ _ _ _ (Sat w0 [blk g0 [.int .i64 x3.room, .map (some q4), rowV q5 x3.keys.length, .int .i64 x3.hits, .int .i64 x3.misses] 115, F, mapCh q4 x3.vals, row nilH 3 (rowV q5 x3.keys.length) x3.keys])
 refine RS.nil (hK2 _ _ (cq [(0, _)] ?_))
 refine T.seq fun K3 hK3 => T.region (rM rfl (rp (Pu.nilCheck rfl) (rp (Pu.fieldAddr fd115_2 rfl) (rq (Qt.ldB 0 ty23 rfl rfl rfl) (rp (Pu.lenSl sl23 rfl) (rA rfl (RS.nil (hK3 _ _ (cq [(0, _), (6, _)] ?_)))))))))
 refine T.seq fun K4 hK4 => T.region (rM rfl (rM rfl (rp (Pu.nilCheck rfl) (rp (Pu.fieldAddr fd115_0 rfl) (rq (Qt.ldB 0 ty3 rfl rfl rfl) (rp (Pu.bin rfl rfl rfl) (RS.nil (hK4 _ _ ?_))))))))
 refine T.condP rfl (fun hc6 => ?_) (fun hc6 => ?_)
 ·have H := ifT hc6 H
  refine cq [(0, _), (6, _)] ?_
  refine T.seq fun K5 hK5 => ?_
  refine T.drawnS [0, 1, 3] [(0, .pu), (1, .pu), (2, .pu), (3, .rd), (4, .pu), (5, .pu), (6, .pu), (7, .wk), (8, .pu), (9, .pu), (10, .pu), (11, .rd), (12, .br)] mixed (by kernel_rfl) rfl ?_
  refine RD.p (fun w s => s.pick [0, 1, 3] (by decide) rfl) rfl (Pu.move rfl) rfl rfl (RD.p (fun w s => s.pick [0, 1, 3] (by decide) rfl) rfl (Pu.nilCheck rfl) rfl rfl (RD.p (fun w s => s.pick [0, 1, 3] (by decide) rfl) rfl (Pu.fieldAddr fd115_1 rfl) rfl rfl (RD.q (fun w s => s.pick [0, 1, 3] (by decide) rfl) rfl (Qt.ldB 0 ty113 rfl rfl rfl) rfl rfl (RD.p (fun w s => s.pick [0, 1, 3] (by decide) rfl) rfl (Pu.move rfl) rfl rfl (RD.p (fun w s => s.pick [0, 1, 3] (by decide) rfl) rfl (Pu.nilCheck rfl) rfl rfl (RD.p (fun w s => s.pick [0, 1, 3] (by decide) rfl) rfl (Pu.fieldAddr fd115_2 rfl) rfl rfl ?_))))))
  refine RD.w (fun w s => s.pick [0, 1, 3] (by decide) rfl) rfl (Qt.ldB 0 ty23 rfl rfl rfl) rfl rfl ?_
  refine RD.p (fun w s => s.pick [0, 1, 3] (by decide) rfl) rfl (Pu.move rfl) rfl rfl ?_
  obtain ⟨g7, H⟩ := gdE H
  refine RD.p (fun w s => s.pick [0, 1, 3] (by decide) rfl) rfl (Pu.subS rfl rfl g7) rfl rfl ?_
  obtain ⟨g8, H⟩ := gdE H
  refine RD.know (p := ∃ g cap, q5 = (some g, cap)) (fun w s => (s.row_some (k := 3) rfl (pos_of g8))) ?_
  rintro ⟨gg9, cc10, rfl⟩
  refine RD.p (fun w s => s.pick [0, 1, 3] (by decide) rfl) rfl (Pu.indexSl sl23 rfl rfl g8) rfl rfl (RD.q (fun w s => s.pick [0, 1, 3] (by decide) rfl) rfl (Qt.ld0 (α := Int) (Rd.ofRowN 3 rfl) ty3 rfl rfl g8 (by rintro _ _ rfl; rfl)) rfl rfl (RD.solid rfl (.inr rfl) rfl rfl (Sd.mapDelete 2 mp113 rfl rfl rfl) (fun _ => ClE.sat _ _) (fun _ w s => s.pick [0, 1, 3] (by decide) rfl) (fun h => nomatch h) fun _ => ?_))
  refine RD.nil (hK5 _ _ (cq [(0, _), (6, _)] ?_))
  refine T.region (rM rfl (rM rfl (rp (Pu.nilCheck rfl) (rp (Pu.fieldAddr fd115_2 rfl) (rq (Qt.ldB 0 ty23 rfl rfl rfl) (rM rfl ?_))))))
  obtain ⟨g11, H⟩ := gdE H
  refine rp (Pu.subS rfl rfl g11) ?_
  obtain ⟨g12, H⟩ := gdE H
  refine RS.know (fun w s => (s.row_fits (q := (some gg9, cc10)) (m := x3.keys.length) (k := 3) rfl)) fun hf13 => ?_
  refine rp (Pu.sliceH sl23 rfl rfl (le_cap g12 hf13.2.1)) ?_
  refine RS.weakS (fun w s => s.cutRow (q := (some gg9, cc10)) (m := x3.keys.length) 3 (((x3.keys.length : Int) - 1).toNat) rfl (le_nat g12)) ?_
  refine rp (Pu.nilCheck rfl) (rp (Pu.fieldAddr fd115_2 rfl) (RS.solid (Sd.stB (cs' := [_, _, _, _, _]) 0 ty23 rfl rfl rfl rfl rfl rfl rfl rfl) rfl rfl fun _ => ?_))
  obtain rfl := sj H
  refine RS.nil (Cont.end0 rfl fun w' s => ?_)
  exact ⟨rfl, Cach_shut (x := (⟨x3.room, (mDel x3.vals (gi x3.keys ((x3.keys.length : Int) - 1))), (x3.keys.take ((x3.keys.length : Int) - 1).toNat), x3.hits, x3.misses⟩ : Cach)) ⟨q4, (some gg9, cc10)⟩ ((Sat.cellB 0 (Sat.relen (q := (some gg9, cc10)) (m := ((x3.keys.length : Int) - 1).toNat) 3 s rfl) rfl (congrArg (fun z => [.int .i64 x3.room, .map (some q4), rowV (some gg9, cc10) z, .int .i64 x3.hits, .int .i64 x3.misses]) (s.row_fits (q := (some gg9, cc10)) (m := ((x3.keys.length : Int) - 1).toNat) (k := 3) rfl).1)).pick [1, 0, 2, 3] (by decide) rfl)⟩
 ·have H := ifF hc6 H
  obtain rfl := sj H
  refine T.skip (Cont.end0 rfl fun w' s => ?_)
  exact ⟨rfl, Cach_shut (x := x3) ⟨q4, q5⟩ (s.pick [1, 0, 2, 3] (by decide) rfl)⟩
theorem cache_Cache_Get_walk {w0 : World} {F : Ch} (g0 : Nat) (a0_c : Cach) (a1_key : Int) {r : Int × Bool × Cach} (H : cache_Cache_Get a0_c a1_key = some r) (w : World) (s : Sat w0 [Cach_ch g0 a0_c, F] w) : Calls Tryz.prog 77 #[.pointer (some ⟨g0, 0, none⟩), .int .i64 a1_key] w fun e w' => e = .returned (.tuple #[.int .i64 r.1, .bool r.2.1]) ∧ Sat w0 [Cach_ch g0 r.2.2, F] w' := by
 unfold cache_Cache_Get at H
 refine T.enter (args := [_, _]) (S := Sat w0 [Cach_ch g0 a0_c, F]) Tryz.func77 rfl rfl (s) ?_
 refine T.ex (S' := fun q : Nat × (Option Nat × Nat) => Sat w0 [blk g0 [.int .i64 a0_c.room, .map (some q.1), rowV q.2 a0_c.keys.length, .int .i64 a0_c.hits, .int .i64 a0_c.misses] 115, F, mapCh q.1 a0_c.vals, row nilH 3 (rowV q.2 a0_c.keys.length) a0_c.keys]) (fun w s => Cach_open 0 rfl s) ?_
 rintro ⟨q1, q2⟩
 show T _ _ _ _ (Sat w0 [blk g0 [.int .i64 a0_c.room, .map (some q1), rowV q2 a0_c.keys.length, .int .i64 a0_c.hits, .int .i64 a0_c.misses] 115, F, mapCh q1 a0_c.vals, row nilH 3 (rowV q2 a0_c.keys.length) a0_c.keys]) _
 refine T.seq fun K1 hK1 => T.region (rA rfl (rA rfl (RS.nil (hK1 _ _ ?_))))
 refine T.seq fun K2 hK2 => T.region (rM rfl (rp (Pu.nilCheck rfl) (rp (Pu.fieldAddr fd115_1 rfl) (rq (Qt.ldB 0 ty113 rfl rfl rfl) (rM rfl (rq (Qt.lookup2 2 mp113 rfl rfl rfl) (rM rfl (rp (Pu.extract rfl rfl) (rp (Pu.extract rfl rfl) (rA rfl (rA rfl (RS.nil (hK2 _ _ (cq [(0, _), (1, _), (6, _), (7, _)] ?_))))))))))))))
 refine T.seq fun K3 hK3 => T.seq fun K4 hK4 => T.region (rM rfl (rp (Pu.not rfl) (RS.nil (hK4 _ _ ?_))))
 refine T.cond rfl (fun hc3 => ?_) (fun hc3 => ?_)
 ·have H := ifT hc3 H
  refine cq [(0, _)] ?_
  refine T.seq fun K5 hK5 => T.region (rM rfl (rp (Pu.nilCheck rfl) (rp (Pu.fieldAddr fd115_4 rfl) ?_)))
  obtain ⟨g4, H⟩ := gdE H
  refine RS.solid (Sd.callF0 0 ent82 rfl rfl (fun w s => atomicAdd_walk (cs' := [_, _, _, _, _]) s rfl g4 rfl)) rfl rfl fun _ => RS.nil (hK5 _ _ (cq [] ?_))
  refine T.seq fun K6 hK6 => T.region (rA rfl (rA rfl (RS.nil (hK6 _ _ ?_))))
  obtain rfl := sj H
  refine T.rt (Cont.ret2 rfl rfl rfl fun w' s => ?_)
  exact ⟨rfl, Cach_shut (x := (⟨a0_c.room, a0_c.vals, a0_c.keys, a0_c.hits, (a0_c.misses + 1)⟩ : Cach)) ⟨q1, q2⟩ (s.pick [1, 0, 2, 3] (by decide) rfl)⟩
 ·have H := ifB hc3 H
  refine T.skip (hK3 _ _ (cq [(0, _), (1, _), (6, _)] ?_))
  refine T.seq fun K7 hK7 => T.region (rM rfl (rp (Pu.nilCheck rfl) (rp (Pu.fieldAddr fd115_3 rfl) ?_)))
  obtain ⟨g5, H⟩ := gdE H
  refine RS.solid (Sd.callF0 0 ent82 rfl rfl (fun w s => atomicAdd_walk (cs' := [_, _, _, _, _]) s rfl g5 rfl)) rfl rfl fun _ => RS.nil (hK7 _ _ (cq [(0, _), (1, _), (6, _)] ?_))
  refine T.seq fun K8 hK8 => T.region (rM rfl (rM rfl ?_))
  refine RS.weakS (fun w s => Cach_shut (R := [F]) (g := g0) (x := (⟨a0_c.room, a0_c.vals, a0_c.keys, (a0_c.hits + 1), a0_c.misses⟩ : Cach)) ⟨q1, q2⟩ (s.pick [1, 0, 2, 3] (by decide) rfl)) ?_
  obtain ⟨x6, hx6, H⟩ := bindE H
  refine RS.solid (Sd.callF0 0 ent113 rfl rfl (fun w s => cache_Cache_use_walk g0 (⟨a0_c.room, a0_c.vals, a0_c.keys, (a0_c.hits + 1), a0_c.misses⟩ : Cach) a1_key  hx6 w s)) rfl rfl fun _ => ?_
  refine RS.ex (S' := fun q : Nat × (Option Nat × Nat) => Sat w0 [blk g0 [.int .i64 x6.room, .map (some q.1), rowV q.2 x6.keys.length, .int .i64 x6.hits, .int .i64 x6.misses] 115, F, mapCh q.1 x6.vals, row nilH 3 (rowV q.2 x6.keys.length) x6.keys]) (fun w s => let ⟨q, s⟩ := Cach_open 0 rfl s; ⟨q, s⟩) ?_
  rintro ⟨q7, q8⟩
  show RS _ _ _ _ _ _ (Sat w0 [blk g0 [.int .i64 x6.room, .map (some q7), rowV q8 x6.keys.length, .int .i64 x6.hits, .int .i64 x6.misses] 115, F, mapCh q7 x6.vals, row nilH 3 (rowV q8 x6.keys.length) x6.keys])
  refine RS.nil (hK8 _ _ (cq [(6, _)] ?_))
  refine T.seq fun K9 hK9 => T.region (rM rfl (rA rfl (rA rfl (RS.nil (hK9 _ _ ?_)))))
  obtain rfl := sj H
  refine T.rt (Cont.ret2 rfl rfl rfl fun w' s => ?_)
  exact ⟨rfl, Cach_shut (x := x6) ⟨q7, q8⟩ (s.pick [1, 0, 2, 3] (by decide) rfl)⟩
theorem cache_Cache_Clear_walk {w0 : World} {F : Ch} (g0 : Nat) (a0_c : Cach) {r : Cach} (H : cache_Cache_Clear a0_c = some r) (w : World) (s : Sat w0 [Cach_ch g0 a0_c, F] w) : Calls Tryz.prog 43 #[.pointer (some ⟨g0, 0, none⟩)] w fun e w' => e = .returned (.tuple #[]) ∧ Sat w0 [Cach_ch g0 r, F] w' := by
 unfold cache_Cache_Clear at H
 refine T.enter (args := [_]) (S := Sat w0 [Cach_ch g0 a0_c, F]) Tryz.func43 rfl rfl (s) ?_
 refine T.ex (S' := fun q : Nat × (Option Nat × Nat) => Sat w0 [blk g0 [.int .i64 a0_c.room, .map (some q.1), rowV q.2 a0_c.keys.length, .int .i64 a0_c.hits, .int .i64 a0_c.misses] 115, F, mapCh q.1 a0_c.vals, row nilH 3 (rowV q.2 a0_c.keys.length) a0_c.keys]) (fun w s => Cach_open 0 rfl s) ?_
 rintro ⟨q1, q2⟩
 show T _ _ _ _ (Sat w0 [blk g0 [.int .i64 a0_c.room, .map (some q1), rowV q2 a0_c.keys.length, .int .i64 a0_c.hits, .int .i64 a0_c.misses] 115, F, mapCh q1 a0_c.vals, row nilH 3 (rowV q2 a0_c.keys.length) a0_c.keys]) _
 refine T.seq fun K1 hK1 => T.region (rM rfl (rp (Pu.nilCheck rfl) (rp (Pu.fieldAddr fd115_1 rfl) (rq (Qt.ldB 0 ty113 rfl rfl rfl) (RS.solid (Sd.mapClear 2 mp113 rfl rfl) rfl rfl fun _ => RS.nil (hK1 _ _ (cq [(0, _)] ?_)))))))
 refine T.region (rM rfl (rp (Pu.nilCheck rfl) (rp (Pu.fieldAddr fd115_2 rfl) (RS.solid (Sd.stB (cs' := [_, _, _, _, _]) 0 ty23 rfl rfl rfl rfl rfl rfl rfl rfl) rfl rfl fun _ => ?_))))
 obtain rfl := sj H
 refine RS.nil (Cont.end0 rfl fun w' s => ?_)
 exact ⟨rfl, Cach_shut (x := (⟨a0_c.room, mNil, [], a0_c.hits, a0_c.misses⟩ : Cach)) ⟨q1, (none, 0)⟩ ((s.nilRow (α := Int) 3).pick [1, 0, 2, 4] (by decide) rfl)⟩
theorem cache_Cache_Keys_walk {w0 : World} {F : Ch} (g0 : Nat) (a0_c : Cach) {r : List Int} (H : cache_Cache_Keys a0_c = some r) (w : World) (s : Sat w0 [Cach_ch g0 a0_c, F] w) : Calls Tryz.prog 114 #[.pointer (some ⟨g0, 0, none⟩)] w fun e w' => ∃ q1 : (Option Nat × Nat), e = .returned (rowV q1 r.length) ∧ Sat w0 ([Cach_ch g0 a0_c, F] ++ [row nilH 3 (rowV q1 r.length) r]) w' := by
 unfold cache_Cache_Keys at H
 refine T.enter (args := [_]) (S := Sat w0 [Cach_ch g0 a0_c, F]) Tryz.func114 rfl rfl (s) ?_
 refine T.ex (S' := fun q : Nat × (Option Nat × Nat) => Sat w0 [blk g0 [.int .i64 a0_c.room, .map (some q.1), rowV q.2 a0_c.keys.length, .int .i64 a0_c.hits, .int .i64 a0_c.misses] 115, F, mapCh q.1 a0_c.vals, row nilH 3 (rowV q.2 a0_c.keys.length) a0_c.keys]) (fun w s => Cach_open 0 rfl s) ?_
 rintro ⟨q1, q2⟩
 show T _ _ _ _ (Sat w0 [blk g0 [.int .i64 a0_c.room, .map (some q1), rowV q2 a0_c.keys.length, .int .i64 a0_c.hits, .int .i64 a0_c.misses] 115, F, mapCh q1 a0_c.vals, row nilH 3 (rowV q2 a0_c.keys.length) a0_c.keys]) _
 refine T.seq fun K1 hK1 => T.region (rA rfl (RS.nil (hK1 _ _ ?_)))
 refine T.seq fun K2 hK2 => T.region (rM rfl (rp (Pu.nilCheck rfl) (rp (Pu.fieldAddr fd115_2 rfl) (rq (Qt.ldB 0 ty23 rfl rfl rfl) ?_))))
 obtain ⟨x3, hx3, H⟩ := bindE H
 refine RS.solid (Sd.callN (vs := [rowV q2 a0_c.keys.length]) ent46 rfl (fun w s => slices_Clone_Int_walk a0_c.keys w ((Rd.ofRowN 3 rfl) w s) hx3)) rfl rfl fun q4 => rA rfl (RS.nil (hK2 _ _ (cq [(2, _)] ?_)))
 obtain rfl := sj H
 refine T.rt (Cont.ret1 rfl rfl fun w' s => ?_)
 exact ⟨q4, rfl, Cach_shut (x := a0_c) ⟨q1, q2⟩ (s.pick [1, 4, 0, 2, 3] (by decide) rfl)⟩
theorem slices_EqualBytes_walk (a0_s1 : List UInt8) (a1_s2 : List UInt8) (w : World) {v0 v1 : Value} (h0 : R (hpOf w) a0_s1 [v0]) (h1 : R (hpOf w) a1_s2 [v1]) {r : Bool} (H : slices_EqualBytes a0_s1 a1_s2 = some r) : Calls Tryz.prog 170 #[v0, v1] w fun e w' => e = .returned (.bool r) ∧ Ext w w' := by
 have hm0 := R_max h0
 obtain ⟨p0, c0, rfl⟩ := R_form h0
 have hm1 := R_max h1
 obtain ⟨p1, c1, rfl⟩ := R_form h1
 unfold slices_EqualBytes at H
 refine T.enter (args := [_, _]) (S := Sat w []) Tryz.func170 rfl rfl (Sat.start w) ?_
 refine T.seq fun K1 hK1 => T.region (rA rfl (RS.nil (hK1 _ _ ?_)))
 refine T.seq fun K2 hK2 => T.seq fun K3 hK3 => T.region (rM rfl (rp (Pu.lenSl sl34 rfl) (rM rfl (rp (Pu.lenSl sl34 rfl) (rp (Pu.bin rfl rfl rfl) (RS.nil (hK3 _ _ ?_)))))))
 refine T.condP rfl (fun hc1 => ?_) (fun hc1 => ?_)
 ·have H := ifT hc1 H
  refine cq [] ?_
  refine T.seq fun K4 hK4 => T.region (rA rfl (RS.nil (hK4 _ _ ?_)))
  obtain rfl := sj H
  refine T.rt (Cont.ret1 rfl rfl fun w' s => ?_)
  exact ⟨rfl, s.ext⟩
 ·have H := ifF hc1 H
  refine T.skip (hK2 _ _ (cq [(0, _), (1, _)] ?_))
  refine T.seq fun K5 hK5 => T.seq fun K6 hK6 => T.region (rM rfl (rp (Pu.lenSl sl34 rfl) (rM rfl (RS.nil (hK6 _ _ ?_)))))
  refine T.joinE (σ := Unit) (γ := Unit) H Ex.go [] trivial (fun _ _ => []) (fun _ _ => Sat w []) ?_ ?_
  ·rintro ⟨⟩ ⟨⟩ H
   try dsimp only [Ex.then] at H
   refine Cont.conseq (fr' := []) ?_ trivial (fun _ s => s)
   refine id (hK5 _ _ ?_)
   refine T.seq fun K7 hK7 => T.region (rA rfl (RS.nil (hK7 _ _ ?_)))
   obtain rfl := sj H
   refine T.rt (Cont.ret1 rfl rfl fun w' s => ?_)
   exact ⟨rfl, s.ext⟩
  ·intro z2 hz2 HX2 hJ2
   refine T.block ?_
   refine T.loopA (γ := Unit) hz2 [(0, _), (1, _), (12, _)] (fun v3 _ => [(13, .int .i64 v3)]) (fun v3 _ => Sat w []) () ⟨rfl, rfl, rfl, trivial⟩ ⟨rfl, trivial⟩ (fun w s => s) ?_
   rintro v3 ⟨⟩ y4 H hd2 KL2 hL2
   try dsimp only [Ex.then] at H
   refine cq [(13, _), (0, _), (1, _), (12, _)] ?_
   refine T.seq fun K8 hK8 => T.region (rp (Pu.bin rfl rfl rfl) (RS.nil (hK8 _ _ ?_)))
   refine T.seq fun K9 hK9 => ?_
   refine T.condP rfl (fun hc5 => ?_) (fun hc5 => ?_)
   ·have H := ifT hc5 H
    refine T.skip (hK9 _ _ ?_)
    refine T.seq fun K10 hK10 => T.block (T.seq fun K11 hK11 => T.region (rM rfl (rA rfl (RS.nil (hK11 _ _ ?_)))))
    refine T.seq fun K12 hK12 => ?_
    refine T.drawn (fun _ => True) [(0, .pu), (1, .pu), (2, .pu), (3, .rd), (4, .pu), (5, .pu), (6, .pu), (7, .rd), (8, .pu)] mixed (ClE.sat _ _) (by kernel_rfl) ?_
    refine dp rfl (Pu.move rfl) (dp rfl (Pu.move rfl) ?_)
    obtain ⟨g6, H⟩ := gdE H
    obtain ⟨bl7, ol8, rfl⟩ := R_ptr h0 (ne_of_pos (pos_of g6))
    refine dp rfl (Pu.indexSl sl34 rfl rfl g6) (dq rfl (Qt.ld0 (α := UInt8) (Rd.base h0) ty5 rfl rfl g6 (by rintro _ _ rfl; rfl)) (dp rfl (Pu.move rfl) (dp rfl (Pu.move rfl) ?_)))
    obtain ⟨g9, H⟩ := gdE H
    obtain ⟨bl10, ol11, rfl⟩ := R_ptr h1 (ne_of_pos (pos_of g9))
    refine dp rfl (Pu.indexSl sl34 rfl rfl g9) (dq rfl (Qt.ld0 (α := UInt8) (Rd.base h1) ty5 rfl rfl g9 (by rintro _ _ rfl; rfl)) (dp rfl (Pu.bin rfl rfl rfl) (RD.nil (hK12 _ _ ?_))))
    refine T.condP rfl (fun hc12 => ?_) (fun hc12 => ?_)
    ·have H := ifT hc12 H
     refine cq [] ?_
     refine T.seq fun K13 hK13 => T.region (rA rfl (RS.nil (hK13 _ _ ?_)))
     obtain rfl := hd2 _ H
     have H := HX2
     obtain rfl := sj H
     refine T.rt (Cont.ret1 rfl rfl fun w' s => ?_)
     exact ⟨rfl, s.ext⟩
    ·have H := ifF hc12 H
     refine T.skip (hK10 _ _ (cq [(0, _), (1, _), (12, _), (13, _)] ?_))
     refine T.region ?_
     obtain ⟨g13, H⟩ := gdE H
     refine rp (Pu.addS rfl rfl g13) (rM rfl (RS.nil (hL2 _ _ (v3 + 1) () H ⟨rfl, rfl, rfl, trivial⟩ ⟨rfl, trivial⟩ (fun w s => s))))
   ·have H := ifF hc5 H
    obtain rfl := hd2 _ H
    refine T.xt (hJ2 _ _ () () HX2 trivial trivial (fun w s => s))
theorem slices_EqualBld_walk (a0_s1 : List Bld) (a1_s2 : List Bld) (w : World) {v0 v1 : Value} (h0 : R (hpOf w) a0_s1 [v0]) (h1 : R (hpOf w) a1_s2 [v1]) {r : Bool} (H : slices_EqualBld a0_s1 a1_s2 = some r) : Calls Tryz.prog 169 #[v0, v1] w fun e w' => e = .returned (.bool r) ∧ Ext w w' := by
 have hm0 := R_max h0
 obtain ⟨p0, c0, rfl⟩ := R_form h0
 have hm1 := R_max h1
 obtain ⟨p1, c1, rfl⟩ := R_form h1
 unfold slices_EqualBld at H
 refine T.enter (args := [_, _]) (S := Sat w []) Tryz.func169 rfl rfl (Sat.start w) ?_
 refine T.seq fun K1 hK1 => T.region (rA rfl (RS.nil (hK1 _ _ ?_)))
 refine T.seq fun K2 hK2 => T.seq fun K3 hK3 => T.region (rM rfl (rp (Pu.lenSl sl37 rfl) (rM rfl (rp (Pu.lenSl sl37 rfl) (rp (Pu.bin rfl rfl rfl) (RS.nil (hK3 _ _ ?_)))))))
 refine T.condP rfl (fun hc1 => ?_) (fun hc1 => ?_)
 ·have H := ifT hc1 H
  refine cq [] ?_
  refine T.seq fun K4 hK4 => T.region (rA rfl (RS.nil (hK4 _ _ ?_)))
  obtain rfl := sj H
  refine T.rt (Cont.ret1 rfl rfl fun w' s => ?_)
  exact ⟨rfl, s.ext⟩
 ·have H := ifF hc1 H
  refine T.skip (hK2 _ _ (cq [(0, _), (1, _)] ?_))
  refine T.seq fun K5 hK5 => T.seq fun K6 hK6 => T.region (rM rfl (rp (Pu.lenSl sl37 rfl) (rM rfl (RS.nil (hK6 _ _ ?_)))))
  refine T.joinE (σ := Unit) (γ := Unit) H Ex.go [] trivial (fun _ _ => []) (fun _ _ => Sat w []) ?_ ?_
  ·rintro ⟨⟩ ⟨⟩ H
   try dsimp only [Ex.then] at H
   refine Cont.conseq (fr' := []) ?_ trivial (fun _ s => s)
   refine id (hK5 _ _ ?_)
   refine T.seq fun K7 hK7 => T.region (rA rfl (RS.nil (hK7 _ _ ?_)))
   obtain rfl := sj H
   refine T.rt (Cont.ret1 rfl rfl fun w' s => ?_)
   exact ⟨rfl, s.ext⟩
  ·intro z2 hz2 HX2 hJ2
   refine T.block ?_
   refine T.loopA (γ := Unit) hz2 [(0, _), (1, _), (12, _)] (fun v3 _ => [(13, .int .i64 v3)]) (fun v3 _ => Sat w []) () ⟨rfl, rfl, rfl, trivial⟩ ⟨rfl, trivial⟩ (fun w s => s) ?_
   rintro v3 ⟨⟩ y4 H hd2 KL2 hL2
   try dsimp only [Ex.then] at H
   refine cq [(13, _), (0, _), (1, _), (12, _)] ?_
   refine T.seq fun K8 hK8 => T.region (rp (Pu.bin rfl rfl rfl) (RS.nil (hK8 _ _ ?_)))
   refine T.seq fun K9 hK9 => ?_
   refine T.condP rfl (fun hc5 => ?_) (fun hc5 => ?_)
   ·have H := ifT hc5 H
    refine T.skip (hK9 _ _ ?_)
    refine T.seq fun K10 hK10 => T.block (T.seq fun K11 hK11 => T.region (rM rfl (rA rfl (RS.nil (hK11 _ _ ?_)))))
    refine T.seq fun K12 hK12 => ?_
    refine T.drawn (fun _ => True) [(0, .pu), (1, .pu), (2, .pu), (3, .rd), (4, .pu), (5, .pu), (6, .pu), (7, .rd), (8, .pu)] mixed (ClE.sat _ _) (by kernel_rfl) ?_
    refine dp rfl (Pu.move rfl) (dp rfl (Pu.move rfl) ?_)
    obtain ⟨g6, H⟩ := gdE H
    obtain ⟨bl7, ol8, rfl⟩ := R_ptr h0 (ne_of_pos (pos_of g6))
    refine dp rfl (Pu.indexSl sl37 rfl rfl g6) (dq rfl (Qt.ldW (α := Bld) (cs := [_, _, _, _, _, _]) (Rd.base h0) ty120 rfl rfl g6 rfl (by rintro _ _ rfl; rfl)) (dp rfl (Pu.move rfl) (dp rfl (Pu.move rfl) ?_)))
    obtain ⟨g9, H⟩ := gdE H
    obtain ⟨bl10, ol11, rfl⟩ := R_ptr h1 (ne_of_pos (pos_of g9))
    refine dp rfl (Pu.indexSl sl37 rfl rfl g9) (dq rfl (Qt.ldW (α := Bld) (cs := [_, _, _, _, _, _]) (Rd.base h1) ty120 rfl rfl g9 rfl (by rintro _ _ rfl; rfl)) (dp rfl (Pu.neSt eqt120 rfl rfl rfl (eq_Bld (gi a0_s1 v3) (gi a1_s2 v3))) (RD.nil (hK12 _ _ ?_))))
    refine T.condP rfl (fun hc12 => ?_) (fun hc12 => ?_)
    ·have H := ifT hc12 H
     refine cq [] ?_
     refine T.seq fun K13 hK13 => T.region (rA rfl (RS.nil (hK13 _ _ ?_)))
     obtain rfl := hd2 _ H
     have H := HX2
     obtain rfl := sj H
     refine T.rt (Cont.ret1 rfl rfl fun w' s => ?_)
     exact ⟨rfl, s.ext⟩
    ·have H := ifF hc12 H
     refine T.skip (hK10 _ _ (cq [(0, _), (1, _), (12, _), (13, _)] ?_))
     refine T.region ?_
     obtain ⟨g13, H⟩ := gdE H
     refine rp (Pu.addS rfl rfl g13) (rM rfl (RS.nil (hL2 _ _ (v3 + 1) () H ⟨rfl, rfl, rfl, trivial⟩ ⟨rfl, trivial⟩ (fun w s => s))))
   ·have H := ifF hc5 H
    obtain rfl := hd2 _ H
    refine T.xt (hJ2 _ _ () () HX2 trivial trivial (fun w s => s))
theorem ground_Own_walk (a0_g : Grd) (w : World) {v0 : Value} (h0 : R (hpOf w) a0_g.tiles [v0]) {r : Grd} (H : ground_Own a0_g = some r) : Calls Tryz.prog 145 #[.agg #[.int .i64 a0_g.w, .int .i64 a0_g.h, v0]] w fun e w' => ∃ q1 : (Option Nat × Nat), e = .returned (.agg #[.int .i64 r.w, .int .i64 r.h, rowV q1 r.tiles.length]) ∧ Sat w [row nilH 5 (rowV q1 r.tiles.length) r.tiles] w' := by
 have hm0 := R_max h0
 obtain ⟨p0, c0, rfl⟩ := R_form h0
 unfold ground_Own at H
 refine T.enter (args := [_]) (S := Sat w []) Tryz.func145 rfl rfl (Sat.start w) ?_
 refine T.seq fun K1 hK1 => T.region (RS.solid (Sd.box (cs := [_, _, _]) rfl rfl) rfl rfl fun b1 => RS.solid (Sd.alloc zr36 rfl) rfl rfl fun b2 => RS.nil (hK1 _ _ ?_))
 refine T.seq fun K2 hK2 => T.region (rp (Pu.fieldAddr fd36_2 rfl) (rq (Qt.ldB 0 ty34 rfl rfl rfl) ?_))
 obtain ⟨x3, hx3, H⟩ := bindE H
 refine RS.solid (Sd.callN (vs := [.slice p0 a0_g.tiles.length c0]) ent171 rfl (fun w s => slices_Clone_Byte_walk a0_g.tiles w ((Rd.base h0) w s) hx3)) rfl rfl fun q4 => rp (Pu.fieldAddr fd36_2 rfl) (RS.solid (Sd.stB (cs' := [_, _, _]) 0 ty34 rfl rfl rfl rfl rfl rfl rfl rfl) rfl rfl fun _ => RS.nil (hK2 _ _ (cq [(1, _), (2, _)] ?_)))
 refine T.seq fun K3 hK3 => T.region (rq (Qt.ldBA (us := [_, _, _]) 0 ty36 rfl rfl rfl rfl) (RS.solid (Sd.stB (cs' := [_, _, _]) 1 ty36 rfl rfl rfl rfl rfl rfl rfl rfl) rfl rfl fun _ => RS.nil (hK3 _ _ ?_)))
 obtain rfl := sj H
 refine T.rt (Cont.retC 1 rfl ty36 rfl rfl rfl fun w' s => ?_)
 exact ⟨q4, rfl, s.pick [2] (by decide) rfl⟩
theorem throngref15_Room_walk (a0_n : Int) (w : World) {r : Bool} (H : throngref15_Room a0_n = some r) : Calls Tryz.prog 10 #[.int .i64 a0_n] w fun e w' => e = .returned (.bool r) ∧ Ext w w' := by
 unfold throngref15_Room at H
 refine T.enter (args := [_]) (S := Sat w []) Tryz.func10 rfl rfl (Sat.start w) ?_
 refine T.seq fun K1 hK1 => T.region (rA rfl (RS.nil (hK1 _ _ ?_)))
 refine T.seq fun K2 hK2 => T.region (rM rfl (rp (Pu.bin rfl rfl rfl) (rM rfl ?_)))
 refine RS.joinV 3 8 (.bool (decide ((1 ≤ a0_n) ∧ (a0_n ≤ 4096)))) [(2, _)] ⟨rfl, trivial⟩ ?_ ?_
 ·refine rA rfl (RS.nil (hK2 _ _ ?_))
  obtain rfl := sj H
  refine T.rt (Cont.ret1 rfl rfl fun w' s => ?_)
  exact ⟨rfl, s.ext⟩
 ·intro hJ2
  refine RS.splitP 5 rfl (fun hc1 => ?_) (fun hc1 => ?_)
  ·refine rM rfl (rp (Pu.bin rfl rfl rfl) (rp (Pu.pickT rfl rfl) ?_))
   exact hJ2 _ _ ⟨dAndT hc1, rfl, trivial⟩ (fun w s => s)
  ·refine ro (ro (rp (Pu.pickF rfl rfl) ?_))
   exact hJ2 _ _ ⟨dAndF hc1, rfl, trivial⟩ (fun w s => s)
end Go.Proofs.YthdbofgcckjopaaGreat
