/-
  sync.Once, one goroutine: Do of any function with a contract.
-/
import Derived.Test.YthdbofgcckjopaaGreatRows
import Derived.Test.YthdbofgcckjopaaGreatW3
import Derived.Tactics
import Derived.Tactics2
import Derived.Defers
import Derived.Laws.Pointers
import Derived.Laws.LoneSync
import Derived.RegionTactic
import Derived.RegionCalls
import Derived.ChangeAlike
set_option linter.unusedVariables false
set_option linter.unusedSimpArgs false
set_option maxRecDepth 20000
set_option maxHeartbeats 4000000
namespace Go.Proofs.YthdbofgcckjopaaGreat
open Go.Vg
open Enc (R)
theorem disable (w : World) : (callFunc 187 #[]).run Tryz.prog w = .ok (.value (.tuple #[])) w := run_call_mark0 Tryz.func187 (by kernel_rfl) (by kernel_rfl) (by kernel_rfl) .disable (by kernel_rfl) w
theorem enable (w : World) : (callFunc 189 #[]).run Tryz.prog w = .ok (.value (.tuple #[])) w := run_call_mark0 Tryz.func189 (by kernel_rfl) (by kernel_rfl) (by kernel_rfl) .enable (by kernel_rfl) w
theorem acquire (a : Addr) (w : World) : (callFunc 190 #[.pointer (some a)]).run Tryz.prog w = .ok (.value (.tuple #[])) w := run_call_marked Tryz.func190 (by kernel_rfl) (by kernel_rfl) (by kernel_rfl) .acquire (by kernel_rfl) a w
theorem releaseMerge (a : Addr) (w : World) : (callFunc 192 #[.pointer (some a)]).run Tryz.prog w = .ok (.value (.tuple #[])) w := run_call_marked Tryz.func192 (by kernel_rfl) (by kernel_rfl) (by kernel_rfl) .releaseMerge (by kernel_rfl) a w
theorem store_deferred (a : Addr) (x : Value) (u : FrameMode) (w : World) (hc : w.cell? a = some x) (hz : w.frozen? a = false) :
  CallsD Tryz.prog 153 #[.pointer (some a), .bool true] u w fun e u' w' => u' = u ∧ (e = .returned (.tuple #[]) ∧ w' = w.drew.setCell a (.int .u32 1)) := by
 have hc' : w.drew.cell? a = some x := by go_simp
 have hz' : w.drew.frozen? a = false := by go_simp
 have hst := run_call_store (P := Tryz.prog) Tryz.func178 (by kernel_rfl) (by kernel_rfl) (by kernel_rfl) (by kernel_rfl) (k := .u32) (y := 1) hc' hz'
 go_enter_d Tryz.func153, Tryz.ntmps153
 go_wp2
 go_region_calls
 all_goals (go_end0; exact ⟨rfl, rfl⟩)
theorem unlock_deferred (a : Addr) (u : FrameMode) (w : World) (hc : w.cell? a = some (.int .i32 1)) (hz : w.frozen? a = false) :
  CallsD Tryz.prog 152 #[.pointer (some a)] u w fun e u' w' => u' = u ∧ (e = .returned (.tuple #[]) ∧ w' = w.setCell a (.int .i32 0)) := by
 have hd := disable
 have he := enable
 have hr := releaseMerge
 have hadd := run_call_add (P := Tryz.prog) Tryz.func193 (by kernel_rfl) (by kernel_rfl) (by kernel_rfl) .i32 (by kernel_rfl) (y := -1) (s := 0) hc hz (by simp [go_sem]; rfl)
 have hcv := run_convert_to_unsafe (P := Tryz.prog) (src := 246) (dst := 250) Tryz.underlying246 Tryz.underlying250 (by kernel_rfl) hc
 go_enter_d Tryz.func152, Tryz.ntmps152
 go_wp2
 go_end0
 go_wp2
 go_end0
 exact ⟨rfl, rfl⟩
theorem lock_free (a : Addr) (w : World) (hc : w.cell? a = some (.int .i32 0)) (hz : w.frozen? a = false) :
  Calls Tryz.prog 151 #[.pointer (some a)] w fun e w' => e = .returned (.tuple #[]) ∧ w' = w.setCell a (.int .i32 1) := by
 have hd := disable
 have he := enable
 have ha := acquire
 have hcas := run_call_cas_hit (P := Tryz.prog) Tryz.func188 (by kernel_rfl) (by kernel_rfl) (by kernel_rfl) .i32 (by kernel_rfl) (y := 1) hc hz
 have hc' : (w.setCell a (.int .i32 1)).cell? a = some (.int .i32 1) := World.cell?_setCell_same w a _ hc
 have hcv := run_convert_to_unsafe (P := Tryz.prog) (src := 246) (dst := 250) Tryz.underlying246 Tryz.underlying250 (by kernel_rfl) hc'
 go_enter Tryz.func151, Tryz.ntmps151
 go_wp2
 first | go_end0 | (simp only [Exit.inBlock, Exit.then]; refine bodyPost_ret (results_none rfl _ _ _) rfl ?_) | refine bodyPost_ret (results_none rfl _ _ _) rfl ?_
 go_wp2
 go_end0
 exact ⟨rfl, rfl⟩
theorem load_zero (a : Addr) (w : World) (hc : w.cell? a = some (.int .u32 0)) :
  Calls Tryz.prog 116 #[.pointer (some a)] w fun e w' => e = .returned (.bool false) ∧ w' = w := by
 have hl := run_call_load (P := Tryz.prog) Tryz.func150 (by kernel_rfl) (by kernel_rfl) (by kernel_rfl) .u32 (by kernel_rfl) hc
 go_enter Tryz.func116, Tryz.ntmps116
 go_wp2
 go_ret
 exact ⟨rfl, rfl⟩
/-- Do, done already: the function is not called. -/
theorem do_done (a : Addr) (fv : Value) (w : World) (h0 : w.cell? a = some (.int .u32 1)) :
  Calls Tryz.prog 80 #[.pointer (some a), fv] w fun e w' => e = .returned (.tuple #[]) ∧ w' = w := by
 have hl := run_call_load (P := Tryz.prog) Tryz.func150 (by kernel_rfl) (by kernel_rfl) (by kernel_rfl) .u32 (by kernel_rfl) h0
 have hnot : ∀ (x : Bool) (w : World), (Op.unary .not (.bool x)).run Tryz.prog w = .ok (.bool (!x)) w := fun _ _ => rfl
 go_enter Tryz.func80, Tryz.ntmps80
 go_wp2
 go_end0
 exact ⟨rfl, rfl⟩
set_option maxRecDepth 100000 in
/-- doSlow, not yet done, the lock free; the function by its contract. -/
theorem slow_112 (b off : Nat) (p0 p1 p2 p3 : Addr) (w : World) (Q : World → Prop)
  (h0 : w.cell? ⟨b, off, none⟩ = some (.int .u32 0)) (h1 : w.cell? ⟨b, off + 1, none⟩ = some (.int .i32 0))
  (f0 : w.frozen? ⟨b, off, none⟩ = false) (f1 : w.frozen? ⟨b, off + 1, none⟩ = false)
  (hf : Calls Tryz.prog 112 #[.pointer (some p0), .pointer (some p1), .pointer (some p2), .pointer (some p3)] (w.setCell ⟨b, off + 1, none⟩ (.int .i32 1)) fun e w2 => e = .returned (.tuple #[]) ∧ w2.cell? ⟨b, off, none⟩ = some (.int .u32 0) ∧ w2.cell? ⟨b, off + 1, none⟩ = some (.int .i32 1) ∧ w2.frozen? ⟨b, off, none⟩ = false ∧ w2.frozen? ⟨b, off + 1, none⟩ = false ∧ Q w2) :
  Calls Tryz.prog 117 #[.pointer (some ⟨b, off, none⟩), .func (.func 112) #[] #[.pointer (some p0), .pointer (some p1), .pointer (some p2), .pointer (some p3)]] w fun e w' => e = .returned (.tuple #[]) ∧
   ∃ w2, Q w2 ∧ w' = (w2.drew.setCell ⟨b, off, none⟩ (.int .u32 1)).setCell ⟨b, off + 1, none⟩ (.int .i32 0) := by
 have hl := run_call_load (P := Tryz.prog) Tryz.func150 (by kernel_rfl) (by kernel_rfl) (by kernel_rfl) .u32 (by kernel_rfl) (w := w.setCell ⟨b, off + 1, none⟩ (.int .i32 1)) (a := ⟨b, off, none⟩) (x := 0) ((World.cell?_setCell_other _ ⟨b, off + 1, none⟩ ⟨b, off, none⟩ _ (by simp)).trans h0)
 have hnot : ∀ (x : Bool) (w : World), (Op.unary .not (.bool x)).run Tryz.prog w = .ok (.bool (!x)) w := fun _ _ => rfl
 go_enter_defers Tryz.func117, Tryz.ntmps117
 go_wp2_with (first | (go_at_call 151; refine (lock_free ⟨b, off + 1, none⟩ _ (by go_simp) (by go_simp)).mono ?_; rintro e w' ⟨rfl, rfl⟩) | (go_at_call 116; refine (load_zero ⟨b, off, none⟩ _ ((World.cell?_setCell_other _ ⟨b, off + 1, none⟩ ⟨b, off, none⟩ _ (by simp)).trans h0)).mono ?_; rintro e w' ⟨rfl, rfl⟩) | (go_at_call 112; refine hf.mono ?_; rintro e w2 ⟨rfl, c0, c1, z0, z1, hq⟩))
 go_wp2
 refine leaves_cons (f := 153) (args := #[.pointer (some ⟨b, off, none⟩), .bool true]) (by simp) (by simp [go_sem]) ?_
 refine (store_deferred ⟨b, off, none⟩ (.int .u32 0) .returning _ c0 z0).mono ?_
 rintro e u' w'' ⟨rfl, rfl, rfl⟩
 refine leaves_cons (f := 152) (args := #[.pointer (some ⟨b, off + 1, none⟩)]) (by simp [settle]) (by simp [go_sem]) ?_
 refine (unlock_deferred ⟨b, off + 1, none⟩ _ _ ?_ (by simp [z1])).mono ?_
 ·refine (World.cell?_setCell_other _ ⟨b, off, none⟩ ⟨b, off + 1, none⟩ _ (by simp)).trans ?_
  rw [World.cell?_drew]
  exact c1
 rintro e u' w''' ⟨rfl, rfl, rfl⟩
 simp [Leaves, settle, results, Tryz.results117]
 exact ⟨_, hq, rfl⟩
/-- Do, not yet done. -/
theorem do_112 (b off : Nat) (p0 p1 p2 p3 : Addr) (w : World) (Q : World → Prop)
  (h0 : w.cell? ⟨b, off, none⟩ = some (.int .u32 0)) (h1 : w.cell? ⟨b, off + 1, none⟩ = some (.int .i32 0))
  (f0 : w.frozen? ⟨b, off, none⟩ = false) (f1 : w.frozen? ⟨b, off + 1, none⟩ = false)
  (hf : Calls Tryz.prog 112 #[.pointer (some p0), .pointer (some p1), .pointer (some p2), .pointer (some p3)] (w.setCell ⟨b, off + 1, none⟩ (.int .i32 1)) fun e w2 => e = .returned (.tuple #[]) ∧ w2.cell? ⟨b, off, none⟩ = some (.int .u32 0) ∧ w2.cell? ⟨b, off + 1, none⟩ = some (.int .i32 1) ∧ w2.frozen? ⟨b, off, none⟩ = false ∧ w2.frozen? ⟨b, off + 1, none⟩ = false ∧ Q w2) :
  Calls Tryz.prog 80 #[.pointer (some ⟨b, off, none⟩), .func (.func 112) #[] #[.pointer (some p0), .pointer (some p1), .pointer (some p2), .pointer (some p3)]] w fun e w' => e = .returned (.tuple #[]) ∧
   ∃ w2, Q w2 ∧ w' = (w2.drew.setCell ⟨b, off, none⟩ (.int .u32 1)).setCell ⟨b, off + 1, none⟩ (.int .i32 0) := by
 have hnot : ∀ (x : Bool) (w : World), (Op.unary .not (.bool x)).run Tryz.prog w = .ok (.bool (!x)) w := fun _ _ => rfl
 go_enter Tryz.func80, Tryz.ntmps80
 go_wp2_with (first | (go_at_call 116; refine (load_zero ⟨b, off, none⟩ _ h0).mono ?_; rintro e w' ⟨rfl, rfl⟩) | (go_at_call 117; refine (slow_112 b off p0 p1 p2 p3 _ Q h0 h1 f0 f1 hf).mono ?_; rintro e w' ⟨rfl, w2, hq, rfl⟩))
 go_end0
 exact ⟨rfl, _, hq, rfl⟩
/-- Do, not yet done, over chunks. -/
theorem once_112 {w0 w : World} {G : List Ch} {κ : Type} {b e k : Nat} {cs : List Value} (p0 p1 p2 p3 : Addr) (s : Sat w0 G w) (hk : G[k]? = some (blk b (.int .u32 0 :: .int .i32 0 :: cs) e)) (G' : κ → List Ch) (cs' : κ → List Value)
  (hk' : ∀ x, (G' x)[k]? = some (blk b (.int .u32 0 :: .int .i32 1 :: cs' x) e))
  (hf : ∀ w1, Sat w0 (G.set k (blk b (.int .u32 0 :: .int .i32 1 :: cs) e)) w1 → Calls Tryz.prog 112 #[.pointer (some p0), .pointer (some p1), .pointer (some p2), .pointer (some p3)] w1 fun e w2 => e = .returned (.tuple #[]) ∧ ∃ x, Sat w0 (G' x) w2) :
  Calls Tryz.prog 80 #[.pointer (some ⟨b, 0, none⟩), .func (.func 112) #[] #[.pointer (some p0), .pointer (some p1), .pointer (some p2), .pointer (some p3)]] w fun r w' => r = .returned (.tuple #[]) ∧ ∃ x, Sat w0 ((G' x).set k (blk b (.int .u32 1 :: .int .i32 0 :: cs' x) e)) w' := by
 have hb := (s.getBlk hk).1
 refine (do_112 b 0 p0 p1 p2 p3 w (fun w2 => ∃ x, Sat w0 (G' x) w2) (s.cellAt hk rfl) (s.cellAt hk rfl) (frozen0 hb) (frozen0 hb) ((hf _ (s.cellSet hk 1 (.int .i32 1))).mono ?_)).mono ?_
 ·rintro r w2 ⟨rfl, x, s2⟩
  have hb2 := (s2.getBlk (hk' x)).1
  exact ⟨rfl, s2.cellAt (hk' x) rfl, s2.cellAt (hk' x) rfl, frozen0 hb2, frozen0 hb2, x, s2⟩
 ·rintro r w' ⟨rfl, w2, ⟨x, s2⟩, rfl⟩
  refine ⟨rfl, x, ?_⟩
  have hkl := (List.getElem?_eq_some_iff.1 (hk' x)).1
  have s3 := s2.drewS.cellSet (hk' x) 0 (.int .u32 1)
  have s4 := s3.cellSet (k := k) (by rw [List.getElem?_set_self hkl]) 1 (.int .i32 0)
  rw [List.set_set] at s4
  exact s4
set_option maxRecDepth 100000 in
/-- doSlow, not yet done, the lock free; the function by its contract. -/
theorem slow_81 (b off : Nat) (p0 p1 p2 p3 : Addr) (w : World) (Q : World → Prop)
  (h0 : w.cell? ⟨b, off, none⟩ = some (.int .u32 0)) (h1 : w.cell? ⟨b, off + 1, none⟩ = some (.int .i32 0))
  (f0 : w.frozen? ⟨b, off, none⟩ = false) (f1 : w.frozen? ⟨b, off + 1, none⟩ = false)
  (hf : Calls Tryz.prog 81 #[.pointer (some p0), .pointer (some p1), .pointer (some p2), .pointer (some p3)] (w.setCell ⟨b, off + 1, none⟩ (.int .i32 1)) fun e w2 => e = .returned (.tuple #[]) ∧ w2.cell? ⟨b, off, none⟩ = some (.int .u32 0) ∧ w2.cell? ⟨b, off + 1, none⟩ = some (.int .i32 1) ∧ w2.frozen? ⟨b, off, none⟩ = false ∧ w2.frozen? ⟨b, off + 1, none⟩ = false ∧ Q w2) :
  Calls Tryz.prog 117 #[.pointer (some ⟨b, off, none⟩), .func (.func 81) #[] #[.pointer (some p0), .pointer (some p1), .pointer (some p2), .pointer (some p3)]] w fun e w' => e = .returned (.tuple #[]) ∧
   ∃ w2, Q w2 ∧ w' = (w2.drew.setCell ⟨b, off, none⟩ (.int .u32 1)).setCell ⟨b, off + 1, none⟩ (.int .i32 0) := by
 have hl := run_call_load (P := Tryz.prog) Tryz.func150 (by kernel_rfl) (by kernel_rfl) (by kernel_rfl) .u32 (by kernel_rfl) (w := w.setCell ⟨b, off + 1, none⟩ (.int .i32 1)) (a := ⟨b, off, none⟩) (x := 0) ((World.cell?_setCell_other _ ⟨b, off + 1, none⟩ ⟨b, off, none⟩ _ (by simp)).trans h0)
 have hnot : ∀ (x : Bool) (w : World), (Op.unary .not (.bool x)).run Tryz.prog w = .ok (.bool (!x)) w := fun _ _ => rfl
 go_enter_defers Tryz.func117, Tryz.ntmps117
 go_wp2_with (first | (go_at_call 151; refine (lock_free ⟨b, off + 1, none⟩ _ (by go_simp) (by go_simp)).mono ?_; rintro e w' ⟨rfl, rfl⟩) | (go_at_call 116; refine (load_zero ⟨b, off, none⟩ _ ((World.cell?_setCell_other _ ⟨b, off + 1, none⟩ ⟨b, off, none⟩ _ (by simp)).trans h0)).mono ?_; rintro e w' ⟨rfl, rfl⟩) | (go_at_call 81; refine hf.mono ?_; rintro e w2 ⟨rfl, c0, c1, z0, z1, hq⟩))
 go_wp2
 refine leaves_cons (f := 153) (args := #[.pointer (some ⟨b, off, none⟩), .bool true]) (by simp) (by simp [go_sem]) ?_
 refine (store_deferred ⟨b, off, none⟩ (.int .u32 0) .returning _ c0 z0).mono ?_
 rintro e u' w'' ⟨rfl, rfl, rfl⟩
 refine leaves_cons (f := 152) (args := #[.pointer (some ⟨b, off + 1, none⟩)]) (by simp [settle]) (by simp [go_sem]) ?_
 refine (unlock_deferred ⟨b, off + 1, none⟩ _ _ ?_ (by simp [z1])).mono ?_
 ·refine (World.cell?_setCell_other _ ⟨b, off, none⟩ ⟨b, off + 1, none⟩ _ (by simp)).trans ?_
  rw [World.cell?_drew]
  exact c1
 rintro e u' w''' ⟨rfl, rfl, rfl⟩
 simp [Leaves, settle, results, Tryz.results117]
 exact ⟨_, hq, rfl⟩
/-- Do, not yet done. -/
theorem do_81 (b off : Nat) (p0 p1 p2 p3 : Addr) (w : World) (Q : World → Prop)
  (h0 : w.cell? ⟨b, off, none⟩ = some (.int .u32 0)) (h1 : w.cell? ⟨b, off + 1, none⟩ = some (.int .i32 0))
  (f0 : w.frozen? ⟨b, off, none⟩ = false) (f1 : w.frozen? ⟨b, off + 1, none⟩ = false)
  (hf : Calls Tryz.prog 81 #[.pointer (some p0), .pointer (some p1), .pointer (some p2), .pointer (some p3)] (w.setCell ⟨b, off + 1, none⟩ (.int .i32 1)) fun e w2 => e = .returned (.tuple #[]) ∧ w2.cell? ⟨b, off, none⟩ = some (.int .u32 0) ∧ w2.cell? ⟨b, off + 1, none⟩ = some (.int .i32 1) ∧ w2.frozen? ⟨b, off, none⟩ = false ∧ w2.frozen? ⟨b, off + 1, none⟩ = false ∧ Q w2) :
  Calls Tryz.prog 80 #[.pointer (some ⟨b, off, none⟩), .func (.func 81) #[] #[.pointer (some p0), .pointer (some p1), .pointer (some p2), .pointer (some p3)]] w fun e w' => e = .returned (.tuple #[]) ∧
   ∃ w2, Q w2 ∧ w' = (w2.drew.setCell ⟨b, off, none⟩ (.int .u32 1)).setCell ⟨b, off + 1, none⟩ (.int .i32 0) := by
 have hnot : ∀ (x : Bool) (w : World), (Op.unary .not (.bool x)).run Tryz.prog w = .ok (.bool (!x)) w := fun _ _ => rfl
 go_enter Tryz.func80, Tryz.ntmps80
 go_wp2_with (first | (go_at_call 116; refine (load_zero ⟨b, off, none⟩ _ h0).mono ?_; rintro e w' ⟨rfl, rfl⟩) | (go_at_call 117; refine (slow_81 b off p0 p1 p2 p3 _ Q h0 h1 f0 f1 hf).mono ?_; rintro e w' ⟨rfl, w2, hq, rfl⟩))
 go_end0
 exact ⟨rfl, _, hq, rfl⟩
/-- Do, not yet done, over chunks. -/
theorem once_81 {w0 w : World} {G : List Ch} {κ : Type} {b e k : Nat} {cs : List Value} (p0 p1 p2 p3 : Addr) (s : Sat w0 G w) (hk : G[k]? = some (blk b (.int .u32 0 :: .int .i32 0 :: cs) e)) (G' : κ → List Ch) (cs' : κ → List Value)
  (hk' : ∀ x, (G' x)[k]? = some (blk b (.int .u32 0 :: .int .i32 1 :: cs' x) e))
  (hf : ∀ w1, Sat w0 (G.set k (blk b (.int .u32 0 :: .int .i32 1 :: cs) e)) w1 → Calls Tryz.prog 81 #[.pointer (some p0), .pointer (some p1), .pointer (some p2), .pointer (some p3)] w1 fun e w2 => e = .returned (.tuple #[]) ∧ ∃ x, Sat w0 (G' x) w2) :
  Calls Tryz.prog 80 #[.pointer (some ⟨b, 0, none⟩), .func (.func 81) #[] #[.pointer (some p0), .pointer (some p1), .pointer (some p2), .pointer (some p3)]] w fun r w' => r = .returned (.tuple #[]) ∧ ∃ x, Sat w0 ((G' x).set k (blk b (.int .u32 1 :: .int .i32 0 :: cs' x) e)) w' := by
 have hb := (s.getBlk hk).1
 refine (do_81 b 0 p0 p1 p2 p3 w (fun w2 => ∃ x, Sat w0 (G' x) w2) (s.cellAt hk rfl) (s.cellAt hk rfl) (frozen0 hb) (frozen0 hb) ((hf _ (s.cellSet hk 1 (.int .i32 1))).mono ?_)).mono ?_
 ·rintro r w2 ⟨rfl, x, s2⟩
  have hb2 := (s2.getBlk (hk' x)).1
  exact ⟨rfl, s2.cellAt (hk' x) rfl, s2.cellAt (hk' x) rfl, frozen0 hb2, frozen0 hb2, x, s2⟩
 ·rintro r w' ⟨rfl, w2, ⟨x, s2⟩, rfl⟩
  refine ⟨rfl, x, ?_⟩
  have hkl := (List.getElem?_eq_some_iff.1 (hk' x)).1
  have s3 := s2.drewS.cellSet (hk' x) 0 (.int .u32 1)
  have s4 := s3.cellSet (k := k) (by rw [List.getElem?_set_self hkl]) 1 (.int .i32 0)
  rw [List.set_set] at s4
  exact s4
end Go.Proofs.YthdbofgcckjopaaGreat
