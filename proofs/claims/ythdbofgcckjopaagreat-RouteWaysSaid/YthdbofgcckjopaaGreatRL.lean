/-
  What route.Find answers, as a pure function; how the statements of the routes compare. The conditions stand in each lemma.
-/
import Derived.Test.YthdbofgcckjopaaGreatW8
import Derived.Test.YthdbofgcckjopaaGreatRLG
set_option linter.unusedVariables false
set_option linter.unusedSimpArgs false
set_option maxRecDepth 20000
namespace Go.Vg
/-- Over the places from a to n, where only those may be asked. -/
theorem scanOkB {β : Type} {f : Int → Option (St Int (Ex Unit β))} {a n : Int} (G : Int → Prop) (U : β → Prop) (ha : a ≤ n) (hn : n - a < 9223372036854775808)
    (step : ∀ v, a ≤ v → v < n → Ok (f v) fun y => match y with | .next s => s = v + 1 ∧ G v | .done (.up r) => U r | .done (.go _) => False)
    (fin : f n = some (St.done (Ex.go ()))) : Ok (loop f a) fun x => match x with | .go _ => ∀ u, a ≤ u → u < n → G u | .up r => U r := by
  refine Ok.loop (fun v => (a ≤ v ∧ v ≤ n) ∧ ∀ u, a ≤ u → u < v → G u) (fun v => (n - v).toNat) ⟨⟨Int.le_refl _, ha⟩, fun u h1 h2 => by omega⟩ (by unfold FUEL; omega) ?_
  rintro v ⟨⟨h1, h1'⟩, h2⟩
  by_cases hv : v < n
  · obtain ⟨y, hy, hq⟩ := step v h1 hv
    refine ⟨y, hy, ?_⟩
    cases y with
    | next s =>
      obtain ⟨rfl, hg⟩ := hq
      refine ⟨⟨by omega, fun u u0 u1 => ?_⟩, by omega⟩
      by_cases e : u = v
      · subst e; exact hg
      · exact h2 u u0 (by omega)
    | done b =>
      cases b with
      | go _ => exact hq.elim
      | up r => exact hq
  · obtain rfl : v = n := by omega
    rw [fin]
    exact Ok.ret h2
end Go.Vg
namespace Go.Proofs.YthdbofgcckjopaaGreat
open Go.Vg Sp Qp RC
/-- What the program answers. -/
structure FA (g : Grd) (l : List Bld) (cls size s u : Int) (fr : List Bool) (ps : List Prt) (r : Rte × Int) : Prop where
  ho : (rc g cls fr ps).Ok
  hp : portal_All g.w g.h fr = some ps
  len : ps.length ≤ 5000
  r : (r = (⟨0, [], []⟩, 5) ∧ ∀ L c, ¬ Rt (rc g cls fr ps) s L c u) ∨ ∃ C P, Bst (rc g cls fr ps) s u C P ∧ r = (⟨C, P, (rc g cls fr ps).sec s :: secL (rc g cls fr ps) ((rc g cls fr ps).sec s) P⟩, 0)
def FD (g : Grd) (l : List Bld) (cls size s u : Int) (r : Rte × Int) : Prop :=
  (¬ AOk g l cls size ∧ r = (⟨0, [], []⟩, 1)) ∨ (AOk g l cls size ∧ ((¬ ((0 ≤ s ∧ s < g.w * g.h) ∧ (0 ≤ u ∧ u < g.w * g.h)) ∧ r = (⟨0, [], []⟩, 3)) ∨
    (((0 ≤ s ∧ s < g.w * g.h) ∧ (0 ≤ u ∧ u < g.w * g.h)) ∧ ∃ fr, GdF g l cls size fr ∧ ((¬ (gi fr s = true ∧ gi fr u = true) ∧ r = (⟨0, [], []⟩, 5)) ∨ ((gi fr s = true ∧ gi fr u = true) ∧ ∃ ps, FA g l cls size s u fr ps r)))))
theorem bst_mem {x : RC} (ho : x.Ok) {s u C : Int} {P : List Int} (h : Bst x s u C P) (hl : x.ps.length ≤ 5000) : P.length ≤ 5000 ∧ ∀ k : Int, 0 ≤ k → k < (P.length : Int) → 0 ≤ gi P k ∧ gi P k < (x.ps.length : Int) := by
  have hm := (Rt.secs ho h.1).1
  refine ⟨?_, fun k k0 k1 => (hm k k0 k1).1⟩
  have key : ∀ (n : Nat) (L : List Int), L.Nodup → (∀ k ∈ L, 0 ≤ k ∧ k < (n : Int)) → L.length ≤ n := fun n => by
    induction n with
    | zero =>
      intro L _ hk
      cases L with
      | nil => exact Nat.le_refl _
      | cons k L => have := hk k (List.mem_cons_self ..); omega
    | succ n ih =>
      intro L hn hk
      by_cases hm : (n : Int) ∈ L
      · have h1 := ih (L.erase (n : Int)) (hn.erase _) fun k hk' => by
          have := hn.mem_erase_iff.1 hk'
          have h2 := hk k this.2
          have := this.1
          omega
        rw [List.length_erase_of_mem hm] at h1
        omega
      · have := ih L hn fun k hk' => by
          have := hk k hk'
          have h3 : k ≠ (n : Int) := fun e => hm (e ▸ hk')
          omega
        omega
  have := key x.ps.length P (h.nodup ho) fun k hk => by
    obtain ⟨i, i0, i1, rfl⟩ := gi_mem2.1 hk
    exact (hm i i0 i1).1
  omega
theorem find_r {g : Grd} {l : List Bld} {cls size s u : Int} (hg : g.tiles.length ≤ 9223372036854775806) (hl : l.length ≤ 9223372036854775806) : Ok (route_Find FUEL g l cls size s u) (FD g l cls size s u) := by
  unfold route_Find
  by_cases ha : AOk g l cls size
  · have hgo := ha.1.1
    have har := hgo.area
    have is : ∀ t, ground_Is g t = some (decide (0 ≤ t ∧ t < g.w * g.h)) := fun t => by unfold ground_Is; rw [if_pos (fun _ => by unfold I64; omega)]
    rw [(mayF_b hg hl).t ha, bsome, if_neg (by simp), is, bsome]
    refine Ok.ite (fun h => Ok.ret (.inr ⟨ha, .inl ⟨fun hh => by simp [hh.1] at h, rfl⟩⟩)) fun h => ?_
    have hs : 0 ≤ s ∧ s < g.w * g.h := by simpa using h
    rw [is, bsome]
    refine Ok.ite (fun h => Ok.ret (.inr ⟨ha, .inl ⟨fun hh => by simp [hh.2] at h, rfl⟩⟩)) fun h => ?_
    have hu : 0 ≤ u ∧ u < g.w * g.h := by simpa using h
    unfold field_Open
    obtain ⟨fr, e, hfr⟩ := fit_f ha
    have hf := hfr.len
    rw [e, bsome, bsome]
    refine Ok.gd (by show 0 ≤ s ∧ s < (fr.length : Int); omega) (Ok.gd (by show 0 ≤ u ∧ u < (fr.length : Int); omega) (Ok.ite (fun h => Ok.ret (.inr ⟨ha, .inr ⟨⟨hs, hu⟩, fr, hfr, .inl ⟨fun hh => ?_, rfl⟩⟩⟩)) fun h => ?_))
    · dsimp only at h
      rw [hh.1, hh.2] at h; simp at h
    · have hfree : gi fr s = true ∧ gi fr u = true := by simpa using h
      refine Ok.bind (fresh_p hgo ha.2.1 hf (hfr.open hgo ha.2.2.1)) ?_
      rintro X ⟨ps, hps, ho, hX⟩
      refine Ok.mono (Q := FA g l cls size s u fr ps) ?_ fun r hr => .inr ⟨ha, .inr ⟨⟨hs, hu⟩, fr, hfr, .inr ⟨hfree, ps, hr⟩⟩⟩
      refine Ok.bind (mfind_p ho hX (s := s) (g := u) hs hu) ?_
      rintro ⟨e, ok⟩ ⟨⟨h1, h2⟩, h3⟩
      dsimp only at h1 h2 h3 ⊢
      refine Ok.ite (fun h => Ok.ret ⟨ho, hps, hX.z.len, .inl ⟨rfl, h2 (by simpa using h)⟩⟩) fun h => ?_
      have hb := h1 (by simpa using h)
      rw [msecs_p ho hX.z hs (by omega) (bst_mem ho hb hX.z.len).2, bsome]
      exact Ok.ret ⟨ho, hps, hX.z.len, .inr ⟨_, _, hb, rfl⟩⟩
  · rw [(mayF_b hg hl).f ha, bsome, if_pos (by rfl)]
    exact Ok.ret (.inl ⟨ha, rfl⟩)
theorem num14_p (e : Int) : thronglaw14_num e = some e := rfl
theorem heavy14_p (p : Ask13) : thronglaw13_Heavy p = some (decide ((decide ((700 < (p.g.tiles.length : Int)) ∨ (30 < (p.l.length : Int))) = true) ∨ (30 < (p.ts.length : Int)))) := rfl
theorem wakes14_p : thronglaw14_wakes = some true := by decide +kernel
theorem GdF.same {g : Grd} {l : List Bld} {c s : Int} {fr fr' : List Bool} (ha : AOk g l c s) (h : GdF g l c s fr) (k : GdF g l c s fr') : fr = fr' := GdF.uniq ha.1.1 h k
end Go.Proofs.YthdbofgcckjopaaGreat
