/-
  RouteTurned, as a pure function, is true. For arguments that are Go's.
-/
import Derived.Test.YthdbofgcckjopaaRL
import Derived.Test.YthdbofgcckjopaaRLG2
set_option linter.unusedVariables false
set_option linter.unusedSimpArgs false
set_option maxRecDepth 20000
namespace Go.Proofs.Ythdbofgcckjopaa
open Go.Vg Sp Qp RC
theorem FD.fa {g : Grd} {l : List Bld} {cls size s u : Int} {fr : List Bool} {r : Rte × Int} (ha : AOk g l cls size) (hs : 0 ≤ s ∧ s < g.w * g.h) (hu : 0 ≤ u ∧ u < g.w * g.h) (hfr : GdF g l cls size fr) (h : FD g l cls size s u r) :
    (¬ (gi fr s = true ∧ gi fr u = true) ∧ r = (⟨0, [], []⟩, 5)) ∨ ((gi fr s = true ∧ gi fr u = true) ∧ ∃ ps, FA g l cls size s u fr ps r) := by
  rcases h with ⟨hno, _⟩ | ⟨_, ⟨hno, _⟩ | ⟨_, fr', hfr', h⟩⟩
  · exact absurd ha hno
  · exact absurd ⟨hs, hu⟩ hno
  · have := GdF.same ha hfr hfr'
    subst this
    exact h
theorem rturned_law {p : Ask13} : thronglaw14_RouteTurned p = some true := by
  unfold thronglaw14_RouteTurned
  rw [heavy14_p, bsome]
  refine Ok.eq (Ok.bind (R := fun b => b = false → ((p.g.tiles.length : Int) ≤ 700 ∧ (p.l.length : Int) ≤ 30 ∧ (p.ts.length : Int) ≤ 30) ∧ AOk p.g p.l p.cls p.size) (Ok.ite (fun _ => Ok.ret (fun e => by cases e)) (fun hh => ?_)) fun b hb => Ok.ite (fun _ => Ok.ret rfl) fun hbf => ?_)
  · have hz : (p.g.tiles.length : Int) ≤ 700 ∧ (p.l.length : Int) ≤ 30 ∧ (p.ts.length : Int) ≤ 30 := by simp at hh; omega
    exact Ok.bind (mayFR_b (by omega) (by omega)) fun b hb => Ok.ret fun e => ⟨hz, hb.1 (by simpa using e)⟩
  obtain ⟨hz, ha⟩ := hb (by simpa using hbf)
  have hg := ha.1.1
  refine Ok.bind (scanOkB (a := 0) (n := max 0 (min ((p.ts.length : Int) - 1) 4)) (fun _ => True) (fun _ => False) (by omega) (by omega) (fun v v0 v1 => ?_) ?_) ?_
  · refine Ok.gd (by unfold I64; omega) ?_
    rw [if_pos (by omega)]
    refine Ok.gd (by omega) (Ok.gd (by unfold I64; omega) (Ok.gd (by omega) ?_))
    obtain ⟨s, hs⟩ : ∃ s, s = gi p.ts v := ⟨_, rfl⟩
    obtain ⟨u, hu⟩ : ∃ u, u = gi p.ts (v + 1) := ⟨_, rfl⟩
    rw [← hs, ← hu, tile13_p hg, bsome]
    refine Ok.bind (R := fun b => b = false → (0 ≤ s ∧ s < p.g.w * p.g.h) ∧ (0 ≤ u ∧ u < p.g.w * p.g.h)) (Ok.ite (fun _ => Ok.ret (fun e => by cases e)) fun h => ?_) fun b hb => Ok.ite (fun _ => Ok.gd (by unfold I64; omega) (Ok.ret ⟨rfl, trivial⟩)) fun hbf => ?_
    · rw [tile13_p hg, bsome]
      exact Ok.ret fun e => ⟨by simpa using h, by simpa using e⟩
    obtain ⟨h1, h2⟩ := hb (by simpa using hbf)
    obtain ⟨fr, _, hfr⟩ := fit_f ha
    obtain ⟨r, hr, hd⟩ := find_r (g := p.g) (l := p.l) (cls := p.cls) (size := p.size) (s := s) (u := u) (by omega) (by omega)
    obtain ⟨r', hr', hd'⟩ := find_r (g := p.g) (l := p.l) (cls := p.cls) (size := p.size) (s := u) (u := s) (by omega) (by omega)
    obtain ⟨q, hq, hdq⟩ := find_r (g := p.g) (l := p.l) (cls := p.cls) (size := p.size) (s := s) (u := s) (by omega) (by omega)
    rw [hr, bsome, hr', bsome, hq, bsome]
    simp only [num14_p, Option.bind_some]
    have key : (r.2 = r'.2 ∧ r.1.cost = r'.1.cost ∧ r.1.portals.length = r'.1.portals.length) ∧ (q.2 = 0 → q.1.cost = 0 ∧ q.1.portals.length = 0) ∧ (r.2 = 0 → q.2 = 0) := by
      have k3 : (q.2 = 0 → q.1.cost = 0 ∧ q.1.portals.length = 0) ∧ (gi fr s = true → q.2 = 0) := by
        rcases hdq.fa ha h1 h1 hfr with ⟨hnf, rfl⟩ | ⟨hf, ps, hfa⟩
        · exact ⟨fun h => ⟨rfl, rfl⟩, fun h => absurd ⟨h, h⟩ hnf⟩
        · have ho := hfa.ho
          have hs' : (rc p.g p.cls fr ps).In s := h1
          rcases hfa.r with ⟨rfl, hno⟩ | ⟨C, P, hb, rfl⟩
          · exact absurd (Rt.nil hs' hs' (by rw [dd_self ho hs' hf.1]; omega)) (hno _ _)
          · obtain ⟨e1, e2⟩ := hb.self ho
            exact ⟨fun _ => ⟨e1, by rw [e2]; rfl⟩, fun _ => rfl⟩
      rcases hd.fa ha h1 h2 hfr with ⟨hnf, rfl⟩ | ⟨hf, ps, hfa⟩ <;> rcases hd'.fa ha h2 h1 hfr with ⟨hnf', rfl⟩ | ⟨hf', ps', hfa'⟩
      · exact ⟨⟨rfl, rfl, rfl⟩, k3.1, fun h => by have : (5 : Int) = 0 := h; omega⟩
      · exact absurd ⟨hf'.2, hf'.1⟩ hnf
      · exact absurd ⟨hf.2, hf.1⟩ hnf'
      · refine ⟨?_, k3.1, fun _ => k3.2 hf.1⟩
        have e : ps = ps' := Option.some.inj (hfa.hp.symm.trans hfa'.hp)
        subst e
        have ho := hfa.ho
        rcases hfa.r with ⟨rfl, hno⟩ | ⟨C, P, hb, rfl⟩ <;> rcases hfa'.r with ⟨rfl, hno'⟩ | ⟨C', P', hb', rfl⟩
        · exact ⟨rfl, rfl, rfl⟩
        · exact absurd (hb'.1.rev ho) (hno _ _)
        · exact absurd (hb.1.rev ho) (hno' _ _)
        · obtain ⟨e1, e2⟩ := hb.turn ho hb'
          exact ⟨rfl, e1, e2⟩
    obtain ⟨⟨k1, k2, k3⟩, k4, k5⟩ := key
    refine Ok.bindE (x := false) (by rw [if_neg (by omega)]; exact congrArg some (decide_eq_false fun h => by have := k4 h.1; have := h.2; omega)) ?_
    refine Ok.bindE (x := false) ?_ ?_
    · rw [if_neg (by simp)]
      by_cases h : r.2 = 0
      · rw [if_pos h, bsome, decide_eq_false (fun hh => hh (k5 h))]
      · rw [if_neg h]; rfl
    rw [if_neg (by simp)]
    exact Ok.gd (by unfold I64; omega) (Ok.ret ⟨rfl, trivial⟩)
  · try dsimp only
    rw [if_pos (by unfold I64; omega), if_neg (by omega)]
  · rintro (_ | _) hx
    · dsimp only [Ex.then]
      rw [wakes14_p]
      exact Ok.ret rfl
    · exact hx.elim
end Go.Proofs.Ythdbofgcckjopaa
