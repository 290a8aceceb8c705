/-
  RouteWays, as a pure function, is true. For arguments that are Go's.
-/
import Derived.Test.YthdbofgcckjopaaGreatRL
import Derived.Test.YthdbofgcckjopaaGreatRLG4
set_option linter.unusedVariables false
set_option linter.unusedSimpArgs false
set_option maxRecDepth 20000
namespace Go.Proofs.YthdbofgcckjopaaGreat
open Go.Vg Sp Qp RC
theorem MkR.walk {g : Grd} {c goal : Int} {fr : List Bool} {d : List Int} (hg : GOk g) (hc : 0 ≤ c ∧ c ≤ 2) (h : MkR g c goal fr d) (hgo : 0 ≤ goal ∧ goal < g.w * g.h) (hf : gi fr goal = true) {u k : Int} (w : Wk (Ed g c fr) goal u k) : (0 ≤ u ∧ u < g.w * g.h) ∧ 0 ≤ gi d u ∧ gi d u ≤ k := by
  rcases h.is with ⟨_, h2⟩ | ⟨h2, _⟩
  · have h3 := h2.walk (fun a b k ha hE => (Ed.bd hg hc ha hE).1) hgo (by rw [h2.zero]; omega) w
    rw [h2.zero] at h3
    exact ⟨h3.1, h3.2.1, by have := h3.2.2; omega⟩
  · exact absurd hf h2
theorem MkR.has {g : Grd} {c goal : Int} {fr : List Bool} {d : List Int} (h : MkR g c goal fr d) {u : Int} (hu : 0 ≤ u ∧ u < g.w * g.h) (h0 : 0 ≤ gi d u) : gi fr goal = true ∧ gi fr u = true ∧ Wk (Ed g c fr) goal u (gi d u) := by
  rcases h.is with ⟨h1, h2⟩ | ⟨_, h2⟩
  · exact ⟨h1, h.free u hu h0, h2.has u hu h0⟩
  · have := h2 u hu; omega
theorem rways_law {p : Ask13} : thronglaw14_RouteWays p = some true := by
  unfold thronglaw14_RouteWays
  rw [heavy14_p, bsome]
  refine Ok.eq (Ok.bind (R := fun b => b = false → ((p.g.tiles.length : Int) ≤ 700 ∧ (p.l.length : Int) ≤ 30 ∧ (p.ts.length : Int) ≤ 30) ∧ AOk p.g p.l p.cls p.size) (Ok.ite (fun _ => Ok.ret (fun e => by cases e)) (fun hh => ?_)) fun b hb => Ok.ite (fun _ => Ok.ret rfl) fun hbf => ?_)
  · have hz : (p.g.tiles.length : Int) ≤ 700 ∧ (p.l.length : Int) ≤ 30 ∧ (p.ts.length : Int) ≤ 30 := by simp at hh; omega
    exact Ok.bind (mayFR_b (by omega) (by omega)) fun b hb => Ok.ret fun e => ⟨hz, hb.1 (by simpa using e)⟩
  obtain ⟨hz, ha⟩ := hb (by simpa using hbf)
  have hg := ha.1.1
  have har := hg.area
  have hgl := hg.2.2.1
  refine Ok.bind (scanOkB (a := 0) (n := max 0 (min ((p.ts.length : Int) - 1) 6)) (fun _ => True) (fun _ => False) (by omega) (by omega) (fun v v0 v1 => ?_) ?_) ?_
  · refine Ok.gd (by unfold I64; omega) ?_
    rw [if_pos (by omega)]
    refine Ok.gd (by omega) (Ok.gd (by unfold I64; omega) (Ok.gd (by omega) ?_))
    obtain ⟨s, hs⟩ : ∃ s, s = gi p.ts v := ⟨_, rfl⟩
    obtain ⟨u, hu⟩ : ∃ u, u = gi p.ts (v + 1) := ⟨_, rfl⟩
    rw [← hs, ← hu, tile13_p hg, bsome]
    refine Ok.bind (R := fun b => b = false → (0 ≤ s ∧ s < p.g.w * p.g.h) ∧ (0 ≤ u ∧ u < p.g.w * p.g.h)) (Ok.ite (fun _ => Ok.ret (fun e => by cases e)) fun h => ?_) fun b hb => Ok.ite (fun _ => Ok.gd (by unfold I64; omega) (Ok.ret ⟨rfl, trivial⟩)) fun hbf => ?_
    · rw [tile13_p hg, bsome]
      exact Ok.ret fun e => ⟨by simpa using h, by simpa using e⟩
    obtain ⟨h1, h2⟩ := hb (by simpa using hbf)
    obtain ⟨⟨d, e⟩, hd, he, fr, hfr, hmk⟩ := make_b ha h2 (by omega) (by omega)
    dsimp only at he hmk
    subst he
    have hdl := hmk.len
    obtain ⟨r, hr, hfd⟩ := find_r (g := p.g) (l := p.l) (cls := p.cls) (size := p.size) (s := s) (u := u) (by omega) (by omega)
    rw [hd, bsome, hr, bsome]
    simp only [num14_p, Option.bind_some]
    rw [if_neg (fun h => h.elim (fun h => h trivial) (fun h => h (by omega))), if_pos (by omega)]
    -- there is a route where there is a way
    have key : (0 ≤ gi d s ↔ r.2 = 0) ∧ (r.2 = 0 ∨ r.2 = 5) ∧ (r.2 = 0 → gi d s ≤ r.1.cost ∧ r.1.sectors.length = r.1.portals.length + 1 ∧ r.1.portals.length ≤ 5000) := by
      rcases hfd with ⟨hno, _⟩ | ⟨_, ⟨hno, _⟩ | ⟨_, fr', hfr', hfd⟩⟩
      · exact absurd ha hno
      · exact absurd ⟨h1, h2⟩ hno
      · have := GdF.same ha hfr hfr'
        subst this
        rcases hfd with ⟨hnf, rfl⟩ | ⟨hf, ps, hfa⟩
        · refine ⟨⟨fun h => ?_, fun h => by have : (5 : Int) = 0 := h; omega⟩, .inr rfl, fun h => by have : (5 : Int) = 0 := h; omega⟩
          have := hmk.has h1 h
          exact absurd ⟨this.2.1, this.1⟩ hnf
        · have ho := hfa.ho
          have hs' : (rc p.g p.cls fr ps).In s := h1
          have hu' : (rc p.g p.cls fr ps).In u := h2
          rcases hfa.r with ⟨rfl, hno⟩ | ⟨C, P, hb, rfl⟩
          · refine ⟨⟨fun h => ?_, fun h => by have : (5 : Int) = 0 := h; omega⟩, .inr rfl, fun h => by have : (5 : Int) = 0 := h; omega⟩
            obtain ⟨L, c, hrt⟩ := ((Cn.wk ho hu' hf.2 (hmk.has h1 h).2.2).2).symm ho
            exact absurd hrt (hno L c)
          · have hw := (hb.1.rev ho).walk ho
            have h3 := hmk.walk hg ha.2.1 h2 hf.2 hw
            have hm := bst_mem ho hb hfa.len
            exact ⟨⟨fun _ => rfl, fun _ => h3.2.1⟩, .inl rfl, fun _ => ⟨h3.2.2, by simp only [List.length_cons, len_secL], hm.1⟩⟩
    obtain ⟨k1, k2, k3⟩ := key
    refine Ok.bindE (x := false) (by congr 1; exact decide_eq_false (fun h => h (decide_eq_decide.2 k1))) ?_
    refine Ok.bindE (x := false) ?_ ?_
    · rw [if_neg (by simp)]
      rcases k2 with h | h
      · rw [if_neg (fun hh => hh h)]; rfl
      · rw [if_pos (by omega), h]; rfl
    rw [if_neg (by simp)]
    refine Ok.gd (fun h => by omega) (Ok.gd (fun h _ => by have := (k3 h).2.2; unfold I64; omega) ?_)
    rw [if_neg (fun h => by have := k3 h.1; have := h.2; omega)]
    exact Ok.gd (by unfold I64; omega) (Ok.ret ⟨rfl, trivial⟩)
  · try dsimp only
    rw [if_pos (by unfold I64; omega), if_neg (by omega)]
  · rintro (_ | _) hx
    · dsimp only [Ex.then]
      rw [wakes14_p]
      exact Ok.ret rfl
    · exact hx.elim
end Go.Proofs.YthdbofgcckjopaaGreat
