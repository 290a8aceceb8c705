/-
  FieldGoes, as a pure function, is true. For arguments that are Go's.
-/
import Derived.Test.YtdaopgoaghhbpaaFZ
import Derived.Test.YtdaopgoaghhbpaaFT1
import Derived.Test.YtdaopgoaghhbpaaFG4
set_option linter.unusedVariables false
set_option linter.unusedSimpArgs false
namespace Go.Proofs.Ytdaopgoaghhbpaa
open Go.Vg
theorem form13_x {p : Ask13} (hg : p.g.tiles.length ≤ 9223372036854775806) (hl : p.l.length ≤ 9223372036854775806) : (AOk p.g p.l p.cls p.size ∧ thronglaw13_form p = some 0) ∨ (¬ AOk p.g p.l p.cls p.size ∧ thronglaw13_form p = some 1) := by
  obtain ⟨r, e, h | h⟩ := form13_b (p := p) hg hl
  · rw [h.1] at e; exact .inl ⟨h.2, e⟩
  · rw [h.1] at e; exact .inr ⟨h.2, e⟩
/-- How many are less. -/
def cnt (d : List Int) (m : Int) : Nat := d.countP fun v => decide (0 ≤ v ∧ v < m)
theorem cnt_le (d : List Int) (m : Int) : cnt d m ≤ d.length := List.countP_le_length
theorem cnt_mono {d : List Int} {a b : Int} (h : a ≤ b) : cnt d a ≤ cnt d b := by
  unfold cnt
  refine List.countP_mono_left fun x _ hx => ?_
  simp at hx ⊢; omega
theorem cnt_lt : ∀ {d : List Int} {a b : Int}, a ∈ d → 0 ≤ a → a < b → cnt d a + 1 ≤ cnt d b
  | x :: d, a, b, hm, h0, h => by
    unfold cnt
    rw [List.countP_cons, List.countP_cons]
    rcases List.mem_cons.1 hm with e | hm
    · subst e
      have := cnt_mono (d := d) (Int.le_of_lt h)
      unfold cnt at this
      rw [if_neg (by simp), if_pos (by simp; omega)]; omega
    · have ih := cnt_lt hm h0 h
      unfold cnt at ih
      by_cases h1 : 0 ≤ x ∧ x < a
      · rw [if_pos (by simpa using h1), if_pos (by simp; omega)]; omega
      · rw [if_neg (by simpa using h1)]; omega
theorem cost13_p {g : Grd} {c : Int} (hg : GOk g) (hc : 0 ≤ c ∧ c ≤ 2) {t u : Int} (ht : 0 ≤ t ∧ t < g.w * g.h) (hu : 0 ≤ u ∧ u < g.w * g.h) : thronglaw13_cost g c t u = some ((if t % g.w = u % g.w ∨ t / g.w = u / g.w then 5 else 7) * (tc g c t + tc g c u)) := by
  have ha := hg.area
  have hgl := hg.2.2.1
  have hgw := hg.1
  have h1 := tc_bd hg hc ht
  have h2 := tc_bd hg hc hu
  unfold thronglaw13_cost
  refine Ok.eq (Ok.gd (by omega) ?_)
  rw [cost_p hc ⟨by omega, hg.2.2.2 t ht.1 (by omega)⟩, bsome]
  refine Ok.gd (by omega) ?_
  rw [cost_p hc ⟨by omega, hg.2.2.2 u hu.1 (by omega)⟩, bsome]
  refine Ok.gd (by show I64 (tc g c t + tc g c u); unfold I64; omega) (Ok.gd (by omega) (Ok.gd (by omega) (Ok.gd (fun _ => by omega) (Ok.gd (fun _ => by omega) (Ok.ite (fun h => ?_) (fun h => ?_))))))
  · rw [if_pos h]
    exact Ok.gd (by show I64 (5 * (tc g c t + tc g c u)); unfold I64; omega) (Ok.ret rfl)
  · rw [if_neg h]
    exact Ok.gd (by show I64 (7 * (tc g c t + tc g c u)); unfold I64; omega) (Ok.ret rfl)
theorem SE.cost13 {g : Grd} {c : Int} {fr : List Bool} (hg : GOk g) (hc : 0 ≤ c ∧ c ≤ 2) {t u a b k : Int} (ht : 0 ≤ t ∧ t < g.w * g.h) (h : SE g c fr (t % g.w) (t / g.w) a b k) (hu : u = t % g.w + a + g.w * (t / g.w + b)) : thronglaw13_cost g c t u = some k := by
  have hxy := h.to.1.xy
  have hub := (h.to.1.bd hg).1
  have hk := h.cost
  rw [(On.of hg ht).2, ← hu] at hk
  rw [← hu] at hxy hub
  rw [cost13_p hg hc ht hub, hk, hxy.1, hxy.2]
  by_cases h0 : a = 0 ∨ b = 0
  · rw [if_pos h0, if_pos (by omega)]
  · rw [if_neg h0, if_neg (by omega)]
/-- The walk along the ways: where it stands. -/
def WI (g : Grd) (goal : Int) (d : List Int) (t : Int) (z : Int × Int × Int) : Prop := (0 ≤ z.1 ∧ z.1 < g.w * g.h) ∧ (0 ≤ z.2.1 ∧ z.2.1 ≤ 84 * 16384) ∧ (0 ≤ z.2.2 ∧ z.2.2 ≤ g.w * g.h) ∧ (gi d t < 0 → z.1 = t) ∧ (0 ≤ gi d t → 0 ≤ gi d z.1 ∧ z.2.1 + gi d z.1 = gi d t ∧ z.2.2 + cnt d (gi d z.1) ≤ cnt d (gi d t))
theorem goes_law {p : Ask13} : thronglaw13_FieldGoes p = some true := by
  unfold thronglaw13_FieldGoes
  rw [heavy13_p, bsome]
  by_cases hh : decide ((decide ((700 < (p.g.tiles.length : Int)) ∨ (30 < (p.l.length : Int))) = true) ∨ (30 < (p.ts.length : Int))) = true
  · rw [hh, if_pos rfl, bsome, if_pos rfl]
  have hz : (p.g.tiles.length : Int) ≤ 700 ∧ (p.l.length : Int) ≤ 30 ∧ (p.ts.length : Int) ≤ 30 := by simp at hh; omega
  rw [if_neg hh]
  rcases form13_x (p := p) (by omega) (by omega) with ⟨ha, e⟩ | ⟨hno, e⟩
  · rw [e, bsome, bsome, if_neg (by simp)]
    have hg := ha.1.1
    have hc := ha.2.1
    have har := hg.area
    have hgl := hg.2.2.1
    have hgw := hg.1
    obtain ⟨q, eq, hq⟩ := goodP_b (g := p.g) (l := p.l) (c := p.cls) (s := p.size) (by omega) (by omega)
    rcases hq with ⟨_, hq0, hqd⟩ | ⟨hno, _⟩
    · have hfr : GdF p.g p.l p.cls p.size q.1 := hqd
      have hfl := hfr.len
      rw [eq, bsome, num13_p, bsome]
      refine Ok.eq (Ok.ite (fun h => ?_) (fun _ => ?_))
      · rcases h with h | h
        · exact absurd hq0 h
        · exact absurd (by omega) h
      refine Ok.bind (scanOk (a := 0) (n := min p.ts.length 4) (fun _ => True) (fun _ => False) (by omega) (fun v v0 v1 _ => ?_) (fun v v0 v1 => by rw [if_neg (by omega)])) ?_
      · rw [if_pos (by omega), if_pos (by omega), tile13_p hg, bsome]
        refine Ok.ite (fun _ => Ok.gd (by unfold I64; omega) (Ok.ret ⟨rfl, trivial⟩)) (fun htl => ?_)
        have htl : 0 ≤ gi p.ts v ∧ gi p.ts v < p.g.w * p.g.h := by simpa using htl
        obtain ⟨goal, hgoal⟩ : ∃ goal, goal = gi p.ts v := ⟨_, rfl⟩
        rw [← hgoal] at htl ⊢
        obtain ⟨r, e1, h0, fr, hfr1, hd⟩ := make_b ha htl (by omega) (by omega)
        obtain ⟨r', e2, h0', fr', d', hfr2, hd2, hw⟩ := dirs_b ha htl (by omega) (by omega)
        have := GdF.uniq hg hfr hfr1; subst this
        have := GdF.uniq hg hfr hfr2; subst this
        have := hd.uniq hd2; subst this
        rw [e1, bsome, e2, bsome, num13_p, bsome, num13_p]
        have hl := hd.len
        have hl' := hw.len
        have hop := GdF.open hg ha.2.2.1 hfr
        have hz0 : ∀ t : Int, (0 ≤ t ∧ t < p.g.w * p.g.h) → gi r.1 t = 0 → t = goal := fun t ht h => Classical.byContradiction fun hne => by
          rcases hd.is with ⟨_, hL⟩ | ⟨_, hn⟩
          · obtain ⟨u, k, _, _, hk, hu, hs⟩ := hL.sup t ht hne (by omega)
            omega
          · have := hn t ht; omega
        refine Ok.bindE (x := false) (by rw [if_neg (by rw [h0]; simp), bsome, h0']; rfl) (Ok.ite (fun h => ?_) (fun _ => ?_))
        · rcases h with (h | h) | h
          · cases h
          · exact absurd (by omega) h
          · exact absurd (by omega) h
        refine Ok.bind (scanOk (a := 0) (n := r.1.length) (fun _ => True) (fun _ => False) (by omega) (fun t t0 t1 _ => ?_) (fun t t0 t1 => by rw [if_neg (by omega)])) ?_
        · have ht : 0 ≤ t ∧ t < p.g.w * p.g.h := ⟨t0, by omega⟩
          have hbd := hd.bd t ht
          rw [if_pos t1]
          refine Ok.gd ⟨t0, t1⟩ (Ok.gd (fun _ => ⟨t0, t1⟩) (Ok.gd (fun _ _ => by omega) (Ok.gd (fun _ => ⟨t0, t1⟩) (Ok.gd (fun _ => by omega) (Ok.gd (fun _ => ⟨t0, t1⟩) (Ok.ite (fun h => ?_) (fun _ => ?_)))))))
          · rcases h with ((h | h) | h) | h
            · omega
            · have := hd.free t ht h.1
              rw [this] at h; cases h.2
            · exact absurd (hz0 t ht h.1) h.2
            · refine absurd ?_ h
              rw [decide_eq_decide]
              rcases hw.way t t0 ht.2 with ⟨a, b⟩ | ⟨a, b, _⟩ <;> omega
          refine Ok.bind (R := fun x => match x with | .go a => (0 ≤ gi r.1 t → a.1 = goal ∧ a.2 = gi r.1 t) | .up _ => False) (Ok.loop (WI p.g goal r.1 t) (fun z => (gi r.1 z.1).toNat) ⟨ht, by simp, by simp; omega, fun _ => rfl, fun h => ⟨h, by simp, by simp⟩⟩ (by unfold FUEL; show (gi r.1 t).toNat < _; omega) ?_) ?_
          · rintro ⟨at_, paid, n⟩ ⟨hat, hp, hn, hI1, hI2⟩
            dsimp only at hat hp hn hI1 hI2 ⊢
            refine Ok.gd (fun _ => by omega) (Ok.ite (fun hlp => ?_) (fun hlp => Ok.ret ?_))
            · have hdt : 0 ≤ gi r.1 t := Classical.byContradiction fun hneg => by
                have := hI1 (by omega)
                rw [this] at hlp; omega
              obtain ⟨i1, i2, i3⟩ := hI2 hdt
              obtain ⟨w, hwE⟩ : ∃ w, w = gi r'.1 at_ := ⟨_, rfl⟩
              have hDr := hw.way at_ hat.1 hat.2
              rw [← hwE] at hDr ⊢
              rcases hDr with ⟨hbad, _⟩ | ⟨_, hwb, hon, _⟩
              · omega
              obtain ⟨o1, o2, o3⟩ := hon
              have hS := stp_at hg hat hwb o1
              have hu := stp_fr o1
              have hub := nb_bd hg hu.1
              have hnb := nb_at hS.to.1
              refine Ok.gd (by omega) (Ok.gd (fun _ => by omega) (Ok.ite (fun h => by omega) (fun _ => Ok.gd (by omega) ?_)))
              refine Ok.bind (nearR_b hg hat) fun near hnear => ?_
              have hnl := hnear.1
              have hcost := hS.cost13 hg hc hat hnb
              have hxy := hS.to.1.xy
              rw [← hnb] at hxy
              rw [hnear.2 w hwb.1 hwb.2]
              obtain ⟨u, huE⟩ : ∃ u, u = nb p.g at_ w := ⟨_, rfl⟩
              rw [← huE] at hu hub hcost hxy o2 o3 ⊢
              have hon := (On.of hg hat).1
              have hw4 := way_lt hwb
              have hsd := hS.sd
              refine Ok.gd (by omega) (Ok.gd (fun _ => by have := hu.1; omega) (Ok.ite (fun h => ?_) (fun _ => ?_)))
              · rcases h with h | h
                · have := hu.1; omega
                · rw [hu.2] at h; cases h
              have q1 : u / p.g.w * p.g.w = p.g.w * (at_ / p.g.w + DY w) := by rw [hxy.1, Int.mul_comm]
              have q2 : at_ / p.g.w * p.g.w = p.g.w * (at_ / p.g.w) := by rw [Int.mul_comm]
              have q3 : u % p.g.w = at_ % p.g.w + DX w := hxy.2
              rw [q1, q2, q3]
              have hs2 : 3 < w → FO p.g q.1 (at_ % p.g.w) (at_ / p.g.w + DY w) ∧ FO p.g q.1 (at_ % p.g.w + DX w) (at_ / p.g.w) := fun h => by
                rcases hsd with h1 | h1
                · have := hw4.2 h1; omega
                · exact ⟨h1.2, h1.1⟩
              refine Ok.gd (by omega) (Ok.gd (fun _ => by omega) (Ok.gd (fun _ => by have := hu.1; omega) (Ok.gd (fun h => ?_) (Ok.gd (fun h => ?_) (Ok.gd (fun h => ?_) (Ok.gd (fun _ _ => by have := hu.1; omega) (Ok.gd (fun _ _ => by omega) (Ok.gd (fun h _ => ?_) (Ok.gd (fun h _ => ?_) (Ok.gd (fun h _ => ?_) (Ok.ite (fun h => ?_) (fun _ => ?_)))))))))))) 
              · have := ((hs2 h).1.1.bd hg).2; unfold I64; omega
              · have := ((hs2 h).1.1.bd hg).1; unfold I64; omega
              · have := ((hs2 h).1.1.bd hg).1; omega
              · have := ((hs2 h).2.1.bd hg).2; unfold I64; omega
              · have := ((hs2 h).2.1.bd hg).1; unfold I64; omega
              · have := ((hs2 h).2.1.bd hg).1; omega
              · have h2 := hs2 h.1
                rcases h.2 with h | h
                · rw [h2.1.2] at h; cases h
                · rw [h2.2.2] at h; cases h
              rw [hcost, bsome]
              obtain ⟨k, hkE⟩ : ∃ k, k = stp p.g p.cls q.1 at_ w := ⟨_, rfl⟩
              rw [← hkE] at o1 o3 ⊢
              have hdu := hd.bd t ht
              have hmem : gi r.1 u ∈ r.1 := gi_mem ⟨hu.1, by omega⟩
              have hcl := cnt_lt hmem o2 (show gi r.1 u < gi r.1 at_ by omega)
              have hcN := cnt_le r.1 (gi r.1 t)
              refine Ok.gd (by unfold I64; omega) (Ok.gd (by unfold I64; omega) (Ok.ret ⟨⟨⟨hu.1, hub⟩, ?_, ?_, fun h => ?_, fun _ => ⟨o2, ?_, ?_⟩⟩, ?_⟩))
              · show 0 ≤ paid + k ∧ paid + k ≤ _; omega
              · show 0 ≤ n + 1 ∧ n + 1 ≤ _; omega
              · omega
              · show paid + k + gi r.1 u = _; omega
              · show (n + 1) + (cnt r.1 (gi r.1 u) : Int) ≤ _; omega
              · show (gi r.1 u).toNat < (gi r.1 at_).toNat; omega
            · intro hdt
              obtain ⟨i1, i2, i3⟩ := hI2 hdt
              have hcN := cnt_le r.1 (gi r.1 t)
              have : gi r.1 at_ = 0 := by omega
              exact ⟨hz0 at_ hat this, by show paid = _; omega⟩
          · rintro (⟨at_, paid⟩ | _) hx
            · dsimp only [Ex.then] at hx ⊢
              refine Ok.gd ⟨t0, t1⟩ (Ok.gd (fun _ _ => ⟨t0, t1⟩) (Ok.ite (fun h => ?_) (fun _ => ?_)))
              · have := hx h.1
                rcases h.2 with h | h
                · exact absurd this.1 h
                · exact absurd this.2 h
              refine Ok.bind (nearR_b hg ht) fun near hnear => ?_
              have hnl := hnear.1
              refine Ok.bind (scanOk (a := 0) (n := 4) (fun _ => True) (fun _ => False) (by omega) (fun i i0 i1 _ => ?_) (fun i i0 i1 => by rw [if_neg (by omega)])) ?_
              · rw [if_pos i1]
                refine Ok.gd (by omega) ?_
                rw [hnear.2 i i0 (by omega)]
                obtain ⟨u, huE⟩ : ∃ u, u = nb p.g t i := ⟨_, rfl⟩
                have hub : 0 ≤ u → u < p.g.w * p.g.h := fun h => by rw [huE] at h ⊢; exact nb_bd hg h
                rw [← huE]
                refine Ok.gd (fun _ => by omega) (Ok.gd (fun h => by have := hub h.1; omega) (Ok.bindE (x := false) ?_ ?_))
                · refine Ok.eq (Ok.ite (fun h => ?_) (fun _ => Ok.ret rfl))
                  obtain ⟨⟨u0, hft⟩, hfu⟩ := h
                  have u1 := hub u0
                  have hFr : Fr q.1 (nb p.g t i) := by rw [← huE]; exact ⟨u0, hfu⟩
                  have hb1 := tc_bd hg hc ht
                  have hb2 := tc_bd hg hc ⟨u0, u1⟩
                  have hpos := hop t t0 ht.2 hft
                  have hst : 0 < stp p.g p.cls q.1 t i := by
                    unfold stp; rw [if_pos hFr, if_pos i1, ← huE]; omega
                  have hE : Ed p.g p.cls q.1 t u (stp p.g p.cls q.1 t i) := ⟨i, ⟨i0, by omega⟩, huE.symm, rfl, hst⟩
                  have hE' := Ed.symm hg ht hft hE
                  have hS := stp_at hg ht ⟨i0, by omega⟩ hst
                  have hcost := hS.cost13 hg hc ht (u := u) (by rw [huE]; exact nb_at hS.to.1)
                  have hsb := stp_bd (fr := q.1) (i := i) (c := p.cls) hg hc ht
                  have hbu := hd.bd u ⟨u0, u1⟩
                  have key : (gi r.1 t < 0 ↔ gi r.1 u < 0) ∧ (0 ≤ gi r.1 t → gi r.1 t ≤ gi r.1 u + stp p.g p.cls q.1 t i) := by
                    rcases hd.is with ⟨_, hL⟩ | ⟨_, hn⟩
                    · have k1 := fun h => hL.edge t u _ ht h hE
                      have k2 := fun h => hL.edge u t _ ⟨u0, u1⟩ h hE'
                      refine ⟨⟨fun h => ?_, fun h => ?_⟩, fun h => ?_⟩
                      · exact Classical.byContradiction fun hn => by have := k2 (by omega); omega
                      · exact Classical.byContradiction fun hn => by have := k1 (by omega); omega
                      · have a1 := k1 h
                        have a2 := k2 a1.1
                        omega
                    · have e1 := hn t ht
                      have e2 := hn u ⟨u0, u1⟩
                      omega
                  refine Ok.gd ⟨t0, t1⟩ (Ok.gd ⟨u0, by omega⟩ (Ok.bindE (x := false) ?_ (Ok.ret rfl)))
                  rw [if_neg (by rw [decide_eq_decide]; exact fun h => h key.1), if_pos ⟨t0, t1⟩]
                  refine Ok.eq (Ok.bindE (x := false) ?_ (Ok.ret rfl))
                  refine Ok.eq (Ok.ite (fun h => ?_) (fun _ => Ok.ret rfl))
                  refine Ok.gd ⟨t0, t1⟩ (Ok.gd ⟨u0, by omega⟩ ?_)
                  rw [hcost, bsome]
                  refine Ok.gd (by unfold I64; omega) (Ok.ret ?_)
                  have := key.2 h
                  rw [decide_eq_false_iff_not]; omega
                · rw [if_neg (by simp)]
                  exact Ok.gd (by unfold I64; omega) (Ok.ret ⟨rfl, trivial⟩)
              · rintro (_ | _) hx
                · dsimp only [Ex.then]
                  exact Ok.gd (by unfold I64; omega) (Ok.ret ⟨rfl, trivial⟩)
                · exact hx.elim
            · exact hx.elim
        · rintro (_ | _) hx
          · dsimp only [Ex.then]
            exact Ok.gd (by unfold I64; omega) (Ok.ret ⟨rfl, trivial⟩)
          · exact hx.elim
      · rintro (_ | _) hx
        · dsimp only [Ex.then]
          rw [wakes13_p]
          exact Ok.ret rfl
        · exact hx.elim
    · exact absurd ha hno
  · rw [e, bsome, bsome, if_pos (by rfl)]
end Go.Proofs.Ytdaopgoaghhbpaa
