/-
  RouteSteps, as a pure function, is true. For arguments that are Go's.
-/
import Derived.Test.YthdbofgcckjopaaGreatRL
import Derived.Test.YthdbofgcckjopaaGreatRLG3
set_option linter.unusedVariables false
set_option linter.unusedSimpArgs false
set_option maxRecDepth 20000
namespace Go.Proofs.YthdbofgcckjopaaGreat
open Go.Vg Sp Qp RC
theorem in14_p {l : List Int} {n : Int} (hl : l.length ≤ 1000000) : Ok (throngref0_In l n) fun r => 0 ≤ r → n ∈ l := by
  unfold throngref0_In
  refine Ok.bind (scanOkB (a := 0) (n := (l.length : Int)) (fun _ => True) (fun _ => n ∈ l) (by omega) (by omega) (fun v v0 v1 => ?_) (by rw [if_neg (by omega)])) ?_
  · rw [if_pos v1]
    refine Ok.gd ⟨v0, v1⟩ (Ok.ite (fun h => Ok.ret (by show n ∈ l; rw [← h]; exact gi_mem ⟨v0, v1⟩)) fun h => Ok.gd (by unfold I64; omega) (Ok.ret ⟨rfl, trivial⟩))
  · rintro (_ | r) hx
    · exact Ok.ret fun h => by omega
    · exact Ok.ret fun _ => hx
theorem not_take {l : List Int} (h : l.Nodup) {k : Int} (hk : 0 ≤ k ∧ k < (l.length : Int)) : gi l k ∉ l.take k.toNat := fun hm => by
  have e := List.take_append_drop k.toNat l
  rw [drop_gi hk] at e
  rw [← e] at h
  exact (List.nodup_append.1 h).2.2 _ hm _ (List.mem_cons_self ..) rfl
theorem rsteps_law {p : Ask13} : thronglaw14_RouteSteps p = some true := by
  unfold thronglaw14_RouteSteps
  rw [heavy14_p, bsome]
  refine Ok.eq (Ok.bind (R := fun b => b = false → ((p.g.tiles.length : Int) ≤ 700 ∧ (p.l.length : Int) ≤ 30 ∧ (p.ts.length : Int) ≤ 30) ∧ AOk p.g p.l p.cls p.size) (Ok.ite (fun _ => Ok.ret (fun e => by cases e)) (fun hh => ?_)) fun b hb => Ok.ite (fun _ => Ok.ret rfl) fun hbf => ?_)
  · have hz : (p.g.tiles.length : Int) ≤ 700 ∧ (p.l.length : Int) ≤ 30 ∧ (p.ts.length : Int) ≤ 30 := by simp at hh; omega
    exact Ok.bind (mayFR_b (by omega) (by omega)) fun b hb => Ok.ret fun e => ⟨hz, hb.1 (by simpa using e)⟩
  obtain ⟨hz, ha⟩ := hb (by simpa using hbf)
  have hg := ha.1.1
  have har := hg.area
  obtain ⟨⟨fr, e⟩, hd, hdr⟩ := goodP_b (g := p.g) (l := p.l) (c := p.cls) (s := p.size) (by omega) (by omega)
  rcases hdr with ⟨_, rfl, o, k, ho, hk, hgd⟩ | ⟨hno, _⟩
  · have hfr : GdF p.g p.l p.cls p.size fr := ⟨o, k, ho, hk, hgd⟩
    have hf := hfr.len
    obtain ⟨ps, hps, _, hpok, hpl⟩ := find_p (W := p.g.w) (H := p.g.h) (fr := fr) ⟨hg.1, hg.2.1⟩ hf
    rw [hd, bsome, num14_p, bsome, if_neg (by simp)]
    dsimp only
    rw [hps, bsome, num14_p, bsome, if_neg (by simp)]
    dsimp only
    refine Ok.bind (scanOkB (a := 0) (n := max 0 (min ((p.ts.length : Int) - 1) 4)) (fun _ => True) (fun _ => False) (by omega) (by omega) (fun v v0 v1 => ?_) ?_) ?_
    · refine Ok.gd (by unfold I64; omega) ?_
      rw [if_pos (by omega), if_pos (by omega), if_pos (by unfold I64; omega), if_pos (by omega)]
      obtain ⟨s, hs⟩ : ∃ s, s = gi p.ts v := ⟨_, rfl⟩
      obtain ⟨u, hu⟩ : ∃ u, u = gi p.ts (v + 1) := ⟨_, rfl⟩
      rw [← hs, ← hu]
      obtain ⟨r, hr, hfd⟩ := find_r (g := p.g) (l := p.l) (cls := p.cls) (size := p.size) (s := s) (u := u) (by omega) (by omega)
      rw [hr, bsome, bsome]
      dsimp only
      rw [num14_p, bsome]
      refine Ok.ite (fun hne => Ok.gd (by unfold I64; omega) (Ok.ret ⟨rfl, trivial⟩)) fun he => ?_
      rcases hfd with ⟨hno, _⟩ | ⟨_, ⟨_, rfl⟩ | ⟨⟨h1, h2⟩, fr', hfr', ⟨_, rfl⟩ | ⟨hfree, ps', hfa⟩⟩⟩
      · exact absurd ha hno
      · simp at he
      · simp at he
      · have := GdF.same ha hfr hfr'
        subst this
        have : ps' = ps := hfa.ho.hp.uniq hpok
        subst this
        rcases hfa.r with ⟨rfl, _⟩ | ⟨C, P, hb, rfl⟩
        · simp at he
        · dsimp only
          have hm := bst_mem hfa.ho hb hpl
          have hsec := Rt.secs hfa.ho hb.1
          have hnd := hb.nodup hfa.ho
          generalize hx : rc p.g p.cls fr ps' = x at hb hsec hm
          have hox : x.Ok := by rw [← hx]; exact hfa.ho
          have egw : p.g.w = x.g.w := by rw [← hx]; rfl
          have eps : ps' = x.ps := by rw [← hx]; rfl
          have hs' : x.In s := by rw [← hx]; exact h1
          have hu' : x.In u := by rw [← hx]; exact h2
          have eof : ∀ {t : Int}, x.In t → throngref10_Of p.g.w t = some (x.sec t) := fun {t} ht => by
            have := in_bd hox ht
            rw [egw]; exact ofR_p hox.hg.1 (by omega)
          have hSl : (x.sec s :: secL x (x.sec s) P).length = P.length + 1 := by rw [List.length_cons, len_secL]
          rw [if_pos (by unfold I64; omega)]
          refine Ok.bindE (x := false) (by rw [if_neg (by rw [hSl]; simp), if_pos (by rw [hSl]; omega), if_pos (by omega), eof hs', bsome]; simp [gi]) ?_
          refine Ok.bindE (x := false) (by rw [if_neg (by simp), if_pos (by rw [hSl]; omega), if_pos (by unfold I64; omega), if_pos (by omega), eof hu', bsome, hsec.2]; simp) ?_
          rw [if_neg (by simp)]
          refine Ok.bind (scanOkB (a := 0) (n := (P.length : Int)) (fun _ => True) (fun _ => False) (by omega) (by omega) (fun k k0 k1 => ?_) (by rw [if_neg (by omega)])) ?_
          · obtain ⟨⟨n0, n1⟩, hjoin⟩ := hsec.1 k k0 k1
            have hpt := ptOk hox (gi_mem (xs := x.ps) ⟨n0, n1⟩)
            rw [if_pos k1]
            refine Ok.gd ⟨k0, k1⟩ ?_
            rw [if_neg (by rw [eps]; omega)]
            refine Ok.bind (R := fun b => b = false) (Ok.gd (by omega) (Ok.bind (in14_p (by rw [List.length_take]; omega)) fun y hy => Ok.ret (decide_eq_false fun h => not_take hnd ⟨k0, k1⟩ (hy h)))) ?_
            rintro _ rfl
            rw [if_neg (by simp), eps, if_pos ⟨n0, n1⟩, eof hpt.a, bsome, if_pos ⟨n0, n1⟩, eof hpt.b, bsome]
            refine Ok.gd (by rw [hSl]; omega) (Ok.gd (fun _ => by unfold I64; omega) (Ok.gd (fun _ => by rw [hSl]; omega) (Ok.gd (fun _ => by rw [hSl]; omega) (Ok.gd (fun _ _ => by unfold I64; omega) (Ok.gd (fun _ _ => by rw [hSl]; omega) ?_)))))
            rw [if_neg (fun h => hjoin.elim h.1 h.2)]
            exact Ok.gd (by unfold I64; omega) (Ok.ret ⟨rfl, trivial⟩)
          · rintro (_ | _) hx
            · exact Ok.gd (by unfold I64; omega) (Ok.ret ⟨rfl, trivial⟩)
            · exact hx.elim
    · try dsimp only
      rw [if_pos (by unfold I64; omega), if_neg (by omega)]
    · rintro (_ | _) hx
      · dsimp only [Ex.then]
        rw [wakes14_p]
        exact Ok.ret rfl
      · exact hx.elim
  · exact absurd ha hno
end Go.Proofs.YthdbofgcckjopaaGreat
