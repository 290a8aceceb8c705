/-
  The page's Make and Dirs, as pure functions: what they answer; how the statements compare. The conditions stand in each lemma.
-/
import Derived.Test.YtgpjjcncdaelpaaFB
set_option linter.unusedVariables false
set_option linter.unusedSimpArgs false
namespace Go.Proofs.Ytgpjjcncdaelpaa
open Go.Vg
theorem goodR_f {g : Grd} {l : List Bld} {c s : Int} (h : AOk g l c s) : Ok (throngref13_Good g l c s) (GdF g l c s) := by
  obtain ⟨fr, _, o, k, ho, hk, _⟩ := fit_f h
  exact Ok.mono (goodR_b h.1.1 h.1.2 h.2.1 ho hk s) fun fr' hf => ⟨o, k, ho, hk, hf⟩
theorem makeR_b {g : Grd} {l : List Bld} {c s goal : Int} (h : AOk g l c s) (hgo : 0 ≤ goal ∧ goal < g.w * g.h) : Ok (throngref13_Make g l c s goal) fun d => ∃ fr, GdF g l c s fr ∧ MkR g c goal fr d := by
  unfold throngref13_Make
  refine Ok.bind (goodR_f h) fun fr hfr => ?_
  exact Ok.bind (farR_b h.1.1 h.2.1 hfr.len hgo) fun d hd => Ok.ret ⟨fr, hfr, hd⟩
theorem make_eq {g : Grd} {l : List Bld} {c s goal : Int} (h : AOk g l c s) (hgo : 0 ≤ goal ∧ goal < g.w * g.h) (hgt : g.tiles.length ≤ 9223372036854775806) (hl : l.length ≤ 9223372036854775806) :
    ∃ d : List Int, (d.length : Int) = g.w * g.h ∧ field_Make g l c s goal = some (d, 0) ∧ throngref13_Make g l c s goal = some d := by
  obtain ⟨⟨d, e⟩, e1, h0, fr, hfr, hd⟩ := make_b h hgo hgt hl
  obtain ⟨d', e2, fr', hfr', hd'⟩ := makeR_b h hgo
  dsimp only at h0 hd
  have := GdF.uniq h.1.1 hfr hfr'; subst this
  have := hd.uniq hd'; subst this
  subst h0
  exact ⟨d, hd.len, e1, e2⟩
theorem dirsR_b {g : Grd} {l : List Bld} {c s goal : Int} (h : AOk g l c s) (hgo : 0 ≤ goal ∧ goal < g.w * g.h) : Ok (throngref13_Dirs g l c s goal) fun w => ∃ fr d, GdF g l c s fr ∧ MkR g c goal fr d ∧ DirR g c fr d w := by
  have hg := h.1.1
  have hc := h.2.1
  have ha := hg.area
  unfold throngref13_Dirs
  refine Ok.bind (goodR_f h) fun fr hfr => ?_
  have hf := hfr.len
  refine Ok.bind (farR_b hg hc hf hgo) fun d hd => ?_
  have hdl := hd.len
  refine Ok.gd (by omega) ?_
  have hdn : ((d.length : Int)).toNat = d.length := by omega
  rw [hdn]
  refine Ok.bind (R := DirR g c fr d) (Ok.loop (fun z : Int × List Int => (0 ≤ z.1 ∧ z.1 ≤ g.w * g.h) ∧ (z.2.length : Int) = g.w * g.h ∧ (∀ t : Int, 0 ≤ t → t < z.1 → Dr g c fr d t (gi z.2 t))) (fun z => (g.w * g.h - z.1).toNat)
    ⟨by simp; omega, by simp; omega, fun t t0 t1 => (by have : t < 0 := t1; omega)⟩ (by unfold FUEL; simp; omega) ?_) (fun w hw => Ok.ret ⟨fr, d, hfr, hd, hw⟩)
  rintro ⟨v, l1⟩ ⟨⟨v0, v1⟩, hl, h1⟩
  dsimp only at v0 v1 hl h1 ⊢
  refine Ok.ite (fun hlt => ?_) (fun hlt => Ok.ret ⟨hl, fun t t0 t1 => h1 t t0 (by omega)⟩)
  have hv : 0 ≤ v ∧ v < g.w * g.h := ⟨v0, by omega⟩
  refine Ok.gd ⟨v0, hlt⟩ (Ok.gd ⟨v0, hlt⟩ (Ok.ite (fun hz => ?_) (fun hz => ?_)))
  · refine Ok.gd (by unfold I64; omega) (Ok.ret ⟨⟨by show 0 ≤ v + 1 ∧ v + 1 ≤ _; omega, by show ((si l1 v (-1)).length : Int) = _; rw [len_si]; exact hl, fun t t0 t1 => ?_⟩, by show (g.w * g.h - (v + 1)).toNat < _; omega⟩)
    show Dr g c fr d t (gi (si l1 v (-1)) t)
    by_cases e : t = v
    · subst e; rw [gi_si_self ⟨t0, by omega⟩]; exact .inl ⟨hz, rfl⟩
    · rw [gi_si_ne v0 t0 (Ne.symm e)]; exact h1 t t0 (by have : t < v + 1 := t1; omega)
  · refine Ok.bind (nearR_b hg hv) fun near hnear => ?_
    have hnl := hnear.1
    have hfv := hd.free v hv (by omega)
    obtain ⟨i0, hi0, hon⟩ := hd.on hg hv (by omega)
    refine Ok.bind (R := fun y : List Int => ∃ i, (0 ≤ i ∧ i < 8) ∧ On1 g c fr d v i ∧ (∀ j, 0 ≤ j → j < i → ¬ On1 g c fr d v j) ∧ (y.length : Int) = g.w * g.h ∧ gi y v = i ∧ ∀ t : Int, 0 ≤ t → t ≠ v → gi y t = gi l1 t)
      (Ok.loop (fun z : Int × List Int => (-1 ≤ z.1 ∧ z.1 < 8) ∧ (z.2.length : Int) = g.w * g.h ∧ (∀ t : Int, 0 ≤ t → t ≠ v → gi z.2 t = gi l1 t) ∧ ((gi z.2 v = -1 ∧ ∀ j, z.1 < j → j < 8 → ¬ On1 g c fr d v j) ∨ ((z.1 < gi z.2 v ∧ gi z.2 v < 8) ∧ On1 g c fr d v (gi z.2 v) ∧ ∀ j, z.1 < j → j < gi z.2 v → ¬ On1 g c fr d v j))) (fun z => (z.1 + 1).toNat) ⟨by simp, by show ((si l1 v (-1)).length : Int) = _; rw [len_si]; exact hl, fun t t0 hne => gi_si_ne v0 t0 (Ne.symm hne), .inl ⟨gi_si_self ⟨v0, by omega⟩, fun j j0 j1 => by have : 7 < j := j0; omega⟩⟩ (by unfold FUEL; simp) ?_) ?_
    · rintro ⟨i, y⟩ ⟨⟨i0', i1⟩, hyl, hyo, hq⟩
      dsimp only at i0' i1 hyl hyo hq ⊢
      refine Ok.ite (fun hi => ?_) (fun hi => Ok.ret ?_)
      · rw [stepR_p hg hc hf hv hfv hnear ⟨hi, i1⟩, bsome, hnear.2 i hi i1]
        have hsb := stp_bd (fr := fr) (i := i) (c := c) hg hc hv
        have hu : 0 < stp g c fr v i → 0 ≤ nb g v i ∧ nb g v i < d.length := fun h => by
          have h1 := stp_fr h
          have := nb_bd hg h1.1
          exact ⟨h1.1, by omega⟩
        have hb : 0 < stp g c fr v i → gi d (nb g v i) ≤ 84 * 16384 := fun h => (hd.bd _ (by have := hu h; omega)).2
        refine Ok.gd (fun _ => by omega) (Ok.gd hu (Ok.gd (fun _ => by omega) (Ok.gd (fun h => hu h.1) (Ok.gd (fun h => by have := hb h.1; unfold I64; omega) (Ok.gd (fun _ => ⟨v0, hlt⟩) (Ok.ite (fun h => ?_) (fun h => ?_)))))))
        · refine Ok.gd ⟨v0, hlt⟩ (Ok.gd (by unfold I64; omega) (Ok.ret ⟨⟨by show -1 ≤ i - 1 ∧ i - 1 < 8; omega, by show ((si y v i).length : Int) = _; rw [len_si]; exact hyl, fun t t0 hne => ?_, .inr ?_⟩, by show (i - 1 + 1).toNat < (i + 1).toNat; omega⟩))
          · show gi (si y v i) t = _
            rw [gi_si_ne v0 t0 (Ne.symm hne)]; exact hyo t t0 hne
          · show (i - 1 < gi (si y v i) v ∧ gi (si y v i) v < 8) ∧ On1 g c fr d v (gi (si y v i) v) ∧ ∀ j, i - 1 < j → j < gi (si y v i) v → _
            rw [gi_si_self ⟨v0, by omega⟩]
            exact ⟨by omega, ⟨h.1.1, h.1.2, by omega⟩, fun j j0 j1 => by omega⟩
        · have hno : ¬ On1 g c fr d v i := fun hh => h ⟨⟨hh.1, hh.2.1⟩, by have := hh.2.2; omega⟩
          refine Ok.gd (by unfold I64; omega) (Ok.ret ⟨⟨by show -1 ≤ i - 1 ∧ i - 1 < 8; omega, hyl, hyo, ?_⟩, by show (i - 1 + 1).toNat < (i + 1).toNat; omega⟩)
          rcases hq with ⟨q1, q2⟩ | ⟨q1, q2, q3⟩
          · refine .inl ⟨q1, fun j j0 j1 => ?_⟩
            have j0 : i - 1 < j := j0
            by_cases e : j = i
            · subst e; exact hno
            · exact q2 j (by omega) j1
          · refine .inr ⟨⟨by show i - 1 < gi y v; omega, q1.2⟩, q2, fun j j0 j1 => ?_⟩
            have j0 : i - 1 < j := j0
            by_cases e : j = i
            · subst e; exact hno
            · exact q3 j (by omega) j1
      · have hi1 : i = -1 := by omega
        subst hi1
        rcases hq with ⟨q1, q2⟩ | ⟨q1, q2, q3⟩
        · exact absurd hon (q2 i0 (by omega) hi0.2)
        · exact ⟨gi y v, by omega, q2, fun j j0 j1 => q3 j (by omega) j1, hyl, rfl, hyo⟩
    · rintro y ⟨i, hi, hoi, hno, hyl, hyv, hyo⟩
      refine Ok.gd (by unfold I64; omega) (Ok.ret ⟨⟨by show 0 ≤ v + 1 ∧ v + 1 ≤ _; omega, hyl, fun t t0 t1 => ?_⟩, by show (g.w * g.h - (v + 1)).toNat < _; omega⟩)
      show Dr g c fr d t (gi y t)
      by_cases e : t = v
      · subst e; rw [hyv]; exact .inr ⟨by omega, hi, hoi, hno⟩
      · rw [hyo t t0 e]; exact h1 t t0 (by have : t < v + 1 := t1; omega)
theorem dirs_eq {g : Grd} {l : List Bld} {c s goal : Int} (h : AOk g l c s) (hgo : 0 ≤ goal ∧ goal < g.w * g.h) (hgt : g.tiles.length ≤ 9223372036854775806) (hl : l.length ≤ 9223372036854775806) :
    ∃ d : List Int, (d.length : Int) = g.w * g.h ∧ field_Dirs g l c s goal = some (d, 0) ∧ throngref13_Dirs g l c s goal = some d := by
  obtain ⟨⟨w, e⟩, e1, h0, fr, d, hfr, hd, hw⟩ := dirs_b h hgo hgt hl
  obtain ⟨w', e2, fr', d', hfr', hd', hw'⟩ := dirsR_b h hgo
  dsimp only at h0 hw
  have := GdF.uniq h.1.1 hfr hfr'; subst this
  have := hd.uniq hd'; subst this
  have := hw.uniq hw'; subst this
  subst h0
  exact ⟨w, hw.len, e1, e2⟩
theorem ask_no {g : Grd} {l : List Bld} {c s goal : Int} (h : ¬ AOk g l c s) (hgt : g.tiles.length ≤ 9223372036854775806) (hl : l.length ≤ 9223372036854775806) : field_ask g l c s goal = some 1 := by
  unfold field_ask
  rw [(mayF_b hgt hl).f h, bsome, if_pos (by rfl)]
theorem make_no {g : Grd} {l : List Bld} {c s goal : Int} {x : Int} (hx : x ≠ 0) (h : field_ask g l c s goal = some x) : field_Make g l c s goal = some ([], x) ∧ field_Dirs g l c s goal = some ([], x) := by
  unfold field_Make field_Dirs
  rw [h, bsome, bsome, if_pos hx, if_pos hx]
  exact ⟨rfl, rfl⟩
theorem eqN13_p {a b : List Int} (h : a.length ≤ 9223372036854775807) : throngref0_EqNumbers a b = some (decide (a = b)) := eqF_eq h
theorem numbers_p {a : List Int} (h : a.length < 1099511627776) : thronglaw0_Numbers a = some () := by
  unfold thronglaw0_Numbers
  refine Ok.eq (Ok.bind (R := fun m : List Int => m.length = a.length) (Ok.loop (fun z : Int × List Int => (0 ≤ z.1 ∧ z.1 ≤ a.length) ∧ z.2.length = a.length) (fun z => (a.length - z.1).toNat) ⟨by simp, rfl⟩ (by unfold FUEL; simp; omega) ?_) fun x hx => Ok.gd (by omega) (Ok.ret rfl))
  rintro ⟨i, m⟩ ⟨⟨h0, h1⟩, hq⟩
  dsimp only at h0 h1 hq ⊢
  exact Ok.ite (fun hlt => Ok.gd ⟨h0, hlt⟩ (Ok.gd (by unfold I64; omega) (Ok.ret ⟨⟨by show 0 ≤ i + 1 ∧ i + 1 ≤ _; omega, by show (si m _ _).length = _; rw [len_si]; exact hq⟩, by show ((a.length : Int) - (i + 1)).toNat < _; omega⟩))) (fun _ => Ok.ret hq)
theorem eqY_p {a b : List UInt8} (h : a.length ≤ 9223372036854775807) (e : a = b) : throngref0_EqBytes a b = some true := by
  subst e
  unfold throngref0_EqBytes
  refine Ok.eq (Ok.ite (fun h => absurd rfl h) (fun _ => Ok.bind (scanOk (a := 0) (n := a.length) (fun _ => True) (fun _ => False) (by omega) (fun v v0 v1 _ => ?_) (fun v v0 v1 => by rw [if_neg (by omega)])) ?_))
  · rw [if_pos v1]
    exact Ok.gd ⟨v0, v1⟩ (Ok.gd ⟨v0, v1⟩ (Ok.ite (fun h => absurd rfl h) (fun _ => Ok.gd (by unfold I64; omega) (Ok.ret ⟨rfl, trivial⟩))))
  · rintro (_ | _) hx
    · exact Ok.ret rfl
    · exact hx.elim
theorem eqG_p {g : Grd} (h : g.tiles.length ≤ 9223372036854775807) : throngref0_EqGround g g = some true := by
  unfold throngref0_EqGround
  rw [if_pos ⟨rfl, rfl⟩, eqY_p h rfl]; rfl
theorem copyG13_p {g : Grd} (h : g.tiles.length < 1099511627776) : throngref0_CopyGround g = some g := by
  unfold throngref0_CopyGround
  have e : throngref0_CopyBytes g.tiles = some g.tiles := copyF_eq h
  rw [e, bsome]
end Go.Proofs.Ytgpjjcncdaelpaa
