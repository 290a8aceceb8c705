/-
  Texts of one's own, joined: RA RB RD RE.
-/
import Derived.Test.YthdbofgcckjopaaGreatW5
import Derived.Test.YthdbofgcckjopaaGreatW6
set_option linter.unusedVariables false
set_option linter.unusedSimpArgs false
namespace Go.Proofs.YthdbofgcckjopaaGreat
open Go.Vg Sp Qp
/-- The good tiles of one sector. -/
def secF (W s : Int) (fr : List Bool) : List Bool := (List.range fr.length).map fun i : Nat => gi fr (i : Int) && decide (atS W (i : Int) = s)
theorem len_secF {W s : Int} {fr : List Bool} : (secF W s fr).length = fr.length := by simp [secF]
theorem gi_secF {W s t : Int} {fr : List Bool} (h : 0 ≤ t ∧ t < (fr.length : Int)) : gi (secF W s fr) t = (gi fr t && decide (atS W t = s)) := by
  have h2 : t.toNat < fr.length := by omega
  have h3 : ((t.toNat : Nat) : Int) = t := by omega
  show ((List.range fr.length).map fun i : Nat => gi fr (i : Int) && decide (atS W (i : Int) = s)).getD t.toNat default = _
  simp [List.getD, List.getElem?_map, List.getElem?_range h2, h3]
theorem secF_t {W s t : Int} {fr : List Bool} (h : 0 ≤ t ∧ t < (fr.length : Int)) : gi (secF W s fr) t = true ↔ gi fr t = true ∧ atS W t = s := by
  rw [gi_secF h, Bool.and_eq_true, decide_eq_true_iff]
theorem Fr_sec {g : Grd} {c s : Int} {fr : List Bool} {t i : Int} (hg : GOk g) (hf : (fr.length : Int) = g.w * g.h) : Fr (secF g.w s fr) (nb g t i) ↔ Fr fr (nb g t i) ∧ atS g.w (nb g t i) = s := by
  unfold Fr
  by_cases h : 0 ≤ nb g t i
  · have h2 := nb_bd hg h
    rw [secF_t (by omega)]
    exact ⟨fun ⟨a, b, c⟩ => ⟨⟨a, b⟩, c⟩, fun ⟨⟨a, b⟩, c⟩ => ⟨a, b, c⟩⟩
  · exact ⟨fun ⟨a, _⟩ => absurd a h, fun ⟨⟨a, _⟩, _⟩ => absurd a h⟩
/-- A step within a sector: the program's. -/
theorem step_s {g : Grd} {c s : Int} {fr : List Bool} {t i : Int} {near : List Int} {f : Int → Option Bool} (hg : GOk g) (hc : 0 ≤ c ∧ c ≤ 2) (hf : (fr.length : Int) = g.w * g.h) (ht : 0 ≤ t ∧ t < g.w * g.h) (hn : Nbs g t near) (hi : 0 ≤ i ∧ i < 8)
    (he : ∀ u, (0 ≤ u ∧ u < g.w * g.h) → f u = some (decide (atS g.w u = s))) : field_Net_Step ⟨g, c, fr⟩ t near i f = some (stp g c (secF g.w s fr) t i) := by
  have hgl := hg.2.2.1
  have hgt := hg.2.2.2
  obtain ⟨hnl, hnb⟩ := hn
  have hs := sd_bd hi
  have bnd : ∀ j, ¬ nb g t j < 0 → nb g t j < (fr.length : Int) := fun j h => by have := nb_bd hg (t := t) (i := j) (by omega); omega
  have fs : ∀ j, Fr (secF g.w s fr) (nb g t j) ↔ Fr fr (nb g t j) ∧ atS g.w (nb g t j) = s := fun j => Fr_sec (c := c) hg hf
  have notF : ∀ j, ¬ Fr fr (nb g t j) → nb g t j < 0 ∨ (!gi fr (nb g t j)) = true := fun j h => by
    by_cases h0 : nb g t j < 0
    · exact .inl h0
    · cases hh : gi fr (nb g t j) with
      | true => exact absurd ⟨by omega, hh⟩ h
      | false => exact .inr rfl
  unfold field_Net_Step
  rw [hnb i hi.1 hi.2]
  refine Ok.eq (Ok.gd ⟨hi.1, hi.2, hnl⟩ (Ok.gd (fun h => ⟨by omega, bnd i h⟩) ?_))
  unfold stp
  by_cases h0 : Fr fr (nb g t i)
  · have h0' := h0
    obtain ⟨h2, h3⟩ := h0'
    have hub := nb_bd hg h2
    by_cases hsec : atS g.w (nb g t i) = s
    · have h1 : Fr (secF g.w s fr) (nb g t i) := (fs i).2 ⟨h0, hsec⟩
      refine Ok.bindE (x := false) (by rw [if_neg (by rw [h3]; simp; omega), he _ ⟨h2, hub⟩, decide_eq_true hsec]; rfl) ?_
      rw [if_neg (by simp), if_pos h1, if_pos (by show 0 ≤ t ∧ t < (g.tiles.length : Int); omega)]
      rw [price_p hc ⟨by omega, hgt t ht.1 (by omega)⟩, bsome, if_pos (by show 0 ≤ nb g t i ∧ nb g t i < (g.tiles.length : Int); omega), price_p hc ⟨by omega, hgt _ h2 (by omega)⟩, bsome]
      have t1 := tc_bd hg hc ht
      have t2 := tc_bd hg hc ⟨h2, hub⟩
      show Ok (if I64 (tc g c t + tc g c (nb g t i)) then _ else none) _
      refine Ok.gd (by unfold I64; omega) ?_
      by_cases h4 : i < 4
      · rw [if_pos h4, if_pos h4]
        exact Ok.gd (by show I64 (5 * (tc g c t + tc g c (nb g t i))); unfold I64; omega) (Ok.ret rfl)
      · rw [if_neg h4, if_neg h4]
        have es : field_sides i = some (Sd1 i, Sd2 i) := by unfold field_sides; rw [if_pos ⟨hi.1, hi.2, rfl⟩, if_pos ⟨hi.1, hi.2, rfl⟩]; rfl
        rw [es, bsome]
        dsimp only
        rw [hnb _ hs.1.1 (by omega), hnb _ hs.2.1 (by omega)]
        refine Ok.gd ⟨by omega, by omega, hnl⟩ (Ok.gd (fun _ => ⟨by omega, by omega, hnl⟩) (Ok.gd (fun _ => ⟨by omega, by omega, hnl⟩) (Ok.gd (fun h => ⟨by omega, bnd _ (by omega)⟩) (Ok.gd (fun _ => ⟨by omega, by omega, hnl⟩) (Ok.gd (fun h => ⟨by omega, bnd _ (by omega)⟩) ?_)))))
        by_cases h5 : Fr fr (nb g t (Sd1 i)) ∧ Fr fr (nb g t (Sd2 i))
        · have h5' := h5
          obtain ⟨⟨a1, a2⟩, a3, a4⟩ := h5'
          have b1 := nb_bd hg a1
          have b3 := nb_bd hg a3
          by_cases q1 : atS g.w (nb g t (Sd1 i)) = s
          · refine Ok.bindE (x := false) (by rw [if_neg (by rw [a2, a4]; simp; omega), if_pos ⟨by omega, by omega, hnl⟩, he _ ⟨a1, b1⟩, decide_eq_true q1]; rfl) ?_
            by_cases q2 : atS g.w (nb g t (Sd2 i)) = s
            · refine Ok.bindE (x := false) (by rw [if_neg (by simp), if_pos ⟨by omega, by omega, hnl⟩, he _ ⟨a3, b3⟩, decide_eq_true q2]; rfl) ?_
              rw [if_neg (by simp), if_pos (show (Fr (secF g.w s fr) (nb g t (Sd1 i)) ∧ Fr (secF g.w s fr) (nb g t (Sd2 i))) from ⟨(fs _).2 ⟨h5.1, q1⟩, (fs _).2 ⟨h5.2, q2⟩⟩)]
              exact Ok.gd (by show I64 (7 * (tc g c t + tc g c (nb g t i))); unfold I64; omega) (Ok.ret rfl)
            · refine Ok.bindE (x := true) (by rw [if_neg (by simp), if_pos ⟨by omega, by omega, hnl⟩, he _ ⟨a3, b3⟩, decide_eq_false q2]; rfl) ?_
              rw [if_pos rfl, if_neg (show ¬ (Fr (secF g.w s fr) (nb g t (Sd1 i)) ∧ Fr (secF g.w s fr) (nb g t (Sd2 i))) from fun h => q2 ((fs _).1 h.2).2)]
              exact Ok.ret rfl
          · refine Ok.bindE (x := true) (by rw [if_neg (by rw [a2, a4]; simp; omega), if_pos ⟨by omega, by omega, hnl⟩, he _ ⟨a1, b1⟩, decide_eq_false q1]; rfl) (Ok.bindE (x := true) (by rw [if_pos rfl]) ?_)
            rw [if_pos rfl, if_neg (show ¬ (Fr (secF g.w s fr) (nb g t (Sd1 i)) ∧ Fr (secF g.w s fr) (nb g t (Sd2 i))) from fun h => q1 ((fs _).1 h.1).2)]
            exact Ok.ret rfl
        · rw [if_neg (show ¬ (Fr (secF g.w s fr) (nb g t (Sd1 i)) ∧ Fr (secF g.w s fr) (nb g t (Sd2 i))) from fun h => h5 ⟨((fs _).1 h.1).1, ((fs _).1 h.2).1⟩)]
          have hb : ((nb g t (Sd1 i) < 0 ∨ nb g t (Sd2 i) < 0) ∨ (!gi fr (nb g t (Sd1 i))) = true) ∨ (!gi fr (nb g t (Sd2 i))) = true := by
            by_cases k1 : Fr fr (nb g t (Sd1 i))
            · rcases notF _ (fun k2 => h5 ⟨k1, k2⟩) with h | h
              · exact .inl (.inl (.inr h))
              · exact .inr h
            · rcases notF _ k1 with h | h
              · exact .inl (.inl (.inl h))
              · exact .inl (.inr h)
          refine Ok.bindE (x := true) (by rw [if_pos hb]) (Ok.bindE (x := true) (by rw [if_pos rfl]) ?_)
          rw [if_pos rfl]
          exact Ok.ret rfl
    · rw [if_neg (show ¬ Fr (secF g.w s fr) (nb g t i) from fun h => hsec ((fs i).1 h).2)]
      refine Ok.bindE (x := true) (by rw [if_neg (by rw [h3]; simp; omega), he _ ⟨h2, hub⟩, decide_eq_false hsec]; rfl) ?_
      rw [if_pos rfl]
      exact Ok.ret rfl
  · rw [if_neg (show ¬ Fr (secF g.w s fr) (nb g t i) from fun h => h0 ((fs i).1 h).1)]
    refine Ok.bindE (x := true) (by rw [if_pos (notF i h0)]) ?_
    rw [if_pos rfl]
    exact Ok.ret rfl
theorem from_s {g : Grd} {c s : Int} {fr : List Bool} {goal : Int} {f : Int → Option Bool} (hg : GOk g) (hc : 0 ≤ c ∧ c ≤ 2) (hf : (fr.length : Int) = g.w * g.h) (hgo : 0 ≤ goal ∧ goal < g.w * g.h) (hs : atS g.w goal = s)
    (he : ∀ u, (0 ≤ u ∧ u < g.w * g.h) → f u = some (decide (atS g.w u = s))) : Ok (field_Net_From ⟨g, c, fr⟩ goal f) (MkR g c goal (secF g.w s fr)) := by
  have ha := hg.area
  have hl : ((secF g.w s fr).length : Int) = g.w * g.h := by rw [len_secF]; exact hf
  refine Ok.mono (from_bG hg hc hf hl hgo (by rw [gi_secF (by omega), decide_eq_true hs, Bool.and_true]) fun ht hn hi => step_s hg hc hf ht hn hi he) ?_
  rintro d (⟨h1, h2, h3, h4⟩ | ⟨h1, rfl⟩)
  · exact ⟨h2.len, fun t ht => ⟨h2.ge t ht.1 ht.2, h4 t ht⟩, h3, .inl ⟨h1, h2⟩⟩
  · have e : ∀ t : Int, (0 ≤ t ∧ t < g.w * g.h) → gi (List.replicate (g.w * g.h).toNat (-1 : Int)) t = -1 := fun t ht => gi_replicate ⟨ht.1, by omega⟩
    exact ⟨by simp; omega, fun t ht => by rw [e t ht]; omega, fun t ht h => by rw [e t ht] at h; omega, .inr ⟨h1, e⟩⟩
end Go.Proofs.YthdbofgcckjopaaGreat
set_option linter.unusedVariables false
set_option linter.unusedSimpArgs false
namespace Go.Proofs.YthdbofgcckjopaaGreat
open Go.Vg Sp Qp
/-- A ground, a class, the good tiles, the portals. -/
structure RC where
  g : Grd
  c : Int
  fr : List Bool
  ps : List Prt
structure RC.Ok (x : RC) : Prop where
  hg : GOk x.g
  hc : 0 ≤ x.c ∧ x.c ≤ 2
  hf : (x.fr.length : Int) = x.g.w * x.g.h
  pos : ∀ t : Int, 0 ≤ t → t < x.g.w * x.g.h → gi x.fr t = true → 0 < tc x.g x.c t
  hp : PortalsOk x.g.w x.g.h x.fr x.ps
namespace RC
def N (x : RC) : Int := x.g.w * x.g.h
def sec (x : RC) (t : Int) : Int := atS x.g.w t
def In (x : RC) (t : Int) : Prop := 0 ≤ t ∧ t < x.N
def sfr (x : RC) (t : Int) : List Bool := secF x.g.w (x.sec t) x.fr
/-- A step within the sector of t. -/
def ES (x : RC) (t : Int) : Int → Int → Int → Prop := Ed x.g x.c (x.sfr t)
open Classical in
noncomputable def ddL (x : RC) (t : Int) : List Int := if h : ∃ d, MkR x.g x.c t (x.sfr t) d then Classical.choose h else []
noncomputable def dd (x : RC) (t u : Int) : Int := gi (x.ddL t) u
variable {x : RC}
theorem ddL_of (ho : x.Ok) {t : Int} {d : List Int} (h : MkR x.g x.c t (x.sfr t) d) : x.ddL t = d := by
  unfold ddL
  have hx : ∃ d, MkR x.g x.c t (x.sfr t) d := ⟨d, h⟩
  rw [dif_pos hx]
  exact (Classical.choose_spec hx).uniq h
theorem ddL_is (ho : x.Ok) {t : Int} (ht : x.In t) : MkR x.g x.c t (x.sfr t) (x.ddL t) := by
  obtain ⟨d, _, hd⟩ := from_s (s := x.sec t) (f := fun u => some (decide (atS x.g.w u = x.sec t))) ho.hg ho.hc ho.hf ht rfl (fun u _ => rfl)
  rw [ddL_of ho hd]; exact hd
theorem sfr_t (ho : x.Ok) {s t : Int} (ht : x.In t) : gi (x.sfr s) t = true ↔ gi x.fr t = true ∧ x.sec t = x.sec s := secF_t (by have := ho.hf; have := ht.1; have : t < x.g.w * x.g.h := ht.2; omega)
theorem sfr_eq {s t : Int} (h : x.sec t = x.sec s) : x.sfr t = x.sfr s := by unfold sfr; rw [h]
theorem ES_eq {s t : Int} (h : x.sec t = x.sec s) : x.ES t = x.ES s := by unfold ES; rw [sfr_eq h]
theorem ES_bd (ho : x.Ok) {s t u k : Int} (ht : x.In t) (h : x.ES s t u k) : x.In u ∧ gi (x.sfr s) u = true ∧ 0 < k ∧ k ≤ 84 := Ed.bd ho.hg ho.hc ht h
theorem dd_bd (ho : x.Ok) {t u : Int} (ht : x.In t) (hu : x.In u) : -1 ≤ x.dd t u ∧ x.dd t u ≤ 1376256 := by
  have := (ddL_is ho ht).bd u hu; unfold dd; omega
/-- What a distance says. -/
theorem dd_of (ho : x.Ok) {t u : Int} (ht : x.In t) (hu : x.In u) (h : 0 ≤ x.dd t u) : gi x.fr t = true ∧ gi x.fr u = true ∧ x.sec u = x.sec t ∧ Wk (x.ES t) t u (x.dd t u) := by
  have hm := ddL_is ho ht
  rcases hm.is with ⟨h1, h2⟩ | ⟨_, h2⟩
  · have h3 := (sfr_t ho ht).1 h1
    have h4 := (sfr_t ho hu).1 (hm.free u hu h)
    exact ⟨h3.1, h4.1, h4.2, h2.has u hu h⟩
  · have := h2 u hu; unfold dd at h; omega
theorem dd_walk (ho : x.Ok) {t u k : Int} (ht : x.In t) (hft : gi x.fr t = true) (w : Wk (x.ES t) t u k) : x.In u ∧ 0 ≤ x.dd t u ∧ x.dd t u ≤ k := by
  have hm := ddL_is ho ht
  have h1 : gi (x.sfr t) t = true := (sfr_t ho ht).2 ⟨hft, rfl⟩
  rcases hm.is with ⟨_, h2⟩ | ⟨h2, _⟩
  · have h3 := h2.walk (fun a b k ha hE => (ES_bd ho ha hE).1) ht (by rw [h2.zero]; omega) w
    rw [h2.zero] at h3
    exact ⟨h3.1, h3.2.1, by have := h3.2.2; unfold dd; omega⟩
  · exact absurd h1 h2
theorem dd_self (ho : x.Ok) {t : Int} (ht : x.In t) (hft : gi x.fr t = true) : x.dd t t = 0 := by
  have h := dd_walk ho ht hft (Wk.nil t)
  omega
theorem Wk_trans {E : Int → Int → Int → Prop} {t u v a b : Int} (h : Wk E t u a) (k : Wk E u v b) : Wk E t v (a + b) := by
  induction k with
  | nil => rw [Int.add_zero]; exact h
  | step _ he ih => rw [← Int.add_assoc]; exact .step ih he
theorem dd_tri (ho : x.Ok) {t u v : Int} (ht : x.In t) (hu : x.In u) (hv : x.In v) (h : 0 ≤ x.dd t u) (k : 0 ≤ x.dd u v) : 0 ≤ x.dd t v ∧ x.dd t v ≤ x.dd t u + x.dd u v := by
  obtain ⟨a1, a2, a3, a4⟩ := dd_of ho ht hu h
  obtain ⟨b1, b2, b3, b4⟩ := dd_of ho hu hv k
  rw [ES_eq a3] at b4
  exact (dd_walk ho ht a1 (Wk_trans a4 b4)).2
theorem dd_symm (ho : x.Ok) {t u : Int} (ht : x.In t) (hu : x.In u) (h : 0 ≤ x.dd t u) : x.dd u t = x.dd t u := by
  have key : ∀ {t u : Int}, x.In t → x.In u → 0 ≤ x.dd t u → 0 ≤ x.dd u t ∧ x.dd u t ≤ x.dd t u := fun {t u} ht hu h => by
    obtain ⟨a1, a2, a3, a4⟩ := dd_of ho ht hu h
    have hr := Wk.rev (E := x.ES t) (fun v => x.In v ∧ gi (x.sfr t) v = true) (fun a b k ha hE => ⟨⟨(ES_bd ho ha.1 hE).1, (ES_bd ho ha.1 hE).2.1⟩, Ed.symm ho.hg ha.1 ha.2 hE⟩) ⟨ht, (sfr_t ho ht).2 ⟨a1, rfl⟩⟩ a4
    rw [← ES_eq a3] at hr
    exact (dd_walk ho hu a2 hr.2).2
  have h1 := key ht hu h
  have h2 := key hu ht h1.1
  omega
/-! ### Places: the ends of portals -/
def M (x : RC) : Int := 2 * (x.ps.length : Int)
def T (x : RC) (p : Int) : Int := if p % 2 = 0 then (gi x.ps (p / 2)).a else (gi x.ps (p / 2)).b
def ot (p : Int) : Int := p + 1 - 2 * (p % 2)
def ov (x : RC) (k : Int) : Int := 5 * (tc x.g x.c (gi x.ps k).a + tc x.g x.c (gi x.ps k).b)
def Pl (x : RC) (p : Int) : Prop := 0 ≤ p ∧ p < x.M
theorem ot_half (p : Int) : ot p / 2 = p / 2 := by unfold ot; omega
theorem ot_ot (p : Int) : ot (ot p) = p := by unfold ot; omega
theorem ot_mod (p : Int) : ot p % 2 = 1 - p % 2 := by unfold ot; omega
theorem ot_pl {p : Int} (h : x.Pl p) : x.Pl (ot p) := by unfold Pl M ot at *; omega
theorem pl_half {p : Int} (h : x.Pl p) : 0 ≤ p / 2 ∧ p / 2 < (x.ps.length : Int) := by unfold Pl M at *; omega
/-- What a portal is. -/
structure PtOk (x : RC) (p : Prt) : Prop where
  a : x.In p.a
  b : x.In p.b
  fa : gi x.fr p.a = true
  fb : gi x.fr p.b = true
  ne : ¬ x.sec p.a = x.sec p.b
  ed : Ed x.g x.c x.fr p.a p.b (5 * (tc x.g x.c p.a + tc x.g x.c p.b))
theorem straight (ho : x.Ok) {t u : Int} (ht : x.In t) (hu : x.In u) (hft : gi x.fr t = true) (hfu : gi x.fr u = true) {fr : List Bool} (hfr : gi fr u = true) {a b : Int} (h : (a = 1 ∧ b = 0) ∨ (a = 0 ∧ b = 1) ∨ (a = -1 ∧ b = 0) ∨ (a = 0 ∧ b = -1)) (hon : On x.g (t % x.g.w + a) (t / x.g.w + b)) (he : u = t % x.g.w + a + x.g.w * (t / x.g.w + b)) :
    Ed x.g x.c fr t u (5 * (tc x.g x.c t + tc x.g x.c u)) := by
  obtain ⟨i, hi, h1, h2⟩ := Go.Proofs.YthdbofgcckjopaaGreat.dd_of (dx := a) (dy := b) (by omega) (by omega) (by omega)
  have h4 : i < 4 := (way_lt hi).2 (by omega)
  have hn : nb x.g t i = u := by rw [nb_at (by rw [h1, h2]; exact hon), h1, h2, he]
  have hF : Fr fr (nb x.g t i) := by rw [hn]; exact ⟨hu.1, hfr⟩
  have p1 := ho.pos t ht.1 ht.2 hft
  have p2 := ho.pos u hu.1 hu.2 hfu
  refine ⟨i, hi, hn, ?_, by omega⟩
  unfold stp
  rw [if_pos hF, if_pos h4, hn]
theorem xy (ho : x.Ok) {t : Int} (ht : x.In t) : On x.g (t % x.g.w) (t / x.g.w) ∧ t % x.g.w + x.g.w * (t / x.g.w) = t := On.of ho.hg ht
theorem pos_on (ho : x.Ok) {d : Bool} {c v : Int} (hc : 0 ≤ c ∧ c < sidD x.g.w x.g.h d) (hv : 0 ≤ v ∧ v < limD x.g.w x.g.h d) : x.In (posD x.g.w d c v) ∧ (if d = true then posD x.g.w d c v / x.g.w = c ∧ posD x.g.w d c v % x.g.w = v else posD x.g.w d c v % x.g.w = c ∧ posD x.g.w d c v / x.g.w = v) := by
  have h := posD_dm hc hv
  exact ⟨⟨h.1, posD_lt ho.hg.1.1 hc hv⟩, h.2⟩
/-- Tiles that lie straight beside each other. -/
theorem beside (ho : x.Ok) {d : Bool} {c v c' v' : Int} (hc : 0 ≤ c ∧ c < sidD x.g.w x.g.h d) (hv : 0 ≤ v ∧ v < limD x.g.w x.g.h d) (hc' : 0 ≤ c' ∧ c' < sidD x.g.w x.g.h d) (hv' : 0 ≤ v' ∧ v' < limD x.g.w x.g.h d)
    (h : (c' = c + 1 ∧ v' = v) ∨ (c' = c - 1 ∧ v' = v) ∨ (c' = c ∧ v' = v + 1) ∨ (c' = c ∧ v' = v - 1)) (h1 : gi x.fr (posD x.g.w d c v) = true) (h2 : gi x.fr (posD x.g.w d c' v') = true) {fr : List Bool} (hfr : gi fr (posD x.g.w d c' v') = true) :
    Ed x.g x.c fr (posD x.g.w d c v) (posD x.g.w d c' v') (5 * (tc x.g x.c (posD x.g.w d c v) + tc x.g x.c (posD x.g.w d c' v'))) := by
  obtain ⟨a1, a2⟩ := pos_on ho hc hv
  obtain ⟨b1, b2⟩ := pos_on ho hc' hv'
  have a3 := xy ho a1
  have b3 := xy ho b1
  cases d with
  | true =>
    rw [if_pos rfl] at a2 b2
    refine straight ho a1 b1 h1 h2 hfr (a := v' - v) (b := c' - c) (by omega) ?_ ?_
    · rw [a2.1, a2.2, show v + (v' - v) = v' by omega, show c + (c' - c) = c' by omega]
      have b4 := b3.1; rw [b2.1, b2.2] at b4; exact b4
    · rw [a2.1, a2.2, show v + (v' - v) = v' by omega, show c + (c' - c) = c' by omega]; rfl
  | false =>
    rw [if_neg (by simp)] at a2 b2
    refine straight ho a1 b1 h1 h2 hfr (a := c' - c) (b := v' - v) (by omega) ?_ ?_
    · rw [a2.1, a2.2, show v + (v' - v) = v' by omega, show c + (c' - c) = c' by omega]
      have b4 := b3.1; rw [b2.1, b2.2] at b4; exact b4
    · rw [a2.1, a2.2, show v + (v' - v) = v' by omega, show c + (c' - c) = c' by omega]; rfl
theorem ptOk (ho : x.Ok) {p : Prt} (hp : p ∈ x.ps) : PtOk x p := by
  obtain ⟨d, c, v, n, hr, rfl⟩ := (ho.hp.2 p).1 hp
  have hn := hr.n1
  have hs := hr.side
  have hok := hr.ok
  have hc' : 0 ≤ c + 1 ∧ c + 1 < sidD x.g.w x.g.h d := ⟨by omega, hok.2.2⟩
  have hq := hr.q (v + (n - 1) / 2) (by omega) (by omega)
  have hv := hs.2 (v + (n - 1) / 2) (by omega) (by omega)
  unfold QD at hq
  unfold prtD
  rw [posD_over] at hq ⊢
  refine ⟨(pos_on ho hs.1 hv).1, (pos_on ho hc' hv).1, hq.1, hq.2, ?_, beside ho hs.1 hv hc' hv (.inl ⟨rfl, rfl⟩) hq.1 hq.2 hq.2⟩
  show ¬ atS x.g.w _ = atS x.g.w _
  rw [sec_at hs.1 hv, sec_at hc' hv]
  exact (sec_c ho.hg.1.1 hs.1.1).2 hok.2.1
theorem T_ot {p : Int} : (p % 2 = 0 ∧ x.T p = (gi x.ps (p / 2)).a ∧ x.T (ot p) = (gi x.ps (p / 2)).b) ∨ (p % 2 = 1 ∧ x.T p = (gi x.ps (p / 2)).b ∧ x.T (ot p) = (gi x.ps (p / 2)).a) := by
  unfold T
  rw [ot_half, ot_mod]
  by_cases h : p % 2 = 0
  · exact .inl ⟨h, if_pos h, if_neg (by omega)⟩
  · exact .inr ⟨by omega, if_neg h, if_pos (by omega)⟩
/-- What a place is. -/
structure PlOk (x : RC) (p : Int) : Prop where
  i : x.In (x.T p)
  f : gi x.fr (x.T p) = true
  ne : ¬ x.sec (x.T (ot p)) = x.sec (x.T p)
  ed : Ed x.g x.c x.fr (x.T p) (x.T (ot p)) (x.ov (p / 2))
  ov : 10 ≤ x.ov (p / 2) ∧ x.ov (p / 2) ≤ 60
theorem plOk (ho : x.Ok) {p : Int} (hp : x.Pl p) : PlOk x p := by
  have hh := pl_half hp
  have h := ptOk ho (gi_mem hh)
  have e1 : Ed x.g x.c x.fr (gi x.ps (p / 2)).b (gi x.ps (p / 2)).a (x.ov (p / 2)) := Ed.symm ho.hg h.a h.fa h.ed
  have p1 := ho.pos _ h.a.1 h.a.2 h.fa
  have p2 := ho.pos _ h.b.1 h.b.2 h.fb
  have q1 := tc_bd ho.hg ho.hc h.a
  have q2 := tc_bd ho.hg ho.hc h.b
  have hov : 10 ≤ x.ov (p / 2) ∧ x.ov (p / 2) ≤ 60 := by unfold RC.ov; omega
  rcases T_ot (x := x) (p := p) with ⟨_, h1, h2⟩ | ⟨_, h1, h2⟩
  · exact ⟨by rw [h1]; exact h.a, by rw [h1]; exact h.fa, by rw [h1, h2]; exact fun e => h.ne e.symm, by rw [h1, h2]; exact h.ed, hov⟩
  · exact ⟨by rw [h1]; exact h.b, by rw [h1]; exact h.fb, by rw [h1, h2]; exact h.ne, by rw [h1, h2]; exact e1, hov⟩
end RC
end Go.Proofs.YthdbofgcckjopaaGreat
set_option linter.unusedVariables false
set_option linter.unusedSimpArgs false
namespace Go.Proofs.YthdbofgcckjopaaGreat
open Go.Vg Sp Qp
/-! ### Lists that are held against each other -/
def LexLt : List Int → List Int → Prop
  | [], [] => False
  | [], _ :: _ => True
  | _ :: _, [] => False
  | a :: l, b :: m => a < b ∨ a = b ∧ LexLt l m
theorem LexLt.irr : ∀ l : List Int, ¬ LexLt l l
  | [] => fun h => h
  | a :: l => fun h => h.elim (fun h => by omega) fun h => LexLt.irr l h.2
theorem LexLt.trans : ∀ {l m n : List Int}, LexLt l m → LexLt m n → LexLt l n
  | [], [], _, h, _ => h.elim
  | [], _ :: _, [], _, k => k.elim
  | [], _ :: _, _ :: _, _, _ => trivial
  | _ :: _, [], _, h, _ => h.elim
  | _ :: _, _ :: _, [], _, k => k.elim
  | a :: l, b :: m, c :: n, h, k => by
    rcases h with h | ⟨h, h'⟩ <;> rcases k with k | ⟨k, k'⟩
    · exact .inl (by omega)
    · exact .inl (by omega)
    · exact .inl (by omega)
    · exact .inr ⟨by omega, LexLt.trans h' k'⟩
theorem LexLt.tri : ∀ l m : List Int, l.length = m.length → LexLt l m ∨ l = m ∨ LexLt m l
  | [], [], _ => .inr (.inl rfl)
  | [], _ :: _, h => by cases h
  | _ :: _, [], h => by cases h
  | a :: l, b :: m, h => by
    rcases Int.lt_trichotomy a b with h1 | h1 | h1
    · exact .inl (.inl h1)
    · subst h1
      rcases LexLt.tri l m (by simpa using h) with h2 | h2 | h2
      · exact .inl (.inr ⟨rfl, h2⟩)
      · exact .inr (.inl (by rw [h2]))
      · exact .inr (.inr (.inr ⟨rfl, h2⟩))
    · exact .inr (.inr (.inl h1))
theorem LexLt.app : ∀ {l m : List Int} (x : List Int), l.length = m.length → LexLt l m → LexLt (l ++ x) (m ++ x)
  | [], [], _, _, h => h.elim
  | [], _ :: _, _, h, _ => by cases h
  | _ :: _, [], _, h, _ => by cases h
  | a :: l, b :: m, x, h, k => by
    rcases k with k | ⟨k, k'⟩
    · exact .inl k
    · exact .inr ⟨k, LexLt.app x (by simpa using h) k'⟩
/-- One way is better than another one. -/
def LLt (a b : Int × List Int) : Prop := a.1 < b.1 ∨ a.1 = b.1 ∧ (a.2.length < b.2.length ∨ a.2.length = b.2.length ∧ LexLt a.2 b.2)
theorem LLt.irr (a : Int × List Int) : ¬ LLt a a := fun h => by
  rcases h with h | ⟨_, h | ⟨_, h⟩⟩
  · omega
  · omega
  · exact LexLt.irr _ h
theorem LLt.trans {a b c : Int × List Int} (h : LLt a b) (k : LLt b c) : LLt a c := by
  rcases h with h | ⟨h, h' | ⟨h', h''⟩⟩ <;> rcases k with k | ⟨k, k' | ⟨k', k''⟩⟩
  · exact .inl (by omega)
  · exact .inl (by omega)
  · exact .inl (by omega)
  · exact .inl (by omega)
  · exact .inr ⟨by omega, .inl (by omega)⟩
  · exact .inr ⟨by omega, .inl (by omega)⟩
  · exact .inl (by omega)
  · exact .inr ⟨by omega, .inl (by omega)⟩
  · exact .inr ⟨by omega, .inr ⟨by omega, h''.trans k''⟩⟩
theorem LLt.tri (a b : Int × List Int) : LLt a b ∨ a = b ∨ LLt b a := by
  obtain ⟨a1, a2⟩ := a
  obtain ⟨b1, b2⟩ := b
  rcases Int.lt_trichotomy a1 b1 with h | h | h
  · exact .inl (.inl h)
  · subst h
    rcases Nat.lt_trichotomy a2.length b2.length with k | k | k
    · exact .inl (.inr ⟨rfl, .inl k⟩)
    · rcases LexLt.tri a2 b2 k with m | m | m
      · exact .inl (.inr ⟨rfl, .inr ⟨k, m⟩⟩)
      · exact .inr (.inl (by rw [m]))
      · exact .inr (.inr (.inr ⟨rfl, .inr ⟨k.symm, m⟩⟩))
    · exact .inr (.inr (.inr ⟨rfl, .inl k⟩))
  · exact .inr (.inr (.inl h))
def LLe (a b : Int × List Int) : Prop := ¬ LLt b a
theorem LLe.refl (a : Int × List Int) : LLe a a := LLt.irr a
theorem LLe.trans {a b c : Int × List Int} (h : LLe a b) (k : LLe b c) : LLe a c := fun hca => by
  rcases LLt.tri b c with h1 | h1 | h1
  · exact h (h1.trans hca)
  · rw [← h1] at hca; exact h hca
  · exact k h1
theorem LLe.fst {a b : Int × List Int} (h : LLe a b) : a.1 ≤ b.1 := Int.not_lt.1 fun hh => h (.inl hh)
theorem LLe.of_lt {a b : Int × List Int} (h : a.1 < b.1) : LLe a b := fun k => by
  rcases k with k | ⟨k, _⟩ <;> omega
theorem LLt.app {a b : Int × List Int} (k : Int) (l : List Int) : LLt (a.1 + k, a.2 ++ l) (b.1 + k, b.2 ++ l) ↔ LLt a b := by
  constructor
  · intro h
    rcases LLt.tri a b with h1 | h1 | h1
    · exact h1
    · subst h1; exact absurd h (LLt.irr _)
    · have h2 : LLt (b.1 + k, b.2 ++ l) (a.1 + k, a.2 ++ l) := by
        rcases h1 with h1 | ⟨h1, h2 | ⟨h2, h3⟩⟩
        · exact .inl (by show b.1 + k < a.1 + k; omega)
        · exact .inr ⟨by show b.1 + k = a.1 + k; omega, .inl (by simp; omega)⟩
        · exact .inr ⟨by show b.1 + k = a.1 + k; omega, .inr ⟨by simp; omega, h3.app l h2⟩⟩
      exact absurd (h.trans h2) (LLt.irr _)
  · rintro (h1 | ⟨h1, h2 | ⟨h2, h3⟩⟩)
    · exact .inl (by show a.1 + k < b.1 + k; omega)
    · exact .inr ⟨by show a.1 + k = b.1 + k; omega, .inl (by simp; omega)⟩
    · exact .inr ⟨by show a.1 + k = b.1 + k; omega, .inr ⟨by simp; omega, h3.app l h2⟩⟩
theorem LLe.app {a b : Int × List Int} (h : LLe a b) (k : Int) (l : List Int) : LLe (a.1 + k, a.2 ++ l) (b.1 + k, b.2 ++ l) := fun hh => h ((LLt.app k l).1 hh)
namespace RC
variable {x : RC}
/-! ### Routes -/
inductive Rt (x : RC) : Int → List Int → Int → Int → Prop
  | nil {t u : Int} (ht : x.In t) (hu : x.In u) (h : 0 ≤ x.dd t u) : Rt x t [] (x.dd t u) u
  | cons {t p c u : Int} {L : List Int} (ht : x.In t) (hp : x.Pl p) (h : 0 ≤ x.dd t (x.T p)) (r : Rt x (x.T (ot p)) L c u) : Rt x t (p / 2 :: L) (x.dd t (x.T p) + x.ov (p / 2) + c) u
theorem Rt.ends (ho : x.Ok) {t u c : Int} {L : List Int} (r : Rt x t L c u) : (x.In t ∧ gi x.fr t = true) ∧ (x.In u ∧ gi x.fr u = true) ∧ 10 * (L.length : Int) ≤ c := by
  induction r with
  | nil ht hu h => have := dd_of ho ht hu h; exact ⟨⟨ht, this.1⟩, ⟨hu, this.2.1⟩, by simp; omega⟩
  | cons ht hp h r ih =>
    have h1 := plOk ho hp
    have h2 := dd_of ho ht h1.i h
    exact ⟨⟨ht, h2.1⟩, ih.2.1, by have := ih.2.2; have := h1.ov; simp; omega⟩
theorem Rt.shift (ho : x.Ok) {t u v c : Int} {L : List Int} (ht : x.In t) (hu : x.In u) (h : 0 ≤ x.dd t u) (r : Rt x u L c v) : ∃ c', c' ≤ x.dd t u + c ∧ Rt x t L c' v := by
  cases r with
  | nil _ hv k =>
    have := dd_tri ho ht hu hv h k
    exact ⟨_, this.2, .nil ht hv this.1⟩
  | cons _ hp k r =>
    have := dd_tri ho ht hu (plOk ho hp).i h k
    exact ⟨_, by omega, .cons ht hp this.1 r⟩
theorem Rt.app (ho : x.Ok) {t u v c d : Int} {L M : List Int} (r : Rt x t L c u) (k : Rt x u M d v) : ∃ c', c' ≤ c + d ∧ Rt x t (L ++ M) c' v := by
  induction r with
  | nil ht hu h => exact k.shift ho ht hu h
  | cons ht hp h r ih =>
    obtain ⟨c', h1, h2⟩ := ih k
    exact ⟨_, by omega, .cons ht hp h h2⟩
/-- One portal more, behind. -/
theorem Rt.snoc (ho : x.Ok) {t u c p : Int} {L : List Int} (hp : x.Pl p) (r : Rt x t L c (x.T p)) (hu : x.In u) (h : 0 ≤ x.dd (x.T (ot p)) u) : Rt x t (L ++ [p / 2]) (c + x.ov (p / 2) + x.dd (x.T (ot p)) u) u := by
  generalize e : x.T p = v at r
  induction r with
  | nil ht hv k =>
    subst e
    exact .cons ht hp k (.nil (plOk ho (ot_pl hp)).i hu h)
  | @cons t q c _ L ht hq k r ih =>
    have := Rt.cons ht hq k (ih e)
    rw [show x.dd t (x.T q) + x.ov (q / 2) + (c + x.ov (p / 2) + x.dd (x.T (ot p)) u) = x.dd t (x.T q) + x.ov (q / 2) + c + x.ov (p / 2) + x.dd (x.T (ot p)) u by omega] at this
    exact this
theorem Rt.rev (ho : x.Ok) {t u c : Int} {L : List Int} (r : Rt x t L c u) : Rt x u L.reverse c t := by
  induction r with
  | nil ht hu h =>
    have := dd_symm ho ht hu h
    rw [← this]; exact .nil hu ht (by omega)
  | @cons t p c u L ht hp h r ih =>
    have h1 := dd_symm ho ht (plOk ho hp).i h
    have h2 := ih.snoc ho (ot_pl hp) ht (by rw [ot_ot]; omega)
    rw [ot_half, ot_ot, h1] at h2
    rw [List.reverse_cons, show x.dd t (x.T p) + x.ov (p / 2) + c = c + x.ov (p / 2) + x.dd t (x.T p) by omega]
    exact h2
/-- A route is a walk. -/
theorem Ed_all (ho : x.Ok) {s t u k : Int} (ht : x.In t) (h : x.ES s t u k) : Ed x.g x.c x.fr t u k := by
  obtain ⟨i, hi, hn, hs, hk⟩ := h
  refine ⟨i, hi, hn, ?_, hk⟩
  have hF : ∀ j, Fr (x.sfr s) (nb x.g t j) → Fr x.fr (nb x.g t j) := fun j h => ((Fr_sec (c := x.c) ho.hg ho.hf).1 h).1
  unfold stp at hs ⊢
  by_cases h1 : Fr (x.sfr s) (nb x.g t i)
  · rw [if_pos h1] at hs
    rw [if_pos (hF i h1)]
    by_cases h4 : i < 4
    · rw [if_pos h4] at hs ⊢; exact hs
    · rw [if_neg h4] at hs ⊢
      by_cases h5 : Fr (x.sfr s) (nb x.g t (Sd1 i)) ∧ Fr (x.sfr s) (nb x.g t (Sd2 i))
      · rw [if_pos h5] at hs
        rw [if_pos ⟨hF _ h5.1, hF _ h5.2⟩]; exact hs
      · rw [if_neg h5] at hs; omega
  · rw [if_neg h1] at hs; omega
theorem Wk_all (ho : x.Ok) {s t u k : Int} (ht : x.In t) (h : Wk (x.ES s) t u k) : x.In u ∧ Wk (Ed x.g x.c x.fr) t u k := by
  induction h with
  | nil => exact ⟨ht, .nil _⟩
  | step _ he ih =>
    obtain ⟨h1, h2⟩ := ih
    exact ⟨(ES_bd ho h1 he).1, .step h2 (Ed_all ho h1 he)⟩
theorem Rt.walk (ho : x.Ok) {t u c : Int} {L : List Int} (r : Rt x t L c u) : Wk (Ed x.g x.c x.fr) t u c := by
  induction r with
  | nil ht hu h => exact (Wk_all ho ht (dd_of ho ht hu h).2.2.2).2
  | @cons t p c u L ht hp h r ih =>
    have h1 := plOk ho hp
    have h2 := (Wk_all ho ht (dd_of ho ht h1.i h).2.2.2).2
    exact Wk_trans (.step h2 h1.ed) ih
/-! ### Where there is a way there is a route -/
def Cn (x : RC) (t u : Int) : Prop := ∃ L c, Rt x t L c u
theorem Cn.trans (ho : x.Ok) {t u v : Int} (h : Cn x t u) (k : Cn x u v) : Cn x t v := by
  obtain ⟨L, c, r⟩ := h
  obtain ⟨M, d, r'⟩ := k
  obtain ⟨c', _, h⟩ := r.app ho r'
  exact ⟨_, _, h⟩
theorem Cn.symm (ho : x.Ok) {t u : Int} (h : Cn x t u) : Cn x u t := by
  obtain ⟨L, c, r⟩ := h
  exact ⟨_, _, r.rev ho⟩
theorem Cn.step (ho : x.Ok) {t u k : Int} (ht : x.In t) (hft : gi x.fr t = true) (h : x.ES t t u k) : Cn x t u := by
  have h1 := dd_walk ho ht hft (.step (.nil t) h)
  exact ⟨_, _, .nil ht h1.1 h1.2.1⟩
theorem Cn.refl (ho : x.Ok) {t : Int} (ht : x.In t) (hft : gi x.fr t = true) : Cn x t t :=
  ⟨_, _, .nil ht ht (by rw [dd_self ho ht hft]; omega)⟩
/-- Along a run. -/
theorem Cn.run (ho : x.Ok) {d : Bool} {c v : Int} (hc : 0 ≤ c ∧ c < sidD x.g.w x.g.h d) : ∀ n : Nat, (∀ j : Int, v ≤ j → j ≤ v + n → (0 ≤ j ∧ j < limD x.g.w x.g.h d) ∧ gi x.fr (posD x.g.w d c j) = true ∧ j / 8 = v / 8) → Cn x (posD x.g.w d c v) (posD x.g.w d c (v + n))
  | 0, h => by
    have := h v (by omega) (by omega)
    rw [show v + ((0 : Nat) : Int) = v by omega]
    exact Cn.refl ho (pos_on ho hc this.1).1 this.2.1
  | n + 1, h => by
    have ih := Cn.run ho hc n fun j a b => h j a (by omega)
    have h1 := h (v + n) (by omega) (by omega)
    have h2 := h (v + (n + 1 : Nat)) (by omega) (by omega)
    have i1 := (pos_on ho hc h1.1).1
    have i2 := (pos_on ho hc h2.1).1
    refine ih.trans ho (Cn.step ho i1 h1.2.1 (beside ho hc h1.1 hc h2.1 (.inr (.inr (.inl ⟨rfl, by omega⟩))) h1.2.1 h2.2.1 ?_))
    refine (sfr_t ho i2).2 ⟨h2.2.1, ?_⟩
    show atS x.g.w _ = atS x.g.w _
    rw [sec_at hc h2.1, sec_at hc h1.1]
    exact (sec_v ho.hg.1.1).2 (by omega)
theorem Cn.run2 (ho : x.Ok) {d : Bool} {c v n s : Int} (hc : 0 ≤ c ∧ c < sidD x.g.w x.g.h d) (hr : RunD x.g.w x.g.h x.fr d s v n) (hf : ∀ j, v ≤ j → j < v + n → gi x.fr (posD x.g.w d c j) = true) {j j' : Int} (hj : v ≤ j ∧ j < v + n) (hj' : v ≤ j' ∧ j' < v + n) : Cn x (posD x.g.w d c j) (posD x.g.w d c j') := by
  have hb := hr.blk
  have key : ∀ {i i' : Int}, v ≤ i → i ≤ i' → i' < v + n → Cn x (posD x.g.w d c i) (posD x.g.w d c i') := fun {i i'} a b e => by
    have := Cn.run ho (v := i) hc (i' - i).toNat (fun j a' b' => ⟨hr.side.2 j (by omega) (by omega), hf j (by omega) (by omega), by omega⟩)
    rw [show i + ((i' - i).toNat : Int) = i' by omega] at this
    exact this
  rcases Int.le_total j j' with h | h
  · exact key hj.1 h hj'.2
  · exact (key hj'.1 h hj.2).symm ho
theorem In_ps {p : Prt} (hp : p ∈ x.ps) : ∃ k : Int, (0 ≤ k ∧ k < (x.ps.length : Int)) ∧ gi x.ps k = p := by
  obtain ⟨i, h0, h1, h2⟩ := gi_mem2.1 hp
  exact ⟨i, ⟨h0, h1⟩, h2⟩
theorem Cn.portal (ho : x.Ok) {p : Prt} (hp : p ∈ x.ps) : Cn x p.a p.b := by
  obtain ⟨k, hk, rfl⟩ := In_ps hp
  have hpl : x.Pl (2 * k) := by unfold Pl M; omega
  have h := ptOk ho (gi_mem hk)
  have e : x.T (2 * k) = (gi x.ps k).a ∧ x.T (ot (2 * k)) = (gi x.ps k).b := by
    rcases T_ot (x := x) (p := 2 * k) with ⟨_, h1, h2⟩ | ⟨h0, _⟩
    · rw [show 2 * k / 2 = k by omega] at h1 h2; exact ⟨h1, h2⟩
    · omega
  refine ⟨_, _, Rt.cons h.a hpl (by rw [e.1, dd_self ho h.a h.fa]; omega) (Rt.nil (t := x.T (ot (2 * k))) (u := (gi x.ps k).b) (by rw [e.2]; exact h.b) h.b (by rw [e.2, dd_self ho h.b h.fb]; omega))⟩
/-- Straight beside each other. -/
theorem Cn.pair (ho : x.Ok) {d : Bool} {c v : Int} (hc : 0 ≤ c ∧ c + 1 < sidD x.g.w x.g.h d) (hv : 0 ≤ v ∧ v < limD x.g.w x.g.h d) (h1 : gi x.fr (posD x.g.w d c v) = true) (h2 : gi x.fr (posD x.g.w d (c + 1) v) = true) : Cn x (posD x.g.w d c v) (posD x.g.w d (c + 1) v) := by
  have hc0 : 0 ≤ c ∧ c < sidD x.g.w x.g.h d := by omega
  have hc1 : 0 ≤ c + 1 ∧ c + 1 < sidD x.g.w x.g.h d := by omega
  have i1 := (pos_on ho hc0 hv).1
  have i2 := (pos_on ho hc1 hv).1
  by_cases h8 : c % 8 = 7
  · obtain ⟨s, n, hr, hs1, hs2⟩ := run_ex (W := x.g.w) (H := x.g.h) (fr := x.fr) (d := d) (c := c) (v := v) ⟨⟨hc.1, h8, hc.2⟩, hv, h1, by rw [posD_over]; exact h2⟩
    have hn := hr.n1
    have hm : s ≤ s + (n - 1) / 2 ∧ s + (n - 1) / 2 < s + n := by omega
    have a := Cn.run2 ho hc0 hr (fun j a b => (hr.q j a b).1) ⟨hs1, hs2⟩ hm
    have b := Cn.run2 ho hc1 hr (fun j a b => by have := (hr.q j a b).2; rw [posD_over] at this; exact this) hm ⟨hs1, hs2⟩
    have e := Cn.portal ho (p := prtD x.g.w d c s n) ((ho.hp.2 _).2 ⟨d, c, s, n, hr, rfl⟩)
    unfold prtD at e
    rw [posD_over] at e
    exact (a.trans ho e).trans ho b
  · refine Cn.step ho i1 h1 (beside ho hc0 hv hc1 hv (.inl ⟨rfl, rfl⟩) h1 h2 ((sfr_t ho i2).2 ⟨h2, ?_⟩))
    show atS x.g.w _ = atS x.g.w _
    rw [sec_at hc1 hv, sec_at hc0 hv]
    exact (Classical.byContradiction fun hn => h8 ((sec_c ho.hg.1.1 hc.1).1 fun e => hn e.symm))
theorem Cn.side (ho : x.Ok) {X Y a b : Int} (h : (a = 1 ∧ b = 0) ∨ (a = 0 ∧ b = 1) ∨ (a = -1 ∧ b = 0) ∨ (a = 0 ∧ b = -1)) (h1 : FO x.g x.fr X Y) (h2 : FO x.g x.fr (X + a) (Y + b)) : Cn x (X + x.g.w * Y) (X + a + x.g.w * (Y + b)) := by
  obtain ⟨⟨hX, hY⟩, hf⟩ := h1
  obtain ⟨⟨hX', hY'⟩, hf'⟩ := h2
  have pf : ∀ {c v : Int}, posD x.g.w false c v = c + x.g.w * v := fun {c v} => rfl
  have pt : ∀ {c v : Int}, posD x.g.w true c v = v + x.g.w * c := fun {c v} => rfl
  rcases h with ⟨rfl, rfl⟩ | ⟨rfl, rfl⟩ | ⟨rfl, rfl⟩ | ⟨rfl, rfl⟩
  · rw [show Y + 0 = Y by omega] at *
    exact Cn.pair ho (d := false) (c := X) (v := Y) ⟨hX.1, hX'.2⟩ hY hf hf'
  · rw [show X + 0 = X by omega] at *
    exact Cn.pair ho (d := true) (c := Y) (v := X) ⟨hY.1, hY'.2⟩ hX hf hf'
  · rw [show Y + 0 = Y by omega] at *
    have := Cn.pair ho (d := false) (c := X + -1) (v := Y) ⟨hX'.1, by show X + -1 + 1 < x.g.w; omega⟩ hY hf' (by rw [pf, show X + -1 + 1 = X by omega]; exact hf)
    rw [pf, pf, show X + -1 + 1 = X by omega] at this
    exact this.symm ho
  · rw [show X + 0 = X by omega] at *
    have := Cn.pair ho (d := true) (c := Y + -1) (v := X) ⟨hY'.1, by show Y + -1 + 1 < x.g.h; omega⟩ hX hf' (by rw [pt, show Y + -1 + 1 = Y by omega]; exact hf)
    rw [pt, pt, show Y + -1 + 1 = Y by omega] at this
    exact this.symm ho
end RC
end Go.Proofs.YthdbofgcckjopaaGreat
set_option linter.unusedVariables false
set_option linter.unusedSimpArgs false
namespace Go.Proofs.YthdbofgcckjopaaGreat
open Go.Vg Sp Qp
namespace RC
variable {x : RC}
theorem Cn.ed (ho : x.Ok) {t u k : Int} (ht : x.In t) (hft : gi x.fr t = true) (h : Ed x.g x.c x.fr t u k) : Cn x t u := by
  obtain ⟨a, b, rfl, hs⟩ := (Ed.iff ho.hg ht).1 h
  have hxy := xy ho ht
  have hF : FO x.g x.fr (t % x.g.w) (t / x.g.w) := ⟨hxy.1, by rw [hxy.2]; exact hft⟩
  have h1 := hs.a1; have h2 := hs.b1; have h3 := hs.ne
  have e : ∀ {v : Int}, Cn x (t % x.g.w + x.g.w * (t / x.g.w)) v → Cn x t v := fun {v} h => by rw [hxy.2] at h; exact h
  by_cases hab : a = 0 ∨ b = 0
  · exact e (Cn.side ho (by omega) hF hs.to)
  · obtain ⟨k1, k2⟩ := hs.sd.resolve_left hab
    have c1 := Cn.side ho (X := t % x.g.w) (Y := t / x.g.w) (a := a) (b := 0) (by omega) hF (by rw [Int.add_zero]; exact k1)
    rw [Int.add_zero] at c1
    have c2 := Cn.side ho (X := t % x.g.w + a) (Y := t / x.g.w) (a := 0) (b := b) (by omega) k1 (by rw [Int.add_zero]; exact hs.to)
    rw [Int.add_zero] at c2
    exact e (c1.trans ho c2)
theorem Cn.wk (ho : x.Ok) {t u k : Int} (ht : x.In t) (hft : gi x.fr t = true) (w : Wk (Ed x.g x.c x.fr) t u k) : (x.In u ∧ gi x.fr u = true) ∧ Cn x t u := by
  induction w with
  | nil => exact ⟨⟨ht, hft⟩, Cn.refl ho ht hft⟩
  | step _ he ih =>
    obtain ⟨⟨h1, h2⟩, h3⟩ := ih
    have h4 := Ed.bd ho.hg ho.hc h1 he
    exact ⟨⟨h4.1, h4.2.1⟩, h3.trans ho (Cn.ed ho h1 h2 he)⟩
/-! ### The best route -/
def Bst (x : RC) (t u c : Int) (L : List Int) : Prop := Rt x t L c u ∧ ∀ L' c', Rt x t L' c' u → LLe (c, L) (c', L')
theorem Rt.split (ho : x.Ok) {k u : Int} {B : List Int} : ∀ {A : List Int} {t c : Int}, Rt x t (A ++ k :: B) c u → ∃ p c1 c2, x.Pl p ∧ p / 2 = k ∧ Rt x t A c1 (x.T p) ∧ Rt x (x.T (ot p)) B c2 u ∧ c = c1 + x.ov k + c2
  | [], t, c, r => by
    generalize e : [] ++ k :: B = L at r
    cases r with
    | nil => cases e
    | @cons _ p c2 _ L2 ht hp h r =>
      obtain ⟨e1, e2⟩ := List.cons.inj (show k :: B = p / 2 :: L2 from e)
      subst e2
      exact ⟨p, _, _, hp, e1.symm, .nil ht (plOk ho hp).i h, r, by rw [e1]⟩
  | a :: A, t, c, r => by
    generalize e : (a :: A) ++ k :: B = L at r
    cases r with
    | nil => cases e
    | @cons _ q c2 _ L2 ht hq h r =>
      obtain ⟨e1, e2⟩ := List.cons.inj (show a :: (A ++ k :: B) = q / 2 :: L2 from e)
      subst e2
      obtain ⟨p, d1, d2, hp, hk, r1, r2, hd⟩ := Rt.split ho r
      exact ⟨p, _, _, hp, hk, by rw [e1]; exact .cons ht hq h r1, r2, by omega⟩
theorem Bst.nodup (ho : x.Ok) {t u c : Int} {L : List Int} (h : Bst x t u c L) : L.Nodup := by
  refine Classical.byContradiction fun hn => ?_
  have key : ∀ {L : List Int}, ¬ L.Nodup → ∃ A k B C, L = A ++ k :: (B ++ k :: C) := fun {L} => by
    induction L with
    | nil => intro h; exact absurd List.nodup_nil h
    | cons a L ih =>
      intro h
      by_cases ha : a ∈ L
      · obtain ⟨B, C, rfl⟩ := List.append_of_mem ha
        exact ⟨[], a, B, C, rfl⟩
      · obtain ⟨A, k, B, C, rfl⟩ := ih fun hl => h (List.nodup_cons.2 ⟨ha, hl⟩)
        exact ⟨a :: A, k, B, C, rfl⟩
  obtain ⟨A, k, B, C, rfl⟩ := key hn
  obtain ⟨p, c1, c2, hp, hk, r1, r2, e1⟩ := Rt.split ho h.1
  obtain ⟨q, c3, c4, hq, hk2, r3, r4, e2⟩ := Rt.split ho r2
  have b3 := (r3.ends ho).2.2
  have ov := (plOk ho hp).ov
  rw [hk] at ov
  have hle : ∀ {L' : List Int} {c' : Int}, c' < c → Rt x t L' c' u → False := fun hlt r => by
    have := (h.2 _ _ r).fst
    have : c ≤ _ := this
    omega
  by_cases e : q = p
  · subst e
    have r5 := Rt.cons (plOk ho hp).i hp (by rw [dd_self ho (plOk ho hp).i (plOk ho hp).f]; omega) r4
    obtain ⟨c', h1, h2⟩ := r1.app ho r5
    rw [dd_self ho (plOk ho hp).i (plOk ho hp).f, hk] at h1
    exact hle (by omega) h2
  · have eq : q = ot p := by unfold ot; omega
    rw [eq, ot_ot] at r4
    obtain ⟨c', h1, h2⟩ := r1.app ho r4
    exact hle (by omega) h2
/-! ### The sectors of a route -/
def secL (x : RC) : Int → List Int → List Int
  | _, [] => []
  | s, k :: L =>
    let s' := if s = x.sec (gi x.ps k).a then x.sec (gi x.ps k).b else x.sec (gi x.ps k).a
    s' :: secL x s' L
theorem len_secL : ∀ {L : List Int} {s : Int}, (secL x s L).length = L.length
  | [], _ => rfl
  | k :: L, s => by simp [secL, len_secL]
theorem sec_next (ho : x.Ok) {t p : Int} (ht : x.In t) (hp : x.Pl p) (h : 0 ≤ x.dd t (x.T p)) : (if x.sec t = x.sec (gi x.ps (p / 2)).a then x.sec (gi x.ps (p / 2)).b else x.sec (gi x.ps (p / 2)).a) = x.sec (x.T (ot p)) := by
  have h1 := (dd_of ho ht (plOk ho hp).i h).2.2.1
  have h2 := (plOk ho hp).ne
  rcases T_ot (x := x) (p := p) with ⟨_, e1, e2⟩ | ⟨_, e1, e2⟩
  · rw [e1] at h1; rw [e2, if_pos h1.symm]
  · rw [e1] at h1 h2; rw [e2] at h2 ⊢
    rw [if_neg (fun e => h2 (e.symm.trans h1.symm))]
/-- Each portal joins the sectors ahead of it and behind it. -/
theorem Rt.secs (ho : x.Ok) {t u c : Int} {L : List Int} (r : Rt x t L c u) :
    (∀ k : Int, 0 ≤ k → k < (L.length : Int) → (0 ≤ gi L k ∧ gi L k < (x.ps.length : Int)) ∧
      ((x.sec (gi x.ps (gi L k)).a = gi (x.sec t :: secL x (x.sec t) L) k ∧ x.sec (gi x.ps (gi L k)).b = gi (x.sec t :: secL x (x.sec t) L) (k + 1)) ∨
       (x.sec (gi x.ps (gi L k)).b = gi (x.sec t :: secL x (x.sec t) L) k ∧ x.sec (gi x.ps (gi L k)).a = gi (x.sec t :: secL x (x.sec t) L) (k + 1)))) ∧
    gi (x.sec t :: secL x (x.sec t) L) (L.length : Int) = x.sec u := by
  induction r with
  | nil ht hu h => exact ⟨fun k k0 k1 => by simp at k1; omega, (dd_of ho ht hu h).2.2.1.symm⟩
  | @cons t p c u L ht hp h r ih =>
    have hn := sec_next ho ht hp h
    have h1 := (dd_of ho ht (plOk ho hp).i h).2.2.1
    have hne := (plOk ho hp).ne
    have es : secL x (x.sec t) (p / 2 :: L) = x.sec (x.T (ot p)) :: secL x (x.sec (x.T (ot p))) L := by simp only [secL, hn]
    rw [es]
    have gs : ∀ (a : Int) (l : List Int) (k : Int), 0 ≤ k → gi (a :: l) (k + 1) = gi l k := fun a l k hk => by
      show (a :: l).getD (k + 1).toNat default = l.getD k.toNat default
      rw [show (k + 1).toNat = k.toNat + 1 by omega]; rfl
    have g0 : ∀ (a : Int) (l : List Int), gi (a :: l) 0 = a := fun a l => rfl
    refine ⟨fun k k0 k1 => ?_, ?_⟩
    · by_cases hk : k = 0
      · subst hk
        rw [g0, g0, gs _ _ 0 (by omega), g0]
        refine ⟨pl_half hp, ?_⟩
        rcases T_ot (x := x) (p := p) with ⟨_, e1, e2⟩ | ⟨_, e1, e2⟩
        · rw [e1] at h1; rw [e2]; exact .inl ⟨h1, rfl⟩
        · rw [e1] at h1; rw [e2]; exact .inr ⟨h1, rfl⟩
      · obtain ⟨j, rfl⟩ : ∃ j, k = j + 1 := ⟨k - 1, by omega⟩
        have := ih.1 j (by omega) (by simp at k1; omega)
        rw [gs _ L j (by omega), gs _ _ j (by omega), gs _ _ (j + 1) (by omega)]
        exact this
    · rw [show ((p / 2 :: L).length : Int) = (L.length : Int) + 1 by simp, gs _ _ _ (by omega)]
      exact ih.2
end RC
end Go.Proofs.YthdbofgcckjopaaGreat
