/-
  The page's search: how far each tile is, reckoned with a queue of tiles, is the one table too. The conditions stand in each lemma.
-/
import Derived.Test.YtgpjjcncdaelpaaFZ
set_option linter.unusedVariables false
set_option linter.unusedSimpArgs false
namespace Go.Proofs.Ytgpjjcncdaelpaa
open Go.Vg
theorem sd_of {i : Int} (h : 4 ≤ i ∧ i < 8) : (i - 4 + 0) % 4 = Sd1 i ∧ (i - 4 + 1) % 4 = Sd2 i := by
  obtain ⟨a, ha⟩ : ∃ a : Fin 8, ((a.val : Nat) : Int) = i := ⟨⟨i.toNat, by omega⟩, by simp; omega⟩
  subst ha
  revert a
  decide +kernel
theorem stepR_p {g : Grd} {c : Int} {fr : List Bool} {t i : Int} {near : List Int} (hg : GOk g) (hc : 0 ≤ c ∧ c ≤ 2) (hf : (fr.length : Int) = g.w * g.h) (ht : 0 ≤ t ∧ t < g.w * g.h) (hft : gi fr t = true) (hn : Nbs g t near) (hi : 0 ≤ i ∧ i < 8) : throngref13_step g fr c t near i (-1) = some (stp g c fr t i) := by
  have hgl := hg.2.2.1
  have hgt := hg.2.2.2
  obtain ⟨hnl, hnb⟩ := hn
  have bnd : ∀ j, ¬ nb g t j < 0 → nb g t j < (fr.length : Int) := fun j h => by have := nb_bd hg (t := t) (i := j) (by omega); omega
  unfold throngref13_step
  rw [hnb i hi.1 hi.2]
  refine Ok.eq (Ok.gd (by omega) (Ok.gd (fun _ => by omega) (Ok.gd (fun h => ⟨by omega, bnd i (by omega)⟩) ?_)))
  unfold stp
  by_cases h1 : Fr fr (nb g t i)
  · obtain ⟨h2, h3⟩ := h1
    have hub := nb_bd hg h2
    refine Ok.bindE (x := false) (by rw [if_neg (by rw [h3, hft]; simp; omega), if_neg (by omega)]; rfl) ?_
    rw [if_neg (by simp), if_pos (show Fr fr (nb g t i) from ⟨h2, h3⟩), if_pos (by omega)]
    rw [cost_p hc ⟨by omega, hgt t ht.1 (by omega)⟩, bsome, if_pos (by omega), cost_p hc ⟨by omega, hgt _ h2 (by omega)⟩, bsome]
    have t1 := tc_bd hg hc ht
    have t2 := tc_bd hg hc ⟨h2, hub⟩
    show Ok (if I64 (tc g c t + tc g c (nb g t i)) then _ else none) _
    refine Ok.gd (by unfold I64; omega) ?_
    by_cases h4 : i < 4
    · rw [if_pos h4, if_pos h4]
      exact Ok.gd (by show I64 (5 * (tc g c t + tc g c (nb g t i))); unfold I64; omega) (Ok.ret rfl)
    · rw [if_neg h4, if_neg h4]
      have hsd := sd_of (i := i) (by omega)
      have hs := sd_bd hi
      refine Ok.bind (scanOk (a := 0) (n := 2) (fun v => Fr fr (nb g t ((i - 4 + v) % 4))) (fun r => r = 0 ∧ ¬ (Fr fr (nb g t (Sd1 i)) ∧ Fr fr (nb g t (Sd2 i)))) (by omega) (fun v v0 v1 _ => ?_) (fun v v0 v1 => by rw [if_neg (by omega)])) ?_
      · have hm0 := Int.emod_nonneg (i - 4 + v) (show (4 : Int) ≠ 0 by omega)
        have hm1 := Int.emod_lt_of_pos (i - 4 + v) (show (0 : Int) < 4 by omega)
        rw [if_pos v1, hnb _ hm0 (by omega)]
        refine Ok.gd (by unfold I64; omega) (Ok.gd (by unfold I64; omega) (Ok.gd (by omega) (Ok.gd (by omega) (Ok.gd (fun h => ⟨by omega, bnd _ h⟩) ?_))))
        by_cases hfr : Fr fr (nb g t ((i - 4 + v) % 4))
        · have := hfr
          obtain ⟨a1, a2⟩ := this
          refine Ok.bindE (x := false) (by rw [if_neg (by rw [a2]; simp; omega), if_neg (by omega)]; rfl) ?_
          rw [if_neg (by simp)]
          exact Ok.gd (by unfold I64; omega) (Ok.ret ⟨rfl, hfr⟩)
        · have hb : nb g t ((i - 4 + v) % 4) < 0 ∨ (!(gi fr (nb g t ((i - 4 + v) % 4)))) = true := by
            apply Classical.byContradiction; intro hn
            refine hfr ⟨by omega, ?_⟩
            cases hh : gi fr (nb g t ((i - 4 + v) % 4)) with
            | true => rfl
            | false => exact absurd (.inr (by rw [hh]; rfl)) hn
          refine Ok.bindE (x := true) (by rw [if_pos hb]) ?_
          rw [if_pos rfl]
          refine Ok.ret ⟨rfl, fun hh => hfr ?_⟩
          have hv : v = 0 ∨ v = 1 := by omega
          rcases hv with rfl | rfl
          · rw [hsd.1]; exact hh.1
          · rw [hsd.2]; exact hh.2
      · rintro (_ | r) hx
        · have hx : ∀ u, 0 ≤ u → u < 2 → Fr fr (nb g t ((i - 4 + u) % 4)) := hx
          have a := hx 0 (by omega) (by omega)
          have b := hx 1 (by omega) (by omega)
          rw [hsd.1] at a; rw [hsd.2] at b
          dsimp only [Ex.then]
          rw [if_pos (show Fr fr (nb g t (Sd1 i)) ∧ Fr fr (nb g t (Sd2 i)) from ⟨a, b⟩)]
          exact Ok.gd (by show I64 (7 * (tc g c t + tc g c (nb g t i))); unfold I64; omega) (Ok.ret rfl)
        · obtain ⟨rfl, hx⟩ := hx
          rw [if_neg hx]
          exact Ok.ret rfl
  · rw [if_neg h1]
    have hb : (nb g t i < 0 ∨ (!gi fr t) = true) ∨ (!gi fr (nb g t i)) = true := by
      apply Classical.byContradiction; intro hn
      refine h1 ⟨by omega, ?_⟩
      cases hh : gi fr (nb g t i) with
      | true => rfl
      | false => exact absurd (.inr (by rw [hh]; rfl)) hn
    refine Ok.bindE (x := true) (by rw [if_pos hb]) ?_
    rw [if_pos rfl]
    exact Ok.ret rfl
/-! ### Sums over a table -/
def BIG : Nat := 1376257
def pot (v : Int) : Nat := if v < 0 then BIG else v.toNat
def sumP (d : List Int) : Nat := (d.map pot).sum
def asg (d : List Int) : Nat := d.countP fun v => decide (0 ≤ v)
theorem sumP_set : ∀ {d : List Int} {n : Nat} {x : Int}, n < d.length → sumP (d.set n x) + pot (d.getD n 0) = sumP d + pot x
  | v :: d, 0, x, _ => by simp [sumP]; omega
  | v :: d, n + 1, x, h => by
    have := sumP_set (d := d) (n := n) (x := x) (by simpa using h)
    simp [sumP] at this ⊢; omega
theorem sumP_si {d : List Int} {u x : Int} (h : 0 ≤ u ∧ u < d.length) : sumP (si d u x) + pot (gi d u) = sumP d + pot x := sumP_set (by omega)
theorem sumP_le : ∀ {d : List Int}, (∀ v ∈ d, v ≤ 84 * 16384) → sumP d ≤ d.length * BIG
  | [], _ => by simp [sumP]
  | v :: d, h => by
    have := sumP_le (d := d) (fun x hx => h x (List.mem_cons_of_mem _ hx))
    have h1 := h v List.mem_cons_self
    have h2 : pot v ≤ BIG := by unfold pot BIG; split <;> omega
    simp [sumP] at this ⊢
    rw [Nat.add_mul]; omega
theorem asg_set : ∀ {d : List Int} {n : Nat} {x : Int}, n < d.length → 0 ≤ x → asg (d.set n x) = asg d + (if 0 ≤ d.getD n 0 then 0 else 1)
  | v :: d, 0, x, _, hx => by
    unfold asg
    rw [List.set_cons_zero, List.countP_cons, List.countP_cons, if_pos (by simpa using hx)]
    show _ = _ + (if 0 ≤ v then 0 else 1)
    by_cases h : 0 ≤ v
    · rw [if_pos (by simpa using h), if_pos h]
    · rw [if_neg (by simpa using h), if_neg h]
  | v :: d, n + 1, x, h, hx => by
    have := asg_set (d := d) (n := n) (x := x) (by simpa using h) hx
    unfold asg at this ⊢
    rw [List.set_cons_succ, List.countP_cons, List.countP_cons, this]
    show _ = _ + (if 0 ≤ d.getD n 0 then 0 else 1)
    omega
theorem asg_si {d : List Int} {u x : Int} (h : 0 ≤ u ∧ u < d.length) (hx : 0 ≤ x) : asg (si d u x) = asg d + (if 0 ≤ gi d u then 0 else 1) := asg_set (by omega) hx
theorem asg_le (d : List Int) : asg d ≤ d.length := List.countP_le_length
/-- Where the search stands; of the tile s (-1: of none) the first so many ways were looked at. -/
structure SP (N goal : Int) (fr : List Bool) (E : Int → Int → Int → Prop) (nbf st : Int → Int) (s i : Int) (M : Nat) (d todo : List Int) (w : List Bool) : Prop where
  dl : (d.length : Int) = N
  wl : (w.length : Int) = N
  td : ∀ x ∈ todo, (0 ≤ x ∧ x < N) ∧ 0 ≤ gi d x
  wt : ∀ x, (0 ≤ x ∧ x < N) → gi w x = true → x ∈ todo
  J : ∀ x, (0 ≤ x ∧ x < N) → 0 ≤ gi d x → x ∉ todo → x ≠ s → ∀ u k, E x u k → 0 ≤ gi d u ∧ gi d u ≤ gi d x + k
  rel : ∀ j, (0 ≤ j ∧ j < i) → 0 < st j → 0 ≤ gi d (nbf j) ∧ gi d (nbf j) ≤ gi d s + st j
  sup : ∀ x, (0 ≤ x ∧ x < N) → x ≠ goal → 0 ≤ gi d x → ∃ u k, (0 ≤ u ∧ u < N) ∧ E u x k ∧ 0 < k ∧ 0 ≤ gi d u ∧ gi d u + k ≤ gi d x
  Z : gi d goal = 0
  R : ∀ x, (0 ≤ x ∧ x < N) → -1 ≤ gi d x
  P : ∀ x, (0 ≤ x ∧ x < N) → 0 ≤ gi d x → gi fr x = true
  W : ∀ x, (0 ≤ x ∧ x < N) → gi d x ≤ 84 * ((asg d : Int) - 1)
  V : 2 * sumP d + todo.length ≤ M
theorem SP.fin {N goal : Int} {fr : List Bool} {E : Int → Int → Int → Prop} {nbf st : Int → Int} {M : Nat} {d : List Int} {w : List Bool} (h : SP N goal fr E nbf st (-1) 0 M d [] w) : LD N E goal d := by
  refine ⟨h.dl, fun t t0 t1 => h.R t ⟨t0, t1⟩, h.Z, fun t u k ht h0 he => h.J t ht h0 (by simp) (by omega) u k he, fun t ht hg h0 => ?_⟩
  obtain ⟨u, k, hu, he, hk, hd, hs⟩ := h.sup t ht hg h0
  have := h.J u hu hd (by simp) (by omega) t k he
  exact ⟨u, k, hu, he, hk, hd, by omega⟩
end Go.Proofs.Ytgpjjcncdaelpaa
