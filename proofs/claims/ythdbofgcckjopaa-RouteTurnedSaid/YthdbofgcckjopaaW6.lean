/-
  Texts of one's own, joined: SP ST PQA PQB PQC SJ PQD PQE PQF PQP.
-/
import Derived.Test.YthdbofgcckjopaaPQS
import Derived.Test.YthdbofgcckjopaaRG
import Derived.Test.YthdbofgcckjopaaW3
import Derived.Test.YthdbofgcckjopaaW5
set_option linter.unusedVariables false
namespace Go.Proofs.Ythdbofgcckjopaa
namespace Sp
def acr (n : Int) : Int := (n + 8 - 1) / 8
def atS (w t : Int) : Int := t % w / 8 + acr w * (t / w / 8)
def May (w h : Int) : Prop := (1 ≤ w ∧ w ≤ 128) ∧ (1 ≤ h ∧ h ≤ 128)
instance (w h : Int) : Decidable (May w h) := by unfold May; exact inferInstance
theorem divmod {w t : Int} (hw : 1 ≤ w) (ht : 0 ≤ t) : 0 ≤ t % w ∧ t % w < w ∧ 0 ≤ t / w ∧ t / w ≤ t ∧ w * (t / w) + t % w = t :=
  ⟨Int.emod_nonneg _ (by omega), Int.emod_lt_of_pos _ (by omega), Int.ediv_nonneg ht (by omega), Int.ediv_le_self _ ht, Int.mul_ediv_add_emod t w⟩
end Sp
end Go.Proofs.Ythdbofgcckjopaa
set_option linter.unusedVariables false
namespace Go.Proofs.Ythdbofgcckjopaa
namespace Sp
/-- A sector's tiles, rising. -/
def TilesOk (w h s : Int) (l : List Int) : Prop := (∀ t, t ∈ l ↔ 0 ≤ t ∧ t < w * h ∧ atS w t = s) ∧ l.Pairwise (· < ·)
/-- Those that have been met. -/
def TI (w x xe y j i : Int) (l : List Int) : Prop := (∀ t, t ∈ l ↔ 0 ≤ t ∧ x ≤ t % w ∧ t % w < xe ∧ y ≤ t / w ∧ (t / w < j ∨ t / w = j ∧ t % w < i)) ∧ l.Pairwise (· < ·)
theorem dm {w i j : Int} (hi : 0 ≤ i ∧ i < w) (hj : 0 ≤ j) : (i + w * j) % w = i ∧ (i + w * j) / w = j ∧ 0 ≤ i + w * j := by
  refine ⟨by rw [Int.add_mul_emod_self_left, Int.emod_eq_of_lt hi.1 hi.2], by rw [Int.add_mul_ediv_left _ _ (by omega), Int.ediv_eq_zero_of_lt hi.1 hi.2]; omega, ?_⟩
  have := Int.mul_nonneg (show 0 ≤ w by omega) hj
  omega
theorem dm_lt {w a b : Int} (hw : 1 ≤ w) (h : a / w < b / w ∨ a / w = b / w ∧ a % w < b % w) : a < b := by
  have ha := Int.mul_ediv_add_emod a w
  have hb := Int.mul_ediv_add_emod b w
  have h1 := Int.emod_lt_of_pos a (show 0 < w by omega)
  have h2 := Int.emod_nonneg b (show w ≠ 0 by omega)
  rcases h with h | ⟨h, h'⟩
  · have := Int.mul_le_mul_of_nonneg_left (show a / w + 1 ≤ b / w by omega) (show 0 ≤ w by omega)
    rw [Int.mul_add] at this
    omega
  · rw [h] at ha; omega
theorem TI.start {w x xe y : Int} : TI w x xe y y x [] := by
  refine ⟨fun t => ⟨fun h => by simp at h, fun h => by omega⟩, List.Pairwise.nil⟩
theorem TI.step {w x xe y j i : Int} {l : List Int} (h : TI w x xe y j i l) (hx : 0 ≤ x ∧ x ≤ i ∧ i < xe ∧ xe ≤ w) (hy : 0 ≤ y ∧ y ≤ j) : TI w x xe y j (i + 1) (l ++ [i + w * j]) := by
  obtain ⟨e1, e2, e3⟩ := dm (w := w) (i := i) (j := j) (by omega) (by omega)
  refine ⟨fun t => ?_, List.pairwise_append.2 ⟨h.2, List.pairwise_singleton _ _, fun a ha b hb => ?_⟩⟩
  · rw [List.mem_append, h.1 t, List.mem_singleton]
    constructor
    · rintro (h1 | rfl)
      · omega
      · rw [e1, e2]; omega
    · intro h1
      by_cases ht : t / w = j ∧ t % w = i
      · right
        have := Int.mul_ediv_add_emod t w
        rw [ht.1, ht.2] at this; omega
      · left; omega
  · rw [List.mem_singleton] at hb
    subst hb
    have := (h.1 a).1 ha
    exact dm_lt (show 1 ≤ w by omega) (by rw [e1, e2]; omega)
theorem TI.next {w x xe y j : Int} {l : List Int} (h : TI w x xe y j xe l) : TI w x xe y (j + 1) x l :=
  ⟨fun t => by rw [h.1 t]; omega, h.2⟩
theorem TI.done {w h s y j x i : Int} {l : List Int} (hw : 1 ≤ w ∧ w ≤ 128) (hh : 1 ≤ h ∧ h ≤ 128) (hs : 0 ≤ s ∧ s < acr w * acr h) (hx : x = s % acr w * 8) (hy : y = s / acr w * 8) (hj : j = max y (min (y + 8) h))
    (ht : TI w x (min (x + 8) w) y j x l) : TilesOk w h s l := by
  have ha : 1 ≤ acr w := by unfold acr; omega
  refine ⟨fun t => ?_, ht.2⟩
  rw [ht.1 t]
  have hsm := Int.mul_ediv_add_emod s (acr w)
  have hs1 := Int.emod_nonneg s (show acr w ≠ 0 by omega)
  have hs2 := Int.emod_lt_of_pos s (show 0 < acr w by omega)
  have hs3 : 0 ≤ s / acr w := Int.ediv_nonneg hs.1 (by omega)
  constructor
  · rintro ⟨h0, h1, h2, h3, h4⟩
    have hd := divmod hw.1 h0
    have hth : t / w < h := by omega
    refine ⟨h0, ?_, ?_⟩
    · have := Int.mul_le_mul_of_nonneg_left (show t / w + 1 ≤ h by omega) (show 0 ≤ w by omega)
      rw [Int.mul_add] at this
      omega
    · unfold atS
      rw [show t % w / 8 = s % acr w by omega, show t / w / 8 = s / acr w by omega]
      omega
  · rintro ⟨h0, h1, h2⟩
    have hd := divmod hw.1 h0
    have hth : t / w < h := Int.ediv_lt_of_lt_mul (by omega) (by rw [Int.mul_comm]; exact h1)
    have hr : 0 ≤ t % w / 8 ∧ t % w / 8 < acr w := by unfold acr; omega
    have hq : 0 ≤ t / w / 8 := by omega
    unfold atS at h2
    have e1 : s % acr w = t % w / 8 := by rw [← h2, Int.add_mul_emod_self_left, Int.emod_eq_of_lt hr.1 hr.2]
    have e2 : s / acr w = t / w / 8 := by rw [← h2, Int.add_mul_ediv_left _ _ (by omega), Int.ediv_eq_zero_of_lt hr.1 hr.2]; omega
    omega
end Sp
end Go.Proofs.Ythdbofgcckjopaa
set_option linter.unusedVariables false
set_option linter.unusedSimpArgs false
namespace Go.Proofs.Ythdbofgcckjopaa
open Go.Vg Sp
/-- A tile by its border's direction, the border, and the place along it. -/
def posD (W : Int) (d : Bool) (c v : Int) : Int := if d = true then v + W * c else c + W * v
def ovrD (W : Int) (d : Bool) : Int := if d = true then W else 1
def stpD (W : Int) (d : Bool) : Int := if d = true then 1 else W
def limD (W H : Int) (d : Bool) : Int := if d = true then W else H
def sidD (W H : Int) (d : Bool) : Int := if d = true then H else W
def OkB (W H : Int) (d : Bool) (c : Int) : Prop := 0 ≤ c ∧ c % 8 = 7 ∧ c + 1 < sidD W H d
def QD (W : Int) (fr : List Bool) (d : Bool) (c v : Int) : Prop := gi fr (posD W d c v) = true ∧ gi fr (posD W d c v + ovrD W d) = true
structure RunD (W H : Int) (fr : List Bool) (d : Bool) (c v n : Int) : Prop where
  ok : OkB W H d c
  n1 : 1 ≤ n
  v0 : 0 ≤ v
  lim : v + n ≤ limD W H d
  blk : (v + n - 1) / 8 = v / 8
  q : ∀ j, v ≤ j → j < v + n → QD W fr d c j
  lo : v % 8 = 0 ∨ ¬ QD W fr d c (v - 1)
  hi : (v + n) % 8 = 0 ∨ v + n = limD W H d ∨ ¬ QD W fr d c (v + n)
def prtD (W : Int) (d : Bool) (c v n : Int) : Prt := ⟨posD W d c (v + (n - 1) / 2), posD W d c (v + (n - 1) / 2) + ovrD W d, n⟩
def IsP (W H : Int) (fr : List Bool) (p : Prt) : Prop := ∃ d c v n, RunD W H fr d c v n ∧ p = prtD W d c v n
theorem posD_inj {W H : Int} {d : Bool} {c c' v v' : Int} (hc : 0 ≤ c ∧ c < sidD W H d) (hc' : 0 ≤ c' ∧ c' < sidD W H d) (hv : 0 ≤ v ∧ v < limD W H d) (hv' : 0 ≤ v' ∧ v' < limD W H d) (h : posD W d c v = posD W d c' v') : c = c' ∧ v = v' := by
  cases d with
  | true =>
    have h : v + W * c = v' + W * c' := h
    have a := dm (w := W) (i := v) (j := c) hv hc.1
    have b := dm (w := W) (i := v') (j := c') hv' hc'.1
    rw [h] at a
    exact ⟨a.2.1.symm.trans b.2.1, a.1.symm.trans b.1⟩
  | false =>
    have h : c + W * v = c' + W * v' := h
    have a := dm (w := W) (i := c) (j := v) hc hv.1
    have b := dm (w := W) (i := c') (j := v') hc' hv'.1
    rw [h] at a
    exact ⟨a.1.symm.trans b.1, a.2.1.symm.trans b.2.1⟩
theorem RunD.at {W H : Int} {fr : List Bool} {d : Bool} {c v n v' n' m : Int} (h : RunD W H fr d c v n) (k : RunD W H fr d c v' n') (hm : v ≤ m ∧ m < v + n) (hm' : v' ≤ m ∧ m < v' + n') : v = v' ∧ n = n' := by
  have hn := h.n1; have kn := k.n1; have hb := h.blk; have kb := k.blk; have hl := h.lim; have kl := k.lim
  have hv : v = v' := by
    apply Classical.byContradiction
    intro hne
    by_cases hlt : v < v'
    · rcases k.lo with e | e
      · omega
      · exact e (h.q _ (by omega) (by omega))
    · rcases h.lo with e | e
      · omega
      · exact e (k.q _ (by omega) (by omega))
  subst hv
  refine ⟨rfl, ?_⟩
  apply Classical.byContradiction
  intro hne
  by_cases hlt : n < n'
  · rcases h.hi with e | e | e
    · omega
    · omega
    · exact e (k.q _ (by omega) (by omega))
  · rcases k.hi with e | e | e
    · omega
    · omega
    · exact e (h.q _ (by omega) (by omega))
theorem RunD.side {W H : Int} {fr : List Bool} {d : Bool} {c v n : Int} (h : RunD W H fr d c v n) : (0 ≤ c ∧ c < sidD W H d) ∧ ∀ j, v ≤ j → j < v + n → 0 ≤ j ∧ j < limD W H d := by
  have := h.ok; have := h.lim; have := h.v0
  unfold OkB at *
  exact ⟨by omega, fun j a b => by omega⟩
theorem RunD.uniq {W H : Int} {fr : List Bool} {d d' : Bool} {c c' v v' n n' : Int} (h : RunD W H fr d c v n) (k : RunD W H fr d' c' v' n') (e1 : (prtD W d c v n).a = (prtD W d' c' v' n').a) (e2 : (prtD W d c v n).b = (prtD W d' c' v' n').b) : d = d' ∧ c = c' ∧ v = v' ∧ n = n' := by
  have hd : d = d' := by
    have : ovrD W d = ovrD W d' := by
      have a1 : (prtD W d c v n).b = (prtD W d c v n).a + ovrD W d := rfl
      have a2 : (prtD W d' c' v' n').b = (prtD W d' c' v' n').a + ovrD W d' := rfl
      omega
    have ho := h.ok; have ko := k.ok
    cases d with
    | true =>
      cases d' with
      | true => rfl
      | false =>
        have e : W = 1 := this
        have : 0 ≤ c' ∧ c' % 8 = 7 ∧ c' + 1 < W := ko
        omega
    | false =>
      cases d' with
      | false => rfl
      | true =>
        have e : 1 = W := this
        have : 0 ≤ c ∧ c % 8 = 7 ∧ c + 1 < W := ho
        omega
  subst hd
  have hn := h.n1; have kn := k.n1
  obtain ⟨hc, hv⟩ := h.side
  obtain ⟨kc, kv⟩ := k.side
  obtain ⟨rfl, hm⟩ := posD_inj (H := H) hc kc (hv (v + (n - 1) / 2) (by omega) (by omega)) (kv (v' + (n' - 1) / 2) (by omega) (by omega)) e1
  obtain ⟨rfl, rfl⟩ := h.at k (m := v + (n - 1) / 2) (by omega) (by omega)
  exact ⟨rfl, rfl, rfl, rfl⟩
theorem IsP.key {W H : Int} {fr : List Bool} {p q : Prt} (h : IsP W H fr p) (k : IsP W H fr q) (e1 : p.a = q.a) (e2 : p.b = q.b) : p = q := by
  obtain ⟨d, c, v, n, h, rfl⟩ := h
  obtain ⟨d', c', v', n', k, rfl⟩ := k
  obtain ⟨rfl, rfl, rfl, rfl⟩ := h.uniq k e1 e2
  rfl
theorem disP_of {W H : Int} {fr : List Bool} {l : List Prt} (hn : l.Nodup) (h : ∀ p ∈ l, IsP W H fr p) : DisP l := by
  refine List.Pairwise.imp_of_mem (fun {a b} ha hb hne e => ?_) hn
  exact hne ((h a ha).key (h b hb) e.1 e.2)
/-- All portals, rising. -/
def PortalsOk (W H : Int) (fr : List Bool) (l : List Prt) : Prop := StrP l ∧ ∀ p, p ∈ l ↔ IsP W H fr p
/-! ### Tiles by their places -/
theorem posD_dm {W H : Int} {d : Bool} {c v : Int} (hc : 0 ≤ c ∧ c < sidD W H d) (hv : 0 ≤ v ∧ v < limD W H d) : 0 ≤ posD W d c v ∧ (if d = true then posD W d c v / W = c ∧ posD W d c v % W = v else posD W d c v % W = c ∧ posD W d c v / W = v) := by
  cases d with
  | true => have a := dm (w := W) (i := v) (j := c) hv hc.1; exact ⟨a.2.2, by rw [if_pos rfl]; exact ⟨a.2.1, a.1⟩⟩
  | false => have a := dm (w := W) (i := c) (j := v) hc hv.1; exact ⟨a.2.2, by rw [if_neg (by simp)]; exact ⟨a.1, a.2.1⟩⟩
theorem posD_lt {W H : Int} {d : Bool} {c v : Int} (hW : 1 ≤ W) (hc : 0 ≤ c ∧ c < sidD W H d) (hv : 0 ≤ v ∧ v < limD W H d) : posD W d c v < W * H := by
  cases d with
  | true =>
    have hv : 0 ≤ v ∧ v < W := hv
    have hc : 0 ≤ c ∧ c < H := hc
    have := Int.mul_le_mul_of_nonneg_left (show c + 1 ≤ H by omega) (show 0 ≤ W by omega)
    rw [Int.mul_add] at this
    show v + W * c < _; omega
  | false =>
    have hv : 0 ≤ v ∧ v < H := hv
    have hc : 0 ≤ c ∧ c < W := hc
    have := Int.mul_le_mul_of_nonneg_left (show v + 1 ≤ H by omega) (show 0 ≤ W by omega)
    rw [Int.mul_add] at this
    show c + W * v < _; omega
theorem posD_over {W : Int} {d : Bool} {c v : Int} : posD W d c v + ovrD W d = posD W d (c + 1) v := by
  cases d with
  | true => show v + W * c + W = v + W * (c + 1); rw [Int.mul_add]; omega
  | false => show c + W * v + 1 = c + 1 + W * v; omega
theorem posD_step {W : Int} {d : Bool} {c v : Int} (i : Int) : posD W d c (v + i) = posD W d c v + stpD W d * i := by
  cases d with
  | true => show v + i + W * c = v + W * c + 1 * i; omega
  | false => show c + W * (v + i) = c + W * v + W * i; rw [Int.mul_add]; omega
end Go.Proofs.Ythdbofgcckjopaa
set_option linter.unusedVariables false
set_option linter.unusedSimpArgs false
namespace Go.Proofs.Ythdbofgcckjopaa
open Go.Vg Sp
/-! ### One border -/
structure RunI (N : Int) (Q : Int → Prop) (i n : Int) : Prop where
  n1 : 1 ≤ n
  i0 : 0 ≤ i
  lim : i + n ≤ N
  q : ∀ j, i ≤ j → j < i + n → Q j
  lo : i = 0 ∨ ¬ Q (i - 1)
  hi : i + n = N ∨ ¬ Q (i + n)
def prtI (a over step i n : Int) : Prt := ⟨a + step * (i + (n - 1) / 2), a + step * (i + (n - 1) / 2) + over, n⟩
def PI (fr : List Bool) (a over step i : Int) : Prop := gi fr (a + step * i) = true ∧ gi fr (a + step * i + over) = true
structure BI (fr : List Bool) (a over step N : Int) (l : List Prt) (run i : Int) : Prop where
  i0 : 0 ≤ i ∧ i ≤ N + 1
  r0 : 0 ≤ run ∧ run ≤ i ∧ run ≤ N
  z : i = N + 1 → run = 0
  q : ∀ j, i - run ≤ j → j < i → PI fr a over step j
  lo : i ≤ N → i - run = 0 ∨ ¬ PI fr a over step (i - run - 1)
  len : (l.length : Int) ≤ i
  nd : l.Nodup
  bd : ∀ p ∈ l, p.a < a + step * (i - run)
  mem : ∀ p, p ∈ l ↔ ∃ i0 n, RunI N (PI fr a over step) i0 n ∧ i0 + n < i ∧ p = prtI a over step i0 n
theorem BI.start {fr : List Bool} {a over step N : Int} (hN : 1 ≤ N) : BI fr a over step N [] 0 0 :=
  ⟨by omega, by omega, fun _ => rfl, fun j h1 h2 => by omega, fun _ => .inl rfl, by simp, List.nodup_nil, fun p h => (by cases h), fun p => ⟨fun h => (by cases h), fun ⟨i0, n, h, h2, _⟩ => by have := h.n1; have := h.i0; omega⟩⟩
theorem BI.more {fr : List Bool} {a over step N : Int} {l : List Prt} {run i : Int} (h : BI fr a over step N l run i) (hi : i < N) (hq : PI fr a over step i) : BI fr a over step N l (run + 1) (i + 1) := by
  have h0 := h.i0; have h1 := h.r0
  refine ⟨by omega, by omega, fun e => by omega, fun j a b => ?_, fun _ => ?_, by have := h.len; omega, h.nd, fun p hp => ?_, fun p => ?_⟩
  · by_cases e : j = i
    · subst e; exact hq
    · exact h.q j (by omega) (by omega)
  · rw [show i + 1 - (run + 1) = i - run by omega]; exact h.lo (by omega)
  · rw [show i + 1 - (run + 1) = i - run by omega]; exact h.bd p hp
  · rw [h.mem p]
    constructor
    · rintro ⟨i0, n, hr, e, hp⟩; exact ⟨i0, n, hr, by omega, hp⟩
    · rintro ⟨i0, n, hr, e, hp⟩
      refine ⟨i0, n, hr, ?_, hp⟩
      apply Classical.byContradiction
      intro hne
      have e2 : i0 + n = i := by omega
      rcases hr.hi with k | k
      · omega
      · rw [e2] at k; exact k hq
theorem BI.gap {fr : List Bool} {a over step N : Int} {l : List Prt} {i : Int} (hs : 1 ≤ step) (h : BI fr a over step N l 0 i) (hi : i < N + 1) (hq : ¬ (i < N ∧ PI fr a over step i)) : BI fr a over step N l 0 (i + 1) := by
  have h0 := h.i0; have h1 := h.r0
  refine ⟨by omega, by omega, fun e => rfl, fun j a b => by omega, fun hle => .inr fun k => ?_, by have := h.len; omega, h.nd, fun p hp => ?_, fun p => ?_⟩
  · rw [show i + 1 - 0 - 1 = i by omega] at k; exact hq ⟨by omega, k⟩
  · have := h.bd p hp
    rw [Int.mul_sub, Int.mul_zero] at this
    rw [Int.mul_sub, Int.mul_zero, Int.mul_add]; omega
  · rw [h.mem p]
    constructor
    · rintro ⟨i0, n, hr, e, hp⟩; exact ⟨i0, n, hr, by omega, hp⟩
    · rintro ⟨i0, n, hr, e, hp⟩
      refine ⟨i0, n, hr, ?_, hp⟩
      apply Classical.byContradiction
      intro hne
      have hn := hr.n1; have hz := hr.i0
      have e2 : i0 + n = i := by omega
      rcases h.lo (by omega) with k | k
      · omega
      · exact k (hr.q _ (by omega) (by omega))
theorem BI.put {fr : List Bool} {a over step N : Int} {l : List Prt} {run i : Int} (hs : 1 ≤ step) (h : BI fr a over step N l run i) (hr : 0 < run) (hq : ¬ (i < N ∧ PI fr a over step i)) : BI fr a over step N (l ++ [prtI a over step (i - run) run]) 0 (i + 1) := by
  have h0 := h.i0; have h1 := h.r0
  have hiN : i ≤ N := by
    apply Classical.byContradiction; intro e
    have := h.z (by omega); omega
  have hrun : RunI N (PI fr a over step) (i - run) run := ⟨by omega, by omega, by omega, fun j a b => h.q j a (by omega), h.lo hiN, by
    rw [show i - run + run = i by omega]
    by_cases e : i = N
    · exact .inl e
    · exact .inr fun k => hq ⟨by omega, k⟩⟩
  have ha : a + step * (i - run) ≤ (prtI a over step (i - run) run).a := by
    show _ ≤ a + step * (i - run + (run - 1) / 2)
    have := Int.mul_le_mul_of_nonneg_left (show i - run ≤ i - run + (run - 1) / 2 by omega) (show 0 ≤ step by omega)
    omega
  have hb : (prtI a over step (i - run) run).a < a + step * (i + 1) := by
    show a + step * (i - run + (run - 1) / 2) < _
    have := Int.mul_lt_mul_of_pos_left (show i - run + (run - 1) / 2 < i + 1 by omega) (show 0 < step by omega)
    omega
  refine ⟨by omega, by omega, fun e => rfl, fun j a b => by omega, fun hle => .inr fun k => ?_, by have := h.len; simp only [List.length_append, List.length_cons, List.length_nil]; omega, ?_, fun p hp => ?_, fun p => ?_⟩
  · rw [show i + 1 - 0 - 1 = i by omega] at k; exact hq ⟨by omega, k⟩
  · refine List.nodup_append.2 ⟨h.nd, by simp, fun x hx y hy e => ?_⟩
    rw [List.mem_singleton.1 hy] at e
    have := h.bd x hx
    rw [e] at this; omega
  · rw [Int.sub_zero]
    rcases List.mem_append.1 hp with hp | hp
    · have := h.bd p hp
      have := Int.mul_lt_mul_of_pos_left (show i - run < i + 1 by omega) (show 0 < step by omega)
      omega
    · rw [List.mem_singleton.1 hp]; exact hb
  · rw [List.mem_append, List.mem_singleton, h.mem p]
    constructor
    · rintro (⟨i0, n, hr, e, hp⟩ | hp)
      · exact ⟨i0, n, hr, by omega, hp⟩
      · exact ⟨i - run, run, hrun, by omega, hp⟩
    · rintro ⟨i0, n, hr2, e, hp⟩
      by_cases he : i0 + n < i
      · exact .inl ⟨i0, n, hr2, he, hp⟩
      · have e2 : i0 + n = i := by omega
        have hn := hr2.n1; have hz := hr2.i0
        have e3 : i0 = i - run := by
          apply Classical.byContradiction; intro hne
          by_cases hlt : i0 < i - run
          · rcases h.lo hiN with k | k
            · omega
            · exact k (hr2.q _ (by omega) (by omega))
          · rcases hr2.lo with k | k
            · omega
            · exact k (h.q _ (by omega) (by omega))
        refine .inr ?_
        rw [hp, e3, show n = run by omega]
theorem border_p {fr : List Bool} {a over step N : Int} (ha : 0 ≤ a ∧ a ≤ 100000) (ho : 1 ≤ over ∧ over ≤ 128) (hs : 1 ≤ step ∧ step ≤ 128) (hN : 1 ≤ N ∧ N ≤ 8) (hb : ∀ i, 0 ≤ i → i < N → a + step * i + over < fr.length) :
    Ok (portal_border fr a over step N) (fun l => l.length ≤ 9 ∧ l.Nodup ∧ ∀ p, p ∈ l ↔ ∃ i n, RunI N (PI fr a over step) i n ∧ p = prtI a over step i n) := by
  unfold portal_border
  refine Ok.gd (by unfold I64; omega) (Ok.bind (R := fun l => BI fr a over step N l 0 (N + 1)) (Ok.loop (fun z : List Prt × Int × Int => BI fr a over step N z.1 z.2.1 z.2.2) (fun z => (N + 1 - z.2.2).toNat) (BI.start hN.1) (by unfold FUEL; dsimp only; omega) ?_) ?_)
  · rintro ⟨l, run, i⟩ h
    dsimp only at h ⊢
    have h0 := h.i0; have h1 := h.r0; have h2 := h.len
    have m1 := mul_bd (a := step) (b := i) (A := 128) (B := 9) (by omega) (by omega)
    have m2 := mul_bd (a := step) (b := run) (A := 128) (B := 8) (by omega) (by omega)
    refine Ok.ite (fun hlt => ?_) (fun hlt => Ok.ret ?_)
    · refine Ok.gd (by unfold I64; omega) (Ok.gd (by unfold I64; omega) (Ok.gd (fun hi => by have := hb i (by omega) hi; omega) (Ok.gd (fun _ => by unfold I64; omega) (Ok.gd (fun hi => by have := hb i (by omega) hi.1; omega) (Ok.ite (fun hc => ?_) (fun hc => ?_))))))
      · exact Ok.gd (by unfold I64; omega) (Ok.gd (by unfold I64; omega) (Ok.ret ⟨h.more hc.1.1 ⟨hc.1.2, hc.2⟩, by show (N + 1 - (i + 1)).toNat < (N + 1 - i).toNat; omega⟩))
      · have hq : ¬ (i < N ∧ PI fr a over step i) := fun k => hc ⟨⟨k.1, k.2.1⟩, k.2.2⟩
        refine Ok.ite (fun hr => ?_) (fun hr => ?_)
        · have m3 := mul_bd (a := step) (b := (run - 1) / 2) (A := 128) (B := 8) (by omega) (by omega)
          refine Ok.gd (by unfold I64; omega) (Ok.gd (by unfold I64; omega) (Ok.gd (by unfold I64; omega) (Ok.gd (by omega) (Ok.gd (by unfold I64; omega) (Ok.gd (by unfold I64; omega) (Ok.gd (by unfold I64; omega) (Ok.gd (by omega) (Ok.gd (by unfold I64; omega) (Ok.ret ⟨?_, by show (N + 1 - (i + 1)).toNat < (N + 1 - i).toNat; omega⟩)))))))))
          have e : a + step * i - step * run + step * ((run - 1) / 2) = a + step * (i - run + (run - 1) / 2) := by rw [Int.mul_add, Int.mul_sub]; omega
          show BI fr a over step N (l ++ [⟨a + step * i - step * run + step * ((run - 1) / 2), a + step * i - step * run + step * ((run - 1) / 2) + over, run⟩]) 0 (i + 1)
          rw [e]
          exact h.put hs.1 hr hq
        · have e : run = 0 := by omega
          subst e
          exact Ok.gd (by unfold I64; omega) (Ok.ret ⟨h.gap hs.1 hlt hq, by show (N + 1 - (i + 1)).toNat < (N + 1 - i).toNat; omega⟩)
    · have e : i = N + 1 := by omega
      subst e
      have e := h.z rfl
      subst e
      exact h
  · rintro l h
    refine Ok.ret ⟨by have := h.len; omega, h.nd, fun p => ?_⟩
    rw [h.mem p]
    constructor
    · rintro ⟨i, n, hr, _, hp⟩; exact ⟨i, n, hr, hp⟩
    · rintro ⟨i, n, hr, hp⟩; exact ⟨i, n, hr, by have := hr.lim; omega, hp⟩
/-- One border's portals, by the tiles. -/
theorem bord_p {W H : Int} {fr : List Bool} {d : Bool} {c k : Int} (hm : May W H) (hf : (fr.length : Int) = W * H) (ho : OkB W H d c) (hk : 0 ≤ k ∧ k % 8 = 0 ∧ k < limD W H d) :
    Ok (portal_border fr (posD W d c k) (ovrD W d) (stpD W d) (min 8 (limD W H d - k))) (fun l => l.length ≤ 9 ∧ l.Nodup ∧ ∀ p, p ∈ l ↔ ∃ v n, RunD W H fr d c v n ∧ v - v % 8 = k ∧ p = prtD W d c v n) := by
  have hm2 := hm
  unfold May at hm2
  have hbd := mul_bd (a := W) (b := H) (A := 128) (B := 128) (by omega) (by omega)
  have ho2 := ho
  unfold OkB at ho2
  have hp : ∀ v, 0 ≤ v → v < limD W H d → 0 ≤ posD W d c v ∧ posD W d c v + ovrD W d < W * H := fun v a b => by
    refine ⟨(posD_dm (H := H) (c := c) (v := v) (by omega) ⟨a, b⟩).1, ?_⟩
    rw [posD_over]
    exact posD_lt hm2.1.1 (by omega) ⟨a, b⟩
  have hov : 1 ≤ ovrD W d ∧ ovrD W d ≤ 128 := by cases d <;> simp [ovrD] <;> omega
  have hst : 1 ≤ stpD W d ∧ stpD W d ≤ 128 := by cases d <;> simp [stpD] <;> omega
  have hpk := hp k hk.1 hk.2.2
  refine Ok.mono (border_p (by omega) hov hst (by omega) (fun i i0 i1 => ?_)) fun l hl => ⟨hl.1, hl.2.1, fun p => ?_⟩
  · rw [← posD_step]
    have := hp (k + i) (by omega) (by omega)
    omega
  have hPI : ∀ i, PI fr (posD W d c k) (ovrD W d) (stpD W d) i ↔ QD W fr d c (k + i) := fun i => by unfold PI QD; rw [posD_step]
  rw [hl.2.2 p]
  constructor
  · rintro ⟨i, n, hr, rfl⟩
    have h1 := hr.n1; have h2 := hr.i0; have h3 := hr.lim
    refine ⟨k + i, n, ⟨ho, h1, by omega, by omega, by omega, fun j a b => ?_, ?_, ?_⟩, by omega, ?_⟩
    · have := (hPI (j - k)).1 (hr.q (j - k) (by omega) (by omega))
      rwa [show k + (j - k) = j by omega] at this
    · rcases hr.lo with e | e
      · exact .inl (by omega)
      · rw [hPI, show k + (i - 1) = k + i - 1 by omega] at e; exact .inr e
    · rcases hr.hi with e | e
      · omega
      · rw [hPI, ← Int.add_assoc] at e; exact .inr (.inr e)
    · unfold prtI prtD
      rw [← posD_step, ← Int.add_assoc]
  · rintro ⟨v, n, hr, hv, rfl⟩
    have h1 := hr.n1; have h2 := hr.v0; have h3 := hr.lim; have h4 := hr.blk
    refine ⟨v - k, n, ⟨h1, by omega, by omega, fun j a b => (hPI j).2 (hr.q _ (by omega) (by omega)), ?_, ?_⟩, ?_⟩
    · rcases hr.lo with e | e
      · exact .inl (by omega)
      · refine .inr fun q => e ?_
        have := (hPI _).1 q
        rwa [show k + (v - k - 1) = v - 1 by omega] at this
    · by_cases he : v - k + n = min 8 (limD W H d - k)
      · exact .inl he
      · rcases hr.hi with e | e | e
        · omega
        · omega
        · refine .inr fun q => e ?_
          have := (hPI _).1 q
          rwa [show k + (v - k + n) = v + n by omega] at this
    · unfold prtI prtD
      rw [← posD_step, ← Int.add_assoc, show k + (v - k) = v by omega]
end Go.Proofs.Ythdbofgcckjopaa
set_option linter.unusedVariables false
set_option linter.unusedSimpArgs false
namespace Go.Proofs.Ythdbofgcckjopaa
open Go.Vg Sp
def cxD (d : Bool) (c v : Int) : Int := if d = true then v - v % 8 else c - 7
def cyD (d : Bool) (c v : Int) : Int := if d = true then c - 7 else v - v % 8
def Bef (y x : Int) (d : Bool) (c v : Int) : Prop := cyD d c v < y ∨ (cyD d c v = y ∧ cxD d c v < x)
def AI (W H : Int) (fr : List Bool) (S : Bool → Int → Int → Prop) (l : List Prt) : Prop := l.Nodup ∧ ∀ p, p ∈ l ↔ ∃ d c v n, RunD W H fr d c v n ∧ S d c v ∧ p = prtD W d c v n
theorem AI.weak {W H : Int} {fr : List Bool} {S S' : Bool → Int → Int → Prop} {l : List Prt} (h : AI W H fr S l) (e : ∀ d c v n, RunD W H fr d c v n → (S d c v ↔ S' d c v)) : AI W H fr S' l := by
  refine ⟨h.1, fun p => ?_⟩
  rw [h.2 p]
  constructor
  · rintro ⟨d, c, v, n, hr, hs, hp⟩; exact ⟨d, c, v, n, hr, (e d c v n hr).1 hs, hp⟩
  · rintro ⟨d, c, v, n, hr, hs, hp⟩; exact ⟨d, c, v, n, hr, (e d c v n hr).2 hs, hp⟩
theorem AI.add {W H : Int} {fr : List Bool} {S : Bool → Int → Int → Prop} {l x : List Prt} {d : Bool} {c k : Int} (h : AI W H fr S l) (hn : x.Nodup) (hx : ∀ p, p ∈ x ↔ ∃ v n, RunD W H fr d c v n ∧ v - v % 8 = k ∧ p = prtD W d c v n)
    (hd : ∀ v, S d c v → v - v % 8 = k → False) : AI W H fr (fun d' c' v' => S d' c' v' ∨ (d' = d ∧ c' = c ∧ v' - v' % 8 = k)) (l ++ x) := by
  refine ⟨List.nodup_append.2 ⟨h.1, hn, fun p hp q hq e => ?_⟩, fun p => ?_⟩
  · subst e
    obtain ⟨d', c', v', n', hr, hs, e1⟩ := (h.2 p).1 hp
    obtain ⟨v, n, kr, kv, e2⟩ := (hx p).1 hq
    obtain ⟨rfl, rfl, rfl, rfl⟩ := hr.uniq kr (by rw [← e1, ← e2]) (by rw [← e1, ← e2])
    exact hd _ hs kv
  · rw [List.mem_append, h.2 p, hx p]
    constructor
    · rintro (⟨d', c', v', n', hr, hs, e1⟩ | ⟨v, n, kr, kv, e2⟩)
      · exact ⟨d', c', v', n', hr, .inl hs, e1⟩
      · exact ⟨d, c, v, n, kr, .inr ⟨rfl, rfl, kv⟩, e2⟩
    · rintro ⟨d', c', v', n', hr, hs | ⟨rfl, rfl, hk⟩, e1⟩
      · exact .inl ⟨d', c', v', n', hr, hs, e1⟩
      · exact .inr ⟨v', n', hr, hk, e1⟩
theorem all_p {W H : Int} {fr : List Bool} (hm : May W H) (hf : (fr.length : Int) = W * H) : Ok (portal_All W H fr) (fun l => PortalsOk W H fr l ∧ l.length ≤ 5000) := by
  have hm2 := hm
  unfold May at hm2
  unfold portal_All
  refine Ok.bind (R := fun l => AI W H fr (fun _ _ _ => True) l ∧ l.length ≤ 5000) (Ok.loop (fun z : List Prt × Int => (0 ≤ z.2 ∧ z.2 % 8 = 0 ∧ z.2 ≤ H + 7) ∧ (z.1.length : Int) ≤ 300 * (z.2 / 8) ∧ AI W H fr (Bef z.2 0) z.1) (fun z => (H - z.2).toNat)
    ⟨⟨by decide, by decide, by show 0 ≤ H + 7; omega⟩, by decide, List.nodup_nil, fun p => ⟨fun h => (by cases h), fun ⟨d, c, v, n, hr, hs, _⟩ => ?_⟩⟩ (by unfold FUEL; dsimp only; omega) ?_) ?_
  · exfalso
    have h1 := hr.ok; have h2 := hr.v0
    unfold OkB at h1
    unfold Bef cyD cxD at hs
    cases d <;> simp at hs <;> omega
  · rintro ⟨l, y⟩ ⟨⟨y0, y8, y1⟩, hl, hA⟩
    dsimp only at y0 y8 y1 hl hA ⊢
    refine Ok.ite (fun hy => ?_) (fun hy => Ok.ret ⟨hA.weak fun d c v n hr => ⟨fun _ => trivial, fun _ => .inl ?_⟩, by omega⟩)
    · refine Ok.bind (R := fun l => (l.length : Int) ≤ 300 * ((y + 8) / 8) ∧ AI W H fr (Bef (y + 8) 0) l) (Ok.loop (fun z : Int × List Prt => (0 ≤ z.1 ∧ z.1 % 8 = 0 ∧ z.1 ≤ W + 7) ∧ (z.2.length : Int) ≤ 300 * (y / 8) + 18 * (z.1 / 8) ∧ AI W H fr (Bef y z.1) z.2) (fun z => (W - z.1).toNat)
        ⟨⟨by show (0 : Int) ≤ 0; omega, by show (0 : Int) % 8 = 0; omega, by show 0 ≤ W + 7; omega⟩, by show (l.length : Int) ≤ 300 * (y / 8) + 18 * (0 / 8); omega, hA⟩ (by unfold FUEL; dsimp only; omega) ?_) (fun l2 h2 => Ok.gd (by unfold I64; omega) (Ok.ret ⟨⟨⟨by show 0 ≤ y + 8; omega, by show (y + 8) % 8 = 0; omega, by show y + 8 ≤ _; omega⟩, h2.1, h2.2⟩, by show (H - (y + 8)).toNat < (H - y).toNat; omega⟩))
      rintro ⟨x, l⟩ ⟨⟨x0, x8, x1⟩, hl2, hA⟩
      dsimp only at x0 x8 x1 hl2 hA ⊢
      have hmul := mul_bd (a := W) (b := y + 8) (A := 128) (B := 200) (by omega) (by omega)
      have hmul1 := mul_bd (a := W) (b := y) (A := 128) (B := 200) (by omega) (by omega)
      have hmul2 := mul_bd (a := W) (b := y + 8 - 1) (A := 128) (B := 200) (by omega) (by omega)
      refine Ok.ite (fun hx => ?_) (fun hx => Ok.ret ⟨by omega, hA.weak fun d c v n hr => ?_⟩)
      · refine Ok.gd (by unfold I64; omega) (Ok.bind (R := fun l1 => (l1.length : Int) ≤ 300 * (y / 8) + 18 * (x / 8) + 9 ∧ AI W H fr (fun d c v => Bef y x d c v ∨ (d = false ∧ c = x + 7 ∧ v - v % 8 = y)) l1) ?_ ?_)
        · refine Ok.ite (fun hc => ?_) (fun hc => Ok.ret ⟨by omega, hA.weak fun d c v n hr => ⟨.inl, fun h => h.elim id fun k => ?_⟩⟩)
          · refine Ok.gd (by unfold I64; omega) (Ok.gd (by unfold I64; omega) (Ok.gd (by unfold I64; omega) (Ok.gd (by unfold I64; omega) (Ok.gd (by unfold I64; omega) ?_))))
            have hb := bord_p (d := false) (c := x + 7) (k := y) hm hf ⟨by omega, by omega, by show x + 7 + 1 < W; omega⟩ ⟨y0, y8, hy⟩
            have e : portal_border fr (x + 8 - 1 + W * y) 1 W (min 8 (H - y)) = portal_border fr (posD W false (x + 7) y) (ovrD W false) (stpD W false) (min 8 (limD W H false - y)) := by
              rw [show x + 8 - 1 + W * y = posD W false (x + 7) y from by show _ = x + 7 + W * y; omega]; rfl
            rw [e]
            refine Ok.bind hb fun z hz => Ok.gd (by omega) (Ok.ret ⟨by simp only [List.length_append]; omega, hA.add hz.2.1 hz.2.2 fun v hs hv => ?_⟩)
            unfold Bef cyD cxD at hs
            simp at hs; omega
          · exfalso
            have ho : OkB W H d c := hr.ok
            rw [k.1, k.2.1] at ho
            have : 0 ≤ x + 7 ∧ (x + 7) % 8 = 7 ∧ x + 7 + 1 < W := ho
            omega
        · rintro l1 ⟨hl1, hA1⟩
          have hfin : ∀ d c v n, RunD W H fr d c v n → (((Bef y x d c v ∨ (d = false ∧ c = x + 7 ∧ v - v % 8 = y)) ∨ (d = true ∧ c = y + 7 ∧ v - v % 8 = x)) ↔ Bef y (x + 8) d c v) := fun d c v n hr => by
            have h1 := hr.ok; have h2 := hr.v0
            unfold OkB at h1
            unfold Bef cyD cxD
            cases d <;> simp <;> omega
          refine Ok.gd (by unfold I64; omega) (Ok.ite (fun hc => ?_) (fun hc => Ok.gd (by unfold I64; omega) (Ok.ret ⟨⟨⟨by show 0 ≤ x + 8; omega, by show (x + 8) % 8 = 0; omega, by show x + 8 ≤ _; omega⟩, by show (l1.length : Int) ≤ 300 * (y / 8) + 18 * ((x + 8) / 8); omega, hA1.weak fun d c v n hr => ⟨fun h => (hfin d c v n hr).1 (.inl h), fun h => ((hfin d c v n hr).2 h).elim id fun k => ?_⟩⟩, by show (W - (x + 8)).toNat < (W - x).toNat; omega⟩)))
          · refine Ok.gd (by unfold I64; omega) (Ok.gd (by unfold I64; omega) (Ok.gd (by unfold I64; omega) (Ok.gd (by unfold I64; omega) (Ok.gd (by unfold I64; omega) ?_))))
            have hb := bord_p (d := true) (c := y + 7) (k := x) hm hf ⟨by omega, by omega, by show y + 7 + 1 < H; omega⟩ ⟨x0, x8, hx⟩
            have e : portal_border fr (x + W * (y + 8 - 1)) W 1 (min 8 (W - x)) = portal_border fr (posD W true (y + 7) x) (ovrD W true) (stpD W true) (min 8 (limD W H true - x)) := by
              rw [show x + W * (y + 8 - 1) = posD W true (y + 7) x from by show _ = x + W * (y + 7); rw [show y + 8 - 1 = y + 7 by omega]]; rfl
            rw [e]
            refine Ok.bind hb fun z hz => Ok.gd (by omega) (Ok.gd (by unfold I64; omega) (Ok.ret ⟨⟨⟨by show 0 ≤ x + 8; omega, by show (x + 8) % 8 = 0; omega, by show x + 8 ≤ _; omega⟩, by show ((l1 ++ z).length : Int) ≤ 300 * (y / 8) + 18 * ((x + 8) / 8); simp only [List.length_append]; omega, (hA1.add hz.2.1 hz.2.2 fun v hs hv => ?_).weak hfin⟩, by show (W - (x + 8)).toNat < (W - x).toNat; omega⟩))
            unfold Bef cyD cxD at hs
            simp at hs; omega
          · exfalso
            have ho : OkB W H d c := hr.ok
            rw [k.1, k.2.1] at ho
            have : 0 ≤ y + 7 ∧ (y + 7) % 8 = 7 ∧ y + 7 + 1 < H := ho
            omega
      · have h1 := hr.ok; have h2 := hr.v0; have h3 := hr.lim; have h4 := hr.n1
        unfold OkB sidD at h1
        unfold limD at h3
        unfold Bef cyD cxD
        cases d <;> simp at h1 h3 ⊢ <;> omega
    · have h1 := hr.ok; have h2 := hr.v0; have h3 := hr.lim; have h4 := hr.n1
      unfold OkB sidD at h1
      unfold limD at h3
      unfold cyD
      cases d <;> simp at h1 h3 ⊢ <;> omega
  · rintro l ⟨hA, hl⟩
    have hmem : ∀ p, p ∈ l ↔ IsP W H fr p := fun p => by
      rw [hA.2 p]
      constructor
      · rintro ⟨d, c, v, n, hr, _, e⟩; exact ⟨d, c, v, n, hr, e⟩
      · rintro ⟨d, c, v, n, hr, e⟩; exact ⟨d, c, v, n, hr, trivial, e⟩
    have hdis : DisP l := disP_of hA.1 fun p hp => (hmem p).1 hp
    unfold slices_SortFuncP
    rw [if_pos ⟨by omega, hdis⟩, Option.bind_some]
    exact Ok.ret ⟨⟨sortP_str hdis, fun p => by rw [List.mem_mergeSort, hmem p]⟩, by rw [List.length_mergeSort]; omega⟩
end Go.Proofs.Ythdbofgcckjopaa
set_option linter.unusedVariables false
namespace Go.Proofs.Ythdbofgcckjopaa
open Go.Vg Sp
theorem across_p {n : Int} (h : 0 ≤ n ∧ n ≤ 4294967296) : sector_across n = some (acr n) := by
  unfold sector_across
  rw [if_pos (by unfold I64; omega), if_pos (by unfold I64; omega), if_pos (by omega)]; rfl
theorem at_p {w t : Int} (hw : 1 ≤ w ∧ w ≤ 128) (ht : 0 ≤ t ∧ t ≤ 4294967296) : sector_At w t = some (atS w t) := by
  have hd := divmod hw.1 ht.1
  have ha : 0 ≤ acr w ∧ acr w ≤ 17 := by unfold acr; omega
  have hm := mul_bd (b := t / w / 8) (B := 4294967296) ha (by omega)
  unfold sector_At
  rw [if_pos (by omega), if_pos (by omega), across_p (by omega), bsome, if_pos (by omega), if_pos (by omega), if_pos (by unfold I64; omega), if_pos (by unfold I64; omega)]; rfl
theorem may_bd {w h : Int} (hm : May w h) : 1 ≤ w * h ∧ w * h ≤ 16384 := by
  unfold May at hm
  have := mul_bd (a := w) (b := h) (A := 128) (B := 128) (by omega) (by omega)
  have := Int.mul_le_mul_of_nonneg_left hm.2.1 (show 0 ≤ w by omega)
  omega
theorem atS_bd {W H t : Int} (hm : May W H) (ht : 0 ≤ t ∧ t < W * H) : 0 ≤ atS W t ∧ atS W t < acr W * acr H := by
  unfold May at hm
  have hd := divmod hm.1.1 ht.1
  have hth : t / W < H := Int.ediv_lt_of_lt_mul (by omega) (by rw [Int.mul_comm]; exact ht.2)
  have h1 : 0 ≤ t % W / 8 ∧ t % W / 8 < acr W := by unfold acr; omega
  have h2 : 0 ≤ t / W / 8 ∧ t / W / 8 ≤ acr H - 1 := by unfold acr; omega
  have h3 := Int.mul_nonneg (show 0 ≤ acr W by omega) h2.1
  have h4 := Int.mul_le_mul_of_nonneg_left h2.2 (show 0 ≤ acr W by omega)
  rw [Int.mul_sub] at h4
  unfold atS
  omega
end Go.Proofs.Ythdbofgcckjopaa
set_option linter.unusedVariables false
set_option linter.unusedSimpArgs false
namespace Go.Proofs.Ythdbofgcckjopaa
open Go.Vg Sp
def secD (W : Int) (d : Bool) (c v : Int) : Int := if d = true then v / 8 + acr W * (c / 8) else c / 8 + acr W * (v / 8)
theorem sec_at {W H : Int} {d : Bool} {c v : Int} (hc : 0 ≤ c ∧ c < sidD W H d) (hv : 0 ≤ v ∧ v < limD W H d) : atS W (posD W d c v) = secD W d c v := by
  have h := (posD_dm hc hv).2
  unfold atS secD
  cases d with
  | true => rw [if_pos rfl] at h ⊢; rw [h.1, h.2]
  | false => rw [if_neg (by simp)] at h ⊢; rw [h.1, h.2]
theorem acr_pos {W : Int} (hW : 1 ≤ W) : 1 ≤ acr W := by unfold acr; omega
theorem mul_canc {a x y : Int} (ha : 1 ≤ a) : a * x = a * y ↔ x = y := ⟨fun h => Int.eq_of_mul_eq_mul_left (by omega) h, fun h => by rw [h]⟩
theorem sec_v {W : Int} {d : Bool} {c v v' : Int} (hW : 1 ≤ W) : secD W d c v = secD W d c v' ↔ v / 8 = v' / 8 := by
  have ha := acr_pos hW
  cases d with
  | true => show v / 8 + acr W * (c / 8) = v' / 8 + acr W * (c / 8) ↔ _; omega
  | false =>
    show c / 8 + acr W * (v / 8) = c / 8 + acr W * (v' / 8) ↔ _
    rw [← mul_canc ha (x := v / 8)]; omega
theorem sec_c {W : Int} {d : Bool} {c v : Int} (hW : 1 ≤ W) (hc : 0 ≤ c) : ¬ secD W d c v = secD W d (c + 1) v ↔ c % 8 = 7 := by
  have ha := acr_pos hW
  have key : secD W d c v = secD W d (c + 1) v ↔ c / 8 = (c + 1) / 8 := by
    cases d with
    | true =>
      show v / 8 + acr W * (c / 8) = v / 8 + acr W * ((c + 1) / 8) ↔ _
      rw [← mul_canc ha (x := c / 8)]; omega
    | false => show c / 8 + acr W * (v / 8) = (c + 1) / 8 + acr W * (v / 8) ↔ _; omega
  rw [key]; omega
end Go.Proofs.Ythdbofgcckjopaa
set_option linter.unusedVariables false
set_option linter.unusedSimpArgs false
namespace Go.Proofs.Ythdbofgcckjopaa
open Go.Vg Sp
end Go.Proofs.Ythdbofgcckjopaa
set_option linter.unusedVariables false
set_option linter.unusedSimpArgs false
namespace Go.Proofs.Ythdbofgcckjopaa
open Go.Vg Sp
end Go.Proofs.Ythdbofgcckjopaa
set_option linter.unusedVariables false
set_option linter.unusedSimpArgs false
namespace Go.Proofs.Ythdbofgcckjopaa
open Go.Vg Sp
/-- A pair's place. -/
def PairD (W H : Int) (fr : List Bool) (d : Bool) (c v : Int) : Prop := OkB W H d c ∧ (0 ≤ v ∧ v < limD W H d) ∧ QD W fr d c v
theorem left_ex {Q : Int → Prop} {v : Int} (hv : 0 ≤ v) (hq : Q v) : ∃ s, 0 ≤ s ∧ s ≤ v ∧ s / 8 = v / 8 ∧ (∀ j, s ≤ j → j ≤ v → Q j) ∧ (s % 8 = 0 ∨ ¬ Q (s - 1)) := by
  obtain ⟨n, hn⟩ : ∃ n : Nat, (n : Int) = v % 8 := ⟨(v % 8).toNat, by omega⟩
  induction n generalizing v with
  | zero => exact ⟨v, hv, by omega, rfl, fun j a b => by rw [show j = v by omega]; exact hq, .inl (by omega)⟩
  | succ n ih =>
    by_cases h : Q (v - 1)
    · obtain ⟨s, h1, h2, h3, h4, h5⟩ := ih (v := v - 1) (by omega) h (by omega)
      refine ⟨s, h1, by omega, by omega, fun j a b => ?_, h5⟩
      by_cases e : j = v
      · rw [e]; exact hq
      · exact h4 j a (by omega)
    · exact ⟨v, hv, by omega, rfl, fun j a b => by rw [show j = v by omega]; exact hq, .inr h⟩
theorem right_ex {Q : Int → Prop} {v L : Int} (hv : 0 ≤ v ∧ v < L) (hq : Q v) : ∃ e, v < e ∧ e ≤ L ∧ (e - 1) / 8 = v / 8 ∧ (∀ j, v ≤ j → j < e → Q j) ∧ (e % 8 = 0 ∨ e = L ∨ ¬ Q e) := by
  obtain ⟨n, hn⟩ : ∃ n : Nat, (n : Int) = 7 - v % 8 := ⟨(7 - v % 8).toNat, by omega⟩
  induction n generalizing v with
  | zero => exact ⟨v + 1, by omega, by omega, by omega, fun j a b => by rw [show j = v by omega]; exact hq, .inl (by omega)⟩
  | succ n ih =>
    by_cases hl : v + 1 = L
    · exact ⟨v + 1, by omega, by omega, by omega, fun j a b => by rw [show j = v by omega]; exact hq, .inr (.inl hl)⟩
    by_cases h : Q (v + 1)
    · obtain ⟨e, h1, h2, h3, h4, h5⟩ := ih (v := v + 1) (by omega) h (by omega)
      refine ⟨e, by omega, h2, by omega, fun j a b => ?_, h5⟩
      by_cases e2 : j = v
      · rw [e2]; exact hq
      · exact h4 j (by omega) b
    · exact ⟨v + 1, by omega, by omega, by omega, fun j a b => by rw [show j = v by omega]; exact hq, .inr (.inr h)⟩
/-- Each pair lies in a run. -/
theorem run_ex {W H : Int} {fr : List Bool} {d : Bool} {c v : Int} (h : PairD W H fr d c v) : ∃ s n, RunD W H fr d c s n ∧ s ≤ v ∧ v < s + n := by
  obtain ⟨ho, hv, hq⟩ := h
  obtain ⟨s, a1, a2, a3, a4, a5⟩ := left_ex (Q := QD W fr d c) hv.1 hq
  obtain ⟨e, b1, b2, b3, b4, b5⟩ := right_ex (Q := QD W fr d c) hv hq
  refine ⟨s, e - s, ⟨ho, by omega, a1, by omega, by rw [show s + (e - s) - 1 = e - 1 by omega]; omega, fun j x y => ?_, a5, by rw [show s + (e - s) = e by omega]; exact b5⟩, a2, by omega⟩
  by_cases hj : j ≤ v
  · exact a4 j x hj
  · exact b4 j (by omega) (by omega)
theorem RunD.pair {W H : Int} {fr : List Bool} {d : Bool} {c v n j : Int} (h : RunD W H fr d c v n) (hj : v ≤ j ∧ j < v + n) : PairD W H fr d c j := ⟨h.ok, h.side.2 j hj.1 hj.2, h.q j hj.1 hj.2⟩
/-! ### apart -/
end Go.Proofs.Ythdbofgcckjopaa
