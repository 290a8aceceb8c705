/-
  Texts of one's own, joined: SP ST PQA PQB PQC SJ PQD PQE PQF PQP.
-/
import Derived.Test.YthdbofgcckjopaaGreatPQS
import Derived.Test.YthdbofgcckjopaaGreatRPG
import Derived.Test.YthdbofgcckjopaaGreatW3
import Derived.Test.YthdbofgcckjopaaGreatW5
set_option linter.unusedVariables false
namespace Go.Proofs.YthdbofgcckjopaaGreat
namespace Sp
def acr (n : Int) : Int := (n + 8 - 1) / 8
def atS (w t : Int) : Int := t % w / 8 + acr w * (t / w / 8)
def May (w h : Int) : Prop := (1 ≤ w ∧ w ≤ 128) ∧ (1 ≤ h ∧ h ≤ 128)
instance (w h : Int) : Decidable (May w h) := by unfold May; exact inferInstance
theorem divmod {w t : Int} (hw : 1 ≤ w) (ht : 0 ≤ t) : 0 ≤ t % w ∧ t % w < w ∧ 0 ≤ t / w ∧ t / w ≤ t ∧ w * (t / w) + t % w = t :=
  ⟨Int.emod_nonneg _ (by omega), Int.emod_lt_of_pos _ (by omega), Int.ediv_nonneg ht (by omega), Int.ediv_le_self _ ht, Int.mul_ediv_add_emod t w⟩
end Sp
end Go.Proofs.YthdbofgcckjopaaGreat
set_option linter.unusedVariables false
namespace Go.Proofs.YthdbofgcckjopaaGreat
namespace Sp
/-- A sector's tiles, rising. -/
def TilesOk (w h s : Int) (l : List Int) : Prop := (∀ t, t ∈ l ↔ 0 ≤ t ∧ t < w * h ∧ atS w t = s) ∧ l.Pairwise (· < ·)
/-- Those that have been met. -/
def TI (w x xe y j i : Int) (l : List Int) : Prop := (∀ t, t ∈ l ↔ 0 ≤ t ∧ x ≤ t % w ∧ t % w < xe ∧ y ≤ t / w ∧ (t / w < j ∨ t / w = j ∧ t % w < i)) ∧ l.Pairwise (· < ·)
theorem dm {w i j : Int} (hi : 0 ≤ i ∧ i < w) (hj : 0 ≤ j) : (i + w * j) % w = i ∧ (i + w * j) / w = j ∧ 0 ≤ i + w * j := by
  refine ⟨by rw [Int.add_mul_emod_self_left, Int.emod_eq_of_lt hi.1 hi.2], by rw [Int.add_mul_ediv_left _ _ (by omega), Int.ediv_eq_zero_of_lt hi.1 hi.2]; omega, ?_⟩
  have := Int.mul_nonneg (show 0 ≤ w by omega) hj
  omega
theorem dm_lt {w a b : Int} (hw : 1 ≤ w) (h : a / w < b / w ∨ a / w = b / w ∧ a % w < b % w) : a < b := by
  have ha := Int.mul_ediv_add_emod a w
  have hb := Int.mul_ediv_add_emod b w
  have h1 := Int.emod_lt_of_pos a (show 0 < w by omega)
  have h2 := Int.emod_nonneg b (show w ≠ 0 by omega)
  rcases h with h | ⟨h, h'⟩
  · have := Int.mul_le_mul_of_nonneg_left (show a / w + 1 ≤ b / w by omega) (show 0 ≤ w by omega)
    rw [Int.mul_add] at this
    omega
  · rw [h] at ha; omega
theorem TI.start {w x xe y : Int} : TI w x xe y y x [] := by
  refine ⟨fun t => ⟨fun h => by simp at h, fun h => by omega⟩, List.Pairwise.nil⟩
theorem TI.step {w x xe y j i : Int} {l : List Int} (h : TI w x xe y j i l) (hx : 0 ≤ x ∧ x ≤ i ∧ i < xe ∧ xe ≤ w) (hy : 0 ≤ y ∧ y ≤ j) : TI w x xe y j (i + 1) (l ++ [i + w * j]) := by
  obtain ⟨e1, e2, e3⟩ := dm (w := w) (i := i) (j := j) (by omega) (by omega)
  refine ⟨fun t => ?_, List.pairwise_append.2 ⟨h.2, List.pairwise_singleton _ _, fun a ha b hb => ?_⟩⟩
  · rw [List.mem_append, h.1 t, List.mem_singleton]
    constructor
    · rintro (h1 | rfl)
      · omega
      · rw [e1, e2]; omega
    · intro h1
      by_cases ht : t / w = j ∧ t % w = i
      · right
        have := Int.mul_ediv_add_emod t w
        rw [ht.1, ht.2] at this; omega
      · left; omega
  · rw [List.mem_singleton] at hb
    subst hb
    have := (h.1 a).1 ha
    exact dm_lt (show 1 ≤ w by omega) (by rw [e1, e2]; omega)
theorem TI.next {w x xe y j : Int} {l : List Int} (h : TI w x xe y j xe l) : TI w x xe y (j + 1) x l :=
  ⟨fun t => by rw [h.1 t]; omega, h.2⟩
theorem TI.done {w h s y j x i : Int} {l : List Int} (hw : 1 ≤ w ∧ w ≤ 128) (hh : 1 ≤ h ∧ h ≤ 128) (hs : 0 ≤ s ∧ s < acr w * acr h) (hx : x = s % acr w * 8) (hy : y = s / acr w * 8) (hj : j = max y (min (y + 8) h))
    (ht : TI w x (min (x + 8) w) y j x l) : TilesOk w h s l := by
  have ha : 1 ≤ acr w := by unfold acr; omega
  refine ⟨fun t => ?_, ht.2⟩
  rw [ht.1 t]
  have hsm := Int.mul_ediv_add_emod s (acr w)
  have hs1 := Int.emod_nonneg s (show acr w ≠ 0 by omega)
  have hs2 := Int.emod_lt_of_pos s (show 0 < acr w by omega)
  have hs3 : 0 ≤ s / acr w := Int.ediv_nonneg hs.1 (by omega)
  constructor
  · rintro ⟨h0, h1, h2, h3, h4⟩
    have hd := divmod hw.1 h0
    have hth : t / w < h := by omega
    refine ⟨h0, ?_, ?_⟩
    · have := Int.mul_le_mul_of_nonneg_left (show t / w + 1 ≤ h by omega) (show 0 ≤ w by omega)
      rw [Int.mul_add] at this
      omega
    · unfold atS
      rw [show t % w / 8 = s % acr w by omega, show t / w / 8 = s / acr w by omega]
      omega
  · rintro ⟨h0, h1, h2⟩
    have hd := divmod hw.1 h0
    have hth : t / w < h := Int.ediv_lt_of_lt_mul (by omega) (by rw [Int.mul_comm]; exact h1)
    have hr : 0 ≤ t % w / 8 ∧ t % w / 8 < acr w := by unfold acr; omega
    have hq : 0 ≤ t / w / 8 := by omega
    unfold atS at h2
    have e1 : s % acr w = t % w / 8 := by rw [← h2, Int.add_mul_emod_self_left, Int.emod_eq_of_lt hr.1 hr.2]
    have e2 : s / acr w = t / w / 8 := by rw [← h2, Int.add_mul_ediv_left _ _ (by omega), Int.ediv_eq_zero_of_lt hr.1 hr.2]; omega
    omega
end Sp
end Go.Proofs.YthdbofgcckjopaaGreat
set_option linter.unusedVariables false
set_option linter.unusedSimpArgs false
namespace Go.Proofs.YthdbofgcckjopaaGreat
open Go.Vg Sp
/-- A tile by its border's direction, the border, and the place along it. -/
def posD (W : Int) (d : Bool) (c v : Int) : Int := if d = true then v + W * c else c + W * v
def ovrD (W : Int) (d : Bool) : Int := if d = true then W else 1
def stpD (W : Int) (d : Bool) : Int := if d = true then 1 else W
def limD (W H : Int) (d : Bool) : Int := if d = true then W else H
def sidD (W H : Int) (d : Bool) : Int := if d = true then H else W
def OkB (W H : Int) (d : Bool) (c : Int) : Prop := 0 ≤ c ∧ c % 8 = 7 ∧ c + 1 < sidD W H d
def QD (W : Int) (fr : List Bool) (d : Bool) (c v : Int) : Prop := gi fr (posD W d c v) = true ∧ gi fr (posD W d c v + ovrD W d) = true
structure RunD (W H : Int) (fr : List Bool) (d : Bool) (c v n : Int) : Prop where
  ok : OkB W H d c
  n1 : 1 ≤ n
  v0 : 0 ≤ v
  lim : v + n ≤ limD W H d
  blk : (v + n - 1) / 8 = v / 8
  q : ∀ j, v ≤ j → j < v + n → QD W fr d c j
  lo : v % 8 = 0 ∨ ¬ QD W fr d c (v - 1)
  hi : (v + n) % 8 = 0 ∨ v + n = limD W H d ∨ ¬ QD W fr d c (v + n)
def prtD (W : Int) (d : Bool) (c v n : Int) : Prt := ⟨posD W d c (v + (n - 1) / 2), posD W d c (v + (n - 1) / 2) + ovrD W d, n⟩
def IsP (W H : Int) (fr : List Bool) (p : Prt) : Prop := ∃ d c v n, RunD W H fr d c v n ∧ p = prtD W d c v n
theorem posD_inj {W H : Int} {d : Bool} {c c' v v' : Int} (hc : 0 ≤ c ∧ c < sidD W H d) (hc' : 0 ≤ c' ∧ c' < sidD W H d) (hv : 0 ≤ v ∧ v < limD W H d) (hv' : 0 ≤ v' ∧ v' < limD W H d) (h : posD W d c v = posD W d c' v') : c = c' ∧ v = v' := by
  cases d with
  | true =>
    have h : v + W * c = v' + W * c' := h
    have a := dm (w := W) (i := v) (j := c) hv hc.1
    have b := dm (w := W) (i := v') (j := c') hv' hc'.1
    rw [h] at a
    exact ⟨a.2.1.symm.trans b.2.1, a.1.symm.trans b.1⟩
  | false =>
    have h : c + W * v = c' + W * v' := h
    have a := dm (w := W) (i := c) (j := v) hc hv.1
    have b := dm (w := W) (i := c') (j := v') hc' hv'.1
    rw [h] at a
    exact ⟨a.1.symm.trans b.1, a.2.1.symm.trans b.2.1⟩
theorem RunD.at {W H : Int} {fr : List Bool} {d : Bool} {c v n v' n' m : Int} (h : RunD W H fr d c v n) (k : RunD W H fr d c v' n') (hm : v ≤ m ∧ m < v + n) (hm' : v' ≤ m ∧ m < v' + n') : v = v' ∧ n = n' := by
  have hn := h.n1; have kn := k.n1; have hb := h.blk; have kb := k.blk; have hl := h.lim; have kl := k.lim
  have hv : v = v' := by
    apply Classical.byContradiction
    intro hne
    by_cases hlt : v < v'
    · rcases k.lo with e | e
      · omega
      · exact e (h.q _ (by omega) (by omega))
    · rcases h.lo with e | e
      · omega
      · exact e (k.q _ (by omega) (by omega))
  subst hv
  refine ⟨rfl, ?_⟩
  apply Classical.byContradiction
  intro hne
  by_cases hlt : n < n'
  · rcases h.hi with e | e | e
    · omega
    · omega
    · exact e (k.q _ (by omega) (by omega))
  · rcases k.hi with e | e | e
    · omega
    · omega
    · exact e (h.q _ (by omega) (by omega))
theorem RunD.side {W H : Int} {fr : List Bool} {d : Bool} {c v n : Int} (h : RunD W H fr d c v n) : (0 ≤ c ∧ c < sidD W H d) ∧ ∀ j, v ≤ j → j < v + n → 0 ≤ j ∧ j < limD W H d := by
  have := h.ok; have := h.lim; have := h.v0
  unfold OkB at *
  exact ⟨by omega, fun j a b => by omega⟩
theorem RunD.uniq {W H : Int} {fr : List Bool} {d d' : Bool} {c c' v v' n n' : Int} (h : RunD W H fr d c v n) (k : RunD W H fr d' c' v' n') (e1 : (prtD W d c v n).a = (prtD W d' c' v' n').a) (e2 : (prtD W d c v n).b = (prtD W d' c' v' n').b) : d = d' ∧ c = c' ∧ v = v' ∧ n = n' := by
  have hd : d = d' := by
    have : ovrD W d = ovrD W d' := by
      have a1 : (prtD W d c v n).b = (prtD W d c v n).a + ovrD W d := rfl
      have a2 : (prtD W d' c' v' n').b = (prtD W d' c' v' n').a + ovrD W d' := rfl
      omega
    have ho := h.ok; have ko := k.ok
    cases d with
    | true =>
      cases d' with
      | true => rfl
      | false =>
        have e : W = 1 := this
        have : 0 ≤ c' ∧ c' % 8 = 7 ∧ c' + 1 < W := ko
        omega
    | false =>
      cases d' with
      | false => rfl
      | true =>
        have e : 1 = W := this
        have : 0 ≤ c ∧ c % 8 = 7 ∧ c + 1 < W := ho
        omega
  subst hd
  have hn := h.n1; have kn := k.n1
  obtain ⟨hc, hv⟩ := h.side
  obtain ⟨kc, kv⟩ := k.side
  obtain ⟨rfl, hm⟩ := posD_inj (H := H) hc kc (hv (v + (n - 1) / 2) (by omega) (by omega)) (kv (v' + (n' - 1) / 2) (by omega) (by omega)) e1
  obtain ⟨rfl, rfl⟩ := h.at k (m := v + (n - 1) / 2) (by omega) (by omega)
  exact ⟨rfl, rfl, rfl, rfl⟩
theorem IsP.key {W H : Int} {fr : List Bool} {p q : Prt} (h : IsP W H fr p) (k : IsP W H fr q) (e1 : p.a = q.a) (e2 : p.b = q.b) : p = q := by
  obtain ⟨d, c, v, n, h, rfl⟩ := h
  obtain ⟨d', c', v', n', k, rfl⟩ := k
  obtain ⟨rfl, rfl, rfl, rfl⟩ := h.uniq k e1 e2
  rfl
theorem StrP.nodup {l : List Prt} (h : StrP l) : l.Nodup := h.imp fun {a b} h e => by subst e; unfold PrLt at h; omega
theorem strP_ext {l m : List Prt} (h : StrP l) (k : StrP m) (e : ∀ p, p ∈ l ↔ p ∈ m) : l = m :=
  strP_uniq h k ((List.perm_ext_iff_of_nodup h.nodup k.nodup).2 e)
theorem disP_of {W H : Int} {fr : List Bool} {l : List Prt} (hn : l.Nodup) (h : ∀ p ∈ l, IsP W H fr p) : DisP l := by
  refine List.Pairwise.imp_of_mem (fun {a b} ha hb hne e => ?_) hn
  exact hne ((h a ha).key (h b hb) e.1 e.2)
/-- All portals, rising. -/
def PortalsOk (W H : Int) (fr : List Bool) (l : List Prt) : Prop := StrP l ∧ ∀ p, p ∈ l ↔ IsP W H fr p
theorem PortalsOk.uniq {W H : Int} {fr : List Bool} {l m : List Prt} (h : PortalsOk W H fr l) (k : PortalsOk W H fr m) : l = m := strP_ext h.1 k.1 fun p => (h.2 p).trans (k.2 p).symm
/-! ### Tiles by their places -/
theorem posD_of {W H t : Int} (hW : 1 ≤ W) (ht : 0 ≤ t ∧ t < W * H) (d : Bool) : ∃ c v, t = posD W d c v ∧ (0 ≤ c ∧ c < sidD W H d) ∧ (0 ≤ v ∧ v < limD W H d) ∧ (if d = true then t / W = c ∧ t % W = v else t % W = c ∧ t / W = v) := by
  have hd := divmod hW ht.1
  have hth : t / W < H := Int.ediv_lt_of_lt_mul (by omega) (by rw [Int.mul_comm]; exact ht.2)
  cases d with
  | true => exact ⟨t / W, t % W, by show t = t % W + W * (t / W); omega, ⟨hd.2.2.1, hth⟩, ⟨hd.1, hd.2.1⟩, by simp⟩
  | false => exact ⟨t % W, t / W, by show t = t % W + W * (t / W); omega, ⟨hd.1, hd.2.1⟩, ⟨hd.2.2.1, hth⟩, by simp⟩
theorem posD_dm {W H : Int} {d : Bool} {c v : Int} (hc : 0 ≤ c ∧ c < sidD W H d) (hv : 0 ≤ v ∧ v < limD W H d) : 0 ≤ posD W d c v ∧ (if d = true then posD W d c v / W = c ∧ posD W d c v % W = v else posD W d c v % W = c ∧ posD W d c v / W = v) := by
  cases d with
  | true => have a := dm (w := W) (i := v) (j := c) hv hc.1; exact ⟨a.2.2, by rw [if_pos rfl]; exact ⟨a.2.1, a.1⟩⟩
  | false => have a := dm (w := W) (i := c) (j := v) hc hv.1; exact ⟨a.2.2, by rw [if_neg (by simp)]; exact ⟨a.1, a.2.1⟩⟩
theorem posD_lt {W H : Int} {d : Bool} {c v : Int} (hW : 1 ≤ W) (hc : 0 ≤ c ∧ c < sidD W H d) (hv : 0 ≤ v ∧ v < limD W H d) : posD W d c v < W * H := by
  cases d with
  | true =>
    have hv : 0 ≤ v ∧ v < W := hv
    have hc : 0 ≤ c ∧ c < H := hc
    have := Int.mul_le_mul_of_nonneg_left (show c + 1 ≤ H by omega) (show 0 ≤ W by omega)
    rw [Int.mul_add] at this
    show v + W * c < _; omega
  | false =>
    have hv : 0 ≤ v ∧ v < H := hv
    have hc : 0 ≤ c ∧ c < W := hc
    have := Int.mul_le_mul_of_nonneg_left (show v + 1 ≤ H by omega) (show 0 ≤ W by omega)
    rw [Int.mul_add] at this
    show c + W * v < _; omega
theorem posD_over {W : Int} {d : Bool} {c v : Int} : posD W d c v + ovrD W d = posD W d (c + 1) v := by
  cases d with
  | true => show v + W * c + W = v + W * (c + 1); rw [Int.mul_add]; omega
  | false => show c + W * v + 1 = c + 1 + W * v; omega
theorem posD_step {W : Int} {d : Bool} {c v : Int} (i : Int) : posD W d c (v + i) = posD W d c v + stpD W d * i := by
  cases d with
  | true => show v + i + W * c = v + W * c + 1 * i; omega
  | false => show c + W * (v + i) = c + W * v + W * i; rw [Int.mul_add]; omega
end Go.Proofs.YthdbofgcckjopaaGreat
set_option linter.unusedVariables false
set_option linter.unusedSimpArgs false
namespace Go.Proofs.YthdbofgcckjopaaGreat
open Go.Vg Sp
/-! ### One border -/
structure RunI (N : Int) (Q : Int → Prop) (i n : Int) : Prop where
  n1 : 1 ≤ n
  i0 : 0 ≤ i
  lim : i + n ≤ N
  q : ∀ j, i ≤ j → j < i + n → Q j
  lo : i = 0 ∨ ¬ Q (i - 1)
  hi : i + n = N ∨ ¬ Q (i + n)
def prtI (a over step i n : Int) : Prt := ⟨a + step * (i + (n - 1) / 2), a + step * (i + (n - 1) / 2) + over, n⟩
def PI (fr : List Bool) (a over step i : Int) : Prop := gi fr (a + step * i) = true ∧ gi fr (a + step * i + over) = true
structure BI (fr : List Bool) (a over step N : Int) (l : List Prt) (run i : Int) : Prop where
  i0 : 0 ≤ i ∧ i ≤ N + 1
  r0 : 0 ≤ run ∧ run ≤ i ∧ run ≤ N
  z : i = N + 1 → run = 0
  q : ∀ j, i - run ≤ j → j < i → PI fr a over step j
  lo : i ≤ N → i - run = 0 ∨ ¬ PI fr a over step (i - run - 1)
  len : (l.length : Int) ≤ i
  nd : l.Nodup
  bd : ∀ p ∈ l, p.a < a + step * (i - run)
  mem : ∀ p, p ∈ l ↔ ∃ i0 n, RunI N (PI fr a over step) i0 n ∧ i0 + n < i ∧ p = prtI a over step i0 n
theorem BI.start {fr : List Bool} {a over step N : Int} (hN : 1 ≤ N) : BI fr a over step N [] 0 0 :=
  ⟨by omega, by omega, fun _ => rfl, fun j h1 h2 => by omega, fun _ => .inl rfl, by simp, List.nodup_nil, fun p h => (by cases h), fun p => ⟨fun h => (by cases h), fun ⟨i0, n, h, h2, _⟩ => by have := h.n1; have := h.i0; omega⟩⟩
theorem BI.more {fr : List Bool} {a over step N : Int} {l : List Prt} {run i : Int} (h : BI fr a over step N l run i) (hi : i < N) (hq : PI fr a over step i) : BI fr a over step N l (run + 1) (i + 1) := by
  have h0 := h.i0; have h1 := h.r0
  refine ⟨by omega, by omega, fun e => by omega, fun j a b => ?_, fun _ => ?_, by have := h.len; omega, h.nd, fun p hp => ?_, fun p => ?_⟩
  · by_cases e : j = i
    · subst e; exact hq
    · exact h.q j (by omega) (by omega)
  · rw [show i + 1 - (run + 1) = i - run by omega]; exact h.lo (by omega)
  · rw [show i + 1 - (run + 1) = i - run by omega]; exact h.bd p hp
  · rw [h.mem p]
    constructor
    · rintro ⟨i0, n, hr, e, hp⟩; exact ⟨i0, n, hr, by omega, hp⟩
    · rintro ⟨i0, n, hr, e, hp⟩
      refine ⟨i0, n, hr, ?_, hp⟩
      apply Classical.byContradiction
      intro hne
      have e2 : i0 + n = i := by omega
      rcases hr.hi with k | k
      · omega
      · rw [e2] at k; exact k hq
theorem BI.gap {fr : List Bool} {a over step N : Int} {l : List Prt} {i : Int} (hs : 1 ≤ step) (h : BI fr a over step N l 0 i) (hi : i < N + 1) (hq : ¬ (i < N ∧ PI fr a over step i)) : BI fr a over step N l 0 (i + 1) := by
  have h0 := h.i0; have h1 := h.r0
  refine ⟨by omega, by omega, fun e => rfl, fun j a b => by omega, fun hle => .inr fun k => ?_, by have := h.len; omega, h.nd, fun p hp => ?_, fun p => ?_⟩
  · rw [show i + 1 - 0 - 1 = i by omega] at k; exact hq ⟨by omega, k⟩
  · have := h.bd p hp
    rw [Int.mul_sub, Int.mul_zero] at this
    rw [Int.mul_sub, Int.mul_zero, Int.mul_add]; omega
  · rw [h.mem p]
    constructor
    · rintro ⟨i0, n, hr, e, hp⟩; exact ⟨i0, n, hr, by omega, hp⟩
    · rintro ⟨i0, n, hr, e, hp⟩
      refine ⟨i0, n, hr, ?_, hp⟩
      apply Classical.byContradiction
      intro hne
      have hn := hr.n1; have hz := hr.i0
      have e2 : i0 + n = i := by omega
      rcases h.lo (by omega) with k | k
      · omega
      · exact k (hr.q _ (by omega) (by omega))
theorem BI.put {fr : List Bool} {a over step N : Int} {l : List Prt} {run i : Int} (hs : 1 ≤ step) (h : BI fr a over step N l run i) (hr : 0 < run) (hq : ¬ (i < N ∧ PI fr a over step i)) : BI fr a over step N (l ++ [prtI a over step (i - run) run]) 0 (i + 1) := by
  have h0 := h.i0; have h1 := h.r0
  have hiN : i ≤ N := by
    apply Classical.byContradiction; intro e
    have := h.z (by omega); omega
  have hrun : RunI N (PI fr a over step) (i - run) run := ⟨by omega, by omega, by omega, fun j a b => h.q j a (by omega), h.lo hiN, by
    rw [show i - run + run = i by omega]
    by_cases e : i = N
    · exact .inl e
    · exact .inr fun k => hq ⟨by omega, k⟩⟩
  have ha : a + step * (i - run) ≤ (prtI a over step (i - run) run).a := by
    show _ ≤ a + step * (i - run + (run - 1) / 2)
    have := Int.mul_le_mul_of_nonneg_left (show i - run ≤ i - run + (run - 1) / 2 by omega) (show 0 ≤ step by omega)
    omega
  have hb : (prtI a over step (i - run) run).a < a + step * (i + 1) := by
    show a + step * (i - run + (run - 1) / 2) < _
    have := Int.mul_lt_mul_of_pos_left (show i - run + (run - 1) / 2 < i + 1 by omega) (show 0 < step by omega)
    omega
  refine ⟨by omega, by omega, fun e => rfl, fun j a b => by omega, fun hle => .inr fun k => ?_, by have := h.len; simp only [List.length_append, List.length_cons, List.length_nil]; omega, ?_, fun p hp => ?_, fun p => ?_⟩
  · rw [show i + 1 - 0 - 1 = i by omega] at k; exact hq ⟨by omega, k⟩
  · refine List.nodup_append.2 ⟨h.nd, by simp, fun x hx y hy e => ?_⟩
    rw [List.mem_singleton.1 hy] at e
    have := h.bd x hx
    rw [e] at this; omega
  · rw [Int.sub_zero]
    rcases List.mem_append.1 hp with hp | hp
    · have := h.bd p hp
      have := Int.mul_lt_mul_of_pos_left (show i - run < i + 1 by omega) (show 0 < step by omega)
      omega
    · rw [List.mem_singleton.1 hp]; exact hb
  · rw [List.mem_append, List.mem_singleton, h.mem p]
    constructor
    · rintro (⟨i0, n, hr, e, hp⟩ | hp)
      · exact ⟨i0, n, hr, by omega, hp⟩
      · exact ⟨i - run, run, hrun, by omega, hp⟩
    · rintro ⟨i0, n, hr2, e, hp⟩
      by_cases he : i0 + n < i
      · exact .inl ⟨i0, n, hr2, he, hp⟩
      · have e2 : i0 + n = i := by omega
        have hn := hr2.n1; have hz := hr2.i0
        have e3 : i0 = i - run := by
          apply Classical.byContradiction; intro hne
          by_cases hlt : i0 < i - run
          · rcases h.lo hiN with k | k
            · omega
            · exact k (hr2.q _ (by omega) (by omega))
          · rcases hr2.lo with k | k
            · omega
            · exact k (h.q _ (by omega) (by omega))
        refine .inr ?_
        rw [hp, e3, show n = run by omega]
theorem border_p {fr : List Bool} {a over step N : Int} (ha : 0 ≤ a ∧ a ≤ 100000) (ho : 1 ≤ over ∧ over ≤ 128) (hs : 1 ≤ step ∧ step ≤ 128) (hN : 1 ≤ N ∧ N ≤ 8) (hb : ∀ i, 0 ≤ i → i < N → a + step * i + over < fr.length) :
    Ok (portal_border fr a over step N) (fun l => l.length ≤ 9 ∧ l.Nodup ∧ ∀ p, p ∈ l ↔ ∃ i n, RunI N (PI fr a over step) i n ∧ p = prtI a over step i n) := by
  unfold portal_border
  refine Ok.gd (by unfold I64; omega) (Ok.bind (R := fun l => BI fr a over step N l 0 (N + 1)) (Ok.loop (fun z : List Prt × Int × Int => BI fr a over step N z.1 z.2.1 z.2.2) (fun z => (N + 1 - z.2.2).toNat) (BI.start hN.1) (by unfold FUEL; dsimp only; omega) ?_) ?_)
  · rintro ⟨l, run, i⟩ h
    dsimp only at h ⊢
    have h0 := h.i0; have h1 := h.r0; have h2 := h.len
    have m1 := mul_bd (a := step) (b := i) (A := 128) (B := 9) (by omega) (by omega)
    have m2 := mul_bd (a := step) (b := run) (A := 128) (B := 8) (by omega) (by omega)
    refine Ok.ite (fun hlt => ?_) (fun hlt => Ok.ret ?_)
    · refine Ok.gd (by unfold I64; omega) (Ok.gd (by unfold I64; omega) (Ok.gd (fun hi => by have := hb i (by omega) hi; omega) (Ok.gd (fun _ => by unfold I64; omega) (Ok.gd (fun hi => by have := hb i (by omega) hi.1; omega) (Ok.ite (fun hc => ?_) (fun hc => ?_))))))
      · exact Ok.gd (by unfold I64; omega) (Ok.gd (by unfold I64; omega) (Ok.ret ⟨h.more hc.1.1 ⟨hc.1.2, hc.2⟩, by show (N + 1 - (i + 1)).toNat < (N + 1 - i).toNat; omega⟩))
      · have hq : ¬ (i < N ∧ PI fr a over step i) := fun k => hc ⟨⟨k.1, k.2.1⟩, k.2.2⟩
        refine Ok.ite (fun hr => ?_) (fun hr => ?_)
        · have m3 := mul_bd (a := step) (b := (run - 1) / 2) (A := 128) (B := 8) (by omega) (by omega)
          refine Ok.gd (by unfold I64; omega) (Ok.gd (by unfold I64; omega) (Ok.gd (by unfold I64; omega) (Ok.gd (by omega) (Ok.gd (by unfold I64; omega) (Ok.gd (by unfold I64; omega) (Ok.gd (by unfold I64; omega) (Ok.gd (by omega) (Ok.gd (by unfold I64; omega) (Ok.ret ⟨?_, by show (N + 1 - (i + 1)).toNat < (N + 1 - i).toNat; omega⟩)))))))))
          have e : a + step * i - step * run + step * ((run - 1) / 2) = a + step * (i - run + (run - 1) / 2) := by rw [Int.mul_add, Int.mul_sub]; omega
          show BI fr a over step N (l ++ [⟨a + step * i - step * run + step * ((run - 1) / 2), a + step * i - step * run + step * ((run - 1) / 2) + over, run⟩]) 0 (i + 1)
          rw [e]
          exact h.put hs.1 hr hq
        · have e : run = 0 := by omega
          subst e
          exact Ok.gd (by unfold I64; omega) (Ok.ret ⟨h.gap hs.1 hlt hq, by show (N + 1 - (i + 1)).toNat < (N + 1 - i).toNat; omega⟩)
    · have e : i = N + 1 := by omega
      subst e
      have e := h.z rfl
      subst e
      exact h
  · rintro l h
    refine Ok.ret ⟨by have := h.len; omega, h.nd, fun p => ?_⟩
    rw [h.mem p]
    constructor
    · rintro ⟨i, n, hr, _, hp⟩; exact ⟨i, n, hr, hp⟩
    · rintro ⟨i, n, hr, hp⟩; exact ⟨i, n, hr, by have := hr.lim; omega, hp⟩
/-- One border's portals, by the tiles. -/
theorem bord_p {W H : Int} {fr : List Bool} {d : Bool} {c k : Int} (hm : May W H) (hf : (fr.length : Int) = W * H) (ho : OkB W H d c) (hk : 0 ≤ k ∧ k % 8 = 0 ∧ k < limD W H d) :
    Ok (portal_border fr (posD W d c k) (ovrD W d) (stpD W d) (min 8 (limD W H d - k))) (fun l => l.length ≤ 9 ∧ l.Nodup ∧ ∀ p, p ∈ l ↔ ∃ v n, RunD W H fr d c v n ∧ v - v % 8 = k ∧ p = prtD W d c v n) := by
  have hm2 := hm
  unfold May at hm2
  have hbd := mul_bd (a := W) (b := H) (A := 128) (B := 128) (by omega) (by omega)
  have ho2 := ho
  unfold OkB at ho2
  have hp : ∀ v, 0 ≤ v → v < limD W H d → 0 ≤ posD W d c v ∧ posD W d c v + ovrD W d < W * H := fun v a b => by
    refine ⟨(posD_dm (H := H) (c := c) (v := v) (by omega) ⟨a, b⟩).1, ?_⟩
    rw [posD_over]
    exact posD_lt hm2.1.1 (by omega) ⟨a, b⟩
  have hov : 1 ≤ ovrD W d ∧ ovrD W d ≤ 128 := by cases d <;> simp [ovrD] <;> omega
  have hst : 1 ≤ stpD W d ∧ stpD W d ≤ 128 := by cases d <;> simp [stpD] <;> omega
  have hpk := hp k hk.1 hk.2.2
  refine Ok.mono (border_p (by omega) hov hst (by omega) (fun i i0 i1 => ?_)) fun l hl => ⟨hl.1, hl.2.1, fun p => ?_⟩
  · rw [← posD_step]
    have := hp (k + i) (by omega) (by omega)
    omega
  have hPI : ∀ i, PI fr (posD W d c k) (ovrD W d) (stpD W d) i ↔ QD W fr d c (k + i) := fun i => by unfold PI QD; rw [posD_step]
  rw [hl.2.2 p]
  constructor
  · rintro ⟨i, n, hr, rfl⟩
    have h1 := hr.n1; have h2 := hr.i0; have h3 := hr.lim
    refine ⟨k + i, n, ⟨ho, h1, by omega, by omega, by omega, fun j a b => ?_, ?_, ?_⟩, by omega, ?_⟩
    · have := (hPI (j - k)).1 (hr.q (j - k) (by omega) (by omega))
      rwa [show k + (j - k) = j by omega] at this
    · rcases hr.lo with e | e
      · exact .inl (by omega)
      · rw [hPI, show k + (i - 1) = k + i - 1 by omega] at e; exact .inr e
    · rcases hr.hi with e | e
      · omega
      · rw [hPI, ← Int.add_assoc] at e; exact .inr (.inr e)
    · unfold prtI prtD
      rw [← posD_step, ← Int.add_assoc]
  · rintro ⟨v, n, hr, hv, rfl⟩
    have h1 := hr.n1; have h2 := hr.v0; have h3 := hr.lim; have h4 := hr.blk
    refine ⟨v - k, n, ⟨h1, by omega, by omega, fun j a b => (hPI j).2 (hr.q _ (by omega) (by omega)), ?_, ?_⟩, ?_⟩
    · rcases hr.lo with e | e
      · exact .inl (by omega)
      · refine .inr fun q => e ?_
        have := (hPI _).1 q
        rwa [show k + (v - k - 1) = v - 1 by omega] at this
    · by_cases he : v - k + n = min 8 (limD W H d - k)
      · exact .inl he
      · rcases hr.hi with e | e | e
        · omega
        · omega
        · refine .inr fun q => e ?_
          have := (hPI _).1 q
          rwa [show k + (v - k + n) = v + n by omega] at this
    · unfold prtI prtD
      rw [← posD_step, ← Int.add_assoc, show k + (v - k) = v by omega]
end Go.Proofs.YthdbofgcckjopaaGreat
set_option linter.unusedVariables false
set_option linter.unusedSimpArgs false
namespace Go.Proofs.YthdbofgcckjopaaGreat
open Go.Vg Sp
def cxD (d : Bool) (c v : Int) : Int := if d = true then v - v % 8 else c - 7
def cyD (d : Bool) (c v : Int) : Int := if d = true then c - 7 else v - v % 8
def Bef (y x : Int) (d : Bool) (c v : Int) : Prop := cyD d c v < y ∨ (cyD d c v = y ∧ cxD d c v < x)
def AI (W H : Int) (fr : List Bool) (S : Bool → Int → Int → Prop) (l : List Prt) : Prop := l.Nodup ∧ ∀ p, p ∈ l ↔ ∃ d c v n, RunD W H fr d c v n ∧ S d c v ∧ p = prtD W d c v n
theorem AI.weak {W H : Int} {fr : List Bool} {S S' : Bool → Int → Int → Prop} {l : List Prt} (h : AI W H fr S l) (e : ∀ d c v n, RunD W H fr d c v n → (S d c v ↔ S' d c v)) : AI W H fr S' l := by
  refine ⟨h.1, fun p => ?_⟩
  rw [h.2 p]
  constructor
  · rintro ⟨d, c, v, n, hr, hs, hp⟩; exact ⟨d, c, v, n, hr, (e d c v n hr).1 hs, hp⟩
  · rintro ⟨d, c, v, n, hr, hs, hp⟩; exact ⟨d, c, v, n, hr, (e d c v n hr).2 hs, hp⟩
theorem AI.add {W H : Int} {fr : List Bool} {S : Bool → Int → Int → Prop} {l x : List Prt} {d : Bool} {c k : Int} (h : AI W H fr S l) (hn : x.Nodup) (hx : ∀ p, p ∈ x ↔ ∃ v n, RunD W H fr d c v n ∧ v - v % 8 = k ∧ p = prtD W d c v n)
    (hd : ∀ v, S d c v → v - v % 8 = k → False) : AI W H fr (fun d' c' v' => S d' c' v' ∨ (d' = d ∧ c' = c ∧ v' - v' % 8 = k)) (l ++ x) := by
  refine ⟨List.nodup_append.2 ⟨h.1, hn, fun p hp q hq e => ?_⟩, fun p => ?_⟩
  · subst e
    obtain ⟨d', c', v', n', hr, hs, e1⟩ := (h.2 p).1 hp
    obtain ⟨v, n, kr, kv, e2⟩ := (hx p).1 hq
    obtain ⟨rfl, rfl, rfl, rfl⟩ := hr.uniq kr (by rw [← e1, ← e2]) (by rw [← e1, ← e2])
    exact hd _ hs kv
  · rw [List.mem_append, h.2 p, hx p]
    constructor
    · rintro (⟨d', c', v', n', hr, hs, e1⟩ | ⟨v, n, kr, kv, e2⟩)
      · exact ⟨d', c', v', n', hr, .inl hs, e1⟩
      · exact ⟨d, c, v, n, kr, .inr ⟨rfl, rfl, kv⟩, e2⟩
    · rintro ⟨d', c', v', n', hr, hs | ⟨rfl, rfl, hk⟩, e1⟩
      · exact .inl ⟨d', c', v', n', hr, hs, e1⟩
      · exact .inr ⟨v', n', hr, hk, e1⟩
theorem all_p {W H : Int} {fr : List Bool} (hm : May W H) (hf : (fr.length : Int) = W * H) : Ok (portal_All W H fr) (fun l => PortalsOk W H fr l ∧ l.length ≤ 5000) := by
  have hm2 := hm
  unfold May at hm2
  unfold portal_All
  refine Ok.bind (R := fun l => AI W H fr (fun _ _ _ => True) l ∧ l.length ≤ 5000) (Ok.loop (fun z : List Prt × Int => (0 ≤ z.2 ∧ z.2 % 8 = 0 ∧ z.2 ≤ H + 7) ∧ (z.1.length : Int) ≤ 300 * (z.2 / 8) ∧ AI W H fr (Bef z.2 0) z.1) (fun z => (H - z.2).toNat)
    ⟨⟨by decide, by decide, by show 0 ≤ H + 7; omega⟩, by decide, List.nodup_nil, fun p => ⟨fun h => (by cases h), fun ⟨d, c, v, n, hr, hs, _⟩ => ?_⟩⟩ (by unfold FUEL; dsimp only; omega) ?_) ?_
  · exfalso
    have h1 := hr.ok; have h2 := hr.v0
    unfold OkB at h1
    unfold Bef cyD cxD at hs
    cases d <;> simp at hs <;> omega
  · rintro ⟨l, y⟩ ⟨⟨y0, y8, y1⟩, hl, hA⟩
    dsimp only at y0 y8 y1 hl hA ⊢
    refine Ok.ite (fun hy => ?_) (fun hy => Ok.ret ⟨hA.weak fun d c v n hr => ⟨fun _ => trivial, fun _ => .inl ?_⟩, by omega⟩)
    · refine Ok.bind (R := fun l => (l.length : Int) ≤ 300 * ((y + 8) / 8) ∧ AI W H fr (Bef (y + 8) 0) l) (Ok.loop (fun z : Int × List Prt => (0 ≤ z.1 ∧ z.1 % 8 = 0 ∧ z.1 ≤ W + 7) ∧ (z.2.length : Int) ≤ 300 * (y / 8) + 18 * (z.1 / 8) ∧ AI W H fr (Bef y z.1) z.2) (fun z => (W - z.1).toNat)
        ⟨⟨by show (0 : Int) ≤ 0; omega, by show (0 : Int) % 8 = 0; omega, by show 0 ≤ W + 7; omega⟩, by show (l.length : Int) ≤ 300 * (y / 8) + 18 * (0 / 8); omega, hA⟩ (by unfold FUEL; dsimp only; omega) ?_) (fun l2 h2 => Ok.gd (by unfold I64; omega) (Ok.ret ⟨⟨⟨by show 0 ≤ y + 8; omega, by show (y + 8) % 8 = 0; omega, by show y + 8 ≤ _; omega⟩, h2.1, h2.2⟩, by show (H - (y + 8)).toNat < (H - y).toNat; omega⟩))
      rintro ⟨x, l⟩ ⟨⟨x0, x8, x1⟩, hl2, hA⟩
      dsimp only at x0 x8 x1 hl2 hA ⊢
      have hmul := mul_bd (a := W) (b := y + 8) (A := 128) (B := 200) (by omega) (by omega)
      have hmul1 := mul_bd (a := W) (b := y) (A := 128) (B := 200) (by omega) (by omega)
      have hmul2 := mul_bd (a := W) (b := y + 8 - 1) (A := 128) (B := 200) (by omega) (by omega)
      refine Ok.ite (fun hx => ?_) (fun hx => Ok.ret ⟨by omega, hA.weak fun d c v n hr => ?_⟩)
      · refine Ok.gd (by unfold I64; omega) (Ok.bind (R := fun l1 => (l1.length : Int) ≤ 300 * (y / 8) + 18 * (x / 8) + 9 ∧ AI W H fr (fun d c v => Bef y x d c v ∨ (d = false ∧ c = x + 7 ∧ v - v % 8 = y)) l1) ?_ ?_)
        · refine Ok.ite (fun hc => ?_) (fun hc => Ok.ret ⟨by omega, hA.weak fun d c v n hr => ⟨.inl, fun h => h.elim id fun k => ?_⟩⟩)
          · refine Ok.gd (by unfold I64; omega) (Ok.gd (by unfold I64; omega) (Ok.gd (by unfold I64; omega) (Ok.gd (by unfold I64; omega) (Ok.gd (by unfold I64; omega) ?_))))
            have hb := bord_p (d := false) (c := x + 7) (k := y) hm hf ⟨by omega, by omega, by show x + 7 + 1 < W; omega⟩ ⟨y0, y8, hy⟩
            have e : portal_border fr (x + 8 - 1 + W * y) 1 W (min 8 (H - y)) = portal_border fr (posD W false (x + 7) y) (ovrD W false) (stpD W false) (min 8 (limD W H false - y)) := by
              rw [show x + 8 - 1 + W * y = posD W false (x + 7) y from by show _ = x + 7 + W * y; omega]; rfl
            rw [e]
            refine Ok.bind hb fun z hz => Ok.gd (by omega) (Ok.ret ⟨by simp only [List.length_append]; omega, hA.add hz.2.1 hz.2.2 fun v hs hv => ?_⟩)
            unfold Bef cyD cxD at hs
            simp at hs; omega
          · exfalso
            have ho : OkB W H d c := hr.ok
            rw [k.1, k.2.1] at ho
            have : 0 ≤ x + 7 ∧ (x + 7) % 8 = 7 ∧ x + 7 + 1 < W := ho
            omega
        · rintro l1 ⟨hl1, hA1⟩
          have hfin : ∀ d c v n, RunD W H fr d c v n → (((Bef y x d c v ∨ (d = false ∧ c = x + 7 ∧ v - v % 8 = y)) ∨ (d = true ∧ c = y + 7 ∧ v - v % 8 = x)) ↔ Bef y (x + 8) d c v) := fun d c v n hr => by
            have h1 := hr.ok; have h2 := hr.v0
            unfold OkB at h1
            unfold Bef cyD cxD
            cases d <;> simp <;> omega
          refine Ok.gd (by unfold I64; omega) (Ok.ite (fun hc => ?_) (fun hc => Ok.gd (by unfold I64; omega) (Ok.ret ⟨⟨⟨by show 0 ≤ x + 8; omega, by show (x + 8) % 8 = 0; omega, by show x + 8 ≤ _; omega⟩, by show (l1.length : Int) ≤ 300 * (y / 8) + 18 * ((x + 8) / 8); omega, hA1.weak fun d c v n hr => ⟨fun h => (hfin d c v n hr).1 (.inl h), fun h => ((hfin d c v n hr).2 h).elim id fun k => ?_⟩⟩, by show (W - (x + 8)).toNat < (W - x).toNat; omega⟩)))
          · refine Ok.gd (by unfold I64; omega) (Ok.gd (by unfold I64; omega) (Ok.gd (by unfold I64; omega) (Ok.gd (by unfold I64; omega) (Ok.gd (by unfold I64; omega) ?_))))
            have hb := bord_p (d := true) (c := y + 7) (k := x) hm hf ⟨by omega, by omega, by show y + 7 + 1 < H; omega⟩ ⟨x0, x8, hx⟩
            have e : portal_border fr (x + W * (y + 8 - 1)) W 1 (min 8 (W - x)) = portal_border fr (posD W true (y + 7) x) (ovrD W true) (stpD W true) (min 8 (limD W H true - x)) := by
              rw [show x + W * (y + 8 - 1) = posD W true (y + 7) x from by show _ = x + W * (y + 7); rw [show y + 8 - 1 = y + 7 by omega]]; rfl
            rw [e]
            refine Ok.bind hb fun z hz => Ok.gd (by omega) (Ok.gd (by unfold I64; omega) (Ok.ret ⟨⟨⟨by show 0 ≤ x + 8; omega, by show (x + 8) % 8 = 0; omega, by show x + 8 ≤ _; omega⟩, by show ((l1 ++ z).length : Int) ≤ 300 * (y / 8) + 18 * ((x + 8) / 8); simp only [List.length_append]; omega, (hA1.add hz.2.1 hz.2.2 fun v hs hv => ?_).weak hfin⟩, by show (W - (x + 8)).toNat < (W - x).toNat; omega⟩))
            unfold Bef cyD cxD at hs
            simp at hs; omega
          · exfalso
            have ho : OkB W H d c := hr.ok
            rw [k.1, k.2.1] at ho
            have : 0 ≤ y + 7 ∧ (y + 7) % 8 = 7 ∧ y + 7 + 1 < H := ho
            omega
      · have h1 := hr.ok; have h2 := hr.v0; have h3 := hr.lim; have h4 := hr.n1
        unfold OkB sidD at h1
        unfold limD at h3
        unfold Bef cyD cxD
        cases d <;> simp at h1 h3 ⊢ <;> omega
    · have h1 := hr.ok; have h2 := hr.v0; have h3 := hr.lim; have h4 := hr.n1
      unfold OkB sidD at h1
      unfold limD at h3
      unfold cyD
      cases d <;> simp at h1 h3 ⊢ <;> omega
  · rintro l ⟨hA, hl⟩
    have hmem : ∀ p, p ∈ l ↔ IsP W H fr p := fun p => by
      rw [hA.2 p]
      constructor
      · rintro ⟨d, c, v, n, hr, _, e⟩; exact ⟨d, c, v, n, hr, e⟩
      · rintro ⟨d, c, v, n, hr, e⟩; exact ⟨d, c, v, n, hr, trivial, e⟩
    have hdis : DisP l := disP_of hA.1 fun p hp => (hmem p).1 hp
    unfold slices_SortFuncP
    rw [if_pos ⟨by omega, hdis⟩, Option.bind_some]
    exact Ok.ret ⟨⟨sortP_str hdis, fun p => by rw [List.mem_mergeSort, hmem p]⟩, by rw [List.length_mergeSort]; omega⟩
end Go.Proofs.YthdbofgcckjopaaGreat
set_option linter.unusedVariables false
namespace Go.Proofs.YthdbofgcckjopaaGreat
open Go.Vg Sp
theorem side_p (n : Int) : ground_Side n = some (decide (1 ≤ n ∧ n ≤ 128)) := rfl
theorem may_p (w h : Int) : sector_May w h = some (decide (May w h)) := by
  unfold sector_May
  rw [side_p, side_p]
  simp only [bsome]
  unfold May
  by_cases h1 : 1 ≤ w ∧ w ≤ 128 <;> simp [h1]
theorem across_p {n : Int} (h : 0 ≤ n ∧ n ≤ 4294967296) : sector_across n = some (acr n) := by
  unfold sector_across
  rw [if_pos (by unfold I64; omega), if_pos (by unfold I64; omega), if_pos (by omega)]; rfl
theorem at_p {w t : Int} (hw : 1 ≤ w ∧ w ≤ 128) (ht : 0 ≤ t ∧ t ≤ 4294967296) : sector_At w t = some (atS w t) := by
  have hd := divmod hw.1 ht.1
  have ha : 0 ≤ acr w ∧ acr w ≤ 17 := by unfold acr; omega
  have hm := mul_bd (b := t / w / 8) (B := 4294967296) ha (by omega)
  unfold sector_At
  rw [if_pos (by omega), if_pos (by omega), across_p (by omega), bsome, if_pos (by omega), if_pos (by omega), if_pos (by unfold I64; omega), if_pos (by unfold I64; omega)]; rfl
theorem ofR_p {w t : Int} (hw : 1 ≤ w ∧ w ≤ 128) (ht : 0 ≤ t ∧ t ≤ 4294967296) : throngref10_Of w t = some (atS w t) := at_p hw ht
theorem may_bd {w h : Int} (hm : May w h) : 1 ≤ w * h ∧ w * h ≤ 16384 := by
  unfold May at hm
  have := mul_bd (a := w) (b := h) (A := 128) (B := 128) (by omega) (by omega)
  have := Int.mul_le_mul_of_nonneg_left hm.2.1 (show 0 ≤ w by omega)
  omega
theorem atS_bd {W H t : Int} (hm : May W H) (ht : 0 ≤ t ∧ t < W * H) : 0 ≤ atS W t ∧ atS W t < acr W * acr H := by
  unfold May at hm
  have hd := divmod hm.1.1 ht.1
  have hth : t / W < H := Int.ediv_lt_of_lt_mul (by omega) (by rw [Int.mul_comm]; exact ht.2)
  have h1 : 0 ≤ t % W / 8 ∧ t % W / 8 < acr W := by unfold acr; omega
  have h2 : 0 ≤ t / W / 8 ∧ t / W / 8 ≤ acr H - 1 := by unfold acr; omega
  have h3 := Int.mul_nonneg (show 0 ≤ acr W by omega) h2.1
  have h4 := Int.mul_le_mul_of_nonneg_left h2.2 (show 0 ≤ acr W by omega)
  rw [Int.mul_sub] at h4
  unfold atS
  omega
end Go.Proofs.YthdbofgcckjopaaGreat
set_option linter.unusedVariables false
set_option linter.unusedSimpArgs false
namespace Go.Proofs.YthdbofgcckjopaaGreat
open Go.Vg Sp
def secD (W : Int) (d : Bool) (c v : Int) : Int := if d = true then v / 8 + acr W * (c / 8) else c / 8 + acr W * (v / 8)
theorem sec_at {W H : Int} {d : Bool} {c v : Int} (hc : 0 ≤ c ∧ c < sidD W H d) (hv : 0 ≤ v ∧ v < limD W H d) : atS W (posD W d c v) = secD W d c v := by
  have h := (posD_dm hc hv).2
  unfold atS secD
  cases d with
  | true => rw [if_pos rfl] at h ⊢; rw [h.1, h.2]
  | false => rw [if_neg (by simp)] at h ⊢; rw [h.1, h.2]
theorem acr_pos {W : Int} (hW : 1 ≤ W) : 1 ≤ acr W := by unfold acr; omega
theorem mul_canc {a x y : Int} (ha : 1 ≤ a) : a * x = a * y ↔ x = y := ⟨fun h => Int.eq_of_mul_eq_mul_left (by omega) h, fun h => by rw [h]⟩
theorem sec_v {W : Int} {d : Bool} {c v v' : Int} (hW : 1 ≤ W) : secD W d c v = secD W d c v' ↔ v / 8 = v' / 8 := by
  have ha := acr_pos hW
  cases d with
  | true => show v / 8 + acr W * (c / 8) = v' / 8 + acr W * (c / 8) ↔ _; omega
  | false =>
    show c / 8 + acr W * (v / 8) = c / 8 + acr W * (v' / 8) ↔ _
    rw [← mul_canc ha (x := v / 8)]; omega
theorem sec_c {W : Int} {d : Bool} {c v : Int} (hW : 1 ≤ W) (hc : 0 ≤ c) : ¬ secD W d c v = secD W d (c + 1) v ↔ c % 8 = 7 := by
  have ha := acr_pos hW
  have key : secD W d c v = secD W d (c + 1) v ↔ c / 8 = (c + 1) / 8 := by
    cases d with
    | true =>
      show v / 8 + acr W * (c / 8) = v / 8 + acr W * ((c + 1) / 8) ↔ _
      rw [← mul_canc ha (x := c / 8)]; omega
    | false => show c / 8 + acr W * (v / 8) = (c + 1) / 8 + acr W * (v / 8) ↔ _; omega
  rw [key]; omega
theorem pair_p {W H : Int} {fr : List Bool} {d : Bool} {c v : Int} (hm : May W H) (hf : (fr.length : Int) = W * H) (hc : 0 ≤ c ∧ c < sidD W H d) (hv : 0 ≤ v ∧ v < limD W H d) :
    Ok (throngref10_pair W H fr (posD W d c v) d) (fun r => (r.2 = true ↔ OkB W H d c ∧ QD W fr d c v) ∧ (c + 1 < sidD W H d → r.1 = posD W d (c + 1) v)) := by
  have hm2 := hm
  unfold May at hm2
  have hbd := mul_bd (a := W) (b := H) (A := 128) (B := 128) (by omega) (by omega)
  have hlt := posD_lt hm2.1.1 hc hv
  obtain ⟨h0, hdm⟩ := posD_dm hc hv
  have hov := posD_over (W := W) (d := d) (c := c) (v := v)
  unfold throngref10_pair
  refine Ok.gd (by unfold I64; omega) ?_
  refine Ok.bind (R := fun x => match x with | .up r => r = (0, false) ∧ ¬ c + 1 < sidD W H d | .go u => u = posD W d (c + 1) v ∧ c + 1 < sidD W H d) ?_ ?_
  · cases d with
    | true =>
      rw [if_pos rfl] at hdm ⊢
      have hc : 0 ≤ c ∧ c < H := hc
      refine Ok.gd (by unfold I64; omega) (Ok.gd (by omega) (Ok.gd (by unfold I64; omega) (Ok.ite (fun e => Ok.ret ⟨rfl, ?_⟩) (fun e => Ok.ret ⟨?_, ?_⟩))))
      · show ¬ c + 1 < H; omega
      · exact hov
      · show c + 1 < H; omega
    | false =>
      rw [if_neg (by simp)] at hdm ⊢
      have hc : 0 ≤ c ∧ c < W := hc
      refine Ok.gd (by omega) (Ok.gd (by unfold I64; omega) (Ok.ite (fun e => Ok.ret ⟨rfl, ?_⟩) (fun e => Ok.ret ⟨?_, ?_⟩)))
      · show ¬ c + 1 < W; omega
      · exact hov
      · show c + 1 < W; omega
  · rintro (u | r) hr
    · obtain ⟨rfl, hcs⟩ := hr
      have hlt2 := posD_lt hm2.1.1 (c := c + 1) (v := v) (d := d) (by omega) hv
      have h02 := (posD_dm (c := c + 1) (v := v) (d := d) (W := W) (H := H) (by omega) hv).1
      dsimp only [Ex.then]
      refine Ok.gd ⟨h0, by omega⟩ (Ok.gd (fun _ => ⟨h02, by omega⟩) ?_)
      refine Ok.bind (R := fun b => b = true ↔ OkB W H d c ∧ QD W fr d c v) ?_ fun b hb => Ok.ret ⟨hb, fun _ => rfl⟩
      unfold QD OkB
      rw [hov]
      refine Ok.ite (fun hq => ?_) (fun hq => Ok.ret ⟨fun e => (by cases e), fun k => absurd k.2 hq⟩)
      rw [ofR_p hm2.1 (by omega), bsome, ofR_p hm2.1 (by omega), bsome, sec_at hc hv, sec_at (H := H) (c := c + 1) (by omega) hv]
      refine Ok.ret ?_
      rw [decide_eq_true_iff, sec_c hm2.1.1 hc.1]
      exact ⟨fun k => ⟨⟨hc.1, k, hcs⟩, hq⟩, fun k => k.1.2.1⟩
    · obtain ⟨rfl, hcs⟩ := hr
      dsimp only [Ex.then]
      refine Ok.ret ⟨⟨fun e => (by cases e), fun k => absurd k.1.2.2 hcs⟩, fun e => absurd e hcs⟩
theorem copyP_p {l : List Prt} (h : l.length < 1099511627776) : throngref0_CopyPortals l = some l := copyF_eq h
theorem with_p {l : List Prt} {p : Prt} (hl : l.length ≤ 1000000) (hs : StrP l) (hn : ∀ q ∈ l, ¬ (q.a = p.a ∧ q.b = p.b)) :
    Ok (throngref10_with l p) (fun m => StrP m ∧ (m.length = l.length + 1) ∧ ∀ q, q ∈ m ↔ q = p ∨ q ∈ l) := by
  unfold throngref10_with
  refine Ok.bind (R := fun i : Int => (0 ≤ i ∧ i ≤ l.length) ∧ (∀ j : Int, 0 ≤ j → j < i → PrLt (gi l j) p) ∧ ¬ (i < l.length ∧ PrLt (gi l i) p)) (Ok.loop (fun i : Int => (0 ≤ i ∧ i ≤ l.length) ∧ ∀ j : Int, 0 ≤ j → j < i → PrLt (gi l j) p) (fun i => (l.length - i).toNat) ⟨⟨Int.le_refl _, by omega⟩, fun j a b => by omega⟩ (by unfold FUEL; omega) ?_) ?_
  · rintro i ⟨⟨i0, i1⟩, hi⟩
    refine Ok.gd (fun h => by omega) (Ok.gd (fun h _ => by omega) (Ok.gd (fun h _ _ => by omega) (Ok.ite (fun hc => Ok.gd (by unfold I64; omega) (Ok.ret ⟨⟨⟨by omega, by omega⟩, fun j a b => ?_⟩, by omega⟩)) (fun hc => Ok.ret ⟨⟨i0, i1⟩, hi, hc⟩))))
    by_cases e : j = i
    · subst e; exact hc.2
    · exact hi j a (by omega)
  · rintro i ⟨⟨i0, i1⟩, hi, hd⟩
    refine Ok.bind (R := fun m => m = l.take i.toNat ++ [p]) (Ok.gd ⟨i0, i1⟩ ?_) fun m hm => ?_
    · rw [copyP_p (by rw [List.length_take]; omega), bsome]
      exact Ok.gd (by rw [List.length_take]; omega) (Ok.ret rfl)
    · subst hm
      refine Ok.gd ⟨i0, i1⟩ (Ok.gd (by simp only [List.length_append, List.length_take, List.length_drop, List.length_cons, List.length_nil]; omega) (Ok.ret ⟨?_, ?_, fun q => ?_⟩))
      · have hs2 : (l.take i.toNat ++ l.drop i.toNat).Pairwise PrLt := by rw [List.take_append_drop]; exact hs
        obtain ⟨s1, s2, s3⟩ := List.pairwise_append.1 hs2
        have hlow : ∀ q ∈ l.take i.toNat, PrLt q p := fun q hq => by
          obtain ⟨j, hj, e⟩ := List.getElem_of_mem hq
          rw [List.length_take] at hj
          have := hi (j : Int) (by omega) (by omega)
          rw [gi_nat] at this
          rw [List.getElem_take] at e
          rw [← e]
          simpa [List.getD, List.getElem?_eq_getElem (show j < l.length by omega)] using this
        have hup : ∀ q ∈ l.drop i.toNat, PrLt p q := fun q hq => by
          have hlt : i < l.length := by
            apply Classical.byContradiction; intro e
            rw [List.drop_of_length_le (by omega)] at hq; cases hq
          have hne := hn _ (gi_mem (xs := l) ⟨i0, hlt⟩)
          have hnl : ¬ PrLt (gi l i) p := fun k => hd ⟨hlt, k⟩
          have hpi : PrLt p (gi l i) := by unfold PrLt at *; omega
          have hcons : l.drop i.toNat = gi l i :: l.drop (i.toNat + 1) := by
            rw [List.drop_eq_getElem_cons (by omega)]
            congr 1
            simp only [gi, List.getD, List.getElem?_eq_getElem (show i.toNat < l.length by omega)]; rfl
          rw [hcons] at hq s2
          rcases List.mem_cons.1 hq with rfl | hq
          · exact hpi
          · have := (List.pairwise_cons.1 s2).1 q hq
            unfold PrLt at *; omega
        rw [List.append_assoc]
        refine List.pairwise_append.2 ⟨s1, List.pairwise_cons.2 ⟨hup, s2⟩, fun a ha b hb => ?_⟩
        rcases List.mem_cons.1 hb with rfl | hb
        · exact hlow a ha
        · exact s3 a ha b hb
      · simp only [List.length_append, List.length_take, List.length_drop, List.length_cons, List.length_nil]; omega
      · rw [List.append_assoc, List.mem_append, List.singleton_append, List.mem_cons]
        have : q ∈ l ↔ q ∈ l.take i.toNat ∨ q ∈ l.drop i.toNat := by rw [← List.mem_append, List.take_append_drop]
        rw [this]
        constructor
        · rintro (h | h | h)
          · exact .inr (.inl h)
          · exact .inl h
          · exact .inr (.inr h)
        · rintro (h | h | h)
          · exact .inr (.inl h)
          · exact .inl h
          · exact .inr (.inr h)
end Go.Proofs.YthdbofgcckjopaaGreat
set_option linter.unusedVariables false
set_option linter.unusedSimpArgs false
namespace Go.Proofs.YthdbofgcckjopaaGreat
open Go.Vg Sp
/-- The directions that lie behind. -/
def DirB (k : Int) (d : Bool) : Prop := (if d = true then 2 else 1) ≤ k
/-- Of direction k the tiles ahead of t too. -/
def Till (W k t : Int) (d : Bool) (c v : Int) : Prop := DirB k d ∨ (d = decide (k = 1) ∧ posD W d c v < t)
/-- A run from v on, so far. -/
structure Part1 (W H : Int) (fr : List Bool) (d : Bool) (c v n : Int) : Prop where
  n1 : 1 ≤ n
  lim : v + n ≤ limD W H d
  blk : (v + n - 1) / 8 = v / 8
  q : ∀ j, v ≤ j → j < v + n → QD W fr d c j
theorem posD_ge {W H : Int} {d : Bool} {c v n : Int} (hW : 1 ≤ W) (hc : 0 ≤ c ∧ c < sidD W H d) (hv : 0 ≤ v) (hn : v + n = limD W H d) :
    W * H ≤ posD W d c (v + n) ∨ (d = true ∧ ¬ posD W d c (v + n) / W = c) := by
  cases d with
  | true =>
    refine .inr ⟨rfl, ?_⟩
    have hn : v + n = W := hn
    rw [hn]
    show ¬ (W + W * c) / W = c
    have : W + W * c = 0 + W * (c + 1) := by rw [Int.mul_add]; omega
    have hd := dm (w := W) (i := 0) (j := c + 1) (by omega) (by omega)
    rw [this, hd.2.1]; omega
  | false =>
    have hn : v + n = H := hn
    rw [hn]
    have hc : 0 ≤ c := hc.1
    exact .inl (by show W * H ≤ c + W * H; omega)
theorem count_step {W H : Int} {fr : List Bool} {d : Bool} {c v n : Int} (hW : 1 ≤ W) (hc : 0 ≤ c ∧ c < sidD W H d) (hv : 0 ≤ v ∧ v < limD W H d) (h : Part1 W H fr d c v n) :
    (W * H ≤ posD W d c (v + n) ∨ (d = true ∧ ¬ posD W d c (v + n) / W = posD W d c v / W)) ↔ v + n = limD W H d := by
  have hn := h.n1; have hl := h.lim
  have hcv : d = true → posD W d c v / W = c := fun e => by have := (posD_dm hc hv).2; rw [if_pos e] at this; exact this.1
  constructor
  · intro k
    apply Classical.byContradiction; intro hne
    have hin : 0 ≤ v + n ∧ v + n < limD W H d := by omega
    have h1 := posD_lt hW hc hin
    rcases k with k | ⟨k1, k2⟩
    · omega
    · have := (posD_dm hc hin).2
      rw [if_pos k1] at this
      exact k2 (this.1.trans (hcv k1).symm)
  · intro k
    rcases posD_ge hW hc hv.1 k with e | ⟨e1, e2⟩
    · exact .inl e
    · exact .inr ⟨e1, by rw [hcv e1]; exact e2⟩
theorem stp_eq {W k : Int} : (if k = 1 then (1 : Int) else W) = stpD W (decide (k = 1)) := by
  unfold stpD
  by_cases h : k = 1
  · rw [if_pos h, if_pos (by simp [h])]
  · rw [if_neg h, if_neg (by simp [h])]
theorem refFind_p {W H : Int} {fr : List Bool} (hm : May W H) (hf : (fr.length : Int) = W * H) : Ok (throngref10_Find W H fr) (PortalsOk W H fr) := by
  have hm2 := hm
  unfold May at hm2
  have hbd := may_bd hm
  have hW := hm2.1.1
  unfold throngref10_Find
  refine Ok.bind (Ok.loop (fun z : List Prt × Int => (0 ≤ z.2 ∧ z.2 ≤ 2) ∧ (z.1.length : Int) ≤ 20000 * z.2 ∧ StrP z.1 ∧ ∀ p, p ∈ z.1 ↔ ∃ d c v n, RunD W H fr d c v n ∧ DirB z.2 d ∧ p = prtD W d c v n) (fun z => (2 - z.2).toNat)
    ⟨⟨by decide, by decide⟩, by decide, List.Pairwise.nil, fun p => ⟨fun h => (by cases h), fun ⟨d, c, v, n, hr, hs, _⟩ => ?_⟩⟩ (by unfold FUEL; dsimp only; omega) ?_) (fun l hl => Ok.ret hl)
  · exfalso
    unfold DirB at hs
    cases d <;> simp at hs
  rintro ⟨l, k⟩ ⟨⟨k0, k1⟩, hl, hstr, hmem⟩
  dsimp only at k0 k1 hl hstr hmem ⊢
  refine Ok.ite (fun hk => ?_) (fun hk => Ok.ret ⟨hstr, fun p => ?_⟩)
  · obtain ⟨d, hd⟩ : ∃ d, d = decide (k = 1) := ⟨_, rfl⟩
    have hdk : d = true ↔ k = 1 := by rw [hd, decide_eq_true_iff]
    have hst : 1 ≤ stpD W d ∧ stpD W d ≤ 128 := by cases d <;> simp [stpD] <;> omega
    refine Ok.bind (R := fun s : Int => s = stpD W d) (by rw [hd, ← stp_eq]; exact Ok.ite (fun e => Ok.ret (by rw [if_pos e])) (fun e => Ok.ret (by rw [if_neg e]))) fun s hs => ?_
    subst hs
    refine Ok.bind (R := fun l : List Prt => (l.length : Int) ≤ 20000 * (k + 1) ∧ StrP l ∧ ∀ p, p ∈ l ↔ ∃ d c v n, RunD W H fr d c v n ∧ DirB (k + 1) d ∧ p = prtD W d c v n)
      (Ok.loop (fun z : Int × List Prt => (0 ≤ z.1 ∧ z.1 ≤ W * H) ∧ (z.2.length : Int) ≤ 20000 * k + z.1 ∧ StrP z.2 ∧ ∀ p, p ∈ z.2 ↔ ∃ d c v n, RunD W H fr d c v n ∧ Till W k z.1 d c v ∧ p = prtD W d c v n) (fun z => (W * H - z.1).toNat)
        ⟨⟨by show (0 : Int) ≤ 0; omega, by show (0 : Int) ≤ _; omega⟩, by show (l.length : Int) ≤ 20000 * k + 0; omega, hstr, fun p => (hmem p).trans ⟨fun ⟨d, c, v, n, hr, hs, e⟩ => ⟨d, c, v, n, hr, .inl hs, e⟩, fun ⟨d, c, v, n, hr, hs, e⟩ => ⟨d, c, v, n, hr, hs.elim id fun q => ?_, e⟩⟩⟩ (by unfold FUEL; dsimp only; omega) ?_) (fun l2 h2 => Ok.gd (by unfold I64; omega) (Ok.ret ⟨⟨⟨by show 0 ≤ k + 1; omega, by show k + 1 ≤ 2; omega⟩, h2⟩, by show (2 - (k + 1)).toNat < (2 - k).toNat; omega⟩))
    · exfalso
      have h1 := (posD_dm hr.side.1 (hr.side.2 v (by omega) (by have := hr.n1; omega))).1
      have := q.2; dsimp only at this; omega
    rintro ⟨t, l⟩ ⟨⟨t0, t1⟩, hl, hstr, hmem⟩
    dsimp only at t0 t1 hl hstr hmem ⊢
    refine Ok.gd (by unfold I64; omega) (Ok.ite (fun ht => ?_) (fun ht => Ok.ret ⟨by omega, hstr, fun p => (hmem p).trans ⟨fun ⟨d', c, v, n, hr, hs, e⟩ => ⟨d', c, v, n, hr, ?_, e⟩, fun ⟨d', c, v, n, hr, hs, e⟩ => ⟨d', c, v, n, hr, ?_, e⟩⟩⟩))
    · obtain ⟨c, v, htp, hc, hv, hcv⟩ := posD_of hW ⟨t0, ht⟩ d
      subst htp
      rw [← hd]
      obtain ⟨⟨u, ok⟩, ep, hok, hu⟩ := pair_p (fr := fr) hm hf hc hv
      dsimp only at hok hu
      -- what one tile adds
      refine Ok.bind (R := fun l2 : List Prt => (l2.length : Int) ≤ l.length + 1 ∧ StrP l2 ∧ ∀ p, p ∈ l2 ↔ p ∈ l ∨ ∃ n, RunD W H fr d c v n ∧ p = prtD W d c v n) ?_ ?_
      · rw [ep, bsome]
        have hskip : (∀ n, ¬ RunD W H fr d c v n) → Ok (some l) (fun l2 : List Prt => (l2.length : Int) ≤ l.length + 1 ∧ StrP l2 ∧ ∀ p, p ∈ l2 ↔ p ∈ l ∨ ∃ n, RunD W H fr d c v n ∧ p = prtD W d c v n) := fun hno =>
          Ok.ret ⟨by omega, hstr, fun p => ⟨.inl, fun h => h.elim id fun ⟨n, hr, _⟩ => absurd hr (hno n)⟩⟩
        refine Ok.ite (fun hc1 => hskip fun n hr => ?_) (fun hc1 => ?_)
        · have : ok = true := hok.2 ⟨hr.ok, hr.q v (by omega) (by have := hr.n1; omega)⟩
          rw [this] at hc1; cases hc1
        have hokt : ok = true := by cases ok <;> simp_all
        obtain ⟨hOk, hQ⟩ := hok.1 hokt
        have hcs : c + 1 < sidD W H d := hOk.2.2
        have hu := hu hcs
        subst hu
        refine Ok.gd (by unfold I64; omega) (Ok.gd (fun _ _ => by omega) ?_)
        have hcond : (0 ≤ posD W d c v - stpD W d ∧ ((¬ k = 1) ∨ 0 < posD W d c v % W)) ↔ 1 ≤ v := by
          rw [← hdk]
          cases d with
          | true =>
            rw [if_pos rfl] at hcv
            rw [hcv.2]
            show (0 ≤ v + W * c - 1 ∧ _) ↔ _
            have hc : 0 ≤ c ∧ c < H := hc
            have := mul_bd (a := W) (b := c) (A := 128) (B := 128) (by omega) (by omega)
            simp; omega
          | false =>
            show (0 ≤ c + W * v - W ∧ _) ↔ _
            have hc : 0 ≤ c ∧ c < W := hc
            constructor
            · rintro ⟨h1, _⟩
              apply Classical.byContradiction; intro hne
              have : v = 0 := by omega
              subst this
              rw [Int.mul_zero] at h1; omega
            · intro h1
              have := Int.mul_le_mul_of_nonneg_left h1 (show 0 ≤ W by omega)
              exact ⟨by omega, .inl (by simp)⟩
        -- where a run begins
        have hbeg : ∀ n, RunD W H fr d c v n ↔ (v % 8 = 0 ∨ ¬ QD W fr d c (v - 1)) ∧ RunD W H fr d c v n := fun n => ⟨fun h => ⟨h.lo, h⟩, fun h => h.2⟩
        refine Ok.bind (R := fun x : Ex Unit (List Prt) => match x with | .up r => r = l ∧ ∀ n, ¬ RunD W H fr d c v n | .go _ => v % 8 = 0 ∨ ¬ QD W fr d c (v - 1)) ?_ ?_
        · refine Ok.ite (fun hcd => ?_) (fun hcd => Ok.ret (.inl ?_))
          · have hv1 := hcond.1 hcd
            have e1 : posD W d c v - stpD W d = posD W d c (v - 1) := by
              have := posD_step (W := W) (d := d) (c := c) (v := v - 1) 1
              rw [show v - 1 + 1 = v by omega, Int.mul_one] at this; omega
            have hv2 : 0 ≤ v - 1 ∧ v - 1 < limD W H d := by omega
            rw [e1]
            obtain ⟨⟨x1, x2⟩, ex, hx, hx1⟩ := pair_p (fr := fr) hm hf hc hv2
            have hx1 := hx1 hcs
            dsimp only at hx hx1
            subst hx1
            have hd1 := posD_dm hc hv2; have hd2 := posD_dm hc hv
            have hl1 := posD_lt hW hc hv2; have hl2 := posD_lt hW hc hv
            have hc2 : 0 ≤ c + 1 ∧ c + 1 < sidD W H d := by omega
            have hd3 := posD_dm hc2 hv2; have hd4 := posD_dm hc2 hv
            have hl3 := posD_lt hW hc2 hv2; have hl4 := posD_lt hW hc2 hv
            refine Ok.gd (by unfold I64; omega) ?_
            rw [ex, bsome]
            refine Ok.bind (R := fun b : Bool => b = true ↔ QD W fr d c (v - 1) ∧ (v - 1) / 8 = v / 8) ?_ fun b hb => ?_
            · refine Ok.ite (fun h2 => Ok.gd (by unfold I64; omega) ?_) (fun h2 => Ok.ret ⟨fun e => (by cases e), fun q => absurd (hx.2 ⟨hOk, q.1⟩) h2⟩)
              rw [ofR_p hm2.1 (by omega), bsome, ofR_p hm2.1 (by omega), bsome, sec_at hc hv2, sec_at hc hv]
              refine Ok.ret ?_
              rw [decide_eq_true_iff, sec_v hW]
              exact ⟨fun q => ⟨(hx.1 h2).2, q⟩, fun q => q.2⟩
            · refine Ok.bind (R := fun b : Bool => b = true ↔ QD W fr d c (v - 1) ∧ (v - 1) / 8 = v / 8) ?_ fun b2 hb2 => ?_
              · refine Ok.ite (fun h2 => ?_) (fun h2 => Ok.ret ⟨fun e => (by cases e), fun q => absurd (hb.2 q) h2⟩)
                rw [ofR_p hm2.1 (by dsimp only; omega), bsome, ofR_p hm2.1 (by dsimp only; omega), bsome, sec_at hc2 hv2, sec_at hc2 hv]
                refine Ok.ret ?_
                rw [decide_eq_true_iff, sec_v hW]
                exact ⟨fun q => ⟨(hb.1 h2).1, q⟩, fun q => q.2⟩
              · refine Ok.ite (fun h2 => Ok.ret ⟨rfl, fun n hr => ?_⟩) (fun h2 => Ok.ret ?_)
                · obtain ⟨q1, q2⟩ := hb2.1 h2
                  rcases hr.lo with e | e
                  · omega
                  · exact e q1
                · by_cases e : v % 8 = 0
                  · exact .inl e
                  · exact .inr fun q => h2 (hb2.2 ⟨q, by omega⟩)
          · have : ¬ 1 ≤ v := fun q => hcd (hcond.2 q)
            omega
        · rintro (⟨⟩ | r) hx
          rotate_left
          · obtain ⟨rfl, hno⟩ := hx
            dsimp only [Ex.then]
            exact hskip hno
          dsimp only [Ex.then]
          have hlim8 : limD W H d ≤ 128 := by cases d <;> simp [limD] <;> omega
          refine Ok.bind (R := fun n : Int => RunD W H fr d c v n) (Ok.loop (fun n : Int => Part1 W H fr d c v n) (fun n => (200 - n).toNat) ⟨by omega, by omega, by rw [show v + 1 - 1 = v by omega], fun j a b => by rw [show j = v by omega]; exact hQ⟩ (by unfold FUEL; omega) ?_) ?_
          · intro n hn
            have n1 := hn.n1; have n2 := hn.lim; have n3 := hn.blk
            have m1 := mul_bd (a := n) (b := stpD W d) (A := 128) (B := 128) (by omega) (by omega)
            have e1 : posD W d c v + n * stpD W d = posD W d c (v + n) := by rw [posD_step, Int.mul_comm]
            have hcs2 := count_step hW hc hv hn
            rw [hdk] at hcs2
            have hd2 := posD_dm hc hv
            refine Ok.gd (by unfold I64; omega) (Ok.gd (by unfold I64; omega) (Ok.gd (by unfold I64; omega) (Ok.gd (fun _ _ => by omega) (Ok.gd (fun _ _ => by have := posD_lt hW hc hv; omega) ?_))))
            rw [e1]
            refine Ok.ite (fun h2 => Ok.ret ⟨hOk, n1, hv.1, n2, n3, hn.q, hx, .inr (.inl (hcs2.1 h2))⟩) (fun h2 => ?_)
            have hv3 : 0 ≤ v + n ∧ v + n < limD W H d := by
              have : ¬ v + n = limD W H d := fun q => h2 (hcs2.2 q)
              omega
            obtain ⟨⟨x1, x2⟩, ex, hx2, hx1⟩ := pair_p (fr := fr) hm hf hc hv3
            have hx1 := hx1 hcs
            dsimp only at hx2 hx1
            subst hx1
            have hc2 : 0 ≤ c + 1 ∧ c + 1 < sidD W H d := by omega
            have hd1 := posD_dm hc hv3; have hd3 := posD_dm hc2 hv3; have hd4 := posD_dm hc2 hv
            have hl1 := posD_lt hW hc hv3; have hl2 := posD_lt hW hc hv; have hl3 := posD_lt hW hc2 hv3; have hl4 := posD_lt hW hc2 hv
            rw [ex, bsome]
            refine Ok.bind (R := fun b : Bool => b = true ↔ ¬ (QD W fr d c (v + n) ∧ (v + n) / 8 = v / 8)) ?_ fun b hb => ?_
            · refine Ok.ite (fun h3 => Ok.ret ⟨fun _ q => ?_, fun _ => rfl⟩) (fun h3 => ?_)
              · have := hx2.2 ⟨hOk, q.1⟩
                rw [this] at h3; cases h3
              · have h4 : x2 = true := by cases x2 <;> simp_all
                rw [ofR_p hm2.1 (by omega), bsome, ofR_p hm2.1 (by omega), bsome, sec_at hc hv3, sec_at hc hv]
                refine Ok.ret ?_
                rw [decide_eq_true_iff, sec_v hW]
                exact ⟨fun q r => q r.2, fun q r => q ⟨(hx2.1 h4).2, r⟩⟩
            · refine Ok.bind (R := fun b : Bool => b = true ↔ ¬ (QD W fr d c (v + n) ∧ (v + n) / 8 = v / 8)) ?_ fun b2 hb2 => ?_
              · refine Ok.ite (fun h3 => Ok.ret ⟨fun _ => hb.1 h3, fun _ => rfl⟩) (fun h3 => ?_)
                rw [ofR_p hm2.1 (by omega), bsome, ofR_p hm2.1 (by omega), bsome, sec_at hc2 hv3, sec_at hc2 hv]
                refine Ok.ret ?_
                rw [decide_eq_true_iff, sec_v hW]
                have h4 : QD W fr d c (v + n) ∧ (v + n) / 8 = v / 8 := Classical.byContradiction fun q => h3 (hb.2 q)
                exact ⟨fun q => absurd h4.2 q, fun q => absurd h4 q⟩
              · refine Ok.ite (fun h3 => Ok.ret ⟨hOk, n1, hv.1, n2, n3, hn.q, hx, ?_⟩) (fun h3 => ?_)
                · have h4 := hb2.1 h3
                  by_cases e : (v + n) % 8 = 0
                  · exact .inl e
                  · exact .inr (.inr fun q => h4 ⟨q, by omega⟩)
                · have h4 : QD W fr d c (v + n) ∧ (v + n) / 8 = v / 8 := Classical.byContradiction fun q => h3 (hb2.2 q)
                  refine Ok.gd (by unfold I64; omega) (Ok.ret ⟨⟨by omega, by omega, by rw [show v + (n + 1) - 1 = v + n by omega]; exact h4.2, fun j a b => ?_⟩, by omega⟩)
                  by_cases e : j = v + n
                  · rw [e]; exact h4.1
                  · exact hn.q j a (by omega)
          · intro n hr
            have n1 := hr.n1; have n2 := hr.lim
            have m1 := mul_bd (a := (n - 1) / 2) (b := stpD W d) (A := 128) (B := 128) (by omega) (by omega)
            have hc2 : 0 ≤ c + 1 ∧ c + 1 < sidD W H d := by omega
            have hd2 := posD_dm hc hv; have hd4 := posD_dm hc2 hv
            have hl2 := posD_lt hW hc hv; have hl4 := posD_lt hW hc2 hv
            refine Ok.gd (by unfold I64; omega) (Ok.gd (by omega) (Ok.gd (by unfold I64; omega) (Ok.gd (by unfold I64; omega) (Ok.gd (by unfold I64; omega) ?_))))
            have e1 : (⟨posD W d c v + (n - 1) / 2 * stpD W d, posD W d (c + 1) v + (n - 1) / 2 * stpD W d, n⟩ : Prt) = prtD W d c v n := by
              unfold prtD
              rw [posD_over, posD_step, posD_step, Int.mul_comm]
            rw [e1]
            have hnew : ∀ q ∈ l, ¬ (q.a = (prtD W d c v n).a ∧ q.b = (prtD W d c v n).b) := fun q hq he => by
              obtain ⟨d', c', v', n', hr', hs', rfl⟩ := (hmem q).1 hq
              obtain ⟨rfl, rfl, rfl, rfl⟩ := hr'.uniq hr he.1 he.2
              rcases hs' with hs' | ⟨_, hs'⟩
              · unfold DirB at hs'
                by_cases e : d' = true
                · rw [if_pos e] at hs'; have := hdk.1 e; omega
                · rw [if_neg e] at hs'
                  have : ¬ k = 1 := fun q => e (hdk.2 q)
                  omega
              · omega
            refine Ok.bind (with_p (by omega) hstr hnew) fun m hm3 => Ok.ret ⟨by omega, hm3.1, fun p => ?_⟩
            rw [hm3.2.2 p]
            constructor
            · rintro (h | h)
              · exact .inr ⟨n, hr, h⟩
              · exact .inl h
            · rintro (h | ⟨n', hr', h⟩)
              · exact .inr h
              · obtain ⟨_, rfl⟩ := hr'.at hr (m := v) (by have := hr'.n1; omega) (by omega)
                exact .inl h
      · rintro l2 ⟨hl2, hs2, hm3⟩
        refine Ok.gd (by unfold I64; omega) (Ok.ret ⟨⟨⟨by show 0 ≤ posD W d c v + 1; omega, by show posD W d c v + 1 ≤ _; omega⟩, by show (l2.length : Int) ≤ 20000 * k + (posD W d c v + 1); omega, hs2, fun p => ?_⟩, by show (W * H - (posD W d c v + 1)).toNat < (W * H - posD W d c v).toNat; omega⟩)
        rw [hm3 p, hmem p]
        constructor
        · rintro (⟨d', c', v', n', hr, hs, e⟩ | ⟨n, hr, e⟩)
          · exact ⟨d', c', v', n', hr, hs.elim .inl fun q => .inr ⟨q.1, by have := q.2; omega⟩, e⟩
          · exact ⟨d, c, v, n, hr, .inr ⟨hd, by show posD W d c v < posD W d c v + 1; omega⟩, e⟩
        · rintro ⟨d', c', v', n', hr, hs | ⟨h1, h2⟩, e⟩
          · exact .inl ⟨d', c', v', n', hr, .inl hs, e⟩
          · have h1 : d' = d := h1.trans hd.symm
            subst h1
            by_cases e2 : posD W d' c' v' = posD W d' c v
            · obtain ⟨rfl, rfl⟩ := posD_inj (H := H) hr.side.1 hc (hr.side.2 v' (by omega) (by have := hr.n1; omega)) hv e2
              exact .inr ⟨n', hr, e⟩
            · exact .inl ⟨d', c', v', n', hr, .inr ⟨hd, by omega⟩, e⟩
    · -- the whole direction
      rcases hs with hs | ⟨hs, _⟩
      · unfold DirB at hs ⊢; omega
      · unfold DirB
        by_cases e : k = 1
        · have : d' = true := by rw [hs]; simp [e]
          rw [if_pos this]; omega
        · have : ¬ d' = true := by rw [hs]; simp [e]
          rw [if_neg this]; omega
    · unfold DirB at hs
      by_cases e : d' = true
      · rw [if_pos e] at hs
        have hk1 : k = 1 := by omega
        refine .inr ⟨by rw [e]; simp [hk1], ?_⟩
        have := posD_lt hW hr.side.1 (hr.side.2 v (by omega) (by have := hr.n1; omega)); omega
      · rw [if_neg e] at hs
        by_cases hk1 : k = 1
        · exact .inl (by unfold DirB; rw [if_neg e]; omega)
        · refine .inr ⟨by rw [Bool.eq_false_iff.2 e]; simp [hk1], ?_⟩
          have := posD_lt hW hr.side.1 (hr.side.2 v (by omega) (by have := hr.n1; omega)); omega
  · rw [hmem p]
    constructor
    · rintro ⟨d, c, v, n, hr, _, e⟩; exact ⟨d, c, v, n, hr, e⟩
    · rintro ⟨d, c, v, n, hr, e⟩; exact ⟨d, c, v, n, hr, by unfold DirB; split <;> omega, e⟩
end Go.Proofs.YthdbofgcckjopaaGreat
set_option linter.unusedVariables false
set_option linter.unusedSimpArgs false
namespace Go.Proofs.YthdbofgcckjopaaGreat
open Go.Vg Sp
theorem find_p {W H : Int} {fr : List Bool} (hm : May W H) (hf : (fr.length : Int) = W * H) : ∃ l, portal_Find W H fr = some (l, 0) ∧ throngref10_Find W H fr = some l ∧ PortalsOk W H fr l ∧ l.length ≤ 5000 := by
  have hb := may_bd hm
  obtain ⟨l, hl, hok, hlen⟩ := all_p hm hf
  obtain ⟨m, hm2, hmok⟩ := refFind_p hm hf
  have e := hmok.uniq hok
  subst e
  refine ⟨m, ?_, hm2, hok, hlen⟩
  unfold portal_Find
  rw [may_p, bsome, if_pos (fun _ => by unfold I64; omega), if_neg (by rintro (e | e); simp [hm] at e; exact e hf), hl, bsome]
end Go.Proofs.YthdbofgcckjopaaGreat
set_option linter.unusedVariables false
set_option linter.unusedSimpArgs false
namespace Go.Proofs.YthdbofgcckjopaaGreat
open Go.Vg Sp
/-- A pair's place. -/
def PairD (W H : Int) (fr : List Bool) (d : Bool) (c v : Int) : Prop := OkB W H d c ∧ (0 ≤ v ∧ v < limD W H d) ∧ QD W fr d c v
theorem left_ex {Q : Int → Prop} {v : Int} (hv : 0 ≤ v) (hq : Q v) : ∃ s, 0 ≤ s ∧ s ≤ v ∧ s / 8 = v / 8 ∧ (∀ j, s ≤ j → j ≤ v → Q j) ∧ (s % 8 = 0 ∨ ¬ Q (s - 1)) := by
  obtain ⟨n, hn⟩ : ∃ n : Nat, (n : Int) = v % 8 := ⟨(v % 8).toNat, by omega⟩
  induction n generalizing v with
  | zero => exact ⟨v, hv, by omega, rfl, fun j a b => by rw [show j = v by omega]; exact hq, .inl (by omega)⟩
  | succ n ih =>
    by_cases h : Q (v - 1)
    · obtain ⟨s, h1, h2, h3, h4, h5⟩ := ih (v := v - 1) (by omega) h (by omega)
      refine ⟨s, h1, by omega, by omega, fun j a b => ?_, h5⟩
      by_cases e : j = v
      · rw [e]; exact hq
      · exact h4 j a (by omega)
    · exact ⟨v, hv, by omega, rfl, fun j a b => by rw [show j = v by omega]; exact hq, .inr h⟩
theorem right_ex {Q : Int → Prop} {v L : Int} (hv : 0 ≤ v ∧ v < L) (hq : Q v) : ∃ e, v < e ∧ e ≤ L ∧ (e - 1) / 8 = v / 8 ∧ (∀ j, v ≤ j → j < e → Q j) ∧ (e % 8 = 0 ∨ e = L ∨ ¬ Q e) := by
  obtain ⟨n, hn⟩ : ∃ n : Nat, (n : Int) = 7 - v % 8 := ⟨(7 - v % 8).toNat, by omega⟩
  induction n generalizing v with
  | zero => exact ⟨v + 1, by omega, by omega, by omega, fun j a b => by rw [show j = v by omega]; exact hq, .inl (by omega)⟩
  | succ n ih =>
    by_cases hl : v + 1 = L
    · exact ⟨v + 1, by omega, by omega, by omega, fun j a b => by rw [show j = v by omega]; exact hq, .inr (.inl hl)⟩
    by_cases h : Q (v + 1)
    · obtain ⟨e, h1, h2, h3, h4, h5⟩ := ih (v := v + 1) (by omega) h (by omega)
      refine ⟨e, by omega, h2, by omega, fun j a b => ?_, h5⟩
      by_cases e2 : j = v
      · rw [e2]; exact hq
      · exact h4 j (by omega) b
    · exact ⟨v + 1, by omega, by omega, by omega, fun j a b => by rw [show j = v by omega]; exact hq, .inr (.inr h)⟩
/-- Each pair lies in a run. -/
theorem run_ex {W H : Int} {fr : List Bool} {d : Bool} {c v : Int} (h : PairD W H fr d c v) : ∃ s n, RunD W H fr d c s n ∧ s ≤ v ∧ v < s + n := by
  obtain ⟨ho, hv, hq⟩ := h
  obtain ⟨s, a1, a2, a3, a4, a5⟩ := left_ex (Q := QD W fr d c) hv.1 hq
  obtain ⟨e, b1, b2, b3, b4, b5⟩ := right_ex (Q := QD W fr d c) hv hq
  refine ⟨s, e - s, ⟨ho, by omega, a1, by omega, by rw [show s + (e - s) - 1 = e - 1 by omega]; omega, fun j x y => ?_, a5, by rw [show s + (e - s) = e by omega]; exact b5⟩, a2, by omega⟩
  by_cases hj : j ≤ v
  · exact a4 j x hj
  · exact b4 j (by omega) (by omega)
/-! ### apart -/
end Go.Proofs.YthdbofgcckjopaaGreat
