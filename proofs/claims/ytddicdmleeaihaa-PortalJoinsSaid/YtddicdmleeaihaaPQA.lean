/-
  Portals, plainly: runs of pairs along borders, and that a list of them is one alone. No program in sight; the conditions stand in each lemma.
-/
import Derived.Test.YtddicdmleeaihaaPQS
import Derived.Test.YtddicdmleeaihaaST
set_option linter.unusedVariables false
set_option linter.unusedSimpArgs false
namespace Go.Proofs.Ytddicdmleeaihaa
open Go.Vg Sp
/-- A tile by its border's direction, the border, and the place along it. -/
def posD (W : Int) (d : Bool) (c v : Int) : Int := if d = true then v + W * c else c + W * v
def ovrD (W : Int) (d : Bool) : Int := if d = true then W else 1
def stpD (W : Int) (d : Bool) : Int := if d = true then 1 else W
def limD (W H : Int) (d : Bool) : Int := if d = true then W else H
def sidD (W H : Int) (d : Bool) : Int := if d = true then H else W
def OkB (W H : Int) (d : Bool) (c : Int) : Prop := 0 ≤ c ∧ c % 8 = 7 ∧ c + 1 < sidD W H d
def QD (W : Int) (fr : List Bool) (d : Bool) (c v : Int) : Prop := gi fr (posD W d c v) = true ∧ gi fr (posD W d c v + ovrD W d) = true
structure RunD (W H : Int) (fr : List Bool) (d : Bool) (c v n : Int) : Prop where
  ok : OkB W H d c
  n1 : 1 ≤ n
  v0 : 0 ≤ v
  lim : v + n ≤ limD W H d
  blk : (v + n - 1) / 8 = v / 8
  q : ∀ j, v ≤ j → j < v + n → QD W fr d c j
  lo : v % 8 = 0 ∨ ¬ QD W fr d c (v - 1)
  hi : (v + n) % 8 = 0 ∨ v + n = limD W H d ∨ ¬ QD W fr d c (v + n)
def prtD (W : Int) (d : Bool) (c v n : Int) : Prt := ⟨posD W d c (v + (n - 1) / 2), posD W d c (v + (n - 1) / 2) + ovrD W d, n⟩
def IsP (W H : Int) (fr : List Bool) (p : Prt) : Prop := ∃ d c v n, RunD W H fr d c v n ∧ p = prtD W d c v n
theorem posD_inj {W H : Int} {d : Bool} {c c' v v' : Int} (hc : 0 ≤ c ∧ c < sidD W H d) (hc' : 0 ≤ c' ∧ c' < sidD W H d) (hv : 0 ≤ v ∧ v < limD W H d) (hv' : 0 ≤ v' ∧ v' < limD W H d) (h : posD W d c v = posD W d c' v') : c = c' ∧ v = v' := by
  cases d with
  | true =>
    have h : v + W * c = v' + W * c' := h
    have a := dm (w := W) (i := v) (j := c) hv hc.1
    have b := dm (w := W) (i := v') (j := c') hv' hc'.1
    rw [h] at a
    exact ⟨a.2.1.symm.trans b.2.1, a.1.symm.trans b.1⟩
  | false =>
    have h : c + W * v = c' + W * v' := h
    have a := dm (w := W) (i := c) (j := v) hc hv.1
    have b := dm (w := W) (i := c') (j := v') hc' hv'.1
    rw [h] at a
    exact ⟨a.1.symm.trans b.1, a.2.1.symm.trans b.2.1⟩
theorem RunD.at {W H : Int} {fr : List Bool} {d : Bool} {c v n v' n' m : Int} (h : RunD W H fr d c v n) (k : RunD W H fr d c v' n') (hm : v ≤ m ∧ m < v + n) (hm' : v' ≤ m ∧ m < v' + n') : v = v' ∧ n = n' := by
  have hn := h.n1; have kn := k.n1; have hb := h.blk; have kb := k.blk; have hl := h.lim; have kl := k.lim
  have hv : v = v' := by
    apply Classical.byContradiction
    intro hne
    by_cases hlt : v < v'
    · rcases k.lo with e | e
      · omega
      · exact e (h.q _ (by omega) (by omega))
    · rcases h.lo with e | e
      · omega
      · exact e (k.q _ (by omega) (by omega))
  subst hv
  refine ⟨rfl, ?_⟩
  apply Classical.byContradiction
  intro hne
  by_cases hlt : n < n'
  · rcases h.hi with e | e | e
    · omega
    · omega
    · exact e (k.q _ (by omega) (by omega))
  · rcases k.hi with e | e | e
    · omega
    · omega
    · exact e (h.q _ (by omega) (by omega))
theorem RunD.side {W H : Int} {fr : List Bool} {d : Bool} {c v n : Int} (h : RunD W H fr d c v n) : (0 ≤ c ∧ c < sidD W H d) ∧ ∀ j, v ≤ j → j < v + n → 0 ≤ j ∧ j < limD W H d := by
  have := h.ok; have := h.lim; have := h.v0
  unfold OkB at *
  exact ⟨by omega, fun j a b => by omega⟩
theorem RunD.uniq {W H : Int} {fr : List Bool} {d d' : Bool} {c c' v v' n n' : Int} (h : RunD W H fr d c v n) (k : RunD W H fr d' c' v' n') (e1 : (prtD W d c v n).a = (prtD W d' c' v' n').a) (e2 : (prtD W d c v n).b = (prtD W d' c' v' n').b) : d = d' ∧ c = c' ∧ v = v' ∧ n = n' := by
  have hd : d = d' := by
    have : ovrD W d = ovrD W d' := by
      have a1 : (prtD W d c v n).b = (prtD W d c v n).a + ovrD W d := rfl
      have a2 : (prtD W d' c' v' n').b = (prtD W d' c' v' n').a + ovrD W d' := rfl
      omega
    have ho := h.ok; have ko := k.ok
    cases d with
    | true =>
      cases d' with
      | true => rfl
      | false =>
        have e : W = 1 := this
        have : 0 ≤ c' ∧ c' % 8 = 7 ∧ c' + 1 < W := ko
        omega
    | false =>
      cases d' with
      | false => rfl
      | true =>
        have e : 1 = W := this
        have : 0 ≤ c ∧ c % 8 = 7 ∧ c + 1 < W := ho
        omega
  subst hd
  have hn := h.n1; have kn := k.n1
  obtain ⟨hc, hv⟩ := h.side
  obtain ⟨kc, kv⟩ := k.side
  obtain ⟨rfl, hm⟩ := posD_inj (H := H) hc kc (hv (v + (n - 1) / 2) (by omega) (by omega)) (kv (v' + (n' - 1) / 2) (by omega) (by omega)) e1
  obtain ⟨rfl, rfl⟩ := h.at k (m := v + (n - 1) / 2) (by omega) (by omega)
  exact ⟨rfl, rfl, rfl, rfl⟩
theorem IsP.key {W H : Int} {fr : List Bool} {p q : Prt} (h : IsP W H fr p) (k : IsP W H fr q) (e1 : p.a = q.a) (e2 : p.b = q.b) : p = q := by
  obtain ⟨d, c, v, n, h, rfl⟩ := h
  obtain ⟨d', c', v', n', k, rfl⟩ := k
  obtain ⟨rfl, rfl, rfl, rfl⟩ := h.uniq k e1 e2
  rfl
theorem StrP.nodup {l : List Prt} (h : StrP l) : l.Nodup := h.imp fun {a b} h e => by subst e; unfold PrLt at h; omega
theorem strP_ext {l m : List Prt} (h : StrP l) (k : StrP m) (e : ∀ p, p ∈ l ↔ p ∈ m) : l = m :=
  strP_uniq h k ((List.perm_ext_iff_of_nodup h.nodup k.nodup).2 e)
theorem disP_of {W H : Int} {fr : List Bool} {l : List Prt} (hn : l.Nodup) (h : ∀ p ∈ l, IsP W H fr p) : DisP l := by
  refine List.Pairwise.imp_of_mem (fun {a b} ha hb hne e => ?_) hn
  exact hne ((h a ha).key (h b hb) e.1 e.2)
/-- All portals, rising. -/
def PortalsOk (W H : Int) (fr : List Bool) (l : List Prt) : Prop := StrP l ∧ ∀ p, p ∈ l ↔ IsP W H fr p
theorem PortalsOk.uniq {W H : Int} {fr : List Bool} {l m : List Prt} (h : PortalsOk W H fr l) (k : PortalsOk W H fr m) : l = m := strP_ext h.1 k.1 fun p => (h.2 p).trans (k.2 p).symm
/-! ### Tiles by their places -/
theorem posD_of {W H t : Int} (hW : 1 ≤ W) (ht : 0 ≤ t ∧ t < W * H) (d : Bool) : ∃ c v, t = posD W d c v ∧ (0 ≤ c ∧ c < sidD W H d) ∧ (0 ≤ v ∧ v < limD W H d) ∧ (if d = true then t / W = c ∧ t % W = v else t % W = c ∧ t / W = v) := by
  have hd := divmod hW ht.1
  have hth : t / W < H := Int.ediv_lt_of_lt_mul (by omega) (by rw [Int.mul_comm]; exact ht.2)
  cases d with
  | true => exact ⟨t / W, t % W, by show t = t % W + W * (t / W); omega, ⟨hd.2.2.1, hth⟩, ⟨hd.1, hd.2.1⟩, by simp⟩
  | false => exact ⟨t % W, t / W, by show t = t % W + W * (t / W); omega, ⟨hd.1, hd.2.1⟩, ⟨hd.2.2.1, hth⟩, by simp⟩
theorem posD_dm {W H : Int} {d : Bool} {c v : Int} (hc : 0 ≤ c ∧ c < sidD W H d) (hv : 0 ≤ v ∧ v < limD W H d) : 0 ≤ posD W d c v ∧ (if d = true then posD W d c v / W = c ∧ posD W d c v % W = v else posD W d c v % W = c ∧ posD W d c v / W = v) := by
  cases d with
  | true => have a := dm (w := W) (i := v) (j := c) hv hc.1; exact ⟨a.2.2, by rw [if_pos rfl]; exact ⟨a.2.1, a.1⟩⟩
  | false => have a := dm (w := W) (i := c) (j := v) hc hv.1; exact ⟨a.2.2, by rw [if_neg (by simp)]; exact ⟨a.1, a.2.1⟩⟩
theorem posD_lt {W H : Int} {d : Bool} {c v : Int} (hW : 1 ≤ W) (hc : 0 ≤ c ∧ c < sidD W H d) (hv : 0 ≤ v ∧ v < limD W H d) : posD W d c v < W * H := by
  cases d with
  | true =>
    have hv : 0 ≤ v ∧ v < W := hv
    have hc : 0 ≤ c ∧ c < H := hc
    have := Int.mul_le_mul_of_nonneg_left (show c + 1 ≤ H by omega) (show 0 ≤ W by omega)
    rw [Int.mul_add] at this
    show v + W * c < _; omega
  | false =>
    have hv : 0 ≤ v ∧ v < H := hv
    have hc : 0 ≤ c ∧ c < W := hc
    have := Int.mul_le_mul_of_nonneg_left (show v + 1 ≤ H by omega) (show 0 ≤ W by omega)
    rw [Int.mul_add] at this
    show c + W * v < _; omega
theorem posD_over {W : Int} {d : Bool} {c v : Int} : posD W d c v + ovrD W d = posD W d (c + 1) v := by
  cases d with
  | true => show v + W * c + W = v + W * (c + 1); rw [Int.mul_add]; omega
  | false => show c + W * v + 1 = c + 1 + W * v; omega
theorem posD_step {W : Int} {d : Bool} {c v : Int} (i : Int) : posD W d c (v + i) = posD W d c v + stpD W d * i := by
  cases d with
  | true => show v + i + W * c = v + W * c + 1 * i; omega
  | false => show c + W * (v + i) = c + W * v + W * i; rw [Int.mul_add]; omega
end Go.Proofs.Ytddicdmleeaihaa
