/-
  Scans: loops that go over places one by one and stop at the first that is not so; truth values told by what they mean. For every list. No program in sight.
-/
import Derived.Test.YtddicdmleeaihaaVP
set_option linter.unusedVariables false
namespace Go.Vg
/-- A truth value is there, and tells p. -/
def Bo (m : Option Bool) (p : Prop) : Prop := Ok m fun r => (r = true ↔ p)
theorem Bo.of {r : Bool} {p : Prop} (h : r = true ↔ p) : Bo (some r) p := Ok.ret h
theorem Bo.dec {q p : Prop} [Decidable q] (h : q ↔ p) : Bo (some (decide q)) p := Ok.ret (by rw [decide_eq_true_iff]; exact h)
theorem Bo.t {m : Option Bool} {p : Prop} (h : Bo m p) (hp : p) : m = some true := let ⟨r, e, q⟩ := h; by rw [e, q.2 hp]
theorem Bo.f {m : Option Bool} {p : Prop} (h : Bo m p) (hp : ¬ p) : m = some false := by
  obtain ⟨r, e, q⟩ := h
  rw [e]
  cases r with
  | false => rfl
  | true => exact absurd (q.1 rfl) hp
theorem Bo.same {m n : Option Bool} {p : Prop} (h : Bo m p) (k : Bo n p) : m = n := by
  by_cases hp : p
  · rw [h.t hp, k.t hp]
  · rw [h.f hp, k.f hp]
theorem Bo.iff {m : Option Bool} {p q : Prop} (h : Bo m p) (k : p ↔ q) : Bo m q := Ok.mono h fun r e => e.trans k
/-- Over the places from a to n: all are so, or it ends early. -/
theorem scanOk {β : Type} {f : Int → Option (St Int (Ex Unit β))} {a n : Int} (G : Int → Prop) (U : β → Prop) (hn : n - a < 9223372036854775808)
    (step : ∀ v, a ≤ v → v < n → (∀ u, a ≤ u → u < v → G u) → Ok (f v) fun y => match y with | .next s => s = v + 1 ∧ G v | .done (.up r) => U r | .done (.go _) => False)
    (fin : ∀ v, a ≤ v → n ≤ v → f v = some (St.done (Ex.go ()))) : Ok (loop f a) fun x => match x with | .go _ => ∀ u, a ≤ u → u < n → G u | .up r => U r := by
  refine Ok.loop (fun v => a ≤ v ∧ ∀ u, a ≤ u → u < v → u < n → G u) (fun v => (n - v).toNat) ⟨Int.le_refl _, fun u h1 h2 => by omega⟩ (by unfold FUEL; omega) ?_
  rintro v ⟨h1, h2⟩
  by_cases hv : v < n
  · obtain ⟨y, hy, hq⟩ := step v h1 hv (fun u u0 u1 => h2 u u0 u1 (by omega))
    refine ⟨y, hy, ?_⟩
    cases y with
    | next s =>
      obtain ⟨rfl, hg⟩ := hq
      refine ⟨⟨by omega, fun u u0 u1 u2 => ?_⟩, by omega⟩
      by_cases e : u = v
      · subst e; exact hg
      · exact h2 u u0 (by omega) u2
    | done x =>
      cases x with
      | go _ => exact hq.elim
      | up r => exact hq
  · rw [fin v h1 (by omega)]
    exact Ok.ret (fun u u0 u1 => h2 u u0 (by omega) u1)
/-- The same, where a truth value is handed back: false at the first that is not so. -/
theorem scanBo {f : Int → Option (St Int (Ex Unit Bool))} {a n : Int} (G : Int → Prop) (hn : n - a < 9223372036854775808)
    (step : ∀ v, a ≤ v → v < n → (∀ u, a ≤ u → u < v → G u) → Ok (f v) fun y => match y with | .next s => s = v + 1 ∧ G v | .done (.up r) => r = false ∧ ¬ G v | .done (.go _) => False)
    (fin : ∀ v, a ≤ v → n ≤ v → f v = some (St.done (Ex.go ()))) : Bo (Option.bind (loop f a) fun x => x.then fun _ => some true) (∀ u, a ≤ u → u < n → G u) := by
  refine Ok.bind (scanOk G (fun r => r = false ∧ ¬ ∀ u, a ≤ u → u < n → G u) hn (fun v h1 h2 h3 => ?_) fin) (fun x hx => ?_)
  · obtain ⟨y, hy, hq⟩ := step v h1 h2 h3
    refine ⟨y, hy, ?_⟩
    cases y with
    | next s => exact hq
    | done x =>
      cases x with
      | go _ => exact hq
      | up r => exact ⟨hq.1, fun h => hq.2 (h v h1 h2)⟩
  · cases x with
    | go _ => exact Ok.ret ⟨fun _ => hx, fun _ => rfl⟩
    | up r => exact Ok.ret ⟨fun e => (by rw [hx.1] at e; cases e), fun h => absurd h hx.2⟩
theorem gi_mem2 {α : Type} [Inhabited α] {l : List α} {x : α} : x ∈ l ↔ ∃ i : Int, 0 ≤ i ∧ i < l.length ∧ gi l i = x := by
  constructor
  · intro h
    obtain ⟨i, hi, he⟩ := List.mem_iff_getElem.1 h
    exact ⟨i, by omega, by omega, by simp [gi, List.getD, hi, he]⟩
  · rintro ⟨i, h0, h1, rfl⟩
    exact gi_mem ⟨h0, h1⟩
/-- A place in a table of rows of W. -/
theorem xy_inj {W x y : Int} (hx : 0 ≤ x ∧ x < W) : (x + W * y) / W = y ∧ (x + W * y) % W = x := by
  constructor
  · rw [Int.add_mul_ediv_left _ _ (by omega), Int.ediv_eq_zero_of_lt hx.1 hx.2]; omega
  · rw [Int.add_mul_emod_self_left, Int.emod_eq_of_lt hx.1 hx.2]
end Go.Vg
