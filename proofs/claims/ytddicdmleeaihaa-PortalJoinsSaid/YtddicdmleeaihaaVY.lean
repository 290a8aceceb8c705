/-
  Elements of three cells seen as cells ('Raw3'): rows whose elements own memory parted into the cells and the parts, and put together again; the same for rows whose elements are read elsewhere. For every program. A library of this claim's own.
-/
import Derived.Test.YtddicdmleeaihaaVX
set_option linter.unusedSimpArgs false
set_option linter.unusedVariables false
namespace Go.Vg
open Enc (R)

structure Raw3 where
  a : Value
  b : Value
  c : Value
  ok : (a.oneCell' && (b.oneCell' && c.oneCell')) = true
instance : Inhabited Raw3 := ⟨⟨.bool false, .bool false, .bool false, rfl⟩⟩
def Raw3.cells (x : Raw3) : List Value := [x.a, x.b, x.c]
instance : Enc Raw3 where
  sz := 3
  R _ x cs := cs = [x.a, x.b, x.c]
  len := fun e => by rw [e]; rfl
  one := fun {h x cs} e u hu => by
    have := x.ok
    simp only [Bool.and_eq_true] at this
    rw [e] at hu; simp only [List.mem_cons, List.not_mem_nil, or_false] at hu
    rcases hu with rfl | rfl | rfl
    · exact this.1
    · exact this.2.1
    · exact this.2.2
  mono := fun _ e => e
instance : Flat Raw3 := ⟨fun h => h⟩

theorem RF_raw {h : Hp} : ∀ {xs : List Raw3} {cs : List Value}, RF h xs cs ↔ cs = xs.flatMap Raw3.cells
  | [], cs => by simp [RF]
  | x :: xs, cs => by
    constructor
    · rintro ⟨c, r, e, hx, hr⟩
      have e1 : c = [x.a, x.b, x.c] := hx
      rw [e, e1, RF_raw.1 hr]; rfl
    · intro e
      exact ⟨x.cells, xs.flatMap Raw3.cells, by rw [e]; rfl, rfl, RF_raw.2 rfl⟩

section
variable {α : Type} [Enc α] [Deep α]
def DZ : Hp → List (α × Raw3) → Prop
  | _, [] => True
  | h, z :: zs => ∃ p q, Deep.D p z.1 z.2.cells ∧ DZ q zs ∧ (∀ b, p b = none ∨ q b = none) ∧ Hp.le p h ∧ Hp.le q h
abbrev inn (zs : List (α × Raw3)) : Ch := fun p => DZ p zs
theorem DZ.mono {h h' : Hp} (hl : h.le h') : ∀ {zs : List (α × Raw3)}, DZ h zs → DZ h' zs
  | [], _ => trivial
  | _ :: _, ⟨p, q, a, b, d, l1, l2⟩ => ⟨p, q, a, b, d, Hp.le_trans l1 hl, Hp.le_trans l2 hl⟩
theorem DZ.toDRF {h : Hp} : ∀ {zs : List (α × Raw3)}, DZ h zs → DRF h (zs.map (·.1)) ((zs.map (·.2)).flatMap Raw3.cells)
  | [], _ => rfl
  | z :: zs, ⟨p, q, a, b, d, l1, l2⟩ => ⟨z.2.cells, _, p, q, rfl, a, b.toDRF, d, l1, l2⟩
theorem three {c : List Value} (hl : c.length = 3) (h1 : ∀ u ∈ c, u.oneCell' = true) : ∃ r : Raw3, c = r.cells := by
  match c, hl with
  | [x, y, z], _ => exact ⟨⟨x, y, z, by simp [h1 x (by simp), h1 y (by simp), h1 z (by simp)]⟩, rfl⟩
theorem DZ.ofDRF (hsz : Enc.sz α = 3) {h : Hp} : ∀ {xs : List α} {cs : List Value}, DRF h xs cs → ∃ zs : List (α × Raw3), zs.map (·.1) = xs ∧ cs = (zs.map (·.2)).flatMap Raw3.cells ∧ DZ h zs
  | [], cs, e => ⟨[], rfl, e, trivial⟩
  | x :: xs, cs, ⟨c, r, p, q, e, a, b, d, l1, l2⟩ => by
    obtain ⟨zs, h1, h2, h3⟩ := DZ.ofDRF hsz b
    have hc := Deep.toR a
    obtain ⟨t, rfl⟩ := three (by rw [Enc.len hc, hsz]) (Enc.one hc)
    exact ⟨(x, t) :: zs, by simp [h1], by rw [e, h2]; rfl, p, q, a, h3, d, l1, l2⟩
theorem apart_le {p p' q : Hp} (hl : p.le p') (h : ∀ b, p' b = none ∨ q b = none) : ∀ b, p b = none ∨ q b = none := fun b => by
  rcases h b with h | h
  · cases hk : p b with
    | none => exact .inl rfl
    | some o => have := hl b o hk; rw [h] at this; cases this
  · exact .inr h
theorem apart_symm {p q : Hp} (h : ∀ b, p b = none ∨ q b = none) : ∀ b, q b = none ∨ p b = none := fun b => (h b).symm
theorem le_over_r {p q : Hp} (h : ∀ b, p b = none ∨ q b = none) : q.le (p.over q) := fun b o e => by
  unfold Hp.over
  rcases h b with h | h
  · rw [h]; exact e
  · rw [h] at e; cases e
theorem apart_over {p q r : Hp} (h1 : ∀ b, p b = none ∨ q b = none) (h2 : ∀ b, p b = none ∨ r b = none) : ∀ b, p b = none ∨ (q.over r) b = none := fun b => by
  rcases h1 b with h | h
  · exact .inl h
  · rcases h2 b with k | k
    · exact .inl k
    · exact .inr (by unfold Hp.over; rw [h]; exact k)
theorem DZ.perm {zs zs' : List (α × Raw3)} (hp : zs.Perm zs') : ∀ {h : Hp}, DZ h zs → DZ h zs' := by
  induction hp with
  | nil => exact fun h => h
  | cons z _ ih => exact fun ⟨p, q, a, b, d, l1, l2⟩ => ⟨p, q, a, ih b, d, l1, l2⟩
  | swap x y l =>
    rintro h ⟨p, q, a, ⟨p2, q2, a2, b2, d2, k1, k2⟩, d, l1, l2⟩
    have d3 : ∀ b, p b = none ∨ q2 b = none := apart_symm (apart_le k2 (apart_symm d))
    have d4 : ∀ b, p2 b = none ∨ p b = none := apart_le k1 (apart_symm d)
    exact ⟨p2, p.over q2, a2, ⟨p, q2, a, b2, d3, Hp.le_over p q2, le_over_r d3⟩, apart_over d4 d2, Hp.le_trans k1 l2, Hp.over_le l1 (Hp.le_trans k2 l2)⟩
  | trans _ _ ih1 ih2 => exact fun h => ih2 (ih1 h)
theorem DZ.sub {zs zs' : List (α × Raw3)} (hs : zs'.Sublist zs) : ∀ {h : Hp}, DZ h zs → DZ h zs' := by
  induction hs with
  | slnil => exact fun h => h
  | cons z _ ih => exact fun ⟨p, q, a, b, d, l1, l2⟩ => (ih b).mono l2
  | cons_cons z _ ih => exact fun ⟨p, q, a, b, d, l1, l2⟩ => ⟨p, q, a, ih b, d, l1, l2⟩
theorem DZ.append {q : Hp} {ys : List (α × Raw3)} (hy : DZ q ys) : ∀ {xs : List (α × Raw3)} {p r : Hp}, DZ p xs → (∀ b, p b = none ∨ q b = none) → p.le r → q.le r → DZ r (xs ++ ys)
  | [], p, r, _, _, _, l => hy.mono l
  | x :: xs, p, r, ⟨p1, q1, a, b, d, l1, l2⟩, ha, hp, hq => by
    have h1 := apart_le l2 ha
    have h2 := apart_le l1 ha
    exact ⟨p1, q1.over q, a, DZ.append hy b h1 (Hp.le_over q1 q) (le_over_r h1), apart_over d h2, Hp.le_trans l1 hp, Hp.over_le (Hp.le_trans l2 hp) hq⟩
end

/-! ### Chunks -/
section
variable {w0 w : World} {G : List Ch}
theorem Sat.unstarAt {A B : Ch} (k : Nat) (s : Sat w0 G w) (hk : G[k]? = some (star A B)) : Sat w0 (G.set k A ++ [B]) w := by
  obtain ⟨e, own, h2⟩ := s
  have hkl := (List.getElem?_eq_some_iff.1 hk).1
  obtain ⟨r, ⟨p, q, hp, hq, hd, h3, h4⟩, hbr⟩ := h2 k _ hk
  classical
  refine ⟨e, fun b => if own b = k ∧ p b = none then G.length else if own b = G.length then G.length + 1 else own b, fun j E hj => ?_⟩
  rw [List.getElem?_append] at hj
  split at hj
  · rename_i hjl
    simp only [List.length_set] at hjl
    by_cases hjk : k = j
    · subst hjk
      rw [List.getElem?_set_self hkl] at hj
      have := (Option.some.inj hj).symm; subst this
      refine ⟨p, hp, fun b o hbo => ?_⟩
      obtain ⟨a1, a2, a3⟩ := hbr b o (h3 b o hbo)
      exact ⟨a1, by dsimp only; rw [if_neg (by rw [hbo]; simp), if_neg (by omega)]; exact a2, a3⟩
    · rw [List.getElem?_set_ne hjk] at hj
      obtain ⟨u, hu, hb⟩ := h2 j E hj
      refine ⟨u, hu, fun b o hbo => ?_⟩
      obtain ⟨a1, a2, a3⟩ := hb b o hbo
      exact ⟨a1, by dsimp only; rw [if_neg (by intro h; omega), if_neg (by omega)]; exact a2, a3⟩
  · rename_i hjl
    simp only [List.length_set] at hjl hj
    have hj0 : j = G.length := by
      rcases Nat.lt_or_ge (j - G.length) 1 with h | h
      · omega
      · rw [List.getElem?_eq_none (by simpa using h)] at hj; cases hj
    subst hj0
    simp at hj; subst hj
    refine ⟨q, hq, fun b o hbo => ?_⟩
    obtain ⟨a1, a2, a3⟩ := hbr b o (h4 b o hbo)
    have hpn : p b = none := (hd b).resolve_right (by rw [hbo]; simp)
    exact ⟨a1, by dsimp only; rw [if_pos ⟨a2, hpn⟩], a3⟩
theorem Sat.weakenB (k : Nat) {C : Ch} (hk : G[k]? = some C) (C' : Ch) (s : Sat w0 G w) (hc : ∀ p, C p → (∀ b o, p b = some o → w0.heap.size ≤ b) → C' p) : Sat w0 (G.set k C') w := by
  have hli : k < G.length := (List.getElem?_eq_some_iff.1 hk).1
  obtain ⟨h1, own, h2⟩ := s
  refine ⟨h1, own, fun j D hj => ?_⟩
  by_cases hji : k = j
  · subst hji
    rw [List.getElem?_set_self hli] at hj
    obtain ⟨p, hp, hb⟩ := h2 k C hk
    exact ⟨p, by have := Option.some.inj hj; subst this; exact hc p hp (fun b o e => (hb b o e).1), hb⟩
  · rw [List.getElem?_set_ne hji] at hj
    exact h2 j D hj
variable {α : Type} [Enc α] [Deep α]
/-- A row whose elements own memory: its cells, and what they own. -/
theorem Sat.toZ (hsz : Enc.sz α = 3) (k : Nat) {e : TypeId} {v : Value} {xs : List α} (s : Sat w0 G w) (hk : G[k]? = some (drow e v xs)) : ∃ zs : List (α × Raw3), zs.map (·.1) = xs ∧ Sat w0 (G.set k (row nilH e v (zs.map (·.2))) ++ [inn zs]) w := by
  have hkl := (List.getElem?_eq_some_iff.1 hk).1
  obtain ⟨p, hp, s1⟩ := s.freeze k hk
  have hk1 : (G.set k (fz p))[k]? = some (fz p) := List.getElem?_set_self hkl
  rcases hp with ⟨rfl, rfl, _⟩ | ⟨g, cap, cs, sp, rfl, hg, h3, h4, h5, h6⟩
  · refine ⟨[], rfl, ?_⟩
    have s2 := s1.weaken k hk1 (row nilH e (.slice none 0 0) ([] : List Raw3)) (fun _ _ => .inl ⟨rfl, rfl⟩)
    rw [List.set_set] at s2
    exact s2.addEmpty _ fun _ => trivial
  · obtain ⟨zs, hz1, hz2, hz3⟩ := DZ.ofDRF hsz h6
    refine ⟨zs, hz1, ?_⟩
    have hln : (zs.map (·.2)).length = xs.length := by rw [← hz1]; simp
    have s2 := s1.weaken k hk1 (star (row nilH e (.slice (some ⟨g, 0, none⟩) xs.length cap) (zs.map (·.2))) (inn zs)) (fun r hr => by
      rw [show r = p from hr]
      refine ⟨fun b => if b = g then p b else none, p.off g, .inr ⟨g, cap, cs, sp, by rw [hln], by simp [hg], by rw [hln]; exact h3, h4, by rw [h5, hsz]; rfl, RF_raw.2 hz2⟩, hz3, fun b => ?_, fun b o hb => ?_, Hp.off_le _ _⟩
      · by_cases hb : b = g
        · exact .inr (by simp [Hp.off, hb])
        · exact .inl (by simp [hb])
      · dsimp only at hb
        split at hb
        · exact hb
        · cases hb)
    rw [List.set_set] at s2
    have s3 := s2.unstarAt k (List.getElem?_set_self hkl)
    rw [List.set_set] at s3
    exact s3
theorem Sat.ofZ (hsz : Enc.sz α = 3) (k j : Nat) {e : TypeId} {v : Value} {rs : List Raw3} {zs : List (α × Raw3)} (s : Sat w0 G w) (hk : G[k]? = some (row nilH e v rs)) (hj : G[j]? = some (inn zs)) (hne : k ≠ j) (hr : zs.map (·.2) = rs) : Sat w0 ((G.set k (drow e v (zs.map (·.1)))).set j dead) w :=
  s.merge2 k j hk hj hne _ fun p q r a b d l1 l2 => by
    subst hr
    have hln : (zs.map (·.2)).length = (zs.map (·.1)).length := by simp
    rcases a with ⟨rfl, hz⟩ | ⟨g, cap, cs, sp, rfl, hg, h3, h4, h5, h6⟩
    · have hz' : zs = [] := by simpa using hz
      subst hz'
      exact .inl ⟨rfl, rfl, rfl⟩
    · have e1 : cs = (zs.map (·.2)).flatMap Raw3.cells := RF_raw.1 h6
      refine .inr ⟨g, cap, cs, sp, by rw [hln], l1 _ _ hg, by rw [← hln]; exact h3, h4, by rw [h5, hsz]; rfl, ?_⟩
      rw [e1]
      refine (DZ.toDRF b).mono fun c o hc => ?_
      unfold Hp.off
      have hcg : c ≠ g := fun e2 => by
        subst e2
        rcases d c with h | h
        · rw [h] at hg; cases hg
        · rw [h] at hc; cases hc
      rw [if_neg hcg]; exact l2 c o hc
/-- A slice that came in, as cells. -/
theorem raw_of {β : Type} [Enc β] (hsz : Enc.sz β = 3) {B : Hp} : ∀ {xs : List β} {cs : List Value}, RF B xs cs → ∃ rs : List Raw3, cs = rs.flatMap Raw3.cells ∧ rs.length = xs.length
  | [], cs, e => ⟨[], e, rfl⟩
  | x :: xs, cs, ⟨c, r, e, hx, hr⟩ => by
    obtain ⟨rs, h1, h2⟩ := raw_of hsz hr
    obtain ⟨t, rfl⟩ := three (by rw [Enc.len hx, hsz]) (Enc.one hx)
    exact ⟨t :: rs, by rw [e, h1]; rfl, by simp [h2]⟩
theorem R_raw {β : Type} [Enc β] (hsz : Enc.sz β = 3) {B : Hp} {xs : List β} {v : Value} (h : R B xs [v]) : ∃ rs : List Raw3, R B rs [v] ∧ RF B xs (rs.flatMap Raw3.cells) ∧ rs.length = xs.length := by
  obtain ⟨p, cap, e, h1, h2, h3⟩ := h
  simp only [List.cons.injEq, and_true] at e
  subst e
  rcases h3 with rfl | ⟨b, o, cs, rfl, hr, ha⟩
  · exact ⟨[], ⟨p, cap, rfl, by simp, h2, .inl rfl⟩, rfl, rfl⟩
  · obtain ⟨rs, e1, e2⟩ := raw_of hsz hr
    refine ⟨rs, ⟨_, cap, by rw [e2], by omega, h2, .inr ⟨b, o, cs, rfl, RF_raw.2 e1, ha⟩⟩, by rw [← e1]; exact hr, e2⟩
/-- Cells that are read in what stood ahead of the row. -/
theorem Sat.rawFB {β : Type} [Enc β] (hsz : Enc.sz β = 3) (k : Nat) {e : TypeId} {v : Value} {rs : List Raw3} {xs : List β} {B : Hp} (hB : ∀ b o, B b = some o → b < w0.heap.size) (hr : RF B xs (rs.flatMap Raw3.cells)) (hl : rs.length = xs.length) (s : Sat w0 G w) (hk : G[k]? = some (row nilH e v rs)) : Sat w0 (G.set k (rowG (FB B) e v xs)) w :=
  s.weakenB k hk _ fun p hp hb => by
    rcases hp with ⟨rfl, rfl⟩ | ⟨g, cap, cs, sp, rfl, hg, h3, h4, h5, h6⟩
    · have : xs = [] := List.eq_nil_of_length_eq_zero (by rw [← hl]; rfl)
      subst this
      exact .inl ⟨rfl, rfl, rfl⟩
    · refine .inr ⟨g, cap, cs, sp, by rw [hl], hg, by rw [← hl]; exact h3, h4, by rw [h5, hsz]; rfl, ?_⟩
      have e1 : cs = rs.flatMap Raw3.cells := RF_raw.1 h6
      subst e1
      refine hr.mono fun b o e => ?_
      unfold Hp.over
      cases hk : (p.off g) b with
      | none => exact e
      | some o' => have h7 := hb b o' (Hp.off_le _ _ b o' hk); have h8 := hB b o e; omega
end
/-! ### A slice of one's own that may begin anywhere in its array; arrays of three -/
def osl {α : Type} [Enc α] (e : TypeId) (v : Value) (xs : List α) : Ch := fun h =>
  ∃ p cap, v = .slice p xs.length cap ∧ xs.length ≤ cap ∧ cap ≤ maxLen ∧ (xs = [] ∨ ∃ b o c cs, p = some ⟨b, o, none⟩ ∧ h b = some (.cells c e (0, 0)) ∧ o + xs.length * Enc.sz α ≤ c.size ∧ RF nilH xs cs ∧ ∀ j v, cs[j]? = some v → c[o + j]? = some v)
section
variable {w0 w : World} {G : List Ch} {α : Type} [Enc α]
theorem osl_R {e : TypeId} {v : Value} {xs : List α} {h : Hp} (ho : osl e v xs h) : R h xs [v] := by
  obtain ⟨p, cap, rfl, h1, h2, h3⟩ := ho
  refine ⟨p, cap, rfl, h1, h2, ?_⟩
  rcases h3 with h3 | ⟨b, o, c, cs, h4, h5, _, h6, h7⟩
  · exact .inl h3
  · exact .inr ⟨b, o, cs, h4, h6.mono (nilH_le _), c, e, (0, 0), h5, h7⟩
theorem Rd.ofOsl (k : Nat) {e : TypeId} {v : Value} {xs : List α} (hk : G[k]? = some (osl e v xs)) : Rd (Sat w0 G) xs [v] := fun w s => by
  obtain ⟨p, hp, hl, _⟩ := s.get k hk
  exact Enc.mono hl (osl_R hp)
theorem Sat.osl_form {k : Nat} {e : TypeId} {v : Value} {xs : List α} (s : Sat w0 G w) (hk : G[k]? = some (osl e v xs)) : ∃ p c, v = .slice p xs.length c := by
  obtain ⟨p, ⟨q, cap, hq, _⟩, _⟩ := s.get k hk
  exact ⟨q, cap, hq⟩
theorem Sat.nilOsl (e : TypeId) (s : Sat w0 G w) : Sat w0 (G ++ [osl e (.slice none 0 0) ([] : List α)]) w := s.addEmpty _ fun _ => ⟨none, 0, rfl, by simp, by simp, .inl rfl⟩
theorem Sat.rowOsl [Flat α] {q : Option Nat × Nat} {m : Nat} {e : TypeId} {xs : List α} (k : Nat) (s : Sat w0 G w) (hk : G[k]? = some (row nilH e (rowV q m) xs)) : Sat w0 (G.set k (osl e (rowV q m) xs)) w :=
  s.weaken k hk _ fun p hp => by
    rcases hp with ⟨h1, rfl⟩ | ⟨g, cap, cs, sp, h1, h2, h3, h4, h5, h6⟩
    · exact ⟨none, 0, h1, by simp, by simp, .inl rfl⟩
    · refine ⟨_, cap, h1, h3, h4, .inr ⟨g, 0, _, cs, rfl, h2, ?_, h6.any, fun j v hj => ?_⟩⟩
      · rw [List.size_toArray, h5, Nat.zero_add]; exact Nat.mul_le_mul_right _ h3
      · rw [Nat.zero_add, List.getElem?_toArray, List.getElem?_append_left (List.getElem?_eq_some_iff.1 hj).1]; exact hj
theorem Sat.oslDrop [Flat α] {sz : Nat} {p : Option Addr} {len cap : Nat} {e : TypeId} {xs : List α} (k i : Nat) (s : Sat w0 G w) (hk : G[k]? = some (osl e (.slice p len cap) xs)) (hi : i ≤ xs.length) (hsz : sz = Enc.sz α) : Sat w0 (G.set k (osl e (.slice (cutP p cap i sz) (len - i) (cap - i)) (xs.drop i))) w :=
  s.weaken k hk _ fun h hp => by
    subst hsz
    obtain ⟨q, cq, hv, h1, h2, h3⟩ := hp
    simp only [Value.slice.injEq] at hv
    obtain ⟨rfl, rfl, rfl⟩ := hv
    refine ⟨cutP p cap i (Enc.sz α), cap - i, by rw [List.length_drop], by rw [List.length_drop]; omega, by omega, ?_⟩
    rcases h3 with rfl | ⟨b, o, c, cs, rfl, h5, h6, h7, h8⟩
    · exact .inl (by simp)
    · by_cases hlt : i < xs.length
      · refine .inr ⟨b, o + i * Enc.sz α, c, cs.drop (i * Enc.sz α), cutP_lt (by omega), h5, ?_, h7.drop i, fun j v hj => ?_⟩
        · rw [List.length_drop]
          have : i * Enc.sz α + (xs.length - i) * Enc.sz α = xs.length * Enc.sz α := by rw [← Nat.add_mul]; congr 1; omega
          omega
        · rw [List.getElem?_drop] at hj
          rw [Nat.add_assoc]; exact h8 _ _ hj
      · exact .inl (List.drop_eq_nil_of_le (by omega))
end
structure Pr3 where
  a : Int
  b : Int
  c : Int
  deriving Inhabited, DecidableEq
instance : Enc Pr3 where
  sz := 3
  R _ x cs := cs = [.int .i64 x.a, .int .i64 x.b, .int .i64 x.c]
  len := fun h => by rw [h]; rfl
  one := fun h u hu => by rw [h] at hu; simp only [List.mem_cons, List.not_mem_nil, or_false] at hu; rcases hu with rfl | rfl | rfl <;> rfl
  mono := fun _ h => h
instance : Flat Pr3 := ⟨fun h => h⟩
section
variable {P : Program} {n : Nat} {fr : Fr} {dst : Option Tmp} {ty : TypeId} {pos : String} {aft : Array Edge} {g : Option (Nat × Bool)}
theorem Pu.convUH {x : Operand} {s d : TypeId} {k : IntKind} {a : Int} (hs : (P.underlying s).isSome = true) (hd : P.underlying d = some (.int .u64)) (hx : ev fr x = some (.int k a)) :
    Pu P n ⟨dst, .convert s d x, ty, pos, aft, g⟩ fr (.int .u64 ((UInt64.ofNat (a % 18446744073709551616).toNat).toNat : Int)) := by
  have h := Pu.convUW (P := P) (n := n) (dst := dst) (ty := ty) (pos := pos) (aft := aft) (g := g) hs hd hx
  have e : ((UInt64.ofNat (a % 18446744073709551616).toNat).toNat : Int) = a % 18446744073709551616 := by
    rw [UInt64.toNat_ofNat']
    have h1 : 0 ≤ a % 18446744073709551616 := Int.emod_nonneg _ (by decide)
    have h2 : a % 18446744073709551616 < 18446744073709551616 := Int.emod_lt_of_pos _ (by decide)
    omega
  rw [e]; exact h
end
end Go.Vg
