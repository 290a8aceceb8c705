/-
  Rows whose elements own memory, as rows of cells beside what the elements own, one part after the other taken out. For every program. A library of this claim's own.
-/
import Derived.Test.YtlpmiledfcblfaaVY
set_option linter.unusedSimpArgs false
set_option linter.unusedVariables false
namespace Go.Vg
open Go.RowKit (Below)
open Enc (R)
structure RawN (n : Nat) where
  c : List Value
  hl : c.length = n
  h1 : ∀ u ∈ c, u.oneCell' = true
instance {n : Nat} : Inhabited (RawN n) := ⟨⟨List.replicate n (.bool false), by simp, fun u hu => by rw [List.eq_of_mem_replicate hu]; rfl⟩⟩
instance {n : Nat} : Enc (RawN n) where
  sz := n
  R _ x cs := cs = x.c
  len := fun {h x cs} e => by rw [e]; exact x.hl
  one := fun {h x cs} e => by rw [e]; exact x.h1
  mono := fun _ h => h
instance {n : Nat} : Flat (RawN n) := ⟨fun h => h⟩
section
variable {α : Type} [Enc α] [Deep α] {n : Nat}
theorem RF_rawN {h : Hp} : ∀ {xs : List (RawN n)}, RF h xs (xs.flatMap RawN.c)
  | [] => rfl
  | x :: xs => ⟨x.c, xs.flatMap RawN.c, rfl, rfl, RF_rawN⟩
/-- What elements own, the cells known. -/
def DN : Hp → List (α × RawN n) → Prop
  | _, [] => True
  | h, z :: zs => ∃ p q, Deep.D p z.1 z.2.c ∧ DN q zs ∧ (∀ b, p b = none ∨ q b = none) ∧ Hp.le p h ∧ Hp.le q h
theorem DN.mono {h h' : Hp} (hl : h.le h') : ∀ {zs : List (α × RawN n)}, DN h zs → DN h' zs
  | [], _ => trivial
  | _ :: _, ⟨p, q, a, b, d, l1, l2⟩ => ⟨p, q, a, b, d, Hp.le_trans l1 hl, Hp.le_trans l2 hl⟩
theorem DN.ofDRF (hsz : Enc.sz α = n) {h : Hp} : ∀ {xs : List α} {cs : List Value}, DRF h xs cs → ∃ zs : List (α × RawN n), zs.map (·.1) = xs ∧ cs = (zs.map (·.2)).flatMap RawN.c ∧ DN h zs
  | [], cs, e => ⟨[], rfl, e, trivial⟩
  | x :: xs, cs, ⟨c, r, p, q, e, a, b, d, l1, l2⟩ => by
    obtain ⟨zs, h1, h2, h3⟩ := DN.ofDRF hsz b
    have hc := Deep.toR a
    exact ⟨(x, ⟨c, by rw [Enc.len hc, hsz], Enc.one hc⟩) :: zs, by simp [h1], by rw [e, h2]; rfl, p, q, a, h3, d, l1, l2⟩
variable {w0 w : World} {G : List Ch}
theorem Sat.toN (hsz : Enc.sz α = n) (k : Nat) {e : TypeId} {v : Value} {xs : List α} (s : Sat w0 G w) (hk : G[k]? = some (drow e v xs)) : ∃ zs : List (α × RawN n), zs.map (·.1) = xs ∧ Sat w0 (G.set k (row nilH e v (zs.map (·.2))) ++ [fun h => DN h zs]) w := by
  have hkl := (List.getElem?_eq_some_iff.1 hk).1
  obtain ⟨p, hp, s1⟩ := s.freeze k hk
  have hk1 : (G.set k (fz p))[k]? = some (fz p) := List.getElem?_set_self hkl
  rcases hp with ⟨rfl, rfl, _⟩ | ⟨g, cap, cs, sp, rfl, hg, h3, h4, h5, h6⟩
  · refine ⟨[], rfl, ?_⟩
    have s2 := s1.weaken k hk1 (row nilH e (.slice none 0 0) ([] : List (RawN n))) (fun _ _ => .inl ⟨rfl, rfl⟩)
    rw [List.set_set] at s2
    exact s2.addEmpty _ fun _ => trivial
  · obtain ⟨zs, hz1, hz2, hz3⟩ := DN.ofDRF hsz h6
    refine ⟨zs, hz1, ?_⟩
    have hln : (zs.map (·.2)).length = xs.length := by rw [← hz1]; simp
    have s2 := s1.weaken k hk1 (star (row nilH e (.slice (some ⟨g, 0, none⟩) xs.length cap) (zs.map (·.2))) (fun h => DN h zs)) (fun r hr => by
      rw [show r = p from hr]
      refine ⟨fun b => if b = g then p b else none, p.off g, .inr ⟨g, cap, cs, sp, by rw [hln], by simp [hg], by rw [hln]; exact h3, h4, by rw [h5, hsz]; rfl, by rw [hz2]; exact RF_rawN⟩, hz3, fun b => ?_, fun b o hb => ?_, Hp.off_le _ _⟩
      · by_cases hb : b = g
        · exact .inr (by simp [Hp.off, hb])
        · exact .inl (by simp [hb])
      · dsimp only at hb
        split at hb
        · exact hb
        · cases hb)
    rw [List.set_set] at s2
    have s3 := s2.unstarAt k (List.getElem?_set_self hkl)
    rw [List.set_set] at s3
    exact s3
theorem Sat.popN {z : α × RawN n} {zs : List (α × RawN n)} (k : Nat) (s : Sat w0 G w) (hk : G[k]? = some (fun h => DN h (z :: zs))) : Sat w0 (G.set k (fun h => Deep.D h z.1 z.2.c) ++ [fun h => DN h zs]) w :=
  s.unstarAt (A := fun h => Deep.D h z.1 z.2.c) (B := fun h => DN h zs) k hk
end
theorem Sat.exAtP {w0 w : World} {G : List Ch} {ι : Type} {p : ι → Prop} {C : ι → Ch} (k : Nat) (s : Sat w0 G w) (hk : G[k]? = some (fun h => ∃ i, p i ∧ C i h)) : ∃ i, p i ∧ Sat w0 (G.set k (C i)) w := by
  obtain ⟨e, own, h2⟩ := s
  have hkl := (List.getElem?_eq_some_iff.1 hk).1
  obtain ⟨h, ⟨i, hp, hc⟩, hb⟩ := h2 k _ hk
  refine ⟨i, hp, e, own, fun j D hj => ?_⟩
  by_cases hkj : k = j
  · subst hkj
    rw [List.getElem?_set_self hkl] at hj
    obtain rfl := Option.some.inj hj
    exact ⟨h, hc, hb⟩
  · rw [List.getElem?_set_ne hkj] at hj
    exact h2 j D hj
theorem RawN.get {n : Nat} {x : RawN n} {h : Hp} {c : List Value} (hr : R h x c) : c = x.c := hr
end Go.Vg
