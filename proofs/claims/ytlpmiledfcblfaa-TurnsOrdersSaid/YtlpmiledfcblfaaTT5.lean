/-
  TurnsOrders, as a pure function, is true. For arguments that are Go's.
-/
import Derived.Test.YtlpmiledfcblfaaTT0
import Derived.Test.YtlpmiledfcblfaaTG5
set_option linter.unusedVariables false
set_option linter.unusedSimpArgs false
namespace Go.Proofs.Ytlpmiledfcblfaa
open Go.Vg Go.Lib
theorem gi_el {α : Type} [Inhabited α] {l : List α} {i : Int} (h : i.toNat < l.length) : gi l i = l[i.toNat] := by
  unfold gi
  rw [List.getD_eq_getElem?_getD, List.getElem?_eq_getElem h]; rfl
theorem adj_pw {α : Type} [Inhabited α] {R : α → α → Prop} (ht : ∀ a b c, R a b → R b c → R a c) {l : List α} (h : ∀ v : Int, 0 < v → v < l.length → R (gi l (v - 1)) (gi l v)) : l.Pairwise R := by
  have key : ∀ d : Nat, ∀ i : Int, 0 ≤ i → i + 1 + d < l.length → R (gi l i) (gi l (i + 1 + d)) := by
    intro d
    induction d with
    | zero => intro i h0 h1; have := h (i + 1) (by omega) (by omega); simpa using this
    | succ d ih =>
      intro i h0 h1
      have h2 := ih i h0 (by omega)
      have h3 := h (i + 1 + (d + 1 : Nat)) (by omega) (by omega)
      rw [show i + 1 + ((d + 1 : Nat) : Int) - 1 = i + 1 + (d : Int) by omega] at h3
      exact ht _ _ _ h2 h3
  rw [List.pairwise_iff_getElem]
  intro i j hi hj hij
  have := key (j - i - 1) (i : Int) (by omega) (by omega)
  rw [show (i : Int) + 1 + ((j - i - 1 : Nat) : Int) = (j : Int) by omega, gi_el (by simpa using hi), gi_el (by simpa using hj)] at this
  simpa using this
theorem pw_gi {α : Type} [Inhabited α] {R : α → α → Prop} {l : List α} (h : l.Pairwise R) {i j : Int} (h0 : 0 ≤ i) (hij : i < j) (hj : j < l.length) : R (gi l i) (gi l j) := by
  rw [List.pairwise_iff_getElem] at h
  rw [gi_el (by omega), gi_el (by omega)]
  exact h _ _ (by omega) (by omega) (by omega)
def CLt (a b : Cmd) : Prop := a.player < b.player ∨ (a.player = b.player ∧ a.seq < b.seq)
theorem flat_pw {s : List Inp} (hs : s.Pairwise InLt) (hm : MOk s) : (s.flatMap (·.commands)).Pairwise CLt := by
  have hpl : ∀ i ∈ s, ∀ c ∈ i.commands, c.player = i.player := fun i hi c hc => by
    obtain ⟨v, v0, v1, rfl⟩ := gi_mem2.1 hc
    exact ((hm.1 i hi).1.2.2 v v0 v1).1.2
  rw [List.pairwise_flatMap]
  refine ⟨fun i hi => adj_pw (fun a b c h1 h2 => by unfold CLt at *; omega) fun v v0 v1 => ?_, ?_⟩
  · have h1 := (hm.1 i hi).1.2.2
    have h2 := (h1 (v - 1) (by omega) (by omega)).1.2
    have h3 := h1 v (by omega) v1
    exact .inr ⟨by rw [h2, h3.1.2], h3.2 v0⟩
  · refine List.Pairwise.imp_of_mem ?_ hs
    intro a b ha hb hab x hx y hy
    have h1 := hpl a ha x hx
    have h2 := hpl b hb y hy
    have h3 := (hm.1 a ha).2 b hb
    unfold InLt at hab
    unfold CLt
    omega
theorem orders_law {p : Ask27} (h : p.Wf) : thronglaw27_TurnsOrders p = some true := by
  unfold thronglaw27_TurnsOrders
  obtain ⟨b, e, hb⟩ := heavy_p h
  rw [e, bsome]
  cases b with
  | true => rw [if_pos rfl]
  | false =>
    obtain ⟨⟨hl, hl8, hlc⟩, ⟨hm, hm8, hmc⟩, ht⟩ := hb rfl
    rw [if_neg (by simp)]
    obtain ⟨r, e1, h1, h2⟩ := merge_p hm
    rw [e1, bsome]
    have hfm := flat_len (n := 800) (l := p.more) fun i hi => (hmc i hi).1
    have hfm2 : (p.more.flatMap (·.commands)).length ≤ 640000 := by
      have : 800 * p.more.length ≤ 800 * 800 := Nat.mul_le_mul_left _ hm8
      omega
    refine Ok.eq (Ok.gd (by unfold I64; omega) (Ok.bind (R := fun x : Int × List Inp => x.2.Perm p.more ∧ x.1 = ((p.more.flatMap (·.commands)).length : Int)) (Ok.loop (fun z : List Inp × Int × Int => (-1 ≤ z.2.2 ∧ z.2.2 < p.more.length) ∧ z.1.Perm (p.more.drop (z.2.2 + 1).toNat) ∧ z.2.1 = (((p.more.drop (z.2.2 + 1).toNat).flatMap (·.commands)).length : Int)) (fun z => (z.2.2 + 1).toNat) ⟨⟨by show -1 ≤ (p.more.length : Int) - 1; omega, by show (p.more.length : Int) - 1 < _; omega⟩, ?_, ?_⟩ (by unfold FUEL; show ((p.more.length : Int) - 1 + 1).toNat < _; omega) ?_) ?_))
    · show ([] : List Inp).Perm (p.more.drop ((p.more.length : Int) - 1 + 1).toNat)
      rw [show ((p.more.length : Int) - 1 + 1).toNat = p.more.length by omega, List.drop_length]
    · show (0 : Int) = ((p.more.drop ((p.more.length : Int) - 1 + 1).toNat).flatMap (·.commands)).length
      rw [show ((p.more.length : Int) - 1 + 1).toNat = p.more.length by omega, List.drop_length]; rfl
    · rintro ⟨l, n, v⟩ ⟨⟨v0, v1⟩, hp, hn⟩
      dsimp only at v0 v1 hp hn ⊢
      refine Ok.ite (fun hge => ?_) (fun hge => Ok.ret ?_)
      · have hd : p.more.drop v.toNat = gi p.more v :: p.more.drop (v + 1).toNat := by
          rw [List.drop_eq_getElem_cons (by omega : v.toNat < p.more.length), gi_el (by omega), show (v + 1).toNat = v.toNat + 1 by omega]
        have hll := hp.length_eq
        rw [List.length_drop] at hll
        have hfd : ((p.more.drop (v + 1).toNat).flatMap (·.commands)).length ≤ (p.more.flatMap (·.commands)).length := by
          conv => rhs; rw [← List.take_append_drop (v + 1).toNat p.more]
          rw [List.flatMap_append, List.length_append]; omega
        have hc := (hmc _ (gi_mem (xs := p.more) (j := v) ⟨hge, v1⟩)).1
        refine Ok.gd ⟨hge, v1⟩ (Ok.gd (by omega) (Ok.gd ⟨hge, v1⟩ (Ok.gd (by unfold I64; omega) (Ok.gd (by unfold I64; omega) (Ok.ret ⟨⟨⟨by show -1 ≤ v - 1; omega, by show v - 1 < _; omega⟩, ?_, ?_⟩, by show (v - 1 + 1).toNat < (v + 1).toNat; omega⟩)))))
        · show (l ++ [gi p.more v]).Perm (p.more.drop (v - 1 + 1).toNat)
          rw [show v - 1 + 1 = v by omega, hd]
          exact (List.perm_append_singleton _ _).trans (hp.cons _)
        · show n + _ = (((p.more.drop (v - 1 + 1).toNat).flatMap (·.commands)).length : Int)
          rw [show v - 1 + 1 = v by omega, hd, List.flatMap_cons, List.length_append, hn]; omega
      · have : v = -1 := by omega
        subst this
        exact ⟨hp, hn⟩
    · rintro ⟨n, back⟩ ⟨hp, hn⟩
      dsimp only at hp hn ⊢
      have hSb := hm.perm hp
      obtain ⟨r2, e2, h3, h4⟩ := merge_p hSb
      rw [e2, bsome]
      by_cases hmo : MOk p.more
      · obtain ⟨s, hps, hs, rfl⟩ := h2 hmo
        obtain ⟨s', hps', hs', rfl⟩ := h4 ((MOk.perm hp).2 hmo)
        obtain rfl := rise_uniq (hps.trans (hps'.trans hp).symm) hs hs'
        have hSs := hm.perm hps
        have hfs : (s.flatMap (·.commands)).length = (p.more.flatMap (·.commands)).length := (hps.flatMap_right _).length_eq
        have hpw := flat_pw hs ((MOk.perm hps).2 hmo)
        obtain ⟨fl, hfl⟩ : ∃ fl, fl = s.flatMap (·.commands) := ⟨_, rfl⟩
        rw [← hfl] at hpw hfs ⊢
        dsimp only
        rw [num27_p, bsome, bsome]
        refine Ok.bindE (x := false) ?_ ?_
        · rw [if_neg (by simp), eqCs_p (by omega) (by rw [hfl]; exact flat_S hSs), bsome]; simp
        rw [if_neg (by simp), bsome, if_neg (by simp)]
        refine Ok.bind (scanOk (a := 1) (n := fl.length) (fun _ => True) (fun _ => False) (by omega) (fun v v0 v1 _ => ?_) (fun v v0 v1 => by rw [if_neg (by omega)])) ?_
        · have hr := pw_gi hpw (by omega : (0 : Int) ≤ v - 1) (by omega) v1
          have i1 : I64 (v - 1) := by unfold I64; omega
          have i2 : 0 ≤ v - 1 ∧ v - 1 < (fl.length : Int) := by omega
          have i3 : 0 ≤ v ∧ v < (fl.length : Int) := by omega
          rw [if_pos v1]
          refine Ok.gd i1 (Ok.gd i2 (Ok.gd i3 (Ok.gd (fun _ => i1) (Ok.gd (fun _ => i2) (Ok.gd (fun _ => i3) (Ok.gd (fun _ _ => i1) (Ok.gd (fun _ _ => i2) (Ok.gd (fun _ _ => i3) (Ok.ite (fun hc => ?_) (fun _ => Ok.gd (by unfold I64; omega) (Ok.ret ⟨rfl, trivial⟩)))))))))))
          exfalso
          unfold CLt at hr
          omega
        · rintro (_ | _) hx
          · dsimp only [Ex.then]
            rw [if_pos (by rw [hn, hfs]), wakes27_p]; exact Ok.ret rfl
          · exact hx.elim
      · obtain rfl := h1 hmo
        obtain rfl := h3 (fun hc => hmo ((MOk.perm hp).1 hc))
        dsimp only
        rw [num27_p, bsome, bsome]
        refine Ok.bindE (x := false) ?_ ?_
        · rw [if_neg (by simp), eqCs_p (by simp) (fun c hc => by simp at hc), bsome]; simp
        rw [if_neg (by simp), bsome, if_pos (by simp), wakes27_p]
        exact Ok.ret rfl
end Go.Proofs.Ytlpmiledfcblfaa
