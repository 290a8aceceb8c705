/-
  PortalPairs, as a pure function, is true. For arguments that are Go's.
-/
import Derived.Test.YtddicdmleeaihaaPQP
import Derived.Test.YtddicdmleeaihaaPQG3
set_option linter.unusedVariables false
set_option linter.unusedSimpArgs false
namespace Go.Proofs.Ytddicdmleeaihaa
open Go.Vg Sp
open Classical in
noncomputable def ind (p : Prop) : Int := if p then 1 else 0
theorem ind_t {p : Prop} (h : p) : ind p = 1 := if_pos h
theorem ind_f {p : Prop} (h : ¬ p) : ind p = 0 := if_neg h
theorem ind_iff {p q : Prop} (h : p ↔ q) : ind p = ind q := by rw [propext h]
theorem ind_bd (p : Prop) : 0 ≤ ind p ∧ ind p ≤ 1 := by
  by_cases h : p
  · rw [ind_t h]; omega
  · rw [ind_f h]; omega
theorem ind_or {p q : Prop} (h : ¬ (p ∧ q)) : ind (p ∨ q) = ind p + ind q := by
  by_cases hp : p
  · rw [ind_t (.inl hp), ind_t hp, ind_f (fun hq => h ⟨hp, hq⟩)]; rfl
  · by_cases hq : q
    · rw [ind_t (.inr hq), ind_f hp, ind_t hq]; rfl
    · rw [ind_f (fun k => k.elim hp hq), ind_f hp, ind_f hq]; rfl
def sumN (f : Int → Int) : Nat → Int
  | 0 => 0
  | n + 1 => sumN f n + f (n : Int)
theorem sumN_congr {f g : Int → Int} : ∀ {n : Nat}, (∀ t : Int, 0 ≤ t → t < n → f t = g t) → sumN f n = sumN g n
  | 0, _ => rfl
  | n + 1, h => by
    show sumN f n + f n = sumN g n + g n
    rw [sumN_congr fun t a b => h t a (by omega), h n (by omega) (by omega)]
theorem sumN_add (f g : Int → Int) : ∀ n : Nat, sumN (fun t => f t + g t) n = sumN f n + sumN g n
  | 0 => rfl
  | n + 1 => by
    show sumN _ n + (f n + g n) = sumN f n + f n + (sumN g n + g n)
    rw [sumN_add f g n]; omega
theorem sumN_zero : ∀ n : Nat, sumN (fun _ => 0) n = 0
  | 0 => rfl
  | n + 1 => by show sumN _ n + 0 = 0; rw [sumN_zero n]; rfl
theorem sumN_one {a : Int} : ∀ {n : Nat}, 0 ≤ a → sumN (fun t => ind (t = a)) n = ind (a < n)
  | 0, h => by rw [ind_f (show ¬ a < ((0 : Nat) : Int) by omega)]; rfl
  | n + 1, h => by
    show sumN (fun t => ind (t = a)) n + ind ((n : Int) = a) = _
    rw [sumN_one h, ← ind_or (by omega)]
    exact ind_iff (by omega)
theorem sumN_bd {f : Int → Int} (h : ∀ t, 0 ≤ f t ∧ f t ≤ 2) : ∀ n : Nat, 0 ≤ sumN f n ∧ sumN f n ≤ 2 * n
  | 0 => by simp [sumN]
  | n + 1 => by
    have := sumN_bd h n; have := h n
    show 0 ≤ sumN f n + f n ∧ sumN f n + f n ≤ _
    omega
theorem sumN_list {α : Type} (f : α → Int → Int) (n : Nat) : ∀ l : List α, sumN (fun t => (l.map fun p => f p t).sum) n = (l.map fun p => sumN (f p) n).sum
  | [] => by simp [sumN_zero]
  | x :: l => by
    simp only [List.map_cons, List.sum_cons]
    rw [sumN_add, sumN_list f n l]
/-- One alone. -/
theorem sum_one {α : Type} {f : α → Prop} : ∀ {l : List α}, l.Nodup → (∀ a ∈ l, ∀ b ∈ l, f a → f b → a = b) → (l.map fun a => ind (f a)).sum = ind (∃ a ∈ l, f a)
  | [], _, _ => by simp [ind_f]
  | x :: l, hn, hu => by
    obtain ⟨h1, h2⟩ := List.nodup_cons.1 hn
    simp only [List.map_cons, List.sum_cons]
    rw [sum_one h2 fun a ha b hb => hu a (by simp [ha]) b (by simp [hb]), ← ind_or]
    · exact ind_iff (by simp)
    · rintro ⟨hx, a, ha, hfa⟩
      have := hu x (by simp) a (by simp [ha]) hx hfa
      subst this; exact h1 ha
/-- The tile t is in a portal's run. -/
def InRun (W H : Int) (fr : List Bool) (d : Bool) (t : Int) (p : Prt) : Prop := ∃ c v n, RunD W H fr d c v n ∧ p = prtD W d c v n ∧ ∃ j, v ≤ j ∧ j < v + n ∧ t = posD W d c j
def PairT (W H : Int) (fr : List Bool) (d : Bool) (t : Int) : Prop := ∃ c v, PairD W H fr d c v ∧ t = posD W d c v
theorem pair_sum {W H : Int} {fr : List Bool} {l : List Prt} (hl : PortalsOk W H fr l) (d : Bool) (t : Int) : (l.map fun p => ind (InRun W H fr d t p)).sum = ind (PairT W H fr d t) := by
  rw [sum_one hl.1.nodup]
  · refine ind_iff ⟨?_, ?_⟩
    · rintro ⟨p, hp, c, v, n, hr, e, j, j1, j2, e2⟩
      exact ⟨c, j, hr.pair ⟨j1, j2⟩, e2⟩
    · rintro ⟨c, v, hp, e⟩
      obtain ⟨s, n, hr, h1, h2⟩ := run_ex hp
      exact ⟨prtD W d c s n, (hl.2 _).2 ⟨d, c, s, n, hr, rfl⟩, c, s, n, hr, rfl, v, h1, h2, e⟩
  · rintro p _ q _ ⟨c, v, n, hr, rfl, j, j1, j2, e⟩ ⟨c', v', n', hr', rfl, j', j1', j2', e'⟩
    obtain ⟨rfl, rfl⟩ := posD_inj (H := H) hr.side.1 hr'.side.1 (hr.side.2 j j1 j2) (hr'.side.2 j' j1' j2') (e.symm.trans e')
    obtain ⟨rfl, rfl⟩ := hr.at hr' ⟨j1, j2⟩ ⟨j1', j2'⟩
    rfl
theorem width_one {W H : Int} {fr : List Bool} (hm : May W H) {d : Bool} {c v : Int} {p : Prt} (hc : 0 ≤ c ∧ c < sidD W H d) : ∀ {n : Nat}, (∀ j : Int, v ≤ j → j < v + n → 0 ≤ j ∧ j < limD W H d) →
    sumN (fun t => ind (∃ j, v ≤ j ∧ j < v + (n : Int) ∧ t = posD W d c j)) (W * H).toNat = n
  | 0, _ => by
    rw [sumN_congr (g := fun _ => 0) fun t _ _ => ind_f (by rintro ⟨j, a, b, _⟩; omega)]
    exact sumN_zero _
  | n + 1, h => by
    have hb := may_bd hm
    have hW : 1 ≤ W := by unfold May at hm; omega
    have hn := h (v + n) (by omega) (by omega)
    have e : ∀ t, ind (∃ j, v ≤ j ∧ j < v + ((n + 1 : Nat) : Int) ∧ t = posD W d c j) = ind (∃ j, v ≤ j ∧ j < v + (n : Int) ∧ t = posD W d c j) + ind (t = posD W d c (v + n)) := fun t => by
      rw [← ind_or]
      · refine ind_iff ⟨?_, ?_⟩
        · rintro ⟨j, a, b, e⟩
          by_cases hj : j = v + n
          · subst hj; exact .inr e
          · exact .inl ⟨j, a, by omega, e⟩
        · rintro (⟨j, a, b, e⟩ | e)
          · exact ⟨j, a, by omega, e⟩
          · exact ⟨v + n, by omega, by omega, e⟩
      · rintro ⟨⟨j, a, b, e1⟩, e2⟩
        have := (posD_inj (H := H) hc hc (h j a (by omega)) hn (e1.symm.trans e2)).2
        omega
    rw [sumN_congr fun t _ _ => e t, sumN_add, width_one (fr := fr) hm (p := p) hc fun j a b => h j a (by omega), sumN_one (posD_dm hc hn).1, ind_t (by have := posD_lt hW hc hn; omega)]
    omega
theorem width_sum {W H : Int} {fr : List Bool} (hm : May W H) {p : Prt} (h : IsP W H fr p) : sumN (fun t => ind (InRun W H fr false t p) + ind (InRun W H fr true t p)) (W * H).toNat = p.width := by
  obtain ⟨d, c, v, n, hr, rfl⟩ := h
  have hn := hr.n1
  have hself : ∀ t, ind (InRun W H fr d t (prtD W d c v n)) = ind (∃ j, v ≤ j ∧ j < v + ((n.toNat : Nat) : Int) ∧ t = posD W d c j) := fun t => by
    rw [Int.toNat_of_nonneg (by omega)]
    refine ind_iff ⟨?_, ?_⟩
    · rintro ⟨c', v', n', hr', e, j, a, b, e2⟩
      obtain ⟨_, rfl, rfl, rfl⟩ := hr.uniq hr' (by rw [e]) (by rw [e])
      exact ⟨j, a, b, e2⟩
    · rintro ⟨j, a, b, e⟩; exact ⟨c, v, n, hr, rfl, j, a, b, e⟩
  have hoth : ∀ d', d' ≠ d → ∀ t, ind (InRun W H fr d' t (prtD W d c v n)) = 0 := fun d' hd t => ind_f (by
    rintro ⟨c', v', n', hr', e, _⟩
    obtain ⟨h, _⟩ := hr.uniq hr' (by rw [e]) (by rw [e])
    exact hd h.symm)
  have hw : sumN (fun t => ind (InRun W H fr d t (prtD W d c v n))) (W * H).toNat = n := by
    rw [sumN_congr fun t _ _ => hself t, width_one (fr := fr) hm (p := prtD W d c v n) hr.side.1 (fun j a b => hr.side.2 j a (by omega))]
    omega
  rw [sumN_add]
  cases d with
  | true => rw [sumN_congr fun t _ _ => hoth false (by simp) t, sumN_zero, hw]; show 0 + n = n; omega
  | false => rw [sumN_congr (f := fun t => ind (InRun W H fr true t _)) fun t _ _ => hoth true (by simp) t, sumN_zero, hw]; show n + 0 = n; omega
/-- All widths together are all pairs. -/
theorem all_sum {W H : Int} {fr : List Bool} {l : List Prt} (hm : May W H) (hl : PortalsOk W H fr l) : sumN (fun t => ind (PairT W H fr false t) + ind (PairT W H fr true t)) (W * H).toNat = (l.map (·.width)).sum := by
  rw [sumN_congr fun t _ _ => by rw [← pair_sum hl false t, ← pair_sum hl true t], sumN_add, sumN_list, sumN_list]
  have e : ∀ m : List Prt, (∀ p ∈ m, IsP W H fr p) → (m.map fun p => sumN (fun t => ind (InRun W H fr false t p)) (W * H).toNat).sum + (m.map fun p => sumN (fun t => ind (InRun W H fr true t p)) (W * H).toNat).sum = (m.map (·.width)).sum := by
    intro m
    induction m with
    | nil => intro _; simp
    | cons x m ih =>
      intro h
      have h1 := width_sum hm (h x (by simp))
      rw [sumN_add] at h1
      have h2 := ih fun p hp => h p (by simp [hp])
      simp only [List.map_cons, List.sum_cons]
      omega
  exact e l fun p hp => (hl.2 p).1 hp
theorem sumP_take {l : List Prt} {i : Int} (h : 0 ≤ i ∧ i < l.length) : ((l.take (i + 1).toNat).map (·.width)).sum = ((l.take i.toNat).map (·.width)).sum + (gi l i).width := by
  rw [take_nextV h, List.map_append, List.sum_append]; simp
theorem pairT_of {W H : Int} {fr : List Bool} {d : Bool} {c v : Int} (hc : 0 ≤ c ∧ c < sidD W H d) (hv : 0 ≤ v ∧ v < limD W H d) : PairT W H fr d (posD W d c v) ↔ PairD W H fr d c v := by
  constructor
  · rintro ⟨c', v', hp, e⟩
    have ho := hp.1
    unfold OkB at ho
    obtain ⟨rfl, rfl⟩ := posD_inj (H := H) hc (by omega) hv hp.2.1 e
    exact hp
  · intro h; exact ⟨c, v, h, rfl⟩
theorem pairs_law {p : Ask} : thronglaw11_PortalPairs p = some true := by
  unfold thronglaw11_PortalPairs
  have hh : thronglaw11_heavy p = some (decide (900 < (p.Free.length : Int))) := rfl
  rw [hh, bsome]
  refine Ok.eq (Ok.ite (fun _ => Ok.ret rfl) (fun hn => ?_))
  rw [decide_eq_true_iff] at hn
  by_cases h : May p.W p.H ∧ (p.Free.length : Int) = p.W * p.H
  · obtain ⟨hm, hf⟩ := h
    have hm2 := hm
    unfold May at hm2
    have hbd := may_bd hm
    have hW := hm2.1.1
    obtain ⟨l, h1, _, hok, hlen⟩ := find_p hm hf
    rw [h1, bsome, num11_p, bsome]
    dsimp only
    rw [if_neg (by simp)]
    have hgb : ∀ t, 0 ≤ ind (PairT p.W p.H p.Free false t) + ind (PairT p.W p.H p.Free true t) ∧ ind (PairT p.W p.H p.Free false t) + ind (PairT p.W p.H p.Free true t) ≤ 2 := fun t => by
      have := ind_bd (PairT p.W p.H p.Free false t); have := ind_bd (PairT p.W p.H p.Free true t); omega
    refine Ok.bind (R := fun n : Int => n = (l.map (·.width)).sum ∧ 0 ≤ n ∧ n ≤ 40000) (Ok.loop (fun z : Int × Int => (0 ≤ z.2 ∧ z.2 ≤ p.W * p.H) ∧ z.1 = sumN (fun t => ind (PairT p.W p.H p.Free false t) + ind (PairT p.W p.H p.Free true t)) z.2.toNat) (fun z => (p.W * p.H - z.2).toNat) ⟨⟨by show (0 : Int) ≤ 0; omega, by show (0 : Int) ≤ _; omega⟩, rfl⟩ (by unfold FUEL; dsimp only; omega) ?_) ?_
    · rintro ⟨n, t⟩ ⟨⟨t0, t1⟩, hnt⟩
      dsimp only at t0 t1 hnt ⊢
      have hsb := sumN_bd hgb t.toNat
      refine Ok.gd (by unfold I64; omega) (Ok.ite (fun ht => Ok.gd (by omega) (Ok.gd (by unfold I64; omega) ?_)) (fun ht => Ok.ret ⟨?_, by omega, by omega⟩))
      · refine Ok.bind (R := fun b : Bool => b = true ↔ PairT p.W p.H p.Free false t) ?_ fun b hb => ?_
        · obtain ⟨c, v, htp, hc, hv, hcv⟩ := posD_of hW ⟨t0, ht⟩ false
          rw [if_neg (by simp)] at hcv
          rw [htp, pairT_of hc hv, ← htp]
          refine Ok.ite (fun h2 => Ok.gd (by unfold I64; omega) ?_) (fun h2 => Ok.ret ⟨fun e => (by cases e), fun k => ?_⟩)
          · have hcs : c + 1 < sidD p.W p.H false := by show c + 1 < p.W; omega
            have e1 : t + 1 = posD p.W false (c + 1) v := by rw [← posD_over, ← htp]; rfl
            have := posD_lt hW (d := false) (c := c + 1) (v := v) (H := p.H) (by omega) hv
            refine Ok.bind (apart_p hm hf ⟨t0, ht⟩ (by omega)) fun b hb => Ok.ret ?_
            rw [hb, e1, htp, apart_pair hm hc hv hcs]
          · have := k.1.2.2
            have : c + 1 < p.W := this
            omega
        · refine Ok.bind (R := fun m : Int => m = n + ind (PairT p.W p.H p.Free false t)) (Ok.ite (fun e => Ok.gd (by unfold I64; omega) (Ok.ret (by rw [ind_t (hb.1 e)]))) (fun e => Ok.ret (by rw [ind_f (fun k => e (hb.2 k))]; omega))) fun m hm3 => ?_
          have hi := ind_bd (PairT p.W p.H p.Free false t)
          refine Ok.gd (by omega) (Ok.gd (by unfold I64; omega) ?_)
          refine Ok.bind (R := fun b : Bool => b = true ↔ PairT p.W p.H p.Free true t) ?_ fun b2 hb2 => ?_
          · obtain ⟨c, v, htp, hc, hv, hcv⟩ := posD_of hW ⟨t0, ht⟩ true
            rw [if_pos rfl] at hcv
            rw [htp, pairT_of hc hv, ← htp]
            refine Ok.ite (fun h2 => Ok.gd (by unfold I64; omega) ?_) (fun h2 => Ok.ret ⟨fun e => (by cases e), fun k => ?_⟩)
            · have hcs : c + 1 < sidD p.W p.H true := by show c + 1 < p.H; omega
              have e1 : t + p.W = posD p.W true (c + 1) v := by rw [← posD_over, ← htp]; rfl
              have := posD_lt hW (d := true) (c := c + 1) (v := v) (H := p.H) (by omega) hv
              refine Ok.bind (apart_p hm hf ⟨t0, ht⟩ (by omega)) fun b hb => Ok.ret ?_
              rw [hb, e1, htp, apart_pair hm hc hv hcs]
            · have := k.1.2.2
              have : c + 1 < p.H := this
              omega
          · have hst : sumN (fun t => ind (PairT p.W p.H p.Free false t) + ind (PairT p.W p.H p.Free true t)) (t + 1).toNat = n + (ind (PairT p.W p.H p.Free false t) + ind (PairT p.W p.H p.Free true t)) := by
              rw [show (t + 1).toNat = t.toNat + 1 by omega, hnt]
              show _ + (ind (PairT p.W p.H p.Free false ((t.toNat : Nat) : Int)) + ind (PairT p.W p.H p.Free true ((t.toNat : Nat) : Int))) = _
              rw [Int.toNat_of_nonneg t0]
            refine Ok.ite (fun e => Ok.gd (by unfold I64; omega) (Ok.gd (by unfold I64; omega) (Ok.ret ⟨⟨⟨by show 0 ≤ t + 1; omega, by show t + 1 ≤ _; omega⟩, ?_⟩, by show (p.W * p.H - (t + 1)).toNat < (p.W * p.H - t).toNat; omega⟩))) (fun e => Ok.gd (by unfold I64; omega) (Ok.ret ⟨⟨⟨by show 0 ≤ t + 1; omega, by show t + 1 ≤ _; omega⟩, ?_⟩, by show (p.W * p.H - (t + 1)).toNat < (p.W * p.H - t).toNat; omega⟩))
            · show m + 1 = sumN _ (t + 1).toNat
              rw [hst, ind_t (hb2.1 e), hm3]; omega
            · show m = sumN _ (t + 1).toNat
              rw [hst, ind_f (fun k => e (hb2.2 k)), hm3]; omega
      · rw [hnt, ← all_sum hm hok, show t = p.W * p.H by omega]
    · rintro n ⟨hn1, hn2, hn3⟩
      refine Ok.bind (R := fun x => match x with | .go v => v = 0 | .up _ => False) (Ok.loop (fun z : Int × Int => (0 ≤ z.2 ∧ z.2 ≤ l.length) ∧ z.1 = n - ((l.take z.2.toNat).map (·.width)).sum ∧ -100000 ≤ z.1 ∧ z.1 ≤ n) (fun z => (l.length - z.2).toNat) ⟨⟨by show (0 : Int) ≤ 0; omega, by show (0 : Int) ≤ _; omega⟩, by simp, by show (-100000 : Int) ≤ n; omega, Int.le_refl _⟩ (by unfold FUEL; dsimp only; omega) ?_) ?_
      · rintro ⟨x, i⟩ ⟨⟨i0, i1⟩, hx, hx1, hx2⟩
        dsimp only at i0 i1 hx hx1 hx2 ⊢
        have wpos : ∀ m : List Prt, (∀ q ∈ m, IsP p.W p.H p.Free q) → 0 ≤ (m.map (·.width)).sum := by
          intro m
          induction m with
          | nil => intro _; simp
          | cons y m ih =>
            intro hq
            obtain ⟨d, c, v, w, hr, e⟩ := hq y (by simp)
            have := ih fun q hq2 => hq q (by simp [hq2])
            have hw := hr.n1
            have : y.width = w := by rw [e]; rfl
            simp only [List.map_cons, List.sum_cons]; omega
        refine Ok.ite (fun hlt => ?_) (fun hge => Ok.ret ?_)
        · have hmem : gi l i ∈ l := gi_mem (xs := l) ⟨i0, hlt⟩
          obtain ⟨d, c, v, w, hr, e⟩ := (hok.2 _).1 hmem
          have hw1 := hr.n1; have hw2 := hr.blk; have hw3 := hr.v0
          have hmid := hr.side.2 (v + (w - 1) / 2) (by omega) (by omega)
          have hc := hr.side.1
          have hcs : c + 1 < sidD p.W p.H d := hr.ok.2.2
          have ea : (gi l i).a = posD p.W d c (v + (w - 1) / 2) := by rw [e]; rfl
          have eb : (gi l i).b = posD p.W d (c + 1) (v + (w - 1) / 2) := by rw [← posD_over, e]; rfl
          have eb2 : (gi l i).b = (gi l i).a + ovrD p.W d := by rw [e]; rfl
          have ew : (gi l i).width = w := by rw [e]; rfl
          have ha := posD_dm hc hmid
          have hb1 := posD_lt hW (d := d) (c := c + 1) (v := v + (w - 1) / 2) (H := p.H) (by omega) hmid
          have hov : 1 ≤ ovrD p.W d ∧ ovrD p.W d ≤ 128 ∧ (ovrD p.W d = 1 ∨ ovrD p.W d = p.W) := by cases d <;> simp [ovrD] <;> omega
          have hrest : 0 ≤ ((l.drop (i.toNat + 1)).map (·.width)).sum := wpos _ fun q hq => (hok.2 q).1 (List.mem_of_mem_drop hq)
          have htot : (l.map (·.width)).sum = ((l.take i.toNat).map (·.width)).sum + ((gi l i).width + ((l.drop (i.toNat + 1)).map (·.width)).sum) := by
            have e1 : l.map (·.width) = (l.take i.toNat).map (·.width) ++ (l.drop i.toNat).map (·.width) := by rw [← List.map_append, List.take_append_drop]
            have e2 : l.drop i.toNat = gi l i :: l.drop (i.toNat + 1) := by
              rw [List.drop_eq_getElem_cons (by omega)]
              congr 1
              simp only [gi, List.getD, List.getElem?_eq_getElem (show i.toNat < l.length by omega)]; rfl
            rw [e1, List.sum_append, e2, List.map_cons, List.sum_cons]
          have hnb : ¬ (((((gi l i).a < 0) ∨ ((gi l i).b ≤ (gi l i).a)) ∨ ((p.W * p.H) ≤ (gi l i).b)) ∨ ((¬ (gi l i).b = (((gi l i).a) + 1)) ∧ (¬ (gi l i).b = (((gi l i).a) + p.W)))) := by omega
          have hnr : ¬ ((((gi l i).b = (((gi l i).a) + 1)) ∧ (1 < p.W)) ∧ ((((gi l i).a) % p.W) = (p.W - 1))) := by
            rintro ⟨⟨q1, q2⟩, q3⟩
            cases d with
            | true =>
              have : ovrD p.W true = p.W := rfl
              omega
            | false =>
              have h5 := ha.2
              rw [if_neg (by simp)] at h5
              rw [ea, h5.1] at q3
              have : c + 1 < p.W := hcs
              omega
          refine Ok.gd ⟨i0, hlt⟩ (Ok.gd ⟨i0, hlt⟩ (Ok.gd (fun _ => by unfold I64; omega) (Ok.gd (fun _ => by unfold I64; omega) (Ok.gd (fun _ _ => by unfold I64; omega) (Ok.gd (fun _ => by unfold I64; omega) (Ok.gd (fun _ _ => by omega) (Ok.gd (fun _ _ => by unfold I64; omega) ?_)))))))
          refine Ok.bind (R := fun b => b = false) ?_ fun b hb => ?_
          · rw [if_neg (fun q => q.elim hnb hnr)]
            refine Ok.bind (apart_p hm hf (by omega) (by omega)) fun b hb => Ok.ret ?_
            have : b = true := hb.2 (by rw [ea, eb, apart_pair hm hc hmid hcs]; exact hr.pair (by omega))
            rw [this]; rfl
          · subst hb
            refine Ok.gd (fun _ => ⟨i0, hlt⟩) (Ok.gd (fun _ => ⟨i0, hlt⟩) ?_)
            rw [if_neg (by rintro ((q | q) | q); cases q; omega; omega)]
            refine Ok.gd (fun _ => by unfold I64; omega) (Ok.gd (fun _ => by omega) (Ok.gd (fun _ _ => by unfold I64; omega) (Ok.gd (fun _ _ => by omega) (Ok.gd (fun _ _ _ => by unfold I64; omega) (Ok.gd (fun _ _ _ => by omega) ?_)))))
            rw [if_neg ?_]
            · refine Ok.gd ⟨i0, hlt⟩ (Ok.gd (by unfold I64; omega) (Ok.gd (by unfold I64; omega) (Ok.ret ⟨⟨⟨by show 0 ≤ i + 1; omega, by show i + 1 ≤ _; omega⟩, ?_, ?_, ?_⟩, by show ((l.length : Int) - (i + 1)).toNat < (l.length - i).toNat; omega⟩)))
              · show x - (gi l i).width = n - ((l.take (i + 1).toNat).map (·.width)).sum
                rw [sumP_take ⟨i0, hlt⟩]; omega
              · show -100000 ≤ x - (gi l i).width
                omega
              · show x - (gi l i).width ≤ n
                omega
            · rintro ⟨q1, q2⟩
              have hp := List.pairwise_iff_getElem.1 hok.1 (i - 1).toNat i.toNat (by omega) (by omega) (by omega)
              have g1 : gi l (i - 1) = l[(i - 1).toNat]'(by omega) := by simp only [gi, List.getD, List.getElem?_eq_getElem (show (i - 1).toNat < l.length by omega)]; rfl
              have g2 : gi l i = l[i.toNat]'(by omega) := by simp only [gi, List.getD, List.getElem?_eq_getElem (show i.toNat < l.length by omega)]; rfl
              rw [← g1, ← g2] at hp
              unfold PrLt at hp
              omega
        · show x = 0
          rw [show i.toNat = l.length by omega, List.take_length] at hx
          omega
      · rintro (v | v) hv
        · dsimp only [Ex.then] at hv ⊢
          subst hv
          rw [if_pos rfl, wakes_p, bsome, bsome]
          exact Ok.ret rfl
        · exact hv.elim
  · rw [find_n h, bsome, num11_p, bsome]
    dsimp only
    rw [if_pos (by simp)]
    exact Ok.ret rfl
end Go.Proofs.Ytddicdmleeaihaa
