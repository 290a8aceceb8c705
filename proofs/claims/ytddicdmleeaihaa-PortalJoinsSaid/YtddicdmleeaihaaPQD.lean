/-
  The page's portals are all runs of pairs, rising. The conditions stand in each lemma.
-/
import Derived.Test.YtddicdmleeaihaaPQC
import Derived.Test.YtddicdmleeaihaaSJ
set_option linter.unusedVariables false
set_option linter.unusedSimpArgs false
namespace Go.Proofs.Ytddicdmleeaihaa
open Go.Vg Sp
def secD (W : Int) (d : Bool) (c v : Int) : Int := if d = true then v / 8 + acr W * (c / 8) else c / 8 + acr W * (v / 8)
theorem sec_at {W H : Int} {d : Bool} {c v : Int} (hc : 0 ≤ c ∧ c < sidD W H d) (hv : 0 ≤ v ∧ v < limD W H d) : atS W (posD W d c v) = secD W d c v := by
  have h := (posD_dm hc hv).2
  unfold atS secD
  cases d with
  | true => rw [if_pos rfl] at h ⊢; rw [h.1, h.2]
  | false => rw [if_neg (by simp)] at h ⊢; rw [h.1, h.2]
theorem acr_pos {W : Int} (hW : 1 ≤ W) : 1 ≤ acr W := by unfold acr; omega
theorem mul_canc {a x y : Int} (ha : 1 ≤ a) : a * x = a * y ↔ x = y := ⟨fun h => Int.eq_of_mul_eq_mul_left (by omega) h, fun h => by rw [h]⟩
theorem sec_v {W : Int} {d : Bool} {c v v' : Int} (hW : 1 ≤ W) : secD W d c v = secD W d c v' ↔ v / 8 = v' / 8 := by
  have ha := acr_pos hW
  cases d with
  | true => show v / 8 + acr W * (c / 8) = v' / 8 + acr W * (c / 8) ↔ _; omega
  | false =>
    show c / 8 + acr W * (v / 8) = c / 8 + acr W * (v' / 8) ↔ _
    rw [← mul_canc ha (x := v / 8)]; omega
theorem sec_c {W : Int} {d : Bool} {c v : Int} (hW : 1 ≤ W) (hc : 0 ≤ c) : ¬ secD W d c v = secD W d (c + 1) v ↔ c % 8 = 7 := by
  have ha := acr_pos hW
  have key : secD W d c v = secD W d (c + 1) v ↔ c / 8 = (c + 1) / 8 := by
    cases d with
    | true =>
      show v / 8 + acr W * (c / 8) = v / 8 + acr W * ((c + 1) / 8) ↔ _
      rw [← mul_canc ha (x := c / 8)]; omega
    | false => show c / 8 + acr W * (v / 8) = (c + 1) / 8 + acr W * (v / 8) ↔ _; omega
  rw [key]; omega
theorem pair_p {W H : Int} {fr : List Bool} {d : Bool} {c v : Int} (hm : May W H) (hf : (fr.length : Int) = W * H) (hc : 0 ≤ c ∧ c < sidD W H d) (hv : 0 ≤ v ∧ v < limD W H d) :
    Ok (throngref10_pair W H fr (posD W d c v) d) (fun r => (r.2 = true ↔ OkB W H d c ∧ QD W fr d c v) ∧ (c + 1 < sidD W H d → r.1 = posD W d (c + 1) v)) := by
  have hm2 := hm
  unfold May at hm2
  have hbd := mul_bd (a := W) (b := H) (A := 128) (B := 128) (by omega) (by omega)
  have hlt := posD_lt hm2.1.1 hc hv
  obtain ⟨h0, hdm⟩ := posD_dm hc hv
  have hov := posD_over (W := W) (d := d) (c := c) (v := v)
  unfold throngref10_pair
  refine Ok.gd (by unfold I64; omega) ?_
  refine Ok.bind (R := fun x => match x with | .up r => r = (0, false) ∧ ¬ c + 1 < sidD W H d | .go u => u = posD W d (c + 1) v ∧ c + 1 < sidD W H d) ?_ ?_
  · cases d with
    | true =>
      rw [if_pos rfl] at hdm ⊢
      have hc : 0 ≤ c ∧ c < H := hc
      refine Ok.gd (by unfold I64; omega) (Ok.gd (by omega) (Ok.gd (by unfold I64; omega) (Ok.ite (fun e => Ok.ret ⟨rfl, ?_⟩) (fun e => Ok.ret ⟨?_, ?_⟩))))
      · show ¬ c + 1 < H; omega
      · exact hov
      · show c + 1 < H; omega
    | false =>
      rw [if_neg (by simp)] at hdm ⊢
      have hc : 0 ≤ c ∧ c < W := hc
      refine Ok.gd (by omega) (Ok.gd (by unfold I64; omega) (Ok.ite (fun e => Ok.ret ⟨rfl, ?_⟩) (fun e => Ok.ret ⟨?_, ?_⟩)))
      · show ¬ c + 1 < W; omega
      · exact hov
      · show c + 1 < W; omega
  · rintro (u | r) hr
    · obtain ⟨rfl, hcs⟩ := hr
      have hlt2 := posD_lt hm2.1.1 (c := c + 1) (v := v) (d := d) (by omega) hv
      have h02 := (posD_dm (c := c + 1) (v := v) (d := d) (W := W) (H := H) (by omega) hv).1
      dsimp only [Ex.then]
      refine Ok.gd ⟨h0, by omega⟩ (Ok.gd (fun _ => ⟨h02, by omega⟩) ?_)
      refine Ok.bind (R := fun b => b = true ↔ OkB W H d c ∧ QD W fr d c v) ?_ fun b hb => Ok.ret ⟨hb, fun _ => rfl⟩
      unfold QD OkB
      rw [hov]
      refine Ok.ite (fun hq => ?_) (fun hq => Ok.ret ⟨fun e => (by cases e), fun k => absurd k.2 hq⟩)
      rw [ofR_p hm2.1 (by omega), bsome, ofR_p hm2.1 (by omega), bsome, sec_at hc hv, sec_at (H := H) (c := c + 1) (by omega) hv]
      refine Ok.ret ?_
      rw [decide_eq_true_iff, sec_c hm2.1.1 hc.1]
      exact ⟨fun k => ⟨⟨hc.1, k, hcs⟩, hq⟩, fun k => k.1.2.1⟩
    · obtain ⟨rfl, hcs⟩ := hr
      dsimp only [Ex.then]
      refine Ok.ret ⟨⟨fun e => (by cases e), fun k => absurd k.1.2.2 hcs⟩, fun e => absurd e hcs⟩
theorem copyP_p {l : List Prt} (h : l.length < 1099511627776) : throngref0_CopyPortals l = some l := copyF_eq h
theorem with_p {l : List Prt} {p : Prt} (hl : l.length ≤ 1000000) (hs : StrP l) (hn : ∀ q ∈ l, ¬ (q.a = p.a ∧ q.b = p.b)) :
    Ok (throngref10_with l p) (fun m => StrP m ∧ (m.length = l.length + 1) ∧ ∀ q, q ∈ m ↔ q = p ∨ q ∈ l) := by
  unfold throngref10_with
  refine Ok.bind (R := fun i : Int => (0 ≤ i ∧ i ≤ l.length) ∧ (∀ j : Int, 0 ≤ j → j < i → PrLt (gi l j) p) ∧ ¬ (i < l.length ∧ PrLt (gi l i) p)) (Ok.loop (fun i : Int => (0 ≤ i ∧ i ≤ l.length) ∧ ∀ j : Int, 0 ≤ j → j < i → PrLt (gi l j) p) (fun i => (l.length - i).toNat) ⟨⟨Int.le_refl _, by omega⟩, fun j a b => by omega⟩ (by unfold FUEL; omega) ?_) ?_
  · rintro i ⟨⟨i0, i1⟩, hi⟩
    refine Ok.gd (fun h => by omega) (Ok.gd (fun h _ => by omega) (Ok.gd (fun h _ _ => by omega) (Ok.ite (fun hc => Ok.gd (by unfold I64; omega) (Ok.ret ⟨⟨⟨by omega, by omega⟩, fun j a b => ?_⟩, by omega⟩)) (fun hc => Ok.ret ⟨⟨i0, i1⟩, hi, hc⟩))))
    by_cases e : j = i
    · subst e; exact hc.2
    · exact hi j a (by omega)
  · rintro i ⟨⟨i0, i1⟩, hi, hd⟩
    refine Ok.bind (R := fun m => m = l.take i.toNat ++ [p]) (Ok.gd ⟨i0, i1⟩ ?_) fun m hm => ?_
    · rw [copyP_p (by rw [List.length_take]; omega), bsome]
      exact Ok.gd (by rw [List.length_take]; omega) (Ok.ret rfl)
    · subst hm
      refine Ok.gd ⟨i0, i1⟩ (Ok.gd (by simp only [List.length_append, List.length_take, List.length_drop, List.length_cons, List.length_nil]; omega) (Ok.ret ⟨?_, ?_, fun q => ?_⟩))
      · have hs2 : (l.take i.toNat ++ l.drop i.toNat).Pairwise PrLt := by rw [List.take_append_drop]; exact hs
        obtain ⟨s1, s2, s3⟩ := List.pairwise_append.1 hs2
        have hlow : ∀ q ∈ l.take i.toNat, PrLt q p := fun q hq => by
          obtain ⟨j, hj, e⟩ := List.getElem_of_mem hq
          rw [List.length_take] at hj
          have := hi (j : Int) (by omega) (by omega)
          rw [gi_nat] at this
          rw [List.getElem_take] at e
          rw [← e]
          simpa [List.getD, List.getElem?_eq_getElem (show j < l.length by omega)] using this
        have hup : ∀ q ∈ l.drop i.toNat, PrLt p q := fun q hq => by
          have hlt : i < l.length := by
            apply Classical.byContradiction; intro e
            rw [List.drop_of_length_le (by omega)] at hq; cases hq
          have hne := hn _ (gi_mem (xs := l) ⟨i0, hlt⟩)
          have hnl : ¬ PrLt (gi l i) p := fun k => hd ⟨hlt, k⟩
          have hpi : PrLt p (gi l i) := by unfold PrLt at *; omega
          have hcons : l.drop i.toNat = gi l i :: l.drop (i.toNat + 1) := by
            rw [List.drop_eq_getElem_cons (by omega)]
            congr 1
            simp only [gi, List.getD, List.getElem?_eq_getElem (show i.toNat < l.length by omega)]; rfl
          rw [hcons] at hq s2
          rcases List.mem_cons.1 hq with rfl | hq
          · exact hpi
          · have := (List.pairwise_cons.1 s2).1 q hq
            unfold PrLt at *; omega
        rw [List.append_assoc]
        refine List.pairwise_append.2 ⟨s1, List.pairwise_cons.2 ⟨hup, s2⟩, fun a ha b hb => ?_⟩
        rcases List.mem_cons.1 hb with rfl | hb
        · exact hlow a ha
        · exact s3 a ha b hb
      · simp only [List.length_append, List.length_take, List.length_drop, List.length_cons, List.length_nil]; omega
      · rw [List.append_assoc, List.mem_append, List.singleton_append, List.mem_cons]
        have : q ∈ l ↔ q ∈ l.take i.toNat ∨ q ∈ l.drop i.toNat := by rw [← List.mem_append, List.take_append_drop]
        rw [this]
        constructor
        · rintro (h | h | h)
          · exact .inr (.inl h)
          · exact .inl h
          · exact .inr (.inr h)
        · rintro (h | h | h)
          · exact .inr (.inl h)
          · exact .inl h
          · exact .inr (.inr h)
end Go.Proofs.Ytddicdmleeaihaa
