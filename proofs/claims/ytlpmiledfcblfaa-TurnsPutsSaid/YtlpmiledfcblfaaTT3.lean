/-
  TurnsPuts, as a pure function, is true. For arguments that are Go's.
-/
import Derived.Test.YtlpmiledfcblfaaTT0
import Derived.Test.YtlpmiledfcblfaaTG3
set_option linter.unusedVariables false
set_option linter.unusedSimpArgs false
namespace Go.Proofs.Ytlpmiledfcblfaa
open Go.Vg Go.Lib
theorem puts_law {p : Ask27} (h : p.Wf) : thronglaw27_TurnsPuts p = some true := by
  unfold thronglaw27_TurnsPuts
  obtain ⟨b, e, hb⟩ := heavy_p h
  rw [e, bsome]
  cases b with
  | true => rw [if_pos rfl]
  | false =>
    obtain ⟨⟨hl, hl8, hlc⟩, ⟨hm, hm8, hmc⟩, ht⟩ := hb rfl
    rw [if_neg (by simp)]
    rw [copyIs_p hl, bsome]
    refine Ok.eq (Ok.bind (R := fun x : Ex Unit Bool => match x with | .go _ => True | .up _ => False) (Ok.loop (fun z : Int × List Inp => (0 ≤ z.1 ∧ z.1 ≤ 10) ∧ InpsS z.2 ∧ (z.2.length : Int) ≤ 800 + z.1) (fun z => (10 - z.1).toNat) ⟨by simp, hl, by simp; omega⟩ (by unfold FUEL; simp) ?_) ?_)
    · rintro ⟨v, l⟩ ⟨⟨v0, v1⟩, hS, hln⟩
      dsimp only at v0 v1 hS hln ⊢
      refine Ok.ite (fun hlt => ?_) (fun _ => Ok.ret trivial)
      have hx := hm.2 _ (gi_mem (xs := p.more) (j := v) ⟨v0, by omega⟩)
      obtain ⟨x, hxe⟩ : ∃ x, x = gi p.more v := ⟨_, rfl⟩
      rw [← hxe] at hx ⊢
      -- what is wanted, and what comes
      obtain ⟨bad, want, hw1, hw2, hwS, hwl⟩ : ∃ (bad : Int) (want : List Inp), (Option.bind (throngref27_List l) fun x15 => Option.bind (if x15 = true then if 0 ≤ v ∧ v < (p.more.length : Int) then Option.bind (throngref27_May x) fun x80 => some x80 else none else some false) fun b18 => Option.bind (α := Int × List Inp) (if b18 = true then if 0 ≤ v ∧ v < (p.more.length : Int) then Option.bind (throngref27_Put l x) fun x68 => some (x68.2, x68.1) else none else some (1, [])) fun z => some z) = some (bad, want) ∧ turns_Put l x = some (want, bad) ∧ InpsS want ∧ (bad = 0 → (want.length : Int) ≤ 800 + (v + 1)) := by
        have hput := put_p hS hx
        by_cases hlo : ListOk l
        · by_cases ho : InpOk x
          · have hR := putR_p hS hx (ListOk.iff.1 hlo).2
            by_cases hh : Has l x
            · refine ⟨12, [], ?_, hput.2.1 ⟨hlo, ho⟩ hh, ⟨by simp, fun i hi => by simp at hi⟩, fun e => by omega⟩
              rw [(list_b hS).t hlo, bsome, if_pos rfl, if_pos ⟨v0, by omega⟩, (mayR_b hx).t ho, bsome, bsome, if_pos rfl, if_pos ⟨v0, by omega⟩, hR.1 hh]; rfl
            · refine ⟨0, insI l x, ?_, hput.2.2 ⟨hlo, ho⟩ hh, insI_S hS (by omega) hx, fun e => by rw [insI_len]; omega⟩
              rw [(list_b hS).t hlo, bsome, if_pos rfl, if_pos ⟨v0, by omega⟩, (mayR_b hx).t ho, bsome, bsome, if_pos rfl, if_pos ⟨v0, by omega⟩, hR.2 hh]; rfl
          · refine ⟨1, [], ?_, hput.1 (fun hc => ho hc.2), ⟨by simp, fun i hi => by simp at hi⟩, fun e => by omega⟩
            rw [(list_b hS).t hlo, bsome, if_pos rfl, if_pos ⟨v0, by omega⟩, (mayR_b hx).f ho, bsome, bsome, if_neg (by simp)]; rfl
        · refine ⟨1, [], ?_, hput.1 (fun hc => hlo hc.1), ⟨by simp, fun i hi => by simp at hi⟩, fun e => by omega⟩
          rw [(list_b hS).f hlo, bsome, if_neg (by simp), bsome, if_neg (by simp)]; rfl
      obtain ⟨b1, hb1, hw1⟩ := bindE hw1
      obtain ⟨b2, hb2, hw1⟩ := bindE hw1
      obtain ⟨z, hz, hw1⟩ := bindE hw1
      obtain rfl := Option.some.inj hw1
      rw [hb1, bsome, hb2, bsome, hz, bsome]
      dsimp only
      rw [copyIs_p hS, bsome]
      refine Ok.gd ⟨v0, by omega⟩ ?_
      rw [copyI_p hx, bsome, hw2, bsome, num27_p, bsome]
      refine Ok.bindE (x := false) ?_ (Ok.bindE (x := false) ?_ ?_)
      · rw [if_neg (by simp), eqIs_p hwS, bsome]; simp
      · rw [if_neg (by simp), eqIs_p hS, bsome]; simp
      · rw [if_neg (by simp), inputs_p hwS, bsome, eqIs_p hS, bsome]
        refine Ok.ite (fun hc => by simp at hc) (fun _ => Ok.ite (fun hz0 => ?_) (fun _ => Ok.gd (by unfold I64; omega) (Ok.ret ⟨⟨⟨by show 0 ≤ v + 1; omega, by show v + 1 ≤ 10; omega⟩, hS, by show (l.length : Int) ≤ 800 + (v + 1); omega⟩, by show (10 - (v + 1)).toNat < (10 - v).toNat; omega⟩)))
        rw [copyIs_p hwS, bsome]
        exact Ok.gd (by unfold I64; omega) (Ok.ret ⟨⟨⟨by show 0 ≤ v + 1; omega, by show v + 1 ≤ 10; omega⟩, hwS, hwl hz0⟩, by show (10 - (v + 1)).toNat < (10 - v).toNat; omega⟩)
    · rintro (_ | _) hx
      · dsimp only [Ex.then]
        rw [wakes27_p, bsome]; exact Ok.ret rfl
      · exact hx.elim
end Go.Proofs.Ytlpmiledfcblfaa
