/-
  TurnsMerges, as a pure function, is true. For arguments that are Go's.
-/
import Derived.Test.YtlpmiledfcblfaaTT0
import Derived.Test.YtlpmiledfcblfaaTG2
set_option linter.unusedVariables false
set_option linter.unusedSimpArgs false
namespace Go.Proofs.Ytlpmiledfcblfaa
open Go.Vg Go.Lib
theorem merges_law {p : Ask27} (h : p.Wf) : thronglaw27_TurnsMerges p = some true := by
  unfold thronglaw27_TurnsMerges
  obtain ⟨b, e, hb⟩ := heavy_p h
  rw [e, bsome]
  cases b with
  | true => rw [if_pos rfl]
  | false =>
    obtain ⟨⟨hl, hl8, hlc⟩, ⟨hm, hm8, hmc⟩, ht⟩ := hb rfl
    rw [if_neg (by simp)]
    refine Ok.eq (Ok.bind (scanOk (a := 0) (n := min (p.more.length + 1) 8) (fun _ => True) (fun _ => False) (by omega) (fun v v0 v1 _ => ?_) (fun v v0 v1 => by rw [if_neg (by omega)])) ?_)
    · rw [if_pos (by omega)]
      have hS := hm.take v.toNat
      have hSl := hS.1
      have hlen : (p.more.take v.toNat).length ≤ 7 := by rw [List.length_take]; omega
      refine Ok.gd ⟨v0, by omega⟩ ?_
      rw [copyIs_p hS, bsome]
      obtain ⟨r, e1, h1, h2⟩ := merge_p hS
      obtain ⟨r', e2, h3, h4⟩ := mergeR_p hS (by omega)
      rw [e1, bsome]
      refine Ok.gd ⟨v0, by omega⟩ ?_
      rw [e2, bsome]
      by_cases hmo : MOk (p.more.take v.toNat)
      · obtain ⟨s, hp, hs, rfl⟩ := h2 hmo
        obtain ⟨s', hp', hs', rfl⟩ := h4 hmo
        obtain rfl := rise_uniq (hp.trans hp'.symm) hs hs'
        have hSs := hS.perm hp
        have hfl := flat_len (n := 800) (l := s) fun i hi => (hmc i (List.mem_of_mem_take (hp.mem_iff.1 hi))).1
        have hsl := hp.length_eq
        have hfl2 : (s.flatMap (·.commands)).length ≤ 1000000 := by
          have : 800 * s.length ≤ 800 * 7 := Nat.mul_le_mul_left _ (by omega)
          omega
        dsimp only
        rw [num27_p, bsome]
        refine Ok.bindE (x := false) (by rw [if_neg (by simp), if_neg (by simp)]; rfl) (Ok.bindE (x := false) ?_ (Ok.bindE (x := false) ?_ ?_))
        · rw [if_neg (by simp), eqCs_p hfl2 (flat_S hSs), bsome]; simp
        · rw [if_neg (by simp), if_pos ⟨v0, by omega⟩, eqIs_p hS, bsome]; simp
        · rw [if_neg (by simp), commands_p hfl2 (flat_S hSs), bsome]
          refine Ok.gd ⟨v0, by omega⟩ ?_
          rw [eqIs_p hS, bsome]
          exact Ok.ite (fun hc => by simp at hc) (fun _ => Ok.gd (by unfold I64; omega) (Ok.ret ⟨rfl, trivial⟩))
      · obtain rfl := h1 hmo
        obtain rfl := h3 hmo
        dsimp only
        rw [num27_p, bsome]
        refine Ok.bindE (x := false) (by rw [if_neg (by simp), if_pos (by rfl)]; rfl) (Ok.bindE (x := false) ?_ (Ok.bindE (x := false) ?_ ?_))
        · rw [if_neg (by simp), eqCs_p (by simp) (fun c hc => by simp at hc), bsome]; simp
        · rw [if_neg (by simp), if_pos ⟨v0, by omega⟩, eqIs_p hS, bsome]; simp
        · rw [if_neg (by simp), commands_p (by simp) (fun c hc => by simp at hc), bsome]
          refine Ok.gd ⟨v0, by omega⟩ ?_
          rw [eqIs_p hS, bsome]
          exact Ok.ite (fun hc => by simp at hc) (fun _ => Ok.gd (by unfold I64; omega) (Ok.ret ⟨rfl, trivial⟩))
    · rintro (_ | _) hx
      · dsimp only [Ex.then]
        rw [wakes27_p, bsome]; exact Ok.ret rfl
      · exact hx.elim
end Go.Proofs.Ytlpmiledfcblfaa
