/-
  PeerExact, as a pure function, is true. For arguments that are Go's.
-/
import Derived.Test.YtnadebijiaelkaaGreatW6
import Derived.Test.YtnadebijiaelkaaGreatPGL6
set_option linter.unusedVariables false
set_option linter.unusedSimpArgs false
namespace Go.Proofs.YtnadebijiaelkaaGreat
open Go.Vg
open Go
theorem exact_law {p : Scr28} (h : p.Wf) : thronglaw28_PeerExact p = some true := by
  unfold thronglaw28_PeerExact
  obtain ⟨b, eb, hb⟩ := heavy28_p h
  have hlen := h.2.2
  rw [eb, bsome]
  cases b with
  | true => rw [if_pos rfl]
  | false =>
    obtain ⟨hB, hA⟩ := hb rfl
    have hS := hB.S (by decide)
    rw [if_neg (by simp), copyP_p hS, bsome]
    obtain ⟨v, ev, hv⟩ := peer_b hS
    have hck : ∃ c, (if v = true then some (0 : Int) else some 1) = some c ∧ peer_Check p.p = some c := by
      unfold peer_Check
      cases v with
      | true => exact ⟨0, rfl, by rw [(may_b hS).t (hv.1 rfl), bsome, if_neg (by simp)]⟩
      | false =>
        have hnv : ¬ Val p.p := fun k => by have := hv.2 k; cases this
        exact ⟨1, rfl, by rw [(may_b hS).f hnv, bsome, if_pos (by rfl)]⟩
    obtain ⟨c, hc1, hc2⟩ := hck
    rw [ev, bsome, hc1, bsome, hc2, bsome, num28_p, bsome, if_neg (by simp)]
    refine Ok.eq (Ok.bind (R := fun x => match x with | .go _ => True | .up _ => False)
      (Ok.loop (fun z : Int × Int × Int × Int × Int × Int × Bool × List Inp × List Inp × List Int × List Int × List UInt64 => (0 ≤ z.1 ∧ z.1 ≤ 12) ∧ PerB z.1 ⟨z.2.1, z.2.2.1, z.2.2.2.1, z.2.2.2.2.1, z.2.2.2.2.2.1, z.2.2.2.2.2.2.2.1, z.2.2.2.2.2.2.2.2.1, z.2.2.2.2.2.2.2.2.2.1, z.2.2.2.2.2.2.2.2.2.2.1, z.2.2.2.2.2.2.2.2.2.2.2, z.2.2.2.2.2.2.1⟩) (fun z => (12 - z.1).toNat) ⟨⟨by show (0 : Int) ≤ 0; omega, by show (0 : Int) ≤ 12; omega⟩, hB⟩ (by unfold FUEL; dsimp only; omega) ?_) ?_)
    · rintro ⟨i, a1, a2, a3, a4, a5, a6, a7, a8, a9, a10, a11⟩ ⟨⟨i0, i1⟩, hq⟩
      dsimp only at i0 i1 hq ⊢
      refine Ok.ite (fun hlt => ?_) (fun _ => Ok.ret trivial)
      have hact := hA _ (gi_mem (xs := p.l) (j := i) ⟨i0, hlt.1⟩)
      obtain ⟨r, er, hr1, hr2⟩ := step_p (by omega) hq hact
      rw [if_pos ⟨i0, hlt.1⟩, er, bsome, bsome]
      dsimp only
      rw [if_neg (by rw [hr1]; simp)]
      have hcp : throngref0_CopyPeer ⟨r.1.id, r.1.players, r.1.delay, r.1.turn, r.1.said, r.1.mine, r.1.inputs, r.1.has, r.1.acked, r.1.hashes, r.1.split⟩ = some r.1 := copyP_p (hr2.S (by omega))
      rw [hcp, bsome]
      exact Ok.gd (by unfold I64; omega) (Ok.ret ⟨⟨⟨by show 0 ≤ i + 1; omega, by show i + 1 ≤ 12; omega⟩, hr2⟩, by show (12 - (i + 1)).toNat < (12 - i).toNat; omega⟩)
    · rintro (⟨b1, b2, b3, b4, b5, b6, b7, b8, b9, b10, b11⟩ | _) hz
      · dsimp only [Ex.then]
        rw [wakes28_p, bsome]; exact Ok.ret rfl
      · exact hz.elim
end Go.Proofs.YtnadebijiaelkaaGreat
