/-
  What portal.Find answers; what the statements of the portals ask first.
-/
import Derived.Test.YtddicdmleeaihaaPQE
set_option linter.unusedVariables false
set_option linter.unusedSimpArgs false
namespace Go.Proofs.Ytddicdmleeaihaa
open Go.Vg Sp
theorem find_n {W H : Int} {fr : List Bool} (h : ¬ (May W H ∧ (fr.length : Int) = W * H)) : portal_Find W H fr = some ([], 1) := by
  unfold portal_Find
  rw [may_p, bsome]
  by_cases hm : May W H
  · have := may_bd hm
    rw [if_pos (fun _ => by unfold I64; omega), if_pos (.inr fun e => h ⟨hm, e⟩)]
  · rw [if_pos (fun e => absurd (show (!decide (May W H)) = true by simp [hm]) e), if_pos (.inl (by simp [hm]))]
theorem find_p {W H : Int} {fr : List Bool} (hm : May W H) (hf : (fr.length : Int) = W * H) : ∃ l, portal_Find W H fr = some (l, 0) ∧ throngref10_Find W H fr = some l ∧ PortalsOk W H fr l ∧ l.length ≤ 5000 := by
  have hb := may_bd hm
  obtain ⟨l, hl, hok, hlen⟩ := all_p hm hf
  obtain ⟨m, hm2, hmok⟩ := refFind_p hm hf
  have e := hmok.uniq hok
  subst e
  refine ⟨m, ?_, hm2, hok, hlen⟩
  unfold portal_Find
  rw [may_p, bsome, if_pos (fun _ => by unfold I64; omega), if_neg (by rintro (e | e); simp [hm] at e; exact e hf), hl, bsome]
theorem find_of {W H : Int} {fr : List Bool} {l : List Prt} (hm : May W H) (hf : (fr.length : Int) = W * H) (h : throngref10_Find W H fr = some l) : portal_Find W H fr = some (l, 0) := by
  obtain ⟨m, h1, h2, _⟩ := find_p hm hf
  rw [h] at h2
  rw [h1, Option.some.inj h2]
theorem eqP_p {a b : List Prt} (h : a.length ≤ 9223372036854775807) : throngref0_EqPortals a b = some (decide (a = b)) := eqF_eq h
theorem spoilP_p {l : List Prt} (h : l.length < 1099511627776) : Ok (thronglaw0_Portals l) (fun _ => True) := by
  unfold thronglaw0_Portals
  refine Ok.bind (R := fun _ => True) (Ok.loop (fun z : Int × List Prt => 0 ≤ z.1 ∧ z.1 ≤ l.length) (fun z => (l.length - z.1).toNat) ⟨by show (0 : Int) ≤ 0; omega, by show (0 : Int) ≤ _; omega⟩ (by unfold FUEL; dsimp only; omega) ?_) (fun _ _ => Ok.ret trivial)
  rintro ⟨i, m⟩ ⟨h0, h1⟩
  dsimp only at h0 h1 ⊢
  exact Ok.ite (fun hlt => Ok.gd ⟨h0, hlt⟩ (Ok.gd (by unfold I64; omega) (Ok.ret ⟨⟨by show 0 ≤ i + 1; omega, by show i + 1 ≤ _; omega⟩, by show ((l.length : Int) - (i + 1)).toNat < (l.length - i).toNat; omega⟩))) (fun _ => Ok.ret trivial)
theorem num11_p (e : Int) : thronglaw11_num e = some e := rfl
theorem wakesR : throngref10_Find 16 1 (List.replicate 16 true) = some [⟨7, 8, 1⟩] := by decide +kernel
theorem wakesL : (loop (σ := Int × List Bool) (β := List Bool) (fun (v14, l15) =>
  if v14 < 16 then
  if 0 ≤ v14 ∧ v14 < ((16 : Int).toNat : Int) then
  if I64 (v14 + 1) then
  some (St.next ((v14 + 1), (si l15 v14 true)))
  else none
  else none
  else
  some (St.done l15)) (0, (List.replicate (16 : Int).toNat false))) = some (List.replicate 16 true) := by decide +kernel
theorem wakes_p : thronglaw11_wakes = some true := by
  unfold thronglaw11_wakes
  rw [if_pos (by omega), wakesL, bsome, find_of (by unfold May; omega) (by rfl) wakesR, bsome, num11_p, bsome, if_pos rfl, eqP_p (by simp), bsome]
  rfl
end Go.Proofs.Ytddicdmleeaihaa
