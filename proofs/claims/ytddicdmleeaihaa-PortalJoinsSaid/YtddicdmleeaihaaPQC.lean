/-
  All portals of the program. The conditions stand in each lemma.
-/
import Derived.Test.YtddicdmleeaihaaPQB
set_option linter.unusedVariables false
set_option linter.unusedSimpArgs false
namespace Go.Proofs.Ytddicdmleeaihaa
open Go.Vg Sp
def cxD (d : Bool) (c v : Int) : Int := if d = true then v - v % 8 else c - 7
def cyD (d : Bool) (c v : Int) : Int := if d = true then c - 7 else v - v % 8
def Bef (y x : Int) (d : Bool) (c v : Int) : Prop := cyD d c v < y ∨ (cyD d c v = y ∧ cxD d c v < x)
def AI (W H : Int) (fr : List Bool) (S : Bool → Int → Int → Prop) (l : List Prt) : Prop := l.Nodup ∧ ∀ p, p ∈ l ↔ ∃ d c v n, RunD W H fr d c v n ∧ S d c v ∧ p = prtD W d c v n
theorem AI.weak {W H : Int} {fr : List Bool} {S S' : Bool → Int → Int → Prop} {l : List Prt} (h : AI W H fr S l) (e : ∀ d c v n, RunD W H fr d c v n → (S d c v ↔ S' d c v)) : AI W H fr S' l := by
  refine ⟨h.1, fun p => ?_⟩
  rw [h.2 p]
  constructor
  · rintro ⟨d, c, v, n, hr, hs, hp⟩; exact ⟨d, c, v, n, hr, (e d c v n hr).1 hs, hp⟩
  · rintro ⟨d, c, v, n, hr, hs, hp⟩; exact ⟨d, c, v, n, hr, (e d c v n hr).2 hs, hp⟩
theorem AI.add {W H : Int} {fr : List Bool} {S : Bool → Int → Int → Prop} {l x : List Prt} {d : Bool} {c k : Int} (h : AI W H fr S l) (hn : x.Nodup) (hx : ∀ p, p ∈ x ↔ ∃ v n, RunD W H fr d c v n ∧ v - v % 8 = k ∧ p = prtD W d c v n)
    (hd : ∀ v, S d c v → v - v % 8 = k → False) : AI W H fr (fun d' c' v' => S d' c' v' ∨ (d' = d ∧ c' = c ∧ v' - v' % 8 = k)) (l ++ x) := by
  refine ⟨List.nodup_append.2 ⟨h.1, hn, fun p hp q hq e => ?_⟩, fun p => ?_⟩
  · subst e
    obtain ⟨d', c', v', n', hr, hs, e1⟩ := (h.2 p).1 hp
    obtain ⟨v, n, kr, kv, e2⟩ := (hx p).1 hq
    obtain ⟨rfl, rfl, rfl, rfl⟩ := hr.uniq kr (by rw [← e1, ← e2]) (by rw [← e1, ← e2])
    exact hd _ hs kv
  · rw [List.mem_append, h.2 p, hx p]
    constructor
    · rintro (⟨d', c', v', n', hr, hs, e1⟩ | ⟨v, n, kr, kv, e2⟩)
      · exact ⟨d', c', v', n', hr, .inl hs, e1⟩
      · exact ⟨d, c, v, n, kr, .inr ⟨rfl, rfl, kv⟩, e2⟩
    · rintro ⟨d', c', v', n', hr, hs | ⟨rfl, rfl, hk⟩, e1⟩
      · exact .inl ⟨d', c', v', n', hr, hs, e1⟩
      · exact .inr ⟨v', n', hr, hk, e1⟩
theorem all_p {W H : Int} {fr : List Bool} (hm : May W H) (hf : (fr.length : Int) = W * H) : Ok (portal_All W H fr) (fun l => PortalsOk W H fr l ∧ l.length ≤ 5000) := by
  have hm2 := hm
  unfold May at hm2
  unfold portal_All
  refine Ok.bind (R := fun l => AI W H fr (fun _ _ _ => True) l ∧ l.length ≤ 5000) (Ok.loop (fun z : List Prt × Int => (0 ≤ z.2 ∧ z.2 % 8 = 0 ∧ z.2 ≤ H + 7) ∧ (z.1.length : Int) ≤ 300 * (z.2 / 8) ∧ AI W H fr (Bef z.2 0) z.1) (fun z => (H - z.2).toNat)
    ⟨⟨by decide, by decide, by show 0 ≤ H + 7; omega⟩, by decide, List.nodup_nil, fun p => ⟨fun h => (by cases h), fun ⟨d, c, v, n, hr, hs, _⟩ => ?_⟩⟩ (by unfold FUEL; dsimp only; omega) ?_) ?_
  · exfalso
    have h1 := hr.ok; have h2 := hr.v0
    unfold OkB at h1
    unfold Bef cyD cxD at hs
    cases d <;> simp at hs <;> omega
  · rintro ⟨l, y⟩ ⟨⟨y0, y8, y1⟩, hl, hA⟩
    dsimp only at y0 y8 y1 hl hA ⊢
    refine Ok.ite (fun hy => ?_) (fun hy => Ok.ret ⟨hA.weak fun d c v n hr => ⟨fun _ => trivial, fun _ => .inl ?_⟩, by omega⟩)
    · refine Ok.bind (R := fun l => (l.length : Int) ≤ 300 * ((y + 8) / 8) ∧ AI W H fr (Bef (y + 8) 0) l) (Ok.loop (fun z : Int × List Prt => (0 ≤ z.1 ∧ z.1 % 8 = 0 ∧ z.1 ≤ W + 7) ∧ (z.2.length : Int) ≤ 300 * (y / 8) + 18 * (z.1 / 8) ∧ AI W H fr (Bef y z.1) z.2) (fun z => (W - z.1).toNat)
        ⟨⟨by show (0 : Int) ≤ 0; omega, by show (0 : Int) % 8 = 0; omega, by show 0 ≤ W + 7; omega⟩, by show (l.length : Int) ≤ 300 * (y / 8) + 18 * (0 / 8); omega, hA⟩ (by unfold FUEL; dsimp only; omega) ?_) (fun l2 h2 => Ok.gd (by unfold I64; omega) (Ok.ret ⟨⟨⟨by show 0 ≤ y + 8; omega, by show (y + 8) % 8 = 0; omega, by show y + 8 ≤ _; omega⟩, h2.1, h2.2⟩, by show (H - (y + 8)).toNat < (H - y).toNat; omega⟩))
      rintro ⟨x, l⟩ ⟨⟨x0, x8, x1⟩, hl2, hA⟩
      dsimp only at x0 x8 x1 hl2 hA ⊢
      have hmul := mul_bd (a := W) (b := y + 8) (A := 128) (B := 200) (by omega) (by omega)
      have hmul1 := mul_bd (a := W) (b := y) (A := 128) (B := 200) (by omega) (by omega)
      have hmul2 := mul_bd (a := W) (b := y + 8 - 1) (A := 128) (B := 200) (by omega) (by omega)
      refine Ok.ite (fun hx => ?_) (fun hx => Ok.ret ⟨by omega, hA.weak fun d c v n hr => ?_⟩)
      · refine Ok.gd (by unfold I64; omega) (Ok.bind (R := fun l1 => (l1.length : Int) ≤ 300 * (y / 8) + 18 * (x / 8) + 9 ∧ AI W H fr (fun d c v => Bef y x d c v ∨ (d = false ∧ c = x + 7 ∧ v - v % 8 = y)) l1) ?_ ?_)
        · refine Ok.ite (fun hc => ?_) (fun hc => Ok.ret ⟨by omega, hA.weak fun d c v n hr => ⟨.inl, fun h => h.elim id fun k => ?_⟩⟩)
          · refine Ok.gd (by unfold I64; omega) (Ok.gd (by unfold I64; omega) (Ok.gd (by unfold I64; omega) (Ok.gd (by unfold I64; omega) (Ok.gd (by unfold I64; omega) ?_))))
            have hb := bord_p (d := false) (c := x + 7) (k := y) hm hf ⟨by omega, by omega, by show x + 7 + 1 < W; omega⟩ ⟨y0, y8, hy⟩
            have e : portal_border fr (x + 8 - 1 + W * y) 1 W (min 8 (H - y)) = portal_border fr (posD W false (x + 7) y) (ovrD W false) (stpD W false) (min 8 (limD W H false - y)) := by
              rw [show x + 8 - 1 + W * y = posD W false (x + 7) y from by show _ = x + 7 + W * y; omega]; rfl
            rw [e]
            refine Ok.bind hb fun z hz => Ok.gd (by omega) (Ok.ret ⟨by simp only [List.length_append]; omega, hA.add hz.2.1 hz.2.2 fun v hs hv => ?_⟩)
            unfold Bef cyD cxD at hs
            simp at hs; omega
          · exfalso
            have ho : OkB W H d c := hr.ok
            rw [k.1, k.2.1] at ho
            have : 0 ≤ x + 7 ∧ (x + 7) % 8 = 7 ∧ x + 7 + 1 < W := ho
            omega
        · rintro l1 ⟨hl1, hA1⟩
          have hfin : ∀ d c v n, RunD W H fr d c v n → (((Bef y x d c v ∨ (d = false ∧ c = x + 7 ∧ v - v % 8 = y)) ∨ (d = true ∧ c = y + 7 ∧ v - v % 8 = x)) ↔ Bef y (x + 8) d c v) := fun d c v n hr => by
            have h1 := hr.ok; have h2 := hr.v0
            unfold OkB at h1
            unfold Bef cyD cxD
            cases d <;> simp <;> omega
          refine Ok.gd (by unfold I64; omega) (Ok.ite (fun hc => ?_) (fun hc => Ok.gd (by unfold I64; omega) (Ok.ret ⟨⟨⟨by show 0 ≤ x + 8; omega, by show (x + 8) % 8 = 0; omega, by show x + 8 ≤ _; omega⟩, by show (l1.length : Int) ≤ 300 * (y / 8) + 18 * ((x + 8) / 8); omega, hA1.weak fun d c v n hr => ⟨fun h => (hfin d c v n hr).1 (.inl h), fun h => ((hfin d c v n hr).2 h).elim id fun k => ?_⟩⟩, by show (W - (x + 8)).toNat < (W - x).toNat; omega⟩)))
          · refine Ok.gd (by unfold I64; omega) (Ok.gd (by unfold I64; omega) (Ok.gd (by unfold I64; omega) (Ok.gd (by unfold I64; omega) (Ok.gd (by unfold I64; omega) ?_))))
            have hb := bord_p (d := true) (c := y + 7) (k := x) hm hf ⟨by omega, by omega, by show y + 7 + 1 < H; omega⟩ ⟨x0, x8, hx⟩
            have e : portal_border fr (x + W * (y + 8 - 1)) W 1 (min 8 (W - x)) = portal_border fr (posD W true (y + 7) x) (ovrD W true) (stpD W true) (min 8 (limD W H true - x)) := by
              rw [show x + W * (y + 8 - 1) = posD W true (y + 7) x from by show _ = x + W * (y + 7); rw [show y + 8 - 1 = y + 7 by omega]]; rfl
            rw [e]
            refine Ok.bind hb fun z hz => Ok.gd (by omega) (Ok.gd (by unfold I64; omega) (Ok.ret ⟨⟨⟨by show 0 ≤ x + 8; omega, by show (x + 8) % 8 = 0; omega, by show x + 8 ≤ _; omega⟩, by show ((l1 ++ z).length : Int) ≤ 300 * (y / 8) + 18 * ((x + 8) / 8); simp only [List.length_append]; omega, (hA1.add hz.2.1 hz.2.2 fun v hs hv => ?_).weak hfin⟩, by show (W - (x + 8)).toNat < (W - x).toNat; omega⟩))
            unfold Bef cyD cxD at hs
            simp at hs; omega
          · exfalso
            have ho : OkB W H d c := hr.ok
            rw [k.1, k.2.1] at ho
            have : 0 ≤ y + 7 ∧ (y + 7) % 8 = 7 ∧ y + 7 + 1 < H := ho
            omega
      · have h1 := hr.ok; have h2 := hr.v0; have h3 := hr.lim; have h4 := hr.n1
        unfold OkB sidD at h1
        unfold limD at h3
        unfold Bef cyD cxD
        cases d <;> simp at h1 h3 ⊢ <;> omega
    · have h1 := hr.ok; have h2 := hr.v0; have h3 := hr.lim; have h4 := hr.n1
      unfold OkB sidD at h1
      unfold limD at h3
      unfold cyD
      cases d <;> simp at h1 h3 ⊢ <;> omega
  · rintro l ⟨hA, hl⟩
    have hmem : ∀ p, p ∈ l ↔ IsP W H fr p := fun p => by
      rw [hA.2 p]
      constructor
      · rintro ⟨d, c, v, n, hr, _, e⟩; exact ⟨d, c, v, n, hr, e⟩
      · rintro ⟨d, c, v, n, hr, e⟩; exact ⟨d, c, v, n, hr, trivial, e⟩
    have hdis : DisP l := disP_of hA.1 fun p hp => (hmem p).1 hp
    unfold slices_SortFuncP
    rw [if_pos ⟨by omega, hdis⟩, Option.bind_some]
    exact Ok.ret ⟨⟨sortP_str hdis, fun p => by rw [List.mem_mergeSort, hmem p]⟩, by rw [List.length_mergeSort]; omega⟩
end Go.Proofs.Ytddicdmleeaihaa
