/-
  All portals of the page. The conditions stand in each lemma.
-/
import Derived.Test.YtddicdmleeaihaaPQD
set_option linter.unusedVariables false
set_option linter.unusedSimpArgs false
namespace Go.Proofs.Ytddicdmleeaihaa
open Go.Vg Sp
/-- The directions that lie behind. -/
def DirB (k : Int) (d : Bool) : Prop := (if d = true then 2 else 1) ≤ k
/-- Of direction k the tiles ahead of t too. -/
def Till (W k t : Int) (d : Bool) (c v : Int) : Prop := DirB k d ∨ (d = decide (k = 1) ∧ posD W d c v < t)
/-- A run from v on, so far. -/
structure Part1 (W H : Int) (fr : List Bool) (d : Bool) (c v n : Int) : Prop where
  n1 : 1 ≤ n
  lim : v + n ≤ limD W H d
  blk : (v + n - 1) / 8 = v / 8
  q : ∀ j, v ≤ j → j < v + n → QD W fr d c j
theorem posD_ge {W H : Int} {d : Bool} {c v n : Int} (hW : 1 ≤ W) (hc : 0 ≤ c ∧ c < sidD W H d) (hv : 0 ≤ v) (hn : v + n = limD W H d) :
    W * H ≤ posD W d c (v + n) ∨ (d = true ∧ ¬ posD W d c (v + n) / W = c) := by
  cases d with
  | true =>
    refine .inr ⟨rfl, ?_⟩
    have hn : v + n = W := hn
    rw [hn]
    show ¬ (W + W * c) / W = c
    have : W + W * c = 0 + W * (c + 1) := by rw [Int.mul_add]; omega
    have hd := dm (w := W) (i := 0) (j := c + 1) (by omega) (by omega)
    rw [this, hd.2.1]; omega
  | false =>
    have hn : v + n = H := hn
    rw [hn]
    have hc : 0 ≤ c := hc.1
    exact .inl (by show W * H ≤ c + W * H; omega)
theorem count_step {W H : Int} {fr : List Bool} {d : Bool} {c v n : Int} (hW : 1 ≤ W) (hc : 0 ≤ c ∧ c < sidD W H d) (hv : 0 ≤ v ∧ v < limD W H d) (h : Part1 W H fr d c v n) :
    (W * H ≤ posD W d c (v + n) ∨ (d = true ∧ ¬ posD W d c (v + n) / W = posD W d c v / W)) ↔ v + n = limD W H d := by
  have hn := h.n1; have hl := h.lim
  have hcv : d = true → posD W d c v / W = c := fun e => by have := (posD_dm hc hv).2; rw [if_pos e] at this; exact this.1
  constructor
  · intro k
    apply Classical.byContradiction; intro hne
    have hin : 0 ≤ v + n ∧ v + n < limD W H d := by omega
    have h1 := posD_lt hW hc hin
    rcases k with k | ⟨k1, k2⟩
    · omega
    · have := (posD_dm hc hin).2
      rw [if_pos k1] at this
      exact k2 (this.1.trans (hcv k1).symm)
  · intro k
    rcases posD_ge hW hc hv.1 k with e | ⟨e1, e2⟩
    · exact .inl e
    · exact .inr ⟨e1, by rw [hcv e1]; exact e2⟩
theorem stp_eq {W k : Int} : (if k = 1 then (1 : Int) else W) = stpD W (decide (k = 1)) := by
  unfold stpD
  by_cases h : k = 1
  · rw [if_pos h, if_pos (by simp [h])]
  · rw [if_neg h, if_neg (by simp [h])]
theorem refFind_p {W H : Int} {fr : List Bool} (hm : May W H) (hf : (fr.length : Int) = W * H) : Ok (throngref10_Find W H fr) (PortalsOk W H fr) := by
  have hm2 := hm
  unfold May at hm2
  have hbd := may_bd hm
  have hW := hm2.1.1
  unfold throngref10_Find
  refine Ok.bind (Ok.loop (fun z : List Prt × Int => (0 ≤ z.2 ∧ z.2 ≤ 2) ∧ (z.1.length : Int) ≤ 20000 * z.2 ∧ StrP z.1 ∧ ∀ p, p ∈ z.1 ↔ ∃ d c v n, RunD W H fr d c v n ∧ DirB z.2 d ∧ p = prtD W d c v n) (fun z => (2 - z.2).toNat)
    ⟨⟨by decide, by decide⟩, by decide, List.Pairwise.nil, fun p => ⟨fun h => (by cases h), fun ⟨d, c, v, n, hr, hs, _⟩ => ?_⟩⟩ (by unfold FUEL; dsimp only; omega) ?_) (fun l hl => Ok.ret hl)
  · exfalso
    unfold DirB at hs
    cases d <;> simp at hs
  rintro ⟨l, k⟩ ⟨⟨k0, k1⟩, hl, hstr, hmem⟩
  dsimp only at k0 k1 hl hstr hmem ⊢
  refine Ok.ite (fun hk => ?_) (fun hk => Ok.ret ⟨hstr, fun p => ?_⟩)
  · obtain ⟨d, hd⟩ : ∃ d, d = decide (k = 1) := ⟨_, rfl⟩
    have hdk : d = true ↔ k = 1 := by rw [hd, decide_eq_true_iff]
    have hst : 1 ≤ stpD W d ∧ stpD W d ≤ 128 := by cases d <;> simp [stpD] <;> omega
    refine Ok.bind (R := fun s : Int => s = stpD W d) (by rw [hd, ← stp_eq]; exact Ok.ite (fun e => Ok.ret (by rw [if_pos e])) (fun e => Ok.ret (by rw [if_neg e]))) fun s hs => ?_
    subst hs
    refine Ok.bind (R := fun l : List Prt => (l.length : Int) ≤ 20000 * (k + 1) ∧ StrP l ∧ ∀ p, p ∈ l ↔ ∃ d c v n, RunD W H fr d c v n ∧ DirB (k + 1) d ∧ p = prtD W d c v n)
      (Ok.loop (fun z : Int × List Prt => (0 ≤ z.1 ∧ z.1 ≤ W * H) ∧ (z.2.length : Int) ≤ 20000 * k + z.1 ∧ StrP z.2 ∧ ∀ p, p ∈ z.2 ↔ ∃ d c v n, RunD W H fr d c v n ∧ Till W k z.1 d c v ∧ p = prtD W d c v n) (fun z => (W * H - z.1).toNat)
        ⟨⟨by show (0 : Int) ≤ 0; omega, by show (0 : Int) ≤ _; omega⟩, by show (l.length : Int) ≤ 20000 * k + 0; omega, hstr, fun p => (hmem p).trans ⟨fun ⟨d, c, v, n, hr, hs, e⟩ => ⟨d, c, v, n, hr, .inl hs, e⟩, fun ⟨d, c, v, n, hr, hs, e⟩ => ⟨d, c, v, n, hr, hs.elim id fun q => ?_, e⟩⟩⟩ (by unfold FUEL; dsimp only; omega) ?_) (fun l2 h2 => Ok.gd (by unfold I64; omega) (Ok.ret ⟨⟨⟨by show 0 ≤ k + 1; omega, by show k + 1 ≤ 2; omega⟩, h2⟩, by show (2 - (k + 1)).toNat < (2 - k).toNat; omega⟩))
    · exfalso
      have h1 := (posD_dm hr.side.1 (hr.side.2 v (by omega) (by have := hr.n1; omega))).1
      have := q.2; dsimp only at this; omega
    rintro ⟨t, l⟩ ⟨⟨t0, t1⟩, hl, hstr, hmem⟩
    dsimp only at t0 t1 hl hstr hmem ⊢
    refine Ok.gd (by unfold I64; omega) (Ok.ite (fun ht => ?_) (fun ht => Ok.ret ⟨by omega, hstr, fun p => (hmem p).trans ⟨fun ⟨d', c, v, n, hr, hs, e⟩ => ⟨d', c, v, n, hr, ?_, e⟩, fun ⟨d', c, v, n, hr, hs, e⟩ => ⟨d', c, v, n, hr, ?_, e⟩⟩⟩))
    · obtain ⟨c, v, htp, hc, hv, hcv⟩ := posD_of hW ⟨t0, ht⟩ d
      subst htp
      rw [← hd]
      obtain ⟨⟨u, ok⟩, ep, hok, hu⟩ := pair_p (fr := fr) hm hf hc hv
      dsimp only at hok hu
      -- what one tile adds
      refine Ok.bind (R := fun l2 : List Prt => (l2.length : Int) ≤ l.length + 1 ∧ StrP l2 ∧ ∀ p, p ∈ l2 ↔ p ∈ l ∨ ∃ n, RunD W H fr d c v n ∧ p = prtD W d c v n) ?_ ?_
      · rw [ep, bsome]
        have hskip : (∀ n, ¬ RunD W H fr d c v n) → Ok (some l) (fun l2 : List Prt => (l2.length : Int) ≤ l.length + 1 ∧ StrP l2 ∧ ∀ p, p ∈ l2 ↔ p ∈ l ∨ ∃ n, RunD W H fr d c v n ∧ p = prtD W d c v n) := fun hno =>
          Ok.ret ⟨by omega, hstr, fun p => ⟨.inl, fun h => h.elim id fun ⟨n, hr, _⟩ => absurd hr (hno n)⟩⟩
        refine Ok.ite (fun hc1 => hskip fun n hr => ?_) (fun hc1 => ?_)
        · have : ok = true := hok.2 ⟨hr.ok, hr.q v (by omega) (by have := hr.n1; omega)⟩
          rw [this] at hc1; cases hc1
        have hokt : ok = true := by cases ok <;> simp_all
        obtain ⟨hOk, hQ⟩ := hok.1 hokt
        have hcs : c + 1 < sidD W H d := hOk.2.2
        have hu := hu hcs
        subst hu
        refine Ok.gd (by unfold I64; omega) (Ok.gd (fun _ _ => by omega) ?_)
        have hcond : (0 ≤ posD W d c v - stpD W d ∧ ((¬ k = 1) ∨ 0 < posD W d c v % W)) ↔ 1 ≤ v := by
          rw [← hdk]
          cases d with
          | true =>
            rw [if_pos rfl] at hcv
            rw [hcv.2]
            show (0 ≤ v + W * c - 1 ∧ _) ↔ _
            have hc : 0 ≤ c ∧ c < H := hc
            have := mul_bd (a := W) (b := c) (A := 128) (B := 128) (by omega) (by omega)
            simp; omega
          | false =>
            show (0 ≤ c + W * v - W ∧ _) ↔ _
            have hc : 0 ≤ c ∧ c < W := hc
            constructor
            · rintro ⟨h1, _⟩
              apply Classical.byContradiction; intro hne
              have : v = 0 := by omega
              subst this
              rw [Int.mul_zero] at h1; omega
            · intro h1
              have := Int.mul_le_mul_of_nonneg_left h1 (show 0 ≤ W by omega)
              exact ⟨by omega, .inl (by simp)⟩
        -- where a run begins
        have hbeg : ∀ n, RunD W H fr d c v n ↔ (v % 8 = 0 ∨ ¬ QD W fr d c (v - 1)) ∧ RunD W H fr d c v n := fun n => ⟨fun h => ⟨h.lo, h⟩, fun h => h.2⟩
        refine Ok.bind (R := fun x : Ex Unit (List Prt) => match x with | .up r => r = l ∧ ∀ n, ¬ RunD W H fr d c v n | .go _ => v % 8 = 0 ∨ ¬ QD W fr d c (v - 1)) ?_ ?_
        · refine Ok.ite (fun hcd => ?_) (fun hcd => Ok.ret (.inl ?_))
          · have hv1 := hcond.1 hcd
            have e1 : posD W d c v - stpD W d = posD W d c (v - 1) := by
              have := posD_step (W := W) (d := d) (c := c) (v := v - 1) 1
              rw [show v - 1 + 1 = v by omega, Int.mul_one] at this; omega
            have hv2 : 0 ≤ v - 1 ∧ v - 1 < limD W H d := by omega
            rw [e1]
            obtain ⟨⟨x1, x2⟩, ex, hx, hx1⟩ := pair_p (fr := fr) hm hf hc hv2
            have hx1 := hx1 hcs
            dsimp only at hx hx1
            subst hx1
            have hd1 := posD_dm hc hv2; have hd2 := posD_dm hc hv
            have hl1 := posD_lt hW hc hv2; have hl2 := posD_lt hW hc hv
            have hc2 : 0 ≤ c + 1 ∧ c + 1 < sidD W H d := by omega
            have hd3 := posD_dm hc2 hv2; have hd4 := posD_dm hc2 hv
            have hl3 := posD_lt hW hc2 hv2; have hl4 := posD_lt hW hc2 hv
            refine Ok.gd (by unfold I64; omega) ?_
            rw [ex, bsome]
            refine Ok.bind (R := fun b : Bool => b = true ↔ QD W fr d c (v - 1) ∧ (v - 1) / 8 = v / 8) ?_ fun b hb => ?_
            · refine Ok.ite (fun h2 => Ok.gd (by unfold I64; omega) ?_) (fun h2 => Ok.ret ⟨fun e => (by cases e), fun q => absurd (hx.2 ⟨hOk, q.1⟩) h2⟩)
              rw [ofR_p hm2.1 (by omega), bsome, ofR_p hm2.1 (by omega), bsome, sec_at hc hv2, sec_at hc hv]
              refine Ok.ret ?_
              rw [decide_eq_true_iff, sec_v hW]
              exact ⟨fun q => ⟨(hx.1 h2).2, q⟩, fun q => q.2⟩
            · refine Ok.bind (R := fun b : Bool => b = true ↔ QD W fr d c (v - 1) ∧ (v - 1) / 8 = v / 8) ?_ fun b2 hb2 => ?_
              · refine Ok.ite (fun h2 => ?_) (fun h2 => Ok.ret ⟨fun e => (by cases e), fun q => absurd (hb.2 q) h2⟩)
                rw [ofR_p hm2.1 (by dsimp only; omega), bsome, ofR_p hm2.1 (by dsimp only; omega), bsome, sec_at hc2 hv2, sec_at hc2 hv]
                refine Ok.ret ?_
                rw [decide_eq_true_iff, sec_v hW]
                exact ⟨fun q => ⟨(hb.1 h2).1, q⟩, fun q => q.2⟩
              · refine Ok.ite (fun h2 => Ok.ret ⟨rfl, fun n hr => ?_⟩) (fun h2 => Ok.ret ?_)
                · obtain ⟨q1, q2⟩ := hb2.1 h2
                  rcases hr.lo with e | e
                  · omega
                  · exact e q1
                · by_cases e : v % 8 = 0
                  · exact .inl e
                  · exact .inr fun q => h2 (hb2.2 ⟨q, by omega⟩)
          · have : ¬ 1 ≤ v := fun q => hcd (hcond.2 q)
            omega
        · rintro (⟨⟩ | r) hx
          rotate_left
          · obtain ⟨rfl, hno⟩ := hx
            dsimp only [Ex.then]
            exact hskip hno
          dsimp only [Ex.then]
          have hlim8 : limD W H d ≤ 128 := by cases d <;> simp [limD] <;> omega
          refine Ok.bind (R := fun n : Int => RunD W H fr d c v n) (Ok.loop (fun n : Int => Part1 W H fr d c v n) (fun n => (200 - n).toNat) ⟨by omega, by omega, by rw [show v + 1 - 1 = v by omega], fun j a b => by rw [show j = v by omega]; exact hQ⟩ (by unfold FUEL; omega) ?_) ?_
          · intro n hn
            have n1 := hn.n1; have n2 := hn.lim; have n3 := hn.blk
            have m1 := mul_bd (a := n) (b := stpD W d) (A := 128) (B := 128) (by omega) (by omega)
            have e1 : posD W d c v + n * stpD W d = posD W d c (v + n) := by rw [posD_step, Int.mul_comm]
            have hcs2 := count_step hW hc hv hn
            rw [hdk] at hcs2
            have hd2 := posD_dm hc hv
            refine Ok.gd (by unfold I64; omega) (Ok.gd (by unfold I64; omega) (Ok.gd (by unfold I64; omega) (Ok.gd (fun _ _ => by omega) (Ok.gd (fun _ _ => by have := posD_lt hW hc hv; omega) ?_))))
            rw [e1]
            refine Ok.ite (fun h2 => Ok.ret ⟨hOk, n1, hv.1, n2, n3, hn.q, hx, .inr (.inl (hcs2.1 h2))⟩) (fun h2 => ?_)
            have hv3 : 0 ≤ v + n ∧ v + n < limD W H d := by
              have : ¬ v + n = limD W H d := fun q => h2 (hcs2.2 q)
              omega
            obtain ⟨⟨x1, x2⟩, ex, hx2, hx1⟩ := pair_p (fr := fr) hm hf hc hv3
            have hx1 := hx1 hcs
            dsimp only at hx2 hx1
            subst hx1
            have hc2 : 0 ≤ c + 1 ∧ c + 1 < sidD W H d := by omega
            have hd1 := posD_dm hc hv3; have hd3 := posD_dm hc2 hv3; have hd4 := posD_dm hc2 hv
            have hl1 := posD_lt hW hc hv3; have hl2 := posD_lt hW hc hv; have hl3 := posD_lt hW hc2 hv3; have hl4 := posD_lt hW hc2 hv
            rw [ex, bsome]
            refine Ok.bind (R := fun b : Bool => b = true ↔ ¬ (QD W fr d c (v + n) ∧ (v + n) / 8 = v / 8)) ?_ fun b hb => ?_
            · refine Ok.ite (fun h3 => Ok.ret ⟨fun _ q => ?_, fun _ => rfl⟩) (fun h3 => ?_)
              · have := hx2.2 ⟨hOk, q.1⟩
                rw [this] at h3; cases h3
              · have h4 : x2 = true := by cases x2 <;> simp_all
                rw [ofR_p hm2.1 (by omega), bsome, ofR_p hm2.1 (by omega), bsome, sec_at hc hv3, sec_at hc hv]
                refine Ok.ret ?_
                rw [decide_eq_true_iff, sec_v hW]
                exact ⟨fun q r => q r.2, fun q r => q ⟨(hx2.1 h4).2, r⟩⟩
            · refine Ok.bind (R := fun b : Bool => b = true ↔ ¬ (QD W fr d c (v + n) ∧ (v + n) / 8 = v / 8)) ?_ fun b2 hb2 => ?_
              · refine Ok.ite (fun h3 => Ok.ret ⟨fun _ => hb.1 h3, fun _ => rfl⟩) (fun h3 => ?_)
                rw [ofR_p hm2.1 (by omega), bsome, ofR_p hm2.1 (by omega), bsome, sec_at hc2 hv3, sec_at hc2 hv]
                refine Ok.ret ?_
                rw [decide_eq_true_iff, sec_v hW]
                have h4 : QD W fr d c (v + n) ∧ (v + n) / 8 = v / 8 := Classical.byContradiction fun q => h3 (hb.2 q)
                exact ⟨fun q => absurd h4.2 q, fun q => absurd h4 q⟩
              · refine Ok.ite (fun h3 => Ok.ret ⟨hOk, n1, hv.1, n2, n3, hn.q, hx, ?_⟩) (fun h3 => ?_)
                · have h4 := hb2.1 h3
                  by_cases e : (v + n) % 8 = 0
                  · exact .inl e
                  · exact .inr (.inr fun q => h4 ⟨q, by omega⟩)
                · have h4 : QD W fr d c (v + n) ∧ (v + n) / 8 = v / 8 := Classical.byContradiction fun q => h3 (hb2.2 q)
                  refine Ok.gd (by unfold I64; omega) (Ok.ret ⟨⟨by omega, by omega, by rw [show v + (n + 1) - 1 = v + n by omega]; exact h4.2, fun j a b => ?_⟩, by omega⟩)
                  by_cases e : j = v + n
                  · rw [e]; exact h4.1
                  · exact hn.q j a (by omega)
          · intro n hr
            have n1 := hr.n1; have n2 := hr.lim
            have m1 := mul_bd (a := (n - 1) / 2) (b := stpD W d) (A := 128) (B := 128) (by omega) (by omega)
            have hc2 : 0 ≤ c + 1 ∧ c + 1 < sidD W H d := by omega
            have hd2 := posD_dm hc hv; have hd4 := posD_dm hc2 hv
            have hl2 := posD_lt hW hc hv; have hl4 := posD_lt hW hc2 hv
            refine Ok.gd (by unfold I64; omega) (Ok.gd (by omega) (Ok.gd (by unfold I64; omega) (Ok.gd (by unfold I64; omega) (Ok.gd (by unfold I64; omega) ?_))))
            have e1 : (⟨posD W d c v + (n - 1) / 2 * stpD W d, posD W d (c + 1) v + (n - 1) / 2 * stpD W d, n⟩ : Prt) = prtD W d c v n := by
              unfold prtD
              rw [posD_over, posD_step, posD_step, Int.mul_comm]
            rw [e1]
            have hnew : ∀ q ∈ l, ¬ (q.a = (prtD W d c v n).a ∧ q.b = (prtD W d c v n).b) := fun q hq he => by
              obtain ⟨d', c', v', n', hr', hs', rfl⟩ := (hmem q).1 hq
              obtain ⟨rfl, rfl, rfl, rfl⟩ := hr'.uniq hr he.1 he.2
              rcases hs' with hs' | ⟨_, hs'⟩
              · unfold DirB at hs'
                by_cases e : d' = true
                · rw [if_pos e] at hs'; have := hdk.1 e; omega
                · rw [if_neg e] at hs'
                  have : ¬ k = 1 := fun q => e (hdk.2 q)
                  omega
              · omega
            refine Ok.bind (with_p (by omega) hstr hnew) fun m hm3 => Ok.ret ⟨by omega, hm3.1, fun p => ?_⟩
            rw [hm3.2.2 p]
            constructor
            · rintro (h | h)
              · exact .inr ⟨n, hr, h⟩
              · exact .inl h
            · rintro (h | ⟨n', hr', h⟩)
              · exact .inr h
              · obtain ⟨_, rfl⟩ := hr'.at hr (m := v) (by have := hr'.n1; omega) (by omega)
                exact .inl h
      · rintro l2 ⟨hl2, hs2, hm3⟩
        refine Ok.gd (by unfold I64; omega) (Ok.ret ⟨⟨⟨by show 0 ≤ posD W d c v + 1; omega, by show posD W d c v + 1 ≤ _; omega⟩, by show (l2.length : Int) ≤ 20000 * k + (posD W d c v + 1); omega, hs2, fun p => ?_⟩, by show (W * H - (posD W d c v + 1)).toNat < (W * H - posD W d c v).toNat; omega⟩)
        rw [hm3 p, hmem p]
        constructor
        · rintro (⟨d', c', v', n', hr, hs, e⟩ | ⟨n, hr, e⟩)
          · exact ⟨d', c', v', n', hr, hs.elim .inl fun q => .inr ⟨q.1, by have := q.2; omega⟩, e⟩
          · exact ⟨d, c, v, n, hr, .inr ⟨hd, by show posD W d c v < posD W d c v + 1; omega⟩, e⟩
        · rintro ⟨d', c', v', n', hr, hs | ⟨h1, h2⟩, e⟩
          · exact .inl ⟨d', c', v', n', hr, .inl hs, e⟩
          · have h1 : d' = d := h1.trans hd.symm
            subst h1
            by_cases e2 : posD W d' c' v' = posD W d' c v
            · obtain ⟨rfl, rfl⟩ := posD_inj (H := H) hr.side.1 hc (hr.side.2 v' (by omega) (by have := hr.n1; omega)) hv e2
              exact .inr ⟨n', hr, e⟩
            · exact .inl ⟨d', c', v', n', hr, .inr ⟨hd, by omega⟩, e⟩
    · -- the whole direction
      rcases hs with hs | ⟨hs, _⟩
      · unfold DirB at hs ⊢; omega
      · unfold DirB
        by_cases e : k = 1
        · have : d' = true := by rw [hs]; simp [e]
          rw [if_pos this]; omega
        · have : ¬ d' = true := by rw [hs]; simp [e]
          rw [if_neg this]; omega
    · unfold DirB at hs
      by_cases e : d' = true
      · rw [if_pos e] at hs
        have hk1 : k = 1 := by omega
        refine .inr ⟨by rw [e]; simp [hk1], ?_⟩
        have := posD_lt hW hr.side.1 (hr.side.2 v (by omega) (by have := hr.n1; omega)); omega
      · rw [if_neg e] at hs
        by_cases hk1 : k = 1
        · exact .inl (by unfold DirB; rw [if_neg e]; omega)
        · refine .inr ⟨by rw [Bool.eq_false_iff.2 e]; simp [hk1], ?_⟩
          have := posD_lt hW hr.side.1 (hr.side.2 v (by omega) (by have := hr.n1; omega)); omega
  · rw [hmem p]
    constructor
    · rintro ⟨d, c, v, n, hr, _, e⟩; exact ⟨d, c, v, n, hr, e⟩
    · rintro ⟨d, c, v, n, hr, e⟩; exact ⟨d, c, v, n, hr, by unfold DirB; split <;> omega, e⟩
end Go.Proofs.Ytddicdmleeaihaa
