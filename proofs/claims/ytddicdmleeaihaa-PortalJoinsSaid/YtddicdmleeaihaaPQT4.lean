/-
  PortalJoins, as a pure function, is true. For arguments that are Go's.
-/
import Derived.Test.YtddicdmleeaihaaPQP
import Derived.Test.YtddicdmleeaihaaPQG4
set_option linter.unusedVariables false
set_option linter.unusedSimpArgs false
namespace Go.Proofs.Ytddicdmleeaihaa
open Go.Vg Sp Ff
theorem least_ex {P : Int → Prop} (hp : ∀ u, P u → 0 ≤ u) {v : Int} (hv : P v) : ∃ m, P m ∧ ∀ u, P u → m ≤ u := by
  obtain ⟨n, hn⟩ : ∃ n : Nat, v.toNat ≤ n := ⟨_, Nat.le_refl _⟩
  induction n generalizing v with
  | zero => exact ⟨v, hv, fun u hu => by have := hp u hu; have := hp v hv; omega⟩
  | succ n ih =>
    by_cases h : ∃ u, P u ∧ u < v
    · obtain ⟨u, hu, hlt⟩ := h
      exact ih hu (by have := hp u hu; omega)
    · exact ⟨v, hv, fun u hu => by
        apply Classical.byContradiction; intro e
        exact h ⟨u, hu, by omega⟩⟩
theorem part_at {W H : Int} {fr : List Bool} (hW : 1 ≤ W) {v : Int} (hv : 0 ≤ v ∧ v < W * H) : Part W H fr v (gi (partsF W H fr) v) := by
  have hex : ∃ m, Part W H fr v m := by
    by_cases hf : gi fr v = true
    · obtain ⟨m, h1, h2⟩ := least_ex (P := fun u => Rch (Adj W H fr) v u) (fun u hu => (Rch.in hW hu ⟨hv, hf⟩).1.1) (.refl v)
      exact ⟨m, fun _ => ⟨h1, h2⟩, fun e => by rw [hf] at e; cases e⟩
    · exact ⟨-1, fun e => absurd e hf, fun _ => rfl⟩
  obtain ⟨m, hm⟩ := hex
  unfold partsF
  rw [gi_tab hv, partF_of hm]; exact hm
theorem run_adj {W H : Int} {fr : List Bool} {d : Bool} {s j : Int} (hW : 1 ≤ W) (hs : 0 ≤ s ∧ s < sidD W H d) (hj : 0 ≤ j ∧ j + 1 < limD W H d) (h8 : (j + 1) / 8 = j / 8) (h1 : gi fr (posD W d s j) = true) (h2 : gi fr (posD W d s (j + 1)) = true) :
    Adj W H fr (posD W d s j) (posD W d s (j + 1)) := by
  have a := posD_dm (v := j) hs (by omega)
  refine ⟨⟨a.1, posD_lt hW hs (by omega)⟩, h1, h2, ?_, ?_⟩
  · rw [sec_at (v := j + 1) hs (by omega), sec_at (v := j) hs (by omega), sec_v hW]; exact h8
  · have b := a.2
    cases d with
    | true =>
      rw [if_pos rfl] at b
      refine .inr (.inl ⟨?_, ?_⟩)
      · rw [posD_step]; show _ + 1 * 1 = _; omega
      · rw [b.2]; have : j + 1 < W := hj.2; omega
    | false =>
      rw [if_neg (by simp)] at b
      refine .inr (.inr (.inl ⟨?_, ?_⟩))
      · rw [posD_step]; show _ + W * 1 = _; omega
      · rw [b.2]; have : j + 1 < H := hj.2; omega
theorem run_rch {W H : Int} {fr : List Bool} {d : Bool} {c v n s : Int} (hW : 1 ≤ W) (h : RunD W H fr d c v n) (hs : 0 ≤ s ∧ s < sidD W H d) (hf : ∀ j, v ≤ j → j < v + n → gi fr (posD W d s j) = true) :
    ∀ k : Nat, (k : Int) < n → Rch (Adj W H fr) (posD W d s v) (posD W d s (v + k))
  | 0, _ => by rw [show v + ((0 : Nat) : Int) = v by omega]; exact .refl _
  | k + 1, hk => by
    have hl := h.lim; have hb := h.blk; have h0 := h.v0
    refine .step (run_rch hW h hs hf k (by omega)) ?_
    rw [show v + ((k + 1 : Nat) : Int) = v + k + 1 by omega]
    exact run_adj hW hs (by omega) (by omega) (hf _ (by omega) (by omega)) (hf _ (by omega) (by omega))
theorem run_part {W H : Int} {fr : List Bool} {d : Bool} {c v n s j j' : Int} (hW : 1 ≤ W) (h : RunD W H fr d c v n) (hs : 0 ≤ s ∧ s < sidD W H d) (hf : ∀ j, v ≤ j → j < v + n → gi fr (posD W d s j) = true) (hj : v ≤ j ∧ j < v + n) (hj' : v ≤ j' ∧ j' < v + n) :
    gi (partsF W H fr) (posD W d s j) = gi (partsF W H fr) (posD W d s j') := by
  have key : ∀ i, v ≤ i → i < v + n → Rch (Adj W H fr) (posD W d s v) (posD W d s i) := fun i a b => by
    have := run_rch hW h hs hf (i - v).toNat (by omega)
    rwa [show v + ((i - v).toNat : Int) = i by omega] at this
  have hr : Rch (Adj W H fr) (posD W d s j) (posD W d s j') := ((key j hj.1 hj.2).symm (Adj.symm hW)).trans (key j' hj'.1 hj'.2)
  have hin : ∀ i, v ≤ i → i < v + n → 0 ≤ posD W d s i ∧ posD W d s i < W * H := fun i a b =>
    ⟨(posD_dm hs (h.side.2 i a b)).1, posD_lt hW hs (h.side.2 i a b)⟩
  have p1 := part_at (fr := fr) hW (hin j hj.1 hj.2)
  have p2 := part_at (fr := fr) hW (hin j' hj'.1 hj'.2)
  exact (((p1.1 (hf j hj.1 hj.2)).of (Adj.symm hW) hr).uniq (p2.1 (hf j' hj'.1 hj'.2)))
theorem joins_law {p : Ask} : thronglaw11_PortalJoins p = some true := by
  unfold thronglaw11_PortalJoins
  have hh : thronglaw11_heavy p = some (decide (900 < (p.Free.length : Int))) := rfl
  rw [hh, bsome]
  refine Ok.eq (Ok.ite (fun _ => Ok.ret rfl) (fun hn => ?_))
  rw [decide_eq_true_iff] at hn
  by_cases h : May p.W p.H ∧ (p.Free.length : Int) = p.W * p.H
  · obtain ⟨hm, hf⟩ := h
    have hm2 := hm
    unfold May at hm2
    have hbd := may_bd hm
    have hW := hm2.1.1
    obtain ⟨l, h1, _, hok, hlen⟩ := find_p hm hf
    have hpl := len_partsF (W := p.W) (H := p.H) (fr := p.Free) (by omega)
    rw [h1, bsome, parts_p, if_pos ⟨hm, hf⟩, bsome, num11_p, bsome]
    dsimp only
    rw [if_neg (by simp), bsome, if_pos (fun _ => by unfold I64; omega), if_neg (by rintro (e | e); exact e rfl; exact e hpl)]
    have hin : ∀ q ∈ l, ∃ d c v n, RunD p.W p.H p.Free d c v n ∧ q = prtD p.W d c v n ∧ (0 ≤ q.a ∧ q.a < p.W * p.H) ∧ (0 ≤ q.b ∧ q.b < p.W * p.H) := fun q hq => by
      obtain ⟨d, c, v, n, hr, e⟩ := (hok.2 q).1 hq
      have hn1 := hr.n1
      have hmid := hr.side.2 (v + (n - 1) / 2) (by omega) (by omega)
      have hc := hr.side.1
      have hcs : c + 1 < sidD p.W p.H d := hr.ok.2.2
      have ea : q.a = posD p.W d c (v + (n - 1) / 2) := by rw [e]; rfl
      have eb : q.b = posD p.W d (c + 1) (v + (n - 1) / 2) := by rw [← posD_over, e]; rfl
      refine ⟨d, c, v, n, hr, e, ?_, ?_⟩
      · rw [ea]; exact ⟨(posD_dm hc hmid).1, posD_lt hW hc hmid⟩
      · rw [eb]; exact ⟨(posD_dm (c := c + 1) (by omega) hmid).1, posD_lt hW (c := c + 1) (by omega) hmid⟩
    refine Ok.bind (R := fun x => match x with | .go _ => True | .up _ => False) (Ok.loop (fun t : Int => 0 ≤ t ∧ t ≤ p.W * p.H) (fun t => (p.W * p.H - t).toNat) (by omega) (by unfold FUEL; omega) ?_) ?_
    · rintro t ⟨t0, t1⟩
      refine Ok.gd (by unfold I64; omega) (Ok.ite (fun ht => ?_) (fun _ => Ok.ret trivial))
      refine Ok.bind (R := fun x => match x with | .go _ => True | .up _ => False) (Ok.loop (fun k : Int => 0 ≤ k ∧ k ≤ 2) (fun k => (2 - k).toNat) (by omega) (by unfold FUEL; omega) ?_) ?_
      · rintro k ⟨k0, k1⟩
        refine Ok.ite (fun hk => ?_) (fun _ => Ok.ret trivial)
        refine Ok.bind (R := fun x => match x with | .go _ => True | .up _ => False) ?_ ?_
        · obtain ⟨d, hd⟩ : ∃ d, d = decide (k = 1) := ⟨_, rfl⟩
          have hdk : d = true ↔ k = 1 := by rw [hd, decide_eq_true_iff]
          obtain ⟨c, v, htp, hc, hv, hcv⟩ := posD_of hW ⟨t0, ht⟩ d
          refine Ok.gd (by unfold I64; omega) ?_
          refine Ok.bind (R := fun x => match x with | .go u => u = posD p.W d (c + 1) v ∧ c + 1 < sidD p.W p.H d | .up (.go _) => True | .up (.up _) => False) ?_ ?_
          · refine Ok.ite (fun h2 => ?_) (fun h2 => ?_)
            · have hdt := hdk.2 h2
              subst hdt
              rw [if_pos rfl] at hcv
              have hcs : c < p.H := hc.2
              refine Ok.gd (by unfold I64; omega) (Ok.gd (by omega) (Ok.gd (by unfold I64; omega) (Ok.ite (fun _ => Ok.ret trivial) (fun e => Ok.ret ⟨by rw [← posD_over, ← htp]; rfl, by show c + 1 < p.H; omega⟩))))
            · have hdf : d = false := Bool.eq_false_iff.2 fun e => h2 (hdk.1 e)
              subst hdf
              rw [if_neg (by simp)] at hcv
              have hcs : c < p.W := hc.2
              refine Ok.gd (by omega) (Ok.gd (by unfold I64; omega) (Ok.ite (fun _ => Ok.ret trivial) (fun e => Ok.ret ⟨by rw [← posD_over, ← htp]; rfl, by show c + 1 < p.W; omega⟩)))
          · rintro (u | (y | y)) hu
            · obtain ⟨rfl, hcs⟩ := hu
              dsimp only [Ex.then]
              have hc2 : 0 ≤ c + 1 ∧ c + 1 < sidD p.W p.H d := by omega
              have hu0 := (posD_dm hc2 hv).1
              have hu1 := posD_lt hW hc2 hv
              refine Ok.bind (apart_p hm hf ⟨t0, ht⟩ ⟨hu0, hu1⟩) fun b hb => ?_
              refine Ok.ite (fun _ => Ok.ret trivial) (fun hbt => ?_)
              have hbt : b = true := by cases b <;> simp_all
              have hp := hb.1 hbt
              rw [htp, apart_pair hm hc hv hcs] at hp
              obtain ⟨s, n, hr, s1, s2⟩ := run_ex hp
              have hn1 := hr.n1
              have hq : prtD p.W d c s n ∈ l := (hok.2 _).2 ⟨d, c, s, n, hr, rfl⟩
              obtain ⟨x, x0, x1, hx⟩ := gi_mem2.1 hq
              have ga : gi (partsF p.W p.H p.Free) (prtD p.W d c s n).a = gi (partsF p.W p.H p.Free) t := by
                rw [htp]
                exact run_part hW hr hc (fun j a b => (hr.q j a b).1) (by omega) ⟨s1, s2⟩
              have gb : gi (partsF p.W p.H p.Free) (prtD p.W d c s n).b = gi (partsF p.W p.H p.Free) (posD p.W d (c + 1) v) := by
                have e : (prtD p.W d c s n).b = posD p.W d (c + 1) (s + (n - 1) / 2) := by rw [← posD_over]; rfl
                rw [e]
                exact run_part hW hr hc2 (fun j a b => by have := (hr.q j a b).2; rwa [posD_over] at this) (by omega) ⟨s1, s2⟩
              refine Ok.bind (R := fun x => match x with | .go b => b = true | .up _ => False) (Ok.loop (fun z : Bool × Int => (0 ≤ z.2 ∧ z.2 ≤ l.length) ∧ (z.1 = true ∨ z.2 ≤ x)) (fun z => (l.length - z.2).toNat) ⟨⟨by show (0 : Int) ≤ 0; omega, by show (0 : Int) ≤ _; omega⟩, .inr x0⟩ (by unfold FUEL; dsimp only; omega) ?_) ?_
              · rintro ⟨b, i⟩ ⟨⟨i0, i1⟩, hi⟩
                dsimp only at i0 i1 hi ⊢
                refine Ok.ite (fun hlt => ?_) (fun hge => Ok.ret ?_)
                · obtain ⟨d', c', v', n', hr', e', ha, hb'⟩ := hin _ (gi_mem (xs := l) ⟨i0, hlt⟩)
                  refine Ok.gd ⟨i0, hlt⟩ (Ok.gd (fun _ => ⟨i0, hlt⟩) (Ok.gd (fun _ => ⟨i0, hlt⟩) (Ok.gd (fun _ => ⟨i0, hlt⟩) ?_)))
                  rw [if_neg (by omega)]
                  refine Ok.gd (fun _ => ⟨i0, hlt⟩) (Ok.gd (fun _ => by omega) (Ok.gd (fun _ => by omega) (Ok.gd (fun _ _ => ⟨i0, hlt⟩) (Ok.gd (fun _ _ => by omega) (Ok.gd (fun _ _ => by omega) (Ok.gd (by unfold I64; omega) (Ok.ret ⟨⟨⟨by show 0 ≤ i + 1; omega, by show i + 1 ≤ _; omega⟩, ?_⟩, by show ((l.length : Int) - (i + 1)).toNat < (l.length - i).toNat; omega⟩)))))))
                  rcases hi with hi | hi
                  · exact .inl (decide_eq_true (.inl hi))
                  · by_cases e : i = x
                    · refine .inl (decide_eq_true (.inr ?_))
                      rw [e, hx]; exact ⟨ga, gb⟩
                    · exact .inr (by show i + 1 ≤ x; omega)
                · exact hi.elim id fun e => by omega
              · rintro (b | b) hb
                · dsimp only [Ex.then] at hb ⊢
                  subst hb
                  rw [if_neg (by simp)]; exact Ok.ret trivial
                · exact hb.elim
            · dsimp only [Ex.then]
              exact Ok.ret trivial
            · exact hu.elim
        · rintro (x | x) hx
          · dsimp only [Ex.then]
            exact Ok.gd (by unfold I64; omega) (Ok.ret ⟨⟨by omega, by omega⟩, by omega⟩)
          · exact hx.elim
      · rintro (x | x) hx
        · dsimp only [Ex.then]
          exact Ok.gd (by unfold I64; omega) (Ok.ret ⟨⟨by omega, by omega⟩, by omega⟩)
        · exact hx.elim
    · rintro (x | x) hx
      · dsimp only [Ex.then]
        rw [wakes_p, bsome]; exact Ok.ret rfl
      · exact hx.elim
  · rw [find_n h, bsome, parts_p, if_neg h, bsome, num11_p, bsome]
    dsimp only
    rw [if_pos (by simp), bsome, bsome]
    exact Ok.ret rfl
end Go.Proofs.Ytddicdmleeaihaa
