/-
  The program's portals are all runs of pairs, rising. The conditions stand in each lemma.
-/
import Derived.Test.YtddicdmleeaihaaPQA
import Derived.Test.YtddicdmleeaihaaPQG
import Derived.Test.YtddicdmleeaihaaVS
set_option linter.unusedVariables false
set_option linter.unusedSimpArgs false
namespace Go.Proofs.Ytddicdmleeaihaa
open Go.Vg Sp
/-! ### One border -/
structure RunI (N : Int) (Q : Int → Prop) (i n : Int) : Prop where
  n1 : 1 ≤ n
  i0 : 0 ≤ i
  lim : i + n ≤ N
  q : ∀ j, i ≤ j → j < i + n → Q j
  lo : i = 0 ∨ ¬ Q (i - 1)
  hi : i + n = N ∨ ¬ Q (i + n)
def prtI (a over step i n : Int) : Prt := ⟨a + step * (i + (n - 1) / 2), a + step * (i + (n - 1) / 2) + over, n⟩
def PI (fr : List Bool) (a over step i : Int) : Prop := gi fr (a + step * i) = true ∧ gi fr (a + step * i + over) = true
structure BI (fr : List Bool) (a over step N : Int) (l : List Prt) (run i : Int) : Prop where
  i0 : 0 ≤ i ∧ i ≤ N + 1
  r0 : 0 ≤ run ∧ run ≤ i ∧ run ≤ N
  z : i = N + 1 → run = 0
  q : ∀ j, i - run ≤ j → j < i → PI fr a over step j
  lo : i ≤ N → i - run = 0 ∨ ¬ PI fr a over step (i - run - 1)
  len : (l.length : Int) ≤ i
  nd : l.Nodup
  bd : ∀ p ∈ l, p.a < a + step * (i - run)
  mem : ∀ p, p ∈ l ↔ ∃ i0 n, RunI N (PI fr a over step) i0 n ∧ i0 + n < i ∧ p = prtI a over step i0 n
theorem BI.start {fr : List Bool} {a over step N : Int} (hN : 1 ≤ N) : BI fr a over step N [] 0 0 :=
  ⟨by omega, by omega, fun _ => rfl, fun j h1 h2 => by omega, fun _ => .inl rfl, by simp, List.nodup_nil, fun p h => (by cases h), fun p => ⟨fun h => (by cases h), fun ⟨i0, n, h, h2, _⟩ => by have := h.n1; have := h.i0; omega⟩⟩
theorem BI.more {fr : List Bool} {a over step N : Int} {l : List Prt} {run i : Int} (h : BI fr a over step N l run i) (hi : i < N) (hq : PI fr a over step i) : BI fr a over step N l (run + 1) (i + 1) := by
  have h0 := h.i0; have h1 := h.r0
  refine ⟨by omega, by omega, fun e => by omega, fun j a b => ?_, fun _ => ?_, by have := h.len; omega, h.nd, fun p hp => ?_, fun p => ?_⟩
  · by_cases e : j = i
    · subst e; exact hq
    · exact h.q j (by omega) (by omega)
  · rw [show i + 1 - (run + 1) = i - run by omega]; exact h.lo (by omega)
  · rw [show i + 1 - (run + 1) = i - run by omega]; exact h.bd p hp
  · rw [h.mem p]
    constructor
    · rintro ⟨i0, n, hr, e, hp⟩; exact ⟨i0, n, hr, by omega, hp⟩
    · rintro ⟨i0, n, hr, e, hp⟩
      refine ⟨i0, n, hr, ?_, hp⟩
      apply Classical.byContradiction
      intro hne
      have e2 : i0 + n = i := by omega
      rcases hr.hi with k | k
      · omega
      · rw [e2] at k; exact k hq
theorem BI.gap {fr : List Bool} {a over step N : Int} {l : List Prt} {i : Int} (hs : 1 ≤ step) (h : BI fr a over step N l 0 i) (hi : i < N + 1) (hq : ¬ (i < N ∧ PI fr a over step i)) : BI fr a over step N l 0 (i + 1) := by
  have h0 := h.i0; have h1 := h.r0
  refine ⟨by omega, by omega, fun e => rfl, fun j a b => by omega, fun hle => .inr fun k => ?_, by have := h.len; omega, h.nd, fun p hp => ?_, fun p => ?_⟩
  · rw [show i + 1 - 0 - 1 = i by omega] at k; exact hq ⟨by omega, k⟩
  · have := h.bd p hp
    rw [Int.mul_sub, Int.mul_zero] at this
    rw [Int.mul_sub, Int.mul_zero, Int.mul_add]; omega
  · rw [h.mem p]
    constructor
    · rintro ⟨i0, n, hr, e, hp⟩; exact ⟨i0, n, hr, by omega, hp⟩
    · rintro ⟨i0, n, hr, e, hp⟩
      refine ⟨i0, n, hr, ?_, hp⟩
      apply Classical.byContradiction
      intro hne
      have hn := hr.n1; have hz := hr.i0
      have e2 : i0 + n = i := by omega
      rcases h.lo (by omega) with k | k
      · omega
      · exact k (hr.q _ (by omega) (by omega))
theorem BI.put {fr : List Bool} {a over step N : Int} {l : List Prt} {run i : Int} (hs : 1 ≤ step) (h : BI fr a over step N l run i) (hr : 0 < run) (hq : ¬ (i < N ∧ PI fr a over step i)) : BI fr a over step N (l ++ [prtI a over step (i - run) run]) 0 (i + 1) := by
  have h0 := h.i0; have h1 := h.r0
  have hiN : i ≤ N := by
    apply Classical.byContradiction; intro e
    have := h.z (by omega); omega
  have hrun : RunI N (PI fr a over step) (i - run) run := ⟨by omega, by omega, by omega, fun j a b => h.q j a (by omega), h.lo hiN, by
    rw [show i - run + run = i by omega]
    by_cases e : i = N
    · exact .inl e
    · exact .inr fun k => hq ⟨by omega, k⟩⟩
  have ha : a + step * (i - run) ≤ (prtI a over step (i - run) run).a := by
    show _ ≤ a + step * (i - run + (run - 1) / 2)
    have := Int.mul_le_mul_of_nonneg_left (show i - run ≤ i - run + (run - 1) / 2 by omega) (show 0 ≤ step by omega)
    omega
  have hb : (prtI a over step (i - run) run).a < a + step * (i + 1) := by
    show a + step * (i - run + (run - 1) / 2) < _
    have := Int.mul_lt_mul_of_pos_left (show i - run + (run - 1) / 2 < i + 1 by omega) (show 0 < step by omega)
    omega
  refine ⟨by omega, by omega, fun e => rfl, fun j a b => by omega, fun hle => .inr fun k => ?_, by have := h.len; simp only [List.length_append, List.length_cons, List.length_nil]; omega, ?_, fun p hp => ?_, fun p => ?_⟩
  · rw [show i + 1 - 0 - 1 = i by omega] at k; exact hq ⟨by omega, k⟩
  · refine List.nodup_append.2 ⟨h.nd, by simp, fun x hx y hy e => ?_⟩
    rw [List.mem_singleton.1 hy] at e
    have := h.bd x hx
    rw [e] at this; omega
  · rw [Int.sub_zero]
    rcases List.mem_append.1 hp with hp | hp
    · have := h.bd p hp
      have := Int.mul_lt_mul_of_pos_left (show i - run < i + 1 by omega) (show 0 < step by omega)
      omega
    · rw [List.mem_singleton.1 hp]; exact hb
  · rw [List.mem_append, List.mem_singleton, h.mem p]
    constructor
    · rintro (⟨i0, n, hr, e, hp⟩ | hp)
      · exact ⟨i0, n, hr, by omega, hp⟩
      · exact ⟨i - run, run, hrun, by omega, hp⟩
    · rintro ⟨i0, n, hr2, e, hp⟩
      by_cases he : i0 + n < i
      · exact .inl ⟨i0, n, hr2, he, hp⟩
      · have e2 : i0 + n = i := by omega
        have hn := hr2.n1; have hz := hr2.i0
        have e3 : i0 = i - run := by
          apply Classical.byContradiction; intro hne
          by_cases hlt : i0 < i - run
          · rcases h.lo hiN with k | k
            · omega
            · exact k (hr2.q _ (by omega) (by omega))
          · rcases hr2.lo with k | k
            · omega
            · exact k (h.q _ (by omega) (by omega))
        refine .inr ?_
        rw [hp, e3, show n = run by omega]
theorem border_p {fr : List Bool} {a over step N : Int} (ha : 0 ≤ a ∧ a ≤ 100000) (ho : 1 ≤ over ∧ over ≤ 128) (hs : 1 ≤ step ∧ step ≤ 128) (hN : 1 ≤ N ∧ N ≤ 8) (hb : ∀ i, 0 ≤ i → i < N → a + step * i + over < fr.length) :
    Ok (portal_border fr a over step N) (fun l => l.length ≤ 9 ∧ l.Nodup ∧ ∀ p, p ∈ l ↔ ∃ i n, RunI N (PI fr a over step) i n ∧ p = prtI a over step i n) := by
  unfold portal_border
  refine Ok.gd (by unfold I64; omega) (Ok.bind (R := fun l => BI fr a over step N l 0 (N + 1)) (Ok.loop (fun z : List Prt × Int × Int => BI fr a over step N z.1 z.2.1 z.2.2) (fun z => (N + 1 - z.2.2).toNat) (BI.start hN.1) (by unfold FUEL; dsimp only; omega) ?_) ?_)
  · rintro ⟨l, run, i⟩ h
    dsimp only at h ⊢
    have h0 := h.i0; have h1 := h.r0; have h2 := h.len
    have m1 := mul_bd (a := step) (b := i) (A := 128) (B := 9) (by omega) (by omega)
    have m2 := mul_bd (a := step) (b := run) (A := 128) (B := 8) (by omega) (by omega)
    refine Ok.ite (fun hlt => ?_) (fun hlt => Ok.ret ?_)
    · refine Ok.gd (by unfold I64; omega) (Ok.gd (by unfold I64; omega) (Ok.gd (fun hi => by have := hb i (by omega) hi; omega) (Ok.gd (fun _ => by unfold I64; omega) (Ok.gd (fun hi => by have := hb i (by omega) hi.1; omega) (Ok.ite (fun hc => ?_) (fun hc => ?_))))))
      · exact Ok.gd (by unfold I64; omega) (Ok.gd (by unfold I64; omega) (Ok.ret ⟨h.more hc.1.1 ⟨hc.1.2, hc.2⟩, by show (N + 1 - (i + 1)).toNat < (N + 1 - i).toNat; omega⟩))
      · have hq : ¬ (i < N ∧ PI fr a over step i) := fun k => hc ⟨⟨k.1, k.2.1⟩, k.2.2⟩
        refine Ok.ite (fun hr => ?_) (fun hr => ?_)
        · have m3 := mul_bd (a := step) (b := (run - 1) / 2) (A := 128) (B := 8) (by omega) (by omega)
          refine Ok.gd (by unfold I64; omega) (Ok.gd (by unfold I64; omega) (Ok.gd (by unfold I64; omega) (Ok.gd (by omega) (Ok.gd (by unfold I64; omega) (Ok.gd (by unfold I64; omega) (Ok.gd (by unfold I64; omega) (Ok.gd (by omega) (Ok.gd (by unfold I64; omega) (Ok.ret ⟨?_, by show (N + 1 - (i + 1)).toNat < (N + 1 - i).toNat; omega⟩)))))))))
          have e : a + step * i - step * run + step * ((run - 1) / 2) = a + step * (i - run + (run - 1) / 2) := by rw [Int.mul_add, Int.mul_sub]; omega
          show BI fr a over step N (l ++ [⟨a + step * i - step * run + step * ((run - 1) / 2), a + step * i - step * run + step * ((run - 1) / 2) + over, run⟩]) 0 (i + 1)
          rw [e]
          exact h.put hs.1 hr hq
        · have e : run = 0 := by omega
          subst e
          exact Ok.gd (by unfold I64; omega) (Ok.ret ⟨h.gap hs.1 hlt hq, by show (N + 1 - (i + 1)).toNat < (N + 1 - i).toNat; omega⟩)
    · have e : i = N + 1 := by omega
      subst e
      have e := h.z rfl
      subst e
      exact h
  · rintro l h
    refine Ok.ret ⟨by have := h.len; omega, h.nd, fun p => ?_⟩
    rw [h.mem p]
    constructor
    · rintro ⟨i, n, hr, _, hp⟩; exact ⟨i, n, hr, hp⟩
    · rintro ⟨i, n, hr, hp⟩; exact ⟨i, n, hr, by have := hr.lim; omega, hp⟩
/-- One border's portals, by the tiles. -/
theorem bord_p {W H : Int} {fr : List Bool} {d : Bool} {c k : Int} (hm : May W H) (hf : (fr.length : Int) = W * H) (ho : OkB W H d c) (hk : 0 ≤ k ∧ k % 8 = 0 ∧ k < limD W H d) :
    Ok (portal_border fr (posD W d c k) (ovrD W d) (stpD W d) (min 8 (limD W H d - k))) (fun l => l.length ≤ 9 ∧ l.Nodup ∧ ∀ p, p ∈ l ↔ ∃ v n, RunD W H fr d c v n ∧ v - v % 8 = k ∧ p = prtD W d c v n) := by
  have hm2 := hm
  unfold May at hm2
  have hbd := mul_bd (a := W) (b := H) (A := 128) (B := 128) (by omega) (by omega)
  have ho2 := ho
  unfold OkB at ho2
  have hp : ∀ v, 0 ≤ v → v < limD W H d → 0 ≤ posD W d c v ∧ posD W d c v + ovrD W d < W * H := fun v a b => by
    refine ⟨(posD_dm (H := H) (c := c) (v := v) (by omega) ⟨a, b⟩).1, ?_⟩
    rw [posD_over]
    exact posD_lt hm2.1.1 (by omega) ⟨a, b⟩
  have hov : 1 ≤ ovrD W d ∧ ovrD W d ≤ 128 := by cases d <;> simp [ovrD] <;> omega
  have hst : 1 ≤ stpD W d ∧ stpD W d ≤ 128 := by cases d <;> simp [stpD] <;> omega
  have hpk := hp k hk.1 hk.2.2
  refine Ok.mono (border_p (by omega) hov hst (by omega) (fun i i0 i1 => ?_)) fun l hl => ⟨hl.1, hl.2.1, fun p => ?_⟩
  · rw [← posD_step]
    have := hp (k + i) (by omega) (by omega)
    omega
  have hPI : ∀ i, PI fr (posD W d c k) (ovrD W d) (stpD W d) i ↔ QD W fr d c (k + i) := fun i => by unfold PI QD; rw [posD_step]
  rw [hl.2.2 p]
  constructor
  · rintro ⟨i, n, hr, rfl⟩
    have h1 := hr.n1; have h2 := hr.i0; have h3 := hr.lim
    refine ⟨k + i, n, ⟨ho, h1, by omega, by omega, by omega, fun j a b => ?_, ?_, ?_⟩, by omega, ?_⟩
    · have := (hPI (j - k)).1 (hr.q (j - k) (by omega) (by omega))
      rwa [show k + (j - k) = j by omega] at this
    · rcases hr.lo with e | e
      · exact .inl (by omega)
      · rw [hPI, show k + (i - 1) = k + i - 1 by omega] at e; exact .inr e
    · rcases hr.hi with e | e
      · omega
      · rw [hPI, ← Int.add_assoc] at e; exact .inr (.inr e)
    · unfold prtI prtD
      rw [← posD_step, ← Int.add_assoc]
  · rintro ⟨v, n, hr, hv, rfl⟩
    have h1 := hr.n1; have h2 := hr.v0; have h3 := hr.lim; have h4 := hr.blk
    refine ⟨v - k, n, ⟨h1, by omega, by omega, fun j a b => (hPI j).2 (hr.q _ (by omega) (by omega)), ?_, ?_⟩, ?_⟩
    · rcases hr.lo with e | e
      · exact .inl (by omega)
      · refine .inr fun q => e ?_
        have := (hPI _).1 q
        rwa [show k + (v - k - 1) = v - 1 by omega] at this
    · by_cases he : v - k + n = min 8 (limD W H d - k)
      · exact .inl he
      · rcases hr.hi with e | e | e
        · omega
        · omega
        · refine .inr fun q => e ?_
          have := (hPI _).1 q
          rwa [show k + (v - k + n) = v + n by omega] at this
    · unfold prtI prtD
      rw [← posD_step, ← Int.add_assoc, show k + (v - k) = v by omega]
end Go.Proofs.Ytddicdmleeaihaa
