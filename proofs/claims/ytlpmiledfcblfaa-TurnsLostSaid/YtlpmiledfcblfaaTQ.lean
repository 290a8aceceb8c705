/-
  Inputs, as pure functions: which may be, which rise, one more put there, those of a turn; the program's and the page's answers. The conditions stand in each lemma.
-/
import Derived.Test.YtlpmiledfcblfaaTP
set_option linter.unusedVariables false
set_option linter.unusedSimpArgs false
namespace Go.Proofs.Ytlpmiledfcblfaa
open Go.Vg Go.Lib
def cmdOk (c : Cmd) : Bool := (command_May c).getD false
theorem mayC_p {c : Cmd} (h : CmdS c) : command_May c = some (cmdOk c) ∧ throngref21_Command c = some (cmdOk c) := by
  obtain ⟨b, e1, e2⟩ := mayC_same h
  unfold cmdOk
  rw [e1, e2]; exact ⟨rfl, rfl⟩
def SaidOk (p : Int) (l : List Cmd) : Prop := (l.length : Int) ≤ 64 ∧ ∀ v : Int, 0 ≤ v → v < l.length → (cmdOk (gi l v) = true ∧ (gi l v).player = p) ∧ (0 < v → (gi l (v - 1)).seq < (gi l v).seq)
theorem said_b {p : Int} {l : List Cmd} (hl : l.length ≤ 1000000) (hs : ∀ c ∈ l, CmdS c) : Bo (turns_Said p l) (SaidOk p l) := by
  unfold turns_Said
  refine Ok.bind (scanOk (a := 0) (n := l.length) (fun v => (cmdOk (gi l v) = true ∧ (gi l v).player = p) ∧ (0 < v → (gi l (v - 1)).seq < (gi l v).seq)) (fun r => r = false ∧ ¬ SaidOk p l) (by omega) (fun v v0 v1 _ => ?_) (fun v v0 v1 => by rw [if_neg (by omega)])) ?_
  · rw [if_pos v1]
    refine Ok.gd ⟨v0, v1⟩ ?_
    rw [(mayC_p (hs _ (gi_mem ⟨v0, v1⟩))).1, bsome]
    refine Ok.gd (fun _ _ => by unfold I64; omega) (Ok.gd (fun _ h => ⟨by omega, by omega⟩) (Ok.ite (fun h => Ok.ret ⟨rfl, fun hu => ?_⟩) (fun h => Ok.gd (by unfold I64; omega) (Ok.ret ⟨rfl, ?_⟩))))
    · have h2 := hu.2 v v0 v1
      rcases h with (h | h) | h
      · rw [h2.1.1] at h; simp at h
      · exact h h2.1.2
      · have := h2.2 h.1; omega
    · refine ⟨⟨?_, ?_⟩, fun hv => ?_⟩
      · cases hc : cmdOk (gi l v) with
        | true => rfl
        | false => exact absurd (.inl (.inl (by rw [hc]; rfl))) h
      · apply Classical.byContradiction; intro hc; exact h (.inl (.inr hc))
      · apply Classical.byContradiction; intro hc; exact h (.inr ⟨hv, by omega⟩)
  · rintro (_ | _) hx
    · exact Bo.dec ⟨fun h => ⟨h, hx⟩, fun h => h.1⟩
    · exact Ok.ret ⟨fun e => (by rw [hx.1] at e; cases e), fun h => absurd h hx.2⟩
def InpOk (i : Inp) : Prop := ((((0 ≤ i.turn) ∧ (i.turn ≤ 1099511627776)) ∧ (1 ≤ i.player)) ∧ (i.player ≤ 8)) ∧ SaidOk i.player i.commands
theorem mayI_b {i : Inp} (h : InpS i) : Bo (turns_May i) (InpOk i) := by
  obtain ⟨b, e, hb⟩ := said_b (p := i.player) h.1 h.2
  unfold turns_May
  rw [e, bifp]
  refine Ok.ret ?_
  rw [Bool.and_eq_true, decide_eq_true_eq, hb]; rfl
theorem mayR_b {i : Inp} (h : InpS i) : Bo (throngref27_May i) (InpOk i) := by
  unfold throngref27_May
  obtain ⟨p, l, hpl⟩ : ∃ p l, i.player = p ∧ i.commands = l := ⟨_, _, rfl, rfl⟩
  have hl := h.1
  have hs := h.2
  unfold InpOk
  rw [hpl.1, hpl.2] at *
  unfold throngref0_Num
  rw [bsome]
  refine Ok.ite (fun h => Ok.ret ⟨fun e => by (cases e), fun hu => ?_⟩) (fun h => ?_)
  · have h2 := hu.1
    have h3 := hu.2.1
    rcases h with ((h | h) | h) | h
    · simp at h; omega
    · omega
    · omega
    · omega
  · have hn : ((0 ≤ i.turn ∧ i.turn ≤ 1099511627776) ∧ 1 ≤ p) ∧ p ≤ 8 ∧ (l.length : Int) ≤ 64 := by simp at h; omega
    refine Ok.bind (scanOk (a := 0) (n := l.length) (fun v => (cmdOk (gi l v) = true ∧ (gi l v).player = p) ∧ (0 < v → (gi l (v - 1)).seq < (gi l v).seq)) (fun r => r = false ∧ ¬ SaidOk p l) (by omega) (fun v v0 v1 _ => ?_) (fun v v0 v1 => by rw [if_neg (by omega)])) ?_
    · rw [if_pos v1]
      refine Ok.gd ⟨v0, v1⟩ ?_
      rw [(mayC_p (hs _ (gi_mem ⟨v0, v1⟩))).2, bsome]
      refine Ok.gd (fun _ _ => by unfold I64; omega) (Ok.gd (fun _ h => ⟨by omega, by omega⟩) (Ok.ite (fun h => Ok.ret ⟨rfl, fun hu => ?_⟩) (fun h => Ok.gd (by unfold I64; omega) (Ok.ret ⟨rfl, ?_⟩))))
      · have h2 := hu.2 v v0 v1
        rcases h with (h | h) | h
        · rw [h2.1.1] at h; simp at h
        · exact h h2.1.2
        · have := h2.2 h.1; omega
      · refine ⟨⟨?_, ?_⟩, fun hv => ?_⟩
        · cases hc : cmdOk (gi l v) with
          | true => rfl
          | false => exact absurd (.inl (.inl (by rw [hc]; rfl))) h
        · apply Classical.byContradiction; intro hc; exact h (.inl (.inr hc))
        · apply Classical.byContradiction; intro hc; exact h (.inr ⟨hv, by omega⟩)
    · rintro (_ | _) hx
      · exact Ok.ret ⟨fun _ => ⟨⟨hn.1, hn.2.1⟩, hn.2.2, hx⟩, fun _ => rfl⟩
      · exact Ok.ret ⟨fun e => (by rw [hx.1] at e; cases e), fun h => absurd h.2 hx.2⟩
/-! ### The order -/
theorem compare_p (x y : Int) : cmp_Compare x y = some (Lib.compareInt x y) := by
  have hn : ∀ z : Int, cmp_isNaN z = some false := fun z => by unfold cmp_isNaN; simp
  unfold cmp_Compare Lib.compareInt
  rw [hn, hn, bsome, bsome, if_neg (by simp), if_neg (by simp)]
  by_cases h1 : x < y
  · rw [if_pos h1, if_pos h1]
  · rw [if_neg h1, if_neg h1]
    by_cases h2 : y < x
    · rw [if_pos h2, if_pos h2]
    · rw [if_neg h2, if_neg h2]
theorem or_p (x y : Int) : cmp_Or [x, y] = some (orI x y) := by
  unfold cmp_Or orI
  refine Ok.eq (Ok.bind (R := fun r : Ex Unit Int => r = if x = 0 then (if y = 0 then Ex.go () else Ex.up y) else Ex.up x) (Ok.loop (fun v : Int => (v = 0) ∨ (v = 1 ∧ x = 0) ∨ (v = 2 ∧ x = 0 ∧ y = 0)) (fun v => (2 - v).toNat) (.inl rfl) (by unfold FUEL; simp) ?_) ?_)
  · rintro v (rfl | ⟨rfl, hx⟩ | ⟨rfl, hx, hy⟩)
    · rw [if_pos (by simp), if_pos (by simp)]
      show Ok (if ¬ x = 0 then _ else _) _
      refine Ok.ite (fun h => Ok.ret ?_) (fun h => Ok.gd (by unfold I64; omega) (Ok.ret ⟨.inr (.inl ⟨rfl, by omega⟩), by decide⟩))
      show Ex.up x = _
      rw [if_neg h]
    · rw [if_pos (by simp), if_pos (by simp)]
      show Ok (if ¬ y = 0 then _ else _) _
      refine Ok.ite (fun h => Ok.ret ?_) (fun h => Ok.gd (by unfold I64; omega) (Ok.ret ⟨.inr (.inr ⟨rfl, hx, by omega⟩), by decide⟩))
      show Ex.up y = _
      rw [if_pos hx, if_neg h]
    · rw [if_neg (by simp)]
      refine Ok.ret ?_
      show Ex.go () = _
      rw [if_pos hx, if_pos hy]
  · rintro r rfl
    by_cases hx : x = 0
    · by_cases hy : y = 0
      · rw [if_pos hx, if_pos hy]; exact Ok.ret (by rw [if_pos hx, hy])
      · rw [if_pos hx, if_neg hy]; exact Ok.ret (by rw [if_pos hx])
    · rw [if_neg hx]; exact Ok.ret (by rw [if_neg hx])
def lessI (a b : Inp) : Int := orI (Lib.compareInt a.turn b.turn) (Lib.compareInt a.player b.player)
theorem less_p (a b : Inp) : turns_less a b = some (lessI a b) := by
  unfold turns_less
  rw [compare_p, compare_p, bsome, bsome, or_p]; rfl
theorem lessI_lt (a b : Inp) : lessI a b < 0 ↔ InLt a b := orI_lt _ _ _ _
theorem lessI_eq (a b : Inp) : lessI a b = 0 ↔ a.turn = b.turn ∧ a.player = b.player := by
  unfold lessI orI Lib.compareInt
  by_cases h1 : a.turn < b.turn
  · simp [h1]; omega
  · by_cases h2 : b.turn < a.turn
    · simp [h1, h2]; omega
    · have h3 : a.turn = b.turn := by omega
      by_cases h4 : a.player < b.player
      · simp [h1, h2, h4]; omega
      · by_cases h5 : b.player < a.player
        · simp [h1, h2, h4, h5]; omega
        · simp [h1, h2, h4, h5]; omega
theorem ahead_p (a b : Inp) : throngref27_ahead a b = some (decide (InLt a b)) := rfl
theorem InLt.trans {a b c : Inp} (h : InLt a b) (k : InLt b c) : InLt a c := by unfold InLt at *; omega
theorem InLt.irr (a : Inp) : ¬ InLt a a := by unfold InLt; omega
theorem InLt.key {a b : Inp} : (¬ InLt a b ∧ ¬ InLt b a) ↔ (a.turn = b.turn ∧ a.player = b.player) := by unfold InLt; omega
/-! ### Lists that rise -/
def ListOk (l : List Inp) : Prop := ∀ v : Int, 0 ≤ v → v < l.length → InpOk (gi l v) ∧ (0 < v → InLt (gi l (v - 1)) (gi l v))
theorem rising_b {l : List Inp} (h : InpsS l) : Bo (turns_Rising l) (ListOk l) := by
  have hl := h.1
  unfold turns_Rising
  refine scanBo (a := 0) (n := l.length) (fun v => InpOk (gi l v) ∧ (0 < v → InLt (gi l (v - 1)) (gi l v))) (by omega) (fun v v0 v1 _ => ?_) (fun v v0 v1 => by rw [if_neg (by omega)])
  rw [if_pos v1]
  obtain ⟨b, e, hb⟩ := mayI_b (h.2 _ (gi_mem ⟨v0, v1⟩))
  refine Ok.gd ⟨v0, v1⟩ (Ok.bindE e ?_)
  refine Ok.bind (R := fun r => r = true ↔ ¬ (InpOk (gi l v) ∧ (0 < v → InLt (gi l (v - 1)) (gi l v)))) (Ok.ite (fun hn => Ok.ret ⟨fun _ hc => ?_, fun _ => rfl⟩) (fun hn => ?_)) (fun r hr => ?_)
  · rw [hb.2 hc.1] at hn; simp at hn
  · have hin : InpOk (gi l v) := hb.1 (by simpa using hn)
    refine Ok.bind (R := fun r => r = true ↔ ¬ (InpOk (gi l v) ∧ (0 < v → InLt (gi l (v - 1)) (gi l v)))) (Ok.ite (fun hv => ?_) (fun hv => ?_)) (fun r hr => Ok.ret hr)
    · refine Ok.gd (by unfold I64; omega) (Ok.gd ⟨by omega, by omega⟩ (Ok.bindE (less_p _ _) (Ok.ret ?_)))
      rw [decide_eq_true_iff]
      have := lessI_lt (gi l (v - 1)) (gi l v)
      constructor
      · intro h1 h2; have := this.2 (h2.2 hv); omega
      · intro h1; apply Classical.byContradiction; intro h2; exact h1 ⟨hin, fun _ => this.1 (by omega)⟩
    · exact Ok.ret ⟨fun e => by (cases e), fun h => absurd ⟨hin, fun h2 => absurd h2 hv⟩ h⟩
  · refine Ok.ite (fun h1 => Ok.ret ⟨rfl, hr.1 h1⟩) (fun h1 => Ok.gd (by unfold I64; omega) (Ok.ret ⟨rfl, ?_⟩))
    apply Classical.byContradiction; intro h2; exact h1 (hr.2 h2)
theorem list_b {l : List Inp} (h : InpsS l) : Bo (throngref27_List l) (ListOk l) := by
  have hl := h.1
  unfold throngref27_List
  refine scanBo (a := 0) (n := l.length) (fun v => InpOk (gi l v) ∧ (0 < v → InLt (gi l (v - 1)) (gi l v))) (by omega) (fun v v0 v1 _ => ?_) (fun v v0 v1 => by rw [if_neg (by omega)])
  rw [if_pos v1]
  obtain ⟨b, e, hb⟩ := mayR_b (h.2 _ (gi_mem ⟨v0, v1⟩))
  refine Ok.gd ⟨v0, v1⟩ (Ok.bindE e ?_)
  refine Ok.bind (R := fun r => r = true ↔ ¬ (InpOk (gi l v) ∧ (0 < v → InLt (gi l (v - 1)) (gi l v)))) (Ok.ite (fun hn => Ok.ret ⟨fun _ hc => ?_, fun _ => rfl⟩) (fun hn => ?_)) (fun r hr => ?_)
  · rw [hb.2 hc.1] at hn; simp at hn
  · have hin : InpOk (gi l v) := hb.1 (by simpa using hn)
    refine Ok.bind (R := fun r => r = true ↔ ¬ (InpOk (gi l v) ∧ (0 < v → InLt (gi l (v - 1)) (gi l v)))) (Ok.ite (fun hv => ?_) (fun hv => ?_)) (fun r hr => Ok.ret hr)
    · refine Ok.gd (by unfold I64; omega) (Ok.gd ⟨by omega, by omega⟩ (Ok.gd ⟨v0, v1⟩ (Ok.bindE (ahead_p _ _) (Ok.ret ?_))))
      rw [Bool.not_eq_true', decide_eq_false_iff_not]
      constructor
      · intro h1 h2; exact h1 (h2.2 hv)
      · intro h1 h2; exact h1 ⟨hin, fun _ => h2⟩
    · exact Ok.ret ⟨fun e => by (cases e), fun h => absurd ⟨hin, fun h2 => absurd h2 hv⟩ h⟩
  · refine Ok.ite (fun h1 => Ok.ret ⟨rfl, hr.1 h1⟩) (fun h1 => Ok.gd (by unfold I64; omega) (Ok.ret ⟨rfl, ?_⟩))
    apply Classical.byContradiction; intro h2; exact h1 (hr.2 h2)
theorem ListOk.iff {l : List Inp} : ListOk l ↔ (∀ x ∈ l, InpOk x) ∧ l.Pairwise InLt := by
  constructor
  · intro h
    refine ⟨fun x hx => ?_, ?_⟩
    · obtain ⟨i, h0, h1, rfl⟩ := gi_mem2.1 hx
      exact (h i h0 h1).1
    · have key : ∀ d : Nat, ∀ i : Int, 0 ≤ i → i + 1 + d < l.length → InLt (gi l i) (gi l (i + 1 + d)) := by
        intro d
        induction d with
        | zero => intro i h0 h1; have := (h (i + 1) (by omega) (by omega)).2 (by omega); simpa using this
        | succ d ih =>
          intro i h0 h1
          have h2 := ih i h0 (by omega)
          have h3 := (h (i + 1 + (d + 1 : Nat)) (by omega) (by omega)).2 (by omega)
          rw [show i + 1 + ((d + 1 : Nat) : Int) - 1 = i + 1 + (d : Int) by omega] at h3
          exact h2.trans h3
      rw [List.pairwise_iff_getElem]
      intro i j hi hj hij
      have := key (j - i - 1) (i : Int) (by omega) (by omega)
      rw [show (i : Int) + 1 + ((j - i - 1 : Nat) : Int) = (j : Int) by omega] at this
      simpa [gi, List.getD, hi, hj] using this
  · rintro ⟨h1, h2⟩ v v0 v1
    refine ⟨h1 _ (gi_mem ⟨v0, v1⟩), fun hv => ?_⟩
    rw [List.pairwise_iff_getElem] at h2
    have hi : (v - 1).toNat < l.length := by omega
    have hj : v.toNat < l.length := by omega
    have := h2 _ _ hi hj (by omega)
    have e1 : gi l v = l[v.toNat] := by simp [gi, List.getD, hj]
    have e2 : gi l (v - 1) = l[(v - 1).toNat] := by unfold gi; rw [List.getD_eq_getElem?_getD, List.getElem?_eq_getElem hi]; rfl
    rw [e1, e2]; exact this
/-! ### One more -/
def Has (l : List Inp) (x : Inp) : Prop := ∃ y ∈ l, y.turn = x.turn ∧ y.player = x.player
/-- How many are ahead. -/
def cutI : List Inp → Inp → Nat
  | [], _ => 0
  | y :: l, x => if InLt y x then cutI l x + 1 else 0
theorem cut_le (x : Inp) : ∀ l : List Inp, cutI l x ≤ l.length
  | [] => Nat.le_refl _
  | y :: l => by
    unfold cutI
    have := cut_le x l
    split <;> simp <;> omega
theorem cut_ltN (x : Inp) : ∀ (l : List Inp) (j : Nat), j < cutI l x → InLt (l.getD j default) x
  | [], j, h => by simp [cutI] at h
  | y :: l, j, h => by
    unfold cutI at h
    split at h
    · rename_i hy
      cases j with
      | zero => exact hy
      | succ j => exact cut_ltN x l j (by omega)
    · omega
theorem cut_atN (x : Inp) : ∀ (l : List Inp), cutI l x < l.length → ¬ InLt (l.getD (cutI l x) default) x
  | [], h => by simp at h
  | y :: l, h => by
    unfold cutI at h ⊢
    by_cases hy : InLt y x
    · rw [if_pos hy] at h ⊢
      exact cut_atN x l (by simpa using h)
    · rw [if_neg hy]; exact hy
theorem cut_lt {l : List Inp} {x : Inp} {v : Int} (v0 : 0 ≤ v) (v1 : v < cutI l x) : InLt (gi l v) x := cut_ltN x l v.toNat (by omega)
theorem cut_at {l : List Inp} {x : Inp} (h : cutI l x < l.length) : ¬ InLt (gi l (cutI l x)) x := by
  have := cut_atN x l h
  unfold gi
  rwa [Int.toNat_natCast]
theorem ListOk.lt {l : List Inp} (h : l.Pairwise InLt) {i j : Int} (h0 : 0 ≤ i) (hij : i < j) (hj : j < l.length) : InLt (gi l i) (gi l j) := by
  rw [List.pairwise_iff_getElem] at h
  have hi' : i.toNat < l.length := by omega
  have hj' : j.toNat < l.length := by omega
  have := h _ _ hi' hj' (by omega)
  have e1 : gi l j = l[j.toNat] := by unfold gi; rw [List.getD_eq_getElem?_getD, List.getElem?_eq_getElem hj']; rfl
  have e2 : gi l i = l[i.toNat] := by unfold gi; rw [List.getD_eq_getElem?_getD, List.getElem?_eq_getElem hi']; rfl
  rw [e1, e2]; exact this
/-- A place ahead of which all are ahead, at which one is not: it is the one. -/
theorem cut_uniq {l : List Inp} {x : Inp} (hp : l.Pairwise InLt) {v : Int} (v0 : 0 ≤ v) (v1 : v ≤ l.length) (ha : ∀ u, 0 ≤ u → u < v → InLt (gi l u) x) (hb : v < l.length → ¬ InLt (gi l v) x) : v = cutI l x := by
  have h1 := cut_le x l
  rcases Int.lt_trichotomy v (cutI l x : Int) with h | h | h
  · exact absurd (cut_lt v0 h) (hb (by omega))
  · exact h
  · exact absurd (ha _ (by omega) h) (cut_at (by omega))
theorem has_iff {l : List Inp} {x : Inp} (hp : l.Pairwise InLt) : Has l x ↔ (cutI l x < l.length ∧ ¬ InLt x (gi l (cutI l x))) := by
  constructor
  · rintro ⟨y, hy, hk⟩
    obtain ⟨i, h0, h1, rfl⟩ := gi_mem2.1 hy
    have hn := InLt.key.2 hk
    have : i = cutI l x := cut_uniq hp h0 (by omega) (fun u u0 u1 => by have := ListOk.lt hp u0 u1 h1; unfold InLt at *; omega) (fun _ => hn.1)
    rw [← this]
    exact ⟨by omega, hn.2⟩
  · rintro ⟨h1, h2⟩
    exact ⟨_, gi_mem ⟨by omega, by omega⟩, InLt.key.1 ⟨cut_at h1, h2⟩⟩
def insI (l : List Inp) (x : Inp) : List Inp := l.take (cutI l x) ++ x :: l.drop (cutI l x)
theorem insI_len (l : List Inp) (x : Inp) : (insI l x).length = l.length + 1 := by
  have := cut_le x l
  unfold insI
  simp; omega
theorem insI_perm (l : List Inp) (x : Inp) : (insI l x).Perm (x :: l) := by
  unfold insI
  refine List.perm_middle.trans ?_
  rw [List.take_append_drop]
theorem insI_S {l : List Inp} {x : Inp} (h : InpsS l) (hl : l.length < 1000000) (hx : InpS x) : InpsS (insI l x) := by
  refine ⟨by rw [insI_len]; omega, fun y hy => ?_⟩
  rcases List.mem_cons.1 ((insI_perm l x).mem_iff.1 hy) with rfl | hy
  · exact hx
  · exact h.2 y hy
theorem insI_pair {l : List Inp} {x : Inp} (hp : l.Pairwise InLt) (hn : ¬ Has l x) : (insI l x).Pairwise InLt := by
  have hc := cut_le x l
  have h1 : ∀ y ∈ l.take (cutI l x), InLt y x := fun y hy => by
    obtain ⟨i, h0, hi, rfl⟩ := gi_mem2.1 hy
    rw [List.length_take] at hi
    have : gi (l.take (cutI l x)) i = gi l i := by
      unfold gi
      rw [List.getD_eq_getElem?_getD, List.getD_eq_getElem?_getD, List.getElem?_take_of_lt (by omega)]
    rw [this]
    exact cut_lt h0 (by omega)
  have h2 : ∀ y ∈ l.drop (cutI l x), InLt x y := fun y hy => by
    obtain ⟨i, h0, hi, rfl⟩ := gi_mem2.1 hy
    rw [List.length_drop] at hi
    have e : gi (l.drop (cutI l x)) i = gi l (cutI l x + i) := by
      unfold gi
      rw [List.getD_eq_getElem?_getD, List.getD_eq_getElem?_getD, List.getElem?_drop, show ((cutI l x : Int) + i).toNat = cutI l x + i.toNat by omega]
    rw [e]
    have hlt : cutI l x < l.length := by omega
    have h3 : InLt x (gi l (cutI l x)) := Classical.byContradiction fun h => hn ((has_iff hp).2 ⟨hlt, h⟩)
    by_cases hi0 : i = 0
    · subst hi0; simpa using h3
    · exact h3.trans (ListOk.lt hp (by omega) (by omega) (by omega))
  unfold insI
  rw [List.pairwise_append, List.pairwise_cons]
  refine ⟨hp.sublist (List.take_sublist _ _), ⟨h2, hp.sublist (List.drop_sublist _ _)⟩, fun a ha b hb => ?_⟩
  rcases List.mem_cons.1 hb with rfl | hb
  · exact h1 a ha
  · exact (h1 a ha).trans (h2 b hb)
theorem InpsS.take {l : List Inp} (h : InpsS l) (n : Nat) : InpsS (l.take n) := ⟨by rw [List.length_take]; have := h.1; omega, fun y hy => h.2 y (List.mem_of_mem_take hy)⟩
theorem InpsS.drop {l : List Inp} (h : InpsS l) (n : Nat) : InpsS (l.drop n) := ⟨by rw [List.length_drop]; have := h.1; omega, fun y hy => h.2 y (List.mem_of_mem_drop hy)⟩
/-- The page's Put. -/
theorem putR_p {l : List Inp} {x : Inp} (h : InpsS l) (hx : InpS x) (hp : l.Pairwise InLt) : (Has l x → throngref27_Put l x = some ([], 12)) ∧ (¬ Has l x → throngref27_Put l x = some (insI l x, 0)) := by
  have hl := h.1
  have hc := cut_le x l
  have hloop : Ok (throngref27_Put l x) fun r => (Has l x → r = ([], 12)) ∧ (¬ Has l x → r = (insI l x, 0)) := by
    unfold throngref27_Put
    refine Ok.bind (R := fun v : Int => v = cutI l x) (Ok.loop (fun v : Int => (0 ≤ v ∧ v ≤ l.length) ∧ ∀ u, 0 ≤ u → u < v → InLt (gi l u) x) (fun v => (l.length - v).toNat) ⟨by simp, fun u u0 u1 => by omega⟩ (by unfold FUEL; simp; omega) ?_) ?_
    · rintro v ⟨⟨v0, v1⟩, hv⟩
      by_cases hlt : v < l.length
      · refine Ok.bindE (x := decide (InLt (gi l v) x)) (by rw [if_pos hlt, if_pos ⟨v0, hlt⟩]; rfl) (Ok.ite (fun hd => ?_) (fun hd => Ok.ret ?_))
        · refine Ok.gd (by unfold I64; omega) (Ok.ret ⟨⟨⟨by omega, by omega⟩, fun u u0 u1 => ?_⟩, by omega⟩)
          by_cases e : u = v
          · subst e; simpa using hd
          · exact hv u u0 (by omega)
        · exact cut_uniq hp v0 (by omega) hv (fun _ => by simpa using hd)
      · refine Ok.bindE (x := false) (by rw [if_neg hlt]) ?_
        rw [if_neg (by simp)]
        exact Ok.ret (cut_uniq hp v0 (by omega) hv (fun h => absurd h hlt))
    · rintro v rfl
      by_cases hh : Has l x
      · have h2 := (has_iff hp).1 hh
        refine Ok.bindE (x := true) (by rw [if_pos (by omega), if_pos (by omega), ahead_p, bsome, decide_eq_false h2.2]; rfl) ?_
        rw [if_pos rfl]
        exact Ok.ret ⟨fun _ => rfl, fun hn => absurd hh hn⟩
      · have h2 : ¬ (cutI l x < l.length ∧ ¬ InLt x (gi l (cutI l x))) := fun h => hh ((has_iff hp).2 h)
        refine Ok.bindE (x := false) ?_ ?_
        · by_cases hlt : (cutI l x : Int) < l.length
          · rw [if_pos hlt, if_pos (by omega), ahead_p, bsome, decide_eq_true (Classical.byContradiction fun h => h2 ⟨by omega, h⟩)]; rfl
          · rw [if_neg hlt]
        · rw [if_neg (by simp)]
          refine Ok.gd (by omega) ?_
          rw [Int.toNat_natCast, copyIs_p (h.take _), bsome, copyI_p hx, bsome]
          refine Ok.gd (by rw [List.length_take]; omega) (Ok.gd (by omega) ?_)
          rw [copyIs_p (h.drop _), bsome]
          refine Ok.gd (by simp; omega) (Ok.ret ⟨fun h => absurd h hh, fun _ => ?_⟩)
          unfold insI
          rw [List.append_assoc]; rfl
  obtain ⟨r, e, h1, h2⟩ := hloop
  exact ⟨fun h => by rw [e, h1 h], fun h => by rw [e, h2 h]⟩
theorem search_p {l : List Inp} {x : Inp} (hl : l.length ≤ 1000000) (hp : l.Pairwise InLt) : Ok (slices_BinarySearchFunc l x (fun (y0, y1) => turns_less y0 y1)) fun r => r.1 = cutI l x ∧ (r.2 = true ↔ Has l x) := by
  have hc := cut_le x l
  unfold slices_BinarySearchFunc
  refine Ok.bind (R := fun v : Int => v = cutI l x) (Ok.loop (fun z : Int × Int => (0 ≤ z.1 ∧ z.1 ≤ z.2 ∧ z.2 ≤ l.length) ∧ z.1 ≤ cutI l x ∧ (cutI l x : Int) ≤ z.2) (fun z => (z.2 - z.1).toNat) ⟨by simp, by simp, by simpa using hc⟩ (by unfold FUEL; simp; omega) ?_) ?_
  · rintro ⟨i, j⟩ ⟨⟨h0, h1, h2⟩, h3, h4⟩
    dsimp only at h0 h1 h2 h3 h4 ⊢
    refine Ok.ite (fun hlt => ?_) (fun hlt => Ok.ret (by show i = _; omega))
    obtain ⟨m, hm⟩ : ∃ m, m = (i + j) % 18446744073709551616 / 2 := ⟨_, rfl⟩
    have hm2 : m = (i + j) / 2 := by rw [hm, Int.emod_eq_of_lt (by omega) (by omega)]
    rw [← hm]
    refine Ok.gd (by unfold I64; omega) (Ok.gd (Int.emod_nonneg _ (by decide)) (Ok.gd (by unfold I64; omega) (Ok.gd (by omega) ?_)))
    show Ok (Option.bind (turns_less (gi l m) x) _) _
    rw [less_p, bsome]
    refine Ok.ite (fun hs => ?_) (fun hs => ?_)
    · have hs := (lessI_lt _ _).1 hs
      refine Ok.gd (by unfold I64; omega) (Ok.ret ⟨⟨⟨by show 0 ≤ m + 1; omega, by show m + 1 ≤ j; omega, h2⟩, ?_, h4⟩, by show (j - (m + 1)).toNat < (j - i).toNat; omega⟩)
      show m + 1 ≤ _
      apply Classical.byContradiction; intro hn
      have hcm : (cutI l x : Int) ≤ m := by omega
      refine cut_at (l := l) (x := x) (by omega) ?_
      by_cases e : (cutI l x : Int) = m
      · rw [e]; exact hs
      · exact (ListOk.lt hp (by omega) (by omega : (cutI l x : Int) < m) (by omega)).trans hs
    · refine Ok.ret ⟨⟨⟨h0, by show i ≤ m; omega, by show m ≤ _; omega⟩, h3, ?_⟩, by show (m - i).toNat < (j - i).toNat; omega⟩
      show (cutI l x : Int) ≤ m
      apply Classical.byContradiction; intro hn
      exact hs ((lessI_lt _ _).2 (cut_lt (by omega) (by omega)))
  · rintro v rfl
    by_cases hlt : (cutI l x : Int) < l.length
    · rw [if_pos hlt, if_pos (by omega)]
      show Ok (Option.bind (Option.bind (turns_less (gi l (cutI l x)) x) _) _) _
      rw [less_p, bsome, bsome]
      refine Ok.ret ⟨rfl, ?_⟩
      show decide (lessI (gi l (cutI l x)) x = 0) = true ↔ _
      rw [decide_eq_true_iff, lessI_eq, has_iff hp, ← InLt.key]
      exact ⟨fun h => ⟨by omega, h.2⟩, fun h => ⟨cut_at h.1, h.2⟩⟩
    · rw [if_neg hlt, bsome]
      refine Ok.ret ⟨rfl, ?_⟩
      show false = true ↔ _
      rw [has_iff hp]
      exact ⟨fun h => by (cases h), fun h => absurd h.1 (by omega)⟩
/-- The program's In. -/
theorem in_p {l : List Inp} {x : Inp} (h : InpsS l) (hx : InpS x) (hp : l.Pairwise InLt) : (Has l x → turns_In l x = some ([], false)) ∧ (¬ Has l x → turns_In l x = some (insI l x, true)) := by
  have hl := h.1
  have hc := cut_le x l
  obtain ⟨⟨k, b⟩, e, h1, h2⟩ := search_p (x := x) hl hp
  dsimp only at h1 h2
  subst h1
  unfold turns_In
  rw [e, bsome]
  dsimp only
  constructor
  · intro hh; rw [if_pos (h2.2 hh)]
  · intro hh
    rw [if_neg (fun e => hh (h2.1 e)), ownIs_p h, bsome, ownI_p hx, bsome]
    unfold slices_InsertI
    rw [if_pos ⟨rfl, by omega, by omega⟩, bsome, Int.toNat_natCast]
    unfold insI
    rw [List.append_assoc]; rfl
theorem put_p {l : List Inp} {x : Inp} (h : InpsS l) (hx : InpS x) :
    (¬ (ListOk l ∧ InpOk x) → turns_Put l x = some ([], 1)) ∧ (ListOk l ∧ InpOk x → Has l x → turns_Put l x = some ([], 12)) ∧ (ListOk l ∧ InpOk x → ¬ Has l x → turns_Put l x = some (insI l x, 0)) := by
  have hr := rising_b h
  have hm := mayI_b hx
  unfold turns_Put
  refine ⟨fun hn => ?_, fun ho hh => ?_, fun ho hh => ?_⟩
  · by_cases hlo : ListOk l
    · have hxo : ¬ InpOk x := fun h => hn ⟨hlo, h⟩
      rw [hr.t hlo, bsome, if_neg (by simp), hm.f hxo, bsome, bsome]; rfl
    · rw [hr.f hlo, bsome, if_pos (show (!false) = true from rfl), bsome, if_pos rfl]
  · rw [hr.t ho.1, bsome, if_neg (by simp), hm.t ho.2, bsome, bsome, if_neg (by simp), (in_p h hx (ListOk.iff.1 ho.1).2).1 hh, bsome]; rfl
  · rw [hr.t ho.1, bsome, if_neg (by simp), hm.t ho.2, bsome, bsome, if_neg (by simp), (in_p h hx (ListOk.iff.1 ho.1).2).2 hh, bsome]; rfl
/-! ### Those of a turn -/
theorem part_p {l : List Inp} (h : InpsS l) (t : Int) : turns_Part l t = some (l.filter fun i => decide (i.turn = t), l.filter fun i => !decide (i.turn = t)) := by
  have hl := h.1
  unfold turns_Part
  refine Ok.eq (Ok.bind (R := fun x => x = (l.filter (fun i => decide (i.turn = t)), l.filter fun i => !decide (i.turn = t))) (Ok.loop (fun z : List Inp × List Inp × Int => (0 ≤ z.2.2 ∧ z.2.2 ≤ l.length) ∧ z.1 = (l.take z.2.2.toNat).filter (fun i => decide (i.turn = t)) ∧ z.2.1 = (l.take z.2.2.toNat).filter fun i => !decide (i.turn = t)) (fun z => (l.length - z.2.2).toNat) ⟨by simp, by simp, by simp⟩ (by unfold FUEL; simp; omega) ?_) (fun x hx => Ok.ret hx))
  rintro ⟨a, b, v⟩ ⟨⟨v0, v1⟩, ha, hb⟩
  dsimp only at v0 v1 ha hb ⊢
  have ha' : a.length ≤ 1000000 := by rw [ha]; exact Nat.le_trans (List.length_filter_le _ _) (by rw [List.length_take]; omega)
  have hb' : b.length ≤ 1000000 := by rw [hb]; exact Nat.le_trans (List.length_filter_le _ _) (by rw [List.length_take]; omega)
  refine Ok.ite (fun hlt => Ok.gd ⟨v0, hlt⟩ ?_) (fun hlt => Ok.ret ?_)
  · have hnx := take_nextV (s := l) (i := v) ⟨v0, hlt⟩
    rw [ownI_p (h.2 _ (gi_mem ⟨v0, hlt⟩))]
    refine Ok.ite (fun ht => ?_) (fun ht => ?_)
    · rw [bsome]
      refine Ok.gd (by omega) (Ok.gd (by unfold I64; omega) (Ok.ret ⟨⟨⟨by show 0 ≤ v + 1; omega, by show v + 1 ≤ _; omega⟩, ?_, ?_⟩, by show (l.length - (v + 1)).toNat < _; omega⟩))
      · show _ = (l.take (v + 1).toNat).filter _
        rw [hnx, List.filter_append, ← ha]; simp [ht]
      · show _ = (l.take (v + 1).toNat).filter _
        rw [hnx, List.filter_append, ← hb]; simp [ht]
    · rw [bsome]
      refine Ok.gd (by omega) (Ok.gd (by unfold I64; omega) (Ok.ret ⟨⟨⟨by show 0 ≤ v + 1; omega, by show v + 1 ≤ _; omega⟩, ?_, ?_⟩, by show (l.length - (v + 1)).toNat < _; omega⟩))
      · show _ = (l.take (v + 1).toNat).filter _
        rw [hnx, List.filter_append, ← ha]; simp [ht]
      · show _ = (l.take (v + 1).toNat).filter _
        rw [hnx, List.filter_append, ← hb]; simp [ht]
  · have : v = l.length := by omega
    subst this
    rw [ha, hb]; simp
theorem takeR_p {l : List Inp} (h : InpsS l) (t : Int) : throngref27_Take l t = some (l.filter (fun i => decide (i.turn = t)), l.filter fun i => !decide (i.turn = t)) := by
  have hl := h.1
  unfold throngref27_Take
  refine Ok.eq (Ok.bind (R := fun x => x = (l.filter (fun i => decide (i.turn = t)), l.filter fun i => !decide (i.turn = t))) (Ok.loop (fun z : List Inp × List Inp × Int => (0 ≤ z.2.2 ∧ z.2.2 ≤ l.length) ∧ z.1 = (l.take z.2.2.toNat).filter (fun i => decide (i.turn = t)) ∧ z.2.1 = (l.take z.2.2.toNat).filter fun i => !decide (i.turn = t)) (fun z => (l.length - z.2.2).toNat) ⟨by simp, by simp, by simp⟩ (by unfold FUEL; simp; omega) ?_) (fun x hx => Ok.ret hx))
  rintro ⟨a, b, v⟩ ⟨⟨v0, v1⟩, ha, hb⟩
  dsimp only at v0 v1 ha hb ⊢
  have ha' : a.length ≤ 1000000 := by rw [ha]; exact Nat.le_trans (List.length_filter_le _ _) (by rw [List.length_take]; omega)
  have hb' : b.length ≤ 1000000 := by rw [hb]; exact Nat.le_trans (List.length_filter_le _ _) (by rw [List.length_take]; omega)
  refine Ok.ite (fun hlt => Ok.gd ⟨v0, hlt⟩ ?_) (fun hlt => Ok.ret ?_)
  · have hnx := take_nextV (s := l) (i := v) ⟨v0, hlt⟩
    rw [copyI_p (h.2 _ (gi_mem ⟨v0, hlt⟩))]
    refine Ok.ite (fun ht => Ok.gd ⟨v0, hlt⟩ ?_) (fun ht => Ok.gd ⟨v0, hlt⟩ ?_)
    · rw [bsome]
      refine Ok.gd (by omega) (Ok.gd (by unfold I64; omega) (Ok.ret ⟨⟨⟨by show 0 ≤ v + 1; omega, by show v + 1 ≤ _; omega⟩, ?_, ?_⟩, by show (l.length - (v + 1)).toNat < _; omega⟩))
      · show _ = (l.take (v + 1).toNat).filter _
        rw [hnx, List.filter_append, ← ha]; simp [ht]
      · show _ = (l.take (v + 1).toNat).filter _
        rw [hnx, List.filter_append, ← hb]; simp [ht]
    · rw [bsome]
      refine Ok.gd (by omega) (Ok.gd (by unfold I64; omega) (Ok.ret ⟨⟨⟨by show 0 ≤ v + 1; omega, by show v + 1 ≤ _; omega⟩, ?_, ?_⟩, by show (l.length - (v + 1)).toNat < _; omega⟩))
      · show _ = (l.take (v + 1).toNat).filter _
        rw [hnx, List.filter_append, ← ha]; simp [ht]
      · show _ = (l.take (v + 1).toNat).filter _
        rw [hnx, List.filter_append, ← hb]; simp [ht]
  · have : v = l.length := by omega
    subst this
    rw [ha, hb]; simp
end Go.Proofs.Ytlpmiledfcblfaa
