/-
  Pure functions beside a walk: guards, meetings and loops in Option, and the walk's rules that follow them. For every program, with no condition. A library of this claim's own.
-/
import Derived.Test.YtddicdmleeaihaaVK
import Derived.Test.YtddicdmleeaihaaVH
set_option linter.unusedSimpArgs false
set_option linter.unusedVariables false
namespace Go.Vg
open Enc (R)

/-! ### Pure -/
instance (i : Int) : Decidable (I64 i) := by unfold I64; exact inferInstance
theorem gdE {p : Prop} [Decidable p] {α : Type} {k : Option α} {r : α} (h : (if p then k else none) = some r) : p ∧ k = some r := by
  by_cases hp : p
  · rw [if_pos hp] at h; exact ⟨hp, h⟩
  · rw [if_neg hp] at h; cases h
theorem ifT {p : Prop} [Decidable p] {α : Type} {a b : Option α} {r : α} (hp : p) (h : (if p then a else b) = some r) : a = some r := by rw [if_pos hp] at h; exact h
theorem ifF {p : Prop} [Decidable p] {α : Type} {a b : Option α} {r : α} (hp : ¬ p) (h : (if p then a else b) = some r) : b = some r := by rw [if_neg hp] at h; exact h
theorem ifB {c : Bool} {α : Type} {a b : Option α} {r : α} (hp : c = false) (h : (if c = true then a else b) = some r) : b = some r := ifF (by rw [hp]; simp) h
theorem bindE {α β : Type} {m : Option α} {k : α → Option β} {r : β} (h : m.bind k = some r) : ∃ x, m = some x ∧ k x = some r := Option.bind_eq_some_iff.1 h

/-- On, or out to what stands around. -/
inductive Ex (α β : Type) | go (a : α) | up (b : β)
def Ex.then {α β : Type} (x : Ex α β) (k : α → Option β) : Option β := match x with
  | .go a => k a
  | .up b => some b
/-- A round's end. -/
inductive St (σ β : Type) | next (s : σ) | done (b : β)
def loopN {σ β : Type} : Nat → (σ → Option (St σ β)) → σ → Option β
  | 0, _, _ => none
  | n + 1, f, s => match f s with
    | none => none
    | some (.next s') => loopN n f s'
    | some (.done b) => some b
def FUEL : Nat := 18446744073709551616
def loop {σ β : Type} (f : σ → Option (St σ β)) (s : σ) : Option β := loopN FUEL f s
theorem loopN_step {σ β : Type} {n : Nat} {f : σ → Option (St σ β)} {s : σ} {x : β} (h : loopN n f s = some x) :
    ∃ y, f s = some y ∧ (∀ b, some (St.done b) = some y → b = x) ∧ (∀ s', some (St.next s') = some y → ∃ n', n' < n ∧ loopN n' f s' = some x) := by
  cases n with
  | zero => cases h
  | succ n =>
    unfold loopN at h
    cases hf : f s with
    | none => simp [hf] at h
    | some y =>
      refine ⟨y, rfl, fun b hb => ?_, fun s' hs => ⟨n, Nat.lt_succ_self n, ?_⟩⟩
      · cases hb; simpa [hf] using h
      · cases hs; simpa [hf] using h

/-- There is an answer, and it is so. -/
def Ok {α : Type} (m : Option α) (Q : α → Prop) : Prop := ∃ r, m = some r ∧ Q r
section
variable {α β σ : Type}
theorem Ok.ret {a : α} {Q : α → Prop} (h : Q a) : Ok (some a) Q := ⟨a, rfl, h⟩
theorem Ok.of {m : Option α} {a : α} {Q : α → Prop} (h : m = some a) (hq : Q a) : Ok m Q := ⟨a, h, hq⟩
theorem Ok.gd {p : Prop} [Decidable p] {k : Option α} {Q : α → Prop} (hp : p) (h : Ok k Q) : Ok (if p then k else none) Q := by rw [if_pos hp]; exact h
theorem Ok.gdH {p : Prop} [Decidable p] {k : Option α} {Q : α → Prop} (hp : p) (h : p → Ok k Q) : Ok (if p then k else none) Q := by rw [if_pos hp]; exact h hp
theorem Ok.ite {p : Prop} [Decidable p] {a b : Option α} {Q : α → Prop} (ht : p → Ok a Q) (hf : ¬ p → Ok b Q) : Ok (if p then a else b) Q := by
  split
  · rename_i h; exact ht h
  · rename_i h; exact hf h
theorem Ok.bind {m : Option α} {k : α → Option β} {Q : β → Prop} {R : α → Prop} (hm : Ok m R) (hk : ∀ x, R x → Ok (k x) Q) : Ok (m.bind k) Q := by
  obtain ⟨x, hx, hr⟩ := hm
  rw [hx]; exact hk x hr
theorem Ok.bindE {m : Option α} {k : α → Option β} {Q : β → Prop} {x : α} (hm : m = some x) (hk : Ok (k x) Q) : Ok (m.bind k) Q := by rw [hm]; exact hk
theorem Ok.mono {m : Option α} {Q R : α → Prop} (h : Ok m Q) (hq : ∀ x, Q x → R x) : Ok m R := let ⟨r, e, q⟩ := h; ⟨r, e, hq r q⟩
theorem Ok.eq {m : Option α} {a : α} (h : Ok m (fun x => x = a)) : m = some a := let ⟨r, e, q⟩ := h; by rw [e, q]
/-- A loop: I holds ahead of each round, each round lowers m. -/
theorem Ok.loop {f : σ → Option (St σ β)} {s0 : σ} {Q : β → Prop} (I : σ → Prop) (m : σ → Nat) (h0 : I s0) (hm : m s0 < FUEL)
    (step : ∀ s, I s → Ok (f s) fun y => match y with | .next s' => I s' ∧ m s' < m s | .done b => Q b) : Ok (Vg.loop f s0) Q := by
  have key : ∀ n s, I s → m s < n → Ok (loopN n f s) Q := by
    intro n
    induction n with
    | zero => intro s _ h; omega
    | succ n ih =>
      intro s hi hlt
      obtain ⟨y, hy, hq⟩ := step s hi
      unfold loopN
      rw [hy]
      cases y with
      | next s' => exact ih s' hq.1 (by have := hq.2; omega)
      | done b => exact ⟨b, rfl, hq⟩
  exact key FUEL s0 h0 hm
end

/-! ### The walk's rules -/
section
variable {P : Program} {n : Nat} {fr : Fr} {S : As} {Q : Po}
theorem T.loopA {σ γ β : Type} {c : Code} {f : σ → Option (St σ β)} {s0 : σ} {x : β} (hx : Vg.loop f s0 = some x) (kept : Fr) (FW : σ → γ → Fr) (SS : σ → γ → As) (g0 : γ)
    (hk : Sub fr kept) (h0 : Sub fr (FW s0 g0)) (hs : ∀ w, S w → SS s0 g0 w)
    (round : ∀ s g y, f s = some y → (∀ b, some (St.done b) = some y → b = x) → ∀ K : Act → World → Prop,
      (∀ fr' S' s' g', some (St.next s') = some y → Sub fr' kept → Sub fr' (FW s' g') → (∀ w, S' w → SS s' g' w) → Cont n K fr' S') → T P n c (FW s g ++ kept) (SS s g) (Exit.then K Q)) : T P n (.loop c) fr S Q := by
  refine T.loop (σ := Nat × σ × γ) (fun z => FW z.2.1 z.2.2 ++ kept) (fun z => SS z.2.1 z.2.2) (fun z => loopN z.1 f z.2.1 = some x) (fun z => z.1) (FUEL, s0, g0) hx (Sub.app h0 hk) hs ?_
  rintro ⟨m, s, g⟩ hI K hL
  obtain ⟨y, hy, hd, hn⟩ := loopN_step hI
  refine round s g y hy hd K fun fr' S' s' g' he hk' hs' hw' => ?_
  obtain ⟨n', hlt, hn'⟩ := hn s' he
  exact hL fr' S' (n', s', g') hn' hlt (Sub.app hs' hk') hw'
/-- Ways that meet at a sequence's second part. -/
theorem T.joinA {σ γ α β : Type} {x y : Code} {m : Option α} {k : α → Option β} {r : β} (H : m.bind k = some r) (emb : σ → α) (kept : Fr) (hkp : Sub fr kept) (FW : σ → γ → Fr) (SS : σ → γ → As)
    (hy : ∀ s g, k (emb s) = some r → T P n y (FW s g ++ kept) (SS s g) Q)
    (h : ∀ z, m = some z → k z = some r → ∀ K : Act → World → Prop, (∀ fr' S' s g, k (emb s) = some r → Sub fr' kept → Sub fr' (FW s g) → (∀ w, S' w → SS s g w) → Cont n K fr' S') → T P n x fr S (Exit.then K Q)) : T P n (x.seq y) fr S Q := by
  obtain ⟨z, hz, hr⟩ := Vg.bindE H
  exact T.seq fun K hK => h z hz hr K fun fr' S' s g hk h1 h2 hw => hK fr' S' ((hy s g hk).conseq (Sub.app h2 h1) hw)
/-- Ways that meet at the end. -/
theorem T.joinE {σ γ α β : Type} {x : Code} {m : Option α} {k : α → Option β} {r : β} (H : m.bind k = some r) (emb : σ → α) (kept : Fr) (hkp : Sub fr kept) (FW : σ → γ → Fr) (SS : σ → γ → As)
    (hy : ∀ s g, k (emb s) = some r → Cont n (Q .normal) (FW s g ++ kept) (SS s g))
    (h : ∀ z, m = some z → k z = some r → (∀ fr' S' s g, k (emb s) = some r → Sub fr' kept → Sub fr' (FW s g) → (∀ w, S' w → SS s g w) → Cont n (Q .normal) fr' S') → T P n x fr S Q) : T P n x fr S Q := by
  obtain ⟨z, hz, hr⟩ := Vg.bindE H
  exact h z hz hr fun fr' S' s g hk h1 h2 hw => (hy s g hk).conseq (Sub.app h2 h1) hw

variable {ops : Array Oper} {l : List Oper} {full plan : List (Nat × Kd)} {Cw : As}
/-- Within a region: one value on both ways. -/
theorem RS.joinV (j : Nat) (d : Nat) (u : Value) (kept : Fr) (hk : Sub fr kept) (hy : RS P n ops Q (l.drop j) ((d, u) :: kept) S)
    (h : (∀ fr' S', Sub fr' ((d, u) :: kept) → (∀ w, S' w → S w) → RS P n ops Q (l.drop j) fr' S') → RS P n ops Q l fr S) : RS P n ops Q l fr S :=
  h fun _ _ hs hw => hy.conseq hs hw
/-- The first says all that the second says. -/
def Lk (fr r : Fr) : Prop := ∀ i v, look r i = some v → look fr i = some v
theorem Lk.put {fr r : Fr} (h : Lk fr r) (d : Option Nat) (v : Value) : Lk (putF d v fr) (putF d v r) := by
  intro i u hu
  cases d with
  | none => exact h i u hu
  | some d =>
    simp only [putF, look_cons] at hu ⊢
    split
    · rename_i e; rw [if_pos e] at hu; exact hu
    · rename_i e; rw [if_neg e] at hu; exact h i u hu
theorem Knows.lk {a : Act} {r : Fr} (k : Knows n fr a) (h : Lk fr r) : Knows n r a := ⟨k.size, k.defers, fun i v hi => k.get i v (h i v hi)⟩
theorem gval_lk {r : Fr} (h : Lk fr r) {ops : Array Oper} {g : Option (Nat × Bool)} {b : Bool} (hg : gval ops r g = some b) : gval ops fr g = some b := by
  unfold gval at hg ⊢
  split
  · exact hg
  · rename_i j c
    simp only at hg
    cases hd : (ops[j]?).bind (·.dst) with
    | none => simp [hd] at hg
    | some d =>
      simp only [hd, Option.bind_some] at hg ⊢
      cases hl : look r d with
      | none => simp [hl] at hg
      | some u => rw [h d u hl]; rw [hl] at hg; exact hg
theorem AX.weaken {ops : Array Oper} {kd : Nat → Kd} {Cw : As} : ∀ {m : Nat} {listed : Array Bool} {fr r : Fr} {S : As}, AX P n ops Q kd Cw m listed r S → Lk fr r → AX P n ops Q kd Cw m listed fr S
  | 0, _, _, _, _, hx, h => ⟨hx.1, fun a w k s => hx.2 a w (k.lk h) s⟩
  | m + 1, listed, fr, r, S, hx, h => by
    refine ⟨fun h0 a w k s => hx.1 h0 a w (k.lk h) s, fun j hj => ?_⟩
    have := hx.2 j hj
    unfold StepX at *
    split
    · rename_i ho; simp only [ho] at this; exact AX.weaken this h
    · rename_i o ho
      simp only [ho] at this
      refine ⟨this.1, ?_⟩
      rcases this.2 with ⟨h1, h2⟩ | ⟨h1, ι, val, S', h2, h3, h4, h5, h6⟩
      · exact .inl ⟨gval_lk h h1, AX.weaken h2 (h.put _ _)⟩
      · exact .inr ⟨gval_lk h h1, ι, val, S', fun a w k s => h2 a w (k.lk h) s, h3, h4, h5, fun k e => AX.weaken (h6 k e) (h.put _ _)⟩
theorem RD.conseq {fr' : Fr} (h : RD P n ops Q full Cw plan fr' S) (hf : Sub fr fr') : RD P n ops Q full Cw plan fr S := by
  intro listed h1 h2 h3 h4 h5
  exact AX.weaken (h listed h1 h2 h3 h4 h5) (fun i v hi => hf.look i v hi)
theorem RD.joinV (j : Nat) (d : Nat) (u : Value) (kept : Fr) (hk : Sub fr kept) (hy : RD P n ops Q full Cw (plan.drop j) ((d, u) :: kept) S)
    (h : (∀ fr', Sub fr' ((d, u) :: kept) → RD P n ops Q full Cw (plan.drop j) fr' S) → RD P n ops Q full Cw plan fr S) : RD P n ops Q full Cw plan fr S :=
  h fun _ hs => hy.conseq hs
/-- Within a region: a value that the pure function has reckoned. -/
theorem RS.joinB {α β : Type} {m : Option α} {k : α → Option β} {r : β} (H : m.bind k = some r) (j : Nat) (d : Nat) (u : α → Value) (kept : Fr) (hk : Sub fr kept) (hy : ∀ b, k b = some r → RS P n ops Q (l.drop j) ((d, u b) :: kept) S)
    (h : ∀ b, m = some b → (∀ fr' S', Sub fr' ((d, u b) :: kept) → (∀ w, S' w → S w) → RS P n ops Q (l.drop j) fr' S') → RS P n ops Q l fr S) : RS P n ops Q l fr S := by
  obtain ⟨z, hz, hr⟩ := Vg.bindE H
  exact h z hz fun _ _ hs hw => (hy z hr).conseq hs hw
theorem RD.joinB {α β : Type} {m : Option α} {k : α → Option β} {r : β} (H : m.bind k = some r) (j : Nat) (d : Nat) (u : α → Value) (kept : Fr) (hk : Sub fr kept) (hy : ∀ b, k b = some r → RD P n ops Q full Cw (plan.drop j) ((d, u b) :: kept) S)
    (h : ∀ b, m = some b → (∀ fr', Sub fr' ((d, u b) :: kept) → RD P n ops Q full Cw (plan.drop j) fr' S) → RD P n ops Q full Cw plan fr S) : RD P n ops Q full Cw plan fr S := by
  obtain ⟨z, hz, hr⟩ := Vg.bindE H
  exact h z hz fun _ hs => (hy z hr).conseq hs
theorem RD.know {p : Prop} (hp : ∀ w, S w → p) (h : p → RD P n ops Q full Cw plan fr S) : RD P n ops Q full Cw plan fr S := by
  intro listed h1 h2 h3 h4 ⟨w, s⟩
  exact h (hp w s) listed h1 h2 h3 h4 ⟨w, s⟩
end

/-! ### Values -/
theorem dAndT {p q : Prop} [Decidable p] [Decidable q] (h : p) : some (Value.bool (decide q)) = some (.bool (decide (p ∧ q))) := by simp [h]
theorem dAndF {p q : Prop} [Decidable p] [Decidable q] (h : ¬ p) : some (Value.bool false) = some (.bool (decide (p ∧ q))) := by simp [h]
theorem dOrT {p q : Prop} [Decidable p] [Decidable q] (h : p) : some (Value.bool true) = some (.bool (decide (p ∨ q))) := by simp [h]
theorem dOrF {p q : Prop} [Decidable p] [Decidable q] (h : ¬ p) : some (Value.bool (decide q)) = some (.bool (decide (p ∨ q))) := by simp [h]
theorem and3 {a b c : Prop} (h : a ∧ b ∧ c) : a ∧ c := ⟨h.1, h.2.2⟩
theorem bne_of {b : Bool} (h : b = false) : ¬ b = true := by rw [h]; exact Bool.false_ne_true
theorem dAndTB {p : Prop} [Decidable p] {b : Bool} (h : p) : some (Value.bool b) = some (.bool (decide (p ∧ b = true))) := by simp [h]
theorem dOrFB {p : Prop} [Decidable p] {b : Bool} (h : ¬ p) : some (Value.bool b) = some (.bool (decide (p ∨ b = true))) := by simp [h]
theorem pos_of {i : Int} {n : Nat} (h : 0 ≤ i ∧ i < (n : Int)) : 0 < n := by omega
theorem idx_of {i : Int} {m n : Nat} (e : m = n) (h : 0 ≤ i ∧ i < (m : Int)) : 0 ≤ i ∧ i < (n : Int) := e ▸ h
theorem veqN {q : Option Nat × Nat} {a b : Nat} (h : a = b) : some (rowV q a) = some (rowV q b) := by rw [h]
def dead : Ch := fun _ => True
section
variable {w0 : World} {G : List Ch}
/-- A row's value told by its elements. -/
theorem Sat.relen {α : Type} [Enc α] {w : World} {B : Hp} {e : TypeId} {q : Option Nat × Nat} {m : Nat} {xs : List α} (k : Nat) (h : Sat w0 G w) (hk : G[k]? = some (row B e (rowV q m) xs)) : Sat w0 (G.set k (row B e (rowV q xs.length) xs)) w :=
  h.weaken k hk _ fun p hp => by rw [← (h.row_fits hk).1]; exact hp
theorem Sat.nilRow {α : Type} [Enc α] {w : World} (e : TypeId) (h : Sat w0 G w) : Sat w0 (G ++ [row nilH e (rowV (none, 0) 0) ([] : List α)]) w := h.addEmpty _ (fun p => .inl ⟨rfl, rfl⟩)
/-- A literal's block as a row. -/
theorem Sat.litRow {α : Type} [Enc α] {w : World} {n b : Nat} {cs : List Value} {e : TypeId} (k : Nat) (xs : List α) (h : Sat w0 G w) (hk : G[k]? = some (blk b cs e)) (hm : n ≤ maxLen) (hl : xs.length = n) (hr : RF nilH xs cs) :
    Sat w0 (G.set k (row nilH e (rowV (some b, n) n) xs)) w :=
  h.weaken k hk _ fun p hp => .inr ⟨b, n, cs, [], by rw [hl]; rfl, by simpa [blk] using hp, by omega, hm, by have := hr.length; simp [this, hl], hr.mono (nilH_le _)⟩
theorem Sat.ofRest {w : World} {k j : Nat} {D : Ch} (h : Sat w0 [restOf G k] w) (hj : G[j]? = some D) (hne : j ≠ k) : Sat w0 [D] w := by
  obtain ⟨e, own, h2⟩ := h
  obtain ⟨p, ⟨own', hp⟩, hb⟩ := h2 0 _ rfl
  obtain ⟨q, hq, hbq⟩ := hp j D hne hj
  refine ⟨e, fun _ => 0, fun i C hi => ?_⟩
  match i, hi with
  | 0, hi =>
    simp at hi; subst hi
    exact ⟨q, hq, fun b o hbo => ⟨(hb b o (hbq b o hbo).2).1, rfl, (hb b o (hbq b o hbo).2).2.2⟩⟩
  | i + 1, hi => simp at hi
theorem Rd.rest {α : Type} [Enc α] {k : Nat} (jj : Nat) {D : Ch} (hj : G[jj]? = some D) (hne : jj ≠ k) {x : α} {cs : List Value} (h : Rd (Sat w0 [D]) x cs) : Rd (Sat w0 [restOf G k]) x cs := fun w s => h w (s.ofRest hj hne)
theorem Rd.ofFrame {α : Type} [Enc α] (k : Nat) {F : Ch} (hk : G[k]? = some F) {x : α} {cs : List Value} (h : Rd (Sat w0 [F]) x cs) : Rd (Sat w0 G) x cs := fun w s => h w (s.pick [k] (by simp) (by simp [hk]))
theorem Rd.nil {α : Type} [Enc α] {S : As} : Rd S ([] : List α) [.slice none 0 0] := fun w s => ⟨none, 0, rfl, by simp, by simp, .inl rfl⟩
theorem Rd.ofLit {α : Type} [Enc α] {n b : Nat} {cs : List Value} {e : TypeId} {xs : List α} (k : Nat) (hk : G[k]? = some (blk b cs e)) (hm : n ≤ maxLen) (hl : xs.length = n) (hr : RF nilH xs cs) : Rd (Sat w0 G) xs [.slice (some ⟨b, 0, none⟩) n n] :=
  fun w s => by
    have h1 := s.litRow (α := α) k xs hk hm hl hr
    have h2 := h1.getRow (k := k) (B := nilH) (v := rowV (some b, n) n) (by
      have hlt := (List.getElem?_eq_some_iff.1 hk).1
      simp [hlt]; rfl) (nilH_le _)
    exact h2
theorem Sat.deadRow {w : World} (h : Sat w0 G w) : Sat w0 (G ++ [dead]) w := h.addEmpty _ (fun p => trivial)
end
section
variable {P : Program} {n : Nat} {fr : Fr} {dst : Option Tmp} {ty : TypeId} {pos : String} {aft : Array Edge} {g : Option (Nat × Bool)} {S : As} {w0 : World} {G : List Ch} {Q : Po}
theorem RS.weakS {ops : Array Oper} {l : List Oper} {S' : As} (hs : ∀ w, S w → S' w) (h : RS P n ops Q l fr S') : RS P n ops Q l fr S := fun a w k s => h a w k (hs w s)
/-- append(s, x), the length told by the elements. -/
theorem Sd.app1c {α : Type} [Enc α] [Flat α] (k k1 : Nat) {B : Hp} {x y : Operand} {t e e' : TypeId} {by' : Nat} {z v : Value} {xs : List α} (y0 : α) {news : List Value} {b c : Nat}
    (hk : G[k]? = some (row B e v xs)) (hk1 : G[k1]? = some (blk b news e')) (hB : ∀ b o, B b = some o → b < w0.heap.size)
    (ht : slTy P t = some (e, Enc.sz α, by')) (hz : zeroOf P e = some z) (hzs : z.cells.size = Enc.sz α) (hx : ev fr x = some v) (hy : ev fr y = some (.slice (some ⟨b, 0, none⟩) 1 c))
    (hr : R nilH y0 news) (hlt : xs.length < 1099511627776) (hby : by' ≤ 128) :
    Sd P n ⟨dst, .call { callee := .builtin .append, args := #[x, y], argTypes := #[t, t] }, ty, pos, aft, g⟩ fr (Sat w0 G) (fun q => rowV q (xs ++ [y0]).length) (fun q => Sat w0 (G.set k (row B e (rowV q (xs ++ [y0]).length) (xs ++ [y0])))) := by
  have h := Sd.app1 (P := P) (n := n) (fr := fr) (dst := dst) (ty := ty) (pos := pos) (aft := aft) (g := g) k k1 hk hk1 hB ht hz hzs hx hy hr
    (by have := Nat.mul_le_mul (show xs.length + 1 ≤ 1099511627776 by omega) hby; omega) (by unfold maxLen; omega)
  simpa only [List.length_append, List.length_cons, List.length_nil, Nat.zero_add] using h
end
end Go.Vg
