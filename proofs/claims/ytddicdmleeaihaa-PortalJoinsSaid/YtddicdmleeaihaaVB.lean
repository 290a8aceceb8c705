/-
  The steps of a walk: frames as lists of what is known of the slots, worlds as an assertion. For every program and every assertion, with no condition. A library of this claim's own.
-/
import Derived.Test.YtddicdmleeaihaaVA
import Derived.Deep.LoopGhost
namespace Go.Vg

/-- What is known of the slots: the first row of a number counts. -/
abbrev Fr := List (Nat × Value)
def look : Fr → Nat → Option Value
  | [], _ => none
  | (j, v) :: r, i => bif Nat.beq i j then some v else look r i

structure Knows (n : Nat) (fr : Fr) (a : Act) : Prop where
  size : a.tmps.size = n
  defers : a.defers = []
  get : ∀ i v, look fr i = some v → a.tmps[i]? = some v

def ev (fr : Fr) : Operand → Option Value
  | .tmp t => look fr t
  | .const v => some v
  | .global g => some (.pointer (some ⟨g, 0, none⟩))
  | .func f => some (.func (.func f) #[] #[])

theorem look_cons (j : Nat) (v : Value) (r : Fr) (i : Nat) : look ((j, v) :: r) i = if i = j then some v else look r i := by
  by_cases h : i = j
  · subst h; simp [look]
  · simp only [look, if_neg h]
    cases hb : Nat.beq i j with
    | false => rfl
    | true => exact absurd (Nat.eq_of_beq_eq_true hb) h

theorem Knows.ev {n : Nat} {fr : Fr} {a : Act} (h : Knows n fr a) {x : Operand} {v : Value} (hx : ev fr x = some v) : a.eval x = v := by
  cases x with
  | tmp t => have := h.get t v hx; simp [Act.eval, Array.getD_eq_getD_getElem?, this]
  | const u => exact Option.some.inj hx
  | global g => exact Option.some.inj hx
  | func f => exact Option.some.inj hx

theorem Knows.put {n : Nat} {fr : Fr} {a : Act} (h : Knows n fr a) {d : Nat} (hd : Nat.blt d n = true) (v : Value) : Knows n ((d, v) :: fr) (a.put (some d) v) := by
  have hdn : d < n := by simpa using hd
  refine ⟨by simp [Act.put, h.size], h.defers, fun i u hu => ?_⟩
  rw [look_cons] at hu
  by_cases hi : i = d
  · subst hi
    rw [if_pos rfl] at hu
    simp [Act.put, h.size, hdn, hu]
  · rw [if_neg hi] at hu
    have := h.get i u hu
    simp [Act.put, Array.getElem?_setIfInBounds_ne (Ne.symm hi), this]

/-- 'r' says no more than 'fr'. -/
def Sub (fr : Fr) : Fr → Prop
  | [] => True
  | (i, v) :: r => look fr i = some v ∧ Sub fr r

theorem Sub.look {fr : Fr} : ∀ {r : Fr}, Sub fr r → ∀ i v, look r i = some v → look fr i = some v
  | [], _, i, v, h => by simp [Vg.look] at h
  | (j, u) :: r, hs, i, v, h => by
    rw [look_cons] at h
    by_cases hi : i = j
    · subst hi; rw [if_pos rfl] at h; cases h; exact hs.1
    · rw [if_neg hi] at h; exact Sub.look hs.2 i v h

theorem Knows.sub {n : Nat} {fr r : Fr} {a : Act} (h : Knows n fr a) (hs : Sub fr r) : Knows n r a :=
  ⟨h.size, h.defers, fun i v hi => h.get i v (hs.look i v hi)⟩

/-- Only the rows of these slots. -/
def keepOnly (fr : Fr) : List Nat → Fr
  | [] => []
  | i :: l => match look fr i with
    | some v => (i, v) :: keepOnly fr l
    | none => keepOnly fr l

theorem sub_keepOnly (fr : Fr) : ∀ l, Sub fr (keepOnly fr l)
  | [] => trivial
  | i :: l => by
    unfold keepOnly
    split
    · rename_i v h; exact ⟨h, sub_keepOnly fr l⟩
    · exact sub_keepOnly fr l

/-! ### Judgements -/
abbrev As := World → Prop
abbrev Po := Exit → Act → World → Prop
/-- A state of which this is known goes on well. -/
def Cont (n : Nat) (K : Act → World → Prop) (fr : Fr) (S : As) : Prop := ∀ a w, Knows n fr a → S w → K a w
/-- Code from such a state. -/
def T (P : Program) (n : Nat) (c : Code) (fr : Fr) (S : As) (Q : Po) : Prop := ∀ a w, Knows n fr a → S w → c.wp P Q a w
/-- The operations of a region, in the text's order. -/
def RS (P : Program) (n : Nat) (ops : Array Oper) (Q : Po) (l : List Oper) (fr : Fr) (S : As) : Prop := ∀ a w, Knows n fr a → S w → wpList P ops Q l a w

theorem T.conseq {P : Program} {n : Nat} {c : Code} {fr fr' : Fr} {S S' : As} {Q : Po} (h : T P n c fr' S' Q) (hf : Sub fr fr') (hs : ∀ w, S w → S' w) : T P n c fr S Q :=
  fun a w k s => h a w (k.sub hf) (hs w s)
theorem Cont.conseq {n : Nat} {K : Act → World → Prop} {fr fr' : Fr} {S S' : As} (h : Cont n K fr' S') (hf : Sub fr fr') (hs : ∀ w, S w → S' w) : Cont n K fr S :=
  fun a w k s => h a w (k.sub hf) (hs w s)
theorem T.prune {P : Program} {n : Nat} {c : Code} {fr : Fr} {S : As} {Q : Po} (l : List Nat) (h : T P n c (keepOnly fr l) S Q) : T P n c fr S Q :=
  h.conseq (sub_keepOnly fr l) (fun _ s => s)
/-- What the assertion says of plain things. -/
theorem T.know {P : Program} {n : Nat} {c : Code} {fr : Fr} {S : As} {Q : Po} {p : Prop} (hp : ∀ w, S w → p) (h : p → T P n c fr S Q) : T P n c fr S Q :=
  fun a w k s => h (hp w s) a w k s
theorem Cont.know {n : Nat} {K : Act → World → Prop} {fr : Fr} {S : As} {p : Prop} (hp : ∀ w, S w → p) (h : p → Cont n K fr S) : Cont n K fr S :=
  fun a w k s => h (hp w s) a w k s
theorem RS.know {P : Program} {n : Nat} {ops : Array Oper} {Q : Po} {l : List Oper} {fr : Fr} {S : As} {p : Prop} (hp : ∀ w, S w → p) (h : p → RS P n ops Q l fr S) : RS P n ops Q l fr S :=
  fun a w k s => h (hp w s) a w k s

section
variable {P : Program} {n : Nat} {fr : Fr} {S : As} {Q : Po}

theorem T.seq {x y : Code} (h : ∀ K : Act → World → Prop, (∀ fr' S', T P n y fr' S' Q → Cont n K fr' S') → T P n x fr S (Exit.then K Q)) : T P n (x.seq y) fr S Q :=
  fun a w k s => wp_seq (h (y.wp P Q) (fun _ _ ht => ht) a w k s)
/-- Ways that meet again: what is known where they meet. -/
theorem T.seqJoin {x y : Code} {σ : Type} (FR : σ → Fr) (SS : σ → As) (I : σ → Prop) (hy : ∀ z, I z → T P n y (FR z) (SS z) Q)
    (h : ∀ K : Act → World → Prop, (∀ fr' S' z, I z → Sub fr' (FR z) → (∀ w, S' w → SS z w) → Cont n K fr' S') → T P n x fr S (Exit.then K Q)) : T P n (x.seq y) fr S Q :=
  T.seq fun K hK => h K fun fr' S' z hz hf hs => hK fr' S' ((hy z hz).conseq hf hs)
theorem T.skip (h : Cont n (Q .normal) fr S) : T P n .skip fr S Q := fun a w k s => wp_skip (h a w k s)
theorem T.ret (h : Cont n (Q .ret) fr S) : T P n .ret fr S Q := fun a w k s => wp_ret (h a w k s)
theorem T.exit {id : Nat} (h : Cont n (Q (.exit id)) fr S) : T P n (.exit id) fr S Q := fun a w k s => wp_exit (h a w k s)
/-- Where a return leads, through what stands around it. -/
def RetTo (Q Q0 : Po) : Prop := ∀ a w, Q0 .ret a w → Q .ret a w
theorem RetTo.refl (Q : Po) : RetTo Q Q := fun _ _ h => h
theorem RetTo.seq {Q Q0 : Po} {K : Act → World → Prop} (h : RetTo Q Q0) : RetTo (Exit.then K Q) Q0 := fun a w q => h a w q
theorem RetTo.blk {Q Q0 : Po} {id : Nat} (h : RetTo Q Q0) : RetTo (Exit.inBlock id Q) Q0 := fun a w q => h a w q
theorem T.retTo {Q0 : Po} (hr : RetTo Q Q0) (h : Cont n (Q0 .ret) fr S) : T P n .ret fr S Q := T.ret fun a w k s => hr a w (h a w k s)
/-- Where leaving a block leads. -/
def ExTo (id : Nat) (Q : Po) (K : Act → World → Prop) : Prop := ∀ a w, K a w → Q (.exit id) a w
theorem ExTo.seq {id : Nat} {Q : Po} {K K' : Act → World → Prop} (h : ExTo id Q K) : ExTo id (Exit.then K' Q) K := fun a w q => h a w q
theorem ExTo.here {id : Nat} {Q : Po} {K : Act → World → Prop} : ExTo id (Exit.inBlock id (Exit.then K Q)) K := fun a w q => by simpa [Exit.inBlock, Exit.then] using q
theorem ExTo.hereN {id : Nat} {Q : Po} : ExTo id (Exit.inBlock id Q) (Q .normal) := fun a w q => by simpa [Exit.inBlock] using q
theorem ExTo.past {id id' : Nat} {Q : Po} {K : Act → World → Prop} (hne : id ≠ id') (h : ExTo id Q K) : ExTo id (Exit.inBlock id' Q) K := fun a w q => by simpa [Exit.inBlock, hne] using h a w q
theorem T.exitTo {id : Nat} {K : Act → World → Prop} (he : ExTo id Q K) (h : Cont n K fr S) : T P n (.exit id) fr S Q := T.exit fun a w k s => he a w (h a w k s)
/-- The same two; where it leads is found out. -/
theorem T.rt {Q0 : Po} (h : Cont n (Q0 .ret) fr S) (hr : RetTo Q Q0 := by with_reducible ((repeat (first | apply RetTo.seq | apply RetTo.blk)); exact RetTo.refl _)) : T P n .ret fr S Q := T.retTo hr h
theorem T.block {id : Nat} {c : Code} (h : T P n c fr S (Exit.inBlock id Q)) : T P n (.block id c) fr S Q := fun a w k s => wp_block (h a w k s)
theorem T.cond {c : Operand} {x y : Code} {b : Bool} (hc : ev fr c = some (.bool b)) (ht : b = true → T P n x fr S Q) (hf : b = false → T P n y fr S Q) : T P n (.cond c x y) fr S Q :=
  fun a w k s => wp_cond_split (k.ev hc) (fun h => ht h a w k s) (fun h => hf h a w k s)
theorem T.condT {c : Operand} {x y : Code} (hc : ev fr c = some (.bool true)) (ht : T P n x fr S Q) : T P n (.cond c x y) fr S Q :=
  fun a w k s => wp_cond_true (k.ev hc) (ht a w k s)
theorem T.condF {c : Operand} {x y : Code} (hc : ev fr c = some (.bool false)) (ht : T P n y fr S Q) : T P n (.cond c x y) fr S Q :=
  fun a w k s => wp_cond_false (k.ev hc) (ht a w k s)
theorem T.condP {c : Operand} {x y : Code} {p : Prop} [Decidable p] (hc : ev fr c = some (.bool (decide p))) (ht : p → T P n x fr S Q) (hf : ¬ p → T P n y fr S Q) : T P n (.cond c x y) fr S Q :=
  T.cond hc (fun h => ht (of_decide_eq_true h)) (fun h => hf (of_decide_eq_false h))
theorem T.region {id : Nat} {l : List Oper} (h : RS P n l.toArray Q l fr S) : T P n (.region id l.toArray false) fr S Q :=
  fun a w k s => wp_region_lit (h a w k s)

/-- A loop: at each round's head, for some x, the frame and the world are as FR x, SS x say, and I x holds; each round lowers m. -/
theorem T.loop {σ : Type} (FR : σ → Fr) (SS : σ → As) (I : σ → Prop) (m : σ → Nat) {c : Code} (x0 : σ) (hi : I x0) (h0 : Sub fr (FR x0)) (hs : ∀ w, S w → SS x0 w)
    (round : ∀ x, I x → ∀ K : Act → World → Prop, (∀ fr' S' x', I x' → m x' < m x → Sub fr' (FR x') → (∀ w, S' w → SS x' w) → Cont n K fr' S') → T P n c (FR x) (SS x) (Exit.then K Q)) : T P n (.loop c) fr S Q := by
  intro a w k s
  refine wp_loop_ghost (fun r a w => ∃ x, I x ∧ Knows n (FR x) a ∧ SS x w ∧ m x = r) (m x0) ⟨x0, hi, k.sub h0, hs w s, rfl⟩ ?_
  rintro r a w ⟨x, hx, hk, hss, rfl⟩
  refine round x hx _ ?_ a w hk hss
  intro fr' S' x' hi' hlt hsub hs' a' w' k' s'
  exact ⟨m x', hlt, x', hi', k'.sub hsub, hs' w' s', rfl⟩
end
end Go.Vg
