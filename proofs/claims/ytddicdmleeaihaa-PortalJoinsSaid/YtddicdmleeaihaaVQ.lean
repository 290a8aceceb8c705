/-
  Regions in which two operations that make or write memory stand in no order: a plan that branches where they may change places. For every program that leaves the orders open. A library of this claim's own.
-/
import Derived.Test.YtddicdmleeaihaaVL
set_option linter.unusedSimpArgs false
set_option linter.unusedVariables false
namespace Go.Vg
/-- A plan: one step and what follows; or two steps that may come in either order, each with what follows it. -/
inductive Pl
  | nil
  | st (i : Nat) (k : Kd) (r : Pl)
  | two (i : Nat) (k : Kd) (r : Pl) (j : Nat) (kj : Kd) (rj : Pl)
def Pl.len : Pl → Nat
  | .nil => 0
  | .st _ _ r => r.len + 1
  | .two _ _ r _ _ _ => r.len + 1
def plOk (ops : Array Oper) (full : List (Nat × Kd)) : Array Bool → Pl → Bool
  | listed, .nil => (Region.ready .any ops listed).isEmpty
  | listed, .st i k r => (Region.ready .any ops listed).contains i && full.lookup i == some k &&
    (match k with
      | .pu | .wk => freeOf ops listed i
      | .rd => freeOf ops listed i && full.all fun (j, kj) => kj != .br || listed.getD j true || waits ops j i
      | .so | .br => Region.ready .any ops listed == [i]) &&
    plOk ops full (listed.setIfInBounds i true) r
  | listed, .two i k r j kj rj => Region.ready .any ops listed == [i, j] && full.lookup i == some k && full.lookup j == some kj && (k == .so || k == .br) && (kj == .so || kj == .br) && r.len == rj.len &&
    plOk ops full (listed.setIfInBounds i true) r && plOk ops full (listed.setIfInBounds j true) rj
def RT (P : Program) (n : Nat) (ops : Array Oper) (Q : Po) (full : List (Nat × Kd)) (Cw : As) (pl : Pl) (fr : Fr) (S : As) : Prop :=
  ∀ listed, plOk ops full listed pl = true → noSel ops = true → (∃ w, S w) → AX P n ops Q (fun i => (full.lookup i).getD .so) Cw pl.len listed fr S
/-- One of the two, taken now. -/
def RT1 (P : Program) (n : Nat) (ops : Array Oper) (Q : Po) (full : List (Nat × Kd)) (Cw : As) (i : Nat) (k : Kd) (r : Pl) (fr : Fr) (S : As) : Prop :=
  ∀ listed : Array Bool, full.lookup i = some k → plOk ops full (listed.setIfInBounds i true) r = true → noSel ops = true → (∃ w, S w) →
    StepX P n ops (fun i => (full.lookup i).getD .so) Cw i fr S (fun fr' S' => AX P n ops Q (fun i => (full.lookup i).getD .so) Cw r.len (listed.setIfInBounds i true) fr' S')
section
variable {P : Program} {n : Nat} {ops : Array Oper} {Q : Po} {full : List (Nat × Kd)} {Cw S : As} {fr : Fr} {pl : Pl}
theorem mem_of_lookup {j : Nat} : ∀ {l : List (Nat × Kd)} {k : Kd}, l.lookup j = some k → (j, k) ∈ l
  | x :: l, k, h => by
    obtain ⟨y, ky⟩ := x
    rw [List.lookup_cons] at h
    split at h
    · rename_i e; cases h; simp at e; simp [e]
    · exact List.mem_cons_of_mem _ (mem_of_lookup h)
theorem RT.nil (h : Cont n (Q .normal) fr S) : RT P n ops Q full Cw .nil fr S := fun listed hp _ _ => ⟨by simpa [plOk] using hp, h⟩
theorem RT.quiet {i : Nat} {k : Kd} {o : Oper} {v : Value} (C : As) (hi : ops[i]? = some o) (hk : k = .pu ∨ k = .wk ∨ k = .rd) (hcl : ClE S) (hcw : ∀ w, S w → Cw w) (hC : ∀ w, S w → C w) (hkC : k ≠ .rd → ∀ w, Cw w → C w)
    (hq : QX P n ops o fr C v) (h : RT P n ops Q full Cw pl (putF o.dst v fr) S) : RT P n ops Q full Cw (.st i k pl) fr S := by
  intro listed hp hns hex
  simp only [plOk, Bool.and_eq_true, List.contains_iff_mem, beq_iff_eq] at hp
  obtain ⟨⟨⟨h1, hf⟩, h2⟩, h3⟩ := hp
  have hnb : k ≠ .br := by rcases hk with rfl | rfl | rfl <;> simp
  have hfree : freeOf ops listed i = true := by
    rcases hk with rfl | rfl | rfl <;> simp at h2
    · exact h2
    · exact h2
    · exact h2.1
  refine AX.first (noSel_spec hns) hi (by simp [hf, hnb]) pl.len listed fr S C hcl hcw hC ?_ (freeOf_spec hi hfree) h1 hq (h _ h3 hns hex)
  intro j hkj hl hw
  by_cases hkr : k = .rd
  · subst hkr
    simp only [Bool.and_eq_true, List.all_eq_true] at h2
    have hj : full.lookup j = some .br := by
      cases hlj : full.lookup j with
      | none => simp [hlj] at hkj
      | some x => simp [hlj] at hkj; rw [hkj]
    have := h2.2 _ (mem_of_lookup hj)
    simp [hw] at this
    have e : listed[j]?.getD true = false := by simpa using hl
    rw [e] at this; cases this
  · exact hkC hkr
theorem RT1.solid {i : Nat} {k : Kd} {o : Oper} (hi : ops[i]? = some o) (hk : k = .so ∨ k = .br) {ι : Type} {val : ι → Value} {S' : ι → As} (hd : dOk n o.dst = true) (hg : gval ops fr o.guard = some true) (hs : Sd P n o fr S val S')
    (hcl : ∀ x, ClE (S' x)) (hcw : ∀ x w, S' x w → Cw w) (hpre : k = .so → ∀ x w, S' x w → S w) (h : ∀ x, RT P n ops Q full Cw pl (putF o.dst (val x) fr) (S' x)) : RT1 P n ops Q full Cw i k pl fr S := by
  intro listed hf hp hns hex
  unfold StepX
  simp only [hi]
  refine ⟨hd, .inr ⟨hg, ι, val, S', hs, hcl, hcw, fun hnb => ?_, fun x hey => h x _ hp hns hey⟩⟩
  rcases hk with rfl | rfl
  · exact hpre rfl
  · simp [hf] at hnb
theorem RT.solid {i : Nat} {k : Kd} {o : Oper} (hi : ops[i]? = some o) (hk : k = .so ∨ k = .br) {ι : Type} {val : ι → Value} {S' : ι → As} (hd : dOk n o.dst = true) (hg : gval ops fr o.guard = some true) (hs : Sd P n o fr S val S')
    (hcl : ∀ x, ClE (S' x)) (hcw : ∀ x w, S' x w → Cw w) (hpre : k = .so → ∀ x w, S' x w → S w) (h : ∀ x, RT P n ops Q full Cw pl (putF o.dst (val x) fr) (S' x)) : RT P n ops Q full Cw (.st i k pl) fr S := by
  intro listed hp hns hex
  simp only [plOk, Bool.and_eq_true, List.contains_iff_mem, beq_iff_eq] at hp
  obtain ⟨⟨⟨h1, hf⟩, h2⟩, h3⟩ := hp
  have hone : Region.ready .any ops listed = [i] := by rcases hk with rfl | rfl <;> simpa using h2
  refine ⟨fun h0 => (by rw [hone] at h0; cases h0), fun j hj => ?_⟩
  rw [hone] at hj
  simp at hj; subst hj
  exact RT1.solid hi hk hd hg hs hcl hcw hpre h listed hf h3 hns hex
theorem RT.two {i j : Nat} {k kj : Kd} {r rj : Pl} (h1 : RT1 P n ops Q full Cw i k r fr S) (h2 : RT1 P n ops Q full Cw j kj rj fr S) : RT P n ops Q full Cw (.two i k r j kj rj) fr S := by
  intro listed hp hns hex
  simp only [plOk, Bool.and_eq_true, Bool.or_eq_true, beq_iff_eq] at hp
  obtain ⟨⟨⟨⟨⟨⟨⟨hr, hf⟩, hfj⟩, _⟩, _⟩, hl⟩, hp1⟩, hp2⟩ := hp
  refine ⟨fun h0 => (by rw [hr] at h0; cases h0), fun y hy => ?_⟩
  rw [hr] at hy
  simp at hy
  rcases hy with rfl | rfl
  · exact h1 listed hf hp1 hns hex
  · have := h2 listed hfj hp2 hns hex
    rw [← hl] at this
    exact this
theorem RT.p {i : Nat} {o : Oper} {v : Value} {w0 : World} {G : List Ch} (hcw : ∀ w, Sat w0 G w → Cw w) (hi : ops[i]? = some o) (h : Pu P n o fr v) (hg : gval ops fr o.guard = some true) (hd : dOk n o.dst = true)
    (hr : RT P n ops Q full Cw pl (putF o.dst v fr) (Sat w0 G)) : RT P n ops Q full Cw (.st i .pu pl) fr (Sat w0 G) :=
  RT.quiet (fun _ => True) hi (.inl rfl) (ClE.sat _ _) hcw (fun _ _ => trivial) (fun _ _ _ => trivial) ⟨hd, .inr ⟨hg, h.qt⟩⟩ hr
theorem RT.q {i : Nat} {o : Oper} {v : Value} {w0 : World} {G : List Ch} (hcw : ∀ w, Sat w0 G w → Cw w) (hi : ops[i]? = some o) (h : Qt P n o fr (Sat w0 G) v) (hg : gval ops fr o.guard = some true) (hd : dOk n o.dst = true)
    (hr : RT P n ops Q full Cw pl (putF o.dst v fr) (Sat w0 G)) : RT P n ops Q full Cw (.st i .rd pl) fr (Sat w0 G) :=
  RT.quiet (Sat w0 G) hi (.inr (.inr rfl)) (ClE.sat _ _) hcw (fun _ s => s) (fun h => absurd rfl h) ⟨hd, .inr ⟨hg, h⟩⟩ hr
theorem RT.w {i : Nat} {o : Oper} {v : Value} {w0 : World} {G : List Ch} (hcw : ∀ w, Sat w0 G w → Cw w) (hi : ops[i]? = some o) (h : Qt P n o fr Cw v) (hg : gval ops fr o.guard = some true) (hd : dOk n o.dst = true)
    (hr : RT P n ops Q full Cw pl (putF o.dst v fr) (Sat w0 G)) : RT P n ops Q full Cw (.st i .wk pl) fr (Sat w0 G) :=
  RT.quiet Cw hi (.inr (.inl rfl)) (ClE.sat _ _) hcw hcw (fun _ _ h => h) ⟨hd, .inr ⟨hg, h⟩⟩ hr
theorem RT.know {p : Prop} (hp : ∀ w, S w → p) (h : p → RT P n ops Q full Cw pl fr S) : RT P n ops Q full Cw pl fr S := by
  intro listed h1 h2 ⟨w, s⟩
  exact h (hp w s) listed h1 h2 ⟨w, s⟩
theorem RT1.know {i : Nat} {k : Kd} {p : Prop} (hp : ∀ w, S w → p) (h : p → RT1 P n ops Q full Cw i k pl fr S) : RT1 P n ops Q full Cw i k pl fr S := by
  intro listed h1 h2 h3 ⟨w, s⟩
  exact h (hp w s) listed h1 h2 h3 ⟨w, s⟩
theorem RT.conseq {fr' : Fr} (h : RT P n ops Q full Cw pl fr' S) (hf : Sub fr fr') : RT P n ops Q full Cw pl fr S := by
  intro listed h1 h2 h3
  exact AX.weaken (h listed h1 h2 h3) (fun i v hi => hf.look i v hi)
theorem T.drawnT {id : Nat} (Cw : As) (full : List (Nat × Kd)) (pl : Pl) (hm : P.follows .mixedOrders = true) (hcl : ClE S) (hp : (plOk ops full (Array.replicate ops.size false) pl && noSel ops && pl.len == ops.size) = true)
    (h : RT P n ops Q full Cw pl fr S) : T P n (.region id ops true) fr S Q := by
  simp only [Bool.and_eq_true, beq_iff_eq] at hp
  obtain ⟨⟨h1, h2⟩, h3⟩ := hp
  intro a w k s
  refine wp_region_any hm ?_
  have hx := h _ h1 h2 ⟨_, hcl _ _ s (Ext.drawn w 0)⟩
  rw [h3] at hx
  exact hx.sound _ _ _ _ a _ k (hcl _ _ s (Ext.drawn w _))
theorem T.drawnTS {id : Nat} {w0 : World} {G : List Ch} (f : List Nat) (full : List (Nat × Kd)) (pl : Pl) (hm : P.follows .mixedOrders = true) (hp : (plOk ops full (Array.replicate ops.size false) pl && noSel ops && pl.len == ops.size) = true)
    {H : List Ch} (hH : pk G f = H) (h : RT P n ops Q full (Sat w0 H) pl fr (Sat w0 G)) : T P n (.region id ops true) fr (Sat w0 G) Q := T.drawnT _ full pl hm (ClE.sat _ _) hp h
end
theorem T.weakS {P : Program} {n : Nat} {fr : Fr} {S S' : As} {Q : Po} {c : Code} (hs : ∀ w, S w → S' w) (h : T P n c fr S' Q) : T P n c fr S Q := fun a w k s => h a w k (hs w s)
section
variable {P : Program} {n : Nat} {ops : Array Oper} {Q : Po} {full plan : List (Nat × Kd)} {Cw S : As} {fr : Fr}
theorem RD.noS {i : Nat} {k : Kd} {o : Oper} (hi : ops[i]? = some o) (hk : k = .so ∨ k = .br) (hd : dOk n o.dst = true) (hg : gval ops fr o.guard = some false)
    (h : RD P n ops Q full Cw plan (putF o.dst undef fr) S) : RD P n ops Q full Cw ((i, k) :: plan) fr S := by
  intro listed hp hns hf hb hex
  simp only [planOk, Bool.and_eq_true, List.contains_iff_mem] at hp
  obtain ⟨⟨h1, h2⟩, h3⟩ := hp
  have hone : Region.ready .any ops listed = [i] := by rcases hk with rfl | rfl <;> simpa using h2
  refine ⟨fun h0 => (by rw [hone] at h0; cases h0), fun j hj => ?_⟩
  rw [hone] at hj
  simp at hj; subst hj
  unfold StepX
  simp only [hi]
  refine ⟨hd, .inl ⟨hg, h _ h3 hns (fun j kj hj => hf j kj (by simp [hj])) (fun y hl hy => ?_) hex⟩⟩
  have hjl : j < listed.size ∨ listed.size ≤ j := Nat.lt_or_ge _ _
  have hne : j ≠ y := by
    intro e; subst e
    rcases hjl with hjl | hjl
    · simp [hjl] at hl
    · simp [Array.getElem?_eq_none hjl] at hl
  rw [getD_set_ne true hne] at hl
  rcases List.mem_cons.1 (hb y hl hy) with e | e
  · cases e; exact absurd rfl hne
  · exact e
end
theorem Cont.ex {n : Nat} {K : Act → World → Prop} {fr : Fr} {S : As} {ι : Type} {S' : ι → As} (hp : ∀ w, S w → ∃ i, S' i w) (h : ∀ i, Cont n K fr (S' i)) : Cont n K fr S := fun a w k s => let ⟨i, s'⟩ := hp w s; h i a w k s'
theorem Cont.weakS {n : Nat} {K : Act → World → Prop} {fr : Fr} {S S' : As} (hs : ∀ w, S w → S' w) (h : Cont n K fr S') : Cont n K fr S := fun a w k s => h a w k (hs w s)
theorem Sat.cellB {w0 w : World} {G : List Ch} (k : Nat) {b : Nat} {cs cs' : List Value} {t : TypeId} (h : Sat w0 G w) (hk : G[k]? = some (blk b cs t)) (e : cs = cs') : Sat w0 (G.set k (blk b cs' t)) w :=
  h.weaken k hk _ fun p hp => by rw [← e]; exact hp
end Go.Vg
