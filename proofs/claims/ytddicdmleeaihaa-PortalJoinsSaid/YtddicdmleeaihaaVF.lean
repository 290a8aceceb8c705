/-
  Regions whose order is drawn: one plan, in which what only reads is taken as soon as it may be and what makes or writes memory stands alone, serves every order. For every program that leaves the orders open. A library of this claim's own.
-/
import Derived.Test.YtddicdmleeaihaaVE
set_option linter.unusedSimpArgs false
set_option linter.unusedVariables false
namespace Go.Vg

/-- What an operation of a plan does: pu: its value hangs on the slots alone; wk: it reads what nothing in the region writes; rd: it reads, or calls what only reads; so: it makes memory; br: it writes. -/
inductive Kd | pu | wk | rd | so | br
  deriving DecidableEq

def waits (ops : Array Oper) (j i : Nat) : Bool := match ops[j]? with
  | some o => o.after.any fun e => Region.binds .any e && e.on == i
  | none => false
def freeOf (ops : Array Oper) (listed : Array Bool) (i : Nat) : Bool := match ops[i]? with
  | some oi => (List.range ops.size).all fun j => j == i || listed.getD j true || waits ops j i || (match ops[j]? with | some oj => oi.apart ops oj | none => true)
  | none => false
def planOk (ops : Array Oper) : Array Bool → List (Nat × Kd) → Bool
  | listed, [] => (Region.ready .any ops listed).isEmpty
  | listed, (i, k) :: r =>
    (Region.ready .any ops listed).contains i &&
    (match k with
      | .pu | .wk => freeOf ops listed i
      | .rd => freeOf ops listed i && r.all fun (j, kj) => kj != .br || waits ops j i
      | .so | .br => Region.ready .any ops listed == [i]) &&
    planOk ops (listed.setIfInBounds i true) r
def noSel (ops : Array Oper) : Bool := ops.all fun o => match o.op with | .select .. => false | _ => true

section
variable {P : Program} {n : Nat} {ops : Array Oper} {Q : Po} {kd : Nat → Kd} {Cw : As}

def StepX (P : Program) (n : Nat) (ops : Array Oper) (kd : Nat → Kd) (Cw : As) (j : Nat) (fr : Fr) (S : As) (next : Fr → As → Prop) : Prop :=
  match ops[j]? with
  | none => next fr S
  | some o => dOk n o.dst = true ∧ ((gval ops fr o.guard = some false ∧ next (putF o.dst undef fr) S) ∨
    (gval ops fr o.guard = some true ∧ ∃ (ι : Type) (val : ι → Value) (S' : ι → As), Sd P n o fr S val S' ∧
      (∀ k, ClE (S' k)) ∧ (∀ k w, S' k w → Cw w) ∧ (kd j ≠ .br → ∀ k w, S' k w → S w) ∧ ∀ k, (∃ w, S' k w) → next (putF o.dst (val k) fr) (S' k)))

/-- Whatever order is taken from here on. -/
def AX (P : Program) (n : Nat) (ops : Array Oper) (Q : Po) (kd : Nat → Kd) (Cw : As) : Nat → Array Bool → Fr → As → Prop
  | 0, listed, fr, S => Region.ready .any ops listed = [] ∧ Cont n (Q .normal) fr S
  | m + 1, listed, fr, S => (Region.ready .any ops listed = [] → Cont n (Q .normal) fr S) ∧
    ∀ j ∈ Region.ready .any ops listed, StepX P n ops kd Cw j fr S (fun fr' S' => AX P n ops Q kd Cw m (listed.setIfInBounds j true) fr' S')

theorem knows_congr {fr fr' : Fr} (h : ∀ i, look fr i = look fr' i) {a : Act} (k : Knows n fr' a) : Knows n fr a := ⟨k.size, k.defers, fun i v hi => k.get i v (by rw [← h]; exact hi)⟩
theorem gval_congr {fr fr' : Fr} (h : ∀ i, look fr i = look fr' i) (g : Option (Nat × Bool)) : gval ops fr g = gval ops fr' g := by
  have : look fr = look fr' := funext h
  cases g with
  | none => rfl
  | some jb => simp [gval, this]
theorem look_putF_congr {fr fr' : Fr} (h : ∀ i, look fr i = look fr' i) (d : Option Nat) (v : Value) : ∀ i, look (putF d v fr) i = look (putF d v fr') i := by
  intro i
  cases d with
  | none => exact h i
  | some d => simp only [putF, look_cons, h]
theorem StepX.mono {j : Nat} {fr : Fr} {S : As} {N N' : Fr → As → Prop} (h : ∀ fr S, N fr S → N' fr S) (hs : StepX P n ops kd Cw j fr S N) : StepX P n ops kd Cw j fr S N' := by
  unfold StepX at *
  split
  · rename_i ho; simp only [ho] at hs; exact h _ _ hs
  · rename_i o ho
    simp only [ho] at hs
    refine ⟨hs.1, ?_⟩
    rcases hs.2 with ⟨h1, h2⟩ | ⟨h1, ι, val, S', h2, h3, h4, h5, h6⟩
    · exact .inl ⟨h1, h _ _ h2⟩
    · exact .inr ⟨h1, ι, val, S', h2, h3, h4, h5, fun k e => h _ _ (h6 k e)⟩
theorem AX.congr : ∀ {m : Nat} {listed : Array Bool} {fr fr' : Fr} {S : As}, (∀ i, look fr i = look fr' i) → AX P n ops Q kd Cw m listed fr S → AX P n ops Q kd Cw m listed fr' S
  | 0, listed, fr, fr', S, h, hx => ⟨hx.1, fun a w k s => hx.2 a w (knows_congr h k) s⟩
  | m + 1, listed, fr, fr', S, h, hx => by
    refine ⟨fun h0 a w k s => hx.1 h0 a w (knows_congr h k) s, fun j hj => ?_⟩
    have := hx.2 j hj
    unfold StepX at *
    split
    · rename_i ho; simp only [ho] at this; exact AX.congr h this
    · rename_i o ho
      simp only [ho] at this
      refine ⟨this.1, ?_⟩
      rcases this.2 with ⟨h1, h2⟩ | ⟨h1, ι, val, S', h2, h3, h4, h5, h6⟩
      · exact .inl ⟨by rw [← gval_congr h]; exact h1, AX.congr (look_putF_congr h _ _) h2⟩
      · exact .inr ⟨by rw [← gval_congr h]; exact h1, ι, val, S', fun a w k s => h2 a w (knows_congr h k) s, h3, h4, h5, fun k e => AX.congr (look_putF_congr h _ _) (h6 k e)⟩

theorem AX.sound : ∀ (m : Nat) (listed : Array Bool) (fr : Fr) (S : As), AX P n ops Q kd Cw m listed fr S → ∀ a w, Knows n fr a → S w → wpAny P .any ops Q m listed a w
  | 0, _, _, _, h, a, w, k, s => ⟨h.1, h.2 a w k s⟩
  | m + 1, listed, fr, S, h, a, w, k, s => by
    refine ⟨fun h0 => h.1 h0 a w k s, fun j hj => ?_⟩
    have := h.2 j hj
    unfold StepX at this
    unfold wpOp
    split
    · rename_i ho; simp only [ho] at this; exact AX.sound m _ _ _ this a w k s
    · rename_i o ho
      simp only [ho] at this
      obtain ⟨hd, ⟨h1, h2⟩ | ⟨h1, ι, val, S', h2, h3, h4, h5, h6⟩⟩ := this
      · rw [wanted_of k h1, if_neg (by simp)]
        exact AX.sound m _ _ _ h2 _ w (k.putF hd _) s
      · rw [if_pos (wanted_of k h1)]
        refine .inl ?_
        have := h2 a w k s
        unfold Oper.wp
        revert this
        generalize (execOp a.eval o).run P w = r
        intro h
        cases r with
        | ok x w' =>
          cases x <;> simp only [solidRes, Oper.upon] at h ⊢
          case value u => obtain ⟨i, rfl, hs⟩ := h; exact AX.sound m _ _ _ (h6 i ⟨_, hs⟩) _ _ (k.putF hd _) hs
          case skip => obtain ⟨i, hu, hs⟩ := h; rw [← hu]; exact AX.sound m _ _ _ (h6 i ⟨_, hs⟩) _ _ (k.putF hd _) hs
          case enter f args => exact h.mono fun e w'' ⟨i, he, hs⟩ => by subst he; exact AX.sound m _ _ _ (h6 i ⟨_, hs⟩) _ _ (k.putF hd _) hs
        | halt x w' => exact h.elim

/-- What is known of a quiet operation: not wanted, or its value in every world of C. -/
def QX (P : Program) (n : Nat) (ops : Array Oper) (o : Oper) (fr : Fr) (C : As) (v : Value) : Prop :=
  dOk n o.dst = true ∧ ((gval ops fr o.guard = some false ∧ v = undef) ∨ (gval ops fr o.guard = some true ∧ Qt P n o fr C v))

theorem gval_put {o : Oper} {fr : Fr} {d : Option Nat} {v : Value} (h : ∀ x, d = some x → x ∉ o.looksAt ops) : gval ops (putF d v fr) o.guard = gval ops fr o.guard := by
  cases d with
  | none => rfl
  | some d =>
    have hd := h d rfl
    cases hg : o.guard with
    | none => rfl
    | some jb =>
      obtain ⟨j, b⟩ := jb
      simp only [gval, putF]
      cases he : (ops[j]?).bind (·.dst) with
      | none => rfl
      | some e =>
        have hne : e ≠ d := by
          intro hed
          subst hed
          apply hd
          unfold Oper.looksAt
          refine List.mem_append_right _ ?_
          simp [hg, he]
        simp only [Option.bind_some, look_cons, if_neg hne]
theorem knows_unput {fr : Fr} {a : Act} {d : Option Nat} {v : Value} (hd : dOk n d = true) (k : Knows n fr a) : Knows n (putF d v fr) (a.put d v) := k.putF hd v
theorem Sd.unput {o : Oper} (hs : ∀ cs b, o.op ≠ .select cs b) {fr : Fr} {S : As} {ι : Type} {val : ι → Value} {S' : ι → As} {d : Option Nat} {v : Value} (hd : dOk n d = true) (h : ∀ x, d = some x → x ∉ o.looksAt ops) (k : Sd P n o (putF d v fr) S val S') : Sd P n o fr S val S' := fun a w kn s => by
  have := k (a.put d v) w (kn.putF hd v) s
  rwa [execOp_put (ops := ops) o hs a d v h] at this
/-- What is known of a slot besides does no harm: the operation does not look at it. -/
theorem Qt.put {o : Oper} {fr : Fr} {C : As} {v : Value} {d : Option Nat} {u : Value} (k : Qt P n o fr C v) (hl : ∀ a, Knows n (putF d u fr) a → ∃ a0, Knows n fr a0 ∧ execOp a.eval o = execOp a0.eval o) : Qt P n o (putF d u fr) C v := fun a w kn c => by
  obtain ⟨a0, k0, e⟩ := hl a kn
  rw [e]; exact k a0 w k0 c
theorem Qt.weak {o : Oper} {fr : Fr} {C C' : As} {v : Value} (k : Qt P n o fr C v) (h : ∀ w, C' w → C w) : Qt P n o fr C' v := fun a w kn c => k a w kn (h w c)
/-- A slot that an operation does not look at may hold anything. -/
theorem unlook {o : Oper} (hs : ∀ cs b, o.op ≠ .select cs b) {fr : Fr} {d : Option Nat} {u : Value} (hd : dOk n d = true) (h : ∀ x, d = some x → x ∉ o.looksAt ops) (a : Act) (ka : Knows n (putF d u fr) a) : ∃ a0, Knows n fr a0 ∧ execOp a.eval o = execOp a0.eval o := by
  cases d with
  | none => exact ⟨a, ka, rfl⟩
  | some d =>
    cases hl : look fr d with
    | some v0 =>
      refine ⟨a.put (some d) v0, ⟨by simp [Act.put, ka.size], ka.defers, fun i v hi => ?_⟩, (execOp_put (ops := ops) o hs a (some d) v0 h).symm⟩
      have hdn : d < n := by simpa [dOk] using hd
      by_cases hid : i = d
      · subst hid; rw [hl] at hi; cases hi; simp [Act.put, ka.size, hdn]
      · have := ka.get i v (by simp only [putF, look_cons, if_neg hid]; exact hi)
        simp [Act.put, Array.getElem?_setIfInBounds_ne (Ne.symm hid), this]
    | none =>
      refine ⟨a, ⟨ka.size, ka.defers, fun i v hi => ?_⟩, rfl⟩
      by_cases hid : i = d
      · subst hid; rw [hl] at hi; cases hi
      · exact ka.get i v (by simp only [putF, look_cons, if_neg hid]; exact hi)

theorem look_comm {fr : Fr} {d d' : Option Nat} {u v : Value} (h : ∀ x, d = some x → d' ≠ some x) (i : Nat) : look (putF d u (putF d' v fr)) i = look (putF d' v (putF d u fr)) i := by
  cases d with
  | none => rfl
  | some d =>
    cases d' with
    | none => rfl
    | some d' =>
      have hne : d' ≠ d := fun e => h d rfl (by rw [e])
      simp only [putF, look_cons]
      by_cases h1 : i = d
      · subst h1
        rw [if_pos rfl, if_neg (fun e => hne e.symm), if_pos rfl]
      · rw [if_neg h1, if_neg h1]

/-- A quiet operation that may come up now may be taken first. -/
theorem AX.first (hsel : ∀ (j : Nat) (o : Oper) cs b, ops[j]? = some o → o.op ≠ .select cs b) {i : Nat} {oi : Oper} {v : Value} (hi : ops[i]? = some oi) (hkb : kd i ≠ .br) :
    ∀ (m : Nat) (listed : Array Bool) (fr : Fr) (S C : As), ClE S → (∀ w, S w → Cw w) → (∀ w, S w → C w) →
      (∀ j, kd j = .br → listed.getD j true = false → waits ops j i = false → ∀ w, Cw w → C w) →
      (∀ j oj, ops[j]? = some oj → j ≠ i → listed.getD j true = false → waits ops j i = false → oi.apart ops oj = true) →
      i ∈ Region.ready .any ops listed → QX P n ops oi fr C v →
      AX P n ops Q kd Cw m (listed.setIfInBounds i true) (putF oi.dst v fr) S → AX P n ops Q kd Cw (m + 1) listed fr S := by
  -- taking i itself
  have own : ∀ (fr : Fr) (S C : As) (N : Fr → As → Prop), ClE S → (∀ w, S w → Cw w) → (∀ w, S w → C w) → QX P n ops oi fr C v → N (putF oi.dst v fr) S → StepX P n ops kd Cw i fr S N := by
    intro fr S C N hcl hcw hC hq hn
    unfold StepX
    simp only [hi]
    refine ⟨hq.1, ?_⟩
    rcases hq.2 with ⟨h1, rfl⟩ | ⟨h1, h2⟩
    · exact .inl ⟨h1, hn⟩
    · exact .inr ⟨h1, Unit, _, _, h2.sd hcl hC, fun _ => hcl, fun _ => hcw, fun _ _ _ s => s, fun _ _ => hn⟩
  intro m
  induction m with
  | zero =>
    intro listed fr S C hcl hcw hC hbr hfree hr hq H
    refine ⟨fun h => (by rw [h] at hr; cases hr), fun j hj => ?_⟩
    by_cases hji : j = i
    · subst hji; exact own fr S C _ hcl hcw hC hq H
    · have := ready_mono hj hji
      rw [H.1] at this
      cases this
  | succ m ih =>
    intro listed fr S C hcl hcw hC hbr hfree hr hq H
    refine ⟨fun h => (by rw [h] at hr; cases hr), fun j hj => ?_⟩
    by_cases hji : j = i
    · subst hji; exact own fr S C _ hcl hcw hC hq H
    · have h1 := H.2 j (ready_mono hj hji)
      obtain ⟨hjun, oj, hoj, hall⟩ := mem_ready.1 hj
      have hiun := (mem_ready.1 hr).1
      have hnw : waits ops j i = false := by
        cases hw : waits ops j i with
        | false => rfl
        | true =>
          unfold waits at hw
          simp only [hoj] at hw
          rw [Array.any_eq_true] at hw
          obtain ⟨x, hx, hpx⟩ := hw
          simp only [Bool.and_eq_true, beq_iff_eq] at hpx
          have h1 := hall _ (Array.getElem_mem hx) hpx.1
          rw [hpx.2] at h1
          rcases Nat.lt_or_ge i listed.size with h' | h'
          · simp [h'] at hiun h1; rw [hiun] at h1; cases h1
          · simp [Array.getElem?_eq_none h'] at h1
      have hap := hfree j oj hoj hji hjun hnw
      obtain ⟨a1, a2, a3⟩ := Oper.apart_spec hap
      have hsi := fun cs b => hsel i oi cs b hi
      have hsj := fun cs b => hsel j oj cs b hoj
      have hr' : i ∈ Region.ready .any ops (listed.setIfInBounds j true) := ready_mono hr (Ne.symm hji)
      have hun : ∀ k, (listed.setIfInBounds j true).getD k true = false → listed.getD k true = false := fun k hk => by
        by_cases hjk : j = k
        · subst hjk; exact hjun
        · rw [getD_set_ne true hjk] at hk; exact hk
      have hbr' : ∀ k, kd k = .br → (listed.setIfInBounds j true).getD k true = false → waits ops k i = false → ∀ w, Cw w → C w := fun k hk hl hw => hbr k hk (hun k hl) hw
      have hfree' : ∀ k ok, ops[k]? = some ok → k ≠ i → (listed.setIfInBounds j true).getD k true = false → waits ops k i = false → oi.apart ops ok = true := fun k ok hk hki hl hw => hfree k ok hk hki (hun k hl) hw
      -- i's fact behind j
      have keep : ∀ (u : Value), dOk n oj.dst = true → QX P n ops oi (putF oj.dst u fr) C v := fun u hdj => by
        refine ⟨hq.1, ?_⟩
        rcases hq.2 with ⟨g1, g2⟩ | ⟨g1, g2⟩
        · exact .inl ⟨by rw [gval_put a3]; exact g1, g2⟩
        · exact .inr ⟨by rw [gval_put a3]; exact g1, g2.put fun a ka => unlook hsi hdj a3 a ka⟩
      have swap : ∀ (u : Value) (S' : As), AX P n ops Q kd Cw m ((listed.setIfInBounds i true).setIfInBounds j true) (putF oj.dst u (putF oi.dst v fr)) S' → AX P n ops Q kd Cw m ((listed.setIfInBounds j true).setIfInBounds i true) (putF oi.dst v (putF oj.dst u fr)) S' := fun u S' h => by
        rw [Array.setIfInBounds_comm _ _ hji]
        exact h.congr fun x => look_comm (fun y hy => fun hh => a2 y hh hy) x
      unfold StepX at h1 ⊢
      simp only [hoj] at h1 ⊢
      refine ⟨h1.1, ?_⟩
      rw [gval_put a1] at h1
      rcases h1.2 with ⟨g1, g2⟩ | ⟨g1, ι, val, S', g2, g3, g4, g5, g6⟩
      · exact .inl ⟨g1, ih _ _ S C hcl hcw hC hbr' hfree' hr' (keep undef h1.1) (swap _ _ g2)⟩
      · refine .inr ⟨g1, ι, val, S', Sd.unput hsj hq.1 a1 g2, g3, g4, g5, fun k e => ?_⟩
        refine ih _ _ (S' k) C (g3 k) (g4 k) (fun w s => ?_) hbr' hfree' hr' (keep (val k) h1.1) (swap _ _ (g6 k e))
        by_cases hkj : kd j = .br
        · exact hbr j hkj hjun hnw w (g4 k w s)
        · exact hC w (g5 hkj k w s)
end

/-! ### The rules -/
/-- A plan's steps from a state. -/
def RD (P : Program) (n : Nat) (ops : Array Oper) (Q : Po) (full : List (Nat × Kd)) (Cw : As) (plan : List (Nat × Kd)) (fr : Fr) (S : As) : Prop :=
  ∀ listed, planOk ops listed plan = true → noSel ops = true → (∀ i k, (i, k) ∈ plan → full.lookup i = some k) → (∀ j, listed.getD j true = false → full.lookup j = some .br → (j, Kd.br) ∈ plan) → (∃ w, S w) →
    AX P n ops Q (fun i => (full.lookup i).getD .so) Cw plan.length listed fr S

section
variable {P : Program} {n : Nat} {ops : Array Oper} {Q : Po} {full plan : List (Nat × Kd)} {Cw S : As} {fr : Fr}
theorem noSel_spec (h : noSel ops = true) : ∀ (j : Nat) (o : Oper) cs b, ops[j]? = some o → o.op ≠ .select cs b := by
  intro j o cs b ho hop
  unfold noSel at h
  rw [Array.all_eq_true_iff_forall_mem] at h
  have := h o (Array.mem_of_getElem? ho)
  simp [hop] at this
theorem freeOf_spec {listed : Array Bool} {i : Nat} {oi : Oper} (hi : ops[i]? = some oi) (h : freeOf ops listed i = true) : ∀ j oj, ops[j]? = some oj → j ≠ i → listed.getD j true = false → waits ops j i = false → oi.apart ops oj = true := by
  intro j oj hj hji hl hw
  unfold freeOf at h
  simp only [hi, List.all_eq_true, List.mem_range] at h
  have := h j (Array.getElem?_eq_some_iff.1 hj).1
  simp only [hl, hw, hj, Bool.or_false, Bool.or_eq_true, beq_iff_eq] at this
  exact this.resolve_left hji
theorem RD.nil (h : Cont n (Q .normal) fr S) : RD P n ops Q full Cw [] fr S := fun listed hp _ _ _ _ => ⟨by simpa [planOk] using hp, h⟩
theorem RD.quiet {i : Nat} {k : Kd} {o : Oper} {v : Value} (C : As) (hi : ops[i]? = some o) (hk : k = .pu ∨ k = .wk ∨ k = .rd) (hcl : ClE S) (hcw : ∀ w, S w → Cw w) (hC : ∀ w, S w → C w) (hkC : k ≠ .rd → ∀ w, Cw w → C w)
    (hq : QX P n ops o fr C v) (h : RD P n ops Q full Cw plan (putF o.dst v fr) S) : RD P n ops Q full Cw ((i, k) :: plan) fr S := by
  intro listed hp hns hf hb hex
  simp only [planOk, Bool.and_eq_true, List.contains_iff_mem] at hp
  obtain ⟨⟨h1, h2⟩, h3⟩ := hp
  have hfi := hf i k (by simp)
  have hnb : k ≠ .br := by rcases hk with rfl | rfl | rfl <;> simp
  have hfree : freeOf ops listed i = true := by
    rcases hk with rfl | rfl | rfl <;> simp at h2
    · exact h2
    · exact h2
    · exact h2.1
  refine AX.first (noSel_spec hns) hi (by simp [hfi, hnb]) plan.length listed fr S C hcl hcw hC ?_ (freeOf_spec hi hfree) h1 hq ?_
  · intro j hkj hl hw
    by_cases hkr : k = .rd
    · subst hkr
      simp only [Bool.and_eq_true, List.all_eq_true] at h2
      have hj : full.lookup j = some .br := by
        cases hlj : full.lookup j with
        | none => simp [hlj] at hkj
        | some x => simp [hlj] at hkj; rw [hkj]
      have hmem := hb j hl hj
      rcases List.mem_cons.1 hmem with e | e
      · cases e
      · have := h2.2 _ e
        simp [hw] at this
    · exact hkC hkr
  · refine h _ h3 hns (fun j kj hj => hf j kj (by simp [hj])) (fun j hl hj => ?_) hex
    have hl' : listed.getD j true = false := by
      by_cases hij : i = j
      · subst hij
        rw [hfi] at hj; cases hj; exact absurd rfl hnb
      · rw [getD_set_ne true hij] at hl; exact hl
    rcases List.mem_cons.1 (hb j hl' hj) with e | e
    · cases e; exact absurd rfl hnb
    · exact e
theorem RD.solid {i : Nat} {k : Kd} {o : Oper} (hi : ops[i]? = some o) (hk : k = .so ∨ k = .br) {ι : Type} {val : ι → Value} {S' : ι → As} (hd : dOk n o.dst = true) (hg : gval ops fr o.guard = some true) (hs : Sd P n o fr S val S')
    (hcl : ∀ x, ClE (S' x)) (hcw : ∀ x w, S' x w → Cw w) (hpre : k = .so → ∀ x w, S' x w → S w) (h : ∀ x, RD P n ops Q full Cw plan (putF o.dst (val x) fr) (S' x)) : RD P n ops Q full Cw ((i, k) :: plan) fr S := by
  intro listed hp hns hf hb hex
  simp only [planOk, Bool.and_eq_true, List.contains_iff_mem] at hp
  obtain ⟨⟨h1, h2⟩, h3⟩ := hp
  have hfi := hf i k (by simp)
  have hone : Region.ready .any ops listed = [i] := by rcases hk with rfl | rfl <;> simpa using h2
  refine ⟨fun h0 => (by rw [hone] at h0; cases h0), fun j hj => ?_⟩
  rw [hone] at hj
  simp at hj; subst hj
  unfold StepX
  simp only [hi]
  refine ⟨hd, .inr ⟨hg, ι, val, S', hs, hcl, hcw, fun hnb => ?_, fun x hey => ?_⟩⟩
  · rcases hk with rfl | rfl
    · exact hpre rfl
    · simp [hfi] at hnb
  · refine h x _ h3 hns (fun j kj hj => hf j kj (by simp [hj])) (fun y hl hy => ?_) hey
    have hjl : j < listed.size ∨ listed.size ≤ j := Nat.lt_or_ge _ _
    have hne : j ≠ y := by
      intro e; subst e
      rcases hjl with hjl | hjl
      · simp [hjl] at hl
      · simp [Array.getElem?_eq_none hjl] at hl
    rw [getD_set_ne true hne] at hl
    rcases List.mem_cons.1 (hb y hl hy) with e | e
    · cases e; exact absurd rfl hne
    · exact e
theorem RD.split (d : Nat) {b : Bool} (hb : look fr d = some (.bool b)) (ht : b = true → RD P n ops Q full Cw plan ((d, .bool true) :: fr) S) (hf : b = false → RD P n ops Q full Cw plan ((d, .bool false) :: fr) S) : RD P n ops Q full Cw plan fr S := by
  intro listed h1 h2 h3 h4 h5
  have hc : ∀ i, look ((d, .bool b) :: fr) i = look fr i := fun i => by
    rw [look_cons]; split
    · rename_i e; rw [e, hb]
    · rfl
  cases b with
  | true => exact (ht rfl listed h1 h2 h3 h4 h5).congr hc
  | false => exact (hf rfl listed h1 h2 h3 h4 h5).congr hc
theorem RD.splitP (d : Nat) {p : Prop} [Decidable p] (hb : look fr d = some (.bool (decide p))) (ht : p → RD P n ops Q full Cw plan ((d, .bool true) :: fr) S) (hf : ¬ p → RD P n ops Q full Cw plan ((d, .bool false) :: fr) S) : RD P n ops Q full Cw plan fr S :=
  RD.split d hb (fun h => ht (of_decide_eq_true h)) (fun h => hf (of_decide_eq_false h))

/-- The simple forms: what only computes. -/
theorem RD.p {i : Nat} {o : Oper} {v : Value} {w0 : World} {G : List Ch} (hcw : ∀ w, Sat w0 G w → Cw w) (hi : ops[i]? = some o) (h : Pu P n o fr v) (hg : gval ops fr o.guard = some true) (hd : dOk n o.dst = true)
    (hr : RD P n ops Q full Cw plan (putF o.dst v fr) (Sat w0 G)) : RD P n ops Q full Cw ((i, .pu) :: plan) fr (Sat w0 G) :=
  RD.quiet (fun _ => True) hi (.inl rfl) (ClE.sat _ _) hcw (fun _ _ => trivial) (fun _ _ _ => trivial) ⟨hd, .inr ⟨hg, h.qt⟩⟩ hr
theorem RD.no {i : Nat} {o : Oper} {w0 : World} {G : List Ch} (hcw : ∀ w, Sat w0 G w → Cw w) (hi : ops[i]? = some o) (hg : gval ops fr o.guard = some false) (hd : dOk n o.dst = true) {k : Kd} (hk : k = .pu ∨ k = .wk ∨ k = .rd)
    (hr : RD P n ops Q full Cw plan (putF o.dst undef fr) (Sat w0 G)) : RD P n ops Q full Cw ((i, k) :: plan) fr (Sat w0 G) :=
  RD.quiet (fun _ => True) hi hk (ClE.sat _ _) hcw (fun _ _ => trivial) (fun _ _ _ => trivial) ⟨hd, .inl ⟨hg, rfl⟩⟩ hr
/-- What reads in S. -/
theorem RD.q {i : Nat} {o : Oper} {v : Value} {w0 : World} {G : List Ch} (hcw : ∀ w, Sat w0 G w → Cw w) (hi : ops[i]? = some o) (h : Qt P n o fr (Sat w0 G) v) (hg : gval ops fr o.guard = some true) (hd : dOk n o.dst = true)
    (hr : RD P n ops Q full Cw plan (putF o.dst v fr) (Sat w0 G)) : RD P n ops Q full Cw ((i, .rd) :: plan) fr (Sat w0 G) :=
  RD.quiet (Sat w0 G) hi (.inr (.inr rfl)) (ClE.sat _ _) hcw (fun _ s => s) (fun h => absurd rfl h) ⟨hd, .inr ⟨hg, h⟩⟩ hr
/-- What reads in the weaker assertion. -/
theorem RD.w {i : Nat} {o : Oper} {v : Value} {w0 : World} {G : List Ch} (hcw : ∀ w, Sat w0 G w → Cw w) (hi : ops[i]? = some o) (h : Qt P n o fr Cw v) (hg : gval ops fr o.guard = some true) (hd : dOk n o.dst = true)
    (hr : RD P n ops Q full Cw plan (putF o.dst v fr) (Sat w0 G)) : RD P n ops Q full Cw ((i, .wk) :: plan) fr (Sat w0 G) :=
  RD.quiet Cw hi (.inr (.inl rfl)) (ClE.sat _ _) hcw hcw (fun _ _ h => h) ⟨hd, .inr ⟨hg, h⟩⟩ hr

theorem T.drawn {id : Nat} (Cw : As) (plan : List (Nat × Kd)) (hm : P.follows .mixedOrders = true) (hcl : ClE S) (hp : (planOk ops (Array.replicate ops.size false) plan && noSel ops && plan.length == ops.size && (plan.all fun (i, k) => plan.lookup i == some k)) = true)
    (h : RD P n ops Q plan Cw plan fr S) : T P n (.region id ops true) fr S Q := by
  simp only [Bool.and_eq_true, beq_iff_eq, List.all_eq_true] at hp
  obtain ⟨⟨⟨h1, h2⟩, h3⟩, h4⟩ := hp
  intro a w k s
  refine wp_region_any hm ?_
  have hx := h _ h1 h2 (fun i kk hi => by have := h4 _ hi; simpa using this) (fun j hl hj => ?_) ⟨_, hcl _ _ s (Ext.drawn w 0)⟩
  · rw [h3] at hx
    exact hx.sound _ _ _ _ a _ k (hcl _ _ s (Ext.drawn w _))
  · have : ∀ (l : List (Nat × Kd)), l.lookup j = some .br → (j, Kd.br) ∈ l := by
      intro l
      induction l with
      | nil => intro h; cases h
      | cons x l ih =>
        obtain ⟨y, ky⟩ := x
        rw [List.lookup_cons]
        split
        · rename_i e; intro h; cases h; simp at e; simp [e]
        · intro h; exact List.mem_cons_of_mem _ (ih h)
    exact this plan hj
end
end Go.Vg
