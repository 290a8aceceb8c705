/-
  Steps for generated walks: elements by an integer's index, loops and meetings that keep what is known of the other slots, regions that draw beside a store. For every program whose tables say what the lemma asks. A library of this claim's own.
-/
import Derived.Test.YtddicdmleeaihaaVG
import Derived.Test.YtddicdmleeaihaaVE
set_option linter.unusedSimpArgs false
set_option linter.unusedVariables false
namespace Go.Vg
open Enc (R)

/-! ### Elements by an integer -/
def gi {α : Type} [Inhabited α] (xs : List α) (j : Int) : α := xs.getD j.toNat default
def si {α : Type} (xs : List α) (j : Int) (x : α) : List α := xs.set j.toNat x
section
variable {α : Type} [Inhabited α] {xs ys : List α} {j k : Int} {x : α}
theorem gi_get (h : 0 ≤ j ∧ j < xs.length) : xs[j.toNat]? = some (gi xs j) := by
  have hl : j.toNat < xs.length := by omega
  simp [gi, List.getD, List.getElem?_eq_getElem hl]
theorem ne_of_pos {α : Type} {xs : List α} (h : 0 < xs.length) : xs ≠ [] := by rintro rfl; simp at h
theorem gi_nat (i : Nat) : gi xs (i : Int) = xs.getD i default := by simp [gi]
theorem gi_mem (h : 0 ≤ j ∧ j < xs.length) : gi xs j ∈ xs := List.mem_of_getElem? (gi_get h)
theorem len_si {α : Type} {xs : List α} {j : Int} {x : α} : (si xs j x).length = xs.length := by simp [si]
theorem gi_si_self (h : 0 ≤ j ∧ j < xs.length) : gi (si xs j x) j = x := by
  have hl : j.toNat < xs.length := by omega
  simp [gi, si, List.getD, List.getElem?_set, hl]
theorem gi_si_ne (h0 : 0 ≤ j) (h1 : 0 ≤ k) (h : j ≠ k) : gi (si xs j x) k = gi xs k := by
  have hl : j.toNat ≠ k.toNat := by omega
  simp [gi, si, List.getD, List.getElem?_set_ne hl]
theorem gi_append_left (h : 0 ≤ j ∧ j < xs.length) : gi (xs ++ ys) j = gi xs j := by
  have hl : j.toNat < xs.length := by omega
  simp [gi, List.getD, List.getElem?_append_left hl]
theorem gi_append_at : gi (xs ++ [x]) (xs.length : Int) = x := by simp [gi, List.getD]
theorem gi_replicate {n : Nat} (h : 0 ≤ j ∧ j < n) : gi (List.replicate n x) j = x := by
  have hl : j.toNat < n := by omega
  simp [gi, List.getD, List.getElem?_replicate, hl]
theorem gi_out (h : (xs.length : Int) ≤ j) : gi xs j = default := by
  have hl : xs.length ≤ j.toNat := by omega
  simp [gi, List.getD, List.getElem?_eq_none hl]
/-- Equal lists, place by place. -/
theorem ext_gi (hl : xs.length = ys.length) (h : ∀ i : Int, 0 ≤ i → i < xs.length → gi xs i = gi ys i) : xs = ys := by
  apply List.ext_getElem hl
  intro i h1 h2
  have := h i (by omega) (by omega)
  simpa [gi, List.getD, List.getElem?_eq_getElem h1, List.getElem?_eq_getElem h2] using this
end

section
variable {P : Program} {n : Nat} {fr : Fr} {dst : Option Tmp} {ty : TypeId} {pos : String} {aft : Array Edge} {g : Option (Nat × Bool)} {S : As} {w0 : World} {G : List Ch} {Q : Po}
/-- One cell of an element; 'off' is where a field lies in it. -/
theorem Qt.ldF {α : Type} [Enc α] [Inhabited α] {t : TypeId} {x : Operand} {xs : List α} {b o len cap sz f : Nat} {ji : Int} {v : Value} (hR : Rd S xs [.slice (some ⟨b, o, none⟩) len cap]) (ht : tySz P t = some (1, false))
    (hx : ev fr x = some (.pointer (some ⟨b, o + ji.toNat * sz + f, none⟩))) (hsz : sz = Enc.sz α) (hj : 0 ≤ ji ∧ ji < xs.length) (hv : ∀ h c, R h (gi xs ji) c → c[f]? = some v) :
    Qt P n ⟨dst, .load t x, ty, pos, aft, g⟩ fr S v := Qt.ldE hR (gi_get hj) ht hx (by rw [hsz]) hv
theorem Qt.ld0 {α : Type} [Enc α] [Inhabited α] {t : TypeId} {x : Operand} {xs : List α} {b o len cap sz : Nat} {ji : Int} {v : Value} (hR : Rd S xs [.slice (some ⟨b, o, none⟩) len cap]) (ht : tySz P t = some (1, false))
    (hx : ev fr x = some (.pointer (some ⟨b, o + ji.toNat * sz, none⟩))) (hsz : sz = Enc.sz α) (hj : 0 ≤ ji ∧ ji < xs.length) (hv : ∀ h c, R h (gi xs ji) c → c[0]? = some v) :
    Qt P n ⟨dst, .load t x, ty, pos, aft, g⟩ fr S v := Qt.ldE (j := 0) hR (gi_get hj) ht hx (by rw [hsz]; omega) hv
/-- A whole element that is a struct. -/
theorem Qt.ldW {α : Type} [Enc α] [Inhabited α] {t s : TypeId} {x : Operand} {xs : List α} {b o len cap sz : Nat} {ji : Int} {cs : List Value} (hR : Rd S xs [.slice (some ⟨b, o, none⟩) len cap]) (ht : tySz P t = some (s, true))
    (hx : ev fr x = some (.pointer (some ⟨b, o + ji.toNat * sz, none⟩))) (hsz : sz = Enc.sz α) (hj : 0 ≤ ji ∧ ji < xs.length) (hl : cs.length = s) (hv : ∀ h c, R h (gi xs ji) c → c = cs) :
    Qt P n ⟨dst, .load t x, ty, pos, aft, g⟩ fr S (.agg cs.toArray) := Qt.ldEA hR (gi_get hj) ht hx (by rw [hsz]) hl hv
/-- A store of an element, or of one of its fields. -/
theorem Sd.st0 {α : Type} [Enc α] [Inhabited α] (k : Nat) {t e : TypeId} {B : Hp} {x y : Operand} {xs : List α} {b cap s sz len : Nat} {ji : Int} {gg : Bool} (x1 : α) {v : Value} {us : List Value} (hk : G[k]? = some (row B e (.slice (some ⟨b, 0, none⟩) len cap) xs)) (ht : tySz P t = some (s, gg))
    (hx : ev fr x = some (.pointer (some ⟨b, 0 + ji.toNat * sz, none⟩))) (hy : ev fr y = some v) (hsz : sz = Enc.sz α) (hj : 0 ≤ ji ∧ ji < xs.length) (hv : v.cells.toList = us) (hl : us.length = s) (hle : s ≤ Enc.sz α)
    (h1 : us.all (·.oneCell') = true) (hn : ∀ h c, R h (gi xs ji) c → R h x1 (c.take 0 ++ us ++ c.drop (0 + s))) :
    Sd P n ⟨none, .store t x y, ty, pos, aft, g⟩ fr (Sat w0 G) (fun _ : Unit => undef) (fun _ => Sat w0 (G.set k (row B e (.slice (some ⟨b, 0, none⟩) len cap) (si xs ji x1)))) :=
  Sd.stE k (j := 0) hk (gi_get hj) ht hx hy (by rw [hsz]; omega) hv hl (by omega) h1 hn
theorem Sd.stF {α : Type} [Enc α] [Inhabited α] (k : Nat) {t e : TypeId} {B : Hp} {x y : Operand} {xs : List α} {b cap s sz len f : Nat} {ji : Int} {gg : Bool} (x1 : α) {v : Value} {us : List Value} (hk : G[k]? = some (row B e (.slice (some ⟨b, 0, none⟩) len cap) xs)) (ht : tySz P t = some (s, gg))
    (hx : ev fr x = some (.pointer (some ⟨b, 0 + ji.toNat * sz + f, none⟩))) (hy : ev fr y = some v) (hsz : sz = Enc.sz α) (hj : 0 ≤ ji ∧ ji < xs.length) (hv : v.cells.toList = us) (hl : us.length = s) (hle : f + s ≤ Enc.sz α)
    (h1 : us.all (·.oneCell') = true) (hn : ∀ h c, R h (gi xs ji) c → R h x1 (c.take f ++ us ++ c.drop (f + s))) :
    Sd P n ⟨none, .store t x y, ty, pos, aft, g⟩ fr (Sat w0 G) (fun _ : Unit => undef) (fun _ => Sat w0 (G.set k (row B e (.slice (some ⟨b, 0, none⟩) len cap) (si xs ji x1)))) :=
  Sd.stE k hk (gi_get hj) ht hx hy (by rw [hsz]) hv hl hle h1 hn

/-- What a row's value tells. -/
theorem Sat.row_fits {α : Type} [Enc α] {w : World} {k m : Nat} {B : Hp} {e : TypeId} {q : Option Nat × Nat} {xs : List α} (h : Sat w0 G w) (hk : G[k]? = some (row B e (rowV q m) xs)) : m = xs.length ∧ m ≤ q.2 ∧ q.2 ≤ maxLen := by
  obtain ⟨p, hp, _⟩ := h.get k hk
  rcases hp with ⟨hv, rfl⟩ | ⟨g, cap, cs, sp, hv, _, hle, hm, _⟩
  · simp only [rowV, Value.slice.injEq] at hv
    obtain ⟨_, rfl, h2⟩ := hv
    rw [h2]; exact ⟨rfl, Nat.le_refl _, Nat.zero_le _⟩
  · simp only [rowV, Value.slice.injEq] at hv
    obtain ⟨_, rfl, h2⟩ := hv
    rw [h2]; exact ⟨rfl, hle, hm⟩

theorem R_max {α : Type} [Enc α] {h : Hp} {xs : List α} {v : Value} (hr : R h xs [v]) : xs.length ≤ 9223372036854775807 := by
  obtain ⟨p, cap, e, h1, h2, _⟩ := hr
  unfold maxLen at h2; omega

/-- A call that turns one chunk, its answer known ahead. -/
theorem Sd.callU (k : Nat) {C C' : Ch} {v : Value} {f : FuncId} {xs : List Operand} {ts : Array TypeId} {vs : List Value} (he : Ent P f) (hx : evs fr xs = some vs) (hk : G[k]? = some C)
    (hc : ∀ F w, Sat w0 [C, F] w → Calls P f vs.toArray w (fun e w' => e = .returned v ∧ Sat w0 [C', F] w')) :
    Sd P n ⟨dst, .call { callee := .value (.func f), args := xs.toArray, argTypes := ts }, ty, pos, aft, g⟩ fr (Sat w0 G) (fun _ : Unit => v) (fun _ => Sat w0 (G.set k C')) :=
  Sd.callT k he hx hk (ι := Unit) (val := fun _ => v) (C' := fun _ => C') fun F w s => (hc F w s).mono fun e w' h => ⟨(), h⟩

/-! ### Answers -/
theorem bT {p : Prop} [Decidable p] (h : p) : Ending.returned (.bool true) = .returned (.bool (decide p)) := by rw [decide_eq_true h]
theorem bF {p : Prop} [Decidable p] (h : ¬ p) : Ending.returned (.bool false) = .returned (.bool (decide p)) := by rw [decide_eq_false h]
theorem bD {p q : Prop} [Decidable p] [Decidable q] (h : q ↔ p) : Ending.returned (.bool (decide q)) = .returned (.bool (decide p)) := by rw [decide_eq_decide.2 h]
theorem mul_bd {a b A B : Int} (ha : 0 ≤ a ∧ a ≤ A) (hb : 0 ≤ b ∧ b ≤ B) : 0 ≤ a * b ∧ a * b ≤ A * B :=
  ⟨Int.mul_nonneg ha.1 hb.1, Int.mul_le_mul ha.2 hb.2 hb.1 (by omega)⟩

/-! ### Where a block's end leads -/
def NmTo (Q : Po) (K : Act → World → Prop) : Prop := ∀ a w, K a w → Q .normal a w
theorem NmTo.seq {K : Act → World → Prop} : NmTo (Exit.then K Q) K := fun _ _ h => h
theorem NmTo.blk {K : Act → World → Prop} {id : Nat} (h : NmTo Q K) : NmTo (Exit.inBlock id Q) K := fun a w k => h a w k
theorem ExTo.deep {K : Act → World → Prop} {id : Nat} (h : NmTo Q K) : ExTo id (Exit.inBlock id Q) K := fun a w k => by simpa [Exit.inBlock] using h a w k
theorem T.xt {P : Program} {n : Nat} {fr : Fr} {S : As} {Q : Po} {id : Nat} {K : Act → World → Prop} (h : Cont n K fr S) (he : ExTo id Q K := by with_reducible (repeat (first | exact ExTo.here | exact ExTo.hereN | exact ExTo.deep (by repeat (first | exact NmTo.seq | apply NmTo.blk)) | apply ExTo.seq | refine ExTo.past (by decide) ?_))) : T P n (.exit id) fr S Q := T.exitTo he h

/-! ### Loops and meetings -/
theorem T.loopK {σ : Type} (kept : Fr) (FW : σ → Fr) (SS : σ → As) (I : σ → Prop) (m : σ → Nat) {c : Code} (x0 : σ) (hi : I x0) (hk : Sub fr kept) (h0 : Sub fr (FW x0 ++ kept)) (hs : ∀ w, S w → SS x0 w)
    (round : ∀ x, I x → ∀ K : Act → World → Prop, (∀ fr' S' x', I x' → m x' < m x → Sub fr' (FW x' ++ kept) → (∀ w, S' w → SS x' w) → Cont n K fr' S') → T P n c (FW x ++ kept) (SS x) (Exit.then K Q)) : T P n (.loop c) fr S Q :=
  T.loop (fun x => FW x ++ kept) SS I m x0 hi h0 hs round
theorem T.seqJoinK {x y : Code} {σ : Type} (kept : Fr) (FW : σ → Fr) (SS : σ → As) (I : σ → Prop) (hk : Sub fr kept) (hy : ∀ z, I z → T P n y (FW z ++ kept) (SS z) Q)
    (h : ∀ K : Act → World → Prop, (∀ fr' S' z, I z → Sub fr' (FW z ++ kept) → (∀ w, S' w → SS z w) → Cont n K fr' S') → T P n x fr S (Exit.then K Q)) : T P n (x.seq y) fr S Q :=
  T.seqJoin (fun z => FW z ++ kept) SS I hy h
theorem T.loopC {σ : Type} (kept : Fr) (FW : σ → Fr) (I : σ → Prop) (m : σ → Nat) {c : Code} (x0 : σ) (hi : I x0) (hk : Sub fr kept) (h0 : Sub fr (FW x0 ++ kept))
    (round : ∀ x, I x → ∀ K : Act → World → Prop, (∀ fr' S' x', I x' → m x' < m x → Sub fr' (FW x' ++ kept) → (∀ w, S' w → S w) → Cont n K fr' S') → T P n c (FW x ++ kept) S (Exit.then K Q)) : T P n (.loop c) fr S Q :=
  T.loop (fun x => FW x ++ kept) (fun _ => S) I m x0 hi h0 (fun _ s => s) round
theorem T.seqJoinC {x y : Code} {σ : Type} (kept : Fr) (FW : σ → Fr) (I : σ → Prop) (hk : Sub fr kept) (hy : ∀ z, I z → T P n y (FW z ++ kept) S Q)
    (h : ∀ K : Act → World → Prop, (∀ fr' S' z, I z → Sub fr' (FW z ++ kept) → (∀ w, S' w → S w) → Cont n K fr' S') → T P n x fr S (Exit.then K Q)) : T P n (x.seq y) fr S Q :=
  T.seqJoin (fun z => FW z ++ kept) (fun _ => S) I hy h
theorem Sub.app {fr kept : Fr} : ∀ {FW : Fr}, Sub fr FW → Sub fr kept → Sub fr (FW ++ kept)
  | [], _, h => h
  | _ :: _, h, k => ⟨h.1, Sub.app h.2 k⟩

/-! ### Many chunks as one -/
theorem Sat.rot {A : Ch} {w : World} (s : Sat w0 (A :: G) w) : Sat w0 (G ++ [A]) w := by
  obtain ⟨e, own, h2⟩ := s
  refine ⟨e, fun b => if own b = 0 then G.length else own b - 1, fun i C hi => ?_⟩
  rw [List.getElem?_append] at hi
  split at hi
  · obtain ⟨p, hp, hb⟩ := h2 (i + 1) C (by simpa using hi)
    refine ⟨p, hp, fun b o hbo => ?_⟩
    obtain ⟨a1, a2, a3⟩ := hb b o hbo
    exact ⟨a1, by simp [a2], a3⟩
  · rename_i hge
    have h0 : i = G.length := by
      rcases Nat.lt_or_ge (i - G.length) 1 with h | h
      · omega
      · rw [List.getElem?_eq_none (by simpa using h)] at hi; cases hi
    subst h0
    simp at hi; subst hi
    obtain ⟨p, hp, hb⟩ := h2 0 A rfl
    refine ⟨p, hp, fun b o hbo => ?_⟩
    obtain ⟨a1, a2, a3⟩ := hb b o hbo
    exact ⟨a1, by simp [a2], a3⟩
theorem Sat.rotB {A : Ch} {w : World} (s : Sat w0 (G ++ [A]) w) : Sat w0 (A :: G) w := by
  obtain ⟨e, own, h2⟩ := s
  refine ⟨e, fun b => if own b = G.length then 0 else own b + 1, fun i C hi => ?_⟩
  cases i with
  | zero =>
    simp at hi; subst hi
    obtain ⟨p, hp, hb⟩ := h2 G.length A (by simp)
    refine ⟨p, hp, fun b o hbo => ?_⟩
    obtain ⟨a1, a2, a3⟩ := hb b o hbo
    exact ⟨a1, by simp [a2], a3⟩
  | succ i =>
    have hi' : G[i]? = some C := by simpa using hi
    have hlt := (List.getElem?_eq_some_iff.1 hi').1
    obtain ⟨p, hp, hb⟩ := h2 i C (by rw [List.getElem?_append_left hlt]; exact hi')
    refine ⟨p, hp, fun b o hbo => ?_⟩
    obtain ⟨a1, a2, a3⟩ := hb b o hbo
    refine ⟨a1, ?_, a3⟩
    show (if own b = G.length then 0 else own b + 1) = i + 1
    rw [a2, if_neg (by omega)]
def stars : List Ch → Ch
  | [] => fun _ => True
  | A :: L => star A (stars L)
theorem Sat.unstars {w : World} : ∀ (L : List Ch) {G : List Ch}, Sat w0 (stars L :: G) w → Sat w0 (G ++ L) w
  | [], G, s => by rw [List.append_nil]; exact s.rot.drop1
  | A :: L, G, s => by
    have h1 : Sat w0 ((stars L :: G) ++ [A]) w := (Sat.unstar (A := A) (B := stars L) s).rot
    have h2 := Sat.unstars L (G := G ++ [A]) (by simpa using h1)
    simpa using h2
theorem Sat.toStars {w : World} : ∀ (L : List Ch) {G : List Ch}, Sat w0 (G ++ L) w → Sat w0 (stars L :: G) w
  | [], G, s => by
    rw [List.append_nil] at s
    exact (s.addEmpty (stars []) (fun p => trivial)).rotB
  | A :: L, G, s => by
    have h1 := Sat.toStars L (G := G ++ [A]) (by simpa using s)
    have h2 : Sat w0 ((stars L :: G) ++ [A]) w := by simpa using h1
    exact h2.rotB.toStar
theorem Sat.openS {w : World} {L : List Ch} {F : Ch} (s : Sat w0 [stars L, F] w) : Sat w0 (L ++ [F]) w := (Sat.unstars L s).rot
theorem Sat.shutS {w : World} {L : List Ch} {F : Ch} (s : Sat w0 (L ++ [F]) w) : Sat w0 [stars L, F] w := Sat.toStars L (G := [F]) s.rotB
theorem Sat.shut1 {w : World} {L : List Ch} (s : Sat w0 L w) : Sat w0 [stars L] w := Sat.toStars L (G := []) s

/-- The chunks at these places. -/
def pk (G : List Ch) (f : List Nat) : List Ch := f.filterMap (G[·]?)
theorem T.drawnS {id : Nat} (f : List Nat) {ops : Array Oper} (plan : List (Nat × Kd)) (hm : P.follows .mixedOrders = true) (hp : (planOk ops (Array.replicate ops.size false) plan && noSel ops && plan.length == ops.size && (plan.all fun (i, k) => plan.lookup i == some k)) = true)
    {H : List Ch} (hH : pk G f = H) (h : RD P n ops Q plan (Sat w0 H) plan fr (Sat w0 G)) : T P n (.region id ops true) fr (Sat w0 G) Q := by
  exact T.drawn _ plan hm (ClE.sat _ _) hp h
end
end Go.Vg
