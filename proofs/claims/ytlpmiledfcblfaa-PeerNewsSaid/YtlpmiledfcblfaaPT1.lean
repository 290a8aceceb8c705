/-
  PeerNews, as a pure function, is true. For arguments that are Go's.
-/
import Derived.Test.YtlpmiledfcblfaaPG1
import Derived.Test.YtlpmiledfcblfaaVS
set_option linter.unusedVariables false
set_option linter.unusedSimpArgs false
namespace Go.Proofs.Ytlpmiledfcblfaa
open Go.Vg
theorem num28_p (e : Int) : thronglaw28_num e = some e := rfl
theorem wakes28_p : thronglaw28_wakes = some true := by decide +kernel
def newP (a b c : Int) : Per := ⟨a, b, c, 0, c - 1, [], [], List.replicate b.toNat (c - 1), List.replicate b.toNat (c - 1), [], false⟩
theorem new_fin : ∀ a b c : Fin 8, a.val ≤ b.val → (peer_New ((a.val : Int) + 1) ((b.val : Int) + 1) ((c.val : Int) + 1) = some (newP ((a.val : Int) + 1) ((b.val : Int) + 1) ((c.val : Int) + 1), 0) ∧
    throngref27_New ((a.val : Int) + 1) ((b.val : Int) + 1) ((c.val : Int) + 1) = some (newP ((a.val : Int) + 1) ((b.val : Int) + 1) ((c.val : Int) + 1)) ∧
    throngref0_EqPeer (newP ((a.val : Int) + 1) ((b.val : Int) + 1) ((c.val : Int) + 1)) (newP ((a.val : Int) + 1) ((b.val : Int) + 1) ((c.val : Int) + 1)) = some true) := by decide +kernel
theorem new_ok {a b c : Int} (h : (((((1 ≤ b) ∧ (b ≤ 8)) ∧ (1 ≤ a)) ∧ (a ≤ b)) ∧ (1 ≤ c)) ∧ (c ≤ 8)) :
    peer_New a b c = some (newP a b c, 0) ∧ throngref27_New a b c = some (newP a b c) ∧ throngref0_EqPeer (newP a b c) (newP a b c) = some true := by
  have := new_fin ⟨(a - 1).toNat, by omega⟩ ⟨(b - 1).toNat, by omega⟩ ⟨(c - 1).toNat, by omega⟩ (by show (a - 1).toNat ≤ (b - 1).toNat; omega)
  dsimp only at this
  rw [show (((a - 1).toNat : Nat) : Int) + 1 = a by omega, show (((b - 1).toNat : Nat) : Int) + 1 = b by omega, show (((c - 1).toNat : Nat) : Int) + 1 = c by omega] at this
  exact this
def zeroP : Per := ⟨0, 0, 0, 0, 0, [], [], [], [], [], false⟩
theorem may_bad {p : Per} (h : (((((((p.players < 1) ∨ (8 < p.players)) ∨ (p.id < 1)) ∨ (p.players < p.id)) ∨ (p.delay < 1)) ∨ (8 < p.delay)) ∨ (p.turn < 0)) ∨ (1099511627776 < p.turn)) : peer_May p = some false := by
  unfold peer_May
  rw [if_pos h]
theorem new_bad {a b c : Int} (h : ¬ ((((((1 ≤ b) ∧ (b ≤ 8)) ∧ (1 ≤ a)) ∧ (a ≤ b)) ∧ (1 ≤ c)) ∧ (c ≤ 8))) : peer_New a b c = some (zeroP, 1) := by
  have hm : ∀ x y z u v w : Int, ∀ m i : List Inp, ∀ s k : List Int, ∀ hh : List UInt64, ∀ sp : Bool, peer_May ⟨a, b, c, 0, x, m, i, s, k, hh, sp⟩ = some false := fun x y z u v w m i s k hh sp => may_bad (by
    dsimp only
    omega)
  unfold peer_New
  by_cases hb : 1 ≤ b ∧ b ≤ 8
  · rw [if_pos hb]
    have hr : ∀ x : Int, slices_Repeat_Int [x] b = some (List.replicate b.toNat (gi [x] 0)) := fun x => by
      unfold slices_Repeat_Int
      rw [if_pos ⟨rfl, hb.1, by omega⟩]
    rw [hr]
    show Option.bind (some _) _ = _
    rw [Option.bind_some, Option.bind_some, hm _ 0 0 0 0 0, Option.bind_some, if_pos (by rfl)]; rfl
  · rw [if_neg hb, hm _ 0 0 0 0 0, Option.bind_some, if_pos (by rfl)]; rfl
theorem eq_zero : throngref0_EqPeer zeroP zeroP = some true := by decide +kernel
theorem news_law {l : List Pr3} : thronglaw28_PeerNews l = some true := by
  unfold thronglaw28_PeerNews
  refine Ok.eq (Ok.bind (scanOk (a := 0) (n := min l.length 40) (fun _ => True) (fun _ => False) (by omega) (fun v v0 v1 _ => ?_) (fun v v0 v1 => by rw [if_neg (by omega)])) ?_)
  · rw [if_pos (by omega)]
    have hv : 0 ≤ v ∧ v < (l.length : Int) := by omega
    refine Ok.gd hv (Ok.gd hv (Ok.gd hv ?_))
    obtain ⟨a, b, c⟩ := gi l v
    dsimp only
    by_cases h : (((((1 ≤ b) ∧ (b ≤ 8)) ∧ (1 ≤ a)) ∧ (a ≤ b)) ∧ (1 ≤ c)) ∧ (c ≤ 8)
    · obtain ⟨e1, e2, e3⟩ := new_ok h
      obtain ⟨p, hp⟩ : ∃ p, p = newP a b c := ⟨_, rfl⟩
      rw [← hp] at e1 e2 e3
      refine Ok.bindE (x := ((0 : Int), p.id, p.players, p.delay, p.turn, p.said, p.split, p.mine, p.inputs, p.has, p.acked, p.hashes)) (by rw [if_pos h, e2]; rfl) ?_
      dsimp only
      rw [e1, bsome, num28_p, bsome]
      refine Ok.bindE (x := false) ?_ ?_
      · rw [if_neg (by simp)]
        show Option.bind (throngref0_EqPeer p p) _ = _
        rw [e3]; rfl
      · rw [if_neg (by simp)]
        exact Ok.gd (by unfold I64; omega) (Ok.ret ⟨rfl, trivial⟩)
    · refine Ok.bindE (x := ((1 : Int), 0, 0, 0, 0, 0, false, [], [], [], [], [])) (by rw [if_neg h]) ?_
      dsimp only
      rw [new_bad h, bsome, num28_p, bsome]
      refine Ok.bindE (x := false) ?_ ?_
      · rw [if_neg (by simp)]
        show Option.bind (throngref0_EqPeer zeroP zeroP) _ = _
        rw [eq_zero]; rfl
      · rw [if_neg (by simp)]
        exact Ok.gd (by unfold I64; omega) (Ok.ret ⟨rfl, trivial⟩)
  · rintro (_ | _) hx
    · dsimp only [Ex.then]
      rw [wakes28_p, bsome]; exact Ok.ret rfl
    · exact hx.elim
end Go.Proofs.Ytlpmiledfcblfaa
