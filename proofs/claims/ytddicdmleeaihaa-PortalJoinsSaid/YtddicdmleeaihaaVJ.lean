/-
  copy(s[o:], l) into a row; numbers without a sign; results that lie in cells. For every program whose tables say what the lemma asks. A library of this claim's own.
-/
import Derived.Test.YtddicdmleeaihaaVI
import Derived.Laws.CopyRow
import Derived.Laws.Shifts
set_option linter.unusedSimpArgs false
set_option linter.unusedVariables false
namespace Go.Vg
open Enc (R)

section
variable {P : Program} {n : Nat} {fr : Fr} {dst : Option Tmp} {ty : TypeId} {pos : String} {aft : Array Edge} {g : Option (Nat × Bool)} {S : As} {w0 : World} {G : List Ch} {Q : Po}
/-! ### Numbers without a sign -/
theorem wrapU (a : Int) (h : 0 ≤ a ∧ a < 18446744073709551616) : IntKind.u64.wrap a = a := by
  simp [IntKind.wrap, IntKind.bits, IntKind.signed]; omega
theorem Pu.addU {xt yt : TypeId} {x y : Operand} {a b : Int} (hx : ev fr x = some (.int .u64 a)) (hy : ev fr y = some (.int .u64 b)) (h : 0 ≤ a + b ∧ a + b < 18446744073709551616) :
    Pu P n ⟨dst, .binOp .add xt x y yt, ty, pos, aft, g⟩ fr (.int .u64 (a + b)) := Pu.bin hx hy (by rw [binI, wrapU _ h])
theorem Pu.mulU {xt yt : TypeId} {x y : Operand} {a b : Int} (hx : ev fr x = some (.int .u64 a)) (hy : ev fr y = some (.int .u64 b)) (h : 0 ≤ a * b ∧ a * b < 18446744073709551616) :
    Pu P n ⟨dst, .binOp .mul xt x y yt, ty, pos, aft, g⟩ fr (.int .u64 (a * b)) := Pu.bin hx hy (by rw [binI, wrapU _ h])
theorem and32 (a : Int) (h : 0 ≤ a ∧ a < 18446744073709551616) : (((BitVec.ofInt 64 a &&& BitVec.ofInt 64 4294967295).toNat : Nat) : Int) = a % 4294967296 := by
  obtain ⟨m, rfl⟩ := Int.eq_ofNat_of_zero_le h.1
  have hm : m < 18446744073709551616 := by omega
  have e1 : (BitVec.ofInt 64 (m : Int)).toNat = m := by simp [BitVec.toNat_ofInt]; omega
  have e2 : (BitVec.ofInt 64 4294967295).toNat = 4294967295 := by decide
  rw [BitVec.toNat_and, e1, e2]
  have := Nat.and_two_pow_sub_one_eq_mod m 32
  simp only [show (2 : Nat) ^ 32 = 4294967296 from rfl] at this
  rw [show (4294967296 : Nat) - 1 = 4294967295 from rfl] at this
  rw [this]; omega
theorem Pu.andU {xt yt : TypeId} {x y : Operand} {a : Int} (hx : ev fr x = some (.int .u64 a)) (hy : ev fr y = some (.int .u64 4294967295)) (h : 0 ≤ a ∧ a < 18446744073709551616) :
    Pu P n ⟨dst, .binOp .and xt x y yt, ty, pos, aft, g⟩ fr (.int .u64 (a % 4294967296)) := Pu.bin hx hy (by
  have e := and32 a h
  rw [binI, show IntKind.u64.bits = 64 from rfl, e, wrapU _ (by omega)])
theorem Pu.shrU {xt yt : TypeId} {x y : Operand} {a : Int} (hx : ev fr x = some (.int .u64 a)) (hy : ev fr y = some (.int .u64 32)) :
    Pu P n ⟨dst, .binOp .shr xt x y yt, ty, pos, aft, g⟩ fr (.int .u64 (a / 4294967296)) := fun ac kn w => by
  have h := shift_shr_any .u64 .u64 a 32 (by decide)
  simp [execOp, kn.ev hx, kn.ev hy, binOp, eqGuard, h, IntKind.bits]

theorem Pu.convU {x : Operand} {s d : TypeId} {k : IntKind} {a : Int} (hs : (P.underlying s).isSome = true) (hd : P.underlying d = some (.int .u64)) (hx : ev fr x = some (.int k a)) (h : 0 ≤ a ∧ a < 18446744073709551616) :
    Pu P n ⟨dst, .convert s d x, ty, pos, aft, g⟩ fr (.int .u64 a) := by
  have := Pu.conv (n := n) (dst := dst) (ty := ty) (pos := pos) (aft := aft) (g := g) hs hd hx
  rwa [wrapU a h] at this
theorem Pu.convS {x : Operand} {s d : TypeId} {k : IntKind} {a : Int} (hs : (P.underlying s).isSome = true) (hd : P.underlying d = some (.int .i64)) (hx : ev fr x = some (.int k a)) (h : -9223372036854775808 ≤ a ∧ a ≤ 9223372036854775807) :
    Pu P n ⟨dst, .convert s d x, ty, pos, aft, g⟩ fr (.int .i64 a) := by
  have := Pu.conv (n := n) (dst := dst) (ty := ty) (pos := pos) (aft := aft) (g := g) hs hd hx
  rwa [IntWalk.i64_in a h] at this
theorem cutP_lt {b o cap l sz : Nat} (h : cap ≠ l) : cutP (some ⟨b, o, none⟩) cap l sz = some ⟨b, o + l * sz, none⟩ := by
  simp [cutP, h, add_lit]
theorem rep_step {α : Type} {x z : α} {c r m : Nat} (h1 : m ≤ c) (h2 : m ≤ r) :
    (List.replicate c x ++ List.replicate r z).take c ++ ((List.replicate c x ++ List.replicate r z).take c).take m ++ (List.replicate c x ++ List.replicate r z).drop (c + m) = List.replicate (c + m) x ++ List.replicate (r - m) z := by
  have e1 : (List.replicate c x ++ List.replicate r z).take c = List.replicate c x := by
    rw [List.take_append_of_le_length (by simp)]; simp
  have e2 : (List.replicate c x ++ List.replicate r z).drop (c + m) = List.replicate (r - m) z := by
    rw [List.drop_append]; simp
  rw [e1, e2, List.take_replicate, Nat.min_eq_left h1, List.replicate_append_replicate]

theorem run_copy_list {w : World} {t e sz by' gg o dl dc m sl sc : Nat} {p : Option Addr} {cur : Array Value} {et : TypeId} {news : List Value} (ht : slTy P t = some (e, sz, by')) (hg : w.heap[gg]? = some (.cells cur et (0, 0)))
    (hm : Nat.min sl dl = m) (hl : news.length = m * sz) (hsrc : news = [] ∨ ∃ a, p = some a ∧ ∀ j v, news[j]? = some v → w.cell? (a.add j) = some v) (hfit : o + news.length ≤ cur.size) (h1 : ∀ v ∈ news, v.oneCell' = true) :
    (Builtin.copy_ #[t, t] ty #[.slice (some ⟨gg, o, none⟩) dl dc, .slice p sl sc]).run P w = .ok (goInt m) (w.setRow gg (cur.toList.take o ++ news ++ cur.toList.drop (o + news.length)).toArray) := by
  obtain ⟨h1', inf, h2, rfl, _⟩ := slTy_spec ht
  have hst := run_storeCells_at (P := P) gg o et news 0 cur w hg (by simpa using hfit) h1
  have hld : (Builtin.firstCells inf.size m (.slice p sl sc)).run P w = .ok news.toArray w := by
    cases p with
    | none =>
      have : news = [] := by
        rcases hsrc with h | ⟨a, ha, _⟩
        · exact h
        · cases ha
      subst this; rfl
    | some a =>
      have hq : ∀ j v, news[j]? = some v → w.cell? (a.add j) = some v := by
        rcases hsrc with h | ⟨a', ha, hc⟩
        · subst h; intro j v hj; simp at hj
        · cases ha; exact hc
      have := run_loadCells_list (P := P) w a news hq
      simp only [Builtin.firstCells]
      rw [← hl]; exact this
  simp only [Nat.add_zero] at hst
  subst hm
  simp [Builtin.copy_, run_underlying h1', Builtin.lenOf, run_sizeOf_info h2, hld, hst]

theorem Sd.copyR {α : Type} [Enc α] [Flat α] (k : Nat) {B : Hp} {e t by' gg off o len cap dl dc sl sc : Nat} {p : Option Addr} {x y : Operand} {xs ys : List α} (hk : G[k]? = some (row B e (.slice (some ⟨gg, 0, none⟩) len cap) xs))
    (ht : slTy P t = some (e, Enc.sz α, by')) (hx : ev fr x = some (.slice (some ⟨gg, off, none⟩) dl dc)) (hy : ev fr y = some (.slice p sl sc)) (hR : Rd (Sat w0 G) ys [.slice p sl sc]) (ho : off = o * Enc.sz α) (hfit : o + Nat.min sl dl ≤ xs.length) :
    Sd P n ⟨dst, .call { callee := .builtin .copy, args := #[x, y], argTypes := #[t, t] }, ty, pos, aft, g⟩ fr (Sat w0 G) (fun _ : Unit => .int .i64 (Nat.min sl dl : Nat))
      (fun _ => Sat w0 (G.set k (row B e (.slice (some ⟨gg, 0, none⟩) len cap) (xs.take o ++ ys.take (Nat.min sl dl) ++ xs.drop (o + Nat.min sl dl))))) := fun a w kn s => by
  obtain ⟨p0, hp0, hl0, hb0⟩ := s.get k hk
  rcases hp0 with ⟨hv', _⟩ | ⟨g', cap', cs, sp, hv', hgp, hlc, hcm, hlen, hr⟩
  · cases hv'
  simp only [Value.slice.injEq, Option.some.injEq, Addr.mk.injEq, and_true, true_and] at hv'
  obtain ⟨rfl, rfl, rfl⟩ := hv'
  have hcl := hr.length
  obtain ⟨p', cap', e', sl1, sl2, sl3⟩ := hR w s
  simp only [List.cons.injEq, Value.slice.injEq, and_true] at e'
  obtain ⟨rfl, rfl, rfl⟩ := e'
  obtain ⟨m, hm⟩ : ∃ m, m = Nat.min ys.length dl := ⟨_, rfl⟩
  have hmy : m ≤ ys.length := by rw [hm]; exact Nat.min_le_left _ _
  rw [← hm] at hfit ⊢
  have hnews : ∃ news : List Value, RF (hpOf w) (ys.take m) news ∧ (news = [] ∨ ∃ a, p = some a ∧ ∀ j v, news[j]? = some v → w.cell? (a.add j) = some v) := by
    rcases sl3 with rfl | ⟨b, oo, c2, rfl, hr2, ha2⟩
    · exact ⟨[], by simp [RF], .inl rfl⟩
    · refine ⟨c2.take (m * Enc.sz α), hr2.take m, .inr ⟨_, rfl, fun j v hj => ?_⟩⟩
      rw [List.getElem?_take] at hj
      split at hj
      · rw [add_lit]; exact ha2.cell hj
      · cases hj
  obtain ⟨news, hrn, hsrc⟩ := hnews
  have hnl : news.length = m * Enc.sz α := by rw [hrn.length, List.length_take, Nat.min_eq_left hmy]
  have hsum : o * Enc.sz α + m * Enc.sz α ≤ xs.length * Enc.sz α := by rw [← Nat.add_mul]; exact Nat.mul_le_mul_right _ hfit
  have hrun := run_copy_list (P := P) (ty := ty) (dc := dc) (sc := sc) (dl := dl) (o := o * Enc.sz α) ht (hl0 _ _ hgp) hm.symm hnl hsrc (by simp only [List.size_toArray, List.length_append]; omega) hrn.one
  subst ho
  have hex : (execOp a.eval ⟨dst, .call { callee := .builtin .copy, args := #[x, y], argTypes := #[t, t] }, ty, pos, aft, g⟩).run P w = .ok (.value (goInt m)) (w.setRow gg ((cs ++ sp).toArray.toList.take (o * Enc.sz α) ++ news ++ (cs ++ sp).toArray.toList.drop (o * Enc.sz α + news.length)).toArray) := by
    simp [execOp, resolve, invoke, builtin, kn.ev hx, kn.ev hy, hrun]
  rw [hex]
  refine ⟨(), rfl, ?_⟩
  refine s.turn k hk _ rfl rfl rfl (by simp) fun p hp hlp hb => ?_
  rcases hp with ⟨hv'', _⟩ | ⟨g', cap', cs', sp', hv'', hgp', hlc', hcm', hlen', hr'⟩
  · cases hv''
  simp only [Value.slice.injEq, Option.some.injEq, Addr.mk.injEq, and_true, true_and] at hv''
  obtain ⟨rfl, rfl, rfl⟩ := hv''
  have he : cs' = cs ∧ sp' = sp := by
    have h1 := hlp _ _ hgp'
    have h2 : w.heap[gg]? = some (.cells (cs ++ sp).toArray e (0, 0)) := hl0 _ _ hgp
    have h3 : w.heap[gg]? = some (.cells (cs' ++ sp').toArray e (0, 0)) := h1
    rw [h2] at h3
    have h4 : cs ++ sp = cs' ++ sp' := by simpa using h3
    have h5 := congrArg (List.take cs.length) h4
    rw [List.take_left, hcl, ← hr'.length, List.take_left] at h5
    have h6 := congrArg (List.drop cs.length) h4
    rw [List.drop_left, hcl, ← hr'.length, List.drop_left] at h6
    exact ⟨h5.symm, h6.symm⟩
  obtain ⟨rfl, rfl⟩ := he
  have harr : (cs' ++ sp').take (o * Enc.sz α) ++ news ++ (cs' ++ sp').drop (o * Enc.sz α + news.length) = (cs'.take (o * Enc.sz α) ++ news ++ cs'.drop ((o + m) * Enc.sz α)) ++ sp' := by
    rw [hnl, ← Nat.add_mul, List.take_append_of_le_length (by omega), List.drop_append_of_le_length (by rw [Nat.add_mul]; omega)]
    simp [List.append_assoc]
  simp only [List.toList_toArray] at *
  rw [harr]
  refine ⟨fun d hd hdn => setRow_other w gg d _ (fun e' => by rw [e', hgp'] at hdn; cases hdn), fun d => if d = gg then some (.cells ((cs'.take (o * Enc.sz α) ++ news ++ cs'.drop ((o + m) * Enc.sz α)) ++ sp').toArray e (0, 0)) else p d, .inr ⟨gg, cap, cs'.take (o * Enc.sz α) ++ news ++ cs'.drop ((o + m) * Enc.sz α), sp', ?_, by simp, ?_, hcm, ?_, ?_⟩, fun d o' hdo => ?_⟩
  · congr 1
    simp only [List.length_append, List.length_take, List.length_drop]; omega
  · simp only [List.length_append, List.length_take, List.length_drop]; omega
  · simp only [List.length_append, List.length_take, List.length_drop, hnl] at hlen' ⊢
    rw [Nat.add_mul]; omega
  · have hoff : Hp.off (fun d => if d = gg then some (.cells ((cs'.take (o * Enc.sz α) ++ news ++ cs'.drop ((o + m) * Enc.sz α)) ++ sp').toArray e (0, 0)) else p d) gg = p.off gg := by
      funext d; unfold Hp.off; split <;> simp_all
    rw [hoff]
    exact ((hr'.take o).append hrn.any).append (hr'.drop (o + m))
  · dsimp only at hdo
    split at hdo
    · rename_i hdb; subst hdb; cases hdo
      exact ⟨.inl (by rw [hgp']; simp), setRow_heap w d _ _ e (0, 0) (hlp _ _ hgp')⟩
    · rename_i hdb
      exact ⟨.inl (by rw [hdo]; simp), by rw [setRow_other w gg d _ hdb]; exact hlp _ _ hdo⟩
end
end Go.Vg
