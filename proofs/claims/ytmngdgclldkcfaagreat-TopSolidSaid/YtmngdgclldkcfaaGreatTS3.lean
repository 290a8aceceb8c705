/-
  TopSolid as a plain function: whatever the numbers are, one of the cases. No condition.
-/
import Derived.Test.YtmngdgclldkcfaaGreatTS2
set_option linter.unusedVariables false
set_option linter.unusedSimpArgs false
namespace Go.Proofs.YtmngdgclldkcfaaGreat
open Go.Vg
theorem within_nat (i:Int) {n:Nat} (h:1 ≤ n∧n ≤ 1000000):∃ a:Nat,a < n∧thronglaw0_Within i n = some (a:Int)∧thronglaw0_Within (a:Int) n = some (a:Int):=by
 have e0:(n:Int) % 18446744073709551616 = n:=Int.emod_eq_of_lt (by omega) (by omega)
 have h1:=Int.emod_nonneg i (b:=18446744073709551616) (by decide)
 have h2:=Int.emod_nonneg (i % 18446744073709551616) (b:=(n:Int)) (by omega)
 have h3:=Int.emod_lt_of_pos (i % 18446744073709551616) (b:=(n:Int)) (by omega)
 obtain ⟨a,ha⟩:=Int.eq_ofNat_of_zero_le h2
 have e1:(a:Int) % 18446744073709551616 = a:=Int.emod_eq_of_lt (by omega) (by omega)
 have e2:(a:Int) % (n:Int) = a:=Int.emod_eq_of_lt (by omega) (by omega)
 refine ⟨a,by omega,?_,?_⟩
 ·unfold thronglaw0_Within
  rw [e0,ha,if_pos ⟨h1,by omega⟩,if_pos (by unfold I64; omega)]
 ·unfold thronglaw0_Within
  rw [e0,e1,e2,if_pos ⟨by omega,by omega⟩,if_pos (by unfold I64; omega)]
theorem solid_of (p:Crd) {a b k:Nat} (ha:thronglaw0_Within p.n 5 = some (a:Int)) (ha':thronglaw0_Within (a:Int) 5 = some (a:Int)) (hb:thronglaw0_Within p.to ((5 + (a:Int)) - 4) = thronglaw0_Within (b:Int) ((5 + (a:Int)) - 4)) (hk:thronglaw0_Within p.kind 3 = thronglaw0_Within (k:Int) 3):throngtop_TopSolid p = solB a b k:=by
 unfold solB throngtop_TopSolid
 show Option.bind (thronglaw0_Within p.n 5) _ = Option.bind (thronglaw0_Within (a:Int) 5) _
 rw [ha,ha',Option.bind_some,Option.bind_some,hb,hk]
theorem solid_true (p:Crd):throngtop_TopSolid p = some true:=by
 obtain ⟨a,a5,ha,ha'⟩:=within_nat p.n (n:=5) (by decide)
 obtain ⟨k,k3,hk,hk'⟩:=within_nat p.kind (n:=3) (by decide)
 obtain ⟨b,ba,hb,hb'⟩:=within_nat p.to (n:=a + 1) (by omega)
 have e:((a + 1:Nat):Int) = (5 + (a:Int)) - 4:=by omega
 rw [e] at hb hb'
 rw [solid_of p ha ha' (hb.trans hb'.symm) (hk.trans hk'.symm)]
 obtain rfl | rfl | rfl | rfl | rfl:a = 0 ∨ a = 1 ∨ a = 2 ∨ a = 3 ∨ a = 4:=by omega
 ·exact sol0 k k3 b ba
 ·exact sol1 k k3 b ba
 ·exact sol2 k k3 b ba
 ·exact sol3 k k3 b ba
 ·exact sol4 k k3 b ba
end Go.Proofs.YtmngdgclldkcfaaGreat
