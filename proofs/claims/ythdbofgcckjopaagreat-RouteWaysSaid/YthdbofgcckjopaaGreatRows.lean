/-
  No cell of these rows narrows 'for every input' (looked for: loops, veiled, ifaces, maps, wideKeys, modest, calm, conditions, laid).
  DERIVED. THE GIVEN ROWS OF THIS SEAT. 5 by the template 'for every input the law returns true; each argument reads behind the call as it read before'; 0 by the template 'total and deterministic' (their statements: YthdbofgcckjopaaGreatTotals.lean).
  GIVEN WITH THE SEED: the statements are not yours to turn. If you find one false, say at which input.
  Laid BY PROGRAM, IN A SANDBOX (cutbox-rows.mjs): the forced cells as the released guide's own fill.sh prints them over the translation 7e64e4cd07723c1e… (all of the seat's roots in one cut). By AI agents, Wed Nov 11 2026. No macro, syntax, notation, axiom, sorry.
-/
import Derived.Test.YthdbofgcckjopaaGreatChecked
import GoSem.Claim
import GoSem.ClaimJoined
import GoSem.ClaimMapViews
import Derived.JoinedTies
import Derived.KernelRfl
namespace Go.Proofs.YthdbofgcckjopaaGreat
/- THE CELL 'sum', in the pinned program and in every row, IS THE sha256 OF THE DUMP (.gsa) THAT YthdbofgcckjopaaGreatProg.lean LOADS. Nothing in Lean hashes anything: it is a label: what it is worth is what the hold of that sum in a sandbox is worth. -/
noncomputable def Tryz.pinned : Pinned := { name := "ythdbofgcckjopaagreat", sum := "7e64e4cd07723c1ed92a7c29d0e8942cc465bded6e98e4bf0ce4d8b57a085e2d", checked := Tryz.checked }
namespace Rows
def none {H : Type} : Left H := { results := [], args := [] }

/-- 'thronglaw18.FieldsExact': WHATEVER THE INPUT: true; the input reads as it did. -/
def fieldsExactSpec : ChangeSpec := { name := "fieldsExact", fn := fun _ => fun
  | [d] => { results := [.lit (.bool true)], args := [d] }
  | _ => none }
def fieldsExactRow : OpenClaim := { program := "ythdbofgcckjopaagreat", sum := "7e64e4cd07723c1ed92a7c29d0e8942cc465bded6e98e4bf0ce4d8b57a085e2d", func := "throng/thronglaw18.FieldsExact", spec := "fieldsExact", inPlace := ["sync/atomic.LoadUint32", "(*internal/sync.Mutex).Lock", "internal/race.Disable", "sync/atomic.CompareAndSwapInt32", "internal/race.Enable", "internal/race.Acquire", "(*internal/sync.Mutex).lockSlow", "internal/sync.runtime_canSpin", "internal/sync.runtime_doSpin", "internal/sync.throw", "internal/sync.runtime_nanotime", "internal/sync.runtime_SemacquireMutex", "sync/atomic.AddInt32", "(*internal/sync.Mutex).Unlock", "internal/race.ReleaseMerge", "(*internal/sync.Mutex).unlockSlow", "internal/sync.fatal", "internal/sync.runtime_Semrelease", "sync/atomic.StoreUint32", "sync/atomic.AddInt64", "slices.overlaps[int]", "sync/atomic.LoadInt64"], unfollowed := true, recurses := true, apart := false }
def FieldsExactSaid : Prop := fieldsExactRow.holds Tryz.pinned (OpenSpec.ofChange fieldsExactSpec)

/-- ITS FALSE NEIGHBOUR: 'it returns false'. Refute it at one input. -/
def fieldsExactWrong : ChangeSpec := { name := "fieldsExact", fn := fun _ => fun
  | [d] => { results := [.lit (.bool false)], args := [d] }
  | _ => none }
def FieldsExactWrongFalsely : Prop := fieldsExactRow.holds Tryz.pinned (OpenSpec.ofChange fieldsExactWrong)

/-- 'thronglaw18.FieldsOnce': WHATEVER THE INPUT: true; the input reads as it did. -/
def fieldsOnceSpec : ChangeSpec := { name := "fieldsOnce", fn := fun _ => fun
  | [d] => { results := [.lit (.bool true)], args := [d] }
  | _ => none }
def fieldsOnceRow : OpenClaim := { program := "ythdbofgcckjopaagreat", sum := "7e64e4cd07723c1ed92a7c29d0e8942cc465bded6e98e4bf0ce4d8b57a085e2d", func := "throng/thronglaw18.FieldsOnce", spec := "fieldsOnce", inPlace := ["sync/atomic.LoadInt64", "sync/atomic.LoadUint32", "(*internal/sync.Mutex).Lock", "internal/race.Disable", "sync/atomic.CompareAndSwapInt32", "internal/race.Enable", "internal/race.Acquire", "(*internal/sync.Mutex).lockSlow", "internal/sync.runtime_canSpin", "internal/sync.runtime_doSpin", "internal/sync.throw", "internal/sync.runtime_nanotime", "internal/sync.runtime_SemacquireMutex", "sync/atomic.AddInt32", "(*internal/sync.Mutex).Unlock", "internal/race.ReleaseMerge", "(*internal/sync.Mutex).unlockSlow", "internal/sync.fatal", "internal/sync.runtime_Semrelease", "sync/atomic.StoreUint32", "sync/atomic.AddInt64", "slices.overlaps[int]"], unfollowed := true, recurses := true, apart := false }
def FieldsOnceSaid : Prop := fieldsOnceRow.holds Tryz.pinned (OpenSpec.ofChange fieldsOnceSpec)

/-- ITS FALSE NEIGHBOUR: 'it returns false'. Refute it at one input. -/
def fieldsOnceWrong : ChangeSpec := { name := "fieldsOnce", fn := fun _ => fun
  | [d] => { results := [.lit (.bool false)], args := [d] }
  | _ => none }
def FieldsOnceWrongFalsely : Prop := fieldsOnceRow.holds Tryz.pinned (OpenSpec.ofChange fieldsOnceWrong)

/-- 'thronglaw14.RouteFinds': WHATEVER THE INPUT: true; the input reads as it did. -/
def routeFindsSpec : ChangeSpec := { name := "routeFinds", fn := fun _ => fun
  | [d] => { results := [.lit (.bool true)], args := [d] }
  | _ => none }
def routeFindsRow : OpenClaim := { program := "ythdbofgcckjopaagreat", sum := "7e64e4cd07723c1ed92a7c29d0e8942cc465bded6e98e4bf0ce4d8b57a085e2d", func := "throng/thronglaw14.RouteFinds", spec := "routeFinds", unfollowed := true, recurses := true, apart := false }
def RouteFindsSaid : Prop := routeFindsRow.holds Tryz.pinned (OpenSpec.ofChange routeFindsSpec)

/-- ITS FALSE NEIGHBOUR: 'it returns false'. Refute it at one input. -/
def routeFindsWrong : ChangeSpec := { name := "routeFinds", fn := fun _ => fun
  | [d] => { results := [.lit (.bool false)], args := [d] }
  | _ => none }
def RouteFindsWrongFalsely : Prop := routeFindsRow.holds Tryz.pinned (OpenSpec.ofChange routeFindsWrong)

/-- 'thronglaw14.RouteSteps': WHATEVER THE INPUT: true; the input reads as it did. -/
def routeStepsSpec : ChangeSpec := { name := "routeSteps", fn := fun _ => fun
  | [d] => { results := [.lit (.bool true)], args := [d] }
  | _ => none }
def routeStepsRow : OpenClaim := { program := "ythdbofgcckjopaagreat", sum := "7e64e4cd07723c1ed92a7c29d0e8942cc465bded6e98e4bf0ce4d8b57a085e2d", func := "throng/thronglaw14.RouteSteps", spec := "routeSteps", unfollowed := true, recurses := true, apart := false }
def RouteStepsSaid : Prop := routeStepsRow.holds Tryz.pinned (OpenSpec.ofChange routeStepsSpec)

/-- ITS FALSE NEIGHBOUR: 'it returns false'. Refute it at one input. -/
def routeStepsWrong : ChangeSpec := { name := "routeSteps", fn := fun _ => fun
  | [d] => { results := [.lit (.bool false)], args := [d] }
  | _ => none }
def RouteStepsWrongFalsely : Prop := routeStepsRow.holds Tryz.pinned (OpenSpec.ofChange routeStepsWrong)

/-- 'thronglaw14.RouteWays': WHATEVER THE INPUT: true; the input reads as it did. -/
def routeWaysSpec : ChangeSpec := { name := "routeWays", fn := fun _ => fun
  | [d] => { results := [.lit (.bool true)], args := [d] }
  | _ => none }
def routeWaysRow : OpenClaim := { program := "ythdbofgcckjopaagreat", sum := "7e64e4cd07723c1ed92a7c29d0e8942cc465bded6e98e4bf0ce4d8b57a085e2d", func := "throng/thronglaw14.RouteWays", spec := "routeWays", unfollowed := true, recurses := true, apart := false }
def RouteWaysSaid : Prop := routeWaysRow.holds Tryz.pinned (OpenSpec.ofChange routeWaysSpec)

/-- ITS FALSE NEIGHBOUR: 'it returns false'. Refute it at one input. -/
def routeWaysWrong : ChangeSpec := { name := "routeWays", fn := fun _ => fun
  | [d] => { results := [.lit (.bool false)], args := [d] }
  | _ => none }
def RouteWaysWrongFalsely : Prop := routeWaysRow.holds Tryz.pinned (OpenSpec.ofChange routeWaysWrong)

/- THE SECOND FORM. 'bulk': how many values and letters a reading holds, each counted each time it is reached (what is shared counts as often as it is met; a slice's spare places count too). A statement '..UptoSaid' is the law's where the arguments, and the package variables that the reading takes, are together of bulk at most 1048576: NARROWER than '..Said'. Prove '..Said' where nothing that the law and all that it calls make is longer than what came in: it says more and counts as full. Else prove '..UptoSaid'. A law counts once. -/
mutual
def uptoBulk {H : Type} : DataW H → Nat
  | .lit (.string bytes) => bytes.length + 1
  | .lit _ => 1
  | .nil => 1
  | .ptr d => uptoBulk d + 1
  | .slice elems spare => uptoBulkAll elems + uptoBulkAll spare + 1
  | .agg parts => uptoBulkAll parts + 1
  | .iface _ d => uptoBulk d + 1
  | .map entries => uptoBulkEntries entries + 1
  | .held _ => 1
def uptoBulkAll {H : Type} : List (DataW H) → Nat
  | [] => 0
  | d :: r => uptoBulk d + uptoBulkAll r
def uptoBulkEntries {H : Type} : List (Lit × DataW H) → Nat
  | [] => 0
  | x :: r => uptoBulkEntry x + uptoBulkEntries r
def uptoBulkEntry {H : Type} : Lit × DataW H → Nat
  | (.string bytes, d) => bytes.length + uptoBulk d + 1
  | (_, d) => uptoBulk d + 1
 end
def uptoSmall : (H : Type) → List (DataW H) → Bool := fun _ ds => decide (uptoBulkAll ds ≤ 1048576)
def OpenSpec.upto (s : _root_.Go.ChangeSpec) : _root_.Go.OpenSpec := { _root_.Go.OpenSpec.ofChange s with cond := some uptoSmall }

/-- 'thronglaw18.FieldsExact', WHERE WHAT IT READS IS OF BULK AT MOST 1048576: true; the input reads as it did. -/
def fieldsExactUptoRow : OpenClaim := { program := "ythdbofgcckjopaagreat", sum := "7e64e4cd07723c1ed92a7c29d0e8942cc465bded6e98e4bf0ce4d8b57a085e2d", func := "throng/thronglaw18.FieldsExact", spec := "fieldsExact", inPlace := ["sync/atomic.LoadUint32", "(*internal/sync.Mutex).Lock", "internal/race.Disable", "sync/atomic.CompareAndSwapInt32", "internal/race.Enable", "internal/race.Acquire", "(*internal/sync.Mutex).lockSlow", "internal/sync.runtime_canSpin", "internal/sync.runtime_doSpin", "internal/sync.throw", "internal/sync.runtime_nanotime", "internal/sync.runtime_SemacquireMutex", "sync/atomic.AddInt32", "(*internal/sync.Mutex).Unlock", "internal/race.ReleaseMerge", "(*internal/sync.Mutex).unlockSlow", "internal/sync.fatal", "internal/sync.runtime_Semrelease", "sync/atomic.StoreUint32", "sync/atomic.AddInt64", "slices.overlaps[int]", "sync/atomic.LoadInt64"], unfollowed := true, recurses := true, apart := false, narrowed := true }
def FieldsExactUptoSaid : Prop := fieldsExactUptoRow.holds Tryz.pinned (OpenSpec.upto fieldsExactSpec)

/-- 'thronglaw18.FieldsOnce', WHERE WHAT IT READS IS OF BULK AT MOST 1048576: true; the input reads as it did. -/
def fieldsOnceUptoRow : OpenClaim := { program := "ythdbofgcckjopaagreat", sum := "7e64e4cd07723c1ed92a7c29d0e8942cc465bded6e98e4bf0ce4d8b57a085e2d", func := "throng/thronglaw18.FieldsOnce", spec := "fieldsOnce", inPlace := ["sync/atomic.LoadInt64", "sync/atomic.LoadUint32", "(*internal/sync.Mutex).Lock", "internal/race.Disable", "sync/atomic.CompareAndSwapInt32", "internal/race.Enable", "internal/race.Acquire", "(*internal/sync.Mutex).lockSlow", "internal/sync.runtime_canSpin", "internal/sync.runtime_doSpin", "internal/sync.throw", "internal/sync.runtime_nanotime", "internal/sync.runtime_SemacquireMutex", "sync/atomic.AddInt32", "(*internal/sync.Mutex).Unlock", "internal/race.ReleaseMerge", "(*internal/sync.Mutex).unlockSlow", "internal/sync.fatal", "internal/sync.runtime_Semrelease", "sync/atomic.StoreUint32", "sync/atomic.AddInt64", "slices.overlaps[int]"], unfollowed := true, recurses := true, apart := false, narrowed := true }
def FieldsOnceUptoSaid : Prop := fieldsOnceUptoRow.holds Tryz.pinned (OpenSpec.upto fieldsOnceSpec)

/-- 'thronglaw14.RouteFinds', WHERE WHAT IT READS IS OF BULK AT MOST 1048576: true; the input reads as it did. -/
def routeFindsUptoRow : OpenClaim := { program := "ythdbofgcckjopaagreat", sum := "7e64e4cd07723c1ed92a7c29d0e8942cc465bded6e98e4bf0ce4d8b57a085e2d", func := "throng/thronglaw14.RouteFinds", spec := "routeFinds", unfollowed := true, recurses := true, apart := false, narrowed := true }
def RouteFindsUptoSaid : Prop := routeFindsUptoRow.holds Tryz.pinned (OpenSpec.upto routeFindsSpec)

/-- 'thronglaw14.RouteSteps', WHERE WHAT IT READS IS OF BULK AT MOST 1048576: true; the input reads as it did. -/
def routeStepsUptoRow : OpenClaim := { program := "ythdbofgcckjopaagreat", sum := "7e64e4cd07723c1ed92a7c29d0e8942cc465bded6e98e4bf0ce4d8b57a085e2d", func := "throng/thronglaw14.RouteSteps", spec := "routeSteps", unfollowed := true, recurses := true, apart := false, narrowed := true }
def RouteStepsUptoSaid : Prop := routeStepsUptoRow.holds Tryz.pinned (OpenSpec.upto routeStepsSpec)

/-- 'thronglaw14.RouteWays', WHERE WHAT IT READS IS OF BULK AT MOST 1048576: true; the input reads as it did. -/
def routeWaysUptoRow : OpenClaim := { program := "ythdbofgcckjopaagreat", sum := "7e64e4cd07723c1ed92a7c29d0e8942cc465bded6e98e4bf0ce4d8b57a085e2d", func := "throng/thronglaw14.RouteWays", spec := "routeWays", unfollowed := true, recurses := true, apart := false, narrowed := true }
def RouteWaysUptoSaid : Prop := routeWaysUptoRow.holds Tryz.pinned (OpenSpec.upto routeWaysSpec)

end Rows
end Go.Proofs.YthdbofgcckjopaaGreat
