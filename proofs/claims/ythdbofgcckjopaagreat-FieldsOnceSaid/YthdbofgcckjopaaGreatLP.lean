/-
  Fields as a structure: the memory they own, and what their functions compute, as pure functions. No condition.
-/
import Derived.Test.YthdbofgcckjopaaGreatLH
import Derived.Test.YthdbofgcckjopaaGreatOC
import Derived.Test.YthdbofgcckjopaaGreatW3
set_option linter.unusedVariables false
set_option linter.unusedSimpArgs false
set_option maxRecDepth 20000
namespace Go.Proofs.YthdbofgcckjopaaGreat
open Go.Vg
open Enc (R)
structure Fld where
  c : Cach
  made : Int
  has : Bool
  g : Grd
  l : List Bld
  nets : List (Int × Net)
  ways : List (Int × List Int)
  count : Int
  deriving Inhabited
/-! ### Maps told twice: where, and what -/
section
variable {α β : Type}
def mapV (f : α → β) (L : List (Int × α)) : List (Int × β) := L.map fun e => (e.1, f e.2)
theorem kget_mapV (f : α → β) (L : List (Int × α)) (k : Int) : kget (mapV f L) k = (kget L k).map f := by
  induction L with
  | nil => rfl
  | cons a L ih =>
    obtain ⟨a, b⟩ := a
    show (if a = k then some (f b) else kget (mapV f L) k) = _
    by_cases h : a = k
    · rw [if_pos h]; simp [kget, h]
    · rw [if_neg h, ih]; simp [kget, h]
theorem kput_mapV (f : α → β) (L : List (Int × α)) (k : Int) (v : α) : kput (mapV f L) k (f v) = mapV f (kput L k v) := by
  induction L with
  | nil => rfl
  | cons a L ih =>
    obtain ⟨a, b⟩ := a
    show (if a = k then (k, f v) :: mapV f L else (a, f b) :: kput (mapV f L) k (f v)) = _
    by_cases h : a = k
    · rw [if_pos h]; simp [kput, h, mapV]
    · rw [if_neg h, ih]; simp [kput, h, mapV]
theorem kget_mem {L : List (Int × α)} {k : Int} {v : α} (h : kget L k = some v) : (k, v) ∈ L := by
  induction L with
  | nil => cases h
  | cons a L ih =>
    obtain ⟨a, b⟩ := a
    by_cases e : a = k
    · simp [kget, e] at h; subst h; subst e; exact List.mem_cons_self ..
    · simp [kget, e] at h; exact List.mem_cons_of_mem _ (ih h)
theorem mem_kput {L : List (Int × α)} {k : Int} {v : α} {e : Int × α} (h : e ∈ kput L k v) : e = (k, v) ∨ (e ∈ L ∧ (kget L k = none → e.1 ≠ k)) := by
  induction L with
  | nil => simp [kput] at h; exact .inl h
  | cons a L ih =>
    obtain ⟨a, b⟩ := a
    by_cases e' : a = k
    · simp [kput, e'] at h
      rcases h with h | h
      · exact .inl h
      · exact .inr ⟨List.mem_cons_of_mem _ h, fun hn => by simp [kget, e'] at hn⟩
    · simp [kput, e'] at h
      rcases h with h | h
      · subst h; exact .inr ⟨List.mem_cons_self .., fun _ => e'⟩
      · rcases ih h with h | ⟨h, hk⟩
        · exact .inl h
        · exact .inr ⟨List.mem_cons_of_mem _ h, fun hn => hk (by simpa [kget, e'] using hn)⟩
end
/-! ### What was reckoned, where it stands -/
def NetB (H : Hp) (n : Nat) (x : Net) : Prop := ∃ v0 v1, blk n [.int .i64 x.g.w, .int .i64 x.g.h, v0, .int .i64 x.cls, v1] 101 H ∧ R H x.g.tiles [v0] ∧ R H x.free [v1]
def NetAt (H : Hp) (z : Nat × Net) : Prop := ∃ s n, blk z.1 [.int .u32 1, .int .i32 0, s, .pointer (some ⟨n, 0, none⟩)] 179 H ∧ NetB H n z.2
def WayAt (H : Hp) (z : Nat × List Int) : Prop := ∃ s v, blk z.1 [.int .u32 1, .int .i32 0, s, v] 142 H ∧ R H z.2 [v]
theorem NetB.mono {H K : Hp} (h : H.le K) {n : Nat} {x : Net} : NetB H n x → NetB K n x := fun ⟨v0, v1, a, b, c⟩ => ⟨v0, v1, h _ _ a, Enc.mono h b, Enc.mono h c⟩
theorem NetAt.mono {H K : Hp} (h : H.le K) {z : Nat × Net} : NetAt H z → NetAt K z := fun ⟨s, n, a, b⟩ => ⟨s, n, h _ _ a, b.mono h⟩
theorem WayAt.mono {H K : Hp} (h : H.le K) {z : Nat × List Int} : WayAt H z → WayAt K z := fun ⟨s, v, a, b⟩ => ⟨s, v, h _ _ a, Enc.mono h b⟩
def pt (b : Nat) : Value := .pointer (some ⟨b, 0, none⟩)
def raw {α : Type} (L : List (Int × (Nat × α))) : List (Int × Value) := mapV (fun z => pt z.1) L
def abs {α : Type} (L : List (Int × (Nat × α))) : List (Int × α) := mapV (fun z => z.2) L
structure FldIn (x : Fld) where
  gc : Nat
  gn : Nat
  gw : Nat
  tv : Value
  lv : Value
  hA : Hp
  N : List (Int × (Nat × Net))
  W : List (Int × (Nat × List Int))
  hN : x.nets = abs N
  hW : x.ways = abs W
  aN : ∀ e ∈ N, NetAt hA e.2
  aW : ∀ e ∈ W, WayAt hA e.2
  rt : R hA x.g.tiles [tv]
  rl : R hA x.l [lv]
def Fld_ch (g : Nat) (x : Fld) : Ch := exch fun q : FldIn x => stars (blk g [.pointer (some ⟨q.gc, 0, none⟩), .int .i64 x.made, .bool x.has, .int .i64 x.g.w, .int .i64 x.g.h, q.tv, q.lv, .map (some q.gn), .map (some q.gw), .int .i64 x.count] 79 :: [Cach_ch q.gc x.c, mapL q.gn (raw q.N), mapL q.gw (raw q.W), fz q.hA])
theorem Fld_open {w0 w : World} {G : List Ch} {g : Nat} {x : Fld} (k : Nat) (hk : G[k]? = some (Fld_ch g x)) (h : Sat w0 G w) : ∃ q : FldIn x, Sat w0 (G.set k (blk g [.pointer (some ⟨q.gc, 0, none⟩), .int .i64 x.made, .bool x.has, .int .i64 x.g.w, .int .i64 x.g.h, q.tv, q.lv, .map (some q.gn), .map (some q.gw), .int .i64 x.count] 79) ++ [Cach_ch q.gc x.c, mapL q.gn (raw q.N), mapL q.gw (raw q.W), fz q.hA]) w :=
  Sat.openAt (A := fun q : FldIn x => blk g [.pointer (some ⟨q.gc, 0, none⟩), .int .i64 x.made, .bool x.has, .int .i64 x.g.w, .int .i64 x.g.h, q.tv, q.lv, .map (some q.gn), .map (some q.gw), .int .i64 x.count] 79) (L := fun q : FldIn x => [Cach_ch q.gc x.c, mapL q.gn (raw q.N), mapL q.gw (raw q.W), fz q.hA]) k hk h
theorem Fld_shut {w0 w : World} {G : List Ch} {g : Nat} {x : Fld} (q : FldIn x) (h : Sat w0 (G ++ [blk g [.pointer (some ⟨q.gc, 0, none⟩), .int .i64 x.made, .bool x.has, .int .i64 x.g.w, .int .i64 x.g.h, q.tv, q.lv, .map (some q.gn), .map (some q.gw), .int .i64 x.count] 79, Cach_ch q.gc x.c, mapL q.gn (raw q.N), mapL q.gw (raw q.W), fz q.hA]) w) : Sat w0 (Fld_ch g x :: G) w :=
  Sat.toEx (C := fun q : FldIn x => stars (blk g [.pointer (some ⟨q.gc, 0, none⟩), .int .i64 x.made, .bool x.has, .int .i64 x.g.w, .int .i64 x.g.h, q.tv, q.lv, .map (some q.gn), .map (some q.gw), .int .i64 x.count] 79 :: [Cach_ch q.gc x.c, mapL q.gn (raw q.N), mapL q.gw (raw q.W), fz q.hA])) q (Sat.toStars (blk g [.pointer (some ⟨q.gc, 0, none⟩), .int .i64 x.made, .bool x.has, .int .i64 x.g.w, .int .i64 x.g.h, q.tv, q.lv, .map (some q.gn), .map (some q.gw), .int .i64 x.count] 79 :: [Cach_ch q.gc x.c, mapL q.gn (raw q.N), mapL q.gw (raw q.W), fz q.hA]) (G := G) h)
/-! ### What the functions compute -/
def fields_same (a0_f : Fld) (a1_g : Grd) (a2_l : List Bld) : Option Bool :=
  Option.bind (if ((a0_f.has = true) ∧ (a0_f.g.w = a1_g.w)) ∧ (a0_f.g.h = a1_g.h) then
  Option.bind (slices_EqualBld a0_f.l a2_l) fun x15 =>
  some x15
  else
  some false) fun b8 =>
  Option.bind (if b8 = true then
  Option.bind (slices_EqualBytes a0_f.g.tiles a1_g.tiles) fun x13 =>
  some x13
  else
  some false) fun b11 =>
  some b11
def fields_Forget (x : Fld) : Option Fld := Option.bind (cache_Cache_Clear x.c) fun c => some ⟨c, x.made, false, x.g, x.l, [], [], x.count⟩
def fields_New (room : Int) : Option (Option Fld × Int) := Option.bind (cache_New room) fun y => match y with
  | (some c, _) => Option.bind (cache_Cache_Clear c) fun c => some (some ⟨c, 0, false, ⟨0, 0, []⟩, [], [], [], 0⟩, 0)
  | (none, e) => some (none, e)
def fields_on (x : Fld) (g : Grd) (l : List Bld) : Option Fld := Option.bind (fields_same x g l) fun b =>
  if b = true then some x else
  Option.bind (cache_Cache_Clear x.c) fun c => Option.bind (ground_Own g) fun g' => Option.bind (slices_Clone_Bld l) fun l' => some ⟨c, x.made, true, g', l', [], [], x.count⟩
def fields_Net (x : Fld) (g : Grd) (l : List Bld) (cls size : Int) : Option (Net × Fld) := Option.bind (fields_on x g l) fun x =>
  if I64 (4 * cls) then if I64 (4 * cls + size) then
  match kget x.nets (4 * cls + size) with
  | some n => some (n, x)
  | none => Option.bind (field_Open x.g x.l cls size) fun n => some (n, ⟨x.c, x.made, x.has, x.g, x.l, kput x.nets (4 * cls + size) n, x.ways, x.count⟩)
  else none else none
/-- What stays, key by key, the one that was used longest ago first. -/
def sweepL {α : Type} (L : List (Int × α)) : List Int → Cach → List (Int × α) → Option (Cach × List (Int × α))
  | [], c, K => some (c, K)
  | key :: r, c, K => Option.bind (cache_Cache_Get c key) fun y =>
    if y.2.1 = true then Option.bind (kget L y.1) fun v => sweepL L r y.2.2 (kput K y.1 v) else sweepL L r y.2.2 K
def sweepF {α : Type} (c : Cach) (L : List (Int × α)) : Option (Cach × List (Int × α)) :=
  if (c.keys.length : Int) < 1099511627776 then if (L.length : Int) ≤ 2 * (c.keys.length : Int) then some (c, L) else sweepL L c.keys.reverse c [] else none
def fields_Ways (x : Fld) (g : Grd) (l : List Bld) (cls size goal : Int) : Option (List Int × Fld) := Option.bind (fields_Net x g l cls size) fun y =>
  if I64 ((4 * cls + size) * 128) then if I64 ((4 * cls + size) * 128 * 128) then if I64 ((4 * cls + size) * 128 * 128 + goal) then
  Option.bind (cache_Cache_Get y.2.c ((4 * cls + size) * 128 * 128 + goal)) fun z =>
  if z.2.1 = true then Option.bind (kget y.2.ways z.1) fun d => some (d, ⟨z.2.2, y.2.made, y.2.has, y.2.g, y.2.l, y.2.nets, y.2.ways, y.2.count⟩)
  else if I64 (y.2.count + 1) then if I64 (y.2.made + 1) then
  Option.bind (cache_Cache_Put z.2.2 ((4 * cls + size) * 128 * 128 + goal) (y.2.count + 1)) fun c =>
  Option.bind (field_Net_Toward y.1 goal) fun d =>
  if kget y.2.ways (y.2.count + 1) = none then
  Option.bind (sweepF c (kput y.2.ways (y.2.count + 1) d)) fun s =>
  if (kget s.2 (y.2.count + 1)).isSome = true then some (d, ⟨s.1, y.2.made + 1, y.2.has, y.2.g, y.2.l, y.2.nets, s.2, y.2.count + 1⟩) else none
  else none else none else none
  else none else none else none
def fields_Dirs (x : Fld) (g : Grd) (l : List Bld) (cls size goal : Int) : Option (List Int × Int × Fld) := Option.bind (field_May g l cls size) fun b =>
  if (!b) = true then some ([], 1, x) else Option.bind (ground_Is g goal) fun b =>
  if (!b) = true then some ([], 3, x) else Option.bind (fields_Ways x g l cls size goal) fun y => Option.bind (slices_Clone_Int y.1) fun d => some (d, 0, y.2)
/-! ### The same of what stands where -/
theorem sweepL_map {α β : Type} (f : α → β) {L : List (Int × α)} : ∀ {r : List Int} {c : Cach} {K : List (Int × α)}, sweepL (mapV f L) r c (mapV f K) = (sweepL L r c K).map fun z => (z.1, mapV f z.2)
  | [], c, K => rfl
  | key :: r, c, K => by
    simp only [sweepL]
    cases cache_Cache_Get c key with
    | none => rfl
    | some y =>
      simp only [Option.bind_some]
      by_cases h : y.2.1 = true
      · rw [if_pos h, if_pos h, kget_mapV]
        cases kget L y.1 with
        | none => rfl
        | some v => simp only [Option.map_some, Option.bind_some]; rw [kput_mapV]; exact sweepL_map f
      · rw [if_neg h, if_neg h]; exact sweepL_map f
theorem sweepL_mem {α : Type} {L : List (Int × α)} : ∀ {r : List Int} {c : Cach} {K : List (Int × α)} {z : Cach × List (Int × α)}, sweepL L r c K = some z → (∀ e ∈ K, e ∈ L) → ∀ e ∈ z.2, e ∈ L
  | [], c, K, z, h, hK => by cases h; exact hK
  | key :: r, c, K, z, h, hK => by
    simp only [sweepL] at h
    obtain ⟨y, _, h⟩ := bindE h
    by_cases hy : y.2.1 = true
    · rw [if_pos hy] at h
      obtain ⟨v, hv, h⟩ := bindE h
      refine sweepL_mem h fun e he => ?_
      rcases mem_kput he with rfl | ⟨h1, _⟩
      · exact kget_mem hv
      · exact hK _ h1
    · rw [if_neg hy] at h; exact sweepL_mem h hK
theorem sweepF_map {α β : Type} (f : α → β) {c : Cach} {L : List (Int × α)} : sweepF c (mapV f L) = (sweepF c L).map fun z => (z.1, mapV f z.2) := by
  unfold sweepF
  have : (mapV f L).length = L.length := by simp [mapV]
  rw [this]
  split
  · split
    · rfl
    · exact sweepL_map f (K := [])
  · rfl
theorem sweepF_mem {α : Type} {c : Cach} {L : List (Int × α)} {z : Cach × List (Int × α)} (h : sweepF c L = some z) : ∀ e ∈ z.2, e ∈ L := by
  unfold sweepF at h
  split at h
  · split at h
    · cases h; exact fun e h => h
    · exact sweepL_mem h (fun e h => by cases h)
  · cases h
end Go.Proofs.YthdbofgcckjopaaGreat
