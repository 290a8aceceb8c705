/-
  What caches do, told by a list of keys with their values, the one that was used last ahead: of the program's and of the page's, as pure functions. The conditions stand in each lemma. No program in sight but those functions.
-/
import Derived.Test.YthdbofgcckjopaaGreatLG
import Derived.Test.YthdbofgcckjopaaGreatW3
set_option linter.unusedVariables false
set_option linter.unusedSimpArgs false
namespace Go.Proofs.YthdbofgcckjopaaGreat
open Go.Vg
abbrev AL := List (Int × Int)
def keysL (l : AL) : List Int := l.map (·.1)
def valsL (l : AL) : List Int := l.map (·.2)
def dropL (l : AL) (k : Int) : AL := l.filter fun p => !(p.1 == k)
def useL (l : AL) (k v : Int) : AL := (k, v) :: dropL l k
def putL (room : Int) (l : AL) (k v : Int) : AL := if room < ((useL l k v).length : Int) then (useL l k v).dropLast else useL l k v
def CA (room h m : Int) (l : AL) : Cach := ⟨room, fun k => l.lookup k, keysL l, h, m⟩
structure CInv (room : Int) (l : AL) : Prop where
  nd : (keysL l).Nodup
  len : (l.length : Int) ≤ room
  pos : 1 ≤ room
  top : room ≤ 4096
theorem len_keysL (l : AL) : (keysL l).length = l.length := by simp [keysL]
theorem keysL_drop (l : AL) (k : Int) : keysL (dropL l k) = (keysL l).filter fun x => !(x == k) := by
  simp [keysL, dropL, List.filter_map]; rfl
theorem lookup_ne {p : Int × Int} {l : AL} {j : Int} (h : ¬ j = p.1) : List.lookup j (p :: l) = l.lookup j := by
  rw [List.lookup_cons]
  have : (j == p.1) = false := by simp [h]
  rw [this]
theorem lookup_eq (k v : Int) (l : AL) : List.lookup k ((k, v) :: l) = some v := by rw [List.lookup_cons]; simp
theorem mem_keysL {p : Int × Int} {l : AL} {j : Int} : j ∈ keysL (p :: l) ↔ j = p.1 ∨ j ∈ keysL l := by
  show j ∈ p.1 :: keysL l ↔ _
  exact List.mem_cons
theorem lookup_none {l : AL} {k : Int} (h : k ∉ keysL l) : l.lookup k = none := by
  induction l with
  | nil => rfl
  | cons p l ih =>
    rw [mem_keysL] at h
    rw [lookup_ne (fun e => h (.inl e))]
    exact ih fun hm => h (.inr hm)
theorem lookup_some {l : AL} {k : Int} (h : k ∈ keysL l) : ∃ v, l.lookup k = some v := by
  induction l with
  | nil => cases h
  | cons p l ih =>
    by_cases e : k = p.1
    · subst e; exact ⟨p.2, lookup_eq _ _ _⟩
    · rw [lookup_ne e]
      exact ih ((mem_keysL.1 h).resolve_left e)
theorem lookup_append {a b : AL} {k : Int} (h : k ∉ keysL a) : (a ++ b).lookup k = b.lookup k := by
  induction a with
  | nil => rfl
  | cons p a ih =>
    rw [mem_keysL] at h
    rw [List.cons_append, lookup_ne (fun e => h (.inl e))]
    exact ih fun hm => h (.inr hm)
theorem lookup_append_mem {a b : AL} {k : Int} (h : k ∈ keysL a) : (a ++ b).lookup k = a.lookup k := by
  induction a with
  | nil => cases h
  | cons p a ih =>
    rw [List.cons_append]
    by_cases e : k = p.1
    · subst e
      obtain ⟨k, v⟩ := p
      rw [lookup_eq, lookup_eq]
    · rw [lookup_ne e, lookup_ne e]
      exact ih ((mem_keysL.1 h).resolve_left e)
theorem lookup_drop (l : AL) (k j : Int) : (dropL l k).lookup j = if j = k then none else l.lookup j := by
  induction l with
  | nil => simp [dropL]
  | cons p l ih =>
    unfold dropL at ih ⊢
    rw [List.filter_cons]
    by_cases e : p.1 = k
    · have e1 : (!(p.1 == k)) = false := by simp [e]
      rw [e1, if_neg (by simp), ih, List.lookup_cons]
      split
      · rfl
      · rename_i hne
        have : (j == p.1) = false := by simp; intro h; exact hne (h.trans e)
        rw [this]
    · have e1 : (!(p.1 == k)) = true := by simp [e]
      rw [e1, if_pos rfl, List.lookup_cons, List.lookup_cons]
      by_cases hj : j = p.1
      · subst hj; simp [e]
      · have : (j == p.1) = false := by simp [hj]
        rw [this]; exact ih
/-- The place of a key. -/
def At (l : AL) (k r : Int) : Prop := (r = -1 ∧ k ∉ keysL l) ∨ ∃ a v b, l = a ++ (k, v) :: b ∧ k ∉ keysL a ∧ r = (a.length : Int)
theorem At.of {l : AL} {k r : Int} (h : (r = -1 ∧ ∀ j : Int, 0 ≤ j → j < (keysL l).length → gi (keysL l) j ≠ k) ∨ (0 ≤ r ∧ r < (keysL l).length ∧ gi (keysL l) r = k ∧ ∀ j : Int, 0 ≤ j → j < r → gi (keysL l) j ≠ k)) : At l k r := by
  rcases h with ⟨h1, h2⟩ | ⟨h1, h2, h3, h4⟩
  · refine .inl ⟨h1, fun hm => ?_⟩
    obtain ⟨i, hi, he⟩ := List.mem_iff_getElem.1 hm
    exact h2 i (by omega) (by omega) (by simp [gi, List.getD, hi, he])
  · refine .inr ?_
    rw [len_keysL] at h2
    have hl : r.toNat < l.length := by omega
    have hk : (l[r.toNat]'hl).1 = k := by rw [← h3]; simp [gi, keysL, List.getD, hl]
    refine ⟨l.take r.toNat, (l[r.toNat]'hl).2, l.drop (r.toNat + 1), ?_, fun hm => ?_, by rw [List.length_take]; omega⟩
    · rw [← hk]
      show l = l.take r.toNat ++ l[r.toNat]'hl :: l.drop (r.toNat + 1)
      rw [List.getElem_cons_drop, List.take_append_drop]
    · obtain ⟨i, hi, he⟩ := List.mem_iff_getElem.1 hm
      rw [len_keysL, List.length_take] at hi
      refine h4 i (by omega) (by omega) ?_
      rw [← he]
      have : i < l.length := by omega
      simp [gi, keysL, List.getD, this]
theorem index_p {l : AL} {k : Int} (h : l.length ≤ 9223372036854775806) : Ok (slices_Index (keysL l) k) (At l k) := by
  have hlk := len_keysL l
  unfold slices_Index
  refine Ok.bind (R := fun x => match x with | .go _ => (∀ j : Int, 0 ≤ j → j < (keysL l).length → gi (keysL l) j ≠ k) | .up r => At l k r) (Ok.loop (fun i : Int => 0 ≤ i ∧ i ≤ (keysL l).length ∧ ∀ j : Int, 0 ≤ j → j < i → gi (keysL l) j ≠ k) (fun i => ((keysL l).length - i).toNat) ⟨by omega, by omega, fun j h0 h1 => by omega⟩ (by unfold FUEL; omega) ?_) ?_
  · rintro i ⟨h0, h1, hq⟩
    refine Ok.ite (fun hlt => ?_) (fun hlt => Ok.ret (fun j j0 j1 => hq j j0 (by omega)))
    refine Ok.gd ⟨h0, hlt⟩ (Ok.ite (fun he => Ok.ret (At.of (.inr ⟨h0, hlt, he.symm, hq⟩))) (fun he => Ok.gd (by unfold I64; omega) (Ok.ret ⟨⟨by omega, by omega, fun j j0 j1 => ?_⟩, by omega⟩)))
    by_cases hj : j = i
    · subst hj; exact fun e => he e.symm
    · exact hq j j0 (by omega)
  · intro x hx
    cases x with
    | go _ => exact Ok.ret (At.of (.inl ⟨rfl, hx⟩))
    | up r => exact Ok.ret hx
theorem drop_at {a b : AL} {k v : Int} (h : (keysL (a ++ (k, v) :: b)).Nodup) (ha : k ∉ keysL a) : dropL (a ++ (k, v) :: b) k = a ++ b ∧ k ∉ keysL b := by
  have hb : k ∉ keysL b := by
    simp only [keysL, List.map_append, List.map_cons] at h
    rw [List.nodup_append] at h
    exact (List.nodup_cons.1 h.2.1).1
  refine ⟨?_, hb⟩
  unfold dropL
  rw [List.filter_append, List.filter_cons, if_neg (by simp)]
  congr 1
  · refine List.filter_eq_self.2 fun p hp => ?_
    simp; intro e; exact ha (List.mem_map.2 ⟨p, hp, e⟩)
  · refine List.filter_eq_self.2 fun p hp => ?_
    simp; intro e; exact hb (List.mem_map.2 ⟨p, hp, e⟩)
theorem drop_not {l : AL} {k : Int} (h : k ∉ keysL l) : dropL l k = l := by
  unfold dropL
  refine List.filter_eq_self.2 fun p hp => ?_
  simp; intro e; exact h (List.mem_map.2 ⟨p, hp, e⟩)
theorem CInv.drop {room : Int} {l : AL} (h : CInv room l) (k : Int) : CInv room (dropL l k) := by
  refine ⟨?_, ?_, h.pos, h.top⟩
  · rw [keysL_drop]; exact h.nd.sublist List.filter_sublist
  · have : (dropL l k).length ≤ l.length := List.length_filter_le _ _
    have := h.len
    omega
theorem not_mem_drop (l : AL) (k : Int) : k ∉ keysL (dropL l k) := by
  rw [keysL_drop]; simp
theorem nd_use {l : AL} (h : (keysL l).Nodup) (k v : Int) : (keysL (useL l k v)).Nodup := by
  unfold useL
  show (k :: keysL (dropL l k)).Nodup
  exact List.nodup_cons.2 ⟨not_mem_drop l k, by rw [keysL_drop]; exact h.sublist List.filter_sublist⟩
theorem len_use_le (l : AL) (k v : Int) : (useL l k v).length ≤ l.length + 1 := by
  unfold useL dropL
  have := List.length_filter_le (fun p : Int × Int => !(p.1 == k)) l
  simp; omega
theorem len_drop_mem {l : AL} {k : Int} (h : k ∈ keysL l) (hn : (keysL l).Nodup) : (dropL l k).length + 1 = l.length := by
  obtain ⟨p, hp, e⟩ := List.mem_map.1 h
  obtain ⟨a, b, rfl⟩ := List.append_of_mem hp
  obtain ⟨k', v⟩ := p
  simp at e
  subst e
  have ha : k' ∉ keysL a := by
    intro hm
    simp only [keysL, List.map_append, List.map_cons] at hn
    rw [List.nodup_append] at hn
    exact hn.2.2 k' hm k' (by simp) rfl
  rw [(drop_at hn ha).1]
  simp; omega
theorem CInv.put {room : Int} {l : AL} (h : CInv room l) (k v : Int) : CInv room (putL room l k v) := by
  have h1 := nd_use h.nd k v
  have h2 := len_use_le l k v
  have h3 := h.len
  unfold putL
  split
  · refine ⟨?_, ?_, h.pos, h.top⟩
    · have : keysL (useL l k v).dropLast = (keysL (useL l k v)).dropLast := by simp [keysL, List.map_dropLast]
      rw [this]; exact h1.sublist (List.dropLast_sublist _)
    · rw [List.length_dropLast]; omega
  · exact ⟨h1, by omega, h.pos, h.top⟩
theorem CInv.use {room : Int} {l : AL} (h : CInv room l) {k : Int} (hk : k ∈ keysL l) (v : Int) : CInv room (useL l k v) := by
  refine ⟨nd_use h.nd k v, ?_, h.pos, h.top⟩
  have := len_drop_mem hk h.nd
  have := h.len
  unfold useL
  simp; omega
theorem out_p {c : Cach} {l : AL} (hk : c.keys = keysL l) (hn : (keysL l).Nodup) (hl : l.length ≤ 5000) (k : Int) : cache_Cache_out c k = some ⟨c.room, c.vals, keysL (dropL l k), c.hits, c.misses⟩ := by
  unfold cache_Cache_out
  rw [hk]
  refine Ok.eq (Ok.bind (index_p (k := k) (by omega)) ?_)
  rintro r (⟨rfl, hr⟩ | ⟨a, v, b, rfl, ha, rfl⟩)
  · rw [if_neg (by omega), drop_not hr]
    exact Ok.ret (by rw [← hk])
  · have hd := drop_at hn ha
    refine Ok.ite (fun _ => ?_) (fun h => absurd (by omega) h)
    simp at hl
    refine Ok.gd (by unfold I64; omega) ?_
    have e : slices_Delete (keysL (a ++ (k, v) :: b)) (a.length : Int) ((a.length : Int) + 1) = some (keysL (a ++ b)) := by
      unfold slices_Delete
      rw [len_keysL, if_pos (by simp; omega)]
      congr 1
      unfold keysL
      rw [show ((a.length : Int) + 1).toNat = a.length + 1 by omega, show ((a.length : Int)).toNat = a.length by omega, ← List.map_take, ← List.map_drop, ← List.map_append]
      congr 1
      rw [List.take_left', List.drop_append]
      · simp
      · rfl
    rw [e, bsome, hd.1]
    exact Ok.ret rfl
theorem use_p {c : Cach} {l : AL} (hk : c.keys = keysL l) (hn : (keysL l).Nodup) (hl : l.length ≤ 5000) (k v : Int) : cache_Cache_use c k = some ⟨c.room, c.vals, keysL (useL l k v), c.hits, c.misses⟩ := by
  unfold cache_Cache_use
  rw [out_p hk hn hl, bsome]
  have hd : (dropL l k).length ≤ l.length := List.length_filter_le _ _
  have e : slices_Insert (keysL (dropL l k)) 0 [k] = some (keysL (useL l k v)) := by
    unfold slices_Insert
    rw [len_keysL, if_pos ⟨rfl, by omega, by omega⟩]
    rfl
  dsimp only
  rw [e, bsome]
theorem lookup_use (l : AL) (k v : Int) : (fun j => (useL l k v).lookup j) = mPut (fun j => l.lookup j) k v := by
  funext j
  unfold useL mPut
  rw [List.lookup_cons]
  by_cases h : j = k
  · subst h; simp
  · have : (j == k) = false := by simp [h]
    rw [this, lookup_drop, if_neg h, if_neg h]
theorem lookup_dropLast {l : AL} (hn : (keysL l).Nodup) {x : Int × Int} {i : AL} (h : l = i ++ [x]) : (fun j => i.lookup j) = mDel (fun j => l.lookup j) x.1 := by
  subst h
  have hx : x.1 ∉ keysL i := by
    intro hm
    simp only [keysL, List.map_append] at hn
    rw [List.nodup_append] at hn
    exact hn.2.2 x.1 hm x.1 (by simp) rfl
  funext j
  unfold mDel
  split
  · rename_i e; subst e; exact lookup_none hx
  · rename_i e
    by_cases hj : j ∈ keysL i
    · exact (lookup_append_mem hj).symm
    · rw [lookup_none hj]
      show none = List.lookup j (i ++ [x])
      rw [lookup_append hj, lookup_ne e]
      rfl
theorem put_p {room h m : Int} {l : AL} (hI : CInv room l) (k v : Int) : cache_Cache_Put (CA room h m l) k v = some (CA room h m (putL room l k v)) := by
  have hl := hI.len
  have ht := hI.top
  have hp := hI.pos
  have hu := len_use_le l k v
  have hlk := len_keysL (useL l k v)
  unfold cache_Cache_Put
  rw [use_p (l := l) (v := v) rfl hI.nd (by omega), bsome]
  unfold putL
  refine Ok.eq (Ok.ite (fun hc => ?_) (fun hc => ?_))
  · have hc : room < ((keysL (useL l k v)).length : Int) := hc
    have hlk' : ((keysL (useL l k v)).length : Int) = (useL l k v).length := by omega
    refine Ok.gd (by show I64 (((keysL (useL l k v)).length : Int) - 1); unfold I64; omega) (Ok.gd (by show 0 ≤ ((keysL (useL l k v)).length : Int) - 1 ∧ ((keysL (useL l k v)).length : Int) - 1 < ((keysL (useL l k v)).length : Int); omega) (Ok.gd (by show I64 (((keysL (useL l k v)).length : Int) - 1); unfold I64; omega) (Ok.gd (by show 0 ≤ ((keysL (useL l k v)).length : Int) - 1 ∧ ((keysL (useL l k v)).length : Int) - 1 ≤ ((keysL (useL l k v)).length : Int); omega) (Ok.ret ?_))))
    rw [if_pos (by omega)]
    have hne : useL l k v ≠ [] := by unfold useL; simp
    obtain ⟨i, x, hx⟩ : ∃ i x, useL l k v = i ++ [x] := ⟨_, _, (List.dropLast_concat_getLast hne).symm⟩
    have hd := lookup_dropLast (nd_use hI.nd k v) hx
    have hg : gi (keysL (useL l k v)) (((keysL (useL l k v)).length : Int) - 1) = x.1 := by
      rw [hx]
      simp [keysL, gi, List.getD]
    have hk2 : (keysL (useL l k v)).take (((keysL (useL l k v)).length : Int) - 1).toNat = keysL i := by
      rw [hx]
      simp [keysL]
    dsimp only [CA]
    rw [hg, hk2, ← lookup_use l k v, ← hd, hx, List.dropLast_concat]
  · have hc : ¬ room < ((keysL (useL l k v)).length : Int) := hc
    refine Ok.ret ?_
    rw [if_neg (by omega)]
    dsimp only [CA]
    rw [← lookup_use l k v]
theorem get_p {room h m : Int} {l : AL} (hI : CInv room l) (k : Int) (hh : 0 ≤ h ∧ h ≤ 1000000) (hm : 0 ≤ m ∧ m ≤ 1000000) : cache_Cache_Get (CA room h m l) k = some (match l.lookup k with | none => (0, false, CA room h (m + 1) l) | some v => (v, true, CA room (h + 1) m (useL l k v))) := by
  have hl := hI.len
  have ht := hI.top
  unfold cache_Cache_Get
  by_cases hk : k ∈ keysL l
  · obtain ⟨v, hv⟩ := lookup_some hk
    have e1 : (CA room h m l).vals k = some v := hv
    rw [e1, hv]
    rw [if_neg (by simp), if_pos (by unfold I64; show _ ≤ h + 1 ∧ h + 1 ≤ _; omega), use_p (l := l) (v := v) rfl hI.nd (by omega), bsome]
    dsimp only [CA, Option.getD]
    have : (fun j => l.lookup j) = fun j => (useL l k v).lookup j := by
      rw [lookup_use]
      funext j
      unfold mPut
      split
      · rename_i e; rw [e]; exact hv
      · rfl
    rw [this]
  · have hv := lookup_none hk
    have e1 : (CA room h m l).vals k = none := hv
    rw [e1, hv]
    rw [if_pos (by rfl), if_pos (by unfold I64; show _ ≤ m + 1 ∧ m + 1 ≤ _; omega)]
    rfl
theorem new_p {room : Int} (h : 1 ≤ room ∧ room ≤ 4096) : cache_New room = some (some (CA room 0 0 []), 0) := by
  unfold cache_New
  rw [if_neg (by omega)]; rfl
theorem CInv.nil {room : Int} (h : 1 ≤ room ∧ room ≤ 4096) : CInv room [] := ⟨by simp [keysL], by simp; omega, h.1, h.2⟩
theorem withinC_p (i : Int) {n : Int} (h : 1 ≤ n ∧ n ≤ 1000000) : thronglaw0_Within i n = some (i % 18446744073709551616 % n) := by
  unfold thronglaw0_Within
  rw [show n % 18446744073709551616 = n by omega, if_pos (by omega)]
  have h1 : 0 ≤ i % 18446744073709551616 % n := Int.emod_nonneg _ (by omega)
  have h2 : i % 18446744073709551616 % n < n := Int.emod_lt_of_pos _ (by omega)
  rw [if_pos (by unfold I64; omega)]
end Go.Proofs.YthdbofgcckjopaaGreat
