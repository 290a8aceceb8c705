/-
  The three statements of the cache, as pure functions, are true. For arguments that are Go's.
-/
import Derived.Test.YtacpdjccbadomaaCP
set_option linter.unusedVariables false
set_option linter.unusedSimpArgs false
namespace Go.Proofs.Ytacpdjccbadomaa
open Go.Vg
theorem num_p (e : Int) : thronglaw15_num e = some e := rfl
theorem room_p (n : Int) : throngref15_Room n = some (decide (1 ≤ n ∧ n ≤ 4096)) := rfl
theorem hits_p (c : Cach) : cache_Cache_Hits c = some c.hits := rfl
theorem misses_p (c : Cach) : cache_Cache_Misses c = some c.misses := rfl
theorem order_law {p : CScr} (hl : p.l.length ≤ 9223372036854775807) : thronglaw15_CacheOrder p = some true := by
  unfold thronglaw15_CacheOrder
  rw [if_pos ⟨by omega, by omega⟩]
  have h5 : (p.l.length : Int) % 5 = 0 ∨ (p.l.length : Int) % 5 = 1 ∨ (p.l.length : Int) % 5 = 2 ∨ (p.l.length : Int) % 5 = 3 ∨ (p.l.length : Int) % 5 = 4 := by omega
  rcases h5 with h | h | h | h | h <;> simp only [h] <;> decide +kernel
/-- Where a round of the first statement stands. -/
def EInv (room i : Int) (c : Cach) (r h m : Int) (K V : List Int) : Prop :=
  ∃ l, CInv room l ∧ c = CA room h m l ∧ r = room ∧ K = keysL l ∧ V = valsL l ∧ (0 ≤ h ∧ h ≤ i) ∧ (0 ≤ m ∧ m ≤ i)
theorem exact_law {p : CScr} (hl : p.l.length ≤ 9223372036854775807) : thronglaw15_CacheExact p = some true := by
  unfold thronglaw15_CacheExact
  by_cases hr : 1 ≤ p.room ∧ p.room ≤ 4096
  · rw [new_p hr, bsome]
    dsimp only
    refine Ok.eq (Ok.bindE (x := true) (by rw [room_p, decide_eq_true hr]) (Ok.bindE (x := (0 : Int)) rfl (Ok.bindE (x := false) rfl (Ok.bindE (x := false) rfl ?_))))
    rw [if_neg (by simp), if_neg (by simp), bsome]
    refine (Ok.bind (R := fun x => ∃ y, x = Ex.go y) (Ok.loop (fun z : Int × Int × Int × Int × Cach × List Int × List Int => (0 ≤ z.1 ∧ z.1 ≤ p.l.length ∧ z.1 ≤ 80) ∧ EInv p.room z.1 z.2.2.2.2.1 z.2.1 z.2.2.1 z.2.2.2.1 z.2.2.2.2.2.1 z.2.2.2.2.2.2) (fun z => (p.l.length - z.1).toNat)
      ⟨⟨by simp, by simp, by simp⟩, [], CInv.nil hr, rfl, rfl, rfl, rfl, by simp, by simp⟩ (by unfold FUEL; simp; omega) ?_) ?_)
    · rintro ⟨i, r, h, m, c, K, V⟩ ⟨⟨h0, h1, h2⟩, l, hI, hc, hrr, hK, hV, hh, hm⟩
      dsimp only at h0 h1 h2 hc hrr hK hV hh hm ⊢
      subst hc; subst hK; subst hV; subst r
      have hlen := hI.len
      have htop := hI.top
      refine Ok.ite (fun hlt => ?_) (fun _ => Ok.ret ⟨_, rfl⟩)
      refine Ok.gd ⟨h0, hlt.1⟩ ?_
      rw [within_p _ (by omega), bsome]
      obtain ⟨k, hk⟩ : ∃ k, k = (gi p.l i).key := ⟨_, rfl⟩
      obtain ⟨v, hv⟩ : ∃ v, v = (gi p.l i).val := ⟨_, rfl⟩
      obtain ⟨d, hd⟩ : ∃ d, d = (gi p.l i).act % 18446744073709551616 % 10 := ⟨_, rfl⟩
      rw [← hk, ← hv, ← hd]
      refine Ok.bind (R := fun x => ∃ h' m' l', x = Ex.go (CA p.room h' m' l', p.room, h', m', keysL l', valsL l') ∧ CInv p.room l' ∧ (0 ≤ h' ∧ h' ≤ i + 1) ∧ (0 ≤ m' ∧ m' ≤ i + 1)) ?_ ?_
      · have e3 : ∃ b, (if d = 4 then some (decide (d = 4)) else if d = 5 then some (decide (d = 5)) else if d = 6 then some (decide (d = 6)) else some (decide (d = 7))) = some b := by
          split
          · exact ⟨_, rfl⟩
          · split
            · exact ⟨_, rfl⟩
            · split <;> exact ⟨_, rfl⟩
        obtain ⟨b, hb⟩ := e3
        rw [hb, bsome]
        refine Ok.ite (fun _ => ?_) (fun _ => Ok.ite (fun _ => ?_) (fun _ => Ok.ite (fun _ => ?_) (fun _ => ?_)))
        · have hg := rget_p hI k (h := h) (m := m) (by omega) (by omega)
          unfold CB at hg
          rw [get_p hI k (by omega) (by omega), bsome, hg, bsome]
          cases hlk : l.lookup k with
          | none => exact Ok.ite (fun hx => absurd hx (by simp)) (fun _ => Ok.ret ⟨h, m + 1, l, rfl, hI, by omega, by omega⟩)
          | some w => exact Ok.ite (fun hx => absurd hx (by simp)) (fun _ => Ok.ret ⟨h + 1, m, useL l k w, rfl, hI.use (Classical.byContradiction fun hn => by rw [lookup_none hn] at hlk; cases hlk) w, by omega, by omega⟩)
        · have hg := rdrop_p (room := p.room) (h := h) (m := m) hI.nd (by omega) k
          unfold CB at hg
          rw [drop_p hI k, bsome, hg, bsome]
          exact Ok.ite (fun hx => absurd hx (by simp)) (fun _ => Ok.ret ⟨h, m, dropL l k, rfl, hI.drop k, by omega, by omega⟩)
        · exact Ok.ret ⟨h, m, [], rfl, CInv.nil ⟨hI.pos, hI.top⟩, by omega, by omega⟩
        · have hg := rput_p (h := h) (m := m) hI k v
          unfold CB at hg
          rw [put_p hI, bsome, hg, bsome]
          exact Ok.ret ⟨h, m, putL p.room l k v, rfl, hI.put k v, by omega, by omega⟩
      · rintro x ⟨h', m', l', rfl, hI', hh', hm'⟩
        have hlen' := hI'.len
        simp only [Ex.then]
        rw [keys_p (by omega), bsome, eqN_p (by rw [len_keysL]; omega), bsome]
        rw [decide_eq_true rfl]
        refine Ok.bindE (x := false) (by show some (decide (¬ h' = h')) = _; simp) (Ok.bindE (x := false) (by show some (decide (¬ m' = m')) = _; simp) ?_)
        rw [if_neg (by simp), numbers_p (by rw [len_keysL]; omega), bsome]
        refine Ok.gd (by unfold I64; omega) (Ok.ret ⟨⟨⟨by show 0 ≤ i + 1; omega, by show i + 1 ≤ _; omega, by show i + 1 ≤ 80; omega⟩, l', hI', rfl, rfl, rfl, rfl, by simpa using hh', by simpa using hm'⟩, by show ((p.l.length : Int) - (i + 1)).toNat < (p.l.length - i).toNat; omega⟩)
    · rintro x ⟨y, rfl⟩
      simp only [Ex.then]
      rw [wakes_p]
      exact Ok.ret rfl
  · have e0 : cache_New p.room = some (none, 1) := by unfold cache_New; rw [if_pos (by omega)]
    rw [e0, bsome]
    dsimp only
    refine Ok.eq (Ok.bindE (x := false) (by rw [room_p, decide_eq_false hr]) (Ok.bindE (x := (1 : Int)) rfl (Ok.bindE (x := false) rfl (Ok.bindE (x := false) rfl ?_))))
    refine Ok.ite (fun h => absurd h (by simp)) (fun _ => Ok.ite (fun _ => ?_) (fun h => absurd rfl h))
    rw [wakes_p, bsome]
    exact Ok.ret rfl
theorem putL_head (room : Int) (hr : 1 ≤ room) (l : AL) (k v : Int) : ∃ t, keysL (putL room l k v) = k :: t := by
  unfold putL
  split
  · rename_i h
    have : ∃ y t, dropL l k = y :: t := by
      cases hd : dropL l k with
      | nil => unfold useL at h; rw [hd] at h; simp at h; omega
      | cons y t => exact ⟨y, t, rfl⟩
    obtain ⟨y, t, hy⟩ := this
    unfold useL
    rw [hy]
    exact ⟨_, rfl⟩
  · exact ⟨_, rfl⟩
theorem lookup_mem {l : AL} {k v : Int} (h : l.lookup k = some v) : k ∈ keysL l := Classical.byContradiction fun hn => by rw [lookup_none hn] at h; cases h
theorem putL_sub (room : Int) {l : AL} (hn : (keysL l).Nodup) (k v j w : Int) (h : (putL room l k v).lookup j = some w) : (useL l k v).lookup j = some w := by
  unfold putL at h
  split at h
  · have hne : useL l k v ≠ [] := by unfold useL; simp
    obtain ⟨i, x, hx⟩ : ∃ i x, useL l k v = i ++ [x] := ⟨_, _, (List.dropLast_concat_getLast hne).symm⟩
    have hd := congrFun (lookup_dropLast (nd_use hn k v) hx) j
    rw [hx, List.dropLast_concat] at h
    rw [hx]
    rw [h] at hd
    unfold mDel at hd
    split at hd
    · cases hd
    · rw [← hx]; exact hd.symm
  · exact h
theorem lookup_useJ (l : AL) (k v j : Int) : (useL l k v).lookup j = if j = k then some v else l.lookup j := congrFun (lookup_use l k v) j
/-- Where a round of the second statement stands. -/
def HInv (room i : Int) (c d : Cach) (ks vs : List Int) : Prop :=
  ∃ hc mc hd md lc ld A, c = CA room hc mc lc ∧ d = CA 81 hd md ld ∧ CInv room lc ∧ CInv 81 ld ∧ ks = keysL A ∧ vs = valsL A ∧ (keysL A).Nodup ∧ A.length = ld.length ∧ (A.length : Int) ≤ i ∧
    (∀ k, ld.lookup k = A.lookup k) ∧ (∀ k v, lc.lookup k = some v → A.lookup k = some v) ∧ (0 ≤ hc ∧ hc ≤ i) ∧ (0 ≤ mc ∧ mc ≤ i) ∧ (0 ≤ hd ∧ hd ≤ i) ∧ (0 ≤ md ∧ md ≤ i)
theorem At.lookup {A : AL} {k r : Int} (h : At A k r) (hn : (keysL A).Nodup) : (r = -1 ∧ A.lookup k = none) ∨ (0 ≤ r ∧ r < A.length ∧ A.lookup k = some (gi (valsL A) r)) := by
  rcases h with ⟨h1, h2⟩ | ⟨a, v, b, rfl, ha, rfl⟩
  · exact .inl ⟨h1, lookup_none h2⟩
  · refine .inr ⟨by omega, by simp; omega, ?_⟩
    rw [lookup_append ha, lookup_eq]
    simp [valsL, gi, List.getD]
theorem holds_law {p : CScr} (hl : p.l.length ≤ 9223372036854775807) : thronglaw15_CacheHolds p = some true := by
  unfold thronglaw15_CacheHolds
  rw [within_p _ (by omega), bsome]
  obtain ⟨R, hR⟩ : ∃ R, R = p.room % 18446744073709551616 % 20 := ⟨_, rfl⟩
  have hR2 : 0 ≤ R ∧ R < 20 := by omega
  have hw : thronglaw0_Within p.room 20 = some R := by rw [within_p _ (by omega), hR]
  rw [← hR]
  refine Ok.eq (Ok.gd (by unfold I64; omega) ?_)
  rw [new_p (by omega), bsome]
  dsimp only
  rw [new_p (by omega), bsome]
  dsimp only
  refine Ok.bindE (x := (0 : Int)) rfl (Ok.bindE (x := false) rfl ?_)
  rw [if_neg (by simp), bsome, bsome]
  refine Ok.bind (R := fun x => ∃ y, x = Ex.go y) (Ok.loop (fun z : List Int × List Int × Int × Cach × Cach => (0 ≤ z.2.2.1 ∧ z.2.2.1 ≤ p.l.length ∧ z.2.2.1 ≤ 80) ∧ HInv (1 + R) z.2.2.1 z.2.2.2.1 z.2.2.2.2 z.1 z.2.1) (fun z => (p.l.length - z.2.2.1).toNat)
      ⟨⟨by simp, by simp, by simp⟩, 0, 0, 0, 0, [], [], [], rfl, rfl, CInv.nil (by omega), CInv.nil (by omega), rfl, rfl, by simp [keysL], rfl, by simp, fun _ => rfl, fun _ _ h => h, by simp, by simp, by simp, by simp⟩ (by unfold FUEL; simp; omega) ?_) ?_
  · rintro ⟨ks, vs, i, c, d⟩ ⟨⟨h0, h1, h2⟩, hc, mc, hd, md, lc, ld, A, ec, ed, hIc, hId, eks, evs, hnA, hlA, hAi, hdA, hcA, b1, b2, b3, b4⟩
    dsimp only at h0 h1 h2 ec ed eks evs hAi b1 b2 b3 b4 ⊢
    subst ec; subst ed; subst eks; subst evs
    have hlc := hIc.len
    have hld := hId.len
    refine Ok.ite (fun hlt => ?_) (fun _ => Ok.ret ⟨_, rfl⟩)
    refine Ok.gd ⟨h0, hlt.1⟩ ?_
    obtain ⟨k, hk⟩ : ∃ k, k = (gi p.l i).key := ⟨_, rfl⟩
    obtain ⟨v, hv⟩ : ∃ v, v = (gi p.l i).val := ⟨_, rfl⟩
    rw [← hk, ← hv]
    refine Ok.bind (in_p (k := k) (by omega)) fun a hat => ?_
    have hat2 := hat.lookup hnA
    rw [within_p _ (by omega), bsome]
    refine Ok.ite (fun _ => ?_) (fun _ => ?_)
    · rw [put_p hIc, bsome, put_p hId, bsome]
      have hud := len_use_le ld k v
      have hpd : putL 81 ld k v = useL ld k v := by unfold putL; rw [if_neg (by omega)]
      rw [hpd]
      refine Ok.bind (R := fun x => ∃ A' : AL, x = (keysL A', valsL A') ∧ (keysL A').Nodup ∧ A'.length = (useL ld k v).length ∧ (A'.length : Int) ≤ i + 1 ∧ ∀ j, A'.lookup j = if j = k then some v else A.lookup j) ?_ ?_
      · refine Ok.ite (fun hneg => ?_) (fun hneg => ?_)
        · rcases hat with ⟨_, hna⟩ | ⟨a1, v1, b1', rfl, _, hr⟩
          · refine Ok.gd (by rw [len_keysL]; omega) (Ok.gd (by rw [len_valsL]; omega) (Ok.ret ⟨A ++ [(k, v)], by simp [keysL, valsL], ?_, ?_, by simp; omega, fun j => ?_⟩))
            · show (keysL (A ++ [(k, v)])).Nodup
              have : keysL (A ++ [(k, v)]) = keysL A ++ [k] := by simp [keysL]
              rw [this, List.nodup_append]
              exact ⟨hnA, by simp, by simp; intro x hx e; subst e; exact hna hx⟩
            · have hnd : k ∉ keysL ld := fun hm => by
                obtain ⟨w, hw⟩ := lookup_some hm
                rw [hdA, lookup_none hna] at hw; cases hw
              unfold useL
              rw [drop_not hnd]; simp; omega
            · by_cases hj : j ∈ keysL A
              · have hjk : ¬ j = k := fun e => hna (e ▸ hj)
                rw [if_neg hjk]
                exact lookup_append_mem hj
              · rw [lookup_append hj]
                by_cases hjk : j = k
                · subst hjk; rw [lookup_eq, if_pos rfl]
                · rw [lookup_ne hjk, if_neg hjk, lookup_none hj]; rfl
          · omega
        · rcases hat with ⟨hr, _⟩ | ⟨a1, v1, b1', rfl, ha1, rfl⟩
          · omega
          · have hkb := (drop_at hnA ha1).2
            refine Ok.gd ⟨by omega, by rw [len_valsL]; simp; omega⟩ (Ok.ret ⟨a1 ++ (k, v) :: b1', ?_, ?_, ?_, by simpa using (by simp at hAi; omega), fun j => ?_⟩)
            · have : si (valsL (a1 ++ (k, v1) :: b1')) (a1.length : Int) v = valsL (a1 ++ (k, v) :: b1') := by
                unfold si valsL
                simp
              rw [this]; simp [keysL]
            · have : keysL (a1 ++ (k, v) :: b1') = keysL (a1 ++ (k, v1) :: b1') := by simp [keysL]
              rw [this]; exact hnA
            · have hm : k ∈ keysL ld := lookup_mem (v := v1) (by rw [hdA, lookup_append ha1, lookup_eq])
              have := len_drop_mem hm hId.nd
              unfold useL
              simp at hlA ⊢; omega
            · by_cases hj : j ∈ keysL a1
              · have hjk : ¬ j = k := fun e => ha1 (e ▸ hj)
                rw [if_neg hjk]
                rw [lookup_append_mem hj, lookup_append_mem hj]
              · rw [lookup_append hj, lookup_append hj]
                by_cases hjk : j = k
                · subst hjk; rw [lookup_eq, if_pos rfl]
                · rw [lookup_ne hjk, lookup_ne hjk, if_neg hjk]
      · rintro x ⟨A', rfl, hnA', hlA', hAi', hlk⟩
        dsimp only
        have hIc' := hIc.put k v
        have hId' := hId.put k v
        rw [hpd] at hId'
        have hlc' := hIc'.len
        have hld' := hId'.len
        obtain ⟨t, ht⟩ := putL_head (1 + R) (by omega) lc k v
        have htl : ((putL (1 + R) lc k v).length : Int) = t.length + 1 := by rw [← len_keysL, ht]; simp
        rw [keys_p (by omega), bsome, ht]
        simp only [List.length_cons]
        refine Ok.gd (fun _ => ⟨by omega, by omega⟩) ?_
        rw [if_neg (by
          rintro (hx | hx)
          · omega
          · exact hx rfl), bsome, if_pos (by unfold I64; omega), bsome, if_neg (by rw [decide_eq_false (by omega)]; simp), keys_p (by omega), bsome, if_neg (by rw [len_keysL, len_keysL, hlA']; intro hx; exact hx rfl)]
        refine Ok.gd (by unfold I64; omega) (Ok.ret ⟨⟨⟨by show 0 ≤ i + 1; omega, by show i + 1 ≤ _; omega, by show i + 1 ≤ 80; omega⟩, hc, mc, hd, md, putL (1 + R) lc k v, useL ld k v, A', rfl, rfl, hIc', hId', rfl, rfl, hnA', hlA', hAi', fun j => ?_, fun j w hj => ?_, by show 0 ≤ hc ∧ hc ≤ i + 1; omega, by show 0 ≤ mc ∧ mc ≤ i + 1; omega, by show 0 ≤ hd ∧ hd ≤ i + 1; omega, by show 0 ≤ md ∧ md ≤ i + 1; omega⟩, by show ((p.l.length : Int) - (i + 1)).toNat < (p.l.length - i).toNat; omega⟩)
        · rw [lookup_useJ, hlk, hdA]
        · have := putL_sub _ hIc.nd _ _ _ _ hj
          rw [lookup_useJ] at this
          rw [hlk]
          split at this
          · rename_i e; rw [if_pos e]; exact this
          · rename_i e; rw [if_neg e]; exact hcA _ _ this
    · rw [get_p hIc k (by omega) (by omega), bsome, get_p hId k (by omega) (by omega), bsome]
      rw [len_valsL]
      have hcl := hcA k
      have hdl := hdA k
      have fin : ∀ (hc' mc' hd' md' : Int) (lc' ld' : AL), CInv (1 + R) lc' → CInv 81 ld' → A.length = ld'.length → (∀ j, ld'.lookup j = ld.lookup j) → (∀ j, lc'.lookup j = lc.lookup j) → (0 ≤ hc' ∧ hc' ≤ i + 1) → (0 ≤ mc' ∧ mc' ≤ i + 1) → (0 ≤ hd' ∧ hd' ≤ i + 1) → (0 ≤ md' ∧ md' ≤ i + 1) →
          Ok (if I64 (i + 1) then some (St.next (keysL A, valsL A, i + 1, CA (1 + R) hc' mc' lc', CA 81 hd' md' ld')) else none) fun y : St (List Int × List Int × Int × Cach × Cach) (Ex (Cach × Cach) Bool) => match y with
            | .next z => ((0 ≤ z.2.2.1 ∧ z.2.2.1 ≤ p.l.length ∧ z.2.2.1 ≤ 80) ∧ HInv (1 + R) z.2.2.1 z.2.2.2.1 z.2.2.2.2 z.1 z.2.1) ∧ (p.l.length - z.2.2.1).toNat < (p.l.length - i).toNat
            | .done b => ∃ y, b = Ex.go y := by
        intro hc' mc' hd' md' lc' ld' i1 i2 i3 i4 i5 i6 i7 i8 i9
        exact Ok.gd (by unfold I64; omega) (Ok.ret ⟨⟨⟨by show 0 ≤ i + 1; omega, by show i + 1 ≤ _; omega, by show i + 1 ≤ 80; omega⟩, hc', mc', hd', md', lc', ld', A, rfl, rfl, i1, i2, rfl, rfl, hnA, i3, by show (A.length : Int) ≤ i + 1; omega, fun j => by rw [i4, hdA], fun j w hj => hcA j w (by rw [← i5]; exact hj), i6, i7, i8, i9⟩, by show ((p.l.length : Int) - (i + 1)).toNat < (p.l.length - i).toNat; omega⟩)
      have usel : ∀ (l : AL) (w : Int), l.lookup k = some w → ∀ j, (useL l k w).lookup j = l.lookup j := fun l w hw j => by
        rw [lookup_useJ]
        split
        · rename_i e; rw [e, hw]
        · rfl
      have uslen : ∀ (l : AL) (w : Int), (keysL l).Nodup → l.lookup k = some w → (useL l k w).length = l.length := fun l w hn hw => by
        have := len_drop_mem (lookup_mem hw) hn
        unfold useL; simp; omega
      cases hlc2 : lc.lookup k with
      | none =>
        cases hld2 : ld.lookup k with
        | none =>
          have ha : a = -1 := by
            rcases hat2 with ⟨h, _⟩ | ⟨_, _, h⟩
            · exact h
            · rw [← hdl, hld2] at h; cases h
          subst ha
          refine Ok.gd (fun h => absurd h (by simp)) (Ok.gd (fun _ h => absurd h (by simp)) (Ok.ite (fun hx => absurd hx (by simp)) fun _ => ?_))
          exact (fin hc (mc + 1) hd (md + 1) lc ld hIc hId hlA (fun _ => rfl) (fun _ => rfl) (by omega) (by omega) (by omega) (by omega)).mono fun y hy => by cases y <;> exact hy
        | some w =>
          have ha : 0 ≤ a ∧ a < A.length ∧ gi (valsL A) a = w := by
            rcases hat2 with ⟨_, h⟩ | ⟨h1, h2, h⟩
            · rw [← hdl, hld2] at h; cases h
            · rw [← hdl, hld2] at h; cases h; exact ⟨h1, h2, rfl⟩
          have hda : decide (0 ≤ a) = true := decide_eq_true ha.1
          refine Ok.gd (fun h => absurd h (by simp)) (Ok.gd (fun _ _ => ⟨ha.1, by omega⟩) (Ok.ite (fun hx => absurd hx (by simp [hda, ha.2.2])) fun _ => ?_))
          exact (fin hc (mc + 1) (hd + 1) md lc (useL ld k w) hIc (hId.use (lookup_mem hld2) w) (by rw [uslen ld w hId.nd hld2, hlA]) (usel ld w hld2) (fun _ => rfl) (by omega) (by omega) (by omega) (by omega)).mono fun y hy => by cases y <;> exact hy
      | some w1 =>
        have hAk := hcl w1 hlc2
        cases hld2 : ld.lookup k with
        | none => rw [hdl, hAk] at hld2; cases hld2
        | some w =>
          have hww : w = w1 := by rw [hdl, hAk] at hld2; cases hld2; rfl
          subst hww
          have ha : 0 ≤ a ∧ a < A.length ∧ gi (valsL A) a = w := by
            rcases hat2 with ⟨_, h⟩ | ⟨h1, h2, h⟩
            · rw [hAk] at h; cases h
            · rw [hAk] at h; cases h; exact ⟨h1, h2, rfl⟩
          have hda : decide (0 ≤ a) = true := decide_eq_true ha.1
          have hna : ¬ a < 0 := by omega
          refine Ok.gd (fun _ _ => ⟨ha.1, by omega⟩) (Ok.gd (fun _ _ => ⟨ha.1, by omega⟩) (Ok.ite (fun hx => absurd hx (by simp [hda, ha.2.2, hna])) fun _ => ?_))
          exact (fin (hc + 1) mc (hd + 1) md (useL lc k w) (useL ld k w) (hIc.use (lookup_mem hlc2) w) (hId.use (lookup_mem hld2) w) (by rw [uslen ld w hId.nd hld2, hlA]) (usel ld w hld2) (usel lc w hlc2) (by omega) (by omega) (by omega) (by omega)).mono fun y hy => by cases y <;> exact hy
  · rintro x ⟨y, rfl⟩
    simp only [Ex.then]
    rw [wakes_p]
    exact Ok.ret rfl
end Go.Proofs.Ytacpdjccbadomaa
