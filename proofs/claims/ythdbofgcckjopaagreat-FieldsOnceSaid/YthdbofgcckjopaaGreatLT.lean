/-
  Fields that are kept: what each call answers, whatever was asked ahead. The conditions stand in each lemma.
-/
import Derived.Test.YthdbofgcckjopaaGreatLI
import Derived.Test.YthdbofgcckjopaaGreatCP
import Derived.Test.YthdbofgcckjopaaGreatW5
set_option linter.unusedVariables false
set_option linter.unusedSimpArgs false
namespace Go.Proofs.YthdbofgcckjopaaGreat
open Go.Vg
theorem eqBld_p {a b : List Bld} (h : a.length ≤ 9223372036854775807) : slices_EqualBld a b = some (decide (a = b)) := eqF_eq h
theorem eqByte_p {a b : List UInt8} (ha : a.length ≤ 9223372036854775807) : slices_EqualBytes a b = some (decide (a = b)) := by
  unfold slices_EqualBytes
  refine Ok.eq (Ok.ite (fun hn => Ok.ret (decide_eq_false (fun e => hn (by rw [e]))).symm) (fun hn => ?_))
  have hl : a.length = b.length := by omega
  refine Ok.bind (R := fun x => x = if a = b then Ex.go () else Ex.up false) (Ok.loop (fun i : Int => 0 ≤ i ∧ i ≤ a.length ∧ ∀ j : Int, 0 ≤ j → j < i → gi a j = gi b j) (fun i => (a.length - i).toNat) ⟨by omega, by omega, fun j h0 h1 => by omega⟩ (by unfold FUEL; omega) ?_) ?_
  · rintro i ⟨h0, h1, hq⟩
    refine Ok.ite (fun hlt => ?_) (fun hlt => Ok.ret ?_)
    · refine Ok.gd ⟨h0, hlt⟩ (Ok.gd ⟨h0, by omega⟩ (Ok.ite (fun hne => Ok.ret ?_) (fun he => Ok.gd (by unfold I64; omega) (Ok.ret ?_))))
      · show Ex.up false = _
        rw [if_neg (fun e => hne (by rw [e]))]
      · refine ⟨⟨by omega, by omega, fun j j0 j1 => ?_⟩, by omega⟩
        by_cases hj : j = i
        · subst hj
          have he := Decidable.not_not.1 he
          exact UInt8.toNat_inj.1 (by omega)
        · exact hq j j0 (by omega)
    · show Ex.go () = _
      rw [if_pos (ext_gi hl fun j j0 j1 => hq j j0 (by omega))]
  · rintro x rfl
    by_cases hab : a = b
    · rw [if_pos hab]; exact Ok.ret (by rw [decide_eq_true hab])
    · rw [if_neg hab]; exact Ok.ret (by rw [decide_eq_false hab])
/-! ### Caches: what is found behind a step -/
theorem lookup_pre {a b : AL} {j v : Int} (h : a.lookup j = some v) : (a ++ b).lookup j = some v := by
  induction a with
  | nil => simp at h
  | cons p a ih =>
    rw [List.cons_append]
    by_cases e : j = p.1
    · subst e
      obtain ⟨k, u⟩ := p
      rw [lookup_eq] at h ⊢
      exact h
    · rw [lookup_ne e] at h ⊢
      exact ih h
theorem put_lookup {room : Int} {l : AL} {k v j u : Int} (h : (putL room l k v).lookup j = some u) : (j = k ∧ u = v) ∨ (j ≠ k ∧ l.lookup j = some u) := by
  have h2 : (useL l k v).lookup j = some u := by
    unfold putL at h
    split at h
    · have hne : useL l k v ≠ [] := by simp [useL]
      rw [← List.dropLast_concat_getLast hne]
      exact lookup_pre h
    · exact h
  have e := congrFun (lookup_use l k v) j
  rw [e] at h2
  unfold mPut at h2
  split at h2
  · rename_i hj; exact .inl ⟨hj, (Option.some.inj h2).symm⟩
  · rename_i hj; exact .inr ⟨hj, h2⟩
theorem put_head {room : Int} {l : AL} {k v : Int} (h : 1 ≤ room) : (putL room l k v).lookup k = some v := by
  unfold putL
  split
  · rename_i hr
    obtain ⟨x, r, hx⟩ : ∃ x r, dropL l k = x :: r := by
      cases hd : dropL l k with
      | nil => simp [useL, hd] at hr; omega
      | cons x r => exact ⟨x, r, rfl⟩
    unfold useL
    rw [hx]
    show List.lookup k ((k, v) :: (x :: r).dropLast) = _
    rw [lookup_eq]
  · unfold useL; rw [lookup_eq]
theorem use_same {l : AL} {k v : Int} (h : l.lookup k = some v) (j : Int) : (useL l k v).lookup j = l.lookup j := by
  have e := congrFun (lookup_use l k v) j
  rw [e]
  unfold mPut
  split
  · rename_i hj; rw [hj, h]
  · rfl
theorem mem_of_lookup2 {l : AL} {k v : Int} (h : l.lookup k = some v) : k ∈ keysL l := Classical.byContradiction fun hn => by rw [lookup_none hn] at h; cases h
/-! ### What is taken away -/
theorem sweepL_ok {α : Type} {room m : Int} {L : List (Int × α)} {l0 : AL} (hm : 0 ≤ m ∧ m ≤ 1000000) (hL : ∀ key k, l0.lookup key = some k → ∃ d, kget L k = some d) : ∀ {r : List Int} {h : Int} {l : AL} {K : List (Int × α)}, (∀ key ∈ r, key ∈ keysL l0) → CInv room l → (∀ j, l.lookup j = l0.lookup j) → 0 ≤ h → h + r.length ≤ 1000000 → (∀ k d, kget K k = some d → kget L k = some d) →
    ∃ h' l' K', sweepL L r (CA room h m l) K = some (CA room h' m l', K') ∧ h ≤ h' ∧ h' ≤ h + r.length ∧ CInv room l' ∧ (∀ j, l'.lookup j = l0.lookup j) ∧ (∀ k d, kget K' k = some d → kget L k = some d) ∧ (∀ k, (kget K k).isSome = true → (kget K' k).isSome = true) ∧ ∀ key ∈ r, ∀ k, l0.lookup key = some k → (kget K' k).isSome = true
  | [], h, l, K, _, hI, hl, h0, h1, hK => ⟨h, l, K, rfl, Int.le_refl _, by simp, hI, hl, hK, fun _ h => h, fun key hk => by cases hk⟩
  | key :: r, h, l, K, hr, hI, hl, h0, h1, hK => by
    obtain ⟨v, hv⟩ := lookup_some (hr key (List.mem_cons_self ..))
    obtain ⟨d, hd⟩ := hL key v hv
    have hv' : l.lookup key = some v := (hl key).trans hv
    have hlen : ((key :: r).length : Int) = r.length + 1 := by simp
    have hg := get_p (h := h) hI key (by omega) hm
    rw [hv'] at hg
    dsimp only at hg
    have hI' := hI.use (mem_of_lookup2 hv') v
    have hl' : ∀ j, (useL l key v).lookup j = l0.lookup j := fun j => (use_same hv' j).trans (hl j)
    obtain ⟨h', l', K', e, a1, a2, a3, a4, a5, a6, a7⟩ := sweepL_ok hm hL (r := r) (h := h + 1) (l := useL l key v) (K := kput K v d) (fun x hx => hr x (List.mem_cons_of_mem _ hx)) hI' hl' (by omega) (by omega) (fun k u hu => by
      rw [kget_put] at hu
      split at hu
      · rename_i hk; rw [hk, ← hu]; exact hd
      · exact hK k u hu)
    refine ⟨h', l', K', ?_, by omega, by omega, a3, a4, a5, fun k hk => a6 k (by rw [kget_put]; split; rfl; exact hk), fun x hx k hk => ?_⟩
    · show Option.bind (cache_Cache_Get (CA room h m l) key) _ = _
      rw [hg, bsome, if_pos rfl, hd, bsome]
      exact e
    · rcases List.mem_cons.1 hx with rfl | hx
      · rw [hv] at hk; cases hk
        exact a6 v (by rw [kget_put, if_pos rfl]; rfl)
      · exact a7 x hx k hk
theorem sweepF_ok {α : Type} {room h m : Int} {L : List (Int × α)} {l : AL} (hI : CInv room l) (hm : 0 ≤ m ∧ m ≤ 1000000) (hh : 0 ≤ h ∧ h ≤ 900000) (hL : ∀ key k, l.lookup key = some k → ∃ d, kget L k = some d) :
    ∃ h' l' K', sweepF (CA room h m l) L = some (CA room h' m l', K') ∧ h ≤ h' ∧ h' ≤ h + 4096 ∧ CInv room l' ∧ (∀ j, l'.lookup j = l.lookup j) ∧ (∀ k d, kget K' k = some d → kget L k = some d) ∧ ∀ key k, l.lookup key = some k → kget K' k = kget L k := by
  have hlen := hI.len
  have htop := hI.top
  have hkl : (CA room h m l).keys.length = l.length := len_keysL l
  unfold sweepF
  rw [if_pos (by omega)]
  by_cases hc : (L.length : Int) ≤ 2 * ((CA room h m l).keys.length : Int)
  · rw [if_pos hc]
    exact ⟨h, l, L, rfl, Int.le_refl _, by omega, hI, fun _ => rfl, fun _ _ e => e, fun _ _ _ => rfl⟩
  · rw [if_neg hc]
    obtain ⟨h', l', K', e, a1, a2, a3, a4, a5, a6, a7⟩ := sweepL_ok (room := room) (m := m) (L := L) (l0 := l) hm hL (r := (CA room h m l).keys.reverse) (h := h) (l := l) (K := []) (fun key hk => (List.mem_reverse.1 hk : key ∈ keysL l)) hI (fun _ => rfl) hh.1 (by rw [List.length_reverse]; omega) (fun k d e => (by cases e))
    rw [List.length_reverse] at a2
    refine ⟨h', l', K', e, a1, by omega, a3, a4, a5, fun key k hk => ?_⟩
    have h1 := a7 key (List.mem_reverse.2 (mem_of_lookup2 hk)) k hk
    obtain ⟨d, hd⟩ := Option.isSome_iff_exists.1 h1
    rw [hd, a5 k d hd]
/-! ### What is kept is right -/
def RightD (g : Grd) (l : List Bld) (key : Int) (d : List Int) : Prop := ∀ cls size goal, (0 ≤ cls ∧ cls ≤ 2) → (0 ≤ size ∧ size ≤ 3) → (0 ≤ goal ∧ goal < 16384) → key = (4 * cls + size) * 128 * 128 + goal → ∃ n, field_Open g l cls size = some n ∧ field_Net_Toward n goal = some d
structure FOk (n room : Int) (x : Fld) : Prop where
  c : ∃ h m l, x.c = CA room h m l ∧ CInv room l ∧ (0 ≤ h ∧ h ≤ 5000 * n) ∧ (0 ≤ m ∧ m ≤ 5000 * n) ∧ ∀ key k, l.lookup key = some k → k ≤ x.count ∧ ∃ d, kget x.ways k = some d ∧ RightD x.g x.l key d
  ways : ∀ k d, kget x.ways k = some d → k ≤ x.count
  nets : ∀ k nn, kget x.nets k = some nn → ∀ cls size, (0 ≤ size ∧ size ≤ 3) → k = 4 * cls + size → field_Open x.g x.l cls size = some nn
  bd : (0 ≤ x.made ∧ x.made ≤ n) ∧ (0 ≤ x.count ∧ x.count ≤ n) ∧ 0 ≤ n ∧ n ≤ 100
  sz : x.l.length ≤ 1000000 ∧ x.g.tiles.length ≤ 1000000
theorem new_ok {room : Int} (h : 1 ≤ room ∧ room ≤ 4096) : ∃ x, fields_New room = some (some x, 0) ∧ FOk 0 room x ∧ x.made = 0 ∧ x.c = CA room 0 0 [] := by
  refine ⟨⟨CA room 0 0 [], 0, false, ⟨0, 0, []⟩, [], [], [], 0⟩, ?_, ⟨⟨0, 0, [], rfl, CInv.nil h, by omega, by omega, fun key k e => (by cases e)⟩, fun k d e => (by cases e), fun k d e => (by cases e), ⟨by simp, by simp, by simp⟩, by simp⟩, rfl, rfl⟩
  unfold fields_New
  rw [new_p h, bsome]
  rfl
theorem new_no {room : Int} (h : ¬ (1 ≤ room ∧ room ≤ 4096)) : fields_New room = some (none, 1) := by
  unfold fields_New cache_New
  rw [if_pos (by omega), bsome]
theorem forget_ok {n room : Int} {x : Fld} (hx : FOk n room x) : ∃ x', fields_Forget x = some x' ∧ FOk n room x' := by
  obtain ⟨h, m, l, hc, hI, hh, hm, _⟩ := hx.c
  refine ⟨⟨CA room h m [], x.made, false, x.g, x.l, [], [], x.count⟩, ?_, ⟨⟨h, m, [], rfl, CInv.nil ⟨hI.pos, hI.top⟩, hh, hm, fun key k e => (by cases e)⟩, fun k d e => (by cases e), fun k d e => (by cases e), hx.bd, hx.sz⟩⟩
  unfold fields_Forget cache_Cache_Clear
  rw [hc, bsome]
  rfl
theorem Grd.eq3 {a b : Grd} (h1 : a.w = b.w) (h2 : a.h = b.h) (h3 : a.tiles = b.tiles) : a = b := by
  cases a; cases b; simp_all
theorem same_p {x : Fld} {g : Grd} {l : List Bld} (hl : x.l.length ≤ 1000000) (hg : x.g.tiles.length ≤ 1000000) : ∃ b, fields_same x g l = some b ∧ (b = true ↔ x.has = true ∧ x.g = g ∧ x.l = l) := by
  unfold fields_same
  by_cases h1 : ((x.has = true) ∧ (x.g.w = g.w)) ∧ (x.g.h = g.h)
  · rw [if_pos h1, eqBld_p (by omega), bsome, bsome]
    by_cases h2 : x.l = l
    · rw [decide_eq_true h2, if_pos rfl, eqByte_p (by omega), bsome, bsome]
      refine ⟨_, rfl, ?_⟩
      rw [decide_eq_true_iff]
      exact ⟨fun h3 => ⟨h1.1.1, Grd.eq3 h1.1.2 h1.2 h3, h2⟩, fun h3 => by rw [h3.2.1]⟩
    · rw [decide_eq_false h2, if_neg (by simp), bsome]
      exact ⟨false, rfl, by simp [h2]⟩
  · rw [if_neg h1, bsome, if_neg (by simp), bsome]
    exact ⟨false, rfl, ⟨fun e => (by cases e), fun h3 => absurd ⟨⟨h3.1, by rw [h3.2.1]⟩, by rw [h3.2.1]⟩ h1⟩⟩
theorem on_ok {n room : Int} {x : Fld} {g : Grd} {l : List Bld} (hx : FOk n room x) (hl : l.length ≤ 1000000) (hg : g.tiles.length ≤ 1000000) :
    ∃ x', fields_on x g l = some x' ∧ FOk n room x' ∧ x'.g = g ∧ x'.l = l ∧ x'.has = true ∧ x'.made = x.made ∧ (x.has = true ∧ x.g = g ∧ x.l = l → x' = x) ∧ (x.c = CA room 0 0 [] → x'.c = CA room 0 0 []) := by
  obtain ⟨b, hb, hbb⟩ := same_p (g := g) (l := l) hx.sz.1 hx.sz.2
  unfold fields_on
  rw [hb, bsome]
  by_cases h : b = true
  · rw [if_pos h]
    obtain ⟨h1, h2, h3⟩ := hbb.1 h
    exact ⟨x, rfl, hx, h2, h3, h1, rfl, fun _ => rfl, fun e => e⟩
  · rw [if_neg h]
    obtain ⟨hh, m, ll, hc, hI, hhb, hm, _⟩ := hx.c
    have e1 : cache_Cache_Clear x.c = some (CA room hh m []) := by unfold cache_Cache_Clear; rw [hc]; rfl
    have e2 : ground_Own g = some g := by
      unfold ground_Own slices_Clone_Byte
      rw [if_pos (by omega), bsome]
    have e3 : slices_Clone_Bld l = some l := by unfold slices_Clone_Bld; rw [if_pos (by omega)]
    rw [e1, bsome, e2, bsome, e3, bsome]
    refine ⟨_, rfl, ⟨⟨hh, m, [], rfl, CInv.nil ⟨hI.pos, hI.top⟩, hhb, hm, fun key k e => (by cases e)⟩, fun k d e => (by cases e), fun k d e => (by cases e), hx.bd, ⟨hl, hg⟩⟩, rfl, rfl, rfl, rfl, fun hs => absurd (hbb.2 hs) h, fun e => ?_⟩
    show CA room hh m [] = _
    rw [hc] at e
    unfold CA at e ⊢
    simp only [Cach.mk.injEq] at e ⊢
    exact ⟨trivial, trivial, trivial, e.2.2.2.1, e.2.2.2.2⟩
theorem open_ok {g : Grd} {l : List Bld} {c s : Int} (h : AOk g l c s) : ∃ fr, GdF g l c s fr ∧ field_Open g l c s = some ⟨g, c, fr⟩ := by
  obtain ⟨fr, e, hfr⟩ := fit_f h
  exact ⟨fr, hfr, by unfold field_Open; rw [e, bsome]⟩
theorem net_ok {n room : Int} {x : Fld} {g : Grd} {l : List Bld} {cls size : Int} (hx : FOk n room x) (ha : AOk g l cls size) (hl : l.length ≤ 1000000) (hg : g.tiles.length ≤ 1000000) :
    ∃ nn x', fields_Net x g l cls size = some (nn, x') ∧ field_Open g l cls size = some nn ∧ FOk n room x' ∧ x'.g = g ∧ x'.l = l ∧ x'.has = true ∧ x'.made = x.made ∧ (x.has = true ∧ x.g = g ∧ x.l = l → x'.c = x.c ∧ x'.ways = x.ways) ∧ (x.c = CA room 0 0 [] → x'.c = CA room 0 0 []) := by
  obtain ⟨x1, e1, h1, hg1, hl1, hh1, hm1, hs1, hc1⟩ := on_ok (g := g) (l := l) hx hl hg
  obtain ⟨fr, _, ho⟩ := open_ok ha
  have h2 := ha.2
  unfold fields_Net
  rw [e1, bsome, if_pos (by unfold I64; omega), if_pos (by unfold I64; omega)]
  cases hk : kget x1.nets (4 * cls + size) with
  | some nn =>
    have h3 := h1.nets _ _ hk cls size ha.2.2 rfl
    rw [hg1, hl1] at h3
    exact ⟨nn, x1, rfl, h3, h1, hg1, hl1, hh1, hm1, fun hs => by rw [hs1 hs]; exact ⟨rfl, rfl⟩, hc1⟩
  | none =>
    have ho' : field_Open x1.g x1.l cls size = some ⟨g, cls, fr⟩ := by rw [hg1, hl1]; exact ho
    refine ⟨⟨g, cls, fr⟩, ⟨x1.c, x1.made, x1.has, x1.g, x1.l, kput x1.nets (4 * cls + size) ⟨g, cls, fr⟩, x1.ways, x1.count⟩, ?_, ho, ⟨h1.c, h1.ways, fun k nn hkk c s hsb hke => ?_, h1.bd, h1.sz⟩, hg1, hl1, hh1, hm1, fun hs => by rw [hs1 hs]; exact ⟨rfl, rfl⟩, hc1⟩
    · show Option.bind (field_Open x1.g x1.l cls size) _ = _
      rw [ho', bsome]
    · dsimp only at hkk ⊢
      rw [kget_put] at hkk
      split at hkk
      · rename_i hke2
        have hcs : c = cls ∧ s = size := by omega
        rw [hcs.1, hcs.2, ← hkk]; exact ho'
      · exact h1.nets k nn hkk c s hsb hke
/-- The field of a goal is at hand. -/
def Hot (x : Fld) (g : Grd) (l : List Bld) (cls size goal : Int) : Prop := x.has = true ∧ x.g = g ∧ x.l = l ∧ (x.c.vals ((4 * cls + size) * 128 * 128 + goal)).isSome = true
theorem goal_bd {g : Grd} (hg : GOk g) {goal : Int} (hgo : 0 ≤ goal ∧ goal < g.w * g.h) : goal < 16384 := by
  have := mul_bd (a := g.w) (b := g.h) (A := 128) (B := 128) (by have := hg.1; omega) (by have := hg.2.1; omega)
  omega
theorem ways_ok {n room : Int} {x : Fld} {g : Grd} {l : List Bld} {cls size goal : Int} (hx : FOk n room x) (hn : n < 100) (ha : AOk g l cls size) (hgo : 0 ≤ goal ∧ goal < g.w * g.h) (hl : l.length ≤ 1000000) :
    ∃ nn d x', field_Open g l cls size = some nn ∧ field_Net_Toward nn goal = some d ∧ fields_Ways x g l cls size goal = some (d, x') ∧ FOk (n + 1) room x' ∧ Hot x' g l cls size goal ∧ (Hot x g l cls size goal → x'.made = x.made) ∧ (x.c = CA room 0 0 [] → x'.made = x.made + 1) := by
  have hgk := ha.1.1
  have hgb := goal_bd hgk hgo
  have hga := hgk.area
  have hgl := hgk.2.2.1
  have hA : g.w * g.h ≤ 16384 := mul_bd (a := g.w) (b := g.h) (A := 128) (B := 128) (by have := hgk.1; omega) (by have := hgk.2.1; omega) |>.2
  obtain ⟨nn, x1, e1, ho, h1, hg1, hl1, hh1, hm1, hs1, hc1⟩ := net_ok hx ha hl (by omega)
  obtain ⟨fr, hfr, ho2⟩ := open_ok ha
  have hnn : nn = ⟨g, cls, fr⟩ := Option.some.inj (ho.symm.trans ho2)
  obtain ⟨d, ed, _⟩ := toward_b (g := g) (c := cls) (fr := fr) (goal := goal) hgk ha.2.1 hfr.len hgo
  rw [← hnn] at ed
  have h2 := ha.2
  obtain ⟨h, m, al, hc, hI, hh, hm, hal⟩ := h1.c
  have hb := h1.bd
  obtain ⟨K, hK⟩ : ∃ K, (4 * cls + size) * 128 * 128 + goal = K := ⟨_, rfl⟩
  have hRight : ∀ d', RightD g l K d' → d' = d := fun d' hr => by
    obtain ⟨n2, o1, o2⟩ := hr cls size goal ha.2.1 ha.2.2 ⟨hgo.1, hgb⟩ hK.symm
    have := Option.some.inj (ho.symm.trans o1); subst this
    exact Option.some.inj (o2.symm.trans ed)
  have hRd : RightD g l K d := fun c' s' go' hc' hs' hgo' hk' => by
    have h5 : c' = cls ∧ s' = size ∧ go' = goal := by omega
    rw [h5.1, h5.2.1, h5.2.2]
    exact ⟨nn, ho, ed⟩
  have hget := get_p (h := h) (m := m) hI K (by omega) (by omega)
  rw [← hc] at hget
  unfold fields_Ways
  rw [e1, bsome, if_pos (by unfold I64; omega), if_pos (by unfold I64; omega), if_pos (by unfold I64; omega)]
  dsimp only
  unfold Hot
  rw [hK, hget, bsome]
  have hhot : ∀ (p : (x.c.vals K).isSome = true) (q : x.has = true ∧ x.g = g ∧ x.l = l), (al.lookup K).isSome = true := fun p q => by
    rw [← (hs1 q).1, hc] at p; exact p
  cases hk : al.lookup K with
  | some k =>
    dsimp only
    obtain ⟨hkc, d', hd', hr'⟩ := hal K k hk
    rw [hg1, hl1] at hr'
    have := hRight d' hr'; subst this
    rw [if_pos rfl, hd', bsome]
    refine ⟨nn, d', _, ho, ed, rfl, ⟨⟨h + 1, m, useL al K k, rfl, hI.use (mem_of_lookup2 hk) k, by omega, by omega, fun key k2 hk2 => ?_⟩, h1.ways, h1.nets, ⟨by have := hb.1; dsimp only; omega, by have := hb.2.1; dsimp only; omega, by omega, by omega⟩, h1.sz⟩, ⟨hh1, hg1, hl1, ?_⟩, fun _ => hm1, fun e => ?_⟩
    · rw [use_same hk] at hk2; exact hal key k2 hk2
    · show ((useL al K k).lookup K).isSome = true
      rw [use_same hk, hk]; rfl
    · have h6 := hc1 e
      rw [hc] at h6
      have h7 : (fun k => al.lookup k) = fun k => ([] : AL).lookup k := by
        unfold CA at h6; simp only [Cach.mk.injEq] at h6; exact h6.2.1
      have h8 := congrFun h7 K
      rw [hk] at h8; cases h8
  | none =>
    dsimp only
    rw [if_neg (by simp), if_pos (by unfold I64; omega), if_pos (by unfold I64; omega), put_p hI, bsome, ed, bsome]
    have hfresh : kget x1.ways (x1.count + 1) = none := by
      cases hw : kget x1.ways (x1.count + 1) with
      | none => rfl
      | some d' => have := h1.ways _ _ hw; omega
    rw [if_pos hfresh]
    have hold : ∀ key k, (putL room al K (x1.count + 1)).lookup key = some k → ∃ d', kget (kput x1.ways (x1.count + 1) d) k = some d' ∧ k ≤ x1.count + 1 ∧ RightD g l key d' := fun key k hkk => by
      rcases put_lookup hkk with ⟨rfl, rfl⟩ | ⟨hne, hkk⟩
      · exact ⟨d, by rw [kget_put, if_pos rfl], Int.le_refl _, hRd⟩
      · obtain ⟨hkc, d', hd', hr'⟩ := hal key k hkk
        rw [hg1, hl1] at hr'
        exact ⟨d', by rw [kget_put, if_neg (by omega)]; exact hd', by omega, hr'⟩
    obtain ⟨h', l', W', es, b1, b2, b3, b4, b5, b6⟩ := sweepF_ok (h := h) (m := m + 1) (L := kput x1.ways (x1.count + 1) d) (hI.put K (x1.count + 1)) (by omega) (by omega) (fun key k hkk => let ⟨d', hd', _⟩ := hold key k hkk; ⟨d', hd'⟩)
    have hhead := put_head (l := al) (k := K) (v := x1.count + 1) hI.pos
    have hW : kget W' (x1.count + 1) = some d := by rw [b6 K _ hhead, kget_put, if_pos rfl]
    rw [es, bsome]
    dsimp only
    rw [hW, if_pos (show (some d).isSome = true from rfl)]
    refine ⟨nn, d, _, ho, ed, rfl, ⟨⟨h', m + 1, l', rfl, b3, by omega, by omega, fun key k hkk => ?_⟩, fun k d' hd' => ?_, h1.nets, ⟨by have := hb.1; dsimp only; omega, by have := hb.2.1; dsimp only; omega, by omega, by omega⟩, h1.sz⟩, ⟨hh1, hg1, hl1, ?_⟩, fun hot => ?_, fun e => by show x1.made + 1 = _; rw [hm1]⟩
    · rw [b4] at hkk
      obtain ⟨d', hd', hkc, hr'⟩ := hold key k hkk
      dsimp only
      rw [hg1, hl1]
      exact ⟨hkc, d', by rw [b6 key k hkk]; exact hd', hr'⟩
    · have := b5 k d' hd'
      rw [kget_put] at this
      dsimp only
      split at this
      · omega
      · have := h1.ways _ _ this; omega
    · show (l'.lookup K).isSome = true
      rw [b4, hhead]; rfl
    · have := hhot hot.2.2.2 ⟨hot.1, hot.2.1, hot.2.2.1⟩
      rw [hk] at this; cases this
theorem dirs_ok {n room : Int} {x : Fld} {g : Grd} {l : List Bld} {cls size goal : Int} (hx : FOk n room x) (hn : n < 100) (ha : AOk g l cls size) (hgo : 0 ≤ goal ∧ goal < g.w * g.h) (hl : l.length ≤ 1000000) :
    ∃ d x', (d.length : Int) = g.w * g.h ∧ throngref13_Dirs g l cls size goal = some d ∧ fields_Dirs x g l cls size goal = some (d, 0, x') ∧ FOk (n + 1) room x' ∧ Hot x' g l cls size goal ∧ (Hot x g l cls size goal → x'.made = x.made) ∧ (x.c = CA room 0 0 [] → x'.made = x.made + 1) := by
  have hgk := ha.1.1
  have hga := hgk.area
  have hgl := hgk.2.2.1
  have hA : g.w * g.h ≤ 16384 := mul_bd (a := g.w) (b := g.h) (A := 128) (B := 128) (by have := hgk.1; omega) (by have := hgk.2.1; omega) |>.2
  obtain ⟨nn, d, x', ho, ed, ew, h1, h2, h3, h4⟩ := ways_ok hx hn ha hgo hl
  obtain ⟨fr, hfr, ho2⟩ := open_ok ha
  have hnn : nn = ⟨g, cls, fr⟩ := Option.some.inj (ho.symm.trans ho2)
  obtain ⟨w, ew2, d2, hd2, hw2⟩ := toward_b (g := g) (c := cls) (fr := fr) (goal := goal) hgk ha.2.1 hfr.len hgo
  obtain ⟨w', e2, fr', d', hfr', hd', hw'⟩ := dirsR_b ha hgo
  have := GdF.uniq hgk hfr hfr'; subst this
  have := hd2.uniq hd'; subst this
  have := hw2.uniq hw'; subst this
  rw [hnn, ew2] at ed
  obtain rfl := Option.some.inj ed
  refine ⟨w, x', hw2.len, e2, ?_, h1, h2, h3, h4⟩
  unfold fields_Dirs
  have hwl := hw2.len
  rw [(mayF_b (by omega) (by omega)).t ha, bsome, if_neg (by simp)]
  unfold ground_Is
  rw [if_pos (fun _ => by unfold I64; omega), bsome, decide_eq_true hgo, if_neg (by simp), ew, bsome]
  unfold slices_Clone_Int
  rw [if_pos (by dsimp only; omega), bsome]
theorem dirs_form {x : Fld} {g : Grd} {l : List Bld} {cls size goal : Int} (ha : ¬ AOk g l cls size) (hl : l.length ≤ 1000000) (hg : g.tiles.length ≤ 1000000) : fields_Dirs x g l cls size goal = some ([], 1, x) := by
  unfold fields_Dirs
  rw [(mayF_b (by omega) (by omega)).f ha, bsome, if_pos (by rfl)]
theorem dirs_none {x : Fld} {g : Grd} {l : List Bld} {cls size goal : Int} (ha : AOk g l cls size) (hgo : ¬ (0 ≤ goal ∧ goal < g.w * g.h)) (hl : l.length ≤ 1000000) : fields_Dirs x g l cls size goal = some ([], 3, x) := by
  have hga := ha.1.1.area
  have hgl := ha.1.1.2.2.1
  unfold fields_Dirs
  rw [(mayF_b (by omega) (by omega)).t ha, bsome, if_neg (by simp)]
  unfold ground_Is
  rw [if_pos (fun _ => by unfold I64; omega), bsome, decide_eq_false hgo, if_pos (by rfl)]
end Go.Proofs.YthdbofgcckjopaaGreat
