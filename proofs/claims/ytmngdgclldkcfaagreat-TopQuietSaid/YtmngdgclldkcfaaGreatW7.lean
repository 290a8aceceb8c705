/-
  Texts of one's own, joined: TQ1 TQ2 TQ3 TQ4.
-/
import Derived.Test.YtmngdgclldkcfaaGreatA5
import Derived.Test.YtmngdgclldkcfaaGreatW6
set_option linter.unusedVariables false
set_option linter.unusedSimpArgs false
namespace Go.Proofs.YtmngdgclldkcfaaGreat
open Go.Vg
open Go
theorem loop_once {σ β:Type} {f:σ→Option (St σ β)} {s:σ} {b:β} (h:f s = some (St.done b)):Vg.loop f s = some b :=
  Ok.eq (Ok.loop (fun z=>z = s) (fun _=>0) rfl (by unfold FUEL; omega) (by rintro z rfl; rw [h]; exact Ok.ret rfl))
def GOk (g:Grd):Prop:=(1 ≤ g.w∧g.w ≤ 128)∧(1 ≤ g.h∧g.h ≤ 128)∧(g.tiles.length:Int) = g.w * g.h∧∀ i:Int,0 ≤ i→i < g.tiles.length→((gi g.tiles i).toNat:Int) ≤ 5
theorem side_b (n:Int):Bo (ground_Side n) (1 ≤ n∧n ≤ 128):=Bo.dec Iff.rfl
theorem max_b {l:List UInt8} (h0:1 ≤ l.length) (hl:l.length ≤ 9223372036854775806):Ok (slices_Max l) fun m=>(m ≤ 5 ↔ ∀ i:Int,0 ≤ i→i < l.length→((gi l i).toNat:Int) ≤ 5):=by
  unfold slices_Max
  rw [if_neg (by omega),bsome,if_pos (by omega)]
  refine Ok.bind (R:=fun m=>(m ≤ 5 ↔ ∀ i:Int,0 ≤ i→i < l.length→((gi l i).toNat:Int) ≤ 5)) (Ok.loop (fun z:Int × Int=>(1 ≤ z.2∧z.2 ≤ l.length)∧(z.1 ≤ 5 ↔ ∀ i:Int,0 ≤ i→i < z.2→((gi l i).toNat:Int) ≤ 5)) (fun z=>(l.length - z.2).toNat) ⟨by simp; omega,?_⟩ (by unfold FUEL; simp; omega) ?_) (fun x hx=>Ok.ret hx)
  · constructor
    · intro h i i0 i1
      have:i = 0:=by have:i < 1:=i1; omega
      rw [this]; exact h
    · intro h; exact h 0 (by omega) (by show (0:Int) < 1; omega)
  · rintro ⟨m,v⟩ ⟨⟨h1,h2⟩,h3⟩
    dsimp only at h1 h2 h3 ⊢
    refine Ok.ite (fun hlt=>?_) (fun hlt=>Ok.ret ?_)
    · refine Ok.gd (by omega) (Ok.gd (by unfold I64; omega) (Ok.ret ⟨⟨by show 1 ≤ v + 1∧v + 1 ≤ _; omega,?_⟩,by show ((l.length:Int) - (v + 1)).toNat < _; omega⟩))
      show max m ((gi l v).toNat:Int) ≤ 5 ↔ ∀ i:Int,0 ≤ i→i < v + 1→_
      constructor
      · intro h i i0 i1
        by_cases hi:i = v
        · subst hi; omega
        · exact h3.1 (by omega) i i0 (by omega)
      · intro h
        have h4:=h3.2 fun i i0 i1=>h i i0 (by omega)
        have h5:=h v (by omega) (by omega)
        omega
    · have:v = l.length:=by omega
      subst this; exact h3
theorem may_g {g:Grd} (hl:g.tiles.length ≤ 9223372036854775806):Bo (ground_May g) (GOk g):=by
  unfold ground_May
  by_cases hw:1 ≤ g.w∧g.w ≤ 128
  · rw [(side_b _).t hw,bsome]
    by_cases hh:1 ≤ g.h∧g.h ≤ 128
    · have:=mul_bd (a:=g.w) (b:=g.h) (A:=128) (B:=128) (by omega) (by omega)
      have:=Int.mul_le_mul_of_nonneg_left hh.1 (show 0 ≤ g.w by omega)
      refine Ok.bindE (x:=false) (by rw [if_neg (by simp),(side_b _).t hh]; rfl) (Ok.gd (fun _=>by unfold I64; omega) (Ok.ite (fun h=>Ok.ret ?_) (fun h=>?_)))
      · have h2:¬ (g.tiles.length:Int) = g.w * g.h:=h.resolve_left (by simp)
        exact ⟨fun e=>(by cases e),fun e=>absurd e.2.2.1 h2⟩
      · have h2:(g.tiles.length:Int) = g.w * g.h:=Classical.byContradiction fun e=>h (.inr e)
        refine Ok.bind (max_b (by omega) hl) fun m hm=>Ok.ret ?_
        rw [decide_eq_true_iff,hm]
        exact ⟨fun h=>⟨hw,hh,h2,h⟩,fun h=>h.2.2.2⟩
    · refine Ok.bindE (x:=true) (by rw [if_neg (by simp),(side_b _).f hh]; rfl) (Ok.gd (fun h=>absurd rfl h) (Ok.ite (fun _=>Ok.ret ⟨fun e=>(by cases e),fun e=>absurd e.2.1 hh⟩) (fun h=>absurd (.inl rfl) h)))
  · rw [(side_b _).f hw,bsome]
    refine Ok.bindE (x:=true) (by rw [if_pos (by rfl)]) (Ok.gd (fun h=>absurd rfl h) (Ok.ite (fun _=>Ok.ret ⟨fun e=>(by cases e),fun e=>absurd e.1 hw⟩) (fun h=>absurd (.inl rfl) h)))
theorem mayR_g {g:Grd} (hl:g.tiles.length ≤ 9223372036854775806):Bo (throngref5_Ground g) (GOk g):=by
  unfold throngref5_Ground
  by_cases hs:(1 ≤ g.w∧g.w ≤ 128)∧(1 ≤ g.h∧g.h ≤ 128)
  · have:=mul_bd (a:=g.w) (b:=g.h) (A:=128) (B:=128) (by omega) (by omega)
    refine Ok.gd (fun _=>by unfold I64; omega) (Ok.ite (fun h=>Ok.ret ⟨fun e=>(by cases e),fun e=>?_⟩) (fun h=>?_))
    · exact absurd e.2.2.1 (h.resolve_left (by omega))
    · have h2:(g.tiles.length:Int) = g.w * g.h:=Classical.byContradiction fun e=>h (.inr e)
      refine (scanBo (a:=0) (n:=g.tiles.length) (fun i=>((gi g.tiles i).toNat:Int) ≤ 5) (by omega) (fun v h0 h1 _=>?_) (fun v _ hv=>by rw [if_neg (by omega)])).iff ⟨fun h=>⟨hs.1,hs.2,h2,h⟩,fun h=>h.2.2.2⟩
      rw [if_pos h1,if_pos ⟨h0,h1⟩]
      exact Ok.ite (fun h=>Ok.ret ⟨rfl,by omega⟩) (fun h=>Ok.gd (by unfold I64; omega) (Ok.ret ⟨rfl,by omega⟩))
  · refine Ok.gd (fun h=>absurd h (fun h=>hs (by omega))) (Ok.ite (fun _=>Ok.ret ⟨fun e=>(by cases e),fun e=>absurd ⟨e.1,e.2.1⟩ hs⟩) (fun h=>absurd (.inl (by omega)) h))
theorem ownG_q {g:Grd} (h:g.tiles.length ≤ 1000000):ground_Own g = some g:=by
  unfold ground_Own slices_Clone_Byte
  rw [if_pos (by omega)]; rfl
def qw (n t:Int) (g:Grd):Wld:=⟨t,n,1,g,[],[]⟩
variable {n t:Int} {g:Grd}
theorem ownW_q (h:g.tiles.length ≤ 1000000):army_Own (qw n t g) = some (qw n t g):=by
  unfold army_Own
  show Option.bind (ground_Own g) _ = _
  rw [ownG_q h,bsome]; rfl
theorem new_q (hg:GOk g) (h:g.tiles.length ≤ 1000000) (hn:1 ≤ n∧n ≤ 8):world_New g n = some (qw n 0 g,0):=by
  unfold world_New
  rw [(may_g (by omega)).t hg,bsome,if_neg (by simp; omega),ownG_q h]; rfl
theorem world_q (h:g.tiles.length ≤ 1000000):eng_World (qw n t g) = some (qw n t g):=by
  unfold eng_World
  rw [ownW_q h]; rfl
theorem step_q (h:g.tiles.length ≤ 1000000) (ht:0 ≤ t∧t < 1000000):eng_Step (qw n t g) [] = some ([],0,qw n (t + 1) g):=by
  unfold eng_Step
  rw [if_neg (by show ¬ t = _; omega),if_neg (by simp),loop_once (b:=()) (by rw [if_neg (by simp)]),bsome,ownW_q h,bsome,if_pos (by rfl),if_pos (by show I64 (t + 1); unfold I64; omega)]; rfl
theorem mayB_q:build_May g [] = some true ∨ 281474976710656 < g.tiles.length:=by
  by_cases h:281474976710656 < g.tiles.length
  · exact .inr h
  · refine .inl ?_
    have hr:build_rising [] = some true:=by decide +kernel
    unfold build_May
    rw [if_neg (by simp),hr,bsome,bsome,if_neg (by simp),if_pos (by omega)]
    rw [loop_once (b:=Ex.go ()) (by dsimp only; rw [if_neg (by simp)]),bsome]; rfl
theorem mayW_q (hg:GOk g) (h:g.tiles.length ≤ 1000000) (hn:1 ≤ n∧n ≤ 8) (ht:0 ≤ t∧t ≤ 1000000):army_May (qw n t g) = some true:=by
  have hb:build_May g [] = some true:=mayB_q.resolve_right (by omega)
  have hc:slices_ContainsFuncB [] (fun y0=>army_form0_1 y0 (qw n t g)) = some false:=by
    unfold slices_ContainsFuncB slices_IndexFuncB
    rw [loop_once (b:=Ex.go ()) (by rw [if_neg (by simp)]),bsome]; rfl
  have hf:army_form0 (qw n t g) = some true:=by
    unfold army_form0
    rw [if_neg (by show ¬ ((((((t < 0) ∨ (1099511627776 < t)) ∨ (n < 1)) ∨ (8 < n)) ∨ ((1:Int) < 1)) ∨ ((1099511627776:Int) < 1)); omega)]
    show Option.bind (ground_May g) _ = _
    rw [(may_g (by omega)).t hg,bsome,if_neg (by simp)]
    show Option.bind (Option.bind (build_May g []) _) _ = _
    rw [hb,bsome,bsome,if_neg (by simp [qw])]
    show Option.bind (slices_ContainsFuncB [] _) _ = _
    rw [hc]; rfl
  have hr:army_riders (qw n t g) = some true:=by
    unfold army_riders
    rw [loop_once (b:=Ex.go ()) (by rw [if_neg (by simp [qw])]),bsome]; rfl
  unfold army_May
  rw [hf,bsome,if_neg (by simp),loop_once (b:=()) (by rw [if_neg (by simp [qw])]),bsome,loop_once (b:=Ex.go ()) (by rw [if_neg (by simp [qw])]),bsome]
  dsimp only [Ex.then]
  rw [if_pos (by rfl),hr]; rfl
theorem open_q {room:Int} (hg:GOk g) (h:g.tiles.length ≤ 1000000) (hn:1 ≤ n∧n ≤ 8) (ht:0 ≤ t∧t ≤ 1000000) (hr:1 ≤ room∧room ≤ 4096):eng_Open (qw n t g) room = some (some (qw n t g),0):=by
  have e:∃ x,fields_New room = some (some x,0):=by
    unfold fields_New cache_New
    rw [if_neg (by omega)]
    exact ⟨_,rfl⟩
  obtain ⟨x,e⟩:=e
  unfold eng_Open
  rw [e,bsome]
  dsimp only
  rw [if_neg (by simp),mayW_q hg h hn ht,bsome,bsome,if_neg (by simp),ownW_q h]; rfl
theorem put_q {b:List UInt8} {n:Int} (hb:b.length ≤ 1000000) (hn:n < 9223372036854775808):Ok (wire_Put b n) fun r=>r.length ≤ b.length + 10:=by
  unfold wire_Put
  refine Ok.bind (R:=fun z:Int × List UInt8=>z.2.length ≤ b.length + 9) (Ok.loop (fun z:Int × List UInt8=>∃ m:Nat,z.2.length + m = b.length + 9∧z.1 < 128 ^ m) (fun z=>z.1.toNat) ⟨9,rfl,hn⟩ (by unfold FUEL; dsimp only; omega) ?_) ?_
  · rintro ⟨v,l⟩ ⟨m,h1,h2⟩
    dsimp only at h1 h2 ⊢
    refine Ok.ite (fun hv=>Ok.gd (by omega) (Ok.gd (by omega) (Ok.ret ?_))) (fun hv=>Ok.ret ?_)
    · have e:(2:Int) ^ (7:Int).toNat = 128:=by decide
      dsimp only
      rw [e]
      cases m with
      | zero=>simp at h2; omega
      | succ m =>
        rw [Int.pow_succ] at h2
        exact ⟨⟨m,by rw [List.length_append]; simp; omega,Int.ediv_lt_of_lt_mul (by omega) h2⟩,by omega⟩
    · show l.length ≤ _; omega
  · rintro ⟨v,l⟩ hl
    dsimp only at hl ⊢
    exact Ok.gd (by omega) (Ok.ret (by rw [List.length_append]; simp; omega))
theorem sum_q {s:UInt64} {b:List UInt8} (hb:b.length ≤ 1000000):Ok (fnv_Sum s b) fun _=>True:=by
  unfold fnv_Sum
  refine Ok.bind (R:=fun _=>True) (Ok.loop (fun z:UInt64 × Int=>0 ≤ z.2∧z.2 ≤ b.length) (fun z=>(b.length - z.2).toNat) ⟨by simp,by simp⟩ (by unfold FUEL; dsimp only; omega) ?_) (fun x _=>Ok.ret trivial)
  rintro ⟨s,v⟩ ⟨h0,h1⟩
  dsimp only at h0 h1 ⊢
  exact Ok.ite (fun h=>Ok.gd ⟨h0,h⟩ (Ok.gd (by unfold I64; omega) (Ok.ret ⟨⟨by show 0 ≤ v + 1; omega,by show v + 1 ≤ _; omega⟩,by show ((b.length:Int) - (v + 1)).toNat < ((b.length:Int) - v).toNat; omega⟩))) (fun h=>Ok.ret trivial)
theorem bytes_q {s:UInt64}:Ok (fnv_Bytes s) fun r=>r.length ≤ 8:=by
  unfold fnv_Bytes
  refine Ok.bind (R:=fun r:List UInt8=>r.length ≤ 8) (Ok.loop (fun z:UInt64 × List UInt8 × Int=>(0 ≤ z.2.2∧z.2.2 ≤ 8)∧(z.2.1.length:Int) = z.2.2) (fun z=>(8 - z.2.2).toNat) ⟨⟨by simp,by simp⟩,rfl⟩ (by unfold FUEL; dsimp only; omega) ?_) (fun x h=>Ok.ret h)
  rintro ⟨s,l,v⟩ ⟨⟨h0,h1⟩,h2⟩
  dsimp only at h0 h1 h2 ⊢
  exact Ok.ite (fun h=>Ok.gd (by omega) (Ok.gd (by unfold I64; omega) (Ok.ret ⟨⟨⟨by show 0 ≤ v + 1; omega,by show v + 1 ≤ 8; omega⟩,by rw [List.length_append]; simp; omega⟩,by show (8 - (v + 1)).toNat < (8 - v).toNat; omega⟩))) (fun h=>Ok.ret (by show l.length ≤ 8; omega))
theorem raw_q {b:List UInt8} (hb:b.length ≤ 900000):Ok (wire_Raw b) fun r=>r.1.length ≤ b.length + 10:=by
  unfold wire_Raw
  rw [if_neg (by omega)]
  refine Ok.bind (put_q (by simp) (by omega)) fun x hx=>Ok.gd (by simp at hx; omega) (Ok.ret (by rw [List.length_append]; simp at hx; omega))
theorem lay1_q {l:List Int} {b:List UInt8} (hb:b.length ≤ 900000) (hl:l.length ≤ 100) (h:∀ v:Int,0 ≤ v→v < l.length→gi l v < 9223372036854775808):Ok (image_lay_1 l b) fun r=>r.length ≤ b.length + 10 * l.length:=by
  unfold image_lay_1
  refine Ok.bind (R:=fun r:List UInt8=>r.length ≤ b.length + 10 * l.length) (Ok.loop (fun z:Int × List UInt8=>(0 ≤ z.1∧z.1 ≤ l.length)∧(z.2.length:Int) ≤ b.length + 10 * z.1) (fun z=>(l.length - z.1).toNat) ⟨⟨by simp,by simp⟩,by simp⟩ (by unfold FUEL; dsimp only; omega) ?_) (fun x h=>Ok.ret h)
  rintro ⟨v,m⟩ ⟨⟨h0,h1⟩,h2⟩
  dsimp only at h0 h1 h2 ⊢
  exact Ok.ite (fun hv=>Ok.gd ⟨h0,hv⟩ (Ok.bind (put_q (by omega) (h v h0 hv)) fun x hx=>Ok.gd (by unfold I64; omega) (Ok.ret ⟨⟨⟨by show 0 ≤ v + 1; omega,by show v + 1 ≤ _; omega⟩,by show (x.length:Int) ≤ b.length + 10 * (v + 1); omega⟩,by show ((l.length:Int) - (v + 1)).toNat < ((l.length:Int) - v).toNat; omega⟩))) (fun hv=>Ok.ret (by show m.length ≤ _; omega))
theorem lay_q (hg:GOk g) (h:g.tiles.length ≤ 200000):Ok (mapcode_Lay g) fun r=>r.length ≤ 300000:=by
  unfold mapcode_Lay
  have h1:=hg.1; have h2:=hg.2.1
  refine Ok.bind (put_q (by simp) (by omega)) fun x hx=>Ok.bind (put_q (by simp at hx; omega) (by omega)) fun y hy=>?_
  simp at hx
  refine Ok.gd (by omega) ?_
  show Ok (Option.bind (fnv_Sum _ _) _) _
  refine Ok.bind (sum_q (by rw [List.length_append]; omega)) fun s _=>Ok.bind bytes_q fun z hz=>Ok.gd (by rw [List.length_append]; omega) (Ok.ret (by rw [List.length_append,List.length_append]; omega))
theorem sumW_q (hg:GOk g) (h:g.tiles.length ≤ 200000) (hn:n ≤ 8) (ht:t ≤ 1000000):∃ s,image_Sum (qw n t g) = some s:=by
  have key:Ok (image_Sum (qw n t g)) fun _=>True:=by
    unfold image_Sum
    show Ok (Option.bind (image_lay _) _) _
    refine Ok.bind (R:=fun r=>r.length ≤ 900000) ?_ fun r hr=>Ok.bind (sum_q (by omega)) fun _ _=>Ok.ret trivial
    unfold image_lay
    refine Ok.bind (lay1_q (by simp) (by simp) fun v v0 v1=>?_) fun x hx=>?_
    · have v1:v < 3:=v1
      obtain e | e | e:v = 0 ∨ v = 1 ∨ v = 2:=by omega
      · subst e; show t < _; omega
      · subst e; show n < _; omega
      · subst e; show (1:Int) < _; omega
    simp at hx
    refine Ok.bind (lay_q (g:=g) hg h) fun y hy=>Ok.bind (raw_q (by omega)) fun z hz=>Ok.gd (by omega) ?_
    refine Ok.bind (lay1_q (by rw [List.length_append]; omega) (by simp) fun v v0 v1=>?_) fun u hu=>?_
    · have v1:v < 1:=v1
      obtain rfl:v = 0:=by omega
      show ((0:Nat):Int) < _; omega
    rw [List.length_append] at hu
    simp at hu
    rw [loop_once (b:=u) (by dsimp only; rw [if_neg (by simp [qw])]),bsome]
    refine Ok.bind (lay1_q (by omega) (by simp) fun v v0 v1=>?_) fun w hw=>?_
    · have v1:v < 1:=v1
      obtain rfl:v = 0:=by omega
      show ((0:Nat):Int) < _; omega
    simp at hw
    rw [loop_once (b:=w) (by dsimp only; rw [if_neg (by simp [qw])]),bsome]
    exact Ok.ret (by omega)
  obtain ⟨s,e,_⟩:=key
  exact ⟨s,e⟩
end Go.Proofs.YtmngdgclldkcfaaGreat
set_option linter.unusedVariables false
set_option linter.unusedSimpArgs false
namespace Go.Proofs.YtmngdgclldkcfaaGreat
open Go.Vg
open Go
theorem gi_siG {α:Type} [Inhabited α] {l:List α} {j k:Int} {x:α} (hj:0 ≤ j∧j < l.length) (hk:0 ≤ k):gi (si l j x) k = if k = j then x else gi l k:=by
  by_cases e:k = j
  · rw [if_pos e,e,gi_si_self hj]
  · rw [if_neg e,gi_si_ne hj.1 hk fun h=>e h.symm]
theorem gi_mapp {l:Ones} {v:Int} (h:0 ≤ v∧v < l.length):gi (l.map One.p) v = (gi l v).p:=by
  obtain ⟨i,rfl⟩:∃ i:Nat,v = i:=⟨v.toNat,by omega⟩
  have h1:i < l.length:=by omega
  simp [gi,h1]
theorem si_mapp {l:Ones} {v:Int} {x:One}:(si l v x).map One.p = si (l.map One.p) v x.p:=by unfold si; rw [List.map_set]
structure QEnv (n d:Int) (g:Grd):Prop where
  gok:GOk g
  size:g.tiles.length ≤ 200000
  n:1 ≤ n∧n ≤ 4
  d:1 ≤ d∧d ≤ 8
abbrev tn (l:Ones) (v:Int):Int:=(gi l v).p.turn
structure SI (n d:Int) (g:Grd) (c:Int) (C:Pty) (way:List Nte):Prop where
  ex:∃ H S,Wo False (fun _=>0) n d c H S (C.l.map One.p) way∧∀ x ∈ H,x.commands = []
  wl:∀ v:Int,0 ≤ v→v < n→(gi C.l v).w = qw n (tn C.l v) g
  hl:(C.hashes.length:Int) = n
  hs:∀ v:Int,0 ≤ v→v < n→((gi C.hashes v).length:Int) = tn C.l v
  lg:(C.log.length:Int) = tn C.l 0
variable {n d c c' k q:Int} {g:Grd} {C:Pty} {P:Par} {way way':List Nte} {m:Nte}
theorem SI.len (h:SI n d g c C way):(C.l.length:Int) = n:=by
  obtain ⟨H,S,w,_⟩:=h.ex
  have:=w.len
  rw [List.length_map] at this
  exact this
theorem SI.mono (h:SI n d g c C way) (hc:c ≤ c'):SI n d g c' C way:=by
  obtain ⟨H,S,w,k⟩:=h.ex
  exact ⟨⟨H,S,w.mono hc,k⟩,h.wl,h.hl,h.hs,h.lg⟩
theorem SI.less (h:SI n d g c C way) (hs:∀ m ∈ way',m ∈ way):SI n d g c C way':=by
  obtain ⟨H,S,w,k⟩:=h.ex
  exact ⟨⟨H,S,w.ways fun m hm=>w.wy m (hs m hm),k⟩,h.wl,h.hl,h.hs,h.lg⟩
theorem SI.turn (h:SI n d g c C way) (v0:0 ≤ k) (v1:k < n):0 ≤ tn C.l k∧tn C.l k ≤ 8 + c:=by
  obtain ⟨H,S,w,_⟩:=h.ex
  have V:=w.val k v0 v1
  have R:=w.pr k v0 v1
  have h1:=V.hv k v0 (by rw [R.pl]; exact v1)
  have h2:=R.lim k v0 v1
  have h3:=w.sm k
  have h4:=V.tn
  rw [gi_mapp ⟨v0,by have:=h.len; omega⟩] at h1 h2 h4
  show 0 ≤ (gi C.l k).p.turn∧(gi C.l k).p.turn ≤ _
  omega
theorem run_q (E:QEnv n d g) (h:SI n d g c C way) (hk:0 ≤ k∧k < n) (hc:c ≤ 5000):Ok (session_party_run C k) fun r=>SI n d g c r.2 way∧(∀ v:Int,0 ≤ v→v < n→¬ v = k→tn r.2.l v = tn C.l v)∧(r.1 = true→tn r.2.l k = tn C.l k + 1)∧(¬ r.1 = true→d ≤ tn C.l k∧r.2 = C):=by
  obtain ⟨H,S,w,hH⟩:=h.ex
  have hlen:=h.len
  have eg:=gi_mapp (l:=C.l) (v:=k) ⟨hk.1,by omega⟩
  have V:=w.val k hk.1 hk.2
  have R:=w.pr k hk.1 hk.2
  have sz:=w.PS hk (by omega)
  have bd:=w.bd k hk.1 hk.2
  have ht:=h.turn hk.1 hk.2
  have hh:=h.hs k hk.1 hk.2
  have hhl:=h.hl
  rw [eg] at V R sz bd
  unfold session_party_run
  refine Ok.gd ⟨hk.1,by omega⟩ ?_
  by_cases hcan:CanGo (gi C.l k).p
  · rw [(ready_p sz).2.2 V hcan,bsome,if_neg (by simp)]
    have el:(theseI (gi C.l k).p).flatMap (·.commands) = []:=by
      obtain ⟨L,_,h2,h3,_⟩:=R.ready V w.hist hcan
      rw [h3,List.flatMap_eq_nil_iff]
      exact fun x hx=>hH x ((h2 x).1 hx).1
    dsimp only
    rw [el,h.wl k hk.1 hk.2,step_q (by have:=E.size; omega) (by omega),bsome]
    dsimp only
    rw [world_q (by have:=E.size; omega),bsome]
    obtain ⟨s,es⟩:=sumW_q (n:=n) (t:=tn C.l k + 1) E.gok E.size (by have:=E.n; omega) (by omega)
    rw [es,bsome]
    refine Ok.bindE (x:=if k = 0 then C.log ++ [⟨tn C.l k,[],s⟩] else C.log) ?_ ?_
    · by_cases e:k = 0
      · rw [if_pos e,if_pos e,if_pos (by have:=h.lg; have:=h.turn (k:=0) (by omega) (by omega); omega)]
      · rw [if_neg e,if_neg e]
    rw [(ran_p sz).2.2 V hcan,bsome]
    have hg:∀ (z:One) (u:Int),0 ≤ u→gi (si C.l k z) u = if u = k then z else gi C.l u:=fun z u u0=>gi_siG ⟨hk.1,by omega⟩ u0
    refine Ok.gd ⟨hk.1,by omega⟩ (Ok.gd (by omega) (Ok.ret ⟨⟨⟨H,S,?_,hH⟩,fun v v0 v1=>?_,?_,fun v v0 v1=>?_,?_⟩,fun v v0 v1 hne=>?_,fun _=>?_,fun e=>absurd rfl e⟩))
    · dsimp only
      rw [si_mapp]
      exact w.put hk (ran_v V hcan) (R.ran V fun f=>f.elim) (ran_Bd bd) (Int.le_refl _)
    · show (gi (si C.l k _) v).w = qw n (gi (si C.l k _) v).p.turn g
      rw [hg _ v v0]
      by_cases e:v = k
      · rw [if_pos e]; rfl
      · rw [if_neg e]; exact h.wl v v0 v1
    · show ((si C.hashes k _).length:Int) = n
      rw [len_si]; exact hhl
    · show ((gi (si C.hashes k _) v).length:Int) = (gi (si C.l k _) v).p.turn
      rw [hg _ v v0,gi_siG ⟨hk.1,by omega⟩ v0]
      by_cases e:v = k
      · rw [if_pos e,if_pos e,List.length_append,Int.natCast_add,hh]; rfl
      · rw [if_neg e,if_neg e]; exact h.hs v v0 v1
    · show ((if k = 0 then C.log ++ [⟨tn C.l k,[],s⟩] else C.log).length:Int) = (gi (si C.l k _) 0).p.turn
      rw [hg _ 0 (by omega)]
      by_cases e:k = 0
      · rw [if_pos e,if_pos e.symm,List.length_append,Int.natCast_add,h.lg,e]; rfl
      · rw [if_neg e,if_neg fun x=>e x.symm]; exact h.lg
    · show (gi (si C.l k _) v).p.turn = _
      rw [hg _ v v0,if_neg hne]
    · show (gi (si C.l k _) k).p.turn = _
      rw [hg _ k hk.1,if_pos rfl]; rfl
  · rw [(ready_p sz).2.1 V hcan,bsome,if_pos (by simp)]
    refine Ok.ret ⟨h,fun v _ _ _=>rfl,fun e=>(by cases e),fun _=>⟨?_,rfl⟩⟩
    have ht2:(gi C.l k).p.turn ≤ 8 + c:=ht.2
    refine Int.not_lt.1 fun hlt=>hcan ⟨fun v v0 v1=>?_,by omega⟩
    have:=V.hv v v0 (by have:=V.hl; omega)
    have:=R.dl
    have hlt:(gi C.l k).p.turn < d:=hlt
    omega
theorem comes_q (E:QEnv n d g) (h:SI n d g c C way) (hm:m ∈ way) (hc:c ≤ 5000):Ok (session_party_comes C m) fun C'=>SI n d g (c + 1) C' way∧∀ v:Int,0 ≤ v→v < n→tn C'.l v = tn C.l v:=by
  obtain ⟨H,S,w,hH⟩:=h.ex
  have hlen:=h.len
  have hw:=w.wy m hm
  have h1:=hw.ok.1.2; have h2:=hw.ds
  have hk:0 ≤ m.dst - 1∧m.dst - 1 < n:=by omega
  have T:=w.take hw hk (by omega) (by omega)
  rw [gi_mapp ⟨hk.1,by omega⟩] at T
  unfold session_party_comes
  refine Ok.gd ⟨hk.1,by omega⟩ (Ok.gd (by unfold I64; omega) (Ok.gd ⟨hk.1,by omega⟩ ?_))
  rw [T.1,bsome,if_pos rfl]
  have hg:∀ (z:One) (u:Int),0 ≤ u→gi (si C.l (m.dst - 1) z) u = if u = m.dst - 1 then z else gi C.l u:=fun z u u0=>gi_siG ⟨hk.1,by omega⟩ u0
  have et:(takeP (gi C.l (m.dst - 1)).p m).turn = (gi C.l (m.dst - 1)).p.turn:=by
    show (ackP (inP _ _) _ _).turn = _
    unfold ackP inP
    split <;> split <;> rfl
  have key:∀ v:Int,0 ≤ v→tn (si C.l (m.dst - 1) ⟨takeP (gi C.l (m.dst - 1)).p m,(gi C.l (m.dst - 1)).w⟩) v = tn C.l v:=fun v v0=>by
    show (gi (si C.l _ _) v).p.turn = _
    rw [hg _ v v0]
    by_cases e:v = m.dst - 1
    · rw [if_pos e,e]; exact et
    · rw [if_neg e]
  refine Ok.gd (by unfold I64; omega) (Ok.gd ⟨hk.1,by omega⟩ (Ok.ret ⟨⟨⟨H,S,?_,hH⟩,fun v v0 v1=>?_,h.hl,fun v v0 v1=>?_,?_⟩,fun v v0 v1=>key v v0⟩))
  · dsimp only
    rw [si_mapp]
    exact T.2
  · dsimp only
    rw [key v v0,hg _ v v0]
    by_cases e:v = m.dst - 1
    · rw [if_pos e,e]; exact h.wl _ hk.1 hk.2
    · rw [if_neg e]; exact h.wl v v0 v1
  · dsimp only
    rw [key v v0]; exact h.hs v v0 v1
  · dsimp only
    rw [key 0 (by omega)]; exact h.lg
theorem say_q (E:QEnv n d g) (h:SI n d g c C way) (hk:0 ≤ k∧k < n) (hc:c ≤ 5000):Ok (session_party_say C k []) fun C'=>SI n d g (c + 1) C' way∧∀ v:Int,0 ≤ v→v < n→tn C'.l v = tn C.l v:=by
  obtain ⟨H,S,w,hH⟩:=h.ex
  have hlen:=h.len
  have V:=w.val k hk.1 hk.2
  have sz:=w.PS hk (by omega)
  have eg:=gi_mapp (l:=C.l) (v:=k) ⟨hk.1,by omega⟩
  unfold session_party_say
  rw [ownCs_p (l:=[]) (by simp) (fun y hy=>(by cases hy)),bsome,loop_once (b:=[]) (by dsimp only; rw [if_neg (by simp)]),bsome]
  refine Ok.gd ⟨hk.1,by omega⟩ ?_
  have so:SaidOk (gi (C.l.map One.p) k).id []:=⟨by simp,fun v v0 v1=>by have v1:v < 0:=v1; omega⟩
  by_cases hsh:Shut (gi (C.l.map One.p) k)
  · have:=(say_p (l:=[]) sz (by simp) (fun y hy=>(by cases hy))).2.1 V hsh
    rw [eg] at this
    rw [this,bsome,if_neg (by simp)]
    exact Ok.ret ⟨h.mono (by omega),fun v _ _=>rfl⟩
  · have:=(say_p (l:=[]) sz (by simp) (fun y hy=>(by cases hy))).2.2.2 V hsh so
    have W:=w.say hk (by omega) hsh so ⟨by simp,fun y hy=>(by cases hy)⟩
    rw [eg] at this
    rw [this,bsome,if_pos rfl]
    have hg:∀ (z:One) (u:Int),0 ≤ u→gi (si C.l k z) u = if u = k then z else gi C.l u:=fun z u u0=>gi_siG ⟨hk.1,by omega⟩ u0
    have key:∀ v:Int,0 ≤ v→tn (si C.l k ⟨sayP (gi C.l k).p [],(gi C.l k).w⟩) v = tn C.l v:=fun v v0=>by
      show (gi (si C.l _ _) v).p.turn = _
      rw [hg _ v v0]
      by_cases e:v = k
      · rw [if_pos e,e]; rfl
      · rw [if_neg e]
    refine Ok.gd ⟨hk.1,by omega⟩ (Ok.ret ⟨⟨⟨H ++ [inpOf (gi (C.l.map One.p) k) []],bump S k,?_,?_⟩,fun v v0 v1=>?_,h.hl,fun v v0 v1=>?_,?_⟩,fun v v0 v1=>key v v0⟩)
    · dsimp only
      rw [si_mapp]
      rw [eg] at W ⊢
      exact W
    · intro x hx
      rcases List.mem_append.1 hx with hx | hx
      · exact hH x hx
      · rw [List.mem_singleton.1 hx]; rfl
    · dsimp only
      rw [key v v0,hg _ v v0]
      by_cases e:v = k
      · rw [if_pos e,e]; exact h.wl _ hk.1 hk.2
      · rw [if_neg e]; exact h.wl v v0 v1
    · dsimp only
      rw [key v v0]; exact h.hs v v0 v1
    · dsimp only
      rw [key 0 (by omega)]; exact h.lg
theorem tick_q (E:QEnv n d g) (h:SI n d g c P.c P.m) (hk:0 ≤ k∧k < n) (hc:c ≤ 5000) (hm:P.m.length ≤ 1000):Ok (session_party_tick P k) fun P'=>SI n d g c P'.c P'.m∧P'.m.length ≤ P.m.length + 4∧(∀ v:Int,0 ≤ v→v < n→¬ v = k→tn P'.c.l v = tn P.c.l v)∧(d ≤ tn P'.c.l k ∨ tn P.c.l k + 4 ≤ tn P'.c.l k)∧tn P.c.l k ≤ tn P'.c.l k:=by
  obtain ⟨H,S,w,hH⟩:=h.ex
  have hlen:=h.len
  have V:=w.val k hk.1 hk.2
  have sz:=w.PS hk (by omega)
  have R:=w.pr k hk.1 hk.2
  have nt:=w.notes hk (by omega)
  have eg:=gi_mapp (l:=P.c.l) (v:=k) ⟨hk.1,by omega⟩
  rw [eg] at V sz nt R
  have hln:=notesTo_len (gi P.c.l k).p (gi P.c.l k).p.players.toNat
  have hpl:=R.pl
  have hEn:=E.n
  unfold session_party_tick
  refine Ok.gd ⟨hk.1,by omega⟩ ?_
  rw [(notesP_p sz).2 V,bsome]
  dsimp only
  generalize notesTo (gi P.c.l k).p (gi P.c.l k).p.players.toNat = nts at nt hln
  refine Ok.gd (by omega) ?_
  refine Ok.bind (Ok.loop (fun z:Int × Par=>(0 ≤ z.1∧z.1 ≤ 4)∧SI n d g c z.2.c z.2.m∧z.2.m = P.m ++ nts∧(∀ v:Int,0 ≤ v→v < n→¬ v = k→tn z.2.c.l v = tn P.c.l v)∧tn z.2.c.l k = tn P.c.l k + z.1) (fun z=>(4 - z.1).toNat) ⟨⟨by simp,by simp⟩,?_,rfl,fun v _ _ _=>rfl,by simp⟩ (by unfold FUEL; dsimp only; omega) ?_) (fun x hx=>Ok.ret hx)
  · exact ⟨⟨H,S,w.ways fun m hm=>(List.mem_append.1 hm).elim (w.wy m) (nt m),hH⟩,h.wl,h.hl,h.hs,h.lg⟩
  · rintro ⟨v,Z⟩ ⟨⟨v0,v1⟩,hS,hmm,ho,ht⟩
    dsimp only at v0 v1 hS hmm ho ht ⊢
    have hlm:Z.m.length ≤ P.m.length + 4:=by rw [hmm,List.length_append]; omega
    refine Ok.ite (fun hv=>?_) (fun hv=>Ok.ret ⟨hS,hlm,ho,.inr (by omega),by omega⟩)
    refine Ok.bind (run_q E hS hk hc) fun r hr=>?_
    refine Ok.ite (fun hb=>Ok.gd (by unfold I64; omega) (Ok.ret ⟨⟨⟨by show 0 ≤ v + 1; omega,by show v + 1 ≤ 4; omega⟩,hr.1,hmm,fun u u0 u1 hu=>(hr.2.1 u u0 u1 hu).trans (ho u u0 u1 hu),by have:=hr.2.2.1 hb; show tn r.2.l k = tn P.c.l k + (v + 1); omega⟩,by show (4 - (v + 1)).toNat < (4 - v).toNat; omega⟩)) (fun hb=>Ok.ret ?_)
    obtain ⟨h1,h2⟩:=hr.2.2.2 hb
    refine ⟨hr.1,hlm,fun u u0 u1 hu=>(hr.2.1 u u0 u1 hu).trans (ho u u0 u1 hu),?_,?_⟩
    · left; show d ≤ tn r.2.l k; rw [h2]; exact h1
    · show tn P.c.l k ≤ tn r.2.l k; rw [h2]; omega
abbrev Rq (n d q:Int) (C:Pty):Prop:=∀ v:Int,0 ≤ v→v < n→d ≤ tn C.l v ∨ q ≤ tn C.l v
theorem calm_q (E:QEnv n d g) (h:SI n d g c P.c P.m) (hm:P.m = []) (hc:c ≤ 4000) (hq:Rq n d q P.c):Ok (session_party_calm P) fun P'=>SI n d g (c + 16) P'.c P'.m∧P'.m = []∧Rq n d (q + 4) P'.c:=by
  have hlen:=h.len
  have hEn:=E.n
  unfold session_party_calm
  refine Ok.bind (R:=fun Z:Par=>SI n d g c Z.c Z.m∧Z.m.length ≤ 16∧Rq n d (q + 4) Z.c) (Ok.loop (fun z:Int × Par=>(0 ≤ z.1∧z.1 ≤ n)∧SI n d g c z.2.c z.2.m∧(z.2.m.length:Int) ≤ 4 * z.1∧(∀ v:Int,0 ≤ v→v < n→z.1 ≤ v→tn z.2.c.l v = tn P.c.l v)∧(∀ v:Int,0 ≤ v→v < z.1→d ≤ tn z.2.c.l v ∨ q + 4 ≤ tn z.2.c.l v)) (fun z=>(n - z.1).toNat) ⟨⟨by simp,by show 0 ≤ n; omega⟩,h,by rw [hm]; simp,fun v _ _ _=>rfl,fun v v0 v1=>by have v1:v < 0:=v1; omega⟩ (by unfold FUEL; dsimp only; omega) ?_) ?_
  · rintro ⟨v,Z⟩ ⟨⟨v0,v1⟩,hS,hlm,ho,hd⟩
    dsimp only at v0 v1 hS hlm ho hd ⊢
    refine Ok.ite (fun hv=>?_) (fun hv=>Ok.ret ⟨hS,by omega,fun u u0 u1=>hd u u0 (by omega)⟩)
    refine Ok.bind (tick_q E hS ⟨v0,by omega⟩ (by omega) (by omega)) fun r hr=>?_
    refine Ok.gd (by unfold I64; omega) (Ok.ret ⟨⟨⟨by show 0 ≤ v + 1; omega,by show v + 1 ≤ n; omega⟩,hr.1,by have:=hr.2.1; show (r.m.length:Int) ≤ 4 * (v + 1); omega,fun u u0 u1 u2=>?_,fun u u0 u1=>?_⟩,by show (n - (v + 1)).toNat < (n - v).toNat; omega⟩)
    · have u2:v + 1 ≤ u:=u2
      exact (hr.2.2.1 u u0 u1 (by omega)).trans (ho u u0 u1 (by omega))
    · have u1:u < v + 1:=u1
      show d ≤ tn r.c.l u ∨ q + 4 ≤ tn r.c.l u
      by_cases e:u = v
      · have h1:=hr.2.2.2.1
        have h2:=hq v v0 (by omega)
        have h3:=ho v v0 (by omega) (by omega)
        have h4:=hr.2.2.2.2
        rw [e]
        rw [h3] at h1 h4
        omega
      · rw [show tn r.c.l u = tn Z.c.l u from hr.2.2.1 u u0 (by omega) e]
        exact hd u u0 (by omega)
  · rintro Z ⟨hS,hlm,hR⟩
    refine Ok.bind (R:=fun X:Pty=>SI n d g (c + 16) X Z.m∧Rq n d (q + 4) X) (Ok.loop (fun z:Int × Pty=>(0 ≤ z.1∧z.1 ≤ Z.m.length)∧SI n d g (c + z.1) z.2 Z.m∧Rq n d (q + 4) z.2) (fun z=>(Z.m.length - z.1).toNat) ⟨⟨by simp,by simp⟩,by show SI n d g (c + 0) _ _; rw [Int.add_zero]; exact hS,hR⟩ (by unfold FUEL; dsimp only; omega) ?_) ?_
    · rintro ⟨v,X⟩ ⟨⟨v0,v1⟩,hX,hX2⟩
      dsimp only at v0 v1 hX hX2 ⊢
      refine Ok.ite (fun hv=>Ok.gd ⟨v0,hv⟩ ?_) (fun hv=>Ok.ret ⟨hX.mono (by omega),hX2⟩)
      refine Ok.bind (comes_q E hX (gi_mem ⟨v0,hv⟩) (by omega)) fun r hr=>?_
      refine Ok.gd (by unfold I64; omega) (Ok.ret ⟨⟨⟨by show 0 ≤ v + 1; omega,by show v + 1 ≤ _; omega⟩,by show SI n d g (c + (v + 1)) r Z.m; rw [← Int.add_assoc]; exact hr.1,fun u u0 u1=>?_⟩,by show ((Z.m.length:Int) - (v + 1)).toNat < ((Z.m.length:Int) - v).toNat; omega⟩)
      rw [hr.2 u u0 u1]; exact hX2 u u0 u1
    · rintro X ⟨hX,hX2⟩
      exact Ok.ret ⟨hX.less fun m hm=>(by cases hm),rfl,hX2⟩
theorem act_q {a:Act} (E:QEnv n d g) (h:SI n d g c P.c P.m) (hm:P.m = []) (hc:c ≤ 3000) (hq:Rq n d q P.c) (ha:(a.kind = 1∧a.commands = []) ∨ (a.kind = 6∧a.n = 4)):Ok (session_party_act P a) fun P'=>SI n d g (c + 64) P'.c P'.m∧P'.m = []∧Rq n d q P'.c∧(a.kind = 6→Rq n d (q + 16) P'.c):=by
  have hlen:=h.len
  have hEn:=E.n
  unfold session_party_act
  rcases ha with ⟨h1,h2⟩ | ⟨h1,h2⟩
  · rw [if_pos h1,h2]
    refine Ok.ite (fun hp=>Ok.gd (by unfold I64; omega) ?_) (fun hp=>Ok.ret ⟨h.mono (by omega),hm,hq,fun e=>by omega⟩)
    refine Ok.bind (say_q E h ⟨by omega,by omega⟩ (by omega)) fun r hr=>Ok.ret ⟨hr.1.mono (by omega),hm,fun u u0 u1=>?_,fun e=>by omega⟩
    show d ≤ tn r.l u ∨ q ≤ tn r.l u
    rw [hr.2 u u0 u1]; exact hq u u0 u1
  · rw [if_neg (by omega),if_neg (by omega)]
    refine Ok.bindE (x:=false) (by rw [if_neg (by omega),if_neg (by omega),decide_eq_false (by omega)]) ?_
    rw [if_neg (by simp),if_pos h1]
    refine Ok.bind (R:=fun Z:Par=>SI n d g (c + 64) Z.c Z.m∧Z.m = []∧Rq n d (q + 16) Z.c) (Ok.loop (fun z:Int × Par=>(0 ≤ z.1∧z.1 ≤ 4)∧SI n d g (c + 16 * (4 - z.1)) z.2.c z.2.m∧z.2.m = []∧Rq n d (q + 4 * (4 - z.1)) z.2.c) (fun z=>z.1.toNat) ⟨⟨by show 0 ≤ a.n; omega,by show a.n ≤ 4; omega⟩,?_,hm,?_⟩ (by unfold FUEL; dsimp only; omega) ?_) fun Z hZ=>Ok.ret ⟨hZ.1,hZ.2.1,fun u u0 u1=>(hZ.2.2 u u0 u1).imp id fun x=>by omega,fun _=>hZ.2.2⟩
    · exact h.mono (by show c ≤ c + 16 * (4 - a.n); omega)
    · intro u u0 u1
      have:=hq u u0 u1
      show d ≤ tn P.c.l u ∨ q + 4 * (4 - a.n) ≤ tn P.c.l u
      rw [h2]
      omega
    · rintro ⟨v,Z⟩ ⟨⟨v0,v1⟩,hS,hmm,hR⟩
      dsimp only at v0 v1 hS hmm hR ⊢
      refine Ok.ite (fun hv=>?_) (fun hv=>Ok.ret ⟨hS.mono (by omega),hmm,fun u u0 u1=>(hR u u0 u1).imp id fun x=>by omega⟩)
      refine Ok.bind (calm_q E hS hmm (by omega) hR) fun r hr=>?_
      refine Ok.gd (by unfold I64; omega) (Ok.ret ⟨⟨⟨by show 0 ≤ v - 1; omega,by show v - 1 ≤ 4; omega⟩,hr.1.mono (by show _ ≤ c + 16 * (4 - (v - 1)); omega),hr.2.1,fun u u0 u1=>(hr.2.2 u u0 u1).imp id fun x=>by show q + 4 * (4 - (v - 1)) ≤ tn r.c.l u; omega⟩,by show (v - 1).toNat < v.toNat; omega⟩)
end Go.Proofs.YtmngdgclldkcfaaGreat
namespace Go.Proofs.YtmngdgclldkcfaaGreat
open Go.Vg
open Go
theorem wakes_q:throngtop_wakes = some true:=by decide +kernel
end Go.Proofs.YtmngdgclldkcfaaGreat
set_option linter.unusedVariables false
set_option linter.unusedSimpArgs false
namespace Go.Proofs.YtmngdgclldkcfaaGreat
open Go.Vg
open Go
theorem weight_q {l:List Cmd} (hl:l.length ≤ 140737488351232) (h:∀ c ∈ l,CmdG c):Ok (thronglaw0_CommandsWeight l) fun r=>0 ≤ r∧r ≤ 281474976710656:=by
  unfold thronglaw0_CommandsWeight
  refine Ok.bind (R:=fun r:Int=>0 ≤ r∧r ≤ 281474976710656) (Ok.loop (fun z:Int × Int=>(0 ≤ z.2∧z.2 ≤ l.length)∧0 ≤ z.1∧z.1 ≤ 281474976710656) (fun z=>(l.length - z.2).toNat) ⟨⟨by simp,by simp⟩,by dsimp only; omega,by dsimp only; omega⟩ (by unfold FUEL; dsimp only; omega) ?_) (fun x hx=>Ok.ret hx)
  rintro ⟨u,v⟩ ⟨⟨v0,v1⟩,u0,u1⟩
  dsimp only at v0 v1 u0 u1 ⊢
  refine Ok.ite (fun hv=>?_) (fun hv=>Ok.ret ⟨u0,u1⟩)
  have hc:(gi l v).units.length ≤ 140737488351232:=h _ (gi_mem ⟨v0,hv.1⟩)
  exact Ok.gd ⟨v0,hv.1⟩ (Ok.gd (by unfold I64; omega) (Ok.gd (by unfold I64; omega) (Ok.ret ⟨⟨⟨by show 0 ≤ v + 1; omega,by show v + 1 ≤ _; omega⟩,by show 0 ≤ u + _; omega,by show u + _ ≤ _; omega⟩,by show ((l.length:Int) - (v + 1)).toNat < ((l.length:Int) - v).toNat; omega⟩)))
theorem Cmd.Wf.G {c:Cmd} (h:Cmd.Wf c):CmdG c:=h.2.2.2.2.1.2
theorem heavy_q {x:Scr30} (hx:x.Wf):Ok (thronglaw30_Heavy x) fun r=>r = false→(x.l.length:Int) ≤ 100∧(x.g.tiles.length:Int) ≤ 200:=by
  have h1:=hx.2.2.2.2
  unfold thronglaw30_Heavy
  refine Ok.bind (R:=fun r:Int=>True) (Ok.loop (fun z:Int × Int=>(0 ≤ z.2∧z.2 ≤ x.l.length)∧0 ≤ z.1∧z.1 ≤ 562949953421312) (fun z=>(x.l.length - z.2).toNat) ⟨⟨by simp,by simp⟩,by simp,by simp⟩ (by have:=h1.2; unfold FUEL; dsimp only; omega) ?_) (fun v _=>Ok.ret fun e=>by have:=of_decide_eq_false e; omega)
  rintro ⟨u,v⟩ ⟨⟨v0,v1⟩,u0,u1⟩
  dsimp only at v0 v1 u0 u1 ⊢
  refine Ok.ite (fun hv=>Ok.gd ⟨v0,hv.1⟩ ?_) (fun hv=>Ok.ret trivial)
  have ha:=h1.1 _ (gi_mem ⟨v0,hv.1⟩)
  refine Ok.bind (weight_q ha.2.2.2.2.2 fun c hc=>(ha.2.2.2.2.1 c hc).G) fun r hr=>?_
  have h2:=h1.2
  exact Ok.gd (by unfold I64; omega) (Ok.gd (by unfold I64; omega) (Ok.ret ⟨⟨⟨by show 0 ≤ v + 1; omega,by show v + 1 ≤ _; omega⟩,by show 0 ≤ u + r; omega,by show u + r ≤ _; omega⟩,by show ((x.l.length:Int) - (v + 1)).toNat < ((x.l.length:Int) - v).toNat; omega⟩))
structure MayT (x:Scr30):Prop where
  g:GOk x.g
  size:(x.g.tiles.length:Int) ≤ 200
  n:1 ≤ x.players∧x.players ≤ 8
  d:1 ≤ x.delay∧x.delay ≤ 8
  room:1 ≤ x.room∧x.room ≤ 4096
theorem may_t {x:Scr30} (hx:x.Wf) (hl:x.g.tiles.length ≤ 9223372036854775806):Ok (throngtop_may x) fun r=>r = true→MayT x:=by
  unfold throngtop_may
  refine Ok.bind (heavy_q hx) fun hv hh=>?_
  refine Ok.bind (R:=fun r=>r = true→GOk x.g∧(x.g.tiles.length:Int) ≤ 200) ?_ fun b hb=>?_
  · refine Ok.ite (fun e=>?_) (fun e=>Ok.ret fun e=>(by cases e))
    obtain ⟨r,er,hr⟩:=mayR_g hl
    rw [er]
    refine Ok.ret fun e2=>⟨hr.1 e2,(hh ?_).2⟩
    cases hv
    · rfl
    · cases e
  · refine Ok.bind (R:=fun r=>r = true→MayT x) (Ok.ite (fun h=>?_) (fun h=>Ok.ret fun e=>(by cases e))) fun r hr=>Ok.ret hr
    obtain ⟨⟨⟨⟨h1,h2⟩,h3⟩,h4⟩,h5⟩:=h
    refine Ok.ret fun e=>⟨(hb h1).1,(hb h1).2,⟨h2,h3⟩,⟨h4,h5⟩,?_⟩
    exact of_decide_eq_true e
theorem eqByteR {a:List UInt8} (h:a.length ≤ 1000000):throngref0_EqBytes a a = some true:=by
  unfold throngref0_EqBytes
  rw [if_neg (by simp)]
  refine Ok.eq (Ok.bind (R:=fun x=>x = Ex.go ()) (Ok.loop (fun v:Int=>0 ≤ v∧v ≤ a.length) (fun v=>(a.length - v).toNat) ⟨by omega,by omega⟩ (by unfold FUEL; omega) ?_) ?_)
  · rintro v ⟨v0,v1⟩
    refine Ok.ite (fun hv=>Ok.gd ⟨v0,hv⟩ (Ok.gd ⟨v0,hv⟩ (Ok.ite (fun e=>absurd rfl e) (fun _=>Ok.gd (by unfold I64; omega) (Ok.ret ⟨⟨by omega,by omega⟩,by omega⟩))))) (fun hv=>Ok.ret rfl)
  · rintro x rfl; exact Ok.ret rfl
theorem eqW_q {n t:Int} {g:Grd} (h:g.tiles.length ≤ 1000000):throngref0_EqWorld (qw n t g) (qw n t g) = some true:=by
  have e1:throngref0_EqBuildings [] [] = some true:=by decide +kernel
  have e2:throngref0_EqUnits [] [] = some true:=by decide +kernel
  unfold throngref0_EqWorld
  rw [if_pos ⟨⟨rfl,rfl⟩,rfl⟩]
  show Option.bind (Option.bind (throngref0_EqGround g g) _) _ = _
  unfold throngref0_EqGround
  rw [if_pos ⟨rfl,rfl⟩,eqByteR h,bsome,bsome,bsome,bsome,if_pos rfl]
  show Option.bind (Option.bind (throngref0_EqBuildings [] []) _) _ = _
  rw [e1,bsome,bsome,if_pos rfl]
  show Option.bind (Option.bind (throngref0_EqUnits [] []) _) _ = _
  rw [e2]; rfl
variable {n d:Int} {g:Grd}
def QActs (l:List Act):Prop:=l.length ≤ 40∧(∀ a ∈ l,(a.kind = 1∧a.commands = []) ∨ (a.kind = 6∧a.n = 4))∧0 < l.length∧(gi l ((l.length:Int) - 1)).kind = 6
theorem run_Q {room:Int} {l:List Act} (E:QEnv n d g) (hr:1 ≤ room∧room ≤ 4096) (hl:QActs l):Ok (session_Run g n d room l) fun r=>r.2 = 0∧(r.1.turns.length:Int) = n∧(r.1.worlds.length:Int) = n∧∀ v:Int,0 ≤ v→v < n→d ≤ gi r.1.turns v∧gi r.1.worlds v = qw n (gi r.1.turns v) g:=by
  have hE:=E.n
  have hEs:=E.size
  obtain ⟨hl1,hl2,hl3,hl4⟩:=hl
  unfold session_Run
  rw [new_q E.gok (by omega) ⟨hE.1,by omega⟩,bsome,if_neg (by simp; omega)]
  refine Ok.bind (R:=fun x:Ex Pty (Rep × Int)=>match x with
      | .go C=>(C.l.length:Int) = n∧(∀ u:Int,0 ≤ u→u < n→gi C.l u = ⟨newP (u + 1) n d,qw n 0 g⟩)∧C.log = []
      | .up _=>False) (Ok.loop (fun z:Int × Pty=>(1 ≤ z.1∧z.1 ≤ n + 1)∧(z.2.l.length:Int) = z.1 - 1∧(∀ u:Int,0 ≤ u→u < z.1 - 1→gi z.2.l u = ⟨newP (u + 1) n d,qw n 0 g⟩)∧z.2.log = []) (fun z=>(n + 1 - z.1).toNat) ⟨⟨by simp,by show 1 ≤ n + 1; omega⟩,rfl,fun u u0 u1=>by have u1:u < 0:=u1; omega,rfl⟩ (by unfold FUEL; dsimp only; omega) ?_) ?_
  · rintro ⟨v,C⟩ ⟨⟨v0,v1⟩,hl,hu,hg⟩
    dsimp only at v0 v1 hl hu hg ⊢
    refine Ok.ite (fun hv=>?_) (fun hv=>Ok.ret ?_)
    · rw [(new_p hE E.d ⟨v0,hv⟩).1,bsome,open_q E.gok (by omega) ⟨hE.1,by omega⟩ ⟨by omega,by omega⟩ hr,bsome]
      dsimp only
      rw [if_neg (by simp),bsome]
      refine Ok.gd (by omega) (Ok.gd (by unfold I64; omega) (Ok.ret ⟨⟨⟨by show 1 ≤ v + 1; omega,by show v + 1 ≤ n + 1; omega⟩,?_,fun u u0 u1=>?_,hg⟩,by show (n + 1 - (v + 1)).toNat < (n + 1 - v).toNat; omega⟩))
      · show ((C.l ++ [_]).length:Int) = v + 1 - 1
        rw [List.length_append]; simp; omega
      · have u1:u < v + 1 - 1:=u1
        show gi (C.l ++ [_]) u = _
        by_cases e:u = (C.l.length:Int)
        · rw [e,gi_append_at,show (C.l.length:Int) + 1 = v by omega]
        · rw [gi_append_left ⟨u0,by omega⟩]; exact hu u u0 (by omega)
    · exact ⟨by omega,fun u u0 u1=>hu u u0 (by omega),hg⟩
  rintro (C | e) hC
  · obtain ⟨h1,h2,h3⟩:=hC
    dsimp only [Ex.then]
    have hgh:∀ u:Int,0 ≤ u→u < n→gi (List.replicate n.toNat ([]:List UInt64)) u = []:=fun u u0 u1=>gi_replicate ⟨u0,by omega⟩
    have SI0:SI n d g 0 ⟨C.l,List.replicate n.toNat [],C.log⟩ []:=by
      refine ⟨⟨[],fun _=>d - 1,Wo.start hE E.d (by rw [List.length_map]; exact h1) fun v v0 v1=>?_,fun x hx=>(by cases hx)⟩,fun v v0 v1=>?_,by rw [List.length_replicate]; omega,fun v v0 v1=>?_,?_⟩
      · show gi (C.l.map One.p) v = _
        rw [gi_mapp ⟨v0,by omega⟩,h2 v v0 v1]
      · show (gi C.l v).w = qw n (gi C.l v).p.turn g
        rw [h2 v v0 v1]; rfl
      · show ((gi (List.replicate n.toNat ([]:List UInt64)) v).length:Int) = (gi C.l v).p.turn
        rw [hgh v v0 v1,h2 v v0 v1]; rfl
      · show (C.log.length:Int) = (gi C.l 0).p.turn
        rw [h3,h2 0 (by omega) (by omega)]; rfl
    refine Ok.gd ⟨by omega,by omega⟩ ?_
    refine Ok.bind (R:=fun Z:Par=>(∃ c,SI n d g c Z.c Z.m)∧Rq n d 16 Z.c) (Ok.loop (fun z:Int × Par=>(0 ≤ z.1∧z.1 ≤ l.length)∧SI n d g (64 * z.1) z.2.c z.2.m∧z.2.m = []∧Rq n d 0 z.2.c∧(0 < z.1→(gi l (z.1 - 1)).kind = 6→Rq n d 16 z.2.c)) (fun z=>(l.length - z.1).toNat) ⟨⟨by simp,by simp⟩,SI0,rfl,fun v v0 v1=>.inr (SI0.turn v0 v1).1,fun e=>by have e:(0:Int) < 0:=e; omega⟩ (by unfold FUEL; dsimp only; omega) ?_) ?_
    · rintro ⟨v,Z⟩ ⟨⟨v0,v1⟩,hS,hm,hR,hR2⟩
      dsimp only at v0 v1 hS hm hR hR2 ⊢
      refine Ok.ite (fun hv=>Ok.gd ⟨v0,hv⟩ ?_) (fun hv=>Ok.ret ⟨⟨_,hS⟩,?_⟩)
      · refine Ok.bind (act_q E hS hm (by omega) hR (hl2 _ (gi_mem ⟨v0,hv⟩))) fun r hr=>?_
        refine Ok.gd (by unfold I64; omega) (Ok.ret ⟨⟨⟨by show 0 ≤ v + 1; omega,by show v + 1 ≤ _; omega⟩,hr.1.mono (by show _ ≤ 64 * (v + 1); omega),hr.2.1,hr.2.2.1,fun _=>?_⟩,by show ((l.length:Int) - (v + 1)).toNat < ((l.length:Int) - v).toNat; omega⟩)
        show (gi l (v + 1 - 1)).kind = 6→_
        rw [show v + 1 - 1 = v by omega]
        intro e; exact hr.2.2.2 e
      · have:v = l.length:=by omega
        subst this
        exact hR2 (by omega) hl4
    · rintro Z ⟨⟨c,hS⟩,hR⟩
      have hlen:=hS.len
      refine Ok.bind (R:=fun x:List Int × List Wld × List Bool=>(x.1.length:Int) = n∧(x.2.1.length:Int) = n∧∀ u:Int,0 ≤ u→u < n→gi x.1 u = tn Z.c.l u∧gi x.2.1 u = qw n (tn Z.c.l u) g) (Ok.loop (fun z:Int × List Int × List Wld × List Bool=>(0 ≤ z.1∧z.1 ≤ n)∧(z.2.1.length:Int) = z.1∧(z.2.2.1.length:Int) = z.1∧(z.2.2.2.length:Int) = z.1∧∀ u:Int,0 ≤ u→u < z.1→gi z.2.1 u = tn Z.c.l u∧gi z.2.2.1 u = qw n (tn Z.c.l u) g) (fun z=>(n - z.1).toNat) ⟨⟨by simp,by show 0 ≤ n; omega⟩,rfl,rfl,rfl,fun u u0 u1=>by have u1:u < 0:=u1; omega⟩ (by unfold FUEL; dsimp only; omega) ?_) ?_
      · rintro ⟨v,a,b,e⟩ ⟨⟨v0,v1⟩,ha,hb,he,hu⟩
        dsimp only at v0 v1 ha hb he hu ⊢
        refine Ok.ite (fun hv=>Ok.gd ⟨v0,hv⟩ (Ok.gd (by omega) ?_)) (fun hv=>Ok.ret ⟨by show (a.length:Int) = n; omega,by show (b.length:Int) = n; omega,fun u u0 u1=>hu u u0 (by omega)⟩)
        rw [hS.wl v v0 (by omega),world_q (by omega),bsome]
        refine Ok.gd (by omega) (Ok.gd (by omega) (Ok.gd (by unfold I64; omega) (Ok.ret ⟨⟨⟨by show 0 ≤ v + 1; omega,by show v + 1 ≤ n; omega⟩,by show ((a ++ [_]).length:Int) = v + 1; rw [List.length_append]; simp; omega,by show ((b ++ [_]).length:Int) = v + 1; rw [List.length_append]; simp; omega,by show ((e ++ [_]).length:Int) = v + 1; rw [List.length_append]; simp; omega,fun u u0 u1=>?_⟩,by show (n - (v + 1)).toNat < (n - v).toNat; omega⟩)))
        have u1:u < v + 1:=u1
        show gi (a ++ [_]) u = _∧gi (b ++ [_]) u = _
        by_cases q:u = v
        · subst q
          refine ⟨?_,?_⟩
          · have:=gi_append_at (xs:=a) (x:=tn Z.c.l u)
            rw [ha] at this; exact this
          · have:=gi_append_at (xs:=b) (x:=qw n (tn Z.c.l u) g)
            rw [hb] at this; exact this
        · rw [gi_append_left ⟨u0,by omega⟩,gi_append_left ⟨u0,by omega⟩]
          exact hu u u0 (by omega)
      · rintro ⟨a,b,e⟩ ⟨ha,hb,hu⟩
        refine Ok.ret ⟨rfl,ha,hb,fun v v0 v1=>?_⟩
        obtain ⟨k1,k2⟩:=hu v v0 v1
        dsimp only at k1 k2 ⊢
        rw [k1]
        refine ⟨?_,k2⟩
        have:=hR v v0 v1
        have:=E.d
        omega
  · exact hC.elim
theorem quiet_true {x:Scr30} (hx:x.Wf) (hg:x.g.tiles.length ≤ 9223372036854775806):throngtop_TopQuiet x = some true:=by
  unfold throngtop_TopQuiet
  refine Ok.eq (Ok.bind (may_t hx hg) fun m hm=>Ok.ite (fun _=>Ok.ret rfl) fun h=>?_)
  have M:=hm (by
    cases m
    · exact absurd (.inl rfl) h
    · rfl)
  have hn:1 ≤ x.players∧x.players ≤ 4:=by have:=M.n; omega
  have E:QEnv x.players x.delay x.g:=⟨M.g,by have:=M.size; omega,hn,M.d⟩
  refine Ok.bind (R:=QActs) ?_ fun l hl=>?_
  · refine Ok.mono (Ok.loop (Q:=fun l=>QActs l) (fun z:List Act × Int=>(0 ≤ z.2∧z.2 ≤ 5)∧(z.1.length:Int) ≤ 5 * z.2∧(∀ a ∈ z.1,(a.kind = 1∧a.commands = []) ∨ (a.kind = 6∧a.n = 4))∧(0 < z.2→0 < z.1.length∧(gi z.1 ((z.1.length:Int) - 1)).kind = 6)) (fun z=>(5 - z.2).toNat) ⟨⟨by simp,by simp⟩,by simp,fun a ha=>(by cases ha),fun e=>by have e:(0:Int) < 0:=e; omega⟩ (by unfold FUEL; dsimp only; omega) ?_) fun _ h=>h
    rintro ⟨l,v⟩ ⟨⟨v0,v1⟩,h1,h2,h3⟩
    dsimp only at v0 v1 h1 h2 h3 ⊢
    refine Ok.ite (fun hv=>?_) (fun hv=>Ok.ret ⟨by omega,h2,(h3 (by omega)).1,(h3 (by omega)).2⟩)
    refine Ok.bind (R:=fun k:List Act=>(k.length:Int) ≤ l.length + 4∧∀ a ∈ k,(a.kind = 1∧a.commands = []) ∨ (a.kind = 6∧a.n = 4)) (Ok.loop (fun z:Int × List Act=>(1 ≤ z.1∧z.1 ≤ x.players + 1)∧(z.2.length:Int) ≤ l.length + (z.1 - 1)∧∀ a ∈ z.2,(a.kind = 1∧a.commands = []) ∨ (a.kind = 6∧a.n = 4)) (fun z=>(x.players + 1 - z.1).toNat) ⟨⟨by simp,by show 1 ≤ x.players + 1; omega⟩,by show (l.length:Int) ≤ l.length + (1 - 1); omega,h2⟩ (by unfold FUEL; dsimp only; omega) ?_) fun k hk=>?_
    · rintro ⟨u,k⟩ ⟨⟨u0,u1⟩,k1,k2⟩
      dsimp only at u0 u1 k1 k2 ⊢
      refine Ok.ite (fun hu=>Ok.gd (by omega) (Ok.gd (by unfold I64; omega) (Ok.ret ⟨⟨⟨by show 1 ≤ u + 1; omega,by show u + 1 ≤ _; omega⟩,by show ((k ++ [_]).length:Int) ≤ l.length + (u + 1 - 1); rw [List.length_append]; simp; omega,fun a ha=>?_⟩,by show (x.players + 1 - (u + 1)).toNat < (x.players + 1 - u).toNat; omega⟩))) (fun hu=>Ok.ret ⟨by omega,k2⟩)
      rcases List.mem_append.1 ha with ha | ha
      · exact k2 a ha
      · rw [List.mem_singleton.1 ha]; exact .inl ⟨rfl,rfl⟩
    · refine Ok.gd (by omega) (Ok.gd (by unfold I64; omega) (Ok.ret ⟨⟨⟨by show 0 ≤ v + 1; omega,by show v + 1 ≤ 5; omega⟩,by show ((k ++ [_]).length:Int) ≤ 5 * (v + 1); rw [List.length_append]; simp; omega,fun a ha=>?_,fun _=>⟨by show 0 < (k ++ [_]).length; rw [List.length_append]; simp,?_⟩⟩,by show (5 - (v + 1)).toNat < (5 - v).toNat; omega⟩))
      · rcases List.mem_append.1 ha with ha | ha
        · exact hk.2 a ha
        · rw [List.mem_singleton.1 ha]; exact .inr ⟨rfl,rfl⟩
      · show (gi (k ++ [_]) (((k ++ [_]).length:Int) - 1)).kind = 6
        rw [show ((k ++ [(⟨6,0,4,0,[]⟩:Act)]).length:Int) - 1 = k.length by rw [List.length_append]; simp,gi_append_at]
  refine Ok.bind (run_Q E M.room hl) fun r hr=>?_
  obtain ⟨r1,r2,r3,r4⟩:=hr
  have hsz:=M.size
  rw [new_q M.g (by omega) M.n,bsome,show throngtop_num r.2 = some r.2 from rfl,bsome,r1,if_neg (by simp),show throngtop_num (qw x.players 0 x.g,(0:Int)).2 = some 0 from rfl,bsome,bsome,if_neg (by simp [r2,r3])]
  refine Ok.bind (R:=fun y=>∃ z,y = Ex.go z) (Ok.loop (fun z:Int × Int=>0 ≤ z.1∧z.1 ≤ x.players) (fun z=>(x.players - z.1).toNat) ⟨by simp,by show 0 ≤ x.players; omega⟩ (by unfold FUEL; dsimp only; omega) ?_) ?_
  · rintro ⟨v,t⟩ ⟨v0,v1⟩
    dsimp only at v0 v1 ⊢
    refine Ok.ite (fun hv=>Ok.gd ⟨v0,by omega⟩ (Ok.gd ⟨v0,by omega⟩ ?_)) (fun hv=>Ok.ret ⟨_,rfl⟩)
    obtain ⟨k1,k2⟩:=r4 v v0 hv
    refine Ok.bindE (x:=false) ?_ ?_
    · rw [if_neg (by omega),if_pos ⟨v0,by omega⟩,k2]
      show Option.bind (throngref0_EqWorld (qw x.players (gi r.1.turns v) x.g) (qw x.players (gi r.1.turns v) x.g)) _ = _
      rw [eqW_q (by omega)]; rfl
    · rw [if_neg (by simp)]
      exact Ok.gd (by unfold I64; omega) (Ok.ret ⟨⟨by show 0 ≤ v + 1; omega,by show v + 1 ≤ _; omega⟩,by show (x.players - (v + 1)).toNat < (x.players - v).toNat; omega⟩)
  · rintro y ⟨z,rfl⟩
    dsimp only [Ex.then]
    rw [wakes_q]; exact Ok.ret rfl
end Go.Proofs.YtmngdgclldkcfaaGreat
