/-
  Worlds in which nobody has anything, or one unit stands on the first tile: copies, images and steps. The conditions stand in each lemma.
-/
import Derived.Test.YtmngdgclldkcfaaGreatJ23
import Derived.Test.YtmngdgclldkcfaaGreatJ26
set_option linter.unusedVariables false
set_option linter.unusedSimpArgs false
namespace Go.Proofs.YtmngdgclldkcfaaGreat
open Go.Vg
open Go
theorem loop_once {σ β:Type} {f:σ→Option (St σ β)} {s:σ} {b:β} (h:f s = some (St.done b)):Vg.loop f s = some b :=
 Ok.eq (Ok.loop (fun z=>z = s) (fun _=>0) rfl (by unfold FUEL; omega) (by rintro z rfl; rw [h]; exact Ok.ret rfl))
def GOk (g:Grd):Prop:=(1 ≤ g.w∧g.w ≤ 128)∧(1 ≤ g.h∧g.h ≤ 128)∧(g.tiles.length:Int) = g.w * g.h∧∀ i:Int,0 ≤ i→i < g.tiles.length→((gi g.tiles i).toNat:Int) ≤ 5
theorem side_b (n:Int):Bo (ground_Side n) (1 ≤ n∧n ≤ 128):=Bo.dec Iff.rfl
theorem max_b {l:List UInt8} (h0:1 ≤ l.length) (hl:l.length ≤ 9223372036854775806):Ok (slices_Max l) fun m=>(m ≤ 5 ↔ ∀ i:Int,0 ≤ i→i < l.length→((gi l i).toNat:Int) ≤ 5):=by
 unfold slices_Max
 rw [if_neg (by omega),bsome,if_pos (by omega)]
 refine Ok.bind (R:=fun m=>(m ≤ 5 ↔ ∀ i:Int,0 ≤ i→i < l.length→((gi l i).toNat:Int) ≤ 5)) (Ok.loop (fun z:Int × Int=>(1 ≤ z.2∧z.2 ≤ l.length)∧(z.1 ≤ 5 ↔ ∀ i:Int,0 ≤ i→i < z.2→((gi l i).toNat:Int) ≤ 5)) (fun z=>(l.length - z.2).toNat) ⟨by simp; omega,?_⟩ (by unfold FUEL; simp; omega) ?_) (fun x hx=>Ok.ret hx)
 ·constructor
  ·intro h i i0 i1
   have:i = 0:=by have:i < 1:=i1; omega
   rw [this]; exact h
  ·intro h; exact h 0 (by omega) (by show (0:Int) < 1; omega)
 ·rintro ⟨m,v⟩ ⟨⟨h1,h2⟩,h3⟩
  dsimp only at h1 h2 h3 ⊢
  refine Ok.ite (fun hlt=>?_) (fun hlt=>Ok.ret ?_)
  ·refine Ok.gd (by omega) (Ok.gd (by unfold I64; omega) (Ok.ret ⟨⟨by show 1 ≤ v + 1∧v + 1 ≤ _; omega,?_⟩,by show ((l.length:Int) - (v + 1)).toNat < _; omega⟩))
   show max m ((gi l v).toNat:Int) ≤ 5 ↔ ∀ i:Int,0 ≤ i→i < v + 1→_
   constructor
   ·intro h i i0 i1
    by_cases hi:i = v
    ·subst hi; omega
    ·exact h3.1 (by omega) i i0 (by omega)
   ·intro h
    have h4:=h3.2 fun i i0 i1=>h i i0 (by omega)
    have h5:=h v (by omega) (by omega)
    omega
  ·have:v = l.length:=by omega
   subst this; exact h3
theorem may_g {g:Grd} (hl:g.tiles.length ≤ 9223372036854775806):Bo (ground_May g) (GOk g):=by
 unfold ground_May
 by_cases hw:1 ≤ g.w∧g.w ≤ 128
 ·rw [(side_b _).t hw,bsome]
  by_cases hh:1 ≤ g.h∧g.h ≤ 128
  ·have:=mul_bd (a:=g.w) (b:=g.h) (A:=128) (B:=128) (by omega) (by omega)
   have:=Int.mul_le_mul_of_nonneg_left hh.1 (show 0 ≤ g.w by omega)
   refine Ok.bindE (x:=false) (by rw [if_neg (by simp),(side_b _).t hh]; rfl) (Ok.gd (fun _=>by unfold I64; omega) (Ok.ite (fun h=>Ok.ret ?_) (fun h=>?_)))
   ·have h2:¬ (g.tiles.length:Int) = g.w * g.h:=h.resolve_left (by simp)
    exact ⟨fun e=>(by cases e),fun e=>absurd e.2.2.1 h2⟩
   ·have h2:(g.tiles.length:Int) = g.w * g.h:=Classical.byContradiction fun e=>h (.inr e)
    refine Ok.bind (max_b (by omega) hl) fun m hm=>Ok.ret ?_
    rw [decide_eq_true_iff,hm]
    exact ⟨fun h=>⟨hw,hh,h2,h⟩,fun h=>h.2.2.2⟩
  ·refine Ok.bindE (x:=true) (by rw [if_neg (by simp),(side_b _).f hh]; rfl) (Ok.gd (fun h=>absurd rfl h) (Ok.ite (fun _=>Ok.ret ⟨fun e=>(by cases e),fun e=>absurd e.2.1 hh⟩) (fun h=>absurd (.inl rfl) h)))
 ·rw [(side_b _).f hw,bsome]
  refine Ok.bindE (x:=true) (by rw [if_pos (by rfl)]) (Ok.gd (fun h=>absurd rfl h) (Ok.ite (fun _=>Ok.ret ⟨fun e=>(by cases e),fun e=>absurd e.1 hw⟩) (fun h=>absurd (.inl rfl) h)))
theorem mayR_g {g:Grd} (hl:g.tiles.length ≤ 9223372036854775806):Bo (throngref5_Ground g) (GOk g):=by
 unfold throngref5_Ground
 by_cases hs:(1 ≤ g.w∧g.w ≤ 128)∧(1 ≤ g.h∧g.h ≤ 128)
 ·have:=mul_bd (a:=g.w) (b:=g.h) (A:=128) (B:=128) (by omega) (by omega)
  refine Ok.gd (fun _=>by unfold I64; omega) (Ok.ite (fun h=>Ok.ret ⟨fun e=>(by cases e),fun e=>?_⟩) (fun h=>?_))
  ·exact absurd e.2.2.1 (h.resolve_left (by omega))
  ·have h2:(g.tiles.length:Int) = g.w * g.h:=Classical.byContradiction fun e=>h (.inr e)
   refine (scanBo (a:=0) (n:=g.tiles.length) (fun i=>((gi g.tiles i).toNat:Int) ≤ 5) (by omega) (fun v h0 h1 _=>?_) (fun v _ hv=>by rw [if_neg (by omega)])).iff ⟨fun h=>⟨hs.1,hs.2,h2,h⟩,fun h=>h.2.2.2⟩
   rw [if_pos h1,if_pos ⟨h0,h1⟩]
   exact Ok.ite (fun h=>Ok.ret ⟨rfl,by omega⟩) (fun h=>Ok.gd (by unfold I64; omega) (Ok.ret ⟨rfl,by omega⟩))
 ·refine Ok.gd (fun h=>absurd h (fun h=>hs (by omega))) (Ok.ite (fun _=>Ok.ret ⟨fun e=>(by cases e),fun e=>absurd ⟨e.1,e.2.1⟩ hs⟩) (fun h=>absurd (.inl (by omega)) h))
theorem ownG_q {g:Grd} (h:g.tiles.length ≤ 1000000):ground_Own g = some g:=by
 unfold ground_Own slices_Clone_Byte
 rw [if_pos (by omega)]; rfl
def qw (n t:Int) (g:Grd):Wld:=⟨t,n,1,g,[],[]⟩
variable {n t:Int} {g:Grd}
theorem ownW_q (h:g.tiles.length ≤ 1000000):army_Own (qw n t g) = some (qw n t g):=by
 unfold army_Own
 show Option.bind (ground_Own g) _ = _
 rw [ownG_q h,bsome]; rfl
theorem new_q (hg:GOk g) (h:g.tiles.length ≤ 1000000) (hn:1 ≤ n∧n ≤ 8):world_New g n = some (qw n 0 g,0):=by
 unfold world_New
 rw [(may_g (by omega)).t hg,bsome,if_neg (by simp; omega),ownG_q h]; rfl
theorem mayB_q:build_May g [] = some true ∨ 281474976710656 < g.tiles.length:=by
 by_cases h:281474976710656 < g.tiles.length
 ·exact .inr h
 ·refine .inl ?_
  have hr:build_rising [] = some true:=by decide +kernel
  unfold build_May
  rw [if_neg (by simp),hr,bsome,bsome,if_neg (by simp),if_pos (by omega)]
  rw [loop_once (b:=Ex.go ()) (by rw [if_neg (by simp)]),bsome]; rfl
theorem mayW_q (hg:GOk g) (h:g.tiles.length ≤ 1000000) (hn:1 ≤ n∧n ≤ 8) (ht:0 ≤ t∧t ≤ 1000000):army_May (qw n t g) = some true:=by
 have hb:build_May g [] = some true:=mayB_q.resolve_right (by omega)
 have hc:slices_ContainsFuncB [] (fun y0=>army_form0_1 y0 (qw n t g)) = some false:=by
  unfold slices_ContainsFuncB slices_IndexFuncB
  rw [loop_once (b:=Ex.go ()) (by rw [if_neg (by simp)]),bsome]; rfl
 have hf:army_form0 (qw n t g) = some true:=by
  unfold army_form0
  rw [if_neg (by show ¬ ((((((t < 0) ∨ (1099511627776 < t)) ∨ (n < 1)) ∨ (8 < n)) ∨ ((1:Int) < 1)) ∨ ((1099511627776:Int) < 1)); omega)]
  show Option.bind (ground_May g) _ = _
  rw [(may_g (by omega)).t hg,bsome,if_neg (by simp)]
  show Option.bind (Option.bind (build_May g []) _) _ = _
  rw [hb,bsome,bsome,if_neg (by simp [qw])]
  show Option.bind (slices_ContainsFuncB [] _) _ = _
  rw [hc]; rfl
 have hr:army_riders (qw n t g) = some true:=by
  unfold army_riders
  rw [loop_once (b:=Ex.go ()) (by rw [if_neg (by simp [qw])]),bsome]; rfl
 unfold army_May
 rw [hf,bsome,if_neg (by simp),loop_once (b:=()) (by rw [if_neg (by simp [qw])]),bsome,loop_once (b:=Ex.go ()) (by rw [if_neg (by simp [qw])]),bsome]
 dsimp only [Ex.then]
 rw [if_pos (by rfl),hr]; rfl
theorem open_q {room:Int} (hg:GOk g) (h:g.tiles.length ≤ 1000000) (hn:1 ≤ n∧n ≤ 8) (ht:0 ≤ t∧t ≤ 1000000) (hr:1 ≤ room∧room ≤ 4096):∃ f,eng_Open (qw n t g) room = some (some ⟨qw n t g,f⟩,0):=by
 have e:∃ x,fields_New room = some (some x,0):=by
  unfold fields_New cache_New
  rw [if_neg (by omega)]
  exact ⟨_,rfl⟩
 obtain ⟨x,e⟩:=e
 refine ⟨x,?_⟩
 unfold eng_Open
 rw [e,bsome]
 dsimp only
 rw [if_neg (by simp),mayW_q hg h hn ht,bsome,bsome,if_neg (by simp),ownW_q h]; rfl
theorem put_q {b:List UInt8} {n:Int} (hb:b.length ≤ 1000000) (hn:n < 9223372036854775808):Ok (wire_Put b n) fun r=>r.length ≤ b.length + 10:=by
 unfold wire_Put
 refine Ok.bind (R:=fun z:Int × List UInt8=>z.2.length ≤ b.length + 9) (Ok.loop (fun z:Int × List UInt8=>∃ m:Nat,z.2.length + m = b.length + 9∧z.1 < 128 ^ m) (fun z=>z.1.toNat) ⟨9,rfl,hn⟩ (by unfold FUEL; dsimp only; omega) ?_) ?_
 ·rintro ⟨v,l⟩ ⟨m,h1,h2⟩
  dsimp only at h1 h2 ⊢
  refine Ok.ite (fun hv=>Ok.gd (by omega) (Ok.gd (by omega) (Ok.ret ?_))) (fun hv=>Ok.ret ?_)
  ·have e:(2:Int) ^ (7:Int).toNat = 128:=by decide
   dsimp only
   rw [e]
   cases m with
   | zero=>simp at h2; omega
   | succ m =>
    rw [Int.pow_succ] at h2
    exact ⟨⟨m,by rw [List.length_append]; simp; omega,Int.ediv_lt_of_lt_mul (by omega) h2⟩,by omega⟩
  ·show l.length ≤ _; omega
 ·rintro ⟨v,l⟩ hl
  dsimp only at hl ⊢
  exact Ok.gd (by omega) (Ok.ret (by rw [List.length_append]; simp; omega))
theorem sum_q {s:UInt64} {b:List UInt8} (hb:b.length ≤ 1000000):Ok (fnv_Sum s b) fun _=>True:=by
 unfold fnv_Sum
 refine Ok.bind (R:=fun _=>True) (Ok.loop (fun z:UInt64 × Int=>0 ≤ z.2∧z.2 ≤ b.length) (fun z=>(b.length - z.2).toNat) ⟨by simp,by simp⟩ (by unfold FUEL; dsimp only; omega) ?_) (fun x _=>Ok.ret trivial)
 rintro ⟨s,v⟩ ⟨h0,h1⟩
 dsimp only at h0 h1 ⊢
 exact Ok.ite (fun h=>Ok.gd ⟨h0,h⟩ (Ok.gd (by unfold I64; omega) (Ok.ret ⟨⟨by show 0 ≤ v + 1; omega,by show v + 1 ≤ _; omega⟩,by show ((b.length:Int) - (v + 1)).toNat < ((b.length:Int) - v).toNat; omega⟩))) (fun h=>Ok.ret trivial)
theorem bytes_q {s:UInt64}:Ok (fnv_Bytes s) fun r=>r.length ≤ 8:=by
 unfold fnv_Bytes
 refine Ok.bind (R:=fun r:List UInt8=>r.length ≤ 8) (Ok.loop (fun z:UInt64 × List UInt8 × Int=>(0 ≤ z.2.2∧z.2.2 ≤ 8)∧(z.2.1.length:Int) = z.2.2) (fun z=>(8 - z.2.2).toNat) ⟨⟨by simp,by simp⟩,rfl⟩ (by unfold FUEL; dsimp only; omega) ?_) (fun x h=>Ok.ret h)
 rintro ⟨s,l,v⟩ ⟨⟨h0,h1⟩,h2⟩
 dsimp only at h0 h1 h2 ⊢
 exact Ok.ite (fun h=>Ok.gd (by omega) (Ok.gd (by unfold I64; omega) (Ok.ret ⟨⟨⟨by show 0 ≤ v + 1; omega,by show v + 1 ≤ 8; omega⟩,by rw [List.length_append]; simp; omega⟩,by show (8 - (v + 1)).toNat < (8 - v).toNat; omega⟩))) (fun h=>Ok.ret (by show l.length ≤ 8; omega))
theorem raw_q {b:List UInt8} (hb:b.length ≤ 900000):Ok (wire_Raw b) fun r=>r.1.length ≤ b.length + 10:=by
 unfold wire_Raw
 rw [if_neg (by omega)]
 refine Ok.bind (put_q (by simp) (by omega)) fun x hx=>Ok.gd (by simp at hx; omega) (Ok.ret (by rw [List.length_append]; simp at hx; omega))
theorem lay1_q {l:List Int} {b:List UInt8} (hb:b.length ≤ 900000) (hl:l.length ≤ 100) (h:∀ v:Int,0 ≤ v→v < l.length→gi l v < 9223372036854775808):Ok (image_lay_1 l b) fun r=>r.length ≤ b.length + 10 * l.length:=by
 unfold image_lay_1
 refine Ok.bind (R:=fun r:List UInt8=>r.length ≤ b.length + 10 * l.length) (Ok.loop (fun z:Int × List UInt8=>(0 ≤ z.1∧z.1 ≤ l.length)∧(z.2.length:Int) ≤ b.length + 10 * z.1) (fun z=>(l.length - z.1).toNat) ⟨⟨by simp,by simp⟩,by simp⟩ (by unfold FUEL; dsimp only; omega) ?_) (fun x h=>Ok.ret h)
 rintro ⟨v,m⟩ ⟨⟨h0,h1⟩,h2⟩
 dsimp only at h0 h1 h2 ⊢
 exact Ok.ite (fun hv=>Ok.gd ⟨h0,hv⟩ (Ok.bind (put_q (by omega) (h v h0 hv)) fun x hx=>Ok.gd (by unfold I64; omega) (Ok.ret ⟨⟨⟨by show 0 ≤ v + 1; omega,by show v + 1 ≤ _; omega⟩,by show (x.length:Int) ≤ b.length + 10 * (v + 1); omega⟩,by show ((l.length:Int) - (v + 1)).toNat < ((l.length:Int) - v).toNat; omega⟩))) (fun hv=>Ok.ret (by show m.length ≤ _; omega))
theorem lay_q (hg:GOk g) (h:g.tiles.length ≤ 200000):Ok (mapcode_Lay g) fun r=>r.length ≤ 300000:=by
 unfold mapcode_Lay
 have h1:=hg.1; have h2:=hg.2.1
 refine Ok.bind (put_q (by simp) (by omega)) fun x hx=>Ok.bind (put_q (by simp at hx; omega) (by omega)) fun y hy=>?_
 simp at hx
 refine Ok.gd (by omega) ?_
 show Ok (Option.bind (fnv_Sum _ _) _) _
 refine Ok.bind (sum_q (by rw [List.length_append]; omega)) fun s _=>Ok.bind bytes_q fun z hz=>Ok.gd (by rw [List.length_append]; omega) (Ok.ret (by rw [List.length_append,List.length_append]; omega))
theorem sumW_q (hg:GOk g) (h:g.tiles.length ≤ 200000) (hn:n ≤ 8) (ht:t ≤ 1000000):∃ s,image_Sum (qw n t g) = some s:=by
 have key:Ok (image_Sum (qw n t g)) fun _=>True:=by
  unfold image_Sum
  show Ok (Option.bind (image_lay _) _) _
  refine Ok.bind (R:=fun r=>r.length ≤ 900000) ?_ fun r hr=>Ok.bind (sum_q (by omega)) fun _ _=>Ok.ret trivial
  unfold image_lay
  refine Ok.bind (lay1_q (by simp) (by simp) fun v v0 v1=>?_) fun x hx=>?_
  ·have v1:v < 3:=v1
   obtain e | e | e:v = 0 ∨ v = 1 ∨ v = 2:=by omega
   ·subst e; show t < _; omega
   ·subst e; show n < _; omega
   ·subst e; show (1:Int) < _; omega
  simp at hx
  refine Ok.bind (lay_q (g:=g) hg h) fun y hy=>Ok.bind (raw_q (by omega)) fun z hz=>Ok.gd (by omega) ?_
  refine Ok.bind (lay1_q (by rw [List.length_append]; omega) (by simp) fun v v0 v1=>?_) fun u hu=>?_
  ·have v1:v < 1:=v1
   obtain rfl:v = 0:=by omega
   show ((0:Nat):Int) < _; omega
  rw [List.length_append] at hu
  simp at hu
  rw [loop_once (b:=()) (by rw [if_neg (by simp [qw])]),bsome]
  refine Ok.bind (lay1_q (by omega) (by simp) fun v v0 v1=>?_) fun w hw=>?_
  ·have v1:v < 1:=v1
   obtain rfl:v = 0:=by omega
   show ((0:Nat):Int) < _; omega
  simp at hw
  rw [loop_once (b:=w) (by dsimp only; rw [if_neg (by simp [qw])]),bsome]
  exact Ok.ret (by omega)
 obtain ⟨s,e,_⟩:=key
 exact ⟨s,e⟩
def u1:Unt:=⟨1,1,0,⟨32768,32768⟩,-1,-1,0,0,0⟩
def uw (n t:Int) (g:Grd):Wld:=⟨t,n,2,g,[],[u1]⟩
def oneC:Cls:=some (1,⟨32768,32768⟩,⟨0,0⟩)
def o0:O3:=⟨none,none,none⟩
theorem ownU_q (h:g.tiles.length ≤ 1000000):army_Own (uw n t g) = some (uw n t g):=by
 unfold army_Own
 show Option.bind (ground_Own g) _ = _
 rw [ownG_q h,bsome]; rfl
theorem sumU_q (hg:GOk g) (h:g.tiles.length ≤ 200000) (hn:n ≤ 8) (ht:t ≤ 1000000):∃ s,image_Sum (uw n t g) = some s:=by
 have key:Ok (image_Sum (uw n t g)) fun _=>True:=by
  unfold image_Sum
  show Ok (Option.bind (image_lay _) _) _
  refine Ok.bind (R:=fun r=>r.length ≤ 900000) ?_ fun r hr=>Ok.bind (sum_q (by omega)) fun _ _=>Ok.ret trivial
  unfold image_lay
  refine Ok.bind (lay1_q (by simp) (by simp) fun v v0 v1=>?_) fun x hx=>?_
  ·have v1:v < 3:=v1
   obtain e | e | e:v = 0 ∨ v = 1 ∨ v = 2:=by omega
   ·subst e; show t < _; omega
   ·subst e; show n < _; omega
   ·subst e; show (2:Int) < _; omega
  simp at hx
  refine Ok.bind (lay_q (g:=g) hg h) fun y hy=>Ok.bind (raw_q (by omega)) fun z hz=>Ok.gd (by omega) ?_
  refine Ok.bind (lay1_q (by rw [List.length_append]; omega) (by simp) fun v v0 v1=>?_) fun u hu=>?_
  ·have v1:v < 1:=v1
   obtain rfl:v = 0:=by omega
   show ((0:Nat):Int) < _; omega
  rw [List.length_append] at hu
  simp at hu
  rw [loop_once (b:=()) (by rw [if_neg (by simp [uw])]),bsome]
  refine Ok.bind (lay1_q (by omega) (by simp) fun v v0 v1=>?_) fun w hw=>?_
  ·have v1:v < 1:=v1
   obtain rfl:v = 0:=by omega
   show ((1:Nat):Int) < _; omega
  simp at hw
  refine Ok.bind (R:=fun r:List UInt8=>r.length ≤ 900000) (Ok.loop (fun z:Int × List UInt8=>(0 ≤ z.1∧z.1 ≤ 1)∧(z.2.length:Int) ≤ 400000 + 1000 * z.1) (fun z=>(1 - z.1).toNat) ⟨⟨by simp,by simp⟩,by dsimp only; omega⟩ (by unfold FUEL; dsimp only; omega) ?_) fun x hx=>Ok.ret hx
  rintro ⟨v,l⟩ ⟨⟨v0,v1⟩,hl⟩
  dsimp only at v0 v1 hl ⊢
  have eu:((uw n t g).us.length:Int) = 1:=rfl
  rw [eu]
  refine Ok.ite (fun hv=>Ok.gd ⟨v0,hv⟩ ?_) (fun hv=>Ok.ret (by show l.length ≤ _; omega))
  obtain rfl:v = 0:=by omega
  refine Ok.bind (lay1_q (by omega) (by simp) fun v v0 v1=>?_) fun a ha=>?_
  ·have v1:v < 3:=v1
   obtain e | e | e:v = 0 ∨ v = 1 ∨ v = 2:=by omega
   ·subst e; show (1:Int) < _; omega
   ·subst e; show (1:Int) < _; omega
   ·subst e; show (0:Int) < _; omega
  simp at ha
  refine Ok.bind (R:=fun r:List UInt8=>r.length ≤ a.length + 20) (Ok.loop (fun z:Int × List UInt8=>(0 ≤ z.1∧z.1 ≤ 2)∧(z.2.length:Int) ≤ a.length + 10 * z.1) (fun z=>(2 - z.1).toNat) ⟨⟨by simp,by simp⟩,by dsimp only; omega⟩ (by unfold FUEL; dsimp only; omega) ?_) fun b hb=>?_
  ·rintro ⟨k,m⟩ ⟨⟨k0,k1⟩,hm⟩
   dsimp only at k0 k1 hm ⊢
   refine Ok.ite (fun hk=>Ok.gd ⟨k0,hk⟩ ?_) (fun hk=>Ok.ret (by show m.length ≤ _; omega))
   have e:gi ([((gi (uw n t g).us 0).pos).x,((gi (uw n t g).us 0).pos).y]:List Int) k = 32768:=by
    obtain e | e:k = 0 ∨ k = 1:=by omega
    ·subst e; rfl
    ·subst e; rfl
   have ew:wire_Int 32768 = some ([128,128,4],0):=by kernel_rfl
   rw [e,ew,bsome]
   dsimp only
   exact Ok.gd (by simp; omega) (Ok.gd (by unfold I64; omega) (Ok.ret ⟨⟨⟨by show 0 ≤ k + 1; omega,by show k + 1 ≤ 2; omega⟩,by show ((m ++ _).length:Int) ≤ a.length + 10 * (k + 1); rw [List.length_append]; simp; omega⟩,by show (2 - (k + 1)).toNat < (2 - k).toNat; omega⟩))
  refine Ok.gd (by show I64 ((-1:Int) + 1); decide) (Ok.gd (by show I64 ((-1:Int) + 1); decide) ?_)
  refine Ok.bind (lay1_q (by omega) (by simp) fun v v0 v1=>?_) fun c hc=>?_
  ·have v1:v < 5:=v1
   obtain e | e | e | e | e:v = 0 ∨ v = 1 ∨ v = 2 ∨ v = 3 ∨ v = 4:=by omega
   all_goals subst e; show (0:Int) < _; omega
  simp at hc
  exact Ok.gd (by decide) (Ok.ret ⟨⟨⟨by show 0 ≤ (0:Int) + 1; omega,by show (0:Int) + 1 ≤ 1; omega⟩,by show (c.length:Int) ≤ 400000 + 1000 * (0 + 1); omega⟩,by show (1 - ((0:Int) + 1)).toNat < (1 - (0:Int)).toNat; omega⟩)
 obtain ⟨s,e,_⟩:=key
 exact ⟨s,e⟩
theorem gi_siG {α:Type} [Inhabited α] {l:List α} {j k:Int} {x:α} (hj:0 ≤ j∧j < l.length) (hk:0 ≤ k):gi (si l j x) k = if k = j then x else gi l k:=by
 by_cases e:k = j
 ·rw [if_pos e,e,gi_si_self hj]
 ·rw [if_neg e,gi_si_ne hj.1 hk fun h=>e h.symm]
theorem price_q {t:Int} (h:0 ≤ t∧t ≤ 5):kind_Price 0 t = some (gi [2,1,3,5,0,0] t):=by
 unfold kind_Price
 rw [if_pos rfl,if_pos (by decide),if_pos ⟨h.1,by omega,by decide⟩]
theorem tiles_q (hg:GOk g) (h:g.tiles.length ≤ 1000000) (h0:((gi g.tiles 0).toNat:Int) = 0):Ok (clear_Tiles g [] 0) fun l=>(l.length:Int) = g.tiles.length∧gi l 0 = true:=by
 have hw:(1:Int) ≤ g.tiles.length:=by
  have h1:=hg.1; have h2:=hg.2.1
  rw [hg.2.2.1]
  have:=Int.mul_le_mul_of_nonneg_left h2.1 (show 0 ≤ g.w by omega)
  omega
 unfold clear_Tiles build_Cover
 rw [if_pos (by omega),loop_once (b:=List.replicate (g.tiles.length:Int).toNat false) (by dsimp only; rw [if_neg (by simp)]),bsome,bsome]
 refine Ok.bind (R:=fun l:List Bool=>(l.length:Int) = g.tiles.length∧gi l 0 = true) (Ok.loop (fun z:Int × List Bool=>(0 ≤ z.1∧z.1 ≤ g.tiles.length)∧(z.2.length:Int) = g.tiles.length∧(0 < z.1→gi z.2 0 = true)∧∀ i:Int,z.1 ≤ i→i < g.tiles.length→gi z.2 i = false) (fun z=>(g.tiles.length - z.1).toNat) ⟨⟨by simp,by simp⟩,by simp,fun e=>by have e:(0:Int) < 0:=e; omega,fun i i0 i1=>gi_replicate ⟨i0,by simp; omega⟩⟩ (by unfold FUEL; dsimp only; omega) ?_) fun x hx=>Ok.ret hx
 rintro ⟨v,l⟩ ⟨⟨v0,v1⟩,hl,ht,hf⟩
 dsimp only at v0 v1 hl ht hf ⊢
 rw [show ((List.replicate (g.tiles.length:Int).toNat false).length:Int) = g.tiles.length by simp]
 refine Ok.ite (fun hv=>Ok.gd ⟨v0,hv⟩ ?_) (fun hv=>Ok.ret ⟨hl,ht (by omega)⟩)
 rw [hf v (Int.le_refl _) hv,if_pos (by rfl),if_pos ⟨v0,hv⟩,price_q ⟨by omega,hg.2.2.2 v v0 hv⟩,bsome,bsome]
 have hgi:∀ (b:Bool) (i:Int),0 ≤ i→gi (si l v b) i = if i = v then b else gi l i:=fun b i i0=>gi_siG ⟨v0,by omega⟩ i0
 refine Ok.gd ⟨v0,hv⟩ (Ok.gd (by unfold I64; omega) (Ok.ret ⟨⟨⟨by show 0 ≤ v + 1; omega,by show v + 1 ≤ _; omega⟩,by show ((si l v _).length:Int) = _; rw [len_si]; exact hl,fun _=>?_,fun i i0 i1=>?_⟩,by show ((g.tiles.length:Int) - (v + 1)).toNat < ((g.tiles.length:Int) - v).toNat; omega⟩))
 ·show gi (si l v _) 0 = true
  rw [hgi _ 0 (by omega)]
  by_cases e:0 = v
  ·rw [if_pos e,← e,h0]; rfl
  ·rw [if_neg e]; exact ht (by omega)
 ·have i0:v + 1 ≤ i:=i0
  show gi (si l v _) i = false
  rw [hgi _ i (by omega),if_neg (by omega)]
  exact hf i (by omega) i1
theorem fits_q {l:List Bool} (hg:GOk g) (hl:(l.length:Int) = g.tiles.length) (h0:gi l 0 = true):disc_Fits g l ⟨32768,32768⟩ 24576 = some true:=by
 have h1:=hg.1; have h2:=hg.2.1
 have hw:(1:Int) ≤ g.tiles.length:=by
  rw [hg.2.2.1]
  have:=Int.mul_le_mul_of_nonneg_left h2.1 (show 0 ≤ g.w by omega)
  omega
 have ef:disc_form ⟨32768,32768⟩ 24576 = some true:=by kernel_rfl
 unfold disc_Fits
 rw [ef]
 dsimp only
 refine Ok.eq (Ok.gd (by unfold I64; omega) (Ok.gd (by unfold I64; omega) ?_))
 rw [bsome]
 refine Ok.gd (fun _=>by unfold I64; omega) (Ok.gd (fun _=>by unfold I64; omega) (Ok.gd (fun _=>by unfold I64; omega) (Ok.gd (fun _=>by unfold I64; omega) ?_)))
 rw [if_neg (by simp; omega)]
 refine Ok.gd (by decide) (Ok.gd (by decide) ?_)
 refine Ok.bind (R:=fun x=>x = Ex.go ()) (Ok.loop (fun v:Int=>0 ≤ v∧v ≤ 1) (fun v=>(1 - v).toNat) (by decide) (by unfold FUEL; omega) ?_) ?_
 ·rintro v ⟨v0,v1⟩
  refine Ok.gd (by decide) (Ok.gd (by decide) (Ok.ite (fun hv=>?_) (fun hv=>Ok.ret rfl)))
  have hv0:v = 0:=by have:=hv.1; omega
  subst hv0
  refine Ok.gd (by decide) (Ok.gd (by decide) ?_)
  refine Ok.bind (R:=fun x=>x = Ex.go ()) (Ok.loop (fun k:Int=>0 ≤ k∧k ≤ 1) (fun k=>(1 - k).toNat) (by decide) (by unfold FUEL; omega) ?_) ?_
  ·rintro k ⟨k0,k1⟩
   refine Ok.gd (by decide) (Ok.gd (by decide) (Ok.ite (fun hk=>?_) (fun hk=>Ok.ret rfl)))
   have hk0:k = 0:=by have:=hk.1; omega
   subst hk0
   have e:(0:Int) + g.w * 0 = 0:=by omega
   rw [e,h0]
   refine Ok.gd (by unfold I64; omega) (Ok.gd (by decide) (Ok.gd (by omega) ?_))
   rw [if_neg (by simp),bsome,if_neg (by simp)]
   exact Ok.gd (by decide) (Ok.ret ⟨by decide,by decide⟩)
  ·rintro x rfl
   dsimp only [Ex.then]
   exact Ok.gd (by decide) (Ok.ret ⟨by decide,by decide⟩)
 ·rintro x rfl
  exact Ok.ret rfl
def p0:Vec:=⟨32768,32768⟩
theorem tilesA_q (hg:GOk g) (h:g.tiles.length ≤ 1000000) (h0:((gi g.tiles 0).toNat:Int) = 0):∃ l o,army_tiles g [] o0 0 = some (l,o)∧(l.length:Int) = g.tiles.length∧gi l 0 = true:=by
 obtain ⟨l,e,hl,ht⟩:=tiles_q hg h h0
 have hw:0 < l.length:=by
  have h1:=hg.1; have h2:=hg.2.1
  have:=Int.mul_le_mul_of_nonneg_left h2.1 (show 0 ≤ g.w by omega)
  have:=hg.2.2.1
  omega
 refine ⟨l,o0.put 0 l,?_,hl,ht⟩
 unfold army_tiles
 rw [if_pos (by decide)]
 show Option.bind (clear_Tiles g [] 0) _ = _
 rw [e,bsome,if_pos hw]
theorem what_q:kind_What 0 = some ⟨24576,16384,0,0,0⟩:=by kernel_rfl
theorem nearQ_q {o:O3}:army_Near ⟨qw n t g,o,none⟩ p0 24576 = some []:=by
 have e:cells_Near none p0 106496 = some []:=by kernel_rfl
 unfold army_Near
 dsimp only
 rw [if_pos (by decide),show (24576:Int) + 81920 = 106496 by decide,e,bsome,loop_once (b:=[]) (by rw [if_neg (by simp)]),bsome]
theorem nearU_q {o:O3} {r:Int} (hr:r = 24576 ∨ r = 40960):army_Near ⟨uw n t g,o,oneC⟩ p0 r = some [u1]:=by
 have e:∀ q:Int,q = 106496 ∨ q = 122880→cells_Near oneC p0 q = some [1]:=by
  rintro q (rfl | rfl) <;> kernel_rfl
 have ea:army_At [u1] 1 = some (0,true):=by kernel_rfl
 unfold army_Near
 dsimp only
 rw [if_pos (by unfold I64; omega),e _ (by omega),bsome]
 refine Ok.eq (Ok.bind (R:=fun l=>l = [u1]) (Ok.loop (fun z:List Unt × Int=>(0 ≤ z.2∧z.2 ≤ 1)∧z.1 = if z.2 = 0 then [] else [u1]) (fun z=>(1 - z.2).toNat) ⟨by decide,rfl⟩ (by unfold FUEL; decide) ?_) fun l hl=>Ok.ret hl)
 rintro ⟨l,v⟩ ⟨⟨v0,v1⟩,hl⟩
 dsimp only at v0 v1 hl ⊢
 rw [show (([1]:List Int).length:Int) = 1 by rfl]
 refine Ok.ite (fun hv=>Ok.gd ⟨v0,hv⟩ ?_) (fun hv=>Ok.ret (by show l = _; rw [hl,if_neg (by omega)]))
 obtain rfl:v = 0:=by omega
 have hl:l = []:=hl
 subst hl
 show Ok (Option.bind (army_At [u1] 1) _) _
 rw [ea,bsome]
 exact Ok.gd (by show (0:Int) ≤ 0∧(0:Int) < ((1:Nat):Int); decide) (Ok.gd (by simp) (Ok.gd (by decide) (Ok.ret ⟨⟨by show (0:Int) ≤ 0 + 1∧(0:Int) + 1 ≤ 1; decide,rfl⟩,by show (1 - ((0:Int) + 1)).toNat < (1 - (0:Int)).toNat; decide⟩)))
theorem place1_q (hg:GOk g) (h:g.tiles.length ≤ 1000000) (h0:((gi g.tiles 0).toNat:Int) = 0):∃ o,army_Place ⟨qw n t g,o0,none⟩ 0 0 p0 = some (true,⟨qw n t g,o,none⟩):=by
 obtain ⟨l,o,e,hl,ht⟩:=tilesA_q hg h h0
 refine ⟨o,?_⟩
 unfold army_Place
 rw [what_q,bsome]
 show Option.bind (army_tiles g [] o0 0) _ = _
 rw [e,bsome]
 show Option.bind (disc_Fits g l p0 24576) _ = _
 rw [show disc_Fits g l p0 24576 = some true from fits_q hg hl ht,bsome,if_neg (by simp)]
 dsimp only
 rw [nearQ_q,bsome,loop_once (b:=Ex.go ()) (by rw [if_neg (by simp)]),bsome]; rfl
theorem place2_q (hg:GOk g) (h:g.tiles.length ≤ 1000000) (h0:((gi g.tiles 0).toNat:Int) = 0):∃ o,army_Place ⟨uw n t g,o0,oneC⟩ 0 0 p0 = some (false,⟨uw n t g,o,oneC⟩):=by
 obtain ⟨l,o,e,hl,ht⟩:=tilesA_q hg h h0
 refine ⟨o,?_⟩
 have ea:disc_Apart p0 24576 p0 24576 = some false:=by kernel_rfl
 unfold army_Place
 rw [what_q,bsome]
 show Option.bind (army_tiles g [] o0 0) _ = _
 rw [e,bsome]
 show Option.bind (disc_Fits g l p0 24576) _ = _
 rw [show disc_Fits g l p0 24576 = some true from fits_q hg hl ht,bsome,if_neg (by simp)]
 dsimp only
 rw [nearU_q (.inl rfl),bsome,loop_once (b:=Ex.up (false,⟨uw n t g,o,oneC⟩)) ?_,bsome]
 ·rfl
 ·rw [if_pos (by decide),if_pos (by decide)]
  show Option.bind (if ¬ (1:Int) = 0 then Option.bind (kind_What 0) _ else _) _ = _
  rw [if_pos (by decide),what_q,bsome]
  show Option.bind (Option.bind (disc_Apart p0 24576 p0 24576) _) _ = _
  rw [ea,bsome,bsome,if_pos (by rfl)]
def spw (k j:Int):Cmd:=⟨k,j,1,0,[],0,0,0,p0⟩
theorem spw_may {k j:Int} (hk:1 ≤ k∧k ≤ 8) (hj:1 ≤ j∧j ≤ 1000):command_May (spw k j) = some true:=by
 have h1:kind_May 0 = some true:=by kernel_rfl
 have h2:disc_Place p0 = some true:=by kernel_rfl
 unfold command_May command_only
 show Option.bind (if (1:Int) = 1 then Option.bind (kind_May 0) _ else _) _ = _
 rw [if_pos rfl,h1,bsome,if_pos rfl]
 show Option.bind (Option.bind (Option.bind (disc_Place p0) _) _) _ = _
 rw [h2,bsome,bsome,bsome,if_pos rfl]
 have w:∀ x a b:Int,a ≤ x∧x ≤ b→command_within x a b = some true:=fun x a b h=>by unfold command_within; rw [decide_eq_true h]
 show Option.bind (Option.bind (command_within k 1 8) _) _ = _
 rw [w k 1 8 hk,bsome,bsome,if_pos rfl]
 show Option.bind (Option.bind (command_within j 0 1099511627776) _) _ = _
 rw [w j 0 _ (by omega),bsome,bsome]
 refine congrArg some (decide_eq_true ?_)
 exact ⟨⟨⟨⟨⟨⟨rfl,rfl⟩,rfl⟩,rfl⟩,rfl⟩,rfl⟩,rfl⟩
theorem openQ_q:army_Open (qw n t g) = some ⟨qw n t g,o0,none⟩:=by
 unfold army_Open
 rw [if_pos (by show ((0:Nat):Int) < 1099511627776; decide)]; rfl
theorem openU_q:army_Open (uw n t g) = some ⟨uw n t g,o0,oneC⟩:=by
 have h:openL 1 [u1] none = some oneC:=by kernel_rfl
 unfold army_Open
 rw [if_pos (by show ((1:Nat):Int) < 1099511627776; decide)]
 show Option.bind (openL 1 [u1] none) _ = _
 rw [h]; rfl
theorem do1_q {f:Fld} (hg:GOk g) (h:g.tiles.length ≤ 1000000) (h0:((gi g.tiles 0).toNat:Int) = 0) (hn:1 ≤ n):apply_Do (qw n t g) (spw 1 1) f = some ((uw n t g,0),f):=by
 obtain ⟨o,e⟩:=place1_q (n:=n) (t:=t) hg h h0
 unfold apply_Do
 rw [spw_may (by decide) (by decide),bsome,if_pos rfl,if_neg (by show ¬ n < 1; omega),ownW_q h,bsome,openQ_q,bsome]
 unfold work_does
 rw [if_pos (by rfl)]
 unfold apply_work_spawn
 rw [if_neg (by show ¬ ((0:Int) = 4096 ∨ (1:Int) = 1099511627776); decide)]
 show Option.bind (Option.bind (Option.bind (army_Place ⟨qw n t g,o0,none⟩ 0 0 p0) _) _) _ = _
 rw [e,bsome,if_neg (by simp)]
 rfl
theorem do2_q {f:Fld} {k j:Int} (hg:GOk g) (h:g.tiles.length ≤ 1000000) (h0:((gi g.tiles 0).toNat:Int) = 0) (hn:n ≤ 8) (hk:1 ≤ k∧k ≤ n) (hj:1 ≤ j∧j ≤ 1000):apply_Do (uw n t g) (spw k j) f = some ((uw n t g,5),f):=by
 obtain ⟨o,e⟩:=place2_q (n:=n) (t:=t) hg h h0
 unfold apply_Do
 rw [spw_may ⟨hk.1,by omega⟩ hj,bsome,if_pos rfl,if_neg (by show ¬ n < k; omega),ownU_q h,bsome,openU_q,bsome]
 unfold work_does
 rw [if_pos (by rfl)]
 unfold apply_work_spawn
 rw [if_neg (by show ¬ ((1:Int) = 4096 ∨ (2:Int) = 1099511627776); decide)]
 show Option.bind (Option.bind (Option.bind (army_Place ⟨uw n t g,o0,oneC⟩ 0 0 p0) _) _) _ = _
 rw [e,bsome,if_pos (by rfl),bsome,bsome,if_neg (by show ¬ (5:Int) = 0; decide)]
theorem goQ_q {f:Fld}:move_Go (qw n t g) f = some (qw n t g,f):=by
 unfold move_Go
 rw [if_pos (by show ((0:Nat):Int) < 1099511627776; decide),openQ_q]; rfl
theorem try_q {m:Mvr} {u:Unt}:mover_try m u ⟨0,0⟩ = some (5,m):=by
 have e:vec_Norm ⟨0,0⟩ = some ⟨0,0⟩:=by kernel_rfl
 unfold mover_try
 rw [e,bsome,loop_once (b:=Ex.up (5,m)) ?_,bsome]
 ·rfl
 ·rw [if_pos (by decide),if_pos (by decide),if_pos (by decide),if_pos (by decide),if_pos (by decide),if_pos (by decide)]
theorem idle_q {f:Fld}:mover_idle ⟨⟨uw n t g,o0,oneC⟩,f⟩ u1 = some ⟨⟨uw n t g,o0,oneC⟩,f⟩:=by
 have ec:vec_Clamp ⟨0,0⟩ 4096 = some ⟨0,0⟩:=by kernel_rfl
 unfold mover_idle
 show Option.bind (kind_What 0) _ = _
 rw [what_q,bsome,if_pos (by decide)]
 show Option.bind (army_Near ⟨uw n t g,o0,oneC⟩ p0 40960) _ = _
 rw [nearU_q (.inr rfl),bsome]
 refine Ok.eq (Ok.bind (R:=fun _=>True) (Ok.loop (fun v:Int=>0 ≤ v∧v ≤ 1) (fun v=>(1 - v).toNat) (by decide) (by unfold FUEL; decide) ?_) fun _ _=>?_)
 ·rintro v ⟨v0,v1⟩
  rw [show (([u1]:List Unt).length:Int) = 1 by rfl]
  refine Ok.ite (fun hv=>Ok.gd ⟨v0,hv⟩ ?_) (fun _=>Ok.ret trivial)
  obtain rfl:v = 0:=by omega
  rw [if_neg (by show ¬ ¬ (1:Int) = 1; decide)]
  exact Ok.gd (by decide) (Ok.ret ⟨by decide,by decide⟩)
 ·rw [if_pos (by decide),show Int.tdiv (16384:Int) 4 = 4096 by decide,ec,bsome,try_q,bsome]
  exact Ok.ret rfl
theorem goU_q {f:Fld}:move_Go (uw n t g) f = some (uw n t g,f):=by
 unfold move_Go
 rw [if_pos (by show ((1:Nat):Int) < 1099511627776; decide),openU_q,bsome]
 show Option.bind (goL 1 0 ⟨⟨uw n t g,o0,oneC⟩,f⟩) _ = _
 unfold goL
 rw [if_pos (by show ((0:Nat):Int) < ((1:Nat):Int); decide),if_pos (by show (0:Int) = 0; rfl)]
 show Option.bind (Option.bind (mover_unit ⟨⟨uw n t g,o0,oneC⟩,f⟩ u1) _) _ = _
 unfold mover_unit
 rw [if_pos (by rfl),idle_q]; rfl
theorem world_q {f:Fld} (h:g.tiles.length ≤ 1000000):eng_World ⟨qw n t g,f⟩ = some (qw n t g):=by
 unfold eng_World
 show Option.bind (army_Own (qw n t g)) _ = _
 rw [ownW_q h]; rfl
theorem worldU_q {f:Fld} (h:g.tiles.length ≤ 1000000):eng_World ⟨uw n t g,f⟩ = some (uw n t g):=by
 unfold eng_World
 show Option.bind (army_Own (uw n t g)) _ = _
 rw [ownU_q h]; rfl
theorem step_q {f:Fld} (h:g.tiles.length ≤ 1000000) (ht:0 ≤ t∧t < 1000000):eng_Step ⟨qw n t g,f⟩ [] = some ([],0,⟨qw n (t + 1) g,f⟩):=by
 unfold eng_Step
 rw [if_neg (by show ¬ t = _; omega),if_neg (by simp),loop_once (b:=(⟨qw n t g,f⟩,[])) (by dsimp only; rw [if_neg (by simp)]),bsome]
 dsimp only
 rw [ownW_q h,bsome,goQ_q,bsome,if_pos (by show I64 (t + 1); unfold I64; omega)]; rfl
structure CsOk (n:Int) (l:List Cmd):Prop where
 len:1 ≤ l.length∧l.length ≤ 500
 fst:gi l 0 = spw 1 1
 all:∀ v:Int,0 ≤ v→v < l.length→∃ k j:Int,(1 ≤ k∧k ≤ n)∧(1 ≤ j∧j ≤ 1000)∧gi l v = spw k j
theorem stepU_q {f:Fld} {l:List Cmd} (hg:GOk g) (h:g.tiles.length ≤ 1000000) (h0:((gi g.tiles 0).toNat:Int) = 0) (hn:1 ≤ n∧n ≤ 8) (ht:0 ≤ t∧t < 1000000) (hl:CsOk n l):Ok (eng_Step ⟨qw n t g,f⟩ l) fun r=>r.2.2 = ⟨uw n (t + 1) g,f⟩:=by
 have hln:=hl.len
 unfold eng_Step
 rw [if_neg (by show ¬ t = _; omega),if_neg (by omega)]
 refine Ok.bind (R:=fun r:Egn × List Int=>r.1 = ⟨uw n t g,f⟩) (Ok.loop (fun z:List Int × Int × Egn=>(0 ≤ z.2.1∧z.2.1 ≤ l.length)∧(z.1.length:Int) = z.2.1∧z.2.2 = if z.2.1 = 0 then ⟨qw n t g,f⟩ else ⟨uw n t g,f⟩) (fun z=>(l.length - z.2.1).toNat) ⟨⟨by simp,by simp⟩,rfl,rfl⟩ (by unfold FUEL; dsimp only; omega) ?_) ?_
 ·rintro ⟨m,v,e⟩ ⟨⟨v0,v1⟩,hm,he⟩
  dsimp only at v0 v1 hm he ⊢
  refine Ok.ite (fun hv=>Ok.gd ⟨v0,hv⟩ ?_) (fun hv=>Ok.ret (by show e = _; rw [he,if_neg (by omega)]))
  have key:∃ y,apply_Do e.w (gi l v) e.f = some ((uw n t g,y),f):=by
   by_cases hv0:v = 0
   ·subst hv0
    rw [he,if_pos rfl,hl.fst]
    exact ⟨0,do1_q hg h h0 hn.1⟩
   ·rw [he,if_neg hv0]
    obtain ⟨k,j,hk,hj,e1⟩:=hl.all v v0 hv
    rw [e1]
    exact ⟨5,do2_q hg h h0 hn.2 hk hj⟩
  obtain ⟨y,ey⟩:=key
  rw [ey,bsome,bsome]
  dsimp only
  refine Ok.gd (by omega) (Ok.gd (by unfold I64; omega) (Ok.ret ⟨⟨⟨by show 0 ≤ v + 1; omega,by show v + 1 ≤ _; omega⟩,by show ((m ++ [_]).length:Int) = v + 1; rw [List.length_append]; simp; omega,?_⟩,by show ((l.length:Int) - (v + 1)).toNat < ((l.length:Int) - v).toNat; omega⟩))
  show _ = if v + 1 = 0 then _ else _
  rw [if_neg (by omega)]
 ·rintro ⟨e,m⟩ he
  have he:e = ⟨uw n t g,f⟩:=he
  subst he
  dsimp only
  rw [ownU_q h,bsome,goU_q,bsome,if_pos (by show I64 (t + 1); unfold I64; omega)]
  exact Ok.ret rfl
end Go.Proofs.YtmngdgclldkcfaaGreat
