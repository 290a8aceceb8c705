/-
  Texts of one's own, joined: PV PW PX PY PT0.
-/
import Derived.Test.YtmngdgclldkcfaaGreatJ24
set_option linter.unusedVariables false
set_option linter.unusedSimpArgs false
namespace Go.Proofs.YtmngdgclldkcfaaGreat
open Go.Vg
open Go
def IsMin (l:List Int) (m:Int):Prop:=(∃ v:Int,(0 ≤ v∧v < l.length)∧gi l v = m)∧∀ v:Int,0 ≤ v→v < l.length→m ≤ gi l v
def IsMax (l:List Int) (m:Int):Prop:=(∃ v:Int,(0 ≤ v∧v < l.length)∧gi l v = m)∧∀ v:Int,0 ≤ v→v < l.length→gi l v ≤ m
theorem IsMin.uniq {l:List Int} {m n:Int} (h:IsMin l m) (k:IsMin l n):m = n:=by
 obtain ⟨⟨v,hv,e⟩,h2⟩:=h
 obtain ⟨⟨u,hu,f⟩,k2⟩:=k
 have a:=h2 u hu.1 hu.2
 have b:=k2 v hv.1 hv.2
 omega
theorem min_p {l:List Int} (h0:0 < l.length) (hl:l.length ≤ 1000000):Ok (slices_Min l) (IsMin l):=by
 unfold slices_Min
 rw [if_neg (by omega),Option.bind_some]
 refine Ok.gd ⟨by omega,by omega⟩ (Ok.bind (R:=IsMin l) (Ok.loop (fun z:Int × Int=>(1 ≤ z.2∧z.2 ≤ l.length)∧(∃ v:Int,(0 ≤ v∧v < z.2)∧gi l v = z.1)∧∀ v:Int,0 ≤ v→v < z.2→z.1 ≤ gi l v) (fun z=>(l.length - z.2).toNat) ⟨⟨by show (1:Int) ≤ 1; omega,by show (1:Int) ≤ _; omega⟩,⟨0,by omega,rfl⟩,fun v v0 v1=>by
  have:v = 0:=by dsimp only at v1; omega
  subst this; exact Int.le_refl _⟩ (by unfold FUEL; dsimp only; omega) ?_) (fun x hx=>Ok.ret hx))
 rintro ⟨m,j⟩ ⟨⟨j0,j1⟩,⟨v,hv,e⟩,hm⟩
 dsimp only at j0 j1 hv e hm ⊢
 refine Ok.ite (fun hlt=>Ok.gd ⟨by omega,hlt⟩ (Ok.gd (by unfold I64; omega) (Ok.ret ⟨⟨⟨by show 1 ≤ j + 1; omega,by show j + 1 ≤ _; omega⟩,?_,?_⟩,by show (l.length - (j + 1)).toNat < (l.length - j).toNat; omega⟩))) (fun hlt=>Ok.ret ⟨⟨v,by omega,e⟩,fun u u0 u1=>hm u u0 (by omega)⟩)
 ·by_cases hc:m ≤ gi l j
  ·exact ⟨v,by dsimp only; omega,by rw [e]; show m = min m (gi l j); omega⟩
  ·exact ⟨j,by dsimp only; omega,by show gi l j = min m (gi l j); omega⟩
 ·intro u u0 u1
  dsimp only at u1
  show min m (gi l j) ≤ _
  by_cases hu:u = j
  ·subst hu; omega
  ·have:=hm u u0 (by omega); omega
theorem least_p {l:List Int} (h0:0 < l.length) (hl:l.length ≤ 1000000):Ok (throngref27_least l) (IsMin l):=by
 obtain ⟨m,hm,hi⟩:=min_p h0 hl
 have:throngref27_least l = slices_Min l:=by
  unfold slices_Min
  rw [if_neg (show ¬ (l.length:Int) < 1 by omega),Option.bind_some]
  rfl
 rw [this]
 exact ⟨m,hm,hi⟩
def minL (l:List Int):Int:=(slices_Min l).getD 0
theorem min_e {l:List Int} (h0:0 < l.length) (hl:l.length ≤ 1000000):slices_Min l = some (minL l)∧throngref27_least l = some (minL l)∧IsMin l (minL l):=by
 obtain ⟨m,hm,hi⟩:=min_p h0 hl
 obtain ⟨n,hn,hj⟩:=least_p h0 hl
 have e:minL l = m:=by unfold minL; rw [hm]; rfl
 rw [e,hm,hn,hj.uniq hi]
 exact ⟨rfl,rfl,hi⟩
theorem minL_of {l:List Int} {m:Int} (hl:l.length ≤ 1000000) (h:IsMin l m):minL l = m:=by
 obtain ⟨v,hv,_⟩:=h.1
 exact (min_e (by omega) hl).2.2.uniq h
theorem max_p {l:List Int} (h0:0 < l.length) (hl:l.length ≤ 1000000):Ok (slices_MaxI l) (IsMax l):=by
 unfold slices_MaxI
 rw [if_neg (by omega),Option.bind_some]
 refine Ok.gd ⟨by omega,by omega⟩ (Ok.bind (R:=IsMax l) (Ok.loop (fun z:Int × Int=>(1 ≤ z.2∧z.2 ≤ l.length)∧(∃ v:Int,(0 ≤ v∧v < z.2)∧gi l v = z.1)∧∀ v:Int,0 ≤ v→v < z.2→gi l v ≤ z.1) (fun z=>(l.length - z.2).toNat) ⟨⟨by show (1:Int) ≤ 1; omega,by show (1:Int) ≤ _; omega⟩,⟨0,by omega,rfl⟩,fun v v0 v1=>by
  have:v = 0:=by dsimp only at v1; omega
  subst this; exact Int.le_refl _⟩ (by unfold FUEL; dsimp only; omega) ?_) (fun x hx=>Ok.ret hx))
 rintro ⟨m,j⟩ ⟨⟨j0,j1⟩,⟨v,hv,e⟩,hm⟩
 dsimp only at j0 j1 hv e hm ⊢
 refine Ok.ite (fun hlt=>Ok.gd ⟨by omega,hlt⟩ (Ok.gd (by unfold I64; omega) (Ok.ret ⟨⟨⟨by show 1 ≤ j + 1; omega,by show j + 1 ≤ _; omega⟩,?_,?_⟩,by show (l.length - (j + 1)).toNat < (l.length - j).toNat; omega⟩))) (fun hlt=>Ok.ret ⟨⟨v,by omega,e⟩,fun u u0 u1=>hm u u0 (by omega)⟩)
 ·by_cases hc:gi l j ≤ m
  ·exact ⟨v,by dsimp only; omega,by rw [e]; show m = max m (gi l j); omega⟩
  ·exact ⟨j,by dsimp only; omega,by show gi l j = max m (gi l j); omega⟩
 ·intro u u0 u1
  dsimp only at u1
  show _ ≤ max m (gi l j)
  by_cases hu:u = j
  ·subst hu; omega
  ·have:=hm u u0 (by omega); omega
theorem Nb.or {c:Prop} [Decidable c] {m:Option Bool} {q:Prop} (hm:¬ c→Bo m q):Ok (if c then some true else Option.bind m fun x=>some (!x)) fun b=>b = true ↔ ¬ (¬ c∧q):=by
 by_cases h:c
 ·rw [if_pos h]; exact Ok.ret ⟨fun _ k=>k.1 h,fun _=>rfl⟩
 ·rw [if_neg h]
  obtain ⟨r,e,hr⟩:=hm h
  rw [e]
  refine Ok.ret ?_
  cases r with
  | true=>simp [h,hr.1 rfl]
  | false =>
   have:¬ q:=fun k=>by have:=hr.2 k; cases this
   simp [this]
theorem Nb.orB {b0:Bool} {C:Prop} {m:Option Bool} {q:Prop} (hb:b0 = true ↔ ¬ C) (hm:C→Bo m q):Ok (if b0 = true then some true else Option.bind m fun x=>some (!x)) fun b=>b = true ↔ ¬ (C∧q):=by
 refine Ok.mono (Nb.or (c:=b0 = true) (m:=m) (q:=q) (fun h=>hm (Classical.byContradiction fun k=>h (hb.2 k)))) fun b e=>?_
 rw [e]
 constructor
 ·intro h k; exact h ⟨fun x=>hb.1 x k.1,k.2⟩
 ·intro h k; exact h ⟨Classical.byContradiction fun x=>k.1 (hb.2 x),k.2⟩
theorem Nb.not {b0:Bool} {C:Prop} (hb:b0 = true ↔ ¬ C) (h:¬ b0 = true):C:=Classical.byContradiction fun x=>h (hb.2 x)
theorem bId {m:Option Bool} {p:Prop} (h:Bo m p):Bo (Option.bind m fun x=>some x) p:=by
 obtain ⟨r,e,hr⟩:=h
 rw [e]; exact Ok.ret hr
theorem bAnd {c:Prop} [Decidable c] {m:Option Bool} {p:Prop} (h:c→Bo m p):Bo (if c then Option.bind m fun x=>some x else some false) (c∧p):=by
 by_cases hc:c
 ·rw [if_pos hc]; exact (bId (h hc)).iff ⟨fun k=>⟨hc,k⟩,fun k=>k.2⟩
 ·rw [if_neg hc]; exact Ok.ret ⟨fun e=>(by cases e),fun k=>absurd k.1 hc⟩
structure PerS (p:Per):Prop where
 mine:InpsS p.mine
 inputs:InpsS p.inputs
 has:p.has.length ≤ 1000000
 acked:p.acked.length ≤ 1000000
 hashes:p.hashes.length ≤ 1000000
structure Val (p:Per):Prop where
 pl:1 ≤ p.players∧p.players ≤ 8
 id:1 ≤ p.id∧p.id ≤ p.players
 dl:1 ≤ p.delay∧p.delay ≤ 8
 tn:0 ≤ p.turn∧p.turn ≤ 1099511627776
 sd:p.delay - 1 ≤ p.said∧p.said ≤ p.turn + p.delay - 1∧p.said ≤ 1099511627776
 hl:(p.has.length:Int) = p.players
 al:(p.acked.length:Int) = p.players
 hv:∀ v:Int,0 ≤ v→v < p.players→p.delay - 1 ≤ gi p.has v∧p.turn - 1 ≤ gi p.has v∧gi p.has v ≤ p.turn + 16∧gi p.has v ≤ 1099511627776
 av:∀ v:Int,0 ≤ v→v < p.players→p.delay - 1 ≤ gi p.acked v∧gi p.acked v ≤ p.said
 hme:gi p.has (p.id - 1) = p.said
 ame:gi p.acked (p.id - 1) = p.said
 hs:(p.hashes.length:Int) ≤ 16∧(p.hashes.length:Int) ≤ p.turn
 inp:ListOk p.inputs
 iv:∀ v:Int,0 ≤ v→v < p.inputs.length→p.turn ≤ (gi p.inputs v).turn∧(gi p.inputs v).player ≤ p.players∧(gi p.inputs v).turn ≤ gi p.has ((gi p.inputs v).player - 1)
 ml:(p.mine.length:Int) = p.said - minL p.acked
 mv:∀ v:Int,0 ≤ v→v < p.mine.length→InpOk (gi p.mine v)∧(gi p.mine v).player = p.id∧(gi p.mine v).turn = minL p.acked + 1 + v
theorem Val.mn {p:Per} (h:Val p):IsMin p.acked (minL p.acked):=(min_e (by have:=h.al; have:=h.pl; omega) (by have:=h.al; have:=h.pl; omega)).2.2
theorem Val.low {p:Per} (h:Val p):p.delay - 1 ≤ minL p.acked∧minL p.acked ≤ p.said:=by
 obtain ⟨⟨v,hv,e⟩,_⟩:=h.mn
 have:=h.av v hv.1 (by have:=h.al; omega)
 omega
def CountsOk (p:Per) (l:List Int):Prop:=(∀ v:Int,0 ≤ v→v < l.length→p.delay - 1 ≤ gi l v∧gi l v ≤ p.turn + 16∧gi l v ≤ 1099511627776)∧(l.length:Int) = p.players∧gi l (p.id - 1) = p.said
theorem counts_b {p:Per} {l:List Int} (hl:l.length ≤ 1000000) (h1:1 ≤ p.players∧p.players ≤ 8) (h2:1 ≤ p.id∧p.id ≤ p.players) (h3:1 ≤ p.delay∧p.delay ≤ 8) (h4:0 ≤ p.turn∧p.turn ≤ 1099511627776):Bo (peer_counts p l) (CountsOk p l):=by
 unfold peer_counts
 refine Ok.bind (scanOk (a:=0) (n:=l.length) (fun v=>p.delay - 1 ≤ gi l v∧gi l v ≤ p.turn + 16∧gi l v ≤ 1099511627776) (fun r=>r = false∧¬ CountsOk p l) (by omega) (fun v v0 v1 _=>?_) (fun v v0 v1=>by rw [if_neg (by omega)])) ?_
 ·rw [if_pos v1]
  refine Ok.gd ⟨v0,v1⟩ (Ok.gd (by unfold I64; omega) (Ok.gd (fun _=>by unfold I64; omega) (Ok.ite (fun h=>Ok.ret ⟨rfl,fun hu=>?_⟩) (fun h=>Ok.gd (by unfold I64; omega) (Ok.ret ⟨rfl,by omega⟩)))))
  have:=hu.1 v v0 v1
  omega
 ·rintro (_ | _) hx
  ·exact Ok.gd (fun _=>by unfold I64; omega) (Ok.gd (fun e=>by omega) (Bo.dec ⟨fun h=>⟨hx,h⟩,fun h=>h.2⟩))
  ·exact Ok.ret ⟨fun e=>(by rw [hx.1] at e; cases e),fun h=>absurd h hx.2⟩
def MineOk (p:Per):Prop:=(p.mine.length:Int) = p.said - minL p.acked∧∀ v:Int,0 ≤ v→v < p.mine.length→InpOk (gi p.mine v)∧(gi p.mine v).player = p.id∧(gi p.mine v).turn = minL p.acked + 1 + v
theorem mine_b {p:Per} (hs:PerS p) (hp:0 < p.acked.length) (ha:∀ v:Int,0 ≤ v→v < p.acked.length→0 ≤ gi p.acked v∧gi p.acked v ≤ p.said) (h5:0 ≤ p.said∧p.said ≤ 1099511627776):Bo (peer_mine p) (MineOk p):=by
 obtain ⟨e1,_,⟨⟨v,hv,e⟩,_⟩⟩:=min_e hp hs.acked
 have hm:=ha v hv.1 hv.2
 rw [e] at hm
 have hml:=hs.mine.1
 unfold peer_mine
 rw [e1,bsome]
 refine Ok.gd (by unfold I64; omega) (Ok.ite (fun hn=>Ok.ret ⟨fun e=>(by cases e),fun k=>absurd k.1 hn⟩) (fun hn=>?_))
 have hn:=Decidable.not_not.1 hn
 refine (scanBo (a:=0) (n:=p.mine.length) (fun v=>InpOk (gi p.mine v)∧(gi p.mine v).player = p.id∧(gi p.mine v).turn = minL p.acked + 1 + v) (by omega) (fun v v0 v1 _=>?_) (fun v v0 v1=>by rw [if_neg (by omega)])).iff ⟨fun k=>⟨hn,k⟩,fun k=>k.2⟩
 rw [if_pos v1]
 refine Ok.gd ⟨v0,v1⟩ ?_
 obtain ⟨b,eb,hb⟩:=mayI_b (hs.mine.2 _ (gi_mem ⟨v0,v1⟩))
 rw [eb,bsome]
 refine Ok.gd (fun _=>by unfold I64; omega) (Ok.gd (fun _=>by unfold I64; omega) (Ok.gd (fun _=>by unfold I64; omega) (Ok.ite (fun h=>Ok.ret ⟨rfl,fun k=>?_⟩) (fun h=>Ok.gd (by unfold I64; omega) (Ok.ret ⟨rfl,?_⟩)))))
 ·have:=hb.2 k.1
  subst this
  rcases h with (h | h) | h
  ·cases h
  ·exact h k.2.1
  ·exact h (by rw [k.2.2]; omega)
 ·have hbt:b = true:=by cases b <;> simp_all
  refine ⟨hb.1 hbt,?_,?_⟩
  ·apply Classical.byContradiction; intro k; exact h (.inl (.inr k))
  ·apply Classical.byContradiction; intro k; exact h (.inr (by omega))
def InputsOk (p:Per):Prop:=∀ v:Int,0 ≤ v→v < p.inputs.length→p.turn ≤ (gi p.inputs v).turn∧(gi p.inputs v).player ≤ p.players∧(gi p.inputs v).turn ≤ gi p.has ((gi p.inputs v).player - 1)
theorem inputs_b {p:Per} (hs:PerS p) (ho:ListOk p.inputs) (hp:(p.has.length:Int) = p.players) (h1:1 ≤ p.players∧p.players ≤ 8):Bo (peer_inputs p) (InputsOk p):=by
 have hml:=hs.inputs.1
 unfold peer_inputs
 refine scanBo (a:=0) (n:=p.inputs.length) (fun v=>p.turn ≤ (gi p.inputs v).turn∧(gi p.inputs v).player ≤ p.players∧(gi p.inputs v).turn ≤ gi p.has ((gi p.inputs v).player - 1)) (by omega) (fun v v0 v1 _=>?_) (fun v v0 v1=>by rw [if_neg (by omega)])
 rw [if_pos v1]
 have hk:=(ho v v0 v1).1.1
 refine Ok.gd ⟨v0,v1⟩ (Ok.gd (fun _=>by unfold I64; omega) (Ok.gd (fun _=>by omega) (Ok.ite (fun h=>Ok.ret ⟨rfl,fun k=>by omega⟩) (fun h=>Ok.gd (by unfold I64; omega) (Ok.ret ⟨rfl,by omega⟩)))))
theorem may_b {p:Per} (hs:PerS p):Bo (peer_May p) (Val p):=by
 unfold peer_May
 refine Ok.ite (fun h=>Ok.ret ⟨fun e=>(by cases e),fun k=>?_⟩) (fun h=>?_)
 ·have h1:=k.pl; have h2:=k.id; have h3:=k.dl; have h4:=k.tn
  omega
 have h1:1 ≤ p.players∧p.players ≤ 8:=by omega
 have h2:1 ≤ p.id∧p.id ≤ p.players:=by omega
 have h3:1 ≤ p.delay∧p.delay ≤ 8:=by omega
 have h4:0 ≤ p.turn∧p.turn ≤ 1099511627776:=by omega
 refine Ok.gd (by unfold I64; omega) (Ok.gd (fun _=>by unfold I64; omega) (Ok.gd (fun _=>by unfold I64; omega) ?_))
 refine Ok.bind (Nb.or (fun _=>counts_b hs.has h1 h2 h3 h4)) fun b hb=>?_
 refine Ok.bind (Nb.orB hb (fun _=>counts_b hs.acked h1 h2 h3 h4)) fun b2 hb2=>?_
 refine Ok.ite (fun hbt=>Ok.ret ⟨fun e=>(by cases e),fun k=>?_⟩) (fun hbt=>?_)
 ·refine absurd ⟨⟨?_,?_⟩,?_⟩ (hb2.1 hbt)
  ·have:=k.sd; omega
  ·refine ⟨fun v v0 v1=>?_,k.hl,k.hme⟩
   have:=k.hv v v0 (by have:=k.hl; omega); omega
  ·refine ⟨fun v v0 v1=>?_,k.al,k.ame⟩
   have:=k.av v v0 (by have:=k.al; omega); have:=k.sd; omega
 obtain ⟨⟨hsd,hch⟩,hca⟩:=Nb.not hb2 hbt
 have hsd:p.delay - 1 ≤ p.said∧p.said ≤ p.turn + p.delay - 1∧p.said ≤ 1099511627776:=by omega
 have hl:=hch.2.1
 have al:=hca.2.1
 obtain ⟨e1,_,hmin⟩:=min_e (l:=p.has) (by omega) hs.has
 rw [e1,bsome]
 refine Ok.gd (by unfold I64; omega) ?_
 have hmx:Bo (Option.bind (slices_MaxI p.acked) fun x=>some (!decide (p.said < x))) (∀ v:Int,0 ≤ v→v < p.acked.length→gi p.acked v ≤ p.said):=by
  obtain ⟨m,em,⟨⟨v,hv,e⟩,hm⟩⟩:=max_p (l:=p.acked) (by omega) hs.acked
  rw [em]
  refine Ok.ret ?_
  rw [Bool.not_eq_true',decide_eq_false_iff_not]
  constructor
  ·intro h u u0 u1
   have:=hm u u0 u1; omega
  ·intro h; have:=h v hv.1 hv.2; omega
 have hmx2:Ok (if minL p.has < p.turn - 1 then some true else Option.bind (slices_MaxI p.acked) fun x=>some (decide (p.said < x))) fun b=>b = true ↔ ¬ (¬ (minL p.has < p.turn - 1)∧∀ v:Int,0 ≤ v→v < p.acked.length→gi p.acked v ≤ p.said):=by
  by_cases hc:minL p.has < p.turn - 1
  ·rw [if_pos hc]; exact Ok.ret ⟨fun _ k=>k.1 hc,fun _=>rfl⟩
  ·rw [if_neg hc]
   obtain ⟨m,em,hm⟩:=max_p (l:=p.acked) (by omega) hs.acked
   rw [em] at hmx ⊢
   obtain ⟨r,e,hr⟩:=hmx
   obtain rfl:=Option.some.inj e
   refine Ok.ret ?_
   rw [Bool.not_eq_true',decide_eq_false_iff_not] at hr
   rw [decide_eq_true_iff,← hr]
   constructor
   ·intro k q; exact q.2 k
   ·intro k; apply Classical.byContradiction; intro q; exact k ⟨hc,q⟩
 refine Ok.bind hmx2 fun b3 hb3=>?_
 refine Ok.ite (fun hbt=>Ok.ret ⟨fun e=>(by cases e),fun k=>?_⟩) (fun hbt=>?_)
 ·have:=k.hs
  rcases hbt with (hbt | hbt) | hbt
  ·refine absurd ⟨?_,fun v v0 v1=>(k.av v v0 (by omega)).2⟩ (hb3.1 hbt)
   obtain ⟨v,hv,e⟩:=hmin.1
   have:=k.hv v hv.1 (by omega)
   omega
  ·omega
  ·omega
 have hb3t:¬ b3 = true:=fun e=>hbt (.inl (.inl e))
 obtain ⟨hmn,hax⟩:=Nb.not hb3 hb3t
 have hhs:(p.hashes.length:Int) ≤ 16∧(p.hashes.length:Int) ≤ p.turn:=by omega
 obtain ⟨m1,em1,hm1⟩:=mine_b hs (by omega) (fun v v0 v1=>by have:=hca.1 v v0 v1; have:=hax v v0 v1; omega) (by omega)
 rw [em1,bsome]
 refine Ok.bind (bAnd (c:=m1 = true) (fun _=>rising_b hs.inputs)) fun b4 hb4=>?_
 refine Bo.iff (bId (bAnd (c:=b4 = true) (fun h=>inputs_b hs (hb4.1 h).2 hl h1))) ?_
 rw [hb4,hm1]
 constructor
 ·rintro ⟨⟨⟨hm2,hm3⟩,hli⟩,hin⟩
  exact ⟨h1,h2,h3,h4,hsd,hl,al,fun v v0 v1=>by
   have a:=hch.1 v v0 (by omega)
   have b:=hmin.2 v v0 (by omega)
   omega,fun v v0 v1=>⟨(hca.1 v v0 (by omega)).1,hax v v0 (by omega)⟩,hch.2.2,hca.2.2,hhs,hli,hin,hm2,hm3⟩
 ·intro k
  exact ⟨⟨⟨k.ml,k.mv⟩,k.inp⟩,k.iv⟩
end Go.Proofs.YtmngdgclldkcfaaGreat
set_option linter.unusedVariables false
set_option linter.unusedSimpArgs false
namespace Go.Proofs.YtmngdgclldkcfaaGreat
open Go.Vg
open Go
theorem own_p {p:Per} (hs:PerS p):peer_Own p = some p:=by
 unfold peer_Own slices_Clone_Int slices_Clone_U64
 have h1:=hs.has; have h2:=hs.acked; have h3:=hs.hashes
 rw [ownIs_p hs.mine,bsome,ownIs_p hs.inputs,bsome,if_pos (by omega),bsome,if_pos (by omega),bsome,if_pos (by omega),bsome]
end Go.Proofs.YtmngdgclldkcfaaGreat
set_option linter.unusedVariables false
set_option linter.unusedSimpArgs false
namespace Go.Proofs.YtmngdgclldkcfaaGreat
open Go.Vg
open Go
def nilPer:Per:=⟨0,0,0,0,0,[],[],[],[],[],false⟩
theorem gi_si {l:List Int} {j k x:Int} (hj:0 ≤ j∧j < l.length) (hk:0 ≤ k):gi (si l j x) k = if k = j then x else gi l k:=by
 by_cases h:k = j
 ·subst h; rw [if_pos rfl,gi_si_self hj]
 ·rw [if_neg h,gi_si_ne hj.1 hk (fun e=>h e.symm)]
theorem Val.noHas {p:Per} (h:Val p) {x:Inp} (hp:1 ≤ x.player∧x.player ≤ p.players) (ht:gi p.has (x.player - 1) < x.turn):¬ Has p.inputs x:=by
 rintro ⟨y,hy,e1,e2⟩
 obtain ⟨v,v0,v1,rfl⟩:=gi_mem2.1 hy
 have:=h.iv v v0 v1
 rw [e2] at this
 omega
theorem Val.pw {p:Per} (h:Val p):p.inputs.Pairwise InLt:=(ListOk.iff.1 h.inp).2
theorem ins_ok {l:List Inp} {x:Inp} (h:ListOk l) (hx:InpOk x) (hn:¬ Has l x):ListOk (insI l x):=by
 obtain ⟨h1,h2⟩:=ListOk.iff.1 h
 exact ListOk.iff.2 ⟨fun y hy=>by
  rcases List.mem_cons.1 ((insI_perm l x).mem_iff.1 hy) with rfl | hy
  ·exact hx
  ·exact h1 y hy,insI_pair h2 hn⟩
def IvOk (p:Per) (l:List Inp) (has:List Int):Prop:=∀ y ∈ l,p.turn ≤ y.turn∧y.player ≤ p.players∧y.turn ≤ gi has (y.player - 1)
theorem Val.ivm {p:Per} (h:Val p):IvOk p p.inputs p.has:=fun y hy=>by
 obtain ⟨v,v0,v1,rfl⟩:=gi_mem2.1 hy
 exact h.iv v v0 v1
theorem Val.plm {p:Per} (h:Val p) {y:Inp} (hy:y ∈ p.inputs):1 ≤ y.player:=by
 have:=(ListOk.iff.1 h.inp).1 y hy
 have:=this.1; omega
def inpOf (p:Per) (l:List Cmd):Inp:=⟨p.said + 1,p.id,l⟩
def sayP (p:Per) (l:List Cmd):Per:=⟨p.id,p.players,p.delay,p.turn,p.said + 1,if 1 < p.players then p.mine ++ [inpOf p l] else p.mine,insI p.inputs (inpOf p l),si p.has (p.id - 1) (p.said + 1),si p.acked (p.id - 1) (p.said + 1),p.hashes,p.split⟩
abbrev Shut (p:Per):Prop:=p.said = (p.turn + p.delay) - 1 ∨ p.said = 1099511627776
theorem say_p {p:Per} {l:List Cmd} (hs:PerS p) (hl:l.length ≤ 1000000) (hc:∀ c ∈ l,CmdS c) :
  (¬ Val p→peer_Say p l = some (nilPer,1))∧(Val p→Shut p→peer_Say p l = some (nilPer,10))∧(Val p→¬ Shut p→¬ SaidOk p.id l→peer_Say p l = some (nilPer,1)) ∧
  (Val p→¬ Shut p→SaidOk p.id l→peer_Say p l = some (sayP p l,0)):=by
 unfold peer_Say
 refine ⟨fun h=>?_,fun h hsh=>?_,fun h hsh hso=>?_,fun h hsh hso=>?_⟩
 ·rw [(may_b hs).f h,bsome,if_pos (by rfl)]; rfl
 all_goals
  have h3:=h.dl; have h4:=h.tn; have h5:=h.sd
  rw [(may_b hs).t h,bsome,if_neg (by simp),if_pos (by unfold I64; omega),if_pos (by unfold I64; omega)]
 ·rw [if_pos hsh]; rfl
 ·rw [if_neg hsh,(said_b hl hc).f hso,bsome,if_pos (by rfl)]; rfl
 ·have h1:=h.pl; have h2:=h.id; have h6:=h.hl; have h7:=h.al; have hm:=hs.mine.1
  have hn:¬ Has p.inputs (inpOf p l):=h.noHas (x:=inpOf p l) h2 (by show gi p.has (p.id - 1) < p.said + 1; rw [h.hme]; omega)
  have hi:=(in_p (x:=inpOf p l) hs.inputs ⟨hl,hc⟩ h.pw).2 hn
  unfold inpOf at hi
  rw [if_neg hsh,(said_b hl hc).t hso,bsome,if_neg (by simp),own_p hs,bsome,if_pos (by unfold I64; omega),hi,bsome]
  have hown:turns_Own ⟨p.said + 1,p.id,l⟩ = some ⟨p.said + 1,p.id,l⟩:=ownI_p ⟨hl,hc⟩
  have:(if 1 < p.players then Option.bind (turns_Own ⟨p.said + 1,p.id,l⟩) fun x34=>if p.mine.length + 1 < 1099511627776 then some (p.mine ++ ([x34]:List Inp)) else none else some p.mine) = some (if 1 < p.players then p.mine ++ [inpOf p l] else p.mine):=by
   by_cases hp:1 < p.players
   ·rw [if_pos hp,if_pos hp,hown,bsome,if_pos (by omega)]; rfl
   ·rw [if_neg hp,if_neg hp]
  rw [this,bsome,if_pos (by unfold I64; omega),if_pos (by unfold I64; omega),if_pos (by omega),if_pos (by omega)]
  rfl
theorem say_v {p:Per} {l:List Cmd} (hs:PerS p) (h:Val p) (hsh:¬ Shut p) (hso:SaidOk p.id l):Val (sayP p l):=by
 have h1:=h.pl; have h2:=h.id; have h3:=h.dl; have h4:=h.tn; have h5:=h.sd; have h6:=h.hl; have h7:=h.al
 have hns:p.said < p.turn + p.delay - 1∧p.said < 1099511627776:=by omega
 have hok:InpOk (inpOf p l):=⟨by show (((0 ≤ p.said + 1)∧(p.said + 1 ≤ 1099511627776))∧(1 ≤ p.id))∧p.id ≤ 8; omega,hso⟩
 have hn:¬ Has p.inputs (inpOf p l):=h.noHas (x:=inpOf p l) h2 (by show gi p.has (p.id - 1) < p.said + 1; rw [h.hme]; omega)
 have hk:0 ≤ p.id - 1∧p.id - 1 < p.has.length:=by omega
 have hka:0 ≤ p.id - 1∧p.id - 1 < p.acked.length:=by omega
 have hmn:=h.mn
 have hlen:(p.acked.length:Int) ≤ 1000000:=by omega
 have hlow:1 < p.players→minL (si p.acked (p.id - 1) (p.said + 1)) = minL p.acked:=fun hp=>by
  refine minL_of (by rw [len_si]; omega) ⟨?_,fun v v0 v1=>?_⟩
  ·rw [len_si]
   obtain ⟨⟨v,hv,e⟩,hle⟩:=hmn
   by_cases hvk:v = p.id - 1
   ·obtain ⟨u,hu,huk⟩:∃ u:Int,(0 ≤ u∧u < p.acked.length)∧u ≠ p.id - 1:=by
     by_cases hz:p.id - 1 = 0
     ·exact ⟨1,by omega,by omega⟩
     ·exact ⟨0,by omega,by omega⟩
    refine ⟨u,hu,?_⟩
    rw [gi_si hka hu.1,if_neg huk]
    have a:=hle u hu.1 hu.2
    have b:=(h.av u hu.1 (by omega)).2
    rw [hvk,h.ame] at e
    omega
   ·exact ⟨v,hv,by rw [gi_si hka hv.1,if_neg hvk,e]⟩
  ·rw [len_si] at v1
   rw [gi_si hka v0]
   have:=h.low
   split
   ·omega
   ·exact hmn.2 v v0 v1
 have hlow1:¬ 1 < p.players→minL (si p.acked (p.id - 1) (p.said + 1)) = p.said + 1∧p.mine = []:=fun hp=>by
  have e1:p.players = 1:=by omega
  have e2:p.id = 1:=by omega
  refine ⟨minL_of (by rw [len_si]; omega) ⟨⟨0,by rw [len_si]; omega,by rw [gi_si hka (by omega),if_pos (by omega)]⟩,fun v v0 v1=>?_⟩,?_⟩
  ·rw [len_si] at v1
   rw [gi_si hka v0,if_pos (by omega)]; omega
  ·obtain ⟨⟨v,hv,e⟩,_⟩:=hmn
   have:v = p.id - 1:=by omega
   rw [this,h.ame] at e
   have:=h.ml
   exact List.eq_nil_of_length_eq_zero (by omega)
 refine ⟨h1,h2,h3,h4,?_,?_,?_,?_,?_,?_,?_,h.hs,ins_ok h.inp hok hn,?_,?_,?_⟩
 ·show p.delay - 1 ≤ p.said + 1∧p.said + 1 ≤ p.turn + p.delay - 1∧p.said + 1 ≤ 1099511627776
  omega
 ·show ((si p.has _ _).length:Int) = _
  rw [len_si]; exact h6
 ·show ((si p.acked _ _).length:Int) = _
  rw [len_si]; exact h7
 ·intro v v0 v1
  show p.delay - 1 ≤ gi (si p.has _ _) v∧p.turn - 1 ≤ gi (si p.has _ _) v∧gi (si p.has _ _) v ≤ p.turn + 16∧gi (si p.has _ _) v ≤ 1099511627776
  rw [gi_si hk v0]
  have:=h.hv v v0 v1
  have:=h.hv (p.id - 1) (by omega) (by omega)
  rw [h.hme] at this
  split
  ·omega
  ·omega
 ·intro v v0 v1
  show p.delay - 1 ≤ gi (si p.acked _ _) v∧gi (si p.acked _ _) v ≤ p.said + 1
  rw [gi_si hka v0]
  have:=h.av v v0 v1
  split
  ·omega
  ·omega
 ·show gi (si p.has (p.id - 1) (p.said + 1)) (p.id - 1) = p.said + 1
  exact gi_si_self hk
 ·show gi (si p.acked (p.id - 1) (p.said + 1)) (p.id - 1) = p.said + 1
  exact gi_si_self hka
 ·have key:IvOk p (insI p.inputs (inpOf p l)) (si p.has (p.id - 1) (p.said + 1)):=fun y hy=>by
   rcases List.mem_cons.1 ((insI_perm _ _).mem_iff.1 hy) with rfl | hy
   ·have:=h.hv (p.id - 1) (by omega) (by omega)
    rw [h.hme] at this
    refine ⟨by show p.turn ≤ p.said + 1; omega,h2.2,?_⟩
    show p.said + 1 ≤ gi (si p.has (p.id - 1) (p.said + 1)) (p.id - 1)
    rw [gi_si_self hk]; omega
   ·have a:=h.ivm y hy
    have b:=h.plm hy
    rw [gi_si hk (by omega)]
    refine ⟨a.1,a.2.1,?_⟩
    split
    ·rename_i e
     rw [e,h.hme] at a; omega
    ·exact a.2.2
  exact fun v v0 v1=>key _ (gi_mem ⟨v0,v1⟩)
 ·show ((if 1 < p.players then p.mine ++ [inpOf p l] else p.mine).length:Int) = p.said + 1 - minL (si p.acked (p.id - 1) (p.said + 1))
  by_cases hp:1 < p.players
  ·rw [if_pos hp,hlow hp,List.length_append]
   have:=h.ml
   simp only [List.length_cons,List.length_nil]; omega
  ·rw [if_neg hp,(hlow1 hp).1,(hlow1 hp).2]
   simp
 ·show ∀ v:Int,0 ≤ v→v < ((if 1 < p.players then p.mine ++ [inpOf p l] else p.mine).length:Int)→InpOk (gi (if 1 < p.players then p.mine ++ [inpOf p l] else p.mine) v)∧(gi (if 1 < p.players then p.mine ++ [inpOf p l] else p.mine) v).player = p.id∧(gi (if 1 < p.players then p.mine ++ [inpOf p l] else p.mine) v).turn = minL (si p.acked (p.id - 1) (p.said + 1)) + 1 + v
  by_cases hp:1 < p.players
  ·rw [if_pos hp,hlow hp]
   intro v v0 v1
   have hml:=h.ml
   rw [List.length_append] at v1
   simp only [List.length_cons,List.length_nil] at v1
   by_cases hv:v < p.mine.length
   ·rw [gi_append_left ⟨v0,hv⟩]
    exact h.mv v v0 hv
   ·have:v = p.mine.length:=by omega
    subst this
    rw [gi_append_at]
    exact ⟨hok,rfl,by show p.said + 1 = _; omega⟩
  ·rw [if_neg hp,(hlow1 hp).2]
   intro v v0 v1
   simp at v1; omega
end Go.Proofs.YtmngdgclldkcfaaGreat
set_option linter.unusedVariables false
set_option linter.unusedSimpArgs false
namespace Go.Proofs.YtmngdgclldkcfaaGreat
open Go.Vg
open Go
def NoteOk (n:Nte):Prop:=((1 ≤ n.frm∧n.frm ≤ 8)∧(1 ≤ n.dst∧n.dst ≤ 8))∧¬ n.frm = n.dst∧(-1 ≤ n.don∧n.don ≤ 1099511627776)∧(-1 ≤ n.hav∧n.hav ≤ 1099511627776)∧¬ (n.don = -1∧¬ (n.hash.toNat:Int) = 0) ∧
  ((n.input.turn = -1→n.input.player = 0∧(n.input.commands.length:Int) = 0)∧(¬ n.input.turn = -1→InpOk n.input∧n.input.player = n.frm))
theorem mayNote_b {n:Nte} (hs:InpS n.input):Bo (peer_MayNote n) (NoteOk n):=by
 unfold peer_MayNote
 have ep:∀ x:Int,peer_player x = some (decide ((1 ≤ x)∧(x ≤ 8))):=fun _=>rfl
 have et:∀ x:Int,Bo (peer_turn x) ((-1 ≤ x)∧(x ≤ 1099511627776)):=fun _=>Bo.dec Iff.rfl
 rw [ep,bsome]
 refine Ok.bind (Nb.or (q:=(1 ≤ n.dst)∧(n.dst ≤ 8)) (fun _=>Bo.dec Iff.rfl)) fun b hb=>?_
 have hb:b = true ↔ ¬ ((1 ≤ n.frm∧n.frm ≤ 8)∧(1 ≤ n.dst∧n.dst ≤ 8)):=by rw [hb]; simp
 refine Ok.bind (Nb.or (fun _=>et _)) fun b2 hb2=>?_
 refine Ok.bind (Nb.orB hb2 (fun _=>et _)) fun b3 hb3=>?_
 have hb3:b3 = true ↔ ¬ (((1 ≤ n.frm∧n.frm ≤ 8)∧(1 ≤ n.dst∧n.dst ≤ 8))∧¬ n.frm = n.dst∧(-1 ≤ n.don∧n.don ≤ 1099511627776)∧(-1 ≤ n.hav∧n.hav ≤ 1099511627776)):=by
  rw [hb3,hb]
  constructor
  ·intro h k; exact h ⟨⟨fun e=>e.elim (fun e=>e k.1) k.2.1,k.2.2.1⟩,k.2.2.2⟩
  ·rintro h ⟨⟨k1,k2⟩,k3⟩; exact h ⟨Decidable.byContradiction fun e=>k1 (.inl e),fun e=>k1 (.inr e),k2,k3⟩
 refine Ok.ite (fun h=>Ok.ret ⟨fun e=>(by cases e),fun k=>?_⟩) (fun h=>?_)
 ·exfalso
  rcases h with h | h
  ·exact hb3.1 h ⟨k.1,k.2.1,k.2.2.1,k.2.2.2.1⟩
  ·exact k.2.2.2.2.1 h
 obtain ⟨k1,k2,k3,k4⟩:=Nb.not hb3 (fun e=>h (.inl e))
 have k5:¬ (n.don = -1∧¬ (n.hash.toNat:Int) = 0):=fun e=>h (.inr e)
 refine Ok.ite (fun ht=>Bo.dec ⟨fun q=>⟨k1,k2,k3,k4,k5,fun _=>q,fun e=>absurd ht e⟩,fun q=>q.2.2.2.2.2.1 ht⟩) (fun ht=>?_)
 obtain ⟨r,e,hr⟩:=mayI_b hs
 rw [e,bsome]
 refine Bo.dec ?_
 rw [hr]
 exact ⟨fun q=>⟨k1,k2,k3,k4,k5,fun e=>absurd e ht,fun _=>q⟩,fun q=>q.2.2.2.2.2.2 ht⟩
def inP (p:Per) (n:Nte):Per:=if n.input.turn = gi p.has (n.frm - 1) + 1 then ⟨p.id,p.players,p.delay,p.turn,p.said,p.mine,insI p.inputs n.input,si p.has (n.frm - 1) (gi p.has (n.frm - 1) + 1),p.acked,p.hashes,p.split⟩ else p
def ackP (p:Per) (f hav:Int):Per:=if hav ≤ gi p.acked (f - 1) ∨ p.said < hav then p else ⟨p.id,p.players,p.delay,p.turn,p.said,p.mine.filter (fun i=>!decide (i.turn ≤ minL (si p.acked (f - 1) hav))),p.inputs,p.has,si p.acked (f - 1) hav,p.hashes,p.split⟩
def splB (p:Per) (don:Int) (hash:UInt64):Bool:=decide ((don < p.turn∧0 ≤ (p.hashes.length:Int) - (p.turn - don))∧¬ ((gi p.hashes ((p.hashes.length:Int) - (p.turn - don))).toNat:Int) = (hash.toNat:Int))
def splP (p:Per) (b:Bool):Per:=⟨p.id,p.players,p.delay,p.turn,p.said,p.mine,p.inputs,p.has,p.acked,p.hashes,b⟩
def takeP (p:Per) (n:Nte):Per:=splP (ackP (inP p n) n.frm n.hav) (p.split || splB p n.don n.hash)
theorem Val.spl {p:Per} (h:Val p) (b:Bool):Val (splP p b):=⟨h.pl,h.id,h.dl,h.tn,h.sd,h.hl,h.al,h.hv,h.av,h.hme,h.ame,h.hs,h.inp,h.iv,h.ml,h.mv⟩
theorem in_v {p:Per} {n:Nte} (h:Val p) (hn:NoteOk n) (hd:n.dst = p.id) (hf:n.frm ≤ p.players) (hfull:¬ p.turn + 16 < n.input.turn):Val (inP p n):=by
 unfold inP
 split
 ·rename_i hin
  have h1:=h.pl; have h2:=h.id; have h3:=h.dl; have h4:=h.tn; have h5:=h.sd; have h6:=h.hl; have h7:=h.al
  have hfr:=hn.1; have hne:=hn.2.1
  have hk:0 ≤ n.frm - 1∧n.frm - 1 < p.has.length:=by omega
  have hold:=h.hv (n.frm - 1) (by omega) (by omega)
  obtain ⟨hok,hpl⟩:=hn.2.2.2.2.2.2 (by omega)
  have hok1:=hok.1
  have hnh:¬ Has p.inputs n.input:=h.noHas (by omega) (by rw [hpl]; omega)
  refine ⟨h1,h2,h3,h4,h5,?_,h7,?_,h.av,?_,h.ame,h.hs,ins_ok h.inp hok hnh,?_,h.ml,h.mv⟩
  ·show ((si p.has _ _).length:Int) = _
   rw [len_si]; exact h6
  ·intro v v0 v1
   show p.delay - 1 ≤ gi (si p.has _ _) v∧p.turn - 1 ≤ gi (si p.has _ _) v∧gi (si p.has _ _) v ≤ p.turn + 16∧gi (si p.has _ _) v ≤ 1099511627776
   rw [gi_si hk v0]
   have:=h.hv v v0 v1
   split <;> omega
  ·show gi (si p.has _ _) (p.id - 1) = p.said
   rw [gi_si hk (by omega),if_neg (by omega)]; exact h.hme
  ·have key:IvOk p (insI p.inputs n.input) (si p.has (n.frm - 1) (gi p.has (n.frm - 1) + 1)):=fun y hy=>by
    rcases List.mem_cons.1 ((insI_perm _ _).mem_iff.1 hy) with rfl | hy
    ·rw [hpl,gi_si_self hk]; omega
    ·have a:=h.ivm y hy
     have b:=h.plm hy
     rw [gi_si hk (by omega)]
     refine ⟨a.1,a.2.1,?_⟩
     split
     ·rename_i e
      rw [e] at a; omega
     ·exact a.2.2
   exact fun v v0 v1=>key _ (gi_mem ⟨v0,v1⟩)
 ·exact h
theorem gi_cons {x:Inp} {l:List Inp} {v:Int} (h:0 ≤ v):gi (x :: l) (v + 1) = gi l v:=by
 simp only [gi]
 rw [show (v + 1).toNat = v.toNat + 1 by omega]; rfl
theorem fil_drop:∀ (l:List Inp) (a b:Int),(∀ v:Int,0 ≤ v→v < l.length→(gi l v).turn = a + 1 + v)→a ≤ b→b ≤ a + l.length→l.filter (fun i=>!decide (i.turn ≤ b)) = l.drop (b - a).toNat
 | [],a,b,_,_,_=>by simp
 | x :: l,a,b,h,h1,h2=>by
  have hx:x.turn = a + 1 + 0:=h 0 (by omega) (by rw [List.length_cons]; omega)
  have hr:∀ v:Int,0 ≤ v→v < l.length→(gi l v).turn = (a + 1) + 1 + v:=fun v v0 v1=>by
   have:=h (v + 1) (by omega) (by rw [List.length_cons]; omega)
   rw [gi_cons v0] at this
   omega
  rw [List.length_cons] at h2
  by_cases hb:b = a
  ·subst hb
   rw [show (b - b).toNat = 0 by omega,List.drop_zero,List.filter_eq_self]
   intro y hy
   rw [Bool.not_eq_true',decide_eq_false_iff_not]
   rcases List.mem_cons.1 hy with rfl | hy
   ·omega
   ·obtain ⟨v,v0,v1,rfl⟩:=gi_mem2.1 hy
    have:=hr v v0 v1
    omega
  ·rw [List.filter_cons_of_neg (by rw [Bool.not_eq_true',decide_eq_false_iff_not]; omega),fil_drop l (a + 1) b hr (by omega) (by omega),show (b - a).toNat = (b - (a + 1)).toNat + 1 by omega]
   rfl
theorem gi_drop {l:List Inp} {k:Nat} {v:Int} (h:0 ≤ v):gi (l.drop k) v = gi l (v + k):=by
 simp only [gi,List.getD,List.getElem?_drop]
 rw [show k + v.toNat = (v + (k:Int)).toNat by omega]
theorem ack_low {p:Per} {f hav:Int} (h:Val p) (hf:1 ≤ f∧f ≤ p.players) (hne:¬ f = p.id) (hc:¬ (hav ≤ gi p.acked (f - 1) ∨ p.said < hav)) :
  IsMin (si p.acked (f - 1) hav) (minL (si p.acked (f - 1) hav))∧minL p.acked ≤ minL (si p.acked (f - 1) hav)∧minL (si p.acked (f - 1) hav) ≤ p.said∧p.mine.filter (fun i=>!decide (i.turn ≤ minL (si p.acked (f - 1) hav))) = p.mine.drop (minL (si p.acked (f - 1) hav) - minL p.acked).toNat:=by
 have h1:=h.pl; have h2:=h.id; have h7:=h.al
 have hk:0 ≤ f - 1∧f - 1 < p.acked.length:=by omega
 have hm:=(min_e (l:=si p.acked (f - 1) hav) (by rw [len_si]; omega) (by rw [len_si]; omega)).2.2
 have a1:minL p.acked ≤ minL (si p.acked (f - 1) hav):=by
  obtain ⟨⟨v,hv,e⟩,_⟩:=hm
  rw [len_si] at hv
  rw [gi_si hk hv.1] at e
  have:=h.mn.2 v hv.1 hv.2
  have:=h.mn.2 (f - 1) hk.1 hk.2
  split at e <;> omega
 have a2:minL (si p.acked (f - 1) hav) ≤ p.said:=by
  have:=hm.2 (p.id - 1) (by omega) (by rw [len_si]; omega)
  rw [gi_si hk (by omega),if_neg (by omega),h.ame] at this
  exact this
 refine ⟨hm,a1,a2,fil_drop p.mine (minL p.acked) _ (fun v v0 v1=>(h.mv v v0 v1).2.2) a1 ?_⟩
 have:=h.ml; omega
theorem ack_v {p:Per} {f hav:Int} (h:Val p) (hf:1 ≤ f∧f ≤ p.players) (hne:¬ f = p.id):Val (ackP p f hav):=by
 unfold ackP
 split
 ·exact h
 ·rename_i hc
  obtain ⟨hm,a1,a2,a3⟩:=ack_low h hf hne hc
  have h1:=h.pl; have h2:=h.id; have h7:=h.al
  have hk:0 ≤ f - 1∧f - 1 < p.acked.length:=by omega
  rw [a3]
  have hml:=h.ml
  refine ⟨h1,h2,h.dl,h.tn,h.sd,h.hl,?_,h.hv,?_,h.hme,?_,h.hs,h.inp,h.iv,?_,?_⟩
  ·show ((si p.acked _ _).length:Int) = _
   rw [len_si]; exact h7
  ·intro v v0 v1
   show p.delay - 1 ≤ gi (si p.acked _ _) v∧gi (si p.acked _ _) v ≤ p.said
   rw [gi_si hk v0]
   have:=h.av v v0 v1
   have:=h.av (f - 1) (by omega) (by omega)
   split <;> omega
  ·show gi (si p.acked _ _) (p.id - 1) = p.said
   rw [gi_si hk (by omega),if_neg (by omega)]; exact h.ame
  ·show ((p.mine.drop _).length:Int) = p.said - minL (si p.acked (f - 1) hav)
   rw [List.length_drop]; omega
  ·intro v v0 v1
   have v1:v < ((p.mine.drop (minL (si p.acked (f - 1) hav) - minL p.acked).toNat).length:Int):=v1
   rw [List.length_drop] at v1
   show InpOk (gi (p.mine.drop _) v)∧(gi (p.mine.drop _) v).player = p.id∧(gi (p.mine.drop _) v).turn = minL (si p.acked (f - 1) hav) + 1 + v
   rw [gi_drop v0]
   have:=h.mv (v + ((minL (si p.acked (f - 1) hav) - minL p.acked).toNat:Nat)) (by omega) (by omega)
   exact ⟨this.1,this.2.1,by rw [this.2.2]; omega⟩
theorem acked_p {p:Per} {f hav:Int} (hf:1 ≤ f∧f ≤ p.acked.length) (hl:p.acked.length ≤ 1000000) (hm:p.mine.length ≤ 1000000):peer_acked p f hav = some (ackP p f hav):=by
 unfold peer_acked ackP
 rw [if_pos (by unfold I64; omega),if_pos (by omega)]
 by_cases hc:hav ≤ gi p.acked (f - 1) ∨ p.said < hav
 ·rw [if_pos hc,if_pos hc]
 ·rw [if_neg hc,if_neg hc,if_pos (by unfold I64; omega),if_pos (by omega),(min_e (l:=si p.acked (f - 1) hav) (by rw [len_si]; omega) (by rw [len_si]; omega)).1,bsome]
  unfold slices_DeleteFuncI
  rw [if_pos ⟨fun x hx=>⟨rfl,rfl⟩,by omega⟩,bsome]
  have:(fun x:Inp=>(peer_acked_1 x (minL (si p.acked (f - 1) hav)) == some false)) = (fun i:Inp=>!decide (i.turn ≤ minL (si p.acked (f - 1) hav))):=by
   funext x
   unfold peer_acked_1
   cases decide (x.turn ≤ minL (si p.acked (f - 1) hav)) <;> rfl
  rw [this]
theorem split_p {p:Per} {don:Int} {hash:UInt64} (ht:0 ≤ p.turn∧p.turn ≤ 1099511627776) (hd:-1 ≤ don∧don ≤ 1099511627776) (hh:p.hashes.length ≤ 1000000):peer_split p don hash = some (splB p don hash):=by
 unfold peer_split splB
 rw [if_pos (by unfold I64; omega),if_pos (by unfold I64; omega),if_pos (fun h=>⟨h.2,by omega⟩)]
theorem inP_eqs {p:Per} {n:Nte}:(inP p n).id = p.id∧(inP p n).players = p.players∧(inP p n).acked = p.acked∧(inP p n).mine = p.mine∧(inP p n).turn = p.turn∧(inP p n).hashes = p.hashes∧(inP p n).split = p.split∧(inP p n).said = p.said∧(inP p n).delay = p.delay:=by
 unfold inP
 split <;> exact ⟨rfl,rfl,rfl,rfl,rfl,rfl,rfl,rfl,rfl⟩
theorem ackP_eqs {p:Per} {f hav:Int}:(ackP p f hav).id = p.id∧(ackP p f hav).players = p.players∧(ackP p f hav).inputs = p.inputs∧(ackP p f hav).has = p.has∧(ackP p f hav).turn = p.turn∧(ackP p f hav).hashes = p.hashes∧(ackP p f hav).split = p.split∧(ackP p f hav).said = p.said∧(ackP p f hav).delay = p.delay:=by
 unfold ackP
 split <;> exact ⟨rfl,rfl,rfl,rfl,rfl,rfl,rfl,rfl,rfl⟩
abbrev TakeBad (p:Per) (n:Nte):Prop:=¬ NoteOk n ∨ ¬ n.dst = p.id ∨ p.players < n.frm
theorem take_p {p:Per} {n:Nte} (hs:PerS p) (hn:InpS n.input) :
  (¬ Val p→peer_Take p n = some (nilPer,1))∧(Val p→TakeBad p n→peer_Take p n = some (nilPer,1))∧(Val p→¬ TakeBad p n→p.turn + 16 < n.input.turn→peer_Take p n = some (nilPer,4)) ∧
  (Val p→¬ TakeBad p n→¬ p.turn + 16 < n.input.turn→peer_Take p n = some (takeP p n,0)):=by
 obtain ⟨r,er,hr⟩:=mayNote_b hn
 refine ⟨fun h=>?_,fun h hb=>?_,fun h hb hf=>?_,fun h hb hf=>?_⟩
 ·unfold peer_Take
  rw [(may_b hs).f h,bsome,if_pos (by rfl),bsome,if_pos (.inl (.inl rfl))]; rfl
 ·unfold peer_Take
  rw [(may_b hs).t h,bsome,if_neg (by simp),er,bsome,bsome,if_pos ?_]
  ·rfl
  ·rcases hb with hb | hb | hb
   ·refine .inl (.inl ?_)
    cases r with
    | true=>exact absurd (hr.1 rfl) hb
    | false=>rfl
   ·exact .inl (.inr hb)
   ·exact .inr hb
 all_goals
  have hok:NoteOk n:=Classical.byContradiction fun e=>hb (.inl e)
  have hd:n.dst = p.id:=Decidable.byContradiction fun e=>hb (.inr (.inl e))
  have hfr:n.frm ≤ p.players:=by
   have:¬ p.players < n.frm:=fun e=>hb (.inr (.inr e))
   omega
  have hrt:=hr.2 hok
  subst hrt
  have h1:=h.pl; have h2:=h.id; have h3:=h.dl; have h4:=h.tn; have h5:=h.sd; have h6:=h.hl; have h7:=h.al
  have hn1:=hok.1
 ·unfold peer_Take
  rw [(may_b hs).t h,bsome,if_neg (by simp),er,bsome,bsome,if_neg (by rintro ((e | e) | e); cases e; exact e hd; omega),if_pos (by unfold I64; omega),if_pos hf]; rfl
 ·have hold:=h.hv (n.frm - 1) (by omega) (by omega)
  have hs3:=hs.hashes; have hs2:=hs.acked; have hs1:=hs.mine.1
  obtain ⟨q1,q2,q3,q4,q5,q6,q7,q8,q9⟩:=inP_eqs (p:=p) (n:=n)
  obtain ⟨k1,k2,k3,k4,k5,k6,k7,k8,k9⟩:=ackP_eqs (p:=inP p n) (f:=n.frm) (hav:=n.hav)
  unfold peer_Take
  rw [(may_b hs).t h,bsome,if_neg (by simp),er,bsome,bsome,if_neg (by rintro ((e | e) | e); cases e; exact e hd; omega),if_pos (by unfold I64; omega),if_neg hf,own_p hs,bsome,if_pos (by unfold I64; omega),if_pos (by omega),if_pos (by unfold I64; omega)]
  refine Ok.eq (Ok.bindE (x:=((inP p n).has,(inP p n).inputs)) ?_ ?_)
  ·by_cases hin:n.input.turn = gi p.has (n.frm - 1) + 1
   ·obtain ⟨hiok,hipl⟩:=hok.2.2.2.2.2.2 (by omega)
    have hnh:¬ Has p.inputs n.input:=h.noHas (by omega) (by rw [hipl]; omega)
    rw [if_pos hin,(in_p hs.inputs hn h.pw).2 hnh,bsome,if_pos (by unfold I64; omega),if_pos (by omega),if_pos (by unfold I64; omega),if_pos (by omega)]
    unfold inP
    rw [if_pos hin]
   ·rw [if_neg hin]
    unfold inP
    rw [if_neg hin]
  ·have e1:(⟨p.id,p.players,p.delay,p.turn,p.said,p.mine,(inP p n).inputs,(inP p n).has,p.acked,p.hashes,p.split⟩:Per) = inP p n:=by
    unfold inP
    split <;> rfl
   show Ok (Option.bind (peer_acked (⟨p.id,p.players,p.delay,p.turn,p.said,p.mine,(inP p n).inputs,(inP p n).has,p.acked,p.hashes,p.split⟩:Per) n.frm n.hav) _) _
   rw [e1,acked_p (by rw [q3]; omega) (by rw [q3]; exact hs2) (by rw [q4]; exact hs1),bsome]
   have e2:splB (ackP (inP p n) n.frm n.hav) n.don n.hash = splB p n.don n.hash:=by
    unfold splB
    rw [k5,k6,q5,q6]
   rw [split_p (by rw [k5,q5]; exact h4) (by have:=hok.2.2.1; exact this) (by rw [k6,q6]; exact hs3),e2,k7,q7]
   refine Ok.bindE (x:=p.split || splB p n.don n.hash) ?_ (Ok.ret rfl)
   cases p.split <;> rfl
theorem take_v {p:Per} {n:Nte} (h:Val p) (hb:¬ TakeBad p n) (hf:¬ p.turn + 16 < n.input.turn):Val (takeP p n):=by
 have hok:NoteOk n:=Classical.byContradiction fun e=>hb (.inl e)
 have hd:n.dst = p.id:=Decidable.byContradiction fun e=>hb (.inr (.inl e))
 have hfr:n.frm ≤ p.players:=by
  have:¬ p.players < n.frm:=fun e=>hb (.inr (.inr e))
  omega
 obtain ⟨q1,q2,_⟩:=inP_eqs (p:=p) (n:=n)
 exact (ack_v (in_v h hok hd hfr hf) (by rw [q2]; exact ⟨hok.1.1.1,hfr⟩) (by rw [q1,← hd]; exact hok.2.1)).spl _
abbrev CanGo (p:Per):Prop:=(∀ v:Int,0 ≤ v→v < p.has.length→p.turn ≤ gi p.has v)∧p.turn < 1099511627776
theorem can_p {p:Per} (h:Val p) (hs:PerS p):Bo (peer_can p) (CanGo p):=by
 have h1:=h.pl; have h6:=h.hl
 obtain ⟨e,_,hm⟩:=min_e (l:=p.has) (by omega) hs.has
 unfold peer_can
 rw [e,bsome]
 refine Bo.dec ⟨fun k=>⟨fun v v0 v1=>by have:=hm.2 v v0 v1; omega,k.2⟩,fun k=>⟨?_,k.2⟩⟩
 obtain ⟨⟨v,hv,e⟩,_⟩:=hm
 have:=k.1 v hv.1 hv.2
 omega
def theseI (p:Per):List Inp:=p.inputs.filter (fun i=>decide (i.turn = p.turn))
def othersI (p:Per):List Inp:=p.inputs.filter (fun i=>!decide (i.turn = p.turn))
theorem InpsS.filter {l:List Inp} (h:InpsS l) (f:Inp→Bool):InpsS (l.filter f):=⟨Nat.le_trans (List.length_filter_le _ _) h.1,fun y hy=>h.2 y (List.mem_filter.1 hy).1⟩
theorem ready_p {p:Per} (hs:PerS p) :
  (¬ Val p→peer_Ready p = some ([],false,1))∧(Val p→¬ CanGo p→peer_Ready p = some ([],false,0))∧(Val p→CanGo p→peer_Ready p = some ((theseI p).flatMap (·.commands),true,0)):=by
 unfold peer_Ready
 refine ⟨fun h=>?_,fun h hc=>?_,fun h hc=>?_⟩
 ·rw [(may_b hs).f h,bsome,if_pos (by rfl)]
 ·rw [(may_b hs).t h,bsome,if_neg (by simp),(can_p h hs).f hc,bsome,if_pos (by rfl)]
 ·rw [(may_b hs).t h,bsome,if_neg (by simp),(can_p h hs).t hc,bsome,if_neg (by simp),part_p hs.inputs,bsome,all_p (hs.inputs.filter _),bsome]; rfl
def hashP (l:List UInt64) (x:UInt64):List UInt64:=if 16 < ((l ++ [x]).length:Int) then (l ++ [x]).drop 1 else l ++ [x]
def ranP (p:Per) (x:UInt64):Per:=⟨p.id,p.players,p.delay,p.turn + 1,p.said,p.mine,othersI p,p.has,p.acked,hashP p.hashes x,p.split⟩
theorem ran_p {p:Per} {x:UInt64} (hs:PerS p) :
  (¬ Val p→peer_Ran p x = some (nilPer,1))∧(Val p→¬ CanGo p→peer_Ran p x = some (nilPer,10))∧(Val p→CanGo p→peer_Ran p x = some (ranP p x,0)):=by
 have hs3:=hs.hashes
 unfold peer_Ran
 refine ⟨fun h=>?_,fun h hc=>?_,fun h hc=>?_⟩
 ·rw [(may_b hs).f h,bsome,if_pos (by rfl)]; rfl
 ·rw [(may_b hs).t h,bsome,if_neg (by simp),(can_p h hs).f hc,bsome,if_pos (by rfl)]; rfl
 ·have h4:=h.tn
  rw [(may_b hs).t h,bsome,if_neg (by simp),(can_p h hs).t hc,bsome,if_neg (by simp),own_p hs,bsome,part_p hs.inputs,bsome,if_pos (by unfold I64; omega),if_pos (by omega)]
  unfold ranP hashP
  by_cases hl:16 < ((p.hashes ++ [x]).length:Int)
  ·rw [if_pos hl,if_pos hl,if_pos (by omega)]; rfl
  ·rw [if_neg hl,if_neg hl]; rfl
theorem ran_v {p:Per} {x:UInt64} (h:Val p) (hc:CanGo p):Val (ranP p x):=by
 have h1:=h.pl; have h2:=h.id; have h3:=h.dl; have h4:=h.tn; have h5:=h.sd; have h6:=h.hl; have h7:=h.al; have h8:=h.hs
 have hpw:=ListOk.iff.1 h.inp
 refine ⟨h1,h2,h3,?_,?_,h6,h7,?_,h.av,h.hme,h.ame,?_,?_,?_,h.ml,h.mv⟩
 ·show 0 ≤ p.turn + 1∧p.turn + 1 ≤ 1099511627776
  have:=hc.2; omega
 ·show p.delay - 1 ≤ p.said∧p.said ≤ p.turn + 1 + p.delay - 1∧p.said ≤ 1099511627776
  omega
 ·intro v v0 v1
  have v1:v < p.players:=v1
  show p.delay - 1 ≤ gi p.has v∧p.turn + 1 - 1 ≤ gi p.has v∧gi p.has v ≤ p.turn + 1 + 16∧gi p.has v ≤ 1099511627776
  have:=h.hv v v0 v1
  have:=hc.1 v v0 (by omega)
  omega
 ·show ((hashP p.hashes x).length:Int) ≤ 16∧((hashP p.hashes x).length:Int) ≤ p.turn + 1
  unfold hashP
  split
  ·rw [List.length_drop,List.length_append]; simp only [List.length_cons,List.length_nil]; omega
  ·rename_i e
   rw [List.length_append] at e ⊢; simp only [List.length_cons,List.length_nil] at e ⊢; omega
 ·exact ListOk.iff.2 ⟨fun y hy=>hpw.1 y (List.mem_filter.1 hy).1,hpw.2.sublist List.filter_sublist⟩
 ·have key:∀ y ∈ othersI p,p.turn + 1 ≤ y.turn∧y.player ≤ p.players∧y.turn ≤ gi p.has (y.player - 1):=fun y hy=>by
   obtain ⟨hy,hne⟩:=List.mem_filter.1 hy
   rw [Bool.not_eq_true',decide_eq_false_iff_not] at hne
   have:=h.ivm y hy
   exact ⟨by omega,this.2⟩
  exact fun v v0 v1=>key _ (gi_mem ⟨v0,v1⟩)
end Go.Proofs.YtmngdgclldkcfaaGreat
set_option linter.unusedVariables false
set_option linter.unusedSimpArgs false
namespace Go.Proofs.YtmngdgclldkcfaaGreat
open Go.Vg
open Go
structure PerB (n:Int) (p:Per):Prop where
  mine:(p.mine.length:Int) ≤ 2000 + n∧∀ i ∈ p.mine,InpS i
  inputs:(p.inputs.length:Int) ≤ 2000 + n∧∀ i ∈ p.inputs,InpS i
  has:p.has.length ≤ 2000
  acked:p.acked.length ≤ 2000
  hashes:p.hashes.length ≤ 2000
theorem PerB.S {n:Int} {p:Per} (h:PerB n p) (hn:n ≤ 1000):PerS p:=⟨⟨by have:=h.mine.1; omega,h.mine.2⟩,⟨by have:=h.inputs.1; omega,h.inputs.2⟩,by have:=h.has; omega,by have:=h.acked; omega,by have:=h.hashes; omega⟩
end Go.Proofs.YtmngdgclldkcfaaGreat
