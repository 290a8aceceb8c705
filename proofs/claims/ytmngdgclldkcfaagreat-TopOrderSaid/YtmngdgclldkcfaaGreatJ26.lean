/-
  Texts of one's own, joined: PTN PTG PTA.
-/
import Derived.Test.YtmngdgclldkcfaaGreatJ25
set_option linter.unusedVariables false
set_option linter.unusedSimpArgs false
namespace Go.Proofs.YtmngdgclldkcfaaGreat
open Go.Vg
open Go
def inpFor (p:Per) (k:Int):Inp:=if gi p.acked (k - 1) - minL p.acked < p.mine.length then gi p.mine (gi p.acked (k - 1) - minL p.acked) else ⟨-1,0,[]⟩
def donP (p:Per):Int:=if 0 < (p.hashes.length:Int) then p.turn - 1 else -1
def lastP (p:Per):UInt64:=if 0 < (p.hashes.length:Int) then gi p.hashes ((p.hashes.length:Int) - 1) else 0
def noteFor (p:Per) (k:Int):Nte:=⟨p.id,k,inpFor p k,donP p,lastP p,gi p.has (k - 1)⟩
def notesTo (p:Per):Nat→List Nte
  | 0=>[]
  | n + 1=>notesTo p n ++ if ((n:Int) + 1) = p.id then [] else [noteFor p (n + 1)]
theorem notesTo_len (p:Per):∀ n,(notesTo p n).length ≤ n
 | 0=>Nat.le_refl _
 | n + 1=>by
  have:=notesTo_len p n
  unfold notesTo
  rw [List.length_append]
  split <;> simp <;> omega
theorem inpFor_S {p:Per} (hs:PerS p) (h:Val p) {k:Int} (hk:1 ≤ k∧k ≤ p.players):InpS (inpFor p k):=by
 unfold inpFor
 have hmn:=h.mn.2 (k - 1) (by omega) (by have:=h.al; omega)
 split
 ·exact hs.mine.2 _ (gi_mem ⟨by omega,by assumption⟩)
 ·exact ⟨by simp,fun c hc=>by cases hc⟩
theorem hash_eq {p:Per} (h:Val p):(if 0 < (p.hashes.length:Int) then if I64 (p.turn - 1) then if I64 ((p.hashes.length:Int) - 1) then if 0 ≤ ((p.hashes.length:Int) - 1)∧((p.hashes.length:Int) - 1) < (p.hashes.length:Int) then some ((p.turn - 1),(gi p.hashes ((p.hashes.length:Int) - 1))) else none else none else none else some ((-1),(0:UInt64))) = some (donP p,lastP p):=by
 have h4:=h.tn; have h8:=h.hs
 unfold donP lastP
 by_cases hc:0 < (p.hashes.length:Int)
 ·rw [if_pos hc,if_pos hc,if_pos hc,if_pos (by unfold I64; omega),if_pos (by unfold I64; omega),if_pos (by omega)]
 ·rw [if_neg hc,if_neg hc,if_neg hc]
theorem mine_at {p:Per} (h:Val p) {k v:Int} (hk:1 ≤ k∧k ≤ p.players) (hv:0 ≤ v∧v < p.mine.length):(gi p.mine v).turn = gi p.acked (k - 1) + 1 ↔ v = gi p.acked (k - 1) - minL p.acked:=by
 have:=(h.mv v hv.1 hv.2).2.2
 omega
theorem next_note {p:Per} {k:Int} (hk:1 ≤ k):notesTo p k.toNat = notesTo p (k - 1).toNat ++ if k = p.id then [] else [noteFor p k]:=by
 obtain ⟨n,rfl⟩:∃ n:Nat,k = n + 1:=⟨(k - 1).toNat,by omega⟩
 rw [show ((n:Int) + 1).toNat = n + 1 by omega,show ((n:Int) + 1 - 1).toNat = n by omega]; rfl
theorem index_p {l:List Inp} {f:Inp→Option Bool} {i:Int} (hl:l.length ≤ 1000000) (hi:0 ≤ i) (hf:∀ v:Int,0 ≤ v→v < l.length→f (gi l v) = some (decide (v = i))):slices_IndexFuncI l f = some (if i < l.length then i else -1):=by
 unfold slices_IndexFuncI
 refine Ok.eq (Ok.bind (R:=fun x=>match x with | .up v=>v = i∧i < l.length | .go _=>¬ i < l.length) (Ok.loop (fun v:Int=>(0 ≤ v∧v ≤ l.length)∧v ≤ i) (fun v=>(l.length - v).toNat) ⟨⟨by omega,by omega⟩,hi⟩ (by unfold FUEL; omega) ?_) ?_)
 ·rintro v ⟨⟨v0,v1⟩,v2⟩
  refine Ok.ite (fun hlt=>Ok.gd ⟨v0,hlt⟩ ?_) (fun hge=>Ok.ret (by show ¬ i < _; omega))
  rw [hf v v0 hlt,bsome]
  refine Ok.ite (fun hc=>Ok.ret ?_) (fun hc=>Ok.gd (by unfold I64; omega) (Ok.ret ⟨⟨⟨by omega,by omega⟩,?_⟩,by omega⟩))
  ·have:=of_decide_eq_true hc
   exact ⟨this,by omega⟩
  ·have:¬ v = i:=fun e=>hc (decide_eq_true e)
   omega
 ·rintro (⟨⟩ | v) hv
  ·dsimp only [Ex.then]; exact Ok.ret (by rw [if_neg hv])
  ·dsimp only [Ex.then]; exact Ok.ret (by rw [if_pos hv.2,hv.1])
theorem notesP_p {p:Per} (hs:PerS p):(¬ Val p→peer_Notes p = some ([],1))∧(Val p→peer_Notes p = some (notesTo p p.players.toNat,0)):=by
 unfold peer_Notes
 refine ⟨fun h=>?_,fun h=>?_⟩
 ·rw [(may_b hs).f h,bsome,if_pos (by rfl)]
 have h1:=h.pl; have h4:=h.tn; have h6:=h.hl; have h7:=h.al; have hm:=hs.mine.1
 rw [(may_b hs).t h,bsome,if_neg (by simp)]
 refine Ok.eq (Ok.bind (R:=fun z:Int × List Nte=>z.2 = notesTo p p.players.toNat) (Ok.loop (fun z:List Nte × Int=>(1 ≤ z.2∧z.2 ≤ p.players + 1)∧z.1 = notesTo p (z.2 - 1).toNat) (fun z=>(p.players + 1 - z.2).toNat) ⟨⟨by show (1:Int) ≤ 1; omega,by show 1 ≤ p.players + 1; omega⟩,rfl⟩ (by unfold FUEL; dsimp only; omega) ?_) (fun z hz=>?_))
 ·rintro ⟨l,k⟩ ⟨⟨k0,k1⟩,hl⟩
  dsimp only at k0 k1 hl ⊢
  refine Ok.ite (fun hk=>?_) (fun hk=>Ok.ret ?_)
  ·have hnx:=next_note (p:=p) k0
   refine Ok.ite (fun he=>Ok.gd (by unfold I64; omega) (Ok.ret ⟨⟨⟨by show 1 ≤ k + 1; omega,by show k + 1 ≤ _; omega⟩,?_⟩,by show (p.players + 1 - (k + 1)).toNat < (p.players + 1 - k).toNat; omega⟩)) (fun he=>?_)
   ·show l = notesTo p (k + 1 - 1).toNat
    rw [show k + 1 - 1 = k by omega,hnx,if_pos he,List.append_nil]; exact hl
   ·have ha:=h.av (k - 1) (by omega) (by omega)
    have hdl:=h.dl; have hsd:=h.sd
    have hmn:=h.mn.2 (k - 1) (by omega) (by omega)
    refine Ok.gd (by unfold I64; omega) (Ok.gd (by omega) ?_)
    rw [hash_eq h,bsome]
    dsimp only
    have hidx:slices_IndexFuncI p.mine (fun y0=>peer_Notes_1 y0 p k) = some (if gi p.acked (k - 1) - minL p.acked < p.mine.length then gi p.acked (k - 1) - minL p.acked else -1):=by
     refine index_p hm (by omega) fun v v0 v1=>?_
     show peer_Notes_1 (gi p.mine v) p k = _
     unfold peer_Notes_1
     rw [if_pos (by unfold I64; omega),if_pos (by omega),if_pos (by unfold I64; omega)]
     congr 1
     exact decide_eq_decide.2 (mine_at h ⟨k0,hk⟩ ⟨v0,v1⟩)
    rw [hidx,bsome]
    refine Ok.bindE (x:=((inpFor p k).turn,(inpFor p k).player,(inpFor p k).commands)) ?_ ?_
    ·unfold inpFor
     by_cases hb:gi p.acked (k - 1) - minL p.acked < p.mine.length
     ·rw [if_pos hb,if_pos hb,if_pos (by omega),if_pos (by omega),ownI_p (hs.mine.2 _ (gi_mem ⟨by omega,hb⟩)),bsome]
     ·rw [if_neg hb,if_neg hb,if_neg (by omega)]
    ·dsimp only
     have:=notesTo_len p (k - 1).toNat
     refine Ok.gd (by rw [hl]; omega) (Ok.gd (by unfold I64; omega) (Ok.ret ⟨⟨⟨by show 1 ≤ k + 1; omega,by show k + 1 ≤ _; omega⟩,?_⟩,by show (p.players + 1 - (k + 1)).toNat < (p.players + 1 - k).toNat; omega⟩))
     show l ++ _ = notesTo p (k + 1 - 1).toNat
     rw [show k + 1 - 1 = k by omega,hnx,if_neg he,hl]; rfl
  ·show l = _
   rw [hl,show k - 1 = p.players by omega]
 ·obtain ⟨a,b⟩:=z
  have hz:b = notesTo p p.players.toNat:=hz
  exact Ok.ret (by rw [hz])
end Go.Proofs.YtmngdgclldkcfaaGreat
set_option linter.unusedVariables false
set_option linter.unusedSimpArgs false
namespace Go.Proofs.YtmngdgclldkcfaaGreat
open Go.Vg
open Go
theorem in_irr {a b:Inp} (h:InLt a b) (k:InLt b a):False:=by unfold InLt at h k; omega
theorem same_rise:∀ (a b:List Inp),a.Pairwise InLt→b.Pairwise InLt→(∀ x,x ∈ a ↔ x ∈ b)→a = b
 | [],[],_,_,_=>rfl
 | [],y :: b,_,_,h=>by cases (h y).2 List.mem_cons_self
 | x :: a,[],_,_,h=>by cases (h x).1 List.mem_cons_self
 | x :: a,y :: b,ha,hb,h=>by
  have hxa:=List.pairwise_cons.1 ha
  have hyb:=List.pairwise_cons.1 hb
  have e:x = y:=by
   rcases List.mem_cons.1 ((h x).1 List.mem_cons_self) with e | e
   ·exact e
   ·rcases List.mem_cons.1 ((h y).2 List.mem_cons_self) with e2 | e2
    ·exact e2.symm
    ·exact (in_irr (hyb.1 _ e) (hxa.1 _ e2)).elim
  subst e
  rw [same_rise a b hxa.2 hyb.2 fun z=>⟨fun hz=>?_,fun hz=>?_⟩]
  ·rcases List.mem_cons.1 ((h z).1 (List.mem_cons_of_mem _ hz)) with e | e
   ·subst e; exact (in_irr (hxa.1 _ hz) (hxa.1 _ hz)).elim
   ·exact e
  ·rcases List.mem_cons.1 ((h z).2 (List.mem_cons_of_mem _ hz)) with e | e
   ·subst e; exact (in_irr (hyb.1 _ hz) (hyb.1 _ hz)).elim
   ·exact e
structure Hist (n d:Int) (H:List Inp) (S:Int→Int):Prop where
 fn:∀ x ∈ H,∀ y ∈ H,x.turn = y.turn→x.player = y.player→x = y
 rng:∀ x ∈ H,d ≤ x.turn∧(1 ≤ x.player∧x.player ≤ n)∧x.turn ≤ S (x.player - 1)
 ok:∀ x ∈ H,InpOk x∧InpS x
structure Pr (K:Prop) (HF:Int→UInt64) (n d:Int) (H:List Inp) (S:Int→Int) (v:Int) (p:Per):Prop where
 id:p.id = v + 1
 pl:p.players = n
 dl:p.delay = d
 sp:K→p.split = false
 own:p.said = S v
 inH:∀ y ∈ p.inputs,y ∈ H
 mnH:∀ y ∈ p.mine,y ∈ H
 cpl:∀ j t:Int,0 ≤ j→j < n→p.turn ≤ t→d ≤ t→t ≤ gi p.has j→∃ y ∈ p.inputs,y.turn = t∧y.player = j + 1
 lim:∀ j:Int,0 ≤ j→j < n→gi p.has j ≤ S j
 hsh:K→∀ u:Int,0 ≤ u→u < p.hashes.length→gi p.hashes u = HF (p.turn - p.hashes.length + u)
def Bd (m:Int) (p:Per):Prop:=(p.mine.length:Int) ≤ m∧(p.inputs.length:Int) ≤ m
theorem Bd.mono {a b:Int} {p:Per} (h:Bd a p) (hab:a ≤ b):Bd b p:=by unfold Bd at h ⊢; omega
structure Wy (K:Prop) (HF:Int→UInt64) (n:Int) (H:List Inp) (m:Nte):Prop where
 ok:NoteOk m
 fr:m.frm ≤ n
 ds:m.dst ≤ n
 inp:m.input.turn = -1 ∨ m.input ∈ H
 hsh:K→m.don = -1 ∨ m.hash = HF m.don
 sz:InpS m.input
def LogOk (n:Int) (H:List Inp) (S:Int→Int) (t:Int) (c:List Cmd):Prop:=∃ L:List Inp,L.Pairwise InLt∧(∀ x,x ∈ L ↔ x ∈ H∧x.turn = t)∧c = L.flatMap (·.commands)∧∀ j:Int,0 ≤ j→j < n→t ≤ S j
variable {K:Prop} {HF:Int→UInt64} {n d v c:Int} {H:List Inp} {S:Int→Int} {p:Per} {ps:List Per} {way:List Nte} {log:List (List Cmd)} {m:Nte} {x:Inp}
theorem Pr.szs (h:Pr K HF n d H S v p) (hv:Val p) (hh:Hist n d H S) (b:Bd c p) (hc:c ≤ 1000000):PerS p :=
 ⟨⟨by have:=b.1; omega,fun y hy=>(hh.ok y (h.mnH y hy)).2⟩,⟨by have:=b.2; omega,fun y hy=>(hh.ok y (h.inH y hy)).2⟩,by have:=hv.hl; have:=hv.pl; omega,by have:=hv.al; have:=hv.pl; omega,by have:=hv.hs; omega⟩
def bump (S:Int→Int) (v:Int):Int→Int:=fun j=>if j = v then S v + 1 else S j
theorem bump_le (j:Int):S j ≤ bump S v j:=by
 unfold bump
 by_cases e:j = v
 ·rw [if_pos e,e]; omega
 ·rw [if_neg e]; omega
theorem bump_self:bump S v v = S v + 1:=by unfold bump; rw [if_pos rfl]
theorem Hist.say (h:Hist n d H S) (ht:x.turn = S v + 1) (hp:x.player = v + 1) (hv:0 ≤ v∧v < n) (hd:d ≤ x.turn) (hok:InpOk x∧InpS x):Hist n d (H ++ [x]) (bump S v):=by
 have old:∀ y ∈ H,y.turn = x.turn→y.player = x.player→False:=fun y hy e1 e2=>by
  have:=(h.rng y hy).2.2
  rw [e2,hp,show v + 1 - 1 = v by omega] at this
  omega
 refine ⟨fun a ha b hb e1 e2=>?_,fun a ha=>?_,fun a ha=>?_⟩
 ·rcases List.mem_append.1 ha with ha | ha <;> rcases List.mem_append.1 hb with hb | hb
  ·exact h.fn a ha b hb e1 e2
  ·rw [List.mem_singleton.1 hb] at e1 e2; exact (old a ha e1 e2).elim
  ·rw [List.mem_singleton.1 ha] at e1 e2; exact (old b hb e1.symm e2.symm).elim
  ·rw [List.mem_singleton.1 ha,List.mem_singleton.1 hb]
 ·rcases List.mem_append.1 ha with ha | ha
  ·obtain ⟨k1,k2,k3⟩:=h.rng a ha
   have:=bump_le (S:=S) (v:=v) (a.player - 1)
   exact ⟨k1,k2,by omega⟩
  ·rw [List.mem_singleton.1 ha]
   refine ⟨hd,by omega,?_⟩
   rw [hp,show v + 1 - 1 = v by omega,bump_self]; omega
 ·rcases List.mem_append.1 ha with ha | ha
  ·exact h.ok a ha
  ·rw [List.mem_singleton.1 ha]; exact hok
theorem Pr.other {u:Int} (h:Pr K HF n d H S u p) (hne:¬ u = v):Pr K HF n d (H ++ [x]) (bump S v) u p :=
 ⟨h.id,h.pl,h.dl,h.sp,by rw [h.own]; unfold bump; rw [if_neg hne],fun y hy=>List.mem_append_left _ (h.inH y hy),fun y hy=>List.mem_append_left _ (h.mnH y hy),h.cpl,fun j j0 j1=>Int.le_trans (h.lim j j0 j1) (bump_le j),h.hsh⟩
theorem Wy.more (h:Wy K HF n H m):Wy K HF n (H ++ [x]) m:=⟨h.ok,h.fr,h.ds,h.inp.imp id fun k=>List.mem_append_left _ k,h.hsh,h.sz⟩
theorem mem_insI {l:List Inp} {x y:Inp}:y ∈ insI l x ↔ y = x ∨ y ∈ l:=by rw [(insI_perm l x).mem_iff,List.mem_cons]
theorem Pr.say {l:List Cmd} (h:Pr K HF n d H S v p) (hv:Val p) (h0:0 ≤ v∧v < n):Pr K HF n d (H ++ [inpOf p l]) (bump S v) v (sayP p l):=by
 have hl:=hv.hl
 have hpl:=h.pl
 have hgi:∀ j:Int,0 ≤ j→gi (si p.has (p.id - 1) (p.said + 1)) j = if j = p.id - 1 then p.said + 1 else gi p.has j:=fun j j0=>gi_si (by have:=hv.id; omega) j0
 refine ⟨h.id,h.pl,h.dl,h.sp,?_,fun y hy=>?_,fun y hy=>?_,fun j t j0 j1 t0 t1 t2=>?_,fun j j0 j1=>?_,h.hsh⟩
 ·show p.said + 1 = _
  rw [bump_self,h.own]
 ·rcases mem_insI.1 hy with e | e
  ·exact List.mem_append_right _ (List.mem_singleton.2 e)
  ·exact List.mem_append_left _ (h.inH y e)
 ·have hy:y ∈ (if 1 < p.players then p.mine ++ [inpOf p l] else p.mine):=hy
  split at hy
  ·rcases List.mem_append.1 hy with e | e
   ·exact List.mem_append_left _ (h.mnH y e)
   ·exact List.mem_append_right _ e
  ·exact List.mem_append_left _ (h.mnH y hy)
 ·have t2:t ≤ gi (si p.has (p.id - 1) (p.said + 1)) j:=t2
  rw [hgi j j0] at t2
  have hme:=hv.hme
  have hid:=h.id
  by_cases e:j = p.id - 1
  ·rw [if_pos e] at t2
   by_cases e2:t = p.said + 1
   ·exact ⟨inpOf p l,mem_insI.2 (.inl rfl),e2.symm,by show p.id = j + 1; omega⟩
   ·obtain ⟨y,hy,k⟩:=h.cpl j t j0 j1 t0 t1 (by rw [e,hme]; omega)
    exact ⟨y,mem_insI.2 (.inr hy),k⟩
  ·rw [if_neg e] at t2
   obtain ⟨y,hy,k⟩:=h.cpl j t j0 j1 t0 t1 t2
   exact ⟨y,mem_insI.2 (.inr hy),k⟩
 ·show gi (si p.has (p.id - 1) (p.said + 1)) j ≤ _
  rw [hgi j j0]
  have hid:=h.id
  by_cases e:j = p.id - 1
  ·rw [if_pos e,show j = v by omega,bump_self,h.own]; omega
  ·rw [if_neg e]; exact Int.le_trans (h.lim j j0 j1) (bump_le j)
theorem Pr.note (h:Pr K HF n d H S v p) (hv:Val p) (hh:Hist n d H S) (hs:PerS p) {k:Int} (hk:1 ≤ k∧k ≤ n) (hne:¬ k = p.id):Wy K HF n H (noteFor p k):=by
 have h1:=hv.pl; have h2:=hv.id; have h4:=hv.tn; have h8:=hv.hs; have h9:=h.pl; have h10:=hv.hv (k - 1) (by omega) (by omega); have hdl:=hv.dl
 have hmn:=hv.mn.2 (k - 1) (by omega) (by have:=hv.al; omega)
 have hav:=hv.av (k - 1) (by omega) (by omega)
 have hin:(inpFor p k).turn = -1∧(inpFor p k).player = 0∧(inpFor p k).commands = [] ∨ (inpFor p k) ∈ p.mine∧(inpFor p k).player = p.id∧InpOk (inpFor p k):=by
  unfold inpFor
  split
  ·rename_i hlt
   have:=hv.mv _ (by omega) hlt
   exact .inr ⟨gi_mem ⟨by omega,hlt⟩,this.2.1,this.1⟩
  ·exact .inl ⟨rfl,rfl,rfl⟩
 have hmt:∀ y ∈ p.mine,¬ y.turn = -1:=fun y hy e=>by
  obtain ⟨⟨⟨⟨a,_⟩,_⟩,_⟩,_⟩:=(hh.ok y (h.mnH y hy)).1
  omega
 refine ⟨⟨⟨⟨h2.1,by show p.id ≤ 8; omega⟩,⟨hk.1,by show k ≤ 8; omega⟩⟩,fun e=>hne e.symm,?_,by show -1 ≤ gi p.has (k - 1)∧gi p.has (k - 1) ≤ 1099511627776; omega,?_,fun e=>?_,fun e=>?_⟩,by show p.id ≤ n; omega,hk.2,?_,?_,inpFor_S hs hv (by omega)⟩
 ·show -1 ≤ donP p∧donP p ≤ 1099511627776
  unfold donP
  split <;> omega
 ·rintro ⟨a,b⟩
  have a:donP p = -1:=a
  have b:¬ ((lastP p).toNat:Int) = 0:=b
  unfold donP at a
  unfold lastP at b
  by_cases hc:0 < (p.hashes.length:Int)
  ·rw [if_pos hc] at a; omega
  ·rw [if_neg hc] at b; exact b rfl
 ·rcases hin with k1 | k1
  ·exact ⟨k1.2.1,by show ((inpFor p k).commands.length:Int) = 0; rw [k1.2.2]; rfl⟩
  ·exact absurd e (hmt _ k1.1)
 ·rcases hin with k1 | k1
  ·exact absurd k1.1 e
  ·exact ⟨k1.2.2,k1.2.1⟩
 ·exact hin.imp (·.1) fun k1=>h.mnH _ k1.1
 ·intro k0
  show donP p = -1 ∨ lastP p = HF (donP p)
  unfold donP lastP
  by_cases hc:0 < (p.hashes.length:Int)
  ·rw [if_pos hc,if_pos hc,h.hsh k0 _ (by omega) (by omega)]; right; congr 1; omega
  ·rw [if_neg hc]; exact .inl rfl
theorem notes_mem {p:Per} {m:Nte}:∀ N:Nat,m ∈ notesTo p N→∃ k:Int,(1 ≤ k∧k ≤ N)∧¬ k = p.id∧m = noteFor p k
 | 0,h=>by cases h
 | N + 1,h=>by
  unfold notesTo at h
  rcases List.mem_append.1 h with h | h
  ·obtain ⟨k,a,b⟩:=notes_mem N h
   exact ⟨k,by omega,b⟩
  ·split at h
   ·cases h
   ·rename_i hn
    exact ⟨(N:Int) + 1,by omega,hn,List.mem_singleton.1 h⟩
theorem Pr.inN (h:Pr K HF n d H S v p) (hv:Val p) (hh:Hist n d H S) (w:Wy K HF n H m):Pr K HF n d H S v (inP p m):=by
 unfold inP
 split
 ·rename_i ht
  have hn:=w.ok
  have hpl:=h.pl
  have hl:=hv.hl
  have hold:=hv.hv (m.frm - 1) (by have:=hn.1; omega) (by have:=w.fr; omega)
  have hdl:=hv.dl
  have hm:m.input ∈ H:=w.inp.resolve_left fun e=>by omega
  have hpf:=(hn.2.2.2.2.2.2 (by omega)).2
  have hf:=hn.1.1; have hfr:=w.fr
  have hgi:∀ j:Int,0 ≤ j→gi (si p.has (m.frm - 1) (gi p.has (m.frm - 1) + 1)) j = if j = m.frm - 1 then gi p.has (m.frm - 1) + 1 else gi p.has j:=fun j j0=>gi_si (by omega) j0
  refine ⟨h.id,h.pl,h.dl,h.sp,h.own,fun y hy=>?_,h.mnH,fun j t j0 j1 t0 t1 t2=>?_,fun j j0 j1=>?_,h.hsh⟩
  ·rcases mem_insI.1 hy with e | e
   ·rw [e]; exact hm
   ·exact h.inH y e
  ·have t2:t ≤ gi (si p.has (m.frm - 1) (gi p.has (m.frm - 1) + 1)) j:=t2
   rw [hgi j j0] at t2
   by_cases e:j = m.frm - 1
   ·rw [if_pos e] at t2
    by_cases e2:t = gi p.has (m.frm - 1) + 1
    ·exact ⟨m.input,mem_insI.2 (.inl rfl),by omega,by omega⟩
    ·obtain ⟨y,hy,k⟩:=h.cpl j t j0 j1 t0 t1 (by rw [e]; omega)
     exact ⟨y,mem_insI.2 (.inr hy),k⟩
   ·rw [if_neg e] at t2
    obtain ⟨y,hy,k⟩:=h.cpl j t j0 j1 t0 t1 t2
    exact ⟨y,mem_insI.2 (.inr hy),k⟩
  ·show gi (si p.has (m.frm - 1) (gi p.has (m.frm - 1) + 1)) j ≤ _
   rw [hgi j j0]
   by_cases e:j = m.frm - 1
   ·rw [if_pos e,← ht]
    have:=(hh.rng _ hm).2.2
    rw [hpf] at this
    rw [e]; exact this
   ·rw [if_neg e]; exact h.lim j j0 j1
 ·exact h
theorem Pr.ackN {f hav:Int} (h:Pr K HF n d H S v p):Pr K HF n d H S v (ackP p f hav):=by
 unfold ackP
 split
 ·exact h
 ·exact ⟨h.id,h.pl,h.dl,h.sp,h.own,h.inH,fun y hy=>h.mnH y (List.mem_filter.1 hy).1,h.cpl,h.lim,h.hsh⟩
theorem Pr.unlike {don:Int} {hash:UInt64} (k0:K) (h:Pr K HF n d H S v p) (hv:Val p) (hk:don = -1 ∨ hash = HF don):splB p don hash = false:=by
 unfold splB
 rw [decide_eq_false_iff_not]
 rintro ⟨⟨h1,h2⟩,h3⟩
 have h8:=hv.hs
 rcases hk with e | e
 ·omega
 ·have h9:=h.hsh k0 _ h2 (by omega)
  have h10:p.turn - (p.hashes.length:Int) + ((p.hashes.length:Int) - (p.turn - don)) = don:=by omega
  exact h3 (by rw [h9,h10,e])
theorem Pr.take (h:Pr K HF n d H S v p) (hv:Val p) (hh:Hist n d H S) (w:Wy K HF n H m):Pr K HF n d H S v (takeP p m):=by
 unfold takeP
 have h1:=(h.inN hv hh w).ackN (f:=m.frm) (hav:=m.hav)
 refine ⟨h1.id,h1.pl,h1.dl,fun k0=>?_,h1.own,h1.inH,h1.mnH,h1.cpl,h1.lim,h1.hsh⟩
 show (p.split || splB p m.don m.hash) = false
 rw [h.sp k0,h.unlike k0 hv (w.hsh k0)]; rfl
theorem take_Bd (b:Bd c p):Bd (c + 1) (takeP p m):=by
 obtain ⟨b1,b2⟩:=b
 have i1:Bd (c + 1) (inP p m):=by
  unfold inP
  split
  ·exact ⟨by show (p.mine.length:Int) ≤ _; omega,by show ((insI p.inputs m.input).length:Int) ≤ _; rw [insI_len]; omega⟩
  ·exact ⟨by omega,by omega⟩
 have i2:Bd (c + 1) (ackP (inP p m) m.frm m.hav):=by
  unfold ackP
  split
  ·exact i1
  ·refine ⟨?_,i1.2⟩
   have:=List.length_filter_le (fun i:Inp=>!decide (i.turn ≤ minL (si (inP p m).acked (m.frm - 1) m.hav))) (inP p m).mine
   have:=i1.1
   show ((List.filter _ (inP p m).mine).length:Int) ≤ _
   omega
 exact i2
theorem say_Bd {l:List Cmd} (b:Bd c p):Bd (c + 1) (sayP p l):=by
 obtain ⟨b1,b2⟩:=b
 refine ⟨?_,by show ((insI p.inputs (inpOf p l)).length:Int) ≤ _; rw [insI_len]; omega⟩
 show ((if 1 < p.players then p.mine ++ [inpOf p l] else p.mine).length:Int) ≤ _
 split
 ·rw [List.length_append]; simp; omega
 ·omega
theorem ran_Bd {h:UInt64} (b:Bd c p):Bd c (ranP p h):=by
 refine ⟨b.1,?_⟩
 have:=List.length_filter_le (fun i:Inp=>!decide (i.turn = p.turn)) p.inputs
 have:=b.2
 show ((List.filter _ p.inputs).length:Int) ≤ _
 omega
theorem Pr.ready (h:Pr K HF n d H S v p) (hv:Val p) (hh:Hist n d H S) (hc:CanGo p):LogOk n H S p.turn ((theseI p).flatMap (·.commands)):=by
 have hl:=hv.hl; have hpl:=h.pl
 refine ⟨theseI p,(ListOk.iff.1 hv.inp).2.sublist List.filter_sublist,fun x=>⟨fun hx=>?_,fun hx=>?_⟩,rfl,fun j j0 j1=>Int.le_trans (hc.1 j j0 (by omega)) (h.lim j j0 j1)⟩
 ·exact ⟨h.inH x (List.mem_filter.1 hx).1,of_decide_eq_true (List.mem_filter.1 hx).2⟩
 ·obtain ⟨hH,ht⟩:=hx
  obtain ⟨k1,k2,_⟩:=hh.rng x hH
  obtain ⟨y,hy,e1,e2⟩:=h.cpl (x.player - 1) p.turn (by omega) (by omega) (Int.le_refl _) (by omega) (hc.1 _ (by omega) (by omega))
  have:y = x:=hh.fn y (h.inH y hy) x hH (by omega) (by omega)
  subst this
  exact List.mem_filter.2 ⟨hy,decide_eq_true ht⟩
theorem Pr.ran {g:UInt64} (h:Pr K HF n d H S v p) (hv:Val p) (hg:K→g = HF p.turn):Pr K HF n d H S v (ranP p g):=by
 refine ⟨h.id,h.pl,h.dl,h.sp,h.own,fun y hy=>h.inH y (List.mem_filter.1 hy).1,h.mnH,fun j t j0 j1 t0 t1 t2=>?_,h.lim,?_⟩
 ·have t0:p.turn + 1 ≤ t:=t0
  obtain ⟨y,hy,k⟩:=h.cpl j t j0 j1 (by omega) t1 t2
  exact ⟨y,List.mem_filter.2 ⟨hy,by simp only [Bool.not_eq_true',decide_eq_false_iff_not]; omega⟩,k⟩
 ·intro k0
  have key:∀ u:Int,0 ≤ u→u < p.hashes.length + 1→gi (p.hashes ++ [g]) u = HF (p.turn - p.hashes.length + u):=fun u u0 u1=>by
   by_cases e:u < p.hashes.length
   ·rw [gi_append_left ⟨u0,e⟩]; exact h.hsh k0 u u0 e
   ·rw [show u = (p.hashes.length:Int) by omega,gi_append_at,hg k0]; congr 1; omega
  intro u u0 u1
  have u1:u < ((hashP p.hashes g).length:Int):=u1
  show gi (hashP p.hashes g) u = HF (p.turn + 1 - (hashP p.hashes g).length + u)
  unfold hashP at u1 ⊢
  have hlen:((p.hashes ++ [g]).length:Int) = p.hashes.length + 1:=by simp
  by_cases hc:16 < ((p.hashes ++ [g]).length:Int)
  ·rw [if_pos hc] at u1 ⊢
   have hl2:(((p.hashes ++ [g]).drop 1).length:Int) = p.hashes.length:=by rw [List.length_drop]; omega
   have e:gi ((p.hashes ++ [g]).drop 1) u = gi (p.hashes ++ [g]) (u + 1):=by
    simp only [gi,List.getD_eq_getElem?_getD,List.getElem?_drop]
    congr 2
    omega
   rw [e,key _ (by omega) (by omega),hl2]; congr 1; omega
  ·rw [if_neg hc] at u1 ⊢
   rw [key u u0 (by omega),hlen]; congr 1; omega
end Go.Proofs.YtmngdgclldkcfaaGreat
set_option linter.unusedVariables false
set_option linter.unusedSimpArgs false
namespace Go.Proofs.YtmngdgclldkcfaaGreat
open Go.Vg
open Go
structure Wo (K:Prop) (HF:Int→UInt64) (n d c:Int) (H:List Inp) (S:Int→Int) (ps:List Per) (way:List Nte):Prop where
  len:(ps.length:Int) = n
  val:∀ v:Int,0 ≤ v→v < n→Val (gi ps v)
  pr:∀ v:Int,0 ≤ v→v < n→Pr K HF n d H S v (gi ps v)
  bd:∀ v:Int,0 ≤ v→v < n→Bd c (gi ps v)
  hist:Hist n d H S
  wy:∀ m ∈ way,Wy K HF n H m
  sm:∀ j:Int,S j ≤ 7 + c
variable {K:Prop} {HF:Int→UInt64} {n d v c c':Int} {H:List Inp} {S:Int→Int} {p:Per} {ps:List Per} {way way':List Nte} {m:Nte} {x:Inp}
theorem Wo.PS (w:Wo K HF n d c H S ps way) (hv:0 ≤ v∧v < n) (hc:c ≤ 1000000):PerS (gi ps v):=(w.pr v hv.1 hv.2).szs (w.val v hv.1 hv.2) w.hist (w.bd v hv.1 hv.2) hc
theorem Wo.mono (w:Wo K HF n d c H S ps way) (hc:c ≤ c'):Wo K HF n d c' H S ps way:=⟨w.len,w.val,w.pr,fun v v0 v1=>(w.bd v v0 v1).mono hc,w.hist,w.wy,fun j=>by have:=w.sm j; omega⟩
theorem gi_put {l:List Per} {j k:Int} {x:Per} (hj:0 ≤ j∧j < l.length) (hk:0 ≤ k):gi (si l j x) k = if k = j then x else gi l k:=by
 by_cases e:k = j
 ·rw [if_pos e,e,gi_si_self hj]
 ·rw [if_neg e,gi_si_ne hj.1 hk fun h=>e h.symm]
theorem Wo.put (w:Wo K HF n d c H S ps way) (hv:0 ≤ v∧v < n) {q:Per} (h1:Val q) (h2:Pr K HF n d H S v q) (h3:Bd c' q) (hc:c ≤ c'):Wo K HF n d c' H S (si ps v q) way:=by
 have hl:=w.len
 have hg:∀ k:Int,0 ≤ k→gi (si ps v q) k = if k = v then q else gi ps k:=fun k k0=>gi_put ⟨hv.1,by omega⟩ k0
 refine ⟨by rw [len_si]; exact hl,fun k k0 k1=>?_,fun k k0 k1=>?_,fun k k0 k1=>?_,w.hist,w.wy,fun j=>by have:=w.sm j; omega⟩ <;> rw [hg k k0] <;> by_cases e:k = v
 ·rw [if_pos e]; exact h1
 ·rw [if_neg e]; exact w.val k k0 k1
 ·rw [if_pos e,e]; exact h2
 ·rw [if_neg e]; exact w.pr k k0 k1
 ·rw [if_pos e]; exact h3
 ·rw [if_neg e]; exact (w.bd k k0 k1).mono hc
theorem Wo.say {l:List Cmd} (w:Wo K HF n d c H S ps way) (hv:0 ≤ v∧v < n) (hc:c ≤ 1000000) (hsh:¬ Shut (gi ps v)) (hso:SaidOk (gi ps v).id l) (hl:l.length ≤ 1000000∧∀ y ∈ l,CmdS y):Wo K HF n d (c + 1) (H ++ [inpOf (gi ps v) l]) (bump S v) (si ps v (sayP (gi ps v) l)) way:=by
 have h:=w.pr v hv.1 hv.2
 have hV:=w.val v hv.1 hv.2
 have hlen:=w.len
 have hg:∀ k:Int,0 ≤ k→gi (si ps v (sayP (gi ps v) l)) k = if k = v then sayP (gi ps v) l else gi ps k:=fun k k0=>gi_put ⟨hv.1,by omega⟩ k0
 have ht:(inpOf (gi ps v) l).turn = S v + 1:=by show (gi ps v).said + 1 = _; rw [h.own]
 have hp:(inpOf (gi ps v) l).player = v + 1:=h.id
 have hsd:=hV.sd; have hdl:=hV.dl; have htn:=hV.tn; have hpl:=hV.pl; have hid:=hV.id; have hd:=h.dl
 have hok:InpOk (inpOf (gi ps v) l)∧InpS (inpOf (gi ps v) l):=⟨⟨by show (((0 ≤ (gi ps v).said + 1)∧((gi ps v).said + 1 ≤ 1099511627776))∧(1 ≤ (gi ps v).id))∧(gi ps v).id ≤ 8; unfold Shut at hsh; omega,hso⟩,hl⟩
 refine ⟨by rw [len_si]; exact hlen,fun k k0 k1=>?_,fun k k0 k1=>?_,fun k k0 k1=>?_,w.hist.say ht hp hv (by show d ≤ (gi ps v).said + 1; omega) hok,fun m hm=>(w.wy m hm).more,fun j=>by
  have h1:=w.sm j; have h2:=w.sm v
  unfold bump
  by_cases e:j = v
  ·rw [if_pos e]; omega
  ·rw [if_neg e]; omega⟩
 all_goals
  try rw [hg k k0]
  by_cases e:k = v
 ·rw [if_pos e]; exact say_v (w.PS hv hc) hV hsh hso
 ·rw [if_neg e]; exact w.val k k0 k1
 ·rw [if_pos e,e]; exact h.say hV hv
 ·rw [if_neg e]; exact (w.pr k k0 k1).other e
 ·rw [if_pos e]; exact say_Bd (w.bd v hv.1 hv.2)
 ·rw [if_neg e]; exact (w.bd k k0 k1).mono (by omega)
theorem Wo.ways (w:Wo K HF n d c H S ps way) (h:∀ m ∈ way',Wy K HF n H m):Wo K HF n d c H S ps way':=⟨w.len,w.val,w.pr,w.bd,w.hist,h,w.sm⟩
theorem Wo.notes (w:Wo K HF n d c H S ps way) (hv:0 ≤ v∧v < n) (hc:c ≤ 1000000):∀ m ∈ notesTo (gi ps v) (gi ps v).players.toNat,Wy K HF n H m:=fun m hm=>by
 have h:=w.pr v hv.1 hv.2
 have hV:=w.val v hv.1 hv.2
 obtain ⟨k,hk,hne,rfl⟩:=notes_mem _ hm
 have:=h.pl
 have:=hV.pl
 exact h.note hV w.hist (w.PS hv hc) (by omega) hne
theorem Wo.full (w:Wo K HF n d c H S ps way) (hm:Wy K HF n H m) (hv:0 ≤ v∧v < n):¬ (gi ps v).turn + 16 < m.input.turn:=by
 have hV:=w.val v hv.1 hv.2
 have h:=w.pr v hv.1 hv.2
 have htn:=hV.tn; have hd:=h.dl; have hdl:=hV.dl; have hsd:=hV.sd
 rcases hm.inp with e | e
 ·omega
 ·obtain ⟨_,k2,k3⟩:=w.hist.rng _ e
  have hn:=hm.ok
  have hpf:=(hn.2.2.2.2.2.2 (by omega)).2
  have hu:0 ≤ m.frm - 1∧m.frm - 1 < n:=by have:=hm.fr; have:=hn.1.1; omega
  have gV:=w.val _ hu.1 hu.2
  have g:=w.pr _ hu.1 hu.2
  have g1:=g.own; have g2:=gV.sd; have g3:=g.dl
  have g4:=(gV.hv v hv.1 (by rw [g.pl]; exact hv.2)).2.1
  have g5:=g.lim v hv.1 hv.2
  have h1:=h.own
  rw [hpf] at k3
  omega
theorem Wo.take (w:Wo K HF n d c H S ps way) (hm:Wy K HF n H m) (hv:0 ≤ v∧v < n) (hd:m.dst = v + 1) (hc:c ≤ 1000000):peer_Take (gi ps v) m = some (takeP (gi ps v) m,0)∧Wo K HF n d (c + 1) H S (si ps v (takeP (gi ps v) m)) way:=by
 have h:=w.pr v hv.1 hv.2
 have hV:=w.val v hv.1 hv.2
 have hb:¬ TakeBad (gi ps v) m:=by
  rintro (e | e | e)
  ·exact e hm.ok
  ·rw [h.id] at e; exact e hd
  ·have:=hm.fr; rw [h.pl] at e; omega
 have hf:=w.full hm hv
 refine ⟨(take_p (w.PS hv hc) hm.sz).2.2.2 hV hb hf,w.put hv (take_v hV hb hf) (h.take hV w.hist hm) (take_Bd (w.bd v hv.1 hv.2)) (by omega)⟩
theorem flat_l64:∀ L:List Inp,(∀ y ∈ L,InpOk y)→(L.flatMap (·.commands)).length ≤ L.length * 64
 | [],_=>Nat.le_refl _
 | y :: L,h=>by
  have h1:=flat_l64 L fun z hz=>h z (List.mem_cons_of_mem _ hz)
  have h2:=(h y List.mem_cons_self).2.1
  rw [List.flatMap_cons,List.length_append,List.length_cons]
  omega
def newP (i n d:Int):Per:=⟨i,n,d,0,d - 1,[],[],List.replicate n.toNat (d - 1),List.replicate n.toNat (d - 1),[],false⟩
theorem new_all:∀ a:Fin 4,∀ b:Fin 8,∀ i:Fin 4,i.val ≤ a.val→peer_New (((i.val + 1:Nat)):Int) ((a.val + 1:Nat):Int) ((b.val + 1:Nat):Int) = some (newP ((i.val + 1:Nat):Int) ((a.val + 1:Nat):Int) ((b.val + 1:Nat):Int),0)∧peer_May (newP ((i.val + 1:Nat):Int) ((a.val + 1:Nat):Int) ((b.val + 1:Nat):Int)) = some true:=by
 decide +kernel
theorem new_p {i n d:Int} (hn:1 ≤ n∧n ≤ 4) (hd:1 ≤ d∧d ≤ 8) (hi:1 ≤ i∧i ≤ n):peer_New i n d = some (newP i n d,0)∧Val (newP i n d):=by
 have h:=new_all ⟨(n - 1).toNat,by omega⟩ ⟨(d - 1).toNat,by omega⟩ ⟨(i - 1).toNat,by omega⟩ (by show (i - 1).toNat ≤ (n - 1).toNat; omega)
 have e1:((((n - 1).toNat + 1:Nat)):Int) = n:=by omega
 have e2:((((d - 1).toNat + 1:Nat)):Int) = d:=by omega
 have e3:((((i - 1).toNat + 1:Nat)):Int) = i:=by omega
 dsimp only at h
 rw [e1,e2,e3] at h
 refine ⟨h.1,?_⟩
 have hs:PerS (newP i n d):=⟨⟨by show 0 ≤ 1000000; omega,fun y hy=>(by cases hy)⟩,⟨by show 0 ≤ 1000000; omega,fun y hy=>(by cases hy)⟩,by show (List.replicate _ _).length ≤ _; rw [List.length_replicate]; omega,by show (List.replicate _ _).length ≤ _; rw [List.length_replicate]; omega,by show 0 ≤ 1000000; omega⟩
 obtain ⟨r,er,hr⟩:=may_b hs
 rw [h.2] at er
 exact hr.1 (Option.some.inj er).symm
theorem Wo.start (hn:1 ≤ n∧n ≤ 4) (hd:1 ≤ d∧d ≤ 8) (hl:(ps.length:Int) = n) (h:∀ v:Int,0 ≤ v→v < n→gi ps v = newP (v + 1) n d):Wo K HF n d 0 [] (fun _=>d - 1) ps []:=by
 refine ⟨hl,fun v v0 v1=>?_,fun v v0 v1=>?_,fun v v0 v1=>?_,⟨fun x hx=>(by cases hx),fun x hx=>(by cases hx),fun x hx=>(by cases hx)⟩,fun x hx=>(by cases hx),fun j=>by show d - 1 ≤ 7 + 0; omega⟩ <;> rw [h v v0 v1]
 ·exact (new_p hn hd (by omega)).2
 ·refine ⟨rfl,rfl,rfl,fun _=>rfl,rfl,fun y hy=>(by cases hy),fun y hy=>(by cases hy),fun j t j0 j1 t0 t1 t2=>?_,fun j j0 j1=>?_,fun _ u u0 u1=>?_⟩
  ·have t2:t ≤ gi (List.replicate n.toNat (d - 1)) j:=t2
   rw [gi_replicate (by omega)] at t2; omega
  ·show gi (List.replicate n.toNat (d - 1)) j ≤ d - 1
   rw [gi_replicate (by omega)]; exact Int.le_refl _
  ·have u1:u < (([]:List UInt64).length:Int):=u1
   simp at u1; omega
 ·exact ⟨Int.le_refl _,Int.le_refl _⟩

end Go.Proofs.YtmngdgclldkcfaaGreat
