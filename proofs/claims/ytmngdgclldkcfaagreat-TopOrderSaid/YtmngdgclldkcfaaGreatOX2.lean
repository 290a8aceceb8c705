/-
  A session in which each one says once what it wants: what its calls make of it. The conditions stand in each lemma.
-/
import Derived.Test.YtmngdgclldkcfaaGreatOX1
set_option linter.unusedVariables false
set_option linter.unusedSimpArgs false
namespace Go.Proofs.YtmngdgclldkcfaaGreat
open Go.Vg
open Go
theorem gi_mapp {l:Ones} {v:Int} (h:0 ≤ v∧v < l.length):gi (l.map One.p) v = (gi l v).p:=by
 obtain ⟨i,rfl⟩:∃ i:Nat,v = i:=⟨v.toNat,by omega⟩
 have h1:i < l.length:=by omega
 simp [gi,h1]
theorem si_mapp {l:Ones} {v:Int} {x:One}:(si l v x).map One.p = si (l.map One.p) v x.p:=by unfold si; rw [List.map_set]
theorem mem_notes {p:Per} {k:Int}:∀ N:Nat,(1 ≤ k∧k ≤ N)→¬ k = p.id→noteFor p k ∈ notesTo p N
 | 0,h,_=>by omega
 | N + 1,h,hn=>by
  unfold notesTo
  by_cases e:k = (N:Int) + 1
  ·subst e
   rw [if_neg hn]
   exact List.mem_append_right _ (List.mem_singleton.2 rfl)
  ·exact List.mem_append_left _ (mem_notes N (by omega) hn)
theorem inpFor_turn {p:Per} (h:Val p) {k:Int} (hk:1 ≤ k∧k ≤ p.players) (ha:gi p.acked (k - 1) < p.said):(inpFor p k).turn = gi p.acked (k - 1) + 1:=by
 have hmn:=h.mn.2 (k - 1) (by omega) (by have:=h.al; omega)
 have hml:=h.ml
 unfold inpFor
 rw [if_pos (by omega)]
 have:=(h.mv (gi p.acked (k - 1) - minL p.acked) (by omega) (by omega)).2.2
 omega
theorem gi_siI {l:List Int} {j k x:Int} (hj:0 ≤ j∧j < l.length) (hk:0 ≤ k):gi (si l j x) k = if k = j then x else gi l k:=gi_siG hj hk
theorem inP_has {p:Per} {m:Nte} (h:Val p) (h1:1 ≤ m.frm∧m.frm ≤ p.players) {j:Int} (hj:0 ≤ j):gi p.has j ≤ gi (inP p m).has j∧(j = m.frm - 1→m.input.turn ≤ gi p.has j + 1→m.input.turn ≤ gi (inP p m).has j):=by
 have hl:=h.hl
 unfold inP
 split
 ·rename_i e
  show gi p.has j ≤ gi (si p.has _ _) j∧(_→_→_ ≤ gi (si p.has _ _) j)
  rw [gi_siI (by omega) hj]
  by_cases e2:j = m.frm - 1
  ·rw [if_pos e2,e2]; exact ⟨by omega,fun _ _=>by omega⟩
  ·rw [if_neg e2]; exact ⟨Int.le_refl _,fun e=>absurd e e2⟩
 ·rename_i e
  exact ⟨Int.le_refl _,fun e2 e3=>by rw [← e2] at e; omega⟩
theorem take_has {p:Per} {m:Nte}:(takeP p m).has = (inP p m).has:=by
 show (ackP (inP p m) m.frm m.hav).has = _
 unfold ackP
 split <;> rfl
theorem take_acked {p:Per} {m:Nte} (h:Val p) (h1:1 ≤ m.frm∧m.frm ≤ p.players) {j:Int} (hj:0 ≤ j):gi (takeP p m).acked j = gi p.acked j ∨ (j = m.frm - 1∧gi (takeP p m).acked j = m.hav):=by
 have hl:=h.al
 have e:(inP p m).acked = p.acked:=by unfold inP; split <;> rfl
 show gi (ackP (inP p m) m.frm m.hav).acked j = _ ∨ _
 unfold takeP splP ackP
 split
 ·exact .inl (by rw [e])
 ·show gi (si (inP p m).acked _ _) j = _ ∨ (_∧gi (si (inP p m).acked _ _) j = _)
  rw [e,gi_siI (by omega) hj]
  by_cases e2:j = m.frm - 1
  ·rw [if_pos e2]; exact .inr ⟨e2,rfl⟩
  ·rw [if_neg e2]; exact .inl rfl
structure OEnv (n d:Int) (g:Grd):Prop where
 gok:GOk g
 size:g.tiles.length ≤ 200000
 n:1 ≤ n∧n ≤ 4
 d:1 ≤ d∧d ≤ 8
 t0:((gi g.tiles 0).toNat:Int) = 0
abbrev tn (l:Ones) (v:Int):Int:=(gi l v).p.turn
abbrev hz (l:Ones) (j k:Int):Int:=gi (gi l j).p.has k
abbrev ak (l:Ones) (k j:Int):Int:=gi (gi l k).p.acked j
def wf (n d:Int) (g:Grd) (t:Int):Wld:=if t ≤ d then qw n t g else uw n t g
def hf (n d:Int) (g:Grd) (t:Int):UInt64:=(image_Sum (wf n d g (t + 1))).getD 0
def inp (d k:Int):Inp:=⟨d,k,[spw k 1,spw k 2]⟩
structure SJ (n d:Int) (g:Grd) (S:Int→Int) (c:Int) (C:Pty) (way:List Nte):Prop where
  ex:∃ H,Wo True (hf n d g) n d c H S (C.l.map One.p) way∧∀ x,x ∈ H ↔ ∃ k:Int,(1 ≤ k∧k ≤ n)∧S (k - 1) = d∧x = inp d k
  sv:∀ j:Int,0 ≤ j→j < n→S j = d - 1 ∨ S j = d
  wl:∀ v:Int,0 ≤ v→v < n→∃ f,(gi C.l v).w = ⟨wf n d g (tn C.l v),f⟩
  hl:(C.hashes.length:Int) = n
  hs:∀ v:Int,0 ≤ v→v < n→((gi C.hashes v).length:Int) = tn C.l v
  lg:(C.log.length:Int) = tn C.l 0
  ca:∀ k j:Int,0 ≤ k→k < n→0 ≤ j→j < n→ak C.l k j ≤ hz C.l j k
  cw:∀ m ∈ way,m.hav ≤ hz C.l (m.frm - 1) (m.dst - 1)
variable {n d c c' k q:Int} {g:Grd} {S:Int→Int} {C:Pty} {P:Par} {way way':List Nte} {m:Nte}
theorem SJ.len (h:SJ n d g S c C way):(C.l.length:Int) = n:=by
 obtain ⟨H,w,_⟩:=h.ex
 have:=w.len
 rw [List.length_map] at this
 exact this
theorem SJ.mono (h:SJ n d g S c C way) (hc:c ≤ c'):SJ n d g S c' C way:=by
 obtain ⟨H,w,k⟩:=h.ex
 exact ⟨⟨H,w.mono hc,k⟩,h.sv,h.wl,h.hl,h.hs,h.lg,h.ca,h.cw⟩
theorem SJ.less (h:SJ n d g S c C way) (hs:∀ m ∈ way',m ∈ way):SJ n d g S c C way':=by
 obtain ⟨H,w,k⟩:=h.ex
 exact ⟨⟨H,w.ways fun m hm=>w.wy m (hs m hm),k⟩,h.sv,h.wl,h.hl,h.hs,h.lg,h.ca,fun m hm=>h.cw m (hs m hm)⟩
structure PeerF (n d:Int) (S:Int→Int) (C:Pty) (k:Int):Prop where
 val:Val (gi C.l k).p
 pl:(gi C.l k).p.players = n
 id:(gi C.l k).p.id = k + 1
 dl:(gi C.l k).p.delay = d
 own:(gi C.l k).p.said = S k
 lim:∀ j:Int,0 ≤ j→j < n→d - 1 ≤ hz C.l k j∧tn C.l k - 1 ≤ hz C.l k j∧hz C.l k j ≤ S j
theorem SJ.pf (h:SJ n d g S c C way) (hk:0 ≤ k∧k < n):PeerF n d S C k:=by
 obtain ⟨H,w,_⟩:=h.ex
 have hlen:=h.len
 have V:=w.val k hk.1 hk.2
 have R:=w.pr k hk.1 hk.2
 rw [gi_mapp ⟨hk.1,by omega⟩] at V R
 refine ⟨V,R.pl,R.id,R.dl,R.own,fun j j0 j1=>?_⟩
 have h1:=V.hv j j0 (by rw [R.pl]; exact j1)
 have h2:=R.lim j j0 j1
 have h3:=R.dl
 exact ⟨by show d - 1 ≤ gi _ _; omega,by show (gi C.l k).p.turn - 1 ≤ gi _ _; omega,h2⟩
theorem SJ.turn (E:OEnv n d g) (h:SJ n d g S c C way) (hk:0 ≤ k∧k < n):0 ≤ tn C.l k∧tn C.l k ≤ d + 1:=by
 have F:=h.pf hk
 obtain ⟨_,(h1:(gi C.l k).p.turn - 1 ≤ gi (gi C.l k).p.has k),(h3:gi (gi C.l k).p.has k ≤ S k)⟩:=F.lim k hk.1 hk.2
 have h2:=h.sv k hk.1 hk.2
 have h4:=F.val.tn
 show 0 ≤ (gi C.l k).p.turn∧(gi C.l k).p.turn ≤ _
 omega
theorem SJ.put {z:One} (h:SJ n d g S c C way) (hk:0 ≤ k∧k < n) {H:List Inp} {S':Int→Int} {hh:List (List UInt64)} {lg:List Frm}
  (hw:Wo True (hf n d g) n d c' H S' (si (C.l.map One.p) k z.p) way) (hH:∀ x,x ∈ H ↔ ∃ k:Int,(1 ≤ k∧k ≤ n)∧S' (k - 1) = d∧x = inp d k) (hS:∀ j:Int,0 ≤ j→j < n→S' j = d - 1 ∨ S' j = d)
  (hwl:∃ f,z.w = ⟨wf n d g z.p.turn,f⟩) (h1:(hh.length:Int) = n) (h2:∀ v:Int,0 ≤ v→v < n→((gi hh v).length:Int) = if v = k then z.p.turn else tn C.l v) (h3:(lg.length:Int) = if 0 = k then z.p.turn else tn C.l 0)
  (hm:∀ j:Int,0 ≤ j→j < n→hz C.l k j ≤ gi z.p.has j) (ha:∀ j:Int,0 ≤ j→j < n→¬ j = k→gi z.p.acked j ≤ hz C.l j k) (he:gi z.p.acked k = gi z.p.has k):SJ n d g S' c' ⟨si C.l k z,hh,lg⟩ way:=by
 have hlen:=h.len
 have hg:∀ u:Int,0 ≤ u→gi (si C.l k z) u = if u = k then z else gi C.l u:=fun u u0=>gi_siG ⟨hk.1,by omega⟩ u0
 have hhz:∀ j i:Int,0 ≤ j→0 ≤ i→i < n→hz C.l j i ≤ hz (si C.l k z) j i:=fun j i j0 i0 i1=>by
  show _ ≤ gi (gi (si C.l k z) j).p.has i
  rw [hg j j0]
  by_cases e:j = k
  ·rw [if_pos e,e]; exact hm i i0 i1
  ·rw [if_neg e]; exact Int.le_refl _
 refine ⟨⟨H,by rw [si_mapp]; exact hw,hH⟩,hS,fun v v0 v1=>?_,h1,fun v v0 v1=>?_,?_,fun i j i0 i1 j0 j1=>?_,fun m hm'=>?_⟩
 ·show ∃ f,(gi (si C.l k z) v).w = ⟨wf n d g (gi (si C.l k z) v).p.turn,f⟩
  rw [hg v v0]
  by_cases e:v = k
  ·rw [if_pos e]; exact hwl
  ·rw [if_neg e]; exact h.wl v v0 v1
 ·show ((gi hh v).length:Int) = (gi (si C.l k z) v).p.turn
  rw [h2 v v0 v1,hg v v0]
  by_cases e:v = k
  ·rw [if_pos e,if_pos e]
  ·rw [if_neg e,if_neg e]
 ·show (lg.length:Int) = (gi (si C.l k z) 0).p.turn
  rw [h3,hg 0 (by omega)]
  by_cases e:0 = k
  ·rw [if_pos e,if_pos e]
  ·rw [if_neg e,if_neg e]
 ·show gi (gi (si C.l k z) i).p.acked j ≤ _
  rw [hg i i0]
  by_cases e:i = k
  ·rw [if_pos e]
   by_cases e2:j = k
   ·show _ ≤ gi (gi (si C.l k z) j).p.has i
    rw [hg j j0,if_pos e2,e,e2,he]; exact Int.le_refl _
   ·rw [e]
    exact Int.le_trans (ha j j0 j1 e2) (hhz j k j0 hk.1 hk.2)
  ·rw [if_neg e]
   exact Int.le_trans (h.ca i j i0 i1 j0 j1) (hhz j i j0 i0 i1)
 ·obtain ⟨_,w0,_⟩:=h.ex
  have W:=w0.wy m hm'
  have o1:=W.ok.1; have o2:=W.fr; have o3:=W.ds
  exact Int.le_trans (h.cw m hm') (hhz _ _ (by omega) (by omega) (by omega))
theorem flat_all {d n:Int} {L:List Inp} (hn:1 ≤ n∧n ≤ 4) (hp:L.Pairwise InLt) (hL:∀ x,x ∈ L ↔ ∃ k:Int,(1 ≤ k∧k ≤ n)∧x = inp d k) (ho:∀ y ∈ L,InpOk y):CsOk n (L.flatMap (·.commands)):=by
 have e:L = (List.range n.toNat).map fun i:Nat=>inp d ((i:Int) + 1):=by
  refine same_rise _ _ hp ?_ fun x=>?_
  ·rw [List.pairwise_map]
   refine List.Pairwise.imp ?_ List.pairwise_lt_range
   intro a b hab
   show InLt (inp d _) (inp d _)
   unfold InLt inp
   dsimp only
   omega
  ·rw [hL x,List.mem_map]
   constructor
   ·rintro ⟨k,hk,rfl⟩
    exact ⟨(k - 1).toNat,List.mem_range.2 (by omega),by rw [show (((k - 1).toNat:Nat):Int) + 1 = k by omega]⟩
   ·rintro ⟨i,hi,rfl⟩
    have:=List.mem_range.1 hi
    exact ⟨_,by omega,rfl⟩
 have hl:=flat_l64 L ho
 have hll:L.length = n.toNat:=by rw [e]; simp
 obtain ⟨N,hN⟩:∃ N:Nat,n.toNat = N + 1:=⟨n.toNat - 1,by omega⟩
 have hf:L.flatMap (·.commands) = spw 1 1 :: spw 1 2 :: (((List.range N).map Nat.succ).map fun i:Nat=>inp d ((i:Int) + 1)).flatMap (·.commands):=by
  rw [e,hN,List.range_succ_eq_map]; rfl
 refine ⟨⟨by rw [hf]; simp,by omega⟩,by rw [hf]; rfl,fun v v0 v1=>?_⟩
 have hm:gi (L.flatMap (·.commands)) v ∈ L.flatMap (·.commands):=gi_mem ⟨v0,v1⟩
 obtain ⟨y,hy,hz⟩:=List.mem_flatMap.1 hm
 obtain ⟨k,hk,rfl⟩:=(hL y).1 hy
 have hz:gi (L.flatMap (·.commands)) v ∈ [spw k 1,spw k 2]:=hz
 rcases List.mem_cons.1 hz with e | e
 ·exact ⟨k,1,hk,by decide,e⟩
 ·exact ⟨k,2,hk,by decide,List.mem_singleton.1 e⟩
theorem sum_wf (E:OEnv n d g) {t:Int} (ht:t ≤ 1000):∃ s,image_Sum (wf n d g t) = some s:=by
 have:=E.n
 unfold wf
 split
 ·exact sumW_q E.gok E.size (by omega) (by omega)
 ·exact sumU_q E.gok E.size (by omega) (by omega)
theorem world_wf (E:OEnv n d g) {t:Int} {f:Fld}:eng_World ⟨wf n d g t,f⟩ = some (wf n d g t):=by
 have:=E.size
 unfold wf
 split
 ·exact world_q (by omega)
 ·exact worldU_q (by omega)
theorem run_o (E:OEnv n d g) (h:SJ n d g S c C way) (hk:0 ≤ k∧k < n) (hc:c ≤ 100000):Ok (session_party_run C k) fun r=>SJ n d g S c r.2 way∧(∀ v:Int,0 ≤ v→v < n→¬ v = k→(gi r.2.l v).p = (gi C.l v).p)∧(gi r.2.l k).p.has = (gi C.l k).p.has∧(gi r.2.l k).p.acked = (gi C.l k).p.acked∧(r.1 = true→tn r.2.l k = tn C.l k + 1)∧(¬ r.1 = true→(∃ j:Int,(0 ≤ j∧j < n)∧hz C.l k j < tn C.l k)∧r.2 = C):=by
 obtain ⟨H,w,hH⟩:=h.ex
 have hlen:=h.len
 have eg:=gi_mapp (l:=C.l) (v:=k) ⟨hk.1,by omega⟩
 have F:=h.pf hk
 have V:=F.val
 have R:=w.pr k hk.1 hk.2
 have sz:=w.PS hk (by omega)
 have bd:=w.bd k hk.1 hk.2
 have ht:=h.turn E hk
 have hh:=h.hs k hk.1 hk.2
 have hhl:=h.hl
 have hEd:=E.d
 have hEn:=E.n
 have hEs:=E.size
 rw [eg] at R sz bd
 unfold session_party_run
 refine Ok.gd ⟨hk.1,by omega⟩ ?_
 by_cases hcan:CanGo (gi C.l k).p
 ·rw [(ready_p sz).2.2 V hcan,bsome,if_neg (by simp)]
  dsimp only
  obtain ⟨L,hp,hL,hcs,hS⟩:=R.ready V w.hist hcan
  have htd:tn C.l k ≤ d:=by
   have h1:=hS k hk.1 hk.2
   have h2:=h.sv k hk.1 hk.2
   show (gi C.l k).p.turn ≤ d
   omega
  obtain ⟨f,hf1⟩:=h.wl k hk.1 hk.2
  have hst:∃ a b,eng_Step (gi C.l k).w ((theseI (gi C.l k).p).flatMap (·.commands)) = some (a,b,⟨wf n d g (tn C.l k + 1),f⟩):=by
   rw [hf1,hcs]
   by_cases e:tn C.l k = d
   ·have cs:CsOk n (L.flatMap (·.commands)):=by
     refine flat_all (d:=d) hEn hp (fun x=>?_) fun y hy=>(w.hist.ok y ((hL y).1 hy).1).1
     rw [hL x,hH x]
     constructor
     ·rintro ⟨⟨i,h1,h2,h3⟩,h4⟩; exact ⟨i,h1,h3⟩
     ·rintro ⟨i,h1,h3⟩
      have h5:=hS (i - 1) (by omega) (by omega)
      have h6:=h.sv (i - 1) (by omega) (by omega)
      have e:(gi C.l k).p.turn = d:=e
      exact ⟨⟨i,h1,by omega,h3⟩,by rw [h3]; exact e.symm⟩
    obtain ⟨r,er,hr⟩:=stepU_q (f:=f) (t:=tn C.l k) E.gok (by omega) E.t0 ⟨hEn.1,by omega⟩ ⟨ht.1,by omega⟩ cs
    obtain ⟨a,b,e3⟩:=r
    have hr:e3 = _:=hr
    subst hr
    refine ⟨a,b,?_⟩
    rw [show wf n d g (tn C.l k) = qw n (tn C.l k) g by unfold wf; rw [if_pos htd],show wf n d g (tn C.l k + 1) = uw n (tn C.l k + 1) g by unfold wf; rw [if_neg (by omega)]]
    exact er
   ·have el:L.flatMap (·.commands) = []:=by
     rw [List.flatMap_eq_nil_iff]
     intro x hx
     obtain ⟨h1,h2⟩:=(hL x).1 hx
     obtain ⟨i,_,_,rfl⟩:=(hH x).1 h1
     exact absurd h2.symm e
    refine ⟨[],0,?_⟩
    rw [el,show wf n d g (tn C.l k) = qw n (tn C.l k) g by unfold wf; rw [if_pos htd],show wf n d g (tn C.l k + 1) = qw n (tn C.l k + 1) g by unfold wf; rw [if_pos (by omega)]]
    exact step_q (by omega) ⟨ht.1,by omega⟩
  obtain ⟨a,b,est⟩:=hst
  rw [est,bsome]
  dsimp only
  rw [world_wf E,bsome]
  obtain ⟨s,es⟩:=sum_wf (n:=n) (t:=tn C.l k + 1) E (by omega)
  rw [es,bsome]
  refine Ok.bindE (x:=if k = 0 then C.log ++ [⟨tn C.l k,(theseI (gi C.l k).p).flatMap (·.commands),s⟩] else C.log) ?_ ?_
  ·by_cases e:k = 0
   ·rw [if_pos e,if_pos e,if_pos (by have:=h.lg; have:=h.turn E (k:=0) ⟨by omega,by omega⟩; omega)]
   ·rw [if_neg e,if_neg e]
  rw [(ran_p sz).2.2 V hcan,bsome]
  have hg:∀ (z:One) (u:Int),0 ≤ u→gi (si C.l k z) u = if u = k then z else gi C.l u:=fun z u u0=>gi_siG ⟨hk.1,by omega⟩ u0
  refine Ok.gd ⟨hk.1,by omega⟩ (Ok.gd (by omega) (Ok.ret ⟨?_,fun v v0 v1 hne=>?_,?_,?_,fun _=>?_,fun e=>absurd rfl e⟩))
  ·refine h.put (z:=⟨ranP (gi C.l k).p s,⟨wf n d g (tn C.l k + 1),f⟩⟩) hk (w.put hk (ran_v V hcan) (R.ran V fun _=>?_) (ran_Bd bd) (Int.le_refl _)) hH h.sv ⟨f,rfl⟩ (by rw [len_si]; exact hhl) (fun v v0 v1=>?_) ?_ (fun j _ _=>Int.le_refl _) (fun j j0 j1 _=>h.ca k j hk.1 hk.2 j0 j1) ?_
   ·show s = hf n d g (tn C.l k)
    unfold hf
    rw [es]; rfl
   ·rw [gi_siG ⟨hk.1,by omega⟩ v0]
    by_cases e:v = k
    ·rw [if_pos e,if_pos e,List.length_append,Int.natCast_add,hh]; rfl
    ·rw [if_neg e,if_neg e]; exact h.hs v v0 v1
   ·by_cases e:k = 0
    ·rw [if_pos e,if_pos e.symm,List.length_append,Int.natCast_add,h.lg,e]; rfl
    ·rw [if_neg e,if_neg fun x=>e x.symm]; exact h.lg
   ·show gi (gi C.l k).p.acked k = gi (gi C.l k).p.has k
    have h1:=V.hme; have h2:=V.ame
    rw [F.id,show k + 1 - 1 = k by omega] at h1 h2
    rw [h1,h2]
  ·show (gi (si C.l k _) v).p = _
   rw [hg _ v v0,if_neg hne]
  ·show (gi (si C.l k _) k).p.has = _
   rw [hg _ k hk.1,if_pos rfl]; rfl
  ·show (gi (si C.l k _) k).p.acked = _
   rw [hg _ k hk.1,if_pos rfl]; rfl
  ·show (gi (si C.l k _) k).p.turn = _
   rw [hg _ k hk.1,if_pos rfl]; rfl
 ·rw [(ready_p sz).2.1 V hcan,bsome,if_pos (by simp)]
  refine Ok.ret ⟨h,fun v _ _ _=>rfl,rfl,rfl,fun e=>(by cases e),fun _=>⟨?_,rfl⟩⟩
  refine Classical.byContradiction fun hno=>hcan ⟨fun v v0 v1=>?_,?_⟩
  ·refine Int.not_lt.1 fun hlt=>hno ⟨v,⟨v0,by have:=F.pl; have:=V.hl; omega⟩,hlt⟩
  ·have h2:(gi C.l k).p.turn ≤ d + 1:=ht.2
   omega
theorem comes_o (E:OEnv n d g) (h:SJ n d g S c C way) (hm:m ∈ way) (hc:c ≤ 100000):Ok (session_party_comes C m) fun C'=>SJ n d g S (c + 1) C' way∧(∀ v:Int,0 ≤ v→v < n→tn C'.l v = tn C.l v)∧(∀ j i:Int,0 ≤ j→j < n→0 ≤ i→i < n→hz C.l j i ≤ hz C'.l j i)∧(m.input.turn = d→d ≤ hz C'.l (m.dst - 1) (m.frm - 1)):=by
 obtain ⟨H,w,hH⟩:=h.ex
 have hlen:=h.len
 have hw:=w.wy m hm
 have h1:=hw.ok.1; have h2:=hw.ds; have h3:=hw.fr
 have hk:0 ≤ m.dst - 1∧m.dst - 1 < n:=by omega
 have F:=h.pf hk
 have T:=w.take hw hk (by omega) (by omega)
 rw [gi_mapp ⟨hk.1,by omega⟩] at T
 unfold session_party_comes
 refine Ok.gd ⟨hk.1,by omega⟩ (Ok.gd (by unfold I64; omega) (Ok.gd ⟨hk.1,by omega⟩ ?_))
 rw [T.1,bsome,if_pos rfl]
 have hg:∀ (z:One) (u:Int),0 ≤ u→gi (si C.l (m.dst - 1) z) u = if u = m.dst - 1 then z else gi C.l u:=fun z u u0=>gi_siG ⟨hk.1,by omega⟩ u0
 have et:(takeP (gi C.l (m.dst - 1)).p m).turn = (gi C.l (m.dst - 1)).p.turn:=by
  show (ackP (inP _ _) _ _).turn = _
  unfold ackP inP
  split <;> split <;> rfl
 have hpl:=F.pl
 have hin:∀ j:Int,0 ≤ j→gi (gi C.l (m.dst - 1)).p.has j ≤ gi (takeP (gi C.l (m.dst - 1)).p m).has j∧(j = m.frm - 1→m.input.turn ≤ gi (gi C.l (m.dst - 1)).p.has j + 1→m.input.turn ≤ gi (takeP (gi C.l (m.dst - 1)).p m).has j):=fun j j0=>by
  rw [take_has]
  exact inP_has F.val ⟨h1.1.1,by omega⟩ j0
 refine Ok.gd (by unfold I64; omega) (Ok.gd ⟨hk.1,by omega⟩ (Ok.ret ⟨?_,fun v v0 v1=>?_,fun j i j0 j1 i0 i1=>?_,fun e=>?_⟩))
 ·have Vt:Val (takeP (gi C.l (m.dst - 1)).p m):=by
   have:=T.2.val (m.dst - 1) hk.1 hk.2
   rw [gi_put ⟨hk.1,by rw [List.length_map]; omega⟩ hk.1,if_pos rfl] at this
   exact this
  have It:(takeP (gi C.l (m.dst - 1)).p m).id = m.dst - 1 + 1:=by
   have:=(T.2.pr (m.dst - 1) hk.1 hk.2).id
   rw [gi_put ⟨hk.1,by rw [List.length_map]; omega⟩ hk.1,if_pos rfl] at this
   exact this
  refine h.put (z:=⟨takeP (gi C.l (m.dst - 1)).p m,(gi C.l (m.dst - 1)).w⟩) hk T.2 hH h.sv ?_ h.hl (fun v v0 v1=>?_) ?_ (fun j j0 _=>(hin j j0).1) (fun j j0 j1 hne=>?_) ?_
  ·obtain ⟨f,hf⟩:=h.wl _ hk.1 hk.2
   exact ⟨f,by rw [et]; exact hf⟩
  ·rw [h.hs v v0 v1]
   by_cases e:v = m.dst - 1
   ·rw [if_pos e,e]; exact et.symm
   ·rw [if_neg e]
  ·rw [h.lg]
   by_cases e:0 = m.dst - 1
   ·rw [if_pos e]
    show (gi C.l 0).p.turn = (takeP (gi C.l (m.dst - 1)).p m).turn
    rw [et,← e]
   ·rw [if_neg e]
  ·rcases take_acked (m:=m) F.val ⟨h1.1.1,by omega⟩ j0 with e | ⟨e1,e⟩
   ·show gi (takeP _ m).acked j ≤ _
    rw [e]; exact h.ca _ j hk.1 hk.2 j0 j1
   ·show gi (takeP _ m).acked j ≤ _
    rw [e,e1]; exact h.cw m hm
  ·have a1:=Vt.hme; have a2:=Vt.ame
   rw [It,show m.dst - 1 + 1 - 1 = m.dst - 1 by omega] at a1 a2
   show gi (takeP _ m).acked _ = gi (takeP _ m).has _
   rw [a1,a2]
 ·show (gi (si C.l _ _) v).p.turn = _
  rw [hg _ v v0]
  by_cases e:v = m.dst - 1
  ·rw [if_pos e,e]; exact et
  ·rw [if_neg e]
 ·show gi (gi C.l j).p.has i ≤ gi (gi (si C.l _ _) j).p.has i
  rw [hg _ j j0]
  by_cases e:j = m.dst - 1
  ·rw [if_pos e,e]; exact (hin i i0).1
  ·rw [if_neg e]; exact Int.le_refl _
 ·show d ≤ gi (gi (si C.l _ _) (m.dst - 1)).p.has (m.frm - 1)
  rw [hg _ _ hk.1,if_pos rfl]
  have h9:=(hin (m.frm - 1) (by omega)).2 rfl
  have h10:d - 1 ≤ gi (gi C.l (m.dst - 1)).p.has (m.frm - 1):=(F.lim (m.frm - 1) (by omega) (by omega)).1
  rw [e] at h9
  exact h9 (by omega)
end Go.Proofs.YtmngdgclldkcfaaGreat
