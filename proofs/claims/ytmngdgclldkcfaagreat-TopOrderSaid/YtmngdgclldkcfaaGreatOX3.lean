/-
  TopOrder as a plain function: each one's commands are done in the order of the players, at every peer. The conditions stand in each lemma.
-/
import Derived.Test.YtmngdgclldkcfaaGreatOX2
import Derived.Test.YtmngdgclldkcfaaGreatJ24
set_option linter.unusedVariables false
set_option linter.unusedSimpArgs false
namespace Go.Proofs.YtmngdgclldkcfaaGreat
open Go.Vg
open Go
theorem wakes_q:throngtop_wakes = some true:=by decide +kernel
theorem weight_q {l:List Cmd} (hl:l.length ≤ 140737488351232) (h:∀ c ∈ l,CmdG c):Ok (thronglaw0_CommandsWeight l) fun r=>0 ≤ r∧r ≤ 281474976710656:=by
 unfold thronglaw0_CommandsWeight
 refine Ok.bind (R:=fun r:Int=>0 ≤ r∧r ≤ 281474976710656) (Ok.loop (fun z:Int × Int=>(0 ≤ z.2∧z.2 ≤ l.length)∧0 ≤ z.1∧z.1 ≤ 281474976710656) (fun z=>(l.length - z.2).toNat) ⟨⟨by simp,by simp⟩,by dsimp only; omega,by dsimp only; omega⟩ (by unfold FUEL; dsimp only; omega) ?_) (fun x hx=>Ok.ret hx)
 rintro ⟨u,v⟩ ⟨⟨v0,v1⟩,u0,u1⟩
 dsimp only at v0 v1 u0 u1 ⊢
 refine Ok.ite (fun hv=>?_) (fun hv=>Ok.ret ⟨u0,u1⟩)
 have hc:(gi l v).units.length ≤ 140737488351232:=h _ (gi_mem ⟨v0,hv.1⟩)
 exact Ok.gd ⟨v0,hv.1⟩ (Ok.gd (by unfold I64; omega) (Ok.gd (by unfold I64; omega) (Ok.ret ⟨⟨⟨by show 0 ≤ v + 1; omega,by show v + 1 ≤ _; omega⟩,by show 0 ≤ u + _; omega,by show u + _ ≤ _; omega⟩,by show ((l.length:Int) - (v + 1)).toNat < ((l.length:Int) - v).toNat; omega⟩)))
theorem Cmd.Wf.G {c:Cmd} (h:Cmd.Wf c):CmdG c:=h.2.2.2.2.1.2
theorem heavy_q {x:Scr30} (hx:x.Wf):Ok (thronglaw30_Heavy x) fun r=>r = false→(x.l.length:Int) ≤ 100∧(x.g.tiles.length:Int) ≤ 200:=by
 have h1:=hx.2.2.2.2
 unfold thronglaw30_Heavy
 refine Ok.bind (R:=fun r:Int=>True) (Ok.loop (fun z:Int × Int=>(0 ≤ z.2∧z.2 ≤ x.l.length)∧0 ≤ z.1∧z.1 ≤ 562949953421312) (fun z=>(x.l.length - z.2).toNat) ⟨⟨by simp,by simp⟩,by simp,by simp⟩ (by have:=h1.2; unfold FUEL; dsimp only; omega) ?_) (fun v _=>Ok.ret fun e=>by have:=of_decide_eq_false e; omega)
 rintro ⟨u,v⟩ ⟨⟨v0,v1⟩,u0,u1⟩
 dsimp only at v0 v1 u0 u1 ⊢
 refine Ok.ite (fun hv=>Ok.gd ⟨v0,hv.1⟩ ?_) (fun hv=>Ok.ret trivial)
 have ha:=h1.1 _ (gi_mem ⟨v0,hv.1⟩)
 refine Ok.bind (weight_q ha.2.2.2.2.2 fun c hc=>(ha.2.2.2.2.1 c hc).G) fun r hr=>?_
 have h2:=h1.2
 exact Ok.gd (by unfold I64; omega) (Ok.gd (by unfold I64; omega) (Ok.ret ⟨⟨⟨by show 0 ≤ v + 1; omega,by show v + 1 ≤ _; omega⟩,by show 0 ≤ u + r; omega,by show u + r ≤ _; omega⟩,by show ((x.l.length:Int) - (v + 1)).toNat < ((x.l.length:Int) - v).toNat; omega⟩))
structure MayT (x:Scr30):Prop where
 g:GOk x.g
 size:(x.g.tiles.length:Int) ≤ 200
 n:1 ≤ x.players∧x.players ≤ 8
 d:1 ≤ x.delay∧x.delay ≤ 8
 room:1 ≤ x.room∧x.room ≤ 4096
theorem may_t {x:Scr30} (hx:x.Wf) (hl:x.g.tiles.length ≤ 9223372036854775806):Ok (throngtop_may x) fun r=>r = true→MayT x:=by
 unfold throngtop_may
 refine Ok.bind (heavy_q hx) fun hv hh=>?_
 refine Ok.bind (R:=fun r=>r = true→GOk x.g∧(x.g.tiles.length:Int) ≤ 200) ?_ fun b hb=>?_
 ·refine Ok.ite (fun e=>?_) (fun e=>Ok.ret fun e=>(by cases e))
  obtain ⟨r,er,hr⟩:=mayR_g hl
  rw [er]
  refine Ok.ret fun e2=>⟨hr.1 e2,(hh ?_).2⟩
  cases hv
  ·rfl
  ·cases e
 ·refine Ok.bind (R:=fun r=>r = true→MayT x) (Ok.ite (fun h=>?_) (fun h=>Ok.ret fun e=>(by cases e))) fun r hr=>Ok.ret hr
  obtain ⟨⟨⟨⟨h1,h2⟩,h3⟩,h4⟩,h5⟩:=h
  refine Ok.ret fun e=>⟨(hb h1).1,(hb h1).2,⟨h2,h3⟩,⟨h4,h5⟩,?_⟩
  exact of_decide_eq_true e
theorem within2_p {a n:Int} (hn:1 ≤ n∧n ≤ 1000000):Ok (thronglaw0_Within a n) fun x=>0 ≤ x∧x < n:=by
 unfold thronglaw0_Within
 have h0:0 ≤ a % 18446744073709551616:=Int.emod_nonneg _ (by decide)
 have h1:n % 18446744073709551616 = n:=Int.emod_eq_of_lt (by omega) (by omega)
 rw [h1]
 have h2:0 ≤ a % 18446744073709551616 % n:=Int.emod_nonneg _ (by omega)
 have h3:a % 18446744073709551616 % n < n:=Int.emod_lt_of_pos _ (by omega)
 exact Ok.gd ⟨h0,hn.1⟩ (Ok.gd (by unfold I64; omega) (Ok.ret ⟨h2,h3⟩))
variable {n d c c' k q:Int} {g:Grd} {S:Int→Int} {C:Pty} {P:Par} {way way':List Nte} {m:Nte}
def raw2:List Cmd:=[spw 0 1,spw 0 2]
def two (k:Int):List Cmd:=[spw k 1,spw k 2]
theorem two_S {k:Int}:(two k).length ≤ 1000000∧∀ y ∈ two k,CmdS y:=by
 refine ⟨by show 2 ≤ 1000000; decide,fun y hy=>?_⟩
 have key:∀ j:Int,CmdS (spw k j):=fun j=>by show ([]:List Int).length ≤ _; simp
 rcases List.mem_cons.1 hy with e | e
 ·rw [e]; exact key 1
 ·rw [List.mem_singleton.1 e]; exact key 2
theorem two_ok {k:Int} (hk:1 ≤ k∧k ≤ 8):SaidOk k (two k):=by
 refine ⟨by show (2:Int) ≤ 64; decide,fun v v0 v1=>?_⟩
 have v1:v < 2:=v1
 have key:∀ j:Int,1 ≤ j∧j ≤ 1000→cmdOk (spw k j) = true:=fun j hj=>by
  unfold cmdOk
  rw [spw_may hk hj]; rfl
 obtain e | e:v = 0 ∨ v = 1:=by omega
 ·subst e
  exact ⟨⟨key 1 (by decide),rfl⟩,fun h=>by omega⟩
 ·subst e
  exact ⟨⟨key 2 (by decide),rfl⟩,fun _=>by show (1:Int) < 2; decide⟩
theorem say_o (E:OEnv n d g) (h:SJ n d g S c C way) (hk:0 ≤ k∧k < n) (hc:c ≤ 100000) (hs:S k = d - 1) (ht:1 ≤ tn C.l k):Ok (session_party_say C k raw2) fun C'=>SJ n d g (bump S k) (c + 1) C' way∧∀ v:Int,0 ≤ v→v < n→tn C'.l v = tn C.l v:=by
 obtain ⟨H,w,hH⟩:=h.ex
 have hlen:=h.len
 have hEn:=E.n
 have F:=h.pf hk
 have V:=w.val k hk.1 hk.2
 have sz:=w.PS hk (by omega)
 have eg:=gi_mapp (l:=C.l) (v:=k) ⟨hk.1,by omega⟩
 have hid:=F.id; have hown:=F.own; have hdl:=F.dl; have hpl:=F.pl
 unfold session_party_say
 rw [ownCs_p (l:=raw2) (two_S (k:=0)).1 (two_S (k:=0)).2,bsome]
 refine Ok.bind (R:=fun l=>l = two (k + 1)) (Ok.loop (fun z:Int × List Cmd=>(0 ≤ z.1∧z.1 ≤ 2)∧z.2 = if z.1 = 0 then raw2 else if z.1 = 1 then [spw (k + 1) 1,spw 0 2] else two (k + 1)) (fun z=>(2 - z.1).toNat) ⟨⟨by simp,by simp⟩,rfl⟩ (by unfold FUEL; dsimp only; omega) ?_) ?_
 ·rintro ⟨v,l⟩ ⟨⟨v0,v1⟩,hl⟩
  dsimp only at v0 v1 hl ⊢
  rw [show ((raw2.length:Nat):Int) = 2 by rfl]
  refine Ok.ite (fun hv=>Ok.gd (by unfold I64; omega) (Ok.gd ⟨v0,hv⟩ (Ok.gd (by unfold I64; omega) (Ok.ret ⟨⟨⟨by show 0 ≤ v + 1; omega,by show v + 1 ≤ 2; omega⟩,?_⟩,by show (2 - (v + 1)).toNat < (2 - v).toNat; omega⟩)))) (fun hv=>Ok.ret (by show l = _; rw [hl,if_neg (by omega),if_neg (by omega)]))
  obtain e | e:v = 0 ∨ v = 1:=by omega
  ·subst e
   rw [hl]; rfl
  ·subst e
   rw [hl]; rfl
 rintro l rfl
 refine Ok.gd ⟨hk.1,by omega⟩ ?_
 have so:SaidOk (gi (C.l.map One.p) k).id (two (k + 1)):=by rw [eg,hid]; exact two_ok ⟨by omega,by omega⟩
 have hsh:¬ Shut (gi (C.l.map One.p) k):=by
  rw [eg]
  have ht:1 ≤ (gi C.l k).p.turn:=ht
  have hEd:=E.d
  rintro (e | e) <;> omega
 have:=(say_p (l:=two (k + 1)) sz two_S.1 two_S.2).2.2.2 V hsh so
 have W:=w.say hk (by omega) hsh so two_S
 rw [eg] at this W
 rw [this,bsome,if_pos rfl]
 have einp:inpOf (gi C.l k).p (two (k + 1)) = inp d (k + 1):=by
  show (⟨(gi C.l k).p.said + 1,(gi C.l k).p.id,two (k + 1)⟩:Inp) = ⟨d,k + 1,two (k + 1)⟩
  rw [hid,show (gi C.l k).p.said + 1 = d by omega]
 have V1:=F.val
 have hhl:=V1.hl; have hal:=V1.al
 have hid1:(gi C.l k).p.id - 1 = k:=by omega
 have hme:=V1.hme; have ame:=V1.ame
 rw [hid1] at hme ame
 refine Ok.gd ⟨hk.1,by omega⟩ (Ok.ret ⟨?_,fun v v0 v1=>?_⟩)
 ·refine h.put (z:=⟨sayP (gi C.l k).p (two (k + 1)),(gi C.l k).w⟩) hk W (fun x=>?_) (fun j j0 j1=>?_) (h.wl k hk.1 hk.2) h.hl (fun v v0 v1=>?_) ?_ (fun j j0 j1=>?_) (fun j j0 j1 hne=>?_) ?_
  ·rw [einp,List.mem_append,List.mem_singleton,hH x]
   constructor
   ·rintro (⟨i,h1,h2,h3⟩ | h3)
    ·refine ⟨i,h1,?_,h3⟩
     unfold bump
     rw [if_neg (fun e=>by rw [e,hs] at h2; omega)]; exact h2
    ·exact ⟨k + 1,by omega,by rw [show k + 1 - 1 = k by omega,bump_self]; omega,h3⟩
   ·rintro ⟨i,h1,h2,h3⟩
    by_cases e:i = k + 1
    ·right; rw [h3,e]
    ·left
     unfold bump at h2
     rw [if_neg (by omega)] at h2
     exact ⟨i,h1,h2,h3⟩
  ·unfold bump
   by_cases e:j = k
   ·rw [if_pos e]; right; omega
   ·rw [if_neg e]; exact h.sv j j0 j1
  ·rw [h.hs v v0 v1]
   by_cases e:v = k
   ·rw [if_pos e,e]; rfl
   ·rw [if_neg e]
  ·rw [h.lg]
   by_cases e:0 = k
   ·rw [if_pos e,← e]; rfl
   ·rw [if_neg e]
  ·show gi (gi C.l k).p.has j ≤ gi (si (gi C.l k).p.has ((gi C.l k).p.id - 1) ((gi C.l k).p.said + 1)) j
   rw [hid1,gi_siI ⟨hk.1,by omega⟩ j0]
   by_cases e:j = k
   ·rw [if_pos e,e,hme]; omega
   ·rw [if_neg e]; exact Int.le_refl _
  ·show gi (si (gi C.l k).p.acked ((gi C.l k).p.id - 1) ((gi C.l k).p.said + 1)) j ≤ _
   rw [hid1,gi_siI ⟨hk.1,by omega⟩ j0,if_neg hne]
   exact h.ca k j hk.1 hk.2 j0 j1
  ·show gi (si (gi C.l k).p.acked ((gi C.l k).p.id - 1) ((gi C.l k).p.said + 1)) k = gi (si (gi C.l k).p.has ((gi C.l k).p.id - 1) ((gi C.l k).p.said + 1)) k
   rw [hid1,gi_siI ⟨hk.1,by omega⟩ hk.1,gi_siI ⟨hk.1,by omega⟩ hk.1,if_pos rfl,if_pos rfl]
 ·show (gi (si C.l k _) v).p.turn = _
  rw [gi_siG ⟨hk.1,by omega⟩ v0]
  by_cases e:v = k
  ·rw [if_pos e,e]; rfl
  ·rw [if_neg e]
abbrev Sent (d u j:Int) (m:List Nte):Prop:=∃ x ∈ m,x.frm = u + 1∧x.dst = j + 1∧x.input.turn = d
structure TickR (n d:Int) (S:Int→Int) (k:Int) (P P':Par):Prop where
 ln:P'.m.length ≤ P.m.length + 4
 oth:∀ v:Int,0 ≤ v→v < n→¬ v = k→(gi P'.c.l v).p = (gi P.c.l v).p
 has:(gi P'.c.l k).p.has = (gi P.c.l k).p.has
 up:tn P.c.l k ≤ tn P'.c.l k
 p1:d ≤ tn P'.c.l k ∨ tn P.c.l k + 4 ≤ tn P'.c.l k
 p2:(∀ j:Int,0 ≤ j→j < n→d ≤ hz P.c.l k j)→d + 1 ≤ tn P'.c.l k ∨ tn P.c.l k + 4 ≤ tn P'.c.l k
 old:∀ x ∈ P.m,x ∈ P'.m
 snd:S k = d→∀ j:Int,0 ≤ j→j < n→¬ j = k→d ≤ hz P.c.l j k ∨ Sent d k j P'.m
theorem tick_o (E:OEnv n d g) (h:SJ n d g S c P.c P.m) (hk:0 ≤ k∧k < n) (hc:c ≤ 100000) (hm:P.m.length ≤ 1000):Ok (session_party_tick P k) fun P'=>SJ n d g S c P'.c P'.m∧TickR n d S k P P':=by
 obtain ⟨H,w,hH⟩:=h.ex
 have hlen:=h.len
 have F:=h.pf hk
 have V:=w.val k hk.1 hk.2
 have sz:=w.PS hk (by omega)
 have nt:=w.notes hk (by omega)
 have eg:=gi_mapp (l:=P.c.l) (v:=k) ⟨hk.1,by omega⟩
 rw [eg] at V sz nt
 have hln:=notesTo_len (gi P.c.l k).p (gi P.c.l k).p.players.toNat
 have hpl:=F.pl; have hid:=F.id; have hown:=F.own
 have hEn:=E.n
 have hmem:∀ x ∈ notesTo (gi P.c.l k).p (gi P.c.l k).p.players.toNat,x.hav ≤ hz P.c.l (x.frm - 1) (x.dst - 1):=fun x hx=>by
  obtain ⟨i,_,_,rfl⟩:=notes_mem _ hx
  show gi (gi P.c.l k).p.has (i - 1) ≤ gi (gi P.c.l ((gi P.c.l k).p.id - 1)).p.has (i - 1)
  rw [hid,show k + 1 - 1 = k by omega]; exact Int.le_refl _
 have hsn:S k = d→∀ j:Int,0 ≤ j→j < n→¬ j = k→d ≤ hz P.c.l j k ∨ Sent d k j (notesTo (gi P.c.l k).p (gi P.c.l k).p.players.toNat):=fun hSk j j0 j1 hne=>by
  by_cases ha:gi (gi P.c.l k).p.acked j < (gi P.c.l k).p.said
  ·right
   refine ⟨noteFor (gi P.c.l k).p (j + 1),mem_notes _ ⟨by omega,by omega⟩ (by omega),hid,rfl,?_⟩
   have h1:=inpFor_turn V (k:=j + 1) ⟨by omega,by omega⟩ (by rw [show j + 1 - 1 = j by omega]; exact ha)
   have h2:=(V.av j j0 (by omega)).1
   rw [show j + 1 - 1 = j by omega] at h1
   show (inpFor (gi P.c.l k).p (j + 1)).turn = d
   have:=F.dl
   omega
  ·left
   have h1:gi (gi P.c.l k).p.acked j ≤ hz P.c.l j k:=h.ca k j hk.1 hk.2 j0 j1
   omega
 unfold session_party_tick
 refine Ok.gd ⟨hk.1,by omega⟩ ?_
 rw [(notesP_p sz).2 V,bsome]
 dsimp only
 generalize notesTo (gi P.c.l k).p (gi P.c.l k).p.players.toNat = nts at nt hln hmem hsn
 refine Ok.gd (by omega) ?_
 refine Ok.bind (Ok.loop (fun z:Int × Par=>(0 ≤ z.1∧z.1 ≤ 4)∧SJ n d g S c z.2.c z.2.m∧z.2.m = P.m ++ nts∧(∀ v:Int,0 ≤ v→v < n→¬ v = k→(gi z.2.c.l v).p = (gi P.c.l v).p)∧(gi z.2.c.l k).p.has = (gi P.c.l k).p.has∧tn z.2.c.l k = tn P.c.l k + z.1) (fun z=>(4 - z.1).toNat) ⟨⟨by simp,by simp⟩,?_,rfl,fun v _ _ _=>rfl,rfl,by simp⟩ (by unfold FUEL; dsimp only; omega) ?_) (fun x hx=>Ok.ret hx)
 ·exact ⟨⟨H,w.ways fun m hm=>(List.mem_append.1 hm).elim (w.wy m) (nt m),hH⟩,h.sv,h.wl,h.hl,h.hs,h.lg,h.ca,fun m hm=>(List.mem_append.1 hm).elim (h.cw m) (hmem m)⟩
 ·rintro ⟨v,Z⟩ ⟨⟨v0,v1⟩,hS,hmm,ho,hh,ht⟩
  dsimp only at v0 v1 hS hmm ho hh ht ⊢
  have hlm:Z.m.length ≤ P.m.length + 4:=by rw [hmm,List.length_append]; omega
  have hold:∀ x ∈ P.m,x ∈ Z.m:=fun x hx=>by rw [hmm]; exact List.mem_append_left _ hx
  have hsn2:S k = d→∀ j:Int,0 ≤ j→j < n→¬ j = k→d ≤ hz P.c.l j k ∨ Sent d k j Z.m:=fun e j j0 j1 hne=>(hsn e j j0 j1 hne).imp id fun ⟨x,hx,y⟩=>⟨x,by rw [hmm]; exact List.mem_append_right _ hx,y⟩
  refine Ok.ite (fun hv=>?_) (fun hv=>Ok.ret ⟨hS,hlm,ho,hh,by omega,.inr (by omega),fun _=>.inr (by omega),hold,hsn2⟩)
  refine Ok.bind (run_o E hS hk hc) fun r hr=>?_
  obtain ⟨r1,r2,r3,r4,r5,r6⟩:=hr
  refine Ok.ite (fun hb=>Ok.gd (by unfold I64; omega) (Ok.ret ⟨⟨⟨by show 0 ≤ v + 1; omega,by show v + 1 ≤ 4; omega⟩,r1,hmm,fun u u0 u1 hu=>(r2 u u0 u1 hu).trans (ho u u0 u1 hu),r3.trans hh,by have:=r5 hb; show tn r.2.l k = tn P.c.l k + (v + 1); omega⟩,by show (4 - (v + 1)).toNat < (4 - v).toNat; omega⟩)) (fun hb=>Ok.ret ?_)
  obtain ⟨⟨j,hj,h1⟩,h2⟩:=r6 hb
  have hzj:hz Z.c.l k j = hz P.c.l k j:=by show gi (gi Z.c.l k).p.has j = _; rw [hh]
  have h3:d - 1 ≤ hz Z.c.l k j:=((hS.pf hk).lim j hj.1 hj.2).1
  refine ⟨r1,hlm,fun u u0 u1 hu=>(r2 u u0 u1 hu).trans (ho u u0 u1 hu),r3.trans hh,?_,?_,fun ha=>?_,hold,hsn2⟩
  ·show tn P.c.l k ≤ tn r.2.l k; rw [h2]; omega
  ·left; show d ≤ tn r.2.l k; rw [h2]; omega
  ·left
   have:=ha j hj.1 hj.2
   show d + 1 ≤ tn r.2.l k; rw [h2]; omega
structure CalmR (n d:Int) (S:Int→Int) (P P':Par):Prop where
 none:P'.m = []
 up:∀ v:Int,0 ≤ v→v < n→tn P.c.l v ≤ tn P'.c.l v
 p1:∀ v:Int,0 ≤ v→v < n→d ≤ tn P'.c.l v ∨ tn P.c.l v + 4 ≤ tn P'.c.l v
 p2:∀ v:Int,0 ≤ v→v < n→(∀ j:Int,0 ≤ j→j < n→d ≤ hz P.c.l v j)→d + 1 ≤ tn P'.c.l v ∨ tn P.c.l v + 4 ≤ tn P'.c.l v
 got:∀ u j:Int,0 ≤ u→u < n→0 ≤ j→j < n→S u = d→d ≤ hz P'.c.l j u
theorem calm_o (E:OEnv n d g) (h:SJ n d g S c P.c P.m) (hm:P.m.length ≤ 40) (hc:c ≤ 50000):Ok (session_party_calm P) fun P'=>SJ n d g S (c + 60) P'.c P'.m∧CalmR n d S P P':=by
 have hlen:=h.len
 have hEn:=E.n
 unfold session_party_calm
 refine Ok.bind (R:=fun Z:Par=>SJ n d g S c Z.c Z.m∧Z.m.length ≤ 56∧(∀ u:Int,0 ≤ u→u < n→(gi Z.c.l u).p.has = (gi P.c.l u).p.has)∧(∀ u:Int,0 ≤ u→u < n→TickR n d S u ⟨P.c,[]⟩ ⟨Z.c,[]⟩ ∨ (tn P.c.l u ≤ tn Z.c.l u∧(d ≤ tn Z.c.l u ∨ tn P.c.l u + 4 ≤ tn Z.c.l u)∧((∀ j:Int,0 ≤ j→j < n→d ≤ hz P.c.l u j)→d + 1 ≤ tn Z.c.l u ∨ tn P.c.l u + 4 ≤ tn Z.c.l u)))∧∀ u:Int,0 ≤ u→u < n→S u = d→∀ j:Int,0 ≤ j→j < n→¬ j = u→d ≤ hz P.c.l j u ∨ Sent d u j Z.m)
  (Ok.loop (fun z:Int × Par=>(0 ≤ z.1∧z.1 ≤ n)∧SJ n d g S c z.2.c z.2.m∧(z.2.m.length:Int) ≤ 40 + 4 * z.1∧(∀ u:Int,0 ≤ u→u < n→(gi z.2.c.l u).p.has = (gi P.c.l u).p.has)∧(∀ u:Int,0 ≤ u→u < n→z.1 ≤ u→(gi z.2.c.l u).p = (gi P.c.l u).p) ∧
   (∀ u:Int,0 ≤ u→u < z.1→tn P.c.l u ≤ tn z.2.c.l u∧(d ≤ tn z.2.c.l u ∨ tn P.c.l u + 4 ≤ tn z.2.c.l u)∧((∀ j:Int,0 ≤ j→j < n→d ≤ hz P.c.l u j)→d + 1 ≤ tn z.2.c.l u ∨ tn P.c.l u + 4 ≤ tn z.2.c.l u)) ∧
   ∀ u:Int,0 ≤ u→u < z.1→S u = d→∀ j:Int,0 ≤ j→j < n→¬ j = u→d ≤ hz P.c.l j u ∨ Sent d u j z.2.m) (fun z=>(n - z.1).toNat) ⟨⟨by simp,by show 0 ≤ n; omega⟩,h,by show (P.m.length:Int) ≤ 40 + 4 * 0; omega,fun _ _ _=>rfl,fun _ _ _ _=>rfl,fun u u0 u1=>by have u1:u < 0:=u1; omega,fun u u0 u1=>by have u1:u < 0:=u1; omega⟩ (by unfold FUEL; dsimp only; omega) ?_) ?_
 ·rintro ⟨v,Z⟩ ⟨⟨v0,v1⟩,hS,hlm,hh,ho,hd,hs⟩
  dsimp only at v0 v1 hS hlm hh ho hd hs ⊢
  have hlz:=hS.len
  refine Ok.ite (fun hv=>?_) (fun hv=>Ok.ret ⟨hS,by omega,hh,fun u u0 u1=>.inr (hd u u0 (by omega)),fun u u0 u1=>hs u u0 (by omega)⟩)
  refine Ok.bind (tick_o E hS ⟨v0,by omega⟩ (by omega) (by omega)) fun r hr=>?_
  obtain ⟨r1,R⟩:=hr
  have et:tn Z.c.l v = tn P.c.l v:=by show (gi Z.c.l v).p.turn = _; rw [ho v v0 (by omega) (Int.le_refl _)]
  have eh:∀ u j:Int,0 ≤ u→u < n→hz Z.c.l u j = hz P.c.l u j:=fun u j u0 u1=>by show gi (gi Z.c.l u).p.has j = _; rw [hh u u0 u1]
  refine Ok.gd (by unfold I64; omega) (Ok.ret ⟨⟨⟨by show 0 ≤ v + 1; omega,by show v + 1 ≤ n; omega⟩,r1,by have:=R.ln; show (r.m.length:Int) ≤ 40 + 4 * (v + 1); omega,fun u u0 u1=>?_,fun u u0 u1 u2=>?_,fun u u0 u1=>?_,fun u u0 u1 hSu j j0 j1 hne=>?_⟩,by show (n - (v + 1)).toNat < (n - v).toNat; omega⟩)
  ·show (gi r.c.l u).p.has = _
   by_cases e:u = v
   ·rw [e,R.has]; exact hh v v0 (by omega)
   ·rw [R.oth u u0 u1 e]; exact hh u u0 u1
  ·have u2:v + 1 ≤ u:=u2
   exact (R.oth u u0 u1 (by omega)).trans (ho u u0 u1 (by omega))
  ·have u1:u < v + 1:=u1
   show tn P.c.l u ≤ tn r.c.l u∧(d ≤ tn r.c.l u ∨ tn P.c.l u + 4 ≤ tn r.c.l u)∧(_→d + 1 ≤ tn r.c.l u ∨ tn P.c.l u + 4 ≤ tn r.c.l u)
   by_cases e:u = v
   ·rw [e,← et]
    exact ⟨R.up,R.p1,fun ha=>R.p2 fun j j0 j1=>by rw [eh v j v0 (by omega)]; exact ha j j0 j1⟩
   ·have e2:tn r.c.l u = tn Z.c.l u:=by show (gi r.c.l u).p.turn = _; rw [R.oth u u0 (by omega) e]
    rw [e2]
    exact hd u u0 (by omega)
  ·have u1:u < v + 1:=u1
   by_cases e:u = v
   ·rw [e] at hSu hne ⊢
    rw [← eh j v j0 j1]
    exact R.snd hSu j j0 j1 hne
   ·exact (hs u u0 (by omega) hSu j j0 j1 hne).imp id fun ⟨x,hx,y⟩=>⟨x,R.old x hx,y⟩
 ·rintro Z ⟨hS,hlm,hh,hd,hs⟩
  have hlz:=hS.len
  refine Ok.bind (R:=fun X:Pty=>SJ n d g S (c + 60) X Z.m∧(∀ u:Int,0 ≤ u→u < n→tn X.l u = tn Z.c.l u)∧(∀ j i:Int,0 ≤ j→j < n→0 ≤ i→i < n→hz Z.c.l j i ≤ hz X.l j i)∧∀ x ∈ Z.m,x.input.turn = d→d ≤ hz X.l (x.dst - 1) (x.frm - 1))
   (Ok.loop (fun z:Int × Pty=>(0 ≤ z.1∧z.1 ≤ Z.m.length)∧SJ n d g S (c + z.1) z.2 Z.m∧(∀ u:Int,0 ≤ u→u < n→tn z.2.l u = tn Z.c.l u)∧(∀ j i:Int,0 ≤ j→j < n→0 ≤ i→i < n→hz Z.c.l j i ≤ hz z.2.l j i)∧∀ i:Int,0 ≤ i→i < z.1→(gi Z.m i).input.turn = d→d ≤ hz z.2.l ((gi Z.m i).dst - 1) ((gi Z.m i).frm - 1)) (fun z=>(Z.m.length - z.1).toNat) ⟨⟨by simp,by simp⟩,by show SJ n d g S (c + 0) _ _; rw [Int.add_zero]; exact hS,fun _ _ _=>rfl,fun _ _ _ _ _ _=>Int.le_refl _,fun i i0 i1=>by have i1:i < 0:=i1; omega⟩ (by unfold FUEL; dsimp only; omega) ?_) ?_
  ·rintro ⟨v,X⟩ ⟨⟨v0,v1⟩,hX,hX2,hX3,hX4⟩
   dsimp only at v0 v1 hX hX2 hX3 hX4 ⊢
   refine Ok.ite (fun hv=>Ok.gd ⟨v0,hv⟩ ?_) (fun hv=>Ok.ret ⟨hX.mono (by omega),hX2,hX3,fun x hx e=>?_⟩)
   ·refine Ok.bind (comes_o E hX (gi_mem ⟨v0,hv⟩) (by omega)) fun r hr=>?_
    obtain ⟨r1,r2,r3,r4⟩:=hr
    refine Ok.gd (by unfold I64; omega) (Ok.ret ⟨⟨⟨by show 0 ≤ v + 1; omega,by show v + 1 ≤ _; omega⟩,by show SJ n d g S (c + (v + 1)) r Z.m; rw [← Int.add_assoc]; exact r1,fun u u0 u1=>(r2 u u0 u1).trans (hX2 u u0 u1),fun j i j0 j1 i0 i1=>Int.le_trans (hX3 j i j0 j1 i0 i1) (r3 j i j0 j1 i0 i1),fun i i0 i1 e=>?_⟩,by show ((Z.m.length:Int) - (v + 1)).toNat < ((Z.m.length:Int) - v).toNat; omega⟩)
    have i1:i < v + 1:=i1
    by_cases e2:i = v
    ·rw [e2] at e ⊢; exact r4 e
    ·obtain ⟨H,w,_⟩:=hX.ex
     have W:=w.wy (gi Z.m i) (gi_mem ⟨i0,by omega⟩)
     have o1:=W.ok.1; have o2:=W.fr; have o3:=W.ds
     exact Int.le_trans (hX4 i i0 (by omega) e) (r3 _ _ (by omega) (by omega) (by omega) (by omega))
   ·obtain ⟨i,hi,rfl⟩:=List.getElem_of_mem hx
    have e9:gi Z.m (i:Int) = Z.m[i]:=by simp [gi,hi]
    have:=hX4 (i:Int) (by omega) (by omega)
    rw [e9] at this
    exact this e
  ·rintro X ⟨hX,hX2,hX3,hX4⟩
   refine Ok.ret ⟨hX.less fun m hm=>(by cases hm),rfl,fun v v0 v1=>?_,fun v v0 v1=>?_,fun v v0 v1 ha=>?_,fun u j u0 u1 j0 j1 hSu=>?_⟩
   ·show _ ≤ tn X.l v
    rw [hX2 v v0 v1]
    exact (hd v v0 v1).elim (fun R=>R.up) fun R=>R.1
   ·show _ ≤ tn X.l v ∨ _ ≤ tn X.l v
    rw [hX2 v v0 v1]
    exact (hd v v0 v1).elim (fun R=>R.p1) fun R=>R.2.1
   ·show _ ≤ tn X.l v ∨ _ ≤ tn X.l v
    rw [hX2 v v0 v1]
    exact (hd v v0 v1).elim (fun R=>R.p2 ha) fun R=>R.2.2 ha
   ·show d ≤ hz X.l j u
    by_cases e:j = u
    ·have F:=hX.pf ⟨u0,u1⟩
     have h1:=F.val.hme
     rw [F.id,show u + 1 - 1 = u by omega,F.own,hSu] at h1
     rw [e]
     show d ≤ gi (gi X.l u).p.has u
     omega
    ·rcases hs u u0 u1 hSu j j0 j1 e with h1 | ⟨x,hx,x1,x2,x3⟩
     ·have h2:=hX3 j u j0 j1 u0 u1
      have h3:hz Z.c.l j u = hz P.c.l j u:=by show gi (gi Z.c.l j).p.has u = _; rw [hh j j0 j1]
      omega
     ·have h2:=hX4 x hx x3
      rw [x1,x2,show j + 1 - 1 = j by omega,show u + 1 - 1 = u by omega] at h2
      exact h2
theorem act_calm (E:OEnv n d g) {N:Int} (h:SJ n d g S c P.c P.m) (hm:P.m.length ≤ 40) (hc:c ≤ 40000) (hN:1 ≤ N∧N ≤ 60):Ok (session_party_act P ⟨6,0,N,0,[]⟩) fun P'=>SJ n d g S (c + 60 * N) P'.c P'.m∧P'.m = []∧(∀ v:Int,0 ≤ v→v < n→d ≤ tn P'.c.l v ∨ 4 * N ≤ tn P'.c.l v)∧((∀ j:Int,0 ≤ j→j < n→S j = d)→∀ v:Int,0 ≤ v→v < n→d + 1 ≤ tn P'.c.l v ∨ 4 * (N - 1) ≤ tn P'.c.l v):=by
 have hlen:=h.len
 have hEn:=E.n
 unfold session_party_act
 rw [if_neg (by show ¬ (6:Int) = 1; decide),if_neg (by show ¬ (6:Int) = 2; decide)]
 refine Ok.bindE (x:=false) (by rw [if_neg (by show ¬ (6:Int) = 3; decide),if_neg (by show ¬ (6:Int) = 4; decide)]; rfl) ?_
 rw [if_neg (by simp),if_pos rfl]
 refine Ok.bind (R:=fun Z:Par=>SJ n d g S (c + 60 * N) Z.c Z.m∧Z.m = []∧(∀ v:Int,0 ≤ v→v < n→d ≤ tn Z.c.l v ∨ 4 * N ≤ tn Z.c.l v)∧((∀ j:Int,0 ≤ j→j < n→S j = d)→∀ v:Int,0 ≤ v→v < n→d + 1 ≤ tn Z.c.l v ∨ 4 * (N - 1) ≤ tn Z.c.l v))
  (Ok.loop (fun z:Int × Par=>(0 ≤ z.1∧z.1 ≤ N)∧SJ n d g S (c + 60 * (N - z.1)) z.2.c z.2.m∧z.2.m.length ≤ 40∧(z.1 < N→z.2.m = [])∧(∀ v:Int,0 ≤ v→v < n→d ≤ tn z.2.c.l v ∨ 4 * (N - z.1) ≤ tn z.2.c.l v)∧((∀ j:Int,0 ≤ j→j < n→S j = d)→z.1 < N→(∀ j u:Int,0 ≤ j→j < n→0 ≤ u→u < n→d ≤ hz z.2.c.l j u)∧∀ v:Int,0 ≤ v→v < n→d + 1 ≤ tn z.2.c.l v ∨ 4 * (N - z.1 - 1) ≤ tn z.2.c.l v)) (fun z=>z.1.toNat)
   ⟨⟨by show 0 ≤ N; omega,by show N ≤ N; omega⟩,h.mono (by show c ≤ c + 60 * (N - N); omega),hm,fun e=>by have e:N < N:=e; omega,fun v v0 v1=>.inr (by have:=(h.turn E ⟨v0,v1⟩).1; show 4 * (N - N) ≤ tn P.c.l v; omega),fun _ e=>by have e:N < N:=e; omega⟩ (by unfold FUEL; dsimp only; omega) ?_) fun Z hZ=>Ok.ret hZ
 rintro ⟨r,Z⟩ ⟨⟨r0,r1⟩,hS,hlm,hnil,hp,hq⟩
 dsimp only at r0 r1 hS hlm hnil hp hq ⊢
 refine Ok.ite (fun hv=>?_) (fun hv=>Ok.ret ?_)
 ·refine Ok.bind (calm_o E hS hlm (by omega)) fun Y hY=>?_
  obtain ⟨y1,R⟩:=hY
  refine Ok.gd (by unfold I64; omega) (Ok.ret ⟨⟨⟨by show 0 ≤ r - 1; omega,by show r - 1 ≤ N; omega⟩,y1.mono (by show _ ≤ c + 60 * (N - (r - 1)); omega),by show Y.m.length ≤ 40; rw [R.none]; simp,fun _=>R.none,fun v v0 v1=>?_,fun hall hlt=>⟨fun j u j0 j1 u0 u1=>R.got u j u0 u1 j0 j1 (hall u u0 u1),fun v v0 v1=>?_⟩⟩,by show (r - 1).toNat < r.toNat; omega⟩)
  ·have a1:=R.p1 v v0 v1; have a2:=R.up v v0 v1; have a3:=hp v v0 v1
   show d ≤ tn Y.c.l v ∨ 4 * (N - (r - 1)) ≤ tn Y.c.l v
   omega
  ·show d + 1 ≤ tn Y.c.l v ∨ 4 * (N - (r - 1) - 1) ≤ tn Y.c.l v
   by_cases e:r < N
   ·obtain ⟨b1,b2⟩:=hq hall e
    have a1:=R.p2 v v0 v1 fun j j0 j1=>b1 v j v0 v1 j0 j1
    have a2:=R.up v v0 v1; have a3:=b2 v v0 v1
    omega
   ·have:=(y1.turn E ⟨v0,v1⟩).1
    omega
 ·have hr:r = 0:=by omega
  subst hr
  refine ⟨by rw [show N - 0 = N by omega] at hS; exact hS,hnil (by omega),fun v v0 v1=>by have:=hp v v0 v1; omega,fun hall v v0 v1=>?_⟩
  have:=(hq hall (by omega)).2 v v0 v1
  omega
structure AOk (n:Int) (l:List Act):Prop where
 len:(l.length:Int) = 2 * n + 2
 fst:gi l 0 = ⟨6,0,10,0,[]⟩
 say:∀ i:Int,0 ≤ i→i < n→gi l (1 + 2 * i) = ⟨1,n - i,0,0,raw2⟩
 tck:∀ i:Int,0 ≤ i→i < n→∃ w:Int,(1 ≤ w∧w ≤ n)∧gi l (2 + 2 * i) = ⟨2,w,0,0,[]⟩
 lst:gi l (2 * n + 1) = ⟨6,0,15,0,[]⟩
structure AtV (n d:Int) (g:Grd) (v:Int) (Z:Par):Prop where
 ex:∃ S,SJ n d g S (1000 * v) Z.c Z.m∧(v = 0→Z.m = []∧∀ j:Int,0 ≤ j→j < n→S j = d - 1)∧(1 ≤ v→v ≤ 2 * n + 1→(Z.m.length:Int) ≤ 4 * v∧(∀ j:Int,0 ≤ j→j < n→S j = if n - v / 2 ≤ j then d else d - 1)∧∀ j:Int,0 ≤ j→j < n→d ≤ tn Z.c.l j)∧(v = 2 * n + 2→∀ j:Int,0 ≤ j→j < n→tn Z.c.l j = d + 1)
theorem act_o (E:OEnv n d g) {l:List Act} (hl:AOk n l) {v:Int} (h:AtV n d g v P) (hv:0 ≤ v∧v ≤ 2 * n + 1):Ok (session_party_act P (gi l v)) fun P'=>AtV n d g (v + 1) P':=by
 obtain ⟨S,hS,h0,h1,_⟩:=h.ex
 have hlen:=hS.len
 have hEn:=E.n
 have hEd:=E.d
 by_cases e0:v = 0
 ·subst e0
  rw [hl.fst]
  obtain ⟨a1,a2⟩:=h0 rfl
  refine Ok.mono (act_calm E (N:=10) hS (by rw [a1]; simp) (by omega) (by decide)) fun Z hZ=>⟨S,hZ.1.mono (by omega),fun e=>by omega,fun _ _=>⟨by rw [hZ.2.1]; simp,fun j j0 j1=>?_,fun j j0 j1=>?_⟩,fun e=>by omega⟩
  ·rw [if_neg (by omega)]; exact a2 j j0 j1
  ·have b1:=hZ.2.2.1 j j0 j1
   have b2:=(hZ.1.turn E ⟨j0,j1⟩).2
   omega
 obtain ⟨a1,a2,a3⟩:=h1 (by omega) (by omega)
 by_cases e1:v = 2 * n + 1
 ·rw [e1,hl.lst]
  have hall:∀ j:Int,0 ≤ j→j < n→S j = d:=fun j j0 j1=>by rw [a2 j j0 j1,if_pos (by omega)]
  refine Ok.mono (act_calm E (N:=15) hS (by omega) (by omega) (by decide)) fun Z hZ=>⟨S,hZ.1.mono (by omega),fun e=>by omega,fun _ e=>by omega,fun _ j j0 j1=>?_⟩
  have b1:=hZ.2.2.2 hall j j0 j1
  have b2:=(hZ.1.turn E ⟨j0,j1⟩).2
  omega
 by_cases e2:v % 2 = 1
 ·obtain ⟨i,rfl⟩:∃ i:Int,v = 1 + 2 * i:=⟨v / 2,by omega⟩
  rw [hl.say i (by omega) (by omega)]
  have hSk:S (n - i - 1) = d - 1:=by rw [a2 _ (by omega) (by omega),if_neg (by omega)]
  unfold session_party_act
  rw [if_pos rfl,if_pos ⟨by show 1 ≤ n - i; omega,by show n - i ≤ _; omega⟩]
  refine Ok.gd (by show I64 (n - i - 1); unfold I64; omega) ?_
  refine Ok.bind (say_o (k:=n - i - 1) E hS ⟨by omega,by omega⟩ (by omega) hSk (by have:=a3 (n - i - 1) (by omega) (by omega); omega)) fun X hX=>Ok.ret ⟨bump S (n - i - 1),hX.1.mono (by omega),fun e=>by omega,fun _ _=>⟨by show (P.m.length:Int) ≤ _; omega,fun j j0 j1=>?_,fun j j0 j1=>?_⟩,fun e=>by omega⟩
  ·have:=a2 j j0 j1
   unfold bump
   by_cases e:j = n - i - 1
   ·rw [if_pos e,if_pos (by omega)]; omega
   ·rw [if_neg e,this]
    by_cases e9:n - (1 + 2 * i) / 2 ≤ j
    ·rw [if_pos e9,if_pos (by omega)]
    ·rw [if_neg e9,if_neg (by omega)]
  ·show d ≤ tn X.l j
   rw [hX.2 j j0 j1]; exact a3 j j0 j1
 ·obtain ⟨i,rfl⟩:∃ i:Int,v = 2 + 2 * i:=⟨v / 2 - 1,by omega⟩
  obtain ⟨w,hw,ew⟩:=hl.tck i (by omega) (by omega)
  rw [ew]
  unfold session_party_act
  rw [if_neg (by show ¬ (2:Int) = 1; decide),if_pos rfl,if_pos ⟨by show 1 ≤ w; omega,by show w ≤ _; omega⟩]
  refine Ok.gd (by show I64 (w - 1); unfold I64; omega) ?_
  refine Ok.bind (tick_o (k:=w - 1) E hS ⟨by omega,by omega⟩ (by omega) (by omega)) fun X hX=>Ok.ret ⟨S,hX.1.mono (by omega),fun e=>by omega,fun _ _=>⟨by have:=hX.2.ln; omega,fun j j0 j1=>?_,fun j j0 j1=>?_⟩,fun e=>by omega⟩
  ·rw [a2 j j0 j1,show (2 + 2 * i + 1) / 2 = (2 + 2 * i) / 2 by omega]
  ·have a4:=a3 j j0 j1
   by_cases e:j = w - 1
   ·have:=hX.2.up
    rw [← e] at this
    omega
   ·show d ≤ (gi X.c.l j).p.turn
    rw [hX.2.oth j j0 j1 e]; exact a4
theorem run_O {room:Int} {l:List Act} (E:OEnv n d g) (hr:1 ≤ room∧room ≤ 4096) (hl:AOk n l):Ok (session_Run g n d room l) fun r=>r.2 = 0∧(r.1.turns.length:Int) = n∧(r.1.worlds.length:Int) = n∧(r.1.splits.length:Int) = n∧∀ v:Int,0 ≤ v→v < n→gi r.1.turns v = d + 1∧gi r.1.worlds v = uw n (d + 1) g∧gi r.1.splits v = false:=by
 have hE:=E.n
 have hEd:=E.d
 have hEs:=E.size
 have hll:=hl.len
 unfold session_Run
 rw [new_q E.gok (by omega) ⟨hE.1,by omega⟩,bsome,if_neg (by simp; omega)]
 obtain ⟨f,ef⟩:=open_q (n:=n) (t:=0) (room:=room) E.gok (by omega) ⟨hE.1,by omega⟩ ⟨by omega,by omega⟩ hr
 refine Ok.bind (R:=fun x:Ex Pty (Rep × Int)=>match x with
   | .go C=>(C.l.length:Int) = n∧(∀ u:Int,0 ≤ u→u < n→gi C.l u = ⟨newP (u + 1) n d,⟨qw n 0 g,f⟩⟩)∧C.log = []
   | .up _=>False) (Ok.loop (fun z:Int × Pty=>(1 ≤ z.1∧z.1 ≤ n + 1)∧(z.2.l.length:Int) = z.1 - 1∧(∀ u:Int,0 ≤ u→u < z.1 - 1→gi z.2.l u = ⟨newP (u + 1) n d,⟨qw n 0 g,f⟩⟩)∧z.2.log = []) (fun z=>(n + 1 - z.1).toNat) ⟨⟨by simp,by show 1 ≤ n + 1; omega⟩,rfl,fun u u0 u1=>by have u1:u < 0:=u1; omega,rfl⟩ (by unfold FUEL; dsimp only; omega) ?_) ?_
 ·rintro ⟨v,C⟩ ⟨⟨v0,v1⟩,hl,hu,hg⟩
  dsimp only at v0 v1 hl hu hg ⊢
  refine Ok.ite (fun hv=>?_) (fun hv=>Ok.ret ?_)
  ·rw [(new_p hE E.d ⟨v0,hv⟩).1,bsome,ef,bsome]
   dsimp only
   rw [if_neg (by simp),bsome]
   refine Ok.gd (by omega) (Ok.gd (by unfold I64; omega) (Ok.ret ⟨⟨⟨by show 1 ≤ v + 1; omega,by show v + 1 ≤ n + 1; omega⟩,?_,fun u u0 u1=>?_,hg⟩,by show (n + 1 - (v + 1)).toNat < (n + 1 - v).toNat; omega⟩))
   ·show ((C.l ++ [_]).length:Int) = v + 1 - 1
    rw [List.length_append]; simp; omega
   ·have u1:u < v + 1 - 1:=u1
    show gi (C.l ++ [_]) u = _
    by_cases e:u = (C.l.length:Int)
    ·rw [e,gi_append_at,show (C.l.length:Int) + 1 = v by omega]
    ·rw [gi_append_left ⟨u0,by omega⟩]; exact hu u u0 (by omega)
  ·exact ⟨by omega,fun u u0 u1=>hu u u0 (by omega),hg⟩
 rintro (C | e) hC
 ·obtain ⟨h1,h2,h3⟩:=hC
  dsimp only [Ex.then]
  have hgh:∀ u:Int,0 ≤ u→u < n→gi (List.replicate n.toNat ([]:List UInt64)) u = []:=fun u u0 u1=>gi_replicate ⟨u0,by omega⟩
  have hrep:∀ u:Int,0 ≤ u→u < n→gi (List.replicate n.toNat (d - 1)) u = d - 1:=fun u u0 u1=>gi_replicate ⟨u0,by omega⟩
  have SI0:SJ n d g (fun _=>d - 1) 0 ⟨C.l,List.replicate n.toNat [],C.log⟩ []:=by
   refine ⟨⟨[],Wo.start hE E.d (by rw [List.length_map]; exact h1) fun v v0 v1=>?_,fun x=>⟨fun hx=>(by cases hx),fun ⟨k,_,e,_⟩=>by have e:d - 1 = d:=e; omega⟩⟩,fun j _ _=>.inl rfl,fun v v0 v1=>⟨f,?_⟩,by rw [List.length_replicate]; omega,fun v v0 v1=>?_,?_,fun i j i0 i1 j0 j1=>?_,fun m hm=>(by cases hm)⟩
   ·show gi (C.l.map One.p) v = _
    rw [gi_mapp ⟨v0,by omega⟩,h2 v v0 v1]
   ·show (gi C.l v).w = ⟨wf n d g (gi C.l v).p.turn,f⟩
    rw [h2 v v0 v1]
    show (⟨qw n 0 g,f⟩:Egn) = ⟨wf n d g 0,f⟩
    unfold wf
    rw [if_pos (by omega)]
   ·show ((gi (List.replicate n.toNat ([]:List UInt64)) v).length:Int) = (gi C.l v).p.turn
    rw [hgh v v0 v1,h2 v v0 v1]; rfl
   ·show (C.log.length:Int) = (gi C.l 0).p.turn
    rw [h3,h2 0 (by omega) (by omega)]; rfl
   ·show gi (gi C.l i).p.acked j ≤ gi (gi C.l j).p.has i
    rw [h2 i i0 i1,h2 j j0 j1]
    show gi (List.replicate n.toNat (d - 1)) j ≤ gi (List.replicate n.toNat (d - 1)) i
    rw [hrep j j0 j1,hrep i i0 i1]; exact Int.le_refl _
  refine Ok.gd ⟨by omega,by omega⟩ ?_
  refine Ok.bind (R:=fun Z:Par=>AtV n d g (2 * n + 2) Z) (Ok.loop (fun z:Int × Par=>(0 ≤ z.1∧z.1 ≤ l.length)∧AtV n d g z.1 z.2) (fun z=>(l.length - z.1).toNat) ⟨⟨by simp,by simp⟩,⟨_,SI0,fun _=>⟨rfl,fun _ _ _=>rfl⟩,fun e=>by omega,fun e=>by omega⟩⟩ (by unfold FUEL; dsimp only; omega) ?_) ?_
  ·rintro ⟨v,Z⟩ ⟨⟨v0,v1⟩,hS⟩
   dsimp only at v0 v1 hS ⊢
   refine Ok.ite (fun hv=>Ok.gd ⟨v0,hv⟩ ?_) (fun hv=>Ok.ret ?_)
   ·refine Ok.bind (act_o E hl hS ⟨v0,by omega⟩) fun r hr=>?_
    exact Ok.gd (by unfold I64; omega) (Ok.ret ⟨⟨⟨by show 0 ≤ v + 1; omega,by show v + 1 ≤ _; omega⟩,hr⟩,by show ((l.length:Int) - (v + 1)).toNat < ((l.length:Int) - v).toNat; omega⟩)
   ·have:v = 2 * n + 2:=by omega
    subst this
    exact hS
  ·rintro Z ⟨S,hS,_,_,hT⟩
   have hT:=hT rfl
   have hlen:=hS.len
   have hsp:∀ v:Int,0 ≤ v→v < n→(gi Z.c.l v).p.split = false:=fun v v0 v1=>by
    obtain ⟨H,w,_⟩:=hS.ex
    have:=(w.pr v v0 v1).sp trivial
    rw [gi_mapp ⟨v0,by omega⟩] at this
    exact this
   refine Ok.bind (R:=fun x:List Int × List Wld × List Bool=>(x.1.length:Int) = n∧(x.2.1.length:Int) = n∧(x.2.2.length:Int) = n∧∀ u:Int,0 ≤ u→u < n→gi x.1 u = d + 1∧gi x.2.1 u = uw n (d + 1) g∧gi x.2.2 u = false) (Ok.loop (fun z:Int × List Int × List Wld × List Bool=>(0 ≤ z.1∧z.1 ≤ n)∧(z.2.1.length:Int) = z.1∧(z.2.2.1.length:Int) = z.1∧(z.2.2.2.length:Int) = z.1∧∀ u:Int,0 ≤ u→u < z.1→gi z.2.1 u = d + 1∧gi z.2.2.1 u = uw n (d + 1) g∧gi z.2.2.2 u = false) (fun z=>(n - z.1).toNat) ⟨⟨by simp,by show 0 ≤ n; omega⟩,rfl,rfl,rfl,fun u u0 u1=>by have u1:u < 0:=u1; omega⟩ (by unfold FUEL; dsimp only; omega) ?_) ?_
   ·rintro ⟨v,a,b,e⟩ ⟨⟨v0,v1⟩,ha,hb,he,hu⟩
    dsimp only at v0 v1 ha hb he hu ⊢
    refine Ok.ite (fun hv=>Ok.gd ⟨v0,hv⟩ (Ok.gd (by omega) ?_)) (fun hv=>Ok.ret ⟨by show (a.length:Int) = n; omega,by show (b.length:Int) = n; omega,by show (e.length:Int) = n; omega,fun u u0 u1=>hu u u0 (by omega)⟩)
    obtain ⟨f2,ef2⟩:=hS.wl v v0 (by omega)
    have ew:wf n d g (tn Z.c.l v) = uw n (d + 1) g:=by
     rw [hT v v0 (by omega)]
     unfold wf
     rw [if_neg (by omega)]
    have et:(gi Z.c.l v).p.turn = d + 1:=hT v v0 (by omega)
    rw [ef2,world_wf E,bsome,ew,et,hsp v v0 (by omega)]
    refine Ok.gd (by omega) (Ok.gd (by omega) (Ok.gd (by unfold I64; omega) (Ok.ret ⟨⟨⟨by show 0 ≤ v + 1; omega,by show v + 1 ≤ n; omega⟩,by show ((a ++ [_]).length:Int) = v + 1; rw [List.length_append]; simp; omega,by show ((b ++ [_]).length:Int) = v + 1; rw [List.length_append]; simp; omega,by show ((e ++ [_]).length:Int) = v + 1; rw [List.length_append]; simp; omega,fun u u0 u1=>?_⟩,by show (n - (v + 1)).toNat < (n - v).toNat; omega⟩)))
    have u1:u < v + 1:=u1
    show gi (a ++ [_]) u = _∧gi (b ++ [_]) u = _∧gi (e ++ [_]) u = _
    by_cases q:u = v
    ·subst q
     refine ⟨?_,?_,?_⟩
     ·have:=gi_append_at (xs:=a) (x:=d + 1)
      rw [ha] at this; exact this
     ·have:=gi_append_at (xs:=b) (x:=uw n (d + 1) g)
      rw [hb] at this; exact this
     ·have:=gi_append_at (xs:=e) (x:=false)
      rw [he] at this; exact this
    ·rw [gi_append_left ⟨u0,by omega⟩,gi_append_left ⟨u0,by omega⟩,gi_append_left ⟨u0,by omega⟩]
     exact hu u u0 (by omega)
   ·rintro ⟨a,b,e⟩ ⟨ha,hb,he,hu⟩
    exact Ok.ret ⟨rfl,ha,hb,he,hu⟩
 ·exact hC.elim
theorem center_q {g:Grd} (h:1 ≤ g.w):throngref5_Center g 0 = some p0:=by
 unfold throngref5_Center
 have e1:(0:Int) % g.w = 0:=Int.zero_emod _
 have e2:(0:Int) / g.w = 0:=Int.zero_ediv _
 rw [e1,e2,if_pos ⟨by decide,by decide,h⟩,if_pos (by decide),if_pos (by decide),if_pos ⟨by decide,by decide,h⟩,if_pos (by decide),if_pos (by decide)]
 rfl
theorem order_true {x:Scr30} (hx:x.Wf) (hg:x.g.tiles.length ≤ 9223372036854775806):throngtop_TopOrder x = some true:=by
 unfold throngtop_TopOrder
 refine Ok.eq (Ok.bind (may_t hx hg) fun m hm=>?_)
 by_cases hb:(((!m) = true) ∨ (x.players < 2)) ∨ (4 < x.players)
 ·rw [if_pos fun h=>absurd hb h,if_pos (.inl hb)]
  exact Ok.ret rfl
 have M:=hm (by
  cases m
  ·exact absurd (.inl (.inl rfl)) hb
  ·rfl)
 have hw:=M.g.1; have hh:=M.g.2.1
 have hsz:=M.size
 have h1:(1:Int) ≤ x.g.tiles.length:=by
  rw [M.g.2.2.1]
  have:=Int.mul_le_mul_of_nonneg_left hh.1 (show 0 ≤ x.g.w by omega)
  omega
 refine Ok.gd (fun _=>⟨by omega,by omega⟩) ?_
 by_cases ht:¬ ((gi x.g.tiles (0:Int)).toNat:Int) = 0
 ·rw [if_pos (.inr ht)]
  exact Ok.ret rfl
 have ht:((gi x.g.tiles (0:Int)).toNat:Int) = 0:=Classical.not_not.1 ht
 rw [if_neg (by rintro (e | e); exact hb e; exact e ht)]
 have hn:2 ≤ x.players∧x.players ≤ 4:=by omega
 have E:OEnv x.players x.delay x.g:=⟨M.g,by omega,by omega,M.d,ht⟩
 refine Ok.gd (by simp) ?_
 obtain ⟨w,ew,hw1⟩:=within2_p (a:=x.room) (n:=x.players) ⟨by omega,by omega⟩
 refine Ok.bind (R:=fun l:List Act=>(l.length:Int) = 2 * x.players + 1∧gi l 0 = ⟨6,0,10,0,[]⟩∧∀ i:Int,0 ≤ i→i < x.players→gi l (1 + 2 * i) = ⟨1,x.players - i,0,0,raw2⟩∧gi l (2 + 2 * i) = ⟨2,1 + w,0,0,[]⟩)
  (Ok.loop (fun z:Int × List Act=>(0 ≤ z.1∧z.1 ≤ x.players)∧(z.2.length:Int) = 2 * (x.players - z.1) + 1∧gi z.2 0 = ⟨6,0,10,0,[]⟩∧∀ i:Int,0 ≤ i→i < x.players - z.1→gi z.2 (1 + 2 * i) = ⟨1,x.players - i,0,0,raw2⟩∧gi z.2 (2 + 2 * i) = ⟨2,1 + w,0,0,[]⟩) (fun z=>z.1.toNat) ⟨⟨by show 0 ≤ x.players; omega,by show x.players ≤ x.players; omega⟩,by show (1:Int) = 2 * (x.players - x.players) + 1; omega,rfl,fun i i0 i1=>by have i1:i < x.players - x.players:=i1; omega⟩ (by unfold FUEL; dsimp only; omega) ?_) ?_
 ·rintro ⟨k,l⟩ ⟨⟨k0,k1⟩,hl,hf,hi⟩
  dsimp only at k0 k1 hl hf hi ⊢
  refine Ok.ite (fun hk=>?_) (fun hk=>Ok.ret ?_)
  ·rw [center_q hw.1,bsome,bsome,ew,bsome]
   refine Ok.gd (by unfold I64; omega) (Ok.gd (by omega) (Ok.gd (by unfold I64; omega) (Ok.ret ⟨⟨⟨by show 0 ≤ k - 1; omega,by show k - 1 ≤ _; omega⟩,?_,?_,fun i i0 i1=>?_⟩,by show (k - 1).toNat < k.toNat; omega⟩)))
   ·show ((l ++ [_,_]).length:Int) = 2 * (x.players - (k - 1)) + 1
    rw [List.length_append]; simp; omega
   ·show gi (l ++ [_,_]) 0 = _
    rw [gi_append_left ⟨by omega,by omega⟩]; exact hf
   ·have i1:i < x.players - (k - 1):=i1
    show gi (l ++ [(⟨1,k,0,0,raw2⟩:Act),⟨2,1 + w,0,0,[]⟩]) _ = _∧gi (l ++ [(⟨1,k,0,0,raw2⟩:Act),⟨2,1 + w,0,0,[]⟩]) _ = _
    by_cases e:i = x.players - k
    ·have e1:gi (l ++ [(⟨1,k,0,0,raw2⟩:Act),⟨2,1 + w,0,0,[]⟩]) (l.length:Int) = ⟨1,k,0,0,raw2⟩:=by
      simp [gi]
     have e2:gi (l ++ [(⟨1,k,0,0,raw2⟩:Act),⟨2,1 + w,0,0,[]⟩]) ((l.length:Int) + 1) = ⟨2,1 + w,0,0,[]⟩:=by
      have:((l.length:Int) + 1).toNat = l.length + 1:=by omega
      simp [gi,this]
     rw [show 1 + 2 * i = (l.length:Int) by omega,show 2 + 2 * i = (l.length:Int) + 1 by omega,e1,e2,show x.players - i = k by omega]
     exact ⟨rfl,rfl⟩
    ·rw [gi_append_left ⟨by omega,by omega⟩,gi_append_left ⟨by omega,by omega⟩]
     exact hi i i0 (by omega)
  ·have:k = 0:=by omega
   subst this
   rw [show x.players - 0 = x.players by omega] at hl hi
   exact ⟨hl,hf,hi⟩
 rintro l ⟨l1,l2,l3⟩
 refine Ok.gd (by omega) ?_
 have A:AOk x.players (l ++ [⟨6,0,15,0,[]⟩]):=by
  refine ⟨by rw [List.length_append]; simp; omega,by rw [gi_append_left ⟨by omega,by omega⟩]; exact l2,fun i i0 i1=>by rw [gi_append_left ⟨by omega,by omega⟩]; exact (l3 i i0 i1).1,fun i i0 i1=>⟨1 + w,by omega,by rw [gi_append_left ⟨by omega,by omega⟩]; exact (l3 i i0 i1).2⟩,?_⟩
  rw [show 2 * x.players + 1 = (l.length:Int) by omega,gi_append_at]
 refine Ok.bind (run_O E M.room A) fun r hr=>?_
 obtain ⟨r1,r2,r3,r4,r5⟩:=hr
 rw [show throngtop_num r.2 = some r.2 from rfl,bsome,r1,if_neg (by simp [r2,r3,r4])]
 refine Ok.bind (R:=fun y=>y = Ex.go ()) (Ok.loop (fun v:Int=>0 ≤ v∧v ≤ x.players) (fun v=>(x.players - v).toNat) ⟨by omega,by omega⟩ (by unfold FUEL; omega) ?_) ?_
 ·rintro v ⟨v0,v1⟩
  refine Ok.ite (fun hv=>Ok.gd ⟨v0,by omega⟩ ?_) (fun hv=>Ok.ret rfl)
  obtain ⟨k1,k2,k3⟩:=r5 v v0 hv
  have k4:=(r5 0 (by omega) (by omega)).1
  rw [k2,k3,k1,k4]
  have eu:((uw x.players (x.delay + 1) x.g).us.length:Int) = 1:=rfl
  rw [eu]
  refine Ok.gd (fun _=>⟨v0,by omega⟩) (Ok.gd (fun _=>by decide) (Ok.gd (fun _=>⟨v0,by omega⟩) (Ok.gd (fun _=>⟨v0,by omega⟩) (Ok.gd (fun _=>⟨by omega,by omega⟩) ?_))))
  rw [if_neg (by
   rintro (((e | e) | e) | e)
   ·exact e rfl
   ·exact e rfl
   ·cases e
   ·exact e rfl)]
  exact Ok.gd (by unfold I64; omega) (Ok.ret ⟨⟨by omega,by omega⟩,by omega⟩)
 ·rintro y rfl
  dsimp only [Ex.then]
  rw [wakes_q]; exact Ok.ret rfl
end Go.Proofs.YtmngdgclldkcfaaGreat
