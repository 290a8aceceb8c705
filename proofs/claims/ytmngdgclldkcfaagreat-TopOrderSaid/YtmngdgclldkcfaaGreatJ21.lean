/-
  Texts of one's own, joined: SA EG V2 PG.
-/
import Derived.Test.YtmngdgclldkcfaaGreatJ11
import Derived.Test.YtmngdgclldkcfaaGreatJ20
import Derived.Test.YtmngdgclldkcfaaGreatJ12
import Derived.Test.YtmngdgclldkcfaaGreatRows
import Derived.Test.YtmngdgclldkcfaaGreatJ16
import Derived.Test.YtmngdgclldkcfaaGreatJ9
import Derived.Test.YtmngdgclldkcfaaGreatJ3
import Derived.Test.YtmngdgclldkcfaaGreatJ14
set_option linter.unusedVariables false
set_option linter.unusedSimpArgs false
set_option maxRecDepth 20000
namespace Go.Proofs.YtmngdgclldkcfaaGreat
open Go.Vg
open Enc (R)
theorem len_si' {α:Type} {l:List α} {e:Int} {x:α} {n:Nat} (h:l.length = n):(si l e x).length = n:=by rw [len_si]; exact h
theorem star_comm {A B:Ch} {h:Hp}:star A B h→star B A h:=fun ⟨p,q,a,b,c,d,e⟩=>⟨q,p,b,a,fun x=>(c x).symm,e,d⟩
structure Pt where
 a:Nat
 deriving Inhabited
instance:Enc Pt where
 sz:=1
 R _ x cs:=cs = [.pointer (some ⟨x.a,0,none⟩)]
 len:=fun h=>by rw [h]; rfl
 one:=fun h u hu=>by rw [h] at hu; simp at hu; subst hu; rfl
 mono:=fun _ h=>h
instance:Flat Pt:=⟨fun h=>h⟩
structure Sl where
 q:Option Nat × Nat
 n:Nat
 deriving Inhabited
instance:Enc Sl where
 sz:=1
 R _ x cs:=cs = [rowV x.q x.n]
 len:=fun h=>by rw [h]; rfl
 one:=fun h u hu=>by rw [h] at hu; simp at hu; subst hu; rfl
 mono:=fun _ h=>h
theorem stars_get {L:List Ch} {i:Nat} {h:Hp} (hi:i < L.length) (s:stars L h):star (stars (L.eraseIdx i)) L[i] h:=by
 have e:L = L.take i ++ L[i] :: L.drop (i + 1):=by
  rw [← List.drop_eq_getElem_cons hi,List.take_append_drop]
 rw [e] at s
 have:=stars_out s
 rw [List.eraseIdx_eq_take_drop_succ]
 exact star_comm this
theorem stars_put {L:List Ch} {i:Nat} {h:Hp} {C:Ch} (hi:i < L.length) (s:star (stars (L.eraseIdx i)) C h):stars (L.set i C) h:=by
 rw [List.eraseIdx_eq_take_drop_succ] at s
 rw [List.set_eq_take_append_cons_drop,if_pos hi]
 exact stars_in (star_comm s)
theorem zip_set {α β:Type}:∀ {gs:List α} {l:List β} {i:Nat} {o:β} (hi:i < gs.length),gs.zip (l.set i o) = (gs.zip l).set i (gs[i],o)
 | [],l,i,o,hi=>by simp at hi
 | g :: gs,[],i,o,hi=>by simp
 | g :: gs,x :: l,0,o,hi=>by simp
 | g :: gs,x :: l,i + 1,o,hi=>by
  simp only [List.set_cons_succ,List.zip_cons_cons,List.getElem_cons_succ]
  rw [zip_set (by simpa using hi)]
structure One where
 p:Per
 w:Egn
 deriving Inhabited
def One_ch (g:Nat) (x:One):Ch:=exch fun q:(Option Nat × Nat) × (Option Nat × Nat) × (Option Nat × Nat) × (Option Nat × Nat) × Value × Nat=>stars ((blk g [.int .i64 x.p.id,.int .i64 x.p.players,.int .i64 x.p.delay,.int .i64 x.p.turn,.int .i64 x.p.said,rowV q.1 x.p.mine.length,rowV q.2.1 x.p.inputs.length,rowV q.2.2.1 x.p.has.length,rowV q.2.2.2.1 x.p.acked.length,q.2.2.2.2.1,.bool x.p.split,.pointer (some ⟨q.2.2.2.2.2,0,none⟩)] 94) :: [drow 210 (rowV q.1 x.p.mine.length) x.p.mine,drow 210 (rowV q.2.1 x.p.inputs.length) x.p.inputs,row nilH 3 (rowV q.2.2.1 x.p.has.length) x.p.has,row nilH 3 (rowV q.2.2.2.1 x.p.acked.length) x.p.acked,osl 112 (q.2.2.2.2.1) x.p.hashes,Eng_ch q.2.2.2.2.2 x.w])
theorem One_open {w0 w:World} {G:List Ch} {g:Nat} {x:One} (k:Nat) (hk:G[k]? = some (One_ch g x)) (h:Sat w0 G w):∃ q:(Option Nat × Nat) × (Option Nat × Nat) × (Option Nat × Nat) × (Option Nat × Nat) × Value × Nat,Sat w0 (G.set k (blk g [.int .i64 x.p.id,.int .i64 x.p.players,.int .i64 x.p.delay,.int .i64 x.p.turn,.int .i64 x.p.said,rowV q.1 x.p.mine.length,rowV q.2.1 x.p.inputs.length,rowV q.2.2.1 x.p.has.length,rowV q.2.2.2.1 x.p.acked.length,q.2.2.2.2.1,.bool x.p.split,.pointer (some ⟨q.2.2.2.2.2,0,none⟩)] 94) ++ [drow 210 (rowV q.1 x.p.mine.length) x.p.mine,drow 210 (rowV q.2.1 x.p.inputs.length) x.p.inputs,row nilH 3 (rowV q.2.2.1 x.p.has.length) x.p.has,row nilH 3 (rowV q.2.2.2.1 x.p.acked.length) x.p.acked,osl 112 (q.2.2.2.2.1) x.p.hashes,Eng_ch q.2.2.2.2.2 x.w]) w:=Sat.openAt (A:=fun q:(Option Nat × Nat) × (Option Nat × Nat) × (Option Nat × Nat) × (Option Nat × Nat) × Value × Nat=>(blk g [.int .i64 x.p.id,.int .i64 x.p.players,.int .i64 x.p.delay,.int .i64 x.p.turn,.int .i64 x.p.said,rowV q.1 x.p.mine.length,rowV q.2.1 x.p.inputs.length,rowV q.2.2.1 x.p.has.length,rowV q.2.2.2.1 x.p.acked.length,q.2.2.2.2.1,.bool x.p.split,.pointer (some ⟨q.2.2.2.2.2,0,none⟩)] 94)) (L:=fun q:(Option Nat × Nat) × (Option Nat × Nat) × (Option Nat × Nat) × (Option Nat × Nat) × Value × Nat=>[drow 210 (rowV q.1 x.p.mine.length) x.p.mine,drow 210 (rowV q.2.1 x.p.inputs.length) x.p.inputs,row nilH 3 (rowV q.2.2.1 x.p.has.length) x.p.has,row nilH 3 (rowV q.2.2.2.1 x.p.acked.length) x.p.acked,osl 112 (q.2.2.2.2.1) x.p.hashes,Eng_ch q.2.2.2.2.2 x.w]) k hk h
theorem One_shut {w0 w:World} {R:List Ch} {g:Nat} {x:One} (q:(Option Nat × Nat) × (Option Nat × Nat) × (Option Nat × Nat) × (Option Nat × Nat) × Value × Nat) (h:Sat w0 (R ++ [blk g [.int .i64 x.p.id,.int .i64 x.p.players,.int .i64 x.p.delay,.int .i64 x.p.turn,.int .i64 x.p.said,rowV q.1 x.p.mine.length,rowV q.2.1 x.p.inputs.length,rowV q.2.2.1 x.p.has.length,rowV q.2.2.2.1 x.p.acked.length,q.2.2.2.2.1,.bool x.p.split,.pointer (some ⟨q.2.2.2.2.2,0,none⟩)] 94,drow 210 (rowV q.1 x.p.mine.length) x.p.mine,drow 210 (rowV q.2.1 x.p.inputs.length) x.p.inputs,row nilH 3 (rowV q.2.2.1 x.p.has.length) x.p.has,row nilH 3 (rowV q.2.2.2.1 x.p.acked.length) x.p.acked,osl 112 (q.2.2.2.2.1) x.p.hashes,Eng_ch q.2.2.2.2.2 x.w]) w):Sat w0 (One_ch g x :: R) w:=Sat.toEx (C:=fun q:(Option Nat × Nat) × (Option Nat × Nat) × (Option Nat × Nat) × (Option Nat × Nat) × Value × Nat=>stars ((blk g [.int .i64 x.p.id,.int .i64 x.p.players,.int .i64 x.p.delay,.int .i64 x.p.turn,.int .i64 x.p.said,rowV q.1 x.p.mine.length,rowV q.2.1 x.p.inputs.length,rowV q.2.2.1 x.p.has.length,rowV q.2.2.2.1 x.p.acked.length,q.2.2.2.2.1,.bool x.p.split,.pointer (some ⟨q.2.2.2.2.2,0,none⟩)] 94) :: [drow 210 (rowV q.1 x.p.mine.length) x.p.mine,drow 210 (rowV q.2.1 x.p.inputs.length) x.p.inputs,row nilH 3 (rowV q.2.2.1 x.p.has.length) x.p.has,row nilH 3 (rowV q.2.2.2.1 x.p.acked.length) x.p.acked,osl 112 (q.2.2.2.2.1) x.p.hashes,Eng_ch q.2.2.2.2.2 x.w])) q (Sat.toStars ((blk g [.int .i64 x.p.id,.int .i64 x.p.players,.int .i64 x.p.delay,.int .i64 x.p.turn,.int .i64 x.p.said,rowV q.1 x.p.mine.length,rowV q.2.1 x.p.inputs.length,rowV q.2.2.1 x.p.has.length,rowV q.2.2.2.1 x.p.acked.length,q.2.2.2.2.1,.bool x.p.split,.pointer (some ⟨q.2.2.2.2.2,0,none⟩)] 94) :: [drow 210 (rowV q.1 x.p.mine.length) x.p.mine,drow 210 (rowV q.2.1 x.p.inputs.length) x.p.inputs,row nilH 3 (rowV q.2.2.1 x.p.has.length) x.p.has,row nilH 3 (rowV q.2.2.2.1 x.p.acked.length) x.p.acked,osl 112 (q.2.2.2.2.1) x.p.hashes,Eng_ch q.2.2.2.2.2 x.w]) (G:=R) h)

abbrev Ones:=List One
def onesL (gs:List Pt) (l:Ones):List Ch:=(gs.zip l).map fun e=>One_ch e.1.a e.2
def Ones_ch (gs:List Pt) (l:Ones):Ch:=stars (onesL gs l)
def OnesH (gs:List Pt) (l:Ones) (e:Int):Ch:=stars ((onesL gs l).eraseIdx e.toNat)
theorem onesL_len {gs:List Pt} {l:Ones} {n:Nat} (h:gs.length = n) (h2:l.length = n):(onesL gs l).length = n:=by simp [onesL,h,h2]
theorem onesL_get {gs:List Pt} {l:Ones} {n:Nat} {e:Int} (h:gs.length = n) (h2:l.length = n) (he:0 ≤ e∧e < (l.length:Int)) (hi:e.toNat < (onesL gs l).length):(onesL gs l)[e.toNat] = One_ch (gi gs e).a (gi l e):=by
 have h3:=gi_get (xs:=gs) (j:=e) (by omega)
 have h4:=gi_get (xs:=l) (j:=e) he
 obtain ⟨k1,e1⟩:=List.getElem?_eq_some_iff.1 h3
 obtain ⟨k2,e2⟩:=List.getElem?_eq_some_iff.1 h4
 simp only [onesL,List.getElem_map,List.getElem_zip,e1,e2]
theorem si_set {α:Type} {l:List α} {e:Int} {x:α} (he:0 ≤ e∧e < (l.length:Int)):si l e x = l.set e.toNat x:=by
 unfold si; first | rfl | rw [if_pos he]
theorem onesL_set {gs:List Pt} {l:Ones} {n:Nat} {e:Int} {o:One} (h:gs.length = n) (h2:l.length = n) (he:0 ≤ e∧e < (l.length:Int)):onesL gs (si l e o) = (onesL gs l).set e.toNat (One_ch (gi gs e).a o):=by
 have h3:=gi_get (xs:=gs) (j:=e) (by omega)
 obtain ⟨k1,e1⟩:=List.getElem?_eq_some_iff.1 h3
 rw [si_set he]
 unfold onesL
 rw [zip_set k1,List.map_set,e1]
section
variable {w0 w:World} {G:List Ch}
theorem onePull {gs:List Pt} {l:Ones} {n:Nat} (j:Nat) (e:Int) (s:Sat w0 G w) (hj:G[j]? = some (Ones_ch gs l)) (h:gs.length = n) (h2:l.length = n) (he:0 ≤ e∧e < (l.length:Int)) :
  Sat w0 (G.set j (OnesH gs l e) ++ [One_ch (gi gs e).a (gi l e)]) w:=by
 have hjl:=(List.getElem?_eq_some_iff.1 hj).1
 have s2:=s.weaken j hj (star (OnesH gs l e) (One_ch (gi gs e).a (gi l e))) fun p hp=>by
  have hi:e.toNat < (onesL gs l).length:=by rw [onesL_len h h2]; omega
  have:=stars_get hi hp
  rw [onesL_get h h2 he hi] at this
  exact this
 have s3:=s2.unstarAt j (by rw [List.getElem?_set_self hjl])
 rw [List.set_set] at s3
 exact s3
theorem onePush {gs:List Pt} {l:Ones} {n:Nat} {e:Int} {o:One} (j i:Nat) (s:Sat w0 G w) (hj:G[j]? = some (OnesH gs l e)) (hi:G[i]? = some (One_ch (gi gs e).a o)) (hne:j ≠ i) (h:gs.length = n) (h2:l.length = n) (he:0 ≤ e∧e < (l.length:Int)) :
  Sat w0 ((G.set j (Ones_ch gs (si l e o))).set i dead) w:=by
 have hjl:=(List.getElem?_eq_some_iff.1 hj).1
 have s2:=s.starAt j i hj hi hne
 have s3:=s2.weaken j (C:=star (OnesH gs l e) (One_ch (gi gs e).a o)) (by rw [List.getElem?_set_ne (Ne.symm hne),List.getElem?_set_self hjl]) (Ones_ch gs (si l e o)) fun p hp=>by
  have hil:e.toNat < (onesL gs l).length:=by rw [onesL_len h h2]; omega
  unfold Ones_ch
  rw [onesL_set h h2 he]
  exact stars_put hil hp
 rw [List.set_comm _ _ hne,List.set_set,List.set_comm _ _ (Ne.symm hne)] at s3
 exact s3
theorem oneSame {gs:List Pt} {l:Ones} {n:Nat} {e:Int} (j i:Nat) (s:Sat w0 G w) (hj:G[j]? = some (OnesH gs l e)) (hi:G[i]? = some (One_ch (gi gs e).a (gi l e))) (hne:j ≠ i) (h:gs.length = n) (h2:l.length = n) (he:0 ≤ e∧e < (l.length:Int)) :
  Sat w0 ((G.set j (Ones_ch gs l)).set i dead) w:=by
 have:=onePush j i s hj hi hne h h2 he
 have e1:si l e (gi l e) = l:=by
  rw [si_set he]
  have h4:=gi_get (xs:=l) (j:=e) he
  obtain ⟨k2,e2⟩:=List.getElem?_eq_some_iff.1 h4
  rw [← e2]; exact List.set_getElem_self k2
 rwa [e1] at this
end
abbrev Hss:=List (List UInt64)
abbrev HsAt:=List ((Option Nat × Nat) × List UInt64)
def hsl (hs:HsAt):List Sl:=hs.map fun z=>⟨z.1,z.2.length⟩
def hsr (hs:HsAt):List Ch:=hs.map fun z=>row nilH 112 (rowV z.1 z.2.length) z.2
def Hss_ch (q:Option Nat × Nat) (x:Hss):Ch:=exch fun hs:{hs:HsAt // hs.map Prod.snd = x}=>stars (row nilH 87 (rowV q x.length) (hsl hs.1) :: [stars (hsr hs.1)])
def HssH (hs:HsAt) (e:Int):Ch:=stars ((hsr hs).eraseIdx e.toNat)
theorem hsl_len {hs:HsAt} {x:Hss} (h:hs.map Prod.snd = x):(hsl hs).length = x.length∧hs.length = x.length:=by subst h; simp [hsl]
theorem gi_map {α β:Type} [Inhabited α] [Inhabited β] (f:α→β) {l:List α} {e:Int} (he:0 ≤ e∧e < (l.length:Int)):gi (l.map f) e = f (gi l e):=by
 have h4:=gi_get (xs:=l) (j:=e) he
 have h5:=gi_get (xs:=l.map f) (j:=e) (by simpa using he)
 rw [List.getElem?_map,h4] at h5
 exact (Option.some.inj h5).symm
theorem hs_gi {hs:HsAt} {x:Hss} {e:Int} (h:hs.map Prod.snd = x) (he:0 ≤ e∧e < (x.length:Int)):(gi hs e).2 = gi x e∧gi (hsl hs) e = ⟨(gi hs e).1,(gi x e).length⟩:=by
 have hl:=(hsl_len h).2
 subst h
 have he':0 ≤ e∧e < (hs.length:Int):=by omega
 rw [gi_map Prod.snd he',hsl,gi_map _ he']
 exact ⟨rfl,rfl⟩
section
variable {w0 w:World} {G:List Ch}
theorem hsPull {q:Option Nat × Nat} {x:Hss} (j:Nat) (e:Int) (s:Sat w0 G w) (hj:G[j]? = some (Hss_ch q x)) (he:0 ≤ e∧e < (x.length:Int)) :
  ∃ hs:HsAt,hs.map Prod.snd = x∧Sat w0 (G.set j (row nilH 87 (rowV q x.length) (hsl hs)) ++ [HssH hs e,row nilH 112 (rowV (gi hs e).1 (gi x e).length) (gi x e)]) w:=by
 obtain ⟨⟨hs,hh⟩,s2⟩:=Sat.openAt (A:=fun hs:{hs:HsAt // hs.map Prod.snd = x}=>row nilH 87 (rowV q x.length) (hsl hs.1)) (L:=fun hs=>[stars (hsr hs.1)]) j hj s
 refine ⟨hs,hh,?_⟩
 have hjl:=(List.getElem?_eq_some_iff.1 hj).1
 have hlen:=(hsl_len hh).2
 have s3:=s2.weaken G.length (C:=stars (hsr hs)) (by simp) (star (HssH hs e) (row nilH 112 (rowV (gi hs e).1 (gi x e).length) (gi x e))) fun p hp=>by
  have hi:e.toNat < (hsr hs).length:=by simp [hsr]; omega
  have h1:=stars_get hi hp
  have h4:=gi_get (xs:=hs) (j:=e) (by omega)
  obtain ⟨k2,e2⟩:=List.getElem?_eq_some_iff.1 h4
  have h5:(hsr hs)[e.toNat] = row nilH 112 (rowV (gi hs e).1 (gi x e).length) (gi x e):=by
   simp only [hsr,List.getElem_map,e2,(hs_gi hh he).1]
  rw [h5] at h1
  exact h1
 have s4:=s3.unstarAt (A:=HssH hs e) (B:=row nilH 112 (rowV (gi hs e).1 (gi x e).length) (gi x e)) G.length (by simp)
 simpa using s4
theorem hsPush {q q':Option Nat × Nat} {x:Hss} {hs:HsAt} {e:Int} {y:List UInt64} (j i k:Nat) (s:Sat w0 G w) (hj:G[j]? = some (row nilH 87 (rowV q x.length) (si (hsl hs) e (⟨q',y.length⟩:Sl)))) (hi:G[i]? = some (HssH hs e)) (hk:G[k]? = some (row nilH 112 (rowV q' y.length) y))
  (hne:j ≠ i∧j ≠ k∧i ≠ k) (h:hs.map Prod.snd = x) (he:0 ≤ e∧e < (x.length:Int)):Sat w0 (((G.set i dead).set k dead).set j (Hss_ch q (si x e y))) w:=by
 obtain ⟨n1,n2,n3⟩:=hne
 have hl1:=(List.getElem?_eq_some_iff.1 hj).1
 have hl2:=(List.getElem?_eq_some_iff.1 hi).1
 have hlen:=(hsl_len h).2
 have he':0 ≤ e∧e < (hs.length:Int):=by omega
 have s2:=s.starAt i k hi hk n3
 have s3:=s2.starAt j i (by rw [List.getElem?_set_ne (Ne.symm n2),List.getElem?_set_ne (Ne.symm n1)]; exact hj) (by rw [List.getElem?_set_ne (Ne.symm n3),List.getElem?_set_self hl2]) n1
 have s4:=s3.weaken j (C:=star (row nilH 87 (rowV q x.length) (si (hsl hs) e (⟨q',y.length⟩:Sl))) (star (HssH hs e) (row nilH 112 (rowV q' y.length) y))) (by
  rw [List.getElem?_set_ne (Ne.symm n1),List.getElem?_set_self (by simpa using hl1)]) (Hss_ch q (si x e y)) fun p hp=>by
   have hx2:(si hs e (q',y)).map Prod.snd = si x e y:=by
    rw [si_set he',si_set he,List.map_set,h]
   refine ⟨⟨si hs e (q',y),hx2⟩,?_⟩
   obtain ⟨a,b,ha,hb,hc,hd,hf⟩:=hp
   have e1:hsl (si hs e (q',y)) = si (hsl hs) e (⟨q',y.length⟩:Sl):=by
    rw [si_set he',si_set (by have:=(hsl_len h).1; omega)]; unfold hsl; rw [List.map_set]
   have e2:hsr (si hs e (q',y)) = (hsr hs).set e.toNat (row nilH 112 (rowV q' y.length) y):=by
    rw [si_set he']; unfold hsr; rw [List.map_set]
   refine ⟨a,b,?_,⟨b,fun _=>none,?_,trivial,fun _=>.inr rfl,Hp.le_refl _,fun _ _ e=>by cases e⟩,hc,hd,hf⟩
   ·show row nilH 87 (rowV q (si x e y).length) (hsl (si hs e (q',y))) a
    rw [e1,len_si]; exact ha
   ·show stars (hsr (si hs e (q',y))) b
    rw [e2]
    exact stars_put (by simp [hsr]; omega) hb
 refine s4.pick (List.range G.length) List.nodup_range ?_
 apply List.ext_getElem?
 intro m
 simp only [List.getElem?_map,List.getElem?_range]
 by_cases hm:m < G.length
 ·rw [List.getElem?_range hm]
  simp only [Option.map_some]
  by_cases m1:m = j
  ·subst m1; simp [List.getElem?_set,hm]
  ·by_cases m2:m = i
   ·subst m2; simp [List.getElem?_set,hm,Ne.symm m1,n3,Ne.symm n3,m1]
   ·by_cases m3:m = k
    ·subst m3; simp [List.getElem?_set,hm,Ne.symm m1,m1,n3,Ne.symm n3]
    ·simp [List.getElem?_set,Ne.symm m1,Ne.symm m2,Ne.symm m3]
     rw [List.getElem?_eq_getElem hm]; rfl
 ·simp [hm]
end
theorem onesNil {w0 w:World} {G:List Ch} (s:Sat w0 G w):Sat w0 (G ++ [Ones_ch [] []]) w:=s.addEmpty _ fun _=>trivial
theorem hssNil {w0 w:World} {G:List Ch} (s:Sat w0 G w):Sat w0 (G ++ [Hss_ch (none,0) []]) w:=s.addEmpty _ fun p =>
 ⟨⟨[],rfl⟩,fun _=>none,fun _=>none,.inl ⟨rfl,rfl⟩,⟨fun _=>none,fun _=>none,trivial,trivial,fun _=>.inl rfl,(fun _ _ e=>by cases e),fun _ _ e=>by cases e⟩,fun _=>.inl rfl,(fun _ _ e=>by cases e),fun _ _ e=>by cases e⟩
theorem ltx {a b n m:Nat} (h:a = n) (h2:b = n) (g:b < m):a < m:=by omega
theorem len_add {gs:List Pt} {l:Ones} {n:Nat} (g:Pt) (o:One) (h:gs.length = n) (h2:l.length = n):(l ++ [o]).length = (gs ++ [g]).length:=by simp [h,h2]
theorem onesAdd {w0 w:World} {G:List Ch} {gs:List Pt} {l:Ones} {n a:Nat} {o:One} (j i:Nat) (s:Sat w0 G w) (hj:G[j]? = some (Ones_ch gs l)) (hi:G[i]? = some (One_ch a o)) (hne:j ≠ i) (h:gs.length = n) (h2:l.length = n) :
  Sat w0 ((G.set j (Ones_ch (gs ++ [⟨a⟩]) (l ++ [o]))).set i dead) w:=by
 have hjl:=(List.getElem?_eq_some_iff.1 hj).1
 have s2:=s.starAt j i hj hi hne
 have s3:=s2.weaken j (C:=star (Ones_ch gs l) (One_ch a o)) (by rw [List.getElem?_set_ne (Ne.symm hne),List.getElem?_set_self hjl]) (Ones_ch (gs ++ [⟨a⟩]) (l ++ [o])) fun p hp=>by
  have e1:onesL (gs ++ [⟨a⟩]) (l ++ [o]) = onesL gs l ++ [One_ch a o]:=by
   unfold onesL
   rw [List.zip_append (by rw [h,h2]),List.map_append]; rfl
  unfold Ones_ch
  rw [e1]
  exact stars_in (A:=onesL gs l) (B:=[]) (by rw [List.append_nil]; exact star_comm hp)
 rw [List.set_comm _ _ hne,List.set_set,List.set_comm _ _ (Ne.symm hne)] at s3
 exact s3
theorem stars_nil_rows:∀ (n:Nat) (p:Hp),stars (List.replicate n (row nilH 112 (rowV (none,0) 0) ([]:List UInt64))) p
 | 0,_=>trivial
 | n + 1,p=>⟨fun _=>none,fun _=>none,.inl ⟨rfl,rfl⟩,stars_nil_rows n _,fun _=>.inl rfl,(fun _ _ e=>by cases e),fun _ _ e=>by cases e⟩
theorem hsMake {w0 w:World} {G:List Ch} {q:Option Nat × Nat} {n:Nat} (j:Nat) (s:Sat w0 G w) (hj:G[j]? = some (row nilH 87 (rowV q n) (List.replicate n (⟨(none,0),0⟩:Sl)))):Sat w0 (G.set j (Hss_ch q (List.replicate n []))) w:=by
 refine s.weaken j hj _ fun p hp=>⟨⟨List.replicate n ((none,0),[]),by simp⟩,?_⟩
 refine ⟨p,fun _=>none,?_,⟨fun _=>none,fun _=>none,?_,trivial,fun _=>.inl rfl,Hp.le_refl _,Hp.le_refl _⟩,fun _=>.inr rfl,Hp.le_refl _,fun _ _ e=>by cases e⟩
 ·rw [List.length_replicate]
  have e1:hsl (List.replicate n ((none,0),[])) = List.replicate n (⟨(none,0),0⟩:Sl):=by simp [hsl]
  rw [e1]; exact hp
 ·have e1:hsr (List.replicate n ((none,0),[])) = List.replicate n (row nilH 112 (rowV (none,0) 0) ([]:List UInt64)):=by simp [hsr]
  rw [e1]; exact stars_nil_rows n _
instance:Deep (List UInt64) where
 D h x c:=∃ q0:Option Nat × Nat,c = [rowV q0 x.length]∧stars [row nilH 112 (rowV q0 x.length) x] h
 toR:=fun ⟨q0,e,⟨_,_,a0,_,_,l0,k0⟩⟩=>by rw [e]; exact Enc.mono l0 (row_R a0)
 mono:=fun hl ⟨q0,e,s⟩=>⟨_,e,stars_mono hl s⟩

theorem hsr_DRF:∀ {hs:HsAt} {p:Hp},stars (hsr hs) p→DRF p (hs.map Prod.snd) (hs.map fun z=>rowV z.1 z.2.length)
 | [],_,_=>rfl
 | z :: hs,p,⟨a,b,ha,hb,hd,l1,l2⟩=>⟨[rowV z.1 z.2.length],_,a,b,rfl,⟨z.1,rfl,a,fun _=>none,ha,trivial,fun _=>.inr rfl,Hp.le_refl _,fun _ _ e=>by cases e⟩,hsr_DRF hb,hd,l1,l2⟩
theorem hsl_RF {h:Hp}:∀ {hs:HsAt} {cs:List Value},RF h (hsl hs) cs→cs = hs.map fun z=>rowV z.1 z.2.length
 | [],_,e=>e
 | z :: hs,cs,⟨c,r,e,hc,hr⟩=>by
  have h1:c = [rowV z.1 z.2.length]:=hc
  have h2:=hsl_RF hr
  subst h1 h2 e; rfl
theorem hsDrow {w0 w:World} {G:List Ch} {q:Option Nat × Nat} {x:Hss} (j:Nat) (s:Sat w0 G w) (hj:G[j]? = some (Hss_ch q x)):Sat w0 (G.set j (drow 87 (rowV q x.length) x)) w:=by
 refine s.weaken j hj _ fun p hp=>?_
 obtain ⟨⟨hs,hh⟩,a,b,ha,⟨b1,b2,hb,_,_,k1,_⟩,hd,l1,l2⟩:=hp
 have hD:=(hsr_DRF hb).mono k1
 subst hh
 rcases ha with ⟨hv,hn⟩ | ⟨g,cap,cs,sp,hv,hg,hle,hcm,hl,hr⟩
 ·have hs0:hs = []:=by
   have:(hsl hs).length = 0:=by rw [hn]; rfl
   simpa [hsl] using this
  subst hs0
  exact .inl ⟨hv,rfl,rfl⟩
 ·have hlen:(hsl hs).length = (hs.map Prod.snd).length:=by simp [hsl]
  refine .inr ⟨g,cap,cs,sp,by rw [hv]; show Value.slice _ (hsl hs).length _ = _; rw [hlen],l1 _ _ hg,by rw [← hlen]; exact hle,hcm,hl,?_⟩
  rw [hsl_RF hr]
  refine hD.mono fun c o e=>?_
  have hne:c ≠ g:=fun e2=>by
   subst e2
   rcases hd c with h | h
   ·rw [hg] at h; cases h
   ·rw [h] at e; cases e
  unfold Hp.off
  rw [if_neg hne]
  exact l2 _ _ e
theorem lenOnes {P:Program} {n:Nat} {fr:Fr} {dst:Option Tmp} {ty:TypeId} {pos:String} {aft:Array Edge} {g:Option (Nat × Bool)} {e:TypeId} {x:Operand} {at':TypeId} {sz by' nl cap:Nat} {p:Option Addr} {l:Ones} (ht:slTy P at' = some (e,sz,by')) (hx:ev fr x = some (.slice p nl cap)) (h:l.length = nl):Pu P n ⟨dst,.call { callee:=.builtin .len,args:=#[x],argTypes:=#[at'] },ty,pos,aft,g⟩ fr (.int .i64 l.length):=by subst h; exact Pu.lenSl ht hx
structure Pty where
 l:Ones
 hashes:Hss
 log:List Frm
 deriving Inhabited
structure Par where
 c:Pty
 m:List Nte
 deriving Inhabited
def Pty_ch (g:Nat) (vm:Value) (x:Pty):Ch:=exch fun q:{q:List Pt × (Option Nat × Nat) × (Option Nat × Nat) × (Option Nat × Nat) × Nat × Nat // q.1.length = q.2.2.2.2.1∧x.l.length = q.2.2.2.2.1∧x.hashes.length = q.2.2.2.2.2}=>stars ((blk g [rowV q.1.2.1 q.1.2.2.2.2.1,vm,.slice none 0 0,rowV q.1.2.2.1 q.1.2.2.2.2.2,.slice none 0 0,.slice none 0 0,rowV q.1.2.2.2.1 x.log.length] 85) :: [row nilH 92 (rowV q.1.2.1 q.1.2.2.2.2.1) q.1.1,Ones_ch q.1.1 x.l,Hss_ch q.1.2.2.1 x.hashes,drow 200 (rowV q.1.2.2.2.1 x.log.length) x.log])
theorem Pty_open {w0 w:World} {G:List Ch} {g:Nat} {vm:Value} {x:Pty} (k:Nat) (hk:G[k]? = some (Pty_ch g vm x)) (h:Sat w0 G w):∃ q:{q:List Pt × (Option Nat × Nat) × (Option Nat × Nat) × (Option Nat × Nat) × Nat × Nat // q.1.length = q.2.2.2.2.1∧x.l.length = q.2.2.2.2.1∧x.hashes.length = q.2.2.2.2.2},Sat w0 (G.set k (blk g [rowV q.1.2.1 q.1.2.2.2.2.1,vm,.slice none 0 0,rowV q.1.2.2.1 q.1.2.2.2.2.2,.slice none 0 0,.slice none 0 0,rowV q.1.2.2.2.1 x.log.length] 85) ++ [row nilH 92 (rowV q.1.2.1 q.1.2.2.2.2.1) q.1.1,Ones_ch q.1.1 x.l,Hss_ch q.1.2.2.1 x.hashes,drow 200 (rowV q.1.2.2.2.1 x.log.length) x.log]) w:=Sat.openAt (A:=fun q:{q:List Pt × (Option Nat × Nat) × (Option Nat × Nat) × (Option Nat × Nat) × Nat × Nat // q.1.length = q.2.2.2.2.1∧x.l.length = q.2.2.2.2.1∧x.hashes.length = q.2.2.2.2.2}=>(blk g [rowV q.1.2.1 q.1.2.2.2.2.1,vm,.slice none 0 0,rowV q.1.2.2.1 q.1.2.2.2.2.2,.slice none 0 0,.slice none 0 0,rowV q.1.2.2.2.1 x.log.length] 85)) (L:=fun q:{q:List Pt × (Option Nat × Nat) × (Option Nat × Nat) × (Option Nat × Nat) × Nat × Nat // q.1.length = q.2.2.2.2.1∧x.l.length = q.2.2.2.2.1∧x.hashes.length = q.2.2.2.2.2}=>[row nilH 92 (rowV q.1.2.1 q.1.2.2.2.2.1) q.1.1,Ones_ch q.1.1 x.l,Hss_ch q.1.2.2.1 x.hashes,drow 200 (rowV q.1.2.2.2.1 x.log.length) x.log]) k hk h
theorem Pty_shut {w0 w:World} {R:List Ch} {g:Nat} {vm:Value} {x:Pty} (q:{q:List Pt × (Option Nat × Nat) × (Option Nat × Nat) × (Option Nat × Nat) × Nat × Nat // q.1.length = q.2.2.2.2.1∧x.l.length = q.2.2.2.2.1∧x.hashes.length = q.2.2.2.2.2}) (h:Sat w0 (R ++ [blk g [rowV q.1.2.1 q.1.2.2.2.2.1,vm,.slice none 0 0,rowV q.1.2.2.1 q.1.2.2.2.2.2,.slice none 0 0,.slice none 0 0,rowV q.1.2.2.2.1 x.log.length] 85,row nilH 92 (rowV q.1.2.1 q.1.2.2.2.2.1) q.1.1,Ones_ch q.1.1 x.l,Hss_ch q.1.2.2.1 x.hashes,drow 200 (rowV q.1.2.2.2.1 x.log.length) x.log]) w):Sat w0 (Pty_ch g vm x :: R) w:=Sat.toEx (C:=fun q:{q:List Pt × (Option Nat × Nat) × (Option Nat × Nat) × (Option Nat × Nat) × Nat × Nat // q.1.length = q.2.2.2.2.1∧x.l.length = q.2.2.2.2.1∧x.hashes.length = q.2.2.2.2.2}=>stars ((blk g [rowV q.1.2.1 q.1.2.2.2.2.1,vm,.slice none 0 0,rowV q.1.2.2.1 q.1.2.2.2.2.2,.slice none 0 0,.slice none 0 0,rowV q.1.2.2.2.1 x.log.length] 85) :: [row nilH 92 (rowV q.1.2.1 q.1.2.2.2.2.1) q.1.1,Ones_ch q.1.1 x.l,Hss_ch q.1.2.2.1 x.hashes,drow 200 (rowV q.1.2.2.2.1 x.log.length) x.log])) q (Sat.toStars ((blk g [rowV q.1.2.1 q.1.2.2.2.2.1,vm,.slice none 0 0,rowV q.1.2.2.1 q.1.2.2.2.2.2,.slice none 0 0,.slice none 0 0,rowV q.1.2.2.2.1 x.log.length] 85) :: [row nilH 92 (rowV q.1.2.1 q.1.2.2.2.2.1) q.1.1,Ones_ch q.1.1 x.l,Hss_ch q.1.2.2.1 x.hashes,drow 200 (rowV q.1.2.2.2.1 x.log.length) x.log]) (G:=R) h)
def Par_ch (g:Nat) (x:Par):Ch:=exch fun q:(Option Nat × Nat) × Hp=>stars ((Pty_ch g (rowV q.1 x.m.length) x.c) :: [rowG (FA q.2) 212 (rowV q.1 x.m.length) x.m,fz q.2])
theorem Par_open {w0 w:World} {G:List Ch} {g:Nat} {x:Par} (k:Nat) (hk:G[k]? = some (Par_ch g x)) (h:Sat w0 G w):∃ q:(Option Nat × Nat) × Hp,Sat w0 (G.set k (Pty_ch g (rowV q.1 x.m.length) x.c) ++ [rowG (FA q.2) 212 (rowV q.1 x.m.length) x.m,fz q.2]) w:=Sat.openAt (A:=fun q:(Option Nat × Nat) × Hp=>(Pty_ch g (rowV q.1 x.m.length) x.c)) (L:=fun q:(Option Nat × Nat) × Hp=>[rowG (FA q.2) 212 (rowV q.1 x.m.length) x.m,fz q.2]) k hk h
theorem Par_shut {w0 w:World} {R:List Ch} {g:Nat} {x:Par} (q:(Option Nat × Nat) × Hp) (h:Sat w0 (R ++ [(Pty_ch g (rowV q.1 x.m.length) x.c),rowG (FA q.2) 212 (rowV q.1 x.m.length) x.m,fz q.2]) w):Sat w0 (Par_ch g x :: R) w:=Sat.toEx (C:=fun q:(Option Nat × Nat) × Hp=>stars ((Pty_ch g (rowV q.1 x.m.length) x.c) :: [rowG (FA q.2) 212 (rowV q.1 x.m.length) x.m,fz q.2])) q (Sat.toStars ((Pty_ch g (rowV q.1 x.m.length) x.c) :: [rowG (FA q.2) 212 (rowV q.1 x.m.length) x.m,fz q.2]) (G:=R) h)

end Go.Proofs.YtmngdgclldkcfaaGreat
set_option linter.unusedVariables false
set_option linter.unusedSimpArgs false
set_option maxRecDepth 20000
set_option maxHeartbeats 4000000
namespace Go.Proofs.YtmngdgclldkcfaaGreat
open Go.Vg
open Enc (R)
def army_riders (a0_w:Wld):Option Bool :=
  Option.bind (α:=Ex (Unit) (Bool)) (loop (σ:=Int) (β:=Ex (Unit) (Bool)) (fun v4 =>
  if v4 < (a0_w.us.length:Int) then
  none
  else
  some (St.done (Ex.go ()))) 0) fun x=>x.then fun _ =>
  some true
def army_May (a0_w:Wld):Option Bool :=
  Option.bind (army_form0 a0_w) fun x2 =>
  if (!x2) = true then
  some false
  else
  Option.bind (α:=Unit) (loop (σ:=Int) (β:=Unit) (fun v17 =>
  if v17 < (a0_w.bs.length:Int) then
  none
  else
  some (St.done ())) 0) fun _ =>
  Option.bind (α:=Ex (Unit) (Bool)) (loop (σ:=Int) (β:=Ex (Unit) (Bool)) (fun v14 =>
  if v14 < (a0_w.us.length:Int) then
  none
  else
  some (St.done (Ex.go ()))) 0) fun x=>x.then fun _ =>
  if a0_w.us.length = 0 then
  Option.bind (α:=Ex (Unit) (Bool)) (loop (σ:=Int) (β:=Ex (Unit) (Bool)) (fun v11 =>
  if v11 < (a0_w.us.length:Int) then
  none
  else
  some (St.done (Ex.go ()))) 0) fun x=>x.then fun _ =>
  Option.bind (army_riders a0_w) fun x10 =>
  some x10
  else none
def eng_Open (a0_w:Wld) (a1_room:Int):Option (Option Egn × Int) :=
  Option.bind (fields_New a1_room) fun (o3,o4) =>
  Option.bind (if ¬ o4 = 0 then
  some true
  else
  Option.bind (army_May a0_w) fun x17 =>
  some (!x17)) fun b8 =>
  if b8 = true then
  some (none,1)
  else
  Option.bind (army_Own a0_w) fun x10 =>
  Option.bind o3 fun z14 =>
  some (some (⟨x10,z14⟩:Egn),0)
def eng_World (a0_x:Egn):Option Wld :=
  Option.bind (army_Own a0_x.w) fun x6 =>
  some x6
def eng_Step (a0_x:Egn) (a1_l:List Cmd):Option (List Int × Int × Egn) :=
  if a0_x.w.tick = 1099511627776 then
  some ([],10,a0_x)
  else
  if 512 < (a1_l.length:Int) then
  some ([],2,a0_x)
  else
  Option.bind (α:=Egn × List Int) (loop (σ:=List Int × Int × Egn) (β:=Egn × List Int) (fun (l24,v26,v27) =>
  if v26 < (a1_l.length:Int) then
  if 0 ≤ v26∧v26 < (a1_l.length:Int) then
  Option.bind (α:=Int × Int × Int × Int × Int × Int × Fld × List UInt8 × List Bld × List Unt) (Option.bind (apply_Do v27.w (gi a1_l v26) v27.f) fun x63 =>
  some (x63.1.1.tick,x63.1.1.players,x63.1.1.nextid,x63.1.1.g.w,x63.1.1.g.h,x63.1.2,x63.2,x63.1.1.g.tiles,x63.1.1.bs,x63.1.1.us)) fun (v46,v47,v48,v49,v50,v51,v52,v53,v55,v57) =>
  if l24.length < 1099511627776 then
  if I64 (v26 + 1) then
  some (St.next ((l24 ++ [v51]),(v26 + 1),(⟨(⟨v46,v47,v48,(⟨v49,v50,v53⟩:Grd),v55,v57⟩:Wld),v52⟩:Egn)))
  else none
  else none
  else none
  else
  some (St.done (v27,l24))) ([],0,a0_x)) fun (v8,v9) =>
  Option.bind (army_Own v8.w) fun x15 =>
  Option.bind (move_Go x15 v8.f) fun x19 =>
  if I64 (x19.1.tick + 1) then
  some (v9,0,(⟨(⟨(x19.1.tick + 1),x19.1.players,x19.1.nextid,x19.1.g,x19.1.bs,x19.1.us⟩:Wld),x19.2⟩:Egn))
  else none
end Go.Proofs.YtmngdgclldkcfaaGreat
set_option linter.unusedSimpArgs false
set_option linter.unusedVariables false
namespace Go.Vg
open Enc (R)
def w64 (x:Int):Int:=(x + 9223372036854775808) % 18446744073709551616 - 9223372036854775808
section
variable {P:Program} {n:Nat} {fr:Fr} {dst:Option Tmp} {ty:TypeId} {pos:String} {aft:Array Edge} {g:Option (Nat × Bool)}
theorem Pu.subW {xt yt:TypeId} {x y:Operand} {a b:Int} (hx:ev fr x = some (.int .i64 a)) (hy:ev fr y = some (.int .i64 b)) :
  Pu P n ⟨dst,.binOp .sub xt x y yt,ty,pos,aft,g⟩ fr (.int .i64 (w64 (a - b))):=Pu.bin hx hy (by rw [binI,IntKind.wrap_i64]; rfl)
end
def Pr3.Wf (x:Pr3):Prop:=I64 x.a∧I64 x.b∧I64 x.c
end Go.Vg
set_option linter.unusedVariables false
set_option linter.unusedSimpArgs false
set_option maxRecDepth 20000
set_option maxHeartbeats 4000000
namespace Go.Proofs.YtmngdgclldkcfaaGreat
open Go.Vg
open Enc (R)
def slices_Min (a0_x:List Int):Option Int :=
  Option.bind (α:=Unit) (if (a0_x.length:Int) < 1 then
  none
  else
  some ()) fun _ =>
  if 0 ≤ (0:Int)∧(0:Int) < (a0_x.length:Int) then
  Option.bind (α:=Int) (loop (σ:=Int × Int) (β:=Int) (fun (v7,v8) =>
  if v8 < (a0_x.length:Int) then
  if 0 ≤ v8∧v8 < (a0_x.length:Int) then
  if I64 (v8 + 1) then
  some (St.next ((min v7 (gi a0_x v8)),(v8 + 1)))
  else none
  else none
  else
  some (St.done v7)) ((gi a0_x (0:Int)),1)) fun v6 =>
  some v6
  else none
def slices_MaxI (a0_x:List Int):Option Int :=
  Option.bind (α:=Unit) (if (a0_x.length:Int) < 1 then
  none
  else
  some ()) fun _ =>
  if 0 ≤ (0:Int)∧(0:Int) < (a0_x.length:Int) then
  Option.bind (α:=Int) (loop (σ:=Int × Int) (β:=Int) (fun (v7,v8) =>
  if v8 < (a0_x.length:Int) then
  if 0 ≤ v8∧v8 < (a0_x.length:Int) then
  if I64 (v8 + 1) then
  some (St.next ((max v7 (gi a0_x v8)),(v8 + 1)))
  else none
  else none
  else
  some (St.done v7)) ((gi a0_x (0:Int)),1)) fun v6 =>
  some v6
  else none
def peer_counts (a0_p:Per) (a1_l:List Int):Option Bool :=
  Option.bind (α:=Ex (Unit) (Bool)) (loop (σ:=Int) (β:=Ex (Unit) (Bool)) (fun v9 =>
  if v9 < (a1_l.length:Int) then
  if 0 ≤ v9∧v9 < (a1_l.length:Int) then
  if I64 (a0_p.delay - 1) then
  if ¬ ((gi a1_l v9) < (a0_p.delay - 1))→(I64 (a0_p.turn + 16)) then
  if (((gi a1_l v9) < (a0_p.delay - 1)) ∨ ((a0_p.turn + 16) < (gi a1_l v9))) ∨ (1099511627776 < (gi a1_l v9)) then
  some (St.done (Ex.up false))
  else
  if I64 (v9 + 1) then
  some (St.next (v9 + 1))
  else none
  else none
  else none
  else none
  else
  some (St.done (Ex.go ()))) 0) fun x=>x.then fun _ =>
  if ((a1_l.length:Int) = a0_p.players)→(I64 (a0_p.id - 1)) then
  if ((a1_l.length:Int) = a0_p.players)→(0 ≤ (a0_p.id - 1)∧(a0_p.id - 1) < (a1_l.length:Int)) then
  some (decide (((a1_l.length:Int) = a0_p.players)∧((gi a1_l (a0_p.id - 1)) = a0_p.said)))
  else none
  else none
def peer_mine (a0_p:Per):Option Bool :=
  Option.bind (slices_Min a0_p.acked) fun x2 =>
  if I64 (a0_p.said - x2) then
  if ¬ (a0_p.mine.length:Int) = (a0_p.said - x2) then
  some false
  else
  Option.bind (α:=Ex (Unit) (Bool)) (loop (σ:=Int) (β:=Ex (Unit) (Bool)) (fun v6 =>
  if v6 < (a0_p.mine.length:Int) then
  if 0 ≤ v6∧v6 < (a0_p.mine.length:Int) then
  Option.bind (turns_May (gi a0_p.mine v6)) fun x19 =>
  if ¬ (((!x19) = true) ∨ (¬ (gi a0_p.mine v6).player = a0_p.id))→(I64 (a0_p.said - (a0_p.mine.length:Int))) then
  if ¬ (((!x19) = true) ∨ (¬ (gi a0_p.mine v6).player = a0_p.id))→(I64 ((a0_p.said - (a0_p.mine.length:Int)) + 1)) then
  if ¬ (((!x19) = true) ∨ (¬ (gi a0_p.mine v6).player = a0_p.id))→(I64 (((a0_p.said - (a0_p.mine.length:Int)) + 1) + v6)) then
  if (((!x19) = true) ∨ (¬ (gi a0_p.mine v6).player = a0_p.id)) ∨ (¬ (gi a0_p.mine v6).turn = (((a0_p.said - (a0_p.mine.length:Int)) + 1) + v6)) then
  some (St.done (Ex.up false))
  else
  if I64 (v6 + 1) then
  some (St.next (v6 + 1))
  else none
  else none
  else none
  else none
  else none
  else
  some (St.done (Ex.go ()))) 0) fun x=>x.then fun _ =>
  some true
  else none
def peer_inputs (a0_p:Per):Option Bool :=
  Option.bind (α:=Ex (Unit) (Bool)) (loop (σ:=Int) (β:=Ex (Unit) (Bool)) (fun v3 =>
  if v3 < (a0_p.inputs.length:Int) then
  if 0 ≤ v3∧v3 < (a0_p.inputs.length:Int) then
  if ¬ (((gi a0_p.inputs v3).turn < a0_p.turn) ∨ (a0_p.players < (gi a0_p.inputs v3).player))→(I64 (((gi a0_p.inputs v3).player) - 1)) then
  if ¬ (((gi a0_p.inputs v3).turn < a0_p.turn) ∨ (a0_p.players < (gi a0_p.inputs v3).player))→(0 ≤ (((gi a0_p.inputs v3).player) - 1)∧(((gi a0_p.inputs v3).player) - 1) < (a0_p.has.length:Int)) then
  if (((gi a0_p.inputs v3).turn < a0_p.turn) ∨ (a0_p.players < (gi a0_p.inputs v3).player)) ∨ ((gi a0_p.has (((gi a0_p.inputs v3).player) - 1)) < (gi a0_p.inputs v3).turn) then
  some (St.done (Ex.up false))
  else
  if I64 (v3 + 1) then
  some (St.next (v3 + 1))
  else none
  else none
  else none
  else none
  else
  some (St.done (Ex.go ()))) 0) fun x=>x.then fun _ =>
  some true
def peer_May (a0_p:Per):Option Bool :=
  if (((((((a0_p.players < 1) ∨ (8 < a0_p.players)) ∨ (a0_p.id < 1)) ∨ (a0_p.players < a0_p.id)) ∨ (a0_p.delay < 1)) ∨ (8 < a0_p.delay)) ∨ (a0_p.turn < 0)) ∨ (1099511627776 < a0_p.turn) then
  some false
  else
  if I64 (a0_p.delay - 1) then
  if ¬ (a0_p.said < (a0_p.delay - 1))→(I64 (a0_p.turn + a0_p.delay)) then
  if ¬ (a0_p.said < (a0_p.delay - 1))→(I64 ((a0_p.turn + a0_p.delay) - 1)) then
  Option.bind (if ((a0_p.said < (a0_p.delay - 1)) ∨ (((a0_p.turn + a0_p.delay) - 1) < a0_p.said)) ∨ (1099511627776 < a0_p.said) then
  some true
  else
  Option.bind (peer_counts a0_p a0_p.has) fun x57 =>
  some (!x57)) fun b26 =>
  Option.bind (if b26 = true then
  some true
  else
  Option.bind (peer_counts a0_p a0_p.acked) fun x55 =>
  some (!x55)) fun b29 =>
  if b29 = true then
  some false
  else
  Option.bind (slices_Min a0_p.has) fun x31 =>
  if I64 (a0_p.turn - 1) then
  Option.bind (if x31 < (a0_p.turn - 1) then
  some true
  else
  Option.bind (slices_MaxI a0_p.acked) fun x53 =>
  some (decide (a0_p.said < x53))) fun b35 =>
  if ((b35 = true) ∨ (16 < (a0_p.hashes.length:Int))) ∨ (a0_p.turn < (a0_p.hashes.length:Int)) then
  some false
  else
  Option.bind (peer_mine a0_p) fun x41 =>
  Option.bind (if x41 = true then
  Option.bind (turns_Rising a0_p.inputs) fun x51 =>
  some x51
  else
  some false) fun b44 =>
  Option.bind (if b44 = true then
  Option.bind (peer_inputs a0_p) fun x49 =>
  some x49
  else
  some false) fun b47 =>
  some b47
  else none
  else none
  else none
  else none
def peer_Own (a0_p:Per):Option Per :=
  Option.bind (turns_OwnAll a0_p.mine) fun x3 =>
  Option.bind (turns_OwnAll a0_p.inputs) fun x5 =>
  Option.bind (slices_Clone_Int a0_p.has) fun x7 =>
  Option.bind (slices_Clone_Int a0_p.acked) fun x9 =>
  Option.bind (slices_Clone_U64 a0_p.hashes) fun x11 =>
  some (⟨a0_p.id,a0_p.players,a0_p.delay,a0_p.turn,a0_p.said,x3,x5,x7,x9,x11,a0_p.split⟩:Per)
def peer_New (a0_id:Int) (a1_players:Int) (a2_delay:Int):Option (Per × Int) :=
  if (1 ≤ a1_players)∧(a1_players ≤ 8) then
  Option.bind (slices_Repeat_Int ([(w64 (a2_delay - 1))]:List Int) a1_players) fun x7 =>
  Option.bind (slices_Repeat_Int ([(w64 (a2_delay - 1))]:List Int) a1_players) fun x10 =>
  Option.bind (peer_May (⟨a0_id,a1_players,a2_delay,0,(w64 (a2_delay - 1)),[],[],x7,x10,[],false⟩:Per)) fun x12 =>
  if (!x12) = true then
  some ((⟨0,0,0,0,0,[],[],[],[],[],false⟩:Per),1)
  else
  some ((⟨a0_id,a1_players,a2_delay,0,(w64 (a2_delay - 1)),[],[],x7,x10,[],false⟩:Per),0)
  else
  Option.bind (peer_May (⟨a0_id,a1_players,a2_delay,0,(w64 (a2_delay - 1)),[],[],[],[],[],false⟩:Per)) fun x14 =>
  if (!x14) = true then
  some ((⟨0,0,0,0,0,[],[],[],[],[],false⟩:Per),1)
  else
  some ((⟨a0_id,a1_players,a2_delay,0,(w64 (a2_delay - 1)),[],[],[],[],[],false⟩:Per),0)
def peer_can (a0_p:Per):Option Bool :=
  Option.bind (slices_Min a0_p.has) fun x2 =>
  some (decide ((a0_p.turn ≤ x2)∧(a0_p.turn < 1099511627776)))
def peer_Ready (a0_p:Per):Option (List Cmd × Bool × Int) :=
  Option.bind (peer_May a0_p) fun x2 =>
  if (!x2) = true then
  some ([],false,1)
  else
  Option.bind (peer_can a0_p) fun x4 =>
  if (!x4) = true then
  some ([],false,0)
  else
  Option.bind (turns_Part a0_p.inputs a0_p.turn) fun x6 =>
  Option.bind (turns_All x6.1) fun x9 =>
  some (x9,true,0)
def peer_Ran (a0_p:Per) (a1_h:UInt64):Option (Per × Int) :=
  Option.bind (peer_May a0_p) fun x3 =>
  if (!x3) = true then
  some ((⟨0,0,0,0,0,[],[],[],[],[],false⟩:Per),1)
  else
  Option.bind (peer_can a0_p) fun x5 =>
  if (!x5) = true then
  some ((⟨0,0,0,0,0,[],[],[],[],[],false⟩:Per),10)
  else
  Option.bind (peer_Own a0_p) fun x7 =>
  Option.bind (turns_Part x7.inputs x7.turn) fun x13 =>
  if I64 (x7.turn + 1) then
  if x7.hashes.length < 1099511627776 then
  if 16 < ((x7.hashes ++ [a1_h]).length:Int) then
  if 0 ≤ (1:Int)∧(1:Int) ≤ ((x7.hashes ++ [a1_h]).length:Int) then
  some ((⟨x7.id,x7.players,x7.delay,(x7.turn + 1),x7.said,x7.mine,x13.2,x7.has,x7.acked,((x7.hashes ++ [a1_h]).drop (1:Int).toNat),x7.split⟩:Per),0)
  else none
  else
  some ((⟨x7.id,x7.players,x7.delay,(x7.turn + 1),x7.said,x7.mine,x13.2,x7.has,x7.acked,(x7.hashes ++ [a1_h]),x7.split⟩:Per),0)
  else none
  else none
def peer_Say (a0_p:Per) (a1_l:List Cmd):Option (Per × Int) :=
  Option.bind (peer_May a0_p) fun x3 =>
  if (!x3) = true then
  some ((⟨0,0,0,0,0,[],[],[],[],[],false⟩:Per),1)
  else
  if I64 (a0_p.turn + a0_p.delay) then
  if I64 ((a0_p.turn + a0_p.delay) - 1) then
  if (a0_p.said = ((a0_p.turn + a0_p.delay) - 1)) ∨ (a0_p.said = 1099511627776) then
  some ((⟨0,0,0,0,0,[],[],[],[],[],false⟩:Per),10)
  else
  Option.bind (turns_Said a0_p.id a1_l) fun x10 =>
  if (!x10) = true then
  some ((⟨0,0,0,0,0,[],[],[],[],[],false⟩:Per),1)
  else
  Option.bind (peer_Own a0_p) fun x12 =>
  if I64 (x12.said + 1) then
  Option.bind (turns_In x12.inputs (⟨(x12.said + 1),x12.id,a1_l⟩:Inp)) fun x20 =>
  Option.bind (α:=List Inp) (if 1 < x12.players then
  Option.bind (turns_Own (⟨(x12.said + 1),x12.id,a1_l⟩:Inp)) fun x34 =>
  if x12.mine.length + 1 < 1099511627776 then
  some (x12.mine ++ ([x34]:List Inp))
  else none
  else
  some x12.mine) fun v23 =>
  if I64 (x12.id - 1) then
  if I64 (x12.id - 1) then
  if 0 ≤ (x12.id - 1)∧(x12.id - 1) < (x12.has.length:Int) then
  if 0 ≤ (x12.id - 1)∧(x12.id - 1) < (x12.acked.length:Int) then
  some ((⟨x12.id,x12.players,x12.delay,x12.turn,(x12.said + 1),v23,x20.1,(si x12.has (x12.id - 1) (x12.said + 1)),(si x12.acked (x12.id - 1) (x12.said + 1)),x12.hashes,x12.split⟩:Per),0)
  else none
  else none
  else none
  else none
  else none
  else none
  else none
def slices_IndexFuncI (a0_s:List Inp) (a1_f:Inp→Option Bool):Option Int :=
  Option.bind (α:=Ex (Unit) (Int)) (loop (σ:=Int) (β:=Ex (Unit) (Int)) (fun v2 =>
  if v2 < (a0_s.length:Int) then
  if 0 ≤ v2∧v2 < (a0_s.length:Int) then
  Option.bind (a1_f (gi a0_s v2)) fun x14 =>
  if x14 = true then
  some (St.done (Ex.up v2))
  else
  if I64 (v2 + 1) then
  some (St.next (v2 + 1))
  else none
  else none
  else
  some (St.done (Ex.go ()))) 0) fun x=>x.then fun _ =>
  some (-1)
def peer_Notes_1 (a0_i:Inp) (cv0:Per) (cv1:Int):Option Bool :=
  if I64 (cv1 - 1) then
  if 0 ≤ (cv1 - 1)∧(cv1 - 1) < (cv0.acked.length:Int) then
  if I64 ((gi cv0.acked (cv1 - 1)) + 1) then
  some (decide (a0_i.turn = ((gi cv0.acked (cv1 - 1)) + 1)))
  else none
  else none
  else none
def peer_Notes (a0_p:Per):Option (List Nte × Int) :=
  Option.bind (peer_May a0_p) fun x2 =>
  if (!x2) = true then
  some ([],1)
  else
  Option.bind (α:=Int × List Nte) (loop (σ:=List Nte × Int) (β:=Int × List Nte) (fun (l10,v12) =>
  if v12 ≤ a0_p.players then
  if v12 = a0_p.id then
  if I64 (v12 + 1) then
  some (St.next (l10,(v12 + 1)))
  else none
  else
  if I64 (v12 - 1) then
  if 0 ≤ (v12 - 1)∧(v12 - 1) < (a0_p.has.length:Int) then
  Option.bind (α:=Int × UInt64) (if 0 < (a0_p.hashes.length:Int) then
  if I64 (a0_p.turn - 1) then
  if I64 ((a0_p.hashes.length:Int) - 1) then
  if 0 ≤ ((a0_p.hashes.length:Int) - 1)∧((a0_p.hashes.length:Int) - 1) < (a0_p.hashes.length:Int) then
  some ((a0_p.turn - 1),(gi a0_p.hashes ((a0_p.hashes.length:Int) - 1)))
  else none
  else none
  else none
  else
  some ((-1),(0:UInt64))) fun (v25,v26) =>
  Option.bind (slices_IndexFuncI a0_p.mine (fun y0=>peer_Notes_1 y0 a0_p v12)) fun x27 =>
  Option.bind (α:=Int × Int × List Cmd) (if 0 ≤ x27 then
  if 0 ≤ x27∧x27 < (a0_p.mine.length:Int) then
  Option.bind (turns_Own (gi a0_p.mine x27)) fun x48 =>
  some (x48.turn,x48.player,x48.commands)
  else none
  else
  some ((-1),0,[])) fun (v29,v30,v31) =>
  if l10.length + 1 < 1099511627776 then
  if I64 (v12 + 1) then
  some (St.next ((l10 ++ ([(⟨a0_p.id,v12,(⟨v29,v30,v31⟩:Inp),v25,v26,(gi a0_p.has (v12 - 1))⟩:Nte)]:List Nte)),(v12 + 1)))
  else none
  else none
  else none
  else none
  else
  some (St.done (v12,l10))) ([],1)) fun (v6,v8) =>
  some (v8,0)
end Go.Proofs.YtmngdgclldkcfaaGreat
