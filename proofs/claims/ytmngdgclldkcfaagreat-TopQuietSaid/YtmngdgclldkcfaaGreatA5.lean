/-
  Texts of one's own, joined: SA SSG TLO TLG TLG1.
-/
import Derived.Test.YtmngdgclldkcfaaGreatA2
import Derived.Test.YtmngdgclldkcfaaGreatA3
import Derived.Test.YtmngdgclldkcfaaGreatW3
import Derived.Test.YtmngdgclldkcfaaGreatRows
import Derived.Test.YtmngdgclldkcfaaGreatA4
set_option linter.unusedVariables false
set_option linter.unusedSimpArgs false
set_option maxRecDepth 20000
namespace Go.Proofs.YtmngdgclldkcfaaGreat
open Go.Vg
open Enc (R)
theorem len_si' {α:Type} {l:List α} {e:Int} {x:α} {n:Nat} (h:l.length = n):(si l e x).length = n:=by rw [len_si]; exact h
theorem star_comm {A B:Ch} {h:Hp}:star A B h→star B A h:=fun ⟨p,q,a,b,c,d,e⟩=>⟨q,p,b,a,fun x=>(c x).symm,e,d⟩
structure Pt where
  a:Nat
  deriving Inhabited
instance:Enc Pt where
  sz:=1
  R _ x cs:=cs = [.pointer (some ⟨x.a,0,none⟩)]
  len:=fun h=>by rw [h]; rfl
  one:=fun h u hu=>by rw [h] at hu; simp at hu; subst hu; rfl
  mono:=fun _ h=>h
instance:Flat Pt:=⟨fun h=>h⟩
structure Sl where
  q:Option Nat × Nat
  n:Nat
  deriving Inhabited
instance:Enc Sl where
  sz:=1
  R _ x cs:=cs = [rowV x.q x.n]
  len:=fun h=>by rw [h]; rfl
  one:=fun h u hu=>by rw [h] at hu; simp at hu; subst hu; rfl
  mono:=fun _ h=>h
theorem stars_get {L:List Ch} {i:Nat} {h:Hp} (hi:i < L.length) (s:stars L h):star (stars (L.eraseIdx i)) L[i] h:=by
  have e:L = L.take i ++ L[i] :: L.drop (i + 1):=by
    rw [← List.drop_eq_getElem_cons hi,List.take_append_drop]
  rw [e] at s
  have:=stars_out s
  rw [List.eraseIdx_eq_take_drop_succ]
  exact star_comm this
theorem stars_put {L:List Ch} {i:Nat} {h:Hp} {C:Ch} (hi:i < L.length) (s:star (stars (L.eraseIdx i)) C h):stars (L.set i C) h:=by
  rw [List.eraseIdx_eq_take_drop_succ] at s
  rw [List.set_eq_take_append_cons_drop,if_pos hi]
  exact stars_in (star_comm s)
theorem zip_set {α β:Type}:∀ {gs:List α} {l:List β} {i:Nat} {o:β} (hi:i < gs.length),gs.zip (l.set i o) = (gs.zip l).set i (gs[i],o)
  | [],l,i,o,hi=>by simp at hi
  | g :: gs,[],i,o,hi=>by simp
  | g :: gs,x :: l,0,o,hi=>by simp
  | g :: gs,x :: l,i + 1,o,hi=>by
    simp only [List.set_cons_succ,List.zip_cons_cons,List.getElem_cons_succ]
    rw [zip_set (by simpa using hi)]
structure One where
  p:Per
  w:Wld
  deriving Inhabited
def One_ch (g:Nat) (x:One):Ch:=exch fun q:(Option Nat × Nat) × (Option Nat × Nat) × (Option Nat × Nat) × (Option Nat × Nat) × Value × Nat=>stars ((blk g [.int .i64 x.p.id,.int .i64 x.p.players,.int .i64 x.p.delay,.int .i64 x.p.turn,.int .i64 x.p.said,rowV q.1 x.p.mine.length,rowV q.2.1 x.p.inputs.length,rowV q.2.2.1 x.p.has.length,rowV q.2.2.2.1 x.p.acked.length,q.2.2.2.2.1,.bool x.p.split,.pointer (some ⟨q.2.2.2.2.2,0,none⟩)] 94) :: [drow 210 (rowV q.1 x.p.mine.length) x.p.mine,drow 210 (rowV q.2.1 x.p.inputs.length) x.p.inputs,row nilH 3 (rowV q.2.2.1 x.p.has.length) x.p.has,row nilH 3 (rowV q.2.2.2.1 x.p.acked.length) x.p.acked,osl 112 (q.2.2.2.2.1) x.p.hashes,Eng_ch q.2.2.2.2.2 x.w])
theorem One_open {w0 w:World} {G:List Ch} {g:Nat} {x:One} (k:Nat) (hk:G[k]? = some (One_ch g x)) (h:Sat w0 G w):∃ q:(Option Nat × Nat) × (Option Nat × Nat) × (Option Nat × Nat) × (Option Nat × Nat) × Value × Nat,Sat w0 (G.set k (blk g [.int .i64 x.p.id,.int .i64 x.p.players,.int .i64 x.p.delay,.int .i64 x.p.turn,.int .i64 x.p.said,rowV q.1 x.p.mine.length,rowV q.2.1 x.p.inputs.length,rowV q.2.2.1 x.p.has.length,rowV q.2.2.2.1 x.p.acked.length,q.2.2.2.2.1,.bool x.p.split,.pointer (some ⟨q.2.2.2.2.2,0,none⟩)] 94) ++ [drow 210 (rowV q.1 x.p.mine.length) x.p.mine,drow 210 (rowV q.2.1 x.p.inputs.length) x.p.inputs,row nilH 3 (rowV q.2.2.1 x.p.has.length) x.p.has,row nilH 3 (rowV q.2.2.2.1 x.p.acked.length) x.p.acked,osl 112 (q.2.2.2.2.1) x.p.hashes,Eng_ch q.2.2.2.2.2 x.w]) w:=Sat.openAt (A:=fun q:(Option Nat × Nat) × (Option Nat × Nat) × (Option Nat × Nat) × (Option Nat × Nat) × Value × Nat=>(blk g [.int .i64 x.p.id,.int .i64 x.p.players,.int .i64 x.p.delay,.int .i64 x.p.turn,.int .i64 x.p.said,rowV q.1 x.p.mine.length,rowV q.2.1 x.p.inputs.length,rowV q.2.2.1 x.p.has.length,rowV q.2.2.2.1 x.p.acked.length,q.2.2.2.2.1,.bool x.p.split,.pointer (some ⟨q.2.2.2.2.2,0,none⟩)] 94)) (L:=fun q:(Option Nat × Nat) × (Option Nat × Nat) × (Option Nat × Nat) × (Option Nat × Nat) × Value × Nat=>[drow 210 (rowV q.1 x.p.mine.length) x.p.mine,drow 210 (rowV q.2.1 x.p.inputs.length) x.p.inputs,row nilH 3 (rowV q.2.2.1 x.p.has.length) x.p.has,row nilH 3 (rowV q.2.2.2.1 x.p.acked.length) x.p.acked,osl 112 (q.2.2.2.2.1) x.p.hashes,Eng_ch q.2.2.2.2.2 x.w]) k hk h
theorem One_shut {w0 w:World} {R:List Ch} {g:Nat} {x:One} (q:(Option Nat × Nat) × (Option Nat × Nat) × (Option Nat × Nat) × (Option Nat × Nat) × Value × Nat) (h:Sat w0 (R ++ [blk g [.int .i64 x.p.id,.int .i64 x.p.players,.int .i64 x.p.delay,.int .i64 x.p.turn,.int .i64 x.p.said,rowV q.1 x.p.mine.length,rowV q.2.1 x.p.inputs.length,rowV q.2.2.1 x.p.has.length,rowV q.2.2.2.1 x.p.acked.length,q.2.2.2.2.1,.bool x.p.split,.pointer (some ⟨q.2.2.2.2.2,0,none⟩)] 94,drow 210 (rowV q.1 x.p.mine.length) x.p.mine,drow 210 (rowV q.2.1 x.p.inputs.length) x.p.inputs,row nilH 3 (rowV q.2.2.1 x.p.has.length) x.p.has,row nilH 3 (rowV q.2.2.2.1 x.p.acked.length) x.p.acked,osl 112 (q.2.2.2.2.1) x.p.hashes,Eng_ch q.2.2.2.2.2 x.w]) w):Sat w0 (One_ch g x :: R) w:=Sat.toEx (C:=fun q:(Option Nat × Nat) × (Option Nat × Nat) × (Option Nat × Nat) × (Option Nat × Nat) × Value × Nat=>stars ((blk g [.int .i64 x.p.id,.int .i64 x.p.players,.int .i64 x.p.delay,.int .i64 x.p.turn,.int .i64 x.p.said,rowV q.1 x.p.mine.length,rowV q.2.1 x.p.inputs.length,rowV q.2.2.1 x.p.has.length,rowV q.2.2.2.1 x.p.acked.length,q.2.2.2.2.1,.bool x.p.split,.pointer (some ⟨q.2.2.2.2.2,0,none⟩)] 94) :: [drow 210 (rowV q.1 x.p.mine.length) x.p.mine,drow 210 (rowV q.2.1 x.p.inputs.length) x.p.inputs,row nilH 3 (rowV q.2.2.1 x.p.has.length) x.p.has,row nilH 3 (rowV q.2.2.2.1 x.p.acked.length) x.p.acked,osl 112 (q.2.2.2.2.1) x.p.hashes,Eng_ch q.2.2.2.2.2 x.w])) q (Sat.toStars ((blk g [.int .i64 x.p.id,.int .i64 x.p.players,.int .i64 x.p.delay,.int .i64 x.p.turn,.int .i64 x.p.said,rowV q.1 x.p.mine.length,rowV q.2.1 x.p.inputs.length,rowV q.2.2.1 x.p.has.length,rowV q.2.2.2.1 x.p.acked.length,q.2.2.2.2.1,.bool x.p.split,.pointer (some ⟨q.2.2.2.2.2,0,none⟩)] 94) :: [drow 210 (rowV q.1 x.p.mine.length) x.p.mine,drow 210 (rowV q.2.1 x.p.inputs.length) x.p.inputs,row nilH 3 (rowV q.2.2.1 x.p.has.length) x.p.has,row nilH 3 (rowV q.2.2.2.1 x.p.acked.length) x.p.acked,osl 112 (q.2.2.2.2.1) x.p.hashes,Eng_ch q.2.2.2.2.2 x.w]) (G:=R) h)

abbrev Ones:=List One
def onesL (gs:List Pt) (l:Ones):List Ch:=(gs.zip l).map fun e=>One_ch e.1.a e.2
def Ones_ch (gs:List Pt) (l:Ones):Ch:=stars (onesL gs l)
def OnesH (gs:List Pt) (l:Ones) (e:Int):Ch:=stars ((onesL gs l).eraseIdx e.toNat)
theorem onesL_len {gs:List Pt} {l:Ones} {n:Nat} (h:gs.length = n) (h2:l.length = n):(onesL gs l).length = n:=by simp [onesL,h,h2]
theorem onesL_get {gs:List Pt} {l:Ones} {n:Nat} {e:Int} (h:gs.length = n) (h2:l.length = n) (he:0 ≤ e∧e < (l.length:Int)) (hi:e.toNat < (onesL gs l).length):(onesL gs l)[e.toNat] = One_ch (gi gs e).a (gi l e):=by
  have h3:=gi_get (xs:=gs) (j:=e) (by omega)
  have h4:=gi_get (xs:=l) (j:=e) he
  obtain ⟨k1,e1⟩:=List.getElem?_eq_some_iff.1 h3
  obtain ⟨k2,e2⟩:=List.getElem?_eq_some_iff.1 h4
  simp only [onesL,List.getElem_map,List.getElem_zip,e1,e2]
theorem si_set {α:Type} {l:List α} {e:Int} {x:α} (he:0 ≤ e∧e < (l.length:Int)):si l e x = l.set e.toNat x:=by
  unfold si; first | rfl | rw [if_pos he]
theorem onesL_set {gs:List Pt} {l:Ones} {n:Nat} {e:Int} {o:One} (h:gs.length = n) (h2:l.length = n) (he:0 ≤ e∧e < (l.length:Int)):onesL gs (si l e o) = (onesL gs l).set e.toNat (One_ch (gi gs e).a o):=by
  have h3:=gi_get (xs:=gs) (j:=e) (by omega)
  obtain ⟨k1,e1⟩:=List.getElem?_eq_some_iff.1 h3
  rw [si_set he]
  unfold onesL
  rw [zip_set k1,List.map_set,e1]
section
variable {w0 w:World} {G:List Ch}
theorem onePull {gs:List Pt} {l:Ones} {n:Nat} (j:Nat) (e:Int) (s:Sat w0 G w) (hj:G[j]? = some (Ones_ch gs l)) (h:gs.length = n) (h2:l.length = n) (he:0 ≤ e∧e < (l.length:Int)) :
    Sat w0 (G.set j (OnesH gs l e) ++ [One_ch (gi gs e).a (gi l e)]) w:=by
  have hjl:=(List.getElem?_eq_some_iff.1 hj).1
  have s2:=s.weaken j hj (star (OnesH gs l e) (One_ch (gi gs e).a (gi l e))) fun p hp=>by
    have hi:e.toNat < (onesL gs l).length:=by rw [onesL_len h h2]; omega
    have:=stars_get hi hp
    rw [onesL_get h h2 he hi] at this
    exact this
  have s3:=s2.unstarAt j (by rw [List.getElem?_set_self hjl])
  rw [List.set_set] at s3
  exact s3
theorem onePush {gs:List Pt} {l:Ones} {n:Nat} {e:Int} {o:One} (j i:Nat) (s:Sat w0 G w) (hj:G[j]? = some (OnesH gs l e)) (hi:G[i]? = some (One_ch (gi gs e).a o)) (hne:j ≠ i) (h:gs.length = n) (h2:l.length = n) (he:0 ≤ e∧e < (l.length:Int)) :
    Sat w0 ((G.set j (Ones_ch gs (si l e o))).set i dead) w:=by
  have hjl:=(List.getElem?_eq_some_iff.1 hj).1
  have s2:=s.starAt j i hj hi hne
  have s3:=s2.weaken j (C:=star (OnesH gs l e) (One_ch (gi gs e).a o)) (by rw [List.getElem?_set_ne (Ne.symm hne),List.getElem?_set_self hjl]) (Ones_ch gs (si l e o)) fun p hp=>by
    have hil:e.toNat < (onesL gs l).length:=by rw [onesL_len h h2]; omega
    unfold Ones_ch
    rw [onesL_set h h2 he]
    exact stars_put hil hp
  rw [List.set_comm _ _ hne,List.set_set,List.set_comm _ _ (Ne.symm hne)] at s3
  exact s3
theorem oneSame {gs:List Pt} {l:Ones} {n:Nat} {e:Int} (j i:Nat) (s:Sat w0 G w) (hj:G[j]? = some (OnesH gs l e)) (hi:G[i]? = some (One_ch (gi gs e).a (gi l e))) (hne:j ≠ i) (h:gs.length = n) (h2:l.length = n) (he:0 ≤ e∧e < (l.length:Int)) :
    Sat w0 ((G.set j (Ones_ch gs l)).set i dead) w:=by
  have:=onePush j i s hj hi hne h h2 he
  have e1:si l e (gi l e) = l:=by
    rw [si_set he]
    have h4:=gi_get (xs:=l) (j:=e) he
    obtain ⟨k2,e2⟩:=List.getElem?_eq_some_iff.1 h4
    rw [← e2]; exact List.set_getElem_self k2
  rwa [e1] at this
end
abbrev Hss:=List (List UInt64)
abbrev HsAt:=List ((Option Nat × Nat) × List UInt64)
def hsl (hs:HsAt):List Sl:=hs.map fun z=>⟨z.1,z.2.length⟩
def hsr (hs:HsAt):List Ch:=hs.map fun z=>row nilH 112 (rowV z.1 z.2.length) z.2
def Hss_ch (q:Option Nat × Nat) (x:Hss):Ch:=exch fun hs:{hs:HsAt // hs.map Prod.snd = x}=>stars (row nilH 87 (rowV q x.length) (hsl hs.1) :: [stars (hsr hs.1)])
def HssH (hs:HsAt) (e:Int):Ch:=stars ((hsr hs).eraseIdx e.toNat)
theorem hsl_len {hs:HsAt} {x:Hss} (h:hs.map Prod.snd = x):(hsl hs).length = x.length∧hs.length = x.length:=by subst h; simp [hsl]
theorem gi_map {α β:Type} [Inhabited α] [Inhabited β] (f:α→β) {l:List α} {e:Int} (he:0 ≤ e∧e < (l.length:Int)):gi (l.map f) e = f (gi l e):=by
  have h4:=gi_get (xs:=l) (j:=e) he
  have h5:=gi_get (xs:=l.map f) (j:=e) (by simpa using he)
  rw [List.getElem?_map,h4] at h5
  exact (Option.some.inj h5).symm
theorem hs_gi {hs:HsAt} {x:Hss} {e:Int} (h:hs.map Prod.snd = x) (he:0 ≤ e∧e < (x.length:Int)):(gi hs e).2 = gi x e∧gi (hsl hs) e = ⟨(gi hs e).1,(gi x e).length⟩:=by
  have hl:=(hsl_len h).2
  subst h
  have he':0 ≤ e∧e < (hs.length:Int):=by omega
  rw [gi_map Prod.snd he',hsl,gi_map _ he']
  exact ⟨rfl,rfl⟩
section
variable {w0 w:World} {G:List Ch}
theorem hsPull {q:Option Nat × Nat} {x:Hss} (j:Nat) (e:Int) (s:Sat w0 G w) (hj:G[j]? = some (Hss_ch q x)) (he:0 ≤ e∧e < (x.length:Int)) :
    ∃ hs:HsAt,hs.map Prod.snd = x∧Sat w0 (G.set j (row nilH 87 (rowV q x.length) (hsl hs)) ++ [HssH hs e,row nilH 112 (rowV (gi hs e).1 (gi x e).length) (gi x e)]) w:=by
  obtain ⟨⟨hs,hh⟩,s2⟩:=Sat.openAt (A:=fun hs:{hs:HsAt // hs.map Prod.snd = x}=>row nilH 87 (rowV q x.length) (hsl hs.1)) (L:=fun hs=>[stars (hsr hs.1)]) j hj s
  refine ⟨hs,hh,?_⟩
  have hjl:=(List.getElem?_eq_some_iff.1 hj).1
  have hlen:=(hsl_len hh).2
  have s3:=s2.weaken G.length (C:=stars (hsr hs)) (by simp) (star (HssH hs e) (row nilH 112 (rowV (gi hs e).1 (gi x e).length) (gi x e))) fun p hp=>by
    have hi:e.toNat < (hsr hs).length:=by simp [hsr]; omega
    have h1:=stars_get hi hp
    have h4:=gi_get (xs:=hs) (j:=e) (by omega)
    obtain ⟨k2,e2⟩:=List.getElem?_eq_some_iff.1 h4
    have h5:(hsr hs)[e.toNat] = row nilH 112 (rowV (gi hs e).1 (gi x e).length) (gi x e):=by
      simp only [hsr,List.getElem_map,e2,(hs_gi hh he).1]
    rw [h5] at h1
    exact h1
  have s4:=s3.unstarAt (A:=HssH hs e) (B:=row nilH 112 (rowV (gi hs e).1 (gi x e).length) (gi x e)) G.length (by simp)
  simpa using s4
theorem hsPush {q q':Option Nat × Nat} {x:Hss} {hs:HsAt} {e:Int} {y:List UInt64} (j i k:Nat) (s:Sat w0 G w) (hj:G[j]? = some (row nilH 87 (rowV q x.length) (si (hsl hs) e (⟨q',y.length⟩:Sl)))) (hi:G[i]? = some (HssH hs e)) (hk:G[k]? = some (row nilH 112 (rowV q' y.length) y))
    (hne:j ≠ i∧j ≠ k∧i ≠ k) (h:hs.map Prod.snd = x) (he:0 ≤ e∧e < (x.length:Int)):Sat w0 (((G.set i dead).set k dead).set j (Hss_ch q (si x e y))) w:=by
  obtain ⟨n1,n2,n3⟩:=hne
  have hl1:=(List.getElem?_eq_some_iff.1 hj).1
  have hl2:=(List.getElem?_eq_some_iff.1 hi).1
  have hlen:=(hsl_len h).2
  have he':0 ≤ e∧e < (hs.length:Int):=by omega
  have s2:=s.starAt i k hi hk n3
  have s3:=s2.starAt j i (by rw [List.getElem?_set_ne (Ne.symm n2),List.getElem?_set_ne (Ne.symm n1)]; exact hj) (by rw [List.getElem?_set_ne (Ne.symm n3),List.getElem?_set_self hl2]) n1
  have s4:=s3.weaken j (C:=star (row nilH 87 (rowV q x.length) (si (hsl hs) e (⟨q',y.length⟩:Sl))) (star (HssH hs e) (row nilH 112 (rowV q' y.length) y))) (by
    rw [List.getElem?_set_ne (Ne.symm n1),List.getElem?_set_self (by simpa using hl1)]) (Hss_ch q (si x e y)) fun p hp=>by
      have hx2:(si hs e (q',y)).map Prod.snd = si x e y:=by
        rw [si_set he',si_set he,List.map_set,h]
      refine ⟨⟨si hs e (q',y),hx2⟩,?_⟩
      obtain ⟨a,b,ha,hb,hc,hd,hf⟩:=hp
      have e1:hsl (si hs e (q',y)) = si (hsl hs) e (⟨q',y.length⟩:Sl):=by
        rw [si_set he',si_set (by have:=(hsl_len h).1; omega)]; unfold hsl; rw [List.map_set]
      have e2:hsr (si hs e (q',y)) = (hsr hs).set e.toNat (row nilH 112 (rowV q' y.length) y):=by
        rw [si_set he']; unfold hsr; rw [List.map_set]
      refine ⟨a,b,?_,⟨b,fun _=>none,?_,trivial,fun _=>.inr rfl,Hp.le_refl _,fun _ _ e=>by cases e⟩,hc,hd,hf⟩
      · show row nilH 87 (rowV q (si x e y).length) (hsl (si hs e (q',y))) a
        rw [e1,len_si]; exact ha
      · show stars (hsr (si hs e (q',y))) b
        rw [e2]
        exact stars_put (by simp [hsr]; omega) hb
  refine s4.pick (List.range G.length) List.nodup_range ?_
  apply List.ext_getElem?
  intro m
  simp only [List.getElem?_map,List.getElem?_range]
  by_cases hm:m < G.length
  · rw [List.getElem?_range hm]
    simp only [Option.map_some]
    by_cases m1:m = j
    · subst m1; simp [List.getElem?_set,hm]
    · by_cases m2:m = i
      · subst m2; simp [List.getElem?_set,hm,Ne.symm m1,n3,Ne.symm n3,m1]
      · by_cases m3:m = k
        · subst m3; simp [List.getElem?_set,hm,Ne.symm m1,m1,n3,Ne.symm n3]
        · simp [List.getElem?_set,Ne.symm m1,Ne.symm m2,Ne.symm m3]
          rw [List.getElem?_eq_getElem hm]; rfl
  · simp [hm]
end
theorem onesNil {w0 w:World} {G:List Ch} (s:Sat w0 G w):Sat w0 (G ++ [Ones_ch [] []]) w:=s.addEmpty _ fun _=>trivial
theorem hssNil {w0 w:World} {G:List Ch} (s:Sat w0 G w):Sat w0 (G ++ [Hss_ch (none,0) []]) w:=s.addEmpty _ fun p =>
  ⟨⟨[],rfl⟩,fun _=>none,fun _=>none,.inl ⟨rfl,rfl⟩,⟨fun _=>none,fun _=>none,trivial,trivial,fun _=>.inl rfl,(fun _ _ e=>by cases e),fun _ _ e=>by cases e⟩,fun _=>.inl rfl,(fun _ _ e=>by cases e),fun _ _ e=>by cases e⟩
theorem ltx {a b n m:Nat} (h:a = n) (h2:b = n) (g:b < m):a < m:=by omega
theorem len_add {gs:List Pt} {l:Ones} {n:Nat} (g:Pt) (o:One) (h:gs.length = n) (h2:l.length = n):(l ++ [o]).length = (gs ++ [g]).length:=by simp [h,h2]
theorem onesAdd {w0 w:World} {G:List Ch} {gs:List Pt} {l:Ones} {n a:Nat} {o:One} (j i:Nat) (s:Sat w0 G w) (hj:G[j]? = some (Ones_ch gs l)) (hi:G[i]? = some (One_ch a o)) (hne:j ≠ i) (h:gs.length = n) (h2:l.length = n) :
    Sat w0 ((G.set j (Ones_ch (gs ++ [⟨a⟩]) (l ++ [o]))).set i dead) w:=by
  have hjl:=(List.getElem?_eq_some_iff.1 hj).1
  have s2:=s.starAt j i hj hi hne
  have s3:=s2.weaken j (C:=star (Ones_ch gs l) (One_ch a o)) (by rw [List.getElem?_set_ne (Ne.symm hne),List.getElem?_set_self hjl]) (Ones_ch (gs ++ [⟨a⟩]) (l ++ [o])) fun p hp=>by
    have e1:onesL (gs ++ [⟨a⟩]) (l ++ [o]) = onesL gs l ++ [One_ch a o]:=by
      unfold onesL
      rw [List.zip_append (by rw [h,h2]),List.map_append]; rfl
    unfold Ones_ch
    rw [e1]
    exact stars_in (A:=onesL gs l) (B:=[]) (by rw [List.append_nil]; exact star_comm hp)
  rw [List.set_comm _ _ hne,List.set_set,List.set_comm _ _ (Ne.symm hne)] at s3
  exact s3
theorem stars_nil_rows:∀ (n:Nat) (p:Hp),stars (List.replicate n (row nilH 112 (rowV (none,0) 0) ([]:List UInt64))) p
  | 0,_=>trivial
  | n + 1,p=>⟨fun _=>none,fun _=>none,.inl ⟨rfl,rfl⟩,stars_nil_rows n _,fun _=>.inl rfl,(fun _ _ e=>by cases e),fun _ _ e=>by cases e⟩
theorem hsMake {w0 w:World} {G:List Ch} {q:Option Nat × Nat} {n:Nat} (j:Nat) (s:Sat w0 G w) (hj:G[j]? = some (row nilH 87 (rowV q n) (List.replicate n (⟨(none,0),0⟩:Sl)))):Sat w0 (G.set j (Hss_ch q (List.replicate n []))) w:=by
  refine s.weaken j hj _ fun p hp=>⟨⟨List.replicate n ((none,0),[]),by simp⟩,?_⟩
  refine ⟨p,fun _=>none,?_,⟨fun _=>none,fun _=>none,?_,trivial,fun _=>.inl rfl,Hp.le_refl _,Hp.le_refl _⟩,fun _=>.inr rfl,Hp.le_refl _,fun _ _ e=>by cases e⟩
  · rw [List.length_replicate]
    have e1:hsl (List.replicate n ((none,0),[])) = List.replicate n (⟨(none,0),0⟩:Sl):=by simp [hsl]
    rw [e1]; exact hp
  · have e1:hsr (List.replicate n ((none,0),[])) = List.replicate n (row nilH 112 (rowV (none,0) 0) ([]:List UInt64)):=by simp [hsr]
    rw [e1]; exact stars_nil_rows n _
instance:Deep (List UInt64) where
  D h x c:=∃ q0:Option Nat × Nat,c = [rowV q0 x.length]∧stars [row nilH 112 (rowV q0 x.length) x] h
  toR:=fun ⟨q0,e,⟨_,_,a0,_,_,l0,k0⟩⟩=>by rw [e]; exact Enc.mono l0 (row_R a0)
  mono:=fun hl ⟨q0,e,s⟩=>⟨_,e,stars_mono hl s⟩

theorem hsr_DRF:∀ {hs:HsAt} {p:Hp},stars (hsr hs) p→DRF p (hs.map Prod.snd) (hs.map fun z=>rowV z.1 z.2.length)
  | [],_,_=>rfl
  | z :: hs,p,⟨a,b,ha,hb,hd,l1,l2⟩=>⟨[rowV z.1 z.2.length],_,a,b,rfl,⟨z.1,rfl,a,fun _=>none,ha,trivial,fun _=>.inr rfl,Hp.le_refl _,fun _ _ e=>by cases e⟩,hsr_DRF hb,hd,l1,l2⟩
theorem hsl_RF {h:Hp}:∀ {hs:HsAt} {cs:List Value},RF h (hsl hs) cs→cs = hs.map fun z=>rowV z.1 z.2.length
  | [],_,e=>e
  | z :: hs,cs,⟨c,r,e,hc,hr⟩=>by
    have h1:c = [rowV z.1 z.2.length]:=hc
    have h2:=hsl_RF hr
    subst h1 h2 e; rfl
theorem hsDrow {w0 w:World} {G:List Ch} {q:Option Nat × Nat} {x:Hss} (j:Nat) (s:Sat w0 G w) (hj:G[j]? = some (Hss_ch q x)):Sat w0 (G.set j (drow 87 (rowV q x.length) x)) w:=by
  refine s.weaken j hj _ fun p hp=>?_
  obtain ⟨⟨hs,hh⟩,a,b,ha,⟨b1,b2,hb,_,_,k1,_⟩,hd,l1,l2⟩:=hp
  have hD:=(hsr_DRF hb).mono k1
  subst hh
  rcases ha with ⟨hv,hn⟩ | ⟨g,cap,cs,sp,hv,hg,hle,hcm,hl,hr⟩
  · have hs0:hs = []:=by
      have:(hsl hs).length = 0:=by rw [hn]; rfl
      simpa [hsl] using this
    subst hs0
    exact .inl ⟨hv,rfl,rfl⟩
  · have hlen:(hsl hs).length = (hs.map Prod.snd).length:=by simp [hsl]
    refine .inr ⟨g,cap,cs,sp,by rw [hv]; show Value.slice _ (hsl hs).length _ = _; rw [hlen],l1 _ _ hg,by rw [← hlen]; exact hle,hcm,hl,?_⟩
    rw [hsl_RF hr]
    refine hD.mono fun c o e=>?_
    have hne:c ≠ g:=fun e2=>by
      subst e2
      rcases hd c with h | h
      · rw [hg] at h; cases h
      · rw [h] at e; cases e
    unfold Hp.off
    rw [if_neg hne]
    exact l2 _ _ e
theorem lenOnes {P:Program} {n:Nat} {fr:Fr} {dst:Option Tmp} {ty:TypeId} {pos:String} {aft:Array Edge} {g:Option (Nat × Bool)} {e:TypeId} {x:Operand} {at':TypeId} {sz by' nl cap:Nat} {p:Option Addr} {l:Ones} (ht:slTy P at' = some (e,sz,by')) (hx:ev fr x = some (.slice p nl cap)) (h:l.length = nl):Pu P n ⟨dst,.call { callee:=.builtin .len,args:=#[x],argTypes:=#[at'] },ty,pos,aft,g⟩ fr (.int .i64 l.length):=by subst h; exact Pu.lenSl ht hx
structure Pty where
  l:Ones
  hashes:Hss
  log:List Frm
  deriving Inhabited
structure Par where
  c:Pty
  m:List Nte
  deriving Inhabited
def Pty_ch (g:Nat) (vm:Value) (x:Pty):Ch:=exch fun q:{q:List Pt × (Option Nat × Nat) × (Option Nat × Nat) × (Option Nat × Nat) × Nat × Nat // q.1.length = q.2.2.2.2.1∧x.l.length = q.2.2.2.2.1∧x.hashes.length = q.2.2.2.2.2}=>stars ((blk g [rowV q.1.2.1 q.1.2.2.2.2.1,vm,.slice none 0 0,rowV q.1.2.2.1 q.1.2.2.2.2.2,.slice none 0 0,.slice none 0 0,rowV q.1.2.2.2.1 x.log.length] 85) :: [row nilH 92 (rowV q.1.2.1 q.1.2.2.2.2.1) q.1.1,Ones_ch q.1.1 x.l,Hss_ch q.1.2.2.1 x.hashes,drow 200 (rowV q.1.2.2.2.1 x.log.length) x.log])
theorem Pty_open {w0 w:World} {G:List Ch} {g:Nat} {vm:Value} {x:Pty} (k:Nat) (hk:G[k]? = some (Pty_ch g vm x)) (h:Sat w0 G w):∃ q:{q:List Pt × (Option Nat × Nat) × (Option Nat × Nat) × (Option Nat × Nat) × Nat × Nat // q.1.length = q.2.2.2.2.1∧x.l.length = q.2.2.2.2.1∧x.hashes.length = q.2.2.2.2.2},Sat w0 (G.set k (blk g [rowV q.1.2.1 q.1.2.2.2.2.1,vm,.slice none 0 0,rowV q.1.2.2.1 q.1.2.2.2.2.2,.slice none 0 0,.slice none 0 0,rowV q.1.2.2.2.1 x.log.length] 85) ++ [row nilH 92 (rowV q.1.2.1 q.1.2.2.2.2.1) q.1.1,Ones_ch q.1.1 x.l,Hss_ch q.1.2.2.1 x.hashes,drow 200 (rowV q.1.2.2.2.1 x.log.length) x.log]) w:=Sat.openAt (A:=fun q:{q:List Pt × (Option Nat × Nat) × (Option Nat × Nat) × (Option Nat × Nat) × Nat × Nat // q.1.length = q.2.2.2.2.1∧x.l.length = q.2.2.2.2.1∧x.hashes.length = q.2.2.2.2.2}=>(blk g [rowV q.1.2.1 q.1.2.2.2.2.1,vm,.slice none 0 0,rowV q.1.2.2.1 q.1.2.2.2.2.2,.slice none 0 0,.slice none 0 0,rowV q.1.2.2.2.1 x.log.length] 85)) (L:=fun q:{q:List Pt × (Option Nat × Nat) × (Option Nat × Nat) × (Option Nat × Nat) × Nat × Nat // q.1.length = q.2.2.2.2.1∧x.l.length = q.2.2.2.2.1∧x.hashes.length = q.2.2.2.2.2}=>[row nilH 92 (rowV q.1.2.1 q.1.2.2.2.2.1) q.1.1,Ones_ch q.1.1 x.l,Hss_ch q.1.2.2.1 x.hashes,drow 200 (rowV q.1.2.2.2.1 x.log.length) x.log]) k hk h
theorem Pty_shut {w0 w:World} {R:List Ch} {g:Nat} {vm:Value} {x:Pty} (q:{q:List Pt × (Option Nat × Nat) × (Option Nat × Nat) × (Option Nat × Nat) × Nat × Nat // q.1.length = q.2.2.2.2.1∧x.l.length = q.2.2.2.2.1∧x.hashes.length = q.2.2.2.2.2}) (h:Sat w0 (R ++ [blk g [rowV q.1.2.1 q.1.2.2.2.2.1,vm,.slice none 0 0,rowV q.1.2.2.1 q.1.2.2.2.2.2,.slice none 0 0,.slice none 0 0,rowV q.1.2.2.2.1 x.log.length] 85,row nilH 92 (rowV q.1.2.1 q.1.2.2.2.2.1) q.1.1,Ones_ch q.1.1 x.l,Hss_ch q.1.2.2.1 x.hashes,drow 200 (rowV q.1.2.2.2.1 x.log.length) x.log]) w):Sat w0 (Pty_ch g vm x :: R) w:=Sat.toEx (C:=fun q:{q:List Pt × (Option Nat × Nat) × (Option Nat × Nat) × (Option Nat × Nat) × Nat × Nat // q.1.length = q.2.2.2.2.1∧x.l.length = q.2.2.2.2.1∧x.hashes.length = q.2.2.2.2.2}=>stars ((blk g [rowV q.1.2.1 q.1.2.2.2.2.1,vm,.slice none 0 0,rowV q.1.2.2.1 q.1.2.2.2.2.2,.slice none 0 0,.slice none 0 0,rowV q.1.2.2.2.1 x.log.length] 85) :: [row nilH 92 (rowV q.1.2.1 q.1.2.2.2.2.1) q.1.1,Ones_ch q.1.1 x.l,Hss_ch q.1.2.2.1 x.hashes,drow 200 (rowV q.1.2.2.2.1 x.log.length) x.log])) q (Sat.toStars ((blk g [rowV q.1.2.1 q.1.2.2.2.2.1,vm,.slice none 0 0,rowV q.1.2.2.1 q.1.2.2.2.2.2,.slice none 0 0,.slice none 0 0,rowV q.1.2.2.2.1 x.log.length] 85) :: [row nilH 92 (rowV q.1.2.1 q.1.2.2.2.2.1) q.1.1,Ones_ch q.1.1 x.l,Hss_ch q.1.2.2.1 x.hashes,drow 200 (rowV q.1.2.2.2.1 x.log.length) x.log]) (G:=R) h)
def Par_ch (g:Nat) (x:Par):Ch:=exch fun q:(Option Nat × Nat) × Hp=>stars ((Pty_ch g (rowV q.1 x.m.length) x.c) :: [rowG (FA q.2) 212 (rowV q.1 x.m.length) x.m,fz q.2])
theorem Par_open {w0 w:World} {G:List Ch} {g:Nat} {x:Par} (k:Nat) (hk:G[k]? = some (Par_ch g x)) (h:Sat w0 G w):∃ q:(Option Nat × Nat) × Hp,Sat w0 (G.set k (Pty_ch g (rowV q.1 x.m.length) x.c) ++ [rowG (FA q.2) 212 (rowV q.1 x.m.length) x.m,fz q.2]) w:=Sat.openAt (A:=fun q:(Option Nat × Nat) × Hp=>(Pty_ch g (rowV q.1 x.m.length) x.c)) (L:=fun q:(Option Nat × Nat) × Hp=>[rowG (FA q.2) 212 (rowV q.1 x.m.length) x.m,fz q.2]) k hk h
theorem Par_shut {w0 w:World} {R:List Ch} {g:Nat} {x:Par} (q:(Option Nat × Nat) × Hp) (h:Sat w0 (R ++ [(Pty_ch g (rowV q.1 x.m.length) x.c),rowG (FA q.2) 212 (rowV q.1 x.m.length) x.m,fz q.2]) w):Sat w0 (Par_ch g x :: R) w:=Sat.toEx (C:=fun q:(Option Nat × Nat) × Hp=>stars ((Pty_ch g (rowV q.1 x.m.length) x.c) :: [rowG (FA q.2) 212 (rowV q.1 x.m.length) x.m,fz q.2])) q (Sat.toStars ((Pty_ch g (rowV q.1 x.m.length) x.c) :: [rowG (FA q.2) 212 (rowV q.1 x.m.length) x.m,fz q.2]) (G:=R) h)

end Go.Proofs.YtmngdgclldkcfaaGreat
set_option linter.unusedVariables false
set_option linter.unusedSimpArgs false
set_option maxRecDepth 20000
set_option maxHeartbeats 4000000
namespace Go.Proofs.YtmngdgclldkcfaaGreat
open Go.Vg
open Enc (R)
def session_party_say (a0_s:Pty) (a1_k:Int) (a2_l:List Cmd):Option Pty :=
  Option.bind (command_OwnAll a2_l) fun x1 =>
  Option.bind (α:=List Cmd) (loop (σ:=Int × List Cmd) (β:=List Cmd) (fun (v32,l33) =>
  if v32 < (x1.length:Int) then
  if I64 (a1_k + 1) then
  if 0 ≤ v32∧v32 < (x1.length:Int) then
  if I64 (v32 + 1) then
  some (St.next ((v32 + 1),(si l33 v32 (⟨(a1_k + 1),(gi l33 v32).seq,(gi l33 v32).kind,(gi l33 v32).n,(gi l33 v32).units,(gi l33 v32).tile,(gi l33 v32).w,(gi l33 v32).h,(gi l33 v32).pos⟩:Cmd))))
  else none
  else none
  else none
  else
  some (St.done l33)) (0,x1)) fun v4 =>
  if 0 ≤ a1_k∧a1_k < (a0_s.l.length:Int) then
  Option.bind (peer_Say (gi a0_s.l a1_k).p v4) fun x23 =>
  if x23.2 = 0 then
  if 0 ≤ a1_k∧a1_k < (a0_s.l.length:Int) then
  some (⟨(si a0_s.l a1_k (⟨x23.1,(gi a0_s.l a1_k).w⟩:One)),a0_s.hashes,a0_s.log⟩:Pty)
  else none
  else
  some a0_s
  else none
def session_party_run (a0_s:Pty) (a1_k:Int):Option (Bool × Pty) :=
  if 0 ≤ a1_k∧a1_k < (a0_s.l.length:Int) then
  Option.bind (peer_Ready ((gi a0_s.l a1_k).p)) fun x19 =>
  if (¬ x19.2.2 = 0) ∨ ((!x19.2.1) = true) then
  some (false,a0_s)
  else
  Option.bind (eng_Step (gi a0_s.l a1_k).w x19.1) fun x24 =>
  Option.bind (eng_World x24.2.2) fun x26 =>
  Option.bind (image_Sum x26) fun x30 =>
  Option.bind (α:=List Frm) (if a1_k = 0 then
  if a0_s.log.length + 1 < 1099511627776 then
  some (a0_s.log ++ ([(⟨(gi a0_s.l a1_k).p.turn,x19.1,x30⟩:Frm)]:List Frm))
  else none
  else
  some a0_s.log) fun v32 =>
  Option.bind (peer_Ran (gi a0_s.l a1_k).p x30) fun x34 =>
  if 0 ≤ a1_k∧a1_k < (a0_s.hashes.length:Int) then
  if (gi a0_s.hashes a1_k).length < 1099511627776 then
  some (true,(⟨(si a0_s.l a1_k (⟨x34.1,x24.2.2⟩:One)),(si a0_s.hashes a1_k ((gi a0_s.hashes a1_k) ++ [x30])),v32⟩:Pty))
  else none
  else none
  else none
def session_party_comes (a0_s:Pty) (a1_n:Nte):Option Pty :=
  if 0 ≤ (a1_n.dst - 1)∧(a1_n.dst - 1) < (a0_s.l.length:Int) then
  if I64 (a1_n.dst - 1) then
  if 0 ≤ (a1_n.dst - 1)∧(a1_n.dst - 1) < (a0_s.l.length:Int) then
  Option.bind (peer_Take (gi a0_s.l (a1_n.dst - 1)).p a1_n) fun x22 =>
  if x22.2 = 0 then
  if I64 (a1_n.dst - 1) then
  if 0 ≤ (a1_n.dst - 1)∧(a1_n.dst - 1) < (a0_s.l.length:Int) then
  some (⟨(si a0_s.l (a1_n.dst - 1) (⟨x22.1,(gi a0_s.l (a1_n.dst - 1)).w⟩:One)),a0_s.hashes,a0_s.log⟩:Pty)
  else none
  else none
  else
  some a0_s
  else none
  else none
  else none
def session_party_tick (a0_s:Par) (a1_k:Int):Option Par :=
  if 0 ≤ a1_k∧a1_k < (a0_s.c.l.length:Int) then
  Option.bind (peer_Notes ((gi a0_s.c.l a1_k).p)) fun x21 =>
  if a0_s.m.length + x21.1.length < 1099511627776 then
  Option.bind (α:=Par) (loop (σ:=Int × Par) (β:=Par) (fun (v29,v30) =>
  if v29 < 4 then
  Option.bind (session_party_run v30.c a1_k) fun x35 =>
  if x35.1 = true then
  if I64 (v29 + 1) then
  some (St.next ((v29 + 1),(⟨x35.2,v30.m⟩:Par)))
  else none
  else
  some (St.done (⟨x35.2,v30.m⟩:Par))
  else
  some (St.done v30)) (0,(⟨a0_s.c,(a0_s.m ++ x21.1)⟩:Par))) fun v28 =>
  some v28
  else none
  else none
def session_party_calm (a0_s:Par):Option Par :=
  Option.bind (α:=Par) (loop (σ:=Int × Par) (β:=Par) (fun (v41,v42) =>
  if v41 < (a0_s.c.l.length:Int) then
  Option.bind (session_party_tick v42 v41) fun x45 =>
  if I64 (v41 + 1) then
  some (St.next ((v41 + 1),x45))
  else none
  else
  some (St.done v42)) (0,a0_s)) fun v11 =>
  Option.bind (α:=Pty) (loop (σ:=Int × Pty) (β:=Pty) (fun (v23,v24) =>
  if v23 < (v11.m.length:Int) then
  if 0 ≤ v23∧v23 < (v11.m.length:Int) then
  Option.bind (session_party_comes v24 (gi v11.m v23)) fun x39 =>
  if I64 (v23 + 1) then
  some (St.next ((v23 + 1),x39))
  else none
  else none
  else
  some (St.done v24)) (0,v11.c)) fun v22 =>
  some (⟨v22,([]:List Nte)⟩:Par)
def session_party_act (a0_s:Par) (a1_a:Act):Option Par :=
  if a1_a.kind = 1 then
  if (1 ≤ a1_a.peer)∧(a1_a.peer ≤ (a0_s.c.l.length:Int)) then
  if I64 (a1_a.peer - 1) then
  Option.bind (session_party_say a0_s.c (a1_a.peer - 1) a1_a.commands) fun x16 =>
  some (⟨x16,a0_s.m⟩:Par)
  else none
  else
  some a0_s
  else
  if a1_a.kind = 2 then
  if (1 ≤ a1_a.peer)∧(a1_a.peer ≤ (a0_s.c.l.length:Int)) then
  if I64 (a1_a.peer - 1) then
  Option.bind (session_party_tick a0_s (a1_a.peer - 1)) fun x20 =>
  some x20
  else none
  else
  some a0_s
  else
  Option.bind (α:=Bool) (if a1_a.kind = 3 then
  some (decide (a1_a.kind = 3))
  else
  if a1_a.kind = 4 then
  some (decide (a1_a.kind = 4))
  else
  some (decide (a1_a.kind = 5))) fun v22 =>
  if v22 = true then
  none
  else
  if a1_a.kind = 6 then
  Option.bind (α:=Par) (loop (σ:=Int × Par) (β:=Par) (fun (v27,v28) =>
  if (0 < v27)∧(a1_a.n ≤ 60) then
  Option.bind (session_party_calm v28) fun x33 =>
  if I64 (v27 - 1) then
  some (St.next ((v27 - 1),x33))
  else none
  else
  some (St.done v28)) (a1_a.n,a0_s)) fun v26 =>
  some v26
  else
  some a0_s
def session_Run (a0_g:Grd) (a1_players:Int) (a2_delay:Int) (a3_room:Int) (a4_l:List Act):Option (Rep × Int) :=
  Option.bind (world_New a0_g a1_players) fun x3 =>
  if (¬ x3.2 = 0) ∨ (400 < (a4_l.length:Int)) then
  some ((⟨[],[],[],[],[]⟩:Rep),1)
  else
  Option.bind (α:=Ex (Pty) (Rep × Int)) (loop (σ:=Int × Pty) (β:=Ex (Pty) (Rep × Int)) (fun (v91,v92) =>
  if v91 ≤ a1_players then
  Option.bind (peer_New v91 a1_players a2_delay) fun x95 =>
  Option.bind (eng_Open x3.1 a3_room) fun (o103,o104) =>
  if (¬ x95.2 = 0) ∨ (¬ o104 = 0) then
  some (St.done (Ex.up ((⟨[],[],[],[],[]⟩:Rep),1)))
  else
  Option.bind o103 fun z116 =>
  if v92.l.length < 1099511627776 then
  if I64 (v91 + 1) then
  some (St.next ((v91 + 1),(⟨(v92.l ++ [(⟨x95.1,z116⟩:One)]),v92.hashes,v92.log⟩:Pty)))
  else none
  else none
  else
  some (St.done (Ex.go v92))) (1,(⟨([]:Ones),([]:Hss),([]:List Frm)⟩:Pty))) fun x=>x.then fun v13 =>
  if 0 ≤ a1_players∧a1_players ≤ 1099511627776 then
  Option.bind (α:=Par) (loop (σ:=Int × Par) (β:=Par) (fun (v75,v76) =>
  if v75 < (a4_l.length:Int) then
  if 0 ≤ v75∧v75 < (a4_l.length:Int) then
  Option.bind (session_party_act v76 (gi a4_l v75)) fun x89 =>
  if I64 (v75 + 1) then
  some (St.next ((v75 + 1),x89))
  else none
  else none
  else
  some (St.done v76)) (0,(⟨(⟨v13.l,(List.replicate a1_players.toNat ([]:List UInt64)),v13.log⟩:Pty),([]:List Nte)⟩:Par))) fun v24 =>
  Option.bind (α:=List Int × List Wld × List Bool) (loop (σ:=Int × List Int × List Wld × List Bool) (β:=List Int × List Wld × List Bool) (fun (v41,l42,l44,l46) =>
  if v41 < (v24.c.l.length:Int) then
  if 0 ≤ v41∧v41 < (v24.c.l.length:Int) then
  if l42.length < 1099511627776 then
  Option.bind (eng_World ((gi v24.c.l v41).w)) fun x64 =>
  if l44.length + 1 < 1099511627776 then
  if l46.length < 1099511627776 then
  if I64 (v41 + 1) then
  some (St.next ((v41 + 1),(l42 ++ [(gi v24.c.l v41).p.turn]),(l44 ++ ([x64]:List Wld)),(l46 ++ [(gi v24.c.l v41).p.split])))
  else none
  else none
  else none
  else none
  else none
  else
  some (St.done (l42,l44,l46))) (0,[],[],[])) fun (v35,v37,v39) =>
  some ((⟨v35,v24.c.hashes,v37,v39,v24.c.log⟩:Rep),0)
  else none
end Go.Proofs.YtmngdgclldkcfaaGreat
set_option linter.unusedVariables false
set_option linter.unusedSimpArgs false
set_option maxRecDepth 20000
set_option maxHeartbeats 4000000
namespace Go.Proofs.YtmngdgclldkcfaaGreat
open Go.Vg
open Enc (R)
theorem bz31:decide (0 < Tryz.prog.bytesOf 31) = true:=by kernel_rfl
theorem co25:Tryz.prog.cellsOf 25 = 1:=by kernel_rfl
theorem co27:Tryz.prog.cellsOf 27 = 7:=by kernel_rfl
theorem uf27:structOf Tryz.prog 27 = some [(24,0),(3,3),(3,4),(3,5),(25,6)]:=by kernel_rfl
theorem usl25:Tryz.prog.underlying 25 = some (.slice 31):=by kernel_rfl
structure Scr30 where
 g:Grd
 players:Int
 delay:Int
 room:Int
 l:List Act
 deriving Inhabited
instance:Enc Scr30 where
 sz:=7
 R h x cs:=∃ v2 v6,cs = [.int .i64 x.g.w,.int .i64 x.g.h,v2,.int .i64 x.players,.int .i64 x.delay,.int .i64 x.room,v6]∧Enc.R h (x.g.tiles:List UInt8) [v2]∧Enc.R h (x.l:List Act) [v6]
 len:=fun ⟨v2,v6,e,h2,h6⟩=>by rw [e]; rfl
 one:=fun ⟨v2,v6,e,h2,h6⟩ u hu=>by
  rw [e] at hu; simp only [List.mem_cons,List.not_mem_nil,or_false] at hu
  rcases hu with rfl | rfl | rfl | rfl | rfl | rfl | rfl
  ·rfl
  ·rfl
  ·exact Enc.one h2 _ (by simp)
  ·rfl
  ·rfl
  ·rfl
  ·exact Enc.one h6 _ (by simp)
 mono:=fun hl ⟨v2,v6,e,h2,h6⟩=>⟨v2,v6,e,Enc.mono hl h2,Enc.mono hl h6⟩
def Scr30.Wf (x:Scr30):Prop:=(Grd.Wf x.g)∧(I64 x.players)∧(I64 x.delay)∧(I64 x.room)∧((∀ y ∈ x.l,Act.Wf y)∧x.l.length ≤ 140737488351232)
theorem rd_Scr30:Rdbl Tryz.prog 27 Scr30 Scr30.Wf:=fun H enc w fuel cs x h hzd=>by
 obtain ⟨fs,hu,hfs⟩:=structOf_spec uf27
 obtain ⟨hl,m,hf⟩:=trod_field hu h hzd
 obtain ⟨f0,hf0,ht0,ho0⟩:∃ f,fs[0]? = some f∧f.type = 24∧f.offset = 0:=by
  have h1:(fs.toList.map (fun f=>(f.type,f.offset)))[0]? = some (24,0):=by rw [hfs]; rfl
  rw [List.getElem?_map,Option.map_eq_some_iff] at h1
  obtain ⟨f,h2,h3⟩:=h1
  simp only [Prod.mk.injEq] at h3
  exact ⟨f,by simpa using h2,h3.1,h3.2⟩
 obtain ⟨y0,hy0⟩:=hf 0 f0 hf0
 rw [ht0,ho0,co24] at hy0
 obtain ⟨a0,ha0,hw0⟩:=Rdbl.part rd_Grd hy0
 obtain ⟨f1,hf1,ht1,ho1⟩:∃ f,fs[1]? = some f∧f.type = 3∧f.offset = 3:=by
  have h1:(fs.toList.map (fun f=>(f.type,f.offset)))[1]? = some (3,3):=by rw [hfs]; rfl
  rw [List.getElem?_map,Option.map_eq_some_iff] at h1
  obtain ⟨f,h2,h3⟩:=h1
  simp only [Prod.mk.injEq] at h3
  exact ⟨f,by simpa using h2,h3.1,h3.2⟩
 obtain ⟨y1,hy1⟩:=hf 1 f1 hf1
 rw [ht1,ho1,co3] at hy1
 obtain ⟨a1,ha1,hw1⟩:=Rdbl.part (Rdbl.int ul3) hy1
 obtain ⟨f2,hf2,ht2,ho2⟩:∃ f,fs[2]? = some f∧f.type = 3∧f.offset = 4:=by
  have h1:(fs.toList.map (fun f=>(f.type,f.offset)))[2]? = some (3,4):=by rw [hfs]; rfl
  rw [List.getElem?_map,Option.map_eq_some_iff] at h1
  obtain ⟨f,h2,h3⟩:=h1
  simp only [Prod.mk.injEq] at h3
  exact ⟨f,by simpa using h2,h3.1,h3.2⟩
 obtain ⟨y2,hy2⟩:=hf 2 f2 hf2
 rw [ht2,ho2,co3] at hy2
 obtain ⟨a2,ha2,hw2⟩:=Rdbl.part (Rdbl.int ul3) hy2
 obtain ⟨f3,hf3,ht3,ho3⟩:∃ f,fs[3]? = some f∧f.type = 3∧f.offset = 5:=by
  have h1:(fs.toList.map (fun f=>(f.type,f.offset)))[3]? = some (3,5):=by rw [hfs]; rfl
  rw [List.getElem?_map,Option.map_eq_some_iff] at h1
  obtain ⟨f,h2,h3⟩:=h1
  simp only [Prod.mk.injEq] at h3
  exact ⟨f,by simpa using h2,h3.1,h3.2⟩
 obtain ⟨y3,hy3⟩:=hf 3 f3 hf3
 rw [ht3,ho3,co3] at hy3
 obtain ⟨a3,ha3,hw3⟩:=Rdbl.part (Rdbl.int ul3) hy3
 obtain ⟨f4,hf4,ht4,ho4⟩:∃ f,fs[4]? = some f∧f.type = 25∧f.offset = 6:=by
  have h1:(fs.toList.map (fun f=>(f.type,f.offset)))[4]? = some (25,6):=by rw [hfs]; rfl
  rw [List.getElem?_map,Option.map_eq_some_iff] at h1
  obtain ⟨f,h2,h3⟩:=h1
  simp only [Prod.mk.injEq] at h3
  exact ⟨f,by simpa using h2,h3.1,h3.2⟩
 obtain ⟨y4,hy4⟩:=hf 4 f4 hf4
 rw [ht4,ho4,co25] at hy4
 obtain ⟨a4,ha4,hw4⟩:=Rdbl.part (Rdbl.slice usl25 co31 (by decide) rd_Act bz31) hy4
 rw [co27] at hl
 obtain ⟨x0,x1,x2,x3,x4,x5,x6,rfl⟩:∃ x0 x1 x2 x3 x4 x5 x6,cs = [x0,x1,x2,x3,x4,x5,x6]:=by
  match cs,hl with
  | [x0,x1,x2,x3,x4,x5,x6],_=>exact ⟨x0,x1,x2,x3,x4,x5,x6,rfl⟩
 simp only [List.drop_succ_cons,List.drop_zero,List.take_succ_cons,List.take_zero] at ha0 ha1 ha2 ha3 ha4
 obtain ⟨v0_2,e0,r0_2⟩:=ha0
 simp only [List.cons.injEq,and_true] at e0
 obtain ⟨rfl,rfl,rfl⟩:=e0
 obtain rfl:x3 = _:=by simpa [Enc.R] using ha1
 obtain rfl:x4 = _:=by simpa [Enc.R] using ha2
 obtain rfl:x5 = _:=by simpa [Enc.R] using ha3
 exact ⟨⟨a0,a1,a2,a3,a4⟩,⟨_,_,rfl,r0_2,ha4⟩,⟨hw0,hw1,hw2,hw3,hw4⟩⟩
end Go.Proofs.YtmngdgclldkcfaaGreat
set_option linter.unusedVariables false
set_option linter.unusedSimpArgs false
set_option maxRecDepth 20000
set_option maxHeartbeats 4000000
namespace Go.Proofs.YtmngdgclldkcfaaGreat
open Go.Vg
open Enc (R)
def thronglaw0_CommandsWeight (a0_l:List Cmd):Option Int :=
  Option.bind (α:=Int) (loop (σ:=Int × Int) (β:=Int) (fun (v3,v4) =>
  if (v4 < (a0_l.length:Int))∧(v3 < 1048576) then
  if 0 ≤ v4∧v4 < (a0_l.length:Int) then
  if I64 (v3 + (((gi a0_l v4).units).length:Int)) then
  if I64 (v4 + 1) then
  some (St.next ((v3 + (((gi a0_l v4).units).length:Int)),(v4 + 1)))
  else none
  else none
  else none
  else
  some (St.done v3)) ((a0_l.length:Int),0)) fun v2 =>
  some v2
def thronglaw30_Heavy (a0_p:Scr30):Option Bool :=
  Option.bind (α:=Int) (loop (σ:=Int × Int) (β:=Int) (fun (v8,v9) =>
  if (v9 < (a0_p.l.length:Int))∧(v8 < 1048576) then
  if 0 ≤ v9∧v9 < (a0_p.l.length:Int) then
  Option.bind (thronglaw0_CommandsWeight ((gi a0_p.l v9).commands)) fun x23 =>
  if I64 (v8 + x23) then
  if I64 (v9 + 1) then
  some (St.next ((v8 + x23),(v9 + 1)))
  else none
  else none
  else none
  else
  some (St.done v8)) (0,0)) fun v3 =>
  some (decide (((500 < v3) ∨ (100 < (a0_p.l.length:Int))) ∨ (200 < (a0_p.g.tiles.length:Int))))
def throngref0_EqUnits (a0_a:List Unt) (a1_b:List Unt):Option Bool :=
  if ¬ (a0_a.length:Int) = (a1_b.length:Int) then
  some false
  else
  Option.bind (α:=Ex (Unit) (Bool)) (loop (σ:=Int) (β:=Ex (Unit) (Bool)) (fun v3 =>
  if v3 < (a0_a.length:Int) then
  if 0 ≤ v3∧v3 < (a0_a.length:Int) then
  if 0 ≤ v3∧v3 < (a1_b.length:Int) then
  if ¬ (gi a0_a v3) = (gi a1_b v3) then
  some (St.done (Ex.up false))
  else
  if I64 (v3 + 1) then
  some (St.next (v3 + 1))
  else none
  else none
  else none
  else
  some (St.done (Ex.go ()))) 0) fun x=>x.then fun _ =>
  some true
def throngref0_EqWorld (a0_a:Wld) (a1_b:Wld):Option Bool :=
  Option.bind (if ((a0_a.tick = a1_b.tick)∧(a0_a.players = a1_b.players))∧(a0_a.nextid = a1_b.nextid) then
  Option.bind (throngref0_EqGround a0_a.g a1_b.g) fun x21 =>
  some x21
  else
  some false) fun b9 =>
  Option.bind (if b9 = true then
  Option.bind (throngref0_EqBuildings a0_a.bs a1_b.bs) fun x19 =>
  some x19
  else
  some false) fun b12 =>
  Option.bind (if b12 = true then
  Option.bind (throngref0_EqUnits a0_a.us a1_b.us) fun x17 =>
  some x17
  else
  some false) fun b15 =>
  some b15
def throngtop_num (a0_e:Int):Option Int :=
  some a0_e
def throngtop_may (a0_p:Scr30):Option Bool :=
  Option.bind (thronglaw30_Heavy a0_p) fun x2 =>
  Option.bind (if (!x2) = true then
  Option.bind (throngref5_Ground a0_p.g) fun x20 =>
  some x20
  else
  some false) fun b5 =>
  Option.bind (if ((((b5 = true)∧(1 ≤ a0_p.players))∧(a0_p.players ≤ 8))∧(1 ≤ a0_p.delay))∧(a0_p.delay ≤ 8) then
  Option.bind (throngref15_Room a0_p.room) fun x18 =>
  some x18
  else
  some false) fun b16 =>
  some b16
def throngtop_wakes:Option Bool :=
  Option.bind (session_Run (⟨1,1,[(0:UInt8)]⟩:Grd) 1 1 1 ([(⟨2,1,0,0,[]⟩:Act)]:List Act)) fun x3 =>
  Option.bind (throngtop_num x3.2) fun x10 =>
  if ((x10 = 0)∧((x3.1.turns.length:Int) = 1))→(0 ≤ (0:Int)∧(0:Int) < (x3.1.turns.length:Int)) then
  some (decide (((x10 = 0)∧((x3.1.turns.length:Int) = 1))∧((gi x3.1.turns (0:Int)) = 1)))
  else none
end Go.Proofs.YtmngdgclldkcfaaGreat
set_option linter.unusedVariables false
set_option linter.unusedSimpArgs false
set_option maxRecDepth 20000
set_option maxHeartbeats 4000000
namespace Go.Proofs.YtmngdgclldkcfaaGreat
open Go.Vg
open Enc (R)
def throngtop_TopQuiet (a0_p:Scr30):Option Bool :=
  Option.bind (throngtop_may a0_p) fun x2 =>
  if ((!x2) = true) ∨ (4 < a0_p.players) then
  some true
  else
  Option.bind (α:=List Act) (loop (σ:=List Act × Int) (β:=List Act) (fun (l67,v69) =>
  if v69 < 5 then
  Option.bind (α:=List Act) (loop (σ:=Int × List Act) (β:=List Act) (fun (v79,l80) =>
  if v79 ≤ a0_p.players then
  if l80.length + 1 < 1099511627776 then
  if I64 (v79 + 1) then
  some (St.next ((v79 + 1),(l80 ++ ([(⟨1,v79,0,0,[]⟩:Act)]:List Act))))
  else none
  else none
  else
  some (St.done l80)) (1,l67)) fun v73 =>
  if v73.length + 1 < 1099511627776 then
  if I64 (v69 + 1) then
  some (St.next ((v73 ++ ([(⟨6,0,4,0,[]⟩:Act)]:List Act)),(v69 + 1)))
  else none
  else none
  else
  some (St.done l67)) ([],0)) fun v7 =>
  Option.bind (session_Run a0_p.g a0_p.players a0_p.delay a0_p.room v7) fun x9 =>
  Option.bind (world_New a0_p.g a0_p.players) fun x16 =>
  Option.bind (throngtop_num x9.2) fun x21 =>
  Option.bind (if ¬ x21 = 0 then
  some true
  else
  Option.bind (throngtop_num x16.2) fun x66 =>
  some (decide (¬ x66 = 0))) fun b24 =>
  if ((b24 = true) ∨ (¬ (x9.1.worlds.length:Int) = a0_p.players)) ∨ (¬ (x9.1.turns.length:Int) = a0_p.players) then
  some false
  else
  Option.bind (α:=Ex (Int) (Bool)) (loop (σ:=Int × Int) (β:=Ex (Int) (Bool)) (fun (v33,v34) =>
  if v33 < a0_p.players then
  if 0 ≤ v33∧v33 < (x9.1.turns.length:Int) then
  if 0 ≤ v33∧v33 < (x9.1.turns.length:Int) then
  Option.bind (if (gi x9.1.turns v33) < a0_p.delay then
  some true
  else
  if 0 ≤ v33∧v33 < (x9.1.worlds.length:Int) then
  Option.bind (throngref0_EqWorld (gi x9.1.worlds v33) (⟨(gi x9.1.turns v33),x16.1.players,x16.1.nextid,x16.1.g,x16.1.bs,x16.1.us⟩:Wld)) fun x64 =>
  some (!x64)
  else none) fun b45 =>
  if b45 = true then
  some (St.done (Ex.up false))
  else
  if I64 (v33 + 1) then
  some (St.next ((v33 + 1),(gi x9.1.turns v33)))
  else none
  else none
  else none
  else
  some (St.done (Ex.go v34))) (0,x16.1.tick)) fun x=>x.then fun v31 =>
  Option.bind (throngtop_wakes) fun x32 =>
  some x32
end Go.Proofs.YtmngdgclldkcfaaGreat
