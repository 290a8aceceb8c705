/-
  RouteFinds, as a pure function, is true. For arguments that are Go's.
-/
import Derived.Test.YthdbofgcckjopaaGreatRL
import Derived.Test.YthdbofgcckjopaaGreatRI
import Derived.Test.YthdbofgcckjopaaGreatRLG1
set_option linter.unusedVariables false
set_option linter.unusedSimpArgs false
set_option maxRecDepth 20000
namespace Go.Proofs.YthdbofgcckjopaaGreat
open Go.Vg Sp Qp RC
theorem eqRoute_p {a b:Rte} (h:a.portals.length ≤ 9223372036854775807∧a.sectors.length ≤ 9223372036854775807) (e:a = b):throngref0_EqRoute a b = some true:=by
 subst e
 unfold throngref0_EqRoute
 rw [if_pos rfl,eqN13_p h.1,decide_eq_true rfl]
 show (Option.bind (if (true = true) then Option.bind (throngref0_EqNumbers a.sectors a.sectors) fun x10=>some x10 else some false) fun b8=>some b8) = some true
 rw [if_pos rfl,eqN13_p h.2,decide_eq_true rfl]
 rfl
theorem rfinds_law {p:Ask13}:thronglaw14_RouteFinds p = some true:=by
 unfold thronglaw14_RouteFinds
 rw [heavy14_p,bsome]
 refine Ok.eq (Ok.ite (fun _=>Ok.ret rfl) (fun hh=>?_))
 have hz:(p.g.tiles.length:Int) ≤ 700∧(p.l.length:Int) ≤ 30∧(p.ts.length:Int) ≤ 30:=by simp at hh; omega
 refine Ok.bind (scanOkB (a:=0) (n:=max 0 (min ((p.ts.length:Int) - 1) 4)) (fun _=>True) (fun _=>False) (by omega) (by omega) (fun v v0 v1=>?_) ?_) ?_
 ·refine Ok.gd (by unfold I64; omega) ?_
  rw [if_pos (by omega)]
  refine Ok.gd (by omega) (Ok.gd (by unfold I64; omega) (Ok.gd (by omega) ?_))
  obtain ⟨s,hs⟩:∃ s,s = gi p.ts v:=⟨_,rfl⟩
  obtain ⟨u,hu⟩:∃ u,u = gi p.ts (v + 1):=⟨_,rfl⟩
  rw [← hs,← hu]
  obtain ⟨r,hr,hd⟩:=find_r (g:=p.g) (l:=p.l) (cls:=p.cls) (size:=p.size) (s:=s) (u:=u) (by omega) (by omega)
  obtain ⟨b,eb,m,e1,e2⟩:∃ b,throngref13_May p.g p.l p.cls p.size = some b∧∃ m:Int × Int × List Int × List Int,(if b = true then
    Option.bind (throngref5_Tile p.g s) fun x49 =>
    Option.bind (if x49 = true then
    Option.bind (throngref5_Tile p.g u) fun x60 =>
    some x60
    else
    some false) fun b52 =>
    if b52 = true then
    Option.bind (throngref13_Route p.g p.l p.cls p.size s u) fun x54 =>
    if (!x54.2) = true then
    some (5,0,[],[])
    else
    some (0,x54.1.cost,x54.1.portals,x54.1.sectors)
    else
    some (3,0,[],[])
    else
    some (1,0,[],[])) = some m∧r = (⟨m.2.1,m.2.2.1,m.2.2.2⟩,m.1)∧r.1.portals.length ≤ 5000∧r.1.sectors.length ≤ 5001:=by
   rcases hd with ⟨hno,rfl⟩ | ⟨ha,hd⟩
   ·exact ⟨false,(mayFR_b (by omega) (by omega)).f hno,(1,0,[],[]),rfl,rfl,by simp,by simp⟩
   ·have hg:=ha.1.1
    refine ⟨true,(mayFR_b (by omega) (by omega)).t ha,?_⟩
    rw [if_pos rfl,tile13_p hg,bsome]
    rcases hd with ⟨hno,rfl⟩ | ⟨⟨h1,h2⟩,fr,hfr,hd⟩
    ·refine ⟨(3,0,[],[]),?_,rfl,by simp,by simp⟩
     by_cases hs1:0 ≤ s∧s < p.g.w * p.g.h
     ·have hu1:¬ (0 ≤ u∧u < p.g.w * p.g.h):=fun h=>hno ⟨hs1,h⟩
      rw [decide_eq_true hs1,if_pos rfl,tile13_p hg,bsome,decide_eq_false hu1,bsome]; rfl
     ·rw [decide_eq_false hs1]; rfl
    ·rw [decide_eq_true h1,if_pos rfl,tile13_p hg,bsome,decide_eq_true h2,bsome,if_pos rfl]
     obtain ⟨r',hr',fr',hfr',hd'⟩:=routeR_p ha h1 h2
     have:=GdF.same ha hfr hfr'
     subst this
     rw [hr',bsome]
     rcases hd with ⟨hnf,rfl⟩ | ⟨hf,ps,hd⟩ <;> rcases hd' with ⟨hnf',rfl⟩ | ⟨hf',ps',hps',ho',hlen',hd'⟩
     ·exact ⟨(5,0,[],[]),rfl,rfl,by simp,by simp⟩
     ·exact absurd hf' hnf
     ·exact absurd hf hnf'
     ·have e:ps' = ps:=by have:=hd.hp; rw [hps'] at this; exact Option.some.inj this
      subst e
      have hw:=hd.ways
      rcases hd.r with ⟨hr1,hr2⟩ | ⟨C,P,hb,hr1⟩ <;> rcases hd' with ⟨hr3,hr4⟩ | ⟨C',P',hb',hr3⟩
      ·rw [hr3]; rw [hr1] at hw ⊢
       exact ⟨(5,0,[],[]),rfl,rfl,hw⟩
      ·exact absurd hb'.1 (hr2 _ _)
      ·exact absurd hb.1 (hr4 _ _)
      ·obtain ⟨rfl,rfl⟩:=hb.uniq hb'
       rw [hr3]; rw [hr1] at hw ⊢
       exact ⟨_,rfl,rfl,hw⟩
  refine Ok.bindE eb (Ok.bindE e1 ?_)
  obtain ⟨m1,m2,m3,m4⟩:=m
  obtain ⟨rfl,e3⟩:=e2
  dsimp only at e3 ⊢
  rw [copyG13_p (by omega),bsome,hr,bsome,num14_p,bsome]
  refine Ok.bindE (x:=false) (by rw [if_neg (fun h=>h rfl),eqRoute_p (by dsimp only; omega) rfl,bsome]; rfl) ?_
  refine Ok.bindE (x:=false) (by rw [if_neg (by simp),eqG_p (by omega),bsome]; rfl) ?_
  rw [if_neg (by simp),numbers_p (by dsimp only; omega),bsome,numbers_p (by dsimp only; omega),bsome]
  exact Ok.gd (by unfold I64; omega) (Ok.ret ⟨rfl,trivial⟩)
 ·dsimp only
  rw [if_pos (by unfold I64; omega),if_neg (by omega)]
 ·rintro (_ | _) hx
  ·dsimp only [Ex.then]
   rw [wakes14_p]
   exact Ok.ret rfl
  ·exact hx.elim
end Go.Proofs.YthdbofgcckjopaaGreat
