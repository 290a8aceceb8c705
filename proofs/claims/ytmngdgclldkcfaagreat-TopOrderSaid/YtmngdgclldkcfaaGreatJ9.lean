/-
  Texts of one's own, joined: VY TO FG FH ZE V5 V1 V3 V4 WB.
-/
import Derived.Test.YtmngdgclldkcfaaGreatJ6
import Derived.Test.YtmngdgclldkcfaaGreatRows
import Derived.Test.YtmngdgclldkcfaaGreatJ7
import Derived.Test.YtmngdgclldkcfaaGreatJ8
import Derived.Test.YtmngdgclldkcfaaGreatJ4
import Derived.Test.YtmngdgclldkcfaaGreatJ3
import Derived.Test.YtmngdgclldkcfaaGreatJ5
set_option linter.unusedSimpArgs false
set_option linter.unusedVariables false
namespace Go.Vg
open Enc (R)

structure Raw3 where
  a:Value
  b:Value
  c:Value
  ok:(a.oneCell' && (b.oneCell' && c.oneCell')) = true
instance:Inhabited Raw3:=⟨⟨.bool false,.bool false,.bool false,rfl⟩⟩
def Raw3.cells (x:Raw3):List Value:=[x.a,x.b,x.c]
instance:Enc Raw3 where
  sz:=3
  R _ x cs:=cs = [x.a,x.b,x.c]
  len:=fun e=>by rw [e]; rfl
  one:=fun {h x cs} e u hu=>by
    have:=x.ok
    simp only [Bool.and_eq_true] at this
    rw [e] at hu; simp only [List.mem_cons,List.not_mem_nil,or_false] at hu
    rcases hu with rfl | rfl | rfl
    · exact this.1
    · exact this.2.1
    · exact this.2.2
  mono:=fun _ e=>e
instance:Flat Raw3:=⟨fun h=>h⟩

theorem RF_raw {h:Hp}:∀ {xs:List Raw3} {cs:List Value},RF h xs cs ↔ cs = xs.flatMap Raw3.cells
 | [],cs=>by simp [RF]
 | x :: xs,cs=>by
  constructor
  ·rintro ⟨c,r,e,hx,hr⟩
   have e1:c = [x.a,x.b,x.c]:=hx
   rw [e,e1,RF_raw.1 hr]; rfl
  ·intro e
   exact ⟨x.cells,xs.flatMap Raw3.cells,by rw [e]; rfl,rfl,RF_raw.2 rfl⟩

section
variable {α:Type} [Enc α] [Deep α]
def DZ:Hp→List (α × Raw3)→Prop
  | _,[]=>True
  | h,z :: zs=>∃ p q,Deep.D p z.1 z.2.cells∧DZ q zs∧(∀ b,p b = none ∨ q b = none)∧Hp.le p h∧Hp.le q h
abbrev inn (zs:List (α × Raw3)):Ch:=fun p=>DZ p zs
theorem DZ.mono {h h':Hp} (hl:h.le h'):∀ {zs:List (α × Raw3)},DZ h zs→DZ h' zs
 | [],_=>trivial
 | _ :: _,⟨p,q,a,b,d,l1,l2⟩=>⟨p,q,a,b,d,Hp.le_trans l1 hl,Hp.le_trans l2 hl⟩
theorem DZ.toDRF {h:Hp}:∀ {zs:List (α × Raw3)},DZ h zs→DRF h (zs.map (·.1)) ((zs.map (·.2)).flatMap Raw3.cells)
 | [],_=>rfl
 | z :: zs,⟨p,q,a,b,d,l1,l2⟩=>⟨z.2.cells,_,p,q,rfl,a,b.toDRF,d,l1,l2⟩
theorem three {c:List Value} (hl:c.length = 3) (h1:∀ u ∈ c,u.oneCell' = true):∃ r:Raw3,c = r.cells:=by
 match c,hl with
 | [x,y,z],_=>exact ⟨⟨x,y,z,by simp [h1 x (by simp),h1 y (by simp),h1 z (by simp)]⟩,rfl⟩
theorem DZ.ofDRF (hsz:Enc.sz α = 3) {h:Hp}:∀ {xs:List α} {cs:List Value},DRF h xs cs→∃ zs:List (α × Raw3),zs.map (·.1) = xs∧cs = (zs.map (·.2)).flatMap Raw3.cells∧DZ h zs
 | [],cs,e=>⟨[],rfl,e,trivial⟩
 | x :: xs,cs,⟨c,r,p,q,e,a,b,d,l1,l2⟩=>by
  obtain ⟨zs,h1,h2,h3⟩:=DZ.ofDRF hsz b
  have hc:=Deep.toR a
  obtain ⟨t,rfl⟩:=three (by rw [Enc.len hc,hsz]) (Enc.one hc)
  exact ⟨(x,t) :: zs,by simp [h1],by rw [e,h2]; rfl,p,q,a,h3,d,l1,l2⟩
theorem apart_le {p p' q:Hp} (hl:p.le p') (h:∀ b,p' b = none ∨ q b = none):∀ b,p b = none ∨ q b = none:=fun b=>by
 rcases h b with h | h
 ·cases hk:p b with
  | none=>exact .inl rfl
  | some o=>have:=hl b o hk; rw [h] at this; cases this
 ·exact .inr h
theorem apart_symm {p q:Hp} (h:∀ b,p b = none ∨ q b = none):∀ b,q b = none ∨ p b = none:=fun b=>(h b).symm
theorem le_over_r {p q:Hp} (h:∀ b,p b = none ∨ q b = none):q.le (p.over q):=fun b o e=>by
 unfold Hp.over
 rcases h b with h | h
 ·rw [h]; exact e
 ·rw [h] at e; cases e
theorem apart_over {p q r:Hp} (h1:∀ b,p b = none ∨ q b = none) (h2:∀ b,p b = none ∨ r b = none):∀ b,p b = none ∨ (q.over r) b = none:=fun b=>by
 rcases h1 b with h | h
 ·exact .inl h
 ·rcases h2 b with k | k
  ·exact .inl k
  ·exact .inr (by unfold Hp.over; rw [h]; exact k)
theorem DZ.perm {zs zs':List (α × Raw3)} (hp:zs.Perm zs'):∀ {h:Hp},DZ h zs→DZ h zs':=by
 induction hp with
 | nil=>exact fun h=>h
 | cons z _ ih=>exact fun ⟨p,q,a,b,d,l1,l2⟩=>⟨p,q,a,ih b,d,l1,l2⟩
 | swap x y l =>
  rintro h ⟨p,q,a,⟨p2,q2,a2,b2,d2,k1,k2⟩,d,l1,l2⟩
  have d3:∀ b,p b = none ∨ q2 b = none:=apart_symm (apart_le k2 (apart_symm d))
  have d4:∀ b,p2 b = none ∨ p b = none:=apart_le k1 (apart_symm d)
  exact ⟨p2,p.over q2,a2,⟨p,q2,a,b2,d3,Hp.le_over p q2,le_over_r d3⟩,apart_over d4 d2,Hp.le_trans k1 l2,Hp.over_le l1 (Hp.le_trans k2 l2)⟩
 | trans _ _ ih1 ih2=>exact fun h=>ih2 (ih1 h)
theorem DZ.sub {zs zs':List (α × Raw3)} (hs:zs'.Sublist zs):∀ {h:Hp},DZ h zs→DZ h zs':=by
 induction hs with
 | slnil=>exact fun h=>h
 | cons z _ ih=>exact fun ⟨p,q,a,b,d,l1,l2⟩=>(ih b).mono l2
 | cons_cons z _ ih=>exact fun ⟨p,q,a,b,d,l1,l2⟩=>⟨p,q,a,ih b,d,l1,l2⟩
theorem DZ.append {q:Hp} {ys:List (α × Raw3)} (hy:DZ q ys):∀ {xs:List (α × Raw3)} {p r:Hp},DZ p xs→(∀ b,p b = none ∨ q b = none)→p.le r→q.le r→DZ r (xs ++ ys)
 | [],p,r,_,_,_,l=>hy.mono l
 | x :: xs,p,r,⟨p1,q1,a,b,d,l1,l2⟩,ha,hp,hq=>by
  have h1:=apart_le l2 ha
  have h2:=apart_le l1 ha
  exact ⟨p1,q1.over q,a,DZ.append hy b h1 (Hp.le_over q1 q) (le_over_r h1),apart_over d h2,Hp.le_trans l1 hp,Hp.over_le (Hp.le_trans l2 hp) hq⟩
end

section
variable {w0 w:World} {G:List Ch}
theorem Sat.unstarAt {A B:Ch} (k:Nat) (s:Sat w0 G w) (hk:G[k]? = some (star A B)):Sat w0 (G.set k A ++ [B]) w:=by
 obtain ⟨e,own,h2⟩:=s
 have hkl:=(List.getElem?_eq_some_iff.1 hk).1
 obtain ⟨r,⟨p,q,hp,hq,hd,h3,h4⟩,hbr⟩:=h2 k _ hk
 classical
 refine ⟨e,fun b=>if own b = k∧p b = none then G.length else if own b = G.length then G.length + 1 else own b,fun j E hj=>?_⟩
 rw [List.getElem?_append] at hj
 split at hj
 ·rename_i hjl
  simp only [List.length_set] at hjl
  by_cases hjk:k = j
  ·subst hjk
   rw [List.getElem?_set_self hkl] at hj
   have:=(Option.some.inj hj).symm; subst this
   refine ⟨p,hp,fun b o hbo=>?_⟩
   obtain ⟨a1,a2,a3⟩:=hbr b o (h3 b o hbo)
   exact ⟨a1,by dsimp only; rw [if_neg (by rw [hbo]; simp),if_neg (by omega)]; exact a2,a3⟩
  ·rw [List.getElem?_set_ne hjk] at hj
   obtain ⟨u,hu,hb⟩:=h2 j E hj
   refine ⟨u,hu,fun b o hbo=>?_⟩
   obtain ⟨a1,a2,a3⟩:=hb b o hbo
   exact ⟨a1,by dsimp only; rw [if_neg (by intro h; omega),if_neg (by omega)]; exact a2,a3⟩
 ·rename_i hjl
  simp only [List.length_set] at hjl hj
  have hj0:j = G.length:=by
   rcases Nat.lt_or_ge (j - G.length) 1 with h | h
   ·omega
   ·rw [List.getElem?_eq_none (by simpa using h)] at hj; cases hj
  subst hj0
  simp at hj; subst hj
  refine ⟨q,hq,fun b o hbo=>?_⟩
  obtain ⟨a1,a2,a3⟩:=hbr b o (h4 b o hbo)
  have hpn:p b = none:=(hd b).resolve_right (by rw [hbo]; simp)
  exact ⟨a1,by dsimp only; rw [if_pos ⟨a2,hpn⟩],a3⟩
variable {α:Type} [Enc α] [Deep α]
theorem Sat.toZ (hsz:Enc.sz α = 3) (k:Nat) {e:TypeId} {v:Value} {xs:List α} (s:Sat w0 G w) (hk:G[k]? = some (drow e v xs)):∃ zs:List (α × Raw3),zs.map (·.1) = xs∧Sat w0 (G.set k (row nilH e v (zs.map (·.2))) ++ [inn zs]) w:=by
 have hkl:=(List.getElem?_eq_some_iff.1 hk).1
 obtain ⟨p,hp,s1⟩:=s.freeze k hk
 have hk1:(G.set k (fz p))[k]? = some (fz p):=List.getElem?_set_self hkl
 rcases hp with ⟨rfl,rfl,_⟩ | ⟨g,cap,cs,sp,rfl,hg,h3,h4,h5,h6⟩
 ·refine ⟨[],rfl,?_⟩
  have s2:=s1.weaken k hk1 (row nilH e (.slice none 0 0) ([]:List Raw3)) (fun _ _=>.inl ⟨rfl,rfl⟩)
  rw [List.set_set] at s2
  exact s2.addEmpty _ fun _=>trivial
 ·obtain ⟨zs,hz1,hz2,hz3⟩:=DZ.ofDRF hsz h6
  refine ⟨zs,hz1,?_⟩
  have hln:(zs.map (·.2)).length = xs.length:=by rw [← hz1]; simp
  have s2:=s1.weaken k hk1 (star (row nilH e (.slice (some ⟨g,0,none⟩) xs.length cap) (zs.map (·.2))) (inn zs)) (fun r hr=>by
   rw [show r = p from hr]
   refine ⟨fun b=>if b = g then p b else none,p.off g,.inr ⟨g,cap,cs,sp,by rw [hln],by simp [hg],by rw [hln]; exact h3,h4,by rw [h5,hsz]; rfl,RF_raw.2 hz2⟩,hz3,fun b=>?_,fun b o hb=>?_,Hp.off_le _ _⟩
   ·by_cases hb:b = g
    ·exact .inr (by simp [Hp.off,hb])
    ·exact .inl (by simp [hb])
   ·dsimp only at hb
    split at hb
    ·exact hb
    ·cases hb)
  rw [List.set_set] at s2
  have s3:=s2.unstarAt k (List.getElem?_set_self hkl)
  rw [List.set_set] at s3
  exact s3
theorem Sat.ofZ (hsz:Enc.sz α = 3) (k j:Nat) {e:TypeId} {v:Value} {rs:List Raw3} {zs:List (α × Raw3)} (s:Sat w0 G w) (hk:G[k]? = some (row nilH e v rs)) (hj:G[j]? = some (inn zs)) (hne:k ≠ j) (hr:zs.map (·.2) = rs):Sat w0 ((G.set k (drow e v (zs.map (·.1)))).set j dead) w :=
 s.merge2 k j hk hj hne _ fun p q r a b d l1 l2=>by
  subst hr
  have hln:(zs.map (·.2)).length = (zs.map (·.1)).length:=by simp
  rcases a with ⟨rfl,hz⟩ | ⟨g,cap,cs,sp,rfl,hg,h3,h4,h5,h6⟩
  ·have hz':zs = []:=by simpa using hz
   subst hz'
   exact .inl ⟨rfl,rfl,rfl⟩
  ·have e1:cs = (zs.map (·.2)).flatMap Raw3.cells:=RF_raw.1 h6
   refine .inr ⟨g,cap,cs,sp,by rw [hln],l1 _ _ hg,by rw [← hln]; exact h3,h4,by rw [h5,hsz]; rfl,?_⟩
   rw [e1]
   refine (DZ.toDRF b).mono fun c o hc=>?_
   unfold Hp.off
   have hcg:c ≠ g:=fun e2=>by
    subst e2
    rcases d c with h | h
    ·rw [h] at hg; cases hg
    ·rw [h] at hc; cases hc
   rw [if_neg hcg]; exact l2 c o hc
end
def osl {α:Type} [Enc α] (e:TypeId) (v:Value) (xs:List α):Ch:=fun h =>
  ∃ p cap,v = .slice p xs.length cap∧xs.length ≤ cap∧cap ≤ maxLen∧(xs = [] ∨ ∃ b o c cs,p = some ⟨b,o,none⟩∧h b = some (.cells c e (0,0))∧o + xs.length * Enc.sz α ≤ c.size∧RF nilH xs cs∧∀ j v,cs[j]? = some v→c[o + j]? = some v)
section
variable {w0 w:World} {G:List Ch} {α:Type} [Enc α]
theorem osl_R {e:TypeId} {v:Value} {xs:List α} {h:Hp} (ho:osl e v xs h):R h xs [v]:=by
 obtain ⟨p,cap,rfl,h1,h2,h3⟩:=ho
 refine ⟨p,cap,rfl,h1,h2,?_⟩
 rcases h3 with h3 | ⟨b,o,c,cs,h4,h5,_,h6,h7⟩
 ·exact .inl h3
 ·exact .inr ⟨b,o,cs,h4,h6.mono (nilH_le _),c,e,(0,0),h5,h7⟩
theorem Rd.ofOsl (k:Nat) {e:TypeId} {v:Value} {xs:List α} (hk:G[k]? = some (osl e v xs)):Rd (Sat w0 G) xs [v]:=fun w s=>by
 obtain ⟨p,hp,hl,_⟩:=s.get k hk
 exact Enc.mono hl (osl_R hp)
theorem Sat.osl_form {k:Nat} {e:TypeId} {v:Value} {xs:List α} (s:Sat w0 G w) (hk:G[k]? = some (osl e v xs)):∃ p c,v = .slice p xs.length c:=by
 obtain ⟨p,⟨q,cap,hq,_⟩,_⟩:=s.get k hk
 exact ⟨q,cap,hq⟩
theorem Sat.nilOsl (e:TypeId) (s:Sat w0 G w):Sat w0 (G ++ [osl e (.slice none 0 0) ([]:List α)]) w:=s.addEmpty _ fun _=>⟨none,0,rfl,by simp,by simp,.inl rfl⟩
theorem Sat.rowOsl [Flat α] {q:Option Nat × Nat} {m:Nat} {e:TypeId} {xs:List α} (k:Nat) (s:Sat w0 G w) (hk:G[k]? = some (row nilH e (rowV q m) xs)):Sat w0 (G.set k (osl e (rowV q m) xs)) w :=
 s.weaken k hk _ fun p hp=>by
  rcases hp with ⟨h1,rfl⟩ | ⟨g,cap,cs,sp,h1,h2,h3,h4,h5,h6⟩
  ·exact ⟨none,0,h1,by simp,by simp,.inl rfl⟩
  ·refine ⟨_,cap,h1,h3,h4,.inr ⟨g,0,_,cs,rfl,h2,?_,h6.any,fun j v hj=>?_⟩⟩
   ·rw [List.size_toArray,h5,Nat.zero_add]; exact Nat.mul_le_mul_right _ h3
   ·rw [Nat.zero_add,List.getElem?_toArray,List.getElem?_append_left (List.getElem?_eq_some_iff.1 hj).1]; exact hj
theorem Sat.oslDrop [Flat α] {sz:Nat} {p:Option Addr} {len cap:Nat} {e:TypeId} {xs:List α} (k i:Nat) (s:Sat w0 G w) (hk:G[k]? = some (osl e (.slice p len cap) xs)) (hi:i ≤ xs.length) (hsz:sz = Enc.sz α):Sat w0 (G.set k (osl e (.slice (cutP p cap i sz) (len - i) (cap - i)) (xs.drop i))) w :=
 s.weaken k hk _ fun h hp=>by
  subst hsz
  obtain ⟨q,cq,hv,h1,h2,h3⟩:=hp
  simp only [Value.slice.injEq] at hv
  obtain ⟨rfl,rfl,rfl⟩:=hv
  refine ⟨cutP p cap i (Enc.sz α),cap - i,by rw [List.length_drop],by rw [List.length_drop]; omega,by omega,?_⟩
  rcases h3 with rfl | ⟨b,o,c,cs,rfl,h5,h6,h7,h8⟩
  ·exact .inl (by simp)
  ·by_cases hlt:i < xs.length
   ·refine .inr ⟨b,o + i * Enc.sz α,c,cs.drop (i * Enc.sz α),cutP_lt (by omega),h5,?_,h7.drop i,fun j v hj=>?_⟩
    ·rw [List.length_drop]
     have:i * Enc.sz α + (xs.length - i) * Enc.sz α = xs.length * Enc.sz α:=by rw [← Nat.add_mul]; congr 1; omega
     omega
    ·rw [List.getElem?_drop] at hj
     rw [Nat.add_assoc]; exact h8 _ _ hj
   ·exact .inl (List.drop_eq_nil_of_le (by omega))
end
structure Pr3 where
 a:Int
 b:Int
 c:Int
 deriving Inhabited,DecidableEq
section
variable {P:Program} {n:Nat} {fr:Fr} {dst:Option Tmp} {ty:TypeId} {pos:String} {aft:Array Edge} {g:Option (Nat × Bool)}
end
end Go.Vg
set_option linter.unusedVariables false
set_option linter.unusedSimpArgs false
set_option maxRecDepth 20000
set_option maxHeartbeats 4000000
namespace Go.Proofs.YtmngdgclldkcfaaGreat
open Go.Vg
open Enc (R)
theorem bz3:decide (0 < Tryz.prog.bytesOf 3) = true:=by kernel_rfl
theorem bz37:decide (0 < Tryz.prog.bytesOf 37) = true:=by kernel_rfl
theorem co29:Tryz.prog.cellsOf 29 = 1:=by kernel_rfl
theorem co35:Tryz.prog.cellsOf 35 = 1:=by kernel_rfl
theorem co37:Tryz.prog.cellsOf 37 = 10:=by kernel_rfl
theorem uf37:structOf Tryz.prog 37 = some [(3,0),(3,1),(3,2),(3,3),(35,4),(3,5),(3,6),(3,7),(33,8)]:=by kernel_rfl
theorem usl29:Tryz.prog.underlying 29 = some (.slice 37):=by kernel_rfl
theorem usl87:Tryz.prog.underlying 87 = some (.slice 112):=by kernel_rfl
structure Cmd where
 player:Int
 seq:Int
 kind:Int
 n:Int
 units:List Int
 tile:Int
 w:Int
 h:Int
 pos:Vec
 deriving Inhabited,DecidableEq
instance:Enc Cmd where
 sz:=10
 R h x cs:=∃ v4,cs = [.int .i64 x.player,.int .i64 x.seq,.int .i64 x.kind,.int .i64 x.n,v4,.int .i64 x.tile,.int .i64 x.w,.int .i64 x.h,.int .i64 x.pos.x,.int .i64 x.pos.y]∧Enc.R h (x.units:List Int) [v4]
 len:=fun ⟨v4,e,h4⟩=>by rw [e]; rfl
 one:=fun ⟨v4,e,h4⟩ u hu=>by
  rw [e] at hu; simp only [List.mem_cons,List.not_mem_nil,or_false] at hu
  rcases hu with rfl | rfl | rfl | rfl | rfl | rfl | rfl | rfl | rfl | rfl
  ·rfl
  ·rfl
  ·rfl
  ·rfl
  ·exact Enc.one h4 _ (by simp)
  ·rfl
  ·rfl
  ·rfl
  ·rfl
  ·rfl
 mono:=fun hl ⟨v4,e,h4⟩=>⟨v4,e,Enc.mono hl h4⟩
instance:Deep Cmd where
 D h x c:=∃ q0:Option Nat × Nat,c = [.int .i64 x.player,.int .i64 x.seq,.int .i64 x.kind,.int .i64 x.n,rowV q0 x.units.length,.int .i64 x.tile,.int .i64 x.w,.int .i64 x.h,.int .i64 x.pos.x,.int .i64 x.pos.y]∧stars [row nilH 3 (rowV q0 x.units.length) x.units] h
 toR:=fun ⟨q0,e,⟨_,_,a0,_,_,l0,k0⟩⟩=>⟨_,e,Enc.mono l0 (row_R a0)⟩
 mono:=fun hl ⟨q0,e,s⟩=>⟨_,e,stars_mono hl s⟩
def Cmd.Wf (x:Cmd):Prop:=(I64 x.player)∧(I64 x.seq)∧(I64 x.kind)∧(I64 x.n)∧((∀ y ∈ x.units,I64 y)∧x.units.length ≤ 140737488351232)∧(I64 x.tile)∧(I64 x.w)∧(I64 x.h)∧(Vec.Wf x.pos)
theorem rd_Cmd:Rdbl Tryz.prog 37 Cmd Cmd.Wf:=fun H enc w fuel cs x h hzd=>by
 obtain ⟨fs,hu,hfs⟩:=structOf_spec uf37
 obtain ⟨hl,m,hf⟩:=trod_field hu h hzd
 obtain ⟨f0,hf0,ht0,ho0⟩:∃ f,fs[0]? = some f∧f.type = 3∧f.offset = 0:=by
  have h1:(fs.toList.map (fun f=>(f.type,f.offset)))[0]? = some (3,0):=by rw [hfs]; rfl
  rw [List.getElem?_map,Option.map_eq_some_iff] at h1
  obtain ⟨f,h2,h3⟩:=h1
  simp only [Prod.mk.injEq] at h3
  exact ⟨f,by simpa using h2,h3.1,h3.2⟩
 obtain ⟨y0,hy0⟩:=hf 0 f0 hf0
 rw [ht0,ho0,co3] at hy0
 obtain ⟨a0,ha0,hw0⟩:=Rdbl.part (Rdbl.int ul3) hy0
 obtain ⟨f1,hf1,ht1,ho1⟩:∃ f,fs[1]? = some f∧f.type = 3∧f.offset = 1:=by
  have h1:(fs.toList.map (fun f=>(f.type,f.offset)))[1]? = some (3,1):=by rw [hfs]; rfl
  rw [List.getElem?_map,Option.map_eq_some_iff] at h1
  obtain ⟨f,h2,h3⟩:=h1
  simp only [Prod.mk.injEq] at h3
  exact ⟨f,by simpa using h2,h3.1,h3.2⟩
 obtain ⟨y1,hy1⟩:=hf 1 f1 hf1
 rw [ht1,ho1,co3] at hy1
 obtain ⟨a1,ha1,hw1⟩:=Rdbl.part (Rdbl.int ul3) hy1
 obtain ⟨f2,hf2,ht2,ho2⟩:∃ f,fs[2]? = some f∧f.type = 3∧f.offset = 2:=by
  have h1:(fs.toList.map (fun f=>(f.type,f.offset)))[2]? = some (3,2):=by rw [hfs]; rfl
  rw [List.getElem?_map,Option.map_eq_some_iff] at h1
  obtain ⟨f,h2,h3⟩:=h1
  simp only [Prod.mk.injEq] at h3
  exact ⟨f,by simpa using h2,h3.1,h3.2⟩
 obtain ⟨y2,hy2⟩:=hf 2 f2 hf2
 rw [ht2,ho2,co3] at hy2
 obtain ⟨a2,ha2,hw2⟩:=Rdbl.part (Rdbl.int ul3) hy2
 obtain ⟨f3,hf3,ht3,ho3⟩:∃ f,fs[3]? = some f∧f.type = 3∧f.offset = 3:=by
  have h1:(fs.toList.map (fun f=>(f.type,f.offset)))[3]? = some (3,3):=by rw [hfs]; rfl
  rw [List.getElem?_map,Option.map_eq_some_iff] at h1
  obtain ⟨f,h2,h3⟩:=h1
  simp only [Prod.mk.injEq] at h3
  exact ⟨f,by simpa using h2,h3.1,h3.2⟩
 obtain ⟨y3,hy3⟩:=hf 3 f3 hf3
 rw [ht3,ho3,co3] at hy3
 obtain ⟨a3,ha3,hw3⟩:=Rdbl.part (Rdbl.int ul3) hy3
 obtain ⟨f4,hf4,ht4,ho4⟩:∃ f,fs[4]? = some f∧f.type = 35∧f.offset = 4:=by
  have h1:(fs.toList.map (fun f=>(f.type,f.offset)))[4]? = some (35,4):=by rw [hfs]; rfl
  rw [List.getElem?_map,Option.map_eq_some_iff] at h1
  obtain ⟨f,h2,h3⟩:=h1
  simp only [Prod.mk.injEq] at h3
  exact ⟨f,by simpa using h2,h3.1,h3.2⟩
 obtain ⟨y4,hy4⟩:=hf 4 f4 hf4
 rw [ht4,ho4,co35] at hy4
 obtain ⟨a4,ha4,hw4⟩:=Rdbl.part (Rdbl.slice usl35 co3 (by decide) (Rdbl.int ul3) bz3) hy4
 obtain ⟨f5,hf5,ht5,ho5⟩:∃ f,fs[5]? = some f∧f.type = 3∧f.offset = 5:=by
  have h1:(fs.toList.map (fun f=>(f.type,f.offset)))[5]? = some (3,5):=by rw [hfs]; rfl
  rw [List.getElem?_map,Option.map_eq_some_iff] at h1
  obtain ⟨f,h2,h3⟩:=h1
  simp only [Prod.mk.injEq] at h3
  exact ⟨f,by simpa using h2,h3.1,h3.2⟩
 obtain ⟨y5,hy5⟩:=hf 5 f5 hf5
 rw [ht5,ho5,co3] at hy5
 obtain ⟨a5,ha5,hw5⟩:=Rdbl.part (Rdbl.int ul3) hy5
 obtain ⟨f6,hf6,ht6,ho6⟩:∃ f,fs[6]? = some f∧f.type = 3∧f.offset = 6:=by
  have h1:(fs.toList.map (fun f=>(f.type,f.offset)))[6]? = some (3,6):=by rw [hfs]; rfl
  rw [List.getElem?_map,Option.map_eq_some_iff] at h1
  obtain ⟨f,h2,h3⟩:=h1
  simp only [Prod.mk.injEq] at h3
  exact ⟨f,by simpa using h2,h3.1,h3.2⟩
 obtain ⟨y6,hy6⟩:=hf 6 f6 hf6
 rw [ht6,ho6,co3] at hy6
 obtain ⟨a6,ha6,hw6⟩:=Rdbl.part (Rdbl.int ul3) hy6
 obtain ⟨f7,hf7,ht7,ho7⟩:∃ f,fs[7]? = some f∧f.type = 3∧f.offset = 7:=by
  have h1:(fs.toList.map (fun f=>(f.type,f.offset)))[7]? = some (3,7):=by rw [hfs]; rfl
  rw [List.getElem?_map,Option.map_eq_some_iff] at h1
  obtain ⟨f,h2,h3⟩:=h1
  simp only [Prod.mk.injEq] at h3
  exact ⟨f,by simpa using h2,h3.1,h3.2⟩
 obtain ⟨y7,hy7⟩:=hf 7 f7 hf7
 rw [ht7,ho7,co3] at hy7
 obtain ⟨a7,ha7,hw7⟩:=Rdbl.part (Rdbl.int ul3) hy7
 obtain ⟨f8,hf8,ht8,ho8⟩:∃ f,fs[8]? = some f∧f.type = 33∧f.offset = 8:=by
  have h1:(fs.toList.map (fun f=>(f.type,f.offset)))[8]? = some (33,8):=by rw [hfs]; rfl
  rw [List.getElem?_map,Option.map_eq_some_iff] at h1
  obtain ⟨f,h2,h3⟩:=h1
  simp only [Prod.mk.injEq] at h3
  exact ⟨f,by simpa using h2,h3.1,h3.2⟩
 obtain ⟨y8,hy8⟩:=hf 8 f8 hf8
 rw [ht8,ho8,co33] at hy8
 obtain ⟨a8,ha8,hw8⟩:=Rdbl.part rd_Vec hy8
 rw [co37] at hl
 obtain ⟨x0,x1,x2,x3,x4,x5,x6,x7,x8,x9,rfl⟩:∃ x0 x1 x2 x3 x4 x5 x6 x7 x8 x9,cs = [x0,x1,x2,x3,x4,x5,x6,x7,x8,x9]:=by
  match cs,hl with
  | [x0,x1,x2,x3,x4,x5,x6,x7,x8,x9],_=>exact ⟨x0,x1,x2,x3,x4,x5,x6,x7,x8,x9,rfl⟩
 simp only [List.drop_succ_cons,List.drop_zero,List.take_succ_cons,List.take_zero] at ha0 ha1 ha2 ha3 ha4 ha5 ha6 ha7 ha8
 obtain rfl:x0 = _:=by simpa [Enc.R] using ha0
 obtain rfl:x1 = _:=by simpa [Enc.R] using ha1
 obtain rfl:x2 = _:=by simpa [Enc.R] using ha2
 obtain rfl:x3 = _:=by simpa [Enc.R] using ha3
 obtain rfl:x5 = _:=by simpa [Enc.R] using ha5
 obtain rfl:x6 = _:=by simpa [Enc.R] using ha6
 obtain rfl:x7 = _:=by simpa [Enc.R] using ha7
 have e8:=ha8
 simp only [Enc.R,List.cons.injEq,and_true] at e8
 obtain ⟨rfl,rfl⟩:=e8
 exact ⟨⟨a0,a1,a2,a3,a4,a5,a6,a7,a8⟩,⟨_,rfl,ha4⟩,⟨hw0,hw1,hw2,hw3,hw4,hw5,hw6,hw7,hw8⟩⟩
structure Inp where
 turn:Int
 player:Int
 commands:List Cmd
 deriving Inhabited,DecidableEq
instance:Enc Inp where
 sz:=3
 R h x cs:=∃ v2,cs = [.int .i64 x.turn,.int .i64 x.player,v2]∧Enc.R h (x.commands:List Cmd) [v2]
 len:=fun ⟨v2,e,h2⟩=>by rw [e]; rfl
 one:=fun ⟨v2,e,h2⟩ u hu=>by
  rw [e] at hu; simp only [List.mem_cons,List.not_mem_nil,or_false] at hu
  rcases hu with rfl | rfl | rfl
  ·rfl
  ·rfl
  ·exact Enc.one h2 _ (by simp)
 mono:=fun hl ⟨v2,e,h2⟩=>⟨v2,e,Enc.mono hl h2⟩
instance:Deep Inp where
 D h x c:=∃ q0:Option Nat × Nat,c = [.int .i64 x.turn,.int .i64 x.player,rowV q0 x.commands.length]∧stars [drow 37 (rowV q0 x.commands.length) x.commands] h
 toR:=fun ⟨q0,e,⟨_,_,a0,_,_,l0,k0⟩⟩=>⟨_,e,Enc.mono l0 (drow_R a0)⟩
 mono:=fun hl ⟨q0,e,s⟩=>⟨_,e,stars_mono hl s⟩
def Inp.Wf (x:Inp):Prop:=(I64 x.turn)∧(I64 x.player)∧((∀ y ∈ x.commands,Cmd.Wf y)∧x.commands.length ≤ 140737488351232)
structure Nte where
 frm:Int
 dst:Int
 input:Inp
 don:Int
 hash:UInt64
 hav:Int
 deriving Inhabited,DecidableEq
instance:Enc Nte where
 sz:=8
 R h x cs:=∃ v4,cs = [.int .i64 x.frm,.int .i64 x.dst,.int .i64 x.input.turn,.int .i64 x.input.player,v4,.int .i64 x.don,.int .u64 x.hash.toNat,.int .i64 x.hav]∧Enc.R h (x.input.commands:List Cmd) [v4]
 len:=fun ⟨v4,e,h4⟩=>by rw [e]; rfl
 one:=fun ⟨v4,e,h4⟩ u hu=>by
  rw [e] at hu; simp only [List.mem_cons,List.not_mem_nil,or_false] at hu
  rcases hu with rfl | rfl | rfl | rfl | rfl | rfl | rfl | rfl
  ·rfl
  ·rfl
  ·rfl
  ·rfl
  ·exact Enc.one h4 _ (by simp)
  ·rfl
  ·rfl
  ·rfl
 mono:=fun hl ⟨v4,e,h4⟩=>⟨v4,e,Enc.mono hl h4⟩
instance:Deep Nte where
 D h x c:=∃ q0:Option Nat × Nat,c = [.int .i64 x.frm,.int .i64 x.dst,.int .i64 x.input.turn,.int .i64 x.input.player,rowV q0 x.input.commands.length,.int .i64 x.don,.int .u64 x.hash.toNat,.int .i64 x.hav]∧stars [drow 37 (rowV q0 x.input.commands.length) x.input.commands] h
 toR:=fun ⟨q0,e,⟨_,_,a0,_,_,l0,k0⟩⟩=>⟨_,e,Enc.mono l0 (drow_R a0)⟩
 mono:=fun hl ⟨q0,e,s⟩=>⟨_,e,stars_mono hl s⟩
def Nte.Wf (x:Nte):Prop:=(I64 x.frm)∧(I64 x.dst)∧(Inp.Wf x.input)∧(I64 x.don)∧(I64 x.hav)
structure Per where
 id:Int
 players:Int
 delay:Int
 turn:Int
 said:Int
 mine:List Inp
 inputs:List Inp
 has:List Int
 acked:List Int
 hashes:List UInt64
 split:Bool
 deriving Inhabited,DecidableEq
def Per.Wf (x:Per):Prop:=(I64 x.id)∧(I64 x.players)∧(I64 x.delay)∧(I64 x.turn)∧(I64 x.said)∧((∀ y ∈ x.mine,Inp.Wf y)∧x.mine.length ≤ 140737488351232)∧((∀ y ∈ x.inputs,Inp.Wf y)∧x.inputs.length ≤ 140737488351232)∧((∀ y ∈ x.has,I64 y)∧x.has.length ≤ 140737488351232)∧((∀ y ∈ x.acked,I64 y)∧x.acked.length ≤ 140737488351232)∧((∀ y ∈ x.hashes,True)∧x.hashes.length ≤ 140737488351232)
end Go.Proofs.YtmngdgclldkcfaaGreat
set_option linter.unusedVariables false
set_option linter.unusedSimpArgs false
set_option maxRecDepth 20000
set_option maxHeartbeats 4000000
namespace Go.Proofs.YtmngdgclldkcfaaGreat
open Go.Vg
open Enc (R)
def kind_Price (a0_class:Int) (a1_terrain:Int):Option Int :=
  if a0_class = 0 then
  if (List.replicate 6 0).length = 6∧[2,1,3,5,0,0].length = 6 then
  if 0 ≤ a1_terrain∧a1_terrain < (6:Int)∧[2,1,3,5,0,0].length = 6 then
  some (gi [2,1,3,5,0,0] a1_terrain)
  else none
  else none
  else
  none
def clear_Tiles (a0_g:Grd) (a1_l:List Bld) (a2_class:Int):Option (List Bool) :=
  Option.bind (build_Cover a0_g a1_l) fun x2 =>
  Option.bind (α:=List Bool) (loop (σ:=Int × List Bool) (β:=List Bool) (fun (v6,l7) =>
  if v6 < (x2.length:Int) then
  if 0 ≤ v6∧v6 < (x2.length:Int) then
  Option.bind (if (!(gi l7 v6)) = true then
  if 0 ≤ v6∧v6 < (a0_g.tiles.length:Int) then
  Option.bind (kind_Price a2_class ((gi a0_g.tiles v6).toNat:Int)) fun x24 =>
  some (decide (0 < x24))
  else none
  else
  some false) fun b16 =>
  if 0 ≤ v6∧v6 < (x2.length:Int) then
  if I64 (v6 + 1) then
  some (St.next ((v6 + 1),(si l7 v6 b16)))
  else none
  else none
  else none
  else
  some (St.done l7)) (0,x2)) fun v5 =>
  some v5
end Go.Proofs.YtmngdgclldkcfaaGreat
set_option linter.unusedVariables false
set_option linter.unusedSimpArgs false
set_option maxRecDepth 20000
set_option maxHeartbeats 4000000
namespace Go.Proofs.YtmngdgclldkcfaaGreat
open Go.Vg
open Enc (R)
theorem ar347:arTy Tryz.prog 347 = some (6,3,1):=by kernel_rfl
theorem at347:atTy Tryz.prog 347 = some ([.int .i64 0,.int .i64 0,.int .i64 0,.int .i64 0,.int .i64 0,.int .i64 0],1):=by kernel_rfl
theorem ent244:Ent Tryz.prog 244:=en Tryz.func244
theorem ent245:Ent Tryz.prog 245:=en Tryz.func245
instance ty347:TyC Tryz.prog 347 (6,true):={}
theorem zr347:zeroOf Tryz.prog 347 = some (.agg #[.int .i64 0,.int .i64 0,.int .i64 0,.int .i64 0,.int .i64 0,.int .i64 0]):=by kernel_rfl
theorem kind_Price_walk (a0_class:Int) (a1_terrain:Int) (w:World) {r:Int} (H:kind_Price a0_class a1_terrain = some r):Calls Tryz.prog 245 #[.int .i64 a0_class,.int .u8 a1_terrain] w fun e w'=>e = .returned (.int .i64 r)∧Ext w w':=by
 unfold kind_Price at H
 refine te Tryz.func245 (Sat.start w) ?_
 refine au 2 ?_
 refine T.seq fun _ k2=>T.region (RS.solid (Sd.alloc (cs:=nums (List.replicate 6 0)) zr347 rfl) rfl rfl fun b1=>RS.nil (k2 _ _ ?_))
 refine T.seq fun _ k3=>au 2 ?_
 refine T.block (au 3 ?_)
 refine T.cP H rfl (fun hc2 H=>?_) (fun hc2 H=>?_)
 ·refine kq [1,5] ?_
  refine T.region (rp (Pu.buildAr (cells:=[_,_,_,_,_,_]) at347 rfl rfl) ?_)
  obtain ⟨g3,H⟩:=gdE H
  refine RS.solid (Sd.stB (cs':=nums [2,1,3,5,0,0]) (us:=nums [2,1,3,5,0,0]) 0 ty347.h rfl rfl rfl (by first | rfl | simp [Value.cells]) (by simp [nums,(g3).2]) (by simp [nums,(g3).1]) (by simp [nums,Value.oneCell']) (by rw [List.take_zero,List.nil_append,List.drop_of_length_le (by simp [nums,(g3).1]),List.append_nil])) rfl rfl fun _=>RS.nil (k3 _ _ ?_)
  refine T.seq fun _ k6=>T.region (rM rfl ?_)
  obtain ⟨g4,H⟩:=gdE H
  refine rp (Pu.indexAr ar347 rfl rfl (by have:=g4; omega)) (rq (Qt.ldAr 0 ty3.h rfl rfl rfl (by have:=g4; omega)) (rA rfl (RS.nil (k6 _ _ (kq [4] ?_)))))
  obtain rfl:=sj H
  refine T.rt (Cont.ret1 rfl rfl fun w' s=>?_)
  exact ⟨rfl,s.ext⟩
 refine kq [1,5,6] ?_
 refine T.seq fun _ k7=>?_
 exact nomatch H
theorem clear_Tiles_walk (a0_g:Grd) (a1_l:List Bld) (a2_class:Int) (w:World) {v0 v1:Value} (h0:R (hpOf w) a0_g.tiles [v0]) (h1:R (hpOf w) a1_l [v1]) {r:List Bool} (H:clear_Tiles a0_g a1_l a2_class = some r):Calls Tryz.prog 177 #[.agg #[.int .i64 a0_g.w,.int .i64 a0_g.h,v0],v1,.int .i64 a2_class] w fun e w'=>∃ q1:(Option Nat × Nat),e = .returned (rowV q1 r.length)∧Sat w [row nilH 4 (rowV q1 r.length) r] w':=by
 have hm0:=R_max h0
 obtain ⟨p0,c0,rfl⟩:=R_form h0
 have hm1:=R_max h1
 obtain ⟨p1,c1,rfl⟩:=R_form h1
 unfold clear_Tiles at H
 refine te Tryz.func177 (Sat.start w) ?_
 refine T.seq fun _ k1=>T.region (RS.solid (Sd.box (cs:=[_,_,_]) rfl rfl) rfl rfl fun b1=>rA rfl (RS.nil (k1 _ _ ?_)))
 refine T.seq fun _ k2=>T.region (au 2 ?_)
 obtain ⟨x2,hx2,H⟩:=bindE H
 refine RS.solid (Sd.callN (vs:=[_,_]) ent244 rfl (fun w s=>build_Cover_walk a0_g a1_l w ((Rd.base h0) w s) ((Rd.base h1) w s) hx2)) rfl rfl fun q3=>rA rfl (RS.nil (k2 _ _ (kq [2,3,7] ?_)))
 refine T.seq fun _ k3=>au 4 ?_
 refine T.joinE (σ:=List Bool) (γ:=Unit) H (fun s=>s) [(7,_)] sb (fun v5 _=>[]) (fun v5 _=>Sat w [blk b1 [.int .i64 a0_g.w,.int .i64 a0_g.h,.slice p0 a0_g.tiles.length c0] 24,row nilH 4 (rowV q3 x2.length) v5]) ?_ ?_
 ·rintro v5 ⟨⟩ H
  try dsimp only [Ex.then] at H
  refine Cont.kq [7] ?_
  refine id (k3 _ _ ?_)
  refine au 3 ?_
  obtain rfl:=sj H
  refine T.rt (Cont.ret1 rfl rfl fun w' s=>?_)
  exact ⟨q3,(by simp only [(s.row_fits (q:=q3) (m:=x2.length) (k:=1) rfl).1]; try rfl),(Sat.relen (q:=q3) (m:=x2.length) 1 s rfl).pick [1] (by decide) rfl⟩
 intro z4 hz4 HX4 hJ4
 refine T.block ?_
 refine T.loopA (γ:=Unit) hz4 [(2,_),(3,_),(7,_),(13,_),(14,_)] (fun (v6,l7) _=>[(15,.int .i64 v6)]) (fun (v6,l7) _=>Sat w [blk b1 [.int .i64 a0_g.w,.int .i64 a0_g.h,.slice p0 a0_g.tiles.length c0] 24,row nilH 4 (rowV q3 x2.length) l7]) () sb sb (fun w s=>s) ?_
 rintro ⟨v6,l7⟩ ⟨⟩ y8 H hd4 KL4 hL4
 try dsimp only [Ex.then] at H
 refine kq [15,2,3,7,13,14] ?_
 refine au 2 ?_
 refine T.seq fun _ k7=>?_
 refine T.cP H rfl (fun hc9 H=>?_) (fun hc9 H=>?_)
 ·refine T.skip (k7 _ _ ?_)
  refine T.seq fun _ k8=>T.block (T.seq fun _ k9=>T.region (rM rfl ?_))
  obtain ⟨g10,H⟩:=gdE H
  refine RS.know (fun w s=>(s.row_fits (q:=q3) (m:=x2.length) (k:=1) rfl)) fun hf11=>?_
  refine RS.know (p:=∃ g cap,q3 = (some g,cap)) (fun w s=>(s.row_some (k:=1) rfl (pos_of (idx_of hf11.1 g10)))) ?_
  rintro ⟨gg12,cc13,rfl⟩
  refine rp (Pu.indexSl sl41.h rfl rfl g10) (rq (Qt.ld0 (α:=Bool) (Rd.ofRowN 1 rfl) ty4.h rfl rfl (idx_of hf11.1 g10) (by rintro _ _ rfl; rfl)) (au 2 ?_))
  refine RS.nil (k9 _ _ (kq [2,3,7,8,9,13,14,15] ?_))
  refine T.region (au 5 ?_)
  refine RS.joinB H 9 33 (fun b16=>.bool b16) [(2,_),(3,_),(7,_),(13,_),(14,_),(15,_),(20,_),(21,_)] sb ?_ ?_
  ·intro b16 H
   obtain ⟨g17,H⟩:=gdE H
   refine RS.know (fun w s=>(s.row_fits (q:=(some gg12,cc13)) (m:=x2.length) (k:=1) rfl)) fun hf18=>?_
   refine rp (Pu.indexSl sl41.h rfl rfl g17) (RS.solid (Sd.st0 (α:=Bool) 1 b16 rfl ty4.h rfl rfl rfl (idx_of hf18.1 g17) rfl rfl (by decide) rfl (by rintro _ _ rfl; rfl)) rfl rfl fun _=>RS.nil (k8 _ _ (kq [2,3,7,13,14,15] ?_)))
   refine T.region ?_
   obtain ⟨g19,H⟩:=gdE H
   refine rp (Pu.addS rfl rfl g19) (rM rfl (RS.nil (hL4 _ _ ((v6 + 1),(si l7 v6 b16)) () H sb sb (fun w s=>s))))
  intro z20 H hJ15
  refine RS.split 24 rfl (fun hc14=>?_) (fun hc14=>?_)
  ·have H:=ifT hc14 H
   refine au 4 ?_
   obtain ⟨g21,H⟩:=gdE H
   obtain ⟨bl22,ol23,rfl⟩:=R_ptr h0 (ne_of_pos (pos_of g21))
   refine rp (Pu.indexSl sl22.h rfl rfl g21) (rq (Qt.ld0 (α:=UInt8) (Rd.base h0) ty5.h rfl rfl g21 (by rintro _ _ rfl; rfl)) ?_)
   obtain ⟨x24,hx24,H⟩:=bindE H
   refine rq (Qt.call (vs:=[_,_]) ent245 rfl fun w s=>kind_Price_walk a2_class ((gi a0_g.tiles v6).toNat:Int) w  hx24) (au 2 ?_)
   obtain rfl:=sj H
   exact hJ15 _ _ sb (fun w s=>s)
  have H:=ifB hc14 H
  refine au 9 ?_
  obtain rfl:=sj H
  exact hJ15 _ _ sb (fun w s=>s)
 obtain rfl:=hd4 _ H
 refine T.xt (hJ4 _ _ l7 () HX4 sb trivial (fun w s=>s))
end Go.Proofs.YtmngdgclldkcfaaGreat
set_option linter.unusedVariables false
set_option linter.unusedSimpArgs false
set_option maxRecDepth 20000
set_option maxHeartbeats 4000000
namespace Go.Proofs.YtmngdgclldkcfaaGreat
open Go.Vg
open Enc (R)
theorem zr5:zeroOf Tryz.prog 5 = some (.int .u8 0):=by kernel_rfl
theorem cloneByte_calls_nil {l:List UInt8} {n c:Nat} (w:World) (hA:R (hpOf w) l [.slice none n c]):Calls Tryz.prog 65 #[.slice none n c] w fun e w'=>∃ q:Option Nat × Nat,e = .returned (rowV q l.length)∧Sat w [row nilH 5 (rowV q l.length) l] w':=by
 refine T.enter (args:=[.slice none n c]) (S:=Sat w []) Tryz.func65 rfl rfl (Sat.start w) ?_
 refine au 2 ?_
 refine T.seq fun _ k2=>T.seq fun _ k3=>T.region (rM rfl (rp (Pu.eqNilSl usl22 rfl) (RS.nil (k3 _ _ ?_))))
 refine T.cond rfl (fun hc4=>?_) (fun hc4=>?_)
 ·refine kq [] ?_
  refine au 2 ?_
  refine T.retTo (by with_reducible ((repeat (first | apply RetTo.seq | apply RetTo.blk)); exact RetTo.refl _)) (Cont.ret1 rfl rfl fun w' s=>?_)
  have hl0:l = []:=by
   obtain ⟨p',c',e',s1,s2,s3⟩:=hA
   simp only [List.cons.injEq,Value.slice.injEq,and_true] at e'
   obtain ⟨rfl,rfl,rfl⟩:=e'
   rcases s3 with h | ⟨b,o,cs,h,_⟩
   ·exact h
   cases h
  subst hl0
  exact ⟨(none,0),rfl,s.addEmpty _ (fun p=>.inl ⟨rfl,rfl⟩)⟩
 exact absurd hc4 (by simp) -- end
theorem cloneByte_calls_some {l:List UInt8} {a:Addr} {n c:Nat} (hsz:n < 1099511627776) (w:World) (hA:R (hpOf w) l [.slice (some a) n c]):Calls Tryz.prog 65 #[.slice (some a) n c] w fun e w'=>∃ q:Option Nat × Nat,e = .returned (rowV q l.length)∧Sat w [row nilH 5 (rowV q l.length) l] w':=by
 refine T.enter (args:=[.slice (some a) n c]) (S:=Sat w []) Tryz.func65 rfl rfl (Sat.start w) ?_
 refine au 2 ?_
 refine T.seq fun _ k2=>T.seq fun _ k3=>T.region (rM rfl (rp (Pu.eqNilSl usl22 rfl) (RS.nil (k3 _ _ ?_))))
 refine T.cond rfl (fun hc4=>?_) (fun hc4=>?_)
 ·exact absurd hc4 (by simp) -- end
 refine T.skip (k2 _ _ (kq [0] ?_))
 refine T.seq fun _ k4=>T.region (RS.solid (Sd.lit0 (α:=UInt8) (B:=nilH) sl22.h) rfl rfl fun b5=>rM rfl (RS.solid (Sd.appB (α:=UInt8) 0 (nilH_lt _) rfl sl22.h zr5 rfl rfl rfl hA (by simp only [List.length_nil]; omega) (by simp only [List.length_nil]; unfold maxLen; omega)) rfl rfl fun q7=>rA rfl (RS.nil (k4 _ _ (kq [2] ?_)))))
 refine T.retTo (by with_reducible ((repeat (first | apply RetTo.seq | apply RetTo.blk)); exact RetTo.refl _)) (Cont.ret1 rfl rfl fun w' s=>?_)
 have hn:n = l.length:=(R_len hA).1
 simp only [List.length_nil,Nat.zero_add,List.nil_append] at s
 subst hn
 exact ⟨q7,by simp,s.pick (G':=[_]) [0] (by decide) rfl⟩
theorem cloneByte_calls {l:List UInt8} {v:Value} (hsz:l.length < 1099511627776) (w:World) (hA:R (hpOf w) l [v]):Calls Tryz.prog 65 #[v] w fun e w'=>∃ q:Option Nat × Nat,e = .returned (rowV q l.length)∧Sat w [row nilH 5 (rowV q l.length) l] w':=by
 obtain ⟨p,c,rfl⟩:=R_form hA
 cases p with
 | none=>exact cloneByte_calls_nil w hA
 | some a=>exact cloneByte_calls_some hsz w hA
def slices_Clone_Byte (l:List UInt8):Option (List UInt8):=if l.length < 1099511627776 then some l else none
theorem slices_Clone_Byte_walk (l:List UInt8) (w:World) {v0:Value} (h0:R (hpOf w) l [v0]) {r:List UInt8} (H:slices_Clone_Byte l = some r):Calls Tryz.prog 65 #[v0] w fun e w'=>∃ g:(Option Nat × Nat),e = .returned (rowV g r.length)∧Sat w [row nilH 5 (rowV g r.length) r] w':=by
 unfold slices_Clone_Byte at H
 obtain ⟨h1,H⟩:=gdE H
 obtain rfl:=sj H
 exact cloneByte_calls h1 w h0
end Go.Proofs.YtmngdgclldkcfaaGreat
set_option linter.unusedVariables false
set_option linter.unusedSimpArgs false
set_option linter.unusedVariables false
namespace Go.Vg
open Enc (R)
open Go
variable {P:Program} {n:Nat} {fr:Fr} {S:As} {dst:Option Tmp} {ty:TypeId} {pos:String} {aft:Array Edge} {g:Option (Nat × Bool)}
theorem Pu.shrV {xt yt:TypeId} {x y:Operand} {a k:Int} {kk:IntKind} (hx:ev fr x = some (.int .i64 a)) (hy:ev fr y = some (.int kk k)) (h:0 ≤ k∧k < 64) :
  Pu P n ⟨dst,.binOp .shr xt x y yt,ty,pos,aft,g⟩ fr (.int .i64 (a / 2 ^ k.toNat)):=fun ac kn w=>by
 have h2:=shift_shr_any .i64 kk a k h.1
 have h3:min k.toNat 64 = k.toNat:=by omega
 simp [execOp,kn.ev hx,kn.ev hy,binOp,eqGuard,h2,IntKind.bits,h3]
end Go.Vg
set_option linter.unusedSimpArgs false
set_option linter.unusedVariables false
namespace Go.Vg
open Go.RowKit (Below)
open Enc (R)
structure RawN (n:Nat) where
  c:List Value
  hl:c.length = n
  h1:∀ u ∈ c,u.oneCell' = true
instance {n:Nat}:Inhabited (RawN n):=⟨⟨List.replicate n (.bool false),by simp,fun u hu=>by rw [List.eq_of_mem_replicate hu]; rfl⟩⟩
instance {n:Nat}:Enc (RawN n) where
  sz:=n
  R _ x cs:=cs = x.c
  len:=fun {h x cs} e=>by rw [e]; exact x.hl
  one:=fun {h x cs} e=>by rw [e]; exact x.h1
  mono:=fun _ h=>h
instance {n:Nat}:Flat (RawN n):=⟨fun h=>h⟩
section
variable {α:Type} [Enc α] [Deep α] {n:Nat}
def DN:Hp→List (α × RawN n)→Prop
  | _,[]=>True
  | h,z :: zs=>∃ p q,Deep.D p z.1 z.2.c∧DN q zs∧(∀ b,p b = none ∨ q b = none)∧Hp.le p h∧Hp.le q h
theorem DN.mono {h h':Hp} (hl:h.le h'):∀ {zs:List (α × RawN n)},DN h zs→DN h' zs
 | [],_=>trivial
 | _ :: _,⟨p,q,a,b,d,l1,l2⟩=>⟨p,q,a,b,d,Hp.le_trans l1 hl,Hp.le_trans l2 hl⟩
variable {w0 w:World} {G:List Ch}
end
end Go.Vg
set_option linter.unusedSimpArgs false
set_option linter.unusedVariables false
namespace Go.Vg
open Enc (R)
theorem all_raw (x:Raw3):([x.a,x.b,x.c].all fun u=>u.oneCell') = true:=by
 have:=x.ok
 simpa [Bool.and_eq_true] using this
def FnF (P:Program) (w0:World) (F:Ch) (v:Value) {α β:Type} (enc:α→List Value) (dec:β→Value) (p:α→Option β):Prop :=
  ∃ (f:FuncId) (cs:List Value),v = .func (.func f) #[] cs.toArray∧Ent P f∧∀ x r w',Sat w0 [F] w'→p x = some r→Calls P f (enc x ++ cs).toArray w' fun e w''=>e = .returned (dec r)∧Ext w' w''
def FnRF (P:Program) (w0:World) (F:Ch) (v:Value) {α β:Type} (Rel:α→List Value→Prop) (dec:β→Value) (p:α→Option β):Prop :=
  ∃ (f:FuncId) (cs:List Value),v = .func (.func f) #[] cs.toArray∧Ent P f∧∀ x c r w',Rel x c→Sat w0 [F] w'→p x = some r→Calls P f (c ++ cs).toArray w' fun e w''=>e = .returned (dec r)∧Ext w' w''
section
variable {P:Program} {n:Nat} {fr:Fr} {dst:Option Tmp} {ty:TypeId} {pos:String} {aft:Array Edge} {g:Option (Nat × Bool)} {S:As} {w0 w:World} {G:List Ch} {F:Ch}
theorem FnF.toQ {v:Value} {α β:Type} {enc:α→List Value} {dec:β→Value} {p:α→Option β} (h:FnF P w0 F v enc dec p) (s:Sat w0 [F] w):FnQ P w v enc dec p:=by
 obtain ⟨f,cs,h1,h2,h3⟩:=h
 exact ⟨f,cs,h1,h2,fun x r w' e hp=>h3 x r w' (s.grow e) hp⟩
theorem Qt.callF {xo:Operand} {xs:List Operand} {ts:Array TypeId} {v:Value} {α β:Type} {enc:α→List Value} {dec:β→Value} {p:α→Option β} (hv:ev fr xo = some v) (hf:FnF P w0 F v enc dec p) (hs:∀ w,S w→Sat w0 [F] w) {x:α} {r:β} (hr:p x = some r) (hx:evs fr xs = some (enc x)) :
  Qt P n ⟨dst,.call { callee:=.value xo,args:=xs.toArray,argTypes:=ts },ty,pos,aft,g⟩ fr S (dec r):=fun a w k s=>by
 obtain ⟨f,cs,rfl,he,hc⟩:=hf
 rw [run_enterV he hv hx k]
 have:=hc x r w (hs w s) hr
 rw [show (enc x).toArray ++ cs.toArray = (enc x ++ cs).toArray by simp]
 exact ⟨Ext.refl w,this⟩
end
end Go.Vg
set_option linter.unusedSimpArgs false
set_option linter.unusedVariables false
namespace Go.Vg
open Go.RowKit (Below)
open Enc (R)
section
variable {w0 w:World} {G:List Ch} {α:Type} [Enc α]
def FA (B:Hp):Hp→List α→List Value→Prop:=fun _ xs cs=>RF B xs cs
instance {B:Hp}:PhM w0 (FA (α:=α) B):=⟨fun _ _ d=>d⟩
theorem Sat.nilRowA {B:Hp} (e:TypeId) (h:Sat w0 G w):Sat w0 (G ++ [rowG (FA B) e (rowV (none,0) 0) ([]:List α)]) w:=h.addEmpty _ (fun p=>.inl ⟨rfl,rfl,rfl⟩)
end
section
variable {P:Program} {n:Nat} {fr:Fr} {dst:Option Tmp} {ty:TypeId} {pos:String} {aft:Array Edge} {g:Option (Nat × Bool)} {S:As} {w0:World} {G:List Ch}
end
end Go.Vg
set_option linter.unusedVariables false
namespace Go.Vg
open Enc (R)
open Go
variable {P:Program} {n:Nat} {fr:Fr} {S:As} {dst:Option Tmp} {ty:TypeId} {pos:String} {aft:Array Edge} {g:Option (Nat × Bool)}
end Go.Vg
