/-
  Texts of one's own, joined: DR DD PO PG3 SSG TLO TXG TLG.
-/
import Derived.Test.YtmngdgclldkcfaaGreatRows
import Derived.Test.YtmngdgclldkcfaaGreatJ6
import Derived.Test.YtmngdgclldkcfaaGreatJ7
import Derived.Test.YtmngdgclldkcfaaGreatJ9
import Derived.Test.YtmngdgclldkcfaaGreatJ5
import Derived.Test.YtmngdgclldkcfaaGreatJ21
import Derived.Test.YtmngdgclldkcfaaGreatJ12
import Derived.Test.YtmngdgclldkcfaaGreatJ11
set_option linter.unusedVariables false
set_option linter.unusedSimpArgs false
set_option maxRecDepth 20000
set_option maxHeartbeats 4000000
namespace Go.Proofs.YtmngdgclldkcfaaGreat
open Go.Vg
open Enc (R)
theorem ent158r:Ent Tryz.prog 158:=⟨_,_,Tryz.func158,by kernel_rfl,rfl⟩
instance sl86r:SlC Tryz.prog 86 (210,3,40):={}
instance ty210r:TyC Tryz.prog 210 (3,true):={}
theorem zr210r:zeroOf Tryz.prog 210 = some (.agg #[.int .i64 0,.int .i64 0,.slice none 0 0]):=by kernel_rfl
def raw_IndexFunc (a0_s:List Raw3) (a1_f:Raw3→Option Bool):Option Int :=
  Option.bind (α:=Ex (Unit) (Int)) (loop (σ:=Int) (β:=Ex (Unit) (Int)) (fun v2 =>
  if v2 < (a0_s.length:Int) then
  if 0 ≤ v2∧v2 < (a0_s.length:Int) then
  Option.bind (a1_f (gi a0_s v2)) fun x8 =>
  if x8 = true then
  some (St.done (Ex.up v2))
  else
  if I64 (v2 + 1) then
  some (St.next (v2 + 1))
  else none
  else none
  else
  some (St.done (Ex.go ()))) 0) fun x=>x.then fun _ =>
  some (-1)
theorem raw_IndexFunc_walk (a0_s:List Raw3) (a1_f:Raw3→Option Bool) (w:World) {v0 v1:Value} (h0:R (hpOf w) a0_s [v0]) (h1:FnQ Tryz.prog w v1 (fun (y0:Raw3)=>[.agg #[y0.a,y0.b,y0.c]]) (fun (r:Bool)=>.bool r) a1_f) {r:Int} (H:raw_IndexFunc a0_s a1_f = some r):Calls Tryz.prog 158 #[v0,v1] w fun e w'=>e = .returned (.int .i64 r)∧Ext w w':=by
 have hm0:=R_max h0
 obtain ⟨p0,c0,rfl⟩:=R_form h0
 unfold raw_IndexFunc at H
 refine te Tryz.func158 (Sat.start w) ?_
 refine au 2 ?_
 refine T.seq fun _ k2=>au 4 ?_
 refine T.joinE (σ:=Unit) (γ:=Unit) H Ex.go [] trivial (fun _ _=>[]) (fun _ _=>Sat w []) ?_ ?_
 ·rintro ⟨⟩ ⟨⟩ H
  try dsimp only [Ex.then] at H
  refine Cont.kq [] ?_
  refine id (k2 _ _ ?_)
  refine au 2 ?_
  obtain rfl:=sj H
  refine T.rt (Cont.ret1 rfl rfl fun w' s=>?_)
  exact ⟨rfl,s.ext⟩
 intro z1 hz1 HX1 hJ1
 refine T.block ?_
 refine T.loopA (γ:=Unit) hz1 [(0,_),(1,_),(7,_)] (fun v2 _=>[(8,.int .i64 v2)]) (fun v2 _=>Sat w []) () sb sb (fun w s=>s) ?_
 rintro v2 ⟨⟩ y3 H hd1 KL1 hL1
 try dsimp only [Ex.then] at H
 refine kq [8,0,1,7] ?_
 refine au 2 ?_
 refine T.seq fun _ k6=>?_
 refine T.cP H rfl (fun hc4 H=>?_) (fun hc4 H=>?_)
 ·refine T.skip (k6 _ _ ?_)
  refine T.seq fun _ k7=>T.block (au 3 ?_)
  refine T.seq fun _ k9=>T.region (au 3 ?_)
  obtain ⟨g5,H⟩:=gdE H
  obtain ⟨bl6,ol7,rfl⟩:=R_ptr h0 (ne_of_pos (pos_of g5))
  refine rp (Pu.indexSl sl86r.h rfl rfl g5) (rq (Qt.ldW (α:=Raw3) (cs:=[_,_,_]) (Rd.base h0) ty210r.h rfl rfl g5 rfl (by rintro _ _ rfl; rfl)) ?_)
  obtain ⟨x8,hx8,H⟩:=bindE H
  refine rq (Qt.callV rfl h1 (fun w s=>s.ext) hx8 rfl) (RS.nil (k9 _ _ ?_))
  refine T.cB H rfl (fun hc9 H=>?_) (fun hc9 H=>?_)
  ·refine kq [5] ?_
   refine au 3 ?_
   obtain rfl:=hd1 _ H
   have H:=HX1
   obtain rfl:=sj H
   refine T.rt (Cont.ret1 rfl rfl fun w' s=>?_)
   exact ⟨rfl,s.ext⟩
  refine T.skip (k7 _ _ (kq [0,1,7,8] ?_))
  refine T.region ?_
  obtain ⟨g10,H⟩:=gdE H
  refine rp (Pu.addS rfl rfl g10) (rM rfl (RS.nil (hL1 _ _ (v2 + 1) () H sb sb (fun w s=>s))))
 obtain rfl:=hd1 _ H
 refine T.xt (hJ1 _ _ () () HX1 trivial trivial (fun w s=>s))
def raw_DeleteFunc (a0_s:List Raw3) (a1_del:Raw3→Option Bool):Option (List Raw3) :=
  Option.bind (raw_IndexFunc a0_s a1_del) fun x1 =>
  if x1 = (-1) then
  some a0_s
  else
  if I64 (x1 + 1) then
  Option.bind (α:=Int × List Raw3) (loop (σ:=Int × Int × List Raw3) (β:=Int × List Raw3) (fun (v12,v13,l14) =>
  if v13 < (a0_s.length:Int) then
  if 0 ≤ v13∧v13 < (a0_s.length:Int) then
  Option.bind (a1_del (gi l14 v13)) fun x22 =>
  if (!x22) = true then
  if 0 ≤ v12∧v12 < (a0_s.length:Int) then
  if I64 (v12 + 1) then
  if I64 (v13 + 1) then
  some (St.next ((v12 + 1),(v13 + 1),(si l14 v12 (gi l14 v13))))
  else none
  else none
  else none
  else
  if I64 (v13 + 1) then
  some (St.next (v12,(v13 + 1),l14))
  else none
  else none
  else
  some (St.done (v12,l14))) (x1,(x1 + 1),a0_s)) fun (v5,v6) =>
  if 0 ≤ v5∧v5 < (a0_s.length:Int) then
  some (v6.take v5.toNat)
  else none
  else none
theorem raw_DeleteFunc_walk {w0:World} {F:Ch} (a0_s:List Raw3) (a1_del:Raw3→Option Bool) {q0:Option Nat × Nat} {m0:Nat} (hm:m0 = a0_s.length) {v0:Value} (h0:FnF Tryz.prog w0 F v0 (fun (y0:Raw3)=>[.agg #[y0.a,y0.b,y0.c]]) (fun (r:Bool)=>.bool r) a1_del) {r:List Raw3} (H:raw_DeleteFunc a0_s a1_del = some r) (w:World) (s:Sat w0 [row nilH 210 (rowV q0 m0) a0_s,F] w):Calls Tryz.prog 280 #[rowV q0 m0,v0] w fun e w'=>∃ q:Option Nat × Nat,e = .returned (rowV q r.length)∧Sat w0 [row nilH 210 (rowV q r.length) r,F] w':=by
 subst hm
 unfold raw_DeleteFunc at H
 refine te Tryz.func280 s ?_
 refine au 2 ?_
 refine T.seq fun _ k2=>T.region (au 2 ?_)
 obtain ⟨x1,hx1,H⟩:=bindE H
 refine rq (Qt.call (vs:=[_,_]) ent158r rfl fun w s=>raw_IndexFunc_walk a0_s a1_del w ((Rd.ofRowN 0 rfl) w s) (FnF.toQ h0 (s.pc [1])) hx1) (rA rfl (RS.nil (k2 _ _ (kq [0,1,5] ?_))))
 refine T.seq fun _ k3=>au 3 ?_
 refine T.cP H rfl (fun hc2 H=>?_) (fun hc2 H=>?_)
 ·refine kq [0] ?_
  refine au 3 ?_
  obtain rfl:=sj H
  refine T.rt (Cont.ret1 rfl rfl fun w' s=>?_)
  exact ⟨q0,rfl,s.pc [0,1]⟩
 refine T.skip (k3 _ _ ?_)
 refine T.seq fun _ k6=>T.seq fun _ k7=>T.region (rM rfl ?_)
 obtain ⟨g3,H⟩:=gdE H
 refine rp (Pu.addS rfl rfl g3) (rA rfl (RS.nil (k7 _ _ (kq [0,1,5,6] ?_))))
 refine T.joinE (σ:=Int × List Raw3) (γ:=Unit) H (fun s=>s) [(0,_)] sb (fun (v5,v6) _=>[(5,.int .i64 v5)]) (fun (v5,v6) _=>Sat w0 [row nilH 210 (rowV q0 a0_s.length) v6,F]) ?_ ?_
 ·rintro ⟨v5,v6⟩ ⟨⟩ H
  try dsimp only [Ex.then] at H
  refine Cont.kq [5,0] ?_
  refine id (k6 _ _ ?_)
  refine T.seq fun _ k8=>T.region (au 2 ?_)
  obtain ⟨g7,H⟩:=gdE H
  refine RS.know (p:=∃ g cap,q0 = (some g,cap)) (fun w s=>(s.row_some (k:=0) rfl (by have h1:=g7; have h2:=(s.row_fits (q:=q0) (m:=a0_s.length) (k:=0) rfl).1; omega))) ?_
  rintro ⟨gg8,cc9,rfl⟩
  refine RS.know (fun w s=>(s.row_fits (q:=(some gg8,cc9)) (m:=a0_s.length) (k:=0) rfl)) fun hf10=>?_
  refine rp (Pu.sliceLs (j:=v5.toNat) sl86r.h rfl rfl (by have h1:=g7; omega) (by have h1:=g7; omega) (by have h1:=g7; have h2:=hf10.2.1; omega)) ?_
  refine RS.weakS (fun w s=>s.cutRow (q:=(some gg8,cc9)) (m:=a0_s.length) 0 v5.toNat rfl (by have h1:=g7; omega)) ?_
  refine RS.solid (Sd.clearSp (α:=Raw3) 0 v5.toNat rfl sl86r.h zr210r rfl (by decide) (by simp only [ev,look_cons]; simp; rfl) (by rw [List.length_take]; exact Nat.min_le_left _ _) (by have h1:=g7; have h2:=hf10.2.1; omega) (by have h1:=g7; omega)) rfl rfl fun _=>RS.nil (k8 _ _ (kq [0,5] ?_))
  refine T.seq fun _ k9=>T.region (au 2 ?_)
  refine RS.know (fun w s=>(s.row_fits (q:=(some gg8,cc9)) (m:=v5.toNat) (k:=0) rfl)) fun hf11=>?_
  refine rp (Pu.sliceH sl86r.h rfl rfl (by have h1:=g7; have h2:=hf11.2.1; omega)) (rA rfl (RS.nil (k9 _ _ (kq [4] ?_))))
  obtain rfl:=sj H
  refine T.rt (Cont.ret1 rfl rfl fun w' s=>?_)
  exact ⟨(some gg8,cc9),(by have h9:=(s.row_fits (q:=(some gg8,cc9)) (m:=v5.toNat) (k:=0) rfl).1; first | (rw [← h9]; done) | (rw [← h9]; rfl)),(Sat.relen (q:=(some gg8,cc9)) (m:=v5.toNat) 0 s rfl).pick [0,1] (by decide) rfl⟩
 intro z4 hz4 HX4 hJ4
 refine T.block ?_
 refine T.loopA (γ:=Unit) hz4 [(0,_),(1,_)] (fun (v12,v13,l14) _=>[(5,.int .i64 v12),(6,.int .i64 v13)]) (fun (v12,v13,l14) _=>Sat w0 [row nilH 210 (rowV q0 a0_s.length) l14,F]) () sb sb (fun w s=>s) ?_
 rintro ⟨v12,v13,l14⟩ ⟨⟩ y15 H hd4 KL4 hL4
 try dsimp only [Ex.then] at H
 refine kq [5,6,0,1] ?_
 refine T.seq fun _ k10=>au 5 ?_
 refine T.cP H rfl (fun hc16 H=>?_) (fun hc16 H=>?_)
 ·refine T.skip (k10 _ _ (kq [0,1,5,6] ?_))
  refine T.seq fun _ k12=>T.block (T.seq fun _ k13=>T.region (au 2 ?_))
  obtain ⟨g17,H⟩:=gdE H
  refine RS.know (fun w s=>(s.row_fits (q:=q0) (m:=a0_s.length) (k:=0) rfl)) fun hf18=>?_
  refine RS.know (p:=∃ g cap,q0 = (some g,cap)) (fun w s=>(s.row_some (k:=0) rfl (pos_of (idx_of hf18.1 g17)))) ?_
  rintro ⟨gg19,cc20,rfl⟩
  refine rp (Pu.indexSl sl86r.h rfl rfl g17) (rq (Qt.ldW (α:=Raw3) (cs:=[_,_,_]) (Rd.ofRowN 0 rfl) ty210r.h rfl rfl (idx_of hf18.1 g17) rfl (by rintro _ _ rfl; rfl)) (RS.solid (Sd.alloc zr210r rfl) rfl rfl fun b21=>RS.solid (Sd.stB (cs':=[_,_,_]) 2 ty210r.h rfl rfl rfl rfl rfl rfl (by exact all_raw _) rfl) rfl rfl fun _=>RS.nil (k13 _ _ (kq [0,1,5,6,7] ?_))))
  refine T.seq fun _ k14=>T.region (au 2 ?_)
  obtain ⟨x22,hx22,H⟩:=bindE H
  refine rq (Qt.callF rfl h0 (fun w s=>s.pc [1]) hx22 rfl) (rp (Pu.not rfl) (RS.nil (k14 _ _ ?_)))
  refine T.cB H rfl (fun hc23 H=>?_) (fun hc23 H=>?_)
  ·refine kq [0,1,5,6,7] ?_
   refine T.seq fun _ k15=>T.region (au 3 ?_)
   obtain ⟨g24,H⟩:=gdE H
   refine RS.know (fun w s=>(s.row_fits (q:=(some gg19,cc20)) (m:=a0_s.length) (k:=0) rfl)) fun hf25=>?_
   refine rp (Pu.indexSl sl86r.h rfl rfl g24) (RS.solid (Sd.st0 (α:=Raw3) 0 (gi l14 v13) rfl ty210r.h rfl rfl rfl (idx_of hf25.1 g24) rfl rfl (by decide) (by exact all_raw _) (by rintro _ _ rfl; rfl)) rfl rfl fun _=>RS.nil (k15 _ _ (kq [0,1,5,6] ?_)))
   refine T.region (rM rfl ?_)
   obtain ⟨g26,H⟩:=gdE H
   refine rp (Pu.addS rfl rfl g26) (rA rfl (RS.nil (k12 _ _ ?_)))
   refine T.region (rM rfl ?_)
   obtain ⟨g27,H⟩:=gdE H
   refine rp (Pu.addS rfl rfl g27) (rA rfl (RS.nil (hL4 _ _ ((v12 + 1),(v13 + 1),(si l14 v12 (gi l14 v13))) () H sb sb (fun w s=>s.pc [0,1]))))
  refine T.skip (k12 _ _ (kq [0,1,5,6] ?_))
  refine T.region (rM rfl ?_)
  obtain ⟨g28,H⟩:=gdE H
  refine rp (Pu.addS rfl rfl g28) (rA rfl (RS.nil (hL4 _ _ (v12,(v13 + 1),l14) () H sb sb (fun w s=>s.pc [0,1]))))
 obtain rfl:=hd4 _ H
 refine T.xt (hJ4 _ _ (v12,l14) () HX4 sb sb (fun w s=>s))
end Go.Proofs.YtmngdgclldkcfaaGreat
set_option linter.unusedVariables false
set_option linter.unusedSimpArgs false
namespace Go.Proofs.YtmngdgclldkcfaaGreat
open Go.Vg
open Enc (R)
theorem raw_ix {xs:List Raw3} {p:Raw3→Option Bool} (hl:xs.length < 1099511627776) (hp:∀ x ∈ xs,∃ b,p x = some b):Ok (raw_IndexFunc xs p) (fun i=>(i = -1∧∀ j:Int,0 ≤ j→j < xs.length→p (gi xs j) = some false) ∨ (0 ≤ i∧i < xs.length∧p (gi xs i) = some true∧∀ j:Int,0 ≤ j→j < i→p (gi xs j) = some false)):=by
 unfold raw_IndexFunc
 refine Ok.bind (R:=fun x=>match x with | .go _=>∀ j:Int,0 ≤ j→j < xs.length→p (gi xs j) = some false | .up i=>0 ≤ i∧i < xs.length∧p (gi xs i) = some true∧∀ j:Int,0 ≤ j→j < i→p (gi xs j) = some false) (Ok.loop (fun i:Int=>0 ≤ i∧i ≤ xs.length∧∀ j:Int,0 ≤ j→j < i→p (gi xs j) = some false) (fun i=>(xs.length - i).toNat) ⟨by omega,by omega,fun j h0 h1=>by omega⟩ (by unfold FUEL; omega) ?_) ?_
 ·rintro i ⟨h0,h1,hq⟩
  refine Ok.ite (fun hlt=>Ok.gd ⟨h0,hlt⟩ ?_) (fun hlt=>Ok.ret ?_)
  ·obtain ⟨b,hb⟩:=hp _ (gi_mem ⟨h0,hlt⟩)
   refine Ok.bindE hb (Ok.ite (fun hbt=>Ok.ret ?_) (fun hbt=>Ok.gd (by unfold I64; omega) (Ok.ret ?_)))
   ·exact ⟨h0,hlt,by rw [hb,hbt],hq⟩
   ·refine ⟨⟨by omega,by omega,fun j j0 j1=>?_⟩,by omega⟩
    by_cases hj:j = i
    ·subst hj; rw [hb]; cases b <;> simp_all
    ·exact hq j j0 (by omega)
  ·exact fun j j0 j1=>hq j j0 (by omega)
 ·rintro (_ | i) hx
  ·exact Ok.ret (.inl ⟨rfl,hx⟩)
  ·exact Ok.ret (.inr hx)
theorem set_take {α:Type} {ys:List α} {m:Nat} {x:α} (h:m < ys.length):(ys.set m x).take (m + 1) = ys.take m ++ [x]:=by
 rw [List.take_succ_eq_append_getElem (by simpa using h),List.take_set_of_le (Nat.le_refl _)]
 simp
theorem raw_del {xs:List Raw3} {p:Raw3→Option Bool} (hl:xs.length < 1099511627776) (hp:∀ x ∈ xs,∃ b,p x = some b):raw_DeleteFunc xs p = some (xs.filter (fun x=>p x == some false)):=by
 unfold raw_DeleteFunc
 obtain ⟨i,hi,hix⟩:=raw_ix hl hp
 rw [hi,Option.bind_some]
 have allF:∀ n:Nat,n ≤ xs.length→(∀ j:Int,0 ≤ j→j < n→p (gi xs j) = some false)→(xs.take n).filter (fun x=>p x == some false) = xs.take n:=fun n hn h=>by
  rw [List.filter_eq_self]
  intro x hx
  obtain ⟨j,hj,rfl⟩:=List.getElem_of_mem hx
  rw [List.length_take] at hj
  have:=h j (by omega) (by omega)
  rw [List.getElem_take]
  have e:gi xs (j:Int) = xs[j]'(by omega):=by simp [gi,List.getD,List.getElem?_eq_getElem (show j < xs.length by omega)]
  rw [← e,this]; rfl
 rcases hix with ⟨rfl,hx⟩ | ⟨h0,h1,ht,hx⟩
 ·rw [if_pos rfl]
  have:=allF xs.length (Nat.le_refl _) (fun j j0 j1=>hx j j0 j1)
  rw [List.take_length] at this
  rw [this]
 ·rw [if_neg (by omega)]
  refine Ok.eq (Ok.gd (by unfold I64; omega) (Ok.bind (R:=fun z:Int × List Raw3=>0 ≤ z.1∧z.1 < xs.length∧z.2.take z.1.toNat = xs.filter (fun x=>p x == some false)) (Ok.loop (fun z:Int × Int × List Raw3=>0 ≤ z.1∧z.1 < z.2.1∧z.2.1 ≤ xs.length∧z.2.2.length = xs.length∧z.2.2.take z.1.toNat = (xs.take z.2.1.toNat).filter (fun x=>p x == some false)∧z.2.2.drop z.2.1.toNat = xs.drop z.2.1.toNat) (fun z=>(xs.length - z.2.1).toNat) ⟨h0,by show i < i + 1; omega,by show i + 1 ≤ _; omega,rfl,?_,rfl⟩ (by unfold FUEL; dsimp only; omega) ?_) ?_))
  ·show xs.take i.toNat = (xs.take (i + 1).toNat).filter _
   rw [take_nextV ⟨h0,h1⟩,List.filter_append,allF _ (by omega) (fun j j0 j1=>hx j j0 (by omega))]
   have:([gi xs i].filter (fun x=>p x == some false)) = []:=by
    rw [List.filter_cons_of_neg (by rw [ht]; decide)]; rfl
   rw [this,List.append_nil]
  ·rintro ⟨k,j,ys⟩ ⟨k0,kj,jn,hy,h5,h6⟩
   dsimp only at k0 kj jn hy h5 h6 ⊢
   refine Ok.ite (fun hlt=>Ok.gd ⟨by omega,hlt⟩ ?_) (fun hlt=>Ok.ret ?_)
   ·have hg:gi ys j = gi xs j:=by
     have:=congrArg (fun l=>l[0]?) h6
     simp only [List.getElem?_drop,Nat.add_zero] at this
     simp [gi,List.getD,this]
    rw [hg]
    obtain ⟨b,hb⟩:=hp _ (gi_mem (xs:=xs) (j:=j) ⟨by omega,hlt⟩)
    have hd1:xs.drop (j + 1).toNat = (xs.drop j.toNat).drop 1:=by rw [List.drop_drop]; congr 1; omega
    have hd2:∀ zs:List Raw3,zs.drop (j + 1).toNat = (zs.drop j.toNat).drop 1:=fun zs=>by rw [List.drop_drop]; congr 1; omega
    refine Ok.bindE hb (Ok.ite (fun hbt=>Ok.gd ⟨k0,by omega⟩ (Ok.gd (by unfold I64; omega) (Ok.gd (by unfold I64; omega) (Ok.ret ?_)))) (fun hbt=>Ok.gd (by unfold I64; omega) (Ok.ret ?_)))
    ·have hbf:b = false:=by cases b <;> simp_all
     subst hbf
     refine ⟨⟨by show 0 ≤ k + 1; omega,by show k + 1 < j + 1; omega,by show j + 1 ≤ _; omega,by show (si ys k _).length = _; rw [len_si]; exact hy,?_,?_⟩,by show (xs.length - (j + 1)).toNat < (xs.length - j).toNat; omega⟩
     ·show (si ys k (gi xs j)).take (k + 1).toNat = (xs.take (j + 1).toNat).filter _
      have e1:(k + 1).toNat = k.toNat + 1:=by omega
      rw [take_nextV ⟨by omega,hlt⟩,List.filter_append,← h5,List.filter_cons_of_pos (by rw [hb]; decide),e1]
      exact set_take (by omega)
     ·show (si ys k (gi xs j)).drop (j + 1).toNat = xs.drop (j + 1).toNat
      have:(si ys k (gi xs j)).drop (j + 1).toNat = ys.drop (j + 1).toNat:=List.drop_set_of_lt (by omega)
      rw [this,hd2,hd2,h6]
    ·have hbf:b = true:=by cases b <;> simp_all
     subst hbf
     refine ⟨⟨k0,by show k < j + 1; omega,by show j + 1 ≤ _; omega,hy,?_,?_⟩,by show (xs.length - (j + 1)).toNat < (xs.length - j).toNat; omega⟩
     ·show ys.take k.toNat = (xs.take (j + 1).toNat).filter _
      rw [take_nextV ⟨by omega,hlt⟩,List.filter_append,← h5,List.filter_cons_of_neg (by rw [hb]; decide)]
      simp
     ·show ys.drop (j + 1).toNat = xs.drop (j + 1).toNat
      rw [hd2,hd2,h6]
   ·have:j.toNat = xs.length:=by omega
    rw [this,List.take_length] at h5
    exact ⟨k0,by show k < _; omega,h5⟩
  ·rintro ⟨k,ys⟩ ⟨k0,k1,hk⟩
   exact Ok.gd ⟨k0,k1⟩ (Ok.ret hk)
def slices_DeleteFuncI (a0:List Inp) (p:Inp→Option Bool):Option (List Inp):=if (∀ x ∈ a0,(p x).isSome = true∧p x = p ⟨x.turn,x.player,[]⟩)∧a0.length < 1099511627776 then some (a0.filter (fun x=>p x == some false)) else none
def rawP (p:Inp→Option Bool) (z:Raw3):Option Bool:=match z.a,z.b with
  | .int .i64 t,.int .i64 q=>p ⟨t,q,[]⟩
  | _,_=>none
theorem DZ.ints:∀ {zs:List (Inp × Raw3)} {h:Hp},DZ h zs→∀ z ∈ zs,z.2.a = .int .i64 z.1.turn∧z.2.b = .int .i64 z.1.player
 | [],_,_,z,hz=>by cases hz
 | y :: ys,h,⟨p,q,a,b,d,l1,l2⟩,z,hz=>by
  rcases List.mem_cons.1 hz with rfl | hz
  ·obtain ⟨u,e,_⟩:=Deep.toR a
   have e:[z.2.a,z.2.b,z.2.c] = [.int .i64 z.1.turn,.int .i64 z.1.player,u]:=e
   simp only [List.cons.injEq] at e
   exact ⟨e.1,e.2.1⟩
  ·exact DZ.ints b z hz
theorem slices_DeleteFuncI_walk {w0:World} {F:Ch} (a0:List Inp) (p:Inp→Option Bool) {q0:Option Nat × Nat} {m0:Nat} (hm:m0 = a0.length) {v0:Value} (h0:FnRF Tryz.prog w0 F v0 (fun (y0:Inp) c=>∃ u0:Value,c = [.agg #[.int .i64 y0.turn,.int .i64 y0.player,u0]]) (fun (r:Bool)=>.bool r) p) {r:List Inp} (H:slices_DeleteFuncI a0 p = some r) (w:World) (s:Sat w0 [drow 210 (rowV q0 m0) a0,F] w) :
  Calls Tryz.prog 280 #[rowV q0 m0,v0] w fun e w'=>∃ q:Option Nat × Nat,e = .returned (rowV q r.length)∧Sat w0 [drow 210 (rowV q r.length) r,F] w':=by
 unfold slices_DeleteFuncI at H
 obtain ⟨⟨hp,hl⟩,H⟩:=gdE H
 obtain rfl:=sj H
 obtain ⟨zs,hz,s2⟩:=s.toZ (α:=Inp) rfl 0 rfl
 have hzl:(zs.map (·.2)).length = a0.length:=by rw [← hz]; simp
 obtain ⟨hh,hd,_⟩:=s2.get 2 rfl
 have hint:=DZ.ints hd
 have hpz:∀ z ∈ zs,rawP p z.2 = p z.1:=fun z hzm=>by
  obtain ⟨e1,e2⟩:=hint z hzm
  have hx:z.1 ∈ a0:=by rw [← hz]; exact List.mem_map_of_mem hzm
  unfold rawP
  rw [e1,e2]
  exact (hp _ hx).2.symm
 have h0r:FnF Tryz.prog w0 (star F (inn zs)) v0 (fun (y0:Raw3)=>[.agg #[y0.a,y0.b,y0.c]]) (fun (r:Bool)=>.bool r) (rawP p):=by
  obtain ⟨f,cs,e1,e2,e3⟩:=h0
  refine ⟨f,cs,e1,e2,fun x r w' hs hr=>?_⟩
  have hs2:Sat w0 [F] w':=(hs.unstarAt 0 rfl).pick [0] (by decide) rfl
  unfold rawP at hr
  split at hr
  ·rename_i t q ha hb
   refine e3 ⟨t,q,[]⟩ _ r w' ⟨x.c,?_⟩ hs2 hr
   show [Value.agg #[x.a,x.b,x.c]] = _
   rw [ha,hb]
  ·cases hr
 have hdl:raw_DeleteFunc (zs.map (·.2)) (rawP p) = some ((zs.filter (fun z=>rawP p z.2 == some false)).map (·.2)):=by
  rw [raw_del (by rw [hzl]; exact hl) (fun x hx=>by
   obtain ⟨z,hzm,rfl⟩:=List.mem_map.1 hx
   rw [hpz z hzm]
   have hx:z.1 ∈ a0:=by rw [← hz]; exact List.mem_map_of_mem hzm
   exact Option.isSome_iff_exists.1 (hp _ hx).1),List.filter_map]
  rfl
 have hfst:(zs.filter (fun z=>rawP p z.2 == some false)).map (·.1) = a0.filter (fun x=>p x == some false):=by
  rw [← hz,List.filter_map]
  congr 1
  exact List.filter_congr (fun z hzm=>by rw [hpz z hzm]; rfl)
 have s3:Sat w0 [row nilH 210 (rowV q0 m0) (zs.map (·.2)),star F (inn zs)] w:=((Sat.starAt 1 2 s2 rfl rfl (by decide)).pick [0,1] (by decide) rfl)
 refine (raw_DeleteFunc_walk (zs.map (·.2)) (rawP p) (by rw [hzl]; exact hm) h0r hdl w s3).mono ?_
 rintro e w' ⟨q,rfl,s4⟩
 have s5:=s4.unstarAt 1 rfl
 have s6:=s5.weaken 2 rfl (inn (zs.filter (fun z=>rawP p z.2 == some false))) (fun _ h=>DZ.sub List.filter_sublist h)
 have s7:=s6.ofZ (α:=Inp) rfl 0 2 rfl rfl (by decide) (zs:=zs.filter (fun z=>rawP p z.2 == some false)) rfl
 have hln:((zs.filter (fun z=>rawP p z.2 == some false)).map (·.2)).length = (a0.filter (fun x=>p x == some false)).length:=by rw [← hfst]; simp
 refine ⟨q,by rw [hln],?_⟩
 rw [hfst,hln] at s7
 exact s7.pick [0,1] (by decide) rfl
end Go.Proofs.YtmngdgclldkcfaaGreat
set_option linter.unusedVariables false
set_option linter.unusedSimpArgs false
set_option maxRecDepth 20000
set_option maxHeartbeats 4000000
namespace Go.Proofs.YtmngdgclldkcfaaGreat
open Go.Vg
open Enc (R)
def Per_ch (g:Nat) (x:Per):Ch:=exch fun q:(Option Nat × Nat) × (Option Nat × Nat) × (Option Nat × Nat) × (Option Nat × Nat) × (Option Nat × Nat)=>stars (blk g [.int .i64 x.id,.int .i64 x.players,.int .i64 x.delay,.int .i64 x.turn,.int .i64 x.said,rowV q.1 x.mine.length,rowV q.2.1 x.inputs.length,rowV q.2.2.1 x.has.length,rowV q.2.2.2.1 x.acked.length,rowV q.2.2.2.2 x.hashes.length,.bool x.split] 89 :: [drow 210 (rowV q.1 x.mine.length) x.mine,drow 210 (rowV q.2.1 x.inputs.length) x.inputs,row nilH 3 (rowV q.2.2.1 x.has.length) x.has,row nilH 3 (rowV q.2.2.2.1 x.acked.length) x.acked,row nilH 112 (rowV q.2.2.2.2 x.hashes.length) x.hashes])
theorem Per_open {w0 w:World} {G:List Ch} {g:Nat} {x:Per} (k:Nat) (hk:G[k]? = some (Per_ch g x)) (h:Sat w0 G w):∃ q:(Option Nat × Nat) × (Option Nat × Nat) × (Option Nat × Nat) × (Option Nat × Nat) × (Option Nat × Nat),Sat w0 (G.set k (blk g [.int .i64 x.id,.int .i64 x.players,.int .i64 x.delay,.int .i64 x.turn,.int .i64 x.said,rowV q.1 x.mine.length,rowV q.2.1 x.inputs.length,rowV q.2.2.1 x.has.length,rowV q.2.2.2.1 x.acked.length,rowV q.2.2.2.2 x.hashes.length,.bool x.split] 89) ++ [drow 210 (rowV q.1 x.mine.length) x.mine,drow 210 (rowV q.2.1 x.inputs.length) x.inputs,row nilH 3 (rowV q.2.2.1 x.has.length) x.has,row nilH 3 (rowV q.2.2.2.1 x.acked.length) x.acked,row nilH 112 (rowV q.2.2.2.2 x.hashes.length) x.hashes]) w:=Sat.openAt (A:=fun q:(Option Nat × Nat) × (Option Nat × Nat) × (Option Nat × Nat) × (Option Nat × Nat) × (Option Nat × Nat)=>blk g [.int .i64 x.id,.int .i64 x.players,.int .i64 x.delay,.int .i64 x.turn,.int .i64 x.said,rowV q.1 x.mine.length,rowV q.2.1 x.inputs.length,rowV q.2.2.1 x.has.length,rowV q.2.2.2.1 x.acked.length,rowV q.2.2.2.2 x.hashes.length,.bool x.split] 89) (L:=fun q:(Option Nat × Nat) × (Option Nat × Nat) × (Option Nat × Nat) × (Option Nat × Nat) × (Option Nat × Nat)=>[drow 210 (rowV q.1 x.mine.length) x.mine,drow 210 (rowV q.2.1 x.inputs.length) x.inputs,row nilH 3 (rowV q.2.2.1 x.has.length) x.has,row nilH 3 (rowV q.2.2.2.1 x.acked.length) x.acked,row nilH 112 (rowV q.2.2.2.2 x.hashes.length) x.hashes]) k hk h
theorem Per_shut {w0 w:World} {R:List Ch} {g:Nat} {x:Per} (q:(Option Nat × Nat) × (Option Nat × Nat) × (Option Nat × Nat) × (Option Nat × Nat) × (Option Nat × Nat)) (h:Sat w0 (R ++ [blk g [.int .i64 x.id,.int .i64 x.players,.int .i64 x.delay,.int .i64 x.turn,.int .i64 x.said,rowV q.1 x.mine.length,rowV q.2.1 x.inputs.length,rowV q.2.2.1 x.has.length,rowV q.2.2.2.1 x.acked.length,rowV q.2.2.2.2 x.hashes.length,.bool x.split] 89,drow 210 (rowV q.1 x.mine.length) x.mine,drow 210 (rowV q.2.1 x.inputs.length) x.inputs,row nilH 3 (rowV q.2.2.1 x.has.length) x.has,row nilH 3 (rowV q.2.2.2.1 x.acked.length) x.acked,row nilH 112 (rowV q.2.2.2.2 x.hashes.length) x.hashes]) w):Sat w0 (Per_ch g x :: R) w:=Sat.toEx (C:=fun q:(Option Nat × Nat) × (Option Nat × Nat) × (Option Nat × Nat) × (Option Nat × Nat) × (Option Nat × Nat)=>stars (blk g [.int .i64 x.id,.int .i64 x.players,.int .i64 x.delay,.int .i64 x.turn,.int .i64 x.said,rowV q.1 x.mine.length,rowV q.2.1 x.inputs.length,rowV q.2.2.1 x.has.length,rowV q.2.2.2.1 x.acked.length,rowV q.2.2.2.2 x.hashes.length,.bool x.split] 89 :: [drow 210 (rowV q.1 x.mine.length) x.mine,drow 210 (rowV q.2.1 x.inputs.length) x.inputs,row nilH 3 (rowV q.2.2.1 x.has.length) x.has,row nilH 3 (rowV q.2.2.2.1 x.acked.length) x.acked,row nilH 112 (rowV q.2.2.2.2 x.hashes.length) x.hashes])) q (Sat.toStars (blk g [.int .i64 x.id,.int .i64 x.players,.int .i64 x.delay,.int .i64 x.turn,.int .i64 x.said,rowV q.1 x.mine.length,rowV q.2.1 x.inputs.length,rowV q.2.2.1 x.has.length,rowV q.2.2.2.1 x.acked.length,rowV q.2.2.2.2 x.hashes.length,.bool x.split] 89 :: [drow 210 (rowV q.1 x.mine.length) x.mine,drow 210 (rowV q.2.1 x.inputs.length) x.inputs,row nilH 3 (rowV q.2.2.1 x.has.length) x.has,row nilH 3 (rowV q.2.2.2.1 x.acked.length) x.acked,row nilH 112 (rowV q.2.2.2.2 x.hashes.length) x.hashes]) (G:=R) h)
end Go.Proofs.YtmngdgclldkcfaaGreat
set_option linter.unusedVariables false
set_option linter.unusedSimpArgs false
set_option maxRecDepth 20000
set_option maxHeartbeats 4000000
namespace Go.Proofs.YtmngdgclldkcfaaGreat
open Go.Vg
open Enc (R)
def peer_acked_1 (a0_i:Inp) (cv0:Int):Option Bool :=
  some (decide (a0_i.turn ≤ cv0))
def peer_acked (a0_p:Per) (a1_from:Int) (a2_have:Int):Option Per :=
  if I64 (a1_from - 1) then
  if 0 ≤ (a1_from - 1)∧(a1_from - 1) < (a0_p.acked.length:Int) then
  if (a2_have ≤ (gi a0_p.acked (a1_from - 1))) ∨ (a0_p.said < a2_have) then
  some a0_p
  else
  if I64 (a1_from - 1) then
  if 0 ≤ (a1_from - 1)∧(a1_from - 1) < (a0_p.acked.length:Int) then
  Option.bind (slices_Min (si a0_p.acked (a1_from - 1) a2_have)) fun x15 =>
  Option.bind (slices_DeleteFuncI a0_p.mine (fun y0=>peer_acked_1 y0 x15)) fun x17 =>
  some (⟨a0_p.id,a0_p.players,a0_p.delay,a0_p.turn,a0_p.said,x17,a0_p.inputs,a0_p.has,(si a0_p.acked (a1_from - 1) a2_have),a0_p.hashes,a0_p.split⟩:Per)
  else none
  else none
  else none
  else none
def peer_player (a0_n:Int):Option Bool :=
  some (decide ((1 ≤ a0_n)∧(a0_n ≤ 8)))
def peer_turn (a0_n:Int):Option Bool :=
  some (decide (((-1) ≤ a0_n)∧(a0_n ≤ 1099511627776)))
def peer_MayNote (a0_n:Nte):Option Bool :=
  Option.bind (peer_player a0_n.frm) fun x2 =>
  Option.bind (if (!x2) = true then
  some true
  else
  Option.bind (peer_player a0_n.dst) fun x30 =>
  some (!x30)) fun b5 =>
  Option.bind (if (b5 = true) ∨ (a0_n.frm = a0_n.dst) then
  some true
  else
  Option.bind (peer_turn a0_n.don) fun x28 =>
  some (!x28)) fun b10 =>
  Option.bind (if b10 = true then
  some true
  else
  Option.bind (peer_turn a0_n.hav) fun x26 =>
  some (!x26)) fun b13 =>
  if (b13 = true) ∨ ((a0_n.don = (-1))∧(¬ (a0_n.hash.toNat:Int) = 0)) then
  some false
  else
  if a0_n.input.turn = (-1) then
  some (decide ((a0_n.input.player = 0)∧((a0_n.input.commands.length:Int) = 0)))
  else
  Option.bind (turns_May a0_n.input) fun x20 =>
  some (decide ((x20 = true)∧(a0_n.input.player = a0_n.frm)))
def peer_split (a0_p:Per) (a1_done:Int) (a2_hash:UInt64):Option Bool :=
  if I64 (a0_p.turn - a1_done) then
  if I64 ((a0_p.hashes.length:Int) - (a0_p.turn - a1_done)) then
  if ((a1_done < a0_p.turn)∧(0 ≤ ((a0_p.hashes.length:Int) - (a0_p.turn - a1_done))))→(0 ≤ ((a0_p.hashes.length:Int) - (a0_p.turn - a1_done))∧((a0_p.hashes.length:Int) - (a0_p.turn - a1_done)) < (a0_p.hashes.length:Int)) then
  some (decide (((a1_done < a0_p.turn)∧(0 ≤ ((a0_p.hashes.length:Int) - (a0_p.turn - a1_done))))∧(¬ ((gi a0_p.hashes ((a0_p.hashes.length:Int) - (a0_p.turn - a1_done))).toNat:Int) = (a2_hash.toNat:Int))))
  else none
  else none
  else none
def peer_Take (a0_p:Per) (a1_n:Nte):Option (Per × Int) :=
  Option.bind (peer_May a0_p) fun x4 =>
  Option.bind (if (!x4) = true then
  some true
  else
  Option.bind (peer_MayNote a1_n) fun x49 =>
  some (!x49)) fun b7 =>
  if ((b7 = true) ∨ (¬ a1_n.dst = a0_p.id)) ∨ (a0_p.players < a1_n.frm) then
  some ((⟨0,0,0,0,0,[],[],[],[],[],false⟩:Per),1)
  else
  if I64 (a0_p.turn + 16) then
  if (a0_p.turn + 16) < a1_n.input.turn then
  some ((⟨0,0,0,0,0,[],[],[],[],[],false⟩:Per),4)
  else
  Option.bind (peer_Own a0_p) fun x15 =>
  if I64 (a1_n.frm - 1) then
  if 0 ≤ (a1_n.frm - 1)∧(a1_n.frm - 1) < (x15.has.length:Int) then
  if I64 ((gi x15.has (a1_n.frm - 1)) + 1) then
  Option.bind (α:=List Int × List Inp) (if a1_n.input.turn = ((gi x15.has (a1_n.frm - 1)) + 1) then
  Option.bind (turns_In x15.inputs a1_n.input) fun x42 =>
  if I64 (a1_n.frm - 1) then
  if 0 ≤ (a1_n.frm - 1)∧(a1_n.frm - 1) < (x15.has.length:Int) then
  if I64 ((gi x15.has (a1_n.frm - 1)) + 1) then
  if 0 ≤ (a1_n.frm - 1)∧(a1_n.frm - 1) < (x15.has.length:Int) then
  some ((si x15.has (a1_n.frm - 1) ((gi x15.has (a1_n.frm - 1)) + 1)),x42.1)
  else none
  else none
  else none
  else none
  else
  some (x15.has,x15.inputs)) fun (v27,v28) =>
  Option.bind (peer_acked (⟨x15.id,x15.players,x15.delay,x15.turn,x15.said,x15.mine,v28,v27,x15.acked,x15.hashes,x15.split⟩:Per) a1_n.frm a1_n.hav) fun x30 =>
  Option.bind (if x30.split = true then
  some true
  else
  Option.bind (peer_split x30 a1_n.don a1_n.hash) fun x40 =>
  some x40) fun b38 =>
  some ((⟨x30.id,x30.players,x30.delay,x30.turn,x30.said,x30.mine,x30.inputs,x30.has,x30.acked,x30.hashes,b38⟩:Per),0)
  else none
  else none
  else none
  else none
end Go.Proofs.YtmngdgclldkcfaaGreat
set_option linter.unusedVariables false
set_option linter.unusedSimpArgs false
set_option maxRecDepth 20000
set_option maxHeartbeats 4000000
namespace Go.Proofs.YtmngdgclldkcfaaGreat
open Go.Vg
open Enc (R)
def session_party_say (a0_s:Pty) (a1_k:Int) (a2_l:List Cmd):Option Pty :=
  Option.bind (command_OwnAll a2_l) fun x1 =>
  Option.bind (α:=List Cmd) (loop (σ:=Int × List Cmd) (β:=List Cmd) (fun (v32,l33) =>
  if v32 < (x1.length:Int) then
  if I64 (a1_k + 1) then
  if 0 ≤ v32∧v32 < (x1.length:Int) then
  if I64 (v32 + 1) then
  some (St.next ((v32 + 1),(si l33 v32 (⟨(a1_k + 1),(gi l33 v32).seq,(gi l33 v32).kind,(gi l33 v32).n,(gi l33 v32).units,(gi l33 v32).tile,(gi l33 v32).w,(gi l33 v32).h,((gi l33 v32).pos)⟩:Cmd))))
  else none
  else none
  else none
  else
  some (St.done l33)) (0,x1)) fun v4 =>
  if 0 ≤ a1_k∧a1_k < (a0_s.l.length:Int) then
  Option.bind (peer_Say ((gi a0_s.l a1_k).p) v4) fun x23 =>
  if x23.2 = 0 then
  if 0 ≤ a1_k∧a1_k < (a0_s.l.length:Int) then
  some (⟨(si a0_s.l a1_k (⟨x23.1,(gi a0_s.l a1_k).w⟩:One)),a0_s.hashes,a0_s.log⟩:Pty)
  else none
  else
  some a0_s
  else none
def session_party_run (a0_s:Pty) (a1_k:Int):Option (Bool × Pty) :=
  if 0 ≤ a1_k∧a1_k < (a0_s.l.length:Int) then
  Option.bind (peer_Ready ((gi a0_s.l a1_k).p)) fun x19 =>
  if (¬ x19.2.2 = 0) ∨ ((!x19.2.1) = true) then
  some (false,a0_s)
  else
  Option.bind (eng_Step ((gi a0_s.l a1_k).w) x19.1) fun x26 =>
  Option.bind (eng_World x26.2.2) fun x28 =>
  Option.bind (image_Sum x28) fun x32 =>
  Option.bind (α:=List Frm) (if a1_k = 0 then
  if a0_s.log.length + 1 < 1099511627776 then
  some (a0_s.log ++ ([(⟨((gi a0_s.l a1_k).p).turn,x19.1,x32⟩:Frm)]:List Frm))
  else none
  else
  some a0_s.log) fun v34 =>
  Option.bind (peer_Ran ((gi a0_s.l a1_k).p) x32) fun x36 =>
  if 0 ≤ a1_k∧a1_k < (a0_s.hashes.length:Int) then
  if (gi a0_s.hashes a1_k).length < 1099511627776 then
  some (true,(⟨(si a0_s.l a1_k (⟨x36.1,x26.2.2⟩:One)),(si a0_s.hashes a1_k ((gi a0_s.hashes a1_k) ++ [x32])),v34⟩:Pty))
  else none
  else none
  else none
def session_party_comes (a0_s:Pty) (a1_n:Nte):Option Pty :=
  if 0 ≤ (a1_n.dst - 1)∧(a1_n.dst - 1) < (a0_s.l.length:Int) then
  if I64 (a1_n.dst - 1) then
  if 0 ≤ (a1_n.dst - 1)∧(a1_n.dst - 1) < (a0_s.l.length:Int) then
  Option.bind (peer_Take ((gi a0_s.l (a1_n.dst - 1)).p) a1_n) fun x22 =>
  if x22.2 = 0 then
  if I64 (a1_n.dst - 1) then
  if 0 ≤ (a1_n.dst - 1)∧(a1_n.dst - 1) < (a0_s.l.length:Int) then
  some (⟨(si a0_s.l (a1_n.dst - 1) (⟨x22.1,(gi a0_s.l (a1_n.dst - 1)).w⟩:One)),a0_s.hashes,a0_s.log⟩:Pty)
  else none
  else none
  else
  some a0_s
  else none
  else none
  else none
def session_party_tick (a0_s:Par) (a1_k:Int):Option Par :=
  if 0 ≤ a1_k∧a1_k < (a0_s.c.l.length:Int) then
  Option.bind (peer_Notes ((gi a0_s.c.l a1_k).p)) fun x21 =>
  if a0_s.m.length + x21.1.length < 1099511627776 then
  Option.bind (α:=Par) (loop (σ:=Int × Par) (β:=Par) (fun (v29,v30) =>
  if v29 < 4 then
  Option.bind (session_party_run v30.c a1_k) fun x35 =>
  if x35.1 = true then
  if I64 (v29 + 1) then
  some (St.next ((v29 + 1),(⟨x35.2,v30.m⟩:Par)))
  else none
  else
  some (St.done (⟨x35.2,v30.m⟩:Par))
  else
  some (St.done v30)) (0,(⟨a0_s.c,(a0_s.m ++ x21.1)⟩:Par))) fun v28 =>
  some v28
  else none
  else none
def session_party_calm (a0_s:Par):Option Par :=
  Option.bind (α:=Par) (loop (σ:=Int × Par) (β:=Par) (fun (v41,v42) =>
  if v41 < (a0_s.c.l.length:Int) then
  Option.bind (session_party_tick v42 v41) fun x45 =>
  if I64 (v41 + 1) then
  some (St.next ((v41 + 1),x45))
  else none
  else
  some (St.done v42)) (0,a0_s)) fun v11 =>
  Option.bind (α:=Pty) (loop (σ:=Int × Pty) (β:=Pty) (fun (v23,v24) =>
  if v23 < (v11.m.length:Int) then
  if 0 ≤ v23∧v23 < (v11.m.length:Int) then
  Option.bind (session_party_comes v24 (gi v11.m v23)) fun x39 =>
  if I64 (v23 + 1) then
  some (St.next ((v23 + 1),x39))
  else none
  else none
  else
  some (St.done v24)) (0,v11.c)) fun v22 =>
  some (⟨v22,([]:List Nte)⟩:Par)
def session_party_act (a0_s:Par) (a1_a:Act):Option Par :=
  if a1_a.kind = 1 then
  if (1 ≤ a1_a.peer)∧(a1_a.peer ≤ (a0_s.c.l.length:Int)) then
  if I64 (a1_a.peer - 1) then
  Option.bind (session_party_say a0_s.c (a1_a.peer - 1) a1_a.commands) fun x16 =>
  some (⟨x16,a0_s.m⟩:Par)
  else none
  else
  some a0_s
  else
  if a1_a.kind = 2 then
  if (1 ≤ a1_a.peer)∧(a1_a.peer ≤ (a0_s.c.l.length:Int)) then
  if I64 (a1_a.peer - 1) then
  Option.bind (session_party_tick a0_s (a1_a.peer - 1)) fun x20 =>
  some x20
  else none
  else
  some a0_s
  else
  Option.bind (α:=Bool) (if a1_a.kind = 3 then
  some (decide (a1_a.kind = 3))
  else
  if a1_a.kind = 4 then
  some (decide (a1_a.kind = 4))
  else
  some (decide (a1_a.kind = 5))) fun v22 =>
  if v22 = true then
  none
  else
  if a1_a.kind = 6 then
  Option.bind (α:=Par) (loop (σ:=Int × Par) (β:=Par) (fun (v27,v28) =>
  if (0 < v27)∧(a1_a.n ≤ 60) then
  Option.bind (session_party_calm v28) fun x33 =>
  if I64 (v27 - 1) then
  some (St.next ((v27 - 1),x33))
  else none
  else
  some (St.done v28)) (a1_a.n,a0_s)) fun v26 =>
  some v26
  else
  some a0_s
def session_Run (a0_g:Grd) (a1_players:Int) (a2_delay:Int) (a3_room:Int) (a4_l:List Act):Option (Rep × Int) :=
  Option.bind (world_New a0_g a1_players) fun x3 =>
  if (¬ x3.2 = 0) ∨ (400 < (a4_l.length:Int)) then
  some ((⟨[],[],[],[],[]⟩:Rep),1)
  else
  Option.bind (α:=Ex (Pty) (Rep × Int)) (loop (σ:=Int × Pty) (β:=Ex (Pty) (Rep × Int)) (fun (v91,v92) =>
  if v91 ≤ a1_players then
  Option.bind (peer_New v91 a1_players a2_delay) fun x95 =>
  Option.bind (eng_Open x3.1 a3_room) fun (o103,o104) =>
  if (¬ x95.2 = 0) ∨ (¬ o104 = 0) then
  some (St.done (Ex.up ((⟨[],[],[],[],[]⟩:Rep),1)))
  else
  Option.bind o103 fun z116 =>
  if v92.l.length < 1099511627776 then
  if I64 (v91 + 1) then
  some (St.next ((v91 + 1),(⟨(v92.l ++ [(⟨x95.1,z116⟩:One)]),v92.hashes,v92.log⟩:Pty)))
  else none
  else none
  else
  some (St.done (Ex.go v92))) (1,(⟨([]:Ones),([]:Hss),([]:List Frm)⟩:Pty))) fun x=>x.then fun v13 =>
  if 0 ≤ a1_players∧a1_players ≤ 1099511627776 then
  Option.bind (α:=Par) (loop (σ:=Int × Par) (β:=Par) (fun (v75,v76) =>
  if v75 < (a4_l.length:Int) then
  if 0 ≤ v75∧v75 < (a4_l.length:Int) then
  Option.bind (session_party_act v76 (gi a4_l v75)) fun x89 =>
  if I64 (v75 + 1) then
  some (St.next ((v75 + 1),x89))
  else none
  else none
  else
  some (St.done v76)) (0,(⟨(⟨v13.l,(List.replicate a1_players.toNat ([]:List UInt64)),v13.log⟩:Pty),([]:List Nte)⟩:Par))) fun v24 =>
  Option.bind (α:=List Int × List Wld × List Bool) (loop (σ:=Int × List Int × List Wld × List Bool) (β:=List Int × List Wld × List Bool) (fun (v41,l42,l44,l46) =>
  if v41 < (v24.c.l.length:Int) then
  if 0 ≤ v41∧v41 < (v24.c.l.length:Int) then
  if l42.length < 1099511627776 then
  Option.bind (eng_World ((gi v24.c.l v41).w)) fun x64 =>
  if l44.length + 1 < 1099511627776 then
  if l46.length < 1099511627776 then
  if I64 (v41 + 1) then
  some (St.next ((v41 + 1),(l42 ++ [((gi v24.c.l v41).p).turn]),(l44 ++ ([x64]:List Wld)),(l46 ++ [((gi v24.c.l v41).p).split])))
  else none
  else none
  else none
  else none
  else none
  else
  some (St.done (l42,l44,l46))) (0,[],[],[])) fun (v35,v37,v39) =>
  some ((⟨v35,v24.c.hashes,v37,v39,v24.c.log⟩:Rep),0)
  else none
end Go.Proofs.YtmngdgclldkcfaaGreat
set_option linter.unusedVariables false
set_option linter.unusedSimpArgs false
set_option maxRecDepth 20000
set_option maxHeartbeats 4000000
namespace Go.Proofs.YtmngdgclldkcfaaGreat
open Go.Vg
open Enc (R)
theorem bz31:decide (0 < Tryz.prog.bytesOf 31) = true:=by kernel_rfl
theorem co25:Tryz.prog.cellsOf 25 = 1:=by kernel_rfl
theorem co27:Tryz.prog.cellsOf 27 = 7:=by kernel_rfl
theorem uf27:structOf Tryz.prog 27 = some [(24,0),(3,3),(3,4),(3,5),(25,6)]:=by kernel_rfl
theorem usl25:Tryz.prog.underlying 25 = some (.slice 31):=by kernel_rfl
structure Scr30 where
 g:Grd
 players:Int
 delay:Int
 room:Int
 l:List Act
 deriving Inhabited
instance:Enc Scr30 where
 sz:=7
 R h x cs:=∃ v2 v6,cs = [.int .i64 x.g.w,.int .i64 x.g.h,v2,.int .i64 x.players,.int .i64 x.delay,.int .i64 x.room,v6]∧Enc.R h (x.g.tiles:List UInt8) [v2]∧Enc.R h (x.l:List Act) [v6]
 len:=fun ⟨v2,v6,e,h2,h6⟩=>by rw [e]; rfl
 one:=fun ⟨v2,v6,e,h2,h6⟩ u hu=>by
  rw [e] at hu; simp only [List.mem_cons,List.not_mem_nil,or_false] at hu
  rcases hu with rfl | rfl | rfl | rfl | rfl | rfl | rfl
  ·rfl
  ·rfl
  ·exact Enc.one h2 _ (by simp)
  ·rfl
  ·rfl
  ·rfl
  ·exact Enc.one h6 _ (by simp)
 mono:=fun hl ⟨v2,v6,e,h2,h6⟩=>⟨v2,v6,e,Enc.mono hl h2,Enc.mono hl h6⟩
def Scr30.Wf (x:Scr30):Prop:=(Grd.Wf x.g)∧(I64 x.players)∧(I64 x.delay)∧(I64 x.room)∧((∀ y ∈ x.l,Act.Wf y)∧x.l.length ≤ 140737488351232)
theorem rd_Scr30:Rdbl Tryz.prog 27 Scr30 Scr30.Wf:=fun H enc w fuel cs x h hzd=>by
 obtain ⟨fs,hu,hfs⟩:=structOf_spec uf27
 obtain ⟨hl,m,hf⟩:=trod_field hu h hzd
 obtain ⟨f0,hf0,ht0,ho0⟩:∃ f,fs[0]? = some f∧f.type = 24∧f.offset = 0:=by
  have h1:(fs.toList.map (fun f=>(f.type,f.offset)))[0]? = some (24,0):=by rw [hfs]; rfl
  rw [List.getElem?_map,Option.map_eq_some_iff] at h1
  obtain ⟨f,h2,h3⟩:=h1
  simp only [Prod.mk.injEq] at h3
  exact ⟨f,by simpa using h2,h3.1,h3.2⟩
 obtain ⟨y0,hy0⟩:=hf 0 f0 hf0
 rw [ht0,ho0,co24] at hy0
 obtain ⟨a0,ha0,hw0⟩:=Rdbl.part rd_Grd hy0
 obtain ⟨f1,hf1,ht1,ho1⟩:∃ f,fs[1]? = some f∧f.type = 3∧f.offset = 3:=by
  have h1:(fs.toList.map (fun f=>(f.type,f.offset)))[1]? = some (3,3):=by rw [hfs]; rfl
  rw [List.getElem?_map,Option.map_eq_some_iff] at h1
  obtain ⟨f,h2,h3⟩:=h1
  simp only [Prod.mk.injEq] at h3
  exact ⟨f,by simpa using h2,h3.1,h3.2⟩
 obtain ⟨y1,hy1⟩:=hf 1 f1 hf1
 rw [ht1,ho1,co3] at hy1
 obtain ⟨a1,ha1,hw1⟩:=Rdbl.part (Rdbl.int ul3) hy1
 obtain ⟨f2,hf2,ht2,ho2⟩:∃ f,fs[2]? = some f∧f.type = 3∧f.offset = 4:=by
  have h1:(fs.toList.map (fun f=>(f.type,f.offset)))[2]? = some (3,4):=by rw [hfs]; rfl
  rw [List.getElem?_map,Option.map_eq_some_iff] at h1
  obtain ⟨f,h2,h3⟩:=h1
  simp only [Prod.mk.injEq] at h3
  exact ⟨f,by simpa using h2,h3.1,h3.2⟩
 obtain ⟨y2,hy2⟩:=hf 2 f2 hf2
 rw [ht2,ho2,co3] at hy2
 obtain ⟨a2,ha2,hw2⟩:=Rdbl.part (Rdbl.int ul3) hy2
 obtain ⟨f3,hf3,ht3,ho3⟩:∃ f,fs[3]? = some f∧f.type = 3∧f.offset = 5:=by
  have h1:(fs.toList.map (fun f=>(f.type,f.offset)))[3]? = some (3,5):=by rw [hfs]; rfl
  rw [List.getElem?_map,Option.map_eq_some_iff] at h1
  obtain ⟨f,h2,h3⟩:=h1
  simp only [Prod.mk.injEq] at h3
  exact ⟨f,by simpa using h2,h3.1,h3.2⟩
 obtain ⟨y3,hy3⟩:=hf 3 f3 hf3
 rw [ht3,ho3,co3] at hy3
 obtain ⟨a3,ha3,hw3⟩:=Rdbl.part (Rdbl.int ul3) hy3
 obtain ⟨f4,hf4,ht4,ho4⟩:∃ f,fs[4]? = some f∧f.type = 25∧f.offset = 6:=by
  have h1:(fs.toList.map (fun f=>(f.type,f.offset)))[4]? = some (25,6):=by rw [hfs]; rfl
  rw [List.getElem?_map,Option.map_eq_some_iff] at h1
  obtain ⟨f,h2,h3⟩:=h1
  simp only [Prod.mk.injEq] at h3
  exact ⟨f,by simpa using h2,h3.1,h3.2⟩
 obtain ⟨y4,hy4⟩:=hf 4 f4 hf4
 rw [ht4,ho4,co25] at hy4
 obtain ⟨a4,ha4,hw4⟩:=Rdbl.part (Rdbl.slice usl25 co31 (by decide) rd_Act bz31) hy4
 rw [co27] at hl
 obtain ⟨x0,x1,x2,x3,x4,x5,x6,rfl⟩:∃ x0 x1 x2 x3 x4 x5 x6,cs = [x0,x1,x2,x3,x4,x5,x6]:=by
  match cs,hl with
  | [x0,x1,x2,x3,x4,x5,x6],_=>exact ⟨x0,x1,x2,x3,x4,x5,x6,rfl⟩
 simp only [List.drop_succ_cons,List.drop_zero,List.take_succ_cons,List.take_zero] at ha0 ha1 ha2 ha3 ha4
 obtain ⟨v0_2,e0,r0_2⟩:=ha0
 simp only [List.cons.injEq,and_true] at e0
 obtain ⟨rfl,rfl,rfl⟩:=e0
 obtain rfl:x3 = _:=by simpa [Enc.R] using ha1
 obtain rfl:x4 = _:=by simpa [Enc.R] using ha2
 obtain rfl:x5 = _:=by simpa [Enc.R] using ha3
 exact ⟨⟨a0,a1,a2,a3,a4⟩,⟨_,_,rfl,r0_2,ha4⟩,⟨hw0,hw1,hw2,hw3,hw4⟩⟩
end Go.Proofs.YtmngdgclldkcfaaGreat
set_option linter.unusedVariables false
set_option linter.unusedSimpArgs false
set_option maxRecDepth 20000
set_option maxHeartbeats 4000000
namespace Go.Proofs.YtmngdgclldkcfaaGreat
open Go.Vg
open Enc (R)
def throngref5_Center (a0_g:Grd) (a1_t:Int):Option Vec :=
  if 0 ≤ a1_t∧a1_t ≤ 9223372036854775807∧(1:Int) ≤ a0_g.w then
  if I64 ((a1_t % a0_g.w) * 65536) then
  if I64 (((a1_t % a0_g.w) * 65536) + 32768) then
  if 0 ≤ a1_t∧a1_t ≤ 9223372036854775807∧(1:Int) ≤ a0_g.w then
  if I64 ((a1_t / a0_g.w) * 65536) then
  if I64 (((a1_t / a0_g.w) * 65536) + 32768) then
  some (⟨(((a1_t % a0_g.w) * 65536) + 32768),(((a1_t / a0_g.w) * 65536) + 32768)⟩:Vec)
  else none
  else none
  else none
  else none
  else none
  else none
end Go.Proofs.YtmngdgclldkcfaaGreat
set_option linter.unusedVariables false
set_option linter.unusedSimpArgs false
set_option maxRecDepth 20000
set_option maxHeartbeats 4000000
namespace Go.Proofs.YtmngdgclldkcfaaGreat
open Go.Vg
open Enc (R)
def thronglaw0_CommandsWeight (a0_l:List Cmd):Option Int :=
  Option.bind (α:=Int) (loop (σ:=Int × Int) (β:=Int) (fun (v3,v4) =>
  if (v4 < (a0_l.length:Int))∧(v3 < 1048576) then
  if 0 ≤ v4∧v4 < (a0_l.length:Int) then
  if I64 (v3 + (((gi a0_l v4).units).length:Int)) then
  if I64 (v4 + 1) then
  some (St.next ((v3 + (((gi a0_l v4).units).length:Int)),(v4 + 1)))
  else none
  else none
  else none
  else
  some (St.done v3)) ((a0_l.length:Int),0)) fun v2 =>
  some v2
def thronglaw30_Heavy (a0_p:Scr30):Option Bool :=
  Option.bind (α:=Int) (loop (σ:=Int × Int) (β:=Int) (fun (v8,v9) =>
  if (v9 < (a0_p.l.length:Int))∧(v8 < 1048576) then
  if 0 ≤ v9∧v9 < (a0_p.l.length:Int) then
  Option.bind (thronglaw0_CommandsWeight ((gi a0_p.l v9).commands)) fun x23 =>
  if I64 (v8 + x23) then
  if I64 (v9 + 1) then
  some (St.next ((v8 + x23),(v9 + 1)))
  else none
  else none
  else none
  else
  some (St.done v8)) (0,0)) fun v3 =>
  some (decide (((500 < v3) ∨ (100 < (a0_p.l.length:Int))) ∨ (200 < (a0_p.g.tiles.length:Int))))
def throngtop_num (a0_e:Int):Option Int :=
  some a0_e
def throngtop_may (a0_p:Scr30):Option Bool :=
  Option.bind (thronglaw30_Heavy a0_p) fun x2 =>
  Option.bind (if (!x2) = true then
  Option.bind (throngref5_Ground a0_p.g) fun x20 =>
  some x20
  else
  some false) fun b5 =>
  Option.bind (if ((((b5 = true)∧(1 ≤ a0_p.players))∧(a0_p.players ≤ 8))∧(1 ≤ a0_p.delay))∧(a0_p.delay ≤ 8) then
  Option.bind (throngref15_Room a0_p.room) fun x18 =>
  some x18
  else
  some false) fun b16 =>
  some b16
def throngtop_wakes:Option Bool :=
  Option.bind (session_Run (⟨1,1,([(0:UInt8)]:List UInt8)⟩:Grd) 1 1 1 ([(⟨2,1,0,0,[]⟩:Act)]:List Act)) fun x3 =>
  Option.bind (throngtop_num x3.2) fun x10 =>
  if ((x10 = 0)∧((x3.1.turns.length:Int) = 1))→(0 ≤ (0:Int)∧(0:Int) < (x3.1.turns.length:Int)) then
  some (decide (((x10 = 0)∧((x3.1.turns.length:Int) = 1))∧((gi x3.1.turns (0:Int)) = 1)))
  else none
end Go.Proofs.YtmngdgclldkcfaaGreat
