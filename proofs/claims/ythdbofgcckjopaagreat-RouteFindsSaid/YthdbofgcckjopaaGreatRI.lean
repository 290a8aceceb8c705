/-
  The page's route, as a pure function: its loops, one by one, and what it answers. The conditions stand in each lemma.
-/
import Derived.Test.YthdbofgcckjopaaGreatRF
set_option linter.unusedVariables false
set_option linter.unusedSimpArgs false
set_option maxRecDepth 20000
namespace Go.Proofs.YthdbofgcckjopaaGreat
open Go.Vg Sp Qp RC
variable {x:RC}
theorem gi_two0 {l:List Int} {a b i:Int} (h:(l.length:Int) = i):gi (l ++ [a,b]) i = a:=by
 subst h
 rw [List.append_cons,gi_append_left (by simp; omega)]
 exact gi_append_at
theorem gi_two1 {l:List Int} {a b i:Int} (h:(l.length:Int) = i):gi (l ++ [a,b]) (i + 1) = b:=by
 rw [List.append_cons,show i + 1 = ((l ++ [a]).length:Int) by simp; omega]
 exact gi_append_at
theorem ends_p (hlen:x.ps.length ≤ 5000):Ok (throngref13_ends x.ps) (EndsOk x):=by
 unfold throngref13_ends
 refine Ok.bind (R:=EndsOk x) (Ok.loop (fun z:List Int × Int=>(0 ≤ z.2∧z.2 ≤ x.ps.length)∧(z.1.length:Int) = 2 * z.2∧∀ p,0 ≤ p→p < 2 * z.2→gi z.1 p = x.T p) (fun z=>(x.ps.length - z.2).toNat) ⟨by show (0:Int) ≤ 0∧_; omega,by simp,fun p p0 p1=>by have:p < 2 * 0:=p1; omega⟩ (by unfold FUEL; show ((x.ps.length:Int) - 0).toNat < _; omega) ?_) fun r hr=>Ok.ret hr
 rintro ⟨l,i⟩ ⟨⟨i0,i1⟩,hl,hp⟩
 dsimp only at i0 i1 hl hp ⊢
 refine Ok.ite (fun hi=>?_) fun hi=>Ok.ret ⟨by unfold RC.M; omega,fun p hpl=>hp p hpl.1 (by have:p < 2 * (x.ps.length:Int):=hpl.2; omega)⟩
 refine Ok.gd ⟨i0,hi⟩ (Ok.gd ⟨i0,hi⟩ (Ok.gd (by simp; omega) (Ok.gd (by unfold I64; omega) (Ok.ret ⟨⟨⟨by show 0 ≤ i + 1; omega,by show i + 1 ≤ _; omega⟩,by simp; omega,fun p p0 p1=>?_⟩,by show ((x.ps.length:Int) - (i + 1)).toNat < _; omega⟩))))
 have p1:p < 2 * (i + 1):=p1
 show gi (l ++ [(gi x.ps i).a,(gi x.ps i).b]) p = x.T p
 by_cases h:p < 2 * i
 ·rw [gi_append_left ⟨p0,by omega⟩]; exact hp p p0 h
 ·unfold RC.T
  by_cases e:p = 2 * i
  ·subst e
   rw [gi_two0 hl,if_pos (by omega),show 2 * i / 2 = i by omega]
  ·obtain rfl:p = 2 * i + 1:=by omega
   rw [gi_two1 hl,if_neg (by omega),show (2 * i + 1) / 2 = i by omega]
theorem pfar_p (ho:x.Ok) {t:Int} (ht:x.In t):throngref13_far x.g x.fr x.c t (atS x.g.w t) = some (x.ddL t):=by
 have h:=in_bd ho ht
 have hmay:May x.g.w x.g.h:=⟨ho.hg.1,ho.hg.2.1⟩
 exact Ok.eq (Ok.mono (farR_s (s:=x.sec t) ho.hg ho.hc ho.hf ⟨h.1,h.2.1⟩ (atS_bd hmay ⟨h.1,h.2.1⟩).1) fun d hd=>(ddL_of ho hd).symm)
theorem pof_p (ho:x.Ok) {t:Int} (ht:x.In t):throngref10_Of x.g.w t = some (atS x.g.w t):=by
 have h:=in_bd ho ht
 exact ofR_p ho.hg.1 (by omega)
structure RowsOk (x:RC) (R:List (List Int)):Prop where
 len:(R.length:Int) = x.M
 is:∀ p,x.Pl p→gi R p = x.ddL (x.T p)
theorem rows_p (ho:x.Ok) (hlen:x.ps.length ≤ 5000) {E:List Int} (hE:EndsOk x E):Ok (loop (σ:=Int × List (List Int)) (β:=List (List Int)) (fun (v392,l394) =>
 if v392 < (E.length:Int) then
 if 0 ≤ v392∧v392 < (E.length:Int) then
 if 0 ≤ v392∧v392 < (E.length:Int) then
 Option.bind (throngref10_Of x.g.w (gi E v392)) fun x402 =>
 Option.bind (throngref13_far x.g x.fr x.c (gi E v392) x402) fun x403 =>
 if l394.length + 1 < 1099511627776 then
 if I64 (v392 + 1) then
 some (St.next ((v392 + 1),(l394 ++ ([x403]:List (List Int)))))
 else none
 else none
 else none
 else none
 else
 some (St.done l394)) (0,([]:List (List Int)))) (RowsOk x):=by
 have hEl:=hE.len
 have hM:x.M ≤ 10000:=by unfold RC.M; omega
 refine Ok.loop (fun z:Int × List (List Int)=>(0 ≤ z.1∧z.1 ≤ x.M)∧(z.2.length:Int) = z.1∧∀ p,0 ≤ p→p < z.1→gi z.2 p = x.ddL (x.T p)) (fun z=>(x.M - z.1).toNat) ⟨by show (0:Int) ≤ 0∧0 ≤ x.M; unfold RC.M; omega,by simp,fun p p0 p1=>by have:p < 0:=p1; omega⟩ (by unfold FUEL; show (x.M - 0).toNat < _; omega) ?_
 rintro ⟨v,l⟩ ⟨⟨v0,v1⟩,hl,hp⟩
 dsimp only at v0 v1 hl hp ⊢
 refine Ok.ite (fun hv=>?_) fun hv=>Ok.ret ⟨by omega,fun p hpl=>hp p hpl.1 (by have:=hpl.2; omega)⟩
 have hpl:x.Pl v:=⟨v0,by omega⟩
 rw [if_pos ⟨v0,hv⟩,if_pos ⟨v0,hv⟩,hE.is v hpl,pof_p ho (plOk ho hpl).i,bsome,pfar_p ho (plOk ho hpl).i,bsome]
 refine Ok.gd (by omega) (Ok.gd (by unfold I64; omega) (Ok.ret ⟨⟨⟨by show 0 ≤ v + 1; omega,by show v + 1 ≤ _; omega⟩,by simp; omega,fun p p0 p1=>?_⟩,by show (x.M - (v + 1)).toNat < _; omega⟩))
 have p1:p < v + 1:=p1
 show gi (l ++ [x.ddL (x.T v)]) p = _
 by_cases e:p = v
 ·subst e
  rw [← hl]; rw [gi_append_at]
 ·rw [gi_append_left ⟨p0,by omega⟩]; exact hp p p0 (by omega)
theorem last_p (ho:x.Ok) (hlen:x.ps.length ≤ 5000) {E:List Int} (hE:EndsOk x E) {u:Int} (hu:x.In u):Ok (loop (σ:=Int × List PWay) (β:=List PWay) (fun (v373,l374) =>
 if v373 < (E.length:Int) then
 if 0 ≤ v373∧v373 < ((E.length:Int).toNat:Int) then
 if 0 ≤ v373∧v373 < (E.length:Int) then
 if 0 ≤ (gi E v373)∧(gi E v373) < ((x.ddL u).length:Int) then
 if 0 ≤ (gi (x.ddL u) (gi E v373)) then
 if 0 ≤ v373∧v373 < (E.length:Int) then
 if 0 ≤ (gi E v373)∧(gi E v373) < ((x.ddL u).length:Int) then
 if 0 ≤ v373∧v373 < ((E.length:Int).toNat:Int) then
 if I64 (v373 + 1) then
 some (St.next ((v373 + 1),(si (si l374 v373 (⟨(gi l374 v373).cost,(gi l374 v373).count,true⟩:PWay)) v373 (⟨(gi (x.ddL u) (gi E v373)),0,false⟩:PWay))))
 else none
 else none
 else none
 else none
 else
 if I64 (v373 + 1) then
 some (St.next ((v373 + 1),(si l374 v373 (⟨(gi l374 v373).cost,(gi l374 v373).count,true⟩:PWay))))
 else none
 else none
 else none
 else none
 else
 some (St.done l374)) (0,(List.replicate (E.length:Int).toNat (⟨0,0,false⟩:PWay)))) fun B=>BOk x u B 1376400∧∀ p,x.Pl p→LV x u B p 0:=by
 have hEl:=hE.len
 have hM:0 ≤ x.M∧x.M ≤ 10000:=by unfold RC.M; omega
 have hul:=(ddL_is ho hu).len
 refine Ok.mono (Q:=fun B:List PWay=>(B.length:Int) = x.M∧∀ p,x.Pl p→(0 ≤ x.dd u (x.T p)→gi B p = ⟨x.dd u (x.T p),0,false⟩)∧(x.dd u (x.T p) < 0→(gi B p).no = true)) (Ok.loop (fun z:Int × List PWay=>(0 ≤ z.1∧z.1 ≤ x.M)∧(z.2.length:Int) = x.M∧∀ p,x.Pl p→p < z.1→(0 ≤ x.dd u (x.T p)→gi z.2 p = ⟨x.dd u (x.T p),0,false⟩)∧(x.dd u (x.T p) < 0→(gi z.2 p).no = true)) (fun z=>(x.M - z.1).toNat) ⟨by show (0:Int) ≤ 0∧0 ≤ x.M; omega,by simp; omega,fun p hp p1=>by have:p < 0:=p1; have:=hp.1; omega⟩ (by unfold FUEL; show (x.M - 0).toNat < _; omega) ?_) ?_
 ·rintro ⟨v,l⟩ ⟨⟨v0,v1⟩,hl,hp⟩
  dsimp only at v0 v1 hl hp ⊢
  refine Ok.ite (fun hv=>?_) fun hv=>Ok.ret ⟨hl,fun p hpl=>hp p hpl (by have:=hpl.2; omega)⟩
  have hpl:x.Pl v:=⟨v0,by omega⟩
  have hb:=in_bd ho (plOk ho hpl).i
  rw [if_pos ⟨v0,by omega⟩,if_pos ⟨v0,hv⟩,hE.is v hpl,if_pos (by omega)]
  show Ok (if 0 ≤ x.dd u (x.T v) then _ else _) _
  refine Ok.ite (fun h=>Ok.gd ⟨v0,hv⟩ (Ok.gd (by omega) (Ok.gd ⟨v0,by omega⟩ (Ok.gd (by unfold I64; omega) (Ok.ret ⟨⟨⟨by show 0 ≤ v + 1; omega,by show v + 1 ≤ _; omega⟩,by show ((si (si l v _) v _).length:Int) = _; rw [len_si,len_si]; exact hl,fun p hp2 p1=>?_⟩,by show (x.M - (v + 1)).toNat < _; omega⟩))))) fun h=>Ok.gd (by unfold I64; omega) (Ok.ret ⟨⟨⟨by show 0 ≤ v + 1; omega,by show v + 1 ≤ _; omega⟩,by show ((si l v _).length:Int) = _; rw [len_si]; exact hl,fun p hp2 p1=>?_⟩,by show (x.M - (v + 1)).toNat < _; omega⟩)
  ·have p1:p < v + 1:=p1
   dsimp only
   by_cases e:p = v
   ·subst e
    rw [gi_si_self (by rw [len_si]; omega)]
    exact ⟨fun _=>rfl,fun h2=>by omega⟩
   ·rw [gi_si_ne v0 hp2.1 (Ne.symm e),gi_si_ne v0 hp2.1 (Ne.symm e)]
    exact hp p hp2 (by omega)
  ·have p1:p < v + 1:=p1
   dsimp only
   by_cases e:p = v
   ·subst e
    rw [gi_si_self (by omega)]
    exact ⟨fun h2=>absurd h2 h,fun _=>rfl⟩
   ·rw [gi_si_ne v0 hp2.1 (Ne.symm e)]
    exact hp p hp2 (by omega)
 ·rintro B ⟨hl,hp⟩
  refine ⟨⟨hl,fun p hpl hn=>?_⟩,fun p hpl L c r hL=>?_⟩
  ·by_cases h:0 ≤ x.dd u (x.T p)
   ·rw [(hp p hpl).1 h]
    have hs:=dd_symm ho hu (plOk ho hpl).i h
    have hbd:=RC.dd_bd ho hu (plOk ho hpl).i
    refine ⟨⟨[],?_,rfl⟩,by dsimp only; omega⟩
    dsimp only
    rw [← hs]
    exact .nil (plOk ho hpl).i hu (by omega)
   ·rw [(hp p hpl).2 (by omega)] at hn; cases hn
  ·cases r with
   | nil ht _ h =>
    have hs:=dd_symm ho ht hu h
    rw [(hp p hpl).1 (by omega)]
    exact ⟨rfl,by dsimp only; simp; omega⟩
   | cons=>simp at hL; omega
theorem bdB (ho:x.Ok) {u K:Int} {B:List PWay} (h:BOk x u B K) (hK:K ≤ 1000000000000000000) {k:Int} (hk:x.Pl k):(gi B (ot k)).no = false→(0 ≤ (gi B (ot k)).cost∧(gi B (ot k)).cost ≤ 1000000000000000000)∧0 ≤ (gi B (ot k)).count∧(gi B (ot k)).count ≤ 1000000000000000000:=fun hn=>by
 have:=h.bd ho (ot_pl hk) hn
 omega
open Classical in
theorem turn_p (ho:x.Ok) (hlen:x.ps.length ≤ 5000) {E:List Int} {R:List (List Int)} (hE:EndsOk x E) (hR:RowsOk x R) {u i K r:Int} {B:List PWay} {ag:Bool} (hi:x.Pl i) (hr:0 ≤ r) (hK:0 ≤ K∧K ≤ 900000000000000000)
  (hB:BOk x u B K) (h1:∀ p,x.Pl p→LV x u B p r) (h2:∀ p,x.Pl p→p < i→LV x u B p (r + 1)) (h3:ag = false→∀ p k,x.Pl p→x.Pl k→p < i→¬ Btr (ovr x (x.T p) B k) (gi B p)) (h4:(x.ps.length:Int) ≤ r→ag = false) :
  Ok (loop (σ:=Bool × Int × List PWay) (β:=Bool × List PWay) (fun (v347,v348,l349) =>
 if v348 < (E.length:Int) then
 if 0 ≤ i∧i < (R.length:Int) then
 Option.bind (throngref13_over x.g x.c x.ps (gi R i) E l349 v348) fun x363 =>
 if 0 ≤ i∧i < ((E.length:Int).toNat:Int) then
 Option.bind (throngref13_better x363 (gi l349 i)) fun x367 =>
 if x367 = true then
 if 0 ≤ i∧i < ((E.length:Int).toNat:Int) then
 if I64 (v348 + 1) then
 some (St.next (true,(v348 + 1),(si l349 i x363)))
 else none
 else none
 else
 if I64 (v348 + 1) then
 some (St.next (v347,(v348 + 1),l349))
 else none
 else none
 else none
 else
 some (St.done (v347,l349))) (ag,0,B)) fun z=>BOk x u z.2 (K + 13764000000)∧(∀ p,x.Pl p→LV x u z.2 p r)∧(∀ p,x.Pl p→p < i + 1→LV x u z.2 p (r + 1))∧(z.1 = false→∀ p k,x.Pl p→x.Pl k→p < i + 1→¬ Btr (ovr x (x.T p) z.2 k) (gi z.2 p))∧((x.ps.length:Int) ≤ r→z.1 = false):=by
 have hEl:=hE.len
 have hRl:=hR.len
 have hM:0 ≤ x.M∧x.M ≤ 10000:=by unfold RC.M; omega
 have hi0:=hi.1
 have hi1:=hi.2
 have hio:=plOk ho hi
 refine Ok.loop (fun z:Bool × Int × List PWay=>(0 ≤ z.2.1∧z.2.1 ≤ x.M)∧BOk x u z.2.2 (K + z.2.1 * 1376400)∧(∀ p,x.Pl p→LV x u z.2.2 p r)∧(∀ p,x.Pl p→p < i→LV x u z.2.2 p (r + 1)) ∧
   (∀ q,x.Pl q→q < z.2.1→0 ≤ x.dd (x.T i) (x.T q)→∀ (L:List Int) (c:Int),Rt x (x.T (ot q)) L c u→(L.length:Int) ≤ r→Wle (gi z.2.2 i) (x.dd (x.T i) (x.T q) + x.ov (q / 2) + c) (L.length + 1)) ∧
   (z.1 = false→(∀ p k,x.Pl p→x.Pl k→p < i→¬ Btr (ovr x (x.T p) z.2.2 k) (gi z.2.2 p))∧∀ q,x.Pl q→q < z.2.1→¬ Btr (ovr x (x.T i) z.2.2 q) (gi z.2.2 i))∧((x.ps.length:Int) ≤ r→z.1 = false)) (fun z=>(x.M - z.2.1).toNat)
  ⟨by show (0:Int) ≤ 0∧0 ≤ x.M; omega,by show BOk x u B (K + 0 * 1376400); exact hB.le (by omega),h1,h2,fun q hq q1=>(by have:q < 0:=q1; have:=hq.1; omega),fun e=>⟨h3 e,fun q hq q1=>(by have:q < 0:=q1; have:=hq.1; omega)⟩,h4⟩ (by unfold FUEL; show (x.M - 0).toNat < _; omega) ?_
 rintro ⟨a,k,D⟩ ⟨⟨k0,k1⟩,hD,g1,g2,g3,g4,g5⟩
 dsimp only at k0 k1 hD g1 g2 g3 g4 g5 ⊢
 refine Ok.ite (fun hk=>?_) fun hk=>Ok.ret ⟨hD.le (by omega),g1,fun p hp hpi=>?_,fun e p q hp hq hpi=>?_,g5⟩
 ·have hpk:x.Pl k:=⟨k0,by omega⟩
  rw [if_pos ⟨hi0,by omega⟩,hR.is i hi,over_p ho hlen hE hio.i hpk hD.len (bdB ho hD (by omega) hpk),bsome,if_pos ⟨hi0,by omega⟩,better_p,bsome]
  refine Ok.ite (fun hb=>?_) fun hb=>?_
  ·have hb:=of_decide_eq_true hb
   obtain ⟨o1,⟨L,o2,o3⟩,o4⟩:=ovr_rt ho hD hio.i hpk hb.1
   have hrn:¬ (x.ps.length:Int) ≤ r:=fun hrn=>by
    have h:=LV.long ho (g1 i hi) hrn _ _ o2
    obtain ⟨b1,b2⟩:=hb
    rcases b2 with b2 | ⟨_,b2⟩
    ·rw [h.1] at b2; cases b2
    ·have:=h.2
     simp only [List.length_cons] at this
     omega
   refine Ok.gd ⟨hi0,by omega⟩ (Ok.gd (by unfold I64; omega) (Ok.ret ⟨⟨⟨by show 0 ≤ k + 1; omega,by show k + 1 ≤ _; omega⟩,?_,?_,?_,?_,fun e=>(by cases e),fun e=>absurd e hrn⟩,by show (x.M - (k + 1)).toNat < _; omega⟩))
   all_goals dsimp only
   ·refine ⟨by rw [len_si]; exact hD.len,fun p hp hn=>?_⟩
    by_cases e:p = i
    ·subst e
     rw [gi_si_self (by have:=hD.len; omega)] at hn ⊢
     exact ⟨⟨_,o2,by simp only [List.length_cons]; omega⟩,by omega⟩
    ·rw [gi_si_ne hi0 hp.1 (Ne.symm e)] at hn ⊢
     have:=hD.rt p hp hn
     exact ⟨this.1,by omega⟩
   ·intro p hp L' c' r' hL'
    have h:=g1 p hp L' c' r' hL'
    by_cases e:p = i
    ·subst e
     rw [gi_si_self (by have:=hD.len; omega)]
     exact h.btr hb
    ·rw [gi_si_ne hi0 hp.1 (Ne.symm e)]; exact h
   ·intro p hp hpi L' c' r' hL'
    rw [gi_si_ne hi0 hp.1 (by omega)]
    exact g2 p hp hpi L' c' r' hL'
   ·intro q hq q1 h0 L' c' r' hL'
    rw [gi_si_self (by have:=hD.len; omega)]
    by_cases e:q = k
    ·subst e
     exact ovr_le ho h0 (g1 _ (ot_pl hq) L' c' r' hL')
    ·exact (g3 q hq (by omega) h0 L' c' r' hL').btr hb
  ·have hb:=of_decide_eq_false (by simpa using hb)
   refine Ok.gd (by unfold I64; omega) (Ok.ret ⟨⟨⟨by show 0 ≤ k + 1; omega,by show k + 1 ≤ _; omega⟩,hD.le (by show _ ≤ K + (k + 1) * 1376400; omega),g1,g2,fun q hq q1 h0 L' c' r' hL'=>?_,fun e=>⟨(g4 e).1,fun q hq q1=>?_⟩,g5⟩,by show (x.M - (k + 1)).toNat < _; omega⟩)
   ·have q1:q < k + 1:=q1
    by_cases e:q = k
    ·subst e
     have h5:=ovr_le ho h0 (g1 _ (ot_pl hq) L' c' r' hL')
     have h6:=Wle.not h5.1 hb
     exact h6.le (by have:=h5.2; omega)
    ·exact g3 q hq (by omega) h0 L' c' r' hL'
   ·have q1:q < k + 1:=q1
    by_cases e2:q = k
    ·subst e2; exact hb
    ·exact (g4 e).2 q hq (by omega)
 ·by_cases e:p = i
  ·subst e
   intro L c r' hL
   generalize et:x.T p = t at r'
   cases r' with
   | nil ht hu h =>
    subst et
    exact g1 p hp [] _ (.nil ht hu h) (by simp; omega)
   | @cons _ q c' _ L' ht hq h r'' =>
    subst et
    simp only [List.length_cons] at hL
    have:=g3 q hq (by have:=hq.2; omega) h L' c' r'' (by omega)
    simpa using this
  ·exact g2 p hp (by omega)
 ·by_cases e2:p = i
  ·subst e2
   exact (g4 e).2 q hq (by have:=hq.2; omega)
  ·exact (g4 e).1 p q hp hq (by omega)
theorem pass_p (ho:x.Ok) (hlen:x.ps.length ≤ 5000) {E:List Int} {R:List (List Int)} (hE:EndsOk x E) (hR:RowsOk x R) {u K r:Int} {B:List PWay} (hr:0 ≤ r) (hK:0 ≤ K∧K ≤ 800000000000000000)
  (hB:BOk x u B K) (h1:∀ p,x.Pl p→LV x u B p r) :
  Ok (loop (σ:=Bool × Int × List PWay) (β:=Bool × List PWay) (fun (v338,v339,l340) =>
 if v339 < (E.length:Int) then
 Option.bind (α:=Bool × List PWay) (loop (σ:=Bool × Int × List PWay) (β:=Bool × List PWay) (fun (v347,v348,l349) =>
 if v348 < (E.length:Int) then
 if 0 ≤ v339∧v339 < (R.length:Int) then
 Option.bind (throngref13_over x.g x.c x.ps (gi R v339) E l349 v348) fun x363 =>
 if 0 ≤ v339∧v339 < ((E.length:Int).toNat:Int) then
 Option.bind (throngref13_better x363 (gi l349 v339)) fun x367 =>
 if x367 = true then
 if 0 ≤ v339∧v339 < ((E.length:Int).toNat:Int) then
 if I64 (v348 + 1) then
 some (St.next (true,(v348 + 1),(si l349 v339 x363)))
 else none
 else none
 else
 if I64 (v348 + 1) then
 some (St.next (v347,(v348 + 1),l349))
 else none
 else none
 else none
 else
 some (St.done (v347,l349))) (v338,0,l340)) fun (v344,v345) =>
 if I64 (v339 + 1) then
 some (St.next (v344,(v339 + 1),v345))
 else none
 else
 some (St.done (v338,l340))) (false,0,B)) fun z=>BOk x u z.2 (K + 137640000000000)∧(∀ p,x.Pl p→LV x u z.2 p (r + 1))∧(z.1 = false→Al x u z.2)∧((x.ps.length:Int) ≤ r→z.1 = false):=by
 have hEl:=hE.len
 have hM:0 ≤ x.M∧x.M ≤ 10000:=by unfold RC.M; omega
 refine Ok.loop (fun z:Bool × Int × List PWay=>(0 ≤ z.2.1∧z.2.1 ≤ x.M)∧BOk x u z.2.2 (K + z.2.1 * 13764000000)∧(∀ p,x.Pl p→LV x u z.2.2 p r)∧(∀ p,x.Pl p→p < z.2.1→LV x u z.2.2 p (r + 1)) ∧
   (z.1 = false→∀ p k,x.Pl p→x.Pl k→p < z.2.1→¬ Btr (ovr x (x.T p) z.2.2 k) (gi z.2.2 p))∧((x.ps.length:Int) ≤ r→z.1 = false)) (fun z=>(x.M - z.2.1).toNat)
  ⟨by show (0:Int) ≤ 0∧0 ≤ x.M; omega,by show BOk x u B (K + 0 * 13764000000); exact hB.le (by omega),h1,fun p hp p1=>(by have:p < 0:=p1; have:=hp.1; omega),fun _ p k hp _ p1=>(by have:p < 0:=p1; have:=hp.1; omega),fun _=>rfl⟩ (by unfold FUEL; show (x.M - 0).toNat < _; omega) ?_
 rintro ⟨a,i,D⟩ ⟨⟨i0,i1⟩,hD,g1,g2,g3,g4⟩
 dsimp only at i0 i1 hD g1 g2 g3 g4 ⊢
 refine Ok.ite (fun hi=>?_) fun hi=>Ok.ret ⟨hD.le (by omega),fun p hp=>g2 p hp (by have:=hp.2; omega),fun e=>?_,g4⟩
 ·refine Ok.bind (turn_p ho hlen hE hR (i:=i) ⟨i0,by omega⟩ hr (by omega) hD g1 g2 g3 g4) ?_
  rintro ⟨b,C⟩ ⟨c1,c2,c3,c4,c5⟩
  dsimp only at c1 c2 c3 c4 c5 ⊢
  exact Ok.gd (by unfold I64; omega) (Ok.ret ⟨⟨⟨by show 0 ≤ i + 1; omega,by show i + 1 ≤ _; omega⟩,c1.le (by show _ ≤ K + (i + 1) * 13764000000; omega),c2,c3,c4,c5⟩,by show (x.M - (i + 1)).toNat < _; omega⟩)
 ·exact Al.of ho (fun p hp L c r' hL=>g1 p hp L c r' (by omega)) fun p k hp hk=>g3 e p k hp hk (by have:=hp.2; omega)
theorem fix_p (ho:x.Ok) (hlen:x.ps.length ≤ 5000) {E:List Int} {R:List (List Int)} (hE:EndsOk x E) (hR:RowsOk x R) {u:Int} {B:List PWay} (hB:BOk x u B 1376400) (h0:∀ p,x.Pl p→LV x u B p 0) :
  Ok (loop (σ:=Bool × List PWay) (β:=List PWay) (fun (v331,l332) =>
 if v331 = true then
 Option.bind (α:=Bool × List PWay) (loop (σ:=Bool × Int × List PWay) (β:=Bool × List PWay) (fun (v338,v339,l340) =>
 if v339 < (E.length:Int) then
 Option.bind (α:=Bool × List PWay) (loop (σ:=Bool × Int × List PWay) (β:=Bool × List PWay) (fun (v347,v348,l349) =>
 if v348 < (E.length:Int) then
 if 0 ≤ v339∧v339 < (R.length:Int) then
 Option.bind (throngref13_over x.g x.c x.ps (gi R v339) E l349 v348) fun x363 =>
 if 0 ≤ v339∧v339 < ((E.length:Int).toNat:Int) then
 Option.bind (throngref13_better x363 (gi l349 v339)) fun x367 =>
 if x367 = true then
 if 0 ≤ v339∧v339 < ((E.length:Int).toNat:Int) then
 if I64 (v348 + 1) then
 some (St.next (true,(v348 + 1),(si l349 v339 x363)))
 else none
 else none
 else
 if I64 (v348 + 1) then
 some (St.next (v347,(v348 + 1),l349))
 else none
 else none
 else none
 else
 some (St.done (v347,l349))) (v338,0,l340)) fun (v344,v345) =>
 if I64 (v339 + 1) then
 some (St.next (v344,(v339 + 1),v345))
 else none
 else
 some (St.done (v338,l340))) (false,0,l332)) fun (v336,v337) =>
 some (St.next (v336,v337))
 else
 some (St.done l332)) (true,B)) fun B=>BOk x u B 800000000000000000∧Al x u B:=by
 refine Ok.loopG (fun (r:Nat) (z:Bool × List PWay)=>r ≤ x.ps.length + 1∧BOk x u z.2 (1376400 + r * 137640000000000)∧(∀ p,x.Pl p→LV x u z.2 p r)∧(z.1 = false→Al x u z.2)∧(x.ps.length + 1 ≤ r→z.1 = false)) (fun r=>x.ps.length + 2 - r) 0
  ⟨by omega,by show BOk x u B (1376400 + 0 * 137640000000000); exact hB.le (by omega),h0,fun e=>(by cases e),fun e=>by omega⟩ (by unfold FUEL; omega) ?_
 rintro r ⟨a,D⟩ ⟨r1,hD,g1,g2,g3⟩
 dsimp only at hD g1 g2 g3 ⊢
 refine Ok.ite (fun ha=>?_) fun ha=>Ok.ret ⟨hD.le (by omega),g2 (by simpa using ha)⟩
 have hrn:¬ x.ps.length + 1 ≤ r:=fun h=>by rw [g3 h] at ha; cases ha
 refine Ok.bind (pass_p ho hlen hE hR (r:=r) (by omega) (by omega) hD g1) ?_
 rintro ⟨b,C⟩ ⟨c1,c2,c3,c4⟩
 dsimp only at c1 c2 c3 c4 ⊢
 refine Ok.ret ⟨r + 1,⟨by omega,c1.le (by show _ ≤ 1376400 + ((r + 1:Nat):Int) * 137640000000000; omega),fun p hp=>?_,c3,fun h=>c4 (by omega)⟩,by omega⟩
 show LV x u C p ((r + 1:Nat):Int)
 rw [show ((r + 1:Nat):Int) = (r:Int) + 1 by omega]
 exact c2 p hp
def Opt (x:RC) (t u:Int) (w:PWay):Prop:=(w.no = false→∃ L:List Int,Rt x t L w.cost u∧(L.length:Int) = w.count)∧∀ (L:List Int) (c:Int),Rt x t L c u→Wle w c L.length
open Classical in
theorem now_p (ho:x.Ok) (hlen:x.ps.length ≤ 5000) {E:List Int} {B:List PWay} (hE:EndsOk x E) {s u:Int} (hs:x.In s) (hu:x.In u) (hB:BOk x u B 800000000000000000) (hA:Al x u B) {c0:Int} {n0:Bool} (h0:(0 ≤ x.dd s u∧c0 = x.dd s u∧n0 = false) ∨ (x.dd s u < 0∧n0 = true)) :
  Ok (loop (σ:=Int × Int × Int × Bool) (β:=Int × Int × Bool) (fun (v317,v318,v319,v320) =>
 if v317 < (E.length:Int) then
 Option.bind (throngref13_over x.g x.c x.ps (x.ddL s) E B v317) fun x323 =>
 Option.bind (throngref13_better x323 (⟨v318,v319,v320⟩:PWay)) fun x325 =>
 if x325 = true then
 if I64 (v317 + 1) then
 some (St.next ((v317 + 1),x323.cost,x323.count,x323.no))
 else none
 else
 if I64 (v317 + 1) then
 some (St.next ((v317 + 1),v318,v319,v320))
 else none
 else
 some (St.done (v318,v319,v320))) (0,c0,0,n0)) fun z=>Opt x s u ⟨z.1,z.2.1,z.2.2⟩:=by
 have hEl:=hE.len
 have hM:0 ≤ x.M∧x.M ≤ 10000:=by unfold RC.M; omega
 refine Ok.loop (fun z:Int × Int × Int × Bool=>(0 ≤ z.1∧z.1 ≤ x.M)∧(z.2.2.2 = false→∃ L:List Int,Rt x s L z.2.1 u∧(L.length:Int) = z.2.2.1)∧(0 ≤ x.dd s u→Wle ⟨z.2.1,z.2.2.1,z.2.2.2⟩ (x.dd s u) 0) ∧
   ∀ q,x.Pl q→q < z.1→0 ≤ x.dd s (x.T q)→∀ (L:List Int) (c:Int),Rt x (x.T (ot q)) L c u→Wle ⟨z.2.1,z.2.2.1,z.2.2.2⟩ (x.dd s (x.T q) + x.ov (q / 2) + c) (L.length + 1)) (fun z=>(x.M - z.1).toNat)
  ⟨by show (0:Int) ≤ 0∧0 ≤ x.M; omega,fun e=>?_,fun h=>?_,fun q hq q1=>(by have:q < 0:=q1; have:=hq.1; omega)⟩ (by unfold FUEL; show (x.M - 0).toNat < _; omega) ?_
 ·have e:n0 = false:=e
  rcases h0 with ⟨h1,h2,h3⟩ | ⟨h1,h2⟩
  ·exact ⟨[],by show Rt x s [] c0 u; rw [h2]; exact .nil hs hu h1,rfl⟩
  ·rw [h2] at e; cases e
 ·rcases h0 with ⟨h1,h2,h3⟩ | ⟨h1,h2⟩
  ·exact ⟨h3,.inr ⟨h2,Int.le_refl _⟩⟩
  ·omega
 ·rintro ⟨k,c,n,o⟩ ⟨⟨k0,k1⟩,g1,g2,g3⟩
  dsimp only at k0 k1 g1 g2 g3 ⊢
  refine Ok.ite (fun hk=>?_) fun hk=>Ok.ret ⟨g1,fun L c' r=>?_⟩
  ·have hpk:x.Pl k:=⟨k0,by omega⟩
   rw [over_p ho hlen hE hs hpk hB.len (bdB ho hB (by omega) hpk),bsome,better_p,bsome]
   refine Ok.ite (fun hb=>?_) fun hb=>?_
   ·have hb:=of_decide_eq_true hb
    obtain ⟨o1,⟨L,o2,o3⟩,o4⟩:=ovr_rt ho hB hs hpk hb.1
    refine Ok.gd (by unfold I64; omega) (Ok.ret ⟨⟨⟨by show 0 ≤ k + 1; omega,by show k + 1 ≤ _; omega⟩,fun _=>⟨_,o2,by simp only [List.length_cons]; omega⟩,fun h=>(g2 h).btr hb,fun q hq q1 h L' c' r'=>?_⟩,by show (x.M - (k + 1)).toNat < _; omega⟩)
    by_cases e:q = k
    ·subst e
     exact ovr_le ho h (hA _ (ot_pl hq) L' c' r')
    ·exact (g3 q hq (by have:q < k + 1:=q1; omega) h L' c' r').btr hb
   ·have hb:=of_decide_eq_false (by simpa using hb)
    refine Ok.gd (by unfold I64; omega) (Ok.ret ⟨⟨⟨by show 0 ≤ k + 1; omega,by show k + 1 ≤ _; omega⟩,g1,g2,fun q hq q1 h L' c' r'=>?_⟩,by show (x.M - (k + 1)).toNat < _; omega⟩)
    by_cases e:q = k
    ·subst e
     have h5:=ovr_le ho h (hA _ (ot_pl hq) L' c' r')
     have h6:=Wle.not h5.1 hb
     exact h6.le (by have:=h5.2; omega)
    ·exact g3 q hq (by have:q < k + 1:=q1; omega) h L' c' r'
  ·cases r with
   | nil ht hu h=>exact g2 h
   | @cons _ q c' _ L' ht hq h r'' =>
    have:=g3 q hq (by have:=hq.2; omega) h L' c' r''
    simpa using this
theorem Opt.cnt (ho:x.Ok) {t u:Int} {w:PWay} (h:Opt x t u w) (hn:w.no = false):0 ≤ w.count∧w.count ≤ x.ps.length:=by
 obtain ⟨L,h1,h2⟩:=h.1 hn
 obtain ⟨L',c',k1,k2,k3⟩:=Rt.short ho L.length (Nat.le_refl _) h1
 have:=(h.2 L' c' k1).2
 omega
theorem Opt.end (ho:x.Ok) {t u:Int} {w:PWay} (h:Opt x t u w) (hn:w.no = false) (h0:w.count ≤ 0):Bst x t u w.cost []:=by
 obtain ⟨L,h1,h2⟩:=h.1 hn
 have e:L = []:=List.length_eq_zero_iff.1 (by omega)
 subst e
 refine ⟨h1,fun L' c' r hl=>?_⟩
 have:=(h.2 L' c' r).2
 rcases hl with hl | ⟨hl,hl2 | ⟨hl2,hl3⟩⟩
 ·have hl:c' < w.cost:=hl; omega
 ·simp at hl2
 ·cases L' with
  | nil=>exact hl3
  | cons=>simp at hl2
def Mt (x:RC) (B:List PWay) (t:Int) (w:PWay) (k:Int):Prop:=((!(ovr x t B k).no) = true∧(ovr x t B k).cost = w.cost)∧(ovr x t B k).count = w.count
theorem Mt.ex (ho:x.Ok) {t u K:Int} {B:List PWay} {w:PWay} (ht:x.In t) (hB:BOk x u B K) (hA:Al x u B) (h:Opt x t u w) (hn:w.no = false) (h0:0 < w.count):∃ k,x.Pl k∧Mt x B t w k:=by
 obtain ⟨L,h1,h2⟩:=h.1 hn
 generalize ec:w.cost = c at h1
 cases h1 with
 | nil=>simp at h2; omega
 | @cons _ q c' _ L' _ hq hd r =>
  have h3:=ovr_le ho hd (hA _ (ot_pl hq) L' c' r)
  obtain ⟨o1,⟨M,o2,o3⟩,o4⟩:=ovr_rt ho hB ht hq h3.1
  have h4:=(h.2 _ _ o2).2
  have h5:=h3.2
  simp only [List.length_cons] at h2 h4
  exact ⟨q,hq,⟨by rw [h3.1]; rfl,by omega⟩,by omega⟩
theorem Mt.next (ho:x.Ok) {t u k K:Int} {B:List PWay} {w:PWay} (ht:x.In t) (hB:BOk x u B K) (hA:Al x u B) (h:Opt x t u w) (hn:w.no = false) (hk:x.Pl k) (hm:Mt x B t w k) (hleast:∀ j,x.Pl j→j < k→¬ Mt x B t w j) :
  (0 ≤ x.dd t (x.T k)∧(gi B (ot k)).no = false∧(gi B (ot k)).count + 1 = w.count)∧Opt x (x.T (ot k)) u (gi B (ot k))∧∀ L,Bst x (x.T (ot k)) u (gi B (ot k)).cost L→Bst x t u w.cost (k / 2 :: L):=by
 obtain ⟨⟨m1,m2⟩,m3⟩:=hm
 have m1:(ovr x t B k).no = false:=by simpa using m1
 obtain ⟨⟨o1,o2,o3,o4⟩,_,_⟩:=ovr_rt ho hB ht hk m1
 refine ⟨⟨o1,o2,by omega⟩,⟨fun _=>(hB.rt _ (ot_pl hk) o2).1,hA _ (ot_pl hk)⟩,fun L hL=>?_⟩
 have hr:=Rt.cons ht hk o1 hL.1
 rw [← o3,m2] at hr
 refine ⟨hr,fun L' c' r' hlt=>?_⟩
 have hL2:(L.length:Int) = (gi B (ot k)).count:=by
  obtain ⟨M,q1,q2⟩:=(hB.rt _ (ot_pl hk) o2).1
  have e1:=(hA _ (ot_pl hk) L _ hL.1).2
  have e2:=hL.2 M _ q1
  by_cases hh:M.length < L.length
  ·exact absurd (show LLt ((gi B (ot k)).cost,M) ((gi B (ot k)).cost,L) from .inr ⟨rfl,.inl hh⟩) e2
  ·omega
 have hw:=(h.2 L' c' r').2
 rcases hlt with hlt | ⟨hc,hlt | ⟨hl,hlt⟩⟩
 ·have hlt:c' < w.cost:=hlt; omega
 ·have hlt:L'.length < (k / 2 :: L).length:=hlt
  have hc:c' = w.cost:=hc
  simp only [List.length_cons] at hlt
  omega
 ·have hc:c' = w.cost:=hc
  have hl:L'.length = (k / 2 :: L).length:=hl
  have hlt:LexLt L' (k / 2 :: L):=hlt
  cases r' with
  | nil=>simp at hl
  | @cons _ j d _ M _ hj hd r =>
   simp only [List.length_cons] at hl
   have h3:=ovr_le ho hd (hA _ (ot_pl hj) M d r)
   obtain ⟨p1,⟨M',p2,p3⟩,_⟩:=ovr_rt ho hB ht hj h3.1
   have h4:=(h.2 _ _ p2).2
   have h5:=h3.2
   simp only [List.length_cons] at h4
   have hmj:Mt x B t w j:=⟨⟨by rw [h3.1]; rfl,by omega⟩,by omega⟩
   have hjk:¬ j < k:=fun e=>hleast j hj e hmj
   rcases hlt with hlt' | ⟨he,hlt'⟩
   ·omega
   ·have e:=one_end ho ht hj hk he hd o1
    subst e
    have hd2:d = (gi B (ot j)).cost:=by
     have:=p1.2.2.1
     have:=(hA _ (ot_pl hj) M d r).2
     omega
    subst hd2
    exact hL.2 M _ r (.inr ⟨rfl,.inr ⟨by show M.length = L.length; omega,hlt'⟩⟩)
structure GI (x:RC) (s u C N t:Int) (w:PWay) (P F S:List Int):Prop where
 ht:x.In t
 o:Opt x t u w
 no:w.no = false
 f:F = x.ddL t
 b:∀ L,Bst x t u w.cost L→Bst x s u C (P ++ L)
 s:∀ L,x.sec s :: secL x (x.sec s) (P ++ L) = S ++ secL x (x.sec t) L
 n:(P.length:Int) + w.count = N
 m:(S.length:Int) = P.length + 1
theorem goes_p (ho:x.Ok) (hlen:x.ps.length ≤ 5000) {E:List Int} {R:List (List Int)} {B:List PWay} (hE:EndsOk x E) (hR:RowsOk x R) {s u C N:Int} (hs:x.In s) (hu:x.In u) (hB:BOk x u B 800000000000000000) (hA:Al x u B) (h0:Opt x s u ⟨C,N,false⟩) :
  Ok (loop (σ:=Int × Int × Bool × List Int × List Int × List Int) (β:=List Int × List Int) (fun (v53,v54,v55,l56,l58,l61) =>
 if 0 < v54 then
 Option.bind (α:=Int × Int × Bool × List Int × List Int × List Int) (loop (σ:=Int) (β:=Int × Int × Bool × List Int × List Int × List Int) (fun v76 =>
 if v76 < (E.length:Int) then
 Option.bind (throngref13_over x.g x.c x.ps l58 E B v76) fun x79 =>
 if (((!x79.no) = true)∧(x79.cost = v53))∧(x79.count = v54) then
 if 0 ≤ v76∧v76 ≤ 9223372036854775807 then
 if l56.length < 1099511627776 then
 if 0 ≤ v76∧v76 ≤ 9223372036854775807 then
 if 0 ≤ (v76 + 1 - 2 * (v76 % 2))∧(v76 + 1 - 2 * (v76 % 2)) < (E.length:Int) then
 Option.bind (throngref10_Of x.g.w (gi E (v76 + 1 - 2 * (v76 % 2)))) fun x94 =>
 if l61.length < 1099511627776 then
 if 0 ≤ (v76 + 1 - 2 * (v76 % 2))∧(v76 + 1 - 2 * (v76 % 2)) < ((E.length:Int).toNat:Int) then
 if 0 ≤ (v76 + 1 - 2 * (v76 % 2))∧(v76 + 1 - 2 * (v76 % 2)) < (R.length:Int) then
 some (St.done ((gi B (v76 + 1 - 2 * (v76 % 2))).cost,(gi B (v76 + 1 - 2 * (v76 % 2))).count,(gi B (v76 + 1 - 2 * (v76 % 2))).no,(l61 ++ [x94]),(l56 ++ [(v76 / 2)]),(gi R (v76 + 1 - 2 * (v76 % 2)))))
 else none
 else none
 else none
 else none
 else none
 else none
 else none
 else
 if I64 (v76 + 1) then
 some (St.next (v76 + 1))
 else none
 else
 some (St.done (v53,v54,v55,l61,l56,l58))) 0) fun (v66,v67,v68,v69,v71,v73) =>
 some (St.next (v66,v67,v68,v71,v73,v69))
 else
 some (St.done (l61,l56))) (C,N,false,[],x.ddL s,[x.sec s])) fun z=>Bst x s u C z.2∧z.1 = x.sec s :: secL x (x.sec s) z.2:=by
 have hEl:=hE.len
 have hRl:=hR.len
 have hM:0 ≤ x.M∧x.M ≤ 10000:=by unfold RC.M; omega
 have hN:=h0.cnt ho rfl
 dsimp only at hN
 refine Ok.loopG (fun (q:Int × Int) (z:Int × Int × Bool × List Int × List Int × List Int)=>z.2.1 = q.2∧GI x s u C N q.1 ⟨z.1,z.2.1,z.2.2.1⟩ z.2.2.2.1 z.2.2.2.2.1 z.2.2.2.2.2) (fun q=>q.2.toNat) (s,N)
  ⟨rfl,⟨hs,h0,rfl,rfl,fun L hL=>hL,fun L=>rfl,by simp,rfl⟩⟩ (by unfold FUEL; show N.toNat < _; omega) ?_
 rintro ⟨t,n⟩ ⟨c,n',o,P,F,S⟩ ⟨hn,hI⟩
 dsimp only at hn hI ⊢
 subst hn
 obtain ⟨ht,hO,hno,rfl,hb,hsec,hPn,hSl⟩:=hI
 dsimp only at hno hb hPn
 subst hno
 have hcnt:=hO.cnt ho rfl
 dsimp only at hcnt
 refine Ok.ite (fun hpos=>?_) fun hpos=>?_
 ·obtain ⟨k1,hk1,hmt⟩:=Mt.ex ho ht hB hA hO rfl hpos
  refine Ok.bind (R:=fun z:Int × Int × Bool × List Int × List Int × List Int=>∃ k,x.Pl k∧Mt x B t ⟨c,n',false⟩ k∧(∀ j,x.Pl j→j < k→¬ Mt x B t ⟨c,n',false⟩ j)∧z = ((gi B (ot k)).cost,(gi B (ot k)).count,(gi B (ot k)).no,S ++ [x.sec (x.T (ot k))],P ++ [k / 2],x.ddL (x.T (ot k)))) (Ok.loop (fun k:Int=>(0 ≤ k∧k ≤ x.M)∧∀ j,x.Pl j→j < k→¬ Mt x B t ⟨c,n',false⟩ j) (fun k=>(x.M - k).toNat) ⟨by omega,fun j hj j1=>by have:=hj.1; omega⟩ (by unfold FUEL; omega) ?_) ?_
  ·rintro k ⟨⟨k0,kM⟩,hk⟩
   refine Ok.ite (fun hlt=>?_) fun hlt=>?_
   ·have hpk:x.Pl k:=⟨k0,by omega⟩
    have hok:=ot_pl hpk
    have hok0:=hok.1
    have hok1:=hok.2
    have eo:k + 1 - 2 * (k % 2) = ot k:=rfl
    rw [over_p ho hlen hE ht hpk hB.len (bdB ho hB (by omega) hpk),bsome,eo]
    refine Ok.ite (fun hm=>?_) fun hm=>Ok.gd (by unfold I64; omega) (Ok.ret ⟨⟨by omega,fun j hj j1=>?_⟩,by omega⟩)
    ·rw [if_pos (by omega),if_pos (by omega),if_pos (by omega),if_pos (by omega),hE.is _ hok,pof_p ho (plOk ho hok).i,bsome,if_pos (by omega),if_pos (by omega),if_pos (by omega),hR.is _ hok]
     exact Ok.ret ⟨k,hpk,hm,hk,rfl⟩
    ·by_cases e:j = k
     ·subst e; exact hm
     ·exact hk j hj (by omega)
   ·exact absurd hmt (hk k1 hk1 (by have:=hk1.2; omega))
  ·rintro z ⟨k,hpk,hm,hleast,rfl⟩
   obtain ⟨⟨q1,q2,q3⟩,q4,q5⟩:=Mt.next ho ht hB hA hO rfl hpk hm hleast
   dsimp only at q3
   refine Ok.ret ⟨(x.T (ot k),(gi B (ot k)).count),⟨rfl,⟨(plOk ho (ot_pl hpk)).i,q4,q2,rfl,fun L hL=>?_,fun L=>?_,?_,?_⟩⟩,?_⟩
   ·have:=hb _ (q5 L hL)
    rw [List.append_assoc]; exact this
   ·have:=hsec (k / 2 :: L)
    rw [List.append_assoc,List.append_assoc]
    simp only [secL,sec_next ho ht hpk q1] at this
    exact this
   ·simp only [List.length_append,List.length_singleton]
    omega
   ·simp only [List.length_append,List.length_singleton]
    omega
   ·show (gi B (ot k)).count.toNat < n'.toNat
    have hg:=(hB.bd ho (ot_pl hpk) q2).2.1
    omega
 ·refine Ok.ret ⟨?_,?_⟩
  ·have:=hb [] (hO.end ho rfl (by dsimp only; omega))
   rw [List.append_nil] at this; exact this
  ·have:=hsec []
   rw [List.append_nil] at this
   rw [this]
   simp [secL]
def RO (x:RC) (s u:Int) (r:Rte × Bool):Prop:=(r = (⟨0,[],[]⟩,false)∧∀ L c,¬ Rt x s L c u) ∨ ∃ C P,Bst x s u C P∧r = (⟨C,P,x.sec s :: secL x (x.sec s) P⟩,true)
theorem routeR_p {g:Grd} {l:List Bld} {c size s u:Int} (h:AOk g l c size) (hs:0 ≤ s∧s < g.w * g.h) (hu:0 ≤ u∧u < g.w * g.h):Ok (throngref13_Route g l c size s u) fun r=>∃ fr,GdF g l c size fr ∧
  ((¬ (gi fr s = true∧gi fr u = true)∧r = (⟨0,[],[]⟩,false)) ∨ ((gi fr s = true∧gi fr u = true)∧∃ ps,portal_All g.w g.h fr = some ps∧(rc g c fr ps).Ok∧ps.length ≤ 5000∧RO (rc g c fr ps) s u r)):=by
 have hg:=h.1.1
 unfold throngref13_Route
 refine Ok.bind (goodR_f h) fun fr hfr=>?_
 have hf:=hfr.len
 refine Ok.gd (by omega) (Ok.gd (fun _=>by omega) ?_)
 refine Ok.ite (fun hb=>Ok.ret ⟨fr,hfr,.inl ⟨fun hh=>?_,rfl⟩⟩) fun hb=>?_
 ·rw [hh.1,hh.2] at hb; simp at hb
 have hfree:gi fr s = true∧gi fr u = true:=by simpa using hb
 obtain ⟨ps,hps,hok,hlen⟩:=all_p (W:=g.w) (H:=g.h) (fr:=fr) ⟨hg.1,hg.2.1⟩ hf
 refine Ok.bind (Ok.mono (refFind_p (W:=g.w) (H:=g.h) (fr:=fr) ⟨hg.1,hg.2.1⟩ hf) fun m hm=>hm.uniq hok) ?_
 rintro _ rfl
 rename_i ps'
 have ho:(rc g c fr ps').Ok:=⟨hg,h.2.1,hf,hfr.open hg h.2.2.1,hok⟩
 refine Ok.mono (Q:=RO (rc g c fr ps') s u) ?_ fun r hr=>⟨fr,hfr,.inr ⟨hfree,ps',hps,ho,hlen,hr⟩⟩
 generalize hx:rc g c fr ps' = x at ho
 obtain rfl:g = x.g:=by rw [← hx]; rfl
 obtain rfl:c = x.c:=by rw [← hx]; rfl
 obtain rfl:fr = x.fr:=by rw [← hx]; rfl
 obtain rfl:ps' = x.ps:=by rw [← hx]; rfl
 have hs':x.In s:=hs
 have hu':x.In u:=hu
 have hus:=(ddL_is ho hs').len
 refine Ok.bind (ends_p hlen) fun E hE=>Ok.bind (rows_p ho hlen hE) fun R hR=>?_
 have hEl:=hE.len
 have hM:0 ≤ x.M∧x.M ≤ 10000:=by unfold RC.M; omega
 rw [pof_p ho hu',bsome,pfar_p ho hu',bsome]
 refine Ok.gd (by omega) (Ok.bind (last_p ho hlen hE hu') fun B0 hB0=>Ok.bind (fix_p ho hlen hE hR hB0.1 hB0.2) fun B hB=>?_)
 rw [pof_p ho hs',bsome,pfar_p ho hs',bsome]
 refine Ok.gd (by omega) (Ok.bind (R:=fun z:Int × Bool=>(0 ≤ x.dd s u∧z.1 = x.dd s u∧z.2 = false) ∨ (x.dd s u < 0∧z.2 = true)) (Ok.ite (fun h0=>Ok.gd (by omega) (Ok.ret (.inl ⟨h0,rfl,rfl⟩))) fun h0=>Ok.ret (.inr ⟨by have:¬ 0 ≤ x.dd s u:=h0; omega,rfl⟩)) ?_)
 rintro ⟨c0,n0⟩ h0
 dsimp only
 refine Ok.bind (now_p ho hlen hE hs' hu' hB.1 hB.2 h0) ?_
 rintro ⟨C,N,o⟩ hO
 dsimp only at hO ⊢
 refine Ok.ite (fun ho1=>Ok.ret (.inl ⟨rfl,fun L c r=>?_⟩)) fun ho1=>?_
 ·have:=(hO.2 L c r).1
  dsimp only at this
  rw [ho1] at this; cases this
 ·have e:o = false:=by simpa using ho1
  subst e
  rw [bsome,bsome]
  refine Ok.bind (goes_p ho hlen hE hR hs' hu' hB.1 hB.2 hO) ?_
  rintro ⟨S,P⟩ ⟨h1,h2⟩
  dsimp only at h1 h2 ⊢
  exact Ok.ret (.inr ⟨C,P,h1,by rw [h2]⟩)
end Go.Proofs.YthdbofgcckjopaaGreat
