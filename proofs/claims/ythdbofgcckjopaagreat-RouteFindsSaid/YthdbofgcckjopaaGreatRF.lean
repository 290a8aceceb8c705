/-
  The page's route, as a pure function: that it finds the best route, or that there is none. The conditions stand in each lemma.
-/
import Derived.Test.YthdbofgcckjopaaGreatW8
set_option linter.unusedVariables false
set_option linter.unusedSimpArgs false
set_option maxRecDepth 20000
namespace Go.Vg
theorem Ok.loopG {σ β γ:Type} {f:σ→Option (St σ β)} {s0:σ} {Q:β→Prop} (I:γ→σ→Prop) (m:γ→Nat) (g0:γ) (h0:I g0 s0) (hm:m g0 < FUEL)
  (step:∀ g s,I g s→Ok (f s) fun y=>match y with | .next s'=>∃ g',I g' s'∧m g' < m g | .done b=>Q b):Ok (Vg.loop f s0) Q:=by
 have key:∀ n g s,I g s→m g < n→Ok (loopN n f s) Q:=by
  intro n
  induction n with
  | zero=>intro g s _ h; omega
  | succ n ih =>
   intro g s hi hlt
   obtain ⟨y,hy,hq⟩:=step g s hi
   unfold loopN
   rw [hy]
   cases y with
   | next s' =>
    obtain ⟨g',h1,h2⟩:=hq
    exact ih g' s' h1 (by omega)
   | done b=>exact ⟨b,rfl,hq⟩
 exact key FUEL g0 s0 h0 hm
end Go.Vg
namespace Go.Proofs.YthdbofgcckjopaaGreat
open Go.Vg Sp Qp RC
variable {x:RC}
theorem nodup_len:∀ (n:Nat) (L:List Int),L.Nodup→(∀ k ∈ L,0 ≤ k∧k < (n:Int))→L.length ≤ n
 | 0,[],_,_=>Nat.le_refl _
 | 0,k :: L,_,h=>by have:=h k (List.mem_cons_self ..); omega
 | n + 1,L,hn,h=>by
  by_cases hm:(n:Int) ∈ L
  ·have h1:=nodup_len n (L.erase (n:Int)) (hn.erase _) fun k hk=>by
    have:=hn.mem_erase_iff.1 hk
    have h2:=h k this.2
    have:=this.1
    omega
   rw [List.length_erase_of_mem hm] at h1
   omega
  ·have:=nodup_len n L hn fun k hk=>by
    have:=h k hk
    have h3:k ≠ (n:Int):=fun e=>hm (e ▸ hk)
    omega
   omega
theorem Rt.mem (ho:x.Ok) {t u c:Int} {L:List Int} (r:Rt x t L c u):∀ k ∈ L,0 ≤ k∧k < (x.ps.length:Int):=by
 induction r with
 | nil=>intro k hk; cases hk
 | cons ht hp h r ih =>
  intro k hk
  rcases List.mem_cons.1 hk with rfl | hk
  ·exact pl_half hp
  ·exact ih k hk
theorem not_nodup {L:List Int}:¬ L.Nodup→∃ A k B C,L = A ++ k :: (B ++ k :: C):=by
 induction L with
 | nil=>intro h; exact absurd List.nodup_nil h
 | cons a L ih =>
  intro h
  by_cases ha:a ∈ L
  ·obtain ⟨B,C,rfl⟩:=List.append_of_mem ha
   exact ⟨[],a,B,C,rfl⟩
  ·obtain ⟨A,k,B,C,rfl⟩:=ih fun hl=>h (List.nodup_cons.2 ⟨ha,hl⟩)
   exact ⟨a :: A,k,B,C,rfl⟩
theorem Rt.short (ho:x.Ok):∀ (n:Nat) {t u c:Int} {L:List Int},L.length ≤ n→Rt x t L c u→∃ L' c',Rt x t L' c' u∧L'.length ≤ x.ps.length∧(c' < c ∨ c' = c∧L'.length ≤ L.length)
 | n,t,u,c,L,hn,r=>by
  by_cases hd:L.Nodup
  ·exact ⟨L,c,r,nodup_len _ L hd (Rt.mem ho r),.inr ⟨rfl,Nat.le_refl _⟩⟩
  ·obtain ⟨A,k,B,C,rfl⟩:=not_nodup hd
   obtain ⟨p,c1,c2,hp,hk,r1,r2,e1⟩:=Rt.split ho r
   obtain ⟨q,c3,c4,hq,hk2,r3,r4,e2⟩:=Rt.split ho r2
   have b3:=(r3.ends ho).2.2
   have ov:=(plOk ho hp).ov
   rw [hk] at ov
   simp only [List.length_append,List.length_cons] at hn
   have fin:∀ {L':List Int} {c':Int},c' < c→L'.length < n→Rt x t L' c' u→∃ L'' c'',Rt x t L'' c'' u∧L''.length ≤ x.ps.length∧(c'' < c ∨ c'' = c∧L''.length ≤ (A ++ k :: (B ++ k :: C)).length):=fun {L' c'} hlt hl r'=>by
    cases n with
    | zero=>omega
    | succ n =>
     obtain ⟨L'',c'',h1,h2,h3⟩:=Rt.short ho n (by omega) r'
     exact ⟨L'',c'',h1,h2,.inl (by omega)⟩
   by_cases e:q = p
   ·subst e
    have r5:=Rt.cons (plOk ho hp).i hp (by rw [dd_self ho (plOk ho hp).i (plOk ho hp).f]; omega) r4
    obtain ⟨c',h1,h2⟩:=r1.app ho r5
    rw [dd_self ho (plOk ho hp).i (plOk ho hp).f,hk] at h1
    exact fin (by omega) (by simp only [List.length_append,List.length_cons]; omega) h2
   ·have eq:q = ot p:=by unfold ot; omega
    rw [eq,ot_ot] at r4
    obtain ⟨c',h1,h2⟩:=r1.app ho r4
    exact fin (by omega) (by simp only [List.length_append]; omega) h2
def Wle (w:PWay) (c n:Int):Prop:=w.no = false∧(w.cost < c ∨ w.cost = c∧w.count ≤ n)
def Btr (a b:PWay):Prop:=a.no = false∧(b.no = true ∨ b.no = false∧(a.cost < b.cost ∨ a.cost = b.cost∧a.count < b.count))
theorem Wle.btr {a b:PWay} {c n:Int} (h:Btr a b) (k:Wle b c n):Wle a c n:=by
 obtain ⟨h1,h2⟩:=h
 obtain ⟨k1,k2⟩:=k
 rcases h2 with h2 | ⟨_,h2⟩
 ·rw [k1] at h2; cases h2
 ·exact ⟨h1,by omega⟩
theorem Wle.not {a b:PWay} (ha:a.no = false) (h:¬ Btr a b):Wle b a.cost a.count:=by
 cases hb:b.no with
 | true=>exact absurd ⟨ha,.inl hb⟩ h
 | false =>
  refine ⟨hb,?_⟩
  have:¬ (a.cost < b.cost ∨ a.cost = b.cost∧a.count < b.count):=fun h2=>h ⟨ha,.inr ⟨hb,h2⟩⟩
  omega
theorem Wle.le {w:PWay} {c n c' n':Int} (h:Wle w c n) (k:c < c' ∨ c = c'∧n ≤ n'):Wle w c' n':=⟨h.1,by have:=h.2; omega⟩
open Classical in
theorem better_p (a b:PWay):throngref13_better a b = some (decide (Btr a b)):=by
 unfold throngref13_better Btr
 obtain ⟨c,n,o⟩:=a
 obtain ⟨c',n',o'⟩:=b
 cases o <;> cases o' <;> simp
noncomputable def ovr (x:RC) (t:Int) (B:List PWay) (k:Int):PWay:=if x.dd t (x.T k) < 0 ∨ (gi B (ot k)).no = true then ⟨0,0,true⟩ else ⟨x.dd t (x.T k) + x.ov (k / 2) + (gi B (ot k)).cost,(gi B (ot k)).count + 1,false⟩
structure EndsOk (x:RC) (E:List Int):Prop where
 len:(E.length:Int) = x.M
 is:∀ p,x.Pl p→gi E p = x.T p
theorem over_p (ho:x.Ok) (hlen:x.ps.length ≤ 5000) {t k:Int} {E:List Int} {B:List PWay} (hE:EndsOk x E) (ht:x.In t) (hk:x.Pl k) (hB:(B.length:Int) = x.M) (hb:(gi B (ot k)).no = false→(0 ≤ (gi B (ot k)).cost∧(gi B (ot k)).cost ≤ 1000000000000000000)∧0 ≤ (gi B (ot k)).count∧(gi B (ot k)).count ≤ 1000000000000000000) :
  throngref13_over x.g x.c x.ps (x.ddL t) E B k = some (ovr x t B k):=by
 have hk1:k < x.M:=hk.2
 have hk0:=hk.1
 have hM:x.M ≤ 10000:=by unfold RC.M; omega
 have hok:=ot_pl hk
 have hok1:ot k < x.M:=hok.2
 have hok0:=hok.1
 have hp:=plOk ho hk
 have hq:=plOk ho hok
 have a1:=in_bd ho hp.i
 have b1:=in_bd ho hq.i
 have hov:=hp.ov
 have hl:=(ddL_is ho ht).len
 have hdb:=RC.dd_bd ho ht hp.i
 have hgt:=ho.hg.2.2.2
 have hgl:=ho.hg.2.2.1
 have ek:k + 1 - 2 * (k % 2) = ot k:=rfl
 have es:x.ov (k / 2) = 5 * (tc x.g x.c (x.T k) + tc x.g x.c (x.T (ot k))):=by
  unfold RC.ov
  rcases T_ot (x:=x) (p:=k) with ⟨_,e1,e2⟩ | ⟨_,e1,e2⟩ <;> rw [e1,e2]
  rw [Int.add_comm]
 have ta:=tc_bd ho.hg ho.hc ⟨a1.1,a1.2.1⟩
 have tb:=tc_bd ho.hg ho.hc ⟨b1.1,b1.2.1⟩
 unfold throngref13_over ovr
 rw [ek,hE.is k hk,hE.is (ot k) hok]
 have hEl:=hE.len
 rw [if_pos (by omega),if_pos (by omega),if_pos (by omega),if_pos (by omega)]
 have ed:gi (x.ddL t) (x.T k) = x.dd t (x.T k):=rfl
 rw [ed]
 by_cases h:x.dd t (x.T k) < 0 ∨ (gi B (ot k)).no = true
 ·rw [if_pos h,if_pos h]
 ·rw [if_neg h,if_neg h,if_pos (by omega),if_pos (by omega),cost_p ho.hc ⟨by omega,hgt _ a1.1 (by omega)⟩,bsome,if_pos (by omega),if_pos (by omega),if_pos (by omega),cost_p ho.hc ⟨by omega,hgt _ b1.1 (by omega)⟩,bsome]
  have hb2:=hb (by cases e:(gi B (ot k)).no with | false=>rfl | true=>exact absurd (.inr e) h)
  show (if I64 (tc x.g x.c (x.T k) + tc x.g x.c (x.T (ot k))) then _ else none) = _
  rw [if_pos (by unfold I64; omega)]
  show (if I64 (5 * (tc x.g x.c (x.T k) + tc x.g x.c (x.T (ot k)))) then _ else none) = _
  rw [if_pos (by unfold I64; omega),if_pos (by omega),if_pos (by omega)]
  show (if I64 (x.dd t (x.T k) + 5 * (tc x.g x.c (x.T k) + tc x.g x.c (x.T (ot k)))) then if I64 (x.dd t (x.T k) + 5 * (tc x.g x.c (x.T k) + tc x.g x.c (x.T (ot k))) + (gi B (ot k)).cost) then if I64 ((gi B (ot k)).count + 1) then some (⟨x.dd t (x.T k) + 5 * (tc x.g x.c (x.T k) + tc x.g x.c (x.T (ot k))) + (gi B (ot k)).cost,(gi B (ot k)).count + 1,false⟩:PWay) else none else none else none) = _
  rw [← es,if_pos (by unfold I64; omega),if_pos (by unfold I64; omega),if_pos (by unfold I64; omega)]
structure BOk (x:RC) (u:Int) (B:List PWay) (K:Int):Prop where
 len:(B.length:Int) = x.M
 rt:∀ p,x.Pl p→(gi B p).no = false→(∃ L:List Int,Rt x (x.T p) L (gi B p).cost u∧(L.length:Int) = (gi B p).count)∧(gi B p).cost ≤ K
theorem BOk.bd (ho:x.Ok) {u K:Int} {B:List PWay} (h:BOk x u B K) {p:Int} (hp:x.Pl p) (hn:(gi B p).no = false):(0 ≤ (gi B p).cost∧(gi B p).cost ≤ K)∧0 ≤ (gi B p).count∧10 * (gi B p).count ≤ (gi B p).cost:=by
 obtain ⟨⟨L,h1,h2⟩,h3⟩:=h.rt p hp hn
 have:=(h1.ends ho).2.2
 omega
theorem BOk.le {u K K':Int} {B:List PWay} (h:BOk x u B K) (hk:K ≤ K'):BOk x u B K':=⟨h.len,fun p hp hn=>⟨(h.rt p hp hn).1,by have:=(h.rt p hp hn).2; omega⟩⟩
theorem ovr_rt (ho:x.Ok) {t u k K:Int} {B:List PWay} (h:BOk x u B K) (ht:x.In t) (hk:x.Pl k) (hn:(ovr x t B k).no = false):(0 ≤ x.dd t (x.T k)∧(gi B (ot k)).no = false∧(ovr x t B k).cost = x.dd t (x.T k) + x.ov (k / 2) + (gi B (ot k)).cost∧(ovr x t B k).count = (gi B (ot k)).count + 1) ∧
  (∃ L:List Int,Rt x t (k / 2 :: L) (ovr x t B k).cost u∧(L.length:Int) + 1 = (ovr x t B k).count)∧(ovr x t B k).cost ≤ K + 1376400:=by
 have hp:=plOk ho hk
 have hd:=RC.dd_bd ho ht hp.i
 have ov:=hp.ov
 by_cases hc:x.dd t (x.T k) < 0 ∨ (gi B (ot k)).no = true
 ·unfold ovr at hn; rw [if_pos hc] at hn; cases hn
 ·have e:ovr x t B k = ⟨x.dd t (x.T k) + x.ov (k / 2) + (gi B (ot k)).cost,(gi B (ot k)).count + 1,false⟩:=if_neg hc
  have hno:(gi B (ot k)).no = false:=by cases e:(gi B (ot k)).no with | false=>rfl | true=>exact absurd (.inr e) hc
  obtain ⟨⟨L,h1,h2⟩,h3⟩:=h.rt _ (ot_pl hk) hno
  rw [e]
  dsimp only
  exact ⟨⟨by omega,hno,rfl,rfl⟩,⟨L,.cons ht hk (by omega) h1,by omega⟩,by omega⟩
theorem ovr_le (ho:x.Ok) {t k c n:Int} {B:List PWay} (h0:0 ≤ x.dd t (x.T k)) (h:Wle (gi B (ot k)) c n):Wle (ovr x t B k) (x.dd t (x.T k) + x.ov (k / 2) + c) (n + 1):=by
 have e:ovr x t B k = ⟨x.dd t (x.T k) + x.ov (k / 2) + (gi B (ot k)).cost,(gi B (ot k)).count + 1,false⟩:=if_neg (fun hc=>hc.elim (fun hc=>by omega) fun hc=>by rw [h.1] at hc; cases hc)
 rw [e]
 have:=h.2
 exact ⟨rfl,by dsimp only; omega⟩
def LV (x:RC) (u:Int) (B:List PWay) (p r:Int):Prop:=∀ (L:List Int) (c:Int),Rt x (x.T p) L c u→(L.length:Int) ≤ r→Wle (gi B p) c L.length
def Al (x:RC) (u:Int) (B:List PWay):Prop:=∀ p,x.Pl p→∀ (L:List Int) (c:Int),Rt x (x.T p) L c u→Wle (gi B p) c L.length
theorem Al.of (ho:x.Ok) {u:Int} {B:List PWay} (h0:∀ p,x.Pl p→LV x u B p 0) (hf:∀ p k,x.Pl p→x.Pl k→¬ Btr (ovr x (x.T p) B k) (gi B p)):Al x u B:=fun p hp L c r=>by
 generalize e:x.T p = t at r
 induction r generalizing p with
 | nil ht hu h =>
  subst e
  exact h0 p hp [] _ (.nil ht hu h) (by simp)
 | @cons t k c u L ht hk h r ih =>
  subst e
  have h1:=ih h0 (ot k) (ot_pl hk) rfl
  have h2:=ovr_le ho h h1
  have h3:=Wle.not h2.1 (hf p k hp hk)
  have h4:=h2.2
  exact h3.le (by simp only [List.length_cons]; omega)
theorem LV.long (ho:x.Ok) {u p r:Int} {B:List PWay} (h:LV x u B p r) (hr:(x.ps.length:Int) ≤ r) (L:List Int) (c:Int) (k:Rt x (x.T p) L c u):Wle (gi B p) c L.length:=by
 obtain ⟨L',c',h1,h2,h3⟩:=Rt.short ho L.length (Nat.le_refl _) k
 exact (h L' c' h1 (by omega)).le (by omega)
end Go.Proofs.YthdbofgcckjopaaGreat
