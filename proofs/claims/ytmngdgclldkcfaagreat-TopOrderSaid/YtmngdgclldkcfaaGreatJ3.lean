/-
  Texts of one's own, joined: VI VJ VK VH.
-/
import Derived.Test.YtmngdgclldkcfaaGreatJ2
import Derived.Test.YtmngdgclldkcfaaGreatVE
import Derived.Laws.CopyRow
import Derived.Laws.Shifts
import Derived.Laws.Cover3
import Derived.Test.YtmngdgclldkcfaaGreatRows
import Derived.WalkKit
import Derived.ProofKit
import Derived.OpenShut
import Derived.Carry
import Derived.ChangeArms
import Derived.ChangeSame
import Derived.DataReads
import Derived.Deep.Slices
import Derived.SizedLaws
set_option linter.unusedSimpArgs false
set_option linter.unusedVariables false
namespace Go.Vg
open Enc (R)

def gi {α:Type} [Inhabited α] (xs:List α) (j:Int):α:=xs.getD j.toNat default
def si {α:Type} (xs:List α) (j:Int) (x:α):List α:=xs.set j.toNat x
section
variable {α:Type} [Inhabited α] {xs ys:List α} {j k:Int} {x:α}
theorem gi_get (h:0 ≤ j∧j < xs.length):xs[j.toNat]? = some (gi xs j):=by
 have hl:j.toNat < xs.length:=by omega
 simp [gi,List.getD,List.getElem?_eq_getElem hl]
theorem ne_of_pos {α:Type} {xs:List α} (h:0 < xs.length):xs ≠ []:=by rintro rfl; simp at h
theorem gi_mem (h:0 ≤ j∧j < xs.length):gi xs j ∈ xs:=List.mem_of_getElem? (gi_get h)
theorem len_si {α:Type} {xs:List α} {j:Int} {x:α}:(si xs j x).length = xs.length:=by simp [si]
theorem gi_si_self (h:0 ≤ j∧j < xs.length):gi (si xs j x) j = x:=by
 have hl:j.toNat < xs.length:=by omega
 simp [gi,si,List.getD,List.getElem?_set,hl]
theorem gi_si_ne (h0:0 ≤ j) (h1:0 ≤ k) (h:j ≠ k):gi (si xs j x) k = gi xs k:=by
 have hl:j.toNat ≠ k.toNat:=by omega
 simp [gi,si,List.getD,List.getElem?_set_ne hl]
theorem gi_append_left (h:0 ≤ j∧j < xs.length):gi (xs ++ ys) j = gi xs j:=by
 have hl:j.toNat < xs.length:=by omega
 simp [gi,List.getD,List.getElem?_append_left hl]
theorem gi_append_at:gi (xs ++ [x]) (xs.length:Int) = x:=by simp [gi,List.getD]
theorem gi_replicate {n:Nat} (h:0 ≤ j∧j < n):gi (List.replicate n x) j = x:=by
 have hl:j.toNat < n:=by omega
 simp [gi,List.getD,List.getElem?_replicate,hl]
theorem ext_gi (hl:xs.length = ys.length) (h:∀ i:Int,0 ≤ i→i < xs.length→gi xs i = gi ys i):xs = ys:=by
 apply List.ext_getElem hl
 intro i h1 h2
 have:=h i (by omega) (by omega)
 simpa [gi,List.getD,List.getElem?_eq_getElem h1,List.getElem?_eq_getElem h2] using this
end

section
variable {P:Program} {n:Nat} {fr:Fr} {dst:Option Tmp} {ty:TypeId} {pos:String} {aft:Array Edge} {g:Option (Nat × Bool)} {S:As} {w0:World} {G:List Ch} {Q:Po}
theorem Qt.ldF {α:Type} [Enc α] [Inhabited α] {t:TypeId} {x:Operand} {xs:List α} {b o len cap sz f:Nat} {ji:Int} {v:Value} (hR:Rd S xs [.slice (some ⟨b,o,none⟩) len cap]) (ht:tySz P t = some (1,false))
  (hx:ev fr x = some (.pointer (some ⟨b,o + ji.toNat * sz + f,none⟩))) (hsz:sz = Enc.sz α) (hj:0 ≤ ji∧ji < xs.length) (hv:∀ h c,R h (gi xs ji) c→c[f]? = some v) :
  Qt P n ⟨dst,.load t x,ty,pos,aft,g⟩ fr S v:=Qt.ldE hR (gi_get hj) ht hx (by rw [hsz]) hv
theorem Qt.ld0 {α:Type} [Enc α] [Inhabited α] {t:TypeId} {x:Operand} {xs:List α} {b o len cap sz:Nat} {ji:Int} {v:Value} (hR:Rd S xs [.slice (some ⟨b,o,none⟩) len cap]) (ht:tySz P t = some (1,false))
  (hx:ev fr x = some (.pointer (some ⟨b,o + ji.toNat * sz,none⟩))) (hsz:sz = Enc.sz α) (hj:0 ≤ ji∧ji < xs.length) (hv:∀ h c,R h (gi xs ji) c→c[0]? = some v) :
  Qt P n ⟨dst,.load t x,ty,pos,aft,g⟩ fr S v:=Qt.ldE (j:=0) hR (gi_get hj) ht hx (by rw [hsz]; omega) hv
theorem Qt.ldW {α:Type} [Enc α] [Inhabited α] {t s:TypeId} {x:Operand} {xs:List α} {b o len cap sz:Nat} {ji:Int} {cs:List Value} (hR:Rd S xs [.slice (some ⟨b,o,none⟩) len cap]) (ht:tySz P t = some (s,true))
  (hx:ev fr x = some (.pointer (some ⟨b,o + ji.toNat * sz,none⟩))) (hsz:sz = Enc.sz α) (hj:0 ≤ ji∧ji < xs.length) (hl:cs.length = s) (hv:∀ h c,R h (gi xs ji) c→c = cs) :
  Qt P n ⟨dst,.load t x,ty,pos,aft,g⟩ fr S (.agg cs.toArray):=Qt.ldEA hR (gi_get hj) ht hx (by rw [hsz]) hl hv
theorem Sd.st0 {α:Type} [Enc α] [Inhabited α] (k:Nat) {t e:TypeId} {B:Hp} {x y:Operand} {xs:List α} {b cap s sz len:Nat} {ji:Int} {gg:Bool} (x1:α) {v:Value} {us:List Value} (hk:G[k]? = some (row B e (.slice (some ⟨b,0,none⟩) len cap) xs)) (ht:tySz P t = some (s,gg))
  (hx:ev fr x = some (.pointer (some ⟨b,0 + ji.toNat * sz,none⟩))) (hy:ev fr y = some v) (hsz:sz = Enc.sz α) (hj:0 ≤ ji∧ji < xs.length) (hv:v.cells.toList = us) (hl:us.length = s) (hle:s ≤ Enc.sz α)
  (h1:us.all (·.oneCell') = true) (hn:∀ h c,R h (gi xs ji) c→R h x1 (c.take 0 ++ us ++ c.drop (0 + s))) :
  Sd P n ⟨none,.store t x y,ty,pos,aft,g⟩ fr (Sat w0 G) (fun _:Unit=>undef) (fun _=>Sat w0 (G.set k (row B e (.slice (some ⟨b,0,none⟩) len cap) (si xs ji x1)))) :=
 Sd.stE k (j:=0) hk (gi_get hj) ht hx hy (by rw [hsz]; omega) hv hl (by omega) h1 hn
theorem Sat.row_fits {α:Type} [Enc α] {w:World} {k m:Nat} {B:Hp} {e:TypeId} {q:Option Nat × Nat} {xs:List α} (h:Sat w0 G w) (hk:G[k]? = some (row B e (rowV q m) xs)):m = xs.length∧m ≤ q.2∧q.2 ≤ maxLen:=by
 obtain ⟨p,hp,_⟩:=h.get k hk
 rcases hp with ⟨hv,rfl⟩ | ⟨g,cap,cs,sp,hv,_,hle,hm,_⟩
 ·simp only [rowV,Value.slice.injEq] at hv
  obtain ⟨_,rfl,h2⟩:=hv
  rw [h2]; exact ⟨rfl,Nat.le_refl _,Nat.zero_le _⟩
 ·simp only [rowV,Value.slice.injEq] at hv
  obtain ⟨_,rfl,h2⟩:=hv
  rw [h2]; exact ⟨rfl,hle,hm⟩

theorem R_max {α:Type} [Enc α] {h:Hp} {xs:List α} {v:Value} (hr:R h xs [v]):xs.length ≤ 9223372036854775807:=by
 obtain ⟨p,cap,e,h1,h2,_⟩:=hr
 unfold maxLen at h2; omega

theorem mul_bd {a b A B:Int} (ha:0 ≤ a∧a ≤ A) (hb:0 ≤ b∧b ≤ B):0 ≤ a * b∧a * b ≤ A * B :=
 ⟨Int.mul_nonneg ha.1 hb.1,Int.mul_le_mul ha.2 hb.2 hb.1 (by omega)⟩

theorem T.xt {P:Program} {n:Nat} {fr:Fr} {S:As} {Q:Po} {id:Nat} {K:Act→World→Prop} (h:Cont n K fr S) (he:ExTo id Q K:=by with_reducible (repeat (first | exact ExTo.here | exact ExTo.hereN | exact ExTo.deep (by repeat (first | exact NmTo.seq | apply NmTo.blk)) | apply ExTo.seq | refine ExTo.past (by decide) ?_))):T P n (.exit id) fr S Q:=T.exitTo he h

theorem T.loopK {σ:Type} (kept:Fr) (FW:σ→Fr) (SS:σ→As) (I:σ→Prop) (m:σ→Nat) {c:Code} (x0:σ) (hi:I x0) (hk:Sub fr kept) (h0:Sub fr (FW x0 ++ kept)) (hs:∀ w,S w→SS x0 w)
  (round:∀ x,I x→∀ K:Act→World→Prop,(∀ fr' S' x',I x'→m x' < m x→Sub fr' (FW x' ++ kept)→(∀ w,S' w→SS x' w)→Cont n K fr' S')→T P n c (FW x ++ kept) (SS x) (Exit.then K Q)):T P n (.loop c) fr S Q :=
 T.loop (fun x=>FW x ++ kept) SS I m x0 hi h0 hs round
theorem T.loopC {σ:Type} (kept:Fr) (FW:σ→Fr) (I:σ→Prop) (m:σ→Nat) {c:Code} (x0:σ) (hi:I x0) (hk:Sub fr kept) (h0:Sub fr (FW x0 ++ kept))
  (round:∀ x,I x→∀ K:Act→World→Prop,(∀ fr' S' x',I x'→m x' < m x→Sub fr' (FW x' ++ kept)→(∀ w,S' w→S w)→Cont n K fr' S')→T P n c (FW x ++ kept) S (Exit.then K Q)):T P n (.loop c) fr S Q :=
 T.loop (fun x=>FW x ++ kept) (fun _=>S) I m x0 hi h0 (fun _ s=>s) round
theorem Sub.app {fr kept:Fr}:∀ {FW:Fr},Sub fr FW→Sub fr kept→Sub fr (FW ++ kept)
 | [],_,h=>h
 | _ :: _,h,k=>⟨h.1,Sub.app h.2 k⟩

theorem Sat.rot {A:Ch} {w:World} (s:Sat w0 (A :: G) w):Sat w0 (G ++ [A]) w:=by
 obtain ⟨e,own,h2⟩:=s
 refine ⟨e,fun b=>if own b = 0 then G.length else own b - 1,fun i C hi=>?_⟩
 rw [List.getElem?_append] at hi
 split at hi
 ·obtain ⟨p,hp,hb⟩:=h2 (i + 1) C (by simpa using hi)
  refine ⟨p,hp,fun b o hbo=>?_⟩
  obtain ⟨a1,a2,a3⟩:=hb b o hbo
  exact ⟨a1,by simp [a2],a3⟩
 ·rename_i hge
  have h0:i = G.length:=by
   rcases Nat.lt_or_ge (i - G.length) 1 with h | h
   ·omega
   ·rw [List.getElem?_eq_none (by simpa using h)] at hi; cases hi
  subst h0
  simp at hi; subst hi
  obtain ⟨p,hp,hb⟩:=h2 0 A rfl
  refine ⟨p,hp,fun b o hbo=>?_⟩
  obtain ⟨a1,a2,a3⟩:=hb b o hbo
  exact ⟨a1,by simp [a2],a3⟩
theorem Sat.rotB {A:Ch} {w:World} (s:Sat w0 (G ++ [A]) w):Sat w0 (A :: G) w:=by
 obtain ⟨e,own,h2⟩:=s
 refine ⟨e,fun b=>if own b = G.length then 0 else own b + 1,fun i C hi=>?_⟩
 cases i with
 | zero =>
  simp at hi; subst hi
  obtain ⟨p,hp,hb⟩:=h2 G.length A (by simp)
  refine ⟨p,hp,fun b o hbo=>?_⟩
  obtain ⟨a1,a2,a3⟩:=hb b o hbo
  exact ⟨a1,by simp [a2],a3⟩
 | succ i =>
  have hi':G[i]? = some C:=by simpa using hi
  have hlt:=(List.getElem?_eq_some_iff.1 hi').1
  obtain ⟨p,hp,hb⟩:=h2 i C (by rw [List.getElem?_append_left hlt]; exact hi')
  refine ⟨p,hp,fun b o hbo=>?_⟩
  obtain ⟨a1,a2,a3⟩:=hb b o hbo
  refine ⟨a1,?_,a3⟩
  show (if own b = G.length then 0 else own b + 1) = i + 1
  rw [a2,if_neg (by omega)]
def stars:List Ch→Ch
  | []=>fun _=>True
  | A :: L=>star A (stars L)
theorem Sat.unstars {w:World}:∀ (L:List Ch) {G:List Ch},Sat w0 (stars L :: G) w→Sat w0 (G ++ L) w
 | [],G,s=>by rw [List.append_nil]; exact s.rot.drop1
 | A :: L,G,s=>by
  have h1:Sat w0 ((stars L :: G) ++ [A]) w:=(Sat.unstar (A:=A) (B:=stars L) s).rot
  have h2:=Sat.unstars L (G:=G ++ [A]) (by simpa using h1)
  simpa using h2
theorem Sat.toStars {w:World}:∀ (L:List Ch) {G:List Ch},Sat w0 (G ++ L) w→Sat w0 (stars L :: G) w
 | [],G,s=>by
  rw [List.append_nil] at s
  exact (s.addEmpty (stars []) (fun p=>trivial)).rotB
 | A :: L,G,s=>by
  have h1:=Sat.toStars L (G:=G ++ [A]) (by simpa using s)
  have h2:Sat w0 ((stars L :: G) ++ [A]) w:=by simpa using h1
  exact h2.rotB.toStar
def pk (G:List Ch) (f:List Nat):List Ch:=f.filterMap (G[·]?)
theorem T.drawnS {id:Nat} (f:List Nat) {ops:Array Oper} (plan:List (Nat × Kd)) (hm:P.follows .mixedOrders = true) (hp:(planOk ops (Array.replicate ops.size false) plan && noSel ops && plan.length == ops.size && (plan.all fun (i,k)=>plan.lookup i == some k)) = true)
  {H:List Ch} (hH:pk G f = H) (h:RD P n ops Q plan (Sat w0 H) plan fr (Sat w0 G)):T P n (.region id ops true) fr (Sat w0 G) Q:=by
 exact T.drawn _ plan hm (ClE.sat _ _) hp h
end
end Go.Vg
set_option linter.unusedSimpArgs false
set_option linter.unusedVariables false
namespace Go.Vg
open Enc (R)

section
variable {P:Program} {n:Nat} {fr:Fr} {dst:Option Tmp} {ty:TypeId} {pos:String} {aft:Array Edge} {g:Option (Nat × Bool)} {S:As} {w0:World} {G:List Ch} {Q:Po}
theorem wrapU (a:Int) (h:0 ≤ a∧a < 18446744073709551616):IntKind.u64.wrap a = a:=by
 simp [IntKind.wrap,IntKind.bits,IntKind.signed]; omega
theorem Pu.addU {xt yt:TypeId} {x y:Operand} {a b:Int} (hx:ev fr x = some (.int .u64 a)) (hy:ev fr y = some (.int .u64 b)) (h:0 ≤ a + b∧a + b < 18446744073709551616) :
  Pu P n ⟨dst,.binOp .add xt x y yt,ty,pos,aft,g⟩ fr (.int .u64 (a + b)):=Pu.bin hx hy (by rw [binI,wrapU _ h])
theorem Pu.mulU {xt yt:TypeId} {x y:Operand} {a b:Int} (hx:ev fr x = some (.int .u64 a)) (hy:ev fr y = some (.int .u64 b)) (h:0 ≤ a * b∧a * b < 18446744073709551616) :
  Pu P n ⟨dst,.binOp .mul xt x y yt,ty,pos,aft,g⟩ fr (.int .u64 (a * b)):=Pu.bin hx hy (by rw [binI,wrapU _ h])
theorem and32 (a:Int) (h:0 ≤ a∧a < 18446744073709551616):(((BitVec.ofInt 64 a &&& BitVec.ofInt 64 4294967295).toNat:Nat):Int) = a % 4294967296:=by
 obtain ⟨m,rfl⟩:=Int.eq_ofNat_of_zero_le h.1
 have hm:m < 18446744073709551616:=by omega
 have e1:(BitVec.ofInt 64 (m:Int)).toNat = m:=by simp [BitVec.toNat_ofInt]; omega
 have e2:(BitVec.ofInt 64 4294967295).toNat = 4294967295:=by decide
 rw [BitVec.toNat_and,e1,e2]
 have:=Nat.and_two_pow_sub_one_eq_mod m 32
 simp only [show (2:Nat) ^ 32 = 4294967296 from rfl] at this
 rw [show (4294967296:Nat) - 1 = 4294967295 from rfl] at this
 rw [this]; omega
theorem Pu.andU {xt yt:TypeId} {x y:Operand} {a:Int} (hx:ev fr x = some (.int .u64 a)) (hy:ev fr y = some (.int .u64 4294967295)) (h:0 ≤ a∧a < 18446744073709551616) :
  Pu P n ⟨dst,.binOp .and xt x y yt,ty,pos,aft,g⟩ fr (.int .u64 (a % 4294967296)):=Pu.bin hx hy (by
 have e:=and32 a h
 rw [binI,show IntKind.u64.bits = 64 from rfl,e,wrapU _ (by omega)])
theorem Pu.shrU {xt yt:TypeId} {x y:Operand} {a:Int} (hx:ev fr x = some (.int .u64 a)) (hy:ev fr y = some (.int .u64 32)) :
  Pu P n ⟨dst,.binOp .shr xt x y yt,ty,pos,aft,g⟩ fr (.int .u64 (a / 4294967296)):=fun ac kn w=>by
 have h:=shift_shr_any .u64 .u64 a 32 (by decide)
 simp [execOp,kn.ev hx,kn.ev hy,binOp,eqGuard,h,IntKind.bits]

theorem Pu.convU {x:Operand} {s d:TypeId} {k:IntKind} {a:Int} (hs:(P.underlying s).isSome = true) (hd:P.underlying d = some (.int .u64)) (hx:ev fr x = some (.int k a)) (h:0 ≤ a∧a < 18446744073709551616) :
  Pu P n ⟨dst,.convert s d x,ty,pos,aft,g⟩ fr (.int .u64 a):=by
 have:=Pu.conv (n:=n) (dst:=dst) (ty:=ty) (pos:=pos) (aft:=aft) (g:=g) hs hd hx
 rwa [wrapU a h] at this
theorem Pu.convS {x:Operand} {s d:TypeId} {k:IntKind} {a:Int} (hs:(P.underlying s).isSome = true) (hd:P.underlying d = some (.int .i64)) (hx:ev fr x = some (.int k a)) (h:-9223372036854775808 ≤ a∧a ≤ 9223372036854775807) :
  Pu P n ⟨dst,.convert s d x,ty,pos,aft,g⟩ fr (.int .i64 a):=by
 have:=Pu.conv (n:=n) (dst:=dst) (ty:=ty) (pos:=pos) (aft:=aft) (g:=g) hs hd hx
 rwa [IntWalk.i64_in a h] at this
theorem cutP_lt {b o cap l sz:Nat} (h:cap ≠ l):cutP (some ⟨b,o,none⟩) cap l sz = some ⟨b,o + l * sz,none⟩:=by
 simp [cutP,h,add_lit]
theorem rep_step {α:Type} {x z:α} {c r m:Nat} (h1:m ≤ c) (h2:m ≤ r) :
  (List.replicate c x ++ List.replicate r z).take c ++ ((List.replicate c x ++ List.replicate r z).take c).take m ++ (List.replicate c x ++ List.replicate r z).drop (c + m) = List.replicate (c + m) x ++ List.replicate (r - m) z:=by
 have e1:(List.replicate c x ++ List.replicate r z).take c = List.replicate c x:=by
  rw [List.take_append_of_le_length (by simp)]; simp
 have e2:(List.replicate c x ++ List.replicate r z).drop (c + m) = List.replicate (r - m) z:=by
  rw [List.drop_append]; simp
 rw [e1,e2,List.take_replicate,Nat.min_eq_left h1,List.replicate_append_replicate]

theorem run_copy_list {w:World} {t e sz by' gg o dl dc m sl sc:Nat} {p:Option Addr} {cur:Array Value} {et:TypeId} {news:List Value} (ht:slTy P t = some (e,sz,by')) (hg:w.heap[gg]? = some (.cells cur et (0,0)))
  (hm:Nat.min sl dl = m) (hl:news.length = m * sz) (hsrc:news = [] ∨ ∃ a,p = some a∧∀ j v,news[j]? = some v→w.cell? (a.add j) = some v) (hfit:o + news.length ≤ cur.size) (h1:∀ v ∈ news,v.oneCell' = true) :
  (Builtin.copy_ #[t,t] ty #[.slice (some ⟨gg,o,none⟩) dl dc,.slice p sl sc]).run P w = .ok (goInt m) (w.setRow gg (cur.toList.take o ++ news ++ cur.toList.drop (o + news.length)).toArray):=by
 obtain ⟨h1',inf,h2,rfl,_⟩:=slTy_spec ht
 have hst:=run_storeCells_at (P:=P) gg o et news 0 cur w hg (by simpa using hfit) h1
 have hld:(Builtin.firstCells inf.size m (.slice p sl sc)).run P w = .ok news.toArray w:=by
  cases p with
  | none =>
   have:news = []:=by
    rcases hsrc with h | ⟨a,ha,_⟩
    ·exact h
    ·cases ha
   subst this; rfl
  | some a =>
   have hq:∀ j v,news[j]? = some v→w.cell? (a.add j) = some v:=by
    rcases hsrc with h | ⟨a',ha,hc⟩
    ·subst h; intro j v hj; simp at hj
    ·cases ha; exact hc
   have:=run_loadCells_list (P:=P) w a news hq
   simp only [Builtin.firstCells]
   rw [← hl]; exact this
 simp only [Nat.add_zero] at hst
 subst hm
 simp [Builtin.copy_,run_underlying h1',Builtin.lenOf,run_sizeOf_info h2,hld,hst]

theorem Sd.copyR {α:Type} [Enc α] [Flat α] (k:Nat) {B:Hp} {e t by' gg off o len cap dl dc sl sc:Nat} {p:Option Addr} {x y:Operand} {xs ys:List α} (hk:G[k]? = some (row B e (.slice (some ⟨gg,0,none⟩) len cap) xs))
  (ht:slTy P t = some (e,Enc.sz α,by')) (hx:ev fr x = some (.slice (some ⟨gg,off,none⟩) dl dc)) (hy:ev fr y = some (.slice p sl sc)) (hR:Rd (Sat w0 G) ys [.slice p sl sc]) (ho:off = o * Enc.sz α) (hfit:o + Nat.min sl dl ≤ xs.length) :
  Sd P n ⟨dst,.call { callee:=.builtin .copy,args:=#[x,y],argTypes:=#[t,t] },ty,pos,aft,g⟩ fr (Sat w0 G) (fun _:Unit=>.int .i64 (Nat.min sl dl:Nat))
   (fun _=>Sat w0 (G.set k (row B e (.slice (some ⟨gg,0,none⟩) len cap) (xs.take o ++ ys.take (Nat.min sl dl) ++ xs.drop (o + Nat.min sl dl))))):=fun a w kn s=>by
 obtain ⟨p0,hp0,hl0,hb0⟩:=s.get k hk
 rcases hp0 with ⟨hv',_⟩ | ⟨g',cap',cs,sp,hv',hgp,hlc,hcm,hlen,hr⟩
 ·cases hv'
 simp only [Value.slice.injEq,Option.some.injEq,Addr.mk.injEq,and_true,true_and] at hv'
 obtain ⟨rfl,rfl,rfl⟩:=hv'
 have hcl:=hr.length
 obtain ⟨p',cap',e',sl1,sl2,sl3⟩:=hR w s
 simp only [List.cons.injEq,Value.slice.injEq,and_true] at e'
 obtain ⟨rfl,rfl,rfl⟩:=e'
 obtain ⟨m,hm⟩:∃ m,m = Nat.min ys.length dl:=⟨_,rfl⟩
 have hmy:m ≤ ys.length:=by rw [hm]; exact Nat.min_le_left _ _
 rw [← hm] at hfit ⊢
 have hnews:∃ news:List Value,RF (hpOf w) (ys.take m) news∧(news = [] ∨ ∃ a,p = some a∧∀ j v,news[j]? = some v→w.cell? (a.add j) = some v):=by
  rcases sl3 with rfl | ⟨b,oo,c2,rfl,hr2,ha2⟩
  ·exact ⟨[],by simp [RF],.inl rfl⟩
  ·refine ⟨c2.take (m * Enc.sz α),hr2.take m,.inr ⟨_,rfl,fun j v hj=>?_⟩⟩
   rw [List.getElem?_take] at hj
   split at hj
   ·rw [add_lit]; exact ha2.cell hj
   ·cases hj
 obtain ⟨news,hrn,hsrc⟩:=hnews
 have hnl:news.length = m * Enc.sz α:=by rw [hrn.length,List.length_take,Nat.min_eq_left hmy]
 have hsum:o * Enc.sz α + m * Enc.sz α ≤ xs.length * Enc.sz α:=by rw [← Nat.add_mul]; exact Nat.mul_le_mul_right _ hfit
 have hrun:=run_copy_list (P:=P) (ty:=ty) (dc:=dc) (sc:=sc) (dl:=dl) (o:=o * Enc.sz α) ht (hl0 _ _ hgp) hm.symm hnl hsrc (by simp only [List.size_toArray,List.length_append]; omega) hrn.one
 subst ho
 have hex:(execOp a.eval ⟨dst,.call { callee:=.builtin .copy,args:=#[x,y],argTypes:=#[t,t] },ty,pos,aft,g⟩).run P w = .ok (.value (goInt m)) (w.setRow gg ((cs ++ sp).toArray.toList.take (o * Enc.sz α) ++ news ++ (cs ++ sp).toArray.toList.drop (o * Enc.sz α + news.length)).toArray):=by
  simp [execOp,resolve,invoke,builtin,kn.ev hx,kn.ev hy,hrun]
 rw [hex]
 refine ⟨(),rfl,?_⟩
 refine s.turn k hk _ rfl rfl rfl (by simp) fun p hp hlp hb=>?_
 rcases hp with ⟨hv'',_⟩ | ⟨g',cap',cs',sp',hv'',hgp',hlc',hcm',hlen',hr'⟩
 ·cases hv''
 simp only [Value.slice.injEq,Option.some.injEq,Addr.mk.injEq,and_true,true_and] at hv''
 obtain ⟨rfl,rfl,rfl⟩:=hv''
 have he:cs' = cs∧sp' = sp:=by
  have h1:=hlp _ _ hgp'
  have h2:w.heap[gg]? = some (.cells (cs ++ sp).toArray e (0,0)):=hl0 _ _ hgp
  have h3:w.heap[gg]? = some (.cells (cs' ++ sp').toArray e (0,0)):=h1
  rw [h2] at h3
  have h4:cs ++ sp = cs' ++ sp':=by simpa using h3
  have h5:=congrArg (List.take cs.length) h4
  rw [List.take_left,hcl,← hr'.length,List.take_left] at h5
  have h6:=congrArg (List.drop cs.length) h4
  rw [List.drop_left,hcl,← hr'.length,List.drop_left] at h6
  exact ⟨h5.symm,h6.symm⟩
 obtain ⟨rfl,rfl⟩:=he
 have harr:(cs' ++ sp').take (o * Enc.sz α) ++ news ++ (cs' ++ sp').drop (o * Enc.sz α + news.length) = (cs'.take (o * Enc.sz α) ++ news ++ cs'.drop ((o + m) * Enc.sz α)) ++ sp':=by
  rw [hnl,← Nat.add_mul,List.take_append_of_le_length (by omega),List.drop_append_of_le_length (by rw [Nat.add_mul]; omega)]
  simp [List.append_assoc]
 simp only [List.toList_toArray] at *
 rw [harr]
 refine ⟨fun d hd hdn=>setRow_other w gg d _ (fun e'=>by rw [e',hgp'] at hdn; cases hdn),fun d=>if d = gg then some (.cells ((cs'.take (o * Enc.sz α) ++ news ++ cs'.drop ((o + m) * Enc.sz α)) ++ sp').toArray e (0,0)) else p d,.inr ⟨gg,cap,cs'.take (o * Enc.sz α) ++ news ++ cs'.drop ((o + m) * Enc.sz α),sp',?_,by simp,?_,hcm,?_,?_⟩,fun d o' hdo=>?_⟩
 ·congr 1
  simp only [List.length_append,List.length_take,List.length_drop]; omega
 ·simp only [List.length_append,List.length_take,List.length_drop]; omega
 ·simp only [List.length_append,List.length_take,List.length_drop,hnl] at hlen' ⊢
  rw [Nat.add_mul]; omega
 ·have hoff:Hp.off (fun d=>if d = gg then some (.cells ((cs'.take (o * Enc.sz α) ++ news ++ cs'.drop ((o + m) * Enc.sz α)) ++ sp').toArray e (0,0)) else p d) gg = p.off gg:=by
   funext d; unfold Hp.off; split <;> simp_all
  rw [hoff]
  exact ((hr'.take o).append hrn.any).append (hr'.drop (o + m))
 ·dsimp only at hdo
  split at hdo
  ·rename_i hdb; subst hdb; cases hdo
   exact ⟨.inl (by rw [hgp']; simp),setRow_heap w d _ _ e (0,0) (hlp _ _ hgp')⟩
  ·rename_i hdb
   exact ⟨.inl (by rw [hdo]; simp),by rw [setRow_other w gg d _ hdb]; exact hlp _ _ hdo⟩
end
end Go.Vg
set_option linter.unusedSimpArgs false
set_option linter.unusedVariables false
namespace Go.Vg
open Enc (R)

section
variable {P:Program} {n:Nat} {fr:Fr} {dst:Option Tmp} {ty:TypeId} {pos:String} {aft:Array Edge} {g:Option (Nat × Bool)} {S:As} {w0:World} {G:List Ch} {Q:Po}
theorem Cont.retC {fn:Func} {R:Ending→World→Prop} {t ty sz b:Nat} {e:TypeId} {cs:List Value} (k:Nat) (hr:fn.results = #[.cell t ty]) (ht:tySz P ty = some (sz,true)) (hv:look fr t = some (.pointer (some ⟨b,0,none⟩)))
  (hk:G[k]? = some (blk b cs e)) (hl:cs.length = sz) (h:∀ w,Sat w0 G w→R (.returned (.agg cs.toArray)) w):Cont n (bodyPost P fn R .ret) fr (Sat w0 G):=fun a w kn s=>by
 have hld:=run_loadVarA (P:=P) (w:=w) (b:=b) (o:=0) ht hl (fun j v hj=>by
  have:=(s.getBlk hk).1
  simp [World.cell?,this,hj])
 have hp:=kn.getD hv
 refine bodyPost_ret (v:=.agg cs.toArray) ?_ kn.defers (h w s)
 have hp':a.tmps[t]?.getD undef = .pointer (some ⟨b,0,none⟩):=by simpa [Array.getD_eq_getD_getElem?] using hp
 simp [results,hr,hp',asAddr,hld]

def nums (L:List Int):List Value:=L.map (.int .i64)
theorem nums_get {L:List Int} {j:Int} (h:0 ≤ j∧j < L.length):(nums L)[j.toNat]? = some (.int .i64 (gi L j)):=by
 unfold nums; rw [List.getElem?_map,gi_get h]; rfl
theorem Qt.ldAr (k:Nat) {t e:TypeId} {x:Operand} {b sz:Nat} {ji:Int} {L:List Int} (ht:tySz P t = some (1,false)) (hx:ev fr x = some (.pointer (some ⟨b,0 + ji.toNat * sz,none⟩))) (hsz:sz = 1) (hk:G[k]? = some (blk b (nums L) e)) (hj:0 ≤ ji∧ji < L.length) :
  Qt P n ⟨dst,.load t x,ty,pos,aft,g⟩ fr (Sat w0 G) (.int .i64 (gi L ji)):=Qt.ld ht hx fun w s=>by
 subst hsz
 have:=nums_get hj
 simp [World.cell?,(s.getBlk hk).1,this]
theorem Pu.eqNilSl {xt yt e:TypeId} {x:Operand} {p:Option Addr} {l c:Nat} (ht:P.underlying xt = some (.slice e)) (hx:ev fr x = some (.slice p l c)) :
  Pu P n ⟨dst,.binOp .eql xt x (.const (.slice none 0 0)) yt,ty,pos,aft,g⟩ fr (.bool p.isNone):=fun ac kn w=>by
 have h:=Go.run_equal_slice_nil (P:=P) (w:=w) xt e p l c ht
 have hc:ac.eval (.const (.slice none 0 0)) = .slice none 0 0:=rfl
 simp [execOp,kn.ev hx,hc,eqGuard,binOp,h]
theorem Sd.lit0 {α:Type} [Enc α] {t e:TypeId} {by':Nat} {B:Hp} (ht:slTy P t = some (e,Enc.sz α,by')) :
  Sd P n ⟨dst,.buildSlice t 0 #[],ty,pos,aft,g⟩ fr (Sat w0 G) (fun b:Nat=>.slice (some ⟨b,0,none⟩) 0 0) (fun b=>Sat w0 (G ++ [row B e (.slice (some ⟨b,0,none⟩) 0 0) ([]:List α)])):=fun a w k s=>by
 obtain ⟨hu,i,hi,hsz,_⟩:=slTy_spec ht
 have:(execOp a.eval ⟨dst,.buildSlice t 0 #[],ty,pos,aft,g⟩).run P w = .ok (.value (.slice (some ⟨w.heap.size,0,none⟩) 0 0)) (w.alloc (.cells ([] ++ []:List Value).toArray e)):=by
  simp [execOp,Instr.buildSlice,run_underlying hu,run_sizeOf_info hi,Instr.fill,newRow]
  have hz:(Array.range 0).size = 0:=by simp
  rw [Array.eq_empty_of_size_eq_zero (xs:=Array.map _ (Array.range 0)) (by rw [Array.size_map]; exact hz)]
 rw [this]
 exact ⟨w.heap.size,rfl,s.newRow (α:=α) rfl (Ext.refl w) B e [] [] 0 [] (Nat.le_refl _) (Nat.zero_le _) (by simp) rfl⟩
theorem Sd.appB {α:Type} [Enc α] [Flat α] (k:Nat) {B:Hp} (hB:∀ b o,B b = some o→b < w0.heap.size) {x y:Operand} {t e:TypeId} {by':Nat} {z v:Value} {xs ys:List α} {q:Addr} {m c:Nat} (hk:G[k]? = some (row B e v xs))
  (ht:slTy P t = some (e,Enc.sz α,by')) (hz:zeroOf P e = some z) (hzs:z.cells.size = Enc.sz α) (hx:ev fr x = some v) (hy:ev fr y = some (.slice (some q) m c)) (hR:R (hpOf w0) ys [.slice (some q) m c])
  (hbytes:(xs.length + m) * by' ≤ 140737488355328) (h63:xs.length + m ≤ maxLen) :
  Sd P n ⟨dst,.call { callee:=.builtin .append,args:=#[x,y],argTypes:=#[t,t] },ty,pos,aft,g⟩ fr (Sat w0 G) (fun q=>rowV q (xs.length + m)) (fun q=>Sat w0 (G.set k (row B e (rowV q (xs.length + m)) (xs ++ ys)))):=by
 obtain ⟨p',cap',e',s1,s2,s3⟩:=hR
 simp only [List.cons.injEq,Value.slice.injEq,and_true] at e'
 obtain ⟨rfl,rfl,rfl⟩:=e'
 rcases s3 with rfl | ⟨b,o,cs,hq,hr,ha⟩
 ·exact Sd.app (ys:=[]) (news:=[]) k hk hB ht hz hzs hx hy (rowAnd_flat (h0:=nilH) (by simp [RF])) rfl (fun w s j u hj=>by simp at hj) hbytes h63
 ·cases hq
  exact Sd.app (news:=cs) k hk hB ht hz hzs hx hy (rowAnd_flat hr) rfl (fun w s j u hj=>by rw [add_lit]; exact (ha.mono s.ext.hp).cell hj) hbytes h63
end
end Go.Vg
set_option linter.unusedSimpArgs false
set_option linter.unusedVariables false
namespace Go.Vg
open Go.ChangeShapes Go.WideShapes Go.RowKit
open Enc (R)

def structOf (P:Program) (t:TypeId):Option (List (Nat × Nat)):=match P.underlying t with
  | some (.struct fs)=>some (fs.toList.map fun f=>(f.type,f.offset))
  | _=>none
theorem structOf_spec {P:Program} {t:TypeId} {l:List (Nat × Nat)} (h:structOf P t = some l):∃ fs,P.underlying t = some (.struct fs)∧fs.toList.map (fun f=>(f.type,f.offset)) = l:=by
 unfold structOf at h
 split at h
 ·rename_i fs hu; exact ⟨fs,hu,Option.some.inj h⟩
 ·cases h

def Zd {H:Type} (P:Program) (t:TypeId) (d:DataW H):Prop:=∀ n ∈ d.weights P t,n ≤ reachBytes
theorem Zd.each {H:Type} {P:Program} {ts:List TypeId} {ds:List (DataW H)} (h:(DataW.weightsEach P ts ds).all (· ≤ reachBytes) = true) {j:Nat} {t:TypeId} {d:DataW H} (ht:ts[j]? = some t) (hd:ds[j]? = some d):Zd P t d:=fun n hn=>by
 have:=List.all_eq_true.1 h n (DataW.weights_mem_each ht hd n hn)
 simpa using this
theorem weights_mem_all {H:Type} {P:Program} {e:TypeId} {d:DataW H} {n:Nat} (hn:n ∈ d.weights P e):∀ {l:List (DataW H)},d ∈ l→n ∈ DataW.weightsAll P e l
 | x :: l,h=>by
  rw [DataW.weightsAll,List.mem_append]
  rcases List.mem_cons.1 h with rfl | h
  ·exact .inl hn
  ·exact .inr (weights_mem_all hn h)
def Rdbl (P:Program) (t:TypeId) (α:Type) [Enc α] (Wf:α→Prop):Prop :=
  ∀ (H:Type) (enc:TypeId × Value→H) (w:World) (fuel:Nat) (cs:List Value) (x:DataW H × List MemPlace),DataW.trod enc P w 0 (fun _=>true) true fuel t cs = some x→Zd P t x.1→∃ a:α,R (hpOf w) a cs∧Wf a

def I64 (i:Int):Prop:=-9223372036854775808 ≤ i∧i ≤ 9223372036854775807

section
variable {P:Program} {t:TypeId}
theorem Rdbl.int (ht:P.underlying t = some (.int .i64)):Rdbl P t Int I64:=fun H enc w fuel cs x h _=>by
 obtain ⟨i,e,_,hw⟩:=DataW.trod_int ht h
 refine ⟨i,e,?_⟩
 simpa [Lit.wf,IntKind.min,IntKind.max,IntKind.signed,IntKind.bits,I64] using hw
theorem Rdbl.u8 (ht:P.underlying t = some (.int .u8)):Rdbl P t UInt8 (fun _=>True):=fun H enc w fuel cs x h _=>by
 obtain ⟨i,e,_,hw⟩:=DataW.trod_int ht h
 have hw':0 ≤ i∧i ≤ 255:=by simpa [Lit.wf,IntKind.min,IntKind.max,IntKind.signed,IntKind.bits] using hw
 refine ⟨UInt8.ofNat i.toNat,?_,trivial⟩
 show cs = [.int .u8 ((UInt8.ofNat i.toNat).toNat:Int)]
 rw [e]
 simp only [UInt8.toNat_ofNat']
 rw [Nat.mod_eq_of_lt (by omega)]
 congr 2; omega
theorem Rdbl.bool (ht:P.underlying t = some .bool):Rdbl P t Bool (fun _=>True):=fun H enc w fuel cs x h _=>by
 obtain ⟨b,e,_⟩:=DataW.trod_bool ht h
 exact ⟨b,e,trivial⟩
theorem Rdbl.mono {α:Type} [Enc α] {W W':α→Prop} (h:Rdbl P t α W) (hw:∀ a,W a→W' a):Rdbl P t α W':=fun H enc w fuel cs x hx hz =>
 let ⟨a,ha,hb⟩:=h H enc w fuel cs x hx hz; ⟨a,ha,hw a hb⟩

theorem Rdbl.part {α:Type} [Enc α] {Wf:α→Prop} {ft:TypeId} (hf:Rdbl P ft α Wf) {H:Type} {enc:TypeId × Value→H} {w:World} {n:Nat} {cs:List Value} {x:DataW H × List MemPlace}
  (h:DataW.trod enc P w 0 (fun _=>true) true n ft cs = some x∧Zd P ft x.1):∃ a:α,R (hpOf w) a cs∧Wf a:=hf H enc w n cs x h.1 h.2
theorem trod_field {fs:Array Field} (ht:P.underlying t = some (.struct fs)) {H:Type} {enc:TypeId × Value→H} {w:World} {n:Nat} {cs:List Value} {x:DataW H × List MemPlace}
  (h:DataW.trod enc P w 0 (fun _=>true) true n t cs = some x) (hz:Zd P t x.1):cs.length = P.cellsOf t∧∃ m,∀ (i:Nat) (f:Field),fs[i]? = some f→∃ y,DataW.trod enc P w 0 (fun _=>true) true m f.type ((cs.drop f.offset).take (P.cellsOf f.type)) = some y∧Zd P f.type y.1:=by
 obtain ⟨xs,m,_,hx,hl,hlen,hf⟩:=DataW.trod_struct ht h
 refine ⟨hl,m,fun i f hi=>?_⟩
 have hlt:i < xs.length:=by rw [hlen]; exact (Array.getElem?_eq_some_iff.1 hi).1
 refine ⟨xs[i],by rw [hf i f hi,List.getElem?_eq_getElem hlt],fun q hq=>hz q ?_⟩
 rw [hx]
 show q ∈ DataW.weights P t (.agg (xs.map (·.1)))
 rw [DataW.weights,ht]
 exact DataW.weights_mem_each (j:=i) (t:=f.type) (by rw [List.getElem?_map,Array.getElem?_toList,hi]; rfl) (by rw [List.getElem?_map,List.getElem?_eq_getElem hlt]; rfl) q hq

theorem RF_of {α:Type} [Enc α] {Wf:α→Prop} {w:World} {b:Nat} {c:Array Value} {ty:TypeId} {fz:Nat × Nat} (hb:w.heap[b]? = some (.cells c ty fz)):∀ (len o:Nat),
  (∀ i,i < len→∃ (a:α) (cs:List Value),R (hpOf w) a cs∧Wf a∧∀ j,j < Enc.sz α→w.cell? ⟨b,o + i * Enc.sz α + j,none⟩ = cs[j]?) →
  ∃ (xs:List α) (cs:List Value),xs.length = len∧RF (hpOf w) xs cs∧(∀ x ∈ xs,Wf x)∧∀ j v,cs[j]? = some v→c[o + j]? = some v
 | 0,o,_=>⟨[],[],rfl,rfl,fun _ h=>by simp at h,fun j v h=>by simp at h⟩
 | n + 1,o,h=>by
  obtain ⟨a,cs,ha,hw,hc⟩:=h 0 (by omega)
  obtain ⟨xs,ds,hl,hr,hwf,hd⟩:=RF_of hb n (o + Enc.sz α) (fun i hi=>by
   obtain ⟨a,cs,h1,h2,h3⟩:=h (i + 1) (by omega)
   refine ⟨a,cs,h1,h2,fun j hj=>?_⟩
   have:=h3 j hj
   rwa [show o + (i + 1) * Enc.sz α + j = o + Enc.sz α + i * Enc.sz α + j by rw [Nat.add_mul]; omega] at this)
  have hcl:=Enc.len ha
  refine ⟨a :: xs,cs ++ ds,by simp [hl],⟨cs,ds,rfl,ha,hr⟩,fun x hx=>?_,fun j v hj=>?_⟩
  ·rcases List.mem_cons.1 hx with rfl | hx
   ·exact hw
   ·exact hwf x hx
  ·rw [List.getElem?_append] at hj
   split at hj
   ·have:=hc j (by omega)
    rw [hj] at this
    simp only [World.cell?,hb,Option.isSome_none,Bool.false_eq_true,if_false] at this
    rwa [show o + 0 * Enc.sz α + j = o + j by omega] at this
   ·have:=hd (j - cs.length) v hj
    rwa [show o + Enc.sz α + (j - cs.length) = o + j by omega] at this

theorem Rdbl.slice {e:TypeId} {α:Type} [Enc α] {Wf:α→Prop} (ht:P.underlying t = some (.slice e)) (hs:P.cellsOf e = Enc.sz α) (h0:0 < Enc.sz α) (he:Rdbl P e α Wf) (hbz:decide (0 < P.bytesOf e) = true):Rdbl P t (List α) (fun l=>(∀ x ∈ l,Wf x)∧l.length ≤ 140737488351232):=fun H enc w fuel cs x h hzd=>by
 rcases Go.Deep.open_slice ht h with ⟨rfl,_⟩ | ⟨a,len,cap,m,n,D,Pl,rfl,hb,hl,hm,hmm,hxe,hx⟩
 ·exact ⟨[],⟨none,0,rfl,by simp,by simp,.inl rfl⟩,fun x h=>by simp at h,by simp⟩
 ·rw [hs] at hx
  rw [hxe] at hzd
  have hzw:DataW.weights P t (.slice ((List.range len).map D) ((List.range (m - len)).map fun j=>D (len + j))) = (((List.range len).map D).length + ((List.range (m - len)).map fun j=>D (len + j)).length) * P.bytesOf e :: (DataW.weightsAll P e ((List.range len).map D) ++ DataW.weightsAll P e ((List.range (m - len)).map fun j=>D (len + j))):=by rw [DataW.weights,ht]
  have hlb:len ≤ 140737488351232:=by
   have h1:=hzd _ (by show _ ∈ DataW.weights P t _; rw [hzw]; exact List.mem_cons_self)
   simp only [List.length_map,List.length_range] at h1
   have h2:0 < P.bytesOf e:=of_decide_eq_true hbz
   have h3:len * 1 ≤ (len + (m - len)) * P.bytesOf e:=Nat.mul_le_mul (Nat.le_add_right _ _) h2
   unfold reachBytes at h1
   omega
  have hez:∀ i,i < len→Zd P e (D i):=fun i hi q hq=>hzd q (by
   show _ ∈ DataW.weights P t _
   rw [hzw]
   exact List.mem_cons_of_mem _ (List.mem_append_left _ (weights_mem_all hq (List.mem_map.2 ⟨i,List.mem_range.2 hi,rfl⟩))))
  by_cases hz:len = 0
  ·subst hz
   exact ⟨[],⟨some a,cap,rfl,by simp,hm,.inl rfl⟩,fun x h=>by simp at h,by simp⟩
  ·obtain ⟨b,o,spot⟩:=a
   have hmc:len ≤ m:=by rw [hmm]; split <;> omega
   obtain ⟨cs0,hc0,_⟩:=hx 0 (by omega)
   obtain ⟨_,hlen0,hcell0⟩:=World.cells?_some hc0
   have h00:=hcell0 0 (by omega)
   have hsp:spot = none:=by
    have hlt:0 < cs0.length:=by omega
    rw [List.getElem?_eq_getElem hlt] at h00
    have:=World.cell?_spot h00
    simpa [Addr.add] using this
   subst hsp
   obtain ⟨c,ty,fz,hbk⟩:∃ c ty fz,w.heap[b]? = some (.cells c ty fz):=by
    rw [List.getElem?_eq_getElem (by omega)] at h00
    simp only [World.cell?,Addr.add,Nat.zero_mul,if_true] at h00
    split at h00
    ·rename_i c ty fz hh; exact ⟨c,ty,fz,hh⟩
    ·cases h00
   obtain ⟨xs,ds,hxl,hr,hwf,hd⟩:=RF_of (α:=α) (Wf:=Wf) hbk len o (fun i hi=>by
    obtain ⟨cs',hc',ht'⟩:=hx i (by omega)
    obtain ⟨_,hlen',hcell'⟩:=World.cells?_some hc'
    obtain ⟨a,ha,hw⟩:=he H enc w n cs' _ ht' (hez i hi)
    refine ⟨a,cs',ha,hw,fun j hj=>?_⟩
    rw [← hcell' j hj,Go.Deep.add_add]
    unfold Addr.add
    split
    ·rename_i h0; rw [show o + i * Enc.sz α + j = o by omega]
    ·rw [show o + i * Enc.sz α + j = o + (i * Enc.sz α + j) by omega])
   refine ⟨xs,⟨some ⟨b,o,none⟩,cap,by rw [hxl],by omega,hm,.inr ⟨b,o,ds,rfl,hr,⟨c,ty,fz,hbk,hd⟩⟩⟩,hwf,by rw [hxl]; exact hlb⟩

theorem Rdbl.arg {α:Type} [Enc α] {Wf:α→Prop} (h:Rdbl P t α Wf) {H:Type} {enc:TypeId × Value→H} {w:World} {v:Value} {d:DataW H} {ps:List MemPlace}
  (hv:DataW.Trod enc P w 0 (fun _=>true) true t v d ps) (hz:Zd P t d):∃ a:α,R (hpOf w) a v.cells.toList∧Wf a:=let ⟨n,hn⟩:=hv; h H enc w n _ _ hn hz
end


theorem trodAll_ext {H:Type} {enc:TypeId × Value→H} {P:Program} (hl:laidOutB P = true) {W W':World} (hb:Ext W W'):∀ {ts:List TypeId} {vs:List Value} {ds:List (DataW H)} {ps:List MemPlace},
  (ts.all fun t=>P.readableRec t && decide (t < P.types.size)) = true→(∀ x ∈ ps,x.block < W.heap.size)→DataW.TrodAll enc P W 0 (fun _=>true) true ts vs ds ps →
  DataW.TrodAll enc P W' 0 (fun b=>decide (b < W.heap.size)) true ts vs ds ps
 | [],vs,ds,ps,_,_,h=>by obtain ⟨rfl,rfl,rfl⟩:=trodAll_nil h; exact rfl
 | t :: ts,vs,ds,ps,ht,hp,h=>by
  obtain ⟨v,vs1,d,ds1,a,b,rfl,rfl,rfl,h1,h2⟩:=trodAll_cons h
  simp only [List.all_cons,Bool.and_eq_true,decide_eq_true_eq] at ht
  exact ⟨a,b,Below.trod hl ht.1.1 ht.1.2 h1 hb (fun x hx=>hp x (List.mem_append_left _ hx)),
   trodAll_ext hl hb (by simpa using ht.2) (fun x hx=>hp x (List.mem_append_right _ hx)) h2,rfl⟩

theorem post_ext {H:Type} {enc:TypeId × Value→H} {P:Program} (hl:laidOutB P = true) {f:Func} {s:ChangeSpec} {W W':World} {args:Array Value} {v:Value} {ds gs:List (DataW H)} {before:List MemPlace}
  (hp:(f.params.toList.all fun t=>P.readableRec t && decide (t < P.types.size)) = true)
  (hW:DataW.Whole enc P f.params.toList s.vars false W args.toList ds gs before)
  (hres:DataW.TrodAll enc P W' W.heap.size (fun _=>false) false f.resultTypes.toList (v.resultList f.resultTypes.size) (s.fn H (ds ++ gs)).results [])
  (hargs:(s.fn H (ds ++ gs)).args = ds) (hv0:s.vars = []) (hv1:(s.fn H (ds ++ gs)).vars = []) (hb:Ext W W') :
  s.post enc P f false true false false W args v W':=by
 have hlt:=hW.lt
 obtain ⟨p,q,hA,hV,rfl,hfz,hnd⟩:=hW
 rw [hv0] at hV
 have hV':=hV
 obtain ⟨rfl,rfl⟩:=trodVars_none hV
 refine ⟨ds,[],p ++ [],[],p,[],⟨p,[],hA,by rw [hv0]; exact hV',rfl,hfz,hnd⟩,hres,?_,?_,hb.frame _,fun h=>by cases h⟩
 ·rw [hargs]
  exact trodAll_ext hl hb hp (fun x hx=>hlt x (by simpa using hx)) hA
 ·rw [hv1,hv0]; rfl

end Go.Vg
