/-
  Texts of one's own, joined: VI VJ VK VH VL VQ VM VN VR.
-/
import Derived.Test.YtmngdgclldkcfaaGreatW1
import Derived.Laws.CopyRow
import Derived.Laws.Shifts
import Derived.Laws.Cover3
import Derived.Test.YtmngdgclldkcfaaGreatRows
import Derived.WalkKit
import Derived.ProofKit
import Derived.OpenShut
import Derived.Carry
import Derived.ChangeArms
import Derived.ChangeSame
import Derived.DataReads
import Derived.Deep.Slices
import Derived.SizedLaws
import Derived.Laws.LoneSync
import Derived.MapKept
import Derived.Lib.Overlaps
import Derived.Lib.AppendZerosOnto
import Derived.Laws.StructEq
set_option linter.unusedSimpArgs false
set_option linter.unusedVariables false
namespace Go.Vg
open Enc (R)

def gi {α:Type} [Inhabited α] (xs:List α) (j:Int):α:=xs.getD j.toNat default
def si {α:Type} (xs:List α) (j:Int) (x:α):List α:=xs.set j.toNat x
section
variable {α:Type} [Inhabited α] {xs ys:List α} {j k:Int} {x:α}
theorem gi_get (h:0 ≤ j∧j < xs.length):xs[j.toNat]? = some (gi xs j):=by
  have hl:j.toNat < xs.length:=by omega
  simp [gi,List.getD,List.getElem?_eq_getElem hl]
theorem ne_of_pos {α:Type} {xs:List α} (h:0 < xs.length):xs ≠ []:=by rintro rfl; simp at h
theorem gi_mem (h:0 ≤ j∧j < xs.length):gi xs j ∈ xs:=List.mem_of_getElem? (gi_get h)
theorem len_si {α:Type} {xs:List α} {j:Int} {x:α}:(si xs j x).length = xs.length:=by simp [si]
theorem gi_si_self (h:0 ≤ j∧j < xs.length):gi (si xs j x) j = x:=by
  have hl:j.toNat < xs.length:=by omega
  simp [gi,si,List.getD,List.getElem?_set,hl]
theorem gi_si_ne (h0:0 ≤ j) (h1:0 ≤ k) (h:j ≠ k):gi (si xs j x) k = gi xs k:=by
  have hl:j.toNat ≠ k.toNat:=by omega
  simp [gi,si,List.getD,List.getElem?_set_ne hl]
theorem gi_append_left (h:0 ≤ j∧j < xs.length):gi (xs ++ ys) j = gi xs j:=by
  have hl:j.toNat < xs.length:=by omega
  simp [gi,List.getD,List.getElem?_append_left hl]
theorem gi_append_at:gi (xs ++ [x]) (xs.length:Int) = x:=by simp [gi,List.getD]
theorem gi_replicate {n:Nat} (h:0 ≤ j∧j < n):gi (List.replicate n x) j = x:=by
  have hl:j.toNat < n:=by omega
  simp [gi,List.getD,List.getElem?_replicate,hl]
theorem ext_gi (hl:xs.length = ys.length) (h:∀ i:Int,0 ≤ i→i < xs.length→gi xs i = gi ys i):xs = ys:=by
  apply List.ext_getElem hl
  intro i h1 h2
  have:=h i (by omega) (by omega)
  simpa [gi,List.getD,List.getElem?_eq_getElem h1,List.getElem?_eq_getElem h2] using this
end

section
variable {P:Program} {n:Nat} {fr:Fr} {dst:Option Tmp} {ty:TypeId} {pos:String} {aft:Array Edge} {g:Option (Nat × Bool)} {S:As} {w0:World} {G:List Ch} {Q:Po}
theorem Qt.ldF {α:Type} [Enc α] [Inhabited α] {t:TypeId} {x:Operand} {xs:List α} {b o len cap sz f:Nat} {ji:Int} {v:Value} (hR:Rd S xs [.slice (some ⟨b,o,none⟩) len cap]) (ht:tySz P t = some (1,false))
    (hx:ev fr x = some (.pointer (some ⟨b,o + ji.toNat * sz + f,none⟩))) (hsz:sz = Enc.sz α) (hj:0 ≤ ji∧ji < xs.length) (hv:∀ h c,R h (gi xs ji) c→c[f]? = some v) :
    Qt P n ⟨dst,.load t x,ty,pos,aft,g⟩ fr S v:=Qt.ldE hR (gi_get hj) ht hx (by rw [hsz]) hv
theorem Qt.ld0 {α:Type} [Enc α] [Inhabited α] {t:TypeId} {x:Operand} {xs:List α} {b o len cap sz:Nat} {ji:Int} {v:Value} (hR:Rd S xs [.slice (some ⟨b,o,none⟩) len cap]) (ht:tySz P t = some (1,false))
    (hx:ev fr x = some (.pointer (some ⟨b,o + ji.toNat * sz,none⟩))) (hsz:sz = Enc.sz α) (hj:0 ≤ ji∧ji < xs.length) (hv:∀ h c,R h (gi xs ji) c→c[0]? = some v) :
    Qt P n ⟨dst,.load t x,ty,pos,aft,g⟩ fr S v:=Qt.ldE (j:=0) hR (gi_get hj) ht hx (by rw [hsz]; omega) hv
theorem Qt.ldW {α:Type} [Enc α] [Inhabited α] {t s:TypeId} {x:Operand} {xs:List α} {b o len cap sz:Nat} {ji:Int} {cs:List Value} (hR:Rd S xs [.slice (some ⟨b,o,none⟩) len cap]) (ht:tySz P t = some (s,true))
    (hx:ev fr x = some (.pointer (some ⟨b,o + ji.toNat * sz,none⟩))) (hsz:sz = Enc.sz α) (hj:0 ≤ ji∧ji < xs.length) (hl:cs.length = s) (hv:∀ h c,R h (gi xs ji) c→c = cs) :
    Qt P n ⟨dst,.load t x,ty,pos,aft,g⟩ fr S (.agg cs.toArray):=Qt.ldEA hR (gi_get hj) ht hx (by rw [hsz]) hl hv
theorem Sd.st0 {α:Type} [Enc α] [Inhabited α] (k:Nat) {t e:TypeId} {B:Hp} {x y:Operand} {xs:List α} {b cap s sz len:Nat} {ji:Int} {gg:Bool} (x1:α) {v:Value} {us:List Value} (hk:G[k]? = some (row B e (.slice (some ⟨b,0,none⟩) len cap) xs)) (ht:tySz P t = some (s,gg))
    (hx:ev fr x = some (.pointer (some ⟨b,0 + ji.toNat * sz,none⟩))) (hy:ev fr y = some v) (hsz:sz = Enc.sz α) (hj:0 ≤ ji∧ji < xs.length) (hv:v.cells.toList = us) (hl:us.length = s) (hle:s ≤ Enc.sz α)
    (h1:us.all (·.oneCell') = true) (hn:∀ h c,R h (gi xs ji) c→R h x1 (c.take 0 ++ us ++ c.drop (0 + s))) :
    Sd P n ⟨none,.store t x y,ty,pos,aft,g⟩ fr (Sat w0 G) (fun _:Unit=>undef) (fun _=>Sat w0 (G.set k (row B e (.slice (some ⟨b,0,none⟩) len cap) (si xs ji x1)))) :=
  Sd.stE k (j:=0) hk (gi_get hj) ht hx hy (by rw [hsz]; omega) hv hl (by omega) h1 hn
theorem Sat.row_fits {α:Type} [Enc α] {w:World} {k m:Nat} {B:Hp} {e:TypeId} {q:Option Nat × Nat} {xs:List α} (h:Sat w0 G w) (hk:G[k]? = some (row B e (rowV q m) xs)):m = xs.length∧m ≤ q.2∧q.2 ≤ maxLen:=by
  obtain ⟨p,hp,_⟩:=h.get k hk
  rcases hp with ⟨hv,rfl⟩ | ⟨g,cap,cs,sp,hv,_,hle,hm,_⟩
  · simp only [rowV,Value.slice.injEq] at hv
    obtain ⟨_,rfl,h2⟩:=hv
    rw [h2]; exact ⟨rfl,Nat.le_refl _,Nat.zero_le _⟩
  · simp only [rowV,Value.slice.injEq] at hv
    obtain ⟨_,rfl,h2⟩:=hv
    rw [h2]; exact ⟨rfl,hle,hm⟩

theorem R_max {α:Type} [Enc α] {h:Hp} {xs:List α} {v:Value} (hr:R h xs [v]):xs.length ≤ 9223372036854775807:=by
  obtain ⟨p,cap,e,h1,h2,_⟩:=hr
  unfold maxLen at h2; omega

theorem mul_bd {a b A B:Int} (ha:0 ≤ a∧a ≤ A) (hb:0 ≤ b∧b ≤ B):0 ≤ a * b∧a * b ≤ A * B :=
  ⟨Int.mul_nonneg ha.1 hb.1,Int.mul_le_mul ha.2 hb.2 hb.1 (by omega)⟩

theorem T.xt {P:Program} {n:Nat} {fr:Fr} {S:As} {Q:Po} {id:Nat} {K:Act→World→Prop} (h:Cont n K fr S) (he:ExTo id Q K:=by with_reducible (repeat (first | exact ExTo.here | exact ExTo.hereN | exact ExTo.deep (by repeat (first | exact NmTo.seq | apply NmTo.blk)) | apply ExTo.seq | refine ExTo.past (by decide) ?_))):T P n (.exit id) fr S Q:=T.exitTo he h

theorem T.loopK {σ:Type} (kept:Fr) (FW:σ→Fr) (SS:σ→As) (I:σ→Prop) (m:σ→Nat) {c:Code} (x0:σ) (hi:I x0) (hk:Sub fr kept) (h0:Sub fr (FW x0 ++ kept)) (hs:∀ w,S w→SS x0 w)
    (round:∀ x,I x→∀ K:Act→World→Prop,(∀ fr' S' x',I x'→m x' < m x→Sub fr' (FW x' ++ kept)→(∀ w,S' w→SS x' w)→Cont n K fr' S')→T P n c (FW x ++ kept) (SS x) (Exit.then K Q)):T P n (.loop c) fr S Q :=
  T.loop (fun x=>FW x ++ kept) SS I m x0 hi h0 hs round
theorem T.loopC {σ:Type} (kept:Fr) (FW:σ→Fr) (I:σ→Prop) (m:σ→Nat) {c:Code} (x0:σ) (hi:I x0) (hk:Sub fr kept) (h0:Sub fr (FW x0 ++ kept))
    (round:∀ x,I x→∀ K:Act→World→Prop,(∀ fr' S' x',I x'→m x' < m x→Sub fr' (FW x' ++ kept)→(∀ w,S' w→S w)→Cont n K fr' S')→T P n c (FW x ++ kept) S (Exit.then K Q)):T P n (.loop c) fr S Q :=
  T.loop (fun x=>FW x ++ kept) (fun _=>S) I m x0 hi h0 (fun _ s=>s) round
theorem Sub.app {fr kept:Fr}:∀ {FW:Fr},Sub fr FW→Sub fr kept→Sub fr (FW ++ kept)
  | [],_,h=>h
  | _ :: _,h,k=>⟨h.1,Sub.app h.2 k⟩

theorem Sat.rot {A:Ch} {w:World} (s:Sat w0 (A :: G) w):Sat w0 (G ++ [A]) w:=by
  obtain ⟨e,own,h2⟩:=s
  refine ⟨e,fun b=>if own b = 0 then G.length else own b - 1,fun i C hi=>?_⟩
  rw [List.getElem?_append] at hi
  split at hi
  · obtain ⟨p,hp,hb⟩:=h2 (i + 1) C (by simpa using hi)
    refine ⟨p,hp,fun b o hbo=>?_⟩
    obtain ⟨a1,a2,a3⟩:=hb b o hbo
    exact ⟨a1,by simp [a2],a3⟩
  · rename_i hge
    have h0:i = G.length:=by
      rcases Nat.lt_or_ge (i - G.length) 1 with h | h
      · omega
      · rw [List.getElem?_eq_none (by simpa using h)] at hi; cases hi
    subst h0
    simp at hi; subst hi
    obtain ⟨p,hp,hb⟩:=h2 0 A rfl
    refine ⟨p,hp,fun b o hbo=>?_⟩
    obtain ⟨a1,a2,a3⟩:=hb b o hbo
    exact ⟨a1,by simp [a2],a3⟩
theorem Sat.rotB {A:Ch} {w:World} (s:Sat w0 (G ++ [A]) w):Sat w0 (A :: G) w:=by
  obtain ⟨e,own,h2⟩:=s
  refine ⟨e,fun b=>if own b = G.length then 0 else own b + 1,fun i C hi=>?_⟩
  cases i with
  | zero =>
    simp at hi; subst hi
    obtain ⟨p,hp,hb⟩:=h2 G.length A (by simp)
    refine ⟨p,hp,fun b o hbo=>?_⟩
    obtain ⟨a1,a2,a3⟩:=hb b o hbo
    exact ⟨a1,by simp [a2],a3⟩
  | succ i =>
    have hi':G[i]? = some C:=by simpa using hi
    have hlt:=(List.getElem?_eq_some_iff.1 hi').1
    obtain ⟨p,hp,hb⟩:=h2 i C (by rw [List.getElem?_append_left hlt]; exact hi')
    refine ⟨p,hp,fun b o hbo=>?_⟩
    obtain ⟨a1,a2,a3⟩:=hb b o hbo
    refine ⟨a1,?_,a3⟩
    show (if own b = G.length then 0 else own b + 1) = i + 1
    rw [a2,if_neg (by omega)]
def stars:List Ch→Ch
  | []=>fun _=>True
  | A :: L=>star A (stars L)
theorem Sat.unstars {w:World}:∀ (L:List Ch) {G:List Ch},Sat w0 (stars L :: G) w→Sat w0 (G ++ L) w
  | [],G,s=>by rw [List.append_nil]; exact s.rot.drop1
  | A :: L,G,s=>by
    have h1:Sat w0 ((stars L :: G) ++ [A]) w:=(Sat.unstar (A:=A) (B:=stars L) s).rot
    have h2:=Sat.unstars L (G:=G ++ [A]) (by simpa using h1)
    simpa using h2
theorem Sat.toStars {w:World}:∀ (L:List Ch) {G:List Ch},Sat w0 (G ++ L) w→Sat w0 (stars L :: G) w
  | [],G,s=>by
    rw [List.append_nil] at s
    exact (s.addEmpty (stars []) (fun p=>trivial)).rotB
  | A :: L,G,s=>by
    have h1:=Sat.toStars L (G:=G ++ [A]) (by simpa using s)
    have h2:Sat w0 ((stars L :: G) ++ [A]) w:=by simpa using h1
    exact h2.rotB.toStar
def pk (G:List Ch) (f:List Nat):List Ch:=f.filterMap (G[·]?)
theorem T.drawnS {id:Nat} (f:List Nat) {ops:Array Oper} (plan:List (Nat × Kd)) (hm:P.follows .mixedOrders = true) (hp:(planOk ops (Array.replicate ops.size false) plan && noSel ops && plan.length == ops.size && (plan.all fun (i,k)=>plan.lookup i == some k)) = true)
    {H:List Ch} (hH:pk G f = H) (h:RD P n ops Q plan (Sat w0 H) plan fr (Sat w0 G)):T P n (.region id ops true) fr (Sat w0 G) Q:=by
  exact T.drawn _ plan hm (ClE.sat _ _) hp h
end
end Go.Vg
set_option linter.unusedSimpArgs false
set_option linter.unusedVariables false
namespace Go.Vg
open Enc (R)

section
variable {P:Program} {n:Nat} {fr:Fr} {dst:Option Tmp} {ty:TypeId} {pos:String} {aft:Array Edge} {g:Option (Nat × Bool)} {S:As} {w0:World} {G:List Ch} {Q:Po}
theorem wrapU (a:Int) (h:0 ≤ a∧a < 18446744073709551616):IntKind.u64.wrap a = a:=by
  simp [IntKind.wrap,IntKind.bits,IntKind.signed]; omega
theorem Pu.addU {xt yt:TypeId} {x y:Operand} {a b:Int} (hx:ev fr x = some (.int .u64 a)) (hy:ev fr y = some (.int .u64 b)) (h:0 ≤ a + b∧a + b < 18446744073709551616) :
    Pu P n ⟨dst,.binOp .add xt x y yt,ty,pos,aft,g⟩ fr (.int .u64 (a + b)):=Pu.bin hx hy (by rw [binI,wrapU _ h])
theorem Pu.mulU {xt yt:TypeId} {x y:Operand} {a b:Int} (hx:ev fr x = some (.int .u64 a)) (hy:ev fr y = some (.int .u64 b)) (h:0 ≤ a * b∧a * b < 18446744073709551616) :
    Pu P n ⟨dst,.binOp .mul xt x y yt,ty,pos,aft,g⟩ fr (.int .u64 (a * b)):=Pu.bin hx hy (by rw [binI,wrapU _ h])
theorem and32 (a:Int) (h:0 ≤ a∧a < 18446744073709551616):(((BitVec.ofInt 64 a &&& BitVec.ofInt 64 4294967295).toNat:Nat):Int) = a % 4294967296:=by
  obtain ⟨m,rfl⟩:=Int.eq_ofNat_of_zero_le h.1
  have hm:m < 18446744073709551616:=by omega
  have e1:(BitVec.ofInt 64 (m:Int)).toNat = m:=by simp [BitVec.toNat_ofInt]; omega
  have e2:(BitVec.ofInt 64 4294967295).toNat = 4294967295:=by decide
  rw [BitVec.toNat_and,e1,e2]
  have:=Nat.and_two_pow_sub_one_eq_mod m 32
  simp only [show (2:Nat) ^ 32 = 4294967296 from rfl] at this
  rw [show (4294967296:Nat) - 1 = 4294967295 from rfl] at this
  rw [this]; omega
theorem Pu.andU {xt yt:TypeId} {x y:Operand} {a:Int} (hx:ev fr x = some (.int .u64 a)) (hy:ev fr y = some (.int .u64 4294967295)) (h:0 ≤ a∧a < 18446744073709551616) :
    Pu P n ⟨dst,.binOp .and xt x y yt,ty,pos,aft,g⟩ fr (.int .u64 (a % 4294967296)):=Pu.bin hx hy (by
  have e:=and32 a h
  rw [binI,show IntKind.u64.bits = 64 from rfl,e,wrapU _ (by omega)])
theorem Pu.shrU {xt yt:TypeId} {x y:Operand} {a:Int} (hx:ev fr x = some (.int .u64 a)) (hy:ev fr y = some (.int .u64 32)) :
    Pu P n ⟨dst,.binOp .shr xt x y yt,ty,pos,aft,g⟩ fr (.int .u64 (a / 4294967296)):=fun ac kn w=>by
  have h:=shift_shr_any .u64 .u64 a 32 (by decide)
  simp [execOp,kn.ev hx,kn.ev hy,binOp,eqGuard,h,IntKind.bits]

theorem Pu.convU {x:Operand} {s d:TypeId} {k:IntKind} {a:Int} (hs:(P.underlying s).isSome = true) (hd:P.underlying d = some (.int .u64)) (hx:ev fr x = some (.int k a)) (h:0 ≤ a∧a < 18446744073709551616) :
    Pu P n ⟨dst,.convert s d x,ty,pos,aft,g⟩ fr (.int .u64 a):=by
  have:=Pu.conv (n:=n) (dst:=dst) (ty:=ty) (pos:=pos) (aft:=aft) (g:=g) hs hd hx
  rwa [wrapU a h] at this
theorem Pu.convS {x:Operand} {s d:TypeId} {k:IntKind} {a:Int} (hs:(P.underlying s).isSome = true) (hd:P.underlying d = some (.int .i64)) (hx:ev fr x = some (.int k a)) (h:-9223372036854775808 ≤ a∧a ≤ 9223372036854775807) :
    Pu P n ⟨dst,.convert s d x,ty,pos,aft,g⟩ fr (.int .i64 a):=by
  have:=Pu.conv (n:=n) (dst:=dst) (ty:=ty) (pos:=pos) (aft:=aft) (g:=g) hs hd hx
  rwa [IntWalk.i64_in a h] at this
theorem cutP_lt {b o cap l sz:Nat} (h:cap ≠ l):cutP (some ⟨b,o,none⟩) cap l sz = some ⟨b,o + l * sz,none⟩:=by
  simp [cutP,h,add_lit]
theorem rep_step {α:Type} {x z:α} {c r m:Nat} (h1:m ≤ c) (h2:m ≤ r) :
    (List.replicate c x ++ List.replicate r z).take c ++ ((List.replicate c x ++ List.replicate r z).take c).take m ++ (List.replicate c x ++ List.replicate r z).drop (c + m) = List.replicate (c + m) x ++ List.replicate (r - m) z:=by
  have e1:(List.replicate c x ++ List.replicate r z).take c = List.replicate c x:=by
    rw [List.take_append_of_le_length (by simp)]; simp
  have e2:(List.replicate c x ++ List.replicate r z).drop (c + m) = List.replicate (r - m) z:=by
    rw [List.drop_append]; simp
  rw [e1,e2,List.take_replicate,Nat.min_eq_left h1,List.replicate_append_replicate]

theorem run_copy_list {w:World} {t e sz by' gg o dl dc m sl sc:Nat} {p:Option Addr} {cur:Array Value} {et:TypeId} {news:List Value} (ht:slTy P t = some (e,sz,by')) (hg:w.heap[gg]? = some (.cells cur et (0,0)))
    (hm:Nat.min sl dl = m) (hl:news.length = m * sz) (hsrc:news = [] ∨ ∃ a,p = some a∧∀ j v,news[j]? = some v→w.cell? (a.add j) = some v) (hfit:o + news.length ≤ cur.size) (h1:∀ v ∈ news,v.oneCell' = true) :
    (Builtin.copy_ #[t,t] ty #[.slice (some ⟨gg,o,none⟩) dl dc,.slice p sl sc]).run P w = .ok (goInt m) (w.setRow gg (cur.toList.take o ++ news ++ cur.toList.drop (o + news.length)).toArray):=by
  obtain ⟨h1',inf,h2,rfl,_⟩:=slTy_spec ht
  have hst:=run_storeCells_at (P:=P) gg o et news 0 cur w hg (by simpa using hfit) h1
  have hld:(Builtin.firstCells inf.size m (.slice p sl sc)).run P w = .ok news.toArray w:=by
    cases p with
    | none =>
      have:news = []:=by
        rcases hsrc with h | ⟨a,ha,_⟩
        · exact h
        · cases ha
      subst this; rfl
    | some a =>
      have hq:∀ j v,news[j]? = some v→w.cell? (a.add j) = some v:=by
        rcases hsrc with h | ⟨a',ha,hc⟩
        · subst h; intro j v hj; simp at hj
        · cases ha; exact hc
      have:=run_loadCells_list (P:=P) w a news hq
      simp only [Builtin.firstCells]
      rw [← hl]; exact this
  simp only [Nat.add_zero] at hst
  subst hm
  simp [Builtin.copy_,run_underlying h1',Builtin.lenOf,run_sizeOf_info h2,hld,hst]

theorem Sd.copyR {α:Type} [Enc α] [Flat α] (k:Nat) {B:Hp} {e t by' gg off o len cap dl dc sl sc:Nat} {p:Option Addr} {x y:Operand} {xs ys:List α} (hk:G[k]? = some (row B e (.slice (some ⟨gg,0,none⟩) len cap) xs))
    (ht:slTy P t = some (e,Enc.sz α,by')) (hx:ev fr x = some (.slice (some ⟨gg,off,none⟩) dl dc)) (hy:ev fr y = some (.slice p sl sc)) (hR:Rd (Sat w0 G) ys [.slice p sl sc]) (ho:off = o * Enc.sz α) (hfit:o + Nat.min sl dl ≤ xs.length) :
    Sd P n ⟨dst,.call { callee:=.builtin .copy,args:=#[x,y],argTypes:=#[t,t] },ty,pos,aft,g⟩ fr (Sat w0 G) (fun _:Unit=>.int .i64 (Nat.min sl dl:Nat))
      (fun _=>Sat w0 (G.set k (row B e (.slice (some ⟨gg,0,none⟩) len cap) (xs.take o ++ ys.take (Nat.min sl dl) ++ xs.drop (o + Nat.min sl dl))))):=fun a w kn s=>by
  obtain ⟨p0,hp0,hl0,hb0⟩:=s.get k hk
  rcases hp0 with ⟨hv',_⟩ | ⟨g',cap',cs,sp,hv',hgp,hlc,hcm,hlen,hr⟩
  · cases hv'
  simp only [Value.slice.injEq,Option.some.injEq,Addr.mk.injEq,and_true,true_and] at hv'
  obtain ⟨rfl,rfl,rfl⟩:=hv'
  have hcl:=hr.length
  obtain ⟨p',cap',e',sl1,sl2,sl3⟩:=hR w s
  simp only [List.cons.injEq,Value.slice.injEq,and_true] at e'
  obtain ⟨rfl,rfl,rfl⟩:=e'
  obtain ⟨m,hm⟩:∃ m,m = Nat.min ys.length dl:=⟨_,rfl⟩
  have hmy:m ≤ ys.length:=by rw [hm]; exact Nat.min_le_left _ _
  rw [← hm] at hfit ⊢
  have hnews:∃ news:List Value,RF (hpOf w) (ys.take m) news∧(news = [] ∨ ∃ a,p = some a∧∀ j v,news[j]? = some v→w.cell? (a.add j) = some v):=by
    rcases sl3 with rfl | ⟨b,oo,c2,rfl,hr2,ha2⟩
    · exact ⟨[],by simp [RF],.inl rfl⟩
    · refine ⟨c2.take (m * Enc.sz α),hr2.take m,.inr ⟨_,rfl,fun j v hj=>?_⟩⟩
      rw [List.getElem?_take] at hj
      split at hj
      · rw [add_lit]; exact ha2.cell hj
      · cases hj
  obtain ⟨news,hrn,hsrc⟩:=hnews
  have hnl:news.length = m * Enc.sz α:=by rw [hrn.length,List.length_take,Nat.min_eq_left hmy]
  have hsum:o * Enc.sz α + m * Enc.sz α ≤ xs.length * Enc.sz α:=by rw [← Nat.add_mul]; exact Nat.mul_le_mul_right _ hfit
  have hrun:=run_copy_list (P:=P) (ty:=ty) (dc:=dc) (sc:=sc) (dl:=dl) (o:=o * Enc.sz α) ht (hl0 _ _ hgp) hm.symm hnl hsrc (by simp only [List.size_toArray,List.length_append]; omega) hrn.one
  subst ho
  have hex:(execOp a.eval ⟨dst,.call { callee:=.builtin .copy,args:=#[x,y],argTypes:=#[t,t] },ty,pos,aft,g⟩).run P w = .ok (.value (goInt m)) (w.setRow gg ((cs ++ sp).toArray.toList.take (o * Enc.sz α) ++ news ++ (cs ++ sp).toArray.toList.drop (o * Enc.sz α + news.length)).toArray):=by
    simp [execOp,resolve,invoke,builtin,kn.ev hx,kn.ev hy,hrun]
  rw [hex]
  refine ⟨(),rfl,?_⟩
  refine s.turn k hk _ rfl rfl rfl (by simp) fun p hp hlp hb=>?_
  rcases hp with ⟨hv'',_⟩ | ⟨g',cap',cs',sp',hv'',hgp',hlc',hcm',hlen',hr'⟩
  · cases hv''
  simp only [Value.slice.injEq,Option.some.injEq,Addr.mk.injEq,and_true,true_and] at hv''
  obtain ⟨rfl,rfl,rfl⟩:=hv''
  have he:cs' = cs∧sp' = sp:=by
    have h1:=hlp _ _ hgp'
    have h2:w.heap[gg]? = some (.cells (cs ++ sp).toArray e (0,0)):=hl0 _ _ hgp
    have h3:w.heap[gg]? = some (.cells (cs' ++ sp').toArray e (0,0)):=h1
    rw [h2] at h3
    have h4:cs ++ sp = cs' ++ sp':=by simpa using h3
    have h5:=congrArg (List.take cs.length) h4
    rw [List.take_left,hcl,← hr'.length,List.take_left] at h5
    have h6:=congrArg (List.drop cs.length) h4
    rw [List.drop_left,hcl,← hr'.length,List.drop_left] at h6
    exact ⟨h5.symm,h6.symm⟩
  obtain ⟨rfl,rfl⟩:=he
  have harr:(cs' ++ sp').take (o * Enc.sz α) ++ news ++ (cs' ++ sp').drop (o * Enc.sz α + news.length) = (cs'.take (o * Enc.sz α) ++ news ++ cs'.drop ((o + m) * Enc.sz α)) ++ sp':=by
    rw [hnl,← Nat.add_mul,List.take_append_of_le_length (by omega),List.drop_append_of_le_length (by rw [Nat.add_mul]; omega)]
    simp [List.append_assoc]
  simp only [List.toList_toArray] at *
  rw [harr]
  refine ⟨fun d hd hdn=>setRow_other w gg d _ (fun e'=>by rw [e',hgp'] at hdn; cases hdn),fun d=>if d = gg then some (.cells ((cs'.take (o * Enc.sz α) ++ news ++ cs'.drop ((o + m) * Enc.sz α)) ++ sp').toArray e (0,0)) else p d,.inr ⟨gg,cap,cs'.take (o * Enc.sz α) ++ news ++ cs'.drop ((o + m) * Enc.sz α),sp',?_,by simp,?_,hcm,?_,?_⟩,fun d o' hdo=>?_⟩
  · congr 1
    simp only [List.length_append,List.length_take,List.length_drop]; omega
  · simp only [List.length_append,List.length_take,List.length_drop]; omega
  · simp only [List.length_append,List.length_take,List.length_drop,hnl] at hlen' ⊢
    rw [Nat.add_mul]; omega
  · have hoff:Hp.off (fun d=>if d = gg then some (.cells ((cs'.take (o * Enc.sz α) ++ news ++ cs'.drop ((o + m) * Enc.sz α)) ++ sp').toArray e (0,0)) else p d) gg = p.off gg:=by
      funext d; unfold Hp.off; split <;> simp_all
    rw [hoff]
    exact ((hr'.take o).append hrn.any).append (hr'.drop (o + m))
  · dsimp only at hdo
    split at hdo
    · rename_i hdb; subst hdb; cases hdo
      exact ⟨.inl (by rw [hgp']; simp),setRow_heap w d _ _ e (0,0) (hlp _ _ hgp')⟩
    · rename_i hdb
      exact ⟨.inl (by rw [hdo]; simp),by rw [setRow_other w gg d _ hdb]; exact hlp _ _ hdo⟩
end
end Go.Vg
set_option linter.unusedSimpArgs false
set_option linter.unusedVariables false
namespace Go.Vg
open Enc (R)

section
variable {P:Program} {n:Nat} {fr:Fr} {dst:Option Tmp} {ty:TypeId} {pos:String} {aft:Array Edge} {g:Option (Nat × Bool)} {S:As} {w0:World} {G:List Ch} {Q:Po}
theorem Cont.retC {fn:Func} {R:Ending→World→Prop} {t ty sz b:Nat} {e:TypeId} {cs:List Value} (k:Nat) (hr:fn.results = #[.cell t ty]) (ht:tySz P ty = some (sz,true)) (hv:look fr t = some (.pointer (some ⟨b,0,none⟩)))
    (hk:G[k]? = some (blk b cs e)) (hl:cs.length = sz) (h:∀ w,Sat w0 G w→R (.returned (.agg cs.toArray)) w):Cont n (bodyPost P fn R .ret) fr (Sat w0 G):=fun a w kn s=>by
  have hld:=run_loadVarA (P:=P) (w:=w) (b:=b) (o:=0) ht hl (fun j v hj=>by
    have:=(s.getBlk hk).1
    simp [World.cell?,this,hj])
  have hp:=kn.getD hv
  refine bodyPost_ret (v:=.agg cs.toArray) ?_ kn.defers (h w s)
  have hp':a.tmps[t]?.getD undef = .pointer (some ⟨b,0,none⟩):=by simpa [Array.getD_eq_getD_getElem?] using hp
  simp [results,hr,hp',asAddr,hld]

theorem Pu.eqNilSl {xt yt e:TypeId} {x:Operand} {p:Option Addr} {l c:Nat} (ht:P.underlying xt = some (.slice e)) (hx:ev fr x = some (.slice p l c)) :
    Pu P n ⟨dst,.binOp .eql xt x (.const (.slice none 0 0)) yt,ty,pos,aft,g⟩ fr (.bool p.isNone):=fun ac kn w=>by
  have h:=Go.run_equal_slice_nil (P:=P) (w:=w) xt e p l c ht
  have hc:ac.eval (.const (.slice none 0 0)) = .slice none 0 0:=rfl
  simp [execOp,kn.ev hx,hc,eqGuard,binOp,h]
theorem Sd.lit0 {α:Type} [Enc α] {t e:TypeId} {by':Nat} {B:Hp} (ht:slTy P t = some (e,Enc.sz α,by')) :
    Sd P n ⟨dst,.buildSlice t 0 #[],ty,pos,aft,g⟩ fr (Sat w0 G) (fun b:Nat=>.slice (some ⟨b,0,none⟩) 0 0) (fun b=>Sat w0 (G ++ [row B e (.slice (some ⟨b,0,none⟩) 0 0) ([]:List α)])):=fun a w k s=>by
  obtain ⟨hu,i,hi,hsz,_⟩:=slTy_spec ht
  have:(execOp a.eval ⟨dst,.buildSlice t 0 #[],ty,pos,aft,g⟩).run P w = .ok (.value (.slice (some ⟨w.heap.size,0,none⟩) 0 0)) (w.alloc (.cells ([] ++ []:List Value).toArray e)):=by
    simp [execOp,Instr.buildSlice,run_underlying hu,run_sizeOf_info hi,Instr.fill,newRow]
    have hz:(Array.range 0).size = 0:=by simp
    rw [Array.eq_empty_of_size_eq_zero (xs:=Array.map _ (Array.range 0)) (by rw [Array.size_map]; exact hz)]
  rw [this]
  exact ⟨w.heap.size,rfl,s.newRow (α:=α) rfl (Ext.refl w) B e [] [] 0 [] (Nat.le_refl _) (Nat.zero_le _) (by simp) rfl⟩
theorem Sd.appB {α:Type} [Enc α] [Flat α] (k:Nat) {B:Hp} (hB:∀ b o,B b = some o→b < w0.heap.size) {x y:Operand} {t e:TypeId} {by':Nat} {z v:Value} {xs ys:List α} {q:Addr} {m c:Nat} (hk:G[k]? = some (row B e v xs))
    (ht:slTy P t = some (e,Enc.sz α,by')) (hz:zeroOf P e = some z) (hzs:z.cells.size = Enc.sz α) (hx:ev fr x = some v) (hy:ev fr y = some (.slice (some q) m c)) (hR:R (hpOf w0) ys [.slice (some q) m c])
    (hbytes:(xs.length + m) * by' ≤ 140737488355328) (h63:xs.length + m ≤ maxLen) :
    Sd P n ⟨dst,.call { callee:=.builtin .append,args:=#[x,y],argTypes:=#[t,t] },ty,pos,aft,g⟩ fr (Sat w0 G) (fun q=>rowV q (xs.length + m)) (fun q=>Sat w0 (G.set k (row B e (rowV q (xs.length + m)) (xs ++ ys)))):=by
  obtain ⟨p',cap',e',s1,s2,s3⟩:=hR
  simp only [List.cons.injEq,Value.slice.injEq,and_true] at e'
  obtain ⟨rfl,rfl,rfl⟩:=e'
  rcases s3 with rfl | ⟨b,o,cs,hq,hr,ha⟩
  · exact Sd.app (ys:=[]) (news:=[]) k hk hB ht hz hzs hx hy (rowAnd_flat (h0:=nilH) (by simp [RF])) rfl (fun w s j u hj=>by simp at hj) hbytes h63
  · cases hq
    exact Sd.app (news:=cs) k hk hB ht hz hzs hx hy (rowAnd_flat hr) rfl (fun w s j u hj=>by rw [add_lit]; exact (ha.mono s.ext.hp).cell hj) hbytes h63
end
end Go.Vg
set_option linter.unusedSimpArgs false
set_option linter.unusedVariables false
namespace Go.Vg
open Go.ChangeShapes Go.WideShapes Go.RowKit
open Enc (R)

def structOf (P:Program) (t:TypeId):Option (List (Nat × Nat)):=match P.underlying t with
  | some (.struct fs)=>some (fs.toList.map fun f=>(f.type,f.offset))
  | _=>none
theorem structOf_spec {P:Program} {t:TypeId} {l:List (Nat × Nat)} (h:structOf P t = some l):∃ fs,P.underlying t = some (.struct fs)∧fs.toList.map (fun f=>(f.type,f.offset)) = l:=by
  unfold structOf at h
  split at h
  · rename_i fs hu; exact ⟨fs,hu,Option.some.inj h⟩
  · cases h

def Zd {H:Type} (P:Program) (t:TypeId) (d:DataW H):Prop:=∀ n ∈ d.weights P t,n ≤ reachBytes
theorem Zd.each {H:Type} {P:Program} {ts:List TypeId} {ds:List (DataW H)} (h:(DataW.weightsEach P ts ds).all (· ≤ reachBytes) = true) {j:Nat} {t:TypeId} {d:DataW H} (ht:ts[j]? = some t) (hd:ds[j]? = some d):Zd P t d:=fun n hn=>by
  have:=List.all_eq_true.1 h n (DataW.weights_mem_each ht hd n hn)
  simpa using this
theorem weights_mem_all {H:Type} {P:Program} {e:TypeId} {d:DataW H} {n:Nat} (hn:n ∈ d.weights P e):∀ {l:List (DataW H)},d ∈ l→n ∈ DataW.weightsAll P e l
  | x :: l,h=>by
    rw [DataW.weightsAll,List.mem_append]
    rcases List.mem_cons.1 h with rfl | h
    · exact .inl hn
    · exact .inr (weights_mem_all hn h)
def Rdbl (P:Program) (t:TypeId) (α:Type) [Enc α] (Wf:α→Prop):Prop :=
  ∀ (H:Type) (enc:TypeId × Value→H) (w:World) (fuel:Nat) (cs:List Value) (x:DataW H × List MemPlace),DataW.trod enc P w 0 (fun _=>true) true fuel t cs = some x→Zd P t x.1→∃ a:α,R (hpOf w) a cs∧Wf a

def I64 (i:Int):Prop:=-9223372036854775808 ≤ i∧i ≤ 9223372036854775807

section
variable {P:Program} {t:TypeId}
theorem Rdbl.int (ht:P.underlying t = some (.int .i64)):Rdbl P t Int I64:=fun H enc w fuel cs x h _=>by
  obtain ⟨i,e,_,hw⟩:=DataW.trod_int ht h
  refine ⟨i,e,?_⟩
  simpa [Lit.wf,IntKind.min,IntKind.max,IntKind.signed,IntKind.bits,I64] using hw
theorem Rdbl.u8 (ht:P.underlying t = some (.int .u8)):Rdbl P t UInt8 (fun _=>True):=fun H enc w fuel cs x h _=>by
  obtain ⟨i,e,_,hw⟩:=DataW.trod_int ht h
  have hw':0 ≤ i∧i ≤ 255:=by simpa [Lit.wf,IntKind.min,IntKind.max,IntKind.signed,IntKind.bits] using hw
  refine ⟨UInt8.ofNat i.toNat,?_,trivial⟩
  show cs = [.int .u8 ((UInt8.ofNat i.toNat).toNat:Int)]
  rw [e]
  simp only [UInt8.toNat_ofNat']
  rw [Nat.mod_eq_of_lt (by omega)]
  congr 2; omega
theorem Rdbl.bool (ht:P.underlying t = some .bool):Rdbl P t Bool (fun _=>True):=fun H enc w fuel cs x h _=>by
  obtain ⟨b,e,_⟩:=DataW.trod_bool ht h
  exact ⟨b,e,trivial⟩
theorem Rdbl.mono {α:Type} [Enc α] {W W':α→Prop} (h:Rdbl P t α W) (hw:∀ a,W a→W' a):Rdbl P t α W':=fun H enc w fuel cs x hx hz =>
  let ⟨a,ha,hb⟩:=h H enc w fuel cs x hx hz; ⟨a,ha,hw a hb⟩

theorem Rdbl.part {α:Type} [Enc α] {Wf:α→Prop} {ft:TypeId} (hf:Rdbl P ft α Wf) {H:Type} {enc:TypeId × Value→H} {w:World} {n:Nat} {cs:List Value} {x:DataW H × List MemPlace}
    (h:DataW.trod enc P w 0 (fun _=>true) true n ft cs = some x∧Zd P ft x.1):∃ a:α,R (hpOf w) a cs∧Wf a:=hf H enc w n cs x h.1 h.2
theorem trod_field {fs:Array Field} (ht:P.underlying t = some (.struct fs)) {H:Type} {enc:TypeId × Value→H} {w:World} {n:Nat} {cs:List Value} {x:DataW H × List MemPlace}
    (h:DataW.trod enc P w 0 (fun _=>true) true n t cs = some x) (hz:Zd P t x.1):cs.length = P.cellsOf t∧∃ m,∀ (i:Nat) (f:Field),fs[i]? = some f→∃ y,DataW.trod enc P w 0 (fun _=>true) true m f.type ((cs.drop f.offset).take (P.cellsOf f.type)) = some y∧Zd P f.type y.1:=by
  obtain ⟨xs,m,_,hx,hl,hlen,hf⟩:=DataW.trod_struct ht h
  refine ⟨hl,m,fun i f hi=>?_⟩
  have hlt:i < xs.length:=by rw [hlen]; exact (Array.getElem?_eq_some_iff.1 hi).1
  refine ⟨xs[i],by rw [hf i f hi,List.getElem?_eq_getElem hlt],fun q hq=>hz q ?_⟩
  rw [hx]
  show q ∈ DataW.weights P t (.agg (xs.map (·.1)))
  rw [DataW.weights,ht]
  exact DataW.weights_mem_each (j:=i) (t:=f.type) (by rw [List.getElem?_map,Array.getElem?_toList,hi]; rfl) (by rw [List.getElem?_map,List.getElem?_eq_getElem hlt]; rfl) q hq

theorem RF_of {α:Type} [Enc α] {Wf:α→Prop} {w:World} {b:Nat} {c:Array Value} {ty:TypeId} {fz:Nat × Nat} (hb:w.heap[b]? = some (.cells c ty fz)):∀ (len o:Nat),
    (∀ i,i < len→∃ (a:α) (cs:List Value),R (hpOf w) a cs∧Wf a∧∀ j,j < Enc.sz α→w.cell? ⟨b,o + i * Enc.sz α + j,none⟩ = cs[j]?) →
    ∃ (xs:List α) (cs:List Value),xs.length = len∧RF (hpOf w) xs cs∧(∀ x ∈ xs,Wf x)∧∀ j v,cs[j]? = some v→c[o + j]? = some v
  | 0,o,_=>⟨[],[],rfl,rfl,fun _ h=>by simp at h,fun j v h=>by simp at h⟩
  | n + 1,o,h=>by
    obtain ⟨a,cs,ha,hw,hc⟩:=h 0 (by omega)
    obtain ⟨xs,ds,hl,hr,hwf,hd⟩:=RF_of hb n (o + Enc.sz α) (fun i hi=>by
      obtain ⟨a,cs,h1,h2,h3⟩:=h (i + 1) (by omega)
      refine ⟨a,cs,h1,h2,fun j hj=>?_⟩
      have:=h3 j hj
      rwa [show o + (i + 1) * Enc.sz α + j = o + Enc.sz α + i * Enc.sz α + j by rw [Nat.add_mul]; omega] at this)
    have hcl:=Enc.len ha
    refine ⟨a :: xs,cs ++ ds,by simp [hl],⟨cs,ds,rfl,ha,hr⟩,fun x hx=>?_,fun j v hj=>?_⟩
    · rcases List.mem_cons.1 hx with rfl | hx
      · exact hw
      · exact hwf x hx
    · rw [List.getElem?_append] at hj
      split at hj
      · have:=hc j (by omega)
        rw [hj] at this
        simp only [World.cell?,hb,Option.isSome_none,Bool.false_eq_true,if_false] at this
        rwa [show o + 0 * Enc.sz α + j = o + j by omega] at this
      · have:=hd (j - cs.length) v hj
        rwa [show o + Enc.sz α + (j - cs.length) = o + j by omega] at this

theorem Rdbl.slice {e:TypeId} {α:Type} [Enc α] {Wf:α→Prop} (ht:P.underlying t = some (.slice e)) (hs:P.cellsOf e = Enc.sz α) (h0:0 < Enc.sz α) (he:Rdbl P e α Wf) (hbz:decide (0 < P.bytesOf e) = true):Rdbl P t (List α) (fun l=>(∀ x ∈ l,Wf x)∧l.length ≤ 140737488351232):=fun H enc w fuel cs x h hzd=>by
  rcases Go.Deep.open_slice ht h with ⟨rfl,_⟩ | ⟨a,len,cap,m,n,D,Pl,rfl,hb,hl,hm,hmm,hxe,hx⟩
  · exact ⟨[],⟨none,0,rfl,by simp,by simp,.inl rfl⟩,fun x h=>by simp at h,by simp⟩
  · rw [hs] at hx
    rw [hxe] at hzd
    have hzw:DataW.weights P t (.slice ((List.range len).map D) ((List.range (m - len)).map fun j=>D (len + j))) = (((List.range len).map D).length + ((List.range (m - len)).map fun j=>D (len + j)).length) * P.bytesOf e :: (DataW.weightsAll P e ((List.range len).map D) ++ DataW.weightsAll P e ((List.range (m - len)).map fun j=>D (len + j))):=by rw [DataW.weights,ht]
    have hlb:len ≤ 140737488351232:=by
      have h1:=hzd _ (by show _ ∈ DataW.weights P t _; rw [hzw]; exact List.mem_cons_self)
      simp only [List.length_map,List.length_range] at h1
      have h2:0 < P.bytesOf e:=of_decide_eq_true hbz
      have h3:len * 1 ≤ (len + (m - len)) * P.bytesOf e:=Nat.mul_le_mul (Nat.le_add_right _ _) h2
      unfold reachBytes at h1
      omega
    have hez:∀ i,i < len→Zd P e (D i):=fun i hi q hq=>hzd q (by
      show _ ∈ DataW.weights P t _
      rw [hzw]
      exact List.mem_cons_of_mem _ (List.mem_append_left _ (weights_mem_all hq (List.mem_map.2 ⟨i,List.mem_range.2 hi,rfl⟩))))
    by_cases hz:len = 0
    · subst hz
      exact ⟨[],⟨some a,cap,rfl,by simp,hm,.inl rfl⟩,fun x h=>by simp at h,by simp⟩
    · obtain ⟨b,o,spot⟩:=a
      have hmc:len ≤ m:=by rw [hmm]; split <;> omega
      obtain ⟨cs0,hc0,_⟩:=hx 0 (by omega)
      obtain ⟨_,hlen0,hcell0⟩:=World.cells?_some hc0
      have h00:=hcell0 0 (by omega)
      have hsp:spot = none:=by
        have hlt:0 < cs0.length:=by omega
        rw [List.getElem?_eq_getElem hlt] at h00
        have:=World.cell?_spot h00
        simpa [Addr.add] using this
      subst hsp
      obtain ⟨c,ty,fz,hbk⟩:∃ c ty fz,w.heap[b]? = some (.cells c ty fz):=by
        rw [List.getElem?_eq_getElem (by omega)] at h00
        simp only [World.cell?,Addr.add,Nat.zero_mul,if_true] at h00
        split at h00
        · rename_i c ty fz hh; exact ⟨c,ty,fz,hh⟩
        · cases h00
      obtain ⟨xs,ds,hxl,hr,hwf,hd⟩:=RF_of (α:=α) (Wf:=Wf) hbk len o (fun i hi=>by
        obtain ⟨cs',hc',ht'⟩:=hx i (by omega)
        obtain ⟨_,hlen',hcell'⟩:=World.cells?_some hc'
        obtain ⟨a,ha,hw⟩:=he H enc w n cs' _ ht' (hez i hi)
        refine ⟨a,cs',ha,hw,fun j hj=>?_⟩
        rw [← hcell' j hj,Go.Deep.add_add]
        unfold Addr.add
        split
        · rename_i h0; rw [show o + i * Enc.sz α + j = o by omega]
        · rw [show o + i * Enc.sz α + j = o + (i * Enc.sz α + j) by omega])
      refine ⟨xs,⟨some ⟨b,o,none⟩,cap,by rw [hxl],by omega,hm,.inr ⟨b,o,ds,rfl,hr,⟨c,ty,fz,hbk,hd⟩⟩⟩,hwf,by rw [hxl]; exact hlb⟩

theorem Rdbl.arg {α:Type} [Enc α] {Wf:α→Prop} (h:Rdbl P t α Wf) {H:Type} {enc:TypeId × Value→H} {w:World} {v:Value} {d:DataW H} {ps:List MemPlace}
    (hv:DataW.Trod enc P w 0 (fun _=>true) true t v d ps) (hz:Zd P t d):∃ a:α,R (hpOf w) a v.cells.toList∧Wf a:=let ⟨n,hn⟩:=hv; h H enc w n _ _ hn hz
end


theorem trodAll_ext {H:Type} {enc:TypeId × Value→H} {P:Program} (hl:laidOutB P = true) {W W':World} (hb:Ext W W'):∀ {ts:List TypeId} {vs:List Value} {ds:List (DataW H)} {ps:List MemPlace},
    (ts.all fun t=>P.readableRec t && decide (t < P.types.size)) = true→(∀ x ∈ ps,x.block < W.heap.size)→DataW.TrodAll enc P W 0 (fun _=>true) true ts vs ds ps →
    DataW.TrodAll enc P W' 0 (fun b=>decide (b < W.heap.size)) true ts vs ds ps
  | [],vs,ds,ps,_,_,h=>by obtain ⟨rfl,rfl,rfl⟩:=trodAll_nil h; exact rfl
  | t :: ts,vs,ds,ps,ht,hp,h=>by
    obtain ⟨v,vs1,d,ds1,a,b,rfl,rfl,rfl,h1,h2⟩:=trodAll_cons h
    simp only [List.all_cons,Bool.and_eq_true,decide_eq_true_eq] at ht
    exact ⟨a,b,Below.trod hl ht.1.1 ht.1.2 h1 hb (fun x hx=>hp x (List.mem_append_left _ hx)),
      trodAll_ext hl hb (by simpa using ht.2) (fun x hx=>hp x (List.mem_append_right _ hx)) h2,rfl⟩

theorem post_ext {H:Type} {enc:TypeId × Value→H} {P:Program} (hl:laidOutB P = true) {f:Func} {s:ChangeSpec} {W W':World} {args:Array Value} {v:Value} {ds gs:List (DataW H)} {before:List MemPlace}
    (hp:(f.params.toList.all fun t=>P.readableRec t && decide (t < P.types.size)) = true)
    (hW:DataW.Whole enc P f.params.toList s.vars false W args.toList ds gs before)
    (hres:DataW.TrodAll enc P W' W.heap.size (fun _=>false) false f.resultTypes.toList (v.resultList f.resultTypes.size) (s.fn H (ds ++ gs)).results [])
    (hargs:(s.fn H (ds ++ gs)).args = ds) (hv0:s.vars = []) (hv1:(s.fn H (ds ++ gs)).vars = []) (hb:Ext W W') :
    s.post enc P f false true false false W args v W':=by
  have hlt:=hW.lt
  obtain ⟨p,q,hA,hV,rfl,hfz,hnd⟩:=hW
  rw [hv0] at hV
  have hV':=hV
  obtain ⟨rfl,rfl⟩:=trodVars_none hV
  refine ⟨ds,[],p ++ [],[],p,[],⟨p,[],hA,by rw [hv0]; exact hV',rfl,hfz,hnd⟩,hres,?_,?_,hb.frame _,fun h=>by cases h⟩
  · rw [hargs]
    exact trodAll_ext hl hb hp (fun x hx=>hlt x (by simpa using hx)) hA
  · rw [hv1,hv0]; rfl

end Go.Vg
set_option linter.unusedSimpArgs false
set_option linter.unusedVariables false
namespace Go.Vg
open Enc (R)

instance (i:Int):Decidable (I64 i):=by unfold I64; exact inferInstance
theorem gdE {p:Prop} [Decidable p] {α:Type} {k:Option α} {r:α} (h:(if p then k else none) = some r):p∧k = some r:=by
  by_cases hp:p
  · rw [if_pos hp] at h; exact ⟨hp,h⟩
  · rw [if_neg hp] at h; cases h
theorem ifT {p:Prop} [Decidable p] {α:Type} {a b:Option α} {r:α} (hp:p) (h:(if p then a else b) = some r):a = some r:=by rw [if_pos hp] at h; exact h
theorem ifF {p:Prop} [Decidable p] {α:Type} {a b:Option α} {r:α} (hp:¬ p) (h:(if p then a else b) = some r):b = some r:=by rw [if_neg hp] at h; exact h
theorem ifB {c:Bool} {α:Type} {a b:Option α} {r:α} (hp:c = false) (h:(if c = true then a else b) = some r):b = some r:=ifF (by rw [hp]; simp) h
theorem bindE {α β:Type} {m:Option α} {k:α→Option β} {r:β} (h:m.bind k = some r):∃ x,m = some x∧k x = some r:=Option.bind_eq_some_iff.1 h

inductive Ex (α β:Type) | go (a:α) | up (b:β)
def Ex.then {α β:Type} (x:Ex α β) (k:α→Option β):Option β:=match x with
  | .go a=>k a
  | .up b=>some b
inductive St (σ β:Type) | next (s:σ) | done (b:β)
def loopN {σ β:Type}:Nat→(σ→Option (St σ β))→σ→Option β
  | 0,_,_=>none
  | n + 1,f,s=>match f s with
    | none=>none
    | some (.next s')=>loopN n f s'
    | some (.done b)=>some b
def FUEL:Nat:=18446744073709551616
def loop {σ β:Type} (f:σ→Option (St σ β)) (s:σ):Option β:=loopN FUEL f s
theorem loopN_step {σ β:Type} {n:Nat} {f:σ→Option (St σ β)} {s:σ} {x:β} (h:loopN n f s = some x) :
    ∃ y,f s = some y∧(∀ b,some (St.done b) = some y→b = x)∧(∀ s',some (St.next s') = some y→∃ n',n' < n∧loopN n' f s' = some x):=by
  cases n with
  | zero=>cases h
  | succ n =>
    unfold loopN at h
    cases hf:f s with
    | none=>simp [hf] at h
    | some y =>
      refine ⟨y,rfl,fun b hb=>?_,fun s' hs=>⟨n,Nat.lt_succ_self n,?_⟩⟩
      · cases hb; simpa [hf] using h
      · cases hs; simpa [hf] using h

def Ok {α:Type} (m:Option α) (Q:α→Prop):Prop:=∃ r,m = some r∧Q r
section
variable {α β σ:Type}
theorem Ok.ret {a:α} {Q:α→Prop} (h:Q a):Ok (some a) Q:=⟨a,rfl,h⟩
theorem Ok.gd {p:Prop} [Decidable p] {k:Option α} {Q:α→Prop} (hp:p) (h:Ok k Q):Ok (if p then k else none) Q:=by rw [if_pos hp]; exact h
theorem Ok.ite {p:Prop} [Decidable p] {a b:Option α} {Q:α→Prop} (ht:p→Ok a Q) (hf:¬ p→Ok b Q):Ok (if p then a else b) Q:=by
  split
  · rename_i h; exact ht h
  · rename_i h; exact hf h
theorem Ok.bind {m:Option α} {k:α→Option β} {Q:β→Prop} {R:α→Prop} (hm:Ok m R) (hk:∀ x,R x→Ok (k x) Q):Ok (m.bind k) Q:=by
  obtain ⟨x,hx,hr⟩:=hm
  rw [hx]; exact hk x hr
theorem Ok.bindE {m:Option α} {k:α→Option β} {Q:β→Prop} {x:α} (hm:m = some x) (hk:Ok (k x) Q):Ok (m.bind k) Q:=by rw [hm]; exact hk
theorem Ok.mono {m:Option α} {Q R:α→Prop} (h:Ok m Q) (hq:∀ x,Q x→R x):Ok m R:=let ⟨r,e,q⟩:=h; ⟨r,e,hq r q⟩
theorem Ok.eq {m:Option α} {a:α} (h:Ok m (fun x=>x = a)):m = some a:=let ⟨r,e,q⟩:=h; by rw [e,q]
theorem Ok.loop {f:σ→Option (St σ β)} {s0:σ} {Q:β→Prop} (I:σ→Prop) (m:σ→Nat) (h0:I s0) (hm:m s0 < FUEL)
    (step:∀ s,I s→Ok (f s) fun y=>match y with | .next s'=>I s'∧m s' < m s | .done b=>Q b):Ok (Vg.loop f s0) Q:=by
  have key:∀ n s,I s→m s < n→Ok (loopN n f s) Q:=by
    intro n
    induction n with
    | zero=>intro s _ h; omega
    | succ n ih =>
      intro s hi hlt
      obtain ⟨y,hy,hq⟩:=step s hi
      unfold loopN
      rw [hy]
      cases y with
      | next s'=>exact ih s' hq.1 (by have:=hq.2; omega)
      | done b=>exact ⟨b,rfl,hq⟩
  exact key FUEL s0 h0 hm
end

section
variable {P:Program} {n:Nat} {fr:Fr} {S:As} {Q:Po}
theorem T.loopA {σ γ β:Type} {c:Code} {f:σ→Option (St σ β)} {s0:σ} {x:β} (hx:Vg.loop f s0 = some x) (kept:Fr) (FW:σ→γ→Fr) (SS:σ→γ→As) (g0:γ)
    (hk:Sub fr kept) (h0:Sub fr (FW s0 g0)) (hs:∀ w,S w→SS s0 g0 w)
    (round:∀ s g y,f s = some y→(∀ b,some (St.done b) = some y→b = x)→∀ K:Act→World→Prop,
      (∀ fr' S' s' g',some (St.next s') = some y→Sub fr' kept→Sub fr' (FW s' g')→(∀ w,S' w→SS s' g' w)→Cont n K fr' S')→T P n c (FW s g ++ kept) (SS s g) (Exit.then K Q)):T P n (.loop c) fr S Q:=by
  refine T.loop (σ:=Nat × σ × γ) (fun z=>FW z.2.1 z.2.2 ++ kept) (fun z=>SS z.2.1 z.2.2) (fun z=>loopN z.1 f z.2.1 = some x) (fun z=>z.1) (FUEL,s0,g0) hx (Sub.app h0 hk) hs ?_
  rintro ⟨m,s,g⟩ hI K hL
  obtain ⟨y,hy,hd,hn⟩:=loopN_step hI
  refine round s g y hy hd K fun fr' S' s' g' he hk' hs' hw'=>?_
  obtain ⟨n',hlt,hn'⟩:=hn s' he
  exact hL fr' S' (n',s',g') hn' hlt (Sub.app hs' hk') hw'
theorem T.joinA {σ γ α β:Type} {x y:Code} {m:Option α} {k:α→Option β} {r:β} (H:m.bind k = some r) (emb:σ→α) (kept:Fr) (hkp:Sub fr kept) (FW:σ→γ→Fr) (SS:σ→γ→As)
    (hy:∀ s g,k (emb s) = some r→T P n y (FW s g ++ kept) (SS s g) Q)
    (h:∀ z,m = some z→k z = some r→∀ K:Act→World→Prop,(∀ fr' S' s g,k (emb s) = some r→Sub fr' kept→Sub fr' (FW s g)→(∀ w,S' w→SS s g w)→Cont n K fr' S')→T P n x fr S (Exit.then K Q)):T P n (x.seq y) fr S Q:=by
  obtain ⟨z,hz,hr⟩:=Vg.bindE H
  exact T.seq fun K hK=>h z hz hr K fun fr' S' s g hk h1 h2 hw=>hK fr' S' ((hy s g hk).conseq (Sub.app h2 h1) hw)
theorem T.joinE {σ γ α β:Type} {x:Code} {m:Option α} {k:α→Option β} {r:β} (H:m.bind k = some r) (emb:σ→α) (kept:Fr) (hkp:Sub fr kept) (FW:σ→γ→Fr) (SS:σ→γ→As)
    (hy:∀ s g,k (emb s) = some r→Cont n (Q .normal) (FW s g ++ kept) (SS s g))
    (h:∀ z,m = some z→k z = some r→(∀ fr' S' s g,k (emb s) = some r→Sub fr' kept→Sub fr' (FW s g)→(∀ w,S' w→SS s g w)→Cont n (Q .normal) fr' S')→T P n x fr S Q):T P n x fr S Q:=by
  obtain ⟨z,hz,hr⟩:=Vg.bindE H
  exact h z hz hr fun fr' S' s g hk h1 h2 hw=>(hy s g hk).conseq (Sub.app h2 h1) hw

variable {ops:Array Oper} {l:List Oper} {full plan:List (Nat × Kd)} {Cw:As}
theorem RS.joinV (j:Nat) (d:Nat) (u:Value) (kept:Fr) (hk:Sub fr kept) (hy:RS P n ops Q (l.drop j) ((d,u) :: kept) S)
    (h:(∀ fr' S',Sub fr' ((d,u) :: kept)→(∀ w,S' w→S w)→RS P n ops Q (l.drop j) fr' S')→RS P n ops Q l fr S):RS P n ops Q l fr S :=
  h fun _ _ hs hw=>hy.conseq hs hw
def Lk (fr r:Fr):Prop:=∀ i v,look r i = some v→look fr i = some v
theorem Lk.put {fr r:Fr} (h:Lk fr r) (d:Option Nat) (v:Value):Lk (putF d v fr) (putF d v r):=by
  intro i u hu
  cases d with
  | none=>exact h i u hu
  | some d =>
    simp only [putF,look_cons] at hu ⊢
    split
    · rename_i e; rw [if_pos e] at hu; exact hu
    · rename_i e; rw [if_neg e] at hu; exact h i u hu
theorem Knows.lk {a:Act} {r:Fr} (k:Knows n fr a) (h:Lk fr r):Knows n r a:=⟨k.size,k.defers,fun i v hi=>k.get i v (h i v hi)⟩
theorem gval_lk {r:Fr} (h:Lk fr r) {ops:Array Oper} {g:Option (Nat × Bool)} {b:Bool} (hg:gval ops r g = some b):gval ops fr g = some b:=by
  unfold gval at hg ⊢
  split
  · exact hg
  · rename_i j c
    simp only at hg
    cases hd:(ops[j]?).bind (·.dst) with
    | none=>simp [hd] at hg
    | some d =>
      simp only [hd,Option.bind_some] at hg ⊢
      cases hl:look r d with
      | none=>simp [hl] at hg
      | some u=>rw [h d u hl]; rw [hl] at hg; exact hg
theorem AX.weaken {ops:Array Oper} {kd:Nat→Kd} {Cw:As}:∀ {m:Nat} {listed:Array Bool} {fr r:Fr} {S:As},AX P n ops Q kd Cw m listed r S→Lk fr r→AX P n ops Q kd Cw m listed fr S
  | 0,_,_,_,_,hx,h=>⟨hx.1,fun a w k s=>hx.2 a w (k.lk h) s⟩
  | m + 1,listed,fr,r,S,hx,h=>by
    refine ⟨fun h0 a w k s=>hx.1 h0 a w (k.lk h) s,fun j hj=>?_⟩
    have:=hx.2 j hj
    unfold StepX at *
    split
    · rename_i ho; simp only [ho] at this; exact AX.weaken this h
    · rename_i o ho
      simp only [ho] at this
      refine ⟨this.1,?_⟩
      rcases this.2 with ⟨h1,h2⟩ | ⟨h1,ι,val,S',h2,h3,h4,h5,h6⟩
      · exact .inl ⟨gval_lk h h1,AX.weaken h2 (h.put _ _)⟩
      · exact .inr ⟨gval_lk h h1,ι,val,S',fun a w k s=>h2 a w (k.lk h) s,h3,h4,h5,fun k e=>AX.weaken (h6 k e) (h.put _ _)⟩
theorem RD.conseq {fr':Fr} (h:RD P n ops Q full Cw plan fr' S) (hf:Sub fr fr'):RD P n ops Q full Cw plan fr S:=by
  intro listed h1 h2 h3 h4 h5
  exact AX.weaken (h listed h1 h2 h3 h4 h5) (fun i v hi=>hf.look i v hi)
theorem RD.joinV (j:Nat) (d:Nat) (u:Value) (kept:Fr) (hk:Sub fr kept) (hy:RD P n ops Q full Cw (plan.drop j) ((d,u) :: kept) S)
    (h:(∀ fr',Sub fr' ((d,u) :: kept)→RD P n ops Q full Cw (plan.drop j) fr' S)→RD P n ops Q full Cw plan fr S):RD P n ops Q full Cw plan fr S :=
  h fun _ hs=>hy.conseq hs
theorem RS.joinB {α β:Type} {m:Option α} {k:α→Option β} {r:β} (H:m.bind k = some r) (j:Nat) (d:Nat) (u:α→Value) (kept:Fr) (hk:Sub fr kept) (hy:∀ b,k b = some r→RS P n ops Q (l.drop j) ((d,u b) :: kept) S)
    (h:∀ b,m = some b→(∀ fr' S',Sub fr' ((d,u b) :: kept)→(∀ w,S' w→S w)→RS P n ops Q (l.drop j) fr' S')→RS P n ops Q l fr S):RS P n ops Q l fr S:=by
  obtain ⟨z,hz,hr⟩:=Vg.bindE H
  exact h z hz fun _ _ hs hw=>(hy z hr).conseq hs hw
theorem RD.joinB {α β:Type} {m:Option α} {k:α→Option β} {r:β} (H:m.bind k = some r) (j:Nat) (d:Nat) (u:α→Value) (kept:Fr) (hk:Sub fr kept) (hy:∀ b,k b = some r→RD P n ops Q full Cw (plan.drop j) ((d,u b) :: kept) S)
    (h:∀ b,m = some b→(∀ fr',Sub fr' ((d,u b) :: kept)→RD P n ops Q full Cw (plan.drop j) fr' S)→RD P n ops Q full Cw plan fr S):RD P n ops Q full Cw plan fr S:=by
  obtain ⟨z,hz,hr⟩:=Vg.bindE H
  exact h z hz fun _ hs=>(hy z hr).conseq hs
theorem RD.know {p:Prop} (hp:∀ w,S w→p) (h:p→RD P n ops Q full Cw plan fr S):RD P n ops Q full Cw plan fr S:=by
  intro listed h1 h2 h3 h4 ⟨w,s⟩
  exact h (hp w s) listed h1 h2 h3 h4 ⟨w,s⟩
end

theorem dAndT {p q:Prop} [Decidable p] [Decidable q] (h:p):some (Value.bool (decide q)) = some (.bool (decide (p∧q))):=by simp [h]
theorem dAndF {p q:Prop} [Decidable p] [Decidable q] (h:¬ p):some (Value.bool false) = some (.bool (decide (p∧q))):=by simp [h]
theorem dOrT {p q:Prop} [Decidable p] [Decidable q] (h:p):some (Value.bool true) = some (.bool (decide (p ∨ q))):=by simp [h]
theorem dOrF {p q:Prop} [Decidable p] [Decidable q] (h:¬ p):some (Value.bool (decide q)) = some (.bool (decide (p ∨ q))):=by simp [h]
theorem bne_of {b:Bool} (h:b = false):¬ b = true:=by rw [h]; exact Bool.false_ne_true
theorem dOrFB {p:Prop} [Decidable p] {b:Bool} (h:¬ p):some (Value.bool b) = some (.bool (decide (p ∨ b = true))):=by simp [h]
theorem pos_of {i:Int} {n:Nat} (h:0 ≤ i∧i < (n:Int)):0 < n:=by omega
theorem idx_of {i:Int} {m n:Nat} (e:m = n) (h:0 ≤ i∧i < (m:Int)):0 ≤ i∧i < (n:Int):=e ▸ h
def dead:Ch:=fun _=>True
section
variable {w0:World} {G:List Ch}
theorem Sat.relen {α:Type} [Enc α] {w:World} {B:Hp} {e:TypeId} {q:Option Nat × Nat} {m:Nat} {xs:List α} (k:Nat) (h:Sat w0 G w) (hk:G[k]? = some (row B e (rowV q m) xs)):Sat w0 (G.set k (row B e (rowV q xs.length) xs)) w :=
  h.weaken k hk _ fun p hp=>by rw [← (h.row_fits hk).1]; exact hp
theorem Sat.nilRow {α:Type} [Enc α] {w:World} (e:TypeId) (h:Sat w0 G w):Sat w0 (G ++ [row nilH e (rowV (none,0) 0) ([]:List α)]) w:=h.addEmpty _ (fun p=>.inl ⟨rfl,rfl⟩)
theorem Sat.litRow {α:Type} [Enc α] {w:World} {n b:Nat} {cs:List Value} {e:TypeId} (k:Nat) (xs:List α) (h:Sat w0 G w) (hk:G[k]? = some (blk b cs e)) (hm:n ≤ maxLen) (hl:xs.length = n) (hr:RF nilH xs cs) :
    Sat w0 (G.set k (row nilH e (rowV (some b,n) n) xs)) w :=
  h.weaken k hk _ fun p hp=>.inr ⟨b,n,cs,[],by rw [hl]; rfl,by simpa [blk] using hp,by omega,hm,by have:=hr.length; simp [this,hl],hr.mono (nilH_le _)⟩
theorem Sat.ofRest {w:World} {k j:Nat} {D:Ch} (h:Sat w0 [restOf G k] w) (hj:G[j]? = some D) (hne:j ≠ k):Sat w0 [D] w:=by
  obtain ⟨e,own,h2⟩:=h
  obtain ⟨p,⟨own',hp⟩,hb⟩:=h2 0 _ rfl
  obtain ⟨q,hq,hbq⟩:=hp j D hne hj
  refine ⟨e,fun _=>0,fun i C hi=>?_⟩
  match i,hi with
  | 0,hi =>
    simp at hi; subst hi
    exact ⟨q,hq,fun b o hbo=>⟨(hb b o (hbq b o hbo).2).1,rfl,(hb b o (hbq b o hbo).2).2.2⟩⟩
  | i + 1,hi=>simp at hi
theorem Rd.rest {α:Type} [Enc α] {k:Nat} (jj:Nat) {D:Ch} (hj:G[jj]? = some D) (hne:jj ≠ k) {x:α} {cs:List Value} (h:Rd (Sat w0 [D]) x cs):Rd (Sat w0 [restOf G k]) x cs:=fun w s=>h w (s.ofRest hj hne)
theorem Rd.ofFrame {α:Type} [Enc α] (k:Nat) {F:Ch} (hk:G[k]? = some F) {x:α} {cs:List Value} (h:Rd (Sat w0 [F]) x cs):Rd (Sat w0 G) x cs:=fun w s=>h w (s.pick [k] (by simp) (by simp [hk]))
theorem Rd.nil {α:Type} [Enc α] {S:As}:Rd S ([]:List α) [.slice none 0 0]:=fun w s=>⟨none,0,rfl,by simp,by simp,.inl rfl⟩
theorem Rd.ofLit {α:Type} [Enc α] {n b:Nat} {cs:List Value} {e:TypeId} {xs:List α} (k:Nat) (hk:G[k]? = some (blk b cs e)) (hm:n ≤ maxLen) (hl:xs.length = n) (hr:RF nilH xs cs):Rd (Sat w0 G) xs [.slice (some ⟨b,0,none⟩) n n] :=
  fun w s=>by
    have h1:=s.litRow (α:=α) k xs hk hm hl hr
    have h2:=h1.getRow (k:=k) (B:=nilH) (v:=rowV (some b,n) n) (by
      have hlt:=(List.getElem?_eq_some_iff.1 hk).1
      simp [hlt]; rfl) (nilH_le _)
    exact h2
theorem Sat.deadRow {w:World} (h:Sat w0 G w):Sat w0 (G ++ [dead]) w:=h.addEmpty _ (fun p=>trivial)
end
section
variable {P:Program} {n:Nat} {fr:Fr} {dst:Option Tmp} {ty:TypeId} {pos:String} {aft:Array Edge} {g:Option (Nat × Bool)} {S:As} {w0:World} {G:List Ch} {Q:Po}
theorem RS.weakS {ops:Array Oper} {l:List Oper} {S':As} (hs:∀ w,S w→S' w) (h:RS P n ops Q l fr S'):RS P n ops Q l fr S:=fun a w k s=>h a w k (hs w s)
theorem Sd.app1c {α:Type} [Enc α] [Flat α] (k k1:Nat) {B:Hp} {x y:Operand} {t e e':TypeId} {by':Nat} {z v:Value} {xs:List α} (y0:α) {news:List Value} {b c:Nat}
    (hk:G[k]? = some (row B e v xs)) (hk1:G[k1]? = some (blk b news e')) (hB:∀ b o,B b = some o→b < w0.heap.size)
    (ht:slTy P t = some (e,Enc.sz α,by')) (hz:zeroOf P e = some z) (hzs:z.cells.size = Enc.sz α) (hx:ev fr x = some v) (hy:ev fr y = some (.slice (some ⟨b,0,none⟩) 1 c))
    (hr:R nilH y0 news) (hlt:xs.length < 1099511627776) (hby:by' ≤ 128) :
    Sd P n ⟨dst,.call { callee:=.builtin .append,args:=#[x,y],argTypes:=#[t,t] },ty,pos,aft,g⟩ fr (Sat w0 G) (fun q=>rowV q (xs ++ [y0]).length) (fun q=>Sat w0 (G.set k (row B e (rowV q (xs ++ [y0]).length) (xs ++ [y0])))):=by
  have h:=Sd.app1 (P:=P) (n:=n) (fr:=fr) (dst:=dst) (ty:=ty) (pos:=pos) (aft:=aft) (g:=g) k k1 hk hk1 hB ht hz hzs hx hy hr
    (by have:=Nat.mul_le_mul (show xs.length + 1 ≤ 1099511627776 by omega) hby; omega) (by unfold maxLen; omega)
  simpa only [List.length_append,List.length_cons,List.length_nil,Nat.zero_add] using h
end
end Go.Vg
set_option linter.unusedSimpArgs false
set_option linter.unusedVariables false
namespace Go.Vg
inductive Pl
  | nil
  | st (i:Nat) (k:Kd) (r:Pl)
  | two (i:Nat) (k:Kd) (r:Pl) (j:Nat) (kj:Kd) (rj:Pl)
def Pl.len:Pl→Nat
  | .nil=>0
  | .st _ _ r=>r.len + 1
  | .two _ _ r _ _ _=>r.len + 1
def plOk (ops:Array Oper) (full:List (Nat × Kd)):Array Bool→Pl→Bool
  | listed,.nil=>(Region.ready .any ops listed).isEmpty
  | listed,.st i k r=>(Region.ready .any ops listed).contains i && full.lookup i == some k &&
    (match k with
      | .pu | .wk=>freeOf ops listed i
      | .rd=>freeOf ops listed i && full.all fun (j,kj)=>kj != .br || listed.getD j true || waits ops j i
      | .so | .br=>Region.ready .any ops listed == [i]) &&
    plOk ops full (listed.setIfInBounds i true) r
  | listed,.two i k r j kj rj=>Region.ready .any ops listed == [i,j] && full.lookup i == some k && full.lookup j == some kj && (k == .so || k == .br) && (kj == .so || kj == .br) && r.len == rj.len &&
    plOk ops full (listed.setIfInBounds i true) r && plOk ops full (listed.setIfInBounds j true) rj
def RT (P:Program) (n:Nat) (ops:Array Oper) (Q:Po) (full:List (Nat × Kd)) (Cw:As) (pl:Pl) (fr:Fr) (S:As):Prop :=
  ∀ listed,plOk ops full listed pl = true→noSel ops = true→(∃ w,S w)→AX P n ops Q (fun i=>(full.lookup i).getD .so) Cw pl.len listed fr S
def RT1 (P:Program) (n:Nat) (ops:Array Oper) (Q:Po) (full:List (Nat × Kd)) (Cw:As) (i:Nat) (k:Kd) (r:Pl) (fr:Fr) (S:As):Prop :=
  ∀ listed:Array Bool,full.lookup i = some k→plOk ops full (listed.setIfInBounds i true) r = true→noSel ops = true→(∃ w,S w) →
    StepX P n ops (fun i=>(full.lookup i).getD .so) Cw i fr S (fun fr' S'=>AX P n ops Q (fun i=>(full.lookup i).getD .so) Cw r.len (listed.setIfInBounds i true) fr' S')
section
variable {P:Program} {n:Nat} {ops:Array Oper} {Q:Po} {full:List (Nat × Kd)} {Cw S:As} {fr:Fr} {pl:Pl}
theorem mem_of_lookup {j:Nat}:∀ {l:List (Nat × Kd)} {k:Kd},l.lookup j = some k→(j,k) ∈ l
  | x :: l,k,h=>by
    obtain ⟨y,ky⟩:=x
    rw [List.lookup_cons] at h
    split at h
    · rename_i e; cases h; simp at e; simp [e]
    · exact List.mem_cons_of_mem _ (mem_of_lookup h)
theorem RT.nil (h:Cont n (Q .normal) fr S):RT P n ops Q full Cw .nil fr S:=fun listed hp _ _=>⟨by simpa [plOk] using hp,h⟩
theorem RT.quiet {i:Nat} {k:Kd} {o:Oper} {v:Value} (C:As) (hi:ops[i]? = some o) (hk:k = .pu ∨ k = .wk ∨ k = .rd) (hcl:ClE S) (hcw:∀ w,S w→Cw w) (hC:∀ w,S w→C w) (hkC:k ≠ .rd→∀ w,Cw w→C w)
    (hq:QX P n ops o fr C v) (h:RT P n ops Q full Cw pl (putF o.dst v fr) S):RT P n ops Q full Cw (.st i k pl) fr S:=by
  intro listed hp hns hex
  simp only [plOk,Bool.and_eq_true,List.contains_iff_mem,beq_iff_eq] at hp
  obtain ⟨⟨⟨h1,hf⟩,h2⟩,h3⟩:=hp
  have hnb:k ≠ .br:=by rcases hk with rfl | rfl | rfl <;> simp
  have hfree:freeOf ops listed i = true:=by
    rcases hk with rfl | rfl | rfl <;> simp at h2
    · exact h2
    · exact h2
    · exact h2.1
  refine AX.first (noSel_spec hns) hi (by simp [hf,hnb]) pl.len listed fr S C hcl hcw hC ?_ (freeOf_spec hi hfree) h1 hq (h _ h3 hns hex)
  intro j hkj hl hw
  by_cases hkr:k = .rd
  · subst hkr
    simp only [Bool.and_eq_true,List.all_eq_true] at h2
    have hj:full.lookup j = some .br:=by
      cases hlj:full.lookup j with
      | none=>simp [hlj] at hkj
      | some x=>simp [hlj] at hkj; rw [hkj]
    have:=h2.2 _ (mem_of_lookup hj)
    simp [hw] at this
    have e:listed[j]?.getD true = false:=by simpa using hl
    rw [e] at this; cases this
  · exact hkC hkr
theorem RT1.solid {i:Nat} {k:Kd} {o:Oper} (hi:ops[i]? = some o) (hk:k = .so ∨ k = .br) {ι:Type} {val:ι→Value} {S':ι→As} (hd:dOk n o.dst = true) (hg:gval ops fr o.guard = some true) (hs:Sd P n o fr S val S')
    (hcl:∀ x,ClE (S' x)) (hcw:∀ x w,S' x w→Cw w) (hpre:k = .so→∀ x w,S' x w→S w) (h:∀ x,RT P n ops Q full Cw pl (putF o.dst (val x) fr) (S' x)):RT1 P n ops Q full Cw i k pl fr S:=by
  intro listed hf hp hns hex
  unfold StepX
  simp only [hi]
  refine ⟨hd,.inr ⟨hg,ι,val,S',hs,hcl,hcw,fun hnb=>?_,fun x hey=>h x _ hp hns hey⟩⟩
  rcases hk with rfl | rfl
  · exact hpre rfl
  · simp [hf] at hnb
theorem RT.solid {i:Nat} {k:Kd} {o:Oper} (hi:ops[i]? = some o) (hk:k = .so ∨ k = .br) {ι:Type} {val:ι→Value} {S':ι→As} (hd:dOk n o.dst = true) (hg:gval ops fr o.guard = some true) (hs:Sd P n o fr S val S')
    (hcl:∀ x,ClE (S' x)) (hcw:∀ x w,S' x w→Cw w) (hpre:k = .so→∀ x w,S' x w→S w) (h:∀ x,RT P n ops Q full Cw pl (putF o.dst (val x) fr) (S' x)):RT P n ops Q full Cw (.st i k pl) fr S:=by
  intro listed hp hns hex
  simp only [plOk,Bool.and_eq_true,List.contains_iff_mem,beq_iff_eq] at hp
  obtain ⟨⟨⟨h1,hf⟩,h2⟩,h3⟩:=hp
  have hone:Region.ready .any ops listed = [i]:=by rcases hk with rfl | rfl <;> simpa using h2
  refine ⟨fun h0=>(by rw [hone] at h0; cases h0),fun j hj=>?_⟩
  rw [hone] at hj
  simp at hj; subst hj
  exact RT1.solid hi hk hd hg hs hcl hcw hpre h listed hf h3 hns hex
theorem RT.two {i j:Nat} {k kj:Kd} {r rj:Pl} (h1:RT1 P n ops Q full Cw i k r fr S) (h2:RT1 P n ops Q full Cw j kj rj fr S):RT P n ops Q full Cw (.two i k r j kj rj) fr S:=by
  intro listed hp hns hex
  simp only [plOk,Bool.and_eq_true,Bool.or_eq_true,beq_iff_eq] at hp
  obtain ⟨⟨⟨⟨⟨⟨⟨hr,hf⟩,hfj⟩,_⟩,_⟩,hl⟩,hp1⟩,hp2⟩:=hp
  refine ⟨fun h0=>(by rw [hr] at h0; cases h0),fun y hy=>?_⟩
  rw [hr] at hy
  simp at hy
  rcases hy with rfl | rfl
  · exact h1 listed hf hp1 hns hex
  · have:=h2 listed hfj hp2 hns hex
    rw [← hl] at this
    exact this
theorem RT.p {i:Nat} {o:Oper} {v:Value} {w0:World} {G:List Ch} (hcw:∀ w,Sat w0 G w→Cw w) (hi:ops[i]? = some o) (h:Pu P n o fr v) (hg:gval ops fr o.guard = some true) (hd:dOk n o.dst = true)
    (hr:RT P n ops Q full Cw pl (putF o.dst v fr) (Sat w0 G)):RT P n ops Q full Cw (.st i .pu pl) fr (Sat w0 G) :=
  RT.quiet (fun _=>True) hi (.inl rfl) (ClE.sat _ _) hcw (fun _ _=>trivial) (fun _ _ _=>trivial) ⟨hd,.inr ⟨hg,h.qt⟩⟩ hr
theorem RT.q {i:Nat} {o:Oper} {v:Value} {w0:World} {G:List Ch} (hcw:∀ w,Sat w0 G w→Cw w) (hi:ops[i]? = some o) (h:Qt P n o fr (Sat w0 G) v) (hg:gval ops fr o.guard = some true) (hd:dOk n o.dst = true)
    (hr:RT P n ops Q full Cw pl (putF o.dst v fr) (Sat w0 G)):RT P n ops Q full Cw (.st i .rd pl) fr (Sat w0 G) :=
  RT.quiet (Sat w0 G) hi (.inr (.inr rfl)) (ClE.sat _ _) hcw (fun _ s=>s) (fun h=>absurd rfl h) ⟨hd,.inr ⟨hg,h⟩⟩ hr
theorem RT.w {i:Nat} {o:Oper} {v:Value} {w0:World} {G:List Ch} (hcw:∀ w,Sat w0 G w→Cw w) (hi:ops[i]? = some o) (h:Qt P n o fr Cw v) (hg:gval ops fr o.guard = some true) (hd:dOk n o.dst = true)
    (hr:RT P n ops Q full Cw pl (putF o.dst v fr) (Sat w0 G)):RT P n ops Q full Cw (.st i .wk pl) fr (Sat w0 G) :=
  RT.quiet Cw hi (.inr (.inl rfl)) (ClE.sat _ _) hcw hcw (fun _ _ h=>h) ⟨hd,.inr ⟨hg,h⟩⟩ hr
theorem T.drawnT {id:Nat} (Cw:As) (full:List (Nat × Kd)) (pl:Pl) (hm:P.follows .mixedOrders = true) (hcl:ClE S) (hp:(plOk ops full (Array.replicate ops.size false) pl && noSel ops && pl.len == ops.size) = true)
    (h:RT P n ops Q full Cw pl fr S):T P n (.region id ops true) fr S Q:=by
  simp only [Bool.and_eq_true,beq_iff_eq] at hp
  obtain ⟨⟨h1,h2⟩,h3⟩:=hp
  intro a w k s
  refine wp_region_any hm ?_
  have hx:=h _ h1 h2 ⟨_,hcl _ _ s (Ext.drawn w 0)⟩
  rw [h3] at hx
  exact hx.sound _ _ _ _ a _ k (hcl _ _ s (Ext.drawn w _))
end
theorem T.weakS {P:Program} {n:Nat} {fr:Fr} {S S':As} {Q:Po} {c:Code} (hs:∀ w,S w→S' w) (h:T P n c fr S' Q):T P n c fr S Q:=fun a w k s=>h a w k (hs w s)
section
variable {P:Program} {n:Nat} {ops:Array Oper} {Q:Po} {full plan:List (Nat × Kd)} {Cw S:As} {fr:Fr}
end
theorem Cont.weakS {n:Nat} {K:Act→World→Prop} {fr:Fr} {S S':As} (hs:∀ w,S w→S' w) (h:Cont n K fr S'):Cont n K fr S:=fun a w k s=>h a w k (hs w s)
theorem Sat.cellB {w0 w:World} {G:List Ch} (k:Nat) {b:Nat} {cs cs':List Value} {t:TypeId} (h:Sat w0 G w) (hk:G[k]? = some (blk b cs t)) (e:cs = cs'):Sat w0 (G.set k (blk b cs' t)) w :=
  h.weaken k hk _ fun p hp=>by rw [← e]; exact hp
end Go.Vg
set_option linter.unusedSimpArgs false
set_option linter.unusedVariables false
namespace Go.Vg
open Enc (R)
open Go.MapKept

section
variable {w0 w:World} {G:List Ch}
theorem Sat.exAt {ι:Type} {C:ι→Ch} (k:Nat) (hk:G[k]? = some (exch C)) (h:Sat w0 G w):∃ i,Sat w0 (G.set k (C i)) w:=by
  obtain ⟨h1,own,h2⟩:=h
  have hli:k < G.length:=(List.getElem?_eq_some_iff.1 hk).1
  obtain ⟨p,⟨i,hi⟩,hb⟩:=h2 k _ hk
  refine ⟨i,h1,own,fun j D hj=>?_⟩
  by_cases hji:k = j
  · subst hji
    rw [List.getElem?_set_self hli] at hj
    exact ⟨p,by have:=Option.some.inj hj; subst this; exact hi,hb⟩
  · rw [List.getElem?_set_ne hji] at hj
    exact h2 j D hj
open Classical in
theorem Sat.splitAt {A B:Ch} (k:Nat) (hk:G[k]? = some (star A B)) (h:Sat w0 G w):Sat w0 (G.set k A ++ [B]) w:=by
  obtain ⟨h1,own,h2⟩:=h
  have hli:k < G.length:=(List.getElem?_eq_some_iff.1 hk).1
  obtain ⟨r,⟨p,q,hp,hq,hd,h3,h4⟩,hb⟩:=h2 k _ hk
  refine ⟨h1,fun b=>if own b = k then (if p b = none then G.length else k) else own b,fun j D hj=>?_⟩
  rw [List.getElem?_append] at hj
  split at hj
  · rename_i hjl
    by_cases hji:k = j
    · subst hji
      rw [List.getElem?_set_self hli] at hj
      have:=Option.some.inj hj; subst this
      exact ⟨p,hp,fun b o hbo=>by
        obtain ⟨a1,a2,a3⟩:=hb b o (h3 b o hbo)
        exact ⟨a1,by simp [a2,hbo],a3⟩⟩
    · rw [List.getElem?_set_ne hji] at hj
      obtain ⟨u,hu,hbu⟩:=h2 j D hj
      exact ⟨u,hu,fun b o hbo=>by
        obtain ⟨a1,a2,a3⟩:=hbu b o hbo
        exact ⟨a1,by show (if own b = k then _ else own b) = j; rw [a2,if_neg (fun e=>hji e.symm)],a3⟩⟩
  · rename_i hge
    rw [List.length_set] at hge hj
    have hj0:j - G.length = 0:=by
      rcases Nat.lt_or_ge (j - G.length) 1 with h | h
      · omega
      · simp [List.getElem?_eq_none (l:=[B]) (by simpa using h)] at hj
    rw [hj0] at hj
    simp at hj; subst hj
    exact ⟨q,hq,fun b o hbo=>by
      obtain ⟨a1,a2,a3⟩:=hb b o (h4 b o hbo)
      have hpn:p b = none:=(hd b).resolve_right (by rw [hbo]; simp)
      refine ⟨a1,?_,a3⟩
      show (if own b = k then (if p b = none then G.length else k) else own b) = j
      rw [if_pos a2,if_pos hpn]; omega⟩
theorem Sat.openAt {ι:Type} {A:ι→Ch} {L:ι→List Ch} (k:Nat) (hk:G[k]? = some (exch fun i=>stars (A i :: L i))) (h:Sat w0 G w):∃ i,Sat w0 (G.set k (A i) ++ L i) w:=by
  obtain ⟨i,s⟩:=h.exAt k hk
  have hli:k < G.length:=(List.getElem?_eq_some_iff.1 hk).1
  refine ⟨i,?_⟩
  have s2:=s.splitAt (A:=A i) (B:=stars (L i)) k (by rw [List.getElem?_set_self hli]; rfl)
  rw [List.set_set] at s2
  exact Sat.unstars (L i) s2.rotB
end

def mNil:Int→Option Int:=fun _=>none
def kvs (L:List (Int × Int)):List (Value × Value):=L.map fun p=>(.int .i64 p.1,.int .i64 p.2)
def mapCh (b:Nat) (m:Int→Option Int):Ch:=fun h=>∃ es clock L,h b = some (.map es clock)∧es.toList.map (fun e=>(e.key,e.val)) = kvs L∧(L.map (·.1)).Nodup∧∀ k,m k = L.lookup k
def mpTy (P:Program) (t:TypeId):Bool:=match P.underlying t with
  | some (.map k e)=>(match P.underlying k with | some (.int .i64)=>true | _=>false) && (match (P.info? e).bind (·.zero) with | some (.int .i64 0)=>true | _=>false)
  | _=>false
theorem mpTy_spec {P:Program} {t:TypeId} (h:mpTy P t = true):∃ k e,P.underlying t = some (.map k e)∧P.underlying k = some (.int .i64)∧∃ i,P.info? e = some i∧i.zero = some (.int .i64 0):=by
  unfold mpTy at h
  split at h
  · rename_i k e hu
    simp only [Bool.and_eq_true] at h
    refine ⟨k,e,hu,?_,?_⟩
    · have:=h.1
      split at this
      · assumption
      · cases this
    · have h2:=h.2
      split at h2
      · rename_i hz
        obtain ⟨i,hi,hz⟩:=Option.bind_eq_some_iff.1 hz
        exact ⟨i,hi,hz⟩
      · cases h2
  · cases h
section
variable {P:Program} {n:Nat} {fr:Fr} {dst:Option Tmp} {ty:TypeId} {pos:String} {aft:Array Edge} {g:Option (Nat × Bool)} {S:As} {w0:World} {G:List Ch}
theorem Sat.getMap {w:World} {k b:Nat} {m:Int→Option Int} (h:Sat w0 G w) (hk:G[k]? = some (mapCh b m)) :
    ∃ es clock L,w.heap[b]? = some (.map es clock)∧es.toList.map (fun e=>(e.key,e.val)) = kvs L∧(L.map (·.1)).Nodup∧∀ k,m k = L.lookup k:=by
  obtain ⟨p,⟨es,clock,L,h1,h2⟩,hl,_⟩:=h.get k hk
  exact ⟨es,clock,L,hl _ _ h1,h2⟩
theorem Sat.setMap {w:World} {k b:Nat} {m m':Int→Option Int} (s:Sat w0 G w) (hk:G[k]? = some (mapCh b m)) {es:Array MapEntry} {clock:Nat} {L:List (Int × Int)}
    (h2:es.toList.map (fun e=>(e.key,e.val)) = kvs L) (h3:(L.map (·.1)).Nodup) (h4:∀ k,m' k = L.lookup k):Sat w0 (G.set k (mapCh b m')) { w with heap:=w.heap.setIfInBounds b (.map es clock) }:=by
  refine s.turn k hk _ rfl rfl rfl (by simp) fun p hp hl hb=>?_
  obtain ⟨es0,c0,L0,e0,_⟩:=hp
  have hbw:=hl _ _ e0
  obtain ⟨g1,g2⟩:=heap_set (o':=.map es clock) (show w.heap[b]? = some _ from hbw)
  refine ⟨fun c hc hn=>g2 c (fun e'=>by rw [e',e0] at hn; cases hn),fun c=>if c = b then some (.map es clock) else p c,⟨es,clock,L,by simp,h2,h3,h4⟩,fun c o hc=>?_⟩
  dsimp only at hc
  split at hc
  · rename_i hcb; subst hcb; cases hc
    exact ⟨.inl (by rw [e0]; simp),g1⟩
  · rename_i hcb
    exact ⟨.inl (by rw [hc]; simp),by show (w.heap.setIfInBounds b (.map es clock))[c]? = _; rw [g2 c hcb]; exact hl _ _ hc⟩
theorem Sd.makeMap {t:TypeId}:Sd P n ⟨dst,.makeMap t none,ty,pos,aft,g⟩ fr (Sat w0 G) (fun b:Nat=>.map (some b)) (fun b=>Sat w0 (G ++ [mapCh b mNil])):=fun a w k s=>by
  have:(execOp a.eval ⟨dst,.makeMap t none,ty,pos,aft,g⟩).run P w = .ok (.value (.map (some w.heap.size))) (w.alloc (.map #[] 0)):=by
    simp [execOp,Instr.makeMap]
  rw [this]
  refine ⟨w.heap.size,rfl,s.new (Ext.alloc w _) _ (fun b=>if b = w.heap.size then some (.map #[] 0) else none) ⟨#[],0,[],by simp,rfl,by simp,fun k=>rfl⟩ (fun b o hb=>?_) (fun b o hb=>?_)⟩
  · dsimp only at hb
    split at hb
    · rename_i hb'; subst hb'; cases hb
      exact (heap_alloc w _).1
    · cases hb
  · split at hb
    · omega
    · cases hb
theorem Sd.mapClear (k:Nat) {t:TypeId} {x:Operand} {b:Nat} {m:Int→Option Int} (ht:mpTy P t = true) (hx:ev fr x = some (.map (some b))) (hk:G[k]? = some (mapCh b m)) :
    Sd P n ⟨none,.call { callee:=.builtin .clear,args:=#[x],argTypes:=#[t] },ty,pos,aft,g⟩ fr (Sat w0 G) (fun _:Unit=>.tuple #[]) (fun _=>Sat w0 (G.set k (mapCh b mNil))):=fun a w kn s=>by
  obtain ⟨kt,et,u1,u2,inf,u3,u4⟩:=mpTy_spec ht
  obtain ⟨es,clock,L,e1,e2,e3,e4⟩:=s.getMap hk
  have hr:(execOp a.eval ⟨none,.call { callee:=.builtin .clear,args:=#[x],argTypes:=#[t] },ty,pos,aft,g⟩).run P w = .ok (.value (.tuple #[])) { w with heap:=w.heap.setIfInBounds b (.map #[] clock) }:=by
    simp [execOp,kn.ev hx,resolve,invoke,builtin,Builtin.clear_,run_underlying u1,Go.MapKept.run_getObj_map e1,Result.andThen,Go.MapKept.run_setObj_map _ e1]
  rw [hr]
  exact ⟨(),rfl,s.setMap hk (L:=[]) rfl (by simp) (fun q=>rfl)⟩

theorem run_callF {f:FuncId} {xs:List Operand} {ts:Array TypeId} {vs:List Value} (hx:evs fr xs = some vs) {a:Act} (k:Knows n fr a) (w:World) :
    (execOp a.eval ⟨dst,.call { callee:=.value (.func f),args:=xs.toArray,argTypes:=ts },ty,pos,aft,g⟩).run P w = (callFunc f vs.toArray).run P w:=by
  have:=k.evs hx
  simp [execOp,resolve,Act.eval,Deferred.ofValue,invoke,this]
end

section
variable {P:Program} {n:Nat} {fr:Fr} {dst:Option Tmp} {ty:TypeId} {pos:String} {aft:Array Edge} {g:Option (Nat × Bool)} {S:As} {w0:World} {G:List Ch}
theorem Sd.callF (k:Nat) {C C':Ch} {f:FuncId} {xs:List Operand} {ts:Array TypeId} {vs:List Value} (he:Ent P f) (hx:evs fr xs = some vs) (hk:G[k]? = some C) {ι:Type} {val:ι→Value} {D:ι→List Ch}
    (hc:∀ w,Sat w0 [C,restOf G k] w→Calls P f vs.toArray w (fun e w'=>∃ i,e = .returned (val i)∧Sat w0 ([C',restOf G k] ++ D i) w')) :
    Sd P n ⟨dst,.call { callee:=.value (.func f),args:=xs.toArray,argTypes:=ts },ty,pos,aft,g⟩ fr (Sat w0 G) val (fun i=>Sat w0 (G.set k C' ++ D i)) :=
  Sd.call he hx fun w s=>(hc w (s.focus hk)).mono fun e w' ⟨i,h1,h2⟩=>⟨i,h1,Sat.unfocus (List.getElem?_eq_some_iff.1 hk).1 h2⟩
theorem Sd.callF0 (k:Nat) {C C':Ch} {v:Value} {f:FuncId} {xs:List Operand} {ts:Array TypeId} {vs:List Value} (he:Ent P f) (hx:evs fr xs = some vs) (hk:G[k]? = some C)
    (hc:∀ w,Sat w0 [C,restOf G k] w→Calls P f vs.toArray w (fun e w'=>e = .returned v∧Sat w0 [C',restOf G k] w')) :
    Sd P n ⟨dst,.call { callee:=.value (.func f),args:=xs.toArray,argTypes:=ts },ty,pos,aft,g⟩ fr (Sat w0 G) (fun _:Unit=>v) (fun _=>Sat w0 (G.set k C')) :=
  Sd.call he hx fun w s=>(hc w (s.focus hk)).mono fun e w' ⟨h1,h2⟩=>⟨(),h1,by
    have:=Sat.unfocus (D:=[]) (List.getElem?_eq_some_iff.1 hk).1 (by simpa using h2)
    simpa using this⟩
end
def optA {α:Type} (g:Nat):Option α→Option Addr
  | none=>none
  | some _=>some ⟨g,0,none⟩
def optCh {α:Type} (C:Nat→α→Ch) (g:Nat):Option α→Ch
  | none=>dead
  | some x=>C g x
theorem Sat.optSome {α:Type} {w0 w:World} {G:List Ch} {C:Nat→α→Ch} {g:Nat} {x:α} (k:Nat) (hk:G[k]? = some (optCh C g (some x))) (h:Sat w0 G w):Sat w0 (G.set k (C g x)) w:=by
  have:G.set k (C g x) = G:=by
    obtain ⟨hl,he⟩:=List.getElem?_eq_some_iff.1 hk
    show G.set k (optCh C g (some x)) = G
    exact he ▸ List.set_getElem_self hl
  rw [this]; exact h
section
variable {P:Program} {n:Nat} {fr:Fr} {dst:Option Tmp} {ty:TypeId} {pos:String} {aft:Array Edge} {g:Option (Nat × Bool)}
end

theorem Rd.drop {α:Type} [Enc α] {S:As} {xs:List α} {p:Option Addr} {len cap sz:Nat} (h:Rd S xs [.slice p len cap]) {k:Nat} (hk:k ≤ xs.length) (hsz:sz = Enc.sz α):Rd S (xs.drop k) [.slice (cutP p cap k sz) (len - k) (cap - k)]:=by
  subst hsz; exact fun w s=>drop_reads (h w s) hk
theorem row_take2 {α:Type} [Enc α] {B:Hp} {e:TypeId} {q:Option Nat × Nat} {m k:Nat} {xs:List α} {p:Hp} (h:row B e (rowV q m) xs p) (hk:k ≤ xs.length):row B e (rowV q k) (xs.take k) p:=by
  obtain ⟨o,c⟩:=q
  cases o with
  | some g=>exact row_take h hk rfl
  | none =>
    rcases h with ⟨hv,rfl⟩ | ⟨g,cap,cs,sp,hv,_⟩
    · simp [rowV] at hv hk
      obtain ⟨rfl,rfl⟩:=hv
      subst hk
      exact .inl ⟨rfl,rfl⟩
    · simp [rowV] at hv
theorem Sat.cutRow {α:Type} [Enc α] {w0 w:World} {G:List Ch} {B:Hp} {e:TypeId} {q:Option Nat × Nat} {m:Nat} {xs:List α} (k:Nat) (j:Nat) (hk:G[k]? = some (row B e (rowV q m) xs)) (hj:j ≤ xs.length) (h:Sat w0 G w) :
    Sat w0 (G.set k (row B e (rowV q j) (xs.take j))) w:=h.weaken k hk _ fun p hp=>row_take2 hp hj
theorem le_nat {j:Int} {n:Nat} (h:0 ≤ j∧j ≤ (n:Int)):j.toNat ≤ n:=by omega
section
variable {P:Program} {n:Nat} {fr:Fr} {dst:Option Tmp} {ty:TypeId} {pos:String} {aft:Array Edge} {g:Option (Nat × Bool)} {S:As} {w0:World} {G:List Ch}
theorem Sd.appR {α:Type} [Enc α] [Flat α] (k:Nat) {B:Hp} (hB:∀ b o,B b = some o→b < w0.heap.size) {x y:Operand} {t e:TypeId} {by':Nat} {z v vy:Value} {xs ys:List α} (hk:G[k]? = some (row B e v xs))
    (ht:slTy P t = some (e,Enc.sz α,by')) (hz:zeroOf P e = some z) (hzs:z.cells.size = Enc.sz α) (hx:ev fr x = some v) (hy:ev fr y = some vy) (hR:Rd (Sat w0 G) ys [vy])
    (hlt:xs.length + ys.length < 1099511627776) (hby:by' ≤ 128) :
    Sd P n ⟨dst,.call { callee:=.builtin .append,args:=#[x,y],argTypes:=#[t,t] },ty,pos,aft,g⟩ fr (Sat w0 G) (fun q=>rowV q (xs ++ ys).length) (fun q=>Sat w0 (G.set k (row B e (rowV q (xs ++ ys).length) (xs ++ ys)))):=fun a w kn s=>by
  have hbytes:(xs.length + ys.length) * by' ≤ 140737488355328:=by
    have:=Nat.mul_le_mul (show xs.length + ys.length ≤ 1099511627776 by omega) hby; omega
  have h63:xs.length + ys.length ≤ maxLen:=by unfold maxLen; omega
  obtain ⟨p',cap',e',s1,s2,s3⟩:=hR w s
  simp only [List.cons.injEq,and_true] at e'
  subst e'
  have fin:∀ v' w',(Builtin.append_ #[t,t] ty #[v,.slice p' ys.length cap']).run P w = .ok v' w'→Sat w0 (G.set k (row B e v' (xs ++ ys))) w' →
      solidRes P (fun q=>rowV q (xs ++ ys).length) (fun q=>Sat w0 (G.set k (row B e (rowV q (xs ++ ys).length) (xs ++ ys)))) ((execOp a.eval ⟨dst,.call { callee:=.builtin .append,args:=#[x,y],argTypes:=#[t,t] },ty,pos,aft,g⟩).run P w):=fun v' w' hr hs=>by
    rw [run_builtin_append kn hx hy hr]
    have hkl:k < (G.set k (row B e v' (xs ++ ys))).length:=by simpa using (List.getElem?_eq_some_iff.1 hk).1
    obtain ⟨p,hp,_⟩:=hs.get k (List.getElem?_set_self (by simpa using hkl))
    obtain ⟨q',hq⟩:=row_shape hp
    exact ⟨q',hq,by show Sat w0 (G.set k (row B e (rowV q' (xs ++ ys).length) (xs ++ ys))) w'; rw [show rowV q' (xs ++ ys).length = v' from hq.symm]; exact hs⟩
  cases p' with
  | none =>
    have hnil:ys = []:=by
      rcases s3 with h | ⟨b,o,cs,hq,_⟩
      · exact h
      · cases hq
    subst hnil
    obtain ⟨p,hp,_⟩:=s.get k hk
    obtain ⟨q',hq⟩:=row_shape hp
    obtain ⟨hu,i,hi,_,_⟩:=slTy_spec ht
    have hlc:xs.length ≤ q'.2:=by
      have h2:=s.row_fits (k:=k) (B:=B) (e:=e) (xs:=xs) (q:=q') (m:=xs.length) (by rw [hk,hq]; rfl)
      exact h2.2.1
    refine fin v w ?_ (by
      have e1:G.set k (row B e v (xs ++ [])) = G:=by
        rw [List.append_nil]
        obtain ⟨hl,he⟩:=List.getElem?_eq_some_iff.1 hk
        exact he ▸ List.set_getElem_self hl
      rw [e1]; exact s)
    subst hq
    obtain ⟨o,c⟩:=q'
    have hlc':xs.length ≤ c:=hlc
    cases o <;> simp [Builtin.append_,run_underlying hu,sizeOf,typeInfo,hi,Builtin.lenOf,Builtin.firstCells,storeCells,hlc']
  | some q =>
    rcases s3 with rfl | ⟨b,o,cs,hq,hr,ha⟩
    · obtain ⟨v',w',hr',hs⟩:=s.append (ty:=ty) hk ht hz hzs hB (rowAnd_flat (h0:=nilH) (ys:=[]) (news:=[]) (by simp [RF])) (q:=q) (c:=cap') rfl (by simp) hbytes h63
      exact fin v' w' hr' hs
    · cases hq
      obtain ⟨v',w',hr',hs⟩:=s.append (ty:=ty) hk ht hz hzs hB (rowAnd_flat hr) (q:=⟨b,o,none⟩) (c:=cap') rfl (fun j u hj=>by rw [add_lit]; exact ha.cell hj) hbytes h63
      exact fin v' w' hr' hs
end
section
variable {P:Program} {n:Nat} {fr:Fr} {dst:Option Tmp} {ty:TypeId} {pos:String} {aft:Array Edge} {g:Option (Nat × Bool)} {S:As} {w0:World} {G:List Ch}
theorem Sd.callM (k:Nat) {C:Ch} {f:FuncId} {xs:List Operand} {ts:Array TypeId} {vs:List Value} (he:Ent P f) (hx:evs fr xs = some vs) (hk:G[k]? = some C) {ι:Type} {val:ι→Value} {C':ι→Ch}
    (hc:∀ w,Sat w0 [C,restOf G k] w→Calls P f vs.toArray w (fun e w'=>∃ i,e = .returned (val i)∧Sat w0 [C' i,restOf G k] w')) :
    Sd P n ⟨dst,.call { callee:=.value (.func f),args:=xs.toArray,argTypes:=ts },ty,pos,aft,g⟩ fr (Sat w0 G) val (fun i=>Sat w0 (G.set k (C' i))) :=
  Sd.call he hx fun w s=>(hc w (s.focus hk)).mono fun e w' ⟨i,h1,h2⟩=>⟨i,h1,by
    have:=Sat.unfocus (D:=[]) (List.getElem?_eq_some_iff.1 hk).1 (by simpa using h2)
    simpa using this⟩
end
end Go.Vg
set_option linter.unusedSimpArgs false
set_option linter.unusedVariables false
namespace Go.Vg
open Enc (R)
section
variable {w0:World} {G:List Ch}
theorem Sat.rowCells {α:Type} [Enc α] [Flat α] {w:World} {k g c m:Nat} {B:Hp} {e:TypeId} {xs:List α} (s:Sat w0 G w) (hk:G[k]? = some (row B e (rowV (some g,c) m) xs)) :
    ∃ cs sp,w.heap[g]? = some (.cells (cs ++ sp).toArray e (0,0))∧RF nilH xs cs∧(cs ++ sp).length = c * Enc.sz α∧cs.length = xs.length * Enc.sz α∧m = xs.length∧m ≤ c∧c ≤ maxLen:=by
  obtain ⟨p,hp,hl,_⟩:=s.get k hk
  rcases hp with ⟨hv,_⟩ | ⟨g',cap,cs,sp,hv,h1,h2,h3,h4,h5⟩
  · simp [rowV] at hv
  · simp only [rowV,Option.map_some,Value.slice.injEq,Option.some.injEq,Addr.mk.injEq,and_true] at hv
    obtain ⟨rfl,rfl,rfl⟩:=hv
    exact ⟨cs,sp,hl _ _ h1,h5.any,h4,h5.length,rfl,h2,h3⟩
theorem Sat.rowPut {α β:Type} [Enc α] [Enc β] [Flat β] {w:World} {k g c m:Nat} {B:Hp} {e:TypeId} {xs:List α} (s:Sat w0 G w) (hk:G[k]? = some (row B e (rowV (some g,c) m) xs)) {xs':List β} {cs' sp':List Value} {m':Nat}
    (hr:RF nilH xs' cs') (hlen:(cs' ++ sp').length = c * Enc.sz β) (hm:m' = xs'.length) (hmc:m' ≤ c) (hcm:c ≤ maxLen):Sat w0 (G.set k (row B e (rowV (some g,c) m') xs')) (w.setRow g (cs' ++ sp').toArray):=by
  refine s.turn k hk _ rfl rfl rfl (by simp) fun p hp hlp hb=>?_
  rcases hp with ⟨hv,_⟩ | ⟨g',cap,cs,sp,hv,h1,h2,h3,h4,h5⟩
  · simp [rowV] at hv
  simp only [rowV,Option.map_some,Value.slice.injEq,Option.some.injEq,Addr.mk.injEq,and_true] at hv
  obtain ⟨rfl,rfl,rfl⟩:=hv
  refine ⟨fun d hd hdn=>setRow_other w g d _ (fun e'=>by rw [e',h1] at hdn; cases hdn),fun d=>if d = g then some (.cells (cs' ++ sp').toArray e (0,0)) else p d,.inr ⟨g,c,cs',sp',by rw [hm]; rfl,by simp,by omega,hcm,hlen,hr.any⟩,fun d o' hdo=>?_⟩
  dsimp only at hdo
  split at hdo
  · rename_i hdb; subst hdb; cases hdo
    exact ⟨.inl (by rw [h1]; simp),setRow_heap w d _ _ e (0,0) (hlp _ _ h1)⟩
  · rename_i hdb
    exact ⟨.inl (by rw [hdo]; simp),by rw [setRow_other w g d _ hdb]; exact hlp _ _ hdo⟩
end
section
variable {P:Program} {n:Nat} {fr:Fr} {dst:Option Tmp} {ty:TypeId} {pos:String} {aft:Array Edge} {g:Option (Nat × Bool)} {S:As} {w0:World} {G:List Ch}
theorem Pu.capSl {e:TypeId} {x:Operand} {at':TypeId} {sz by' len cap:Nat} {p:Option Addr} (ht:slTy P at' = some (e,sz,by')) (hx:ev fr x = some (.slice p len cap)) :
    Pu P n ⟨dst,.call { callee:=.builtin .cap,args:=#[x],argTypes:=#[at'] },ty,pos,aft,g⟩ fr (.int .i64 (cap:Nat)):=fun ac kn w=>by
  obtain ⟨h1,_⟩:=slTy_spec ht
  simp [execOp,resolve,invoke,builtin,Builtin.cap_,kn.ev hx,run_underlying h1,goInt]
theorem Sd.clearSp {α:Type} [Enc α] [Flat α] (k a0:Nat) {B:Hp} {x:Operand} {t e:TypeId} {by' gg c m l c2:Nat} {z:Value} {xs:List α} (hk:G[k]? = some (row B e (rowV (some gg,c) m) xs))
    (ht:slTy P t = some (e,Enc.sz α,by')) (hz:zeroOf P e = some z) (hzs:z.cells.size = Enc.sz α) (hz1:∀ u ∈ z.cells.toList,u.oneCell' = true) (hx:ev fr x = some (.slice (some ⟨gg,a0 * Enc.sz α,none⟩) l c2)) (hm:xs.length ≤ a0) (hl:a0 + l ≤ c) (hl0:0 < l) :
    Sd P n ⟨dst,.call { callee:=.builtin .clear,args:=#[x],argTypes:=#[t] },ty,pos,aft,g⟩ fr (Sat w0 G) (fun _:Unit=>.tuple #[]) (fun _=>Sat w0 G):=fun a w kn s=>by
  obtain ⟨cs,sp,h1,h2,h3,h4,rfl,h6,h7⟩:=s.rowCells hk
  obtain ⟨hu,inf,hin,hisz,_⟩:=slTy_spec ht
  obtain ⟨inf',hin',hz'⟩:=Option.bind_eq_some_iff.1 hz
  rw [hin] at hin'; cases hin'
  obtain ⟨Z,hZ⟩:∃ Z:List Value,Z = (Builtin.zeroCells z.cells l).toList:=⟨_,rfl⟩
  have hZl:Z.length = l * Enc.sz α:=by rw [hZ]; simp [Builtin.zeroCells,hzs]
  have hZ1:∀ u ∈ Z,u.oneCell' = true:=by
    intro u hu
    rw [hZ] at hu
    simp only [Builtin.zeroCells,Array.toList_map,List.mem_map,Array.toList_range,List.mem_range] at hu
    obtain ⟨i,hi,rfl⟩:=hu
    by_cases hsz:z.cells.size = 0
    · rw [hsz] at hi; simp at hi
    · have hlt:i % z.cells.size < z.cells.size:=Nat.mod_lt _ (by omega)
      rw [getElem!_pos z.cells _ hlt]
      exact hz1 _ (by simp)
  have hms:(a0 + l) * Enc.sz α ≤ c * Enc.sz α:=Nat.mul_le_mul_right _ hl
  have hma:xs.length * Enc.sz α ≤ a0 * Enc.sz α:=Nat.mul_le_mul_right _ hm
  rw [Nat.add_mul] at hms
  have hst:=run_storeCells_at (P:=P) gg (a0 * Enc.sz α) e Z 0 (cs ++ sp).toArray w h1 (by simp only [List.size_toArray]; simp at h3 ⊢; omega) hZ1
  simp only [Nat.add_zero,List.toList_toArray] at hst
  have hex:(execOp a.eval ⟨dst,.call { callee:=.builtin .clear,args:=#[x],argTypes:=#[t] },ty,pos,aft,g⟩).run P w = .ok (.value (.tuple #[])) (w.setRow gg ((cs ++ sp).take (a0 * Enc.sz α) ++ Z ++ (cs ++ sp).drop (a0 * Enc.sz α + Z.length)).toArray):=by
    cases l with
    | zero=>omega
    | succ l =>
      rw [hZ] at hst ⊢
      simp [execOp,kn.ev hx,resolve,invoke,builtin,Builtin.clear_,run_underlying hu,zeroValue,typeInfo,hin,hz',hst]
  rw [hex]
  refine ⟨(),rfl,?_⟩
  have e1:(cs ++ sp).take (a0 * Enc.sz α) ++ Z ++ (cs ++ sp).drop (a0 * Enc.sz α + Z.length) = cs ++ (sp.take (a0 * Enc.sz α - cs.length) ++ Z ++ (cs ++ sp).drop (a0 * Enc.sz α + Z.length)):=by
    rw [List.take_append,List.take_of_length_le (by omega)]; simp
  rw [e1]
  have s2:=s.rowPut hk (xs':=xs) (cs':=cs) (sp':=sp.take (a0 * Enc.sz α - cs.length) ++ Z ++ (cs ++ sp).drop (a0 * Enc.sz α + Z.length)) (m':=xs.length) h2 (by
    simp only [List.length_append,List.length_take,List.length_drop] at h3 ⊢
    omega) rfl h6 h7
  have e2:G.set k (row B e (rowV (some gg,c) xs.length) xs) = G:=by
    obtain ⟨hl,he⟩:=List.getElem?_eq_some_iff.1 hk
    exact he ▸ List.set_getElem_self hl
  rwa [e2] at s2

theorem zeroCells_flat (z:Array Value) (k:Nat) (hz:0 < z.size):(Builtin.zeroCells z k).toList = (List.replicate k z.toList).flatten:=by
  apply List.ext_getElem?
  intro i
  have hlen:((List.replicate k z.toList).flatten).length = k * z.size:=by simp
  by_cases hi:i < k * z.size
  · have h1:(Builtin.zeroCells z k).toList[i]? = some z[i % z.size]!:=by
      simp [Builtin.zeroCells,hi]
    rw [h1]
    have hlt:i % z.size < z.size:=Nat.mod_lt _ hz
    have key:∀ k i,i < k * z.size→((List.replicate k z.toList).flatten)[i]? = some (z[i % z.size]'(Nat.mod_lt _ hz)):=by
      intro k
      induction k with
      | zero=>intro i h; simp at h
      | succ k ih =>
        intro i h
        rw [List.replicate_succ,List.flatten_cons]
        by_cases hiz:i < z.size
        · rw [List.getElem?_append_left (by simpa using hiz)]
          simp [Nat.mod_eq_of_lt hiz,hiz]
        · rw [List.getElem?_append_right (by simpa using hiz)]
          have:=ih (i - z.size) (by rw [Nat.add_mul] at h; omega)
          simp only [Array.length_toList]
          rw [this]
          congr 1
          have e:i % z.size = (i - z.size) % z.size:=by
            rw [← Nat.mod_eq_sub_mod (by omega)]
          simp only [e]
    rw [key k i hi,getElem!_pos z _ hlt]
  · rw [List.getElem?_eq_none (by simp [Builtin.zeroCells]; omega),List.getElem?_eq_none (by rw [hlen]; omega)]
theorem Sd.appZeros {α:Type} [Enc α] [Flat α] (k i:Nat) {B:Hp} {x y:Operand} {t tn e:TypeId} {by' gg c m kk:Nat} {kn kq:IntKind} {z:Value} {z0:α} {xs:List α} {kv:Int} (hk:G[k]? = some (row B e (rowV (some gg,c) m) xs))
    (ht:slTy P t = some (e,Enc.sz α,by')) (hz:zeroOf P e = some z) (hz0:R nilH z0 z.cells.toList) (hs0:0 < Enc.sz α) (htn:P.underlying tn = some (.int kn)) (hx:ev fr x = some (rowV (some gg,c) i)) (hy:ev fr y = some (.int kq kv)) (hkv:kv = kk) (hi:i ≤ xs.length)
    (h0:0 < kk) (hg:c < i + kk) (hlt:i + kk < 1099511627776) (hby:by' ≤ 128) :
    Sd P n ⟨dst,.call { callee:=.builtin .append,args:=#[x,y],argTypes:=#[t,tn] },ty,pos,aft,g⟩ fr (Sat w0 G) (fun q=>rowV q (i + kk)) (fun q=>Sat w0 (G ++ [row nilH e (rowV q (i + kk)) (xs.take i ++ List.replicate kk z0)])):=fun a w kn' s=>by
  subst hkv
  obtain ⟨cs,sp,h1,h2,h3,h4,rfl,h6,h7⟩:=s.rowCells hk
  obtain ⟨hu,inf,hin,hisz,hiby⟩:=slTy_spec ht
  obtain ⟨inf',hin',hz'⟩:=Option.bind_eq_some_iff.1 hz
  rw [hin] at hin'; cases hin'
  have hzl:z.cells.size = Enc.sz α:=by have:=Enc.len hz0; simpa using this
  have hnb:(i + kk) * by' ≤ 140737488355328:=by
    have:=Nat.mul_le_mul (show i + kk ≤ 1099511627776 by omega) hby; omega
  have hkb:kk * by' ≤ (i + kk) * by':=Nat.mul_le_mul_right _ (by omega)
  have hold:(Builtin.firstCells inf.size i (.slice (some ⟨gg,0,none⟩) i c)).run P w.drew = .ok (cs.take (i * Enc.sz α)).toArray w.drew:=by
    have hl:(cs.take (i * Enc.sz α)).length = i * Enc.sz α:=by
      rw [List.length_take,h4]
      exact Nat.min_eq_left (Nat.mul_le_mul_right _ hi)
    have:=run_loadCells_list (P:=P) w.drew ⟨gg,0,none⟩ (cs.take (i * Enc.sz α)) (fun j v hj=>by
      rw [List.getElem?_take] at hj
      split at hj
      · rw [add_lit]
        have h1':w.drew.heap[gg]? = some (.cells (cs ++ sp).toArray e (0,0)):=h1
        simp only [World.cell?,h1']
        simp [List.getElem?_append_left (List.getElem?_eq_some_iff.1 hj).1,hj]
      · cases hj)
    simp only [Builtin.firstCells]
    rw [hl] at this
    rw [hisz]; exact this
  have hrun:=Lib.run_append_grow_zeros w t tn ty e inf z kq kn hu htn hin hz' (some ⟨gg,0,none⟩) i c (cs.take (i * Enc.sz α)) hold kk h0 (by omega) hg (by omega) (by rw [hiby]; omega) (by rw [hiby]; exact growslice_fits hg hnb)
  obtain ⟨N,hN⟩:∃ N,N = grownCap w (i + kk) c e:=⟨_,rfl⟩
  have hN1:i + kk ≤ N∧N ≤ maxLen:=by
    rw [hN]; exact ⟨grownCap_ge w (i + kk) c e,grownCap_le_maxLen w (i + kk) c e (by unfold maxLen; omega)⟩
  have hex:(execOp a.eval ⟨dst,.call { callee:=.builtin .append,args:=#[x,y],argTypes:=#[t,tn] },ty,pos,aft,g⟩).run P w = .ok (.value (.slice (some ⟨w.heap.size,0,none⟩) (i + kk) N)) (w.drew.alloc (.cells ((cs.take (i * Enc.sz α) ++ (List.replicate kk z.cells.toList).flatten) ++ (Builtin.zeroCells z.cells (N - (i + kk))).toList).toArray e)):=by
    rw [← hN] at hrun
    have hzc:(cs.take (i * Enc.sz α)).toArray ++ Builtin.zeroCells z.cells kk ++ Builtin.zeroCells z.cells (N - (i + kk)) = ((cs.take (i * Enc.sz α) ++ (List.replicate kk z.cells.toList).flatten) ++ (Builtin.zeroCells z.cells (N - (i + kk))).toList).toArray:=by
      rw [← zeroCells_flat z.cells kk (by omega)]
      apply Array.ext'
      simp
    rw [hzc] at hrun
    have hx':ev fr x = some (.slice (some ⟨gg,0,none⟩) i c):=hx
    simp [execOp,resolve,invoke,builtin,kn'.ev hx',kn'.ev hy,hrun]
  rw [hex]
  have hl:(xs.take i ++ List.replicate kk z0).length = i + kk:=by simp [Nat.min_eq_left hi]
  have s2:=s.newRow (w':=w.drew) rfl (Ext.drew w) nilH e (xs.take i ++ List.replicate kk z0) (cs.take (i * Enc.sz α) ++ (List.replicate kk z.cells.toList).flatten) N (Builtin.zeroCells z.cells (N - (i + kk))).toList (by omega) hN1.2 ?_ ((h2.take i).append (RF.replicate hz0 kk))
  · rw [hl] at s2
    exact ⟨(some w.heap.size,N),rfl,s2⟩
  · have e1:((h2.take i).append (RF.replicate hz0 kk)).length = ((h2.take i).append (RF.replicate hz0 kk)).length:=rfl
    have e2:=((h2.take i).append (RF.replicate hz0 kk)).length
    rw [List.length_append,e2,hl,Array.length_toList,Builtin.zeroCells,Array.size_map,Array.size_range,hzl,← Nat.add_mul]
    congr 1; omega

def isOvl (fn:Func) (tS tb:TypeId):Prop:=(fn.name == "runtime.NumGoroutine") = false∧fn.body.isNone = true∧Extern.findNext fn = none∧Extern.find fn = some (Extern.SlicesOverlaps.overlaps #[tS,tS] #[tb])
theorem run_overlaps2 {tS tR e:TypeId} {sz by':Nat} (ht:slTy P tS = some (e,sz,by')) (w:World) (a b:Addr) (la ca lb cb:Nat) (hne:a.block ≠ b.block) {c c':Array Value} {tA tB:TypeId} {fz:Nat × Nat} (ha:w.heap[a.block]? = some (.cells c tA fz)) (hc:0 < c.size)
    (hb:w.heap[b.block]? = some (.cells c' tB (0,0))) (hc':0 < c'.size) :
    (Extern.SlicesOverlaps.overlaps #[tS,tS] #[tR] #[.slice (some a) la ca,.slice (some b) lb cb]).run P w = .ok (.bool false) w:=by
  obtain ⟨hu,inf,hin,hisz,_⟩:=slTy_spec ht
  have hnb:(a.block != b.block) = true:=by simpa using hne
  have hnb':(a.block == b.block) = false:=by simpa using hne
  have hf1:w.frozen? b = false:=by simp [World.frozen?,hb]
  have hf2:w.frozen? { block:=b.block,off:=c'.size } = false:=by simp [World.frozen?,hb]
  have hsa:w.shape? a.block = some (tA,c.size):=by simp [World.shape?,ha]
  have hsb:w.shape? b.block = some (tB,c'.size):=by simp [World.shape?,hb]
  change Sem.run P (α:=Value) (do
    let some t:=(#[tS,tS]:Array TypeId)[0]? | stuck "slices.overlaps: no parameter types"
    let .slice elem ← underlying t | stuck "slices.overlaps: slice type expected"
    let size ← sizeOf elem
    match (some a:Option Addr),(some b:Option Addr) with
    | some a,some b =>
      if la = 0 ∨ lb = 0 ∨ size = 0 then pure (Value.bool false)
      else if a.block != b.block && (← frozen a) && (← frozen b) then unsupported .addressObserved
      else do
        if a.block != b.block then do
          noView a; noView b
          if ← mayBeOne a b then return Value.bool ((← choose (.extern "sameAddr.stringBytes" 2)) == 1)
        pure (Value.bool (a.block == b.block && a.off < b.off + lb * size && b.off < a.off + la * size))
    | _,_=>pure (Value.bool false)) w = _
  by_cases h0:la = 0 ∨ lb = 0 ∨ inf.size = 0
  · simp [run_underlying hu,run_sizeOf_info hin,h0]
  · obtain ⟨m,hm⟩:∃ m,c.size = m + 1:=⟨c.size - 1,by omega⟩
    obtain ⟨m',hm'⟩:∃ m',c'.size = m' + 1:=⟨c'.size - 1,by omega⟩
    rw [hm] at hsa
    rw [hm'] at hsb hf2
    cases hfa:w.frozen? a <;> cases hfe:w.frozen? { block:=a.block,off:=m + 1 } <;>
      simp [run_underlying hu,run_sizeOf_info hin,h0,hnb,hnb',frozen,noView,viewAt,mayBeOne,stringish,shape,Sem.run,hsa,hsb,hf1,hf2,hfa,hfe]
theorem Qt.overlaps {f:FuncId} {fn:Func} {x y:Operand} {ts:Array TypeId} {tS tb e:TypeId} {sz by' la ca lb cb:Nat} {a b:Addr} (hf:P.funcs[f]? = some fn) (hext:isOvl fn tS tb) (ht:slTy P tS = some (e,sz,by'))
    (hx:ev fr x = some (.slice (some a) la ca)) (hy:ev fr y = some (.slice (some b) lb cb))
    (h:∀ w,S w→a.block ≠ b.block∧(∃ c t f,w.heap[a.block]? = some (.cells c t f)∧0 < c.size)∧∃ c t,w.heap[b.block]? = some (.cells c t (0,0))∧0 < c.size) :
    Qt P n ⟨dst,.call { callee:=.value (.func f),args:=#[x,y],argTypes:=ts },ty,pos,aft,g⟩ fr S (.bool false):=fun ac w kn s=>by
  obtain ⟨h1,⟨c,t,fz,h2,h3⟩,c',t',h4,h5⟩:=h w s
  have hr:(callFunc f #[.slice (some a) la ca,.slice (some b) lb cb]).run P w = .ok (.value (.bool false)) w:=by
    rw [run_callFunc_extern hf hext.1 hext.2.1 hext.2.2.1 hext.2.2.2,run_overlaps2 ht w a b la ca lb cb h1 h2 h3 h4 h5]
    rfl
  have:=(run_callF (P:=P) (dst:=dst) (ty:=ty) (pos:=pos) (aft:=aft) (g:=g) (ts:=ts) (xs:=[x,y]) (vs:=[_,_]) (by simp only [evs,hx,hy]) kn w).trans hr
  rw [this]
  exact ⟨Ext.refl w,rfl⟩
theorem apart_of {α:Type} [Enc α] {w:World} {C F:Ch} {gg:Nat} {y0:α} {p:Option Addr} {m c:Nat} (s:Sat w0 [C,F] w) (hC:∀ p,C p→∃ o,p gg = some o) (hR:Rd (Sat w0 [F]) [y0] [.slice p m c]) (hsz:0 < Enc.sz α) :
    ∃ b o,p = some ⟨b,o,none⟩∧b ≠ gg∧∃ cc t f,w.heap[b]? = some (.cells cc t f)∧0 < cc.size:=by
  have s1:Sat w0 [F] w:=s.pick [1] (by decide) rfl
  obtain ⟨p',cap',e',l1,l2,l3⟩:=hR w s1
  simp only [List.cons.injEq,Value.slice.injEq,and_true] at e'
  obtain ⟨rfl,rfl,rfl⟩:=e'
  rcases l3 with h | ⟨b,o,cs,rfl,hr,ha⟩
  · cases h
  · have hcl:cs.length = Enc.sz α:=by have:=hr.length; simpa using this
    obtain ⟨cc,t,f,h1,h2⟩:=ha
    have hpos:0 < cc.size:=by
      obtain ⟨v,hv⟩:∃ v,cs[0]? = some v:=⟨cs[0],List.getElem?_eq_getElem (by omega)⟩
      have:=h2 0 v hv
      have:=(Array.getElem?_eq_some_iff.1 this).1
      omega
    refine ⟨b,o,rfl,fun hb=>?_,cc,t,f,h1,hpos⟩
    subst hb
    have s2:Sat w0 [dead,F] (w.setRow b #[]):=by
      refine s.turn 0 rfl dead rfl rfl rfl (by simp) fun q hq hl hb'=>?_
      obtain ⟨oo,ho⟩:=hC q hq
      refine ⟨fun d hd hn=>setRow_other w b d _ (fun e=>by subst e; rw [ho] at hn; cases hn),fun _=>none,trivial,fun d o' h=>by cases h⟩
    have s3:Sat w0 [F] (w.setRow b #[]):=s2.pick [1] (by decide) rfl
    obtain ⟨p',cap'',e',l1',l2',l3'⟩:=hR _ s3
    simp only [List.cons.injEq,Value.slice.injEq,and_true] at e'
    obtain ⟨rfl,_,_⟩:=e'
    rcases l3' with h | ⟨b',o',cs',hq,hr',ha'⟩
    · cases h
    · cases hq
      have hcl':cs'.length = Enc.sz α:=by have:=hr'.length; simpa using this
      obtain ⟨cc',t',f',k1,k2⟩:=ha'
      have hset:(w.setRow b #[]).heap[b]? = some (.cells #[] t f):=by
        have k3:w.heap[b]? = some (.cells cc t f):=h1
        unfold World.setRow
        show (w.heap.modify b _)[b]? = _
        rw [Array.getElem?_modify]
        simp [k3]
      have k4:(w.setRow b #[]).heap[b]? = some (.cells cc' t' f'):=k1
      rw [hset] at k4
      cases k4
      obtain ⟨v,hv⟩:∃ v,cs'[0]? = some v:=⟨cs'[0],List.getElem?_eq_getElem (by omega)⟩
      have:=k2 0 v hv
      simp at this
theorem Sd.copyUp {α:Type} [Enc α] [Flat α] (k i:Nat) {B:Hp} {x y:Operand} {t e:TypeId} {by' gg c m dc sl sc:Nat} {xs:List α} (hk:G[k]? = some (row B e (rowV (some gg,c) m) xs))
    (ht:slTy P t = some (e,Enc.sz α,by')) (hi:i < xs.length) (hc:xs.length + 1 ≤ c) (hx:ev fr x = some (.slice (some ⟨gg,(i + 1) * Enc.sz α,none⟩) (xs.length - i) dc)) (hy:ev fr y = some (.slice (some ⟨gg,i * Enc.sz α,none⟩) sl sc)) (hsl:xs.length - i ≤ sl) :
    Sd P n ⟨dst,.call { callee:=.builtin .copy,args:=#[x,y],argTypes:=#[t,t] },ty,pos,aft,g⟩ fr (Sat w0 G) (fun _:Unit=>.int .i64 (xs.length - i:Nat)) (fun _=>Sat w0 (G.set k (row B e (rowV (some gg,c) (xs.length + 1)) (xs.take (i + 1) ++ xs.drop i)))):=fun a w kn s=>by
  obtain ⟨cs,sp,h1,h2,h3,h4,rfl,h6,h7⟩:=s.rowCells hk
  have hle:(i + 1) * Enc.sz α + (xs.length - i) * Enc.sz α ≤ c * Enc.sz α:=by rw [← Nat.add_mul]; exact Nat.mul_le_mul_right _ (by omega)
  have hi2:i * Enc.sz α + (xs.length - i) * Enc.sz α = cs.length:=by rw [← Nat.add_mul,h4]; congr 1; omega
  have hnl:(cs.drop (i * Enc.sz α)).length = (xs.length - i) * Enc.sz α:=by rw [List.length_drop]; omega
  have hi1:(i + 1) * Enc.sz α ≤ cs.length:=by rw [h4]; exact Nat.mul_le_mul_right _ hi
  have hrun:=run_copy_list (P:=P) (ty:=ty) (dc:=dc) (sc:=sc) (dl:=xs.length - i) (sl:=sl) (o:=(i + 1) * Enc.sz α) (p:=some ⟨gg,i * Enc.sz α,none⟩) (news:=cs.drop (i * Enc.sz α)) ht h1 (m:=xs.length - i) (Nat.min_eq_right hsl) hnl
    (.inr ⟨_,rfl,fun j v hj=>by
      rw [add_lit]
      rw [List.getElem?_drop] at hj
      simp only [World.cell?,h1]
      simp [List.getElem?_append_left (List.getElem?_eq_some_iff.1 hj).1,hj]⟩) (by rw [hnl]; simp only [List.size_toArray]; rw [h3]; exact hle) (fun v hv=>h2.one v (List.mem_of_mem_drop hv))
  have hex:(execOp a.eval ⟨dst,.call { callee:=.builtin .copy,args:=#[x,y],argTypes:=#[t,t] },ty,pos,aft,g⟩).run P w = .ok (.value (goInt (xs.length - i:Nat))) (w.setRow gg ((cs ++ sp).toArray.toList.take ((i + 1) * Enc.sz α) ++ cs.drop (i * Enc.sz α) ++ (cs ++ sp).toArray.toList.drop ((i + 1) * Enc.sz α + (cs.drop (i * Enc.sz α)).length)).toArray):=by
    simp [execOp,resolve,invoke,builtin,kn.ev hx,kn.ev hy,hrun]
  rw [hex]
  refine ⟨(),rfl,?_⟩
  have e1:(cs ++ sp).toArray.toList.take ((i + 1) * Enc.sz α) = cs.take ((i + 1) * Enc.sz α):=List.take_append_of_le_length hi1
  rw [e1]
  refine s.rowPut hk (xs':=xs.take (i + 1) ++ xs.drop i) (cs':=cs.take ((i + 1) * Enc.sz α) ++ cs.drop (i * Enc.sz α)) ((h2.take (i + 1)).append (h2.drop i)) ?_ (by simp; omega) hc h7
  simp only [List.length_append,List.length_take,List.length_drop] at h3 ⊢
  omega
theorem Pu.sliceLs {t e:TypeId} {x lo:Operand} {sz by' len cap b o j:Nat} {k:IntKind} {ji:Int} (ht:slTy P t = some (e,sz,by')) (hx:ev fr x = some (.slice (some ⟨b,o,none⟩) len cap)) (hl:ev fr lo = some (.int k ji)) (hj:ji = j) (h:j ≤ len) (hc:j < cap) :
    Pu P n ⟨dst,.slice t x (some lo) none none,ty,pos,aft,g⟩ fr (.slice (some ⟨b,o + j * sz,none⟩) (len - j) (cap - j)):=by
  subst hj
  have:=Pu.sliceL (P:=P) (n:=n) (dst:=dst) (ty:=ty) (pos:=pos) (aft:=aft) (g:=g) ht hx hl (by omega)
  rw [Int.toNat_natCast,cutP_lt (by omega)] at this
  exact this
theorem Pu.sliceHn {t e:TypeId} {x hi:Operand} {sz by' len cap j:Nat} {p:Option Addr} {k:IntKind} {ji:Int} (ht:slTy P t = some (e,sz,by')) (hx:ev fr x = some (.slice p len cap)) (hh:ev fr hi = some (.int k ji)) (hj:ji = j) (h:j ≤ cap) :
    Pu P n ⟨dst,.slice t x none (some hi) none,ty,pos,aft,g⟩ fr (.slice p j cap):=by
  subst hj
  have:=Pu.sliceH (P:=P) (n:=n) (dst:=dst) (ty:=ty) (pos:=pos) (aft:=aft) (g:=g) ht hx hh (by omega)
  rwa [Int.toNat_natCast] at this
theorem Pu.sliceLn {t e:TypeId} {x lo:Operand} {sz by' len cap j:Nat} {p:Option Addr} {k:IntKind} {ji:Int} (ht:slTy P t = some (e,sz,by')) (hx:ev fr x = some (.slice p len cap)) (hl:ev fr lo = some (.int k ji)) (hj:ji = j) (h:j ≤ len) :
    Pu P n ⟨dst,.slice t x (some lo) none none,ty,pos,aft,g⟩ fr (.slice (cutP p cap j sz) (len - j) (cap - j)):=by
  subst hj
  have:=Pu.sliceL (P:=P) (n:=n) (dst:=dst) (ty:=ty) (pos:=pos) (aft:=aft) (g:=g) ht hx hl (by omega)
  rwa [Int.toNat_natCast] at this
theorem wrapUW (a:Int):IntKind.u64.wrap a = a % 18446744073709551616:=by simp [IntKind.wrap,IntKind.bits,IntKind.signed]
theorem Pu.convUW {x:Operand} {s d:TypeId} {k:IntKind} {a:Int} (hs:(P.underlying s).isSome = true) (hd:P.underlying d = some (.int .u64)) (hx:ev fr x = some (.int k a)) :
    Pu P n ⟨dst,.convert s d x,ty,pos,aft,g⟩ fr (.int .u64 (a % 18446744073709551616)):=by
  have:=Pu.conv (P:=P) (n:=n) (dst:=dst) (ty:=ty) (pos:=pos) (aft:=aft) (g:=g) hs hd hx
  rwa [wrapUW] at this
theorem vsl {b o o' l l' c:Nat} (ho:o = o') (hl:l = l'):some (Value.slice (some ⟨b,o,none⟩) l c) = some (.slice (some ⟨b,o',none⟩) l' c):=by rw [ho,hl]
theorem ins_grow {α:Type} {xs:List α} {i:Nat} {y z:α} (hi:i < xs.length):((((xs.take i ++ List.replicate (xs.length + 1 - i) z).take i ++ [y].take (Nat.min 1 (xs.length + 1 - i)) ++ (xs.take i ++ List.replicate (xs.length + 1 - i) z).drop (i + Nat.min 1 (xs.length + 1 - i))).take (i + 1) ++ (xs.drop i).take (Nat.min (xs.length - i) (xs.length - i)) ++
    ((xs.take i ++ List.replicate (xs.length + 1 - i) z).take i ++ [y].take (Nat.min 1 (xs.length + 1 - i)) ++ (xs.take i ++ List.replicate (xs.length + 1 - i) z).drop (i + Nat.min 1 (xs.length + 1 - i))).drop (i + 1 + Nat.min (xs.length - i) (xs.length - i)))) = xs.take i ++ [y] ++ xs.drop i:=by
  have e1:Nat.min 1 (xs.length + 1 - i) = 1:=Nat.min_eq_left (by omega)
  have e2:Nat.min (xs.length - i) (xs.length - i) = xs.length - i:=Nat.min_self _
  have l1:(xs.take i).length = i:=by rw [List.length_take]; exact Nat.min_eq_left (by omega)
  rw [e1,e2]
  have t1:(xs.take i ++ List.replicate (xs.length + 1 - i) z).take i = xs.take i:=by rw [List.take_append_of_le_length (by omega),List.take_take,Nat.min_self]
  rw [t1,List.take_of_length_le (l:=[y]) (by simp)]
  have l2:(xs.take i ++ [y]).length = i + 1:=by simp [l1]
  rw [List.take_append_of_le_length (by omega),List.take_of_length_le (l:=xs.take i ++ [y]) (by omega),List.take_of_length_le (l:=xs.drop i) (by simp)]
  have l3:List.drop (i + 1 + (xs.length - i)) (xs.take i ++ [y] ++ List.drop (i + 1) (xs.take i ++ List.replicate (xs.length + 1 - i) z)) = [] :=
    List.drop_of_length_le (by simp only [List.length_append,List.length_drop,List.length_replicate,l1,List.length_cons,List.length_nil]; omega)
  rw [l3,List.append_nil]
theorem ins_up {α:Type} {xs:List α} {i m:Nat} {y:α} (hi:i < xs.length) (hm:m = 1):((xs.take (i + 1) ++ xs.drop i).take i ++ [y].take m ++ (xs.take (i + 1) ++ xs.drop i).drop (i + m)) = xs.take i ++ [y] ++ xs.drop i:=by
  subst hm
  have l1:(xs.take (i + 1)).length = i + 1:=by rw [List.length_take]; exact Nat.min_eq_left (by omega)
  rw [List.take_append_of_le_length (by omega),List.take_take,Nat.min_eq_left (by omega),List.take_of_length_le (l:=[y]) (by simp),List.drop_append,l1,List.drop_of_length_le (by omega)]
  simp
end
end Go.Vg
set_option linter.unusedSimpArgs false
set_option linter.unusedVariables false
namespace Go.Vg
open Enc (R)
def FnQ (P:Program) (w:World) (v:Value) {α β:Type} (enc:α→List Value) (dec:β→Value) (p:α→Option β):Prop :=
  ∃ (f:FuncId) (cs:List Value),v = .func (.func f) #[] cs.toArray∧Ent P f∧∀ x r w',Ext w w'→p x = some r→Calls P f (enc x ++ cs).toArray w' fun e w''=>e = .returned (dec r)∧Ext w' w''
section
variable {P:Program} {n:Nat} {fr:Fr} {dst:Option Tmp} {ty:TypeId} {pos:String} {aft:Array Edge} {g:Option (Nat × Bool)} {S:As} {w0:World} {G:List Ch}
theorem FnQ.ext {w w1:World} {v:Value} {α β:Type} {enc:α→List Value} {dec:β→Value} {p:α→Option β} (he:Ext w w1) (h:FnQ P w v enc dec p):FnQ P w1 v enc dec p:=by
  obtain ⟨f,cs,h1,h2,h3⟩:=h
  exact ⟨f,cs,h1,h2,fun x r w' e hp=>h3 x r w' (he.trans e) hp⟩
theorem run_enterV {f:FuncId} {cs:Array Value} {xo:Operand} {xs:List Operand} {ts:Array TypeId} {vs:List Value} (he:Ent P f) (hv:ev fr xo = some (.func (.func f) #[] cs)) (hx:evs fr xs = some vs) {a:Act} (k:Knows n fr a) (w:World) :
    (execOp a.eval ⟨dst,.call { callee:=.value xo,args:=xs.toArray,argTypes:=ts },ty,pos,aft,g⟩).run P w = .ok (.enter f (vs.toArray ++ cs)) w:=by
  obtain ⟨fn,c,h1,h2,h3⟩:=he
  have h2':¬ fn.name = "runtime.NumGoroutine":=by simpa using h2
  have:=k.evs hx
  have hv':=k.ev hv
  simp [execOp,resolve,hv',Deferred.ofValue,invoke,callFunc,h1,h2',h3,this]
theorem Qt.callV {xo:Operand} {xs:List Operand} {ts:Array TypeId} {v:Value} {α β:Type} {enc:α→List Value} {dec:β→Value} {p:α→Option β} (hv:ev fr xo = some v) (hf:FnQ P w0 v enc dec p) (hs:∀ w,S w→Ext w0 w) {x:α} {r:β} (hr:p x = some r) (hx:evs fr xs = some (enc x)) :
    Qt P n ⟨dst,.call { callee:=.value xo,args:=xs.toArray,argTypes:=ts },ty,pos,aft,g⟩ fr S (dec r):=fun a w k s=>by
  obtain ⟨f,cs,rfl,he,hc⟩:=hf
  rw [run_enterV he hv hx k]
  have:=hc x r w (hs w s) hr
  rw [show (enc x).toArray ++ cs.toArray = (enc x ++ cs).toArray by simp]
  exact ⟨Ext.refl w,this⟩
theorem Pu.makeFunc {f:FuncId} {xs:List Operand} {cs:List Value} (hx:evs fr xs = some cs):Pu P n ⟨dst,.makeFunc (.func f) #[] xs.toArray,ty,pos,aft,g⟩ fr (.func (.func f) #[] cs.toArray):=fun a k w=>by
  have:=k.evs hx
  simp [execOp,Instr.makeFunc,this]
theorem Pu.shr1 {xt yt:TypeId} {x y:Operand} {a:Int} (hx:ev fr x = some (.int .u64 a)) (hy:ev fr y = some (.int .u64 1)) (ha:0 ≤ a) :
    Pu P n ⟨dst,.binOp .shr xt x y yt,ty,pos,aft,g⟩ fr (.int .u64 (a / 2)):=fun ac kn w=>by
  have h:=shift_shr_any .u64 .u64 a 1 (by decide)
  simp [execOp,kn.ev hx,kn.ev hy,binOp,eqGuard,h,IntKind.bits]
def eqTy (P:Program) (t:TypeId):Option (List Nat):=match P.underlying t with
  | some (.struct fs)=>if (fs.toList.all fun f=>f.name != "_" && (match P.underlying f.type with | some (.int _)=>true | _=>false) && tySz P f.type == some (1,false)) && !P.stoodInHeld t && !P.eqGuardType P.depth t then some (fs.toList.map (·.offset)) else none
  | _=>none
def eqAt (xs ys:List Value):List Nat→Option Bool
  | []=>some true
  | o :: r=>match xs[o]?,ys[o]? with
    | some (.int k a),some (.int k' b)=>if k = k' then (eqAt xs ys r).map fun q=>a == b && q else none
    | _,_=>none
theorem run_eqFields {P:Program} {d:Nat} {xs ys:List Value}:∀ (fs:List Field) {r:Bool},(fs.all fun f=>f.name != "_" && (match P.underlying f.type with | some (.int _)=>true | _=>false) && tySz P f.type == some (1,false)) = true→eqAt xs ys (fs.map (·.offset)) = some r→∀ w,(Op.eqFields (d + 1) xs.toArray ys.toArray fs).run P w = .ok r w
  | [],r,_,hr,w=>by cases hr; simp [Op.eqFields]
  | f :: fs,r,hf,hr,w=>by
    simp only [List.all_cons,Bool.and_eq_true,bne_iff_ne,ne_eq,beq_iff_eq] at hf
    obtain ⟨⟨⟨h1,h2⟩,h3⟩,h4⟩:=hf
    simp only [List.map_cons,eqAt] at hr
    cases hx:xs[f.offset]? with
    | none=>simp [hx] at hr
    | some x =>
      cases hy:ys[f.offset]? with
      | none=>cases x <;> simp [hx,hy] at hr
      | some y =>
        rw [hx,hy] at hr
        cases x <;> cases y <;> simp only [reduceCtorEq] at hr
        rename_i k a k' b
        by_cases hk:k = k'
        · subst hk
          simp only [if_true] at hr
          cases he:eqAt xs ys (fs.map (·.offset)) with
          | none=>simp [he] at hr
          | some q =>
            simp only [he,Option.map_some,Option.some.injEq] at hr
            subst hr
            have hu:∃ k',P.underlying f.type = some (.int k'):=by
              split at h2
              · rename_i k' e; exact ⟨k',e⟩
              · cases h2
            obtain ⟨k',hu⟩:=hu
            have hpx:(part f.type xs.toArray f.offset).run P w = .ok (.int k a) w:=by
              simp [part,run_isAgg_of h3,hx]
            have hpy:(part f.type ys.toArray f.offset).run P w = .ok (.int k b) w:=by
              simp [part,run_isAgg_of h3,hy]
            have ih:=run_eqFields (d:=d) fs h4 he w
            simp only [Op.eqFields,if_pos (show f.name ≠ "_" from h1),Sem.run_bind,hpx,hpy,Result.andThen_ok,run_equalIn_int w d f.type k k' a b hu,Sem.run_ite,Sem.run_pure,ih]
            by_cases hab:a = b
            · simp [hab]
            · simp [hab]
        · simp [hk] at hr
theorem eqTy_spec {P:Program} {t:TypeId} {offs:List Nat} (h:eqTy P t = some offs):∃ fs:Array Field,P.underlying t = some (.struct fs)∧fs.toList.map (·.offset) = offs∧(fs.toList.all fun f=>f.name != "_" && (match P.underlying f.type with | some (.int _)=>true | _=>false) && tySz P f.type == some (1,false)) = true∧P.stoodInHeld t = false∧P.eqGuardType P.depth t = false:=by
  unfold eqTy at h
  split at h
  · rename_i fs e
    split at h
    · rename_i hc
      simp only [Bool.and_eq_true,Bool.not_eq_true'] at hc
      cases h
      exact ⟨fs,e,rfl,hc.1.1,hc.1.2,hc.2⟩
    · cases h
  · cases h
theorem Pu.neSt {xt yt:TypeId} {x y:Operand} {xs ys:List Value} {offs:List Nat} {r:Bool} {p:Prop} [Decidable p] (ht:eqTy P xt = some offs) (hx:ev fr x = some (.agg xs.toArray)) (hy:ev fr y = some (.agg ys.toArray)) (hr:eqAt xs ys offs = some r) (he:r = decide p) :
    Pu P n ⟨dst,.binOp .neq xt x y yt,ty,pos,aft,g⟩ fr (.bool (decide (¬ p))):=fun ac kn w=>by
  obtain ⟨fs,h1,h2,h3,h4,h5⟩:=eqTy_spec ht
  subst h2; subst he
  have hf:P.fieldsOf xt = fs:=by simp [Program.fieldsOf,h1]
  have e:=run_eqFields (d:=9998) fs.toList h3 hr w
  have e2:=run_equalIn_agg (P:=P) w 9999 xt xs.toArray ys.toArray (by rw [hf]; exact h1) h4
  rw [hf,e] at e2
  simp only [execOp,kn.ev hx,kn.ev hy,Sem.run_bind,Sem.run_pure,run_eqGuard_agg w .neq xt x y xs.toArray ys.toArray h5,Result.andThen_ok,run_neq_struct,e2]
  simp
theorem Pu.eqSt {xt yt:TypeId} {x y:Operand} {xs ys:List Value} {offs:List Nat} {r:Bool} {p:Prop} [Decidable p] (ht:eqTy P xt = some offs) (hx:ev fr x = some (.agg xs.toArray)) (hy:ev fr y = some (.agg ys.toArray)) (hr:eqAt xs ys offs = some r) (he:r = decide p) :
    Pu P n ⟨dst,.binOp .eql xt x y yt,ty,pos,aft,g⟩ fr (.bool (decide p)):=fun ac kn w=>by
  obtain ⟨fs,h1,h2,h3,h4,h5⟩:=eqTy_spec ht
  subst h2; subst he
  have hf:P.fieldsOf xt = fs:=by simp [Program.fieldsOf,h1]
  have e:=run_eqFields (d:=9998) fs.toList h3 hr w
  have e2:=run_equalIn_agg (P:=P) w 9999 xt xs.toArray ys.toArray (by rw [hf]; exact h1) h4
  rw [hf,e] at e2
  simp only [execOp,kn.ev hx,kn.ev hy,Sem.run_bind,Sem.run_pure,run_eqGuard_agg w .eql xt x y xs.toArray ys.toArray h5,Result.andThen_ok,run_eql_struct,e2]
theorem blk_ext {w w':World} {b:Nat} {cs:List Value} {e:TypeId} (he:Ext w w') (h:blk b cs e (hpOf w)):blk b cs e (hpOf w'):=he.hp _ _ h
theorem blk_of {w:World} {k b:Nat} {cs:List Value} {e:TypeId} (s:Sat w0 G w) (hk:G[k]? = some (blk b cs e)):blk b cs e (hpOf w):=(s.getBlk hk).1
theorem Qt.ldX {t e:TypeId} {x:Operand} {b o:Nat} {cs:List Value} {v:Value} (ht:tySz P t = some (1,false)) (hx:ev fr x = some (.pointer (some ⟨b,o,none⟩))) (hb:blk b cs e (hpOf w0)) (hs:∀ w,S w→Ext w0 w) (hv:cs[o]? = some v) :
    Qt P n ⟨dst,.load t x,ty,pos,aft,g⟩ fr S v:=Qt.ld ht hx fun w s=>by
  have h:=(hs w s).hp _ _ hb
  have h':w.heap[b]? = some (.cells cs.toArray e (0,0)):=h
  simp [World.cell?,h',hv]
end
end Go.Vg
