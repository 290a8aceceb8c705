/-
  Texts of one's own, joined: AU BO BI.
-/
import Derived.Test.YtmngdgclldkcfaaGreatJ6
import Derived.Test.YtmngdgclldkcfaaGreatRows
import Derived.Test.YtmngdgclldkcfaaGreatJ5
set_option linter.unusedVariables false
set_option linter.unusedSectionVars false
namespace Go.Vg
open Go
class FdC (P:Program) (t f:Nat) (off:outParam Nat):Prop where h:fdOff P t f = some off:=by kernel_rfl
class TyC (P:Program) (t:Nat) (r:outParam (Nat × Bool)):Prop where h:tySz P t = some r:=by kernel_rfl
class SlC (P:Program) (t:Nat) (r:outParam (Nat × Nat × Nat)):Prop where h:slTy P t = some r:=by kernel_rfl
inductive HasB (b:Nat) (cs:List Value) (e:TypeId):List Ch→Prop
  | here {G:List Ch}:HasB b cs e (blk b cs e :: G)
  | there {C:Ch} {G:List Ch}:HasB b cs e G→HasB b cs e (C :: G)
theorem HasB.at {b:Nat} {cs:List Value} {e:TypeId}:∀ {G:List Ch},HasB b cs e G→∃ k:Nat,G[k]? = some (blk b cs e)
 | _,.here=>⟨0,rfl⟩
 | _,.there h=>let ⟨k,hk⟩:=h.at; ⟨k + 1,hk⟩
inductive SetB (b:Nat) (cs cs':List Value) (e:TypeId):List Ch→List Ch→Prop
 | here {G:List Ch}:SetB b cs cs' e (blk b cs e :: G) (blk b cs' e :: G)
 | there {C:Ch} {G G':List Ch}:SetB b cs cs' e G G'→SetB b cs cs' e (C :: G) (C :: G')
theorem SetB.at {b:Nat} {cs cs':List Value} {e:TypeId}:∀ {G G':List Ch},SetB b cs cs' e G G'→∃ k:Nat,G[k]? = some (blk b cs e)∧G' = G.set k (blk b cs' e)
 | _,_,.here=>⟨0,rfl,rfl⟩
 | _,_,.there h=>let ⟨k,hk,he⟩:=h.at; ⟨k + 1,hk,by rw [he]; rfl⟩
inductive SubL:List Ch→List Ch→Prop
 | nil {G:List Ch}:SubL [] G
 | take {C:Ch} {H G:List Ch}:SubL H G→SubL (C :: H) (C :: G)
 | skip {C:Ch} {H G:List Ch}:SubL H G→SubL H (C :: G)
theorem SubL.at:∀ {H G:List Ch},SubL H G→∃ f:List Nat,f.Nodup∧f.map (fun i=>G[i]?) = H.map some
 | _,_,.nil=>⟨[],List.nodup_nil,rfl⟩
 | _,_,.take h=>by
  obtain ⟨f,h1,h2⟩:=h.at
  refine ⟨0 :: f.map (· + 1),?_,by simpa [Function.comp_def] using h2⟩
  rw [List.nodup_cons]
  refine ⟨by simp,?_⟩
  exact List.Pairwise.map _ (fun a b h e=>h (Nat.add_right_cancel e)) h1
 | _,_,.skip h=>by
  obtain ⟨f,h1,h2⟩:=h.at
  exact ⟨f.map (· + 1),List.Pairwise.map _ (fun a b h e=>h (Nat.add_right_cancel e)) h1,by simpa [Function.comp_def] using h2⟩
theorem SubL.sat {w0:World} {H G:List Ch} (h:SubL H G) (w:World) (s:Sat w0 G w):Sat w0 H w:=let ⟨f,h1,h2⟩:=h.at; s.pick f h1 h2
def over:List Value→List Value→List Value
  | cs,[]=>cs
  | _ :: cs,u :: us=>u :: over cs us
  | [],us=>us
def putL:List Value→Nat→List Value→List Value
  | cs,0,us=>over cs us
  | c :: cs,n + 1,us=>c :: putL cs n us
  | [],_,us=>us
theorem over_eq:∀ {us cs:List Value},us.length ≤ cs.length→us ++ cs.drop us.length = over cs us
 | [],cs,_=>by cases cs <;> rfl
 | u :: us,[],h=>by simp at h
 | u :: us,c :: cs,h=>by
  simp only [over,List.length_cons,List.drop_succ_cons,List.cons_append]
  rw [over_eq (by simpa using h)]
theorem putL_eq:∀ {o:Nat} {cs us:List Value},o + us.length ≤ cs.length→cs.take o ++ us ++ cs.drop (o + us.length) = putL cs o us
 | 0,cs,us,h=>by
  simp only [List.take_zero,List.nil_append,Nat.zero_add]
  rw [over_eq (by omega)]
  cases cs <;> rfl
 | o + 1,[],us,h=>by simp at h
 | o + 1,c :: cs,us,h=>by
  simp only [putL,List.take_succ_cons,List.cons_append]
  rw [show o + 1 + us.length = (o + us.length) + 1 by omega,List.drop_succ_cons,putL_eq (by simp only [List.length_cons] at h; omega)]
structure Au (n:Nat) (A B:Prop):Prop where
 f:A→B
theorem Au.z {A B:Prop} (h:A→B):Au 0 A B:=⟨h⟩
section
variable {P:Program} {N n:Nat} {ops:Array Oper} {Q:Po} {rest:List Oper} {fr:Fr} {S:As} {A:Prop} {w0:World} {G:List Ch}
variable {dst:Option Tmp} {ty:TypeId} {pos:String} {aft:Array Edge} {g:Option (Nat × Bool)}
theorem Au.p {o:Oper} {v:Value} (h:Pu P N o fr v) (hg:gval ops fr o.guard = some true) (hd:dOk N o.dst = true) (r:Au n A (RS P N ops Q rest (putF o.dst v fr) S)):Au (n + 1) A (RS P N ops Q (o :: rest) fr S):=⟨fun a=>RS.p h hg hd (r.f a)⟩
theorem Au.q {o:Oper} {v:Value} (h:Qt P N o fr (Sat w0 G) v) (hg:gval ops fr o.guard = some true) (hd:dOk N o.dst = true) (r:Au n A (RS P N ops Q rest (putF o.dst v fr) (Sat w0 G))):Au (n + 1) A (RS P N ops Q (o :: rest) fr (Sat w0 G)):=⟨fun a=>RS.q h hg hd (r.f a)⟩
theorem Au.s {o:Oper} {G':List Ch} (h:Sd P N o fr (Sat w0 G) (fun _:Unit=>undef) (fun _=>Sat w0 G')) (hg:gval ops fr o.guard = some true) (hd:dOk N o.dst = true) (r:Au n A (RS P N ops Q rest (putF o.dst undef fr) (Sat w0 G'))):Au (n + 1) A (RS P N ops Q (o :: rest) fr (Sat w0 G)):=⟨fun a=>RS.solid h hg hd fun _=>r.f a⟩
theorem Au.no {o:Oper} (hg:gval ops fr o.guard = some false) (hd:dOk N o.dst = true) (r:Au n A (RS P N ops Q rest (putF o.dst undef fr) S)):Au (n + 1) A (RS P N ops Q (o :: rest) fr S):=⟨fun a=>RS.no hg hd (r.f a)⟩
theorem Au.nl {y:Code} {K:Act→World→Prop} (hK:∀ fr' S',T P N y fr' S' Q→Cont N K fr' S') (r:Au n A (T P N y fr S Q)):Au (n + 1) A (RS P N ops (Exit.then K Q) [] fr S):=⟨fun a=>RS.nil (hK _ _ (r.f a))⟩
theorem Au.sq {x y:Code} (h:∀ K:Act→World→Prop,(∀ fr' S',T P N y fr' S' Q→Cont N K fr' S')→Au n A (T P N x fr S (Exit.then K Q))):Au n A (T P N (x.seq y) fr S Q):=⟨fun a=>T.seq fun K hK=>(h K hK).f a⟩
theorem Au.rg {id:Nat} {l:List Oper} (r:Au n A (RS P N l.toArray Q l fr S)):Au n A (T P N (.region id l.toArray false) fr S Q):=⟨fun a=>T.region (r.f a)⟩
theorem Pu.fieldAddrC {s:TypeId} {x:Operand} {f off b o:Nat} [hf:FdC P s f off] (hx:ev fr x = some (.pointer (some ⟨b,o,none⟩))):Pu P N ⟨dst,.fieldAddr s x f,ty,pos,aft,g⟩ fr (.pointer (some ⟨b,o + off,none⟩)):=Pu.fieldAddr hf.h hx
theorem Pu.lenSlC {e:TypeId} {x:Operand} {at':TypeId} {sz by' len cap:Nat} {p:Option Addr} [ht:SlC P at' (e,sz,by')] (hx:ev fr x = some (.slice p len cap)):Pu P N ⟨dst,.call { callee:=.builtin .len,args:=#[x],argTypes:=#[at'] },ty,pos,aft,g⟩ fr (.int .i64 len):=Pu.lenSl ht.h hx
theorem Qt.ldBC {t e:TypeId} {x:Operand} {b o:Nat} {cs:List Value} {v:Value} [ht:TyC P t (1,false)] (hx:ev fr x = some (.pointer (some ⟨b,o,none⟩))) (hk:HasB b cs e G) (hv:cs[o]? = some v):Qt P N ⟨dst,.load t x,ty,pos,aft,g⟩ fr (Sat w0 G) v:=let ⟨k,hk⟩:=hk.at; Qt.ldB k ht.h hx hk hv
theorem Qt.ldBAC {t sz e:TypeId} {x:Operand} {b o:Nat} {cs us:List Value} [ht:TyC P t (sz,true)] (hx:ev fr x = some (.pointer (some ⟨b,o,none⟩))) (hk:HasB b cs e G) (hu:(cs.drop o).take sz = us) (hl:us.length = sz):Qt P N ⟨dst,.load t x,ty,pos,aft,g⟩ fr (Sat w0 G) (.agg us.toArray):=let ⟨k,hk⟩:=hk.at; Qt.ldBA k ht.h hx hk hu hl
theorem Sd.stBC {t e:TypeId} {x y:Operand} {b o sz:Nat} {gg:Bool} {cs cs' us:List Value} {v:Value} {G':List Ch} (ht:tySz P t = some (sz,gg)) (hx:ev fr x = some (.pointer (some ⟨b,o,none⟩))) (hy:ev fr y = some v) (hk:SetB b cs cs' e G G')
  (hv:v.cells.toList = us) (hl:us.length = sz) (ho:Nat.ble (o + sz) cs.length = true) (h1:us.all (·.oneCell') = true) (hc:cs.take o ++ us ++ cs.drop (o + sz) = cs') :
  Sd P N ⟨none,.store t x y,ty,pos,aft,g⟩ fr (Sat w0 G) (fun _:Unit=>undef) (fun _=>Sat w0 G'):=by
 obtain ⟨k,hj,rfl⟩:=hk.at
 exact Sd.stB k ht hx hy hj hv hl ho h1 hc
theorem Sd.stB1 {t e:TypeId} {x y:Operand} {b o:Nat} {gg:Bool} {cs cs':List Value} {v:Value} {G':List Ch} [ht:TyC P t (1,gg)] (hx:ev fr x = some (.pointer (some ⟨b,o,none⟩))) (hy:ev fr y = some v) (hk:SetB b cs cs' e G G')
  (hv:v.cells.toList = [v]) (ho:Nat.ble (o + 1) cs.length = true) (h1:v.oneCell' = true) (hc:cs.set o v = cs') :
  Sd P N ⟨none,.store t x y,ty,pos,aft,g⟩ fr (Sat w0 G) (fun _:Unit=>undef) (fun _=>Sat w0 G') :=
 Sd.stBC ht.h hx hy hk hv rfl ho (by simp [h1]) (by
  have h:o < cs.length:=Nat.lt_of_succ_le (Nat.le_of_ble_eq_true ho)
  rw [← hc,List.set_eq_take_append_cons_drop,if_pos h]; simp)
theorem Sd.stBA {t e:TypeId} {x y:Operand} {b o sz:Nat} {gg:Bool} {cs cs' us:List Value} {G':List Ch} [ht:TyC P t (sz,gg)] (hx:ev fr x = some (.pointer (some ⟨b,o,none⟩))) (hy:ev fr y = some (.agg us.toArray)) (hk:SetB b cs cs' e G G')
  (hv:(Value.agg us.toArray).cells.toList = us) (hl:us.length = sz) (ho:Nat.ble (o + sz) cs.length = true) (h1:us.all (·.oneCell') = true) (hc:putL cs o us = cs') :
  Sd P N ⟨none,.store t x y,ty,pos,aft,g⟩ fr (Sat w0 G) (fun _:Unit=>undef) (fun _=>Sat w0 G') :=
 Sd.stBC ht.h hx hy hk hv hl ho h1 (by subst hl; rw [putL_eq (Nat.le_of_ble_eq_true ho),hc])
end
section
variable {P:Program} {N n:Nat} {L:List Oper} {Q:Po} {full plan:List (Nat × Kd)} {fr:Fr} {S Cw:As} {A:Prop} {w0:World} {G:List Ch} {i:Nat} {o:Oper} {v:Value}
theorem tA {o:Oper} (h:L[i]? = some o):L.toArray[i]? = some o:=by rw [List.getElem?_toArray]; exact h
theorem Au.dp (hw:∀ w,Sat w0 G w→Cw w) (hi:L[i]? = some o) (h:Pu P N o fr v) (hg:gval L.toArray fr o.guard = some true) (hd:dOk N o.dst = true) (r:Au n A (RD P N L.toArray Q full Cw plan (putF o.dst v fr) (Sat w0 G))):Au (n + 1) A (RD P N L.toArray Q full Cw ((i,.pu) :: plan) fr (Sat w0 G)):=⟨fun a=>RD.p hw (tA hi) h hg hd (r.f a)⟩
theorem Au.dq (hw:∀ w,Sat w0 G w→Cw w) (hi:L[i]? = some o) (h:Qt P N o fr (Sat w0 G) v) (hg:gval L.toArray fr o.guard = some true) (hd:dOk N o.dst = true) (r:Au n A (RD P N L.toArray Q full Cw plan (putF o.dst v fr) (Sat w0 G))):Au (n + 1) A (RD P N L.toArray Q full Cw ((i,.rd) :: plan) fr (Sat w0 G)):=⟨fun a=>RD.q hw (tA hi) h hg hd (r.f a)⟩
theorem Au.dw (hw:∀ w,Sat w0 G w→Cw w) (hi:L[i]? = some o) (h:Qt P N o fr Cw v) (hg:gval L.toArray fr o.guard = some true) (hd:dOk N o.dst = true) (r:Au n A (RD P N L.toArray Q full Cw plan (putF o.dst v fr) (Sat w0 G))):Au (n + 1) A (RD P N L.toArray Q full Cw ((i,.wk) :: plan) fr (Sat w0 G)):=⟨fun a=>RD.w hw (tA hi) h hg hd (r.f a)⟩
theorem Au.dn {k:Kd} (hw:∀ w,Sat w0 G w→Cw w) (hi:L[i]? = some o) (hg:gval L.toArray fr o.guard = some false) (hd:dOk N o.dst = true) (hk:k = .pu ∨ k = .wk ∨ k = .rd) (r:Au n A (RD P N L.toArray Q full Cw plan (putF o.dst undef fr) (Sat w0 G))):Au (n + 1) A (RD P N L.toArray Q full Cw ((i,k) :: plan) fr (Sat w0 G)):=⟨fun a=>RD.no hw (tA hi) hg hd hk (r.f a)⟩
theorem Au.ds {G':List Ch} (hi:L[i]? = some o) (h:Sd P N o fr (Sat w0 G) (fun _:Unit=>undef) (fun _=>Sat w0 G')) (hw:∀ w,Sat w0 G' w→Cw w) (hg:gval L.toArray fr o.guard = some true) (hd:dOk N o.dst = true) (r:Au n A (RD P N L.toArray Q full Cw plan (putF o.dst undef fr) (Sat w0 G'))):Au (n + 1) A (RD P N L.toArray Q full Cw ((i,.br) :: plan) fr (Sat w0 G)):=⟨fun a=>RD.solid (tA hi) (.inr rfl) hd hg h (fun _=>ClE.sat _ _) (fun _=>hw) (fun h=>nomatch h) fun _=>r.f a⟩
theorem Au.dl {y:Code} {K:Act→World→Prop} (hK:∀ fr' S',T P N y fr' S' Q→Cont N K fr' S') (r:Au n A (T P N y fr S Q)):Au (n + 1) A (RD P N L.toArray (Exit.then K Q) full Cw [] fr S):=⟨fun a=>RD.nil (hK _ _ (r.f a))⟩
end
section
variable {A B:Prop}
theorem au (n:Nat) (h:A) (t:∀ X:Prop,(X→A)→Au n X B:=by
 intro X hX
 (try dsimp only [List.set,List.cons_append,List.nil_append,pk,List.filterMap,List.getElem?_cons_zero,List.getElem?_cons_succ,List.drop])
 repeat (first
  | with_reducible exact Au.z hX
  | ((with_reducible apply Au.p); (first | ((with_reducible apply Pu.move); exact rfl) | ((with_reducible apply Pu.assign); exact rfl) | ((with_reducible apply Pu.fieldAddrC); exact rfl) | ((with_reducible apply Pu.nilCheck); exact rfl) | ((with_reducible apply Pu.bin); exact rfl; exact rfl; exact rfl) | ((with_reducible apply Pu.lenSlC); exact rfl) | ((with_reducible apply Pu.extract); exact rfl; exact rfl) | ((with_reducible apply Pu.not); exact rfl) | ((with_reducible apply Pu.pickT); exact rfl; exact rfl) | ((with_reducible apply Pu.pickF); exact rfl; exact rfl)); exact rfl; exact rfl)
  | ((with_reducible apply Au.q); (first | ((with_reducible apply Qt.ldBC); exact rfl; (repeat (first | with_reducible apply HasB.here | with_reducible apply HasB.there)); exact rfl) | ((with_reducible apply Qt.ldBAC); exact rfl; (repeat (first | with_reducible apply HasB.here | with_reducible apply HasB.there)); ((try dsimp only [List.drop,List.take]) <;> exact rfl); exact rfl)); exact rfl; exact rfl)
  | ((with_reducible apply Au.no); exact rfl; exact rfl)
  | ((with_reducible apply Au.s); (first | ((with_reducible apply Sd.stB1); exact rfl; exact rfl; (repeat (first | with_reducible apply SetB.here | with_reducible apply SetB.there)); exact rfl; exact rfl; exact rfl; ((try dsimp only [List.set]) <;> exact rfl)) | ((with_reducible apply Sd.stBA); exact rfl; exact rfl; (repeat (first | with_reducible apply SetB.here | with_reducible apply SetB.there)); exact rfl; exact rfl; exact rfl; exact rfl; ((try dsimp only [putL,over]) <;> exact rfl))); exact rfl; exact rfl)
  | with_reducible refine Au.nl (by assumption) ?_
  | with_reducible refine Au.sq fun K hK=>Au.rg ?_
  | ((with_reducible apply Au.dp); (first | exact fun _ _=>trivial | (refine SubL.sat ?_; (repeat (first | with_reducible exact SubL.nil | with_reducible refine SubL.take ?_ | with_reducible refine SubL.skip ?_)))); exact rfl; (first | ((with_reducible apply Pu.move); exact rfl) | ((with_reducible apply Pu.assign); exact rfl) | ((with_reducible apply Pu.fieldAddrC); exact rfl) | ((with_reducible apply Pu.nilCheck); exact rfl) | ((with_reducible apply Pu.bin); exact rfl; exact rfl; exact rfl) | ((with_reducible apply Pu.lenSlC); exact rfl) | ((with_reducible apply Pu.extract); exact rfl; exact rfl) | ((with_reducible apply Pu.not); exact rfl) | ((with_reducible apply Pu.pickT); exact rfl; exact rfl) | ((with_reducible apply Pu.pickF); exact rfl; exact rfl)); exact rfl; exact rfl)
  | ((with_reducible apply Au.dq); (first | exact fun _ _=>trivial | (refine SubL.sat ?_; (repeat (first | with_reducible exact SubL.nil | with_reducible refine SubL.take ?_ | with_reducible refine SubL.skip ?_)))); exact rfl; (first | ((with_reducible apply Qt.ldBC); exact rfl; (repeat (first | with_reducible apply HasB.here | with_reducible apply HasB.there)); exact rfl) | ((with_reducible apply Qt.ldBAC); exact rfl; (repeat (first | with_reducible apply HasB.here | with_reducible apply HasB.there)); ((try dsimp only [List.drop,List.take]) <;> exact rfl); exact rfl)); exact rfl; exact rfl)
  | ((with_reducible apply Au.dw); (first | exact fun _ _=>trivial | (refine SubL.sat ?_; (repeat (first | with_reducible exact SubL.nil | with_reducible refine SubL.take ?_ | with_reducible refine SubL.skip ?_)))); exact rfl; (first | ((with_reducible apply Qt.ldBC); exact rfl; (repeat (first | with_reducible apply HasB.here | with_reducible apply HasB.there)); exact rfl) | ((with_reducible apply Qt.ldBAC); exact rfl; (repeat (first | with_reducible apply HasB.here | with_reducible apply HasB.there)); ((try dsimp only [List.drop,List.take]) <;> exact rfl); exact rfl)); exact rfl; exact rfl)
  | ((with_reducible apply Au.dn); (first | exact fun _ _=>trivial | (refine SubL.sat ?_; (repeat (first | with_reducible exact SubL.nil | with_reducible refine SubL.take ?_ | with_reducible refine SubL.skip ?_)))); exact rfl; exact rfl; exact rfl; decide)
  | ((with_reducible apply Au.ds); exact rfl; (first | ((with_reducible apply Sd.stB1); exact rfl; exact rfl; (repeat (first | with_reducible apply SetB.here | with_reducible apply SetB.there)); exact rfl; exact rfl; exact rfl; ((try dsimp only [List.set]) <;> exact rfl)) | ((with_reducible apply Sd.stBA); exact rfl; exact rfl; (repeat (first | with_reducible apply SetB.here | with_reducible apply SetB.there)); exact rfl; exact rfl; exact rfl; exact rfl; ((try dsimp only [putL,over]) <;> exact rfl))); (first | exact fun _ _=>trivial | (refine SubL.sat ?_; (repeat (first | with_reducible exact SubL.nil | with_reducible refine SubL.take ?_ | with_reducible refine SubL.skip ?_)))); exact rfl; exact rfl)
  | with_reducible refine Au.dl (by assumption) ?_)):B:=(t A id).f h
theorem nz (h:A) (t:∀ X:Prop,(X→A)→Au 0 X B:=by
 intro X hX
 (try dsimp only [List.set,List.cons_append,List.nil_append,pk,List.filterMap,List.getElem?_cons_zero,List.getElem?_cons_succ,List.drop])
 exact Au.z hX):B:=(t A id).f h
end
inductive KS (fr:Fr):List Nat→Fr→Prop
 | nil:KS fr [] []
 | cons {i:Nat} {v:Value} {l:List Nat} {r:Fr}:look fr i = some v→KS fr l r→KS fr (i :: l) ((i,v) :: r)
theorem KS.sub {fr:Fr}:∀ {l:List Nat} {r:Fr},KS fr l r→Vg.Sub fr r
 | _,_,.nil=>trivial
 | _,_,.cons h r=>⟨h,r.sub⟩
def kdn:Nat→Kd
  | 0=>.pu
  | 1=>.rd
  | 2=>.wk
  | 3=>.so
  | _=>.br
theorem kdn0:kdn 0 = .pu:=rfl
theorem kdn1:kdn 1 = .rd:=rfl
theorem kdn2:kdn 2 = .wk:=rfl
theorem kdn3:kdn 3 = .so:=rfl
theorem kdn4:kdn 4 = .br:=rfl
def pln:Nat→List Nat→List (Nat × Kd)
  | _,[]=>[]
  | i,k :: l=>(i,kdn k) :: pln (i + 1) l
section
variable {P:Program} {n:Nat} {ops:Array Oper} {Q:Po} {fr kept:Fr} {S:As} {K:Act→World→Prop} {c:Code}
theorem kq (l:List Nat) {fr':Fr} (h:T P n c fr' S Q) (e:KS fr l fr':=by repeat (first | exact KS.nil | (apply KS.cons; exact rfl))):T P n c fr S Q:=T.conseq h e.sub fun _ s=>s
theorem T.cP {p:Prop} [Decidable p] {α:Type} {a b:Option α} {r:α} {o:Operand} {x y:Code} (H:(if p then a else b) = some r) (hc:ev fr o = some (.bool (decide p))) (ht:p→a = some r→T P n x fr S Q) (hf:¬ p→b = some r→T P n y fr S Q):T P n (.cond o x y) fr S Q:=T.condP hc (fun h=>ht h (ifT h H)) (fun h=>hf h (ifF h H))
theorem T.cB {d:Bool} {α:Type} {a b:Option α} {r:α} {o:Operand} {x y:Code} (H:(if d = true then a else b) = some r) (hc:ev fr o = some (.bool d)) (ht:d = true→a = some r→T P n x fr S Q) (hf:d = false→b = some r→T P n y fr S Q):T P n (.cond o x y) fr S Q:=T.cond hc (fun h=>ht h (ifT h H)) (fun h=>hf h (ifB h H))
theorem en {f:FuncId} {fn:Func} {c:Code} (h:P.funcs[f]? = some fn) (h1:(fn.name == "runtime.NumGoroutine") = false:=by kernel_rfl) (h2:fn.body = some c:=by exact rfl):Ent P f:=⟨_,_,h,h1,h2⟩
theorem Sat.pc {w0 w:World} {G G':List Ch} (h:Sat w0 G w) (f:List Nat) (hn:f.Nodup:=by decide) (hg:f.map (fun i=>G[i]?) = G'.map some:=by exact rfl):Sat w0 G' w:=h.pick f hn hg
theorem Sat.sP {w0 w:World} {G B:List Ch} {C:Ch} (fR fP:List Nat) (s:Sat w0 G w) (hx:Sat w0 (pk G fR ++ B) w→Sat w0 (C :: pk G fR) w) (hn:(fR ++ fP).Nodup:=by decide) (hr:(fR.all fun i=>decide (i < G.length)) = true:=by exact rfl) (hp:fP.map (fun i=>G[i]?) = B.map some:=by exact rfl):Sat w0 (C :: pk G fR) w :=
 hx (s.pick (fR ++ fP) hn (by rw [List.map_append,List.map_append,pk_some hr,hp]))
theorem sb {fr r:Fr} (h:Vg.Sub fr r:=by (repeat (first | exact trivial | refine ⟨rfl,?_⟩))):Vg.Sub fr r:=h
theorem te {f:FuncId} {fn:Func} {args:List Value} {w:World} {R:Ending→World→Prop} (hf:P.funcs[f]? = some fn) (s:S w) (h:T P fn.ntmps c (frameOf 0 args) S (bodyPost P fn R)) (hb:fn.body = some c:=by exact rfl) (hn:Nat.ble args.length fn.ntmps = true:=by exact rfl):Calls P f args.toArray w R:=T.enter hf hb hn s h
theorem dr (hm:P.follows .mixedOrders = true) (ds:List Nat) {id:Nat} {plan:List (Nat × Kd)} {w0:World} {G:List Ch} (h:RD P n ops Q plan (fun _=>True) plan fr (Sat w0 G)) (e:pln 0 ds = plan:=by ((try dsimp only [pln,kdn0,kdn1,kdn2,kdn3,kdn4,Nat.reduceAdd]) <;> exact rfl))
  (hp:(planOk ops (Array.replicate ops.size false) plan && noSel ops && plan.length == ops.size && (plan.all fun (i,k)=>plan.lookup i == some k)) = true:=by kernel_rfl):T P n (.region id ops true) fr (Sat w0 G) Q:=T.drawn _ plan hm (ClE.sat _ _) hp h
theorem drS (hm:P.follows .mixedOrders = true) (f ds:List Nat) {id:Nat} {plan:List (Nat × Kd)} {w0:World} {G H:List Ch} (h:RD P n ops Q plan (Sat w0 H) plan fr (Sat w0 G)) (hH:pk G f = H:=by ((try dsimp only [pk,List.filterMap,List.getElem?_cons_zero,List.getElem?_cons_succ]) <;> exact rfl)) (e:pln 0 ds = plan:=by ((try dsimp only [pln,kdn0,kdn1,kdn2,kdn3,kdn4,Nat.reduceAdd]) <;> exact rfl))
  (hp:(planOk ops (Array.replicate ops.size false) plan && noSel ops && plan.length == ops.size && (plan.all fun (i,k)=>plan.lookup i == some k)) = true:=by kernel_rfl):T P n (.region id ops true) fr (Sat w0 G) Q:=T.drawn _ plan hm (ClE.sat _ _) hp (hH ▸ h)
theorem Cont.kq (l:List Nat) {fr':Fr} (h:Cont n K fr' S) (e:KS fr l fr':=by repeat (first | exact KS.nil | (apply KS.cons; exact rfl))):Cont n K fr S:=Cont.conseq h e.sub fun _ s=>s
end
end Go.Vg
set_option linter.unusedVariables false
set_option linter.unusedSimpArgs false
set_option maxRecDepth 20000
set_option maxHeartbeats 4000000
namespace Go.Proofs.YtmngdgclldkcfaaGreat
open Go.Vg
open Enc (R)
theorem bz5:decide (0 < Tryz.prog.bytesOf 5) = true:=by kernel_rfl
theorem co22:Tryz.prog.cellsOf 22 = 1:=by kernel_rfl
theorem co24:Tryz.prog.cellsOf 24 = 3:=by kernel_rfl
theorem co3:Tryz.prog.cellsOf 3 = 1:=by kernel_rfl
theorem co5:Tryz.prog.cellsOf 5 = 1:=by kernel_rfl
theorem uf24:structOf Tryz.prog 24 = some [(3,0),(3,1),(22,2)]:=by kernel_rfl
theorem ul3:Tryz.prog.underlying 3 = some (.int .i64):=by kernel_rfl
theorem ul5:Tryz.prog.underlying 5 = some (.int .u8):=by kernel_rfl
theorem usl22:Tryz.prog.underlying 22 = some (.slice 5):=by kernel_rfl
structure Grd where
 w:Int
 h:Int
 tiles:List UInt8
 deriving Inhabited
instance:Enc Grd where
 sz:=3
 R h x cs:=∃ v2,cs = [.int .i64 x.w,.int .i64 x.h,v2]∧Enc.R h (x.tiles:List UInt8) [v2]
 len:=fun ⟨v2,e,h2⟩=>by rw [e]; rfl
 one:=fun ⟨v2,e,h2⟩ u hu=>by
  rw [e] at hu; simp only [List.mem_cons,List.not_mem_nil,or_false] at hu
  rcases hu with rfl | rfl | rfl
  ·rfl
  ·rfl
  ·exact Enc.one h2 _ (by simp)
 mono:=fun hl ⟨v2,e,h2⟩=>⟨v2,e,Enc.mono hl h2⟩
def Grd.Wf (x:Grd):Prop:=(I64 x.w)∧(I64 x.h)∧((∀ y ∈ x.tiles,True)∧x.tiles.length ≤ 140737488351232)
theorem rd_Grd:Rdbl Tryz.prog 24 Grd Grd.Wf:=fun H enc w fuel cs x h hzd=>by
 obtain ⟨fs,hu,hfs⟩:=structOf_spec uf24
 obtain ⟨hl,m,hf⟩:=trod_field hu h hzd
 obtain ⟨f0,hf0,ht0,ho0⟩:∃ f,fs[0]? = some f∧f.type = 3∧f.offset = 0:=by
  have h1:(fs.toList.map (fun f=>(f.type,f.offset)))[0]? = some (3,0):=by rw [hfs]; rfl
  rw [List.getElem?_map,Option.map_eq_some_iff] at h1
  obtain ⟨f,h2,h3⟩:=h1
  simp only [Prod.mk.injEq] at h3
  exact ⟨f,by simpa using h2,h3.1,h3.2⟩
 obtain ⟨y0,hy0⟩:=hf 0 f0 hf0
 rw [ht0,ho0,co3] at hy0
 obtain ⟨a0,ha0,hw0⟩:=Rdbl.part (Rdbl.int ul3) hy0
 obtain ⟨f1,hf1,ht1,ho1⟩:∃ f,fs[1]? = some f∧f.type = 3∧f.offset = 1:=by
  have h1:(fs.toList.map (fun f=>(f.type,f.offset)))[1]? = some (3,1):=by rw [hfs]; rfl
  rw [List.getElem?_map,Option.map_eq_some_iff] at h1
  obtain ⟨f,h2,h3⟩:=h1
  simp only [Prod.mk.injEq] at h3
  exact ⟨f,by simpa using h2,h3.1,h3.2⟩
 obtain ⟨y1,hy1⟩:=hf 1 f1 hf1
 rw [ht1,ho1,co3] at hy1
 obtain ⟨a1,ha1,hw1⟩:=Rdbl.part (Rdbl.int ul3) hy1
 obtain ⟨f2,hf2,ht2,ho2⟩:∃ f,fs[2]? = some f∧f.type = 22∧f.offset = 2:=by
  have h1:(fs.toList.map (fun f=>(f.type,f.offset)))[2]? = some (22,2):=by rw [hfs]; rfl
  rw [List.getElem?_map,Option.map_eq_some_iff] at h1
  obtain ⟨f,h2,h3⟩:=h1
  simp only [Prod.mk.injEq] at h3
  exact ⟨f,by simpa using h2,h3.1,h3.2⟩
 obtain ⟨y2,hy2⟩:=hf 2 f2 hf2
 rw [ht2,ho2,co22] at hy2
 obtain ⟨a2,ha2,hw2⟩:=Rdbl.part (Rdbl.slice usl22 co5 (by decide) (Rdbl.u8 ul5) bz5) hy2
 rw [co24] at hl
 obtain ⟨x0,x1,x2,rfl⟩:∃ x0 x1 x2,cs = [x0,x1,x2]:=by
  match cs,hl with
  | [x0,x1,x2],_=>exact ⟨x0,x1,x2,rfl⟩
 simp only [List.drop_succ_cons,List.drop_zero,List.take_succ_cons,List.take_zero] at ha0 ha1 ha2
 obtain rfl:x0 = _:=by simpa [Enc.R] using ha0
 obtain rfl:x1 = _:=by simpa [Enc.R] using ha1
 exact ⟨⟨a0,a1,a2⟩,⟨_,rfl,ha2⟩,⟨hw0,hw1,hw2⟩⟩
structure Bld where
 id:Int
 owner:Int
 x:Int
 y:Int
 w:Int
 h:Int
 deriving Inhabited,DecidableEq
theorem eq_Bld (x y:Bld):(x.id == y.id && (x.owner == y.owner && (x.x == y.x && (x.y == y.y && (x.w == y.w && (x.h == y.h && (true))))))) = decide (x = y):=by
 obtain ⟨a0,a1,a2,a3,a4,a5⟩:=x
 obtain ⟨b0,b1,b2,b3,b4,b5⟩:=y
 simp only [Bld.mk.injEq,Bool.and_true,beq_iff_eq,Bool.decide_and]
 simp only [Bool.beq_eq_decide_eq]
instance:Enc Bld where
 sz:=6
 R h x cs:=cs = [.int .i64 x.id,.int .i64 x.owner,.int .i64 x.x,.int .i64 x.y,.int .i64 x.w,.int .i64 x.h]
 len:=fun e=>by rw [e]; rfl
 one:=fun e u hu=>by
  rw [e] at hu; simp only [List.mem_cons,List.not_mem_nil,or_false] at hu
  rcases hu with rfl | rfl | rfl | rfl | rfl | rfl
  ·rfl
  ·rfl
  ·rfl
  ·rfl
  ·rfl
  ·rfl
 mono:=fun hl e=>e
instance:Flat Bld:=⟨fun h=>h⟩
end Go.Proofs.YtmngdgclldkcfaaGreat
set_option linter.unusedVariables false
set_option linter.unusedSimpArgs false
set_option maxRecDepth 20000
set_option maxHeartbeats 4000000
namespace Go.Proofs.YtmngdgclldkcfaaGreat
open Go.Vg
open Enc (R)
--BEGIN
theorem cB_sl:slTy Tryz.prog 49 = some (135,Enc.sz Bld,48):=by kernel_rfl
theorem cB_zr:∃ z,zeroOf Tryz.prog 135 = some z∧z.cells.size = Enc.sz Bld∧(∀ u ∈ z.cells.toList,u.oneCell' = true)∧R nilH ((⟨0,0,0,0,0,0⟩:Bld):Bld) z.cells.toList:=⟨(.agg #[.int .i64 0,.int .i64 0,.int .i64 0,.int .i64 0,.int .i64 0,.int .i64 0]),by kernel_rfl,by rfl,by decide,by rfl⟩
theorem cB_mixed:Tryz.prog.follows .mixedOrders = true:=by kernel_rfl
theorem cB_bool:(Tryz.prog.underlying 3) = some (.int .i64):=by kernel_rfl
def slices_Insert (xs:List Bld) (i:Int) (ys:List Bld):Option (List Bld):=if ys.length = 1∧(0 ≤ i∧i ≤ (xs.length:Int))∧xs.length < 1099511627775 then some (xs.take i.toNat ++ ys ++ xs.drop i.toNat) else none
def slices_Delete (xs:List Bld) (i j:Int):Option (List Bld):=if (0 ≤ i∧i ≤ j∧j ≤ (xs.length:Int))∧xs.length < 1099511627775 then some (xs.take i.toNat ++ xs.drop j.toNat) else none
theorem slices_Delete_walk {w0:World} {F:Ch} (a0:List Bld) (a1 a2:Int) {q0:Option Nat × Nat} {m0:Nat} (hm:m0 = a0.length) {r:List Bld} (H:slices_Delete a0 a1 a2 = some r) (w:World) (s:Sat w0 [row nilH 135 (rowV q0 m0) a0,F] w) :
  Calls Tryz.prog 193 #[rowV q0 m0,.int .i64 a1,.int .i64 a2] w fun e w'=>∃ q:Option Nat × Nat,e = .returned (rowV q r.length)∧Sat w0 [row nilH 135 (rowV q r.length) r,F] w':=by
 subst hm
 unfold slices_Delete at H
 obtain ⟨⟨⟨h0,h1,h2⟩,h3⟩,H⟩:=gdE H
 obtain rfl:=sj H
 obtain ⟨i,rfl⟩:=Int.eq_ofNat_of_zero_le h0
 obtain ⟨j,rfl⟩:=Int.eq_ofNat_of_zero_le (Int.le_trans h0 h1)
 simp only [Int.toNat_natCast]
 have hij:i ≤ j:=by omega
 have hjn:j ≤ a0.length:=by omega
 have hfit:=s.row_fits (k:=0) rfl
 refine T.enter (args:=[_,_,_]) (S:=Sat w0 [row nilH 135 (rowV q0 a0.length) a0,F]) Tryz.func193 rfl rfl s ?_
 refine T.seq fun K1 hK1=>T.region (rA rfl (RS.nil (hK1 _ _ ?_)))
 refine T.seq fun K2 hK2=>T.region (rM rfl (rM rfl (rM rfl (rM rfl (rp (Pu.lenSl cB_sl rfl) (rp (Pu.slice3 cB_sl rfl rfl rfl rfl (by omega)) (RS.nil (hK2 _ _ ?_))))))))
 refine T.seq fun K3 hK3=>T.seq fun K4 hK4=>T.region (rM rfl (rM rfl (rp (Pu.bin rfl rfl rfl) (RS.nil (hK4 _ _ ?_)))))
 refine T.condP rfl (fun hc=>?_) (fun hc=>?_)
 ·have hc':i = j:=by omega
  subst hc'
  refine T.seq fun K5 hK5=>T.region (rM rfl (rA rfl (RS.nil (hK5 _ _ ?_))))
  refine T.retTo (by with_reducible ((repeat (first | apply RetTo.seq | apply RetTo.blk)); exact RetTo.refl _)) (Cont.ret1 rfl rfl fun w' s=>?_)
  rw [List.take_append_drop]
  exact ⟨q0,rfl,s⟩
 refine T.skip (hK3 _ _ ?_)
 have hlt:i < j:=by omega
 refine T.know (p:=∃ g cap,q0 = (some g,cap)) (fun w s=>s.row_some (k:=0) rfl (by omega)) ?_
 rintro ⟨gg,c,rfl⟩
 try dsimp only at hfit
 refine T.seq fun K6 hK6=>T.region (rM rfl (rp (Pu.lenSl cB_sl rfl) (rA rfl (RS.nil (hK6 _ _ ?_)))))
 have hyl:(a0.drop j).length = a0.length - j:=List.length_drop
 have hiy:i + (a0.drop j).length ≤ a0.length:=by omega
 refine T.seq fun K7 hK7=>?_
 refine T.drawn (fun _=>True) [(0,.pu),(1,.pu),(2,.pu),(3,.pu),(4,.pu),(5,.pu),(6,.br),(7,.pu)] cB_mixed (ClE.sat _ _) (by kernel_rfl) ?_
 refine dp rfl (Pu.move rfl) (dp rfl (Pu.move rfl) (dp rfl (Pu.sliceHn (j:=i) cB_sl rfl rfl rfl (by omega)) (dp rfl (Pu.move rfl) (dp rfl (Pu.move rfl) (dp rfl (Pu.sliceL cB_sl rfl rfl (by omega)) (RD.solid rfl (.inr rfl) rfl rfl (Sd.appCut (α:=Bld) (ys:=a0.drop j) 0 i rfl cB_sl rfl rfl (Rd.drop (Rd.ofRowN 0 rfl) hjn rfl) hiy) (fun _=>ClE.sat _ _) (fun _ _ _=>trivial) (fun h=>nomatch h) fun _=>?_))))))
 refine dp rfl (Pu.assign rfl) (RD.nil (hK7 _ _ ?_))
 obtain ⟨z,hz1,hz2,hz3,hz4⟩:=cB_zr
 refine T.seq fun K8 hK8=>T.region (rM rfl (rM rfl (rp (Pu.lenSl cB_sl rfl) (rM rfl (rp (Pu.sliceLHs (j:=i + (a0.drop j).length) (i:=a0.length) cB_sl rfl rfl rfl rfl rfl hiy (by have:=hfit.2.1; omega) (by have:=hfit.2.1; omega)) (RS.solid (Sd.clearSp (α:=Bld) 0 (i + (a0.drop j).length) rfl cB_sl hz1 hz2 hz3 (by simp only [ev,look_cons]; simp; rfl) (by simp; omega) (by have:=hfit.2.1; omega) (by omega)) rfl rfl fun _=>RS.nil (hK8 _ _ ?_)))))))
 refine T.seq fun K9 hK9=>T.region (rM rfl (rA rfl (RS.nil (hK9 _ _ ?_))))
 refine T.retTo (by with_reducible ((repeat (first | apply RetTo.seq | apply RetTo.blk)); exact RetTo.refl _)) (Cont.ret1 rfl rfl fun w' s=>?_)
 have e:(a0.take i ++ a0.drop j).length = i + (a0.drop j).length:=by rw [List.length_append,List.length_take,Nat.min_eq_left (by omega)]
 rw [e]
 exact ⟨(some gg,c),rfl,s⟩
theorem cB_ovl:∃ fn,Tryz.prog.funcs[(293:Nat)]? = some fn∧isOvl fn 49 4:=⟨_,Tryz.func293,by kernel_rfl,by kernel_rfl,by kernel_rfl,by kernel_rfl⟩
theorem slices_Insert_walk {w0:World} {F:Ch} (a0:List Bld) (a1:Int) (a2:List Bld) {q0:Option Nat × Nat} {m0:Nat} (hm:m0 = a0.length) {v0:Value} (hv:Rd (Sat w0 [F]) a2 [v0]) {r:List Bld} (H:slices_Insert a0 a1 a2 = some r) (w:World) (s:Sat w0 [row nilH 135 (rowV q0 m0) a0,F] w) :
  Calls Tryz.prog 260 #[rowV q0 m0,.int .i64 a1,v0] w fun e w'=>∃ q:Option Nat × Nat,e = .returned (rowV q r.length)∧Sat w0 [row nilH 135 (rowV q r.length) r,F] w':=by
 subst hm
 unfold slices_Insert at H
 obtain ⟨⟨hy1,⟨h0,h1⟩,h3⟩,H⟩:=gdE H
 obtain rfl:=sj H
 obtain ⟨y,rfl⟩:∃ y,a2 = [y]:=by
  match a2,hy1 with
  | [y],_=>exact ⟨y,rfl⟩
 obtain ⟨i,rfl⟩:=Int.eq_ofNat_of_zero_le h0
 simp only [Int.toNat_natCast]
 have hin:i ≤ a0.length:=by omega
 have hfit:=s.row_fits (k:=0) rfl
 obtain ⟨p,cc,rfl⟩:=R_form (hv w (s.pick [1] (by decide) rfl))
 have hl1:([y]:List Bld).length = 1:=rfl
 rw [hl1] at hv ⊢
 obtain ⟨z,hz1,hz2,hz3,hz4⟩:=cB_zr
 refine T.enter (args:=[_,_,_]) (S:=Sat w0 [row nilH 135 (rowV q0 a0.length) a0,F]) Tryz.func260 rfl rfl s ?_
 refine T.seq fun K1 hK1=>T.region (rA rfl (RS.nil (hK1 _ _ ?_)))
 refine T.seq fun K2 hK2=>T.region (rM rfl (rM rfl (rp (Pu.sliceL cB_sl rfl rfl (by omega)) (RS.nil (hK2 _ _ ?_)))))
 refine T.seq fun K3 hK3=>T.region (rM rfl (rp (Pu.lenSl cB_sl rfl) (rA rfl (RS.nil (hK3 _ _ ?_)))))
 refine T.seq fun K4 hK4=>T.seq fun K5 hK5=>T.region (rM rfl (rp (Pu.bin rfl rfl rfl) (RS.nil (hK5 _ _ ?_))))
 refine T.condP rfl (fun hc=>absurd hc (by omega)) (fun hc=>?_)
 refine T.skip (hK4 _ _ ?_)
 refine T.seq fun K6 hK6=>T.region (rM rfl (rp (Pu.lenSl cB_sl rfl) (rA rfl (RS.nil (hK6 _ _ ?_)))))
 refine T.seq fun K7 hK7=>T.seq fun K8 hK8=>T.region (rM rfl (rM rfl (rp (Pu.bin rfl rfl rfl) (RS.nil (hK8 _ _ ?_)))))
 refine T.condP rfl (fun hin'=>?_) (fun hin'=>?_)
 ·refine T.seq fun K9 hK9=>?_
  refine T.region (rM rfl (rM rfl (RS.solid (Sd.appR (α:=Bld) 0 (nilH_lt _) rfl cB_sl hz1 hz2 rfl rfl (Rd.ofFrame 1 rfl hv) (by simp only [List.length_cons,List.length_nil]; omega) (by decide)) rfl rfl fun q=>rA rfl (RS.nil (hK9 _ _ ?_)))))
  refine T.retTo (by with_reducible ((repeat (first | apply RetTo.seq | apply RetTo.blk)); exact RetTo.refl _)) (Cont.ret1 rfl rfl fun w' s=>?_)
  have hi:i = a0.length:=by omega
  subst hi
  rw [List.take_length,List.drop_length,List.append_nil]
  exact ⟨q,rfl,s⟩
 refine T.skip (hK7 _ _ ?_)
 have hlt:i < a0.length:=by omega
 refine T.know (p:=∃ g cap,q0 = (some g,cap)) (fun w s=>s.row_some (k:=0) rfl (by omega)) ?_
 rintro ⟨gg,c,rfl⟩
 try dsimp only at hfit
 refine T.seq fun KA1 hKA1=>?_
 refine T.seq fun KB1 hKB1=>?_
 refine T.region (rM rfl (rM rfl (rp (Pu.addS rfl rfl (by omega)) (rM rfl (rp (Pu.capSl cB_sl rfl) (rp (Pu.bin rfl rfl rfl) (RS.nil (hKB1 _ _ ?_))))))))
 refine T.condP rfl (fun hg=>?_) (fun hg=>?_)
 ·have hkk:(((a0.length:Nat):Int) + ((1:Nat):Int) - (i:Int)) = ((a0.length + 1 - i:Nat):Int):=by omega
  refine T.seq fun KC1 hKC1=>?_
  refine T.region (rM rfl (rM rfl (rp (Pu.sliceHn (j:=i) cB_sl rfl rfl rfl (by omega)) (rM rfl (rM rfl (rp (Pu.addS rfl rfl (by omega)) (rM rfl (rp (Pu.subS rfl rfl (by omega)) (RS.solid (Sd.appZeros (α:=Bld) (z0:=(⟨0,0,0,0,0,0⟩:Bld)) (kk:=a0.length + 1 - i) 0 i rfl cB_sl hz1 hz4 (by decide) cB_bool rfl rfl hkk (by omega) (by omega) (by omega) (by omega) (by decide)) rfl rfl fun q=>rA rfl (RS.nil (hKC1 _ _ ?_)))))))))))
  have hTl:(a0.take i ++ List.replicate (a0.length + 1 - i) ((⟨0,0,0,0,0,0⟩:Bld):Bld)).length = i + (a0.length + 1 - i):=by simp only [List.length_append,List.length_take,List.length_replicate]; omega
  refine T.know (p:=∃ g cap,q = (some g,cap)) (fun w s=>s.row_some (k:=2) rfl (by rw [hTl]; omega)) ?_
  rintro ⟨bb,cb,rfl⟩
  refine T.know (fun w s=>s.row_fits (k:=2) rfl) fun hfb=>?_
  try dsimp only at hfb
  have hfb2:=hfb.2.1
  refine T.seq fun KD1 hKD1=>?_
  refine T.region (rM rfl (rM rfl (rp (Pu.sliceLs (j:=i) cB_sl rfl rfl rfl (by omega) (by omega)) (rM rfl (RS.solid (Sd.copyR (α:=Bld) (o:=i) 2 rfl cB_sl rfl rfl (Rd.ofFrame 1 rfl hv) (Nat.zero_add _) (by rw [hTl]; have h:Nat.min 1 (i + (a0.length + 1 - i) - i) ≤ 1:=Nat.min_le_left _ _; omega)) rfl rfl fun _=>RS.nil (hKD1 _ _ ?_))))))
  refine T.seq fun KE1 hKE1=>?_
  refine T.drawn (fun _=>True) [(0,.pu),(1,.pu),(2,.pu),(3,.pu),(4,.pu),(5,.pu),(6,.pu),(7,.pu),(8,.br)] cB_mixed (ClE.sat _ _) (by kernel_rfl) ?_
  refine dp rfl (Pu.move rfl) (dp rfl (Pu.move rfl) (dp rfl (Pu.move rfl) (dp rfl (Pu.addS rfl rfl (by omega)) (dp rfl (Pu.sliceLs (j:=i + 1) cB_sl rfl rfl (by omega) (by omega) (by omega)) (dp rfl (Pu.move rfl) (dp rfl (Pu.move rfl) (dp rfl (Pu.sliceLn (j:=i) cB_sl rfl rfl rfl hin) ?_)))))))
  have hX:(a0.take i ++ List.replicate (a0.length + 1 - i) ((⟨0,0,0,0,0,0⟩:Bld):Bld)).take i ++ [y].take (Nat.min 1 (i + (a0.length + 1 - i) - i)) ++ (a0.take i ++ List.replicate (a0.length + 1 - i) ((⟨0,0,0,0,0,0⟩:Bld):Bld)).drop (i + Nat.min 1 (i + (a0.length + 1 - i) - i)) = (a0.take i ++ List.replicate (a0.length + 1 - i) ((⟨0,0,0,0,0,0⟩:Bld):Bld)).take i ++ [y].take (Nat.min 1 (a0.length + 1 - i)) ++ (a0.take i ++ List.replicate (a0.length + 1 - i) ((⟨0,0,0,0,0,0⟩:Bld):Bld)).drop (i + Nat.min 1 (a0.length + 1 - i)):=by rw [Nat.add_sub_cancel_left]
  have hXl:((a0.take i ++ List.replicate (a0.length + 1 - i) ((⟨0,0,0,0,0,0⟩:Bld):Bld)).take i ++ [y].take (Nat.min 1 (i + (a0.length + 1 - i) - i)) ++ (a0.take i ++ List.replicate (a0.length + 1 - i) ((⟨0,0,0,0,0,0⟩:Bld):Bld)).drop (i + Nat.min 1 (i + (a0.length + 1 - i) - i))).length = a0.length + 1:=by
   have h:Nat.min 1 (i + (a0.length + 1 - i) - i) = 1:=Nat.min_eq_left (by omega)
   rw [h]; simp only [List.length_append,List.length_take,List.length_drop,List.length_replicate,List.length_cons,List.length_nil]; omega
  refine RD.solid rfl (.inr rfl) rfl rfl (Sd.copyR (α:=Bld) (o:=i + 1) 2 rfl cB_sl rfl rfl (Rd.drop (Rd.ofRowN 0 rfl) hin rfl) (Nat.zero_add _) (by rw [hXl]; have h:Nat.min (a0.length - i) (i + (a0.length + 1 - i) - (i + 1)) ≤ a0.length - i:=Nat.min_le_left _ _; omega)) (fun _=>ClE.sat _ _) (fun _ _ _=>trivial) (fun h=>nomatch h) fun _=>?_
  refine RD.nil (hKE1 _ _ ?_)
  refine T.seq fun KF1 hKF1=>?_
  refine T.region (rM rfl (rA rfl (RS.nil (hKF1 _ _ ?_))))
  refine T.retTo (by with_reducible ((repeat (first | apply RetTo.seq | apply RetTo.blk)); exact RetTo.refl _)) (Cont.ret1 rfl rfl fun w' s=>?_)
  have hmm:Nat.min (a0.length - i) (i + (a0.length + 1 - i) - (i + 1)) = Nat.min (a0.length - i) (a0.length - i):=by congr 1; omega
  have hfin:=ins_grow (xs:=a0) (i:=i) (y:=y) (z:=((⟨0,0,0,0,0,0⟩:Bld):Bld)) hlt
  refine ⟨(some bb,cb),?_,?_⟩
  ·show Ending.returned (.slice (some ⟨bb,0,none⟩) (i + (a0.length + 1 - i)) cb) = .returned (.slice (some ⟨bb,0,none⟩) (a0.take i ++ [y] ++ a0.drop i).length cb)
   congr 2
   simp only [List.length_append,List.length_take,List.length_drop,List.length_cons,List.length_nil]; omega
  ·have s2:=s.pick (G':=[row nilH 135 (.slice (some ⟨bb,0,none⟩) (i + (a0.length + 1 - i)) cb) _,F]) [2,1] (by decide) rfl
   have hl:(a0.take i ++ [y] ++ a0.drop i).length = i + (a0.length + 1 - i):=by simp only [List.length_append,List.length_take,List.length_drop,List.length_cons,List.length_nil]; omega
   rw [hmm,hX,hfin] at s2
   rw [hl]
   exact s2
 refine T.skip (hKA1 _ _ ?_)
 have hroom:a0.length + 1 ≤ c:=by omega
 obtain ⟨bv,ov,rfl,hbv,_⟩:=apart_of (C:=row nilH 135 (rowV (some gg,c) a0.length) a0) (F:=F) s (fun q hq=>by
  rcases hq with ⟨hq,_⟩ | ⟨g',cap,cs,sp,hq,h1,_⟩
  ·simp [rowV] at hq
  ·simp only [rowV,Option.map_some,Value.slice.injEq,Option.some.injEq,Addr.mk.injEq,and_true] at hq
   obtain ⟨rfl,_⟩:=hq
   exact ⟨_,h1⟩) hv (by decide)
 refine T.seq fun KG1 hKG1=>?_
 refine T.region (rM rfl (rM rfl (rM rfl (rp (Pu.addS rfl rfl (by omega)) (rp (Pu.sliceHn (j:=a0.length + 1) cB_sl rfl rfl (by omega) hroom) (rA rfl (RS.nil (hKG1 _ _ ?_))))))))
 refine T.seq fun KH1 hKH1=>?_
 refine T.seq fun KI1 hKI1=>?_
 refine T.region (rM rfl (rM rfl (rM rfl (rM rfl (rp (Pu.addS rfl rfl (by omega)) (rp (Pu.sliceLs (j:=i + 1) cB_sl rfl rfl (by omega) (by omega) (by omega)) ?_))))))
 obtain ⟨fno,hfo,hoo⟩:=cB_ovl
 refine rq (Qt.overlaps hfo hoo cB_sl rfl rfl (fun w s=>?_)) ?_
 ·have hsp:Sat w0 [row nilH 135 (rowV (some gg,c) a0.length) a0,F] w:=s
  obtain ⟨b2,o2,e2,hb2,hcells⟩:=apart_of (C:=row nilH 135 (rowV (some gg,c) a0.length) a0) (F:=F) hsp (fun q hq=>by
   rcases hq with ⟨hq,_⟩ | ⟨g',cap,cs,sp,hq,h1,_⟩
   ·simp [rowV] at hq
   ·simp only [rowV,Option.map_some,Value.slice.injEq,Option.some.injEq,Addr.mk.injEq,and_true] at hq
    obtain ⟨rfl,_⟩:=hq
    exact ⟨_,h1⟩) hv (by decide)
  simp only [Option.some.injEq,Addr.mk.injEq,and_true] at e2
  obtain ⟨rfl,rfl⟩:=e2
  obtain ⟨cs,sp,k1,_,k3,_⟩:=hsp.rowCells (k:=0) rfl
  refine ⟨hbv,hcells,_,_,k1,?_⟩
  simp only [List.size_toArray]
  rw [k3]
  exact Nat.mul_pos (by omega) (by decide)
 refine rp (Pu.not rfl) (RS.nil (hKI1 _ _ ?_))
 refine T.condT rfl ?_
 refine T.seq fun KJ1 hKJ1=>?_
 refine T.drawn (fun _=>True) [(0,.pu),(1,.pu),(2,.pu),(3,.pu),(4,.pu),(5,.pu),(6,.pu),(7,.pu),(8,.br)] cB_mixed (ClE.sat _ _) (by kernel_rfl) ?_
 refine dp rfl (Pu.move rfl) (dp rfl (Pu.move rfl) (dp rfl (Pu.move rfl) (dp rfl (Pu.addS rfl rfl (by omega)) (dp rfl (Pu.sliceLs (j:=i + 1) cB_sl rfl rfl (by omega) (by omega) (by omega)) (dp rfl (Pu.move rfl) (dp rfl (Pu.move rfl) (dp rfl (Pu.sliceLs (j:=i) cB_sl rfl rfl rfl (by omega) (by omega)) (RD.solid rfl (.inr rfl) rfl rfl (Sd.copyUp (α:=Bld) 0 i rfl cB_sl hlt hroom (vsl (by omega) (by omega)) (vsl (by omega) rfl) (by omega)) (fun _=>ClE.sat _ _) (fun _ _ _=>trivial) (fun h=>nomatch h) fun _=>?_))))))))
 refine RD.nil (hKJ1 _ _ ?_)
 have hXl:(a0.take (i + 1) ++ a0.drop i).length = a0.length + 1:=by simp only [List.length_append,List.length_take,List.length_drop]; omega
 refine T.seq fun KL1 hKL1=>?_
 refine T.region (rM rfl (rM rfl (rp (Pu.sliceLs (j:=i) cB_sl rfl rfl rfl (by omega) (by omega)) (rM rfl (RS.solid (Sd.copyR (α:=Bld) (o:=i) 0 rfl cB_sl rfl rfl (Rd.ofFrame 1 rfl hv) (Nat.zero_add _) (by rw [hXl]; have h:Nat.min 1 (a0.length + 1 - i) ≤ 1:=Nat.min_le_left _ _; omega)) rfl rfl fun _=>RS.nil (hKL1 _ _ ?_))))))
 refine T.seq fun KM1 hKM1=>?_
 refine T.region (rM rfl (rA rfl (RS.nil (hKM1 _ _ ?_))))
 refine T.retTo (by with_reducible ((repeat (first | apply RetTo.seq | apply RetTo.blk)); exact RetTo.refl _)) (Cont.ret1 rfl rfl fun w' s=>?_)
 have hfin:=ins_up (xs:=a0) (i:=i) (y:=y) (m:=Nat.min 1 (a0.length + 1 - i)) hlt (Nat.min_eq_left (by omega))
 have hl:(a0.take i ++ [y] ++ a0.drop i).length = a0.length + 1:=by simp only [List.length_append,List.length_take,List.length_drop,List.length_cons,List.length_nil]; omega
 have s2:=s.pick (G':=[row nilH 135 (.slice (some ⟨gg,0,none⟩) (a0.length + 1) c) _,F]) [0,1] (by decide) rfl
 rw [hfin] at s2
 rw [hl]
 exact ⟨(some gg,c),rfl,s2⟩
--END
end Go.Proofs.YtmngdgclldkcfaaGreat
