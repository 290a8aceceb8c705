/-
  Texts of one's own, joined: AU BO BI ZC.
-/
import Derived.Test.YtmngdgclldkcfaaGreatJ6
import Derived.Test.YtmngdgclldkcfaaGreatRows
import Derived.Test.YtmngdgclldkcfaaGreatJ5
set_option linter.unusedVariables false
set_option linter.unusedSectionVars false
namespace Go.Vg
open Go
class FdC (P:Program) (t f:Nat) (off:outParam Nat):Prop where h:fdOff P t f = some off:=by kernel_rfl
class TyC (P:Program) (t:Nat) (r:outParam (Nat × Bool)):Prop where h:tySz P t = some r:=by kernel_rfl
class SlC (P:Program) (t:Nat) (r:outParam (Nat × Nat × Nat)):Prop where h:slTy P t = some r:=by kernel_rfl
inductive HasB (b:Nat) (cs:List Value) (e:TypeId):List Ch→Prop
  | here {G:List Ch}:HasB b cs e (blk b cs e :: G)
  | there {C:Ch} {G:List Ch}:HasB b cs e G→HasB b cs e (C :: G)
theorem HasB.at {b:Nat} {cs:List Value} {e:TypeId}:∀ {G:List Ch},HasB b cs e G→∃ k:Nat,G[k]? = some (blk b cs e)
 | _,.here=>⟨0,rfl⟩
 | _,.there h=>let ⟨k,hk⟩:=h.at; ⟨k + 1,hk⟩
inductive SetB (b:Nat) (cs cs':List Value) (e:TypeId):List Ch→List Ch→Prop
 | here {G:List Ch}:SetB b cs cs' e (blk b cs e :: G) (blk b cs' e :: G)
 | there {C:Ch} {G G':List Ch}:SetB b cs cs' e G G'→SetB b cs cs' e (C :: G) (C :: G')
theorem SetB.at {b:Nat} {cs cs':List Value} {e:TypeId}:∀ {G G':List Ch},SetB b cs cs' e G G'→∃ k:Nat,G[k]? = some (blk b cs e)∧G' = G.set k (blk b cs' e)
 | _,_,.here=>⟨0,rfl,rfl⟩
 | _,_,.there h=>let ⟨k,hk,he⟩:=h.at; ⟨k + 1,hk,by rw [he]; rfl⟩
inductive SubL:List Ch→List Ch→Prop
 | nil {G:List Ch}:SubL [] G
 | take {C:Ch} {H G:List Ch}:SubL H G→SubL (C :: H) (C :: G)
 | skip {C:Ch} {H G:List Ch}:SubL H G→SubL H (C :: G)
theorem SubL.at:∀ {H G:List Ch},SubL H G→∃ f:List Nat,f.Nodup∧f.map (fun i=>G[i]?) = H.map some
 | _,_,.nil=>⟨[],List.nodup_nil,rfl⟩
 | _,_,.take h=>by
  obtain ⟨f,h1,h2⟩:=h.at
  refine ⟨0 :: f.map (· + 1),?_,by simpa [Function.comp_def] using h2⟩
  rw [List.nodup_cons]
  refine ⟨by simp,?_⟩
  exact List.Pairwise.map _ (fun a b h e=>h (Nat.add_right_cancel e)) h1
 | _,_,.skip h=>by
  obtain ⟨f,h1,h2⟩:=h.at
  exact ⟨f.map (· + 1),List.Pairwise.map _ (fun a b h e=>h (Nat.add_right_cancel e)) h1,by simpa [Function.comp_def] using h2⟩
theorem SubL.sat {w0:World} {H G:List Ch} (h:SubL H G) (w:World) (s:Sat w0 G w):Sat w0 H w:=let ⟨f,h1,h2⟩:=h.at; s.pick f h1 h2
def over:List Value→List Value→List Value
  | cs,[]=>cs
  | _ :: cs,u :: us=>u :: over cs us
  | [],us=>us
def putL:List Value→Nat→List Value→List Value
  | cs,0,us=>over cs us
  | c :: cs,n + 1,us=>c :: putL cs n us
  | [],_,us=>us
theorem over_eq:∀ {us cs:List Value},us.length ≤ cs.length→us ++ cs.drop us.length = over cs us
 | [],cs,_=>by cases cs <;> rfl
 | u :: us,[],h=>by simp at h
 | u :: us,c :: cs,h=>by
  simp only [over,List.length_cons,List.drop_succ_cons,List.cons_append]
  rw [over_eq (by simpa using h)]
theorem putL_eq:∀ {o:Nat} {cs us:List Value},o + us.length ≤ cs.length→cs.take o ++ us ++ cs.drop (o + us.length) = putL cs o us
 | 0,cs,us,h=>by
  simp only [List.take_zero,List.nil_append,Nat.zero_add]
  rw [over_eq (by omega)]
  cases cs <;> rfl
 | o + 1,[],us,h=>by simp at h
 | o + 1,c :: cs,us,h=>by
  simp only [putL,List.take_succ_cons,List.cons_append]
  rw [show o + 1 + us.length = (o + us.length) + 1 by omega,List.drop_succ_cons,putL_eq (by simp only [List.length_cons] at h; omega)]
structure Au (n:Nat) (A B:Prop):Prop where
 f:A→B
theorem Au.z {A B:Prop} (h:A→B):Au 0 A B:=⟨h⟩
section
variable {P:Program} {N n:Nat} {ops:Array Oper} {Q:Po} {rest:List Oper} {fr:Fr} {S:As} {A:Prop} {w0:World} {G:List Ch}
variable {dst:Option Tmp} {ty:TypeId} {pos:String} {aft:Array Edge} {g:Option (Nat × Bool)}
theorem Au.p {o:Oper} {v:Value} (h:Pu P N o fr v) (hg:gval ops fr o.guard = some true) (hd:dOk N o.dst = true) (r:Au n A (RS P N ops Q rest (putF o.dst v fr) S)):Au (n + 1) A (RS P N ops Q (o :: rest) fr S):=⟨fun a=>RS.p h hg hd (r.f a)⟩
theorem Au.q {o:Oper} {v:Value} (h:Qt P N o fr (Sat w0 G) v) (hg:gval ops fr o.guard = some true) (hd:dOk N o.dst = true) (r:Au n A (RS P N ops Q rest (putF o.dst v fr) (Sat w0 G))):Au (n + 1) A (RS P N ops Q (o :: rest) fr (Sat w0 G)):=⟨fun a=>RS.q h hg hd (r.f a)⟩
theorem Au.s {o:Oper} {G':List Ch} (h:Sd P N o fr (Sat w0 G) (fun _:Unit=>undef) (fun _=>Sat w0 G')) (hg:gval ops fr o.guard = some true) (hd:dOk N o.dst = true) (r:Au n A (RS P N ops Q rest (putF o.dst undef fr) (Sat w0 G'))):Au (n + 1) A (RS P N ops Q (o :: rest) fr (Sat w0 G)):=⟨fun a=>RS.solid h hg hd fun _=>r.f a⟩
theorem Au.no {o:Oper} (hg:gval ops fr o.guard = some false) (hd:dOk N o.dst = true) (r:Au n A (RS P N ops Q rest (putF o.dst undef fr) S)):Au (n + 1) A (RS P N ops Q (o :: rest) fr S):=⟨fun a=>RS.no hg hd (r.f a)⟩
theorem Au.nl {y:Code} {K:Act→World→Prop} (hK:∀ fr' S',T P N y fr' S' Q→Cont N K fr' S') (r:Au n A (T P N y fr S Q)):Au (n + 1) A (RS P N ops (Exit.then K Q) [] fr S):=⟨fun a=>RS.nil (hK _ _ (r.f a))⟩
theorem Au.sq {x y:Code} (h:∀ K:Act→World→Prop,(∀ fr' S',T P N y fr' S' Q→Cont N K fr' S')→Au n A (T P N x fr S (Exit.then K Q))):Au n A (T P N (x.seq y) fr S Q):=⟨fun a=>T.seq fun K hK=>(h K hK).f a⟩
theorem Au.rg {id:Nat} {l:List Oper} (r:Au n A (RS P N l.toArray Q l fr S)):Au n A (T P N (.region id l.toArray false) fr S Q):=⟨fun a=>T.region (r.f a)⟩
theorem Pu.fieldAddrC {s:TypeId} {x:Operand} {f off b o:Nat} [hf:FdC P s f off] (hx:ev fr x = some (.pointer (some ⟨b,o,none⟩))):Pu P N ⟨dst,.fieldAddr s x f,ty,pos,aft,g⟩ fr (.pointer (some ⟨b,o + off,none⟩)):=Pu.fieldAddr hf.h hx
theorem Pu.lenSlC {e:TypeId} {x:Operand} {at':TypeId} {sz by' len cap:Nat} {p:Option Addr} [ht:SlC P at' (e,sz,by')] (hx:ev fr x = some (.slice p len cap)):Pu P N ⟨dst,.call { callee:=.builtin .len,args:=#[x],argTypes:=#[at'] },ty,pos,aft,g⟩ fr (.int .i64 len):=Pu.lenSl ht.h hx
theorem Qt.ldBC {t e:TypeId} {x:Operand} {b o:Nat} {cs:List Value} {v:Value} [ht:TyC P t (1,false)] (hx:ev fr x = some (.pointer (some ⟨b,o,none⟩))) (hk:HasB b cs e G) (hv:cs[o]? = some v):Qt P N ⟨dst,.load t x,ty,pos,aft,g⟩ fr (Sat w0 G) v:=let ⟨k,hk⟩:=hk.at; Qt.ldB k ht.h hx hk hv
theorem Qt.ldBAC {t sz e:TypeId} {x:Operand} {b o:Nat} {cs us:List Value} [ht:TyC P t (sz,true)] (hx:ev fr x = some (.pointer (some ⟨b,o,none⟩))) (hk:HasB b cs e G) (hu:(cs.drop o).take sz = us) (hl:us.length = sz):Qt P N ⟨dst,.load t x,ty,pos,aft,g⟩ fr (Sat w0 G) (.agg us.toArray):=let ⟨k,hk⟩:=hk.at; Qt.ldBA k ht.h hx hk hu hl
theorem Sd.stBC {t e:TypeId} {x y:Operand} {b o sz:Nat} {gg:Bool} {cs cs' us:List Value} {v:Value} {G':List Ch} (ht:tySz P t = some (sz,gg)) (hx:ev fr x = some (.pointer (some ⟨b,o,none⟩))) (hy:ev fr y = some v) (hk:SetB b cs cs' e G G')
  (hv:v.cells.toList = us) (hl:us.length = sz) (ho:Nat.ble (o + sz) cs.length = true) (h1:us.all (·.oneCell') = true) (hc:cs.take o ++ us ++ cs.drop (o + sz) = cs') :
  Sd P N ⟨none,.store t x y,ty,pos,aft,g⟩ fr (Sat w0 G) (fun _:Unit=>undef) (fun _=>Sat w0 G'):=by
 obtain ⟨k,hj,rfl⟩:=hk.at
 exact Sd.stB k ht hx hy hj hv hl ho h1 hc
theorem Sd.stB1 {t e:TypeId} {x y:Operand} {b o:Nat} {gg:Bool} {cs cs':List Value} {v:Value} {G':List Ch} [ht:TyC P t (1,gg)] (hx:ev fr x = some (.pointer (some ⟨b,o,none⟩))) (hy:ev fr y = some v) (hk:SetB b cs cs' e G G')
  (hv:v.cells.toList = [v]) (ho:Nat.ble (o + 1) cs.length = true) (h1:v.oneCell' = true) (hc:cs.set o v = cs') :
  Sd P N ⟨none,.store t x y,ty,pos,aft,g⟩ fr (Sat w0 G) (fun _:Unit=>undef) (fun _=>Sat w0 G') :=
 Sd.stBC ht.h hx hy hk hv rfl ho (by simp [h1]) (by
  have h:o < cs.length:=Nat.lt_of_succ_le (Nat.le_of_ble_eq_true ho)
  rw [← hc,List.set_eq_take_append_cons_drop,if_pos h]; simp)
theorem Sd.stBA {t e:TypeId} {x y:Operand} {b o sz:Nat} {gg:Bool} {cs cs' us:List Value} {G':List Ch} [ht:TyC P t (sz,gg)] (hx:ev fr x = some (.pointer (some ⟨b,o,none⟩))) (hy:ev fr y = some (.agg us.toArray)) (hk:SetB b cs cs' e G G')
  (hv:(Value.agg us.toArray).cells.toList = us) (hl:us.length = sz) (ho:Nat.ble (o + sz) cs.length = true) (h1:us.all (·.oneCell') = true) (hc:putL cs o us = cs') :
  Sd P N ⟨none,.store t x y,ty,pos,aft,g⟩ fr (Sat w0 G) (fun _:Unit=>undef) (fun _=>Sat w0 G') :=
 Sd.stBC ht.h hx hy hk hv hl ho h1 (by subst hl; rw [putL_eq (Nat.le_of_ble_eq_true ho),hc])
end
section
variable {P:Program} {N n:Nat} {L:List Oper} {Q:Po} {full plan:List (Nat × Kd)} {fr:Fr} {S Cw:As} {A:Prop} {w0:World} {G:List Ch} {i:Nat} {o:Oper} {v:Value}
theorem tA {o:Oper} (h:L[i]? = some o):L.toArray[i]? = some o:=by rw [List.getElem?_toArray]; exact h
theorem Au.dp (hw:∀ w,Sat w0 G w→Cw w) (hi:L[i]? = some o) (h:Pu P N o fr v) (hg:gval L.toArray fr o.guard = some true) (hd:dOk N o.dst = true) (r:Au n A (RD P N L.toArray Q full Cw plan (putF o.dst v fr) (Sat w0 G))):Au (n + 1) A (RD P N L.toArray Q full Cw ((i,.pu) :: plan) fr (Sat w0 G)):=⟨fun a=>RD.p hw (tA hi) h hg hd (r.f a)⟩
theorem Au.dq (hw:∀ w,Sat w0 G w→Cw w) (hi:L[i]? = some o) (h:Qt P N o fr (Sat w0 G) v) (hg:gval L.toArray fr o.guard = some true) (hd:dOk N o.dst = true) (r:Au n A (RD P N L.toArray Q full Cw plan (putF o.dst v fr) (Sat w0 G))):Au (n + 1) A (RD P N L.toArray Q full Cw ((i,.rd) :: plan) fr (Sat w0 G)):=⟨fun a=>RD.q hw (tA hi) h hg hd (r.f a)⟩
theorem Au.dw (hw:∀ w,Sat w0 G w→Cw w) (hi:L[i]? = some o) (h:Qt P N o fr Cw v) (hg:gval L.toArray fr o.guard = some true) (hd:dOk N o.dst = true) (r:Au n A (RD P N L.toArray Q full Cw plan (putF o.dst v fr) (Sat w0 G))):Au (n + 1) A (RD P N L.toArray Q full Cw ((i,.wk) :: plan) fr (Sat w0 G)):=⟨fun a=>RD.w hw (tA hi) h hg hd (r.f a)⟩
theorem Au.dn {k:Kd} (hw:∀ w,Sat w0 G w→Cw w) (hi:L[i]? = some o) (hg:gval L.toArray fr o.guard = some false) (hd:dOk N o.dst = true) (hk:k = .pu ∨ k = .wk ∨ k = .rd) (r:Au n A (RD P N L.toArray Q full Cw plan (putF o.dst undef fr) (Sat w0 G))):Au (n + 1) A (RD P N L.toArray Q full Cw ((i,k) :: plan) fr (Sat w0 G)):=⟨fun a=>RD.no hw (tA hi) hg hd hk (r.f a)⟩
theorem Au.ds {G':List Ch} (hi:L[i]? = some o) (h:Sd P N o fr (Sat w0 G) (fun _:Unit=>undef) (fun _=>Sat w0 G')) (hw:∀ w,Sat w0 G' w→Cw w) (hg:gval L.toArray fr o.guard = some true) (hd:dOk N o.dst = true) (r:Au n A (RD P N L.toArray Q full Cw plan (putF o.dst undef fr) (Sat w0 G'))):Au (n + 1) A (RD P N L.toArray Q full Cw ((i,.br) :: plan) fr (Sat w0 G)):=⟨fun a=>RD.solid (tA hi) (.inr rfl) hd hg h (fun _=>ClE.sat _ _) (fun _=>hw) (fun h=>nomatch h) fun _=>r.f a⟩
theorem Au.dl {y:Code} {K:Act→World→Prop} (hK:∀ fr' S',T P N y fr' S' Q→Cont N K fr' S') (r:Au n A (T P N y fr S Q)):Au (n + 1) A (RD P N L.toArray (Exit.then K Q) full Cw [] fr S):=⟨fun a=>RD.nil (hK _ _ (r.f a))⟩
end
section
variable {A B:Prop}
theorem au (n:Nat) (h:A) (t:∀ X:Prop,(X→A)→Au n X B:=by
 intro X hX
 (try dsimp only [List.set,List.cons_append,List.nil_append,pk,List.filterMap,List.getElem?_cons_zero,List.getElem?_cons_succ,List.drop])
 repeat (first
  | with_reducible exact Au.z hX
  | ((with_reducible apply Au.p); (first | ((with_reducible apply Pu.move); exact rfl) | ((with_reducible apply Pu.assign); exact rfl) | ((with_reducible apply Pu.fieldAddrC); exact rfl) | ((with_reducible apply Pu.nilCheck); exact rfl) | ((with_reducible apply Pu.bin); exact rfl; exact rfl; exact rfl) | ((with_reducible apply Pu.lenSlC); exact rfl) | ((with_reducible apply Pu.extract); exact rfl; exact rfl) | ((with_reducible apply Pu.not); exact rfl) | ((with_reducible apply Pu.pickT); exact rfl; exact rfl) | ((with_reducible apply Pu.pickF); exact rfl; exact rfl)); exact rfl; exact rfl)
  | ((with_reducible apply Au.q); (first | ((with_reducible apply Qt.ldBC); exact rfl; (repeat (first | with_reducible apply HasB.here | with_reducible apply HasB.there)); exact rfl) | ((with_reducible apply Qt.ldBAC); exact rfl; (repeat (first | with_reducible apply HasB.here | with_reducible apply HasB.there)); ((try dsimp only [List.drop,List.take]) <;> exact rfl); exact rfl)); exact rfl; exact rfl)
  | ((with_reducible apply Au.no); exact rfl; exact rfl)
  | ((with_reducible apply Au.s); (first | ((with_reducible apply Sd.stB1); exact rfl; exact rfl; (repeat (first | with_reducible apply SetB.here | with_reducible apply SetB.there)); exact rfl; exact rfl; exact rfl; ((try dsimp only [List.set]) <;> exact rfl)) | ((with_reducible apply Sd.stBA); exact rfl; exact rfl; (repeat (first | with_reducible apply SetB.here | with_reducible apply SetB.there)); exact rfl; exact rfl; exact rfl; exact rfl; ((try dsimp only [putL,over]) <;> exact rfl))); exact rfl; exact rfl)
  | with_reducible refine Au.nl (by assumption) ?_
  | with_reducible refine Au.sq fun K hK=>Au.rg ?_
  | ((with_reducible apply Au.dp); (first | exact fun _ _=>trivial | (refine SubL.sat ?_; (repeat (first | with_reducible exact SubL.nil | with_reducible refine SubL.take ?_ | with_reducible refine SubL.skip ?_)))); exact rfl; (first | ((with_reducible apply Pu.move); exact rfl) | ((with_reducible apply Pu.assign); exact rfl) | ((with_reducible apply Pu.fieldAddrC); exact rfl) | ((with_reducible apply Pu.nilCheck); exact rfl) | ((with_reducible apply Pu.bin); exact rfl; exact rfl; exact rfl) | ((with_reducible apply Pu.lenSlC); exact rfl) | ((with_reducible apply Pu.extract); exact rfl; exact rfl) | ((with_reducible apply Pu.not); exact rfl) | ((with_reducible apply Pu.pickT); exact rfl; exact rfl) | ((with_reducible apply Pu.pickF); exact rfl; exact rfl)); exact rfl; exact rfl)
  | ((with_reducible apply Au.dq); (first | exact fun _ _=>trivial | (refine SubL.sat ?_; (repeat (first | with_reducible exact SubL.nil | with_reducible refine SubL.take ?_ | with_reducible refine SubL.skip ?_)))); exact rfl; (first | ((with_reducible apply Qt.ldBC); exact rfl; (repeat (first | with_reducible apply HasB.here | with_reducible apply HasB.there)); exact rfl) | ((with_reducible apply Qt.ldBAC); exact rfl; (repeat (first | with_reducible apply HasB.here | with_reducible apply HasB.there)); ((try dsimp only [List.drop,List.take]) <;> exact rfl); exact rfl)); exact rfl; exact rfl)
  | ((with_reducible apply Au.dw); (first | exact fun _ _=>trivial | (refine SubL.sat ?_; (repeat (first | with_reducible exact SubL.nil | with_reducible refine SubL.take ?_ | with_reducible refine SubL.skip ?_)))); exact rfl; (first | ((with_reducible apply Qt.ldBC); exact rfl; (repeat (first | with_reducible apply HasB.here | with_reducible apply HasB.there)); exact rfl) | ((with_reducible apply Qt.ldBAC); exact rfl; (repeat (first | with_reducible apply HasB.here | with_reducible apply HasB.there)); ((try dsimp only [List.drop,List.take]) <;> exact rfl); exact rfl)); exact rfl; exact rfl)
  | ((with_reducible apply Au.dn); (first | exact fun _ _=>trivial | (refine SubL.sat ?_; (repeat (first | with_reducible exact SubL.nil | with_reducible refine SubL.take ?_ | with_reducible refine SubL.skip ?_)))); exact rfl; exact rfl; exact rfl; decide)
  | ((with_reducible apply Au.ds); exact rfl; (first | ((with_reducible apply Sd.stB1); exact rfl; exact rfl; (repeat (first | with_reducible apply SetB.here | with_reducible apply SetB.there)); exact rfl; exact rfl; exact rfl; ((try dsimp only [List.set]) <;> exact rfl)) | ((with_reducible apply Sd.stBA); exact rfl; exact rfl; (repeat (first | with_reducible apply SetB.here | with_reducible apply SetB.there)); exact rfl; exact rfl; exact rfl; exact rfl; ((try dsimp only [putL,over]) <;> exact rfl))); (first | exact fun _ _=>trivial | (refine SubL.sat ?_; (repeat (first | with_reducible exact SubL.nil | with_reducible refine SubL.take ?_ | with_reducible refine SubL.skip ?_)))); exact rfl; exact rfl)
  | with_reducible refine Au.dl (by assumption) ?_)):B:=(t A id).f h
theorem nz (h:A) (t:∀ X:Prop,(X→A)→Au 0 X B:=by
 intro X hX
 (try dsimp only [List.set,List.cons_append,List.nil_append,pk,List.filterMap,List.getElem?_cons_zero,List.getElem?_cons_succ,List.drop])
 exact Au.z hX):B:=(t A id).f h
end
inductive KS (fr:Fr):List Nat→Fr→Prop
 | nil:KS fr [] []
 | cons {i:Nat} {v:Value} {l:List Nat} {r:Fr}:look fr i = some v→KS fr l r→KS fr (i :: l) ((i,v) :: r)
theorem KS.sub {fr:Fr}:∀ {l:List Nat} {r:Fr},KS fr l r→Vg.Sub fr r
 | _,_,.nil=>trivial
 | _,_,.cons h r=>⟨h,r.sub⟩
def kdn:Nat→Kd
  | 0=>.pu
  | 1=>.rd
  | 2=>.wk
  | 3=>.so
  | _=>.br
theorem kdn0:kdn 0 = .pu:=rfl
theorem kdn1:kdn 1 = .rd:=rfl
theorem kdn2:kdn 2 = .wk:=rfl
theorem kdn3:kdn 3 = .so:=rfl
theorem kdn4:kdn 4 = .br:=rfl
def pln:Nat→List Nat→List (Nat × Kd)
  | _,[]=>[]
  | i,k :: l=>(i,kdn k) :: pln (i + 1) l
section
variable {P:Program} {n:Nat} {ops:Array Oper} {Q:Po} {fr kept:Fr} {S:As} {K:Act→World→Prop} {c:Code}
theorem kq (l:List Nat) {fr':Fr} (h:T P n c fr' S Q) (e:KS fr l fr':=by repeat (first | exact KS.nil | (apply KS.cons; exact rfl))):T P n c fr S Q:=T.conseq h e.sub fun _ s=>s
theorem T.cP {p:Prop} [Decidable p] {α:Type} {a b:Option α} {r:α} {o:Operand} {x y:Code} (H:(if p then a else b) = some r) (hc:ev fr o = some (.bool (decide p))) (ht:p→a = some r→T P n x fr S Q) (hf:¬ p→b = some r→T P n y fr S Q):T P n (.cond o x y) fr S Q:=T.condP hc (fun h=>ht h (ifT h H)) (fun h=>hf h (ifF h H))
theorem T.cB {d:Bool} {α:Type} {a b:Option α} {r:α} {o:Operand} {x y:Code} (H:(if d = true then a else b) = some r) (hc:ev fr o = some (.bool d)) (ht:d = true→a = some r→T P n x fr S Q) (hf:d = false→b = some r→T P n y fr S Q):T P n (.cond o x y) fr S Q:=T.cond hc (fun h=>ht h (ifT h H)) (fun h=>hf h (ifB h H))
theorem en {f:FuncId} {fn:Func} {c:Code} (h:P.funcs[f]? = some fn) (h1:(fn.name == "runtime.NumGoroutine") = false:=by kernel_rfl) (h2:fn.body = some c:=by exact rfl):Ent P f:=⟨_,_,h,h1,h2⟩
theorem Sat.pc {w0 w:World} {G G':List Ch} (h:Sat w0 G w) (f:List Nat) (hn:f.Nodup:=by decide) (hg:f.map (fun i=>G[i]?) = G'.map some:=by exact rfl):Sat w0 G' w:=h.pick f hn hg
theorem Sat.sP {w0 w:World} {G B:List Ch} {C:Ch} (fR fP:List Nat) (s:Sat w0 G w) (hx:Sat w0 (pk G fR ++ B) w→Sat w0 (C :: pk G fR) w) (hn:(fR ++ fP).Nodup:=by decide) (hr:(fR.all fun i=>decide (i < G.length)) = true:=by exact rfl) (hp:fP.map (fun i=>G[i]?) = B.map some:=by exact rfl):Sat w0 (C :: pk G fR) w :=
 hx (s.pick (fR ++ fP) hn (by rw [List.map_append,List.map_append,pk_some hr,hp]))
theorem sb {fr r:Fr} (h:Vg.Sub fr r:=by (repeat (first | exact trivial | refine ⟨rfl,?_⟩))):Vg.Sub fr r:=h
theorem te {f:FuncId} {fn:Func} {args:List Value} {w:World} {R:Ending→World→Prop} (hf:P.funcs[f]? = some fn) (s:S w) (h:T P fn.ntmps c (frameOf 0 args) S (bodyPost P fn R)) (hb:fn.body = some c:=by exact rfl) (hn:Nat.ble args.length fn.ntmps = true:=by exact rfl):Calls P f args.toArray w R:=T.enter hf hb hn s h
theorem dr (hm:P.follows .mixedOrders = true) (ds:List Nat) {id:Nat} {plan:List (Nat × Kd)} {w0:World} {G:List Ch} (h:RD P n ops Q plan (fun _=>True) plan fr (Sat w0 G)) (e:pln 0 ds = plan:=by ((try dsimp only [pln,kdn0,kdn1,kdn2,kdn3,kdn4,Nat.reduceAdd]) <;> exact rfl))
  (hp:(planOk ops (Array.replicate ops.size false) plan && noSel ops && plan.length == ops.size && (plan.all fun (i,k)=>plan.lookup i == some k)) = true:=by kernel_rfl):T P n (.region id ops true) fr (Sat w0 G) Q:=T.drawn _ plan hm (ClE.sat _ _) hp h
theorem drS (hm:P.follows .mixedOrders = true) (f ds:List Nat) {id:Nat} {plan:List (Nat × Kd)} {w0:World} {G H:List Ch} (h:RD P n ops Q plan (Sat w0 H) plan fr (Sat w0 G)) (hH:pk G f = H:=by ((try dsimp only [pk,List.filterMap,List.getElem?_cons_zero,List.getElem?_cons_succ]) <;> exact rfl)) (e:pln 0 ds = plan:=by ((try dsimp only [pln,kdn0,kdn1,kdn2,kdn3,kdn4,Nat.reduceAdd]) <;> exact rfl))
  (hp:(planOk ops (Array.replicate ops.size false) plan && noSel ops && plan.length == ops.size && (plan.all fun (i,k)=>plan.lookup i == some k)) = true:=by kernel_rfl):T P n (.region id ops true) fr (Sat w0 G) Q:=T.drawn _ plan hm (ClE.sat _ _) hp (hH ▸ h)
theorem Cont.kq (l:List Nat) {fr':Fr} (h:Cont n K fr' S) (e:KS fr l fr':=by repeat (first | exact KS.nil | (apply KS.cons; exact rfl))):Cont n K fr S:=Cont.conseq h e.sub fun _ s=>s
end
end Go.Vg
set_option linter.unusedVariables false
set_option linter.unusedSimpArgs false
set_option maxRecDepth 20000
set_option maxHeartbeats 4000000
namespace Go.Proofs.YtmngdgclldkcfaaGreat
open Go.Vg
open Enc (R)
theorem bz5:decide (0 < Tryz.prog.bytesOf 5) = true:=by kernel_rfl
theorem co22:Tryz.prog.cellsOf 22 = 1:=by kernel_rfl
theorem co24:Tryz.prog.cellsOf 24 = 3:=by kernel_rfl
theorem co3:Tryz.prog.cellsOf 3 = 1:=by kernel_rfl
theorem co5:Tryz.prog.cellsOf 5 = 1:=by kernel_rfl
theorem uf24:structOf Tryz.prog 24 = some [(3,0),(3,1),(22,2)]:=by kernel_rfl
theorem ul3:Tryz.prog.underlying 3 = some (.int .i64):=by kernel_rfl
theorem ul5:Tryz.prog.underlying 5 = some (.int .u8):=by kernel_rfl
theorem usl22:Tryz.prog.underlying 22 = some (.slice 5):=by kernel_rfl
structure Grd where
 w:Int
 h:Int
 tiles:List UInt8
 deriving Inhabited
instance:Enc Grd where
 sz:=3
 R h x cs:=∃ v2,cs = [.int .i64 x.w,.int .i64 x.h,v2]∧Enc.R h (x.tiles:List UInt8) [v2]
 len:=fun ⟨v2,e,h2⟩=>by rw [e]; rfl
 one:=fun ⟨v2,e,h2⟩ u hu=>by
  rw [e] at hu; simp only [List.mem_cons,List.not_mem_nil,or_false] at hu
  rcases hu with rfl | rfl | rfl
  ·rfl
  ·rfl
  ·exact Enc.one h2 _ (by simp)
 mono:=fun hl ⟨v2,e,h2⟩=>⟨v2,e,Enc.mono hl h2⟩
def Grd.Wf (x:Grd):Prop:=(I64 x.w)∧(I64 x.h)∧((∀ y ∈ x.tiles,True)∧x.tiles.length ≤ 140737488351232)
theorem rd_Grd:Rdbl Tryz.prog 24 Grd Grd.Wf:=fun H enc w fuel cs x h hzd=>by
 obtain ⟨fs,hu,hfs⟩:=structOf_spec uf24
 obtain ⟨hl,m,hf⟩:=trod_field hu h hzd
 obtain ⟨f0,hf0,ht0,ho0⟩:∃ f,fs[0]? = some f∧f.type = 3∧f.offset = 0:=by
  have h1:(fs.toList.map (fun f=>(f.type,f.offset)))[0]? = some (3,0):=by rw [hfs]; rfl
  rw [List.getElem?_map,Option.map_eq_some_iff] at h1
  obtain ⟨f,h2,h3⟩:=h1
  simp only [Prod.mk.injEq] at h3
  exact ⟨f,by simpa using h2,h3.1,h3.2⟩
 obtain ⟨y0,hy0⟩:=hf 0 f0 hf0
 rw [ht0,ho0,co3] at hy0
 obtain ⟨a0,ha0,hw0⟩:=Rdbl.part (Rdbl.int ul3) hy0
 obtain ⟨f1,hf1,ht1,ho1⟩:∃ f,fs[1]? = some f∧f.type = 3∧f.offset = 1:=by
  have h1:(fs.toList.map (fun f=>(f.type,f.offset)))[1]? = some (3,1):=by rw [hfs]; rfl
  rw [List.getElem?_map,Option.map_eq_some_iff] at h1
  obtain ⟨f,h2,h3⟩:=h1
  simp only [Prod.mk.injEq] at h3
  exact ⟨f,by simpa using h2,h3.1,h3.2⟩
 obtain ⟨y1,hy1⟩:=hf 1 f1 hf1
 rw [ht1,ho1,co3] at hy1
 obtain ⟨a1,ha1,hw1⟩:=Rdbl.part (Rdbl.int ul3) hy1
 obtain ⟨f2,hf2,ht2,ho2⟩:∃ f,fs[2]? = some f∧f.type = 22∧f.offset = 2:=by
  have h1:(fs.toList.map (fun f=>(f.type,f.offset)))[2]? = some (22,2):=by rw [hfs]; rfl
  rw [List.getElem?_map,Option.map_eq_some_iff] at h1
  obtain ⟨f,h2,h3⟩:=h1
  simp only [Prod.mk.injEq] at h3
  exact ⟨f,by simpa using h2,h3.1,h3.2⟩
 obtain ⟨y2,hy2⟩:=hf 2 f2 hf2
 rw [ht2,ho2,co22] at hy2
 obtain ⟨a2,ha2,hw2⟩:=Rdbl.part (Rdbl.slice usl22 co5 (by decide) (Rdbl.u8 ul5) bz5) hy2
 rw [co24] at hl
 obtain ⟨x0,x1,x2,rfl⟩:∃ x0 x1 x2,cs = [x0,x1,x2]:=by
  match cs,hl with
  | [x0,x1,x2],_=>exact ⟨x0,x1,x2,rfl⟩
 simp only [List.drop_succ_cons,List.drop_zero,List.take_succ_cons,List.take_zero] at ha0 ha1 ha2
 obtain rfl:x0 = _:=by simpa [Enc.R] using ha0
 obtain rfl:x1 = _:=by simpa [Enc.R] using ha1
 exact ⟨⟨a0,a1,a2⟩,⟨_,rfl,ha2⟩,⟨hw0,hw1,hw2⟩⟩
structure Bld where
 id:Int
 owner:Int
 x:Int
 y:Int
 w:Int
 h:Int
 deriving Inhabited,DecidableEq
instance:Enc Bld where
 sz:=6
 R h x cs:=cs = [.int .i64 x.id,.int .i64 x.owner,.int .i64 x.x,.int .i64 x.y,.int .i64 x.w,.int .i64 x.h]
 len:=fun e=>by rw [e]; rfl
 one:=fun e u hu=>by
  rw [e] at hu; simp only [List.mem_cons,List.not_mem_nil,or_false] at hu
  rcases hu with rfl | rfl | rfl | rfl | rfl | rfl
  ·rfl
  ·rfl
  ·rfl
  ·rfl
  ·rfl
  ·rfl
 mono:=fun hl e=>e
instance:Flat Bld:=⟨fun h=>h⟩
def Bld.Wf (x:Bld):Prop:=(I64 x.id)∧(I64 x.owner)∧(I64 x.x)∧(I64 x.y)∧(I64 x.w)∧(I64 x.h)
end Go.Proofs.YtmngdgclldkcfaaGreat
set_option linter.unusedVariables false
set_option linter.unusedSimpArgs false
set_option maxRecDepth 20000
set_option maxHeartbeats 4000000
namespace Go.Proofs.YtmngdgclldkcfaaGreat
open Go.Vg
open Enc (R)
--BEGIN
end Go.Proofs.YtmngdgclldkcfaaGreat
set_option linter.unusedVariables false
set_option linter.unusedSimpArgs false
set_option maxRecDepth 20000
set_option maxHeartbeats 4000000
namespace Go.Proofs.YtmngdgclldkcfaaGreat
open Go.Vg
open Enc (R)
theorem ent150:Ent Tryz.prog 150:=en Tryz.func150
theorem ent97:Ent Tryz.prog 97:=en Tryz.func97
theorem mixed:Tryz.prog.follows .mixedOrders = true:=by kernel_rfl
instance sl35:SlC Tryz.prog 35 (3,1,8):={}
instance sl49:SlC Tryz.prog 49 (135,6,48):={}
theorem ul80:Tryz.prog.underlying 80 = some (.int .u64):=by kernel_rfl
theorem us3:(Tryz.prog.underlying 3).isSome = true:=by kernel_rfl
theorem us80:(Tryz.prog.underlying 80).isSome = true:=by kernel_rfl
theorem usl35:Tryz.prog.underlying 35 = some (.slice 3):=by kernel_rfl
theorem usl49:Tryz.prog.underlying 49 = some (.slice 135):=by kernel_rfl
theorem zr135:zeroOf Tryz.prog 135 = some (.agg #[.int .i64 0,.int .i64 0,.int .i64 0,.int .i64 0,.int .i64 0,.int .i64 0]):=by kernel_rfl
theorem zr3:zeroOf Tryz.prog 3 = some (.int .i64 0):=by kernel_rfl
theorem mul64_calls (a b:Int) (ha:0 ≤ a∧a < 2147483648) (hb:0 ≤ b∧b < 2147483648) (w:World):Calls Tryz.prog 150 #[.int .u64 a,.int .u64 b] w fun e w'=>e = .returned (.tuple #[.int .u64 0,.int .u64 (a * b)])∧Ext w w':=by
 refine T.enter (args:=[.int .u64 a,.int .u64 b]) (S:=Sat w []) Tryz.func150 rfl rfl (Sat.start w) ?_
 have ea:a % 4294967296 = a:=by omega
 have eb:b % 4294967296 = b:=by omega
 have ea2:a / 4294967296 = 0:=by omega
 have eb2:b / 4294967296 = 0:=by omega
 have hm:=mul_bd (a:=a) (b:=b) (A:=2147483648) (B:=2147483648) (by omega) (by omega)
 refine au 3 ?_
 refine T.seq fun _ k2=>T.region (rM rfl (rp (Pu.andU rfl rfl (by omega)) ?_))
 rw [ea]
 refine rA rfl (RS.nil (k2 _ _ (kq [0,1,6] ?_)))
 refine T.seq fun _ k3=>T.region (rM rfl (rp (Pu.shrU rfl rfl) ?_))
 rw [ea2]
 refine rA rfl (RS.nil (k3 _ _ ?_))
 refine T.seq fun _ k4=>T.region (rM rfl (rp (Pu.andU rfl rfl (by omega)) ?_))
 rw [eb]
 refine rA rfl (RS.nil (k4 _ _ (kq [0,1,6,7,8] ?_)))
 refine T.seq fun _ k5=>T.region (rM rfl (rp (Pu.shrU rfl rfl) ?_))
 rw [eb2]
 refine rA rfl (RS.nil (k5 _ _ ?_))
 refine T.seq fun _ k6=>T.region (au 2 ?_)
 refine rp (Pu.mulU rfl rfl (by omega)) (rA rfl (RS.nil (k6 _ _ (kq [0,1,6,7,8,9,10] ?_))))
 refine T.seq fun _ k7=>T.region (au 2 ?_)
 refine rp (Pu.mulU rfl rfl (by omega)) (rM rfl (rp (Pu.shrU rfl rfl) (rp (Pu.addU rfl rfl (by omega)) (rA rfl (RS.nil (k7 _ _ (kq [0,1,6,7,9,11] ?_)))))))
 refine T.seq fun _ k8=>T.region (rM rfl (rp (Pu.andU rfl rfl (by omega)) (rA rfl (RS.nil (k8 _ _ ?_)))))
 refine T.seq fun _ k9=>T.region (rM rfl (rp (Pu.shrU rfl rfl) (rA rfl (RS.nil (k9 _ _ (kq [0,1,6,7,9,12,13] ?_))))))
 refine T.seq fun _ k10=>T.region (au 3 ?_)
 refine rp (Pu.mulU rfl rfl (by omega)) (rp (Pu.addU rfl rfl (by omega)) (rA rfl (RS.nil (k10 _ _ (kq [0,1,7,9,12,13] ?_)))))
 refine T.seq fun _ k11=>T.region (au 2 ?_)
 refine rp (Pu.mulU rfl rfl (by omega)) (rM rfl (rp (Pu.addU rfl rfl (by omega)) (rM rfl (rp (Pu.shrU rfl rfl) (rp (Pu.addU rfl rfl (by omega)) (rA rfl (RS.nil (k11 _ _ (kq [0,1,4] ?_)))))))))
 refine T.seq fun _ k12=>T.region (au 2 ?_)
 refine rp (Pu.mulU rfl rfl (by omega)) (rA rfl (RS.nil (k12 _ _ (kq [4,5] ?_))))
 refine T.retTo (by with_reducible ((repeat (first | apply RetTo.seq | apply RetTo.blk)); exact RetTo.refl _)) (Cont.ret2 rfl rfl rfl fun w' s=>?_)
 refine ⟨?_,s.ext⟩
 congr 6
 omega
theorem mul_calls (a b:Int) (ha:0 ≤ a∧a < 2147483648) (hb:0 ≤ b∧b < 2147483648) (w:World):Calls Tryz.prog 97 #[.int .u64 a,.int .u64 b] w fun e w'=>e = .returned (.tuple #[.int .u64 0,.int .u64 (a * b)])∧Ext w w':=by
 refine T.enter (args:=[.int .u64 a,.int .u64 b]) (S:=Sat w []) Tryz.func97 rfl rfl (Sat.start w) ?_
 refine au 3 ?_
 refine T.seq fun _ k2=>?_
 refine T.condF rfl ?_
 refine T.skip (k2 _ _ ?_)
 refine T.seq fun _ k3=>T.region (au 2 ?_)
 refine rq (Qt.call ent150 rfl fun w _s=>mul64_calls _ _ (by omega) (by omega) _) (au 5 ?_)
 refine RS.nil (k3 _ _ (kq [8,9] ?_))
 refine T.seq fun _ k4=>T.region (au 4 ?_)
 refine RS.nil (k4 _ _ (kq [4,5] ?_))
 refine T.retTo (by with_reducible ((repeat (first | apply RetTo.seq | apply RetTo.blk)); exact RetTo.refl _)) (Cont.ret2 rfl rfl rfl fun w' s=>?_)
 exact ⟨rfl,s.ext⟩
theorem cloneInt_calls_nil {l:List Int} {n c:Nat} (w:World) (hA:R (hpOf w) l [.slice none n c]):Calls Tryz.prog 222 #[.slice none n c] w fun e w'=>∃ q:Option Nat × Nat,e = .returned (rowV q l.length)∧Sat w [row nilH 3 (rowV q l.length) l] w':=by
 refine T.enter (args:=[.slice none n c]) (S:=Sat w []) Tryz.func222 rfl rfl (Sat.start w) ?_
 refine au 2 ?_
 refine T.seq fun _ k2=>T.seq fun _ k3=>T.region (rM rfl (rp (Pu.eqNilSl usl35 rfl) (RS.nil (k3 _ _ ?_))))
 refine T.cond rfl (fun hc4=>?_) (fun hc4=>?_)
 ·refine kq [] ?_
  refine au 2 ?_
  refine T.retTo (by with_reducible ((repeat (first | apply RetTo.seq | apply RetTo.blk)); exact RetTo.refl _)) (Cont.ret1 rfl rfl fun w' s=>?_)
  have hl0:l = []:=by
   obtain ⟨p',c',e',s1,s2,s3⟩:=hA
   simp only [List.cons.injEq,Value.slice.injEq,and_true] at e'
   obtain ⟨rfl,rfl,rfl⟩:=e'
   rcases s3 with h | ⟨b,o,cs,h,_⟩
   ·exact h
   cases h
  subst hl0
  exact ⟨(none,0),rfl,s.addEmpty _ (fun p=>.inl ⟨rfl,rfl⟩)⟩
 exact absurd hc4 (by simp) -- end
theorem cloneInt_calls_some {l:List Int} {a:Addr} {n c:Nat} (hsz:n < 1099511627776) (w:World) (hA:R (hpOf w) l [.slice (some a) n c]):Calls Tryz.prog 222 #[.slice (some a) n c] w fun e w'=>∃ q:Option Nat × Nat,e = .returned (rowV q l.length)∧Sat w [row nilH 3 (rowV q l.length) l] w':=by
 refine T.enter (args:=[.slice (some a) n c]) (S:=Sat w []) Tryz.func222 rfl rfl (Sat.start w) ?_
 refine au 2 ?_
 refine T.seq fun _ k2=>T.seq fun _ k3=>T.region (rM rfl (rp (Pu.eqNilSl usl35 rfl) (RS.nil (k3 _ _ ?_))))
 refine T.cond rfl (fun hc4=>?_) (fun hc4=>?_)
 ·exact absurd hc4 (by simp) -- end
 refine T.skip (k2 _ _ (kq [0] ?_))
 refine T.seq fun _ k4=>T.region (RS.solid (Sd.lit0 (α:=Int) (B:=nilH) sl35.h) rfl rfl fun b5=>rM rfl (RS.solid (Sd.appB (α:=Int) 0 (nilH_lt _) rfl sl35.h zr3 rfl rfl rfl hA (by simp only [List.length_nil]; omega) (by simp only [List.length_nil]; unfold maxLen; omega)) rfl rfl fun q7=>rA rfl (RS.nil (k4 _ _ (kq [2] ?_)))))
 refine T.retTo (by with_reducible ((repeat (first | apply RetTo.seq | apply RetTo.blk)); exact RetTo.refl _)) (Cont.ret1 rfl rfl fun w' s=>?_)
 have hn:n = l.length:=(R_len hA).1
 simp only [List.length_nil,Nat.zero_add,List.nil_append] at s
 subst hn
 exact ⟨q7,by simp,s.pick (G':=[_]) [0] (by decide) rfl⟩
theorem cloneInt_calls {l:List Int} {v:Value} (hsz:l.length < 1099511627776) (w:World) (hA:R (hpOf w) l [v]):Calls Tryz.prog 222 #[v] w fun e w'=>∃ q:Option Nat × Nat,e = .returned (rowV q l.length)∧Sat w [row nilH 3 (rowV q l.length) l] w':=by
 obtain ⟨p,c,rfl⟩:=R_form hA
 cases p with
 | none=>exact cloneInt_calls_nil w hA
 | some a=>exact cloneInt_calls_some hsz w hA
def slices_Clone_Int (l:List Int):Option (List Int):=if l.length < 1099511627776 then some l else none
theorem slices_Clone_Int_walk (l:List Int) (w:World) {v0:Value} (h0:R (hpOf w) l [v0]) {r:List Int} (H:slices_Clone_Int l = some r):Calls Tryz.prog 222 #[v0] w fun e w'=>∃ g:(Option Nat × Nat),e = .returned (rowV g r.length)∧Sat w [row nilH 3 (rowV g r.length) r] w':=by
 unfold slices_Clone_Int at H
 obtain ⟨h1,H⟩:=gdE H
 obtain rfl:=sj H
 exact cloneInt_calls h1 w h0
theorem repeatInt_calls {x:Int} {n:Int} (hn:1 ≤ n∧n < 2147483648) {va:Value} (w:World) (hA:R (hpOf w) [x] [va]):Calls Tryz.prog 57 #[va,.int .i64 n] w fun e w'=>∃ b:Nat,e = .returned (.slice (some ⟨b,0,none⟩) n.toNat n.toNat)∧Sat w [row nilH 3 (.slice (some ⟨b,0,none⟩) n.toNat n.toNat) (List.replicate n.toNat x)] w':=by
 refine te Tryz.func57 (Sat.start w) ?_
 obtain ⟨pa,ca,rfl⟩:=R_form hA
 dsimp only [List.length_cons,List.length_nil] at *
 refine au 2 ?_
 refine T.seq fun _ k2=>au 3 ?_
 refine T.condP rfl (fun hc10=>?_) (fun hc10=>?_)
 ·exact absurd hc10 (by omega) -- end
 refine T.skip (k2 _ _ (kq [0,1] ?_))
 refine T.seq fun _ k4=>T.region (au 2 ?_)
 refine rp (Pu.convU us3 ul80 rfl (by omega)) (rM rfl (rp (Pu.convU us3 ul80 rfl (by omega)) (rq (Qt.call ent97 rfl fun w _s=>mul_calls _ _ (by omega) (by omega) _) ?_)))
 rw [show ((0 + 1:Nat):Int) * n = n by omega]
 refine au 5 ?_
 refine RS.nil (k4 _ _ (kq [0,5,6] ?_))
 refine T.seq fun _ k5=>T.seq fun _ k6=>T.region (au 3 ?_)
 refine RS.splitP 23 rfl (fun h23=>?_) (fun h23=>?_)
 ·exact absurd h23 (by omega) -- end
 refine au 3 ?_
 refine RS.nil (k6 _ _ ?_)
 refine T.condP rfl (fun hc26=>?_) (fun hc26=>?_)
 ·exact absurd hc26 (by omega) -- end
 refine T.skip (k5 _ _ (kq [0,6] ?_))
 refine T.seq fun _ k7=>T.region (rM rfl (rp (Pu.convS us80 ul3 rfl (by omega)) (RS.solid (Sd.make (α:=Int) (B:=nilH) 0 sl35.h zr3 rfl (by decide) rfl rfl (by omega) (by omega) (by omega)) rfl rfl fun b30=>rA rfl (RS.nil (k7 _ _ (kq [0,7] ?_))))))
 refine T.seq fun _ k8=>T.region (au 2 ?_)
 refine RS.solid (Sd.copyR 0 (o:=0) rfl sl35.h rfl rfl (Rd.base hA) (by simp) (by simp only [List.length_replicate]; show 0 + min (0 + 1) n.toNat ≤ _; omega)) rfl rfl fun _=>rA rfl (RS.nil (k8 _ _ (kq [7,8] ?_)))
 refine T.seq fun _ k9=>T.block ?_
 refine T.loopK (σ:=Int) [(7,_)] (fun c=>[(8,.int .i64 c)]) (fun c=>Sat w [row nilH 3 (.slice (some ⟨b30,0,none⟩) n.toNat n.toNat) (List.replicate c.toNat x ++ List.replicate (n - c).toNat 0)]) (fun c=>1 ≤ c∧c ≤ n) (fun c=>(n - c).toNat) 1 (⟨by omega,by omega⟩) sb ⟨ieq (by show ((min (0 + 1) n.toNat:Nat):Int) = 1; omega),rfl,trivial⟩ (fun w2 s=>by
  have hmn:Nat.min (0 + 1) n.toNat = 1:=by show min (0 + 1) n.toNat = 1; omega
  have s2:=s.pick (G':=[_]) [0] (by decide) rfl
  rw [hmn] at s2
  have e:List.take 0 (List.replicate n.toNat 0) ++ List.take 1 [x] ++ List.drop (0 + 1) (List.replicate n.toNat 0) = List.replicate (1:Int).toNat x ++ List.replicate (n - 1).toNat 0:=by
   rw [List.drop_replicate,show n.toNat - (0 + 1) = (n - 1).toNat by omega]; rfl
  rw [e] at s2
  exact s2) ?_
 intro c hI K9_ hL1
 refine kq [8,7] ?_
 obtain ⟨hc1,hc2⟩:=hI
 refine T.seq fun _ k10=>au 5 ?_
 refine T.condP rfl (fun hc37=>?_) (fun hc37=>?_)
 ·refine T.skip (k10 _ _ (kq [7,8] ?_))
  refine T.block (dr mixed [0,0,0,0,0,0,0,4,0,0] ?_)
  refine au 3 ?_
  refine dp rfl (Pu.sliceL sl35.h rfl rfl (by omega)) ?_
  rw [cutP_lt (by omega)]
  refine au 2 ?_
  refine dp rfl (Pu.sliceH sl35.h rfl rfl (by omega)) (RD.solid rfl (.inr rfl) rfl rfl (Sd.copyR 0 (o:=c.toNat) rfl sl35.h rfl rfl (fun w s=>take_reads (s.getRow (k:=0) rfl (nilH_le _)) (by simp only [List.length_append,List.length_replicate]; omega)) (by simp [Enc.sz]) (by simp only [List.length_append,List.length_replicate]; show c.toNat + min c.toNat (n.toNat - c.toNat) ≤ _; omega)) (fun _=>ClE.sat _ _) (fun _ _ _=>trivial) (fun h=>nomatch h) fun _=>?_)
  have hml:Nat.min c.toNat (n.toNat - c.toNat) ≤ c.toNat:=Nat.min_le_left _ _
  refine dp rfl (Pu.addS rfl rfl (by omega)) (dp rfl (Pu.assign rfl) ?_)
  obtain ⟨m,hm⟩:∃ m,m = Nat.min c.toNat (n.toNat - c.toNat):=⟨_,rfl⟩
  have hm':m = min c.toNat (n.toNat - c.toNat):=hm
  refine RD.nil (hL1 _ _ (c + (m:Int)) ⟨by omega,by omega⟩ (by omega) ⟨by rw [hm]; rfl,rfl,trivial⟩ (fun w2 s1=>by
   have s2:=s1.pick (G':=[_]) [0] (by decide) rfl
   rw [← hm,rep_step (by omega) (by omega)] at s2
   rw [show (c + (m:Int)).toNat = c.toNat + m by omega,show (n - (c + (m:Int))).toNat = (n - c).toNat - m by omega]
   exact s2))
 refine T.exitTo (by with_reducible (repeat (first | exact ExTo.here | exact ExTo.hereN | exact ExTo.deep (by repeat (first | exact NmTo.seq | apply NmTo.blk)) | apply ExTo.seq | refine ExTo.past (by decide) ?_))) (k9 _ _ (kq [7] ?_))
 refine au 3 ?_
 refine T.retTo (by with_reducible ((repeat (first | apply RetTo.seq | apply RetTo.blk)); exact RetTo.refl _)) (Cont.ret1 rfl rfl fun w' s=>?_)
 have hcn:c = n:=by omega
 rw [hcn,show (n - n).toNat = 0 by omega,List.replicate_zero,List.append_nil] at s
 exact ⟨b30,rfl,s⟩
def slices_Repeat_Int (x:List Int) (n:Int):Option (List Int):=if x.length = 1∧1 ≤ n∧n < 2147483648 then some (List.replicate n.toNat (gi x 0)) else none
theorem slices_Repeat_Int_walk (x:List Int) (n:Int) (w:World) {v0:Value} (h0:R (hpOf w) x [v0]) {r:List Int} (H:slices_Repeat_Int x n = some r):Calls Tryz.prog 57 #[v0,.int .i64 n] w fun e w'=>∃ g:(Option Nat × Nat),e = .returned (rowV g r.length)∧Sat w [row nilH 3 (rowV g r.length) r] w':=by
 unfold slices_Repeat_Int at H
 obtain ⟨⟨hx,h1,h2⟩,H⟩:=gdE H
 obtain rfl:=sj H
 obtain ⟨a,rfl⟩:∃ a,x = [a]:=by
  match x,hx with
  | [a],_=>exact ⟨a,rfl⟩
 refine (repeatInt_calls ⟨h1,h2⟩ w h0).mono ?_
 rintro e w' ⟨b,he,hs⟩
 refine ⟨(some b,n.toNat),?_,?_⟩
 ·rw [he,List.length_replicate]; rfl
 rw [List.length_replicate]; exact hs
theorem cloneBld_calls_nil {l:List Bld} {n c:Nat} (w:World) (hA:R (hpOf w) l [.slice none n c]):Calls Tryz.prog 74 #[.slice none n c] w fun e w'=>∃ q:Option Nat × Nat,e = .returned (rowV q l.length)∧Sat w [row nilH 135 (rowV q l.length) l] w':=by
 refine T.enter (args:=[.slice none n c]) (S:=Sat w []) Tryz.func74 rfl rfl (Sat.start w) ?_
 refine au 2 ?_
 refine T.seq fun _ k2=>T.seq fun _ k3=>T.region (rM rfl (rp (Pu.eqNilSl usl49 rfl) (RS.nil (k3 _ _ ?_))))
 refine T.cond rfl (fun hc4=>?_) (fun hc4=>?_)
 ·refine kq [] ?_
  refine au 2 ?_
  refine T.retTo (by with_reducible ((repeat (first | apply RetTo.seq | apply RetTo.blk)); exact RetTo.refl _)) (Cont.ret1 rfl rfl fun w' s=>?_)
  have hl0:l = []:=by
   obtain ⟨p',c',e',s1,s2,s3⟩:=hA
   simp only [List.cons.injEq,Value.slice.injEq,and_true] at e'
   obtain ⟨rfl,rfl,rfl⟩:=e'
   rcases s3 with h | ⟨b,o,cs,h,_⟩
   ·exact h
   cases h
  subst hl0
  exact ⟨(none,0),rfl,s.addEmpty _ (fun p=>.inl ⟨rfl,rfl⟩)⟩
 exact absurd hc4 (by simp) -- end
theorem cloneBld_calls_some {l:List Bld} {a:Addr} {n c:Nat} (hsz:n < 1099511627776) (w:World) (hA:R (hpOf w) l [.slice (some a) n c]):Calls Tryz.prog 74 #[.slice (some a) n c] w fun e w'=>∃ q:Option Nat × Nat,e = .returned (rowV q l.length)∧Sat w [row nilH 135 (rowV q l.length) l] w':=by
 refine T.enter (args:=[.slice (some a) n c]) (S:=Sat w []) Tryz.func74 rfl rfl (Sat.start w) ?_
 refine au 2 ?_
 refine T.seq fun _ k2=>T.seq fun _ k3=>T.region (rM rfl (rp (Pu.eqNilSl usl49 rfl) (RS.nil (k3 _ _ ?_))))
 refine T.cond rfl (fun hc4=>?_) (fun hc4=>?_)
 ·exact absurd hc4 (by simp) -- end
 refine T.skip (k2 _ _ (kq [0] ?_))
 refine T.seq fun _ k4=>T.region (RS.solid (Sd.lit0 (α:=Bld) (B:=nilH) sl49.h) rfl rfl fun b5=>rM rfl (RS.solid (Sd.appB (α:=Bld) 0 (nilH_lt _) rfl sl49.h zr135 rfl rfl rfl hA (by simp only [List.length_nil]; omega) (by simp only [List.length_nil]; unfold maxLen; omega)) rfl rfl fun q7=>rA rfl (RS.nil (k4 _ _ (kq [2] ?_)))))
 refine T.retTo (by with_reducible ((repeat (first | apply RetTo.seq | apply RetTo.blk)); exact RetTo.refl _)) (Cont.ret1 rfl rfl fun w' s=>?_)
 have hn:n = l.length:=(R_len hA).1
 simp only [List.length_nil,Nat.zero_add,List.nil_append] at s
 subst hn
 exact ⟨q7,by simp,s.pick (G':=[_]) [0] (by decide) rfl⟩
theorem cloneBld_calls {l:List Bld} {v:Value} (hsz:l.length < 1099511627776) (w:World) (hA:R (hpOf w) l [v]):Calls Tryz.prog 74 #[v] w fun e w'=>∃ q:Option Nat × Nat,e = .returned (rowV q l.length)∧Sat w [row nilH 135 (rowV q l.length) l] w':=by
 obtain ⟨p,c,rfl⟩:=R_form hA
 cases p with
 | none=>exact cloneBld_calls_nil w hA
 | some a=>exact cloneBld_calls_some hsz w hA
def slices_Clone_Bld (l:List Bld):Option (List Bld):=if l.length < 1099511627776 then some l else none
theorem slices_Clone_Bld_walk (l:List Bld) (w:World) {v0:Value} (h0:R (hpOf w) l [v0]) {r:List Bld} (H:slices_Clone_Bld l = some r):Calls Tryz.prog 74 #[v0] w fun e w'=>∃ g:(Option Nat × Nat),e = .returned (rowV g r.length)∧Sat w [row nilH 135 (rowV g r.length) r] w':=by
 unfold slices_Clone_Bld at H
 obtain ⟨h1,H⟩:=gdE H
 obtain rfl:=sj H
 exact cloneBld_calls h1 w h0
end Go.Proofs.YtmngdgclldkcfaaGreat
