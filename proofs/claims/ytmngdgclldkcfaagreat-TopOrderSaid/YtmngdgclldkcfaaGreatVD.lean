/-
  Data in memory: how a list, a struct, a number lies in cells; chunks that are blocks and rows; the operations that read, make and write memory. For every program whose tables say what the lemma asks. A library of this claim's own.
-/
import Derived.Test.YtmngdgclldkcfaaGreatJ1
set_option linter.unusedSimpArgs false
set_option linter.unusedVariables false
namespace Go.Vg

class Enc (α:Type) where
  sz:Nat
  R:Hp→α→List Value→Prop
  len:∀ {h x cs},R h x cs→cs.length = sz
  one:∀ {h x cs},R h x cs→∀ u ∈ cs,u.oneCell' = true
  mono:∀ {h h' x cs},h.le h'→R h x cs→R h' x cs
open Enc (R)

instance:Enc Int where
  sz:=1
  R _ x cs:=cs = [.int .i64 x]
  len:=fun h=>by rw [h]; rfl
  one:=fun h u hu=>by rw [h] at hu; simp at hu; subst hu; rfl
  mono:=fun _ h=>h
instance:Enc Bool where
  sz:=1
  R _ x cs:=cs = [.bool x]
  len:=fun h=>by rw [h]; rfl
  one:=fun h u hu=>by rw [h] at hu; simp at hu; subst hu; rfl
  mono:=fun _ h=>h
instance:Enc UInt8 where
  sz:=1
  R _ x cs:=cs = [.int .u8 x.toNat]
  len:=fun h=>by rw [h]; rfl
  one:=fun h u hu=>by rw [h] at hu; simp at hu; subst hu; rfl
  mono:=fun _ h=>h
instance:Enc UInt64 where
  sz:=1
  R _ x cs:=cs = [.int .u64 x.toNat]
  len:=fun h=>by rw [h]; rfl
  one:=fun h u hu=>by rw [h] at hu; simp at hu; subst hu; rfl
  mono:=fun _ h=>h

def RF {α:Type} [Enc α] (h:Hp):List α→List Value→Prop
  | [],cs=>cs = []
  | x :: xs,cs=>∃ c r,cs = c ++ r∧R h x c∧RF h xs r

section
variable {α:Type} [Enc α] {h h':Hp}
theorem RF.mono (hl:h.le h'):∀ {xs:List α} {cs:List Value},RF h xs cs→RF h' xs cs
 | [],_,e=>e
 | _ :: _,_,⟨c,r,e,hx,hr⟩=>⟨c,r,e,Enc.mono hl hx,RF.mono hl hr⟩
theorem RF.length:∀ {xs:List α} {cs:List Value},RF h xs cs→cs.length = xs.length * Enc.sz α
 | [],_,e=>by subst e; simp
 | _ :: xs,_,⟨c,r,e,hx,hr⟩=>by subst e; simp [Enc.len hx,RF.length hr,Nat.add_mul]; omega
theorem RF.one:∀ {xs:List α} {cs:List Value},RF h xs cs→∀ u ∈ cs,u.oneCell' = true
 | [],_,e,u,hu=>by subst e; cases hu
 | _ :: xs,_,⟨c,r,e,hx,hr⟩,u,hu=>by
  subst e
  rcases List.mem_append.1 hu with hu | hu
  ·exact Enc.one hx u hu
  ·exact RF.one hr u hu
theorem RF.append:∀ {xs ys:List α} {cs ds:List Value},RF h xs cs→RF h ys ds→RF h (xs ++ ys) (cs ++ ds)
 | [],_,_,_,e,hy=>by subst e; exact hy
 | _ :: xs,_,_,_,⟨c,r,e,hx,hr⟩,hy=>by subst e; exact ⟨c,_,by simp,hx,RF.append hr hy⟩
theorem RF.single {x:α} {c:List Value} (hx:R h x c):RF h [x] c:=⟨c,[],by simp,hx,rfl⟩
theorem RF.get:∀ {xs:List α} {cs:List Value},RF h xs cs→∀ {i:Nat} {x:α},xs[i]? = some x→∃ c,R h x c∧∀ j v,c[j]? = some v→cs[i * Enc.sz α + j]? = some v
 | [],_,_,i,x,hx=>by simp at hx
 | y :: xs,_,⟨c,r,e,hy,hr⟩,0,x,hx=>by
  simp at hx; subst hx; subst e
  exact ⟨c,hy,fun j v hj=>by rw [Nat.zero_mul,Nat.zero_add,List.getElem?_append_left (List.getElem?_eq_some_iff.1 hj).1]; exact hj⟩
 | y :: xs,_,⟨c,r,e,hy,hr⟩,i + 1,x,hx=>by
  subst e
  obtain ⟨d,hd,hg⟩:=RF.get hr (i:=i) (x:=x) (by simpa using hx)
  refine ⟨d,hd,fun j v hj=>?_⟩
  have hc:=Enc.len hy
  rw [List.getElem?_append_right (by rw [hc,Nat.add_mul]; omega),hc]
  have:=hg j v hj
  rwa [show (i + 1) * Enc.sz α + j - Enc.sz α = i * Enc.sz α + j by rw [Nat.add_mul]; omega]
theorem RF.set:∀ {xs:List α} {cs:List Value},RF h xs cs→∀ {i:Nat} {x:α} {c:List Value},i < xs.length→R h x c→RF h (xs.set i x) (cs.take (i * Enc.sz α) ++ c ++ cs.drop (i * Enc.sz α + Enc.sz α))
 | [],_,_,i,x,c,hi,_=>by simp at hi
 | y :: xs,_,⟨d,r,e,hy,hr⟩,0,x,c,_,hx=>by
  subst e
  have hd:=Enc.len hy
  refine ⟨c,r,?_,hx,hr⟩
  rw [Nat.zero_mul,Nat.zero_add,← hd,List.drop_left]
  simp
 | y :: xs,_,⟨d,r,e,hy,hr⟩,i + 1,x,c,hi,hx=>by
  subst e
  have hd:=Enc.len hy
  have ih:=RF.set hr (i:=i) (by simpa using hi) hx
  refine ⟨d,_,?_,hy,ih⟩
  have e1:(i + 1) * Enc.sz α = d.length + i * Enc.sz α:=by rw [hd,Nat.add_mul]; omega
  rw [e1,List.take_append,List.drop_append]
  simp only [List.append_assoc,Nat.add_sub_cancel_left]
  rw [List.take_of_length_le (by omega),show d.length + i * Enc.sz α + Enc.sz α - d.length = i * Enc.sz α + Enc.sz α by omega,List.drop_of_length_le (by omega)]
  simp
theorem RF.take {xs:List α} {cs:List Value} (hr:RF h xs cs) (k:Nat):RF h (xs.take k) (cs.take (k * Enc.sz α)):=by
 induction k generalizing xs cs with
 | zero=>simp [RF]
 | succ k ih =>
  cases xs with
  | nil=>rw [show cs = [] from hr]; simp [RF]
  | cons y xs =>
   obtain ⟨c,r,e,hy,hr⟩:=hr
   subst e
   refine ⟨c,_,?_,hy,ih hr⟩
   have hc:=Enc.len hy
   rw [show (k + 1) * Enc.sz α = c.length + k * Enc.sz α by rw [hc,Nat.add_mul]; omega,List.take_append]
   rw [List.take_of_length_le (by omega)]; simp
theorem RF.drop {xs:List α} {cs:List Value} (hr:RF h xs cs) (k:Nat):RF h (xs.drop k) (cs.drop (k * Enc.sz α)):=by
 induction k generalizing xs cs with
 | zero=>simpa using hr
 | succ k ih =>
  cases xs with
  | nil=>rw [show cs = [] from hr]; simp [RF]
  | cons y xs =>
   obtain ⟨c,r,e,hy,hr⟩:=hr
   subst e
   have hc:=Enc.len hy
   have:=ih hr
   rw [show (k + 1) * Enc.sz α = c.length + k * Enc.sz α by rw [hc,Nat.add_mul]; omega,List.drop_append,List.drop_of_length_le (Nat.le_add_right _ _),Nat.add_sub_cancel_left]
   simpa using this
theorem RF.replicate {x:α} {c:List Value} (hx:R h x c):∀ n,RF h (List.replicate n x) (List.replicate n c).flatten
 | 0=>by simp [RF]
 | n + 1=>⟨c,_,by simp [List.replicate_succ],hx,RF.replicate hx n⟩
end

def AtH (h:Hp) (b o:Nat) (cs:List Value):Prop:=∃ c t f,h b = some (.cells c t f)∧∀ j v,cs[j]? = some v→c[o + j]? = some v
theorem AtH.mono {h h':Hp} {b o:Nat} {cs:List Value} (hl:h.le h'):AtH h b o cs→AtH h' b o cs:=fun ⟨c,t,f,e,k⟩=>⟨c,t,f,hl _ _ e,k⟩
theorem AtH.cell {w:World} {b o:Nat} {cs:List Value} (h:AtH (hpOf w) b o cs) {j:Nat} {v:Value} (hj:cs[j]? = some v):w.cell? ⟨b,o + j,none⟩ = some v:=by
 obtain ⟨c,t,f,e,k⟩:=h
 have e':w.heap[b]? = some (.cells c t f):=e
 simp [World.cell?,e',k j v hj]

def SlR {α:Type} [Enc α] (h:Hp) (xs:List α) (p:Option Addr) (cap:Nat):Prop :=
  xs.length ≤ cap∧cap ≤ maxLen∧(xs = [] ∨ ∃ b o cs,p = some ⟨b,o,none⟩∧RF h xs cs∧AtH h b o cs)
theorem SlR.mono {α:Type} [Enc α] {h h':Hp} {xs:List α} {p:Option Addr} {cap:Nat} (hl:h.le h') (s:SlR h xs p cap):SlR h' xs p cap :=
 ⟨s.1,s.2.1,s.2.2.imp id fun ⟨b,o,cs,e,hr,ha⟩=>⟨b,o,cs,e,hr.mono hl,ha.mono hl⟩⟩

instance {α:Type} [Enc α]:Enc (List α) where
 sz:=1
 R h xs cs:=∃ p cap,cs = [.slice p xs.length cap]∧SlR h xs p cap
 len:=fun ⟨p,cap,e,_⟩=>by rw [e]; rfl
 one:=fun ⟨p,cap,e,_⟩ u hu=>by rw [e] at hu; simp at hu; subst hu; rfl
 mono:=fun hl ⟨p,cap,e,s⟩=>⟨p,cap,e,s.mono hl⟩

def nilH:Hp:=fun _=>none
theorem nilH_le (h:Hp):nilH.le h:=fun _ _ e=>by cases e
def blk (g:Nat) (cs:List Value) (e:TypeId):Ch:=fun h=>h g = some (.cells cs.toArray e (0,0))
def row {α:Type} [Enc α] (B:Hp) (e:TypeId) (v:Value) (xs:List α):Ch:=fun h =>
  (v = .slice none 0 0∧xs = []) ∨
  ∃ g cap cs sp,v = .slice (some ⟨g,0,none⟩) xs.length cap∧h g = some (.cells (cs ++ sp).toArray e (0,0))∧xs.length ≤ cap∧cap ≤ maxLen∧(cs ++ sp).length = cap * Enc.sz α∧RF ((h.off g).over B) xs cs
section
variable {w0 w:World} {G:List Ch}
theorem Sat.getBlk {k g:Nat} {cs:List Value} {e:TypeId} (h:Sat w0 G w) (hk:G[k]? = some (blk g cs e)):w.heap[g]? = some (.cells cs.toArray e (0,0))∧w0.heap.size ≤ g:=by
 obtain ⟨p,hp,hl,hb⟩:=h.get k hk
 exact ⟨hl _ _ hp,hb _ _ hp⟩
theorem Sat.getRow {α:Type} [Enc α] {k:Nat} {B:Hp} {e:TypeId} {v:Value} {xs:List α} (h:Sat w0 G w) (hk:G[k]? = some (row B e v xs)) (hB:B.le (hpOf w)):R (hpOf w) xs [v]:=by
 obtain ⟨p,hp,hl,hb⟩:=h.get k hk
 rcases hp with ⟨rfl,rfl⟩ | ⟨g,cap,cs,sp,rfl,hg,hle,hm,hlen,hr⟩
 ·exact ⟨none,0,rfl,by simp,by simp,.inl rfl⟩
 ·refine ⟨_,cap,rfl,hle,hm,.inr ⟨g,0,cs,rfl,hr.mono (Hp.over_le (Hp.le_trans (Hp.off_le _ _) hl) hB),⟨_,e,_,hl _ _ hg,fun j v hj=>?_⟩⟩⟩
  rw [Nat.zero_add,List.getElem?_toArray,List.getElem?_append_left (List.getElem?_eq_some_iff.1 hj).1]
  exact hj
end

def Rc (S:As) (b o:Nat) (cs:List Value):Prop:=∀ w,S w→∀ j v,cs[j]? = some v→w.cell? ⟨b,o + j,none⟩ = some v
def Rd {α:Type} [Enc α] (S:As) (x:α) (cs:List Value):Prop:=∀ w,S w→R (hpOf w) x cs

section
variable {w0:World} {G:List Ch} {S:As}
theorem Rd.base {α:Type} [Enc α] {x:α} {cs:List Value} (h:R (hpOf w0) x cs):Rd (Sat w0 G) x cs:=fun w s=>Enc.mono s.ext.hp h
theorem Rd.ofRowN {α:Type} [Enc α] (k:Nat) {e:TypeId} {v:Value} {xs:List α} (hk:G[k]? = some (row nilH e v xs)):Rd (Sat w0 G) xs [v]:=fun w s=>s.getRow hk (nilH_le _)
theorem Rd.elem {α:Type} [Enc α] {xs:List α} {p:Option Addr} {len cap:Nat} (h:Rd S xs [.slice p len cap]) {i:Nat} {x:α} (hx:xs[i]? = some x) {b o:Nat} (hp:p = some ⟨b,o,none⟩) {w:World} (s:S w) :
  ∃ c,R (hpOf w) x c∧∀ j v,c[j]? = some v→w.cell? ⟨b,o + i * Enc.sz α + j,none⟩ = some v:=by
 obtain ⟨p',cap',e,sl⟩:=h w s
 simp at e
 obtain ⟨rfl,rfl,rfl⟩:=e
 rcases sl.2.2 with rfl | ⟨b',o',cs,rfl,hr,ha⟩
 ·simp at hx
 ·simp at hp
  obtain ⟨rfl,rfl⟩:=hp
  obtain ⟨c,hc,hg⟩:=hr.get hx
  exact ⟨c,hc,fun j v hj=>by rw [Nat.add_assoc]; exact ha.cell (hg j v hj)⟩
end

section
variable {P:Program} {n:Nat} {fr:Fr} {dst:Option Tmp} {ty:TypeId} {pos:String} {aft:Array Edge} {g:Option (Nat × Bool)} {S:As} {w0:World} {G:List Ch}

theorem run_loadVar1 {t:TypeId} {w:World} {a:Addr} {v:Value} (ht:tySz P t = some (1,false)) (h:w.cell? a = some v):(loadVar t a).run P w = .ok v w:=by
 simp [loadVar,run_isAgg_of ht,h]
theorem run_loadVarA {t sz:Nat} {w:World} {b o:Nat} {cs:List Value} (ht:tySz P t = some (sz,true)) (hl:cs.length = sz) (h:∀ j v,cs[j]? = some v→w.cell? ⟨b,o + j,none⟩ = some v) :
  (loadVar t ⟨b,o,none⟩).run P w = .ok (.agg cs.toArray) w:=by
 subst hl
 have:=run_loadCells_list (P:=P) w ⟨b,o,none⟩ cs (fun j v hj=>by rw [add_lit]; exact h j v hj)
 simp [loadVar,run_isAgg_of ht,run_sizeOf_of ht,this]

theorem Qt.ld {t:TypeId} {x:Operand} {b o:Nat} {v:Value} (ht:tySz P t = some (1,false)) (hx:ev fr x = some (.pointer (some ⟨b,o,none⟩))) (h:∀ w,S w→w.cell? ⟨b,o,none⟩ = some v) :
  Qt P n ⟨dst,.load t x,ty,pos,aft,g⟩ fr S v:=fun a w k s=>by
 simp [execOp,k.ev hx,Instr.loadAt,Instr.sureAddr,run_loadVar1 ht (h w s),quietRes,Ext.refl]
theorem Qt.ldA {t sz:TypeId} {x:Operand} {b o:Nat} {cs:List Value} (ht:tySz P t = some (sz,true)) (hx:ev fr x = some (.pointer (some ⟨b,o,none⟩))) (hl:cs.length = sz) (h:Rc S b o cs) :
  Qt P n ⟨dst,.load t x,ty,pos,aft,g⟩ fr S (.agg cs.toArray):=fun a w k s=>by
 simp [execOp,k.ev hx,Instr.loadAt,Instr.sureAddr,run_loadVarA ht hl (h w s),quietRes,Ext.refl]
theorem Qt.ldB (k:Nat) {t e:TypeId} {x:Operand} {b o:Nat} {cs:List Value} {v:Value} (ht:tySz P t = some (1,false)) (hx:ev fr x = some (.pointer (some ⟨b,o,none⟩))) (hk:G[k]? = some (blk b cs e)) (hv:cs[o]? = some v) :
  Qt P n ⟨dst,.load t x,ty,pos,aft,g⟩ fr (Sat w0 G) v:=Qt.ld ht hx fun w s=>by
 simp [World.cell?,(s.getBlk hk).1,hv]
theorem Qt.ldBA (k:Nat) {t sz e:TypeId} {x:Operand} {b o:Nat} {cs us:List Value} (ht:tySz P t = some (sz,true)) (hx:ev fr x = some (.pointer (some ⟨b,o,none⟩))) (hk:G[k]? = some (blk b cs e)) (hu:(cs.drop o).take sz = us) (hl:us.length = sz) :
  Qt P n ⟨dst,.load t x,ty,pos,aft,g⟩ fr (Sat w0 G) (.agg us.toArray):=Qt.ldA ht hx hl fun w s j v hj=>by
 subst hu
 rw [List.getElem?_take] at hj
 split at hj
 ·rw [List.getElem?_drop] at hj
  simp [World.cell?,(s.getBlk hk).1,hj]
 ·cases hj

theorem Sat.newBlk {w:World} (s:Sat w0 G w) {w':World} (hw:w'.heap = w.heap) (he:Ext w w') (cs:List Value) (e:TypeId):Sat w0 (G ++ [blk w.heap.size cs e]) (w'.alloc (.cells cs.toArray e)):=by
 refine s.new (he.trans (Ext.alloc w' _)) _ (fun b=>if b = w.heap.size then some (.cells cs.toArray e) else none) (by simp [blk]) (fun b o hb=>?_) (fun b o hb=>?_)
 ·dsimp only at hb
  split at hb
  ·rename_i hb'; subst hb'; cases hb
   show (w'.heap.push _)[w.heap.size]? = _
   rw [← hw]; simp
  ·cases hb
 ·split at hb
  ·omega
  ·cases hb
theorem Sd.box {t:TypeId} {x:Operand} {v:Value} {cs:List Value} (hx:ev fr x = some v) (hc:v.cells.toList = cs) :
  Sd P n ⟨dst,.box t x,ty,pos,aft,g⟩ fr (Sat w0 G) (fun b:Nat=>.pointer (some ⟨b,0,none⟩)) (fun b=>Sat w0 (G ++ [blk b cs t])):=fun a w k s=>by
 subst hc
 refine ?_
 have:(execOp a.eval ⟨dst,.box t x,ty,pos,aft,g⟩).run P w = .ok (.value (.pointer (some ⟨w.heap.size,0,none⟩))) (w.alloc (.cells v.cells t)):=by
  simp [execOp,k.ev hx,Instr.box,newVar,newRow]
 rw [this]
 exact ⟨w.heap.size,rfl,by simpa using s.newBlk rfl (Ext.refl w) v.cells.toList t⟩
theorem Sd.alloc {t:TypeId} {z:Value} {cs:List Value} (hz:zeroOf P t = some z) (hc:z.cells.toList = cs) :
  Sd P n ⟨dst,.alloc t,ty,pos,aft,g⟩ fr (Sat w0 G) (fun b:Nat=>.pointer (some ⟨b,0,none⟩)) (fun b=>Sat w0 (G ++ [blk b cs t])):=fun a w k s=>by
 subst hc
 obtain ⟨i,hi,hz'⟩:=Option.bind_eq_some_iff.1 hz
 have:(execOp a.eval ⟨dst,.alloc t,ty,pos,aft,g⟩).run P w = .ok (.value (.pointer (some ⟨w.heap.size,0,none⟩))) (w.alloc (.cells z.cells t)):=by
  simp [execOp,Instr.alloc,zeroValue,typeInfo,hi,hz',newVar,newRow]
 rw [this]
 exact ⟨w.heap.size,rfl,by simpa using s.newBlk rfl (Ext.refl w) z.cells.toList t⟩

theorem Sat.setBlk {w:World} (s:Sat w0 G w) {k b:Nat} {cs:List Value} {e:TypeId} (hk:G[k]? = some (blk b cs e)) (cs':List Value):Sat w0 (G.set k (blk b cs' e)) (w.setRow b cs'.toArray):=by
 refine s.turn k hk _ rfl rfl rfl (by simp) fun p hp hl hb=>?_
 have hp':p b = some (.cells cs.toArray e (0,0)):=hp
 refine ⟨fun c hc hn=>setRow_other w b c _ (fun e'=>by rw [e',hp'] at hn; cases hn),fun c=>if c = b then some (.cells cs'.toArray e (0,0)) else p c,by simp [blk],fun c o hc=>?_⟩
 dsimp only at hc
 split at hc
 ·rename_i hcb; subst hcb; cases hc
  exact ⟨.inl (by rw [hp']; simp),setRow_heap w c _ _ e (0,0) (hl _ _ hp')⟩
 ·rename_i hcb
  exact ⟨.inl (by rw [hc]; simp),by rw [setRow_other w b c _ hcb]; exact hl _ _ hc⟩
theorem run_storeVar1 {t:TypeId} {w:World} {b o sz:Nat} {gg:Bool} {cs us:List Value} {e:TypeId} {v:Value} (ht:tySz P t = some (sz,gg)) (hb:w.heap[b]? = some (.cells cs.toArray e (0,0))) (hv:v.cells.toList = us) (hl:us.length = sz)
  (ho:o + sz ≤ cs.length) (h1:∀ u ∈ us,u.oneCell' = true) :
  (storeVar t ⟨b,o,none⟩ v).run P w = .ok () (w.setRow b (cs.take o ++ us ++ cs.drop (o + sz)).toArray):=by
 subst hv
 have hsz:v.cells.size = sz:=by rw [← hl]; simp
 have:=run_storeCells_at (P:=P) b o e v.cells.toList 0 cs.toArray w hb (by simp; omega) h1
 simp only [Nat.add_zero,Array.length_toList] at this
 simp [storeVar,run_sizeOf_of ht,hsz,this]
theorem Sd.stB (k:Nat) {t e:TypeId} {x y:Operand} {b o sz:Nat} {gg:Bool} {cs us:List Value} {v:Value} (ht:tySz P t = some (sz,gg)) (hx:ev fr x = some (.pointer (some ⟨b,o,none⟩))) (hy:ev fr y = some v) (hk:G[k]? = some (blk b cs e))
  (hv:v.cells.toList = us) (hl:us.length = sz) (ho:Nat.ble (o + sz) cs.length = true) (h1:us.all (·.oneCell') = true) {cs':List Value} (hc:cs.take o ++ us ++ cs.drop (o + sz) = cs') :
  Sd P n ⟨none,.store t x y,ty,pos,aft,g⟩ fr (Sat w0 G) (fun _:Unit=>undef) (fun _=>Sat w0 (G.set k (blk b cs' e))):=fun a w kn s=>by
 subst hc
 have hr:=run_storeVar1 (P:=P) ht (s.getBlk hk).1 hv hl (Nat.le_of_ble_eq_true ho) (fun u hu=>List.all_eq_true.1 h1 u hu)
 simp [execOp,kn.ev hx,kn.ev hy,Instr.storeAt,Instr.sureAddr,hr,solidRes]
 exact s.setBlk hk _
end
end Go.Vg
