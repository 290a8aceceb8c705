/-
  Texts of one's own, joined: YA YB YC OC WA LP LF.
-/
import Derived.Test.YtmngdgclldkcfaaGreatRows
import Derived.Test.YtmngdgclldkcfaaGreatJ6
import Derived.Test.YtmngdgclldkcfaaGreatJ7
import Derived.Test.YtmngdgclldkcfaaGreatJ15
import Derived.Test.YtmngdgclldkcfaaGreatJ12
import Derived.Tactics
import Derived.Tactics2
import Derived.Defers
import Derived.Laws.Pointers
import Derived.Laws.LoneSync
import Derived.RegionTactic
import Derived.RegionCalls
import Derived.ChangeAlike
import Derived.RangeFuncIn
import Derived.RangeFuncRecord
import Derived.RangeFuncLeaves
import Derived.TacticsIn
import Derived.OrdersIn
import Derived.Sort.LoopGhostIn
set_option linter.unusedVariables false
set_option linter.unusedSimpArgs false
set_option maxRecDepth 20000
set_option maxHeartbeats 4000000
namespace Go.Proofs.YtmngdgclldkcfaaGreat
open Go.Vg
open Enc (R)
theorem ent171:Ent Tryz.prog 171:=en Tryz.func171
theorem ent172:Ent Tryz.prog 172:=en Tryz.func172
theorem ent173:Ent Tryz.prog 173:=en Tryz.func173
instance fd264_0:FdC Tryz.prog 264 0 0:={}
instance fd264_1:FdC Tryz.prog 264 1 1:={}
theorem st264:stTy Tryz.prog 264 = some ([.map none,.map none],[(0,1),(1,1)]):=by kernel_rfl
instance ty261:TyC Tryz.prog 261 (1,false):={}
instance ty262:TyC Tryz.prog 262 (1,false):={}
abbrev zV:Value:=.agg #[.int .i64 0,.int .i64 0]
theorem mpA:mpT Tryz.prog 261 3 zV:=mpT_of (by kernel_rfl)
theorem mpC:mpT Tryz.prog 262 266 (.slice none 0 0):=mpT_of (by kernel_rfl)
theorem kyI:KeyT Tryz.prog 3 IntK:=KeyT.int (by kernel_rfl)
theorem kyC:KeyT Tryz.prog 266 TwoK:=KeyT.two (by kernel_rfl)
theorem loop_one {σ β:Type} {f:σ→Option (St σ β)} {s:σ} {b:β} (h:f s = some (St.done b)):Vg.loop f s = some b :=
 Ok.eq (Ok.loop (fun z=>z = s) (fun _=>0) rfl (by unfold FUEL; omega) (by rintro z rfl; rw [h]; exact Ok.ret rfl))
theorem less_self (id:Int):cmp_Less id id = some false:=by
 unfold cmp_Less cmp_isNaN
 simp
theorem bs_one (id:Int):slices_BinarySearch [id] id = some (0,true):=by
 unfold slices_BinarySearch
 refine Ok.eq (Ok.bind (R:=fun v=>v = 0) (Ok.loop (fun z:Int × Int=>z = (0,1) ∨ z = (0,0)) (fun z=>z.2.toNat) (.inl rfl) (by show (1:Nat) < FUEL; decide) ?_) ?_)
 ·rintro z (rfl | rfl)
  ·dsimp only
   rw [if_pos (by decide),if_pos (by decide),if_pos (by decide),if_pos (by decide),if_pos (by show _∧_ < (1:Int); decide)]
   show Ok (Option.bind (cmp_Less id id) _) _
   rw [less_self,bsome,if_neg (by simp)]
   exact Ok.ret ⟨.inr rfl,by decide⟩
  dsimp only
  rw [if_neg (by decide)]
  exact Ok.ret rfl
 rintro v rfl
 rw [if_pos (by simp),if_pos (by simp)]
 show Ok (Option.bind (Option.bind (if id = id then _ else _) _) _) _
 rw [if_pos rfl]
 exact Ok.ret rfl
theorem del_one (id:Int):slices_DeleteInt [id] 0 1 = some []:=rfl
theorem ins_one (id:Int):slices_InsertInt [] 0 [id] = some [id]:=rfl
theorem bs_nil (id:Int):slices_BinarySearch [] id = some (0,false):=by
 unfold slices_BinarySearch
 rw [loop_one (b:=0) (by dsimp only; rw [if_neg (by simp)]),bsome,if_neg (by simp),bsome]
abbrev Cls:=Option (Int × Vec × Cel)
def atL:Cls→List (Value × Value)
  | none=>[]
  | some (i,p,_)=>[(.int .i64 i,.agg #[.int .i64 p.x,.int .i64 p.y])]
def inL (q:Option Nat × Nat):Cls→List (Value × Value)
  | none=>[]
  | some (_,_,c)=>[(.agg #[.int .i64 c.x,.int .i64 c.y],rowV q 1)]
def idL:Cls→List Int
  | none=>[]
  | some (i,_,_)=>[i]
def okC:Cls→Prop
  | none=>True
  | some (_,p,c)=>cells_of p = some c
def Cells_ch (g:Nat) (o:Cls):Ch:=exch fun q:{q:Nat × Nat × (Option Nat × Nat) // okC o}=>stars (blk g [.map (some q.1.1),.map (some q.1.2.1)] 264 :: [mapE q.1.1 (atL o),mapE q.1.2.1 (inL q.1.2.2 o),row nilH 3 (rowV q.1.2.2 (idL o).length) (idL o)])
theorem Cells_open {w0 w:World} {G:List Ch} {g:Nat} {o:Cls} (k:Nat) (hk:G[k]? = some (Cells_ch g o)) (h:Sat w0 G w):∃ q:{q:Nat × Nat × (Option Nat × Nat) // okC o},Sat w0 (G.set k (blk g [.map (some q.1.1),.map (some q.1.2.1)] 264) ++ [mapE q.1.1 (atL o),mapE q.1.2.1 (inL q.1.2.2 o),row nilH 3 (rowV q.1.2.2 (idL o).length) (idL o)]) w :=
 Sat.openAt (A:=fun q:{q:Nat × Nat × (Option Nat × Nat) // okC o}=>blk g [.map (some q.1.1),.map (some q.1.2.1)] 264) (L:=fun q=>[mapE q.1.1 (atL o),mapE q.1.2.1 (inL q.1.2.2 o),row nilH 3 (rowV q.1.2.2 (idL o).length) (idL o)]) k hk h
theorem Cells_shut {w0 w:World} {R:List Ch} {g:Nat} {o:Cls} (q:Nat × Nat × (Option Nat × Nat)) (ho:okC o) (h:Sat w0 (R ++ [blk g [.map (some q.1),.map (some q.2.1)] 264,mapE q.1 (atL o),mapE q.2.1 (inL q.2.2 o),row nilH 3 (rowV q.2.2 (idL o).length) (idL o)]) w):Sat w0 (Cells_ch g o :: R) w :=
 Sat.toEx (C:=fun q:{q:Nat × Nat × (Option Nat × Nat) // okC o}=>stars (blk g [.map (some q.1.1),.map (some q.1.2.1)] 264 :: [mapE q.1.1 (atL o),mapE q.1.2.1 (inL q.1.2.2 o),row nilH 3 (rowV q.1.2.2 (idL o).length) (idL o)])) ⟨q,ho⟩ (Sat.toStars (blk g [.map (some q.1),.map (some q.2.1)] 264 :: [mapE q.1 (atL o),mapE q.2.1 (inL q.2.2 o),row nilH 3 (rowV q.2.2 (idL o).length) (idL o)]) (G:=R) h)
def cells_New:Option Cls:=some none
def cells_Remove (o:Cls) (id:Int):Option (Bool × Cls):=match o with
  | none=>some (false,none)
  | some (i,_,_)=>if i = id then some (true,none) else none
def cells_Put (o:Cls) (id:Int) (p:Vec):Option Cls:=Option.bind (cells_Remove o id) fun x=>match x.2 with
  | none=>Option.bind (cells_of p) fun c=>some (some (id,p,c))
  | some _=>none
theorem cells_New_walk (w:World) {r:Cls} (H:cells_New = some r):Calls Tryz.prog 116 #[] w fun e w'=>∃ g:Nat,e = .returned (.pointer (some ⟨g,0,none⟩))∧Sat w [Cells_ch g r] w':=by
 obtain rfl:=sj H
 refine te Tryz.func116 (Sat.start w) ?_
 refine au 2 ?_
 refine T.seq fun _ k2=>T.region (RS.solid Sd.makeMapE rfl rfl fun qa=>?_)
 refine RS.solid Sd.makeMapE rfl rfl fun qi=>?_
 refine rp (Pu.build (cells:=[_,_]) st264 rfl rfl) (RS.solid (Sd.box (cs:=[_,_]) rfl rfl) rfl rfl fun b4=>rA rfl (RS.nil (k2 _ _ (kq [0] ?_))))
 refine T.retTo (by with_reducible ((repeat (first | apply RetTo.seq | apply RetTo.blk)); exact RetTo.refl _)) (Cont.ret1 rfl rfl fun w' s=>?_)
 exact ⟨b4,rfl,Cells_shut (o:=none) (qa,qi,(none,0)) trivial ((s.nilRow (α:=Int) 3).pick [2,0,1,3] (by decide) rfl)⟩
theorem cells_Remove_one {w0:World} {F:Ch} (g qa qi:Nat) (q:Option Nat × Nat) (id:Int) (p:Vec) {c:Cel} (hc:cells_of p = some c) (w:World) (s:Sat w0 [blk g [.map (some qa),.map (some qi)] 264,mapE qa [(.int .i64 id,.agg #[.int .i64 p.x,.int .i64 p.y])],mapE qi [(.agg #[.int .i64 c.x,.int .i64 c.y],rowV q 1)],row nilH 3 (rowV q 1) [id],F] w):Calls Tryz.prog 171 #[.pointer (some ⟨g,0,none⟩),.int .i64 id] w fun e w'=>e = .returned (.bool true)∧Sat w0 [blk g [.map (some qa),.map (some qi)] 264,mapE qa [],mapE qi [],F] w':=by
 refine te Tryz.func171 s ?_
 refine au 2 ?_
 refine T.seq fun _ k2=>T.region (au 5 ?_)
 refine rq (Qt.oneE2 1 mpA kyI rfl rfl rfl ⟨_,rfl⟩) (au 3 ?_)
 refine RS.solid (Sd.alloc zr33 rfl) rfl rfl fun b5=>au 2 ?_
 refine RS.nil (k2 _ _ (kq [0,1,5,6] ?_))
 refine T.seq fun _ k3=>au 3 ?_
 refine T.cond rfl (fun hc21=>?_) (fun hc21=>?_)
 ·cases hc21 -- end
 refine T.skip (k3 _ _ (kq [0,1,5] ?_))
 refine T.seq fun _ k5=>T.region (rq (Qt.ldBA (us:=[_,_]) 5 ty33.h rfl rfl rfl rfl) (rq (Qt.call ent172 rfl fun w s=>cells_of_walk p w hc) (RS.solid (Sd.alloc zr266 rfl) rfl rfl fun b7=>RS.solid (Sd.stB (cs':=[_,_]) 6 ty266.h rfl rfl rfl rfl rfl rfl rfl rfl) rfl rfl fun _=>RS.nil (k5 _ _ (kq [0,1,7] ?_)))))
 refine T.seq fun _ k6=>dr mixed [0,0,0,1,1,1,0] ?_
 refine au 5 ?_
 refine dq rfl (Qt.oneE 2 mpC kyC rfl rfl rfl ⟨_,_,rfl⟩) (dp rfl (Pu.assign rfl) (RD.nil (k6 _ _ (kq [0,1,7,8] ?_))))
 refine T.seq fun _ k7=>T.region (au 2 ?_)
 refine rq (Qt.call ent173 rfl fun w s=>slices_BinarySearch_walk [id] id w (Rd.ofRowN 3 rfl w s) (bs_one id)) (au 5 ?_)
 refine RS.nil (k7 _ _ (kq [0,1,7,8,9] ?_))
 refine T.seq fun _ k8=>T.seq fun _ k9=>T.region (au 3 ?_)
 refine rp (Pu.addS rfl rfl (by omega)) (RS.solid (Sd.callM 3 ent238 rfl rfl (fun w s=>slices_DeleteInt_walk [id] 0 1 rfl (del_one id) w s)) rfl rfl fun q7=>rA rfl (RS.nil (k9 _ _ (kq [0,1,7,8] ?_))))
 refine au 4 ?_
 refine T.condP rfl (fun hc43=>?_) (fun hc43=>?_)
 ·refine kq [0,1,7] ?_
  refine dr mixed [0,0,0,1,1,4] ?_
  refine au 5 ?_
  refine RD.solid rfl (.inr rfl) rfl rfl (Sd.delE 2 mpC kyC rfl rfl rfl ⟨_,_,rfl⟩) (fun _=>ClE.sat _ _) (fun _ _ _=>trivial) (fun h=>(by cases h)) fun _=>?_
  refine RD.nil (k8 _ _ (kq [0,1] ?_))
  refine T.seq fun _ k11=>T.region (au 5 ?_)
  refine RS.solid (Sd.delE 1 mpA kyI rfl rfl rfl ⟨_,rfl⟩) rfl rfl fun _=>RS.nil (k11 _ _ (kq [] ?_))
  refine au 2 ?_
  refine T.retTo (by with_reducible ((repeat (first | apply RetTo.seq | apply RetTo.blk)); exact RetTo.refl _)) (Cont.ret1 rfl rfl fun w' s=>?_)
  exact ⟨rfl,s.pc [0,1,2,4]⟩
 exact absurd rfl hc43 -- end
theorem cells_Remove_nil {w0:World} {F:Ch} (g qa qi:Nat) (id:Int) (w:World) (s:Sat w0 [blk g [.map (some qa),.map (some qi)] 264,mapE qa [],mapE qi [],F] w):Calls Tryz.prog 171 #[.pointer (some ⟨g,0,none⟩),.int .i64 id] w fun e w'=>e = .returned (.bool false)∧Sat w0 [blk g [.map (some qa),.map (some qi)] 264,mapE qa [],mapE qi [],F] w':=by
 refine te Tryz.func171 s ?_
 refine au 2 ?_
 refine T.seq fun _ k2=>T.region (au 5 ?_)
 refine rq (Qt.nilE2 1 mpA kyI rfl rfl rfl ⟨_,rfl⟩) (au 3 ?_)
 refine RS.solid (Sd.alloc zr33 rfl) rfl rfl fun b5=>au 2 ?_
 refine RS.nil (k2 _ _ (kq [0,1,5,6] ?_))
 refine T.seq fun _ k3=>au 3 ?_
 refine T.cond rfl (fun hc21=>?_) (fun hc21=>?_)
 ·refine kq [] ?_
  refine au 2 ?_
  refine T.retTo (by with_reducible ((repeat (first | apply RetTo.seq | apply RetTo.blk)); exact RetTo.refl _)) (Cont.ret1 rfl rfl fun w' s=>?_)
  exact ⟨rfl,s.pc [0,1,2,3]⟩
 cases hc21 -- end
theorem cells_Remove_walk {w0:World} {F:Ch} (g:Nat) (o:Cls) (id:Int) {r:Bool × Cls} (H:cells_Remove o id = some r) (w:World) (s:Sat w0 [Cells_ch g o,F] w):Calls Tryz.prog 171 #[.pointer (some ⟨g,0,none⟩),.int .i64 id] w fun e w'=>e = .returned (.bool r.1)∧Sat w0 [Cells_ch g r.2,F] w':=by
 obtain ⟨⟨⟨qa,qi,q⟩,hq⟩,s⟩:=Cells_open 0 rfl s
 unfold cells_Remove at H
 cases o with
 | none =>
  obtain rfl:=sj H
  exact (cells_Remove_nil g qa qi id w (s.pc [0,2,3,1])).mono fun e w' ⟨he,s⟩=>⟨he,Cells_shut (o:=none) (qa,qi,(none,0)) trivial ((s.nilRow (α:=Int) 3).pick [3,0,1,2,4] (by decide) rfl)⟩
 | some z =>
  obtain ⟨i,p,c⟩:=z
  dsimp only at H
  split at H
  ·rename_i hi; subst hi
   obtain rfl:=sj H
   exact (cells_Remove_one g qa qi q i p hq w (s.pc [0,2,3,4,1])).mono fun e w' ⟨he,s⟩=>⟨he,Cells_shut (o:=none) (qa,qi,(none,0)) trivial ((s.nilRow (α:=Int) 3).pick [3,0,1,2,4] (by decide) rfl)⟩
  cases H
theorem cells_Put_walk {w0:World} {F:Ch} (g:Nat) (o:Cls) (id:Int) (p:Vec) {r:Cls} (H:cells_Put o id p = some r) (w:World) (s:Sat w0 [Cells_ch g o,F] w):Calls Tryz.prog 117 #[.pointer (some ⟨g,0,none⟩),.int .i64 id,.agg #[.int .i64 p.x,.int .i64 p.y]] w fun e w'=>e = .returned (.tuple #[])∧Sat w0 [Cells_ch g r,F] w':=by
 unfold cells_Put at H
 obtain ⟨x,hx,H⟩:=bindE H
 refine te Tryz.func117 s ?_
 refine T.seq fun _ k1=>T.region (RS.solid (Sd.box (cs:=[_,_]) rfl rfl) rfl rfl fun b5=>RS.nil (k1 _ _ ?_))
 refine T.seq fun _ k2=>T.region (au 2 ?_)
 refine RS.solid (Sd.callF0 0 ent171 rfl rfl (fun w s=>cells_Remove_walk g o id hx w s)) rfl rfl fun _=>RS.nil (k2 _ _ (kq [0,1,5] ?_))
 refine T.seq fun _ k3=>?_
 obtain ⟨x1,x2⟩:=x
 have hx2:x2 = none:=by
  cases x2
  ·rfl
  cases H
 subst hx2
 obtain ⟨c,hc,H⟩:=bindE H
 obtain rfl:=sj H
 refine T.ex (fun w s=>Cells_open (o:=none) 0 rfl s) fun q=>?_
 obtain ⟨⟨qa,qi,q⟩,hq⟩:=q
 show T _ _ _ _ (Sat w0 [blk g [.map (some qa),.map (some qi)] 264,F,blk b5 [.int .i64 p.x,.int .i64 p.y] 33,mapE qa [],mapE qi [],row nilH 3 (rowV q 0) ([]:List Int)]) _
 refine T.weakS (S':=Sat w0 [blk g [.map (some qa),.map (some qi)] 264,F,blk b5 [.int .i64 p.x,.int .i64 p.y] 33,mapE qa [],mapE qi [],row nilH 3 (rowV (none,0) 0) ([]:List Int)]) (fun w s=>(s.nilRow (α:=Int) 3).pick [0,1,2,3,4,6] (by decide) rfl) ?_
 refine T.region (rq (Qt.ldBA (us:=[_,_]) 2 ty33.h rfl rfl rfl rfl) (rq (Qt.call ent172 rfl fun w s=>cells_of_walk p w hc) (RS.solid (Sd.alloc zr266 rfl) rfl rfl fun b6=>RS.solid (Sd.stB (cs':=[_,_]) 6 ty266.h rfl rfl rfl rfl rfl rfl rfl rfl) rfl rfl fun _=>RS.nil (k3 _ _ ?_))))
 refine T.seq fun _ k4=>dr mixed [0,0,0,1,1,1,0,1,0,0,0,0,0] ?_
 refine au 5 ?_
 refine dq rfl (Qt.nilE 4 mpC kyC rfl rfl rfl ⟨_,_,rfl⟩) (dp rfl (Pu.move rfl) (dq rfl (Qt.call ent173 rfl fun w s=>slices_BinarySearch_walk [] id w (Rd.nil w s) (bs_nil id)) (au 5 ?_)))
 refine RD.nil (k4 _ _ (kq [0,1,5,6,7] ?_))
 refine T.seq fun _ k5=>drS mixed [0,1,2,3,6] [0,0,0,2,2,0,0,0,2,2,1,0,0,3,4,4] ?_
 refine au 10 ?_
 refine RD.q (fun w s=>s.pc [0,1,2,3,6]) rfl (Qt.nilE 4 mpC kyC rfl rfl rfl ⟨_,_,rfl⟩) rfl rfl (au 2 ?_)
 refine RD.solid rfl (.inl rfl) rfl rfl (Sd.litS (cs:=[_]) sl35.h zr3 rfl rfl rfl rfl rfl) (fun _=>ClE.sat _ _) (fun _ w s=>s.pc [0,1,2,3,6]) (fun _ _ _ s=>s.drop1) fun b38=>?_
 refine RD.solid rfl (.inr rfl) rfl rfl (Sd.callM 5 ent174 rfl rfl (fun w s=>slices_InsertInt_walk [] 0 [id] rfl (Rd.rest 7 rfl (by decide) (Rd.ofLit 0 rfl (show 1 ≤ maxLen by decide) rfl ⟨[_],_,rfl,rfl,rfl⟩)) (ins_one id) w s)) (fun _=>ClE.sat _ _) (fun _ _ s=>s.pc [0,1,2,3,6]) (fun h=>(by cases h)) fun q8=>?_
 refine RD.solid rfl (.inr rfl) rfl rfl (Sd.mapFirst 4 mpC kyC rfl rfl rfl rfl ⟨_,_,rfl⟩) (fun _=>ClE.sat _ _) (fun _ _ s=>s.pc [0,1,2,3,6]) (fun h=>(by cases h)) fun _=>?_
 refine RD.nil (k5 _ _ (kq [0,1,5] ?_))
 refine dr mixed [0,0,0,1,0,1,4] ?_
 refine au 6 ?_
 refine RD.solid rfl (.inr rfl) rfl rfl (Sd.mapFirst 3 mpA kyI rfl rfl rfl rfl ⟨_,rfl⟩) (fun _=>ClE.sat _ _) (fun _ _ _=>trivial) (fun h=>(by cases h)) fun _=>?_
 refine RD.nil (Cont.end0 rfl fun w' s=>?_)
 exact ⟨rfl,Cells_shut (o:=some (id,p,c)) (qa,qi,q8) hc (s.pc [1,0,3,4,5])⟩
end Go.Proofs.YtmngdgclldkcfaaGreat
set_option linter.unusedVariables false
set_option linter.unusedSimpArgs false
set_option maxRecDepth 20000
set_option maxHeartbeats 4000000
namespace Go.Proofs.YtmngdgclldkcfaaGreat
open Go.Vg
open Enc (R)
theorem ent286:Ent Tryz.prog 286:=en Tryz.func286
theorem ent287:Ent Tryz.prog 287:=en Tryz.func287
theorem ent311:Ent Tryz.prog 311:=en Tryz.func311
theorem ent320:Ent Tryz.prog 320:=en Tryz.func320
theorem Pu.strIx {P:Program} {n:Nat} {fr:Fr} {dst:Option Tmp} {ty:TypeId} {pos:String} {aft:Array Edge} {g:Option (Nat × Bool)} {t:TypeId} {s:ByteArray} {y:Operand} {i:Int} {v:Nat} (ht:P.underlying t = some .string) (hy:ev fr y = some (.int .u8 i)) (hi:0 ≤ i) (hb:(s[i.toNat]?).map UInt8.toNat = some v):Pu P n ⟨dst,.index t (.const (.string s)) y,ty,pos,aft,g⟩ fr (.int .u8 v):=fun a kn w=>by
 obtain ⟨b,h1,h2⟩:=Option.map_eq_some_iff.1 hb
 subst h2
 have hs:=kn.ev (show ev fr (.const (.string s)) = some (.string s) from rfl)
 simp [execOp,kn.ev hy,hs,Instr.index,asIntOf,run_underlying ht,Result.andThen,hi,h1]
theorem len64_0 (w:World):Calls Tryz.prog 320 #[.int .u64 0] w fun e w'=>e = .returned (.int .i64 0)∧Ext w w':=by
 refine te Tryz.func320 (Sat.start w) ?_
 refine au 2 ?_
 refine T.seq fun _ k2=>au 3 ?_
 refine T.condP rfl (fun hc4=>?_) (fun hc4=>?_)
 ·exact absurd hc4 (by decide) -- end
 refine T.skip (k2 _ _ ?_)
 refine T.seq fun _ k4=>au 3 ?_
 refine T.condP rfl (fun hc8=>?_) (fun hc8=>?_)
 ·exact absurd hc8 (by decide) -- end
 refine T.skip (k4 _ _ (kq [0,2] ?_))
 refine T.seq fun _ k6=>au 3 ?_
 refine T.condP rfl (fun hc14=>?_) (fun hc14=>?_)
 ·exact absurd hc14 (by decide) -- end
 refine T.skip (k6 _ _ ?_)
 refine T.seq fun _ k8=>T.region (au 2 ?_)
 refine rp (Pu.conv us112 ul5 rfl) (rp (Pu.strIx (v:=0) (by kernel_rfl) rfl (by decide) (by kernel_rfl)) (rp (Pu.convS us5 ul3 rfl (by omega)) (rp (Pu.addS rfl rfl (by omega)) (rA rfl (RS.nil (k8 _ _ (kq [2] ?_)))))))
 refine T.retTo (by with_reducible ((repeat (first | apply RetTo.seq | apply RetTo.blk)); exact RetTo.refl _)) (Cont.ret1 rfl rfl fun w' s=>?_)
 exact ⟨rfl,s.ext⟩
theorem len_0 (w:World):Calls Tryz.prog 287 #[.int .u64 0] w fun e w'=>e = .returned (.int .i64 0)∧Ext w w':=by
 refine te Tryz.func287 (Sat.start w) ?_
 refine au 2 ?_
 refine T.seq fun _ k2=>?_
 refine T.condF rfl ?_
 refine T.skip (k2 _ _ ?_)
 refine T.seq fun _ k3=>T.region (rM rfl (rq (Qt.call ent320 rfl fun w s=>len64_0 w) (rA rfl (RS.nil (k3 _ _ (kq [2] ?_))))))
 refine T.retTo (by with_reducible ((repeat (first | apply RetTo.seq | apply RetTo.blk)); exact RetTo.refl _)) (Cont.ret1 rfl rfl fun w' s=>?_)
 exact ⟨rfl,s.ext⟩
theorem ins_0 (v:Value) (w:World):Calls Tryz.prog 311 #[v,.int .i64 0,.int .i64 0] w fun e w'=>e = .returned (.tuple #[])∧Ext w w':=by
 refine te Tryz.func311 (Sat.start w) ?_
 refine T.seq fun _ k1=>T.region (rM rfl (rp (Pu.addS rfl rfl (by omega)) (rA rfl (RS.nil (k1 _ _ ?_)))))
 refine T.block ?_
 refine T.loopC (σ:=Unit) [(0,_),(1,_),(2,_)] (fun _=>[(6,.int .i64 1)]) (fun _=>True) (fun _=>0) () (trivial) sb sb ?_
 intro _ hI K1_ hL1
 refine kq [6,0,1,2] ?_
 refine T.seq fun _ k2=>au 4 ?_
 refine T.condP rfl (fun hc12=>?_) (fun hc12=>?_)
 ·exact absurd hc12 (by decide) -- end
 refine T.exitTo (by with_reducible (repeat (first | exact ExTo.here | exact ExTo.hereN | exact ExTo.deep (by repeat (first | exact NmTo.seq | apply NmTo.blk)) | apply ExTo.seq | refine ExTo.past (by decide) ?_))) (Cont.end0 rfl fun w' s=>?_)
 exact ⟨rfl,s.ext⟩
theorem pdq_0 (v:Value) (n:Int) (w:World):Calls Tryz.prog 286 #[v,.int .i64 0,.int .i64 0,.int .i64 n] w fun e w'=>e = .returned (.tuple #[])∧Ext w w':=by
 refine te Tryz.func286 (Sat.start w) ?_
 refine au 4 ?_
 refine T.block ?_
 refine T.loopC (σ:=Unit) [(0,_)] (fun _=>[(1,.int .i64 0),(2,.int .i64 0),(3,.int .i64 n),(8,.bool true),(9,.bool true)]) (fun _=>True) (fun _=>0) () (trivial) sb sb ?_
 intro _ hI K2_ hL1
 refine kq [1,2,3,8,9,0] ?_
 refine T.block (T.seq fun _ k3=>T.region (au 2 ?_))
 refine rp (Pu.subS rfl rfl (by omega)) (rA rfl (RS.nil (k3 _ _ (kq [0,1,2,3,8,9,10] ?_))))
 refine T.seq fun _ k4=>au 3 ?_
 refine T.condP rfl (fun hc23=>?_) (fun hc23=>?_)
 ·refine kq [0,1,2] ?_
  refine T.seq fun _ k6=>T.region (au 3 ?_)
  refine rq (Qt.call ent311 rfl fun w s=>ins_0 v w) (RS.nil (k6 _ _ (kq [] ?_)))
  refine T.retTo (by with_reducible ((repeat (first | apply RetTo.seq | apply RetTo.blk)); exact RetTo.refl _)) (Cont.ret0 rfl fun w' s=>?_)
  exact ⟨rfl,s.ext⟩
 exact absurd (by decide) hc23 -- end
theorem sort_0 (p:Option Addr) (c:Nat) (w:World):Calls Tryz.prog 249 #[.slice p 0 c] w fun e w'=>e = .returned (.tuple #[])∧Ext w w':=by
 refine te Tryz.func249 (Sat.start w) ?_
 refine au 4 ?_
 refine T.region (au 3 ?_)
 refine rp (Pu.convU us3 ul80 rfl (by omega)) (rq (Qt.call ent287 rfl fun w s=>len_0 w) (rq (Qt.call ent286 rfl fun w s=>pdq_0 _ 0 w) (RS.nil (Cont.end0 rfl fun w' s=>?_))))
 exact ⟨rfl,s.ext⟩
theorem len64_1 (w:World):Calls Tryz.prog 320 #[.int .u64 1] w fun e w'=>e = .returned (.int .i64 1)∧Ext w w':=by
 refine te Tryz.func320 (Sat.start w) ?_
 refine au 2 ?_
 refine T.seq fun _ k2=>au 3 ?_
 refine T.condP rfl (fun hc4=>?_) (fun hc4=>?_)
 ·exact absurd hc4 (by decide) -- end
 refine T.skip (k2 _ _ ?_)
 refine T.seq fun _ k4=>au 3 ?_
 refine T.condP rfl (fun hc8=>?_) (fun hc8=>?_)
 ·exact absurd hc8 (by decide) -- end
 refine T.skip (k4 _ _ (kq [0,2] ?_))
 refine T.seq fun _ k6=>au 3 ?_
 refine T.condP rfl (fun hc14=>?_) (fun hc14=>?_)
 ·exact absurd hc14 (by decide) -- end
 refine T.skip (k6 _ _ ?_)
 refine T.seq fun _ k8=>T.region (au 2 ?_)
 refine rp (Pu.conv us112 ul5 rfl) (rp (Pu.strIx (v:=1) (by kernel_rfl) rfl (by decide) (by kernel_rfl)) (rp (Pu.convS us5 ul3 rfl (by omega)) (rp (Pu.addS rfl rfl (by omega)) (rA rfl (RS.nil (k8 _ _ (kq [2] ?_)))))))
 refine T.retTo (by with_reducible ((repeat (first | apply RetTo.seq | apply RetTo.blk)); exact RetTo.refl _)) (Cont.ret1 rfl rfl fun w' s=>?_)
 exact ⟨rfl,s.ext⟩
theorem len_1 (w:World):Calls Tryz.prog 287 #[.int .u64 1] w fun e w'=>e = .returned (.int .i64 1)∧Ext w w':=by
 refine te Tryz.func287 (Sat.start w) ?_
 refine au 2 ?_
 refine T.seq fun _ k2=>?_
 refine T.condF rfl ?_
 refine T.skip (k2 _ _ ?_)
 refine T.seq fun _ k3=>T.region (rM rfl (rq (Qt.call ent320 rfl fun w s=>len64_1 w) (rA rfl (RS.nil (k3 _ _ (kq [2] ?_))))))
 refine T.retTo (by with_reducible ((repeat (first | apply RetTo.seq | apply RetTo.blk)); exact RetTo.refl _)) (Cont.ret1 rfl rfl fun w' s=>?_)
 exact ⟨rfl,s.ext⟩
theorem ins_1 (v:Value) (w:World):Calls Tryz.prog 311 #[v,.int .i64 0,.int .i64 1] w fun e w'=>e = .returned (.tuple #[])∧Ext w w':=by
 refine te Tryz.func311 (Sat.start w) ?_
 refine T.seq fun _ k1=>T.region (rM rfl (rp (Pu.addS rfl rfl (by omega)) (rA rfl (RS.nil (k1 _ _ ?_)))))
 refine T.block ?_
 refine T.loopC (σ:=Unit) [(0,_),(1,_),(2,_)] (fun _=>[(6,.int .i64 1)]) (fun _=>True) (fun _=>0) () (trivial) sb sb ?_
 intro _ hI K1_ hL1
 refine kq [6,0,1,2] ?_
 refine T.seq fun _ k2=>au 4 ?_
 refine T.condP rfl (fun hc12=>?_) (fun hc12=>?_)
 ·exact absurd hc12 (by decide) -- end
 refine T.exitTo (by with_reducible (repeat (first | exact ExTo.here | exact ExTo.hereN | exact ExTo.deep (by repeat (first | exact NmTo.seq | apply NmTo.blk)) | apply ExTo.seq | refine ExTo.past (by decide) ?_))) (Cont.end0 rfl fun w' s=>?_)
 exact ⟨rfl,s.ext⟩
theorem pdq_1 (v:Value) (n:Int) (w:World):Calls Tryz.prog 286 #[v,.int .i64 0,.int .i64 1,.int .i64 n] w fun e w'=>e = .returned (.tuple #[])∧Ext w w':=by
 refine te Tryz.func286 (Sat.start w) ?_
 refine au 4 ?_
 refine T.block ?_
 refine T.loopC (σ:=Unit) [(0,_)] (fun _=>[(1,.int .i64 0),(2,.int .i64 1),(3,.int .i64 n),(8,.bool true),(9,.bool true)]) (fun _=>True) (fun _=>0) () (trivial) sb sb ?_
 intro _ hI K2_ hL1
 refine kq [1,2,3,8,9,0] ?_
 refine T.block (T.seq fun _ k3=>T.region (au 2 ?_))
 refine rp (Pu.subS rfl rfl (by omega)) (rA rfl (RS.nil (k3 _ _ (kq [0,1,2,3,8,9,10] ?_))))
 refine T.seq fun _ k4=>au 3 ?_
 refine T.condP rfl (fun hc23=>?_) (fun hc23=>?_)
 ·refine kq [0,1,2] ?_
  refine T.seq fun _ k6=>T.region (au 3 ?_)
  refine rq (Qt.call ent311 rfl fun w s=>ins_1 v w) (RS.nil (k6 _ _ (kq [] ?_)))
  refine T.retTo (by with_reducible ((repeat (first | apply RetTo.seq | apply RetTo.blk)); exact RetTo.refl _)) (Cont.ret0 rfl fun w' s=>?_)
  exact ⟨rfl,s.ext⟩
 exact absurd (by decide) hc23 -- end
theorem sort_1 (p:Option Addr) (c:Nat) (w:World):Calls Tryz.prog 249 #[.slice p 1 c] w fun e w'=>e = .returned (.tuple #[])∧Ext w w':=by
 refine te Tryz.func249 (Sat.start w) ?_
 refine au 4 ?_
 refine T.region (au 3 ?_)
 refine rp (Pu.convU us3 ul80 rfl (by omega)) (rq (Qt.call ent287 rfl fun w s=>len_1 w) (rq (Qt.call ent286 rfl fun w s=>pdq_1 _ 1 w) (RS.nil (Cont.end0 rfl fun w' s=>?_))))
 exact ⟨rfl,s.ext⟩
end Go.Proofs.YtmngdgclldkcfaaGreat
set_option linter.unusedVariables false
set_option linter.unusedSimpArgs false
set_option maxRecDepth 20000
set_option maxHeartbeats 4000000
namespace Go.Proofs.YtmngdgclldkcfaaGreat
open Go.Vg
open Enc (R)
instance ty162:TyC Tryz.prog 162 (1,false):={}
theorem near1_no {w0:World} {F:Ch} (bp bc br bl g qa qi:Nat) (id r:Int) (p z:Vec) {es:Array MapEntry} {ck:Nat} (hq:EsOk [(.int .i64 id,.agg #[.int .i64 z.x,.int .i64 z.y])] (es,ck)) (hd:vec_Within p z r = some false) (w:World) (s:Sat w0 [blk bp [.int .i64 p.x,.int .i64 p.y] 33,blk bc [.pointer (some ⟨g,0,none⟩)] 162,blk br [.int .i64 r] 2,blk bl [.slice none 0 0] 35,blk g [.map (some qa),.map (some qi)] 264,mapX qa es ck,F] w):Calls Tryz.prog 246 #[.int .i64 id,.pointer (some ⟨bp,0,none⟩),.pointer (some ⟨bc,0,none⟩),.pointer (some ⟨br,0,none⟩),.pointer (some ⟨bl,0,none⟩)] w fun e w'=>e = .returned (.tuple #[])∧Sat w0 [blk bp [.int .i64 p.x,.int .i64 p.y] 33,blk bc [.pointer (some ⟨g,0,none⟩)] 162,blk br [.int .i64 r] 2,blk bl [.slice none 0 0] 35,blk g [.map (some qa),.map (some qi)] 264,mapX qa es ck,F] w':=by
 refine te Tryz.func246 s ?_
 refine T.seq fun _ k1=>dr mixed [1,1,0,0,1,0,1,1,1] ?_
 refine au 6 ?_
 refine dq rfl (Qt.oneX 5 hq mpA kyI rfl rfl rfl ⟨_,rfl⟩) (dq rfl (Qt.ldB 2 ty2.h rfl rfl rfl) (dq rfl (Qt.call ent179 rfl fun w s=>vec_Within_walk p z r w hd) (RD.nil (k1 _ _ ?_))))
 refine T.cond rfl (fun hc14=>?_) (fun hc14=>?_)
 ·cases hc14 -- end
 refine T.skip (Cont.end0 rfl fun w' s=>?_)
 exact ⟨rfl,s⟩
theorem near1_yes {w0:World} {F:Ch} (bp bc br bl g qa qi:Nat) (id r:Int) (p z:Vec) {es:Array MapEntry} {ck:Nat} (hq:EsOk [(.int .i64 id,.agg #[.int .i64 z.x,.int .i64 z.y])] (es,ck)) (hd:vec_Within p z r = some true) (w:World) (s:Sat w0 [blk bp [.int .i64 p.x,.int .i64 p.y] 33,blk bc [.pointer (some ⟨g,0,none⟩)] 162,blk br [.int .i64 r] 2,blk bl [.slice none 0 0] 35,blk g [.map (some qa),.map (some qi)] 264,mapX qa es ck,F] w):Calls Tryz.prog 246 #[.int .i64 id,.pointer (some ⟨bp,0,none⟩),.pointer (some ⟨bc,0,none⟩),.pointer (some ⟨br,0,none⟩),.pointer (some ⟨bl,0,none⟩)] w fun e w'=>∃ q:Option Nat × Nat,e = .returned (.tuple #[])∧Sat w0 [blk bp [.int .i64 p.x,.int .i64 p.y] 33,blk bc [.pointer (some ⟨g,0,none⟩)] 162,blk br [.int .i64 r] 2,blk bl [rowV q 1] 35,blk g [.map (some qa),.map (some qi)] 264,mapX qa es ck,F,row nilH 3 (rowV q 1) [id]] w':=by
 refine te Tryz.func246 s ?_
 refine T.seq fun _ k1=>dr mixed [1,1,0,0,1,0,1,1,1] ?_
 refine au 6 ?_
 refine dq rfl (Qt.oneX 5 hq mpA kyI rfl rfl rfl ⟨_,rfl⟩) (dq rfl (Qt.ldB 2 ty2.h rfl rfl rfl) (dq rfl (Qt.call ent179 rfl fun w s=>vec_Within_walk p z r w hd) (RD.nil (k1 _ _ ?_))))
 refine T.cond rfl (fun hc14=>?_) (fun hc14=>?_)
 ·refine kq [0,4] ?_
  refine T.weakS (S':=Sat w0 [blk bp [.int .i64 p.x,.int .i64 p.y] 33,blk bc [.pointer (some ⟨g,0,none⟩)] 162,blk br [.int .i64 r] 2,blk bl [.slice none 0 0] 35,blk g [.map (some qa),.map (some qi)] 264,mapX qa es ck,F,row nilH 3 (rowV (none,0) 0) ([]:List Int)]) (fun w s=>s.nilRow (α:=Int) 3) ?_
  refine T.region (au 2 ?_)
  refine RS.solid (Sd.litS (cs:=[_]) sl35.h zr3 rfl rfl rfl rfl rfl) rfl rfl fun b17=>RS.solid (Sd.app1c (α:=Int) 7 8 id rfl rfl (nilH_lt _) sl35.h zr3 rfl rfl rfl rfl (by decide) (by decide)) rfl rfl fun q=>RS.solid (Sd.stB (cs':=[_]) 3 ty35.h rfl rfl rfl rfl rfl rfl rfl rfl) rfl rfl fun _=>RS.nil (Cont.end0 rfl fun w' s=>?_)
  exact ⟨q,rfl,s.pc [0,1,2,3,4,5,6,7]⟩
 cases hc14 -- end
def nl (d:Bool) (id:Int):List Int:=if d = true then [id] else []
theorem near1_walk {w0:World} {F:Ch} (bp bc br bl g qa qi:Nat) (id r:Int) (p z:Vec) {es:Array MapEntry} {ck:Nat} (hq:EsOk [(.int .i64 id,.agg #[.int .i64 z.x,.int .i64 z.y])] (es,ck)) {d:Bool} (hd:vec_Within p z r = some d) (w:World) (s:Sat w0 [blk bp [.int .i64 p.x,.int .i64 p.y] 33,blk bc [.pointer (some ⟨g,0,none⟩)] 162,blk br [.int .i64 r] 2,blk bl [.slice none 0 0] 35,blk g [.map (some qa),.map (some qi)] 264,mapX qa es ck,F] w):Calls Tryz.prog 246 #[.int .i64 id,.pointer (some ⟨bp,0,none⟩),.pointer (some ⟨bc,0,none⟩),.pointer (some ⟨br,0,none⟩),.pointer (some ⟨bl,0,none⟩)] w fun e w'=>∃ q:Option Nat × Nat,e = .returned (.tuple #[])∧Sat w0 ([blk bp [.int .i64 p.x,.int .i64 p.y] 33,blk bc [.pointer (some ⟨g,0,none⟩)] 162,blk br [.int .i64 r] 2,blk bl [rowV q (nl d id).length] 35,blk g [.map (some qa),.map (some qi)] 264,mapX qa es ck,row nilH 3 (rowV q (nl d id).length) (nl d id)] ++ [F]) w':=by
 cases d with
 | false=>exact (near1_no bp bc br bl g qa qi id r p z hq hd w s).mono fun e w' ⟨he,s⟩=>⟨(none,0),he,(s.nilRow (α:=Int) 3).pick [0,1,2,3,4,5,7,6] (by decide) rfl⟩
 | true=>exact (near1_yes bp bc br bl g qa qi id r p z hq hd w s).mono fun e w' ⟨q,he,s⟩=>⟨q,he,s.pc [0,1,2,3,4,5,7,6]⟩
end Go.Proofs.YtmngdgclldkcfaaGreat
set_option linter.unusedVariables false
set_option linter.unusedSimpArgs false
set_option maxRecDepth 20000
set_option maxHeartbeats 4000000
namespace Go.Proofs.YtmngdgclldkcfaaGreat
open Go.Vg
open Enc (R)
end Go.Proofs.YtmngdgclldkcfaaGreat
set_option linter.unusedSimpArgs false
set_option linter.unusedVariables false
namespace Go.Vg
open Go.RowKit (Below)
open Enc (R)
open Go.MapKept
def WF (ro:Option Nat):Fence:={ Fence.wide with round:=ro }
def noDef (a:Act):Act:={ a with defers:=[] }
structure KD (N:Nat) (ds:List Deferred) (fr:Fr) (a:Act):Prop where
  k:Knows N fr (noDef a)
  d:a.defers = ds
theorem eval_noDef (a:Act):(noDef a).eval = a.eval:=by funext x; cases x <;> rfl
theorem callsWF {ro:Option Nat} {n:Nat} {P:Program} {f:FuncId} {args:Array Value} {w:World} {R:Ending→World→Prop} (h:Calls P f args w R):CallsIn (WF ro) n P f args w R :=
 (callsIn_wide (n:=n)).2 h
theorem KD.putF {N:Nat} {ds:List Deferred} {fr:Fr} {a:Act} (h:KD N ds fr a) {d:Option Nat} (hd:dOk N d = true) (v:Value):KD N ds (putF d v fr) (a.put d v):=by
 refine ⟨?_,?_⟩
 ·have:=h.k.putF hd v
  cases d <;> exact this
 ·cases d <;> exact h.d
theorem notDef {P:Program} {ρ:Operand→Value} {o:Oper} {w:World} {ι:Type} {val:ι→Value} {S':ι→As} (h:solidRes P val S' ((execOp ρ o).run P w)):∀ c,o.op ≠ .defer c:=by
 intro c e
 unfold execOp at h
 rw [e] at h
 simp only [Sem.run_bind] at h
 cases hr:(resolve ρ c o.type).run P w with
 | ok d w'=>rw [hr] at h; simp [Result.andThen,solidRes] at h
 | halt x w'=>rw [hr] at h; simp [Result.andThen,solidRes] at h

def TR (ro:Option Nat) (P:Program) (N:Nat) (c:Code) (ds:List Deferred) (fr:Fr) (S:As) (Q:Po):Prop:=∀ a w,KD N ds fr a→S w→c.wpIn (WF ro) 0 P Q a w
def RR (ro:Option Nat) (P:Program) (N:Nat) (ops:Array Oper) (Q:Po) (l:List Oper) (ds:List Deferred) (fr:Fr) (S:As):Prop:=∀ a w,KD N ds fr a→S w→wpListIn (WF ro) 0 P ops Q l a w
def CR (N:Nat) (K:Act→World→Prop) (ds:List Deferred) (fr:Fr) (S:As):Prop:=∀ a w,KD N ds fr a→S w→K a w
section
variable {ro:Option Nat} {P:Program} {N:Nat} {ops:Array Oper} {Q:Po} {rest:List Oper} {ds:List Deferred} {fr:Fr} {S:As} {o:Oper} {K:Act→World→Prop}
theorem RR.solid {ι:Type} {val:ι→Value} {S':ι→As} (h:Sd P N o fr S val S') (hg:gval ops fr o.guard = some true) (hd:dOk N o.dst = true)
  (hr:∀ i,RR ro P N ops Q rest ds (putF o.dst (val i) fr) (S' i)):RR ro P N ops Q (o :: rest) ds fr S:=by
 intro a w k s
 have hw:Region.wanted o (yielded ops a.tmps) = true:=wanted_of (a:=noDef a) k.k hg
 unfold wpListIn
 rw [if_pos hw]
 have:=h (noDef a) w k.k s
 rw [eval_noDef] at this
 refine ⟨fun _ _=>trivial,?_⟩
 rw [Oper.semAt_eq _ _ _ (notDef this)]
 revert this
 generalize (execOp a.eval o).run P w = r
 intro h
 cases r with
 | ok x w' =>
  cases x <;> simp only [solidRes,Oper.uponIn] at h ⊢
  case value u=>obtain ⟨i,rfl,hs⟩:=h; exact hr i _ _ (k.putF hd _) hs
  case skip=>obtain ⟨i,hu,hs⟩:=h; rw [← hu]; exact hr i _ _ (k.putF hd _) hs
  case enter f args=>exact ⟨fun h=>(by cases h),callsWF (h.mono fun e w'' ⟨i,he,hs⟩=>by subst he; exact hr i _ _ (k.putF hd _) hs)⟩
 | halt x w'=>exact h.elim
theorem RR.q {v:Value} {w0:World} {G:List Ch} (h:Qt P N o fr (Sat w0 G) v) (hg:gval ops fr o.guard = some true) (hd:dOk N o.dst = true) (hr:RR ro P N ops Q rest ds (Vg.putF o.dst v fr) (Sat w0 G)):RR ro P N ops Q (o :: rest) ds fr (Sat w0 G) :=
 RR.solid (h.sd (ClE.sat w0 G) (fun _ s=>s)) hg hd fun _=>hr
theorem RR.p {v:Value} (h:Pu P N o fr v) (hg:gval ops fr o.guard = some true) (hd:dOk N o.dst = true) (hr:RR ro P N ops Q rest ds (Vg.putF o.dst v fr) S):RR ro P N ops Q (o :: rest) ds fr S:=by
 refine RR.solid (val:=fun _:Unit=>v) (S':=fun _=>S) (fun a w k s=>?_) hg hd fun _=>hr
 rw [h a k w]; exact ⟨(),rfl,s⟩
theorem RR.round {l:Nat} {ι:Type} {val:ι→Value} {S':ι→As} (hnd:∀ c,o.op ≠ .defer c)
  (h:∀ a w,Knows N fr a→S w→∃ fn tmps assign body,(execOp a.eval o).run P w = .ok (.round l fn tmps assign body) w∧RoundIn (WF ro) 0 P l fn tmps assign body w (fun e w'=>∃ i,e = .returned (val i)∧S' i w'))
  (hg:gval ops fr o.guard = some true) (hd:dOk N o.dst = true)
  (hr:∀ i,RR ro P N ops Q rest ds (Vg.putF o.dst (val i) fr) (S' i)):RR ro P N ops Q (o :: rest) ds fr S:=by
 intro a w k s
 have hw:Region.wanted o (yielded ops a.tmps) = true:=wanted_of (a:=noDef a) k.k hg
 unfold wpListIn
 rw [if_pos hw]
 obtain ⟨fn,tmps,assign,body,h1,h2⟩:=h (noDef a) w k.k s
 rw [eval_noDef] at h1
 refine ⟨fun _ _=>trivial,?_⟩
 rw [Oper.semAt_eq _ _ _ hnd,h1]
 exact ⟨fun h=>(by cases h),h2.mono fun e w' ⟨i,he,hs⟩=>by subst he; exact hr i _ _ (k.putF hd _) hs⟩
theorem TR.skip (h:CR N (Q .normal) ds fr S):TR ro P N .skip ds fr S Q:=fun a w k s=>wpIn_skip (h a w k s)
end
section
variable {ro:Option Nat} {P:Program} {n:Nat} {ops:Array Oper} {Q:Po} {kd:Nat→Kd} {Cw:As} {ds:List Deferred}
end
section
variable {w0 w:World} {G:List Ch}
end
theorem TR.enter {P:Program} {f:FuncId} {fn:Func} {c:Code} {args:List Value} {w:World} {R:Ending→World→Prop} {S:As} (hf:P.funcs[f]? = some fn) (hb:fn.body = some c) (hn:Nat.ble args.length fn.ntmps = true) (s:S w)
  (h:TR none P fn.ntmps c [] (frameOf 0 args) S (bodyPostM (WF none) 0 P fn R)):Calls P f args.toArray w R:=by
 refine (callsIn_wide (n:=0)).1 (callsIn_of_wp_marks hf hb trivial (h _ w ⟨⟨?_,rfl,fun i v hi=>?_⟩,rfl⟩ s) rfl)
 ·have:args.length ≤ fn.ntmps:=by simpa using hn
  simp [noDef]; omega
 ·obtain ⟨_,h2⟩:=look_frameOf args 0 i v hi
  simp only [Nat.sub_zero] at h2
  have hlt:=(List.getElem?_eq_some_iff.1 h2).1
  show (args.toArray ++ _)[i]? = _
  rw [Array.getElem?_append_left (by simpa using hlt)]
  simpa using h2
section
variable {P:Program} {N:Nat} {ds:List Deferred} {fr:Fr} {w0:World} {G:List Ch} {fn:Func} {R:Ending→World→Prop}
end
end Go.Vg
namespace Go.Vg
section
variable {ro:Option Nat} {P:Program} {N:Nat} {ops:Array Oper} {Q:Po} {rest:List Oper} {ds:List Deferred} {fr:Fr} {S:As} {K:Act→World→Prop}
end
end Go.Vg
set_option linter.unusedVariables false
set_option linter.unusedSimpArgs false
set_option maxRecDepth 20000
namespace Go.Proofs.YtmngdgclldkcfaaGreat
open Go.Vg
open Enc (R)
structure Fld where
  c:Cach
  made:Int
  has:Bool
  g:Grd
  l:List Bld
  nets:List (Int × Net)
  ways:List (Int × List Int)
  count:Int
  deriving Inhabited
section
variable {α β:Type}
def mapV (f:α→β) (L:List (Int × α)):List (Int × β):=L.map fun e=>(e.1,f e.2)
end
def NetB (H:Hp) (n:Nat) (x:Net):Prop:=∃ v0 v1,blk n [.int .i64 x.g.w,.int .i64 x.g.h,v0,.int .i64 x.cls,v1] 233 H∧R H x.g.tiles [v0]∧R H x.free [v1]
def NetAt (H:Hp) (z:Nat × Net):Prop:=∃ s n,blk z.1 [.int .u32 1,.int .i32 0,s,.pointer (some ⟨n,0,none⟩)] 179 H∧NetB H n z.2
def WayAt (H:Hp) (z:Nat × List Int):Prop:=∃ s v,blk z.1 [.int .u32 1,.int .i32 0,s,v] 425 H∧R H z.2 [v]
theorem NetB.mono {H K:Hp} (h:H.le K) {n:Nat} {x:Net}:NetB H n x→NetB K n x:=fun ⟨v0,v1,a,b,c⟩=>⟨v0,v1,h _ _ a,Enc.mono h b,Enc.mono h c⟩
theorem NetAt.mono {H K:Hp} (h:H.le K) {z:Nat × Net}:NetAt H z→NetAt K z:=fun ⟨s,n,a,b⟩=>⟨s,n,h _ _ a,b.mono h⟩
theorem WayAt.mono {H K:Hp} (h:H.le K) {z:Nat × List Int}:WayAt H z→WayAt K z:=fun ⟨s,v,a,b⟩=>⟨s,v,h _ _ a,Enc.mono h b⟩
def pt (b:Nat):Value:=.pointer (some ⟨b,0,none⟩)
def raw {α:Type} (L:List (Int × (Nat × α))):List (Int × Value):=mapV (fun z=>pt z.1) L
def abs {α:Type} (L:List (Int × (Nat × α))):List (Int × α):=mapV (fun z=>z.2) L
structure FldIn (x:Fld) where
  gc:Nat
  gn:Nat
  gw:Nat
  tv:Value
  lv:Value
  hA:Hp
  N:List (Int × (Nat × Net))
  W:List (Int × (Nat × List Int))
  hN:x.nets = abs N
  hW:x.ways = abs W
  aN:∀ e ∈ N,NetAt hA e.2
  aW:∀ e ∈ W,WayAt hA e.2
  rt:R hA x.g.tiles [tv]
  rl:R hA x.l [lv]
def Fld_ch (g:Nat) (x:Fld):Ch:=exch fun q:FldIn x=>stars (blk g [.pointer (some ⟨q.gc,0,none⟩),.int .i64 x.made,.bool x.has,.int .i64 x.g.w,.int .i64 x.g.h,q.tv,q.lv,.map (some q.gn),.map (some q.gw),.int .i64 x.count] 147 :: [Cach_ch q.gc x.c,mapL q.gn (raw q.N),mapL q.gw (raw q.W),fz q.hA])
theorem Fld_shut {w0 w:World} {G:List Ch} {g:Nat} {x:Fld} (q:FldIn x) (h:Sat w0 (G ++ [blk g [.pointer (some ⟨q.gc,0,none⟩),.int .i64 x.made,.bool x.has,.int .i64 x.g.w,.int .i64 x.g.h,q.tv,q.lv,.map (some q.gn),.map (some q.gw),.int .i64 x.count] 147,Cach_ch q.gc x.c,mapL q.gn (raw q.N),mapL q.gw (raw q.W),fz q.hA]) w):Sat w0 (Fld_ch g x :: G) w :=
 Sat.toEx (C:=fun q:FldIn x=>stars (blk g [.pointer (some ⟨q.gc,0,none⟩),.int .i64 x.made,.bool x.has,.int .i64 x.g.w,.int .i64 x.g.h,q.tv,q.lv,.map (some q.gn),.map (some q.gw),.int .i64 x.count] 147 :: [Cach_ch q.gc x.c,mapL q.gn (raw q.N),mapL q.gw (raw q.W),fz q.hA])) q (Sat.toStars (blk g [.pointer (some ⟨q.gc,0,none⟩),.int .i64 x.made,.bool x.has,.int .i64 x.g.w,.int .i64 x.g.h,q.tv,q.lv,.map (some q.gn),.map (some q.gw),.int .i64 x.count] 147 :: [Cach_ch q.gc x.c,mapL q.gn (raw q.N),mapL q.gw (raw q.W),fz q.hA]) (G:=G) h)
def fields_New (room:Int):Option (Option Fld × Int):=Option.bind (cache_New room) fun y=>match y with
  | (some c,_)=>Option.bind (cache_Cache_Clear c) fun c=>some (some ⟨c,0,false,⟨0,0,[]⟩,[],[],[],0⟩,0)
  | (none,e)=>some (none,e)
end Go.Proofs.YtmngdgclldkcfaaGreat
set_option linter.unusedVariables false
set_option linter.unusedSimpArgs false
set_option maxRecDepth 20000
set_option maxHeartbeats 4000000
namespace Go.Proofs.YtmngdgclldkcfaaGreat
open Go.Vg
open Enc (R)
theorem ent110:Ent Tryz.prog 110:=en Tryz.func110
theorem ent67:Ent Tryz.prog 67:=en Tryz.func67
theorem ent68:Ent Tryz.prog 68:=en Tryz.func68
instance fd147_0:FdC Tryz.prog 147 0 0:={}
instance fd147_2:FdC Tryz.prog 147 2 2:={}
instance fd147_5:FdC Tryz.prog 147 5 7:={}
instance fd147_6:FdC Tryz.prog 147 6 8:={}
theorem st147:stTy Tryz.prog 147 = some ([.pointer none,.int .i64 0,.bool false,.int .i64 0,.int .i64 0,.slice none 0 0,.slice none 0 0,.map none,.map none,.int .i64 0],[(0,1),(1,1),(2,1),(3,3),(6,1),(7,1),(8,1),(9,1)]):=by kernel_rfl
instance ty136:TyC Tryz.prog 136 (1,false):={}
instance ty144:TyC Tryz.prog 144 (1,false):={}
instance ty145:TyC Tryz.prog 145 (1,false):={}
theorem callFr {w0:World} {P:Program} {f:FuncId} {vs:Array Value} {A B:List Ch} {ι:Type} {val:ι→Value} {A':ι→List Ch} (hc:∀ w,Sat w0 (A ++ [stars B]) w→Calls P f vs w fun e w'=>∃ i,e = .returned (val i)∧Sat w0 (A' i ++ [stars B]) w') {w:World} (s:Sat w0 (A ++ B) w) :
  Calls P f vs w fun e w'=>∃ i,e = .returned (val i)∧Sat w0 (A' i ++ B) w' :=
 (hc w (Sat.toStars B (G:=A) s).rot).mono fun e w' ⟨i,h1,h2⟩=>⟨i,h1,Sat.unstars B h2.rotB⟩
theorem fields_Forget_walk {w0:World} {F:Ch} (gF gc:Nat) (c:Cach) {c':Cach} (H:cache_Cache_Clear c = some c') {m h W Hh tv lv mv nv k:Value} (w:World) (s:Sat w0 [blk gF [.pointer (some ⟨gc,0,none⟩),m,h,W,Hh,tv,lv,mv,nv,k] 147,Cach_ch gc c,F] w):Calls Tryz.prog 68 #[.pointer (some ⟨gF,0,none⟩)] w fun e w'=>∃ q:Nat × Nat,e = .returned (.tuple #[])∧Sat w0 ([blk gF [.pointer (some ⟨gc,0,none⟩),m,.bool false,W,Hh,tv,lv,.map (some q.1),.map (some q.2),k] 147,Cach_ch gc c',mapL q.1 [],mapL q.2 []] ++ [F]) w':=by
 refine te Tryz.func68 s ?_
 refine T.seq fun _ k1=>T.region (au 4 ?_)
 refine RS.solid (Sd.callF0 1 ent110 rfl rfl (fun w s=>cache_Cache_Clear_walk gc c H w s)) rfl rfl fun _=>RS.nil (k1 _ _ (kq [0] ?_))
 refine T.region (au 3 ?_)
 refine RS.solid Sd.makeMapL rfl rfl fun gn=>?_
 refine RS.solid Sd.makeMapL rfl rfl fun gw=>?_
 refine au 9 ?_
 refine RS.nil (Cont.end0 rfl fun w' s=>?_)
 exact ⟨(gn,gw),rfl,s.pc [0,1,3,4,2]⟩
theorem fields_New_no (room:Int) (H:cache_New room = some (none,1)) (w:World):Calls Tryz.prog 36 #[.int .i64 room] w fun e w'=>e = .returned (.tuple #[.pointer none,.int .i64 1])∧Ext w w':=by
 refine te Tryz.func36 (Sat.start w) ?_
 refine au 3 ?_
 refine T.seq fun _ k2=>T.region (rM rfl (RS.solid (Sd.callN ent67 rfl (fun w s=>cache_New_walk room w H)) rfl rfl fun gc=>au 5 ?_))
 refine RS.nil (k2 _ _ (kq [4,5] ?_))
 refine T.seq fun _ k3=>au 3 ?_
 refine T.condP rfl (fun hc13=>?_) (fun hc13=>?_)
 ·refine kq [5] ?_
  refine au 4 ?_
  refine T.retTo (by with_reducible ((repeat (first | apply RetTo.seq | apply RetTo.blk)); exact RetTo.refl _)) (Cont.ret2 rfl rfl rfl fun w' s=>?_)
  exact ⟨rfl,s.ext⟩
 exact absurd (by decide) hc13 -- end
theorem fields_New_ok (room:Int) {c c':Cach} (H:cache_New room = some (some c,0)) (H2:cache_Cache_Clear c = some c') (w:World):Calls Tryz.prog 36 #[.int .i64 room] w fun e w'=>∃ g:Nat,e = .returned (.tuple #[.pointer (some ⟨g,0,none⟩),.int .i64 0])∧Sat w [Fld_ch g ⟨c',0,false,⟨0,0,[]⟩,[],[],[],0⟩] w':=by
 refine te Tryz.func36 (Sat.start w) ?_
 refine au 3 ?_
 refine T.seq fun _ k2=>T.region (rM rfl (RS.solid (Sd.callN ent67 rfl (fun w s=>cache_New_walk room w H)) rfl rfl fun gc=>au 5 ?_))
 refine RS.nil (k2 _ _ (kq [4,5] ?_))
 refine T.seq fun _ k3=>au 3 ?_
 refine T.condP rfl (fun hc13=>?_) (fun hc13=>?_)
 ·exact absurd rfl hc13 -- end
 refine T.skip (k3 _ _ (kq [4] ?_))
 refine T.seq fun _ k5=>?_
 refine T.weakS (fun w s=>s.optSome 0 rfl) ?_
 refine T.region (rM rfl (rp (Pu.build (cells:=[_,_,_,_,_,_,_,_,_,_]) st147 rfl rfl) (RS.solid (Sd.box (cs:=[_,_,_,_,_,_,_,_,_,_]) rfl rfl) rfl rfl fun b17=>rA rfl (RS.nil (k5 _ _ (kq [6] ?_))))))
 refine T.seq fun _ k6=>T.region (rM rfl (RS.solid (Sd.call ent68 rfl (fun w s=>callFr (A:=[_,_]) (B:=[]) (fun w s=>fields_Forget_walk b17 gc c H2 w s) (s.pc [1,0]))) rfl rfl fun q=>RS.nil (k6 _ _ ?_)))
 refine T.seq fun _ k7=>T.region (au 3 ?_)
 refine RS.nil (k7 _ _ (kq [2,3] ?_))
 refine T.retTo (by with_reducible ((repeat (first | apply RetTo.seq | apply RetTo.blk)); exact RetTo.refl _)) (Cont.ret2 rfl rfl rfl fun w' s=>?_)
 obtain ⟨hA,_,s⟩:=s.newArena
 exact ⟨b17,rfl,Fld_shut (x:=⟨c',0,false,⟨0,0,[]⟩,[],[],[],0⟩) ⟨gc,q.1,q.2,.slice none 0 0,.slice none 0 0,hA,[],[],rfl,rfl,by simp,by simp,⟨none,0,rfl,by simp,by simp,.inl rfl⟩,⟨none,0,rfl,by simp,by simp,.inl rfl⟩⟩ (s.pc [0,1,2,3,4])⟩
theorem fields_New_walk (room:Int) (w:World) {r:Option Fld × Int} (H:fields_New room = some r):Calls Tryz.prog 36 #[.int .i64 room] w fun e w'=>∃ g:Nat,e = .returned (.tuple #[.pointer (optA g r.1),.int .i64 r.2])∧Sat w [optCh Fld_ch g r.1] w':=by
 unfold fields_New at H
 obtain ⟨y,hy,H⟩:=bindE H
 have h2:y = (none,1) ∨ ∃ c,y = (some c,0):=by
  unfold cache_New at hy
  split at hy
  ·exact .inl (Option.some.inj hy).symm
  exact .inr ⟨_,(Option.some.inj hy).symm⟩
 rcases h2 with rfl | ⟨c,rfl⟩
 ·obtain rfl:=sj H
  exact (fields_New_no room hy w).mono fun e w' ⟨he,hx⟩=>⟨0,he,((Sat.start w).grow hx).addEmpty dead fun _=>trivial⟩
 obtain ⟨c',hc,H⟩:=bindE H
 obtain rfl:=sj H
 exact fields_New_ok room hy hc w
end Go.Proofs.YtmngdgclldkcfaaGreat
