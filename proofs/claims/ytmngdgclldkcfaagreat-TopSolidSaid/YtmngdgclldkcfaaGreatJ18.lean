/-
  Texts of one's own, joined: YB YC OC.
-/
import Derived.Test.YtmngdgclldkcfaaGreatRows
import Derived.Test.YtmngdgclldkcfaaGreatJ6
import Derived.Test.YtmngdgclldkcfaaGreatJ7
import Derived.Test.YtmngdgclldkcfaaGreatJ16
import Derived.Test.YtmngdgclldkcfaaGreatJ17
import Derived.Test.YtmngdgclldkcfaaGreatJ14
import Derived.Tactics
import Derived.Tactics2
import Derived.Defers
import Derived.Laws.Pointers
import Derived.Laws.LoneSync
import Derived.RegionTactic
import Derived.RegionCalls
import Derived.ChangeAlike
set_option linter.unusedVariables false
set_option linter.unusedSimpArgs false
set_option maxRecDepth 20000
set_option maxHeartbeats 4000000
namespace Go.Proofs.YtmngdgclldkcfaaGreat
open Go.Vg
open Enc (R)
theorem ent286:Ent Tryz.prog 286:=en Tryz.func286
theorem ent287:Ent Tryz.prog 287:=en Tryz.func287
theorem ent311:Ent Tryz.prog 311:=en Tryz.func311
theorem ent320:Ent Tryz.prog 320:=en Tryz.func320
theorem Pu.strIx {P:Program} {n:Nat} {fr:Fr} {dst:Option Tmp} {ty:TypeId} {pos:String} {aft:Array Edge} {g:Option (Nat × Bool)} {t:TypeId} {s:ByteArray} {y:Operand} {i:Int} {v:Nat} (ht:P.underlying t = some .string) (hy:ev fr y = some (.int .u8 i)) (hi:0 ≤ i) (hb:(s[i.toNat]?).map UInt8.toNat = some v):Pu P n ⟨dst,.index t (.const (.string s)) y,ty,pos,aft,g⟩ fr (.int .u8 v):=fun a kn w=>by
 obtain ⟨b,h1,h2⟩:=Option.map_eq_some_iff.1 hb
 subst h2
 have hs:=kn.ev (show ev fr (.const (.string s)) = some (.string s) from rfl)
 simp [execOp,kn.ev hy,hs,Instr.index,asIntOf,run_underlying ht,Result.andThen,hi,h1]
theorem len64_0 (w:World):Calls Tryz.prog 320 #[.int .u64 0] w fun e w'=>e = .returned (.int .i64 0)∧Ext w w':=by
 refine te Tryz.func320 (Sat.start w) ?_
 refine au 2 ?_
 refine T.seq fun _ k2=>au 3 ?_
 refine T.condP rfl (fun hc4=>?_) (fun hc4=>?_)
 ·exact absurd hc4 (by decide) -- end
 refine T.skip (k2 _ _ ?_)
 refine T.seq fun _ k4=>au 3 ?_
 refine T.condP rfl (fun hc8=>?_) (fun hc8=>?_)
 ·exact absurd hc8 (by decide) -- end
 refine T.skip (k4 _ _ (kq [0,2] ?_))
 refine T.seq fun _ k6=>au 3 ?_
 refine T.condP rfl (fun hc14=>?_) (fun hc14=>?_)
 ·exact absurd hc14 (by decide) -- end
 refine T.skip (k6 _ _ ?_)
 refine T.seq fun _ k8=>T.region (au 2 ?_)
 refine rp (Pu.conv us112 ul5 rfl) (rp (Pu.strIx (v:=0) (by kernel_rfl) rfl (by decide) (by kernel_rfl)) (rp (Pu.convS us5 ul3 rfl (by omega)) (rp (Pu.addS rfl rfl (by omega)) (rA rfl (RS.nil (k8 _ _ (kq [2] ?_)))))))
 refine T.retTo (by with_reducible ((repeat (first | apply RetTo.seq | apply RetTo.blk)); exact RetTo.refl _)) (Cont.ret1 rfl rfl fun w' s=>?_)
 exact ⟨rfl,s.ext⟩
theorem len_0 (w:World):Calls Tryz.prog 287 #[.int .u64 0] w fun e w'=>e = .returned (.int .i64 0)∧Ext w w':=by
 refine te Tryz.func287 (Sat.start w) ?_
 refine au 2 ?_
 refine T.seq fun _ k2=>?_
 refine T.condF rfl ?_
 refine T.skip (k2 _ _ ?_)
 refine T.seq fun _ k3=>T.region (rM rfl (rq (Qt.call ent320 rfl fun w s=>len64_0 w) (rA rfl (RS.nil (k3 _ _ (kq [2] ?_))))))
 refine T.retTo (by with_reducible ((repeat (first | apply RetTo.seq | apply RetTo.blk)); exact RetTo.refl _)) (Cont.ret1 rfl rfl fun w' s=>?_)
 exact ⟨rfl,s.ext⟩
theorem ins_0 (v:Value) (w:World):Calls Tryz.prog 311 #[v,.int .i64 0,.int .i64 0] w fun e w'=>e = .returned (.tuple #[])∧Ext w w':=by
 refine te Tryz.func311 (Sat.start w) ?_
 refine T.seq fun _ k1=>T.region (rM rfl (rp (Pu.addS rfl rfl (by omega)) (rA rfl (RS.nil (k1 _ _ ?_)))))
 refine T.block ?_
 refine T.loopC (σ:=Unit) [(0,_),(1,_),(2,_)] (fun _=>[(6,.int .i64 1)]) (fun _=>True) (fun _=>0) () (trivial) sb sb ?_
 intro _ hI K1_ hL1
 refine kq [6,0,1,2] ?_
 refine T.seq fun _ k2=>au 4 ?_
 refine T.condP rfl (fun hc12=>?_) (fun hc12=>?_)
 ·exact absurd hc12 (by decide) -- end
 refine T.exitTo (by with_reducible (repeat (first | exact ExTo.here | exact ExTo.hereN | exact ExTo.deep (by repeat (first | exact NmTo.seq | apply NmTo.blk)) | apply ExTo.seq | refine ExTo.past (by decide) ?_))) (Cont.end0 rfl fun w' s=>?_)
 exact ⟨rfl,s.ext⟩
theorem pdq_0 (v:Value) (n:Int) (w:World):Calls Tryz.prog 286 #[v,.int .i64 0,.int .i64 0,.int .i64 n] w fun e w'=>e = .returned (.tuple #[])∧Ext w w':=by
 refine te Tryz.func286 (Sat.start w) ?_
 refine au 4 ?_
 refine T.block ?_
 refine T.loopC (σ:=Unit) [(0,_)] (fun _=>[(1,.int .i64 0),(2,.int .i64 0),(3,.int .i64 n),(8,.bool true),(9,.bool true)]) (fun _=>True) (fun _=>0) () (trivial) sb sb ?_
 intro _ hI K2_ hL1
 refine kq [1,2,3,8,9,0] ?_
 refine T.block (T.seq fun _ k3=>T.region (au 2 ?_))
 refine rp (Pu.subS rfl rfl (by omega)) (rA rfl (RS.nil (k3 _ _ (kq [0,1,2,3,8,9,10] ?_))))
 refine T.seq fun _ k4=>au 3 ?_
 refine T.condP rfl (fun hc23=>?_) (fun hc23=>?_)
 ·refine kq [0,1,2] ?_
  refine T.seq fun _ k6=>T.region (au 3 ?_)
  refine rq (Qt.call ent311 rfl fun w s=>ins_0 v w) (RS.nil (k6 _ _ (kq [] ?_)))
  refine T.retTo (by with_reducible ((repeat (first | apply RetTo.seq | apply RetTo.blk)); exact RetTo.refl _)) (Cont.ret0 rfl fun w' s=>?_)
  exact ⟨rfl,s.ext⟩
 exact absurd (by decide) hc23 -- end
theorem sort_0 (p:Option Addr) (c:Nat) (w:World):Calls Tryz.prog 249 #[.slice p 0 c] w fun e w'=>e = .returned (.tuple #[])∧Ext w w':=by
 refine te Tryz.func249 (Sat.start w) ?_
 refine au 4 ?_
 refine T.region (au 3 ?_)
 refine rp (Pu.convU us3 ul80 rfl (by omega)) (rq (Qt.call ent287 rfl fun w s=>len_0 w) (rq (Qt.call ent286 rfl fun w s=>pdq_0 _ 0 w) (RS.nil (Cont.end0 rfl fun w' s=>?_))))
 exact ⟨rfl,s.ext⟩
theorem len64_1 (w:World):Calls Tryz.prog 320 #[.int .u64 1] w fun e w'=>e = .returned (.int .i64 1)∧Ext w w':=by
 refine te Tryz.func320 (Sat.start w) ?_
 refine au 2 ?_
 refine T.seq fun _ k2=>au 3 ?_
 refine T.condP rfl (fun hc4=>?_) (fun hc4=>?_)
 ·exact absurd hc4 (by decide) -- end
 refine T.skip (k2 _ _ ?_)
 refine T.seq fun _ k4=>au 3 ?_
 refine T.condP rfl (fun hc8=>?_) (fun hc8=>?_)
 ·exact absurd hc8 (by decide) -- end
 refine T.skip (k4 _ _ (kq [0,2] ?_))
 refine T.seq fun _ k6=>au 3 ?_
 refine T.condP rfl (fun hc14=>?_) (fun hc14=>?_)
 ·exact absurd hc14 (by decide) -- end
 refine T.skip (k6 _ _ ?_)
 refine T.seq fun _ k8=>T.region (au 2 ?_)
 refine rp (Pu.conv us112 ul5 rfl) (rp (Pu.strIx (v:=1) (by kernel_rfl) rfl (by decide) (by kernel_rfl)) (rp (Pu.convS us5 ul3 rfl (by omega)) (rp (Pu.addS rfl rfl (by omega)) (rA rfl (RS.nil (k8 _ _ (kq [2] ?_)))))))
 refine T.retTo (by with_reducible ((repeat (first | apply RetTo.seq | apply RetTo.blk)); exact RetTo.refl _)) (Cont.ret1 rfl rfl fun w' s=>?_)
 exact ⟨rfl,s.ext⟩
theorem len_1 (w:World):Calls Tryz.prog 287 #[.int .u64 1] w fun e w'=>e = .returned (.int .i64 1)∧Ext w w':=by
 refine te Tryz.func287 (Sat.start w) ?_
 refine au 2 ?_
 refine T.seq fun _ k2=>?_
 refine T.condF rfl ?_
 refine T.skip (k2 _ _ ?_)
 refine T.seq fun _ k3=>T.region (rM rfl (rq (Qt.call ent320 rfl fun w s=>len64_1 w) (rA rfl (RS.nil (k3 _ _ (kq [2] ?_))))))
 refine T.retTo (by with_reducible ((repeat (first | apply RetTo.seq | apply RetTo.blk)); exact RetTo.refl _)) (Cont.ret1 rfl rfl fun w' s=>?_)
 exact ⟨rfl,s.ext⟩
theorem ins_1 (v:Value) (w:World):Calls Tryz.prog 311 #[v,.int .i64 0,.int .i64 1] w fun e w'=>e = .returned (.tuple #[])∧Ext w w':=by
 refine te Tryz.func311 (Sat.start w) ?_
 refine T.seq fun _ k1=>T.region (rM rfl (rp (Pu.addS rfl rfl (by omega)) (rA rfl (RS.nil (k1 _ _ ?_)))))
 refine T.block ?_
 refine T.loopC (σ:=Unit) [(0,_),(1,_),(2,_)] (fun _=>[(6,.int .i64 1)]) (fun _=>True) (fun _=>0) () (trivial) sb sb ?_
 intro _ hI K1_ hL1
 refine kq [6,0,1,2] ?_
 refine T.seq fun _ k2=>au 4 ?_
 refine T.condP rfl (fun hc12=>?_) (fun hc12=>?_)
 ·exact absurd hc12 (by decide) -- end
 refine T.exitTo (by with_reducible (repeat (first | exact ExTo.here | exact ExTo.hereN | exact ExTo.deep (by repeat (first | exact NmTo.seq | apply NmTo.blk)) | apply ExTo.seq | refine ExTo.past (by decide) ?_))) (Cont.end0 rfl fun w' s=>?_)
 exact ⟨rfl,s.ext⟩
theorem pdq_1 (v:Value) (n:Int) (w:World):Calls Tryz.prog 286 #[v,.int .i64 0,.int .i64 1,.int .i64 n] w fun e w'=>e = .returned (.tuple #[])∧Ext w w':=by
 refine te Tryz.func286 (Sat.start w) ?_
 refine au 4 ?_
 refine T.block ?_
 refine T.loopC (σ:=Unit) [(0,_)] (fun _=>[(1,.int .i64 0),(2,.int .i64 1),(3,.int .i64 n),(8,.bool true),(9,.bool true)]) (fun _=>True) (fun _=>0) () (trivial) sb sb ?_
 intro _ hI K2_ hL1
 refine kq [1,2,3,8,9,0] ?_
 refine T.block (T.seq fun _ k3=>T.region (au 2 ?_))
 refine rp (Pu.subS rfl rfl (by omega)) (rA rfl (RS.nil (k3 _ _ (kq [0,1,2,3,8,9,10] ?_))))
 refine T.seq fun _ k4=>au 3 ?_
 refine T.condP rfl (fun hc23=>?_) (fun hc23=>?_)
 ·refine kq [0,1,2] ?_
  refine T.seq fun _ k6=>T.region (au 3 ?_)
  refine rq (Qt.call ent311 rfl fun w s=>ins_1 v w) (RS.nil (k6 _ _ (kq [] ?_)))
  refine T.retTo (by with_reducible ((repeat (first | apply RetTo.seq | apply RetTo.blk)); exact RetTo.refl _)) (Cont.ret0 rfl fun w' s=>?_)
  exact ⟨rfl,s.ext⟩
 exact absurd (by decide) hc23 -- end
theorem sort_1 (p:Option Addr) (c:Nat) (w:World):Calls Tryz.prog 249 #[.slice p 1 c] w fun e w'=>e = .returned (.tuple #[])∧Ext w w':=by
 refine te Tryz.func249 (Sat.start w) ?_
 refine au 4 ?_
 refine T.region (au 3 ?_)
 refine rp (Pu.convU us3 ul80 rfl (by omega)) (rq (Qt.call ent287 rfl fun w s=>len_1 w) (rq (Qt.call ent286 rfl fun w s=>pdq_1 _ 1 w) (RS.nil (Cont.end0 rfl fun w' s=>?_))))
 exact ⟨rfl,s.ext⟩
end Go.Proofs.YtmngdgclldkcfaaGreat
set_option linter.unusedVariables false
set_option linter.unusedSimpArgs false
set_option maxRecDepth 20000
set_option maxHeartbeats 4000000
namespace Go.Proofs.YtmngdgclldkcfaaGreat
open Go.Vg
open Enc (R)
instance ty162:TyC Tryz.prog 162 (1,false):={}
theorem near1_no {w0:World} {F:Ch} (bp bc br bl g qa qi:Nat) (id r:Int) (p z:Vec) {es:Array MapEntry} {ck:Nat} (hq:EsOk [(.int .i64 id,.agg #[.int .i64 z.x,.int .i64 z.y])] (es,ck)) (hd:vec_Within p z r = some false) (w:World) (s:Sat w0 [blk bp [.int .i64 p.x,.int .i64 p.y] 33,blk bc [.pointer (some ⟨g,0,none⟩)] 162,blk br [.int .i64 r] 2,blk bl [.slice none 0 0] 35,blk g [.map (some qa),.map (some qi)] 264,mapX qa es ck,F] w):Calls Tryz.prog 246 #[.int .i64 id,.pointer (some ⟨bp,0,none⟩),.pointer (some ⟨bc,0,none⟩),.pointer (some ⟨br,0,none⟩),.pointer (some ⟨bl,0,none⟩)] w fun e w'=>e = .returned (.tuple #[])∧Sat w0 [blk bp [.int .i64 p.x,.int .i64 p.y] 33,blk bc [.pointer (some ⟨g,0,none⟩)] 162,blk br [.int .i64 r] 2,blk bl [.slice none 0 0] 35,blk g [.map (some qa),.map (some qi)] 264,mapX qa es ck,F] w':=by
 refine te Tryz.func246 s ?_
 refine T.seq fun _ k1=>dr mixed [1,1,0,0,1,0,1,1,1] ?_
 refine au 6 ?_
 refine dq rfl (Qt.oneX 5 hq mpA kyI rfl rfl rfl ⟨_,rfl⟩) (dq rfl (Qt.ldB 2 ty2.h rfl rfl rfl) (dq rfl (Qt.call ent179 rfl fun w s=>vec_Within_walk p z r w hd) (RD.nil (k1 _ _ ?_))))
 refine T.cond rfl (fun hc14=>?_) (fun hc14=>?_)
 ·cases hc14 -- end
 refine T.skip (Cont.end0 rfl fun w' s=>?_)
 exact ⟨rfl,s⟩
theorem near1_yes {w0:World} {F:Ch} (bp bc br bl g qa qi:Nat) (id r:Int) (p z:Vec) {es:Array MapEntry} {ck:Nat} (hq:EsOk [(.int .i64 id,.agg #[.int .i64 z.x,.int .i64 z.y])] (es,ck)) (hd:vec_Within p z r = some true) (w:World) (s:Sat w0 [blk bp [.int .i64 p.x,.int .i64 p.y] 33,blk bc [.pointer (some ⟨g,0,none⟩)] 162,blk br [.int .i64 r] 2,blk bl [.slice none 0 0] 35,blk g [.map (some qa),.map (some qi)] 264,mapX qa es ck,F] w):Calls Tryz.prog 246 #[.int .i64 id,.pointer (some ⟨bp,0,none⟩),.pointer (some ⟨bc,0,none⟩),.pointer (some ⟨br,0,none⟩),.pointer (some ⟨bl,0,none⟩)] w fun e w'=>∃ q:Option Nat × Nat,e = .returned (.tuple #[])∧Sat w0 [blk bp [.int .i64 p.x,.int .i64 p.y] 33,blk bc [.pointer (some ⟨g,0,none⟩)] 162,blk br [.int .i64 r] 2,blk bl [rowV q 1] 35,blk g [.map (some qa),.map (some qi)] 264,mapX qa es ck,F,row nilH 3 (rowV q 1) [id]] w':=by
 refine te Tryz.func246 s ?_
 refine T.seq fun _ k1=>dr mixed [1,1,0,0,1,0,1,1,1] ?_
 refine au 6 ?_
 refine dq rfl (Qt.oneX 5 hq mpA kyI rfl rfl rfl ⟨_,rfl⟩) (dq rfl (Qt.ldB 2 ty2.h rfl rfl rfl) (dq rfl (Qt.call ent179 rfl fun w s=>vec_Within_walk p z r w hd) (RD.nil (k1 _ _ ?_))))
 refine T.cond rfl (fun hc14=>?_) (fun hc14=>?_)
 ·refine kq [0,4] ?_
  refine T.weakS (S':=Sat w0 [blk bp [.int .i64 p.x,.int .i64 p.y] 33,blk bc [.pointer (some ⟨g,0,none⟩)] 162,blk br [.int .i64 r] 2,blk bl [.slice none 0 0] 35,blk g [.map (some qa),.map (some qi)] 264,mapX qa es ck,F,row nilH 3 (rowV (none,0) 0) ([]:List Int)]) (fun w s=>s.nilRow (α:=Int) 3) ?_
  refine T.region (au 2 ?_)
  refine RS.solid (Sd.litS (cs:=[_]) sl35.h zr3 rfl rfl rfl rfl rfl) rfl rfl fun b17=>RS.solid (Sd.app1c (α:=Int) 7 8 id rfl rfl (nilH_lt _) sl35.h zr3 rfl rfl rfl rfl (by decide) (by decide)) rfl rfl fun q=>RS.solid (Sd.stB (cs':=[_]) 3 ty35.h rfl rfl rfl rfl rfl rfl rfl rfl) rfl rfl fun _=>RS.nil (Cont.end0 rfl fun w' s=>?_)
  exact ⟨q,rfl,s.pc [0,1,2,3,4,5,6,7]⟩
 cases hc14 -- end
def nl (d:Bool) (id:Int):List Int:=if d = true then [id] else []
theorem near1_walk {w0:World} {F:Ch} (bp bc br bl g qa qi:Nat) (id r:Int) (p z:Vec) {es:Array MapEntry} {ck:Nat} (hq:EsOk [(.int .i64 id,.agg #[.int .i64 z.x,.int .i64 z.y])] (es,ck)) {d:Bool} (hd:vec_Within p z r = some d) (w:World) (s:Sat w0 [blk bp [.int .i64 p.x,.int .i64 p.y] 33,blk bc [.pointer (some ⟨g,0,none⟩)] 162,blk br [.int .i64 r] 2,blk bl [.slice none 0 0] 35,blk g [.map (some qa),.map (some qi)] 264,mapX qa es ck,F] w):Calls Tryz.prog 246 #[.int .i64 id,.pointer (some ⟨bp,0,none⟩),.pointer (some ⟨bc,0,none⟩),.pointer (some ⟨br,0,none⟩),.pointer (some ⟨bl,0,none⟩)] w fun e w'=>∃ q:Option Nat × Nat,e = .returned (.tuple #[])∧Sat w0 ([blk bp [.int .i64 p.x,.int .i64 p.y] 33,blk bc [.pointer (some ⟨g,0,none⟩)] 162,blk br [.int .i64 r] 2,blk bl [rowV q (nl d id).length] 35,blk g [.map (some qa),.map (some qi)] 264,mapX qa es ck,row nilH 3 (rowV q (nl d id).length) (nl d id)] ++ [F]) w':=by
 cases d with
 | false=>exact (near1_no bp bc br bl g qa qi id r p z hq hd w s).mono fun e w' ⟨he,s⟩=>⟨(none,0),he,(s.nilRow (α:=Int) 3).pick [0,1,2,3,4,5,7,6] (by decide) rfl⟩
 | true=>exact (near1_yes bp bc br bl g qa qi id r p z hq hd w s).mono fun e w' ⟨q,he,s⟩=>⟨q,he,s.pc [0,1,2,3,4,5,7,6]⟩
end Go.Proofs.YtmngdgclldkcfaaGreat
set_option linter.unusedVariables false
set_option linter.unusedSimpArgs false
set_option maxRecDepth 20000
set_option maxHeartbeats 4000000
namespace Go.Proofs.YtmngdgclldkcfaaGreat
open Go.Vg
open Enc (R)
theorem disable (w:World):(callFunc 296 #[]).run Tryz.prog w = .ok (.value (.tuple #[])) w:=run_call_mark0 Tryz.func296 (by kernel_rfl) (by kernel_rfl) (by kernel_rfl) .disable (by kernel_rfl) w
theorem enable (w:World):(callFunc 298 #[]).run Tryz.prog w = .ok (.value (.tuple #[])) w:=run_call_mark0 Tryz.func298 (by kernel_rfl) (by kernel_rfl) (by kernel_rfl) .enable (by kernel_rfl) w
theorem acquire (a:Addr) (w:World):(callFunc 299 #[.pointer (some a)]).run Tryz.prog w = .ok (.value (.tuple #[])) w:=run_call_marked Tryz.func299 (by kernel_rfl) (by kernel_rfl) (by kernel_rfl) .acquire (by kernel_rfl) a w
theorem releaseMerge (a:Addr) (w:World):(callFunc 301 #[.pointer (some a)]).run Tryz.prog w = .ok (.value (.tuple #[])) w:=run_call_marked Tryz.func301 (by kernel_rfl) (by kernel_rfl) (by kernel_rfl) .releaseMerge (by kernel_rfl) a w
theorem store_deferred (a:Addr) (x:Value) (u:FrameMode) (w:World) (hc:w.cell? a = some x) (hz:w.frozen? a = false) :
  CallsD Tryz.prog 205 #[.pointer (some a),.bool true] u w fun e u' w'=>u' = u∧(e = .returned (.tuple #[])∧w' = w.drew.setCell a (.int .u32 1)):=by
 have hc':w.drew.cell? a = some x:=by go_simp
 have hz':w.drew.frozen? a = false:=by go_simp
 have hst:=run_call_store (P:=Tryz.prog) Tryz.func264 (by kernel_rfl) (by kernel_rfl) (by kernel_rfl) (by kernel_rfl) (k:=.u32) (y:=1) hc' hz'
 go_enter_d Tryz.func205,Tryz.ntmps205
 go_wp2
 go_region_calls
 all_goals (go_end0; exact ⟨rfl,rfl⟩)
theorem unlock_deferred (a:Addr) (u:FrameMode) (w:World) (hc:w.cell? a = some (.int .i32 1)) (hz:w.frozen? a = false) :
  CallsD Tryz.prog 204 #[.pointer (some a)] u w fun e u' w'=>u' = u∧(e = .returned (.tuple #[])∧w' = w.setCell a (.int .i32 0)):=by
 have hd:=disable
 have he:=enable
 have hr:=releaseMerge
 have hadd:=run_call_add (P:=Tryz.prog) Tryz.func302 (by kernel_rfl) (by kernel_rfl) (by kernel_rfl) .i32 (by kernel_rfl) (y:=-1) (s:=0) hc hz (by simp [go_sem]; rfl)
 have hcv:=run_convert_to_unsafe (P:=Tryz.prog) (src:=370) (dst:=374) Tryz.underlying370 Tryz.underlying374 (by kernel_rfl) hc
 go_enter_d Tryz.func204,Tryz.ntmps204
 go_wp2
 go_end0
 go_wp2
 go_end0
 exact ⟨rfl,rfl⟩
theorem lock_free (a:Addr) (w:World) (hc:w.cell? a = some (.int .i32 0)) (hz:w.frozen? a = false) :
  Calls Tryz.prog 203 #[.pointer (some a)] w fun e w'=>e = .returned (.tuple #[])∧w' = w.setCell a (.int .i32 1):=by
 have hd:=disable
 have he:=enable
 have ha:=acquire
 have hcas:=run_call_cas_hit (P:=Tryz.prog) Tryz.func297 (by kernel_rfl) (by kernel_rfl) (by kernel_rfl) .i32 (by kernel_rfl) (y:=1) hc hz
 have hc':(w.setCell a (.int .i32 1)).cell? a = some (.int .i32 1):=World.cell?_setCell_same w a _ hc
 have hcv:=run_convert_to_unsafe (P:=Tryz.prog) (src:=370) (dst:=374) Tryz.underlying370 Tryz.underlying374 (by kernel_rfl) hc'
 go_enter Tryz.func203,Tryz.ntmps203
 go_wp2
 first | go_end0 | (simp only [Exit.inBlock,Exit.then]; refine bodyPost_ret (results_none rfl _ _ _) rfl ?_) | refine bodyPost_ret (results_none rfl _ _ _) rfl ?_
 go_wp2
 go_end0
 exact ⟨rfl,rfl⟩
theorem load_zero (a:Addr) (w:World) (hc:w.cell? a = some (.int .u32 0)) :
  Calls Tryz.prog 134 #[.pointer (some a)] w fun e w'=>e = .returned (.bool false)∧w' = w:=by
 have hl:=run_call_load (P:=Tryz.prog) Tryz.func202 (by kernel_rfl) (by kernel_rfl) (by kernel_rfl) .u32 (by kernel_rfl) hc
 go_enter Tryz.func134,Tryz.ntmps134
 go_wp2
 go_ret
 exact ⟨rfl,rfl⟩
theorem do_done (a:Addr) (fv:Value) (w:World) (h0:w.cell? a = some (.int .u32 1)) :
  Calls Tryz.prog 79 #[.pointer (some a),fv] w fun e w'=>e = .returned (.tuple #[])∧w' = w:=by
 have hl:=run_call_load (P:=Tryz.prog) Tryz.func202 (by kernel_rfl) (by kernel_rfl) (by kernel_rfl) .u32 (by kernel_rfl) h0
 have hnot:∀ (x:Bool) (w:World),(Op.unary .not (.bool x)).run Tryz.prog w = .ok (.bool (!x)) w:=fun _ _=>rfl
 go_enter Tryz.func79,Tryz.ntmps79
 go_wp2
 go_end0
 exact ⟨rfl,rfl⟩
set_option maxRecDepth 100000 in
theorem slow_80 (b off:Nat) (p0 p1 p2 p3:Addr) (w:World) (Q:World→Prop)
  (h0:w.cell? ⟨b,off,none⟩ = some (.int .u32 0)) (h1:w.cell? ⟨b,off + 1,none⟩ = some (.int .i32 0))
  (f0:w.frozen? ⟨b,off,none⟩ = false) (f1:w.frozen? ⟨b,off + 1,none⟩ = false)
  (hf:Calls Tryz.prog 80 #[.pointer (some p0),.pointer (some p1),.pointer (some p2),.pointer (some p3)] (w.setCell ⟨b,off + 1,none⟩ (.int .i32 1)) fun e w2=>e = .returned (.tuple #[])∧w2.cell? ⟨b,off,none⟩ = some (.int .u32 0)∧w2.cell? ⟨b,off + 1,none⟩ = some (.int .i32 1)∧w2.frozen? ⟨b,off,none⟩ = false∧w2.frozen? ⟨b,off + 1,none⟩ = false∧Q w2) :
  Calls Tryz.prog 135 #[.pointer (some ⟨b,off,none⟩),.func (.func 80) #[] #[.pointer (some p0),.pointer (some p1),.pointer (some p2),.pointer (some p3)]] w fun e w'=>e = .returned (.tuple #[]) ∧
   ∃ w2,Q w2∧w' = (w2.drew.setCell ⟨b,off,none⟩ (.int .u32 1)).setCell ⟨b,off + 1,none⟩ (.int .i32 0):=by
 have hl:=run_call_load (P:=Tryz.prog) Tryz.func202 (by kernel_rfl) (by kernel_rfl) (by kernel_rfl) .u32 (by kernel_rfl) (w:=w.setCell ⟨b,off + 1,none⟩ (.int .i32 1)) (a:=⟨b,off,none⟩) (x:=0) ((World.cell?_setCell_other _ ⟨b,off + 1,none⟩ ⟨b,off,none⟩ _ (by simp)).trans h0)
 have hnot:∀ (x:Bool) (w:World),(Op.unary .not (.bool x)).run Tryz.prog w = .ok (.bool (!x)) w:=fun _ _=>rfl
 go_enter_defers Tryz.func135,Tryz.ntmps135
 go_wp2_with (first | (go_at_call 203; refine (lock_free ⟨b,off + 1,none⟩ _ (by go_simp) (by go_simp)).mono ?_; rintro e w' ⟨rfl,rfl⟩) | (go_at_call 134; refine (load_zero ⟨b,off,none⟩ _ ((World.cell?_setCell_other _ ⟨b,off + 1,none⟩ ⟨b,off,none⟩ _ (by simp)).trans h0)).mono ?_; rintro e w' ⟨rfl,rfl⟩) | (go_at_call 80; refine hf.mono ?_; rintro e w2 ⟨rfl,c0,c1,z0,z1,hq⟩))
 go_wp2
 refine leaves_cons (f:=205) (args:=#[.pointer (some ⟨b,off,none⟩),.bool true]) (by simp) (by simp [go_sem]) ?_
 refine (store_deferred ⟨b,off,none⟩ (.int .u32 0) .returning _ c0 z0).mono ?_
 rintro e u' w'' ⟨rfl,rfl,rfl⟩
 refine leaves_cons (f:=204) (args:=#[.pointer (some ⟨b,off + 1,none⟩)]) (by simp [settle]) (by simp [go_sem]) ?_
 refine (unlock_deferred ⟨b,off + 1,none⟩ _ _ ?_ (by simp [z1])).mono ?_
 ·refine (World.cell?_setCell_other _ ⟨b,off,none⟩ ⟨b,off + 1,none⟩ _ (by simp)).trans ?_
  rw [World.cell?_drew]
  exact c1
 rintro e u' w''' ⟨rfl,rfl,rfl⟩
 simp [Leaves,settle,results,Tryz.results135]
 exact ⟨_,hq,rfl⟩
theorem do_80 (b off:Nat) (p0 p1 p2 p3:Addr) (w:World) (Q:World→Prop)
  (h0:w.cell? ⟨b,off,none⟩ = some (.int .u32 0)) (h1:w.cell? ⟨b,off + 1,none⟩ = some (.int .i32 0))
  (f0:w.frozen? ⟨b,off,none⟩ = false) (f1:w.frozen? ⟨b,off + 1,none⟩ = false)
  (hf:Calls Tryz.prog 80 #[.pointer (some p0),.pointer (some p1),.pointer (some p2),.pointer (some p3)] (w.setCell ⟨b,off + 1,none⟩ (.int .i32 1)) fun e w2=>e = .returned (.tuple #[])∧w2.cell? ⟨b,off,none⟩ = some (.int .u32 0)∧w2.cell? ⟨b,off + 1,none⟩ = some (.int .i32 1)∧w2.frozen? ⟨b,off,none⟩ = false∧w2.frozen? ⟨b,off + 1,none⟩ = false∧Q w2) :
  Calls Tryz.prog 79 #[.pointer (some ⟨b,off,none⟩),.func (.func 80) #[] #[.pointer (some p0),.pointer (some p1),.pointer (some p2),.pointer (some p3)]] w fun e w'=>e = .returned (.tuple #[]) ∧
   ∃ w2,Q w2∧w' = (w2.drew.setCell ⟨b,off,none⟩ (.int .u32 1)).setCell ⟨b,off + 1,none⟩ (.int .i32 0):=by
 have hnot:∀ (x:Bool) (w:World),(Op.unary .not (.bool x)).run Tryz.prog w = .ok (.bool (!x)) w:=fun _ _=>rfl
 go_enter Tryz.func79,Tryz.ntmps79
 go_wp2_with (first | (go_at_call 134; refine (load_zero ⟨b,off,none⟩ _ h0).mono ?_; rintro e w' ⟨rfl,rfl⟩) | (go_at_call 135; refine (slow_80 b off p0 p1 p2 p3 _ Q h0 h1 f0 f1 hf).mono ?_; rintro e w' ⟨rfl,w2,hq,rfl⟩))
 go_end0
 exact ⟨rfl,_,hq,rfl⟩
theorem once_80 {w0 w:World} {G:List Ch} {κ:Type} {b e k:Nat} {cs:List Value} (p0 p1 p2 p3:Addr) (s:Sat w0 G w) (hk:G[k]? = some (blk b (.int .u32 0 :: .int .i32 0 :: cs) e)) (G':κ→List Ch) (cs':κ→List Value)
  (hk':∀ x,(G' x)[k]? = some (blk b (.int .u32 0 :: .int .i32 1 :: cs' x) e))
  (hf:∀ w1,Sat w0 (G.set k (blk b (.int .u32 0 :: .int .i32 1 :: cs) e)) w1→Calls Tryz.prog 80 #[.pointer (some p0),.pointer (some p1),.pointer (some p2),.pointer (some p3)] w1 fun e w2=>e = .returned (.tuple #[])∧∃ x,Sat w0 (G' x) w2) :
  Calls Tryz.prog 79 #[.pointer (some ⟨b,0,none⟩),.func (.func 80) #[] #[.pointer (some p0),.pointer (some p1),.pointer (some p2),.pointer (some p3)]] w fun r w'=>r = .returned (.tuple #[])∧∃ x,Sat w0 ((G' x).set k (blk b (.int .u32 1 :: .int .i32 0 :: cs' x) e)) w':=by
 have hb:=(s.getBlk hk).1
 refine (do_80 b 0 p0 p1 p2 p3 w (fun w2=>∃ x,Sat w0 (G' x) w2) (s.cellAt hk rfl) (s.cellAt hk rfl) (frozen0 hb) (frozen0 hb) ((hf _ (s.cellSet hk 1 (.int .i32 1))).mono ?_)).mono ?_
 ·rintro r w2 ⟨rfl,x,s2⟩
  have hb2:=(s2.getBlk (hk' x)).1
  exact ⟨rfl,s2.cellAt (hk' x) rfl,s2.cellAt (hk' x) rfl,frozen0 hb2,frozen0 hb2,x,s2⟩
 ·rintro r w' ⟨rfl,w2,⟨x,s2⟩,rfl⟩
  refine ⟨rfl,x,?_⟩
  have hkl:=(List.getElem?_eq_some_iff.1 (hk' x)).1
  have s3:=s2.drewS.cellSet (hk' x) 0 (.int .u32 1)
  have s4:=s3.cellSet (k:=k) (by rw [List.getElem?_set_self hkl]) 1 (.int .i32 0)
  rw [List.set_set] at s4
  exact s4
set_option maxRecDepth 100000 in
theorem slow_358 (b off:Nat) (p0 p1 p2 p3:Addr) (w:World) (Q:World→Prop)
  (h0:w.cell? ⟨b,off,none⟩ = some (.int .u32 0)) (h1:w.cell? ⟨b,off + 1,none⟩ = some (.int .i32 0))
  (f0:w.frozen? ⟨b,off,none⟩ = false) (f1:w.frozen? ⟨b,off + 1,none⟩ = false)
  (hf:Calls Tryz.prog 358 #[.pointer (some p0),.pointer (some p1),.pointer (some p2),.pointer (some p3)] (w.setCell ⟨b,off + 1,none⟩ (.int .i32 1)) fun e w2=>e = .returned (.tuple #[])∧w2.cell? ⟨b,off,none⟩ = some (.int .u32 0)∧w2.cell? ⟨b,off + 1,none⟩ = some (.int .i32 1)∧w2.frozen? ⟨b,off,none⟩ = false∧w2.frozen? ⟨b,off + 1,none⟩ = false∧Q w2) :
  Calls Tryz.prog 135 #[.pointer (some ⟨b,off,none⟩),.func (.func 358) #[] #[.pointer (some p0),.pointer (some p1),.pointer (some p2),.pointer (some p3)]] w fun e w'=>e = .returned (.tuple #[]) ∧
   ∃ w2,Q w2∧w' = (w2.drew.setCell ⟨b,off,none⟩ (.int .u32 1)).setCell ⟨b,off + 1,none⟩ (.int .i32 0):=by
 have hl:=run_call_load (P:=Tryz.prog) Tryz.func202 (by kernel_rfl) (by kernel_rfl) (by kernel_rfl) .u32 (by kernel_rfl) (w:=w.setCell ⟨b,off + 1,none⟩ (.int .i32 1)) (a:=⟨b,off,none⟩) (x:=0) ((World.cell?_setCell_other _ ⟨b,off + 1,none⟩ ⟨b,off,none⟩ _ (by simp)).trans h0)
 have hnot:∀ (x:Bool) (w:World),(Op.unary .not (.bool x)).run Tryz.prog w = .ok (.bool (!x)) w:=fun _ _=>rfl
 go_enter_defers Tryz.func135,Tryz.ntmps135
 go_wp2_with (first | (go_at_call 203; refine (lock_free ⟨b,off + 1,none⟩ _ (by go_simp) (by go_simp)).mono ?_; rintro e w' ⟨rfl,rfl⟩) | (go_at_call 134; refine (load_zero ⟨b,off,none⟩ _ ((World.cell?_setCell_other _ ⟨b,off + 1,none⟩ ⟨b,off,none⟩ _ (by simp)).trans h0)).mono ?_; rintro e w' ⟨rfl,rfl⟩) | (go_at_call 358; refine hf.mono ?_; rintro e w2 ⟨rfl,c0,c1,z0,z1,hq⟩))
 go_wp2
 refine leaves_cons (f:=205) (args:=#[.pointer (some ⟨b,off,none⟩),.bool true]) (by simp) (by simp [go_sem]) ?_
 refine (store_deferred ⟨b,off,none⟩ (.int .u32 0) .returning _ c0 z0).mono ?_
 rintro e u' w'' ⟨rfl,rfl,rfl⟩
 refine leaves_cons (f:=204) (args:=#[.pointer (some ⟨b,off + 1,none⟩)]) (by simp [settle]) (by simp [go_sem]) ?_
 refine (unlock_deferred ⟨b,off + 1,none⟩ _ _ ?_ (by simp [z1])).mono ?_
 ·refine (World.cell?_setCell_other _ ⟨b,off,none⟩ ⟨b,off + 1,none⟩ _ (by simp)).trans ?_
  rw [World.cell?_drew]
  exact c1
 rintro e u' w''' ⟨rfl,rfl,rfl⟩
 simp [Leaves,settle,results,Tryz.results135]
 exact ⟨_,hq,rfl⟩
theorem do_358 (b off:Nat) (p0 p1 p2 p3:Addr) (w:World) (Q:World→Prop)
  (h0:w.cell? ⟨b,off,none⟩ = some (.int .u32 0)) (h1:w.cell? ⟨b,off + 1,none⟩ = some (.int .i32 0))
  (f0:w.frozen? ⟨b,off,none⟩ = false) (f1:w.frozen? ⟨b,off + 1,none⟩ = false)
  (hf:Calls Tryz.prog 358 #[.pointer (some p0),.pointer (some p1),.pointer (some p2),.pointer (some p3)] (w.setCell ⟨b,off + 1,none⟩ (.int .i32 1)) fun e w2=>e = .returned (.tuple #[])∧w2.cell? ⟨b,off,none⟩ = some (.int .u32 0)∧w2.cell? ⟨b,off + 1,none⟩ = some (.int .i32 1)∧w2.frozen? ⟨b,off,none⟩ = false∧w2.frozen? ⟨b,off + 1,none⟩ = false∧Q w2) :
  Calls Tryz.prog 79 #[.pointer (some ⟨b,off,none⟩),.func (.func 358) #[] #[.pointer (some p0),.pointer (some p1),.pointer (some p2),.pointer (some p3)]] w fun e w'=>e = .returned (.tuple #[]) ∧
   ∃ w2,Q w2∧w' = (w2.drew.setCell ⟨b,off,none⟩ (.int .u32 1)).setCell ⟨b,off + 1,none⟩ (.int .i32 0):=by
 have hnot:∀ (x:Bool) (w:World),(Op.unary .not (.bool x)).run Tryz.prog w = .ok (.bool (!x)) w:=fun _ _=>rfl
 go_enter Tryz.func79,Tryz.ntmps79
 go_wp2_with (first | (go_at_call 134; refine (load_zero ⟨b,off,none⟩ _ h0).mono ?_; rintro e w' ⟨rfl,rfl⟩) | (go_at_call 135; refine (slow_358 b off p0 p1 p2 p3 _ Q h0 h1 f0 f1 hf).mono ?_; rintro e w' ⟨rfl,w2,hq,rfl⟩))
 go_end0
 exact ⟨rfl,_,hq,rfl⟩
theorem once_358 {w0 w:World} {G:List Ch} {κ:Type} {b e k:Nat} {cs:List Value} (p0 p1 p2 p3:Addr) (s:Sat w0 G w) (hk:G[k]? = some (blk b (.int .u32 0 :: .int .i32 0 :: cs) e)) (G':κ→List Ch) (cs':κ→List Value)
  (hk':∀ x,(G' x)[k]? = some (blk b (.int .u32 0 :: .int .i32 1 :: cs' x) e))
  (hf:∀ w1,Sat w0 (G.set k (blk b (.int .u32 0 :: .int .i32 1 :: cs) e)) w1→Calls Tryz.prog 358 #[.pointer (some p0),.pointer (some p1),.pointer (some p2),.pointer (some p3)] w1 fun e w2=>e = .returned (.tuple #[])∧∃ x,Sat w0 (G' x) w2) :
  Calls Tryz.prog 79 #[.pointer (some ⟨b,0,none⟩),.func (.func 358) #[] #[.pointer (some p0),.pointer (some p1),.pointer (some p2),.pointer (some p3)]] w fun r w'=>r = .returned (.tuple #[])∧∃ x,Sat w0 ((G' x).set k (blk b (.int .u32 1 :: .int .i32 0 :: cs' x) e)) w':=by
 have hb:=(s.getBlk hk).1
 refine (do_358 b 0 p0 p1 p2 p3 w (fun w2=>∃ x,Sat w0 (G' x) w2) (s.cellAt hk rfl) (s.cellAt hk rfl) (frozen0 hb) (frozen0 hb) ((hf _ (s.cellSet hk 1 (.int .i32 1))).mono ?_)).mono ?_
 ·rintro r w2 ⟨rfl,x,s2⟩
  have hb2:=(s2.getBlk (hk' x)).1
  exact ⟨rfl,s2.cellAt (hk' x) rfl,s2.cellAt (hk' x) rfl,frozen0 hb2,frozen0 hb2,x,s2⟩
 ·rintro r w' ⟨rfl,w2,⟨x,s2⟩,rfl⟩
  refine ⟨rfl,x,?_⟩
  have hkl:=(List.getElem?_eq_some_iff.1 (hk' x)).1
  have s3:=s2.drewS.cellSet (hk' x) 0 (.int .u32 1)
  have s4:=s3.cellSet (k:=k) (by rw [List.getElem?_set_self hkl]) 1 (.int .i32 0)
  rw [List.set_set] at s4
  exact s4
end Go.Proofs.YtmngdgclldkcfaaGreat
