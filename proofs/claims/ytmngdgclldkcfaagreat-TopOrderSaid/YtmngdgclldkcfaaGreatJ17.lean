/-
  Texts of one's own, joined: YD XB LN LS LW.
-/
import Derived.Test.YtmngdgclldkcfaaGreatRows
import Derived.Test.YtmngdgclldkcfaaGreatJ6
import Derived.Test.YtmngdgclldkcfaaGreatJ7
import Derived.Test.YtmngdgclldkcfaaGreatJ16
import Derived.Test.YtmngdgclldkcfaaGreatJ15
import Derived.Test.YtmngdgclldkcfaaGreatJ12
import Derived.Test.YtmngdgclldkcfaaGreatJ11
set_option linter.unusedVariables false
set_option linter.unusedSimpArgs false
set_option maxRecDepth 20000
set_option maxHeartbeats 4000000
namespace Go.Proofs.YtmngdgclldkcfaaGreat
open Go.Vg
open Enc (R)
theorem ent246:Ent Tryz.prog 246:=en Tryz.func246
theorem ent249:Ent Tryz.prog 249:=en Tryz.func249
instance fd266_0:FdC Tryz.prog 266 0 0:={}
instance fd266_1:FdC Tryz.prog 266 1 1:={}
theorem zr35:zeroOf Tryz.prog 35 = some (.slice none 0 0):=by kernel_rfl
theorem near_none {w0:World} {F:Ch} (g qa qi:Nat) (p:Vec) (r:Int) (hr:¬ r ≤ 0) {x1 y1 x2 y2:Int} {a b:Cel} (h1:fixed_Sub p.x r = some x1) (h2:fixed_Sub p.y r = some y1) (h3:cells_of ⟨x1,y1⟩ = some a) (h4:fixed_Add p.x r = some x2) (h5:fixed_Add p.y r = some y2) (h6:cells_of ⟨x2,y2⟩ = some b) (g1:I64 (b.x - a.x)) (g2:I64 (b.y - a.y)) (g3:I64 (b.x - a.x + 1)) (g4:I64 (b.y - a.y + 1)) (g5:I64 ((b.x - a.x + 1) * (b.y - a.y + 1))) (far:((([]:List (Value × Value)).length:Int) + 1) < b.x - a.x ∨ ((([]:List (Value × Value)).length:Int) + 1) < b.y - a.y ∨ ((([]:List (Value × Value)).length:Int) + 1) < (b.x - a.x + 1) * (b.y - a.y + 1)) (w:World) (s:Sat w0 [blk g [.map (some qa),.map (some qi)] 264,mapE qa [],mapE qi [],F] w):Calls Tryz.prog 178 #[.pointer (some ⟨g,0,none⟩),.agg #[.int .i64 p.x,.int .i64 p.y],.int .i64 r] w fun e w'=>e = .returned (.slice none 0 0)∧Sat w0 [blk g [.map (some qa),.map (some qi)] 264,mapE qa [],mapE qi [],F] w':=by
 refine te Tryz.func178 s ?_
 refine T.seq fun _ k1=>T.region (RS.solid (Sd.box (cs:=[_]) rfl rfl) rfl rfl fun b3=>RS.solid (Sd.box (cs:=[_,_]) rfl rfl) rfl rfl fun b4=>RS.solid (Sd.box (cs:=[_]) rfl rfl) rfl rfl fun b5=>RS.solid (Sd.alloc zr35 rfl) rfl rfl fun b6=>RS.nil (k1 _ _ (kq [3,4,5,6] ?_)))
 refine T.seq fun _ k2=>au 3 ?_
 refine T.condP rfl (fun hc17=>?_) (fun hc17=>?_)
 ·exact absurd hc17 hr -- end
 refine T.skip (k2 _ _ ?_)
 refine T.seq fun _ k4=>T.region (rp (Pu.makeFunc (cs:=[_,_,_,_]) rfl) (rA rfl (RS.nil (k4 _ _ (kq [3,4,5,6,7] ?_)))))
 refine T.seq fun _ k5=>dr mixed [0,1,1,1,0,1,1,1,0,1,3,4] ?_
 refine au 3 ?_
 refine dq rfl (Qt.call ent247 rfl fun w s=>fixed_Sub_walk p.x r w h1) (au 3 ?_)
 refine dq rfl (Qt.call ent247 rfl fun w s=>fixed_Sub_walk p.y r w h2) (dp rfl (Pu.build (cells:=[_,_]) st33 rfl rfl) (dq rfl (Qt.call ent172 rfl fun w s=>cells_of_walk ⟨x1,y1⟩ w h3) (RD.solid rfl (.inl rfl) rfl rfl (Sd.alloc zr266 rfl) (fun _=>ClE.sat _ _) (fun _ _ _=>trivial) (fun _ _ _ s=>s.drop1) fun b8=>?_)))
 refine RD.solid rfl (.inr rfl) rfl rfl (Sd.stB (cs':=[_,_]) 8 ty266.h rfl rfl rfl rfl rfl rfl rfl rfl) (fun _=>ClE.sat _ _) (fun _ _ _=>trivial) (fun h=>nomatch h) fun _=>?_
 refine RD.nil (k5 _ _ (kq [3,4,5,6,7,8] ?_))
 refine T.seq fun _ k6=>dr mixed [0,1,1,1,0,1,1,1,0,1,3,4] ?_
 refine au 3 ?_
 refine dq rfl (Qt.call ent248 rfl fun w s=>fixed_Add_walk p.x r w h4) (au 3 ?_)
 refine dq rfl (Qt.call ent248 rfl fun w s=>fixed_Add_walk p.y r w h5) (dp rfl (Pu.build (cells:=[_,_]) st33 rfl rfl) (dq rfl (Qt.call ent172 rfl fun w s=>cells_of_walk ⟨x2,y2⟩ w h6) (RD.solid rfl (.inl rfl) rfl rfl (Sd.alloc zr266 rfl) (fun _=>ClE.sat _ _) (fun _ _ _=>trivial) (fun _ _ _ s=>s.drop1) fun b9=>?_)))
 refine RD.solid rfl (.inr rfl) rfl rfl (Sd.stB (cs':=[_,_]) 9 ty266.h rfl rfl rfl rfl rfl rfl rfl rfl) (fun _=>ClE.sat _ _) (fun _ _ _=>trivial) (fun h=>nomatch h) fun _=>?_
 refine RD.nil (k6 _ _ (kq [3,6,7,8,9] ?_))
 refine T.seq fun _ k7=>T.seq fun _ k8=>T.region (au 4 ?_)
 refine rq (Qt.lenE 2 mpC rfl rfl) (rp (Pu.addS rfl rfl (by simp)) (rA rfl (RS.nil (k8 _ _ (kq [3,6,7,8,9,10] ?_)))))
 refine T.seq fun _ k9=>T.region (au 4 ?_)
 refine rp (Pu.subS rfl rfl g1) (au 3 ?_)
 refine RS.splitP 52 rfl (fun h52=>?_) (fun h52=>?_)
 ·refine au 25 ?_
  refine RS.nil (k9 _ _ ?_)
  refine T.condT rfl ?_
  refine kq [3,6,7] ?_
  refine T.seq fun _ k10=>?_
  refine T.ex (fun w s=>Sat.openE 1 rfl s) fun qe=>?_
  obtain ⟨⟨es,ck⟩,hq⟩:=qe
  have he:es = #[]:=hq.none
  subst he
  show T _ _ _ _ (Sat w0 [blk g [.map (some qa),.map (some qi)] 264,mapX qa #[] ck,mapE qi [],F,blk b3 [.pointer (some ⟨g,0,none⟩)] 162,blk b4 [.int .i64 p.x,.int .i64 p.y] 33,blk b5 [.int .i64 r] 2,blk b6 [.slice none 0 0] 35,blk b8 [.int .i64 a.x,.int .i64 a.y] 266,blk b9 [.int .i64 b.x,.int .i64 b.y] 266]) _
  refine T.region (au 4 ?_)
  refine RS.solid (Sd.rangeX 1 mpA rfl rfl) rfl rfl fun it=>RS.nil (k10 _ _ (kq [6,7,82] ?_))
  refine T.block ?_
  refine T.loopC (σ:=Unit) [(6,_),(7,_),(82,_)] (fun _=>[]) (fun _=>True) (fun _=>0) () (trivial) sb sb ?_
  intro _ hI K10_ hL1
  refine kq [6,7,82] ?_
  refine T.seq fun _ k11=>T.region (rq (Qt.nextEnd 1 10 rfl rfl rfl (by simp) (Nat.le_refl _) (by simp)) (rp (Pu.extract rfl rfl) (RS.nil (k11 _ _ ?_))))
  refine T.seq fun _ k12=>?_
  refine T.cond rfl (fun hc84=>?_) (fun hc84=>?_)
  ·cases hc84 -- end
  refine T.exitTo (by with_reducible (repeat (first | exact ExTo.here | exact ExTo.hereN | exact ExTo.deep (by repeat (first | exact NmTo.seq | apply NmTo.blk)) | apply ExTo.seq | refine ExTo.past (by decide) ?_))) (k7 _ _ (kq [6] ?_))
  refine T.seq fun _ k13=>T.region (rq (Qt.ldB 7 ty35.h rfl rfl rfl) (rq (Qt.call ent249 rfl fun w s=>sort_0 none 0 w) (RS.nil (k13 _ _ ?_))))
  refine T.seq fun _ k14=>T.region (au 2 ?_)
  refine RS.nil (k14 _ _ (kq [6] ?_))
  refine T.retTo (by with_reducible ((repeat (first | apply RetTo.seq | apply RetTo.blk)); exact RetTo.refl _)) (Cont.retC1 7 rfl ty35.h rfl rfl fun w' s=>?_)
  exact ⟨rfl,(Sat.shutE 1 ⟨(#[],ck),hq⟩ rfl s).pick [0,1,2,3] (by decide) rfl⟩
 refine au 4 ?_
 refine rp (Pu.subS rfl rfl g2) (au 4 ?_)
 refine RS.splitP 61 rfl (fun h61=>?_) (fun h61=>?_)
 ·refine au 16 ?_
  refine RS.nil (k9 _ _ ?_)
  refine T.condT rfl ?_
  refine kq [3,6,7] ?_
  refine T.seq fun _ k15=>?_
  refine T.ex (fun w s=>Sat.openE 1 rfl s) fun qe=>?_
  obtain ⟨⟨es,ck⟩,hq⟩:=qe
  have he:es = #[]:=hq.none
  subst he
  show T _ _ _ _ (Sat w0 [blk g [.map (some qa),.map (some qi)] 264,mapX qa #[] ck,mapE qi [],F,blk b3 [.pointer (some ⟨g,0,none⟩)] 162,blk b4 [.int .i64 p.x,.int .i64 p.y] 33,blk b5 [.int .i64 r] 2,blk b6 [.slice none 0 0] 35,blk b8 [.int .i64 a.x,.int .i64 a.y] 266,blk b9 [.int .i64 b.x,.int .i64 b.y] 266]) _
  refine T.region (au 4 ?_)
  refine RS.solid (Sd.rangeX 1 mpA rfl rfl) rfl rfl fun it=>RS.nil (k15 _ _ (kq [6,7,82] ?_))
  refine T.block ?_
  refine T.loopC (σ:=Unit) [(6,_),(7,_),(82,_)] (fun _=>[]) (fun _=>True) (fun _=>0) () (trivial) sb sb ?_
  intro _ hI K15_ hL1
  refine kq [6,7,82] ?_
  refine T.seq fun _ k16=>T.region (rq (Qt.nextEnd 1 10 rfl rfl rfl (by simp) (Nat.le_refl _) (by simp)) (rp (Pu.extract rfl rfl) (RS.nil (k16 _ _ ?_))))
  refine T.seq fun _ k17=>?_
  refine T.cond rfl (fun hc84=>?_) (fun hc84=>?_)
  ·cases hc84 -- end
  refine T.exitTo (by with_reducible (repeat (first | exact ExTo.here | exact ExTo.hereN | exact ExTo.deep (by repeat (first | exact NmTo.seq | apply NmTo.blk)) | apply ExTo.seq | refine ExTo.past (by decide) ?_))) (k7 _ _ (kq [6] ?_))
  refine T.seq fun _ k18=>T.region (rq (Qt.ldB 7 ty35.h rfl rfl rfl) (rq (Qt.call ent249 rfl fun w s=>sort_0 none 0 w) (RS.nil (k18 _ _ ?_))))
  refine T.seq fun _ k19=>T.region (au 2 ?_)
  refine RS.nil (k19 _ _ (kq [6] ?_))
  refine T.retTo (by with_reducible ((repeat (first | apply RetTo.seq | apply RetTo.blk)); exact RetTo.refl _)) (Cont.retC1 7 rfl ty35.h rfl rfl fun w' s=>?_)
  exact ⟨rfl,(Sat.shutE 1 ⟨(#[],ck),hq⟩ rfl s).pick [0,1,2,3] (by decide) rfl⟩
 refine au 4 ?_
 refine rp (Pu.subS rfl rfl g1) (rp (Pu.addS rfl rfl g3) (au 4 ?_))
 refine rp (Pu.subS rfl rfl g2) (rp (Pu.addS rfl rfl g4) (rp (Pu.mulS rfl rfl g5) (au 3 ?_)))
 refine RS.nil (k9 _ _ ?_)
 refine T.condP rfl (fun hc77=>?_) (fun hc77=>?_)
 ·refine kq [3,6,7] ?_
  refine T.seq fun _ k20=>?_
  refine T.ex (fun w s=>Sat.openE 1 rfl s) fun qe=>?_
  obtain ⟨⟨es,ck⟩,hq⟩:=qe
  have he:es = #[]:=hq.none
  subst he
  show T _ _ _ _ (Sat w0 [blk g [.map (some qa),.map (some qi)] 264,mapX qa #[] ck,mapE qi [],F,blk b3 [.pointer (some ⟨g,0,none⟩)] 162,blk b4 [.int .i64 p.x,.int .i64 p.y] 33,blk b5 [.int .i64 r] 2,blk b6 [.slice none 0 0] 35,blk b8 [.int .i64 a.x,.int .i64 a.y] 266,blk b9 [.int .i64 b.x,.int .i64 b.y] 266]) _
  refine T.region (au 4 ?_)
  refine RS.solid (Sd.rangeX 1 mpA rfl rfl) rfl rfl fun it=>RS.nil (k20 _ _ (kq [6,7,82] ?_))
  refine T.block ?_
  refine T.loopC (σ:=Unit) [(6,_),(7,_),(82,_)] (fun _=>[]) (fun _=>True) (fun _=>0) () (trivial) sb sb ?_
  intro _ hI K20_ hL1
  refine kq [6,7,82] ?_
  refine T.seq fun _ k21=>T.region (rq (Qt.nextEnd 1 10 rfl rfl rfl (by simp) (Nat.le_refl _) (by simp)) (rp (Pu.extract rfl rfl) (RS.nil (k21 _ _ ?_))))
  refine T.seq fun _ k22=>?_
  refine T.cond rfl (fun hc84=>?_) (fun hc84=>?_)
  ·cases hc84 -- end
  refine T.exitTo (by with_reducible (repeat (first | exact ExTo.here | exact ExTo.hereN | exact ExTo.deep (by repeat (first | exact NmTo.seq | apply NmTo.blk)) | apply ExTo.seq | refine ExTo.past (by decide) ?_))) (k7 _ _ (kq [6] ?_))
  refine T.seq fun _ k23=>T.region (rq (Qt.ldB 7 ty35.h rfl rfl rfl) (rq (Qt.call ent249 rfl fun w s=>sort_0 none 0 w) (RS.nil (k23 _ _ ?_))))
  refine T.seq fun _ k24=>T.region (au 2 ?_)
  refine RS.nil (k24 _ _ (kq [6] ?_))
  refine T.retTo (by with_reducible ((repeat (first | apply RetTo.seq | apply RetTo.blk)); exact RetTo.refl _)) (Cont.retC1 7 rfl ty35.h rfl rfl fun w' s=>?_)
  exact ⟨rfl,(Sat.shutE 1 ⟨(#[],ck),hq⟩ rfl s).pick [0,1,2,3] (by decide) rfl⟩
 rcases far with h | h | h
 exact absurd h h52
 exact absurd h h61
 exact absurd h hc77 -- end
theorem sort_nl (d:Bool) (id:Int) (q:Option Nat × Nat) (w:World):Calls Tryz.prog 249 #[rowV q (nl d id).length] w fun e w'=>e = .returned (.tuple #[])∧Ext w w':=by
 cases d
 ·exact sort_0 _ _ w
 exact sort_1 _ _ w
theorem near_one {w0:World} {F:Ch} (g qa qi:Nat) (qr:Option Nat × Nat) (id:Int) (z:Vec) (c:Cel) (p:Vec) (r:Int) {d:Bool} (hd:vec_Within p z r = some d) (hr:¬ r ≤ 0) {x1 y1 x2 y2:Int} {a b:Cel} (h1:fixed_Sub p.x r = some x1) (h2:fixed_Sub p.y r = some y1) (h3:cells_of ⟨x1,y1⟩ = some a) (h4:fixed_Add p.x r = some x2) (h5:fixed_Add p.y r = some y2) (h6:cells_of ⟨x2,y2⟩ = some b) (g1:I64 (b.x - a.x)) (g2:I64 (b.y - a.y)) (g3:I64 (b.x - a.x + 1)) (g4:I64 (b.y - a.y + 1)) (g5:I64 ((b.x - a.x + 1) * (b.y - a.y + 1))) (far:((([((.int .i64 id:Value),(.agg #[.int .i64 z.x,.int .i64 z.y]:Value))]:List (Value × Value)).length:Int) + 1) < b.x - a.x ∨ ((([((.int .i64 id:Value),(.agg #[.int .i64 z.x,.int .i64 z.y]:Value))]:List (Value × Value)).length:Int) + 1) < b.y - a.y ∨ ((([((.int .i64 id:Value),(.agg #[.int .i64 z.x,.int .i64 z.y]:Value))]:List (Value × Value)).length:Int) + 1) < (b.x - a.x + 1) * (b.y - a.y + 1)) (w:World) (s:Sat w0 [blk g [.map (some qa),.map (some qi)] 264,mapE qa [(.int .i64 id,.agg #[.int .i64 z.x,.int .i64 z.y])],mapE qi [(.agg #[.int .i64 c.x,.int .i64 c.y],rowV qr 1)],row nilH 3 (rowV qr 1) [id],F] w):Calls Tryz.prog 178 #[.pointer (some ⟨g,0,none⟩),.agg #[.int .i64 p.x,.int .i64 p.y],.int .i64 r] w fun e w'=>∃ q:Option Nat × Nat,e = .returned (rowV q (nl d id).length)∧Sat w0 [blk g [.map (some qa),.map (some qi)] 264,mapE qa [(.int .i64 id,.agg #[.int .i64 z.x,.int .i64 z.y])],mapE qi [(.agg #[.int .i64 c.x,.int .i64 c.y],rowV qr 1)],row nilH 3 (rowV qr 1) [id],F,row nilH 3 (rowV q (nl d id).length) (nl d id)] w':=by
 refine te Tryz.func178 s ?_
 refine T.seq fun _ k1=>T.region (RS.solid (Sd.box (cs:=[_]) rfl rfl) rfl rfl fun b3=>RS.solid (Sd.box (cs:=[_,_]) rfl rfl) rfl rfl fun b4=>RS.solid (Sd.box (cs:=[_]) rfl rfl) rfl rfl fun b5=>RS.solid (Sd.alloc zr35 rfl) rfl rfl fun b6=>RS.nil (k1 _ _ (kq [3,4,5,6] ?_)))
 refine T.seq fun _ k2=>au 3 ?_
 refine T.condP rfl (fun hc17=>?_) (fun hc17=>?_)
 ·exact absurd hc17 hr -- end
 refine T.skip (k2 _ _ ?_)
 refine T.seq fun _ k4=>T.region (rp (Pu.makeFunc (cs:=[_,_,_,_]) rfl) (rA rfl (RS.nil (k4 _ _ (kq [3,4,5,6,7] ?_)))))
 refine T.seq fun _ k5=>dr mixed [0,1,1,1,0,1,1,1,0,1,3,4] ?_
 refine au 3 ?_
 refine dq rfl (Qt.call ent247 rfl fun w s=>fixed_Sub_walk p.x r w h1) (au 3 ?_)
 refine dq rfl (Qt.call ent247 rfl fun w s=>fixed_Sub_walk p.y r w h2) (dp rfl (Pu.build (cells:=[_,_]) st33 rfl rfl) (dq rfl (Qt.call ent172 rfl fun w s=>cells_of_walk ⟨x1,y1⟩ w h3) (RD.solid rfl (.inl rfl) rfl rfl (Sd.alloc zr266 rfl) (fun _=>ClE.sat _ _) (fun _ _ _=>trivial) (fun _ _ _ s=>s.drop1) fun b8=>?_)))
 refine RD.solid rfl (.inr rfl) rfl rfl (Sd.stB (cs':=[_,_]) 9 ty266.h rfl rfl rfl rfl rfl rfl rfl rfl) (fun _=>ClE.sat _ _) (fun _ _ _=>trivial) (fun h=>nomatch h) fun _=>?_
 refine RD.nil (k5 _ _ (kq [3,4,5,6,7,8] ?_))
 refine T.seq fun _ k6=>dr mixed [0,1,1,1,0,1,1,1,0,1,3,4] ?_
 refine au 3 ?_
 refine dq rfl (Qt.call ent248 rfl fun w s=>fixed_Add_walk p.x r w h4) (au 3 ?_)
 refine dq rfl (Qt.call ent248 rfl fun w s=>fixed_Add_walk p.y r w h5) (dp rfl (Pu.build (cells:=[_,_]) st33 rfl rfl) (dq rfl (Qt.call ent172 rfl fun w s=>cells_of_walk ⟨x2,y2⟩ w h6) (RD.solid rfl (.inl rfl) rfl rfl (Sd.alloc zr266 rfl) (fun _=>ClE.sat _ _) (fun _ _ _=>trivial) (fun _ _ _ s=>s.drop1) fun b9=>?_)))
 refine RD.solid rfl (.inr rfl) rfl rfl (Sd.stB (cs':=[_,_]) 10 ty266.h rfl rfl rfl rfl rfl rfl rfl rfl) (fun _=>ClE.sat _ _) (fun _ _ _=>trivial) (fun h=>nomatch h) fun _=>?_
 refine RD.nil (k6 _ _ (kq [3,6,7,8,9] ?_))
 refine T.seq fun _ k7=>T.seq fun _ k8=>T.region (au 4 ?_)
 refine rq (Qt.lenE 2 mpC rfl rfl) (rp (Pu.addS rfl rfl (by simp)) (rA rfl (RS.nil (k8 _ _ (kq [3,6,7,8,9,10] ?_)))))
 refine T.seq fun _ k9=>T.region (au 4 ?_)
 refine rp (Pu.subS rfl rfl g1) (au 3 ?_)
 refine RS.splitP 52 rfl (fun h52=>?_) (fun h52=>?_)
 ·refine au 25 ?_
  refine RS.nil (k9 _ _ ?_)
  refine T.condT rfl ?_
  refine kq [3,6,7] ?_
  refine T.seq fun _ k10=>?_
  refine T.ex (fun w s=>Sat.openE 1 rfl s) fun qe=>?_
  obtain ⟨⟨es,ck⟩,hq⟩:=qe
  obtain ⟨en,he,hk,hv,hb⟩:=hq.one
  have hq0:=hq
  have he:es = #[en]:=he
  subst he
  show T _ _ _ _ (Sat w0 [blk g [.map (some qa),.map (some qi)] 264,mapX qa #[en] ck,mapE qi [(.agg #[.int .i64 c.x,.int .i64 c.y],rowV qr 1)],row nilH 3 (rowV qr 1) [id],F,blk b3 [.pointer (some ⟨g,0,none⟩)] 162,blk b4 [.int .i64 p.x,.int .i64 p.y] 33,blk b5 [.int .i64 r] 2,blk b6 [.slice none 0 0] 35,blk b8 [.int .i64 a.x,.int .i64 a.y] 266,blk b9 [.int .i64 b.x,.int .i64 b.y] 266]) _
  refine T.region (au 4 ?_)
  refine RS.solid (Sd.rangeX 1 mpA rfl rfl) rfl rfl fun it=>RS.nil (k10 _ _ (kq [6,7,82] ?_))
  refine T.block ?_
  refine T.loop2 [(6,_),(7,_),(82,_)] (fun q:Option Nat × Nat=>Sat w0 [blk g [.map (some qa),.map (some qi)] 264,mapX qa #[en] ck,mapE qi [(.agg #[.int .i64 c.x,.int .i64 c.y],rowV qr 1)],row nilH 3 (rowV qr 1) [id],F,blk b3 [.pointer (some ⟨g,0,none⟩)] 162,blk b4 [.int .i64 p.x,.int .i64 p.y] 33,blk b5 [.int .i64 r] 2,blk b6 [rowV q (nl d id).length] 35,blk b8 [.int .i64 a.x,.int .i64 a.y] 266,blk b9 [.int .i64 b.x,.int .i64 b.y] 266,iterX it qa ck #[en.born] ck,row nilH 3 (rowV q (nl d id).length) (nl d id)]) sb (fun K10_ hL1=>?_) (fun q K10_=>?_)
  ·refine T.seq fun _ k11=>T.region (RS.solid (Sd.nextOne 1 11 rfl rfl rfl hb (Nat.le_refl _)) rfl rfl fun _=>rp (Pu.extract rfl rfl) (RS.nil (k11 _ _ ?_)))
   refine T.seq fun _ k12=>?_
   refine T.cond rfl (fun hc84=>?_) (fun hc84=>?_)
   ·refine T.skip (k12 _ _ ?_)
    refine T.block (T.seq fun _ k13=>T.region (rq (Qt.entryX 1 11 rfl rfl rfl) (au 2 ?_)))
    refine RS.nil (k13 _ _ (kq [6,7,11,82] ?_))
    refine T.region (au 2 ?_)
    refine RS.solid (Sd.callV (vs:=[_]) (cs:=[.pointer (some ⟨b4,0,none⟩),.pointer (some ⟨b3,0,none⟩),.pointer (some ⟨b5,0,none⟩),.pointer (some ⟨b6,0,none⟩)]) ent246 rfl (by rw [← hk]; rfl) (fun w s=>callFr (A:=[_,_,_,_,_,_]) (B:=[F,_,_,_,_,_]) (fun w s=>near1_walk b4 b3 b5 b6 g qa qi id r p z hq0 hd w s) (s.pick [6,5,7,8,0,1,4,2,3,9,10,11] (by decide) rfl))) rfl rfl fun q=>RS.nil (hL1 _ _ q sb (fun _ s=>s.pick [4,5,8,9,7,1,0,2,3,10,11,12,6] (by decide) rfl))
   cases hc84 -- end
  refine T.seq fun _ k14=>T.region (rq (Qt.nextEnd 1 11 rfl rfl rfl (by simpa using hb) (Nat.le_refl _) (by simp)) (rp (Pu.extract rfl rfl) (RS.nil (k14 _ _ ?_))))
  refine T.seq fun _ k15=>?_
  refine T.cond rfl (fun hc84=>?_) (fun hc84=>?_)
  ·cases hc84 -- end
  refine T.exitTo (by with_reducible (repeat (first | exact ExTo.here | exact ExTo.hereN | exact ExTo.deep (by repeat (first | exact NmTo.seq | apply NmTo.blk)) | apply ExTo.seq | refine ExTo.past (by decide) ?_))) (k7 _ _ (kq [6] ?_))
  refine T.seq fun _ k16=>T.region (rq (Qt.ldB 8 ty35.h rfl rfl rfl) (rq (Qt.call ent249 rfl fun w s=>sort_nl d id q w) (RS.nil (k16 _ _ ?_))))
  refine T.seq fun _ k17=>T.region (au 2 ?_)
  refine RS.nil (k17 _ _ (kq [6] ?_))
  refine T.retTo (by with_reducible ((repeat (first | apply RetTo.seq | apply RetTo.blk)); exact RetTo.refl _)) (Cont.retC1 8 rfl ty35.h rfl rfl fun w' s=>?_)
  exact ⟨q,rfl,(Sat.shutE 1 ⟨(#[en],ck),hq0⟩ rfl s).pick [0,1,2,3,4,12] (by decide) rfl⟩
 refine au 4 ?_
 refine rp (Pu.subS rfl rfl g2) (au 4 ?_)
 refine RS.splitP 61 rfl (fun h61=>?_) (fun h61=>?_)
 ·refine au 16 ?_
  refine RS.nil (k9 _ _ ?_)
  refine T.condT rfl ?_
  refine kq [3,6,7] ?_
  refine T.seq fun _ k18=>?_
  refine T.ex (fun w s=>Sat.openE 1 rfl s) fun qe=>?_
  obtain ⟨⟨es,ck⟩,hq⟩:=qe
  obtain ⟨en,he,hk,hv,hb⟩:=hq.one
  have hq0:=hq
  have he:es = #[en]:=he
  subst he
  show T _ _ _ _ (Sat w0 [blk g [.map (some qa),.map (some qi)] 264,mapX qa #[en] ck,mapE qi [(.agg #[.int .i64 c.x,.int .i64 c.y],rowV qr 1)],row nilH 3 (rowV qr 1) [id],F,blk b3 [.pointer (some ⟨g,0,none⟩)] 162,blk b4 [.int .i64 p.x,.int .i64 p.y] 33,blk b5 [.int .i64 r] 2,blk b6 [.slice none 0 0] 35,blk b8 [.int .i64 a.x,.int .i64 a.y] 266,blk b9 [.int .i64 b.x,.int .i64 b.y] 266]) _
  refine T.region (au 4 ?_)
  refine RS.solid (Sd.rangeX 1 mpA rfl rfl) rfl rfl fun it=>RS.nil (k18 _ _ (kq [6,7,82] ?_))
  refine T.block ?_
  refine T.loop2 [(6,_),(7,_),(82,_)] (fun q:Option Nat × Nat=>Sat w0 [blk g [.map (some qa),.map (some qi)] 264,mapX qa #[en] ck,mapE qi [(.agg #[.int .i64 c.x,.int .i64 c.y],rowV qr 1)],row nilH 3 (rowV qr 1) [id],F,blk b3 [.pointer (some ⟨g,0,none⟩)] 162,blk b4 [.int .i64 p.x,.int .i64 p.y] 33,blk b5 [.int .i64 r] 2,blk b6 [rowV q (nl d id).length] 35,blk b8 [.int .i64 a.x,.int .i64 a.y] 266,blk b9 [.int .i64 b.x,.int .i64 b.y] 266,iterX it qa ck #[en.born] ck,row nilH 3 (rowV q (nl d id).length) (nl d id)]) sb (fun K18_ hL1=>?_) (fun q K18_=>?_)
  ·refine T.seq fun _ k19=>T.region (RS.solid (Sd.nextOne 1 11 rfl rfl rfl hb (Nat.le_refl _)) rfl rfl fun _=>rp (Pu.extract rfl rfl) (RS.nil (k19 _ _ ?_)))
   refine T.seq fun _ k20=>?_
   refine T.cond rfl (fun hc84=>?_) (fun hc84=>?_)
   ·refine T.skip (k20 _ _ ?_)
    refine T.block (T.seq fun _ k21=>T.region (rq (Qt.entryX 1 11 rfl rfl rfl) (au 2 ?_)))
    refine RS.nil (k21 _ _ (kq [6,7,11,82] ?_))
    refine T.region (au 2 ?_)
    refine RS.solid (Sd.callV (vs:=[_]) (cs:=[.pointer (some ⟨b4,0,none⟩),.pointer (some ⟨b3,0,none⟩),.pointer (some ⟨b5,0,none⟩),.pointer (some ⟨b6,0,none⟩)]) ent246 rfl (by rw [← hk]; rfl) (fun w s=>callFr (A:=[_,_,_,_,_,_]) (B:=[F,_,_,_,_,_]) (fun w s=>near1_walk b4 b3 b5 b6 g qa qi id r p z hq0 hd w s) (s.pick [6,5,7,8,0,1,4,2,3,9,10,11] (by decide) rfl))) rfl rfl fun q=>RS.nil (hL1 _ _ q sb (fun _ s=>s.pick [4,5,8,9,7,1,0,2,3,10,11,12,6] (by decide) rfl))
   cases hc84 -- end
  refine T.seq fun _ k22=>T.region (rq (Qt.nextEnd 1 11 rfl rfl rfl (by simpa using hb) (Nat.le_refl _) (by simp)) (rp (Pu.extract rfl rfl) (RS.nil (k22 _ _ ?_))))
  refine T.seq fun _ k23=>?_
  refine T.cond rfl (fun hc84=>?_) (fun hc84=>?_)
  ·cases hc84 -- end
  refine T.exitTo (by with_reducible (repeat (first | exact ExTo.here | exact ExTo.hereN | exact ExTo.deep (by repeat (first | exact NmTo.seq | apply NmTo.blk)) | apply ExTo.seq | refine ExTo.past (by decide) ?_))) (k7 _ _ (kq [6] ?_))
  refine T.seq fun _ k24=>T.region (rq (Qt.ldB 8 ty35.h rfl rfl rfl) (rq (Qt.call ent249 rfl fun w s=>sort_nl d id q w) (RS.nil (k24 _ _ ?_))))
  refine T.seq fun _ k25=>T.region (au 2 ?_)
  refine RS.nil (k25 _ _ (kq [6] ?_))
  refine T.retTo (by with_reducible ((repeat (first | apply RetTo.seq | apply RetTo.blk)); exact RetTo.refl _)) (Cont.retC1 8 rfl ty35.h rfl rfl fun w' s=>?_)
  exact ⟨q,rfl,(Sat.shutE 1 ⟨(#[en],ck),hq0⟩ rfl s).pick [0,1,2,3,4,12] (by decide) rfl⟩
 refine au 4 ?_
 refine rp (Pu.subS rfl rfl g1) (rp (Pu.addS rfl rfl g3) (au 4 ?_))
 refine rp (Pu.subS rfl rfl g2) (rp (Pu.addS rfl rfl g4) (rp (Pu.mulS rfl rfl g5) (au 3 ?_)))
 refine RS.nil (k9 _ _ ?_)
 refine T.condP rfl (fun hc77=>?_) (fun hc77=>?_)
 ·refine kq [3,6,7] ?_
  refine T.seq fun _ k26=>?_
  refine T.ex (fun w s=>Sat.openE 1 rfl s) fun qe=>?_
  obtain ⟨⟨es,ck⟩,hq⟩:=qe
  obtain ⟨en,he,hk,hv,hb⟩:=hq.one
  have hq0:=hq
  have he:es = #[en]:=he
  subst he
  show T _ _ _ _ (Sat w0 [blk g [.map (some qa),.map (some qi)] 264,mapX qa #[en] ck,mapE qi [(.agg #[.int .i64 c.x,.int .i64 c.y],rowV qr 1)],row nilH 3 (rowV qr 1) [id],F,blk b3 [.pointer (some ⟨g,0,none⟩)] 162,blk b4 [.int .i64 p.x,.int .i64 p.y] 33,blk b5 [.int .i64 r] 2,blk b6 [.slice none 0 0] 35,blk b8 [.int .i64 a.x,.int .i64 a.y] 266,blk b9 [.int .i64 b.x,.int .i64 b.y] 266]) _
  refine T.region (au 4 ?_)
  refine RS.solid (Sd.rangeX 1 mpA rfl rfl) rfl rfl fun it=>RS.nil (k26 _ _ (kq [6,7,82] ?_))
  refine T.block ?_
  refine T.loop2 [(6,_),(7,_),(82,_)] (fun q:Option Nat × Nat=>Sat w0 [blk g [.map (some qa),.map (some qi)] 264,mapX qa #[en] ck,mapE qi [(.agg #[.int .i64 c.x,.int .i64 c.y],rowV qr 1)],row nilH 3 (rowV qr 1) [id],F,blk b3 [.pointer (some ⟨g,0,none⟩)] 162,blk b4 [.int .i64 p.x,.int .i64 p.y] 33,blk b5 [.int .i64 r] 2,blk b6 [rowV q (nl d id).length] 35,blk b8 [.int .i64 a.x,.int .i64 a.y] 266,blk b9 [.int .i64 b.x,.int .i64 b.y] 266,iterX it qa ck #[en.born] ck,row nilH 3 (rowV q (nl d id).length) (nl d id)]) sb (fun K26_ hL1=>?_) (fun q K26_=>?_)
  ·refine T.seq fun _ k27=>T.region (RS.solid (Sd.nextOne 1 11 rfl rfl rfl hb (Nat.le_refl _)) rfl rfl fun _=>rp (Pu.extract rfl rfl) (RS.nil (k27 _ _ ?_)))
   refine T.seq fun _ k28=>?_
   refine T.cond rfl (fun hc84=>?_) (fun hc84=>?_)
   ·refine T.skip (k28 _ _ ?_)
    refine T.block (T.seq fun _ k29=>T.region (rq (Qt.entryX 1 11 rfl rfl rfl) (au 2 ?_)))
    refine RS.nil (k29 _ _ (kq [6,7,11,82] ?_))
    refine T.region (au 2 ?_)
    refine RS.solid (Sd.callV (vs:=[_]) (cs:=[.pointer (some ⟨b4,0,none⟩),.pointer (some ⟨b3,0,none⟩),.pointer (some ⟨b5,0,none⟩),.pointer (some ⟨b6,0,none⟩)]) ent246 rfl (by rw [← hk]; rfl) (fun w s=>callFr (A:=[_,_,_,_,_,_]) (B:=[F,_,_,_,_,_]) (fun w s=>near1_walk b4 b3 b5 b6 g qa qi id r p z hq0 hd w s) (s.pick [6,5,7,8,0,1,4,2,3,9,10,11] (by decide) rfl))) rfl rfl fun q=>RS.nil (hL1 _ _ q sb (fun _ s=>s.pick [4,5,8,9,7,1,0,2,3,10,11,12,6] (by decide) rfl))
   cases hc84 -- end
  refine T.seq fun _ k30=>T.region (rq (Qt.nextEnd 1 11 rfl rfl rfl (by simpa using hb) (Nat.le_refl _) (by simp)) (rp (Pu.extract rfl rfl) (RS.nil (k30 _ _ ?_))))
  refine T.seq fun _ k31=>?_
  refine T.cond rfl (fun hc84=>?_) (fun hc84=>?_)
  ·cases hc84 -- end
  refine T.exitTo (by with_reducible (repeat (first | exact ExTo.here | exact ExTo.hereN | exact ExTo.deep (by repeat (first | exact NmTo.seq | apply NmTo.blk)) | apply ExTo.seq | refine ExTo.past (by decide) ?_))) (k7 _ _ (kq [6] ?_))
  refine T.seq fun _ k32=>T.region (rq (Qt.ldB 8 ty35.h rfl rfl rfl) (rq (Qt.call ent249 rfl fun w s=>sort_nl d id q w) (RS.nil (k32 _ _ ?_))))
  refine T.seq fun _ k33=>T.region (au 2 ?_)
  refine RS.nil (k33 _ _ (kq [6] ?_))
  refine T.retTo (by with_reducible ((repeat (first | apply RetTo.seq | apply RetTo.blk)); exact RetTo.refl _)) (Cont.retC1 8 rfl ty35.h rfl rfl fun w' s=>?_)
  exact ⟨q,rfl,(Sat.shutE 1 ⟨(#[en],ck),hq0⟩ rfl s).pick [0,1,2,3,4,12] (by decide) rfl⟩
 rcases far with h | h | h
 exact absurd h h52
 exact absurd h h61
 exact absurd h hc77 -- end
def cells_Near (o:Cls) (p:Vec) (r:Int):Option (List Int) :=
  if r ≤ 0 then none else
  Option.bind (fixed_Sub p.x r) fun x1=>Option.bind (fixed_Sub p.y r) fun y1=>Option.bind (cells_of ⟨x1,y1⟩) fun a =>
  Option.bind (fixed_Add p.x r) fun x2=>Option.bind (fixed_Add p.y r) fun y2=>Option.bind (cells_of ⟨x2,y2⟩) fun b =>
  if (I64 (b.x - a.x)∧I64 (b.y - a.y)∧I64 (b.x - a.x + 1)∧I64 (b.y - a.y + 1)∧I64 ((b.x - a.x + 1) * (b.y - a.y + 1)))∧(((atL o).length:Int) + 1 < b.x - a.x ∨ ((atL o).length:Int) + 1 < b.y - a.y ∨ ((atL o).length:Int) + 1 < (b.x - a.x + 1) * (b.y - a.y + 1)) then
  match o with
  | none=>some []
  | some (i,z,_)=>Option.bind (vec_Within p z r) fun d=>some (nl d i)
  else none
theorem cells_Near_walk {w0:World} {F:Ch} (g:Nat) (o:Cls) (p:Vec) (r:Int) {l:List Int} (H:cells_Near o p r = some l) (w:World) (s:Sat w0 [Cells_ch g o,F] w):Calls Tryz.prog 178 #[.pointer (some ⟨g,0,none⟩),.agg #[.int .i64 p.x,.int .i64 p.y],.int .i64 r] w fun e w'=>∃ q:Option Nat × Nat,e = .returned (rowV q l.length)∧Sat w0 ([Cells_ch g o,F] ++ [row nilH 3 (rowV q l.length) l]) w':=by
 unfold cells_Near at H
 have hr:¬ r ≤ 0:=fun h=>by rw [if_pos h] at H; cases H
 rw [if_neg hr] at H
 obtain ⟨x1,h1,H⟩:=bindE H
 obtain ⟨y1,h2,H⟩:=bindE H
 obtain ⟨a,h3,H⟩:=bindE H
 obtain ⟨x2,h4,H⟩:=bindE H
 obtain ⟨y2,h5,H⟩:=bindE H
 obtain ⟨b,h6,H⟩:=bindE H
 obtain ⟨⟨⟨g1,g2,g3,g4,g5⟩,far⟩,H⟩:=gdE H
 obtain ⟨⟨⟨qa,qi,q⟩,hq⟩,s⟩:=Cells_open 0 rfl s
 cases o with
 | none =>
  obtain rfl:=sj H
  exact (near_none g qa qi p r hr h1 h2 h3 h4 h5 h6 g1 g2 g3 g4 g5 far w (s.pick [0,2,3,1] (by decide) rfl)).mono fun e w' ⟨he,s⟩=>⟨(none,0),he,Cells_shut (o:=none) (R:=[F,row nilH 3 (rowV (none,0) 0) ([]:List Int)]) (qa,qi,(none,0)) trivial (((s.nilRow (α:=Int) 3).nilRow (α:=Int) 3).pick [3,5,0,1,2,4] (by decide) rfl)⟩
 | some y =>
  obtain ⟨i,z,c⟩:=y
  obtain ⟨d,hd,H⟩:=bindE H
  obtain rfl:=sj H
  exact (near_one g qa qi q i z c p r hd hr h1 h2 h3 h4 h5 h6 g1 g2 g3 g4 g5 far w (s.pick [0,2,3,4,1] (by decide) rfl)).mono fun e w' ⟨q2,he,s⟩=>⟨q2,he,Cells_shut (o:=some (i,z,c)) (R:=[F,row nilH 3 (rowV q2 (nl d i).length) (nl d i)]) (qa,qi,q) hq (s.pick [4,5,0,1,2,3] (by decide) rfl)⟩
end Go.Proofs.YtmngdgclldkcfaaGreat
set_option linter.unusedVariables false
set_option linter.unusedSimpArgs false
set_option linter.unusedSectionVars false
namespace Go.Vg
open Go
open Enc (R)
def orow {α:Type} [Enc α] (e:TypeId) (v:Value):Option (List α)→Ch
  | none=>fun _=>v = .slice none 0 0
  | some l=>fun h=>∃ g c,v = rowV (some g,c) l.length∧row nilH e v l h
structure O3 where
  a:Option (List Bool)
  b:Option (List Bool)
  c:Option (List Bool)
  deriving Inhabited
def O3.get (o:O3) (k:Int):Option (List Bool):=if k = 0 then o.a else if k = 1 then o.b else o.c
def O3.put (o:O3) (k:Int) (l:List Bool):O3:=if k = 0 then ⟨some l,o.b,o.c⟩ else if k = 1 then ⟨o.a,some l,o.c⟩ else ⟨o.a,o.b,some l⟩
def vsel (a b c:Value) (k:Int):Value:=if k = 0 then a else if k = 1 then b else c
def opn (e:TypeId) (va vb vc:Value) (o:O3):Ch:=stars [orow e va o.a,orow e vb o.b,orow e vc o.c]
theorem orow_R {e:TypeId} {v:Value} {l:List Bool} {p:Hp} (h:orow e v (some l) p):R p l [v]:=by
 obtain ⟨g,c,rfl,h⟩:=h
 exact row_R h
section
variable {w0 w:World} {G:List Ch} {e:TypeId}
theorem Rd.ofOpn (k:Nat) {va vb vc:Value} {o:O3} {l:List Bool} {c:Int} (hk:G[k]? = some (opn e va vb vc o)) (hl:o.get c = some l):Rd (Sat w0 G) l [vsel va vb vc c]:=fun w s=>by
 obtain ⟨p,⟨pa,q,ha,⟨pb,q2,hb,⟨pc,q3,hc,_,_,lc,_⟩,_,lb,lq2⟩,_,la,lq⟩,hpw,_⟩:=s.get k hk
 unfold O3.get at hl
 unfold vsel
 by_cases h0:c = 0
 ·rw [if_pos h0] at hl ⊢; rw [hl] at ha
  exact Enc.mono (Hp.le_trans la hpw) (orow_R ha)
 ·rw [if_neg h0] at hl ⊢
  by_cases h1:c = 1
  ·rw [if_pos h1] at hl ⊢; rw [hl] at hb
   exact Enc.mono (Hp.le_trans lb (Hp.le_trans lq hpw)) (orow_R hb)
  ·rw [if_neg h1] at hl ⊢; rw [hl] at hc
   exact Enc.mono (Hp.le_trans lc (Hp.le_trans lq2 (Hp.le_trans lq hpw))) (orow_R hc)
theorem Sat.rowOrow {q:Option Nat × Nat} {l:List Bool} (k:Nat) (s:Sat w0 G w) (hk:G[k]? = some (row nilH e (rowV q l.length) l)) (hl:0 < l.length):Sat w0 (G.set k (orow e (rowV q l.length) (some l))) w:=by
 obtain ⟨g,c,rfl⟩:=s.row_some hk hl
 exact s.weaken k hk _ fun p hp=>⟨g,c,rfl,hp⟩
theorem Sat.opnNil (s:Sat w0 G w):Sat w0 (G ++ [opn e (.slice none 0 0) (.slice none 0 0) (.slice none 0 0) ⟨none,none,none⟩]) w:=by
 have h1:=((s.addEmpty (orow e (.slice none 0 0) (none:Option (List Bool))) fun _=>rfl).addEmpty (orow e (.slice none 0 0) (none:Option (List Bool))) fun _=>rfl).addEmpty (orow e (.slice none 0 0) (none:Option (List Bool))) fun _=>rfl
 have:=Sat.toStars [orow e (.slice none 0 0) (none:Option (List Bool)),orow e (.slice none 0 0) (none:Option (List Bool)),orow e (.slice none 0 0) (none:Option (List Bool))] (G:=G) (by simpa using h1)
 exact this.rot
theorem Sat.orow_none {v:Value} {o:Option (List Bool)} (k:Nat) (s:Sat w0 G w) (hk:G[k]? = some (orow e v o)) (ho:o = none):v = .slice none 0 0:=by
 subst ho
 obtain ⟨p,hp,_⟩:=s.get k hk
 exact hp
theorem Sat.orow_some {v:Value} {o:Option (List Bool)} {l:List Bool} (k:Nat) (s:Sat w0 G w) (hk:G[k]? = some (orow e v o)) (ho:o = some l):∃ g c,v = rowV (some g,c) l.length:=by
 subst ho
 obtain ⟨p,⟨g,c,h,_⟩,_⟩:=s.get k hk
 exact ⟨g,c,h⟩
end
section
variable {P:Program} {n:Nat} {fr:Fr} {o:Oper} {w0:World} {G:List Ch}
variable {dst:Option Tmp} {ty:TypeId} {pos:String} {aft:Array Edge} {g:Option (Nat × Bool)}
theorem Qt.ldBAx {ι:Type} (k:Nat) {t sz e:TypeId} {x:Operand} {b o:Nat} {cs:ι→List Value} {us:List Value} (ht:tySz P t = some (sz,true)) (hx:ev fr x = some (.pointer (some ⟨b,o,none⟩))) (hk:G[k]? = some (exch fun i=>blk b (cs i) e)) (hu:∀ i,((cs i).drop o).take sz = us) (hl:us.length = sz) :
  Qt P n ⟨dst,.load t x,ty,pos,aft,g⟩ fr (Sat w0 G) (.agg us.toArray):=Qt.ldA ht hx hl fun w s j v hj=>by
 obtain ⟨p,⟨i,hp⟩,hl2,_⟩:=s.get k hk
 have hb:=hl2 _ _ hp
 have h1:=hu i
 have h2:(cs i)[o + j]? = some v:=by
  rw [← h1,List.getElem?_take] at hj
  split at hj
  ·rw [List.getElem?_drop] at hj; exact hj
  ·cases hj
 have hb':w.heap[b]? = some (.cells (cs i).toArray e (0,0)):=hb
 simp [World.cell?,hb',h2]
theorem Sd.post {S:As} {ι:Type} {val:ι→Value} {S1 S2:ι→As} (h:Sd P n o fr S val S1) (hp:∀ i w,S1 i w→S2 i w):Sd P n o fr S val S2:=fun a w k s=>by
 have h1:=h a w k s
 revert h1
 generalize (execOp a.eval o).run P w = r
 intro h1
 cases r with
 | ok x w' =>
  cases x <;> simp only [solidRes] at h1 ⊢
  all_goals first
   | exact h1.imp fun i hi=>⟨hi.1,hp _ _ hi.2⟩
   | exact h1
   | (refine CallsIn.mono ?_ h1; exact fun e w' hh=>hh.imp fun i hi=>⟨hi.1,hp _ _ hi.2⟩)
   | exact h1.mono fun e w' hh=>hh.imp fun i hi=>⟨hi.1,hp _ _ hi.2⟩
   | trace_state
 | _=>exact h1
theorem Held.rest {k:Nat} (jj:Nat) {D:Ch} (hj:G[jj]? = some D) (hne:jj ≠ k) {H:Hp} (h:Held (Sat w0 [D]) H):Held (Sat w0 [restOf G k]) H:=fun w s=>h w (s.ofRest hj hne)
theorem Held.ofFrame (k:Nat) {F:Ch} (hk:G[k]? = some F) {H:Hp} (h:Held (Sat w0 [F]) H):Held (Sat w0 G) H:=fun w s=>h w (s.pick [k] (by simp) (by simp [hk]))
theorem Pu.makeMth {f:Fn} {x:Operand} {v:Value} (hx:ev fr x = some v):Pu P n ⟨dst,.makeFunc f #[x] #[],ty,pos,aft,g⟩ fr (.func f #[v] #[]):=fun a k w=>by
 simp [execOp,k.ev hx,Instr.makeFunc]
end
theorem Sat.shutP {w0 w:World} {G B:List Ch} {C:Ch} (fR fP:List Nat) (s:Sat w0 G w) (hx:Sat w0 (pk G fR ++ B) w→Sat w0 (C :: pk G fR) w) (hn:(fR ++ fP).Nodup) (hr:(fR.all fun i=>decide (i < G.length)) = true) (hp:fP.map (fun i=>G[i]?) = B.map some):Sat w0 (C :: pk G fR) w :=
 hx (s.pick (fR ++ fP) hn (by rw [List.map_append,List.map_append,pk_some hr,hp]))
end Go.Vg
set_option linter.unusedVariables false
set_option linter.unusedSimpArgs false
set_option maxRecDepth 20000
set_option maxHeartbeats 4000000
namespace Go.Proofs.YtmngdgclldkcfaaGreat
open Go.Vg
open Enc (R)
instance ty100:TyC Tryz.prog 100 (1,false):={}
end Go.Proofs.YtmngdgclldkcfaaGreat
set_option linter.unusedVariables false
set_option linter.unusedSimpArgs false
set_option maxRecDepth 20000
set_option maxHeartbeats 4000000
namespace Go.Proofs.YtmngdgclldkcfaaGreat
open Go.Vg
open Enc (R)
attribute [local go_sem] Oper.semAt_some
end Go.Proofs.YtmngdgclldkcfaaGreat
set_option linter.unusedVariables false
set_option linter.unusedSimpArgs false
set_option maxRecDepth 20000
set_option maxHeartbeats 4000000
namespace Go.Proofs.YtmngdgclldkcfaaGreat
open Go.Vg
open Enc (R)
theorem rdStars {w0:World} {α:Type} [Enc α] {L:List Ch} (jj:Nat) {D:Ch} (hj:L[jj]? = some D) {x:α} {cs:List Value} (h:Rd (Sat w0 [D]) x cs):Rd (Sat w0 [stars L]) x cs:=fun w s=>h w (Sat.pick (Sat.unstars L (G:=[]) s) [jj] (by simp) (by simp [hj]))
end Go.Proofs.YtmngdgclldkcfaaGreat
