/-
  Texts of one's own, joined: YE YF YJ.
-/
import Derived.Test.YtmngdgclldkcfaaGreatRows
import Derived.Test.YtmngdgclldkcfaaGreatJ6
import Derived.Test.YtmngdgclldkcfaaGreatJ7
import Derived.Test.YtmngdgclldkcfaaGreatJ17
import Derived.Test.YtmngdgclldkcfaaGreatJ11
import Derived.Test.YtmngdgclldkcfaaGreatJ15
import Derived.Test.YtmngdgclldkcfaaGreatNH
set_option linter.unusedVariables false
set_option linter.unusedSimpArgs false
set_option maxRecDepth 20000
set_option maxHeartbeats 4000000
namespace Go.Proofs.YtmngdgclldkcfaaGreat
open Go.Vg
open Enc (R)
theorem ar161:arTy Tryz.prog 161 = some (3,41,1):=by kernel_rfl
theorem ent177:Ent Tryz.prog 177:=en Tryz.func177
instance fd164_0:FdC Tryz.prog 164 0 0:={}
instance fd164_1:FdC Tryz.prog 164 1 8:={}
instance ty41:TyC Tryz.prog 41 (1,false):={}
structure Std where
 w:Wld
 op:O3
 cs:Cls
 deriving Inhabited
def Std_ch (g:Nat) (x:Std):Ch:=exch fun q:(Option Nat × Nat) × (Option Nat × Nat) × (Option Nat × Nat) × Value × Value × Value × Nat=>stars ((blk g [.int .i64 x.w.tick,.int .i64 x.w.players,.int .i64 x.w.nextid,.int .i64 x.w.g.w,.int .i64 x.w.g.h,rowV q.1 x.w.g.tiles.length,rowV q.2.1 x.w.bs.length,rowV q.2.2.1 x.w.us.length,q.2.2.2.1,q.2.2.2.2.1,q.2.2.2.2.2.1,.pointer (some ⟨q.2.2.2.2.2.2,0,none⟩)] 164) :: [row nilH 5 (rowV q.1 x.w.g.tiles.length) x.w.g.tiles,row nilH 135 (rowV q.2.1 x.w.bs.length) x.w.bs,row nilH 54 (rowV q.2.2.1 x.w.us.length) x.w.us,opn 4 q.2.2.2.1 q.2.2.2.2.1 q.2.2.2.2.2.1 x.op,Cells_ch q.2.2.2.2.2.2 x.cs])
theorem Std_open {w0 w:World} {G:List Ch} {g:Nat} {x:Std} (k:Nat) (hk:G[k]? = some (Std_ch g x)) (h:Sat w0 G w):∃ q:(Option Nat × Nat) × (Option Nat × Nat) × (Option Nat × Nat) × Value × Value × Value × Nat,Sat w0 (G.set k (blk g [.int .i64 x.w.tick,.int .i64 x.w.players,.int .i64 x.w.nextid,.int .i64 x.w.g.w,.int .i64 x.w.g.h,rowV q.1 x.w.g.tiles.length,rowV q.2.1 x.w.bs.length,rowV q.2.2.1 x.w.us.length,q.2.2.2.1,q.2.2.2.2.1,q.2.2.2.2.2.1,.pointer (some ⟨q.2.2.2.2.2.2,0,none⟩)] 164) ++ [row nilH 5 (rowV q.1 x.w.g.tiles.length) x.w.g.tiles,row nilH 135 (rowV q.2.1 x.w.bs.length) x.w.bs,row nilH 54 (rowV q.2.2.1 x.w.us.length) x.w.us,opn 4 q.2.2.2.1 q.2.2.2.2.1 q.2.2.2.2.2.1 x.op,Cells_ch q.2.2.2.2.2.2 x.cs]) w:=Sat.openAt (A:=fun q:(Option Nat × Nat) × (Option Nat × Nat) × (Option Nat × Nat) × Value × Value × Value × Nat=>(blk g [.int .i64 x.w.tick,.int .i64 x.w.players,.int .i64 x.w.nextid,.int .i64 x.w.g.w,.int .i64 x.w.g.h,rowV q.1 x.w.g.tiles.length,rowV q.2.1 x.w.bs.length,rowV q.2.2.1 x.w.us.length,q.2.2.2.1,q.2.2.2.2.1,q.2.2.2.2.2.1,.pointer (some ⟨q.2.2.2.2.2.2,0,none⟩)] 164)) (L:=fun q:(Option Nat × Nat) × (Option Nat × Nat) × (Option Nat × Nat) × Value × Value × Value × Nat=>[row nilH 5 (rowV q.1 x.w.g.tiles.length) x.w.g.tiles,row nilH 135 (rowV q.2.1 x.w.bs.length) x.w.bs,row nilH 54 (rowV q.2.2.1 x.w.us.length) x.w.us,opn 4 q.2.2.2.1 q.2.2.2.2.1 q.2.2.2.2.2.1 x.op,Cells_ch q.2.2.2.2.2.2 x.cs]) k hk h
theorem Std_shut {w0 w:World} {R:List Ch} {g:Nat} {x:Std} (q:(Option Nat × Nat) × (Option Nat × Nat) × (Option Nat × Nat) × Value × Value × Value × Nat) (h:Sat w0 (R ++ [blk g [.int .i64 x.w.tick,.int .i64 x.w.players,.int .i64 x.w.nextid,.int .i64 x.w.g.w,.int .i64 x.w.g.h,rowV q.1 x.w.g.tiles.length,rowV q.2.1 x.w.bs.length,rowV q.2.2.1 x.w.us.length,q.2.2.2.1,q.2.2.2.2.1,q.2.2.2.2.2.1,.pointer (some ⟨q.2.2.2.2.2.2,0,none⟩)] 164,row nilH 5 (rowV q.1 x.w.g.tiles.length) x.w.g.tiles,row nilH 135 (rowV q.2.1 x.w.bs.length) x.w.bs,row nilH 54 (rowV q.2.2.1 x.w.us.length) x.w.us,opn 4 q.2.2.2.1 q.2.2.2.2.1 q.2.2.2.2.2.1 x.op,Cells_ch q.2.2.2.2.2.2 x.cs]) w):Sat w0 (Std_ch g x :: R) w:=Sat.toEx (C:=fun q:(Option Nat × Nat) × (Option Nat × Nat) × (Option Nat × Nat) × Value × Value × Value × Nat=>stars ((blk g [.int .i64 x.w.tick,.int .i64 x.w.players,.int .i64 x.w.nextid,.int .i64 x.w.g.w,.int .i64 x.w.g.h,rowV q.1 x.w.g.tiles.length,rowV q.2.1 x.w.bs.length,rowV q.2.2.1 x.w.us.length,q.2.2.2.1,q.2.2.2.2.1,q.2.2.2.2.2.1,.pointer (some ⟨q.2.2.2.2.2.2,0,none⟩)] 164) :: [row nilH 5 (rowV q.1 x.w.g.tiles.length) x.w.g.tiles,row nilH 135 (rowV q.2.1 x.w.bs.length) x.w.bs,row nilH 54 (rowV q.2.2.1 x.w.us.length) x.w.us,opn 4 q.2.2.2.1 q.2.2.2.2.1 q.2.2.2.2.2.1 x.op,Cells_ch q.2.2.2.2.2.2 x.cs])) q (Sat.toStars ((blk g [.int .i64 x.w.tick,.int .i64 x.w.players,.int .i64 x.w.nextid,.int .i64 x.w.g.w,.int .i64 x.w.g.h,rowV q.1 x.w.g.tiles.length,rowV q.2.1 x.w.bs.length,rowV q.2.2.1 x.w.us.length,q.2.2.2.1,q.2.2.2.2.1,q.2.2.2.2.2.1,.pointer (some ⟨q.2.2.2.2.2.2,0,none⟩)] 164) :: [row nilH 5 (rowV q.1 x.w.g.tiles.length) x.w.g.tiles,row nilH 135 (rowV q.2.1 x.w.bs.length) x.w.bs,row nilH 54 (rowV q.2.2.1 x.w.us.length) x.w.us,opn 4 q.2.2.2.1 q.2.2.2.2.1 q.2.2.2.2.2.1 x.op,Cells_ch q.2.2.2.2.2.2 x.cs]) (G:=R) h)
def army_tiles (g:Grd) (bs:List Bld) (o:O3) (k:Int):Option (List Bool × O3) :=
  if 0 ≤ k∧k ≤ 2 then match o.get k with
  | some l=>some (l,o)
  | none=>Option.bind (clear_Tiles g bs k) fun l=>if 0 < l.length then some (l,o.put k l) else none
  else none
theorem army_tiles_get {g:Grd} {bs:List Bld} {o:O3} {k:Int} {r:List Bool × O3} (H:army_tiles g bs o k = some r):r.2.get k = some r.1:=by
 unfold army_tiles at H
 obtain ⟨hk,H⟩:=gdE H
 split at H
 ·rename_i l h; obtain rfl:=Option.some.inj H; exact h
 obtain ⟨l,_,H⟩:=bindE H
 obtain ⟨_,H⟩:=gdE H
 obtain rfl:=sj H
 unfold O3.get O3.put
 dsimp only
 split
 ·rfl
 split <;> rfl
theorem tiles_n0 {w0:World} {F:Ch} (g0 gc:Nat) (g:Grd) (bs:List Bld) (tick players nextid:Int) {vt vb vu:Value} (h0:Rd (Sat w0 [F]) g.tiles [vt]) (h1:Rd (Sat w0 [F]) bs [vb]) {v1 v2:Value} {o1 o2:Option (List Bool)} {l:List Bool} (H:clear_Tiles g bs 0 = some l) (hl:0 < l.length) (w:World) (s:Sat w0 [blk g0 [.int .i64 tick,.int .i64 players,.int .i64 nextid,.int .i64 g.w,.int .i64 g.h,vt,vb,vu,.slice none 0 0,v1,v2,.pointer (some ⟨gc,0,none⟩)] 164,orow 4 (.slice none 0 0) (none:Option (List Bool)),orow 4 (v1) o1,orow 4 (v2) o2,F] w):Calls Tryz.prog 120 #[.pointer (some ⟨g0,0,none⟩),.int .i64 0] w fun e w'=>∃ q:Option Nat × Nat,e = .returned (rowV q l.length)∧Sat w0 [blk g0 [.int .i64 tick,.int .i64 players,.int .i64 nextid,.int .i64 g.w,.int .i64 g.h,vt,vb,vu,rowV q l.length,v1,v2,.pointer (some ⟨gc,0,none⟩)] 164,orow 4 (rowV q l.length) (some l),orow 4 (v1) o1,orow 4 (v2) o2,F] w':=by
 refine te Tryz.func120 s ?_
 refine au 2 ?_
 refine T.seq fun _ k2=>T.seq fun _ k3=>T.region (au 4 ?_)
 refine rp (Pu.indexAr ar161 rfl rfl (by decide)) (rq (Qt.ldB 0 ty41.h rfl rfl rfl) (rp (Pu.eqNilSl usl41 rfl) (RS.nil (k3 _ _ ?_))))
 refine T.cond rfl (fun hc11=>?_) (fun hc11=>?_)
 ·refine kq [0,1] ?_
  refine T.drawn (fun _=>True) [(0,.pu),(1,.pu),(2,.pu),(3,.pu),(4,.pu),(5,.pu),(6,.rd),(7,.pu),(8,.pu),(9,.pu),(10,.pu),(11,.rd),(12,.pu),(14,.pu),(15,.pu),(13,.so),(16,.pu),(17,.br)] mixed (ClE.sat _ _) (by kernel_rfl) ?_
  refine au 15 ?_
  refine RD.solid rfl (.inl rfl) rfl rfl (Sd.callN ent177 rfl (fun w s=>clear_Tiles_walk g bs 0 w (Rd.ofFrame 4 rfl h0 w s) (Rd.ofFrame 4 rfl h1 w s) H)) (fun _=>ClE.sat _ _) (fun _ _ _=>trivial) (fun _ _ _ s=>s.drop1) fun q=>?_
  refine dp rfl (Pu.indexAr ar161 rfl rfl (by decide)) (RD.solid rfl (.inr rfl) rfl rfl (Sd.stB (cs':=[_,_,_,_,_,_,_,_,_,_,_,_]) 0 ty41.h rfl rfl rfl rfl rfl rfl rfl rfl) (fun _=>ClE.sat _ _) (fun _ _ _=>trivial) (fun h=>nomatch h) fun _=>?_)
  refine RD.nil (k2 _ _ (kq [0,1] ?_))
  refine T.seq fun _ k4=>T.region (au 4 ?_)
  refine rp (Pu.indexAr ar161 rfl rfl (by decide)) (au 2 ?_)
  refine RS.nil (k4 _ _ (kq [4] ?_))
  refine T.retTo (by with_reducible ((repeat (first | apply RetTo.seq | apply RetTo.blk)); exact RetTo.refl _)) (Cont.ret1 rfl rfl fun w' s=>?_)
  exact ⟨q,rfl,(Sat.rowOrow 5 s rfl hl).pick [0,5,2,3,4] (by decide) rfl⟩
 cases hc11 -- end
theorem tiles_o0 {w0:World} {F:Ch} (g0 gc:Nat) (g:Grd) (bs:List Bld) (tick players nextid:Int) {vt vb vu:Value} (h0:Rd (Sat w0 [F]) g.tiles [vt]) (h1:Rd (Sat w0 [F]) bs [vb]) {v1 v2:Value} {o1 o2:Option (List Bool)} {l:List Bool} {q c:Nat} (w:World) (s:Sat w0 [blk g0 [.int .i64 tick,.int .i64 players,.int .i64 nextid,.int .i64 g.w,.int .i64 g.h,vt,vb,vu,rowV (some q,c) l.length,v1,v2,.pointer (some ⟨gc,0,none⟩)] 164,orow 4 (rowV (some q,c) l.length) (some l),orow 4 (v1) o1,orow 4 (v2) o2,F] w):Calls Tryz.prog 120 #[.pointer (some ⟨g0,0,none⟩),.int .i64 0] w fun e w'=>e = .returned (rowV (some q,c) l.length)∧Sat w0 [blk g0 [.int .i64 tick,.int .i64 players,.int .i64 nextid,.int .i64 g.w,.int .i64 g.h,vt,vb,vu,rowV (some q,c) l.length,v1,v2,.pointer (some ⟨gc,0,none⟩)] 164,orow 4 (rowV (some q,c) l.length) (some l),orow 4 (v1) o1,orow 4 (v2) o2,F] w':=by
 refine te Tryz.func120 s ?_
 refine au 2 ?_
 refine T.seq fun _ k2=>T.seq fun _ k3=>T.region (au 4 ?_)
 refine rp (Pu.indexAr ar161 rfl rfl (by decide)) (rq (Qt.ldB 0 ty41.h rfl rfl rfl) (rp (Pu.eqNilSl usl41 rfl) (RS.nil (k3 _ _ ?_))))
 refine T.cond rfl (fun hc11=>?_) (fun hc11=>?_)
 ·cases hc11 -- end
 refine T.skip (k2 _ _ (kq [0,1] ?_))
 refine T.seq fun _ k4=>T.region (au 4 ?_)
 refine rp (Pu.indexAr ar161 rfl rfl (by decide)) (au 2 ?_)
 refine RS.nil (k4 _ _ (kq [4] ?_))
 refine T.retTo (by with_reducible ((repeat (first | apply RetTo.seq | apply RetTo.blk)); exact RetTo.refl _)) (Cont.ret1 rfl rfl fun w' s=>?_)
 exact ⟨rfl,s⟩
theorem tiles_n1 {w0:World} {F:Ch} (g0 gc:Nat) (g:Grd) (bs:List Bld) (tick players nextid:Int) {vt vb vu:Value} (h0:Rd (Sat w0 [F]) g.tiles [vt]) (h1:Rd (Sat w0 [F]) bs [vb]) {v0 v2:Value} {o0 o2:Option (List Bool)} {l:List Bool} (H:clear_Tiles g bs 1 = some l) (hl:0 < l.length) (w:World) (s:Sat w0 [blk g0 [.int .i64 tick,.int .i64 players,.int .i64 nextid,.int .i64 g.w,.int .i64 g.h,vt,vb,vu,v0,.slice none 0 0,v2,.pointer (some ⟨gc,0,none⟩)] 164,orow 4 (v0) o0,orow 4 (.slice none 0 0) (none:Option (List Bool)),orow 4 (v2) o2,F] w):Calls Tryz.prog 120 #[.pointer (some ⟨g0,0,none⟩),.int .i64 1] w fun e w'=>∃ q:Option Nat × Nat,e = .returned (rowV q l.length)∧Sat w0 [blk g0 [.int .i64 tick,.int .i64 players,.int .i64 nextid,.int .i64 g.w,.int .i64 g.h,vt,vb,vu,v0,rowV q l.length,v2,.pointer (some ⟨gc,0,none⟩)] 164,orow 4 (v0) o0,orow 4 (rowV q l.length) (some l),orow 4 (v2) o2,F] w':=by
 refine te Tryz.func120 s ?_
 refine au 2 ?_
 refine T.seq fun _ k2=>T.seq fun _ k3=>T.region (au 4 ?_)
 refine rp (Pu.indexAr ar161 rfl rfl (by decide)) (rq (Qt.ldB 0 ty41.h rfl rfl rfl) (rp (Pu.eqNilSl usl41 rfl) (RS.nil (k3 _ _ ?_))))
 refine T.cond rfl (fun hc11=>?_) (fun hc11=>?_)
 ·refine kq [0,1] ?_
  refine T.drawn (fun _=>True) [(0,.pu),(1,.pu),(2,.pu),(3,.pu),(4,.pu),(5,.pu),(6,.rd),(7,.pu),(8,.pu),(9,.pu),(10,.pu),(11,.rd),(12,.pu),(14,.pu),(15,.pu),(13,.so),(16,.pu),(17,.br)] mixed (ClE.sat _ _) (by kernel_rfl) ?_
  refine au 15 ?_
  refine RD.solid rfl (.inl rfl) rfl rfl (Sd.callN ent177 rfl (fun w s=>clear_Tiles_walk g bs 1 w (Rd.ofFrame 4 rfl h0 w s) (Rd.ofFrame 4 rfl h1 w s) H)) (fun _=>ClE.sat _ _) (fun _ _ _=>trivial) (fun _ _ _ s=>s.drop1) fun q=>?_
  refine dp rfl (Pu.indexAr ar161 rfl rfl (by decide)) (RD.solid rfl (.inr rfl) rfl rfl (Sd.stB (cs':=[_,_,_,_,_,_,_,_,_,_,_,_]) 0 ty41.h rfl rfl rfl rfl rfl rfl rfl rfl) (fun _=>ClE.sat _ _) (fun _ _ _=>trivial) (fun h=>nomatch h) fun _=>?_)
  refine RD.nil (k2 _ _ (kq [0,1] ?_))
  refine T.seq fun _ k4=>T.region (au 4 ?_)
  refine rp (Pu.indexAr ar161 rfl rfl (by decide)) (au 2 ?_)
  refine RS.nil (k4 _ _ (kq [4] ?_))
  refine T.retTo (by with_reducible ((repeat (first | apply RetTo.seq | apply RetTo.blk)); exact RetTo.refl _)) (Cont.ret1 rfl rfl fun w' s=>?_)
  exact ⟨q,rfl,(Sat.rowOrow 5 s rfl hl).pick [0,1,5,3,4] (by decide) rfl⟩
 cases hc11 -- end
theorem tiles_o1 {w0:World} {F:Ch} (g0 gc:Nat) (g:Grd) (bs:List Bld) (tick players nextid:Int) {vt vb vu:Value} (h0:Rd (Sat w0 [F]) g.tiles [vt]) (h1:Rd (Sat w0 [F]) bs [vb]) {v0 v2:Value} {o0 o2:Option (List Bool)} {l:List Bool} {q c:Nat} (w:World) (s:Sat w0 [blk g0 [.int .i64 tick,.int .i64 players,.int .i64 nextid,.int .i64 g.w,.int .i64 g.h,vt,vb,vu,v0,rowV (some q,c) l.length,v2,.pointer (some ⟨gc,0,none⟩)] 164,orow 4 (v0) o0,orow 4 (rowV (some q,c) l.length) (some l),orow 4 (v2) o2,F] w):Calls Tryz.prog 120 #[.pointer (some ⟨g0,0,none⟩),.int .i64 1] w fun e w'=>e = .returned (rowV (some q,c) l.length)∧Sat w0 [blk g0 [.int .i64 tick,.int .i64 players,.int .i64 nextid,.int .i64 g.w,.int .i64 g.h,vt,vb,vu,v0,rowV (some q,c) l.length,v2,.pointer (some ⟨gc,0,none⟩)] 164,orow 4 (v0) o0,orow 4 (rowV (some q,c) l.length) (some l),orow 4 (v2) o2,F] w':=by
 refine te Tryz.func120 s ?_
 refine au 2 ?_
 refine T.seq fun _ k2=>T.seq fun _ k3=>T.region (au 4 ?_)
 refine rp (Pu.indexAr ar161 rfl rfl (by decide)) (rq (Qt.ldB 0 ty41.h rfl rfl rfl) (rp (Pu.eqNilSl usl41 rfl) (RS.nil (k3 _ _ ?_))))
 refine T.cond rfl (fun hc11=>?_) (fun hc11=>?_)
 ·cases hc11 -- end
 refine T.skip (k2 _ _ (kq [0,1] ?_))
 refine T.seq fun _ k4=>T.region (au 4 ?_)
 refine rp (Pu.indexAr ar161 rfl rfl (by decide)) (au 2 ?_)
 refine RS.nil (k4 _ _ (kq [4] ?_))
 refine T.retTo (by with_reducible ((repeat (first | apply RetTo.seq | apply RetTo.blk)); exact RetTo.refl _)) (Cont.ret1 rfl rfl fun w' s=>?_)
 exact ⟨rfl,s⟩
theorem tiles_n2 {w0:World} {F:Ch} (g0 gc:Nat) (g:Grd) (bs:List Bld) (tick players nextid:Int) {vt vb vu:Value} (h0:Rd (Sat w0 [F]) g.tiles [vt]) (h1:Rd (Sat w0 [F]) bs [vb]) {v0 v1:Value} {o0 o1:Option (List Bool)} {l:List Bool} (H:clear_Tiles g bs 2 = some l) (hl:0 < l.length) (w:World) (s:Sat w0 [blk g0 [.int .i64 tick,.int .i64 players,.int .i64 nextid,.int .i64 g.w,.int .i64 g.h,vt,vb,vu,v0,v1,.slice none 0 0,.pointer (some ⟨gc,0,none⟩)] 164,orow 4 (v0) o0,orow 4 (v1) o1,orow 4 (.slice none 0 0) (none:Option (List Bool)),F] w):Calls Tryz.prog 120 #[.pointer (some ⟨g0,0,none⟩),.int .i64 2] w fun e w'=>∃ q:Option Nat × Nat,e = .returned (rowV q l.length)∧Sat w0 [blk g0 [.int .i64 tick,.int .i64 players,.int .i64 nextid,.int .i64 g.w,.int .i64 g.h,vt,vb,vu,v0,v1,rowV q l.length,.pointer (some ⟨gc,0,none⟩)] 164,orow 4 (v0) o0,orow 4 (v1) o1,orow 4 (rowV q l.length) (some l),F] w':=by
 refine te Tryz.func120 s ?_
 refine au 2 ?_
 refine T.seq fun _ k2=>T.seq fun _ k3=>T.region (au 4 ?_)
 refine rp (Pu.indexAr ar161 rfl rfl (by decide)) (rq (Qt.ldB 0 ty41.h rfl rfl rfl) (rp (Pu.eqNilSl usl41 rfl) (RS.nil (k3 _ _ ?_))))
 refine T.cond rfl (fun hc11=>?_) (fun hc11=>?_)
 ·refine kq [0,1] ?_
  refine T.drawn (fun _=>True) [(0,.pu),(1,.pu),(2,.pu),(3,.pu),(4,.pu),(5,.pu),(6,.rd),(7,.pu),(8,.pu),(9,.pu),(10,.pu),(11,.rd),(12,.pu),(14,.pu),(15,.pu),(13,.so),(16,.pu),(17,.br)] mixed (ClE.sat _ _) (by kernel_rfl) ?_
  refine au 15 ?_
  refine RD.solid rfl (.inl rfl) rfl rfl (Sd.callN ent177 rfl (fun w s=>clear_Tiles_walk g bs 2 w (Rd.ofFrame 4 rfl h0 w s) (Rd.ofFrame 4 rfl h1 w s) H)) (fun _=>ClE.sat _ _) (fun _ _ _=>trivial) (fun _ _ _ s=>s.drop1) fun q=>?_
  refine dp rfl (Pu.indexAr ar161 rfl rfl (by decide)) (RD.solid rfl (.inr rfl) rfl rfl (Sd.stB (cs':=[_,_,_,_,_,_,_,_,_,_,_,_]) 0 ty41.h rfl rfl rfl rfl rfl rfl rfl rfl) (fun _=>ClE.sat _ _) (fun _ _ _=>trivial) (fun h=>nomatch h) fun _=>?_)
  refine RD.nil (k2 _ _ (kq [0,1] ?_))
  refine T.seq fun _ k4=>T.region (au 4 ?_)
  refine rp (Pu.indexAr ar161 rfl rfl (by decide)) (au 2 ?_)
  refine RS.nil (k4 _ _ (kq [4] ?_))
  refine T.retTo (by with_reducible ((repeat (first | apply RetTo.seq | apply RetTo.blk)); exact RetTo.refl _)) (Cont.ret1 rfl rfl fun w' s=>?_)
  exact ⟨q,rfl,(Sat.rowOrow 5 s rfl hl).pick [0,1,2,5,4] (by decide) rfl⟩
 cases hc11 -- end
theorem tiles_o2 {w0:World} {F:Ch} (g0 gc:Nat) (g:Grd) (bs:List Bld) (tick players nextid:Int) {vt vb vu:Value} (h0:Rd (Sat w0 [F]) g.tiles [vt]) (h1:Rd (Sat w0 [F]) bs [vb]) {v0 v1:Value} {o0 o1:Option (List Bool)} {l:List Bool} {q c:Nat} (w:World) (s:Sat w0 [blk g0 [.int .i64 tick,.int .i64 players,.int .i64 nextid,.int .i64 g.w,.int .i64 g.h,vt,vb,vu,v0,v1,rowV (some q,c) l.length,.pointer (some ⟨gc,0,none⟩)] 164,orow 4 (v0) o0,orow 4 (v1) o1,orow 4 (rowV (some q,c) l.length) (some l),F] w):Calls Tryz.prog 120 #[.pointer (some ⟨g0,0,none⟩),.int .i64 2] w fun e w'=>e = .returned (rowV (some q,c) l.length)∧Sat w0 [blk g0 [.int .i64 tick,.int .i64 players,.int .i64 nextid,.int .i64 g.w,.int .i64 g.h,vt,vb,vu,v0,v1,rowV (some q,c) l.length,.pointer (some ⟨gc,0,none⟩)] 164,orow 4 (v0) o0,orow 4 (v1) o1,orow 4 (rowV (some q,c) l.length) (some l),F] w':=by
 refine te Tryz.func120 s ?_
 refine au 2 ?_
 refine T.seq fun _ k2=>T.seq fun _ k3=>T.region (au 4 ?_)
 refine rp (Pu.indexAr ar161 rfl rfl (by decide)) (rq (Qt.ldB 0 ty41.h rfl rfl rfl) (rp (Pu.eqNilSl usl41 rfl) (RS.nil (k3 _ _ ?_))))
 refine T.cond rfl (fun hc11=>?_) (fun hc11=>?_)
 ·cases hc11 -- end
 refine T.skip (k2 _ _ (kq [0,1] ?_))
 refine T.seq fun _ k4=>T.region (au 4 ?_)
 refine rp (Pu.indexAr ar161 rfl rfl (by decide)) (au 2 ?_)
 refine RS.nil (k4 _ _ (kq [4] ?_))
 refine T.retTo (by with_reducible ((repeat (first | apply RetTo.seq | apply RetTo.blk)); exact RetTo.refl _)) (Cont.ret1 rfl rfl fun w' s=>?_)
 exact ⟨rfl,s⟩
theorem army_tiles_walk {w0:World} {F:Ch} (g0 gc:Nat) (g:Grd) (bs:List Bld) (tick players nextid:Int) {vt vb vu:Value} (h0:Rd (Sat w0 [F]) g.tiles [vt]) (h1:Rd (Sat w0 [F]) bs [vb]) {va vb' vc:Value} (o:O3) (k:Int) {r:List Bool × O3} (H:army_tiles g bs o k = some r) (w:World) (s:Sat w0 ([blk g0 [.int .i64 tick,.int .i64 players,.int .i64 nextid,.int .i64 g.w,.int .i64 g.h,vt,vb,vu,va,vb',vc,.pointer (some ⟨gc,0,none⟩)] 164,opn 4 va vb' vc o] ++ [F]) w):Calls Tryz.prog 120 #[.pointer (some ⟨g0,0,none⟩),.int .i64 k] w fun e w'=>∃ z:Value × Value × Value,e = .returned (vsel z.1 z.2.1 z.2.2 k)∧Sat w0 ([blk g0 [.int .i64 tick,.int .i64 players,.int .i64 nextid,.int .i64 g.w,.int .i64 g.h,vt,vb,vu,z.1,z.2.1,z.2.2,.pointer (some ⟨gc,0,none⟩)] 164,opn 4 z.1 z.2.1 z.2.2 r.2] ++ [F]) w':=by
 obtain ⟨oa,ob,oc⟩:=o
 have s1:Sat w0 [blk g0 [.int .i64 tick,.int .i64 players,.int .i64 nextid,.int .i64 g.w,.int .i64 g.h,vt,vb,vu,va,vb',vc,.pointer (some ⟨gc,0,none⟩)] 164,orow 4 va oa,orow 4 vb' ob,orow 4 vc oc,F] w:=(Sat.unstars [orow 4 va oa,orow 4 vb' ob,orow 4 vc oc] (G:=[blk g0 [.int .i64 tick,.int .i64 players,.int .i64 nextid,.int .i64 g.w,.int .i64 g.h,vt,vb,vu,va,vb',vc,.pointer (some ⟨gc,0,none⟩)] 164,F]) (s.pc [1,0,2])).pick [0,2,3,4,1] (by decide) rfl
 unfold army_tiles at H
 obtain ⟨hk,H⟩:=gdE H
 have pk:∀ {w':World} {x y z:Value} {a b c:Option (List Bool)},Sat w0 [blk g0 [.int .i64 tick,.int .i64 players,.int .i64 nextid,.int .i64 g.w,.int .i64 g.h,vt,vb,vu,x,y,z,.pointer (some ⟨gc,0,none⟩)] 164,orow 4 x a,orow 4 y b,orow 4 z c,F] w'→Sat w0 ([blk g0 [.int .i64 tick,.int .i64 players,.int .i64 nextid,.int .i64 g.w,.int .i64 g.h,vt,vb,vu,x,y,z,.pointer (some ⟨gc,0,none⟩)] 164,opn 4 x y z ⟨a,b,c⟩] ++ [F]) w':=fun s=>(Sat.toStars _ (G:=[_,F]) (s.pc [0,4,1,2,3])).pick [1,0,2] (by decide) rfl
 rcases (show k = 0 ∨ k = 1 ∨ k = 2 by omega) with rfl | rfl | rfl
 ·cases oa with
  | some l =>
   obtain rfl:=sj H
   obtain ⟨q,c,rfl⟩:=Sat.orow_some 1 s1 rfl rfl
   exact (tiles_o0 g0 gc g bs tick players nextid h0 h1 w s1).mono fun e w' ⟨he,s⟩=>⟨(rowV (some q,c) l.length,vb',vc),he,pk s⟩
  | none =>
   obtain ⟨l,hl,H⟩:=bindE H
   obtain ⟨hp,H⟩:=gdE H
   obtain rfl:=sj H
   obtain rfl:=Sat.orow_none 1 s1 rfl rfl
   exact (tiles_n0 g0 gc g bs tick players nextid h0 h1 hl hp w s1).mono fun e w' ⟨q,he,s⟩=>⟨(rowV q l.length,vb',vc),he,pk s⟩
 ·cases ob with
  | some l =>
   obtain rfl:=sj H
   obtain ⟨q,c,rfl⟩:=Sat.orow_some 2 s1 rfl rfl
   exact (tiles_o1 g0 gc g bs tick players nextid h0 h1 w s1).mono fun e w' ⟨he,s⟩=>⟨(va,rowV (some q,c) l.length,vc),he,pk s⟩
  | none =>
   obtain ⟨l,hl,H⟩:=bindE H
   obtain ⟨hp,H⟩:=gdE H
   obtain rfl:=sj H
   obtain rfl:=Sat.orow_none 2 s1 rfl rfl
   exact (tiles_n1 g0 gc g bs tick players nextid h0 h1 hl hp w s1).mono fun e w' ⟨q,he,s⟩=>⟨(va,rowV q l.length,vc),he,pk s⟩
 cases oc with
 | some l =>
  obtain rfl:=sj H
  obtain ⟨q,c,rfl⟩:=Sat.orow_some 3 s1 rfl rfl
  exact (tiles_o2 g0 gc g bs tick players nextid h0 h1 w s1).mono fun e w' ⟨he,s⟩=>⟨(va,vb',rowV (some q,c) l.length),he,pk s⟩
 | none =>
  obtain ⟨l,hl,H⟩:=bindE H
  obtain ⟨hp,H⟩:=gdE H
  obtain rfl:=sj H
  obtain rfl:=Sat.orow_none 3 s1 rfl rfl
  exact (tiles_n2 g0 gc g bs tick players nextid h0 h1 hl hp w s1).mono fun e w' ⟨q,he,s⟩=>⟨(va,vb',rowV q l.length),he,pk s⟩
end Go.Proofs.YtmngdgclldkcfaaGreat
set_option linter.unusedVariables false
set_option linter.unusedSimpArgs false
set_option maxRecDepth 20000
set_option maxHeartbeats 4000000
namespace Go.Proofs.YtmngdgclldkcfaaGreat
open Go.Vg
open Enc (R)
def army_Near (a0_s:Std) (a1_p:Vec) (a2_r:Int):Option (List Unt) :=
  if I64 (a2_r + 81920) then
  Option.bind (cells_Near a0_s.cs a1_p (a2_r + 81920)) fun x10 =>
  Option.bind (α:=List Unt) (loop (σ:=List Unt × Int) (β:=List Unt) (fun (l15,v17) =>
  if v17 < (x10.length:Int) then
  if 0 ≤ v17∧v17 < (x10.length:Int) then
  Option.bind (army_At a0_s.w.us (gi x10 v17)) fun x30 =>
  if 0 ≤ x30.1∧x30.1 < (a0_s.w.us.length:Int) then
  if l15.length < 1099511627776 then
  if I64 (v17 + 1) then
  some (St.next ((l15 ++ [(gi a0_s.w.us x30.1)]),(v17 + 1)))
  else none
  else none
  else none
  else none
  else
  some (St.done l15)) ([],0)) fun v13 =>
  some v13
  else none
def army_Place (a0_s:Std) (a1_id:Int) (a2_k:Int) (a3_p:Vec):Option (Bool × Std) :=
  Option.bind (kind_What a2_k) fun x2 =>
  Option.bind (army_tiles a0_s.w.g a0_s.w.bs a0_s.op x2.cls) fun x11 =>
  Option.bind (disc_Fits a0_s.w.g x11.1 a3_p x2.radius) fun x15 =>
  if (!x15) = true then
  none
  else
  Option.bind (army_Near (⟨a0_s.w,x11.2,a0_s.cs⟩:Std) a3_p x2.radius) fun x17 =>
  Option.bind (α:=Ex (Unit) (Bool × Std)) (loop (σ:=Int) (β:=Ex (Unit) (Bool × Std)) (fun v20 =>
  if v20 < (x17.length:Int) then
  if 0 ≤ v20∧v20 < (x17.length:Int) then
  Option.bind (if ¬ (gi x17 v20).id = a1_id then
  Option.bind (kind_What ((gi x17 v20).kind)) fun x32 =>
  Option.bind (disc_Apart a3_p x2.radius ((gi x17 v20).pos) x32.radius) fun x33 =>
  some (!x33)
  else
  some false) fun b29 =>
  if b29 = true then
  some (St.done (Ex.up (false,(⟨a0_s.w,x11.2,a0_s.cs⟩:Std))))
  else
  none
  else none
  else
  some (St.done (Ex.go ()))) 0) fun x=>x.then fun _ =>
  some (true,(⟨a0_s.w,x11.2,a0_s.cs⟩:Std))
end Go.Proofs.YtmngdgclldkcfaaGreat
set_option linter.unusedVariables false
set_option linter.unusedSimpArgs false
set_option maxRecDepth 20000
set_option maxHeartbeats 4000000
namespace Go.Proofs.YtmngdgclldkcfaaGreat
open Go.Vg
open Enc (R)
theorem ent118:Ent Tryz.prog 118:=en Tryz.func118
theorem ent119:Ent Tryz.prog 119:=en Tryz.func119
theorem ent120:Ent Tryz.prog 120:=en Tryz.func120
theorem ent121:Ent Tryz.prog 121:=en Tryz.func121
theorem ent122:Ent Tryz.prog 122:=en Tryz.func122
theorem ent123:Ent Tryz.prog 123:=en Tryz.func123
theorem ent178:Ent Tryz.prog 178:=en Tryz.func178
instance fd164_2:FdC Tryz.prog 164 2 11:={}
instance fd73_0:FdC Tryz.prog 73 0 0:={}
instance fd73_2:FdC Tryz.prog 73 2 2:={}
theorem fld73_0:fldTy Tryz.prog 73 0 = some (2,0):=by kernel_rfl
theorem army_Near_walk {w0:World} {F:Ch} (g0:Nat) (a0_s:Std) (a1_p:Vec) (a2_r:Int) {r:List Unt} (H:army_Near a0_s a1_p a2_r = some r) (w:World) (s:Sat w0 [Std_ch g0 a0_s,F] w):Calls Tryz.prog 121 #[.pointer (some ⟨g0,0,none⟩),.agg #[.int .i64 a1_p.x,.int .i64 a1_p.y],.int .i64 a2_r] w fun e w'=>∃ q1:(Option Nat × Nat),e = .returned (rowV q1 r.length)∧Sat w0 ([Std_ch g0 a0_s,F] ++ [row nilH 54 (rowV q1 r.length) r]) w':=by
 unfold army_Near at H
 refine te Tryz.func121 s ?_
 refine T.seq fun _ k1=>T.region (RS.solid (Sd.box (cs:=[_,_]) rfl rfl) rfl rfl fun b1=>rA rfl (RS.nil (k1 _ _ ?_)))
 refine T.seq fun _ k2=>T.seq fun _ k3=>?_
 refine T.ex (fun w s=>Std_open 0 rfl s) ?_
 rintro ⟨qt2,qb3,qu4,va5,vb6,vc7,gc8⟩
 refine nz ?_
 refine T.drawn (fun _=>True) [(0,.pu),(1,.pu),(2,.pu),(3,.rd),(4,.rd),(5,.pu),(6,.pu),(9,.pu),(7,.so),(8,.pu)] mixed (ClE.sat _ _) (by kernel_rfl) ?_
 refine au 6 ?_
 obtain ⟨g9,H⟩:=gdE H
 refine dp rfl (Pu.addS rfl rfl g9) (dp rfl (Pu.move rfl) ?_)
 obtain ⟨x10,hx10,H⟩:=bindE H
 refine RD.solid rfl (.inl rfl) rfl rfl (Sd.callF 7 ent178 rfl rfl (fun w s=>cells_Near_walk gc8 a0_s.cs a1_p (a2_r + 81920)  hx10 w s)) (fun _=>ClE.sat _ _) (fun _ _ _=>trivial) (fun _ _ _ s=>s.pc [0,1,2,3,4,5,6,7]) fun q11=>?_
 refine dp rfl (Pu.lenSl sl35.h rfl) (RD.nil (k3 _ _ (kq [0,6,18,19,20] ?_)))
 refine T.wk (fun w s=>(Sat.sP [1,2,8] [0,3,4,5,6,7] s (Std_shut (x:=a0_s) ⟨qt2,qb3,qu4,va5,vb6,vc7,gc8⟩))) ?_
 refine T.joinE (σ:=List Unt) (γ:=(Option Nat × Nat)) H (fun s=>s) [] trivial (fun v13 q14=>[(6,rowV q14 v13.length)]) (fun v13 q14=>Sat w0 [Std_ch g0 a0_s,F,blk b1 [.int .i64 a1_p.x,.int .i64 a1_p.y] 33,row nilH 3 (rowV q11 x10.length) x10,row nilH 54 (rowV q14 v13.length) v13]) ?_ ?_
 ·rintro v13 q14 H
  try dsimp only [Ex.then] at H
  refine Cont.kq [6] ?_
  refine id (k2 _ _ ?_)
  refine au 3 ?_
  obtain rfl:=sj H
  refine T.rt (Cont.ret1 rfl rfl fun w' s=>?_)
  exact ⟨q14,rfl,s.pc [0,1,4]⟩
 intro z12 hz12 HX12 hJ12
 refine T.block ?_
 refine T.loopA (γ:=(Option Nat × Nat)) hz12 [(0,_),(18,_),(19,_)] (fun (l15,v17) q16=>[(6,rowV q16 l15.length),(20,.int .i64 v17)]) (fun (l15,v17) q16=>Sat w0 [Std_ch g0 a0_s,F,blk b1 [.int .i64 a1_p.x,.int .i64 a1_p.y] 33,row nilH 3 (rowV q11 x10.length) x10,row nilH 54 (rowV q16 l15.length) l15]) (none,0) sb sb (fun w s=>(s.nilRow (α:=Unt) 54).pick [0,1,2,3,4] (by decide) rfl) ?_
 rintro ⟨l15,v17⟩ q16 y18 H hd12 KL12 hL12
 try dsimp only [Ex.then] at H
 refine kq [6,20,0,18,19] ?_
 refine au 2 ?_
 refine T.seq fun _ k6=>?_
 refine T.cP H rfl (fun hc19 H=>?_) (fun hc19 H=>?_)
 ·refine T.skip (k6 _ _ ?_)
  refine T.seq fun _ k7=>T.block (T.seq fun _ k8=>T.region ?_)
  obtain ⟨g20,H⟩:=gdE H
  refine RS.know (p:=∃ g cap,q11 = (some g,cap)) (fun w s=>(s.row_some (k:=3) rfl (pos_of g20))) ?_
  rintro ⟨gg21,cc22,rfl⟩
  refine rp (Pu.indexSl sl35.h rfl rfl g20) (rq (Qt.ld0 (α:=Int) (Rd.ofRowN 3 rfl) ty3.h rfl rfl g20 (by rintro _ _ rfl; rfl)) (rA rfl (RS.nil (k8 _ _ (kq [0,6,8,18,19,20] ?_)))))
  refine T.seq fun _ k9=>T.region (au 2 ?_)
  refine RS.ex (fun w s=>Std_open 0 rfl s) ?_
  rintro ⟨qt23,qb24,qu25,va26,vb27,vc28,gc29⟩
  refine au 4 ?_
  obtain ⟨x30,hx30,H⟩:=bindE H
  refine rq (Qt.call (vs:=[_,_]) ent123 rfl fun w s=>army_At_walk a0_s.w.us (gi x10 v17) w ((Rd.ofRowN 7 rfl) w s) hx30) (au 5 ?_)
  refine RS.nil (k9 _ _ (kq [0,6,9,18,19,20] ?_))
  refine nz ?_
  refine T.region (au 7 ?_)
  obtain ⟨g31,H⟩:=gdE H
  refine RS.know (p:=∃ g cap,qu25 = (some g,cap)) (fun w s=>(s.row_some (k:=7) rfl (pos_of g31))) ?_
  rintro ⟨gg32,cc33,rfl⟩
  refine rp (Pu.indexSl sl50.h rfl rfl g31) (rq (Qt.ldW (α:=Unt) (cs:=[_,_,_,_,_,_,_,_,_,_]) (Rd.ofRowN 7 rfl) ty54.h rfl rfl g31 rfl (by rintro _ _ rfl; rfl)) (RS.solid (Sd.litS (cs:=[_,_,_,_,_,_,_,_,_,_]) sl50.h zr54 rfl rfl rfl rfl rfl) rfl rfl fun b34=>?_))
  obtain ⟨g36,H⟩:=gdE H
  refine RS.solid (Sd.app1c (α:=Unt) 4 10 (gi a0_s.w.us x30.1) rfl rfl (nilH_lt _) sl50.h zr54 rfl rfl rfl rfl g36 (by decide)) rfl rfl fun q35=>rA rfl (RS.nil (k7 _ _ (kq [0,6,18,19,20] ?_)))
  refine nz ?_
  refine T.region ?_
  obtain ⟨g37,H⟩:=gdE H
  refine rp (Pu.addS rfl rfl g37) (rM rfl (RS.nil ?_))
  refine Cont.wk (fun w s=>(Sat.sP [1,2,3,4,10] [0,5,6,7,8,9] s (Std_shut (x:=a0_s) ⟨qt23,qb24,(some gg32,cc33),va26,vb27,vc28,gc29⟩))) ?_
  refine id (hL12 _ _ ((l15 ++ [(gi a0_s.w.us x30.1)]),(v17 + 1)) q35 H sb sb (fun w s=>s.pc [0,1,2,3,4]))
 refine T.xt ?_
 obtain rfl:=hd12 _ H
 refine id (hJ12 _ _ l15 q16 HX12 trivial sb (fun w s=>s))
theorem army_Place_walk {w0:World} {F:Ch} (g0:Nat) (a0_s:Std) (a1_id:Int) (a2_k:Int) (a3_p:Vec) {r:Bool × Std} (H:army_Place a0_s a1_id a2_k a3_p = some r) (w:World) (s:Sat w0 [Std_ch g0 a0_s,F] w):Calls Tryz.prog 72 #[.pointer (some ⟨g0,0,none⟩),.int .i64 a1_id,.int .i64 a2_k,.agg #[.int .i64 a3_p.x,.int .i64 a3_p.y]] w fun e w'=>e = .returned (.bool r.1)∧Sat w0 [Std_ch g0 r.2,F] w':=by
 unfold army_Place at H
 refine te Tryz.func72 s ?_
 refine T.seq fun _ k1=>T.region (RS.solid (Sd.box (cs:=[_,_]) rfl rfl) rfl rfl fun b1=>rA rfl (RS.nil (k1 _ _ ?_)))
 refine T.seq fun _ k2=>T.region (rM rfl ?_)
 obtain ⟨x2,hx2,H⟩:=bindE H
 refine rq (Qt.call (vs:=[_]) ent118 rfl fun w s=>kind_What_walk a2_k w  hx2) (RS.solid (Sd.alloc zr73 rfl) rfl rfl fun b3=>RS.solid (Sd.stB (cs':=[_,_,_,_,_]) 3 ty73.h rfl rfl rfl rfl rfl rfl rfl rfl) rfl rfl fun _=>RS.nil (k2 _ _ (kq [0,1,7,9] ?_)))
 refine T.seq fun _ k3=>T.seq fun _ k4=>?_
 refine T.ex (fun w s=>Std_open 0 rfl s) ?_
 rintro ⟨qt4,qb5,qu6,va7,vb8,vc9,gc10⟩
 refine nz ?_
 refine T.drawn (Sat w0 [(exch fun v:Value × Value × Value=>blk g0 [.int .i64 a0_s.w.tick,.int .i64 a0_s.w.players,.int .i64 a0_s.w.nextid,.int .i64 a0_s.w.g.w,.int .i64 a0_s.w.g.h,rowV qt4 a0_s.w.g.tiles.length,rowV qb5 a0_s.w.bs.length,rowV qu6 a0_s.w.us.length,v.1,v.2.1,v.2.2,.pointer (some ⟨gc10,0,none⟩)] 164),F,blk b1 [.int .i64 a3_p.x,.int .i64 a3_p.y] 33,blk b3 [.int .i64 x2.radius,.int .i64 x2.speed,.int .i64 x2.cls,.int .i64 x2.size,.int .i64 x2.room] 73,row nilH 5 (rowV qt4 a0_s.w.g.tiles.length) a0_s.w.g.tiles,row nilH 135 (rowV qb5 a0_s.w.bs.length) a0_s.w.bs,row nilH 54 (rowV qu6 a0_s.w.us.length) a0_s.w.us,Cells_ch gc10 a0_s.cs]) [(0,.pu),(1,.pu),(2,.pu),(3,.pu),(4,.wk),(5,.pu),(6,.pu),(7,.rd),(9,.wk),(10,.pu),(11,.wk),(8,.br),(12,.rd),(13,.pu)] mixed (ClE.sat _ _) (by kernel_rfl) ?_
 refine RD.p (fun w s=>(s.weaken 0 rfl (exch fun v:Value × Value × Value=>blk g0 [.int .i64 a0_s.w.tick,.int .i64 a0_s.w.players,.int .i64 a0_s.w.nextid,.int .i64 a0_s.w.g.w,.int .i64 a0_s.w.g.h,rowV qt4 a0_s.w.g.tiles.length,rowV qb5 a0_s.w.bs.length,rowV qu6 a0_s.w.us.length,v.1,v.2.1,v.2.2,.pointer (some ⟨gc10,0,none⟩)] 164) fun p hp=>⟨(_,_,_),hp⟩).pick [0,1,2,3,4,5,6,8] (by decide) rfl) rfl (Pu.move rfl) rfl rfl (RD.p (fun w s=>(s.weaken 0 rfl (exch fun v:Value × Value × Value=>blk g0 [.int .i64 a0_s.w.tick,.int .i64 a0_s.w.players,.int .i64 a0_s.w.nextid,.int .i64 a0_s.w.g.w,.int .i64 a0_s.w.g.h,rowV qt4 a0_s.w.g.tiles.length,rowV qb5 a0_s.w.bs.length,rowV qu6 a0_s.w.us.length,v.1,v.2.1,v.2.2,.pointer (some ⟨gc10,0,none⟩)] 164) fun p hp=>⟨(_,_,_),hp⟩).pick [0,1,2,3,4,5,6,8] (by decide) rfl) rfl (Pu.nilCheck rfl) rfl rfl (RD.p (fun w s=>(s.weaken 0 rfl (exch fun v:Value × Value × Value=>blk g0 [.int .i64 a0_s.w.tick,.int .i64 a0_s.w.players,.int .i64 a0_s.w.nextid,.int .i64 a0_s.w.g.w,.int .i64 a0_s.w.g.h,rowV qt4 a0_s.w.g.tiles.length,rowV qb5 a0_s.w.bs.length,rowV qu6 a0_s.w.us.length,v.1,v.2.1,v.2.2,.pointer (some ⟨gc10,0,none⟩)] 164) fun p hp=>⟨(_,_,_),hp⟩).pick [0,1,2,3,4,5,6,8] (by decide) rfl) rfl (Pu.fieldAddr fd164_0.h rfl) rfl rfl (RD.p (fun w s=>(s.weaken 0 rfl (exch fun v:Value × Value × Value=>blk g0 [.int .i64 a0_s.w.tick,.int .i64 a0_s.w.players,.int .i64 a0_s.w.nextid,.int .i64 a0_s.w.g.w,.int .i64 a0_s.w.g.h,rowV qt4 a0_s.w.g.tiles.length,rowV qb5 a0_s.w.bs.length,rowV qu6 a0_s.w.us.length,v.1,v.2.1,v.2.2,.pointer (some ⟨gc10,0,none⟩)] 164) fun p hp=>⟨(_,_,_),hp⟩).pick [0,1,2,3,4,5,6,8] (by decide) rfl) rfl (Pu.fieldAddr fd52_3.h rfl) rfl rfl ?_)))
 refine RD.w (fun w s=>(s.weaken 0 rfl (exch fun v:Value × Value × Value=>blk g0 [.int .i64 a0_s.w.tick,.int .i64 a0_s.w.players,.int .i64 a0_s.w.nextid,.int .i64 a0_s.w.g.w,.int .i64 a0_s.w.g.h,rowV qt4 a0_s.w.g.tiles.length,rowV qb5 a0_s.w.bs.length,rowV qu6 a0_s.w.us.length,v.1,v.2.1,v.2.2,.pointer (some ⟨gc10,0,none⟩)] 164) fun p hp=>⟨(_,_,_),hp⟩).pick [0,1,2,3,4,5,6,8] (by decide) rfl) rfl (Qt.ldBAx (us:=[_,_,_]) 0 ty24.h rfl rfl (fun _=>rfl) rfl) rfl rfl ?_
 refine RD.p (fun w s=>(s.weaken 0 rfl (exch fun v:Value × Value × Value=>blk g0 [.int .i64 a0_s.w.tick,.int .i64 a0_s.w.players,.int .i64 a0_s.w.nextid,.int .i64 a0_s.w.g.w,.int .i64 a0_s.w.g.h,rowV qt4 a0_s.w.g.tiles.length,rowV qb5 a0_s.w.bs.length,rowV qu6 a0_s.w.us.length,v.1,v.2.1,v.2.2,.pointer (some ⟨gc10,0,none⟩)] 164) fun p hp=>⟨(_,_,_),hp⟩).pick [0,1,2,3,4,5,6,8] (by decide) rfl) rfl (Pu.move rfl) rfl rfl (RD.p (fun w s=>(s.weaken 0 rfl (exch fun v:Value × Value × Value=>blk g0 [.int .i64 a0_s.w.tick,.int .i64 a0_s.w.players,.int .i64 a0_s.w.nextid,.int .i64 a0_s.w.g.w,.int .i64 a0_s.w.g.h,rowV qt4 a0_s.w.g.tiles.length,rowV qb5 a0_s.w.bs.length,rowV qu6 a0_s.w.us.length,v.1,v.2.1,v.2.2,.pointer (some ⟨gc10,0,none⟩)] 164) fun p hp=>⟨(_,_,_),hp⟩).pick [0,1,2,3,4,5,6,8] (by decide) rfl) rfl (Pu.fieldAddr fd73_2.h rfl) rfl rfl (RD.q (fun w s=>(s.weaken 0 rfl (exch fun v:Value × Value × Value=>blk g0 [.int .i64 a0_s.w.tick,.int .i64 a0_s.w.players,.int .i64 a0_s.w.nextid,.int .i64 a0_s.w.g.w,.int .i64 a0_s.w.g.h,rowV qt4 a0_s.w.g.tiles.length,rowV qb5 a0_s.w.bs.length,rowV qu6 a0_s.w.us.length,v.1,v.2.1,v.2.2,.pointer (some ⟨gc10,0,none⟩)] 164) fun p hp=>⟨(_,_,_),hp⟩).pick [0,1,2,3,4,5,6,8] (by decide) rfl) rfl (Qt.ldB 3 ty3.h rfl rfl rfl) rfl rfl ?_))
 refine RD.w (fun w s=>(s.weaken 0 rfl (exch fun v:Value × Value × Value=>blk g0 [.int .i64 a0_s.w.tick,.int .i64 a0_s.w.players,.int .i64 a0_s.w.nextid,.int .i64 a0_s.w.g.w,.int .i64 a0_s.w.g.h,rowV qt4 a0_s.w.g.tiles.length,rowV qb5 a0_s.w.bs.length,rowV qu6 a0_s.w.us.length,v.1,v.2.1,v.2.2,.pointer (some ⟨gc10,0,none⟩)] 164) fun p hp=>⟨(_,_,_),hp⟩).pick [0,1,2,3,4,5,6,8] (by decide) rfl) rfl (Qt.ldBA (us:=[_,_]) 2 ty33.h rfl rfl rfl rfl) rfl rfl ?_
 refine RD.p (fun w s=>(s.weaken 0 rfl (exch fun v:Value × Value × Value=>blk g0 [.int .i64 a0_s.w.tick,.int .i64 a0_s.w.players,.int .i64 a0_s.w.nextid,.int .i64 a0_s.w.g.w,.int .i64 a0_s.w.g.h,rowV qt4 a0_s.w.g.tiles.length,rowV qb5 a0_s.w.bs.length,rowV qu6 a0_s.w.us.length,v.1,v.2.1,v.2.2,.pointer (some ⟨gc10,0,none⟩)] 164) fun p hp=>⟨(_,_,_),hp⟩).pick [0,1,2,3,4,5,6,8] (by decide) rfl) rfl (Pu.fieldAddr fd73_0.h rfl) rfl rfl ?_
 refine RD.w (fun w s=>(s.weaken 0 rfl (exch fun v:Value × Value × Value=>blk g0 [.int .i64 a0_s.w.tick,.int .i64 a0_s.w.players,.int .i64 a0_s.w.nextid,.int .i64 a0_s.w.g.w,.int .i64 a0_s.w.g.h,rowV qt4 a0_s.w.g.tiles.length,rowV qb5 a0_s.w.bs.length,rowV qu6 a0_s.w.us.length,v.1,v.2.1,v.2.2,.pointer (some ⟨gc10,0,none⟩)] 164) fun p hp=>⟨(_,_,_),hp⟩).pick [0,1,2,3,4,5,6,8] (by decide) rfl) rfl (Qt.ldB 3 ty2.h rfl rfl rfl) rfl rfl ?_
 obtain ⟨x11,hx11,H⟩:=bindE H
 refine RD.solid rfl (.inr rfl) rfl rfl (Sd.post (S2:=fun z:Value × Value × Value=>Sat w0 [blk g0 [.int .i64 a0_s.w.tick,.int .i64 a0_s.w.players,.int .i64 a0_s.w.nextid,.int .i64 a0_s.w.g.w,.int .i64 a0_s.w.g.h,rowV qt4 a0_s.w.g.tiles.length,rowV qb5 a0_s.w.bs.length,rowV qu6 a0_s.w.us.length,z.1,z.2.1,z.2.2,.pointer (some ⟨gc10,0,none⟩)] 164,F,blk b1 [.int .i64 a3_p.x,.int .i64 a3_p.y] 33,blk b3 [.int .i64 x2.radius,.int .i64 x2.speed,.int .i64 x2.cls,.int .i64 x2.size,.int .i64 x2.room] 73,row nilH 5 (rowV qt4 a0_s.w.g.tiles.length) a0_s.w.g.tiles,row nilH 135 (rowV qb5 a0_s.w.bs.length) a0_s.w.bs,row nilH 54 (rowV qu6 a0_s.w.us.length) a0_s.w.us,opn 4 z.1 z.2.1 z.2.2 x11.2,Cells_ch gc10 a0_s.cs]) (Sd.call ent120 rfl fun w s=>callFr (A:=[_,_]) (B:=[F,blk b1 [.int .i64 a3_p.x,.int .i64 a3_p.y] 33,blk b3 [.int .i64 x2.radius,.int .i64 x2.speed,.int .i64 x2.cls,.int .i64 x2.size,.int .i64 x2.room] 73,row nilH 5 (rowV qt4 a0_s.w.g.tiles.length) a0_s.w.g.tiles,row nilH 135 (rowV qb5 a0_s.w.bs.length) a0_s.w.bs,row nilH 54 (rowV qu6 a0_s.w.us.length) a0_s.w.us,Cells_ch gc10 a0_s.cs]) (fun w s=>army_tiles_walk g0 gc10 a0_s.w.g a0_s.w.bs a0_s.w.tick a0_s.w.players a0_s.w.nextid (rdStars 3 rfl (Rd.ofRowN 0 rfl)) (rdStars 4 rfl (Rd.ofRowN 0 rfl)) a0_s.op x2.cls hx11 w s) (s.pc [0,7,1,2,3,4,5,6,8])) (fun z w s=>s.pc [0,2,3,4,5,6,7,1,8])) (fun _=>ClE.sat _ _) (fun _ w s=>(s.weaken 0 rfl (exch fun v:Value × Value × Value=>blk g0 [.int .i64 a0_s.w.tick,.int .i64 a0_s.w.players,.int .i64 a0_s.w.nextid,.int .i64 a0_s.w.g.w,.int .i64 a0_s.w.g.h,rowV qt4 a0_s.w.g.tiles.length,rowV qb5 a0_s.w.bs.length,rowV qu6 a0_s.w.us.length,v.1,v.2.1,v.2.2,.pointer (some ⟨gc10,0,none⟩)] 164) fun p hp=>⟨(_,_,_),hp⟩).pick [0,1,2,3,4,5,6,8] (by decide) rfl) (fun h=>nomatch h) fun ⟨va12,vb13,vc14⟩=>?_
 obtain ⟨x15,hx15,H⟩:=bindE H
 refine RD.q (fun w s=>(s.weaken 0 rfl (exch fun v:Value × Value × Value=>blk g0 [.int .i64 a0_s.w.tick,.int .i64 a0_s.w.players,.int .i64 a0_s.w.nextid,.int .i64 a0_s.w.g.w,.int .i64 a0_s.w.g.h,rowV qt4 a0_s.w.g.tiles.length,rowV qb5 a0_s.w.bs.length,rowV qu6 a0_s.w.us.length,v.1,v.2.1,v.2.2,.pointer (some ⟨gc10,0,none⟩)] 164) fun p hp=>⟨(_,_,_),hp⟩).pick [0,1,2,3,4,5,6,8] (by decide) rfl) rfl (Qt.call (vs:=[_,_,_,_]) ent119 rfl fun w s=>disc_Fits_walk a0_s.w.g x11.1 a3_p x2.radius w ((Rd.ofRowN 4 rfl) w s) ((Rd.ofOpn 7 rfl (army_tiles_get hx11)) w s) hx15) rfl rfl (RD.p (fun w s=>(s.weaken 0 rfl (exch fun v:Value × Value × Value=>blk g0 [.int .i64 a0_s.w.tick,.int .i64 a0_s.w.players,.int .i64 a0_s.w.nextid,.int .i64 a0_s.w.g.w,.int .i64 a0_s.w.g.h,rowV qt4 a0_s.w.g.tiles.length,rowV qb5 a0_s.w.bs.length,rowV qu6 a0_s.w.us.length,v.1,v.2.1,v.2.2,.pointer (some ⟨gc10,0,none⟩)] 164) fun p hp=>⟨(_,_,_),hp⟩).pick [0,1,2,3,4,5,6,8] (by decide) rfl) rfl (Pu.not rfl) rfl rfl (RD.nil (k4 _ _ ?_)))
 refine T.cB H rfl (fun _ H=>nomatch H) (fun hc16 H=>?_)
 refine T.skip (k3 _ _ (kq [0,1,7,9] ?_))
 refine T.seq fun _ k6=>T.seq fun _ k7=>nz ?_
 refine T.region (au 4 ?_)
 refine RS.wk (fun w s=>(Sat.sP [1,2,3] [0,4,5,6,7,8] s (Std_shut (x:=(⟨a0_s.w,x11.2,a0_s.cs⟩:Std)) ⟨qt4,qb5,qu6,va12,vb13,vc14,gc10⟩))) ?_
 obtain ⟨x17,hx17,H⟩:=bindE H
 refine RS.solid (Sd.callF 0 ent121 rfl rfl (fun w s=>army_Near_walk g0 (⟨a0_s.w,x11.2,a0_s.cs⟩:Std) a3_p x2.radius  hx17 w s)) rfl rfl fun q18=>au 2 ?_
 refine RS.nil (k7 _ _ (kq [1,7,9,32,33,34] ?_))
 refine T.joinE (σ:=Unit) (γ:=Unit) H Ex.go [] trivial (fun _ _=>[]) (fun _ _=>Sat w0 [Std_ch g0 (⟨a0_s.w,x11.2,a0_s.cs⟩:Std),F,blk b1 [.int .i64 a3_p.x,.int .i64 a3_p.y] 33,blk b3 [.int .i64 x2.radius,.int .i64 x2.speed,.int .i64 x2.cls,.int .i64 x2.size,.int .i64 x2.room] 73,row nilH 54 (rowV q18 x17.length) x17]) ?_ ?_
 ·rintro ⟨⟩ ⟨⟩ H
  try dsimp only [Ex.then] at H
  refine Cont.kq [] ?_
  refine id (k6 _ _ ?_)
  refine au 2 ?_
  obtain rfl:=sj H
  refine T.rt (Cont.ret1 rfl rfl fun w' s=>?_)
  exact ⟨rfl,s.pc [0,1]⟩
 intro z19 hz19 HX19 hJ19
 refine T.block ?_
 refine T.loopA (γ:=Unit) hz19 [(1,_),(7,_),(9,_),(32,_),(33,_)] (fun v20 _=>[(34,.int .i64 v20)]) (fun v20 _=>Sat w0 [Std_ch g0 (⟨a0_s.w,x11.2,a0_s.cs⟩:Std),F,blk b1 [.int .i64 a3_p.x,.int .i64 a3_p.y] 33,blk b3 [.int .i64 x2.radius,.int .i64 x2.speed,.int .i64 x2.cls,.int .i64 x2.size,.int .i64 x2.room] 73,row nilH 54 (rowV q18 x17.length) x17]) () sb sb (fun w s=>s) ?_
 rintro v20 ⟨⟩ y21 H hd19 KL19 hL19
 try dsimp only [Ex.then] at H
 refine kq [34,1,7,9,32,33] ?_
 refine au 2 ?_
 refine T.seq fun _ k10=>?_
 refine T.cP H rfl (fun hc22 H=>?_) (fun hc22 H=>?_)
 ·refine T.skip (k10 _ _ ?_)
  refine T.seq fun _ k11=>T.block (T.seq fun _ k12=>T.region ?_)
  obtain ⟨g23,H⟩:=gdE H
  refine RS.know (p:=∃ g cap,q18 = (some g,cap)) (fun w s=>(s.row_some (k:=4) rfl (pos_of g23))) ?_
  rintro ⟨gg24,cc25,rfl⟩
  refine rp (Pu.indexSl sl50.h rfl rfl g23) (rq (Qt.ldW (α:=Unt) (cs:=[_,_,_,_,_,_,_,_,_,_]) (Rd.ofRowN 4 rfl) ty54.h rfl rfl g23 rfl (by rintro _ _ rfl; rfl)) (RS.solid (Sd.alloc zr54 rfl) rfl rfl fun b26=>RS.solid (Sd.stB (cs':=[_,_,_,_,_,_,_,_,_,_]) 5 ty54.h rfl rfl rfl rfl rfl rfl rfl rfl) rfl rfl fun _=>RS.nil (k12 _ _ (kq [1,7,9,11,32,33,34] ?_))))
  refine T.seq fun _ k13=>dr mixed [0,1,0,0,0,1,0,1,0,1,0,1,1,0,1,0,0] ?_
  refine au 5 ?_
  refine RD.joinB H 12 54 (fun b29=>.bool b29) [(1,_),(7,_),(9,_),(32,_),(33,_),(34,_)] sb ?_ ?_
  ·intro b29 H
   refine RD.nil (k13 _ _ ?_)
   refine T.cB H rfl (fun hc30 H=>?_) (fun hc30 H=>?_)
   ·refine kq [] ?_
    refine au 2 ?_
    obtain rfl:=hd19 _ H
    have H:=HX19
    obtain rfl:=sj H
    refine T.rt (Cont.ret1 rfl rfl fun w' s=>?_)
    exact ⟨rfl,s.pc [0,1]⟩
   refine T.skip (k11 _ _ ?_)
   exact nomatch H
  intro z31 H hJ28
  refine RD.splitP 42 rfl (fun hc27=>?_) (fun hc27=>?_)
  ·have H:=ifT hc27 H
   refine au 7 ?_
   obtain ⟨x32,hx32,H⟩:=bindE H
   refine dq rfl (Qt.call (vs:=[_]) ent118 rfl fun w s=>kind_What_walk ((gi x17 v20).kind) w  hx32) (dp rfl (Pu.fieldS (cs:=[_,_,_,_,_]) fld73_0 ty2.h rfl rfl) ?_)
   obtain ⟨x33,hx33,H⟩:=bindE H
   refine dq rfl (Qt.call (vs:=[_,_,_,_]) ent122 rfl fun w s=>disc_Apart_walk a3_p x2.radius ((gi x17 v20).pos) x32.radius w  hx33) (au 2 ?_)
   obtain rfl:=sj H
   exact hJ28 _ sb
  have H:=ifF hc27 H
  refine au 12 ?_
  obtain rfl:=sj H
  exact hJ28 _ sb
 refine T.xt ?_
 obtain rfl:=hd19 _ H
 refine id (hJ19 _ _ () () HX19 trivial trivial (fun w s=>s))
end Go.Proofs.YtmngdgclldkcfaaGreat
