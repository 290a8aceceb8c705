/-
  Texts of one's own, joined: WO SO CI CL LO LG WG YO V7.
-/
import Derived.Test.YtmngdgclldkcfaaGreatRows
import Derived.Test.YtmngdgclldkcfaaGreatJ7
import Derived.Test.YtmngdgclldkcfaaGreatJ9
import Derived.Test.YtmngdgclldkcfaaGreatJ10
import Derived.Test.YtmngdgclldkcfaaGreatNH
import Derived.Test.YtmngdgclldkcfaaGreatJ6
import Derived.Test.YtmngdgclldkcfaaGreatJ5
import Derived.Test.YtmngdgclldkcfaaGreatJ4
import Derived.Test.YtmngdgclldkcfaaGreatJ8
set_option linter.unusedVariables false
set_option linter.unusedSimpArgs false
set_option maxRecDepth 20000
set_option maxHeartbeats 4000000
namespace Go.Proofs.YtmngdgclldkcfaaGreat
open Go.Vg
open Enc (R)
structure Wld where
 tick:Int
 players:Int
 nextid:Int
 g:Grd
 bs:List Bld
 us:List Unt
 deriving Inhabited
instance:Enc Wld where
 sz:=8
 R h x cs:=∃ v5 v6 v7,cs = [.int .i64 x.tick,.int .i64 x.players,.int .i64 x.nextid,.int .i64 x.g.w,.int .i64 x.g.h,v5,v6,v7]∧Enc.R h (x.g.tiles:List UInt8) [v5]∧Enc.R h (x.bs:List Bld) [v6]∧Enc.R h (x.us:List Unt) [v7]
 len:=fun ⟨v5,v6,v7,e,h5,h6,h7⟩=>by rw [e]; rfl
 one:=fun ⟨v5,v6,v7,e,h5,h6,h7⟩ u hu=>by
  rw [e] at hu; simp only [List.mem_cons,List.not_mem_nil,or_false] at hu
  rcases hu with rfl | rfl | rfl | rfl | rfl | rfl | rfl | rfl
  ·rfl
  ·rfl
  ·rfl
  ·rfl
  ·rfl
  ·exact Enc.one h5 _ (by simp)
  ·exact Enc.one h6 _ (by simp)
  ·exact Enc.one h7 _ (by simp)
 mono:=fun hl ⟨v5,v6,v7,e,h5,h6,h7⟩=>⟨v5,v6,v7,e,Enc.mono hl h5,Enc.mono hl h6,Enc.mono hl h7⟩
instance:Deep Wld where
 D h x c:=∃ q0 q1 q2:Option Nat × Nat,c = [.int .i64 x.tick,.int .i64 x.players,.int .i64 x.nextid,.int .i64 x.g.w,.int .i64 x.g.h,rowV q0 x.g.tiles.length,rowV q1 x.bs.length,rowV q2 x.us.length]∧stars [row nilH 5 (rowV q0 x.g.tiles.length) x.g.tiles,row nilH 135 (rowV q1 x.bs.length) x.bs,row nilH 54 (rowV q2 x.us.length) x.us] h
 toR:=fun ⟨q0,q1,q2,e,⟨_,_,a0,⟨_,_,a1,⟨_,_,a2,_,_,l2,k2⟩,_,l1,k1⟩,_,l0,k0⟩⟩=>⟨_,_,_,e,Enc.mono l0 (row_R a0),Enc.mono (Hp.le_trans l1 k0) (row_R a1),Enc.mono (Hp.le_trans l2 (Hp.le_trans k1 k0)) (row_R a2)⟩
 mono:=fun hl ⟨q0,q1,q2,e,s⟩=>⟨_,_,_,e,stars_mono hl s⟩
def Wld.Wf (x:Wld):Prop:=(I64 x.tick)∧(I64 x.players)∧(I64 x.nextid)∧(Grd.Wf x.g)∧((∀ y ∈ x.bs,Bld.Wf y)∧x.bs.length ≤ 140737488351232)∧((∀ y ∈ x.us,Unt.Wf y)∧x.us.length ≤ 140737488351232)
end Go.Proofs.YtmngdgclldkcfaaGreat
set_option linter.unusedVariables false
set_option linter.unusedSimpArgs false
set_option maxRecDepth 20000
set_option maxHeartbeats 4000000
namespace Go.Proofs.YtmngdgclldkcfaaGreat
open Go.Vg
open Enc (R)
theorem co31:Tryz.prog.cellsOf 31 = 5:=by kernel_rfl
theorem uf31:structOf Tryz.prog 31 = some [(3,0),(3,1),(3,2),(3,3),(29,4)]:=by kernel_rfl
structure Frm where
 turn:Int
 commands:List Cmd
 hash:UInt64
 deriving Inhabited
instance:Enc Frm where
 sz:=3
 R h x cs:=∃ v1,cs = [.int .i64 x.turn,v1,.int .u64 x.hash.toNat]∧Enc.R h (x.commands:List Cmd) [v1]
 len:=fun ⟨v1,e,h1⟩=>by rw [e]; rfl
 one:=fun ⟨v1,e,h1⟩ u hu=>by
  rw [e] at hu; simp only [List.mem_cons,List.not_mem_nil,or_false] at hu
  rcases hu with rfl | rfl | rfl
  ·rfl
  ·exact Enc.one h1 _ (by simp)
  ·rfl
 mono:=fun hl ⟨v1,e,h1⟩=>⟨v1,e,Enc.mono hl h1⟩
instance:Deep Frm where
 D h x c:=∃ q0:Option Nat × Nat,c = [.int .i64 x.turn,rowV q0 x.commands.length,.int .u64 x.hash.toNat]∧stars [drow 37 (rowV q0 x.commands.length) x.commands] h
 toR:=fun ⟨q0,e,⟨_,_,a0,_,_,l0,k0⟩⟩=>⟨_,e,Enc.mono l0 (drow_R a0)⟩
 mono:=fun hl ⟨q0,e,s⟩=>⟨_,e,stars_mono hl s⟩
def Frm.Wf (x:Frm):Prop:=(I64 x.turn)∧((∀ y ∈ x.commands,Cmd.Wf y)∧x.commands.length ≤ 140737488351232)
structure Act where
 kind:Int
 peer:Int
 n:Int
 pick:Int
 commands:List Cmd
 deriving Inhabited
instance:Enc Act where
 sz:=5
 R h x cs:=∃ v4,cs = [.int .i64 x.kind,.int .i64 x.peer,.int .i64 x.n,.int .i64 x.pick,v4]∧Enc.R h (x.commands:List Cmd) [v4]
 len:=fun ⟨v4,e,h4⟩=>by rw [e]; rfl
 one:=fun ⟨v4,e,h4⟩ u hu=>by
  rw [e] at hu; simp only [List.mem_cons,List.not_mem_nil,or_false] at hu
  rcases hu with rfl | rfl | rfl | rfl | rfl
  ·rfl
  ·rfl
  ·rfl
  ·rfl
  ·exact Enc.one h4 _ (by simp)
 mono:=fun hl ⟨v4,e,h4⟩=>⟨v4,e,Enc.mono hl h4⟩
instance:Deep Act where
 D h x c:=∃ q0:Option Nat × Nat,c = [.int .i64 x.kind,.int .i64 x.peer,.int .i64 x.n,.int .i64 x.pick,rowV q0 x.commands.length]∧stars [drow 37 (rowV q0 x.commands.length) x.commands] h
 toR:=fun ⟨q0,e,⟨_,_,a0,_,_,l0,k0⟩⟩=>⟨_,e,Enc.mono l0 (drow_R a0)⟩
 mono:=fun hl ⟨q0,e,s⟩=>⟨_,e,stars_mono hl s⟩
def Act.Wf (x:Act):Prop:=(I64 x.kind)∧(I64 x.peer)∧(I64 x.n)∧(I64 x.pick)∧((∀ y ∈ x.commands,Cmd.Wf y)∧x.commands.length ≤ 140737488351232)
theorem rd_Act:Rdbl Tryz.prog 31 Act Act.Wf:=fun H enc w fuel cs x h hzd=>by
 obtain ⟨fs,hu,hfs⟩:=structOf_spec uf31
 obtain ⟨hl,m,hf⟩:=trod_field hu h hzd
 obtain ⟨f0,hf0,ht0,ho0⟩:∃ f,fs[0]? = some f∧f.type = 3∧f.offset = 0:=by
  have h1:(fs.toList.map (fun f=>(f.type,f.offset)))[0]? = some (3,0):=by rw [hfs]; rfl
  rw [List.getElem?_map,Option.map_eq_some_iff] at h1
  obtain ⟨f,h2,h3⟩:=h1
  simp only [Prod.mk.injEq] at h3
  exact ⟨f,by simpa using h2,h3.1,h3.2⟩
 obtain ⟨y0,hy0⟩:=hf 0 f0 hf0
 rw [ht0,ho0,co3] at hy0
 obtain ⟨a0,ha0,hw0⟩:=Rdbl.part (Rdbl.int ul3) hy0
 obtain ⟨f1,hf1,ht1,ho1⟩:∃ f,fs[1]? = some f∧f.type = 3∧f.offset = 1:=by
  have h1:(fs.toList.map (fun f=>(f.type,f.offset)))[1]? = some (3,1):=by rw [hfs]; rfl
  rw [List.getElem?_map,Option.map_eq_some_iff] at h1
  obtain ⟨f,h2,h3⟩:=h1
  simp only [Prod.mk.injEq] at h3
  exact ⟨f,by simpa using h2,h3.1,h3.2⟩
 obtain ⟨y1,hy1⟩:=hf 1 f1 hf1
 rw [ht1,ho1,co3] at hy1
 obtain ⟨a1,ha1,hw1⟩:=Rdbl.part (Rdbl.int ul3) hy1
 obtain ⟨f2,hf2,ht2,ho2⟩:∃ f,fs[2]? = some f∧f.type = 3∧f.offset = 2:=by
  have h1:(fs.toList.map (fun f=>(f.type,f.offset)))[2]? = some (3,2):=by rw [hfs]; rfl
  rw [List.getElem?_map,Option.map_eq_some_iff] at h1
  obtain ⟨f,h2,h3⟩:=h1
  simp only [Prod.mk.injEq] at h3
  exact ⟨f,by simpa using h2,h3.1,h3.2⟩
 obtain ⟨y2,hy2⟩:=hf 2 f2 hf2
 rw [ht2,ho2,co3] at hy2
 obtain ⟨a2,ha2,hw2⟩:=Rdbl.part (Rdbl.int ul3) hy2
 obtain ⟨f3,hf3,ht3,ho3⟩:∃ f,fs[3]? = some f∧f.type = 3∧f.offset = 3:=by
  have h1:(fs.toList.map (fun f=>(f.type,f.offset)))[3]? = some (3,3):=by rw [hfs]; rfl
  rw [List.getElem?_map,Option.map_eq_some_iff] at h1
  obtain ⟨f,h2,h3⟩:=h1
  simp only [Prod.mk.injEq] at h3
  exact ⟨f,by simpa using h2,h3.1,h3.2⟩
 obtain ⟨y3,hy3⟩:=hf 3 f3 hf3
 rw [ht3,ho3,co3] at hy3
 obtain ⟨a3,ha3,hw3⟩:=Rdbl.part (Rdbl.int ul3) hy3
 obtain ⟨f4,hf4,ht4,ho4⟩:∃ f,fs[4]? = some f∧f.type = 29∧f.offset = 4:=by
  have h1:(fs.toList.map (fun f=>(f.type,f.offset)))[4]? = some (29,4):=by rw [hfs]; rfl
  rw [List.getElem?_map,Option.map_eq_some_iff] at h1
  obtain ⟨f,h2,h3⟩:=h1
  simp only [Prod.mk.injEq] at h3
  exact ⟨f,by simpa using h2,h3.1,h3.2⟩
 obtain ⟨y4,hy4⟩:=hf 4 f4 hf4
 rw [ht4,ho4,co29] at hy4
 obtain ⟨a4,ha4,hw4⟩:=Rdbl.part (Rdbl.slice usl29 co37 (by decide) rd_Cmd bz37) hy4
 rw [co31] at hl
 obtain ⟨x0,x1,x2,x3,x4,rfl⟩:∃ x0 x1 x2 x3 x4,cs = [x0,x1,x2,x3,x4]:=by
  match cs,hl with
  | [x0,x1,x2,x3,x4],_=>exact ⟨x0,x1,x2,x3,x4,rfl⟩
 simp only [List.drop_succ_cons,List.drop_zero,List.take_succ_cons,List.take_zero] at ha0 ha1 ha2 ha3 ha4
 obtain rfl:x0 = _:=by simpa [Enc.R] using ha0
 obtain rfl:x1 = _:=by simpa [Enc.R] using ha1
 obtain rfl:x2 = _:=by simpa [Enc.R] using ha2
 obtain rfl:x3 = _:=by simpa [Enc.R] using ha3
 exact ⟨⟨a0,a1,a2,a3,a4⟩,⟨_,rfl,ha4⟩,⟨hw0,hw1,hw2,hw3,hw4⟩⟩
structure Rep where
 turns:List Int
 hashes:List (List UInt64)
 worlds:List Wld
 splits:List Bool
 log:List Frm
 deriving Inhabited
end Go.Proofs.YtmngdgclldkcfaaGreat
set_option linter.unusedVariables false
set_option linter.unusedSimpArgs false
set_option maxRecDepth 20000
set_option maxHeartbeats 4000000
namespace Go.Proofs.YtmngdgclldkcfaaGreat
open Go.Vg
open Enc (R)
--BEGIN
theorem cI_sl:slTy Tryz.prog 35 = some (3,Enc.sz Int,8):=by kernel_rfl
theorem cI_zr:∃ z,zeroOf Tryz.prog 3 = some z∧z.cells.size = Enc.sz Int∧(∀ u ∈ z.cells.toList,u.oneCell' = true)∧R nilH (0:Int) z.cells.toList:=⟨(.int .i64 0),by kernel_rfl,by rfl,by decide,by rfl⟩
theorem cI_mixed:Tryz.prog.follows .mixedOrders = true:=by kernel_rfl
theorem cI_bool:(Tryz.prog.underlying 3) = some (.int .i64):=by kernel_rfl
def slices_InsertInt (xs:List Int) (i:Int) (ys:List Int):Option (List Int):=if ys.length = 1∧(0 ≤ i∧i ≤ (xs.length:Int))∧xs.length < 1099511627775 then some (xs.take i.toNat ++ ys ++ xs.drop i.toNat) else none
def slices_DeleteInt (xs:List Int) (i j:Int):Option (List Int):=if (0 ≤ i∧i ≤ j∧j ≤ (xs.length:Int))∧xs.length < 1099511627775 then some (xs.take i.toNat ++ xs.drop j.toNat) else none
theorem slices_DeleteInt_walk {w0:World} {F:Ch} (a0:List Int) (a1 a2:Int) {q0:Option Nat × Nat} {m0:Nat} (hm:m0 = a0.length) {r:List Int} (H:slices_DeleteInt a0 a1 a2 = some r) (w:World) (s:Sat w0 [row nilH 3 (rowV q0 m0) a0,F] w) :
  Calls Tryz.prog 238 #[rowV q0 m0,.int .i64 a1,.int .i64 a2] w fun e w'=>∃ q:Option Nat × Nat,e = .returned (rowV q r.length)∧Sat w0 [row nilH 3 (rowV q r.length) r,F] w':=by
 subst hm
 unfold slices_DeleteInt at H
 obtain ⟨⟨⟨h0,h1,h2⟩,h3⟩,H⟩:=gdE H
 obtain rfl:=sj H
 obtain ⟨i,rfl⟩:=Int.eq_ofNat_of_zero_le h0
 obtain ⟨j,rfl⟩:=Int.eq_ofNat_of_zero_le (Int.le_trans h0 h1)
 simp only [Int.toNat_natCast]
 have hij:i ≤ j:=by omega
 have hjn:j ≤ a0.length:=by omega
 have hfit:=s.row_fits (k:=0) rfl
 refine T.enter (args:=[_,_,_]) (S:=Sat w0 [row nilH 3 (rowV q0 a0.length) a0,F]) Tryz.func238 rfl rfl s ?_
 refine T.seq fun K1 hK1=>T.region (rA rfl (RS.nil (hK1 _ _ ?_)))
 refine T.seq fun K2 hK2=>T.region (rM rfl (rM rfl (rM rfl (rM rfl (rp (Pu.lenSl cI_sl rfl) (rp (Pu.slice3 cI_sl rfl rfl rfl rfl (by omega)) (RS.nil (hK2 _ _ ?_))))))))
 refine T.seq fun K3 hK3=>T.seq fun K4 hK4=>T.region (rM rfl (rM rfl (rp (Pu.bin rfl rfl rfl) (RS.nil (hK4 _ _ ?_)))))
 refine T.condP rfl (fun hc=>?_) (fun hc=>?_)
 ·have hc':i = j:=by omega
  subst hc'
  refine T.seq fun K5 hK5=>T.region (rM rfl (rA rfl (RS.nil (hK5 _ _ ?_))))
  refine T.retTo (by with_reducible ((repeat (first | apply RetTo.seq | apply RetTo.blk)); exact RetTo.refl _)) (Cont.ret1 rfl rfl fun w' s=>?_)
  rw [List.take_append_drop]
  exact ⟨q0,rfl,s⟩
 refine T.skip (hK3 _ _ ?_)
 have hlt:i < j:=by omega
 refine T.know (p:=∃ g cap,q0 = (some g,cap)) (fun w s=>s.row_some (k:=0) rfl (by omega)) ?_
 rintro ⟨gg,c,rfl⟩
 try dsimp only at hfit
 refine T.seq fun K6 hK6=>T.region (rM rfl (rp (Pu.lenSl cI_sl rfl) (rA rfl (RS.nil (hK6 _ _ ?_)))))
 have hyl:(a0.drop j).length = a0.length - j:=List.length_drop
 have hiy:i + (a0.drop j).length ≤ a0.length:=by omega
 refine T.seq fun K7 hK7=>?_
 refine T.drawn (fun _=>True) [(0,.pu),(1,.pu),(2,.pu),(3,.pu),(4,.pu),(5,.pu),(6,.br),(7,.pu)] cI_mixed (ClE.sat _ _) (by kernel_rfl) ?_
 refine dp rfl (Pu.move rfl) (dp rfl (Pu.move rfl) (dp rfl (Pu.sliceHn (j:=i) cI_sl rfl rfl rfl (by omega)) (dp rfl (Pu.move rfl) (dp rfl (Pu.move rfl) (dp rfl (Pu.sliceL cI_sl rfl rfl (by omega)) (RD.solid rfl (.inr rfl) rfl rfl (Sd.appCut (α:=Int) (ys:=a0.drop j) 0 i rfl cI_sl rfl rfl (Rd.drop (Rd.ofRowN 0 rfl) hjn rfl) hiy) (fun _=>ClE.sat _ _) (fun _ _ _=>trivial) (fun h=>nomatch h) fun _=>?_))))))
 refine dp rfl (Pu.assign rfl) (RD.nil (hK7 _ _ ?_))
 obtain ⟨z,hz1,hz2,hz3,hz4⟩:=cI_zr
 refine T.seq fun K8 hK8=>T.region (rM rfl (rM rfl (rp (Pu.lenSl cI_sl rfl) (rM rfl (rp (Pu.sliceLHs (j:=i + (a0.drop j).length) (i:=a0.length) cI_sl rfl rfl rfl rfl rfl hiy (by have:=hfit.2.1; omega) (by have:=hfit.2.1; omega)) (RS.solid (Sd.clearSp (α:=Int) 0 (i + (a0.drop j).length) rfl cI_sl hz1 hz2 hz3 (by simp only [ev,look_cons]; simp; rfl) (by simp; omega) (by have:=hfit.2.1; omega) (by omega)) rfl rfl fun _=>RS.nil (hK8 _ _ ?_)))))))
 refine T.seq fun K9 hK9=>T.region (rM rfl (rA rfl (RS.nil (hK9 _ _ ?_))))
 refine T.retTo (by with_reducible ((repeat (first | apply RetTo.seq | apply RetTo.blk)); exact RetTo.refl _)) (Cont.ret1 rfl rfl fun w' s=>?_)
 have e:(a0.take i ++ a0.drop j).length = i + (a0.drop j).length:=by rw [List.length_append,List.length_take,Nat.min_eq_left (by omega)]
 rw [e]
 exact ⟨(some gg,c),rfl,s⟩
theorem cI_ovl:∃ fn,Tryz.prog.funcs[(242:Nat)]? = some fn∧isOvl fn 35 4:=⟨_,Tryz.func242,by kernel_rfl,by kernel_rfl,by kernel_rfl,by kernel_rfl⟩
theorem slices_InsertInt_walk {w0:World} {F:Ch} (a0:List Int) (a1:Int) (a2:List Int) {q0:Option Nat × Nat} {m0:Nat} (hm:m0 = a0.length) {v0:Value} (hv:Rd (Sat w0 [F]) a2 [v0]) {r:List Int} (H:slices_InsertInt a0 a1 a2 = some r) (w:World) (s:Sat w0 [row nilH 3 (rowV q0 m0) a0,F] w) :
  Calls Tryz.prog 174 #[rowV q0 m0,.int .i64 a1,v0] w fun e w'=>∃ q:Option Nat × Nat,e = .returned (rowV q r.length)∧Sat w0 [row nilH 3 (rowV q r.length) r,F] w':=by
 subst hm
 unfold slices_InsertInt at H
 obtain ⟨⟨hy1,⟨h0,h1⟩,h3⟩,H⟩:=gdE H
 obtain rfl:=sj H
 obtain ⟨y,rfl⟩:∃ y,a2 = [y]:=by
  match a2,hy1 with
  | [y],_=>exact ⟨y,rfl⟩
 obtain ⟨i,rfl⟩:=Int.eq_ofNat_of_zero_le h0
 simp only [Int.toNat_natCast]
 have hin:i ≤ a0.length:=by omega
 have hfit:=s.row_fits (k:=0) rfl
 obtain ⟨p,cc,rfl⟩:=R_form (hv w (s.pick [1] (by decide) rfl))
 have hl1:([y]:List Int).length = 1:=rfl
 rw [hl1] at hv ⊢
 obtain ⟨z,hz1,hz2,hz3,hz4⟩:=cI_zr
 refine T.enter (args:=[_,_,_]) (S:=Sat w0 [row nilH 3 (rowV q0 a0.length) a0,F]) Tryz.func174 rfl rfl s ?_
 refine T.seq fun K1 hK1=>T.region (rA rfl (RS.nil (hK1 _ _ ?_)))
 refine T.seq fun K2 hK2=>T.region (rM rfl (rM rfl (rp (Pu.sliceL cI_sl rfl rfl (by omega)) (RS.nil (hK2 _ _ ?_)))))
 refine T.seq fun K3 hK3=>T.region (rM rfl (rp (Pu.lenSl cI_sl rfl) (rA rfl (RS.nil (hK3 _ _ ?_)))))
 refine T.seq fun K4 hK4=>T.seq fun K5 hK5=>T.region (rM rfl (rp (Pu.bin rfl rfl rfl) (RS.nil (hK5 _ _ ?_))))
 refine T.condP rfl (fun hc=>absurd hc (by omega)) (fun hc=>?_)
 refine T.skip (hK4 _ _ ?_)
 refine T.seq fun K6 hK6=>T.region (rM rfl (rp (Pu.lenSl cI_sl rfl) (rA rfl (RS.nil (hK6 _ _ ?_)))))
 refine T.seq fun K7 hK7=>T.seq fun K8 hK8=>T.region (rM rfl (rM rfl (rp (Pu.bin rfl rfl rfl) (RS.nil (hK8 _ _ ?_)))))
 refine T.condP rfl (fun hin'=>?_) (fun hin'=>?_)
 ·refine T.seq fun K9 hK9=>?_
  refine T.region (rM rfl (rM rfl (RS.solid (Sd.appR (α:=Int) 0 (nilH_lt _) rfl cI_sl hz1 hz2 rfl rfl (Rd.ofFrame 1 rfl hv) (by simp only [List.length_cons,List.length_nil]; omega) (by decide)) rfl rfl fun q=>rA rfl (RS.nil (hK9 _ _ ?_)))))
  refine T.retTo (by with_reducible ((repeat (first | apply RetTo.seq | apply RetTo.blk)); exact RetTo.refl _)) (Cont.ret1 rfl rfl fun w' s=>?_)
  have hi:i = a0.length:=by omega
  subst hi
  rw [List.take_length,List.drop_length,List.append_nil]
  exact ⟨q,rfl,s⟩
 refine T.skip (hK7 _ _ ?_)
 have hlt:i < a0.length:=by omega
 refine T.know (p:=∃ g cap,q0 = (some g,cap)) (fun w s=>s.row_some (k:=0) rfl (by omega)) ?_
 rintro ⟨gg,c,rfl⟩
 try dsimp only at hfit
 refine T.seq fun KA1 hKA1=>?_
 refine T.seq fun KB1 hKB1=>?_
 refine T.region (rM rfl (rM rfl (rp (Pu.addS rfl rfl (by omega)) (rM rfl (rp (Pu.capSl cI_sl rfl) (rp (Pu.bin rfl rfl rfl) (RS.nil (hKB1 _ _ ?_))))))))
 refine T.condP rfl (fun hg=>?_) (fun hg=>?_)
 ·have hkk:(((a0.length:Nat):Int) + ((1:Nat):Int) - (i:Int)) = ((a0.length + 1 - i:Nat):Int):=by omega
  refine T.seq fun KC1 hKC1=>?_
  refine T.region (rM rfl (rM rfl (rp (Pu.sliceHn (j:=i) cI_sl rfl rfl rfl (by omega)) (rM rfl (rM rfl (rp (Pu.addS rfl rfl (by omega)) (rM rfl (rp (Pu.subS rfl rfl (by omega)) (RS.solid (Sd.appZeros (α:=Int) (z0:=0) (kk:=a0.length + 1 - i) 0 i rfl cI_sl hz1 hz4 (by decide) cI_bool rfl rfl hkk (by omega) (by omega) (by omega) (by omega) (by decide)) rfl rfl fun q=>rA rfl (RS.nil (hKC1 _ _ ?_)))))))))))
  have hTl:(a0.take i ++ List.replicate (a0.length + 1 - i) (0:Int)).length = i + (a0.length + 1 - i):=by simp only [List.length_append,List.length_take,List.length_replicate]; omega
  refine T.know (p:=∃ g cap,q = (some g,cap)) (fun w s=>s.row_some (k:=2) rfl (by rw [hTl]; omega)) ?_
  rintro ⟨bb,cb,rfl⟩
  refine T.know (fun w s=>s.row_fits (k:=2) rfl) fun hfb=>?_
  try dsimp only at hfb
  have hfb2:=hfb.2.1
  refine T.seq fun KD1 hKD1=>?_
  refine T.region (rM rfl (rM rfl (rp (Pu.sliceLs (j:=i) cI_sl rfl rfl rfl (by omega) (by omega)) (rM rfl (RS.solid (Sd.copyR (α:=Int) (o:=i) 2 rfl cI_sl rfl rfl (Rd.ofFrame 1 rfl hv) (Nat.zero_add _) (by rw [hTl]; have h:Nat.min 1 (i + (a0.length + 1 - i) - i) ≤ 1:=Nat.min_le_left _ _; omega)) rfl rfl fun _=>RS.nil (hKD1 _ _ ?_))))))
  refine T.seq fun KE1 hKE1=>?_
  refine T.drawn (fun _=>True) [(0,.pu),(1,.pu),(2,.pu),(3,.pu),(4,.pu),(5,.pu),(6,.pu),(7,.pu),(8,.br)] cI_mixed (ClE.sat _ _) (by kernel_rfl) ?_
  refine dp rfl (Pu.move rfl) (dp rfl (Pu.move rfl) (dp rfl (Pu.move rfl) (dp rfl (Pu.addS rfl rfl (by omega)) (dp rfl (Pu.sliceLs (j:=i + 1) cI_sl rfl rfl (by omega) (by omega) (by omega)) (dp rfl (Pu.move rfl) (dp rfl (Pu.move rfl) (dp rfl (Pu.sliceLn (j:=i) cI_sl rfl rfl rfl hin) ?_)))))))
  have hX:(a0.take i ++ List.replicate (a0.length + 1 - i) (0:Int)).take i ++ [y].take (Nat.min 1 (i + (a0.length + 1 - i) - i)) ++ (a0.take i ++ List.replicate (a0.length + 1 - i) (0:Int)).drop (i + Nat.min 1 (i + (a0.length + 1 - i) - i)) = (a0.take i ++ List.replicate (a0.length + 1 - i) (0:Int)).take i ++ [y].take (Nat.min 1 (a0.length + 1 - i)) ++ (a0.take i ++ List.replicate (a0.length + 1 - i) (0:Int)).drop (i + Nat.min 1 (a0.length + 1 - i)):=by rw [Nat.add_sub_cancel_left]
  have hXl:((a0.take i ++ List.replicate (a0.length + 1 - i) (0:Int)).take i ++ [y].take (Nat.min 1 (i + (a0.length + 1 - i) - i)) ++ (a0.take i ++ List.replicate (a0.length + 1 - i) (0:Int)).drop (i + Nat.min 1 (i + (a0.length + 1 - i) - i))).length = a0.length + 1:=by
   have h:Nat.min 1 (i + (a0.length + 1 - i) - i) = 1:=Nat.min_eq_left (by omega)
   rw [h]; simp only [List.length_append,List.length_take,List.length_drop,List.length_replicate,List.length_cons,List.length_nil]; omega
  refine RD.solid rfl (.inr rfl) rfl rfl (Sd.copyR (α:=Int) (o:=i + 1) 2 rfl cI_sl rfl rfl (Rd.drop (Rd.ofRowN 0 rfl) hin rfl) (Nat.zero_add _) (by rw [hXl]; have h:Nat.min (a0.length - i) (i + (a0.length + 1 - i) - (i + 1)) ≤ a0.length - i:=Nat.min_le_left _ _; omega)) (fun _=>ClE.sat _ _) (fun _ _ _=>trivial) (fun h=>nomatch h) fun _=>?_
  refine RD.nil (hKE1 _ _ ?_)
  refine T.seq fun KF1 hKF1=>?_
  refine T.region (rM rfl (rA rfl (RS.nil (hKF1 _ _ ?_))))
  refine T.retTo (by with_reducible ((repeat (first | apply RetTo.seq | apply RetTo.blk)); exact RetTo.refl _)) (Cont.ret1 rfl rfl fun w' s=>?_)
  have hmm:Nat.min (a0.length - i) (i + (a0.length + 1 - i) - (i + 1)) = Nat.min (a0.length - i) (a0.length - i):=by congr 1; omega
  have hfin:=ins_grow (xs:=a0) (i:=i) (y:=y) (z:=(0:Int)) hlt
  refine ⟨(some bb,cb),?_,?_⟩
  ·show Ending.returned (.slice (some ⟨bb,0,none⟩) (i + (a0.length + 1 - i)) cb) = .returned (.slice (some ⟨bb,0,none⟩) (a0.take i ++ [y] ++ a0.drop i).length cb)
   congr 2
   simp only [List.length_append,List.length_take,List.length_drop,List.length_cons,List.length_nil]; omega
  ·have s2:=s.pick (G':=[row nilH 3 (.slice (some ⟨bb,0,none⟩) (i + (a0.length + 1 - i)) cb) _,F]) [2,1] (by decide) rfl
   have hl:(a0.take i ++ [y] ++ a0.drop i).length = i + (a0.length + 1 - i):=by simp only [List.length_append,List.length_take,List.length_drop,List.length_cons,List.length_nil]; omega
   rw [hmm,hX,hfin] at s2
   rw [hl]
   exact s2
 refine T.skip (hKA1 _ _ ?_)
 have hroom:a0.length + 1 ≤ c:=by omega
 obtain ⟨bv,ov,rfl,hbv,_⟩:=apart_of (C:=row nilH 3 (rowV (some gg,c) a0.length) a0) (F:=F) s (fun q hq=>by
  rcases hq with ⟨hq,_⟩ | ⟨g',cap,cs,sp,hq,h1,_⟩
  ·simp [rowV] at hq
  ·simp only [rowV,Option.map_some,Value.slice.injEq,Option.some.injEq,Addr.mk.injEq,and_true] at hq
   obtain ⟨rfl,_⟩:=hq
   exact ⟨_,h1⟩) hv (by decide)
 refine T.seq fun KG1 hKG1=>?_
 refine T.region (rM rfl (rM rfl (rM rfl (rp (Pu.addS rfl rfl (by omega)) (rp (Pu.sliceHn (j:=a0.length + 1) cI_sl rfl rfl (by omega) hroom) (rA rfl (RS.nil (hKG1 _ _ ?_))))))))
 refine T.seq fun KH1 hKH1=>?_
 refine T.seq fun KI1 hKI1=>?_
 refine T.region (rM rfl (rM rfl (rM rfl (rM rfl (rp (Pu.addS rfl rfl (by omega)) (rp (Pu.sliceLs (j:=i + 1) cI_sl rfl rfl (by omega) (by omega) (by omega)) ?_))))))
 obtain ⟨fno,hfo,hoo⟩:=cI_ovl
 refine rq (Qt.overlaps hfo hoo cI_sl rfl rfl (fun w s=>?_)) ?_
 ·have hsp:Sat w0 [row nilH 3 (rowV (some gg,c) a0.length) a0,F] w:=s
  obtain ⟨b2,o2,e2,hb2,hcells⟩:=apart_of (C:=row nilH 3 (rowV (some gg,c) a0.length) a0) (F:=F) hsp (fun q hq=>by
   rcases hq with ⟨hq,_⟩ | ⟨g',cap,cs,sp,hq,h1,_⟩
   ·simp [rowV] at hq
   ·simp only [rowV,Option.map_some,Value.slice.injEq,Option.some.injEq,Addr.mk.injEq,and_true] at hq
    obtain ⟨rfl,_⟩:=hq
    exact ⟨_,h1⟩) hv (by decide)
  simp only [Option.some.injEq,Addr.mk.injEq,and_true] at e2
  obtain ⟨rfl,rfl⟩:=e2
  obtain ⟨cs,sp,k1,_,k3,_⟩:=hsp.rowCells (k:=0) rfl
  refine ⟨hbv,hcells,_,_,k1,?_⟩
  simp only [List.size_toArray]
  rw [k3]
  exact Nat.mul_pos (by omega) (by decide)
 refine rp (Pu.not rfl) (RS.nil (hKI1 _ _ ?_))
 refine T.condT rfl ?_
 refine T.seq fun KJ1 hKJ1=>?_
 refine T.drawn (fun _=>True) [(0,.pu),(1,.pu),(2,.pu),(3,.pu),(4,.pu),(5,.pu),(6,.pu),(7,.pu),(8,.br)] cI_mixed (ClE.sat _ _) (by kernel_rfl) ?_
 refine dp rfl (Pu.move rfl) (dp rfl (Pu.move rfl) (dp rfl (Pu.move rfl) (dp rfl (Pu.addS rfl rfl (by omega)) (dp rfl (Pu.sliceLs (j:=i + 1) cI_sl rfl rfl (by omega) (by omega) (by omega)) (dp rfl (Pu.move rfl) (dp rfl (Pu.move rfl) (dp rfl (Pu.sliceLs (j:=i) cI_sl rfl rfl rfl (by omega) (by omega)) (RD.solid rfl (.inr rfl) rfl rfl (Sd.copyUp (α:=Int) 0 i rfl cI_sl hlt hroom (vsl (by omega) (by omega)) (vsl (by omega) rfl) (by omega)) (fun _=>ClE.sat _ _) (fun _ _ _=>trivial) (fun h=>nomatch h) fun _=>?_))))))))
 refine RD.nil (hKJ1 _ _ ?_)
 have hXl:(a0.take (i + 1) ++ a0.drop i).length = a0.length + 1:=by simp only [List.length_append,List.length_take,List.length_drop]; omega
 refine T.seq fun KL1 hKL1=>?_
 refine T.region (rM rfl (rM rfl (rp (Pu.sliceLs (j:=i) cI_sl rfl rfl rfl (by omega) (by omega)) (rM rfl (RS.solid (Sd.copyR (α:=Int) (o:=i) 0 rfl cI_sl rfl rfl (Rd.ofFrame 1 rfl hv) (Nat.zero_add _) (by rw [hXl]; have h:Nat.min 1 (a0.length + 1 - i) ≤ 1:=Nat.min_le_left _ _; omega)) rfl rfl fun _=>RS.nil (hKL1 _ _ ?_))))))
 refine T.seq fun KM1 hKM1=>?_
 refine T.region (rM rfl (rA rfl (RS.nil (hKM1 _ _ ?_))))
 refine T.retTo (by with_reducible ((repeat (first | apply RetTo.seq | apply RetTo.blk)); exact RetTo.refl _)) (Cont.ret1 rfl rfl fun w' s=>?_)
 have hfin:=ins_up (xs:=a0) (i:=i) (y:=y) (m:=Nat.min 1 (a0.length + 1 - i)) hlt (Nat.min_eq_left (by omega))
 have hl:(a0.take i ++ [y] ++ a0.drop i).length = a0.length + 1:=by simp only [List.length_append,List.length_take,List.length_drop,List.length_cons,List.length_nil]; omega
 have s2:=s.pick (G':=[row nilH 3 (.slice (some ⟨gg,0,none⟩) (a0.length + 1) c) _,F]) [0,1] (by decide) rfl
 rw [hfin] at s2
 rw [hl]
 exact ⟨(some gg,c),rfl,s2⟩
--END
end Go.Proofs.YtmngdgclldkcfaaGreat
set_option linter.unusedVariables false
set_option maxRecDepth 20000
namespace Go.Proofs.YtmngdgclldkcfaaGreat
open Go.Vg
open Enc (R)
end Go.Proofs.YtmngdgclldkcfaaGreat
set_option linter.unusedVariables false
set_option linter.unusedSimpArgs false
set_option maxRecDepth 20000
set_option maxHeartbeats 4000000
namespace Go.Proofs.YtmngdgclldkcfaaGreat
open Go.Vg
open Enc (R)
structure Cach where
  room:Int
  vals:(Int→Option Int)
  keys:List Int
  hits:Int
  misses:Int
  deriving Inhabited
def Cach_ch (g:Nat) (x:Cach):Ch:=exch fun q:Nat × (Option Nat × Nat)=>stars (blk g [.int .i64 x.room,.map (some q.1),rowV q.2 x.keys.length,.int .i64 x.hits,.int .i64 x.misses] 217 :: [mapCh q.1 x.vals,row nilH 3 (rowV q.2 x.keys.length) x.keys])
theorem Cach_open {w0 w:World} {G:List Ch} {g:Nat} {x:Cach} (k:Nat) (hk:G[k]? = some (Cach_ch g x)) (h:Sat w0 G w):∃ q:Nat × (Option Nat × Nat),Sat w0 (G.set k (blk g [.int .i64 x.room,.map (some q.1),rowV q.2 x.keys.length,.int .i64 x.hits,.int .i64 x.misses] 217) ++ [mapCh q.1 x.vals,row nilH 3 (rowV q.2 x.keys.length) x.keys]) w:=Sat.openAt (A:=fun q:Nat × (Option Nat × Nat)=>blk g [.int .i64 x.room,.map (some q.1),rowV q.2 x.keys.length,.int .i64 x.hits,.int .i64 x.misses] 217) (L:=fun q:Nat × (Option Nat × Nat)=>[mapCh q.1 x.vals,row nilH 3 (rowV q.2 x.keys.length) x.keys]) k hk h
theorem Cach_shut {w0 w:World} {R:List Ch} {g:Nat} {x:Cach} (q:Nat × (Option Nat × Nat)) (h:Sat w0 (R ++ [blk g [.int .i64 x.room,.map (some q.1),rowV q.2 x.keys.length,.int .i64 x.hits,.int .i64 x.misses] 217,mapCh q.1 x.vals,row nilH 3 (rowV q.2 x.keys.length) x.keys]) w):Sat w0 (Cach_ch g x :: R) w:=Sat.toEx (C:=fun q:Nat × (Option Nat × Nat)=>stars (blk g [.int .i64 x.room,.map (some q.1),rowV q.2 x.keys.length,.int .i64 x.hits,.int .i64 x.misses] 217 :: [mapCh q.1 x.vals,row nilH 3 (rowV q.2 x.keys.length) x.keys])) q (Sat.toStars (blk g [.int .i64 x.room,.map (some q.1),rowV q.2 x.keys.length,.int .i64 x.hits,.int .i64 x.misses] 217 :: [mapCh q.1 x.vals,row nilH 3 (rowV q.2 x.keys.length) x.keys]) (G:=R) h)
end Go.Proofs.YtmngdgclldkcfaaGreat
set_option linter.unusedVariables false
set_option linter.unusedSimpArgs false
set_option maxRecDepth 20000
set_option maxHeartbeats 4000000
namespace Go.Proofs.YtmngdgclldkcfaaGreat
open Go.Vg
open Enc (R)
def cache_New (a0_room:Int):Option (Option Cach × Int) :=
  if (a0_room < 1) ∨ (4096 < a0_room) then
  some (none,1)
  else
  some (some (⟨a0_room,mNil,([]:List Int),0,0⟩:Cach),0)
def cache_Cache_Clear (a0_c:Cach):Option Cach :=
  some (⟨a0_c.room,mNil,[],a0_c.hits,a0_c.misses⟩:Cach)
def ground_Own (a0_g:Grd):Option Grd :=
  Option.bind (slices_Clone_Byte a0_g.tiles) fun x3 =>
  some (⟨a0_g.w,a0_g.h,x3⟩:Grd)
def throngref15_Room (a0_n:Int):Option Bool :=
  some (decide ((1 ≤ a0_n)∧(a0_n ≤ 4096)))
end Go.Proofs.YtmngdgclldkcfaaGreat
set_option linter.unusedVariables false
set_option linter.unusedSimpArgs false
set_option maxRecDepth 20000
set_option maxHeartbeats 4000000
namespace Go.Proofs.YtmngdgclldkcfaaGreat
open Go.Vg
open Enc (R)
theorem ent111:Ent Tryz.prog 111:=en Tryz.func111
theorem ent112:Ent Tryz.prog 112:=en Tryz.func112
theorem ent113:Ent Tryz.prog 113:=en Tryz.func113
theorem ent114:Ent Tryz.prog 114:=en Tryz.func114
theorem ent124:Ent Tryz.prog 124:=en Tryz.func124
theorem ent125:Ent Tryz.prog 125:=en Tryz.func125
theorem ent153:Ent Tryz.prog 153:=en Tryz.func153
theorem ent185:Ent Tryz.prog 185:=en Tryz.func185
theorem ent222:Ent Tryz.prog 222:=en Tryz.func222
theorem ent31:Ent Tryz.prog 31:=en Tryz.func31
theorem ent32:Ent Tryz.prog 32:=en Tryz.func32
theorem ent74:Ent Tryz.prog 74:=en Tryz.func74
theorem ent75:Ent Tryz.prog 75:=en Tryz.func75
theorem eqt33:eqTy Tryz.prog 33 = some [0,1]:=by kernel_rfl
instance fd37_0:FdC Tryz.prog 37 0 0:={}
instance fd37_1:FdC Tryz.prog 37 1 1:={}
instance fd37_2:FdC Tryz.prog 37 2 2:={}
instance fd37_3:FdC Tryz.prog 37 3 3:={}
instance fd37_4:FdC Tryz.prog 37 4 4:={}
instance fd37_5:FdC Tryz.prog 37 5 5:={}
instance fd37_6:FdC Tryz.prog 37 6 6:={}
instance fd37_7:FdC Tryz.prog 37 7 7:={}
instance fd37_8:FdC Tryz.prog 37 8 8:={}
instance fd52_0:FdC Tryz.prog 52 0 0:={}
instance fd52_1:FdC Tryz.prog 52 1 1:={}
instance fd52_2:FdC Tryz.prog 52 2 2:={}
instance fd52_3:FdC Tryz.prog 52 3 3:={}
instance fd52_4:FdC Tryz.prog 52 4 6:={}
instance fd52_5:FdC Tryz.prog 52 5 7:={}
instance sl29:SlC Tryz.prog 29 (37,10,96):={}
theorem st37:stTy Tryz.prog 37 = some ([.int .i64 0,.int .i64 0,.int .i64 0,.int .i64 0,.slice none 0 0,.int .i64 0,.int .i64 0,.int .i64 0,.int .i64 0,.int .i64 0],[(0,1),(1,1),(2,1),(3,1),(4,1),(5,1),(6,1),(7,1),(8,2)]):=by kernel_rfl
theorem st52:stTy Tryz.prog 52 = some ([.int .i64 0,.int .i64 0,.int .i64 0,.int .i64 0,.int .i64 0,.slice none 0 0,.slice none 0 0,.slice none 0 0],[(0,1),(1,1),(2,1),(3,3),(6,1),(7,1)]):=by kernel_rfl
instance ty35:TyC Tryz.prog 35 (1,false):={}
instance ty37:TyC Tryz.prog 37 (10,true):={}
instance ty49:TyC Tryz.prog 49 (1,false):={}
instance ty50:TyC Tryz.prog 50 (1,false):={}
instance ty52:TyC Tryz.prog 52 (8,true):={}
theorem zr37:zeroOf Tryz.prog 37 = some (.agg #[.int .i64 0,.int .i64 0,.int .i64 0,.int .i64 0,.slice none 0 0,.int .i64 0,.int .i64 0,.int .i64 0,.int .i64 0,.int .i64 0]):=by kernel_rfl
theorem zr52:zeroOf Tryz.prog 52 = some (.agg #[.int .i64 0,.int .i64 0,.int .i64 0,.int .i64 0,.int .i64 0,.slice none 0 0,.slice none 0 0,.slice none 0 0]):=by kernel_rfl
def army_Own (a0_w:Wld):Option Wld :=
  Option.bind (ground_Own a0_w.g) fun x3 =>
  Option.bind (slices_Clone_Bld a0_w.bs) fun x5 =>
  Option.bind (slices_Clone_Unt a0_w.us) fun x7 =>
  some (⟨a0_w.tick,a0_w.players,a0_w.nextid,x3,x5,x7⟩:Wld)
def army_form0_1 (a0_b:Bld) (cv0:Wld):Option Bool :=
  none
def army_form0 (a0_w:Wld):Option Bool :=
  if (((((a0_w.tick < 0) ∨ (1099511627776 < a0_w.tick)) ∨ (a0_w.players < 1)) ∨ (8 < a0_w.players)) ∨ (a0_w.nextid < 1)) ∨ (1099511627776 < a0_w.nextid) then
  some false
  else
  Option.bind (ground_May a0_w.g) fun x13 =>
  Option.bind (if (!x13) = true then
  some true
  else
  Option.bind (build_May a0_w.g a0_w.bs) fun x22 =>
  some (!x22)) fun b16 =>
  if (b16 = true) ∨ (4096 < (a0_w.us.length:Int)) then
  some false
  else
  Option.bind (slices_ContainsFuncB a0_w.bs (fun y0=>army_form0_1 y0 a0_w)) fun x20 =>
  some (!x20)
def world_New (a0_g:Grd) (a1_players:Int):Option (Wld × Int) :=
  Option.bind (ground_May a0_g) fun x3 =>
  if (((!x3) = true) ∨ (a1_players < 1)) ∨ (8 < a1_players) then
  some ((⟨0,0,0,(⟨0,0,[]⟩:Grd),[],[]⟩:Wld),1)
  else
  Option.bind (ground_Own a0_g) fun x9 =>
  some ((⟨0,a1_players,1,x9,[],[]⟩:Wld),0)
def command_only (a0_c:Cmd):Option (Cmd × Bool) :=
  if a0_c.kind = 1 then
  Option.bind (kind_May a0_c.n) fun x4 =>
  Option.bind (if x4 = true then
  Option.bind (disc_Place a0_c.pos) fun x9 =>
  some x9
  else
  some false) fun b7 =>
  some ((⟨a0_c.player,a0_c.seq,a0_c.kind,a0_c.n,[],0,0,0,a0_c.pos⟩:Cmd),b7)
  else
  if a0_c.kind = 2 then
  Option.bind (command_units a0_c.units) fun x11 =>
  Option.bind (if x11 = true then
  Option.bind (command_within a0_c.tile 0 16383) fun x16 =>
  some x16
  else
  some false) fun b14 =>
  some ((⟨a0_c.player,a0_c.seq,a0_c.kind,0,a0_c.units,a0_c.tile,0,0,(⟨0,0⟩:Vec)⟩:Cmd),b14)
  else
  if a0_c.kind = 3 then
  Option.bind (command_units a0_c.units) fun x18 =>
  some ((⟨a0_c.player,a0_c.seq,a0_c.kind,0,a0_c.units,0,0,0,(⟨0,0⟩:Vec)⟩:Cmd),x18)
  else
  if a0_c.kind = 4 then
  Option.bind (command_within a0_c.tile 0 16383) fun x20 =>
  Option.bind (if x20 = true then
  Option.bind (command_within a0_c.w 1 4) fun x30 =>
  some x30
  else
  some false) fun b23 =>
  Option.bind (if b23 = true then
  Option.bind (command_within a0_c.h 1 4) fun x28 =>
  some x28
  else
  some false) fun b26 =>
  some ((⟨a0_c.player,a0_c.seq,a0_c.kind,0,[],a0_c.tile,a0_c.w,a0_c.h,(⟨0,0⟩:Vec)⟩:Cmd),b26)
  else
  if a0_c.kind = 5 then
  Option.bind (command_within a0_c.n 1 1099511627776) fun x32 =>
  some ((⟨a0_c.player,a0_c.seq,a0_c.kind,a0_c.n,[],0,0,0,(⟨0,0⟩:Vec)⟩:Cmd),x32)
  else
  if a0_c.kind = 6 then
  Option.bind (command_units a0_c.units) fun x34 =>
  Option.bind (if x34 = true then
  Option.bind (command_within a0_c.n 1 1099511627776) fun x39 =>
  some x39
  else
  some false) fun b37 =>
  some ((⟨a0_c.player,a0_c.seq,a0_c.kind,a0_c.n,a0_c.units,0,0,0,(⟨0,0⟩:Vec)⟩:Cmd),b37)
  else
  if a0_c.kind = 7 then
  Option.bind (command_within a0_c.n 1 1099511627776) fun x41 =>
  Option.bind (if x41 = true then
  Option.bind (command_within a0_c.tile 0 16383) fun x46 =>
  some x46
  else
  some false) fun b44 =>
  some ((⟨a0_c.player,a0_c.seq,a0_c.kind,a0_c.n,[],a0_c.tile,0,0,(⟨0,0⟩:Vec)⟩:Cmd),b44)
  else
  some ((⟨a0_c.player,a0_c.seq,a0_c.kind,0,[],0,0,0,(⟨0,0⟩:Vec)⟩:Cmd),false)
def command_May (a0_c:Cmd):Option Bool :=
  Option.bind (command_only a0_c) fun x2 =>
  Option.bind (if x2.2 = true then
  Option.bind (command_within a0_c.player 1 8) fun x29 =>
  some x29
  else
  some false) fun b10 =>
  Option.bind (if b10 = true then
  Option.bind (command_within a0_c.seq 0 1099511627776) fun x27 =>
  some x27
  else
  some false) fun b13 =>
  some (decide (((((((b13 = true)∧(x2.1.n = a0_c.n))∧(x2.1.pos = a0_c.pos))∧(x2.1.tile = a0_c.tile))∧(x2.1.w = a0_c.w))∧(x2.1.h = a0_c.h))∧((x2.1.units.length:Int) = (a0_c.units.length:Int))))
def command_Own (a0_c:Cmd):Option Cmd :=
  Option.bind (slices_Clone_Int a0_c.units) fun x3 =>
  some (⟨a0_c.player,a0_c.seq,a0_c.kind,a0_c.n,x3,a0_c.tile,a0_c.w,a0_c.h,a0_c.pos⟩:Cmd)
def command_OwnAll (a0_l:List Cmd):Option (List Cmd) :=
  Option.bind (α:=List Cmd) (loop (σ:=List Cmd × Int) (β:=List Cmd) (fun (l4,v6) =>
  if v6 < (a0_l.length:Int) then
  if 0 ≤ v6∧v6 < (a0_l.length:Int) then
  Option.bind (command_Own (gi a0_l v6)) fun x19 =>
  if l4.length + 1 < 1099511627776 then
  if I64 (v6 + 1) then
  some (St.next ((l4 ++ ([x19]:List Cmd)),(v6 + 1)))
  else none
  else none
  else none
  else
  some (St.done l4)) ([],0)) fun v2 =>
  some v2
end Go.Proofs.YtmngdgclldkcfaaGreat
set_option linter.unusedVariables false
set_option linter.unusedSimpArgs false
set_option maxRecDepth 20000
set_option maxHeartbeats 4000000
namespace Go.Proofs.YtmngdgclldkcfaaGreat
open Go.Vg
open Enc (R)
structure Cel where
 x:Int
 y:Int
 deriving Inhabited,DecidableEq
def Cel.Wf (x:Cel):Prop:=(I64 x.x)∧(I64 x.y)
end Go.Proofs.YtmngdgclldkcfaaGreat
set_option linter.unusedSimpArgs false
set_option linter.unusedVariables false
namespace Go.Vg
open Go.RowKit (Below)
open Enc (R)
def R2 {α:Type} [Enc α] (A H:Hp) (xs:List α) (v:Value):Prop:=∃ p cap,v = .slice p xs.length cap∧xs.length ≤ cap∧cap ≤ maxLen∧(xs = [] ∨ ∃ b o cs,p = some ⟨b,o,none⟩∧RF A xs cs∧AtH H b o cs)
section
variable {w0 w:World} {G:List Ch} {α:Type} [Enc α] {A A' H H':Hp} {xs:List α} {v:Value}
theorem R2.of (h:R A xs [v]):R2 A A xs v:=by
 obtain ⟨p,cap,e,h1,h2,h3⟩:=h
 simp only [List.cons.injEq,and_true] at e
 exact ⟨p,cap,e,h1,h2,h3⟩
theorem R2.mono (hA:A.le A') (hH:H.le H') (h:R2 A H xs v):R2 A' H' xs v:=by
 obtain ⟨p,cap,e,h1,h2,h3⟩:=h
 refine ⟨p,cap,e,h1,h2,h3.imp id ?_⟩
 rintro ⟨b,o,cs,hp,hr,ha⟩
 exact ⟨b,o,cs,hp,hr.mono hA,ha.mono hH⟩
theorem R2.toR {K:Hp} (hA:A.le K) (hH:H.le K) (h:R2 A H xs v):R K xs [v]:=by
 obtain ⟨p,cap,e,h1,h2,h3⟩:=h.mono hA hH
 exact ⟨p,cap,by rw [e],h1,h2,h3⟩
theorem R2.el [Inhabited α] {b o len cap:Nat} (h:R2 A H xs (.slice (some ⟨b,o,none⟩) len cap)) {ji:Int} (hj:0 ≤ ji∧ji < (xs.length:Int)):∃ c,R A (gi xs ji) c∧AtH H b (o + ji.toNat * Enc.sz α) c:=by
 obtain ⟨p',cap',e,h1,h2,h3⟩:=h
 simp only [Value.slice.injEq] at e
 obtain ⟨rfl,rfl,rfl⟩:=e
 rcases h3 with rfl | ⟨b',o',cs,hp,hr,ha⟩
 ·simp at hj; omega
 ·simp only [Option.some.injEq,Addr.mk.injEq,and_true] at hp
  obtain ⟨rfl,rfl⟩:=hp
  obtain ⟨c,hc,hg⟩:=hr.get (gi_get hj)
  obtain ⟨d,t,f,e1,e2⟩:=ha
  exact ⟨c,hc,d,t,f,e1,fun j v hv=>by rw [Nat.add_assoc]; exact e2 _ _ (hg _ _ hv)⟩
theorem fa_R2 {e:TypeId} {p:Hp} (h:rowG (FA A) e v xs p):R2 A p xs v:=by
 rcases h with ⟨rfl,rfl,_⟩ | ⟨g,cap,cs,sp,rfl,hg,h3,h4,h5,h6⟩
 ·exact ⟨none,0,rfl,by simp,by simp,.inl rfl⟩
 ·refine ⟨_,cap,rfl,h3,h4,.inr ⟨g,0,cs,rfl,h6,_,e,_,hg,fun j u hj=>?_⟩⟩
  rw [Nat.zero_add,List.getElem?_toArray,List.getElem?_append_left (List.getElem?_eq_some_iff.1 hj).1]; exact hj
def Rd2 (S:As) (A:Hp) (xs:List α) (v:Value):Prop:=∀ w,S w→R2 A (hpOf w) xs v
theorem Rd2.arena (hA:Held (Sat w0 G) A) (h:R A xs [v]):Rd2 (Sat w0 G) A xs v:=fun w s=>(R2.of h).mono (Hp.le_refl _) (hA w s)
theorem Sat.absorb {C:Ch} (k j:Nat) (s:Sat w0 G w) (hk:G[k]? = some (fz A)) (hj:G[j]? = some C) (hne:k ≠ j):∃ h,(A.le h∧∃ p,C p∧p.le h)∧Sat w0 ((G.set k (fz h)).set j dead) w:=by
 have s1:=s.merge2 k j hk hj hne (fun r=>A.le r∧∃ p,C p∧p.le r) fun p q r a b d l1 l2=>by
  have:p = A:=a
  subst this
  exact ⟨l1,q,b,l2⟩
 have hkl:=(List.getElem?_eq_some_iff.1 hk).1
 have hk1:((G.set k (fun r=>A.le r∧∃ p,C p∧p.le r)).set j dead)[k]? = some (fun r=>A.le r∧∃ p,C p∧p.le r):=by rw [List.getElem?_set_ne hne.symm,List.getElem?_set_self hkl]
 obtain ⟨h,hh,s2⟩:=s1.freeze k hk1
 rw [List.set_comm _ _ hne.symm,List.set_set] at s2
 exact ⟨h,hh,s2⟩
theorem Sat.faUp {e:TypeId} (k:Nat) (hle:A.le A') (s:Sat w0 G w) (hk:G[k]? = some (rowG (FA A) e v xs)):Sat w0 (G.set k (rowG (FA A') e v xs)) w :=
 s.weaken k hk _ fun p hp=>by
  rcases hp with ⟨a,b,_⟩ | ⟨g,cap,cs,sp,h1,h2,h3,h4,h5,h6⟩
  ·exact .inl ⟨a,b,by subst b; rfl⟩
  ·exact .inr ⟨g,cap,cs,sp,h1,h2,h3,h4,h5,RF.mono hle h6⟩
theorem Sat.newArena (s:Sat w0 G w):∃ h:Hp,True∧Sat w0 (G ++ [fz h]) w:=by
 obtain ⟨h,_,s1⟩:=Sat.freeze (C:=dead) G.length (by simp) (s.addEmpty dead fun _=>trivial)
 exact ⟨h,trivial,by simpa using s1⟩
end
section
variable {P:Program} {n:Nat} {fr:Fr} {dst:Option Tmp} {ty:TypeId} {pos:String} {aft:Array Edge} {g:Option (Nat × Bool)} {S:As} {w0:World} {G:List Ch}
theorem Sd.appGB {α:Type} [Enc α] {Φ:Hp→List α→List Value→Prop} [PhM w0 Φ] (k:Nat) {C:Ch} (hk:G[k]? = some C) {x y:Operand} {t e:TypeId} {by':Nat} {z v:Value} {xs ys:List α} {q:Addr} {m c:Nat}
  (ht:slTy P t = some (e,Enc.sz α,by')) (hz:zeroOf P e = some z) (hzs:z.cells.size = Enc.sz α) (hx:ev fr x = some v) (hy:ev fr y = some (.slice (some q) m c))
  (hm:ys.length = m) (hlt:xs.length + ys.length < 1099511627776) (hbytes:(xs.length + m) * by' ≤ 140737488355328)
  (hC:∀ w,Sat w0 G w→∃ news,(∀ p,C p→p.le (hpOf w)→(∀ b o,p b = some o→w0.heap.size ≤ b)→rowAndG Φ e v xs ys news p)∧(∀ j u,news[j]? = some u→w.cell? (q.add j) = some u)∧news.length = ys.length * Enc.sz α∧∀ u ∈ news,u.oneCell' = true) :
  Sd P n ⟨dst,.call { callee:=.builtin .append,args:=#[x,y],argTypes:=#[t,t] },ty,pos,aft,g⟩ fr (Sat w0 G) (fun q=>rowV q (xs ++ ys).length) (fun q=>Sat w0 (G.set k (rowG Φ e (rowV q (xs ++ ys).length) (xs ++ ys)))):=fun a w kn s=>by
 have h63:xs.length + m ≤ maxLen:=by unfold maxLen; omega
 obtain ⟨news,hC,h1,h2,h3⟩:=hC w s
 have s':Sat w0 (G.set k (fun p=>C p∧p.le (hpOf w))) w:=by
  obtain ⟨e1,own,h2⟩:=s
  refine ⟨e1,own,fun j E hj=>?_⟩
  by_cases hjk:k = j
  ·subst hjk
   rw [List.getElem?_set_self (List.getElem?_eq_some_iff.1 hk).1] at hj
   have:=(Option.some.inj hj).symm; subst this
   obtain ⟨p,hp,hb⟩:=h2 k C hk
   exact ⟨p,⟨hp,fun b o e=>(hb b o e).2.2⟩,hb⟩
  ·rw [List.getElem?_set_ne hjk] at hj
   exact h2 j E hj
 have hkl:k < G.length:=(List.getElem?_eq_some_iff.1 hk).1
 obtain ⟨v',w',hr,hs⟩:=s'.appendG (ty:=ty) (k:=k) (List.getElem?_set_self hkl) ht hz hzs (fun p hp hb=>hC p hp.1 hp.2 hb) hm h1 h2 h3 hbytes h63 (c:=c)
 rw [run_builtin_append kn hx hy hr]
 rw [List.set_set] at hs
 obtain ⟨p,hp,_⟩:=hs.get k (List.getElem?_set_self hkl)
 obtain ⟨q',hq⟩:=rowG_shape hp
 exact ⟨q',hq,by show Sat w0 (G.set k (rowG Φ e (rowV q' (xs ++ ys).length) (xs ++ ys))) w'; rw [← hq]; exact hs⟩
theorem Sd.appFA {α:Type} [Enc α] {A:Hp} (k:Nat) {x y:Operand} {t e:TypeId} {by':Nat} {z v vy:Value} {xs:List α} (ys:List α)
  (hk:G[k]? = some (rowG (FA A) e v xs)) (hR:Rd2 (Sat w0 G) A ys vy)
  (ht:slTy P t = some (e,Enc.sz α,by')) (hz:zeroOf P e = some z) (hzs:z.cells.size = Enc.sz α) (hx:ev fr x = some v) (hy:ev fr y = some vy)
  (hlt:xs.length + ys.length < 1099511627776) (hbytes:(xs.length + ys.length) * by' ≤ 140737488355328) :
  Sd P n ⟨dst,.call { callee:=.builtin .append,args:=#[x,y],argTypes:=#[t,t] },ty,pos,aft,g⟩ fr (Sat w0 G) (fun q=>rowV q (xs ++ ys).length) (fun q=>Sat w0 (G.set k (rowG (FA A) e (rowV q (xs ++ ys).length) (xs ++ ys)))):=fun a w kn s=>by
 obtain ⟨p',cap',e',s1,s2,s3⟩:=hR w s
 subst e'
 cases p' with
 | none =>
  have hnil:ys = []:=by
   rcases s3 with h | ⟨b,o,cs,hq,_⟩
   ·exact h
   ·cases hq
  subst hnil
  obtain ⟨p,hp,_⟩:=s.get k hk
  obtain ⟨q',hq⟩:=rowG_shape hp
  subst hq
  obtain ⟨hu,i,hi,_,_⟩:=slTy_spec ht
  have hf:=rowG_fits hp
  have hr:(Builtin.append_ #[t,t] ty #[rowV q' xs.length,.slice none ([]:List α).length cap']).run P w = .ok (rowV q' xs.length) w:=by
   obtain ⟨o,cc⟩:=q'
   have h1:xs.length ≤ cc:=hf.2.1
   cases o <;> simp [rowV,Builtin.append_,run_underlying hu,sizeOf,typeInfo,hi,Builtin.lenOf,Builtin.firstCells,storeCells,h1]
  rw [run_builtin_append kn hx hy hr]
  refine ⟨q',by simp,?_⟩
  simp only [List.append_nil]
  have e1:(G.set k (rowG (FA A) e (rowV q' xs.length) xs)) = G:=by
   obtain ⟨hl,he⟩:=List.getElem?_eq_some_iff.1 hk
   exact he ▸ List.set_getElem_self hl
  rw [e1]; exact s
 | some q =>
  exact Sd.appGB (Φ:=FA A) k hk ht hz hzs hx hy rfl hlt hbytes (fun w' s'=>by
   obtain ⟨p2,c2,e2,t1,t2,t3⟩:=hR w' s'
   simp only [Value.slice.injEq] at e2
   obtain ⟨rfl,_,rfl⟩:=e2
   rcases t3 with rfl | ⟨b,o,cs,hq,hr,ha⟩
   ·refine ⟨[],fun p hp _ _=>?_,fun j u hj=>by simp at hj,by simp,fun u hu=>by cases hu⟩
    rcases hp with ⟨rfl,rfl,h⟩ | ⟨g,cap,cs,sp,hv,hg,h3,h4,h5,h6⟩
    ·exact .inl ⟨rfl,rfl,rfl⟩
    ·exact .inr ⟨g,cap,cs,sp,hv,hg,h3,h4,h5,RF.length h6,by simpa using h6⟩
   ·cases hq
    refine ⟨cs,fun p hp _ _=>?_,fun j u hj=>by rw [add_lit]; exact ha.cell hj,hr.length,hr.one⟩
    rcases hp with ⟨rfl,rfl,h⟩ | ⟨g,cap,cs',sp,hv,hg,h3,h4,h5,h6⟩
    ·exact .inl ⟨rfl,rfl,hr⟩
    ·exact .inr ⟨g,cap,cs',sp,hv,hg,h3,h4,h5,RF.length h6,RF.append h6 hr⟩) a w kn s
theorem Sd.absorb {o:Oper} {κ:Type} {C:Ch} {A:Hp} {G1:List Ch} {F:Hp→List Ch} {val:Hp→κ→Value} {S':Hp→κ→As} (pre:∀ w,Sat w0 G w→Sat w0 G1 w) (kA j:Nat) (hk:G1[kA]? = some (fz A)) (hj:G1[j]? = some C) (hne:kA ≠ j)
  (up:∀ h,A.le h→∀ w,Sat w0 ((G1.set kA (fz h)).set j dead) w→Sat w0 (F h) w) (h:∀ i:Hp,(A.le i∧∃ p,C p∧p.le i)→Sd P n o fr (Sat w0 (F i)) (val i) (S' i)) :
  Sd P n o fr (Sat w0 G) (fun z:Hp × κ=>val z.1 z.2) (fun z=>S' z.1 z.2):=fun a w k s=>by
 obtain ⟨i,hi,s0⟩:=Sat.absorb kA j (pre w s) hk hj hne
 have:=h i hi a w k (up i hi.1 w s0)
 revert this
 generalize (execOp a.eval o).run P w = r
 intro this
 cases r with
 | ok x w' =>
  cases x <;> simp only [solidRes] at this ⊢
  case value u=>obtain ⟨x,h1,h2⟩:=this; exact ⟨(i,x),h1,h2⟩
  case skip=>obtain ⟨x,h1,h2⟩:=this; exact ⟨(i,x),h1,h2⟩
  case enter f args=>exact this.mono fun e w'' ⟨x,h1,h2⟩=>⟨(i,x),h1,h2⟩
 | halt x w'=>exact this.elim
end
section
variable {S:As} {α:Type} [Enc α] {A:Hp} {xs:List α}
end
end Go.Vg
