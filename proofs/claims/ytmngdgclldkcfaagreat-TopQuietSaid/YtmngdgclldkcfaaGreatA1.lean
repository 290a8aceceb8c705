/-
  Texts of one's own, joined: BO BI ZC BG.
-/
import Derived.Test.YtmngdgclldkcfaaGreatRows
import Derived.Test.YtmngdgclldkcfaaGreatW2
import Derived.Test.YtmngdgclldkcfaaGreatW3
set_option linter.unusedVariables false
set_option linter.unusedSimpArgs false
set_option maxRecDepth 20000
set_option maxHeartbeats 4000000
namespace Go.Proofs.YtmngdgclldkcfaaGreat
open Go.Vg
open Enc (R)
theorem bz5:decide (0 < Tryz.prog.bytesOf 5) = true:=by kernel_rfl
theorem co22:Tryz.prog.cellsOf 22 = 1:=by kernel_rfl
theorem co24:Tryz.prog.cellsOf 24 = 3:=by kernel_rfl
theorem co3:Tryz.prog.cellsOf 3 = 1:=by kernel_rfl
theorem co5:Tryz.prog.cellsOf 5 = 1:=by kernel_rfl
theorem uf24:structOf Tryz.prog 24 = some [(3,0),(3,1),(22,2)]:=by kernel_rfl
theorem ul3:Tryz.prog.underlying 3 = some (.int .i64):=by kernel_rfl
theorem ul5:Tryz.prog.underlying 5 = some (.int .u8):=by kernel_rfl
theorem usl22:Tryz.prog.underlying 22 = some (.slice 5):=by kernel_rfl
structure Grd where
 w:Int
 h:Int
 tiles:List UInt8
 deriving Inhabited
instance:Enc Grd where
 sz:=3
 R h x cs:=∃ v2,cs = [.int .i64 x.w,.int .i64 x.h,v2]∧Enc.R h (x.tiles:List UInt8) [v2]
 len:=fun ⟨v2,e,h2⟩=>by rw [e]; rfl
 one:=fun ⟨v2,e,h2⟩ u hu=>by
  rw [e] at hu; simp only [List.mem_cons,List.not_mem_nil,or_false] at hu
  rcases hu with rfl | rfl | rfl
  ·rfl
  ·rfl
  ·exact Enc.one h2 _ (by simp)
 mono:=fun hl ⟨v2,e,h2⟩=>⟨v2,e,Enc.mono hl h2⟩
def Grd.Wf (x:Grd):Prop:=(I64 x.w)∧(I64 x.h)∧((∀ y ∈ x.tiles,True)∧x.tiles.length ≤ 140737488351232)
theorem rd_Grd:Rdbl Tryz.prog 24 Grd Grd.Wf:=fun H enc w fuel cs x h hzd=>by
 obtain ⟨fs,hu,hfs⟩:=structOf_spec uf24
 obtain ⟨hl,m,hf⟩:=trod_field hu h hzd
 obtain ⟨f0,hf0,ht0,ho0⟩:∃ f,fs[0]? = some f∧f.type = 3∧f.offset = 0:=by
  have h1:(fs.toList.map (fun f=>(f.type,f.offset)))[0]? = some (3,0):=by rw [hfs]; rfl
  rw [List.getElem?_map,Option.map_eq_some_iff] at h1
  obtain ⟨f,h2,h3⟩:=h1
  simp only [Prod.mk.injEq] at h3
  exact ⟨f,by simpa using h2,h3.1,h3.2⟩
 obtain ⟨y0,hy0⟩:=hf 0 f0 hf0
 rw [ht0,ho0,co3] at hy0
 obtain ⟨a0,ha0,hw0⟩:=Rdbl.part (Rdbl.int ul3) hy0
 obtain ⟨f1,hf1,ht1,ho1⟩:∃ f,fs[1]? = some f∧f.type = 3∧f.offset = 1:=by
  have h1:(fs.toList.map (fun f=>(f.type,f.offset)))[1]? = some (3,1):=by rw [hfs]; rfl
  rw [List.getElem?_map,Option.map_eq_some_iff] at h1
  obtain ⟨f,h2,h3⟩:=h1
  simp only [Prod.mk.injEq] at h3
  exact ⟨f,by simpa using h2,h3.1,h3.2⟩
 obtain ⟨y1,hy1⟩:=hf 1 f1 hf1
 rw [ht1,ho1,co3] at hy1
 obtain ⟨a1,ha1,hw1⟩:=Rdbl.part (Rdbl.int ul3) hy1
 obtain ⟨f2,hf2,ht2,ho2⟩:∃ f,fs[2]? = some f∧f.type = 22∧f.offset = 2:=by
  have h1:(fs.toList.map (fun f=>(f.type,f.offset)))[2]? = some (22,2):=by rw [hfs]; rfl
  rw [List.getElem?_map,Option.map_eq_some_iff] at h1
  obtain ⟨f,h2,h3⟩:=h1
  simp only [Prod.mk.injEq] at h3
  exact ⟨f,by simpa using h2,h3.1,h3.2⟩
 obtain ⟨y2,hy2⟩:=hf 2 f2 hf2
 rw [ht2,ho2,co22] at hy2
 obtain ⟨a2,ha2,hw2⟩:=Rdbl.part (Rdbl.slice usl22 co5 (by decide) (Rdbl.u8 ul5) bz5) hy2
 rw [co24] at hl
 obtain ⟨x0,x1,x2,rfl⟩:∃ x0 x1 x2,cs = [x0,x1,x2]:=by
  match cs,hl with
  | [x0,x1,x2],_=>exact ⟨x0,x1,x2,rfl⟩
 simp only [List.drop_succ_cons,List.drop_zero,List.take_succ_cons,List.take_zero] at ha0 ha1 ha2
 obtain rfl:x0 = _:=by simpa [Enc.R] using ha0
 obtain rfl:x1 = _:=by simpa [Enc.R] using ha1
 exact ⟨⟨a0,a1,a2⟩,⟨_,rfl,ha2⟩,⟨hw0,hw1,hw2⟩⟩
structure Bld where
 id:Int
 owner:Int
 x:Int
 y:Int
 w:Int
 h:Int
 deriving Inhabited,DecidableEq
theorem eq_Bld (x y:Bld):(x.id == y.id && (x.owner == y.owner && (x.x == y.x && (x.y == y.y && (x.w == y.w && (x.h == y.h && (true))))))) = decide (x = y):=by
 obtain ⟨a0,a1,a2,a3,a4,a5⟩:=x
 obtain ⟨b0,b1,b2,b3,b4,b5⟩:=y
 simp only [Bld.mk.injEq,Bool.and_true,beq_iff_eq,Bool.decide_and]
 simp only [Bool.beq_eq_decide_eq]
instance:Enc Bld where
 sz:=6
 R h x cs:=cs = [.int .i64 x.id,.int .i64 x.owner,.int .i64 x.x,.int .i64 x.y,.int .i64 x.w,.int .i64 x.h]
 len:=fun e=>by rw [e]; rfl
 one:=fun e u hu=>by
  rw [e] at hu; simp only [List.mem_cons,List.not_mem_nil,or_false] at hu
  rcases hu with rfl | rfl | rfl | rfl | rfl | rfl
  ·rfl
  ·rfl
  ·rfl
  ·rfl
  ·rfl
  ·rfl
 mono:=fun hl e=>e
instance:Flat Bld:=⟨fun h=>h⟩
def Bld.Wf (x:Bld):Prop:=(I64 x.id)∧(I64 x.owner)∧(I64 x.x)∧(I64 x.y)∧(I64 x.w)∧(I64 x.h)
end Go.Proofs.YtmngdgclldkcfaaGreat
set_option linter.unusedVariables false
set_option linter.unusedSimpArgs false
set_option maxRecDepth 20000
set_option maxHeartbeats 4000000
namespace Go.Proofs.YtmngdgclldkcfaaGreat
open Go.Vg
open Enc (R)
--BEGIN
end Go.Proofs.YtmngdgclldkcfaaGreat
set_option linter.unusedVariables false
set_option linter.unusedSimpArgs false
set_option maxRecDepth 20000
set_option maxHeartbeats 4000000
namespace Go.Proofs.YtmngdgclldkcfaaGreat
open Go.Vg
open Enc (R)
theorem ent150:Ent Tryz.prog 150:=⟨_,_,Tryz.func150,by kernel_rfl,rfl⟩
theorem ent97:Ent Tryz.prog 97:=⟨_,_,Tryz.func97,by kernel_rfl,rfl⟩
theorem mixed:Tryz.prog.follows .mixedOrders = true:=by kernel_rfl
theorem sl35:slTy Tryz.prog 35 = some (3,1,8):=by kernel_rfl
theorem sl49:slTy Tryz.prog 49 = some (135,6,48):=by kernel_rfl
theorem ul80:Tryz.prog.underlying 80 = some (.int .u64):=by kernel_rfl
theorem us3:(Tryz.prog.underlying 3).isSome = true:=by kernel_rfl
theorem us80:(Tryz.prog.underlying 80).isSome = true:=by kernel_rfl
theorem usl35:Tryz.prog.underlying 35 = some (.slice 3):=by kernel_rfl
theorem usl49:Tryz.prog.underlying 49 = some (.slice 135):=by kernel_rfl
theorem zr135:zeroOf Tryz.prog 135 = some (.agg #[.int .i64 0,.int .i64 0,.int .i64 0,.int .i64 0,.int .i64 0,.int .i64 0]):=by kernel_rfl
theorem zr3:zeroOf Tryz.prog 3 = some (.int .i64 0):=by kernel_rfl
theorem mul64_calls (a b:Int) (ha:0 ≤ a∧a < 2147483648) (hb:0 ≤ b∧b < 2147483648) (w:World):Calls Tryz.prog 150 #[.int .u64 a,.int .u64 b] w fun e w'=>e = .returned (.tuple #[.int .u64 0,.int .u64 (a * b)])∧Ext w w':=by
 refine T.enter (args:=[.int .u64 a,.int .u64 b]) (S:=Sat w []) Tryz.func150 rfl rfl (Sat.start w) ?_
 have ea:a % 4294967296 = a:=by omega
 have eb:b % 4294967296 = b:=by omega
 have ea2:a / 4294967296 = 0:=by omega
 have eb2:b / 4294967296 = 0:=by omega
 have hm:=mul_bd (a:=a) (b:=b) (A:=2147483648) (B:=2147483648) (by omega) (by omega)
 refine T.seq fun K1 hK1=>?_
 refine T.region ?_
 refine RS.p (Pu.assign rfl) rfl rfl ?_
 refine RS.p (Pu.assign rfl) rfl rfl ?_
 refine RS.nil (hK1 _ _ ?_)
 refine T.seq fun K2 hK2=>?_
 refine T.region ?_
 refine RS.p (Pu.move rfl) rfl rfl ?_
 refine RS.p (Pu.andU rfl rfl (by omega)) rfl rfl ?_
 rw [ea]
 refine RS.p (Pu.assign rfl) rfl rfl ?_
 refine RS.nil (hK2 _ _ (T.conseq (fr':=[(0,_),(1,_),(6,_)]) ?_ ⟨rfl,rfl,rfl,trivial⟩ (fun _ s=>s)))
 refine T.seq fun K3 hK3=>?_
 refine T.region ?_
 refine RS.p (Pu.move rfl) rfl rfl ?_
 refine RS.p (Pu.shrU rfl rfl) rfl rfl ?_
 rw [ea2]
 refine RS.p (Pu.assign rfl) rfl rfl ?_
 refine RS.nil (hK3 _ _ ?_)
 refine T.seq fun K4 hK4=>?_
 refine T.region ?_
 refine RS.p (Pu.move rfl) rfl rfl ?_
 refine RS.p (Pu.andU rfl rfl (by omega)) rfl rfl ?_
 rw [eb]
 refine RS.p (Pu.assign rfl) rfl rfl ?_
 refine RS.nil (hK4 _ _ (T.conseq (fr':=[(0,_),(1,_),(6,_),(7,_),(8,_)]) ?_ ⟨rfl,rfl,rfl,rfl,rfl,trivial⟩ (fun _ s=>s)))
 refine T.seq fun K5 hK5=>?_
 refine T.region ?_
 refine RS.p (Pu.move rfl) rfl rfl ?_
 refine RS.p (Pu.shrU rfl rfl) rfl rfl ?_
 rw [eb2]
 refine RS.p (Pu.assign rfl) rfl rfl ?_
 refine RS.nil (hK5 _ _ ?_)
 refine T.seq fun K6 hK6=>?_
 refine T.region ?_
 refine RS.p (Pu.move rfl) rfl rfl ?_
 refine RS.p (Pu.move rfl) rfl rfl ?_
 refine RS.p (Pu.mulU rfl rfl (by omega)) rfl rfl ?_
 refine RS.p (Pu.assign rfl) rfl rfl ?_
 refine RS.nil (hK6 _ _ (T.conseq (fr':=[(0,_),(1,_),(6,_),(7,_),(8,_),(9,_),(10,_)]) ?_ ⟨rfl,rfl,rfl,rfl,rfl,rfl,rfl,trivial⟩ (fun _ s=>s)))
 refine T.seq fun K7 hK7=>?_
 refine T.region ?_
 refine RS.p (Pu.move rfl) rfl rfl ?_
 refine RS.p (Pu.move rfl) rfl rfl ?_
 refine RS.p (Pu.mulU rfl rfl (by omega)) rfl rfl ?_
 refine RS.p (Pu.move rfl) rfl rfl ?_
 refine RS.p (Pu.shrU rfl rfl) rfl rfl ?_
 refine RS.p (Pu.addU rfl rfl (by omega)) rfl rfl ?_
 refine RS.p (Pu.assign rfl) rfl rfl ?_
 refine RS.nil (hK7 _ _ (T.conseq (fr':=[(0,_),(1,_),(6,_),(7,_),(9,_),(11,_)]) ?_ ⟨rfl,rfl,rfl,rfl,rfl,rfl,trivial⟩ (fun _ s=>s)))
 refine T.seq fun K8 hK8=>?_
 refine T.region ?_
 refine RS.p (Pu.move rfl) rfl rfl ?_
 refine RS.p (Pu.andU rfl rfl (by omega)) rfl rfl ?_
 refine RS.p (Pu.assign rfl) rfl rfl ?_
 refine RS.nil (hK8 _ _ ?_)
 refine T.seq fun K9 hK9=>?_
 refine T.region ?_
 refine RS.p (Pu.move rfl) rfl rfl ?_
 refine RS.p (Pu.shrU rfl rfl) rfl rfl ?_
 refine RS.p (Pu.assign rfl) rfl rfl ?_
 refine RS.nil (hK9 _ _ (T.conseq (fr':=[(0,_),(1,_),(6,_),(7,_),(9,_),(12,_),(13,_)]) ?_ ⟨rfl,rfl,rfl,rfl,rfl,rfl,rfl,trivial⟩ (fun _ s=>s)))
 refine T.seq fun K10 hK10=>?_
 refine T.region ?_
 refine RS.p (Pu.move rfl) rfl rfl ?_
 refine RS.p (Pu.move rfl) rfl rfl ?_
 refine RS.p (Pu.move rfl) rfl rfl ?_
 refine RS.p (Pu.mulU rfl rfl (by omega)) rfl rfl ?_
 refine RS.p (Pu.addU rfl rfl (by omega)) rfl rfl ?_
 refine RS.p (Pu.assign rfl) rfl rfl ?_
 refine RS.nil (hK10 _ _ (T.conseq (fr':=[(0,_),(1,_),(7,_),(9,_),(12,_),(13,_)]) ?_ ⟨rfl,rfl,rfl,rfl,rfl,rfl,trivial⟩ (fun _ s=>s)))
 refine T.seq fun K11 hK11=>?_
 refine T.region ?_
 refine RS.p (Pu.move rfl) rfl rfl ?_
 refine RS.p (Pu.move rfl) rfl rfl ?_
 refine RS.p (Pu.mulU rfl rfl (by omega)) rfl rfl ?_
 refine RS.p (Pu.move rfl) rfl rfl ?_
 refine RS.p (Pu.addU rfl rfl (by omega)) rfl rfl ?_
 refine RS.p (Pu.move rfl) rfl rfl ?_
 refine RS.p (Pu.shrU rfl rfl) rfl rfl ?_
 refine RS.p (Pu.addU rfl rfl (by omega)) rfl rfl ?_
 refine RS.p (Pu.assign rfl) rfl rfl ?_
 refine RS.nil (hK11 _ _ (T.conseq (fr':=[(0,_),(1,_),(4,_)]) ?_ ⟨rfl,rfl,rfl,trivial⟩ (fun _ s=>s)))
 refine T.seq fun K12 hK12=>?_
 refine T.region ?_
 refine RS.p (Pu.move rfl) rfl rfl ?_
 refine RS.p (Pu.move rfl) rfl rfl ?_
 refine RS.p (Pu.mulU rfl rfl (by omega)) rfl rfl ?_
 refine RS.p (Pu.assign rfl) rfl rfl ?_
 refine RS.nil (hK12 _ _ (T.conseq (fr':=[(4,_),(5,_)]) ?_ ⟨rfl,rfl,trivial⟩ (fun _ s=>s)))
 refine T.retTo (by with_reducible ((repeat (first | apply RetTo.seq | apply RetTo.blk)); exact RetTo.refl _)) (Cont.ret2 rfl rfl rfl fun w' s=>?_)
 refine ⟨?_,s.ext⟩
 congr 6
 omega
theorem mul_calls (a b:Int) (ha:0 ≤ a∧a < 2147483648) (hb:0 ≤ b∧b < 2147483648) (w:World):Calls Tryz.prog 97 #[.int .u64 a,.int .u64 b] w fun e w'=>e = .returned (.tuple #[.int .u64 0,.int .u64 (a * b)])∧Ext w w':=by
 refine T.enter (args:=[.int .u64 a,.int .u64 b]) (S:=Sat w []) Tryz.func97 rfl rfl (Sat.start w) ?_
 refine T.seq fun K1 hK1=>?_
 refine T.region ?_
 refine RS.p (Pu.assign rfl) rfl rfl ?_
 refine RS.p (Pu.assign rfl) rfl rfl ?_
 refine RS.nil (hK1 _ _ ?_)
 refine T.seq fun K2 hK2=>?_
 refine T.condF rfl ?_
 refine T.skip (hK2 _ _ ?_)
 refine T.seq fun K3 hK3=>?_
 refine T.region ?_
 refine RS.p (Pu.move rfl) rfl rfl ?_
 refine RS.p (Pu.move rfl) rfl rfl ?_
 refine RS.q (Qt.call ent150 rfl fun w _s=>mul64_calls _ _ (by omega) (by omega) _) rfl rfl ?_
 refine RS.p (Pu.move rfl) rfl rfl ?_
 refine RS.p (Pu.extract rfl rfl) rfl rfl ?_
 refine RS.p (Pu.extract rfl rfl) rfl rfl ?_
 refine RS.p (Pu.assign rfl) rfl rfl ?_
 refine RS.p (Pu.assign rfl) rfl rfl ?_
 refine RS.nil (hK3 _ _ (T.conseq (fr':=[(8,_),(9,_)]) ?_ ⟨rfl,rfl,trivial⟩ (fun _ s=>s)))
 refine T.seq fun K4 hK4=>?_
 refine T.region ?_
 refine RS.p (Pu.move rfl) rfl rfl ?_
 refine RS.p (Pu.move rfl) rfl rfl ?_
 refine RS.p (Pu.assign rfl) rfl rfl ?_
 refine RS.p (Pu.assign rfl) rfl rfl ?_
 refine RS.nil (hK4 _ _ (T.conseq (fr':=[(4,_),(5,_)]) ?_ ⟨rfl,rfl,trivial⟩ (fun _ s=>s)))
 refine T.retTo (by with_reducible ((repeat (first | apply RetTo.seq | apply RetTo.blk)); exact RetTo.refl _)) (Cont.ret2 rfl rfl rfl fun w' s=>?_)
 exact ⟨rfl,s.ext⟩
theorem cloneInt_calls_nil {l:List Int} {n c:Nat} (w:World) (hA:R (hpOf w) l [.slice none n c]):Calls Tryz.prog 222 #[.slice none n c] w fun e w'=>∃ q:Option Nat × Nat,e = .returned (rowV q l.length)∧Sat w [row nilH 3 (rowV q l.length) l] w':=by
 refine T.enter (args:=[.slice none n c]) (S:=Sat w []) Tryz.func222 rfl rfl (Sat.start w) ?_
 refine T.seq fun K1 hK1=>?_
 refine T.region ?_
 refine RS.p (Pu.assign rfl) rfl rfl ?_
 refine RS.nil (hK1 _ _ ?_)
 refine T.seq fun K2 hK2=>?_
 refine T.seq fun K3 hK3=>?_
 refine T.region ?_
 refine RS.p (Pu.move rfl) rfl rfl ?_
 refine RS.p (Pu.eqNilSl usl35 rfl) rfl rfl ?_
 refine RS.nil (hK3 _ _ ?_)
 refine T.cond rfl (fun hc4=>?_) (fun hc4=>?_)
 ·refine T.conseq (fr':=[]) ?_ trivial (fun _ s=>s)
  refine T.seq fun K4 hK4=>?_
  refine T.region ?_
  refine RS.p (Pu.assign rfl) rfl rfl ?_
  refine RS.nil (hK4 _ _ ?_)
  refine T.retTo (by with_reducible ((repeat (first | apply RetTo.seq | apply RetTo.blk)); exact RetTo.refl _)) (Cont.ret1 rfl rfl fun w' s=>?_)
  have hl0:l = []:=by
   obtain ⟨p',c',e',s1,s2,s3⟩:=hA
   simp only [List.cons.injEq,Value.slice.injEq,and_true] at e'
   obtain ⟨rfl,rfl,rfl⟩:=e'
   rcases s3 with h | ⟨b,o,cs,h,_⟩
   ·exact h
   ·cases h
  subst hl0
  exact ⟨(none,0),rfl,s.addEmpty _ (fun p=>.inl ⟨rfl,rfl⟩)⟩
 ·exact absurd hc4 (by simp) -- end
theorem cloneInt_calls_some {l:List Int} {a:Addr} {n c:Nat} (hsz:n < 1099511627776) (w:World) (hA:R (hpOf w) l [.slice (some a) n c]):Calls Tryz.prog 222 #[.slice (some a) n c] w fun e w'=>∃ q:Option Nat × Nat,e = .returned (rowV q l.length)∧Sat w [row nilH 3 (rowV q l.length) l] w':=by
 refine T.enter (args:=[.slice (some a) n c]) (S:=Sat w []) Tryz.func222 rfl rfl (Sat.start w) ?_
 refine T.seq fun K1 hK1=>?_
 refine T.region ?_
 refine RS.p (Pu.assign rfl) rfl rfl ?_
 refine RS.nil (hK1 _ _ ?_)
 refine T.seq fun K2 hK2=>?_
 refine T.seq fun K3 hK3=>?_
 refine T.region ?_
 refine RS.p (Pu.move rfl) rfl rfl ?_
 refine RS.p (Pu.eqNilSl usl35 rfl) rfl rfl ?_
 refine RS.nil (hK3 _ _ ?_)
 refine T.cond rfl (fun hc4=>?_) (fun hc4=>?_)
 ·exact absurd hc4 (by simp) -- end
 ·refine T.skip (hK2 _ _ (T.conseq (fr':=[(0,_)]) ?_ ⟨rfl,trivial⟩ (fun _ s=>s)))
  refine T.seq fun K4 hK4=>?_
  refine T.region ?_
  refine RS.solid (Sd.lit0 (α:=Int) (B:=nilH) sl35) rfl rfl fun b5=>?_
  refine RS.p (Pu.move rfl) rfl rfl ?_
  refine RS.solid (Sd.appB (α:=Int) 0 (nilH_lt _) rfl sl35 zr3 rfl rfl rfl hA (by simp only [List.length_nil]; omega) (by simp only [List.length_nil]; unfold maxLen; omega)) rfl rfl fun q7=>?_
  refine RS.p (Pu.assign rfl) rfl rfl ?_
  refine RS.nil (hK4 _ _ (T.conseq (fr':=[(2,_)]) ?_ ⟨rfl,trivial⟩ (fun _ s=>s)))
  refine T.retTo (by with_reducible ((repeat (first | apply RetTo.seq | apply RetTo.blk)); exact RetTo.refl _)) (Cont.ret1 rfl rfl fun w' s=>?_)
  have hn:n = l.length:=(R_len hA).1
  simp only [List.length_nil,Nat.zero_add,List.nil_append] at s
  subst hn
  exact ⟨q7,by simp,s.pick (G':=[_]) [0] (by decide) rfl⟩
theorem cloneInt_calls {l:List Int} {v:Value} (hsz:l.length < 1099511627776) (w:World) (hA:R (hpOf w) l [v]):Calls Tryz.prog 222 #[v] w fun e w'=>∃ q:Option Nat × Nat,e = .returned (rowV q l.length)∧Sat w [row nilH 3 (rowV q l.length) l] w':=by
 obtain ⟨p,c,rfl⟩:=R_form hA
 cases p with
 | none=>exact cloneInt_calls_nil w hA
 | some a=>exact cloneInt_calls_some hsz w hA
def slices_Clone_Int (l:List Int):Option (List Int):=if l.length < 1099511627776 then some l else none
theorem slices_Clone_Int_walk (l:List Int) (w:World) {v0:Value} (h0:R (hpOf w) l [v0]) {r:List Int} (H:slices_Clone_Int l = some r):Calls Tryz.prog 222 #[v0] w fun e w'=>∃ g:(Option Nat × Nat),e = .returned (rowV g r.length)∧Sat w [row nilH 3 (rowV g r.length) r] w':=by
 unfold slices_Clone_Int at H
 obtain ⟨h1,H⟩:=gdE H
 obtain rfl:=Option.some.inj H
 exact cloneInt_calls h1 w h0
theorem repeatInt_calls {x:Int} {n:Int} (hn:1 ≤ n∧n < 2147483648) {va:Value} (w:World) (hA:R (hpOf w) [x] [va]):Calls Tryz.prog 57 #[va,.int .i64 n] w fun e w'=>∃ b:Nat,e = .returned (.slice (some ⟨b,0,none⟩) n.toNat n.toNat)∧Sat w [row nilH 3 (.slice (some ⟨b,0,none⟩) n.toNat n.toNat) (List.replicate n.toNat x)] w':=by
 refine T.enter (args:=[_,_]) (S:=Sat w []) Tryz.func57 rfl rfl (Sat.start w) ?_
 obtain ⟨pa,ca,rfl⟩:=R_form hA
 dsimp only [List.length_cons,List.length_nil] at *
 refine T.seq fun K1 hK1=>?_
 refine T.region ?_
 refine RS.p (Pu.assign rfl) rfl rfl ?_
 refine RS.nil (hK1 _ _ ?_)
 refine T.seq fun K2 hK2=>?_
 refine T.seq fun K3 hK3=>?_
 refine T.region ?_
 refine RS.p (Pu.move rfl) rfl rfl ?_
 refine RS.p (Pu.bin rfl rfl rfl) rfl rfl ?_
 refine RS.nil (hK3 _ _ ?_)
 refine T.condP rfl (fun hc10=>?_) (fun hc10=>?_)
 ·exact absurd hc10 (by omega) -- end
 ·refine T.skip (hK2 _ _ (T.conseq (fr':=[(0,_),(1,_)]) ?_ ⟨rfl,rfl,trivial⟩ (fun _ s=>s)))
  refine T.seq fun K4 hK4=>?_
  refine T.region ?_
  refine RS.p (Pu.move rfl) rfl rfl ?_
  refine RS.p (Pu.lenSl sl35 rfl) rfl rfl ?_
  refine RS.p (Pu.convU us3 ul80 rfl (by omega)) rfl rfl ?_
  refine RS.p (Pu.move rfl) rfl rfl ?_
  refine RS.p (Pu.convU us3 ul80 rfl (by omega)) rfl rfl ?_
  refine RS.q (Qt.call ent97 rfl fun w _s=>mul_calls _ _ (by omega) (by omega) _) rfl rfl ?_
  rw [show ((0 + 1:Nat):Int) * n = n by omega]
  refine RS.p (Pu.move rfl) rfl rfl ?_
  refine RS.p (Pu.extract rfl rfl) rfl rfl ?_
  refine RS.p (Pu.extract rfl rfl) rfl rfl ?_
  refine RS.p (Pu.assign rfl) rfl rfl ?_
  refine RS.p (Pu.assign rfl) rfl rfl ?_
  refine RS.nil (hK4 _ _ (T.conseq (fr':=[(0,_),(5,_),(6,_)]) ?_ ⟨rfl,rfl,rfl,trivial⟩ (fun _ s=>s)))
  refine T.seq fun K5 hK5=>?_
  refine T.seq fun K6 hK6=>?_
  refine T.region ?_
  refine RS.p (Pu.move rfl) rfl rfl ?_
  refine RS.p (Pu.bin rfl rfl rfl) rfl rfl ?_
  refine RS.p (Pu.move rfl) rfl rfl ?_
  refine RS.splitP 23 rfl (fun h23=>?_) (fun h23=>?_)
  ·exact absurd h23 (by omega) -- end
  ·refine RS.p (Pu.move rfl) rfl rfl ?_
   refine RS.p (Pu.bin rfl rfl rfl) rfl rfl ?_
   refine RS.p (Pu.pickF rfl rfl) rfl rfl ?_
   refine RS.nil (hK6 _ _ ?_)
   refine T.condP rfl (fun hc26=>?_) (fun hc26=>?_)
   ·exact absurd hc26 (by omega) -- end
   ·refine T.skip (hK5 _ _ (T.conseq (fr':=[(0,_),(6,_)]) ?_ ⟨rfl,rfl,trivial⟩ (fun _ s=>s)))
    refine T.seq fun K7 hK7=>?_
    refine T.region ?_
    refine RS.p (Pu.move rfl) rfl rfl ?_
    refine RS.p (Pu.convS us80 ul3 rfl (by omega)) rfl rfl ?_
    refine RS.solid (Sd.make (α:=Int) (B:=nilH) 0 sl35 zr3 rfl (by decide) rfl rfl (by omega) (by omega) (by omega)) rfl rfl fun b30=>?_
    refine RS.p (Pu.assign rfl) rfl rfl ?_
    refine RS.nil (hK7 _ _ (T.conseq (fr':=[(0,_),(7,_)]) ?_ ⟨rfl,rfl,trivial⟩ (fun _ s=>s)))
    refine T.seq fun K8 hK8=>?_
    refine T.region ?_
    refine RS.p (Pu.move rfl) rfl rfl ?_
    refine RS.p (Pu.move rfl) rfl rfl ?_
    refine RS.solid (Sd.copyR 0 (o:=0) rfl sl35 rfl rfl (Rd.base hA) (by simp) (by simp only [List.length_replicate]; show 0 + min (0 + 1) n.toNat ≤ _; omega)) rfl rfl fun _=>?_
    refine RS.p (Pu.assign rfl) rfl rfl ?_
    refine RS.nil (hK8 _ _ (T.conseq (fr':=[(7,_),(8,_)]) ?_ ⟨rfl,rfl,trivial⟩ (fun _ s=>s)))
    refine T.seq fun K9 hK9=>?_
    refine T.block ?_
    refine T.loopK (σ:=Int) [(7,_)] (fun c=>[(8,.int .i64 c)]) (fun c=>Sat w [row nilH 3 (.slice (some ⟨b30,0,none⟩) n.toNat n.toNat) (List.replicate c.toNat x ++ List.replicate (n - c).toNat 0)]) (fun c=>1 ≤ c∧c ≤ n) (fun c=>(n - c).toNat) 1 (⟨by omega,by omega⟩) ⟨rfl,trivial⟩ ⟨ieq (by show ((min (0 + 1) n.toNat:Nat):Int) = 1; omega),rfl,trivial⟩ (fun w2 s=>by
     have hmn:Nat.min (0 + 1) n.toNat = 1:=by show min (0 + 1) n.toNat = 1; omega
     have s2:=s.pick (G':=[_]) [0] (by decide) rfl
     rw [hmn] at s2
     have e:List.take 0 (List.replicate n.toNat 0) ++ List.take 1 [x] ++ List.drop (0 + 1) (List.replicate n.toNat 0) = List.replicate (1:Int).toNat x ++ List.replicate (n - 1).toNat 0:=by
      rw [List.drop_replicate,show n.toNat - (0 + 1) = (n - 1).toNat by omega]; rfl
     rw [e] at s2
     exact s2) ?_
    intro c hI K9_ hL1
    refine T.conseq (fr':=[(8,_),(7,_)]) ?_ ⟨rfl,rfl,trivial⟩ (fun _ s=>s)
    obtain ⟨hc1,hc2⟩:=hI
    refine T.seq fun K10 hK10=>?_
    refine T.seq fun K11 hK11=>?_
    refine T.region ?_
    refine RS.p (Pu.move rfl) rfl rfl ?_
    refine RS.p (Pu.move rfl) rfl rfl ?_
    refine RS.p (Pu.lenSl sl35 rfl) rfl rfl ?_
    refine RS.p (Pu.bin rfl rfl rfl) rfl rfl ?_
    refine RS.nil (hK11 _ _ ?_)
    refine T.condP rfl (fun hc37=>?_) (fun hc37=>?_)
    ·refine T.skip (hK10 _ _ (T.conseq (fr':=[(7,_),(8,_)]) ?_ ⟨rfl,rfl,trivial⟩ (fun _ s=>s)))
     refine T.block ?_
     refine T.drawn (fun _=>True) [(0,.pu),(1,.pu),(2,.pu),(3,.pu),(4,.pu),(5,.pu),(6,.pu),(7,.br),(8,.pu),(9,.pu)] mixed (ClE.sat _ _) (by kernel_rfl) ?_
     refine RD.p (fun _ _=>trivial) rfl (Pu.move rfl) rfl rfl ?_
     refine RD.p (fun _ _=>trivial) rfl (Pu.move rfl) rfl rfl ?_
     refine RD.p (fun _ _=>trivial) rfl (Pu.move rfl) rfl rfl ?_
     refine RD.p (fun _ _=>trivial) rfl (Pu.sliceL sl35 rfl rfl (by omega)) rfl rfl ?_
     rw [cutP_lt (by omega)]
     refine RD.p (fun _ _=>trivial) rfl (Pu.move rfl) rfl rfl ?_
     refine RD.p (fun _ _=>trivial) rfl (Pu.move rfl) rfl rfl ?_
     refine RD.p (fun _ _=>trivial) rfl (Pu.sliceH sl35 rfl rfl (by omega)) rfl rfl ?_
     refine RD.solid rfl (.inr rfl) rfl rfl (Sd.copyR 0 (o:=c.toNat) rfl sl35 rfl rfl (fun w s=>take_reads (s.getRow (k:=0) rfl (nilH_le _)) (by simp only [List.length_append,List.length_replicate]; omega)) (by simp [Enc.sz]) (by simp only [List.length_append,List.length_replicate]; show c.toNat + min c.toNat (n.toNat - c.toNat) ≤ _; omega)) (fun _=>ClE.sat _ _) (fun _ _ _=>trivial) (fun h=>nomatch h) fun _=>?_
     have hml:Nat.min c.toNat (n.toNat - c.toNat) ≤ c.toNat:=Nat.min_le_left _ _
     refine RD.p (fun _ _=>trivial) rfl (Pu.addS rfl rfl (by omega)) rfl rfl ?_
     refine RD.p (fun _ _=>trivial) rfl (Pu.assign rfl) rfl rfl ?_
     obtain ⟨m,hm⟩:∃ m,m = Nat.min c.toNat (n.toNat - c.toNat):=⟨_,rfl⟩
     have hm':m = min c.toNat (n.toNat - c.toNat):=hm
     refine RD.nil (hL1 _ _ (c + (m:Int)) ⟨by omega,by omega⟩ (by omega) ⟨by rw [hm]; rfl,rfl,trivial⟩ (fun w2 s1=>by
      have s2:=s1.pick (G':=[_]) [0] (by decide) rfl
      rw [← hm,rep_step (by omega) (by omega)] at s2
      rw [show (c + (m:Int)).toNat = c.toNat + m by omega,show (n - (c + (m:Int))).toNat = (n - c).toNat - m by omega]
      exact s2))
    ·refine T.exitTo (by with_reducible (repeat (first | exact ExTo.here | exact ExTo.hereN | exact ExTo.deep (by repeat (first | exact NmTo.seq | apply NmTo.blk)) | apply ExTo.seq | refine ExTo.past (by decide) ?_))) (hK9 _ _ (T.conseq (fr':=[(7,_)]) ?_ ⟨rfl,trivial⟩ (fun _ s=>s)))
     refine T.seq fun K12 hK12=>?_
     refine T.region ?_
     refine RS.p (Pu.move rfl) rfl rfl ?_
     refine RS.p (Pu.assign rfl) rfl rfl ?_
     refine RS.nil (hK12 _ _ ?_)
     refine T.retTo (by with_reducible ((repeat (first | apply RetTo.seq | apply RetTo.blk)); exact RetTo.refl _)) (Cont.ret1 rfl rfl fun w' s=>?_)
     have hcn:c = n:=by omega
     rw [hcn,show (n - n).toNat = 0 by omega,List.replicate_zero,List.append_nil] at s
     exact ⟨b30,rfl,s⟩
def slices_Repeat_Int (x:List Int) (n:Int):Option (List Int):=if x.length = 1∧1 ≤ n∧n < 2147483648 then some (List.replicate n.toNat (gi x 0)) else none
theorem slices_Repeat_Int_walk (x:List Int) (n:Int) (w:World) {v0:Value} (h0:R (hpOf w) x [v0]) {r:List Int} (H:slices_Repeat_Int x n = some r):Calls Tryz.prog 57 #[v0,.int .i64 n] w fun e w'=>∃ g:(Option Nat × Nat),e = .returned (rowV g r.length)∧Sat w [row nilH 3 (rowV g r.length) r] w':=by
 unfold slices_Repeat_Int at H
 obtain ⟨⟨hx,h1,h2⟩,H⟩:=gdE H
 obtain rfl:=Option.some.inj H
 obtain ⟨a,rfl⟩:∃ a,x = [a]:=by
  match x,hx with
  | [a],_=>exact ⟨a,rfl⟩
 refine (repeatInt_calls ⟨h1,h2⟩ w h0).mono ?_
 rintro e w' ⟨b,he,hs⟩
 refine ⟨(some b,n.toNat),?_,?_⟩
 ·rw [he,List.length_replicate]; rfl
 ·rw [List.length_replicate]; exact hs
theorem cloneBld_calls_nil {l:List Bld} {n c:Nat} (w:World) (hA:R (hpOf w) l [.slice none n c]):Calls Tryz.prog 74 #[.slice none n c] w fun e w'=>∃ q:Option Nat × Nat,e = .returned (rowV q l.length)∧Sat w [row nilH 135 (rowV q l.length) l] w':=by
 refine T.enter (args:=[.slice none n c]) (S:=Sat w []) Tryz.func74 rfl rfl (Sat.start w) ?_
 refine T.seq fun K1 hK1=>?_
 refine T.region ?_
 refine RS.p (Pu.assign rfl) rfl rfl ?_
 refine RS.nil (hK1 _ _ ?_)
 refine T.seq fun K2 hK2=>?_
 refine T.seq fun K3 hK3=>?_
 refine T.region ?_
 refine RS.p (Pu.move rfl) rfl rfl ?_
 refine RS.p (Pu.eqNilSl usl49 rfl) rfl rfl ?_
 refine RS.nil (hK3 _ _ ?_)
 refine T.cond rfl (fun hc4=>?_) (fun hc4=>?_)
 ·refine T.conseq (fr':=[]) ?_ trivial (fun _ s=>s)
  refine T.seq fun K4 hK4=>?_
  refine T.region ?_
  refine RS.p (Pu.assign rfl) rfl rfl ?_
  refine RS.nil (hK4 _ _ ?_)
  refine T.retTo (by with_reducible ((repeat (first | apply RetTo.seq | apply RetTo.blk)); exact RetTo.refl _)) (Cont.ret1 rfl rfl fun w' s=>?_)
  have hl0:l = []:=by
   obtain ⟨p',c',e',s1,s2,s3⟩:=hA
   simp only [List.cons.injEq,Value.slice.injEq,and_true] at e'
   obtain ⟨rfl,rfl,rfl⟩:=e'
   rcases s3 with h | ⟨b,o,cs,h,_⟩
   ·exact h
   ·cases h
  subst hl0
  exact ⟨(none,0),rfl,s.addEmpty _ (fun p=>.inl ⟨rfl,rfl⟩)⟩
 ·exact absurd hc4 (by simp) -- end
theorem cloneBld_calls_some {l:List Bld} {a:Addr} {n c:Nat} (hsz:n < 1099511627776) (w:World) (hA:R (hpOf w) l [.slice (some a) n c]):Calls Tryz.prog 74 #[.slice (some a) n c] w fun e w'=>∃ q:Option Nat × Nat,e = .returned (rowV q l.length)∧Sat w [row nilH 135 (rowV q l.length) l] w':=by
 refine T.enter (args:=[.slice (some a) n c]) (S:=Sat w []) Tryz.func74 rfl rfl (Sat.start w) ?_
 refine T.seq fun K1 hK1=>?_
 refine T.region ?_
 refine RS.p (Pu.assign rfl) rfl rfl ?_
 refine RS.nil (hK1 _ _ ?_)
 refine T.seq fun K2 hK2=>?_
 refine T.seq fun K3 hK3=>?_
 refine T.region ?_
 refine RS.p (Pu.move rfl) rfl rfl ?_
 refine RS.p (Pu.eqNilSl usl49 rfl) rfl rfl ?_
 refine RS.nil (hK3 _ _ ?_)
 refine T.cond rfl (fun hc4=>?_) (fun hc4=>?_)
 ·exact absurd hc4 (by simp) -- end
 ·refine T.skip (hK2 _ _ (T.conseq (fr':=[(0,_)]) ?_ ⟨rfl,trivial⟩ (fun _ s=>s)))
  refine T.seq fun K4 hK4=>?_
  refine T.region ?_
  refine RS.solid (Sd.lit0 (α:=Bld) (B:=nilH) sl49) rfl rfl fun b5=>?_
  refine RS.p (Pu.move rfl) rfl rfl ?_
  refine RS.solid (Sd.appB (α:=Bld) 0 (nilH_lt _) rfl sl49 zr135 rfl rfl rfl hA (by simp only [List.length_nil]; omega) (by simp only [List.length_nil]; unfold maxLen; omega)) rfl rfl fun q7=>?_
  refine RS.p (Pu.assign rfl) rfl rfl ?_
  refine RS.nil (hK4 _ _ (T.conseq (fr':=[(2,_)]) ?_ ⟨rfl,trivial⟩ (fun _ s=>s)))
  refine T.retTo (by with_reducible ((repeat (first | apply RetTo.seq | apply RetTo.blk)); exact RetTo.refl _)) (Cont.ret1 rfl rfl fun w' s=>?_)
  have hn:n = l.length:=(R_len hA).1
  simp only [List.length_nil,Nat.zero_add,List.nil_append] at s
  subst hn
  exact ⟨q7,by simp,s.pick (G':=[_]) [0] (by decide) rfl⟩
theorem cloneBld_calls {l:List Bld} {v:Value} (hsz:l.length < 1099511627776) (w:World) (hA:R (hpOf w) l [v]):Calls Tryz.prog 74 #[v] w fun e w'=>∃ q:Option Nat × Nat,e = .returned (rowV q l.length)∧Sat w [row nilH 135 (rowV q l.length) l] w':=by
 obtain ⟨p,c,rfl⟩:=R_form hA
 cases p with
 | none=>exact cloneBld_calls_nil w hA
 | some a=>exact cloneBld_calls_some hsz w hA
def slices_Clone_Bld (l:List Bld):Option (List Bld):=if l.length < 1099511627776 then some l else none
theorem slices_Clone_Bld_walk (l:List Bld) (w:World) {v0:Value} (h0:R (hpOf w) l [v0]) {r:List Bld} (H:slices_Clone_Bld l = some r):Calls Tryz.prog 74 #[v0] w fun e w'=>∃ g:(Option Nat × Nat),e = .returned (rowV g r.length)∧Sat w [row nilH 135 (rowV g r.length) r] w':=by
 unfold slices_Clone_Bld at H
 obtain ⟨h1,H⟩:=gdE H
 obtain rfl:=Option.some.inj H
 exact cloneBld_calls h1 w h0
end Go.Proofs.YtmngdgclldkcfaaGreat
set_option linter.unusedVariables false
set_option linter.unusedSimpArgs false
set_option maxRecDepth 20000
set_option maxHeartbeats 4000000
namespace Go.Proofs.YtmngdgclldkcfaaGreat
open Go.Vg
open Enc (R)
def throngref0_EqNumbers (a0_a:List Int) (a1_b:List Int):Option Bool :=
  if ¬ (a0_a.length:Int) = (a1_b.length:Int) then
  some false
  else
  Option.bind (α:=Ex (Unit) (Bool)) (loop (σ:=Int) (β:=Ex (Unit) (Bool)) (fun v3 =>
  if v3 < (a0_a.length:Int) then
  if 0 ≤ v3∧v3 < (a0_a.length:Int) then
  if 0 ≤ v3∧v3 < (a1_b.length:Int) then
  if ¬ (gi a0_a v3) = (gi a1_b v3) then
  some (St.done (Ex.up false))
  else
  if I64 (v3 + 1) then
  some (St.next (v3 + 1))
  else none
  else none
  else none
  else
  some (St.done (Ex.go ()))) 0) fun x=>x.then fun _ =>
  some true
def throngref0_EqBytes (a0_a:List UInt8) (a1_b:List UInt8):Option Bool :=
  if ¬ (a0_a.length:Int) = (a1_b.length:Int) then
  some false
  else
  Option.bind (α:=Ex (Unit) (Bool)) (loop (σ:=Int) (β:=Ex (Unit) (Bool)) (fun v3 =>
  if v3 < (a0_a.length:Int) then
  if 0 ≤ v3∧v3 < (a0_a.length:Int) then
  if 0 ≤ v3∧v3 < (a1_b.length:Int) then
  if ¬ ((gi a0_a v3).toNat:Int) = ((gi a1_b v3).toNat:Int) then
  some (St.done (Ex.up false))
  else
  if I64 (v3 + 1) then
  some (St.next (v3 + 1))
  else none
  else none
  else none
  else
  some (St.done (Ex.go ()))) 0) fun x=>x.then fun _ =>
  some true
def throngref0_EqBuildings (a0_a:List Bld) (a1_b:List Bld):Option Bool :=
  if ¬ (a0_a.length:Int) = (a1_b.length:Int) then
  some false
  else
  Option.bind (α:=Ex (Unit) (Bool)) (loop (σ:=Int) (β:=Ex (Unit) (Bool)) (fun v3 =>
  if v3 < (a0_a.length:Int) then
  if 0 ≤ v3∧v3 < (a0_a.length:Int) then
  if 0 ≤ v3∧v3 < (a1_b.length:Int) then
  if ¬ (gi a0_a v3) = (gi a1_b v3) then
  some (St.done (Ex.up false))
  else
  if I64 (v3 + 1) then
  some (St.next (v3 + 1))
  else none
  else none
  else none
  else
  some (St.done (Ex.go ()))) 0) fun x=>x.then fun _ =>
  some true
def throngref0_EqGround (a0_a:Grd) (a1_b:Grd):Option Bool :=
  Option.bind (if (a0_a.w = a1_b.w)∧(a0_a.h = a1_b.h) then
  Option.bind (throngref0_EqBytes a0_a.tiles a1_b.tiles) fun x9 =>
  some x9
  else
  some false) fun b7 =>
  some b7
def throngref0_Num (a0_n:Int) (a1_most:Int):Option Bool :=
  some (decide ((0 ≤ a0_n)∧(a0_n ≤ a1_most)))
def cmp_isNaN (a0_x:Int):Option Bool :=
  some (decide (¬ a0_x = a0_x))
def cmp_Compare (a0_x:Int) (a1_y:Int):Option Int :=
  Option.bind (cmp_isNaN a0_x) fun x1 =>
  Option.bind (cmp_isNaN a1_y) fun x2 =>
  if x1 = true then
  if x2 = true then
  some 0
  else
  some (-1)
  else
  if x2 = true then
  some 1
  else
  if a0_x < a1_y then
  some (-1)
  else
  if a1_y < a0_x then
  some 1
  else
  some 0
def slices_Max (a0_x:List UInt8):Option Int :=
  Option.bind (α:=Unit) (if (a0_x.length:Int) < 1 then
  none
  else
  some ()) fun _ =>
  if 0 ≤ (0:Int)∧(0:Int) < (a0_x.length:Int) then
  Option.bind (α:=Int) (loop (σ:=Int × Int) (β:=Int) (fun (v7,v8) =>
  if v8 < (a0_x.length:Int) then
  if 0 ≤ v8∧v8 < (a0_x.length:Int) then
  if I64 (v8 + 1) then
  some (St.next ((max v7 ((gi a0_x v8).toNat:Int)),(v8 + 1)))
  else none
  else none
  else
  some (St.done v7)) (((gi a0_x (0:Int)).toNat:Int),1)) fun v6 =>
  some v6
  else none
def slices_IndexFunc (a0_s:List Int) (a1_f:Int→Option Bool):Option Int :=
  Option.bind (α:=Ex (Unit) (Int)) (loop (σ:=Int) (β:=Ex (Unit) (Int)) (fun v2 =>
  if v2 < (a0_s.length:Int) then
  if 0 ≤ v2∧v2 < (a0_s.length:Int) then
  Option.bind (a1_f (gi a0_s v2)) fun x8 =>
  if x8 = true then
  some (St.done (Ex.up v2))
  else
  if I64 (v2 + 1) then
  some (St.next (v2 + 1))
  else none
  else none
  else
  some (St.done (Ex.go ()))) 0) fun x=>x.then fun _ =>
  some (-1)
def slices_ContainsFunc (a0_s:List Int) (a1_f:Int→Option Bool):Option Bool :=
  Option.bind (slices_IndexFunc a0_s a1_f) fun x1 =>
  some (decide (0 ≤ x1))
def slices_IndexFuncB (a0_s:List Bld) (a1_f:Bld→Option Bool):Option Int :=
  Option.bind (α:=Ex (Unit) (Int)) (loop (σ:=Int) (β:=Ex (Unit) (Int)) (fun v2 =>
  if v2 < (a0_s.length:Int) then
  if 0 ≤ v2∧v2 < (a0_s.length:Int) then
  Option.bind (a1_f (gi a0_s v2)) fun x8 =>
  if x8 = true then
  some (St.done (Ex.up v2))
  else
  if I64 (v2 + 1) then
  some (St.next (v2 + 1))
  else none
  else none
  else
  some (St.done (Ex.go ()))) 0) fun x=>x.then fun _ =>
  some (-1)
def slices_ContainsFuncB (a0_s:List Bld) (a1_f:Bld→Option Bool):Option Bool :=
  Option.bind (slices_IndexFuncB a0_s a1_f) fun x1 =>
  some (decide (0 ≤ x1))
def ground_Side (a0_n:Int):Option Bool :=
  some (decide ((1 ≤ a0_n)∧(a0_n ≤ 128)))
def ground_May (a0_g:Grd):Option Bool :=
  Option.bind (ground_Side a0_g.w) fun x2 =>
  Option.bind (if (!x2) = true then
  some true
  else
  Option.bind (ground_Side a0_g.h) fun x12 =>
  some (!x12)) fun b5 =>
  if ¬ (b5 = true)→(I64 (a0_g.w * a0_g.h)) then
  if (b5 = true) ∨ (¬ (a0_g.tiles.length:Int) = (a0_g.w * a0_g.h)) then
  some false
  else
  Option.bind (slices_Max a0_g.tiles) fun x10 =>
  some (decide (x10 ≤ 5))
  else none
def build_form (a0_b:Bld):Option Bool :=
  some (decide ((((((((1 ≤ a0_b.id)∧(a0_b.id ≤ 1099511627776))∧(1 ≤ a0_b.owner))∧(a0_b.owner ≤ 8))∧(1 ≤ a0_b.w))∧(a0_b.w ≤ 4))∧(1 ≤ a0_b.h))∧(a0_b.h ≤ 4)))
def build_on (a0_g:Grd) (a1_b:Bld):Option Bool :=
  if (0 ≤ a1_b.x)→(I64 (a0_g.w - a1_b.w)) then
  if (((0 ≤ a1_b.x)∧(a1_b.x ≤ (a0_g.w - a1_b.w)))∧(0 ≤ a1_b.y))→(I64 (a0_g.h - a1_b.h)) then
  some (decide ((((0 ≤ a1_b.x)∧(a1_b.x ≤ (a0_g.w - a1_b.w)))∧(0 ≤ a1_b.y))∧(a1_b.y ≤ (a0_g.h - a1_b.h))))
  else none
  else none
def build_Tiles (a0_g:Grd) (a1_b:Bld):Option (List Int) :=
  Option.bind (α:=List Int) (loop (σ:=List Int × Int) (β:=List Int) (fun (l6,v8) =>
  if v8 < a1_b.h then
  Option.bind (α:=List Int) (loop (σ:=Int × List Int) (β:=List Int) (fun (v15,l16) =>
  if v15 < a1_b.w then
  if I64 (a1_b.x + v15) then
  if I64 (a1_b.y + v8) then
  if I64 (a0_g.w * (a1_b.y + v8)) then
  if I64 ((a1_b.x + v15) + (a0_g.w * (a1_b.y + v8))) then
  if l16.length < 1099511627776 then
  if I64 (v15 + 1) then
  some (St.next ((v15 + 1),(l16 ++ [((a1_b.x + v15) + (a0_g.w * (a1_b.y + v8)))])))
  else none
  else none
  else none
  else none
  else none
  else none
  else
  some (St.done l16)) (0,l6)) fun v12 =>
  if I64 (v8 + 1) then
  some (St.next (v12,(v8 + 1)))
  else none
  else
  some (St.done l6)) ([],0)) fun v4 =>
  some v4
def build_firm_1 (a0_t:Int) (cv0:Grd):Option Bool :=
  if 0 ≤ a0_t∧a0_t < (cv0.tiles.length:Int) then
  some (decide (1 < ((gi cv0.tiles a0_t).toNat:Int)))
  else none
def build_firm (a0_g:Grd) (a1_b:Bld):Option Bool :=
  Option.bind (build_Tiles a0_g a1_b) fun x3 =>
  Option.bind (slices_ContainsFunc x3 (fun y0=>build_firm_1 y0 a0_g)) fun x5 =>
  some (!x5)
def build_rising (a0_l:List Bld):Option Bool :=
  Option.bind (α:=Ex (Unit) (Bool)) (loop (σ:=Int) (β:=Ex (Unit) (Bool)) (fun v2 =>
  if v2 < (a0_l.length:Int) then
  if I64 (v2 - 1) then
  if 0 ≤ (v2 - 1)∧(v2 - 1) < (a0_l.length:Int) then
  if 0 ≤ v2∧v2 < (a0_l.length:Int) then
  if (gi a0_l v2).id ≤ (gi a0_l (v2 - 1)).id then
  some (St.done (Ex.up false))
  else
  if I64 (v2 + 1) then
  some (St.next (v2 + 1))
  else none
  else none
  else none
  else none
  else
  some (St.done (Ex.go ()))) 1) fun x=>x.then fun _ =>
  some true
def build_May (a0_g:Grd) (a1_l:List Bld):Option Bool :=
  Option.bind (if 256 < (a1_l.length:Int) then
  some true
  else
  Option.bind (build_rising a1_l) fun x48 =>
  some (!x48)) fun b4 =>
  if b4 = true then
  some false
  else
  if 0 ≤ (a0_g.tiles.length:Int)∧(a0_g.tiles.length:Int) ≤ 281474976710656 then
  Option.bind (α:=Ex (Unit) (Bool)) (loop (σ:=Int × List Bool) (β:=Ex (Unit) (Bool)) (fun (v9,l10) =>
  if v9 < (a1_l.length:Int) then
  if 0 ≤ v9∧v9 < (a1_l.length:Int) then
  Option.bind (build_form (gi a1_l v9)) fun x17 =>
  Option.bind (if (!x17) = true then
  some true
  else
  Option.bind (build_on a0_g (gi a1_l v9)) fun x46 =>
  some (!x46)) fun b20 =>
  Option.bind (if b20 = true then
  some true
  else
  Option.bind (build_firm a0_g (gi a1_l v9)) fun x44 =>
  some (!x44)) fun b23 =>
  if b23 = true then
  some (St.done (Ex.up false))
  else
  Option.bind (build_Tiles a0_g (gi a1_l v9)) fun x25 =>
  Option.bind (α:=Ex (List Bool) (St (Int × List Bool) (Ex (Unit) (Bool)))) (loop (σ:=Int × List Bool) (β:=Ex (List Bool) (St (Int × List Bool) (Ex (Unit) (Bool)))) (fun (v30,l31) =>
  if v30 < (x25.length:Int) then
  if 0 ≤ v30∧v30 < (x25.length:Int) then
  if 0 ≤ (gi x25 v30)∧(gi x25 v30) < ((a0_g.tiles.length:Int).toNat:Int) then
  if (gi l31 (gi x25 v30)) = true then
  some (St.done (Ex.up (St.done (Ex.up false))))
  else
  if 0 ≤ (gi x25 v30)∧(gi x25 v30) < ((a0_g.tiles.length:Int).toNat:Int) then
  if I64 (v30 + 1) then
  some (St.next ((v30 + 1),(si l31 (gi x25 v30) true)))
  else none
  else none
  else none
  else none
  else
  some (St.done (Ex.go l31))) (0,l10)) fun x=>x.then fun v28 =>
  if I64 (v9 + 1) then
  some (St.next ((v9 + 1),v28))
  else none
  else none
  else
  some (St.done (Ex.go ()))) (0,(List.replicate (a0_g.tiles.length:Int).toNat false))) fun x=>x.then fun _ =>
  some true
  else none
def throngref5_Ground (a0_g:Grd):Option Bool :=
  if ¬ ((((a0_g.w < 1) ∨ (128 < a0_g.w)) ∨ (a0_g.h < 1)) ∨ (128 < a0_g.h))→(I64 (a0_g.w * a0_g.h)) then
  if ((((a0_g.w < 1) ∨ (128 < a0_g.w)) ∨ (a0_g.h < 1)) ∨ (128 < a0_g.h)) ∨ (¬ (a0_g.tiles.length:Int) = (a0_g.w * a0_g.h)) then
  some false
  else
  Option.bind (α:=Ex (Unit) (Bool)) (loop (σ:=Int) (β:=Ex (Unit) (Bool)) (fun v13 =>
  if v13 < (a0_g.tiles.length:Int) then
  if 0 ≤ v13∧v13 < (a0_g.tiles.length:Int) then
  if 5 < ((gi a0_g.tiles v13).toNat:Int) then
  some (St.done (Ex.up false))
  else
  if I64 (v13 + 1) then
  some (St.next (v13 + 1))
  else none
  else none
  else
  some (St.done (Ex.go ()))) 0) fun x=>x.then fun _ =>
  some true
  else none
end Go.Proofs.YtmngdgclldkcfaaGreat
