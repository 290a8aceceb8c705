/-
  Texts of one's own, joined: ZC BG BH0.
-/
import Derived.Test.YtmngdgclldkcfaaGreatRows
import Derived.Test.YtmngdgclldkcfaaGreatJ6
import Derived.Test.YtmngdgclldkcfaaGreatJ7
import Derived.Test.YtmngdgclldkcfaaGreatJ5
set_option linter.unusedVariables false
set_option linter.unusedSimpArgs false
set_option maxRecDepth 20000
set_option maxHeartbeats 4000000
namespace Go.Proofs.YtmngdgclldkcfaaGreat
open Go.Vg
open Enc (R)
theorem ent150:Ent Tryz.prog 150:=en Tryz.func150
theorem ent97:Ent Tryz.prog 97:=en Tryz.func97
theorem mixed:Tryz.prog.follows .mixedOrders = true:=by kernel_rfl
instance sl35:SlC Tryz.prog 35 (3,1,8):={}
instance sl49:SlC Tryz.prog 49 (135,6,48):={}
theorem ul80:Tryz.prog.underlying 80 = some (.int .u64):=by kernel_rfl
theorem us3:(Tryz.prog.underlying 3).isSome = true:=by kernel_rfl
theorem us80:(Tryz.prog.underlying 80).isSome = true:=by kernel_rfl
theorem usl35:Tryz.prog.underlying 35 = some (.slice 3):=by kernel_rfl
theorem usl49:Tryz.prog.underlying 49 = some (.slice 135):=by kernel_rfl
theorem zr135:zeroOf Tryz.prog 135 = some (.agg #[.int .i64 0,.int .i64 0,.int .i64 0,.int .i64 0,.int .i64 0,.int .i64 0]):=by kernel_rfl
theorem zr3:zeroOf Tryz.prog 3 = some (.int .i64 0):=by kernel_rfl
theorem mul64_calls (a b:Int) (ha:0 ≤ a∧a < 2147483648) (hb:0 ≤ b∧b < 2147483648) (w:World):Calls Tryz.prog 150 #[.int .u64 a,.int .u64 b] w fun e w'=>e = .returned (.tuple #[.int .u64 0,.int .u64 (a * b)])∧Ext w w':=by
 refine T.enter (args:=[.int .u64 a,.int .u64 b]) (S:=Sat w []) Tryz.func150 rfl rfl (Sat.start w) ?_
 have ea:a % 4294967296 = a:=by omega
 have eb:b % 4294967296 = b:=by omega
 have ea2:a / 4294967296 = 0:=by omega
 have eb2:b / 4294967296 = 0:=by omega
 have hm:=mul_bd (a:=a) (b:=b) (A:=2147483648) (B:=2147483648) (by omega) (by omega)
 refine au 3 ?_
 refine T.seq fun _ k2=>T.region (rM rfl (rp (Pu.andU rfl rfl (by omega)) ?_))
 rw [ea]
 refine rA rfl (RS.nil (k2 _ _ (kq [0,1,6] ?_)))
 refine T.seq fun _ k3=>T.region (rM rfl (rp (Pu.shrU rfl rfl) ?_))
 rw [ea2]
 refine rA rfl (RS.nil (k3 _ _ ?_))
 refine T.seq fun _ k4=>T.region (rM rfl (rp (Pu.andU rfl rfl (by omega)) ?_))
 rw [eb]
 refine rA rfl (RS.nil (k4 _ _ (kq [0,1,6,7,8] ?_)))
 refine T.seq fun _ k5=>T.region (rM rfl (rp (Pu.shrU rfl rfl) ?_))
 rw [eb2]
 refine rA rfl (RS.nil (k5 _ _ ?_))
 refine T.seq fun _ k6=>T.region (au 2 ?_)
 refine rp (Pu.mulU rfl rfl (by omega)) (rA rfl (RS.nil (k6 _ _ (kq [0,1,6,7,8,9,10] ?_))))
 refine T.seq fun _ k7=>T.region (au 2 ?_)
 refine rp (Pu.mulU rfl rfl (by omega)) (rM rfl (rp (Pu.shrU rfl rfl) (rp (Pu.addU rfl rfl (by omega)) (rA rfl (RS.nil (k7 _ _ (kq [0,1,6,7,9,11] ?_)))))))
 refine T.seq fun _ k8=>T.region (rM rfl (rp (Pu.andU rfl rfl (by omega)) (rA rfl (RS.nil (k8 _ _ ?_)))))
 refine T.seq fun _ k9=>T.region (rM rfl (rp (Pu.shrU rfl rfl) (rA rfl (RS.nil (k9 _ _ (kq [0,1,6,7,9,12,13] ?_))))))
 refine T.seq fun _ k10=>T.region (au 3 ?_)
 refine rp (Pu.mulU rfl rfl (by omega)) (rp (Pu.addU rfl rfl (by omega)) (rA rfl (RS.nil (k10 _ _ (kq [0,1,7,9,12,13] ?_)))))
 refine T.seq fun _ k11=>T.region (au 2 ?_)
 refine rp (Pu.mulU rfl rfl (by omega)) (rM rfl (rp (Pu.addU rfl rfl (by omega)) (rM rfl (rp (Pu.shrU rfl rfl) (rp (Pu.addU rfl rfl (by omega)) (rA rfl (RS.nil (k11 _ _ (kq [0,1,4] ?_)))))))))
 refine T.seq fun _ k12=>T.region (au 2 ?_)
 refine rp (Pu.mulU rfl rfl (by omega)) (rA rfl (RS.nil (k12 _ _ (kq [4,5] ?_))))
 refine T.retTo (by with_reducible ((repeat (first | apply RetTo.seq | apply RetTo.blk)); exact RetTo.refl _)) (Cont.ret2 rfl rfl rfl fun w' s=>?_)
 refine ⟨?_,s.ext⟩
 congr 6
 omega
theorem mul_calls (a b:Int) (ha:0 ≤ a∧a < 2147483648) (hb:0 ≤ b∧b < 2147483648) (w:World):Calls Tryz.prog 97 #[.int .u64 a,.int .u64 b] w fun e w'=>e = .returned (.tuple #[.int .u64 0,.int .u64 (a * b)])∧Ext w w':=by
 refine T.enter (args:=[.int .u64 a,.int .u64 b]) (S:=Sat w []) Tryz.func97 rfl rfl (Sat.start w) ?_
 refine au 3 ?_
 refine T.seq fun _ k2=>?_
 refine T.condF rfl ?_
 refine T.skip (k2 _ _ ?_)
 refine T.seq fun _ k3=>T.region (au 2 ?_)
 refine rq (Qt.call ent150 rfl fun w _s=>mul64_calls _ _ (by omega) (by omega) _) (au 5 ?_)
 refine RS.nil (k3 _ _ (kq [8,9] ?_))
 refine T.seq fun _ k4=>T.region (au 4 ?_)
 refine RS.nil (k4 _ _ (kq [4,5] ?_))
 refine T.retTo (by with_reducible ((repeat (first | apply RetTo.seq | apply RetTo.blk)); exact RetTo.refl _)) (Cont.ret2 rfl rfl rfl fun w' s=>?_)
 exact ⟨rfl,s.ext⟩
theorem cloneInt_calls_nil {l:List Int} {n c:Nat} (w:World) (hA:R (hpOf w) l [.slice none n c]):Calls Tryz.prog 222 #[.slice none n c] w fun e w'=>∃ q:Option Nat × Nat,e = .returned (rowV q l.length)∧Sat w [row nilH 3 (rowV q l.length) l] w':=by
 refine T.enter (args:=[.slice none n c]) (S:=Sat w []) Tryz.func222 rfl rfl (Sat.start w) ?_
 refine au 2 ?_
 refine T.seq fun _ k2=>T.seq fun _ k3=>T.region (rM rfl (rp (Pu.eqNilSl usl35 rfl) (RS.nil (k3 _ _ ?_))))
 refine T.cond rfl (fun hc4=>?_) (fun hc4=>?_)
 ·refine kq [] ?_
  refine au 2 ?_
  refine T.retTo (by with_reducible ((repeat (first | apply RetTo.seq | apply RetTo.blk)); exact RetTo.refl _)) (Cont.ret1 rfl rfl fun w' s=>?_)
  have hl0:l = []:=by
   obtain ⟨p',c',e',s1,s2,s3⟩:=hA
   simp only [List.cons.injEq,Value.slice.injEq,and_true] at e'
   obtain ⟨rfl,rfl,rfl⟩:=e'
   rcases s3 with h | ⟨b,o,cs,h,_⟩
   ·exact h
   cases h
  subst hl0
  exact ⟨(none,0),rfl,s.addEmpty _ (fun p=>.inl ⟨rfl,rfl⟩)⟩
 exact absurd hc4 (by simp) -- end
theorem cloneInt_calls_some {l:List Int} {a:Addr} {n c:Nat} (hsz:n < 1099511627776) (w:World) (hA:R (hpOf w) l [.slice (some a) n c]):Calls Tryz.prog 222 #[.slice (some a) n c] w fun e w'=>∃ q:Option Nat × Nat,e = .returned (rowV q l.length)∧Sat w [row nilH 3 (rowV q l.length) l] w':=by
 refine T.enter (args:=[.slice (some a) n c]) (S:=Sat w []) Tryz.func222 rfl rfl (Sat.start w) ?_
 refine au 2 ?_
 refine T.seq fun _ k2=>T.seq fun _ k3=>T.region (rM rfl (rp (Pu.eqNilSl usl35 rfl) (RS.nil (k3 _ _ ?_))))
 refine T.cond rfl (fun hc4=>?_) (fun hc4=>?_)
 ·exact absurd hc4 (by simp) -- end
 refine T.skip (k2 _ _ (kq [0] ?_))
 refine T.seq fun _ k4=>T.region (RS.solid (Sd.lit0 (α:=Int) (B:=nilH) sl35.h) rfl rfl fun b5=>rM rfl (RS.solid (Sd.appB (α:=Int) 0 (nilH_lt _) rfl sl35.h zr3 rfl rfl rfl hA (by simp only [List.length_nil]; omega) (by simp only [List.length_nil]; unfold maxLen; omega)) rfl rfl fun q7=>rA rfl (RS.nil (k4 _ _ (kq [2] ?_)))))
 refine T.retTo (by with_reducible ((repeat (first | apply RetTo.seq | apply RetTo.blk)); exact RetTo.refl _)) (Cont.ret1 rfl rfl fun w' s=>?_)
 have hn:n = l.length:=(R_len hA).1
 simp only [List.length_nil,Nat.zero_add,List.nil_append] at s
 subst hn
 exact ⟨q7,by simp,s.pick (G':=[_]) [0] (by decide) rfl⟩
theorem cloneInt_calls {l:List Int} {v:Value} (hsz:l.length < 1099511627776) (w:World) (hA:R (hpOf w) l [v]):Calls Tryz.prog 222 #[v] w fun e w'=>∃ q:Option Nat × Nat,e = .returned (rowV q l.length)∧Sat w [row nilH 3 (rowV q l.length) l] w':=by
 obtain ⟨p,c,rfl⟩:=R_form hA
 cases p with
 | none=>exact cloneInt_calls_nil w hA
 | some a=>exact cloneInt_calls_some hsz w hA
def slices_Clone_Int (l:List Int):Option (List Int):=if l.length < 1099511627776 then some l else none
theorem slices_Clone_Int_walk (l:List Int) (w:World) {v0:Value} (h0:R (hpOf w) l [v0]) {r:List Int} (H:slices_Clone_Int l = some r):Calls Tryz.prog 222 #[v0] w fun e w'=>∃ g:(Option Nat × Nat),e = .returned (rowV g r.length)∧Sat w [row nilH 3 (rowV g r.length) r] w':=by
 unfold slices_Clone_Int at H
 obtain ⟨h1,H⟩:=gdE H
 obtain rfl:=sj H
 exact cloneInt_calls h1 w h0
theorem repeatInt_calls {x:Int} {n:Int} (hn:1 ≤ n∧n < 2147483648) {va:Value} (w:World) (hA:R (hpOf w) [x] [va]):Calls Tryz.prog 57 #[va,.int .i64 n] w fun e w'=>∃ b:Nat,e = .returned (.slice (some ⟨b,0,none⟩) n.toNat n.toNat)∧Sat w [row nilH 3 (.slice (some ⟨b,0,none⟩) n.toNat n.toNat) (List.replicate n.toNat x)] w':=by
 refine te Tryz.func57 (Sat.start w) ?_
 obtain ⟨pa,ca,rfl⟩:=R_form hA
 dsimp only [List.length_cons,List.length_nil] at *
 refine au 2 ?_
 refine T.seq fun _ k2=>au 3 ?_
 refine T.condP rfl (fun hc10=>?_) (fun hc10=>?_)
 ·exact absurd hc10 (by omega) -- end
 refine T.skip (k2 _ _ (kq [0,1] ?_))
 refine T.seq fun _ k4=>T.region (au 2 ?_)
 refine rp (Pu.convU us3 ul80 rfl (by omega)) (rM rfl (rp (Pu.convU us3 ul80 rfl (by omega)) (rq (Qt.call ent97 rfl fun w _s=>mul_calls _ _ (by omega) (by omega) _) ?_)))
 rw [show ((0 + 1:Nat):Int) * n = n by omega]
 refine au 5 ?_
 refine RS.nil (k4 _ _ (kq [0,5,6] ?_))
 refine T.seq fun _ k5=>T.seq fun _ k6=>T.region (au 3 ?_)
 refine RS.splitP 23 rfl (fun h23=>?_) (fun h23=>?_)
 ·exact absurd h23 (by omega) -- end
 refine au 3 ?_
 refine RS.nil (k6 _ _ ?_)
 refine T.condP rfl (fun hc26=>?_) (fun hc26=>?_)
 ·exact absurd hc26 (by omega) -- end
 refine T.skip (k5 _ _ (kq [0,6] ?_))
 refine T.seq fun _ k7=>T.region (rM rfl (rp (Pu.convS us80 ul3 rfl (by omega)) (RS.solid (Sd.make (α:=Int) (B:=nilH) 0 sl35.h zr3 rfl (by decide) rfl rfl (by omega) (by omega) (by omega)) rfl rfl fun b30=>rA rfl (RS.nil (k7 _ _ (kq [0,7] ?_))))))
 refine T.seq fun _ k8=>T.region (au 2 ?_)
 refine RS.solid (Sd.copyR 0 (o:=0) rfl sl35.h rfl rfl (Rd.base hA) (by simp) (by simp only [List.length_replicate]; show 0 + min (0 + 1) n.toNat ≤ _; omega)) rfl rfl fun _=>rA rfl (RS.nil (k8 _ _ (kq [7,8] ?_)))
 refine T.seq fun _ k9=>T.block ?_
 refine T.loopK (σ:=Int) [(7,_)] (fun c=>[(8,.int .i64 c)]) (fun c=>Sat w [row nilH 3 (.slice (some ⟨b30,0,none⟩) n.toNat n.toNat) (List.replicate c.toNat x ++ List.replicate (n - c).toNat 0)]) (fun c=>1 ≤ c∧c ≤ n) (fun c=>(n - c).toNat) 1 (⟨by omega,by omega⟩) sb ⟨ieq (by show ((min (0 + 1) n.toNat:Nat):Int) = 1; omega),rfl,trivial⟩ (fun w2 s=>by
  have hmn:Nat.min (0 + 1) n.toNat = 1:=by show min (0 + 1) n.toNat = 1; omega
  have s2:=s.pick (G':=[_]) [0] (by decide) rfl
  rw [hmn] at s2
  have e:List.take 0 (List.replicate n.toNat 0) ++ List.take 1 [x] ++ List.drop (0 + 1) (List.replicate n.toNat 0) = List.replicate (1:Int).toNat x ++ List.replicate (n - 1).toNat 0:=by
   rw [List.drop_replicate,show n.toNat - (0 + 1) = (n - 1).toNat by omega]; rfl
  rw [e] at s2
  exact s2) ?_
 intro c hI K9_ hL1
 refine kq [8,7] ?_
 obtain ⟨hc1,hc2⟩:=hI
 refine T.seq fun _ k10=>au 5 ?_
 refine T.condP rfl (fun hc37=>?_) (fun hc37=>?_)
 ·refine T.skip (k10 _ _ (kq [7,8] ?_))
  refine T.block (dr mixed [0,0,0,0,0,0,0,4,0,0] ?_)
  refine au 3 ?_
  refine dp rfl (Pu.sliceL sl35.h rfl rfl (by omega)) ?_
  rw [cutP_lt (by omega)]
  refine au 2 ?_
  refine dp rfl (Pu.sliceH sl35.h rfl rfl (by omega)) (RD.solid rfl (.inr rfl) rfl rfl (Sd.copyR 0 (o:=c.toNat) rfl sl35.h rfl rfl (fun w s=>take_reads (s.getRow (k:=0) rfl (nilH_le _)) (by simp only [List.length_append,List.length_replicate]; omega)) (by simp [Enc.sz]) (by simp only [List.length_append,List.length_replicate]; show c.toNat + min c.toNat (n.toNat - c.toNat) ≤ _; omega)) (fun _=>ClE.sat _ _) (fun _ _ _=>trivial) (fun h=>nomatch h) fun _=>?_)
  have hml:Nat.min c.toNat (n.toNat - c.toNat) ≤ c.toNat:=Nat.min_le_left _ _
  refine dp rfl (Pu.addS rfl rfl (by omega)) (dp rfl (Pu.assign rfl) ?_)
  obtain ⟨m,hm⟩:∃ m,m = Nat.min c.toNat (n.toNat - c.toNat):=⟨_,rfl⟩
  have hm':m = min c.toNat (n.toNat - c.toNat):=hm
  refine RD.nil (hL1 _ _ (c + (m:Int)) ⟨by omega,by omega⟩ (by omega) ⟨by rw [hm]; rfl,rfl,trivial⟩ (fun w2 s1=>by
   have s2:=s1.pick (G':=[_]) [0] (by decide) rfl
   rw [← hm,rep_step (by omega) (by omega)] at s2
   rw [show (c + (m:Int)).toNat = c.toNat + m by omega,show (n - (c + (m:Int))).toNat = (n - c).toNat - m by omega]
   exact s2))
 refine T.exitTo (by with_reducible (repeat (first | exact ExTo.here | exact ExTo.hereN | exact ExTo.deep (by repeat (first | exact NmTo.seq | apply NmTo.blk)) | apply ExTo.seq | refine ExTo.past (by decide) ?_))) (k9 _ _ (kq [7] ?_))
 refine au 3 ?_
 refine T.retTo (by with_reducible ((repeat (first | apply RetTo.seq | apply RetTo.blk)); exact RetTo.refl _)) (Cont.ret1 rfl rfl fun w' s=>?_)
 have hcn:c = n:=by omega
 rw [hcn,show (n - n).toNat = 0 by omega,List.replicate_zero,List.append_nil] at s
 exact ⟨b30,rfl,s⟩
def slices_Repeat_Int (x:List Int) (n:Int):Option (List Int):=if x.length = 1∧1 ≤ n∧n < 2147483648 then some (List.replicate n.toNat (gi x 0)) else none
theorem slices_Repeat_Int_walk (x:List Int) (n:Int) (w:World) {v0:Value} (h0:R (hpOf w) x [v0]) {r:List Int} (H:slices_Repeat_Int x n = some r):Calls Tryz.prog 57 #[v0,.int .i64 n] w fun e w'=>∃ g:(Option Nat × Nat),e = .returned (rowV g r.length)∧Sat w [row nilH 3 (rowV g r.length) r] w':=by
 unfold slices_Repeat_Int at H
 obtain ⟨⟨hx,h1,h2⟩,H⟩:=gdE H
 obtain rfl:=sj H
 obtain ⟨a,rfl⟩:∃ a,x = [a]:=by
  match x,hx with
  | [a],_=>exact ⟨a,rfl⟩
 refine (repeatInt_calls ⟨h1,h2⟩ w h0).mono ?_
 rintro e w' ⟨b,he,hs⟩
 refine ⟨(some b,n.toNat),?_,?_⟩
 ·rw [he,List.length_replicate]; rfl
 rw [List.length_replicate]; exact hs
theorem cloneBld_calls_nil {l:List Bld} {n c:Nat} (w:World) (hA:R (hpOf w) l [.slice none n c]):Calls Tryz.prog 74 #[.slice none n c] w fun e w'=>∃ q:Option Nat × Nat,e = .returned (rowV q l.length)∧Sat w [row nilH 135 (rowV q l.length) l] w':=by
 refine T.enter (args:=[.slice none n c]) (S:=Sat w []) Tryz.func74 rfl rfl (Sat.start w) ?_
 refine au 2 ?_
 refine T.seq fun _ k2=>T.seq fun _ k3=>T.region (rM rfl (rp (Pu.eqNilSl usl49 rfl) (RS.nil (k3 _ _ ?_))))
 refine T.cond rfl (fun hc4=>?_) (fun hc4=>?_)
 ·refine kq [] ?_
  refine au 2 ?_
  refine T.retTo (by with_reducible ((repeat (first | apply RetTo.seq | apply RetTo.blk)); exact RetTo.refl _)) (Cont.ret1 rfl rfl fun w' s=>?_)
  have hl0:l = []:=by
   obtain ⟨p',c',e',s1,s2,s3⟩:=hA
   simp only [List.cons.injEq,Value.slice.injEq,and_true] at e'
   obtain ⟨rfl,rfl,rfl⟩:=e'
   rcases s3 with h | ⟨b,o,cs,h,_⟩
   ·exact h
   cases h
  subst hl0
  exact ⟨(none,0),rfl,s.addEmpty _ (fun p=>.inl ⟨rfl,rfl⟩)⟩
 exact absurd hc4 (by simp) -- end
theorem cloneBld_calls_some {l:List Bld} {a:Addr} {n c:Nat} (hsz:n < 1099511627776) (w:World) (hA:R (hpOf w) l [.slice (some a) n c]):Calls Tryz.prog 74 #[.slice (some a) n c] w fun e w'=>∃ q:Option Nat × Nat,e = .returned (rowV q l.length)∧Sat w [row nilH 135 (rowV q l.length) l] w':=by
 refine T.enter (args:=[.slice (some a) n c]) (S:=Sat w []) Tryz.func74 rfl rfl (Sat.start w) ?_
 refine au 2 ?_
 refine T.seq fun _ k2=>T.seq fun _ k3=>T.region (rM rfl (rp (Pu.eqNilSl usl49 rfl) (RS.nil (k3 _ _ ?_))))
 refine T.cond rfl (fun hc4=>?_) (fun hc4=>?_)
 ·exact absurd hc4 (by simp) -- end
 refine T.skip (k2 _ _ (kq [0] ?_))
 refine T.seq fun _ k4=>T.region (RS.solid (Sd.lit0 (α:=Bld) (B:=nilH) sl49.h) rfl rfl fun b5=>rM rfl (RS.solid (Sd.appB (α:=Bld) 0 (nilH_lt _) rfl sl49.h zr135 rfl rfl rfl hA (by simp only [List.length_nil]; omega) (by simp only [List.length_nil]; unfold maxLen; omega)) rfl rfl fun q7=>rA rfl (RS.nil (k4 _ _ (kq [2] ?_)))))
 refine T.retTo (by with_reducible ((repeat (first | apply RetTo.seq | apply RetTo.blk)); exact RetTo.refl _)) (Cont.ret1 rfl rfl fun w' s=>?_)
 have hn:n = l.length:=(R_len hA).1
 simp only [List.length_nil,Nat.zero_add,List.nil_append] at s
 subst hn
 exact ⟨q7,by simp,s.pick (G':=[_]) [0] (by decide) rfl⟩
theorem cloneBld_calls {l:List Bld} {v:Value} (hsz:l.length < 1099511627776) (w:World) (hA:R (hpOf w) l [v]):Calls Tryz.prog 74 #[v] w fun e w'=>∃ q:Option Nat × Nat,e = .returned (rowV q l.length)∧Sat w [row nilH 135 (rowV q l.length) l] w':=by
 obtain ⟨p,c,rfl⟩:=R_form hA
 cases p with
 | none=>exact cloneBld_calls_nil w hA
 | some a=>exact cloneBld_calls_some hsz w hA
def slices_Clone_Bld (l:List Bld):Option (List Bld):=if l.length < 1099511627776 then some l else none
theorem slices_Clone_Bld_walk (l:List Bld) (w:World) {v0:Value} (h0:R (hpOf w) l [v0]) {r:List Bld} (H:slices_Clone_Bld l = some r):Calls Tryz.prog 74 #[v0] w fun e w'=>∃ g:(Option Nat × Nat),e = .returned (rowV g r.length)∧Sat w [row nilH 135 (rowV g r.length) r] w':=by
 unfold slices_Clone_Bld at H
 obtain ⟨h1,H⟩:=gdE H
 obtain rfl:=sj H
 exact cloneBld_calls h1 w h0
end Go.Proofs.YtmngdgclldkcfaaGreat
set_option linter.unusedVariables false
set_option linter.unusedSimpArgs false
set_option maxRecDepth 20000
set_option maxHeartbeats 4000000
namespace Go.Proofs.YtmngdgclldkcfaaGreat
open Go.Vg
open Enc (R)
def thronglaw0_Within (a0_i:Int) (a1_n:Int):Option Int :=
  if 0 ≤ (a0_i % 18446744073709551616)∧(1:Int) ≤ (a1_n % 18446744073709551616) then
  if I64 ((a0_i % 18446744073709551616) % (a1_n % 18446744073709551616)) then
  some ((a0_i % 18446744073709551616) % (a1_n % 18446744073709551616))
  else none
  else none
def cmp_isNaN (a0_x:Int):Option Bool :=
  some (decide (¬ a0_x = a0_x))
def cmp_Compare (a0_x:Int) (a1_y:Int):Option Int :=
  Option.bind (cmp_isNaN a0_x) fun x1 =>
  Option.bind (cmp_isNaN a1_y) fun x2 =>
  if x1 = true then
  none
  else
  if x2 = true then
  none
  else
  if a0_x < a1_y then
  none
  else
  if a1_y < a0_x then
  none
  else
  some 0
def slices_Max (a0_x:List UInt8):Option Int :=
  Option.bind (α:=Unit) (if (a0_x.length:Int) < 1 then
  none
  else
  some ()) fun _ =>
  if 0 ≤ (0:Int)∧(0:Int) < (a0_x.length:Int) then
  Option.bind (α:=Int) (loop (σ:=Int × Int) (β:=Int) (fun (v7,v8) =>
  if v8 < (a0_x.length:Int) then
  if 0 ≤ v8∧v8 < (a0_x.length:Int) then
  if I64 (v8 + 1) then
  some (St.next ((max v7 ((gi a0_x v8).toNat:Int)),(v8 + 1)))
  else none
  else none
  else
  some (St.done v7)) (((gi a0_x (0:Int)).toNat:Int),1)) fun v6 =>
  some v6
  else none
def slices_IndexFunc (a0_s:List Int) (a1_f:Int→Option Bool):Option Int :=
  Option.bind (α:=Ex (Unit) (Int)) (loop (σ:=Int) (β:=Ex (Unit) (Int)) (fun v2 =>
  if v2 < (a0_s.length:Int) then
  if 0 ≤ v2∧v2 < (a0_s.length:Int) then
  Option.bind (a1_f (gi a0_s v2)) fun x8 =>
  if x8 = true then
  none
  else
  if I64 (v2 + 1) then
  some (St.next (v2 + 1))
  else none
  else none
  else
  some (St.done (Ex.go ()))) 0) fun x=>x.then fun _ =>
  some (-1)
def slices_ContainsFunc (a0_s:List Int) (a1_f:Int→Option Bool):Option Bool :=
  Option.bind (slices_IndexFunc a0_s a1_f) fun x1 =>
  some (decide (0 ≤ x1))
def slices_IndexFuncB (a0_s:List Bld) (a1_f:Bld→Option Bool):Option Int :=
  Option.bind (α:=Ex (Unit) (Int)) (loop (σ:=Int) (β:=Ex (Unit) (Int)) (fun v2 =>
  if v2 < (a0_s.length:Int) then
  if 0 ≤ v2∧v2 < (a0_s.length:Int) then
  Option.bind (a1_f (gi a0_s v2)) fun x8 =>
  if x8 = true then
  some (St.done (Ex.up v2))
  else
  none
  else none
  else
  some (St.done (Ex.go ()))) 0) fun x=>x.then fun _ =>
  some (-1)
def slices_ContainsFuncB (a0_s:List Bld) (a1_f:Bld→Option Bool):Option Bool :=
  Option.bind (slices_IndexFuncB a0_s a1_f) fun x1 =>
  some (decide (0 ≤ x1))
def slices_BinarySearchFunc (a0_x:List Bld) (a1_target:Int) (a2_cmp:(Bld × Int)→Option Int):Option (Int × Bool) :=
  Option.bind (α:=Int) (loop (σ:=Int × Int) (β:=Int) (fun (v11,v12) =>
  if v11 < v12 then
  none
  else
  some (St.done v11)) (0,(a0_x.length:Int))) fun v2 =>
  Option.bind (if v2 < (a0_x.length:Int) then
  if 0 ≤ v2∧v2 < (a0_x.length:Int) then
  Option.bind (a2_cmp ((gi a0_x v2),a1_target)) fun x10 =>
  some (decide (x10 = 0))
  else none
  else
  some false) fun b5 =>
  some (v2,b5)
def ground_Side (a0_n:Int):Option Bool :=
  some (decide ((1 ≤ a0_n)∧(a0_n ≤ 128)))
def ground_May (a0_g:Grd):Option Bool :=
  Option.bind (ground_Side a0_g.w) fun x2 =>
  Option.bind (if (!x2) = true then
  some true
  else
  Option.bind (ground_Side a0_g.h) fun x12 =>
  some (!x12)) fun b5 =>
  if ¬ (b5 = true)→(I64 (a0_g.w * a0_g.h)) then
  if (b5 = true) ∨ (¬ (a0_g.tiles.length:Int) = (a0_g.w * a0_g.h)) then
  none
  else
  Option.bind (slices_Max a0_g.tiles) fun x10 =>
  some (decide (x10 ≤ 5))
  else none
def ground_Is (a0_g:Grd) (a1_t:Int):Option Bool :=
  if (0 ≤ a1_t)→(I64 (a0_g.w * a0_g.h)) then
  some (decide ((0 ≤ a1_t)∧(a1_t < (a0_g.w * a0_g.h))))
  else none
def ground_On (a0_g:Grd) (a1_x:Int) (a2_y:Int):Option Bool :=
  some (decide ((((0 ≤ a1_x)∧(a1_x < a0_g.w))∧(0 ≤ a2_y))∧(a2_y < a0_g.h)))
def build_form (a0_b:Bld):Option Bool :=
  some (decide ((((((((1 ≤ a0_b.id)∧(a0_b.id ≤ 1099511627776))∧(1 ≤ a0_b.owner))∧(a0_b.owner ≤ 8))∧(1 ≤ a0_b.w))∧(a0_b.w ≤ 4))∧(1 ≤ a0_b.h))∧(a0_b.h ≤ 4)))
def build_on (a0_g:Grd) (a1_b:Bld):Option Bool :=
  if (0 ≤ a1_b.x)→(I64 (a0_g.w - a1_b.w)) then
  if (((0 ≤ a1_b.x)∧(a1_b.x ≤ (a0_g.w - a1_b.w)))∧(0 ≤ a1_b.y))→(I64 (a0_g.h - a1_b.h)) then
  some (decide ((((0 ≤ a1_b.x)∧(a1_b.x ≤ (a0_g.w - a1_b.w)))∧(0 ≤ a1_b.y))∧(a1_b.y ≤ (a0_g.h - a1_b.h))))
  else none
  else none
def build_Tiles (a0_g:Grd) (a1_b:Bld):Option (List Int) :=
  Option.bind (α:=List Int) (loop (σ:=List Int × Int) (β:=List Int) (fun (l6,v8) =>
  if v8 < a1_b.h then
  Option.bind (α:=List Int) (loop (σ:=Int × List Int) (β:=List Int) (fun (v15,l16) =>
  if v15 < a1_b.w then
  if I64 (a1_b.x + v15) then
  if I64 (a1_b.y + v8) then
  if I64 (a0_g.w * (a1_b.y + v8)) then
  if I64 ((a1_b.x + v15) + (a0_g.w * (a1_b.y + v8))) then
  if l16.length < 1099511627776 then
  if I64 (v15 + 1) then
  some (St.next ((v15 + 1),(l16 ++ [((a1_b.x + v15) + (a0_g.w * (a1_b.y + v8)))])))
  else none
  else none
  else none
  else none
  else none
  else none
  else
  some (St.done l16)) (0,l6)) fun v12 =>
  if I64 (v8 + 1) then
  some (St.next (v12,(v8 + 1)))
  else none
  else
  some (St.done l6)) ([],0)) fun v4 =>
  some v4
def build_firm_1 (a0_t:Int) (cv0:Grd):Option Bool :=
  if 0 ≤ a0_t∧a0_t < (cv0.tiles.length:Int) then
  some (decide (1 < ((gi cv0.tiles a0_t).toNat:Int)))
  else none
def build_firm (a0_g:Grd) (a1_b:Bld):Option Bool :=
  Option.bind (build_Tiles a0_g a1_b) fun x3 =>
  Option.bind (slices_ContainsFunc x3 (fun y0=>build_firm_1 y0 a0_g)) fun x5 =>
  some (!x5)
def build_overlap (a0_a:Bld) (a1_b:Bld):Option Bool :=
  if I64 (a1_b.x + a1_b.w) then
  if (a0_a.x < (a1_b.x + a1_b.w))→(I64 (a0_a.x + a0_a.w)) then
  if ((a0_a.x < (a1_b.x + a1_b.w))∧(a1_b.x < (a0_a.x + a0_a.w)))→(I64 (a1_b.y + a1_b.h)) then
  if (((a0_a.x < (a1_b.x + a1_b.w))∧(a1_b.x < (a0_a.x + a0_a.w)))∧(a0_a.y < (a1_b.y + a1_b.h)))→(I64 (a0_a.y + a0_a.h)) then
  some (decide ((((a0_a.x < (a1_b.x + a1_b.w))∧(a1_b.x < (a0_a.x + a0_a.w)))∧(a0_a.y < (a1_b.y + a1_b.h)))∧(a1_b.y < (a0_a.y + a0_a.h))))
  else none
  else none
  else none
  else none
def build_rising (a0_l:List Bld):Option Bool :=
  Option.bind (α:=Ex (Unit) (Bool)) (loop (σ:=Int) (β:=Ex (Unit) (Bool)) (fun v2 =>
  if v2 < (a0_l.length:Int) then
  none
  else
  some (St.done (Ex.go ()))) 1) fun x=>x.then fun _ =>
  some true
def build_May (a0_g:Grd) (a1_l:List Bld):Option Bool :=
  Option.bind (if 256 < (a1_l.length:Int) then
  some true
  else
  Option.bind (build_rising a1_l) fun x13 =>
  some (!x13)) fun b4 =>
  if b4 = true then
  none
  else
  if 0 ≤ (a0_g.tiles.length:Int)∧(a0_g.tiles.length:Int) ≤ 281474976710656 then
  Option.bind (α:=Ex (Unit) (Bool)) (loop (σ:=Int) (β:=Ex (Unit) (Bool)) (fun v9 =>
  if v9 < (a1_l.length:Int) then
  none
  else
  some (St.done (Ex.go ()))) 0) fun x=>x.then fun _ =>
  some true
  else none
def build_find_1 (a0_b:Bld) (a1_id:Int):Option Int :=
  Option.bind (cmp_Compare a0_b.id a1_id) fun x2 =>
  some x2
def build_find (a0_l:List Bld) (a1_id:Int):Option (Int × Bool) :=
  Option.bind (slices_BinarySearchFunc a0_l a1_id (fun (y0,y1)=>build_find_1 y0 y1)) fun x1 =>
  some (x1.1,x1.2)
def build_Put_1 (a0_x:Bld) (cv0:Bld):Option Bool :=
  Option.bind (build_overlap a0_x cv0) fun x2 =>
  some x2
def build_Put (a0_g:Grd) (a1_l:List Bld) (a2_b:Bld):Option (List Bld × Int) :=
  Option.bind (build_find a1_l a2_b.id) fun x3 =>
  Option.bind (build_form a2_b) fun x4 =>
  if (!x4) = true then
  none
  else
  Option.bind (build_on a0_g a2_b) fun x6 =>
  if (!x6) = true then
  none
  else
  Option.bind (if x3.2 = true then
  some true
  else
  Option.bind (slices_ContainsFuncB a1_l (fun y0=>build_Put_1 y0 a2_b)) fun x226 =>
  some x226) fun b10 =>
  if b10 = true then
  none
  else
  Option.bind (build_firm a0_g a2_b) fun x12 =>
  if (!x12) = true then
  none
  else
  if (a1_l.length:Int) = 256 then
  none
  else
  Option.bind (α:=Int × List Bld) (Option.bind (slices_Clone_Bld a1_l) fun x19 =>
  Option.bind (slices_Insert x19 x3.1 [a2_b]) fun x22 =>
  some (0,x22)) fun (v16,v17) =>
  some (v17,v16)
def build_Cover (a0_g:Grd) (a1_l:List Bld):Option (List Bool) :=
  if 0 ≤ (a0_g.tiles.length:Int)∧(a0_g.tiles.length:Int) ≤ 281474976710656 then
  Option.bind (α:=List Bool) (loop (σ:=Int × List Bool) (β:=List Bool) (fun (v6,l7) =>
  if v6 < (a1_l.length:Int) then
  if 0 ≤ v6∧v6 < (a1_l.length:Int) then
  Option.bind (build_Tiles a0_g (gi a1_l v6)) fun x14 =>
  Option.bind (α:=List Bool) (loop (σ:=Int × List Bool) (β:=List Bool) (fun (v19,l20) =>
  if v19 < (x14.length:Int) then
  if 0 ≤ v19∧v19 < (x14.length:Int) then
  if 0 ≤ (gi x14 v19)∧(gi x14 v19) < ((a0_g.tiles.length:Int).toNat:Int) then
  if I64 (v19 + 1) then
  some (St.next ((v19 + 1),(si l20 (gi x14 v19) true)))
  else none
  else none
  else none
  else
  some (St.done l20)) (0,l7)) fun v17 =>
  if I64 (v6 + 1) then
  some (St.next ((v6 + 1),v17))
  else none
  else none
  else
  some (St.done l7)) (0,(List.replicate (a0_g.tiles.length:Int).toNat false))) fun v5 =>
  some v5
  else none
end Go.Proofs.YtmngdgclldkcfaaGreat
set_option linter.unusedVariables false
set_option linter.unusedSimpArgs false
set_option maxRecDepth 20000
set_option maxHeartbeats 4000000
namespace Go.Proofs.YtmngdgclldkcfaaGreat
open Go.Vg
open Enc (R)
theorem ent169:Ent Tryz.prog 169:=en Tryz.func169
theorem ent254:Ent Tryz.prog 254:=en Tryz.func254
theorem ent282:Ent Tryz.prog 282:=en Tryz.func282
theorem ent63:Ent Tryz.prog 63:=en Tryz.func63
theorem ent64:Ent Tryz.prog 64:=en Tryz.func64
theorem eqt135:eqTy Tryz.prog 135 = some [0,1,2,3,4,5]:=by kernel_rfl
instance fd24_0:FdC Tryz.prog 24 0 0:={}
instance fd24_1:FdC Tryz.prog 24 1 1:={}
instance fd24_2:FdC Tryz.prog 24 2 2:={}
instance sl22:SlC Tryz.prog 22 (5,1,1):={}
instance sl41:SlC Tryz.prog 41 (4,1,1):={}
instance ty135:TyC Tryz.prog 135 (6,true):={}
instance ty22:TyC Tryz.prog 22 (1,false):={}
instance ty3:TyC Tryz.prog 3 (1,false):={}
instance ty4:TyC Tryz.prog 4 (1,false):={}
instance ty5:TyC Tryz.prog 5 (1,false):={}
theorem ul4:Tryz.prog.underlying 4 = some .bool:=by kernel_rfl
theorem thronglaw0_Within_walk (a0_i:Int) (a1_n:Int) (w:World) {r:Int} (H:thronglaw0_Within a0_i a1_n = some r):Calls Tryz.prog 10 #[.int .i64 a0_i,.int .i64 a1_n] w fun e w'=>e = .returned (.int .i64 r)∧Ext w w':=by
 unfold thronglaw0_Within at H
 refine te Tryz.func10 (Sat.start w) ?_
 refine au 2 ?_
 refine T.seq fun _ k2=>T.region (rM rfl (rp (Pu.convUW us3 ul80 rfl) (rM rfl (rp (Pu.convUW us3 ul80 rfl) ?_))))
 obtain ⟨g1,H⟩:=gdE H
 refine rp (Pu.remN rfl rfl g1) ?_
 obtain ⟨g2,H⟩:=gdE H
 refine rp (Pu.convS us80 ul3 rfl g2) (rA rfl (RS.nil (k2 _ _ (kq [4] ?_))))
 obtain rfl:=sj H
 refine T.rt (Cont.ret1 rfl rfl fun w' s=>?_)
 exact ⟨rfl,s.ext⟩
theorem cmp_isNaN_walk (a0_x:Int) (w:World) {r:Bool} (H:cmp_isNaN a0_x = some r):Calls Tryz.prog 254 #[.int .i64 a0_x] w fun e w'=>e = .returned (.bool r)∧Ext w w':=by
 unfold cmp_isNaN at H
 refine te Tryz.func254 (Sat.start w) ?_
 refine au 2 ?_
 refine T.seq fun _ k2=>T.region (au 4 ?_)
 refine RS.nil (k2 _ _ (kq [2] ?_))
 obtain rfl:=sj H
 refine T.rt (Cont.ret1 rfl rfl fun w' s=>?_)
 exact ⟨rfl,s.ext⟩
theorem cmp_Compare_walk (a0_x:Int) (a1_y:Int) (w:World) {r:Int} (H:cmp_Compare a0_x a1_y = some r):Calls Tryz.prog 183 #[.int .i64 a0_x,.int .i64 a1_y] w fun e w'=>e = .returned (.int .i64 r)∧Ext w w':=by
 unfold cmp_Compare at H
 refine te Tryz.func183 (Sat.start w) ?_
 refine au 2 ?_
 refine T.seq fun _ k2=>T.region (rM rfl ?_)
 obtain ⟨x1,hx1,H⟩:=bindE H
 refine rq (Qt.call (vs:=[_]) ent254 rfl fun w s=>cmp_isNaN_walk a0_x w  hx1) (rA rfl (RS.nil (k2 _ _ (kq [0,1,5] ?_))))
 refine T.seq fun _ k3=>T.region (rM rfl ?_)
 obtain ⟨x2,hx2,H⟩:=bindE H
 refine rq (Qt.call (vs:=[_]) ent254 rfl fun w s=>cmp_isNaN_walk a1_y w  hx2) (rA rfl (RS.nil (k3 _ _ ?_)))
 refine T.seq fun _ k4=>au 2 ?_
 refine T.cB H rfl (fun _ H=>nomatch H) (fun hc3 H=>?_)
 refine T.skip (k4 _ _ (kq [0,1,6] ?_))
 refine T.seq fun _ k8=>au 2 ?_
 refine T.cB H rfl (fun _ H=>nomatch H) (fun hc4 H=>?_)
 refine T.skip (k8 _ _ ?_)
 refine T.seq fun _ k11=>au 4 ?_
 refine T.cP H rfl (fun _ H=>nomatch H) (fun hc5 H=>?_)
 refine T.skip (k11 _ _ (kq [0,1] ?_))
 refine T.seq fun _ k14=>au 4 ?_
 refine T.cP H rfl (fun _ H=>nomatch H) (fun hc6 H=>?_)
 refine T.skip (k14 _ _ (kq [] ?_))
 refine au 2 ?_
 obtain rfl:=sj H
 refine T.rt (Cont.ret1 rfl rfl fun w' s=>?_)
 exact ⟨rfl,s.ext⟩
theorem slices_Max_walk (a0_x:List UInt8) (w:World) {v0:Value} (h0:R (hpOf w) a0_x [v0]) {r:Int} (H:slices_Max a0_x = some r):Calls Tryz.prog 64 #[v0] w fun e w'=>e = .returned (.int .u8 r)∧Ext w w':=by
 have hm0:=R_max h0
 obtain ⟨p0,c0,rfl⟩:=R_form h0
 unfold slices_Max at H
 refine te Tryz.func64 (Sat.start w) ?_
 refine au 2 ?_
 refine T.seq fun _ k2=>au 4 ?_
 refine T.joinE (σ:=Unit) (γ:=Unit) H (fun s=>s) [(0,_)] sb (fun _ _=>[]) (fun _ _=>Sat w []) ?_ ?_
 ·rintro ⟨⟩ ⟨⟩ H
  try dsimp only [Ex.then] at H
  refine Cont.kq [0] ?_
  refine id (k2 _ _ ?_)
  refine T.seq fun _ k4=>T.region (rM rfl ?_)
  obtain ⟨g2,H⟩:=gdE H
  obtain ⟨bl3,ol4,rfl⟩:=R_ptr h0 (ne_of_pos (pos_of g2))
  refine rp (Pu.indexSl sl22.h rfl rfl g2) (rq (Qt.ld0 (α:=UInt8) (Rd.base h0) ty5.h rfl rfl g2 (by rintro _ _ rfl; rfl)) (rA rfl (RS.nil (k4 _ _ (kq [0,3] ?_)))))
  refine T.seq fun _ k5=>au 2 ?_
  refine T.joinE (σ:=Int) (γ:=Unit) H (fun s=>s) [] trivial (fun v6 _=>[(3,.int .u8 v6)]) (fun v6 _=>Sat w []) ?_ ?_
  ·rintro v6 ⟨⟩ H
   try dsimp only [Ex.then] at H
   refine Cont.kq [3] ?_
   refine id (k5 _ _ ?_)
   refine au 3 ?_
   obtain rfl:=sj H
   refine T.rt (Cont.ret1 rfl rfl fun w' s=>?_)
   exact ⟨rfl,s.ext⟩
  intro z5 hz5 HX5 hJ5
  refine T.block ?_
  refine T.loopA (γ:=Unit) hz5 [(0,_)] (fun (v7,v8) _=>[(3,.int .u8 v7),(4,.int .i64 v8)]) (fun (v7,v8) _=>Sat w []) () sb sb (fun w s=>s) ?_
  rintro ⟨v7,v8⟩ ⟨⟩ y9 H hd5 KL5 hL5
  try dsimp only [Ex.then] at H
  refine kq [3,4,0] ?_
  refine T.seq fun _ k8=>au 5 ?_
  refine T.cP H rfl (fun hc10 H=>?_) (fun hc10 H=>?_)
  ·refine T.skip (k8 _ _ (kq [0,3,4] ?_))
   refine T.seq fun _ k10=>T.block (T.region (au 3 ?_))
   obtain ⟨g11,H⟩:=gdE H
   refine rp (Pu.indexSl sl22.h rfl rfl g11) (rq (Qt.ld0 (α:=UInt8) (Rd.base h0) ty5.h rfl rfl g11 (by rintro _ _ rfl; rfl)) (rp (Pu.maxI rfl rfl) (rA rfl (RS.nil (k10 _ _ (kq [0,3,4] ?_))))))
   refine T.region (rM rfl ?_)
   obtain ⟨g12,H⟩:=gdE H
   refine rp (Pu.addS rfl rfl g12) (rA rfl (RS.nil (hL5 _ _ ((max v7 ((gi a0_x v8).toNat:Int)),(v8 + 1)) () H sb sb (fun w s=>s))))
  obtain rfl:=hd5 _ H
  refine T.xt (hJ5 _ _ v7 () HX5 trivial sb (fun w s=>s))
 intro z1 H HX1 hJ1
 refine T.cP H rfl (fun _ H=>nomatch H) (fun hc13 H=>?_)
 obtain rfl:=sj H
 refine T.skip (hJ1 _ _ () () HX1 sb trivial (fun w s=>s))
theorem slices_IndexFunc_walk (a0_s:List Int) (a1_f:Int→Option Bool) (w:World) {v0 v1:Value} (h0:R (hpOf w) a0_s [v0]) (h1:FnQ Tryz.prog w v1 (fun (y0:Int)=>[.int .i64 y0]) (fun (r:Bool)=>.bool r) a1_f) {r:Int} (H:slices_IndexFunc a0_s a1_f = some r):Calls Tryz.prog 282 #[v0,v1] w fun e w'=>e = .returned (.int .i64 r)∧Ext w w':=by
 have hm0:=R_max h0
 obtain ⟨p0,c0,rfl⟩:=R_form h0
 unfold slices_IndexFunc at H
 refine te Tryz.func282 (Sat.start w) ?_
 refine au 2 ?_
 refine T.seq fun _ k2=>au 4 ?_
 refine T.joinE (σ:=Unit) (γ:=Unit) H Ex.go [] trivial (fun _ _=>[]) (fun _ _=>Sat w []) ?_ ?_
 ·rintro ⟨⟩ ⟨⟩ H
  try dsimp only [Ex.then] at H
  refine Cont.kq [] ?_
  refine id (k2 _ _ ?_)
  refine au 2 ?_
  obtain rfl:=sj H
  refine T.rt (Cont.ret1 rfl rfl fun w' s=>?_)
  exact ⟨rfl,s.ext⟩
 intro z1 hz1 HX1 hJ1
 refine T.block ?_
 refine T.loopA (γ:=Unit) hz1 [(0,_),(1,_),(7,_)] (fun v2 _=>[(8,.int .i64 v2)]) (fun v2 _=>Sat w []) () sb sb (fun w s=>s) ?_
 rintro v2 ⟨⟩ y3 H hd1 KL1 hL1
 try dsimp only [Ex.then] at H
 refine kq [8,0,1,7] ?_
 refine au 2 ?_
 refine T.seq fun _ k6=>?_
 refine T.cP H rfl (fun hc4 H=>?_) (fun hc4 H=>?_)
 ·refine T.skip (k6 _ _ ?_)
  refine T.seq fun _ k7=>T.block (au 3 ?_)
  refine T.seq fun _ k9=>T.region (au 3 ?_)
  obtain ⟨g5,H⟩:=gdE H
  obtain ⟨bl6,ol7,rfl⟩:=R_ptr h0 (ne_of_pos (pos_of g5))
  refine rp (Pu.indexSl sl35.h rfl rfl g5) (rq (Qt.ld0 (α:=Int) (Rd.base h0) ty3.h rfl rfl g5 (by rintro _ _ rfl; rfl)) ?_)
  obtain ⟨x8,hx8,H⟩:=bindE H
  refine rq (Qt.callV rfl h1 (fun w s=>s.ext) hx8 rfl) (RS.nil (k9 _ _ ?_))
  refine T.cB H rfl (fun _ H=>nomatch H) (fun hc9 H=>?_)
  refine T.skip (k7 _ _ (kq [0,1,7,8] ?_))
  refine T.region ?_
  obtain ⟨g10,H⟩:=gdE H
  refine rp (Pu.addS rfl rfl g10) (rM rfl (RS.nil (hL1 _ _ (v2 + 1) () H sb sb (fun w s=>s))))
 obtain rfl:=hd1 _ H
 refine T.xt (hJ1 _ _ () () HX1 trivial trivial (fun w s=>s))
theorem slices_ContainsFunc_walk (a0_s:List Int) (a1_f:Int→Option Bool) (w:World) {v0 v1:Value} (h0:R (hpOf w) a0_s [v0]) (h1:FnQ Tryz.prog w v1 (fun (y0:Int)=>[.int .i64 y0]) (fun (r:Bool)=>.bool r) a1_f) {r:Bool} (H:slices_ContainsFunc a0_s a1_f = some r):Calls Tryz.prog 236 #[v0,v1] w fun e w'=>e = .returned (.bool r)∧Ext w w':=by
 have hm0:=R_max h0
 obtain ⟨p0,c0,rfl⟩:=R_form h0
 unfold slices_ContainsFunc at H
 refine te Tryz.func236 (Sat.start w) ?_
 refine au 2 ?_
 refine T.seq fun _ k2=>T.region (au 2 ?_)
 obtain ⟨x1,hx1,H⟩:=bindE H
 refine rq (Qt.call (vs:=[_,_]) ent282 rfl fun w s=>slices_IndexFunc_walk a0_s a1_f w ((Rd.base h0) w s) (FnQ.ext s.ext h1) hx1) (au 2 ?_)
 refine RS.nil (k2 _ _ (kq [4] ?_))
 obtain rfl:=sj H
 refine T.rt (Cont.ret1 rfl rfl fun w' s=>?_)
 exact ⟨rfl,s.ext⟩
theorem slices_IndexFuncB_walk (a0_s:List Bld) (a1_f:Bld→Option Bool) (w:World) {v0 v1:Value} (h0:R (hpOf w) a0_s [v0]) (h1:FnQ Tryz.prog w v1 (fun (y0:Bld)=>[.agg #[.int .i64 y0.id,.int .i64 y0.owner,.int .i64 y0.x,.int .i64 y0.y,.int .i64 y0.w,.int .i64 y0.h]]) (fun (r:Bool)=>.bool r) a1_f) {r:Int} (H:slices_IndexFuncB a0_s a1_f = some r):Calls Tryz.prog 169 #[v0,v1] w fun e w'=>e = .returned (.int .i64 r)∧Ext w w':=by
 have hm0:=R_max h0
 obtain ⟨p0,c0,rfl⟩:=R_form h0
 unfold slices_IndexFuncB at H
 refine te Tryz.func169 (Sat.start w) ?_
 refine au 2 ?_
 refine T.seq fun _ k2=>au 4 ?_
 refine T.joinE (σ:=Unit) (γ:=Unit) H Ex.go [] trivial (fun _ _=>[]) (fun _ _=>Sat w []) ?_ ?_
 ·rintro ⟨⟩ ⟨⟩ H
  try dsimp only [Ex.then] at H
  refine Cont.kq [] ?_
  refine id (k2 _ _ ?_)
  refine au 2 ?_
  obtain rfl:=sj H
  refine T.rt (Cont.ret1 rfl rfl fun w' s=>?_)
  exact ⟨rfl,s.ext⟩
 intro z1 hz1 HX1 hJ1
 refine T.block ?_
 refine T.loopA (γ:=Unit) hz1 [(0,_),(1,_),(7,_)] (fun v2 _=>[(8,.int .i64 v2)]) (fun v2 _=>Sat w []) () sb sb (fun w s=>s) ?_
 rintro v2 ⟨⟩ y3 H hd1 KL1 hL1
 try dsimp only [Ex.then] at H
 refine kq [8,0,1,7] ?_
 refine au 2 ?_
 refine T.seq fun _ k6=>?_
 refine T.cP H rfl (fun hc4 H=>?_) (fun hc4 H=>?_)
 ·refine T.skip (k6 _ _ ?_)
  refine T.seq fun _ k7=>T.block (au 3 ?_)
  refine T.seq fun _ k9=>T.region (au 3 ?_)
  obtain ⟨g5,H⟩:=gdE H
  obtain ⟨bl6,ol7,rfl⟩:=R_ptr h0 (ne_of_pos (pos_of g5))
  refine rp (Pu.indexSl sl49.h rfl rfl g5) (rq (Qt.ldW (α:=Bld) (cs:=[_,_,_,_,_,_]) (Rd.base h0) ty135.h rfl rfl g5 rfl (by rintro _ _ rfl; rfl)) ?_)
  obtain ⟨x8,hx8,H⟩:=bindE H
  refine rq (Qt.callV rfl h1 (fun w s=>s.ext) hx8 rfl) (RS.nil (k9 _ _ ?_))
  refine T.cB H rfl (fun hc9 H=>?_) (fun hc9 H=>?_)
  ·refine kq [5] ?_
   refine au 3 ?_
   obtain rfl:=hd1 _ H
   have H:=HX1
   obtain rfl:=sj H
   refine T.rt (Cont.ret1 rfl rfl fun w' s=>?_)
   exact ⟨rfl,s.ext⟩
  refine T.skip (k7 _ _ (kq [0,1,7,8] ?_))
  exact nomatch H
 obtain rfl:=hd1 _ H
 refine T.xt (hJ1 _ _ () () HX1 trivial trivial (fun w s=>s))
theorem slices_ContainsFuncB_walk (a0_s:List Bld) (a1_f:Bld→Option Bool) (w:World) {v0 v1:Value} (h0:R (hpOf w) a0_s [v0]) (h1:FnQ Tryz.prog w v1 (fun (y0:Bld)=>[.agg #[.int .i64 y0.id,.int .i64 y0.owner,.int .i64 y0.x,.int .i64 y0.y,.int .i64 y0.w,.int .i64 y0.h]]) (fun (r:Bool)=>.bool r) a1_f) {r:Bool} (H:slices_ContainsFuncB a0_s a1_f = some r):Calls Tryz.prog 112 #[v0,v1] w fun e w'=>e = .returned (.bool r)∧Ext w w':=by
 have hm0:=R_max h0
 obtain ⟨p0,c0,rfl⟩:=R_form h0
 unfold slices_ContainsFuncB at H
 refine te Tryz.func112 (Sat.start w) ?_
 refine au 2 ?_
 refine T.seq fun _ k2=>T.region (au 2 ?_)
 obtain ⟨x1,hx1,H⟩:=bindE H
 refine rq (Qt.call (vs:=[_,_]) ent169 rfl fun w s=>slices_IndexFuncB_walk a0_s a1_f w ((Rd.base h0) w s) (FnQ.ext s.ext h1) hx1) (au 2 ?_)
 refine RS.nil (k2 _ _ (kq [4] ?_))
 obtain rfl:=sj H
 refine T.rt (Cont.ret1 rfl rfl fun w' s=>?_)
 exact ⟨rfl,s.ext⟩
theorem slices_BinarySearchFunc_walk (a0_x:List Bld) (a1_target:Int) (a2_cmp:(Bld × Int)→Option Int) (w:World) {v0 v1:Value} (h0:R (hpOf w) a0_x [v0]) (h1:FnQ Tryz.prog w v1 (fun (z:Bld × Int)=>[.agg #[.int .i64 z.1.id,.int .i64 z.1.owner,.int .i64 z.1.x,.int .i64 z.1.y,.int .i64 z.1.w,.int .i64 z.1.h],.int .i64 z.2]) (fun (r:Int)=>.int .i64 r) a2_cmp) {r:Int × Bool} (H:slices_BinarySearchFunc a0_x a1_target a2_cmp = some r):Calls Tryz.prog 291 #[v0,.int .i64 a1_target,v1] w fun e w'=>e = .returned (.tuple #[.int .i64 r.1,.bool r.2])∧Ext w w':=by
 have hm0:=R_max h0
 obtain ⟨p0,c0,rfl⟩:=R_form h0
 unfold slices_BinarySearchFunc at H
 refine te Tryz.func291 (Sat.start w) ?_
 refine au 3 ?_
 refine T.seq fun _ k2=>T.region (au 3 ?_)
 refine RS.nil (k2 _ _ (kq [0,1,2,8] ?_))
 refine au 4 ?_
 refine T.joinA (σ:=Int) (γ:=Unit) H (fun s=>s) [(0,_),(1,_),(2,_),(8,_)] sb (fun v2 _=>[(9,.int .i64 v2)]) (fun v2 _=>Sat w []) ?_ ?_
 ·rintro v2 ⟨⟩ H
  try dsimp only [Ex.then] at H
  refine kq [9,0,1,2,8] ?_
  refine T.seq fun _ k5=>T.region (au 5 ?_)
  refine RS.joinB H 9 48 (fun b5=>.bool b5) [(35,_)] sb ?_ ?_
  ·intro b5 H
   refine au 2 ?_
   refine RS.nil (k5 _ _ ?_)
   obtain rfl:=sj H
   refine T.rt (Cont.ret2 rfl rfl rfl fun w' s=>?_)
   exact ⟨rfl,s.ext⟩
  intro z6 H hJ4
  refine RS.splitP 39 rfl (fun hc3=>?_) (fun hc3=>?_)
  ·have H:=ifT hc3 H
   refine au 3 ?_
   obtain ⟨g7,H⟩:=gdE H
   obtain ⟨bl8,ol9,rfl⟩:=R_ptr h0 (ne_of_pos (pos_of g7))
   refine rp (Pu.indexSl sl49.h rfl rfl g7) (rq (Qt.ldW (α:=Bld) (cs:=[_,_,_,_,_,_]) (Rd.base h0) ty135.h rfl rfl g7 rfl (by rintro _ _ rfl; rfl)) (rM rfl ?_))
   obtain ⟨x10,hx10,H⟩:=bindE H
   refine rq (Qt.callV rfl h1 (fun w s=>s.ext) hx10 rfl) (au 2 ?_)
   obtain rfl:=sj H
   exact hJ4 _ _ sb (fun w s=>s)
  have H:=ifF hc3 H
  refine au 9 ?_
  obtain rfl:=sj H
  exact hJ4 _ _ sb (fun w s=>s)
 intro z1 hz1 HX1 K4 hJ1
 refine T.block ?_
 refine T.loopA (γ:=Unit) hz1 [(0,_),(1,_),(2,_),(8,_)] (fun (v11,v12) _=>[(9,.int .i64 v11),(10,.int .i64 v12)]) (fun (v11,v12) _=>Sat w []) () sb sb (fun w s=>s) ?_
 rintro ⟨v11,v12⟩ ⟨⟩ y13 H hd1 KL1 hL1
 try dsimp only [Ex.then] at H
 refine kq [9,10,0,1,2,8] ?_
 refine T.seq fun _ k6=>au 4 ?_
 refine T.cP H rfl (fun hc14 H=>?_) (fun hc14 H=>?_)
 ·refine T.skip (k6 _ _ (kq [0,1,2,8,9,10] ?_))
  refine T.block (T.seq fun _ k8=>?_)
  exact nomatch H
 obtain rfl:=hd1 _ H
 refine T.xt (hJ1 _ _ v11 () HX1 sb sb (fun w s=>s))
theorem ground_Side_walk (a0_n:Int) (w:World) {r:Bool} (H:ground_Side a0_n = some r):Calls Tryz.prog 63 #[.int .i64 a0_n] w fun e w'=>e = .returned (.bool r)∧Ext w w':=by
 unfold ground_Side at H
 refine te Tryz.func63 (Sat.start w) ?_
 refine au 2 ?_
 refine T.seq fun _ k2=>T.region (au 3 ?_)
 refine RS.joinV 3 8 (.bool (decide ((1 ≤ a0_n)∧(a0_n ≤ 128)))) [(2,_)] sb ?_ ?_
 ·refine rA rfl (RS.nil (k2 _ _ ?_))
  obtain rfl:=sj H
  refine T.rt (Cont.ret1 rfl rfl fun w' s=>?_)
  exact ⟨rfl,s.ext⟩
 intro hJ2
 refine RS.splitP 5 rfl (fun hc1=>?_) (fun hc1=>?_)
 ·refine au 3 ?_
  exact hJ2 _ _ ⟨dAndT hc1,rfl,trivial⟩ (fun w s=>s)
 refine au 3 ?_
 exact hJ2 _ _ ⟨dAndF hc1,rfl,trivial⟩ (fun w s=>s)
theorem ground_May_walk (a0_g:Grd) (w:World) {v0:Value} (h0:R (hpOf w) a0_g.tiles [v0]) {r:Bool} (H:ground_May a0_g = some r):Calls Tryz.prog 31 #[.agg #[.int .i64 a0_g.w,.int .i64 a0_g.h,v0]] w fun e w'=>e = .returned (.bool r)∧Ext w w':=by
 have hm0:=R_max h0
 obtain ⟨p0,c0,rfl⟩:=R_form h0
 unfold ground_May at H
 refine te Tryz.func31 (Sat.start w) ?_
 refine T.seq fun _ k1=>T.region (RS.solid (Sd.box (cs:=[_,_,_]) rfl rfl) rfl rfl fun b1=>rA rfl (RS.nil (k1 _ _ ?_)))
 refine T.seq fun _ k2=>T.seq fun _ k3=>T.region (au 2 ?_)
 obtain ⟨x2,hx2,H⟩:=bindE H
 refine rq (Qt.call (vs:=[_]) ent63 rfl fun w s=>ground_Side_walk a0_g.w w  hx2) (au 2 ?_)
 refine RS.joinB H 5 12 (fun b5=>.bool b5) [(1,_)] sb ?_ ?_
 ·intro b5 H
  refine rM rfl ?_
  obtain ⟨g8,H⟩:=gdE H
  refine RS.joinV 10 23 (.bool (decide ((b5 = true) ∨ (¬ (a0_g.tiles.length:Int) = (a0_g.w * a0_g.h))))) [(1,_)] sb ?_ ?_
  ·refine RS.nil (k3 _ _ ?_)
   refine T.cP H rfl (fun _ H=>nomatch H) (fun hc9 H=>?_)
   refine T.skip (k2 _ _ ?_)
   refine T.seq fun _ k5=>T.region (au 2 ?_)
   obtain ⟨x10,hx10,H⟩:=bindE H
   refine rq (Qt.call (vs:=[_]) ent64 rfl fun w s=>slices_Max_walk a0_g.tiles w ((Rd.base h0) w s) hx10) (au 2 ?_)
   refine RS.nil (k5 _ _ (kq [2] ?_))
   obtain rfl:=sj H
   refine T.rt (Cont.ret1 rfl rfl fun w' s=>?_)
   exact ⟨rfl,s.ext⟩
  intro hJ7
  refine RS.split 13 rfl (fun hc6=>?_) (fun hc6=>?_)
  ·refine au 10 ?_
   exact hJ7 _ _ ⟨dOrT hc6,rfl,trivial⟩ (fun w s=>s)
  refine au 7 ?_
  refine rp (Pu.mulS rfl rfl (g8 (bne_of hc6))) (au 2 ?_)
  exact hJ7 _ _ ⟨dOrF (bne_of hc6),rfl,trivial⟩ (fun w s=>s)
 intro z11 H hJ4
 refine RS.split 7 rfl (fun hc3=>?_) (fun hc3=>?_)
 ·have H:=ifT hc3 H
  refine au 5 ?_
  obtain rfl:=sj H
  exact hJ4 _ _ sb (fun w s=>s)
 have H:=ifB hc3 H
 refine au 2 ?_
 obtain ⟨x12,hx12,H⟩:=bindE H
 refine rq (Qt.call (vs:=[_]) ent63 rfl fun w s=>ground_Side_walk a0_g.h w  hx12) (au 2 ?_)
 obtain rfl:=sj H
 exact hJ4 _ _ sb (fun w s=>s)
theorem ground_On_walk (a0_g:Grd) (a1_x:Int) (a2_y:Int) (w:World) {v0:Value} (h0:R (hpOf w) a0_g.tiles [v0]) {r:Bool} (H:ground_On a0_g a1_x a2_y = some r):Calls Tryz.prog 304 #[.agg #[.int .i64 a0_g.w,.int .i64 a0_g.h,v0],.int .i64 a1_x,.int .i64 a2_y] w fun e w'=>e = .returned (.bool r)∧Ext w w':=by
 have hm0:=R_max h0
 obtain ⟨p0,c0,rfl⟩:=R_form h0
 unfold ground_On at H
 refine te Tryz.func304 (Sat.start w) ?_
 refine T.seq fun _ k1=>T.region (RS.solid (Sd.box (cs:=[_,_,_]) rfl rfl) rfl rfl fun b1=>rA rfl (RS.nil (k1 _ _ ?_)))
 refine T.seq fun _ k2=>T.region (au 3 ?_)
 refine RS.joinV 5 14 (.bool (decide ((0 ≤ a1_x)∧(a1_x < a0_g.w)))) [(2,_),(3,_),(6,_)] sb ?_ ?_
 ·refine rM rfl ?_
  refine RS.joinV 3 18 (.bool (decide (((0 ≤ a1_x)∧(a1_x < a0_g.w))∧(0 ≤ a2_y)))) [(2,_),(3,_),(6,_)] sb ?_ ?_
  ·refine rM rfl ?_
   refine RS.joinV 5 24 (.bool (decide ((((0 ≤ a1_x)∧(a1_x < a0_g.w))∧(0 ≤ a2_y))∧(a2_y < a0_g.h)))) [(6,_)] sb ?_ ?_
   ·refine rA rfl (RS.nil (k2 _ _ ?_))
    obtain rfl:=sj H
    refine T.rt (Cont.ret1 rfl rfl fun w' s=>?_)
    exact ⟨rfl,s.ext⟩
   intro hJ7
   refine RS.splitP 19 rfl (fun hc6=>?_) (fun hc6=>?_)
   ·refine au 5 ?_
    exact hJ7 _ _ ⟨dAndT hc6,rfl,trivial⟩ (fun w s=>s)
   refine au 5 ?_
   exact hJ7 _ _ ⟨dAndF hc6,rfl,trivial⟩ (fun w s=>s)
  intro hJ5
  refine RS.splitP 15 rfl (fun hc4=>?_) (fun hc4=>?_)
  ·refine au 3 ?_
   exact hJ5 _ _ ⟨dAndT hc4,rfl,rfl,rfl,trivial⟩ (fun w s=>s)
  refine au 3 ?_
  exact hJ5 _ _ ⟨dAndF hc4,rfl,rfl,rfl,trivial⟩ (fun w s=>s)
 intro hJ3
 refine RS.splitP 9 rfl (fun hc2=>?_) (fun hc2=>?_)
 ·refine au 5 ?_
  exact hJ3 _ _ ⟨dAndT hc2,rfl,rfl,rfl,trivial⟩ (fun w s=>s)
 refine au 5 ?_
 exact hJ3 _ _ ⟨dAndF hc2,rfl,rfl,rfl,trivial⟩ (fun w s=>s)
end Go.Proofs.YtmngdgclldkcfaaGreat
