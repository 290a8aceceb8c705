/-
  Texts of one's own, joined: TI TG.
-/
import Derived.Test.YtmngdgclldkcfaaGreatRows
import Derived.Test.YtmngdgclldkcfaaGreatJ6
import Derived.Test.YtmngdgclldkcfaaGreatJ5
import Derived.Test.YtmngdgclldkcfaaGreatJ9
import Derived.Test.YtmngdgclldkcfaaGreatJ7
import Derived.Test.YtmngdgclldkcfaaGreatJ13
import Derived.Test.YtmngdgclldkcfaaGreatJ11
set_option linter.unusedVariables false
set_option linter.unusedSimpArgs false
set_option maxRecDepth 20000
set_option maxHeartbeats 4000000
namespace Go.Proofs.YtmngdgclldkcfaaGreat
open Go.Vg
open Enc (R)
--BEGIN
theorem tI_sl:slTy Tryz.prog 86 = some (210,Enc.sz Raw3,40):=by kernel_rfl
theorem tI_zr:∃ z,zeroOf Tryz.prog 210 = some z∧z.cells.size = Enc.sz Raw3∧(∀ u ∈ z.cells.toList,u.oneCell' = true)∧R nilH ((⟨.int .i64 0,.int .i64 0,.slice none 0 0,rfl⟩:Raw3):Raw3) z.cells.toList:=⟨(.agg #[.int .i64 0,.int .i64 0,.slice none 0 0]),by kernel_rfl,by rfl,by decide,by rfl⟩
theorem tI_mixed:Tryz.prog.follows .mixedOrders = true:=by kernel_rfl
theorem tI_bool:(Tryz.prog.underlying 3) = some (.int .i64):=by kernel_rfl
def raw_Insert (xs:List Raw3) (i:Int) (ys:List Raw3):Option (List Raw3):=if ys.length = 1∧(0 ≤ i∧i ≤ (xs.length:Int))∧xs.length < 1099511627775 then some (xs.take i.toNat ++ ys ++ xs.drop i.toNat) else none
theorem tI_ovl:∃ fn,Tryz.prog.funcs[(271:Nat)]? = some fn∧isOvl fn 86 4:=⟨_,Tryz.func271,by kernel_rfl,by kernel_rfl,by kernel_rfl,by kernel_rfl⟩
theorem raw_Insert_walk {w0:World} {F:Ch} (a0:List Raw3) (a1:Int) (a2:List Raw3) {q0:Option Nat × Nat} {m0:Nat} (hm:m0 = a0.length) {v0:Value} (hv:Rd (Sat w0 [F]) a2 [v0]) {r:List Raw3} (H:raw_Insert a0 a1 a2 = some r) (w:World) (s:Sat w0 [row nilH 210 (rowV q0 m0) a0,F] w) :
  Calls Tryz.prog 226 #[rowV q0 m0,.int .i64 a1,v0] w fun e w'=>∃ q:Option Nat × Nat,e = .returned (rowV q r.length)∧Sat w0 [row nilH 210 (rowV q r.length) r,F] w':=by
 subst hm
 unfold raw_Insert at H
 obtain ⟨⟨hy1,⟨h0,h1⟩,h3⟩,H⟩:=gdE H
 obtain rfl:=sj H
 obtain ⟨y,rfl⟩:∃ y,a2 = [y]:=by
  match a2,hy1 with
  | [y],_=>exact ⟨y,rfl⟩
 obtain ⟨i,rfl⟩:=Int.eq_ofNat_of_zero_le h0
 simp only [Int.toNat_natCast]
 have hin:i ≤ a0.length:=by omega
 have hfit:=s.row_fits (k:=0) rfl
 obtain ⟨p,cc,rfl⟩:=R_form (hv w (s.pick [1] (by decide) rfl))
 have hl1:([y]:List Raw3).length = 1:=rfl
 rw [hl1] at hv ⊢
 obtain ⟨z,hz1,hz2,hz3,hz4⟩:=tI_zr
 refine T.enter (args:=[_,_,_]) (S:=Sat w0 [row nilH 210 (rowV q0 a0.length) a0,F]) Tryz.func226 rfl rfl s ?_
 refine T.seq fun K1 hK1=>T.region (rA rfl (RS.nil (hK1 _ _ ?_)))
 refine T.seq fun K2 hK2=>T.region (rM rfl (rM rfl (rp (Pu.sliceL tI_sl rfl rfl (by omega)) (RS.nil (hK2 _ _ ?_)))))
 refine T.seq fun K3 hK3=>T.region (rM rfl (rp (Pu.lenSl tI_sl rfl) (rA rfl (RS.nil (hK3 _ _ ?_)))))
 refine T.seq fun K4 hK4=>T.seq fun K5 hK5=>T.region (rM rfl (rp (Pu.bin rfl rfl rfl) (RS.nil (hK5 _ _ ?_))))
 refine T.condP rfl (fun hc=>absurd hc (by omega)) (fun hc=>?_)
 refine T.skip (hK4 _ _ ?_)
 refine T.seq fun K6 hK6=>T.region (rM rfl (rp (Pu.lenSl tI_sl rfl) (rA rfl (RS.nil (hK6 _ _ ?_)))))
 refine T.seq fun K7 hK7=>T.seq fun K8 hK8=>T.region (rM rfl (rM rfl (rp (Pu.bin rfl rfl rfl) (RS.nil (hK8 _ _ ?_)))))
 refine T.condP rfl (fun hin'=>?_) (fun hin'=>?_)
 ·refine T.seq fun K9 hK9=>?_
  refine T.region (rM rfl (rM rfl (RS.solid (Sd.appR (α:=Raw3) 0 (nilH_lt _) rfl tI_sl hz1 hz2 rfl rfl (Rd.ofFrame 1 rfl hv) (by simp only [List.length_cons,List.length_nil]; omega) (by decide)) rfl rfl fun q=>rA rfl (RS.nil (hK9 _ _ ?_)))))
  refine T.retTo (by with_reducible ((repeat (first | apply RetTo.seq | apply RetTo.blk)); exact RetTo.refl _)) (Cont.ret1 rfl rfl fun w' s=>?_)
  have hi:i = a0.length:=by omega
  subst hi
  rw [List.take_length,List.drop_length,List.append_nil]
  exact ⟨q,rfl,s⟩
 refine T.skip (hK7 _ _ ?_)
 have hlt:i < a0.length:=by omega
 refine T.know (p:=∃ g cap,q0 = (some g,cap)) (fun w s=>s.row_some (k:=0) rfl (by omega)) ?_
 rintro ⟨gg,c,rfl⟩
 try dsimp only at hfit
 refine T.seq fun KA1 hKA1=>?_
 refine T.seq fun KB1 hKB1=>?_
 refine T.region (rM rfl (rM rfl (rp (Pu.addS rfl rfl (by omega)) (rM rfl (rp (Pu.capSl tI_sl rfl) (rp (Pu.bin rfl rfl rfl) (RS.nil (hKB1 _ _ ?_))))))))
 refine T.condP rfl (fun hg=>?_) (fun hg=>?_)
 ·have hkk:(((a0.length:Nat):Int) + ((1:Nat):Int) - (i:Int)) = ((a0.length + 1 - i:Nat):Int):=by omega
  refine T.seq fun KC1 hKC1=>?_
  refine T.region (rM rfl (rM rfl (rp (Pu.sliceHn (j:=i) tI_sl rfl rfl rfl (by omega)) (rM rfl (rM rfl (rp (Pu.addS rfl rfl (by omega)) (rM rfl (rp (Pu.subS rfl rfl (by omega)) (RS.solid (Sd.appZeros (α:=Raw3) (z0:=(⟨.int .i64 0,.int .i64 0,.slice none 0 0,rfl⟩:Raw3)) (kk:=a0.length + 1 - i) 0 i rfl tI_sl hz1 hz4 (by decide) tI_bool rfl rfl hkk (by omega) (by omega) (by omega) (by omega) (by decide)) rfl rfl fun q=>rA rfl (RS.nil (hKC1 _ _ ?_)))))))))))
  have hTl:(a0.take i ++ List.replicate (a0.length + 1 - i) ((⟨.int .i64 0,.int .i64 0,.slice none 0 0,rfl⟩:Raw3):Raw3)).length = i + (a0.length + 1 - i):=by simp only [List.length_append,List.length_take,List.length_replicate]; omega
  refine T.know (p:=∃ g cap,q = (some g,cap)) (fun w s=>s.row_some (k:=2) rfl (by rw [hTl]; omega)) ?_
  rintro ⟨bb,cb,rfl⟩
  refine T.know (fun w s=>s.row_fits (k:=2) rfl) fun hfb=>?_
  try dsimp only at hfb
  have hfb2:=hfb.2.1
  refine T.seq fun KD1 hKD1=>?_
  refine T.region (rM rfl (rM rfl (rp (Pu.sliceLs (j:=i) tI_sl rfl rfl rfl (by omega) (by omega)) (rM rfl (RS.solid (Sd.copyR (α:=Raw3) (o:=i) 2 rfl tI_sl rfl rfl (Rd.ofFrame 1 rfl hv) (Nat.zero_add _) (by rw [hTl]; have h:Nat.min 1 (i + (a0.length + 1 - i) - i) ≤ 1:=Nat.min_le_left _ _; omega)) rfl rfl fun _=>RS.nil (hKD1 _ _ ?_))))))
  refine T.seq fun KE1 hKE1=>?_
  refine T.drawn (fun _=>True) [(0,.pu),(1,.pu),(2,.pu),(3,.pu),(4,.pu),(5,.pu),(6,.pu),(7,.pu),(8,.br)] tI_mixed (ClE.sat _ _) (by kernel_rfl) ?_
  refine dp rfl (Pu.move rfl) (dp rfl (Pu.move rfl) (dp rfl (Pu.move rfl) (dp rfl (Pu.addS rfl rfl (by omega)) (dp rfl (Pu.sliceLs (j:=i + 1) tI_sl rfl rfl (by omega) (by omega) (by omega)) (dp rfl (Pu.move rfl) (dp rfl (Pu.move rfl) (dp rfl (Pu.sliceLn (j:=i) tI_sl rfl rfl rfl hin) ?_)))))))
  have hX:(a0.take i ++ List.replicate (a0.length + 1 - i) ((⟨.int .i64 0,.int .i64 0,.slice none 0 0,rfl⟩:Raw3):Raw3)).take i ++ [y].take (Nat.min 1 (i + (a0.length + 1 - i) - i)) ++ (a0.take i ++ List.replicate (a0.length + 1 - i) ((⟨.int .i64 0,.int .i64 0,.slice none 0 0,rfl⟩:Raw3):Raw3)).drop (i + Nat.min 1 (i + (a0.length + 1 - i) - i)) = (a0.take i ++ List.replicate (a0.length + 1 - i) ((⟨.int .i64 0,.int .i64 0,.slice none 0 0,rfl⟩:Raw3):Raw3)).take i ++ [y].take (Nat.min 1 (a0.length + 1 - i)) ++ (a0.take i ++ List.replicate (a0.length + 1 - i) ((⟨.int .i64 0,.int .i64 0,.slice none 0 0,rfl⟩:Raw3):Raw3)).drop (i + Nat.min 1 (a0.length + 1 - i)):=by rw [Nat.add_sub_cancel_left]
  have hXl:((a0.take i ++ List.replicate (a0.length + 1 - i) ((⟨.int .i64 0,.int .i64 0,.slice none 0 0,rfl⟩:Raw3):Raw3)).take i ++ [y].take (Nat.min 1 (i + (a0.length + 1 - i) - i)) ++ (a0.take i ++ List.replicate (a0.length + 1 - i) ((⟨.int .i64 0,.int .i64 0,.slice none 0 0,rfl⟩:Raw3):Raw3)).drop (i + Nat.min 1 (i + (a0.length + 1 - i) - i))).length = a0.length + 1:=by
   have h:Nat.min 1 (i + (a0.length + 1 - i) - i) = 1:=Nat.min_eq_left (by omega)
   rw [h]; simp only [List.length_append,List.length_take,List.length_drop,List.length_replicate,List.length_cons,List.length_nil]; omega
  refine RD.solid rfl (.inr rfl) rfl rfl (Sd.copyR (α:=Raw3) (o:=i + 1) 2 rfl tI_sl rfl rfl (Rd.drop (Rd.ofRowN 0 rfl) hin rfl) (Nat.zero_add _) (by rw [hXl]; have h:Nat.min (a0.length - i) (i + (a0.length + 1 - i) - (i + 1)) ≤ a0.length - i:=Nat.min_le_left _ _; omega)) (fun _=>ClE.sat _ _) (fun _ _ _=>trivial) (fun h=>nomatch h) fun _=>?_
  refine RD.nil (hKE1 _ _ ?_)
  refine T.seq fun KF1 hKF1=>?_
  refine T.region (rM rfl (rA rfl (RS.nil (hKF1 _ _ ?_))))
  refine T.retTo (by with_reducible ((repeat (first | apply RetTo.seq | apply RetTo.blk)); exact RetTo.refl _)) (Cont.ret1 rfl rfl fun w' s=>?_)
  have hmm:Nat.min (a0.length - i) (i + (a0.length + 1 - i) - (i + 1)) = Nat.min (a0.length - i) (a0.length - i):=by congr 1; omega
  have hfin:=ins_grow (xs:=a0) (i:=i) (y:=y) (z:=((⟨.int .i64 0,.int .i64 0,.slice none 0 0,rfl⟩:Raw3):Raw3)) hlt
  refine ⟨(some bb,cb),?_,?_⟩
  ·show Ending.returned (.slice (some ⟨bb,0,none⟩) (i + (a0.length + 1 - i)) cb) = .returned (.slice (some ⟨bb,0,none⟩) (a0.take i ++ [y] ++ a0.drop i).length cb)
   congr 2
   simp only [List.length_append,List.length_take,List.length_drop,List.length_cons,List.length_nil]; omega
  ·have s2:=s.pick (G':=[row nilH 210 (.slice (some ⟨bb,0,none⟩) (i + (a0.length + 1 - i)) cb) _,F]) [2,1] (by decide) rfl
   have hl:(a0.take i ++ [y] ++ a0.drop i).length = i + (a0.length + 1 - i):=by simp only [List.length_append,List.length_take,List.length_drop,List.length_cons,List.length_nil]; omega
   rw [hmm,hX,hfin] at s2
   rw [hl]
   exact s2
 refine T.skip (hKA1 _ _ ?_)
 have hroom:a0.length + 1 ≤ c:=by omega
 obtain ⟨bv,ov,rfl,hbv,_⟩:=apart_of (C:=row nilH 210 (rowV (some gg,c) a0.length) a0) (F:=F) s (fun q hq=>by
  rcases hq with ⟨hq,_⟩ | ⟨g',cap,cs,sp,hq,h1,_⟩
  ·simp [rowV] at hq
  ·simp only [rowV,Option.map_some,Value.slice.injEq,Option.some.injEq,Addr.mk.injEq,and_true] at hq
   obtain ⟨rfl,_⟩:=hq
   exact ⟨_,h1⟩) hv (by decide)
 refine T.seq fun KG1 hKG1=>?_
 refine T.region (rM rfl (rM rfl (rM rfl (rp (Pu.addS rfl rfl (by omega)) (rp (Pu.sliceHn (j:=a0.length + 1) tI_sl rfl rfl (by omega) hroom) (rA rfl (RS.nil (hKG1 _ _ ?_))))))))
 refine T.seq fun KH1 hKH1=>?_
 refine T.seq fun KI1 hKI1=>?_
 refine T.region (rM rfl (rM rfl (rM rfl (rM rfl (rp (Pu.addS rfl rfl (by omega)) (rp (Pu.sliceLs (j:=i + 1) tI_sl rfl rfl (by omega) (by omega) (by omega)) ?_))))))
 obtain ⟨fno,hfo,hoo⟩:=tI_ovl
 refine rq (Qt.overlaps hfo hoo tI_sl rfl rfl (fun w s=>?_)) ?_
 ·have hsp:Sat w0 [row nilH 210 (rowV (some gg,c) a0.length) a0,F] w:=s
  obtain ⟨b2,o2,e2,hb2,hcells⟩:=apart_of (C:=row nilH 210 (rowV (some gg,c) a0.length) a0) (F:=F) hsp (fun q hq=>by
   rcases hq with ⟨hq,_⟩ | ⟨g',cap,cs,sp,hq,h1,_⟩
   ·simp [rowV] at hq
   ·simp only [rowV,Option.map_some,Value.slice.injEq,Option.some.injEq,Addr.mk.injEq,and_true] at hq
    obtain ⟨rfl,_⟩:=hq
    exact ⟨_,h1⟩) hv (by decide)
  simp only [Option.some.injEq,Addr.mk.injEq,and_true] at e2
  obtain ⟨rfl,rfl⟩:=e2
  obtain ⟨cs,sp,k1,_,k3,_⟩:=hsp.rowCells (k:=0) rfl
  refine ⟨hbv,hcells,_,_,k1,?_⟩
  simp only [List.size_toArray]
  rw [k3]
  exact Nat.mul_pos (by omega) (by decide)
 refine rp (Pu.not rfl) (RS.nil (hKI1 _ _ ?_))
 refine T.condT rfl ?_
 refine T.seq fun KJ1 hKJ1=>?_
 refine T.drawn (fun _=>True) [(0,.pu),(1,.pu),(2,.pu),(3,.pu),(4,.pu),(5,.pu),(6,.pu),(7,.pu),(8,.br)] tI_mixed (ClE.sat _ _) (by kernel_rfl) ?_
 refine dp rfl (Pu.move rfl) (dp rfl (Pu.move rfl) (dp rfl (Pu.move rfl) (dp rfl (Pu.addS rfl rfl (by omega)) (dp rfl (Pu.sliceLs (j:=i + 1) tI_sl rfl rfl (by omega) (by omega) (by omega)) (dp rfl (Pu.move rfl) (dp rfl (Pu.move rfl) (dp rfl (Pu.sliceLs (j:=i) tI_sl rfl rfl rfl (by omega) (by omega)) (RD.solid rfl (.inr rfl) rfl rfl (Sd.copyUp (α:=Raw3) 0 i rfl tI_sl hlt hroom (vsl (by omega) (by omega)) (vsl (by omega) rfl) (by omega)) (fun _=>ClE.sat _ _) (fun _ _ _=>trivial) (fun h=>nomatch h) fun _=>?_))))))))
 refine RD.nil (hKJ1 _ _ ?_)
 have hXl:(a0.take (i + 1) ++ a0.drop i).length = a0.length + 1:=by simp only [List.length_append,List.length_take,List.length_drop]; omega
 refine T.seq fun KL1 hKL1=>?_
 refine T.region (rM rfl (rM rfl (rp (Pu.sliceLs (j:=i) tI_sl rfl rfl rfl (by omega) (by omega)) (rM rfl (RS.solid (Sd.copyR (α:=Raw3) (o:=i) 0 rfl tI_sl rfl rfl (Rd.ofFrame 1 rfl hv) (Nat.zero_add _) (by rw [hXl]; have h:Nat.min 1 (a0.length + 1 - i) ≤ 1:=Nat.min_le_left _ _; omega)) rfl rfl fun _=>RS.nil (hKL1 _ _ ?_))))))
 refine T.seq fun KM1 hKM1=>?_
 refine T.region (rM rfl (rA rfl (RS.nil (hKM1 _ _ ?_))))
 refine T.retTo (by with_reducible ((repeat (first | apply RetTo.seq | apply RetTo.blk)); exact RetTo.refl _)) (Cont.ret1 rfl rfl fun w' s=>?_)
 have hfin:=ins_up (xs:=a0) (i:=i) (y:=y) (m:=Nat.min 1 (a0.length + 1 - i)) hlt (Nat.min_eq_left (by omega))
 have hl:(a0.take i ++ [y] ++ a0.drop i).length = a0.length + 1:=by simp only [List.length_append,List.length_take,List.length_drop,List.length_cons,List.length_nil]; omega
 have s2:=s.pick (G':=[row nilH 210 (.slice (some ⟨gg,0,none⟩) (a0.length + 1) c) _,F]) [0,1] (by decide) rfl
 rw [hfin] at s2
 rw [hl]
 exact ⟨(some gg,c),rfl,s2⟩

def slices_InsertI (xs:List Inp) (i:Int) (ys:List Inp):Option (List Inp):=if ys.length = 1∧(0 ≤ i∧i ≤ (xs.length:Int))∧xs.length < 1099511627775 then some (xs.take i.toNat ++ ys ++ xs.drop i.toNat) else none
theorem slices_InsertI_walk {w0:World} {F:Ch} (a0:List Inp) (a1:Int) (a2:List Inp) {q0:Option Nat × Nat} {m0:Nat} (hm:m0 = a0.length) {e2:TypeId} {v0:Value} {r:List Inp} (H:slices_InsertI a0 a1 a2 = some r) (w:World) (s:Sat w0 [star (drow 210 (rowV q0 m0) a0) (drow e2 v0 a2),F] w) :
  Calls Tryz.prog 226 #[rowV q0 m0,.int .i64 a1,v0] w fun e w'=>∃ q:Option Nat × Nat,e = .returned (rowV q r.length)∧Sat w0 [drow 210 (rowV q r.length) r,F] w':=by
 unfold slices_InsertI at H
 obtain ⟨⟨hy1,⟨h0,h1⟩,h3⟩,H⟩:=gdE H
 obtain rfl:=sj H
 obtain ⟨zs,hz,s2⟩:=(s.unstarAt 0 rfl).toZ (α:=Inp) rfl 0 rfl
 obtain ⟨ys,hy,s3⟩:=s2.toZ (α:=Inp) rfl 2 rfl
 have hzl:(zs.map (·.2)).length = a0.length:=by rw [← hz]; simp
 have hyl:(ys.map (·.2)).length = a2.length:=by rw [← hy]; simp
 have hI:raw_Insert (zs.map (·.2)) a1 (ys.map (·.2)) = some ((zs.take a1.toNat ++ ys ++ zs.drop a1.toNat).map (·.2)):=by
  unfold raw_Insert
  rw [hzl,hyl,if_pos ⟨hy1,⟨h0,h1⟩,h3⟩]
  simp [List.map_take,List.map_drop]
 have hfst:(zs.take a1.toNat ++ ys ++ zs.drop a1.toNat).map (·.1) = a0.take a1.toNat ++ a2 ++ a0.drop a1.toNat:=by
  rw [← hz,← hy]; simp [List.map_take,List.map_drop]
 refine (raw_Insert_walk (zs.map (·.2)) a1 (ys.map (·.2)) (by rw [hzl]; exact hm) (Rd.rest 2 rfl (by decide) (Rd.ofRowN 0 rfl)) hI w (s3.focus (k:=0) rfl)).mono ?_
 rintro e w' ⟨q,rfl,s4⟩
 have s5:=Sat.unfocus (D:=[]) (G:=[row nilH 210 (rowV q0 m0) (zs.map (·.2)),F,row nilH e2 v0 (ys.map (·.2)),inn zs,inn ys]) (k:=0) (Nat.zero_lt_succ _) s4
 have s6:=s5.merge2 3 4 rfl rfl (by decide) (inn (zs.take a1.toNat ++ ys ++ zs.drop a1.toNat)) fun p q r a b d l1 l2=>by
  refine DZ.perm ?_ (DZ.append b a d l1 l2)
  have e1:zs ++ ys = zs.take a1.toNat ++ (zs.drop a1.toNat ++ ys):=by rw [← List.append_assoc,List.take_append_drop]
  rw [e1,List.append_assoc]
  exact List.Perm.append_left _ List.perm_append_comm
 have s7:=s6.ofZ (α:=Inp) rfl 0 3 rfl rfl (by decide) (zs:=zs.take a1.toNat ++ ys ++ zs.drop a1.toNat) rfl
 refine ⟨q,?_,?_⟩
 ·rw [← hfst]; simp
 ·rw [← hfst]
  have s8:=s7.pick (G':=[_,F]) [0,1] (by decide) rfl
  simpa using s8
end Go.Proofs.YtmngdgclldkcfaaGreat
set_option linter.unusedVariables false
set_option linter.unusedSimpArgs false
set_option maxRecDepth 20000
set_option maxHeartbeats 4000000
namespace Go.Proofs.YtmngdgclldkcfaaGreat
open Go.Vg
open Enc (R)
def cmp_Or (a0_vals:List Int):Option Int :=
  Option.bind (α:=Ex (Unit) (Int)) (loop (σ:=Int) (β:=Ex (Unit) (Int)) (fun v2 =>
  if v2 < (a0_vals.length:Int) then
  if 0 ≤ v2∧v2 < (a0_vals.length:Int) then
  if ¬ (gi a0_vals v2) = 0 then
  some (St.done (Ex.up (gi a0_vals v2)))
  else
  if I64 (v2 + 1) then
  some (St.next (v2 + 1))
  else none
  else none
  else
  some (St.done (Ex.go ()))) 0) fun x=>x.then fun _ =>
  some 0
def turns_less (a0_a:Inp) (a1_b:Inp):Option Int :=
  Option.bind (cmp_Compare a0_a.turn a1_b.turn) fun x3 =>
  Option.bind (cmp_Compare a0_a.player a1_b.player) fun x4 =>
  Option.bind (cmp_Or [x3,x4]) fun x6 =>
  some x6
def turns_Said (a0_player:Int) (a1_l:List Cmd):Option Bool :=
  Option.bind (α:=Ex (Unit) (Bool)) (loop (σ:=Int) (β:=Ex (Unit) (Bool)) (fun v2 =>
  if v2 < (a1_l.length:Int) then
  if 0 ≤ v2∧v2 < (a1_l.length:Int) then
  Option.bind (command_May (gi a1_l v2)) fun x15 =>
  if ¬ (((!x15) = true) ∨ (¬ (gi a1_l v2).player = a0_player))→((0 < v2)→(I64 (v2 - 1))) then
  if ¬ (((!x15) = true) ∨ (¬ (gi a1_l v2).player = a0_player))→((0 < v2)→(0 ≤ (v2 - 1)∧(v2 - 1) < (a1_l.length:Int))) then
  if (((!x15) = true) ∨ (¬ (gi a1_l v2).player = a0_player)) ∨ ((0 < v2)∧((gi a1_l v2).seq ≤ (gi a1_l (v2 - 1)).seq)) then
  some (St.done (Ex.up false))
  else
  if I64 (v2 + 1) then
  some (St.next (v2 + 1))
  else none
  else none
  else none
  else none
  else
  some (St.done (Ex.go ()))) 0) fun x=>x.then fun _ =>
  some (decide ((a1_l.length:Int) ≤ 64))
def turns_May (a0_i:Inp):Option Bool :=
  Option.bind (if (((0 ≤ a0_i.turn)∧(a0_i.turn ≤ 1099511627776))∧(1 ≤ a0_i.player))∧(a0_i.player ≤ 8) then
  Option.bind (turns_Said a0_i.player a0_i.commands) fun x12 =>
  some x12
  else
  some false) fun b10 =>
  some b10
def turns_Own (a0_i:Inp):Option Inp :=
  Option.bind (command_OwnAll a0_i.commands) fun x3 =>
  some (⟨a0_i.turn,a0_i.player,x3⟩:Inp)
def turns_OwnAll (a0_l:List Inp):Option (List Inp) :=
  Option.bind (α:=List Inp) (loop (σ:=List Inp × Int) (β:=List Inp) (fun (l4,v6) =>
  if v6 < (a0_l.length:Int) then
  if 0 ≤ v6∧v6 < (a0_l.length:Int) then
  Option.bind (turns_Own (gi a0_l v6)) fun x19 =>
  if l4.length + 1 < 1099511627776 then
  if I64 (v6 + 1) then
  some (St.next ((l4 ++ ([x19]:List Inp)),(v6 + 1)))
  else none
  else none
  else none
  else
  some (St.done l4)) ([],0)) fun v2 =>
  some v2
def turns_Rising (a0_l:List Inp):Option Bool :=
  Option.bind (α:=Ex (Unit) (Bool)) (loop (σ:=Int) (β:=Ex (Unit) (Bool)) (fun v2 =>
  if v2 < (a0_l.length:Int) then
  if 0 ≤ v2∧v2 < (a0_l.length:Int) then
  Option.bind (turns_May (gi a0_l v2)) fun x15 =>
  Option.bind (if (!x15) = true then
  some true
  else
  Option.bind (if 0 < v2 then
  if I64 (v2 - 1) then
  if 0 ≤ (v2 - 1)∧(v2 - 1) < (a0_l.length:Int) then
  Option.bind (turns_less (gi a0_l (v2 - 1)) (gi a0_l v2)) fun x34 =>
  some (decide (0 ≤ x34))
  else none
  else none
  else
  some false) fun b24 =>
  some b24) fun b18 =>
  if b18 = true then
  some (St.done (Ex.up false))
  else
  if I64 (v2 + 1) then
  some (St.next (v2 + 1))
  else none
  else none
  else
  some (St.done (Ex.go ()))) 0) fun x=>x.then fun _ =>
  some true
def turns_All (a0_l:List Inp):Option (List Cmd) :=
  Option.bind (α:=List Cmd) (loop (σ:=List Cmd × Int) (β:=List Cmd) (fun (l4,v6) =>
  if v6 < (a0_l.length:Int) then
  if 0 ≤ v6∧v6 < (a0_l.length:Int) then
  Option.bind (command_OwnAll ((gi a0_l v6).commands)) fun x19 =>
  if l4.length + x19.length < 1099511627776 then
  if I64 (v6 + 1) then
  some (St.next ((l4 ++ x19),(v6 + 1)))
  else none
  else none
  else none
  else
  some (St.done l4)) ([],0)) fun v2 =>
  some v2
def turns_Part (a0_l:List Inp) (a1_turn:Int):Option (List Inp × List Inp) :=
  Option.bind (α:=List Inp × List Inp) (loop (σ:=List Inp × List Inp × Int) (β:=List Inp × List Inp) (fun (l6,l8,v10) =>
  if v10 < (a0_l.length:Int) then
  if 0 ≤ v10∧v10 < (a0_l.length:Int) then
  if (gi a0_l v10).turn = a1_turn then
  Option.bind (turns_Own (gi a0_l v10)) fun x24 =>
  if l6.length + 1 < 1099511627776 then
  if I64 (v10 + 1) then
  some (St.next ((l6 ++ ([x24]:List Inp)),l8,(v10 + 1)))
  else none
  else none
  else
  Option.bind (turns_Own (gi a0_l v10)) fun x30 =>
  if l8.length + 1 < 1099511627776 then
  if I64 (v10 + 1) then
  some (St.next (l6,(l8 ++ ([x30]:List Inp)),(v10 + 1)))
  else none
  else none
  else none
  else
  some (St.done (l6,l8))) ([],[],0)) fun (v2,v4) =>
  some (v2,v4)
def slices_BinarySearchFuncI (a0_x:List Inp) (a1_target:Inp) (a2_cmp:(Inp × Inp)→Option Int):Option (Int × Bool) :=
  Option.bind (α:=Int) (loop (σ:=Int × Int) (β:=Int) (fun (v18,v19) =>
  if v18 < v19 then
  if I64 (v18 + v19) then
  if 0 ≤ ((v18 + v19) % 18446744073709551616) then
  if I64 (((v18 + v19) % 18446744073709551616) / 2) then
  if 0 ≤ (((v18 + v19) % 18446744073709551616) / 2)∧(((v18 + v19) % 18446744073709551616) / 2) < (a0_x.length:Int) then
  Option.bind (a2_cmp ((gi a0_x (((v18 + v19) % 18446744073709551616) / 2)),a1_target)) fun x34 =>
  if x34 < 0 then
  if I64 ((((v18 + v19) % 18446744073709551616) / 2) + 1) then
  some (St.next (((((v18 + v19) % 18446744073709551616) / 2) + 1),v19))
  else none
  else
  some (St.next (v18,(((v18 + v19) % 18446744073709551616) / 2)))
  else none
  else none
  else none
  else none
  else
  some (St.done v18)) (0,(a0_x.length:Int))) fun v3 =>
  Option.bind (if v3 < (a0_x.length:Int) then
  if 0 ≤ v3∧v3 < (a0_x.length:Int) then
  Option.bind (a2_cmp ((gi a0_x v3),a1_target)) fun x17 =>
  some (decide (x17 = 0))
  else none
  else
  some false) fun b6 =>
  some (v3,b6)
def turns_In (a0_l:List Inp) (a1_i:Inp):Option (List Inp × Bool) :=
  Option.bind (slices_BinarySearchFuncI a0_l a1_i (fun (y0,y1)=>turns_less y0 y1)) fun x2 =>
  if x2.2 = true then
  some ([],false)
  else
  Option.bind (turns_OwnAll a0_l) fun x4 =>
  Option.bind (turns_Own a1_i) fun x6 =>
  Option.bind (slices_InsertI x4 x2.1 ([x6]:List Inp)) fun x9 =>
  some (x9,true)
end Go.Proofs.YtmngdgclldkcfaaGreat
