/-
  Walks of what the peers call: inputs.
-/
import Derived.Test.YtmngdgclldkcfaaGreatRows
import Derived.Test.YtmngdgclldkcfaaGreatJ6
import Derived.Test.YtmngdgclldkcfaaGreatJ7
import Derived.Test.YtmngdgclldkcfaaGreatJ26
import Derived.Test.YtmngdgclldkcfaaGreatJ16
set_option linter.unusedVariables false
set_option linter.unusedSimpArgs false
set_option maxRecDepth 20000
set_option maxHeartbeats 4000000
namespace Go.Proofs.YtmngdgclldkcfaaGreat
open Go.Vg
open Enc (R)
theorem ent223:Ent Tryz.prog 223:=en Tryz.func223
instance sl86:SlC Tryz.prog 86 (210,3,40):={}
theorem turns_OwnAll_walk (a0_l:List Inp) (w:World) {v0:Value} (h0:R (hpOf w) a0_l [v0]) {r:List Inp} (H:turns_OwnAll a0_l = some r):Calls Tryz.prog 223 #[v0] w fun e w'=>∃ q1:(Option Nat × Nat),e = .returned (rowV q1 r.length)∧Sat w [drow 210 (rowV q1 r.length) r] w':=by
 have hm0:=R_max h0
 obtain ⟨p0,c0,rfl⟩:=R_form h0
 unfold turns_OwnAll at H
 refine te Tryz.func223 (Sat.start w) ?_
 refine au 2 ?_
 refine T.seq fun _ k2=>au 4 ?_
 refine T.joinE (σ:=Unit) (γ:=Unit) H (fun s=>s) [] trivial (fun _ _=>[(2,.slice none 0 0)]) (fun _ _=>Sat w []) ?_ ?_
 ·rintro ⟨⟩ ⟨⟩ H
  try dsimp only [Ex.then] at H
  refine Cont.kq [2] ?_
  refine id (k2 _ _ ?_)
  refine au 3 ?_
  obtain rfl:=sj H
  refine T.rt (Cont.ret1 rfl rfl fun w' s=>?_)
  exact ⟨(none,0),rfl,(s.nilRowG (α:=Inp) 210).pick [0] (by decide) rfl⟩
 intro z1 hz1 HX1 hJ1
 refine T.block ?_
 refine T.loopA (γ:=Unit) hz1 [(5,_),(6,_)] (fun v2 _=>[(2,.slice none 0 0),(7,.int .i64 v2)]) (fun v2 _=>Sat w []) () sb sb (fun w s=>s) ?_
 rintro v2 ⟨⟩ y3 H hd1 KL1 hL1
 try dsimp only [Ex.then] at H
 refine kq [2,7,5,6] ?_
 refine au 2 ?_
 refine T.seq fun _ k6=>?_
 refine T.cP H rfl (fun _ H=>nomatch H) (fun hc4 H=>?_)
 obtain rfl:=hd1 _ H
 refine T.xt (hJ1 _ _ () () HX1 trivial sb (fun w s=>s))
theorem turns_Rising_walk (a0_l:List Inp) (w:World) {v0:Value} (h0:R (hpOf w) a0_l [v0]) {r:Bool} (H:turns_Rising a0_l = some r):Calls Tryz.prog 102 #[v0] w fun e w'=>e = .returned (.bool r)∧Ext w w':=by
 have hm0:=R_max h0
 obtain ⟨p0,c0,rfl⟩:=R_form h0
 unfold turns_Rising at H
 refine te Tryz.func102 (Sat.start w) ?_
 refine au 2 ?_
 refine T.seq fun _ k2=>au 4 ?_
 refine T.joinE (σ:=Unit) (γ:=Unit) H Ex.go [] trivial (fun _ _=>[]) (fun _ _=>Sat w []) ?_ ?_
 ·rintro ⟨⟩ ⟨⟩ H
  try dsimp only [Ex.then] at H
  refine Cont.kq [] ?_
  refine id (k2 _ _ ?_)
  refine au 2 ?_
  obtain rfl:=sj H
  refine T.rt (Cont.ret1 rfl rfl fun w' s=>?_)
  exact ⟨rfl,s.ext⟩
 intro z1 hz1 HX1 hJ1
 refine T.block ?_
 refine T.loopA (γ:=Unit) hz1 [(0,_),(5,_),(6,_)] (fun v2 _=>[(7,.int .i64 v2)]) (fun v2 _=>Sat w []) () sb sb (fun w s=>s) ?_
 rintro v2 ⟨⟩ y3 H hd1 KL1 hL1
 try dsimp only [Ex.then] at H
 refine kq [7,0,5,6] ?_
 refine au 2 ?_
 refine T.seq fun _ k6=>?_
 refine T.cP H rfl (fun _ H=>nomatch H) (fun hc4 H=>?_)
 obtain rfl:=hd1 _ H
 refine T.xt (hJ1 _ _ () () HX1 trivial trivial (fun w s=>s))
theorem turns_All_walk (a0_l:List Inp) (w:World) {v0:Value} (h0:R (hpOf w) a0_l [v0]) {r:List Cmd} (H:turns_All a0_l = some r):Calls Tryz.prog 229 #[v0] w fun e w'=>∃ q1:(Option Nat × Nat),e = .returned (rowV q1 r.length)∧Sat w [drow 37 (rowV q1 r.length) r] w':=by
 have hm0:=R_max h0
 obtain ⟨p0,c0,rfl⟩:=R_form h0
 unfold turns_All at H
 refine te Tryz.func229 (Sat.start w) ?_
 refine au 2 ?_
 refine T.seq fun _ k2=>au 4 ?_
 refine T.joinE (σ:=Unit) (γ:=Unit) H (fun s=>s) [] trivial (fun _ _=>[(2,.slice none 0 0)]) (fun _ _=>Sat w []) ?_ ?_
 ·rintro ⟨⟩ ⟨⟩ H
  try dsimp only [Ex.then] at H
  refine Cont.kq [2] ?_
  refine id (k2 _ _ ?_)
  refine au 3 ?_
  obtain rfl:=sj H
  refine T.rt (Cont.ret1 rfl rfl fun w' s=>?_)
  exact ⟨(none,0),rfl,(s.nilRowG (α:=Cmd) 37).pick [0] (by decide) rfl⟩
 intro z1 hz1 HX1 hJ1
 refine T.block ?_
 refine T.loopA (γ:=Unit) hz1 [(5,_),(6,_)] (fun v2 _=>[(2,.slice none 0 0),(7,.int .i64 v2)]) (fun v2 _=>Sat w []) () sb sb (fun w s=>s) ?_
 rintro v2 ⟨⟩ y3 H hd1 KL1 hL1
 try dsimp only [Ex.then] at H
 refine kq [2,7,5,6] ?_
 refine au 2 ?_
 refine T.seq fun _ k6=>?_
 refine T.cP H rfl (fun _ H=>nomatch H) (fun hc4 H=>?_)
 obtain rfl:=hd1 _ H
 refine T.xt (hJ1 _ _ () () HX1 trivial sb (fun w s=>s))
theorem turns_Part_walk (a0_l:List Inp) (a1_turn:Int) (w:World) {v0:Value} (h0:R (hpOf w) a0_l [v0]) {r:List Inp × List Inp} (H:turns_Part a0_l a1_turn = some r):Calls Tryz.prog 228 #[v0,.int .i64 a1_turn] w fun e w'=>∃ g:(Option Nat × Nat) × (Option Nat × Nat),e = .returned (.tuple #[rowV g.1 r.1.length,rowV g.2 r.2.length])∧Sat w [drow 210 (rowV g.1 r.1.length) r.1,drow 210 (rowV g.2 r.2.length) r.2] w':=by
 have hm0:=R_max h0
 obtain ⟨p0,c0,rfl⟩:=R_form h0
 unfold turns_Part at H
 refine te Tryz.func228 (Sat.start w) ?_
 refine au 3 ?_
 refine T.seq fun _ k2=>au 4 ?_
 refine T.joinE (σ:=Unit) (γ:=Unit) H (fun s=>s) [] trivial (fun _ _=>[(4,.slice none 0 0),(5,.slice none 0 0)]) (fun _ _=>Sat w []) ?_ ?_
 ·rintro ⟨⟩ ⟨⟩ H
  try dsimp only [Ex.then] at H
  refine Cont.kq [4,5] ?_
  refine id (k2 _ _ ?_)
  refine au 5 ?_
  obtain rfl:=sj H
  refine T.rt (Cont.ret2 rfl rfl rfl fun w' s=>?_)
  exact ⟨⟨(none,0),(none,0)⟩,rfl,((s.nilRowG (α:=Inp) 210).nilRowG (α:=Inp) 210).pick [0,1] (by decide) rfl⟩
 intro z1 hz1 HX1 hJ1
 refine T.block ?_
 refine T.loopA (γ:=Unit) hz1 [(1,_),(8,_),(9,_)] (fun v2 _=>[(4,.slice none 0 0),(5,.slice none 0 0),(10,.int .i64 v2)]) (fun v2 _=>Sat w []) () sb sb (fun w s=>s) ?_
 rintro v2 ⟨⟩ y3 H hd1 KL1 hL1
 try dsimp only [Ex.then] at H
 refine kq [4,5,10,1,8,9] ?_
 refine au 2 ?_
 refine T.seq fun _ k6=>?_
 refine T.cP H rfl (fun _ H=>nomatch H) (fun hc4 H=>?_)
 obtain rfl:=hd1 _ H
 refine T.xt (hJ1 _ _ () () HX1 trivial sb (fun w s=>s))
end Go.Proofs.YtmngdgclldkcfaaGreat
