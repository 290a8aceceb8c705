/-
  Texts of one's own, joined: WE NG ZU FI.
-/
import Derived.Test.YtmngdgclldkcfaaGreatJ5
import Derived.Test.YtmngdgclldkcfaaGreatJ4
import Derived.Laws.Shifts
import Derived.Laws.Externs
import Derived.Test.YtmngdgclldkcfaaGreatRows
import Derived.Test.YtmngdgclldkcfaaGreatJ7
import Derived.Test.YtmngdgclldkcfaaGreatJ8
import Derived.Test.YtmngdgclldkcfaaGreatJ9
import Derived.Test.YtmngdgclldkcfaaGreatJ6
import Derived.Test.YtmngdgclldkcfaaGreatJ3
set_option linter.unusedSimpArgs false
set_option linter.unusedVariables false
namespace Go.Vg
def uw (a:Int):Int:=a % 18446744073709551616
def uand (a b:Int):Int:=((BitVec.ofInt 64 a &&& BitVec.ofInt 64 b).toNat:Int)
def uor (a b:Int):Int:=((BitVec.ofInt 64 a ||| BitVec.ofInt 64 b).toNat:Int)
theorem wrap_uw (a:Int):IntKind.u64.wrap a = uw a:=by simp [IntKind.wrap,IntKind.bits,IntKind.signed,uw]
theorem bv_lt (x:BitVec 64):0 ≤ ((x.toNat:Nat):Int)∧((x.toNat:Nat):Int) < 18446744073709551616:=by have:=x.isLt; omega
theorem uw_id {a:Int} (h:0 ≤ a∧a < 18446744073709551616):uw a = a:=by unfold uw; omega
section
variable {P:Program} {n:Nat} {fr:Fr} {dst:Option Tmp} {ty:TypeId} {pos:String} {aft:Array Edge} {g:Option (Nat × Bool)} {xt yt:TypeId} {x y:Operand} {a b:Int}
theorem Pu.uadd (hx:ev fr x = some (.int .u64 a)) (hy:ev fr y = some (.int .u64 b)):Pu P n ⟨dst,.binOp .add xt x y yt,ty,pos,aft,g⟩ fr (.int .u64 (uw (a + b))):=Pu.bin hx hy (by rw [binI,wrap_uw])
theorem Pu.umul (hx:ev fr x = some (.int .u64 a)) (hy:ev fr y = some (.int .u64 b)):Pu P n ⟨dst,.binOp .mul xt x y yt,ty,pos,aft,g⟩ fr (.int .u64 (uw (a * b))):=Pu.bin hx hy (by rw [binI,wrap_uw])
theorem Pu.uand (hx:ev fr x = some (.int .u64 a)) (hy:ev fr y = some (.int .u64 b)):Pu P n ⟨dst,.binOp .and xt x y yt,ty,pos,aft,g⟩ fr (.int .u64 (uand a b)):=Pu.bin hx hy (by
 show some (Value.int .u64 (IntKind.u64.wrap ((BitVec.ofInt 64 a &&& BitVec.ofInt 64 b).toNat))) = _
 rw [wrap_uw,uw_id (bv_lt _)]; rfl)
theorem Pu.uor (hx:ev fr x = some (.int .u64 a)) (hy:ev fr y = some (.int .u64 b)):Pu P n ⟨dst,.binOp .or xt x y yt,ty,pos,aft,g⟩ fr (.int .u64 (uor a b)):=Pu.bin hx hy (by
 show some (Value.int .u64 (IntKind.u64.wrap ((BitVec.ofInt 64 a ||| BitVec.ofInt 64 b).toNat))) = _
 rw [wrap_uw,uw_id (bv_lt _)]; rfl)
theorem Pu.ushl {kk:IntKind} (hx:ev fr x = some (.int .u64 a)) (hy:ev fr y = some (.int kk b)) (h:0 ≤ b∧b ≤ 64):Pu P n ⟨dst,.binOp .shl xt x y yt,ty,pos,aft,g⟩ fr (.int .u64 (uw (a * 2 ^ b.toNat))):=fun ac kn w=>by
 have h2:=Go.shift_shl_any .u64 kk a b h.1
 have h3:min b.toNat 64 = b.toNat:=by omega
 have h4:=wrap_uw (a * 2 ^ b.toNat)
 simp [execOp,kn.ev hx,kn.ev hy,binOp,eqGuard,h2,IntKind.bits,h3,h4]
theorem Pu.ushr {kk:IntKind} (hx:ev fr x = some (.int .u64 a)) (hy:ev fr y = some (.int kk b)) (h:0 ≤ b∧b ≤ 64):Pu P n ⟨dst,.binOp .shr xt x y yt,ty,pos,aft,g⟩ fr (.int .u64 (a / 2 ^ b.toNat)):=fun ac kn w=>by
 have h2:=Go.shift_shr_any .u64 kk a b h.1
 have h3:min b.toNat 64 = b.toNat:=by omega
 simp [execOp,kn.ev hx,kn.ev hy,binOp,eqGuard,h2,IntKind.bits,h3]
theorem Pu.shlV {kk:IntKind} (hx:ev fr x = some (.int .i64 a)) (hy:ev fr y = some (.int kk b)) (h:(0 ≤ b∧b < 64)∧-9223372036854775808 ≤ a * 2 ^ b.toNat∧a * 2 ^ b.toNat ≤ 9223372036854775807):Pu P n ⟨dst,.binOp .shl xt x y yt,ty,pos,aft,g⟩ fr (.int .i64 (a * 2 ^ b.toNat)):=fun ac kn w=>by
 have h2:=Go.shift_shl_any .i64 kk a b h.1.1
 have h3:min b.toNat 64 = b.toNat:=by omega
 have h4:=IntWalk.i64_in (a * 2 ^ b.toNat) h.2
 simp [execOp,kn.ev hx,kn.ev hy,binOp,eqGuard,h2,IntKind.bits,h3,h4]
theorem Pu.quoT (hx:ev fr x = some (.int .i64 a)) (hy:ev fr y = some (.int .i64 b)) (h:1 ≤ b∧-9223372036854775808 ≤ a.tdiv b∧a.tdiv b ≤ 9223372036854775807):Pu P n ⟨dst,.binOp .quo xt x y yt,ty,pos,aft,g⟩ fr (.int .i64 (a.tdiv b)):=by
 have:=Pu.quoW (P:=P) (n:=n) (dst:=dst) (ty:=ty) (pos:=pos) (aft:=aft) (g:=g) (xt:=xt) (yt:=yt) hx hy (by omega)
 rwa [IntWalk.i64_in _ h.2] at this
def isAdd64 (fn:Func):Prop:=(fn.name == "runtime.NumGoroutine") = false∧fn.body.isNone = true∧Extern.findNext fn = none∧Extern.find fn = some add64Entry
theorem Pu.add64 {f:FuncId} {fn:Func} {z:Operand} {ts:Array TypeId} {c:Int} (hf:P.funcs[f]? = some fn) (ha:isAdd64 fn) (hx:ev fr x = some (.int .u64 a)) (hy:ev fr y = some (.int .u64 b)) (hz:ev fr z = some (.int .u64 c)) (h:0 ≤ a∧0 ≤ b∧0 ≤ c∧c ≤ 1) :
  Pu P n ⟨dst,.call { callee:=.value (.func f),args:=#[x,y,z],argTypes:=ts },ty,pos,aft,g⟩ fr (.tuple #[.int .u64 ((a + b + c) % 18446744073709551616),.int .u64 ((a + b + c) / 18446744073709551616)]):=fun ac kn w=>by
 have h1:(callFunc f #[.int .u64 a,.int .u64 b,.int .u64 c]).run P w = .ok (.value (.tuple #[.int .u64 ((a + b + c) % 18446744073709551616),.int .u64 ((a + b + c) / 18446744073709551616)])) w:=by
  rw [run_callFunc_extern hf ha.1 ha.2.1 ha.2.2.1 ha.2.2.2,run_add64 a b c h.1 h.2.1 h.2.2.1 h.2.2.2]
  rfl
 exact (run_callF (P:=P) (xs:=[x,y,z]) (vs:=[_,_,_]) (by simp only [evs,hx,hy,hz]) kn w).trans h1
theorem wrap_u8 (a:Int):IntKind.u8.wrap a = ((UInt8.ofNat (a % 256).toNat).toNat:Int):=by
 simp [IntKind.wrap,IntKind.bits,IntKind.signed]; omega
theorem Pu.convB {s d:TypeId} {k:IntKind} (hs:(P.underlying s).isSome = true) (hd:P.underlying d = some (.int .u8)) (hx:ev fr x = some (.int k a)):Pu P n ⟨dst,.convert s d x,ty,pos,aft,g⟩ fr (.int .u8 ((UInt8.ofNat (a % 256).toNat).toNat:Int)):=by
 have:=Pu.conv (n:=n) (dst:=dst) (ty:=ty) (pos:=pos) (aft:=aft) (g:=g) hs hd hx
 rwa [wrap_u8] at this
theorem wrap8_id {a:Int} (h:0 ≤ a∧a < 256):IntKind.u8.wrap a = a:=by
 simp [IntKind.wrap,IntKind.bits,IntKind.signed]; omega
theorem bo8 (p q:UInt8):(BitVec.ofInt 8 (p.toNat:Int) ||| BitVec.ofInt 8 (q.toNat:Int)).toNat = (p ||| q).toNat:=by
 have e:∀ r:UInt8,BitVec.ofInt 8 (r.toNat:Int) = r.toBitVec:=fun r=>BitVec.eq_of_toNat_eq (by have:=r.toNat_lt; simp)
 rw [e,e]; rfl
theorem Pu.orB {p q:UInt8} (hx:ev fr x = some (.int .u8 (p.toNat:Int))) (hy:ev fr y = some (.int .u8 (q.toNat:Int))):Pu P n ⟨dst,.binOp .or xt x y yt,ty,pos,aft,g⟩ fr (.int .u8 ((p ||| q).toNat:Int)):=Pu.bin hx hy (by
 show some (Value.int .u8 (IntKind.u8.wrap ((BitVec.ofInt 8 (p.toNat:Int) ||| BitVec.ofInt 8 (q.toNat:Int)).toNat))) = _
 rw [bo8]
 have h:(p ||| q).toNat < 256:=(p ||| q).toNat_lt
 rw [wrap8_id (by omega)])
theorem bx64 (p q:UInt64):(BitVec.ofInt 64 (p.toNat:Int) ^^^ BitVec.ofInt 64 (q.toNat:Int)).toNat = (p ^^^ q).toNat:=by
 have e:∀ r:UInt64,BitVec.ofInt 64 (r.toNat:Int) = r.toBitVec:=fun r=>BitVec.eq_of_toNat_eq (by have:=r.toNat_lt; simp)
 rw [e,e]; rfl
theorem Pu.xorH {p q:UInt64} (hx:ev fr x = some (.int .u64 (p.toNat:Int))) (hy:ev fr y = some (.int .u64 (q.toNat:Int))):Pu P n ⟨dst,.binOp .xor xt x y yt,ty,pos,aft,g⟩ fr (.int .u64 ((p ^^^ q).toNat:Int)):=Pu.bin hx hy (by
 show some (Value.int .u64 (IntKind.u64.wrap ((BitVec.ofInt 64 (p.toNat:Int) ^^^ BitVec.ofInt 64 (q.toNat:Int)).toNat))) = _
 rw [bx64,wrap_uw,uw_id (by have:=(p ^^^ q).toNat_lt; omega)])
theorem Pu.mulH {p q:UInt64} (hx:ev fr x = some (.int .u64 (p.toNat:Int))) (hy:ev fr y = some (.int .u64 (q.toNat:Int))):Pu P n ⟨dst,.binOp .mul xt x y yt,ty,pos,aft,g⟩ fr (.int .u64 ((p * q).toNat:Int)):=Pu.bin hx hy (by
 show some (Value.int .u64 (IntKind.u64.wrap ((p.toNat:Int) * (q.toNat:Int)))) = _
 rw [wrap_uw]
 have:((p * q).toNat:Int) = uw ((p.toNat:Int) * (q.toNat:Int)):=by
  rw [UInt64.toNat_mul]
  unfold uw
  rw [← Int.natCast_mul]
  exact Int.natCast_emod _ _
 rw [this])
theorem Pu.convBH {s d:TypeId} {p:UInt8} (hs:(P.underlying s).isSome = true) (hd:P.underlying d = some (.int .u64)) (hx:ev fr x = some (.int .u8 (p.toNat:Int))):Pu P n ⟨dst,.convert s d x,ty,pos,aft,g⟩ fr (.int .u64 (p.toUInt64.toNat:Int)):=by
 have:=Pu.conv (n:=n) (dst:=dst) (ty:=ty) (pos:=pos) (aft:=aft) (g:=g) hs hd hx
 rw [wrap_uw,uw_id (by have:=p.toNat_lt; omega)] at this
 rw [UInt8.toNat_toUInt64]; exact this
theorem Pu.mulHc {p q:UInt64} {c:Int} (hx:ev fr x = some (.int .u64 (p.toNat:Int))) (hy:ev fr y = some (.int .u64 c)) (hc:(q.toNat:Int) = c):Pu P n ⟨dst,.binOp .mul xt x y yt,ty,pos,aft,g⟩ fr (.int .u64 ((p * q).toNat:Int)):=Pu.mulH hx (by rw [hy,hc])
theorem Pu.orBc {p q:UInt8} {c:Int} (hx:ev fr x = some (.int .u8 (p.toNat:Int))) (hy:ev fr y = some (.int .u8 c)) (hc:(q.toNat:Int) = c):Pu P n ⟨dst,.binOp .or xt x y yt,ty,pos,aft,g⟩ fr (.int .u8 ((p ||| q).toNat:Int)):=Pu.orB hx (by rw [hy,hc])
theorem Pu.shrHc {p q:UInt64} {kk:IntKind} {c:Int} (hx:ev fr x = some (.int .u64 (p.toNat:Int))) (hy:ev fr y = some (.int kk c)) (hc:(q.toNat:Int) = c) (hq:q.toNat < 64):Pu P n ⟨dst,.binOp .shr xt x y yt,ty,pos,aft,g⟩ fr (.int .u64 ((p >>> q).toNat:Int)):=by
 have h:=Pu.ushr (P:=P) (n:=n) (dst:=dst) (ty:=ty) (pos:=pos) (aft:=aft) (g:=g) (xt:=xt) (yt:=yt) hx hy (by omega)
 have e:((p >>> q).toNat:Int) = (p.toNat:Int) / 2 ^ c.toNat:=by
  rw [UInt64.toNat_shiftRight,Nat.mod_eq_of_lt hq,Nat.shiftRight_eq_div_pow,← hc,Int.toNat_natCast]
  exact Int.natCast_ediv _ _
 rw [e]; exact h
end
end Go.Vg
set_option linter.unusedVariables false
set_option linter.unusedSimpArgs false
set_option maxRecDepth 20000
set_option maxHeartbeats 4000000
namespace Go.Proofs.YtmngdgclldkcfaaGreat
open Go.Vg
open Enc (R)
theorem ent175:Ent Tryz.prog 175:=en Tryz.func175
theorem ent176:Ent Tryz.prog 176:=en Tryz.func176
theorem ent179:Ent Tryz.prog 179:=en Tryz.func179
theorem ent180:Ent Tryz.prog 180:=en Tryz.func180
theorem ent184:Ent Tryz.prog 184:=en Tryz.func184
theorem ent247:Ent Tryz.prog 247:=en Tryz.func247
theorem ent248:Ent Tryz.prog 248:=en Tryz.func248
theorem ent250:Ent Tryz.prog 250:=en Tryz.func250
theorem ent251:Ent Tryz.prog 251:=en Tryz.func251
theorem ent252:Ent Tryz.prog 252:=en Tryz.func252
theorem ent253:Ent Tryz.prog 253:=en Tryz.func253
theorem ent261:Ent Tryz.prog 261:=en Tryz.func261
theorem ent267:Ent Tryz.prog 267:=en Tryz.func267
theorem ent283:Ent Tryz.prog 283:=en Tryz.func283
theorem ent285:Ent Tryz.prog 285:=en Tryz.func285
theorem ent288:Ent Tryz.prog 288:=en Tryz.func288
theorem ent289:Ent Tryz.prog 289:=en Tryz.func289
theorem ent295:Ent Tryz.prog 295:=en Tryz.func295
instance fd328_0:FdC Tryz.prog 328 0 0:={}
instance fd328_1:FdC Tryz.prog 328 1 1:={}
instance fd33_0:FdC Tryz.prog 33 0 0:={}
instance fd33_1:FdC Tryz.prog 33 1 1:={}
instance fd54_4:FdC Tryz.prog 54 4 5:={}
instance fd54_5:FdC Tryz.prog 54 5 6:={}
instance fd54_6:FdC Tryz.prog 54 6 7:={}
instance fd54_8:FdC Tryz.prog 54 8 9:={}
theorem isadd321:isAdd64 Tryz.f321:=⟨by kernel_rfl,by kernel_rfl,by kernel_rfl,by kernel_rfl⟩
theorem st328:stTy Tryz.prog 328 = some ([.int .u64 0,.int .u64 0],[(0,1),(1,1)]):=by kernel_rfl
theorem st33:stTy Tryz.prog 33 = some ([.int .i64 0,.int .i64 0],[(0,1),(1,1)]):=by kernel_rfl
theorem st73:stTy Tryz.prog 73 = some ([.int .i64 0,.int .i64 0,.int .i64 0,.int .i64 0,.int .i64 0],[(0,1),(1,1),(2,1),(3,1),(4,1)]):=by kernel_rfl
instance ty112:TyC Tryz.prog 112 (1,false):={}
instance ty2:TyC Tryz.prog 2 (1,false):={}
instance ty328:TyC Tryz.prog 328 (2,true):={}
instance ty33:TyC Tryz.prog 33 (2,true):={}
instance ty54:TyC Tryz.prog 54 (10,true):={}
instance ty73:TyC Tryz.prog 73 (5,true):={}
theorem us112:(Tryz.prog.underlying 112).isSome = true:=by kernel_rfl
theorem us2:(Tryz.prog.underlying 2).isSome = true:=by kernel_rfl
theorem zr328:zeroOf Tryz.prog 328 = some (.agg #[.int .u64 0,.int .u64 0]):=by kernel_rfl
theorem zr33:zeroOf Tryz.prog 33 = some (.agg #[.int .i64 0,.int .i64 0]):=by kernel_rfl
theorem zr54:zeroOf Tryz.prog 54 = some (.agg #[.int .i64 0,.int .i64 0,.int .i64 0,.int .i64 0,.int .i64 0,.int .i64 0,.int .i64 0,.int .i64 0,.int .i64 0,.int .i64 0]):=by kernel_rfl
theorem zr73:zeroOf Tryz.prog 73 = some (.agg #[.int .i64 0,.int .i64 0,.int .i64 0,.int .i64 0,.int .i64 0]):=by kernel_rfl
def kind_May (a0_k:Int):Option Bool :=
  some (decide ((0 ≤ a0_k)∧(a0_k < 4)))
def kind_What (a0_k:Int):Option Knd :=
  if a0_k = 0 then
  some (⟨24576,16384,0,0,0⟩:Knd)
  else
  none
def fixed_Norm (a0_a:Int):Option Int :=
  some (max a0_a (-9223372036854775807))
def fixed_Abs (a0_a:Int):Option (Int × Bool) :=
  Option.bind (fixed_Norm a0_a) fun x1 =>
  if x1 < 0 then
  none
  else
  some ((x1 % 18446744073709551616),false)
def fixed_Neg (a0_a:Int):Option Int :=
  Option.bind (fixed_Norm a0_a) fun x1 =>
  if -9223372036854775807 ≤ x1∧x1 ≤ 9223372036854775807 then
  some (-x1)
  else none
def fixed_Add (a0_a:Int) (a1_b:Int):Option Int :=
  Option.bind (fixed_Norm a0_a) fun x1 =>
  Option.bind (fixed_Norm a1_b) fun x2 =>
  if (0 < x2)→(I64 (9223372036854775807 - x2)) then
  if (0 < x2)∧((9223372036854775807 - x2) < x1) then
  none
  else
  if (x2 < 0)→(I64 ((-9223372036854775807) - x2)) then
  if (x2 < 0)∧(x1 < ((-9223372036854775807) - x2)) then
  none
  else
  if I64 (x1 + x2) then
  some (x1 + x2)
  else none
  else none
  else none
def fixed_Sub (a0_a:Int) (a1_b:Int):Option Int :=
  Option.bind (fixed_Neg a1_b) fun x1 =>
  Option.bind (fixed_Add a0_a x1) fun x2 =>
  some x2
def bits_Mul64 (a0_x:Int) (a1_y:Int):Option (Int × Int) :=
  some ((uw ((uw ((uw ((a0_x / 2 ^ (32:Int).toNat) * (a1_y / 2 ^ (32:Int).toNat))) + ((uw ((uw ((a0_x / 2 ^ (32:Int).toNat) * (uand a1_y 4294967295))) + ((uw ((uand a0_x 4294967295) * (uand a1_y 4294967295))) / 2 ^ (32:Int).toNat))) / 2 ^ (32:Int).toNat))) + ((uw ((uand (uw ((uw ((a0_x / 2 ^ (32:Int).toNat) * (uand a1_y 4294967295))) + ((uw ((uand a0_x 4294967295) * (uand a1_y 4294967295))) / 2 ^ (32:Int).toNat))) 4294967295) + (uw ((uand a0_x 4294967295) * (a1_y / 2 ^ (32:Int).toNat))))) / 2 ^ (32:Int).toNat))),(uw (a0_x * a1_y)))
def fixed_Square (a0_a:Int):Option Wid :=
  Option.bind (bits_Mul64 a0_a a0_a) fun x2 =>
  some (⟨x2.1,x2.2⟩:Wid)
def fixed_Wide_Plus (a0_w:Wid) (a1_v:Wid):Option Wid :=
  if 0 ≤ a0_w.lo∧0 ≤ a1_v.lo∧0 ≤ (0:Int)∧(0:Int) ≤ 1 then
  if 0 ≤ a0_w.hi∧0 ≤ a1_v.hi∧0 ≤ ((a0_w.lo + a1_v.lo + (0:Int)) / 18446744073709551616)∧((a0_w.lo + a1_v.lo + (0:Int)) / 18446744073709551616) ≤ 1 then
  some (⟨((a0_w.hi + a1_v.hi + ((a0_w.lo + a1_v.lo + (0:Int)) / 18446744073709551616)) % 18446744073709551616),((a0_w.lo + a1_v.lo + (0:Int)) % 18446744073709551616)⟩:Wid)
  else none
  else none
def fixed_Wide_Below (a0_w:Wid) (a1_v:Wid):Option Bool :=
  some (decide ((a0_w.hi < a1_v.hi) ∨ ((a0_w.hi = a1_v.hi)∧(a0_w.lo < a1_v.lo))))
def fixed_Wide_Root (a0_w:Wid):Option Int :=
  Option.bind (α:=Int) (loop (σ:=Int × Int) (β:=Int) (fun (v5,v6) =>
  if 0 ≤ v6 then
  if 0 ≤ v6∧v6 ≤ 64 then
  Option.bind (fixed_Square (uor v5 (uw ((1:Int) * 2 ^ v6.toNat)))) fun x10 =>
  Option.bind (fixed_Wide_Below a0_w x10) fun x11 =>
  if (!x11) = true then
  none
  else
  if I64 (v6 - 1) then
  some (St.next (v5,(v6 - 1)))
  else none
  else none
  else
  some (St.done v5)) (0,62)) fun v3 =>
  if I64 v3 then
  some v3
  else none
def vec_Norm (a0_v:Vec):Option Vec :=
  Option.bind (fixed_Norm a0_v.x) fun x3 =>
  Option.bind (fixed_Norm a0_v.y) fun x4 =>
  some (⟨x3,x4⟩:Vec)
def vec_Sub (a0_a:Vec) (a1_b:Vec):Option Vec :=
  Option.bind (fixed_Sub a0_a.x a1_b.x) fun x4 =>
  Option.bind (fixed_Sub a0_a.y a1_b.y) fun x5 =>
  some (⟨x4,x5⟩:Vec)
def vec_square (a0_v:Vec):Option Wid :=
  Option.bind (fixed_Abs a0_v.x) fun x3 =>
  Option.bind (fixed_Abs a0_v.y) fun x4 =>
  Option.bind (fixed_Square x3.1) fun x5 =>
  Option.bind (fixed_Square x4.1) fun x6 =>
  Option.bind (fixed_Wide_Plus x5 x6) fun x7 =>
  some x7
def vec_Len (a0_v:Vec):Option Int :=
  Option.bind (vec_square a0_v) fun x2 =>
  Option.bind (fixed_Wide_Root x2) fun x3 =>
  some x3
def vec_Within (a0_a:Vec) (a1_b:Vec) (a2_r:Int):Option Bool :=
  if a2_r ≤ 0 then
  none
  else
  Option.bind (vec_Sub a0_a a1_b) fun x4 =>
  Option.bind (vec_square x4) fun x5 =>
  Option.bind (fixed_Square (a2_r % 18446744073709551616)) fun x6 =>
  Option.bind (fixed_Wide_Below x5 x6) fun x7 =>
  some x7
def vec_Clamp (a0_v:Vec) (a1_most:Int):Option Vec :=
  Option.bind (vec_Norm a0_v) fun x3 =>
  Option.bind (vec_Len x3) fun x4 =>
  if x4 ≤ (max a1_most 0) then
  some x3
  else
  none
def disc_Place (a0_p:Vec):Option Bool :=
  some (decide (((((-1099511627776) ≤ a0_p.x)∧(a0_p.x ≤ 1099511627776))∧((-1099511627776) ≤ a0_p.y))∧(a0_p.y ≤ 1099511627776)))
def disc_form (a0_p:Vec) (a1_r:Int):Option Bool :=
  Option.bind (if (0 ≤ a1_r)∧(a1_r ≤ 262144) then
  Option.bind (disc_Place a0_p) fun x8 =>
  some x8
  else
  some false) fun b6 =>
  some b6
def disc_round (a0_r:Int):Option Int :=
  some (min (max a0_r 0) 262144)
def disc_Hits (a0_g:Grd) (a1_t:Int) (a2_p:Vec) (a3_r:Int):Option Bool :=
  none
def disc_Fits (a0_g:Grd) (a1_open:List Bool) (a2_p:Vec) (a3_r:Int):Option Bool :=
  if I64 (a0_g.w * 65536) then
  if I64 (a0_g.h * 65536) then
  Option.bind (disc_form a2_p a3_r) fun x5 =>
  if ¬ ((!x5) = true)→(I64 (a2_p.x - a3_r)) then
  if ¬ (((!x5) = true) ∨ ((a2_p.x - a3_r) < 0))→(I64 (a2_p.x + a3_r)) then
  if ¬ ((((!x5) = true) ∨ ((a2_p.x - a3_r) < 0)) ∨ ((a0_g.w * 65536) < (a2_p.x + a3_r)))→(I64 (a2_p.y - a3_r)) then
  if ¬ (((((!x5) = true) ∨ ((a2_p.x - a3_r) < 0)) ∨ ((a0_g.w * 65536) < (a2_p.x + a3_r))) ∨ ((a2_p.y - a3_r) < 0))→(I64 (a2_p.y + a3_r)) then
  if (((((!x5) = true) ∨ ((a2_p.x - a3_r) < 0)) ∨ ((a0_g.w * 65536) < (a2_p.x + a3_r))) ∨ ((a2_p.y - a3_r) < 0)) ∨ ((a0_g.h * 65536) < (a2_p.y + a3_r)) then
  none
  else
  if I64 (a2_p.y - a3_r) then
  if 0 ≤ (a2_p.y - a3_r)∧(a2_p.y - a3_r) ≤ 9223372036854775807 then
  Option.bind (α:=Ex (Unit) (Bool)) (loop (σ:=Int) (β:=Ex (Unit) (Bool)) (fun v22 =>
  if I64 (a2_p.y + a3_r) then
  if 0 ≤ (a2_p.y + a3_r)∧(a2_p.y + a3_r) ≤ 9223372036854775807 then
  if (v22 ≤ ((a2_p.y + a3_r) / 65536))∧(v22 < a0_g.h) then
  if I64 (a2_p.x - a3_r) then
  if 0 ≤ (a2_p.x - a3_r)∧(a2_p.x - a3_r) ≤ 9223372036854775807 then
  Option.bind (α:=Ex (Unit) (St (Int) (Ex (Unit) (Bool)))) (loop (σ:=Int) (β:=Ex (Unit) (St (Int) (Ex (Unit) (Bool)))) (fun v33 =>
  if I64 (a2_p.x + a3_r) then
  if 0 ≤ (a2_p.x + a3_r)∧(a2_p.x + a3_r) ≤ 9223372036854775807 then
  if (v33 ≤ ((a2_p.x + a3_r) / 65536))∧(v33 < a0_g.w) then
  if I64 (a0_g.w * v22) then
  if I64 (v33 + (a0_g.w * v22)) then
  if 0 ≤ (v33 + (a0_g.w * v22))∧(v33 + (a0_g.w * v22)) < (a1_open.length:Int) then
  Option.bind (if (!(gi a1_open (v33 + (a0_g.w * v22)))) = true then
  Option.bind (disc_Hits a0_g (v33 + (a0_g.w * v22)) a2_p a3_r) fun x51 =>
  some x51
  else
  some false) fun b47 =>
  if b47 = true then
  none
  else
  if I64 (v33 + 1) then
  some (St.next (v33 + 1))
  else none
  else none
  else none
  else none
  else
  some (St.done (Ex.go ()))
  else none
  else none) ((a2_p.x - a3_r) / 65536)) fun x=>x.then fun _ =>
  if I64 (v22 + 1) then
  some (St.next (v22 + 1))
  else none
  else none
  else none
  else
  some (St.done (Ex.go ()))
  else none
  else none) ((a2_p.y - a3_r) / 65536)) fun x=>x.then fun _ =>
  some true
  else none
  else none
  else none
  else none
  else none
  else none
  else none
  else none
def disc_Apart (a0_p:Vec) (a1_r:Int) (a2_q:Vec) (a3_s:Int):Option Bool :=
  Option.bind (disc_round a1_r) fun x3 =>
  Option.bind (disc_round a3_s) fun x4 =>
  if I64 (x3 + x4) then
  Option.bind (vec_Within a0_p a2_q (x3 + x4)) fun x6 =>
  some (!x6)
  else none
def command_units (a0_l:List Int):Option Bool :=
  Option.bind (α:=Ex (Unit) (Bool)) (loop (σ:=Int) (β:=Ex (Unit) (Bool)) (fun v4 =>
  if v4 < (a0_l.length:Int) then
  if 0 ≤ v4∧v4 < (a0_l.length:Int) then
  if ¬ (((gi a0_l v4) < 1) ∨ (1099511627776 < (gi a0_l v4)))→((0 < v4)→(I64 (v4 - 1))) then
  if ¬ (((gi a0_l v4) < 1) ∨ (1099511627776 < (gi a0_l v4)))→((0 < v4)→(0 ≤ (v4 - 1)∧(v4 - 1) < (a0_l.length:Int))) then
  if (((gi a0_l v4) < 1) ∨ (1099511627776 < (gi a0_l v4))) ∨ ((0 < v4)∧((gi a0_l v4) ≤ (gi a0_l (v4 - 1)))) then
  some (St.done (Ex.up false))
  else
  if I64 (v4 + 1) then
  some (St.next (v4 + 1))
  else none
  else none
  else none
  else none
  else
  some (St.done (Ex.go ()))) 0) fun x=>x.then fun _ =>
  some (decide ((1 ≤ (a0_l.length:Int))∧((a0_l.length:Int) ≤ 64)))
def command_within (a0_n:Int) (a1_least:Int) (a2_most:Int):Option Bool :=
  some (decide ((a1_least ≤ a0_n)∧(a0_n ≤ a2_most)))
def apply_rest (a0_u:Unt):Option Unt :=
  some (⟨a0_u.id,a0_u.owner,a0_u.kind,a0_u.pos,(-1),(-1),0,a0_u.inn,0⟩:Unt)
end Go.Proofs.YtmngdgclldkcfaaGreat
set_option linter.unusedVariables false
set_option linter.unusedSimpArgs false
set_option maxRecDepth 20000
set_option maxHeartbeats 4000000
namespace Go.Proofs.YtmngdgclldkcfaaGreat
open Go.Vg
open Enc (R)
instance sl50:SlC Tryz.prog 50 (54,10,80):={}
theorem usl50:Tryz.prog.underlying 50 = some (.slice 54):=by kernel_rfl
theorem cloneUnt_calls_nil {l:List Unt} {n c:Nat} (w:World) (hA:R (hpOf w) l [.slice none n c]):Calls Tryz.prog 75 #[.slice none n c] w fun e w'=>∃ q:Option Nat × Nat,e = .returned (rowV q l.length)∧Sat w [row nilH 54 (rowV q l.length) l] w':=by
 refine T.enter (args:=[.slice none n c]) (S:=Sat w []) Tryz.func75 rfl rfl (Sat.start w) ?_
 refine au 2 ?_
 refine T.seq fun _ k2=>T.seq fun _ k3=>T.region (rM rfl (rp (Pu.eqNilSl usl50 rfl) (RS.nil (k3 _ _ ?_))))
 refine T.cond rfl (fun hc4=>?_) (fun hc4=>?_)
 ·refine kq [] ?_
  refine au 2 ?_
  refine T.retTo (by with_reducible ((repeat (first | apply RetTo.seq | apply RetTo.blk)); exact RetTo.refl _)) (Cont.ret1 rfl rfl fun w' s=>?_)
  have hl0:l = []:=by
   obtain ⟨p',c',e',s1,s2,s3⟩:=hA
   simp only [List.cons.injEq,Value.slice.injEq,and_true] at e'
   obtain ⟨rfl,rfl,rfl⟩:=e'
   rcases s3 with h | ⟨b,o,cs,h,_⟩
   ·exact h
   cases h
  subst hl0
  exact ⟨(none,0),rfl,s.addEmpty _ (fun p=>.inl ⟨rfl,rfl⟩)⟩
 exact absurd hc4 (by simp) -- end
theorem cloneUnt_calls_some {l:List Unt} {a:Addr} {n c:Nat} (hsz:n < 1099511627776) (w:World) (hA:R (hpOf w) l [.slice (some a) n c]):Calls Tryz.prog 75 #[.slice (some a) n c] w fun e w'=>∃ q:Option Nat × Nat,e = .returned (rowV q l.length)∧Sat w [row nilH 54 (rowV q l.length) l] w':=by
 refine T.enter (args:=[.slice (some a) n c]) (S:=Sat w []) Tryz.func75 rfl rfl (Sat.start w) ?_
 refine au 2 ?_
 refine T.seq fun _ k2=>T.seq fun _ k3=>T.region (rM rfl (rp (Pu.eqNilSl usl50 rfl) (RS.nil (k3 _ _ ?_))))
 refine T.cond rfl (fun hc4=>?_) (fun hc4=>?_)
 ·exact absurd hc4 (by simp) -- end
 refine T.skip (k2 _ _ (kq [0] ?_))
 refine T.seq fun _ k4=>T.region (RS.solid (Sd.lit0 (α:=Unt) (B:=nilH) sl50.h) rfl rfl fun b5=>rM rfl (RS.solid (Sd.appB (α:=Unt) 0 (nilH_lt _) rfl sl50.h zr54 rfl rfl rfl hA (by simp only [List.length_nil]; omega) (by simp only [List.length_nil]; unfold maxLen; omega)) rfl rfl fun q7=>rA rfl (RS.nil (k4 _ _ (kq [2] ?_)))))
 refine T.retTo (by with_reducible ((repeat (first | apply RetTo.seq | apply RetTo.blk)); exact RetTo.refl _)) (Cont.ret1 rfl rfl fun w' s=>?_)
 have hn:n = l.length:=(R_len hA).1
 simp only [List.length_nil,Nat.zero_add,List.nil_append] at s
 subst hn
 exact ⟨q7,by simp,s.pick (G':=[_]) [0] (by decide) rfl⟩
theorem cloneUnt_calls {l:List Unt} {v:Value} (hsz:l.length < 1099511627776) (w:World) (hA:R (hpOf w) l [v]):Calls Tryz.prog 75 #[v] w fun e w'=>∃ q:Option Nat × Nat,e = .returned (rowV q l.length)∧Sat w [row nilH 54 (rowV q l.length) l] w':=by
 obtain ⟨p,c,rfl⟩:=R_form hA
 cases p with
 | none=>exact cloneUnt_calls_nil w hA
 | some a=>exact cloneUnt_calls_some hsz w hA
def slices_Clone_Unt (l:List Unt):Option (List Unt):=if l.length < 1099511627776 then some l else none
theorem slices_Clone_Unt_walk (l:List Unt) (w:World) {v0:Value} (h0:R (hpOf w) l [v0]) {r:List Unt} (H:slices_Clone_Unt l = some r):Calls Tryz.prog 75 #[v0] w fun e w'=>∃ g:(Option Nat × Nat),e = .returned (rowV g r.length)∧Sat w [row nilH 54 (rowV g r.length) r] w':=by
 unfold slices_Clone_Unt at H
 obtain ⟨h1,H⟩:=gdE H
 obtain rfl:=sj H
 exact cloneUnt_calls h1 w h0
end Go.Proofs.YtmngdgclldkcfaaGreat
set_option linter.unusedVariables false
set_option linter.unusedSimpArgs false
set_option maxRecDepth 20000
set_option maxHeartbeats 4000000
namespace Go.Proofs.YtmngdgclldkcfaaGreat
open Go.Vg
open Enc (R)
end Go.Proofs.YtmngdgclldkcfaaGreat
