import Derived.Test.YtpanhdnglicknaaGreatHwA
set_option linter.unusedSimpArgs false
set_option linter.unusedVariables false
namespace Go.Proofs.YtpanhdnglicknaaGreat.Hw
open Go
def vB(b:Bool):Value := .bool b
def vI(n:Int):Value := .int .i64 n
def vW(n:UInt64):Value := .int .u64 (n.toNat:Int)
def vD(n:UInt32):Value := .int .u32 (n.toNat:Int)
def vH(n:UInt16):Value := .int .u16 (n.toNat:Int)
def vY(n:UInt8):Value := .int .u8 (n.toNat:Int)
abbrev Str:=List UInt8
def vS(s:Str):Value := .string ⟨s.toArray⟩
abbrev pt(b off:Nat):Value := .pointer (some ⟨b,off,none⟩)
abbrev nl:Value := .pointer none
def i64(n:Int):Int:=(n+9223372036854775808)%18446744073709551616-9223372036854775808
theorem i64_id{n:Int}(h : -9223372036854775808≤n)(h':n<9223372036854775808):i64 n=n:=by unfold i64;omega
def toW(n:Int):UInt64:=UInt64.ofNat (n%18446744073709551616).toNat
def toY(n:Int):UInt8:=UInt8.ofNat (n%256).toNat
def Bop(P:Program)(op:BinOp)(t:TypeId)(a b v:Value):Prop :=
 ∀(x y:Operand) (w:World),(do eqGuard op t x y a b;binOp op t a b:Sem Value).run P w = .ok v w
section
variable {P:Program} {t:TypeId}
theorem bI_add(a b:Int):Bop P .add t (vI a) (vI b) (vI (i64 (a+b))):=fun _ _ _=>by simp [vI,i64,eqGuard,binOp,Op.intArith,IntKind.wrap_i64]
theorem bI_sub(a b:Int):Bop P .sub t (vI a) (vI b) (vI (i64 (a-b))):=fun _ _ _=>by simp [vI,i64,eqGuard,binOp,Op.intArith,IntKind.wrap_i64]
theorem bI_mul(a b:Int):Bop P .mul t (vI a) (vI b) (vI (i64 (a*b))):=fun _ _ _=>by simp [vI,i64,eqGuard,binOp,Op.intArith,IntKind.wrap_i64]
theorem bI_quo(a b:Int)(h:b≠0):Bop P .quo t (vI a) (vI b) (vI (i64 (a.tdiv b))):=fun _ _ _=>by simp [vI,i64,eqGuard,binOp,Op.intDiv,IntKind.wrap_i64,h]
theorem bI_eq(a b:Int):Bop P .eql t (vI a) (vI b) (vB (a==b)):=fun _ _ _=>by simp [vI,vB,eqGuard,binOp,Op.intCmp]
theorem bI_ne(a b:Int):Bop P .neq t (vI a) (vI b) (vB (a != b)):=fun _ _ _=>by simp [vI,vB,eqGuard,binOp,Op.intCmp]
theorem bI_lt(a b:Int):Bop P .lss t (vI a) (vI b) (vB (decide (a<b))):=fun _ _ _=>by simp [vI,vB,eqGuard,binOp,Op.intCmp]
theorem bI_le(a b:Int):Bop P .leq t (vI a) (vI b) (vB (decide (a≤b))):=fun _ _ _=>by simp [vI,vB,eqGuard,binOp,Op.intCmp]
theorem bI_gt(a b:Int):Bop P .gtr t (vI a) (vI b) (vB (decide (b<a))):=fun _ _ _=>by simp [vI,vB,eqGuard,binOp,Op.intCmp]
theorem bI_ge(a b:Int):Bop P .geq t (vI a) (vI b) (vB (decide (b≤a))):=fun _ _ _=>by simp [vI,vB,eqGuard,binOp,Op.intCmp]
theorem ofInt_bits(k n:Nat)(h:n<2^k):BitVec.ofInt k (n:Int)=BitVec.ofNat k n:=by
 apply BitVec.eq_of_toNat_eq
 simp only [BitVec.toNat_ofInt,BitVec.toNat_ofNat]
 rw [←Int.natCast_emod,Int.toNat_natCast]
theorem wrapW(n:Nat):IntKind.wrap .u64 (n:Int)=((UInt64.ofNat n).toNat:Int):=by
 rw [IntKind.wrap_u64,UInt64.toNat_ofNat'];simp
theorem bW_add(a b:UInt64):Bop P .add t (vW a) (vW b) (vW (a+b)):=fun _ _ _=>by
 have:IntKind.wrap .u64 ((a.toNat:Int)+b.toNat)=((a+b).toNat:Int):=by rw [IntKind.wrap_u64,UInt64.toNat_add];omega
 simp [vW,eqGuard,binOp,Op.intArith,this]
theorem bW_sub(a b:UInt64):Bop P .sub t (vW a) (vW b) (vW (a-b)):=fun _ _ _=>by
 have:IntKind.wrap .u64 ((a.toNat:Int)-b.toNat)=((a-b).toNat:Int):=by
  rw [IntKind.wrap_u64,UInt64.toNat_sub];have:=a.toNat_lt;have:=b.toNat_lt;omega
 simp [vW,eqGuard,binOp,Op.intArith,this]
theorem bW_mul(a b:UInt64):Bop P .mul t (vW a) (vW b) (vW (a*b)):=fun _ _ _=>by
 have:IntKind.wrap .u64 ((a.toNat:Int)*b.toNat)=((a*b).toNat:Int):=by
  rw [IntKind.wrap_u64,UInt64.toNat_mul,←Int.natCast_mul];omega
 simp [vW,eqGuard,binOp,Op.intArith,this]
theorem bW_quo(a b:UInt64)(h:b≠0):Bop P .quo t (vW a) (vW b) (vW (a/b)):=fun _ _ _=>by
 have hb:(b.toNat:Int)≠0:=by intro e;apply h;apply UInt64.toNat_inj.1;simpa using e
 have:IntKind.wrap .u64 ((a.toNat:Int).tdiv b.toNat)=((a/b).toNat:Int):=by
  rw [IntKind.wrap_u64,UInt64.toNat_div,Int.tdiv_eq_ediv_of_nonneg (by omega),←Int.natCast_ediv]
  have:=Nat.div_le_self a.toNat b.toNat;have:=a.toNat_lt
  generalize a.toNat/b.toNat=q at *;omega
 simp only [vW,eqGuard,binOp,Op.intDiv,if_neg hb,this]
 rfl
theorem bW_rem(a b:UInt64)(h:b≠0):Bop P .rem t (vW a) (vW b) (vW (a%b)):=fun _ _ _=>by
 have hb:(b.toNat:Int)≠0:=by intro e;apply h;apply UInt64.toNat_inj.1;simpa using e
 have:(a.toNat:Int).tmod b.toNat=((a%b).toNat:Int):=by
  rw [UInt64.toNat_mod,Int.tmod_eq_emod_of_nonneg (by omega),←Int.natCast_emod]
 simp only [vW,eqGuard,binOp,Op.intDiv,if_neg hb,this]
 rfl
theorem ofIntW(a:UInt64):BitVec.ofInt 64 (a.toNat:Int)=a.toBitVec:=by
 rw [ofInt_bits 64 _ a.toNat_lt];apply BitVec.eq_of_toNat_eq;simp
theorem bW_and(a b:UInt64):Bop P .and t (vW a) (vW b) (vW (a &&& b)):=fun _ _ _=>by
 have:IntKind.wrap .u64 (((a.toBitVec &&& b.toBitVec).toNat:Nat):Int)=((a &&& b).toNat:Int):=by
  rw [wrapW];simp
 simp [vW,eqGuard,binOp,Op.intBits,IntKind.bits,ofIntW] at this ⊢;exact this
theorem bW_or(a b:UInt64):Bop P .or t (vW a) (vW b) (vW (a ||| b)):=fun _ _ _=>by
 have:IntKind.wrap .u64 (((a.toBitVec ||| b.toBitVec).toNat:Nat):Int)=((a ||| b).toNat:Int):=by
  rw [wrapW];simp
 simp [vW,eqGuard,binOp,Op.intBits,IntKind.bits,ofIntW] at this ⊢;exact this
theorem bW_xor(a b:UInt64):Bop P .xor t (vW a) (vW b) (vW (a ^^^ b)):=fun _ _ _=>by
 have:IntKind.wrap .u64 (((a.toBitVec ^^^ b.toBitVec).toNat:Nat):Int)=((a ^^^ b).toNat:Int):=by
  rw [wrapW];simp
 simp [vW,eqGuard,binOp,Op.intBits,IntKind.bits,ofIntW] at this ⊢;exact this
theorem natInt_beq(a b:Nat):((a:Int)==(b:Int))=(a==b):=by
 rw [Bool.eq_iff_iff,beq_iff_eq,beq_iff_eq];omega
theorem beqW(a b:UInt64):((a.toNat:Int)==b.toNat)=(a==b):=by
 rw [natInt_beq,Bool.eq_iff_iff,beq_iff_eq,beq_iff_eq];exact UInt64.toNat_inj
theorem bW_eq(a b:UInt64):Bop P .eql t (vW a) (vW b) (vB (a==b)):=fun _ _ _=>by
 simp only [vW,vB,eqGuard,binOp,Op.intCmp,beqW];rfl
theorem bW_ne(a b:UInt64):Bop P .neq t (vW a) (vW b) (vB (a != b)):=fun _ _ _=>by
 simp only [vW,vB,eqGuard,binOp,Op.intCmp,bne,beqW];rfl
theorem bW_lt(a b:UInt64):Bop P .lss t (vW a) (vW b) (vB (decide (a<b))):=fun _ _ _=>by simp [vW,vB,eqGuard,binOp,Op.intCmp,UInt64.lt_iff_toNat_lt]
theorem bW_le(a b:UInt64):Bop P .leq t (vW a) (vW b) (vB (decide (a≤b))):=fun _ _ _=>by simp [vW,vB,eqGuard,binOp,Op.intCmp,UInt64.le_iff_toNat_le]
theorem bW_gt(a b:UInt64):Bop P .gtr t (vW a) (vW b) (vB (decide (b<a))):=fun _ _ _=>by simp [vW,vB,eqGuard,binOp,Op.intCmp,UInt64.lt_iff_toNat_lt]
theorem bW_ge(a b:UInt64):Bop P .geq t (vW a) (vW b) (vB (decide (b≤a))):=fun _ _ _=>by simp [vW,vB,eqGuard,binOp,Op.intCmp,UInt64.le_iff_toNat_le]
theorem beqD(a b:UInt32):((a.toNat:Int)==b.toNat)=(a==b):=by
 rw [natInt_beq,Bool.eq_iff_iff,beq_iff_eq,beq_iff_eq];exact UInt32.toNat_inj
theorem beqH(a b:UInt16):((a.toNat:Int)==b.toNat)=(a==b):=by
 rw [natInt_beq,Bool.eq_iff_iff,beq_iff_eq,beq_iff_eq];exact UInt16.toNat_inj
theorem bY_add(a b:UInt8):Bop P .add t (vY a) (vY b) (vY (a+b)):=fun _ _ _=>by
 have:IntKind.wrap .u8 ((a.toNat:Int)+b.toNat)=((a+b).toNat:Int):=by rw [IntKind.wrap_u8,UInt8.toNat_add];omega
 simp [vY,eqGuard,binOp,Op.intArith,this]
theorem bY_quo(a b:UInt8)(h:b≠0):Bop P .quo t (vY a) (vY b) (vY (a/b)):=fun _ _ _=>by
 have hb:(b.toNat:Int)≠0:=by intro e;apply h;apply UInt8.toNat_inj.1;simpa using e
 have:IntKind.wrap .u8 ((a.toNat:Int).tdiv b.toNat)=((a/b).toNat:Int):=by
  rw [IntKind.wrap_u8,UInt8.toNat_div,Int.tdiv_eq_ediv_of_nonneg (by omega),←Int.natCast_ediv]
  have:=Nat.div_le_self a.toNat b.toNat;have:=a.toNat_lt
  generalize a.toNat/b.toNat=q at *;omega
 simp only [vY,eqGuard,binOp,Op.intDiv,if_neg hb,this]
 rfl
theorem beqY(a b:UInt8):((a.toNat:Int)==b.toNat)=(a==b):=by
 rw [natInt_beq,Bool.eq_iff_iff,beq_iff_eq,beq_iff_eq];exact UInt8.toNat_inj
theorem bY_eq(a b:UInt8):Bop P .eql t (vY a) (vY b) (vB (a==b)):=fun _ _ _=>by
 simp only [vY,vB,eqGuard,binOp,Op.intCmp,beqY];rfl
theorem bY_lt(a b:UInt8):Bop P .lss t (vY a) (vY b) (vB (decide (a<b))):=fun _ _ _=>by simp [vY,vB,eqGuard,binOp,Op.intCmp,UInt8.lt_iff_toNat_lt]
theorem pointee_of{e:Nat}(h:P.underlying t=some (.pointer e)):P.underlying t=some (.pointer (P.pointee t)):=by
 unfold Program.pointee;rw [h]
theorem bP_eqp{e b o:Nat}(h:P.underlying t=some (.pointer e)):Bop P .eql t (pt b o) nl (vB false):=fun x y w=>by
 have:=run_eql_pointer_nil (P:=P) w t (some ⟨b,o,none⟩) (pointee_of h)
 simp [vB,eqGuard,this]
theorem bP_nep{e b o:Nat}(h:P.underlying t=some (.pointer e)):Bop P .neq t (pt b o) nl (vB true):=fun x y w=>by
 have:=run_neq_pointer_nil (P:=P) w t (some ⟨b,o,none⟩) (pointee_of h)
 simp [vB,eqGuard,this]
theorem bP_eqn{e:Nat}(h:P.underlying t=some (.pointer e)):Bop P .eql t nl nl (vB true):=fun x y w=>by
 have:=run_eql_pointer_nil (P:=P) w t none (pointee_of h)
 simp [vB,eqGuard,this]
def maxS:Nat:=9223372036854775807
def slt(a b:Str):Bool:=Op.bytesLess a b
theorem bS_add(a b:Str)(h:a.length+b.length≤maxS):Bop P .add t (vS a) (vS b) (vS (a++b)):=fun x y w=>by
 have hs:¬(((⟨a.toArray⟩:ByteArray).size+(⟨b.toArray⟩:ByteArray).size:Nat):Int)>IntKind.i64.max:=by
  have e1:(⟨a.toArray⟩:ByteArray).size=a.length:=by simp [ByteArray.size]
  have e2:(⟨b.toArray⟩:ByteArray).size=b.length:=by simp [ByteArray.size]
  rw [e1,e2]
  have:IntKind.i64.max=9223372036854775807:=by decide
  rw [this];unfold maxS at h;omega
 have he:(⟨a.toArray⟩:ByteArray)++⟨b.toArray⟩=⟨(a++b).toArray⟩:=by
  apply ByteArray.ext;simp
 simp only [vS,eqGuard,binOp,Op.stringOp,if_neg hs,he]
 rfl
theorem bS_eq(a b:Str):Bop P .eql t (vS a) (vS b) (vB (a==b)):=fun x y w=>by simp [vS,vB,eqGuard,binOp,Op.stringOp]
theorem bS_ne(a b:Str):Bop P .neq t (vS a) (vS b) (vB (a != b)):=fun x y w=>by simp [vS,vB,eqGuard,binOp,Op.stringOp,bne]
theorem bS_ge(a b:Str):Bop P .geq t (vS a) (vS b) (vB (!slt a b)):=fun x y w=>by simp [vS,vB,eqGuard,binOp,Op.stringOp,slt]
end
end Go.Proofs.YtpanhdnglicknaaGreat.Hw
