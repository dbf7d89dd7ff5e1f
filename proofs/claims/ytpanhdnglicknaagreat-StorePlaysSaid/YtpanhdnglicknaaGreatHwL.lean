import Derived.Test.YtpanhdnglicknaaGreatHwK
set_option linter.unusedSimpArgs false
set_option linter.unusedVariables false
namespace Go.Proofs.YtpanhdnglicknaaGreat.Hw
open Go
section
variable {P:Program} {t:TypeId}
def shWl(a:UInt64)(n:Int):UInt64:=UInt64.ofNat (a.toNat*2^min n.toNat 64)
def shWr(a:UInt64)(n:Int):UInt64:=UInt64.ofNat (a.toNat/2^min n.toNat 64)
theorem wWl(a:UInt64)(n:Nat):IntKind.wrap .u64 ((a.toNat:Int)*2^n)=((UInt64.ofNat (a.toNat*2^n)).toNat:Int):=by
 have e:(a.toNat:Int)*2^n=((a.toNat*2^n:Nat):Int):=by simp
 rw [e,UInt64.toNat_ofNat']
 simp [IntKind.wrap,IntKind.bits,IntKind.signed]
theorem wWr(a:UInt64)(n:Nat):((a.toNat:Int).fdiv (2^n))=((UInt64.ofNat (a.toNat/2^n)).toNat:Int):=by
 have h:a.toNat/2^n<2^64:=Nat.lt_of_le_of_lt (Nat.div_le_self _ _) a.toNat_lt
 have e:(a.toNat:Int).fdiv (2^n)=((a.toNat/2^n:Nat):Int):=by
  rw [Int.fdiv_eq_ediv_of_nonneg _ (Int.le_of_lt (Int.pow_pos (by decide)))]
  simp
 rw [e,UInt64.toNat_ofNat',Nat.mod_eq_of_lt h]
theorem bWW_shl(a:UInt64)(b:UInt64):Bop P .shl t (vW a) (vW b) (vW (shWl a (b.toNat:Int))):=fun _ _ _=>by
 have h2:¬((b.toNat:Int)<0):=by omega
 simp [vW,vW,eqGuard,binOp,Op.shift,h2,shWl,IntKind.bits,wWl]
theorem bWW_shr(a:UInt64)(b:UInt64):Bop P .shr t (vW a) (vW b) (vW (shWr a (b.toNat:Int))):=fun _ _ _=>by
 have h2:¬((b.toNat:Int)<0):=by omega
 simp [vW,vW,eqGuard,binOp,Op.shift,h2,shWr,IntKind.bits,wWr]
end
section
variable {x:Cx} {E:Env} {R:PH} {L:List HP} {ty:TypeId} {y z:Operand} {ats:Array TypeId}
theorem o_minI{a b:Int}(hy:ev E y=some (vI a))(hz:ev E z=some (vI b)):OV x (.call ⟨.builtin .min,#[y,z],ats⟩) ty E R L (vI (if b<a then b else a)) :=
 ou_of fun _ _ _ _ ac w hf hs=>⟨w,by
  have hr:(Builtin.min_ ats ty #[vI a,vI b]).run x.P w = .ok (vI (if b<a then b else a)) w:=by
   by_cases h:b<a
   ·have h':=h
    skip
    simp [Builtin.min_,Builtin.min2,vI,h,h']
   ·have h':=h
    skip
    simp [Builtin.min_,Builtin.min2,vI,h,h']
    try omega
  simp [execOp,resolve,hf.ev hy,hf.ev hz,invoke,builtin,hr],hs⟩
theorem o_maxI{a b:Int}(hy:ev E y=some (vI a))(hz:ev E z=some (vI b)):OV x (.call ⟨.builtin .max,#[y,z],ats⟩) ty E R L (vI (if a<b then b else a)) :=
 ou_of fun _ _ _ _ ac w hf hs=>⟨w,by
  have hr:(Builtin.max_ ats ty #[vI a,vI b]).run x.P w = .ok (vI (if a<b then b else a)) w:=by
   by_cases h:a<b
   ·have h':=h
    skip
    simp [Builtin.max_,Builtin.max2,vI,h,h']
   ·have h':=h
    skip
    simp [Builtin.max_,Builtin.max2,vI,h,h']
    try omega
  simp [execOp,resolve,hf.ev hy,hf.ev hz,invoke,builtin,hr],hs⟩
theorem o_minW{a b:UInt64}(hy:ev E y=some (vW a))(hz:ev E z=some (vW b)):OV x (.call ⟨.builtin .min,#[y,z],ats⟩) ty E R L (vW (if b<a then b else a)) :=
 ou_of fun _ _ _ _ ac w hf hs=>⟨w,by
  have hr:(Builtin.min_ ats ty #[vW a,vW b]).run x.P w = .ok (vW (if b<a then b else a)) w:=by
   by_cases h:b<a
   ·have h':=h
    rw [UInt64.lt_iff_toNat_lt] at h'
    simp [Builtin.min_,Builtin.min2,vW,h,h']
   ·have h':=h
    rw [UInt64.lt_iff_toNat_lt] at h'
    simp [Builtin.min_,Builtin.min2,vW,h,h']
    try omega
  simp [execOp,resolve,hf.ev hy,hf.ev hz,invoke,builtin,hr],hs⟩
theorem o_maxW{a b:UInt64}(hy:ev E y=some (vW a))(hz:ev E z=some (vW b)):OV x (.call ⟨.builtin .max,#[y,z],ats⟩) ty E R L (vW (if a<b then b else a)) :=
 ou_of fun _ _ _ _ ac w hf hs=>⟨w,by
  have hr:(Builtin.max_ ats ty #[vW a,vW b]).run x.P w = .ok (vW (if a<b then b else a)) w:=by
   by_cases h:a<b
   ·have h':=h
    rw [UInt64.lt_iff_toNat_lt] at h'
    simp [Builtin.max_,Builtin.max2,vW,h,h']
   ·have h':=h
    rw [UInt64.lt_iff_toNat_lt] at h'
    simp [Builtin.max_,Builtin.max2,vW,h,h']
    try omega
  simp [execOp,resolve,hf.ev hy,hf.ev hz,invoke,builtin,hr],hs⟩
theorem o_minY{a b:UInt8}(hy:ev E y=some (vY a))(hz:ev E z=some (vY b)):OV x (.call ⟨.builtin .min,#[y,z],ats⟩) ty E R L (vY (if b<a then b else a)) :=
 ou_of fun _ _ _ _ ac w hf hs=>⟨w,by
  have hr:(Builtin.min_ ats ty #[vY a,vY b]).run x.P w = .ok (vY (if b<a then b else a)) w:=by
   by_cases h:b<a
   ·have h':=h
    rw [UInt8.lt_iff_toNat_lt] at h'
    simp [Builtin.min_,Builtin.min2,vY,h,h']
   ·have h':=h
    rw [UInt8.lt_iff_toNat_lt] at h'
    simp [Builtin.min_,Builtin.min2,vY,h,h']
    try omega
  simp [execOp,resolve,hf.ev hy,hf.ev hz,invoke,builtin,hr],hs⟩
end
section
variable {x:Cx} {E:Env} {R:PH} {L L':List HP} {ty:TypeId} {v:Value}
theorem o_stS{α:Type}{ap:Bool}{T2 sz:Nat}{en:α→List Value}{q:List α}{y z:Operand}{t b off T:Nat}{cs:List Value}{fr:Nat×Nat}(k:Nat)(ht:Sc x.P t)(hy:ev E y=some (pt b off))(hz:ev E z=some v)
  (hL:L=Blk b (.cells cs.toArray T fr)::L') (hk:L[k]? = some (OwS ap T2 sz en v q)) (hlt:Nat.blt off cs.length=true) (hfr:Nat.ble fr.2 off=true) :
  OU x (.store t y z) ty E R L undef R (Blk b (.cells (cs.set off v).toArray T fr)::L'):=fun dst pos aft g a w K Q hf hs hq hK=>by
 obtain ⟨h,hh,_⟩:=hs.get hk
 obtain ⟨p,c,hv⟩:=hh.len
 exact o_st ht hy hz hL (by rw [hv];rfl) hlt hfr dst pos aft g a w K Q hf hs hq hK
end
end Go.Proofs.YtpanhdnglicknaaGreat.Hw
