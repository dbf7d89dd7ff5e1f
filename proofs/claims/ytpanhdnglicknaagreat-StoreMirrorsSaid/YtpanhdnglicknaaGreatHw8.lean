import Derived.Test.YtpanhdnglicknaaGreatHwY
set_option linter.unusedSectionVars false
set_option linter.unusedSimpArgs false
set_option linter.unusedVariables false
namespace Go.Proofs.YtpanhdnglicknaaGreat.Hw
open Go
section
variable {α:Type} [Inhabited α]
def nn(n:Nat)(l:List α):List α:=(List.range n).map fun i=>l.getD i default
theorem nn_len(n:Nat)(l:List α):(nn n l).length=n:=by simp [nn]
theorem nn_id{n:Nat}{l:List α}(h:l.length=n):nn n l=l:=by
 subst h
 apply List.ext_getElem?
 intro i
 by_cases hi:i<l.length
 ·simp [nn,hi,List.getD_eq_getElem?_getD]
 ·rw [List.getElem?_eq_none (by rw [nn_len];omega),List.getElem?_eq_none (by omega)]
theorem gi_nn{n:Nat}{l:List α}{i:Int}{c:α}(h:gi (nn n l) i=some c):0≤i∧i<(n:Int):=by
 have:=(gi_some h).1;rwa [nn_len] at this
theorem ls_len{l:List α}{i:Int}{y:α}: (ls l i y).length=l.length:=by simp [ls]
end
section
variable {x:Cx} {ks:List KF} {E:Env} {R R':PH} {L L':List HP} {ops:Array Oper} {ty:TypeId} {v u:Value} {d:Nat} {G:World} {w:World}
variable {α:Type}
theorem o_ldV{f:α→Value}{q:List α}{y:Operand}{t b T:Nat}{i:Int}{c:α}(k:Nat)(h:gi q i=some c)(ht:Sc x.P t)(hy:ev E y=some (pt b (0+i.toNat*1)))(hk:L[k]? = some (Bk b T (q.map f))):
  OV x (.load t y) ty E R L (f c) :=
 o_ld k ht hy hk (by rw [Nat.zero_add,Nat.mul_one,List.getElem?_map,(gi_some h).2];rfl)
theorem o_stV [Inhabited α](n:Nat){f:α→Value}{q r:List α}{y z:Operand}{t b T:Nat}{i:Int}{c u:α}(e:ls (nn n q) i u=r)(h:gi (nn n q) i=some c)(ht:Sc x.P t)(hy:ev E y=some (pt b (0+i.toNat*1)))(hz:ev E z=some (f u))
  (hL:L=Bk b T ((nn n q).map f)::L') (hv:(f u).oneCell'=true) :
  OU x (.store t y z) ty E R L undef R (Bk b T ((nn n r).map f)::L'):=by
 subst e
 have hl:=(gi_some h).1.2
 rw [nn_id (l:=ls (nn n q) i u) (by rw [ls_len,nn_len]),ls,List.map_set]
 have:=o_st (x:=x) (R:=R) (ty:=ty) (off:=i.toNat) ht (by rw [hy];simp) hz hL hv (by rw [List.length_map];simp [Nat.blt_eq];have:=(gi_some h).1.1;omega) (by simp)
 exact this
theorem o_ixN{f:α→Value}{q:List α}{t e n:Nat}{y z:Operand}{i:Int}{c:α}(h:gi q i=some c)(hu:x.P.underlying t=some (.array n e))(hsz:∀w,(sizeOf e).run x.P w = .ok 1 w)(ha:∀w,(isAgg e).run x.P w = .ok false w)
  (hy:ev E y=some (.agg (q.map f).toArray)) (hz:ev E z=some (vI i)) (hn:(q.map f).length=n):OV x (.index t y z) ty E R L (f c) :=
 o_ixG hu hsz ha hy hz hn (by
  obtain ⟨⟨h0,h1⟩,h2⟩:=gi_some h
  unfold gi;rw [if_pos h0,List.getElem?_map,h2];rfl)
theorem o_slA{t e n b:Nat}{y:Operand}(hu:x.P.underlying t=some (.array n e))(hsz:∀w,(sizeOf e).run x.P w = .ok 1 w)(hy:ev E y=some (pt b 0)):OV x (.slice t y none none none) ty E R L (.slice (some ⟨b,0,none⟩) n n) :=
 ou_of fun _ _ _ _ a w hf hs=>⟨w,by
  simp [execOp,hf.ev hy,Instr.sliceAt,Instr.sureAddr,Instr.sliceBounds,run_underlying hu w,hsz w,add_eq],hs⟩
theorem o_slAh{t e n b j:Nat}{y z:Operand}(hu:x.P.underlying t=some (.array n e))(hsz:∀w,(sizeOf e).run x.P w = .ok 1 w)(hy:ev E y=some (pt b 0))(hz:ev E z=some (vI (j:Int)))(hj:Nat.ble j n=true):
  OV x (.slice t y none (some z) none) ty E R L (.slice (some ⟨b,0,none⟩) j n) :=
 ou_of fun _ _ _ _ a w hf hs=>⟨w,by
  have h0:=Nat.le_of_ble_eq_true hj
  have h1:(j:Int)≤(n:Int):=by omega
  simp [execOp,hf.ev hy,hf.ev hz,vI,asIntOf,Instr.sliceAt,Instr.sureAddr,Instr.sliceBounds,Instr.sliceBound,run_underlying hu w,hsz w,add_eq,h1]
  intro h;exact absurd h (by omega),hs⟩
theorem o_slAl{t e n b j:Nat}{y z:Operand}(hu:x.P.underlying t=some (.array n e))(hsz:∀w,(sizeOf e).run x.P w = .ok 1 w)(hy:ev E y=some (pt b 0))(hz:ev E z=some (vI (j:Int)))(hj:Nat.blt j n=true):
  OV x (.slice t y (some z) none none) ty E R L (.slice (some ⟨b,j,none⟩) (n-j) (n-j)) :=
 ou_of fun _ _ _ _ a w hf hs=>⟨w,by
  have h1:j<n:=by simpa [Nat.blt_eq] using hj
  have h2:(j:Int)≤(n:Int):=by omega
  have h3:n≠j:=by omega
  simp [execOp,hf.ev hy,hf.ev hz,vI,asIntOf,Instr.sliceAt,Instr.sureAddr,Instr.sliceBounds,Instr.sliceBound,run_underlying hu w,hsz w,add_eq,h2,h3]
  intro h;exact absurd h (by omega),hs⟩
theorem o_cpB{t e:TypeId}{y z:Operand}{i:TypeInfo}{b o n c b2 o2 c2 T T2:Nat}{cs ds es:List Value}(ht:x.P.underlying t=some (.slice e))(hi:x.P.info? e=some i)(hsz:i.size=1)
  (hy:ev E y=some (.slice (some ⟨b,o,none⟩) n c)) (hz:ev E z=some (.slice (some ⟨b2,o2,none⟩) n c2)) (hL:L=Bk b T cs::Bk b2 T2 ds::L')
  (h1:(ds.all Value.oneCell')=true) (h2:Nat.ble (o+n) cs.length=true) (h3:Nat.ble (o2+n) ds.length=true) (hes:cs.take o++(ds.drop o2).take n++cs.drop (o+n)=es) :
  OU x (.call ⟨.builtin .copy,#[y,z],#[t,t]⟩) ty E R L (vI (n:Int)) R (Bk b T es::Bk b2 T2 ds::L'):=by
 subst hL;subst hes
 have h2:=Nat.le_of_ble_eq_true h2
 have h3:=Nat.le_of_ble_eq_true h3
 refine ou_of fun _ _ _ _ a w hf hs => ?_
 have hb:=hs.blk (i:=0) rfl
 have hb2:=hs.blk (i:=1) rfl
 have hl:((ds.drop o2).take n).length=n:=by simp;omega
 have hrun:=run_copy_row (P:=x.P) w t t ty e b o n c ⟨b2,o2,none⟩ n c2 cs.toArray T ((ds.drop o2).take n) ht (by rw [hi];simp [hsz]) hb (by rw [hl];exact (Nat.min_self n).symm)
  (fun j u hj=>by
   rw [List.getElem?_take] at hj
   split at hj
   ·rw [List.getElem?_drop] at hj
    rw [add_eq]
    simp [World.cell?,hb2,hj]
   ·cases hj)
  (by rw [hl];simpa using h2)
  (fun u hu=>by
   have hm:u∈ds:=List.mem_of_mem_drop (List.mem_of_mem_take hu)
   exact List.all_eq_true.1 h1 u hm)
 rw [hl] at hrun
 refine ⟨_,by
  simp [execOp,resolve,hf.ev hy,hf.ev hz,invoke,builtin,hrun,goInt,vI]
  exact rfl,?_⟩
 have:=hs.upd (upd_row (cs.take o++(ds.drop o2).take n++cs.drop (o+n)) hb)
 simpa using this
theorem st_arrS{T b n:Nat}{f:α→Value}{q:List α}(hq:q.length=n)(hn:Nat.ble n maxLen=true)(hs:St G R (Bk b T (q.map f)::L) w):St G R (OwS true T 1 (fun c=>[f c]) (.slice (some ⟨b,0,none⟩) n n) q::L) w:=by
 subst hq
 refine st_wk (fun h hh => ?_) hs
 refine .inr ⟨b,0,q.length,q.map f,(0,0),rfl,hh,?_,?_,by simp,Nat.le_refl _,Nat.le_of_ble_eq_true hn,fun _=>⟨rfl,rfl,by simp⟩⟩
 ·intro k _ _ h;omega
 ·intro i y hi
  rw [Nat.zero_add,Nat.mul_one,take1,List.getElem?_map,hi]
  rfl
def sd:Value→Nat→Nat→Value
 | .slice a _ c,lo,hi => .slice (if c=lo then a else a.map (·.add (lo*1))) (hi-lo) (c-lo)
 | v,_,_=>v
theorem RoS.cut{e:α→List Value}{q r:List α}{lo hi:Int}(h:RoS R v 1 e q)(hs:sl q lo hi=some r):RoS R (sd v lo.toNat hi.toNat) 1 e r:=by
 obtain ⟨⟨h0,h1,h2⟩,rfl⟩:=sl_some hs
 obtain ⟨a,c,rfl,h⟩:=h
 have hl:((q.drop lo.toNat).take (hi.toNat-lo.toNat)).length=hi.toNat-lo.toNat:=by simp;omega
 refine ⟨_,q.length+c-lo.toNat-(hi.toNat-lo.toNat),by rw [hl,Nat.add_sub_cancel' (by omega)];rfl,?_⟩
 by_cases hz:hi.toNat-lo.toNat=0
 ·left;rw [hz];rfl
 rcases h with rfl | ⟨b,o,cs,T,fr,rfl,hR,hc⟩
 ·simp at h2;omega
 right
 refine ⟨b,o+lo.toNat,cs,T,fr,by rw [if_neg (by omega)];simp [add_eq],hR,fun i y hy => ?_⟩
 rw [List.getElem?_take] at hy
 split at hy
 ·rw [List.getElem?_drop] at hy
  have:=hc _ _ hy
  rw [←this];congr 2;omega
 ·cases hy
theorem o_slRh{t e:TypeId}{y z:Operand}{en:α→List Value}{q r:List α}{j:Int}(ht:x.P.underlying t=some (.slice e))(hsz:∀w,(sizeOf e).run x.P w = .ok 1 w)(hy:ev E y=some v)(hz:ev E z=some (vI j))(h:RoS R v 1 en q)(hs:sl q 0 j=some r):
  OV x (.slice t y none (some z) none) ty E R L (sd v 0 j.toNat) :=
 ou_of fun _ _ _ _ a w hf hst=>⟨w,by
  obtain ⟨⟨_,h0,h1⟩,_⟩:=sl_some hs
  obtain ⟨p,c,rfl,_⟩:=h
  have hjc:j≤(q.length:Int)+(c:Int):=by omega
  by_cases hc:q.length+c=0
  ·have:j=0:=by omega
   subst this
   simp [execOp,hf.ev hy,hf.ev hz,Instr.sliceAt,Instr.slice,Instr.sliceBounds,Instr.sliceBound,run_underlying ht w,vI,asIntOf,hsz,sd,add_eq,hc]
  ·simp [execOp,hf.ev hy,hf.ev hz,Instr.sliceAt,Instr.slice,Instr.sliceBounds,Instr.sliceBound,run_underlying ht w,vI,asIntOf,hsz,sd,h0,hjc,add_eq,hc]
   try omega,hst⟩
theorem o_slRl{t e:TypeId}{y z:Operand}{en:α→List Value}{q r:List α}{j:Int}(ht:x.P.underlying t=some (.slice e))(hsz:∀w,(sizeOf e).run x.P w = .ok 1 w)(hy:ev E y=some v)(hz:ev E z=some (vI j))(h:RoS R v 1 en q)(hs:sl q j (q.length:Int)=some r):
  OV x (.slice t y (some z) none none) ty E R L (sd v j.toNat (q.length:Int).toNat) :=
 ou_of fun _ _ _ _ a w hf hst=>⟨w,by
  obtain ⟨⟨h0,h1,_⟩,_⟩:=sl_some hs
  obtain ⟨p,c,rfl,_⟩:=h
  simp [execOp,hf.ev hy,hf.ev hz,Instr.sliceAt,Instr.slice,Instr.sliceBounds,Instr.sliceBound,run_underlying ht w,vI,asIntOf,hsz,sd,h0,h1,add_eq],hst⟩
end
end Go.Proofs.YtpanhdnglicknaaGreat.Hw
