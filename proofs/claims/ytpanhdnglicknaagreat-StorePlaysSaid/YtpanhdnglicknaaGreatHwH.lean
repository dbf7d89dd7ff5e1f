import Derived.Test.YtpanhdnglicknaaGreatHwG
import Derived.Lib.ConvBytes
import Derived.Laws.AppendOwn
set_option linter.unusedSimpArgs false
set_option linter.unusedVariables false
namespace Go.Proofs.YtpanhdnglicknaaGreat.Hw
open Go
section
variable {x:Cx} {ks:List KF} {E:Env} {R R':PH} {L L':List HP} {ops:Array Oper} {l:List Oper} {ty:TypeId} {v u:Value} {d:Nat}
def sl{α:Type}(s:List α)(lo hi:Int):Option (List α):=if 0≤lo∧lo≤hi∧hi≤(s.length:Int) then some ((s.drop lo.toNat).take (hi.toNat-lo.toNat)) else none
theorem sl_some{α:Type}{s t:List α}{lo hi:Int}(h:sl s lo hi=some t):(0≤lo∧lo≤hi∧hi≤(s.length:Int))∧t=(s.drop lo.toNat).take (hi.toNat-lo.toNat):=by
 unfold sl at h
 split at h
 ·rename_i q;exact ⟨q,(Option.some.inj h).symm⟩
 ·cases h
theorem str_get(s:Str)(i:Nat):(⟨s.toArray⟩:ByteArray)[i]? = s[i]? := by
 by_cases h:i<s.length
 ·rw [List.getElem?_eq_getElem h]
  rw [getElem?_pos (h:=by simpa [ByteArray.size] using h)]
  rfl
 ·rw [List.getElem?_eq_none (by omega),getElem?_neg (h:=by simpa [ByteArray.size] using h)]
theorem str_ext(s:Str)(a b:Nat)(h:a≤b)(hb:b≤s.length):(⟨s.toArray⟩:ByteArray).extract a b=⟨((s.drop a).take (b-a)).toArray⟩:=by
 apply ByteArray.ext
 rw [ByteArray.data_extract]
 apply Array.toList_inj.1
 simp [Array.toList_extract,List.extract_eq_take_drop]
theorem o_ixS{t:TypeId}{y z:Operand}{s:Str}{i:Int}{c:UInt8}(hu:x.P.underlying t=some .string)(hy:ev E y=some (vS s))(hz:ev E z=some (vI i))(h:gi s i=some c):
  OV x (.index t y z) ty E R L (vY c) :=
 ou_of fun _ _ _ _ a w hf hs=>⟨w,by
  obtain ⟨⟨h0,h1⟩,h2⟩:=gi_some h
  have hg:=str_get s i.toNat
  rw [h2] at hg
  simp [execOp,hf.ev hy,hf.ev hz,Instr.index,asIntOf,vI,vS,run_underlying hu w,h0,hg,vY],hs⟩
def Sb(E:Env)(y:Option Operand)(d n:Int):Prop:=match y with | some z=>ev E z=some (vI n) | none=>n=d
theorem o_slS{t:TypeId}{y:Operand}{lo hi:Option Operand}{s r:Str}{i j:Int}(hu:x.P.underlying t=some .string)(hy:ev E y=some (vS s))(hl:Sb E lo 0 i)(hh:Sb E hi s.length j)(h:sl s i j=some r):
  OV x (.slice t y lo hi none) ty E R L (vS r) :=
 ou_of fun _ _ _ _ a w hf hs=>⟨w,by
  obtain ⟨⟨h0,h1,h2⟩,rfl⟩:=sl_some h
  have hsz:(⟨s.toArray⟩:ByteArray).size=s.length:=by simp [ByteArray.size]
  have hx:=str_ext s i.toNat j.toNat (by omega) (by omega)
  have hij:i≤(j.toNat:Int):=by omega
  have hjj:0≤j:=by omega
  cases lo <;> cases hi <;> simp only [Sb] at hl hh
  ·subst hl;subst hh
   simp [execOp,hf.ev hy,Instr.sliceAt,Instr.slice,Instr.sliceBounds,Instr.sliceBound,run_underlying hu w,vS,hsz,asIntOf,vI] at hx ⊢
  ·subst hl
   simp [execOp,hf.ev hy,hf.ev hh,Instr.sliceAt,Instr.slice,Instr.sliceBounds,Instr.sliceBound,run_underlying hu w,vS,hsz,asIntOf,vI,h2,hjj] at hx ⊢
   exact hx
  ·subst hh
   simp [execOp,hf.ev hy,hf.ev hl,Instr.sliceAt,Instr.slice,Instr.sliceBounds,Instr.sliceBound,run_underlying hu w,vS,hsz,asIntOf,vI,h0,h1] at hx ⊢
   exact hx
  ·simp [execOp,hf.ev hy,hf.ev hl,hf.ev hh,Instr.sliceAt,Instr.slice,Instr.sliceBounds,Instr.sliceBound,run_underlying hu w,vS,hsz,asIntOf,vI,h0,h2,hij,hjj,show i≤max j 0 by omega] at hx ⊢
   exact hx,hs⟩
def FrO(fr:Nat×Nat)(o n:Nat):Prop:=∀k,o≤k→k<o+n→¬(fr.1≤k∧k<fr.2)
def OwS{α:Type}(ap:Bool)(T sz:Nat)(en:α→List Value)(v:Value)(l:List α):HP:=fun h =>
 (v = .slice none 0 0∧l=[])∨∃b o c cs fr,v = .slice (some ⟨b,o,none⟩) l.length c∧h b=some (.cells (List.toArray cs) T fr)∧FrO fr o (c*sz) ∧
  (∀i y,l[i]? = some y→(cs.drop (o+i*sz)).take sz=en y)∧o+c*sz≤cs.length∧l.length≤c∧c≤maxLen∧(ap=true→o=0∧fr=(0,0)∧cs.length=c*sz)
def sb:Value→Nat | .slice (some a) _ _=>a.block | _=>0
def so:Value→Nat | .slice (some a) _ _=>a.off | _=>0
abbrev eY:UInt8→List Value:=fun c=>[vY c]
abbrev eI:Int→List Value:=fun c=>[vI c]
abbrev eB:Bool→List Value:=fun c=>[vB c]
abbrev eW:UInt64→List Value:=fun c=>[vW c]
abbrev eS:Str→List Value:=fun c=>[vS c]
variable {α:Type} {ap:Bool} {T sz:Nat} {en:α→List Value} {q:List α}
theorem OwS.len{h:PH}(hh:OwS ap T sz en v q h):∃a c,v = .slice a q.length c:=by
 rcases hh with ⟨rfl,rfl⟩ | ⟨b,o,c,cs,fr,rfl,_⟩
 ·exact ⟨_,_,rfl⟩
 ·exact ⟨_,_,rfl⟩
theorem OwS.at_{h:PH}(hh:OwS ap T sz en v q h){i:Int}{y:α}(hi:gi q i=some y):∃b o c cs fr,v = .slice (some ⟨b,o,none⟩) q.length c∧h b=some (.cells (List.toArray cs) T fr)∧FrO fr o (c*sz) ∧
  (∀i y,q[i]? = some y→(cs.drop (o+i*sz)).take sz=en y)∧o+c*sz≤cs.length∧q.length≤c∧c≤maxLen∧(ap=true→o=0∧fr=(0,0)∧cs.length=c*sz):=by
 rcases hh with ⟨rfl,rfl⟩ | hh
 ·obtain ⟨⟨h0,h1⟩,_⟩:=gi_some hi;simp at h1;omega
 ·exact hh
theorem o_lenO{t e:TypeId}{y:Operand}(k:Nat)(hu:x.P.underlying t=some (.slice e))(hy:ev E y=some v)(hk:L[k]? = some (OwS ap T sz en v q)):
  OV x (.call ⟨.builtin .len,#[y],#[t]⟩) ty E R L (vI q.length) :=
 ou_of fun _ _ _ _ a w hf hs=>⟨w,by
  obtain ⟨h,hh,_⟩:=hs.get hk
  obtain ⟨p,c,rfl⟩:=hh.len
  have hl:(Builtin.len_ #[t] ty #[.slice p q.length c]).run x.P w = .ok (vI q.length) w:=by
   simp [Builtin.len_,run_underlying hu w,goInt,vI]
  simp [execOp,resolve,hf.ev hy,invoke,builtin,hl],hs⟩
theorem o_ixO{t e:TypeId}{y z:Operand}{i:Int}{c:α}(k:Nat)(hu:x.P.underlying t=some (.slice e))(hsz:∀w,(sizeOf e).run x.P w = .ok sz w)
  (hy:ev E y=some v) (hz:ev E z=some (vI i)) (hk:L[k]? = some (OwS ap T sz en v q)) (hi:gi q i=some c) :
  OV x (.indexAddr t y z) ty E R L (pt (sb v) (so v+i.toNat*sz)) :=
 ou_of fun _ _ _ _ a w hf hs=>⟨w,by
  obtain ⟨h,hh,_⟩:=hs.get hk
  obtain ⟨b,o,c,cs,fr,rfl,_⟩:=hh.at_ hi
  obtain ⟨⟨h0,h1⟩,_⟩:=gi_some hi
  simp [execOp,hf.ev hy,hf.ev hz,Instr.indexAt,asIntOf,vI,run_underlying hu w,h0,h1,hsz,add_eq,sb,so],hs⟩
theorem o_ldO{t:TypeId}{y:Operand}{i:Int}{c:α}(k off:Nat)(ht:Sc x.P t)(hy:ev E y=some (pt (sb v) (so v+i.toNat*sz+off)))
  (hk:L[k]? = some (OwS ap T sz en v q)) (hi:gi q i=some c) (ho:Nat.blt off sz=true) (hc:(en c)[off]? = some u):OV x (.load t y) ty E R L u :=
 ou_of fun _ _ _ _ a w hf hs=>⟨w,by
  obtain ⟨h,hh,hw⟩:=hs.get hk
  obtain ⟨b,o,cp,cs,fr,rfl,hb,_,he,_⟩:=hh.at_ hi
  have h2:=(gi_some hi).2
  have:=rok off (he _ _ h2) (by simpa using ho)
  simp only [sb,so] at hy
  simp [execOp,hf.ev hy,Instr.loadAt,Instr.sureAddr,run_ld1 (hw b _ hb) ht (this.trans hc)],hs⟩
theorem o_ldO0{t:TypeId}{y:Operand}{i:Int}{c:α}(k:Nat)(ht:Sc x.P t)(hy:ev E y=some (pt (sb v) (so v+i.toNat*sz)))
  (hk:L[k]? = some (OwS ap T sz en v q)) (hi:gi q i=some c) (ho:Nat.blt 0 sz=true) (hc:(en c)[0]? = some u):OV x (.load t y) ty E R L u:=o_ldO k 0 ht hy hk hi ho hc
theorem o_ldnO{t:TypeId}{y:Operand}{i:Int}{c:α}(k:Nat)(ht:Ag x.P t sz)(hy:ev E y=some (pt (sb v) (so v+i.toNat*sz)))
  (hk:L[k]? = some (OwS ap T sz en v q)) (hi:gi q i=some c) (hn:(en c).length=sz):OV x (.load t y) ty E R L (.agg (en c).toArray) :=
 ou_of fun _ _ _ _ a w hf hs=>⟨w,by
  obtain ⟨h,hh,hw⟩:=hs.get hk
  obtain ⟨b,o,cp,cs,fr,rfl,hb,_,he,_⟩:=hh.at_ hi
  have h2:=(gi_some hi).2
  simp only [sb,so] at hy
  simp [execOp,hf.ev hy,Instr.loadAt,Instr.sureAddr,run_ldn (hw b _ hb) ht (he _ _ h2) hn],hs⟩
def ls{α:Type}(l:List α)(i:Int)(y:α):List α:=l.set i.toNat y
theorem Ek{P:Program}{w:World}{b off T:Nat}{cs:List Value}{fr:Nat×Nat}(hb:w.heap[b]? = some (.cells cs.toArray T fr))(hv:v.oneCell'=true)
  (hlt:off<cs.length) (hfr:¬(fr.1≤off∧off<fr.2)):∃w',(store ⟨b,off,none⟩ v).run P w = .ok () w'∧Upd w w' b (.cells (cs.set off v).toArray T fr):=by
 obtain ⟨lo,hi⟩:=fr
 have hblt:b<w.heap.size:=by
  rcases Nat.lt_or_ge b w.heap.size with h | h
  ·exact h
  ·simp [Array.getElem?_eq_none h] at hb
 have hcell:w.cell? ⟨b,off,none⟩=some (cs[off]'hlt):=by simp [World.cell?,hb,hlt]
 have hfz:w.frozen? ⟨b,off,none⟩=false:=by
  simp only [World.frozen?,hb,Bool.and_eq_false_iff,decide_eq_false_iff_not]
  simp at hfr ⊢;omega
 refine ⟨w.setCell ⟨b,off,none⟩ v,by rw [run_store _ _ _ _ _ hv,hcell];simp [hfz],rfl,rfl,rfl,by simp,?_,?_⟩
 ·simp [World.setCell,Array.getElem?_modify,hb]
 ·intro k hk
  simp only [World.setCell,Array.getElem?_modify]
  rw [if_neg (fun e=>hk e.symm)]
theorem St.updP{G:World}{w w':World}{p p':HP}{b:Nat}{o':Obj}(hs:St G R (p::L) w)(hu:Upd w w' b o')
  (hp:∀k,p k→Has k w→k b≠none∧p' (fun j=>if j=b then some o' else k j)):St G R (p'::L) w' :=
 hs.head hu.os hu.tape hu.out fun k hk hh=>⟨fun j=>if j=b then some o' else k j,(hp k hk hh).2,by
  intro j q e
  dsimp only at e
  split at e
  ·rename_i h;subst h;rw [←e];exact hu.at_
  ·rename_i h;rw [hu.rest j h];exact hh j q e,by
  intro j hj
  dsimp only at hj
  split at hj
  ·rename_i h;subst h;exact .inl (hp k hk hh).1
  ·exact .inl hj,by
  intro j hj e
  have:j≠b:=by rintro rfl;exact (hp k hk hh).1 e
  exact hu.rest j this⟩
theorem set_take{cs:List Value}{p n k:Nat}{u:Value}(hk:k<n):((cs.set (p+k) u).drop p).take n=((cs.drop p).take n).set k u:=by
 apply List.ext_getElem?
 intro j
 simp only [List.getElem?_take,List.getElem?_drop,List.getElem?_set,List.length_take,List.length_drop]
 by_cases hj:j<n
 ·by_cases e:k=j
  ·subst e
   simp only [hj,if_true]
   by_cases hl:p+k<cs.length
   ·rw [if_pos hl,if_pos (by omega)]
   ·rw [if_neg hl,if_neg (by omega)]
  ·have e':¬p+k=p+j:=by omega
   simp [hj,e,e']
 ·have e:¬k=j:=by omega
  simp [hj,e]
theorem set_far{cs:List Value}{p n k:Nat}{u:Value}(hk:k<p∨p+n≤k):((cs.set k u).drop p).take n=(cs.drop p).take n:=by
 apply List.ext_getElem?
 intro j
 simp only [List.getElem?_take,List.getElem?_drop,List.getElem?_set]
 split
 ·rw [if_neg (by omega)]
 ·rfl
theorem OwS.store{b o c off:Nat}{cs:List Value}{fr:Nat×Nat}{i:Int}{y y':α}{h:PH}{u:Value}(hi:gi q i=some y)(hb:h b=some (.cells (List.toArray cs) T fr))(hfr:FrO fr o (c*sz))
  (he:∀i y,q[i]? = some y→(cs.drop (o+i*sz)).take sz=en y) (hl:o+c*sz≤cs.length) (hq:q.length≤c) (hm:c≤maxLen) (hap:ap=true→o=0∧fr=(0,0)∧cs.length=c*sz) (ho:off<sz) (hy:en y'=(en y).set off u) :
  OwS ap T sz en (.slice (some ⟨b,o,none⟩) q.length c) (ls q i y') (fun j=>if j=b then some (.cells (List.toArray (cs.set (o+i.toNat*sz+off) u)) T fr) else h j):=by
 obtain ⟨⟨h0,h1⟩,h2⟩:=gi_some hi
 refine .inr ⟨b,o,c,cs.set (o+i.toNat*sz+off) u,fr,by simp [ls],by simp,hfr,?_,by simpa using hl,by simpa [ls] using hq,hm,by simpa using hap⟩
 intro j z hz
 unfold ls at hz
 rw [List.getElem?_set] at hz
 by_cases e:i.toNat=j
 ·subst e
  rw [if_pos rfl,if_pos (by omega)] at hz
  cases hz
  rw [set_take ho,he _ _ h2,hy]
 ·rw [if_neg e] at hz
  rw [set_far,he _ _ hz]
  rcases Nat.lt_or_ge i.toNat j with hlt | hge
  ·left
   have:(i.toNat+1)*sz≤j*sz:=Nat.mul_le_mul_right _ hlt
   rw [Nat.add_mul] at this
   omega
  ·right
   have:(j+1)*sz≤i.toNat*sz:=Nat.mul_le_mul_right _ (by omega)
   rw [Nat.add_mul] at this
   omega
theorem o_stO{t:TypeId}{y z:Operand}{i:Int}{c c':α}(off:Nat)(ht:Sc x.P t)(hy:ev E y=some (pt (sb v) (so v+i.toNat*sz+off)))(hz:ev E z=some u)
  (hL:L=OwS ap T sz en v q::L') (hi:gi q i=some c) (hv:u.oneCell'=true) (ho:Nat.blt off sz=true) (hc:en c'=(en c).set off u) :
  OU x (.store t y z) ty E R L undef R (OwS ap T sz en v (ls q i c')::L'):=by
 subst hL
 refine ou_of_skip fun _ _ _ _ a w hf hs =>?_
 obtain ⟨h,hh,hw⟩:=hs.get (i:=0) rfl
 obtain ⟨b,o,cp,cs,fr,rfl,hb,hfr,he,hl,hq,hm,_⟩:=hh.at_ hi
 obtain ⟨⟨h0,h1⟩,h2⟩:=gi_some hi
 have ho':off<sz:=by simpa using ho
 have hin:i.toNat*sz+off<cp*sz:=by
  have:(i.toNat+1)*sz≤cp*sz:=Nat.mul_le_mul_right _ (by omega)
  rw [Nat.add_mul] at this
  omega
 simp only [sb,so] at hy
 obtain ⟨w',e,hu⟩:=Ek (P:=x.P) (v:=u) (off:=o+i.toNat*sz+off) (hw b _ hb) hv (by omega) (hfr _ (by omega) (by omega))
 have hcv:u.cells = #[u]:=by cases u <;> simp_all [Value.cells,Value.oneCell']
 refine ⟨w',by simp [execOp,hf.ev hy,hf.ev hz,Instr.storeAt,Instr.sureAddr,storeVar,ht.2,hcv,storeCells,e,Addr.add],?_⟩
 refine hs.updP hu fun k hk hkw =>?_
 obtain ⟨b2,o2,cp2,cs2,fr2,e2,hb2,hfr2,he2,hl2,hq2,hm2,ha2⟩:=OwS.at_ hk hi
 simp only [Value.slice.injEq,Option.some.injEq,Addr.mk.injEq] at e2
 obtain ⟨⟨rfl,rfl,_⟩,_,rfl⟩:=e2
 have ec:cs2=cs∧fr2=fr:=by
  have e3:=hkw _ _ hb2
  have e4:=hw _ _ hb
  rw [e3] at e4
  simpa using e4
 obtain ⟨rfl,rfl⟩:=ec
 exact ⟨by rw [hb2];simp,OwS.store hi hb2 hfr2 he2 hl2 hq2 hm2 ha2 ho' hc⟩
theorem o_stO0{t:TypeId}{y z:Operand}{i:Int}{c c':α}(ht:Sc x.P t)(hy:ev E y=some (pt (sb v) (so v+i.toNat*sz)))(hz:ev E z=some u)
  (hL:L=OwS ap T sz en v q::L') (hi:gi q i=some c) (hv:u.oneCell'=true) (ho:Nat.blt 0 sz=true) (hc:en c'=(en c).set 0 u) :
  OU x (.store t y z) ty E R L undef R (OwS ap T sz en v (ls q i c')::L'):=o_stO 0 ht hy hz hL hi hv ho hc
end
end Go.Proofs.YtpanhdnglicknaaGreat.Hw
