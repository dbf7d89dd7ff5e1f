import Derived.Test.YtpanhdnglicknaaGreatHwO
set_option linter.unusedSimpArgs false
set_option linter.unusedVariables false
namespace Go.Proofs.YtpanhdnglicknaaGreat.Hw
open Go
section
variable {x:Cx} {ks:List KF} {E:Env} {R R':PH} {L L' L2 L2':List HP} {ops:Array Oper} {ty:TypeId} {v u:Value} {d:Nat} {op:Op} {c:Code}
variable {α:Type} {ap:Bool} {T sz:Nat} {en:α→List Value} {q:List α}
theorem upd_row{w:World}{b T:Nat}{cs:List Value}(ds:List Value)(hb:w.heap[b]? = some (.cells (List.toArray cs) T (0,0))):Upd w (w.setRow b ds.toArray) b (.cells (List.toArray ds) T (0,0)):=by
 refine ⟨rfl,rfl,rfl,by simp [World.setRow],?_,?_⟩
 ·simp [World.setRow,Array.getElem?_modify,hb]
 ·intro k hk
  simp only [World.setRow,Array.getElem?_modify]
  rw [if_neg (fun e=>hk e.symm)]
theorem St.row{G:World}{w:World}{b c T:Nat}{cs ds:List Value}{q q':List α}(hs:St G R (OwS true T 1 en (.slice (some ⟨b,0,none⟩) q.length c) q::L) w)(hb:w.heap[b]? = some (.cells (List.toArray cs) T (0,0)))
  (hl:ds.length=cs.length) (hq:q'.length=q.length) (he:∀(i:Nat) y,q'[i]? = some y→(ds.drop i).take 1=en y):St G R (OwS true T 1 en (.slice (some ⟨b,0,none⟩) q.length c) q'::L) (w.setRow b ds.toArray):=by
 refine hs.updP (b:=b) (o' := .cells ds.toArray T (0,0)) (upd_row ds hb) fun k hk hkw =>?_
 rcases hk with ⟨e1,_⟩ | ⟨b',o',c',cs',fr',e1,hb',hfr,_,h1,h2,h3,h4⟩
 ·cases e1
 simp only [Value.slice.injEq,Option.some.injEq,Addr.mk.injEq] at e1
 obtain ⟨⟨rfl,rfl,_⟩,_,rfl⟩:=e1
 obtain ⟨_,rfl,h5⟩:=h4 rfl
 have hcs:=hkw _ _ hb'
 rw [hb] at hcs
 have hcs':cs=cs':=by simpa using hcs
 subst hcs'
 refine ⟨by rw [hb'];simp,.inr ⟨b,0,c,ds,(0,0),by rw [hq],by simp,hfr,?_,by rw [hl];exact h1,by rw [hq];exact h2,h3,fun _=>⟨rfl,rfl,by rw [hl];exact h5⟩⟩⟩
 intro i y hi
 rw [Nat.zero_add,Nat.mul_one]
 exact he i y hi
theorem el1{cs:List Value}{q:List α}(h:∀i y,q[i]? = some y→(cs.drop (0+i*1)).take 1=en y){i:Nat}{y:α}(hi:q[i]? = some y):(cs.drop i).take 1=en y:=by
 have:=h i y hi
 simpa using this
theorem take1{cs:List Value}{i:Nat}: (cs.drop i).take 1=(match cs[i]? with | some u=>[u] | none=>[]):=by
 cases h:cs[i]? with
 | none=>rw [List.drop_eq_nil_of_le (List.getElem?_eq_none_iff.1 h)];rfl
 | some u =>
  obtain ⟨hl,rfl⟩:=List.getElem?_eq_some_iff.1 h
  rw [List.drop_eq_getElem_cons hl];rfl
def cpy{α:Type}(l r:List α):Option (List α):=if 0<l.length∧0<r.length then some (r.take l.length++l.drop r.length) else none
theorem o_cp{t e T:TypeId}{y z:Operand}{i:TypeInfo}{v2:Value}{r s:List α}(ht:x.P.underlying t=some (.slice e))(hi:x.P.info? e=some i)(hsz:i.size=1)(hone:∀y,∃u,en y=[u]∧u.oneCell'=true)
  (hy:ev E y=some v) (hz:ev E z=some v2) (hL:L=OwS true T 1 en v q::L') (hr:RoS R v2 1 en r) (hb:cpy q r=some s) :
  OU x (.call ⟨.builtin .copy,#[y,z],#[t,t]⟩) ty E R L (vI ((min r.length q.length:Nat):Int)) R (OwS true T 1 en v s::L'):=by
 subst hL
 unfold cpy at hb
 split at hb
 case isFalse=>cases hb
 rename_i hne
 cases hb
 refine ou_of fun _ _ _ _ a w hf hs =>?_
 obtain ⟨h,hh,hw⟩:=hs.get (i:=0) rfl
 rcases hh with ⟨_,rfl⟩ | ⟨b,o,c,cs,fr,rfl,hb,_,he,hl,hq,hm,hap⟩
 ·simp at hne
 obtain ⟨rfl,rfl,hcl⟩:=hap rfl
 obtain ⟨pa,c3,rfl,hr2⟩:=hr
 generalize r.length+c3=c2 at *
 rcases hr2 with rfl | ⟨b2,o2,cs2,T2,fr2,rfl,hb2,he2⟩
 ·simp at hne
 have hcur:=hw _ _ hb
 have hcur2:=hs.rd hb2
 have e1:∀(i:Nat) y,r[i]? = some y→(cs2.drop (o2+i)).take 1=en y:=fun i y hi=>by simpa using he2 i y hi
 have hsrc0:∀(j:Nat),j<r.length→∃u,cs2[o2+j]? = some u∧u.oneCell'=true:=fun j hj=>by
  have h1:=e1 j r[j] (List.getElem?_eq_getElem hj)
  obtain ⟨u,hu,h1c⟩:=hone r[j]
  rw [take1,hu] at h1
  cases h2:cs2[o2+j]? with
  | none=>rw [h2] at h1;cases h1
  | some u'=>rw [h2] at h1;cases h1;exact ⟨_,rfl,h1c⟩
 have hlen2:o2+r.length≤cs2.length:=by
  have hj:r.length-1<r.length:=by omega
  obtain ⟨u,hu,_⟩:=hsrc0 (r.length-1) hj
  have:=(List.getElem?_eq_some_iff.1 hu).1
  omega
 have hcsl:((cs2.drop o2).take (min r.length q.length)).length=min r.length q.length:=by simp;omega
 have hrun:=run_copy_row (P:=x.P) w t t ty e b 0 q.length c ⟨b2,o2,none⟩ r.length c2 cs.toArray T ((cs2.drop o2).take (min r.length q.length)) ht (by rw [hi];simp [hsz]) hcur (by rw [hcsl])
  (fun j u hj=>by
   rw [List.getElem?_take] at hj
   split at hj
   ·rw [List.getElem?_drop] at hj
    rw [add_eq]
    simp [World.cell?,hcur2,hj]
   ·cases hj)
  (by rw [hcsl];simp;omega)
  (fun u hu=>by
   obtain ⟨j,hj,rfl⟩:=List.getElem_of_mem hu
   have hj':j<r.length:=by rw [hcsl] at hj;omega
   obtain ⟨u',hu',h1⟩:=hsrc0 j hj'
   have:((cs2.drop o2).take (min r.length q.length))[j]? = some u':=by
    rw [List.getElem?_take,if_pos (by rw [hcsl] at hj;omega),List.getElem?_drop];exact hu'
   rw [List.getElem?_eq_getElem hj] at this
   cases this
   exact h1)
 rw [hcsl] at hrun
 refine ⟨_,by
  simp only [List.take_zero,List.nil_append,Nat.zero_add] at hrun
  simp [execOp,resolve,hf.ev hy,hf.ev hz,invoke,builtin,hrun,goInt,vI]
  exact rfl,?_⟩
 refine St.row hs hcur ?_ ?_ ?_
 ·simp;omega
 ·simp;omega
 ·intro i y hi2
  by_cases hin:i<min r.length q.length
  ·have:r[i]? = some y:=by
    rw [List.getElem?_append_left (by simp;omega),List.getElem?_take,if_pos (by omega)] at hi2
    exact hi2
   rw [←e1 i y this]
   rw [List.drop_append_of_le_length (by rw [hcsl];omega),List.take_append_of_le_length (by simp;omega),List.drop_take,List.take_take,List.drop_drop,Nat.min_eq_left (by omega)]
  ·have hge:min r.length q.length≤i:=by omega
   have hrl:r.length≤q.length:=by
    have hil:=(List.getElem?_eq_some_iff.1 hi2).1
    simp at hil
    omega
   have:q[i]? = some y:=by
    rw [List.getElem?_append_right (by simp;omega),List.getElem?_drop] at hi2
    rw [←hi2];congr 1;simp;omega
   rw [←el1 he this]
   rw [List.drop_append,List.drop_eq_nil_of_le (by rw [hcsl];omega),List.nil_append,hcsl,List.drop_drop]
   congr 2;omega
theorem o_clr{t e:TypeId}{y:Operand}{i:TypeInfo}{z0:Value}{z1:α}(ht:x.P.underlying t=some (.slice e))(hi:x.P.info? e=some i)(hz:i.zero=some z0)(hsz:i.size=1)(hzc:z0.cells.toList=en z1)(hone:∃u,en z1=[u]∧u.oneCell'=true)
  (hy:ev E y=some v) (hL:L=OwS true e 1 en v q::L') :
  OU x (.call ⟨.builtin .clear,#[y],#[t]⟩) ty E R L (.tuple #[]) R (OwS true e 1 en v (List.replicate q.length z1)::L'):=by
 subst hL
 refine ou_of fun _ _ _ _ a w hf hs =>?_
 obtain ⟨h,hh,hw⟩:=hs.get (i:=0) rfl
 rcases hh with ⟨rfl,rfl⟩ | ⟨b,o,c,cs,fr,rfl,hb,_,he,hl,hq,hm,hap⟩
 ·exact ⟨w,by simp [execOp,resolve,hf.ev hy,invoke,builtin,Builtin.clear_,run_underlying ht w],hs⟩
 obtain ⟨rfl,rfl,hcl⟩:=hap rfl
 have hcur:=hw _ _ hb
 obtain ⟨u,hu,h1⟩:=hone
 have hz2:z0.cells = #[u]:=by
  apply Array.toList_inj.1
  rw [hzc,hu]
 by_cases h0:q=[]
 ·subst h0
  exact ⟨w,by simp [execOp,resolve,hf.ev hy,invoke,builtin,Builtin.clear_,run_underlying ht w],hs⟩
 have hq0:q.length≠0:=by simpa using h0
 have hzl:(Builtin.zeroCells #[u] q.length).toList=List.replicate q.length u:=by
  apply List.ext_getElem?
  intro j
  simp only [Builtin.zeroCells,Array.toList_map,List.getElem?_map,Array.toList_range,List.getElem?_replicate]
  by_cases hj:j<q.length
  ·rw [List.getElem?_range (by simpa using hj)];simp [hj,Nat.mod_one]
  ·rw [List.getElem?_eq_none (by simp;omega)];simp [hj]
 have hst:=run_storeCells_at x.P b 0 e (List.replicate q.length u) 0 cs.toArray w hcur (by simp;omega) (fun y hy=>by rw [(List.mem_replicate.1 hy).2];exact h1)
 have hzv:(zeroValue e).run x.P w = .ok z0 w:=by simp [zeroValue,typeInfo,hi,hz]
 refine ⟨w.setRow b ((cs.toArray.toList.take (0+0)++List.replicate q.length u++cs.toArray.toList.drop (0+0+(List.replicate q.length u).length)).toArray),?_,?_⟩
 ·have:(Builtin.clear_ #[t] ty #[.slice (some ⟨b,0,none⟩) q.length c]).run x.P w = .ok (.tuple #[]) (w.setRow b ((cs.toArray.toList.take (0+0)++List.replicate q.length u++cs.toArray.toList.drop (0+0+(List.replicate q.length u).length)).toArray)):=by
   unfold Builtin.clear_
   cases hn:q.length with
   | zero=>exact absurd hn hq0
   | succ n =>
    rw [hn] at hst hzl
    simp [run_underlying ht w,hzv,hz2,hzl,hst]
  simp [execOp,resolve,hf.ev hy,invoke,builtin,this]
 ·refine St.row hs hcur ?_ ?_ ?_
  ·simp;omega
  ·simp
  ·intro i y hi2
   rw [List.getElem?_replicate] at hi2
   split at hi2
   case isFalse=>cases hi2
   cases hi2
   rw [hu,take1]
   have:(List.take (0+0) cs.toArray.toList++List.replicate q.length u++List.drop (0+0+(List.replicate q.length u).length) cs.toArray.toList)[i]? = some u:=by
    rw [Nat.add_zero,List.take_zero,List.nil_append,List.getElem?_append_left (by simpa),List.getElem?_replicate,if_pos (by assumption)]
   rw [this]
def sh:Value→Nat→Value
 | .slice a _ c,n => .slice a n c
 | v,_=>v
theorem OwS.cut{h:PH}{n:Nat}(hn:n≤q.length)(hh:OwS ap T sz en v q h):OwS ap T sz en (sh v n) (q.take n) h:=by
 rcases hh with ⟨rfl,rfl⟩ | ⟨b,o,c,cs,fr,rfl,hb,hfr,he,hl,hq,hm,hap⟩
 ·simp at hn;subst hn;exact .inl ⟨rfl,rfl⟩
 ·refine .inr ⟨b,o,c,cs,fr,by simp [sh,Nat.min_eq_left hn],hb,hfr,?_,hl,by simp;omega,hm,hap⟩
  intro i y hi
  rw [List.getElem?_take] at hi
  split at hi
  ·exact he i y hi
  ·cases hi
theorem o_slO{t e:TypeId}{y z:Operand}{j:Int}{r:List α}(ht:x.P.underlying t=some (.slice e))(hsz:∀w,(sizeOf e).run x.P w = .ok sz w)(hy:ev E y=some v)(hz:ev E z=some (vI j))
  (hL:L=OwS ap T sz en v q::L') (hs:sl q 0 j=some r) :
  OU x (.slice t y none (some z) none) ty E R L (sh v j.toNat) R (OwS ap T sz en (sh v j.toNat) r::L'):=by
 subst hL
 obtain ⟨⟨_,h0,h1⟩,hr⟩:=sl_some hs
 have hr':r=q.take j.toNat:=by rw [hr];simp
 subst hr'
 refine ou_of fun _ _ _ _ a w hf hs=>⟨w,?_,st_wk (fun h hh=>OwS.cut (by omega) hh) hs⟩
 obtain ⟨h,hh,hw⟩:=hs.get (i:=0) rfl
 rcases hh with ⟨rfl,rfl⟩ | ⟨b,o,c,cs,fr,rfl,hb,_,he,hl,hq,hm,hap⟩
 ·have:j=0:=by simp at h1;omega
  subst this
  simp [execOp,hf.ev hy,hf.ev hz,Instr.sliceAt,Instr.slice,Instr.sliceBounds,Instr.sliceBound,run_underlying ht w,vI,asIntOf,hsz,sh]
 ·have hjc:j≤(c:Int):=by omega
  have e1:(j.toNat:Int)=j:=by omega
  simp [execOp,hf.ev hy,hf.ev hz,Instr.sliceAt,Instr.slice,Instr.sliceBounds,Instr.sliceBound,run_underlying ht w,vI,asIntOf,hsz,sh,h0,hjc,add_eq]
theorem o_mkN{t e bytes T2:Nat}{ap2:Bool}{i:TypeInfo}{z0:Value}{y z:Operand}{n:Int}{ll:List (List α)}(ht:x.P.underlying t=some (.slice e))(hi:x.P.info? e=some i)(hz:i.zero=some z0)(hsz:i.size=1)(hby:i.bytes=bytes)
  (hzc:z0.cells.toList=[.slice none 0 0]) (hy:ev E y=some (vI n)) (hz2:ev E z=some (vI n)) (hm:mks bytes n ([]:List α)=some ll) :
  OW x ks (.makeSlice t y z) ty E R L (fun u R' L'=>∃hs,R'=R∧L'=OwS true e 1 eV u hs::OwL (OwS ap2 T2 sz en) hs ll::L):=by
 have hm2:∃hs,mks bytes n (Value.slice none 0 0)=some hs∧hs=List.replicate n.toNat (.slice none 0 0)∧ll=List.replicate n.toNat []:=by
  unfold mks at hm ⊢
  split at hm
  ·rename_i h;rw [if_pos h];cases hm;exact ⟨_,rfl,rfl,rfl⟩
  ·cases hm
 obtain ⟨hs,h1,h2,h3⟩:=hm2
 refine ow_to (o_mk (en:=eV) (z1 := .slice none 0 0) ht hi hz hsz hby rfl hzc rfl hy hz2 h1) fun v R1 L1 w hC hst =>?_
 obtain ⟨rfl,rfl⟩:=hC
 refine ⟨R1,_,Le.refl _,⟨hs,rfl,rfl⟩,?_⟩
 have h4:St x.G R1 (OwL (OwS ap2 T2 sz en) hs ll::OwS true e 1 eV v hs::L) w:=st_emp (by rw [h2,h3];exact OwL.rep (fun h=>OwS.nil) _ _) hst
 exact st_pk 2 [1,0] (by decide) h4
theorem cd_loopG{σ:Type}{M:Nat→σ→Prop}{Ef:σ→Env}{Rf:σ→PH}{Lf:σ→List HP}(k:Nat)(s0:σ)(hM:M k s0)(hE:Sub E (Ef s0))
  (hL:∀w,St x.G R L w→St x.G (Rf s0) (Lf s0) w) (h0:∀s,¬M 0 s)
  (hs:∀k s,M (k+1) s→CD x c (.lp (fun a w=>∃s',M k s'∧Fr x.N x.D (Ef s') a∧St x.G (Rf s') (Lf s') w)::ks) (Ef s) (Rf s) (Lf s)):CD x (.loop c) ks E R L :=
 fun a w hf hst=>c_loop M Ef Rf Lf h0 hs k s0 hM a w (hf.sub hE) (hL w hst)
end
end Go.Proofs.YtpanhdnglicknaaGreat.Hw
