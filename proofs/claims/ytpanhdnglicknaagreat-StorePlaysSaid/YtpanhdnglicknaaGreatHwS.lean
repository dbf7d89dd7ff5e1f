import Derived.Test.YtpanhdnglicknaaGreatHwR
import Derived.MapKept
set_option linter.unusedSectionVars false
set_option linter.unusedSimpArgs false
set_option linter.unusedVariables false
namespace Go.Proofs.YtpanhdnglicknaaGreat.Hw
open Go
section
variable {x:Cx} {ks:List KF} {E:Env} {R R':PH} {L L' L2 L2':List HP} {ops:Array Oper} {ty:TypeId} {v u:Value} {d:Nat} {op:Op} {c:Code} {G:World} {w:World}
variable {K V:Type} [BEq K] [LawfulBEq K] {kv:K→Value} {vv:V→Value}
def mget:List (K×V)→K→Option V
 | [],_=>none
 | (a,u)::l,k=>if k==a then some u else mget l k
def mput:List (K×V)→K→V→List (K×V)
 | [],k,v=>[(k,v)]
 | (a,u)::l,k,v=>if k==a then (k,v)::l else (a,u)::mput l k v
def mdel:List (K×V)→K→List (K×V)
 | [],_=>[]
 | (a,u)::l,k=>if k==a then l else (a,u)::mdel l k
def mat:List (K×V)→K→Option (Nat×V)
 | [],_=>none
 | (a,u)::l,k=>if k==a then some (0,u) else (mat l k).map fun p=>(p.1+1,p.2)
theorem mget_at:∀(l:List (K×V)) (k:K),mget l k=(mat l k).map (·.2)
 | [],_=>rfl
 | (a,u)::l,k=>by
  unfold mget mat
  split
  ·rfl
  ·rw [mget_at l k];cases mat l k <;> rfl
def KOk(P:Program)(k:TypeId)(kv:K→Value):Prop :=
 ∃d,P.underlying k=some d∧(∀a b,Instr.sameNow d (kv a) (kv b)=some (a==b))∧∀a,MapKept.IsKey d (kv a)
theorem str_beq(a b:Str):((⟨a.toArray⟩:ByteArray)==⟨b.toArray⟩)=(a==b):=by
 have h:((⟨a.toArray⟩:ByteArray)==⟨b.toArray⟩)=(a.toArray==b.toArray):=rfl
 rw [h]
 simp
theorem kok_S{P:Program}{k:TypeId}(hu:P.underlying k=some .string):KOk P k vS :=
 ⟨_,hu,fun a b=>by simp only [Instr.sameNow,vS,str_beq],fun a=>trivial⟩
theorem kok_n{P:Program}{k:TypeId}{q:IntKind}(kv:K→Int)(hi:∀a b,(kv a==kv b)=(a==b))(hu:P.underlying k=some (.int q)):KOk P k fun a => .int q (kv a) :=
 ⟨_,hu,fun a b=>by simp only [Instr.sameNow,if_true,hi],fun a=>rfl⟩
theorem kok_W{P:Program}{k:TypeId}(hu:P.underlying k=some (.int .u64)):KOk P k vW:=kok_n (fun a:UInt64=>(a.toNat:Int)) beqW hu
def EsM(kv:K→Value)(vv:V→Value)(es:List MapEntry)(m:List (K×V)):Prop:=es.map (fun e=>(e.key,e.val))=m.map fun p=>(kv p.1,vv p.2)
def OwM(kv:K→Value)(vv:V→Value)(v:Value)(m:List (K×V)):HP:=fun h=>∃r es clock,v = .map (some r)∧h r=some (.map es clock)∧EsM kv vv es.toList m∧MapKept.Stamped es clock
theorem EsM.find{P:Program}{d:TypeDesc}(hs:∀a b,Instr.sameNow d (kv a) (kv b)=some (a==b))(k:K):∀{es:List MapEntry} {m:List (K×V)} (i:Nat),EsM kv vv es m →
  Instr.findNow d (kv k) es i=some ((mat m k).map fun p=>(i+p.1,vv p.2))
 | [],[],i,_=>rfl
 | e::es,(a,u)::m,i,h=>by
  simp only [EsM,List.map_cons,List.cons.injEq,Prod.mk.injEq] at h
  obtain ⟨⟨h1,h2⟩,h3⟩:=h
  unfold Instr.findNow
  rw [h1,hs]
  cases hk:(k==a)
  ·simp only
   rw [EsM.find (P:=P) hs k (i+1) h3]
   conv=>rhs;unfold mat
   rw [hk,if_neg (by decide)]
   cases mat m k with
   | none=>rfl
   | some p=>simp only [Option.map_some];rw [show i+1+p.1=i+(p.1+1) by omega]
  ·simp only
   conv=>rhs;unfold mat
   rw [hk,if_pos rfl,h2]
   rfl
 | [],_::_,_,h=>by simp [EsM] at h
 | _::_,[],_,h=>by simp [EsM] at h
theorem EsM.len{es:List MapEntry}{m:List (K×V)}(h:EsM kv vv es m):es.length=m.length:=by
 have:=congrArg List.length h
 simpa using this
theorem mat_none_put:∀{m:List (K×V)} {k:K} {z:V},mat m k=none→mput m k z=m++[(k,z)]
 | [],_,_,_=>rfl
 | (a,u)::m,k,z,h=>by
  unfold mat at h
  unfold mput
  split at h
  ·cases h
  ·rename_i hk
   rw [if_neg hk,mat_none_put (by simpa using h)]
   rfl
theorem mat_none_del:∀{m:List (K×V)} {k:K},mat m k=none→mdel m k=m
 | [],_,_=>rfl
 | (a,u)::m,k,h=>by
  unfold mat at h
  unfold mdel
  split at h
  ·cases h
  ·rename_i hk
   rw [if_neg hk,mat_none_del (by simpa using h)]
theorem EsM.put:∀{es:List MapEntry} {m:List (K×V)} {k:K} {z:V} {i:Nat} {u:V},EsM kv vv es m→mat m k=some (i,u) →
  EsM kv vv (es.modify i fun e => { e with key:=kv k,val:=vv z }) (mput m k z)∧∃e,es[i]? = some e∧e.key=kv k
 | e::es,(a,u)::m,k,z,i,u',h,hm=>by
  have h0:=h
  simp only [EsM,List.map_cons,List.cons.injEq,Prod.mk.injEq] at h
  obtain ⟨⟨h1,h2⟩,h3⟩:=h
  unfold mat at hm
  unfold mput
  split at hm
  ·rename_i hk
   cases hm
   rw [if_pos hk]
   have:k=a:=by simpa using hk
   subst this
   exact ⟨by simp [EsM,h3],e,rfl,h1⟩
  ·rename_i hk
   rw [if_neg hk]
   cases hq:mat m k with
   | none=>rw [hq] at hm;cases hm
   | some p =>
    rw [hq] at hm
    cases hm
    obtain ⟨g1,g2⟩:=EsM.put (z:=z) h3 hq
    refine ⟨?_,by simpa using g2⟩
    simp only [EsM,List.modify_succ_cons,List.map_cons,h1,h2] at g1 ⊢
    rw [g1]
 | [],[],_,_,_,_,_,h=>by cases h
 | [],_::_,_,_,_,_,h,_=>by simp [EsM] at h
 | _::_,[],_,_,_,_,h,_=>by simp [EsM] at h
theorem EsM.del:∀{es:List MapEntry} {m:List (K×V)} {k:K} {i:Nat} {u:V},EsM kv vv es m→mat m k=some (i,u)→EsM kv vv (es.eraseIdx i) (mdel m k)
 | e::es,(a,u)::m,k,i,u',h,hm=>by
  simp only [EsM,List.map_cons,List.cons.injEq,Prod.mk.injEq] at h
  obtain ⟨⟨h1,h2⟩,h3⟩:=h
  unfold mat at hm
  unfold mdel
  split at hm
  ·rename_i hk
   cases hm
   rw [if_pos hk]
   exact h3
  ·rename_i hk
   rw [if_neg hk]
   cases hq:mat m k with
   | none=>rw [hq] at hm;cases hm
   | some p =>
    rw [hq] at hm
    cases hm
    have g1:=EsM.del h3 hq
    simp only [EsM,List.eraseIdx_cons_succ,List.map_cons,h1,h2] at g1 ⊢
    rw [g1]
 | [],[],_,_,_,_,h=>by cases h
 | [],_::_,_,_,_,h,_=>by simp [EsM] at h
 | _::_,[],_,_,_,h,_=>by simp [EsM] at h
theorem EsM.new{d:TypeDesc}(hs:∀a b,Instr.sameNow d (kv a) (kv b)=some (a==b)){k:K}: ∀{es:List MapEntry} {m:List (K×V)},EsM kv vv es m→mat m k=none→∀x∈es,x.key≠kv k
 | e::es,(a,u)::m,h,hm=>by
  simp only [EsM,List.map_cons,List.cons.injEq,Prod.mk.injEq] at h
  obtain ⟨⟨h1,h2⟩,h3⟩:=h
  unfold mat at hm
  split at hm
  ·cases hm
  ·rename_i hk
   intro x hx
   rcases List.mem_cons.1 hx with rfl | hx
   ·rw [h1];intro e
    have:=hs k a
    rw [e,hs k k] at this
    simp at this
    exact hk (by simp [this])
   ·exact EsM.new hs h3 (by simpa using hm) x hx
 | [],_,_,_=>by simp
 | _::_,[],h,_=>by simp [EsM] at h
theorem OwM.one{m:List (K×V)}{h:PH}(hh:OwM kv vv v m h):v.oneCell'=true:=by obtain ⟨r,_,_,rfl,_⟩:=hh;rfl
theorem hd_m{m:List (K×V)}(k:Nat)(hk:L[k]? = some (OwM kv vv v m))(w:World)(hs:St G R L w):∃a,v = .map a:=by
 obtain ⟨h,⟨r,_,_,h1,_⟩,_⟩:=hs.get hk
 exact ⟨_,h1⟩
theorem St.addM{G:World}{w:World}(hs:St G R L w)(o:Obj){p:HP}(hp:∀h:PH,h w.heap.size=some o→p h):St G R (p::L) (w.alloc o):=by
 have h:=hs.alloc o
 exact st_wk (fun h hh=>hp h hh) h
theorem o_mm{t:TypeId}: OW x ks (.makeMap t none) ty E R L (fun u R' L'=>R'=R∧L'=OwM kv vv u ([]:List (K×V))::L) :=
 ow_of fun dst pos aft g a w hf hst=>by
  refine ⟨.map (some w.heap.size),R,_,w.alloc (.map #[] 0),by simp [execOp,Instr.makeMap,newObj,-World.alloc_eq];try rfl,Le.refl R,⟨rfl,rfl⟩,?_⟩
  exact hst.addM _ fun h hh=>⟨_,#[],0,rfl,hh,rfl,MapKept.stamped_empty 0⟩
theorem o_lenM{t k e:TypeId}{y:Operand}{m:List (K×V)}(i:Nat)(hu:x.P.underlying t=some (.map k e))(hy:ev E y=some v)(hk:L[i]? = some (OwM kv vv v m)):
  OV x (.call ⟨.builtin .len,#[y],#[t]⟩) ty E R L (vI m.length) :=
 ou_of fun _ _ _ _ a w hf hs=>⟨w,by
  obtain ⟨h,⟨r,es,clock,rfl,hr,he,hst⟩,hw⟩:=hs.get hk
  have hl:=he.len
  have hg:=hw _ _ hr
  have hl2:es.size=m.length:=by simpa using hl
  have:(Builtin.len_ #[t] ty #[.map (some r)]).run x.P w = .ok (vI m.length) w:=by
   simp [Builtin.len_,run_underlying hu w,goInt,vI,MapKept.run_getObj_map hg,hl2]
  simp [execOp,resolve,hf.ev hy,invoke,builtin,this],hs⟩
theorem run_find{P:Program}{k:TypeId}(hK:KOk P k kv){es:List MapEntry}{m:List (K×V)}(he:EsM kv vv es m)(key:K)(w:World):
  (Instr.findKey k (kv key) es).run P w = .ok ((mat m key).map fun p=>(p.1,vv p.2)) w:=by
 obtain ⟨d,hd,hs,_⟩:=hK
 have:=EsM.find (P:=P) hs key 0 he
 simp only [Nat.zero_add] at this
 exact MapKept.run_findKey hd this
theorem o_lk{t k e:TypeId}{y z:Operand}{key:K}{m:List (K×V)}{z0:V}(i:Nat)(hu:x.P.underlying t=some (.map k e))(hK:KOk x.P k kv)(hz0:∀w,(zeroValue e).run x.P w = .ok (vv z0) w)
  (hy:ev E y=some v) (hz:ev E z=some (kv key)) (hk:L[i]? = some (OwM kv vv v m)) :
  OV x (.lookup t y z true) ty E R L (.tuple #[vv ((mget m key).getD z0),vB (mget m key).isSome]) :=
 ou_of fun _ _ _ _ a w hf hs=>⟨w,by
  obtain ⟨h,⟨r,es,clock,rfl,hr,he,hst⟩,hw⟩:=hs.get hk
  have hg:=hw _ _ hr
  have hf2:=run_find hK he key w
  obtain ⟨d,hd,h1,h2⟩:=hK
  have hc:(Instr.lookup t (.map (some r)) (kv key) true).run x.P w = .ok (.tuple #[vv ((mget m key).getD z0),vB (mget m key).isSome]) w:=by
   rw [mget_at]
   cases hm:mat m key with
   | none=>rw [hm] at hf2;simp [Instr.lookup,run_underlying hu,MapKept.run_getObj_map hg,MapKept.run_checkKey hd (h2 key),hf2,hz0,vB,Result.andThen]
   | some p=>rw [hm] at hf2;simp [Instr.lookup,run_underlying hu,MapKept.run_getObj_map hg,MapKept.run_checkKey hd (h2 key),hf2,vB,Result.andThen]
  simp [execOp,hf.ev hy,hf.ev hz,hc],hs⟩
theorem o_lk1{t k e:TypeId}{y z:Operand}{key:K}{m:List (K×V)}{z0:V}(i:Nat)(hu:x.P.underlying t=some (.map k e))(hK:KOk x.P k kv)(hz0:∀w,(zeroValue e).run x.P w = .ok (vv z0) w)
  (hy:ev E y=some v) (hz:ev E z=some (kv key)) (hk:L[i]? = some (OwM kv vv v m)) :
  OV x (.lookup t y z false) ty E R L (vv ((mget m key).getD z0)) :=
 ou_of fun _ _ _ _ a w hf hs=>⟨w,by
  obtain ⟨h,⟨r,es,clock,rfl,hr,he,hst⟩,hw⟩:=hs.get hk
  have hg:=hw _ _ hr
  have hf2:=run_find hK he key w
  obtain ⟨d,hd,h1,h2⟩:=hK
  have hc:(Instr.lookup t (.map (some r)) (kv key) false).run x.P w = .ok (vv ((mget m key).getD z0)) w:=by
   rw [mget_at]
   cases hm:mat m key with
   | none=>rw [hm] at hf2;simp [Instr.lookup,run_underlying hu,MapKept.run_getObj_map hg,MapKept.run_checkKey hd (h2 key),hf2,hz0,Result.andThen]
   | some p=>rw [hm] at hf2;simp [Instr.lookup,run_underlying hu,MapKept.run_getObj_map hg,MapKept.run_checkKey hd (h2 key),hf2,Result.andThen]
  simp [execOp,hf.ev hy,hf.ev hz,hc],hs⟩
theorem upd_obj{w:World}{b:Nat}{o o':Obj}(hb:w.heap[b]? = some o):Upd w { w with heap:=w.heap.setIfInBounds b o' } b o':=by
 have hlt:b<w.heap.size:=(Array.getElem?_eq_some_iff.1 hb).1
 exact ⟨rfl,rfl,rfl,by simp,by simp [hlt],fun k hk=>by simp [Ne.symm hk]⟩
theorem St.map{G:World}{w:World}{r clock clock':Nat}{es es':Array MapEntry}{m m':List (K×V)}(hs:St G R (OwM kv vv (.map (some r)) m::L) w)(hr:w.heap[r]? = some (.map es clock))(he:EsM kv vv es'.toList m'∧MapKept.Stamped es' clock'):
  St G R (OwM kv vv (.map (some r)) m'::L) { w with heap:=w.heap.setIfInBounds r (.map es' clock') } := by
 refine hs.updP (b:=r) (o' := .map es' clock') (upd_obj hr) fun k hk hkw =>?_
 obtain ⟨r2,es2,c2,e1,h1,_⟩:=hk
 cases e1
 exact ⟨by rw [h1];simp,r,es',clock',rfl,by simp,he.1,he.2⟩
theorem o_mu{t k e:TypeId}{y z q:Operand}{key:K}{val:V}{m:List (K×V)}(hu:x.P.underlying t=some (.map k e))(hK:KOk x.P k kv)
  (hy:ev E y=some v) (hz:ev E z=some (kv key)) (hq:ev E q=some (vv val)) (hL:L=OwM kv vv v m::L') :
  OU x (.mapUpdate t y z q) ty E R L undef R (OwM kv vv v (mput m key val)::L'):=by
 subst hL
 refine ou_of_skip fun _ _ _ _ a w hf hs =>?_
 obtain ⟨h,⟨r,es,clock,rfl,hr,he,hst⟩,hw⟩:=hs.get (i:=0) rfl
 have hg:=hw _ _ hr
 have hf2:=run_find hK he key w
 obtain ⟨d,hd,h1,h2⟩:=hK
 cases hm:mat m key with
 | none =>
  rw [hm] at hf2
  refine ⟨{ w with heap:=w.heap.setIfInBounds r (.map (es.push { key:=kv key,val:=vv val,born:=clock }) (clock+1)) },?_,?_⟩
  ·simp [execOp,hf.ev hy,hf.ev hz,hf.ev hq,Instr.mapUpdate,run_underlying hu,MapKept.run_getObj_map hg,MapKept.run_checkKey hd (h2 key),hf2,MapKept.run_setObj_map _ hg,Result.andThen]
  ·refine hs.map hg ⟨?_,MapKept.stamped_push hst (EsM.new h1 he hm)⟩
   rw [mat_none_put hm]
   have he':es.toList.map (fun e=>(e.key,e.val))=m.map fun p=>(kv p.1,vv p.2):=he
   simp [EsM,he']
 | some p =>
  rw [hm] at hf2
  obtain ⟨i,u⟩:=p
  obtain ⟨g1,e,g2,g3⟩:=EsM.put (z:=val) he hm
  have g2':es[i]? = some e:=by simpa using g2
  refine ⟨{ w with heap:=w.heap.setIfInBounds r (.map (es.modify i fun e => { e with key:=kv key,val:=vv val }) clock) },?_,?_⟩
  ·simp [execOp,hf.ev hy,hf.ev hz,hf.ev hq,Instr.mapUpdate,run_underlying hu,MapKept.run_getObj_map hg,MapKept.run_checkKey hd (h2 key),hf2,g2',g3,MapKept.run_keyThatStays (h2 key),MapKept.run_setObj_map _ hg,Result.andThen]
  ·refine hs.map hg ⟨by rw [Array.toList_modify];exact g1,MapKept.stamped_modify hst _ _ (fun _ _=>rfl) fun e' _ he2 =>?_⟩
   rw [g2'] at he2;cases he2;exact g3.symm
theorem o_del{t k e:TypeId}{y z:Operand}{key:K}{m:List (K×V)}{ats:Array TypeId}(hu:x.P.underlying t=some (.map k e))(hK:KOk x.P k kv)(ha:ats[0]? = some t)
  (hy:ev E y=some v) (hz:ev E z=some (kv key)) (hL:L=OwM kv vv v m::L') :
  OU x (.call ⟨.builtin .delete,#[y,z],ats⟩) ty E R L (.tuple #[]) R (OwM kv vv v (mdel m key)::L'):=by
 subst hL
 refine ou_of fun _ _ _ _ a w hf hs =>?_
 obtain ⟨h,⟨r,es,clock,rfl,hr,he,hst⟩,hw⟩:=hs.get (i:=0) rfl
 have hg:=hw _ _ hr
 have hf2:=run_find hK he key w
 obtain ⟨d,hd,h1,h2⟩:=hK
 cases hm:mat m key with
 | none =>
  rw [hm] at hf2
  refine ⟨{ w with heap:=w.heap.setIfInBounds r (.map es clock) },?_,?_⟩
  ·have:(Builtin.delete_ ats ty #[.map (some r),kv key]).run x.P w = .ok (.tuple #[]) { w with heap:=w.heap.setIfInBounds r (.map es clock) } := by
    simp [Builtin.delete_,ha,run_underlying hu,MapKept.run_getObj_map hg,MapKept.run_checkKey hd (h2 key),hf2,MapKept.run_setObj_map _ hg,Result.andThen]
   simp [execOp,resolve,hf.ev hy,hf.ev hz,invoke,builtin,this]
  ·refine hs.map hg ⟨?_,hst⟩
   rw [mat_none_del hm]
   exact he
 | some p =>
  rw [hm] at hf2
  obtain ⟨i,u⟩:=p
  refine ⟨{ w with heap:=w.heap.setIfInBounds r (.map (es.eraseIdxIfInBounds i) clock) },?_,?_⟩
  ·have:(Builtin.delete_ ats ty #[.map (some r),kv key]).run x.P w = .ok (.tuple #[]) { w with heap:=w.heap.setIfInBounds r (.map (es.eraseIdxIfInBounds i) clock) } := by
    simp [Builtin.delete_,ha,run_underlying hu,MapKept.run_getObj_map hg,MapKept.run_checkKey hd (h2 key),hf2,MapKept.run_setObj_map _ hg,Result.andThen]
   simp [execOp,resolve,hf.ev hy,hf.ev hz,invoke,builtin,this]
  ·refine hs.map hg ⟨?_,MapKept.stamped_erase hst i⟩
   have:=EsM.del he hm
   simpa using this
end
end Go.Proofs.YtpanhdnglicknaaGreat.Hw
