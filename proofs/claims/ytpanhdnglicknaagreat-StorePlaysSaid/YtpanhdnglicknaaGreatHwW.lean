import Derived.Test.YtpanhdnglicknaaGreatHwY
import Derived.Maps.RangeRun
import Derived.Maps.Range
set_option linter.unusedSectionVars false
set_option linter.unusedSimpArgs false
set_option linter.unusedVariables false
namespace Go.Proofs.YtpanhdnglicknaaGreat.Hw
open Go
section
variable {x:Cx} {ks:List KF} {E:Env} {R R':PH} {L L':List HP} {ops:Array Oper} {ty:TypeId} {v u:Value} {d:Nat} {G:World} {w:World}
variable {K V:Type} {kv:K→Value} {vv:V→Value}
def MpI(kv:K→Value)(vv:V→Value)(v:Value)(m:List (K×V))(it:Nat)(cur:Option (K×V))(done:List K):HP:=fun h =>
 ∃r es clock since seen c0,v = .map (some r)∧h r=some (.map es clock)∧EsM kv vv es.toList m∧MapKept.Stamped es clock∧h it=some (.mapIter (some r) since seen c0) ∧
  (∀y∈es.toList,y.born<since)∧since≤c0∧since≤clock∧(∀y∈es.toList,∀k,y.key=kv k→(seen.contains y.born=true↔k∈done)) ∧
  ∀p,cur=some p→∃(s:Array Nat) (e:MapEntry),seen=s.push e.born∧c0=clock∧e∈es.toList∧e.key=kv p.1∧e.val=vv p.2
theorem EsM.mem:∀{es:List MapEntry} {m:List (K×V)},EsM kv vv es m→∀y∈es,∃p∈m,y.key=kv p.1∧y.val=vv p.2:=fun {es m} h y hy=>by
 have:(y.key,y.val)∈m.map fun p=>(kv p.1,vv p.2):=by rw [←h];exact List.mem_map.2 ⟨y,hy,rfl⟩
 obtain ⟨p,hp,e⟩:=List.mem_map.1 this
 obtain ⟨e1,e2⟩:=Prod.mk.inj e
 exact ⟨p,hp,e1.symm,e2.symm⟩
theorem EsM.mem':∀{es:List MapEntry} {m:List (K×V)},EsM kv vv es m→∀p∈m,∃y∈es,y.key=kv p.1:=fun {es m} h p hp=>by
 have:(kv p.1,vv p.2)∈es.map fun e=>(e.key,e.val):=by rw [h];exact List.mem_map.2 ⟨p,hp,rfl⟩
 obtain ⟨y,hy,e⟩:=List.mem_map.1 this
 exact ⟨y,hy,(Prod.mk.inj e).1⟩
theorem EsM.nd{es:Array MapEntry}{clock:Nat}{m:List (K×V)}(h:EsM kv vv es.toList m)(hs:MapKept.Stamped es clock):(m.map (·.1)).Nodup:=by
 have h1:=hs.2.2
 have:es.toList.map (·.key)=m.map fun p=>kv p.1:=by
  have:=congrArg (List.map Prod.fst) h
  simpa [List.map_map,Function.comp_def] using this
 rw [this] at h1
 have e:(m.map fun p=>kv p.1)=(m.map (·.1)).map kv:=by simp [List.map_map,Function.comp_def]
 rw [e] at h1
 exact (List.pairwise_map.1 h1).imp fun h e=>h (congrArg kv e)
theorem o_rng{t k e:TypeId}{y:Operand}{m:List (K×V)}(ht:x.P.underlying t=some (.map k e))(hy:ev E y=some v)(hL:L=OwM kv vv v m::L'):
  OW x ks (.range t y) ty E R L (fun u R' L2=>R'=R∧∃it,u=pt it 0∧L2=MpI kv vv v m it none []::L'):=by
 subst hL
 exact ow_of fun dst pos aft g a w hf hst=>by
  obtain ⟨h,⟨r,es,clock,rfl,hr,he,hst0⟩,hw⟩:=hst.get (i:=0) rfl
  have hg:=hw _ _ hr
  refine ⟨pt w.heap.size 0,R,MpI kv vv (.map (some r)) m w.heap.size none []::L',w.alloc (.mapIter (some r) clock #[] clock),?_,Le.refl R,⟨rfl,_,rfl,rfl⟩,?_⟩
  ·have:=run_range_map (P:=x.P) w t k e r es clock ht hg
   simp [execOp,hf.ev hy,this,Result.andThen,pt,-World.alloc_eq]
  ·refine St.head hst rfl rfl rfl fun k hk hkw =>?_
   obtain ⟨r',es',clock',e1,h1,h2,h3⟩:=hk
   cases e1
   have hlt:r<w.heap.size:=(Array.getElem?_eq_some_iff.1 (hkw _ _ h1)).1
   have hne:r≠w.heap.size:=by omega
   refine ⟨fun b=>if b=w.heap.size then some (.mapIter (some r) clock' #[] clock') else k b,⟨r,es',clock',clock',#[],clock',rfl,?_,h2,h3,?_,h3.1,Nat.le_refl _,Nat.le_refl _,fun y _ q _=>by simp,fun _ h=>nomatch h⟩,fun b o hb =>?_,fun b hb =>?_,fun b hb _ =>?_⟩
   ·show (if r=w.heap.size then _ else k r)=_
    rw [if_neg hne,h1]
   ·exact if_pos rfl
   ·by_cases hbs:b=w.heap.size
    ·subst hbs
     have hb:=(if_pos rfl).symm.trans hb
     cases hb
     have hes:(some (Obj.map es clock))=some (.map es' clock'):=by rw [←hg];exact hkw _ _ h1
     cases hes
     exact (MapKept.heap_alloc w _).1
    ·have hb:=(if_neg hbs).symm.trans hb
     have:=hkw _ _ hb
     have hl:=(Array.getElem?_eq_some_iff.1 this).1
     rw [←this]
     exact (MapKept.heap_alloc w _).2 b hl
   ·by_cases hbs:b=w.heap.size
    ·exact .inr (by omega)
    ·exact .inl fun q=>hb ((if_neg hbs).trans q)
   ·exact (MapKept.heap_alloc w _).2 b hb
theorem o_nxt{y:Operand}{it:Nat}{m:List (K×V)}{cur:Option (K×V)}{done:List K}(hi:∀a b,kv a=kv b→a=b)(hy:ev E y=some (pt it 0))(hL:L=MpI kv vv v m it cur done::L'):
  OW x ks (.next y false) ty E R L (fun u R' L2=>R'=R∧((u = .tuple #[vB false]∧(∀p∈m,p.1∈done)∧L2=L)∨∃p∈m,p.1∉done∧u = .tuple #[vB true,kv p.1,vv p.2]∧L2=MpI kv vv v m it (some p) (done++[p.1])::L')):=by
 subst hL
 exact ow_of fun dst pos aft g a w hf hst=>by
  obtain ⟨h,⟨r,es,clock,since,seen,c0,rfl,hr,he,hst0,hit,hb,h1,h2,hd,_⟩,hw⟩:=hst.get (i:=0) rfl
  have hgr:=hw _ _ hr
  have hgi:=hw _ _ hit
  have hne:r≠it:=by rintro rfl;rw [hr] at hit;cases hit
  rcases run_next_at (P:=x.P) w ty it r since c0 seen es clock hgi hgr hb h1 with ⟨h0,hrun⟩ | ⟨e,hel,w1,hal,hrun⟩
  ·refine ⟨.tuple #[vB false],R,_,w,by simp [execOp,hf.ev hy,hrun,Result.andThen,pt,vB],Le.refl R,⟨rfl,.inl ⟨rfl,fun p hp =>?_,rfl⟩⟩,hst⟩
   obtain ⟨q,hq,e1⟩:=he.mem' p hp
   exact (hd q hq _ e1).1 (all_seen es seen h0 q hq)
  ·obtain ⟨hem,hes⟩:=mem_left hel
   obtain ⟨p,hp,e1,e2⟩:=he.mem e hem
   refine ⟨.tuple #[vB true,kv p.1,vv p.2],R,MpI kv vv (.map (some r)) m it (some p) (done++[p.1])::L',ChangeMaps.setBlock w1 it (.mapIter (some r) since (seen.push e.born) clock),by simp [execOp,hf.ev hy,hrun,Result.andThen,pt,vB,e1,e2],Le.refl R,⟨rfl,.inr ⟨p,hp,fun hin =>?_,rfl,rfl⟩⟩,?_⟩
   ·rw [(hd e hem _ e1).2 hin] at hes;cases hes
   ·have hst1:St x.G R (MpI kv vv (.map (some r)) m it cur done::L') w1:=by rcases hal with rfl | rfl;exact hst;exact hst.drew
    have hr1:w1.heap[r]? = some (.map es clock):=by rcases hal with rfl | rfl <;> exact hgr
    have hi1:w1.heap[it]? = some (.mapIter (some r) since seen c0):=by rcases hal with rfl | rfl <;> exact hgi
    have hset:=MapKept.heap_set (o' := .mapIter (some r) since (seen.push e.born) clock) hi1
    refine St.head hst1 rfl rfl rfl fun k hk hkw =>?_
    obtain ⟨r',es',clock',since',seen',c0',q0,q1,q2,q3,q4,q5,q6,q7,q8,_⟩:=hk
    cases q0
    have z1:(some (Obj.map es' clock'))=some (.map es clock):=by rw [←hr1];exact (hkw _ _ q1).symm
    have z2:(some (Obj.mapIter (some r) since' seen' c0'))=some (.mapIter (some r) since seen c0):=by rw [←hi1];exact (hkw _ _ q4).symm
    cases z1;cases z2
    refine ⟨fun b=>if b=it then some (.mapIter (some r) since (seen.push e.born) clock) else k b,⟨r,es,clock,since,seen.push e.born,clock,rfl,?_,he,hst0,if_pos rfl,hb,h2,h2,fun y hy q hq =>?_,fun p' hp'=>by cases hp';exact ⟨seen,e,rfl,rfl,hem,e1,e2⟩⟩,fun b o hbo =>?_,fun b hbn =>?_,fun b hb2 hbn =>?_⟩
    ·show (if r=it then _ else k r)=_
     rw [if_neg hne,q1]
    ·rw [contains_push,Bool.or_eq_true,hd y hy q hq,List.mem_append,List.mem_singleton]
     refine or_congr Iff.rfl ⟨fun hbn =>?_,fun hq2 =>?_⟩
     ·have hbe:y.born=e.born:=by simpa using hbn
      have:y=e:=born_inj hst0.2.1 hy hem hbe
      subst this
      exact hi _ _ (hq.symm.trans e1)
     ·have hk2:y.key=e.key:=by rw [hq,e1,hq2]
      have:y=e:=entry_eq_of_key ((MapKept.stamped_iff es clock).1 hst0).2.2 hy hem hk2
      subst this
      simp
    ·by_cases hbi:b=it
     ·subst hbi
      have hbo:=(if_pos rfl).symm.trans hbo
      cases hbo
      exact hset.1
     ·have hbo:=(if_neg hbi).symm.trans hbo
      exact (hset.2 b hbi).trans (hkw _ _ hbo)
    ·by_cases hbi:b=it
     ·subst hbi;exact .inl (by rw [q4];simp)
     ·exact .inl fun q=>hbn ((if_neg hbi).trans q)
    ·have hbi:b≠it:=by rintro rfl;rw [q4] at hbn;cases hbn
     exact hset.2 b hbi
theorem o_ent{y:Operand}{it:Nat}{m:List (K×V)}{p:K×V}{done:List K}(i:Nat)(hy:ev E y=some (pt it 0))(hk:L[i]? = some (MpI kv vv v m it (some p) done)):OV x (.entry y) ty E R L (.tuple #[kv p.1,vv p.2]) :=
 ou_of fun _ _ _ _ a w hf hs=>⟨w,by
  obtain ⟨h,⟨r,es,clock,since,seen,c0,rfl,hr,he,hst0,hit,hb,h1,h2,hd,hc⟩,hw⟩:=hs.get hk
  obtain ⟨s,e,rfl,rfl,hem,e1,e2⟩:=hc p rfl
  have hgi:=hw _ _ hit
  have hgr:=hw _ _ hr
  have hrun:=run_entry_at (P:=x.P) w it r since s es _ e hgi hgr hem hst0.2.1
  simp [execOp,hf.ev hy,hrun,Result.andThen,pt,e1,e2],hs⟩
theorem o_ixSY{t:TypeId}{y z:Operand}{s:Str}{i c:UInt8}(hu:x.P.underlying t=some .string)(hy:ev E y=some (vS s))(hz:ev E z=some (vY i))(h:gi s (i.toNat:Int)=some c):
  OV x (.index t y z) ty E R L (vY c) :=
 ou_of fun _ _ _ _ a w hf hs=>⟨w,by
  obtain ⟨⟨h0,h1⟩,h2⟩:=gi_some h
  have hg:=str_get s i.toNat
  rw [Int.toNat_natCast] at h2
  rw [h2] at hg
  simp [execOp,hf.ev hy,hf.ev hz,Instr.index,asIntOf,vY,vS,run_underlying hu w,h0,hg],hs⟩
theorem co_hdm [BEq K][LawfulBEq K]{P:Program}{f:FuncId}{m:List (K×V)}{G:World}{F:List HP}{Q:Ending→PH→List HP→Prop}(h:∀a,v = .map a→CO P f [v] G R (OwM kv vv v m::F) Q):CO P f [v] G R (OwM kv vv v m::F) Q:=fun w hs=>by
 obtain ⟨a,e⟩:=hd_m 0 rfl w hs
 exact h a e w hs
theorem co_ndm{P:Program}{f:FuncId}{args:List Value}{m:List (K×V)}{G:World}{Q:Ending→PH→List HP→Prop}(i:Nat)(hk:L[i]? = some (OwM kv vv v m))(h:∀a,v = .map a→(m.map (·.1)).Nodup→CO P f args G R L Q):CO P f args G R L Q:=fun w hs=>by
 obtain ⟨k,⟨r,es,clock,e,hr,he,hst⟩,_⟩:=hs.get hk
 exact h _ e (he.nd hst) w hs
theorem MpI.own{m:List (K×V)}{it:Nat}{cur:Option (K×V)}{done:List K}(w:World)(h:St G R (MpI kv vv v m it cur done::L) w):St G R (OwM kv vv v m::L) w :=
 st_wk (fun k hk=>by obtain ⟨r,es,clock,_,_,_,q0,q1,q2,q3,_⟩:=hk;exact ⟨r,es,clock,q0,q1,q2,q3⟩) h
theorem MpI.nd{m:List (K×V)}{it:Nat}{cur:Option (K×V)}{done:List K}(k:Nat)(hk:L[k]? = some (MpI kv vv v m it cur done))(w:World)(hs:St G R L w):(m.map (·.1)).Nodup:=by
 obtain ⟨h,⟨r,es,clock,since,seen,c0,rfl,hr,he,hst0,_⟩,hw⟩:=hs.get hk
 exact he.nd hst0
end
section
variable {x:Cx} {ks:List KF} {E E':Env} {R R':PH} {L L':List HP}
def GivesP{α:Type}(P:Program)(G:World)(R:PH)(gf:FuncId)(lb:List Value)(enc:α→Value)(ok:List α→α→Prop)(fin:List α→Prop)(A0:List HP):Prop :=
 ∀(l:Nat) (F:List HP) (Inv:List α→List HP→Prop),Inv [] F →
  (∀(A:List HP) (pre:List α) (k:α) (F:List HP),Inv pre F→ok pre k→YO P l [enc k] G R (A++F) (Ret fun u R' L'=>u=vB true∧R'=R∧∃F',L'=A++F'∧Inv (pre++[k]) F')) →
  CO P gf (.func (.yield l) #[] #[]::lb) G R (A0++F) (Ret fun u R' L'=>u = .tuple #[]∧R'=R∧∃F' kz,L'=A0++F'∧fin kz∧Inv kz F')
theorem c_rangeP{α:Type}{g:Operand}{t:Tmp}{assign body:Code}{gf:FuncId}{lb:List Value}{enc:α→Value}{ok:List α→α→Prop}{fin:List α→Prop}{A0 L0:List HP}(Inv:List α→List HP→Prop)
  (hg:ev E g=some (.func (.func gf) #[] lb.toArray)) (hc:Ca x.P gf) (ht:Nat.blt t x.N=true) (hG:GivesP x.P x.G R gf lb enc ok fin A0) (h0:Inv [] L0) {E1:α→Env}
  (hassign:∀(k:α) (y:Cx),y.P=x.P→y.G=x.G→y.N=x.N→y.D=[]→∀ks L,EX y .normal ks (E1 k) R L→CD y assign ks ((t,enc k)::E) R L)
  (hbody:∀(l:Nat) (T:List HP) (pre:List α) (k:α) (L1:List HP),Inv pre L1→ok pre k →
   CD ⟨x.P,x.fn,x.G,R,x.N,fun e R' L'=>e = .returned (.bool true)∧R'=R∧∃L2,L'=L2++T∧Inv (pre++[k]) L2,[],.round l⟩ body [] (E1 k) R (L1++T))
  (hk:∀D L1 kz,fin kz→Inv kz L1→EX { x with D:=mark D::x.D } .normal ks E R (Blk D (.deferred (some []))::(A0++L1))) (hro:x.md.ro=none:=by rfl) :
  CD x (.rangeFunc g #[t] assign body) ks E R (A0++L0):=by
 refine c_rangeF (K:=fun R' L1=>R'=R∧∃F kz,L1=A0++F∧fin kz∧Inv kz F) hro hg hc (fun fid l D tmps hfr =>?_) ?_
 ·refine CO.conv (hG l (L0++[Blk l (.loop (Lrec fid tmps #[t] assign body D .ready none)),Blk D (.deferred (some []))])
   (fun pre F=>∃L1,F=L1++[Blk l (.loop (Lrec fid tmps #[t] assign body D .ready none)),Blk D (.deferred (some []))]∧Inv pre L1) ⟨L0,rfl,h0⟩ ?_) ?_ ?_
  ·rintro A pre k F ⟨L1,rfl,hi⟩ hlen
   refine YO.conv (yo_round (D:=D) (body:=body) (fid:=fid) (fn:=x.fn) (N:=x.N) (E0:=(t,enc k)::E) (E1:=E1 k) (L0:=Blk D (.deferred (some []))::(A++L1)) (K:=fun R' L'=>R'=R∧∃L2,L'=Blk D (.deferred (some []))::(A++L2)∧Inv (pre++[k]) L2)
    rfl (fr_round hfr ht) (fun y e1 e2 e3 e4 _ ks hx=>hassign k y e1 e2 e3 e4 ks _ hx) ?_) ?_ ?_
   ·intro a w hf hs
    have hs':=st_comm (x:=x) (Blk l (.loop (Lrec fid tmps #[t] assign body D .busy none))::Blk D (.deferred (some []))::A) L1 (by simpa using hs)
    refine wpIn_mono (hbody l _ pre k L1 hi hlen a w hf hs') ?_
    rintro e a' w' ⟨he,R',L',h1,⟨_,rfl,L2,rfl,hi2⟩,h3⟩
    have h4:=st_comm (x:=x) _ _ h3
    exact ⟨he,R',_,h1,⟨_,rfl,_,rfl,rfl,L2,rfl,hi2⟩,by simpa using h4⟩
   ·intro w hs
    have:=st_comm (x:=x) (A++L1) [Blk l (.loop (Lrec fid tmps #[t] assign body D .ready none)),Blk D (.deferred (some []))] (by simpa using hs)
    exact this
   ·rintro e R' L' ⟨u,rfl,rfl,_,rfl,rfl,L2,rfl,hi2⟩
    refine ⟨_,⟨_,rfl,rfl,rfl,_,rfl,L2,rfl,hi2⟩,fun w h =>?_⟩
    have:=st_comm (x:=x) [Blk l (.loop (Lrec fid tmps #[t] assign body D .ready none)),Blk D (.deferred (some []))] (A++L2) h
    simpa using this
  ·intro w hs
   have:=st_comm (x:=x) [Blk l (.loop (Lrec fid tmps #[t] assign body D .ready none)),Blk D (.deferred (some []))] (A0++L0) hs
   simpa using this
  ·rintro e R' L' ⟨u,rfl,rfl,rfl,F',kz,rfl,hfin,L2,rfl,hi2⟩
   refine ⟨_,⟨_,rfl,_,rfl,rfl,L2,kz,rfl,hfin,hi2⟩,fun w h =>?_⟩
   have:=st_comm (x:=x) (A0++L2) [Blk l (.loop (Lrec fid tmps #[t] assign body D .ready none)),Blk D (.deferred (some []))] (by simpa using h)
   exact this
 ·rintro D R' L1 _ ⟨rfl,F,kz,rfl,hfin,hi⟩
  exact hk D F kz hfin hi
end
end Go.Proofs.YtpanhdnglicknaaGreat.Hw
