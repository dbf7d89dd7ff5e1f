import Derived.Test.YtpanhdnglicknaaGreatHwS
set_option linter.unusedSectionVars false
set_option linter.unusedSimpArgs false
set_option linter.unusedVariables false
namespace Go.Proofs.YtpanhdnglicknaaGreat.Hw
open Go
def trigM(n:Nat)(ms:List Nat)(fr:Fresh):Bool :=
 (List.range n).all fun i=>(fr.all fun p => !((ms.getD i 0).testBit p.1))||fr.all fun p=>(ms.getD i 0).testBit p.1
def quietG(ops:Array Oper)(ms effs:List Nat)(fr:Fresh)(S:List Nat):List Nat :=
 (quietOf ops.size ms effs S).filter fun i => !(isFr fr i) && !(fr.any fun p=>(ms.getD i 0).testBit p.1)
def effG(ops:Array Oper)(ms effs:List Nat)(fr:Fresh)(S:List Nat):List Nat :=
 (effsOf ms effs S).filter fun i => !(fr.any fun p=>(ms.getD i 0).testBit p.1)
section
variable {x:Cx} {ks:List KF} {ops:Array Oper} {effs S:List Nat} {V E0:Env} {R:PH} {L:List HP} {fr:Fresh}
theorem stageG(hw:wfR 0 [] ops.toList=true)(hE:(effs.all fun e=>Nat.blt e ops.size)=true)(hS:(S.all fun s=>effs.any (Nat.beq s))=true)
  (hN:(ops.toList.all fun o=>match o.dst with | some d=>Nat.blt d x.N | none=>true)=true)
  (hfr:(fr.all fun p=>Nat.blt p.1 ops.size && !(effs.any (Nat.beq p.1))&&(lk V p.1).isNone)=true) (hnd:decide (fr.map (·.1)).Nodup=true)
  (ms qs es:List Nat) (htr:trigM ops.size ms fr=true) (hms:masks ops.toList []=ms) (hqs:quietG ops ms effs fr S=qs) (hes:effG ops ms effs fr S=es)
  (hq:QuietT x ops V E0 R L qs) (hf:FrOK x ops ks V E0 R fr) (he:EffT x ops ks effs fr S V E0 R L es)
  (ht:∀β,Stage x ops ks (effs++fr.map (·.1)) (S++fr.map (·.1)) (V++frV fr β) E0 R (frC fr β++L)):StageF x ops ks effs fr S V E0 R L:=by
 subst hqs;subst hes
 have hnd':(fr.map (·.1)).Nodup:=by simpa using hnd
 have hlt:∀{i:Nat} {o:Oper},ops[i]? = some o→∀d,o.dst=some d→d<x.N:=fun {i o} ho d hd=>by
  have hm:o∈ops.toList:=by
   rcases Nat.lt_or_ge i ops.size with h | h
   ·rw [Array.getElem?_eq_getElem h] at ho;cases ho;simp
   ·rw [Array.getElem?_eq_none h] at ho;cases ho
  have:=List.all_eq_true.1 hN o hm
  rw [hd] at this
  simpa using this
 have hfi:∀p∈fr,p.1<ops.size∧p.1∉effs∧lk V p.1=none:=fun p hp=>by
  have:=List.all_eq_true.1 hfr p hp
  simp only [Bool.and_eq_true] at this
  refine ⟨by simpa using this.1.1,fun hm =>?_,by simpa using this.2⟩
  have h2:=this.1.2
  rw [any_beq.2 hm] at h2
  cases h2
 intro fuel
 induction fuel with
 | zero =>
  intro li a w β hsi hle hst
  by_cases hall:∀p∈fr,li.getD p.1 false=true
  ·have e:frH fr li β=frC fr β:=by
    unfold frH frC
    exact List.map_congr_left fun p hp=>by rw [hall p hp];rfl
   rw [e] at hst
   exact ht β 0 li a w (hsi.toSI hall fun p hp=>(hfi p hp).2.1) hle (st_comm _ _ hst)
  ·exfalso
   apply hall
   intro p hp
   cases hl:li.getD p.1 false with
   | true=>rfl
   | false =>
    have:0<left ops.size li:=List.countP_pos_iff.2 ⟨p.1,by simpa using (hfi p hp).1,by simp [hl]⟩
    omega
 | succ fuel ih =>
  intro li a w β hsi hle hst
  by_cases hall:∀p∈fr,li.getD p.1 false=true
  ·have e:frH fr li β=frC fr β:=by
    unfold frH frC
    exact List.map_congr_left fun p hp=>by rw [hall p hp];rfl
   rw [e] at hst
   exact ht β _ li a w (hsi.toSI hall fun p hp=>(hfi p hp).2.1) hle (st_comm _ _ hst)
  have hnall:∃p∈fr,li.getD p.1 false=false:=by
   apply Classical.byContradiction
   intro h
   apply hall
   intro p hp
   cases hl:li.getD p.1 false with
   | true=>rfl
   | false=>exact absurd ⟨p,hp,hl⟩ h
  obtain ⟨p0,hp0,hl0⟩:=hnall
  refine ⟨fun hr =>?_,fun i hm =>?_⟩
  ·have:=ready_none hw hsi.sz hr p0.1 (hfi p0 hp0).1
   rw [hl0] at this;cases this
  obtain ⟨o,ho,h1,hp⟩:=ready_mem hm
  have hi:i<ops.size:=by
   rcases Nat.lt_or_ge i ops.size with h | h
   ·exact h
   ·rw [Array.getElem?_eq_none h] at ho;cases ho
  have hi':i<li.size:=by rw [hsi.sz];exact hi
  have hnot:li.getD i false=false:=by
   rw [Array.getD_eq_getD_getElem?,Array.getElem?_eq_getElem hi'] at h1 ⊢
   simpa using h1
  have hleft:left ops.size (li.setIfInBounds i true)≤fuel:=by
   have:left ops.size (li.setIfInBounds i true)<left ops.size li:=countP_lt (k:=i) (fun j hj=>by
    rw [getD_set hi'] at hj
    split at hj
    ·simp at hj
    ·exact hj) (by simpa using hi) (by rw [getD_set hi'];simp) (by simp [hnot])
   omega
  have hturn:turn ms effs S i=true:=by
   unfold turn
   refine List.all_eq_true.2 fun e he' =>?_
   cases hc:(ms.getD i 0).testBit e with
   | false=>rfl
   | true=>simpa using any_beq.2 ((hsi.eff e he').1 (anc_ready hsi.clo ho hp (masks_get hms hc)))
  have hnop:(fr.any fun p=>(ms.getD i 0).testBit p.1)=false:=by
   cases hc:(fr.any fun p=>(ms.getD i 0).testBit p.1) with
   | false=>rfl
   | true =>
    exfalso
    obtain ⟨p,hpm,hpb⟩:=List.any_eq_true.1 hc
    have h2:=List.all_eq_true.1 htr i (List.mem_range.2 hi)
    rw [Bool.or_eq_true] at h2
    rcases h2 with h2 | h2
    ·have:=List.all_eq_true.1 h2 p hpm
     rw [hpb] at this;cases this
    ·have:=anc_ready hsi.clo ho hp (masks_get hms (List.all_eq_true.1 h2 p0 hp0))
     rw [hl0] at this;cases this
  have hfr':=hsi.fr_ ho hnot hp
  refine wpo_of ho ?_
  by_cases hmem:i∈effs
  ·have hnS:i∉S:=fun h=>by rw [(hsi.eff i hmem).2 h] at hnot;cases hnot
   have hnf:isFr fr i=false:=by
    cases hc:isFr fr i with
    | false=>rfl
    | true=>obtain ⟨p,hp,e⟩:=isFr_mem.1 hc;subst e;exact absurd hmem (hfi p hp).2.1
   have hin:i∈effG ops ms effs fr S:=by
    unfold effG effsOf
    refine List.mem_filter.2 ⟨List.mem_filter.2 ⟨hmem,?_⟩,by rw [hnop];rfl⟩
    rw [hturn,Bool.and_true,Bool.not_eq_true',Bool.eq_false_iff]
    exact fun h=>hnS (any_beq.1 h)
   obtain ⟨o',v,R',L',ho',hR,hos,hnext⟩:=he.get i hin
   rw [ho] at ho';cases ho'
   refine hos _ a w _ hfr' hst fun u R1 L1 w' _ hC hs' =>?_
   obtain ⟨h1,h2,h3⟩:=hC
   subst h1;subst h2;subst h3
   refine hnext fuel _ _ w' β (hsi.next hw ho hnot hp _ (.inr ⟨hnf,by simp [lk]⟩) (fun _ _=>rfl) ?_ ?_ ?_ (hlt ho)) hleft (by rw [frH_set hi' hnf];exact hs')
   ·intro j u' hj hl
    simp only [lk] at hl
    cases hji:Nat.beq i j with
    | true=>have:=Nat.eq_of_beq_eq_true hji;subst this;rw [hnot] at hj;cases hj
    | false=>rw [hji,cond_false] at hl;exact hl
   ·intro j hj
    rcases hsi.cov j hj with h | h
    ·exact .inl h
    ·right
     simp only [lk]
     cases Nat.beq i j with
     | true=>simp
     | false=>exact h
   ·intro e _;simp
  ·cases hnf:isFr fr i with
   | true =>
    obtain ⟨p,hpm,rfl⟩:=isFr_mem.1 hnf
    obtain ⟨o',ho',hos⟩:=hf.get p hpm
    rw [ho] at ho';cases ho'
    refine hos _ a w _ hfr' hst fun u R1 L1 w' _ hC hs' =>?_
    obtain ⟨h2,h3⟩:=hC
    subst h2;subst h3
    refine ih _ _ w' (fun j=>if j=p.1 then u else β j) (hsi.next hw ho hnot hp u (.inl ⟨hnf,by simp,(hfi p hpm).2.2⟩) (fun j hj=>by simp [hj]) (fun _ _ _ h=>h) hsi.cov ?_ (hlt ho)) hleft
     (frH_add hi' hnot hnd' L hpm rfl hs')
    intro e he
    constructor
    ·exact .inr
    ·rintro (h | h)
     ·subst h;exact absurd he hmem
     ·exact h
   | false =>
    have hin:i∈quietG ops ms effs fr S:=by
     unfold quietG quietOf
     refine List.mem_filter.2 ⟨List.mem_filter.2 ⟨by simpa using hi,?_⟩,by rw [hnop,hnf];rfl⟩
     rw [hturn,Bool.and_true,Bool.and_eq_true]
     refine ⟨by rw [Bool.not_eq_true',Bool.eq_false_iff];exact fun h=>hmem (any_beq.1 h),?_⟩
     rw [Bool.not_eq_true',Bool.eq_false_iff]
     intro h
     unfold surely at h
     obtain ⟨s,hs,hso⟩:=List.any_eq_true.1 h
     have hse:=any_beq.1 (List.all_eq_true.1 hS s hs)
     have:=anc_listed hsi.clo ((hsi.eff s hse).2 hs) (masks_get hms hso)
     rw [hnot] at this;cases this
    obtain ⟨o',v,ho',hv,hos⟩:=hq.get i hin
    rw [ho] at ho';cases ho'
    refine hos _ a w _ _ hfr' hst trivial fun w' hs' =>?_
    refine ih _ _ w' β (hsi.next hw ho hnot hp v (.inr ⟨hnf,hv⟩) (fun _ _=>rfl) (fun j u _ h=>h) hsi.cov ?_ (hlt ho)) hleft (by rw [frH_set hi' hnf];exact hs')
    intro e he
    constructor
    ·exact .inr
    ·rintro (h | h)
     ·subst h;exact absurd he hmem
     ·exact h
theorem fnil:FrOK x ops ks V E0 R []:=trivial
theorem fcons{p:Nat×(Value→HP)}{r:Fresh}{o:Oper}(ho:ops[p.1]? = some o)(h:∀A,OSW x ops ks o (envD ops V E0 p.1) R A (fun u R1 L1=>R1=R∧L1=p.2 u::A))(k:FrOK x ops ks V E0 R r):
  FrOK x ops ks V E0 R (p::r):=⟨⟨o,ho,h⟩,k⟩
end
theorem storeCells_runF{P:Program}{b T:Nat}{fr:Nat×Nat}(a0:Nat):∀(vs:List Value) (w:World) (cs:List Value) (i:Nat),
  w.heap[b]? = some (.cells cs.toArray T fr)→(∀v∈vs,v.oneCell'=true)→a0+i+vs.length≤cs.length→(∀k,a0+i≤k→k<a0+i+vs.length→¬(fr.1≤k∧k<fr.2)) →
  ∃w',(storeCells ⟨b,a0,none⟩ vs i).run P w = .ok () w'∧Upd w w' b (.cells (sp cs (a0+i) vs).toArray T fr)
 | [],w,cs,i,hb,_,_,_=>⟨w,rfl,rfl,rfl,rfl,rfl,by simpa [sp_nil] using hb,fun _ _=>rfl⟩
 | v::vs,w,cs,i,hb,hv,hl,hfr=>by
  simp only [List.length_cons] at hl hfr
  obtain ⟨w1,e1,u1⟩:=Ek (P:=P) (v:=v) (off:=a0+i) hb (hv v (by simp)) (by omega) (hfr _ (by omega) (by omega))
  obtain ⟨w2,e2,u2⟩:=storeCells_runF (P:=P) (b:=b) a0 vs w1 _ (i+1) u1.at_ (fun u hu=>hv u (by simp [hu])) (by simp;omega) (fun k h1 h2=>hfr k (by omega) (by omega))
  refine ⟨w2,?_,u2.os.trans u1.os,u2.tape.trans u1.tape,u2.out.trans u1.out,u2.size.trans u1.size,?_,fun k hk=>(u2.rest k hk).trans (u1.rest k hk)⟩
  ·show (do store ((⟨b,a0,none⟩:Addr).add i) v;storeCells ⟨b,a0,none⟩ vs (i+1):Sem Unit).run P w=_
   rw [add_eq,Sem.run_bind,e1]
   exact e2
  ·rw [u2.at_,sp_cons,Nat.add_assoc]
theorem sp_len':∀(vs cs:List Value) (p:Nat),(sp cs p vs).length=cs.length
 | [],cs,p=>by rw [sp_nil]
 | v::vs,cs,p=>by rw [sp_cons,sp_len' vs];simp
theorem sp_far{q n:Nat}: ∀(vs cs:List Value) (p:Nat),(q+n≤p∨p+vs.length≤q)→((sp cs p vs).drop q).take n=(cs.drop q).take n
 | [],cs,p,_=>by rw [sp_nil]
 | v::vs,cs,p,h=>by
  simp only [List.length_cons] at h
  rw [sp_cons,sp_far vs _ _ (by omega),set_far (by omega)]
theorem sp_at:∀(vs cs:List Value) (p:Nat),p+vs.length≤cs.length→((sp cs p vs).drop p).take vs.length=vs
 | [],cs,p,_=>by simp
 | v::vs,cs,p,h=>by
  simp only [List.length_cons] at h ⊢
  rw [sp_cons,Nat.add_comm vs.length 1,List.take_add,sp_far vs _ _ (by omega),List.drop_drop,sp_at vs _ _ (by simp;omega)]
  have:((cs.set p v).drop p).take 1=[v]:=by
   rw [List.drop_eq_getElem_cons (by simp;omega)]
   simp
  rw [this];rfl
section
variable {α:Type} {x:Cx} {E:Env} {R:PH} {L L':List HP} {ty:TypeId} {v:Value} {ap:Bool} {T sz:Nat} {en:α→List Value} {q:List α}
theorem OwS.storeN{b o c:Nat}{cs:List Value}{fr:Nat×Nat}{i:Int}{y y':α}{h:PH}(hi:gi q i=some y)(hb:h b=some (.cells (List.toArray cs) T fr))(hfr:FrO fr o (c*sz))
  (he:∀i y,q[i]? = some y→(cs.drop (o+i*sz)).take sz=en y) (hl:o+c*sz≤cs.length) (hq:q.length≤c) (hm:c≤maxLen) (hap:ap=true→o=0∧fr=(0,0)∧cs.length=c*sz) (hy:(en y').length=sz) :
  OwS ap T sz en (.slice (some ⟨b,o,none⟩) q.length c) (ls q i y') (fun j=>if j=b then some (.cells (List.toArray (sp cs (o+i.toNat*sz) (en y'))) T fr) else h j):=by
 obtain ⟨⟨h0,h1⟩,h2⟩:=gi_some hi
 have hin:(i.toNat+1)*sz≤c*sz:=Nat.mul_le_mul_right _ (by omega)
 rw [Nat.add_mul] at hin
 refine .inr ⟨b,o,c,sp cs (o+i.toNat*sz) (en y'),fr,by simp [ls],by simp,hfr,?_,by rw [sp_len'];exact hl,by simpa [ls] using hq,hm,by rw [sp_len'];exact hap⟩
 intro j z hz
 unfold ls at hz
 rw [List.getElem?_set] at hz
 by_cases e:i.toNat=j
 ·subst e
  rw [if_pos rfl,if_pos (by omega)] at hz
  cases hz
  have:=sp_at (en y') cs (o+i.toNat*sz) (by omega)
  rw [hy] at this
  exact this
 ·rw [if_neg e] at hz
  rw [sp_far,he _ _ hz]
  rw [hy]
  rcases Nat.lt_or_ge i.toNat j with hlt | hge
  ·right
   have:(i.toNat+1)*sz≤j*sz:=Nat.mul_le_mul_right _ hlt
   rw [Nat.add_mul] at this
   omega
  ·left
   have:(j+1)*sz≤i.toNat*sz:=Nat.mul_le_mul_right _ (by omega)
   rw [Nat.add_mul] at this
   omega
theorem o_stnO{t:TypeId}{y z:Operand}{i:Int}{c c':α}{vs:List Value}(ht:Ag x.P t sz)(hy:ev E y=some (pt (sb v) (so v+i.toNat*sz)))(hz:ev E z=some (.agg vs.toArray))
  (hL:L=OwS ap T sz en v q::L') (hi:gi q i=some c) (hv:vs.all Value.oneCell'=true) (hn:vs.length=sz) (hc:en c'=vs) :
  OU x (.store t y z) ty E R L undef R (OwS ap T sz en v (ls q i c')::L'):=by
 subst hL
 refine ou_of_skip fun _ _ _ _ a w hf hs =>?_
 obtain ⟨h,hh,hw⟩:=hs.get (i:=0) rfl
 obtain ⟨b,o,cp,cs,fr,rfl,hb,hfr,he,hl,hq,hm,_⟩:=hh.at_ hi
 obtain ⟨⟨h0,h1⟩,h2⟩:=gi_some hi
 have hin:(i.toNat+1)*sz≤cp*sz:=Nat.mul_le_mul_right _ (by omega)
 rw [Nat.add_mul] at hin
 simp only [sb,so] at hy
 obtain ⟨w',e,hu⟩:=storeCells_runF (P:=x.P) (o+i.toNat*sz) vs w cs 0 (hw b _ hb) (by simpa using hv) (by omega) (fun k k1 k2=>hfr k (by omega) (by omega))
 refine ⟨w',by simp [execOp,hf.ev hy,hf.ev hz,Instr.storeAt,Instr.sureAddr,storeVar,ht.2,Value.cells,hn,e],?_⟩
 refine hs.updP hu fun k hk hkw =>?_
 obtain ⟨b2,o2,cp2,cs2,fr2,e2,hb2,hfr2,he2,hl2,hq2,hm2,ha2⟩:=OwS.at_ hk hi
 simp only [Value.slice.injEq,Option.some.injEq,Addr.mk.injEq] at e2
 obtain ⟨⟨rfl,rfl,_⟩,_,rfl⟩:=e2
 have ec:cs2=cs∧fr2=fr:=by
  have e3:=hkw _ _ hb2
  have e4:=hw _ _ hb
  rw [e3] at e4
  simpa using e4
 obtain ⟨rfl,rfl⟩:=ec
 subst hc
 exact ⟨by rw [hb2];simp,OwS.storeN hi hb2 hfr2 he2 hl2 hq2 hm2 ha2 hn⟩
end
theorem st_back{α:Type}{f:Nat→α→HP}{v:Value}{a:Option α}{y:α}{G:World}{R:PH}{L:List HP}{w:World}(e:a=some y)(h:St G R (rO f v (some y)::L) w):St G R (rO f v a::L) w:=by
 rw [e];exact h
end Go.Proofs.YtpanhdnglicknaaGreat.Hw
