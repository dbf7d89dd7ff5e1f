import Derived.Test.YtpanhdnglicknaaGreatHwE
set_option linter.unusedSimpArgs false
set_option linter.unusedVariables false
namespace Go.Proofs.YtpanhdnglicknaaGreat.Hw
open Go
abbrev Fresh:=List (Nat×(Value→HP))
def frH(fr:Fresh)(li:Array Bool)(β:Nat→Value):List HP:=fr.map fun p=>if li.getD p.1 false then p.2 (β p.1) else fun _=>True
def frV(fr:Fresh)(β:Nat→Value):Env:=fr.map fun p=>(p.1,β p.1)
def frC(fr:Fresh)(β:Nat→Value):List HP:=fr.map fun p=>p.2 (β p.1)
def isFr(fr:Fresh)(i:Nat):Bool:=fr.any fun p=>Nat.beq p.1 i
structure SIF (x:Cx) (ops:Array Oper) (effs:List Nat) (fr:Fresh) (S:List Nat) (V E0:Env) (li:Array Bool) (β:Nat→Value) (a:Act):Prop where
 sz:li.size=ops.size
 clo:∀i o,ops[i]? = some o→li.getD i false=true→∀p∈prs o,li.getD p false=true
 eff:∀e∈effs,(li.getD e false=true↔e∈S)
 cov:∀i,li.getD i false=true→isFr fr i=true∨lk V i≠none
 fsz:a.tmps.size=x.N
 df:a.defers=x.D
 sl:∀i d v,dstOf ops i=some d→li.getD i false=true→lk V i=some v→a.tmps[d]? = some v
 sf:∀i d,isFr fr i=true→dstOf ops i=some d→li.getD i false=true→a.tmps[d]? = some (β i)
 e0:∀d v,lk E0 d=some v→(∀i,li.getD i false=true→dstOf ops i≠some d)→a.tmps[d]? = some v
def StageF(x:Cx)(ops:Array Oper)(ks:List KF)(effs:List Nat)(fr:Fresh)(S:List Nat)(V E0:Env)(R:PH)(L:List HP):Prop :=
 ∀fuel li a w β,SIF x ops effs fr S V E0 li β a→left ops.size li≤fuel→St x.G R (L++frH fr li β) w→wpAnyIn (FF x.md) 0 x.P .any ops (Kq x ks) fuel li a w
def QuietT(x:Cx)(ops:Array Oper)(V E0:Env)(R:PH)(L:List HP):List Nat→Prop
 | []=>True
 | i::r=>(∃o v,ops[i]? = some o∧lk V i=some v∧∀A,OS x ops o (envD ops V E0 i) R (L++A) v R (L++A))∧QuietT x ops V E0 R L r
def EffT(x:Cx)(ops:Array Oper)(ks:List KF)(effs:List Nat)(fr:Fresh)(S:List Nat)(V E0:Env)(R:PH)(L:List HP):List Nat→Prop
 | []=>True
 | e::r=>(∃o v R' L',ops[e]? = some o∧Le R R'∧(∀A,OSW x ops ks o (envD ops V E0 e) R (L++A) (fun u R1 L1=>u=v∧R1=R'∧L1=L'++A)) ∧
   StageF x ops ks effs fr (e::S) ((e,v)::V) E0 R' L')∧EffT x ops ks effs fr S V E0 R L r
def FrOK(x:Cx)(ops:Array Oper)(ks:List KF)(V E0:Env)(R:PH):Fresh→Prop
 | []=>True
 | p::r=>(∃o,ops[p.1]? = some o∧∀A,OSW x ops ks o (envD ops V E0 p.1) R A (fun u R1 L1=>R1=R∧L1=p.2 u::A))∧FrOK x ops ks V E0 R r
section
variable {x:Cx} {ks:List KF} {ops:Array Oper} {effs S:List Nat} {V E0:Env} {R:PH} {L:List HP} {fr:Fresh}
theorem QuietT.get:∀{l:List Nat},QuietT x ops V E0 R L l→∀i∈l,∃o v,ops[i]? = some o∧lk V i=some v∧∀A,OS x ops o (envD ops V E0 i) R (L++A) v R (L++A)
 | [],_,i,hi=>by cases hi
 | j::r,h,i,hi=>by
  rcases List.mem_cons.1 hi with e | e
  ·subst e;exact h.1
  ·exact QuietT.get h.2 i e
theorem EffT.get:∀{l:List Nat},EffT x ops ks effs fr S V E0 R L l→∀e∈l,∃o v R' L',ops[e]? = some o∧Le R R' ∧
  (∀A,OSW x ops ks o (envD ops V E0 e) R (L++A) (fun u R1 L1=>u=v∧R1=R'∧L1=L'++A))∧StageF x ops ks effs fr (e::S) ((e,v)::V) E0 R' L'
 | [],_,i,hi=>by cases hi
 | j::r,h,i,hi=>by
  rcases List.mem_cons.1 hi with e | e
  ·subst e;exact h.1
  ·exact EffT.get h.2 i e
theorem FrOK.get:∀{l:Fresh},FrOK x ops ks V E0 R l→∀p∈l,∃o,ops[p.1]? = some o∧∀A,OSW x ops ks o (envD ops V E0 p.1) R A (fun u R1 L1=>R1=R∧L1=p.2 u::A)
 | [],_,i,hi=>by cases hi
 | j::r,h,i,hi=>by
  rcases List.mem_cons.1 hi with e | e
  ·subst e;exact h.1
  ·exact FrOK.get h.2 i e
theorem isFr_mem{i:Nat}: isFr fr i=true↔∃p∈fr,p.1=i:=by
 unfold isFr
 rw [List.any_eq_true]
 constructor
 ·rintro ⟨p,hp,h⟩;exact ⟨p,hp,Nat.eq_of_beq_eq_true h⟩
 ·rintro ⟨p,hp,h⟩;subst h;exact ⟨p,hp,Nat.beq_refl _⟩
theorem lk_frV{β:Nat→Value}{i:Nat}{v:Value}: ∀{fr:Fresh},lk (frV fr β) i=some v→isFr fr i=true∧v=β i
 | [],h=>by simp [frV,lk] at h
 | p::fr,h=>by
  simp only [frV,List.map_cons,lk] at h
  simp only [isFr,List.any_cons]
  cases hk:Nat.beq p.1 i with
  | true =>
   rw [hk,cond_true] at h
   have:=Nat.eq_of_beq_eq_true hk
   subst this;cases h
   exact ⟨rfl,rfl⟩
  | false =>
   rw [hk,cond_false] at h
   have:=lk_frV (fr:=fr) h
   exact ⟨by simpa [isFr] using this.1,this.2⟩
theorem lk_frV_some{β:Nat→Value}{i:Nat}: ∀{fr:Fresh},isFr fr i=true→lk (frV fr β) i≠none
 | [],h=>by cases h
 | p::fr,h=>by
  simp only [frV,List.map_cons,lk]
  cases hk:Nat.beq p.1 i with
  | true=>simp
  | false =>
   rw [cond_false]
   refine lk_frV_some (fr:=fr) ?_
   simp only [isFr,List.any_cons,hk,Bool.false_or] at h;exact h
theorem lk_app_ne{E F:Env}{d:Nat}(h:lk E d≠none∨lk F d≠none):lk (E++F) d≠none:=by
 induction E with
 | nil =>
  rcases h with h | h
  ·exact absurd rfl h
  ·exact h
 | cons p E ih =>
  obtain ⟨k,u⟩:=p
  simp only [List.cons_append,lk] at h ⊢
  cases hk:Nat.beq k d with
  | true=>simp
  | false=>rw [hk,cond_false] at h;exact ih h
theorem SIF.toSI{li:Array Bool}{β:Nat→Value}{a:Act}(h:SIF x ops effs fr S V E0 li β a)(hall:∀p∈fr,li.getD p.1 false=true)(hdj:∀p∈fr,p.1∉effs):
  SI x ops (effs++fr.map (·.1)) (S++fr.map (·.1)) (V++frV fr β) E0 li a :=
 ⟨h.sz,h.clo,fun e he=>by
  rcases List.mem_append.1 he with he | he
  ·rw [h.eff e he]
   constructor
   ·exact fun q=>List.mem_append.2 (.inl q)
   ·intro q
    rcases List.mem_append.1 q with q | q
    ·exact q
    ·obtain ⟨p,hp,rfl⟩:=List.mem_map.1 q;exact absurd he (hdj p hp)
  ·obtain ⟨p,hp,rfl⟩:=List.mem_map.1 he
   exact ⟨fun _=>List.mem_append.2 (.inr he),fun _=>hall p hp⟩,fun i hi=>lk_app_ne (by
  rcases h.cov i hi with q | q
  ·exact .inr (lk_frV_some q)
  ·exact .inl q),h.fsz,h.df,fun i d v hd hi hv=>by
  rcases lk_append hv with a2 | a2
  ·exact h.sl i d v hd hi a2
  ·obtain ⟨a1,rfl⟩:=lk_frV a2;exact h.sf i d a1 hd hi,h.e0⟩
theorem SIF.fr_{li:Array Bool}{β:Nat→Value}{a:Act}(h:SIF x ops effs fr S V E0 li β a){i:Nat}{o:Oper}(ho:ops[i]? = some o)
  (hnot:li.getD i false=false) (hp:∀p∈prs o,li.getD p false=true):Fr x.N x.D (envD ops V E0 i) a:=by
 refine ⟨h.fsz,h.df,fun d v hl =>?_⟩
 unfold envD at hl
 rw [ho] at hl
 rcases lk_append hl with hl | hl
 ·obtain ⟨j,hj,h1,h2⟩:=preds_mem (lk_mem hl)
  exact h.sl j d v h1 (hp j hj) h2
 ·obtain ⟨h1,h2⟩:=olds_lk hl
  refine h.e0 d v h1 fun j hj hd =>?_
  unfold dstOf at hd
  cases hoj:ops[j]? with
  | none=>rw [hoj] at hd;simp at hd
  | some oj =>
   rw [hoj] at hd
   have:=stays_spec h2 j oj (by simpa using hoj) (by simpa using hd)
   rcases this with e | e
   ·simp only [Nat.zero_add] at e;subst e;rw [hnot] at hj;cases hj
   ·have:=h.clo j oj hoj hj i e;rw [hnot] at this;cases this
theorem SIF.next{li:Array Bool}{β β':Nat→Value}{a:Act}(h:SIF x ops effs fr S V E0 li β a)(hw:wfR 0 [] ops.toList=true){i:Nat}{o:Oper}(ho:ops[i]? = some o)
  (hnot:li.getD i false=false) (hp:∀p∈prs o,li.getD p false=true) {S':List Nat} {V':Env} (v:Value)
  (hv:(isFr fr i=true∧β' i=v∧lk V' i=none)∨(isFr fr i=false∧lk V' i=some v))
  (hβ:∀j,j≠i→β' j=β j) (hV:∀j u,li.getD j false=true→lk V' j=some u→lk V j=some u)
  (hC:∀j,li.getD j false=true→isFr fr j=true∨lk V' j≠none) (hS:∀e∈effs,(e∈S'↔e=i∨e∈S)) (hdst:∀d,o.dst=some d→d<x.N) :
  SIF x ops effs fr S' V' E0 (li.setIfInBounds i true) β' (a.put o.dst v):=by
 have hi:i<ops.size:=by
  rcases Nat.lt_or_ge i ops.size with h | h
  ·exact h
  ·rw [Array.getElem?_eq_none h] at ho;cases ho
 have hi':i<li.size:=by rw [h.sz];exact hi
 have hdi:dstOf ops i=o.dst:=by unfold dstOf;rw [ho];rfl
 have uniq:∀j d,dstOf ops j=some d→o.dst=some d→j=i:=fun j d hj hd=>by
  unfold dstOf at hj
  cases hoj:ops[j]? with
  | none=>rw [hoj] at hj;simp at hj
  | some oj =>
   rw [hoj] at hj
   exact wfR_dst hw j i oj o d (by simpa using hoj) (by simpa using ho) (by simpa using hj) hd
 have putne:∀d,o.dst≠some d→(a.put o.dst v).tmps[d]? = a.tmps[d]? := fun d hd=>by
  cases hod:o.dst with
  | none=>rfl
  | some e =>
   simp only [Act.put]
   rw [Array.getElem?_setIfInBounds_ne (fun h=>hd (by rw [hod,h]))]
 have putat:∀d,o.dst=some d→(a.put o.dst v).tmps[d]? = some v:=fun d hd=>by
  have:=hdst d hd
  rw [hd]
  simp [Act.put,h.fsz,this]
 refine ⟨by simp [h.sz],?_,?_,?_,?_,?_,?_,?_,?_⟩
 ·intro j oj hoj hj p hpp
  rw [getD_set hi'] at hj ⊢
  by_cases e:j=i
  ·subst e
   rw [ho] at hoj;cases hoj
   split
   ·rfl
   ·exact hp p hpp
  ·rw [if_neg e] at hj
   split
   ·rfl
   ·exact h.clo j oj hoj hj p hpp
 ·intro e he
  rw [getD_set hi',hS e he]
  by_cases q:e=i
  ·simp [q]
  ·rw [if_neg q,h.eff e he];simp [q]
 ·intro j hj
  rw [getD_set hi'] at hj
  by_cases e:j=i
  ·subst e
   rcases hv with hv | hv
   ·exact .inl hv.1
   ·right;rw [hv.2];simp
  ·rw [if_neg e] at hj
   exact hC j hj
 ·cases o.dst <;> simp [Act.put,h.fsz]
 ·cases o.dst <;> simp [Act.put,h.df]
 ·intro j d u hj hl hu
  rw [getD_set hi'] at hl
  by_cases e:j=i
  ·subst e
   rw [hdi] at hj
   rcases hv with hv | hv
   ·rw [hv.2.2] at hu;cases hu
   ·rw [hv.2] at hu;cases hu
    exact putat d hj
  ·rw [if_neg e] at hl
   rw [putne d (fun hd=>e (uniq j d hj hd))]
   exact h.sl j d u hj hl (hV j u hl hu)
 ·intro j d hf hj hl
  rw [getD_set hi'] at hl
  by_cases e:j=i
  ·subst e
   rw [hdi] at hj
   rcases hv with hv | hv
   ·rw [hv.2.1];exact putat d hj
   ·rw [hv.1] at hf;cases hf
  ·rw [if_neg e] at hl
   rw [putne d (fun hd=>e (uniq j d hj hd)),hβ j e]
   exact h.sf j d hf hj hl
 ·intro d u hd hfree
  have:o.dst≠some d:=fun q=>hfree i (by rw [getD_set hi',if_pos rfl]) (by rw [hdi];exact q)
  rw [putne d this]
  refine h.e0 d u hd fun j hj=>hfree j ?_
  rw [getD_set hi']
  split
  ·rfl
  ·exact hj
theorem frH_set{li:Array Bool}{β:Nat→Value}{i:Nat}(hi:i<li.size)(hf:isFr fr i=false):frH fr (li.setIfInBounds i true) β=frH fr li β:=by
 unfold frH
 refine List.map_congr_left fun p hp =>?_
 have:p.1≠i:=fun e=>by
  have:=isFr_mem.2 ⟨p,hp,e⟩
  rw [hf] at this;cases this
 rw [getD_set hi,if_neg this]
theorem frH_cons(p:Nat×(Value→HP))(fr:Fresh)(li:Array Bool)(β:Nat→Value):
  frH (p::fr) li β=(if li.getD p.1 false=true then p.2 (β p.1) else fun _=>True)::frH fr li β:=rfl
theorem frH_add{li:Array Bool}{β:Nat→Value}{w:World}{i:Nat}{v:Value}(hi:i<li.size)(hnot:li.getD i false=false):∀{fr:Fresh},(fr.map (·.1)).Nodup→∀{p:Nat×(Value→HP)} (A:List HP),p∈fr→p.1=i →
  St x.G R (p.2 v::(A++frH fr li β)) w→St x.G R (A++frH fr (li.setIfInBounds i true) (fun j=>if j=i then v else β j)) w
 | [],_,p,A,hp,_,_=>by cases hp
 | q::fr,hn,p,A,hp,he,hs=>by
  simp only [List.map_cons,List.nodup_cons] at hn
  rcases List.mem_cons.1 hp with e | e
  ·subst e
   have htail:frH fr (li.setIfInBounds i true) (fun j=>if j=i then v else β j)=frH fr li β:=by
    unfold frH
    refine List.map_congr_left fun r hr =>?_
    have:r.1≠i:=fun e=>hn.1 (List.mem_map.2 ⟨r,hr,by rw [e,he]⟩)
    dsimp only
    rw [getD_set hi,if_neg this,if_neg this]
   have e1:frH (p::fr) (li.setIfInBounds i true) (fun j=>if j=i then v else β j)=p.2 v::frH fr li β:=by
    rw [frH_cons,htail,he,getD_set hi,if_pos rfl,if_pos rfl]
    simp
   have e2:frH (p::fr) li β=(fun _=>True)::frH fr li β:=by
    rw [frH_cons,he,hnot];rfl
   rw [e1]
   rw [e2] at hs
   refine hs.pick ((List.range A.length).map (· + 1)++0::(List.range (frH fr li β).length).map (· + (A.length+2))) ?_ ?_
   ·refine List.nodup_append.2 ⟨List.Pairwise.map _ (fun a b (hab:a≠b)=>by simpa using hab) List.nodup_range,?_,?_⟩
    ·refine List.nodup_cons.2 ⟨by simp,List.Pairwise.map _ (fun a b (hab:a≠b)=>by simpa using hab) List.nodup_range⟩
    ·intro a ha b hb
     simp only [List.mem_map,List.mem_range,List.mem_cons] at ha hb
     obtain ⟨c,hc,rfl⟩:=ha
     rcases hb with rfl | ⟨d,hd,rfl⟩ <;> omega
   ·intro k r hk
    rcases Nat.lt_or_ge k A.length with h | h
    ·rw [List.getElem?_append_left h] at hk
     refine ⟨k+1,?_,?_⟩
     ·rw [List.getElem?_append_left (by simpa using h)];simp [List.getElem?_range h]
     ·simp only [List.getElem?_cons_succ];rw [List.getElem?_append_left h];exact hk
    ·rw [List.getElem?_append_right h] at hk
     cases hd:k-A.length with
     | zero =>
      rw [hd] at hk
      refine ⟨0,?_,by simpa using hk⟩
      rw [List.getElem?_append_right (by simpa using h)]
      simp [hd]
     | succ d =>
      rw [hd] at hk
      simp only [List.getElem?_cons_succ] at hk
      have hdl:d<(frH fr li β).length:=by
       rcases Nat.lt_or_ge d (frH fr li β).length with z | z
       ·exact z
       ·rw [List.getElem?_eq_none z] at hk;cases hk
      refine ⟨d+(A.length+2),?_,?_⟩
      ·rw [List.getElem?_append_right (by simpa using h)]
       simp only [List.length_map,List.length_range,hd,List.getElem?_cons_succ]
       simp [List.getElem?_range hdl]
      ·rw [show d+(A.length+2)=(A.length+(d+1))+1 from by omega]
       simp only [List.getElem?_cons_succ]
       rw [List.getElem?_append_right (by omega)]
       simpa using hk
  ·have hq:q.1≠i:=fun h=>hn.1 (List.mem_map.2 ⟨p,e,by rw [he,h]⟩)
   have ih:=frH_add hi hnot (β:=β) (v:=v) hn.2 (A++[if li.getD q.1 false then q.2 (β q.1) else fun _=>True]) e he
    (by simpa [frH] using hs)
   have e1:frH (q::fr) (li.setIfInBounds i true) (fun j=>if j=i then v else β j)=(if li.getD q.1 false then q.2 (β q.1) else fun _=>True)::frH fr (li.setIfInBounds i true) (fun j=>if j=i then v else β j):=by
    rw [frH_cons,getD_set hi,if_neg hq]
    simp [hq]
   rw [e1]
   simpa using ih
theorem st_comm{w:World}(A B:List HP)(h:St x.G R (A++B) w):St x.G R (B++A) w:=by
 refine h.pick ((List.range B.length).map (· + A.length)++List.range A.length) ?_ ?_
 ·refine List.nodup_append.2 ⟨List.Pairwise.map _ (fun a b (hab:a≠b)=>by simpa using hab) List.nodup_range,List.nodup_range,?_⟩
  intro a ha b hb
  simp only [List.mem_map,List.mem_range] at ha hb
  obtain ⟨c,hc,rfl⟩:=ha
  omega
 ·intro k q hk
  rcases Nat.lt_or_ge k B.length with h | h
  ·rw [List.getElem?_append_left h] at hk
   refine ⟨k+A.length,?_,?_⟩
   ·rw [List.getElem?_append_left (by simpa using h)];simp [List.getElem?_range h]
   ·rw [List.getElem?_append_right (by omega)];simpa using hk
  ·rw [List.getElem?_append_right h] at hk
   have hl:k-B.length<A.length:=by
    rcases Nat.lt_or_ge (k-B.length) A.length with z | z
    ·exact z
    ·rw [List.getElem?_eq_none z] at hk;cases hk
   refine ⟨k-B.length,?_,?_⟩
   ·rw [List.getElem?_append_right (by simpa using h)];simp [List.getElem?_range hl]
   ·rw [List.getElem?_append_left hl];exact hk
theorem c_anyF{id:Nat}{E:Env}(hm:x.P.follows .mixedOrders=true)(hfr:(fr.all fun p=>Nat.blt p.1 ops.size)=true)(h:StageF x ops ks effs fr [] V E R L):CD x (.region id ops true) ks E R L:=fun a w hf hs =>
 wpIn_region_any hm (h ops.size _ a _ (fun _=>undef)
  ⟨by simp,fun i o ho hl=>(none_done hl).elim,fun e _=>⟨fun hl=>(none_done hl).elim,fun h=>nomatch h⟩,fun i hl=>(none_done hl).elim,hf.size,hf.df,
   fun i d v _ hl=>(none_done hl).elim,fun i d _ _ hl=>(none_done hl).elim,fun d v hd _=>hf.get d v hd⟩
  (by unfold left;exact Nat.le_trans List.countP_le_length (by simp)) (by
   have e:frH fr (Array.replicate ops.size false) (fun _=>undef)=List.replicate fr.length (fun _=>True):=by
    unfold frH
    rw [List.eq_replicate_iff]
    refine ⟨by simp,fun b hb =>?_⟩
    obtain ⟨p,_,rfl⟩:=List.mem_map.1 hb
    cases hl:(Array.replicate ops.size false).getD p.1 false with
    | true=>exact (none_done hl).elim
    | false=>rfl
   rw [e]
   generalize fr.length=n
   have hs':=hs.drew
   refine st_comm _ _ ?_
   induction n with
   | zero=>exact hs'
   | succ n ih=>exact st_emp trivial ih))
abbrev Alls:=List (Nat×Nat×List Value)
def AlOK(x:Cx)(ops:Array Oper)(ks:List KF)(V E0:Env)(R:PH):Alls→Prop
 | []=>True
 | a::r=>(∃o,ops[a.1]? = some o∧∀A,OSW x ops ks o (envD ops V E0 a.1) R A (New R A a.2.1 a.2.2))∧AlOK x ops ks V E0 R r
theorem tn:QuietT x ops V E0 R L []:=trivial
theorem tc{i:Nat}{r:List Nat}{o:Oper}{v:Value}(ho:ops[i]? = some o)(hv:lk V i=some v)(h:∀A,OS x ops o (envD ops V E0 i) R (L++A) v R (L++A))
  (k:QuietT x ops V E0 R L r):QuietT x ops V E0 R L (i::r):=⟨⟨o,v,ho,hv,h⟩,k⟩
theorem an:AlOK x ops ks V E0 R []:=trivial
theorem ac{a:Nat×Nat×List Value}{r:Alls}{o:Oper}(ho:ops[a.1]? = some o)(h:∀A,OSW x ops ks o (envD ops V E0 a.1) R A (New R A a.2.1 a.2.2))(k:AlOK x ops ks V E0 R r):
  AlOK x ops ks V E0 R (a::r):=⟨⟨o,ho,h⟩,k⟩
theorem etn:EffT x ops ks effs fr S V E0 R L []:=trivial
theorem stageF_ext(W:Env)(hW:(W.all fun p=>(lk V p.1).isNone && !(isFr fr p.1))=true)(h:StageF x ops ks effs fr S (W++V) E0 R L):StageF x ops ks effs fr S V E0 R L:=by
 intro fuel li a w β hsi
 have eq:∀j,isFr fr j=true∨lk V j≠none→lk (W++V) j=lk V j:=fun j hj=>by
  have no:∀(W':Env),(∀p∈W',((lk V p.1).isNone && !(isFr fr p.1))=true)→lk (W'++V) j=lk V j:=by
   intro W'
   induction W' with
   | nil=>intro _;rfl
   | cons p W' ih =>
    intro hp
    obtain ⟨k,u⟩:=p
    simp only [List.cons_append,lk]
    cases hk:Nat.beq k j with
    | true =>
     have:=Nat.eq_of_beq_eq_true hk
     subst this
     have:=hp (k,u) (by simp)
     simp only [Bool.and_eq_true] at this
     rcases hj with hj | hj
     ·rw [hj] at this;exact absurd this.2 (by simp)
     ·have h1:=this.1
      cases e:lk V k with
      | none=>exact absurd e hj
      | some v=>rw [e] at h1;cases h1
    | false=>exact ih fun q hq=>hp q (by simp [hq])
  exact no W (List.all_eq_true.1 hW)
 exact h fuel li a w β ⟨hsi.sz,hsi.clo,hsi.eff,fun i hi=>by
   rcases hsi.cov i hi with h | h
   ·exact .inl h
   ·right;rw [eq i (.inr h)];exact h,hsi.fsz,hsi.df,
  fun i d v hd hi hv=>hsi.sl i d v hd hi (by rw [←eq i (hsi.cov i hi)];exact hv),hsi.sf,hsi.e0⟩
end
end Go.Proofs.YtpanhdnglicknaaGreat.Hw
