import Derived.Test.YtpanhdnglicknaaGreatHwC
set_option linter.unusedSimpArgs false
set_option linter.unusedVariables false
namespace Go.Proofs.YtpanhdnglicknaaGreat.Hw
open Go
def prs(o:Oper):List Nat:=(o.after.toList.filter (Region.binds .any)).map (·.on)
def dstOf(ops:Array Oper)(i:Nat):Option Nat:=(ops[i]?).bind (·.dst)
def stays(ops:List Oper)(i d:Nat):Nat→Bool
 | j=>match ops with
  | []=>true
  | o::r=>(match o.dst with
   | some e => !(Nat.beq e d)||Nat.beq j i||(prs o).any (Nat.beq i)
   | none=>true)&&stays r i d (j+1)
def preds(ops:Array Oper)(V:Env):List Nat→Env
 | []=>[]
 | j::r=>match dstOf ops j,lk V j with
  | some d,some v=>(d,v)::preds ops V r
  | _,_=>preds ops V r
def olds(ops:List Oper)(i:Nat):Env→Env
 | []=>[]
 | (d,v)::r=>bif stays ops i d 0 then (d,v)::olds ops i r else olds ops i r
def envD(ops:Array Oper)(V E0:Env)(i:Nat):Env :=
 match ops[i]? with
 | none=>[]
 | some o=>preds ops V (prs o)++olds ops.toList i E0
def fins(ops:Array Oper)(V:Env):Nat→List Oper→Env
 | _,[]=>[]
 | i,o::r=>match o.dst,lk V i with
  | some d,some v=>(d,v)::fins ops V (i+1) r
  | _,_=>fins ops V (i+1) r
def untouched(ops:List Oper):Env→Env
 | []=>[]
 | (d,v)::r=>bif ops.any (fun o=>match o.dst with | some e=>Nat.beq e d | none=>false) then untouched ops r else (d,v)::untouched ops r
def envF(ops:Array Oper)(V E0:Env):Env:=fins ops V 0 ops.toList++untouched ops.toList E0
def wfR:Nat→List Nat→List Oper→Bool
 | _,_,[]=>true
 | i,ds,o::r=>(prs o).all (fun p=>Nat.blt p i)&&(match o.dst with
   | some d => !(ds.any (Nat.beq d))&&wfR (i+1) (d::ds) r
   | none=>wfR (i+1) ds r)
theorem lk_append{E F:Env}{d:Nat}{v:Value}(h:lk (E++F) d=some v):lk E d=some v∨lk F d=some v:=by
 induction E with
 | nil=>exact .inr h
 | cons p E ih =>
  obtain ⟨k,u⟩:=p
  simp only [List.cons_append,lk] at h ⊢
  cases hk:Nat.beq k d with
  | true=>rw [hk,cond_true] at h;exact .inl h
  | false=>rw [hk,cond_false] at h;simpa using ih h
theorem lk_mem{E:Env}{d:Nat}{v:Value}(h:lk E d=some v):(d,v)∈E:=by
 induction E with
 | nil=>simp [lk] at h
 | cons p E ih =>
  obtain ⟨k,u⟩:=p
  simp only [lk] at h
  cases hk:Nat.beq k d with
  | true =>
   rw [hk,cond_true] at h
   have:=Nat.eq_of_beq_eq_true hk
   subst this;cases h;simp
  | false=>rw [hk,cond_false] at h;exact List.mem_cons_of_mem _ (ih h)
theorem preds_mem{ops:Array Oper}{V:Env}{d:Nat}{v:Value}: ∀{l:List Nat},(d,v)∈preds ops V l→∃j∈l,dstOf ops j=some d∧lk V j=some v
 | [],h=>by simp [preds] at h
 | j::r,h=>by
  simp only [preds] at h
  split at h
  ·rename_i e u h1 h2
   rcases List.mem_cons.1 h with h | h
   ·cases h;exact ⟨j,by simp,h1,h2⟩
   ·obtain ⟨k,hk,x⟩:=preds_mem h;exact ⟨k,by simp [hk],x⟩
  ·obtain ⟨k,hk,x⟩:=preds_mem h;exact ⟨k,by simp [hk],x⟩
theorem olds_lk{ops:List Oper}{i d:Nat}{v:Value}: ∀{E:Env},lk (olds ops i E) d=some v→lk E d=some v∧stays ops i d 0=true
 | [],h=>by simp [olds,lk] at h
 | (k,u)::r,h=>by
  simp only [olds] at h
  cases hs:stays ops i k 0 with
  | true =>
   rw [hs,cond_true] at h
   simp only [lk] at h ⊢
   cases hk:Nat.beq k d with
   | true=>rw [hk,cond_true] at h;have:=Nat.eq_of_beq_eq_true hk;subst this;exact ⟨h,hs⟩
   | false=>rw [hk,cond_false] at h;exact olds_lk h
  | false =>
   rw [hs,cond_false] at h
   obtain ⟨h1,h2⟩:=olds_lk h
   simp only [lk]
   cases hk:Nat.beq k d with
   | true=>have:=Nat.eq_of_beq_eq_true hk;subst this;rw [hs] at h2;cases h2
   | false=>exact ⟨h1,h2⟩
theorem stays_spec{i d:Nat}: ∀{ops:List Oper} {k:Nat},stays ops i d k=true→∀j o,ops[j]? = some o→o.dst=some d→k+j=i∨i∈prs o
 | [],k,_,j,o,hj,_=>by simp at hj
 | o'::r,k,h,j,o,hj,hd=>by
  simp only [stays,Bool.and_eq_true] at h
  cases j with
  | zero =>
   simp only [List.getElem?_cons_zero,Option.some.injEq] at hj
   subst hj
   have h1:=h.1
   rw [hd] at h1
   simp only [Nat.beq_refl,Bool.not_true,Bool.false_or,Bool.or_eq_true,List.any_eq_true] at h1
   rcases h1 with h1 | ⟨p,hp,h1⟩
   ·exact .inl (by simpa using Nat.eq_of_beq_eq_true h1)
   ·have:=Nat.eq_of_beq_eq_true h1;subst this;exact .inr hp
  | succ j =>
   have:=stays_spec (k:=k+1) h.2 j o (by simpa using hj) hd
   rcases this with h | h
   ·exact .inl (by omega)
   ·exact .inr h
theorem fins_mem{ops:Array Oper}{V:Env}{d:Nat}{v:Value}: ∀{l:List Oper} {i:Nat},(d,v)∈fins ops V i l→∃j o,l[j]? = some o∧o.dst=some d∧lk V (i+j)=some v
 | [],i,h=>by simp [fins] at h
 | o::r,i,h=>by
  simp only [fins] at h
  split at h
  ·rename_i e u h1 h2
   rcases List.mem_cons.1 h with h | h
   ·cases h;exact ⟨0,o,by simp,h1,by simpa using h2⟩
   ·obtain ⟨j,o',a,b,c⟩:=fins_mem h;exact ⟨j+1,o',by simpa using a,b,by rw [←c];congr 1;omega⟩
  ·obtain ⟨j,o',a,b,c⟩:=fins_mem h;exact ⟨j+1,o',by simpa using a,b,by rw [←c];congr 1;omega⟩
theorem untouched_lk{ops:List Oper}{d:Nat}{v:Value}: ∀{E:Env},lk (untouched ops E) d=some v→lk E d=some v∧∀o∈ops,o.dst≠some d
 | [],h=>by simp [untouched,lk] at h
 | (k,u)::r,h=>by
  simp only [untouched] at h
  cases hs:ops.any (fun o=>match o.dst with | some e=>Nat.beq e k | none=>false) with
  | true =>
   rw [hs,cond_true] at h
   obtain ⟨h1,h2⟩:=untouched_lk h
   simp only [lk]
   cases hk:Nat.beq k d with
   | true =>
    have:=Nat.eq_of_beq_eq_true hk;subst this
    simp only [List.any_eq_true] at hs
    obtain ⟨o,ho,he⟩:=hs
    have:=h2 o ho
    split at he
    ·rename_i e hd;exact absurd (by rw [hd,Nat.eq_of_beq_eq_true he]) this
    ·cases he
   | false=>exact ⟨h1,h2⟩
  | false =>
   rw [hs,cond_false] at h
   simp only [lk] at h ⊢
   cases hk:Nat.beq k d with
   | true =>
    rw [hk,cond_true] at h
    have:=Nat.eq_of_beq_eq_true hk;subst this
    refine ⟨h,fun o ho hd =>?_⟩
    have:=List.any_eq_false.1 hs o ho
    rw [hd] at this
    simp at this
   | false=>rw [hk,cond_false] at h;exact untouched_lk h
theorem wfR_lt:∀{l:List Oper} {i:Nat} {ds:List Nat},wfR i ds l=true→∀j o,l[j]? = some o→∀p∈prs o,p<i+j
 | [],_,_,_,j,o,hj,_,_=>by simp at hj
 | o'::r,i,ds,h,j,o,hj,p,hp=>by
  simp only [wfR,Bool.and_eq_true,List.all_eq_true] at h
  cases j with
  | zero =>
   simp only [List.getElem?_cons_zero,Option.some.injEq] at hj
   subst hj
   have:=h.1 p hp
   simpa using this
  | succ j =>
   have h2:=h.2
   split at h2
   ·simp only [Bool.and_eq_true] at h2
    have:=wfR_lt h2.2 j o (by simpa using hj) p hp;omega
   ·have:=wfR_lt h2 j o (by simpa using hj) p hp;omega
theorem wfR_new:∀{l:List Oper} {i:Nat} {ds:List Nat},wfR i ds l=true→∀(j:Nat) (o:Oper) (d:Nat),l[j]? = some o→o.dst=some d→d∉ds
 | [],_,_,_,j,o,d,hj,_=>by simp at hj
 | o'::r,i,ds,h,j,o,d,hj,hd=>by
  simp only [wfR,Bool.and_eq_true] at h
  have h2:=h.2
  cases j with
  | zero =>
   simp only [List.getElem?_cons_zero,Option.some.injEq] at hj
   subst hj
   rw [hd] at h2
   simp only [Bool.and_eq_true,Bool.not_eq_true',List.any_eq_false] at h2
   intro hm
   have:=h2.1 d hm
   simp at this
  | succ j =>
   split at h2
   ·simp only [Bool.and_eq_true] at h2
    have:=wfR_new h2.2 j o d (by simpa using hj) hd
    exact fun hm=>this (List.mem_cons_of_mem _ hm)
   ·exact wfR_new h2 j o d (by simpa using hj) hd
theorem wfR_dst:∀{l:List Oper} {i:Nat} {ds:List Nat},wfR i ds l=true→∀(j k:Nat) (o o':Oper) (d:Nat),l[j]? = some o→l[k]? = some o'→o.dst=some d→o'.dst=some d→j=k
 | [],_,_,_,j,k,o,o',d,hj,_,_,_=>by simp at hj
 | q::r,i,ds,h,j,k,o,o',d,hj,hk,hd,hd'=>by
  simp only [wfR,Bool.and_eq_true] at h
  have h2:=h.2
  have tail:∀(j:Nat) o,r[j]? = some o→o.dst=some d→q.dst=some d→False:=fun j o hj hd hq=>by
   rw [hq] at h2
   simp only [Bool.and_eq_true] at h2
   exact wfR_new h2.2 j o d hj hd (by simp)
  cases j with
  | zero =>
   simp only [List.getElem?_cons_zero,Option.some.injEq] at hj
   subst hj
   cases k with
   | zero=>rfl
   | succ k=>exact (tail k o' (by simpa using hk) hd' hd).elim
  | succ j =>
   cases k with
   | zero =>
    simp only [List.getElem?_cons_zero,Option.some.injEq] at hk
    subst hk
    exact (tail j o (by simpa using hj) hd hd').elim
   | succ k =>
    congr 1
    split at h2
    ·simp only [Bool.and_eq_true] at h2
     exact wfR_dst h2.2 j k o o' d (by simpa using hj) (by simpa using hk) hd hd'
    ·exact wfR_dst h2 j k o o' d (by simpa using hj) (by simpa using hk) hd hd'
structure SI (x:Cx) (ops:Array Oper) (effs S:List Nat) (V E0:Env) (li:Array Bool) (a:Act):Prop where
 sz:li.size=ops.size
 clo:∀i o,ops[i]? = some o→li.getD i false=true→∀p∈prs o,li.getD p false=true
 eff:∀e∈effs,(li.getD e false=true↔e∈S)
 cov:∀i,li.getD i false=true→lk V i≠none
 fsz:a.tmps.size=x.N
 df:a.defers=x.D
 sl:∀i d v,dstOf ops i=some d→li.getD i false=true→lk V i=some v→a.tmps[d]? = some v
 e0:∀d v,lk E0 d=some v→(∀i,li.getD i false=true→dstOf ops i≠some d)→a.tmps[d]? = some v
def left(n:Nat)(li:Array Bool):Nat:=(List.range n).countP fun i => !li.getD i false
theorem countP_lt{l:List Nat}{p q:Nat→Bool}(hpq:∀i,p i=true→q i=true){k:Nat}(hk:k∈l)(h1:p k=false)(h2:q k=true):l.countP p<l.countP q:=by
 induction l with
 | nil=>cases hk
 | cons y l ih =>
  have mono:l.countP p≤l.countP q:=List.countP_mono_left fun i _=>hpq i
  simp only [List.countP_cons]
  rcases List.mem_cons.1 hk with h | h
  ·subst h;simp only [h1,h2];simp;omega
  ·have:=ih h
   cases hp:p y with
   | true=>simp only [hpq y hp];simp;omega
   | false=>cases q y <;> simp <;> omega
def Quiet(x:Cx)(ops:Array Oper)(V E0:Env)(R:PH)(L:List HP):List Nat→Prop
 | []=>True
 | i::r=>(∃o v,ops[i]? = some o∧lk V i=some v∧OS x ops o (envD ops V E0 i) R L v R L)∧Quiet x ops V E0 R L r
theorem Quiet.get{x:Cx}{ops:Array Oper}{V E0:Env}{R:PH}{L:List HP}: ∀{l:List Nat},Quiet x ops V E0 R L l→∀i∈l,∃o v,ops[i]? = some o∧lk V i=some v∧OS x ops o (envD ops V E0 i) R L v R L
 | [],_,i,hi=>by cases hi
 | j::r,h,i,hi=>by
  rcases List.mem_cons.1 hi with e | e
  ·subst e;exact h.1
  ·exact Quiet.get h.2 i e
def Stage(x:Cx)(ops:Array Oper)(ks:List KF)(effs S:List Nat)(V E0:Env)(R:PH)(L:List HP):Prop :=
 ∀fuel li a w,SI x ops effs S V E0 li a→left ops.size li≤fuel→St x.G R L w→wpAnyIn (FF x.md) 0 x.P .any ops (Kq x ks) fuel li a w
inductive Anc (ops:Array Oper):Nat→Nat→Prop
 | base {e i:Nat} {o:Oper} : ops[i]? = some o→e∈prs o→Anc ops e i
 | step {e p i:Nat} {o:Oper} : ops[i]? = some o→p∈prs o→Anc ops e p→Anc ops e i
def msk(acc:List Nat):List Nat→Nat
 | []=>0
 | p::r=>2^p ||| acc.getD p 0 ||| msk acc r
def masks:List Oper→List Nat→List Nat
 | [],acc=>acc
 | o::r,acc=>masks r (acc++[msk acc (prs o)])
theorem msk_bit{acc:List Nat}{e:Nat}: ∀{ps:List Nat},(msk acc ps).testBit e=true→∃p∈ps,e=p∨(acc.getD p 0).testBit e=true
 | [],h=>by simp [msk] at h
 | p::r,h=>by
  simp only [msk,Nat.testBit_or,Bool.or_eq_true] at h
  rcases h with (h | h) | h
  ·rw [Nat.testBit_two_pow] at h
   exact ⟨p,by simp,.inl (by simpa using h:p=e).symm⟩
  ·exact ⟨p,by simp,.inr h⟩
  ·obtain ⟨q,hq,x⟩:=msk_bit h;exact ⟨q,by simp [hq],x⟩
theorem masks_ok{ops:Array Oper}: ∀(l:List Oper) (acc:List Nat),(∀j,l[j]? = ops[acc.length+j]?) →
  (∀i m,acc[i]? = some m→∀e,m.testBit e=true→Anc ops e i)→∀i m,(masks l acc)[i]? = some m→∀e,m.testBit e=true→Anc ops e i
 | [],acc,_,h=>h
 | o::r,acc,hl,h=>by
  refine masks_ok r (acc++[msk acc (prs o)]) (fun j =>?_) ?_
  ·have:=hl (j+1)
   simp only [List.getElem?_cons_succ] at this
   rw [this];simp only [List.length_append,List.length_cons,List.length_nil];congr 1;omega
  ·intro i m hi e he
   rcases Nat.lt_or_ge i acc.length with hlt | hge
   ·rw [List.getElem?_append_left hlt] at hi;exact h i m hi e he
   ·rw [List.getElem?_append_right hge] at hi
    have hz:i-acc.length=0:=by
     rcases Nat.eq_zero_or_pos (i-acc.length) with z | z
     ·exact z
     ·rw [List.getElem?_eq_none (by simp;omega)] at hi;cases hi
    rw [hz] at hi
    simp only [List.getElem?_cons_zero,Option.some.injEq] at hi
    subst hi
    have ho:ops[i]? = some o:=by
     have:=hl 0
     simp only [List.getElem?_cons_zero,Nat.add_zero] at this
     rw [show i=acc.length from by omega];exact this.symm
    obtain ⟨p,hp,hx⟩:=msk_bit he
    rcases hx with hx | hx
    ·subst hx;exact .base ho hp
    ·cases hg:acc[p]? with
     | none=>simp [List.getD_eq_getElem?_getD,hg] at hx
     | some mp =>
      rw [List.getD_eq_getElem?_getD,hg] at hx
      exact .step ho hp (h p mp hg e hx)
theorem masks_get{ops:Array Oper}{ms:List Nat}(hms:masks ops.toList []=ms){i e:Nat}(h:(ms.getD i 0).testBit e=true):Anc ops e i:=by
 subst hms
 cases hg:(masks ops.toList [])[i]? with
 | none=>simp [List.getD_eq_getElem?_getD,hg] at h
 | some m =>
  rw [List.getD_eq_getElem?_getD,hg] at h
  exact masks_ok ops.toList [] (fun j=>by simp) (fun i m hi=>by simp at hi) i m hg e h
def turn(ms effs S:List Nat)(i:Nat):Bool:=effs.all fun e => !((ms.getD i 0).testBit e)||S.any (Nat.beq e)
def surely(ms S:List Nat)(i:Nat):Bool:=S.any fun s=>(ms.getD s 0).testBit i
def quietOf(n:Nat)(ms effs S:List Nat):List Nat :=
 (List.range n).filter fun i => !(effs.any (Nat.beq i))&&turn ms effs S i && !(surely ms S i)
def effsOf(ms effs S:List Nat):List Nat :=
 effs.filter fun i => !(S.any (Nat.beq i))&&turn ms effs S i
def EffOK(x:Cx)(ops:Array Oper)(ks:List KF)(effs S:List Nat)(V E0:Env)(R:PH)(L:List HP)(e:Nat):Prop :=
 ∃o C,ops[e]? = some o∧OSW x ops ks o (envD ops V E0 e) R L C ∧
  ∀v R' L',Le R R'→C v R' L'→Stage x ops ks effs (e::S) ((e,v)::V) E0 R' L'
def EffsOK(x:Cx)(ops:Array Oper)(ks:List KF)(effs S:List Nat)(V E0:Env)(R:PH)(L:List HP):List Nat→Prop
 | []=>True
 | e::r=>EffOK x ops ks effs S V E0 R L e∧EffsOK x ops ks effs S V E0 R L r
theorem EffsOK.get{x:Cx}{ops:Array Oper}{ks:List KF}{effs S:List Nat}{V E0:Env}{R:PH}{L:List HP}: ∀{l:List Nat},EffsOK x ops ks effs S V E0 R L l→∀e∈l,EffOK x ops ks effs S V E0 R L e
 | [],_,i,hi=>by cases hi
 | j::r,h,i,hi=>by
  rcases List.mem_cons.1 hi with e | e
  ·subst e;exact h.1
  ·exact EffsOK.get h.2 i e
theorem any_beq{l:List Nat}{i:Nat}: l.any (Nat.beq i)=true↔i∈l:=by
 rw [List.any_eq_true]
 constructor
 ·rintro ⟨p,hp,h⟩;have:=Nat.eq_of_beq_eq_true h;subst this;exact hp
 ·exact fun h=>⟨i,h,Nat.beq_refl i⟩
section
variable {x:Cx} {ks:List KF} {ops:Array Oper} {effs S:List Nat} {V E0:Env} {R:PH} {L:List HP}
theorem SI.fr{li:Array Bool}{a:Act}(h:SI x ops effs S V E0 li a){i:Nat}{o:Oper}(ho:ops[i]? = some o)
  (hnot:li.getD i false=false) (hp:∀p∈prs o,li.getD p false=true):Fr x.N x.D (envD ops V E0 i) a:=by
 refine ⟨h.fsz,h.df,fun d v hl =>?_⟩
 unfold envD at hl
 rw [ho] at hl
 rcases lk_append hl with hl | hl
 ·obtain ⟨j,hj,h1,h2⟩:=preds_mem (lk_mem hl)
  exact h.sl j d v h1 (hp j hj) h2
 ·obtain ⟨h1,h2⟩:=olds_lk hl
  refine h.e0 d v h1 fun j hj hd =>?_
  unfold dstOf at hd
  cases hoj:ops[j]? with
  | none=>rw [hoj] at hd;simp at hd
  | some oj =>
   rw [hoj] at hd
   have:=stays_spec h2 j oj (by simpa using hoj) (by simpa using hd)
   rcases this with e | e
   ·simp only [Nat.zero_add] at e;subst e;rw [hnot] at hj;cases hj
   ·have:=h.clo j oj hoj hj i e;rw [hnot] at this;cases this
theorem getD_set{li:Array Bool}{i j:Nat}(hi:i<li.size):(li.setIfInBounds i true).getD j false=if j=i then true else li.getD j false:=by
 rw [Array.getD_eq_getD_getElem?,Array.getD_eq_getD_getElem?]
 by_cases e:j=i
 ·subst e;simp [hi]
 ·rw [if_neg e,Array.getElem?_setIfInBounds_ne (fun h=>e h.symm)]
theorem SI.next{li:Array Bool}{a:Act}(h:SI x ops effs S V E0 li a)(hw:wfR 0 [] ops.toList=true){i:Nat}{o:Oper}(ho:ops[i]? = some o)
  (hnot:li.getD i false=false) (hp:∀p∈prs o,li.getD p false=true) {S':List Nat} {V':Env} (v:Value) (hv:lk V' i=some v)
  (hV:∀j u,li.getD j false=true→lk V' j=some u→lk V j=some u) (hC:∀j,li.getD j false=true→lk V' j≠none) (hS:∀e∈effs,(e∈S'↔e=i∨e∈S)) (hdst:∀d,o.dst=some d→d<x.N) :
  SI x ops effs S' V' E0 (li.setIfInBounds i true) (a.put o.dst v):=by
 have hi:i<ops.size:=by
  rcases Nat.lt_or_ge i ops.size with h | h
  ·exact h
  ·rw [Array.getElem?_eq_none h] at ho;cases ho
 have hi':i<li.size:=by rw [h.sz];exact hi
 have hdi:dstOf ops i=o.dst:=by unfold dstOf;rw [ho];rfl
 have uniq:∀j d,dstOf ops j=some d→o.dst=some d→j=i:=fun j d hj hd=>by
  unfold dstOf at hj
  cases hoj:ops[j]? with
  | none=>rw [hoj] at hj;simp at hj
  | some oj =>
   rw [hoj] at hj
   exact wfR_dst hw j i oj o d (by simpa using hoj) (by simpa using ho) (by simpa using hj) hd
 have putne:∀d,o.dst≠some d→(a.put o.dst v).tmps[d]? = a.tmps[d]? := fun d hd=>by
  cases hod:o.dst with
  | none=>rfl
  | some e =>
   simp only [Act.put]
   rw [Array.getElem?_setIfInBounds_ne (fun h=>hd (by rw [hod,h]))]
 refine ⟨by simp [h.sz],?_,?_,?_,?_,?_,?_,?_⟩
 ·intro j oj hoj hj p hpp
  rw [getD_set hi'] at hj ⊢
  by_cases e:j=i
  ·subst e
   rw [ho] at hoj;cases hoj
   split
   ·rfl
   ·exact hp p hpp
  ·rw [if_neg e] at hj
   split
   ·rfl
   ·exact h.clo j oj hoj hj p hpp
 ·intro e he
  rw [getD_set hi',hS e he]
  by_cases q:e=i
  ·simp [q]
  ·rw [if_neg q,h.eff e he];simp [q]
 ·intro j hj
  rw [getD_set hi'] at hj
  by_cases e:j=i
  ·subst e;rw [hv];simp
  ·rw [if_neg e] at hj
   exact hC j hj
 ·cases o.dst <;> simp [Act.put,h.fsz]
 ·cases o.dst <;> simp [Act.put,h.df]
 ·intro j d u hj hl hu
  rw [getD_set hi'] at hl
  by_cases e:j=i
  ·subst e
   rw [hdi] at hj
   rw [hv] at hu;cases hu
   have:=hdst d hj
   rw [hj]
   simp [Act.put,h.fsz,this]
  ·rw [if_neg e] at hl
   rw [putne d (fun hd=>e (uniq j d hj hd))]
   exact h.sl j d u hj hl (hV j u hl hu)
 ·intro d u hd hfree
  have:o.dst≠some d:=fun q=>hfree i (by rw [getD_set hi',if_pos rfl]) (by rw [hdi];exact q)
  rw [putne d this]
  refine h.e0 d u hd fun j hj=>hfree j ?_
  rw [getD_set hi']
  split
  ·rfl
  ·exact hj
theorem ready_mem{li:Array Bool}{i:Nat}(h:i∈Region.ready .any ops li):
  ∃o,ops[i]? = some o∧li.getD i true=false∧∀p∈prs o,li.getD p false=true:=by
 unfold Region.ready at h
 simp only [List.mem_filter,List.mem_range,Bool.and_eq_true,Bool.not_eq_true'] at h
 obtain ⟨hi,h1,h2⟩:=h
 refine ⟨ops[i],by simp [hi],h1,?_⟩
 rw [Array.getElem?_eq_getElem hi] at h2
 simp only [Option.map_some,Option.getD_some] at h2
 intro p hp
 unfold prs at hp
 simp only [List.mem_map,List.mem_filter] at hp
 obtain ⟨e,⟨he,hb⟩,rfl⟩:=hp
 have h3:=Array.all_eq_true'.1 h2 e (by simpa using he)
 simpa [hb] using h3
theorem ready_none{li:Array Bool}(hw:wfR 0 [] ops.toList=true)(hs:li.size=ops.size)(h:Region.ready .any ops li=[]):∀i,i<ops.size→li.getD i false=true:=by
 intro i
 induction i using Nat.strongRecOn with
 | _ i ih =>
  intro hi
  cases hl:li.getD i false with
  | true=>rfl
  | false =>
   exfalso
   have hmem:i∈Region.ready .any ops li:=by
    unfold Region.ready
    simp only [List.mem_filter,List.mem_range,Bool.and_eq_true,Bool.not_eq_true']
    refine ⟨hi,?_,?_⟩
    ·rw [Array.getD_eq_getD_getElem?] at hl ⊢
     rw [Array.getElem?_eq_getElem (by omega)] at hl ⊢
     simpa using hl
    ·rw [Array.getElem?_eq_getElem hi]
     simp only [Option.map_some,Option.getD_some]
     refine Array.all_eq_true'.2 fun e he =>?_
     cases hb:Region.binds .any e with
     | false=>rfl
     | true =>
      have hp:e.on∈prs ops[i]:=by
       unfold prs
       exact List.mem_map.2 ⟨e,List.mem_filter.2 ⟨by simpa using he,hb⟩,rfl⟩
      have hlt:=wfR_lt hw i ops[i] (by simp [hi]) e.on hp
      simp only [Nat.zero_add] at hlt
      simpa using ih e.on hlt (by omega)
   rw [h] at hmem
   cases hmem
theorem anc_listed{li:Array Bool}(hc:∀i o,ops[i]? = some o→li.getD i false=true→∀p∈prs o,li.getD p false=true){i e:Nat}(hi:li.getD i false=true)(h:Anc ops e i):li.getD e false=true:=by
 induction h with
 | base ho he=>exact hc _ _ ho hi _ he
 | step ho hp _ ih=>exact ih (hc _ _ ho hi _ hp)
theorem anc_ready{li:Array Bool}(hc:∀i o,ops[i]? = some o→li.getD i false=true→∀p∈prs o,li.getD p false=true){i e:Nat}{o:Oper}(ho:ops[i]? = some o)
  (hp:∀p∈prs o,li.getD p false=true) (h:Anc ops e i):li.getD e false=true:=by
 cases h with
 | base ho' he=>rw [ho] at ho';cases ho';exact hp _ he
 | step ho' hq h'=>rw [ho] at ho';cases ho';exact anc_listed hc (hp _ hq) h'
theorem stage(hw:wfR 0 [] ops.toList=true)(hE:(effs.all fun e=>Nat.blt e ops.size)=true)(hS:(S.all fun s=>effs.any (Nat.beq s))=true)
  (hN:(ops.toList.all fun o=>match o.dst with | some d=>Nat.blt d x.N | none=>true)=true)
  (ms qs es:List Nat) (hms:masks ops.toList []=ms) (hqs:quietOf ops.size ms effs S=qs) (hes:effsOf ms effs S=es) (hq:Quiet x ops V E0 R L qs) (he:EffsOK x ops ks effs S V E0 R L es)
  (hfin:(effs.all fun e=>S.any (Nat.beq e))=true→EX x .normal ks (envF ops V E0) R L):Stage x ops ks effs S V E0 R L:=by
 subst hqs;subst hes
 have hlt:∀{i:Nat} {o:Oper},ops[i]? = some o→∀d,o.dst=some d→d<x.N:=fun {i o} ho d hd=>by
  have hm:o∈ops.toList:=by
   rcases Nat.lt_or_ge i ops.size with h | h
   ·rw [Array.getElem?_eq_getElem h] at ho;cases ho;simp
   ·rw [Array.getElem?_eq_none h] at ho;cases ho
  have:=List.all_eq_true.1 hN o hm
  rw [hd] at this
  simpa using this
 have fin:∀li a w,SI x ops effs S V E0 li a→St x.G R L w→(∀i,i<ops.size→li.getD i false=true)→Kq x ks .normal a w:=by
  intro li a w hsi hst hall
  have heff:∀e∈effs,e<ops.size:=fun e h=>by have:=List.all_eq_true.1 hE e h;simpa using this
  refine hfin ?_ a w ?_ hst
  ·refine List.all_eq_true.2 fun e hm=>any_beq.2 ((hsi.eff e hm).1 (hall e (heff e hm)))
  ·refine ⟨hsi.fsz,hsi.df,fun d v hl =>?_⟩
   unfold envF at hl
   rcases lk_append hl with hl | hl
   ·obtain ⟨j,o,h1,h2,h3⟩:=fins_mem (lk_mem hl)
    have hj:ops[j]? = some o:=by simpa using h1
    have hjl:j<ops.size:=by
     rcases Nat.lt_or_ge j ops.size with h | h
     ·exact h
     ·rw [Array.getElem?_eq_none h] at hj;cases hj
    simp only [Nat.zero_add] at h3
    exact hsi.sl j d v (by unfold dstOf;rw [hj];exact h2) (hall j hjl) h3
   ·obtain ⟨h1,h2⟩:=untouched_lk hl
    refine hsi.e0 d v h1 fun j _ hd =>?_
    unfold dstOf at hd
    cases hoj:ops[j]? with
    | none=>rw [hoj] at hd;simp at hd
    | some oj =>
     rw [hoj] at hd
     have hm:oj∈ops.toList:=by
      rcases Nat.lt_or_ge j ops.size with h | h
      ·rw [Array.getElem?_eq_getElem h] at hoj;cases hoj;simp
      ·rw [Array.getElem?_eq_none h] at hoj;cases hoj
     exact h2 oj hm (by simpa using hd)
 intro fuel
 induction fuel with
 | zero =>
  intro li a w hsi hle hst
  have hall:∀i,i<ops.size→li.getD i false=true:=fun i hi=>by
   cases hl:li.getD i false with
   | true=>rfl
   | false =>
    have:0<left ops.size li:=List.countP_pos_iff.2 ⟨i,by simpa using hi,by simp [hl]⟩
    omega
  have hr:Region.ready .any ops li=[]:=by
   apply List.eq_nil_iff_forall_not_mem.2
   intro i hm
   obtain ⟨o,ho,h1,_⟩:=ready_mem hm
   have hi:i<ops.size:=by
    rcases Nat.lt_or_ge i ops.size with h | h
    ·exact h
    ·rw [Array.getElem?_eq_none h] at ho;cases ho
   have:=hall i hi
   rw [Array.getD_eq_getD_getElem?,Array.getElem?_eq_getElem (by rw [hsi.sz];exact hi)] at h1 this
   simp at h1 this
   rw [h1] at this;cases this
  exact ⟨hr,fin li a w hsi hst hall⟩
 | succ fuel ih =>
  intro li a w hsi hle hst
  refine ⟨fun hr=>fin li a w hsi hst (ready_none hw hsi.sz hr),fun i hm =>?_⟩
  obtain ⟨o,ho,h1,hp⟩:=ready_mem hm
  have hi:i<ops.size:=by
   rcases Nat.lt_or_ge i ops.size with h | h
   ·exact h
   ·rw [Array.getElem?_eq_none h] at ho;cases ho
  have hnot:li.getD i false=false:=by
   rw [Array.getD_eq_getD_getElem?,Array.getElem?_eq_getElem (by rw [hsi.sz];exact hi)] at h1 ⊢
   simpa using h1
  have hleft:left ops.size (li.setIfInBounds i true)≤fuel:=by
   have:left ops.size (li.setIfInBounds i true)<left ops.size li:=countP_lt (k:=i) (fun j hj=>by
    rw [getD_set (by rw [hsi.sz];exact hi)] at hj
    split at hj
    ·simp at hj
    ·exact hj) (by simpa using hi) (by rw [getD_set (by rw [hsi.sz];exact hi)];simp) (by simp [hnot])
   omega
  have hturn:turn ms effs S i=true:=by
   unfold turn
   refine List.all_eq_true.2 fun e he' =>?_
   cases hc:(ms.getD i 0).testBit e with
   | false=>rfl
   | true=>simpa using any_beq.2 ((hsi.eff e he').1 (anc_ready hsi.clo ho hp (masks_get hms hc)))
  have hfr:=hsi.fr ho hnot hp
  refine wpo_of ho ?_
  by_cases hmem:i∈effs
  ·have hnS:i∉S:=fun h=>by rw [(hsi.eff i hmem).2 h] at hnot;cases hnot
   have hin:i∈effsOf ms effs S:=by
    unfold effsOf
    refine List.mem_filter.2 ⟨hmem,?_⟩
    rw [hturn,Bool.and_true,Bool.not_eq_true',Bool.eq_false_iff]
    exact fun h=>hnS (any_beq.1 h)
   obtain ⟨o',C,ho',hos,hnext⟩:=he.get i hin
   rw [ho] at ho';cases ho'
   refine hos a w _ hfr hst fun v R' L' w' hR hC hs' =>?_
   refine hnext v R' L' hR hC fuel _ _ w' (hsi.next hw ho hnot hp v (by simp [lk]) ?_ ?_ ?_ (hlt ho)) hleft hs'
   ·intro j u hj hl
    simp only [lk] at hl
    cases hji:Nat.beq i j with
    | true=>have:=Nat.eq_of_beq_eq_true hji;subst this;rw [hnot] at hj;cases hj
    | false=>rw [hji,cond_false] at hl;exact hl
   ·intro j hj
    simp only [lk]
    cases Nat.beq i j with
    | true=>simp
    | false=>exact hsi.cov j hj
   ·intro e _;simp
  ·have hin:i∈quietOf ops.size ms effs S:=by
    unfold quietOf
    refine List.mem_filter.2 ⟨by simpa using hi,?_⟩
    rw [hturn,Bool.and_true,Bool.and_eq_true]
    refine ⟨by rw [Bool.not_eq_true',Bool.eq_false_iff];exact fun h=>hmem (any_beq.1 h),?_⟩
    rw [Bool.not_eq_true',Bool.eq_false_iff]
    intro h
    unfold surely at h
    obtain ⟨s,hs,hso⟩:=List.any_eq_true.1 h
    have hse:=any_beq.1 (List.all_eq_true.1 hS s hs)
    have:=anc_listed hsi.clo ((hsi.eff s hse).2 hs) (masks_get hms hso)
    rw [hnot] at this;cases this
   obtain ⟨o',v,ho',hv,hos⟩:=hq.get i hin
   rw [ho] at ho';cases ho'
   refine hos a w _ _ hfr hst trivial fun w' hs' =>?_
   refine ih _ _ w' (hsi.next hw ho hnot hp v hv (fun j u _ h=>h) hsi.cov ?_ (hlt ho)) hleft hs'
   intro e he
   constructor
   ·exact .inr
   ·rintro (h | h)
    ·subst h;exact absurd he hmem
    ·exact h
theorem stage_ext(W:Env)(hW:(W.all fun p=>(lk V p.1).isNone)=true)(h:Stage x ops ks effs S (W++V) E0 R L):Stage x ops ks effs S V E0 R L:=by
 intro fuel li a w hsi
 have eq:∀j,lk V j≠none→lk (W++V) j=lk V j:=fun j hj=>by
  cases e:lk V j with
  | none=>exact absurd e hj
  | some v =>
   have no:∀(W':Env),(∀p∈W',(lk V p.1).isNone=true)→lk (W'++V) j=lk V j:=by
    intro W'
    induction W' with
    | nil=>intro _;rfl
    | cons p W' ih =>
     intro hp
     obtain ⟨k,u⟩:=p
     simp only [List.cons_append,lk]
     cases hk:Nat.beq k j with
     | true =>
      have:=Nat.eq_of_beq_eq_true hk
      subst this
      have:=hp (k,u) (by simp)
      rw [e] at this;cases this
     | false=>exact ih fun q hq=>hp q (by simp [hq])
   rw [no W (List.all_eq_true.1 hW),e]
 exact h fuel li a w ⟨hsi.sz,hsi.clo,hsi.eff,fun i hi=>by rw [eq i (hsi.cov i hi)];exact hsi.cov i hi,hsi.fsz,hsi.df,
  fun i d v hd hi hv=>hsi.sl i d v hd hi (by rw [←eq i (hsi.cov i hi)];exact hv),hsi.e0⟩
theorem stage_st{L':List HP}{R':PH}(hL:∀w,St x.G R L w→St x.G R' L' w)(h:Stage x ops ks effs S V E0 R' L'):Stage x ops ks effs S V E0 R L :=
 fun fuel li a w hsi hle hst=>h fuel li a w hsi hle (hL w hst)
theorem qn:Quiet x ops V E0 R L []:=trivial
theorem qc{i:Nat}{r:List Nat}{o:Oper}{v:Value}(ho:ops[i]? = some o)(hv:lk V i=some v)(h:OS x ops o (envD ops V E0 i) R L v R L)
  (k:Quiet x ops V E0 R L r):Quiet x ops V E0 R L (i::r):=⟨⟨o,v,ho,hv,h⟩,k⟩
theorem en:EffsOK x ops ks effs S V E0 R L []:=trivial
theorem ec{e:Nat}{r:List Nat}(h:EffOK x ops ks effs S V E0 R L e)(k:EffsOK x ops ks effs S V E0 R L r):EffsOK x ops ks effs S V E0 R L (e::r):=⟨h,k⟩
theorem eo_u{e:Nat}{o:Oper}{v:Value}{R':PH}{L':List HP}(ho:ops[e]? = some o)(h:OS x ops o (envD ops V E0 e) R L v R' L')(hR:Le R R')
  (k:Stage x ops ks effs (e::S) ((e,v)::V) E0 R' L'):EffOK x ops ks effs S V E0 R L e :=
 ⟨o,fun u R1 L1=>u=v∧R1=R'∧L1=L',ho,fun a w K hf hs kk=>h a w K _ hf hs trivial fun w' hs'=>kk _ _ _ w' hR ⟨rfl,rfl,rfl⟩ hs',
  fun u R1 L1 _ ⟨h1,h2,h3⟩=>by subst h1;subst h2;subst h3;exact k⟩
theorem eo_c{e:Nat}{o:Oper}{v:Value}{L':List HP}(ho:ops[e]? = some o)(h:OSW x ops ks o (envD ops V E0 e) R L (fun u R1 L1=>u=v∧R1=R∧L1=L'))
  (k:Stage x ops ks effs (e::S) ((e,v)::V) E0 R L'):EffOK x ops ks effs S V E0 R L e :=
 ⟨o,_,ho,h,fun u R1 L1 _ ⟨h1,h2,h3⟩=>by subst h1;subst h2;subst h3;exact k⟩
theorem eo_n{e:Nat}{o:Oper}{T:Nat}{cs:List Value}(ho:ops[e]? = some o)(h:OSW x ops ks o (envD ops V E0 e) R L (New R L T cs))
  (k:∀b,Stage x ops ks effs (e::S) ((e,pt b 0)::V) E0 R (Blk b (.cells cs.toArray T (0,0))::L)):EffOK x ops ks effs S V E0 R L e :=
 ⟨o,_,ho,h,fun u R1 L1 _ ⟨b,h1,h2,h3⟩=>by subst h1;subst h2;subst h3;exact k b⟩
theorem eo_w{e:Nat}{o:Oper}{C:Value→PH→List HP→Prop}(ho:ops[e]? = some o)(h:OSW x ops ks o (envD ops V E0 e) R L C)
  (k:∀v R' L',Le R R'→C v R' L'→Stage x ops ks effs (e::S) ((e,v)::V) E0 R' L'):EffOK x ops ks effs S V E0 R L e:=⟨o,C,ho,h,k⟩
theorem none_done{n i:Nat}(h:(Array.replicate n false).getD i false=true):False:=by
 rw [Array.getD_eq_getD_getElem?,Array.getElem?_replicate] at h
 split at h <;> simp at h
theorem c_any{id:Nat}{E:Env}(hm:x.P.follows .mixedOrders=true)(h:Stage x ops ks effs [] V E R L):CD x (.region id ops true) ks E R L:=fun a w hf hs =>
 wpIn_region_any hm (h ops.size _ a _
  ⟨by simp,fun i o ho hl=>(none_done hl).elim,fun e _=>⟨fun hl=>(none_done hl).elim,fun h=>nomatch h⟩,fun i hl=>(none_done hl).elim,hf.size,hf.df,
   fun i d v _ hl=>(none_done hl).elim,fun d v hd _=>hf.get d v hd⟩
  (by unfold left;exact Nat.le_trans List.countP_le_length (by simp)) hs.drew)
end
end Go.Proofs.YtpanhdnglicknaaGreat.Hw
