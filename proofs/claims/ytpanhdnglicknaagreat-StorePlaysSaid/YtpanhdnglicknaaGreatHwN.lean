import Derived.Test.YtpanhdnglicknaaGreatHwM
set_option linter.unusedSimpArgs false
set_option linter.unusedVariables false
namespace Go.Proofs.YtpanhdnglicknaaGreat.Hw
open Go
section
variable {x:Cx} {ks:List KF} {E E':Env} {R R':PH} {L L':List HP} {c:Code} {ops:Array Oper} {l:List Oper} {e:Exit} {G:World} {w:World} {op:Op} {ty:TypeId} {v:Value}
theorem cd_ex{ι:Type}{P:ι→Prop}{Rf:ι→PH}{Lf:ι→List HP}(hL:∀w,St x.G R L w→∃i,P i∧St x.G (Rf i) (Lf i) w)(h:∀i,P i→CD x c ks E (Rf i) (Lf i)):CD x c ks E R L :=
 fun a w hf hs=>by obtain ⟨i,hp,hs'⟩:=hL w hs;exact h i hp a w hf hs'
theorem rl_ex{ι:Type}{P:ι→Prop}{Rf:ι→PH}{Lf:ι→List HP}(hL:∀w,St x.G R L w→∃i,P i∧St x.G (Rf i) (Lf i) w)(h:∀i,P i→RL x ops ks l E (Rf i) (Lf i)):RL x ops ks l E R L :=
 fun a w hf hs=>by obtain ⟨i,hp,hs'⟩:=hL w hs;exact h i hp a w hf hs'
theorem ex_ex{ι:Type}{P:ι→Prop}{Rf:ι→PH}{Lf:ι→List HP}(hL:∀w,St x.G R L w→∃i,P i∧St x.G (Rf i) (Lf i) w)(h:∀i,P i→EX x e ks E (Rf i) (Lf i)):EX x e ks E R L :=
 fun a w hf hs=>by obtain ⟨i,hp,hs'⟩:=hL w hs;exact h i hp a w hf hs'
theorem cd_cut(A:Cx→List KF→Prop)(hK:A x ks)(h:A x ks→CD x c ks E R L):CD x c ks E R L:=h hK
def sep(p q:HP):HP:=fun h=>∃h1 h2,Dj h1 h2∧Le h1 h∧Le h2 h∧p h1∧q h2
def star:List HP→HP
 | []=>fun _=>True
 | p::A=>sep p (star A)
theorem le_orL(h1 h2:PH):Le h1 (fun b=>(h1 b).or (h2 b)):=fun b o e=>by simp [e]
theorem le_orR{h1 h2:PH}(d:Dj h1 h2):Le h2 (fun b=>(h1 b).or (h2 b)):=fun b o e=>by
 rcases d b with h | h
 ·simp [h,e]
 ·rw [h] at e;cases e
theorem st_sep_o{p q:HP}(hs:St G R (sep p q::L) w):St G R (p::q::L) w:=st_split (fun _ h=>h) hs
theorem st_sep_f{p q:HP}(hs:St G R (p::q::L) w):St G R (sep p q::L) w :=
 st_merge (fun h1 h2 d a b=>⟨h1,h2,d,le_orL h1 h2,le_orR d,a,b⟩) hs
theorem st_star_o:∀{A L:List HP},St G R (star A::L) w→St G R (A++L) w
 | [],_,h=>h.drop
 | p::A,L,h=>by
  have h1:=st_sep_o (p:=p) (q:=star A) h
  have h2:St G R (star A::p::L) w:=st_mid' (A:=[]) h1
  have h3:St G R (A++p::L) w:=st_star_o h2
  have h4:=St.add_true h3
  have h5:St G R ((fun _=>True)::(A++p::L)) w:=h4
  exact (st_mid' h5:St G R (p::(fun _=>True)::(A++L)) w) |> fun h=>(st_mid' (A:=[]) h).drop
where
 St.add_true {L:List HP} (h:St G R L w):St G R ((fun _=>True)::L) w:=st_emp trivial h
theorem st_star_f:∀{A L:List HP},St G R (A++L) w→St G R (star A::L) w
 | [],_,h=>st_emp trivial h
 | p::A,L,h=>by
  have h0:St G R ((fun _=>True)::p::(A++L)) w:=st_emp trivial h
  have h1:St G R (A++p::L) w:=by
   have h2:St G R (p::(fun _=>True)::(A++L)) w:=st_mid' (A:=[]) h0
   have h3:St G R ((fun _=>True)::(A++p::L)) w:=by
    have:=st_mid (p:=fun _=>True) (q:=p) (A:=A) (F:=L) (st_mid' (A:=[]) h2)
    exact this
   exact h3.drop
  have h2:St G R (star A::p::L) w:=st_star_f h1
  exact st_sep_f (st_mid' (A:=[]) h2)
def OwL{α:Type}(own:Value→α→HP):List Value→List α→HP
 | [],[]=>fun _=>True
 | v::vs,y::ys=>sep (own v y) (OwL own vs ys)
 | _,_=>fun _=>False
def OwX{α:Type}(own:Value→α→HP):Nat→List Value→List α→HP
 | 0,_::vs,_::ys=>OwL own vs ys
 | i+1,v::vs,y::ys=>sep (own v y) (OwX own i vs ys)
 | _,_,_=>fun _=>False
variable {α:Type} {own:Value→α→HP}
theorem sep_swap{p q r h}(hh:sep p (sep q r) h):sep q (sep p r) h:=by
 obtain ⟨a,b,d,l1,l2,hp,b1,b2,d2,m1,m2,hq,hr⟩:=hh
 have d1:Dj a b1:=(d.symm.le m1).symm
 have d3:Dj a b2:=(d.symm.le m2).symm
 refine ⟨b1,fun k=>(a k).or (b2 k),?_,m1.trans l2,?_,hq,a,b2,d3,le_orL _ _,le_orR d3,hp,hr⟩
 ·intro k
  rcases d1 k with h | h
  ·rcases d2 k with h' | h'
   ·exact .inl h'
   ·exact .inr (by simp [h,h'])
  ·exact .inl h
 ·intro k o e
  dsimp only at e
  cases ha:a k with
  | some o'=>rw [ha] at e;exact l1 k o (by rw [ha];simpa using e)
  | none=>rw [ha] at e;exact l2 k o (m2 k o (by simpa using e))
theorem sep_mono{p q p' q':HP}{h:PH}(hp:∀h,p h→p' h)(hq:∀h,q h→q' h)(hh:sep p q h):sep p' q' h:=by
 obtain ⟨a,b,d,l1,l2,h1,h2⟩:=hh
 exact ⟨a,b,d,l1,l2,hp _ h1,hq _ h2⟩
theorem OwL.len:∀{vs:List Value} {ys:List α} {h:PH},OwL own vs ys h→vs.length=ys.length
 | [],[],_,_=>rfl
 | _::vs,_::ys,_,⟨_,_,_,_,_,_,h⟩=>by simp [OwL.len h]
 | [],_::_,_,h=>h.elim
 | _::_,[],_,h=>h.elim
theorem OwL.focus:∀{vs:List Value} {ys:List α} {h:PH} {i:Nat} {y:α},OwL own vs ys h→ys[i]? = some y→∃v,vs[i]? = some v∧sep (own v y) (OwX own i vs ys) h
 | [],[],_,_,_,_,hi=>by simp at hi
 | v::vs,z::ys,h,0,y,hh,hi=>by
  simp at hi;subst hi
  exact ⟨v,rfl,hh⟩
 | v::vs,z::ys,h,i+1,y,hh,hi=>by
  obtain ⟨a,b,d,l1,l2,h1,h2⟩:=hh
  obtain ⟨u,hu,h3⟩:=OwL.focus h2 (by simpa using hi)
  exact ⟨u,by simpa using hu,sep_swap ⟨a,b,d,l1,l2,h1,h3⟩⟩
 | [],_::_,_,_,_,h,_=>h.elim
 | _::_,[],_,_,_,h,_=>h.elim
theorem OwX.close:∀{vs:List Value} {ys:List α} {h:PH} {i:Nat} {v:Value} {y:α},sep (own v y) (OwX own i vs ys) h→OwL own (vs.set i v) (ys.set i y) h
 | [],[],_,i,_,_,⟨_,_,_,_,_,_,h⟩=>by cases i <;> exact h.elim
 | u::vs,z::ys,h,0,v,y,hh=>hh
 | u::vs,z::ys,h,i+1,v,y,hh=>by
  have:=sep_swap hh
  exact sep_mono (fun _ h=>h) (fun _ h=>OwX.close h) this
 | [],_::_,_,i,_,_,⟨_,_,_,_,_,_,h⟩=>by cases i <;> exact h.elim
 | _::_,[],_,i,_,_,⟨_,_,_,_,_,_,h⟩=>by cases i <;> exact h.elim
theorem st_focus{vs:List Value}{ys:List α}{i:Int}{y:α}(hi:gi ys i=some y)(hs:St G R (OwL own vs ys::L) w):∃v,gi vs i=some v∧St G R (own v y::OwX own i.toNat vs ys::L) w:=by
 obtain ⟨⟨h0,h1⟩,h2⟩:=gi_some hi
 have h3:St G R ((fun h=>∃v,(fun h=>vs[i.toNat]? = some v∧sep (own v y) (OwX own i.toNat vs ys) h) h)::L) w:=st_wk (fun h hh=>OwL.focus hh h2) hs
 obtain ⟨v,h4⟩:=St.openHead h3
 obtain ⟨h5,h6⟩:=St.pureHead h4
 exact ⟨v,by unfold gi;rw [if_pos h0];exact h5,st_sep_o h6⟩
theorem st_unfocus{vs:List Value}{ys:List α}{i:Nat}{v:Value}{y:α}(hs:St G R (own v y::OwX own i vs ys::L) w):St G R (OwL own (vs.set i v) (ys.set i y)::L) w :=
 st_wk (fun h hh=>OwX.close hh) (st_sep_f hs)
theorem set_same{β:Type}{l:List β}{i:Int}{y:β}(h:gi l i=some y):l.set i.toNat y=l:=by
 obtain ⟨_,h2⟩:=gi_some h
 apply List.ext_getElem?
 intro j
 by_cases e:i.toNat=j
 ·subst e
  have hl:i.toNat<l.length:=(List.getElem?_eq_some_iff.1 h2).1
  rw [List.getElem?_set_self hl,h2]
 ·rw [List.getElem?_set_ne e]
theorem st_unfocusV{vs:List Value}{ys:List α}{i:Int}{v:Value}{y:α}(hv:gi vs i=some v)(hs:St G R (own v y::OwX own i.toNat vs ys::L) w):St G R (OwL own vs (ls ys i y)::L) w:=by
 have h:=st_unfocus hs
 rw [set_same hv] at h
 exact h
theorem OwL.rep{v:Value}{y:α}(h0:∀h,own v y h):∀(n:Nat) (h:PH),OwL own (List.replicate n v) (List.replicate n y) h
 | 0,_=>trivial
 | n+1,h=>⟨fun _=>none,h,fun _ => .inl rfl,fun _ _ e=>(by cases e),Le.refl _,h0 _,OwL.rep h0 n h⟩
theorem OwS.nil{ap:Bool}{T sz:Nat}{en:α→List Value}{h:PH}: OwS ap T sz en (.slice none 0 0) [] h := .inl ⟨rfl,rfl⟩
theorem st_nil{ap:Bool}{T sz:Nat}{en:α→List Value}(hs:St G R L w):St G R (OwS ap T sz en (.slice none 0 0) ([]:List α)::L) w:=st_emp OwS.nil hs
theorem RoS.mono{v:Value}{sz:Nat}{en:α→List Value}{l:List α}(hl:Le R R')(h:RoS R v sz en l):RoS R' v sz en l:=by
 obtain ⟨a,c,hv,h⟩:=h
 refine ⟨a,c,hv,?_⟩
 rcases h with h | ⟨b,o,cs,T,fr,ha,hR,hc⟩
 ·exact .inl h
 ·exact .inr ⟨b,o,cs,T,fr,ha,hl _ _ hR,hc⟩
theorem RoS.nil{sz:Nat}{en:α→List Value}: RoS R (.slice none 0 0) sz en ([]:List α):=⟨none,0,rfl,.inl rfl⟩
theorem St.freeze{p:HP}(hs:St G R (p::L) w):∃R' k,Le R R'∧Le k R'∧p k∧St G R' L w:=by
 obtain ⟨σ,h1,h2⟩:=hs.ex
 obtain ⟨a1,a2,a3⟩:=h1 0 p rfl
 refine ⟨fun b=>(R b).or (σ 0 b),σ 0,le_orL _ _,le_orR a3,a1,hs.os,hs.tape,hs.out,?_,fun i=>σ (i+1),?_,?_⟩
 ·intro b o e
  dsimp only at e
  cases hr:R b with
  | some o'=>rw [hr] at e;exact hs.ro b o (by rw [hr];simpa using e)
  | none=>rw [hr] at e;exact a2 b o (by simpa using e)
 ·intro i q hi
  obtain ⟨b1,b2,b3⟩:=h1 (i+1) q (by simpa using hi)
  refine ⟨b1,b2,?_⟩
  have hlt:i+1<(p::L).length:=by
   rcases Nat.lt_or_ge (i+1) (p::L).length with x | x
   ·exact x
   ·have:(p::L)[i+1]? = some q:=by simpa using hi
    rw [List.getElem?_eq_none x] at this;cases this
  have hd:=h2 0 (i+1) (by simp) hlt (by omega)
  intro b
  rcases b3 b with h | h
  ·rcases hd b with h' | h'
   ·exact .inl (by simp [h,h'])
   ·exact .inr h'
  ·exact .inr h
 ·intro i j hi hj hij
  exact h2 (i+1) (j+1) (by simpa using hi) (by simpa using hj) (by omega)
theorem OwS.ro{ap:Bool}{T sz:Nat}{en:α→List Value}{q:List α}{k:PH}(hh:OwS ap T sz en v q k)(hl:Le k R):RoS R v sz en q:=by
 rcases hh with ⟨rfl,rfl⟩ | ⟨b,o,c,cs,fr,rfl,hb,_,he,_,hq,_⟩
 ·exact RoS.nil
 ·exact ⟨_,c-q.length,by rw [Nat.add_sub_cancel' hq],.inr ⟨b,o,cs,T,fr,rfl,hl _ _ hb,he⟩⟩
theorem st_freeze{ap:Bool}{T sz:Nat}{en:α→List Value}{q:List α}(w:World)(hs:St G R (OwS ap T sz en v q::L) w):∃R',(Le R R'∧RoS R' v sz en q)∧St G R' L w:=by
 obtain ⟨R',k,h1,h2,h3,h4⟩:=hs.freeze
 exact ⟨R',⟨h1,h3.ro h2⟩,h4⟩
def RoN{α:Type}(R:PH)(v:Value)(sz:Nat)(en:α→List Value)(l:List (List α)):Prop :=
 ∃hs:List Value,RoS R v 1 (fun u=>[u]) hs∧hs.length=l.length∧∀(i:Nat) u y,hs[i]? = some u→l[i]? = some y→RoS R u sz en y
theorem RoN.mono{v:Value}{sz:Nat}{en:α→List Value}{l:List (List α)}(hl:Le R R')(h:RoN R v sz en l):RoN R' v sz en l:=by
 obtain ⟨hs,h1,h2,h3⟩:=h
 exact ⟨hs,h1.mono hl,h2,fun i u y hu hy=>(h3 i u y hu hy).mono hl⟩
theorem RoN.nil{sz:Nat}{en:α→List Value}: RoN R (.slice none 0 0) sz en ([]:List (List α)):=⟨[],RoS.nil,rfl,fun i u y h=>by simp at h⟩
theorem OwL.ro{ap:Bool}{T sz:Nat}{en:α→List Value}: ∀{vs:List Value} {ys:List (List α)} {k:PH},OwL (fun v y=>OwS ap T sz en v y) vs ys k→Le k R→∀(i:Nat) u y,vs[i]? = some u→ys[i]? = some y→RoS R u sz en y
 | [],[],_,_,_,i,u,y,hu,_=>by simp at hu
 | v::vs,z::ys,k,⟨a,b,_,l1,l2,h1,h2⟩,hl,0,u,y,hu,hy=>by
  simp at hu hy;subst hu;subst hy
  exact OwS.ro h1 (l1.trans hl)
 | v::vs,z::ys,k,⟨a,b,_,l1,l2,h1,h2⟩,hl,i+1,u,y,hu,hy=>OwL.ro h2 (l2.trans hl) i u y (by simpa using hu) (by simpa using hy)
 | [],_::_,_,h,_,_,_,_,_,_=>h.elim
 | _::_,[],_,h,_,_,_,_,_,_=>h.elim
theorem st_freezeN{ap ap2:Bool}{T T2 sz:Nat}{en:α→List Value}{vs:List Value}{q:List (List α)}(w:World)(hs:St G R (OwS ap T 1 (fun u=>[u]) v vs::OwL (fun v y=>OwS ap2 T2 sz en v y) vs q::L) w):
  ∃R',(Le R R'∧RoN R' v sz en q)∧St G R' L w:=by
 obtain ⟨R1,k,h1,h2,h3,h4⟩:=hs.freeze
 obtain ⟨R2,k2,g1,g2,g3,g4⟩:=h4.freeze
 exact ⟨R2,⟨h1.trans g1,vs,(h3.ro h2).mono g1,g3.len,fun i u y hu hy=>OwL.ro g3 g2 i u y hu hy⟩,g4⟩
end
end Go.Proofs.YtpanhdnglicknaaGreat.Hw
