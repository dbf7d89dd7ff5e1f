import Derived.Test.YtpanhdnglicknaaGreatW5
import Derived.Test.YtpanhdnglicknaaGreatQ0
import Derived.Test.YtpanhdnglicknaaGreatQ1
import Derived.Test.YtpanhdnglicknaaGreatQ2
import Derived.Test.YtpanhdnglicknaaGreatQ3
set_option linter.unusedVariables false
set_option linter.unusedSectionVars false
set_option linter.unusedSimpArgs false
set_option maxRecDepth 100000
set_option maxHeartbeats 4000000
namespace Go.Proofs.YtpanhdnglicknaaGreat.Pure
open Go Go.Proofs.YtpanhdnglicknaaGreat.Hw Go.Proofs.YtpanhdnglicknaaGreat
theorem new_d(n:Nat)(seed:UInt64)(h1:1≤n)(h2:n≤500):DF (n:Int) seed=some (TD n seed ⟨List.replicate (wd n) 0,List.replicate (wd n) 0,List.replicate (wd n) 0,List.replicate (wd n) 0,List.replicate (wd n) false,0⟩ ⟨[],[],[]⟩):=by
 have ew:Dx (n:Int)=(wd n:Int):=by
  unfold Dx wd
  rw [if_neg (by simp;omega),i64s _ (by omega) (by omega)];omega
 have w1:1≤wd n:=by unfold wd;omega
 have w2:wd n≤4096:=by unfold wd;omega
 unfold DF
 rw [ew,new_m (wd n) seed w1 w2,ob_,i64n n (by omega),show BC 3 _=_ from rnew 3 (by omega),ob_]
 rfl
section
variable {n:Nat} {seed:UInt64} {t:Ao} {s:Sk} {x:TL} {k:Str}
theorem ins_le:(ins n seed s x k).2.length≤1:=by
 unfold ins
 split
 ·simp
 ·split
  ·simp
  ·split
   ·split <;> simp
   ·simp
end
def PP(n:Nat)(seed:UInt64)(p:Ah)(m:Af):Prop :=
 (∃t x,p.kind=1∧p.a=some t∧m.Kind=1∧m.A=AD n t.target x∧AE n t x)∨∃t s x,p.kind=2∧p.t=some t∧m.Kind=2∧m.T=TD n seed s x∧TR n seed t s x
theorem k1t{k:Int}(h:k=1):(k==1)=true:=by subst h;decide
theorem k2t{k:Int}(h:k=2):(k==2)=true:=by subst h;decide
theorem k2f{k:Int}(h:k=1):¬(k==2)=true:=by subst h;decide
section
variable {n:Nat} {seed:UInt64} {p:Ah} {m:Af} {k:Str}
theorem PP.Touch(h:PP n seed p m)(hn:n≤400)(k:Str):∃b p' m',BZ p k=some (b,p')∧Co m k=some (m',b)∧PP n seed p' m'∧p'.kind=p.kind:=by
 unfold BZ Co AA
 rcases h with ⟨t,x,h1,h2,h3,h4,h⟩ | ⟨t,s,x,h1,h2,h3,h4,h⟩
 ·obtain ⟨t',x',e,ed,h'⟩:=h.dtouch k
  rw [if_pos (k1t h1),h2,om_some,e,ob_,if_pos (k1t h3),h4,ed,ob_]
  exact ⟨_,_,_,rfl,rfl,.inl ⟨t',x',h1,rfl,h3,rfl,h'⟩,rfl⟩
 ·rw [if_neg (k1f h1),if_pos (k2t h1),h2,om_some,if_neg (k1f h3),h4]
  by_cases hm:k∈x.all
  ·obtain ⟨t',e,h',_⟩:=h.touch hm
   rw [e,ob_,dTouch h (by omega) hm,ob_]
   exact ⟨_,_,_,rfl,rfl,.inr ⟨t',_,_,h1,rfl,h3,rfl,h'⟩,rfl⟩
  ·rw [h.touch_no hm,ob_,dTouch_no h (by omega) hm,ob_]
   exact ⟨_,_,_,rfl,rfl,.inr ⟨t,_,_,h1,rfl,h3,rfl,h⟩,rfl⟩
theorem PP.Remove(h:PP n seed p m)(hn:n≤400)(k:Str):∃b p' m',Bd p k=some (b,p')∧BN m k=some (m',b)∧PP n seed p' m'∧p'.kind=p.kind:=by
 unfold Bd BN AA
 rcases h with ⟨t,x,h1,h2,h3,h4,h⟩ | ⟨t,s,x,h1,h2,h3,h4,h⟩
 ·obtain ⟨t',x',e,ed,h'⟩:=h.dremove k
  rw [if_pos (k1t h1),h2,om_some,e,ob_,if_pos (k1t h3),h4,ed,ob_]
  exact ⟨_,_,_,rfl,rfl,.inl ⟨t',x',h1,rfl,h3,rfl,h'⟩,rfl⟩
 ·obtain ⟨t',e,h'⟩:=h.Remove k
  rw [if_neg (k1f h1),if_pos (k2t h1),h2,om_some,e,ob_,if_neg (k1f h3),h4,dRemove h (by omega),ob_]
  exact ⟨_,_,_,rfl,rfl,.inr ⟨t',_,_,h1,rfl,h3,rfl,h'⟩,rfl⟩
theorem PP.Evict(h:PP n seed p m)(hn:n≤400):∃o b p' m',BL p=some (o,b,p')∧Cp m=some (m',o,b)∧PP n seed p' m'∧p'.kind=p.kind:=by
 unfold BL Cp AA
 rcases h with ⟨t,x,h1,h2,h3,h4,h⟩ | ⟨t,s,x,h1,h2,h3,h4,h⟩
 ·obtain ⟨o,b,t',x',e,ed,h'⟩:=h.devict
  rw [if_pos (k1t h1),h2,om_some,e,ob_,if_pos (k1t h3),h4,ed,ob_]
  exact ⟨_,_,_,_,rfl,rfl,.inl ⟨t',x',h1,rfl,h3,rfl,h'⟩,rfl⟩
 ·obtain ⟨t',x',e,h',e2⟩:=h.Evict
  rw [if_neg (k1f h1),if_pos (k2t h1),h2,om_some,e,ob_,if_neg (k1f h3),h4,dEvict h (by omega),ob_]
  cases e3:evk x with
  | none=>rw [e3] at e2;dsimp only at e2;subst e2;exact ⟨_,_,_,_,rfl,rfl,.inr ⟨t',_,_,h1,rfl,h3,rfl,h'⟩,rfl⟩
  | some q=>rw [e3] at e2;dsimp only at e2;subst e2;exact ⟨_,_,_,_,rfl,rfl,.inr ⟨t',_,_,h1,rfl,h3,rfl,h'⟩,rfl⟩
theorem PP.Miss(h:PP n seed p m)(hn:n≤400){k:Str}(hk:k.length≤64):∃p' m',Cc p k=some p'∧CA m k=some m'∧PP n seed p' m'∧p'.kind=p.kind:=by
 have hh:=h
 unfold Cc CA AA
 rcases h with ⟨t,x,h1,h2,h3,h4,h⟩ | ⟨t,s,x,h1,h2,h3,h4,h⟩
 ·rw [if_neg (k2f h1),if_neg (k2f h3),ob_,if_neg (by simp)]
  exact ⟨_,_,rfl,rfl,hh,rfl⟩
 ·rw [if_pos (k2t h1),h2,om_some,if_pos (k2t h1),h.Has,ob_,if_pos (k2t h3),h4,dHas (by omega) h.xn,ob_,ob_]
  by_cases hx:k∈x.all
  ·rw [if_neg (by simp [hx]),if_neg (by simp [hx])]
   exact ⟨_,_,rfl,rfl,hh,rfl⟩
  ·obtain ⟨t',e,h'⟩:=h.Miss hk
   rw [if_pos (by simp [hx]),if_pos (by simp [hx]),e,ob_,dMiss h (by omega),if_pos hk,ob_]
   exact ⟨_,_,rfl,rfl,.inr ⟨t',_,_,h1,rfl,h3,rfl,h'⟩,rfl⟩
theorem PP.Insert(h:PP n seed p m)(hn:n≤400)(k:Str):∃g p' m',Ba p k=some (g,p')∧BO m k=some (m',g)∧PP n seed p' m'∧p'.kind=p.kind∧g.length≤1:=by
 unfold Ba BO AA
 rcases h with ⟨t,x,h1,h2,h3,h4,h⟩ | ⟨t,s,x,h1,h2,h3,h4,h⟩
 ·obtain ⟨g,t',x',e,ed,h',hg⟩:=h.dinsert k
  rw [if_pos (k1t h1),h2,om_some,e,ob_,if_pos (k1t h3),h4,ed,ob_]
  exact ⟨_,_,_,rfl,rfl,.inl ⟨t',x',h1,rfl,h3,rfl,h'⟩,rfl,hg⟩
 ·rw [if_neg (k1f h1),if_pos (k2t h1),h2,om_some,if_neg (k1f h3),h4]
  by_cases h64:k.length≤64
  ·by_cases hm:k∈x.all
   ·obtain ⟨t',e,h',_⟩:=h.insert_yes hm
    rw [e,ob_,dInsert_yes h (by omega) hm,ob_]
    exact ⟨_,_,_,rfl,rfl,.inr ⟨t',_,_,h1,rfl,h3,rfl,h'⟩,rfl,by simp⟩
   ·obtain ⟨t',e,h',_⟩:=h.insert_no hm h64
    rw [e,ob_,dInsert_no h (by omega) hm h64,ob_]
    exact ⟨_,_,_,rfl,rfl,.inr ⟨t',_,_,h1,rfl,h3,rfl,h'⟩,rfl,ins_le⟩
  ·rw [h.insert_long (by omega),ob_,dInsert_long (by omega),ob_]
   exact ⟨_,_,_,rfl,rfl,.inr ⟨t,_,_,h1,rfl,h3,rfl,h⟩,rfl,by simp⟩
theorem num1:AJ 1=some [1]:=by decide +kernel
theorem num2:AJ 2=some [2]:=by decide +kernel
end
theorem slt_lt:∀a b:Str,slt a b=decide (a<b)
 | _,[]=>by simp [slt,Op.bytesLess]
 | [],_::_=>by simp [slt,Op.bytesLess]
 | a::x,b::y=>by
  have ih:=slt_lt x y
  unfold slt at ih ⊢
  unfold Op.bytesLess
  rw [ih]
  by_cases hab:a=b
  ·subst hab;simp [List.cons_lt_cons_iff]
  ·rw [beq_eq_false_iff_ne.2 hab];simp [List.cons_lt_cons_iff,hab]
def eb(k:Str)(e:Ai):Str:=((tb k++tb e.Value)++enc 11 e.Version.toNat)++enc 11 e.End.toNat
def tlb(m:TM)(L:List Str):Str:=L.flatMap fun k=>eb k ((mget m k).getD (⟨[],[],0,0⟩:Ai))
theorem tb_le{u:Str}{c:Nat}(h:u.length≤c):(tb u).length≤c+11:=by
 have:=enc_len 11 u.length
 unfold tb;rw [List.length_append];omega
theorem eb_le{k:Str}{e:Ai}(hk:k.length≤64)(hv:e.Value.length≤4096):(eb k e).length≤4204:=by
 have h1:=tb_le hk
 have h2:=tb_le hv
 have h3:=enc_len 11 e.Version.toNat
 have h4:=enc_len 11 e.End.toNat
 unfold eb;simp only [List.length_append];omega
theorem num_w(n:UInt64):AJ n=some (enc 11 n.toNat):=(num_enc n).1
theorem txt(u:Str)(h:u.length≤100000):Dw u=some (tb u):=(text_bytes u h).1
theorem tlb_le(m:TM):∀(L:List Str),(∀k∈L,k.length≤64∧((mget m k).getD (⟨[],[],0,0⟩:Ai)).Value.length≤4096)→(tlb m L).length≤4204*L.length
 | [],_=>by simp [tlb]
 | k::L,h=>by
  have h1:=tlb_le m L fun q hq=>h q (List.mem_cons_of_mem _ hq)
  have h2:=eb_le (h k (List.mem_cons_self ..)).1 (h k (List.mem_cons_self ..)).2
  have e:tlb m (k::L)=eb k ((mget m k).getD (⟨[],[],0,0⟩:Ai))++tlb m L:=rfl
  rw [e,List.length_append,List.length_cons];omega
theorem texp_l0(t:Am)(L:List Str)(hL:L.length≤2000)(hk:∀k∈L,k.length≤64∧((mget t.m k).getD (⟨[],[],0,0⟩:Ai)).Value.length≤4096):
  ∀(f i:Nat) (c:Str),L.length-i<f→i≤L.length→c.length≤1000+4204*i→CU t L f c (i:Int)=some (c++tlb t.m (L.drop i))
 | 0,i,c,h,_,_=>by omega
 | f+1,i,c,h,hi,hc=>by
  have hM:20000000≤maxS:=by decide
  unfold CU
  rcases Nat.lt_or_ge i L.length with h1 | h1
  ·have hm:=hk _ (List.getElem_mem h1)
   have e1:=eb_le hm.1 hm.2
   have e2:=tb_le hm.1
   have e3:=tb_le hm.2
   have e:tlb t.m (L.drop i)=eb L[i] ((mget t.m L[i]).getD (⟨[],[],0,0⟩:Ai))++tlb t.m (L.drop (i+1)):=by rw [List.drop_eq_getElem_cons h1];rfl
   rw [if_pos (by simp;exact h1),giC,List.getElem?_eq_getElem h1,ob_,txt _ (by omega),ob_,txt _ (by omega),ob_,if_pos (by omega),num_w,ob_,if_pos (by unfold eb at e1;simp only [List.length_append] at e1 ⊢;omega),num_w,ob_,
    if_pos (by unfold eb at e1;simp only [List.length_append] at e1 ⊢;omega)]
   change (if c.length+(eb L[i] ((mget t.m L[i]).getD (⟨[],[],0,0⟩:Ai))).length≤maxS then CU t L f (c++eb L[i] ((mget t.m L[i]).getD (⟨[],[],0,0⟩:Ai))) (i64 ((i:Int)+1)) else none)=_
   rw [if_pos (by omega),i64n i (by omega),texp_l0 t L hL hk f (i+1) _ (by omega) (by omega) (by rw [List.length_append];omega),e,List.append_assoc]
  ·rw [if_neg (by simp;omega),List.drop_eq_nil_of_le h1];simp [tlb]
section
variable {K:List Str} {t:Am}
theorem TB.kv(h:TB K t):∀k∈ksort (keys t.m),k.length≤64∧((mget t.m k).getD (⟨[],[],0,0⟩:Ai)).Value.length≤4096:=fun k hk=>by
 have hk:=(ksort_perm _).mem_iff.1 hk
 obtain ⟨e,he⟩:=keys_mem.1 hk
 have:=h.en _ (mget_mem he)
 rw [he]
 exact ⟨this.2.1,this.2.2⟩
theorem TB.klen(h:TB K t):(ksort (keys t.m)).length=K.length:=by rw [(ksort_perm _).length_eq,h.pm.length_eq]
theorem TB.Export(h:TB K t):DA t=some (enc 11 K.length++tlb t.m (ksort (keys t.m))):=by
 have hl:=h.klen
 have hle:=h.le
 have e1:=enc_len 11 K.length
 unfold DA C5
 rw [h.len,num_c _ (by omega),ob_,h.mkeys,ob_]
 have:=texp_l0 t (ksort (keys t.m)) (by omega) h.kv ((((ksort (keys t.m)).length:Int)-0).toNat+1) 0 (enc 11 K.length) (by omega) (by omega) (by omega)
 rw [show ((0:Nat):Int)=0 from rfl,List.drop_zero] at this
 rw [this];rfl
theorem TB.bl(h:TB K t):(enc 11 K.length++tlb t.m (ksort (keys t.m))).length≤5000000:=by
 have h1:=tlb_le t.m _ h.kv
 have h2:=h.klen
 have h3:=h.le
 have h4:=enc_len 11 K.length
 rw [List.length_append];omega
end
def Al{α:Type}(P:α→Prop)(o:Option α):Prop:=∀a,o=some a→P a
section
variable {α β:Type} {P:α→Prop}
theorem al_none:Al P none:=fun a h=>by cases h
theorem al_some{a:α}(h:P a):Al P (some a):=fun b hb=>by cases hb;exact h
theorem al_bind{o:Option β}{f:β→Option α}(h:∀b,o=some b→Al P (f b)):Al P (o.bind f):=fun a ha=>by
 obtain ⟨b,h1,h2⟩:=Option.bind_eq_some_iff.1 ha
 exact h b h1 a h2
theorem al_ite{c:Prop}[Decidable c]{a b:Option α}(h1:c→Al P a)(h2:¬c→Al P b):Al P (if c then a else b):=by
 split
 ·exact h1 ‹_›
 ·exact h2 ‹_›
theorem al_om{o:Option β}{f:β→Option α}(h:∀b,o=some b→Al P (f b)):Al P (om o none f):=by
 cases o with
 | none=>exact al_none
 | some b=>exact h b rfl
theorem al_lt{b:β}{f:β→Option α}(h:Al P (f b)):Al P (lt b f):=h
end
theorem kRemove(p:Ah)(k:Str):Al (fun q:Bool×Ah=>q.2.kind=p.kind) (Bd p k):=by
 unfold Bd
 exact al_ite (fun _=>al_om fun _ _=>al_bind fun _ _=>al_some rfl) fun _=>al_ite (fun _=>al_om fun _ _=>al_bind fun _ _=>al_some rfl) fun _=>al_some rfl
theorem kTouch(p:Ah)(k:Str):Al (fun q:Bool×Ah=>q.2.kind=p.kind) (BZ p k):=by
 unfold BZ
 exact al_ite (fun _=>al_om fun _ _=>al_bind fun _ _=>al_some rfl) fun _=>al_ite (fun _=>al_om fun _ _=>al_bind fun _ _=>al_some rfl) fun _=>al_some rfl
theorem kInsert(p:Ah)(k:Str):Al (fun q:List Str×Ah=>q.2.kind=p.kind) (Ba p k):=by
 unfold Ba
 exact al_ite (fun _=>al_om fun _ _=>al_bind fun _ _=>al_some rfl) fun _=>al_ite (fun _=>al_om fun _ _=>al_bind fun _ _=>al_some rfl) fun _=>al_some rfl
theorem kEvict(p:Ah):Al (fun q:Str×Bool×Ah=>q.2.2.kind=p.kind) (BL p):=by
 unfold BL
 exact al_ite (fun _=>al_om fun _ _=>al_bind fun _ _=>al_some rfl) fun _=>al_ite (fun _=>al_om fun _ _=>al_bind fun _ _=>al_some rfl) fun _=>al_some rfl
theorem kMiss(p:Ah)(k:Str):Al (fun q:Ah=>q.kind=p.kind) (Cc p k):=by
 unfold Cc
 exact al_ite (fun _=>al_om fun _ _=>al_ite (fun _=>al_bind fun _ _=>al_ite (fun _=>al_bind fun _ _=>al_some rfl) fun _=>al_some rfl) fun _=>al_some rfl) fun _=>al_some rfl
theorem drop_m{t:Am}{k:Str}{z:Str×Ai}(h:z∈(A9 t k).2.m):z∈t.m:=by
 unfold A9 at h
 rw [lt_eq] at h
 split at h
 ·exact mdel_sub h
 ·exact h
theorem mput_mem{K V:Type}[BEq K]{m:List (K×V)}{k:K}{v:V}{z:K×V}(h:z∈mput m k v):z∈m∨z=(k,v):=by
 induction m with
 | nil=>exact .inr (by simpa [mput] using h)
 | cons a m ih =>
  obtain ⟨x,u⟩:=a
  unfold mput at h
  split at h
  ·rcases List.mem_cons.1 h with h | h
   ·exact .inr h
   ·exact .inl (List.mem_cons_of_mem _ h)
  ·rcases List.mem_cons.1 h with h | h
   ·exact .inl (by rw [h];exact List.mem_cons_self ..)
   ·rcases ih h with h | h
    ·exact .inl (List.mem_cons_of_mem _ h)
    ·exact .inr h
theorem put_m{t:Am}{e:Ai}{z:Str×Ai}(h:z∈(C2 t e).m):z∈t.m∨z=(e.Key,e):=by
 unfold C2 at h
 rw [lt_eq] at h
 rcases mput_mem h with h | h
 ·exact .inl (drop_m h)
 ·exact .inr h
def ROk(r:Ap):Prop:=0≤r.E∧r.E≤65535∧r.Value.length≤4096
theorem rok{e:Int}{v:UInt64}(h:0≤e∧e≤65535:=by decide):ROk ⟨e,[],v⟩:=⟨h.1,h.2,by simp⟩
structure J (κ:Int) (s:Ak):Prop where
 kd:∀p,s.p=some p→p.kind=κ
 en:∀t,s.t=some t→∀z∈t.m,z.1≠[]∧z.2.Version.toNat≤s.version.toNat∧z.2.Value.length≤4096
section
variable {κ:Int}
theorem k_ap0(L:List Str):∀(f:Nat) (i b:Int) (p:Option Ah) (m:TM),Al (fun q:Int×Option Ah×TM=>((∀x,p=some x→x.kind=κ)→∀x,q.2.1=some x→x.kind=κ)∧∀z∈q.2.2,z∈m) (Bf L f i b p m)
 | 0,_,_,_,_=>al_none
 | f+1,i,b,p,m=>by
  unfold Bf
  refine al_ite (fun _=>al_bind fun k _=>al_lt (al_om fun x hx=>al_bind fun r hr=>fun q hq =>?_)) fun _=>al_some ⟨fun h=>h,fun z h=>h⟩
  obtain ⟨h1,h2⟩:=k_ap0 L f _ _ _ _ q hq
  refine ⟨fun h=>h1 fun y hy =>?_,fun z hz=>drop_m (h2 z hz)⟩
  cases hy
  rw [kRemove x k r hr];exact h x hx
theorem k_put1(r:List Str×Ah):∀(f:Nat) (i b:Int) (m:TM),Al (fun q:Int×TM=>∀z∈q.2,z∈m) (Br r f i b m)
 | 0,_,_,_=>al_none
 | f+1,i,b,m=>by
  unfold Br
  refine al_ite (fun _=>al_bind fun k _=>al_lt fun q hq z hz =>?_) fun _=>al_some fun z h=>h
  exact drop_m (k_put1 r f _ _ _ q hq z hz)
theorem k_put0(s:Ak):∀(f:Nat) (p:Ah) (b:Int) (m:TM),Al (fun q:Ah×Int×TM=>q.1.kind=p.kind∧∀z∈q.2.2,z∈m) (Ce s f p b m)
 | 0,_,_,_=>al_none
 | f+1,p,b,m=>by
  unfold Ce
  refine al_ite (fun _=>al_bind fun r hr=>al_ite (fun _=>al_some ⟨kEvict p r hr,fun z h=>h⟩) fun _=>al_lt fun q hq =>?_) fun _=>al_some ⟨rfl,fun z h=>h⟩
  obtain ⟨h1,h2⟩:=k_put0 s f _ _ _ q hq
  exact ⟨h1.trans (kEvict p r hr),fun z hz=>drop_m (h2 z hz)⟩
theorem j_put{s:Ak}(h:J κ s)(o:AI)(ho:o.Key≠[])(hv:o.Value.length≤4096)(hver:s.version.toNat<1000000000):
  Al (fun q:Ap×Ak=>ROk q.1∧J κ q.2∧q.2.sessions=s.sessions) (Be s o):=by
 unfold Be
 refine al_ite (fun _=>al_some ⟨rok,h,rfl⟩) fun _=>al_bind fun e _=>al_om fun t ht=>al_lt (al_om fun p hp=>al_bind fun r3 h3=>al_bind fun p4 h4=>al_bind fun p5 h5=>al_some ⟨rok,⟨?_,?_⟩,rfl⟩)
 ·intro q hq
  cases hq
  rw [(k_put0 s _ _ _ _ p5 h5).1,kInsert p o.Key r3 h3]
  exact h.kd p hp
 ·intro t' ht' z hz
  cases ht'
  have hz:=(k_put0 s _ _ _ _ p5 h5).2 z hz
  have hz:=k_put1 r3 _ _ _ _ p4 h4 z hz
  have hvv:(s.version+1).toNat=s.version.toNat+1:=u1n hver
  show z.1≠[]∧z.2.Version.toNat≤(s.version+1).toNat∧z.2.Value.length≤4096
  rcases put_m hz with hz | rfl
  ·obtain ⟨a,b,c⟩:=h.en t ht z hz
   exact ⟨a,by omega,c⟩
  ·exact ⟨ho,Nat.le_refl _,hv⟩
theorem get_ok{t:Am}(h:∀z∈t.m,z.2.Value.length≤4096)(k:Str):(AT t k).1.Value.length≤4096:=by
 unfold AT
 cases hg:mget t.m k with
 | none=>simp
 | some e=>exact h _ (mget_mem hg)
theorem j_do{s:Ak}(h:J κ s)(o:AI)(ho:o.Key≠[])(hv:o.Value.length≤4096)(hver:s.version.toNat<1000000000):
  Al (fun q:Ap×Ak=>ROk q.1∧J κ q.2∧q.2.sessions=s.sessions) (AW s o):=by
 unfold AW
 refine al_om fun t ht=>al_lt (al_ite (fun _=>al_ite (fun _=>al_om fun p hp=>al_bind fun q hq=>al_some ⟨rok,⟨?_,h.en⟩,rfl⟩) fun _=>al_om fun p hp=>al_bind fun q hq=>al_some ⟨⟨Int.le_refl 0,(by decide:(0:Int)≤65535),get_ok (fun z hz=>(h.en t ht z hz).2.2) _⟩,⟨?_,h.en⟩,rfl⟩)
  fun _=>al_ite (fun _=>al_ite (fun _=>al_some ⟨rok,h,rfl⟩) fun _=>al_lt (al_om fun p hp=>al_bind fun q hq=>al_some ⟨rok,⟨?_,?_⟩,rfl⟩))
  fun _=>al_ite (fun _=>al_ite (fun _=>al_some ⟨rok,h,rfl⟩) fun _=>al_ite (fun _=>al_some ⟨rok,h,rfl⟩) fun _=>al_bind fun q hq=>al_some ?_) fun _=>al_bind fun q hq=>al_some ?_)
 ·intro x hx;cases hx;rw [kMiss p _ q hq];exact h.kd p hp
 ·intro x hx;cases hx;rw [kTouch p _ q hq];exact h.kd p hp
 ·intro x hx;cases hx;rw [kRemove p _ q hq];exact h.kd p hp
 ·intro x hx z hz;cases hx;exact h.en t ht z (drop_m hz)
 ·have h':J κ ⟨s.c,some t,s.p,s.sessions,s.seq,s.now,s.version,s.tally⟩:=⟨h.kd,fun x hx=>by cases hx;exact h.en t ht⟩
  exact j_put h' o ho hv hver q hq
 ·have h':J κ ⟨s.c,some t,s.p,s.sessions,s.seq,s.now,s.version,s.tally⟩:=⟨h.kd,fun x hx=>by cases hx;exact h.en t ht⟩
  exact j_put h' o ho hv hver q hq
theorem chk_key{o:AI}(h:B2 o=true)(k5:o.Kind≠5):o.Key≠[]:=by
 intro hk
 unfold B2 at h
 split at h
 ·cases h
 ·rw [lt_eq] at h
  rcases chk_kind (o:=o) (by unfold B2;rw [if_neg ‹_›];exact h) with e | e | e | e | e
  ·simp [hk,e] at h
  ·simp [hk,e] at h
  ·simp [hk,e] at h
  ·simp [hk,e] at h
  ·exact k5 e
theorem j_apply{s:Ak}(h:J κ s)(x:AK)(hver:s.version.toNat<1000000000):
  Al (fun q:Ap×Int×Ak=>J κ q.2.2∧(q.2.2.sessions=s.sessions∨∃l:Ar,ROk l.reply∧q.2.2.sessions=mput s.sessions x.Session l)) (AQ s x):=by
 unfold AQ
 refine al_ite (fun _=>al_some ⟨h,.inl rfl⟩) fun hc=>al_ite (fun _=>al_some ⟨h,.inl rfl⟩) fun _=>al_om fun t ht=>al_bind fun L hL=>al_bind fun q hq =>?_
 have hk:=k_ap0 (κ:=κ) L _ _ _ _ _ q hq
 have hJ:J κ ⟨s.c,some ⟨q.2.2,q.1⟩,q.2.1,s.sessions,s.seq+1,(if s.now<x.Now then x.Now else s.now),s.version,s.tally⟩:=⟨hk.1 h.kd,fun y hy=>by cases hy;exact fun z hz=>h.en t ht z (hk.2 z hz)⟩
 refine al_ite (fun _=>al_some ⟨hJ,.inl rfl⟩) fun h5=>al_ite (fun _=>al_some ⟨hJ,.inl rfl⟩) fun _=>al_ite (fun _=>al_some ⟨hJ,.inl rfl⟩) fun _=>al_ite (fun _=>al_some ⟨hJ,.inl rfl⟩) fun _=>al_bind fun r hr=>al_some ?_
 have hc':B2 x.Op=true:=by simpa using hc
 obtain ⟨h1,h2,h3⟩:=j_do hJ x.Op (chk_key hc' (by simpa using h5)) (chk_len hc').2 hver r hr
 exact ⟨⟨h2.kd,h2.en⟩,.inr ⟨⟨x.Num,r.1⟩,h1,by rw [h3]⟩⟩
theorem k_new(c:Au):Al (fun q:Option Ak×Int=>∀s,q.1=some s→∀p,s.p=some p→p.kind=c.Policy) (DR c):=by
 unfold DR
 refine al_ite (fun _=>al_some fun s hs=>by cases hs) fun _=>al_bind fun r hr=>al_lt (al_some fun s hs p hp =>?_)
 cases hs
 have:Al (fun q:Option Ah×Int=>∀p,q.1=some p→p.kind=c.Policy) (Dm c.Policy c.Entries c.Seed):=by
  unfold Dm
  exact al_bind fun q _=>al_ite (fun _=>al_some fun p hp=>by cases hp) fun _=>al_some fun p hp=>by cases hp;rfl
 exact this r hr p hp
structure SX (κ:Int) (N:Nat) (s:Ak):Prop where
 j:J κ s
 rs:∀z∈s.sessions,ROk z.2.reply
 us:Uk s.sessions
 ta:0≤s.tally.Hits∧s.tally.Hits≤s.tally.Asked∧s.tally.Asked≤(N:Int)
theorem SX.apply{n B N:Nat}{c:Au}{s s':Ak}{t:Am}{p:Ah}{K:List Str}(h:SX κ N s)(hS:SI n B N c s t p K)(hN:N<1000000)(x:AK){r:Ap}{e:Int}(ha:AQ s x=some (r,e,s')):SX κ (N+1) s':=by
 obtain ⟨h1,h2⟩:=j_apply h.j x (by have:=hS.vn;omega) _ ha
 obtain ⟨a,b,c'⟩:=h.ta
 obtain ⟨r2,e2,s2,t2,p2,K2,ea,_,hd⟩:=hS.apply hN x
 rw [ha] at ea
 cases ea
 refine ⟨h1,?_,?_,?_⟩
 ·rcases h2 with h2 | ⟨l,hl,h2⟩
  ·intro z hz;rw [h2] at hz;exact h.rs z hz
  ·intro z hz
   rw [h2] at hz
   rcases mput_mem hz with hz | rfl
   ·exact h.rs z hz
   ·exact hl
 ·rcases h2 with h2 | ⟨l,hl,h2⟩
  ·rw [h2];exact h.us
  ·rw [h2];exact h.us.put _ _
 ·rcases hd with ⟨_,rfl,_⟩ | ⟨_,_,_,hx⟩
  ·omega
  ·rcases hx.cs with ⟨_,q,_⟩ | ⟨_,_,_,q1,q2⟩
   ·rw [q];omega
   ·by_cases k1:x.Op.Kind=1
    ·rcases q1 k1 with ⟨_,q⟩ | ⟨_,q⟩
     ·rw [q]
      have e1:i64 (s.tally.Asked+1)=s.tally.Asked+1:=i64s _ (by omega) (by omega)
      have e2:i64 (s.tally.Hits+1)=s.tally.Hits+1:=i64s _ (by omega) (by omega)
      dsimp only
      rw [e1,e2];clear e1 e2;omega
     ·rw [q]
      have e1:i64 (s.tally.Asked+1)=s.tally.Asked+1:=i64s _ (by omega) (by omega)
      dsimp only
      rw [e1];clear e1;omega
    ·rw [q2 k1];omega
end
structure CF (κ:Int) (n:Nat) (c:Au):Prop where
 k:κ=1∨κ=2
 p:c.Policy=κ
 e:c.Entries=(n:Int)
 b:1≤c.Bytes
def Px(κ:Int)(n B N:Nat)(c:Au)(s:Ak)(now:UInt64):Prop:=Pl n B N c s now∧SX κ N s∧CF κ n c
theorem px_step{κ:Int}{n B N:Nat}{c:Au}{s:Ak}{now:UInt64}(h:Px κ n B N c s now)(hN:N<1000000){y:AK}(h1:y.Session.toNat<8)(h2:y.Num.toNat≤31)(h3:now.toNat≤y.Now.toNat):
  ∃r e s',AQ s y=some (r,e,s')∧Px κ n B (N+1) c s' y.Now:=by
 obtain ⟨hP,hX,hc⟩:=h
 obtain ⟨r,e,s',e1,hP'⟩:=pl_step hP hN h1 h2 h3
 obtain ⟨⟨t,p,K,hS⟩,_,_⟩:=hP
 exact ⟨r,e,s',e1,hP',hX.apply hS hN y e1,hc⟩
theorem SX.le{κ:Int}{N M:Nat}{s:Ak}(h:SX κ N s)(hm:N≤M):SX κ M s:=⟨h.j,h.rs,h.us,by have:=h.ta;omega⟩
theorem sk_lt{l:List Str}(hn:l.Nodup):(ksort l).Pairwise (fun a b=>a<b):=by
 have h1:=ksort_sorted l
 have h2:(ksort l).Pairwise (fun a b=>a≠b):=(ksort_perm l).nodup_iff.2 hn
 refine (h1.and h2).imp fun {a b} h =>?_
 have h3:a≤b:=by simpa [leB] using h.1
 by_cases c:a<b
 ·exact c
 ·exact absurd (List.le_antisymm h3 (List.not_lt.1 c)) h.2
section
variable {K:List Str} {t:Am}
end
def rbt(r:Ap):Str:=(enc 11 r.E.toNat++tb r.Value)++enc 11 r.Version.toNat
theorem rbt_le{r:Ap}(h:ROk r):(rbt r).length≤4129:=by
 have h1:=tb_le h.2.2
 have h3:=enc_len 11 r.E.toNat
 have h4:=enc_len 11 r.Version.toNat
 unfold rbt;simp only [List.length_append];omega
theorem putR{r:Ap}(h:ROk r):D4 r=some (rbt r):=by
 obtain ⟨h1,h2,h3⟩:=h
 have hM:20000000≤maxS:=by decide
 have e:r.E=((r.E.toNat:Nat):Int):=by omega
 have l1:=tb_le h3
 have l2:=enc_len 11 r.E.toNat
 have l3:=enc_len 11 r.Version.toNat
 unfold D4
 rw [e,num_c _ (by omega),ob_,txt _ (by omega),ob_,if_pos (by omega),num_w,ob_,if_pos (by rw [List.length_append];omega)]
 rfl
def sb1(k:UInt64)(l:Ar):Str:=(enc 11 k.toNat++enc 11 l.num.toNat)++rbt l.reply
def slb(m:List (UInt64×Ar))(L:List UInt64):Str:=L.flatMap fun k=>sb1 k ((mget m k).getD (⟨0,(⟨0,[],0⟩:Ap)⟩:Ar))
theorem sb1_le{k:UInt64}{l:Ar}(h:ROk l.reply):(sb1 k l).length≤4151:=by
 have h1:=rbt_le h
 have h3:=enc_len 11 k.toNat
 have h4:=enc_len 11 l.num.toNat
 unfold sb1;simp only [List.length_append];omega
theorem sexp_l0(s:Ak)(L:List UInt64)(hL:L.length≤64)(hk:∀k∈L,ROk ((mget s.sessions k).getD (⟨0,(⟨0,[],0⟩:Ap)⟩:Ar)).reply):
  ∀(f i:Nat) (c:Str),L.length-i<f→i≤L.length→c.length≤6000000+4151*i→∃d,Cl s L f c (i:Int)=some (c++d)∧d=slb s.sessions (L.drop i)∧(c++d).length≤6000000+4151*L.length
 | 0,i,c,h,_,_=>by omega
 | f+1,i,c,h,hi,hc=>by
  have hM:20000000≤maxS:=by decide
  unfold Cl
  rcases Nat.lt_or_ge i L.length with h1 | h1
  ·have hm:=hk _ (List.getElem_mem h1)
   have e1:=sb1_le (k:=L[i]) hm
   have e2:=rbt_le hm
   have e3:=enc_len 11 L[i].toNat
   have e4:=enc_len 11 (((mget s.sessions L[i]).getD (⟨0,(⟨0,[],0⟩:Ap)⟩:Ar)).num).toNat
   have e:slb s.sessions (L.drop i)=sb1 L[i] ((mget s.sessions L[i]).getD (⟨0,(⟨0,[],0⟩:Ap)⟩:Ar))++slb s.sessions (L.drop (i+1)):=by rw [List.drop_eq_getElem_cons h1];rfl
   rw [if_pos (by simp;exact h1),giC,List.getElem?_eq_getElem h1,ob_,num_w,ob_,num_w,ob_,if_pos (by omega),putR hm,ob_,if_pos (by rw [List.length_append];omega)]
   change ∃d,(if c.length+(sb1 L[i] ((mget s.sessions L[i]).getD (⟨0,(⟨0,[],0⟩:Ap)⟩:Ar))).length≤maxS then Cl s L f (c++sb1 L[i] ((mget s.sessions L[i]).getD (⟨0,(⟨0,[],0⟩:Ap)⟩:Ar))) (i64 ((i:Int)+1)) else none)=_∧_
   rw [if_pos (by omega),i64n i (by omega)]
   obtain ⟨d,q1,q2,q3⟩:=sexp_l0 s L hL hk f (i+1) (c++sb1 L[i] ((mget s.sessions L[i]).getD (⟨0,(⟨0,[],0⟩:Ap)⟩:Ar))) (by omega) (by omega) (by rw [List.length_append];omega)
   exact ⟨_,by rw [q1,List.append_assoc],by rw [e,q2],by rw [←List.append_assoc];exact q3⟩
  ·have:i=L.length:=by omega
   rw [if_neg (by simp;omega)]
   exact ⟨[],by simp,by rw [List.drop_eq_nil_of_le h1];rfl,by rw [List.append_nil];omega⟩
theorem us_lt{l:List UInt64}(hn:l.Nodup):(usort l).Pairwise (fun a b=>a<b):=by
 have h1:(usort l).Pairwise (fun a b=>a≤b):=List.pairwise_reverse.2 (fold_sorted l [] List.Pairwise.nil)
 have h2:(usort l).Pairwise (fun a b=>a≠b):=(usort_perm l).nodup_iff.2 hn
 refine (h1.and h2).imp fun {a b} h =>?_
 rw [UInt64.lt_iff_toNat_lt]
 have h3:=h.1
 rw [UInt64.le_iff_toNat_le] at h3
 have:a.toNat≠b.toNat:=fun z=>h.2 (UInt64.toNat_inj.1 z)
 omega
section
variable {α β γ δ:Type} {P:α→β→Prop} {Q:γ→δ→Prop}
end
section
variable {n:Nat} {p q:Ah} {k:Str}
end
structure Sto {κ:Type} (lt:κ→κ→Prop):Prop where
 tr:∀a b c,lt a b→lt b c→lt a c
 ir:∀a,¬lt a a
 to:∀a b,lt a b∨a=b∨lt b a
theorem stoS:Sto (fun a b:Str=>a<b):=⟨fun _ _ _=>List.lt_trans,fun a=>List.lt_irrefl a,fun a b=>by
 by_cases h:a<b
 ·exact .inl h
 ·by_cases h2:b<a
  ·exact .inr (.inr h2)
  ·exact .inr (.inl (List.le_antisymm (List.not_lt.1 h2) (List.not_lt.1 h)))⟩
theorem stoW:Sto (fun a b:UInt64=>a<b):=⟨fun a b c h1 h2=>by rw [UInt64.lt_iff_toNat_lt] at *;omega,fun a h=>by rw [UInt64.lt_iff_toNat_lt] at h;omega,fun a b=>by
 rw [UInt64.lt_iff_toNat_lt,UInt64.lt_iff_toNat_lt,←UInt64.toNat_inj];omega⟩
section
variable {α κ:Type} {lt:κ→κ→Prop} {key:α→κ}
def So(lt:κ→κ→Prop)(key:α→κ)(l:List α):Prop:=l.Pairwise fun a b=>lt (key a) (key b)
theorem so_eq(h:Sto lt):∀{l l':List α},So lt key l→So lt key l'→(∀x,x∈l↔x∈l')→l=l'
 | [],[],_,_,_=>rfl
 | [],y::l',_,_,hm=>absurd ((hm y).2 (List.mem_cons_self ..)) (by simp)
 | x::l,[],_,_,hm=>absurd ((hm x).1 (List.mem_cons_self ..)) (by simp)
 | x::l,y::l',h1,h2,hm=>by
  have a1:=List.pairwise_cons.1 h1
  have a2:=List.pairwise_cons.1 h2
  have hxy:x=y:=by
   rcases List.mem_cons.1 ((hm x).1 (List.mem_cons_self ..)) with e | e
   ·exact e
   ·rcases List.mem_cons.1 ((hm y).2 (List.mem_cons_self ..)) with f | f
    ·exact f.symm
    ·exact absurd (h.tr _ _ _ (a1.1 y f) (a2.1 x e)) (h.ir _)
  subst hxy
  refine congrArg (x :: ·) (so_eq h a1.2 a2.2 fun z=>⟨fun hz =>?_,fun hz =>?_⟩)
  ·rcases List.mem_cons.1 ((hm z).1 (List.mem_cons_of_mem _ hz)) with e | e
   ·subst e;exact absurd (a1.1 z hz) (h.ir _)
   ·exact e
  ·rcases List.mem_cons.1 ((hm z).2 (List.mem_cons_of_mem _ hz)) with e | e
   ·subst e;exact absurd (a2.1 z hz) (h.ir _)
   ·exact e
def pG(ge ne:α→Bool)(e:α):List α→Bool→List α
 | [],i=>if i then [] else [e]
 | x::l,i=>(if !i&&ge x then [e] else [])++((if ne x then [x] else [])++pG ge ne e l (i||ge x))
variable {ge ne:α→Bool} {e:α}
theorem pG_t:∀l:List α,pG ge ne e l true=l.filter ne
 | []=>rfl
 | x::l=>by
  unfold pG
  rw [Bool.true_or,pG_t l]
  cases h:ne x
  ·rw [List.filter_cons_of_neg (by simp [h])];rfl
  ·rw [List.filter_cons_of_pos h];rfl
theorem pG_f(h:Sto lt)(hge:∀x,ge x=true↔¬lt (key x) (key e))(hne:∀x,ne x=true↔key x≠key e):∀{l:List α},So lt key l→So lt key (pG ge ne e l false)∧∀z,z∈pG ge ne e l false↔z=e∨(z∈l∧key z≠key e)
 | [],_=>⟨List.pairwise_singleton _ _,fun z=>by simp [pG]⟩
 | x::l,hs=>by
  have a:=List.pairwise_cons.1 hs
  unfold pG
  by_cases hg:ge x=true
  ·have e1:(if ne x then [x] else [])++pG ge ne e l true=(x::l).filter ne:=by
    rw [pG_t]
    cases h:ne x
    ·rw [List.filter_cons_of_neg (by simp [h])];rfl
    ·rw [List.filter_cons_of_pos h];rfl
   rw [hg,Bool.false_or,e1]
   show So lt key (e::(x::l).filter ne)∧∀z,z∈e::(x::l).filter ne↔_
   refine ⟨List.pairwise_cons.2 ⟨fun y hy =>?_,List.Pairwise.filter _ hs⟩,fun z=>by rw [List.mem_cons,List.mem_filter,hne]⟩
   obtain ⟨hy1,hy2⟩:=List.mem_filter.1 hy
   have hx:=(hge x).1 hg
   have hy3:=(hne y).1 hy2
   have hy4:¬lt (key y) (key e):=by
    rcases List.mem_cons.1 hy1 with rfl | hy1
    ·exact hx
    ·exact fun w=>hx (h.tr _ _ _ (a.1 y hy1) w)
   rcases h.to (key y) (key e) with w | w | w
   ·exact absurd w hy4
   ·exact absurd w hy3
   ·exact w
  ·have hl:lt (key x) (key e):=Classical.byContradiction fun w=>hg ((hge x).2 w)
   have hn:ne x=true:=(hne x).2 fun w=>h.ir _ (w▸hl)
   obtain ⟨i1,i2⟩:=pG_f h hge hne a.2
   rw [Bool.eq_false_iff.2 hg,hn]
   show So lt key (x::pG ge ne e l false)∧∀z,z∈x::pG ge ne e l false↔_
   refine ⟨List.pairwise_cons.2 ⟨fun y hy =>?_,i1⟩,fun z =>?_⟩
   ·rcases (i2 y).1 hy with rfl | ⟨w,_⟩
    ·exact hl
    ·exact a.1 y w
   ·rw [List.mem_cons,List.mem_cons,i2]
    constructor
    ·rintro (rfl | w | w)
     ·exact .inr ⟨.inl rfl,(hne z).1 hn⟩
     ·exact .inl w
     ·exact .inr ⟨.inr w.1,w.2⟩
    ·rintro (w | ⟨w | w,w2⟩)
     ·exact .inr (.inl w)
     ·exact .inl w
     ·exact .inr (.inr ⟨w,w2⟩)
end
abbrev SoE(l:List Ai):Prop:=So (fun a b:Str=>a<b) (fun e:Ai=>e.Key) l
structure LT (l:List Ai) (t:Am):Prop where
 so:SoE l
 me:∀e,e∈l↔mget t.m e.Key=some e
section
variable {K:List Str} {t:Am} {l:List Ai} {k:Str}
theorem TB.key(h:TB K t){k:Str}{e:Ai}(hg:mget t.m k=some e):e.Key=k:=(h.en _ (mget_mem hg)).1
theorem lt_listed(h:TB K t):LT (listed t.m) t:=by
 refine ⟨?_,fun e =>?_⟩
 ·unfold listed SoE So
  rw [List.pairwise_map]
  refine List.Pairwise.imp_of_mem (fun {a b} ha hb hab =>?_) (sk_lt h.uk)
  obtain ⟨x,hx⟩:=keys_mem.1 ((ksort_perm _).mem_iff.1 ha)
  obtain ⟨y,hy⟩:=keys_mem.1 ((ksort_perm _).mem_iff.1 hb)
  rw [hx,hy]
  show x.Key<y.Key
  rw [h.key hx,h.key hy];exact hab
 ·unfold listed
  rw [List.mem_map]
  constructor
  ·rintro ⟨k,hk,rfl⟩
   obtain ⟨x,hx⟩:=keys_mem.1 ((ksort_perm _).mem_iff.1 hk)
   rw [hx]
   show mget t.m x.Key=some x
   rw [h.key hx];exact hx
  ·intro hg
   exact ⟨e.Key,(ksort_perm _).mem_iff.2 (keys_mem.2 ⟨e,hg⟩),by rw [hg];rfl⟩
theorem LT.eq(h:LT l t)(hT:TB K t):l=listed t.m:=so_eq stoS h.so (lt_listed hT).so fun e=>(h.me e).trans ((lt_listed hT).me e).symm
theorem LT.len(h:LT l t)(hT:TB K t):l.length≤1001:=by rw [h.eq hT,listed_len,hT.len];exact hT.le
theorem tdrop_l0(l:List Ai)(k:Str)(hl:l.length≤2000):∀(f i:Nat) (o:List Ai),l.length-i<f→i≤l.length→o.length≤i →
  BM l k f o (i:Int)=some (o++(l.drop i).filter fun x=>x.Key != k)
 | 0,i,o,h,_,_=>by omega
 | f+1,i,o,h,hi,ho=>by
  unfold BM
  by_cases c:i<l.length
  ·rw [if_pos (by simpa using c),gN c,ob_,drop_at' c]
   by_cases h2:(l[i].Key != k)=true
   ·rw [if_pos h2,apd_i _ _ _ (by decide) (by simp;omega),ob_,ob_,i_a1 (by omega),tdrop_l0 l k hl f (i+1) _ (by omega) (by omega) (by simp;omega),List.filter_cons_of_pos (p:=fun x:Ai=>x.Key != k) h2,List.append_assoc];rfl
   ·rw [if_neg h2,ob_,i_a1 (by omega),tdrop_l0 l k hl f (i+1) _ (by omega) (by omega) (by omega),List.filter_cons_of_neg (p:=fun x:Ai=>x.Key != k) h2]
  ·rw [if_neg (by simpa using c),List.drop_eq_nil_of_le (by omega)];simp
theorem tdrop(l:List Ai)(k:Str)(hl:l.length≤2000):A3 l k=some (l.filter fun x=>x.Key != k):=by
 unfold A3
 rw [show BM l k (((l.length:Int)-0).toNat+1) [] 0=_ from tdrop_l0 l k hl _ 0 [] (by omega) (by omega) (by simp)]
 rfl
theorem LT.drop(h:LT l t)(hT:TB K t)(k:Str):A3 l k=some (l.filter fun x=>x.Key != k)∧LT (l.filter fun x=>x.Key != k) (A9 t k).2:=by
 refine ⟨tdrop l k (by have:=h.len hT;omega),List.Pairwise.filter _ h.so,fun e =>?_⟩
 obtain ⟨t1,e1,e2,_⟩:=hT.drop k
 rw [e1,e2,List.mem_filter,h.me,mget_del _ _ _ hT.uk]
 by_cases hk:k=e.Key
 ·rw [if_pos (by simpa using hk.symm)];simp [hk]
 ·rw [if_neg (by simpa using fun z=>hk (Eq.symm z))]
  simp only [bne_iff_ne,ne_eq,and_iff_left_iff_imp]
  exact fun _=>fun z=>hk z.symm
theorem tput_l0(l:List Ai)(e:Ai)(hl:l.length≤2000):∀(f i:Nat) (o:List Ai) (b:Bool),l.length-i<f→i≤l.length→o.length≤2*i →
  ∃o' b',Bz l e f o b (i:Int)=some (o',b')∧(o'++if b' then [] else [e])=o++pG (fun x => !slt x.Key e.Key) (fun x=>x.Key != e.Key) e (l.drop i) b∧o'.length≤2*l.length
 | 0,i,o,b,h,_,_=>by omega
 | f+1,i,o,b,h,hi,ho=>by
  unfold Bz
  by_cases c:i<l.length
  ·rw [if_pos (by simpa using c),gN c,drop_at' c]
   have e1:(if b=true then some false else (some l[i]).bind fun x52=>some (!slt x52.Key e.Key))=some (!b && !slt l[i].Key e.Key):=by cases b <;> rfl
   rw [e1,ob_]
   generalize hg:(!slt l[i].Key e.Key)=g
   have step:∀(o2:List Ai) (b2:Bool),o2.length≤2*i+1→o2++(if l[i].Key != e.Key then [l[i]] else [])++pG (fun x => !slt x.Key e.Key) (fun x=>x.Key != e.Key) e (l.drop (i+1)) b2=o++pG (fun x => !slt x.Key e.Key) (fun x=>x.Key != e.Key) e (l[i]::l.drop (i+1)) b →
     ∃o' b',((some l[i]).bind fun x31=>Option.bind (if (x31.Key != e.Key) then (apd 48 o2 [x31]).bind fun l42=>some l42 else some o2) fun p33=>Bz l e f p33 b2 (i64 ((i:Int)+1)))=some (o',b')∧(o'++if b' then [] else [e])=o++pG (fun x => !slt x.Key e.Key) (fun x=>x.Key != e.Key) e (l[i]::l.drop (i+1)) b∧o'.length≤2*l.length:=by
    intro o2 b2 ho2 heq
    rw [ob_,i_a1 (by omega),←heq]
    by_cases h2:(l[i].Key != e.Key)=true
    ·rw [if_pos h2,apd_i _ _ _ (by decide) (by simp;omega),ob_,ob_,if_pos h2]
     exact tput_l0 l e hl f (i+1) (o2++[l[i]]) b2 (by omega) (by omega) (by simp;omega)
    ·rw [if_neg h2,ob_,if_neg h2,List.append_nil]
     exact tput_l0 l e hl f (i+1) o2 b2 (by omega) (by omega) (by omega)
   by_cases hw:(!b&&g)=true
   ·rw [if_pos hw,apd_i _ _ _ (by decide) (by simp;omega),ob_,ob_]
    refine step _ _ (by simp;omega) ?_
    have hgt:g=true:=by cases g <;> simp_all
    have hbf:b=false:=by cases b <;> simp_all
    subst hgt hbf
    simp [pG,hg]
   ·rw [if_neg hw,ob_]
    refine step o b (by omega) ?_
    have:(b||g)=b:=by cases b <;> cases g <;> simp_all
    simp [pG,hg,this,hw]
  ·rw [if_neg (by simpa using c),List.drop_eq_nil_of_le (by omega)]
   exact ⟨o,b,rfl,rfl,by omega⟩
theorem tput(l:List Ai)(e:Ai)(hl:l.length≤2000):BX l e=some (pG (fun x => !slt x.Key e.Key) (fun x=>x.Key != e.Key) e l false):=by
 obtain ⟨o',b',e1,e2,e3⟩:=tput_l0 l e hl (((l.length:Int)-0).toNat+1) 0 [] false (by omega) (by omega) (by simp)
 unfold BX
 rw [show Bz l e (((l.length:Int)-0).toNat+1) [] false 0=_ from e1,ob_]
 rw [List.nil_append,List.drop_zero] at e2
 rw [←e2]
 cases b'
 ·show (if (!false)=true then (apd 48 o' [e]).bind fun l11=>some l11 else some o')=_
  rw [if_pos (show (!false)=true from rfl),apd_i _ _ _ (by decide) (by simp;omega)];rfl
 ·show (if (!true)=true then (apd 48 o' [e]).bind fun l11=>some l11 else some o')=_
  rw [if_neg (show ¬(!true)=true by decide)];simp
theorem LT.put(h:LT l t)(hT:TB K t)(e:Ai):∃l',BX l e=some l'∧LT l' (C2 t e):=by
 obtain ⟨a,b⟩:=pG_f (key:=fun e:Ai=>e.Key) (ge:=fun x => !slt x.Key e.Key) (ne:=fun x=>x.Key != e.Key) (e:=e) stoS (fun x=>by rw [slt_lt];simp) (fun x=>by simp) h.so
 refine ⟨_,tput l e (by have:=h.len hT;omega),a,fun z =>?_⟩
 obtain ⟨t1,e1,e2,_⟩:=hT.drop e.Key
 rw [b]
 unfold C2
 rw [lt_eq,e1]
 show _↔mget (mput t1.m e.Key e) z.Key=some z
 rw [mget_put,e2,mget_del _ _ _ hT.uk,h.me]
 by_cases hk:e.Key=z.Key
 ·rw [if_pos (by simpa using hk.symm)]
  constructor
  ·rintro (rfl | ⟨_,w⟩)
   ·rfl
   ·exact absurd hk.symm w
  ·intro w;exact .inl (Option.some.inj w).symm
 ·rw [if_neg (by simpa using fun z=>hk (Eq.symm z)),if_neg (by simpa using fun z=>hk (Eq.symm z))]
  constructor
  ·rintro (rfl | ⟨w,_⟩)
   ·exact absurd rfl hk
   ·exact w
  ·intro w;exact .inr ⟨w,fun z=>hk z.symm⟩
theorem tget_l0(l:List Ai)(k:Str)(hl:l.length≤2000):∀(f i:Nat),l.length-i<f→i≤l.length →
  BV l k f (i:Int)=some (match (l.drop i).find? (fun x=>x.Key==k) with | some x => .inr (x,true) | none => .inl ())
 | 0,i,h,_=>by omega
 | f+1,i,h,hi=>by
  unfold BV
  by_cases c:i<l.length
  ·rw [if_pos (by simpa using c),gN c,ob_,drop_at' c,List.find?_cons]
   by_cases h2:(l[i].Key==k)=true
   ·rw [if_pos h2,h2]
   ·rw [if_neg h2,i_a1 (by omega),tget_l0 l k hl f (i+1) (by omega) (by omega),Bool.eq_false_iff.2 h2]
  ·rw [if_neg (by simpa using c),List.drop_eq_nil_of_le (by omega)];rfl
theorem LT.get(h:LT l t)(hT:TB K t)(k:Str):CW l k=some (AT t k):=by
 unfold CW AT
 rw [show BV l k (((l.length:Int)-0).toNat+1) 0=_ from tget_l0 l k (by have:=h.len hT;omega) _ 0 (by omega) (by omega),List.drop_zero,ob_]
 cases hf:l.find? (fun x=>x.Key==k) with
 | some x =>
  have h1:=List.mem_of_find?_eq_some hf
  have h2:x.Key=k:=by simpa using List.find?_some hf
  rw [h.me,h2] at h1
  rw [h1];rfl
 | none =>
  have h1:=List.find?_eq_none.1 hf
  cases hg:mget t.m k with
  | none=>rfl
  | some e =>
   have h3:=hT.key hg
   have h4:e∈l:=(h.me e).2 (by rw [h3];exact hg)
   exact absurd (by simpa using h3) (h1 e h4)
theorem tbytes_l0(l:List Ai)(hl:l.length≤2000)(he:∀e∈l,esz e≤4160):∀(f i s:Nat),l.length-i<f→i≤l.length→s≤4160*i →
  BG l f (s:Int) (i:Int)=some ((s+((l.drop i).map esz).sum:Nat):Int)
 | 0,i,s,h,_,_=>by omega
 | f+1,i,s,h,hi,hs=>by
  unfold BG
  by_cases c:i<l.length
  ·have hm:=he _ (List.getElem_mem c)
   have hz:i64 ((l[i].Key.length:Int)+(l[i].Value.length:Int))=((esz l[i]:Nat):Int):=by unfold esz at *;rw [i64s _ (by omega) (by omega)];omega
   have hz2:i64 ((s:Int)+((esz l[i]:Nat):Int))=((s+esz l[i]:Nat):Int):=by rw [i64s _ (by omega) (by omega)];omega
   rw [if_pos (by simpa using c),gN c,ob_,hz,hz2]
   clear hz hz2
   rw [i_a1 (by omega),tbytes_l0 l hl he f (i+1) _ (by omega) (by omega) (by omega),drop_at' c,List.map_cons,List.sum_cons,Nat.add_assoc]
  ·rw [if_neg (by simpa using c),List.drop_eq_nil_of_le (by omega)];simp
theorem LT.bytes(h:LT l t)(hT:TB K t):CB l=some t.bytes:=by
 have hl:=h.len hT
 have he:∀e∈l,esz e≤4160:=fun e hm=>hT.es _ (mget_mem ((h.me e).1 hm))
 unfold CB
 rw [show BG l (((l.length:Int)-0).toNat+1) 0 0=_ from tbytes_l0 l (by omega) he _ 0 0 (by omega) (by omega) (by omega),List.drop_zero,ob_,hT.sz,h.eq hT]
 have:=((listed_pm hT.uk).map esz).sum_nat
 rw [this,List.map_map,Nat.zero_add];rfl
end
abbrev SoL(l:List As):Prop:=So (fun a b:UInt64=>a<b) (fun e:As=>e.Session) l
structure LS (l:List As) (ss:List (UInt64×Ar)):Prop where
 so:SoL l
 me:∀x,x∈l↔mget ss x.Session=some ⟨x.Num,x.Reply⟩
section
variable {l:List As} {ss:List (UInt64×Ar)}
theorem LS.len(h:LS l ss)(hu:Uk ss):l.length=ss.length:=by
 have h1:(l.map fun x=>x.Session).Nodup:=by
  have:=h.so
  unfold SoL So at this
  rw [List.Nodup,List.pairwise_map]
  exact this.imp fun {a b} w z=>by dsimp only at w z;rw [z] at w;exact stoW.ir _ w
 have h2:(l.map fun x=>x.Session).Perm (ss.map (·.1)):=(List.perm_ext_iff_of_nodup h1 hu).2 fun k=>by
  rw [List.mem_map]
  constructor
  ·rintro ⟨x,hx,rfl⟩
   exact Classical.byContradiction fun z=>by have:=(h.me x).1 hx;rw [(mget_none ss _).2 z] at this;cases this
  ·intro hk
   cases hg:mget ss k with
   | none=>exact absurd hk ((mget_none ss k).1 hg)
   | some v=>exact ⟨⟨k,v.num,v.reply⟩,(h.me _).2 hg,rfl⟩
 simpa using h2.length_eq
theorem last_l0(m:Ac)(s:UInt64)(hl:m.Sessions.length≤2000):∀(f i:Nat),m.Sessions.length-i<f→i≤m.Sessions.length →
  (∃j,∃h:j<m.Sessions.length,m.Sessions[j].Session=s∧Bh m s f (i:Int)=some (.inr (j:Int)))∨((∀x∈m.Sessions.drop i,x.Session≠s)∧Bh m s f (i:Int)=some (.inl ()))
 | 0,i,h,_=>by omega
 | f+1,i,h,hi=>by
  unfold Bh
  by_cases c:i<m.Sessions.length
  ·rw [if_pos (by simpa using c),gN c,ob_]
   by_cases h2:m.Sessions[i].Session=s
   ·rw [if_pos (by simpa using h2)]
    exact .inl ⟨i,c,h2,rfl⟩
   ·rw [if_neg (by simpa using h2),i_a1 (by omega),drop_at' c]
    rcases last_l0 m s hl f (i+1) (by omega) (by omega) with w | ⟨w1,w2⟩
    ·exact .inl w
    ·refine .inr ⟨fun x hx =>?_,w2⟩
     rcases List.mem_cons.1 hx with rfl | hx
     ·exact h2
     ·exact w1 x hx
  ·rw [if_neg (by simpa using c),List.drop_eq_nil_of_le (by omega)]
   exact .inr ⟨fun x hx=>(by cases hx),rfl⟩
theorem LS.last{m:Ac}(h:LS m.Sessions ss)(hl:m.Sessions.length≤2000)(s:UInt64):
  (∃(v:Ar) (j:Nat),mget ss s=some v∧Ch m s=some (j:Int)∧gi m.Sessions (j:Int)=some ⟨s,v.num,v.reply⟩)∨(mget ss s=none∧Ch m s=some (-1)):=by
 unfold Ch
 rcases last_l0 m s hl (((m.Sessions.length:Int)-0).toNat+1) 0 (by omega) (by omega) with ⟨j,hj,e1,e2⟩ | ⟨e1,e2⟩
 ·have hm:=(h.me _).1 (List.getElem_mem hj)
  rw [e1] at hm
  refine .inl ⟨_,j,hm,?_,?_⟩
  ·rw [show Bh m s (((m.Sessions.length:Int)-0).toNat+1) 0=_ from e2];rfl
  ·rw [gN hj,←e1]
 ·refine .inr ⟨?_,?_⟩
  ·cases hg:mget ss s with
   | none=>rfl
   | some v =>
    have h4:(⟨s,v.num,v.reply⟩:As)∈m.Sessions:=(h.me _).2 hg
    exact absurd rfl (e1 _ (by rw [List.drop_zero];exact h4))
  ·rw [show Bh m s (((m.Sessions.length:Int)-0).toNat+1) 0=_ from e2];rfl
theorem told_l0(m:Ac)(e:As)(hl:m.Sessions.length≤2000):∀(f i:Nat) (o:List As) (b:Bool),m.Sessions.length-i<f→i≤m.Sessions.length→o.length≤2*i →
  ∃o' b',Bu m e f o b (i:Int)=some (o',b')∧(o'++if b' then [] else [e])=o++pG (fun x=>decide (e.Session≤x.Session)) (fun x=>x.Session != e.Session) e (m.Sessions.drop i) b∧o'.length≤2*m.Sessions.length
 | 0,i,o,b,h,_,_=>by omega
 | f+1,i,o,b,h,hi,ho=>by
  unfold Bu
  by_cases c:i<m.Sessions.length
  ·rw [if_pos (by simpa using c),gN c,drop_at' c]
   have e1:(if b=true then some false else (some m.Sessions[i]).bind fun x62=>some (decide (e.Session≤x62.Session)))=some (!b&&decide (e.Session≤m.Sessions[i].Session)):=by cases b <;> rfl
   rw [e1,ob_]
   generalize hg:decide (e.Session≤m.Sessions[i].Session)=g
   have step:∀(o2:List As) (b2:Bool),o2.length≤2*i+1→o2++(if m.Sessions[i].Session != e.Session then [m.Sessions[i]] else [])++pG (fun x=>decide (e.Session≤x.Session)) (fun x=>x.Session != e.Session) e (m.Sessions.drop (i+1)) b2=o++pG (fun x=>decide (e.Session≤x.Session)) (fun x=>x.Session != e.Session) e (m.Sessions[i]::m.Sessions.drop (i+1)) b →
     ∃o' b',((some m.Sessions[i]).bind fun x41=>Option.bind (if (x41.Session != e.Session) then (apd 48 o2 [x41]).bind fun l52=>some l52 else some o2) fun p43=>Bu m e f p43 b2 (i64 ((i:Int)+1)))=some (o',b')∧(o'++if b' then [] else [e])=o++pG (fun x=>decide (e.Session≤x.Session)) (fun x=>x.Session != e.Session) e (m.Sessions[i]::m.Sessions.drop (i+1)) b∧o'.length≤2*m.Sessions.length:=by
    intro o2 b2 ho2 heq
    rw [ob_,i_a1 (by omega),←heq]
    by_cases h2:(m.Sessions[i].Session != e.Session)=true
    ·rw [if_pos h2,apd_i _ _ _ (by decide) (by simp;omega),ob_,ob_,if_pos h2]
     exact told_l0 m e hl f (i+1) (o2++[m.Sessions[i]]) b2 (by omega) (by omega) (by simp;omega)
    ·rw [if_neg h2,ob_,if_neg h2,List.append_nil]
     exact told_l0 m e hl f (i+1) o2 b2 (by omega) (by omega) (by omega)
   by_cases hw:(!b&&g)=true
   ·rw [if_pos hw,apd_i _ _ _ (by decide) (by simp;omega),ob_,ob_]
    refine step _ _ (by simp;omega) ?_
    have hgt:g=true:=by cases g <;> simp_all
    have hbf:b=false:=by cases b <;> simp_all
    subst hgt hbf
    simp [pG,hg]
   ·rw [if_neg hw,ob_]
    refine step o b (by omega) ?_
    have:(b||g)=b:=by cases b <;> cases g <;> simp_all
    simp [pG,hg,this,hw]
  ·rw [if_neg (by simpa using c),List.drop_eq_nil_of_le (by omega)]
   exact ⟨o,b,rfl,rfl,by omega⟩
theorem LS.told{m:Ac}(h:LS m.Sessions ss)(hl:m.Sessions.length≤2000)(s n:UInt64)(r:Ap):
  ∃l',Ck m ⟨s,n,r⟩=some ⟨m.C,m.T,m.P,l',m.Seq,m.Now,m.Ver,m.Asked,m.Hits⟩∧LS l' (mput ss s ⟨n,r⟩):=by
 obtain ⟨a,b⟩:=pG_f (key:=fun e:As=>e.Session) (ge:=fun x=>decide (s≤x.Session)) (ne:=fun x=>x.Session != s) (e:=(⟨s,n,r⟩:As)) stoW (fun x=>by simp) (fun x=>by simp) h.so
 refine ⟨pG (fun x=>decide (s≤x.Session)) (fun x=>x.Session != s) (⟨s,n,r⟩:As) m.Sessions false,?_,a,fun z =>?_⟩
 ·obtain ⟨o',b',e1,e2,e3⟩:=told_l0 m ⟨s,n,r⟩ hl (((m.Sessions.length:Int)-0).toNat+1) 0 [] false (by omega) (by omega) (by simp)
  unfold Ck
  rw [show Bu m ⟨s,n,r⟩ (((m.Sessions.length:Int)-0).toNat+1) [] false 0=_ from e1,ob_]
  rw [List.nil_append,List.drop_zero] at e2
  dsimp only at e2 ⊢
  rw [←e2]
  cases b'
  ·rw [if_pos (show (!false)=true from rfl),apd_i _ _ _ (by decide) (by simp;omega)];rfl
  ·rw [if_neg (show ¬(!true)=true by decide)];simp
 ·rw [b,mget_put,h.me]
  by_cases hk:s=z.Session
  ·rw [if_pos (by simpa using hk.symm)]
   constructor
   ·rintro (rfl | ⟨_,w⟩)
    ·rfl
    ·exact absurd hk.symm w
   ·intro w
    obtain ⟨w1,w2⟩:=Ar.mk.inj (Option.some.inj w)
    subst hk w1 w2
    exact .inl rfl
  ·rw [if_neg (by simpa using fun z=>hk (Eq.symm z))]
   constructor
   ·rintro (rfl | ⟨w,_⟩)
    ·exact absurd rfl hk
    ·exact w
   ·intro w;exact .inr ⟨w,fun z=>hk z.symm⟩
end
structure Bo (n:Nat) (seed:UInt64) (t:Am) (p:Ah) (K:List Str) (T:List Ai) (P:Af):Prop where
 tb:TB K t
 pr:PR n p K
 lt:LT T t
 pp:PP n seed p P
section
variable {n:Nat} {seed:UInt64} {t:Am} {p:Ah} {K:List Str} {T:List Ai} {P:Af}
theorem Bo.gone(h:Bo n seed t p K T P)(hn:n≤400)(k:Str):∃b p' P',Bd p k=some (b,p')∧BN P k=some (P',b)∧A3 T k=some (T.filter fun x=>x.Key != k) ∧
  Bo n seed (A9 t k).2 p' (TL.rm K k) (T.filter fun x=>x.Key != k) P':=by
 obtain ⟨b,p',P',e1,e2,h1,_⟩:=h.pp.Remove hn k
 obtain ⟨b2,p2,e3,h2⟩:=h.pr.remove k
 rw [e1] at e3
 cases e3
 obtain ⟨t1,e4,_,h3⟩:=h.tb.drop k
 obtain ⟨e5,h4⟩:=h.lt.drop h.tb k
 refine ⟨b,p',P',e1,e2,e5,⟨?_,h2,h4,h1⟩⟩
 rw [e4];exact h3
theorem ends_l0(hn:n≤400)(m0:Ac)(L:List Str)(hL:L.length≤2000)(hl:m0.T.length≤2000)(nw:UInt64):∀(g f i j:Nat) (t:Am) (p:Ah) (K:List Str) (m:Ac),Bo n seed t p K m.T m.P→m.Now=nw →
  L.drop j=((m0.T.drop i).filter fun x=>decide (0<x.End)&&decide (x.End≤nw)).map (fun x=>x.Key)→j≤L.length→i≤m0.T.length→L.length-j<f→m0.T.length-i<g →
  ∃t' p' K' T' P',Bf L f (j:Int) t.bytes (some p) t.m=some (t'.bytes,some p',t'.m)∧BH m0 g (i:Int) m=some ⟨m.C,T',P',m.Sessions,m.Seq,m.Now,m.Ver,m.Asked,m.Hits⟩∧Bo n seed t' p' K' T' P'
 | 0,f,i,j,t,p,K,m,_,_,_,_,_,_,h=>by omega
 | g+1,f,i,j,t,p,K,m,hB,hnw,hd,hj,hi,hf,hg=>by
  subst hnw
  unfold BH
  by_cases c:i<m0.T.length
  ·rw [if_pos (by simpa using c),gN c,ob_]
   rw [drop_at' c] at hd
   by_cases h2:(decide (0<m0.T[i].End)&&decide (m0.T[i].End≤m.Now))=true
   ·rw [List.filter_cons_of_pos (p:=fun x:Ai=>decide (0<x.End)&&decide (x.End≤m.Now)) h2,List.map_cons] at hd
    have cj:j<L.length:=by
     rcases Nat.lt_or_ge j L.length with w | w
     ·exact w
     ·rw [List.drop_eq_nil_of_le w] at hd;cases hd
    rw [drop_at' cj] at hd
    obtain ⟨hd1,hd2⟩:=List.cons.inj hd
    obtain ⟨b,p',P',e1,e2,e3,hB'⟩:=hB.gone hn m0.T[i].Key
    obtain ⟨f,rfl⟩:∃f',f=f'+1:=⟨f-1,by omega⟩
    rw [if_pos h2]
    unfold Bs Bf
    rw [if_pos (by simpa using cj),gN cj,ob_,lt_eq,show (⟨t.m,t.bytes⟩:Am)=t from rfl,om_some,hd1,e1,ob_,e3,ob_,e2,ob_,ob_,ob_,i_a1 (by omega),i_a1 (by omega)]
    exact ends_l0 hn m0 L hL hl m.Now g f (i+1) (j+1) _ p' _ ⟨m.C,m.T.filter fun x=>x.Key != m0.T[i].Key,P',m.Sessions,m.Seq,m.Now,m.Ver,m.Asked,m.Hits⟩ hB' rfl hd2 (by omega) (by omega) (by omega) (by omega)
   ·rw [List.filter_cons_of_neg (p:=fun x:Ai=>decide (0<x.End)&&decide (x.End≤m.Now)) h2] at hd
    rw [if_neg h2,ob_,i_a1 (by omega)]
    exact ends_l0 hn m0 L hL hl m.Now g f (i+1) j t p K m hB rfl hd hj (by omega) hf (by omega)
  ·rw [if_neg (by simpa using c)]
   rw [List.drop_eq_nil_of_le (by omega:m0.T.length≤i)] at hd
   have hj2:L.length≤j:=by
    rcases Nat.lt_or_ge j L.length with w | w
    ·rw [drop_at' w] at hd;cases hd
    ·exact w
   obtain ⟨f,rfl⟩:∃f',f=f'+1:=⟨f-1,by omega⟩
   unfold Bf
   rw [if_neg (by simp;omega)]
   exact ⟨t,p,K,m.T,m.P,rfl,rfl,hB⟩
theorem out_l1(r:List Str×Ah)(r2:Af×List Str)(hr:r2.2=r.1)(hL:r.1.length≤2000):∀(f j:Nat) (t:Am) (K:List Str) (T:List Ai),TB K t→LT T t→r.1.length-j<f→j≤r.1.length →
  ∃t' T',Br r f (j:Int) t.bytes t.m=some (t'.bytes,t'.m)∧BJ r2 f (j:Int) T=some T'∧(∃K',TB K' t')∧LT T' t'
 | 0,j,t,K,T,_,_,h,_=>by omega
 | f+1,j,t,K,T,hT,hl,hf,hj=>by
  unfold Br BJ
  rw [hr]
  by_cases c:j<r.1.length
  ·obtain ⟨t1,e1,_,h1⟩:=hT.drop r.1[j]
   obtain ⟨e2,h2⟩:=hl.drop hT r.1[j]
   rw [e1] at h2
   rw [if_pos (by simpa using c),if_pos (by simpa using c),gN c,ob_,ob_,lt_eq,show (⟨t.m,t.bytes⟩:Am)=t from rfl,e1,e2,ob_,i_a1 (by omega)]
   exact out_l1 r r2 hr hL f (j+1) t1 _ _ h1 h2 (by omega) (by omega)
  ·rw [if_neg (by simpa using c),if_neg (by simpa using c)]
   exact ⟨t,T,rfl,rfl,⟨K,hT⟩,hl⟩
theorem room_l0(hn:n≤400)(s:Ak)(hb:0≤s.c.Bytes):∀(f g i:Nat) (t:Am) (p:Ah) (K:List Str) (m:Ac),Bo n seed t p K m.T m.P→m.C=s.c→f=1002-i→K.length+i≤1000→K.length<g →
  ∃t' p' K' T' P',Ce s g p t.bytes t.m=some (p',t'.bytes,t'.m)∧BI f (i:Int) m=some ⟨m.C,T',P',m.Sessions,m.Seq,m.Now,m.Ver,m.Asked,m.Hits⟩∧Bo n seed t' p' K' T' P'
 | 0,g,i,t,p,K,m,_,_,h,_,_=>by omega
 | f+1,0,i,t,p,K,m,_,_,h,_,_=>by omega
 | f+1,g+1,i,t,p,K,m,hB,hc,hf,hK,hg=>by
  unfold Ce BI Dc
  dsimp only
  rw [if_pos (show decide ((i:Int)<1001)=true by simp;omega),hB.lt.bytes hB.tb,ob_,ob_,hc]
  by_cases c:decide (s.c.Bytes<t.bytes)=true
  ·rw [if_pos c,if_pos c]
   obtain ⟨o,b,p',P',e1,e2,h1,_⟩:=hB.pp.Evict hn
   rw [e1,e2,ob_,ob_]
   dsimp only
   rcases hB.pr.evict with ⟨e0,_⟩ | ⟨o2,p2,e3,om,h2⟩
   ·exfalso
    have h5:=hB.tb.len
    have h6:=hB.tb.sz
    rw [e0] at h5
    rw [List.length_eq_zero_iff.1 h5] at h6
    simp [msz] at h6
    simp at c
    omega
   ·rw [e1] at e3;cases e3
    have:=rm_len hB.pr.nd om
    obtain ⟨t1,e4,_,h3⟩:=hB.tb.drop o
    obtain ⟨e5,h4⟩:=hB.lt.drop hB.tb o
    rw [e4] at h4
    rw [if_neg (by simp),if_neg (by simp),lt_eq,show (⟨t.m,t.bytes⟩:Am)=t from rfl,e4,e5,ob_,i_a1 (by omega),←hc]
    exact room_l0 hn s hb f g (i+1) t1 p' (TL.rm K o) ⟨m.C,m.T.filter fun x=>x.Key != o,P',m.Sessions,m.Seq,m.Now,m.Ver,m.Asked,m.Hits⟩ ⟨h3,h2,h4,h1⟩ hc (by omega) (by omega) (by omega)
  ·rw [if_neg c,if_neg c,←hc]
   exact ⟨t,p,K,m.T,m.P,rfl,rfl,hB⟩
end
theorem check_same(o:AI):B2 o=C9 o:=by
 obtain ⟨k,key,v,ttl,ver⟩:=o
 unfold B2 C9
 have e:decide ((1:UInt64)≤ver)=decide (0<ver):=by
  rw [decide_eq_decide,UInt64.le_iff_toNat_le,UInt64.lt_iff_toNat_lt]
  have e1:(1:UInt64).toNat=1:=by decide
  have e0:(0:UInt64).toNat=0:=by decide
  omega
 dsimp only [lt]
 rw [e]
 split
 ·rfl
 ·by_cases h1:k=1
  ·subst h1;simp [Bool.and_assoc]
  by_cases h3:k=3
  ·subst h3;simp [Bool.and_assoc]
  by_cases h5:k=5
  ·subst h5
   simp only [AI.mk.injEq,true_and]
   rw [Bool.eq_iff_iff]
   simp [and_assoc]
  ·simp [h1,h3,h5]
theorem end_eq(nw ttl:UInt64):(if (decide (0<ttl)&&decide (nw<18446744073709551615))=true then Option.bind (if decide (ttl<(18446744073709551615-nw))=true then some (nw+ttl) else some 18446744073709551615) fun p200=>some p200 else some 0)=some (endv nw ttl):=by
 have hs:nw+(18446744073709551615-nw)=18446744073709551615:=by rw [UInt64.add_comm,UInt64.sub_add_cancel]
 unfold endv
 split
 ·generalize hd:18446744073709551615-nw=d at hs ⊢
  by_cases h1:ttl<d
  ·have h2:¬d<ttl:=by rw [UInt64.lt_iff_toNat_lt] at *;omega
   rw [if_pos (by simpa using h1),if_neg h2];rfl
  ·rw [if_neg (by simpa using h1)]
   by_cases h2:d<ttl
   ·rw [if_pos h2,hs];rfl
   ·have:ttl=d:=UInt64.toNat_inj.1 (by rw [UInt64.lt_iff_toNat_lt] at *;omega)
    rw [if_neg h2,this,hs];rfl
 ·rfl
def dTail(a0:Ac)(a1:AI):Option (Ac×Ap) :=
 if decide (a0.C.Bytes<(i64 ((a1.Key.length:Int)+(a1.Value.length:Int)))) then some (a0,(⟨120,[],0⟩:Ap)) else Option.bind (if (decide (0<a1.TTL)&&decide (a0.Now<18446744073709551615)) then Option.bind (if decide (a1.TTL<(18446744073709551615-a0.Now)) then some (a0.Now+a1.TTL) else some 18446744073709551615) fun p200=>some p200 else some 0) fun p68=>(BX a0.T (⟨a1.Key,a1.Value,a0.Ver+1,p68⟩:Ai)).bind fun r72=>(BO a0.P a1.Key).bind fun r75=>Option.bind (BJ r75 (((r75.2.length:Int)-0).toNat+1) 0 r72) fun p92=>Option.bind (BI 1002 0 (⟨a0.C,p92,r75.1,a0.Sessions,a0.Seq,a0.Now,a0.Ver+1,a0.Asked,a0.Hits⟩:Ac)) fun p99=>some (p99,(⟨0,[],p99.Ver⟩:Ap))
section
variable {n:Nat} {seed:UInt64} {c:Au} {t:Am} {p:Ah} {K:List Str} {T:List Ai} {P:Af} {ss:List (UInt64×Ar)} {S:List As} {sq nw vr:UInt64} {ty:Cb} {o:AI}
theorem PR.ins(hp:PR n p K){k:Str}(hk:k.length≤64):∃g p1 K1,Ba p k=some (g,p1)∧PR n p1 K1∧g.length≤1∧K1.Perm (rms (k::TL.rm K k) g):=by
 by_cases ck:k∈K
 ·obtain ⟨p1,e,q⟩:=hp.insert_yes ck
  exact ⟨[],p1,K,e,q,by simp,rm_perm hp.nd ck⟩
 ·obtain ⟨g,p1,K1,e,q,hg,_⟩:=hp.insert ck hk
  refine ⟨g,p1,K1,e,q,?_,?_⟩
  ·rcases hg with ⟨rfl,_⟩ | ⟨x,rfl,_⟩ <;> simp
  ·rw [rm_no ck]
   rcases hg with ⟨rfl,rfl⟩ | ⟨x,rfl,_,rfl⟩
   ·exact List.Perm.refl _
   ·exact List.Perm.refl _
theorem put_both(hB:Bo n seed t p K T P)(hn:n≤400)(hb:0≤c.Bytes)(hk:o.Key.length≤64)(hv:o.Value.length≤4096)(a h:Int):
  ∃r t' p' K' T' P' vr',Be ⟨c,some t,some p,ss,sq,nw,vr,ty⟩ o=some (r,⟨c,some t',some p',ss,sq,nw,vr',ty⟩)∧dTail ⟨c,T,P,S,sq,nw,vr,a,h⟩ o=some (⟨c,T',P',S,sq,nw,vr',a,h⟩,r)∧Bo n seed t' p' K' T' P':=by
 unfold Be dTail
 dsimp only
 split
 ·exact ⟨_,t,p,K,T,P,vr,rfl,rfl,hB⟩
 ·rw [end_eq,ob_]
  have eE:(if (decide (0<o.TTL)&&decide (nw<18446744073709551615))=true then some (nw+(if (18446744073709551615-nw)<o.TTL then 18446744073709551615-nw else o.TTL)) else some 0)=some (endv nw o.TTL):=by
   unfold endv;split <;> rfl
  rw [eE,ob_,om_some,lt_eq,om_some]
  generalize endv nw o.TTL=en
  have hrm:=rm_le K o.Key
  have hKn:=hB.pr.le
  have hn1:=hB.pr.n1
  obtain ⟨t1,e1,e2,h1⟩:=hB.tb.put (e:=(⟨o.Key,o.Value,vr+1,en⟩:Ai)) hk hv (by dsimp only;omega)
  obtain ⟨T1,d1,l1⟩:=hB.lt.put hB.tb (⟨o.Key,o.Value,vr+1,en⟩:Ai)
  rw [e1] at l1
  obtain ⟨g,p1,K1,e3,h2,hg,hK1⟩:=hB.pr.ins (k:=o.Key) hk
  obtain ⟨g2,p2,P1,e4,d2,hP1,_⟩:=hB.pp.Insert hn o.Key
  rw [e3] at e4;cases e4
  obtain ⟨t2,e4,h3,e5⟩:=put_l1 g p1 hg t1 _ h1
  obtain ⟨t3,T2,e6,d3,-,l2⟩:=out_l1 (g,p1) (P1,g) rfl (by dsimp only;omega) (((g.length:Int)-0).toNat+1) 0 t1 _ T1 h1 l1 (by dsimp only;omega) (by omega)
  have h3':=h3.perm hK1.symm
  have ht:t3=t2:=by
   have:=e4.symm.trans e6
   obtain ⟨q1,q2⟩:=Prod.mk.inj (Option.some.inj this)
   cases t2;cases t3
   dsimp only at q1 q2
   rw [q1,q2]
  subst ht
  have hK1n:=h2.le
  obtain ⟨t',p',K',T',P',e7,d4,hB'⟩:=room_l0 hn ⟨c,some t,some p,ss,sq,nw,vr,ty⟩ hb 1002 1100 0 t3 p1 K1 ⟨c,T2,P1,S,sq,nw,vr+1,a,h⟩ ⟨h3',h2,l2,hP1⟩ rfl rfl (by omega) (by omega)
  rw [e1,e3,ob_,d1,ob_,d2,ob_]
  dsimp only
  rw [e4,ob_,show BJ (P1,g) (((g.length:Int)-0).toNat+1) 0 T1=_ from d3,ob_]
  dsimp only
  rw [e7,ob_,show BI 1002 0 ⟨c,T2,P1,S,sq,nw,vr+1,a,h⟩=_ from d4,ob_]
  exact ⟨_,t',p',K',T',P',vr+1,rfl,rfl,hB'⟩
theorem do_both(hB:Bo n seed t p K T P)(hn:n≤400)(hb:0≤c.Bytes)(hc:B2 o=true)(h5:o.Kind≠5):
  ∃r t' p' K' T' P' vr' ty',AW ⟨c,some t,some p,ss,sq,nw,vr,ty⟩ o=some (r,⟨c,some t',some p',ss,sq,nw,vr',ty'⟩)∧CI ⟨c,T,P,S,sq,nw,vr,ty.Asked,ty.Hits⟩ o=some (⟨c,T',P',S,sq,nw,vr',ty'.Asked,ty'.Hits⟩,r)∧Bo n seed t' p' K' T' P':=by
 obtain ⟨hk,hv⟩:=chk_len hc
 have hput:=put_both (c:=c) (ss:=ss) (S:=S) (sq:=sq) (nw:=nw) (vr:=vr) (ty:=ty) hB hn hb hk hv ty.Asked ty.Hits
 have hT:∀b:Bool,(¬(b&&true)=true)=(b=false):=fun b=>by cases b <;> simp
 have hg:=hB.lt.get hB.tb o.Key
 have hh:=hB.tb.has o.Key
 unfold AW CI
 dsimp only
 rw [om_some,lt_eq,hg,ob_]
 have h2:(AT t o.Key).2=decide (o.Key∈K):=by unfold AT;exact hh
 rw [h2]
 rcases chk_kind hc with k | k | k | k | k
 ·rw [k]
  by_cases hm:o.Key∈K
  ·obtain ⟨b,p',P',e1,e2,h1,_⟩:=hB.pp.Touch hn o.Key
   obtain ⟨p2,e3,h3⟩:=hB.pr.touch hm
   rw [e1] at e3;cases e3
   rw [decide_eq_true hm,if_pos (by rfl),if_neg (by decide),om_some,e1,ob_,if_pos (by rfl),e2,ob_]
   exact ⟨_,t,p',K,T,P',vr,⟨i64 (ty.Asked+1),i64 (ty.Hits+1)⟩,rfl,rfl,⟨hB.tb,h3,hB.lt,h1⟩⟩
  ·obtain ⟨p',P',e1,e2,h1,_⟩:=hB.pp.Miss hn hk
   obtain ⟨p2,e3,h3⟩:=hB.pr.miss hk
   rw [e1] at e3;cases e3
   rw [decide_eq_false hm,if_pos (by rfl),if_pos (by decide),om_some,e1,ob_,if_neg (by decide),if_pos (by rfl),e2,ob_]
   exact ⟨_,t,p',K,T,P',vr,⟨i64 (ty.Asked+1),ty.Hits⟩,rfl,rfl,⟨hB.tb,h3,hB.lt,h1⟩⟩
 ·rw [k,if_neg (by decide),if_neg (by decide),if_neg (by decide),if_neg (by simp),if_neg (by decide),if_neg (by simp),if_neg (by decide),if_neg (by simp)]
  obtain ⟨r,t',p',K',T',P',vr',e1,e2,h1⟩:=hput
  unfold dTail at e2
  dsimp only at e2
  rw [e1,ob_,e2]
  exact ⟨r,t',p',K',T',P',vr',ty,rfl,rfl,h1⟩
 ·rw [k]
  by_cases hm:o.Key∈K
  ·obtain ⟨b,p',P',e1,e2,e3,h1⟩:=hB.gone hn o.Key
   rw [decide_eq_true hm,if_neg (by decide),if_pos (by rfl),if_neg (by decide),lt_eq,om_some,e1,ob_,if_neg (by decide),if_neg (by decide),if_neg (by decide),if_pos (by rfl)]
   unfold Bs
   rw [e3,ob_,e2,ob_,ob_]
   exact ⟨_,_,p',_,_,P',vr,ty,rfl,rfl,h1⟩
  ·rw [decide_eq_false hm,if_neg (by decide),if_pos (by rfl),if_pos (by decide),if_neg (by decide),if_neg (by decide),if_pos (by rfl)]
   exact ⟨_,t,p,K,T,P,vr,ty,rfl,rfl,hB⟩
 ·rw [k]
  by_cases hm:o.Key∈K
  ·rw [decide_eq_true hm,if_neg (by decide),if_neg (by decide),if_pos (by rfl),if_neg (by decide)]
   by_cases hx:((AT t o.Key).1.Version != o.Version)=true
   ·rw [if_pos hx,if_neg (by decide),if_neg (by decide),if_neg (by decide),if_neg (by decide),if_pos (by simpa using hx)]
    exact ⟨_,t,p,K,T,P,vr,ty,rfl,rfl,hB⟩
   ·rw [if_neg hx,if_neg (by decide),if_neg (by decide),if_neg (by decide),if_neg (by decide),if_neg (by simpa using hx)]
    obtain ⟨r,t',p',K',T',P',vr',e1,e2,h1⟩:=hput
    unfold dTail at e2
    dsimp only at e2
    rw [e1,ob_,e2]
    exact ⟨r,t',p',K',T',P',vr',ty,rfl,rfl,h1⟩
  ·rw [decide_eq_false hm,if_neg (by decide),if_neg (by decide),if_pos (by rfl),if_pos (by decide),if_neg (by decide),if_neg (by decide),if_pos (by rfl)]
   exact ⟨_,t,p,K,T,P,vr,ty,rfl,rfl,hB⟩
 ·exact absurd k h5
end
structure SD (n:Nat) (s:Ak) (m:Ac):Prop where
 ex:∃c t p K ss sq nw vr ty T P S,s=⟨c,some t,some p,ss,sq,nw,vr,ty⟩∧m=⟨c,T,P,S,sq,nw,vr,ty.Asked,ty.Hits⟩∧Bo n c.Seed t p K T P∧LS S ss∧Uk ss∧0≤c.Bytes∧ss.length≤64
section
variable {n:Nat} {seed:UInt64} {t:Am} {p:Ah} {K:List Str} {T:List Ai} {P:Af}
theorem Bo.ended(h:Bo n seed t p K T P)(nw:UInt64):CV t nw=some ((T.filter fun x=>decide (0<x.End)&&decide (x.End≤nw)).map fun x=>x.Key):=by
 unfold CV
 rw [h.tb.mkeys,ob_,h.lt.eq h.tb]
 unfold listed
 rw [List.filter_map,List.map_map]
 congr 1
 have hk:∀k∈ksort (keys t.m),((mget t.m k).getD ent0).Key=k:=fun k hk=>by
  obtain ⟨e,he⟩:=keys_mem.1 ((ksort_perm _).mem_iff.1 hk)
  rw [he];exact h.tb.key he
 have hf:(ksort (keys t.m)).filter ((fun x:Ai=>decide (0<x.End)&&decide (x.End≤nw))∘fun k=>(mget t.m k).getD ent0)=(ksort (keys t.m)).filter fun x => !endp t.m nw x:=by
  refine List.filter_congr fun k _ =>?_
  show (decide (0<((mget t.m k).getD ent0).End)&&decide (((mget t.m k).getD ent0).End≤nw)) = !((((mget t.m k).getD ent0).End.toNat==0)||decide (nw.toNat<((mget t.m k).getD ent0).End.toNat))
  generalize ((mget t.m k).getD ent0).End=e
  have e1:decide (0<e) = !(e.toNat==0):=by
   rw [Bool.eq_iff_iff,decide_eq_true_iff,UInt64.lt_iff_toNat_lt,show (0:UInt64).toNat=0 from rfl]
   simp;omega
  have e2:decide (e≤nw) = !(decide (nw.toNat<e.toNat)):=by
   rw [Bool.eq_iff_iff,decide_eq_true_iff,UInt64.le_iff_toNat_le]
   simp
  rw [e1,e2,Bool.not_or]
 rw [hf]
 refine ((List.map_congr_left (g:=id) fun k hm =>?_).trans (List.map_id _)).symm
 exact hk k (List.mem_filter.1 hm).1
end
theorem sd_apply{n:Nat}{s:Ak}{m:Ac}(h:SD n s m)(hn:n≤400)(hs:s.seq.toNat<1000000000)(x:AK):
  ∃r e s' m',AQ s x=some (r,e,s')∧CC m x=some (m',r,e)∧SD n s' m':=by
 obtain ⟨⟨c,t,p,K,ss,sq,nw,vr,ty,T,P,S,rfl,rfl,hB,hS,hu,hcb,h64⟩⟩:=h
 have hh:SD n ⟨c,some t,some p,ss,sq,nw,vr,ty⟩ ⟨c,T,P,S,sq,nw,vr,ty.Asked,ty.Hits⟩:=⟨c,t,p,K,ss,sq,nw,vr,ty,T,P,S,rfl,rfl,hB,hS,hu,hcb,h64⟩
 dsimp only at hs
 unfold AQ CC
 rw [←check_same]
 dsimp only
 by_cases hc:B2 x.Op=true
 ·have hc0:¬(!B2 x.Op)=true:=by simp [hc]
  rw [if_neg hc0,if_neg hc0]
  have hq:((x.Seq==0)||((x.Seq-1) != sq))=((sq==18446744073709551615)||(x.Seq != (sq+1))):=by
   have h1:(sq+1).toNat=sq.toNat+1:=u1n hs
   have h2:(sq==18446744073709551615)=false:=by
    rw [beq_eq_false_iff_ne];intro z;rw [z] at hs;exact absurd hs (by decide)
   rw [h2,Bool.false_or]
   by_cases h3:x.Seq=sq+1
   ·have h4:x.Seq≠0:=fun z=>by have:=congrArg UInt64.toNat z;rw [h3,h1] at this;cases this
    have h5:x.Seq-1=sq:=by rw [h3,UInt64.add_sub_cancel]
    rw [beq_eq_false_iff_ne.2 h4,h5,←h3];simp
   ·have h6:(x.Seq != sq+1)=true:=by simpa using h3
    rw [h6]
    by_cases h4:x.Seq=0
    ·rw [h4];rfl
    ·have h5:x.Seq-1≠sq:=fun z=>h3 (by rw [←z,UInt64.sub_add_cancel])
     rw [bne_iff_ne.2 h5,Bool.or_true]
  rw [hq]
  split
  ·exact ⟨_,_,_,_,rfl,rfl,hh⟩
  ·have hnw:(if decide (nw<x.Now)=true then some x.Now else some nw)=some (if nw<x.Now then x.Now else nw):=by
    by_cases h7:nw<x.Now
    ·rw [if_pos (by simpa using h7),if_pos h7]
    ·rw [if_neg (by simpa using h7),if_neg h7]
   rw [hnw,ob_,om_some]
   generalize (if nw<x.Now then x.Now else nw)=n1
   have hTl:=hB.lt.len hB.tb
   have hfl:((T.filter fun x=>decide (0<x.End)&&decide (x.End≤n1)).map fun x=>x.Key).length≤1001:=by
    rw [List.length_map];exact Nat.le_trans (List.length_filter_le _ _) hTl
   rw [hB.ended n1,ob_]
   obtain ⟨t1,p1,K1,T1,P1,e1,e2,hB1⟩:=ends_l0 hn ⟨c,T,P,S,sq,nw,vr,ty.Asked,ty.Hits⟩ ((T.filter fun x=>decide (0<x.End)&&decide (x.End≤n1)).map fun x=>x.Key) (by omega) (by dsimp only;omega) n1 (((T.length:Int)-0).toNat+1)
    (((((T.filter fun x=>decide (0<x.End)&&decide (x.End≤n1)).map fun x=>x.Key).length:Int)-0).toNat+1) 0 0 t p K ⟨c,T,P,S,sq+1,n1,vr,ty.Asked,ty.Hits⟩ hB rfl (by rw [List.drop_zero,List.drop_zero]) (by omega) (by omega) (by omega) (by dsimp only;omega)
   rw [show Bf _ _ 0 t.bytes (some p) t.m=_ from e1,show BH _ _ 0 _=_ from e2,ob_,ob_]
   dsimp only
   have hSD:SD n ⟨c,some t1,some p1,ss,sq+1,n1,vr,ty⟩ ⟨c,T1,P1,S,sq+1,n1,vr,ty.Asked,ty.Hits⟩:=⟨c,t1,p1,K1,ss,sq+1,n1,vr,ty,T1,P1,S,rfl,rfl,hB1,hS,hu,hcb,h64⟩
   have hSl:=hS.len hu
   by_cases h5:(x.Op.Kind==5)=true
   ·rw [if_pos h5,if_pos h5]
    exact ⟨_,_,_,_,rfl,rfl,hSD⟩
   ·rw [if_neg h5,if_neg h5]
    have k5:x.Op.Kind≠5:=by simpa using h5
    have next:(mget ss x.Session=none→ss.length<64)→∃r e s' m',((AW ⟨c,some t1,some p1,ss,sq+1,n1,vr,ty⟩ x.Op).bind fun r37=>some (r37.1,(0:Int),(⟨r37.2.c,r37.2.t,r37.2.p,mput r37.2.sessions x.Session (⟨x.Num,r37.1⟩:Ar),r37.2.seq,r37.2.now,r37.2.version,r37.2.tally⟩:Ak)))=some (r,e,s') ∧
      ((CI ⟨c,T1,P1,S,sq+1,n1,vr,ty.Asked,ty.Hits⟩ x.Op).bind fun r52=>(Ck r52.1 (⟨x.Session,x.Num,r52.2⟩:As)).bind fun r71=>some (r71,r52.2,(0:Int)))=some (m',r,e)∧SD n s' m':=by
     intro hl
     obtain ⟨r,t',p',K',T',P',vr',ty',f1,f2,hB'⟩:=do_both (c:=c) (ss:=ss) (S:=S) (sq:=sq+1) (nw:=n1) (vr:=vr) (ty:=ty) hB1 hn hcb hc k5
     rw [f1,f2,ob_,ob_]
     obtain ⟨l',f3,hS'⟩:=LS.told (m:=⟨c,T',P',S,sq+1,n1,vr',ty'.Asked,ty'.Hits⟩) hS (by dsimp only;omega) x.Session x.Num r
     rw [f3,ob_]
     refine ⟨_,_,_,_,rfl,rfl,⟨c,t',p',K',_,sq+1,n1,vr',ty',T',P',l',rfl,rfl,hB',hS',hu.put _ _,hcb,?_⟩⟩
     cases hg:mget ss x.Session with
     | none=>rw [mput_len hg];have:=hl hg;omega
     | some v=>rw [mput_len2 hg];exact h64
    rcases LS.last (m:=⟨c,T1,P1,S,sq+1,n1,vr,ty.Asked,ty.Hits⟩) hS (by dsimp only;omega) x.Session with ⟨v,j,g1,g2,g3⟩ | ⟨g1,g2⟩
    ·have d1:decide ((0:Int)≤(j:Int))=true:=by simp
     have d2:¬(decide ((j:Int)<0)&&decide (64≤(S.length:Int)))=true:=by simp;omega
     have cc1:((some v).isSome&&(x.Num==(((some v).getD ((⟨0,(⟨0,[],0⟩:Ap)⟩:Ar):Ar)).num)))=(x.Num==v.num):=by simp
     have cc2:((some v).isSome&&decide (x.Num<(((some v).getD ((⟨0,(⟨0,[],0⟩:Ap)⟩:Ar):Ar)).num)))=decide (x.Num<v.num):=by simp
     have cc3:¬(!((some v).isSome)&&decide (64≤(ss.length:Int)))=true:=by simp
     dsimp only at g3
     rw [g1,g2,ob_,cc1,cc2,if_pos d1,g3,ob_,ob_]
     by_cases c1:x.Num=v.num
     ·rw [if_pos (show (x.Num==v.num)=true by simpa using c1),if_pos (show (v.num==x.Num)=true by simpa using c1.symm),ob_]
      exact ⟨_,_,_,_,rfl,rfl,hSD⟩
     ·rw [if_neg (show ¬(x.Num==v.num)=true by simpa using c1),if_neg (show ¬(v.num==x.Num)=true by simpa using fun z=>c1 (Eq.symm z)),if_pos d1,ob_,ob_]
      by_cases c2:x.Num<v.num
      ·rw [if_pos (show decide (x.Num<v.num)=true by simpa using c2),if_pos (show decide (x.Num<v.num)=true by simpa using c2)]
       exact ⟨_,_,_,_,rfl,rfl,hSD⟩
      ·rw [if_neg (show ¬decide (x.Num<v.num)=true by simpa using c2),if_neg (show ¬decide (x.Num<v.num)=true by simpa using c2),if_neg cc3,if_neg d2]
       exact next fun z=>by rw [g1] at z;cases z
    ·have cc1:((none:Option Ar).isSome&&(x.Num==(((none:Option Ar).getD ((⟨0,(⟨0,[],0⟩:Ap)⟩:Ar):Ar)).num)))=false:=rfl
     have cc2:((none:Option Ar).isSome&&decide (x.Num<(((none:Option Ar).getD ((⟨0,(⟨0,[],0⟩:Ap)⟩:Ar):Ar)).num)))=false:=rfl
     have cc3:(!((none:Option Ar).isSome)&&decide (64≤(ss.length:Int)))=decide (64≤(ss.length:Int)):=rfl
     have d1:¬decide ((0:Int)≤(-1:Int))=true:=by decide
     have d2:(decide ((-1:Int)<0)&&decide (64≤(S.length:Int)))=decide (64≤(ss.length:Int)):=by rw [hSl];rfl
     have ff:¬(false=true):=by decide
     rw [g1,g2,ob_,cc1,cc2,cc3,if_neg d1,ob_,if_neg ff,if_neg ff,if_neg ff,if_neg d1,ob_,if_neg ff,d2]
     by_cases c3:decide (64≤(ss.length:Int))=true
     ·rw [if_pos c3,if_pos c3]
      exact ⟨_,_,_,_,rfl,rfl,hSD⟩
     ·rw [if_neg c3,if_neg c3]
      exact next fun _=>by simp at c3;omega
 ·have hc0:(!B2 x.Op)=true:=by simpa using hc
  rw [if_pos hc0,if_pos hc0]
  exact ⟨_,_,_,_,rfl,rfl,hh⟩
section
variable {n:Nat} {t:Aq} {x:AL}
end
theorem new_ae(n:Nat)(h1:1≤n)(h2:n≤400):∃t,Eb (n:Int)=some (some t,0)∧DE (n:Int)=some (AD n t.target ⟨[],[],[],[]⟩)∧AE n t ⟨[],[],[],[]⟩:=by
 obtain ⟨r,e,hR⟩:=new_ok 4 (2*n+1) (by omega) (by omega) (by omega)
 have e1:i64 (2*(n:Int))=((2*n:Nat):Int):=by rw [i64s _ (by omega) (by omega)];omega
 have e2:i64 (((2*n:Nat):Int)+1)=((2*n+1:Nat):Int):=by rw [i64s _ (by omega) (by omega)];omega
 unfold Eb DE
 rw [if_neg (by simp;omega),e1,e2,show DZ 4 ((2*n+1:Nat):Int)=_ from e,ob_,show BC 4 _=_ from rnew 4 (by omega),ob_]
 exact ⟨_,rfl,rfl,h1,h2,rfl,⟨by simp,by simp⟩,⟨r,rfl,hR⟩,by simp,by simp,by simp⟩
theorem nat_le(n:Nat):∀(l:List UInt64),l.Nodup→(∀x∈l,x.toNat<n)→l.length≤n:=by
 induction n with
 | zero=>intro l _ h;cases l with
  | nil=>simp
  | cons a l=>exact absurd (h a (List.mem_cons_self ..)) (by omega)
 | succ n ih =>
  intro l hl h
  by_cases hm:∃x∈l,x.toNat=n
  ·obtain ⟨x,hx,hxn⟩:=hm
   have h1:=ih (l.erase x) (hl.erase x) fun y hy=>by
    have h2:=(hl.mem_erase_iff).1 hy
    have h3:=h y h2.2
    have:y.toNat≠n:=fun z=>h2.1 (UInt64.toNat_inj.1 (by omega))
    omega
   rw [List.length_erase_of_mem hx] at h1
   omega
  ·have:=ih l hl fun y hy=>by
    have h3:=h y hy
    have:y.toNat≠n:=fun z=>hm ⟨y,hy,z⟩
    omega
   omega
theorem mget_mem'{K V:Type}[BEq K][LawfulBEq K]:∀{m:List (K×V)} {k:K} {v:V},mget m k=some v→(k,v)∈m
 | [],k,v,h=>by cases h
 | (a,u)::m,k,v,h=>by
  unfold mget at h
  split at h
  ·rename_i c;cases h;rw [eq_of_beq c];exact List.mem_cons_self ..
  ·exact List.mem_cons_of_mem _ (mget_mem' h)
theorem mem_mget'{K V:Type}[BEq K][LawfulBEq K]{m:List (K×V)}(hu:Uk m){k:K}(hk:k∈m.map (·.1)):∃v,mget m k=some v∧(k,v)∈m:=by
 cases hg:mget m k with
 | none=>exact absurd hk ((mget_none m k).1 hg)
 | some v=>exact ⟨v,rfl,mget_mem' hg⟩
section
variable {A V:Type} [BEq A] [LawfulBEq A]
end
section
variable {κ:Int} {n B N:Nat} {c:Au} {s:Ak} {t:Am} {p:Ah} {K:List Str}
end
end Go.Proofs.YtpanhdnglicknaaGreat.Pure
