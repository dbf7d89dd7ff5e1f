import Derived.Test.YtpanhdnglicknaaGreatW5
import Derived.Test.YtpanhdnglicknaaGreatQ0
set_option linter.unusedVariables false
set_option linter.unusedSectionVars false
set_option linter.unusedSimpArgs false
set_option maxRecDepth 100000
set_option maxHeartbeats 4000000
namespace Go.Proofs.YtpanhdnglicknaaGreat.Pure
open Go Go.Proofs.YtpanhdnglicknaaGreat.Hw Go.Proofs.YtpanhdnglicknaaGreat
theorem apd_i{α:Type}(bytes:Nat)(l r:List α)(hb:bytes≤48)(hl:l.length+r.length≤1000000):apd bytes l r=some (l++r):=by
 unfold apd
 rw [if_pos]
 calc (l.length+r.length)*bytes≤1000000*48:=Nat.mul_le_mul hl hb
  _≤_:=by decide
theorem cor_set{k n:Nat}{S:List Av}{many:List Int}{P:List (List Nat)}(h:Cor k n S many P){p:Nat}(hp:p∉P.flatten)(hk:k≤p)(hp2:p<k+n)(x:Av):Cor k n (S.set p x) many P:=by
 have e:∀q,q≠p→S0 (S.set p x) q=S0 S q:=fun q hq=>by unfold S0;rw [getD_set _ _ _ _ (by rw [h.len];exact hp2),if_neg hq]
 have ne:∀i Q,P[i]? = some Q→∀q∈i::(Q++[i]),q≠p:=by
  intro i Q hQ q hq
  have hik:=h.ikl hQ
  have:q=i∨q∈Q:=by simpa [or_comm] using hq
  rcases this with rfl | h3
  ·omega
  ·rintro rfl;exact hp (mem_fl hQ h3)
 refine ⟨by rw [List.length_set,h.len],h.pl,h.mn,fun i Q hQ=>lk_cg (fun q hq =>?_) (fun q hq =>?_) (h.lk i Q hQ),fun i Q hQ q hq =>?_,h.nd,h.rg⟩
 ·unfold nxS;rw [e q (ne i Q hQ q (List.dropLast_sublist _ |>.subset hq))]
 ·unfold pvS;rw [e q (ne i Q hQ q (List.mem_of_mem_tail hq))]
 ·rw [e q (ne i Q hQ q (by simp [hq]))];exact h.ow i Q hQ q hq
theorem set_ky{S:List Av}{p:Nat}(x:Av)(hp:p<S.length)(q:Nat):ky (S.set p x) q=if q=p then x.key else ky S q:=by
 unfold ky S0;rw [getD_set _ _ _ _ hp];split <;> rfl
theorem split_mem{l:List Nat}{p:Nat}(h:p∈l):∃A B,l=A++p::B:=List.append_of_mem h
theorem mem_ix{L:List (List Str)}{x:Str}(h:x∈L.flatten):∃(i:Nat) (l:List Str),L[i]? = some l∧x∈l:=by
 obtain ⟨l,hl,hx⟩:=List.mem_flatten.1 h
 obtain ⟨i,hi,rfl⟩:=List.getElem_of_mem hl
 exact ⟨i,_,List.getElem?_eq_getElem hi,hx⟩
section
variable {k n:Nat} {r:Aj} {L:List (List Str)} {P:List (List Nat)} {f:List Nat}
theorem Rg.at_(h:Rg k n r P f){key:Str}(hk:key∈(keysOf r.slots P).flatten):∃(i:Nat) (A:List Nat) (p:Nat) (B:List Nat),P[i]? = some (A++p::B)∧ky r.slots p=key∧p∈P.flatten∧mget r.at_ key=some (p:Int):=by
 obtain ⟨i,l,hl,hx⟩:=mem_ix hk
 obtain ⟨Q,hQ,rfl⟩:=keys_get hl
 obtain ⟨p,hp,rfl⟩:=List.mem_map.1 hx
 obtain ⟨A,B,rfl⟩:=split_mem hp
 have hm:=mem_fl hQ hp
 exact ⟨i,A,p,B,hQ,rfl,hm,(h.at1 _ _).2 ⟨p,hm,rfl,rfl⟩⟩
theorem Rg.no(h:Rg k n r P f){key:Str}(hk:key∉(keysOf r.slots P).flatten):mget r.at_ key=none:=by
 cases e:mget r.at_ key with
 | none=>rfl
 | some v =>
  obtain ⟨p,hp,_,rfl⟩:=(h.at1 key v).1 e
  rw [keys_fl] at hk
  exact absurd (List.mem_map_of_mem hp) hk
theorem fl_perm{P:List (List Nat)}{i p:Nat}{A B:List Nat}(h:P[i]? = some (A++p::B)):P.flatten.Perm (p::(P.set i (A++B)).flatten):=by
 obtain ⟨U,V,e1,_,e2⟩:=dec h
 rw [e2,e1]
 simp only [List.flatten_append,List.flatten_cons]
 refine List.perm_iff_count.2 fun x =>?_
 simp only [List.count_append,List.count_cons];omega
theorem fl_perm2{P:List (List Nat)}{i p:Nat}{Q:List Nat}(h:P[i]? = some Q):(P.set i (p::Q)).flatten.Perm (p::P.flatten):=by
 obtain ⟨U,V,e1,_,e2⟩:=dec h
 rw [e2,e1]
 simp only [List.flatten_append,List.flatten_cons]
 refine List.perm_iff_count.2 fun x =>?_
 simp only [List.count_append,List.count_cons];omega
theorem rmK_keys(h:Rg k n r P f){i p:Nat}{A B:List Nat}(hP:P[i]? = some (A++p::B)):rmK (keysOf r.slots P) (ky r.slots p)=keysOf r.slots (P.set i (A++B)):=by
 have e:=keys_get' r.slots hP
 rw [List.map_append,List.map_cons] at e
 rw [rmK_set h.nd e,keys_set,List.map_append]
theorem RR.drop(h:RR k n r L)(hn:n≤4096)(hk8:k≤8){key:Str}(hk:key∈L.flatten):∃r',AV r key=some (true,r')∧RR k n r' (rmK L key):=by
 obtain ⟨P,f,h,rfl⟩:=h
 obtain ⟨i,A,p,B,hP,rfl,hm,hg⟩:=h.at_ hk
 obtain ⟨S',m',hc,hco,hlen,hky⟩:=cut_ok h.co hn hP
 have hp:=h.co.rg p hm
 have pm:=fl_perm hP
 have hnd:=pm.nodup_iff.1 h.co.nd
 have hpn:=(List.nodup_cons.1 hnd).1
 have hpl:p<S'.length:=by rw [hlen,h.co.len];exact hp.2
 have hfl:f.length≤4096:=by have:=h.ct;omega
 unfold AV
 rw [hg,if_pos (by rfl),Option.getD_some,hc,ob_]
 dsimp only
 rw [giN hpl,ob_,h.fr,apd_i _ _ _ (by decide) (by simp;omega),ob_,lsC]
 have hsub:∀q∈(P.set i (A++B)).flatten,q∈P.flatten∧q≠p:=fun q hq=>⟨pm.symm.subset (List.mem_cons_of_mem _ hq),by rintro rfl;exact hpn hq⟩
 have hk2:∀q∈(P.set i (A++B)).flatten,ky (S'.set p ⟨[],0,0,0⟩) q=ky r.slots q:=fun q hq=>by
  rw [set_ky _ hpl,if_neg (hsub q hq).2];exact hky q
 refine ⟨_,rfl,P.set i (A++B),f++[p],⟨cor_set hco hpn hp.1 hp.2 _,h.hl,by simp,?_,?_,?_,h.uk.del _,?_,?_⟩,?_⟩
 ·have h1:=h.pm
  have:(P.flatten++f).Perm ((P.set i (A++B)).flatten++(f++[p])):=by
   refine List.perm_iff_count.2 fun x =>?_
   have:=List.perm_iff_count.1 pm x
   simp only [List.count_append,List.count_cons,List.count_nil] at this ⊢;omega
  exact this.nodup_iff.1 h1
 ·intro q hq
  rcases List.mem_append.1 hq with q2 | q2
  ·exact h.fg q q2
  ·simp at q2;subst q2;exact hp
 ·have:=pm.length_eq
  have:=h.ct
  simp at *;omega
 ·intro key v
  rw [mget_del _ _ _ h.uk]
  by_cases e:(key==ky r.slots p)=true
  ·rw [if_pos e]
   have:=eq_of_beq e;subst this
   constructor
   ·intro q;cases q
   ·rintro ⟨q,hq,_,e2⟩
    rw [hk2 q hq] at e2
    exact absurd (h.inj (hsub q hq).1 hm e2) (hsub q hq).2
  ·rw [if_neg e,h.at1]
   constructor
   ·rintro ⟨q,hq,rfl,rfl⟩
    have hqp:q≠p:=by rintro rfl;exact e (by simp)
    have hq2:q∈(P.set i (A++B)).flatten:=by
     rcases List.mem_cons.1 (pm.subset hq) with rfl | q2
     ·exact absurd rfl hqp
     ·exact q2
    exact ⟨q,hq2,rfl,hk2 q hq2⟩
   ·rintro ⟨q,hq,rfl,rfl⟩
    exact ⟨q,(hsub q hq).1,rfl,(hk2 q hq).symm⟩
 ·intro q hq
  rw [hk2 q hq];exact h.kl q (hsub q hq).1
 ·rw [rmK_keys h hP]
  exact (keys_cg hk2).symm
theorem RR.drop_no(h:RR k n r L){key:Str}(hk:key∉L.flatten):AV r key=some (false,r):=by
 obtain ⟨P,f,h,rfl⟩:=h
 unfold AV
 rw [h.no hk,if_neg (by simp)]
 rfl
theorem frK_get{L:List (List Str)}{i:Nat}{key:Str}{l:List Str}(h:(rmK L key)[i]? = some l):frK L i key=(rmK L key).set i (key::l):=by
 unfold frK;rw [List.getD_eq_getElem?_getD,h];rfl
theorem RR.front(h:RR k n r L)(hn:n≤4096){key:Str}(hk:key∈L.flatten){j:Nat}(hj:j<k):∃r',Ax r (j:Int) key=some (true,r')∧RR k n r' (frK L j key):=by
 have his:=h.is j
 have hl64:=h.kl key hk
 obtain ⟨P,f,h,rfl⟩:=h
 obtain ⟨i,A,p,B,hP,rfl,hm,hg⟩:=h.at_ hk
 obtain ⟨S',m',hc,hco,hlen,hky⟩:=cut_ok h.co hn hP
 have hp:=h.co.rg p hm
 have pm:=fl_perm hP
 have hpn:=(List.nodup_cons.1 (pm.nodup_iff.1 h.co.nd)).1
 obtain ⟨Q,hQ⟩:∃Q,(P.set i (A++B))[j]? = some Q:=⟨_,List.getElem?_eq_getElem (by rw [List.length_set,h.co.pl];exact hj)⟩
 obtain ⟨S2,m2,hc2,hco2,hlen2,hky2⟩:=link_ok (r:=⟨r.lists,S',r.free,r.at_,m'⟩) hco hn hQ hpn hp.1 hp.2
 have pm2:=fl_perm2 (p:=p) hQ
 have pm3:((P.set i (A++B)).set j (p::Q)).flatten.Perm P.flatten:=pm2.trans pm.symm
 have hkk:∀q,ky S2 q=ky r.slots q:=fun q=>(hky2 q).trans (hky q)
 unfold Ax
 rw [his,if_neg (by simp only [hj,decide_true,Bool.not_true,Bool.false_or,decide_eq_true_eq];omega),hg,if_pos (by rfl),Option.getD_some,hc,ob_,hc2,ob_]
 refine ⟨_,rfl,(P.set i (A++B)).set j (p::Q),f,⟨hco2,h.hl,h.fr,?_,h.fg,?_,h.uk,?_,?_⟩,?_⟩
 ·exact (pm3.append_right f).nodup_iff.2 h.pm
 ·rw [pm3.length_eq];exact h.ct
 ·intro key v
  rw [h.at1]
  constructor
  ·rintro ⟨q,hq,rfl,rfl⟩;exact ⟨q,pm3.symm.subset hq,rfl,hkk q⟩
  ·rintro ⟨q,hq,rfl,rfl⟩;exact ⟨q,pm3.subset hq,rfl,(hkk q).symm⟩
 ·intro q hq
  show (ky S2 q).length≤64
  rw [hkk];exact h.kl q (pm3.subset hq)
 ·show _=keysOf S2 _
  rw [keys_cg (S:=r.slots) fun q _=>hkk q,keys_set,frK_get (l:=Q.map (ky r.slots)),rmK_keys h hP,List.map_cons]
  rw [rmK_keys h hP];exact keys_get' _ hQ
theorem RR.front_new(h:RR k n r L)(hn:n≤4096){key:Str}(hk:key∉L.flatten)(h64:key.length≤64)(hroom:L.flatten.length<n){j:Nat}(hj:j<k):∃r',Ax r (j:Int) key=some (true,r')∧RR k n r' (L.set j (key::L.getD j [])):=by
 have his:=h.is j
 obtain ⟨P,f,h,rfl⟩:=h
 rw [keys_fl,List.length_map] at hroom
 have hf:f≠[]:=by rintro rfl;have:=h.ct;rw [List.length_nil] at this;omega
 obtain ⟨f0,p,rfl⟩:∃f0 p,f=f0++[p]:=⟨f.dropLast,f.getLast hf,(List.dropLast_concat_getLast hf).symm⟩
 have hp:=h.fg p (by simp)
 have hnd:=h.pm
 have hpn:p∉P.flatten:=by
  rw [List.nodup_append] at hnd
  intro q;exact hnd.2.2 p q p (by simp) rfl
 have hpl:p<r.slots.length:=by rw [h.co.len];exact hp.2
 have hfl:f0.length<4096:=by have:=h.ct;rw [List.length_append,List.length_singleton] at this;omega
 have hg:=h.no hk
 obtain ⟨Q,hQ⟩:∃Q,P[j]? = some Q:=⟨_,List.getElem?_eq_getElem (by rw [h.co.pl];exact hj)⟩
 have e1:i64 (((r.free.length:Nat):Int)-1)=((f0.length:Nat):Int):=by
  rw [h.fr,i64s] <;> simp <;> omega
 have e2:gi r.free ((f0.length:Nat):Int)=some (p:Int):=by
  unfold gi;rw [if_pos (by omega),h.fr];simp
 have e3:sl r.free 0 ((f0.length:Nat):Int)=some (f0.map fun (p:Nat)=>(p:Int)):=by
  unfold sl;rw [h.fr,if_pos (by simp;omega)];simp
 have e4:((r.free.length:Int)==0)=false:=by
  rw [h.fr];simp;omega
 unfold Ax
 rw [his,if_neg (by simp only [hj,decide_true,Bool.not_true,Bool.false_or,decide_eq_true_eq];omega),hg,if_neg (by simp),if_neg (by rw [e4];simp),e1,e2,ob_,e3,ob_,giN hpl,ob_,lsC]
 obtain ⟨S2,m2,hc2,hco2,hlen2,hky2⟩:=link_ok (r:=⟨r.lists,r.slots.set p ⟨key,(List.getD r.slots p default).list,(List.getD r.slots p default).prev,(List.getD r.slots p default).next⟩,f0.map (fun (p:Nat)=>(p:Int)),mput r.at_ key (p:Int),r.many⟩) (cor_set h.co hpn hp.1 hp.2 _) hn hQ hpn hp.1 hp.2
 rw [hc2,ob_]
 have pm2:=fl_perm2 (p:=p) hQ
 have hkk:∀q,q≠p→ky S2 q=ky r.slots q:=fun q hq=>(hky2 q).trans (by have:=set_ky (S:=r.slots) ⟨key,(List.getD r.slots p default).list,(List.getD r.slots p default).prev,(List.getD r.slots p default).next⟩ hpl q;rw [if_neg hq] at this;exact this)
 have hkp:ky S2 p=key:=(hky2 p).trans (by have:=set_ky (S:=r.slots) ⟨key,(List.getD r.slots p default).list,(List.getD r.slots p default).prev,(List.getD r.slots p default).next⟩ hpl p;rw [if_pos rfl] at this;exact this)
 have hne:∀q∈P.flatten,q≠p:=fun q hq=>by rintro rfl;exact hpn hq
 refine ⟨_,rfl,P.set j (p::Q),f0,⟨hco2,h.hl,rfl,?_,?_,?_,h.uk.put _ _,?_,?_⟩,?_⟩
 ·have:(P.flatten++(f0++[p])).Perm ((P.set j (p::Q)).flatten++f0):=by
   refine List.perm_iff_count.2 fun x =>?_
   have:=List.perm_iff_count.1 pm2 x
   simp only [List.count_append,List.count_cons,List.count_nil] at this ⊢;omega
  exact this.nodup_iff.1 hnd
 ·intro q hq;exact h.fg q (by simp [hq])
 ·have:=pm2.length_eq
  have:=h.ct
  simp at *;omega
 ·intro key' v
  show mget (mput r.at_ key (p:Int)) key'=some v↔∃q∈(P.set j (p::Q)).flatten,v=((q:Nat):Int)∧ky S2 q=key'
  rw [mget_put]
  by_cases e:(key'==key)=true
  ·rw [if_pos e]
   have:=eq_of_beq e;subst this
   constructor
   ·intro q;cases q;exact ⟨p,pm2.symm.subset (by simp),rfl,hkp⟩
   ·rintro ⟨q,hq,rfl,e2⟩
    rcases List.mem_cons.1 (pm2.subset hq) with rfl | q2
    ·rfl
    ·rw [hkk q (hne q q2)] at e2
     exact absurd (by rw [keys_fl];exact e2▸List.mem_map_of_mem q2) hk
  ·rw [if_neg e,h.at1]
   constructor
   ·rintro ⟨q,hq,rfl,rfl⟩;exact ⟨q,pm2.symm.subset (List.mem_cons_of_mem _ hq),rfl,hkk q (hne q hq)⟩
   ·rintro ⟨q,hq,rfl,rfl⟩
    rcases List.mem_cons.1 (pm2.subset hq) with rfl | q2
    ·rw [hkp] at e;simp at e
    ·exact ⟨q,q2,rfl,(hkk q (hne q q2)).symm⟩
 ·intro q hq
  show (ky S2 q).length≤64
  rcases List.mem_cons.1 (pm2.subset hq) with rfl | q2
  ·rw [hkp];exact h64
  ·rw [hkk q (hne q q2)];exact h.kl q q2
 ·show _=keysOf S2 _
  have e5:=keys_get' r.slots hQ
  have e6:keysOf S2 P=keysOf r.slots P:=keys_cg fun q hq=>hkk q (hne q hq)
  have e7:Q.map (ky S2)=Q.map (ky r.slots):=List.map_congr_left fun q hq=>hkk q (hne q (mem_fl hQ hq))
  rw [keys_set,e6,List.map_cons,hkp,e7,List.getD_eq_getElem?_getD,e5];rfl
end
theorem new_l3(k n:Nat)(hk:k≤8)(hn:n≤4096):∀(f s:Nat) (c:List Av),f=k-s+1→s≤k→c.length=k+n →
  ∃c',D2 (k:Int) f (s:Int) c=some c'∧c'.length=k+n∧∀q,S0 c' q=if s≤q∧q<k then ⟨[],(q:Int),(q:Int),(q:Int)⟩ else S0 c q:=by
 intro f
 induction f with
 | zero=>intro s c h;omega
 | succ f ih =>
  intro s c hf hs hc
  unfold D2
  by_cases h:s<k
  ·rw [if_pos (by simp;omega),giN (by omega),ob_,lsC,show i64 ((s:Int)+1)=((s+1:Nat):Int) by rw [i64s] <;> omega]
   obtain ⟨c',e,hl,hq⟩:=ih (s+1) (c.set s ⟨[],(s:Int),(s:Int),(s:Int)⟩) (by omega) (by omega) (by rw [List.length_set,hc])
   refine ⟨c',e,hl,fun q =>?_⟩
   rw [hq]
   unfold S0
   rw [getD_set _ _ _ _ (by omega)]
   by_cases e1:q=s
   ·subst e1;rw [if_neg (by omega),if_pos rfl,if_pos (by omega)]
   ·rw [if_neg e1]
    by_cases e2:s+1≤q∧q<k
    ·rw [if_pos e2,if_pos (by omega)]
    ·rw [if_neg e2,if_neg (by omega)]
  ·rw [if_neg (by simp;omega)]
   exact ⟨c,rfl,hc,fun q=>by rw [if_neg (by omega)]⟩
theorem new_l2(k:Nat)(hk:k≤8):∀(m:Nat) (c:List Int),m≤4096→c.length+m≤5000→D1 (k:Int) (m+1) ((m:Int)-1) c=some (c++((List.range m).reverse.map fun j=>((k+j:Nat):Int))):=by
 intro m
 induction m with
 | zero=>intro c _ _;unfold D1;rw [if_neg (by simp)];simp
 | succ m ih =>
  intro c h1 h2
  unfold D1
  have e1:((m+1:Nat):Int)-1=(m:Int):=by omega
  rw [e1,if_pos (by simp),apd_i _ _ _ (by decide) (by simp;omega),ob_,i64s _ (by omega) (by omega),i64s _ (by omega) (by omega),ih _ (by omega) (by simp;omega),List.range_succ]
  simp
theorem mks_i{α:Type}(bytes w:Nat)(z:α)(hb:bytes≤48)(hw:w≤5000):mks bytes (w:Int) z=some (List.replicate w z):=by
 have:bytes*w≤48*5000:=Nat.mul_le_mul hb hw
 unfold mks
 rw [if_pos (by refine ⟨by omega,?_,by omega⟩;rw [←Int.natCast_mul];omega)]
 rfl
theorem new_ok(k n:Nat)(h1:1≤k)(hk:k≤8)(hn:n≤4096):∃r,DZ (k:Int) (n:Int)=some (some r,0)∧RR k n r (List.replicate k []):=by
 have e1:i64 ((k:Int)+(n:Int))=((k+n:Nat):Int):=by rw [i64s] <;> omega
 have e2:i64 ((n:Int)-1)=(n:Int)-1:=by rw [i64s] <;> omega
 obtain ⟨S,e3,hl,hq⟩:=new_l3 k n hk hn (k-0+1) 0 (List.replicate (k+n) ⟨[],0,0,0⟩) rfl (by omega) (by simp)
 have e4:=new_l2 k hk n [] hn (by simp;omega)
 have f1:(((k:Int)-0).toNat+1)=k-0+1:=by omega
 have f2:(((n:Int)-1+1).toNat+1)=n+1:=by omega
 unfold DZ
 rw [if_neg (by simp only [Bool.or_eq_true,decide_eq_true_eq];omega),mks_i 8 k _ (by decide) (by omega),ob_,e1,mks_i 40 (k+n) _ (by decide) (by omega),ob_,f1]
 have e3':D2 (k:Int) (k-0+1) 0 (List.replicate (k+n) ⟨[],0,0,0⟩)=some S:=e3
 rw [e3',ob_,e2,f2,e4,ob_]
 have fl:(List.replicate k ([]:List Nat)).flatten=[]:=by simp
 refine ⟨_,rfl,List.replicate k [],(List.range n).reverse.map fun j=>k+j,⟨⟨hl,by simp,by simp [lens],?_,?_,by rw [fl];exact List.nodup_nil,by rw [fl];simp⟩,rfl,?_,?_,?_,?_,?_,?_,?_⟩,?_⟩
 ·intro i Q hQ
  rw [List.getElem?_replicate] at hQ
  split at hQ
  ·rename_i hi;cases hQ
   have a:=hq i
   rw [if_pos (by omega)] at a
   refine ⟨?_,?_,trivial⟩
   ·unfold nxS;rw [a]
   ·unfold pvS;rw [a]
  ·cases hQ
 ·intro i Q hQ
  rw [List.getElem?_replicate] at hQ
  split at hQ
  ·cases hQ;simp
  ·cases hQ
 ·simp
 ·rw [fl,List.nil_append]
  have:(List.range n).reverse.Nodup:=(List.reverse_perm _).nodup_iff.2 List.nodup_range
  unfold List.Nodup at this ⊢
  rw [List.pairwise_map]
  exact this.imp (fun h=>by omega)
 ·intro p hp
  simp only [List.mem_map,List.mem_reverse,List.mem_range] at hp
  obtain ⟨j,hj,rfl⟩:=hp
  omega
 ·rw [fl];simp
 ·exact List.nodup_nil
 ·intro key v;rw [fl];simp [mget]
 ·rw [fl];simp
 ·unfold keysOf;simp
structure TL where
 a:List Str
 b:List Str
 c:List Str
namespace TL
abbrev L(x:TL):List (List Str):=[x.a,x.b,x.c]
def all(x:TL):List Str:=x.a++(x.b++x.c)
def rm(l:List Str)(k:Str):List Str:=l.filter fun x => !(x==k)
def drop(x:TL)(k:Str):TL:=⟨rm x.a k,rm x.b k,rm x.c k⟩
def fr0(x:TL)(k:Str):TL:=⟨k::(x.drop k).a,(x.drop k).b,(x.drop k).c⟩
def fr1(x:TL)(k:Str):TL:=⟨(x.drop k).a,k::(x.drop k).b,(x.drop k).c⟩
def fr2(x:TL)(k:Str):TL:=⟨(x.drop k).a,(x.drop k).b,k::(x.drop k).c⟩
def n(x:TL):Nat:=x.a.length+x.b.length+x.c.length
end TL
theorem fl_all(x:TL):x.L.flatten=x.all:=by simp [TL.L,TL.all]
theorem all_n(x:TL):x.all.length=x.n:=by unfold TL.all TL.n;simp;omega
def Wn(n:Nat):Nat:=max 1 (n/8)
def Sf(n:Nat):Nat:=(n-Wn n)*4/5
def wd(n:Nat):Nat:=min (8*n) 4096
theorem Wn_le{n:Nat}(h:1≤n):Wn n≤n:=by unfold Wn;omega
theorem parts_c(n:Nat)(h:n≤1000)(h1:1≤n):Dn (n:Int)=⟨(Wn n:Int),(Sf n:Int)⟩:=by
 have e1:i64 ((n:Int).tdiv 8)=((n/8:Nat):Int):=by
  rw [show (n:Int).tdiv 8=((n/8:Nat):Int) by rw [Int.tdiv_eq_ediv_of_nonneg (by omega)];omega,i64s _ (by omega) (by omega)]
 have e2:(if (1:Int)<((n/8:Nat):Int) then ((n/8:Nat):Int) else 1)=(Wn n:Int):=by
  unfold Wn;split <;> omega
 have hw:=Wn_le h1
 have e3:i64 ((n:Int)-(Wn n:Int))=((n-Wn n:Nat):Int):=by rw [i64s _ (by omega) (by omega)];omega
 have e4:i64 (((n-Wn n:Nat):Int)*4)=(((n-Wn n)*4:Nat):Int):=by rw [i64s _ (by omega) (by omega)];omega
 have e5:(((n-Wn n)*4:Nat):Int).tdiv 5=((Sf n:Nat):Int):=by
  unfold Sf
  rw [Int.tdiv_eq_ediv_of_nonneg (by omega)];omega
 have e6:i64 ((Sf n:Nat):Int)=(Sf n:Int):=by
  have:Sf n≤1000:=by unfold Sf;omega
  rw [i64s _ (by omega) (by omega)]
 unfold Dn
 rw [e1,e2,e3,e4,e5,e6]
theorem wide_c(n:Nat)(h:n≤1000):Ea (n:Int)=(wd n:Int):=by
 unfold Ea wd
 rw [i64s _ (by omega) (by omega)]
 split <;> omega
open Classical in
noncomputable def plc (w:Nat) (seed:UInt64) (key:Str):Ps:=if h:∃p,Pk w seed key p then h.choose else ⟨0,0,0,0,0⟩
theorem plc_ok{w:Nat}{seed:UInt64}{key:Str}(h1:1≤w)(h2:w≤4096)(hk:key.length≤100000):Pk w seed key (plc w seed key):=by
 have h:=pk_ex w seed key h1 h2 hk
 unfold plc
 rw [dif_pos h]
 exact h.choose_spec
noncomputable def ad (w:Nat) (seed:UInt64) (s:Sk) (key:Str):Sk:=s.put w (plc w seed key)
noncomputable def sn (w:Nat) (seed:UInt64) (s:Sk) (key:Str):Nat:=s.seen (plc w seed key)
structure TR (n:Nat) (seed:UInt64) (t:Ao) (s:Sk) (x:TL):Prop where
 n1:1≤n
 n2:n≤1000
 ms:t.most=(n:Int)
 sk:t.s=some (s.C (wd n) seed)
 ok:s.ok (wd n)
 rg:∃r,t.r=some r∧RR 3 (n+1) r x.L
 bb:x.b.length+x.c.length+Wn n≤n
 ba:x.a.length≤Wn n
 bc:x.c.length≤Sf n
theorem TR.bn{n:Nat}{seed:UInt64}{t:Ao}{s:Sk}{x:TL}(h:TR n seed t s x):x.n≤n:=by have:=h.bb;have:=h.ba;unfold TL.n;omega
theorem frL0(x:TL)(k:Str):frK x.L 0 k=(x.fr0 k).L:=rfl
theorem frL1(x:TL)(k:Str):frK x.L 1 k=(x.fr1 k).L:=rfl
theorem frL2(x:TL)(k:Str):frK x.L 2 k=(x.fr2 k).L:=rfl
theorem rmL(x:TL)(k:Str):rmK x.L k=(x.drop k).L:=rfl
section
variable {k m:Nat} {r:Aj} {L:List (List Str)}
theorem RR.frontA(h:RR k m r L)(hm:m≤4096){key:Str}(h64:key.length≤64)(hr:key∈L.flatten∨L.flatten.length<m){j:Nat}(hj:j<k):∃r',Ax r (j:Int) key=some (true,r')∧RR k m r' (frK L j key):=by
 by_cases hk:key∈L.flatten
 ·exact h.front hm hk hj
 ·have e:frK L j key=L.set j (key::L.getD j []):=by unfold frK;rw [rmK_no hk]
  rw [e]
  exact h.front_new hm hk h64 (hr.resolve_left hk) hj
theorem RR.dropA(h:RR k m r L)(hm:m≤4096)(hk:k≤8)(key:Str):∃r',AV r key=some (decide (key∈L.flatten),r')∧RR k m r' (rmK L key):=by
 by_cases hk2:key∈L.flatten
 ·obtain ⟨r',e,q⟩:=h.drop hm hk hk2
  exact ⟨r',by rw [e];simp [hk2],q⟩
 ·exact ⟨r,by rw [h.drop_no hk2];simp [hk2],by rw [rmK_no hk2];exact h⟩
end
theorem rm_mem{l:List Str}{k x:Str}: x∈TL.rm l k↔x∈l∧x≠k:=by unfold TL.rm;simp
theorem rm_no{l:List Str}{k:Str}(h:k∉l):TL.rm l k=l:=filter_no h
theorem rm_le(l:List Str)(k:Str):(TL.rm l k).length≤l.length:=List.length_filter_le _ _
theorem rm_perm{l:List Str}{k:Str}(hn:l.Nodup)(h:k∈l):l.Perm (k::TL.rm l k):=by
 obtain ⟨A,B,rfl⟩:=List.append_of_mem h
 have pm:(A++k::B).Perm (k::(A++B)):=List.perm_middle
 have hk:=(List.nodup_cons.1 (pm.nodup_iff.1 hn)).1
 simp only [List.mem_append,not_or] at hk
 have e:TL.rm (A++k::B) k=A++B:=by
  unfold TL.rm
  rw [List.filter_append,List.filter_cons,if_neg (by simp),filter_no hk.1,filter_no hk.2]
 rw [e];exact pm
theorem rm_len{l:List Str}{k:Str}(hn:l.Nodup)(h:k∈l):(TL.rm l k).length+1=l.length:=by
 have:=(rm_perm hn h).length_eq;simpa using this.symm
theorem rm_app(l m:List Str)(k:Str):TL.rm (l++m) k=TL.rm l k++TL.rm m k:=by unfold TL.rm;rw [List.filter_append]
theorem drop_all(x:TL)(k:Str):(x.drop k).all=TL.rm x.all k:=by unfold TL.drop TL.all;rw [rm_app,rm_app]
theorem fr0_all(x:TL)(k:Str):(x.fr0 k).all.Perm (k::TL.rm x.all k):=by rw [←drop_all];exact List.Perm.refl _
theorem fr1_all(x:TL)(k:Str):(x.fr1 k).all.Perm (k::TL.rm x.all k):=by
 rw [←drop_all];unfold TL.fr1 TL.all
 refine List.perm_iff_count.2 fun y =>?_
 simp only [List.count_append,List.count_cons];omega
theorem fr2_all(x:TL)(k:Str):(x.fr2 k).all.Perm (k::TL.rm x.all k):=by
 rw [←drop_all];unfold TL.fr2 TL.all
 refine List.perm_iff_count.2 fun y =>?_
 simp only [List.count_append,List.count_cons];omega
theorem perm_mem{l m:List Str}{k:Str}(hp:m.Perm (k::TL.rm l k))(hk:k∈l)(hn:l.Nodup):m.Perm l:=hp.trans (rm_perm hn hk).symm
section
variable {n:Nat} {seed:UInt64} {t:Ao} {s:Sk} {x:TL}
theorem TR.nd(h:TR n seed t s x):x.all.Nodup:=by
 obtain ⟨r,_,hr⟩:=h.rg;have:=hr.nd;rw [fl_all] at this;exact this
theorem TR.kl(h:TR n seed t s x):∀k∈x.all,k.length≤64:=by
 obtain ⟨r,_,hr⟩:=h.rg;have:=hr.kl;rw [fl_all] at this;exact this
theorem TR.w1(h:TR n seed t s x):1≤wd n:=by have:=h.n1;unfold wd;omega
theorem TR.w2(_:TR n seed t s x):wd n≤4096:=by unfold wd;omega
theorem TR.Has(h:TR n seed t s x)(key:Str):DM t key=some (decide (key∈x.all)):=by
 obtain ⟨r,hr,hR⟩:=h.rg
 unfold DM
 rw [hr,om_some]
 by_cases hk:key∈x.L.flatten
 ·obtain ⟨i,l,hl,hx⟩:=mem_ix hk
  rw [hR.in_some hl hx,ob_];rw [fl_all] at hk;simp [hk]
 ·rw [hR.in_none hk,ob_];rw [fl_all] at hk;simp [hk]
theorem TR.Len(h:TR n seed t s x):Dq t=some (x.n:Int):=by
 obtain ⟨r,hr,hR⟩:=h.rg
 have:=h.bn
 have:=h.n2
 unfold Dq
 unfold TL.n at *
 have l0:=hR.Len (i:=0) (l:=x.a) rfl
 have l1:=hR.Len (i:=1) (l:=x.b) rfl
 have l2:=hR.Len (i:=2) (l:=x.c) rfl
 rw [hr,om_some,show Aw r 0=_ from l0,ob_,show Aw r 1=_ from l1,ob_,show Aw r 2=_ from l2,ob_,i64s ((x.a.length:Int)+(x.b.length:Int)) (by omega) (by omega),i64s _ (by omega) (by omega)]
 congr 1
end
def tch(n:Nat)(x:TL)(k:Str):TL :=
 if k∈x.a then x.fr0 k else if Sf n<(x.fr2 k).c.length then (x.fr2 k).fr1 ((x.fr2 k).c.getLastD []) else x.fr2 k
def lst(x:TL):Option Str:=match x.b.getLast? with | some k=>some k | none=>x.c.getLast?
noncomputable def ins (n:Nat) (seed:UInt64) (s:Sk) (x:TL) (k:Str):TL×List Str :=
 if (x.fr0 k).a.length≤Wn n then (x.fr0 k,[]) else
  if (x.fr0 k).n≤n then ((x.fr0 k).fr1 ((x.fr0 k).a.getLastD []),[]) else
   match lst (x.fr0 k) with
   | some o=>if sn (wd n) seed s o<sn (wd n) seed s ((x.fr0 k).a.getLastD []) then (((x.fr0 k).drop o).fr1 ((x.fr0 k).a.getLastD []),[o]) else ((x.fr0 k).drop ((x.fr0 k).a.getLastD []),[(x.fr0 k).a.getLastD []])
   | none=>((x.fr0 k).drop ((x.fr0 k).a.getLastD []),[(x.fr0 k).a.getLastD []])
theorem lastD{l:List Str}(h:l≠[]):l=l.dropLast++[l.getLastD []]:=by
 rw [List.getLastD_eq_getLast?,List.getLast?_eq_some_getLast h,Option.getD_some]
 exact (List.dropLast_concat_getLast h).symm
theorem lastD_mem{l:List Str}(h:l≠[]):l.getLastD []∈l:=by
 rw [List.getLastD_eq_getLast?,List.getLast?_eq_some_getLast h,Option.getD_some]
 exact List.getLast_mem h
theorem all_nd_a{x:TL}(h:x.all.Nodup):x.a.Nodup∧x.b.Nodup∧x.c.Nodup∧(∀k∈x.a,k∉x.b∧k∉x.c)∧∀k∈x.b,k∉x.c:=by
 unfold TL.all at h
 rw [List.nodup_append,List.nodup_append] at h
 obtain ⟨h1,⟨h2,h3,h4⟩,h5⟩:=h
 refine ⟨h1,h2,h3,fun k hk=>⟨fun q=>h5 k hk k (by simp [q]) rfl,fun q=>h5 k hk k (by simp [q]) rfl⟩,fun k hk q=>h4 k hk k q rfl⟩
section
variable {n:Nat} {seed:UInt64} {t:Ao} {s:Sk} {x:TL}
theorem TR.add(h:TR n seed t s x){key:Str}(hk:key.length≤100000):B4 (s.C (wd n) seed) key=some ((ad (wd n) seed s key).C (wd n) seed):=Add_c h.w1 h.w2 h.ok (plc_ok h.w1 h.w2 hk)
theorem TR.adok(h:TR n seed t s x)(key:Str):(ad (wd n) seed s key).ok (wd n):=put_ok h.w1 h.ok
theorem TR.mk'(h:TR n seed t s x){key:Str}{r:Aj}{y:TL}(hR:RR 3 (n+1) r y.L)(b1:y.b.length+y.c.length+Wn n≤n)(b2:y.a.length≤Wn n)(b3:y.c.length≤Sf n):
  TR n seed ⟨t.most,some ((ad (wd n) seed s key).C (wd n) seed),some r⟩ (ad (wd n) seed s key) y :=
 ⟨h.n1,h.n2,h.ms,rfl,h.adok key,⟨r,rfl,hR⟩,b1,b2,b3⟩
theorem TR.touch_no(h:TR n seed t s x){k:Str}(hk:k∉x.all):C0 t k=some (false,t):=by
 unfold C0
 rw [h.Has,ob_];simp [hk]
theorem TR.touch(h:TR n seed t s x){k:Str}(hk:k∈x.all):∃t',C0 t k=some (true,t')∧TR n seed t' (ad (wd n) seed s k) (tch n x k)∧(tch n x k).all.Perm x.all:=by
 have h64:=h.kl k hk
 have hnd:=h.nd
 obtain ⟨na,nb,nc,d1,d2⟩:=all_nd_a hnd
 obtain ⟨r,hr,hR⟩:=h.rg
 have hn:=h.n2
 have hfl:k∈x.L.flatten:=by rw [fl_all];exact hk
 have e1:=h.bn
 unfold C0 tch
 rw [h.Has,ob_,if_neg (by simp [hk]),h.sk,om_some,h.add (by omega),ob_,hr,om_some]
 by_cases ha:k∈x.a
 ·obtain ⟨r',e,hR'⟩:=hR.frontA (by omega) h64 (.inl hfl) (j:=0) (by omega)
  have pm:=perm_mem (fr0_all x k) hk hnd
  rw [hR.in_some (i:=0) rfl ha,ob_,if_pos (by simp),show Ax r 0 k=_ from e,ob_,if_pos ha]
  refine ⟨_,rfl,h.mk' (y:=x.fr0 k) hR' ?_ ?_ ?_,pm⟩
  ·have:=rm_le x.b k;have:=rm_le x.c k;have:=h.bb
   show (TL.rm x.b k).length+(TL.rm x.c k).length+_≤n;omega
  ·show (k::TL.rm x.a k).length≤_
   have:=rm_len na ha;have:=h.ba;simp;omega
  ·exact Nat.le_trans (rm_le _ _) h.bc
 ·have hin:∃i:Nat,BK r k=some (((i+1:Nat):Int),true):=by
   have:k∈x.b∨k∈x.c:=by unfold TL.all at hk;simpa [ha] using hk
   rcases this with q | q
   ·exact ⟨0,hR.in_some (i:=1) rfl q⟩
   ·exact ⟨1,hR.in_some (i:=2) rfl q⟩
  obtain ⟨i,hi⟩:=hin
  obtain ⟨r',e,hR'⟩:=hR.frontA (by omega) h64 (.inl hfl) (j:=2) (by omega)
  have hR2:RR 3 (n+1) r' (x.fr2 k).L:=hR'
  have pm:=perm_mem (fr2_all x k) hk hnd
  have nd2:(x.fr2 k).all.Nodup:=pm.nodup_iff.2 hnd
  have lc:=hR2.Len (i:=2) (l:=(x.fr2 k).c) rfl
  have b3:(x.fr2 k).c.length≤Sf n+1:=by
   show (k::TL.rm x.c k).length≤_
   have:=rm_le x.c k;have:=h.bc;simp;omega
  have b2:(x.fr2 k).a.length≤Wn n:=Nat.le_trans (rm_le _ _) h.ba
  have b1:(x.fr2 k).b.length+(x.fr2 k).c.length=x.b.length+x.c.length:=by
   have q1:=pm.length_eq
   have q2:(TL.rm x.a k).length=x.a.length:=by rw [rm_no ha]
   have q3:(x.fr2 k).a.length=x.a.length:=q2
   rw [all_n,all_n] at q1;unfold TL.n at q1;omega
  have hbb:=h.bb
  rw [hi,ob_,if_neg (by simp;omega),show Ax r 2 k=_ from e,ob_,show Aw r' 2=_ from lc,ob_,h.ms,parts_c n hn h.n1,if_neg ha]
  by_cases hc:Sf n<(x.fr2 k).c.length
  ·rw [if_pos (by simpa using hc),if_pos hc]
   have hne:(x.fr2 k).c≠[]:=by intro q;rw [q] at hc;simp at hc
   have bk:=hR2.Back (i:=2) (l:=(x.fr2 k).c.dropLast) (x:=(x.fr2 k).c.getLastD []) (by show some (x.fr2 k).c=_;rw [←lastD hne])
   have zm:=lastD_mem hne
   generalize (x.fr2 k).c.getLastD []=z at bk zm
   have zall:z∈(x.fr2 k).all:=by unfold TL.all;simp [zm]
   have z64:z.length≤64:=hR2.kl z (by rw [fl_all];exact zall)
   obtain ⟨r3,e3,hR3⟩:=hR2.frontA (by omega) z64 (.inl (by rw [fl_all];exact zall)) (j:=1) (by omega)
   have pm3:=perm_mem (fr1_all (x.fr2 k) z) zall nd2
   rw [show AF r' 2=_ from bk,ob_,show Ax r' 1 z=_ from e3,ob_]
   refine ⟨_,rfl,?_,pm3.trans pm⟩
   have:=h.mk' (key:=k) (y:=(x.fr2 k).fr1 z) hR3 (by
    have q1:=pm3.length_eq
    have q2:((x.fr2 k).fr1 z).a.length=(x.fr2 k).a.length:=by
     show (TL.rm (x.fr2 k).a z).length=_
     rw [rm_no (fun q=>((all_nd_a nd2).2.2.2.1 z q).2 zm)]
    rw [all_n,all_n] at q1;unfold TL.n at q1;omega) (Nat.le_trans (rm_le _ _) b2) (by
    show (TL.rm (x.fr2 k).c z).length≤_
    have:=rm_len (all_nd_a nd2).2.2.1 zm;omega)
   rw [h.ms] at this;exact this
  ·rw [if_neg (by simpa using hc),if_neg hc]
   refine ⟨_,rfl,?_,pm⟩
   have:=h.mk' (key:=k) (y:=x.fr2 k) hR2 (by omega) b2 (by omega)
   rw [h.ms] at this;exact this
end
theorem new_t(n:Nat)(seed:UInt64)(h1:1≤n)(h2:n≤1000):∃t s,Ed (n:Int) seed=some (some t,0)∧TR n seed t s ⟨[],[],[]⟩∧s=⟨List.replicate (wd n) 0,List.replicate (wd n) 0,List.replicate (wd n) 0,List.replicate (wd n) 0,List.replicate (wd n) false,0⟩:=by
 have w1:1≤wd n:=by unfold wd;omega
 have w2:wd n≤4096:=by unfold wd;omega
 obtain ⟨r,e,hR⟩:=new_ok 3 (n+1) (by omega) (by omega) (by omega)
 have e':DZ 3 (i64 ((n:Int)+1))=some (some r,0):=by
  rw [i64s _ (by omega) (by omega)];exact e
 unfold Ed
 rw [if_neg (by simp;omega),wide_c n h2,new_c (wd n) seed w1 w2,ob_,e',ob_]
 exact ⟨_,_,rfl,⟨h1,h2,rfl,rfl,zero_ok _ w1,⟨r,rfl,hR⟩,by have:=Wn_le h1;simpa using this,by simp,by simp⟩,rfl⟩
theorem fr0_new{x:TL}{k:Str}(hk:k∉x.all):x.fr0 k=⟨k::x.a,x.b,x.c⟩:=by
 unfold TL.all at hk
 simp only [List.mem_append,not_or] at hk
 unfold TL.fr0 TL.drop
 dsimp only
 rw [rm_no hk.1,rm_no hk.2.1,rm_no hk.2.2]
section
variable {n:Nat} {seed:UInt64} {t:Ao} {s:Sk} {x:TL}
theorem TR.insert_yes(h:TR n seed t s x){k:Str}(hk:k∈x.all):∃t',CL t k=some ([],t')∧TR n seed t' (ad (wd n) seed s k) (tch n x k)∧(tch n x k).all.Perm x.all:=by
 obtain ⟨t',e,h1,h2⟩:=h.touch hk
 have h64:=h.kl k hk
 unfold CL
 rw [if_neg (by simp;omega),e,ob_,ob_,if_pos rfl]
 exact ⟨t',rfl,h1,h2⟩
theorem TR.insert_long(h:TR n seed t s x){k:Str}(hk:64<k.length):CL t k=some ([],t):=by
 unfold CL
 rw [if_pos (by simp;omega),ob_,if_pos rfl]
def Kept(k:Str)(x:TL)(y:TL×List Str):Prop :=
 (y.2=[]∧y.1.all.Perm (k::x.all))∨∃o,y.2=[o]∧o∈k::x.all∧y.1.all.Perm (TL.rm (k::x.all) o)
theorem lst_mem{y:TL}{o:Str}(h:lst y=some o):o∈y.b∨(y.b=[]∧o∈y.c):=by
 unfold lst at h
 cases e:y.b.getLast? with
 | some k=>rw [e] at h;cases h;exact .inl (List.mem_of_getLast? e)
 | none=>rw [e] at h;exact .inr ⟨List.getLast?_eq_none_iff.1 e,List.mem_of_getLast? h⟩
theorem last_c{m:Nat}{r:Aj}{y:TL}(hR:RR 3 m r y.L)(mo:Int)(S:Option An):DX ⟨mo,S,some r⟩=some (match lst y with | some o=>(o,true) | none=>([],false)):=by
 unfold DX lst
 rw [om_some]
 cases e:y.b.getLast? with
 | some k =>
  obtain ⟨l,hl⟩:=List.getLast?_eq_some_iff.1 e
  have bk:=hR.Back (i:=1) (l:=l) (x:=k) (by show some y.b=_;rw [hl])
  rw [show AF r 1=_ from bk,ob_,if_pos rfl]
 | none =>
  have eb:=List.getLast?_eq_none_iff.1 e
  have bk:=hR.Back0 (i:=1) (by show some y.b=_;rw [eb])
  rw [show AF r 1=_ from bk,ob_,if_neg (by simp)]
  cases e2:y.c.getLast? with
  | some k =>
   obtain ⟨l,hl⟩:=List.getLast?_eq_some_iff.1 e2
   have bk:=hR.Back (i:=2) (l:=l) (x:=k) (by show some y.c=_;rw [hl])
   rw [show AF r 2=_ from bk,ob_]
  | none =>
   have eb:=List.getLast?_eq_none_iff.1 e2
   have bk:=hR.Back0 (i:=2) (by show some y.c=_;rw [eb])
   rw [show AF r 2=_ from bk,ob_]
theorem TR.insert_no(h:TR n seed t s x){k:Str}(hk:k∉x.all)(h64:k.length≤64):
  ∃t',CL t k=some ((ins n seed (ad (wd n) seed s k) x k).2,t')∧TR n seed t' (ad (wd n) seed s k) (ins n seed (ad (wd n) seed s k) x k).1∧Kept k x (ins n seed (ad (wd n) seed s k) x k):=by
 have hnd:=h.nd
 obtain ⟨r,hr,hR⟩:=h.rg
 have hn:=h.n2
 have hbn:=h.bn
 have hbb:=h.bb
 have hba:=h.ba
 have hbc:=h.bc
 have ok':=h.adok k
 obtain ⟨r1,e1,hR1⟩:=hR.frontA (by omega) h64 (.inr (by rw [fl_all,all_n];omega)) (j:=0) (by omega)
 have hR1:RR 3 (n+1) r1 (x.fr0 k).L:=hR1
 have ey:=fr0_new hk
 have hal:(x.fr0 k).all=k::x.all:=by rw [ey];rfl
 have hyn:(x.fr0 k).n=x.n+1:=by rw [←all_n,hal,List.length_cons,all_n]
 have la:=hR1.Len (i:=0) (l:=(x.fr0 k).a) rfl
 have hya:(x.fr0 k).a.length=x.a.length+1:=by rw [ey];rfl
 have hyb:(x.fr0 k).b.length=x.b.length:=by rw [ey]
 have hyc:(x.fr0 k).c.length=x.c.length:=by rw [ey]
 have nd1:(x.fr0 k).all.Nodup:=by rw [hal];exact List.nodup_cons.2 ⟨hk,hnd⟩
 unfold CL
 rw [if_neg (by simp;omega),h.touch_no hk,ob_,ob_,if_neg (by simp)]
 dsimp only
 rw [h.sk,om_some,h.add (by omega),ob_,hr,om_some,show Ax r 0 k=_ from e1,ob_]
 dsimp only
 rw [show Aw r1 0=_ from la,ob_,h.ms,parts_c n hn h.n1]
 dsimp only
 unfold ins
 generalize ad (wd n) seed s k=s' at ok' ⊢
 generalize x.fr0 k=y at *
 by_cases c1:y.a.length≤Wn n
 ·rw [if_pos (by simpa using c1),if_pos c1]
  refine ⟨_,rfl,⟨h.n1,hn,rfl,rfl,ok',⟨r1,rfl,hR1⟩,?_,c1,?_⟩,.inl ⟨rfl,by rw [hal]⟩⟩
  ·dsimp only;omega
  ·dsimp only;omega
 ·rw [if_neg (by simpa using c1),if_neg c1]
  have hne:y.a≠[]:=by intro q;rw [q] at c1;simp at c1
  have bk:=hR1.Back (i:=0) (l:=y.a.dropLast) (x:=y.a.getLastD []) (by show some y.a=_;rw [←lastD hne])
  have om:=lastD_mem hne
  generalize y.a.getLastD []=one at bk om ⊢
  obtain ⟨d1,d2,d3,d4,d5⟩:=all_nd_a nd1
  have oall:one∈y.all:=by unfold TL.all;simp [om]
  have o64:one.length≤64:=hR1.kl one (by rw [fl_all];exact oall)
  have ra:=rm_len d1 om
  have LEN:Dq ⟨(n:Int),some (s'.C (wd n) seed),some r1⟩=some (y.n:Int):=by
   unfold Dq
   have l1:=hR1.Len (i:=1) (l:=y.b) rfl
   have l2:=hR1.Len (i:=2) (l:=y.c) rfl
   unfold TL.n at *
   rw [om_some,show Aw r1 0=_ from la,ob_,show Aw r1 1=_ from l1,ob_,show Aw r1 2=_ from l2,ob_,i64s ((y.a.length:Int)+(y.b.length:Int)) (by omega) (by omega),i64s _ (by omega) (by omega)]
   congr 1
  rw [show AF r1 0=_ from bk,ob_,LEN,ob_]
  by_cases c2:y.n≤n
  ·obtain ⟨r2,e2,hR2⟩:=hR1.frontA (by omega) o64 (.inl (by rw [fl_all];exact oall)) (j:=1) (by omega)
   have pm:=perm_mem (fr1_all y one) oall nd1
   rw [if_pos (by simpa using c2),if_pos c2,show Ax r1 1 one=_ from e2,ob_]
   refine ⟨_,rfl,⟨h.n1,hn,rfl,rfl,ok',⟨r2,rfl,hR2⟩,?_,?_,?_⟩,.inl ⟨rfl,by rw [←hal];exact pm⟩⟩
   ·have q1:(y.fr1 one).b.length=y.b.length+1:=by
     show (one::TL.rm y.b one).length=_
     rw [rm_no (d4 one om).1];rfl
    have q2:(y.fr1 one).c.length=y.c.length:=by
     show (TL.rm y.c one).length=_
     rw [rm_no (d4 one om).2]
    dsimp only
    unfold TL.n at c2
    omega
   ·show (TL.rm y.a one).length≤_;omega
   ·show (TL.rm y.c one).length≤_;have:=rm_le y.c one;omega
  ·have LS:=last_c hR1 (n:Int) (some (s'.C (wd n) seed))
   rw [if_neg (by simpa using c2),if_neg c2,LS,ob_]
   have DROP:∃t',((AV r1 one).bind fun r82=>some ([one],(⟨(n:Int),(some (s'.C (wd n) seed)),(some r82.2)⟩:Ao)))=some ([one],t')∧TR n seed t' s' (y.drop one)∧(y.drop one).all.Perm (TL.rm (k::x.all) one):=by
    obtain ⟨r2,e2,hR2⟩:=hR1.dropA (by omega) (by omega) one
    rw [e2,ob_]
    refine ⟨_,rfl,⟨h.n1,hn,rfl,rfl,ok',⟨r2,rfl,hR2⟩,?_,?_,?_⟩,by rw [drop_all,hal]⟩
    ·have:=rm_le y.b one;have:=rm_le y.c one
     show (TL.rm y.b one).length+(TL.rm y.c one).length+_≤n;omega
    ·show (TL.rm y.a one).length≤_;omega
    ·show (TL.rm y.c one).length≤_;have:=rm_le y.c one;omega
   obtain ⟨tD,eD,hD,pD⟩:=DROP
   cases eL:lst y with
   | none =>
    dsimp only
    rw [if_neg (by simp),ob_,if_neg (by simp)]
    exact ⟨tD,eD,hD,.inr ⟨one,rfl,by rw [←hal];exact oall,pD⟩⟩
   | some o =>
    have omem:=lst_mem eL
    have oin:o∈y.all:=by unfold TL.all;rcases omem with q | q <;> simp [q]
    have ol:o.length≤64:=hR1.kl o (by rw [fl_all];exact oin)
    have hw1:=h.w1
    have hw2:=h.w2
    have sn1:Cd (s'.C (wd n) seed) one=some (sn (wd n) seed s' one:Int):=Seen_c hw1 hw2 ok' (plc_ok hw1 hw2 (by omega))
    have sn2:Cd (s'.C (wd n) seed) o=some (sn (wd n) seed s' o:Int):=Seen_c hw1 hw2 ok' (plc_ok hw1 hw2 (by omega))
    dsimp only
    rw [if_pos rfl,sn1,ob_,sn2,ob_,ob_]
    by_cases c3:sn (wd n) seed s' o<sn (wd n) seed s' one
    ·rw [if_pos (by simpa using c3),if_pos c3]
     obtain ⟨r2,e2,hR2⟩:=hR1.dropA (by omega) (by omega) o
     have hR2:RR 3 (n+1) r2 (y.drop o).L:=hR2
     have hoo:one≠o:=by
      rintro rfl
      rcases omem with q | q
      ·exact (d4 one om).1 q
      ·exact (d4 one om).2 q.2
     have om2:one∈(y.drop o).a:=rm_mem.2 ⟨om,hoo⟩
     have oall2:one∈(y.drop o).all:=by unfold TL.all;simp [om2]
     have nd2:(y.drop o).all.Nodup:=by rw [drop_all];exact List.filter_sublist.nodup nd1
     obtain ⟨r3,e3,hR3⟩:=hR2.frontA (by omega) o64 (.inl (by rw [fl_all];exact oall2)) (j:=1) (by omega)
     have pm:=perm_mem (fr1_all (y.drop o) one) oall2 nd2
     rw [e2,ob_,show Ax r2 1 one=_ from e3,ob_]
     refine ⟨_,rfl,⟨h.n1,hn,rfl,rfl,ok',⟨r3,rfl,hR3⟩,?_,?_,?_⟩,.inr ⟨o,rfl,by rw [←hal];exact oin,?_⟩⟩
     ·have g1:((y.drop o).fr1 one).b.length≤(TL.rm y.b o).length+1:=by
       show (one::TL.rm (TL.rm y.b o) one).length≤_
       have:=rm_le (TL.rm y.b o) one;simp;omega
      have g2:((y.drop o).fr1 one).c.length≤(TL.rm y.c o).length:=rm_le _ _
      have g3:(TL.rm y.b o).length+(TL.rm y.c o).length+1≤y.b.length+y.c.length:=by
       have:=rm_le y.b o;have:=rm_le y.c o
       rcases omem with q | q
       ·have:=rm_len d2 q;omega
       ·have:=rm_len d3 q.2;omega
      dsimp only
      omega
     ·show (TL.rm (TL.rm y.a o) one).length≤_
      have:TL.rm y.a o=y.a:=rm_no (fun q=>by rcases omem with z | z;exact (d4 o q).1 z;exact (d4 o q).2 z.2)
      rw [this];omega
     ·show (TL.rm (TL.rm y.c o) one).length≤_
      have:=rm_le (TL.rm y.c o) one;have:=rm_le y.c o;omega
     ·rw [←hal,←drop_all];exact pm
    ·rw [if_neg (by simpa using c3),if_neg c3]
     exact ⟨tD,eD,hD,.inr ⟨one,rfl,by rw [←hal];exact oall,pD⟩⟩
end
section
variable {n:Nat} {seed:UInt64} {t:Ao} {s:Sk} {x:TL}
theorem TR.gone(h:TR n seed t s x){r:Aj}{k:Str}(hR:RR 3 (n+1) r (x.drop k).L):TR n seed ⟨t.most,t.s,some r⟩ s (x.drop k):=by
 refine ⟨h.n1,h.n2,h.ms,h.sk,h.ok,⟨r,rfl,hR⟩,?_,?_,?_⟩
 ·have:=rm_le x.b k;have:=rm_le x.c k;have:=h.bb
  show (TL.rm x.b k).length+(TL.rm x.c k).length+_≤n;omega
 ·exact Nat.le_trans (rm_le _ _) h.ba
 ·exact Nat.le_trans (rm_le _ _) h.bc
theorem TR.Remove(h:TR n seed t s x)(k:Str):∃t',DO t k=some (decide (k∈x.all),t')∧TR n seed t' s (x.drop k):=by
 obtain ⟨r,hr,hR⟩:=h.rg
 have:=h.n2
 obtain ⟨r',e,hR'⟩:=hR.dropA (by omega) (by omega) k
 unfold DO
 rw [hr,om_some,e,ob_]
 refine ⟨_,by rw [fl_all],?_⟩
 exact h.gone (rmL x k▸hR')
def evk(x:TL):Option Str:=match x.b.getLast? with | some k=>some k | none=>match x.a.getLast? with | some k=>some k | none=>x.c.getLast?
theorem evk_none{x:TL}(h:evk x=none):x=⟨[],[],[]⟩:=by
 obtain ⟨a,b,c⟩:=x
 unfold evk at h
 dsimp only at h
 cases e:b.getLast? with
 | some k=>rw [e] at h;cases h
 | none =>
  rw [e] at h;dsimp only at h
  cases e2:a.getLast? with
  | some k=>rw [e2] at h;cases h
  | none =>
   rw [e2] at h;dsimp only at h
   rw [List.getLast?_eq_none_iff.1 e,List.getLast?_eq_none_iff.1 e2,List.getLast?_eq_none_iff.1 h]
theorem RR.BackA{m:Nat}{r:Aj}{L:List (List Str)}{k:Nat}(h:RR k m r L){i:Nat}{l:List Str}(hl:L[i]? = some l):AF r (i:Int)=some (match l.getLast? with | some k=>(k,true) | none=>([],false)):=by
 cases e:l.getLast? with
 | some k =>
  obtain ⟨q,rfl⟩:=List.getLast?_eq_some_iff.1 e
  exact h.Back hl
 | none =>
  rw [List.getLast?_eq_none_iff.1 e] at hl
  exact h.Back0 hl
theorem TR.Evict(h:TR n seed t s x):∃t' x',DV t=some ((match evk x with | some k=>(k,true,t') | none=>([],false,t')))∧TR n seed t' s x'∧x'=(match evk x with | some k=>x.drop k | none=>x):=by
 obtain ⟨r,hr,hR⟩:=h.rg
 have hn:=h.n2
 have b0:=hR.BackA (i:=0) (l:=x.a) rfl
 have b1:=hR.BackA (i:=1) (l:=x.b) rfl
 have b2:=hR.BackA (i:=2) (l:=x.c) rfl
 unfold DV
 rw [h.Len,ob_]
 by_cases hz:x.n=0
 ·have ha:x.a=[]:=List.length_eq_zero_iff.1 (by unfold TL.n at hz;omega)
  have hb:x.b=[]:=List.length_eq_zero_iff.1 (by unfold TL.n at hz;omega)
  have hc:x.c=[]:=List.length_eq_zero_iff.1 (by unfold TL.n at hz;omega)
  rw [hz,if_pos (by rfl)]
  unfold evk
  rw [ha,hb,hc]
  exact ⟨t,x,rfl,h,rfl⟩
 ·rw [if_neg (by simpa using hz),hr,om_some,show AF r 1=_ from b1,ob_,show AF r 0=_ from b0,show AF r 2=_ from b2]
  have D:∀k,∃t',((AV r k).bind fun r28=>some (k,true,(⟨t.most,t.s,(some r28.2)⟩:Ao)))=some (k,true,t')∧TR n seed t' s (x.drop k):=fun k=>by
   obtain ⟨r',e,hR'⟩:=hR.dropA (by omega) (by omega) k
   rw [e,ob_]
   exact ⟨_,rfl,h.gone (rmL x k▸hR')⟩
  unfold evk
  cases e1:x.b.getLast? with
  | some k =>
   obtain ⟨t',e,q⟩:=D k
   exact ⟨t',_,e,q,rfl⟩
  | none =>
   cases e2:x.a.getLast? with
   | some k =>
    obtain ⟨t',e,q⟩:=D k
    exact ⟨t',_,e,q,rfl⟩
   | none =>
    cases e3:x.c.getLast? with
    | some k =>
     obtain ⟨t',e,q⟩:=D k
     exact ⟨t',_,e,q,rfl⟩
    | none =>
     exfalso;apply hz
     rw [show x=⟨[],[],[]⟩ from evk_none (by unfold evk;rw [e1];dsimp only;rw [e2];exact e3)];rfl
end
structure AL where
 a:List Str
 b:List Str
 c:List Str
 d:List Str
namespace AL
abbrev L(x:AL):List (List Str):=[x.a,x.b,x.c,x.d]
def all(x:AL):List Str:=x.a++(x.b++(x.c++x.d))
def kept(x:AL):List Str:=x.a++x.b
def drop(x:AL)(k:Str):AL:=⟨TL.rm x.a k,TL.rm x.b k,TL.rm x.c k,TL.rm x.d k⟩
def fr0(x:AL)(k:Str):AL:=⟨k::TL.rm x.a k,TL.rm x.b k,TL.rm x.c k,TL.rm x.d k⟩
def fr1(x:AL)(k:Str):AL:=⟨TL.rm x.a k,k::TL.rm x.b k,TL.rm x.c k,TL.rm x.d k⟩
def fr2(x:AL)(k:Str):AL:=⟨TL.rm x.a k,TL.rm x.b k,k::TL.rm x.c k,TL.rm x.d k⟩
def fr3(x:AL)(k:Str):AL:=⟨TL.rm x.a k,TL.rm x.b k,TL.rm x.c k,k::TL.rm x.d k⟩
end AL
theorem afl(x:AL):x.L.flatten=x.all:=by simp [AL.L,AL.all]
structure AR (n:Nat) (t:Aq) (x:AL):Prop where
 n1:1≤n
 n2:n≤1000
 ms:t.most=(n:Int)
 tg:0≤t.target∧t.target≤(n:Int)
 rg:∃r,t.r=some r∧RR 4 (2*n+1) r x.L
 b1:x.a.length+x.b.length≤n
 b2:x.a.length+x.c.length≤n
 b3:x.a.length+x.b.length+x.c.length+x.d.length≤2*n
section
variable {n:Nat} {t:Aq} {x:AL}
theorem AR.nd(h:AR n t x):x.all.Nodup:=by
 obtain ⟨r,_,hr⟩:=h.rg;have:=hr.nd;rw [afl] at this;exact this
theorem AR.kl(h:AR n t x):∀k∈x.all,k.length≤64:=by
 obtain ⟨r,_,hr⟩:=h.rg;have:=hr.kl;rw [afl] at this;exact this
theorem mem_all{x:AL}{k:Str}: k∈x.all↔k∈x.a∨k∈x.b∨k∈x.c∨k∈x.d:=by unfold AL.all;simp
theorem mem_kept{x:AL}{k:Str}: k∈x.kept↔k∈x.a∨k∈x.b:=by unfold AL.kept;simp
theorem all_dj{x:AL}(h:x.all.Nodup):x.a.Nodup∧x.b.Nodup∧x.c.Nodup∧x.d.Nodup∧(∀k∈x.a,k∉x.b∧k∉x.c∧k∉x.d)∧(∀k∈x.b,k∉x.c∧k∉x.d)∧∀k∈x.c,k∉x.d:=by
 unfold AL.all at h
 rw [List.nodup_append,List.nodup_append,List.nodup_append] at h
 obtain ⟨h1,⟨h2,⟨h3,h4,h5⟩,h6⟩,h7⟩:=h
 refine ⟨h1,h2,h3,h4,fun k hk=>⟨fun q=>h7 k hk k (by simp [q]) rfl,fun q=>h7 k hk k (by simp [q]) rfl,fun q=>h7 k hk k (by simp [q]) rfl⟩,fun k hk=>⟨fun q=>h6 k hk k (by simp [q]) rfl,fun q=>h6 k hk k (by simp [q]) rfl⟩,fun k hk q=>h5 k hk k q rfl⟩
theorem AR.knd(h:AR n t x):x.kept.Nodup:=by
 obtain ⟨h1,h2,_,_,h3,_⟩:=all_dj h.nd
 unfold AL.kept
 rw [List.nodup_append]
 exact ⟨h1,h2,fun k hk q hq=>fun e=>(h3 k hk).1 (e▸hq)⟩
theorem AR.Has(h:AR n t x)(k:Str):DL t k=some (decide (k∈x.kept)):=by
 obtain ⟨r,hr,hR⟩:=h.rg
 obtain ⟨_,_,_,_,d1,d2,d3⟩:=all_dj h.nd
 unfold DL
 rw [hr,om_some]
 by_cases ha:k∈x.a
 ·rw [hR.in_some (i:=0) rfl ha,ob_];simp [mem_kept,ha]
 ·by_cases hb:k∈x.b
  ·rw [hR.in_some (i:=1) rfl hb,ob_];simp [mem_kept,hb]
  ·by_cases hc:k∈x.c
   ·rw [hR.in_some (i:=2) rfl hc,ob_];simp [mem_kept,ha,hb]
   ·by_cases hd:k∈x.d
    ·rw [hR.in_some (i:=3) rfl hd,ob_];simp [mem_kept,ha,hb]
    ·rw [hR.in_none (by rw [afl,mem_all];simp [ha,hb,hc,hd]),ob_];simp [mem_kept,ha,hb]
theorem AR.Len(h:AR n t x):CG t=some ((x.a.length+x.b.length:Nat):Int):=by
 obtain ⟨r,hr,hR⟩:=h.rg
 have:=h.b1
 have:=h.n2
 have l0:=hR.Len (i:=0) (l:=x.a) rfl
 have l1:=hR.Len (i:=1) (l:=x.b) rfl
 unfold CG
 rw [hr,om_some,show Aw r 0=_ from l0,ob_,show Aw r 1=_ from l1,ob_,i64s _ (by omega) (by omega)]
 congr 1
theorem AR.front(h:AR n t x){r:Aj}(hR:RR 4 (2*n+1) r x.L){k:Str}(h64:k.length≤64){j:Nat}(hj:j<4):∃r',Ax r (j:Int) k=some (true,r')∧RR 4 (2*n+1) r' (frK x.L j k):=by
 have:=h.n2
 have:=h.b3
 exact hR.frontA (by omega) h64 (.inr (by rw [afl];unfold AL.all;simp;omega)) hj
theorem AR.touch(h:AR n t x){k:Str}(hk:k∈x.kept):∃t' x',B5 t k=some (true,t')∧AR n t' x'∧x'.kept.Perm x.kept:=by
 obtain ⟨r,hr,hR⟩:=h.rg
 obtain ⟨na,nb,nc,nd,d1,d2,d3⟩:=all_dj h.nd
 have hall:k∈x.all:=mem_all.2 ((mem_kept.1 hk).imp id .inl)
 obtain ⟨r',e,hR'⟩:=h.front hR (h.kl k hall) (j:=1) (by omega)
 have hR':RR 4 (2*n+1) r' (x.fr1 k).L:=hR'
 unfold B5
 rw [h.Has,ob_,if_neg (by simp [hk]),hr,om_some,show Ax r 1 k=_ from e,ob_]
 have lc:=rm_le x.c k
 have ld:=rm_le x.d k
 have b1:=h.b1;have b2:=h.b2;have b3:=h.b3
 have la:=rm_le x.a k
 have hs:(TL.rm x.a k).length+(TL.rm x.b k).length+1=x.a.length+x.b.length:=by
  rcases mem_kept.1 hk with q | q
  ·have:=rm_len na q;rw [rm_no (d1 k q).1];omega
  ·have:=rm_len nb q;rw [rm_no (fun z=>(d1 k z).1 q)];omega
 refine ⟨_,x.fr1 k,rfl,⟨h.n1,h.n2,h.ms,h.tg,⟨r',rfl,hR'⟩,?_,?_,?_⟩,?_⟩
 ·show (TL.rm x.a k).length+(k::TL.rm x.b k).length≤n;simp;omega
 ·show (TL.rm x.a k).length+(TL.rm x.c k).length≤n;omega
 ·show (TL.rm x.a k).length+(k::TL.rm x.b k).length+(TL.rm x.c k).length+(TL.rm x.d k).length≤2*n;simp;omega
 ·refine List.Perm.trans ?_ (rm_perm h.knd hk).symm
  show (TL.rm x.a k++k::TL.rm x.b k).Perm _
  unfold AL.kept;rw [rm_app]
  exact List.perm_middle
theorem AR.touch_no(h:AR n t x){k:Str}(hk:k∉x.kept):B5 t k=some (false,t):=by
 unfold B5
 rw [h.Has,ob_,if_pos (by simp [hk])]
theorem AR.gone(h:AR n t x){r:Aj}{k:Str}(hR:RR 4 (2*n+1) r (x.drop k).L):AR n ⟨t.most,t.target,some r⟩ (x.drop k):=by
 have la:=rm_le x.a k;have lb:=rm_le x.b k;have lc:=rm_le x.c k;have ld:=rm_le x.d k
 have b1:=h.b1;have b2:=h.b2;have b3:=h.b3
 refine ⟨h.n1,h.n2,h.ms,h.tg,⟨r,rfl,hR⟩,?_,?_,?_⟩
 ·show (TL.rm x.a k).length+(TL.rm x.b k).length≤n;omega
 ·show (TL.rm x.a k).length+(TL.rm x.c k).length≤n;omega
 ·show (TL.rm x.a k).length+(TL.rm x.b k).length+(TL.rm x.c k).length+(TL.rm x.d k).length≤2*n;omega
theorem drop_kept(x:AL)(k:Str):(x.drop k).kept=TL.rm x.kept k:=by unfold AL.drop AL.kept;rw [rm_app]
theorem AR.remove(h:AR n t x)(k:Str):∃t',DD t k=some (decide (k∈x.kept),t')∧AR n t' (x.drop k):=by
 obtain ⟨r,hr,hR⟩:=h.rg
 have:=h.n2
 obtain ⟨r',e,hR'⟩:=hR.dropA (by omega) (by omega) k
 unfold DD
 rw [h.Has,ob_,hr,om_some,e,ob_]
 exact ⟨_,rfl,h.gone (x:=x) hR'⟩
theorem AR.replace(h:AR n t x)(w:Bool)(hne:x.kept≠[]):∃o t' x',Bq t w=some ([o],t')∧AR n t' x'∧o∈x.kept∧x'.kept.Perm (TL.rm x.kept o) ∧
  x'.a.length+x'.b.length+1=x.a.length+x.b.length∧x'.a.length+x'.c.length≤x.a.length+x.c.length∧x'.a.length+x'.b.length+x'.c.length+x'.d.length=x.a.length+x.b.length+x.c.length+x.d.length∧∀k,k∈x'.all↔k∈x.all:=by
 obtain ⟨r,hr,hR⟩:=h.rg
 obtain ⟨na,nb,nc,nd,d1,d2,d3⟩:=all_dj h.nd
 have b1:=h.b1;have b2:=h.b2;have b3:=h.b3;have hn:=h.n2
 have l0:=hR.Len (i:=0) (l:=x.a) rfl
 have l1:=hR.Len (i:=1) (l:=x.b) rfl
 have k0:=hR.BackA (i:=0) (l:=x.a) rfl
 have k1:=hR.BackA (i:=1) (l:=x.b) rfl
 have A:x.a≠[]→∃o t' x',((AF r 0).bind fun r21=>if !r21.2 then some ([],t) else (Ax r 2 r21.1).bind fun r25=>some ([r21.1],(⟨t.most,t.target,(some r25.2)⟩:Aq)))=some ([o],t')∧AR n t' x'∧o∈x.kept∧x'.kept.Perm (TL.rm x.kept o) ∧
   x'.a.length+x'.b.length+1=x.a.length+x.b.length∧x'.a.length+x'.c.length≤x.a.length+x.c.length∧x'.a.length+x'.b.length+x'.c.length+x'.d.length=x.a.length+x.b.length+x.c.length+x.d.length∧∀k,k∈x'.all↔k∈x.all:=by
  intro hna
  have om:=List.getLast_mem hna
  rw [List.getLast?_eq_some_getLast hna] at k0
  generalize x.a.getLast hna=o at k0 om
  have oall:o∈x.all:=mem_all.2 (.inl om)
  obtain ⟨r',e,hR'⟩:=h.front hR (h.kl o oall) (j:=2) (by omega)
  have hR':RR 4 (2*n+1) r' (x.fr2 o).L:=hR'
  have ra:=rm_len na om
  have rb:TL.rm x.b o=x.b:=rm_no (d1 o om).1
  have rc:TL.rm x.c o=x.c:=rm_no (d1 o om).2.1
  have rd:TL.rm x.d o=x.d:=rm_no (d1 o om).2.2
  rw [show AF r 0=_ from k0,ob_,if_neg (by simp),show Ax r 2 o=_ from e,ob_]
  have e2:x.fr2 o=⟨TL.rm x.a o,x.b,o::x.c,x.d⟩:=by unfold AL.fr2;rw [rb,rc,rd]
  rw [e2] at hR'
  refine ⟨o,_,⟨TL.rm x.a o,x.b,o::x.c,x.d⟩,rfl,⟨h.n1,h.n2,h.ms,h.tg,⟨r',rfl,hR'⟩,?_,?_,?_⟩,mem_kept.2 (.inl om),?_,?_,?_,?_,fun k =>?_⟩
  ·dsimp only;omega
  ·simp only [List.length_cons];omega
  ·simp only [List.length_cons];omega
  ·show (TL.rm x.a o++x.b).Perm _
   unfold AL.kept;rw [rm_app,rb]
  ·dsimp only;omega
  ·simp only [List.length_cons];omega
  ·simp only [List.length_cons];omega
  ·rw [mem_all,mem_all]
   simp only [List.mem_cons,rm_mem]
   by_cases ek:k=o
   ·subst ek;simp [om]
   ·simp [ek]
 have B:x.b≠[]→∃o t' x',((AF r 1).bind fun r21=>if !r21.2 then some ([],t) else (Ax r 3 r21.1).bind fun r25=>some ([r21.1],(⟨t.most,t.target,(some r25.2)⟩:Aq)))=some ([o],t')∧AR n t' x'∧o∈x.kept∧x'.kept.Perm (TL.rm x.kept o) ∧
   x'.a.length+x'.b.length+1=x.a.length+x.b.length∧x'.a.length+x'.c.length≤x.a.length+x.c.length∧x'.a.length+x'.b.length+x'.c.length+x'.d.length=x.a.length+x.b.length+x.c.length+x.d.length∧∀k,k∈x'.all↔k∈x.all:=by
  intro hnb
  have om:=List.getLast_mem hnb
  rw [List.getLast?_eq_some_getLast hnb] at k1
  generalize x.b.getLast hnb=o at k1 om
  have oall:o∈x.all:=mem_all.2 (.inr (.inl om))
  obtain ⟨r',e,hR'⟩:=h.front hR (h.kl o oall) (j:=3) (by omega)
  have hR':RR 4 (2*n+1) r' (x.fr3 o).L:=hR'
  have rbl:=rm_len nb om
  have ra:TL.rm x.a o=x.a:=rm_no (fun z=>(d1 o z).1 om)
  have rc:TL.rm x.c o=x.c:=rm_no (d2 o om).1
  have rd:TL.rm x.d o=x.d:=rm_no (d2 o om).2
  rw [show AF r 1=_ from k1,ob_,if_neg (by simp),show Ax r 3 o=_ from e,ob_]
  have e2:x.fr3 o=⟨x.a,TL.rm x.b o,x.c,o::x.d⟩:=by unfold AL.fr3;rw [ra,rc,rd]
  rw [e2] at hR'
  refine ⟨o,_,⟨x.a,TL.rm x.b o,x.c,o::x.d⟩,rfl,⟨h.n1,h.n2,h.ms,h.tg,⟨r',rfl,hR'⟩,?_,?_,?_⟩,mem_kept.2 (.inr om),?_,?_,?_,?_,fun k =>?_⟩
  ·dsimp only;omega
  ·dsimp only;omega
  ·simp only [List.length_cons];omega
  ·show (x.a++TL.rm x.b o).Perm _
   unfold AL.kept;rw [rm_app,ra]
  ·dsimp only;omega
  ·dsimp only;omega
  ·simp only [List.length_cons];omega
  ·rw [mem_all,mem_all]
   simp only [List.mem_cons,rm_mem]
   by_cases ek:k=o
   ·subst ek;simp [om]
   ·simp [ek]
 unfold Bq
 rw [hr,om_some,show Aw r 0=_ from l0,ob_]
 by_cases ha:x.a=[]
 ·have hb:x.b≠[]:=by intro q;apply hne;unfold AL.kept;rw [ha,q];rfl
  rw [if_neg (by rw [ha];decide),ob_,if_neg (by decide),ob_]
  exact B hb
 ·have hap:0<x.a.length:=List.length_pos_iff.2 ha
  rw [if_pos (by simpa using hap)]
  by_cases c1:(decide (t.target<(x.a.length:Int))||(w&&((x.a.length:Int)==t.target)))=true
  ·rw [if_pos c1,ob_,ob_,if_pos rfl,ob_]
   exact A ha
  ·rw [if_neg c1,show Aw r 1=_ from l1,ob_,ob_,ob_]
   by_cases hb:x.b=[]
   ·rw [if_pos (by rw [hb];rfl),ob_]
    exact A ha
   ·have hbp:0<x.b.length:=List.length_pos_iff.2 hb
    rw [if_neg (by simp;omega),ob_]
    exact B hb
end
section
variable {n:Nat} {t:Aq} {x:AL}
theorem AR.forget2(h:AR n t x):∃t' x',B3 t 2=some t'∧AR n t' x'∧x'.a=x.a∧x'.b=x.b∧x'.d=x.d∧x'.c.length=x.c.length-1∧∀k,k∈x'.all→k∈x.all:=by
 obtain ⟨r,hr,hR⟩:=h.rg
 obtain ⟨na,nb,nc,nd,d1,d2,d3⟩:=all_dj h.nd
 have hn:=h.n2
 have k2:=hR.BackA (i:=2) (l:=x.c) rfl
 unfold B3
 rw [hr,om_some]
 by_cases hc:x.c=[]
 ·rw [hc] at k2
  rw [show AF r 2=_ from k2,ob_,if_neg (by simp)]
  exact ⟨t,x,rfl,h,rfl,rfl,rfl,by rw [hc];rfl,fun _ q=>q⟩
 ·have om:=List.getLast_mem hc
  rw [List.getLast?_eq_some_getLast hc] at k2
  generalize x.c.getLast hc=o at k2 om
  obtain ⟨r',e,hR'⟩:=hR.dropA (by omega) (by omega) o
  rw [show AF r 2=_ from k2,ob_,if_pos rfl,e,ob_]
  have rl:=rm_len nc om
  refine ⟨_,x.drop o,rfl,h.gone (x:=x) hR',rm_no (fun z=>(d1 o z).2.1 om),rm_no (fun z=>(d2 o z).1 om),rm_no (d3 o om),?_,fun k hk =>?_⟩
  ·show (TL.rm x.c o).length=_;omega
  ·rw [mem_all] at hk ⊢
   simp only [AL.drop,rm_mem] at hk
   rcases hk with q | q | q | q
   ·exact .inl q.1
   ·exact .inr (.inl q.1)
   ·exact .inr (.inr (.inl q.1))
   ·exact .inr (.inr (.inr q.1))
theorem AR.forget3(h:AR n t x):∃t' x',B3 t 3=some t'∧AR n t' x'∧x'.a=x.a∧x'.b=x.b∧x'.c=x.c∧x'.d.length=x.d.length-1∧∀k,k∈x'.all→k∈x.all:=by
 obtain ⟨r,hr,hR⟩:=h.rg
 obtain ⟨na,nb,nc,nd,d1,d2,d3⟩:=all_dj h.nd
 have hn:=h.n2
 have k2:=hR.BackA (i:=3) (l:=x.d) rfl
 unfold B3
 rw [hr,om_some]
 by_cases hc:x.d=[]
 ·rw [hc] at k2
  rw [show AF r 3=_ from k2,ob_,if_neg (by simp)]
  exact ⟨t,x,rfl,h,rfl,rfl,rfl,by rw [hc];rfl,fun _ q=>q⟩
 ·have om:=List.getLast_mem hc
  rw [List.getLast?_eq_some_getLast hc] at k2
  generalize x.d.getLast hc=o at k2 om
  obtain ⟨r',e,hR'⟩:=hR.dropA (by omega) (by omega) o
  rw [show AF r 3=_ from k2,ob_,if_pos rfl,e,ob_]
  have rl:=rm_len nd om
  refine ⟨_,x.drop o,rfl,h.gone (x:=x) hR',rm_no (fun z=>(d1 o z).2.2 om),rm_no (fun z=>(d2 o z).2 om),rm_no (fun z=>d3 o z om),?_,fun k hk =>?_⟩
  ·show (TL.rm x.d o).length=_;omega
  ·rw [mem_all] at hk ⊢
   simp only [AL.drop,rm_mem] at hk
   rcases hk with q | q | q | q
   ·exact .inl q.1
   ·exact .inr (.inl q.1)
   ·exact .inr (.inr (.inl q.1))
   ·exact .inr (.inr (.inr q.1))
def KeptA(n:Nat)(k:Str)(K K' g:List Str):Prop:=(g=[]∧K'.Perm (k::K))∨∃o,g=[o]∧(o∈K∧n≤K.length)∧K'.Perm (k::TL.rm K o)
theorem AR.fr0(h:AR n t x){k:Str}(hk:k∉x.all)(h64:k.length≤64)(b1:x.a.length+x.b.length+1≤n)(b2:x.a.length+x.c.length+1≤n)(b3:x.a.length+x.b.length+x.c.length+x.d.length+1≤2*n)(g:List Str):
  ∃t',(om t.r (none) fun x53=>(Ax x53 0 k).bind fun r61=>some (g,(⟨t.most,t.target,(some r61.2)⟩:Aq)))=some (g,t')∧AR n t' ⟨k::x.a,x.b,x.c,x.d⟩:=by
 obtain ⟨r,hr,hR⟩:=h.rg
 obtain ⟨r',e,hR'⟩:=h.front hR h64 (j:=0) (by omega)
 have hR':RR 4 (2*n+1) r' (x.fr0 k).L:=hR'
 have q:k∉x.a∧k∉x.b∧k∉x.c∧k∉x.d:=by rw [mem_all] at hk;simpa using hk
 have e2:x.fr0 k=⟨k::x.a,x.b,x.c,x.d⟩:=by unfold AL.fr0;rw [rm_no q.1,rm_no q.2.1,rm_no q.2.2.1,rm_no q.2.2.2]
 rw [e2] at hR'
 rw [hr,om_some,show Ax r 0 k=_ from e,ob_]
 refine ⟨_,rfl,⟨h.n1,h.n2,h.ms,h.tg,⟨r',rfl,hR'⟩,?_,?_,?_⟩⟩
 ·simp only [List.length_cons];omega
 ·simp only [List.length_cons];omega
 ·simp only [List.length_cons];omega
theorem AR.target(h:AR n t x){p:Int}(hp:0≤p∧p≤(n:Int)):AR n ⟨t.most,p,t.r⟩ x:=⟨h.n1,h.n2,h.ms,hp,h.rg,h.b1,h.b2,h.b3⟩
theorem tdv{a b:Nat}(hb:0<b)(ha:a≤2000):∃q:Nat,i64 ((a:Int).tdiv (b:Int))=(q:Int)∧q≤2000:=by
 refine ⟨a/b,?_,Nat.le_trans (Nat.div_le_self a b) ha⟩
 have:(a:Int).tdiv (b:Int)=((a/b:Nat):Int):=by rw [Int.tdiv_eq_ediv_of_nonneg (by omega)];exact (Int.natCast_ediv a b).symm
 have h2:a/b≤2000:=Nat.le_trans (Nat.div_le_self a b) ha
 rw [this]
 generalize a/b=q at h2 ⊢
 rw [i64s _ (by omega) (by omega)]
theorem AR.again(h:AR n t x){k:Str}(hk:k∈x.c∨k∈x.d):∃g t' x',DN t k (if k∈x.c then 2 else 3)=some (g,t')∧AR n t' x'∧KeptA n k x.kept x'.kept g:=by
 obtain ⟨r,hr,hR⟩:=h.rg
 obtain ⟨na,nb,nc,nd,d1,d2,d3⟩:=all_dj h.nd
 have b1:=h.b1;have b2:=h.b2;have b3:=h.b3;have hn:=h.n2;have hn1:=h.n1
 have tg:=h.tg
 have l2:=hR.Len (i:=2) (l:=x.c) rfl
 have l3:=hR.Len (i:=3) (l:=x.d) rfl
 have hkall:k∈x.all:=mem_all.2 (.inr (.inr hk))
 have hkn:k∉x.kept:=by
  rw [mem_kept]
  rintro (q | q)
  ·rcases hk with z | z
   ·exact (d1 k q).2.1 z
   ·exact (d1 k q).2.2 z
  ·rcases hk with z | z
   ·exact (d2 k q).1 z
   ·exact (d2 k q).2 z
 have k64:=h.kl k hkall
 have T:∃p:Int,(if ((if k∈x.c then (2:Int) else 3)==2) then if (x.c.length:Int)≠0 then some (if (i64 (t.target+(if 1<(i64 ((x.d.length:Int).tdiv (x.c.length:Int))) then i64 ((x.d.length:Int).tdiv (x.c.length:Int)) else 1)))<t.most then i64 (t.target+(if 1<(i64 ((x.d.length:Int).tdiv (x.c.length:Int))) then i64 ((x.d.length:Int).tdiv (x.c.length:Int)) else 1)) else t.most) else none
   else if (x.d.length:Int)≠0 then some (if 0<(i64 (t.target-(if 1<(i64 ((x.c.length:Int).tdiv (x.d.length:Int))) then i64 ((x.c.length:Int).tdiv (x.d.length:Int)) else 1))) then i64 (t.target-(if 1<(i64 ((x.c.length:Int).tdiv (x.d.length:Int))) then i64 ((x.c.length:Int).tdiv (x.d.length:Int)) else 1)) else 0) else none)=some p∧0≤p∧p≤(n:Int):=by
  by_cases hc:k∈x.c
  ·have hcp:0<x.c.length:=List.length_pos_of_mem hc
   rw [if_pos hc,if_pos (show ((2:Int)==2)=true from rfl),if_pos (show (x.c.length:Int)≠0 by omega)]
   obtain ⟨q,hq,hq2⟩:=tdv (a:=x.d.length) hcp (by omega)
   rw [hq,h.ms]
   have hs:∃s:Nat,(if (1:Int)<(q:Int) then (q:Int) else 1)=(s:Int)∧s≤2001∧1≤s:=by
    split
    ·exact ⟨q,rfl,by omega,by omega⟩
    ·exact ⟨1,rfl,by omega,by omega⟩
   obtain ⟨s,hs,hs2,hs3⟩:=hs
   rw [hs,i64s _ (by omega) (by omega)]
   refine ⟨_,rfl,?_,?_⟩ <;> split <;> omega
  ·have hd:=hk.resolve_left hc
   have hdp:0<x.d.length:=List.length_pos_of_mem hd
   rw [if_neg hc,if_neg (show ¬((3:Int)==2)=true by decide),if_pos (show (x.d.length:Int)≠0 by omega)]
   obtain ⟨q,hq,hq2⟩:=tdv (a:=x.c.length) hdp (by omega)
   rw [hq]
   have hs:∃s:Nat,(if (1:Int)<(q:Int) then (q:Int) else 1)=(s:Int)∧s≤2001∧1≤s:=by
    split
    ·exact ⟨q,rfl,by omega,by omega⟩
    ·exact ⟨1,rfl,by omega,by omega⟩
   obtain ⟨s,hs,hs2,hs3⟩:=hs
   rw [hs,i64s _ (by omega) (by omega)]
   refine ⟨_,rfl,?_,?_⟩ <;> split <;> omega
 obtain ⟨p,hp,hp2⟩:=T
 have FR:∀(t':Aq) (x':AL) (g:List Str),AR n t' x'→k∈x'.all→k∉x'.kept→x'.a.length+x'.b.length+1≤n→∃t'' x'',(om t'.r (none) fun x30=>(Ax x30 1 k).bind fun r38=>some (g,(⟨t'.most,t'.target,(some r38.2)⟩:Aq)))=some (g,t'')∧AR n t'' x''∧x''.kept.Perm (k::x'.kept):=by
  intro t' x' g h' hm hkk hb
  obtain ⟨r1,hr1,hR1⟩:=h'.rg
  obtain ⟨r',e,hR'⟩:=h'.front hR1 k64 (j:=1) (by omega)
  have hR':RR 4 (2*n+1) r' (x'.fr1 k).L:=hR'
  obtain ⟨na',nb',nc',nd',_,_,d3'⟩:=all_dj h'.nd
  have qa:k∉x'.a:=fun z=>hkk (mem_kept.2 (.inl z))
  have qb:k∉x'.b:=fun z=>hkk (mem_kept.2 (.inr z))
  have qcd:k∈x'.c∨k∈x'.d:=by rw [mem_all] at hm;simpa [qa,qb] using hm
  rw [hr1,om_some,show Ax r1 1 k=_ from e,ob_]
  have lc:=rm_le x'.c k
  have ld:=rm_le x'.d k
  have c3:=h'.b3;have c2:=h'.b2
  have hs:(TL.rm x'.c k).length+(TL.rm x'.d k).length+1=x'.c.length+x'.d.length:=by
   rcases qcd with q | q
   ·have:=rm_len nc' q;rw [rm_no (d3' k q)];omega
   ·have:=rm_len nd' q;rw [rm_no (fun z=>d3' k z q)];omega
  refine ⟨_,x'.fr1 k,rfl,⟨h'.n1,h'.n2,h'.ms,h'.tg,⟨r',rfl,hR'⟩,?_,?_,?_⟩,?_⟩
  ·show (TL.rm x'.a k).length+(k::TL.rm x'.b k).length≤n;rw [rm_no qa,rm_no qb];simp;omega
  ·show (TL.rm x'.a k).length+(TL.rm x'.c k).length≤n;rw [rm_no qa];omega
  ·show (TL.rm x'.a k).length+(k::TL.rm x'.b k).length+(TL.rm x'.c k).length+(TL.rm x'.d k).length≤2*n;rw [rm_no qa,rm_no qb];simp;omega
  ·show (TL.rm x'.a k++k::TL.rm x'.b k).Perm _
   rw [rm_no qa,rm_no qb];exact List.perm_middle
 unfold DN
 rw [hr,om_some,show Aw r 2=_ from l2,ob_,show Aw r 3=_ from l3,ob_,hp,ob_]
 have hT:=h.target hp2
 rw [hr] at hT
 rw [hT.Len,ob_,h.ms]
 rw [h.ms] at hT
 by_cases c1:n≤x.a.length+x.b.length
 ·rw [if_pos (by simp;omega)]
  have hne:x.kept≠[]:=by intro q;have:=congrArg List.length q;unfold AL.kept at this;simp at this;rw [this.1,this.2] at c1;simp at c1;omega
  obtain ⟨o,t',x',e,h',om,pm,e1,e2,e3,e4⟩:=hT.replace ((if k∈x.c then (2:Int) else 3)==3) hne
  rw [e,ob_,ob_]
  dsimp only
  obtain ⟨t'',x'',ef,h'',pf⟩:=FR t' x' [o] h' ((e4 k).2 hkall) (fun z=>hkn (rm_mem.1 (pm.subset z)).1) (by omega)
  exact ⟨[o],t'',x'',ef,h'',.inr ⟨o,rfl,⟨om,by unfold AL.kept;simp;omega⟩,pf.trans (pm.cons k)⟩⟩
 ·rw [if_neg (by simp;omega),ob_]
  dsimp only
  obtain ⟨t'',x'',ef,h'',pf⟩:=FR _ x [] hT hkall hkn (by omega)
  exact ⟨[],t'',x'',ef,h'',.inl ⟨rfl,pf⟩⟩
theorem AR.insert(h:AR n t x){k:Str}(hk:k∉x.kept)(h64:k.length≤64):∃g t' x',CJ t k=some (g,t')∧AR n t' x'∧KeptA n k x.kept x'.kept g:=by
 have hh:=h
 obtain ⟨r,hr,hR⟩:=h.rg
 obtain ⟨na,nb,nc,nd,d1,d2,d3⟩:=all_dj h.nd
 have b1:=h.b1;have b2:=h.b2;have b3:=h.b3;have hn:=h.n2;have hn1:=h.n1
 have l0:=hR.Len (i:=0) (l:=x.a) rfl
 have l1:=hR.Len (i:=1) (l:=x.b) rfl
 have l2:=hR.Len (i:=2) (l:=x.c) rfl
 have l3:=hR.Len (i:=3) (l:=x.d) rfl
 have et:(⟨t.most,t.target,some r⟩:Aq)=t:=by rw [←hr]
 unfold CJ
 rw [if_neg (by simp;omega),h.touch_no hk,ob_,ob_,if_neg (by simp)]
 dsimp only
 rw [hr,om_some,et]
 by_cases hcd:k∈x.c∨k∈x.d
 ·have hin:BK r k=some ((if k∈x.c then (2:Int) else 3),true):=by
   by_cases hc:k∈x.c
   ·rw [if_pos hc];exact hR.in_some (i:=2) rfl hc
   ·rw [if_neg hc];exact hR.in_some (i:=3) rfl (hcd.resolve_left hc)
  rw [hin,ob_,if_pos rfl]
  obtain ⟨g,t',x',e,h',hK⟩:=h.again hcd
  rw [e,ob_]
  exact ⟨g,t',x',rfl,h',hK⟩
 ·have hall:k∉x.all:=by rw [mem_all];rw [mem_kept] at hk;simp only [not_or] at hk hcd ⊢;exact ⟨hk.1,hk.2,hcd.1,hcd.2⟩
  rw [hR.in_none (by rw [afl];exact hall),ob_,if_neg (by simp),show Aw r 0=_ from l0,ob_,show Aw r 2=_ from l2,ob_,show Aw r 1=_ from l1,ob_,show Aw r 3=_ from l3,ob_]
  have s1:i64 ((x.a.length:Int)+(x.c.length:Int))=((x.a.length+x.c.length:Nat):Int):=by rw [i64s _ (by omega) (by omega)];omega
  have s2:i64 (((x.a.length+x.c.length:Nat):Int)+(x.b.length:Int))=((x.a.length+x.c.length+x.b.length:Nat):Int):=by rw [i64s _ (by omega) (by omega)];omega
  have s3:i64 (((x.a.length+x.c.length+x.b.length:Nat):Int)+(x.d.length:Int))=((x.a.length+x.c.length+x.b.length+x.d.length:Nat):Int):=by rw [i64s _ (by omega) (by omega)];omega
  have s4:i64 (2*(n:Int))=((2*n:Nat):Int):=by rw [i64s _ (by omega) (by omega)];omega
  rw [s1,s2,s3,h.ms,s4]
  have RP:∀(t1:Aq) (x1:AL),AR n t1 x1→k∉x1.all→x1.a=x.a→x1.b=x.b→x1.a.length+x1.c.length+1≤n→x1.a.length+x1.b.length+x1.c.length+x1.d.length+1≤2*n →
    ∃g t2 x2,((CG t1).bind fun r76=>Option.bind (if decide (t1.most≤r76) then (Bq t1 false).bind fun r89=>some (r89.1,r89.2) else some ([],t1)) fun p78=>some (p78.1,p78.2))=some (g,t2)∧AR n t2 x2∧k∉x2.all∧x2.a.length+x2.b.length+1≤n∧x2.a.length+x2.c.length+1≤n∧x2.a.length+x2.b.length+x2.c.length+x2.d.length+1≤2*n ∧
     ((g=[]∧x2.kept=x.kept)∨∃o,g=[o]∧(o∈x.kept∧n≤x.kept.length)∧x2.kept.Perm (TL.rm x.kept o)):=by
   intro t1 x1 h1 hk1 ea eb q2 q3
   have ek:x1.kept=x.kept:=by unfold AL.kept;rw [ea,eb]
   rw [h1.Len,ob_,h1.ms]
   by_cases c1:n≤x1.a.length+x1.b.length
   ·rw [if_pos (by simp;omega)]
    have hne:x1.kept≠[]:=by intro q;have:=congrArg List.length q;unfold AL.kept at this;simp at this;rw [this.1,this.2] at c1;simp at c1;omega
    obtain ⟨o,t',x',e,h',om,pm,e1,e2,e3,e4⟩:=h1.replace false hne
    rw [e,ob_,ob_]
    have c2:=h1.b1
    exact ⟨[o],t',x',rfl,h',fun z=>hk1 ((e4 k).1 z),by omega,by omega,by omega,.inr ⟨o,rfl,⟨ek▸om,by unfold AL.kept;rw [←ea,←eb];simp;omega⟩,ek▸pm⟩⟩
   ·rw [if_neg (by simp;omega),ob_]
    exact ⟨[],t1,x1,rfl,h1,hk1,by omega,q2,q3,.inl ⟨rfl,ek⟩⟩
  have FIN:∀(g:List Str) (t2:Aq) (x2:AL),AR n t2 x2→k∉x2.all→x2.a.length+x2.b.length+1≤n→x2.a.length+x2.c.length+1≤n→x2.a.length+x2.b.length+x2.c.length+x2.d.length+1≤2*n →
    ((g=[]∧x2.kept=x.kept)∨∃o,g=[o]∧(o∈x.kept∧n≤x.kept.length)∧x2.kept.Perm (TL.rm x.kept o)) →
    ∃g' t' x',(om t2.r (none) fun x53=>(Ax x53 0 k).bind fun r61=>some (g,(⟨t2.most,t2.target,(some r61.2)⟩:Aq)))=some (g',t')∧AR n t' x'∧KeptA n k x.kept x'.kept g':=by
   intro g t2 x2 h2 k2 q1 q2 q3 hg
   obtain ⟨t',e,h'⟩:=h2.fr0 k2 h64 q1 q2 q3 g
   refine ⟨g,t',_,e,h',?_⟩
   show KeptA n k x.kept ((k::x2.a)++x2.b) g
   rcases hg with ⟨rfl,e1⟩ | ⟨o,rfl,e1,e2⟩
   ·exact .inl ⟨rfl,by rw [←e1];exact List.Perm.refl _⟩
   ·exact .inr ⟨o,rfl,e1,e2.cons k⟩
  by_cases c1:n≤x.a.length+x.c.length
  ·rw [if_pos (by simp;omega),ob_]
   by_cases c2:x.a.length<n
   ·
    rw [if_pos (by simp;omega)]
    obtain ⟨t1,x1,e1,h1,ea,eb,ed,ec,em⟩:=h.forget2
    rw [e1,ob_]
    obtain ⟨g,t2,x2,e2,h2,k2,q1,q2,q3,hg⟩:=RP t1 x1 h1 (fun z=>hall (em k z)) ea eb (by rw [ea,ec];omega) (by rw [ea,eb,ed,ec];omega)
    rw [e2,ob_]
    exact FIN g t2 x2 h2 k2 q1 q2 q3 hg
   ·
    have hlen:x.a.length=n:=by omega
    have hc0:x.c=[]:=List.length_eq_zero_iff.1 (by omega)
    have hb0:x.b=[]:=List.length_eq_zero_iff.1 (by omega)
    have hna:x.a≠[]:=by intro q;rw [q] at hlen;simp at hlen;omega
    have k0:=hR.BackA (i:=0) (l:=x.a) rfl
    have om:=List.getLast_mem hna
    rw [List.getLast?_eq_some_getLast hna] at k0
    generalize x.a.getLast hna=o at k0 om
    rw [if_neg (by simp;omega),if_pos (by simp;omega),show AF r 0=_ from k0,ob_]
    obtain ⟨r',e,hR'⟩:=hR.dropA (by omega) (by omega) o
    dsimp only
    rw [e,ob_,ob_,ob_]
    have h2:=h.gone (x:=x) hR'
    rw [h.ms] at h2
    have rl:=rm_len na om
    refine FIN [o] _ (x.drop o) h2 (fun z=>hall ?_) ?_ ?_ ?_ (.inr ⟨o,rfl,⟨mem_kept.2 (.inl om),by unfold AL.kept;simp;omega⟩,by rw [drop_kept]⟩)
    ·rw [mem_all] at z ⊢
     simp only [AL.drop,rm_mem] at z
     rcases z with q | q | q | q
     ·exact .inl q.1
     ·exact .inr (.inl q.1)
     ·exact .inr (.inr (.inl q.1))
     ·exact .inr (.inr (.inr q.1))
    ·show (TL.rm x.a o).length+(TL.rm x.b o).length+1≤n;have:=rm_le x.b o;omega
    ·show (TL.rm x.a o).length+(TL.rm x.c o).length+1≤n;have:=rm_le x.c o;omega
    ·show (TL.rm x.a o).length+(TL.rm x.b o).length+(TL.rm x.c o).length+(TL.rm x.d o).length+1≤2*n
     have:=rm_le x.b o;have:=rm_le x.c o;have:=rm_le x.d o;omega
  ·rw [if_neg (by simp;omega),ob_,if_neg (by simp),if_neg (by simp;omega)]
   by_cases c3:n≤x.a.length+x.c.length+x.b.length+x.d.length
   ·rw [if_pos (by simp;omega)]
    by_cases c4:2*n≤x.a.length+x.c.length+x.b.length+x.d.length
    ·rw [if_pos (by simp;omega)]
     obtain ⟨t1,x1,e1,h1,ea,eb,ec,ed,em⟩:=h.forget3
     rw [e1,ob_,ob_]
     obtain ⟨g,t2,x2,e2,h2,k2,q1,q2,q3,hg⟩:=RP t1 x1 h1 (fun z=>hall (em k z)) ea eb (by rw [ea,ec];omega) (by rw [ea,eb,ed,ec];omega)
     rw [e2,ob_,ob_,ob_]
     exact FIN g t2 x2 h2 k2 q1 q2 q3 hg
    ·rw [if_neg (by simp;omega),ob_]
     obtain ⟨g,t2,x2,e2,h2,k2,q1,q2,q3,hg⟩:=RP t x h hall rfl rfl (by omega) (by omega)
     rw [e2,ob_,ob_,ob_]
     exact FIN g t2 x2 h2 k2 q1 q2 q3 hg
   ·rw [if_neg (by simp;omega),ob_,ob_,ob_]
    exact FIN [] t x h hall (by omega) (by omega) (by omega) (.inl ⟨rfl,rfl⟩)
theorem AR.insert_yes(h:AR n t x){k:Str}(hk:k∈x.kept):∃t' x',CJ t k=some ([],t')∧AR n t' x'∧x'.kept.Perm x.kept:=by
 obtain ⟨t',x',e,h1,h2⟩:=h.touch hk
 have h64:=h.kl k (mem_all.2 ((mem_kept.1 hk).imp id .inl))
 unfold CJ
 rw [if_neg (by simp;omega),e,ob_,ob_,if_pos rfl]
 exact ⟨t',x',rfl,h1,h2⟩
theorem AR.evict(h:AR n t x):(x.kept=[]∧DC t=some ([],false,t))∨∃o t' x',DC t=some (o,true,t')∧AR n t' x'∧o∈x.kept∧x'.kept.Perm (TL.rm x.kept o):=by
 unfold DC
 rw [h.Len,ob_]
 by_cases hk:x.kept=[]
 ·have:=congrArg List.length hk
  unfold AL.kept at this
  simp at this
  rw [this.1,this.2]
  exact .inl ⟨hk,rfl⟩
 ·have:x.a.length+x.b.length≠0:=by
   intro q;apply hk;unfold AL.kept
   rw [List.length_eq_zero_iff.1 (show x.a.length=0 by omega),List.length_eq_zero_iff.1 (show x.b.length=0 by omega)];rfl
  rw [if_neg (by simp;omega)]
  obtain ⟨o,t',x',e,h',om,pm,_⟩:=h.replace false hk
  rw [e,ob_]
  exact .inr ⟨o,t',x',rfl,h',om,pm⟩
end
theorem new_a(n:Nat)(h1:1≤n)(h2:n≤1000):∃t,Eb (n:Int)=some (some t,0)∧AR n t ⟨[],[],[],[]⟩:=by
 obtain ⟨r,e,hR⟩:=new_ok 4 (2*n+1) (by omega) (by omega) (by omega)
 have e1:i64 (2*(n:Int))=((2*n:Nat):Int):=by rw [i64s _ (by omega) (by omega)];omega
 have e2:i64 (((2*n:Nat):Int)+1)=((2*n+1:Nat):Int):=by rw [i64s _ (by omega) (by omega)];omega
 unfold Eb
 rw [if_neg (by simp;omega),e1,e2,show DZ 4 ((2*n+1:Nat):Int)=_ from e,ob_]
 exact ⟨_,rfl,h1,h2,rfl,⟨by simp,by simp⟩,⟨r,rfl,hR⟩,by simp,by simp,by simp⟩
end Go.Proofs.YtpanhdnglicknaaGreat.Pure
