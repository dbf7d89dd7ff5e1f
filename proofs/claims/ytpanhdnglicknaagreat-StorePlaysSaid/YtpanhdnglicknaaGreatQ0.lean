import Derived.Test.YtpanhdnglicknaaGreatW5
set_option linter.unusedVariables false
set_option linter.unusedSectionVars false
set_option linter.unusedSimpArgs false
set_option maxRecDepth 100000
set_option maxHeartbeats 4000000
namespace Go.Proofs.YtpanhdnglicknaaGreat.Pure
open Go Go.Proofs.YtpanhdnglicknaaGreat.Hw Go.Proofs.YtpanhdnglicknaaGreat
theorem shr_nat(a:UInt64)(n:Int)(k:Nat)(h:min n.toNat 64=k):(shWr a n).toNat=a.toNat/2^k:=by
 unfold shWr
 rw [h,UInt64.toNat_ofNat',Nat.mod_eq_of_lt (Nat.lt_of_le_of_lt (Nat.div_le_self _ _) a.toNat_lt)]
theorem shl_nat(a:UInt64)(n:Int)(k:Nat)(h:min n.toNat 64=k):(shWl a n).toNat=a.toNat*2^k%2^64:=by
 unfold shWl
 rw [h,UInt64.toNat_ofNat']
theorem c32:(4294967296:UInt64).toNat=4294967296:=by decide
theorem shr32(a:UInt64):shWr a ((32:UInt64).toNat:Int)=a/4294967296:=by
 apply UInt64.toNat_inj.1
 rw [shr_nat a _ 32 (by decide),UInt64.toNat_div,c32]
theorem and32(a:UInt64):a &&& 4294967295=a%4294967296:=by
 apply UInt64.toNat_inj.1
 have e:(4294967295:UInt64).toNat=2^32-1:=by decide
 rw [UInt64.toNat_and,UInt64.toNat_mod,c32,e,Nat.and_two_pow_sub_one_eq_mod]
theorem rot_alg(n p q:Nat)(hp:0<p)(hq:0<q)(hn:n<2*(p*q)):
  ((n*p%(2*(p*q))+n/(2*q))*2)%(2*(p*q))+(n*p%(2*(p*q))+n/(2*q))/(p*q)=n*(2*p)%(2*(p*q))+n/q:=by
 have h1:=Nat.div_add_mod n (2*q)
 have hb:=Nat.mod_lt n (show 0<2*q by omega)
 have ha:n/(2*q)<p:=Nat.div_lt_of_lt_mul (by rw [show 2*q*p=2*(p*q) by rw [Nat.mul_assoc,Nat.mul_comm q p]];exact hn)
 generalize n/(2*q)=a at *
 generalize n%(2*q)=b at *
 have h2:=Nat.div_add_mod b q
 have hd:=Nat.mod_lt b hq
 have hc:b/q<2:=Nat.div_lt_of_lt_mul (by rw [Nat.mul_comm];exact hb)
 generalize b/q=c at *
 generalize b%q=d at *
 subst h2
 subst h1
 have e1:(2*q*a+(q*c+d))*p=2*(p*q)*a+(q*c+d)*p:=by
  rw [Nat.add_mul];congr 1
  rw [Nat.mul_assoc 2 q a,Nat.mul_assoc 2,Nat.mul_assoc 2 (p*q),Nat.mul_comm p q,Nat.mul_assoc q a p,Nat.mul_comm a p,Nat.mul_assoc q p a]
 have hbp:(q*c+d)*p<2*(p*q):=by
  have:(q*c+d+1)*p≤2*q*p:=Nat.mul_le_mul_right _ hb
  rw [Nat.add_mul,Nat.one_mul] at this
  rw [show 2*(p*q)=2*q*p by rw [Nat.mul_assoc,Nat.mul_comm q p]]
  omega
 rw [e1,Nat.mul_add_mod,Nat.mod_eq_of_lt hbp]
 have hda:d*p+a<p*q:=by
  have:(d+1)*p≤q*p:=Nat.mul_le_mul_right _ hd
  rw [Nat.add_mul,Nat.one_mul,Nat.mul_comm q p] at this
  omega
 have e2:(q*c+d)*p+a=p*q*c+(d*p+a):=by
  rw [Nat.add_mul,Nat.add_assoc];congr 1
  rw [Nat.mul_comm q c,Nat.mul_assoc,Nat.mul_comm q p,Nat.mul_comm]
 have hpq:0<p*q:=Nat.mul_pos hp hq
 rw [e2,Nat.mul_add_div hpq,Nat.div_eq_of_lt hda]
 have e3:(p*q*c+(d*p+a))*2=2*(p*q)*c+2*(d*p+a):=by
  rw [Nat.add_mul,Nat.mul_comm (p*q*c) 2,←Nat.mul_assoc,Nat.mul_comm (d*p+a) 2]
 rw [e3,Nat.mul_add_mod,Nat.mod_eq_of_lt (by omega)]
 have e4:(2*q*a+(q*c+d))=q*(2*a+c)+d:=by
  rw [Nat.mul_add,Nat.add_assoc];congr 1
  rw [Nat.mul_comm 2 q,Nat.mul_assoc]
 rw [e4,Nat.mul_add_div hq,Nat.div_eq_of_lt hd]
 have e5:(q*(2*a+c)+d)*(2*p)=2*(p*q)*(2*a+c)+d*(2*p):=by
  rw [Nat.add_mul];congr 1
  rw [Nat.mul_comm q,Nat.mul_assoc,Nat.mul_comm (2*a+c)]
  congr 1
  rw [←Nat.mul_assoc,Nat.mul_comm q 2,Nat.mul_assoc,Nat.mul_comm q p]
 have e6:d*(2*p)<2*(p*q):=by
  have:d*p<p*q:=by omega
  rw [Nat.mul_comm d,Nat.mul_assoc,Nat.mul_comm p d];omega
 rw [e5,Nat.mul_add_mod,Nat.mod_eq_of_lt e6,Nat.mul_comm d (2*p),Nat.mul_assoc,Nat.mul_comm p d]
 omega
def rot(k n:Nat):Nat:=n*2^k%2^64+n/2^(64-k)
theorem rot_step(n k:Nat)(hn:n<2^64)(hk:k<64):(rot k n*2)%2^64+rot k n/2^63=rot (k+1) n:=by
 have hp:0<2^k:=Nat.pow_pos (by decide)
 have hq:0<2^(63-k):=Nat.pow_pos (by decide)
 have e0:2^63=2^k*2^(63-k):=by rw [←Nat.pow_add];congr 1;omega
 have e1:(2:Nat)^64=2*(2^k*2^(63-k)):=by rw [←e0]
 have e2:(2:Nat)^(64-k)=2*2^(63-k):=by rw [show 64-k=1+(63-k) by omega,Nat.pow_add]
 have e3:64-(k+1)=63-k:=by omega
 have e4:(2:Nat)^(k+1)=2*2^k:=by rw [Nat.add_comm,Nat.pow_add]
 have:=rot_alg n (2^k) (2^(63-k)) hp hq (by rw [←e1];exact hn)
 unfold rot
 rw [e3,e4,e2,e0,e1]
 exact this
theorem rot_lt(n k:Nat)(hn:n<2^64)(hk:k<64):rot k n<2^64:=by
 have hq:0<2^(64-k):=Nat.pow_pos (by decide)
 have e1:(2:Nat)^64=2^k*2^(64-k):=by rw [←Nat.pow_add];congr 1;omega
 unfold rot
 have h1:=Nat.div_add_mod n (2^(64-k))
 have hb:=Nat.mod_lt n hq
 have ha:n/2^(64-k)<2^k:=Nat.div_lt_of_lt_mul (by rw [Nat.mul_comm,←e1];exact hn)
 rw [e1]
 generalize n/2^(64-k)=a at *
 generalize n%2^(64-k)=b at *
 generalize 2^(64-k)=q at *
 generalize 2^k=p at *
 subst h1
 have e2:(q*a+b)*p=p*q*a+b*p:=by
  rw [Nat.add_mul];congr 1
  rw [Nat.mul_comm p q,Nat.mul_assoc,Nat.mul_assoc,Nat.mul_comm a p]
 have hbp:(b+1)*p≤q*p:=Nat.mul_le_mul_right _ hb
 rw [Nat.add_mul,Nat.one_mul,Nat.mul_comm q p] at hbp
 rw [e2,Nat.mul_add_mod,Nat.mod_eq_of_lt (by omega)]
 omega
theorem turn_loop(n:UInt64):∀(f j:Nat) (m:UInt64),f=29-j+1→j≤29→m.toNat=rot j n.toNat→∃q,CS 29 f m (j:Int)=some q∧q.toNat=rot 29 n.toNat:=by
 intro f
 induction f with
 | zero=>intro j m h;omega
 | succ f ih =>
  intro j m hf hj hm
  unfold CS
  by_cases h:j<29
  ·have e:decide ((j:Int)<29)=true:=by simp;omega
   have ei:i64 ((j:Int)+1)=((j+1:Nat):Int):=by rw [i64_id] <;> omega
   rw [if_pos e,ei]
   refine ih (j+1) _ (by omega) (by omega) ?_
   have e2:(2:UInt64).toNat=2:=by decide
   have e63:(9223372036854775808:UInt64).toNat=2^63:=by decide
   have hlt:=rot_lt n.toNat j n.toNat_lt (by omega)
   have hst:=rot_step n.toNat j n.toNat_lt (by omega)
   have hlt2:=rot_lt n.toNat (j+1) n.toNat_lt (by omega)
   rw [UInt64.toNat_add,UInt64.toNat_mul,UInt64.toNat_div,e2,e63,hm,hst,Nat.mod_eq_of_lt hlt2]
  ·obtain rfl:j=29:=by omega
   rw [if_neg (by decide)]
   exact ⟨m,rfl,hm⟩
theorem turn29(n:UInt64):Dy n 29=some (Db n 29):=by
 obtain ⟨q,h1,h2⟩:=turn_loop n 30 0 n rfl (by omega) (by unfold rot;simp [Nat.mod_eq_of_lt n.toNat_lt,Nat.div_eq_of_lt n.toNat_lt])
 unfold Dy
 have h1':CS 29 (((29:Int)-0).toNat+1) n 0=some q:=h1
 rw [h1',ob_]
 congr 1
 apply UInt64.toNat_inj.1
 unfold Db
 have hl:=shl_nat n ((((toW 29) &&& 63).toNat:Nat):Int) 29 (by decide)
 have hr:=shr_nat n (((64-((toW 29) &&& 63)).toNat:Nat):Int) 35 (by decide)
 rw [h2,UInt64.toNat_or,hl,hr]
 unfold rot
 have hlt:n.toNat/2^35<2^29:=Nat.div_lt_of_lt_mul (by have:=n.toNat_lt;omega)
 have e:n.toNat*2^29%2^64=2^29*(n.toNat%2^35):=by
  rw [show (2:Nat)^64=2^29*2^35 by decide,Nat.mul_comm,Nat.mul_mod_mul_left]
 rw [e,Nat.two_pow_add_eq_or_of_lt hlt]
theorem Ej(n:UInt64):Cw n=some (Dv n):=by
 unfold Cw Dv
 rw [turn29,ob_,shr32,shr32]
theorem high_same(a b:UInt64):(D9 a b).1=BF a b:=by
 unfold D9 BF
 simp only [shr32,and32]
 rw [UInt64.add_comm (_%4294967296) (_*_)]
theorem high_lt(a b:UInt64)(hb:0<b.toNat):(BF a b).toNat<b.toNat:=by
 have key:∀x1 x0 y1 y0:Nat,x1<4294967296→x0<4294967296→y1<4294967296→y0<4294967296→0<y1*4294967296+y0 →
   x1*y0+x0*y0/4294967296<18446744073709551616∧x0*y1+(x1*y0+x0*y0/4294967296)%4294967296<18446744073709551616 ∧
   x1*y1+(x1*y0+x0*y0/4294967296)/4294967296+(x0*y1+(x1*y0+x0*y0/4294967296)%4294967296)/4294967296<y1*4294967296+y0:=by
  intro x1 x0 y1 y0 h1 h2 h3 h4 hpos
  have m1:x1*y0≤4294967295*4294967295:=Nat.mul_le_mul (by omega) (by omega)
  have m2:x0*y0≤4294967295*4294967295:=Nat.mul_le_mul (by omega) (by omega)
  have m3:x0*y1≤4294967295*4294967295:=Nat.mul_le_mul (by omega) (by omega)
  refine ⟨by omega,by omega,?_⟩
  have hxy:(x1*4294967296+x0+1)*(y1*4294967296+y0)≤18446744073709551616*(y1*4294967296+y0):=Nat.mul_le_mul_right _ (by omega)
  have hex:(x1*4294967296+x0+1)*(y1*4294967296+y0)=(x1*y1)*18446744073709551616+(x1*y0)*4294967296+(x0*y1)*4294967296+x0*y0+(y1*4294967296+y0):=by
   rw [Nat.add_mul,Nat.add_mul,Nat.one_mul,Nat.mul_add,Nat.mul_add]
   have e1:x1*4294967296*(y1*4294967296)=x1*y1*18446744073709551616:=by
    rw [Nat.mul_assoc,Nat.mul_left_comm 4294967296 y1,←Nat.mul_assoc]
   have e2:x1*4294967296*y0=x1*y0*4294967296:=by rw [Nat.mul_assoc,Nat.mul_comm 4294967296,←Nat.mul_assoc]
   have e3:x0*(y1*4294967296)=x0*y1*4294967296:=by rw [Nat.mul_assoc]
   rw [e1,e2,e3]
   omega
  rw [hex] at hxy
  generalize x1*y1=p11 at *
  generalize x1*y0=p10 at *
  generalize x0*y1=p01 at *
  generalize x0*y0=p00 at *
  omega
 have ha:=a.toNat_lt
 have hb2:=b.toNat_lt
 obtain ⟨k1,k2,k3⟩:=key (a.toNat/4294967296) (a.toNat%4294967296) (b.toNat/4294967296) (b.toNat%4294967296) (by omega) (by omega) (by omega) (by omega) (by omega)
 unfold BF
 have m11:a.toNat/4294967296*(b.toNat/4294967296)≤4294967295*4294967295:=Nat.mul_le_mul (by omega) (by omega)
 have m10:a.toNat/4294967296*(b.toNat%4294967296)≤4294967295*4294967295:=Nat.mul_le_mul (by omega) (by omega)
 have m01:a.toNat%4294967296*(b.toNat/4294967296)≤4294967295*4294967295:=Nat.mul_le_mul (by omega) (by omega)
 have m00:a.toNat%4294967296*(b.toNat%4294967296)≤4294967295*4294967295:=Nat.mul_le_mul (by omega) (by omega)
 simp only [UInt64.toNat_add,UInt64.toNat_mul,UInt64.toNat_div,UInt64.toNat_mod,c32]
 generalize a.toNat/4294967296*(b.toNat/4294967296)=p11 at *
 generalize a.toNat/4294967296*(b.toNat%4294967296)=p10 at *
 generalize a.toNat%4294967296*(b.toNat/4294967296)=p01 at *
 generalize a.toNat%4294967296*(b.toNat%4294967296)=p00 at *
 omega
theorem of_loop(s:Str)(hs:s.length≤100000):∀(n:Nat) (h:UInt64) (i:Nat),i≤s.length→n=s.length-i+1 →
  ∃q,D5 s n h (i:Int)=some q∧Da s n h (i:Int)=some q:=by
 intro n
 induction n with
 | zero=>intro h i _ h2;omega
 | succ n ih =>
  intro h i hi hn
  unfold D5 Da
  by_cases hl:i<s.length
  ·have e:decide ((i:Int)<(s.length:Int))=true:=by simp;omega
   have hg:gi s (i:Int)=some s[i]:=by
    unfold gi
    rw [if_pos (by omega)]
    exact List.getElem?_eq_getElem hl
   have ei:i64 ((i:Int)+1)=((i+1:Nat):Int):=by rw [i64_id] <;> omega
   rw [if_pos e,if_pos e,hg,ob_,ob_,ei]
   exact ih _ (i+1) (by omega) (by omega)
  ·have e:¬decide ((i:Int)<(s.length:Int))=true:=by simp;omega
   rw [if_neg e,if_neg e]
   exact ⟨h,rfl,rfl⟩
theorem of_same(seed:UInt64)(s:Str)(hs:s.length≤100000):∃q,Eh seed s=some q∧DP seed s=some q:=by
 obtain ⟨q,h1,h2⟩:=of_loop s hs (((s.length:Int)-0).toNat+1) (14695981039346656037 ^^^ (Dv seed)) 0 (by omega) (by omega)
 have h1':D5 s (((s.length:Int)-0).toNat+1) (14695981039346656037 ^^^ (Dv seed)) 0=some q:=h1
 have h2':Da s (((s.length:Int)-0).toNat+1) (14695981039346656037 ^^^ (Dv seed)) 0=some q:=h2
 refine ⟨Dv (q ^^^ (toW (s.length:Int))),?_,?_⟩
 ·unfold Eh
  rw [if_pos (by simp [maxLen];omega),h1',ob_]
 ·unfold DP
  rw [Ej,ob_,h2',ob_,Ej,ob_]
theorem lt_eq{α β:Type}(x:α)(f:α→β):lt x f=f x:=rfl
theorem i64_u(q:UInt64)(size:Nat)(h:q.toNat<size)(h2:size≤100000):i64 ((q.toNat:Nat):Int)=((q.toNat:Nat):Int):=by
 generalize q.toNat=k at h ⊢
 exact i64_id (by omega) (by omega)
theorem place_same(h:UInt64)(row:Int)(size:Nat)(h1:1≤size)(h2:size≤100000):∃p:Nat,D6 h row (size:Int)=(p:Int)∧Dt h row (size:Int)=some (p:Int)∧p<size:=by
 have hw:(toW (size:Int)).toNat=size:=by
  unfold toW
  rw [UInt64.toNat_ofNat']
  omega
 have hlt:=high_lt (Dv (h+((toW row)*11400714819323198485))) (toW (size:Int)) (by omega)
 rw [hw] at hlt
 have e:¬decide ((size:Int)<1)=true:=by simp;omega
 refine ⟨(BF (Dv (h+((toW row)*11400714819323198485))) (toW (size:Int))).toNat,?_,?_,hlt⟩
 ·unfold D6
  rw [if_neg e]
  rw [lt_eq,high_same]
  generalize (BF (Dv (h+((toW row)*11400714819323198485))) (toW (size:Int)))=q at hlt ⊢
  exact i64_u q size hlt h2
 ·unfold Dt
  rw [if_neg e,Ej,ob_]
  generalize (BF (Dv (h+((toW row)*11400714819323198485))) (toW (size:Int)))=q at hlt ⊢
  rw [i64_u q size hlt h2]
abbrev SK(w:Nat)(seed:UInt64)(a b c e:List UInt8)(d:List Bool)(n:Nat):An:=⟨(w:Int),seed,[a,b,c,e],d,(n:Int)⟩
def N8(r:List UInt8):List Int:=r.map fun x=>(x.toNat:Int)
abbrev SM(w:Nat)(seed:UInt64)(a b c e:List UInt8)(d:List Bool)(n:Nat):Ad:=⟨(w:Int),seed,[N8 a,N8 b,N8 c,N8 e],d,(n:Int)⟩
theorem N8_len(r:List UInt8):(N8 r).length=r.length:=by simp [N8]
theorem gN{α:Type}{l:List α}{p:Nat}(h:p<l.length):gi l (p:Int)=some l[p]:=by
 unfold gi
 rw [if_pos (by omega)]
 exact List.getElem?_eq_getElem h
theorem gN8{l:List UInt8}{p:Nat}(h:p<l.length):gi (N8 l) (p:Int)=some ((l[p].toNat:Nat):Int):=by
 rw [gN (by rw [N8_len];exact h)]
 simp [N8]
theorem lsN{α:Type}(l:List α)(p:Nat)(x:α):ls l (p:Int) x=l.set p x:=by
 unfold ls;rfl
theorem N8_set(l:List UInt8)(p:Nat)(x:UInt8):(N8 l).set p ((x.toNat:Nat):Int)=N8 (l.set p x):=by
 simp [N8,List.map_set]
theorem g0{α:Type}(a b c d:α):gi [a,b,c,d] 0=some a:=rfl
theorem g1{α:Type}(a b c d:α):gi [a,b,c,d] 1=some b:=rfl
theorem g2{α:Type}(a b c d:α):gi [a,b,c,d] 2=some c:=rfl
theorem g3{α:Type}(a b c d:α):gi [a,b,c,d] 3=some d:=rfl
theorem s0{α:Type}(a b c d x:α):ls [a,b,c,d] 0 x=[x,b,c,d]:=rfl
theorem s1{α:Type}(a b c d x:α):ls [a,b,c,d] 1 x=[a,x,c,d]:=rfl
theorem s2{α:Type}(a b c d x:α):ls [a,b,c,d] 2 x=[a,b,x,d]:=rfl
theorem s3{α:Type}(a b c d x:α):ls [a,b,c,d] 3 x=[a,b,c,x]:=rfl
theorem j0:i64 (0+1)=1:=by decide
theorem j1:i64 (1+1)=2:=by decide
theorem j2:i64 (2+1)=3:=by decide
theorem j3:i64 (3+1)=4:=by decide
structure At (w:Nat) (seed:UInt64) (key:Str) (i:Int) (p:Nat):Prop where
 lt:p<w
 c:∀rows d n,Bw ⟨(w:Int),seed,rows,d,n⟩ key i=some (p:Int)
 m:∀rows d n,AX ⟨(w:Int),seed,rows,d,n⟩ key i=some (p:Int)
theorem at_ex(w:Nat)(seed:UInt64)(key:Str)(i:Int)(hw:1≤w)(hw2:w≤4096)(hk:key.length≤100000):∃p,At w seed key i p:=by
 obtain ⟨q,h1,h2⟩:=of_same seed key hk
 obtain ⟨p,h3,h4,h5⟩:=place_same q i w hw (by omega)
 refine ⟨p,h5,fun rows d n =>?_,fun rows d n =>?_⟩
 ·unfold Bw
  dsimp only
  rw [h1,ob_,h3]
 ·unfold AX
  dsimp only
  rw [h2,ob_,h4,ob_]
def mn(x n:UInt8):UInt8:=if x<n then x else n
theorem mn_i(x n:UInt8):(if decide ((x.toNat:Int)<(n.toNat:Int)) then some (x.toNat:Int) else some (n.toNat:Int))=some (((mn x n).toNat:Nat):Int):=by
 unfold mn
 by_cases h:x<n
 ·rw [if_pos h,if_pos (by have:=UInt8.lt_iff_toNat_lt.1 h;simp;omega)]
 ·rw [if_neg h,if_neg (by simp only [decide_eq_true_eq];exact fun q=>h (UInt8.lt_iff_toNat_lt.2 (by omega)))]
section
variable {w:Nat} {seed:UInt64} {key:Str} {a b c e:List UInt8} {d:List Bool} {n p0 p1 p2 p3 p4:Nat}
variable (ha:a.length=w) (hb:b.length=w) (hc:c.length=w) (he:e.length=w) (hd:d.length=w)
variable (k0:At w seed key 0 p0) (k1:At w seed key 1 p1) (k2:At w seed key 2 p2) (k3:At w seed key 3 p3) (k4:At w seed key 4 p4)
include ha hb hc he k0 k1 k2 k3
theorem least_c:BY (SK w seed a b c e d n) key=some (mn (e[p3]'(he▸k3.lt)) (mn (c[p2]'(hc▸k2.lt)) (mn (b[p1]'(hb▸k1.lt)) (mn (a[p0]'(ha▸k0.lt)) 15)))):=by
 have l0:p0<a.length:=ha▸k0.lt
 have l1:p1<b.length:=hb▸k1.lt
 have l2:p2<c.length:=hc▸k2.lt
 have l3:p3<e.length:=he▸k3.lt
 unfold BY
 unfold BR
 rw [if_pos (by decide),k0.c];dsimp only;rw [g0];dsimp only [ob_];rw [gN l0,j0];dsimp only [ob_]
 unfold BR
 rw [if_pos (by decide),k1.c];dsimp only;rw [g1];dsimp only [ob_];rw [gN l1,j1];dsimp only [ob_]
 unfold BR
 rw [if_pos (by decide),k2.c];dsimp only;rw [g2];dsimp only [ob_];rw [gN l2,j2];dsimp only [ob_]
 unfold BR
 rw [if_pos (by decide),k3.c];dsimp only;rw [g3];dsimp only [ob_];rw [gN l3,j3];dsimp only [ob_]
 unfold BR
 rw [if_neg (by decide)]
 rfl
theorem least_m:Bb (SM w seed a b c e d n) key=some (((mn (e[p3]'(he▸k3.lt)) (mn (c[p2]'(hc▸k2.lt)) (mn (b[p1]'(hb▸k1.lt)) (mn (a[p0]'(ha▸k0.lt)) 15)))).toNat:Nat):Int):=by
 have l0:p0<a.length:=ha▸k0.lt
 have l1:p1<b.length:=hb▸k1.lt
 have l2:p2<c.length:=hc▸k2.lt
 have l3:p3<e.length:=he▸k3.lt
 have e15:(15:Int)=(((15:UInt8).toNat:Nat):Int):=by decide
 unfold Bb
 rw [show AU (SM w seed a b c e d n) key 5 15 0=AU (SM w seed a b c e d n) key 5 (((15:UInt8).toNat:Nat):Int) 0 from rfl]
 unfold AU
 rw [if_pos (by decide),k0.m];dsimp only;rw [g0];dsimp only [ob_];rw [gN8 l0,j0];dsimp only [ob_];rw [mn_i];dsimp only [ob_]
 unfold AU
 rw [if_pos (by decide),k1.m];dsimp only;rw [g1];dsimp only [ob_];rw [gN8 l1,j1];dsimp only [ob_];rw [mn_i];dsimp only [ob_]
 unfold AU
 rw [if_pos (by decide),k2.m];dsimp only;rw [g2];dsimp only [ob_];rw [gN8 l2,j2];dsimp only [ob_];rw [mn_i];dsimp only [ob_]
 unfold AU
 rw [if_pos (by decide),k3.m];dsimp only;rw [g3];dsimp only [ob_];rw [gN8 l3,j3];dsimp only [ob_];rw [mn_i];dsimp only [ob_]
 unfold AU
 rw [if_neg (by decide)]
 rfl
def up(r:List UInt8)(p:Nat)(m:UInt8):List UInt8:=if r.getD p 0=m∧m<15 then r.set p (m+1) else r
omit ha hb hc he k0 k1 k2 k3 in
theorem up_len(r:List UInt8)(p:Nat)(m:UInt8):(up r p m).length=r.length:=by unfold up;split <;> simp
end
theorem mks_ok{α:Type}(bytes w:Nat)(z:α)(hb:bytes≤24)(hw:w≤4096):mks bytes (w:Int) z=some (List.replicate w z):=by
 unfold mks
 have:bytes*w≤24*4096:=Nat.mul_le_mul hb hw
 rw [if_pos ⟨by omega,by rw [←Int.natCast_mul];omega,by omega⟩]
 rfl
theorem apd_ok{α:Type}(bytes:Nat)(l r:List α)(hb:bytes≤24)(hl:l.length+r.length≤1000000):apd bytes l r=some (l++r):=by
 unfold apd
 have:(l.length+r.length)*bytes≤1000000*24:=Nat.mul_le_mul hl hb
 rw [if_pos (by omega)]
theorem cpy_ok{α:Type}(l r:List α)(h:l.length=r.length)(h0:0<r.length):cpy l r=some r:=by
 unfold cpy
 rw [if_pos ⟨by omega,h0⟩,h,List.take_length,List.drop_of_length_le (by omega),List.append_nil]
theorem new_c(w:Nat)(seed:UInt64)(h1:1≤w)(h2:w≤4096):
  D8 (w:Int) seed=some (some (SK w seed (List.replicate w 0) (List.replicate w 0) (List.replicate w 0) (List.replicate w 0) (List.replicate w false) 0),0):=by
 unfold D8
 rw [if_neg (by simp;omega),mks_ok 1 w _ (by decide) h2,ob_]
 unfold DB
 rw [if_pos (by decide),mks_ok 1 w _ (by decide) h2,ob_,g0,ob_,s0,j0]
 unfold DB
 rw [if_pos (by decide),mks_ok 1 w _ (by decide) h2,ob_,g1,ob_,s1,j1]
 unfold DB
 rw [if_pos (by decide),mks_ok 1 w _ (by decide) h2,ob_,g2,ob_,s2,j2]
 unfold DB
 rw [if_pos (by decide),mks_ok 1 w _ (by decide) h2,ob_,g3,ob_,s3,j3]
 unfold DB
 rw [if_neg (by decide),ob_]
 rfl
theorem N8_zero(w:Nat):N8 (List.replicate w 0)=List.replicate w (0:Int):=by simp [N8]
theorem new_m(w:Nat)(seed:UInt64)(h1:1≤w)(h2:w≤4096):
  Cu (w:Int) seed=some (SM w seed (List.replicate w 0) (List.replicate w 0) (List.replicate w 0) (List.replicate w 0) (List.replicate w false) 0):=by
 have ap:∀(x y:List (List Int)),x.length≤10→y.length≤10→apd 24 x y=some (x++y):=fun x y hx hy=>apd_ok 24 x y (by decide) (by omega)
 unfold Cu
 rw [mks_ok 1 w _ (by decide) h2,ob_]
 unfold B6
 rw [if_pos (by decide),mks_ok 8 w _ (by decide) h2,ob_,ap _ _ (by simp) (by simp),ob_,j0]
 unfold B6
 rw [if_pos (by decide),mks_ok 8 w _ (by decide) h2,ob_,ap _ _ (by simp) (by simp),ob_,j1]
 unfold B6
 rw [if_pos (by decide),mks_ok 8 w _ (by decide) h2,ob_,ap _ _ (by simp) (by simp),ob_,j2]
 unfold B6
 rw [if_pos (by decide),mks_ok 8 w _ (by decide) h2,ob_,ap _ _ (by simp) (by simp),ob_,j3]
 unfold B6
 rw [if_neg (by decide),ob_]
 show _=some (⟨(w:Int),seed,[N8 (List.replicate w 0),N8 (List.replicate w 0),N8 (List.replicate w 0),N8 (List.replicate w 0)],List.replicate w false,((0:Nat):Int)⟩:Ad)
 rw [N8_zero]
 rfl
theorem gi_ls{α:Type}{l:List α}{i:Int}{y z:α}(h:gi l i=some y):gi (ls l i z) i=some z:=by
 obtain ⟨⟨h0,h1⟩,h2⟩:=gi_some h
 unfold gi ls
 rw [if_pos h0]
 exact List.getElem?_set_self (by omega)
theorem ls_ls{α:Type}(l:List α)(i:Int)(y z:α):ls (ls l i y) i z=ls l i z:=by
 unfold ls;exact List.set_set ..
theorem ls_self{α:Type}{l:List α}{i:Int}{y:α}(h:gi l i=some y):ls l i y=l:=by
 obtain ⟨⟨h0,h1⟩,h2⟩:=gi_some h
 unfold ls
 have hl:i.toNat<l.length:=by omega
 rw [List.getElem?_eq_getElem hl] at h2
 obtain rfl:=Option.some.inj h2
 exact List.set_getElem_self hl
def hf(x:UInt8):UInt8:=x/2
theorem tk_set{α:Type}(l:List α)(k:Nat)(x:α)(h:k<l.length):(l.set k x).take (k+1)=l.take k++[x]:=by
 rw [List.take_add_one,List.take_set_of_le (Nat.le_refl k)]
 congr 1
 rw [List.getElem?_set_self h];rfl
theorem dr_set{α:Type}(l:List α)(k:Nat)(x:α):(l.set k x).drop (k+1)=l.drop (k+1):=by
 rw [List.drop_set_of_lt (by omega)]
theorem age_in_c(s:Int)(z:List UInt8)(w:Nat)(hz:z.length=w)(hw:w≤4096):∀(f k:Nat) (c:List (List UInt8)) (y:List UInt8),f=w-k+1→k≤w→gi c s=some y→y.length=w →
  BS s z f (k:Int) c=some (ls c s (y.take k++(y.drop k).map hf)):=by
 intro f
 induction f with
 | zero=>intro k c y h;omega
 | succ f ih =>
  intro k c y h hk hg hy
  unfold BS
  by_cases h1:k<w
  ·have e:decide ((k:Int)<(z.length:Int))=true:=by simp;omega
   have ei:i64 ((k:Int)+1)=((k+1:Nat):Int):=by rw [i64_id] <;> omega
   have hl:k<y.length:=by omega
   rw [if_pos e,hg,ob_,gN hl,ob_,ei,lsN y]
   rw [ih (k+1) _ (y.set k (y[k]/2)) (by omega) (by omega) (gi_ls hg) (by rw [List.length_set];exact hy),ls_ls,tk_set _ _ _ hl,dr_set,List.append_assoc]
   rw [List.drop_eq_getElem_cons hl,List.map_cons]
   rfl
  ·obtain rfl:k=w:=by omega
   have e:¬decide ((k:Int)<(z.length:Int))=true:=by simp;omega
   rw [if_neg e,List.drop_of_length_le (by omega),List.map_nil,List.append_nil,List.take_of_length_le (by omega),ls_self hg]
theorem half_i(x:UInt8):i64 (((x.toNat:Nat):Int).tdiv 2)=(((hf x).toNat:Nat):Int):=by
 unfold hf
 have e2:(2:UInt8).toNat=2:=by decide
 have:=x.toNat_lt
 rw [UInt8.toNat_div,e2,Int.tdiv_eq_ediv_of_nonneg (by omega),i64_id (by omega) (by omega)]
 omega
theorem age_in_m(m:Ad)(s:Int)(r:List UInt8)(w:Nat)(hr:r.length=w)(hW:m.Wide=(w:Int))(hR:gi m.Rows s=some (N8 r))(hw:w≤4096):∀(f k:Nat) (c:List (List Int)) (y:List Int),f=w-k+1→k≤w→gi c s=some y→y.length=w →
  A5 m s f (k:Int) c=some (ls c s (y.take k++N8 ((r.drop k).map hf))):=by
 intro f
 induction f with
 | zero=>intro k c y h;omega
 | succ f ih =>
  intro k c y h hk hg hy
  unfold A5
  rw [hW]
  by_cases h1:k<w
  ·have e:decide ((k:Int)<(w:Int))=true:=by simp;omega
   have ei:i64 ((k:Int)+1)=((k+1:Nat):Int):=by rw [i64_id] <;> omega
   have hl:k<y.length:=by omega
   have hl2:k<r.length:=by omega
   rw [if_pos e,hg,ob_,hR,ob_,gN8 hl2,ob_,gN hl,ob_,ei,half_i,lsN y]
   rw [ih (k+1) _ (y.set k (((hf r[k]).toNat:Nat):Int)) (by omega) (by omega) (gi_ls hg) (by rw [List.length_set];exact hy),ls_ls,tk_set _ _ _ hl,List.append_assoc]
   rw [List.drop_eq_getElem_cons hl2,List.map_cons]
   rfl
  ·obtain rfl:k=w:=by omega
   have e:¬decide ((k:Int)<(k:Int))=true:=by simp
   rw [if_neg e,List.drop_of_length_le (by omega),List.map_nil,List.take_of_length_le (by omega)]
   show _=some (ls c s (y++[]))
   rw [List.append_nil,ls_self hg]
section
variable {w:Nat} {seed:UInt64} {a b c e:List UInt8} {d:List Bool} {n:Nat}
variable (ha:a.length=w) (hb:b.length=w) (hc:c.length=w) (he:e.length=w) (hd:d.length=w) (h1:1≤w) (h2:w≤4096) (hn:n≤1000000)
include ha hb hc he hd h1 h2 hn
omit ha hb hc he hd h1 h2 in
theorem half_n:i64 (((n:Nat):Int).tdiv 2)=((n/2:Nat):Int):=by
 rw [Int.tdiv_eq_ediv_of_nonneg (by omega),i64_id (by omega) (by omega)]
 omega
theorem age_c:Ds (SK w seed a b c e d n)=some (SK w seed (a.map hf) (b.map hf) (c.map hf) (e.map hf) (List.replicate w false) (n/2)):=by
 have I:=fun (s:Int) (z:List UInt8) (hz:z.length=w) (r:List (List UInt8)) (hg:gi r s=some z)=>age_in_c s z w hz h2 (((z.length:Int)-0).toNat+1) 0 r z (by omega) (by omega) hg hz
 simp only [List.take_zero,List.drop_zero,List.nil_append] at I
 unfold Ds
 dsimp only
 unfold B7
 rw [if_pos (by decide),g0,ob_,show BS 0 a (((a.length:Int)-0).toNat+1) 0 [a,b,c,e]=_ from I 0 a ha _ (g0 ..),ob_,ob_,s0,j0]
 unfold B7
 rw [if_pos (by decide),g1,ob_,show BS 1 b (((b.length:Int)-0).toNat+1) 0 _=_ from I 1 b hb _ (g1 ..),ob_,ob_,s1,j1]
 unfold B7
 rw [if_pos (by decide),g2,ob_,show BS 2 c (((c.length:Int)-0).toNat+1) 0 _=_ from I 2 c hc _ (g2 ..),ob_,ob_,s2,j2]
 unfold B7
 rw [if_pos (by decide),g3,ob_,show BS 3 e (((e.length:Int)-0).toNat+1) 0 _=_ from I 3 e he _ (g3 ..),ob_,ob_,s3,j3]
 unfold B7
 rw [if_neg (by decide),ob_,half_n hn,hd]
theorem age_m:Cj (SM w seed a b c e d n)=some (SM w seed (a.map hf) (b.map hf) (c.map hf) (e.map hf) (List.replicate w false) (n/2)):=by
 have I:=fun (s:Int) (z:List UInt8) (hz:z.length=w) (y:List Int) (hy:y.length=w) (r:List (List Int)) (hm:gi (SM w seed a b c e d n).Rows s=some (N8 z)) (hg:gi r s=some y) =>
  age_in_m (SM w seed a b c e d n) s z w hz rfl hm h2 ((((w:Nat):Int)-0).toNat+1) 0 r y (by omega) (by omega) hg hy
 simp only [List.take_zero,List.drop_zero,List.nil_append] at I
 have hr:(N8 (List.replicate w 0)).length=w:=by rw [N8_len];simp
 unfold Cj
 dsimp only
 rw [new_m w seed h1 h2,ob_]
 unfold Bi
 rw [if_pos (by decide),show A5 (SM w seed a b c e d n) 0 ((((w:Nat):Int)-0).toNat+1) 0 _=_ from I 0 a ha _ hr _ (g0 ..) (g0 ..),ob_,ob_,s0,j0]
 unfold Bi
 rw [if_pos (by decide),show A5 (SM w seed a b c e d n) 1 ((((w:Nat):Int)-0).toNat+1) 0 _=_ from I 1 b hb _ hr _ (g1 ..) (g1 ..),ob_,ob_,s1,j1]
 unfold Bi
 rw [if_pos (by decide),show A5 (SM w seed a b c e d n) 2 ((((w:Nat):Int)-0).toNat+1) 0 _=_ from I 2 c hc _ hr _ (g2 ..) (g2 ..),ob_,ob_,s2,j2]
 unfold Bi
 rw [if_pos (by decide),show A5 (SM w seed a b c e d n) 3 ((((w:Nat):Int)-0).toNat+1) 0 _=_ from I 3 e he _ hr _ (g3 ..) (g3 ..),ob_,ob_,s3,j3]
 unfold Bi
 rw [if_neg (by decide),ob_,half_n hn]
end
structure Sk where
 a:List UInt8
 b:List UInt8
 c:List UInt8
 e:List UInt8
 d:List Bool
 n:Nat
namespace Sk
abbrev C(s:Sk)(w:Nat)(seed:UInt64):An:=SK w seed s.a s.b s.c s.e s.d s.n
abbrev M(s:Sk)(w:Nat)(seed:UInt64):Ad:=SM w seed s.a s.b s.c s.e s.d s.n
structure ok (s:Sk) (w:Nat):Prop where
 ha:s.a.length=w
 hb:s.b.length=w
 hc:s.c.length=w
 he:s.e.length=w
 hd:s.d.length=w
 hn:s.n<10*w
 xa:∀x∈s.a,x≤15
 xb:∀x∈s.b,x≤15
 xc:∀x∈s.c,x≤15
 xe:∀x∈s.e,x≤15
end Sk
structure Ps where
 p0:Nat
 p1:Nat
 p2:Nat
 p3:Nat
 p4:Nat
structure Pk (w:Nat) (seed:UInt64) (key:Str) (p:Ps):Prop where
 k0:At w seed key 0 p.p0
 k1:At w seed key 1 p.p1
 k2:At w seed key 2 p.p2
 k3:At w seed key 3 p.p3
 k4:At w seed key 4 p.p4
theorem pk_ex(w:Nat)(seed:UInt64)(key:Str)(hw:1≤w)(hw2:w≤4096)(hk:key.length≤100000):∃p,Pk w seed key p:=by
 obtain ⟨p0,h0⟩:=at_ex w seed key 0 hw hw2 hk
 obtain ⟨p1,h1⟩:=at_ex w seed key 1 hw hw2 hk
 obtain ⟨p2,h2⟩:=at_ex w seed key 2 hw hw2 hk
 obtain ⟨p3,h3⟩:=at_ex w seed key 3 hw hw2 hk
 obtain ⟨p4,h4⟩:=at_ex w seed key 4 hw hw2 hk
 exact ⟨⟨p0,p1,p2,p3,p4⟩,⟨h0,h1,h2,h3,h4⟩⟩
namespace Sk
def least(s:Sk)(p:Ps):UInt8:=mn (s.e.getD p.p3 0) (mn (s.c.getD p.p2 0) (mn (s.b.getD p.p1 0) (mn (s.a.getD p.p0 0) 15)))
def seen(s:Sk)(p:Ps):Nat:=if s.d.getD p.p4 false then (s.least p).toNat+1 else (s.least p).toNat
def add(s:Sk)(p:Ps):Sk :=
 if s.d.getD p.p4 false then ⟨up s.a p.p0 (s.least p),up s.b p.p1 (s.least p),up s.c p.p2 (s.least p),up s.e p.p3 (s.least p),s.d,s.n+1⟩
 else ⟨s.a,s.b,s.c,s.e,s.d.set p.p4 true,s.n+1⟩
def age(s:Sk)(w:Nat):Sk:=⟨s.a.map hf,s.b.map hf,s.c.map hf,s.e.map hf,List.replicate w false,s.n/2⟩
def put(s:Sk)(w:Nat)(p:Ps):Sk:=if 10*w≤(s.add p).n then (s.add p).age w else s.add p
end Sk
theorem i_succ(k:Nat)(h:k<256):i64 ((k:Int)+1)=((k+1:Nat):Int):=by
 rw [i64_id (by omega) (by omega)];rfl
theorem getD_e{α:Type}{l:List α}{p:Nat}{z:α}(h:p<l.length):l.getD p z=l[p]:=by
 rw [List.getD_eq_getElem?_getD,List.getElem?_eq_getElem h];rfl
theorem up_c{c:List (List UInt8)}{s:Int}{l:List UInt8}{p:Nat}(m:UInt8)(hg:gi c s=some l)(hp:p<l.length):
  (if ((l[p]==m)&&decide (m<15)) then some (ls c s (ls l (p:Int) (l[p]+1))) else some c)=some (ls c s (up l p m)):=by
 unfold up
 rw [getD_e hp,lsN]
 by_cases h:l[p]=m∧m<15
 ·rw [if_pos h,if_pos (by simp [h.1,h.2]),h.1]
 ·rw [if_neg h,if_neg (by simpa using h),ls_self hg]
theorem up_m{c:List (List Int)}{s:Int}{l:List UInt8}{p:Nat}(m:UInt8)(hg:gi c s=some (N8 l))(hp:p<l.length):
  (if ((((l[p].toNat:Nat):Int)==((m.toNat:Nat):Int))&&decide (((m.toNat:Nat):Int)<15)) then (some (N8 l)).bind fun y67=>(gi y67 (p:Int)).bind fun x70=>some (ls c s (ls y67 (p:Int) (i64 (x70+1)))) else some c)=some (ls c s (N8 (up l p m))):=by
 have e15:(15:UInt8).toNat=15:=by decide
 rw [ob_,gN8 hp,ob_,lsN (N8 l)]
 unfold up
 rw [getD_e hp]
 by_cases h:l[p]=m∧m<15
 ·have h15:=UInt8.lt_iff_toNat_lt.1 h.2
  rw [if_pos h,if_pos (by rw [h.1];simp;omega),h.1]
  have e:i64 (((m.toNat:Nat):Int)+1)=(((m+1).toNat:Nat):Int):=by
   rw [i64_id (by omega) (by omega),UInt8.toNat_add]
   have:(1:UInt8).toNat=1:=by decide
   omega
  rw [e,N8_set]
 ·rw [if_neg h,if_neg ?_,ls_self hg]
  simp only [Bool.and_eq_true,beq_iff_eq,decide_eq_true_eq]
  intro ⟨q1,q2⟩
  exact h ⟨UInt8.toNat_inj.1 (by omega),UInt8.lt_iff_toNat_lt.2 (by omega)⟩
theorem up_m'{c:List (List Int)}{s:Int}{l:List UInt8}{p:Nat}(m:UInt8)(hg:gi c s=some (N8 l))(hp:p<l.length):
  (if ((((l[p].toNat:Nat):Int)==((m.toNat:Nat):Int))&&decide (((m.toNat:Nat):Int)<15)) then (gi c s).bind fun y67=>(gi y67 (p:Int)).bind fun x70=>some (ls c s (ls y67 (p:Int) (i64 (x70+1)))) else some c)=some (ls c s (N8 (up l p m))):=by
 have h:=up_m m hg hp
 rw [hg]
 exact h
section
variable {w:Nat} {seed:UInt64} {key:Str} {s:Sk} {p:Ps} (h1:1≤w) (h2:w≤4096) (hs:s.ok w) (hp:Pk w seed key p)
include h1 h2 hs hp
theorem Least_c:BY (s.C w seed) key=some (s.least p):=by
 rw [least_c hs.ha hs.hb hs.hc hs.he hp.k0 hp.k1 hp.k2 hp.k3]
 unfold Sk.least
 rw [getD_e (hs.he▸hp.k3.lt),getD_e (hs.hc▸hp.k2.lt),getD_e (hs.hb▸hp.k1.lt),getD_e (hs.ha▸hp.k0.lt)]
theorem Least_m:Bb (s.M w seed) key=some (((s.least p).toNat:Nat):Int):=by
 rw [least_m hs.ha hs.hb hs.hc hs.he hp.k0 hp.k1 hp.k2 hp.k3]
 unfold Sk.least
 rw [getD_e (hs.he▸hp.k3.lt),getD_e (hs.hc▸hp.k2.lt),getD_e (hs.hb▸hp.k1.lt),getD_e (hs.ha▸hp.k0.lt)]
theorem Seen_c:Cd (s.C w seed) key=some ((s.seen p:Nat):Int):=by
 have l4:p.p4<s.d.length:=hs.hd▸hp.k4.lt
 unfold Cd Sk.seen
 rw [Least_c h1 h2 hs hp,ob_,hp.k4.c,ob_]
 dsimp only
 rw [gN l4,ob_,getD_e l4]
 have:(s.least p).toNat<256:=(s.least p).toNat_lt
 by_cases h:s.d[p.p4]=true
 ·rw [if_pos h,if_pos h,i_succ _ this]
 ·rw [if_neg h,if_neg h]
theorem Seen_m:A4 (s.M w seed) key=some ((s.seen p:Nat):Int):=by
 have l4:p.p4<s.d.length:=hs.hd▸hp.k4.lt
 unfold A4 Sk.seen
 rw [Least_m h1 h2 hs hp,ob_,hp.k4.m,ob_]
 dsimp only
 rw [gN l4,ob_,getD_e l4]
 have:(s.least p).toNat<256:=(s.least p).toNat_lt
 by_cases h:s.d[p.p4]=true
 ·rw [if_pos h,if_pos h,i_succ _ this]
 ·rw [if_neg h,if_neg h]
theorem rows_c(m:UInt8):By (s.C w seed) key m 5 0 [s.a,s.b,s.c,s.e]=some [up s.a p.p0 m,up s.b p.p1 m,up s.c p.p2 m,up s.e p.p3 m]:=by
 have l0:p.p0<s.a.length:=hs.ha▸hp.k0.lt
 have l1:p.p1<s.b.length:=hs.hb▸hp.k1.lt
 have l2:p.p2<s.c.length:=hs.hc▸hp.k2.lt
 have l3:p.p3<s.e.length:=hs.he▸hp.k3.lt
 unfold By
 rw [if_pos (by decide),hp.k0.c,ob_,g0,ob_,gN l0,ob_,up_c m (g0 ..) l0,ob_,s0,j0]
 unfold By
 rw [if_pos (by decide),hp.k1.c,ob_,g1,ob_,gN l1,ob_,up_c m (g1 ..) l1,ob_,s1,j1]
 unfold By
 rw [if_pos (by decide),hp.k2.c,ob_,g2,ob_,gN l2,ob_,up_c m (g2 ..) l2,ob_,s2,j2]
 unfold By
 rw [if_pos (by decide),hp.k3.c,ob_,g3,ob_,gN l3,ob_,up_c m (g3 ..) l3,ob_,s3,j3]
 unfold By
 rw [if_neg (by decide)]
theorem rows_m(m:UInt8):AZ (s.M w seed) key ((m.toNat:Nat):Int) 5 0 [N8 s.a,N8 s.b,N8 s.c,N8 s.e]=some [N8 (up s.a p.p0 m),N8 (up s.b p.p1 m),N8 (up s.c p.p2 m),N8 (up s.e p.p3 m)]:=by
 have l0:p.p0<s.a.length:=hs.ha▸hp.k0.lt
 have l1:p.p1<s.b.length:=hs.hb▸hp.k1.lt
 have l2:p.p2<s.c.length:=hs.hc▸hp.k2.lt
 have l3:p.p3<s.e.length:=hs.he▸hp.k3.lt
 unfold AZ
 rw [if_pos (by decide),hp.k0.m,ob_,show gi (s.M w seed).Rows 0=_ from g0 ..,ob_,gN8 l0,ob_,up_m m (g0 ..) l0,ob_,s0,j0]
 unfold AZ
 rw [if_pos (by decide),hp.k1.m,ob_,show gi (s.M w seed).Rows 1=_ from g1 ..,ob_,gN8 l1,ob_,up_m' m (g1 ..) l1,ob_,s1,j1]
 unfold AZ
 rw [if_pos (by decide),hp.k2.m,ob_,show gi (s.M w seed).Rows 2=_ from g2 ..,ob_,gN8 l2,ob_,up_m' m (g2 ..) l2,ob_,s2,j2]
 unfold AZ
 rw [if_pos (by decide),hp.k3.m,ob_,show gi (s.M w seed).Rows 3=_ from g3 ..,ob_,gN8 l3,ob_,up_m' m (g3 ..) l3,ob_,s3,j3]
 unfold AZ
 rw [if_neg (by decide)]
omit hp in
theorem copy_m(z:List Int)(hz:z.length=w):A6 (s.M w seed) 5 0 [z,z,z,z]=some [N8 s.a,N8 s.b,N8 s.c,N8 s.e]:=by
 have cp:∀r:List UInt8,r.length=w→cpy z (N8 r)=some (N8 r):=fun r hr=>cpy_ok _ _ (by rw [N8_len];omega) (by rw [N8_len];omega)
 unfold A6
 rw [if_pos (by decide),g0,ob_,show gi (s.M w seed).Rows 0=_ from g0 ..,ob_,cp _ hs.ha,ob_,s0,j0]
 unfold A6
 rw [if_pos (by decide),g1,ob_,show gi (s.M w seed).Rows 1=_ from g1 ..,ob_,cp _ hs.hb,ob_,s1,j1]
 unfold A6
 rw [if_pos (by decide),g2,ob_,show gi (s.M w seed).Rows 2=_ from g2 ..,ob_,cp _ hs.hc,ob_,s2,j2]
 unfold A6
 rw [if_pos (by decide),g3,ob_,show gi (s.M w seed).Rows 3=_ from g3 ..,ob_,cp _ hs.he,ob_,s3,j3]
 unfold A6
 rw [if_neg (by decide)]
omit h1 h2 hp in
theorem add_lens:(s.add p).a.length=w∧(s.add p).b.length=w∧(s.add p).c.length=w∧(s.add p).e.length=w∧(s.add p).d.length=w∧(s.add p).n=s.n+1:=by
 unfold Sk.add
 split
 ·simp only [up_len];exact ⟨hs.ha,hs.hb,hs.hc,hs.he,hs.hd,trivial⟩
 ·simp only [List.length_set];exact ⟨hs.ha,hs.hb,hs.hc,hs.he,hs.hd,trivial⟩
omit hs hp in
theorem fin_c(S:Sk)(n:Nat)(la:S.a.length=w)(lb:S.b.length=w)(lc:S.c.length=w)(le:S.e.length=w)(ld:S.d.length=w)(ln:S.n=n+1)(hn:n<10*w):
  (if decide ((i64 (10*((w:Nat):Int)))≤(i64 (((n:Nat):Int)+1))) then (Ds (⟨(w:Int),seed,[S.a,S.b,S.c,S.e],S.d,i64 (((n:Nat):Int)+1)⟩:An)).bind fun r12=>some r12 else some (⟨(w:Int),seed,[S.a,S.b,S.c,S.e],S.d,i64 (((n:Nat):Int)+1)⟩:An))=some ((if 10*w≤S.n then S.age w else S).C w seed):=by
 have en:i64 (((n:Nat):Int)+1)=((S.n:Nat):Int):=by rw [i64_id (by omega) (by omega)];omega
 have ew:i64 (10*((w:Nat):Int))=10*((w:Nat):Int):=i64_id (by omega) (by omega)
 rw [en,ew]
 have ag:=age_c (seed:=seed) (n:=S.n) la lb lc le ld h1 h2 (by omega)
 by_cases h:10*w≤S.n
 ·rw [if_pos (by rw [decide_eq_true_eq];omega),if_pos h,ag,ob_]
  rfl
 ·rw [if_neg (by rw [decide_eq_true_eq];omega),if_neg h]
theorem Add_c:B4 (s.C w seed) key=some ((s.put w p).C w seed):=by
 have l4:p.p4<s.d.length:=hs.hd▸hp.k4.lt
 have hn:=hs.hn
 obtain ⟨la,lb,lc,le,ld,ln⟩:=add_lens hs (p:=p)
 unfold B4
 rw [hp.k4.c,ob_]
 dsimp only
 rw [gN l4,ob_]
 have key2:(if (!s.d[p.p4])=true then some (ls s.d (p.p4:Int) true,[s.a,s.b,s.c,s.e]) else (BY (s.C w seed) key).bind fun r16=>Option.bind (By (s.C w seed) key r16 5 0 [s.a,s.b,s.c,s.e]) fun p18=>some (s.d,p18))=some ((s.add p).d,[(s.add p).a,(s.add p).b,(s.add p).c,(s.add p).e]):=by
  unfold Sk.add
  rw [getD_e l4]
  by_cases h:s.d[p.p4]=true
  ·rw [if_neg (by simp [h]),if_pos h,Least_c h1 h2 hs hp,ob_,rows_c h1 h2 hs hp,ob_]
  ·rw [if_pos (by simp [h]),if_neg h,lsN]
 rw [key2,ob_]
 exact fin_c h1 h2 (s.add p) s.n la lb lc le ld ln hn
omit hs hp in
theorem fin_m(S:Sk)(n:Nat)(la:S.a.length=w)(lb:S.b.length=w)(lc:S.c.length=w)(le:S.e.length=w)(ld:S.d.length=w)(ln:S.n=n+1)(hn:n<10*w):
  (if decide ((i64 (10*((w:Nat):Int)))≤(i64 (((n:Nat):Int)+1))) then (Cj (⟨(w:Int),seed,[N8 S.a,N8 S.b,N8 S.c,N8 S.e],S.d,i64 (((n:Nat):Int)+1)⟩:Ad)).bind fun r12=>some r12 else some (⟨(w:Int),seed,[N8 S.a,N8 S.b,N8 S.c,N8 S.e],S.d,i64 (((n:Nat):Int)+1)⟩:Ad))=some ((if 10*w≤S.n then S.age w else S).M w seed):=by
 have en:i64 (((n:Nat):Int)+1)=((S.n:Nat):Int):=by rw [i64_id (by omega) (by omega)];omega
 have ew:i64 (10*((w:Nat):Int))=10*((w:Nat):Int):=i64_id (by omega) (by omega)
 rw [en,ew]
 have ag:=age_m (seed:=seed) (n:=S.n) la lb lc le ld h1 h2 (by omega)
 by_cases h:10*w≤S.n
 ·rw [if_pos (by rw [decide_eq_true_eq];omega),if_pos h,ag,ob_]
  rfl
 ·rw [if_neg (by rw [decide_eq_true_eq];omega),if_neg h]
theorem Add_m:Bc (s.M w seed) key=some ((s.put w p).M w seed):=by
 have l4:p.p4<s.d.length:=hs.hd▸hp.k4.lt
 have hn:=hs.hn
 obtain ⟨la,lb,lc,le,ld,ln⟩:=add_lens hs (p:=p)
 unfold Bc
 dsimp only
 rw [new_m w seed h1 h2,ob_]
 dsimp only
 rw [cpy_ok _ _ (by simp [hs.hd]) (by have:=hs.hd;omega),ob_]
 rw [copy_m h1 h2 hs _ (by rw [N8_len];simp),ob_,hp.k4.m,ob_,gN l4,ob_]
 have key2:(if (!s.d[p.p4])=true then some (ls s.d (p.p4:Int) true,[N8 s.a,N8 s.b,N8 s.c,N8 s.e]) else (Bb (s.M w seed) key).bind fun r41=>Option.bind (AZ (s.M w seed) key r41 5 0 [N8 s.a,N8 s.b,N8 s.c,N8 s.e]) fun p43=>some (s.d,p43))=some ((s.add p).d,[N8 (s.add p).a,N8 (s.add p).b,N8 (s.add p).c,N8 (s.add p).e]):=by
  unfold Sk.add
  rw [getD_e l4]
  by_cases h:s.d[p.p4]=true
  ·rw [if_neg (by simp [h]),if_pos h,Least_m h1 h2 hs hp,ob_,rows_m h1 h2 hs hp,ob_]
  ·rw [if_pos (by simp [h]),if_neg h,lsN]
 have key3:=key2
 simp only [ob_] at key3 ⊢
 rw [key3,ob_]
 exact fin_m h1 h2 (s.add p) s.n la lb lc le ld ln hn
end
theorem om_some{α β:Type}(a:α)(n:β)(f:α→β):om (some a) n f=f a:=rfl
theorem iand_le(a:Int)(m:Nat)(h:m<4294967296):∃k:Nat,iand a (m:Int)=(k:Int)∧k≤m:=by
 have e:(BitVec.ofInt 64 (m:Int)).toNat=m:=by
  rw [BitVec.toNat_ofInt];omega
 have h2:(BitVec.ofInt 64 a &&& BitVec.ofInt 64 (m:Int)).toNat≤m:=by
  rw [BitVec.toNat_and,e];exact Nat.and_le_right
 unfold iand
 generalize (BitVec.ofInt 64 a &&& BitVec.ofInt 64 (m:Int)).toNat=k at h2
 exact ⟨k,i64_id (by omega) (by omega),h2⟩
theorem zero_ok(w:Nat)(h1:1≤w):(Sk.mk (List.replicate w 0) (List.replicate w 0) (List.replicate w 0) (List.replicate w 0) (List.replicate w false) 0).ok w:=by
 have z:∀x∈List.replicate w (0:UInt8),x≤15:=fun x hx=>by rw [List.eq_of_mem_replicate hx];decide
 exact ⟨by simp,by simp,by simp,by simp,by simp,by show 0<_;omega,z,z,z,z⟩
theorem hf_le(x:UInt8)(h:x≤15):hf x≤15:=by
 unfold hf
 have e2:(2:UInt8).toNat=2:=by decide
 have e15:(15:UInt8).toNat=15:=by decide
 rw [UInt8.le_iff_toNat_le] at *
 rw [UInt8.toNat_div,e2];omega
theorem up_le(r:List UInt8)(p:Nat)(m:UInt8)(h:∀x∈r,x≤15):∀x∈up r p m,x≤15:=by
 unfold up
 split
 ·rename_i q
  intro x hx
  rcases List.mem_or_eq_of_mem_set hx with h1 | rfl
  ·exact h x h1
  ·have e1:(1:UInt8).toNat=1:=by decide
   have e15:(15:UInt8).toNat=15:=by decide
   have:=UInt8.lt_iff_toNat_lt.1 q.2
   rw [UInt8.le_iff_toNat_le,UInt8.toNat_add];omega
 ·exact h
theorem map_le(r:List UInt8)(h:∀x∈r,x≤15):∀x∈r.map hf,x≤15:=by
 intro x hx
 obtain ⟨y,hy,rfl⟩:=List.mem_map.1 hx
 exact hf_le y (h y hy)
theorem age_ok{w:Nat}{s:Sk}(ha:s.a.length=w)(hb:s.b.length=w)(hc:s.c.length=w)(he:s.e.length=w)(hn:s.n≤10*w)(h1:1≤w)
  (xa:∀x∈s.a,x≤15) (xb:∀x∈s.b,x≤15) (xc:∀x∈s.c,x≤15) (xe:∀x∈s.e,x≤15):(s.age w).ok w:=by
 refine ⟨?_,?_,?_,?_,?_,?_,map_le _ xa,map_le _ xb,map_le _ xc,map_le _ xe⟩
 ·show (s.a.map hf).length=w;simp [ha]
 ·show (s.b.map hf).length=w;simp [hb]
 ·show (s.c.map hf).length=w;simp [hc]
 ·show (s.e.map hf).length=w;simp [he]
 ·show (List.replicate w false).length=w;simp
 ·show s.n/2<10*w;omega
theorem put_ok{w:Nat}{s:Sk}{p:Ps}(h1:1≤w)(hs:s.ok w):(s.put w p).ok w:=by
 obtain ⟨la,lb,lc,le,ld,ln⟩:=add_lens (w:=w) hs (p:=p)
 have hn:=hs.hn
 have xs:(∀x∈(s.add p).a,x≤15)∧(∀x∈(s.add p).b,x≤15)∧(∀x∈(s.add p).c,x≤15)∧(∀x∈(s.add p).e,x≤15):=by
  unfold Sk.add
  split
  ·exact ⟨up_le _ _ _ hs.xa,up_le _ _ _ hs.xb,up_le _ _ _ hs.xc,up_le _ _ _ hs.xe⟩
  ·exact ⟨hs.xa,hs.xb,hs.xc,hs.xe⟩
 unfold Sk.put
 by_cases h:10*w≤(s.add p).n
 ·rw [if_pos h]
  exact age_ok la lb lc le (by omega) h1 xs.1 xs.2.1 xs.2.2.1 xs.2.2.2
 ·rw [if_neg h]
  exact ⟨la,lb,lc,le,ld,by omega,xs.1,xs.2.1,xs.2.2.1,xs.2.2.2⟩
section
variable {K V:Type} [BEq K] [LawfulBEq K]
theorem mget_put(m:List (K×V))(k k':K)(v:V):mget (mput m k v) k'=if k'==k then some v else mget m k':=by
 induction m with
 | nil=>simp [mput,mget]
 | cons p m ih =>
  obtain ⟨a,u⟩:=p
  unfold mput
  by_cases h:(k==a)=true
  ·have:=eq_of_beq h;subst this
   rw [if_pos h];simp only [mget]
   split <;> rfl
  ·rw [if_neg h];simp only [mget]
   rw [ih]
   by_cases h2:(k'==a)=true
   ·have:=eq_of_beq h2;subst this
    have h3:(k'==k)=false:=by
     cases e:k'==k with
     | false=>rfl
     | true=>have:=eq_of_beq e;subst this;exact absurd h2 h
    simp [h3]
   ·simp [h2]
def Uk(m:List (K×V)):Prop:=(m.map (·.1)).Nodup
theorem mget_none(m:List (K×V))(k:K):mget m k=none↔k∉m.map (·.1):=by
 induction m with
 | nil=>simp [mget]
 | cons p m ih =>
  obtain ⟨a,u⟩:=p
  simp only [mget,List.map_cons,List.mem_cons,not_or]
  by_cases h:(k==a)=true
  ·simp [h,eq_of_beq h]
  ·rw [if_neg h,ih]
   constructor
   ·exact fun q=>⟨fun e=>h (by simp [e]),q⟩
   ·exact fun q=>q.2
theorem mget_del(m:List (K×V))(k k':K)(hu:Uk m):mget (mdel m k) k'=if k'==k then none else mget m k':=by
 induction m with
 | nil=>simp [mdel,mget]
 | cons p m ih =>
  obtain ⟨a,u⟩:=p
  unfold Uk at hu ih
  simp only [List.map_cons,List.nodup_cons] at hu
  unfold mdel
  by_cases h:(k==a)=true
  ·have:=eq_of_beq h;subst this
   rw [if_pos h];simp only [mget]
   by_cases h2:(k'==k)=true
   ·have:=eq_of_beq h2;subst this
    rw [if_pos h2];exact (mget_none _ _).2 hu.1
   ·rw [if_neg h2,if_neg h2]
  ·rw [if_neg h];simp only [mget]
   rw [ih hu.2]
   by_cases h2:(k'==a)=true
   ·have:=eq_of_beq h2;subst this
    have h3:(k'==k)=false:=by
     cases e:k'==k with
     | false=>rfl
     | true=>have:=eq_of_beq e;subst this;exact absurd h2 h
    simp [h3]
   ·simp [h2]
theorem del_keys(m:List (K×V))(k:K):((mdel m k).map (·.1)).Sublist (m.map (·.1)):=by
 induction m with
 | nil=>simp [mdel]
 | cons p m ih =>
  obtain ⟨a,u⟩:=p
  unfold mdel
  split
  ·simp
  ·simpa using ih
theorem Uk.del{m:List (K×V)}(hu:Uk m)(k:K):Uk (mdel m k):=(del_keys m k).nodup hu
theorem Uk.put{m:List (K×V)}(hu:Uk m)(k:K)(v:V):Uk (mput m k v):=by
 induction m with
 | nil=>simp [mput,Uk]
 | cons p m ih =>
  obtain ⟨a,u⟩:=p
  unfold Uk at hu ih ⊢
  simp only [List.map_cons,List.nodup_cons] at hu
  unfold mput
  by_cases h:(k==a)=true
  ·have:=eq_of_beq h;subst this
   rw [if_pos h];simpa using hu
  ·rw [if_neg h]
   simp only [List.map_cons,List.nodup_cons]
   refine ⟨?_,ih hu.2⟩
   rw [←mget_none,mget_put,if_neg (fun e=>h (by rw [eq_of_beq e];exact beq_self_eq_true k)),mget_none]
   exact hu.1
end
theorem giN{α:Type}[Inhabited α]{l:List α}{p:Nat}(h:p<l.length):gi l (p:Int)=some (l.getD p default):=by
 unfold gi
 rw [if_pos (by omega),List.getD_eq_getElem?_getD]
 simp [h]
theorem lsC{α:Type}(l:List α)(p:Nat)(x:α):ls l (p:Int) x=l.set p x:=by unfold ls;simp
theorem getD_set{α:Type}[Inhabited α](l:List α)(p q:Nat)(x:α)(h:p<l.length):(l.set p x).getD q default=if q=p then x else l.getD q default:=by
 rw [List.getD_eq_getElem?_getD,List.getElem?_set,List.getD_eq_getElem?_getD]
 by_cases e:p=q
 ·subst e;simp [h]
 ·rw [if_neg e,if_neg (fun h=>e h.symm)]
theorem dec{α:Type}{P:List α}{i:Nat}{Q:α}(h:P[i]? = some Q):∃U V,P=U++Q::V∧U.length=i∧∀Q',P.set i Q'=U++Q'::V:=by
 obtain ⟨hi,e⟩:=List.getElem?_eq_some_iff.1 h
 refine ⟨P.take i,P.drop (i+1),?_,by simp;omega,fun Q' =>?_⟩
 ·rw [←e];simp
 ·rw [List.set_eq_take_append_cons_drop,if_pos hi]
def Lk(nx pv:Nat→Int):List Nat→Prop
 | []=>True
 | [_]=>True
 | a::b::t=>nx a=(b:Int)∧pv b=(a:Int)∧Lk nx pv (b::t)
section
variable {nx pv nx' pv':Nat→Int}
theorem lk_app:∀(X:List Nat) (a b:Nat) (Y:List Nat),Lk nx pv (X++a::b::Y)↔Lk nx pv (X++[a])∧nx a=b∧pv b=a∧Lk nx pv (b::Y)
 | [],a,b,Y=>by simp [Lk]
 | [x],a,b,Y=>by simp [Lk,and_assoc]
 | x::y::X,a,b,Y=>by
  have ih:=lk_app (y::X) a b Y
  simp only [List.cons_append,Lk] at ih ⊢
  rw [ih];simp [and_assoc]
theorem lk_cg:∀{l:List Nat},(∀q∈l.dropLast,nx' q=nx q)→(∀q∈l.tail,pv' q=pv q)→Lk nx pv l→Lk nx' pv' l
 | [],_,_,_=>trivial
 | [_],_,_,_=>trivial
 | a::b::t,h1,h2,h=>by
  obtain ⟨p,q,r⟩:=h
  refine ⟨?_,?_,lk_cg (l:=b::t) (fun x hx=>h1 x ?_) (fun x hx=>h2 x ?_) r⟩
  ·rw [h1 a (by simp)];exact p
  ·rw [h2 b (by simp)];exact q
  ·rw [List.dropLast_cons_cons];exact List.mem_cons_of_mem _ hx
  ·simp only [List.tail_cons] at hx ⊢;exact List.mem_cons_of_mem _ hx
theorem lk_cut{X Y:List Nat}{a p b:Nat}(h:Lk nx pv (X++a::p::b::Y))(h1:∀q,nx' q=if q=a then (b:Int) else nx q)(h2:∀q,pv' q=if q=b then (a:Int) else pv q)
  (n1:a∉X) (n2:a∉(b::Y).dropLast) (n3:b∉Y) (n4:b∉(X++[a]).tail):Lk nx' pv' (X++a::b::Y):=by
 obtain ⟨k1,_,_,k2⟩:=(lk_app X a p (b::Y)).1 h
 obtain ⟨_,_,k3⟩:=k2
 refine (lk_app X a b Y).2 ⟨lk_cg (fun q hq =>?_) (fun q hq =>?_) k1,by rw [h1,if_pos rfl],by rw [h2,if_pos rfl],lk_cg (fun q hq =>?_) (fun q hq =>?_) k3⟩
 ·rw [h1,if_neg];rintro rfl;exact n1 (by simpa using hq)
 ·rw [h2,if_neg];rintro rfl;exact n4 hq
 ·rw [h1,if_neg];rintro rfl;exact n2 hq
 ·rw [h2,if_neg];rintro rfl;exact n3 (by simpa using hq)
theorem lk_link{i p c:Nat}{Y:List Nat}(h:Lk nx pv (i::c::Y))(h1:∀q,nx' q=if q=i then (p:Int) else if q=p then (c:Int) else nx q)(h2:∀q,pv' q=if q=c then (p:Int) else if q=p then (i:Int) else pv q)
  (n1:p≠i) (n2:p≠c) (n3:i∉(c::Y).dropLast) (n4:p∉c::Y) (n5:c∉Y):Lk nx' pv' (i::p::c::Y):=by
 obtain ⟨_,_,k⟩:=h
 refine ⟨by rw [h1,if_pos rfl],by rw [h2,if_neg n2,if_pos rfl],by rw [h1,if_neg n1,if_pos rfl],by rw [h2,if_pos rfl],lk_cg (fun q hq =>?_) (fun q hq =>?_) k⟩
 ·rw [h1,if_neg (by rintro rfl;exact n3 hq),if_neg (by rintro rfl;exact n4 (List.dropLast_sublist _ |>.subset hq))]
 ·rw [h2,if_neg (by rintro rfl;exact n5 (by simpa using hq)),if_neg (by rintro rfl;exact n4 (List.mem_of_mem_tail hq))]
end
abbrev S0(S:List Av)(q:Nat):Av:=S.getD q default
abbrev nxS(S:List Av)(q:Nat):Int:=(S0 S q).next
abbrev pvS(S:List Av)(q:Nat):Int:=(S0 S q).prev
abbrev lens(P:List (List Nat)):List Int:=P.map fun l=>(l.length:Int)
structure Cor (k n:Nat) (S:List Av) (many:List Int) (P:List (List Nat)):Prop where
 len:S.length=k+n
 pl:P.length=k
 mn:many=lens P
 lk:∀(i:Nat) Q,P[i]? = some Q→Lk (nxS S) (pvS S) (i::(Q++[i]))
 ow:∀(i:Nat) Q,P[i]? = some Q→∀p∈Q,(S0 S p).list=(i:Int)
 nd:P.flatten.Nodup
 rg:∀p∈P.flatten,k≤p∧p<k+n
theorem mem_fl{P:List (List Nat)}{i:Nat}{Q:List Nat}(h:P[i]? = some Q){p:Nat}(hp:p∈Q):p∈P.flatten:=by
 obtain ⟨hi,rfl⟩:=List.getElem?_eq_some_iff.1 h
 exact List.mem_flatten.2 ⟨_,List.getElem_mem hi,hp⟩
theorem fl_dj{P:List (List Nat)}(hn:P.flatten.Nodup){i j:Nat}{Q T:List Nat}(h:P[i]? = some Q)(h2:P[j]? = some T)(hij:i≠j){p:Nat}(hp:p∈Q):p∉T:=by
 intro ht
 unfold List.Nodup at hn;rw [List.pairwise_flatten] at hn
 obtain ⟨hi,rfl⟩:=List.getElem?_eq_some_iff.1 h
 obtain ⟨hj,rfl⟩:=List.getElem?_eq_some_iff.1 h2
 have:=hn.2
 rw [List.pairwise_iff_getElem] at this
 rcases Nat.lt_or_ge i j with q | q
 ·exact this i j hi hj q p hp p ht rfl
 ·exact this j i hj hi (by omega) p ht p hp rfl
theorem fl_nd{P:List (List Nat)}(hn:P.flatten.Nodup){i:Nat}{Q:List Nat}(h:P[i]? = some Q):Q.Nodup:=by
 unfold List.Nodup at hn;rw [List.pairwise_flatten] at hn
 obtain ⟨hi,rfl⟩:=List.getElem?_eq_some_iff.1 h
 exact hn.1 _ (List.getElem_mem hi)
theorem ends(i:Nat)(A:List Nat):∃X a,i::A=X++[a]:=by
 refine ⟨(i::A).dropLast,(i::A).getLast (by simp),(List.dropLast_concat_getLast (by simp)).symm⟩
theorem begins(i:Nat)(B:List Nat):∃b Y,B++[i]=b::Y:=by
 cases B with
 | nil=>exact ⟨i,[],rfl⟩
 | cons b B=>exact ⟨b,B++[i],rfl⟩
theorem lens_set{P:List (List Nat)}{i:Nat}(Q:List Nat)(x:Int)(hx:x=(Q.length:Int)):(lens P).set i x=lens (P.set i Q):=by
 unfold lens;rw [List.map_set,hx]
theorem lens_get{P:List (List Nat)}{i:Nat}{Q:List Nat}(h:P[i]? = some Q):gi (lens P) (i:Int)=some (Q.length:Int):=by
 unfold gi lens
 rw [if_pos (by omega)]
 simp [h]
theorem cut_eq{r:Aj}{a p b i:Nat}{m:Int}(h1:p<r.slots.length)(h2:a<r.slots.length)(h3:b<r.slots.length)(ha:(S0 r.slots p).prev=(a:Int))(hb:(S0 r.slots p).next=(b:Int))
  (hl:(S0 r.slots p).list=(i:Int)) (hm:gi r.many (i:Int)=some m) :
  ∃S',Dr r (p:Int)=some ⟨r.lists,S',r.free,r.at_,r.many.set i (i64 (m-1))⟩∧S'.length=r.slots.length ∧
   ∀q,S0 S' q=⟨(S0 r.slots q).key,(S0 r.slots q).list,if q=b then (a:Int) else (S0 r.slots q).prev,if q=a then (b:Int) else (S0 r.slots q).next⟩:=by
 unfold Dr
 rw [giN h1,ob_]
 simp only [ha,hb]
 rw [giN h2,ob_,lsC,giN (by rw [List.length_set];exact h3),ob_,lsC,giN (by rw [List.length_set,List.length_set];exact h1),ob_]
 have E:∀q,S0 ((r.slots.set a ⟨(S0 r.slots a).key,(S0 r.slots a).list,(S0 r.slots a).prev,(b:Int)⟩).set b ⟨(S0 (r.slots.set a ⟨(S0 r.slots a).key,(S0 r.slots a).list,(S0 r.slots a).prev,(b:Int)⟩) b).key,(S0 (r.slots.set a ⟨(S0 r.slots a).key,(S0 r.slots a).list,(S0 r.slots a).prev,(b:Int)⟩) b).list,(a:Int),(S0 (r.slots.set a ⟨(S0 r.slots a).key,(S0 r.slots a).list,(S0 r.slots a).prev,(b:Int)⟩) b).next⟩) q
   = ⟨(S0 r.slots q).key,(S0 r.slots q).list,if q=b then (a:Int) else (S0 r.slots q).prev,if q=a then (b:Int) else (S0 r.slots q).next⟩:=by
  intro q
  unfold S0
  rw [getD_set _ _ _ _ (by rw [List.length_set];exact h3),getD_set _ _ _ _ h2,getD_set _ _ _ _ h2]
  by_cases e1:q=b <;> by_cases e2:q=a <;> by_cases e3:b=a <;> simp_all
 rw [show (List.getD ((r.slots.set a ⟨(S0 r.slots a).key,(S0 r.slots a).list,(S0 r.slots a).prev,(b:Int)⟩).set b ⟨(S0 (r.slots.set a ⟨(S0 r.slots a).key,(S0 r.slots a).list,(S0 r.slots a).prev,(b:Int)⟩) b).key,(S0 (r.slots.set a ⟨(S0 r.slots a).key,(S0 r.slots a).list,(S0 r.slots a).prev,(b:Int)⟩) b).list,(a:Int),(S0 (r.slots.set a ⟨(S0 r.slots a).key,(S0 r.slots a).list,(S0 r.slots a).prev,(b:Int)⟩) b).next⟩) p default).list=(i:Int) from by have:=E p;unfold S0 at this;rw [this];exact hl]
 rw [hm,ob_,lsC]
 exact ⟨_,rfl,by simp,E⟩
theorem link_eq{r:Aj}{p i c:Nat}{m:Int}(h1:p<r.slots.length)(h2:i<r.slots.length)(h3:c<r.slots.length)(hc:(S0 r.slots i).next=(c:Int))(hpi:p≠i)
  (hm:gi r.many (i:Int)=some m) :
  ∃S',Dh r (p:Int) (i:Int)=some ⟨r.lists,S',r.free,r.at_,r.many.set i (i64 (m+1))⟩∧S'.length=r.slots.length ∧
   ∀q,S0 S' q=⟨(S0 r.slots q).key,if q=p then (i:Int) else (S0 r.slots q).list,if q=c then (p:Int) else if q=p then (i:Int) else (S0 r.slots q).prev,if q=i then (p:Int) else if q=p then (c:Int) else (S0 r.slots q).next⟩:=by
 unfold Dh
 rw [giN h1,ob_,giN h2,ob_]
 have L1:∀x:Av,p<(r.slots.set p x).length:=fun x=>by rw [List.length_set];exact h1
 rw [show (List.getD r.slots i default).next=(c:Int) from hc]
 simp only [lsC,List.set_set]
 rw [giN (L1 _),ob_,getD_set _ _ _ _ h1,if_pos rfl]
 dsimp only
 rw [giN (L1 _),ob_,getD_set _ _ _ _ h1,if_pos rfl]
 dsimp only
 rw [giN (L1 _),ob_,getD_set _ _ _ _ h1,if_pos rfl]
 dsimp only
 rw [giN (by rw [List.length_set];exact h3),ob_,lsC,giN (by rw [List.length_set,List.length_set];exact h2),ob_,hm,ob_]
 refine ⟨_,rfl,by simp,fun q =>?_⟩
 unfold S0
 have g1:∀(x:Av) q,(r.slots.set p x).getD q default=if q=p then x else r.slots.getD q default:=fun x q=>getD_set _ _ _ _ h1
 have g2:∀(x y:Av) q,((r.slots.set p x).set c y).getD q default=if q=c then y else (r.slots.set p x).getD q default:=fun x y q=>getD_set _ _ _ _ (by rw [List.length_set];exact h3)
 have g3:∀(x y z:Av) q,(((r.slots.set p x).set c y).set i z).getD q default=if q=i then z else ((r.slots.set p x).set c y).getD q default:=fun x y z q=>getD_set _ _ _ _ (by rw [List.length_set,List.length_set];exact h2)
 simp only [g3,g2,g1]
 by_cases e1:q=i <;> by_cases e2:q=c <;> by_cases e3:q=p <;> by_cases e4:c=p <;> by_cases e5:i=c <;> by_cases e6:i=p <;> simp_all
theorem i64s(n:Int)(h1 : -9223372036854775808≤n)(h2:n<9223372036854775808):i64 n=n:=by unfold i64;omega
section
variable {k n:Nat} {S:List Av} {many:List Int} {P:List (List Nat)}
theorem Cor.ikl(h:Cor k n S many P){i:Nat}{Q:List Nat}(hQ:P[i]? = some Q):i<k:=by
 have:=(List.getElem?_eq_some_iff.1 hQ).1;have:=h.pl;omega
theorem cut_ok{r:Aj}(h:Cor k n r.slots r.many P)(hn:n≤4096){i:Nat}{A B:List Nat}{p:Nat}(hP:P[i]? = some (A++p::B)):
  ∃S' many',Dr r (p:Int)=some ⟨r.lists,S',r.free,r.at_,many'⟩∧Cor k n S' many' (P.set i (A++B))∧S'.length=r.slots.length∧∀q,(S0 S' q).key=(S0 r.slots q).key:=by
 have hik:=h.ikl hP
 have hp:=h.rg p (mem_fl hP (by simp))
 obtain ⟨X,a,ha⟩:=ends i A
 obtain ⟨b,Y,hb⟩:=begins i B
 have hl:=h.lk i _ hP
 have path:i::((A++p::B)++[i])=X++a::p::b::Y:=by
  rw [show i::((A++p::B)++[i])=(i::A)++p::(B++[i]) by simp,ha,hb];simp
 have path2:i::((A++B)++[i])=X++a::b::Y:=by
  rw [show i::((A++B)++[i])=(i::A)++(B++[i]) by simp,ha,hb];simp
 rw [path] at hl
 obtain ⟨_,l1,l2,l3⟩:=(lk_app X a p (b::Y)).1 hl
 obtain ⟨l4,l5,_⟩:=l3
 have hnd:(i::(A++p::B)).Nodup:=by
  refine List.nodup_cons.2 ⟨fun hm =>?_,fl_nd h.nd hP⟩
  have:=(h.rg i (mem_fl hP hm)).1;omega
 have am:a∈i::A:=by rw [ha];simp
 have bm:b∈B++[i]:=by rw [hb];simp
 have A1:a<k+n:=by
  rcases List.mem_cons.1 am with rfl | q
  ·omega
  ·exact (h.rg a (mem_fl hP (by simp [q]))).2
 have B1:b<k+n:=by
  rcases List.mem_append.1 bm with q | q
  ·exact (h.rg b (mem_fl hP (by simp [q]))).2
  ·simp at q;omega
 have hm:gi r.many (i:Int)=some ((A++p::B).length:Int):=by rw [h.mn];exact lens_get hP
 obtain ⟨S',e,hlen,hS⟩:=cut_eq (r:=r) (by rw [h.len];exact hp.2) (by rw [h.len];exact A1) (by rw [h.len];exact B1) l2 l4 (h.ow i _ hP p (by simp)) hm
 have hnA:(i::A).Nodup:=by
  have:(i::A).Sublist (i::(A++p::B)):=by simp
  exact this.nodup hnd
 have hnB:(B++[i]).Nodup:=by
  have hi:i∉A++p::B:=(List.nodup_cons.1 hnd).1
  have:=(List.nodup_cons.1 hnd).2
  rw [List.nodup_append] at this ⊢
  refine ⟨(List.nodup_cons.1 this.2.1).2,by simp,?_⟩
  rintro x hx y hy rfl
  simp at hy;subst hy
  exact hi (by simp [hx])
 have dj:∀x,x∈i::A→x∈B→False:=by
  intro x hx hB
  rcases List.mem_cons.1 hx with rfl | q
  ·exact (List.nodup_cons.1 hnd).1 (by simp [hB])
  ·have:=(List.nodup_cons.1 hnd).2
   rw [List.nodup_append] at this
   exact this.2.2 x q x (by simp [hB]) rfl
 have n1:a∉X:=by rw [ha] at hnA;rw [List.nodup_append] at hnA;intro q;exact hnA.2.2 a q a (by simp) rfl
 have n2:a∉(b::Y).dropLast:=by rw [←hb,List.dropLast_concat];exact fun q=>dj a am q
 have n3:b∉Y:=by rw [hb] at hnB;exact (List.nodup_cons.1 hnB).1
 have n4:b∉(X++[a]).tail:=by
  rw [←ha,List.tail_cons]
  intro q
  rcases List.mem_append.1 bm with q2 | q2
  ·exact dj b (by simp [q]) q2
  ·simp at q2;subst q2;exact (List.nodup_cons.1 hnA).1 q
 have hk:∀q,(S0 S' q).key=(S0 r.slots q).key:=fun q=>by rw [hS]
 refine ⟨S',_,e,⟨by rw [hlen,h.len],by rw [List.length_set,h.pl],?_,?_,?_,?_,?_⟩,hlen,hk⟩
 ·have hle:(A++p::B).length≤n:=by
   have s1:(A++p::B).Sublist P.flatten:=by
    obtain ⟨U,V,rfl,_,_⟩:=dec hP
    rw [List.flatten_append,List.flatten_cons]
    exact (List.sublist_append_left _ _).trans (List.sublist_append_right _ _)
   have hr:∀x∈A++p::B,x∈List.range' k n:=fun x hx=>by
    have:=h.rg x (s1.subset hx);rw [List.mem_range'_1];omega
   have:=(s1.nodup h.nd).length_le_of_subset hr
   simpa using this
  rw [h.mn,lens_set]
  rw [i64s] <;> simp at hle ⊢ <;> omega
 ·intro j Q hj
  by_cases hji:j=i
  ·subst hji
   rw [List.getElem?_set_self (by rw [h.pl];exact hik)] at hj
   cases hj
   rw [path2]
   exact lk_cut hl (fun q=>by unfold nxS;rw [hS]) (fun q=>by unfold pvS;rw [hS]) n1 n2 n3 n4
  ·rw [List.getElem?_set_ne (fun e=>hji e.symm)] at hj
   have hjk:=h.ikl hj
   have hnin:∀x,x∈i::(A++p::B)→x∉j::(Q++[j]):=by
    intro x hx hx2
    have h2:x=j∨x∈Q:=by simpa [or_comm] using hx2
    rcases List.mem_cons.1 hx with rfl | q
    ·rcases h2 with rfl | h2
     ·exact hji rfl
     ·have:=(h.rg x (mem_fl hj h2)).1;omega
    ·rcases h2 with rfl | h2
     ·have:=(h.rg x (mem_fl hP q)).1;omega
     ·exact fl_dj h.nd hP hj (fun e=>hji e.symm) q h2
   have am2:a∈i::(A++p::B):=by rcases List.mem_cons.1 am with q | q <;> simp [q]
   have bm2:b∈i::(A++p::B):=by
    rcases List.mem_append.1 bm with q | q
    ·simp [q]
    ·simp at q;simp [q]
   refine lk_cg (fun q hq =>?_) (fun q hq =>?_) (h.lk j Q hj)
   ·unfold nxS;rw [hS];dsimp only;rw [if_neg];rintro rfl;exact hnin _ am2 (List.dropLast_sublist _ |>.subset hq)
   ·unfold pvS;rw [hS];dsimp only;rw [if_neg];rintro rfl;exact hnin _ bm2 (List.mem_of_mem_tail hq)
 ·intro j Q hj x hx
  rw [hS]
  dsimp only
  by_cases hji:j=i
  ·subst hji
   rw [List.getElem?_set_self (by rw [h.pl];exact hik)] at hj
   cases hj
   exact h.ow j _ hP x (by rcases List.mem_append.1 hx with q | q <;> simp [q])
  ·rw [List.getElem?_set_ne (fun e=>hji e.symm)] at hj
   exact h.ow j Q hj x hx
 ·obtain ⟨U,V,e1,_,e2⟩:=dec hP
  rw [e2]
  have:=h.nd
  rw [e1] at this
  refine List.Sublist.nodup ?_ this
  simp only [List.flatten_append,List.flatten_cons]
  exact List.Sublist.append (List.Sublist.refl _) (List.Sublist.append (List.Sublist.append (List.Sublist.refl _) (List.sublist_cons_self _ _)) (List.Sublist.refl _))
 ·intro x hx
  apply h.rg
  obtain ⟨U,V,e1,_,e2⟩:=dec hP
  rw [e2] at hx
  rw [e1]
  simp only [List.flatten_append,List.flatten_cons,List.mem_append,List.mem_cons] at hx ⊢
  rcases hx with q | (q | q) | q <;> simp [q]
theorem link_ok{r:Aj}(h:Cor k n r.slots r.many P)(hn:n≤4096){i:Nat}{Q:List Nat}{p:Nat}(hP:P[i]? = some Q)(hp:p∉P.flatten)(hp1:k≤p)(hp2:p<k+n):
  ∃S' many',Dh r (p:Int) (i:Int)=some ⟨r.lists,S',r.free,r.at_,many'⟩∧Cor k n S' many' (P.set i (p::Q))∧S'.length=r.slots.length∧∀q,(S0 S' q).key=(S0 r.slots q).key:=by
 have hik:=h.ikl hP
 obtain ⟨c,Y,hc⟩:=begins i Q
 have hl:=h.lk i _ hP
 rw [hc] at hl
 have l1:(S0 r.slots i).next=(c:Int):=hl.1
 have hpQ:p∉Q:=fun q=>hp (mem_fl hP q)
 have hpi:p≠i:=by omega
 have cm:c∈Q++[i]:=by rw [hc];simp
 have C1:c<k+n:=by
  rcases List.mem_append.1 cm with q | q
  ·exact (h.rg c (mem_fl hP q)).2
  ·simp at q;omega
 have hpc:p≠c:=by
  rintro rfl
  rcases List.mem_append.1 cm with q | q
  ·exact hpQ q
  ·simp at q;exact hpi q
 have hiQ:i∉Q:=fun q=>by have:=(h.rg i (mem_fl hP q)).1;omega
 have hnQ:(Q++[i]).Nodup:=by
  rw [List.nodup_append]
  refine ⟨fl_nd h.nd hP,by simp,?_⟩
  rintro x hx y hy rfl
  simp at hy;subst hy;exact hiQ hx
 have hm:gi r.many (i:Int)=some (Q.length:Int):=by rw [h.mn];exact lens_get hP
 obtain ⟨S',e,hlen,hS⟩:=link_eq (r:=r) (p:=p) (by rw [h.len];exact hp2) (by rw [h.len];omega) (by rw [h.len];exact C1) l1 hpi hm
 refine ⟨S',_,e,⟨by rw [hlen,h.len],by rw [List.length_set,h.pl],?_,?_,?_,?_,?_⟩,hlen,fun q=>by rw [hS]⟩
 ·have hle:Q.length≤n:=by
   have s1:Q.Sublist P.flatten:=by
    obtain ⟨U,V,rfl,_,_⟩:=dec hP
    rw [List.flatten_append,List.flatten_cons]
    exact (List.sublist_append_left _ _).trans (List.sublist_append_right _ _)
   have hr:∀x∈Q,x∈List.range' k n:=fun x hx=>by
    have:=h.rg x (s1.subset hx);rw [List.mem_range'_1];omega
   have:=(s1.nodup h.nd).length_le_of_subset hr
   simpa using this
  rw [h.mn,lens_set]
  rw [i64s _ (by omega) (by omega)];simp
 ·intro j T hj
  by_cases hji:j=i
  ·subst hji
   rw [List.getElem?_set_self (by rw [h.pl];exact hik)] at hj
   cases hj
   rw [List.cons_append,hc]
   refine lk_link hl (fun q=>by unfold nxS;rw [hS]) (fun q=>by unfold pvS;rw [hS]) hpi hpc ?_ ?_ ?_
   ·rw [←hc,List.dropLast_concat];exact hiQ
   ·rw [←hc];intro q;rcases List.mem_append.1 q with q | q
    ·exact hpQ q
    ·simp at q;exact hpi q
   ·rw [hc] at hnQ;exact (List.nodup_cons.1 hnQ).1
  ·rw [List.getElem?_set_ne (fun e=>hji e.symm)] at hj
   have hjk:=h.ikl hj
   have hnin:∀x,(x=p∨x∈i::Q)→x∉j::(T++[j]):=by
    intro x hx hx2
    have h2:x=j∨x∈T:=by simpa [or_comm] using hx2
    rcases hx with rfl | hx
    ·rcases h2 with rfl | h2
     ·omega
     ·exact hp (mem_fl hj h2)
    ·rcases List.mem_cons.1 hx with rfl | q
     ·rcases h2 with rfl | h2
      ·exact hji rfl
      ·have:=(h.rg x (mem_fl hj h2)).1;omega
     ·rcases h2 with rfl | h2
      ·have:=(h.rg x (mem_fl hP q)).1;omega
      ·exact fl_dj h.nd hP hj (fun e=>hji e.symm) q h2
   have cm2:c∈i::Q:=by
    rcases List.mem_append.1 cm with q | q
    ·simp [q]
    ·simp at q;simp [q]
   refine lk_cg (fun q hq =>?_) (fun q hq =>?_) (h.lk j T hj)
   ·have hq':=List.dropLast_sublist _ |>.subset hq
    unfold nxS;rw [hS];dsimp only;rw [if_neg,if_neg]
    ·rintro rfl;exact hnin _ (.inl rfl) hq'
    ·rintro rfl;exact hnin _ (.inr (by simp)) hq'
   ·have hq':=List.mem_of_mem_tail hq
    unfold pvS;rw [hS];dsimp only;rw [if_neg,if_neg]
    ·rintro rfl;exact hnin _ (.inl rfl) hq'
    ·rintro rfl;exact hnin _ (.inr cm2) hq'
 ·intro j T hj x hx
  rw [hS]
  dsimp only
  by_cases hji:j=i
  ·subst hji
   rw [List.getElem?_set_self (by rw [h.pl];exact hik)] at hj
   cases hj
   rcases List.mem_cons.1 hx with e | hx2
   ·rw [if_pos e]
   ·rw [if_neg (fun e:x=p=>hpQ (e▸hx2))];exact h.ow j _ hP x hx2
  ·rw [List.getElem?_set_ne (fun e=>hji e.symm)] at hj
   rw [if_neg (by rintro rfl;exact hp (mem_fl hj hx))]
   exact h.ow j T hj x hx
 ·obtain ⟨U,V,e1,_,e2⟩:=dec hP
  rw [e2]
  have h1:=h.nd
  rw [e1] at h1 hp
  have pm:(U++(p::Q)::V).flatten.Perm (p::(U++Q::V).flatten):=by
   simp only [List.flatten_append,List.flatten_cons,List.cons_append]
   exact List.perm_middle
  exact pm.nodup_iff.2 (List.nodup_cons.2 ⟨hp,h1⟩)
 ·intro x hx
  obtain ⟨U,V,e1,_,e2⟩:=dec hP
  rw [e2] at hx
  have:x=p∨x∈P.flatten:=by
   rw [e1]
   simp only [List.flatten_append,List.flatten_cons,List.mem_append,List.mem_cons] at hx ⊢
   rcases hx with q | (q | q) | q <;> simp [q]
  rcases this with rfl | q
  ·exact ⟨hp1,hp2⟩
  ·exact h.rg x q
end
abbrev ky(S:List Av)(p:Nat):Str:=(S0 S p).key
def keysOf(S:List Av)(P:List (List Nat)):List (List Str):=P.map fun l=>l.map (ky S)
theorem keys_cg{S S':List Av}{P:List (List Nat)}(h:∀p∈P.flatten,ky S' p=ky S p):keysOf S' P=keysOf S P:=by
 unfold keysOf
 refine List.map_congr_left fun l hl=>List.map_congr_left fun p hp=>h p (List.mem_flatten.2 ⟨l,hl,hp⟩)
theorem keys_set(S:List Av)(P:List (List Nat))(i:Nat)(Q:List Nat):keysOf S (P.set i Q)=(keysOf S P).set i (Q.map (ky S)):=by
 unfold keysOf;rw [List.map_set]
theorem keys_fl(S:List Av)(P:List (List Nat)):(keysOf S P).flatten=P.flatten.map (ky S):=by
 unfold keysOf;rw [List.map_flatten]
theorem keys_get{S:List Av}{P:List (List Nat)}{i:Nat}{l:List Str}(h:(keysOf S P)[i]? = some l):∃Q,P[i]? = some Q∧l=Q.map (ky S):=by
 unfold keysOf at h
 rw [List.getElem?_map] at h
 cases e:P[i]? with
 | none=>rw [e] at h;cases h
 | some Q=>rw [e] at h;cases h;exact ⟨Q,rfl,rfl⟩
theorem keys_get'(S:List Av){P:List (List Nat)}{i:Nat}{Q:List Nat}(h:P[i]? = some Q):(keysOf S P)[i]? = some (Q.map (ky S)):=by
 unfold keysOf;rw [List.getElem?_map,h];rfl
structure Rg (k n:Nat) (r:Aj) (P:List (List Nat)) (f:List Nat):Prop where
 co:Cor k n r.slots r.many P
 hl:r.lists=(k:Int)
 fr:r.free=f.map fun (p:Nat)=>(p:Int)
 pm:(P.flatten++f).Nodup
 fg:∀p∈f,k≤p∧p<k+n
 ct:P.flatten.length+f.length=n
 uk:Uk r.at_
 at1:∀key v,mget r.at_ key=some v↔∃p∈P.flatten,v=(p:Int)∧ky r.slots p=key
 kl:∀p∈P.flatten,(ky r.slots p).length≤64
def RR(k n:Nat)(r:Aj)(L:List (List Str)):Prop:=∃P f,Rg k n r P f∧L=keysOf r.slots P
def rmK(L:List (List Str))(key:Str):List (List Str):=L.map fun l=>l.filter fun x => !(x==key)
def frK(L:List (List Str))(i:Nat)(key:Str):List (List Str):=(rmK L key).set i (key::(rmK L key).getD i [])
theorem filter_no{l:List Str}{key:Str}(h:key∉l):l.filter (fun x => !(x==key))=l:=by
 rw [List.filter_eq_self]
 intro a ha
 simp only [Bool.not_eq_true',beq_eq_false_iff_ne,ne_eq]
 rintro rfl;exact h ha
theorem rmK_no{L:List (List Str)}{key:Str}(h:key∉L.flatten):rmK L key=L:=by
 unfold rmK
 conv=>rhs;rw [←List.map_id L]
 refine List.map_congr_left fun l hl=>filter_no fun hm=>h (List.mem_flatten.2 ⟨l,hl,hm⟩)
theorem rmK_set{L:List (List Str)}{key:Str}{i:Nat}{a b:List Str}(hn:L.flatten.Nodup)(h:L[i]? = some (a++key::b)):rmK L key=L.set i (a++b):=by
 obtain ⟨U,V,e1,e3,e2⟩:=dec h
 rw [e2]
 rw [e1] at hn ⊢
 have pm:(U++(a++key::b)::V).flatten.Perm (key::(U.flatten++(a++(b++V.flatten)))):=by
  simp only [List.flatten_append,List.flatten_cons]
  refine List.perm_iff_count.2 fun x =>?_
  simp only [List.count_append,List.count_cons];omega
 have hk:=(List.nodup_cons.1 (pm.nodup_iff.1 hn)).1
 simp only [List.mem_append,not_or] at hk
 have h1:=rmK_no (L:=U) hk.1
 have h2:=rmK_no (L:=V) hk.2.2.2
 unfold rmK at h1 h2 ⊢
 rw [List.map_append,List.map_cons,h1,h2,List.filter_append,List.filter_cons,if_neg (by simp),filter_no hk.2.1,filter_no hk.2.2.1]
section
variable {k n:Nat} {r:Aj} {L:List (List Str)} {P:List (List Nat)} {f:List Nat}
theorem Rg.inj(h:Rg k n r P f){p q:Nat}(hp:p∈P.flatten)(hq:q∈P.flatten)(e:ky r.slots p=ky r.slots q):p=q:=by
 have h1:=(h.at1 (ky r.slots p) p).2 ⟨p,hp,rfl,rfl⟩
 have h2:=(h.at1 (ky r.slots p) q).2 ⟨q,hq,rfl,e.symm⟩
 rw [h1] at h2
 simp at h2;omega
theorem Rg.nd(h:Rg k n r P f):(keysOf r.slots P).flatten.Nodup:=by
 rw [keys_fl]
 have:=h.co.nd
 unfold List.Nodup at this ⊢
 rw [List.pairwise_map]
 refine List.Pairwise.imp_of_mem (fun ha hb hab e=>hab (h.inj ha hb e)) this
theorem RR.nd(h:RR k n r L):L.flatten.Nodup:=by obtain ⟨P,f,h,rfl⟩:=h;exact h.nd
theorem RR.len(h:RR k n r L):L.length=k:=by obtain ⟨P,f,h,rfl⟩:=h;rw [keysOf,List.length_map,h.co.pl]
theorem RR.tot(h:RR k n r L):L.flatten.length+r.free.length=n:=by obtain ⟨P,f,h,rfl⟩:=h;rw [keys_fl,List.length_map,h.fr,List.length_map];exact h.ct
theorem RR.kl(h:RR k n r L):∀x∈L.flatten,x.length≤64:=by
 obtain ⟨P,f,h,rfl⟩:=h
 rw [keys_fl]
 intro x hx
 obtain ⟨p,hp,rfl⟩:=List.mem_map.1 hx
 exact h.kl p hp
theorem RR.is(h:RR k n r L)(i:Nat):CK r (i:Int)=decide (i<k):=by
 obtain ⟨P,f,h,rfl⟩:=h
 unfold CK;rw [h.hl];simp
theorem RR.Len(h:RR k n r L){i:Nat}{l:List Str}(hl:L[i]? = some l):Aw r (i:Int)=some (l.length:Int):=by
 have hi:i<k:=by have:=(List.getElem?_eq_some_iff.1 hl).1;have:=h.len;omega
 have his:=h.is i
 obtain ⟨P,f,h,rfl⟩:=h
 obtain ⟨Q,hQ,rfl⟩:=keys_get hl
 unfold Aw
 rw [his,if_neg (by simp [hi]),h.co.mn,lens_get hQ,ob_]
 simp
theorem RR.in_none(h:RR k n r L){key:Str}(hk:key∉L.flatten):BK r key=some (0,false):=by
 obtain ⟨P,f,h,rfl⟩:=h
 rw [keys_fl] at hk
 have:mget r.at_ key=none:=by
  cases e:mget r.at_ key with
  | none=>rfl
  | some v =>
   obtain ⟨p,hp,_,rfl⟩:=(h.at1 key v).1 e
   exact absurd (List.mem_map_of_mem hp) hk
 unfold BK
 rw [this,if_pos (by simp)]
theorem RR.in_some(h:RR k n r L){key:Str}{i:Nat}{l:List Str}(hl:L[i]? = some l)(hk:key∈l):BK r key=some ((i:Int),true):=by
 obtain ⟨P,f,h,rfl⟩:=h
 obtain ⟨Q,hQ,rfl⟩:=keys_get hl
 obtain ⟨p,hp,rfl⟩:=List.mem_map.1 hk
 have hm:=mem_fl hQ hp
 have:=(h.at1 (ky r.slots p) p).2 ⟨p,hm,rfl,rfl⟩
 unfold BK
 rw [this,if_neg (by simp),Option.getD_some,giN (by rw [h.co.len];exact (h.co.rg p hm).2),ob_]
 have:=h.co.ow i Q hQ p hp
 unfold S0 at this
 rw [this]
theorem RR.Back0(h:RR k n r L){i:Nat}(hl:L[i]? = some []):AF r (i:Int)=some ([],false):=by
 unfold AF
 rw [h.Len hl,ob_]
 rfl
theorem RR.Back(h:RR k n r L){i:Nat}{l:List Str}{x:Str}(hl:L[i]? = some (l++[x])):AF r (i:Int)=some (x,true):=by
 have e:=h.Len hl
 obtain ⟨P,f,h,rfl⟩:=h
 obtain ⟨Q,hQ,e2⟩:=keys_get hl
 have hQ2:∃Q' p,Q=Q'++[p]∧x=ky r.slots p:=by
  have:Q≠[]:=by rintro rfl;simp at e2
  refine ⟨Q.dropLast,Q.getLast this,(List.dropLast_concat_getLast this).symm,?_⟩
  rw [←List.dropLast_concat_getLast this,List.map_append] at e2
  have:=List.append_inj_right' e2 (by simp)
  simpa using this
 obtain ⟨Q',p,rfl,rfl⟩:=hQ2
 have hm:=mem_fl hQ (p:=p) (by simp)
 have lk:=h.co.lk i _ hQ
 rw [show i::((Q'++[p])++[i])=(i::Q')++p::i::[] by simp] at lk
 have hp:=((lk_app _ _ _ _).1 lk).2.2.1
 have hi:i<k:=h.co.ikl hQ
 unfold AF
 rw [e,ob_,if_neg (by simp;omega),giN (by rw [h.co.len];omega),ob_]
 unfold pvS S0 at hp
 rw [hp,giN (by rw [h.co.len];exact (h.co.rg p hm).2),ob_]
end
end Go.Proofs.YtpanhdnglicknaaGreat.Pure
