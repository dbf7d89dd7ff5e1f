import Derived.Test.YtpanhdnglicknaaGreatW4
import Derived.Test.YtpanhdnglicknaaGreatQ0
import Derived.Test.YtpanhdnglicknaaGreatQ1
import Derived.Test.YtpanhdnglicknaaGreatQ2
set_option linter.unusedVariables false
set_option linter.unusedSectionVars false
set_option linter.unusedSimpArgs false
set_option maxRecDepth 100000
set_option maxHeartbeats 4000000
namespace Go.Proofs.YtpanhdnglicknaaGreat.Pure
open Go Go.Proofs.YtpanhdnglicknaaGreat.Hw
section
variable {n:Nat} {seed:UInt64} {t:Af} {s:Sk} {x:TL} {k:Str}
def tbytes(n:Nat)(seed:UInt64)(s:Sk)(x:TL):Str:=(enc 11 n++s.bytes (wd n) seed)++rb 3 (n+1) x.L
theorem sk_size{w:Nat}(hs:s.ok w)(h2:w≤4096):(s.bytes w seed).length≤5*w+33:=by
 have e1:=enc_len 11 (toW (w:Int)).toNat
 have e2:=enc_len 11 seed.toNat
 have e3:=enc_len 11 (toW (s.n:Int)).toNat
 unfold Sk.bytes bits
 simp only [List.length_append,List.length_map,hs.ha,hs.hb,hs.hc,hs.he,hs.hd]
 omega
theorem rb_size(h:TR n seed t s x):(rb 3 (n+1) x.L).length≤400000:=by
 obtain ⟨r,hr,hR⟩:=h.rg
 have hn:=h.n2
 have:=hR.size (by omega) (by omega)
 have e1:=enc_len 11 3
 have e2:=enc_len 11 (n+1)
 unfold rb
 simp only [List.length_append]
 omega
theorem tsize(h:TR n seed t s x):(tbytes n seed s x).length≤450000:=by
 have e1:=enc_len 11 n
 have e2:=sk_size (seed:=seed) h.ok h.w2
 have e3:=rb_size h
 have w2:=h.w2
 unfold tbytes
 simp only [List.length_append];omega
theorem TR.Export(h:TR n seed t s x):Cu t=some (tbytes n seed s x):=by
 obtain ⟨r,hr,hR⟩:=h.rg
 have hn:=h.n2
 have e1:=enc_len 11 n
 have e2:=sk_size (seed:=seed) h.ok h.w2
 have e3:=rb_size h
 have w2:=h.w2
 have hM:500000≤maxS:=by decide
 unfold Cu tbytes
 rw [h.ms,num_c n (by omega),Option.bind_some,h.sk,om_some,Exp_c h.w2 h.ok,Option.bind_some,if_pos (by omega),hr,om_some,hR.Export (by omega) (by omega),Option.bind_some,if_pos (by rw [List.length_append];omega)]
theorem TR.Take(h:TR n seed t s x)(rest:Str):∃t',Ds ⟨tbytes n seed s x++rest⟩=some (.inl (some t',⟨rest⟩))∧TR n seed t' s x:=by
 obtain ⟨r,hr,hR⟩:=h.rg
 have hn:=h.n2
 have hn1:=h.n1
 have hN:=toW_len n (by omega)
 obtain ⟨r',e1,hR'⟩:=Take_back hR (by omega) (by omega) (by omega) rest
 have e2:=take_back (wd n) seed s (rb 3 (n+1) x.L++rest) h.w1 h.w2 h.ok
 have b1:=num_back (toW (n:Int)) 1000 (s.bytes (wd n) seed++(rb 3 (n+1) x.L++rest)) (by rw [UInt64.le_iff_toNat_le,hN,show (1000:UInt64).toNat=1000 by decide];exact hn)
 have eN:i64 ((n:Nat):Int)=(n:Int):=i64s _ (by omega) (by omega)
 have e:tbytes n seed s x++rest=enc 11 n++(s.bytes (wd n) seed++(rb 3 (n+1) x.L++rest)):=by unfold tbytes;simp only [List.append_assoc]
 rw [hN] at b1
 generalize toW (n:Int)=K at hN b1
 have eK:i64 ((K.toNat:Nat):Int)=(n:Int):=by rw [hN,eN]
 have hT:TR n seed ⟨(n:Int),some (s.C (wd n) seed),some r'⟩ s x:=⟨h.n1,h.n2,rfl,rfl,h.ok,⟨r',rfl,hR'⟩,h.bb,h.ba,h.bc⟩
 refine ⟨_,?_,hT⟩
 have hl:=hT.Len
 have hfree:AI r'=(((n+1)-x.n:Nat):Int):=by
  have:=hR'.tot
  rw [fl_all,all_n] at this
  unfold AI
  omega
 have hbn:=h.bn
 have hw:Ce (s.C (wd n) seed)=(wd n:Int):=rfl
 have hb0:=h.ba
 have hb2:=h.bc
 unfold Ds
 rw [e,b1,Option.bind_some,sm_inl]
 dsimp only
 rw [eK,decide_eq_true (by omega:(1:Int)≤(n:Int)),must_t,lt_eq,sm_inl,e2,Option.bind_some,sm_inl]
 dsimp only
 rw [om_some,hw,wide_c n hn,show ((wd n:Int)==(wd n:Int))=true from beq_self_eq_true _,must_t,lt_eq,sm_inl,e1,Option.bind_some,sm_inl]
 dsimp only
 rw [om_some,show AT r'=(3:Int) from hR'.lists,if_pos (by rfl),hl,Option.bind_some,hfree,i64s ((((n+1)-x.n:Nat):Int)+(x.n:Int)) (by omega) (by omega),i64s ((n:Int)+1) (by omega) (by omega),
  if_pos (by rw [beq_iff_eq];omega),if_pos (by simp;omega),show Aq r' 0=_ from hR'.Len (i:=0) (l:=x.a) rfl,Option.bind_some,parts_c n hn hn1]
 dsimp only
 rw [if_pos (by simp;omega),show Aq r' 2=_ from hR'.Len (i:=2) (l:=x.c) rfl,Option.bind_some,decide_eq_true (by omega:(x.c.length:Int)≤(Sf n:Int)),must_t,lt_eq,sm_inl]
end
section
variable {n:Nat} {t:Ai} {x:AL}
def abytes(n g:Nat)(x:AL):Str:=(enc 11 n++enc 11 g)++rb 4 (2*n+1) x.L
theorem AR.fll(h:AR n t x):x.L.flatten.length≤2*n:=by
 have h3:=h.b3
 rw [afl];unfold AL.all;simp only [List.length_append];omega
theorem AR.gt(h:AR n t x):∃g:Nat,t.target=(g:Int)∧g≤n:=by
 obtain ⟨h1,h2⟩:=h.tg
 exact ⟨t.target.toNat,by omega,by omega⟩
theorem AR.rsize(h:AR n t x):(rb 4 (2*n+1) x.L).length≤400000:=by
 obtain ⟨r,hr,hR⟩:=h.rg
 have hn:=h.n2
 have:=hR.size (by omega) (by omega)
 have e1:=enc_len 11 4
 have e2:=enc_len 11 (2*n+1)
 unfold rb
 simp only [List.length_append]
 omega
theorem AR.Export(h:AR n t x){g:Nat}(hg:t.target=(g:Int))(hgn:g≤n):CY t=some (abytes n g x):=by
 obtain ⟨r,hr,hR⟩:=h.rg
 have hn:=h.n2
 have e1:=enc_len 11 n
 have e2:=enc_len 11 g
 have e3:=h.rsize
 have hM:500000≤maxS:=by decide
 unfold CY abytes
 rw [h.ms,hg,num_c n (by omega),Option.bind_some,num_c g (by omega),Option.bind_some,if_pos (by omega),hr,om_some,hR.Export (by omega) (by omega),Option.bind_some,if_pos (by rw [List.length_append];omega)]
theorem AR.size(h:AR n t x){g:Nat}: (abytes n g x).length≤400100:=by
 have e1:=enc_len 11 n
 have e2:=enc_len 11 g
 have e3:=h.rsize
 unfold abytes
 simp only [List.length_append];omega
theorem i64add(a b:Nat)(h:a+b≤100000):i64 ((a:Int)+(b:Int))=((a+b:Nat):Int):=by rw [i64s _ (by omega) (by omega)];omega
theorem i64sub(a b:Nat)(h:b≤a)(ha:a≤100000):i64 ((a:Int)-(b:Int))=((a-b:Nat):Int):=by rw [i64s _ (by omega) (by omega)];omega
theorem i64_2n(n:Nat)(h:n≤1000):i64 (2*(n:Int))=((2*n:Nat):Int):=by rw [i64s _ (by omega) (by omega)];omega
theorem i64_2n1(n:Nat)(h:n≤1000):i64 (i64 (2*(n:Int))+1)=((2*n+1:Nat):Int):=by rw [i64_2n n h,i64s _ (by omega) (by omega)];omega
theorem i64nat(n:Nat)(h:n≤100000):i64 (n:Int)=(n:Int):=i64s _ (by omega) (by omega)
theorem AR.Take(h:AR n t x){g:Nat}(hg:t.target=(g:Int))(hgn:g≤n)(rest:Str):∃t',Dw ⟨abytes n g x++rest⟩=some (.inl (some t',⟨rest⟩))∧t'.target=t.target∧AR n t' x:=by
 obtain ⟨r,hr,hR⟩:=h.rg
 have hn:=h.n2
 have hn1:=h.n1
 have b1:=h.b1;have b2:=h.b2;have b3:=h.b3
 have hn5:n≤100000:=by omega
 have hg5:g≤100000:=by omega
 obtain ⟨r',e1,hR'⟩:=Take_back hR (by omega) (by omega) (by omega) rest
 have hT:AR n ⟨(n:Int),(g:Int),some r'⟩ x:=⟨h.n1,h.n2,rfl,⟨Int.natCast_nonneg g,Int.ofNat_le.2 hgn⟩,⟨r',rfl,hR'⟩,h.b1,h.b2,h.b3⟩
 refine ⟨⟨(n:Int),(g:Int),some r'⟩,?_,hg.symm,hT⟩
 have ht:=hR'.tot
 have hfl:=h.fll
 have hall:x.L.flatten.length=x.a.length+x.b.length+x.c.length+x.d.length:=by rw [afl];unfold AL.all;simp only [List.length_append];omega
 have hfree:AI r'=(((2*n+1)-x.L.flatten.length:Nat):Int):=by
  unfold AI
  omega
 have l0:=hR'.Len (i:=0) (l:=x.a) rfl
 have l1:=hR'.Len (i:=1) (l:=x.b) rfl
 have l2:=hR'.Len (i:=2) (l:=x.c) rfl
 have l3:=hR'.Len (i:=3) (l:=x.d) rfl
 have loop:B2 r' 5 (AI r') 0 [0,0,0,0]=some (((2*n+1:Nat):Int),[(x.a.length:Int),(x.b.length:Int),(x.c.length:Int),(x.d.length:Int)]):=by
  have S4:∀(u a b c d:Int),B2 r' 1 u 4 [a,b,c,d]=some (u,[a,b,c,d]):=fun _ _ _ _ _=>rfl
  have S3:∀(u a b c d:Int),B2 r' 2 u 3 [a,b,c,d]=some (i64 (u+(x.d.length:Int)),[a,b,c,(x.d.length:Int)]):=fun u a b c d=>by
   unfold B2
   rw [if_pos (by decide),show Aq r' 3=_ from l3,Option.bind_some,if_pos (by decide)]
   exact S4 _ _ _ _ _
  have S2:∀(u a b c d:Int),B2 r' 3 u 2 [a,b,c,d]=some (i64 (i64 (u+(x.c.length:Int))+(x.d.length:Int)),[a,b,(x.c.length:Int),(x.d.length:Int)]):=fun u a b c d=>by
   unfold B2
   rw [if_pos (by decide),show Aq r' 2=_ from l2,Option.bind_some,if_pos (by decide)]
   exact S3 _ _ _ _ _
  have S1:∀(u a b c d:Int),B2 r' 4 u 1 [a,b,c,d]=some (i64 (i64 (i64 (u+(x.b.length:Int))+(x.c.length:Int))+(x.d.length:Int)),[a,(x.b.length:Int),(x.c.length:Int),(x.d.length:Int)]):=fun u a b c d=>by
   unfold B2
   rw [if_pos (by decide),show Aq r' 1=_ from l1,Option.bind_some,if_pos (by decide)]
   exact S2 _ _ _ _ _
  unfold B2
  rw [if_pos (by decide),show Aq r' 0=_ from l0,Option.bind_some,if_pos (by decide)]
  refine (S1 (i64 (AI r'+(x.a.length:Int))) (x.a.length:Int) 0 0 0).trans ?_
  rw [hfree,i64add _ _ (by omega),i64add _ _ (by omega),i64add _ _ (by omega),i64add _ _ (by omega)]
  congr 3
  omega
 have f1:((x.a.length+x.b.length:Nat):Int)≤(n:Int):=by omega
 have f2:((x.a.length+x.c.length:Nat):Int)≤(n:Int):=by omega
 have f3:((x.L.flatten.length:Nat):Int)≤((2*n:Nat):Int):=by omega
 have g1:x.a.length+x.b.length≤100000:=by omega
 have g2:x.a.length+x.c.length≤100000:=by omega
 have o1:(1:Int)≤(n:Int):=by omega
 have hsub:(2*n+1)-((2*n+1)-x.L.flatten.length)=x.L.flatten.length:=by omega
 have hN:=toW_len n hn5
 have hG:=toW_len g hg5
 have q1:=num_back (toW (n:Int)) 1000 (enc 11 g++(rb 4 (2*n+1) x.L++rest)) (by rw [UInt64.le_iff_toNat_le,hN,show (1000:UInt64).toNat=1000 by decide];exact Nat.le_trans hn (by decide))
 have q2:=num_back (toW (g:Int)) (toW (n:Int)) (rb 4 (2*n+1) x.L++rest) (by rw [UInt64.le_iff_toNat_le,hN,hG];exact hgn)
 have e:abytes n g x++rest=enc 11 n++(enc 11 g++(rb 4 (2*n+1) x.L++rest)):=by unfold abytes;simp only [List.append_assoc]
 rw [hN] at q1
 rw [hG] at q2
 generalize hK:toW (n:Int)=K at hN q1 q2
 generalize toW (g:Int)=J at hG q2
 have eK:i64 ((K.toNat:Nat):Int)=(n:Int):=by rw [hN,i64nat n hn5]
 have eJ:i64 ((J.toNat:Nat):Int)=(g:Int):=by rw [hG,i64nat g hg5]
 have m1:i64 (i64 (2*(n:Int))+1)=((2*n+1:Nat):Int):=i64_2n1 n hn
 have m2:i64 (2*(n:Int))=((2*n:Nat):Int):=i64_2n n hn
 have m5:i64 (((2*n+1:Nat):Int)-AI r')=((x.L.flatten.length:Nat):Int):=by rw [hfree,i64sub _ _ (Nat.sub_le _ _) (Nat.le_trans (Nat.add_le_add_right (Nat.mul_le_mul_left 2 hn) 1) (by decide)),hsub]
 unfold Dw
 rw [e,q1,Option.bind_some,sm_inl]
 dsimp only
 rw [eK,decide_eq_true o1,must_t,lt_eq,sm_inl,hK,q2,Option.bind_some,sm_inl]
 dsimp only
 rw [eJ,e1,Option.bind_some,sm_inl]
 dsimp only
 rw [om_some,loop,Option.bind_some]
 dsimp only
 have c1:((((2*n+1:Nat):Int)==i64 (i64 (2*(n:Int))+1))&&decide (i64 (([(x.a.length:Int),(x.b.length:Int),(x.c.length:Int),(x.d.length:Int)].getD 0 default)+([(x.a.length:Int),(x.b.length:Int),(x.c.length:Int),(x.d.length:Int)].getD 1 default))≤(n:Int))&&decide (i64 (([(x.a.length:Int),(x.b.length:Int),(x.c.length:Int),(x.d.length:Int)].getD 0 default)+([(x.a.length:Int),(x.b.length:Int),(x.c.length:Int),(x.d.length:Int)].getD 2 default))≤(n:Int)))=true:=by
  show ((((2*n+1:Nat):Int)==i64 (i64 (2*(n:Int))+1))&&decide (i64 ((x.a.length:Int)+(x.b.length:Int))≤(n:Int))&&decide (i64 ((x.a.length:Int)+(x.c.length:Int))≤(n:Int)))=true
  rw [m1,i64add _ _ g1,i64add _ _ g2,beq_self_eq_true,decide_eq_true f1,decide_eq_true f2];rfl
 rw [if_pos c1,m5,m2,if_pos (decide_eq_true f3),show AT r'=(4:Int) from hR'.lists,show ((4:Int)==4)=true from rfl,must_t,lt_eq,sm_inl]
end
end Go.Proofs.YtpanhdnglicknaaGreat.Pure
namespace Go.Proofs.YtpanhdnglicknaaGreat.Pure
open Go Go.Proofs.YtpanhdnglicknaaGreat.Hw Go.Proofs.YtpanhdnglicknaaGreat
theorem u1:i64 (((1:UInt64).toNat:Nat):Int)=1:=by decide +kernel
theorem u2:i64 (((2:UInt64).toNat:Nat):Int)=2:=by decide +kernel
theorem num1:AB 1=some [1]:=by decide +kernel
theorem num2:AB 2=some [2]:=by decide +kernel
theorem enc1:enc 11 (1:UInt64).toNat=[1]:=by decide +kernel
theorem enc2:enc 11 (2:UInt64).toNat=[2]:=by decide +kernel
theorem k1t{k:Int}(h:k=1):(k==1)=true:=by subst h;decide
theorem k2t{k:Int}(h:k=2):(k==2)=true:=by subst h;decide
section
variable {n:Nat} {p:Ac} {K:List Str}
theorem PR.Len(h:PR n p K):Be p=some (K.length:Int):=by
 unfold Be Ao
 rcases h with ⟨h1,a,x,h2,h,hp⟩ | ⟨h1,seed,t,s,x,h2,h,hp⟩
 ·have hl:=hp.length_eq
  unfold AL.kept at hl
  rw [List.length_append] at hl
  rw [if_pos (k1t h1),h2,om_some,h.Len,Option.bind_some,hl]
 ·have hl:=hp.length_eq
  rw [all_n] at hl
  rw [if_neg (k1f h1),if_pos (k2t h1),h2,om_some,h.Len,Option.bind_some,hl]
theorem PR.Has(h:PR n p K)(k:Str):BG p k=some (decide (k∈K)):=by
 unfold BG Ao
 rcases h with ⟨h1,a,x,h2,h,hp⟩ | ⟨h1,seed,t,s,x,h2,h,hp⟩
 ·rw [if_pos (k1t h1),h2,om_some,h.Has,Option.bind_some]
  congr 1
  exact decide_eq_decide.2 hp.symm.mem_iff
 ·rw [if_neg (k1f h1),if_pos (k2t h1),h2,om_some,h.Has,Option.bind_some]
  congr 1
  exact decide_eq_decide.2 hp.symm.mem_iff
def QQ(n:Nat)(p q:Ac):Prop :=
 (p.kind=1∧q.kind=1∧∃t u x,p.a=some t∧q.a=some u∧u.target=t.target∧AR n t x∧AR n u x) ∨
 (p.kind=2∧q.kind=2∧∃seed t u s x,p.t=some t∧q.t=some u∧TR n seed t s x∧TR n seed u s x)
theorem PR.Exp(h:PR n p K):∃b,By p=some b∧b.length≤460000∧∀rest,∃q,CL ⟨b++rest⟩=some (.inl (some q,⟨rest⟩))∧PR n q K∧q.kind=p.kind∧QQ n p q:=by
 have hM:500000≤maxS:=by decide
 unfold By Ao
 rcases h with ⟨h1,a,x,h2,h,hp⟩ | ⟨h1,seed,t,s,x,h2,h,hp⟩
 ·obtain ⟨g,hg,hgn⟩:=h.gt
  have hz:=h.size (g:=g)
  have hz1:([1]:Str).length+(abytes n g x).length≤maxS:=by rw [List.length_singleton];omega
  rw [if_pos (k1t h1),num1,Option.bind_some,h2,om_some,h.Export hg hgn,Option.bind_some,if_pos hz1]
  refine ⟨_,rfl,by rw [List.length_append,List.length_singleton];omega,fun rest => ?_⟩
  obtain ⟨t',eT,et,h'⟩:=h.Take hg hgn rest
  have b1:=num_back 1 2 (abytes n g x++rest) (by decide)
  rw [enc1] at b1
  refine ⟨⟨1,some t',none⟩,?_,.inl ⟨rfl,t',x,rfl,h',hp⟩,h1.symm,.inl ⟨h1,rfl,a,t',x,h2,rfl,et,h,h'⟩⟩
  unfold CL
  rw [List.append_assoc,show Aj ⟨[1]++(abytes n g x++rest)⟩ 2=_ from b1,Option.bind_some,sm_inl]
  dsimp only
  rw [u1,if_pos (k1t rfl),eT,Option.bind_some,sm_inl]
 ·have hz:=tsize h
  have hz1:([2]:Str).length+(tbytes n seed s x).length≤maxS:=by rw [List.length_singleton];omega
  rw [if_neg (k1f h1),if_pos (k2t h1),num2,Option.bind_some,h2,om_some,h.Export,Option.bind_some,if_pos hz1]
  refine ⟨_,rfl,by rw [List.length_append,List.length_singleton];omega,fun rest => ?_⟩
  obtain ⟨t',eT,h'⟩:=h.Take rest
  have b1:=num_back 2 2 (tbytes n seed s x++rest) (by decide)
  rw [enc2] at b1
  refine ⟨⟨2,none,some t'⟩,?_,.inr ⟨rfl,seed,t',s,x,rfl,h',hp⟩,h1.symm,.inr ⟨h1,rfl,seed,t,t',s,x,h2,rfl,h,h'⟩⟩
  unfold CL
  rw [List.append_assoc,show Aj ⟨[2]++(tbytes n seed s x++rest)⟩ 2=_ from b1,Option.bind_some,sm_inl]
  dsimp only
  rw [u2,if_neg (k1f rfl),if_pos (k2t rfl),eT,Option.bind_some,sm_inl]
end
end Go.Proofs.YtpanhdnglicknaaGreat.Pure
namespace Go.Proofs.YtpanhdnglicknaaGreat.Pure
open Go Go.Proofs.YtpanhdnglicknaaGreat.Hw Go.Proofs.YtpanhdnglicknaaGreat
theorem slt_lt:∀a b:Str,slt a b=decide (a<b)
 | _,[]=>by simp [slt,Op.bytesLess]
 | [],_::_=>by simp [slt,Op.bytesLess]
 | a::x,b::y=>by
  have ih:=slt_lt x y
  unfold slt at ih ⊢
  unfold Op.bytesLess
  rw [ih]
  by_cases hab:a=b
  ·subst hab;simp [List.cons_lt_cons_iff]
  ·rw [beq_eq_false_iff_ne.2 hab];simp [List.cons_lt_cons_iff,hab]
def eb(k:Str)(e:Ak):Str:=((tb k++tb e.Value)++enc 11 e.Version.toNat)++enc 11 e.End.toNat
def tlb(m:TM)(L:List Str):Str:=L.flatMap fun k=>eb k ((mget m k).getD (⟨[],[],0,0⟩:Ak))
theorem tb_le{u:Str}{c:Nat}(h:u.length≤c):(tb u).length≤c+11:=by
 have:=enc_len 11 u.length
 unfold tb;rw [List.length_append];omega
theorem eb_le{k:Str}{e:Ak}(hk:k.length≤64)(hv:e.Value.length≤4096):(eb k e).length≤4204:=by
 have h1:=tb_le hk
 have h2:=tb_le hv
 have h3:=enc_len 11 e.Version.toNat
 have h4:=enc_len 11 e.End.toNat
 unfold eb;simp only [List.length_append];omega
theorem num_w(n:UInt64):AB n=some (enc 11 n.toNat):=(num_enc n).1
theorem txt(u:Str)(h:u.length≤100000):Cc u=some (tb u):=(text_bytes u h).1
theorem tlb_le(m:TM):∀(L:List Str),(∀k∈L,k.length≤64∧((mget m k).getD (⟨[],[],0,0⟩:Ak)).Value.length≤4096)→(tlb m L).length≤4204*L.length
 | [],_=>by simp [tlb]
 | k::L,h=>by
  have h1:=tlb_le m L fun q hq=>h q (List.mem_cons_of_mem _ hq)
  have h2:=eb_le (h k (List.mem_cons_self ..)).1 (h k (List.mem_cons_self ..)).2
  have e:tlb m (k::L)=eb k ((mget m k).getD (⟨[],[],0,0⟩:Ak))++tlb m L:=rfl
  rw [e,List.length_append,List.length_cons];omega
theorem texp_l0(t:Ah)(L:List Str)(hL:L.length≤2000)(hk:∀k∈L,k.length≤64∧((mget t.m k).getD (⟨[],[],0,0⟩:Ak)).Value.length≤4096):
  ∀(f i:Nat) (c:Str),L.length-i<f→i≤L.length→c.length≤1000+4204*i→Bf t L f c (i:Int)=some (c++tlb t.m (L.drop i))
 | 0,i,c,h,_,_=>by omega
 | f+1,i,c,h,hi,hc=>by
  have hM:20000000≤maxS:=by decide
  unfold Bf
  rcases Nat.lt_or_ge i L.length with h1 | h1
  ·have hm:=hk _ (List.getElem_mem h1)
   have e1:=eb_le hm.1 hm.2
   have e2:=tb_le hm.1
   have e3:=tb_le hm.2
   have e:tlb t.m (L.drop i)=eb L[i] ((mget t.m L[i]).getD (⟨[],[],0,0⟩:Ak))++tlb t.m (L.drop (i+1)):=by rw [List.drop_eq_getElem_cons h1];rfl
   rw [if_pos (by simp;exact h1),giC,List.getElem?_eq_getElem h1,Option.bind_some,txt _ (by omega),Option.bind_some,txt _ (by omega),Option.bind_some,if_pos (by omega),num_w,Option.bind_some,if_pos (by unfold eb at e1;simp only [List.length_append] at e1 ⊢;omega),num_w,Option.bind_some,
    if_pos (by unfold eb at e1;simp only [List.length_append] at e1 ⊢;omega)]
   change (if c.length+(eb L[i] ((mget t.m L[i]).getD (⟨[],[],0,0⟩:Ak))).length≤maxS then Bf t L f (c++eb L[i] ((mget t.m L[i]).getD (⟨[],[],0,0⟩:Ak))) (i64 ((i:Int)+1)) else none)=_
   rw [if_pos (by omega),i64n i (by omega),texp_l0 t L hL hk f (i+1) _ (by omega) (by omega) (by rw [List.length_append];omega),e,List.append_assoc]
  ·rw [if_neg (by simp;omega),List.drop_eq_nil_of_le h1];simp [tlb]
section
variable {K:List Str} {t:Ah}
theorem TB.kv(h:TB K t):∀k∈ksort (keys t.m),k.length≤64∧((mget t.m k).getD (⟨[],[],0,0⟩:Ak)).Value.length≤4096:=fun k hk=>by
 have hk:=(ksort_perm _).mem_iff.1 hk
 obtain ⟨e,he⟩:=keys_mem.1 hk
 have:=h.en _ (mget_mem he)
 rw [he]
 exact ⟨this.2.1,this.2.2⟩
theorem TB.klen(h:TB K t):(ksort (keys t.m)).length=K.length:=by rw [(ksort_perm _).length_eq,h.pm.length_eq]
theorem TB.Export(h:TB K t):BK t=some (enc 11 K.length++tlb t.m (ksort (keys t.m))):=by
 have hl:=h.klen
 have hle:=h.le
 have e1:=enc_len 11 K.length
 unfold BK Bl
 rw [h.len,num_c _ (by omega),Option.bind_some,h.mkeys,Option.bind_some]
 have:=texp_l0 t (ksort (keys t.m)) (by omega) h.kv ((((ksort (keys t.m)).length:Int)-0).toNat+1) 0 (enc 11 K.length) (by omega) (by omega) (by omega)
 rw [show ((0:Nat):Int)=0 from rfl,List.drop_zero] at this
 rw [this];rfl
theorem TB.bl(h:TB K t):(enc 11 K.length++tlb t.m (ksort (keys t.m))).length≤5000000:=by
 have h1:=tlb_le t.m _ h.kv
 have h2:=h.klen
 have h3:=h.le
 have h4:=enc_len 11 K.length
 rw [List.length_append];omega
end
theorem ttk_l0(ra:UInt64×Aa)(rest:Str):∀(P:List (Str×Ak)) (f:Nat) (A:TM) (KA:List Str) (t:Ah) (last:Str) (s:UInt64),
  P.length<f→A.length+P.length≤1000→s.toNat=A.length→ra.1.toNat=A.length+P.length→t.m=A→TB KA t→((A++P).map (·.1)).Nodup→(A=[]∨∀p∈P,last<p.1)→P.Pairwise (fun p q=>p.1<q.1) →
  (∀p∈P,p.2.Key=p.1∧p.1.length≤64∧p.2.Value.length≤4096) →
  ∃t' KA',CS ra f (some t) last s ((P.flatMap fun p=>eb p.1 p.2)++rest)=some (.inl (some t',rest))∧t'.m=A++P∧TB KA' t'
 | P,0,A,KA,t,last,s,h,_,_,_,_,_,_,_,_,_=>by omega
 | [],f+1,A,KA,t,last,s,_,_,hs,hr,hm,hT,_,_,_,_=>by
  refine ⟨t,KA,?_,by simp [hm],hT⟩
  have:¬s<ra.1:=by rw [UInt64.lt_iff_toNat_lt,hs,hr];simp
  unfold CS
  rw [if_neg (by simpa using this)];simp
 | (k,e)::P,f+1,A,KA,t,last,s,hf,hl,hs,hr,hm,hT,hnd,hla,hpw,hen=>by
  obtain ⟨ek,e64,ev⟩:=hen (k,e) (List.mem_cons_self ..)
  replace ek:e.Key=k:=ek
  replace e64:k.length≤64:=e64
  replace ev:e.Value.length≤4096:=ev
  rw [List.length_cons] at hf hl hr
  have hno:mget A k=none:=by
   rw [mget_none]
   intro hk
   rw [List.map_append,List.map_cons] at hnd
   exact (List.nodup_append.1 hnd).2.2 k hk k (List.mem_cons_self ..) rfl
  have hkK:k∉KA:=fun hk=>by
   have:=hT.has k
   rw [hm,hno] at this
   simp [hk] at this
  have hKl:KA.length=A.length:=by rw [←hT.len,hm]
  have hrm:TL.rm KA e.Key=KA:=by rw [ek];exact rm_no hkK
  obtain ⟨t1,e1,e2,hT1⟩:=hT.put (e:=e) (by rw [ek];exact e64) ev (by rw [hrm];omega)
  rw [hrm] at hT1
  have hm1:t1.m=A++[(k,e)]:=by
   rw [e2,hm,ek,mdel_no hno,mput_no hno]
  have hw:s<ra.1:=by rw [UInt64.lt_iff_toNat_lt,hs,hr];omega
  have hs1:(s+1).toNat=s.toNat+1:=by rw [UInt64.toNat_add,show (1:UInt64).toNat=1 from rfl];omega
  obtain ⟨t',KA',e3,e4,hT'⟩:=ttk_l0 ra rest P f (A++[(k,e)]) (e.Key::KA) t1 k (s+1) (by omega) (by rw [List.length_append,List.length_singleton];omega) (by rw [hs1,hs,List.length_append,List.length_singleton]) (by rw [hr,List.length_append,List.length_singleton];omega) hm1 hT1
   (by rw [List.append_assoc];exact hnd) (.inr fun p hp=>(List.pairwise_cons.1 hpw).1 p hp) (List.pairwise_cons.1 hpw).2 (fun p hp=>hen p (List.mem_cons_of_mem _ hp))
  refine ⟨t',KA',?_,by rw [e4,List.append_assoc];rfl,hT'⟩
  have hb:((((k,e)::P).flatMap fun p=>eb p.1 p.2)++rest)=enc 11 k.length++(k++(enc 11 e.Value.length++(e.Value++(enc 11 e.Version.toNat++(enc 11 e.End.toNat++((P.flatMap fun p=>eb p.1 p.2)++rest)))))):=by
   simp only [List.flatMap_cons,eb,tb,List.append_assoc]
  have hmu:((s==0)||slt last k)=true:=by
   rcases hla with rfl | hla
   ·have:s=0:=by apply UInt64.toNat_inj.1;rw [hs];rfl
    rw [this];rfl
   ·rw [slt_lt,decide_eq_true (hla (k,e) (List.mem_cons_self ..)),Bool.or_true]
  have b3:=num_back e.Version 18446744073709551615 (enc 11 e.End.toNat++((P.flatMap fun p=>eb p.1 p.2)++rest)) (by rw [UInt64.le_iff_toNat_le,show (18446744073709551615:UInt64).toNat=18446744073709551615 from rfl];have:=e.Version.toNat_lt;omega)
  have b4:=num_back e.End 18446744073709551615 ((P.flatMap fun p=>eb p.1 p.2)++rest) (by rw [UInt64.le_iff_toNat_le,show (18446744073709551615:UInt64).toNat=18446744073709551615 from rfl];have:=e.End.toNat_lt;omega)
  unfold CS
  rw [if_pos (by simpa using hw),hb,text_back k _ 64 (by omega) (by omega) (by omega),Option.bind_some,sm_inl]
  dsimp only
  rw [text_back e.Value _ 4096 (by omega) (by omega) (by omega),Option.bind_some,sm_inl]
  dsimp only
  rw [b3,Option.bind_some,sm_inl]
  dsimp only
  rw [b4,Option.bind_some,sm_inl]
  dsimp only
  rw [hmu,must_t,lt_eq,sm_inl,om_some,lt_eq]
  have hE:(⟨k,e.Value,e.Version,e.End⟩:Ak)=e:=by rw [←ek]
  rw [hE,e1]
  exact e3
end Go.Proofs.YtpanhdnglicknaaGreat.Pure
namespace Go.Proofs.YtpanhdnglicknaaGreat.Pure
open Go Go.Proofs.YtpanhdnglicknaaGreat.Hw Go.Proofs.YtpanhdnglicknaaGreat
theorem gnn{α:Type}[Inhabited α]{n:Nat}{i:Int}(h:0≤i∧i<(n:Int))(l:List α):gi (nn n l) i=some ((nn n l)[i.toNat]'(by rw [nn_len];omega)):=by
 unfold gi
 rw [if_pos h.1,List.getElem?_eq_getElem]
theorem b_quarter(v:List UInt32){a b c d:Int}(x y:UInt32)(ha:0≤a∧a<((16:Nat):Int))(hb:0≤b∧b<((16:Nat):Int))(hc:0≤c∧c<((16:Nat):Int))(hd:0≤d∧d<((16:Nat):Int)):∃r,Cs v a b c d x y=some r:=by
 unfold Cs
 simp only [gnn ha,gnn hb,gnn hc,gnn hd,Option.bind_some,lt_eq]
 exact ⟨_,rfl⟩
theorem i64k{k:Int}(h0:0≤k)(h1:k<1000000):i64 k=k:=by
 exact i64s k (by omega) (by omega)
theorem b_word{p:List UInt8}(hp:p.length=64){k:Int}(hk:0≤k∧k<16):∃r,C9 k p=some r:=by
 have e0:i64 (4*k)=4*k:=i64k (by omega) (by omega)
 have e1:i64 (4*k+1)=4*k+1:=i64k (by omega) (by omega)
 have e2:i64 (4*k+2)=4*k+2:=i64k (by omega) (by omega)
 have e3:i64 (4*k+3)=4*k+3:=i64k (by omega) (by omega)
 have g:∀j:Int,0≤j→j<64→∃x,gi p j=some x:=fun j h0 h1=>by
  unfold gi;rw [if_pos h0,List.getElem?_eq_getElem (by omega)];exact ⟨_,rfl⟩
 obtain ⟨x0,g0⟩:=g (4*k) (by clear e0 e1 e2 e3;omega) (by clear e0 e1 e2 e3;omega)
 obtain ⟨x1,g1⟩:=g (4*k+1) (by clear e0 e1 e2 e3;omega) (by clear e0 e1 e2 e3;omega)
 obtain ⟨x2,g2⟩:=g (4*k+2) (by clear e0 e1 e2 e3;omega) (by clear e0 e1 e2 e3;omega)
 obtain ⟨x3,g3⟩:=g (4*k+3) (by clear e0 e1 e2 e3;omega) (by clear e0 e1 e2 e3;omega)
 unfold C9
 rw [e0,g0,Option.bind_some,e1,g1,Option.bind_some,e2,g2,Option.bind_some,e3,g3,Option.bind_some]
 exact ⟨_,rfl⟩
def OrdOk(o:Str):Prop:=o.length=16∧∀c∈o,0≤Dn c∧Dn c<16
instance (o:Str):Decidable (OrdOk o):=by unfold OrdOk;infer_instance
theorem b_order{i:Int}(h0:0≤i)(h1:i<10):∃o,Dv i=some o∧OrdOk o:=by
 have:i=0∨i=1∨i=2∨i=3∨i=4∨i=5∨i=6∨i=7∨i=8∨i=9:=by omega
 rcases this with rfl | rfl | rfl | rfl | rfl | rfl | rfl | rfl | rfl | rfl <;> exact ⟨_,rfl,by decide +kernel⟩
theorem b_m{p:List UInt8}(hp:p.length=64){o:Str}(ho:OrdOk o){k:Int}(h0:0≤k)(h1:k<16):∃r,BR k p o=some r:=by
 have hl:=ho.1
 have hm:k.toNat<o.length:=by omega
 obtain ⟨r,hr⟩:=b_word hp (ho.2 _ (List.getElem_mem hm))
 unfold BR gi
 rw [if_pos h0,List.getElem?_eq_getElem hm,Option.bind_some,hr]
 exact ⟨_,rfl⟩
theorem b_l3{p:List UInt8}(hp:p.length=64){o:Str}(ho:OrdOk o):∀(f s:Nat) (c:List UInt32),f=4-s+1→s≤4→∃r,CC p o f (s:Int) c=some r
 | 0,s,c,h,_=>by omega
 | f+1,s,c,h,hs=>by
  unfold CC
  by_cases c4:s<4
  ·obtain ⟨x,hx⟩:=b_m hp ho (k:=2*(s:Int)) (by omega) (by omega)
   obtain ⟨y,hy⟩:=b_m hp ho (k:=2*(s:Int)+1) (by omega) (by omega)
   obtain ⟨r,hr⟩:=b_quarter c (a:=(s:Int)) (b:=(s:Int)+4) (c:=(s:Int)+8) (d:=(s:Int)+12) x y (by omega) (by omega) (by omega) (by omega)
   rw [if_pos (by simp;omega),i64k (k:=2*(s:Int)) (by omega) (by omega),hx,Option.bind_some,i64k (k:=2*(s:Int)+1) (by omega) (by omega),hy,Option.bind_some,i64k (k:=(s:Int)+4) (by omega) (by omega),i64k (k:=(s:Int)+8) (by omega) (by omega),i64k (k:=(s:Int)+12) (by omega) (by omega),hr,Option.bind_some,i64k (k:=(s:Int)+1) (by omega) (by omega)]
   exact b_l3 hp ho f (s+1) r (by omega) (by omega)
  ·rw [if_neg (by simp;omega)];exact ⟨_,rfl⟩
theorem tm4{k:Int}(h0:0≤k):0≤k.tmod 4∧k.tmod 4<4:=⟨Int.tmod_nonneg _ h0,Int.tmod_lt_of_pos _ (by decide)⟩
theorem b_l2{p:List UInt8}(hp:p.length=64){o:Str}(ho:OrdOk o):∀(f s:Nat) (c:List UInt32),f=4-s+1→s≤4→∃r,CB p o f (s:Int) c=some r
 | 0,s,c,h,_=>by omega
 | f+1,s,c,h,hs=>by
  unfold CB
  by_cases c4:s<4
  ·obtain ⟨x,hx⟩:=b_m hp ho (k:=8+2*(s:Int)) (by omega) (by omega)
   obtain ⟨y,hy⟩:=b_m hp ho (k:=9+2*(s:Int)) (by omega) (by omega)
   obtain ⟨q1,w1⟩:=tm4 (k:=(s:Int)+1) (by omega)
   obtain ⟨q2,w2⟩:=tm4 (k:=(s:Int)+2) (by omega)
   obtain ⟨q3,w3⟩:=tm4 (k:=(s:Int)+3) (by omega)
   generalize e1:((s:Int)+1).tmod 4=t1 at q1 w1
   generalize e2:((s:Int)+2).tmod 4=t2 at q2 w2
   generalize e3:((s:Int)+3).tmod 4=t3 at q3 w3
   obtain ⟨r,hr⟩:=b_quarter c (a:=(s:Int)) (b:=4+t1) (c:=8+t2) (d:=12+t3) x y (by omega) (by omega) (by omega) (by omega)
   rw [if_pos (by simp;omega),i64k (k:=2*(s:Int)) (by omega) (by omega),i64k (k:=8+2*(s:Int)) (by omega) (by omega),hx,Option.bind_some,i64k (k:=9+2*(s:Int)) (by omega) (by omega),hy,Option.bind_some,
    i64k (k:=(s:Int)+1) (by omega) (by omega),i64k (k:=(s:Int)+2) (by omega) (by omega),i64k (k:=(s:Int)+3) (by omega) (by omega),e1,e2,e3,i64k (k:=4+t1) (by omega) (by omega),i64k (k:=8+t2) (by omega) (by omega),i64k (k:=12+t3) (by omega) (by omega),hr,Option.bind_some]
   exact b_l2 hp ho f (s+1) r (by omega) (by omega)
  ·rw [if_neg (by simp;omega)];exact ⟨_,rfl⟩
theorem b_l1{p:List UInt8}(hp:p.length=64):∀(f s:Nat) (c:List UInt32),f=10-s+1→s≤10→∃r,CE p f (s:Int) c=some r
 | 0,s,c,h,_=>by omega
 | f+1,s,c,h,hs=>by
  unfold CE
  by_cases c4:s<10
  ·obtain ⟨o,e,ho⟩:=b_order (i:=(s:Int)) (by omega) (by omega)
   obtain ⟨x,hx⟩:=b_l3 hp ho 5 0 c rfl (by omega)
   obtain ⟨y,hy⟩:=b_l2 hp ho 5 0 x rfl (by omega)
   rw [if_pos (by simp;omega),e,Option.bind_some,show CC p o 5 0 c=some x from hx,Option.bind_some,show CB p o 5 0 x=some y from hy,Option.bind_some,Option.bind_some,i64k (k:=(s:Int)+1) (by omega) (by omega)]
   exact b_l1 hp f (s+1) y (by omega) (by omega)
  ·rw [if_neg (by simp;omega)];exact ⟨_,rfl⟩
theorem b_l0(v:List UInt32):∀(f s:Nat) (c:List UInt32),f=8-s+1→s≤8→∃r,CA v f (s:Int) c=some r
 | 0,s,c,h,_=>by omega
 | f+1,s,c,h,hs=>by
  unfold CA
  by_cases c4:s<8
  ·rw [if_pos (by simp;omega),gnn (by omega),Option.bind_some,gnn (by omega),Option.bind_some,i64k (k:=(s:Int)+8) (by omega) (by omega),gnn (by omega),Option.bind_some]
   simp only [lt_eq]
   rw [i64k (k:=(s:Int)+1) (by omega) (by omega)]
   exact b_l0 v f (s+1) _ (by omega) (by omega)
  ·rw [if_neg (by simp;omega)];exact ⟨_,rfl⟩
theorem b_block(h:List UInt32){p:List UInt8}(hp:p.length=64)(many:UInt64)(last:Bool):∃r,C0 h p many last=some r:=by
 unfold C0
 have e:∃q,(if last=true then some (~~~(Am.getD 6 default)) else some (Am.getD 6 default))=some q:=by cases last <;> exact ⟨_,rfl⟩
 obtain ⟨q,e⟩:=e
 rw [e,Option.bind_some]
 obtain ⟨x,hx⟩:=b_l1 hp 11 0 _ rfl (by omega)
 rw [show CE p 11 0 _=some x from hx,Option.bind_some]
 obtain ⟨y,hy⟩:=b_l0 x 9 0 h rfl (by omega)
 rw [show CA x 9 0 h=some y from hy,Option.bind_some]
 exact ⟨_,rfl⟩
theorem s_l1:∀(f:Nat) (p:List UInt8) (many:UInt64) (c:List UInt32),p.length<f→0<p.length→∃p' m' c',Dh f p many c=some (p',m',c')∧0<p'.length∧p'.length≤64
 | 0,p,many,c,h,_=>by omega
 | f+1,p,many,c,h,h0=>by
  unfold Dh
  by_cases c64:64<p.length
  ·have e1:sl p 0 64=some ((p.drop 0).take 64):=by unfold sl;rw [if_pos (by omega)];rfl
   have e2:sl p 64 (p.length:Int)=some ((p.drop 64).take (p.length-64)):=by unfold sl;rw [if_pos (by omega)];rfl
   obtain ⟨r,hr⟩:=b_block c (p:=(p.drop 0).take 64) (by simp;omega) (many+64) false
   rw [if_pos (by simp;omega),e1,Option.bind_some,hr,Option.bind_some,e2,Option.bind_some]
   exact s_l1 f _ _ _ (by simp;omega) (by simp;omega)
  ·rw [if_neg (by simp;omega)];exact ⟨_,_,_,rfl,h0,by omega⟩
theorem s_l0(r:List UInt32):∀(f s:Nat) (c:List UInt8),f=8-s+1→s≤8→c.length≤4*s→∃d,C8 r f c (s:Int)=some d
 | 0,s,c,h,_,_=>by omega
 | f+1,s,c,h,hs,hc=>by
  unfold C8
  by_cases c4:s<8
  ·have ha:∀a b c' d:UInt8,apd 1 c [a,b,c',d]=some (c++[a,b,c',d]):=fun a b c' d=>by
    unfold apd;rw [if_pos]
    have:100000≤maxLen:=by decide
    simp [maxLen] at *;omega
   rw [if_pos (by simp;omega),gnn (by omega),Option.bind_some,ha,Option.bind_some,i64k (k:=(s:Int)+1) (by omega) (by omega)]
   exact s_l0 r f (s+1) _ (by omega) (by omega) (by simp;omega)
  ·rw [if_neg (by simp;omega)];exact ⟨_,rfl⟩
theorem sum_tot{b:Str}(h0:0<b.length)(hl:b.length≤maxLen):∃d,Dt b=some d:=by
 unfold Dt
 rw [if_pos hl]
 obtain ⟨p,m,c,e,h1,h2⟩:=s_l1 (b.length+1) b 0 _ (by omega) h0
 rw [e,Option.bind_some]
 dsimp only
 have hc:∃l,cpy ([0,0,0,0,0,0,0,0,0,0,0,0,0,0,0,0,0,0,0,0,0,0,0,0,0,0,0,0,0,0,0,0,0,0,0,0,0,0,0,0,0,0,0,0,0,0,0,0,0,0,0,0,0,0,0,0,0,0,0,0,0,0,0,0]:List UInt8) p=some l∧l.length=64:=by
  unfold cpy
  rw [if_pos ⟨by decide,h1⟩]
  refine ⟨_,rfl,?_⟩
  simp;omega
 obtain ⟨l,el,hl64⟩:=hc
 rw [el,Option.bind_some]
 obtain ⟨r,hr⟩:=b_block c hl64 (m+(toW (p.length:Int))) true
 rw [hr,Option.bind_some]
 obtain ⟨d,hd⟩:=s_l0 r 9 0 [] rfl (by omega) (by simp)
 rw [show C8 r 9 [] 0=some d from hd,Option.bind_some]
 exact ⟨_,rfl⟩
end Go.Proofs.YtpanhdnglicknaaGreat.Pure
namespace Go.Proofs.YtpanhdnglicknaaGreat.Pure
open Go Go.Proofs.YtpanhdnglicknaaGreat.Hw Go.Proofs.YtpanhdnglicknaaGreat
def Al{α:Type}(P:α→Prop)(o:Option α):Prop:=∀a,o=some a→P a
section
variable {α β:Type} {P:α→Prop}
theorem al_none:Al P none:=fun a h=>by cases h
theorem al_some{a:α}(h:P a):Al P (some a):=fun b hb=>by cases hb;exact h
theorem al_bind{o:Option β}{f:β→Option α}(h:∀b,o=some b→Al P (f b)):Al P (o.bind f):=fun a ha=>by
 obtain ⟨b,h1,h2⟩:=Option.bind_eq_some_iff.1 ha
 exact h b h1 a h2
theorem al_ite{c:Prop}[Decidable c]{a b:Option α}(h1:c→Al P a)(h2:¬c→Al P b):Al P (if c then a else b):=by
 split
 ·exact h1 ‹_›
 ·exact h2 ‹_›
theorem al_om{o:Option β}{f:β→Option α}(h:∀b,o=some b→Al P (f b)):Al P (om o none f):=by
 cases o with
 | none=>exact al_none
 | some b=>exact h b rfl
theorem al_lt{b:β}{f:β→Option α}(h:Al P (f b)):Al P (lt b f):=h
end
theorem kRemove(p:Ac)(k:Str):Al (fun q:Bool×Ac=>q.2.kind=p.kind) (AY p k):=by
 unfold AY
 exact al_ite (fun _=>al_om fun _ _=>al_bind fun _ _=>al_some rfl) fun _=>al_ite (fun _=>al_om fun _ _=>al_bind fun _ _=>al_some rfl) fun _=>al_some rfl
theorem kTouch(p:Ac)(k:Str):Al (fun q:Bool×Ac=>q.2.kind=p.kind) (Bh p k):=by
 unfold Bh
 exact al_ite (fun _=>al_om fun _ _=>al_bind fun _ _=>al_some rfl) fun _=>al_ite (fun _=>al_om fun _ _=>al_bind fun _ _=>al_some rfl) fun _=>al_some rfl
theorem kInsert(p:Ac)(k:Str):Al (fun q:List Str×Ac=>q.2.kind=p.kind) (AV p k):=by
 unfold AV
 exact al_ite (fun _=>al_om fun _ _=>al_bind fun _ _=>al_some rfl) fun _=>al_ite (fun _=>al_om fun _ _=>al_bind fun _ _=>al_some rfl) fun _=>al_some rfl
theorem kEvict(p:Ac):Al (fun q:Str×Bool×Ac=>q.2.2.kind=p.kind) (Ba p):=by
 unfold Ba
 exact al_ite (fun _=>al_om fun _ _=>al_bind fun _ _=>al_some rfl) fun _=>al_ite (fun _=>al_om fun _ _=>al_bind fun _ _=>al_some rfl) fun _=>al_some rfl
theorem kMiss(p:Ac)(k:Str):Al (fun q:Ac=>q.kind=p.kind) (Bo p k):=by
 unfold Bo
 exact al_ite (fun _=>al_om fun _ _=>al_ite (fun _=>al_bind fun _ _=>al_ite (fun _=>al_bind fun _ _=>al_some rfl) fun _=>al_some rfl) fun _=>al_some rfl) fun _=>al_some rfl
theorem drop_m{t:Ah}{k:Str}{z:Str×Ak}(h:z∈(AS t k).2.m):z∈t.m:=by
 unfold AS at h
 rw [lt_eq] at h
 split at h
 ·exact mdel_sub h
 ·exact h
theorem mput_mem{K V:Type}[BEq K]{m:List (K×V)}{k:K}{v:V}{z:K×V}(h:z∈mput m k v):z∈m∨z=(k,v):=by
 induction m with
 | nil=>exact .inr (by simpa [mput] using h)
 | cons a m ih =>
  obtain ⟨x,u⟩:=a
  unfold mput at h
  split at h
  ·rcases List.mem_cons.1 h with h | h
   ·exact .inr h
   ·exact .inl (List.mem_cons_of_mem _ h)
  ·rcases List.mem_cons.1 h with h | h
   ·exact .inl (by rw [h];exact List.mem_cons_self ..)
   ·rcases ih h with h | h
    ·exact .inl (List.mem_cons_of_mem _ h)
    ·exact .inr h
theorem put_m{t:Ah}{e:Ak}{z:Str×Ak}(h:z∈(Bd t e).m):z∈t.m∨z=(e.Key,e):=by
 unfold Bd at h
 rw [lt_eq] at h
 rcases mput_mem h with h | h
 ·exact .inl (drop_m h)
 ·exact .inr h
def ROk(r:Ar):Prop:=0≤r.E∧r.E≤65535∧r.Value.length≤4096
theorem rok{e:Int}{v:UInt64}(h:0≤e∧e≤65535:=by decide):ROk ⟨e,[],v⟩:=⟨h.1,h.2,by simp⟩
structure J (κ:Int) (s:Ad):Prop where
 kd:∀p,s.p=some p→p.kind=κ
 en:∀t,s.t=some t→∀z∈t.m,z.1≠[]∧z.2.Version.toNat≤s.version.toNat∧z.2.Value.length≤4096
section
variable {κ:Int}
theorem k_ap0(L:List Str):∀(f:Nat) (i b:Int) (p:Option Ac) (m:TM),Al (fun q:Int×Option Ac×TM=>((∀x,p=some x→x.kind=κ)→∀x,q.2.1=some x→x.kind=κ)∧∀z∈q.2.2,z∈m) (A3 L f i b p m)
 | 0,_,_,_,_=>al_none
 | f+1,i,b,p,m=>by
  unfold A3
  refine al_ite (fun _=>al_bind fun k _=>al_lt (al_om fun x hx=>al_bind fun r hr=>fun q hq => ?_)) fun _=>al_some ⟨fun h=>h,fun z h=>h⟩
  obtain ⟨h1,h2⟩:=k_ap0 L f _ _ _ _ q hq
  refine ⟨fun h=>h1 fun y hy => ?_,fun z hz=>drop_m (h2 z hz)⟩
  cases hy
  rw [kRemove x k r hr];exact h x hx
theorem k_put1(r:List Str×Ac):∀(f:Nat) (i b:Int) (m:TM),Al (fun q:Int×TM=>∀z∈q.2,z∈m) (A2 r f i b m)
 | 0,_,_,_=>al_none
 | f+1,i,b,m=>by
  unfold A2
  refine al_ite (fun _=>al_bind fun k _=>al_lt fun q hq z hz => ?_) fun _=>al_some fun z h=>h
  exact drop_m (k_put1 r f _ _ _ q hq z hz)
theorem k_put0(s:Ad):∀(f:Nat) (p:Ac) (b:Int) (m:TM),Al (fun q:Ac×Int×TM=>q.1.kind=p.kind∧∀z∈q.2.2,z∈m) (Bp s f p b m)
 | 0,_,_,_=>al_none
 | f+1,p,b,m=>by
  unfold Bp
  refine al_ite (fun _=>al_bind fun r hr=>al_ite (fun _=>al_some ⟨kEvict p r hr,fun z h=>h⟩) fun _=>al_lt fun q hq => ?_) fun _=>al_some ⟨rfl,fun z h=>h⟩
  obtain ⟨h1,h2⟩:=k_put0 s f _ _ _ q hq
  exact ⟨h1.trans (kEvict p r hr),fun z hz=>drop_m (h2 z hz)⟩
theorem j_put{s:Ad}(h:J κ s)(o:AH)(ho:o.Key≠[])(hv:o.Value.length≤4096)(hver:s.version.toNat<1000000000):
  Al (fun q:Ar×Ad=>ROk q.1∧J κ q.2∧q.2.sessions=s.sessions) (AW s o):=by
 unfold AW
 refine al_ite (fun _=>al_some ⟨rok,h,rfl⟩) fun _=>al_bind fun e _=>al_om fun t ht=>al_lt (al_om fun p hp=>al_bind fun r3 h3=>al_bind fun p4 h4=>al_bind fun p5 h5=>al_some ⟨rok,⟨?_,?_⟩,rfl⟩)
 ·intro q hq
  cases hq
  rw [(k_put0 s _ _ _ _ p5 h5).1,kInsert p o.Key r3 h3]
  exact h.kd p hp
 ·intro t' ht' z hz
  cases ht'
  have hz:=(k_put0 s _ _ _ _ p5 h5).2 z hz
  have hz:=k_put1 r3 _ _ _ _ p4 h4 z hz
  have hvv:(s.version+1).toNat=s.version.toNat+1:=u1n hver
  show z.1≠[]∧z.2.Version.toNat≤(s.version+1).toNat∧z.2.Value.length≤4096
  rcases put_m hz with hz | rfl
  ·obtain ⟨a,b,c⟩:=h.en t ht z hz
   exact ⟨a,by omega,c⟩
  ·exact ⟨ho,Nat.le_refl _,hv⟩
theorem get_ok{t:Ah}(h:∀z∈t.m,z.2.Value.length≤4096)(k:Str):(AA t k).1.Value.length≤4096:=by
 unfold AA
 cases hg:mget t.m k with
 | none=>simp
 | some e=>exact h _ (mget_mem hg)
theorem j_do{s:Ad}(h:J κ s)(o:AH)(ho:o.Key≠[])(hv:o.Value.length≤4096)(hver:s.version.toNat<1000000000):
  Al (fun q:Ar×Ad=>ROk q.1∧J κ q.2∧q.2.sessions=s.sessions) (AP s o):=by
 unfold AP
 refine al_om fun t ht=>al_lt (al_ite (fun _=>al_ite (fun _=>al_om fun p hp=>al_bind fun q hq=>al_some ⟨rok,⟨?_,h.en⟩,rfl⟩) fun _=>al_om fun p hp=>al_bind fun q hq=>al_some ⟨⟨Int.le_refl 0,(by decide:(0:Int)≤65535),get_ok (fun z hz=>(h.en t ht z hz).2.2) _⟩,⟨?_,h.en⟩,rfl⟩)
  fun _=>al_ite (fun _=>al_ite (fun _=>al_some ⟨rok,h,rfl⟩) fun _=>al_lt (al_om fun p hp=>al_bind fun q hq=>al_some ⟨rok,⟨?_,?_⟩,rfl⟩))
  fun _=>al_ite (fun _=>al_ite (fun _=>al_some ⟨rok,h,rfl⟩) fun _=>al_ite (fun _=>al_some ⟨rok,h,rfl⟩) fun _=>al_bind fun q hq=>al_some ?_) fun _=>al_bind fun q hq=>al_some ?_)
 ·intro x hx;cases hx;rw [kMiss p _ q hq];exact h.kd p hp
 ·intro x hx;cases hx;rw [kTouch p _ q hq];exact h.kd p hp
 ·intro x hx;cases hx;rw [kRemove p _ q hq];exact h.kd p hp
 ·intro x hx z hz;cases hx;exact h.en t ht z (drop_m hz)
 ·have h':J κ ⟨s.c,some t,s.p,s.sessions,s.seq,s.now,s.version,s.tally⟩:=⟨h.kd,fun x hx=>by cases hx;exact h.en t ht⟩
  exact j_put h' o ho hv hver q hq
 ·have h':J κ ⟨s.c,some t,s.p,s.sessions,s.seq,s.now,s.version,s.tally⟩:=⟨h.kd,fun x hx=>by cases hx;exact h.en t ht⟩
  exact j_put h' o ho hv hver q hq
theorem chk_key{o:AH}(h:BQ o=true)(k5:o.Kind≠5):o.Key≠[]:=by
 intro hk
 unfold BQ at h
 split at h
 ·cases h
 ·rw [lt_eq] at h
  rcases chk_kind (o:=o) (by unfold BQ;rw [if_neg ‹_›];exact h) with e | e | e | e | e
  ·simp [hk,e] at h
  ·simp [hk,e] at h
  ·simp [hk,e] at h
  ·simp [hk,e] at h
  ·exact k5 e
theorem j_apply{s:Ad}(h:J κ s)(x:AM)(hver:s.version.toNat<1000000000):
  Al (fun q:Ar×Int×Ad=>J κ q.2.2∧(q.2.2.sessions=s.sessions∨∃l:Ap,ROk l.reply∧q.2.2.sessions=mput s.sessions x.Session l)) (AF s x):=by
 unfold AF
 refine al_ite (fun _=>al_some ⟨h,.inl rfl⟩) fun hc=>al_ite (fun _=>al_some ⟨h,.inl rfl⟩) fun _=>al_om fun t ht=>al_bind fun L hL=>al_bind fun q hq => ?_
 have hk:=k_ap0 (κ:=κ) L _ _ _ _ _ q hq
 have hJ:J κ ⟨s.c,some ⟨q.2.2,q.1⟩,q.2.1,s.sessions,s.seq+1,(if s.now<x.Now then x.Now else s.now),s.version,s.tally⟩:=⟨hk.1 h.kd,fun y hy=>by cases hy;exact fun z hz=>h.en t ht z (hk.2 z hz)⟩
 refine al_ite (fun _=>al_some ⟨hJ,.inl rfl⟩) fun h5=>al_ite (fun _=>al_some ⟨hJ,.inl rfl⟩) fun _=>al_ite (fun _=>al_some ⟨hJ,.inl rfl⟩) fun _=>al_ite (fun _=>al_some ⟨hJ,.inl rfl⟩) fun _=>al_bind fun r hr=>al_some ?_
 have hc':BQ x.Op=true:=by simpa using hc
 obtain ⟨h1,h2,h3⟩:=j_do hJ x.Op (chk_key hc' (by simpa using h5)) (chk_len hc').2 hver r hr
 exact ⟨⟨h2.kd,h2.en⟩,.inr ⟨⟨x.Num,r.1⟩,h1,by rw [h3]⟩⟩
theorem k_new(c:Av):Al (fun q:Option Ad×Int=>∀s,q.1=some s→∀p,s.p=some p→p.kind=c.Policy) (CR c):=by
 unfold CR
 refine al_ite (fun _=>al_some fun s hs=>by cases hs) fun _=>al_bind fun r hr=>al_lt (al_some fun s hs p hp => ?_)
 cases hs
 have:Al (fun q:Option Ac×Int=>∀p,q.1=some p→p.kind=c.Policy) (Ci c.Policy c.Entries c.Seed):=by
  unfold Ci
  exact al_bind fun q _=>al_ite (fun _=>al_some fun p hp=>by cases hp) fun _=>al_some fun p hp=>by cases hp;rfl
 exact this r hr p hp
structure SX (κ:Int) (N:Nat) (s:Ad):Prop where
 j:J κ s
 rs:∀z∈s.sessions,ROk z.2.reply
 us:Uk s.sessions
 ta:0≤s.tally.Hits∧s.tally.Hits≤s.tally.Asked∧s.tally.Asked≤(N:Int)
theorem SX.apply{n B N:Nat}{c:Av}{s s':Ad}{t:Ah}{p:Ac}{K:List Str}(h:SX κ N s)(hS:SI n B N c s t p K)(hN:N<1000000)(x:AM){r:Ar}{e:Int}(ha:AF s x=some (r,e,s')):SX κ (N+1) s':=by
 obtain ⟨h1,h2⟩:=j_apply h.j x (by have:=hS.vn;omega) _ ha
 obtain ⟨a,b,c'⟩:=h.ta
 obtain ⟨r2,e2,s2,t2,p2,K2,ea,_,hd⟩:=hS.apply hN x
 rw [ha] at ea
 cases ea
 refine ⟨h1,?_,?_,?_⟩
 ·rcases h2 with h2 | ⟨l,hl,h2⟩
  ·intro z hz;rw [h2] at hz;exact h.rs z hz
  ·intro z hz
   rw [h2] at hz
   rcases mput_mem hz with hz | rfl
   ·exact h.rs z hz
   ·exact hl
 ·rcases h2 with h2 | ⟨l,hl,h2⟩
  ·rw [h2];exact h.us
  ·rw [h2];exact h.us.put _ _
 ·rcases hd with ⟨_,rfl,_⟩ | ⟨_,_,_,hx⟩
  ·omega
  ·rcases hx.cs with ⟨_,q,_⟩ | ⟨_,_,_,q1,q2⟩
   ·rw [q];omega
   ·by_cases k1:x.Op.Kind=1
    ·rcases q1 k1 with ⟨_,q⟩ | ⟨_,q⟩
     ·rw [q]
      have e1:i64 (s.tally.Asked+1)=s.tally.Asked+1:=i64s _ (by omega) (by omega)
      have e2:i64 (s.tally.Hits+1)=s.tally.Hits+1:=i64s _ (by omega) (by omega)
      dsimp only
      rw [e1,e2];clear e1 e2;omega
     ·rw [q]
      have e1:i64 (s.tally.Asked+1)=s.tally.Asked+1:=i64s _ (by omega) (by omega)
      dsimp only
      rw [e1];clear e1;omega
    ·rw [q2 k1];omega
end
structure CF (κ:Int) (n:Nat) (c:Av):Prop where
 k:κ=1∨κ=2
 p:c.Policy=κ
 e:c.Entries=(n:Int)
 b:1≤c.Bytes
def Px(κ:Int)(n B N:Nat)(c:Av)(s:Ad)(now:UInt64):Prop:=Pl n B N c s now∧SX κ N s∧CF κ n c
theorem px_step{κ:Int}{n B N:Nat}{c:Av}{s:Ad}{now:UInt64}(h:Px κ n B N c s now)(hN:N<1000000){y:AM}(h1:y.Session.toNat<8)(h2:y.Num.toNat≤31)(h3:now.toNat≤y.Now.toNat):
  ∃r e s',AF s y=some (r,e,s')∧Px κ n B (N+1) c s' y.Now:=by
 obtain ⟨hP,hX,hc⟩:=h
 obtain ⟨r,e,s',e1,hP'⟩:=pl_step hP hN h1 h2 h3
 obtain ⟨⟨t,p,K,hS⟩,_,_⟩:=hP
 exact ⟨r,e,s',e1,hP',hX.apply hS hN y e1,hc⟩
theorem SX.le{κ:Int}{N M:Nat}{s:Ad}(h:SX κ N s)(hm:N≤M):SX κ M s:=⟨h.j,h.rs,h.us,by have:=h.ta;omega⟩
theorem playx_l0{κ:Int}{n B:Nat}{c:Av}(l:List Az):∀(f i:Nat) (s:Ad) (now:UInt64),f=l.length-i+1→i≤l.length→i≤60→Px κ n B i c s now→now.toNat≤100*i →
  ∃s' now',BD l f (some s) now (i:Int)=some (some s',now')∧Px κ n B 60 c s' now'∧now'.toNat≤6000:=by
 intro f
 induction f with
 | zero=>intro i s now h;omega
 | succ f ih =>
  intro i s now hf hi hi2 h hn
  unfold BD
  by_cases hc:i<l.length∧i<60
  ·obtain ⟨y,nx,e1,e2,h1,h2,h3,h4⟩:=rec_ok (AU s) now l[i] (by omega)
   obtain ⟨r,e,s',e3,h'⟩:=px_step h (by omega) h1 h2 (by rw [e2];exact h3)
   rw [e2] at h'
   rw [if_pos (by simp;omega),om_some,gN hc.1,Option.bind_some,e1,Option.bind_some,e3,Option.bind_some,i_a1 (by omega)]
   exact ih (i+1) s' nx (by omega) (by omega) (by omega) h' (by omega)
  ·rw [if_neg (by simp;omega)]
   obtain ⟨⟨⟨t,p,K,hS⟩,hP,hn2⟩,hX,hC⟩:=h
   exact ⟨s,now,rfl,⟨⟨⟨t,p,K,⟨hS.st,hS.sp,hS.sc,hS.cb,hS.b2,hS.tb,hS.pr,hS.ms,hS.en,by have:=hS.vn;omega,by have:=hS.sn;omega⟩⟩,hP,hn2⟩,hX.le hi2,hC⟩,by omega⟩
theorem playx_ok(x:Av)(l:List Az):∃κ n B c s now,B4 x l=some (some s,now,true)∧Px κ n B 60 c s now∧now.toNat≤6000∧B≤100000∧n≤16:=by
 obtain ⟨k,n,B,e,hk,h1,h2,h3,h4⟩:=cfg_ok x
 obtain ⟨s,t,p,K,e2,hS,hs,hn,hty,hm⟩:=si_new hk x.Seed h1 h2 h3 h4
 have hp:Pl n B 0 ⟨(k:Int),(n:Int),(B:Int),x.Seed⟩ s 0:=⟨⟨t,p,K,hS⟩,(by rw [hs];intro j l hl;cases hl),by rw [hn];exact Nat.le_refl _⟩
 have hX:SX (k:Int) 0 s:=by
  refine ⟨⟨fun q hq=>k_new _ _ e2 s rfl q hq,fun t' ht' z hz => ?_⟩,?_,?_,?_⟩
  ·have:=hS.st;rw [ht'] at this;cases this
   rw [hm] at hz;cases hz
  ·rw [hs];intro z hz;cases hz
  ·rw [hs];exact List.nodup_nil
  ·rw [hty];decide
 have hC:CF (k:Int) n ⟨(k:Int),(n:Int),(B:Int),x.Seed⟩:=⟨by omega,rfl,rfl,by dsimp only;omega⟩
 obtain ⟨s',now',e3,h',hn'⟩:=playx_l0 l (((l.length:Int)-0).toNat+1) 0 s 0 (by omega) (by omega) (by omega) ⟨hp,hX,hC⟩ (by decide)
 refine ⟨_,n,B,_,s',now',?_,h',hn',by omega,by omega⟩
 unfold B4
 rw [e,e2,Option.bind_some]
 dsimp only
 rw [show BD l (((l.length:Int)-0).toNat+1) (some s) 0 0=_ from e3,Option.bind_some,om_some]
 rfl
end Go.Proofs.YtpanhdnglicknaaGreat.Pure
namespace Go.Proofs.YtpanhdnglicknaaGreat.Pure
open Go Go.Proofs.YtpanhdnglicknaaGreat.Hw Go.Proofs.YtpanhdnglicknaaGreat
theorem sk_lt{l:List Str}(hn:l.Nodup):(ksort l).Pairwise (fun a b=>a<b):=by
 have h1:=ksort_sorted l
 have h2:(ksort l).Pairwise (fun a b=>a≠b):=(ksort_perm l).nodup_iff.2 hn
 refine (h1.and h2).imp fun {a b} h => ?_
 have h3:a≤b:=by simpa [leB] using h.1
 by_cases c:a<b
 ·exact c
 ·exact absurd (List.le_antisymm h3 (List.not_lt.1 c)) h.2
theorem numI{j:Nat}{top:UInt64}(rest:Str)(h:j≤100000)(ht:j≤top.toNat):∃q:UInt64,Aj ⟨enc 11 j++rest⟩ top=some (.inl (q,⟨rest⟩))∧q.toNat=j∧i64 ((q.toNat:Nat):Int)=(j:Int):=by
 have hj:=toW_len j h
 have b:=num_back (toW (j:Int)) top rest (by rw [UInt64.le_iff_toNat_le,hj];exact ht)
 rw [hj] at b
 exact ⟨_,b,hj,by rw [hj];exact i64s _ (by omega) (by omega)⟩
theorem num64(n:UInt64)(rest:Str):Aj ⟨enc 11 n.toNat++rest⟩ 18446744073709551615=some (.inl (n,⟨rest⟩)) :=
 num_back n 18446744073709551615 rest (by rw [UInt64.le_iff_toNat_le,show (18446744073709551615:UInt64).toNat=18446744073709551615 from rfl];have:=n.toNat_lt;omega)
section
variable {K:List Str} {t:Ah}
theorem TB.Take(h:TB K t)(h2:K.length≤1000)(rest:Str):∃t' K',Db ⟨(enc 11 K.length++tlb t.m (ksort (keys t.m)))++rest⟩=some (.inl (some t',⟨rest⟩))∧TB K' t'∧t'.m=(ksort (keys t.m)).map fun k=>(k,(mget t.m k).getD (⟨[],[],0,0⟩:Ak)):=by
 have hl:=h.klen
 have hnd:(ksort (keys t.m)).Nodup:=(ksort_perm _).nodup_iff.2 h.uk
 have hs:=sk_lt (l:=keys t.m) h.uk
 have hP:∀k∈ksort (keys t.m),∃e,mget t.m k=some e:=fun k hk=>keys_mem.1 ((ksort_perm _).mem_iff.1 hk)
 obtain ⟨q,b,hq,_⟩:=numI (j:=K.length) (top:=1000) (tlb t.m (ksort (keys t.m))++rest) (by omega) h2
 have e:((ksort (keys t.m)).map fun k=>(k,(mget t.m k).getD (⟨[],[],0,0⟩:Ak))).flatMap (fun p=>eb p.1 p.2)=tlb t.m (ksort (keys t.m)):=by
  unfold tlb;rw [List.flatMap_map]
 obtain ⟨t',K',e1,e2,hT⟩:=ttk_l0 (q,⟨tlb t.m (ksort (keys t.m))++rest⟩) rest ((ksort (keys t.m)).map fun k=>(k,(mget t.m k).getD (⟨[],[],0,0⟩:Ak))) ((q-0).toNat+1) [] [] ⟨[],0⟩ [] 0
  (by rw [List.length_map,hl,UInt64.sub_zero,hq];omega) (by rw [List.length_map,hl];simpa using h2) rfl (by dsimp only;rw [List.length_map,hl,hq];simp) rfl tb_new
  (by rw [List.nil_append,List.map_map];simpa [Function.comp_def] using hnd) (.inl rfl) (by rw [List.pairwise_map];exact hs)
  (fun p hp=>by
   obtain ⟨k,hk,rfl⟩:=List.mem_map.1 hp
   obtain ⟨e,he⟩:=hP k hk
   have:=h.en _ (mget_mem he)
   dsimp only
   rw [he]
   exact this)
 refine ⟨t',K',?_,hT,by rw [e2,List.nil_append]⟩
 unfold Db
 rw [lt_eq,List.append_assoc,b,Option.bind_some,sm_inl]
 dsimp only
 rw [e] at e1
 rw [show Dl=some ⟨[],0⟩ from rfl,e1,Option.bind_some]
end
def rbt(r:Ar):Str:=(enc 11 r.E.toNat++tb r.Value)++enc 11 r.Version.toNat
theorem rbt_le{r:Ar}(h:ROk r):(rbt r).length≤4129:=by
 have h1:=tb_le h.2.2
 have h3:=enc_len 11 r.E.toNat
 have h4:=enc_len 11 r.Version.toNat
 unfold rbt;simp only [List.length_append];omega
theorem putR{r:Ar}(h:ROk r):Dm r=some (rbt r):=by
 obtain ⟨h1,h2,h3⟩:=h
 have hM:20000000≤maxS:=by decide
 have e:r.E=((r.E.toNat:Nat):Int):=by omega
 have l1:=tb_le h3
 have l2:=enc_len 11 r.E.toNat
 have l3:=enc_len 11 r.Version.toNat
 unfold Dm
 rw [e,num_c _ (by omega),Option.bind_some,txt _ (by omega),Option.bind_some,if_pos (by omega),num_w,Option.bind_some,if_pos (by rw [List.length_append];omega)]
 rfl
theorem takeR{r:Ar}(h:ROk r)(rest:Str):C7 ⟨rbt r++rest⟩=some (.inl (r,⟨rest⟩)):=by
 obtain ⟨h1,h2,h3⟩:=h
 obtain ⟨q,b,_,hq⟩:=numI (j:=r.E.toNat) (top:=65535) (tb r.Value++(enc 11 r.Version.toNat++rest)) (by omega) (by show r.E.toNat≤65535;omega)
 have e:rbt r++rest=enc 11 r.E.toNat++(tb r.Value++(enc 11 r.Version.toNat++rest)):=by simp only [rbt,List.append_assoc]
 unfold C7
 rw [e,b,Option.bind_some,sm_inl]
 dsimp only
 rw [show tb r.Value++(enc 11 r.Version.toNat++rest)=enc 11 r.Value.length++(r.Value++(enc 11 r.Version.toNat++rest)) by simp only [tb,List.append_assoc],text_back r.Value _ 4096 (by omega) (by omega) (by omega),Option.bind_some,sm_inl]
 dsimp only
 rw [num64,Option.bind_some,sm_inl]
 dsimp only
 rw [hq,show ((r.E.toNat:Nat):Int)=r.E by omega]
def sb1(k:UInt64)(l:Ap):Str:=(enc 11 k.toNat++enc 11 l.num.toNat)++rbt l.reply
def slb(m:List (UInt64×Ap))(L:List UInt64):Str:=L.flatMap fun k=>sb1 k ((mget m k).getD (⟨0,(⟨0,[],0⟩:Ar)⟩:Ap))
theorem sb1_le{k:UInt64}{l:Ap}(h:ROk l.reply):(sb1 k l).length≤4151:=by
 have h1:=rbt_le h
 have h3:=enc_len 11 k.toNat
 have h4:=enc_len 11 l.num.toNat
 unfold sb1;simp only [List.length_append];omega
theorem sexp_l0(s:Ad)(L:List UInt64)(hL:L.length≤64)(hk:∀k∈L,ROk ((mget s.sessions k).getD (⟨0,(⟨0,[],0⟩:Ar)⟩:Ap)).reply):
  ∀(f i:Nat) (c:Str),L.length-i<f→i≤L.length→c.length≤6000000+4151*i→∃d,A6 s L f c (i:Int)=some (c++d)∧d=slb s.sessions (L.drop i)∧(c++d).length≤6000000+4151*L.length
 | 0,i,c,h,_,_=>by omega
 | f+1,i,c,h,hi,hc=>by
  have hM:20000000≤maxS:=by decide
  unfold A6
  rcases Nat.lt_or_ge i L.length with h1 | h1
  ·have hm:=hk _ (List.getElem_mem h1)
   have e1:=sb1_le (k:=L[i]) hm
   have e2:=rbt_le hm
   have e3:=enc_len 11 L[i].toNat
   have e4:=enc_len 11 (((mget s.sessions L[i]).getD (⟨0,(⟨0,[],0⟩:Ar)⟩:Ap)).num).toNat
   have e:slb s.sessions (L.drop i)=sb1 L[i] ((mget s.sessions L[i]).getD (⟨0,(⟨0,[],0⟩:Ar)⟩:Ap))++slb s.sessions (L.drop (i+1)):=by rw [List.drop_eq_getElem_cons h1];rfl
   rw [if_pos (by simp;exact h1),giC,List.getElem?_eq_getElem h1,Option.bind_some,num_w,Option.bind_some,num_w,Option.bind_some,if_pos (by omega),putR hm,Option.bind_some,if_pos (by rw [List.length_append];omega)]
   change ∃d,(if c.length+(sb1 L[i] ((mget s.sessions L[i]).getD (⟨0,(⟨0,[],0⟩:Ar)⟩:Ap))).length≤maxS then A6 s L f (c++sb1 L[i] ((mget s.sessions L[i]).getD (⟨0,(⟨0,[],0⟩:Ar)⟩:Ap))) (i64 ((i:Int)+1)) else none)=_∧_
   rw [if_pos (by omega),i64n i (by omega)]
   obtain ⟨d,q1,q2,q3⟩:=sexp_l0 s L hL hk f (i+1) (c++sb1 L[i] ((mget s.sessions L[i]).getD (⟨0,(⟨0,[],0⟩:Ar)⟩:Ap))) (by omega) (by omega) (by rw [List.length_append];omega)
   exact ⟨_,by rw [q1,List.append_assoc],by rw [e,q2],by rw [←List.append_assoc];exact q3⟩
  ·have:i=L.length:=by omega
   rw [if_neg (by simp;omega)]
   exact ⟨[],by simp,by rw [List.drop_eq_nil_of_le h1];rfl,by rw [List.append_nil];omega⟩
theorem mput_new{K V:Type}[BEq K][LawfulBEq K]:∀(m:List (K×V)) (k:K) (v:V),k∉m.map (·.1)→mput m k v=m++[(k,v)]
 | [],k,v,_=>rfl
 | (a,u)::m,k,v,h=>by
  rw [List.map_cons,List.mem_cons,not_or] at h
  unfold mput
  rw [if_neg (by simpa using h.1),mput_new m k v h.2];rfl
theorem stk_l0(ra:UInt64×Aa)(rest:Str):∀(P:List (UInt64×Ap)) (f:Nat) (A:List (UInt64×Ap)) (last s:UInt64),
  P.length<f→A.length+P.length≤64→s.toNat=A.length→ra.1.toNat=A.length+P.length→(A=[]∨∀p∈P,last<p.1)→P.Pairwise (fun p q=>p.1<q.1)→((A++P).map (·.1)).Nodup→(∀p∈P,ROk p.2.reply) →
  CT ra f last s ((P.flatMap fun p=>sb1 p.1 p.2)++rest) A=some (.inl (rest,A++P))
 | P,0,A,last,s,h,_,_,_,_,_,_,_=>by omega
 | [],f+1,A,last,s,_,_,hs,hr,_,_,_,_=>by
  have:¬s<ra.1:=by rw [UInt64.lt_iff_toNat_lt,hs,hr];simp
  unfold CT
  rw [if_neg (by simpa using this)];simp
 | (k,l)::P,f+1,A,last,s,hf,hl,hs,hr,hla,hpw,hnd,hok=>by
  rw [List.length_cons] at hf hl hr
  have hw:s<ra.1:=by rw [UInt64.lt_iff_toNat_lt,hs,hr];omega
  have hs1:(s+1).toNat=s.toNat+1:=by rw [UInt64.toNat_add,show (1:UInt64).toNat=1 from rfl];omega
  have hkA:k∉A.map (·.1):=fun hk=>by
   rw [List.map_append,List.map_cons] at hnd
   exact (List.nodup_append.1 hnd).2.2 k hk k (List.mem_cons_self ..) rfl
  have ih:=stk_l0 ra rest P f (A++[(k,l)]) k (s+1) (by omega) (by rw [List.length_append,List.length_singleton];omega) (by rw [hs1,hs,List.length_append,List.length_singleton]) (by rw [hr,List.length_append,List.length_singleton];omega)
   (.inr fun p hp=>(List.pairwise_cons.1 hpw).1 p hp) (List.pairwise_cons.1 hpw).2 (by rw [List.append_assoc];exact hnd) (fun p hp=>hok p (List.mem_cons_of_mem _ hp))
  have hb:((((k,l)::P).flatMap fun p=>sb1 p.1 p.2)++rest)=enc 11 k.toNat++(enc 11 l.num.toNat++(rbt l.reply++((P.flatMap fun p=>sb1 p.1 p.2)++rest))):=by
   simp only [List.flatMap_cons,sb1,List.append_assoc]
  have hmu:((s==0)||decide (last<k))=true:=by
   rcases hla with rfl | hla
   ·have:s=0:=by apply UInt64.toNat_inj.1;rw [hs];rfl
    rw [this];rfl
   ·rw [decide_eq_true (hla (k,l) (List.mem_cons_self ..)),Bool.or_true]
  unfold CT
  rw [if_pos (by simpa using hw),hb,num64,Option.bind_some,sm_inl]
  dsimp only
  rw [hmu,must_t,lt_eq,sm_inl,num64,Option.bind_some,sm_inl]
  dsimp only
  rw [takeR (hok (k,l) (List.mem_cons_self ..)),Option.bind_some,sm_inl]
  dsimp only
  rw [mput_new A k _ hkA,show (⟨l.num,l.reply⟩:Ap)=l from rfl,ih,List.append_assoc];rfl
theorem us_lt{l:List UInt64}(hn:l.Nodup):(usort l).Pairwise (fun a b=>a<b):=by
 have h1:(usort l).Pairwise (fun a b=>a≤b):=List.pairwise_reverse.2 (fold_sorted l [] List.Pairwise.nil)
 have h2:(usort l).Pairwise (fun a b=>a≠b):=(usort_perm l).nodup_iff.2 hn
 refine (h1.and h2).imp fun {a b} h => ?_
 rw [UInt64.lt_iff_toNat_lt]
 have h3:=h.1
 rw [UInt64.le_iff_toNat_le] at h3
 have:a.toNat≠b.toNat:=fun z=>h.2 (UInt64.toNat_inj.1 z)
 omega
theorem chk_l1(L:List Str)(ra rb:UInt64×Aa)(rc:Option Ac×Aa)(t:Ah)(p:Ac)(hL:L.length≤2000)
  (h:∀k∈L,BG p k=some true∧((((true&&(k != []))&&decide (1≤(AA t k).1.Version))&&decide ((AA t k).1.Version≤rb.1))&&(((AA t k).1.End==0)||decide (ra.1<(AA t k).1.End)))=true) :
  ∀(f i:Nat),L.length-i<f→i≤L.length→CU L ra rb rc t p f (i:Int)=some (.inl ())
 | 0,i,h1,_=>by omega
 | f+1,i,h1,hi=>by
  unfold CU
  rcases Nat.lt_or_ge i L.length with hc | hc
  ·obtain ⟨a,b⟩:=h _ (List.getElem_mem hc)
   rw [if_pos (by simp;exact hc),giC,List.getElem?_eq_getElem hc,Option.bind_some,lt_eq,a,Option.bind_some,b,must_t,lt_eq,sm_inl,i64n i (by omega)]
   exact chk_l1 L ra rb rc t p hL h f (i+1) (by omega) (by omega)
  ·rw [if_neg (by simp;omega)]
end Go.Proofs.YtpanhdnglicknaaGreat.Pure
namespace Go.Proofs.YtpanhdnglicknaaGreat.Pure
open Go Go.Proofs.YtpanhdnglicknaaGreat.Hw Go.Proofs.YtpanhdnglicknaaGreat
theorem take_ok{k n B a h len:Nat}{seed sq nw vr:UInt64}{T P:Str}{t:Ah}{p:Ac}{K':List Str}{M:List (UInt64×Ap)}{m:Nat}
  (hc:BP ⟨(k:Int),(n:Int),(B:Int),seed⟩=true) (hk2:k≤2) (hn:n≤1000) (hB:B≤100000) (hha:h≤a) (ha:a≤100000) (hlen:M.length=len) (hl64:len≤64)
  (hT:Db ⟨T++(P++(enc 11 len++((M.flatMap fun p=>sb1 p.1 p.2)++[])))⟩=some (.inl (some t,⟨P++(enc 11 len++((M.flatMap fun p=>sb1 p.1 p.2)++[]))⟩)))
  (hP:CL ⟨P++(enc 11 len++((M.flatMap fun p=>sb1 p.1 p.2)++[]))⟩=some (.inl (some p,⟨enc 11 len++((M.flatMap fun p=>sb1 p.1 p.2)++[])⟩)))
  (hkd:p.kind=(k:Int)) (hl:Be p=some (m:Int)) (hTB:TB K' t) (hm:t.m.length=m) (hmn:m≤n) (hby:t.bytes≤(B:Int))
  (hchk:∀q∈ksort (keys t.m),BG p q=some true∧((((true&&(q != []))&&decide (1≤(AA t q).1.Version))&&decide ((AA t q).1.Version≤vr))&&(((AA t q).1.End==0)||decide (nw<(AA t q).1.End)))=true)
  (hMs:M.Pairwise (fun p q=>p.1<q.1)) (hMn:(M.map (·.1)).Nodup) (hMo:∀p∈M,ROk p.2.reply) :
  Dc ⟨enc 11 k++(enc 11 n++(enc 11 B++(enc 11 seed.toNat++(enc 11 sq.toNat++(enc 11 nw.toNat++(enc 11 vr.toNat++(enc 11 a++(enc 11 h++(T++(P++(enc 11 len++((M.flatMap fun p=>sb1 p.1 p.2)++[]))))))))))))⟩ =
   some (.inl (some ⟨⟨(k:Int),(n:Int),(B:Int),seed⟩,some t,some p,M,sq,nw,vr,⟨(a:Int),(h:Int)⟩⟩,⟨[]⟩)):=by
 generalize hR0:enc 11 len++((M.flatMap fun p=>sb1 p.1 p.2)++[])=R0 at hT hP ⊢
 have hha':(h:Int)≤(a:Int):=by omega
 have z1:k≤100000∧k≤(2:UInt64).toNat:=⟨by omega,hk2⟩
 have z2:n≤100000∧n≤(1000:UInt64).toNat:=⟨by omega,hn⟩
 have z3:B≤100000∧B≤(1048576:UInt64).toNat:=⟨hB,Nat.le_trans hB (by decide)⟩
 have z4:a≤100000∧a≤(9223372036854775807:UInt64).toNat:=⟨ha,Nat.le_trans ha (by decide)⟩
 have z5:h≤100000∧h≤(9223372036854775807:UInt64).toNat:=⟨by omega,Nat.le_trans (show h≤100000 by omega) (by decide)⟩
 have z6:len≤100000∧len≤(64:UInt64).toNat:=⟨by omega,hl64⟩
 have hmn':decide ((t.m.length:Int)≤(n:Int))=true:=by rw [hm];simp;omega
 obtain ⟨q6,b6,j6,-⟩:=numI (j:=len) (top:=64) ((M.flatMap fun p=>sb1 p.1 p.2)++[]) z6.1 z6.2
 rw [hR0] at b6
 have hkl:(ksort (keys t.m)).length=m:=by rw [(ksort_perm _).length_eq];unfold keys;rw [List.length_map,hm]
 have hck:=chk_l1 (ksort (keys t.m)) (nw,⟨enc 11 vr.toNat++(enc 11 a++(enc 11 h++(T++(P++R0))))⟩) (vr,⟨enc 11 a++(enc 11 h++(T++(P++R0)))⟩) (some p,⟨R0⟩) t p (by omega) hchk ((((ksort (keys t.m)).length:Int)-0).toNat+1) 0 (by omega) (by omega)
 have hst:=stk_l0 (q6,⟨(M.flatMap fun p=>sb1 p.1 p.2)++[]⟩) [] M ((q6-0).toNat+1) [] 0 0 (by rw [UInt64.sub_zero,j6];omega) (by rw [List.length_nil];omega) rfl (by dsimp only;rw [j6,List.length_nil];omega) (.inl rfl) hMs (by rw [List.nil_append];exact hMn) hMo
 obtain ⟨q1,b1,-,i1⟩:=numI (j:=k) (top:=2) (enc 11 n++(enc 11 B++(enc 11 seed.toNat++(enc 11 sq.toNat++(enc 11 nw.toNat++(enc 11 vr.toNat++(enc 11 a++(enc 11 h++(T++(P++R0)))))))))) z1.1 z1.2
 obtain ⟨q2,b2,-,i2⟩:=numI (j:=n) (top:=1000) (enc 11 B++(enc 11 seed.toNat++(enc 11 sq.toNat++(enc 11 nw.toNat++(enc 11 vr.toNat++(enc 11 a++(enc 11 h++(T++(P++R0))))))))) z2.1 z2.2
 obtain ⟨q3,b3,-,i3⟩:=numI (j:=B) (top:=1048576) (enc 11 seed.toNat++(enc 11 sq.toNat++(enc 11 nw.toNat++(enc 11 vr.toNat++(enc 11 a++(enc 11 h++(T++(P++R0)))))))) z3.1 z3.2
 obtain ⟨q4,b4,-,i4⟩:=numI (j:=a) (top:=9223372036854775807) (enc 11 h++(T++(P++R0))) z4.1 z4.2
 obtain ⟨q5,b5,-,i5⟩:=numI (j:=h) (top:=9223372036854775807) (T++(P++R0)) z5.1 z5.2
 unfold Dc
 rw [b1,Option.bind_some,sm_inl]
 dsimp only
 rw [lt_eq,i1,b2,Option.bind_some,sm_inl]
 dsimp only
 rw [lt_eq,i2,b3,Option.bind_some,sm_inl]
 dsimp only
 rw [lt_eq,i3,num64,Option.bind_some,sm_inl]
 dsimp only
 rw [hc,must_t,lt_eq,sm_inl,num64,Option.bind_some,sm_inl]
 dsimp only
 rw [num64,Option.bind_some,sm_inl]
 dsimp only
 rw [num64,Option.bind_some,sm_inl]
 dsimp only
 rw [b4,Option.bind_some,sm_inl]
 dsimp only
 rw [lt_eq,i4,b5,Option.bind_some,sm_inl]
 dsimp only
 rw [lt_eq,i5,decide_eq_true hha',must_t,lt_eq,sm_inl,hT,Option.bind_some,sm_inl]
 dsimp only
 rw [hP,Option.bind_some,sm_inl]
 dsimp only
 rw [om_some,if_pos (show (Ao p==(k:Int))=true by show (p.kind==(k:Int))=true;rw [hkd];simp),hl,Option.bind_some,om_some,
  if_pos (show ((m:Int)==AZ t)=true by show ((m:Int)==(t.m.length:Int))=true;rw [hm];simp),
  if_pos (show decide (AZ t≤(n:Int))=true from hmn'),
  decide_eq_true (show Bn t≤(B:Int) from hby),must_t,lt_eq,sm_inl,Option.bind_some]
 dsimp only
 rw [Option.bind_some]
 dsimp only
 rw [Option.bind_some]
 dsimp only
 rw [om_some,show Bl t=some (ksort (keys t.m)) from hTB.mkeys,Option.bind_some]
 rw [show CU (ksort (keys t.m)) _ _ _ t p ((((ksort (keys t.m)).length:Int)-0).toNat+1) 0=some (.inl ()) from hck,Option.bind_some]
 dsimp only
 rw [b6,Option.bind_some,sm_inl]
 dsimp only
 rw [hst,Option.bind_some]
 dsimp only
 rw [List.nil_append]
theorem import_ok{b:Str}{s:Ad}(h:Dc ⟨b⟩=some (.inl (some s,⟨[]⟩))):Cf b=some (some s,0):=by
 unfold Cf CZ
 rw [h,Option.bind_some,sm_inl,Option.bind_some,sm_inl,Option.bind_some]
 rfl
theorem nat_le(n:Nat):∀(l:List UInt64),l.Nodup→(∀x∈l,x.toNat<n)→l.length≤n:=by
 induction n with
 | zero=>intro l _ h;cases l with
  | nil=>simp
  | cons a l=>exact absurd (h a (List.mem_cons_self ..)) (by omega)
 | succ n ih =>
  intro l hl h
  by_cases hm:∃x∈l,x.toNat=n
  ·obtain ⟨x,hx,hxn⟩:=hm
   have h1:=ih (l.erase x) (hl.erase x) fun y hy=>by
    have h2:=(hl.mem_erase_iff).1 hy
    have h3:=h y h2.2
    have:y.toNat≠n:=fun z=>h2.1 (UInt64.toNat_inj.1 (by omega))
    omega
   rw [List.length_erase_of_mem hx] at h1
   omega
  ·have:=ih l hl fun y hy=>by
    have h3:=h y hy
    have:y.toNat≠n:=fun z=>hm ⟨y,hy,z⟩
    omega
   omega
theorem mget_mem'{K V:Type}[BEq K][LawfulBEq K]:∀{m:List (K×V)} {k:K} {v:V},mget m k=some v→(k,v)∈m
 | [],k,v,h=>by cases h
 | (a,u)::m,k,v,h=>by
  unfold mget at h
  split at h
  ·rename_i c;cases h;rw [eq_of_beq c];exact List.mem_cons_self ..
  ·exact List.mem_cons_of_mem _ (mget_mem' h)
theorem mem_mget'{K V:Type}[BEq K][LawfulBEq K]{m:List (K×V)}(hu:Uk m){k:K}(hk:k∈m.map (·.1)):∃v,mget m k=some v∧(k,v)∈m:=by
 cases hg:mget m k with
 | none=>exact absurd hk ((mget_none m k).1 hg)
 | some v=>exact ⟨v,rfl,mget_mem' hg⟩
theorem mem_mgetU{K V:Type}[BEq K][LawfulBEq K]:∀{m:List (K×V)} {k:K} {v:V},Uk m→(k,v)∈m→mget m k=some v
 | (a,u)::m,k,v,hu,h=>by
  rcases List.mem_cons.1 h with h | h
  ·cases h;unfold mget;rw [if_pos (by simp)]
  ·have hu':=List.nodup_cons.1 hu
   have hn:a≠k:=fun z=>hu'.1 (by rw [z];exact List.mem_map.2 ⟨_,h,rfl⟩)
   unfold mget;rw [if_neg (by simpa using fun z=>hn (Eq.symm z))]
   exact mem_mgetU hu'.2 h
section
variable {A V:Type} [BEq A] [LawfulBEq A]
def Xq(m m':List (A×V)):Prop:=Uk m∧Uk m'∧∀k,mget m k=mget m' k
end
def TQ(t u:Ah):Prop:=Xq t.m u.m∧t.bytes=u.bytes
structure SE (n:Nat) (s t:Ad):Prop where
 c:t.c=s.c
 ss:Xq s.sessions t.sessions
 sq:t.seq=s.seq
 nw:t.now=s.now
 vr:t.version=s.version
 ty:t.tally=s.tally
 tt:∃a b,s.t=some a∧t.t=some b∧TQ a b
 pp:∃p q,s.p=some p∧t.p=some q∧QQ n p q
section
variable {κ:Int} {n B N:Nat} {c:Av} {s:Ad} {t:Ah} {p:Ac} {K:List Str}
theorem SI.Back(hS:SI n B N c s t p K)(hX:SX κ N s)(hC:CF κ n c)(hB:B≤100000)(hN:N≤100000)(hP:SP s.sessions):
  ∃b,AG s=some b∧0<b.length∧b.length≤9000000∧∃s' t' p' K',Cf b=some (some s',0)∧SI n B N c s' t' p' K'∧SX κ N s'∧SP s'.sessions∧s'.now=s.now∧s'.seq=s.seq∧SE n s s':=by
 obtain ⟨c',tt,pp,ss,sq,nw,vr,ty⟩:=s
 obtain ⟨pol,ent,byt,seed⟩:=c'
 obtain ⟨asked,hits⟩:=ty
 have e1:tt=some t:=hS.st
 have e2:pp=some p:=hS.sp
 have e3:(⟨pol,ent,byt,seed⟩:Av)=c:=hS.sc
 subst e1 e2 e3
 have eK:=hC.p
 have eE:=hC.e
 have eB:=hS.cb
 have eb1:=hC.b
 dsimp only at eK eE eB eb1
 obtain ⟨hh0,hha,haN⟩:=hX.ta
 dsimp only at hh0 hha haN
 have hk:=hC.k
 obtain ⟨k,rfl⟩:∃k:Nat,κ=(k:Int):=⟨κ.toNat,by omega⟩
 obtain ⟨a,rfl⟩:∃a:Nat,asked=(a:Int):=⟨asked.toNat,by omega⟩
 obtain ⟨h,rfl⟩:∃h:Nat,hits=(h:Int):=⟨hits.toNat,by omega⟩
 subst eK eE eB
 have hn:=hS.pr.n1
 have hKn:=hS.pr.le
 have hus:Uk ss:=hX.us
 have hsl:ss.length≤8:=by
  have:=nat_le 8 (ss.map fun q:UInt64×Ap=>q.1) hus fun x hx=>by
   obtain ⟨v,hv,_⟩:=mem_mget' hus hx
   exact (hP x v hv).1
  simpa using this
 have hM:20000000≤maxS:=by decide
 obtain ⟨pb,ep,hpl,hpT⟩:=hS.pr.Exp
 have hTb:=hS.tb.bl
 have hTe:=hS.tb.Export
 have l1:=enc_len 11 k
 have l2:=enc_len 11 n
 have l3:=enc_len 11 B
 have l4:=enc_len 11 seed.toNat
 have l5:=enc_len 11 sq.toNat
 have l6:=enc_len 11 nw.toNat
 have l7:=enc_len 11 vr.toNat
 have l8:=enc_len 11 a
 have l9:=enc_len 11 h
 have l10:=enc_len 11 ss.length
 have hkk:(usort (ss.map (·.1))).length≤64:=by rw [(usort_perm _).length_eq,List.length_map];omega
 have hku:∀j∈usort (ss.map (·.1)),∃v,mget ss j=some v∧(j,v)∈ss:=fun j hj=>mem_mget' hus ((usort_perm _).mem_iff.1 hj)
 have hko:∀j∈usort (ss.map (·.1)),ROk ((mget ss j).getD (⟨0,(⟨0,[],0⟩:Ar)⟩:Ap)).reply:=fun j hj=>by
  obtain ⟨v,h1,h2⟩:=hku j hj
  rw [h1];exact hX.rs _ h2
 generalize hTd:enc 11 K.length++tlb t.m (ksort (keys t.m))=T at hTb hTe
 have hX':=sexp_l0 ⟨⟨(k:Int),(n:Int),(B:Int),seed⟩,some t,some p,ss,sq,nw,vr,⟨(a:Int),(h:Int)⟩⟩ (usort (ss.map (·.1))) hkk hko ((((usort (ss.map (·.1))).length:Int)-0).toNat+1) 0
  ((((((enc 11 k++enc 11 n)++enc 11 B)++enc 11 seed.toNat)++((((enc 11 sq.toNat++enc 11 nw.toNat)++enc 11 vr.toNat)++enc 11 a)++enc 11 h))++((T++pb)++enc 11 ss.length))) (by omega) (by omega) (by simp only [List.length_append];omega)
 obtain ⟨d,ed,hd,hdl⟩:=hX'
 rw [List.drop_zero] at hd
 refine ⟨(((((enc 11 k++enc 11 n)++enc 11 B)++enc 11 seed.toNat)++((((enc 11 sq.toNat++enc 11 nw.toNat)++enc 11 vr.toNat)++enc 11 a)++enc 11 h))++((T++pb)++enc 11 ss.length))++d,?_,?_,?_,?_⟩
 ·unfold AG
  dsimp only
  rw [num_c k (by omega),Option.bind_some,num_c n (by omega),Option.bind_some,if_pos (by omega),num_c B (by omega),Option.bind_some,if_pos (by simp only [List.length_append];omega),num_w,Option.bind_some,if_pos (by simp only [List.length_append];omega),
   num_w,Option.bind_some,num_w,Option.bind_some,if_pos (by omega),num_w,Option.bind_some,if_pos (by simp only [List.length_append];omega),num_c a (by omega),Option.bind_some,if_pos (by simp only [List.length_append];omega),num_c h (by omega),Option.bind_some,if_pos (by simp only [List.length_append];omega),
   if_pos (by simp only [List.length_append];omega),om_some,hTe,Option.bind_some,om_some,ep,Option.bind_some,if_pos (by omega),num_c ss.length (by omega),Option.bind_some,if_pos (by simp only [List.length_append];omega),if_pos (by simp only [List.length_append];omega)]
  rw [show mkeysW ss=some (usort (ss.map (·.1))) by unfold mkeysW;rw [if_pos (by simp;omega)],Option.bind_some]
  rw [show A6 _ (usort (ss.map (·.1))) ((((usort (ss.map (·.1))).length:Int)-0).toNat+1) _ 0=_ from ed,Option.bind_some]
 ·have:0<(enc 11 k).length:=by
   rcases hk with hk | hk
   ·have:k=1:=by omega
    subst this;decide
   ·have:k=2:=by omega
    subst this;decide
  simp only [List.length_append];omega
 ·omega
 ·
  have hM1:((usort (ss.map (·.1))).map fun j=>(j,(mget ss j).getD (⟨0,(⟨0,[],0⟩:Ar)⟩:Ap))).flatMap (fun p=>sb1 p.1 p.2)=d:=by
   rw [hd];unfold slb;rw [List.flatMap_map]
  generalize hMd:((usort (ss.map (·.1))).map fun j=>(j,(mget ss j).getD (⟨0,(⟨0,[],0⟩:Ar)⟩:Ap)))=M at hM1
  have hMmem:∀z∈M,z∈ss:=fun z hz=>by
   rw [←hMd] at hz
   obtain ⟨j,hj,rfl⟩:=List.mem_map.1 hz
   obtain ⟨v,h1,h2⟩:=hku j hj
   rw [h1];exact h2
  have hMf:M.map (·.1)=usort (ss.map (·.1)):=by rw [←hMd,List.map_map];simp [Function.comp_def]
  have hMl:M.length=ss.length:=by rw [←hMd,List.length_map,(usort_perm _).length_eq,List.length_map]
  have hMu:(M.map (·.1)).Nodup:=by rw [hMf];exact (usort_perm _).nodup_iff.2 hus
  obtain ⟨t',K',eT,hT',em⟩:=hS.tb.Take (by omega) (pb++(enc 11 ss.length++((M.flatMap fun p=>sb1 p.1 p.2)++[])))
  rw [hTd] at eT
  obtain ⟨p',eP,hP',hkd,hQ⟩:=hpT (enc 11 ss.length++((M.flatMap fun p=>sb1 p.1 p.2)++[]))
  have hku2:∀q∈ksort (keys t.m),∃e,mget t.m q=some e:=fun q hq=>keys_mem.1 ((ksort_perm _).mem_iff.1 hq)
  have hin:∀z∈t'.m,z∈t.m:=fun z hz=>by
   rw [em] at hz
   obtain ⟨q,hq,rfl⟩:=List.mem_map.1 hz
   obtain ⟨e,he⟩:=hku2 q hq
   rw [he];exact mget_mem he
  have hkey:keys t'.m=ksort (keys t.m):=by unfold keys;rw [em,List.map_map];simp [Function.comp_def,keys]
  have hlm:t'.m.length=K.length:=by rw [em,List.length_map];exact hS.tb.klen
  have hpm:t'.m.Perm t.m:=by
   have h1:(keys t.m).map (fun k=>(k,(mget t.m k).getD (⟨[],[],0,0⟩:Ak)))=t.m:=by
    unfold keys
    rw [List.map_map]
    refine (List.map_congr_left (g:=id) fun z hz => ?_).trans (List.map_id _)
    obtain ⟨q,e⟩:=z
    show (q,(mget t.m q).getD (⟨[],[],0,0⟩:Ak))=(q,e)
    rw [mem_mget hS.tb.uk hz];rfl
   rw [em]
   exact ((ksort_perm (keys t.m)).map _).trans (List.Perm.of_eq h1)
  have hsz:msz t'.m=msz t.m:=by
   unfold msz;exact (hpm.map _).sum_nat
  have hgo:∀q,∀e,mget t'.m q=some e→mget t.m q=some e:=fun q e he=>mem_mget hS.tb.uk (hin _ (mget_mem he))
  have hkK:K'.Perm K:=by
   refine hT'.pm.symm.trans ?_
   rw [hkey]
   exact (ksort_perm _).trans hS.tb.pm
  have hT2:TB K t':=⟨hT'.uk,hT'.en,hT'.sz,hT'.pm.trans hkK,hS.tb.le⟩
  have hb':t'.bytes≤(B:Int):=by rw [hT'.sz,hsz];have:=hS.ms;omega
  have hlk:Be p'=some (K.length:Int):=hP'.Len
  have hen:enOk t'.m nw:=fun q e he=>hS.en q e (hgo q e he)
  have hMs:M.Pairwise (fun p q=>p.1<q.1):=by
   have:=us_lt hus;rw [←hMf,List.pairwise_map] at this;exact this
  have hMo:∀z∈M,ROk z.2.reply:=fun z hz=>hX.rs z (hMmem z hz)
  have hJen:=hX.j.en t rfl
  have hch:∀q∈ksort (keys t'.m),BG p' q=some true∧((((true&&(q != []))&&decide (1≤(AA t' q).1.Version))&&decide ((AA t' q).1.Version≤vr))&&(((AA t' q).1.End==0)||decide (nw<(AA t' q).1.End)))=true:=fun q hq=>by
   obtain ⟨e,he⟩:=keys_mem.1 ((ksort_perm _).mem_iff.1 hq)
   obtain ⟨w1,w2⟩:=hen q e he
   obtain ⟨w3,w4,_⟩:=hJen (q,e) (mget_mem (hgo q e he))
   refine ⟨by rw [hP'.Has,decide_eq_true (hT2.pm.mem_iff.1 (keys_mem.2 ⟨e,he⟩))],?_⟩
   have hg:(AA t' q).1=e:=by unfold AA;rw [he];rfl
   have a1:(q != [])=true:=by simpa using w3
   have a2:(1:UInt64)≤e.Version:=by rw [UInt64.le_iff_toNat_le];exact w1
   have a3:e.Version≤vr:=by rw [UInt64.le_iff_toNat_le];exact w4
   rw [hg,a1,decide_eq_true a2,decide_eq_true a3]
   rcases w2 with w2 | w2
   ·have:e.End=0:=UInt64.toNat_inj.1 w2
    rw [this];rfl
   ·rw [decide_eq_true (show nw<e.End by rw [UInt64.lt_iff_toNat_lt];exact w2)];simp
  have hMq:∀k,mget ss k=mget M k:=fun k=>by
   cases hg:mget M k with
   | some v=>exact mem_mgetU hus (hMmem _ (mget_mem' hg))
   | none =>
    have h1:=(mget_none M k).1 hg
    rw [hMf] at h1
    exact (mget_none ss k).2 fun z=>h1 ((usort_perm _).mem_iff.2 z)
  have hTq:∀k,mget t.m k=mget t'.m k:=fun k=>by
   cases hg:mget t'.m k with
   | some v=>exact hgo k v hg
   | none =>
    have h1:=(mget_none t'.m k).1 hg
    rw [show t'.m.map (·.1)=ksort (keys t.m) from hkey] at h1
    exact (mget_none t.m k).2 fun z=>h1 ((ksort_perm _).mem_iff.2 z)
  have hck:BP ⟨(k:Int),(n:Int),(B:Int),seed⟩=true:=by
   unfold BP;simp;omega
  have htk:=take_ok (k:=k) (n:=n) (B:=B) (a:=a) (h:=h) (len:=ss.length) (seed:=seed) (sq:=sq) (nw:=nw) (vr:=vr) (T:=T) (P:=pb) (t:=t') (p:=p') (K':=K') (M:=M) (m:=K.length) hck (by omega) (by omega) hB (by omega) (by omega) hMl (by omega) eT eP (by rw [hkd];exact hX.j.kd p rfl) hlk hT' hlm (by omega) hb' hch hMs hMu hMo
  refine ⟨⟨⟨(k:Int),(n:Int),(B:Int),seed⟩,some t',some p',M,sq,nw,vr,⟨(a:Int),(h:Int)⟩⟩,t',p',K,import_ok ?_,⟨rfl,rfl,rfl,rfl,hS.b2,hT2,hP',?_,hen,hS.vn,hS.sn⟩,⟨⟨?_,?_⟩,hMo,hMu,hX.ta⟩,?_,rfl,rfl,⟨rfl,⟨hus,hMu,hMq⟩,rfl,rfl,rfl,rfl,⟨t,t',rfl,rfl,⟨hS.tb.uk,hT'.uk,hTq⟩,by rw [hS.tb.sz,hT'.sz,hsz]⟩,⟨p,p',rfl,rfl,hQ⟩⟩⟩
  ·rw [←hM1]
   simp only [List.append_assoc,List.append_nil] at htk ⊢
   exact htk
  ·show msz t'.m≤B
   rw [hsz];exact hS.ms
  ·intro x hx;cases hx;rw [hkd];exact hX.j.kd p rfl
  ·intro x hx z hz;cases hx;exact hJen z (hin z hz)
  ·intro j l hl
   exact hP j l (mem_mgetU hus (hMmem _ (mget_mem' hl)))
end
end Go.Proofs.YtpanhdnglicknaaGreat.Pure
namespace Go.Proofs.YtpanhdnglicknaaGreat.Pure
open Go Go.Proofs.YtpanhdnglicknaaGreat.Hw Go.Proofs.YtpanhdnglicknaaGreat
theorem SI.Dig{κ:Int}{n B N:Nat}{c:Av}{s:Ad}{t:Ah}{p:Ac}{K:List Str}(hS:SI n B N c s t p K)(hX:SX κ N s)(hC:CF κ n c)(hB:B≤100000)(hN:N≤100000)(hP:SP s.sessions):
  ∃b d s' t' p' K',AG s=some b∧Dt b=some d∧Bq s=some d∧Cf b=some (some s',0)∧Cw s=some (some s')∧SI n B N c s' t' p' K'∧SX κ N s'∧SP s'.sessions∧s'.now=s.now∧s'.seq=s.seq∧SE n s s':=by
 obtain ⟨b,e,l1,l2,s',t',p',K',ei,h⟩:=hS.Back hX hC hB hN hP
 obtain ⟨d,hd⟩:=sum_tot l1 (Nat.le_trans l2 (by decide))
 refine ⟨b,d,s',t',p',K',e,hd,?_,ei,?_,h⟩
 ·unfold Bq;rw [e,Option.bind_some,hd];rfl
 ·unfold Cw;rw [e,Option.bind_some,ei];rfl
end Go.Proofs.YtpanhdnglicknaaGreat.Pure
