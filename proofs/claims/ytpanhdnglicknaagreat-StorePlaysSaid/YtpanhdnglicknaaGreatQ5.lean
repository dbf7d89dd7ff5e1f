import Derived.Test.YtpanhdnglicknaaGreatW5
import Derived.Test.YtpanhdnglicknaaGreatQ0
import Derived.Test.YtpanhdnglicknaaGreatQ1
import Derived.Test.YtpanhdnglicknaaGreatQ2
import Derived.Test.YtpanhdnglicknaaGreatQ3
import Derived.Test.YtpanhdnglicknaaGreatQ4
set_option linter.unusedVariables false
set_option linter.unusedSectionVars false
set_option linter.unusedSimpArgs false
set_option maxRecDepth 100000
set_option maxHeartbeats 4000000
namespace Go.Proofs.YtpanhdnglicknaaGreat.Pure
open Go Go.Proofs.YtpanhdnglicknaaGreat.Hw Go.Proofs.YtpanhdnglicknaaGreat
theorem dtxt(u:Str)(h:u.length≤100000):Bv u=some (tb u):=(text_bytes u h).2
theorem dnum(n:UInt64):AC n=some (enc 11 n.toNat):=(num_enc n).2
theorem one_b{e:Ai}(h1:e.Key.length≤64)(h2:e.Value.length≤4096):DJ e=some (eb e.Key e):=by
 have hM:20000000≤maxS:=by decide
 have l1:=tb_le h1
 have l2:=tb_le h2
 have l3:=enc_len 11 e.Version.toNat
 have l4:=enc_len 11 e.End.toNat
 unfold DJ
 rw [dtxt _ (by omega),ob_,dtxt _ (by omega),ob_,if_pos (by omega),dnum,ob_,if_pos (by rw [List.length_append];omega),dnum,ob_,if_pos (by rw [List.length_append,List.length_append];omega)]
 rfl
theorem pall_l0(l:List Ai)(hl:l.length≤1001)(hb:∀e∈l,e.Key.length≤64∧e.Value.length≤4096):∀(f i:Nat) (c:Str),l.length-i<f→i≤l.length→c.length≤11+4204*i →
  Bx l f c (i:Int)=some (c++(l.drop i).flatMap fun e=>eb e.Key e)
 | 0,i,c,h,_,_=>by omega
 | f+1,i,c,h,hi,hc=>by
  have hM:20000000≤maxS:=by decide
  unfold Bx
  by_cases h1:i<l.length
  ·obtain ⟨b1,b2⟩:=hb _ (List.getElem_mem h1)
   have b3:=eb_le (k:=l[i].Key) (e:=l[i]) b1 b2
   rw [if_pos (by simpa using h1),gN h1,ob_,one_b b1 b2,ob_,if_pos (by omega),i_a1 (by omega),pall_l0 l hl hb f (i+1) _ (by omega) (by omega) (by rw [List.length_append];omega),drop_at' h1,List.flatMap_cons,List.append_assoc]
  ·rw [if_neg (by simpa using h1),List.drop_eq_nil_of_le (by omega)];simp
section
variable {n:Nat} {seed:UInt64} {t:Am} {p:Ah} {K:List Str} {T:List Ai} {P:Af}
theorem LT.putall(h:LT T t)(hT:TB K t):Cq T=some (enc 11 K.length++tlb t.m (ksort (keys t.m))):=by
 have hl:=h.len hT
 have hb:∀e∈T,e.Key.length≤64∧e.Value.length≤4096:=fun e he=>by
  have h1:=hT.en _ (mget_mem ((h.me e).1 he))
  exact ⟨h1.2.1,h1.2.2⟩
 have hK:T.length=K.length:=by rw [h.eq hT,listed_len,hT.len]
 have e1:=enc_len 11 K.length
 unfold Cq
 rw [hK,show AC (toW (K.length:Int))=some (enc 11 K.length) from num_r _ (by omega),ob_]
 have:=pall_l0 T hl hb (((T.length:Int)-0).toNat+1) 0 (enc 11 K.length) (by omega) (by omega) (by omega)
 rw [List.drop_zero,hK] at this
 rw [show Bx T (((K.length:Int)-0).toNat+1) (enc 11 K.length) 0=_ from this,ob_]
 congr 2
 rw [h.eq hT]
 unfold listed tlb
 rw [List.flatMap_map]
 rw [List.flatMap_def,List.flatMap_def]
 refine congrArg List.flatten (List.map_congr_left fun k hk =>?_)
 obtain ⟨e,he⟩:=keys_mem.1 ((ksort_perm _).mem_iff.1 hk)
 rw [he]
 show eb e.Key e=eb k e
 rw [hT.key he]
theorem PP.Exp(h:PP n seed p P)(hn:n≤400):∃b,Dp p=some b∧CR P=some b∧b.length≤460000:=by
 have hM:500000≤maxS:=by decide
 unfold Dp CR AA
 rcases h with ⟨t,x,h1,h2,h3,h4,h⟩ | ⟨t,s,x,h1,h2,h3,h4,h⟩
 ·obtain ⟨g,hg,hgn⟩:=h.gt
  have hz:=h.size (g:=g)
  have hz1:([1]:Str).length+(abytes n g x).length≤maxS:=by rw [List.length_singleton];omega
  rw [if_pos (k1t h1),num1,ob_,h2,om_some,h.Export hg hgn,ob_,if_pos hz1,if_pos (k1t h3),h4,hg,h.dPut hgn,ob_,if_pos (by first | exact hz1 | (simp at hz1 ⊢;omega))]
  exact ⟨_,rfl,rfl,by rw [List.length_append,List.length_singleton];omega⟩
 ·have hz:=tsize h
  have hz1:([2]:Str).length+(tbytes n seed s x).length≤maxS:=by rw [List.length_singleton];omega
  rw [if_neg (k1f h1),if_pos (k2t h1),num2,ob_,h2,om_some,h.Export,ob_,if_pos hz1,if_neg (k1f h3),h4,_root_.Go.Proofs.YtpanhdnglicknaaGreat.Pure.dPut h (by omega),ob_,if_pos (by first | exact hz1 | (simp at hz1 ⊢;omega))]
  exact ⟨_,rfl,rfl,by rw [List.length_append,List.length_singleton];omega⟩
end
theorem dreply{r:Ap}(h:ROk r):C8 r=some (rbt r):=by
 obtain ⟨h1,h2,h3⟩:=h
 have hM:20000000≤maxS:=by decide
 have e:r.E=((r.E.toNat:Nat):Int):=by omega
 have l1:=tb_le h3
 have l2:=enc_len 11 r.E.toNat
 have l3:=enc_len 11 r.Version.toNat
 unfold C8
 rw [e,show AC (toW ((r.E.toNat:Nat):Int))=some (enc 11 r.E.toNat) from num_r _ (by omega),ob_,dtxt _ (by omega),ob_,if_pos (by omega),dnum,ob_,if_pos (by rw [List.length_append];omega)]
 rfl
theorem dsess_l0(m:Ac)(hl:m.Sessions.length≤64)(hb:∀x∈m.Sessions,ROk x.Reply):∀(f i:Nat) (c:Str),m.Sessions.length-i<f→i≤m.Sessions.length→c.length≤6000000+4151*i →
  BA m f c (i:Int)=some (c++(m.Sessions.drop i).flatMap fun x=>sb1 x.Session ⟨x.Num,x.Reply⟩)
 | 0,i,c,h,_,_=>by omega
 | f+1,i,c,h,hi,hc=>by
  have hM:20000000≤maxS:=by decide
  unfold BA
  by_cases h1:i<m.Sessions.length
  ·have hr:=hb _ (List.getElem_mem h1)
   have b1:=rbt_le hr
   have b2:=enc_len 11 m.Sessions[i].Session.toNat
   have b3:=enc_len 11 m.Sessions[i].Num.toNat
   have b4:=sb1_le (k:=m.Sessions[i].Session) (l:=⟨m.Sessions[i].Num,m.Sessions[i].Reply⟩) hr
   rw [if_pos (by simpa using h1),gN h1,ob_,dnum,ob_,dnum,ob_,if_pos (by omega),dreply hr,ob_,if_pos (by rw [List.length_append];omega)]
   change (if c.length+(sb1 m.Sessions[i].Session ⟨m.Sessions[i].Num,m.Sessions[i].Reply⟩).length≤maxS then BA m f (c++sb1 m.Sessions[i].Session ⟨m.Sessions[i].Num,m.Sessions[i].Reply⟩) (i64 ((i:Int)+1)) else none)=_
   rw [if_pos (by omega),i_a1 (by omega),dsess_l0 m hl hb f (i+1) _ (by omega) (by omega) (by rw [List.length_append];omega),drop_at' h1,List.flatMap_cons,List.append_assoc]
  ·rw [if_neg (by simpa using h1),List.drop_eq_nil_of_le (by omega)];simp
def hd9(m:Ac):List UInt64:=[toW m.C.Policy,toW m.C.Entries,toW m.C.Bytes,m.C.Seed,m.Seq,m.Now,m.Ver,toW m.Asked,toW m.Hits]
theorem dhead_l1(m:Ac):∀(f i:Nat) (c:Str),9-i<f→i≤9→c.length≤11*i →
  BB m f c (i:Int)=some (c++((hd9 m).drop i).flatMap fun x=>enc 11 x.toNat)
 | 0,i,c,h,_,_=>by omega
 | f+1,i,c,h,hi,hc=>by
  have hM:20000000≤maxS:=by decide
  have hl:(hd9 m).length=9:=rfl
  unfold BB
  change (if decide ((i:Int)<((hd9 m).length:Int))=true then (gi (hd9 m) (i:Int)).bind fun x50=>(AC x50).bind fun r52=>if c.length+r52.length≤maxS then BB m f (c++r52) (i64 ((i:Int)+1)) else none else some c)=_
  by_cases h1:i<(hd9 m).length
  ·have b2:=enc_len 11 (hd9 m)[i].toNat
   rw [if_pos (by simpa using h1),gN h1,ob_,dnum,ob_,if_pos (by omega),i_a1 (by omega),dhead_l1 m f (i+1) _ (by omega) (by omega) (by rw [List.length_append];omega),drop_at' h1,List.flatMap_cons,List.append_assoc]
  ·rw [if_neg (by simpa using h1),List.drop_eq_nil_of_le (by omega)];simp
def lss(ss:List (UInt64×Ar)):List As:=(usort (ss.map (·.1))).map fun k=>⟨k,((mget ss k).getD (⟨0,(⟨0,[],0⟩:Ap)⟩:Ar)).num,((mget ss k).getD (⟨0,(⟨0,[],0⟩:Ap)⟩:Ar)).reply⟩
theorem LS.eq{l:List As}{ss:List (UInt64×Ar)}(h:LS l ss)(hu:Uk ss):l=lss ss:=by
 refine so_eq stoW h.so ?_ fun x =>?_
 ·unfold lss So
  rw [List.pairwise_map]
  exact us_lt hu
 ·rw [h.me]
  unfold lss
  rw [List.mem_map]
  constructor
  ·intro hg
   refine ⟨x.Session,(usort_perm _).mem_iff.2 (Classical.byContradiction fun z=>by rw [(mget_none ss _).2 z] at hg;cases hg),?_⟩
   rw [hg];rfl
  ·rintro ⟨k,hk,rfl⟩
   cases hg:mget ss k with
   | none=>exact absurd ((usort_perm _).mem_iff.1 hk) ((mget_none ss k).1 hg)
   | some v=>rfl
theorem sd_put{κ:Int}{n N B:Nat}{c:Au}{s:Ak}{m:Ac}{t:Am}{p:Ah}{K:List Str}(h:SD n s m)(hS:SI n B N c s t p K)(hX:SX κ N s)(hC:CF κ n c)(hP:SP s.sessions)(hn:n≤400)(hB:B≤100000)(hN:N≤100000):
  ∃b,Di s=some b∧Ct m=some b:=by
 obtain ⟨⟨c',t',p',K',ss,sq,nw,vr,ty,T,P,S,rfl,rfl,hb,hs,hu,hcb,h64⟩⟩:=h
 obtain ⟨pol,ent,byt,sd⟩:=c'
 obtain ⟨asked,hits⟩:=ty
 have e3:(⟨pol,ent,byt,sd⟩:Au)=c:=hS.sc
 subst e3
 have eK:=hC.p
 have eE:=hC.e
 have eB:=hS.cb
 dsimp only at eK eE eB
 obtain ⟨hh0,hha,haN⟩:=hX.ta
 dsimp only at hh0 hha haN
 have hk:=hC.k
 obtain ⟨k,rfl⟩:∃k:Nat,κ=(k:Int):=⟨κ.toNat,by omega⟩
 obtain ⟨a,rfl⟩:∃a:Nat,asked=(a:Int):=⟨asked.toNat,by omega⟩
 obtain ⟨g,rfl⟩:∃g:Nat,hits=(g:Int):=⟨hits.toNat,by omega⟩
 subst eK eE eB
 have hn1:=hS.pr.n1
 have hM:20000000≤maxS:=by decide
 have hsl:ss.length≤8:=by
  have:=nat_le 8 (ss.map fun q:UInt64×Ar=>q.1) hu fun x hx=>by
   obtain ⟨v,hv,_⟩:=mem_mget' hu hx
   exact (hP x v hv).1
  simpa using this
 have hSl:=hs.len hu
 have hSe:=hs.eq hu
 obtain ⟨pb,ep,dp,hpl⟩:=hb.pp.Exp hn
 have hTb:=hb.tb.bl
 have hTe:=hb.tb.Export
 have dT:=hb.lt.putall hb.tb
 have l1:=enc_len 11 k
 have l2:=enc_len 11 n
 have l3:=enc_len 11 B
 have l4:=enc_len 11 sd.toNat
 have l5:=enc_len 11 sq.toNat
 have l6:=enc_len 11 nw.toNat
 have l7:=enc_len 11 vr.toNat
 have l8:=enc_len 11 a
 have l9:=enc_len 11 g
 have l10:=enc_len 11 ss.length
 have hrs:∀x∈S,ROk x.Reply:=fun x hx=>hX.rs (x.Session,⟨x.Num,x.Reply⟩) (by
  have:=(hs.me x).1 hx
  exact mget_mem' this)
 have hkk:(usort (ss.map (·.1))).length≤64:=by rw [(usort_perm _).length_eq,List.length_map];omega
 have hko:∀j∈usort (ss.map (·.1)),ROk ((mget ss j).getD (⟨0,(⟨0,[],0⟩:Ap)⟩:Ar)).reply:=fun j hj=>by
  have:(⟨j,((mget ss j).getD (⟨0,(⟨0,[],0⟩:Ap)⟩:Ar)).num,((mget ss j).getD (⟨0,(⟨0,[],0⟩:Ap)⟩:Ar)).reply⟩:As)∈S:=by
   rw [hSe];exact List.mem_map.2 ⟨j,hj,rfl⟩
  exact hrs _ this
 generalize hTd:enc 11 K'.length++tlb t'.m (ksort (keys t'.m))=Tb at hTb hTe dT
 obtain ⟨d,ed,hd,hdl⟩:=sexp_l0 ⟨⟨(k:Int),(n:Int),(B:Int),sd⟩,some t',some p',ss,sq,nw,vr,⟨(a:Int),(g:Int)⟩⟩ (usort (ss.map (·.1))) hkk hko ((((usort (ss.map (·.1))).length:Int)-0).toNat+1) 0
  ((((((enc 11 k++enc 11 n)++enc 11 B)++enc 11 sd.toNat)++((((enc 11 sq.toNat++enc 11 nw.toNat)++enc 11 vr.toNat)++enc 11 a)++enc 11 g))++((Tb++pb)++enc 11 ss.length))) (by omega) (by omega) (by simp only [List.length_append];omega)
 rw [List.drop_zero] at hd
 refine ⟨(((((enc 11 k++enc 11 n)++enc 11 B)++enc 11 sd.toNat)++((((enc 11 sq.toNat++enc 11 nw.toNat)++enc 11 vr.toNat)++enc 11 a)++enc 11 g))++((Tb++pb)++enc 11 ss.length))++d,?_,?_⟩
 ·unfold Di
  dsimp only
  rw [num_c k (by omega),ob_,num_c n (by omega),ob_,if_pos (by omega),num_c B (by omega),ob_,if_pos (by simp only [List.length_append];omega),num_w,ob_,if_pos (by simp only [List.length_append];omega),
   num_w,ob_,num_w,ob_,if_pos (by omega),num_w,ob_,if_pos (by simp only [List.length_append];omega),num_c a (by omega),ob_,if_pos (by simp only [List.length_append];omega),num_c g (by omega),ob_,if_pos (by simp only [List.length_append];omega),
   if_pos (by simp only [List.length_append];omega),om_some,hTe,ob_,om_some,ep,ob_,if_pos (by omega),num_c ss.length (by omega),ob_,if_pos (by simp only [List.length_append];omega),if_pos (by simp only [List.length_append];omega)]
  rw [show mkeysW ss=some (usort (ss.map (·.1))) by unfold mkeysW;rw [if_pos (by simp;omega)],ob_]
  rw [show Cl _ (usort (ss.map (·.1))) ((((usort (ss.map (·.1))).length:Int)-0).toNat+1) _ 0=_ from ed,ob_]
 ·generalize hm:(⟨⟨(k:Int),(n:Int),(B:Int),sd⟩,T,P,S,sq,nw,vr,(a:Int),(g:Int)⟩:Ac)=m
  have h9:=dhead_l1 m 10 0 [] (by omega) (by omega) (by simp)
  rw [List.nil_append,List.drop_zero] at h9
  have h9e:(hd9 m).flatMap (fun x=>enc 11 x.toNat)=enc 11 k++(enc 11 n++(enc 11 B++(enc 11 sd.toNat++(enc 11 sq.toNat++(enc 11 nw.toNat++(enc 11 vr.toNat++(enc 11 a++enc 11 g))))))):=by
   rw [←hm]
   simp only [hd9,List.flatMap_cons,List.flatMap_nil,List.append_nil]
   rw [toW_len k (by omega),toW_len n (by omega),toW_len B (by omega),toW_len a (by omega),toW_len g (by omega)]
  rw [h9e] at h9
  have hmS:m.Sessions=S:=by rw [←hm]
  have h0:=dsess_l0 m (by rw [hmS];omega) (by rw [hmS];exact hrs) (((m.Sessions.length:Int)-0).toNat+1) 0 ((enc 11 k++(enc 11 n++(enc 11 B++(enc 11 sd.toNat++(enc 11 sq.toNat++(enc 11 nw.toNat++(enc 11 vr.toNat++(enc 11 a++enc 11 g))))))))++((Tb++pb)++enc 11 ss.length)) (by omega) (by omega) (by simp only [List.length_append];omega)
  rw [List.drop_zero] at h0
  unfold Ct
  rw [show BB m ((([toW m.C.Policy,toW m.C.Entries,toW m.C.Bytes,m.C.Seed,m.Seq,m.Now,m.Ver,toW m.Asked,toW m.Hits].length:Int)-0).toNat+1) [] 0=_ from h9,ob_,
   show m.T=T by rw [←hm],dT,ob_,show m.P=P by rw [←hm],dp,ob_,if_pos (by omega),show AC (toW (m.Sessions.length:Int))=some (enc 11 ss.length) by rw [hmS,hSl];exact num_r _ (by omega),ob_,
   if_pos (by simp only [List.length_append];omega),if_pos (by simp only [List.length_append];omega),show BA m _ _ 0=_ from h0,ob_]
  have hdd:m.Sessions.flatMap (fun x=>sb1 x.Session ⟨x.Num,x.Reply⟩)=d:=by
   rw [hd,hmS,hSe]
   unfold lss slb
   rw [List.flatMap_map]
  rw [hdd]
  simp only [List.append_assoc]
theorem same_l0(m:Ac)(hl:m.T.length≤2000):∀(f i:Nat),m.T.length-i<f→i≤m.T.length→CT m m.T f (i:Int)=some (.inl ())
 | 0,i,h,_=>by omega
 | f+1,i,h,hi=>by
  unfold CT
  by_cases h1:i<m.T.length
  ·rw [if_pos (by simpa using h1),gN h1,ob_,ob_,if_neg (by simp),i_a1 (by omega)]
   exact same_l0 m hl f (i+1) (by omega) (by omega)
  ·rw [if_neg (by simpa using h1)]
theorem sd_same{n:Nat}{s:Ak}{m:Ac}(h:SD n s m):Dz s m=some true:=by
 obtain ⟨⟨c,t,p,K,ss,sq,nw,vr,ty,T,P,S,rfl,rfl,hB,hS,hu,hcb,h64⟩⟩:=h
 have hl:=hB.lt.len hB.tb
 unfold Dz BD Bm Du
 rw [st_entries hB.tb,ob_,←hB.lt.eq hB.tb]
 dsimp only
 rw [if_neg (by simp),if_neg (by simp),if_neg (by simp),if_neg (by simp)]
 simp only [bne_self_eq_false,ob_]
 rw [if_neg (by decide),show CT ⟨c,T,P,S,sq,nw,vr,ty.Asked,ty.Hits⟩ T (((T.length:Int)-0).toNat+1) 0=_ from same_l0 ⟨c,T,P,S,sq,nw,vr,ty.Asked,ty.Hits⟩ (by dsimp only;omega) _ 0 (by dsimp only;omega) (by dsimp only;omega)]
 rfl
theorem told_no(y:AK×UInt64)(q:Ac×Ap×Int)(r:UInt64×Ap×Bool)(hl:q.1.Sessions.length≤2000):∀(f i:Nat) (a b:Bool),q.1.Sessions.length-i<f→i≤q.1.Sessions.length→(∀x∈q.1.Sessions.drop i,x.Session≠y.1.Session) →
  Bj y q r f a b (i:Int)=some (a,b)
 | 0,i,a,b,h,_,_=>by omega
 | f+1,i,a,b,h,hi,hn=>by
  unfold Bj
  by_cases h1:i<q.1.Sessions.length
  ·rw [drop_at' h1] at hn
   rw [if_pos (by simpa using h1),gN h1,ob_,if_neg (by simpa using hn _ (List.mem_cons_self ..)),ob_,i_a1 (by omega)]
   exact told_no y q r hl f (i+1) a b (by omega) (by omega) fun x hx=>hn x (List.mem_cons_of_mem _ hx)
  ·rw [if_neg (by simpa using h1)]
theorem told_yes(y:AK×UInt64)(q:Ac×Ap×Int)(r:UInt64×Ap×Bool)(hl:q.1.Sessions.length≤2000)(hs:SoL q.1.Sessions):∀(f i:Nat) (b:Bool),q.1.Sessions.length-i<f→i≤q.1.Sessions.length→(⟨y.1.Session,r.1,r.2.1⟩:As)∈q.1.Sessions.drop i →
  Bj y q r f true b (i:Int)=some (false,true)
 | 0,i,b,h,_,_=>by omega
 | f+1,i,b,h,hi,hm=>by
  unfold Bj
  by_cases h1:i<q.1.Sessions.length
  ·have hp:SoL (q.1.Sessions.drop i):=List.Pairwise.drop hs
   rw [drop_at' h1] at hm hp
   have hp2:=List.pairwise_cons.1 hp
   rw [if_pos (by simpa using h1),gN h1,ob_,i_a1 (by omega)]
   by_cases h2:q.1.Sessions[i].Session=y.1.Session
   ·have he:(⟨y.1.Session,r.1,r.2.1⟩:As)=q.1.Sessions[i]:=by
     rcases List.mem_cons.1 hm with e | e
     ·exact e
     ·have:=hp2.1 _ e
      dsimp only at this
      rw [h2] at this
      exact absurd this (stoW.ir _)
    rw [←he,if_pos (by simp),ob_]
    have:((true&&(r.1==r.1))&&decide (r.2.1=r.2.1))=true:=by simp
    dsimp only
    rw [this]
    refine told_no y q r hl f (i+1) false true (by omega) (by omega) fun x hx =>?_
    have:=hp2.1 _ hx
    dsimp only at this
    rw [h2] at this
    intro z
    rw [z] at this
    exact stoW.ir _ this
   ·rw [if_neg (by simpa using h2),ob_]
    rcases List.mem_cons.1 hm with e | e
    ·exact absurd (by rw [←e]) h2
    ·exact told_yes y q r hl hs f (i+1) b (by omega) (by omega) e
  ·rw [List.drop_eq_nil_of_le (by omega)] at hm;cases hm
theorem new_both{k n:Nat}(hk:k=1∨k=2)(seed:UInt64)(h1:1≤n)(h2:n≤400):∃p P,Dm (k:Int) (n:Int) seed=some (some p,0)∧DG (k:Int) (n:Int) seed=some P∧PP n seed p P:=by
 unfold Dm DG
 rcases hk with rfl | rfl
 ·obtain ⟨t,e,ed,h⟩:=new_ae n h1 h2
  rw [if_pos (k1t (k:=((1:Nat):Int)) rfl),if_pos (k1t (k:=((1:Nat):Int)) rfl),e,ed,ob_,ob_,ob_]
  exact ⟨_,_,rfl,rfl,.inl ⟨t,_,rfl,rfl,rfl,rfl,h⟩⟩
 ·obtain ⟨t,s,e,h,hs⟩:=new_t n seed h1 (by omega)
  have e2:=new_d n seed h1 (by omega)
  rw [←hs] at e2
  rw [if_neg (k1f (k:=((2:Nat):Int)) rfl),if_neg (k1f (k:=((2:Nat):Int)) rfl),if_pos (k2t (k:=((2:Nat):Int)) rfl),e,e2,ob_,ob_,ob_,ob_]
  exact ⟨_,_,rfl,rfl,.inr ⟨t,s,_,rfl,rfl,rfl,rfl,h⟩⟩
theorem pl_l0{κ:Int}{n B:Nat}{c:Au}(hn4:n≤400)(l:List AM):∀(f i:Nat) (s:Ak) (m:Ac) (now:UInt64),f=l.length-i+1→i≤l.length→i≤80→Px κ n B i c s now→SD n s m→now.toNat≤100*i →
  ∃s' m' now',BQ l f (some s) now (i:Int) m=some (.inl (some s',m'))∧Px κ n B 80 c s' now'∧SD n s' m':=by
 intro f
 induction f with
 | zero=>intro i s m now h;omega
 | succ f ih =>
  intro i s m now hf hi hi2 h hd hnw
  unfold BQ
  by_cases hc:i<l.length∧i<80
  ·obtain ⟨y,nx,e1,e2,h1,h2,h3,h4⟩:=rec_ok (Bm s) now l[i] (by omega)
   obtain ⟨r,e,s',e3,h'⟩:=px_step h (by omega) h1 h2 (by rw [e2];exact h3)
   obtain ⟨⟨⟨t,p,K,hS⟩,hP,-⟩,-,-⟩:=h
   obtain ⟨r2,er2,s2,m',e4,e5,hd'⟩:=sd_apply hd hn4 (by have:=hS.sn;omega) y
   rw [e3] at e4;cases e4
   obtain ⟨r3,e3',s3,t3,p3,K3,e6,hS3,hcs⟩:=hS.apply (by omega) y
   rw [e3] at e6;cases e6
   rw [e2] at h'
   have hsame:=sd_same hd'
   rw [if_pos (by simp;omega),om_some,gN hc.1,ob_,e1,ob_,e3,ob_,e5,ob_]
   dsimp only
   rw [if_neg (by simp),hsame,ob_,ob_,if_neg (by decide),lt_eq]
   obtain ⟨⟨c',t',p',K',ss,sq,nw,vr,ty,T,P,S,rfl,rfl,hB,hLS,hu,hcb,h64⟩⟩:=hd'
   have hSl:=hLS.len hu
   have fin:∃b,Bj (y,nx) (⟨c',T,P,S,sq,nw,vr,ty.Asked,ty.Hits⟩,r,e) (CP ⟨c',some t',some p',ss,sq,nw,vr,ty⟩ y.Session) (((S.length:Int)-0).toNat+1) (CP ⟨c',some t',some p',ss,sq,nw,vr,ty⟩ y.Session).2.2 false 0=some (false,b)∧((((!b&&(e==0))&&(y.Op.Kind != 5))&&(r.E != 3))=false):=by
    cases hg:mget ss y.Session with
    | some v =>
     have ht:CP ⟨c',some t',some p',ss,sq,nw,vr,ty⟩ y.Session=(v.num,v.reply,true):=by unfold CP;dsimp only;rw [hg];rfl
     rw [ht]
     have hm:(⟨y.Session,v.num,v.reply⟩:As)∈S:=(hLS.me _).2 hg
     exact ⟨true,told_yes (y,nx) (⟨c',T,P,S,sq,nw,vr,ty.Asked,ty.Hits⟩,r,e) (v.num,v.reply,true) (by dsimp only;omega) hLS.so _ 0 false (by dsimp only;omega) (by dsimp only;omega) hm,by simp⟩
    | none =>
     have ht:(CP ⟨c',some t',some p',ss,sq,nw,vr,ty⟩ y.Session).2.2=false:=by unfold CP;dsimp only;rw [hg];rfl
     rw [ht]
     refine ⟨false,told_no (y,nx) (⟨c',T,P,S,sq,nw,vr,ty.Asked,ty.Hits⟩,r,e) _ (by dsimp only;omega) _ 0 false false (by dsimp only;omega) (by dsimp only;omega) fun x hx z =>?_,?_⟩
     ·have hx:x∈S:=hx
      have h9:=(hLS.me x).1 hx
      have z:x.Session=y.Session:=z
      rw [z,hg] at h9;cases h9
     ·rcases hcs with ⟨h9,_⟩ | ⟨rfl,_,_,hx⟩
      ·simp [h9]
      ·rcases hx.cs with ⟨q1,_,q2,_⟩ | ⟨_,_,q1,_⟩
       ·rcases q2 with ⟨q2,_⟩ | ⟨_,⟨l',hl',_⟩ | ⟨_,_,q2⟩⟩
        ·simp [q2]
        ·have q1:ss=s.sessions:=q1
         rw [←q1,hg] at hl';cases hl'
        ·rw [q2];simp
       ·have q1:ss=mput s.sessions y.Session ⟨y.Num,r⟩:=q1
        rw [q1,mget_put,if_pos (by simp)] at hg;cases hg
   obtain ⟨b,f1,f2⟩:=fin
   rw [f1,ob_]
   dsimp only
   rw [f2,if_neg (by decide),ob_]
   dsimp only
   rw [i_a1 (by omega)]
   exact ih (i+1) _ _ nx (by omega) (by omega) (by omega) h' ⟨c',t',p',K',ss,sq,nw,vr,ty,T,P,S,rfl,rfl,hB,hLS,hu,hcb,h64⟩ (by omega)
  ·rw [if_neg (by simp;omega)]
   obtain ⟨⟨⟨t,p,K,hS⟩,hP,hn2⟩,hX,hC⟩:=h
   exact ⟨s,m,now,rfl,⟨⟨⟨t,p,K,⟨hS.st,hS.sp,hS.sc,hS.cb,hS.b2,hS.tb,hS.pr,hS.ms,hS.en,by have:=hS.vn;omega,by have:=hS.sn;omega⟩⟩,hP,hn2⟩,hX.le hi2,hC⟩,hd⟩
theorem StorePlays(x:Au)(l:List AM){p1 p2 p3:Prop}(_:p1)(_:p2)(_:p3):Dg x l=some true:=by
 obtain ⟨k,n,B,e,hk,h1,h2,h3,h4⟩:=cfg_ok x
 obtain ⟨s,t,p,K,e2,hS,hs,hn,hty,hm⟩:=si_new hk x.Seed h1 h2 h3 h4
 obtain ⟨p0,P,e3,e4,hPP⟩:=new_both hk x.Seed h1 (by omega)
 have hp:Pl n B 0 ⟨(k:Int),(n:Int),(B:Int),x.Seed⟩ s 0:=⟨⟨t,p,K,hS⟩,(by rw [hs];intro j l hl;cases hl),by rw [hn];exact Nat.le_refl _⟩
 have hX:SX (k:Int) 0 s:=by
  refine ⟨⟨fun q hq=>k_new _ _ e2 s rfl q hq,fun t' ht' z hz =>?_⟩,?_,?_,?_⟩
  ·have:=hS.st;rw [ht'] at this;cases this
   rw [hm] at hz;cases hz
  ·rw [hs];intro z hz;cases hz
  ·rw [hs];exact List.nodup_nil
  ·rw [hty];decide
 have hC:CF (k:Int) n ⟨(k:Int),(n:Int),(B:Int),x.Seed⟩:=⟨by omega,rfl,rfl,by dsimp only;omega⟩
 have hck:DU ⟨(k:Int),(n:Int),(B:Int),x.Seed⟩=true:=by unfold DU;simp;omega
 have es:s=⟨⟨(k:Int),(n:Int),(B:Int),x.Seed⟩,some ⟨[],0⟩,some p0,[],0,0,0,⟨0,0⟩⟩:=by
  unfold DR at e2
  rw [if_neg (by rw [hck];decide),e3,ob_] at e2
  exact (Option.some.inj (Prod.mk.inj (Option.some.inj e2)).1).symm
 have hpp:p=p0:=by have:=hS.sp;rw [es] at this;exact (Option.some.inj this).symm
 have htt:t=⟨[],0⟩:=by have:=hS.st;rw [es] at this;exact (Option.some.inj this).symm
 subst hpp htt
 have hlt:LT [] ⟨[],0⟩:=⟨List.Pairwise.nil,fun e=>⟨fun h=>(by cases h),fun h=>(by cases h)⟩⟩
 have hls:LS [] []:=⟨List.Pairwise.nil,fun e=>⟨fun h=>(by cases h),fun h=>(by cases h)⟩⟩
 have hd:SD n s ⟨⟨(k:Int),(n:Int),(B:Int),x.Seed⟩,[],P,[],0,0,0,0,0⟩:=⟨_,_,_,K,_,_,_,_,_,_,_,_,es,rfl,⟨hS.tb,hS.pr,hlt,hPP⟩,hls,List.nodup_nil,by dsimp only;omega,by simp⟩
 obtain ⟨s',m',now',e5,⟨⟨⟨t',p',K',hS'⟩,hP',-⟩,hX',hC'⟩,hd'⟩:=pl_l0 (by omega) l (((l.length:Int)-0).toNat+1) 0 s _ 0 (by omega) (by omega) (by omega) ⟨hp,hX,hC⟩ hd (by decide)
 obtain ⟨b,f1,f2⟩:=sd_put hd' hS' hX' hC' hP' (by omega) (by omega) (by decide)
 have ed:DH ⟨(k:Int),(n:Int),(B:Int),x.Seed⟩=some ⟨⟨(k:Int),(n:Int),(B:Int),x.Seed⟩,[],P,[],0,0,0,0,0⟩:=by
  unfold DH;dsimp only;rw [e4];rfl
 unfold Dg
 rw [e,e2,ob_,ed,ob_,awake12,ob_,if_neg (by simp)]
 dsimp only
 rw [show BQ l (((l.length:Int)-0).toNat+1) (some s) 0 0 _=_ from e5,ob_]
 dsimp only
 rw [om_some,f1,ob_,f2,ob_,if_pos (by simp)]
 have:Dl s'=⟨(k:Int),(n:Int),(B:Int),x.Seed⟩:=hS'.sc
 rw [this];simp
end Go.Proofs.YtpanhdnglicknaaGreat.Pure
