import Derived.Test.YtpanhdnglicknaaGreatW4
import Derived.Test.YtpanhdnglicknaaGreatQ0
import Derived.Test.YtpanhdnglicknaaGreatQ1
import Derived.Test.YtpanhdnglicknaaGreatQ2
import Derived.Test.YtpanhdnglicknaaGreatQ3
set_option linter.unusedVariables false
set_option linter.unusedSectionVars false
set_option linter.unusedSimpArgs false
set_option maxRecDepth 100000
set_option maxHeartbeats 4000000
namespace Go.Proofs.YtpanhdnglicknaaGreat.Pure
open Go Go.Proofs.YtpanhdnglicknaaGreat.Hw Go.Proofs.YtpanhdnglicknaaGreat
section
variable {L:List (List Str)} {p:Int} {key:Str}
theorem rin1{i:Nat}{l:List Str}(hl:L[i]? = some l)(hb:l.length≤1000):∀(f k:Nat),l.length-k<f→k≤l.length →
  CH ⟨L,p⟩ key (i:Int) f (k:Int)=if key∈l.drop k then some (Sum.inr (Sum.inr (Sum.inr ((i:Int),true)))) else some (Sum.inl ())
 | 0,k,h,_=>by omega
 | f+1,k,h,hk=>by
  unfold CH
  rw [show gi L (i:Int)=some l by rw [giC];exact hl,Option.bind_some]
  rcases Nat.lt_or_ge k l.length with h1 | h1
  ·rw [if_pos (by simp;exact h1),giC,List.getElem?_eq_getElem h1,Option.bind_some,i64n k (by omega),rin1 hl hb f (k+1) (by omega) (by omega),List.drop_eq_getElem_cons h1]
   by_cases h2:l[k]=key
   ·rw [if_pos (by simpa using h2),if_pos (by simp [h2])]
   ·rw [if_neg (by simpa using h2)]
    by_cases h3:key∈l.drop (k+1)
    ·rw [if_pos h3,if_pos (List.mem_cons_of_mem _ h3)]
    ·rw [if_neg h3,if_neg (fun h=>(List.mem_cons.1 h).elim (fun e=>h2 e.symm) h3)]
  ·rw [if_neg (by simp;exact_mod_cast h1),List.drop_eq_nil_of_le h1,if_neg (by simp)]
def inK:List (List Str)→Str→Option Nat
 | [],_=>none
 | l::L,k=>if k∈l then some 0 else (inK L k).map (· + 1)
theorem inK_some:∀{L:List (List Str)} {k:Str},k∈L.flatten→∃i l,inK L k=some i∧L[i]? = some l∧k∈l
 | [],_,h=>by simp at h
 | l::L,k,h=>by
  rw [inK]
  by_cases h1:k∈l
  ·exact ⟨0,l,by rw [if_pos h1],rfl,h1⟩
  ·have h2:k∈L.flatten:=by simpa [h1] using h
   obtain ⟨i,m,e,h3,h4⟩:=inK_some h2
   exact ⟨i+1,m,by rw [if_neg h1,e];rfl,h3,h4⟩
theorem rin0(hb:∀l∈L,l.length≤1000)(hL:L.length≤1000):∀(f i:Nat),L.length-i<f→i≤L.length →
  Cb ⟨L,p⟩ key f (i:Int)=match inK (L.drop i) key with
   | some j=>some (Sum.inr (((i+j:Nat):Int),true))
   | none=>some (Sum.inl ())
 | 0,i,h,_=>by omega
 | f+1,i,h,hk=>by
  unfold Cb
  rcases Nat.lt_or_ge i L.length with h1 | h1
  ·have e:=rin1 (p:=p) (key:=key) (List.getElem?_eq_getElem h1) (hb _ (List.getElem_mem h1)) 1100 0 (by have:=hb _ (List.getElem_mem h1);omega) (by omega)
   rw [List.drop_zero,show ((0:Nat):Int)=0 from rfl] at e
   rw [if_pos (by simp;exact h1),e,List.drop_eq_getElem_cons h1,inK]
   by_cases h2:key∈L[i]
   ·rw [if_pos h2,if_pos h2];rfl
   ·rw [if_neg h2,if_neg h2]
    show (Cb ⟨L,p⟩ key f (i64 ((i:Int)+1)))=_
    rw [i64n i (by omega),rin0 hb hL f (i+1) (by omega) (by omega)]
    cases inK (L.drop (i+1)) key with
    | none=>rfl
    | some j=>simp only [Option.map_some];rw [show i+1+j=i+(j+1) by omega]
  ·rw [if_neg (by simp;exact_mod_cast h1),List.drop_eq_nil_of_le h1];rfl
theorem rin(hb:∀l∈L,l.length≤1000)(hL:L.length≤1000):BV ⟨L,p⟩ key=match inK L key with
   | some j=>some ((j:Int),true)
   | none=>some (0,false):=by
 unfold BV
 rw [show (((⟨L,p⟩:Ay).L.length:Int)-0).toNat=L.length by simp]
 have:=rin0 (p:=p) (key:=key) hb hL (L.length+1) 0 (by omega) (by omega)
 rw [show ((0:Nat):Int)=0 from rfl,List.drop_zero] at this
 rw [this]
 cases inK L key with
 | none=>rfl
 | some j=>simp
theorem rmany0(hs:L.flatten.length≤1000000)(hL:L.length≤1000):∀(f i n:Nat),L.length-i<f→i≤L.length→n+(L.drop i).flatten.length=L.flatten.length →
  Cn ⟨L,p⟩ f (n:Int) (i:Int)=some (L.flatten.length:Int)
 | 0,i,n,h,_,_=>by omega
 | f+1,i,n,h,hk,he=>by
  unfold Cn
  rcases Nat.lt_or_ge i L.length with h1 | h1
  ·rw [if_pos (by simp;exact h1),show gi L (i:Int)=some L[i] by rw [giC];exact List.getElem?_eq_getElem h1,Option.bind_some,i64n i (by omega)]
   rw [List.drop_eq_getElem_cons h1,List.flatten_cons,List.length_append] at he
   rw [i64s _ (by omega) (by omega),show ((n:Int)+(L[i].length:Int))=((n+L[i].length:Nat):Int) by simp]
   exact rmany0 hs hL f (i+1) _ (by omega) (by omega) (by omega)
  ·rw [if_neg (by simp;exact_mod_cast h1)]
   rw [List.drop_eq_nil_of_le h1] at he
   simp at he
   rw [he];simp
theorem rmany(hs:L.flatten.length≤1000000)(hL:L.length≤1000):Di ⟨L,p⟩=some (L.flatten.length:Int):=by
 unfold Di
 have:=rmany0 (p:=p) hs hL (L.length+1) 0 0 (by omega) (by omega) (by simp)
 rw [show (((⟨L,p⟩:Ay).L.length:Int)-0).toNat=L.length by simp,show (0:Int)=((0:Nat):Int) from rfl,this];rfl
theorem rdrop1{i:Nat}{l:List Str}(hl:L[i]? = some l)(hb:l.length≤1000):∀(f k:Nat) (o:List Str),l.length-k<f→k≤l.length→o.length≤k →
  Co ⟨L,p⟩ key (i:Int) f o (k:Int)=some (o++(l.drop k).filter fun x => !(x==key))
 | 0,k,o,h,_,_=>by omega
 | f+1,k,o,h,hk,ho=>by
  unfold Co
  rw [show gi L (i:Int)=some l by rw [giC];exact hl,Option.bind_some]
  rcases Nat.lt_or_ge k l.length with h1 | h1
  ·rw [if_pos (by simp;exact h1),giC,List.getElem?_eq_getElem h1,Option.bind_some,i64n k (by omega),List.drop_eq_getElem_cons h1]
   by_cases h2:l[k]=key
   ·rw [if_neg (by simp [h2]),Option.bind_some,rdrop1 hl hb f (k+1) o (by omega) (by omega) (by omega),List.filter_cons_of_neg (by simp [h2])]
   ·rw [if_pos (by simpa using h2),apd_i 16 o [l[k]] (by omega) (by simp;omega),Option.bind_some,Option.bind_some,rdrop1 hl hb f (k+1) _ (by omega) (by omega) (by simp;omega),List.filter_cons_of_pos (by simp [h2])];simp
  ·rw [if_neg (by simp;exact_mod_cast h1),List.drop_eq_nil_of_le h1];simp
theorem rdrop0(hb:∀l∈L,l.length≤1000)(hL:L.length≤1000):∀(f i:Nat) (c:List (List Str)),L.length-i<f→i≤L.length→c.length=L.length →
  Cp ⟨L,p⟩ key f (i:Int) c=some (c.take i++rmK (L.drop i) key)
 | 0,i,c,h,_,_=>by omega
 | f+1,i,c,h,hk,hc=>by
  unfold Cp
  rcases Nat.lt_or_ge i L.length with h1 | h1
  ·have h2:i<c.length:=by omega
   rw [if_pos (by simp;exact h1),show (0:Int)=((0:Nat):Int) from rfl,rdrop1 (List.getElem?_eq_getElem h1) (hb _ (List.getElem_mem h1)) 1100 0 [] (by have:=hb _ (List.getElem_mem h1);omega) (by omega) (by simp),List.drop_zero,Option.bind_some,
    show gi c (i:Int)=some c[i] by rw [giC];exact List.getElem?_eq_getElem h2,Option.bind_some,Option.bind_some,i64n i (by omega),lsC,
    rdrop0 hb hL f (i+1) _ (by omega) (by omega) (by simpa using hc),List.drop_eq_getElem_cons h1]
   simp only [rmK,List.map_cons,List.nil_append]
   rw [List.take_set,List.take_add_one,List.getElem?_eq_getElem h2]
   rw [List.set_append_right _ _ (by simp;omega)]
   simp [Nat.min_eq_left (Nat.le_of_lt h2)]
  ·rw [if_neg (by simp;exact_mod_cast h1),List.drop_eq_nil_of_le h1];simp [rmK];exact (List.take_of_length_le (by omega)).symm
theorem rnew(k:Nat)(hk:k≤5000):Do (k:Int) p=some ⟨List.replicate k [],p⟩:=by
 unfold Do;rw [mks_i 24 k _ (by omega) hk];rfl
theorem rdrop(hb:∀l∈L,l.length≤1000)(hL:L.length≤1000):BB ⟨L,p⟩ key=some ⟨rmK L key,p⟩:=by
 unfold BB
 rw [show Do _ _=_ from rnew L.length (by omega),Option.bind_some]
 have:=rdrop0 (p:=p) (key:=key) hb hL (L.length+1) 0 (List.replicate L.length []) (by omega) (by omega) (by simp)
 rw [show (((⟨L,p⟩:Ay).L.length:Int)-0).toNat=L.length by simp,show (0:Int)=((0:Nat):Int) from rfl,this];simp
end
section
variable {L:List (List Str)} {p:Int} {key:Str}
theorem rfrontT(hb:∀l∈L,l.length≤1000)(hL:L.length≤1000){i:Nat}(hi:i<L.length):
  ((BB ⟨L,p⟩ key).bind fun r10=>(gi r10.L (i:Int)).bind fun y16=>(apd 16 [key] y16).bind fun l20=>some ((⟨ls r10.L (i:Int) l20,r10.Places⟩:Ay),true))=some (⟨frK L i key,p⟩,true):=by
 rw [rdrop hb hL,Option.bind_some]
 have h1:i<(rmK L key).length:=by simpa [rmK] using hi
 dsimp only
 rw [giC,List.getElem?_eq_getElem h1,Option.bind_some]
 have h2:((rmK L key)[i]).length≤1000:=by
  have:(rmK L key)[i]=(L[i]).filter fun x => !(x==key):=by simp [rmK]
  rw [this]
  exact Nat.le_trans (List.length_filter_le _ _) (hb _ (List.getElem_mem hi))
 rw [apd_i 16 [key] _ (by omega) (by simp;omega),Option.bind_some,lsC]
 unfold frK
 rw [List.getD_eq_getElem?_getD,List.getElem?_eq_getElem h1]
 rfl
theorem rfront(hb:∀l∈L,l.length≤1000)(hL:L.length≤1000)(hs:L.flatten.length≤1000000){i:Nat}(hi:i<L.length)(h64:key.length≤64)(hr:key∈L.flatten∨(L.flatten.length:Int)<p):
  CI ⟨L,p⟩ (i:Int) key=some (⟨frK L i key,p⟩,true):=by
 unfold CI
 rw [rin hb hL]
 have e1:((decide ((i:Int)<0)||decide ((L.length:Int)≤(i:Int)))||decide (64<(key.length:Int)))=false:=by simp;omega
 cases h:inK L key with
 | some j =>
  dsimp only
  rw [Option.bind_some,e1,if_neg (by decide),if_pos rfl,Option.bind_some,Option.bind_some,if_neg (by decide)]
  exact rfrontT hb hL hi
 | none =>
  have hk:key∉L.flatten:=fun hk=>by obtain ⟨i,l,e,_⟩:=inK_some hk;rw [e] at h;cases h
  have hr:(L.flatten.length:Int)<p:=hr.resolve_left hk
  dsimp only
  rw [Option.bind_some,e1,if_neg (by decide),if_neg (by decide),rmany hs hL,Option.bind_some,Option.bind_some]
  rw [show decide (p≤(L.flatten.length:Int))=false from decide_eq_false (by omega),Option.bind_some,if_neg (by decide)]
  exact rfrontT hb hL hi
theorem rback{i:Nat}{l:List Str}(hl:L[i]? = some l)(hb:l.length≤1000):AX ⟨L,p⟩ (i:Int)=some (match l.getLast? with | some k=>(k,true) | none=>([],false)):=by
 have hi:i<L.length:=by rcases Nat.lt_or_ge i L.length with h | h;exact h;rw [List.getElem?_eq_none h] at hl;cases hl
 unfold AX
 dsimp only
 rw [show (decide ((i:Int)<0)||decide ((L.length:Int)≤(i:Int)))=false by simp;omega,if_neg (by decide),giC,hl,Option.bind_some,Option.bind_some,Option.bind_some]
 cases e:l.getLast? with
 | none=>rw [List.getLast?_eq_none_iff.1 e];rfl
 | some k =>
  obtain ⟨q,rfl⟩:=List.getLast?_eq_some_iff.1 e
  rw [List.length_append,List.length_singleton] at hb
  rw [if_neg (by simp;omega),i64s _ (by rw [List.length_append];omega) (by rw [List.length_append,List.length_singleton];omega),show (((q++[k]).length:Int)-1)=(q.length:Int) by simp,giC]
  simp
end
section
variable {n:Nat} {seed:UInt64} {t:Af} {s:Sk} {x:TL} {k:Str}
end
namespace AL
end AL
structure AE (n:Nat) (t:Ai) (x:AL):Prop where
 n1:1≤n
 n2:n≤400
 ms:t.most=(n:Int)
 tg:0≤t.target∧t.target≤(n:Int)
 rg:∃r,t.r=some r∧RR 4 (2*n+1) r x.L
 b1:x.a.length+x.b.length≤n
 b2:x.a.length+x.c.length≤n
 b3:x.a.length+x.b.length+x.c.length+x.d.length≤2*n
abbrev AD(n:Nat)(g:Int)(x:AL):Ax:=⟨(n:Int),g,⟨x.L,((2*n+1:Nat):Int)⟩⟩
section
variable {n:Nat} {t:Ai} {x:AL} {g:Int} {k:Str}
theorem AE.nd(h:AE n t x):x.all.Nodup:=by
 obtain ⟨r,_,hr⟩:=h.rg;have:=hr.nd;rw [afl] at this;exact this
theorem AE.kl(h:AE n t x):∀k∈x.all,k.length≤64:=by
 obtain ⟨r,_,hr⟩:=h.rg;have:=hr.kl;rw [afl] at this;exact this
theorem AE.Has(h:AE n t x)(k:Str):B7 t k=some (decide (k∈x.kept)):=by
 obtain ⟨r,hr,hR⟩:=h.rg
 obtain ⟨_,_,_,_,d1,d2,d3⟩:=all_dj h.nd
 unfold B7
 rw [hr,om_some]
 by_cases ha:k∈x.a
 ·rw [hR.in_some (i:=0) rfl ha,Option.bind_some];simp [mem_kept,ha]
 ·by_cases hb:k∈x.b
  ·rw [hR.in_some (i:=1) rfl hb,Option.bind_some];simp [mem_kept,hb]
  ·by_cases hc:k∈x.c
   ·rw [hR.in_some (i:=2) rfl hc,Option.bind_some];simp [mem_kept,ha,hb]
   ·by_cases hd:k∈x.d
    ·rw [hR.in_some (i:=3) rfl hd,Option.bind_some];simp [mem_kept,ha,hb]
    ·rw [hR.in_none (by rw [afl,mem_all];simp [ha,hb,hc,hd]),Option.bind_some];simp [mem_kept,ha,hb]
theorem AE.Len(h:AE n t x):Bx t=some ((x.a.length+x.b.length:Nat):Int):=by
 obtain ⟨r,hr,hR⟩:=h.rg
 have:=h.b1
 have:=h.n2
 have l0:=hR.Len (i:=0) (l:=x.a) rfl
 have l1:=hR.Len (i:=1) (l:=x.b) rfl
 unfold Bx
 rw [hr,om_some,show Aq r 0=_ from l0,Option.bind_some,show Aq r 1=_ from l1,Option.bind_some,i64s _ (by omega) (by omega)]
 congr 1
theorem AE.front(h:AE n t x){r:Ab}(hR:RR 4 (2*n+1) r x.L){k:Str}(h64:k.length≤64){j:Nat}(hj:j<4):∃r',Au r (j:Int) k=some (true,r')∧RR 4 (2*n+1) r' (frK x.L j k):=by
 have:=h.n2
 have:=h.b3
 exact hR.frontA (by omega) h64 (.inr (by rw [afl];unfold AL.all;simp;omega)) hj
theorem AE.gone(h:AE n t x){r:Ab}{k:Str}(hR:RR 4 (2*n+1) r (x.drop k).L):AE n ⟨t.most,t.target,some r⟩ (x.drop k):=by
 have la:=rm_le x.a k;have lb:=rm_le x.b k;have lc:=rm_le x.c k;have ld:=rm_le x.d k
 have b1:=h.b1;have b2:=h.b2;have b3:=h.b3
 refine ⟨h.n1,h.n2,h.ms,h.tg,⟨r,rfl,hR⟩,?_,?_,?_⟩
 ·show (TL.rm x.a k).length+(TL.rm x.b k).length≤n;omega
 ·show (TL.rm x.a k).length+(TL.rm x.c k).length≤n;omega
 ·show (TL.rm x.a k).length+(TL.rm x.b k).length+(TL.rm x.c k).length+(TL.rm x.d k).length≤2*n;omega
theorem AE.hb(h:AE n t x):∀l∈x.L,l.length≤1000:=by
 intro l hl
 have h1:=h.n2;have h3:=h.b3
 simp only [AL.L,List.mem_cons,List.not_mem_nil,or_false] at hl
 rcases hl with rfl | rfl | rfl | rfl <;> omega
theorem AE.fll(h:AE n t x):x.L.flatten.length≤2*n:=by
 have h3:=h.b3
 rw [afl];unfold AL.all;simp only [List.length_append];omega
theorem AE.dIn(h:AE n t x)(p:Int)(k:Str):BV ⟨x.L,p⟩ k=some (if k∈x.a then (0,true) else if k∈x.b then (1,true) else if k∈x.c then (2,true) else if k∈x.d then (3,true) else (0,false)):=by
 rw [rin h.hb (by simp)]
 simp only [inK]
 by_cases h1:k∈x.a
 ·simp [h1]
 ·by_cases h2:k∈x.b
  ·simp [h1,h2]
  ·by_cases h3:k∈x.c
   ·simp [h1,h2,h3]
   ·by_cases h4:k∈x.d
    ·simp [h1,h2,h3,h4]
    ·simp [h1,h2,h3,h4]
theorem AE.dHas(h:AE n t x)(k:Str):CG (AD n g x) k=some (decide (k∈x.kept)):=by
 unfold CG
 rw [h.dIn,Option.bind_some]
 by_cases h1:k∈x.a
 ·simp [h1,mem_kept]
 ·by_cases h2:k∈x.b
  ·simp [h1,h2,mem_kept]
  ·by_cases h3:k∈x.c
   ·simp [h1,h2,h3,mem_kept]
   ·by_cases h4:k∈x.d
    ·simp [h1,h2,h3,h4,mem_kept]
    ·simp [h1,h2,h3,h4,mem_kept]
theorem dlen(i:Int){l:List Str}(hl:gi x.L i=some l):AQ (AD n g x) i=some (l.length:Int):=by
 unfold AQ
 rw [show gi (AD n g x).R.L i=some l from hl,Option.bind_some]
theorem AE.dLen(h:AE n t x):Br (AD n g x)=some ((x.a.length+x.b.length:Nat):Int):=by
 have:=h.b1
 have:=h.n2
 unfold Br
 rw [dlen (l:=x.a) 0 rfl,Option.bind_some,dlen (l:=x.b) 1 rfl,Option.bind_some,i64s _ (by omega) (by omega)]
 congr 1
theorem AE.dfront(h:AE n t x)(h64:k.length≤64){j:Nat}(hj:j<4):AC (AD n g x) (j:Int) k=some ⟨(n:Int),g,⟨frK x.L j k,((2*n+1:Nat):Int)⟩⟩:=by
 have h1:=h.fll
 have h2:=h.n2
 unfold AC
 rw [show CI (AD n g x).R (j:Int) k=_ from rfront (i:=j) h.hb (by simp) (by omega) (by simp;omega) h64 (.inr (by omega)),Option.bind_some]
theorem AE.dback(h:AE n t x){i:Nat}{l:List Str}(hl:x.L[i]? = some l)(p:Int):AX ⟨x.L,p⟩ (i:Int)=some (match l.getLast? with | some k=>(k,true) | none=>([],false)) :=
 rback hl (h.hb l (List.mem_of_getElem? hl))
theorem AE.ddrop(h:AE n t x)(k:Str)(p:Int):BB ⟨x.L,p⟩ k=some ⟨(x.drop k).L,p⟩:=by
 rw [rdrop h.hb (by simp)];rfl
theorem AE.touch(h:AE n t x){k:Str}(hk:k∈x.kept):∃t' x',Bv t k=some (true,t')∧AC (AD n t.target x) 1 k=some (AD n t'.target x')∧AE n t' x':=by
 obtain ⟨r,hr,hR⟩:=h.rg
 obtain ⟨na,nb,nc,nd,d1,d2,d3⟩:=all_dj h.nd
 have hall:k∈x.all:=mem_all.2 ((mem_kept.1 hk).imp id .inl)
 obtain ⟨r',e,hR'⟩:=h.front hR (h.kl k hall) (j:=1) (by omega)
 have hR':RR 4 (2*n+1) r' (x.fr1 k).L:=hR'
 have e2:=h.dfront (g:=t.target) (h.kl k hall) (j:=1) (by omega)
 unfold Bv
 rw [h.Has,Option.bind_some,if_neg (by simp [hk]),hr,om_some,show Au r 1 k=_ from e,Option.bind_some]
 have lc:=rm_le x.c k
 have ld:=rm_le x.d k
 have b1:=h.b1;have b2:=h.b2;have b3:=h.b3
 have la:=rm_le x.a k
 have hs:(TL.rm x.a k).length+(TL.rm x.b k).length+1=x.a.length+x.b.length:=by
  rcases mem_kept.1 hk with q | q
  ·have:=rm_len na q;rw [rm_no (d1 k q).1];omega
  ·have:=rm_len nb q;rw [rm_no (fun z=>(d1 k z).1 q)];omega
 refine ⟨_,x.fr1 k,rfl,e2,⟨h.n1,h.n2,h.ms,h.tg,⟨r',rfl,hR'⟩,?_,?_,?_⟩⟩
 ·show (TL.rm x.a k).length+(k::TL.rm x.b k).length≤n;simp;omega
 ·show (TL.rm x.a k).length+(TL.rm x.c k).length≤n;omega
 ·show (TL.rm x.a k).length+(k::TL.rm x.b k).length+(TL.rm x.c k).length+(TL.rm x.d k).length≤2*n;simp;omega
theorem AE.touch_no(h:AE n t x){k:Str}(hk:k∉x.kept):Bv t k=some (false,t):=by
 unfold Bv
 rw [h.Has,Option.bind_some,if_pos (by simp [hk])]
theorem AE.dtouch(h:AE n t x)(k:Str):∃t' x',Bv t k=some (decide (k∈x.kept),t')∧Dz (AD n t.target x) k=some (AD n t'.target x',decide (k∈x.kept))∧AE n t' x':=by
 unfold Dz
 rw [h.dHas,Option.bind_some]
 by_cases hk:k∈x.kept
 ·obtain ⟨t',x',e1,e2,h'⟩:=h.touch hk
  rw [if_neg (by simp [hk]),e2,Option.bind_some,decide_eq_true hk]
  exact ⟨t',x',e1,rfl,h'⟩
 ·rw [if_pos (by simp [hk]),decide_eq_false hk]
  exact ⟨t,x,h.touch_no hk,rfl,h⟩
theorem AE.dremove(h:AE n t x)(k:Str):∃t' x',Cj t k=some (decide (k∈x.kept),t')∧Dx (AD n t.target x) k=some (AD n t'.target x',decide (k∈x.kept))∧AE n t' x':=by
 obtain ⟨r,hr,hR⟩:=h.rg
 have:=h.n2
 obtain ⟨r',e,hR'⟩:=hR.dropA (by omega) (by omega) k
 unfold Cj Dx
 rw [h.Has,Option.bind_some,hr,om_some,e,Option.bind_some,h.dHas,Option.bind_some,show BB (AD n t.target x).R k=_ from h.ddrop k _,Option.bind_some]
 exact ⟨_,x.drop k,rfl,rfl,h.gone (x:=x) hR'⟩
def Rep(n:Nat)(t:Ai)(x:AL)(e:Option (List Str×Ai))(f:Option (Ax×List Str)):Prop :=
 ∃o t' x',e=some ([o],t')∧f=some (AD n t.target x',[o])∧t'.target=t.target∧AE n t' x'∧x'.a.length+x'.b.length+1=x.a.length+x.b.length∧x'.a.length+x'.c.length≤x.a.length+x.c.length ∧
  x'.a.length+x'.b.length+x'.c.length+x'.d.length=x.a.length+x.b.length+x.c.length+x.d.length∧(∀k,k∈x'.all↔k∈x.all)∧∀k,k∈x'.kept→k∈x.kept
theorem AE.repA(h:AE n t x){r:Ab}(hr:t.r=some r)(hR:RR 4 (2*n+1) r x.L)(hna:x.a≠[]):
  Rep n t x ((Aw r 0).bind fun r21=>if !r21.2 then some ([],t) else (Au r 2 r21.1).bind fun r25=>some ([r21.1],(⟨t.most,t.target,(some r25.2)⟩:Ai)))
   ((AX (AD n t.target x).R 0).bind fun r12=>if !r12.2 then some (AD n t.target x,[]) else (AC (AD n t.target x) (i64 (0+2)) r12.1).bind fun r16=>some (r16,[r12.1])):=by
 obtain ⟨na,nb,nc,nd,d1,d2,d3⟩:=all_dj h.nd
 have b1:=h.b1;have b2:=h.b2;have b3:=h.b3;have hn:=h.n2
 have k0:=hR.BackA (i:=0) (l:=x.a) rfl
 have q0:=h.dback (i:=0) (l:=x.a) rfl ((2*n+1:Nat):Int)
 have om:=List.getLast_mem hna
 rw [List.getLast?_eq_some_getLast hna] at k0 q0
 generalize x.a.getLast hna=o at k0 q0 om
 have oall:o∈x.all:=mem_all.2 (.inl om)
 obtain ⟨r',e,hR'⟩:=h.front hR (h.kl o oall) (j:=2) (by omega)
 have hR':RR 4 (2*n+1) r' (x.fr2 o).L:=hR'
 have q1:=h.dfront (g:=t.target) (h.kl o oall) (j:=2) (by omega)
 have ra:=rm_len na om
 have rb:TL.rm x.b o=x.b:=rm_no (d1 o om).1
 have rc:TL.rm x.c o=x.c:=rm_no (d1 o om).2.1
 have rd:TL.rm x.d o=x.d:=rm_no (d1 o om).2.2
 rw [show Aw r 0=_ from k0,Option.bind_some,if_neg (by simp),show Au r 2 o=_ from e,Option.bind_some,
  show AX (AD n t.target x).R 0=_ from q0,Option.bind_some,if_neg (by simp),show i64 (0+2)=((2:Nat):Int) from rfl,q1,Option.bind_some]
 have e2:x.fr2 o=⟨TL.rm x.a o,x.b,o::x.c,x.d⟩:=by unfold AL.fr2;rw [rb,rc,rd]
 have e3:frK x.L 2 o=AL.L ⟨TL.rm x.a o,x.b,o::x.c,x.d⟩:=by rw [←e2];rfl
 rw [e2] at hR'
 refine ⟨o,_,⟨TL.rm x.a o,x.b,o::x.c,x.d⟩,rfl,by rw [e3],rfl,⟨h.n1,h.n2,h.ms,h.tg,⟨r',rfl,hR'⟩,?_,?_,?_⟩,?_,?_,?_,fun k => ?_,fun k hk => ?_⟩
 ·dsimp only;omega
 ·simp only [List.length_cons];omega
 ·simp only [List.length_cons];omega
 ·dsimp only;omega
 ·simp only [List.length_cons];omega
 ·simp only [List.length_cons];omega
 ·rw [mem_all,mem_all]
  simp only [List.mem_cons,rm_mem]
  by_cases ek:k=o
  ·subst ek;simp [om]
  ·simp [ek]
 ·rw [mem_kept] at hk ⊢
  exact hk.imp (fun q=>(rm_mem.1 q).1) id
theorem AE.repB(h:AE n t x){r:Ab}(hr:t.r=some r)(hR:RR 4 (2*n+1) r x.L)(hnb:x.b≠[]):
  Rep n t x ((Aw r 1).bind fun r21=>if !r21.2 then some ([],t) else (Au r 3 r21.1).bind fun r25=>some ([r21.1],(⟨t.most,t.target,(some r25.2)⟩:Ai)))
   ((AX (AD n t.target x).R 1).bind fun r12=>if !r12.2 then some (AD n t.target x,[]) else (AC (AD n t.target x) (i64 (1+2)) r12.1).bind fun r16=>some (r16,[r12.1])):=by
 obtain ⟨na,nb,nc,nd,d1,d2,d3⟩:=all_dj h.nd
 have b1:=h.b1;have b2:=h.b2;have b3:=h.b3;have hn:=h.n2
 have k1:=hR.BackA (i:=1) (l:=x.b) rfl
 have q0:=h.dback (i:=1) (l:=x.b) rfl ((2*n+1:Nat):Int)
 have om:=List.getLast_mem hnb
 rw [List.getLast?_eq_some_getLast hnb] at k1 q0
 generalize x.b.getLast hnb=o at k1 q0 om
 have oall:o∈x.all:=mem_all.2 (.inr (.inl om))
 obtain ⟨r',e,hR'⟩:=h.front hR (h.kl o oall) (j:=3) (by omega)
 have hR':RR 4 (2*n+1) r' (x.fr3 o).L:=hR'
 have q1:=h.dfront (g:=t.target) (h.kl o oall) (j:=3) (by omega)
 have rbl:=rm_len nb om
 have ra:TL.rm x.a o=x.a:=rm_no (fun z=>(d1 o z).1 om)
 have rc:TL.rm x.c o=x.c:=rm_no (d2 o om).1
 have rd:TL.rm x.d o=x.d:=rm_no (d2 o om).2
 rw [show Aw r 1=_ from k1,Option.bind_some,if_neg (by simp),show Au r 3 o=_ from e,Option.bind_some,
  show AX (AD n t.target x).R 1=_ from q0,Option.bind_some,if_neg (by simp),show i64 (1+2)=((3:Nat):Int) from rfl,q1,Option.bind_some]
 have e2:x.fr3 o=⟨x.a,TL.rm x.b o,x.c,o::x.d⟩:=by unfold AL.fr3;rw [ra,rc,rd]
 have e3:frK x.L 3 o=AL.L ⟨x.a,TL.rm x.b o,x.c,o::x.d⟩:=by rw [←e2];rfl
 rw [e2] at hR'
 refine ⟨o,_,⟨x.a,TL.rm x.b o,x.c,o::x.d⟩,rfl,by rw [e3],rfl,⟨h.n1,h.n2,h.ms,h.tg,⟨r',rfl,hR'⟩,?_,?_,?_⟩,?_,?_,?_,fun k => ?_,fun k hk => ?_⟩
 ·dsimp only;omega
 ·dsimp only;omega
 ·simp only [List.length_cons];omega
 ·dsimp only;omega
 ·dsimp only;omega
 ·simp only [List.length_cons];omega
 ·rw [mem_all,mem_all]
  simp only [List.mem_cons,rm_mem]
  by_cases ek:k=o
  ·subst ek;simp [om]
  ·simp [ek]
 ·rw [mem_kept] at hk ⊢
  exact hk.imp id fun q=>(rm_mem.1 q).1
theorem AE.replace(h:AE n t x)(w:Bool)(hne:x.kept≠[]):Rep n t x (A8 t w) (Bg (AD n t.target x) w):=by
 obtain ⟨r,hr,hR⟩:=h.rg
 have l0:=hR.Len (i:=0) (l:=x.a) rfl
 have l1:=hR.Len (i:=1) (l:=x.b) rfl
 have A:=h.repA hr hR
 have B:=h.repB hr hR
 unfold A8 Bg
 rw [hr,om_some,show Aq r 0=_ from l0,Option.bind_some,dlen (l:=x.a) 0 rfl,Option.bind_some]
 dsimp only
 by_cases ha:x.a=[]
 ·have hb:x.b≠[]:=by intro q;apply hne;unfold AL.kept;rw [ha,q];rfl
  rw [if_neg (by rw [ha];decide),if_neg (by rw [ha];decide)]
  simp only [Option.bind_some,Bool.false_eq_true,if_false]
  exact B hb
 ·have hap:0<x.a.length:=List.length_pos_iff.2 ha
  have hp:decide ((0:Int)<(x.a.length:Int))=true:=by simpa using hap
  rw [if_pos hp,if_pos hp]
  have hdec:(Option.bind (if decide (t.target<(x.a.length:Int)) then some true else Option.bind (if w then Option.bind (if ((x.a.length:Int)==t.target) then some true else (AQ (AD n t.target x) 1).bind fun r47=>some (r47==0)) fun p41=>some p41 else (AQ (AD n t.target x) 1).bind fun r49=>some (r49==0)) fun p35=>some p35) fun p29=>some p29) =
    some ((decide (t.target<(x.a.length:Int))||(w&&((x.a.length:Int)==t.target)))||((x.b.length:Int)==0)):=by
   rw [dlen (l:=x.b) 1 rfl]
   cases decide (t.target<(x.a.length:Int)) <;> cases w <;> cases ((x.a.length:Int)==t.target) <;> rfl
  rw [hdec,Option.bind_some]
  by_cases c1:(decide (t.target<(x.a.length:Int))||(w&&((x.a.length:Int)==t.target)))=true
  ·rw [if_pos c1,c1]
   simp only [Option.bind_some,if_true,Bool.true_or]
   exact A ha
  ·rw [if_neg c1,show Aq r 1=_ from l1,eq_false_of_ne_true c1,Bool.false_or]
   by_cases hb:x.b=[]
   ·rw [hb]
    simp only [Option.bind_some,List.length_nil]
    exact A ha
   ·have hbp:((x.b.length:Int)==0)=false:=by
     have:0<x.b.length:=List.length_pos_iff.2 hb
     simp;omega
    simp only [Option.bind_some,hbp,Bool.false_eq_true,if_false]
    exact B hb
theorem AE.devict(h:AE n t x):∃o b t' x',Ch t=some (o,b,t')∧Dy (AD n t.target x)=some (AD n t'.target x',o,b)∧AE n t' x':=by
 unfold Ch Dy
 rw [h.Len,Option.bind_some,h.dLen,Option.bind_some]
 by_cases hk:x.kept=[]
 ·have:=congrArg List.length hk
  unfold AL.kept at this
  simp at this
  rw [this.1,this.2]
  exact ⟨[],false,t,x,rfl,rfl,h⟩
 ·have:x.a.length+x.b.length≠0:=by
   intro q;apply hk;unfold AL.kept
   rw [List.length_eq_zero_iff.1 (show x.a.length=0 by omega),List.length_eq_zero_iff.1 (show x.b.length=0 by omega)];rfl
  rw [if_neg (by simp;omega),if_neg (by simp;omega)]
  obtain ⟨o,t',x',e1,e2,e3,h',_⟩:=h.replace false hk
  rw [e1,e2,Option.bind_some,Option.bind_some]
  exact ⟨o,true,t',x',rfl,by rw [e3];rfl,h'⟩
end
def dTgt(a0:Ax)(r17 r21 r23:Int):Option Int :=
 if (r17==2) then if r21≠0 then Option.bind (if decide ((i64 (r23.tdiv r21))<1) then some 1 else some (i64 (r23.tdiv r21))) fun p65=>Option.bind (if decide (a0.Most<(i64 (a0.Target+p65))) then some a0.Most else some (i64 (a0.Target+p65))) fun p69=>some p69 else none else if r23≠0 then Option.bind (if decide ((i64 (r21.tdiv r23))<1) then some 1 else some (i64 (r21.tdiv r23))) fun p79=>Option.bind (if decide ((i64 (a0.Target-p79))<0) then some 0 else some (i64 (a0.Target-p79))) fun p83=>some p83 else none
def dAg2(a0:Ax)(a1:Str)(r17 p25:Int):Option (Ax×List Str) :=
 (Br (⟨a0.Most,p25,a0.R⟩:Ax)).bind fun r29=>Option.bind (if decide (a0.Most≤r29) then (Bg (⟨a0.Most,p25,a0.R⟩:Ax) (r17==3)).bind fun r52=>some (r52.2,r52.1) else some ([],(⟨a0.Most,p25,a0.R⟩:Ax))) fun p31=>(AC p31.2 1 a1).bind fun r42=>some (r42,p31.1)
def dAgain(a0:Ax)(a1:Str)(r17:Int):Option (Ax×List Str) :=
 (AQ a0 2).bind fun r21=>(AQ a0 3).bind fun r23=>(dTgt a0 r17 r21 r23).bind fun p25=>dAg2 a0 a1 r17 p25
section
variable {n:Nat} {t:Ai} {x:AL} {g:Int} {k:Str}
theorem AE.dforget(h:AE n t x){i:Nat}{l:List Str}(hl:x.L[i]? = some l):BC (AD n g x) (i:Int)=some (AD n g (match l.getLast? with | some o=>x.drop o | none=>x)):=by
 unfold BC
 rw [show AX (AD n g x).R (i:Int)=_ from h.dback hl _,Option.bind_some]
 cases l.getLast? with
 | none=>rfl
 | some o =>
  dsimp only
  rw [if_pos rfl,h.ddrop o,Option.bind_some]
theorem AE.forget2(h:AE n t x):∃t' x',Bt t 2=some t'∧BC (AD n t.target x) 2=some (AD n t'.target x')∧AE n t' x'∧x'.a=x.a∧x'.b=x.b∧x'.d=x.d∧x'.c.length=x.c.length-1∧∀k,k∈x'.all→k∈x.all:=by
 obtain ⟨r,hr,hR⟩:=h.rg
 obtain ⟨na,nb,nc,nd,d1,d2,d3⟩:=all_dj h.nd
 have hn:=h.n2
 have k2:=hR.BackA (i:=2) (l:=x.c) rfl
 have q:=h.dforget (g:=t.target) (i:=2) (l:=x.c) rfl
 unfold Bt
 rw [hr,om_some]
 by_cases hc:x.c=[]
 ·rw [hc] at k2 q
  rw [show Aw r 2=_ from k2,Option.bind_some,if_neg (by simp)]
  exact ⟨t,x,rfl,q,h,rfl,rfl,rfl,by rw [hc];rfl,fun _ q=>q⟩
 ·have om:=List.getLast_mem hc
  rw [List.getLast?_eq_some_getLast hc] at k2 q
  generalize x.c.getLast hc=o at k2 om q
  obtain ⟨r',e,hR'⟩:=hR.dropA (by omega) (by omega) o
  rw [show Aw r 2=_ from k2,Option.bind_some,if_pos rfl,e,Option.bind_some]
  have rl:=rm_len nc om
  refine ⟨_,x.drop o,rfl,q,h.gone (x:=x) hR',rm_no (fun z=>(d1 o z).2.1 om),rm_no (fun z=>(d2 o z).1 om),rm_no (d3 o om),?_,fun k hk => ?_⟩
  ·show (TL.rm x.c o).length=_;omega
  ·rw [mem_all] at hk ⊢
   simp only [AL.drop,rm_mem] at hk
   rcases hk with q | q | q | q
   ·exact .inl q.1
   ·exact .inr (.inl q.1)
   ·exact .inr (.inr (.inl q.1))
   ·exact .inr (.inr (.inr q.1))
theorem AE.forget3(h:AE n t x):∃t' x',Bt t 3=some t'∧BC (AD n t.target x) 3=some (AD n t'.target x')∧AE n t' x'∧x'.a=x.a∧x'.b=x.b∧x'.c=x.c∧x'.d.length=x.d.length-1∧∀k,k∈x'.all→k∈x.all:=by
 obtain ⟨r,hr,hR⟩:=h.rg
 obtain ⟨na,nb,nc,nd,d1,d2,d3⟩:=all_dj h.nd
 have hn:=h.n2
 have k2:=hR.BackA (i:=3) (l:=x.d) rfl
 have q:=h.dforget (g:=t.target) (i:=3) (l:=x.d) rfl
 unfold Bt
 rw [hr,om_some]
 by_cases hc:x.d=[]
 ·rw [hc] at k2 q
  rw [show Aw r 3=_ from k2,Option.bind_some,if_neg (by simp)]
  exact ⟨t,x,rfl,q,h,rfl,rfl,rfl,by rw [hc];rfl,fun _ q=>q⟩
 ·have om:=List.getLast_mem hc
  rw [List.getLast?_eq_some_getLast hc] at k2 q
  generalize x.d.getLast hc=o at k2 om q
  obtain ⟨r',e,hR'⟩:=hR.dropA (by omega) (by omega) o
  rw [show Aw r 3=_ from k2,Option.bind_some,if_pos rfl,e,Option.bind_some]
  have rl:=rm_len nd om
  refine ⟨_,x.drop o,rfl,q,h.gone (x:=x) hR',rm_no (fun z=>(d1 o z).2.2 om),rm_no (fun z=>(d2 o z).2 om),rm_no (fun z=>d3 o z om),?_,fun k hk => ?_⟩
  ·show (TL.rm x.d o).length=_;omega
  ·rw [mem_all] at hk ⊢
   simp only [AL.drop,rm_mem] at hk
   rcases hk with q | q | q | q
   ·exact .inl q.1
   ·exact .inr (.inl q.1)
   ·exact .inr (.inr (.inl q.1))
   ·exact .inr (.inr (.inr q.1))
theorem AE.fr0(h:AE n t x){k:Str}(hk:k∉x.all)(h64:k.length≤64)(b1:x.a.length+x.b.length+1≤n)(b2:x.a.length+x.c.length+1≤n)(b3:x.a.length+x.b.length+x.c.length+x.d.length+1≤2*n)(g:List Str):
  ∃t',(om t.r (none) fun x53=>(Au x53 0 k).bind fun r61=>some (g,(⟨t.most,t.target,(some r61.2)⟩:Ai)))=some (g,t')∧t'.target=t.target∧AE n t' ⟨k::x.a,x.b,x.c,x.d⟩∧AC (AD n t.target x) 0 k=some (AD n t.target ⟨k::x.a,x.b,x.c,x.d⟩):=by
 obtain ⟨r,hr,hR⟩:=h.rg
 obtain ⟨r',e,hR'⟩:=h.front hR h64 (j:=0) (by omega)
 have hR':RR 4 (2*n+1) r' (x.fr0 k).L:=hR'
 have q:k∉x.a∧k∉x.b∧k∉x.c∧k∉x.d:=by rw [mem_all] at hk;simpa using hk
 have e2:x.fr0 k=⟨k::x.a,x.b,x.c,x.d⟩:=by unfold AL.fr0;rw [rm_no q.1,rm_no q.2.1,rm_no q.2.2.1,rm_no q.2.2.2]
 have q2:=h.dfront (g:=t.target) h64 (j:=0) (by omega)
 have e3:frK x.L 0 k=AL.L ⟨k::x.a,x.b,x.c,x.d⟩:=by rw [←e2];rfl
 rw [e3] at q2
 rw [e2] at hR'
 rw [hr,om_some,show Au r 0 k=_ from e,Option.bind_some]
 refine ⟨_,rfl,rfl,⟨h.n1,h.n2,h.ms,h.tg,⟨r',rfl,hR'⟩,?_,?_,?_⟩,q2⟩
 ·simp only [List.length_cons];omega
 ·simp only [List.length_cons];omega
 ·simp only [List.length_cons];omega
theorem AE.target(h:AE n t x){p:Int}(hp:0≤p∧p≤(n:Int)):AE n ⟨t.most,p,t.r⟩ x:=⟨h.n1,h.n2,h.ms,hp,h.rg,h.b1,h.b2,h.b3⟩
theorem AE.again(h:AE n t x){k:Str}(hk:k∈x.c∨k∈x.d):∃g t' x',Cr t k (if k∈x.c then 2 else 3)=some (g,t')∧dAgain (AD n t.target x) k (if k∈x.c then 2 else 3)=some (AD n t'.target x',g)∧AE n t' x'∧g.length≤1:=by
 obtain ⟨r,hr,hR⟩:=h.rg
 obtain ⟨na,nb,nc,nd,d1,d2,d3⟩:=all_dj h.nd
 have b1:=h.b1;have b2:=h.b2;have b3:=h.b3;have hn:=h.n2;have hn1:=h.n1
 have tg:=h.tg
 have l2:=hR.Len (i:=2) (l:=x.c) rfl
 have l3:=hR.Len (i:=3) (l:=x.d) rfl
 have hkall:k∈x.all:=mem_all.2 (.inr (.inr hk))
 have hkn:k∉x.kept:=by
  rw [mem_kept]
  rintro (q | q)
  ·rcases hk with z | z
   ·exact (d1 k q).2.1 z
   ·exact (d1 k q).2.2 z
  ·rcases hk with z | z
   ·exact (d2 k q).1 z
   ·exact (d2 k q).2 z
 have k64:=h.kl k hkall
 have T:∃p:Int,(if ((if k∈x.c then (2:Int) else 3)==2) then if (x.c.length:Int)≠0 then some (if (i64 (t.target+(if 1<(i64 ((x.d.length:Int).tdiv (x.c.length:Int))) then i64 ((x.d.length:Int).tdiv (x.c.length:Int)) else 1)))<t.most then i64 (t.target+(if 1<(i64 ((x.d.length:Int).tdiv (x.c.length:Int))) then i64 ((x.d.length:Int).tdiv (x.c.length:Int)) else 1)) else t.most) else none
   else if (x.d.length:Int)≠0 then some (if 0<(i64 (t.target-(if 1<(i64 ((x.c.length:Int).tdiv (x.d.length:Int))) then i64 ((x.c.length:Int).tdiv (x.d.length:Int)) else 1))) then i64 (t.target-(if 1<(i64 ((x.c.length:Int).tdiv (x.d.length:Int))) then i64 ((x.c.length:Int).tdiv (x.d.length:Int)) else 1)) else 0) else none)=some p∧dTgt (AD n t.target x) (if k∈x.c then (2:Int) else 3) (x.c.length:Int) (x.d.length:Int)=some p∧0≤p∧p≤(n:Int):=by
  unfold dTgt
  by_cases hc:k∈x.c
  ·have hcp:0<x.c.length:=List.length_pos_of_mem hc
   have z1:((2:Int)==2)=true:=rfl
   have z2:(x.c.length:Int)≠0:=by omega
   rw [if_pos hc,if_pos z1,if_pos z2,if_pos z1,if_pos z2]
   obtain ⟨q,hq,hq2⟩:=tdv (a:=x.d.length) hcp (by omega)
   rw [hq,h.ms]
   dsimp only
   have hs:∃s:Nat,(if (1:Int)<(q:Int) then (q:Int) else 1)=(s:Int)∧(if decide ((q:Int)<1)=true then some (1:Int) else some (q:Int))=some (s:Int)∧s≤2001∧1≤s:=by
    by_cases c:1<q
    ·exact ⟨q,if_pos (by omega),if_neg (by simp;omega),by omega,by omega⟩
    ·by_cases c2:q=1
     ·subst c2;exact ⟨1,rfl,rfl,by omega,by omega⟩
     ·exact ⟨1,if_neg (by omega),if_pos (by simp;omega),by omega,by omega⟩
   obtain ⟨s,hs,hs',hs2,hs3⟩:=hs
   rw [hs,hs',Option.bind_some,i64s (t.target+(s:Int)) (by omega) (by omega)]
   by_cases c:t.target+(s:Int)<(n:Int)
   ·rw [if_pos c,if_neg (by simp;omega)];exact ⟨_,rfl,rfl,by omega,by omega⟩
   ·rw [if_neg c]
    by_cases c2:(n:Int)<t.target+(s:Int)
    ·rw [if_pos (by simpa using c2)];exact ⟨_,rfl,rfl,by omega,by omega⟩
    ·rw [if_neg (by simpa using c2)];exact ⟨_,rfl,by rw [show t.target+(s:Int)=(n:Int) by omega];rfl,by omega,by omega⟩
  ·have hd:=hk.resolve_left hc
   have hdp:0<x.d.length:=List.length_pos_of_mem hd
   have z1:¬((3:Int)==2)=true:=by decide
   have z2:(x.d.length:Int)≠0:=by omega
   rw [if_neg hc,if_neg z1,if_pos z2,if_neg z1,if_pos z2]
   obtain ⟨q,hq,hq2⟩:=tdv (a:=x.c.length) hdp (by omega)
   rw [hq]
   dsimp only
   have hs:∃s:Nat,(if (1:Int)<(q:Int) then (q:Int) else 1)=(s:Int)∧(if decide ((q:Int)<1)=true then some (1:Int) else some (q:Int))=some (s:Int)∧s≤2001∧1≤s:=by
    by_cases c:1<q
    ·exact ⟨q,if_pos (by omega),if_neg (by simp;omega),by omega,by omega⟩
    ·by_cases c2:q=1
     ·subst c2;exact ⟨1,rfl,rfl,by omega,by omega⟩
     ·exact ⟨1,if_neg (by omega),if_pos (by simp;omega),by omega,by omega⟩
   obtain ⟨s,hs,hs',hs2,hs3⟩:=hs
   rw [hs,hs',Option.bind_some,i64s (t.target-(s:Int)) (by omega) (by omega)]
   by_cases c:0<t.target-(s:Int)
   ·rw [if_pos c,if_neg (by simp;omega)];exact ⟨_,rfl,rfl,by omega,by omega⟩
   ·rw [if_neg c]
    by_cases c2:t.target-(s:Int)<0
    ·rw [if_pos (by simp;omega)];exact ⟨_,rfl,rfl,by omega,by omega⟩
    ·rw [if_neg (by simp;omega)];exact ⟨_,rfl,by rw [show t.target-(s:Int)=0 by omega];rfl,by omega,by omega⟩
 obtain ⟨p,hp,hpd,hp2⟩:=T
 have FR:∀(t':Ai) (x':AL) (g:List Str),AE n t' x'→k∈x'.all→k∉x'.kept→x'.a.length+x'.b.length+1≤n→∃t'' x'',(om t'.r (none) fun x30=>(Au x30 1 k).bind fun r38=>some (g,(⟨t'.most,t'.target,(some r38.2)⟩:Ai)))=some (g,t'')∧((AC (AD n t'.target x') 1 k).bind fun r42=>some (r42,g))=some (AD n t''.target x'',g)∧AE n t'' x'':=by
  intro t' x' g h' hm hkk hb
  obtain ⟨r1,hr1,hR1⟩:=h'.rg
  obtain ⟨r',e,hR'⟩:=h'.front hR1 k64 (j:=1) (by omega)
  have hR':RR 4 (2*n+1) r' (x'.fr1 k).L:=hR'
  have q1:=h'.dfront (g:=t'.target) k64 (j:=1) (by omega)
  obtain ⟨na',nb',nc',nd',_,_,d3'⟩:=all_dj h'.nd
  have qa:k∉x'.a:=fun z=>hkk (mem_kept.2 (.inl z))
  have qb:k∉x'.b:=fun z=>hkk (mem_kept.2 (.inr z))
  have qcd:k∈x'.c∨k∈x'.d:=by rw [mem_all] at hm;simpa [qa,qb] using hm
  rw [hr1,om_some,show Au r1 1 k=_ from e,Option.bind_some,show AC (AD n t'.target x') 1 k=_ from q1,Option.bind_some]
  have lc:=rm_le x'.c k
  have ld:=rm_le x'.d k
  have c3:=h'.b3;have c2:=h'.b2
  have hs:(TL.rm x'.c k).length+(TL.rm x'.d k).length+1=x'.c.length+x'.d.length:=by
   rcases qcd with q | q
   ·have:=rm_len nc' q;rw [rm_no (d3' k q)];omega
   ·have:=rm_len nd' q;rw [rm_no (fun z=>d3' k z q)];omega
  refine ⟨_,x'.fr1 k,rfl,rfl,⟨h'.n1,h'.n2,h'.ms,h'.tg,⟨r',rfl,hR'⟩,?_,?_,?_⟩⟩
  ·show (TL.rm x'.a k).length+(k::TL.rm x'.b k).length≤n;rw [rm_no qa,rm_no qb];simp;omega
  ·show (TL.rm x'.a k).length+(TL.rm x'.c k).length≤n;rw [rm_no qa];omega
  ·show (TL.rm x'.a k).length+(k::TL.rm x'.b k).length+(TL.rm x'.c k).length+(TL.rm x'.d k).length≤2*n;rw [rm_no qa,rm_no qb];simp;omega
 unfold Cr dAgain
 rw [hr,om_some,show Aq r 2=_ from l2,Option.bind_some,show Aq r 3=_ from l3,Option.bind_some,hp,Option.bind_some,dlen (l:=x.c) 2 rfl,Option.bind_some,dlen (l:=x.d) 3 rfl,Option.bind_some,hpd,Option.bind_some]
 have hT:=h.target hp2
 rw [hr] at hT
 unfold dAg2
 rw [hT.Len,Option.bind_some,h.ms]
 rw [h.ms] at hT
 dsimp only
 rw [show Br _=_ from hT.dLen (g:=p),Option.bind_some]
 by_cases c1:n≤x.a.length+x.b.length
 ·have c1':decide ((n:Int)≤((x.a.length+x.b.length:Nat):Int))=true:=by simp;omega
  rw [if_pos c1',if_pos c1']
  have hne:x.kept≠[]:=by intro q;have:=congrArg List.length q;unfold AL.kept at this;simp at this;rw [this.1,this.2] at c1;simp at c1;omega
  obtain ⟨o,t',x',e,ed,et,h',e1,e2,e3,e4,e5⟩:=hT.replace ((if k∈x.c then (2:Int) else 3)==3) hne
  dsimp only at ed et
  rw [e,Option.bind_some,Option.bind_some,show Bg _ _=_ from ed,Option.bind_some,Option.bind_some]
  dsimp only
  obtain ⟨t'',x'',ef,efd,h''⟩:=FR t' x' [o] h' ((e4 k).2 hkall) (fun z=>hkn (e5 k z)) (by omega)
  rw [et] at efd
  exact ⟨[o],t'',x'',ef,efd,h'',by simp⟩
 ·have c1':¬decide ((n:Int)≤((x.a.length+x.b.length:Nat):Int))=true:=by simp;omega
  rw [if_neg c1',if_neg c1',Option.bind_some,Option.bind_some]
  dsimp only
  obtain ⟨t'',x'',ef,efd,h''⟩:=FR _ x [] hT hkall hkn (by omega)
  exact ⟨[],t'',x'',ef,efd,h'',by simp⟩
end
section
variable {n:Nat} {t:Ai} {x:AL}
theorem AE.dinsert(h:AE n t x)(k:Str):∃g t' x',BM t k=some (g,t')∧CP (AD n t.target x) k=some (AD n t'.target x',g)∧AE n t' x'∧g.length≤1:=by
 by_cases h64:64<k.length
 ·unfold BM CP
  have c:decide ((64:Int)<(k.length:Int))=true:=by simp;omega
  rw [if_pos c,if_pos c]
  exact ⟨[],t,x,rfl,rfl,h,by simp⟩
 have h64:k.length≤64:=by omega
 have c64:¬decide ((64:Int)<(k.length:Int))=true:=by simp;omega
 by_cases hk:k∈x.kept
 ·obtain ⟨t',x',e,ed,h'⟩:=h.touch hk
  unfold BM CP
  rw [if_neg c64,if_neg c64,e,Option.bind_some,Option.bind_some,if_pos rfl,h.dHas,Option.bind_some,if_pos (by simp [hk]),ed,Option.bind_some]
  exact ⟨[],t',x',rfl,rfl,h',by simp⟩
 obtain ⟨r,hr,hR⟩:=h.rg
 obtain ⟨na,nb,nc,nd,d1,d2,d3⟩:=all_dj h.nd
 have b1:=h.b1;have b2:=h.b2;have b3:=h.b3;have hn:=h.n2;have hn1:=h.n1
 have l0:=hR.Len (i:=0) (l:=x.a) rfl
 have l1:=hR.Len (i:=1) (l:=x.b) rfl
 have l2:=hR.Len (i:=2) (l:=x.c) rfl
 have l3:=hR.Len (i:=3) (l:=x.d) rfl
 have et:(⟨t.most,t.target,some r⟩:Ai)=t:=by rw [←hr]
 unfold BM CP
 rw [if_neg c64,if_neg c64,h.touch_no hk,Option.bind_some,Option.bind_some,if_neg (by simp),h.dHas,Option.bind_some,if_neg (by simp [hk])]
 dsimp only
 rw [hr,om_some,et,show BV ⟨x.L,_⟩ k=_ from h.dIn _ k,Option.bind_some]
 have ka:k∉x.a:=fun q=>hk (mem_kept.2 (.inl q))
 have kb:k∉x.b:=fun q=>hk (mem_kept.2 (.inr q))
 rw [if_neg ka,if_neg kb]
 by_cases hcd:k∈x.c∨k∈x.d
 ·have hin:A5 r k=some ((if k∈x.c then (2:Int) else 3),true):=by
   by_cases hc:k∈x.c
   ·rw [if_pos hc];exact hR.in_some (i:=2) rfl hc
   ·rw [if_neg hc];exact hR.in_some (i:=3) rfl (hcd.resolve_left hc)
  have hid:(if k∈x.c then ((2:Int),true) else if k∈x.d then (3,true) else (0,false))=((if k∈x.c then (2:Int) else 3),true):=by
   by_cases hc:k∈x.c
   ·rw [if_pos hc,if_pos hc]
   ·rw [if_neg hc,if_neg hc,if_pos (hcd.resolve_left hc)]
  rw [hin,Option.bind_some,if_pos rfl,hid,if_pos rfl]
  obtain ⟨g,t',x',e,ed,h',hg⟩:=h.again hcd
  rw [e,Option.bind_some]
  exact ⟨g,t',x',rfl,ed,h',hg⟩
 ·have kc:k∉x.c:=fun q=>hcd (.inl q)
  have kd:k∉x.d:=fun q=>hcd (.inr q)
  have hall:k∉x.all:=by rw [mem_all];simp [ka,kb,kc,kd]
  rw [hR.in_none (by rw [afl];exact hall),Option.bind_some,if_neg (by simp),if_neg kc,if_neg kd,if_neg (by simp),show Aq r 0=_ from l0,Option.bind_some,show Aq r 2=_ from l2,Option.bind_some,show Aq r 1=_ from l1,Option.bind_some,show Aq r 3=_ from l3,Option.bind_some,
   dlen (l:=x.a) 0 rfl,Option.bind_some,dlen (l:=x.c) 2 rfl,Option.bind_some,h.dLen,Option.bind_some,dlen (l:=x.d) 3 rfl,Option.bind_some]
  have s1:i64 ((x.a.length:Int)+(x.c.length:Int))=((x.a.length+x.c.length:Nat):Int):=by rw [i64s _ (by omega) (by omega)];omega
  have s2:i64 (((x.a.length+x.c.length:Nat):Int)+(x.b.length:Int))=((x.a.length+x.c.length+x.b.length:Nat):Int):=by rw [i64s _ (by omega) (by omega)];omega
  have s3:i64 (((x.a.length+x.c.length+x.b.length:Nat):Int)+(x.d.length:Int))=((x.a.length+x.c.length+x.b.length+x.d.length:Nat):Int):=by rw [i64s _ (by omega) (by omega)];omega
  have s4:i64 (2*(n:Int))=((2*n:Nat):Int):=by rw [i64s _ (by omega) (by omega)];omega
  have s5:i64 (((x.a.length+x.b.length:Nat):Int)+(x.c.length:Int))=((x.a.length+x.c.length+x.b.length:Nat):Int):=by rw [i64s _ (by omega) (by omega)];omega
  rw [s1,s2,s3,s5,s3,h.ms,s4]
  clear s1 s2 s3 s4 s5
  have RP:∀(t1:Ai) (x1:AL),AE n t1 x1→k∉x1.all→x1.a.length+x1.c.length+1≤n→x1.a.length+x1.b.length+x1.c.length+x1.d.length+1≤2*n →
    ∃g t2 x2,((Bx t1).bind fun r76=>Option.bind (if decide (t1.most≤r76) then (A8 t1 false).bind fun r89=>some (r89.1,r89.2) else some ([],t1)) fun p78=>some (p78.1,p78.2))=some (g,t2) ∧
     ((Br (AD n t1.target x1)).bind fun r134=>if decide ((n:Int)≤r134) then (Bg (AD n t1.target x1) false).bind fun r138=>(AC r138.1 0 k).bind fun r147=>some (r147,r138.2) else (AC (AD n t1.target x1) 0 k).bind fun r155=>some (r155,[]))=((AC (AD n t2.target x2) 0 k).bind fun r=>some (r,g)) ∧
     AE n t2 x2∧k∉x2.all∧x2.a.length+x2.b.length+1≤n∧x2.a.length+x2.c.length+1≤n∧x2.a.length+x2.b.length+x2.c.length+x2.d.length+1≤2*n∧g.length≤1:=by
   intro t1 x1 h1 hk1 q2 q3
   have qb:=h1.b1
   rw [h1.Len,Option.bind_some,h1.ms,h1.dLen,Option.bind_some]
   by_cases c1:n≤x1.a.length+x1.b.length
   ·have c1':decide ((n:Int)≤((x1.a.length+x1.b.length:Nat):Int))=true:=by simp;omega
    rw [if_pos c1',if_pos c1']
    have hne:x1.kept≠[]:=by intro q;have:=congrArg List.length q;unfold AL.kept at this;simp at this;rw [this.1,this.2] at c1;simp at c1;omega
    obtain ⟨o,t',x',e,ed,eg,h',e1,e2,e3,e4,e5⟩:=h1.replace false hne
    rw [e,Option.bind_some,Option.bind_some,ed,Option.bind_some]
    exact ⟨[o],t',x',rfl,by rw [eg],h',fun z=>hk1 ((e4 k).1 z),by omega,by omega,by omega,by simp⟩
   ·have c1':¬decide ((n:Int)≤((x1.a.length+x1.b.length:Nat):Int))=true:=by simp;omega
    rw [if_neg c1',if_neg c1',Option.bind_some]
    exact ⟨[],t1,x1,rfl,rfl,h1,hk1,by omega,q2,q3,by simp⟩
  have FIN:∀(g:List Str) (t2:Ai) (x2:AL),AE n t2 x2→k∉x2.all→x2.a.length+x2.b.length+1≤n→x2.a.length+x2.c.length+1≤n→x2.a.length+x2.b.length+x2.c.length+x2.d.length+1≤2*n→g.length≤1 →
    ∃g' t' x',(om t2.r (none) fun x53=>(Au x53 0 k).bind fun r61=>some (g,(⟨t2.most,t2.target,(some r61.2)⟩:Ai)))=some (g',t')∧((AC (AD n t2.target x2) 0 k).bind fun r=>some (r,g))=some (AD n t'.target x',g')∧AE n t' x'∧g'.length≤1:=by
   intro g t2 x2 h2 k2 q1 q2 q3 hg
   obtain ⟨t',e,eg,h',ed⟩:=h2.fr0 k2 h64 q1 q2 q3 g
   refine ⟨g,t',_,e,?_,h',hg⟩
   rw [ed,Option.bind_some,eg]
  by_cases c1:n≤x.a.length+x.c.length
  ·have c1':decide ((n:Int)≤((x.a.length+x.c.length:Nat):Int))=true:=by simp;omega
   simp only [c1',↓reduceIte,Option.bind_some]
   by_cases c2:x.a.length<n
   ·
    rw [if_pos (by simp;omega),if_neg (by simp;omega)]
    obtain ⟨t1,x1,e1,ed,h1,ea,eb,ee,ec,em⟩:=h.forget2
    rw [e1,Option.bind_some,ed,Option.bind_some]
    obtain ⟨g,t2,x2,e2,e3,h2,k2,q1,q2,q3,hg⟩:=RP t1 x1 h1 (fun z=>hall (em k z)) (by rw [ea,ec];omega) (by rw [ea,eb,ee,ec];omega)
    rw [e2,Option.bind_some,e3]
    exact FIN g t2 x2 h2 k2 q1 q2 q3 hg
   ·
    have hlen:x.a.length=n:=by omega
    have hna:x.a≠[]:=by intro q;rw [q] at hlen;simp at hlen;omega
    have k0:=hR.BackA (i:=0) (l:=x.a) rfl
    have kq:=h.dback (i:=0) (l:=x.a) rfl ((2*n+1:Nat):Int)
    have kf:=h.dforget (g:=t.target) (i:=0) (l:=x.a) rfl
    have om:=List.getLast_mem hna
    rw [List.getLast?_eq_some_getLast hna] at k0 kq kf
    generalize x.a.getLast hna=o at k0 kq kf om
    rw [if_neg (by simp;omega),show Aw r 0=_ from k0,Option.bind_some,if_pos (by simp;omega),show AX ⟨x.L,_⟩ 0=_ from kq,Option.bind_some,show BC _ 0=_ from kf,Option.bind_some]
    obtain ⟨r',e,hR'⟩:=hR.dropA (by omega) (by omega) o
    dsimp only
    rw [e,Option.bind_some,Option.bind_some,Option.bind_some]
    have h2:=h.gone (x:=x) hR'
    rw [h.ms] at h2
    have rl:=rm_len na om
    refine FIN [o] _ (x.drop o) h2 (fun z=>hall ?_) ?_ ?_ ?_ (by simp)
    ·rw [mem_all] at z ⊢
     simp only [AL.drop,rm_mem] at z
     rcases z with q | q | q | q
     ·exact .inl q.1
     ·exact .inr (.inl q.1)
     ·exact .inr (.inr (.inl q.1))
     ·exact .inr (.inr (.inr q.1))
    ·show (TL.rm x.a o).length+(TL.rm x.b o).length+1≤n;have:=rm_le x.b o;omega
    ·show (TL.rm x.a o).length+(TL.rm x.c o).length+1≤n;have:=rm_le x.c o;omega
    ·show (TL.rm x.a o).length+(TL.rm x.b o).length+(TL.rm x.c o).length+(TL.rm x.d o).length+1≤2*n
     have:=rm_le x.b o;have:=rm_le x.c o;have:=rm_le x.d o;omega
  ·have c1':decide ((n:Int)≤((x.a.length+x.c.length:Nat):Int))=false:=by simp;omega
   simp only [c1',↓reduceIte,Option.bind_some,Bool.false_eq_true]
   by_cases c3:n≤x.a.length+x.c.length+x.b.length+x.d.length
   ·have c3':decide ((n:Int)≤((x.a.length+x.c.length+x.b.length+x.d.length:Nat):Int))=true:=by simp;omega
    rw [if_pos c3',if_pos c3']
    by_cases c4:2*n≤x.a.length+x.c.length+x.b.length+x.d.length
    ·have c4':decide (((2*n:Nat):Int)≤((x.a.length+x.c.length+x.b.length+x.d.length:Nat):Int))=true:=by simp;omega
     rw [if_pos c4',if_pos c4']
     obtain ⟨t1,x1,e1,ed,h1,ea,eb,ec,ee,em⟩:=h.forget3
     rw [e1,Option.bind_some,Option.bind_some,ed,Option.bind_some,Option.bind_some]
     obtain ⟨g,t2,x2,e2,e3,h2,k2,q1,q2,q3,hg⟩:=RP t1 x1 h1 (fun z=>hall (em k z)) (by rw [ea,ec];omega) (by rw [ea,eb,ee,ec];omega)
     rw [e2,Option.bind_some,Option.bind_some,Option.bind_some,e3]
     exact FIN g t2 x2 h2 k2 q1 q2 q3 hg
    ·have c4':¬decide (((2*n:Nat):Int)≤((x.a.length+x.c.length+x.b.length+x.d.length:Nat):Int))=true:=by simp;omega
     rw [if_neg c4',if_neg c4',Option.bind_some,Option.bind_some]
     obtain ⟨g,t2,x2,e2,e3,h2,k2,q1,q2,q3,hg⟩:=RP t x h hall (by omega) (by omega)
     rw [e2,Option.bind_some,Option.bind_some,Option.bind_some,e3]
     exact FIN g t2 x2 h2 k2 q1 q2 q3 hg
   ·have c3':¬decide ((n:Int)≤((x.a.length+x.c.length+x.b.length+x.d.length:Nat):Int))=true:=by simp;omega
    rw [if_neg c3',if_neg c3',Option.bind_some,Option.bind_some,Option.bind_some]
    exact FIN [] t x h hall (by omega) (by omega) (by omega) (by simp)
end
def Rl{α β:Type}(P:α→β→Prop)(o:Option α)(o':Option β):Prop:=∀a,o=some a→∃b,o'=some b∧P a b
section
variable {α β γ δ:Type} {P:α→β→Prop} {Q:γ→δ→Prop}
theorem rl_none{o':Option β}: Rl P none o':=fun a h=>by cases h
theorem rl_some{a:α}{b:β}(h:P a b):Rl P (some a) (some b):=fun c hc=>by cases hc;exact ⟨b,rfl,h⟩
theorem rl_bind{o:Option γ}{o':Option δ}{f:γ→Option α}{g:δ→Option β}(h1:Rl Q o o')(h2:∀a b,Q a b→Rl P (f a) (g b)):Rl P (o.bind f) (o'.bind g):=fun a ha=>by
 obtain ⟨c,e1,e2⟩:=Option.bind_eq_some_iff.1 ha
 obtain ⟨d,e3,hq⟩:=h1 c e1
 obtain ⟨b,e4,hp⟩:=h2 c d hq a e2
 exact ⟨b,by rw [e3];exact e4,hp⟩
theorem rl_same{o:Option γ}{f:γ→Option α}{g:γ→Option β}(h2:∀a,o=some a→Rl P (f a) (g a)):Rl P (o.bind f) (o.bind g):=fun a ha=>by
 obtain ⟨c,e1,e2⟩:=Option.bind_eq_some_iff.1 ha
 obtain ⟨b,e4,hp⟩:=h2 c e1 a e2
 exact ⟨b,by rw [e1];exact e4,hp⟩
theorem rl_ite{c d:Prop}[Decidable c][Decidable d]{a1 a2:Option α}{b1 b2:Option β}(hc:c↔d)(h1:c→Rl P a1 b1)(h2:¬c→Rl P a2 b2):Rl P (if c then a1 else a2) (if d then b1 else b2):=by
 by_cases h:c
 ·rw [if_pos h,if_pos (hc.1 h)];exact h1 h
 ·rw [if_neg h,if_neg fun z=>h (hc.2 z)];exact h2 h
end
theorem k2f{k:Int}(h:k=1):¬(k==2)=true:=by subst h;decide
theorem AR.ae{n:Nat}{t:Ai}{x:AL}(h:AR n t x)(hn:n≤400):AE n t x:=⟨h.n1,hn,h.ms,h.tg,h.rg,h.b1,h.b2,h.b3⟩
theorem AE.ar{n:Nat}{t:Ai}{x:AL}(h:AE n t x):AR n t x:=⟨h.n1,Nat.le_trans h.n2 (by decide),h.ms,h.tg,h.rg,h.b1,h.b2,h.b3⟩
theorem ad_inj{n:Nat}{g g':Int}{x x':AL}(h:AD n g x=AD n g' x'):g'=g∧x'=x:=by
 obtain ⟨a,b,c,d⟩:=x
 obtain ⟨a',b',c',d'⟩:=x'
 have h1:=congrArg Ax.Target h
 have h2:=congrArg (fun z=>z.R.L) h
 simp only [AL.L,List.cons.injEq,and_true] at h1 h2
 obtain ⟨rfl,rfl,rfl,rfl⟩:=h2
 exact ⟨h1.symm,rfl⟩
section
variable {n:Nat} {p q:Ac} {k:Str}
theorem QQ.kd(h:QQ n p q):q.kind=p.kind:=by
 rcases h with ⟨h1,h2,_⟩ | ⟨h1,h2,_⟩ <;> rw [h1,h2]
theorem QQ.Touch(h:QQ n p q)(hn:n≤400)(k:Str):Rl (fun a b=>a.1=b.1∧QQ n a.2 b.2) (Bh p k) (Bh q k):=by
 unfold Bh Ao
 rcases h with ⟨h1,g1,t,u,x,h2,g2,ht,ha,hb⟩ | ⟨h1,g1,seed,t,u,s,x,h2,g2,ha,hb⟩
 ·obtain ⟨t',x',e,ed,h'⟩:=(ha.ae hn).dtouch k
  obtain ⟨u',y',f,fd,h2'⟩:=(hb.ae hn).dtouch k
  rw [ht,ed] at fd
  obtain ⟨z1,rfl⟩:=ad_inj (Prod.mk.inj (Option.some.inj fd)).1
  rw [if_pos (k1t h1),h2,om_some,e,Option.bind_some,if_pos (k1t g1),g2,om_some,f,Option.bind_some]
  exact rl_some ⟨rfl,.inl ⟨h1,g1,t',u',_,rfl,rfl,z1,h'.ar,h2'.ar⟩⟩
 ·rw [if_neg (k1f h1),if_pos (k2t h1),h2,om_some,if_neg (k1f g1),if_pos (k2t g1),g2,om_some]
  by_cases hm:k∈x.all
  ·obtain ⟨t',e,h',_⟩:=ha.touch hm
   obtain ⟨u',f,h2',_⟩:=hb.touch hm
   rw [e,Option.bind_some,f,Option.bind_some]
   exact rl_some ⟨rfl,.inr ⟨h1,g1,seed,t',u',_,_,rfl,rfl,h',h2'⟩⟩
  ·rw [ha.touch_no hm,Option.bind_some,hb.touch_no hm,Option.bind_some]
   exact rl_some ⟨rfl,.inr ⟨h1,g1,seed,t,u,s,x,rfl,rfl,ha,hb⟩⟩
theorem QQ.Remove(h:QQ n p q)(hn:n≤400)(k:Str):Rl (fun a b=>a.1=b.1∧QQ n a.2 b.2) (AY p k) (AY q k):=by
 unfold AY Ao
 rcases h with ⟨h1,g1,t,u,x,h2,g2,ht,ha,hb⟩ | ⟨h1,g1,seed,t,u,s,x,h2,g2,ha,hb⟩
 ·obtain ⟨t',x',e,ed,h'⟩:=(ha.ae hn).dremove k
  obtain ⟨u',y',f,fd,h2'⟩:=(hb.ae hn).dremove k
  rw [ht,ed] at fd
  obtain ⟨z1,rfl⟩:=ad_inj (Prod.mk.inj (Option.some.inj fd)).1
  rw [if_pos (k1t h1),h2,om_some,e,Option.bind_some,if_pos (k1t g1),g2,om_some,f,Option.bind_some]
  exact rl_some ⟨rfl,.inl ⟨h1,g1,t',u',_,rfl,rfl,z1,h'.ar,h2'.ar⟩⟩
 ·obtain ⟨t',e,h'⟩:=ha.Remove k
  obtain ⟨u',f,h2'⟩:=hb.Remove k
  rw [if_neg (k1f h1),if_pos (k2t h1),h2,om_some,e,Option.bind_some,if_neg (k1f g1),if_pos (k2t g1),g2,om_some,f,Option.bind_some]
  exact rl_some ⟨rfl,.inr ⟨h1,g1,seed,t',u',_,_,rfl,rfl,h',h2'⟩⟩
theorem QQ.Evict(h:QQ n p q)(hn:n≤400):Rl (fun a b=>a.1=b.1∧a.2.1=b.2.1∧QQ n a.2.2 b.2.2) (Ba p) (Ba q):=by
 unfold Ba Ao
 rcases h with ⟨h1,g1,t,u,x,h2,g2,ht,ha,hb⟩ | ⟨h1,g1,seed,t,u,s,x,h2,g2,ha,hb⟩
 ·obtain ⟨o,b,t',x',e,ed,h'⟩:=(ha.ae hn).devict
  obtain ⟨o2,b2,u',y',f,fd,h2'⟩:=(hb.ae hn).devict
  rw [ht,ed] at fd
  obtain ⟨z0,zz⟩:=Prod.mk.inj (Option.some.inj fd)
  obtain ⟨z1,rfl⟩:=ad_inj z0
  obtain ⟨rfl,rfl⟩:=Prod.mk.inj zz
  rw [if_pos (k1t h1),h2,om_some,e,Option.bind_some,if_pos (k1t g1),g2,om_some,f,Option.bind_some]
  exact rl_some ⟨rfl,rfl,.inl ⟨h1,g1,t',u',_,rfl,rfl,z1,h'.ar,h2'.ar⟩⟩
 ·obtain ⟨t',x',e,h',e2⟩:=ha.Evict
  obtain ⟨u',y',f,h2',f2⟩:=hb.Evict
  rw [if_neg (k1f h1),if_pos (k2t h1),h2,om_some,e,Option.bind_some,if_neg (k1f g1),if_pos (k2t g1),g2,om_some,f,Option.bind_some]
  cases e3:evk x with
  | none=>rw [e3] at e2 f2;dsimp only at e2 f2;subst e2 f2;exact rl_some ⟨rfl,rfl,.inr ⟨h1,g1,seed,t',u',_,_,rfl,rfl,h',h2'⟩⟩
  | some q=>rw [e3] at e2 f2;dsimp only at e2 f2;subst e2 f2;exact rl_some ⟨rfl,rfl,.inr ⟨h1,g1,seed,t',u',_,_,rfl,rfl,h',h2'⟩⟩
theorem QQ.Miss(h:QQ n p q){k:Str}(hk:k.length≤64):Rl (fun a b=>QQ n a b) (Bo p k) (Bo q k):=by
 have hh:=h
 unfold Bo Ao
 rcases h with ⟨h1,g1,t,u,x,h2,g2,ht,ha,hb⟩ | ⟨h1,g1,seed,t,u,s,x,h2,g2,ha,hb⟩
 ·rw [if_neg (k2f h1),if_neg (k2f g1)]
  exact rl_some hh
 ·rw [if_pos (k2t h1),h2,om_some,if_pos (k2t g1),g2,om_some,if_pos (k2t h1),if_pos (k2t g1),ha.Has,Option.bind_some,hb.Has,Option.bind_some]
  by_cases hx:k∈x.all
  ·rw [if_neg (by simp [hx]),if_neg (by simp [hx])]
   exact rl_some hh
  ·obtain ⟨t',e,h'⟩:=ha.Miss hk
   obtain ⟨u',f,h2'⟩:=hb.Miss hk
   rw [if_pos (by simp [hx]),if_pos (by simp [hx]),e,Option.bind_some,f,Option.bind_some]
   exact rl_some (.inr ⟨h1,g1,seed,t',u',_,_,rfl,rfl,h',h2'⟩)
theorem QQ.Insert(h:QQ n p q)(hn:n≤400)(k:Str):Rl (fun a b=>a.1=b.1∧QQ n a.2 b.2) (AV p k) (AV q k):=by
 unfold AV Ao
 rcases h with ⟨h1,g1,t,u,x,h2,g2,ht,ha,hb⟩ | ⟨h1,g1,seed,t,u,s,x,h2,g2,ha,hb⟩
 ·obtain ⟨g,t',x',e,ed,h',hg⟩:=(ha.ae hn).dinsert k
  obtain ⟨g3,u',y',f,fd,h2',_⟩:=(hb.ae hn).dinsert k
  rw [ht,ed] at fd
  obtain ⟨z0,rfl⟩:=Prod.mk.inj (Option.some.inj fd)
  obtain ⟨z1,rfl⟩:=ad_inj z0
  rw [if_pos (k1t h1),h2,om_some,e,Option.bind_some,if_pos (k1t g1),g2,om_some,f,Option.bind_some]
  exact rl_some ⟨rfl,.inl ⟨h1,g1,t',u',_,rfl,rfl,z1,h'.ar,h2'.ar⟩⟩
 ·rw [if_neg (k1f h1),if_pos (k2t h1),h2,om_some,if_neg (k1f g1),if_pos (k2t g1),g2,om_some]
  by_cases h64:k.length≤64
  ·by_cases hm:k∈x.all
   ·obtain ⟨t',e,h',_⟩:=ha.insert_yes hm
    obtain ⟨u',f,h2',_⟩:=hb.insert_yes hm
    rw [e,Option.bind_some,f,Option.bind_some]
    exact rl_some ⟨rfl,.inr ⟨h1,g1,seed,t',u',_,_,rfl,rfl,h',h2'⟩⟩
   ·obtain ⟨t',e,h',_⟩:=ha.insert_no hm h64
    obtain ⟨u',f,h2',_⟩:=hb.insert_no hm h64
    rw [e,Option.bind_some,f,Option.bind_some]
    exact rl_some ⟨rfl,.inr ⟨h1,g1,seed,t',u',_,_,rfl,rfl,h',h2'⟩⟩
  ·rw [ha.insert_long (by omega),Option.bind_some,hb.insert_long (by omega),Option.bind_some]
   exact rl_some ⟨rfl,.inr ⟨h1,g1,seed,t,u,s,x,rfl,rfl,ha,hb⟩⟩
theorem QQ.Export(h:QQ n p q):By p=By q:=by
 unfold By Ao
 rcases h with ⟨h1,g1,t,u,x,h2,g2,ht,ha,hb⟩ | ⟨h1,g1,seed,t,u,s,x,h2,g2,ha,hb⟩
 ·obtain ⟨g,hg,hgn⟩:=ha.gt
  rw [if_pos (k1t h1),if_pos (k1t g1),h2,g2]
  simp only [om_some,ha.Export hg hgn,hb.Export (g:=g) (by rw [ht];exact hg) hgn]
 ·rw [if_neg (k1f h1),if_pos (k2t h1),h2,if_neg (k1f g1),if_pos (k2t g1),g2]
  simp only [om_some,ha.Export,hb.Export]
end
section
variable {A V:Type} [BEq A] [LawfulBEq A] {m m':List (A×V)}
theorem Xq.put(h:Xq m m')(k:A)(v:V):Xq (mput m k v) (mput m' k v):=⟨h.1.put k v,h.2.1.put k v,fun j=>by rw [mget_put,mget_put,h.2.2 j]⟩
theorem Xq.del(h:Xq m m')(k:A):Xq (mdel m k) (mdel m' k):=⟨h.1.del k,h.2.1.del k,fun j=>by rw [mget_del _ _ _ h.1,mget_del _ _ _ h.2.1,h.2.2 j]⟩
theorem Xq.keys(h:Xq m m'):(m.map (·.1)).Perm (m'.map (·.1)):=(List.perm_ext_iff_of_nodup h.1 h.2.1).2 fun k=>by
 have h1:=mget_none m k
 have h2:=mget_none m' k
 rw [h.2.2 k] at h1
 exact ⟨fun x=>Classical.byContradiction fun y=>h1.1 (h2.2 y) x,fun x=>Classical.byContradiction fun y=>h2.1 (h1.2 y) x⟩
theorem Xq.len(h:Xq m m'):m.length=m'.length:=by simpa using h.keys.length_eq
end
section
variable {t u:Ah}
theorem TQ.get(h:TQ t u)(k:Str):AA t k=AA u k:=by unfold AA;rw [h.1.2.2 k]
theorem TQ.drop(h:TQ t u)(k:Str):TQ (AS t k).2 (AS u k).2:=by
 unfold AS
 rw [lt_eq,lt_eq,h.get k]
 split
 ·exact ⟨h.1.del k,by dsimp only;rw [h.2]⟩
 ·exact h
theorem TQ.put(h:TQ t u)(e:Ak):TQ (Bd t e) (Bd u e):=by
 unfold Bd
 rw [lt_eq,lt_eq]
 exact ⟨(h.drop e.Key).1.put _ _,by dsimp only;rw [(h.drop e.Key).2]⟩
theorem ksort_pm{l l':List Str}(h:l.Perm l'):ksort l=ksort l':=(ksort_of (List.Perm.refl l)).symm.trans (ksort_of h)
theorem mkeys_q{V:Type}{m m':List (Str×V)}(h:Xq m m'):mkeys m=mkeys m':=by
 unfold mkeys
 rw [h.len,ksort_pm h.keys]
 have:(m.all fun p=>decide (p.1.length≤1000000000))=m'.all fun p=>decide (p.1.length≤1000000000):=by
  have e:∀l:List (Str×V),(l.all fun p=>decide (p.1.length≤1000000000))=(l.map (·.1)).all fun k=>decide (k.length≤1000000000):=fun l=>by rw [List.all_map];rfl
  rw [e,e,Bool.eq_iff_iff,List.all_eq_true,List.all_eq_true]
  exact ⟨fun z x hx=>z x (h.keys.mem_iff.2 hx),fun z x hx=>z x (h.keys.mem_iff.1 hx)⟩
 rw [this]
theorem mkeysW_q{V:Type}{m m':List (UInt64×V)}(h:Xq m m'):mkeysW m=mkeysW m':=by
 unfold mkeysW
 rw [h.len,usort_of h.keys]
theorem TQ.ended(h:TQ t u)(nw:UInt64):BF t nw=BF u nw:=by
 unfold BF
 rw [mkeys_q h.1]
 have:endp t.m nw=endp u.m nw:=by funext k;unfold endp;rw [h.1.2.2 k]
 rw [this]
theorem texp_q(h:TQ t u)(L:List Str):∀(f:Nat) (c:Str) (i:Int),Bf t L f c i=Bf u L f c i
 | 0,c,i=>rfl
 | f+1,c,i=>by
  unfold Bf
  simp only [h.1.2.2,texp_q h L f]
theorem TQ.Export(h:TQ t u):BK t=BK u:=by
 unfold BK Bl
 rw [h.1.len,mkeys_q h.1]
 simp only [texp_q h]
end
theorem sexp_q{s t:Ad}(h:Xq s.sessions t.sessions)(L:List UInt64):∀(f:Nat) (c:Str) (i:Int),A6 s L f c i=A6 t L f c i
 | 0,c,i=>rfl
 | f+1,c,i=>by
  unfold A6
  simp only [h.2.2,sexp_q h L f]
theorem SE.Export{n:Nat}{s t:Ad}(h:SE n s t):AG s=AG t:=by
 obtain ⟨a,b,e1,e2,hT⟩:=h.tt
 obtain ⟨p,q,e3,e4,hQ⟩:=h.pp
 unfold AG
 rw [h.c,h.sq,h.nw,h.vr,h.ty,e1,e2,e3,e4]
 simp only [om_some,hT.Export,hQ.Export,mkeysW_q h.ss,h.ss.len,sexp_q h.ss]
section
variable {n:Nat} {c:Av} {a b:Ah} {p q:Ac} {ss s2:List (UInt64×Ap)} {sq nw vr:UInt64} {ty:BJ}
theorem SE.mk'(hT:TQ a b)(hQ:QQ n p q)(hs:Xq ss s2):SE n ⟨c,some a,some p,ss,sq,nw,vr,ty⟩ ⟨c,some b,some q,s2,sq,nw,vr,ty⟩:=⟨rfl,hs,rfl,rfl,rfl,rfl,⟨a,b,rfl,rfl,hT⟩,⟨p,q,rfl,rfl,hQ⟩⟩
theorem rl_ap0(hn:n≤400)(L:List Str):∀(f:Nat) (i:Int) (a b:Ah) (p q:Ac),TQ a b→QQ n p q →
  Rl (fun x y=>∃p' q',x.2.1=some p'∧y.2.1=some q'∧QQ n p' q'∧TQ ⟨x.2.2,x.1⟩ ⟨y.2.2,y.1⟩) (A3 L f i a.bytes (some p) a.m) (A3 L f i b.bytes (some q) b.m)
 | 0,i,a,b,p,q,hT,hQ=>rl_none
 | f+1,i,a,b,p,q,hT,hQ=>by
  unfold A3
  refine rl_ite Iff.rfl (fun _=>rl_same fun k _ => ?_) fun _=>rl_some ⟨p,q,rfl,rfl,hQ,hT⟩
  rw [lt_eq,lt_eq,om_some,om_some]
  refine rl_bind (hQ.Remove hn k) fun r r' hr => ?_
  exact rl_ap0 hn L f _ _ _ _ _ (hT.drop k) hr.2
theorem rl_put1(r r':List Str×Ac)(hr:r.1=r'.1):∀(f:Nat) (i:Int) (a b:Ah),TQ a b →
  Rl (fun x y=>TQ ⟨x.2,x.1⟩ ⟨y.2,y.1⟩) (A2 r f i a.bytes a.m) (A2 r' f i b.bytes b.m)
 | 0,i,a,b,hT=>rl_none
 | f+1,i,a,b,hT=>by
  unfold A2
  rw [hr]
  refine rl_ite Iff.rfl (fun _=>rl_same fun k _ => ?_) fun _=>rl_some hT
  rw [lt_eq,lt_eq]
  exact rl_put1 r r' hr f _ _ _ (hT.drop k)
theorem rl_put0(hn:n≤400)(s s':Ad)(hc:s'.c=s.c):∀(f:Nat) (a b:Ah) (p q:Ac),TQ a b→QQ n p q →
  Rl (fun x y=>QQ n x.1 y.1∧TQ ⟨x.2.2,x.2.1⟩ ⟨y.2.2,y.2.1⟩) (Bp s f p a.bytes a.m) (Bp s' f q b.bytes b.m)
 | 0,a,b,p,q,hT,hQ=>rl_none
 | f+1,a,b,p,q,hT,hQ=>by
  unfold Bp
  rw [hc]
  refine rl_ite (by unfold Bn;dsimp only;rw [hT.2]) (fun _=>rl_bind (hQ.Evict hn) fun r r' hr=>rl_ite (by rw [hr.2.1]) (fun _=>rl_some ⟨hr.2.2,hT⟩) fun _ => ?_) fun _=>rl_some ⟨hQ,hT⟩
  rw [lt_eq,lt_eq,←hr.1]
  exact rl_put0 hn s s' hc f _ _ _ _ (hT.drop _) hr.2.2
theorem rl_put(hT:TQ a b)(hQ:QQ n p q)(hs:Xq ss s2)(hn:n≤400)(o:AH):
  Rl (fun x y=>x.1=y.1∧∃a' b' p' q' vr',x.2=⟨c,some a',some p',ss,sq,nw,vr',ty⟩∧y.2=⟨c,some b',some q',s2,sq,nw,vr',ty⟩∧TQ a' b'∧QQ n p' q')
   (AW ⟨c,some a,some p,ss,sq,nw,vr,ty⟩ o) (AW ⟨c,some b,some q,s2,sq,nw,vr,ty⟩ o):=by
 unfold AW
 dsimp only
 refine rl_ite Iff.rfl (fun _=>rl_some ⟨rfl,a,b,p,q,vr,rfl,rfl,hT,hQ⟩) fun _=>rl_same fun e _ => ?_
 rw [om_some,om_some,lt_eq,lt_eq,om_some,om_some]
 refine rl_bind (hQ.Insert hn o.Key) fun r r' hr => ?_
 rw [hr.1]
 refine rl_bind (rl_put1 r r' hr.1 _ _ (Bd a ⟨o.Key,o.Value,vr+1,e⟩) (Bd b ⟨o.Key,o.Value,vr+1,e⟩) (hT.put _)) fun x y hxy => ?_
 refine rl_bind (rl_put0 hn ⟨c,some a,some p,ss,sq,nw,vr,ty⟩ ⟨c,some b,some q,s2,sq,nw,vr,ty⟩ rfl 1100 ⟨x.2,x.1⟩ ⟨y.2,y.1⟩ r.2 r'.2 hxy hr.2) fun v w hv => ?_
 exact rl_some ⟨rfl,⟨v.2.2,v.2.1⟩,⟨w.2.2,w.2.1⟩,v.1,w.1,vr+1,rfl,rfl,hv.2,hv.1⟩
theorem rl_do(hT:TQ a b)(hQ:QQ n p q)(hs:Xq ss s2)(hn:n≤400)(o:AH)(ho:o.Key.length≤64):
  Rl (fun x y=>x.1=y.1∧∃a' b' p' q' vr' ty',x.2=⟨c,some a',some p',ss,sq,nw,vr',ty'⟩∧y.2=⟨c,some b',some q',s2,sq,nw,vr',ty'⟩∧TQ a' b'∧QQ n p' q')
   (AP ⟨c,some a,some p,ss,sq,nw,vr,ty⟩ o) (AP ⟨c,some b,some q,s2,sq,nw,vr,ty⟩ o):=by
 have hp:=rl_put (c:=c) (sq:=sq) (nw:=nw) (vr:=vr) (ty:=ty) hT hQ hs hn o
 unfold AP
 dsimp only
 rw [om_some,om_some,lt_eq,lt_eq,hT.get o.Key]
 refine rl_ite Iff.rfl (fun _=>rl_ite Iff.rfl (fun _ => ?_) fun _ => ?_) fun _=>rl_ite Iff.rfl (fun _=>rl_ite Iff.rfl (fun _=>rl_some ⟨rfl,a,b,p,q,vr,ty,rfl,rfl,hT,hQ⟩) fun _ => ?_) fun _=>rl_ite Iff.rfl (fun _=>rl_ite Iff.rfl (fun _=>rl_some ⟨rfl,a,b,p,q,vr,ty,rfl,rfl,hT,hQ⟩) fun _=>rl_ite Iff.rfl (fun _=>rl_some ⟨rfl,a,b,p,q,vr,ty,rfl,rfl,hT,hQ⟩) fun _ => ?_) fun _ => ?_
 ·exact rl_bind (hQ.Miss ho) fun r r' hr=>rl_some ⟨rfl,a,b,r,r',vr,_,rfl,rfl,hT,hr⟩
 ·exact rl_bind (hQ.Touch hn _) fun r r' hr=>rl_some ⟨rfl,a,b,r.2,r'.2,vr,_,rfl,rfl,hT,hr.2⟩
 ·simp only [lt_eq,om_some]
  exact rl_bind (hQ.Remove hn _) fun r r' hr=>rl_some ⟨rfl,_,_,r.2,r'.2,vr,ty,rfl,rfl,hT.drop _,hr.2⟩
 ·refine rl_bind hp fun r r' hr=>rl_some ⟨hr.1,?_⟩
  obtain ⟨_,a',b',p',q',vr',e1,e2,h1,h2⟩:=hr
  exact ⟨a',b',p',q',vr',ty,e1,e2,h1,h2⟩
 ·refine rl_bind hp fun r r' hr=>rl_some ⟨hr.1,?_⟩
  obtain ⟨_,a',b',p',q',vr',e1,e2,h1,h2⟩:=hr
  exact ⟨a',b',p',q',vr',ty,e1,e2,h1,h2⟩
end
theorem rl_apply{n:Nat}{s t:Ad}(h:SE n s t)(hn:n≤400)(x:AM):
  Rl (fun y z=>y.1=z.1∧y.2.1=z.2.1∧SE n y.2.2 z.2.2) (AF s x) (AF t x):=by
 obtain ⟨a,b,e1,e2,hT⟩:=h.tt
 obtain ⟨p,q,e3,e4,hQ⟩:=h.pp
 have hh:=h
 have hs:=h.ss
 have d1:=h.c
 have d2:=h.sq
 have d3:=h.nw
 have d4:=h.vr
 have d5:=h.ty
 obtain ⟨c,tt,pp,ss,sq,nw,vr,ty⟩:=s
 obtain ⟨c',tt',pp',s2,sq',nw',vr',ty'⟩:=t
 dsimp only at e1 e2 e3 e4 hs d1 d2 d3 d4 d5
 subst e1 e2 e3 e4 d1 d2 d3 d4 d5
 unfold AF
 dsimp only
 refine rl_ite Iff.rfl (fun _=>rl_some ⟨rfl,rfl,hh⟩) fun hc=>rl_ite Iff.rfl (fun _=>rl_some ⟨rfl,rfl,hh⟩) fun _ => ?_
 rw [om_some,om_some,hT.ended]
 refine rl_same fun L _=>rl_bind (rl_ap0 hn L _ _ a b p q hT hQ) fun y z hyz => ?_
 obtain ⟨p',q',f1,f2,hQ',hT'⟩:=hyz
 rw [f1,f2,hs.2.2,hs.len]
 have hc':BQ x.Op=true:=by simpa using hc
 refine rl_ite Iff.rfl (fun _=>rl_some ⟨rfl,rfl,SE.mk' hT' hQ' hs⟩) fun _=>rl_ite Iff.rfl (fun _=>rl_some ⟨rfl,rfl,SE.mk' hT' hQ' hs⟩) fun _=>rl_ite Iff.rfl (fun _=>rl_some ⟨rfl,rfl,SE.mk' hT' hQ' hs⟩) fun _=>rl_ite Iff.rfl (fun _=>rl_some ⟨rfl,rfl,SE.mk' hT' hQ' hs⟩) fun _ => ?_
 refine rl_bind (rl_do hT' hQ' hs hn x.Op (chk_len hc').1) fun r r' hr => ?_
 obtain ⟨g1,a',b',p2,q2,vr2,ty2,g2,g3,g4,g5⟩:=hr
 rw [g1,g2,g3]
 exact rl_some ⟨rfl,rfl,SE.mk' g4 g5 (hs.put _ _)⟩
theorem SE.Dig{n:Nat}{s t:Ad}(h:SE n s t):Bq s=Bq t:=by unfold Bq;rw [h.Export]
theorem mir_l0{κ:Int}{n B:Nat}{c:Av}(hn4:n≤400)(l:List Az):∀(f i:Nat) (s t u:Ad) (now:UInt64),f=l.length-i+1→i≤l.length→i≤60→Px κ n B (60+i) c s now→SE n s t→SE n s u→now.toNat≤6000+100*i →
  ∃s' t' u' now',Bb l f now (some t) (some u) (i:Int) s=some (.inl (some t',some u',s'))∧Px κ n B 120 c s' now'∧SE n s' t'∧SE n s' u':=by
 intro f
 induction f with
 | zero=>intro i s t u now h;omega
 | succ f ih =>
  intro i s t u now hf hi hi2 h ht hu hnw
  unfold Bb
  by_cases hc:i<l.length∧i<60
  ·obtain ⟨y,nx,e1,e2,h1,h2,h3,h4⟩:=rec_ok (AU s) now l[i] (by omega)
   obtain ⟨r,e,s',e3,h'⟩:=px_step h (by omega) h1 h2 (by rw [e2];exact h3)
   obtain ⟨⟨r2,er2,t'⟩,e4,z1,z2,ht'⟩:=rl_apply ht hn4 y _ e3
   obtain ⟨⟨r3,er3,u'⟩,e5,z3,z4,hu'⟩:=rl_apply hu hn4 y _ e3
   dsimp only at z1 z2 z3 z4 ht' hu'
   subst z1 z2 z3 z4
   rw [e2] at h'
   have hsq:AU s'=AU t':=ht'.sq.symm
   rw [if_pos (by simp;omega),gN hc.1,Option.bind_some,e1,Option.bind_some,e3,Option.bind_some,om_some,e4,Option.bind_some,om_some,e5,Option.bind_some]
   dsimp only
   rw [if_neg (by simp),Option.bind_some,hsq,if_neg (by simp),i_a1 (by omega)]
   exact ih (i+1) s' t' u' nx (by omega) (by omega) (by omega) h' ht' hu' (by omega)
  ·rw [if_neg (by simp;omega)]
   obtain ⟨⟨⟨tt,p,K,hS⟩,hP,hn2⟩,hX,hC⟩:=h
   exact ⟨s,t,u,now,rfl,⟨⟨⟨tt,p,K,⟨hS.st,hS.sp,hS.sc,hS.cb,hS.b2,hS.tb,hS.pr,hS.ms,hS.en,by have:=hS.vn;omega,by have:=hS.sn;omega⟩⟩,hP,hn2⟩,hX.le (by omega),hC⟩,ht,hu⟩
theorem StoreMirrors(x:Av)(l more:List Az){p1 p2 p3 p4 p5:Prop}(_:p1)(_:p2)(_:p3)(_:p4)(_:p5):BS x l more=some true:=by
 obtain ⟨κ,n,B,c,s,now,e1,hx,hn,hB,hn16⟩:=playx_ok x l
 have hx0:=hx
 obtain ⟨⟨⟨t,p,K,hS⟩,hP,hnw⟩,hX,hC⟩:=hx
 obtain ⟨b,d,s',-,-,-,e2,e3,e4,e5,e6,-,-,-,-,-,hE⟩:=hS.Dig hX hC hB (by decide) hP
 obtain ⟨s2,t2,u2,now2,e7,hx2,ht,hu⟩:=mir_l0 (κ:=κ) (n:=n) (B:=B) (c:=c) (by omega) more (((more.length:Int)-0).toNat+1) 0 s s' s' now (by omega) (by omega) (by omega) hx0 hE hE (by omega)
 obtain ⟨⟨⟨tt,pp,KK,hS2⟩,hP2,-⟩,hX2,-⟩:=hx2
 obtain ⟨b2,d2,-,-,-,-,f2,f3,f4,-⟩:=hS2.Dig hX2 hC hB (by decide) hP2
 unfold BS
 rw [e1,Option.bind_some]
 dsimp only
 rw [om_some,e2,Option.bind_some,e5,Option.bind_some,e6,Option.bind_some,awake12,Option.bind_some,if_neg (by simp),show Bb more (((more.length:Int)-0).toNat+1) now (some s') (some s') 0 s=_ from e7,Option.bind_some]
 dsimp only
 rw [f2,Option.bind_some,om_some,←ht.Export,f2,Option.bind_some,if_pos (by simp),om_some,←hu.Export,f2,Option.bind_some,if_pos (by simp),f4,Option.bind_some,←ht.Dig,f4,Option.bind_some]
 simp
end Go.Proofs.YtpanhdnglicknaaGreat.Pure
