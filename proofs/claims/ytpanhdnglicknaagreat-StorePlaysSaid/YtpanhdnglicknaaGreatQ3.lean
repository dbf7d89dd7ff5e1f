import Derived.Test.YtpanhdnglicknaaGreatW5
import Derived.Test.YtpanhdnglicknaaGreatQ0
import Derived.Test.YtpanhdnglicknaaGreatQ1
import Derived.Test.YtpanhdnglicknaaGreatQ2
set_option linter.unusedVariables false
set_option linter.unusedSectionVars false
set_option linter.unusedSimpArgs false
set_option maxRecDepth 100000
set_option maxHeartbeats 4000000
namespace Go.Proofs.YtpanhdnglicknaaGreat.Pure
open Go Go.Proofs.YtpanhdnglicknaaGreat.Hw
section
variable {n:Nat} {seed:UInt64} {t:Ao} {s:Sk} {x:TL} {k:Str}
theorem TR.xn(h:TR n seed t s x):x.n≤n+1:=by have:=h.bn;omega
theorem dAdd(h:TR n seed t s x)(hk:k.length≤100000):Bc (s.M (wd n) seed) k=some ((ad (wd n) seed s k).M (wd n) seed):=Add_m h.w1 h.w2 h.ok (plc_ok h.w1 h.w2 hk)
theorem dSeen'(h:TR n seed t s x)(hk:k.length≤100000){s':Sk}(h':s'.ok (wd n)):A4 (s'.M (wd n) seed) k=some (sn (wd n) seed s' k:Int):=Seen_m h.w1 h.w2 h' (plc_ok h.w1 h.w2 hk)
theorem dTouch_no(h:TR n seed t s x)(hn:n≤900)(hk:k∉x.all):Bl (TD n seed s x) k=some (TD n seed s x,false):=by
 have hm:=fun e=>hk (all_m.2 e)
 unfold Bl
 rw [dIn hn h.xn,if_neg (fun e=>hm (.inl e)),if_neg (fun e=>hm (.inr (.inl e))),if_neg (fun e=>hm (.inr (.inr e)))]
 rfl
theorem dTouch(h:TR n seed t s x)(hn:n≤900)(hk:k∈x.all):Bl (TD n seed s x) k=some (TD n seed (ad (wd n) seed s k) (tch n x k),true):=by
 have h64:=h.kl k hk
 have hnd:=h.nd
 have hx:=h.xn
 unfold Bl tch
 rw [dIn hn hx]
 by_cases h1:k∈x.a
 ·rw [if_pos h1,if_pos h1,ob_,if_neg (by decide),dAdd h (by omega),ob_,if_pos (by rfl)]
  rw [show AH _ 0 k=_ from dfront0 (s:=ad (wd n) seed s k) (seed:=seed) hn hx h64 (.inl hk)]
  rfl
 ·have e2:=fr_n2 hnd hk
  have hmid:(AH (TD n seed (ad (wd n) seed s k) x) 2 k).bind (fun r42=>lt (Cn r42.Most) fun r53=>(gi r42.R.L 2).bind fun x55=>if decide (r53.2<(x55.length:Int)) then (Ay r42.R 2).bind fun r60=>(AH r42 1 r60.1).bind fun r62=>some (r62,true) else some (r42,true))=some (TD n seed (ad (wd n) seed s k) (if Sf n<(x.fr2 k).c.length then (x.fr2 k).fr1 ((x.fr2 k).c.getLastD []) else x.fr2 k),true):=by
   rw [dfront2 hn hx h64 (.inl hk),ob_,lt_eq]
   dsimp only
   rw [parts_r n h.n1 h.n2,show gi (x.fr2 k).L 2=some (x.fr2 k).c from rfl,ob_]
   by_cases hc:Sf n<(x.fr2 k).c.length
   ·have hne:(x.fr2 k).c≠[]:=fun e=>by rw [e] at hc;simp at hc
    have hl:=lastD_mem hne
    have hla:(x.fr2 k).c.getLastD []∈(x.fr2 k).all:=all_m.2 (.inr (.inr hl))
    have h64':((x.fr2 k).c.getLastD []).length≤64:=h.kl _ ((perm_mem (fr2_all x k) hk hnd).mem_iff.1 hla)
    rw [if_pos (by simp;omega),show Ay _ 2=_ from dBack (i:=2) (l:=(x.fr2 k).c) hn (by omega) rfl _,ob_,if_pos hc]
    have e3:(x.fr2 k).c.getLast? = some ((x.fr2 k).c.getLastD []):=by
     conv=>lhs;rw [lastD hne]
     simp
    rw [e3]
    dsimp only
    rw [dfront1 hn (by omega) h64' (.inl hla)]
    rfl
   ·rw [if_neg (by simp;omega),if_neg hc]
  rw [if_neg h1,if_neg h1]
  by_cases h2:k∈x.b
  ·rw [if_pos h2,ob_,if_neg (by decide),dAdd h (by omega),ob_,if_neg (by decide)]
   exact hmid
  ·have h3:k∈x.c:=by have:=all_m.1 hk;simpa [h1,h2] using this
   rw [if_neg h2,if_pos h3,ob_,if_neg (by decide),dAdd h (by omega),ob_,if_neg (by decide)]
   exact hmid
theorem dRemove(h:TR n seed t s x)(hn:n≤900):Cz (TD n seed s x) k=some (TD n seed s (x.drop k),decide (k∈x.all)):=by
 unfold Cz
 rw [dHas hn h.xn,ob_,show AG _ k=_ from dDrop hn h.xn _]
 rfl
theorem dMiss(h:TR n seed t s x)(hk:k.length≤80):CY (TD n seed s x) k=some (TD n seed (if k.length≤64 then ad (wd n) seed s k else s) x):=by
 unfold CY
 by_cases h1:k.length≤64
 ·rw [if_pos (by simp;omega),dAdd h (by omega),if_pos h1];rfl
 ·rw [if_neg (by simp;omega),if_neg h1]
theorem dEvict(h:TR n seed t s x)(hn:n≤900):CN (TD n seed s x)=some (match evk x with | some k=>(TD n seed s (x.drop k),k,true) | none=>(TD n seed s x,[],false)):=by
 have hx:=h.xn
 have b0:=dBack (i:=0) (l:=x.a) hn hx rfl ((n+1:Nat):Int)
 have b1:=dBack (i:=1) (l:=x.b) hn hx rfl ((n+1:Nat):Int)
 have b2:=dBack (i:=2) (l:=x.c) hn hx rfl ((n+1:Nat):Int)
 have D:∀k,AG ⟨x.L,((n+1:Nat):Int)⟩ k=_:=fun k=>dDrop (k:=k) hn hx _
 unfold CN evk
 rw [Bt,if_pos (by decide),show gi [(1:Int),0,2] 0=some 1 from rfl,ob_,show Ay _ 1=_ from b1,ob_]
 cases e1:x.b.getLast? with
 | some k=>dsimp only;rw [if_pos rfl,D k];rfl
 | none =>
  dsimp only
  rw [if_neg (by decide),j0,Bt,if_pos (by decide),show gi [(1:Int),0,2] 1=some 0 from rfl,ob_,show Ay _ 0=_ from b0,ob_]
  cases e2:x.a.getLast? with
  | some k=>dsimp only;rw [if_pos rfl,D k];rfl
  | none =>
   dsimp only
   rw [if_neg (by decide),j1,Bt,if_pos (by decide),show gi [(1:Int),0,2] 2=some 2 from rfl,ob_,show Ay _ 2=_ from b2,ob_]
   cases e3:x.c.getLast? with
   | some k=>dsimp only;rw [if_pos rfl,D k];rfl
   | none=>dsimp only;rw [if_neg (by decide),j2,Bt,if_neg (by decide)];rfl
theorem dInsert_long(hk:64<k.length):Bg (TD n seed s x) k=some (TD n seed s x,[]):=by
 unfold Bg
 rw [if_pos (by simp;omega)]
theorem dInsert_yes(h:TR n seed t s x)(hn:n≤900)(hk:k∈x.all):Bg (TD n seed s x) k=some (TD n seed (ad (wd n) seed s k) (tch n x k),[]):=by
 have h64:=h.kl k hk
 unfold Bg
 rw [if_neg (by simp;omega),dTouch h hn hk,ob_,if_pos rfl]
theorem getL{l:List Str}(h:l≠[]):l.getLast? = some (l.getLastD []):=by
 conv=>lhs;rw [lastD h]
 simp
theorem dInsert_no(h:TR n seed t s x)(hn:n≤900)(hk:k∉x.all)(h64:k.length≤64):Bg (TD n seed s x) k=some (TD n seed (ad (wd n) seed s k) (ins n seed (ad (wd n) seed s k) x k).1,(ins n seed (ad (wd n) seed s k) x k).2):=by
 have hx:=h.xn
 have hbn:=h.bn
 have hnd:=h.nd
 have ok':=h.adok k
 have ey:=fr0_new hk
 have hal:(x.fr0 k).all=k::x.all:=by rw [ey];rfl
 have hyn:(x.fr0 k).n=x.n+1:=by rw [←all_n,hal,List.length_cons,all_n]
 have nd1:(x.fr0 k).all.Nodup:=by rw [hal];exact List.nodup_cons.2 ⟨hk,hnd⟩
 have kl1:∀q∈(x.fr0 k).all,q.length≤64:=by
  rw [hal];intro q hq
  rcases List.mem_cons.1 hq with rfl | hq
  ·exact h64
  ·exact h.kl q hq
 have hya:(x.fr0 k).a≠[]:=by rw [ey];simp
 have hla:=lastD_mem hya
 have ha:(x.fr0 k).a.getLastD []∈(x.fr0 k).all:=all_m.2 (.inl hla)
 have ha64:=kl1 _ ha
 unfold Bg
 rw [if_neg (by simp;omega),dTouch_no h hn hk,ob_,if_neg (by simp),dAdd h (by omega),ob_,
  show AH _ 0 k=_ from dfront0 (s:=ad (wd n) seed s k) (seed:=seed) hn hx h64 (.inr hbn),ob_,lt_eq]
 dsimp only
 rw [parts_r n h.n1 h.n2,show gi (x.fr0 k).L 0=some (x.fr0 k).a from rfl,ob_]
 unfold ins
 generalize hy:x.fr0 k=y at *
 generalize hs':ad (wd n) seed s k=s' at *
 by_cases c1:y.a.length≤Wn n
 ·rw [if_pos (by simp;omega),if_pos c1]
 ·rw [if_neg (by simp;omega),if_neg c1,show Ay _ 0=_ from dBack (i:=0) (l:=y.a) hn (by omega) rfl _,ob_,dLen hn (by omega),ob_,getL hya]
  by_cases c2:y.n≤n
  ·rw [if_pos (by simp;omega),if_pos c2]
   dsimp only
   rw [dfront1 hn (by omega) ha64 (.inl ha)];rfl
  ·rw [if_neg (by simp;omega),if_neg c2]
   have e0:(AG ⟨y.L,((n+1:Nat):Int)⟩ (y.a.getLastD [])).bind (fun r100=>some ((⟨(n:Int),s'.M (wd n) seed,r100⟩:Ae),[y.a.getLastD []]))=some (TD n seed s' (y.drop (y.a.getLastD [])),[y.a.getLastD []]):=by
    rw [dDrop hn (by omega)];rfl
   have e1:∀o,o∈y.b∨o∈y.c→(Option.bind (if true=true then (A4 (s'.M (wd n) seed) (y.a.getLastD [])).bind fun r111=>(A4 (s'.M (wd n) seed) o).bind fun r113=>some (decide (r113<r111)) else some false) fun p74=>if p74 then (AG ⟨y.L,((n+1:Nat):Int)⟩ o).bind fun r80=>(AH (⟨(n:Int),s'.M (wd n) seed,r80⟩:Ae) 1 (y.a.getLastD [])).bind fun r88=>some (r88,[o]) else (AG ⟨y.L,((n+1:Nat):Int)⟩ (y.a.getLastD [])).bind (fun r100=>some ((⟨(n:Int),s'.M (wd n) seed,r100⟩:Ae),[y.a.getLastD []]))) =
     some (TD n seed s' (if sn (wd n) seed s' o<sn (wd n) seed s' (y.a.getLastD []) then ((y.drop o).fr1 (y.a.getLastD []),[o]) else (y.drop (y.a.getLastD []),[y.a.getLastD []])).1,(if sn (wd n) seed s' o<sn (wd n) seed s' (y.a.getLastD []) then ((y.drop o).fr1 (y.a.getLastD []),[o]) else (y.drop (y.a.getLastD []),[y.a.getLastD []])).2):=by
    intro o ho
    have hoa:o∈y.all:=all_m.2 (.inr ho)
    have ho64:=kl1 o hoa
    obtain ⟨_,_,_,dj,_⟩:=all_nd_a nd1
    have hne:y.a.getLastD []≠o:=fun e=>by
     have:=dj _ hla
     rw [e] at this
     exact ho.elim this.1 this.2
    rw [if_pos rfl,dSeen' h (by omega) ok',ob_,dSeen' h (by omega) ok',ob_,ob_]
    by_cases c3:sn (wd n) seed s' o<sn (wd n) seed s' (y.a.getLastD [])
    ·have hdn:(y.drop o).n+1=y.n:=by
      rw [←all_n,←all_n,drop_all];exact rm_len nd1 hoa
     rw [if_pos (by simpa using c3),if_pos c3,dDrop hn (by omega),ob_,show AH _ 1 _=_ from dfront1 (s:=s') (seed:=seed) hn (by omega) ha64 (.inl (by rw [drop_all];exact rm_mem.2 ⟨ha,hne⟩))]
     rfl
    ·rw [if_neg (by simpa using c3),if_neg c3]
     exact e0
   dsimp only
   rw [show Ay _ 1=_ from dBack (i:=1) (l:=y.b) hn (by omega) rfl _,ob_]
   unfold lst
   cases eb:y.b.getLast? with
   | some o =>
    dsimp only
    rw [if_neg (by decide),ob_]
    exact e1 o (.inl (List.mem_of_getLast? eb))
   | none =>
    dsimp only
    rw [if_pos (by decide),show Ay _ 2=_ from dBack (i:=2) (l:=y.c) hn (by omega) rfl _,ob_]
    cases ec:y.c.getLast? with
    | some o =>
     dsimp only
     rw [ob_]
     exact e1 o (.inr (List.mem_of_getLast? ec))
    | none =>
     dsimp only
     rw [ob_,if_neg (by decide),ob_,if_neg (by decide)]
     exact e0
end
end Go.Proofs.YtpanhdnglicknaaGreat.Pure
namespace Go.Proofs.YtpanhdnglicknaaGreat.Pure
open Go Go.Proofs.YtpanhdnglicknaaGreat.Hw Go.Proofs.YtpanhdnglicknaaGreat
namespace AL
end AL
structure AE (n:Nat) (t:Aq) (x:AL):Prop where
 n1:1≤n
 n2:n≤400
 ms:t.most=(n:Int)
 tg:0≤t.target∧t.target≤(n:Int)
 rg:∃r,t.r=some r∧RR 4 (2*n+1) r x.L
 b1:x.a.length+x.b.length≤n
 b2:x.a.length+x.c.length≤n
 b3:x.a.length+x.b.length+x.c.length+x.d.length≤2*n
abbrev AD(n:Nat)(g:Int)(x:AL):Aa:=⟨(n:Int),g,⟨x.L,((2*n+1:Nat):Int)⟩⟩
section
variable {n:Nat} {t:Aq} {x:AL} {g:Int} {k:Str}
theorem AE.nd(h:AE n t x):x.all.Nodup:=by
 obtain ⟨r,_,hr⟩:=h.rg;have:=hr.nd;rw [afl] at this;exact this
theorem AE.kl(h:AE n t x):∀k∈x.all,k.length≤64:=by
 obtain ⟨r,_,hr⟩:=h.rg;have:=hr.kl;rw [afl] at this;exact this
theorem AE.Has(h:AE n t x)(k:Str):DL t k=some (decide (k∈x.kept)):=by
 obtain ⟨r,hr,hR⟩:=h.rg
 obtain ⟨_,_,_,_,d1,d2,d3⟩:=all_dj h.nd
 unfold DL
 rw [hr,om_some]
 by_cases ha:k∈x.a
 ·rw [hR.in_some (i:=0) rfl ha,ob_];simp [mem_kept,ha]
 ·by_cases hb:k∈x.b
  ·rw [hR.in_some (i:=1) rfl hb,ob_];simp [mem_kept,hb]
  ·by_cases hc:k∈x.c
   ·rw [hR.in_some (i:=2) rfl hc,ob_];simp [mem_kept,ha,hb]
   ·by_cases hd:k∈x.d
    ·rw [hR.in_some (i:=3) rfl hd,ob_];simp [mem_kept,ha,hb]
    ·rw [hR.in_none (by rw [afl,mem_all];simp [ha,hb,hc,hd]),ob_];simp [mem_kept,ha,hb]
theorem AE.Len(h:AE n t x):CG t=some ((x.a.length+x.b.length:Nat):Int):=by
 obtain ⟨r,hr,hR⟩:=h.rg
 have:=h.b1
 have:=h.n2
 have l0:=hR.Len (i:=0) (l:=x.a) rfl
 have l1:=hR.Len (i:=1) (l:=x.b) rfl
 unfold CG
 rw [hr,om_some,show Aw r 0=_ from l0,ob_,show Aw r 1=_ from l1,ob_,i64s _ (by omega) (by omega)]
 congr 1
theorem AE.front(h:AE n t x){r:Aj}(hR:RR 4 (2*n+1) r x.L){k:Str}(h64:k.length≤64){j:Nat}(hj:j<4):∃r',Ax r (j:Int) k=some (true,r')∧RR 4 (2*n+1) r' (frK x.L j k):=by
 have:=h.n2
 have:=h.b3
 exact hR.frontA (by omega) h64 (.inr (by rw [afl];unfold AL.all;simp;omega)) hj
theorem AE.gone(h:AE n t x){r:Aj}{k:Str}(hR:RR 4 (2*n+1) r (x.drop k).L):AE n ⟨t.most,t.target,some r⟩ (x.drop k):=by
 have la:=rm_le x.a k;have lb:=rm_le x.b k;have lc:=rm_le x.c k;have ld:=rm_le x.d k
 have b1:=h.b1;have b2:=h.b2;have b3:=h.b3
 refine ⟨h.n1,h.n2,h.ms,h.tg,⟨r,rfl,hR⟩,?_,?_,?_⟩
 ·show (TL.rm x.a k).length+(TL.rm x.b k).length≤n;omega
 ·show (TL.rm x.a k).length+(TL.rm x.c k).length≤n;omega
 ·show (TL.rm x.a k).length+(TL.rm x.b k).length+(TL.rm x.c k).length+(TL.rm x.d k).length≤2*n;omega
theorem AE.hb(h:AE n t x):∀l∈x.L,l.length≤1000:=by
 intro l hl
 have h1:=h.n2;have h3:=h.b3
 simp only [AL.L,List.mem_cons,List.not_mem_nil,or_false] at hl
 rcases hl with rfl | rfl | rfl | rfl <;> omega
theorem AE.fll(h:AE n t x):x.L.flatten.length≤2*n:=by
 have h3:=h.b3
 rw [afl];unfold AL.all;simp only [List.length_append];omega
theorem AE.dIn(h:AE n t x)(p:Int)(k:Str):AP ⟨x.L,p⟩ k=some (if k∈x.a then (0,true) else if k∈x.b then (1,true) else if k∈x.c then (2,true) else if k∈x.d then (3,true) else (0,false)):=by
 rw [rin h.hb (by simp)]
 simp only [inK]
 by_cases h1:k∈x.a
 ·simp [h1]
 ·by_cases h2:k∈x.b
  ·simp [h1,h2]
  ·by_cases h3:k∈x.c
   ·simp [h1,h2,h3]
   ·by_cases h4:k∈x.d
    ·simp [h1,h2,h3,h4]
    ·simp [h1,h2,h3,h4]
theorem AE.dHas(h:AE n t x)(k:Str):BE (AD n g x) k=some (decide (k∈x.kept)):=by
 unfold BE
 rw [h.dIn,ob_]
 by_cases h1:k∈x.a
 ·simp [h1,mem_kept]
 ·by_cases h2:k∈x.b
  ·simp [h1,h2,mem_kept]
  ·by_cases h3:k∈x.c
   ·simp [h1,h2,h3,mem_kept]
   ·by_cases h4:k∈x.d
    ·simp [h1,h2,h3,h4,mem_kept]
    ·simp [h1,h2,h3,h4,mem_kept]
theorem dlen(i:Int){l:List Str}(hl:gi x.L i=some l):Az (AD n g x) i=some (l.length:Int):=by
 unfold Az
 rw [show gi (AD n g x).R.L i=some l from hl,ob_]
theorem AE.dLen(h:AE n t x):AS (AD n g x)=some ((x.a.length+x.b.length:Nat):Int):=by
 have:=h.b1
 have:=h.n2
 unfold AS
 rw [dlen (l:=x.a) 0 rfl,ob_,dlen (l:=x.b) 1 rfl,ob_,i64s _ (by omega) (by omega)]
 congr 1
theorem AE.dfront(h:AE n t x)(h64:k.length≤64){j:Nat}(hj:j<4):AB (AD n g x) (j:Int) k=some ⟨(n:Int),g,⟨frK x.L j k,((2*n+1:Nat):Int)⟩⟩:=by
 have h1:=h.fll
 have h2:=h.n2
 unfold AB
 rw [show A2 (AD n g x).R (j:Int) k=_ from rfront (i:=j) h.hb (by simp) (by omega) (by simp;omega) h64 (.inr (by omega)),ob_]
theorem AE.dback(h:AE n t x){i:Nat}{l:List Str}(hl:x.L[i]? = some l)(p:Int):Ay ⟨x.L,p⟩ (i:Int)=some (match l.getLast? with | some k=>(k,true) | none=>([],false)) :=
 rback hl (h.hb l (List.mem_of_getElem? hl))
theorem AE.ddrop(h:AE n t x)(k:Str)(p:Int):AG ⟨x.L,p⟩ k=some ⟨(x.drop k).L,p⟩:=by
 rw [rdrop h.hb (by simp)];rfl
theorem AE.touch(h:AE n t x){k:Str}(hk:k∈x.kept):∃t' x',B5 t k=some (true,t')∧AB (AD n t.target x) 1 k=some (AD n t'.target x')∧AE n t' x':=by
 obtain ⟨r,hr,hR⟩:=h.rg
 obtain ⟨na,nb,nc,nd,d1,d2,d3⟩:=all_dj h.nd
 have hall:k∈x.all:=mem_all.2 ((mem_kept.1 hk).imp id .inl)
 obtain ⟨r',e,hR'⟩:=h.front hR (h.kl k hall) (j:=1) (by omega)
 have hR':RR 4 (2*n+1) r' (x.fr1 k).L:=hR'
 have e2:=h.dfront (g:=t.target) (h.kl k hall) (j:=1) (by omega)
 unfold B5
 rw [h.Has,ob_,if_neg (by simp [hk]),hr,om_some,show Ax r 1 k=_ from e,ob_]
 have lc:=rm_le x.c k
 have ld:=rm_le x.d k
 have b1:=h.b1;have b2:=h.b2;have b3:=h.b3
 have la:=rm_le x.a k
 have hs:(TL.rm x.a k).length+(TL.rm x.b k).length+1=x.a.length+x.b.length:=by
  rcases mem_kept.1 hk with q | q
  ·have:=rm_len na q;rw [rm_no (d1 k q).1];omega
  ·have:=rm_len nb q;rw [rm_no (fun z=>(d1 k z).1 q)];omega
 refine ⟨_,x.fr1 k,rfl,e2,⟨h.n1,h.n2,h.ms,h.tg,⟨r',rfl,hR'⟩,?_,?_,?_⟩⟩
 ·show (TL.rm x.a k).length+(k::TL.rm x.b k).length≤n;simp;omega
 ·show (TL.rm x.a k).length+(TL.rm x.c k).length≤n;omega
 ·show (TL.rm x.a k).length+(k::TL.rm x.b k).length+(TL.rm x.c k).length+(TL.rm x.d k).length≤2*n;simp;omega
theorem AE.touch_no(h:AE n t x){k:Str}(hk:k∉x.kept):B5 t k=some (false,t):=by
 unfold B5
 rw [h.Has,ob_,if_pos (by simp [hk])]
theorem AE.dtouch(h:AE n t x)(k:Str):∃t' x',B5 t k=some (decide (k∈x.kept),t')∧CX (AD n t.target x) k=some (AD n t'.target x',decide (k∈x.kept))∧AE n t' x':=by
 unfold CX
 rw [h.dHas,ob_]
 by_cases hk:k∈x.kept
 ·obtain ⟨t',x',e1,e2,h'⟩:=h.touch hk
  rw [if_neg (by simp [hk]),e2,ob_,decide_eq_true hk]
  exact ⟨t',x',e1,rfl,h'⟩
 ·rw [if_pos (by simp [hk]),decide_eq_false hk]
  exact ⟨t,x,h.touch_no hk,rfl,h⟩
theorem AE.dremove(h:AE n t x)(k:Str):∃t' x',DD t k=some (decide (k∈x.kept),t')∧CM (AD n t.target x) k=some (AD n t'.target x',decide (k∈x.kept))∧AE n t' x':=by
 obtain ⟨r,hr,hR⟩:=h.rg
 have:=h.n2
 obtain ⟨r',e,hR'⟩:=hR.dropA (by omega) (by omega) k
 unfold DD CM
 rw [h.Has,ob_,hr,om_some,e,ob_,h.dHas,ob_,show AG (AD n t.target x).R k=_ from h.ddrop k _,ob_]
 exact ⟨_,x.drop k,rfl,rfl,h.gone (x:=x) hR'⟩
def Rep(n:Nat)(t:Aq)(x:AL)(e:Option (List Str×Aq))(f:Option (Aa×List Str)):Prop :=
 ∃o t' x',e=some ([o],t')∧f=some (AD n t.target x',[o])∧t'.target=t.target∧AE n t' x'∧x'.a.length+x'.b.length+1=x.a.length+x.b.length∧x'.a.length+x'.c.length≤x.a.length+x.c.length ∧
  x'.a.length+x'.b.length+x'.c.length+x'.d.length=x.a.length+x.b.length+x.c.length+x.d.length∧(∀k,k∈x'.all↔k∈x.all)∧∀k,k∈x'.kept→k∈x.kept
theorem AE.repA(h:AE n t x){r:Aj}(hr:t.r=some r)(hR:RR 4 (2*n+1) r x.L)(hna:x.a≠[]):
  Rep n t x ((AF r 0).bind fun r21=>if !r21.2 then some ([],t) else (Ax r 2 r21.1).bind fun r25=>some ([r21.1],(⟨t.most,t.target,(some r25.2)⟩:Aq)))
   ((Ay (AD n t.target x).R 0).bind fun r12=>if !r12.2 then some (AD n t.target x,[]) else (AB (AD n t.target x) (i64 (0+2)) r12.1).bind fun r16=>some (r16,[r12.1])):=by
 obtain ⟨na,nb,nc,nd,d1,d2,d3⟩:=all_dj h.nd
 have b1:=h.b1;have b2:=h.b2;have b3:=h.b3;have hn:=h.n2
 have k0:=hR.BackA (i:=0) (l:=x.a) rfl
 have q0:=h.dback (i:=0) (l:=x.a) rfl ((2*n+1:Nat):Int)
 have om:=List.getLast_mem hna
 rw [List.getLast?_eq_some_getLast hna] at k0 q0
 generalize x.a.getLast hna=o at k0 q0 om
 have oall:o∈x.all:=mem_all.2 (.inl om)
 obtain ⟨r',e,hR'⟩:=h.front hR (h.kl o oall) (j:=2) (by omega)
 have hR':RR 4 (2*n+1) r' (x.fr2 o).L:=hR'
 have q1:=h.dfront (g:=t.target) (h.kl o oall) (j:=2) (by omega)
 have ra:=rm_len na om
 have rb:TL.rm x.b o=x.b:=rm_no (d1 o om).1
 have rc:TL.rm x.c o=x.c:=rm_no (d1 o om).2.1
 have rd:TL.rm x.d o=x.d:=rm_no (d1 o om).2.2
 rw [show AF r 0=_ from k0,ob_,if_neg (by simp),show Ax r 2 o=_ from e,ob_,
  show Ay (AD n t.target x).R 0=_ from q0,ob_,if_neg (by simp),show i64 (0+2)=((2:Nat):Int) from rfl,q1,ob_]
 have e2:x.fr2 o=⟨TL.rm x.a o,x.b,o::x.c,x.d⟩:=by unfold AL.fr2;rw [rb,rc,rd]
 have e3:frK x.L 2 o=AL.L ⟨TL.rm x.a o,x.b,o::x.c,x.d⟩:=by rw [←e2];rfl
 rw [e2] at hR'
 refine ⟨o,_,⟨TL.rm x.a o,x.b,o::x.c,x.d⟩,rfl,by rw [e3],rfl,⟨h.n1,h.n2,h.ms,h.tg,⟨r',rfl,hR'⟩,?_,?_,?_⟩,?_,?_,?_,fun k =>?_,fun k hk =>?_⟩
 ·dsimp only;omega
 ·simp only [List.length_cons];omega
 ·simp only [List.length_cons];omega
 ·dsimp only;omega
 ·simp only [List.length_cons];omega
 ·simp only [List.length_cons];omega
 ·rw [mem_all,mem_all]
  simp only [List.mem_cons,rm_mem]
  by_cases ek:k=o
  ·subst ek;simp [om]
  ·simp [ek]
 ·rw [mem_kept] at hk ⊢
  exact hk.imp (fun q=>(rm_mem.1 q).1) id
theorem AE.repB(h:AE n t x){r:Aj}(hr:t.r=some r)(hR:RR 4 (2*n+1) r x.L)(hnb:x.b≠[]):
  Rep n t x ((AF r 1).bind fun r21=>if !r21.2 then some ([],t) else (Ax r 3 r21.1).bind fun r25=>some ([r21.1],(⟨t.most,t.target,(some r25.2)⟩:Aq)))
   ((Ay (AD n t.target x).R 1).bind fun r12=>if !r12.2 then some (AD n t.target x,[]) else (AB (AD n t.target x) (i64 (1+2)) r12.1).bind fun r16=>some (r16,[r12.1])):=by
 obtain ⟨na,nb,nc,nd,d1,d2,d3⟩:=all_dj h.nd
 have b1:=h.b1;have b2:=h.b2;have b3:=h.b3;have hn:=h.n2
 have k1:=hR.BackA (i:=1) (l:=x.b) rfl
 have q0:=h.dback (i:=1) (l:=x.b) rfl ((2*n+1:Nat):Int)
 have om:=List.getLast_mem hnb
 rw [List.getLast?_eq_some_getLast hnb] at k1 q0
 generalize x.b.getLast hnb=o at k1 q0 om
 have oall:o∈x.all:=mem_all.2 (.inr (.inl om))
 obtain ⟨r',e,hR'⟩:=h.front hR (h.kl o oall) (j:=3) (by omega)
 have hR':RR 4 (2*n+1) r' (x.fr3 o).L:=hR'
 have q1:=h.dfront (g:=t.target) (h.kl o oall) (j:=3) (by omega)
 have rbl:=rm_len nb om
 have ra:TL.rm x.a o=x.a:=rm_no (fun z=>(d1 o z).1 om)
 have rc:TL.rm x.c o=x.c:=rm_no (d2 o om).1
 have rd:TL.rm x.d o=x.d:=rm_no (d2 o om).2
 rw [show AF r 1=_ from k1,ob_,if_neg (by simp),show Ax r 3 o=_ from e,ob_,
  show Ay (AD n t.target x).R 1=_ from q0,ob_,if_neg (by simp),show i64 (1+2)=((3:Nat):Int) from rfl,q1,ob_]
 have e2:x.fr3 o=⟨x.a,TL.rm x.b o,x.c,o::x.d⟩:=by unfold AL.fr3;rw [ra,rc,rd]
 have e3:frK x.L 3 o=AL.L ⟨x.a,TL.rm x.b o,x.c,o::x.d⟩:=by rw [←e2];rfl
 rw [e2] at hR'
 refine ⟨o,_,⟨x.a,TL.rm x.b o,x.c,o::x.d⟩,rfl,by rw [e3],rfl,⟨h.n1,h.n2,h.ms,h.tg,⟨r',rfl,hR'⟩,?_,?_,?_⟩,?_,?_,?_,fun k =>?_,fun k hk =>?_⟩
 ·dsimp only;omega
 ·dsimp only;omega
 ·simp only [List.length_cons];omega
 ·dsimp only;omega
 ·dsimp only;omega
 ·simp only [List.length_cons];omega
 ·rw [mem_all,mem_all]
  simp only [List.mem_cons,rm_mem]
  by_cases ek:k=o
  ·subst ek;simp [om]
  ·simp [ek]
 ·rw [mem_kept] at hk ⊢
  exact hk.imp id fun q=>(rm_mem.1 q).1
theorem AE.replace(h:AE n t x)(w:Bool)(hne:x.kept≠[]):Rep n t x (Bq t w) (AO (AD n t.target x) w):=by
 obtain ⟨r,hr,hR⟩:=h.rg
 have l0:=hR.Len (i:=0) (l:=x.a) rfl
 have l1:=hR.Len (i:=1) (l:=x.b) rfl
 have A:=h.repA hr hR
 have B:=h.repB hr hR
 unfold Bq AO
 rw [hr,om_some,show Aw r 0=_ from l0,ob_,dlen (l:=x.a) 0 rfl,ob_]
 dsimp only
 by_cases ha:x.a=[]
 ·have hb:x.b≠[]:=by intro q;apply hne;unfold AL.kept;rw [ha,q];rfl
  rw [if_neg (by rw [ha];decide),if_neg (by rw [ha];decide)]
  simp only [ob_,Bool.false_eq_true,if_false]
  exact B hb
 ·have hap:0<x.a.length:=List.length_pos_iff.2 ha
  have hp:decide ((0:Int)<(x.a.length:Int))=true:=by simpa using hap
  rw [if_pos hp,if_pos hp]
  have hdec:(Option.bind (if decide (t.target<(x.a.length:Int)) then some true else Option.bind (if w then Option.bind (if ((x.a.length:Int)==t.target) then some true else (Az (AD n t.target x) 1).bind fun r47=>some (r47==0)) fun p41=>some p41 else (Az (AD n t.target x) 1).bind fun r49=>some (r49==0)) fun p35=>some p35) fun p29=>some p29) =
    some ((decide (t.target<(x.a.length:Int))||(w&&((x.a.length:Int)==t.target)))||((x.b.length:Int)==0)):=by
   rw [dlen (l:=x.b) 1 rfl]
   cases decide (t.target<(x.a.length:Int)) <;> cases w <;> cases ((x.a.length:Int)==t.target) <;> rfl
  rw [hdec,ob_]
  by_cases c1:(decide (t.target<(x.a.length:Int))||(w&&((x.a.length:Int)==t.target)))=true
  ·rw [if_pos c1,c1]
   simp only [ob_,if_true,Bool.true_or]
   exact A ha
  ·rw [if_neg c1,show Aw r 1=_ from l1,eq_false_of_ne_true c1,Bool.false_or]
   by_cases hb:x.b=[]
   ·rw [hb]
    simp only [ob_,List.length_nil]
    exact A ha
   ·have hbp:((x.b.length:Int)==0)=false:=by
     have:0<x.b.length:=List.length_pos_iff.2 hb
     simp;omega
    simp only [ob_,hbp,Bool.false_eq_true,if_false]
    exact B hb
theorem AE.devict(h:AE n t x):∃o b t' x',DC t=some (o,b,t')∧CZ (AD n t.target x)=some (AD n t'.target x',o,b)∧AE n t' x':=by
 unfold DC CZ
 rw [h.Len,ob_,h.dLen,ob_]
 by_cases hk:x.kept=[]
 ·have:=congrArg List.length hk
  unfold AL.kept at this
  simp at this
  rw [this.1,this.2]
  exact ⟨[],false,t,x,rfl,rfl,h⟩
 ·have:x.a.length+x.b.length≠0:=by
   intro q;apply hk;unfold AL.kept
   rw [List.length_eq_zero_iff.1 (show x.a.length=0 by omega),List.length_eq_zero_iff.1 (show x.b.length=0 by omega)];rfl
  rw [if_neg (by simp;omega),if_neg (by simp;omega)]
  obtain ⟨o,t',x',e1,e2,e3,h',_⟩:=h.replace false hk
  rw [e1,e2,ob_,ob_]
  exact ⟨o,true,t',x',rfl,by rw [e3];rfl,h'⟩
end
def dTgt(a0:Aa)(r17 r21 r23:Int):Option Int :=
 if (r17==2) then if r21≠0 then Option.bind (if decide ((i64 (r23.tdiv r21))<1) then some 1 else some (i64 (r23.tdiv r21))) fun p65=>Option.bind (if decide (a0.Most<(i64 (a0.Target+p65))) then some a0.Most else some (i64 (a0.Target+p65))) fun p69=>some p69 else none else if r23≠0 then Option.bind (if decide ((i64 (r21.tdiv r23))<1) then some 1 else some (i64 (r21.tdiv r23))) fun p79=>Option.bind (if decide ((i64 (a0.Target-p79))<0) then some 0 else some (i64 (a0.Target-p79))) fun p83=>some p83 else none
def dAg2(a0:Aa)(a1:Str)(r17 p25:Int):Option (Aa×List Str) :=
 (AS (⟨a0.Most,p25,a0.R⟩:Aa)).bind fun r29=>Option.bind (if decide (a0.Most≤r29) then (AO (⟨a0.Most,p25,a0.R⟩:Aa) (r17==3)).bind fun r52=>some (r52.2,r52.1) else some ([],(⟨a0.Most,p25,a0.R⟩:Aa))) fun p31=>(AB p31.2 1 a1).bind fun r42=>some (r42,p31.1)
def dAgain(a0:Aa)(a1:Str)(r17:Int):Option (Aa×List Str) :=
 (Az a0 2).bind fun r21=>(Az a0 3).bind fun r23=>(dTgt a0 r17 r21 r23).bind fun p25=>dAg2 a0 a1 r17 p25
section
variable {n:Nat} {t:Aq} {x:AL} {g:Int} {k:Str}
theorem AE.dforget(h:AE n t x){i:Nat}{l:List Str}(hl:x.L[i]? = some l):AY (AD n g x) (i:Int)=some (AD n g (match l.getLast? with | some o=>x.drop o | none=>x)):=by
 unfold AY
 rw [show Ay (AD n g x).R (i:Int)=_ from h.dback hl _,ob_]
 cases l.getLast? with
 | none=>rfl
 | some o =>
  dsimp only
  rw [if_pos rfl,h.ddrop o,ob_]
theorem AE.forget2(h:AE n t x):∃t' x',B3 t 2=some t'∧AY (AD n t.target x) 2=some (AD n t'.target x')∧AE n t' x'∧x'.a=x.a∧x'.b=x.b∧x'.d=x.d∧x'.c.length=x.c.length-1∧∀k,k∈x'.all→k∈x.all:=by
 obtain ⟨r,hr,hR⟩:=h.rg
 obtain ⟨na,nb,nc,nd,d1,d2,d3⟩:=all_dj h.nd
 have hn:=h.n2
 have k2:=hR.BackA (i:=2) (l:=x.c) rfl
 have q:=h.dforget (g:=t.target) (i:=2) (l:=x.c) rfl
 unfold B3
 rw [hr,om_some]
 by_cases hc:x.c=[]
 ·rw [hc] at k2 q
  rw [show AF r 2=_ from k2,ob_,if_neg (by simp)]
  exact ⟨t,x,rfl,q,h,rfl,rfl,rfl,by rw [hc];rfl,fun _ q=>q⟩
 ·have om:=List.getLast_mem hc
  rw [List.getLast?_eq_some_getLast hc] at k2 q
  generalize x.c.getLast hc=o at k2 om q
  obtain ⟨r',e,hR'⟩:=hR.dropA (by omega) (by omega) o
  rw [show AF r 2=_ from k2,ob_,if_pos rfl,e,ob_]
  have rl:=rm_len nc om
  refine ⟨_,x.drop o,rfl,q,h.gone (x:=x) hR',rm_no (fun z=>(d1 o z).2.1 om),rm_no (fun z=>(d2 o z).1 om),rm_no (d3 o om),?_,fun k hk =>?_⟩
  ·show (TL.rm x.c o).length=_;omega
  ·rw [mem_all] at hk ⊢
   simp only [AL.drop,rm_mem] at hk
   rcases hk with q | q | q | q
   ·exact .inl q.1
   ·exact .inr (.inl q.1)
   ·exact .inr (.inr (.inl q.1))
   ·exact .inr (.inr (.inr q.1))
theorem AE.forget3(h:AE n t x):∃t' x',B3 t 3=some t'∧AY (AD n t.target x) 3=some (AD n t'.target x')∧AE n t' x'∧x'.a=x.a∧x'.b=x.b∧x'.c=x.c∧x'.d.length=x.d.length-1∧∀k,k∈x'.all→k∈x.all:=by
 obtain ⟨r,hr,hR⟩:=h.rg
 obtain ⟨na,nb,nc,nd,d1,d2,d3⟩:=all_dj h.nd
 have hn:=h.n2
 have k2:=hR.BackA (i:=3) (l:=x.d) rfl
 have q:=h.dforget (g:=t.target) (i:=3) (l:=x.d) rfl
 unfold B3
 rw [hr,om_some]
 by_cases hc:x.d=[]
 ·rw [hc] at k2 q
  rw [show AF r 3=_ from k2,ob_,if_neg (by simp)]
  exact ⟨t,x,rfl,q,h,rfl,rfl,rfl,by rw [hc];rfl,fun _ q=>q⟩
 ·have om:=List.getLast_mem hc
  rw [List.getLast?_eq_some_getLast hc] at k2 q
  generalize x.d.getLast hc=o at k2 om q
  obtain ⟨r',e,hR'⟩:=hR.dropA (by omega) (by omega) o
  rw [show AF r 3=_ from k2,ob_,if_pos rfl,e,ob_]
  have rl:=rm_len nd om
  refine ⟨_,x.drop o,rfl,q,h.gone (x:=x) hR',rm_no (fun z=>(d1 o z).2.2 om),rm_no (fun z=>(d2 o z).2 om),rm_no (fun z=>d3 o z om),?_,fun k hk =>?_⟩
  ·show (TL.rm x.d o).length=_;omega
  ·rw [mem_all] at hk ⊢
   simp only [AL.drop,rm_mem] at hk
   rcases hk with q | q | q | q
   ·exact .inl q.1
   ·exact .inr (.inl q.1)
   ·exact .inr (.inr (.inl q.1))
   ·exact .inr (.inr (.inr q.1))
theorem AE.fr0(h:AE n t x){k:Str}(hk:k∉x.all)(h64:k.length≤64)(b1:x.a.length+x.b.length+1≤n)(b2:x.a.length+x.c.length+1≤n)(b3:x.a.length+x.b.length+x.c.length+x.d.length+1≤2*n)(g:List Str):
  ∃t',(om t.r (none) fun x53=>(Ax x53 0 k).bind fun r61=>some (g,(⟨t.most,t.target,(some r61.2)⟩:Aq)))=some (g,t')∧t'.target=t.target∧AE n t' ⟨k::x.a,x.b,x.c,x.d⟩∧AB (AD n t.target x) 0 k=some (AD n t.target ⟨k::x.a,x.b,x.c,x.d⟩):=by
 obtain ⟨r,hr,hR⟩:=h.rg
 obtain ⟨r',e,hR'⟩:=h.front hR h64 (j:=0) (by omega)
 have hR':RR 4 (2*n+1) r' (x.fr0 k).L:=hR'
 have q:k∉x.a∧k∉x.b∧k∉x.c∧k∉x.d:=by rw [mem_all] at hk;simpa using hk
 have e2:x.fr0 k=⟨k::x.a,x.b,x.c,x.d⟩:=by unfold AL.fr0;rw [rm_no q.1,rm_no q.2.1,rm_no q.2.2.1,rm_no q.2.2.2]
 have q2:=h.dfront (g:=t.target) h64 (j:=0) (by omega)
 have e3:frK x.L 0 k=AL.L ⟨k::x.a,x.b,x.c,x.d⟩:=by rw [←e2];rfl
 rw [e3] at q2
 rw [e2] at hR'
 rw [hr,om_some,show Ax r 0 k=_ from e,ob_]
 refine ⟨_,rfl,rfl,⟨h.n1,h.n2,h.ms,h.tg,⟨r',rfl,hR'⟩,?_,?_,?_⟩,q2⟩
 ·simp only [List.length_cons];omega
 ·simp only [List.length_cons];omega
 ·simp only [List.length_cons];omega
theorem AE.target(h:AE n t x){p:Int}(hp:0≤p∧p≤(n:Int)):AE n ⟨t.most,p,t.r⟩ x:=⟨h.n1,h.n2,h.ms,hp,h.rg,h.b1,h.b2,h.b3⟩
theorem AE.again(h:AE n t x){k:Str}(hk:k∈x.c∨k∈x.d):∃g t' x',DN t k (if k∈x.c then 2 else 3)=some (g,t')∧dAgain (AD n t.target x) k (if k∈x.c then 2 else 3)=some (AD n t'.target x',g)∧AE n t' x'∧g.length≤1:=by
 obtain ⟨r,hr,hR⟩:=h.rg
 obtain ⟨na,nb,nc,nd,d1,d2,d3⟩:=all_dj h.nd
 have b1:=h.b1;have b2:=h.b2;have b3:=h.b3;have hn:=h.n2;have hn1:=h.n1
 have tg:=h.tg
 have l2:=hR.Len (i:=2) (l:=x.c) rfl
 have l3:=hR.Len (i:=3) (l:=x.d) rfl
 have hkall:k∈x.all:=mem_all.2 (.inr (.inr hk))
 have hkn:k∉x.kept:=by
  rw [mem_kept]
  rintro (q | q)
  ·rcases hk with z | z
   ·exact (d1 k q).2.1 z
   ·exact (d1 k q).2.2 z
  ·rcases hk with z | z
   ·exact (d2 k q).1 z
   ·exact (d2 k q).2 z
 have k64:=h.kl k hkall
 have T:∃p:Int,(if ((if k∈x.c then (2:Int) else 3)==2) then if (x.c.length:Int)≠0 then some (if (i64 (t.target+(if 1<(i64 ((x.d.length:Int).tdiv (x.c.length:Int))) then i64 ((x.d.length:Int).tdiv (x.c.length:Int)) else 1)))<t.most then i64 (t.target+(if 1<(i64 ((x.d.length:Int).tdiv (x.c.length:Int))) then i64 ((x.d.length:Int).tdiv (x.c.length:Int)) else 1)) else t.most) else none
   else if (x.d.length:Int)≠0 then some (if 0<(i64 (t.target-(if 1<(i64 ((x.c.length:Int).tdiv (x.d.length:Int))) then i64 ((x.c.length:Int).tdiv (x.d.length:Int)) else 1))) then i64 (t.target-(if 1<(i64 ((x.c.length:Int).tdiv (x.d.length:Int))) then i64 ((x.c.length:Int).tdiv (x.d.length:Int)) else 1)) else 0) else none)=some p∧dTgt (AD n t.target x) (if k∈x.c then (2:Int) else 3) (x.c.length:Int) (x.d.length:Int)=some p∧0≤p∧p≤(n:Int):=by
  unfold dTgt
  by_cases hc:k∈x.c
  ·have hcp:0<x.c.length:=List.length_pos_of_mem hc
   have z1:((2:Int)==2)=true:=rfl
   have z2:(x.c.length:Int)≠0:=by omega
   rw [if_pos hc,if_pos z1,if_pos z2,if_pos z1,if_pos z2]
   obtain ⟨q,hq,hq2⟩:=tdv (a:=x.d.length) hcp (by omega)
   rw [hq,h.ms]
   dsimp only
   have hs:∃s:Nat,(if (1:Int)<(q:Int) then (q:Int) else 1)=(s:Int)∧(if decide ((q:Int)<1)=true then some (1:Int) else some (q:Int))=some (s:Int)∧s≤2001∧1≤s:=by
    by_cases c:1<q
    ·exact ⟨q,if_pos (by omega),if_neg (by simp;omega),by omega,by omega⟩
    ·by_cases c2:q=1
     ·subst c2;exact ⟨1,rfl,rfl,by omega,by omega⟩
     ·exact ⟨1,if_neg (by omega),if_pos (by simp;omega),by omega,by omega⟩
   obtain ⟨s,hs,hs',hs2,hs3⟩:=hs
   rw [hs,hs',ob_,i64s (t.target+(s:Int)) (by omega) (by omega)]
   by_cases c:t.target+(s:Int)<(n:Int)
   ·rw [if_pos c,if_neg (by simp;omega)];exact ⟨_,rfl,rfl,by omega,by omega⟩
   ·rw [if_neg c]
    by_cases c2:(n:Int)<t.target+(s:Int)
    ·rw [if_pos (by simpa using c2)];exact ⟨_,rfl,rfl,by omega,by omega⟩
    ·rw [if_neg (by simpa using c2)];exact ⟨_,rfl,by rw [show t.target+(s:Int)=(n:Int) by omega];rfl,by omega,by omega⟩
  ·have hd:=hk.resolve_left hc
   have hdp:0<x.d.length:=List.length_pos_of_mem hd
   have z1:¬((3:Int)==2)=true:=by decide
   have z2:(x.d.length:Int)≠0:=by omega
   rw [if_neg hc,if_neg z1,if_pos z2,if_neg z1,if_pos z2]
   obtain ⟨q,hq,hq2⟩:=tdv (a:=x.c.length) hdp (by omega)
   rw [hq]
   dsimp only
   have hs:∃s:Nat,(if (1:Int)<(q:Int) then (q:Int) else 1)=(s:Int)∧(if decide ((q:Int)<1)=true then some (1:Int) else some (q:Int))=some (s:Int)∧s≤2001∧1≤s:=by
    by_cases c:1<q
    ·exact ⟨q,if_pos (by omega),if_neg (by simp;omega),by omega,by omega⟩
    ·by_cases c2:q=1
     ·subst c2;exact ⟨1,rfl,rfl,by omega,by omega⟩
     ·exact ⟨1,if_neg (by omega),if_pos (by simp;omega),by omega,by omega⟩
   obtain ⟨s,hs,hs',hs2,hs3⟩:=hs
   rw [hs,hs',ob_,i64s (t.target-(s:Int)) (by omega) (by omega)]
   by_cases c:0<t.target-(s:Int)
   ·rw [if_pos c,if_neg (by simp;omega)];exact ⟨_,rfl,rfl,by omega,by omega⟩
   ·rw [if_neg c]
    by_cases c2:t.target-(s:Int)<0
    ·rw [if_pos (by simp;omega)];exact ⟨_,rfl,rfl,by omega,by omega⟩
    ·rw [if_neg (by simp;omega)];exact ⟨_,rfl,by rw [show t.target-(s:Int)=0 by omega];rfl,by omega,by omega⟩
 obtain ⟨p,hp,hpd,hp2⟩:=T
 have FR:∀(t':Aq) (x':AL) (g:List Str),AE n t' x'→k∈x'.all→k∉x'.kept→x'.a.length+x'.b.length+1≤n→∃t'' x'',(om t'.r (none) fun x30=>(Ax x30 1 k).bind fun r38=>some (g,(⟨t'.most,t'.target,(some r38.2)⟩:Aq)))=some (g,t'')∧((AB (AD n t'.target x') 1 k).bind fun r42=>some (r42,g))=some (AD n t''.target x'',g)∧AE n t'' x'':=by
  intro t' x' g h' hm hkk hb
  obtain ⟨r1,hr1,hR1⟩:=h'.rg
  obtain ⟨r',e,hR'⟩:=h'.front hR1 k64 (j:=1) (by omega)
  have hR':RR 4 (2*n+1) r' (x'.fr1 k).L:=hR'
  have q1:=h'.dfront (g:=t'.target) k64 (j:=1) (by omega)
  obtain ⟨na',nb',nc',nd',_,_,d3'⟩:=all_dj h'.nd
  have qa:k∉x'.a:=fun z=>hkk (mem_kept.2 (.inl z))
  have qb:k∉x'.b:=fun z=>hkk (mem_kept.2 (.inr z))
  have qcd:k∈x'.c∨k∈x'.d:=by rw [mem_all] at hm;simpa [qa,qb] using hm
  rw [hr1,om_some,show Ax r1 1 k=_ from e,ob_,show AB (AD n t'.target x') 1 k=_ from q1,ob_]
  have lc:=rm_le x'.c k
  have ld:=rm_le x'.d k
  have c3:=h'.b3;have c2:=h'.b2
  have hs:(TL.rm x'.c k).length+(TL.rm x'.d k).length+1=x'.c.length+x'.d.length:=by
   rcases qcd with q | q
   ·have:=rm_len nc' q;rw [rm_no (d3' k q)];omega
   ·have:=rm_len nd' q;rw [rm_no (fun z=>d3' k z q)];omega
  refine ⟨_,x'.fr1 k,rfl,rfl,⟨h'.n1,h'.n2,h'.ms,h'.tg,⟨r',rfl,hR'⟩,?_,?_,?_⟩⟩
  ·show (TL.rm x'.a k).length+(k::TL.rm x'.b k).length≤n;rw [rm_no qa,rm_no qb];simp;omega
  ·show (TL.rm x'.a k).length+(TL.rm x'.c k).length≤n;rw [rm_no qa];omega
  ·show (TL.rm x'.a k).length+(k::TL.rm x'.b k).length+(TL.rm x'.c k).length+(TL.rm x'.d k).length≤2*n;rw [rm_no qa,rm_no qb];simp;omega
 unfold DN dAgain
 rw [hr,om_some,show Aw r 2=_ from l2,ob_,show Aw r 3=_ from l3,ob_,hp,ob_,dlen (l:=x.c) 2 rfl,ob_,dlen (l:=x.d) 3 rfl,ob_,hpd,ob_]
 have hT:=h.target hp2
 rw [hr] at hT
 unfold dAg2
 rw [hT.Len,ob_,h.ms]
 rw [h.ms] at hT
 dsimp only
 rw [show AS _=_ from hT.dLen (g:=p),ob_]
 by_cases c1:n≤x.a.length+x.b.length
 ·have c1':decide ((n:Int)≤((x.a.length+x.b.length:Nat):Int))=true:=by simp;omega
  rw [if_pos c1',if_pos c1']
  have hne:x.kept≠[]:=by intro q;have:=congrArg List.length q;unfold AL.kept at this;simp at this;rw [this.1,this.2] at c1;simp at c1;omega
  obtain ⟨o,t',x',e,ed,et,h',e1,e2,e3,e4,e5⟩:=hT.replace ((if k∈x.c then (2:Int) else 3)==3) hne
  dsimp only at ed et
  rw [e,ob_,ob_,show AO _ _=_ from ed,ob_,ob_]
  dsimp only
  obtain ⟨t'',x'',ef,efd,h''⟩:=FR t' x' [o] h' ((e4 k).2 hkall) (fun z=>hkn (e5 k z)) (by omega)
  rw [et] at efd
  exact ⟨[o],t'',x'',ef,efd,h'',by simp⟩
 ·have c1':¬decide ((n:Int)≤((x.a.length+x.b.length:Nat):Int))=true:=by simp;omega
  rw [if_neg c1',if_neg c1',ob_,ob_]
  dsimp only
  obtain ⟨t'',x'',ef,efd,h''⟩:=FR _ x [] hT hkall hkn (by omega)
  exact ⟨[],t'',x'',ef,efd,h'',by simp⟩
end
section
variable {n:Nat} {t:Aq} {x:AL}
theorem AE.dinsert(h:AE n t x)(k:Str):∃g t' x',CJ t k=some (g,t')∧BU (AD n t.target x) k=some (AD n t'.target x',g)∧AE n t' x'∧g.length≤1:=by
 by_cases h64:64<k.length
 ·unfold CJ BU
  have c:decide ((64:Int)<(k.length:Int))=true:=by simp;omega
  rw [if_pos c,if_pos c]
  exact ⟨[],t,x,rfl,rfl,h,by simp⟩
 have h64:k.length≤64:=by omega
 have c64:¬decide ((64:Int)<(k.length:Int))=true:=by simp;omega
 by_cases hk:k∈x.kept
 ·obtain ⟨t',x',e,ed,h'⟩:=h.touch hk
  unfold CJ BU
  rw [if_neg c64,if_neg c64,e,ob_,ob_,if_pos rfl,h.dHas,ob_,if_pos (by simp [hk]),ed,ob_]
  exact ⟨[],t',x',rfl,rfl,h',by simp⟩
 obtain ⟨r,hr,hR⟩:=h.rg
 obtain ⟨na,nb,nc,nd,d1,d2,d3⟩:=all_dj h.nd
 have b1:=h.b1;have b2:=h.b2;have b3:=h.b3;have hn:=h.n2;have hn1:=h.n1
 have l0:=hR.Len (i:=0) (l:=x.a) rfl
 have l1:=hR.Len (i:=1) (l:=x.b) rfl
 have l2:=hR.Len (i:=2) (l:=x.c) rfl
 have l3:=hR.Len (i:=3) (l:=x.d) rfl
 have et:(⟨t.most,t.target,some r⟩:Aq)=t:=by rw [←hr]
 unfold CJ BU
 rw [if_neg c64,if_neg c64,h.touch_no hk,ob_,ob_,if_neg (by simp),h.dHas,ob_,if_neg (by simp [hk])]
 dsimp only
 rw [hr,om_some,et,show AP ⟨x.L,_⟩ k=_ from h.dIn _ k,ob_]
 have ka:k∉x.a:=fun q=>hk (mem_kept.2 (.inl q))
 have kb:k∉x.b:=fun q=>hk (mem_kept.2 (.inr q))
 rw [if_neg ka,if_neg kb]
 by_cases hcd:k∈x.c∨k∈x.d
 ·have hin:BK r k=some ((if k∈x.c then (2:Int) else 3),true):=by
   by_cases hc:k∈x.c
   ·rw [if_pos hc];exact hR.in_some (i:=2) rfl hc
   ·rw [if_neg hc];exact hR.in_some (i:=3) rfl (hcd.resolve_left hc)
  have hid:(if k∈x.c then ((2:Int),true) else if k∈x.d then (3,true) else (0,false))=((if k∈x.c then (2:Int) else 3),true):=by
   by_cases hc:k∈x.c
   ·rw [if_pos hc,if_pos hc]
   ·rw [if_neg hc,if_neg hc,if_pos (hcd.resolve_left hc)]
  rw [hin,ob_,if_pos rfl,hid,if_pos rfl]
  obtain ⟨g,t',x',e,ed,h',hg⟩:=h.again hcd
  rw [e,ob_]
  exact ⟨g,t',x',rfl,ed,h',hg⟩
 ·have kc:k∉x.c:=fun q=>hcd (.inl q)
  have kd:k∉x.d:=fun q=>hcd (.inr q)
  have hall:k∉x.all:=by rw [mem_all];simp [ka,kb,kc,kd]
  rw [hR.in_none (by rw [afl];exact hall),ob_,if_neg (by simp),if_neg kc,if_neg kd,if_neg (by simp),show Aw r 0=_ from l0,ob_,show Aw r 2=_ from l2,ob_,show Aw r 1=_ from l1,ob_,show Aw r 3=_ from l3,ob_,
   dlen (l:=x.a) 0 rfl,ob_,dlen (l:=x.c) 2 rfl,ob_,h.dLen,ob_,dlen (l:=x.d) 3 rfl,ob_]
  have s1:i64 ((x.a.length:Int)+(x.c.length:Int))=((x.a.length+x.c.length:Nat):Int):=by rw [i64s _ (by omega) (by omega)];omega
  have s2:i64 (((x.a.length+x.c.length:Nat):Int)+(x.b.length:Int))=((x.a.length+x.c.length+x.b.length:Nat):Int):=by rw [i64s _ (by omega) (by omega)];omega
  have s3:i64 (((x.a.length+x.c.length+x.b.length:Nat):Int)+(x.d.length:Int))=((x.a.length+x.c.length+x.b.length+x.d.length:Nat):Int):=by rw [i64s _ (by omega) (by omega)];omega
  have s4:i64 (2*(n:Int))=((2*n:Nat):Int):=by rw [i64s _ (by omega) (by omega)];omega
  have s5:i64 (((x.a.length+x.b.length:Nat):Int)+(x.c.length:Int))=((x.a.length+x.c.length+x.b.length:Nat):Int):=by rw [i64s _ (by omega) (by omega)];omega
  rw [s1,s2,s3,s5,s3,h.ms,s4]
  clear s1 s2 s3 s4 s5
  have RP:∀(t1:Aq) (x1:AL),AE n t1 x1→k∉x1.all→x1.a.length+x1.c.length+1≤n→x1.a.length+x1.b.length+x1.c.length+x1.d.length+1≤2*n →
    ∃g t2 x2,((CG t1).bind fun r76=>Option.bind (if decide (t1.most≤r76) then (Bq t1 false).bind fun r89=>some (r89.1,r89.2) else some ([],t1)) fun p78=>some (p78.1,p78.2))=some (g,t2) ∧
     ((AS (AD n t1.target x1)).bind fun r134=>if decide ((n:Int)≤r134) then (AO (AD n t1.target x1) false).bind fun r138=>(AB r138.1 0 k).bind fun r147=>some (r147,r138.2) else (AB (AD n t1.target x1) 0 k).bind fun r155=>some (r155,[]))=((AB (AD n t2.target x2) 0 k).bind fun r=>some (r,g)) ∧
     AE n t2 x2∧k∉x2.all∧x2.a.length+x2.b.length+1≤n∧x2.a.length+x2.c.length+1≤n∧x2.a.length+x2.b.length+x2.c.length+x2.d.length+1≤2*n∧g.length≤1:=by
   intro t1 x1 h1 hk1 q2 q3
   have qb:=h1.b1
   rw [h1.Len,ob_,h1.ms,h1.dLen,ob_]
   by_cases c1:n≤x1.a.length+x1.b.length
   ·have c1':decide ((n:Int)≤((x1.a.length+x1.b.length:Nat):Int))=true:=by simp;omega
    rw [if_pos c1',if_pos c1']
    have hne:x1.kept≠[]:=by intro q;have:=congrArg List.length q;unfold AL.kept at this;simp at this;rw [this.1,this.2] at c1;simp at c1;omega
    obtain ⟨o,t',x',e,ed,eg,h',e1,e2,e3,e4,e5⟩:=h1.replace false hne
    rw [e,ob_,ob_,ed,ob_]
    exact ⟨[o],t',x',rfl,by rw [eg],h',fun z=>hk1 ((e4 k).1 z),by omega,by omega,by omega,by simp⟩
   ·have c1':¬decide ((n:Int)≤((x1.a.length+x1.b.length:Nat):Int))=true:=by simp;omega
    rw [if_neg c1',if_neg c1',ob_]
    exact ⟨[],t1,x1,rfl,rfl,h1,hk1,by omega,q2,q3,by simp⟩
  have FIN:∀(g:List Str) (t2:Aq) (x2:AL),AE n t2 x2→k∉x2.all→x2.a.length+x2.b.length+1≤n→x2.a.length+x2.c.length+1≤n→x2.a.length+x2.b.length+x2.c.length+x2.d.length+1≤2*n→g.length≤1 →
    ∃g' t' x',(om t2.r (none) fun x53=>(Ax x53 0 k).bind fun r61=>some (g,(⟨t2.most,t2.target,(some r61.2)⟩:Aq)))=some (g',t')∧((AB (AD n t2.target x2) 0 k).bind fun r=>some (r,g))=some (AD n t'.target x',g')∧AE n t' x'∧g'.length≤1:=by
   intro g t2 x2 h2 k2 q1 q2 q3 hg
   obtain ⟨t',e,eg,h',ed⟩:=h2.fr0 k2 h64 q1 q2 q3 g
   refine ⟨g,t',_,e,?_,h',hg⟩
   rw [ed,ob_,eg]
  by_cases c1:n≤x.a.length+x.c.length
  ·have c1':decide ((n:Int)≤((x.a.length+x.c.length:Nat):Int))=true:=by simp;omega
   simp only [c1',↓reduceIte,ob_]
   by_cases c2:x.a.length<n
   ·
    rw [if_pos (by simp;omega),if_neg (by simp;omega)]
    obtain ⟨t1,x1,e1,ed,h1,ea,eb,ee,ec,em⟩:=h.forget2
    rw [e1,ob_,ed,ob_]
    obtain ⟨g,t2,x2,e2,e3,h2,k2,q1,q2,q3,hg⟩:=RP t1 x1 h1 (fun z=>hall (em k z)) (by rw [ea,ec];omega) (by rw [ea,eb,ee,ec];omega)
    rw [e2,ob_,e3]
    exact FIN g t2 x2 h2 k2 q1 q2 q3 hg
   ·
    have hlen:x.a.length=n:=by omega
    have hna:x.a≠[]:=by intro q;rw [q] at hlen;simp at hlen;omega
    have k0:=hR.BackA (i:=0) (l:=x.a) rfl
    have kq:=h.dback (i:=0) (l:=x.a) rfl ((2*n+1:Nat):Int)
    have kf:=h.dforget (g:=t.target) (i:=0) (l:=x.a) rfl
    have om:=List.getLast_mem hna
    rw [List.getLast?_eq_some_getLast hna] at k0 kq kf
    generalize x.a.getLast hna=o at k0 kq kf om
    rw [if_neg (by simp;omega),show AF r 0=_ from k0,ob_,if_pos (by simp;omega),show Ay ⟨x.L,_⟩ 0=_ from kq,ob_,show AY _ 0=_ from kf,ob_]
    obtain ⟨r',e,hR'⟩:=hR.dropA (by omega) (by omega) o
    dsimp only
    rw [e,ob_,ob_,ob_]
    have h2:=h.gone (x:=x) hR'
    rw [h.ms] at h2
    have rl:=rm_len na om
    refine FIN [o] _ (x.drop o) h2 (fun z=>hall ?_) ?_ ?_ ?_ (by simp)
    ·rw [mem_all] at z ⊢
     simp only [AL.drop,rm_mem] at z
     rcases z with q | q | q | q
     ·exact .inl q.1
     ·exact .inr (.inl q.1)
     ·exact .inr (.inr (.inl q.1))
     ·exact .inr (.inr (.inr q.1))
    ·show (TL.rm x.a o).length+(TL.rm x.b o).length+1≤n;have:=rm_le x.b o;omega
    ·show (TL.rm x.a o).length+(TL.rm x.c o).length+1≤n;have:=rm_le x.c o;omega
    ·show (TL.rm x.a o).length+(TL.rm x.b o).length+(TL.rm x.c o).length+(TL.rm x.d o).length+1≤2*n
     have:=rm_le x.b o;have:=rm_le x.c o;have:=rm_le x.d o;omega
  ·have c1':decide ((n:Int)≤((x.a.length+x.c.length:Nat):Int))=false:=by simp;omega
   simp only [c1',↓reduceIte,ob_,Bool.false_eq_true]
   by_cases c3:n≤x.a.length+x.c.length+x.b.length+x.d.length
   ·have c3':decide ((n:Int)≤((x.a.length+x.c.length+x.b.length+x.d.length:Nat):Int))=true:=by simp;omega
    rw [if_pos c3',if_pos c3']
    by_cases c4:2*n≤x.a.length+x.c.length+x.b.length+x.d.length
    ·have c4':decide (((2*n:Nat):Int)≤((x.a.length+x.c.length+x.b.length+x.d.length:Nat):Int))=true:=by simp;omega
     rw [if_pos c4',if_pos c4']
     obtain ⟨t1,x1,e1,ed,h1,ea,eb,ec,ee,em⟩:=h.forget3
     rw [e1,ob_,ob_,ed,ob_,ob_]
     obtain ⟨g,t2,x2,e2,e3,h2,k2,q1,q2,q3,hg⟩:=RP t1 x1 h1 (fun z=>hall (em k z)) (by rw [ea,ec];omega) (by rw [ea,eb,ee,ec];omega)
     rw [e2,ob_,ob_,ob_,e3]
     exact FIN g t2 x2 h2 k2 q1 q2 q3 hg
    ·have c4':¬decide (((2*n:Nat):Int)≤((x.a.length+x.c.length+x.b.length+x.d.length:Nat):Int))=true:=by simp;omega
     rw [if_neg c4',if_neg c4',ob_,ob_]
     obtain ⟨g,t2,x2,e2,e3,h2,k2,q1,q2,q3,hg⟩:=RP t x h hall (by omega) (by omega)
     rw [e2,ob_,ob_,ob_,e3]
     exact FIN g t2 x2 h2 k2 q1 q2 q3 hg
   ·have c3':¬decide ((n:Int)≤((x.a.length+x.c.length+x.b.length+x.d.length:Nat):Int))=true:=by simp;omega
    rw [if_neg c3',if_neg c3',ob_,ob_,ob_]
    exact FIN [] t x h hall (by omega) (by omega) (by omega) (by simp)
end
end Go.Proofs.YtpanhdnglicknaaGreat.Pure
namespace Go.Proofs.YtpanhdnglicknaaGreat.Pure
open Go Go.Proofs.YtpanhdnglicknaaGreat.Hw Go.Proofs.YtpanhdnglicknaaGreat
def enc:Nat→Nat→Str
 | 0,_=>[]
 | f+1,n=>if n<128 then [UInt8.ofNat n] else UInt8.ofNat (n%128+128)::enc f (n/128)
theorem enc_len:∀(f n:Nat),(enc f n).length≤f
 | 0,_=>by simp [enc]
 | f+1,n=>by
  have:=enc_len f (n/128)
  unfold enc
  split <;> simp <;> omega
theorem byte_hi(n:UInt64):((n%128).toUInt8)+128=UInt8.ofNat (n.toNat%128+128):=by
 apply UInt8.toNat_inj.1
 have e:(128:UInt8).toNat=128:=by decide
 have e2:(128:UInt64).toNat=128:=by decide
 rw [UInt8.toNat_add,UInt64.toNat_toUInt8,UInt64.toNat_mod,UInt8.toNat_ofNat',e,e2]
 omega
theorem byte_hi'(n:UInt64):(128+(n%128)).toUInt8=UInt8.ofNat (n.toNat%128+128):=by
 apply UInt8.toNat_inj.1
 have e2:(128:UInt64).toNat=128:=by decide
 rw [UInt64.toNat_toUInt8,UInt64.toNat_add,UInt64.toNat_mod,UInt8.toNat_ofNat',e2]
 omega
theorem byte_lo(n:UInt64):n.toUInt8=UInt8.ofNat n.toNat:=by
 apply UInt8.toNat_inj.1
 rw [UInt64.toNat_toUInt8,UInt8.toNat_ofNat']
theorem div128(n:UInt64):(n/128).toNat=n.toNat/128:=by
 have e2:(128:UInt64).toNat=128:=by decide
 rw [UInt64.toNat_div,e2]
theorem ge128(n:UInt64):(decide (128≤n))=decide (128≤n.toNat):=by
 have e2:(128:UInt64).toNat=128:=by decide
 rw [decide_eq_decide,UInt64.le_iff_toNat_le,e2]
theorem gt127(n:UInt64):(decide (127<n))=decide (128≤n.toNat):=by
 have e2:(127:UInt64).toNat=127:=by decide
 rw [decide_eq_decide,UInt64.lt_iff_toNat_lt,e2]
 exact Iff.rfl
theorem wnum_loop:∀(f:Nat) (n:UInt64) (c:Str),n.toNat<128^(f+1)→c.length+f≤1000 →
  ∃m c',DT (f+1) n c=some (m,c')∧B9 (f+1) n c=some (m,c')∧c'++[UInt8.ofNat m.toNat]=c++enc (f+1) n.toNat∧c'.length≤c.length+f:=by
 intro f
 induction f with
 | zero =>
  intro n c hn hl
  have h:¬128≤n.toNat:=by simpa using hn
  have e:decide (128≤n.toNat)=false:=by simpa using h
  refine ⟨n,c,?_,?_,?_,by omega⟩
  ·unfold DT;rw [ge128,e];rfl
  ·unfold B9;rw [gt127,e];rfl
  ·unfold enc;rw [if_pos (by omega)]
 | succ f ih =>
  intro n c hn hl
  by_cases h:128≤n.toNat
  ·have e:decide (128≤n.toNat)=true:=by simpa using h
   have hd:(n/128).toNat<128^(f+1):=by
    rw [div128]
    rw [Nat.pow_succ] at hn
    exact Nat.div_lt_of_lt_mul (by rw [Nat.mul_comm];exact hn)
   obtain ⟨m,c',h1,h2,h3,h4⟩:=ih (n/128) (c++[UInt8.ofNat (n.toNat%128+128)]) hd (by simp;omega)
   refine ⟨m,c',?_,?_,?_,by simp at h4;omega⟩
   ·unfold DT
    rw [ge128,e,if_pos rfl,byte_hi]
    have ha:apd 1 c [UInt8.ofNat (n.toNat%128+128)]=some (c++[UInt8.ofNat (n.toNat%128+128)]):=by
     unfold apd
     rw [if_pos (by simp;omega)]
    rw [ha,ob_]
    exact h1
   ·unfold B9
    rw [gt127,e,if_pos rfl,byte_hi',if_pos (by simp [maxS];omega)]
    exact h2
   ·rw [h3,div128]
    conv=>rhs;unfold enc
    rw [if_neg (by omega)]
    simp
  ·have e:decide (128≤n.toNat)=false:=by simpa using h
   refine ⟨n,c,?_,?_,?_,by omega⟩
   ·unfold DT;rw [ge128,e];rfl
   ·unfold B9;rw [gt127,e];rfl
   ·unfold enc;rw [if_pos (by omega)]
theorem num_enc(n:UInt64):AJ n=some (enc 11 n.toNat)∧AC n=some (enc 11 n.toNat):=by
 have hn:n.toNat<128^(10+1):=Nat.lt_of_lt_of_le n.toNat_lt (by decide)
 obtain ⟨m,c',h1,h2,h3,h4⟩:=wnum_loop 10 n [] hn (by simp)
 rw [List.nil_append] at h3
 constructor
 ·unfold AJ
  have h1':DT 11 n []=some (m,c'):=h1
  rw [h1',ob_]
  dsimp only
  rw [byte_lo]
  have ha:apd 1 c' [UInt8.ofNat m.toNat]=some (c'++[UInt8.ofNat m.toNat]):=by
   unfold apd
   rw [if_pos (by simp at h4 ⊢;omega)]
  rw [ha,ob_,h3]
 ·unfold AC
  have h2':B9 11 n []=some (m,c'):=h2
  rw [h2',ob_]
  dsimp only
  rw [byte_lo,if_pos (by simp [maxS] at h4 ⊢;omega),h3]
end Go.Proofs.YtpanhdnglicknaaGreat.Pure
namespace Go.Proofs.YtpanhdnglicknaaGreat.Pure
open Go Go.Proofs.YtpanhdnglicknaaGreat.Hw Go.Proofs.YtpanhdnglicknaaGreat
theorem toY_nat(x:UInt8):toY ((x.toNat:Nat):Int)=x:=by
 unfold toY
 apply UInt8.toNat_inj.1
 have:=x.toNat_lt
 simp only [UInt8.toNat_ofNat']
 omega
def bits(d:List Bool):Str:=d.map fun b=>if b then 1 else 0
theorem flag_c(b:Bool):D7 b=[if b then 1 else 0]:=by cases b <;> rfl
theorem flag_m(b:Bool):Dk b=[if b then 1 else 0]:=by cases b <;> rfl
theorem Eo(d:List Bool)(k:Nat)(h:k<d.length):bits (d.drop k)=[if d[k] then 1 else 0]++bits (d.drop (k+1)):=by
 unfold bits
 rw [List.drop_eq_getElem_cons h,List.map_cons];rfl
theorem exp_door(S:An)(d:List Bool)(hd:S.door=d)(hl:d.length≤4096):∀(f k:Nat) (out:Str),f=d.length-k+1→k≤d.length→out.length+(d.length-k)≤100000 →
  Cs S f out (k:Int)=some (out++bits (d.drop k)):=by
 intro f
 induction f with
 | zero=>intro k out h;omega
 | succ f ih =>
  intro k out hf hk ho
  unfold Cs
  rw [hd]
  by_cases h:k<d.length
  ·have ei:i64 ((k:Int)+1)=((k+1:Nat):Int):=by rw [i64_id] <;> omega
   rw [if_pos (by rw [decide_eq_true_eq];omega),gN h,ob_,flag_c,if_pos (by simp [maxS];omega),ei,ih (k+1) _ (by omega) (by omega) (by simp;omega),Eo d k h,List.append_assoc]
  ·obtain rfl:k=d.length:=by omega
   rw [if_neg (by rw [decide_eq_true_eq];omega),List.drop_length]
   simp [bits]
theorem put_door(S:Ad)(d:List Bool)(hd:S.Door=d)(hw:S.Wide=(d.length:Int))(hl:d.length≤4096):∀(f k:Nat) (out:Str),f=d.length-k+1→k≤d.length→out.length+(d.length-k)≤100000 →
  BP S f out (k:Int)=some (out++bits (d.drop k)):=by
 intro f
 induction f with
 | zero=>intro k out h;omega
 | succ f ih =>
  intro k out hf hk ho
  unfold BP
  rw [hd,hw]
  by_cases h:k<d.length
  ·have ei:i64 ((k:Int)+1)=((k+1:Nat):Int):=by rw [i64_id] <;> omega
   rw [if_pos (by rw [decide_eq_true_eq];omega),gN h,ob_,flag_m,if_pos (by simp [maxS];omega),ei,ih (k+1) _ (by omega) (by omega) (by simp;omega),Eo d k h,List.append_assoc]
  ·obtain rfl:k=d.length:=by omega
   rw [if_neg (by rw [decide_eq_true_eq];omega),List.drop_length]
   simp [bits]
theorem put_row(S:Ad)(i:Int)(r:List UInt8)(hr:gi S.Rows i=some (N8 r))(hw:S.Wide=(r.length:Int))(hl:r.length≤4096):∀(f k:Nat) (out:Str),f=r.length-k+1→k≤r.length→out.length+(r.length-k)≤100000 →
  A7 S i f out (k:Int)=some (out++r.drop k):=by
 intro f
 induction f with
 | zero=>intro k out h;omega
 | succ f ih =>
  intro k out hf hk ho
  unfold A7
  rw [hw]
  by_cases h:k<r.length
  ·have ei:i64 ((k:Int)+1)=((k+1:Nat):Int):=by rw [i64_id] <;> omega
   rw [if_pos (by rw [decide_eq_true_eq];omega),hr,ob_,gN8 h,ob_,toY_nat,if_pos (by simp [maxS];omega),ei,ih (k+1) _ (by omega) (by omega) (by simp;omega),List.drop_eq_getElem_cons h,List.append_assoc]
   rfl
  ·obtain rfl:k=r.length:=by omega
   rw [if_neg (by rw [decide_eq_true_eq];omega),List.drop_length,List.append_nil]
def Sk.bytes(s:Sk)(w:Nat)(seed:UInt64):Str:=(((((enc 11 (toW (w:Int)).toNat++enc 11 seed.toNat++enc 11 (toW (s.n:Int)).toNat)++s.a)++s.b)++s.c)++s.e)++bits s.d
section
variable {w:Nat} {seed:UInt64} {s:Sk} (h2:w≤4096) (hs:s.ok w)
include h2 hs
theorem exp_rows(out:Str)(ho:out.length≤100):Bn (s.C w seed) 5 out 0=some ((((out++s.a)++s.b)++s.c)++s.e):=by
 have ha:=hs.ha;have hb:=hs.hb;have hc:=hs.hc;have he:=hs.he
 unfold Bn
 rw [if_pos (by decide),show gi (s.C w seed).rows 0=_ from g0 ..,ob_,if_pos (by simp [maxS];omega),j0]
 unfold Bn
 rw [if_pos (by decide),show gi (s.C w seed).rows 1=_ from g1 ..,ob_,if_pos (by simp [maxS];omega),j1]
 unfold Bn
 rw [if_pos (by decide),show gi (s.C w seed).rows 2=_ from g2 ..,ob_,if_pos (by simp [maxS];omega),j2]
 unfold Bn
 rw [if_pos (by decide),show gi (s.C w seed).rows 3=_ from g3 ..,ob_,if_pos (by simp [maxS];omega),j3]
 unfold Bn
 rw [if_neg (by decide)]
theorem put_rows(out:Str)(ho:out.length≤100):A8 (s.M w seed) 5 out 0=some ((((out++s.a)++s.b)++s.c)++s.e):=by
 have ha:=hs.ha;have hb:=hs.hb;have hc:=hs.hc;have he:=hs.he
 have R:=fun (i:Int) (r:List UInt8) (hr:gi (s.M w seed).Rows i=some (N8 r)) (hl:r.length=w) (o:Str) (hlo:o.length≤20000) =>
  put_row (s.M w seed) i r hr (by rw [hl]) (by omega) ((((w:Nat):Int)-0).toNat+1) 0 o (by omega) (by omega) (by omega)
 simp only [List.drop_zero] at R
 unfold A8
 rw [if_pos (by decide),show A7 (s.M w seed) 0 (((s.M w seed).Wide-0).toNat+1) out 0=_ from R 0 s.a (g0 ..) ha _ (by omega),ob_,ob_,j0]
 unfold A8
 rw [if_pos (by decide),show A7 (s.M w seed) 1 (((s.M w seed).Wide-0).toNat+1) _ 0=_ from R 1 s.b (g1 ..) hb _ (by simp;omega),ob_,ob_,j1]
 unfold A8
 rw [if_pos (by decide),show A7 (s.M w seed) 2 (((s.M w seed).Wide-0).toNat+1) _ 0=_ from R 2 s.c (g2 ..) hc _ (by simp;omega),ob_,ob_,j2]
 unfold A8
 rw [if_pos (by decide),show A7 (s.M w seed) 3 (((s.M w seed).Wide-0).toNat+1) _ 0=_ from R 3 s.e (g3 ..) he _ (by simp;omega),ob_,ob_,j3]
 unfold A8
 rw [if_neg (by decide)]
theorem Exp_c:Do (s.C w seed)=some (s.bytes w seed):=by
 have ha:=hs.ha;have hb:=hs.hb;have hc:=hs.hc;have he:=hs.he;have hd:=hs.hd
 have l1:=enc_len 11 (toW (w:Int)).toNat
 have l2:=enc_len 11 seed.toNat
 have l3:=enc_len 11 (toW (s.n:Int)).toNat
 unfold Do
 dsimp only
 rw [(num_enc _).1,ob_,(num_enc _).1,ob_,(num_enc _).1]
 unfold Sk.bytes
 generalize enc 11 (toW (w:Int)).toNat=x1 at l1 ⊢
 generalize enc 11 seed.toNat=x2 at l2 ⊢
 generalize enc 11 (toW (s.n:Int)).toNat=x3 at l3 ⊢
 rw [if_pos (by simp [maxS];omega),ob_,if_pos (by simp [maxS];omega),exp_rows h2 hs _ (by simp;omega),ob_]
 have D:=exp_door (s.C w seed) s.d rfl (by omega) (((s.d.length:Int)-0).toNat+1) 0 (((((x1++x2++x3)++s.a)++s.b)++s.c)++s.e) (by omega) (by omega) (by simp;omega)
 rw [show Cs (s.C w seed) (((s.d.length:Int)-0).toNat+1) _ 0=_ from D,ob_,List.drop_zero]
theorem Put_m:CQ (s.M w seed)=some (s.bytes w seed):=by
 have ha:=hs.ha;have hb:=hs.hb;have hc:=hs.hc;have he:=hs.he;have hd:=hs.hd
 have l1:=enc_len 11 (toW (w:Int)).toNat
 have l2:=enc_len 11 seed.toNat
 have l3:=enc_len 11 (toW (s.n:Int)).toNat
 unfold CQ
 dsimp only
 rw [(num_enc _).2,ob_,(num_enc _).2,ob_,(num_enc _).2]
 unfold Sk.bytes
 generalize enc 11 (toW (w:Int)).toNat=x1 at l1 ⊢
 generalize enc 11 seed.toNat=x2 at l2 ⊢
 generalize enc 11 (toW (s.n:Int)).toNat=x3 at l3 ⊢
 rw [if_pos (by simp [maxS];omega),ob_,if_pos (by simp [maxS];omega),put_rows h2 hs _ (by simp;omega),ob_]
 have D:=put_door (s.M w seed) s.d rfl (by rw [hd]) (by omega) (((w:Int)-0).toNat+1) 0 (((((x1++x2++x3)++s.a)++s.b)++s.c)++s.e) (by omega) (by omega) (by simp;omega)
 rw [show BP (s.M w seed) (((w:Int)-0).toNat+1) _ 0=_ from D,ob_,List.drop_zero]
end
theorem toW_len(n:Nat)(h:n≤100000):(toW (n:Int)).toNat=n:=by
 unfold toW
 rw [UInt64.toNat_ofNat']
 omega
theorem text_bytes(u:Str)(h:u.length≤100000):Dw u=some (enc 11 u.length++u)∧Bv u=some (enc 11 u.length++u):=by
 obtain ⟨e1,e2⟩:=num_enc (toW (u.length:Int))
 rw [toW_len _ h] at e1 e2
 have hl:=enc_len 11 u.length
 have hm:(enc 11 u.length).length+u.length≤maxS:=by unfold maxS;omega
 unfold Dw Bv
 rw [e1,e2,ob_,if_pos hm]
 exact ⟨rfl,rfl⟩
def tb(u:Str):Str:=enc 11 u.length++u
def kb(l:List Str):Str:=l.flatMap tb
def lb(l:List Str):Str:=enc 11 l.length++kb l
def rb(k m:Nat)(L:List (List Str)):Str:=(enc 11 k++enc 11 m)++L.flatMap lb
theorem kb_le:∀{l:List Str},(∀u∈l,u.length≤64)→(kb l).length≤75*l.length
 | [],_=>by simp [kb]
 | u::l,h=>by
  have h1:=kb_le (l:=l) fun v hv=>h v (List.mem_cons_of_mem _ hv)
  have h2:=h u (List.mem_cons_self ..)
  have h3:=enc_len 11 u.length
  have:kb (u::l)=tb u++kb l:=rfl
  rw [this,List.length_append]
  unfold tb
  rw [List.length_append,List.length_cons];omega
theorem lb_le:∀{L:List (List Str)},(∀u∈L.flatten,u.length≤64)→(L.flatMap lb).length≤75*L.flatten.length+11*L.length
 | [],_=>by simp
 | l::L,h=>by
  have h1:=lb_le (L:=L) fun v hv=>h v (by simp only [List.flatten_cons,List.mem_append];exact .inr hv)
  have h2:=kb_le (l:=l) fun v hv=>h v (by simp only [List.flatten_cons,List.mem_append];exact .inl hv)
  have h3:=enc_len 11 l.length
  simp only [List.flatMap_cons,List.flatten_cons,List.length_append,List.length_cons]
  unfold lb
  rw [List.length_append]
  unfold lb at h1
  omega
theorem txts_ok:∀(l:List Str) (c:Str),(∀u∈l,u.length≤64)→c.length+(kb l).length≤maxS→DS l c=some (c++kb l)
 | [],c,_,_=>by simp [DS,kb]
 | u::l,c,h,hb=>by
  have e:kb (u::l)=tb u++kb l:=rfl
  rw [e,List.length_append] at hb
  rw [DS,(text_bytes u (by have:=h u (List.mem_cons_self ..);omega)).1,ob_]
  change (if c.length+(tb u).length≤maxS then DS l (c++tb u) else none)=_
  rw [if_pos (by omega),txts_ok l _ (fun v hv=>h v (List.mem_cons_of_mem _ hv)) (by rw [List.length_append];omega),e,List.append_assoc]
theorem num_c(j:Nat)(h:j≤100000):AJ (toW (j:Int))=some (enc 11 j):=by have:=(num_enc (toW (j:Int))).1;rwa [toW_len _ h] at this
theorem num_r(j:Nat)(h:j≤100000):AC (toW (j:Int))=some (enc 11 j):=by have:=(num_enc (toW (j:Int))).2;rwa [toW_len _ h] at this
section
variable {k m:Nat} {r:Aj} {L:List (List Str)}
theorem RR.lists(h:RR k m r L):r.lists=(k:Int):=by obtain ⟨P,f,h,rfl⟩:=h;exact h.hl
theorem RR.slots(h:RR k m r L):r.slots.length=k+m:=by obtain ⟨P,f,h,rfl⟩:=h;exact h.co.len
theorem RR.many(h:RR k m r L){i:Nat}{l:List Str}(hl:L[i]? = some l):gi r.many (i:Int)=some (l.length:Int):=by
 obtain ⟨P,f,h,rfl⟩:=h
 obtain ⟨Q,hQ,rfl⟩:=keys_get hl
 rw [h.co.mn,lens_get hQ,List.length_map]
theorem RR.mem(h:RR k m r L){i:Nat}{l:List Str}(hl:L[i]? = some l):∀u∈l,u.length≤64:=fun u hu=>h.kl u (List.mem_flatten.2 ⟨l,List.mem_of_getElem? hl,hu⟩)
theorem RR.ll(h:RR k m r L){i:Nat}{l:List Str}(hl:L[i]? = some l):l.length≤m:=by
 have h1:=h.tot
 obtain ⟨U,V,rfl,_⟩:=dec hl
 simp at h1
 omega
theorem exp_l0(h:RR k m r L)(hk:k≤8)(hm:m≤4096):∀(f i:Nat) (c:Str),k-i<f→i≤k→c.length+((L.drop i).flatMap lb).length≤maxS →
  C4 r f (i:Int) c=some (c++(L.drop i).flatMap lb)
 | 0,i,c,hf,_,_=>by omega
 | f+1,i,c,hf,hi,hc=>by
  have hL:=h.len
  unfold C4
  rw [h.lists]
  rcases Nat.lt_or_ge i k with h1 | h1
  ·have hl:L[i]? = some L[i]:=List.getElem?_eq_getElem (by omega)
   have hll:=h.ll hl
   rw [List.drop_eq_getElem_cons (by omega),List.flatMap_cons,List.length_append] at hc
   have e:(lb L[i]).length=(enc 11 L[i].length).length+(kb L[i]).length:=by unfold lb;rw [List.length_append]
   rw [if_pos (by simp;exact h1),h.many hl,ob_,num_c _ (by omega),ob_,if_pos (by omega),h.Keys hl,ob_,txts_ok _ _ (h.mem hl) (by rw [List.length_append];omega),ob_,i64n i (by omega),
    exp_l0 h hk hm f (i+1) _ (by omega) (by omega) (by rw [List.length_append,List.length_append];omega),List.drop_eq_getElem_cons (i:=i) (by omega),List.flatMap_cons]
   simp only [lb,List.append_assoc]
  ·rw [if_neg (by simp;omega),List.drop_eq_nil_of_le (by omega)];simp
theorem RR.size(h:RR k m r L)(hk:k≤8)(hm:m≤4096):(L.flatMap lb).length≤307300:=by
 have:=lb_le h.kl
 have:=h.tot
 have:=h.len
 omega
theorem RR.Export(h:RR k m r L)(hk:k≤8)(hm:m≤4096):Dd r=some (rb k m L):=by
 have hs:=h.size hk hm
 have e1:=enc_len 11 k
 have e2:=enc_len 11 m
 have hM:400000≤maxS:=by decide
 unfold Dd
 rw [h.lists,h.slots,num_c k (by omega),ob_,i64s _ (by omega) (by omega),show (((k+m:Nat):Int)-(k:Int))=(m:Int) by omega,num_c m (by omega),ob_,if_pos (by omega)]
 have:=exp_l0 h hk hm (((k:Int)-0).toNat+1) 0 (enc 11 k++enc 11 m) (by omega) (by omega) (by rw [List.length_append,List.drop_zero];omega)
 rw [show ((0:Nat):Int)=0 from rfl] at this
 rw [this];rfl
end
section
variable {L:List (List Str)}
theorem rput_l1(l:List Str)(hm:l.length≤100000)(hu:∀u∈l,u.length≤64):∀(f j:Nat) (c:Str),l.length-j<f→j≤l.length→c.length+(kb (l.drop j)).length≤maxS →
  BW l f c (j:Int)=some (c++kb (l.drop j))
 | 0,j,c,hf,_,_=>by omega
 | f+1,j,c,hf,hj,hc=>by
  unfold BW
  rcases Nat.lt_or_ge j l.length with h1 | h1
  ·have e:kb (l.drop j)=tb l[j]++kb (l.drop (j+1)):=by rw [List.drop_eq_getElem_cons h1];rfl
   rw [e,List.length_append] at hc
   rw [if_pos (by simp;exact h1),giC,List.getElem?_eq_getElem h1,ob_,(text_bytes l[j] (by have:=hu _ (List.getElem_mem h1);omega)).2,ob_]
   change (if c.length+(tb l[j]).length≤maxS then BW l f (c++tb l[j]) (i64 ((j:Int)+1)) else none)=_
   rw [if_pos (by omega),i64n j (by omega),rput_l1 l hm hu f (j+1) _ (by omega) (by omega) (by rw [List.length_append];omega),e,List.append_assoc]
  ·rw [if_neg (by simp;omega),List.drop_eq_nil_of_le h1];simp [kb]
theorem rput_l0(p:Int)(hL:L.length≤1000)(hb:∀l∈L,l.length≤100000)(hu:∀u∈L.flatten,u.length≤64):∀(f i:Nat) (c:Str),L.length-i<f→i≤L.length→c.length+((L.drop i).flatMap lb).length≤maxS →
  Cr ⟨L,p⟩ f c (i:Int)=some (c++(L.drop i).flatMap lb)
 | 0,i,c,hf,_,_=>by omega
 | f+1,i,c,hf,hi,hc=>by
  unfold Cr
  rcases Nat.lt_or_ge i L.length with h1 | h1
  ·have hm:=List.getElem_mem h1
   rw [List.drop_eq_getElem_cons h1,List.flatMap_cons,List.length_append] at hc
   have e:(lb L[i]).length=(enc 11 L[i].length).length+(kb L[i]).length:=by unfold lb;rw [List.length_append]
   have hp:=rput_l1 L[i] (hb _ hm) (fun u hv=>hu u (List.mem_flatten.2 ⟨_,hm,hv⟩)) (((L[i].length:Int)-0).toNat+1) 0 (c++enc 11 L[i].length) (by omega) (by omega) (by rw [List.length_append,List.drop_zero];omega)
   rw [show ((0:Nat):Int)=0 from rfl,List.drop_zero] at hp
   rw [if_pos (by simp;exact h1),show gi L (i:Int)=some L[i] by rw [giC];exact List.getElem?_eq_getElem h1,ob_,num_r _ (hb _ hm),ob_,if_pos (by omega),hp,ob_,ob_,i64n i (by omega),
    rput_l0 p hL hb hu f (i+1) _ (by omega) (by omega) (by rw [List.length_append,List.length_append];omega),List.drop_eq_getElem_cons h1,List.flatMap_cons]
   simp only [lb,List.append_assoc]
  ·rw [if_neg (by simp;omega),List.drop_eq_nil_of_le h1];simp
theorem rPut(m:Nat)(hm:m≤4096)(hL:L.length≤8)(ht:L.flatten.length≤m)(hu:∀u∈L.flatten,u.length≤64):Bp ⟨L,(m:Int)⟩=some (rb L.length m L):=by
 have hs:=lb_le hu
 have e1:=enc_len 11 L.length
 have e2:=enc_len 11 m
 have hM:400000≤maxS:=by decide
 have hb:∀l∈L,l.length≤100000:=fun l hl=>by
  obtain ⟨i,hi⟩:=List.mem_iff_getElem?.1 hl
  obtain ⟨U,V,rfl,_⟩:=dec hi
  simp at ht;omega
 unfold Bp
 dsimp only
 rw [num_r _ (by omega),ob_,num_r m (by omega),ob_,if_pos (by omega)]
 have:=rput_l0 (m:Int) (by omega) hb hu (((L.length:Int)-0).toNat+1) 0 (enc 11 L.length++enc 11 m) (by omega) (by omega) (by rw [List.length_append,List.drop_zero];omega)
 rw [show ((0:Nat):Int)=0 from rfl] at this
 rw [this];rfl
end
section
variable {n:Nat} {seed:UInt64} {t:Ao} {s:Sk} {x:TL} {k:Str}
def tbytes(n:Nat)(seed:UInt64)(s:Sk)(x:TL):Str:=(enc 11 n++s.bytes (wd n) seed)++rb 3 (n+1) x.L
theorem sk_size{w:Nat}(hs:s.ok w)(h2:w≤4096):(s.bytes w seed).length≤5*w+33:=by
 have e1:=enc_len 11 (toW (w:Int)).toNat
 have e2:=enc_len 11 seed.toNat
 have e3:=enc_len 11 (toW (s.n:Int)).toNat
 unfold Sk.bytes bits
 simp only [List.length_append,List.length_map,hs.ha,hs.hb,hs.hc,hs.he,hs.hd]
 omega
theorem rb_size(h:TR n seed t s x):(rb 3 (n+1) x.L).length≤400000:=by
 obtain ⟨r,hr,hR⟩:=h.rg
 have hn:=h.n2
 have:=hR.size (by omega) (by omega)
 have e1:=enc_len 11 3
 have e2:=enc_len 11 (n+1)
 unfold rb
 simp only [List.length_append]
 omega
theorem tsize(h:TR n seed t s x):(tbytes n seed s x).length≤450000:=by
 have e1:=enc_len 11 n
 have e2:=sk_size (seed:=seed) h.ok h.w2
 have e3:=rb_size h
 have w2:=h.w2
 unfold tbytes
 simp only [List.length_append];omega
theorem TR.Export(h:TR n seed t s x):DQ t=some (tbytes n seed s x):=by
 obtain ⟨r,hr,hR⟩:=h.rg
 have hn:=h.n2
 have e1:=enc_len 11 n
 have e2:=sk_size (seed:=seed) h.ok h.w2
 have e3:=rb_size h
 have w2:=h.w2
 have hM:500000≤maxS:=by decide
 unfold DQ tbytes
 rw [h.ms,num_c n (by omega),ob_,h.sk,om_some,Exp_c h.w2 h.ok,ob_,if_pos (by omega),hr,om_some,hR.Export (by omega) (by omega),ob_,if_pos (by rw [List.length_append];omega)]
theorem dPut(h:TR n seed t s x)(hn9:n≤900):C7 (TD n seed s x)=some (tbytes n seed s x):=by
 obtain ⟨r,hr,hR⟩:=h.rg
 have hn:=h.n2
 have e1:=enc_len 11 n
 have e2:=sk_size (seed:=seed) h.ok h.w2
 have e3:=rb_size h
 have w2:=h.w2
 have hM:500000≤maxS:=by decide
 have hb:=h.bn
 have hp:Bp ⟨x.L,((n+1:Nat):Int)⟩=some (rb 3 (n+1) x.L):=rPut (L:=x.L) (n+1) (by omega) (by simp) (by rw [fl_all,all_n];omega) (hR.kl)
 unfold C7 tbytes
 rw [num_r n (by omega),ob_,Put_m h.w2 h.ok,ob_,if_pos (by omega),hp,ob_,if_pos (by rw [List.length_append];omega)]
end
section
variable {n:Nat} {t:Aq} {x:AL}
def abytes(n g:Nat)(x:AL):Str:=(enc 11 n++enc 11 g)++rb 4 (2*n+1) x.L
theorem AE.gt(h:AE n t x):∃g:Nat,t.target=(g:Int)∧g≤n:=by
 obtain ⟨h1,h2⟩:=h.tg
 exact ⟨t.target.toNat,by omega,by omega⟩
theorem AE.rsize(h:AE n t x):(rb 4 (2*n+1) x.L).length≤400000:=by
 obtain ⟨r,hr,hR⟩:=h.rg
 have hn:=h.n2
 have:=hR.size (by omega) (by omega)
 have e1:=enc_len 11 4
 have e2:=enc_len 11 (2*n+1)
 unfold rb
 simp only [List.length_append]
 omega
theorem AE.Export(h:AE n t x){g:Nat}(hg:t.target=(g:Int))(hgn:g≤n):DY t=some (abytes n g x):=by
 obtain ⟨r,hr,hR⟩:=h.rg
 have hn:=h.n2
 have e1:=enc_len 11 n
 have e2:=enc_len 11 g
 have e3:=h.rsize
 have hM:500000≤maxS:=by decide
 unfold DY abytes
 rw [h.ms,hg,num_c n (by omega),ob_,num_c g (by omega),ob_,if_pos (by omega),hr,om_some,hR.Export (by omega) (by omega),ob_,if_pos (by rw [List.length_append];omega)]
theorem AE.dPut(h:AE n t x){g:Nat}(hgn:g≤n):De (AD n (g:Int) x)=some (abytes n g x):=by
 obtain ⟨r,hr,hR⟩:=h.rg
 have hn:=h.n2
 have e1:=enc_len 11 n
 have e2:=enc_len 11 g
 have e3:=h.rsize
 have e4:=h.fll
 have hM:500000≤maxS:=by decide
 have hp:Bp ⟨x.L,((2*n+1:Nat):Int)⟩=some (rb 4 (2*n+1) x.L):=rPut (L:=x.L) (2*n+1) (by omega) (by simp) (by omega) (hR.kl)
 unfold De abytes
 rw [num_r n (by omega),ob_,num_r g (by omega),ob_,if_pos (by omega),hp,ob_,if_pos (by rw [List.length_append];omega)]
theorem AE.size(h:AE n t x){g:Nat}: (abytes n g x).length≤400100:=by
 have e1:=enc_len 11 n
 have e2:=enc_len 11 g
 have e3:=h.rsize
 unfold abytes
 simp only [List.length_append];omega
end
end Go.Proofs.YtpanhdnglicknaaGreat.Pure
