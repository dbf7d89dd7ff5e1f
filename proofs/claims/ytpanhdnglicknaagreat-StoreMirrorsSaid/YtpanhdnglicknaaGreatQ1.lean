import Derived.Test.YtpanhdnglicknaaGreatW4
import Derived.Test.YtpanhdnglicknaaGreatQ0
set_option linter.unusedVariables false
set_option linter.unusedSectionVars false
set_option linter.unusedSimpArgs false
set_option maxRecDepth 100000
set_option maxHeartbeats 4000000
namespace Go.Proofs.YtpanhdnglicknaaGreat.Pure
open Go Go.Proofs.YtpanhdnglicknaaGreat.Hw Go.Proofs.YtpanhdnglicknaaGreat
theorem lastD{l:List Str}(h:l≠[]):l=l.dropLast++[l.getLastD []]:=by
 rw [List.getLastD_eq_getLast?,List.getLast?_eq_some_getLast h,Option.getD_some]
 exact (List.dropLast_concat_getLast h).symm
theorem lastD_mem{l:List Str}(h:l≠[]):l.getLastD []∈l:=by
 rw [List.getLastD_eq_getLast?,List.getLast?_eq_some_getLast h,Option.getD_some]
 exact List.getLast_mem h
theorem all_nd_a{x:TL}(h:x.all.Nodup):x.a.Nodup∧x.b.Nodup∧x.c.Nodup∧(∀k∈x.a,k∉x.b∧k∉x.c)∧∀k∈x.b,k∉x.c:=by
 unfold TL.all at h
 rw [List.nodup_append,List.nodup_append] at h
 obtain ⟨h1,⟨h2,h3,h4⟩,h5⟩:=h
 refine ⟨h1,h2,h3,fun k hk=>⟨fun q=>h5 k hk k (by simp [q]) rfl,fun q=>h5 k hk k (by simp [q]) rfl⟩,fun k hk q=>h4 k hk k q rfl⟩
section
variable {n:Nat} {seed:UInt64} {t:Af} {s:Sk} {x:TL}
theorem TR.add(h:TR n seed t s x){key:Str}(hk:key.length≤100000):Bu (s.C (wd n) seed) key=some ((ad (wd n) seed s key).C (wd n) seed):=Add_c h.w1 h.w2 h.ok (plc_ok h.w1 h.w2 hk)
theorem TR.adok(h:TR n seed t s x)(key:Str):(ad (wd n) seed s key).ok (wd n):=put_ok h.w1 h.ok
theorem TR.mk'(h:TR n seed t s x){key:Str}{r:Ab}{y:TL}(hR:RR 3 (n+1) r y.L)(b1:y.b.length+y.c.length+Wn n≤n)(b2:y.a.length≤Wn n)(b3:y.c.length≤Sf n):
  TR n seed ⟨t.most,some ((ad (wd n) seed s key).C (wd n) seed),some r⟩ (ad (wd n) seed s key) y :=
 ⟨h.n1,h.n2,h.ms,rfl,h.adok key,⟨r,rfl,hR⟩,b1,b2,b3⟩
theorem TR.touch_no(h:TR n seed t s x){k:Str}(hk:k∉x.all):BT t k=some (false,t):=by
 unfold BT
 rw [h.Has,Option.bind_some];simp [hk]
theorem TR.touch(h:TR n seed t s x){k:Str}(hk:k∈x.all):∃t',BT t k=some (true,t')∧TR n seed t' (ad (wd n) seed s k) (tch n x k)∧(tch n x k).all.Perm x.all:=by
 have h64:=h.kl k hk
 have hnd:=h.nd
 obtain ⟨na,nb,nc,d1,d2⟩:=all_nd_a hnd
 obtain ⟨r,hr,hR⟩:=h.rg
 have hn:=h.n2
 have hfl:k∈x.L.flatten:=by rw [fl_all];exact hk
 have e1:=h.bn
 unfold BT tch
 rw [h.Has,Option.bind_some,if_neg (by simp [hk]),h.sk,om_some,h.add (by omega),Option.bind_some,hr,om_some]
 by_cases ha:k∈x.a
 ·obtain ⟨r',e,hR'⟩:=hR.frontA (by omega) h64 (.inl hfl) (j:=0) (by omega)
  have pm:=perm_mem (fr0_all x k) hk hnd
  rw [hR.in_some (i:=0) rfl ha,Option.bind_some,if_pos (by simp),show Au r 0 k=_ from e,Option.bind_some,if_pos ha]
  refine ⟨_,rfl,h.mk' (y:=x.fr0 k) hR' ?_ ?_ ?_,pm⟩
  ·have:=rm_le x.b k;have:=rm_le x.c k;have:=h.bb
   show (TL.rm x.b k).length+(TL.rm x.c k).length+_≤n;omega
  ·show (k::TL.rm x.a k).length≤_
   have:=rm_len na ha;have:=h.ba;simp;omega
  ·exact Nat.le_trans (rm_le _ _) h.bc
 ·have hin:∃i:Nat,A5 r k=some (((i+1:Nat):Int),true):=by
   have:k∈x.b∨k∈x.c:=by unfold TL.all at hk;simpa [ha] using hk
   rcases this with q | q
   ·exact ⟨0,hR.in_some (i:=1) rfl q⟩
   ·exact ⟨1,hR.in_some (i:=2) rfl q⟩
  obtain ⟨i,hi⟩:=hin
  obtain ⟨r',e,hR'⟩:=hR.frontA (by omega) h64 (.inl hfl) (j:=2) (by omega)
  have hR2:RR 3 (n+1) r' (x.fr2 k).L:=hR'
  have pm:=perm_mem (fr2_all x k) hk hnd
  have nd2:(x.fr2 k).all.Nodup:=pm.nodup_iff.2 hnd
  have lc:=hR2.Len (i:=2) (l:=(x.fr2 k).c) rfl
  have b3:(x.fr2 k).c.length≤Sf n+1:=by
   show (k::TL.rm x.c k).length≤_
   have:=rm_le x.c k;have:=h.bc;simp;omega
  have b2:(x.fr2 k).a.length≤Wn n:=Nat.le_trans (rm_le _ _) h.ba
  have b1:(x.fr2 k).b.length+(x.fr2 k).c.length=x.b.length+x.c.length:=by
   have q1:=pm.length_eq
   have q2:(TL.rm x.a k).length=x.a.length:=by rw [rm_no ha]
   have q3:(x.fr2 k).a.length=x.a.length:=q2
   rw [all_n,all_n] at q1;unfold TL.n at q1;omega
  have hbb:=h.bb
  rw [hi,Option.bind_some,if_neg (by simp;omega),show Au r 2 k=_ from e,Option.bind_some,show Aq r' 2=_ from lc,Option.bind_some,h.ms,parts_c n hn h.n1,if_neg ha]
  by_cases hc:Sf n<(x.fr2 k).c.length
  ·rw [if_pos (by simpa using hc),if_pos hc]
   have hne:(x.fr2 k).c≠[]:=by intro q;rw [q] at hc;simp at hc
   have bk:=hR2.Back (i:=2) (l:=(x.fr2 k).c.dropLast) (x:=(x.fr2 k).c.getLastD []) (by show some (x.fr2 k).c=_;rw [←lastD hne])
   have zm:=lastD_mem hne
   generalize (x.fr2 k).c.getLastD []=z at bk zm
   have zall:z∈(x.fr2 k).all:=by unfold TL.all;simp [zm]
   have z64:z.length≤64:=hR2.kl z (by rw [fl_all];exact zall)
   obtain ⟨r3,e3,hR3⟩:=hR2.frontA (by omega) z64 (.inl (by rw [fl_all];exact zall)) (j:=1) (by omega)
   have pm3:=perm_mem (fr1_all (x.fr2 k) z) zall nd2
   rw [show Aw r' 2=_ from bk,Option.bind_some,show Au r' 1 z=_ from e3,Option.bind_some]
   refine ⟨_,rfl,?_,pm3.trans pm⟩
   have:=h.mk' (key:=k) (y:=(x.fr2 k).fr1 z) hR3 (by
    have q1:=pm3.length_eq
    have q2:((x.fr2 k).fr1 z).a.length=(x.fr2 k).a.length:=by
     show (TL.rm (x.fr2 k).a z).length=_
     rw [rm_no (fun q=>((all_nd_a nd2).2.2.2.1 z q).2 zm)]
    rw [all_n,all_n] at q1;unfold TL.n at q1;omega) (Nat.le_trans (rm_le _ _) b2) (by
    show (TL.rm (x.fr2 k).c z).length≤_
    have:=rm_len (all_nd_a nd2).2.2.1 zm;omega)
   rw [h.ms] at this;exact this
  ·rw [if_neg (by simpa using hc),if_neg hc]
   refine ⟨_,rfl,?_,pm⟩
   have:=h.mk' (key:=k) (y:=x.fr2 k) hR2 (by omega) b2 (by omega)
   rw [h.ms] at this;exact this
end
theorem new_t(n:Nat)(seed:UInt64)(h1:1≤n)(h2:n≤1000):∃t s,DB (n:Int) seed=some (some t,0)∧TR n seed t s ⟨[],[],[]⟩∧s=⟨List.replicate (wd n) 0,List.replicate (wd n) 0,List.replicate (wd n) 0,List.replicate (wd n) 0,List.replicate (wd n) false,0⟩:=by
 have w1:1≤wd n:=by unfold wd;omega
 have w2:wd n≤4096:=by unfold wd;omega
 obtain ⟨r,e,hR⟩:=new_ok 3 (n+1) (by omega) (by omega) (by omega)
 have e':CV 3 (i64 ((n:Int)+1))=some (some r,0):=by
  rw [i64s _ (by omega) (by omega)];exact e
 unfold DB
 rw [if_neg (by simp;omega),wide_c n h2,new_c (wd n) seed w1 w2,Option.bind_some,e',Option.bind_some]
 exact ⟨_,_,rfl,⟨h1,h2,rfl,rfl,zero_ok _ w1,⟨r,rfl,hR⟩,by have:=Wn_le h1;simpa using this,by simp,by simp⟩,rfl⟩
theorem fr0_new{x:TL}{k:Str}(hk:k∉x.all):x.fr0 k=⟨k::x.a,x.b,x.c⟩:=by
 unfold TL.all at hk
 simp only [List.mem_append,not_or] at hk
 unfold TL.fr0 TL.drop
 dsimp only
 rw [rm_no hk.1,rm_no hk.2.1,rm_no hk.2.2]
section
variable {n:Nat} {seed:UInt64} {t:Af} {s:Sk} {x:TL}
theorem TR.insert_yes(h:TR n seed t s x){k:Str}(hk:k∈x.all):∃t',BO t k=some ([],t')∧TR n seed t' (ad (wd n) seed s k) (tch n x k)∧(tch n x k).all.Perm x.all:=by
 obtain ⟨t',e,h1,h2⟩:=h.touch hk
 have h64:=h.kl k hk
 unfold BO
 rw [if_neg (by simp;omega),e,Option.bind_some,Option.bind_some,if_pos rfl]
 exact ⟨t',rfl,h1,h2⟩
theorem TR.insert_long(h:TR n seed t s x){k:Str}(hk:64<k.length):BO t k=some ([],t):=by
 unfold BO
 rw [if_pos (by simp;omega),Option.bind_some,if_pos rfl]
def Kept(k:Str)(x:TL)(y:TL×List Str):Prop :=
 (y.2=[]∧y.1.all.Perm (k::x.all))∨∃o,y.2=[o]∧o∈k::x.all∧y.1.all.Perm (TL.rm (k::x.all) o)
theorem lst_mem{y:TL}{o:Str}(h:lst y=some o):o∈y.b∨(y.b=[]∧o∈y.c):=by
 unfold lst at h
 cases e:y.b.getLast? with
 | some k=>rw [e] at h;cases h;exact .inl (List.mem_of_getLast? e)
 | none=>rw [e] at h;exact .inr ⟨List.getLast?_eq_none_iff.1 e,List.mem_of_getLast? h⟩
theorem last_c{m:Nat}{r:Ab}{y:TL}(hR:RR 3 m r y.L)(mo:Int)(S:Option Ae):CX ⟨mo,S,some r⟩=some (match lst y with | some o=>(o,true) | none=>([],false)):=by
 unfold CX lst
 rw [om_some]
 cases e:y.b.getLast? with
 | some k =>
  obtain ⟨l,hl⟩:=List.getLast?_eq_some_iff.1 e
  have bk:=hR.Back (i:=1) (l:=l) (x:=k) (by show some y.b=_;rw [hl])
  rw [show Aw r 1=_ from bk,Option.bind_some,if_pos rfl]
 | none =>
  have eb:=List.getLast?_eq_none_iff.1 e
  have bk:=hR.Back0 (i:=1) (by show some y.b=_;rw [eb])
  rw [show Aw r 1=_ from bk,Option.bind_some,if_neg (by simp)]
  cases e2:y.c.getLast? with
  | some k =>
   obtain ⟨l,hl⟩:=List.getLast?_eq_some_iff.1 e2
   have bk:=hR.Back (i:=2) (l:=l) (x:=k) (by show some y.c=_;rw [hl])
   rw [show Aw r 2=_ from bk,Option.bind_some]
  | none =>
   have eb:=List.getLast?_eq_none_iff.1 e2
   have bk:=hR.Back0 (i:=2) (by show some y.c=_;rw [eb])
   rw [show Aw r 2=_ from bk,Option.bind_some]
theorem TR.insert_no(h:TR n seed t s x){k:Str}(hk:k∉x.all)(h64:k.length≤64):
  ∃t',BO t k=some ((ins n seed (ad (wd n) seed s k) x k).2,t')∧TR n seed t' (ad (wd n) seed s k) (ins n seed (ad (wd n) seed s k) x k).1∧Kept k x (ins n seed (ad (wd n) seed s k) x k):=by
 have hnd:=h.nd
 obtain ⟨r,hr,hR⟩:=h.rg
 have hn:=h.n2
 have hbn:=h.bn
 have hbb:=h.bb
 have hba:=h.ba
 have hbc:=h.bc
 have ok':=h.adok k
 obtain ⟨r1,e1,hR1⟩:=hR.frontA (by omega) h64 (.inr (by rw [fl_all,all_n];omega)) (j:=0) (by omega)
 have hR1:RR 3 (n+1) r1 (x.fr0 k).L:=hR1
 have ey:=fr0_new hk
 have hal:(x.fr0 k).all=k::x.all:=by rw [ey];rfl
 have hyn:(x.fr0 k).n=x.n+1:=by rw [←all_n,hal,List.length_cons,all_n]
 have la:=hR1.Len (i:=0) (l:=(x.fr0 k).a) rfl
 have hya:(x.fr0 k).a.length=x.a.length+1:=by rw [ey];rfl
 have hyb:(x.fr0 k).b.length=x.b.length:=by rw [ey]
 have hyc:(x.fr0 k).c.length=x.c.length:=by rw [ey]
 have nd1:(x.fr0 k).all.Nodup:=by rw [hal];exact List.nodup_cons.2 ⟨hk,hnd⟩
 unfold BO
 rw [if_neg (by simp;omega),h.touch_no hk,Option.bind_some,Option.bind_some,if_neg (by simp)]
 dsimp only
 rw [h.sk,om_some,h.add (by omega),Option.bind_some,hr,om_some,show Au r 0 k=_ from e1,Option.bind_some]
 dsimp only
 rw [show Aq r1 0=_ from la,Option.bind_some,h.ms,parts_c n hn h.n1]
 dsimp only
 unfold ins
 generalize ad (wd n) seed s k=s' at ok' ⊢
 generalize x.fr0 k=y at *
 by_cases c1:y.a.length≤Wn n
 ·rw [if_pos (by simpa using c1),if_pos c1]
  refine ⟨_,rfl,⟨h.n1,hn,rfl,rfl,ok',⟨r1,rfl,hR1⟩,?_,c1,?_⟩,.inl ⟨rfl,by rw [hal]⟩⟩
  ·dsimp only;omega
  ·dsimp only;omega
 ·rw [if_neg (by simpa using c1),if_neg c1]
  have hne:y.a≠[]:=by intro q;rw [q] at c1;simp at c1
  have bk:=hR1.Back (i:=0) (l:=y.a.dropLast) (x:=y.a.getLastD []) (by show some y.a=_;rw [←lastD hne])
  have om:=lastD_mem hne
  generalize y.a.getLastD []=one at bk om ⊢
  obtain ⟨d1,d2,d3,d4,d5⟩:=all_nd_a nd1
  have oall:one∈y.all:=by unfold TL.all;simp [om]
  have o64:one.length≤64:=hR1.kl one (by rw [fl_all];exact oall)
  have ra:=rm_len d1 om
  have LEN:AN ⟨(n:Int),some (s'.C (wd n) seed),some r1⟩=some (y.n:Int):=by
   unfold AN
   have l1:=hR1.Len (i:=1) (l:=y.b) rfl
   have l2:=hR1.Len (i:=2) (l:=y.c) rfl
   unfold TL.n at *
   rw [om_some,show Aq r1 0=_ from la,Option.bind_some,show Aq r1 1=_ from l1,Option.bind_some,show Aq r1 2=_ from l2,Option.bind_some,i64s ((y.a.length:Int)+(y.b.length:Int)) (by omega) (by omega),i64s _ (by omega) (by omega)]
   congr 1
  rw [show Aw r1 0=_ from bk,Option.bind_some,LEN,Option.bind_some]
  by_cases c2:y.n≤n
  ·obtain ⟨r2,e2,hR2⟩:=hR1.frontA (by omega) o64 (.inl (by rw [fl_all];exact oall)) (j:=1) (by omega)
   have pm:=perm_mem (fr1_all y one) oall nd1
   rw [if_pos (by simpa using c2),if_pos c2,show Au r1 1 one=_ from e2,Option.bind_some]
   refine ⟨_,rfl,⟨h.n1,hn,rfl,rfl,ok',⟨r2,rfl,hR2⟩,?_,?_,?_⟩,.inl ⟨rfl,by rw [←hal];exact pm⟩⟩
   ·have q1:(y.fr1 one).b.length=y.b.length+1:=by
     show (one::TL.rm y.b one).length=_
     rw [rm_no (d4 one om).1];rfl
    have q2:(y.fr1 one).c.length=y.c.length:=by
     show (TL.rm y.c one).length=_
     rw [rm_no (d4 one om).2]
    dsimp only
    unfold TL.n at c2
    omega
   ·show (TL.rm y.a one).length≤_;omega
   ·show (TL.rm y.c one).length≤_;have:=rm_le y.c one;omega
  ·have LS:=last_c hR1 (n:Int) (some (s'.C (wd n) seed))
   rw [if_neg (by simpa using c2),if_neg c2,LS,Option.bind_some]
   have DROP:∃t',((AO r1 one).bind fun r82=>some ([one],(⟨(n:Int),(some (s'.C (wd n) seed)),(some r82.2)⟩:Af)))=some ([one],t')∧TR n seed t' s' (y.drop one)∧(y.drop one).all.Perm (TL.rm (k::x.all) one):=by
    obtain ⟨r2,e2,hR2⟩:=hR1.dropA (by omega) (by omega) one
    rw [e2,Option.bind_some]
    refine ⟨_,rfl,⟨h.n1,hn,rfl,rfl,ok',⟨r2,rfl,hR2⟩,?_,?_,?_⟩,by rw [drop_all,hal]⟩
    ·have:=rm_le y.b one;have:=rm_le y.c one
     show (TL.rm y.b one).length+(TL.rm y.c one).length+_≤n;omega
    ·show (TL.rm y.a one).length≤_;omega
    ·show (TL.rm y.c one).length≤_;have:=rm_le y.c one;omega
   obtain ⟨tD,eD,hD,pD⟩:=DROP
   cases eL:lst y with
   | none =>
    dsimp only
    rw [if_neg (by simp),Option.bind_some,if_neg (by simp)]
    exact ⟨tD,eD,hD,.inr ⟨one,rfl,by rw [←hal];exact oall,pD⟩⟩
   | some o =>
    have omem:=lst_mem eL
    have oin:o∈y.all:=by unfold TL.all;rcases omem with q | q <;> simp [q]
    have ol:o.length≤64:=hR1.kl o (by rw [fl_all];exact oin)
    have hw1:=h.w1
    have hw2:=h.w2
    have sn1:Bz (s'.C (wd n) seed) one=some (sn (wd n) seed s' one:Int):=Seen_c hw1 hw2 ok' (plc_ok hw1 hw2 (by omega))
    have sn2:Bz (s'.C (wd n) seed) o=some (sn (wd n) seed s' o:Int):=Seen_c hw1 hw2 ok' (plc_ok hw1 hw2 (by omega))
    dsimp only
    rw [if_pos rfl,sn1,Option.bind_some,sn2,Option.bind_some,Option.bind_some]
    by_cases c3:sn (wd n) seed s' o<sn (wd n) seed s' one
    ·rw [if_pos (by simpa using c3),if_pos c3]
     obtain ⟨r2,e2,hR2⟩:=hR1.dropA (by omega) (by omega) o
     have hR2:RR 3 (n+1) r2 (y.drop o).L:=hR2
     have hoo:one≠o:=by
      rintro rfl
      rcases omem with q | q
      ·exact (d4 one om).1 q
      ·exact (d4 one om).2 q.2
     have om2:one∈(y.drop o).a:=rm_mem.2 ⟨om,hoo⟩
     have oall2:one∈(y.drop o).all:=by unfold TL.all;simp [om2]
     have nd2:(y.drop o).all.Nodup:=by rw [drop_all];exact List.filter_sublist.nodup nd1
     obtain ⟨r3,e3,hR3⟩:=hR2.frontA (by omega) o64 (.inl (by rw [fl_all];exact oall2)) (j:=1) (by omega)
     have pm:=perm_mem (fr1_all (y.drop o) one) oall2 nd2
     rw [e2,Option.bind_some,show Au r2 1 one=_ from e3,Option.bind_some]
     refine ⟨_,rfl,⟨h.n1,hn,rfl,rfl,ok',⟨r3,rfl,hR3⟩,?_,?_,?_⟩,.inr ⟨o,rfl,by rw [←hal];exact oin,?_⟩⟩
     ·have g1:((y.drop o).fr1 one).b.length≤(TL.rm y.b o).length+1:=by
       show (one::TL.rm (TL.rm y.b o) one).length≤_
       have:=rm_le (TL.rm y.b o) one;simp;omega
      have g2:((y.drop o).fr1 one).c.length≤(TL.rm y.c o).length:=rm_le _ _
      have g3:(TL.rm y.b o).length+(TL.rm y.c o).length+1≤y.b.length+y.c.length:=by
       have:=rm_le y.b o;have:=rm_le y.c o
       rcases omem with q | q
       ·have:=rm_len d2 q;omega
       ·have:=rm_len d3 q.2;omega
      dsimp only
      omega
     ·show (TL.rm (TL.rm y.a o) one).length≤_
      have:TL.rm y.a o=y.a:=rm_no (fun q=>by rcases omem with z | z;exact (d4 o q).1 z;exact (d4 o q).2 z.2)
      rw [this];omega
     ·show (TL.rm (TL.rm y.c o) one).length≤_
      have:=rm_le (TL.rm y.c o) one;have:=rm_le y.c o;omega
     ·rw [←hal,←drop_all];exact pm
    ·rw [if_neg (by simpa using c3),if_neg c3]
     exact ⟨tD,eD,hD,.inr ⟨one,rfl,by rw [←hal];exact oall,pD⟩⟩
end
section
variable {n:Nat} {seed:UInt64} {t:Af} {s:Sk} {x:TL}
theorem TR.gone(h:TR n seed t s x){r:Ab}{k:Str}(hR:RR 3 (n+1) r (x.drop k).L):TR n seed ⟨t.most,t.s,some r⟩ s (x.drop k):=by
 refine ⟨h.n1,h.n2,h.ms,h.sk,h.ok,⟨r,rfl,hR⟩,?_,?_,?_⟩
 ·have:=rm_le x.b k;have:=rm_le x.c k;have:=h.bb
  show (TL.rm x.b k).length+(TL.rm x.c k).length+_≤n;omega
 ·exact Nat.le_trans (rm_le _ _) h.ba
 ·exact Nat.le_trans (rm_le _ _) h.bc
theorem TR.Remove(h:TR n seed t s x)(k:Str):∃t',Ct t k=some (decide (k∈x.all),t')∧TR n seed t' s (x.drop k):=by
 obtain ⟨r,hr,hR⟩:=h.rg
 have:=h.n2
 obtain ⟨r',e,hR'⟩:=hR.dropA (by omega) (by omega) k
 unfold Ct
 rw [hr,om_some,e,Option.bind_some]
 refine ⟨_,by rw [fl_all],?_⟩
 exact h.gone (rmL x k▸hR')
def evk(x:TL):Option Str:=match x.b.getLast? with | some k=>some k | none=>match x.a.getLast? with | some k=>some k | none=>x.c.getLast?
theorem evk_none{x:TL}(h:evk x=none):x=⟨[],[],[]⟩:=by
 obtain ⟨a,b,c⟩:=x
 unfold evk at h
 dsimp only at h
 cases e:b.getLast? with
 | some k=>rw [e] at h;cases h
 | none =>
  rw [e] at h;dsimp only at h
  cases e2:a.getLast? with
  | some k=>rw [e2] at h;cases h
  | none =>
   rw [e2] at h;dsimp only at h
   rw [List.getLast?_eq_none_iff.1 e,List.getLast?_eq_none_iff.1 e2,List.getLast?_eq_none_iff.1 h]
theorem RR.BackA{m:Nat}{r:Ab}{L:List (List Str)}{k:Nat}(h:RR k m r L){i:Nat}{l:List Str}(hl:L[i]? = some l):Aw r (i:Int)=some (match l.getLast? with | some k=>(k,true) | none=>([],false)):=by
 cases e:l.getLast? with
 | some k =>
  obtain ⟨q,rfl⟩:=List.getLast?_eq_some_iff.1 e
  exact h.Back hl
 | none =>
  rw [List.getLast?_eq_none_iff.1 e] at hl
  exact h.Back0 hl
theorem TR.Evict(h:TR n seed t s x):∃t' x',CN t=some ((match evk x with | some k=>(k,true,t') | none=>([],false,t')))∧TR n seed t' s x'∧x'=(match evk x with | some k=>x.drop k | none=>x):=by
 obtain ⟨r,hr,hR⟩:=h.rg
 have hn:=h.n2
 have b0:=hR.BackA (i:=0) (l:=x.a) rfl
 have b1:=hR.BackA (i:=1) (l:=x.b) rfl
 have b2:=hR.BackA (i:=2) (l:=x.c) rfl
 unfold CN
 rw [h.Len,Option.bind_some]
 by_cases hz:x.n=0
 ·have ha:x.a=[]:=List.length_eq_zero_iff.1 (by unfold TL.n at hz;omega)
  have hb:x.b=[]:=List.length_eq_zero_iff.1 (by unfold TL.n at hz;omega)
  have hc:x.c=[]:=List.length_eq_zero_iff.1 (by unfold TL.n at hz;omega)
  rw [hz,if_pos (by rfl)]
  unfold evk
  rw [ha,hb,hc]
  exact ⟨t,x,rfl,h,rfl⟩
 ·rw [if_neg (by simpa using hz),hr,om_some,show Aw r 1=_ from b1,Option.bind_some,show Aw r 0=_ from b0,show Aw r 2=_ from b2]
  have D:∀k,∃t',((AO r k).bind fun r28=>some (k,true,(⟨t.most,t.s,(some r28.2)⟩:Af)))=some (k,true,t')∧TR n seed t' s (x.drop k):=fun k=>by
   obtain ⟨r',e,hR'⟩:=hR.dropA (by omega) (by omega) k
   rw [e,Option.bind_some]
   exact ⟨_,rfl,h.gone (rmL x k▸hR')⟩
  unfold evk
  cases e1:x.b.getLast? with
  | some k =>
   obtain ⟨t',e,q⟩:=D k
   exact ⟨t',_,e,q,rfl⟩
  | none =>
   cases e2:x.a.getLast? with
   | some k =>
    obtain ⟨t',e,q⟩:=D k
    exact ⟨t',_,e,q,rfl⟩
   | none =>
    cases e3:x.c.getLast? with
    | some k =>
     obtain ⟨t',e,q⟩:=D k
     exact ⟨t',_,e,q,rfl⟩
    | none =>
     exfalso;apply hz
     rw [show x=⟨[],[],[]⟩ from evk_none (by unfold evk;rw [e1];dsimp only;rw [e2];exact e3)];rfl
end
structure AL where
 a:List Str
 b:List Str
 c:List Str
 d:List Str
namespace AL
abbrev L(x:AL):List (List Str):=[x.a,x.b,x.c,x.d]
def all(x:AL):List Str:=x.a++(x.b++(x.c++x.d))
def kept(x:AL):List Str:=x.a++x.b
def drop(x:AL)(k:Str):AL:=⟨TL.rm x.a k,TL.rm x.b k,TL.rm x.c k,TL.rm x.d k⟩
def fr0(x:AL)(k:Str):AL:=⟨k::TL.rm x.a k,TL.rm x.b k,TL.rm x.c k,TL.rm x.d k⟩
def fr1(x:AL)(k:Str):AL:=⟨TL.rm x.a k,k::TL.rm x.b k,TL.rm x.c k,TL.rm x.d k⟩
def fr2(x:AL)(k:Str):AL:=⟨TL.rm x.a k,TL.rm x.b k,k::TL.rm x.c k,TL.rm x.d k⟩
def fr3(x:AL)(k:Str):AL:=⟨TL.rm x.a k,TL.rm x.b k,TL.rm x.c k,k::TL.rm x.d k⟩
end AL
theorem afl(x:AL):x.L.flatten=x.all:=by simp [AL.L,AL.all]
structure AR (n:Nat) (t:Ai) (x:AL):Prop where
 n1:1≤n
 n2:n≤1000
 ms:t.most=(n:Int)
 tg:0≤t.target∧t.target≤(n:Int)
 rg:∃r,t.r=some r∧RR 4 (2*n+1) r x.L
 b1:x.a.length+x.b.length≤n
 b2:x.a.length+x.c.length≤n
 b3:x.a.length+x.b.length+x.c.length+x.d.length≤2*n
section
variable {n:Nat} {t:Ai} {x:AL}
theorem AR.nd(h:AR n t x):x.all.Nodup:=by
 obtain ⟨r,_,hr⟩:=h.rg;have:=hr.nd;rw [afl] at this;exact this
theorem AR.kl(h:AR n t x):∀k∈x.all,k.length≤64:=by
 obtain ⟨r,_,hr⟩:=h.rg;have:=hr.kl;rw [afl] at this;exact this
theorem mem_all{x:AL}{k:Str}: k∈x.all↔k∈x.a∨k∈x.b∨k∈x.c∨k∈x.d:=by unfold AL.all;simp
theorem mem_kept{x:AL}{k:Str}: k∈x.kept↔k∈x.a∨k∈x.b:=by unfold AL.kept;simp
theorem all_dj{x:AL}(h:x.all.Nodup):x.a.Nodup∧x.b.Nodup∧x.c.Nodup∧x.d.Nodup∧(∀k∈x.a,k∉x.b∧k∉x.c∧k∉x.d)∧(∀k∈x.b,k∉x.c∧k∉x.d)∧∀k∈x.c,k∉x.d:=by
 unfold AL.all at h
 rw [List.nodup_append,List.nodup_append,List.nodup_append] at h
 obtain ⟨h1,⟨h2,⟨h3,h4,h5⟩,h6⟩,h7⟩:=h
 refine ⟨h1,h2,h3,h4,fun k hk=>⟨fun q=>h7 k hk k (by simp [q]) rfl,fun q=>h7 k hk k (by simp [q]) rfl,fun q=>h7 k hk k (by simp [q]) rfl⟩,fun k hk=>⟨fun q=>h6 k hk k (by simp [q]) rfl,fun q=>h6 k hk k (by simp [q]) rfl⟩,fun k hk q=>h5 k hk k q rfl⟩
theorem AR.knd(h:AR n t x):x.kept.Nodup:=by
 obtain ⟨h1,h2,_,_,h3,_⟩:=all_dj h.nd
 unfold AL.kept
 rw [List.nodup_append]
 exact ⟨h1,h2,fun k hk q hq=>fun e=>(h3 k hk).1 (e▸hq)⟩
theorem AR.Has(h:AR n t x)(k:Str):B7 t k=some (decide (k∈x.kept)):=by
 obtain ⟨r,hr,hR⟩:=h.rg
 obtain ⟨_,_,_,_,d1,d2,d3⟩:=all_dj h.nd
 unfold B7
 rw [hr,om_some]
 by_cases ha:k∈x.a
 ·rw [hR.in_some (i:=0) rfl ha,Option.bind_some];simp [mem_kept,ha]
 ·by_cases hb:k∈x.b
  ·rw [hR.in_some (i:=1) rfl hb,Option.bind_some];simp [mem_kept,hb]
  ·by_cases hc:k∈x.c
   ·rw [hR.in_some (i:=2) rfl hc,Option.bind_some];simp [mem_kept,ha,hb]
   ·by_cases hd:k∈x.d
    ·rw [hR.in_some (i:=3) rfl hd,Option.bind_some];simp [mem_kept,ha,hb]
    ·rw [hR.in_none (by rw [afl,mem_all];simp [ha,hb,hc,hd]),Option.bind_some];simp [mem_kept,ha,hb]
theorem AR.Len(h:AR n t x):Bx t=some ((x.a.length+x.b.length:Nat):Int):=by
 obtain ⟨r,hr,hR⟩:=h.rg
 have:=h.b1
 have:=h.n2
 have l0:=hR.Len (i:=0) (l:=x.a) rfl
 have l1:=hR.Len (i:=1) (l:=x.b) rfl
 unfold Bx
 rw [hr,om_some,show Aq r 0=_ from l0,Option.bind_some,show Aq r 1=_ from l1,Option.bind_some,i64s _ (by omega) (by omega)]
 congr 1
theorem AR.front(h:AR n t x){r:Ab}(hR:RR 4 (2*n+1) r x.L){k:Str}(h64:k.length≤64){j:Nat}(hj:j<4):∃r',Au r (j:Int) k=some (true,r')∧RR 4 (2*n+1) r' (frK x.L j k):=by
 have:=h.n2
 have:=h.b3
 exact hR.frontA (by omega) h64 (.inr (by rw [afl];unfold AL.all;simp;omega)) hj
theorem AR.touch(h:AR n t x){k:Str}(hk:k∈x.kept):∃t' x',Bv t k=some (true,t')∧AR n t' x'∧x'.kept.Perm x.kept:=by
 obtain ⟨r,hr,hR⟩:=h.rg
 obtain ⟨na,nb,nc,nd,d1,d2,d3⟩:=all_dj h.nd
 have hall:k∈x.all:=mem_all.2 ((mem_kept.1 hk).imp id .inl)
 obtain ⟨r',e,hR'⟩:=h.front hR (h.kl k hall) (j:=1) (by omega)
 have hR':RR 4 (2*n+1) r' (x.fr1 k).L:=hR'
 unfold Bv
 rw [h.Has,Option.bind_some,if_neg (by simp [hk]),hr,om_some,show Au r 1 k=_ from e,Option.bind_some]
 have lc:=rm_le x.c k
 have ld:=rm_le x.d k
 have b1:=h.b1;have b2:=h.b2;have b3:=h.b3
 have la:=rm_le x.a k
 have hs:(TL.rm x.a k).length+(TL.rm x.b k).length+1=x.a.length+x.b.length:=by
  rcases mem_kept.1 hk with q | q
  ·have:=rm_len na q;rw [rm_no (d1 k q).1];omega
  ·have:=rm_len nb q;rw [rm_no (fun z=>(d1 k z).1 q)];omega
 refine ⟨_,x.fr1 k,rfl,⟨h.n1,h.n2,h.ms,h.tg,⟨r',rfl,hR'⟩,?_,?_,?_⟩,?_⟩
 ·show (TL.rm x.a k).length+(k::TL.rm x.b k).length≤n;simp;omega
 ·show (TL.rm x.a k).length+(TL.rm x.c k).length≤n;omega
 ·show (TL.rm x.a k).length+(k::TL.rm x.b k).length+(TL.rm x.c k).length+(TL.rm x.d k).length≤2*n;simp;omega
 ·refine List.Perm.trans ?_ (rm_perm h.knd hk).symm
  show (TL.rm x.a k++k::TL.rm x.b k).Perm _
  unfold AL.kept;rw [rm_app]
  exact List.perm_middle
theorem AR.touch_no(h:AR n t x){k:Str}(hk:k∉x.kept):Bv t k=some (false,t):=by
 unfold Bv
 rw [h.Has,Option.bind_some,if_pos (by simp [hk])]
theorem AR.gone(h:AR n t x){r:Ab}{k:Str}(hR:RR 4 (2*n+1) r (x.drop k).L):AR n ⟨t.most,t.target,some r⟩ (x.drop k):=by
 have la:=rm_le x.a k;have lb:=rm_le x.b k;have lc:=rm_le x.c k;have ld:=rm_le x.d k
 have b1:=h.b1;have b2:=h.b2;have b3:=h.b3
 refine ⟨h.n1,h.n2,h.ms,h.tg,⟨r,rfl,hR⟩,?_,?_,?_⟩
 ·show (TL.rm x.a k).length+(TL.rm x.b k).length≤n;omega
 ·show (TL.rm x.a k).length+(TL.rm x.c k).length≤n;omega
 ·show (TL.rm x.a k).length+(TL.rm x.b k).length+(TL.rm x.c k).length+(TL.rm x.d k).length≤2*n;omega
theorem drop_kept(x:AL)(k:Str):(x.drop k).kept=TL.rm x.kept k:=by unfold AL.drop AL.kept;rw [rm_app]
theorem AR.remove(h:AR n t x)(k:Str):∃t',Cj t k=some (decide (k∈x.kept),t')∧AR n t' (x.drop k):=by
 obtain ⟨r,hr,hR⟩:=h.rg
 have:=h.n2
 obtain ⟨r',e,hR'⟩:=hR.dropA (by omega) (by omega) k
 unfold Cj
 rw [h.Has,Option.bind_some,hr,om_some,e,Option.bind_some]
 exact ⟨_,rfl,h.gone (x:=x) hR'⟩
theorem AR.replace(h:AR n t x)(w:Bool)(hne:x.kept≠[]):∃o t' x',A8 t w=some ([o],t')∧AR n t' x'∧o∈x.kept∧x'.kept.Perm (TL.rm x.kept o) ∧
  x'.a.length+x'.b.length+1=x.a.length+x.b.length∧x'.a.length+x'.c.length≤x.a.length+x.c.length∧x'.a.length+x'.b.length+x'.c.length+x'.d.length=x.a.length+x.b.length+x.c.length+x.d.length∧∀k,k∈x'.all↔k∈x.all:=by
 obtain ⟨r,hr,hR⟩:=h.rg
 obtain ⟨na,nb,nc,nd,d1,d2,d3⟩:=all_dj h.nd
 have b1:=h.b1;have b2:=h.b2;have b3:=h.b3;have hn:=h.n2
 have l0:=hR.Len (i:=0) (l:=x.a) rfl
 have l1:=hR.Len (i:=1) (l:=x.b) rfl
 have k0:=hR.BackA (i:=0) (l:=x.a) rfl
 have k1:=hR.BackA (i:=1) (l:=x.b) rfl
 have A:x.a≠[]→∃o t' x',((Aw r 0).bind fun r21=>if !r21.2 then some ([],t) else (Au r 2 r21.1).bind fun r25=>some ([r21.1],(⟨t.most,t.target,(some r25.2)⟩:Ai)))=some ([o],t')∧AR n t' x'∧o∈x.kept∧x'.kept.Perm (TL.rm x.kept o) ∧
   x'.a.length+x'.b.length+1=x.a.length+x.b.length∧x'.a.length+x'.c.length≤x.a.length+x.c.length∧x'.a.length+x'.b.length+x'.c.length+x'.d.length=x.a.length+x.b.length+x.c.length+x.d.length∧∀k,k∈x'.all↔k∈x.all:=by
  intro hna
  have om:=List.getLast_mem hna
  rw [List.getLast?_eq_some_getLast hna] at k0
  generalize x.a.getLast hna=o at k0 om
  have oall:o∈x.all:=mem_all.2 (.inl om)
  obtain ⟨r',e,hR'⟩:=h.front hR (h.kl o oall) (j:=2) (by omega)
  have hR':RR 4 (2*n+1) r' (x.fr2 o).L:=hR'
  have ra:=rm_len na om
  have rb:TL.rm x.b o=x.b:=rm_no (d1 o om).1
  have rc:TL.rm x.c o=x.c:=rm_no (d1 o om).2.1
  have rd:TL.rm x.d o=x.d:=rm_no (d1 o om).2.2
  rw [show Aw r 0=_ from k0,Option.bind_some,if_neg (by simp),show Au r 2 o=_ from e,Option.bind_some]
  have e2:x.fr2 o=⟨TL.rm x.a o,x.b,o::x.c,x.d⟩:=by unfold AL.fr2;rw [rb,rc,rd]
  rw [e2] at hR'
  refine ⟨o,_,⟨TL.rm x.a o,x.b,o::x.c,x.d⟩,rfl,⟨h.n1,h.n2,h.ms,h.tg,⟨r',rfl,hR'⟩,?_,?_,?_⟩,mem_kept.2 (.inl om),?_,?_,?_,?_,fun k => ?_⟩
  ·dsimp only;omega
  ·simp only [List.length_cons];omega
  ·simp only [List.length_cons];omega
  ·show (TL.rm x.a o++x.b).Perm _
   unfold AL.kept;rw [rm_app,rb]
  ·dsimp only;omega
  ·simp only [List.length_cons];omega
  ·simp only [List.length_cons];omega
  ·rw [mem_all,mem_all]
   simp only [List.mem_cons,rm_mem]
   by_cases ek:k=o
   ·subst ek;simp [om]
   ·simp [ek]
 have B:x.b≠[]→∃o t' x',((Aw r 1).bind fun r21=>if !r21.2 then some ([],t) else (Au r 3 r21.1).bind fun r25=>some ([r21.1],(⟨t.most,t.target,(some r25.2)⟩:Ai)))=some ([o],t')∧AR n t' x'∧o∈x.kept∧x'.kept.Perm (TL.rm x.kept o) ∧
   x'.a.length+x'.b.length+1=x.a.length+x.b.length∧x'.a.length+x'.c.length≤x.a.length+x.c.length∧x'.a.length+x'.b.length+x'.c.length+x'.d.length=x.a.length+x.b.length+x.c.length+x.d.length∧∀k,k∈x'.all↔k∈x.all:=by
  intro hnb
  have om:=List.getLast_mem hnb
  rw [List.getLast?_eq_some_getLast hnb] at k1
  generalize x.b.getLast hnb=o at k1 om
  have oall:o∈x.all:=mem_all.2 (.inr (.inl om))
  obtain ⟨r',e,hR'⟩:=h.front hR (h.kl o oall) (j:=3) (by omega)
  have hR':RR 4 (2*n+1) r' (x.fr3 o).L:=hR'
  have rbl:=rm_len nb om
  have ra:TL.rm x.a o=x.a:=rm_no (fun z=>(d1 o z).1 om)
  have rc:TL.rm x.c o=x.c:=rm_no (d2 o om).1
  have rd:TL.rm x.d o=x.d:=rm_no (d2 o om).2
  rw [show Aw r 1=_ from k1,Option.bind_some,if_neg (by simp),show Au r 3 o=_ from e,Option.bind_some]
  have e2:x.fr3 o=⟨x.a,TL.rm x.b o,x.c,o::x.d⟩:=by unfold AL.fr3;rw [ra,rc,rd]
  rw [e2] at hR'
  refine ⟨o,_,⟨x.a,TL.rm x.b o,x.c,o::x.d⟩,rfl,⟨h.n1,h.n2,h.ms,h.tg,⟨r',rfl,hR'⟩,?_,?_,?_⟩,mem_kept.2 (.inr om),?_,?_,?_,?_,fun k => ?_⟩
  ·dsimp only;omega
  ·dsimp only;omega
  ·simp only [List.length_cons];omega
  ·show (x.a++TL.rm x.b o).Perm _
   unfold AL.kept;rw [rm_app,ra]
  ·dsimp only;omega
  ·dsimp only;omega
  ·simp only [List.length_cons];omega
  ·rw [mem_all,mem_all]
   simp only [List.mem_cons,rm_mem]
   by_cases ek:k=o
   ·subst ek;simp [om]
   ·simp [ek]
 unfold A8
 rw [hr,om_some,show Aq r 0=_ from l0,Option.bind_some]
 by_cases ha:x.a=[]
 ·have hb:x.b≠[]:=by intro q;apply hne;unfold AL.kept;rw [ha,q];rfl
  rw [if_neg (by rw [ha];decide),Option.bind_some,if_neg (by decide),Option.bind_some]
  exact B hb
 ·have hap:0<x.a.length:=List.length_pos_iff.2 ha
  rw [if_pos (by simpa using hap)]
  by_cases c1:(decide (t.target<(x.a.length:Int))||(w&&((x.a.length:Int)==t.target)))=true
  ·rw [if_pos c1,Option.bind_some,Option.bind_some,if_pos rfl,Option.bind_some]
   exact A ha
  ·rw [if_neg c1,show Aq r 1=_ from l1,Option.bind_some,Option.bind_some,Option.bind_some]
   by_cases hb:x.b=[]
   ·rw [if_pos (by rw [hb];rfl),Option.bind_some]
    exact A ha
   ·have hbp:0<x.b.length:=List.length_pos_iff.2 hb
    rw [if_neg (by simp;omega),Option.bind_some]
    exact B hb
end
section
variable {n:Nat} {t:Ai} {x:AL}
theorem AR.forget2(h:AR n t x):∃t' x',Bt t 2=some t'∧AR n t' x'∧x'.a=x.a∧x'.b=x.b∧x'.d=x.d∧x'.c.length=x.c.length-1∧∀k,k∈x'.all→k∈x.all:=by
 obtain ⟨r,hr,hR⟩:=h.rg
 obtain ⟨na,nb,nc,nd,d1,d2,d3⟩:=all_dj h.nd
 have hn:=h.n2
 have k2:=hR.BackA (i:=2) (l:=x.c) rfl
 unfold Bt
 rw [hr,om_some]
 by_cases hc:x.c=[]
 ·rw [hc] at k2
  rw [show Aw r 2=_ from k2,Option.bind_some,if_neg (by simp)]
  exact ⟨t,x,rfl,h,rfl,rfl,rfl,by rw [hc];rfl,fun _ q=>q⟩
 ·have om:=List.getLast_mem hc
  rw [List.getLast?_eq_some_getLast hc] at k2
  generalize x.c.getLast hc=o at k2 om
  obtain ⟨r',e,hR'⟩:=hR.dropA (by omega) (by omega) o
  rw [show Aw r 2=_ from k2,Option.bind_some,if_pos rfl,e,Option.bind_some]
  have rl:=rm_len nc om
  refine ⟨_,x.drop o,rfl,h.gone (x:=x) hR',rm_no (fun z=>(d1 o z).2.1 om),rm_no (fun z=>(d2 o z).1 om),rm_no (d3 o om),?_,fun k hk => ?_⟩
  ·show (TL.rm x.c o).length=_;omega
  ·rw [mem_all] at hk ⊢
   simp only [AL.drop,rm_mem] at hk
   rcases hk with q | q | q | q
   ·exact .inl q.1
   ·exact .inr (.inl q.1)
   ·exact .inr (.inr (.inl q.1))
   ·exact .inr (.inr (.inr q.1))
theorem AR.forget3(h:AR n t x):∃t' x',Bt t 3=some t'∧AR n t' x'∧x'.a=x.a∧x'.b=x.b∧x'.c=x.c∧x'.d.length=x.d.length-1∧∀k,k∈x'.all→k∈x.all:=by
 obtain ⟨r,hr,hR⟩:=h.rg
 obtain ⟨na,nb,nc,nd,d1,d2,d3⟩:=all_dj h.nd
 have hn:=h.n2
 have k2:=hR.BackA (i:=3) (l:=x.d) rfl
 unfold Bt
 rw [hr,om_some]
 by_cases hc:x.d=[]
 ·rw [hc] at k2
  rw [show Aw r 3=_ from k2,Option.bind_some,if_neg (by simp)]
  exact ⟨t,x,rfl,h,rfl,rfl,rfl,by rw [hc];rfl,fun _ q=>q⟩
 ·have om:=List.getLast_mem hc
  rw [List.getLast?_eq_some_getLast hc] at k2
  generalize x.d.getLast hc=o at k2 om
  obtain ⟨r',e,hR'⟩:=hR.dropA (by omega) (by omega) o
  rw [show Aw r 3=_ from k2,Option.bind_some,if_pos rfl,e,Option.bind_some]
  have rl:=rm_len nd om
  refine ⟨_,x.drop o,rfl,h.gone (x:=x) hR',rm_no (fun z=>(d1 o z).2.2 om),rm_no (fun z=>(d2 o z).2 om),rm_no (fun z=>d3 o z om),?_,fun k hk => ?_⟩
  ·show (TL.rm x.d o).length=_;omega
  ·rw [mem_all] at hk ⊢
   simp only [AL.drop,rm_mem] at hk
   rcases hk with q | q | q | q
   ·exact .inl q.1
   ·exact .inr (.inl q.1)
   ·exact .inr (.inr (.inl q.1))
   ·exact .inr (.inr (.inr q.1))
def KeptA(n:Nat)(k:Str)(K K' g:List Str):Prop:=(g=[]∧K'.Perm (k::K))∨∃o,g=[o]∧(o∈K∧n≤K.length)∧K'.Perm (k::TL.rm K o)
theorem AR.fr0(h:AR n t x){k:Str}(hk:k∉x.all)(h64:k.length≤64)(b1:x.a.length+x.b.length+1≤n)(b2:x.a.length+x.c.length+1≤n)(b3:x.a.length+x.b.length+x.c.length+x.d.length+1≤2*n)(g:List Str):
  ∃t',(om t.r (none) fun x53=>(Au x53 0 k).bind fun r61=>some (g,(⟨t.most,t.target,(some r61.2)⟩:Ai)))=some (g,t')∧AR n t' ⟨k::x.a,x.b,x.c,x.d⟩:=by
 obtain ⟨r,hr,hR⟩:=h.rg
 obtain ⟨r',e,hR'⟩:=h.front hR h64 (j:=0) (by omega)
 have hR':RR 4 (2*n+1) r' (x.fr0 k).L:=hR'
 have q:k∉x.a∧k∉x.b∧k∉x.c∧k∉x.d:=by rw [mem_all] at hk;simpa using hk
 have e2:x.fr0 k=⟨k::x.a,x.b,x.c,x.d⟩:=by unfold AL.fr0;rw [rm_no q.1,rm_no q.2.1,rm_no q.2.2.1,rm_no q.2.2.2]
 rw [e2] at hR'
 rw [hr,om_some,show Au r 0 k=_ from e,Option.bind_some]
 refine ⟨_,rfl,⟨h.n1,h.n2,h.ms,h.tg,⟨r',rfl,hR'⟩,?_,?_,?_⟩⟩
 ·simp only [List.length_cons];omega
 ·simp only [List.length_cons];omega
 ·simp only [List.length_cons];omega
theorem AR.target(h:AR n t x){p:Int}(hp:0≤p∧p≤(n:Int)):AR n ⟨t.most,p,t.r⟩ x:=⟨h.n1,h.n2,h.ms,hp,h.rg,h.b1,h.b2,h.b3⟩
theorem tdv{a b:Nat}(hb:0<b)(ha:a≤2000):∃q:Nat,i64 ((a:Int).tdiv (b:Int))=(q:Int)∧q≤2000:=by
 refine ⟨a/b,?_,Nat.le_trans (Nat.div_le_self a b) ha⟩
 have:(a:Int).tdiv (b:Int)=((a/b:Nat):Int):=by rw [Int.tdiv_eq_ediv_of_nonneg (by omega)];exact (Int.natCast_ediv a b).symm
 have h2:a/b≤2000:=Nat.le_trans (Nat.div_le_self a b) ha
 rw [this]
 generalize a/b=q at h2 ⊢
 rw [i64s _ (by omega) (by omega)]
theorem AR.again(h:AR n t x){k:Str}(hk:k∈x.c∨k∈x.d):∃g t' x',Cr t k (if k∈x.c then 2 else 3)=some (g,t')∧AR n t' x'∧KeptA n k x.kept x'.kept g:=by
 obtain ⟨r,hr,hR⟩:=h.rg
 obtain ⟨na,nb,nc,nd,d1,d2,d3⟩:=all_dj h.nd
 have b1:=h.b1;have b2:=h.b2;have b3:=h.b3;have hn:=h.n2;have hn1:=h.n1
 have tg:=h.tg
 have l2:=hR.Len (i:=2) (l:=x.c) rfl
 have l3:=hR.Len (i:=3) (l:=x.d) rfl
 have hkall:k∈x.all:=mem_all.2 (.inr (.inr hk))
 have hkn:k∉x.kept:=by
  rw [mem_kept]
  rintro (q | q)
  ·rcases hk with z | z
   ·exact (d1 k q).2.1 z
   ·exact (d1 k q).2.2 z
  ·rcases hk with z | z
   ·exact (d2 k q).1 z
   ·exact (d2 k q).2 z
 have k64:=h.kl k hkall
 have T:∃p:Int,(if ((if k∈x.c then (2:Int) else 3)==2) then if (x.c.length:Int)≠0 then some (if (i64 (t.target+(if 1<(i64 ((x.d.length:Int).tdiv (x.c.length:Int))) then i64 ((x.d.length:Int).tdiv (x.c.length:Int)) else 1)))<t.most then i64 (t.target+(if 1<(i64 ((x.d.length:Int).tdiv (x.c.length:Int))) then i64 ((x.d.length:Int).tdiv (x.c.length:Int)) else 1)) else t.most) else none
   else if (x.d.length:Int)≠0 then some (if 0<(i64 (t.target-(if 1<(i64 ((x.c.length:Int).tdiv (x.d.length:Int))) then i64 ((x.c.length:Int).tdiv (x.d.length:Int)) else 1))) then i64 (t.target-(if 1<(i64 ((x.c.length:Int).tdiv (x.d.length:Int))) then i64 ((x.c.length:Int).tdiv (x.d.length:Int)) else 1)) else 0) else none)=some p∧0≤p∧p≤(n:Int):=by
  by_cases hc:k∈x.c
  ·have hcp:0<x.c.length:=List.length_pos_of_mem hc
   rw [if_pos hc,if_pos (show ((2:Int)==2)=true from rfl),if_pos (show (x.c.length:Int)≠0 by omega)]
   obtain ⟨q,hq,hq2⟩:=tdv (a:=x.d.length) hcp (by omega)
   rw [hq,h.ms]
   have hs:∃s:Nat,(if (1:Int)<(q:Int) then (q:Int) else 1)=(s:Int)∧s≤2001∧1≤s:=by
    split
    ·exact ⟨q,rfl,by omega,by omega⟩
    ·exact ⟨1,rfl,by omega,by omega⟩
   obtain ⟨s,hs,hs2,hs3⟩:=hs
   rw [hs,i64s _ (by omega) (by omega)]
   refine ⟨_,rfl,?_,?_⟩ <;> split <;> omega
  ·have hd:=hk.resolve_left hc
   have hdp:0<x.d.length:=List.length_pos_of_mem hd
   rw [if_neg hc,if_neg (show ¬((3:Int)==2)=true by decide),if_pos (show (x.d.length:Int)≠0 by omega)]
   obtain ⟨q,hq,hq2⟩:=tdv (a:=x.c.length) hdp (by omega)
   rw [hq]
   have hs:∃s:Nat,(if (1:Int)<(q:Int) then (q:Int) else 1)=(s:Int)∧s≤2001∧1≤s:=by
    split
    ·exact ⟨q,rfl,by omega,by omega⟩
    ·exact ⟨1,rfl,by omega,by omega⟩
   obtain ⟨s,hs,hs2,hs3⟩:=hs
   rw [hs,i64s _ (by omega) (by omega)]
   refine ⟨_,rfl,?_,?_⟩ <;> split <;> omega
 obtain ⟨p,hp,hp2⟩:=T
 have FR:∀(t':Ai) (x':AL) (g:List Str),AR n t' x'→k∈x'.all→k∉x'.kept→x'.a.length+x'.b.length+1≤n→∃t'' x'',(om t'.r (none) fun x30=>(Au x30 1 k).bind fun r38=>some (g,(⟨t'.most,t'.target,(some r38.2)⟩:Ai)))=some (g,t'')∧AR n t'' x''∧x''.kept.Perm (k::x'.kept):=by
  intro t' x' g h' hm hkk hb
  obtain ⟨r1,hr1,hR1⟩:=h'.rg
  obtain ⟨r',e,hR'⟩:=h'.front hR1 k64 (j:=1) (by omega)
  have hR':RR 4 (2*n+1) r' (x'.fr1 k).L:=hR'
  obtain ⟨na',nb',nc',nd',_,_,d3'⟩:=all_dj h'.nd
  have qa:k∉x'.a:=fun z=>hkk (mem_kept.2 (.inl z))
  have qb:k∉x'.b:=fun z=>hkk (mem_kept.2 (.inr z))
  have qcd:k∈x'.c∨k∈x'.d:=by rw [mem_all] at hm;simpa [qa,qb] using hm
  rw [hr1,om_some,show Au r1 1 k=_ from e,Option.bind_some]
  have lc:=rm_le x'.c k
  have ld:=rm_le x'.d k
  have c3:=h'.b3;have c2:=h'.b2
  have hs:(TL.rm x'.c k).length+(TL.rm x'.d k).length+1=x'.c.length+x'.d.length:=by
   rcases qcd with q | q
   ·have:=rm_len nc' q;rw [rm_no (d3' k q)];omega
   ·have:=rm_len nd' q;rw [rm_no (fun z=>d3' k z q)];omega
  refine ⟨_,x'.fr1 k,rfl,⟨h'.n1,h'.n2,h'.ms,h'.tg,⟨r',rfl,hR'⟩,?_,?_,?_⟩,?_⟩
  ·show (TL.rm x'.a k).length+(k::TL.rm x'.b k).length≤n;rw [rm_no qa,rm_no qb];simp;omega
  ·show (TL.rm x'.a k).length+(TL.rm x'.c k).length≤n;rw [rm_no qa];omega
  ·show (TL.rm x'.a k).length+(k::TL.rm x'.b k).length+(TL.rm x'.c k).length+(TL.rm x'.d k).length≤2*n;rw [rm_no qa,rm_no qb];simp;omega
  ·show (TL.rm x'.a k++k::TL.rm x'.b k).Perm _
   rw [rm_no qa,rm_no qb];exact List.perm_middle
 unfold Cr
 rw [hr,om_some,show Aq r 2=_ from l2,Option.bind_some,show Aq r 3=_ from l3,Option.bind_some,hp,Option.bind_some]
 have hT:=h.target hp2
 rw [hr] at hT
 rw [hT.Len,Option.bind_some,h.ms]
 rw [h.ms] at hT
 by_cases c1:n≤x.a.length+x.b.length
 ·rw [if_pos (by simp;omega)]
  have hne:x.kept≠[]:=by intro q;have:=congrArg List.length q;unfold AL.kept at this;simp at this;rw [this.1,this.2] at c1;simp at c1;omega
  obtain ⟨o,t',x',e,h',om,pm,e1,e2,e3,e4⟩:=hT.replace ((if k∈x.c then (2:Int) else 3)==3) hne
  rw [e,Option.bind_some,Option.bind_some]
  dsimp only
  obtain ⟨t'',x'',ef,h'',pf⟩:=FR t' x' [o] h' ((e4 k).2 hkall) (fun z=>hkn (rm_mem.1 (pm.subset z)).1) (by omega)
  exact ⟨[o],t'',x'',ef,h'',.inr ⟨o,rfl,⟨om,by unfold AL.kept;simp;omega⟩,pf.trans (pm.cons k)⟩⟩
 ·rw [if_neg (by simp;omega),Option.bind_some]
  dsimp only
  obtain ⟨t'',x'',ef,h'',pf⟩:=FR _ x [] hT hkall hkn (by omega)
  exact ⟨[],t'',x'',ef,h'',.inl ⟨rfl,pf⟩⟩
theorem AR.insert(h:AR n t x){k:Str}(hk:k∉x.kept)(h64:k.length≤64):∃g t' x',BM t k=some (g,t')∧AR n t' x'∧KeptA n k x.kept x'.kept g:=by
 have hh:=h
 obtain ⟨r,hr,hR⟩:=h.rg
 obtain ⟨na,nb,nc,nd,d1,d2,d3⟩:=all_dj h.nd
 have b1:=h.b1;have b2:=h.b2;have b3:=h.b3;have hn:=h.n2;have hn1:=h.n1
 have l0:=hR.Len (i:=0) (l:=x.a) rfl
 have l1:=hR.Len (i:=1) (l:=x.b) rfl
 have l2:=hR.Len (i:=2) (l:=x.c) rfl
 have l3:=hR.Len (i:=3) (l:=x.d) rfl
 have et:(⟨t.most,t.target,some r⟩:Ai)=t:=by rw [←hr]
 unfold BM
 rw [if_neg (by simp;omega),h.touch_no hk,Option.bind_some,Option.bind_some,if_neg (by simp)]
 dsimp only
 rw [hr,om_some,et]
 by_cases hcd:k∈x.c∨k∈x.d
 ·have hin:A5 r k=some ((if k∈x.c then (2:Int) else 3),true):=by
   by_cases hc:k∈x.c
   ·rw [if_pos hc];exact hR.in_some (i:=2) rfl hc
   ·rw [if_neg hc];exact hR.in_some (i:=3) rfl (hcd.resolve_left hc)
  rw [hin,Option.bind_some,if_pos rfl]
  obtain ⟨g,t',x',e,h',hK⟩:=h.again hcd
  rw [e,Option.bind_some]
  exact ⟨g,t',x',rfl,h',hK⟩
 ·have hall:k∉x.all:=by rw [mem_all];rw [mem_kept] at hk;simp only [not_or] at hk hcd ⊢;exact ⟨hk.1,hk.2,hcd.1,hcd.2⟩
  rw [hR.in_none (by rw [afl];exact hall),Option.bind_some,if_neg (by simp),show Aq r 0=_ from l0,Option.bind_some,show Aq r 2=_ from l2,Option.bind_some,show Aq r 1=_ from l1,Option.bind_some,show Aq r 3=_ from l3,Option.bind_some]
  have s1:i64 ((x.a.length:Int)+(x.c.length:Int))=((x.a.length+x.c.length:Nat):Int):=by rw [i64s _ (by omega) (by omega)];omega
  have s2:i64 (((x.a.length+x.c.length:Nat):Int)+(x.b.length:Int))=((x.a.length+x.c.length+x.b.length:Nat):Int):=by rw [i64s _ (by omega) (by omega)];omega
  have s3:i64 (((x.a.length+x.c.length+x.b.length:Nat):Int)+(x.d.length:Int))=((x.a.length+x.c.length+x.b.length+x.d.length:Nat):Int):=by rw [i64s _ (by omega) (by omega)];omega
  have s4:i64 (2*(n:Int))=((2*n:Nat):Int):=by rw [i64s _ (by omega) (by omega)];omega
  rw [s1,s2,s3,h.ms,s4]
  have RP:∀(t1:Ai) (x1:AL),AR n t1 x1→k∉x1.all→x1.a=x.a→x1.b=x.b→x1.a.length+x1.c.length+1≤n→x1.a.length+x1.b.length+x1.c.length+x1.d.length+1≤2*n →
    ∃g t2 x2,((Bx t1).bind fun r76=>Option.bind (if decide (t1.most≤r76) then (A8 t1 false).bind fun r89=>some (r89.1,r89.2) else some ([],t1)) fun p78=>some (p78.1,p78.2))=some (g,t2)∧AR n t2 x2∧k∉x2.all∧x2.a.length+x2.b.length+1≤n∧x2.a.length+x2.c.length+1≤n∧x2.a.length+x2.b.length+x2.c.length+x2.d.length+1≤2*n ∧
     ((g=[]∧x2.kept=x.kept)∨∃o,g=[o]∧(o∈x.kept∧n≤x.kept.length)∧x2.kept.Perm (TL.rm x.kept o)):=by
   intro t1 x1 h1 hk1 ea eb q2 q3
   have ek:x1.kept=x.kept:=by unfold AL.kept;rw [ea,eb]
   rw [h1.Len,Option.bind_some,h1.ms]
   by_cases c1:n≤x1.a.length+x1.b.length
   ·rw [if_pos (by simp;omega)]
    have hne:x1.kept≠[]:=by intro q;have:=congrArg List.length q;unfold AL.kept at this;simp at this;rw [this.1,this.2] at c1;simp at c1;omega
    obtain ⟨o,t',x',e,h',om,pm,e1,e2,e3,e4⟩:=h1.replace false hne
    rw [e,Option.bind_some,Option.bind_some]
    have c2:=h1.b1
    exact ⟨[o],t',x',rfl,h',fun z=>hk1 ((e4 k).1 z),by omega,by omega,by omega,.inr ⟨o,rfl,⟨ek▸om,by unfold AL.kept;rw [←ea,←eb];simp;omega⟩,ek▸pm⟩⟩
   ·rw [if_neg (by simp;omega),Option.bind_some]
    exact ⟨[],t1,x1,rfl,h1,hk1,by omega,q2,q3,.inl ⟨rfl,ek⟩⟩
  have FIN:∀(g:List Str) (t2:Ai) (x2:AL),AR n t2 x2→k∉x2.all→x2.a.length+x2.b.length+1≤n→x2.a.length+x2.c.length+1≤n→x2.a.length+x2.b.length+x2.c.length+x2.d.length+1≤2*n →
    ((g=[]∧x2.kept=x.kept)∨∃o,g=[o]∧(o∈x.kept∧n≤x.kept.length)∧x2.kept.Perm (TL.rm x.kept o)) →
    ∃g' t' x',(om t2.r (none) fun x53=>(Au x53 0 k).bind fun r61=>some (g,(⟨t2.most,t2.target,(some r61.2)⟩:Ai)))=some (g',t')∧AR n t' x'∧KeptA n k x.kept x'.kept g':=by
   intro g t2 x2 h2 k2 q1 q2 q3 hg
   obtain ⟨t',e,h'⟩:=h2.fr0 k2 h64 q1 q2 q3 g
   refine ⟨g,t',_,e,h',?_⟩
   show KeptA n k x.kept ((k::x2.a)++x2.b) g
   rcases hg with ⟨rfl,e1⟩ | ⟨o,rfl,e1,e2⟩
   ·exact .inl ⟨rfl,by rw [←e1];exact List.Perm.refl _⟩
   ·exact .inr ⟨o,rfl,e1,e2.cons k⟩
  by_cases c1:n≤x.a.length+x.c.length
  ·rw [if_pos (by simp;omega),Option.bind_some]
   by_cases c2:x.a.length<n
   ·
    rw [if_pos (by simp;omega)]
    obtain ⟨t1,x1,e1,h1,ea,eb,ed,ec,em⟩:=h.forget2
    rw [e1,Option.bind_some]
    obtain ⟨g,t2,x2,e2,h2,k2,q1,q2,q3,hg⟩:=RP t1 x1 h1 (fun z=>hall (em k z)) ea eb (by rw [ea,ec];omega) (by rw [ea,eb,ed,ec];omega)
    rw [e2,Option.bind_some]
    exact FIN g t2 x2 h2 k2 q1 q2 q3 hg
   ·
    have hlen:x.a.length=n:=by omega
    have hc0:x.c=[]:=List.length_eq_zero_iff.1 (by omega)
    have hb0:x.b=[]:=List.length_eq_zero_iff.1 (by omega)
    have hna:x.a≠[]:=by intro q;rw [q] at hlen;simp at hlen;omega
    have k0:=hR.BackA (i:=0) (l:=x.a) rfl
    have om:=List.getLast_mem hna
    rw [List.getLast?_eq_some_getLast hna] at k0
    generalize x.a.getLast hna=o at k0 om
    rw [if_neg (by simp;omega),if_pos (by simp;omega),show Aw r 0=_ from k0,Option.bind_some]
    obtain ⟨r',e,hR'⟩:=hR.dropA (by omega) (by omega) o
    dsimp only
    rw [e,Option.bind_some,Option.bind_some,Option.bind_some]
    have h2:=h.gone (x:=x) hR'
    rw [h.ms] at h2
    have rl:=rm_len na om
    refine FIN [o] _ (x.drop o) h2 (fun z=>hall ?_) ?_ ?_ ?_ (.inr ⟨o,rfl,⟨mem_kept.2 (.inl om),by unfold AL.kept;simp;omega⟩,by rw [drop_kept]⟩)
    ·rw [mem_all] at z ⊢
     simp only [AL.drop,rm_mem] at z
     rcases z with q | q | q | q
     ·exact .inl q.1
     ·exact .inr (.inl q.1)
     ·exact .inr (.inr (.inl q.1))
     ·exact .inr (.inr (.inr q.1))
    ·show (TL.rm x.a o).length+(TL.rm x.b o).length+1≤n;have:=rm_le x.b o;omega
    ·show (TL.rm x.a o).length+(TL.rm x.c o).length+1≤n;have:=rm_le x.c o;omega
    ·show (TL.rm x.a o).length+(TL.rm x.b o).length+(TL.rm x.c o).length+(TL.rm x.d o).length+1≤2*n
     have:=rm_le x.b o;have:=rm_le x.c o;have:=rm_le x.d o;omega
  ·rw [if_neg (by simp;omega),Option.bind_some,if_neg (by simp),if_neg (by simp;omega)]
   by_cases c3:n≤x.a.length+x.c.length+x.b.length+x.d.length
   ·rw [if_pos (by simp;omega)]
    by_cases c4:2*n≤x.a.length+x.c.length+x.b.length+x.d.length
    ·rw [if_pos (by simp;omega)]
     obtain ⟨t1,x1,e1,h1,ea,eb,ec,ed,em⟩:=h.forget3
     rw [e1,Option.bind_some,Option.bind_some]
     obtain ⟨g,t2,x2,e2,h2,k2,q1,q2,q3,hg⟩:=RP t1 x1 h1 (fun z=>hall (em k z)) ea eb (by rw [ea,ec];omega) (by rw [ea,eb,ed,ec];omega)
     rw [e2,Option.bind_some,Option.bind_some,Option.bind_some]
     exact FIN g t2 x2 h2 k2 q1 q2 q3 hg
    ·rw [if_neg (by simp;omega),Option.bind_some]
     obtain ⟨g,t2,x2,e2,h2,k2,q1,q2,q3,hg⟩:=RP t x h hall rfl rfl (by omega) (by omega)
     rw [e2,Option.bind_some,Option.bind_some,Option.bind_some]
     exact FIN g t2 x2 h2 k2 q1 q2 q3 hg
   ·rw [if_neg (by simp;omega),Option.bind_some,Option.bind_some,Option.bind_some]
    exact FIN [] t x h hall (by omega) (by omega) (by omega) (.inl ⟨rfl,rfl⟩)
theorem AR.insert_yes(h:AR n t x){k:Str}(hk:k∈x.kept):∃t' x',BM t k=some ([],t')∧AR n t' x'∧x'.kept.Perm x.kept:=by
 obtain ⟨t',x',e,h1,h2⟩:=h.touch hk
 have h64:=h.kl k (mem_all.2 ((mem_kept.1 hk).imp id .inl))
 unfold BM
 rw [if_neg (by simp;omega),e,Option.bind_some,Option.bind_some,if_pos rfl]
 exact ⟨t',x',rfl,h1,h2⟩
theorem AR.evict(h:AR n t x):(x.kept=[]∧Ch t=some ([],false,t))∨∃o t' x',Ch t=some (o,true,t')∧AR n t' x'∧o∈x.kept∧x'.kept.Perm (TL.rm x.kept o):=by
 unfold Ch
 rw [h.Len,Option.bind_some]
 by_cases hk:x.kept=[]
 ·have:=congrArg List.length hk
  unfold AL.kept at this
  simp at this
  rw [this.1,this.2]
  exact .inl ⟨hk,rfl⟩
 ·have:x.a.length+x.b.length≠0:=by
   intro q;apply hk;unfold AL.kept
   rw [List.length_eq_zero_iff.1 (show x.a.length=0 by omega),List.length_eq_zero_iff.1 (show x.b.length=0 by omega)];rfl
  rw [if_neg (by simp;omega)]
  obtain ⟨o,t',x',e,h',om,pm,_⟩:=h.replace false hk
  rw [e,Option.bind_some]
  exact .inr ⟨o,t',x',rfl,h',om,pm⟩
end
theorem new_a(n:Nat)(h1:1≤n)(h2:n≤1000):∃t,DD (n:Int)=some (some t,0)∧AR n t ⟨[],[],[],[]⟩:=by
 obtain ⟨r,e,hR⟩:=new_ok 4 (2*n+1) (by omega) (by omega) (by omega)
 have e1:i64 (2*(n:Int))=((2*n:Nat):Int):=by rw [i64s _ (by omega) (by omega)];omega
 have e2:i64 (((2*n:Nat):Int)+1)=((2*n+1:Nat):Int):=by rw [i64s _ (by omega) (by omega)];omega
 unfold DD
 rw [if_neg (by simp;omega),e1,e2,show CV 4 ((2*n+1:Nat):Int)=_ from e,Option.bind_some]
 exact ⟨_,rfl,h1,h2,rfl,⟨by simp,by simp⟩,⟨r,rfl,hR⟩,by simp,by simp,by simp⟩
theorem TR.Miss{n:Nat}{seed:UInt64}{t:Af}{s:Sk}{x:TL}(h:TR n seed t s x){k:Str}(hk:k.length≤64):∃t',CW t k=some t'∧TR n seed t' (ad (wd n) seed s k) x:=by
 unfold CW
 rw [if_pos (by simp;omega),h.sk,om_some,h.add (by omega),Option.bind_some]
 obtain ⟨r,hr,hR⟩:=h.rg
 exact ⟨_,rfl,⟨h.n1,h.n2,h.ms,rfl,h.adok k,⟨r,hr,hR⟩,h.bb,h.ba,h.bc⟩⟩
theorem ins_room{n:Nat}{seed:UInt64}{t:Af}{s s':Sk}{x:TL}(_:TR n seed t s x){k:Str}(hk:k∉x.all)(hn:x.n<n):(ins n seed s' x k).2=[]:=by
 have hal:(x.fr0 k).all=k::x.all:=by rw [fr0_new hk];rfl
 have hyn:(x.fr0 k).n=x.n+1:=by rw [←all_n,hal,List.length_cons,all_n]
 unfold ins
 by_cases c:(x.fr0 k).a.length≤Wn n
 ·rw [if_pos c]
 ·rw [if_neg c,if_pos (by omega)]
def PR(n:Nat)(p:Ac)(K:List Str):Prop :=
 (p.kind=1∧∃a x,p.a=some a∧AR n a x∧K.Perm x.kept)∨(p.kind=2∧∃seed t s x,p.t=some t∧TR n seed t s x∧K.Perm x.all)
theorem rm_pm{l m:List Str}(h:l.Perm m)(k:Str):(TL.rm l k).Perm (TL.rm m k):=h.filter _
section
variable {n:Nat} {p:Ac} {K:List Str}
theorem PR.nd(h:PR n p K):K.Nodup:=by
 rcases h with ⟨_,a,x,_,h,hp⟩ | ⟨_,seed,t,s,x,_,h,hp⟩
 ·exact hp.nodup_iff.2 h.knd
 ·exact hp.nodup_iff.2 h.nd
theorem PR.le(h:PR n p K):K.length≤n:=by
 rcases h with ⟨_,a,x,_,h,hp⟩ | ⟨_,seed,t,s,x,_,h,hp⟩
 ·rw [hp.length_eq];unfold AL.kept;have:=h.b1;simp;omega
 ·rw [hp.length_eq,all_n];exact h.bn
theorem PR.kl(h:PR n p K):∀k∈K,k.length≤64:=by
 rcases h with ⟨_,a,x,_,h,hp⟩ | ⟨_,seed,t,s,x,_,h,hp⟩
 ·exact fun k hk=>h.kl k (mem_all.2 ((mem_kept.1 (hp.subset hk)).imp id .inl))
 ·exact fun k hk=>h.kl k (hp.subset hk)
theorem PR.n1(h:PR n p K):1≤n∧n≤1000:=by
 rcases h with ⟨_,a,x,_,h,hp⟩ | ⟨_,seed,t,s,x,_,h,hp⟩
 ·exact ⟨h.n1,h.n2⟩
 ·exact ⟨h.n1,h.n2⟩
theorem PR.perm(h:PR n p K){K':List Str}(hp:K'.Perm K):PR n p K':=by
 rcases h with ⟨h1,a,x,h2,h,hq⟩ | ⟨h1,seed,t,s,x,h2,h,hq⟩
 ·exact .inl ⟨h1,a,x,h2,h,hp.trans hq⟩
 ·exact .inr ⟨h1,seed,t,s,x,h2,h,hp.trans hq⟩
theorem k1f{k:Int}(h:k=2):¬(k==1)=true:=by subst h;decide
theorem PR.remove(h:PR n p K)(k:Str):∃b p',AY p k=some (b,p')∧PR n p' (TL.rm K k):=by
 unfold AY Ao
 rcases h with ⟨h1,a,x,h2,h,hp⟩ | ⟨h1,seed,t,s,x,h2,h,hp⟩
 ·obtain ⟨a',e,h'⟩:=h.remove k
  rw [if_pos (by rw [h1];rfl),h2,om_some,e,Option.bind_some]
  exact ⟨_,_,rfl,.inl ⟨h1,a',_,rfl,h',by rw [drop_kept];exact rm_pm hp k⟩⟩
 ·obtain ⟨t',e,h'⟩:=h.Remove k
  rw [if_neg (k1f h1),if_pos (by rw [h1];rfl),h2,om_some,e,Option.bind_some]
  exact ⟨_,_,rfl,.inr ⟨h1,seed,t',s,_,rfl,h',by rw [drop_all];exact rm_pm hp k⟩⟩
theorem PR.miss(h:PR n p K){k:Str}(hk:k.length≤64):∃p',Bo p k=some p'∧PR n p' K:=by
 have hh:=h
 unfold Bo Ao
 rcases h with ⟨h1,a,x,h2,h,hp⟩ | ⟨h1,seed,t,s,x,h2,h,hp⟩
 ·rw [if_neg (by rw [h1];decide)]
  exact ⟨p,rfl,hh⟩
 ·rw [if_pos (by rw [h1];rfl),h2,om_some,if_pos (by dsimp only;rw [h1];rfl),h.Has,Option.bind_some]
  by_cases hx:k∈x.all
  ·rw [if_neg (by simp [hx])]
   exact ⟨p,rfl,hh⟩
  ·obtain ⟨t',e,h'⟩:=h.Miss hk
   rw [if_pos (by simp [hx]),e,Option.bind_some]
   exact ⟨_,rfl,.inr ⟨h1,seed,t',_,x,rfl,h',hp⟩⟩
theorem PR.touch(h:PR n p K){k:Str}(hk:k∈K):∃p',Bh p k=some (true,p')∧PR n p' K:=by
 unfold Bh Ao
 rcases h with ⟨h1,a,x,h2,h,hp⟩ | ⟨h1,seed,t,s,x,h2,h,hp⟩
 ·obtain ⟨a',x',e,h',q⟩:=h.touch (hp.subset hk)
  rw [if_pos (by rw [h1];rfl),h2,om_some,e,Option.bind_some]
  exact ⟨_,rfl,.inl ⟨h1,a',x',rfl,h',hp.trans q.symm⟩⟩
 ·obtain ⟨t',e,h',q⟩:=h.touch (hp.subset hk)
  rw [if_neg (k1f h1),if_pos (by rw [h1];rfl),h2,om_some,e,Option.bind_some]
  exact ⟨_,rfl,.inr ⟨h1,seed,t',_,_,rfl,h',hp.trans q.symm⟩⟩
theorem PR.insert_yes(h:PR n p K){k:Str}(hk:k∈K):∃p',AV p k=some ([],p')∧PR n p' K:=by
 unfold AV Ao
 rcases h with ⟨h1,a,x,h2,h,hp⟩ | ⟨h1,seed,t,s,x,h2,h,hp⟩
 ·obtain ⟨a',x',e,h',q⟩:=h.insert_yes (hp.subset hk)
  rw [if_pos (by rw [h1];rfl),h2,om_some,e,Option.bind_some]
  exact ⟨_,rfl,.inl ⟨h1,a',x',rfl,h',hp.trans q.symm⟩⟩
 ·obtain ⟨t',e,h',q⟩:=h.insert_yes (hp.subset hk)
  rw [if_neg (k1f h1),if_pos (by rw [h1];rfl),h2,om_some,e,Option.bind_some]
  exact ⟨_,rfl,.inr ⟨h1,seed,t',_,_,rfl,h',hp.trans q.symm⟩⟩
def Goes(k:Str)(K K' g:List Str):Prop:=(g=[]∧K'=k::K)∨∃o,g=[o]∧o∈k::K∧K'=TL.rm (k::K) o
theorem PR.insert(h:PR n p K){k:Str}(hk:k∉K)(h64:k.length≤64):∃g p' K',AV p k=some (g,p')∧PR n p' K'∧Goes k K K' g∧(K.length<n→g=[]):=by
 unfold AV Ao
 rcases h with ⟨h1,a,x,h2,h,hp⟩ | ⟨h1,seed,t,s,x,h2,h,hp⟩
 ·obtain ⟨g,a',x',e,h',q⟩:=h.insert (fun z=>hk (hp.symm.subset z)) h64
  rw [if_pos (by rw [h1];rfl),h2,om_some,e,Option.bind_some]
  rcases q with ⟨rfl,q⟩ | ⟨o,rfl,q1,q2⟩
  ·exact ⟨_,_,k::K,rfl,.inl ⟨h1,a',x',rfl,h',(hp.cons k).trans q.symm⟩,.inl ⟨rfl,rfl⟩,fun _=>rfl⟩
  ·have ho:o∈K:=hp.symm.subset q1.1
   have hne:¬k=o:=fun z=>hk (z▸ho)
   have e2:TL.rm (k::K) o=k::TL.rm K o:=by
    unfold TL.rm;rw [List.filter_cons,if_pos (by simp [hne])]
   exact ⟨_,_,TL.rm (k::K) o,rfl,.inl ⟨h1,a',x',rfl,h',by rw [e2];exact ((rm_pm hp o).cons k).trans q2.symm⟩,.inr ⟨o,rfl,List.mem_cons_of_mem _ ho,rfl⟩,fun z=>by have:=hp.length_eq;have:=q1.2;omega⟩
 ·obtain ⟨t',e,h',q⟩:=h.insert_no (fun z=>hk (hp.symm.subset z)) h64
  rw [if_neg (k1f h1),if_pos (by rw [h1];rfl),h2,om_some,e,Option.bind_some]
  rcases q with ⟨q0,q⟩ | ⟨o,q0,q1,q2⟩
  ·exact ⟨_,_,k::K,rfl,.inr ⟨h1,seed,t',_,_,rfl,h',(hp.cons k).trans q.symm⟩,.inl ⟨q0,rfl⟩,fun _=>q0⟩
  ·exact ⟨_,_,TL.rm (k::K) o,rfl,.inr ⟨h1,seed,t',_,_,rfl,h',(rm_pm (hp.cons k) o).trans q2.symm⟩,.inr ⟨o,q0,(hp.cons k).symm.subset q1,rfl⟩,fun z=>ins_room h (fun z=>hk (hp.symm.subset z)) (by have:=hp.length_eq;rw [all_n] at this;omega)⟩
theorem evk_mem{x:TL}{o:Str}(h:evk x=some o):o∈x.all:=by
 unfold evk at h
 unfold TL.all
 cases e1:x.b.getLast? with
 | some k=>rw [e1] at h;cases h;have:=List.mem_of_getLast? e1;simp [this]
 | none =>
  rw [e1] at h;dsimp only at h
  cases e2:x.a.getLast? with
  | some k=>rw [e2] at h;cases h;have:=List.mem_of_getLast? e2;simp [this]
  | none=>rw [e2] at h;have:=List.mem_of_getLast? h;simp [this]
theorem PR.evict(h:PR n p K):(K=[]∧∃p',Ba p=some ([],false,p')∧PR n p' K)∨∃o p',Ba p=some (o,true,p')∧o∈K∧PR n p' (TL.rm K o):=by
 unfold Ba Ao
 rcases h with ⟨h1,a,x,h2,h,hp⟩ | ⟨h1,seed,t,s,x,h2,h,hp⟩
 ·rw [if_pos (by rw [h1];rfl),h2,om_some]
  rcases h.evict with ⟨e0,e⟩ | ⟨o,a',x',e,h',om,q⟩
  ·rw [e,Option.bind_some]
   refine .inl ⟨?_,_,rfl,.inl ⟨h1,a,x,rfl,h,hp⟩⟩
   rw [e0] at hp;exact hp.eq_nil
  ·rw [e,Option.bind_some]
   exact .inr ⟨o,_,rfl,hp.symm.subset om,.inl ⟨h1,a',x',rfl,h',(rm_pm hp o).trans q.symm⟩⟩
 ·rw [if_neg (k1f h1),if_pos (by rw [h1];rfl),h2,om_some]
  obtain ⟨t',x',e,h',ex⟩:=h.Evict
  rw [e]
  cases ek:evk x with
  | none =>
   rw [ek] at ex;dsimp only at ex
   rw [Option.bind_some]
   have:=evk_none ek
   refine .inl ⟨?_,_,rfl,.inr ⟨h1,seed,t',s,x',rfl,h',by rw [ex];exact hp⟩⟩
   rw [this] at hp;exact hp.eq_nil
  | some o =>
   rw [ek] at ex;dsimp only at ex
   rw [Option.bind_some]
   exact .inr ⟨o,_,rfl,hp.symm.subset (evk_mem ek),.inr ⟨h1,seed,t',s,x',rfl,h',by rw [ex,drop_all];exact rm_pm hp o⟩⟩
end
theorem new_p1(n:Nat)(seed:UInt64)(h1:1≤n)(h2:n≤1000):∃p,Ci 1 (n:Int) seed=some (some p,0)∧PR n p []:=by
 obtain ⟨a,e,h⟩:=new_a n h1 h2
 unfold Ci
 rw [if_pos (by rfl),e,Option.bind_some,Option.bind_some,if_neg (by simp)]
 exact ⟨_,rfl,.inl ⟨rfl,a,_,rfl,h,List.Perm.refl _⟩⟩
theorem new_p2(n:Nat)(seed:UInt64)(h1:1≤n)(h2:n≤1000):∃p,Ci 2 (n:Int) seed=some (some p,0)∧PR n p []:=by
 obtain ⟨t,s,e,h,_⟩:=new_t n seed h1 h2
 unfold Ci
 rw [if_neg (by decide),if_pos (by rfl),e,Option.bind_some,Option.bind_some,Option.bind_some,if_neg (by simp)]
 exact ⟨_,rfl,.inr ⟨rfl,seed,t,s,_,rfl,h,List.Perm.refl _⟩⟩
abbrev TM:=List (Str×Ak)
def esz(e:Ak):Nat:=e.Key.length+e.Value.length
def msz(m:TM):Nat:=(m.map fun p=>esz p.2).sum
def keys(m:TM):List Str:=m.map (·.1)
theorem mget_mem{m:TM}{k:Str}{e:Ak}(h:mget m k=some e):(k,e)∈m:=by
 induction m with
 | nil=>cases h
 | cons p m ih =>
  obtain ⟨a,u⟩:=p
  unfold mget at h
  split at h
  ·rename_i hk
   have:=eq_of_beq hk;subst this;cases h;simp
  ·exact List.mem_cons_of_mem _ (ih h)
theorem mem_mget{m:TM}(hu:Uk m){k:Str}{e:Ak}(h:(k,e)∈m):mget m k=some e:=by
 induction m with
 | nil=>cases h
 | cons p m ih =>
  obtain ⟨a,u⟩:=p
  unfold Uk at hu ih
  simp only [List.map_cons,List.nodup_cons] at hu
  rcases List.mem_cons.1 h with q | q
  ·cases q;unfold mget;rw [if_pos (by simp)]
  ·unfold mget
   have hne:¬(k==a)=true:=fun z=>hu.1 (by rw [←eq_of_beq z];exact List.mem_map.2 ⟨_,q,rfl⟩)
   rw [if_neg hne];exact ih hu.2 q
theorem mget_keys{m:TM}{k:Str}: (mget m k).isSome=decide (k∈keys m):=by
 have:=mget_none m k
 cases h:mget m k with
 | none=>have h2:=this.1 h;unfold keys;rw [decide_eq_false h2];rfl
 | some e=>simp;unfold keys;exact List.mem_map.2 ⟨_,mget_mem h,rfl⟩
theorem mdel_no{m:TM}{k:Str}(h:mget m k=none):mdel m k=m:=by
 induction m with
 | nil=>rfl
 | cons p m ih =>
  obtain ⟨a,u⟩:=p
  unfold mget at h
  unfold mdel
  split at h
  ·cases h
  ·rename_i hk;rw [if_neg hk,ih h]
theorem mput_no{m:TM}{k:Str}{e:Ak}(h:mget m k=none):mput m k e=m++[(k,e)]:=by
 induction m with
 | nil=>rfl
 | cons p m ih =>
  obtain ⟨a,u⟩:=p
  unfold mget at h
  unfold mput
  split at h
  ·cases h
  ·rename_i hk;rw [if_neg hk,ih h];rfl
theorem msz_del{m:TM}{k:Str}{e:Ak}(h:mget m k=some e):msz (mdel m k)+esz e=msz m:=by
 induction m with
 | nil=>cases h
 | cons p m ih =>
  obtain ⟨a,u⟩:=p
  unfold mget at h
  unfold mdel
  split at h
  ·rename_i hk;cases h;rw [if_pos hk];unfold msz;simp;omega
  ·rename_i hk;rw [if_neg hk]
   have:=ih h
   unfold msz at this ⊢;simp at this ⊢;omega
theorem keys_del{m:TM}(hu:Uk m)(k:Str):keys (mdel m k)=TL.rm (keys m) k:=by
 induction m with
 | nil=>rfl
 | cons p m ih =>
  obtain ⟨a,u⟩:=p
  unfold Uk at hu ih
  simp only [List.map_cons,List.nodup_cons] at hu
  unfold mdel
  by_cases hk:(k==a)=true
  ·have:=eq_of_beq hk;subst this
   rw [if_pos hk]
   show keys m=TL.rm (k::keys m) k
   unfold TL.rm
   rw [List.filter_cons,if_neg (by simp)]
   exact (filter_no hu.1).symm
  ·rw [if_neg hk]
   show a::keys (mdel m k)=TL.rm (a::keys m) k
   rw [ih hu.2]
   unfold TL.rm
   rw [List.filter_cons,if_pos (by simp only [Bool.not_eq_true',beq_eq_false_iff_ne,ne_eq];intro z;exact hk (by simp [z]))]
theorem mdel_sub{m:TM}{k:Str}{p:Str×Ak}(h:p∈mdel m k):p∈m:=by
 induction m with
 | nil=>cases h
 | cons q m ih =>
  obtain ⟨a,u⟩:=q
  unfold mdel at h
  split at h
  ·exact List.mem_cons_of_mem _ h
  ·rcases List.mem_cons.1 h with z | z
   ·rw [z];simp
   ·exact List.mem_cons_of_mem _ (ih z)
theorem msz_le{m:TM}{c:Nat}(h:∀p∈m,esz p.2≤c):msz m≤m.length*c:=by
 induction m with
 | nil=>simp [msz]
 | cons p m ih =>
  have:=ih fun q hq=>h q (by simp [hq])
  have h0:=h p (by simp)
  unfold msz at this ⊢
  simp only [List.map_cons,List.sum_cons,List.length_cons]
  rw [Nat.succ_mul];omega
structure TB (K:List Str) (t:Ah):Prop where
 uk:Uk t.m
 en:∀p∈t.m,p.2.Key=p.1∧p.1.length≤64∧p.2.Value.length≤4096
 sz:t.bytes=(msz t.m:Int)
 pm:(keys t.m).Perm K
 le:K.length≤1001
section
variable {K:List Str} {t:Ah}
theorem TB.len(h:TB K t):t.m.length=K.length:=by have:=h.pm.length_eq;unfold keys at this;simpa using this
theorem TB.es(h:TB K t):∀p∈t.m,esz p.2≤4160:=fun p hp=>by
 obtain ⟨h1,h2,h3⟩:=h.en p hp
 unfold esz;rw [h1];omega
theorem TB.msz(h:TB K t):msz t.m≤4164160:=by
 have:=msz_le h.es
 rw [h.len] at this
 have:=h.le
 omega
theorem TB.has(h:TB K t)(k:Str):(mget t.m k).isSome=decide (k∈K):=by
 rw [mget_keys]
 have:=h.pm.mem_iff (a:=k)
 simp only [this]
theorem TB.perm(h:TB K t){K':List Str}(hp:K.Perm K'):TB K' t:=⟨h.uk,h.en,h.sz,h.pm.trans hp,by rw [←hp.length_eq];exact h.le⟩
theorem size_e{e:Ak}(h:esz e≤100000):Da e=(esz e:Int):=by
 unfold Da esz at *
 rw [i64s _ (by omega) (by omega)];omega
theorem TB.drop(h:TB K t)(k:Str):∃t',AS t k=(decide (k∈K),t')∧t'.m=mdel t.m k∧TB (TL.rm K k) t':=by
 have hs:=h.has k
 unfold AS AA
 rw [lt_eq]
 dsimp only
 cases hg:mget t.m k with
 | none =>
  rw [hg] at hs
  have hk:k∉K:=by simpa using hs
  rw [if_neg (by simp)]
  refine ⟨t,by simp [hk],(mdel_no hg).symm,?_⟩
  rw [rm_no hk];exact h
 | some e =>
  rw [hg] at hs
  have hk:k∈K:=by simpa using hs
  have he:esz e≤4160:=h.es _ (mget_mem hg)
  have hd:=msz_del hg
  have hm:=h.msz
  rw [if_pos (by rfl)]
  dsimp only [Option.getD_some]
  rw [size_e (by omega),h.sz]
  have e1:i64 ((Pure.msz t.m:Int)-(esz e:Int))=(Pure.msz (mdel t.m k):Int):=by rw [i64s _ (by omega) (by omega)];omega
  rw [e1]
  refine ⟨⟨mdel t.m k,(Pure.msz (mdel t.m k):Int)⟩,by rw [decide_eq_true hk];rfl,rfl,⟨h.uk.del k,fun p hp=>h.en p (mdel_sub hp),rfl,?_,?_⟩⟩
  ·show (keys (mdel t.m k)).Perm _
   rw [keys_del h.uk];exact rm_pm h.pm k
  ·exact Nat.le_trans (rm_le K k) h.le
theorem TB.put(h:TB K t){e:Ak}(h64:e.Key.length≤64)(hv:e.Value.length≤4096)(hl:(TL.rm K e.Key).length≤1000):∃t',Bd t e=t'∧t'.m=mput (mdel t.m e.Key) e.Key e∧TB (e.Key::TL.rm K e.Key) t':=by
 obtain ⟨t1,e1,e2,h1⟩:=h.drop e.Key
 have hno:mget (mdel t.m e.Key) e.Key=none:=by rw [mget_del _ _ _ h.uk,if_pos (by simp)]
 have hm:=h1.msz
 have hz:esz e≤4160:=by unfold esz;omega
 unfold Bd
 rw [lt_eq,e1]
 dsimp only
 rw [size_e (by omega),h1.sz,e2]
 have ep:=mput_no (e:=e) hno
 have es:Pure.msz (mput (mdel t.m e.Key) e.Key e)=Pure.msz (mdel t.m e.Key)+esz e:=by
  rw [ep];unfold Pure.msz;simp
 rw [e2] at hm
 have e3:i64 ((Pure.msz (mdel t.m e.Key):Int)+(esz e:Int))=(Pure.msz (mput (mdel t.m e.Key) e.Key e):Int):=by rw [i64s _ (by omega) (by omega),es];omega
 rw [e3]
 refine ⟨_,rfl,rfl,⟨(h.uk.del _).put _ _,fun p hp => ?_,rfl,?_,by simp;omega⟩⟩
 ·dsimp only at hp
  rw [ep] at hp
  rcases List.mem_append.1 hp with q | q
  ·exact h.en p (mdel_sub q)
  ·simp at q;subst q;exact ⟨rfl,h64,hv⟩
 ·dsimp only
  rw [ep]
  unfold keys
  rw [List.map_append]
  have:=h1.pm
  rw [e2] at this
  unfold keys at this
  exact List.perm_append_comm.trans (this.cons _)
end
theorem awake12:Cq=some true:=by decide +kernel
theorem i_a1{j:Nat}(h:j<4294967296):i64 ((j:Int)+1)=((j+1:Nat):Int):=by rw [i64s] <;> omega
theorem drop_at'{α:Type}{l:List α}{j:Nat}(h:j<l.length):l.drop j=l[j]::l.drop (j+1):=by rw [List.drop_eq_getElem_cons h]
section
variable {K:List Str} {t:Ah}
theorem TB.mkeys(h:TB K t):Hw.mkeys t.m=some (ksort (keys t.m)):=by
 have hl:=h.len
 have:=h.le
 unfold Hw.mkeys
 rw [if_pos (by
  rw [Bool.and_eq_true]
  refine ⟨by simp;omega,?_⟩
  rw [List.all_eq_true]
  intro p hp
  have:=(h.en p hp).2.1
  simp;omega)]
 rfl
def endsAt(m:TM)(now:UInt64)(k:Str):Prop:=∃e,mget m k=some e∧e.End.toNat≠0∧e.End.toNat≤now.toNat
theorem TB.ended(h:TB K t)(now:UInt64):∃L,BF t now=some L∧L.Nodup∧L.length≤1001∧∀k,k∈L↔endsAt t.m now k:=by
 unfold BF
 rw [h.mkeys,Option.bind_some]
 have hp:=ksort_perm (keys t.m)
 refine ⟨_,rfl,(hp.nodup_iff.2 h.uk).filter _,?_,fun k => ?_⟩
 ·refine Nat.le_trans (List.length_filter_le _ _) ?_
  rw [hp.length_eq];unfold keys;have:=h.len;have:=h.le;simp;omega
 ·rw [List.mem_filter,hp.mem_iff]
  unfold endsAt endp
  constructor
  ·rintro ⟨h1,h2⟩
   have:=mget_keys (m:=t.m) (k:=k)
   cases hg:mget t.m k with
   | none=>rw [hg] at this;simp [h1] at this
   | some e =>
    rw [hg] at h2
    refine ⟨e,rfl,?_⟩
    simp only [Option.getD_some,Bool.not_eq_true',Bool.or_eq_false_iff,beq_eq_false_iff_ne,ne_eq,decide_eq_false_iff_not,Nat.not_lt] at h2
    exact h2
  ·rintro ⟨e,hg,h1,h2⟩
   refine ⟨List.mem_map.2 ⟨_,mget_mem hg,rfl⟩,?_⟩
   rw [hg]
   simp only [Option.getD_some,Bool.not_eq_true',Bool.or_eq_false_iff,beq_eq_false_iff_ne,ne_eq,decide_eq_false_iff_not,Nat.not_lt]
   exact ⟨h1,h2⟩
end
def mdels(m:TM)(L:List Str):TM:=L.foldl (fun m k=>mdel m k) m
def rms(K:List Str)(L:List Str):List Str:=L.foldl TL.rm K
theorem mget_dels:∀(L:List Str) (m:TM),Uk m→(∀k,mget (mdels m L) k=if k∈L then none else mget m k)∧Uk (mdels m L):=by
 intro L
 induction L with
 | nil=>exact fun m h=>⟨fun k=>rfl,h⟩
 | cons x L ih =>
  intro m h
  obtain ⟨h1,h2⟩:=ih (mdel m x) (h.del x)
  refine ⟨fun k => ?_,h2⟩
  show mget (mdels (mdel m x) L) k=_
  rw [h1,mget_del _ _ _ h]
  by_cases hk:k=x
  ·subst hk;simp
  ·simp [hk]
theorem mem_rms(L:List Str):∀(K:List Str) (k:Str),k∈rms K L↔k∈K∧k∉L:=by
 induction L with
 | nil=>intro K k;simp [rms]
 | cons x L ih =>
  intro K k
  show k∈rms (TL.rm K x) L↔_
  rw [ih,rm_mem];simp [and_assoc]
theorem ap_l0(n:Nat)(L:List Str)(hL:L.length≤2000):∀(f i:Nat) (t:Ah) (p:Ac) (K:List Str),f=L.length-i+1→i≤L.length→TB K t→PR n p K →
  ∃t' p',A3 L f (i:Int) t.bytes (some p) t.m=some (t'.bytes,some p',t'.m)∧TB (rms K (L.drop i)) t'∧PR n p' (rms K (L.drop i))∧t'.m=mdels t.m (L.drop i):=by
 intro f
 induction f with
 | zero=>intro i t p K h;omega
 | succ f ih =>
  intro i t p K hf hi ht hp
  unfold A3
  by_cases c:i<L.length
  ·obtain ⟨t1,e1,e2,h1⟩:=ht.drop L[i]
   obtain ⟨b,p1,e3,h2⟩:=hp.remove L[i]
   rw [if_pos (by simpa using c),gN c,Option.bind_some,lt_eq,show (⟨t.m,t.bytes⟩:Ah)=t from rfl,e1,om_some,e3,Option.bind_some,i_a1 (by omega)]
   obtain ⟨t',p',q1,q2,q3,q4⟩:=ih (i+1) t1 p1 (TL.rm K L[i]) (by omega) (by omega) h1 h2
   refine ⟨t',p',q1,?_,?_,?_⟩
   ·rw [drop_at' c];exact q2
   ·rw [drop_at' c];exact q3
   ·rw [drop_at' c,q4,e2];rfl
  ·rw [if_neg (by simpa using c),List.drop_eq_nil_of_le (by omega)]
   exact ⟨t,p,rfl,ht,hp,rfl⟩
theorem put_l0(n:Nat)(s:Ad)(B:Nat)(hB:s.c.Bytes=(B:Int)):∀(f:Nat) (t:Ah) (p:Ac) (K:List Str),K.length<f→TB K t→PR n p K →
  ∃t' p' K',Bp s f p t.bytes t.m=some (p',t'.bytes,t'.m)∧TB K' t'∧PR n p' K'∧msz t'.m≤B∧(∀k e,mget t'.m k=some e→mget t.m k=some e)∧(msz t.m≤B→t'=t∧K'=K):=by
 intro f
 induction f with
 | zero=>intro t p K h;omega
 | succ f ih =>
  intro t p K hf ht hp
  unfold Bp Bn
  dsimp only
  rw [hB,ht.sz]
  by_cases c:B<msz t.m
  ·rw [if_pos (by simpa using c)]
   rcases hp.evict with ⟨e0,_⟩ | ⟨o,p1,e1,om,h1⟩
   ·exfalso
    have:=ht.len
    rw [e0] at this
    rw [List.length_eq_zero_iff.1 this] at c
    simp [msz] at c
   ·obtain ⟨t1,e2,e3,h2⟩:=ht.drop o
    have:=rm_len hp.nd om
    rw [e1,Option.bind_some,if_neg (by simp),lt_eq,←ht.sz,show (⟨t.m,t.bytes⟩:Ah)=t from rfl,e2]
    obtain ⟨t',p',K',q1,q2,q3,q4,q5,q6⟩:=ih t1 p1 (TL.rm K o) (by omega) h2 h1
    refine ⟨t',p',K',q1,q2,q3,q4,fun k e hk => ?_,fun z=>by omega⟩
    have:=q5 k e hk
    rw [e3,mget_del _ _ _ ht.uk] at this
    split at this
    ·cases this
    ·exact this
  ·rw [if_neg (by simpa using c),←ht.sz]
   exact ⟨t,p,K,rfl,ht,hp,by omega,fun _ _ h=>h,fun _=>⟨rfl,rfl⟩⟩
theorem put_l1(g:List Str)(p:Ac)(hg:g.length≤1)(t:Ah)(K:List Str)(ht:TB K t):∃t',A2 (g,p) (((g.length:Int)-0).toNat+1) 0 t.bytes t.m=some (t'.bytes,t'.m)∧TB (rms K g) t'∧t'.m=mdels t.m g:=by
 match g,hg with
 | [],_ =>
  unfold A2
  rw [if_neg (by simp)]
  exact ⟨t,rfl,ht,rfl⟩
 | [o],_ =>
  obtain ⟨t1,e1,e2,h1⟩:=ht.drop o
  show ∃t',A2 ([o],p) 2 0 t.bytes t.m=_∧_
  unfold A2
  rw [if_pos (by simp),show gi [o] 0=some o from rfl,Option.bind_some,lt_eq,show (⟨t.m,t.bytes⟩:Ah)=t from rfl,e1]
  unfold A2
  rw [if_neg (by show ¬decide (i64 ((0:Int)+1)<((1:Nat):Int))=true;decide)]
  exact ⟨t1,rfl,h1,e2⟩
def endv(now ttl:UInt64):UInt64:=if (decide (0<ttl)&&decide (now<18446744073709551615)) then now+(if (18446744073709551615-now)<ttl then 18446744073709551615-now else ttl) else 0
theorem endv_ok(now ttl:UInt64):(endv now ttl).toNat=0∨now.toNat<(endv now ttl).toNat:=by
 unfold endv
 by_cases c:(decide (0<ttl)&&decide (now<18446744073709551615))=true
 ·rw [if_pos c]
  simp only [Bool.and_eq_true,decide_eq_true_eq,UInt64.lt_iff_toNat_lt] at c
  have h1:(0:UInt64).toNat=0:=rfl
  have h2:(18446744073709551615:UInt64).toNat=18446744073709551615:=rfl
  have hs:(18446744073709551615-now).toNat=18446744073709551615-now.toNat:=by
   rw [UInt64.toNat_sub_of_le _ _ (by rw [UInt64.le_iff_toNat_le];omega)];omega
  right
  by_cases c2:(18446744073709551615-now)<ttl
  ·rw [if_pos c2,UInt64.toNat_add,hs];omega
  ·rw [if_neg c2]
   rw [UInt64.lt_iff_toNat_lt,hs] at c2
   rw [UInt64.toNat_add];omega
 ·rw [if_neg c];left;rfl
theorem st_put{n B:Nat}{c:Av}{t:Ah}{p:Ac}{ss:List (UInt64×Ap)}{sq nw vr:UInt64}{ty:BJ}{o:AH}{K:List Str}(hB:c.Bytes=(B:Int))(hB2:B≤1048576)(ht:TB K t)(hp:PR n p K)
  (hk:o.Key.length≤64) (hv:o.Value.length≤4096) :
  (B<o.Key.length+o.Value.length∧AW ⟨c,some t,some p,ss,sq,nw,vr,ty⟩ o=some ((⟨120,[],0⟩:Ar),⟨c,some t,some p,ss,sq,nw,vr,ty⟩)) ∨
  (o.Key.length+o.Value.length≤B∧∃t' p' K',AW ⟨c,some t,some p,ss,sq,nw,vr,ty⟩ o=some ((⟨0,[],vr+1⟩:Ar),⟨c,some t',some p',ss,sq,nw,vr+1,ty⟩)∧TB K' t'∧PR n p' K'∧msz t'.m≤B ∧
   (∀k e,mget t'.m k=some e→(k≠o.Key∧mget t.m k=some e)∨(k=o.Key∧e=⟨o.Key,o.Value,vr+1,endv nw o.TTL⟩)) ∧
   ((o.Key∈K∨K.length<n)→msz (mput (mdel t.m o.Key) o.Key ⟨o.Key,o.Value,vr+1,endv nw o.TTL⟩)≤B→t'.m=mput (mdel t.m o.Key) o.Key ⟨o.Key,o.Value,vr+1,endv nw o.TTL⟩∧K'.Perm (o.Key::TL.rm K o.Key))):=by
 have hn:=hp.n1
 have hKn:=hp.le
 have e0:i64 ((o.Key.length:Int)+(o.Value.length:Int))=((o.Key.length+o.Value.length:Nat):Int):=by rw [i64s _ (by omega) (by omega)];omega
 unfold AW
 dsimp only
 rw [hB,e0]
 by_cases cb:B<o.Key.length+o.Value.length
 ·left
  rw [if_pos (by simp;omega)]
  exact ⟨cb,rfl⟩
 ·right
  refine ⟨by omega,?_⟩
  rw [if_neg (by simp;omega)]
  have eE:(if (decide (0<o.TTL)&&decide (nw<18446744073709551615))=true then some (nw+(if (18446744073709551615-nw)<o.TTL then 18446744073709551615-nw else o.TTL)) else some 0)=some (endv nw o.TTL):=by
   unfold endv;split <;> rfl
  rw [eE,Option.bind_some,om_some,lt_eq]
  generalize endv nw o.TTL=en
  have hrm:=rm_le K o.Key
  obtain ⟨t1,e1,e2,h1⟩:=ht.put (e:=(⟨o.Key,o.Value,vr+1,en⟩:Ak)) hk hv (by dsimp only;omega)
  dsimp only at e1 e2 h1
  rw [e1,om_some]
  have PI:∃g p1 K1,AV p o.Key=some (g,p1)∧PR n p1 K1∧g.length≤1∧K1.Perm (rms (o.Key::TL.rm K o.Key) g)∧((o.Key∈K∨K.length<n)→g=[]):=by
   by_cases ck:o.Key∈K
   ·obtain ⟨p1,e,q⟩:=hp.insert_yes ck
    exact ⟨[],p1,K,e,q,by simp,rm_perm hp.nd ck,fun _=>rfl⟩
   ·obtain ⟨g,p1,K1,e,q,hg,hr⟩:=hp.insert ck hk
    refine ⟨g,p1,K1,e,q,?_,?_,fun z=>hr (z.resolve_left ck)⟩
    ·rcases hg with ⟨rfl,_⟩ | ⟨x,rfl,_⟩ <;> simp
    ·rw [rm_no ck]
     rcases hg with ⟨rfl,rfl⟩ | ⟨x,rfl,_,rfl⟩
     ·exact List.Perm.refl _
     ·exact List.Perm.refl _
  obtain ⟨g,p1,K1,e3,h2,hg,hK1,hgn⟩:=PI
  obtain ⟨t2,e4,h3,e5⟩:=put_l1 g p1 hg t1 _ h1
  have h3':=h3.perm hK1.symm
  have hK1n:=h2.le
  obtain ⟨t3,p3,K3,e6,h4,h5,h6,h7,h8⟩:=put_l0 n ⟨c,some t,some p,ss,sq,nw,vr,ty⟩ B hB 1100 t2 p1 K1 (by omega) h3' h2
  rw [e3,Option.bind_some]
  dsimp only
  rw [e4,Option.bind_some]
  dsimp only
  rw [e6,Option.bind_some]
  refine ⟨t3,p3,K3,rfl,h4,h5,h6,fun k e hke => ?_,fun z1 z2 => ?_⟩
  ·have q:=h7 k e hke
   rw [e5,(mget_dels g _ h1.uk).1] at q
   split at q
   ·cases q
   ·rw [e2,mget_put,mget_del _ _ _ ht.uk] at q
    by_cases hke2:k=o.Key
    ·subst hke2;rw [if_pos (by simp)] at q;exact .inr ⟨rfl,(Option.some.inj q).symm⟩
    ·rw [if_neg (by simpa using hke2),if_neg (by simpa using hke2)] at q;exact .inl ⟨hke2,q⟩
  ·have hg0:=hgn z1
   subst hg0
   have et:t2.m=t1.m:=e5
   obtain ⟨q1,q2⟩:=h8 (by rw [et,e2];exact z2)
   rw [q1,et,e2,q2]
   exact ⟨rfl,hK1⟩
end Go.Proofs.YtpanhdnglicknaaGreat.Pure
