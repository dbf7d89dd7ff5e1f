import Derived.Test.YtpanhdnglicknaaGreatW5
import Derived.Test.YtpanhdnglicknaaGreatQ0
import Derived.Test.YtpanhdnglicknaaGreatQ1
set_option linter.unusedVariables false
set_option linter.unusedSectionVars false
set_option linter.unusedSimpArgs false
set_option maxRecDepth 100000
set_option maxHeartbeats 4000000
namespace Go.Proofs.YtpanhdnglicknaaGreat.Pure
open Go Go.Proofs.YtpanhdnglicknaaGreat.Hw Go.Proofs.YtpanhdnglicknaaGreat
theorem TR.Miss{n:Nat}{seed:UInt64}{t:Ao}{s:Sk}{x:TL}(h:TR n seed t s x){k:Str}(hk:k.length≤64):∃t',DW t k=some t'∧TR n seed t' (ad (wd n) seed s k) x:=by
 unfold DW
 rw [if_pos (by simp;omega),h.sk,om_some,h.add (by omega),ob_]
 obtain ⟨r,hr,hR⟩:=h.rg
 exact ⟨_,rfl,⟨h.n1,h.n2,h.ms,rfl,h.adok k,⟨r,hr,hR⟩,h.bb,h.ba,h.bc⟩⟩
theorem ins_room{n:Nat}{seed:UInt64}{t:Ao}{s s':Sk}{x:TL}(_:TR n seed t s x){k:Str}(hk:k∉x.all)(hn:x.n<n):(ins n seed s' x k).2=[]:=by
 have hal:(x.fr0 k).all=k::x.all:=by rw [fr0_new hk];rfl
 have hyn:(x.fr0 k).n=x.n+1:=by rw [←all_n,hal,List.length_cons,all_n]
 unfold ins
 by_cases c:(x.fr0 k).a.length≤Wn n
 ·rw [if_pos c]
 ·rw [if_neg c,if_pos (by omega)]
def PR(n:Nat)(p:Ah)(K:List Str):Prop :=
 (p.kind=1∧∃a x,p.a=some a∧AR n a x∧K.Perm x.kept)∨(p.kind=2∧∃seed t s x,p.t=some t∧TR n seed t s x∧K.Perm x.all)
theorem rm_pm{l m:List Str}(h:l.Perm m)(k:Str):(TL.rm l k).Perm (TL.rm m k):=h.filter _
section
variable {n:Nat} {p:Ah} {K:List Str}
theorem PR.nd(h:PR n p K):K.Nodup:=by
 rcases h with ⟨_,a,x,_,h,hp⟩ | ⟨_,seed,t,s,x,_,h,hp⟩
 ·exact hp.nodup_iff.2 h.knd
 ·exact hp.nodup_iff.2 h.nd
theorem PR.le(h:PR n p K):K.length≤n:=by
 rcases h with ⟨_,a,x,_,h,hp⟩ | ⟨_,seed,t,s,x,_,h,hp⟩
 ·rw [hp.length_eq];unfold AL.kept;have:=h.b1;simp;omega
 ·rw [hp.length_eq,all_n];exact h.bn
theorem PR.kl(h:PR n p K):∀k∈K,k.length≤64:=by
 rcases h with ⟨_,a,x,_,h,hp⟩ | ⟨_,seed,t,s,x,_,h,hp⟩
 ·exact fun k hk=>h.kl k (mem_all.2 ((mem_kept.1 (hp.subset hk)).imp id .inl))
 ·exact fun k hk=>h.kl k (hp.subset hk)
theorem PR.n1(h:PR n p K):1≤n∧n≤1000:=by
 rcases h with ⟨_,a,x,_,h,hp⟩ | ⟨_,seed,t,s,x,_,h,hp⟩
 ·exact ⟨h.n1,h.n2⟩
 ·exact ⟨h.n1,h.n2⟩
theorem PR.perm(h:PR n p K){K':List Str}(hp:K'.Perm K):PR n p K':=by
 rcases h with ⟨h1,a,x,h2,h,hq⟩ | ⟨h1,seed,t,s,x,h2,h,hq⟩
 ·exact .inl ⟨h1,a,x,h2,h,hp.trans hq⟩
 ·exact .inr ⟨h1,seed,t,s,x,h2,h,hp.trans hq⟩
theorem k1f{k:Int}(h:k=2):¬(k==1)=true:=by subst h;decide
theorem PR.remove(h:PR n p K)(k:Str):∃b p',Bd p k=some (b,p')∧PR n p' (TL.rm K k):=by
 unfold Bd AA
 rcases h with ⟨h1,a,x,h2,h,hp⟩ | ⟨h1,seed,t,s,x,h2,h,hp⟩
 ·obtain ⟨a',e,h'⟩:=h.remove k
  rw [if_pos (by rw [h1];rfl),h2,om_some,e,ob_]
  exact ⟨_,_,rfl,.inl ⟨h1,a',_,rfl,h',by rw [drop_kept];exact rm_pm hp k⟩⟩
 ·obtain ⟨t',e,h'⟩:=h.Remove k
  rw [if_neg (k1f h1),if_pos (by rw [h1];rfl),h2,om_some,e,ob_]
  exact ⟨_,_,rfl,.inr ⟨h1,seed,t',s,_,rfl,h',by rw [drop_all];exact rm_pm hp k⟩⟩
theorem PR.miss(h:PR n p K){k:Str}(hk:k.length≤64):∃p',Cc p k=some p'∧PR n p' K:=by
 have hh:=h
 unfold Cc AA
 rcases h with ⟨h1,a,x,h2,h,hp⟩ | ⟨h1,seed,t,s,x,h2,h,hp⟩
 ·rw [if_neg (by rw [h1];decide)]
  exact ⟨p,rfl,hh⟩
 ·rw [if_pos (by rw [h1];rfl),h2,om_some,if_pos (by dsimp only;rw [h1];rfl),h.Has,ob_]
  by_cases hx:k∈x.all
  ·rw [if_neg (by simp [hx])]
   exact ⟨p,rfl,hh⟩
  ·obtain ⟨t',e,h'⟩:=h.Miss hk
   rw [if_pos (by simp [hx]),e,ob_]
   exact ⟨_,rfl,.inr ⟨h1,seed,t',_,x,rfl,h',hp⟩⟩
theorem PR.touch(h:PR n p K){k:Str}(hk:k∈K):∃p',BZ p k=some (true,p')∧PR n p' K:=by
 unfold BZ AA
 rcases h with ⟨h1,a,x,h2,h,hp⟩ | ⟨h1,seed,t,s,x,h2,h,hp⟩
 ·obtain ⟨a',x',e,h',q⟩:=h.touch (hp.subset hk)
  rw [if_pos (by rw [h1];rfl),h2,om_some,e,ob_]
  exact ⟨_,rfl,.inl ⟨h1,a',x',rfl,h',hp.trans q.symm⟩⟩
 ·obtain ⟨t',e,h',q⟩:=h.touch (hp.subset hk)
  rw [if_neg (k1f h1),if_pos (by rw [h1];rfl),h2,om_some,e,ob_]
  exact ⟨_,rfl,.inr ⟨h1,seed,t',_,_,rfl,h',hp.trans q.symm⟩⟩
theorem PR.insert_yes(h:PR n p K){k:Str}(hk:k∈K):∃p',Ba p k=some ([],p')∧PR n p' K:=by
 unfold Ba AA
 rcases h with ⟨h1,a,x,h2,h,hp⟩ | ⟨h1,seed,t,s,x,h2,h,hp⟩
 ·obtain ⟨a',x',e,h',q⟩:=h.insert_yes (hp.subset hk)
  rw [if_pos (by rw [h1];rfl),h2,om_some,e,ob_]
  exact ⟨_,rfl,.inl ⟨h1,a',x',rfl,h',hp.trans q.symm⟩⟩
 ·obtain ⟨t',e,h',q⟩:=h.insert_yes (hp.subset hk)
  rw [if_neg (k1f h1),if_pos (by rw [h1];rfl),h2,om_some,e,ob_]
  exact ⟨_,rfl,.inr ⟨h1,seed,t',_,_,rfl,h',hp.trans q.symm⟩⟩
def Goes(k:Str)(K K' g:List Str):Prop:=(g=[]∧K'=k::K)∨∃o,g=[o]∧o∈k::K∧K'=TL.rm (k::K) o
theorem PR.insert(h:PR n p K){k:Str}(hk:k∉K)(h64:k.length≤64):∃g p' K',Ba p k=some (g,p')∧PR n p' K'∧Goes k K K' g∧(K.length<n→g=[]):=by
 unfold Ba AA
 rcases h with ⟨h1,a,x,h2,h,hp⟩ | ⟨h1,seed,t,s,x,h2,h,hp⟩
 ·obtain ⟨g,a',x',e,h',q⟩:=h.insert (fun z=>hk (hp.symm.subset z)) h64
  rw [if_pos (by rw [h1];rfl),h2,om_some,e,ob_]
  rcases q with ⟨rfl,q⟩ | ⟨o,rfl,q1,q2⟩
  ·exact ⟨_,_,k::K,rfl,.inl ⟨h1,a',x',rfl,h',(hp.cons k).trans q.symm⟩,.inl ⟨rfl,rfl⟩,fun _=>rfl⟩
  ·have ho:o∈K:=hp.symm.subset q1.1
   have hne:¬k=o:=fun z=>hk (z▸ho)
   have e2:TL.rm (k::K) o=k::TL.rm K o:=by
    unfold TL.rm;rw [List.filter_cons,if_pos (by simp [hne])]
   exact ⟨_,_,TL.rm (k::K) o,rfl,.inl ⟨h1,a',x',rfl,h',by rw [e2];exact ((rm_pm hp o).cons k).trans q2.symm⟩,.inr ⟨o,rfl,List.mem_cons_of_mem _ ho,rfl⟩,fun z=>by have:=hp.length_eq;have:=q1.2;omega⟩
 ·obtain ⟨t',e,h',q⟩:=h.insert_no (fun z=>hk (hp.symm.subset z)) h64
  rw [if_neg (k1f h1),if_pos (by rw [h1];rfl),h2,om_some,e,ob_]
  rcases q with ⟨q0,q⟩ | ⟨o,q0,q1,q2⟩
  ·exact ⟨_,_,k::K,rfl,.inr ⟨h1,seed,t',_,_,rfl,h',(hp.cons k).trans q.symm⟩,.inl ⟨q0,rfl⟩,fun _=>q0⟩
  ·exact ⟨_,_,TL.rm (k::K) o,rfl,.inr ⟨h1,seed,t',_,_,rfl,h',(rm_pm (hp.cons k) o).trans q2.symm⟩,.inr ⟨o,q0,(hp.cons k).symm.subset q1,rfl⟩,fun z=>ins_room h (fun z=>hk (hp.symm.subset z)) (by have:=hp.length_eq;rw [all_n] at this;omega)⟩
theorem evk_mem{x:TL}{o:Str}(h:evk x=some o):o∈x.all:=by
 unfold evk at h
 unfold TL.all
 cases e1:x.b.getLast? with
 | some k=>rw [e1] at h;cases h;have:=List.mem_of_getLast? e1;simp [this]
 | none =>
  rw [e1] at h;dsimp only at h
  cases e2:x.a.getLast? with
  | some k=>rw [e2] at h;cases h;have:=List.mem_of_getLast? e2;simp [this]
  | none=>rw [e2] at h;have:=List.mem_of_getLast? h;simp [this]
theorem PR.evict(h:PR n p K):(K=[]∧∃p',BL p=some ([],false,p')∧PR n p' K)∨∃o p',BL p=some (o,true,p')∧o∈K∧PR n p' (TL.rm K o):=by
 unfold BL AA
 rcases h with ⟨h1,a,x,h2,h,hp⟩ | ⟨h1,seed,t,s,x,h2,h,hp⟩
 ·rw [if_pos (by rw [h1];rfl),h2,om_some]
  rcases h.evict with ⟨e0,e⟩ | ⟨o,a',x',e,h',om,q⟩
  ·rw [e,ob_]
   refine .inl ⟨?_,_,rfl,.inl ⟨h1,a,x,rfl,h,hp⟩⟩
   rw [e0] at hp;exact hp.eq_nil
  ·rw [e,ob_]
   exact .inr ⟨o,_,rfl,hp.symm.subset om,.inl ⟨h1,a',x',rfl,h',(rm_pm hp o).trans q.symm⟩⟩
 ·rw [if_neg (k1f h1),if_pos (by rw [h1];rfl),h2,om_some]
  obtain ⟨t',x',e,h',ex⟩:=h.Evict
  rw [e]
  cases ek:evk x with
  | none =>
   rw [ek] at ex;dsimp only at ex
   rw [ob_]
   have:=evk_none ek
   refine .inl ⟨?_,_,rfl,.inr ⟨h1,seed,t',s,x',rfl,h',by rw [ex];exact hp⟩⟩
   rw [this] at hp;exact hp.eq_nil
  | some o =>
   rw [ek] at ex;dsimp only at ex
   rw [ob_]
   exact .inr ⟨o,_,rfl,hp.symm.subset (evk_mem ek),.inr ⟨h1,seed,t',s,x',rfl,h',by rw [ex,drop_all];exact rm_pm hp o⟩⟩
end
theorem new_p1(n:Nat)(seed:UInt64)(h1:1≤n)(h2:n≤1000):∃p,Dm 1 (n:Int) seed=some (some p,0)∧PR n p []:=by
 obtain ⟨a,e,h⟩:=new_a n h1 h2
 unfold Dm
 rw [if_pos (by rfl),e,ob_,ob_,if_neg (by simp)]
 exact ⟨_,rfl,.inl ⟨rfl,a,_,rfl,h,List.Perm.refl _⟩⟩
theorem new_p2(n:Nat)(seed:UInt64)(h1:1≤n)(h2:n≤1000):∃p,Dm 2 (n:Int) seed=some (some p,0)∧PR n p []:=by
 obtain ⟨t,s,e,h,_⟩:=new_t n seed h1 h2
 unfold Dm
 rw [if_neg (by decide),if_pos (by rfl),e,ob_,ob_,ob_,if_neg (by simp)]
 exact ⟨_,rfl,.inr ⟨rfl,seed,t,s,_,rfl,h,List.Perm.refl _⟩⟩
abbrev TM:=List (Str×Ai)
def esz(e:Ai):Nat:=e.Key.length+e.Value.length
def msz(m:TM):Nat:=(m.map fun p=>esz p.2).sum
def keys(m:TM):List Str:=m.map (·.1)
theorem mget_mem{m:TM}{k:Str}{e:Ai}(h:mget m k=some e):(k,e)∈m:=by
 induction m with
 | nil=>cases h
 | cons p m ih =>
  obtain ⟨a,u⟩:=p
  unfold mget at h
  split at h
  ·rename_i hk
   have:=eq_of_beq hk;subst this;cases h;simp
  ·exact List.mem_cons_of_mem _ (ih h)
theorem mem_mget{m:TM}(hu:Uk m){k:Str}{e:Ai}(h:(k,e)∈m):mget m k=some e:=by
 induction m with
 | nil=>cases h
 | cons p m ih =>
  obtain ⟨a,u⟩:=p
  unfold Uk at hu ih
  simp only [List.map_cons,List.nodup_cons] at hu
  rcases List.mem_cons.1 h with q | q
  ·cases q;unfold mget;rw [if_pos (by simp)]
  ·unfold mget
   have hne:¬(k==a)=true:=fun z=>hu.1 (by rw [←eq_of_beq z];exact List.mem_map.2 ⟨_,q,rfl⟩)
   rw [if_neg hne];exact ih hu.2 q
theorem mget_keys{m:TM}{k:Str}: (mget m k).isSome=decide (k∈keys m):=by
 have:=mget_none m k
 cases h:mget m k with
 | none=>have h2:=this.1 h;unfold keys;rw [decide_eq_false h2];rfl
 | some e=>simp;unfold keys;exact List.mem_map.2 ⟨_,mget_mem h,rfl⟩
theorem mdel_no{m:TM}{k:Str}(h:mget m k=none):mdel m k=m:=by
 induction m with
 | nil=>rfl
 | cons p m ih =>
  obtain ⟨a,u⟩:=p
  unfold mget at h
  unfold mdel
  split at h
  ·cases h
  ·rename_i hk;rw [if_neg hk,ih h]
theorem mput_no{m:TM}{k:Str}{e:Ai}(h:mget m k=none):mput m k e=m++[(k,e)]:=by
 induction m with
 | nil=>rfl
 | cons p m ih =>
  obtain ⟨a,u⟩:=p
  unfold mget at h
  unfold mput
  split at h
  ·cases h
  ·rename_i hk;rw [if_neg hk,ih h];rfl
theorem msz_del{m:TM}{k:Str}{e:Ai}(h:mget m k=some e):msz (mdel m k)+esz e=msz m:=by
 induction m with
 | nil=>cases h
 | cons p m ih =>
  obtain ⟨a,u⟩:=p
  unfold mget at h
  unfold mdel
  split at h
  ·rename_i hk;cases h;rw [if_pos hk];unfold msz;simp;omega
  ·rename_i hk;rw [if_neg hk]
   have:=ih h
   unfold msz at this ⊢;simp at this ⊢;omega
theorem keys_del{m:TM}(hu:Uk m)(k:Str):keys (mdel m k)=TL.rm (keys m) k:=by
 induction m with
 | nil=>rfl
 | cons p m ih =>
  obtain ⟨a,u⟩:=p
  unfold Uk at hu ih
  simp only [List.map_cons,List.nodup_cons] at hu
  unfold mdel
  by_cases hk:(k==a)=true
  ·have:=eq_of_beq hk;subst this
   rw [if_pos hk]
   show keys m=TL.rm (k::keys m) k
   unfold TL.rm
   rw [List.filter_cons,if_neg (by simp)]
   exact (filter_no hu.1).symm
  ·rw [if_neg hk]
   show a::keys (mdel m k)=TL.rm (a::keys m) k
   rw [ih hu.2]
   unfold TL.rm
   rw [List.filter_cons,if_pos (by simp only [Bool.not_eq_true',beq_eq_false_iff_ne,ne_eq];intro z;exact hk (by simp [z]))]
theorem mdel_sub{m:TM}{k:Str}{p:Str×Ai}(h:p∈mdel m k):p∈m:=by
 induction m with
 | nil=>cases h
 | cons q m ih =>
  obtain ⟨a,u⟩:=q
  unfold mdel at h
  split at h
  ·exact List.mem_cons_of_mem _ h
  ·rcases List.mem_cons.1 h with z | z
   ·rw [z];simp
   ·exact List.mem_cons_of_mem _ (ih z)
theorem msz_le{m:TM}{c:Nat}(h:∀p∈m,esz p.2≤c):msz m≤m.length*c:=by
 induction m with
 | nil=>simp [msz]
 | cons p m ih =>
  have:=ih fun q hq=>h q (by simp [hq])
  have h0:=h p (by simp)
  unfold msz at this ⊢
  simp only [List.map_cons,List.sum_cons,List.length_cons]
  rw [Nat.succ_mul];omega
structure TB (K:List Str) (t:Am):Prop where
 uk:Uk t.m
 en:∀p∈t.m,p.2.Key=p.1∧p.1.length≤64∧p.2.Value.length≤4096
 sz:t.bytes=(msz t.m:Int)
 pm:(keys t.m).Perm K
 le:K.length≤1001
section
variable {K:List Str} {t:Am}
theorem TB.len(h:TB K t):t.m.length=K.length:=by have:=h.pm.length_eq;unfold keys at this;simpa using this
theorem TB.es(h:TB K t):∀p∈t.m,esz p.2≤4160:=fun p hp=>by
 obtain ⟨h1,h2,h3⟩:=h.en p hp
 unfold esz;rw [h1];omega
theorem TB.msz(h:TB K t):msz t.m≤4164160:=by
 have:=msz_le h.es
 rw [h.len] at this
 have:=h.le
 omega
theorem TB.has(h:TB K t)(k:Str):(mget t.m k).isSome=decide (k∈K):=by
 rw [mget_keys]
 have:=h.pm.mem_iff (a:=k)
 simp only [this]
theorem TB.perm(h:TB K t){K':List Str}(hp:K.Perm K'):TB K' t:=⟨h.uk,h.en,h.sz,h.pm.trans hp,by rw [←hp.length_eq];exact h.le⟩
theorem size_e{e:Ai}(h:esz e≤100000):D0 e=(esz e:Int):=by
 unfold D0 esz at *
 rw [i64s _ (by omega) (by omega)];omega
theorem TB.drop(h:TB K t)(k:Str):∃t',A9 t k=(decide (k∈K),t')∧t'.m=mdel t.m k∧TB (TL.rm K k) t':=by
 have hs:=h.has k
 unfold A9 AT
 rw [lt_eq]
 dsimp only
 cases hg:mget t.m k with
 | none =>
  rw [hg] at hs
  have hk:k∉K:=by simpa using hs
  rw [if_neg (by simp)]
  refine ⟨t,by simp [hk],(mdel_no hg).symm,?_⟩
  rw [rm_no hk];exact h
 | some e =>
  rw [hg] at hs
  have hk:k∈K:=by simpa using hs
  have he:esz e≤4160:=h.es _ (mget_mem hg)
  have hd:=msz_del hg
  have hm:=h.msz
  rw [if_pos (by rfl)]
  dsimp only [Option.getD_some]
  rw [size_e (by omega),h.sz]
  have e1:i64 ((Pure.msz t.m:Int)-(esz e:Int))=(Pure.msz (mdel t.m k):Int):=by rw [i64s _ (by omega) (by omega)];omega
  rw [e1]
  refine ⟨⟨mdel t.m k,(Pure.msz (mdel t.m k):Int)⟩,by rw [decide_eq_true hk];rfl,rfl,⟨h.uk.del k,fun p hp=>h.en p (mdel_sub hp),rfl,?_,?_⟩⟩
  ·show (keys (mdel t.m k)).Perm _
   rw [keys_del h.uk];exact rm_pm h.pm k
  ·exact Nat.le_trans (rm_le K k) h.le
theorem TB.put(h:TB K t){e:Ai}(h64:e.Key.length≤64)(hv:e.Value.length≤4096)(hl:(TL.rm K e.Key).length≤1000):∃t',C2 t e=t'∧t'.m=mput (mdel t.m e.Key) e.Key e∧TB (e.Key::TL.rm K e.Key) t':=by
 obtain ⟨t1,e1,e2,h1⟩:=h.drop e.Key
 have hno:mget (mdel t.m e.Key) e.Key=none:=by rw [mget_del _ _ _ h.uk,if_pos (by simp)]
 have hm:=h1.msz
 have hz:esz e≤4160:=by unfold esz;omega
 unfold C2
 rw [lt_eq,e1]
 dsimp only
 rw [size_e (by omega),h1.sz,e2]
 have ep:=mput_no (e:=e) hno
 have es:Pure.msz (mput (mdel t.m e.Key) e.Key e)=Pure.msz (mdel t.m e.Key)+esz e:=by
  rw [ep];unfold Pure.msz;simp
 rw [e2] at hm
 have e3:i64 ((Pure.msz (mdel t.m e.Key):Int)+(esz e:Int))=(Pure.msz (mput (mdel t.m e.Key) e.Key e):Int):=by rw [i64s _ (by omega) (by omega),es];omega
 rw [e3]
 refine ⟨_,rfl,rfl,⟨(h.uk.del _).put _ _,fun p hp =>?_,rfl,?_,by simp;omega⟩⟩
 ·dsimp only at hp
  rw [ep] at hp
  rcases List.mem_append.1 hp with q | q
  ·exact h.en p (mdel_sub q)
  ·simp at q;subst q;exact ⟨rfl,h64,hv⟩
 ·dsimp only
  rw [ep]
  unfold keys
  rw [List.map_append]
  have:=h1.pm
  rw [e2] at this
  unfold keys at this
  exact List.perm_append_comm.trans (this.cons _)
end
theorem awake12:DK=some true:=by decide +kernel
theorem i_a1{j:Nat}(h:j<4294967296):i64 ((j:Int)+1)=((j+1:Nat):Int):=by rw [i64s] <;> omega
theorem drop_at'{α:Type}{l:List α}{j:Nat}(h:j<l.length):l.drop j=l[j]::l.drop (j+1):=by rw [List.drop_eq_getElem_cons h]
section
variable {K:List Str} {t:Am}
theorem TB.mkeys(h:TB K t):Hw.mkeys t.m=some (ksort (keys t.m)):=by
 have hl:=h.len
 have:=h.le
 unfold Hw.mkeys
 rw [if_pos (by
  rw [Bool.and_eq_true]
  refine ⟨by simp;omega,?_⟩
  rw [List.all_eq_true]
  intro p hp
  have:=(h.en p hp).2.1
  simp;omega)]
 rfl
def endsAt(m:TM)(now:UInt64)(k:Str):Prop:=∃e,mget m k=some e∧e.End.toNat≠0∧e.End.toNat≤now.toNat
theorem TB.ended(h:TB K t)(now:UInt64):∃L,CV t now=some L∧L.Nodup∧L.length≤1001∧∀k,k∈L↔endsAt t.m now k:=by
 unfold CV
 rw [h.mkeys,ob_]
 have hp:=ksort_perm (keys t.m)
 refine ⟨_,rfl,(hp.nodup_iff.2 h.uk).filter _,?_,fun k =>?_⟩
 ·refine Nat.le_trans (List.length_filter_le _ _) ?_
  rw [hp.length_eq];unfold keys;have:=h.len;have:=h.le;simp;omega
 ·rw [List.mem_filter,hp.mem_iff]
  unfold endsAt endp
  constructor
  ·rintro ⟨h1,h2⟩
   have:=mget_keys (m:=t.m) (k:=k)
   cases hg:mget t.m k with
   | none=>rw [hg] at this;simp [h1] at this
   | some e =>
    rw [hg] at h2
    refine ⟨e,rfl,?_⟩
    simp only [Option.getD_some,Bool.not_eq_true',Bool.or_eq_false_iff,beq_eq_false_iff_ne,ne_eq,decide_eq_false_iff_not,Nat.not_lt] at h2
    exact h2
  ·rintro ⟨e,hg,h1,h2⟩
   refine ⟨List.mem_map.2 ⟨_,mget_mem hg,rfl⟩,?_⟩
   rw [hg]
   simp only [Option.getD_some,Bool.not_eq_true',Bool.or_eq_false_iff,beq_eq_false_iff_ne,ne_eq,decide_eq_false_iff_not,Nat.not_lt]
   exact ⟨h1,h2⟩
end
def mdels(m:TM)(L:List Str):TM:=L.foldl (fun m k=>mdel m k) m
def rms(K:List Str)(L:List Str):List Str:=L.foldl TL.rm K
theorem mget_dels:∀(L:List Str) (m:TM),Uk m→(∀k,mget (mdels m L) k=if k∈L then none else mget m k)∧Uk (mdels m L):=by
 intro L
 induction L with
 | nil=>exact fun m h=>⟨fun k=>rfl,h⟩
 | cons x L ih =>
  intro m h
  obtain ⟨h1,h2⟩:=ih (mdel m x) (h.del x)
  refine ⟨fun k =>?_,h2⟩
  show mget (mdels (mdel m x) L) k=_
  rw [h1,mget_del _ _ _ h]
  by_cases hk:k=x
  ·subst hk;simp
  ·simp [hk]
theorem mem_rms(L:List Str):∀(K:List Str) (k:Str),k∈rms K L↔k∈K∧k∉L:=by
 induction L with
 | nil=>intro K k;simp [rms]
 | cons x L ih =>
  intro K k
  show k∈rms (TL.rm K x) L↔_
  rw [ih,rm_mem];simp [and_assoc]
theorem ap_l0(n:Nat)(L:List Str)(hL:L.length≤2000):∀(f i:Nat) (t:Am) (p:Ah) (K:List Str),f=L.length-i+1→i≤L.length→TB K t→PR n p K →
  ∃t' p',Bf L f (i:Int) t.bytes (some p) t.m=some (t'.bytes,some p',t'.m)∧TB (rms K (L.drop i)) t'∧PR n p' (rms K (L.drop i))∧t'.m=mdels t.m (L.drop i):=by
 intro f
 induction f with
 | zero=>intro i t p K h;omega
 | succ f ih =>
  intro i t p K hf hi ht hp
  unfold Bf
  by_cases c:i<L.length
  ·obtain ⟨t1,e1,e2,h1⟩:=ht.drop L[i]
   obtain ⟨b,p1,e3,h2⟩:=hp.remove L[i]
   rw [if_pos (by simpa using c),gN c,ob_,lt_eq,show (⟨t.m,t.bytes⟩:Am)=t from rfl,e1,om_some,e3,ob_,i_a1 (by omega)]
   obtain ⟨t',p',q1,q2,q3,q4⟩:=ih (i+1) t1 p1 (TL.rm K L[i]) (by omega) (by omega) h1 h2
   refine ⟨t',p',q1,?_,?_,?_⟩
   ·rw [drop_at' c];exact q2
   ·rw [drop_at' c];exact q3
   ·rw [drop_at' c,q4,e2];rfl
  ·rw [if_neg (by simpa using c),List.drop_eq_nil_of_le (by omega)]
   exact ⟨t,p,rfl,ht,hp,rfl⟩
theorem put_l0(n:Nat)(s:Ak)(B:Nat)(hB:s.c.Bytes=(B:Int)):∀(f:Nat) (t:Am) (p:Ah) (K:List Str),K.length<f→TB K t→PR n p K →
  ∃t' p' K',Ce s f p t.bytes t.m=some (p',t'.bytes,t'.m)∧TB K' t'∧PR n p' K'∧msz t'.m≤B∧(∀k e,mget t'.m k=some e→mget t.m k=some e)∧(msz t.m≤B→t'=t∧K'=K):=by
 intro f
 induction f with
 | zero=>intro t p K h;omega
 | succ f ih =>
  intro t p K hf ht hp
  unfold Ce Dc
  dsimp only
  rw [hB,ht.sz]
  by_cases c:B<msz t.m
  ·rw [if_pos (by simpa using c)]
   rcases hp.evict with ⟨e0,_⟩ | ⟨o,p1,e1,om,h1⟩
   ·exfalso
    have:=ht.len
    rw [e0] at this
    rw [List.length_eq_zero_iff.1 this] at c
    simp [msz] at c
   ·obtain ⟨t1,e2,e3,h2⟩:=ht.drop o
    have:=rm_len hp.nd om
    rw [e1,ob_,if_neg (by simp),lt_eq,←ht.sz,show (⟨t.m,t.bytes⟩:Am)=t from rfl,e2]
    obtain ⟨t',p',K',q1,q2,q3,q4,q5,q6⟩:=ih t1 p1 (TL.rm K o) (by omega) h2 h1
    refine ⟨t',p',K',q1,q2,q3,q4,fun k e hk =>?_,fun z=>by omega⟩
    have:=q5 k e hk
    rw [e3,mget_del _ _ _ ht.uk] at this
    split at this
    ·cases this
    ·exact this
  ·rw [if_neg (by simpa using c),←ht.sz]
   exact ⟨t,p,K,rfl,ht,hp,by omega,fun _ _ h=>h,fun _=>⟨rfl,rfl⟩⟩
theorem put_l1(g:List Str)(p:Ah)(hg:g.length≤1)(t:Am)(K:List Str)(ht:TB K t):∃t',Br (g,p) (((g.length:Int)-0).toNat+1) 0 t.bytes t.m=some (t'.bytes,t'.m)∧TB (rms K g) t'∧t'.m=mdels t.m g:=by
 match g,hg with
 | [],_ =>
  unfold Br
  rw [if_neg (by simp)]
  exact ⟨t,rfl,ht,rfl⟩
 | [o],_ =>
  obtain ⟨t1,e1,e2,h1⟩:=ht.drop o
  show ∃t',Br ([o],p) 2 0 t.bytes t.m=_∧_
  unfold Br
  rw [if_pos (by simp),show gi [o] 0=some o from rfl,ob_,lt_eq,show (⟨t.m,t.bytes⟩:Am)=t from rfl,e1]
  unfold Br
  rw [if_neg (by show ¬decide (i64 ((0:Int)+1)<((1:Nat):Int))=true;decide)]
  exact ⟨t1,rfl,h1,e2⟩
def endv(now ttl:UInt64):UInt64:=if (decide (0<ttl)&&decide (now<18446744073709551615)) then now+(if (18446744073709551615-now)<ttl then 18446744073709551615-now else ttl) else 0
theorem endv_ok(now ttl:UInt64):(endv now ttl).toNat=0∨now.toNat<(endv now ttl).toNat:=by
 unfold endv
 by_cases c:(decide (0<ttl)&&decide (now<18446744073709551615))=true
 ·rw [if_pos c]
  simp only [Bool.and_eq_true,decide_eq_true_eq,UInt64.lt_iff_toNat_lt] at c
  have h1:(0:UInt64).toNat=0:=rfl
  have h2:(18446744073709551615:UInt64).toNat=18446744073709551615:=rfl
  have hs:(18446744073709551615-now).toNat=18446744073709551615-now.toNat:=by
   rw [UInt64.toNat_sub_of_le _ _ (by rw [UInt64.le_iff_toNat_le];omega)];omega
  right
  by_cases c2:(18446744073709551615-now)<ttl
  ·rw [if_pos c2,UInt64.toNat_add,hs];omega
  ·rw [if_neg c2]
   rw [UInt64.lt_iff_toNat_lt,hs] at c2
   rw [UInt64.toNat_add];omega
 ·rw [if_neg c];left;rfl
theorem st_put{n B:Nat}{c:Au}{t:Am}{p:Ah}{ss:List (UInt64×Ar)}{sq nw vr:UInt64}{ty:Cb}{o:AI}{K:List Str}(hB:c.Bytes=(B:Int))(hB2:B≤1048576)(ht:TB K t)(hp:PR n p K)
  (hk:o.Key.length≤64) (hv:o.Value.length≤4096) :
  (B<o.Key.length+o.Value.length∧Be ⟨c,some t,some p,ss,sq,nw,vr,ty⟩ o=some ((⟨120,[],0⟩:Ap),⟨c,some t,some p,ss,sq,nw,vr,ty⟩)) ∨
  (o.Key.length+o.Value.length≤B∧∃t' p' K',Be ⟨c,some t,some p,ss,sq,nw,vr,ty⟩ o=some ((⟨0,[],vr+1⟩:Ap),⟨c,some t',some p',ss,sq,nw,vr+1,ty⟩)∧TB K' t'∧PR n p' K'∧msz t'.m≤B ∧
   (∀k e,mget t'.m k=some e→(k≠o.Key∧mget t.m k=some e)∨(k=o.Key∧e=⟨o.Key,o.Value,vr+1,endv nw o.TTL⟩)) ∧
   ((o.Key∈K∨K.length<n)→msz (mput (mdel t.m o.Key) o.Key ⟨o.Key,o.Value,vr+1,endv nw o.TTL⟩)≤B→t'.m=mput (mdel t.m o.Key) o.Key ⟨o.Key,o.Value,vr+1,endv nw o.TTL⟩∧K'.Perm (o.Key::TL.rm K o.Key))):=by
 have hn:=hp.n1
 have hKn:=hp.le
 have e0:i64 ((o.Key.length:Int)+(o.Value.length:Int))=((o.Key.length+o.Value.length:Nat):Int):=by rw [i64s _ (by omega) (by omega)];omega
 unfold Be
 dsimp only
 rw [hB,e0]
 by_cases cb:B<o.Key.length+o.Value.length
 ·left
  rw [if_pos (by simp;omega)]
  exact ⟨cb,rfl⟩
 ·right
  refine ⟨by omega,?_⟩
  rw [if_neg (by simp;omega)]
  have eE:(if (decide (0<o.TTL)&&decide (nw<18446744073709551615))=true then some (nw+(if (18446744073709551615-nw)<o.TTL then 18446744073709551615-nw else o.TTL)) else some 0)=some (endv nw o.TTL):=by
   unfold endv;split <;> rfl
  rw [eE,ob_,om_some,lt_eq]
  generalize endv nw o.TTL=en
  have hrm:=rm_le K o.Key
  obtain ⟨t1,e1,e2,h1⟩:=ht.put (e:=(⟨o.Key,o.Value,vr+1,en⟩:Ai)) hk hv (by dsimp only;omega)
  dsimp only at e1 e2 h1
  rw [e1,om_some]
  have PI:∃g p1 K1,Ba p o.Key=some (g,p1)∧PR n p1 K1∧g.length≤1∧K1.Perm (rms (o.Key::TL.rm K o.Key) g)∧((o.Key∈K∨K.length<n)→g=[]):=by
   by_cases ck:o.Key∈K
   ·obtain ⟨p1,e,q⟩:=hp.insert_yes ck
    exact ⟨[],p1,K,e,q,by simp,rm_perm hp.nd ck,fun _=>rfl⟩
   ·obtain ⟨g,p1,K1,e,q,hg,hr⟩:=hp.insert ck hk
    refine ⟨g,p1,K1,e,q,?_,?_,fun z=>hr (z.resolve_left ck)⟩
    ·rcases hg with ⟨rfl,_⟩ | ⟨x,rfl,_⟩ <;> simp
    ·rw [rm_no ck]
     rcases hg with ⟨rfl,rfl⟩ | ⟨x,rfl,_,rfl⟩
     ·exact List.Perm.refl _
     ·exact List.Perm.refl _
  obtain ⟨g,p1,K1,e3,h2,hg,hK1,hgn⟩:=PI
  obtain ⟨t2,e4,h3,e5⟩:=put_l1 g p1 hg t1 _ h1
  have h3':=h3.perm hK1.symm
  have hK1n:=h2.le
  obtain ⟨t3,p3,K3,e6,h4,h5,h6,h7,h8⟩:=put_l0 n ⟨c,some t,some p,ss,sq,nw,vr,ty⟩ B hB 1100 t2 p1 K1 (by omega) h3' h2
  rw [e3,ob_]
  dsimp only
  rw [e4,ob_]
  dsimp only
  rw [e6,ob_]
  refine ⟨t3,p3,K3,rfl,h4,h5,h6,fun k e hke =>?_,fun z1 z2 =>?_⟩
  ·have q:=h7 k e hke
   rw [e5,(mget_dels g _ h1.uk).1] at q
   split at q
   ·cases q
   ·rw [e2,mget_put,mget_del _ _ _ ht.uk] at q
    by_cases hke2:k=o.Key
    ·subst hke2;rw [if_pos (by simp)] at q;exact .inr ⟨rfl,(Option.some.inj q).symm⟩
    ·rw [if_neg (by simpa using hke2),if_neg (by simpa using hke2)] at q;exact .inl ⟨hke2,q⟩
  ·have hg0:=hgn z1
   subst hg0
   have et:t2.m=t1.m:=e5
   obtain ⟨q1,q2⟩:=h8 (by rw [et,e2];exact z2)
   rw [q1,et,e2,q2]
   exact ⟨rfl,hK1⟩
def lst0:Ar:=⟨0,(⟨0,[],0⟩:Ap)⟩
def aRest(s:Ak)(x:AK):Option (Ap×Int×Ak) :=
 if (x.Op.Kind==5) then some ((⟨0,[],0⟩:Ap),0,s) else if ((mget s.sessions x.Session).isSome&&(x.Num==(((mget s.sessions x.Session).getD lst0).num))) then some ((((mget s.sessions x.Session).getD lst0).reply),0,s)
 else if ((mget s.sessions x.Session).isSome&&decide (x.Num<(((mget s.sessions x.Session).getD lst0).num))) then some ((⟨122,[],0⟩:Ap),0,s) else if (!((mget s.sessions x.Session).isSome)&&decide (64≤(s.sessions.length:Int))) then some ((⟨3,[],0⟩:Ap),0,s)
 else (AW s x.Op).bind fun r37=>some (r37.1,0,(⟨r37.2.c,r37.2.t,r37.2.p,mput r37.2.sessions x.Session (⟨x.Num,r37.1⟩:Ar),r37.2.seq,r37.2.now,r37.2.version,r37.2.tally⟩:Ak))
def mx(a b:UInt64):UInt64:=if a<b then b else a
theorem mx_n(a b:UInt64):(mx a b).toNat=max a.toNat b.toNat:=by
 unfold mx
 split
 ·rename_i h;rw [UInt64.lt_iff_toNat_lt] at h;omega
 ·rename_i h;rw [UInt64.lt_iff_toNat_lt] at h;omega
theorem keys_mem{m:TM}{k:Str}: k∈keys m↔∃e,mget m k=some e:=by
 have h:=mget_keys (m:=m) (k:=k)
 constructor
 ·intro hk
  cases hg:mget m k with
  | none=>rw [hg] at h;simp [hk] at h
  | some e=>exact ⟨e,rfl⟩
 ·rintro ⟨e,he⟩;rw [he] at h;simpa using h.symm
theorem msz_dels:∀(L:List Str) (m:TM),msz (mdels m L)≤msz m:=by
 intro L
 induction L with
 | nil=>exact fun m=>Nat.le_refl _
 | cons x L ih =>
  intro m
  refine Nat.le_trans (ih (mdel m x)) ?_
  cases hg:mget m x with
  | none=>rw [mdel_no hg];exact Nat.le_refl _
  | some e=>have:=msz_del hg;omega
section
variable {n:Nat} {c:Au} {t:Am} {p:Ah} {ss:List (UInt64×Ar)} {sq nw vr:UInt64} {ty:Cb} {K:List Str}
theorem st_apply(ht:TB K t)(hp:PR n p K){x:AK}(hc:B2 x.Op=true)(h1:((x.Seq==0)||((x.Seq-1) != sq))=false):
  ∃t1 p1 K1,AQ ⟨c,some t,some p,ss,sq,nw,vr,ty⟩ x=aRest ⟨c,some t1,some p1,ss,sq+1,mx nw x.Now,vr,ty⟩ x∧TB K1 t1∧PR n p1 K1 ∧
   (∀k,endsAt t.m (mx nw x.Now) k→mget t1.m k=none)∧(∀k,¬endsAt t.m (mx nw x.Now) k→mget t1.m k=mget t.m k)∧(∀k,k∈K1↔k∈K∧¬endsAt t.m (mx nw x.Now) k)∧(∀q∈t1.m,q∈t.m)∧msz t1.m≤msz t.m∧((∀k,¬endsAt t.m (mx nw x.Now) k)→t1.m=t.m∧K1=K):=by
 obtain ⟨L,e1,hn,hl,hm⟩:=ht.ended (mx nw x.Now)
 obtain ⟨t1,p1,e2,a1,a2,a3⟩:=ap_l0 n L (by omega) (((L.length:Int)-0).toNat+1) 0 t p K (by omega) (by omega) ht hp
 rw [List.drop_zero] at a1 a2 a3
 refine ⟨t1,p1,_,?_,a1,a2,fun k hk =>?_,fun k hk =>?_,fun k =>?_,fun q hq =>?_,?_,fun hno =>?_⟩
 ·unfold AQ
  dsimp only
  rw [if_neg (by rw [hc];decide),if_neg (by rw [h1];decide),om_some]
  have e1':CV t (if nw<x.Now then x.Now else nw)=some L:=e1
  have e2':Bf L (((L.length:Int)-0).toNat+1) 0 t.bytes (some p) t.m=some (t1.bytes,some p1,t1.m):=e2
  rw [e1',ob_,e2',ob_]
  rfl
 ·rw [a3,(mget_dels L _ ht.uk).1,if_pos ((hm k).2 hk)]
 ·rw [a3,(mget_dels L _ ht.uk).1,if_neg (fun z=>hk ((hm k).1 z))]
 ·rw [mem_rms,hm]
 ·have hu:=(mget_dels L _ ht.uk).2
  rw [←a3] at hu
  have:=mem_mget hu (k:=q.1) (e:=q.2) hq
  rw [a3,(mget_dels L _ ht.uk).1] at this
  split at this
  ·cases this
  ·exact mget_mem this
 ·rw [a3];exact msz_dels L _
 ·have hL:L=[]:=List.eq_nil_iff_forall_not_mem.2 fun k hk=>hno k ((hm k).1 hk)
  subst hL
  exact ⟨a3,rfl⟩
theorem st_refuse{s:Ak}{x:AK}(hc:B2 x.Op=false):AQ s x=some ((⟨0,[],0⟩:Ap),1,s):=by
 unfold AQ
 rw [if_pos (by rw [hc];rfl)]
theorem st_seq{s:Ak}{x:AK}(hc:B2 x.Op=true)(h1:((x.Seq==0)||((x.Seq-1) != s.seq))=true):AQ s x=some ((⟨0,[],0⟩:Ap),123,s):=by
 unfold AQ
 rw [if_neg (by rw [hc];decide),if_pos h1]
theorem do_hit(ht:TB K t)(hp:PR n p K){o:AI}(hk:o.Kind=1){e:Ai}(hg:mget t.m o.Key=some e):
  ∃p',AW ⟨c,some t,some p,ss,sq,nw,vr,ty⟩ o=some ((⟨0,e.Value,e.Version⟩:Ap),⟨c,some t,some p',ss,sq,nw,vr,⟨i64 (ty.Asked+1),i64 (ty.Hits+1)⟩⟩)∧PR n p' K:=by
 have hm:o.Key∈K:=by have:=ht.has o.Key;rw [hg] at this;simpa using this.symm
 obtain ⟨p',e1,h1⟩:=hp.touch hm
 unfold AW AT
 dsimp only
 rw [om_some,lt_eq,if_pos (by rw [hk];rfl),hg,if_neg (by simp),om_some,e1,ob_]
 exact ⟨p',rfl,h1⟩
theorem do_miss(ht:TB K t)(hp:PR n p K){o:AI}(hk:o.Kind=1)(h64:o.Key.length≤64)(hg:mget t.m o.Key=none):
  ∃p',AW ⟨c,some t,some p,ss,sq,nw,vr,ty⟩ o=some ((⟨2,[],0⟩:Ap),⟨c,some t,some p',ss,sq,nw,vr,⟨i64 (ty.Asked+1),ty.Hits⟩⟩)∧PR n p' K:=by
 obtain ⟨p',e1,h1⟩:=hp.miss h64
 unfold AW AT
 dsimp only
 rw [om_some,lt_eq,if_pos (by rw [hk];rfl),hg,if_pos (by simp),om_some,e1,ob_]
 exact ⟨p',rfl,h1⟩
theorem do_none{o:AI}(hk:o.Kind=3∨o.Kind=4)(hg:mget t.m o.Key=none):
  AW ⟨c,some t,some p,ss,sq,nw,vr,ty⟩ o=some ((⟨2,[],0⟩:Ap),⟨c,some t,some p,ss,sq,nw,vr,ty⟩):=by
 unfold AW AT
 dsimp only
 rcases hk with hk | hk
 ·rw [om_some,lt_eq,if_neg (by rw [hk];decide),if_pos (by rw [hk];rfl),hg,if_pos (by simp)]
 ·rw [om_some,lt_eq,if_neg (by rw [hk];decide),if_neg (by rw [hk];decide),if_pos (by rw [hk];rfl),hg,if_pos (by simp)]
theorem do_del(ht:TB K t)(hp:PR n p K){o:AI}(hk:o.Kind=3){e:Ai}(hg:mget t.m o.Key=some e):
  ∃t' p',AW ⟨c,some t,some p,ss,sq,nw,vr,ty⟩ o=some ((⟨0,[],e.Version⟩:Ap),⟨c,some t',some p',ss,sq,nw,vr,ty⟩)∧t'.m=mdel t.m o.Key∧TB (TL.rm K o.Key) t'∧PR n p' (TL.rm K o.Key):=by
 obtain ⟨t',e1,e2,h1⟩:=ht.drop o.Key
 obtain ⟨b,p',e3,h2⟩:=hp.remove o.Key
 unfold AW AT
 dsimp only
 rw [om_some,lt_eq,if_neg (by rw [hk];decide),if_pos (by rw [hk];rfl),hg,if_neg (by simp),lt_eq,e1,om_some,e3,ob_]
 exact ⟨t',p',rfl,e2,h1,h2⟩
theorem do_cas(o:AI)(hk:o.Kind=4){e:Ai}(hg:mget t.m o.Key=some e):
  AW ⟨c,some t,some p,ss,sq,nw,vr,ty⟩ o=if e.Version=o.Version then Be ⟨c,some t,some p,ss,sq,nw,vr,ty⟩ o else some ((⟨121,[],e.Version⟩:Ap),⟨c,some t,some p,ss,sq,nw,vr,ty⟩):=by
 unfold AW AT
 dsimp only
 rw [om_some,lt_eq,if_neg (by rw [hk];decide),if_neg (by rw [hk];decide),if_pos (by rw [hk];rfl),hg,if_neg (by simp)]
 dsimp only [Option.getD_some]
 by_cases h:e.Version=o.Version
 ·rw [if_neg (by simp [h]),if_pos h]
  cases Be ⟨c,some t,some p,ss,sq,nw,vr,ty⟩ o <;> rfl
 ·rw [if_pos (by simp [h]),if_neg h]
theorem do_put(o:AI)(hk:o.Kind≠1∧o.Kind≠3∧o.Kind≠4):AW ⟨c,some t,some p,ss,sq,nw,vr,ty⟩ o=Be ⟨c,some t,some p,ss,sq,nw,vr,ty⟩ o:=by
 unfold AW AT
 dsimp only
 rw [om_some,lt_eq,if_neg (by simp [hk.1]),if_neg (by simp [hk.2.1]),if_neg (by simp [hk.2.2])]
 cases Be ⟨c,some t,some p,ss,sq,nw,vr,ty⟩ o <;> rfl
end
theorem tb_new:TB [] ⟨[],0⟩:=⟨List.nodup_nil,fun _ h=>(by cases h),rfl,List.Perm.refl _,by simp⟩
theorem new_s(k:Nat)(hk:k=1∨k=2)(n B:Nat)(seed:UInt64)(h1:1≤n)(h2:n≤1000)(h3:1≤B)(h4:B≤1048576):
  ∃p,DR ⟨(k:Int),(n:Int),(B:Int),seed⟩=some (some ⟨⟨(k:Int),(n:Int),(B:Int),seed⟩,some ⟨[],0⟩,some p,[],0,0,0,⟨0,0⟩⟩,0)∧PR n p []:=by
 have hc:DU ⟨(k:Int),(n:Int),(B:Int),seed⟩=true:=by
  unfold DU
  simp only [Bool.and_eq_true,decide_eq_true_eq]
  refine ⟨⟨⟨⟨?_,by omega⟩,by omega⟩,by omega⟩,by omega⟩
  rcases hk with rfl | rfl <;> rfl
 unfold DR
 rw [if_neg (by rw [hc];decide)]
 dsimp only
 rcases hk with rfl | rfl
 ·obtain ⟨p,e,h⟩:=new_p1 n seed h1 h2
  rw [show Dm ((1:Nat):Int) (n:Int) seed=_ from e,ob_,lt_eq]
  exact ⟨p,rfl,h⟩
 ·obtain ⟨p,e,h⟩:=new_p2 n seed h1 h2
  rw [show Dm ((2:Nat):Int) (n:Int) seed=_ from e,ob_,lt_eq]
  exact ⟨p,rfl,h⟩
theorem rest_do{s:Ak}{x:AK}(hk:x.Op.Kind≠5)(hs:(mget s.sessions x.Session=none∧s.sessions.length<64)∨∃l,mget s.sessions x.Session=some l∧l.num<x.Num):
  aRest s x=(AW s x.Op).bind fun r37=>some (r37.1,0,(⟨r37.2.c,r37.2.t,r37.2.p,mput r37.2.sessions x.Session (⟨x.Num,r37.1⟩:Ar),r37.2.seq,r37.2.now,r37.2.version,r37.2.tally⟩:Ak)):=by
 unfold aRest
 rw [if_neg (by simp [hk])]
 rcases hs with ⟨h1,h2⟩ | ⟨l,h1,h2⟩
 ·rw [h1,if_neg (by simp),if_neg (by simp),if_neg (by simp;omega)]
 ·rw [UInt64.lt_iff_toNat_lt] at h2
  rw [h1,if_neg (by simp only [Option.isSome_some,Option.getD_some,Bool.true_and,beq_iff_eq];intro z;rw [z] at h2;omega),if_neg (by simp only [Option.isSome_some,Option.getD_some,Bool.true_and,decide_eq_true_eq,UInt64.lt_iff_toNat_lt];omega),if_neg (by simp)]
def ent0:Ai:=⟨[],[],0,0⟩
theorem mput_len{K V:Type}[BEq K][LawfulBEq K]{m:List (K×V)}{k:K}{v:V}(h:mget m k=none):(mput m k v).length=m.length+1:=by
 induction m with
 | nil=>rfl
 | cons p m ih =>
  obtain ⟨a,u⟩:=p
  unfold mget at h
  unfold mput
  split at h
  ·cases h
  ·rename_i hk;rw [if_neg hk];simp [ih h]
theorem mput_len2{K V:Type}[BEq K][LawfulBEq K]{m:List (K×V)}{k:K}{v u:V}(h:mget m k=some u):(mput m k v).length=m.length:=by
 induction m with
 | nil=>cases h
 | cons p m ih =>
  obtain ⟨a,w⟩:=p
  unfold mget at h
  unfold mput
  split at h
  ·rename_i hk;rw [if_pos hk];rfl
  ·rename_i hk;rw [if_neg hk];simp [ih h]
def listed(m:TM):List Ai:=(ksort (keys m)).map fun k=>(mget m k).getD ent0
theorem ent_l0(L:List Str)(t:Am)(hL:L.length≤2000):∀(f i:Nat) (o:List Ai),f=L.length-i+1→i≤L.length→o.length+(L.length-i)≤5000 →
  CH L t f o (i:Int)=some (o++(L.drop i).map fun k=>(mget t.m k).getD ent0):=by
 intro f
 induction f with
 | zero=>intro i o h;omega
 | succ f ih =>
  intro i o hf hi ho
  unfold CH
  by_cases c:i<L.length
  ·unfold AT
   rw [if_pos (by simpa using c),gN c,ob_,lt_eq,apd_i _ _ _ (by decide) (by simp;omega),ob_,i_a1 (by omega),ih (i+1) _ (by omega) (by omega) (by simp;omega),drop_at' c,List.map_cons,List.append_assoc]
   rfl
  ·rw [if_neg (by simpa using c),List.drop_eq_nil_of_le (by omega)];simp
theorem st_entries{c:Au}{t:Am}{p:Option Ah}{ss:List (UInt64×Ar)}{sq nw vr:UInt64}{ty:Cb}{K:List Str}(ht:TB K t):Cm ⟨c,some t,p,ss,sq,nw,vr,ty⟩=some (listed t.m):=by
 have hl:=ht.len
 have:=ht.le
 have hk:(ksort (keys t.m)).length≤1001:=by rw [(ksort_perm _).length_eq];unfold keys;simp;omega
 unfold Cm C5
 dsimp only
 rw [om_some,ht.mkeys,ob_]
 have:=ent_l0 (ksort (keys t.m)) t (by omega) (((((ksort (keys t.m)).length:Nat):Int)-0).toNat+1) 0 [] (by omega) (by omega) (by simp;omega)
 rw [List.nil_append,List.drop_zero] at this
 rw [show CH (ksort (keys t.m)) t (((((ksort (keys t.m)).length:Nat):Int)-0).toNat+1) [] 0=_ from this,ob_]
 rfl
theorem listed_len(m:TM):(listed m).length=m.length:=by unfold listed;rw [List.length_map,(ksort_perm _).length_eq];unfold keys;simp
def enOk(m:TM)(nw:UInt64):Prop:=∀k e,mget m k=some e→1≤e.Version.toNat∧(e.End.toNat=0∨nw.toNat<e.End.toNat)
theorem chk_len{o:AI}(h:B2 o=true):o.Key.length≤64∧o.Value.length≤4096:=by
 unfold B2 at h
 split at h
 ·cases h
 ·rename_i hc
  simp only [Bool.or_eq_true,decide_eq_true_eq,not_or] at hc
  omega
theorem chk_kind{o:AI}(h:B2 o=true):o.Kind=1∨o.Kind=2∨o.Kind=3∨o.Kind=4∨o.Kind=5:=by
 unfold B2 at h
 split at h
 ·cases h
 ·rw [lt_eq] at h
  by_cases c1:o.Kind=1
  ·exact .inl c1
  ·by_cases c2:o.Kind=2
   ·exact .inr (.inl c2)
   ·by_cases c3:o.Kind=3
    ·exact .inr (.inr (.inl c3))
    ·by_cases c4:o.Kind=4
     ·exact .inr (.inr (.inr (.inl c4)))
     ·by_cases c5:o.Kind=5
      ·exact .inr (.inr (.inr (.inr c5)))
      ·simp [c1,c2,c3,c4,c5] at h
theorem u1n{v:UInt64}(h:v.toNat<1000000000):(v+1).toNat=v.toNat+1:=by
 have c1:(1:UInt64).toNat=1:=rfl
 rw [UInt64.toNat_add,c1];omega
section
variable {n B:Nat} {c:Au} {t:Am} {p:Ah} {ss:List (UInt64×Ar)} {sq nw vr:UInt64} {ty:Cb} {K:List Str}
theorem put_any{o:AI}(hB:c.Bytes=(B:Int))(hB2:B≤1048576)(ht:TB K t)(hp:PR n p K)(hs:msz t.m≤B)(he:enOk t.m nw)(hv:vr.toNat<1000000000)(h1:o.Key.length≤64)(h2:o.Value.length≤4096):
  ∃r t' p' K' vr',Be ⟨c,some t,some p,ss,sq,nw,vr,ty⟩ o=some (r,⟨c,some t',some p',ss,sq,nw,vr',ty⟩)∧TB K' t'∧PR n p' K'∧msz t'.m≤B∧enOk t'.m nw∧vr'.toNat≤vr.toNat+1:=by
 rcases st_put (c:=c) (ss:=ss) (sq:=sq) (nw:=nw) (vr:=vr) (ty:=ty) (o:=o) hB hB2 ht hp h1 h2 with ⟨_,e⟩ | ⟨_,t',p',K',e,q1,q2,q3,q4,_⟩
 ·exact ⟨_,t,p,K,vr,e,ht,hp,hs,he,by omega⟩
 ·refine ⟨_,t',p',K',vr+1,e,q1,q2,q3,fun k x hx =>?_,by rw [u1n hv];omega⟩
  rcases q4 k x hx with ⟨_,z⟩ | ⟨_,rfl⟩
  ·exact he k x z
  ·exact ⟨by dsimp only;rw [u1n hv];omega,endv_ok nw o.TTL⟩
theorem do_any{o:AI}(hB:c.Bytes=(B:Int))(hB2:B≤1048576)(ht:TB K t)(hp:PR n p K)(hs:msz t.m≤B)(he:enOk t.m nw)(hv:vr.toNat<1000000000)(hc:B2 o=true):
  ∃r t' p' K' vr' ty',AW ⟨c,some t,some p,ss,sq,nw,vr,ty⟩ o=some (r,⟨c,some t',some p',ss,sq,nw,vr',ty'⟩)∧TB K' t'∧PR n p' K'∧msz t'.m≤B∧enOk t'.m nw∧vr'.toNat≤vr.toNat+1 ∧
   (o.Kind=1→(r.E=0∧ty'=⟨i64 (ty.Asked+1),i64 (ty.Hits+1)⟩)∨(r.E=2∧ty'=⟨i64 (ty.Asked+1),ty.Hits⟩))∧(o.Kind≠1→ty'=ty):=by
 obtain ⟨h1,h2⟩:=chk_len hc
 by_cases k1:o.Kind=1
 ·cases hg:mget t.m o.Key with
  | none =>
   obtain ⟨p',e,q⟩:=do_miss (c:=c) (ss:=ss) (sq:=sq) (nw:=nw) (vr:=vr) (ty:=ty) ht hp k1 h1 hg
   exact ⟨_,t,p',K,vr,_,e,ht,q,hs,he,by omega,fun _ => .inr ⟨rfl,rfl⟩,fun z=>absurd k1 z⟩
  | some x =>
   obtain ⟨p',e,q⟩:=do_hit (c:=c) (ss:=ss) (sq:=sq) (nw:=nw) (vr:=vr) (ty:=ty) ht hp k1 hg
   exact ⟨_,t,p',K,vr,_,e,ht,q,hs,he,by omega,fun _ => .inl ⟨rfl,rfl⟩,fun z=>absurd k1 z⟩
 ·by_cases k3:o.Kind=3
  ·cases hg:mget t.m o.Key with
   | none=>exact ⟨_,t,p,K,vr,ty,do_none (.inl k3) hg,ht,hp,hs,he,by omega,fun z=>absurd z k1,fun _=>rfl⟩
   | some x =>
    obtain ⟨t',p',e,q1,q2,q3⟩:=do_del (c:=c) (ss:=ss) (sq:=sq) (nw:=nw) (vr:=vr) (ty:=ty) ht hp k3 hg
    have:=msz_del hg
    refine ⟨_,t',p',_,vr,ty,e,q2,q3,by rw [q1];omega,fun k y hy=>he k y ?_,by omega,fun z=>absurd z k1,fun _=>rfl⟩
    rw [q1,mget_del _ _ _ ht.uk] at hy
    split at hy
    ·cases hy
    ·exact hy
  ·by_cases k4:o.Kind=4
   ·cases hg:mget t.m o.Key with
    | none=>exact ⟨_,t,p,K,vr,ty,do_none (.inr k4) hg,ht,hp,hs,he,by omega,fun z=>absurd z k1,fun _=>rfl⟩
    | some x =>
     have e:=do_cas (c:=c) (t:=t) (p:=p) (ss:=ss) (sq:=sq) (nw:=nw) (vr:=vr) (ty:=ty) o k4 hg
     by_cases cv:x.Version=o.Version
     ·rw [if_pos cv] at e
      obtain ⟨r,t',p',K',vr',e2,q1,q2,q3,q4,q5⟩:=put_any (c:=c) (ss:=ss) (sq:=sq) (ty:=ty) hB hB2 ht hp hs he hv h1 h2
      exact ⟨r,t',p',K',vr',ty,e.trans e2,q1,q2,q3,q4,q5,fun z=>absurd z k1,fun _=>rfl⟩
     ·rw [if_neg cv] at e
      exact ⟨_,t,p,K,vr,ty,e,ht,hp,hs,he,by omega,fun z=>absurd z k1,fun _=>rfl⟩
   ·have e:=do_put (c:=c) (t:=t) (p:=p) (ss:=ss) (sq:=sq) (nw:=nw) (vr:=vr) (ty:=ty) o ⟨k1,k3,k4⟩
    obtain ⟨r,t',p',K',vr',e2,q1,q2,q3,q4,q5⟩:=put_any (c:=c) (ss:=ss) (sq:=sq) (ty:=ty) hB hB2 ht hp hs he hv h1 h2
    exact ⟨r,t',p',K',vr',ty,e.trans e2,q1,q2,q3,q4,q5,fun z=>absurd z k1,fun _=>rfl⟩
end
structure SI (n B N:Nat) (c:Au) (s:Ak) (t:Am) (p:Ah) (K:List Str):Prop where
 st:s.t=some t
 sp:s.p=some p
 sc:s.c=c
 cb:c.Bytes=(B:Int)
 b2:B≤1048576
 tb:TB K t
 pr:PR n p K
 ms:msz t.m≤B
 en:enOk t.m s.now
 vn:s.version.toNat≤N
 sn:s.seq.toNat≤N
def Told(s:Ak)(x:AK)(r:Ap):Prop:=(∃l,mget s.sessions x.Session=some l∧((x.Num=l.num∧r=l.reply)∨(x.Num<l.num∧r=⟨122,[],0⟩)))∨(mget s.sessions x.Session=none∧64≤s.sessions.length∧r=⟨3,[],0⟩)
structure Next (s:Ak) (t:Am) (x:AK) (r:Ap) (s':Ak) (t':Am):Prop where
 seq:s'.seq=s.seq+1
 now:s'.now=mx s.now x.Now
 cs:(s'.sessions=s.sessions∧s'.tally=s.tally∧((x.Op.Kind=5∧r=⟨0,[],0⟩)∨(x.Op.Kind≠5∧Told s x r))∧(∀k,endsAt t.m (mx s.now x.Now) k→mget t'.m k=none)∧(∀k,¬endsAt t.m (mx s.now x.Now) k→mget t'.m k=mget t.m k)∧((∀k,¬endsAt t.m (mx s.now x.Now) k)→t'.m=t.m)) ∨
  (x.Op.Kind≠5∧¬(∃r,Told s x r)∧s'.sessions=mput s.sessions x.Session ⟨x.Num,r⟩∧(x.Op.Kind=1→(r.E=0∧s'.tally=⟨i64 (s.tally.Asked+1),i64 (s.tally.Hits+1)⟩)∨(r.E=2∧s'.tally=⟨i64 (s.tally.Asked+1),s.tally.Hits⟩))∧(x.Op.Kind≠1→s'.tally=s.tally))
theorem SI.mono{n B N:Nat}{c:Au}{s:Ak}{t:Am}{p:Ah}{K:List Str}(h:SI n B N c s t p K):SI n B (N+1) c s t p K :=
 ⟨h.st,h.sp,h.sc,h.cb,h.b2,h.tb,h.pr,h.ms,h.en,Nat.le_succ_of_le h.vn,Nat.le_succ_of_le h.sn⟩
theorem SI.apply{n B N:Nat}{c:Au}{s:Ak}{t:Am}{p:Ah}{K:List Str}(h:SI n B N c s t p K)(hN:N<1000000)(x:AK):
  ∃r e s' t' p' K',AQ s x=some (r,e,s')∧SI n B (N+1) c s' t' p' K'∧((e≠0∧s'=s∧t'=t∧(B2 x.Op=false∨((x.Seq==0)||((x.Seq-1) != s.seq))=true))∨(e=0∧B2 x.Op=true∧((x.Seq==0)||((x.Seq-1) != s.seq))=false∧Next s t x r s' t')):=by
 by_cases hc:B2 x.Op=true
 ·by_cases hq:((x.Seq==0)||((x.Seq-1) != s.seq))=true
  ·exact ⟨_,_,s,t,p,K,st_seq hc hq,h.mono,.inl ⟨by decide,rfl,rfl,.inr hq⟩⟩
  ·have hq:=Bool.eq_false_iff.2 hq
   obtain ⟨c',tt,pp,ss,sq,nw,vr,ty⟩:=s
   have e1:tt=some t:=h.st
   have e2:pp=some p:=h.sp
   have e3:c'=c:=h.sc
   subst e1 e2 e3
   have hvn:vr.toNat≤N:=h.vn
   have hsn:sq.toNat≤N:=h.sn
   have hen:enOk t.m nw:=h.en
   obtain ⟨t1,p1,K1,e,ht1,hp1,g1,g2,g3,g4,g5,g6⟩:=st_apply (c:=c') (ss:=ss) (sq:=sq) (nw:=nw) (vr:=vr) (ty:=ty) h.tb h.pr hc hq
   have hms:=h.ms
   have he1:enOk t1.m (mx nw x.Now):=fun k y hy=>by
    have hne:¬endsAt t.m (mx nw x.Now) k:=fun z=>by rw [g1 k z] at hy;cases hy
    have hy2:=hy
    rw [g2 k hne] at hy
    refine ⟨(hen k y hy).1,?_⟩
    rcases Nat.eq_zero_or_pos y.End.toNat with q | q
    ·exact .inl q
    ·right
     rcases Nat.lt_or_ge (mx nw x.Now).toNat y.End.toNat with w | w
     ·exact w
     ·exact absurd ⟨y,hy,by omega,w⟩ hne
   have hs2:(sq+1).toNat=sq.toNat+1:=u1n (by omega)
   have base:SI n B (N+1) c' ⟨c',some t1,some p1,ss,sq+1,mx nw x.Now,vr,ty⟩ t1 p1 K1:=⟨rfl,rfl,rfl,h.cb,h.b2,ht1,hp1,by omega,he1,by dsimp only;omega,by dsimp only;omega⟩
   rw [e]
   by_cases k5:x.Op.Kind=5
   ·refine ⟨⟨0,[],0⟩,0,_,t1,p1,K1,?_,base,.inr ⟨rfl,hc,hq,rfl,rfl,.inl ⟨rfl,rfl,.inl ⟨k5,rfl⟩,g1,g2,fun z=>(g6 z).1⟩⟩⟩
    unfold aRest
    rw [if_pos (by rw [k5];rfl)]
   ·cases hg:mget ss x.Session with
    | some l =>
     by_cases c1:x.Num=l.num
     ·refine ⟨l.reply,0,_,t1,p1,K1,?_,base,.inr ⟨rfl,hc,hq,rfl,rfl,.inl ⟨rfl,rfl,.inr ⟨k5,.inl ⟨l,hg,.inl ⟨c1,rfl⟩⟩⟩,g1,g2,fun z=>(g6 z).1⟩⟩⟩
      unfold aRest
      dsimp only
      rw [if_neg (by simp [k5]),hg,if_pos (by simp [c1])]
      rfl
     ·by_cases c2:x.Num<l.num
      ·refine ⟨⟨122,[],0⟩,0,_,t1,p1,K1,?_,base,.inr ⟨rfl,hc,hq,rfl,rfl,.inl ⟨rfl,rfl,.inr ⟨k5,.inl ⟨l,hg,.inr ⟨c2,rfl⟩⟩⟩,g1,g2,fun z=>(g6 z).1⟩⟩⟩
       unfold aRest
       dsimp only
       rw [if_neg (by simp [k5]),hg,if_neg (by simp [c1]),if_pos (by simp [c2])]
      ·have c3:l.num<x.Num:=by
        rw [UInt64.lt_iff_toNat_lt] at c2 ⊢
        have:x.Num.toNat≠l.num.toNat:=fun z=>c1 (UInt64.toNat_inj.1 z)
        omega
       have r1:=rest_do (s:=⟨c',some t1,some p1,ss,sq+1,mx nw x.Now,vr,ty⟩) (x:=x) k5 (.inr ⟨l,hg,c3⟩)
       obtain ⟨r,t2,p2,K2,vr2,ty2,e2,q1,q2,q3,q4,q5,q6,q7⟩:=do_any (c:=c') (ss:=ss) (sq:=sq+1) (vr:=vr) (ty:=ty) h.cb h.b2 ht1 hp1 (by omega) he1 (by omega) hc
       refine ⟨r,0,⟨c',some t2,some p2,mput ss x.Session ⟨x.Num,r⟩,sq+1,mx nw x.Now,vr2,ty2⟩,t2,p2,K2,?_,⟨rfl,rfl,rfl,h.cb,h.b2,q1,q2,q3,q4,by dsimp only;omega,by dsimp only;omega⟩,.inr ⟨rfl,hc,hq,rfl,rfl,.inr ⟨k5,?_,rfl,q6,q7⟩⟩⟩
       ·rw [r1,e2];rfl
       ·rintro ⟨r,⟨l',hl',z⟩ | ⟨z,_⟩⟩
        ·have hl':mget ss x.Session=some l':=hl'
         rw [hg] at hl';cases hl'
         rcases z with ⟨z,_⟩ | ⟨z,_⟩
         ·exact c1 z
         ·exact c2 z
        ·have z:mget ss x.Session=none:=z
         rw [hg] at z;cases z
    | none =>
     by_cases c1:64≤ss.length
     ·refine ⟨⟨3,[],0⟩,0,_,t1,p1,K1,?_,base,.inr ⟨rfl,hc,hq,rfl,rfl,.inl ⟨rfl,rfl,.inr ⟨k5,.inr ⟨hg,c1,rfl⟩⟩,g1,g2,fun z=>(g6 z).1⟩⟩⟩
      unfold aRest
      dsimp only
      rw [if_neg (by simp [k5]),hg,if_neg (by simp),if_neg (by simp),if_pos (by simp;omega)]
     ·have r1:=rest_do (s:=⟨c',some t1,some p1,ss,sq+1,mx nw x.Now,vr,ty⟩) (x:=x) k5 (.inl ⟨hg,by dsimp only;omega⟩)
      obtain ⟨r,t2,p2,K2,vr2,ty2,e2,q1,q2,q3,q4,q5,q6,q7⟩:=do_any (c:=c') (ss:=ss) (sq:=sq+1) (vr:=vr) (ty:=ty) h.cb h.b2 ht1 hp1 (by omega) he1 (by omega) hc
      refine ⟨r,0,⟨c',some t2,some p2,mput ss x.Session ⟨x.Num,r⟩,sq+1,mx nw x.Now,vr2,ty2⟩,t2,p2,K2,?_,⟨rfl,rfl,rfl,h.cb,h.b2,q1,q2,q3,q4,by dsimp only;omega,by dsimp only;omega⟩,.inr ⟨rfl,hc,hq,rfl,rfl,.inr ⟨k5,?_,rfl,q6,q7⟩⟩⟩
      ·rw [r1,e2];rfl
      ·rintro ⟨r,⟨l',hl',z⟩ | ⟨_,z,_⟩⟩
       ·have hl':mget ss x.Session=some l':=hl'
        rw [hg] at hl';cases hl'
       ·exact c1 z
 ·have hc:=Bool.eq_false_iff.2 hc
  exact ⟨_,_,s,t,p,K,st_refuse hc,h.mono,.inl ⟨by decide,rfl,rfl,.inl hc⟩⟩
theorem cutS(k:Str)(m:Nat)(hm:m≤5000):∃r,(if decide ((m:Int)<(k.length:Int)) then (sl k 0 (m:Int)).bind fun s=>some s else some k)=some r:=by
 by_cases h:m<k.length
 ·rw [if_pos (by simp;omega)]
  unfold sl
  rw [if_pos (by omega)]
  exact ⟨_,rfl⟩
 ·rw [if_neg (by simp;omega)]
  exact ⟨_,rfl⟩
theorem and_le(a:UInt64)(m:Nat)(hm:m<1000):(a &&& UInt64.ofNat m).toNat≤m:=by
 rw [UInt64.toNat_and,UInt64.toNat_ofNat']
 exact Nat.le_trans Nat.and_le_right (Nat.mod_le _ _)
theorem rec_ok(sq now:UInt64)(a:AM)(hn:now.toNat≤1000000):∃y nx,C3 sq now a=some (y,nx)∧y.Now=nx∧y.Session.toNat<8∧y.Num.toNat≤31∧now.toNat≤nx.toNat∧nx.toNat≤now.toNat+100:=by
 obtain ⟨k,hk⟩:=cutS a.Op.Key 70 (by omega)
 obtain ⟨v,hv⟩:=cutS a.Op.Value 1200 (by omega)
 have hk:(if decide ((70:Int)<(a.Op.Key.length:Int)) then (sl a.Op.Key 0 70).bind fun s=>some s else some a.Op.Key)=some k:=hk
 have hv:(if decide ((1200:Int)<(a.Op.Value.length:Int)) then (sl a.Op.Value 0 1200).bind fun s=>some s else some a.Op.Value)=some v:=hv
 have c100:(100:UInt64).toNat=100:=rfl
 have hT:∃nx:UInt64,(if decide (a.Ticks≤100)=true then some (now+a.Ticks) else some now)=some nx∧now.toNat≤nx.toNat∧nx.toNat≤now.toNat+100:=by
  by_cases c:a.Ticks≤100
  ·rw [if_pos (by simpa using c)]
   rw [UInt64.le_iff_toNat_le,c100] at c
   refine ⟨_,rfl,?_,?_⟩ <;> rw [UInt64.toNat_add] <;> omega
  ·rw [if_neg (by simpa using c)]
   exact ⟨_,rfl,by omega,by omega⟩
 obtain ⟨nx,e,h1,h2⟩:=hT
 unfold C3
 rw [hk,ob_,hv,ob_,e,ob_]
 refine ⟨_,nx,rfl,rfl,?_,?_,h1,h2⟩
 ·have:=and_le a.Session 7 (by omega);exact Nat.lt_succ_of_le this
 ·exact and_le a.Num 31 (by omega)
theorem cfg_ok(x:Au):∃k n B:Nat,AN x=⟨(k:Int),(n:Int),(B:Int),x.Seed⟩∧(k=1∨k=2)∧1≤n∧n≤16∧1≤B∧B≤1024:=by
 obtain ⟨a,ha,ha2⟩:=iand_le x.Policy 1 (by decide)
 obtain ⟨b,hb,hb2⟩:=iand_le x.Entries 15 (by decide)
 obtain ⟨d,hd,hd2⟩:=iand_le x.Bytes 1023 (by decide)
 have ha:iand x.Policy 1=(a:Int):=ha
 have hb:iand x.Entries 15=(b:Int):=hb
 have hd:iand x.Bytes 1023=(d:Int):=hd
 refine ⟨1+a,1+b,1+d,?_,by omega,by omega,by omega,by omega,by omega⟩
 unfold AN
 rw [ha,hb,hd,i64s (1+(a:Int)) (by omega) (by omega),i64s (1+(b:Int)) (by omega) (by omega),i64s (1+(d:Int)) (by omega) (by omega)]
 rw [Int.natCast_add,Int.natCast_add,Int.natCast_add];rfl
theorem si_new{k n B:Nat}(hk:k=1∨k=2)(seed:UInt64)(h1:1≤n)(h2:n≤16)(h3:1≤B)(h4:B≤1024):∃s t p K,DR ⟨(k:Int),(n:Int),(B:Int),seed⟩=some (some s,0)∧SI n B 0 ⟨(k:Int),(n:Int),(B:Int),seed⟩ s t p K∧s.sessions=[]∧s.now=0∧s.tally=⟨0,0⟩∧t.m=[]:=by
 obtain ⟨p,e,h⟩:=new_s k hk n B seed h1 (by omega) h3 (by omega)
 refine ⟨_,_,p,[],e,⟨rfl,rfl,rfl,rfl,by omega,tb_new,h,by simp [msz],(fun k e he=>by cases he),Nat.le_refl _,Nat.le_refl _⟩,rfl,rfl,rfl,rfl⟩
def SP(ss:List (UInt64×Ar)):Prop:=∀j l,mget ss j=some l→j.toNat<8∧l.num.toNat≤31
theorem SP.put{ss:List (UInt64×Ar)}(h:SP ss){j n:UInt64}{r:Ap}(h1:j.toNat<8)(h2:n.toNat≤31):SP (mput ss j ⟨n,r⟩):=by
 intro i l hl
 rw [mget_put] at hl
 split at hl
 ·rename_i hi;cases hl;exact ⟨by rw [eq_of_beq hi];exact h1,h2⟩
 ·exact h i l hl
def Pl(n B N:Nat)(c:Au)(s:Ak)(now:UInt64):Prop:=(∃t p K,SI n B N c s t p K)∧SP s.sessions∧s.now.toNat≤now.toNat
theorem pl_step{n B N:Nat}{c:Au}{s:Ak}{now:UInt64}(h:Pl n B N c s now)(hN:N<1000000){y:AK}(h1:y.Session.toNat<8)(h2:y.Num.toNat≤31)(h3:now.toNat≤y.Now.toNat):
  ∃r e s',AQ s y=some (r,e,s')∧Pl n B (N+1) c s' y.Now:=by
 obtain ⟨⟨t,p,K,hS⟩,hP,hn⟩:=h
 obtain ⟨r,e,s',t',p',K',e1,hS',hc⟩:=hS.apply hN y
 refine ⟨r,e,s',e1,⟨t',p',K',hS'⟩,?_,?_⟩
 ·rcases hc with ⟨_,rfl,_⟩ | ⟨_,_,_,hx⟩
  ·exact hP
  ·rcases hx.cs with ⟨q,_⟩ | ⟨_,_,q,_⟩
   ·rw [q];exact hP
   ·rw [q];exact hP.put h1 h2
 ·rcases hc with ⟨_,rfl,_⟩ | ⟨_,_,_,hx⟩
  ·omega
  ·rw [hx.now,mx_n];omega
theorem SI.ent{n B N:Nat}{c:Au}{s:Ak}{t:Am}{p:Ah}{K:List Str}(h:SI n B N c s t p K):Cm s=some (listed t.m):=by
 obtain ⟨c',tt,pp,ss,sq,nw,vr,ty⟩:=s
 have e1:tt=some t:=h.st
 subst e1
 exact st_entries h.tb
theorem listed_pm{m:TM}(hu:Uk m):(listed m).Perm (m.map (·.2)):=by
 have h1:(listed m).Perm ((keys m).map fun k=>(mget m k).getD ent0):=(ksort_perm (keys m)).map _
 have h2:((keys m).map fun k=>(mget m k).getD ent0)=m.map (·.2):=by
  unfold keys
  rw [List.map_map]
  refine List.map_congr_left fun q hq =>?_
  show (mget m q.1).getD ent0=q.2
  rw [mem_mget hu (k:=q.1) (e:=q.2) hq];rfl
 rw [h2] at h1
 exact h1
theorem keys_l(x:Aj)(i:Nat):∀(B:List Nat) (f a:Nat),B.length<f→Lk (nxS x.slots) (pvS x.slots) (a::(B++[i]))→(∀p∈B,p≠i∧p<x.slots.length) →
  CE (i:Int) x f (nxS x.slots a)=some (B.map (ky x.slots)):=by
 intro B
 induction B with
 | nil =>
  intro f a hf hl _
  obtain ⟨f,rfl⟩:∃g,f=g+1:=⟨f-1,by simp at hf;omega⟩
  obtain ⟨h1,_⟩:=hl
  rw [h1]
  unfold CE
  rw [if_neg (by simp)];rfl
 | cons p B ih =>
  intro f a hf hl hp
  obtain ⟨f,rfl⟩:∃g,f=g+1:=⟨f-1,by simp at hf;omega⟩
  obtain ⟨h1,_,h3⟩:=hl
  obtain ⟨q1,q2⟩:=hp p (by simp)
  rw [h1]
  unfold CE
  rw [if_pos (by simp;omega),giN q2,ob_]
  have:=ih f p (by simpa using hf) h3 (fun p hp'=>hp p (by simp [hp']))
  rw [show (x.slots.getD p default).next=nxS x.slots p from rfl,this,ob_]
  rfl
theorem RR.Keys{k m:Nat}{r:Aj}{L:List (List Str)}(h:RR k m r L){i:Nat}{l:List Str}(hl:L[i]? = some l):DI (some r) (i:Int)=some l:=by
 have hi:i<k:=by have:=h.len;obtain ⟨q,_⟩:=List.getElem?_eq_some_iff.1 hl;omega
 have his:=h.is i
 obtain ⟨P,f,h,rfl⟩:=h
 obtain ⟨Q,hQ,rfl⟩:=keys_get hl
 have hlen:=h.co.len
 have hrg:∀p∈Q,p≠i∧p<r.slots.length:=fun p hp=>by
  have:=h.co.rg p (mem_fl hQ hp);omega
 have hQl:Q.length≤P.flatten.length:=by
  obtain ⟨U,V,e,_,_⟩:=dec hQ
  rw [e];simp;omega
 have hct:=h.ct
 unfold DI
 rw [om_some,his,if_neg (by simp [hi]),giN (by omega),ob_]
 have:=keys_l r i Q (Em (some r)) i (by show Q.length<r.slots.length+1;omega) (h.co.lk i Q hQ) hrg
 rw [show (r.slots.getD i default).next=nxS r.slots i from rfl,this,ob_]
end Go.Proofs.YtpanhdnglicknaaGreat.Pure
namespace Go.Proofs.YtpanhdnglicknaaGreat.Pure
open Go Go.Proofs.YtpanhdnglicknaaGreat.Hw
theorem giC{α:Type}(l:List α)(k:Nat):gi l (k:Int)=l[k]? := by unfold gi;simp
theorem i64n(k:Nat)(h:k≤1000000):i64 ((k:Int)+1)=((k+1:Nat):Int):=by rw [i64s _ (by omega) (by omega)];omega
section
variable {L:List (List Str)} {p:Int} {key:Str}
theorem rin1{i:Nat}{l:List Str}(hl:L[i]? = some l)(hb:l.length≤1000):∀(f k:Nat),l.length-k<f→k≤l.length →
  Cy ⟨L,p⟩ key (i:Int) f (k:Int)=if key∈l.drop k then some (Sum.inr (Sum.inr (Sum.inr ((i:Int),true)))) else some (Sum.inl ())
 | 0,k,h,_=>by omega
 | f+1,k,h,hk=>by
  unfold Cy
  rw [show gi L (i:Int)=some l by rw [giC];exact hl,ob_]
  rcases Nat.lt_or_ge k l.length with h1 | h1
  ·rw [if_pos (by simp;exact h1),giC,List.getElem?_eq_getElem h1,ob_,i64n k (by omega),rin1 hl hb f (k+1) (by omega) (by omega),List.drop_eq_getElem_cons h1]
   by_cases h2:l[k]=key
   ·rw [if_pos (by simpa using h2),if_pos (by simp [h2])]
   ·rw [if_neg (by simpa using h2)]
    by_cases h3:key∈l.drop (k+1)
    ·rw [if_pos h3,if_pos (List.mem_cons_of_mem _ h3)]
    ·rw [if_neg h3,if_neg (fun h=>(List.mem_cons.1 h).elim (fun e=>h2 e.symm) h3)]
  ·rw [if_neg (by simp;exact_mod_cast h1),List.drop_eq_nil_of_le h1,if_neg (by simp)]
def inK:List (List Str)→Str→Option Nat
 | [],_=>none
 | l::L,k=>if k∈l then some 0 else (inK L k).map (· + 1)
theorem inK_some:∀{L:List (List Str)} {k:Str},k∈L.flatten→∃i l,inK L k=some i∧L[i]? = some l∧k∈l
 | [],_,h=>by simp at h
 | l::L,k,h=>by
  rw [inK]
  by_cases h1:k∈l
  ·exact ⟨0,l,by rw [if_pos h1],rfl,h1⟩
  ·have h2:k∈L.flatten:=by simpa [h1] using h
   obtain ⟨i,m,e,h3,h4⟩:=inK_some h2
   exact ⟨i+1,m,by rw [if_neg h1,e];rfl,h3,h4⟩
theorem rin0(hb:∀l∈L,l.length≤1000)(hL:L.length≤1000):∀(f i:Nat),L.length-i<f→i≤L.length →
  B0 ⟨L,p⟩ key f (i:Int)=match inK (L.drop i) key with
   | some j=>some (Sum.inr (((i+j:Nat):Int),true))
   | none=>some (Sum.inl ())
 | 0,i,h,_=>by omega
 | f+1,i,h,hk=>by
  unfold B0
  rcases Nat.lt_or_ge i L.length with h1 | h1
  ·have e:=rin1 (p:=p) (key:=key) (List.getElem?_eq_getElem h1) (hb _ (List.getElem_mem h1)) 1100 0 (by have:=hb _ (List.getElem_mem h1);omega) (by omega)
   rw [List.drop_zero,show ((0:Nat):Int)=0 from rfl] at e
   rw [if_pos (by simp;exact h1),e,List.drop_eq_getElem_cons h1,inK]
   by_cases h2:key∈L[i]
   ·rw [if_pos h2,if_pos h2];rfl
   ·rw [if_neg h2,if_neg h2]
    show (B0 ⟨L,p⟩ key f (i64 ((i:Int)+1)))=_
    rw [i64n i (by omega),rin0 hb hL f (i+1) (by omega) (by omega)]
    cases inK (L.drop (i+1)) key with
    | none=>rfl
    | some j=>simp only [Option.map_some];rw [show i+1+j=i+(j+1) by omega]
  ·rw [if_neg (by simp;exact_mod_cast h1),List.drop_eq_nil_of_le h1];rfl
theorem rin(hb:∀l∈L,l.length≤1000)(hL:L.length≤1000):AP ⟨L,p⟩ key=match inK L key with
   | some j=>some ((j:Int),true)
   | none=>some (0,false):=by
 unfold AP
 rw [show (((⟨L,p⟩:Ab).L.length:Int)-0).toNat=L.length by simp]
 have:=rin0 (p:=p) (key:=key) hb hL (L.length+1) 0 (by omega) (by omega)
 rw [show ((0:Nat):Int)=0 from rfl,List.drop_zero] at this
 rw [this]
 cases inK L key with
 | none=>rfl
 | some j=>simp
theorem rmany0(hs:L.flatten.length≤1000000)(hL:L.length≤1000):∀(f i n:Nat),L.length-i<f→i≤L.length→n+(L.drop i).flatten.length=L.flatten.length →
  Ci ⟨L,p⟩ f (n:Int) (i:Int)=some (L.flatten.length:Int)
 | 0,i,n,h,_,_=>by omega
 | f+1,i,n,h,hk,he=>by
  unfold Ci
  rcases Nat.lt_or_ge i L.length with h1 | h1
  ·rw [if_pos (by simp;exact h1),show gi L (i:Int)=some L[i] by rw [giC];exact List.getElem?_eq_getElem h1,ob_,i64n i (by omega)]
   rw [List.drop_eq_getElem_cons h1,List.flatten_cons,List.length_append] at he
   rw [i64s _ (by omega) (by omega),show ((n:Int)+(L[i].length:Int))=((n+L[i].length:Nat):Int) by simp]
   exact rmany0 hs hL f (i+1) _ (by omega) (by omega) (by omega)
  ·rw [if_neg (by simp;exact_mod_cast h1)]
   rw [List.drop_eq_nil_of_le h1] at he
   simp at he
   rw [he];simp
theorem rmany(hs:L.flatten.length≤1000000)(hL:L.length≤1000):BT ⟨L,p⟩=some (L.flatten.length:Int):=by
 unfold BT
 have:=rmany0 (p:=p) hs hL (L.length+1) 0 0 (by omega) (by omega) (by simp)
 rw [show (((⟨L,p⟩:Ab).L.length:Int)-0).toNat=L.length by simp,show (0:Int)=((0:Nat):Int) from rfl,this];rfl
theorem rdrop1{i:Nat}{l:List Str}(hl:L[i]? = some l)(hb:l.length≤1000):∀(f k:Nat) (o:List Str),l.length-k<f→k≤l.length→o.length≤k →
  Cf ⟨L,p⟩ key (i:Int) f o (k:Int)=some (o++(l.drop k).filter fun x => !(x==key))
 | 0,k,o,h,_,_=>by omega
 | f+1,k,o,h,hk,ho=>by
  unfold Cf
  rw [show gi L (i:Int)=some l by rw [giC];exact hl,ob_]
  rcases Nat.lt_or_ge k l.length with h1 | h1
  ·rw [if_pos (by simp;exact h1),giC,List.getElem?_eq_getElem h1,ob_,i64n k (by omega),List.drop_eq_getElem_cons h1]
   by_cases h2:l[k]=key
   ·rw [if_neg (by simp [h2]),ob_,rdrop1 hl hb f (k+1) o (by omega) (by omega) (by omega),List.filter_cons_of_neg (by simp [h2])]
   ·rw [if_pos (by simpa using h2),apd_i 16 o [l[k]] (by omega) (by simp;omega),ob_,ob_,rdrop1 hl hb f (k+1) _ (by omega) (by omega) (by simp;omega),List.filter_cons_of_pos (by simp [h2])];simp
  ·rw [if_neg (by simp;exact_mod_cast h1),List.drop_eq_nil_of_le h1];simp
theorem rdrop0(hb:∀l∈L,l.length≤1000)(hL:L.length≤1000):∀(f i:Nat) (c:List (List Str)),L.length-i<f→i≤L.length→c.length=L.length →
  Cg ⟨L,p⟩ key f (i:Int) c=some (c.take i++rmK (L.drop i) key)
 | 0,i,c,h,_,_=>by omega
 | f+1,i,c,h,hk,hc=>by
  unfold Cg
  rcases Nat.lt_or_ge i L.length with h1 | h1
  ·have h2:i<c.length:=by omega
   rw [if_pos (by simp;exact h1),show (0:Int)=((0:Nat):Int) from rfl,rdrop1 (List.getElem?_eq_getElem h1) (hb _ (List.getElem_mem h1)) 1100 0 [] (by have:=hb _ (List.getElem_mem h1);omega) (by omega) (by simp),List.drop_zero,ob_,
    show gi c (i:Int)=some c[i] by rw [giC];exact List.getElem?_eq_getElem h2,ob_,ob_,i64n i (by omega),lsC,
    rdrop0 hb hL f (i+1) _ (by omega) (by omega) (by simpa using hc),List.drop_eq_getElem_cons h1]
   simp only [rmK,List.map_cons,List.nil_append]
   rw [List.take_set,List.take_add_one,List.getElem?_eq_getElem h2]
   rw [List.set_append_right _ _ (by simp;omega)]
   simp [Nat.min_eq_left (Nat.le_of_lt h2)]
  ·rw [if_neg (by simp;exact_mod_cast h1),List.drop_eq_nil_of_le h1];simp [rmK];exact (List.take_of_length_le (by omega)).symm
theorem rnew(k:Nat)(hk:k≤5000):BC (k:Int) p=some ⟨List.replicate k [],p⟩:=by
 unfold BC;rw [mks_i 24 k _ (by omega) hk];rfl
theorem rdrop(hb:∀l∈L,l.length≤1000)(hL:L.length≤1000):AG ⟨L,p⟩ key=some ⟨rmK L key,p⟩:=by
 unfold AG
 rw [show BC _ _=_ from rnew L.length (by omega),ob_]
 have:=rdrop0 (p:=p) (key:=key) hb hL (L.length+1) 0 (List.replicate L.length []) (by omega) (by omega) (by simp)
 rw [show (((⟨L,p⟩:Ab).L.length:Int)-0).toNat=L.length by simp,show (0:Int)=((0:Nat):Int) from rfl,this];simp
end
end Go.Proofs.YtpanhdnglicknaaGreat.Pure
namespace Go.Proofs.YtpanhdnglicknaaGreat.Pure
open Go Go.Proofs.YtpanhdnglicknaaGreat.Hw
section
variable {L:List (List Str)} {p:Int} {key:Str}
theorem rfrontT(hb:∀l∈L,l.length≤1000)(hL:L.length≤1000){i:Nat}(hi:i<L.length):
  ((AG ⟨L,p⟩ key).bind fun r10=>(gi r10.L (i:Int)).bind fun y16=>(apd 16 [key] y16).bind fun l20=>some ((⟨ls r10.L (i:Int) l20,r10.Places⟩:Ab),true))=some (⟨frK L i key,p⟩,true):=by
 rw [rdrop hb hL,ob_]
 have h1:i<(rmK L key).length:=by simpa [rmK] using hi
 dsimp only
 rw [giC,List.getElem?_eq_getElem h1,ob_]
 have h2:((rmK L key)[i]).length≤1000:=by
  have:(rmK L key)[i]=(L[i]).filter fun x => !(x==key):=by simp [rmK]
  rw [this]
  exact Nat.le_trans (List.length_filter_le _ _) (hb _ (List.getElem_mem hi))
 rw [apd_i 16 [key] _ (by omega) (by simp;omega),ob_,lsC]
 unfold frK
 rw [List.getD_eq_getElem?_getD,List.getElem?_eq_getElem h1]
 rfl
theorem rfront(hb:∀l∈L,l.length≤1000)(hL:L.length≤1000)(hs:L.flatten.length≤1000000){i:Nat}(hi:i<L.length)(h64:key.length≤64)(hr:key∈L.flatten∨(L.flatten.length:Int)<p):
  A2 ⟨L,p⟩ (i:Int) key=some (⟨frK L i key,p⟩,true):=by
 unfold A2
 rw [rin hb hL]
 have e1:((decide ((i:Int)<0)||decide ((L.length:Int)≤(i:Int)))||decide (64<(key.length:Int)))=false:=by simp;omega
 cases h:inK L key with
 | some j =>
  dsimp only
  rw [ob_,e1,if_neg (by decide),if_pos rfl,ob_,ob_,if_neg (by decide)]
  exact rfrontT hb hL hi
 | none =>
  have hk:key∉L.flatten:=fun hk=>by obtain ⟨i,l,e,_⟩:=inK_some hk;rw [e] at h;cases h
  have hr:(L.flatten.length:Int)<p:=hr.resolve_left hk
  dsimp only
  rw [ob_,e1,if_neg (by decide),if_neg (by decide),rmany hs hL,ob_,ob_]
  rw [show decide (p≤(L.flatten.length:Int))=false from decide_eq_false (by omega),ob_,if_neg (by decide)]
  exact rfrontT hb hL hi
theorem rback{i:Nat}{l:List Str}(hl:L[i]? = some l)(hb:l.length≤1000):Ay ⟨L,p⟩ (i:Int)=some (match l.getLast? with | some k=>(k,true) | none=>([],false)):=by
 have hi:i<L.length:=by rcases Nat.lt_or_ge i L.length with h | h;exact h;rw [List.getElem?_eq_none h] at hl;cases hl
 unfold Ay
 dsimp only
 rw [show (decide ((i:Int)<0)||decide ((L.length:Int)≤(i:Int)))=false by simp;omega,if_neg (by decide),giC,hl,ob_,ob_,ob_]
 cases e:l.getLast? with
 | none=>rw [List.getLast?_eq_none_iff.1 e];rfl
 | some k =>
  obtain ⟨q,rfl⟩:=List.getLast?_eq_some_iff.1 e
  rw [List.length_append,List.length_singleton] at hb
  rw [if_neg (by simp;omega),i64s _ (by rw [List.length_append];omega) (by rw [List.length_append,List.length_singleton];omega),show (((q++[k]).length:Int)-1)=(q.length:Int) by simp,giC]
  simp
end
abbrev TD(n:Nat)(seed:UInt64)(s:Sk)(x:TL):Ae:=⟨(n:Int),s.M (wd n) seed,⟨x.L,((n+1:Nat):Int)⟩⟩
section
variable {n:Nat} {seed:UInt64} {t:Ao} {s:Sk} {x:TL} {k:Str}
theorem TL.hb(hn:n≤900)(hx:x.n≤n+1):∀l∈x.L,l.length≤1000:=by
 intro l hl
 have:x.n=x.a.length+x.b.length+x.c.length:=rfl
 simp only [TL.L,List.mem_cons,List.not_mem_nil,or_false] at hl
 rcases hl with rfl | rfl | rfl <;> omega
theorem TL.fl(hn:n≤900)(hx:x.n≤n+1):x.L.flatten.length≤1000000:=by rw [fl_all,all_n];omega
theorem fr_n2(hnd:x.all.Nodup)(hk:k∈x.all):(x.fr2 k).n=x.n:=by rw [←all_n,←all_n];exact (perm_mem (fr2_all x k) hk hnd).length_eq
theorem dIn(hn:n≤900)(hx:x.n≤n+1)(p:Int):AP ⟨x.L,p⟩ k=some (if k∈x.a then (0,true) else if k∈x.b then (1,true) else if k∈x.c then (2,true) else (0,false)):=by
 rw [rin (TL.hb hn hx) (by simp)]
 simp only [inK]
 by_cases h1:k∈x.a
 ·simp [h1]
 ·by_cases h2:k∈x.b
  ·simp [h1,h2]
  ·by_cases h3:k∈x.c
   ·simp [h1,h2,h3]
   ·simp [h1,h2,h3]
theorem all_m:k∈x.all↔k∈x.a∨k∈x.b∨k∈x.c:=by unfold TL.all;simp
theorem dHas(hn:n≤900)(hx:x.n≤n+1):B8 (TD n seed s x) k=some (decide (k∈x.all)):=by
 unfold B8
 rw [dIn hn hx,ob_]
 by_cases h1:k∈x.a
 ·simp [h1,all_m]
 ·by_cases h2:k∈x.b
  ·simp [h1,h2,all_m]
  ·by_cases h3:k∈x.c
   ·simp [h1,h2,h3,all_m]
   ·simp [h1,h2,h3,all_m]
theorem dLen(hn:n≤900)(hx:x.n≤n+1):C6 (TD n seed s x)=some (x.n:Int):=by
 unfold C6
 rw [rmany (TL.fl hn hx) (by simp),ob_,fl_all,all_n]
theorem dBack(hn:n≤900)(hx:x.n≤n+1){i:Nat}{l:List Str}(hl:x.L[i]? = some l)(p:Int):Ay ⟨x.L,p⟩ (i:Int)=some (match l.getLast? with | some k=>(k,true) | none=>([],false)) :=
 rback hl (TL.hb hn hx l (List.mem_of_getElem? hl))
theorem dDrop(hn:n≤900)(hx:x.n≤n+1)(p:Int):AG ⟨x.L,p⟩ k=some ⟨(x.drop k).L,p⟩:=by
 rw [rdrop (TL.hb hn hx) (by simp),rmL]
theorem dfront0(hn:n≤900)(hx:x.n≤n+1)(h64:k.length≤64)(hr:k∈x.all∨x.n≤n):AH (TD n seed s x) 0 k=some (TD n seed s (x.fr0 k)):=by
 unfold AH
 rw [show A2 (TD n seed s x).R 0 k=_ from rfront (i:=0) (TL.hb hn hx) (by simp) (TL.fl hn hx) (by simp) h64 (by rw [fl_all,all_n];exact hr.imp id (by omega)),ob_,frL0]
theorem dfront1(hn:n≤900)(hx:x.n≤n+1)(h64:k.length≤64)(hr:k∈x.all∨x.n≤n):AH (TD n seed s x) 1 k=some (TD n seed s (x.fr1 k)):=by
 unfold AH
 rw [show A2 (TD n seed s x).R 1 k=_ from rfront (i:=1) (TL.hb hn hx) (by simp) (TL.fl hn hx) (by simp) h64 (by rw [fl_all,all_n];exact hr.imp id (by omega)),ob_,frL1]
theorem dfront2(hn:n≤900)(hx:x.n≤n+1)(h64:k.length≤64)(hr:k∈x.all∨x.n≤n):AH (TD n seed s x) 2 k=some (TD n seed s (x.fr2 k)):=by
 unfold AH
 rw [show A2 (TD n seed s x).R 2 k=_ from rfront (i:=2) (TL.hb hn hx) (by simp) (TL.fl hn hx) (by simp) h64 (by rw [fl_all,all_n];exact hr.imp id (by omega)),ob_,frL2]
theorem parts_r(n:Nat)(h1:1≤n)(h:n≤1000):Cn (n:Int)=((Wn n:Int),(Sf n:Int)):=by
 have e1:i64 ((n:Int).tdiv 8)=((n/8:Nat):Int):=by
  rw [show (n:Int).tdiv 8=((n/8:Nat):Int) by rw [Int.tdiv_eq_ediv_of_nonneg (by omega)];omega,i64s _ (by omega) (by omega)]
 have e2:(if decide (((n/8:Nat):Int)<1)=true then (1:Int) else ((n/8:Nat):Int))=(Wn n:Int):=by
  unfold Wn;simp only [decide_eq_true_eq];split <;> omega
 have hw:=Wn_le h1
 have e3:i64 ((n:Int)-(Wn n:Int))=((n-Wn n:Nat):Int):=by rw [i64s _ (by omega) (by omega)];omega
 have e4:i64 (((n-Wn n:Nat):Int)*4)=(((n-Wn n)*4:Nat):Int):=by rw [i64s _ (by omega) (by omega)];omega
 have e5:(((n-Wn n)*4:Nat):Int).tdiv 5=((Sf n:Nat):Int):=by
  unfold Sf
  rw [Int.tdiv_eq_ediv_of_nonneg (by omega)];omega
 have e6:i64 ((Sf n:Nat):Int)=(Sf n:Int):=by
  have:Sf n≤1000:=by unfold Sf;omega
  rw [i64s _ (by omega) (by omega)]
 unfold Cn
 rw [lt_eq,e1,e2,e3,e4,e5,e6]
end
end Go.Proofs.YtpanhdnglicknaaGreat.Pure
