import Derived.Test.YtpanhdnglicknaaGreatW4
import Derived.Test.YtpanhdnglicknaaGreatQ0
import Derived.Test.YtpanhdnglicknaaGreatQ1
set_option linter.unusedVariables false
set_option linter.unusedSectionVars false
set_option linter.unusedSimpArgs false
set_option maxRecDepth 100000
set_option maxHeartbeats 4000000
namespace Go.Proofs.YtpanhdnglicknaaGreat.Pure
open Go Go.Proofs.YtpanhdnglicknaaGreat.Hw Go.Proofs.YtpanhdnglicknaaGreat
def lst0:Ap:=⟨0,(⟨0,[],0⟩:Ar)⟩
def aRest(s:Ad)(x:AM):Option (Ar×Int×Ad) :=
 if (x.Op.Kind==5) then some ((⟨0,[],0⟩:Ar),0,s) else if ((mget s.sessions x.Session).isSome&&(x.Num==(((mget s.sessions x.Session).getD lst0).num))) then some ((((mget s.sessions x.Session).getD lst0).reply),0,s)
 else if ((mget s.sessions x.Session).isSome&&decide (x.Num<(((mget s.sessions x.Session).getD lst0).num))) then some ((⟨122,[],0⟩:Ar),0,s) else if (!((mget s.sessions x.Session).isSome)&&decide (64≤(s.sessions.length:Int))) then some ((⟨3,[],0⟩:Ar),0,s)
 else (AP s x.Op).bind fun r37=>some (r37.1,0,(⟨r37.2.c,r37.2.t,r37.2.p,mput r37.2.sessions x.Session (⟨x.Num,r37.1⟩:Ap),r37.2.seq,r37.2.now,r37.2.version,r37.2.tally⟩:Ad))
def mx(a b:UInt64):UInt64:=if a<b then b else a
theorem mx_n(a b:UInt64):(mx a b).toNat=max a.toNat b.toNat:=by
 unfold mx
 split
 ·rename_i h;rw [UInt64.lt_iff_toNat_lt] at h;omega
 ·rename_i h;rw [UInt64.lt_iff_toNat_lt] at h;omega
theorem keys_mem{m:TM}{k:Str}: k∈keys m↔∃e,mget m k=some e:=by
 have h:=mget_keys (m:=m) (k:=k)
 constructor
 ·intro hk
  cases hg:mget m k with
  | none=>rw [hg] at h;simp [hk] at h
  | some e=>exact ⟨e,rfl⟩
 ·rintro ⟨e,he⟩;rw [he] at h;simpa using h.symm
theorem msz_dels:∀(L:List Str) (m:TM),msz (mdels m L)≤msz m:=by
 intro L
 induction L with
 | nil=>exact fun m=>Nat.le_refl _
 | cons x L ih =>
  intro m
  refine Nat.le_trans (ih (mdel m x)) ?_
  cases hg:mget m x with
  | none=>rw [mdel_no hg];exact Nat.le_refl _
  | some e=>have:=msz_del hg;omega
section
variable {n:Nat} {c:Av} {t:Ah} {p:Ac} {ss:List (UInt64×Ap)} {sq nw vr:UInt64} {ty:BJ} {K:List Str}
theorem st_apply(ht:TB K t)(hp:PR n p K){x:AM}(hc:BQ x.Op=true)(h1:((x.Seq==0)||((x.Seq-1) != sq))=false):
  ∃t1 p1 K1,AF ⟨c,some t,some p,ss,sq,nw,vr,ty⟩ x=aRest ⟨c,some t1,some p1,ss,sq+1,mx nw x.Now,vr,ty⟩ x∧TB K1 t1∧PR n p1 K1 ∧
   (∀k,endsAt t.m (mx nw x.Now) k→mget t1.m k=none)∧(∀k,¬endsAt t.m (mx nw x.Now) k→mget t1.m k=mget t.m k)∧(∀k,k∈K1↔k∈K∧¬endsAt t.m (mx nw x.Now) k)∧(∀q∈t1.m,q∈t.m)∧msz t1.m≤msz t.m∧((∀k,¬endsAt t.m (mx nw x.Now) k)→t1.m=t.m∧K1=K):=by
 obtain ⟨L,e1,hn,hl,hm⟩:=ht.ended (mx nw x.Now)
 obtain ⟨t1,p1,e2,a1,a2,a3⟩:=ap_l0 n L (by omega) (((L.length:Int)-0).toNat+1) 0 t p K (by omega) (by omega) ht hp
 rw [List.drop_zero] at a1 a2 a3
 refine ⟨t1,p1,_,?_,a1,a2,fun k hk => ?_,fun k hk => ?_,fun k => ?_,fun q hq => ?_,?_,fun hno => ?_⟩
 ·unfold AF
  dsimp only
  rw [if_neg (by rw [hc];decide),if_neg (by rw [h1];decide),om_some]
  have e1':BF t (if nw<x.Now then x.Now else nw)=some L:=e1
  have e2':A3 L (((L.length:Int)-0).toNat+1) 0 t.bytes (some p) t.m=some (t1.bytes,some p1,t1.m):=e2
  rw [e1',Option.bind_some,e2',Option.bind_some]
  rfl
 ·rw [a3,(mget_dels L _ ht.uk).1,if_pos ((hm k).2 hk)]
 ·rw [a3,(mget_dels L _ ht.uk).1,if_neg (fun z=>hk ((hm k).1 z))]
 ·rw [mem_rms,hm]
 ·have hu:=(mget_dels L _ ht.uk).2
  rw [←a3] at hu
  have:=mem_mget hu (k:=q.1) (e:=q.2) hq
  rw [a3,(mget_dels L _ ht.uk).1] at this
  split at this
  ·cases this
  ·exact mget_mem this
 ·rw [a3];exact msz_dels L _
 ·have hL:L=[]:=List.eq_nil_iff_forall_not_mem.2 fun k hk=>hno k ((hm k).1 hk)
  subst hL
  exact ⟨a3,rfl⟩
theorem st_refuse{s:Ad}{x:AM}(hc:BQ x.Op=false):AF s x=some ((⟨0,[],0⟩:Ar),1,s):=by
 unfold AF
 rw [if_pos (by rw [hc];rfl)]
theorem st_seq{s:Ad}{x:AM}(hc:BQ x.Op=true)(h1:((x.Seq==0)||((x.Seq-1) != s.seq))=true):AF s x=some ((⟨0,[],0⟩:Ar),123,s):=by
 unfold AF
 rw [if_neg (by rw [hc];decide),if_pos h1]
theorem do_hit(ht:TB K t)(hp:PR n p K){o:AH}(hk:o.Kind=1){e:Ak}(hg:mget t.m o.Key=some e):
  ∃p',AP ⟨c,some t,some p,ss,sq,nw,vr,ty⟩ o=some ((⟨0,e.Value,e.Version⟩:Ar),⟨c,some t,some p',ss,sq,nw,vr,⟨i64 (ty.Asked+1),i64 (ty.Hits+1)⟩⟩)∧PR n p' K:=by
 have hm:o.Key∈K:=by have:=ht.has o.Key;rw [hg] at this;simpa using this.symm
 obtain ⟨p',e1,h1⟩:=hp.touch hm
 unfold AP AA
 dsimp only
 rw [om_some,lt_eq,if_pos (by rw [hk];rfl),hg,if_neg (by simp),om_some,e1,Option.bind_some]
 exact ⟨p',rfl,h1⟩
theorem do_miss(ht:TB K t)(hp:PR n p K){o:AH}(hk:o.Kind=1)(h64:o.Key.length≤64)(hg:mget t.m o.Key=none):
  ∃p',AP ⟨c,some t,some p,ss,sq,nw,vr,ty⟩ o=some ((⟨2,[],0⟩:Ar),⟨c,some t,some p',ss,sq,nw,vr,⟨i64 (ty.Asked+1),ty.Hits⟩⟩)∧PR n p' K:=by
 obtain ⟨p',e1,h1⟩:=hp.miss h64
 unfold AP AA
 dsimp only
 rw [om_some,lt_eq,if_pos (by rw [hk];rfl),hg,if_pos (by simp),om_some,e1,Option.bind_some]
 exact ⟨p',rfl,h1⟩
theorem do_none{o:AH}(hk:o.Kind=3∨o.Kind=4)(hg:mget t.m o.Key=none):
  AP ⟨c,some t,some p,ss,sq,nw,vr,ty⟩ o=some ((⟨2,[],0⟩:Ar),⟨c,some t,some p,ss,sq,nw,vr,ty⟩):=by
 unfold AP AA
 dsimp only
 rcases hk with hk | hk
 ·rw [om_some,lt_eq,if_neg (by rw [hk];decide),if_pos (by rw [hk];rfl),hg,if_pos (by simp)]
 ·rw [om_some,lt_eq,if_neg (by rw [hk];decide),if_neg (by rw [hk];decide),if_pos (by rw [hk];rfl),hg,if_pos (by simp)]
theorem do_del(ht:TB K t)(hp:PR n p K){o:AH}(hk:o.Kind=3){e:Ak}(hg:mget t.m o.Key=some e):
  ∃t' p',AP ⟨c,some t,some p,ss,sq,nw,vr,ty⟩ o=some ((⟨0,[],e.Version⟩:Ar),⟨c,some t',some p',ss,sq,nw,vr,ty⟩)∧t'.m=mdel t.m o.Key∧TB (TL.rm K o.Key) t'∧PR n p' (TL.rm K o.Key):=by
 obtain ⟨t',e1,e2,h1⟩:=ht.drop o.Key
 obtain ⟨b,p',e3,h2⟩:=hp.remove o.Key
 unfold AP AA
 dsimp only
 rw [om_some,lt_eq,if_neg (by rw [hk];decide),if_pos (by rw [hk];rfl),hg,if_neg (by simp),lt_eq,e1,om_some,e3,Option.bind_some]
 exact ⟨t',p',rfl,e2,h1,h2⟩
theorem do_cas(o:AH)(hk:o.Kind=4){e:Ak}(hg:mget t.m o.Key=some e):
  AP ⟨c,some t,some p,ss,sq,nw,vr,ty⟩ o=if e.Version=o.Version then AW ⟨c,some t,some p,ss,sq,nw,vr,ty⟩ o else some ((⟨121,[],e.Version⟩:Ar),⟨c,some t,some p,ss,sq,nw,vr,ty⟩):=by
 unfold AP AA
 dsimp only
 rw [om_some,lt_eq,if_neg (by rw [hk];decide),if_neg (by rw [hk];decide),if_pos (by rw [hk];rfl),hg,if_neg (by simp)]
 dsimp only [Option.getD_some]
 by_cases h:e.Version=o.Version
 ·rw [if_neg (by simp [h]),if_pos h]
  cases AW ⟨c,some t,some p,ss,sq,nw,vr,ty⟩ o <;> rfl
 ·rw [if_pos (by simp [h]),if_neg h]
theorem do_put(o:AH)(hk:o.Kind≠1∧o.Kind≠3∧o.Kind≠4):AP ⟨c,some t,some p,ss,sq,nw,vr,ty⟩ o=AW ⟨c,some t,some p,ss,sq,nw,vr,ty⟩ o:=by
 unfold AP AA
 dsimp only
 rw [om_some,lt_eq,if_neg (by simp [hk.1]),if_neg (by simp [hk.2.1]),if_neg (by simp [hk.2.2])]
 cases AW ⟨c,some t,some p,ss,sq,nw,vr,ty⟩ o <;> rfl
end
theorem tb_new:TB [] ⟨[],0⟩:=⟨List.nodup_nil,fun _ h=>(by cases h),rfl,List.Perm.refl _,by simp⟩
theorem new_s(k:Nat)(hk:k=1∨k=2)(n B:Nat)(seed:UInt64)(h1:1≤n)(h2:n≤1000)(h3:1≤B)(h4:B≤1048576):
  ∃p,CR ⟨(k:Int),(n:Int),(B:Int),seed⟩=some (some ⟨⟨(k:Int),(n:Int),(B:Int),seed⟩,some ⟨[],0⟩,some p,[],0,0,0,⟨0,0⟩⟩,0)∧PR n p []:=by
 have hc:BP ⟨(k:Int),(n:Int),(B:Int),seed⟩=true:=by
  unfold BP
  simp only [Bool.and_eq_true,decide_eq_true_eq]
  refine ⟨⟨⟨⟨?_,by omega⟩,by omega⟩,by omega⟩,by omega⟩
  rcases hk with rfl | rfl <;> rfl
 unfold CR
 rw [if_neg (by rw [hc];decide)]
 dsimp only
 rcases hk with rfl | rfl
 ·obtain ⟨p,e,h⟩:=new_p1 n seed h1 h2
  rw [show Ci ((1:Nat):Int) (n:Int) seed=_ from e,Option.bind_some,lt_eq]
  exact ⟨p,rfl,h⟩
 ·obtain ⟨p,e,h⟩:=new_p2 n seed h1 h2
  rw [show Ci ((2:Nat):Int) (n:Int) seed=_ from e,Option.bind_some,lt_eq]
  exact ⟨p,rfl,h⟩
theorem rest_do{s:Ad}{x:AM}(hk:x.Op.Kind≠5)(hs:(mget s.sessions x.Session=none∧s.sessions.length<64)∨∃l,mget s.sessions x.Session=some l∧l.num<x.Num):
  aRest s x=(AP s x.Op).bind fun r37=>some (r37.1,0,(⟨r37.2.c,r37.2.t,r37.2.p,mput r37.2.sessions x.Session (⟨x.Num,r37.1⟩:Ap),r37.2.seq,r37.2.now,r37.2.version,r37.2.tally⟩:Ad)):=by
 unfold aRest
 rw [if_neg (by simp [hk])]
 rcases hs with ⟨h1,h2⟩ | ⟨l,h1,h2⟩
 ·rw [h1,if_neg (by simp),if_neg (by simp),if_neg (by simp;omega)]
 ·rw [UInt64.lt_iff_toNat_lt] at h2
  rw [h1,if_neg (by simp only [Option.isSome_some,Option.getD_some,Bool.true_and,beq_iff_eq];intro z;rw [z] at h2;omega),if_neg (by simp only [Option.isSome_some,Option.getD_some,Bool.true_and,decide_eq_true_eq,UInt64.lt_iff_toNat_lt];omega),if_neg (by simp)]
def ent0:Ak:=⟨[],[],0,0⟩
def listed(m:TM):List Ak:=(ksort (keys m)).map fun k=>(mget m k).getD ent0
theorem ent_l0(L:List Str)(t:Ah)(hL:L.length≤2000):∀(f i:Nat) (o:List Ak),f=L.length-i+1→i≤L.length→o.length+(L.length-i)≤5000 →
  BL L t f o (i:Int)=some (o++(L.drop i).map fun k=>(mget t.m k).getD ent0):=by
 intro f
 induction f with
 | zero=>intro i o h;omega
 | succ f ih =>
  intro i o hf hi ho
  unfold BL
  by_cases c:i<L.length
  ·unfold AA
   rw [if_pos (by simpa using c),gN c,Option.bind_some,lt_eq,apd_i _ _ _ (by decide) (by simp;omega),Option.bind_some,i_a1 (by omega),ih (i+1) _ (by omega) (by omega) (by simp;omega),drop_at' c,List.map_cons,List.append_assoc]
   rfl
  ·rw [if_neg (by simpa using c),List.drop_eq_nil_of_le (by omega)];simp
theorem st_entries{c:Av}{t:Ah}{p:Option Ac}{ss:List (UInt64×Ap)}{sq nw vr:UInt64}{ty:BJ}{K:List Str}(ht:TB K t):BX ⟨c,some t,p,ss,sq,nw,vr,ty⟩=some (listed t.m):=by
 have hl:=ht.len
 have:=ht.le
 have hk:(ksort (keys t.m)).length≤1001:=by rw [(ksort_perm _).length_eq];unfold keys;simp;omega
 unfold BX Bl
 dsimp only
 rw [om_some,ht.mkeys,Option.bind_some]
 have:=ent_l0 (ksort (keys t.m)) t (by omega) (((((ksort (keys t.m)).length:Nat):Int)-0).toNat+1) 0 [] (by omega) (by omega) (by simp;omega)
 rw [List.nil_append,List.drop_zero] at this
 rw [show BL (ksort (keys t.m)) t (((((ksort (keys t.m)).length:Nat):Int)-0).toNat+1) [] 0=_ from this,Option.bind_some]
 rfl
def enOk(m:TM)(nw:UInt64):Prop:=∀k e,mget m k=some e→1≤e.Version.toNat∧(e.End.toNat=0∨nw.toNat<e.End.toNat)
theorem chk_len{o:AH}(h:BQ o=true):o.Key.length≤64∧o.Value.length≤4096:=by
 unfold BQ at h
 split at h
 ·cases h
 ·rename_i hc
  simp only [Bool.or_eq_true,decide_eq_true_eq,not_or] at hc
  omega
theorem chk_kind{o:AH}(h:BQ o=true):o.Kind=1∨o.Kind=2∨o.Kind=3∨o.Kind=4∨o.Kind=5:=by
 unfold BQ at h
 split at h
 ·cases h
 ·rw [lt_eq] at h
  by_cases c1:o.Kind=1
  ·exact .inl c1
  ·by_cases c2:o.Kind=2
   ·exact .inr (.inl c2)
   ·by_cases c3:o.Kind=3
    ·exact .inr (.inr (.inl c3))
    ·by_cases c4:o.Kind=4
     ·exact .inr (.inr (.inr (.inl c4)))
     ·by_cases c5:o.Kind=5
      ·exact .inr (.inr (.inr (.inr c5)))
      ·simp [c1,c2,c3,c4,c5] at h
theorem u1n{v:UInt64}(h:v.toNat<1000000000):(v+1).toNat=v.toNat+1:=by
 have c1:(1:UInt64).toNat=1:=rfl
 rw [UInt64.toNat_add,c1];omega
section
variable {n B:Nat} {c:Av} {t:Ah} {p:Ac} {ss:List (UInt64×Ap)} {sq nw vr:UInt64} {ty:BJ} {K:List Str}
theorem put_any{o:AH}(hB:c.Bytes=(B:Int))(hB2:B≤1048576)(ht:TB K t)(hp:PR n p K)(hs:msz t.m≤B)(he:enOk t.m nw)(hv:vr.toNat<1000000000)(h1:o.Key.length≤64)(h2:o.Value.length≤4096):
  ∃r t' p' K' vr',AW ⟨c,some t,some p,ss,sq,nw,vr,ty⟩ o=some (r,⟨c,some t',some p',ss,sq,nw,vr',ty⟩)∧TB K' t'∧PR n p' K'∧msz t'.m≤B∧enOk t'.m nw∧vr'.toNat≤vr.toNat+1:=by
 rcases st_put (c:=c) (ss:=ss) (sq:=sq) (nw:=nw) (vr:=vr) (ty:=ty) (o:=o) hB hB2 ht hp h1 h2 with ⟨_,e⟩ | ⟨_,t',p',K',e,q1,q2,q3,q4,_⟩
 ·exact ⟨_,t,p,K,vr,e,ht,hp,hs,he,by omega⟩
 ·refine ⟨_,t',p',K',vr+1,e,q1,q2,q3,fun k x hx => ?_,by rw [u1n hv];omega⟩
  rcases q4 k x hx with ⟨_,z⟩ | ⟨_,rfl⟩
  ·exact he k x z
  ·exact ⟨by dsimp only;rw [u1n hv];omega,endv_ok nw o.TTL⟩
theorem do_any{o:AH}(hB:c.Bytes=(B:Int))(hB2:B≤1048576)(ht:TB K t)(hp:PR n p K)(hs:msz t.m≤B)(he:enOk t.m nw)(hv:vr.toNat<1000000000)(hc:BQ o=true):
  ∃r t' p' K' vr' ty',AP ⟨c,some t,some p,ss,sq,nw,vr,ty⟩ o=some (r,⟨c,some t',some p',ss,sq,nw,vr',ty'⟩)∧TB K' t'∧PR n p' K'∧msz t'.m≤B∧enOk t'.m nw∧vr'.toNat≤vr.toNat+1 ∧
   (o.Kind=1→(r.E=0∧ty'=⟨i64 (ty.Asked+1),i64 (ty.Hits+1)⟩)∨(r.E=2∧ty'=⟨i64 (ty.Asked+1),ty.Hits⟩))∧(o.Kind≠1→ty'=ty):=by
 obtain ⟨h1,h2⟩:=chk_len hc
 by_cases k1:o.Kind=1
 ·cases hg:mget t.m o.Key with
  | none =>
   obtain ⟨p',e,q⟩:=do_miss (c:=c) (ss:=ss) (sq:=sq) (nw:=nw) (vr:=vr) (ty:=ty) ht hp k1 h1 hg
   exact ⟨_,t,p',K,vr,_,e,ht,q,hs,he,by omega,fun _ => .inr ⟨rfl,rfl⟩,fun z=>absurd k1 z⟩
  | some x =>
   obtain ⟨p',e,q⟩:=do_hit (c:=c) (ss:=ss) (sq:=sq) (nw:=nw) (vr:=vr) (ty:=ty) ht hp k1 hg
   exact ⟨_,t,p',K,vr,_,e,ht,q,hs,he,by omega,fun _ => .inl ⟨rfl,rfl⟩,fun z=>absurd k1 z⟩
 ·by_cases k3:o.Kind=3
  ·cases hg:mget t.m o.Key with
   | none=>exact ⟨_,t,p,K,vr,ty,do_none (.inl k3) hg,ht,hp,hs,he,by omega,fun z=>absurd z k1,fun _=>rfl⟩
   | some x =>
    obtain ⟨t',p',e,q1,q2,q3⟩:=do_del (c:=c) (ss:=ss) (sq:=sq) (nw:=nw) (vr:=vr) (ty:=ty) ht hp k3 hg
    have:=msz_del hg
    refine ⟨_,t',p',_,vr,ty,e,q2,q3,by rw [q1];omega,fun k y hy=>he k y ?_,by omega,fun z=>absurd z k1,fun _=>rfl⟩
    rw [q1,mget_del _ _ _ ht.uk] at hy
    split at hy
    ·cases hy
    ·exact hy
  ·by_cases k4:o.Kind=4
   ·cases hg:mget t.m o.Key with
    | none=>exact ⟨_,t,p,K,vr,ty,do_none (.inr k4) hg,ht,hp,hs,he,by omega,fun z=>absurd z k1,fun _=>rfl⟩
    | some x =>
     have e:=do_cas (c:=c) (t:=t) (p:=p) (ss:=ss) (sq:=sq) (nw:=nw) (vr:=vr) (ty:=ty) o k4 hg
     by_cases cv:x.Version=o.Version
     ·rw [if_pos cv] at e
      obtain ⟨r,t',p',K',vr',e2,q1,q2,q3,q4,q5⟩:=put_any (c:=c) (ss:=ss) (sq:=sq) (ty:=ty) hB hB2 ht hp hs he hv h1 h2
      exact ⟨r,t',p',K',vr',ty,e.trans e2,q1,q2,q3,q4,q5,fun z=>absurd z k1,fun _=>rfl⟩
     ·rw [if_neg cv] at e
      exact ⟨_,t,p,K,vr,ty,e,ht,hp,hs,he,by omega,fun z=>absurd z k1,fun _=>rfl⟩
   ·have e:=do_put (c:=c) (t:=t) (p:=p) (ss:=ss) (sq:=sq) (nw:=nw) (vr:=vr) (ty:=ty) o ⟨k1,k3,k4⟩
    obtain ⟨r,t',p',K',vr',e2,q1,q2,q3,q4,q5⟩:=put_any (c:=c) (ss:=ss) (sq:=sq) (ty:=ty) hB hB2 ht hp hs he hv h1 h2
    exact ⟨r,t',p',K',vr',ty,e.trans e2,q1,q2,q3,q4,q5,fun z=>absurd z k1,fun _=>rfl⟩
end
structure SI (n B N:Nat) (c:Av) (s:Ad) (t:Ah) (p:Ac) (K:List Str):Prop where
 st:s.t=some t
 sp:s.p=some p
 sc:s.c=c
 cb:c.Bytes=(B:Int)
 b2:B≤1048576
 tb:TB K t
 pr:PR n p K
 ms:msz t.m≤B
 en:enOk t.m s.now
 vn:s.version.toNat≤N
 sn:s.seq.toNat≤N
def Told(s:Ad)(x:AM)(r:Ar):Prop:=(∃l,mget s.sessions x.Session=some l∧((x.Num=l.num∧r=l.reply)∨(x.Num<l.num∧r=⟨122,[],0⟩)))∨(mget s.sessions x.Session=none∧64≤s.sessions.length∧r=⟨3,[],0⟩)
structure Next (s:Ad) (t:Ah) (x:AM) (r:Ar) (s':Ad) (t':Ah):Prop where
 seq:s'.seq=s.seq+1
 now:s'.now=mx s.now x.Now
 cs:(s'.sessions=s.sessions∧s'.tally=s.tally∧((x.Op.Kind=5∧r=⟨0,[],0⟩)∨(x.Op.Kind≠5∧Told s x r))∧(∀k,endsAt t.m (mx s.now x.Now) k→mget t'.m k=none)∧(∀k,¬endsAt t.m (mx s.now x.Now) k→mget t'.m k=mget t.m k)∧((∀k,¬endsAt t.m (mx s.now x.Now) k)→t'.m=t.m)) ∨
  (x.Op.Kind≠5∧¬(∃r,Told s x r)∧s'.sessions=mput s.sessions x.Session ⟨x.Num,r⟩∧(x.Op.Kind=1→(r.E=0∧s'.tally=⟨i64 (s.tally.Asked+1),i64 (s.tally.Hits+1)⟩)∨(r.E=2∧s'.tally=⟨i64 (s.tally.Asked+1),s.tally.Hits⟩))∧(x.Op.Kind≠1→s'.tally=s.tally))
theorem SI.mono{n B N:Nat}{c:Av}{s:Ad}{t:Ah}{p:Ac}{K:List Str}(h:SI n B N c s t p K):SI n B (N+1) c s t p K :=
 ⟨h.st,h.sp,h.sc,h.cb,h.b2,h.tb,h.pr,h.ms,h.en,Nat.le_succ_of_le h.vn,Nat.le_succ_of_le h.sn⟩
theorem SI.apply{n B N:Nat}{c:Av}{s:Ad}{t:Ah}{p:Ac}{K:List Str}(h:SI n B N c s t p K)(hN:N<1000000)(x:AM):
  ∃r e s' t' p' K',AF s x=some (r,e,s')∧SI n B (N+1) c s' t' p' K'∧((e≠0∧s'=s∧t'=t∧(BQ x.Op=false∨((x.Seq==0)||((x.Seq-1) != s.seq))=true))∨(e=0∧BQ x.Op=true∧((x.Seq==0)||((x.Seq-1) != s.seq))=false∧Next s t x r s' t')):=by
 by_cases hc:BQ x.Op=true
 ·by_cases hq:((x.Seq==0)||((x.Seq-1) != s.seq))=true
  ·exact ⟨_,_,s,t,p,K,st_seq hc hq,h.mono,.inl ⟨by decide,rfl,rfl,.inr hq⟩⟩
  ·have hq:=Bool.eq_false_iff.2 hq
   obtain ⟨c',tt,pp,ss,sq,nw,vr,ty⟩:=s
   have e1:tt=some t:=h.st
   have e2:pp=some p:=h.sp
   have e3:c'=c:=h.sc
   subst e1 e2 e3
   have hvn:vr.toNat≤N:=h.vn
   have hsn:sq.toNat≤N:=h.sn
   have hen:enOk t.m nw:=h.en
   obtain ⟨t1,p1,K1,e,ht1,hp1,g1,g2,g3,g4,g5,g6⟩:=st_apply (c:=c') (ss:=ss) (sq:=sq) (nw:=nw) (vr:=vr) (ty:=ty) h.tb h.pr hc hq
   have hms:=h.ms
   have he1:enOk t1.m (mx nw x.Now):=fun k y hy=>by
    have hne:¬endsAt t.m (mx nw x.Now) k:=fun z=>by rw [g1 k z] at hy;cases hy
    have hy2:=hy
    rw [g2 k hne] at hy
    refine ⟨(hen k y hy).1,?_⟩
    rcases Nat.eq_zero_or_pos y.End.toNat with q | q
    ·exact .inl q
    ·right
     rcases Nat.lt_or_ge (mx nw x.Now).toNat y.End.toNat with w | w
     ·exact w
     ·exact absurd ⟨y,hy,by omega,w⟩ hne
   have hs2:(sq+1).toNat=sq.toNat+1:=u1n (by omega)
   have base:SI n B (N+1) c' ⟨c',some t1,some p1,ss,sq+1,mx nw x.Now,vr,ty⟩ t1 p1 K1:=⟨rfl,rfl,rfl,h.cb,h.b2,ht1,hp1,by omega,he1,by dsimp only;omega,by dsimp only;omega⟩
   rw [e]
   by_cases k5:x.Op.Kind=5
   ·refine ⟨⟨0,[],0⟩,0,_,t1,p1,K1,?_,base,.inr ⟨rfl,hc,hq,rfl,rfl,.inl ⟨rfl,rfl,.inl ⟨k5,rfl⟩,g1,g2,fun z=>(g6 z).1⟩⟩⟩
    unfold aRest
    rw [if_pos (by rw [k5];rfl)]
   ·cases hg:mget ss x.Session with
    | some l =>
     by_cases c1:x.Num=l.num
     ·refine ⟨l.reply,0,_,t1,p1,K1,?_,base,.inr ⟨rfl,hc,hq,rfl,rfl,.inl ⟨rfl,rfl,.inr ⟨k5,.inl ⟨l,hg,.inl ⟨c1,rfl⟩⟩⟩,g1,g2,fun z=>(g6 z).1⟩⟩⟩
      unfold aRest
      dsimp only
      rw [if_neg (by simp [k5]),hg,if_pos (by simp [c1])]
      rfl
     ·by_cases c2:x.Num<l.num
      ·refine ⟨⟨122,[],0⟩,0,_,t1,p1,K1,?_,base,.inr ⟨rfl,hc,hq,rfl,rfl,.inl ⟨rfl,rfl,.inr ⟨k5,.inl ⟨l,hg,.inr ⟨c2,rfl⟩⟩⟩,g1,g2,fun z=>(g6 z).1⟩⟩⟩
       unfold aRest
       dsimp only
       rw [if_neg (by simp [k5]),hg,if_neg (by simp [c1]),if_pos (by simp [c2])]
      ·have c3:l.num<x.Num:=by
        rw [UInt64.lt_iff_toNat_lt] at c2 ⊢
        have:x.Num.toNat≠l.num.toNat:=fun z=>c1 (UInt64.toNat_inj.1 z)
        omega
       have r1:=rest_do (s:=⟨c',some t1,some p1,ss,sq+1,mx nw x.Now,vr,ty⟩) (x:=x) k5 (.inr ⟨l,hg,c3⟩)
       obtain ⟨r,t2,p2,K2,vr2,ty2,e2,q1,q2,q3,q4,q5,q6,q7⟩:=do_any (c:=c') (ss:=ss) (sq:=sq+1) (vr:=vr) (ty:=ty) h.cb h.b2 ht1 hp1 (by omega) he1 (by omega) hc
       refine ⟨r,0,⟨c',some t2,some p2,mput ss x.Session ⟨x.Num,r⟩,sq+1,mx nw x.Now,vr2,ty2⟩,t2,p2,K2,?_,⟨rfl,rfl,rfl,h.cb,h.b2,q1,q2,q3,q4,by dsimp only;omega,by dsimp only;omega⟩,.inr ⟨rfl,hc,hq,rfl,rfl,.inr ⟨k5,?_,rfl,q6,q7⟩⟩⟩
       ·rw [r1,e2];rfl
       ·rintro ⟨r,⟨l',hl',z⟩ | ⟨z,_⟩⟩
        ·have hl':mget ss x.Session=some l':=hl'
         rw [hg] at hl';cases hl'
         rcases z with ⟨z,_⟩ | ⟨z,_⟩
         ·exact c1 z
         ·exact c2 z
        ·have z:mget ss x.Session=none:=z
         rw [hg] at z;cases z
    | none =>
     by_cases c1:64≤ss.length
     ·refine ⟨⟨3,[],0⟩,0,_,t1,p1,K1,?_,base,.inr ⟨rfl,hc,hq,rfl,rfl,.inl ⟨rfl,rfl,.inr ⟨k5,.inr ⟨hg,c1,rfl⟩⟩,g1,g2,fun z=>(g6 z).1⟩⟩⟩
      unfold aRest
      dsimp only
      rw [if_neg (by simp [k5]),hg,if_neg (by simp),if_neg (by simp),if_pos (by simp;omega)]
     ·have r1:=rest_do (s:=⟨c',some t1,some p1,ss,sq+1,mx nw x.Now,vr,ty⟩) (x:=x) k5 (.inl ⟨hg,by dsimp only;omega⟩)
      obtain ⟨r,t2,p2,K2,vr2,ty2,e2,q1,q2,q3,q4,q5,q6,q7⟩:=do_any (c:=c') (ss:=ss) (sq:=sq+1) (vr:=vr) (ty:=ty) h.cb h.b2 ht1 hp1 (by omega) he1 (by omega) hc
      refine ⟨r,0,⟨c',some t2,some p2,mput ss x.Session ⟨x.Num,r⟩,sq+1,mx nw x.Now,vr2,ty2⟩,t2,p2,K2,?_,⟨rfl,rfl,rfl,h.cb,h.b2,q1,q2,q3,q4,by dsimp only;omega,by dsimp only;omega⟩,.inr ⟨rfl,hc,hq,rfl,rfl,.inr ⟨k5,?_,rfl,q6,q7⟩⟩⟩
      ·rw [r1,e2];rfl
      ·rintro ⟨r,⟨l',hl',z⟩ | ⟨_,z,_⟩⟩
       ·have hl':mget ss x.Session=some l':=hl'
        rw [hg] at hl';cases hl'
       ·exact c1 z
 ·have hc:=Bool.eq_false_iff.2 hc
  exact ⟨_,_,s,t,p,K,st_refuse hc,h.mono,.inl ⟨by decide,rfl,rfl,.inl hc⟩⟩
theorem cutS(k:Str)(m:Nat)(hm:m≤5000):∃r,(if decide ((m:Int)<(k.length:Int)) then (sl k 0 (m:Int)).bind fun s=>some s else some k)=some r:=by
 by_cases h:m<k.length
 ·rw [if_pos (by simp;omega)]
  unfold sl
  rw [if_pos (by omega)]
  exact ⟨_,rfl⟩
 ·rw [if_neg (by simp;omega)]
  exact ⟨_,rfl⟩
theorem and_le(a:UInt64)(m:Nat)(hm:m<1000):(a &&& UInt64.ofNat m).toNat≤m:=by
 rw [UInt64.toNat_and,UInt64.toNat_ofNat']
 exact Nat.le_trans Nat.and_le_right (Nat.mod_le _ _)
theorem rec_ok(sq now:UInt64)(a:Az)(hn:now.toNat≤1000000):∃y nx,Bj sq now a=some (y,nx)∧y.Now=nx∧y.Session.toNat<8∧y.Num.toNat≤31∧now.toNat≤nx.toNat∧nx.toNat≤now.toNat+100:=by
 obtain ⟨k,hk⟩:=cutS a.Op.Key 70 (by omega)
 obtain ⟨v,hv⟩:=cutS a.Op.Value 1200 (by omega)
 have hk:(if decide ((70:Int)<(a.Op.Key.length:Int)) then (sl a.Op.Key 0 70).bind fun s=>some s else some a.Op.Key)=some k:=hk
 have hv:(if decide ((1200:Int)<(a.Op.Value.length:Int)) then (sl a.Op.Value 0 1200).bind fun s=>some s else some a.Op.Value)=some v:=hv
 have c100:(100:UInt64).toNat=100:=rfl
 have hT:∃nx:UInt64,(if decide (a.Ticks≤100)=true then some (now+a.Ticks) else some now)=some nx∧now.toNat≤nx.toNat∧nx.toNat≤now.toNat+100:=by
  by_cases c:a.Ticks≤100
  ·rw [if_pos (by simpa using c)]
   rw [UInt64.le_iff_toNat_le,c100] at c
   refine ⟨_,rfl,?_,?_⟩ <;> rw [UInt64.toNat_add] <;> omega
  ·rw [if_neg (by simpa using c)]
   exact ⟨_,rfl,by omega,by omega⟩
 obtain ⟨nx,e,h1,h2⟩:=hT
 unfold Bj
 rw [hk,Option.bind_some,hv,Option.bind_some,e,Option.bind_some]
 refine ⟨_,nx,rfl,rfl,?_,?_,h1,h2⟩
 ·have:=and_le a.Session 7 (by omega);exact Nat.lt_succ_of_le this
 ·exact and_le a.Num 31 (by omega)
theorem cfg_ok(x:Av):∃k n B:Nat,B3 x=⟨(k:Int),(n:Int),(B:Int),x.Seed⟩∧(k=1∨k=2)∧1≤n∧n≤16∧1≤B∧B≤1024:=by
 obtain ⟨a,ha,ha2⟩:=iand_le x.Policy 1 (by decide)
 obtain ⟨b,hb,hb2⟩:=iand_le x.Entries 15 (by decide)
 obtain ⟨d,hd,hd2⟩:=iand_le x.Bytes 1023 (by decide)
 have ha:iand x.Policy 1=(a:Int):=ha
 have hb:iand x.Entries 15=(b:Int):=hb
 have hd:iand x.Bytes 1023=(d:Int):=hd
 refine ⟨1+a,1+b,1+d,?_,by omega,by omega,by omega,by omega,by omega⟩
 unfold B3
 rw [ha,hb,hd,i64s (1+(a:Int)) (by omega) (by omega),i64s (1+(b:Int)) (by omega) (by omega),i64s (1+(d:Int)) (by omega) (by omega)]
 rw [Int.natCast_add,Int.natCast_add,Int.natCast_add];rfl
theorem si_new{k n B:Nat}(hk:k=1∨k=2)(seed:UInt64)(h1:1≤n)(h2:n≤16)(h3:1≤B)(h4:B≤1024):∃s t p K,CR ⟨(k:Int),(n:Int),(B:Int),seed⟩=some (some s,0)∧SI n B 0 ⟨(k:Int),(n:Int),(B:Int),seed⟩ s t p K∧s.sessions=[]∧s.now=0∧s.tally=⟨0,0⟩∧t.m=[]:=by
 obtain ⟨p,e,h⟩:=new_s k hk n B seed h1 (by omega) h3 (by omega)
 refine ⟨_,_,p,[],e,⟨rfl,rfl,rfl,rfl,by omega,tb_new,h,by simp [msz],(fun k e he=>by cases he),Nat.le_refl _,Nat.le_refl _⟩,rfl,rfl,rfl,rfl⟩
def SP(ss:List (UInt64×Ap)):Prop:=∀j l,mget ss j=some l→j.toNat<8∧l.num.toNat≤31
theorem SP.put{ss:List (UInt64×Ap)}(h:SP ss){j n:UInt64}{r:Ar}(h1:j.toNat<8)(h2:n.toNat≤31):SP (mput ss j ⟨n,r⟩):=by
 intro i l hl
 rw [mget_put] at hl
 split at hl
 ·rename_i hi;cases hl;exact ⟨by rw [eq_of_beq hi];exact h1,h2⟩
 ·exact h i l hl
def Pl(n B N:Nat)(c:Av)(s:Ad)(now:UInt64):Prop:=(∃t p K,SI n B N c s t p K)∧SP s.sessions∧s.now.toNat≤now.toNat
theorem pl_step{n B N:Nat}{c:Av}{s:Ad}{now:UInt64}(h:Pl n B N c s now)(hN:N<1000000){y:AM}(h1:y.Session.toNat<8)(h2:y.Num.toNat≤31)(h3:now.toNat≤y.Now.toNat):
  ∃r e s',AF s y=some (r,e,s')∧Pl n B (N+1) c s' y.Now:=by
 obtain ⟨⟨t,p,K,hS⟩,hP,hn⟩:=h
 obtain ⟨r,e,s',t',p',K',e1,hS',hc⟩:=hS.apply hN y
 refine ⟨r,e,s',e1,⟨t',p',K',hS'⟩,?_,?_⟩
 ·rcases hc with ⟨_,rfl,_⟩ | ⟨_,_,_,hx⟩
  ·exact hP
  ·rcases hx.cs with ⟨q,_⟩ | ⟨_,_,q,_⟩
   ·rw [q];exact hP
   ·rw [q];exact hP.put h1 h2
 ·rcases hc with ⟨_,rfl,_⟩ | ⟨_,_,_,hx⟩
  ·omega
  ·rw [hx.now,mx_n];omega
theorem SI.ent{n B N:Nat}{c:Av}{s:Ad}{t:Ah}{p:Ac}{K:List Str}(h:SI n B N c s t p K):BX s=some (listed t.m):=by
 obtain ⟨c',tt,pp,ss,sq,nw,vr,ty⟩:=s
 have e1:tt=some t:=h.st
 subst e1
 exact st_entries h.tb
theorem keys_l(x:Ab)(i:Nat):∀(B:List Nat) (f a:Nat),B.length<f→Lk (nxS x.slots) (pvS x.slots) (a::(B++[i]))→(∀p∈B,p≠i∧p<x.slots.length) →
  BI (i:Int) x f (nxS x.slots a)=some (B.map (ky x.slots)):=by
 intro B
 induction B with
 | nil =>
  intro f a hf hl _
  obtain ⟨f,rfl⟩:∃g,f=g+1:=⟨f-1,by simp at hf;omega⟩
  obtain ⟨h1,_⟩:=hl
  rw [h1]
  unfold BI
  rw [if_neg (by simp)];rfl
 | cons p B ih =>
  intro f a hf hl hp
  obtain ⟨f,rfl⟩:∃g,f=g+1:=⟨f-1,by simp at hf;omega⟩
  obtain ⟨h1,_,h3⟩:=hl
  obtain ⟨q1,q2⟩:=hp p (by simp)
  rw [h1]
  unfold BI
  rw [if_pos (by simp;omega),giN q2,Option.bind_some]
  have:=ih f p (by simpa using hf) h3 (fun p hp'=>hp p (by simp [hp']))
  rw [show (x.slots.getD p default).next=nxS x.slots p from rfl,this,Option.bind_some]
  rfl
theorem RR.Keys{k m:Nat}{r:Ab}{L:List (List Str)}(h:RR k m r L){i:Nat}{l:List Str}(hl:L[i]? = some l):Cm (some r) (i:Int)=some l:=by
 have hi:i<k:=by have:=h.len;obtain ⟨q,_⟩:=List.getElem?_eq_some_iff.1 hl;omega
 have his:=h.is i
 obtain ⟨P,f,h,rfl⟩:=h
 obtain ⟨Q,hQ,rfl⟩:=keys_get hl
 have hlen:=h.co.len
 have hrg:∀p∈Q,p≠i∧p<r.slots.length:=fun p hp=>by
  have:=h.co.rg p (mem_fl hQ hp);omega
 have hQl:Q.length≤P.flatten.length:=by
  obtain ⟨U,V,e,_,_⟩:=dec hQ
  rw [e];simp;omega
 have hct:=h.ct
 unfold Cm
 rw [om_some,his,if_neg (by simp [hi]),giN (by omega),Option.bind_some]
 have:=keys_l r i Q (DK (some r)) i (by show Q.length<r.slots.length+1;omega) (h.co.lk i Q hQ) hrg
 rw [show (r.slots.getD i default).next=nxS r.slots i from rfl,this,Option.bind_some]
end Go.Proofs.YtpanhdnglicknaaGreat.Pure
namespace Go.Proofs.YtpanhdnglicknaaGreat.Pure
open Go Go.Proofs.YtpanhdnglicknaaGreat.Hw
theorem giC{α:Type}(l:List α)(k:Nat):gi l (k:Int)=l[k]? := by unfold gi;simp
theorem i64n(k:Nat)(h:k≤1000000):i64 ((k:Int)+1)=((k+1:Nat):Int):=by rw [i64s _ (by omega) (by omega)];omega
def enc:Nat→Nat→Str
 | 0,_=>[]
 | f+1,n=>if n<128 then [UInt8.ofNat n] else UInt8.ofNat (n%128+128)::enc f (n/128)
theorem enc_len:∀(f n:Nat),(enc f n).length≤f
 | 0,_=>by simp [enc]
 | f+1,n=>by
  have:=enc_len f (n/128)
  unfold enc
  split <;> simp <;> omega
theorem byte_hi(n:UInt64):((n%128).toUInt8)+128=UInt8.ofNat (n.toNat%128+128):=by
 apply UInt8.toNat_inj.1
 have e:(128:UInt8).toNat=128:=by decide
 have e2:(128:UInt64).toNat=128:=by decide
 rw [UInt8.toNat_add,UInt64.toNat_toUInt8,UInt64.toNat_mod,UInt8.toNat_ofNat',e,e2]
 omega
theorem byte_lo(n:UInt64):n.toUInt8=UInt8.ofNat n.toNat:=by
 apply UInt8.toNat_inj.1
 rw [UInt64.toNat_toUInt8,UInt8.toNat_ofNat']
theorem div128(n:UInt64):(n/128).toNat=n.toNat/128:=by
 have e2:(128:UInt64).toNat=128:=by decide
 rw [UInt64.toNat_div,e2]
theorem ge128(n:UInt64):(decide (128≤n))=decide (128≤n.toNat):=by
 have e2:(128:UInt64).toNat=128:=by decide
 rw [decide_eq_decide,UInt64.le_iff_toNat_le,e2]
theorem wnum_loop:∀(f:Nat) (n:UInt64) (c:Str),n.toNat<128^(f+1)→c.length+f≤1000 →
  ∃m c',CJ (f+1) n c=some (m,c')∧True∧c'++[UInt8.ofNat m.toNat]=c++enc (f+1) n.toNat∧c'.length≤c.length+f:=by
 intro f
 induction f with
 | zero =>
  intro n c hn hl
  have h:¬128≤n.toNat:=by simpa using hn
  have e:decide (128≤n.toNat)=false:=by simpa using h
  refine ⟨n,c,?_,?_,?_,by omega⟩
  ·unfold CJ;rw [ge128,e];rfl
  ·trivial
  ·unfold enc;rw [if_pos (by omega)]
 | succ f ih =>
  intro n c hn hl
  by_cases h:128≤n.toNat
  ·have e:decide (128≤n.toNat)=true:=by simpa using h
   have hd:(n/128).toNat<128^(f+1):=by
    rw [div128]
    rw [Nat.pow_succ] at hn
    exact Nat.div_lt_of_lt_mul (by rw [Nat.mul_comm];exact hn)
   obtain ⟨m,c',h1,h2,h3,h4⟩:=ih (n/128) (c++[UInt8.ofNat (n.toNat%128+128)]) hd (by simp;omega)
   refine ⟨m,c',?_,?_,?_,by simp at h4;omega⟩
   ·unfold CJ
    rw [ge128,e,if_pos rfl,byte_hi]
    have ha:apd 1 c [UInt8.ofNat (n.toNat%128+128)]=some (c++[UInt8.ofNat (n.toNat%128+128)]):=by
     unfold apd
     rw [if_pos (by simp;omega)]
    rw [ha,Option.bind_some]
    exact h1
   ·trivial
   ·rw [h3,div128]
    conv=>rhs;unfold enc
    rw [if_neg (by omega)]
    simp
  ·have e:decide (128≤n.toNat)=false:=by simpa using h
   refine ⟨n,c,?_,?_,?_,by omega⟩
   ·unfold CJ;rw [ge128,e];rfl
   ·trivial
   ·unfold enc;rw [if_pos (by omega)]
theorem num_enc(n:UInt64):AB n=some (enc 11 n.toNat)∧True:=by
 have hn:n.toNat<128^(10+1):=Nat.lt_of_lt_of_le n.toNat_lt (by decide)
 obtain ⟨m,c',h1,h2,h3,h4⟩:=wnum_loop 10 n [] hn (by simp)
 rw [List.nil_append] at h3
 constructor
 ·unfold AB
  have h1':CJ 11 n []=some (m,c'):=h1
  rw [h1',Option.bind_some]
  dsimp only
  rw [byte_lo]
  have ha:apd 1 c' [UInt8.ofNat m.toNat]=some (c'++[UInt8.ofNat m.toNat]):=by
   unfold apd
   rw [if_pos (by simp at h4 ⊢;omega)]
  rw [ha,Option.bind_some,h3]
 ·trivial
def bits(d:List Bool):Str:=d.map fun b=>if b then 1 else 0
theorem flag_c(b:Bool):Dr b=[if b then 1 else 0]:=by cases b <;> rfl
theorem DM(d:List Bool)(k:Nat)(h:k<d.length):bits (d.drop k)=[if d[k] then 1 else 0]++bits (d.drop (k+1)):=by
 unfold bits
 rw [List.drop_eq_getElem_cons h,List.map_cons];rfl
theorem exp_door(S:Ae)(d:List Bool)(hd:S.door=d)(hl:d.length≤4096):∀(f k:Nat) (out:Str),f=d.length-k+1→k≤d.length→out.length+(d.length-k)≤100000 →
  BE S f out (k:Int)=some (out++bits (d.drop k)):=by
 intro f
 induction f with
 | zero=>intro k out h;omega
 | succ f ih =>
  intro k out hf hk ho
  unfold BE
  rw [hd]
  by_cases h:k<d.length
  ·have ei:i64 ((k:Int)+1)=((k+1:Nat):Int):=by rw [i64_id] <;> omega
   rw [if_pos (by rw [decide_eq_true_eq];omega),gN h,Option.bind_some,flag_c,if_pos (by simp [maxS];omega),ei,ih (k+1) _ (by omega) (by omega) (by simp;omega),DM d k h,List.append_assoc]
  ·obtain rfl:k=d.length:=by omega
   rw [if_neg (by rw [decide_eq_true_eq];omega),List.drop_length]
   simp [bits]
def Sk.bytes(s:Sk)(w:Nat)(seed:UInt64):Str:=(((((enc 11 (toW (w:Int)).toNat++enc 11 seed.toNat++enc 11 (toW (s.n:Int)).toNat)++s.a)++s.b)++s.c)++s.e)++bits s.d
section
variable {w:Nat} {seed:UInt64} {s:Sk} (h2:w≤4096) (hs:s.ok w)
include h2 hs
theorem exp_rows(out:Str)(ho:out.length≤100):A4 (s.C w seed) 5 out 0=some ((((out++s.a)++s.b)++s.c)++s.e):=by
 have ha:=hs.ha;have hb:=hs.hb;have hc:=hs.hc;have he:=hs.he
 unfold A4
 rw [if_pos (by decide),show gi (s.C w seed).rows 0=_ from g0 ..,Option.bind_some,if_pos (by simp [maxS];omega),j0]
 unfold A4
 rw [if_pos (by decide),show gi (s.C w seed).rows 1=_ from g1 ..,Option.bind_some,if_pos (by simp [maxS];omega),j1]
 unfold A4
 rw [if_pos (by decide),show gi (s.C w seed).rows 2=_ from g2 ..,Option.bind_some,if_pos (by simp [maxS];omega),j2]
 unfold A4
 rw [if_pos (by decide),show gi (s.C w seed).rows 3=_ from g3 ..,Option.bind_some,if_pos (by simp [maxS];omega),j3]
 unfold A4
 rw [if_neg (by decide)]
theorem Exp_c:B5 (s.C w seed)=some (s.bytes w seed):=by
 have ha:=hs.ha;have hb:=hs.hb;have hc:=hs.hc;have he:=hs.he;have hd:=hs.hd
 have l1:=enc_len 11 (toW (w:Int)).toNat
 have l2:=enc_len 11 seed.toNat
 have l3:=enc_len 11 (toW (s.n:Int)).toNat
 unfold B5
 dsimp only
 rw [(num_enc _).1,Option.bind_some,(num_enc _).1,Option.bind_some,(num_enc _).1]
 unfold Sk.bytes
 generalize enc 11 (toW (w:Int)).toNat=x1 at l1 ⊢
 generalize enc 11 seed.toNat=x2 at l2 ⊢
 generalize enc 11 (toW (s.n:Int)).toNat=x3 at l3 ⊢
 rw [if_pos (by simp [maxS];omega),Option.bind_some,if_pos (by simp [maxS];omega),exp_rows h2 hs _ (by simp;omega),Option.bind_some]
 have D:=exp_door (s.C w seed) s.d rfl (by omega) (((s.d.length:Int)-0).toNat+1) 0 (((((x1++x2++x3)++s.a)++s.b)++s.c)++s.e) (by omega) (by omega) (by simp;omega)
 rw [show BE (s.C w seed) (((s.d.length:Int)-0).toNat+1) _ 0=_ from D,Option.bind_some,List.drop_zero]
end
theorem sl_lo{s:Str}{n:Int}(h0:0≤n)(h1:n≤(s.length:Int)):sl s 0 n=some (s.take n.toNat):=by
 unfold sl
 rw [if_pos ⟨by omega,h0,h1⟩]
 simp
theorem sl_hi{s:Str}{n:Int}(h0:0≤n)(h1:n≤(s.length:Int)):sl s n (s.length:Int)=some (s.drop n.toNat):=by
 unfold sl
 rw [if_pos ⟨h0,h1,by omega⟩,List.take_of_length_le (by simp)]
theorem digit_val(n unit:UInt64)(c:UInt8)(j:Nat)(hj:j≤9)(hn:n.toNat<2^(7*j))(hu:unit.toNat=2^(7*j))(h9:j=9→c.toNat≤1):
  n ||| shWl ((c%128).toUInt64) (7*(j:Int))=n+(c.toUInt64%128)*unit∧(n+(c.toUInt64%128)*unit).toNat=n.toNat+c.toNat%128*2^(7*j):=by
 have hd:(c%128).toNat=c.toNat%128:=by rw [UInt8.toNat_mod];rfl
 have hd64:((c%128).toUInt64).toNat=c.toNat%128:=by rw [UInt8.toNat_toUInt64,hd]
 have he64:(c.toUInt64%128).toNat=c.toNat%128:=by rw [UInt64.toNat_mod,UInt8.toNat_toUInt64];rfl
 have hcl:=c.toNat_lt
 have hm:c.toNat%128<128:=Nat.mod_lt _ (by decide)
 have htop:c.toNat%128*2^(7*j)+2^(7*j)≤2^64:=by
  by_cases e9:j=9
  ·have:=h9 e9
   subst e9
   have h1:c.toNat%128+1≤2:=by have:=Nat.mod_le c.toNat 128;omega
   have h2:(c.toNat%128+1)*2^(7*9)≤2*2^(7*9):=Nat.mul_le_mul_right _ h1
   rw [Nat.add_mul,Nat.one_mul] at h2
   exact Nat.le_trans h2 (by decide)
  ·have h2:(c.toNat%128+1)*2^(7*j)≤128*2^(7*8):=Nat.mul_le_mul (by omega) (Nat.pow_le_pow_right (by decide) (by omega))
   rw [Nat.add_mul,Nat.one_mul] at h2
   exact Nat.le_trans h2 (by decide)
 have hpos:0<2^(7*j):=Nat.pow_pos (by decide)
 have hmul:((c.toUInt64%128)*unit).toNat=c.toNat%128*2^(7*j):=by
  rw [UInt64.toNat_mul,he64,hu,Nat.mod_eq_of_lt (Nat.lt_of_lt_of_le (Nat.lt_add_of_pos_right hpos) htop)]
 have hadd:(n+(c.toUInt64%128)*unit).toNat=n.toNat+c.toNat%128*2^(7*j):=by
  rw [UInt64.toNat_add,hmul,Nat.mod_eq_of_lt (Nat.lt_of_lt_of_le (by rw [Nat.add_comm];exact Nat.add_lt_add_left hn _) htop)]
 refine ⟨?_,hadd⟩
 apply UInt64.toNat_inj.1
 rw [hadd,UInt64.toNat_or]
 have hmin:min (7*(j:Int)).toNat 64=7*j:=by omega
 have hsh:(shWl ((c%128).toUInt64) (7*(j:Int))).toNat=c.toNat%128*2^(7*j):=by
  unfold shWl
  rw [hmin,hd64,UInt64.toNat_ofNat',Nat.mod_eq_of_lt (Nat.lt_of_lt_of_le (Nat.lt_add_of_pos_right hpos) htop)]
 rw [hsh,Nat.or_comm,Nat.mul_comm,←Nat.two_pow_add_eq_or_of_lt hn,Nat.add_comm]
theorem one_cons(c:UInt8)(tl:Str):AJ ⟨c::tl⟩ 1=some (.inl ([c],⟨tl⟩)):=by
 have e1:(decide ((1:Int)<0)||decide (((c::tl).length:Int)<1))=false:=by simp;omega
 unfold AJ
 simp only [e1,Bool.false_eq_true,if_false,Option.bind_some]
 rw [sl_lo (by omega) (by simp;omega),sl_hi (by omega) (by simp;omega)]
 rfl
theorem acc_next(n d j:Nat)(hn:n<2^(7*j))(hm:d<128):n+d*2^(7*j)<2^(7*(j+1)):=by
 have e2:2^(7*(j+1))=2^(7*j)*128:=by rw [Nat.mul_add,Nat.pow_add]
 rw [e2]
 generalize 2^(7*j)=p at *
 have:(d+1)*p≤128*p:=Nat.mul_le_mul_right _ (by omega)
 rw [Nat.add_mul] at this
 omega
theorem i7(j:Nat)(hj:j<10):i64 (7*(j:Int))=7*(j:Int):=i64_id (by omega) (by omega)
theorem i7n(j:Nat):0≤7*(j:Int):=by omega
theorem ij1(j:Nat)(hj:j<10):i64 ((j:Int)+1)=((j+1:Nat):Int):=by rw [i64_id] <;> omega
theorem pow_split(j:Nat)(hj:j+1≤9):2^(64-7*j)=128*2^(64-7*(j+1)):=by
 rw [show 64-7*j=7+(64-7*(j+1)) by omega,Nat.pow_add]
theorem one_round(k j:Nat)(n:UInt64)(c:UInt8)(tl:Str)(hj:j<10)(hb:((((j:Int)==9)&&decide (1<c))||(decide (0<(j:Int))&&(c==0)))=false):
  BA (k+1) n (j:Int) (c::tl)=if decide (c<128)=true then some (.inl (n ||| shWl ((c%128).toUInt64) (7*(j:Int)),tl)) else BA k (n ||| shWl ((c%128).toUInt64) (7*(j:Int))) ((j+1:Nat):Int) tl:=by
 conv=>lhs;unfold BA
 have e:decide ((j:Int)<10)=true:=by simp;omega
 rw [if_pos e,one_cons c tl,Option.bind_some]
 dsimp only [sm]
 have hg:gi [c] 0=some c:=rfl
 rw [hg,Option.bind_some,hb,if_neg (by decide),Option.bind_some]
 dsimp only
 rw [i7 j hj,if_pos (i7n j),ij1 j hj]
theorem unit_of(j:Nat)(hj:j≤9):(UInt64.ofNat (2^(7*j))).toNat=2^(7*j):=by
 rw [UInt64.toNat_ofNat',Nat.mod_eq_of_lt (Nat.pow_lt_pow_right (by decide) (by omega))]
theorem read_last(j v:Nat)(n:UInt64)(rest:Str)(hj:j≤9)(hv:v<2^(64-7*j))(hp:0<j→0<v)(h128:v<128)(hn:n.toNat<2^(7*j))(g:Nat):
  ∃m,BA (10-j+1) n (j:Int) (enc (g+1) v++rest)=some (.inl (m,rest))∧m.toNat=n.toNat+v*2^(7*j):=by
 have hc:(UInt8.ofNat v).toNat=v:=by rw [UInt8.toNat_ofNat'];omega
 have h9:j=9→v≤1:=fun e=>by
  subst e
  have:(2:Nat)^(64-7*9)=2:=by decide
  omega
 have hb:((((j:Int)==9)&&decide (1<UInt8.ofNat v))||(decide (0<(j:Int))&&(UInt8.ofNat v==0)))=false:=by
  rw [Bool.or_eq_false_iff]
  constructor
  ·by_cases e:j=9
   ·have:¬(1<UInt8.ofNat v):=by
     rw [UInt8.lt_iff_toNat_lt,hc]
     have e0:(1:UInt8).toNat=1:=by decide
     have:=h9 e
     omega
    simp [this]
   ·have h1:((j:Int)==9)=false:=by simp;omega
    rw [h1];rfl
  ·by_cases e:0<j
   ·have h2:(UInt8.ofNat v==0)=false:=by
     rw [beq_eq_false_iff_ne]
     intro h
     have:=congrArg UInt8.toNat h
     rw [hc] at this
     have e0:(0:UInt8).toNat=0:=by decide
     have:=hp e
     omega
    rw [h2,Bool.and_false]
   ·have h1:decide (0<(j:Int))=false:=by simp;omega
    rw [h1];rfl
 have e:enc (g+1) v++rest=UInt8.ofNat v::rest:=by
  unfold enc
  rw [if_pos h128];rfl
 obtain ⟨v1,v2⟩:=digit_val n (UInt64.ofNat (2^(7*j))) (UInt8.ofNat v) j hj hn (unit_of j hj) (fun h=>by rw [hc];exact h9 h)
 rw [hc,Nat.mod_eq_of_lt h128] at v2
 have hlt:decide (UInt8.ofNat v<128)=true:=by
  rw [decide_eq_true_iff,UInt8.lt_iff_toNat_lt,hc]
  have e0:(128:UInt8).toNat=128:=by decide
  omega
 rw [e,one_round (10-j) j n _ _ (by omega) hb,if_pos hlt,v1]
 exact ⟨_,rfl,v2⟩
theorem read_loop:∀(g j v:Nat) (n:UInt64) (rest:Str),j≤9→v<2^(64-7*j)→(0<j→0<v)→v<128^(g+1)→n.toNat<2^(7*j) →
  ∃m,BA (10-j+1) n (j:Int) (enc (g+1) v++rest)=some (.inl (m,rest))∧m.toNat=n.toNat+v*2^(7*j):=by
 intro g
 induction g with
 | zero =>
  intro j v n rest hj hv hp hg hn
  have h128:v<128:=by simpa using hg
  exact read_last j v n rest hj hv hp h128 hn 0
 | succ g ih =>
  intro j v n rest hj hv hp hg hn
  by_cases h128:v<128
  ·exact read_last j v n rest hj hv hp h128 hn (g+1)
  ·have hj9:j+1≤9:=by
    rcases Nat.lt_or_ge j 9 with h | h
    ·exact h
    ·obtain rfl:j=9:=by omega
     have:(2:Nat)^(64-7*9)=2:=by decide
     omega
   have hc:(UInt8.ofNat (v%128+128)).toNat=v%128+128:=by rw [UInt8.toNat_ofNat'];omega
   have hb:((((j:Int)==9)&&decide (1<UInt8.ofNat (v%128+128)))||(decide (0<(j:Int))&&(UInt8.ofNat (v%128+128)==0)))=false:=by
    have h1:((j:Int)==9)=false:=by simp;omega
    have h2:(UInt8.ofNat (v%128+128)==0)=false:=by
     rw [beq_eq_false_iff_ne]
     intro h
     have:=congrArg UInt8.toNat h
     rw [hc] at this
     have e0:(0:UInt8).toNat=0:=by decide
     omega
    rw [h1,h2];simp
   have e:enc (g+1+1) v++rest=UInt8.ofNat (v%128+128)::(enc (g+1) (v/128)++rest):=by
    conv=>lhs;unfold enc
    rw [if_neg h128];rfl
   have ek:10-j=10-(j+1)+1:=by omega
   obtain ⟨v1,v2⟩:=digit_val n (UInt64.ofNat (2^(7*j))) (UInt8.ofNat (v%128+128)) j hj hn (unit_of j hj) (fun h=>absurd h (by omega))
   rw [hc] at v2
   have hmod:(v%128+128)%128=v%128:=by omega
   rw [hmod] at v2
   have hlt:¬decide (UInt8.ofNat (v%128+128)<128)=true:=by
    rw [decide_eq_true_iff,UInt8.lt_iff_toNat_lt,hc]
    have e0:(128:UInt8).toNat=128:=by decide
    omega
   rw [e,one_round (10-j) j n _ _ (by omega) hb,if_neg hlt,v1]
   have hn':=acc_next n.toNat (v%128) j hn (Nat.mod_lt _ (by decide))
   rw [←v2] at hn'
   have hpow:=pow_split j hj9
   have hdiv:v/128<2^(64-7*(j+1)):=Nat.div_lt_of_lt_mul (by rw [←hpow];exact hv)
   have hg':v/128<128^(g+1):=Nat.div_lt_of_lt_mul (by rw [Nat.mul_comm,←Nat.pow_succ];exact hg)
   obtain ⟨m,h1,h2⟩:=ih (j+1) (v/128) _ rest hj9 hdiv (fun _=>by omega) hg' hn'
   rw [ek]
   refine ⟨m,h1,?_⟩
   rw [h2,v2]
   have e2:2^(7*(j+1))=2^(7*j)*128:=by rw [Nat.mul_add,Nat.pow_add]
   rw [e2,Nat.add_assoc]
   congr 1
   have hv':=Nat.div_add_mod v 128
   generalize 2^(7*j)=p
   calc v%128*p+v/128*(p*128)=(128*(v/128)+v%128)*p:=by rw [Nat.add_mul,Nat.mul_comm p 128,←Nat.mul_assoc,Nat.mul_comm (v/128) 128,Nat.add_comm]
    _=v*p:=by rw [hv']
theorem num_back(n top:UInt64)(rest:Str)(h:n≤top):Aj ⟨enc 11 n.toNat++rest⟩ top=some (.inl (n,⟨rest⟩)):=by
 have hn:n.toNat<2^64:=n.toNat_lt
 obtain ⟨m,h1,h2⟩:=read_loop 10 0 n.toNat 0 rest (by omega) hn (by omega) (Nat.lt_of_lt_of_le hn (by decide)) (by decide)
 have e:m=n:=by
  apply UInt64.toNat_inj.1
  have e0:(0:UInt64).toNat=0:=by decide
  rw [h2,e0];simp
 subst e
 have h1':BA 11 0 0 (enc 11 m.toNat++rest)=some (.inl (m,rest)):=h1
 unfold Aj
 dsimp only
 rw [h1',Option.bind_some]
 dsimp only
 rw [if_neg]
 rw [decide_eq_true_eq,UInt64.lt_iff_toNat_lt]
 have:=UInt64.le_iff_toNat_le.1 h
 omega
theorem bytes_back(a rest:Str)(k:Int)(hk:k=(a.length:Int)):AJ ⟨a++rest⟩ k=some (.inl (a,⟨rest⟩)):=by
 subst hk
 have e1:(decide ((a.length:Int)<0)||decide (((a++rest).length:Int)<(a.length:Int)))=false:=by simp;omega
 unfold AJ
 simp only [e1,Bool.false_eq_true,if_false,Option.bind_some]
 rw [sl_lo (by omega) (by simp;omega),sl_hi (by omega) (by simp;omega)]
 simp
theorem must_t(s:Aa):An s true = .inl ():=by unfold An;rfl
theorem flag_back(b:Bool)(rest:Str):Cd ⟨(if b then 1 else 0)::rest⟩=some (.inl (b,⟨rest⟩)):=by
 unfold Cd
 rw [one_cons,Option.bind_some]
 cases b <;> rfl
theorem le15_loop(ra:Str×Aa)(y:List UInt8)(hy:∀x∈y,x≤15)(hl:y.length≤4096):∀(f k:Nat),f=y.length-k+1→k≤y.length→Cz ra y f (k:Int)=some (.inl ()):=by
 intro f
 induction f with
 | zero=>intro k h;omega
 | succ f ih =>
  intro k hf hk
  unfold Cz
  by_cases h:k<y.length
  ·have ei:i64 ((k:Int)+1)=((k+1:Nat):Int):=by rw [i64_id] <;> omega
   rw [if_pos (by rw [decide_eq_true_eq];omega),gN h,Option.bind_some,decide_eq_true (hy _ (List.getElem_mem h)),must_t,ei]
   exact ih (k+1) (by omega) (by omega)
  ·rw [if_neg (by rw [decide_eq_true_eq];omega)]
theorem take_row(ra2:UInt64×Aa)(w:Nat)(hw:i64 (ra2.1.toNat:Int)=(w:Int))(hw2:w≤4096)(k:Nat)(s:Int)(hs:s<4)(c:List (List UInt8))(y r:List UInt8)(rest:Str)(hg:gi c s=some y)
  (hr:r.length=w) (hx:∀x∈r,x≤15):BZ ra2 (k+1) s c (r++rest)=BZ ra2 k (i64 (s+1)) (ls c s r) rest:=by
 have L:Cz (r,⟨rest⟩) r (((r.length:Int)-0).toNat+1) 0=some (.inl ()):=le15_loop _ r hx (by omega) _ 0 (by omega) (by omega)
 conv=>lhs;unfold BZ
 rw [if_pos (by rw [decide_eq_true_eq];exact hs),bytes_back r rest _ (by rw [hw,hr]),Option.bind_some]
 dsimp only [sm]
 rw [if_pos (by simp [maxLen];omega),hg,Option.bind_some,gi_ls hg,Option.bind_some,L,Option.bind_some]
 dsimp only
 rw [Option.bind_some]
theorem take_door(x:Ae)(d:List Bool)(w:Nat)(hx:x.door.length=w)(hd:d.length=w)(hw2:w≤4096)(rest:Str):∀(f k:Nat) (z:List Bool),f=w-k+1→k≤w→z.length=w →
  Ck x f (k:Int) (bits (d.drop k)++rest) z=some (.inl (rest,z.take k++d.drop k)):=by
 intro f
 induction f with
 | zero=>intro k z h;omega
 | succ f ih =>
  intro k z hf hk hz
  unfold Ck
  rw [hx]
  by_cases h:k<w
  ·have hkd:k<d.length:=by omega
   have hkz:k<z.length:=by omega
   have ei:i64 ((k:Int)+1)=((k+1:Nat):Int):=by rw [i64_id] <;> omega
   have eb:bits (d.drop k)++rest=(if d[k] then 1 else 0)::(bits (d.drop (k+1))++rest):=by rw [DM d k hkd];rfl
   rw [if_pos (by rw [decide_eq_true_eq];omega),eb,flag_back,Option.bind_some]
   dsimp only [sm]
   rw [gN hkz,Option.bind_some,ei,lsN,ih (k+1) _ (by omega) (by omega) (by rw [List.length_set];exact hz),tk_set _ _ _ hkz,List.append_assoc,List.drop_eq_getElem_cons hkd]
   rfl
  ·obtain rfl:k=w:=by omega
   rw [if_neg (by rw [decide_eq_true_eq];omega),←hd,List.drop_length,List.append_nil,List.take_of_length_le (by omega)]
   rfl
theorem toW_nat(n:Nat)(h:n≤1000000):(toW (n:Int)).toNat=n:=by
 unfold toW
 rw [UInt64.toNat_ofNat'];omega
theorem rows_back(w:Nat)(W:UInt64)(R:Aa)(z a b c e:List UInt8)(rest:Str)(h2:w≤4096)(hi:i64 ((W.toNat:Nat):Int)=(w:Int))(ha:a.length=w)(hb:b.length=w)(hc:c.length=w)(he:e.length=w)
  (xa:∀x∈a,x≤15) (xb:∀x∈b,x≤15) (xc:∀x∈c,x≤15) (xe:∀x∈e,x≤15):BZ (W,R) 5 0 [z,z,z,z] (a++(b++(c++(e++rest))))=some (.inl ([a,b,c,e],rest)):=by
 have T:=fun (k:Nat) (s':Int) (hs':s'<4) (c:List (List UInt8)) (y r:List UInt8) (rest:Str) (hg:gi c s'=some y) (hr:r.length=w) (hx:∀x∈r,x≤15) =>
  take_row (W,R) w hi h2 k s' hs' c y r rest hg hr hx
 rw [T 4 0 (by decide) _ _ a _ (g0 ..) ha xa,s0,j0,T 3 1 (by decide) _ _ b _ (g1 ..) hb xb,s1,j1,T 2 2 (by decide) _ _ c _ (g2 ..) hc xc,s2,j2,T 1 3 (by decide) _ _ e _ (g3 ..) he xe,s3,j3]
 unfold BZ
 rw [if_neg (by decide)]
theorem sm_inl{α β γ:Type}(a:α)(f:α→γ)(g:β→γ):sm (Sum.inl a:α⊕β) f g=f a:=rfl
theorem take_all(w:Nat)(T:UInt64)(P Q R:UInt64×Aa)(rows:List (List UInt8))(d:List Bool)(Z:Ae)(r0 st rest:Str)(hw:(1:Int)≤(w:Int))(hW:i64 ((P.1.toNat:Nat):Int)=(w:Int))(hT:toW (i64 (10*(w:Int)))=T)
  (x1:Aj ⟨r0⟩ 4096=some (.inl P)) (x2:Aj P.2 18446744073709551615=some (.inl Q)) (x3:Aj Q.2 (T-1)=some (.inl R))
  (hn:CM (w:Int) Q.1=some (some Z,0)) (K:BZ P 5 0 Z.rows R.2.s=some (.inl (rows,st)))
  (D:Ck Z (((Z.door.length:Int)-0).toNat+1) 0 st Z.door=some (.inl (rest,d))):CK ⟨r0⟩=some (.inl (some (⟨Z.wide,Z.seed,rows,d,i64 ((R.1.toNat:Nat):Int)⟩:Ae),⟨rest⟩)):=by
 unfold CK
 rw [x1,Option.bind_some,sm_inl,hW,decide_eq_true hw,must_t,lt_eq,sm_inl,x2,Option.bind_some,sm_inl,hn,Option.bind_some,hT,x3,Option.bind_some,sm_inl,om_some,K,Option.bind_some]
 dsimp only
 rw [D,Option.bind_some]
theorem take_core(w:Nat)(seed W N T:UInt64)(rest:Str)(s:Sk)(h1:1≤w)(h2:w≤4096)(hs:s.ok w)(hW:W.toNat=w)(hN:N.toNat=s.n)(hT:T.toNat=10*w)(eT:toW ((10*w:Nat):Int)=T):
  CK ⟨enc 11 W.toNat++(enc 11 seed.toNat++(enc 11 N.toNat++(s.a++(s.b++(s.c++(s.e++(bits s.d++rest)))))))⟩=some (.inl (some (s.C w seed),⟨rest⟩)):=by
 have hn:=hs.hn
 have ew:i64 ((w:Nat):Int)=(w:Int):=i64_id (by omega) (by omega)
 have en:i64 ((s.n:Nat):Int)=(s.n:Int):=i64_id (by omega) (by omega)
 have et:i64 (10*(w:Int))=((10*w:Nat):Int):=by rw [i64_id (by omega) (by omega)];omega
 have c4096:(4096:UInt64).toNat=4096:=by decide
 have c1:(1:UInt64).toNat=1:=by decide
 have cm:(18446744073709551615:UInt64).toNat=18446744073709551615:=by decide
 have b1:W≤4096:=by rw [UInt64.le_iff_toNat_le,hW,c4096];exact h2
 have b2:seed≤18446744073709551615:=by rw [UInt64.le_iff_toNat_le,cm];have:=seed.toNat_lt;omega
 have b3:N≤T-1:=by
  rw [UInt64.le_iff_toNat_le,UInt64.toNat_sub_of_le _ _ (by rw [UInt64.le_iff_toNat_le,hT,c1];omega),hT,hN,c1];omega
 have x1:=num_back W 4096 (enc 11 seed.toNat++(enc 11 N.toNat++(s.a++(s.b++(s.c++(s.e++(bits s.d++rest))))))) b1
 have x2:=num_back seed 18446744073709551615 (enc 11 N.toNat++(s.a++(s.b++(s.c++(s.e++(bits s.d++rest)))))) b2
 have x3:=num_back N (T-1) (s.a++(s.b++(s.c++(s.e++(bits s.d++rest))))) b3
 have K:=rows_back w W ⟨enc 11 seed.toNat++(enc 11 N.toNat++(s.a++(s.b++(s.c++(s.e++(bits s.d++rest))))))⟩ (List.replicate w 0) s.a s.b s.c s.e (bits s.d++rest) h2 (by rw [hW,ew]) hs.ha hs.hb hs.hc hs.he hs.xa hs.xb hs.xc hs.xe
 have D:=take_door (SK w seed (List.replicate w 0) (List.replicate w 0) (List.replicate w 0) (List.replicate w 0) (List.replicate w false) 0) s.d w (by simp) hs.hd h2 rest (((w:Int)-0).toNat+1) 0 (List.replicate w false) (by omega) (by omega) (by simp)
 rw [List.drop_zero,List.take_zero,List.nil_append] at D
 have el:(List.replicate w false).length=w:=by simp
 generalize hZ:SK w seed (List.replicate w 0) (List.replicate w 0) (List.replicate w 0) (List.replicate w 0) (List.replicate w false) 0=Z at D
 have hn1:CM (w:Int) seed=some (some Z,0):=by rw [←hZ];exact new_c w seed h1 h2
 have z1:Z.rows=[List.replicate w 0,List.replicate w 0,List.replicate w 0,List.replicate w 0]:=by rw [←hZ]
 have z2:Z.door=List.replicate w false:=by rw [←hZ]
 have z3:Z.wide=(w:Int):=by rw [←hZ]
 have z4:Z.seed=seed:=by rw [←hZ]
 have D':Ck Z (((w:Int)-0).toNat+1) 0 (bits s.d++rest) (List.replicate w false)=some (.inl (rest,s.d)):=D
 rw [take_all w T (W,⟨_⟩) (seed,⟨_⟩) (N,⟨_⟩) [s.a,s.b,s.c,s.e] s.d Z _ (bits s.d++rest) rest (by omega) (by dsimp only;rw [hW,ew]) (by rw [et,eT]) x1 x2 x3 hn1 (by rw [z1];exact K) (by rw [z2,el];exact D'),z3,z4]
 dsimp only
 rw [hN,en]
theorem take_back(w:Nat)(seed:UInt64)(s:Sk)(rest:Str)(h1:1≤w)(h2:w≤4096)(hs:s.ok w):CK ⟨s.bytes w seed++rest⟩=some (.inl (some (s.C w seed),⟨rest⟩)):=by
 have hn:=hs.hn
 have hW:=toW_nat w (by omega)
 have hN:=toW_nat s.n (by omega)
 have hT:=toW_nat (10*w) (by omega)
 unfold Sk.bytes
 generalize toW (w:Int)=W at hW ⊢
 generalize toW (s.n:Int)=N at hN ⊢
 generalize hE:toW ((10*w:Nat):Int)=T at hT
 have h:=take_core w seed W N T rest s h1 h2 hs hW hN hT hE
 rw [←h]
 simp only [List.append_assoc]
end Go.Proofs.YtpanhdnglicknaaGreat.Pure
namespace Go.Proofs.YtpanhdnglicknaaGreat.Pure
open Go Go.Proofs.YtpanhdnglicknaaGreat.Hw
theorem toW_len(n:Nat)(h:n≤100000):(toW (n:Int)).toNat=n:=by
 unfold toW
 rw [UInt64.toNat_ofNat']
 omega
theorem text_bytes(u:Str)(h:u.length≤100000):Cc u=some (enc 11 u.length++u)∧True:=by
 obtain ⟨e1,_⟩:=num_enc (toW (u.length:Int))
 rw [toW_len _ h] at e1
 have hl:=enc_len 11 u.length
 have hm:(enc 11 u.length).length+u.length≤maxS:=by unfold maxS;omega
 unfold Cc
 rw [e1,Option.bind_some,if_pos hm]
 exact ⟨rfl,trivial⟩
theorem bytes_ok(u rest:Str)(q:Int)(e:q=(u.length:Int)):AJ ⟨u++rest⟩ q=some (.inl (u,⟨rest⟩)):=by
 subst e
 unfold AJ
 dsimp only
 have e1:(decide ((u.length:Int)<0)||decide (((u++rest).length:Int)<(u.length:Int)))=false:=by simp;omega
 rw [e1,if_neg (by decide),Option.bind_some]
 dsimp only
 rw [sl_lo (by omega) (by simp;omega),sl_hi (by omega) (by simp;omega),Option.bind_some,Option.bind_some]
 simp
theorem then_bytes(u rest:Str)(q:Int)(e:q=(u.length:Int)):((AJ ⟨u++rest⟩ q).bind fun r6=>sm r6 (fun (ra8:Str×Aa)=>some (Sum.inl (ra8.1,ra8.2))) fun ((rn9,ro10):Int×Aa)=>some (Sum.inr (rn9,ro10)))=some (Sum.inl (u,⟨rest⟩)):=by
 rw [bytes_ok u rest q e,Option.bind_some]
 rfl
theorem text_gen2(w:UInt64→Int)(s u rest:Str)(p x:UInt64)(hn:Aj ⟨s⟩ p=some (.inl (x,⟨u++rest⟩)))(hw:w x=(u.length:Int)):
  ((Aj ⟨s⟩ p).bind fun r0=>sm r0 (fun (ra2:UInt64×Aa)=>(AJ ra2.2 (w ra2.1)).bind fun r6=>sm r6 (fun (ra8:Str×Aa)=>some (Sum.inl (ra8.1,ra8.2))) fun ((rn9,ro10):Int×Aa)=>some (Sum.inr (rn9,ro10))) fun ((rn3,ro4):Int×Aa)=>some (Sum.inr (rn3,ro4)))=some (.inl (u,⟨rest⟩)):=by
 rw [hn,Option.bind_some]
 exact then_bytes u rest (w x) hw
theorem text_back(u:Str)(rest:Str)(top:Int)(h:u.length≤100000)(ht:(u.length:Int)≤top)(ht2:top≤100000):AK ⟨enc 11 u.length++(u++rest)⟩ top=some (.inl (u,⟨rest⟩)):=by
 have hn:=num_back (toW (u.length:Int)) (toW top) (u++rest) (by
  obtain ⟨t,rfl⟩:∃t:Nat,top=(t:Int):=⟨top.toNat,by omega⟩
  rw [UInt64.le_iff_toNat_le,toW_len _ h,toW_len _ (by omega)]
  omega)
 rw [toW_len _ h] at hn
 unfold AK
 rw [if_neg (by omega)]
 exact text_gen2 (fun x=>i64 (x.toNat:Int)) _ u rest _ _ hn (by
  show i64 ((toW (u.length:Int)).toNat:Int)=_
  rw [toW_len _ h]
  exact i64_id (by omega) (by omega))
end Go.Proofs.YtpanhdnglicknaaGreat.Pure
namespace Go.Proofs.YtpanhdnglicknaaGreat.Pure
open Go Go.Proofs.YtpanhdnglicknaaGreat.Hw
def tb(u:Str):Str:=enc 11 u.length++u
def kb(l:List Str):Str:=l.flatMap tb
def lb(l:List Str):Str:=enc 11 l.length++kb l
def rb(k m:Nat)(L:List (List Str)):Str:=(enc 11 k++enc 11 m)++L.flatMap lb
theorem kb_le:∀{l:List Str},(∀u∈l,u.length≤64)→(kb l).length≤75*l.length
 | [],_=>by simp [kb]
 | u::l,h=>by
  have h1:=kb_le (l:=l) fun v hv=>h v (List.mem_cons_of_mem _ hv)
  have h2:=h u (List.mem_cons_self ..)
  have h3:=enc_len 11 u.length
  have:kb (u::l)=tb u++kb l:=rfl
  rw [this,List.length_append]
  unfold tb
  rw [List.length_append,List.length_cons];omega
theorem lb_le:∀{L:List (List Str)},(∀u∈L.flatten,u.length≤64)→(L.flatMap lb).length≤75*L.flatten.length+11*L.length
 | [],_=>by simp
 | l::L,h=>by
  have h1:=lb_le (L:=L) fun v hv=>h v (by simp only [List.flatten_cons,List.mem_append];exact .inr hv)
  have h2:=kb_le (l:=l) fun v hv=>h v (by simp only [List.flatten_cons,List.mem_append];exact .inl hv)
  have h3:=enc_len 11 l.length
  simp only [List.flatMap_cons,List.flatten_cons,List.length_append,List.length_cons]
  unfold lb
  rw [List.length_append]
  unfold lb at h1
  omega
theorem txts_ok:∀(l:List Str) (c:Str),(∀u∈l,u.length≤64)→c.length+(kb l).length≤maxS→Cy l c=some (c++kb l)
 | [],c,_,_=>by simp [Cy,kb]
 | u::l,c,h,hb=>by
  have e:kb (u::l)=tb u++kb l:=rfl
  rw [e,List.length_append] at hb
  rw [Cy,(text_bytes u (by have:=h u (List.mem_cons_self ..);omega)).1,Option.bind_some]
  change (if c.length+(tb u).length≤maxS then Cy l (c++tb u) else none)=_
  rw [if_pos (by omega),txts_ok l _ (fun v hv=>h v (List.mem_cons_of_mem _ hv)) (by rw [List.length_append];omega),e,List.append_assoc]
theorem num_c(j:Nat)(h:j≤100000):AB (toW (j:Int))=some (enc 11 j):=by have:=(num_enc (toW (j:Int))).1;rwa [toW_len _ h] at this
section
variable {k m:Nat} {r:Ab} {L:List (List Str)}
theorem RR.lists(h:RR k m r L):r.lists=(k:Int):=by obtain ⟨P,f,h,rfl⟩:=h;exact h.hl
theorem RR.slots(h:RR k m r L):r.slots.length=k+m:=by obtain ⟨P,f,h,rfl⟩:=h;exact h.co.len
theorem RR.many(h:RR k m r L){i:Nat}{l:List Str}(hl:L[i]? = some l):gi r.many (i:Int)=some (l.length:Int):=by
 obtain ⟨P,f,h,rfl⟩:=h
 obtain ⟨Q,hQ,rfl⟩:=keys_get hl
 rw [h.co.mn,lens_get hQ,List.length_map]
theorem RR.mem(h:RR k m r L){i:Nat}{l:List Str}(hl:L[i]? = some l):∀u∈l,u.length≤64:=fun u hu=>h.kl u (List.mem_flatten.2 ⟨l,List.mem_of_getElem? hl,hu⟩)
theorem RR.ll(h:RR k m r L){i:Nat}{l:List Str}(hl:L[i]? = some l):l.length≤m:=by
 have h1:=h.tot
 obtain ⟨U,V,rfl,_⟩:=dec hl
 simp at h1
 omega
theorem exp_l0(h:RR k m r L)(hk:k≤8)(hm:m≤4096):∀(f i:Nat) (c:Str),k-i<f→i≤k→c.length+((L.drop i).flatMap lb).length≤maxS →
  BU r f (i:Int) c=some (c++(L.drop i).flatMap lb)
 | 0,i,c,hf,_,_=>by omega
 | f+1,i,c,hf,hi,hc=>by
  have hL:=h.len
  unfold BU
  rw [h.lists]
  rcases Nat.lt_or_ge i k with h1 | h1
  ·have hl:L[i]? = some L[i]:=List.getElem?_eq_getElem (by omega)
   have hll:=h.ll hl
   rw [List.drop_eq_getElem_cons (by omega),List.flatMap_cons,List.length_append] at hc
   have e:(lb L[i]).length=(enc 11 L[i].length).length+(kb L[i]).length:=by unfold lb;rw [List.length_append]
   rw [if_pos (by simp;exact h1),h.many hl,Option.bind_some,num_c _ (by omega),Option.bind_some,if_pos (by omega),h.Keys hl,Option.bind_some,txts_ok _ _ (h.mem hl) (by rw [List.length_append];omega),Option.bind_some,i64n i (by omega),
    exp_l0 h hk hm f (i+1) _ (by omega) (by omega) (by rw [List.length_append,List.length_append];omega),List.drop_eq_getElem_cons (i:=i) (by omega),List.flatMap_cons]
   simp only [lb,List.append_assoc]
  ·rw [if_neg (by simp;omega),List.drop_eq_nil_of_le (by omega)];simp
theorem RR.size(h:RR k m r L)(hk:k≤8)(hm:m≤4096):(L.flatMap lb).length≤307300:=by
 have:=lb_le h.kl
 have:=h.tot
 have:=h.len
 omega
theorem RR.Export(h:RR k m r L)(hk:k≤8)(hm:m≤4096):BY r=some (rb k m L):=by
 have hs:=h.size hk hm
 have e1:=enc_len 11 k
 have e2:=enc_len 11 m
 have hM:400000≤maxS:=by decide
 unfold BY
 rw [h.lists,h.slots,num_c k (by omega),Option.bind_some,i64s _ (by omega) (by omega),show (((k+m:Nat):Int)-(k:Int))=(m:Int) by omega,num_c m (by omega),Option.bind_some,if_pos (by omega)]
 have:=exp_l0 h hk hm (((k:Int)-0).toNat+1) 0 (enc 11 k++enc 11 m) (by omega) (by omega) (by rw [List.length_append,List.drop_zero];omega)
 rw [show ((0:Nat):Int)=0 from rfl] at this
 rw [this];rfl
end
section
variable {L:List (List Str)}
end
end Go.Proofs.YtpanhdnglicknaaGreat.Pure
namespace Go.Proofs.YtpanhdnglicknaaGreat.Pure
open Go Go.Proofs.YtpanhdnglicknaaGreat.Hw
theorem tk_l2:∀(l c:List Str) (f:Nat) (n:UInt64) (rest:Str),(∀u∈l,u.length≤64)→n.toNat=l.length→l.length<f→c.length+l.length≤100000 →
  C4 f c n (kb l++rest)=some (.inl (c++l,rest))
 | [],c,0,n,rest,_,_,h,_=>by simp at h
 | [],c,f+1,n,rest,_,hn,_,_=>by
  have:¬(0:UInt64)<n:=by rw [UInt64.lt_iff_toNat_lt,hn];simp
  unfold C4
  rw [if_neg (by simpa using this)];simp [kb]
 | u::l,c,0,n,rest,_,_,h,_=>by omega
 | u::l,c,f+1,n,rest,hu,hn,hf,hc=>by
  have h64:=hu u (List.mem_cons_self ..)
  rw [List.length_cons] at hn hf hc
  have h0:(0:UInt64)<n:=by rw [UInt64.lt_iff_toNat_lt,hn,show (0:UInt64).toNat=0 by decide];omega
  have hn1:(n-1).toNat=l.length:=by
   rw [UInt64.toNat_sub_of_le _ _ (by rw [UInt64.le_iff_toNat_le,hn,show (1:UInt64).toNat=1 by decide];omega),hn,show (1:UInt64).toNat=1 by decide];omega
  have e:kb (u::l)++rest=enc 11 u.length++(u++(kb l++rest)):=by
   show (tb u++kb l)++rest=_
   unfold tb;simp only [List.append_assoc]
  unfold C4
  rw [if_pos (by simpa using h0),e,text_back u (kb l++rest) 64 (by omega) (by omega) (by omega),Option.bind_some,sm_inl,apd_i 16 c [u] (by omega) (by simp;omega),Option.bind_some,
   tk_l2 l (c++[u]) f (n-1) rest (fun v hv=>hu v (List.mem_cons_of_mem _ hv)) hn1 (by omega) (by simp;omega)]
  simp
section
variable {k m:Nat} {r:Ab} {L:List (List Str)}
theorem tk_l1(U V:List (List Str))(l:List Str)(st:Str)(hnd:(U++l::V).flatten.Nodup)(ht:(U++l::V).flatten.length≤m)(h64:∀u∈l,u.length≤64)(hk:U.length<k)(hm:m≤4096):
  ∀(f j:Nat) (r:Ab),j<f→j≤l.length→RR k m r (U++l.drop j::V)→∃r',C3 (l,st) (U.length:Int) f (some r) ((j:Int)-1)=some (.inl (some r'))∧RR k m r' (U++l::V)
 | 0,j,r,hf,_,_=>by omega
 | f+1,0,r,hf,hj,hR=>⟨r,by unfold C3;rw [if_neg (by simp)],by simpa using hR⟩
 | f+1,j+1,r,hf,hj,hR=>by
  have hj':j<l.length:=by omega
  have hsp:l=l.take j++l[j]::l.drop (j+1):=by rw [←List.drop_eq_getElem_cons hj',List.take_append_drop]
  have hno:l[j]∉(U++l.drop (j+1)::V).flatten:=fun hmem=>by
   rw [hsp] at hnd
   simp only [List.flatten_append,List.flatten_cons,List.mem_append,List.append_assoc,List.cons_append,List.length_append,List.length_take,List.length_cons] at hmem hnd
   have h1:=List.nodup_append.1 hnd
   have h2:=List.nodup_append.1 h1.2.1
   have h3:=List.nodup_cons.1 h2.2.1
   rcases hmem with hmem | hmem | hmem
   ·exact h1.2.2 _ hmem _ (List.mem_append.2 (.inr (List.mem_cons_self ..))) rfl
   ·exact h3.1 (List.mem_append.2 (.inl hmem))
   ·exact h3.1 (List.mem_append.2 (.inr hmem))
  have hroom:(U++l.drop (j+1)::V).flatten.length<m:=by
   simp only [List.flatten_append,List.flatten_cons,List.length_append,List.length_drop] at ht ⊢
   omega
  obtain ⟨r1,e1,hR1⟩:=hR.front_new hm hno (h64 _ (List.getElem_mem hj')) hroom (j:=U.length) hk
  have hs:(U++l.drop (j+1)::V).set U.length (l[j]::(U++l.drop (j+1)::V).getD U.length [])=U++l.drop j::V:=by
   rw [List.drop_eq_getElem_cons hj'];simp
  rw [hs] at hR1
  obtain ⟨r',e2,hR2⟩:=tk_l1 U V l st hnd ht h64 hk hm f j r1 (by omega) (by omega) hR1
  refine ⟨r',?_,hR2⟩
  have hjj:(((j+1:Nat):Int)-1)=(j:Int):=by omega
  unfold C3
  rw [hjj,if_pos (by simp),show gi (l,st).1 (j:Int)=some l[j] by rw [giC];exact List.getElem?_eq_getElem hj',Option.bind_some,om_some,hR.in_none hno,Option.bind_some,if_neg (by decide),e1,Option.bind_some,must_t,lt_eq,sm_inl,Option.bind_some]
  dsimp only
  have hjm:j<m:=by
   have:l.length≤m:=by simp only [List.flatten_append,List.flatten_cons,List.length_append] at ht;omega
   omega
  rw [i64s _ (by omega) (by omega)]
  exact e2
theorem tk_l0(a b:UInt64×Aa)(ha:i64 (a.1.toNat:Int)=(k:Int))(hb:i64 (b.1.toNat:Int)=(m:Int))(hk8:k≤8)(hm:m≤4096)(rest:Str):
  ∀(W U:List (List Str)) (f:Nat) (r:Ab),W.length<f→U.length+W.length=k→RR k m r (U++W.map fun _=>[])→(U++W).flatten.Nodup→(U++W).flatten.length≤m→(∀u∈W.flatten,u.length≤64) →
  ∃r',C5 a b f (some r) (U.length:Int) (W.flatMap lb++rest)=some (.inl (some r',rest))∧RR k m r' (U++W)
 | W,U,0,r,hf,_,_,_,_,_=>by omega
 | [],U,f+1,r,hf,hl,hR,_,_,_=>by
  refine ⟨r,?_,by simpa using hR⟩
  unfold C5
  rw [ha,if_neg (by simp at hl;simp;omega)];simp
 | l::W,U,f+1,r,hf,hl,hR,hnd,ht,hu=>by
  rw [List.length_cons] at hf hl
  have h64:∀u∈l,u.length≤64:=fun u h=>hu u (by simp only [List.flatten_cons,List.mem_append];exact .inl h)
  have hV:(W.map fun _=>([]:List Str)).flatten=[]:=by simp
  have hnd':(U++l::W.map fun _=>([]:List Str)).flatten.Nodup:=by
   simp only [List.flatten_append,List.flatten_cons,hV,List.append_nil] at hnd ⊢
   rw [←List.append_assoc] at hnd
   exact (List.nodup_append.1 hnd).1
  have ht':(U++l::W.map fun _=>([]:List Str)).flatten.length≤m:=by
   simp only [List.flatten_append,List.flatten_cons,hV,List.append_nil,List.length_append] at ht ⊢
   omega
  have hlm:l.length≤m:=by simp only [List.flatten_append,List.flatten_cons,List.length_append] at ht;omega
  have hn:=toW_len l.length (by omega)
  have hR0:RR k m r (U++l.drop l.length::W.map fun _=>[]):=by rw [List.drop_length];exact hR
  obtain ⟨r1,e1,hR1⟩:=tk_l1 U (W.map fun _=>[]) l (W.flatMap lb++rest) hnd' ht' h64 (by omega) hm (l.length+1) l.length r (by omega) (by omega) hR0
  obtain ⟨r',e2,hR2⟩:=tk_l0 a b ha hb hk8 hm rest W (U++[l]) f r1 (by omega) (by simp;omega) (by simpa using hR1) (by simpa using hnd) (by simpa using ht) (fun u h=>hu u (by simp only [List.flatten_cons,List.mem_append];exact .inr h))
  refine ⟨r',?_,by simpa using hR2⟩
  have e:(l::W).flatMap lb++rest=enc 11 l.length++(kb l++(W.flatMap lb++rest)):=by simp only [List.flatMap_cons,lb,List.append_assoc]
  have hB:=num_back (toW (l.length:Int)) (toW (m:Int)) (kb l++(W.flatMap lb++rest)) (by rw [UInt64.le_iff_toNat_le,hn,toW_len m (by omega)];exact hlm)
  rw [hn] at hB
  generalize toW (l.length:Int)=N at hn hB
  unfold C5
  rw [ha,hb,if_pos (by simp;omega),e,hB,Option.bind_some,sm_inl]
  dsimp only
  rw [tk_l2 l [] (N.toNat+1) N (W.flatMap lb++rest) h64 hn (by omega) (by simp;omega),Option.bind_some]
  dsimp only
  rw [List.nil_append,i64s ((l.length:Int)-1) (by omega) (by omega),show ((l.length:Int)-1+1).toNat+1=l.length+1 by omega,e1,Option.bind_some]
  dsimp only
  rw [Option.bind_some]
  dsimp only
  rw [i64n _ (by omega)]
  rw [List.length_append,List.length_singleton] at e2
  exact e2
theorem Take_back(h:RR k m r L)(h1:1≤k)(hk:k≤8)(hm:m≤4096)(rest:Str):∃r',C6 ⟨rb k m L++rest⟩=some (.inl (some r',⟨rest⟩))∧RR k m r' L:=by
 have hL:=h.len
 have hK:=toW_len k (by omega)
 have hM:=toW_len m (by omega)
 obtain ⟨r0,e0,hR0⟩:=new_ok k m h1 hk hm
 have e:rb k m L++rest=enc 11 k++(enc 11 m++(L.flatMap lb++rest)):=by unfold rb;simp only [List.append_assoc]
 have b1:=num_back (toW (k:Int)) 8 (enc 11 m++(L.flatMap lb++rest)) (by rw [UInt64.le_iff_toNat_le,hK,show (8:UInt64).toNat=8 by decide];exact hk)
 have b2:=num_back (toW (m:Int)) 4096 (L.flatMap lb++rest) (by rw [UInt64.le_iff_toNat_le,hM,show (4096:UInt64).toNat=4096 by decide];exact hm)
 rw [hK] at b1
 rw [hM] at b2
 have eK:i64 ((k:Nat):Int)=(k:Int):=i64s _ (by omega) (by omega)
 have eM:i64 ((m:Nat):Int)=(m:Int):=i64s _ (by omega) (by omega)
 generalize toW (k:Int)=K at hK b1
 generalize toW (m:Int)=M at hM b2
 have eK':i64 ((K.toNat:Nat):Int)=(k:Int):=by rw [hK,eK]
 have eM':i64 ((M.toNat:Nat):Int)=(m:Int):=by rw [hM,eM]
 have hz:L.map (fun _=>([]:List Str))=List.replicate k []:=by
  rw [List.map_const',hL]
 obtain ⟨r',e2,hR2⟩:=tk_l0 (K,⟨enc 11 m++(L.flatMap lb++rest)⟩) (M,⟨L.flatMap lb++rest⟩) eK' eM' hk hm rest L [] (((k:Int)-0).toNat+1) r0 (by omega) (by simpa using hL) (by rw [List.nil_append,hz];exact hR0) (by simpa using h.nd) (by have:=h.tot;simp only [List.nil_append];omega) h.kl
 refine ⟨r',?_,by simpa using hR2⟩
 unfold C6
 rw [e,b1,Option.bind_some,sm_inl,b2,Option.bind_some,sm_inl]
 dsimp only
 rw [eK',eM',e0,Option.bind_some,show ((0:Int)==0)=true from rfl,must_t,lt_eq,sm_inl]
 rw [show (([]:List (List Str)).length:Int)=0 from rfl] at e2
 rw [e2,Option.bind_some]
end
end Go.Proofs.YtpanhdnglicknaaGreat.Pure
