import Derived.Test.YtpanhdnglicknaaGreatHwN
import Derived.Laws.MakeOwn
import Derived.Laws.CopyRow
set_option linter.unusedSimpArgs false
set_option linter.unusedVariables false
namespace Go.Proofs.YtpanhdnglicknaaGreat.Hw
open Go
abbrev eV:Value→List Value:=fun u=>[u]
section
variable {x:Cx} {ks:List KF} {E:Env} {R R':PH} {L L' L2 L2':List HP} {ops:Array Oper} {ty:TypeId} {v u:Value} {d:Nat} {op:Op} {c:Code}
variable {α:Type} {ap:Bool} {T sz:Nat} {en:α→List Value} {q:List α}
def Kn(x:Cx)(R:PH)(L:List HP)(p:HP):Prop:=∀w,St x.G R L w→∃k,p k∧Has k w
theorem kn_in{own:Value→α→HP}{vs:List Value}{ys:List α}{i:Int}{y:α}(k:Nat)(hk:L[k]? = some (OwL own vs ys))(hv:gi vs i=some v)(hy:gi ys i=some y):Kn x R L (own v y):=fun w hs=>by
 obtain ⟨h,hh,hw⟩:=hs.get hk
 obtain ⟨u,hu,a,b,_,l1,_,h1,_⟩:=OwL.focus hh (gi_some hy).2
 have:=(gi_some hv).2
 rw [hu] at this
 cases this
 exact ⟨a,h1,hw.le l1⟩
theorem ou_st(h1:∀w,St x.G R L w→St x.G R L2 w)(h2:∀w,St x.G R L2' w→St x.G R L' w)(h:OU x op ty E R L2 v R L2'):OU x op ty E R L v R L' :=
 fun dst pos aft g a w K Q hf hs hl k=>h dst pos aft g a w K Q hf (h1 w hs) hl fun w' hs'=>k w' (h2 w' hs')
theorem ow_to{C D:Value→PH→List HP→Prop}(h:OW x ks op ty E R L C)(hD:∀v R' L' w,C v R' L'→St x.G R' L' w→∃R2 L2,Le R' R2∧D v R2 L2∧St x.G R2 L2 w):OW x ks op ty E R L D :=
 fun dst pos aft g a w K hf hs k=>h dst pos aft g a w K hf hs fun v R' L' w' hR hC hs'=>by
  obtain ⟨R2,L3,h1,h2,h3⟩:=hD v R' L' w' hC hs'
  exact k v R2 L3 w' (hR.trans h1) h2 h3
theorem st_peek{G:World}{own:Value→α→HP}{vs:List Value}{ys:List α}{i:Int}{y:α}(k:Nat)(hi:gi ys i=some y)(hk:L[k]? = some (OwL own vs ys))(w:World)(hs:St G R L w):∃v,gi vs i=some v∧St G R L w:=by
 obtain ⟨h,hh,hw⟩:=hs.get hk
 obtain ⟨⟨h0,_⟩,h2⟩:=gi_some hi
 obtain ⟨u,hu,_⟩:=OwL.focus hh h2
 exact ⟨u,by unfold gi;rw [if_pos h0];exact hu,hs⟩
theorem st_foc{G:World}{own:Value→α→HP}{vs:List Value}{ys:List α}{i:Int}{y:α}{w:World}(hv:gi vs i=some v)(hy:gi ys i=some y)(hs:St G R (OwL own vs ys::L) w):St G R (own v y::OwX own i.toNat vs ys::L) w:=by
 obtain ⟨u,hu,h⟩:=st_focus hy hs
 rw [hv] at hu
 cases hu
 exact h
theorem st_lset{G:World}{own:Value→α→HP}{vs:List Value}{ys:List α}{i:Int}{y z:α}{u:Value}{w:World}(hy:gi ys i=some y)(hs:St G R (own u z::OwL own vs ys::L) w):St G R (OwL own (ls vs i u) (ls ys i z)::L) w:=by
 have h1:St G R (OwL own vs ys::own u z::L) w:=st_mid' (A:=[]) hs
 obtain ⟨v,hv,h2⟩:=st_focus hy h1
 have h3:St G R (own u z::OwX own i.toNat vs ys::L) w:=st_pk 3 [2,1] (by decide) h2
 exact st_unfocus h3
theorem o_lenK{t e:TypeId}{y:Operand}(hk:Kn x R L (OwS ap T sz en v q))(hu:x.P.underlying t=some (.slice e))(hy:ev E y=some v):
  OV x (.call ⟨.builtin .len,#[y],#[t]⟩) ty E R L (vI q.length) :=
 ou_of fun _ _ _ _ a w hf hs=>⟨w,by
  obtain ⟨h,hh,_⟩:=hk w hs
  obtain ⟨p,c,rfl⟩:=hh.len
  have hl:(Builtin.len_ #[t] ty #[.slice p q.length c]).run x.P w = .ok (vI q.length) w:=by
   simp [Builtin.len_,run_underlying hu w,goInt,vI]
  simp [execOp,resolve,hf.ev hy,invoke,builtin,hl],hs⟩
theorem o_ixK{t e:TypeId}{y z:Operand}{i:Int}{c:α}(hk:Kn x R L (OwS ap T sz en v q))(hu:x.P.underlying t=some (.slice e))(hsz:∀w,(sizeOf e).run x.P w = .ok sz w)
  (hy:ev E y=some v) (hz:ev E z=some (vI i)) (hi:gi q i=some c) :
  OV x (.indexAddr t y z) ty E R L (pt (sb v) (so v+i.toNat*sz)) :=
 ou_of fun _ _ _ _ a w hf hs=>⟨w,by
  obtain ⟨h,hh,_⟩:=hk w hs
  obtain ⟨b,o,c,cs,fr,rfl,_⟩:=hh.at_ hi
  obtain ⟨⟨h0,h1⟩,_⟩:=gi_some hi
  simp [execOp,hf.ev hy,hf.ev hz,Instr.indexAt,asIntOf,vI,run_underlying hu w,h0,h1,hsz,add_eq,sb,so],hs⟩
theorem o_ldK{t:TypeId}{y:Operand}{i:Int}{c:α}(hk:Kn x R L (OwS ap T sz en v q))(off:Nat)(ht:Sc x.P t)(hy:ev E y=some (pt (sb v) (so v+i.toNat*sz+off)))
  (hi:gi q i=some c) (ho:Nat.blt off sz=true) (hc:(en c)[off]? = some u):OV x (.load t y) ty E R L u :=
 ou_of fun _ _ _ _ a w hf hs=>⟨w,by
  obtain ⟨h,hh,hw⟩:=hk w hs
  obtain ⟨b,o,cp,cs,fr,rfl,hb,_,he,_⟩:=hh.at_ hi
  have h2:=(gi_some hi).2
  have:=rok off (he _ _ h2) (by simpa using ho)
  simp only [sb,so] at hy
  simp [execOp,hf.ev hy,Instr.loadAt,Instr.sureAddr,run_ld1 (hw b _ hb) ht (this.trans hc)],hs⟩
theorem o_bsK{s e dd:TypeId}{y:Operand}{t:Str}(hk:Kn x R L (OwS ap T 1 eY v t))(hs:x.P.underlying s=some (.slice e))(he:x.P.underlying e=some (.int .u8))(hd:x.P.underlying dd=some .string)
  (hy:ev E y=some v):OV x (.convert s dd y) ty E R L (vS t) :=
 ou_of fun _ _ _ _ a w hf hst=>⟨w,by
  obtain ⟨h,hh,hw⟩:=hk w hst
  rcases hh with ⟨rfl,rfl⟩ | ⟨b,o,c,cs,fr,rfl,hb,_,hc,_⟩
  ·have:=run_convert_bytes_nil (P:=x.P) w s e hs he 0 0 dd hd
   simp [execOp,hf.ev hy,this,vS];rfl
  ·have:=run_bs (P:=x.P) (c:=c) hs he hd (hw _ _ hb) hc
   simp [execOp,hf.ev hy,this],hst⟩
theorem o_stL{T2:Nat}{vs:List Value}{ys:List (List α)}{y:List α}{j:Int}{t:TypeId}{a z:Operand}{i:Int}{c c':α}(off:Nat)(hj:gi vs j=some v)(hyj:gi ys j=some y)(ht:Sc x.P t)(hy:ev E a=some (pt (sb v) (so v+i.toNat*sz+off)))(hz:ev E z=some u)
  (hL:L=OwL (OwS ap T2 sz en) vs ys::L') (hi:gi y i=some c) (hv:u.oneCell'=true) (ho:Nat.blt off sz=true) (hc:en c'=(en c).set off u) :
  OU x (.store t a z) ty E R L undef R (OwL (OwS ap T2 sz en) vs (ls ys j (ls y i c'))::L'):=by
 subst hL
 exact ou_st (L2:=OwS ap T2 sz en v y::OwX (OwS ap T2 sz en) j.toNat vs ys::L') (fun w h=>st_foc hj hyj h) (fun w h=>st_unfocusV hj h) (o_stO off ht hy hz rfl hi hv ho hc)
theorem o_stH{T1 T2:Nat}{ap1:Bool}{vs:List Value}{ys:List (List α)}{y:List α}{j:Int}{w0:Value}{t:TypeId}{a z:Operand}(hyj:gi ys j=some y)(hj:gi vs j=some w0)(ht:Sc x.P t)(hy:ev E a=some (pt (sb v) (so v+j.toNat*1)))(hz:ev E z=some u)
  (hL:L=OwS ap1 T1 1 eV v vs::OwL (OwS ap T2 sz en) vs ys::OwS ap T2 sz en u q::L') (hv:u.oneCell'=true) :
  OU x (.store t a z) ty E R L undef R (OwS ap1 T1 1 eV v (ls vs j u)::OwL (OwS ap T2 sz en) (ls vs j u) (ls ys j q)::L'):=by
 subst hL
 refine ou_st (fun w h=>h) (fun w h =>?_) (o_stO0 (c':=u) ht hy hz rfl hj hv (by rfl) rfl)
 have h1:St x.G R (OwS ap T2 sz en u q::OwL (OwS ap T2 sz en) vs ys::OwS ap1 T1 1 eV v (ls vs j u)::L') w:=by
  have:=st_pk 3 [2,1,0] (by decide) h
  exact this
 have h2:=st_lset (own:=OwS ap T2 sz en) hyj h1
 have:=st_pk 2 [1,0] (by decide) h2
 exact this
theorem take_get{cs:List Value}{o n:Nat}{i:Int}(h:gi ((cs.drop o).take n) i=some u):cs[o+i.toNat]? = some u:=by
 obtain ⟨_,h2⟩:=gi_some h
 rw [List.getElem?_take] at h2
 split at h2
 ·rw [List.getElem?_drop] at h2;exact h2
 ·cases h2
theorem o_ixA{t e n:Nat}{y z:Operand}{i:Int}{b o:Nat}(hu:x.P.underlying t=some (.array n e))(hsz:∀w,(sizeOf e).run x.P w = .ok sz w)(hy:ev E y=some (pt b o))(hz:ev E z=some (vI i))(h0:0≤i∧i<(n:Int)):
  OV x (.indexAddr t y z) ty E R L (pt b (o+i.toNat*sz)) :=
 ou_of fun _ _ _ _ a w hf hs=>⟨w,by
  obtain ⟨h1,h2⟩:=h0
  simp [execOp,hf.ev hy,hf.ev hz,Instr.indexAt,Instr.sureAddr,asIntOf,vI,run_underlying hu w,h1,h2,hsz,add_eq],hs⟩
theorem o_ldA{t:TypeId}{y:Operand}{b o n T:Nat}{i:Int}{cs:List Value}{fr:Nat×Nat}(k:Nat)(ht:Sc x.P t)(hy:ev E y=some (pt b (o+i.toNat*1)))(hk:L[k]? = some (Blk b (.cells cs.toArray T fr)))
  (h:gi ((cs.drop o).take n) i=some u):OV x (.load t y) ty E R L u :=
 ou_of fun _ _ _ _ a w hf hs=>⟨w,by
  have h1:=take_get h
  rw [Nat.mul_one] at hy
  simp [execOp,hf.ev hy,Instr.loadAt,Instr.sureAddr,run_ld1 (hs.blk hk) ht h1],hs⟩
theorem o_stA{t:TypeId}{y z:Operand}{b o n T:Nat}{i:Int}{cs:List Value}{w0:Value}(ht:Sc x.P t)(hy:ev E y=some (pt b (o+i.toNat*1)))(hz:ev E z=some u)(hL:L=Blk b (.cells cs.toArray T (0,0))::L')(h:gi ((cs.drop o).take n) i=some w0)(hv:u.oneCell'=true):
  OU x (.store t y z) ty E R L undef R (Blk b (.cells (cs.set (o+i.toNat) u).toArray T (0,0))::L'):=by
 rw [Nat.mul_one] at hy
 have h1:=take_get h
 have hl:o+i.toNat<cs.length:=(List.getElem?_eq_some_iff.1 h1).1
 exact o_st ht hy hz hL hv (by simpa using hl) (by simp)
theorem list4{β:Type}{l:List β}(h:l.length=4):∃a b c d,l=[a,b,c,d]:=by
 match l,h with
 | [a,b,c,d],_=>exact ⟨a,b,c,d,rfl⟩
theorem set_mid{β:Type}(A B:List β):∀(H:List β) (i:Nat) (u:β),i<H.length→(A++(H++B)).set (A.length+i) u=A++(H.set i u++B):=fun H i u hi=>by
 rw [List.set_append,if_neg (by omega),Nat.add_sub_cancel_left,List.set_append,if_pos hi]
theorem o_stA4{t:TypeId}{a z:Operand}{b T T2:Nat}{i:Int}{A B:List Value}{g0 g1 g2 g3:Value}{ys:List (List α)}{y:List α}{w0:Value}(hyi:gi ys i=some y)(hvi:gi [g0,g1,g2,g3] i=some w0)(ht:Sc x.P t)(hy:ev E a=some (pt b (A.length+i.toNat*1)))(hz:ev E z=some u)
  (hL:L=Blk b (.cells (A++([g0,g1,g2,g3]++B)).toArray T (0,0))::OwL (OwS ap T2 sz en) [g0,g1,g2,g3] ys::OwS ap T2 sz en u q::L') (hv:u.oneCell'=true) :
  OW x ks (.store t a z) ty E R L (fun v2 R' L2=>∃p0 p1 p2 p3,v2=undef∧R'=R∧L2=Blk b (.cells (A++([p0,p1,p2,p3]++B)).toArray T (0,0))::OwL (OwS ap T2 sz en) [p0,p1,p2,p3] (ls ys i q)::L'):=by
 subst hL
 have hlen:i.toNat<[g0,g1,g2,g3].length:=(List.getElem?_eq_some_iff.1 (gi_some hvi).2).1
 have hcs:gi (((A++([g0,g1,g2,g3]++B)).drop A.length).take 4) i=some w0:=by
  rw [List.drop_left];exact hvi
 obtain ⟨p0,p1,p2,p3,hp⟩:=list4 (l:=ls [g0,g1,g2,g3] i u) (by simp [ls])
 have h1:=o_stA (x:=x) (R:=R) (ty:=ty) (n:=4) (T:=T) (L':=OwL (OwS ap T2 sz en) [g0,g1,g2,g3] ys::OwS ap T2 sz en u q::L') ht hy hz rfl hcs hv
 rw [set_mid _ _ _ _ _ hlen] at h1
 have e:[g0,g1,g2,g3].set i.toNat u=[p0,p1,p2,p3]:=hp
 rw [e] at h1
 refine fun dst pos aft g ac w K hf hs k=>h1 dst pos aft g ac w K (Kq x ks) hf hs trivial fun w' hs'=>k undef R _ w' (Le.refl R) ⟨p0,p1,p2,p3,rfl,rfl,rfl⟩ ?_
 have h2:St x.G R (OwS ap T2 sz en u q::OwL (OwS ap T2 sz en) [g0,g1,g2,g3] ys::Blk b (.cells (A++([p0,p1,p2,p3]++B)).toArray T (0,0))::L') w':=by
  have:=st_pk 3 [2,1,0] (by decide) hs'
  exact this
 have h3:=st_lset (own:=OwS ap T2 sz en) hyi h2
 rw [hp] at h3
 have:=st_pk 2 [1,0] (by decide) h3
 exact this
def mks{α:Type}(bytes:Nat)(n:Int)(z:α):Option (List α):=if 0≤n∧(bytes:Int)*n≤281474976710656∧n≤9223372036854775807 then some (List.replicate n.toNat z) else none
theorem made_el{z:Array Value}{n k:Nat}{zl:List Value}(hz:z.toList=zl)(hs:zl.length=sz)(hp:0<sz)(hk:k<n):((madeCells z (n*sz)).toList.drop (k*sz)).take sz=zl:=by
 apply List.ext_getElem?
 intro j
 rw [List.getElem?_take]
 have hkn:(k+1)*sz≤n*sz:=Nat.mul_le_mul_right _ hk
 rw [Nat.add_mul,Nat.one_mul] at hkn
 by_cases hj:j<sz
 ·rw [if_pos hj,List.getElem?_drop]
  have hzs:z.size=sz:=by rw [←hs,←hz];simp
  have:k*sz+j<n*sz:=by omega
  simp only [madeCells,Array.toList_map,List.getElem?_map,Array.toList_range]
  rw [List.getElem?_range this]
  simp only [Option.map_some]
  have e:(k*sz+j)%z.size=j:=by rw [hzs,Nat.mul_add_mod_of_lt' hj]
  rw [e]
  subst hz
  have hjs:j<z.size:=by omega
  simp [hjs]
 ·rw [if_neg hj,List.getElem?_eq_none (by omega)]
where
 Nat.mul_add_mod_of_lt' {k sz j:Nat} (h:j<sz):(k*sz+j)%sz=j:=by rw [Nat.mul_comm,Nat.mul_add_mod,Nat.mod_eq_of_lt h]
theorem o_mk{t e bytes:Nat}{i:TypeInfo}{z0:Value}{y z:Operand}{n:Int}{z1:α}(ht:x.P.underlying t=some (.slice e))(hi:x.P.info? e=some i)(hz:i.zero=some z0)(hsz:i.size=sz)(hby:i.bytes=bytes)(hpos:Nat.blt 0 sz=true)
  (hzc:z0.cells.toList=en z1) (hen:(en z1).length=sz) (hy:ev E y=some (vI n)) (hz2:ev E z=some (vI n)) (hm:mks bytes n z1=some q):OW x ks (.makeSlice t y z) ty E R L (App e sz en R L q) :=
 ow_of fun dst pos aft g a w hf hst=>by
  unfold mks at hm
  split at hm
  case isFalse=>cases hm
  rename_i hn
  cases hm
  obtain ⟨h0,h1,h2⟩:=hn
  have hr:=run_make (P:=x.P) w t e i z0 ht hi hz .i64 .i64 n n h0 (Int.le_refl _) (by rw [hby];exact h1) h2
  refine ⟨.slice (some ⟨w.heap.size,0,none⟩) n.toNat n.toNat,R,_,w.alloc (.cells (madeCells z0.cells (n.toNat*i.size)) e),by simp [execOp,hf.ev hy,hf.ev hz2,vI,hr,-World.alloc_eq],Le.refl R,⟨rfl,rfl⟩,?_⟩
  refine hst.addB rfl rfl rfl (fun b hb=>RowKit.Below.heap_alloc w _ b hb) (heap_alloc_new w _) ?_
  have hlen:(madeCells z0.cells (n.toNat*i.size)).toList.length=n.toNat*sz:=by rw [hsz];simp [size_madeCells]
  have hml:maxLen=9223372036854775807:=rfl
  refine .inr ⟨w.heap.size,0,n.toNat,(madeCells z0.cells (n.toNat*i.size)).toList,(0,0),by simp,by simp,fun k _ _=>by simp,?_,by rw [hlen];omega,by simp,by omega,fun _=>⟨rfl,rfl,hlen⟩⟩
  intro k w1 hk
  rw [List.getElem?_replicate] at hk
  split at hk
  case isFalse=>cases hk
  rename_i hkn
  cases hk
  rw [Nat.zero_add,hsz]
  exact made_el hzc hen (by simpa using hpos) hkn
end
end Go.Proofs.YtpanhdnglicknaaGreat.Hw
