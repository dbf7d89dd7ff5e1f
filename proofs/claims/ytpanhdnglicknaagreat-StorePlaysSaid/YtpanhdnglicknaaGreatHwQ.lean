import Derived.Test.YtpanhdnglicknaaGreatHwP
set_option linter.unusedSimpArgs false
set_option linter.unusedVariables false
namespace Go.Proofs.YtpanhdnglicknaaGreat.Hw
open Go
section
variable {x:Cx} {ks:List KF} {E:Env} {R R':PH} {L L' L2 L2':List HP} {ops:Array Oper} {ty:TypeId} {v u:Value} {d:Nat} {op:Op} {c:Code}
variable {α:Type} {ap:Bool} {T sz:Nat} {en:α→List Value} {q:List α} {own:Value→α→HP} {G:World} {w:World}
theorem sep_assoc{p q r:HP}{h:PH}(hh:sep (sep p q) r h):sep p (sep q r) h:=by
 obtain ⟨a,b,d,l1,l2,⟨a1,a2,d2,m1,m2,hp,hq⟩,hr⟩:=hh
 have d3:Dj a2 b:=d.le m2
 refine ⟨a1,fun k=>(a2 k).or (b k),?_,m1.trans l1,?_,hp,a2,b,d3,le_orL _ _,le_orR d3,hq,hr⟩
 ·intro k
  rcases d2 k with h | h
  ·exact .inl h
  ·rcases d k with h' | h'
   ·left
    cases e:a1 k with
    | none=>rfl
    | some o=>have:=m1 k o e;rw [h'] at this;cases this
   ·exact .inr (by simp [h,h'])
 ·intro k o e
  dsimp only at e
  cases ha:a2 k with
  | some o'=>rw [ha] at e;exact l1 k o (m2 k o (by rw [ha];simpa using e))
  | none=>rw [ha] at e;exact l2 k o (by simpa using e)
theorem OwL.mono:∀{vs:List Value} {ys:List α} {h h':PH},Le h h'→OwL own vs ys h→OwL own vs ys h'
 | [],[],_,_,_,_=>trivial
 | v::vs,y::ys,_,_,l,⟨a,b,d,l1,l2,h1,h2⟩=>⟨a,b,d,l1.trans l,l2.trans l,h1,h2⟩
 | [],_::_,_,_,_,h=>h.elim
 | _::_,[],_,_,_,h=>h.elim
theorem OwL.append:∀{vs:List Value} {ys:List α} {vs2:List Value} {ys2:List α} {h:PH},sep (OwL own vs ys) (OwL own vs2 ys2) h→OwL own (vs++vs2) (ys++ys2) h
 | [],[],vs2,ys2,_,⟨a,b,_,_,l2,_,h⟩=>OwL.mono l2 h
 | v::vs,y::ys,vs2,ys2,h,hh=>sep_mono (fun _ h=>h) (fun _ h=>OwL.append h) (sep_assoc hh)
 | [],_::_,_,_,_,⟨_,_,_,_,_,h,_⟩=>h.elim
 | _::_,[],_,_,_,⟨_,_,_,_,_,h,_⟩=>h.elim
theorem st_l1{y:α}(hs:St G R (own v y::L) w):St G R (OwL own [v] [y]::L) w :=
 st_wk (fun h hh=>⟨h,fun _=>none,fun _ => .inr rfl,Le.refl _,fun _ _ e=>(by cases e),hh,trivial⟩) hs
theorem st_lnil(hs:St G R L w):St G R (OwL own [] []::L) w:=st_emp trivial hs
theorem st_lnil4{z:Value}{y:α}(h0:∀h,own z y h)(hs:St G R L w):St G R (OwL own [z,z,z,z] [y,y,y,y]::L) w:=st_emp (OwL.rep h0 4 _) hs
theorem st_some_o{α:Type}{f:Nat→α→HP}{b:Nat}{a:α}(h:St G R (rO f (pt b 0) (some a)::L) w):St G R (f b a::L) w:=by
 obtain ⟨b',h1⟩:=St.openHead (p:=fun b' k=>pt b 0=pt b' 0∧f b' a k) h
 obtain ⟨h2,h3⟩:=St.pureHead h1
 cases h2
 exact h3
theorem OwS.weak{h:PH}(hh:OwS true T sz en v q h):OwS false T sz en v q h:=by
 rcases hh with hh | ⟨b,o,c,cs,fr,e,hb,h1,h2,h3,h4,h5,_⟩
 ·exact .inl hh
 ·exact .inr ⟨b,o,c,cs,fr,e,hb,h1,h2,h3,h4,h5,fun h=>by cases h⟩
theorem st_weak(hs:St G R (OwS true T sz en v q::L) w):St G R (OwS false T sz en v q::L) w:=st_wk (fun _ h=>OwS.weak h) hs
def iand(a b:Int):Int:=i64 (((BitVec.ofInt 64 a &&& BitVec.ofInt 64 b).toNat:Nat):Int)
theorem bI_and{P:Program}{t:TypeId}(a b:Int):Bop P .and t (vI a) (vI b) (vI (iand a b)):=fun _ _ _=>by simp [vI,eqGuard,binOp,Op.intBits,IntKind.bits,iand,i64,IntKind.wrap_i64,-BitVec.toNat_and,-BitVec.toNat_or,-BitVec.toNat_xor,-BitVec.toNat_ofInt];rfl
theorem ou_if{φ:Prop}{u:Value}(h1:∀w,St x.G R L w→φ)(h:φ→OU x op ty E R L u R' L'):OU x op ty E R L u R' L' :=
 fun dst pos aft g a w K Q hf hs hl k=>h (h1 w hs) dst pos aft g a w K Q hf hs hl k
theorem ow_if{φ:Prop}{C:Value→PH→List HP→Prop}(h1:∀w,St x.G R L w→φ)(h:φ→OW x ks op ty E R L C):OW x ks op ty E R L C :=
 fun dst pos aft g a w K hf hs k=>h (h1 w hs) dst pos aft g a w K hf hs k
theorem OwS.one{h:PH}(hh:OwS ap T sz en v q h):v.oneCell'=true:=by
 obtain ⟨a,c,rfl⟩:=hh.len
 rfl
theorem RoS.one(h:RoS R v sz en q):v.oneCell'=true:=by obtain ⟨a,c,rfl,_⟩:=h;rfl
theorem RoN.one{l:List (List α)}(h:RoN R v sz en l):v.oneCell'=true:=by obtain ⟨hs,h,_⟩:=h;exact h.one
theorem OwL.one:∀{vs:List Value} {ys:List (List α)} {h:PH},OwL (OwS ap T sz en) vs ys h→∀u∈vs,u.oneCell'=true
 | [],[],_,_,u,hu=>by simp at hu
 | v::vs,y::ys,_,⟨a,b,_,_,_,h1,h2⟩,u,hu=>by
  rcases List.mem_cons.1 hu with rfl | hu
  ·exact h1.one
  ·exact OwL.one h2 u hu
 | [],_::_,_,h,_,_=>h.elim
 | _::_,[],_,h,_,_=>h.elim
theorem rO.one{α:Type}{f:Nat→α→HP}{o:Option α}{h:PH}(hh:rO f v o h):v.oneCell'=true:=by
 cases o with
 | none=>have:v=nl:=hh;subst this;rfl
 | some a=>obtain ⟨b,rfl,_⟩:=(hh:∃b,v=pt b 0∧f b a h);rfl
theorem one_o(k:Nat)(hk:L[k]? = some (OwS ap T sz en v q))(w:World)(hs:St G R L w):v.oneCell'=true:=by
 obtain ⟨h,hh,_⟩:=hs.get hk
 exact hh.one
theorem one_p{α:Type}{f:Nat→α→HP}{o:Option α}(k:Nat)(hk:L[k]? = some (rO f v o))(w:World)(hs:St G R L w):v.oneCell'=true:=by
 obtain ⟨h,hh,_⟩:=hs.get hk
 exact hh.one
theorem hd_o(k:Nat)(hk:L[k]? = some (OwS ap T sz en v q))(w:World)(hs:St G R L w):∃a c,v = .slice a q.length c:=by
 obtain ⟨h,hh,_⟩:=hs.get hk
 exact hh.len
theorem RoS.hd(h:RoS R v sz en q):∃a c,v = .slice a q.length c:=by obtain ⟨a,c,h,_⟩:=h;exact ⟨a,_,h⟩
theorem RoN.hd{l:List (List α)}(h:RoN R v sz en l):∃a c,v = .slice a l.length c:=by
 obtain ⟨hs,h,h2,_⟩:=h
 obtain ⟨a,c,h⟩:=h.hd
 exact ⟨a,c,by rw [h,h2]⟩
theorem hd_p{α:Type}{f:Nat→α→HP}{o:Option α}(k:Nat)(hk:L[k]? = some (rO f v o))(w:World)(hs:St G R L w):∃a,v = .pointer a:=by
 obtain ⟨h,hh,_⟩:=hs.get hk
 cases o with
 | none=>exact ⟨none,hh⟩
 | some a=>obtain ⟨b,h1,_⟩:=(hh:∃b,v=pt b 0∧f b a h);exact ⟨_,h1⟩
theorem al_n:([]:List Value).all Value.oneCell'=true:=rfl
theorem a_{l:List Value}(h:v.oneCell'=true)(hl:l.all Value.oneCell'=true):(v::l).all Value.oneCell'=true:=by simp [h];simpa using hl
theorem o_apN{t e bytes T2:Nat}{ap2 ap3:Bool}{T3:Nat}{i:TypeInfo}{z0:Value}{y z:Operand}{v2:Value}{hs hs2:List Value}{ll rr ss:List (List α)}(ht:x.P.underlying t=some (.slice e))(hi:x.P.info? e=some i)(hz:i.zero=some z0)
  (hsz:i.size=1) (hby:i.bytes=bytes) (hzs:z0.cells.size=1) (hbp:Nat.blt 0 bytes=true)
  (hy:ev E y=some v) (hz2:ev E z=some v2) (hL:L=OwS true e 1 eV v hs::OwL (OwS ap2 T2 sz en) hs ll::OwS ap3 T3 1 eV v2 hs2::OwL (OwS ap2 T2 sz en) hs2 rr::L') (hne:0<rr.length) (hb:apd bytes ll rr=some ss) :
  OW x ks (.call ⟨.builtin .append,#[y,z],#[t,t]⟩) ty E R L (fun u R' L''=>∃hs3,R'=R∧L''=OwS true e 1 eV u hs3::OwL (OwS ap2 T2 sz en) hs3 ss::L'):=by
 subst hL
 have hlen:∀w,St x.G R (OwS true e 1 eV v hs::OwL (OwS ap2 T2 sz en) hs ll::OwS ap3 T3 1 eV v2 hs2::OwL (OwS ap2 T2 sz en) hs2 rr::L') w→(∀u∈hs2,u.oneCell'=true)∧hs.length=ll.length∧hs2.length=rr.length:=fun w hst=>by
  obtain ⟨h1,a1,_⟩:=hst.get (i:=1) rfl
  obtain ⟨h2,a2,_⟩:=hst.get (i:=3) rfl
  exact ⟨a2.one,a1.len,a2.len⟩
 refine ow_if hlen fun ⟨h1,h2,h3⟩ =>?_
 have hb2:apd bytes hs hs2=some (hs++hs2)∧ss=ll++rr:=by
  unfold apd at hb ⊢
  rw [h2,h3]
  split at hb
  ·rename_i hc;rw [if_pos hc];cases hb;exact ⟨rfl,rfl⟩
  ·cases hb
 obtain ⟨hb2,rfl⟩:=hb2
 refine ow_to (o_ap (en:=eV) (k:=1) ht hi hz hsz hby hzs (by decide) (by simpa using hbp) (fun y hy u hu=>by simp [eV] at hu;subst hu;exact h1 _ hy) (fun _=>rfl) hy hz2 rfl rfl (by omega) hb2) fun u R1 L1 w hC hst =>?_
 obtain ⟨rfl,rfl⟩:=hC
 refine ⟨R1,_,Le.refl _,⟨hs++hs2,rfl,rfl⟩,?_⟩
 have h4:St x.G R1 (OwL (OwS ap2 T2 sz en) hs ll::OwL (OwS ap2 T2 sz en) hs2 rr::OwS true e 1 eV u (hs++hs2)::L') w:=st_pk 4 [1,3,0] (by decide) hst
 have h5:St x.G R1 (OwL (OwS ap2 T2 sz en) (hs++hs2) (ll++rr)::OwS true e 1 eV u (hs++hs2)::L') w:=st_wk (fun h hh=>OwL.append hh) (st_sep_f h4)
 exact st_pk 2 [1,0] (by decide) h5
theorem RoN.ne{l:List (List α)}(h:RoN R v sz en l){i:Int}{y:List α}(hi:gi l i=some y):
  ∃b o cs T fr c u,v = .slice (some ⟨b,o,none⟩) l.length c∧R b=some (.cells (List.toArray cs) T fr)∧(cs.drop (o+i.toNat*1)).take 1=[u]∧(0≤i∧i<(l.length:Int))∧RoS R u sz en y:=by
 obtain ⟨hs,h1,h2,h3⟩:=h
 obtain ⟨hb,hl⟩:=gi_some hi
 have hlt:i.toNat<hs.length:=by rw [h2];exact (List.getElem?_eq_some_iff.1 hl).1
 have hg:gi hs i=some hs[i.toNat]:=by unfold gi;rw [if_pos hb.1];exact List.getElem?_eq_getElem hlt
 obtain ⟨b,o,cs,T,fr,c,hv,hR,hc,_⟩:=h1.ne hg
 exact ⟨b,o,cs,T,fr,c,hs[i.toNat],by rw [←h2];exact hv,hR,hc,hb,h3 _ _ _ (List.getElem?_eq_getElem hlt) hl⟩
theorem o_lenRN{t e:TypeId}{y:Operand}{l:List (List α)}(hu:x.P.underlying t=some (.slice e))(hy:ev E y=some v)(h:RoN R v sz en l):OV x (.call ⟨.builtin .len,#[y],#[t]⟩) ty E R L (vI l.length):=by
 obtain ⟨hs,h1,h2,_⟩:=h
 rw [←h2]
 exact o_lenR hu hy h1
theorem o_ixG{t e n:Nat}{y z:Operand}{i:Int}{cs:List Value}(hu:x.P.underlying t=some (.array n e))(hsz:∀w,(sizeOf e).run x.P w = .ok 1 w)(ha:∀w,(isAgg e).run x.P w = .ok false w)
  (hy:ev E y=some (.agg cs.toArray)) (hz:ev E z=some (vI i)) (hn:cs.length=n) (h:gi cs i=some u):OV x (.index t y z) ty E R L u :=
 ou_of fun _ _ _ _ a w hf hs=>⟨w,by
  obtain ⟨⟨h0,h1⟩,h2⟩:=gi_some h
  have hp:(part e cs.toArray (i.toNat*1)).run x.P w = .ok u w:=by
   simp [part,ha w,h2]
  have h3:i<(n:Int):=by omega
  simp only [Nat.mul_one] at hp
  simp [execOp,hf.ev hy,hf.ev hz,Instr.index,asIntOf,vI,run_underlying hu w,h0,h3,hsz w,hp],hs⟩
theorem o_cpL{t e:TypeId}{y z:Operand}{i:TypeInfo}{v2:Value}{vs:List Value}{ys:List (List α)}{q r s:List α}{j:Int}(hj:gi vs j=some v)(hyj:gi ys j=some q)(ht:x.P.underlying t=some (.slice e))(hi:x.P.info? e=some i)(hsz:i.size=1)(hone:∀y,∃u,en y=[u]∧u.oneCell'=true)
  (hy:ev E y=some v) (hz:ev E z=some v2) (hL:L=OwL (OwS true e 1 en) vs ys::L') (hr:RoS R v2 1 en r) (hb:cpy q r=some s) :
  OU x (.call ⟨.builtin .copy,#[y,z],#[t,t]⟩) ty E R L (vI ((min r.length q.length:Nat):Int)) R (OwL (OwS true e 1 en) vs (ls ys j s)::L'):=by
 subst hL
 exact ou_st (L2:=OwS true e 1 en v q::OwX (OwS true e 1 en) j.toNat vs ys::L') (fun w h=>st_foc hj hyj h) (fun w h=>st_unfocusV hj h) (o_cp ht hi hsz hone hy hz rfl hr hb)
end
end Go.Proofs.YtpanhdnglicknaaGreat.Hw
