import Derived.Test.YtpanhdnglicknaaGreatHwP
set_option linter.unusedSimpArgs false
set_option linter.unusedVariables false
namespace Go.Proofs.YtpanhdnglicknaaGreat.Hw
open Go
section
variable {x:Cx} {ks:List KF} {E:Env} {R R':PH} {L L' L2 L2':List HP} {ops:Array Oper} {ty:TypeId} {v u:Value} {d:Nat} {op:Op} {c:Code}
variable {α:Type} {ap:Bool} {T sz:Nat} {en:α→List Value} {q:List α} {own:Value→α→HP} {G:World} {w:World}
theorem sep_assoc{p q r:HP}{h:PH}(hh:sep (sep p q) r h):sep p (sep q r) h:=by
 obtain ⟨a,b,d,l1,l2,⟨a1,a2,d2,m1,m2,hp,hq⟩,hr⟩:=hh
 have d3:Dj a2 b:=d.le m2
 refine ⟨a1,fun k=>(a2 k).or (b k),?_,m1.trans l1,?_,hp,a2,b,d3,le_orL _ _,le_orR d3,hq,hr⟩
 ·intro k
  rcases d2 k with h | h
  ·exact .inl h
  ·rcases d k with h' | h'
   ·left
    cases e:a1 k with
    | none=>rfl
    | some o=>have:=m1 k o e;rw [h'] at this;cases this
   ·exact .inr (by simp [h,h'])
 ·intro k o e
  dsimp only at e
  cases ha:a2 k with
  | some o'=>rw [ha] at e;exact l1 k o (m2 k o (by rw [ha];simpa using e))
  | none=>rw [ha] at e;exact l2 k o (by simpa using e)
theorem OwL.mono:∀{vs:List Value} {ys:List α} {h h':PH},Le h h'→OwL own vs ys h→OwL own vs ys h'
 | [],[],_,_,_,_=>trivial
 | v::vs,y::ys,_,_,l,⟨a,b,d,l1,l2,h1,h2⟩=>⟨a,b,d,l1.trans l,l2.trans l,h1,h2⟩
 | [],_::_,_,_,_,h=>h.elim
 | _::_,[],_,_,_,h=>h.elim
theorem OwL.append:∀{vs:List Value} {ys:List α} {vs2:List Value} {ys2:List α} {h:PH},sep (OwL own vs ys) (OwL own vs2 ys2) h→OwL own (vs++vs2) (ys++ys2) h
 | [],[],vs2,ys2,_,⟨a,b,_,_,l2,_,h⟩=>OwL.mono l2 h
 | v::vs,y::ys,vs2,ys2,h,hh=>sep_mono (fun _ h=>h) (fun _ h=>OwL.append h) (sep_assoc hh)
 | [],_::_,_,_,_,⟨_,_,_,_,_,h,_⟩=>h.elim
 | _::_,[],_,_,_,⟨_,_,_,_,_,h,_⟩=>h.elim
theorem st_lnil4{z:Value}{y:α}(h0:∀h,own z y h)(hs:St G R L w):St G R (OwL own [z,z,z,z] [y,y,y,y]::L) w:=st_emp (OwL.rep h0 4 _) hs
theorem st_some_o{α:Type}{f:Nat→α→HP}{b:Nat}{a:α}(h:St G R (rO f (pt b 0) (some a)::L) w):St G R (f b a::L) w:=by
 obtain ⟨b',h1⟩:=St.openHead (p:=fun b' k=>pt b 0=pt b' 0∧f b' a k) h
 obtain ⟨h2,h3⟩:=St.pureHead h1
 cases h2
 exact h3
theorem OwS.weak{h:PH}(hh:OwS true T sz en v q h):OwS false T sz en v q h:=by
 rcases hh with hh | ⟨b,o,c,cs,fr,e,hb,h1,h2,h3,h4,h5,_⟩
 ·exact .inl hh
 ·exact .inr ⟨b,o,c,cs,fr,e,hb,h1,h2,h3,h4,h5,fun h=>by cases h⟩
theorem st_weak(hs:St G R (OwS true T sz en v q::L) w):St G R (OwS false T sz en v q::L) w:=st_wk (fun _ h=>OwS.weak h) hs
def iand(a b:Int):Int:=i64 (((BitVec.ofInt 64 a &&& BitVec.ofInt 64 b).toNat:Nat):Int)
theorem bI_and{P:Program}{t:TypeId}(a b:Int):Bop P .and t (vI a) (vI b) (vI (iand a b)):=fun _ _ _=>by simp [vI,eqGuard,binOp,Op.intBits,IntKind.bits,iand,i64,IntKind.wrap_i64,-BitVec.toNat_and,-BitVec.toNat_or,-BitVec.toNat_xor,-BitVec.toNat_ofInt];rfl
theorem ou_if{φ:Prop}{u:Value}(h1:∀w,St x.G R L w→φ)(h:φ→OU x op ty E R L u R' L'):OU x op ty E R L u R' L' :=
 fun dst pos aft g a w K Q hf hs hl k=>h (h1 w hs) dst pos aft g a w K Q hf hs hl k
theorem ow_if{φ:Prop}{C:Value→PH→List HP→Prop}(h1:∀w,St x.G R L w→φ)(h:φ→OW x ks op ty E R L C):OW x ks op ty E R L C :=
 fun dst pos aft g a w K hf hs k=>h (h1 w hs) dst pos aft g a w K hf hs k
theorem OwS.one{h:PH}(hh:OwS ap T sz en v q h):v.oneCell'=true:=by
 obtain ⟨a,c,rfl⟩:=hh.len
 rfl
theorem RoS.one(h:RoS R v sz en q):v.oneCell'=true:=by obtain ⟨a,c,rfl,_⟩:=h;rfl
theorem RoN.one{l:List (List α)}(h:RoN R v sz en l):v.oneCell'=true:=by obtain ⟨hs,h,_⟩:=h;exact h.one
theorem OwL.one:∀{vs:List Value} {ys:List (List α)} {h:PH},OwL (OwS ap T sz en) vs ys h→∀u∈vs,u.oneCell'=true
 | [],[],_,_,u,hu=>by simp at hu
 | v::vs,y::ys,_,⟨a,b,_,_,_,h1,h2⟩,u,hu=>by
  rcases List.mem_cons.1 hu with rfl | hu
  ·exact h1.one
  ·exact OwL.one h2 u hu
 | [],_::_,_,h,_,_=>h.elim
 | _::_,[],_,h,_,_=>h.elim
theorem rO.one{α:Type}{f:Nat→α→HP}{o:Option α}{h:PH}(hh:rO f v o h):v.oneCell'=true:=by
 cases o with
 | none=>have:v=nl:=hh;subst this;rfl
 | some a=>obtain ⟨b,rfl,_⟩:=(hh:∃b,v=pt b 0∧f b a h);rfl
theorem one_o(k:Nat)(hk:L[k]? = some (OwS ap T sz en v q))(w:World)(hs:St G R L w):v.oneCell'=true:=by
 obtain ⟨h,hh,_⟩:=hs.get hk
 exact hh.one
theorem one_p{α:Type}{f:Nat→α→HP}{o:Option α}(k:Nat)(hk:L[k]? = some (rO f v o))(w:World)(hs:St G R L w):v.oneCell'=true:=by
 obtain ⟨h,hh,_⟩:=hs.get hk
 exact hh.one
theorem hd_o(k:Nat)(hk:L[k]? = some (OwS ap T sz en v q))(w:World)(hs:St G R L w):∃a c,v = .slice a q.length c:=by
 obtain ⟨h,hh,_⟩:=hs.get hk
 exact hh.len
theorem RoS.hd(h:RoS R v sz en q):∃a c,v = .slice a q.length c:=by obtain ⟨a,c,h,_⟩:=h;exact ⟨a,_,h⟩
theorem RoN.hd{l:List (List α)}(h:RoN R v sz en l):∃a c,v = .slice a l.length c:=by
 obtain ⟨hs,h,h2,_⟩:=h
 obtain ⟨a,c,h⟩:=h.hd
 exact ⟨a,c,by rw [h,h2]⟩
theorem hd_p{α:Type}{f:Nat→α→HP}{o:Option α}(k:Nat)(hk:L[k]? = some (rO f v o))(w:World)(hs:St G R L w):∃a,v = .pointer a:=by
 obtain ⟨h,hh,_⟩:=hs.get hk
 cases o with
 | none=>exact ⟨none,hh⟩
 | some a=>obtain ⟨b,h1,_⟩:=(hh:∃b,v=pt b 0∧f b a h);exact ⟨_,h1⟩
theorem RoN.ne{l:List (List α)}(h:RoN R v sz en l){i:Int}{y:List α}(hi:gi l i=some y):
  ∃b o cs T fr c u,v = .slice (some ⟨b,o,none⟩) l.length c∧R b=some (.cells (List.toArray cs) T fr)∧(cs.drop (o+i.toNat*1)).take 1=[u]∧(0≤i∧i<(l.length:Int))∧RoS R u sz en y:=by
 obtain ⟨hs,h1,h2,h3⟩:=h
 obtain ⟨hb,hl⟩:=gi_some hi
 have hlt:i.toNat<hs.length:=by rw [h2];exact (List.getElem?_eq_some_iff.1 hl).1
 have hg:gi hs i=some hs[i.toNat]:=by unfold gi;rw [if_pos hb.1];exact List.getElem?_eq_getElem hlt
 obtain ⟨b,o,cs,T,fr,c,hv,hR,hc,_⟩:=h1.ne hg
 exact ⟨b,o,cs,T,fr,c,hs[i.toNat],by rw [←h2];exact hv,hR,hc,hb,h3 _ _ _ (List.getElem?_eq_getElem hlt) hl⟩
theorem o_ixG{t e n:Nat}{y z:Operand}{i:Int}{cs:List Value}(hu:x.P.underlying t=some (.array n e))(hsz:∀w,(sizeOf e).run x.P w = .ok 1 w)(ha:∀w,(isAgg e).run x.P w = .ok false w)
  (hy:ev E y=some (.agg cs.toArray)) (hz:ev E z=some (vI i)) (hn:cs.length=n) (h:gi cs i=some u):OV x (.index t y z) ty E R L u :=
 ou_of fun _ _ _ _ a w hf hs=>⟨w,by
  obtain ⟨⟨h0,h1⟩,h2⟩:=gi_some h
  have hp:(part e cs.toArray (i.toNat*1)).run x.P w = .ok u w:=by
   simp [part,ha w,h2]
  have h3:i<(n:Int):=by omega
  simp only [Nat.mul_one] at hp
  simp [execOp,hf.ev hy,hf.ev hz,Instr.index,asIntOf,vI,run_underlying hu w,h0,h3,hsz w,hp],hs⟩
end
end Go.Proofs.YtpanhdnglicknaaGreat.Hw
