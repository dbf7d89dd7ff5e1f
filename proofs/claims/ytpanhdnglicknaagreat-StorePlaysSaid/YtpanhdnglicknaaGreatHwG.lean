import Derived.Test.YtpanhdnglicknaaGreatHwF
import Derived.WalkKit
import Derived.ProofKit
import Derived.OpenShut
import Derived.ShutString
import Derived.ChangeOld
import Derived.ChangeArms
import Derived.Below
import Derived.Carry
import Derived.SizedLaws
import Derived.ChangeShapes
import Derived.WideShapes
set_option linter.unusedSimpArgs false
set_option linter.unusedVariables false
namespace Go.Proofs.YtpanhdnglicknaaGreat.Hw
open Go Go.ChangeShapes Go.WideShapes Go.RowKit
abbrev mem(w:World):PH:=fun b=>w.heap[b]?
def Opn(P:Program)(t:TypeId){α:Type}(rel:PH→List Value→α→Prop):Prop :=
 ∀(H:Type) (enc:TypeId×Value→H) (w:World) (base:Nat) (spare:Nat→Bool) (held:Bool) (fuel:Nat) (cs:List Value) (x:DataW H×List MemPlace),
  DataW.trod enc P w base spare held fuel t cs=some x→(x.1.weights P t).all (· ≤ reachBytes)=true→∃a,rel (mem w) cs a
def iok(n:Int):Prop := -9223372036854775808≤n∧n<9223372036854775808
abbrev rE{α:Type}(en:α→List Value)(wf:PH→α→Prop):PH→List Value→α→Prop:=fun R cs a=>cs=en a∧wf R a
abbrev tr{α:Type}: PH→α→Prop:=fun _ _=>True
abbrev rI:=rE (fun a=>[vI a]) (fun _ a=>iok a)
abbrev rW:=rE (fun a=>[vW a]) tr
abbrev rD:=rE (fun a=>[vD a]) tr
abbrev rY:=rE (fun a=>[vY a]) tr
abbrev rB:=rE (fun a=>[vB a]) tr
def sok(s:Str):Prop:=s.length≤140737488351232
abbrev rS:=rE (fun a=>[vS a]) (fun _ a=>sok a)
section
variable {P:Program} {t:TypeId}
theorem wf_lo{k:IntKind}{n:Int}(h:(Lit.int k n).wf=true):k.min≤n∧n≤k.max:=by
 simpa [Lit.wf] using h
theorem opn_I(ht:P.underlying t=some (.int .i64)):Opn P t rI:=fun H enc w base spare held fuel cs x h _=>by
 obtain ⟨n,rfl,_,hw⟩:=DataW.trod_int ht h
 have:=wf_lo hw
 exact ⟨n,rfl,by simp [iok,IntKind.min,IntKind.max,IntKind.signed,IntKind.bits] at this ⊢;omega⟩
theorem opn_W(ht:P.underlying t=some (.int .u64)):Opn P t rW:=fun H enc w base spare held fuel cs x h _=>by
 obtain ⟨n,rfl,_,hw⟩:=DataW.trod_int ht h
 have:=wf_lo hw
 simp [IntKind.min,IntKind.max,IntKind.signed,IntKind.bits] at this
 refine ⟨UInt64.ofNat n.toNat,?_,trivial⟩
 simp only [vW,List.cons.injEq,and_true,Value.int.injEq,true_and,UInt64.toNat_ofNat']
 omega
theorem opn_S(ht:P.underlying t=some .string):Opn P t rS:=fun H enc w base spare held fuel cs x h hz=>by
 obtain ⟨s,rfl,rfl,hs⟩:=DataW.trod_string ht h
 refine ⟨s.data.toList,by simp [vS],?_⟩
 have hz':=of_decide_eq_true (by simpa [DataW.weights] using hz)
 simpa [reachBytes,sok] using hz'
def OpnF(P:Program)(total:Nat)(fs:List Field)(off:Nat){α:Type}(rel:PH→List Value→α→Prop):Prop :=
 ∀(H:Type) (enc:TypeId×Value→H) (w:World) (base:Nat) (spare:Nat→Bool) (held:Bool) (fuel:Nat) (cs:List Value) (xs:List (DataW H×List MemPlace)),
  cs.length=total→xs.length=fs.length→(∀(i:Nat) (f:Field),fs[i]? = some f→DataW.trod enc P w base spare held fuel f.type ((cs.drop f.offset).take (P.cellsOf f.type))=xs[i]?) →
  (DataW.weightsEach P (fs.map (·.type)) (xs.map (·.1))).all (· ≤ reachBytes)=true→∃a,rel (mem w) (cs.drop off) a
theorem opnF_nil{n:Nat}: OpnF P n [] n (rE (fun _:Unit=>[]) tr):=fun H enc w base spare held fuel cs xs hl _ _ _=>⟨(),by simp [hl],trivial⟩
theorem opnF_cons{total off n:Nat}{f:Field}{fs:List Field}{α β:Type}{e1:α→List Value}{w1:PH→α→Prop}{e2:β→List Value}{w2:PH→β→Prop}
  (ho:f.offset=off) (hn:P.cellsOf f.type=n) (h:Opn P f.type (rE e1 w1)) (hs:OpnF P total fs (off+n) (rE e2 w2)) :
  OpnF P total (f::fs) off (rE (fun x:α×β=>e1 x.1++e2 x.2) (fun R (x:α×β)=>w1 R x.1∧w2 R x.2)) :=
 fun H enc w base spare held fuel cs xs hl hx hf hz=>by
  match xs,hx with
  | x::xs,hx =>
   simp only [List.map_cons,DataW.weightsEach,List.all_append,Bool.and_eq_true] at hz
   obtain ⟨a,ha,ha'⟩:=h H enc w base spare held fuel _ x (hf 0 f rfl) hz.1
   obtain ⟨b,hb,hb'⟩:=hs H enc w base spare held fuel cs xs hl (by simpa using hx) (fun i g hg=>hf (i+1) g (by simpa using hg)) hz.2
   refine ⟨(a,b),?_,ha',hb'⟩
   rw [ho,hn] at ha
   show cs.drop off=e1 a++e2 b
   rw [←ha,←hb,←List.drop_drop,List.take_append_drop]
theorem opn_struct{fs:Array Field}{l:List Field}{n:Nat}{α:Type}{r:PH→List Value→α→Prop}(ht:P.underlying t=some (.struct fs))(hl:fs.toList=l)(hn:P.cellsOf t=n)
  (h:OpnF P n l 0 r):Opn P t r:=fun H enc w base spare held fuel cs x hx hz=>by
 obtain ⟨xs,m,rfl,rfl,hlen,hxl,hf⟩:=DataW.trod_struct ht hx
 subst hl
 simp only [DataW.weights,ht] at hz
 have:=h H enc w base spare held m cs xs (by rw [hlen,hn]) (by simpa using hxl) (fun i f hi=>hf i f (by simpa using hi)) hz
 simpa using this
theorem Opn.mono{α β:Type}{e1:α→List Value}{w1:PH→α→Prop}{e2:β→List Value}{w2:PH→β→Prop}(f:α→β)(h:Opn P t (rE e1 w1))(he:∀a,e1 a=e2 (f a))(hw:∀R a,w1 R a→w2 R (f a)):
  Opn P t (rE e2 w2) :=
 fun H enc w base spare held fuel cs x hx hz=>let ⟨a,ha,hk⟩:=h H enc w base spare held fuel cs x hx hz;⟨f a,ha.trans (he a),hw _ _ hk⟩
abbrev rL{α:Type}(sz:Nat)(en:α→List Value)(wf:PH→α→Prop)(bytes:Nat):PH→List Value→Value×List α→Prop :=
 rE (fun x=>[x.1]) fun R x=>RoS R x.1 sz en x.2∧(∀y∈x.2,wf R y)∧x.2.length*bytes≤reachBytes
theorem add_block(a:Addr)(k:Nat):(a.add k).block=a.block:=by unfold Addr.add;split <;> rfl
theorem add_off(a:Addr)(k:Nat):(a.add k).off=a.off+k:=by unfold Addr.add;split <;> simp_all
theorem cells_take{w:World}{base:Nat}{a:Addr}{n:Nat}{cs:List Value}(h:w.cells? base a n=some cs)(hn:0<n):
  ∃c T fr,w.heap[a.block]? = some (.cells c T fr)∧a.spot=none∧(c.toList.drop a.off).take n=cs:=by
 unfold World.cells? at h
 split at h
 case isFalse=>cases h
 have hl:=mapM_some_length h
 have hg:=fun i (hi:i<n)=>mapM_some_get h i i (by simp [hi])
 have h0:=hg 0 hn
 have hc0:∃v,cs[0]? = some v:=⟨cs[0]'(by simp at hl;omega),List.getElem?_eq_getElem _⟩
 obtain ⟨v0,hv0⟩:=hc0
 have e0:a.add 0=a:=by simp [Addr.add]
 rw [hv0,e0] at h0
 cases hb:w.heap[a.block]? with
 | none=>simp [World.cell?,hb] at h0
 | some o =>
  cases o <;> try (simp [World.cell?,hb] at h0;done)
  case cells c T fr =>
   have hs:a.spot=none:=by
    cases hs:a.spot with
    | none=>rfl
    | some z=>simp [World.cell?,hb,hs] at h0
   refine ⟨c,T,fr,rfl,hs,?_⟩
   apply List.ext_getElem?
   intro i
   by_cases hi:i<n
   ·have:=hg i hi
    have hsp:(a.add i).spot=none:=by unfold Addr.add;split <;> simp [hs]
    simp only [World.cell?,add_block,hb,add_off,hsp] at this
    rw [List.getElem?_take,if_pos hi,List.getElem?_drop,←this]
    simp
   ·rw [List.getElem?_take,if_neg hi,List.getElem?_eq_none (by simp at hl;omega)]
theorem opn_slice{e:TypeId}{α:Type}{en:α→List Value}{wf:PH→α→Prop}{n bytes:Nat}(ht:P.underlying t=some (.slice e))(hn:P.cellsOf e=n)(hp:0<n)(hb:P.bytesOf e=bytes)
  (h:Opn P e (rE en wf)):Opn P t (rL n en wf bytes):=fun H enc w base spare held fuel cs x hx hz=>by
 rcases DataW.trod_slice ht hx with ⟨rfl,_⟩ | ⟨a,len,cap,elems,rest,m,rfl,rfl,rfl,hb',hlc,hcm,hel,hget,_,_⟩
 ·exact ⟨(.slice none 0 0,[]),rfl,⟨none,0,rfl,.inl rfl⟩,by simp,by simp⟩
 ·simp only [DataW.weights,ht,List.all_cons,List.all_append,Bool.and_eq_true,List.length_map,decide_eq_true_eq] at hz
  obtain ⟨hz1,hz2,_⟩:=hz
  have hz3:∀z∈elems,(z.1.weights P e).all (· ≤ reachBytes)=true:=by
   clear hz1 hel hget hx
   induction elems with
   | nil=>simp
   | cons y ys ih =>
    simp only [List.map_cons,DataW.weightsAll,List.all_append,Bool.and_eq_true] at hz2
    intro z hz
    rcases List.mem_cons.1 hz with rfl | hz
    ·exact hz2.1
    ·exact ih hz2.2 z hz
  have key:∀i,i<len→∃y:α,wf (mem w) y∧∃c T fr,w.heap[a.block]? = some (.cells c T fr)∧(i=0→a.spot=none)∧(c.toList.drop (a.off+i*n)).take n=en y:=fun i hi=>by
   have hg:=hget i hi
   have hei:elems[i]? = some (elems[i]'(by omega)):=List.getElem?_eq_getElem _
   rw [hei] at hg
   obtain ⟨cs,hcs,htr⟩:=Option.bind_eq_some_iff.1 hg
   obtain ⟨y,hy,hw⟩:=h H enc w base spare held m cs _ htr (hz3 _ (List.getElem_mem _))
   rw [hn] at hcs
   obtain ⟨c,T,fr,e1,e2,e3⟩:=cells_take hcs hp
   rw [add_block] at e1
   rw [add_off] at e3
   exact ⟨y,hw,c,T,fr,e1,fun h0=>by subst h0;simpa [Addr.add] using e2,by rw [e3,hy]⟩
  have hbb:len*bytes≤reachBytes:=by
   rw [hb] at hz1
   exact Nat.le_trans (Nat.mul_le_mul_right _ (by omega)) hz1
  by_cases h0:len=0
  ·subst h0
   exact ⟨(.slice (some a) 0 cap,[]),rfl,⟨some a,cap,by simp,.inl rfl⟩,by simp,by simp⟩
  ·obtain ⟨y0,_,c,T,fr,hc,hs,_⟩:=key 0 (by omega)
   have key2:∀i,∃y:α,i<len→wf (mem w) y∧(c.toList.drop (a.off+i*n)).take n=en y:=fun i=>by
    by_cases hi:i<len
    ·obtain ⟨y,hw,c',T',fr',e1,_,e3⟩:=key i hi
     rw [hc] at e1
     injection e1 with e1
     injection e1 with e1
     subst e1
     exact ⟨y,fun _=>⟨hw,e3⟩⟩
    ·exact ⟨y0,fun h=>absurd h hi⟩
   let f:Nat→α:=fun i=>(key2 i).choose
   have hf:∀i,i<len→wf (mem w) (f i)∧(c.toList.drop (a.off+i*n)).take n=en (f i):=fun i=>(key2 i).choose_spec
   have ha:a=⟨a.block,a.off,none⟩:=by have:=hs rfl;cases a;simp_all
   refine ⟨(.slice (some a) len cap,(List.range len).map f),rfl,⟨some a,cap-len,by simp;omega,.inr ⟨a.block,a.off,c.toList,T,fr,by rw [←ha],by simpa [mem] using hc,?_⟩⟩,?_,by simpa using hbb⟩
   ·intro i y hy
    simp only [List.getElem?_map,Option.map_eq_some_iff] at hy
    obtain ⟨j,hj,rfl⟩:=hy
    have hil:i<len:=by
     rcases Nat.lt_or_ge i len with h | h
     ·exact h
     ·rw [List.getElem?_eq_none (by simpa using h)] at hj;cases hj
    rw [List.getElem?_range hil] at hj
    cases hj
    exact (hf i hil).2
   ·intro y hy
    obtain ⟨i,hi,rfl⟩:=List.mem_map.1 hy
    exact (hf i (by simpa using hi)).1
end
def Arg(P:Program)(t:TypeId){α:Type}(rel:PH→Value→α→Prop):Prop :=
 ∀(H:Type) (enc:TypeId×Value→H) (w:World) (base:Nat) (v:Value) (d:DataW H) (p:List MemPlace),
  Value.okWide P w .any base t v→DataW.Trod enc P w 0 (fun _=>true) true t v d p→(d.weights P t).all (· ≤ reachBytes)=true→∃a,rel (mem w) v a
section
variable {P:Program} {t:TypeId}
theorem arg_struct{fs:Array Field}{α:Type}{en:α→List Value}{wf:PH→α→Prop}(ht:P.underlying t=some (.struct fs))(h:Opn P t (rE en wf)):
  Arg P t (fun R v a=>v = .agg (en a).toArray∧wf R a):=fun H enc w base v d p ho ⟨fu,hh⟩ hz=>by
 obtain ⟨cs,rfl,_⟩:=okWide_struct ht ho
 obtain ⟨a,ha,hk⟩:=h H enc w 0 _ _ fu _ _ hh hz
 refine ⟨a,?_,hk⟩
 rw [←ha];simp [Value.cells]
theorem arg_slice{e:TypeId}{α:Type}{en:α→List Value}{wf:PH→α→Prop}{n bytes:Nat}(ht:P.underlying t=some (.slice e))(h:Opn P t (rL n en wf bytes)):
  Arg P t (fun R v l=>RoS R v n en l∧(∀y∈l,wf R y)∧l.length*bytes≤reachBytes):=fun H enc w base v d p ho ⟨fu,hh⟩ hz=>by
 obtain ⟨a,len,cap,rfl⟩:=okWide_slice ht ho
 obtain ⟨⟨v',l⟩,h1,h2,h3,h4⟩:=h H enc w 0 _ _ fu _ _ hh hz
 simp [Value.cells] at h1
 subst h1
 exact ⟨l,h2,h3,h4⟩
end
section
variable {H:Type} {enc:TypeId×Value→H} {P:Program}
theorem st_begin(W:World):St W (mem W) [] W:=⟨rfl,rfl,rfl,fun _ _ h=>h,fun _ _=>none,by simp,by simp⟩
theorem below_of{R':PH}{L':List HP}{W w:World}(hR:Le (mem W) R')(h:St W R' L' w):Below W.heap.size W w:=by
 have key:∀k,k<W.heap.size→w.heap[k]? = W.heap[k]? := fun k hk=>by
  have e:W.heap[k]? = some (W.heap[k]'hk):=Array.getElem?_eq_getElem hk
  rw [e]
  exact h.ro _ _ (hR _ _ e)
 refine ⟨h.os,h.tape,h.out,?_,key⟩
 rcases Nat.lt_or_ge w.heap.size W.heap.size with hl | hl
 ·have:=key w.heap.size hl
  rw [Array.getElem?_eq_none (Nat.le_refl _),Array.getElem?_eq_getElem hl] at this
  cases this
 ·exact hl
theorem trodAll_back(hl:laidOutB P=true){W W':World}(hb:Below W.heap.size W W'):∀{ts:List TypeId} {vs:List Value} {ds:List (DataW H)} {ps:List MemPlace},
  (ts.all fun t=>P.readableRec t&&decide (t<P.types.size))=true→DataW.TrodAll enc P W 0 (fun _=>true) true ts vs ds ps →
  DataW.TrodAll enc P W' 0 (fun b=>decide (b<W.heap.size)) true ts vs ds ps
 | [],_,_,_,_,h=>by obtain ⟨rfl,rfl,rfl⟩:=trodAll_nil h;rfl
 | t::ts,vs,ds,ps,ht,h=>by
  obtain ⟨v,vs,d,ds,p,q,rfl,rfl,rfl,h1,h2⟩:=trodAll_cons h
  simp only [List.all_cons,Bool.and_eq_true,decide_eq_true_eq] at ht
  refine ⟨p,q,Below.trod hl ht.1.1 ht.1.2 h1 hb ?_,trodAll_back hl hb ht.2 h2,rfl⟩
  obtain ⟨m,hm⟩:=h1
  exact DataW.trod_lt m _ _ _ hm
theorem law_lift{C:Checked}{os:Os}{f:FuncId}{fn:Func}{s:ChangeSpec}{tb:TypeId}
  (own:ownKnob C.prog.godebug=none) (started:os.Started) (noInit:C.prog.inits.idxOf? f=none) (hfn:C.prog.funcs[f]? = some fn)
  (witness:∃(w:World) (tape:Tape) (i:Input),w.os=os∧(w.forCall tape i).Shaped C.prog∧i.vars=[]∧Input.okWide C.prog (w.forCall tape i) .any w.heap.size f i ∧
   s.pre6 enc C.prog fn [] false (w.forCall tape i).memory i.args∧Assume.holds {} C.prog (lone (Frame.enter C.prog f i.args .normal) [] (w.forCall tape i)))
  (laid:laidOutB C.prog=true) (hts:(fn.params.toList.all fun t=>C.prog.readableRec t&&decide (t<C.prog.types.size))=true)
  (hs:s.vars=[])
  (hF:∀ds:List (DataW H),ds.length=fn.params.size→s.fn H ds = { results:=[.lit (.bool true)],args:=ds })
  (hres:fn.resultTypes = #[tb]) (hb:C.prog.underlying tb=some .bool)
  (contract:∀(W:World) (base:Nat) (args:List Value) (ds:List (DataW H)) (p:List MemPlace),
   (∀(j:Nat) t v,fn.params[j]? = some t→args.toArray[j]? = some v→Value.okWide C.prog W .any base t v) →
   DataW.TrodAll enc C.prog W 0 (fun _=>true) true fn.params.toList args ds p →
   (DataW.weightsEach C.prog fn.params.toList ds).all (· ≤ reachBytes)=true →
   CO C.prog f args W (mem W) [] (Ret fun u R' L'=>u=vB true)) :
  ReturnsInHanded {} C os f .any (s.pre6 enc C.prog fn [] false) (s.post enc C.prog fn false true false false):=by
 refine returnsInHanded_of_change_sized own started noInit hfn witness ?_
 intro W base args ds gs before hval hW _ hsz _
 have hW':=hW
 rw [hs] at hW
 obtain ⟨p,q,hA,hV,rfl,_,_⟩:=hW
 obtain ⟨rfl,rfl⟩:=trodVars_none hV
 have hsz':(DataW.weightsEach C.prog fn.params.toList ds).all (· ≤ reachBytes)=true:=by
  have e:s.plain.varTypes C.prog=[]:=by simp [ChangeSpec.plain,DataSpec.varTypes,hs]
  rw [e] at hsz
  simpa using hsz
 have h:=contract W base args.toList ds p (fun j t v h1 h2=>hval j t v h1 (by simpa using h2)) hA hsz' W (st_begin W)
 rw [Array.toArray_toList] at h
 refine h.mono fun e W' ⟨R',L',hR,⟨v,he,hv⟩,hst⟩ =>?_
 subst hv
 have bel:=below_of hR hst
 have hlen:ds.length=fn.params.size:=by
  have:∀{ts:List TypeId} {vs:List Value} {ds:List (DataW H)} {ps:List MemPlace},DataW.TrodAll enc C.prog W 0 (fun _=>true) true ts vs ds ps→ds.length=ts.length:=by
   intro ts
   induction ts with
   | nil=>intro vs ds ps h;obtain ⟨rfl,rfl,rfl⟩:=trodAll_nil h;rfl
   | cons t ts ih =>
    intro vs ds ps h
    obtain ⟨v,vs,d,ds,p,q,rfl,rfl,rfl,h1,h2⟩:=trodAll_cons h
    simp [ih h2]
  simpa using this hA
 refine ⟨_,he,ds,[],p++[],[],p,[],hW',?_,?_,?_,bel.frame _,fun h=>by cases h⟩
 ·rw [List.append_nil,hF ds hlen,hres]
  exact trodAll_mk1 (shut_bool hb true)
 ·rw [List.append_nil,hF ds hlen]
  exact trodAll_back laid bel hts hA
 ·rw [List.append_nil,hF ds hlen,hs]
  rfl
end
end Go.Proofs.YtpanhdnglicknaaGreat.Hw
