import Derived.Test.YtpanhdnglicknaaGreatHwJ
import Derived.Lib.Builder
import Derived.Lib.UnsafeStr
import Derived.Recover
set_option linter.unusedSimpArgs false
set_option linter.unusedVariables false
namespace Go.Proofs.YtpanhdnglicknaaGreat.Hw
open Go
section
variable {x:Cx} {ks:List KF} {E:Env} {R R':PH} {L L':List HP} {ops:Array Oper} {l:List Oper} {ty:TypeId} {v u:Value} {d:Nat} {T:Nat} {n:Int}
def pch(T:Nat)(n:Int):List PanicEntry:=[{ v := .iface T (.agg #[vI n]),recovered:=false }]
def PRet(T:Nat)(C:Value→PH→List HP→Prop)(D:Int→PH→List HP→Prop):Ending→PH→List HP→Prop :=
 fun e R' L'=>(∃v,e = .returned v∧C v R' L')∨∃n,e = .panicked (pch T n)∧D n R' L'
variable {α β:Type}
abbrev PK(T:Nat)(r:α⊕(Int×β))(C:α→Value→PH→List HP→Prop)(D:Int→β→PH→List HP→Prop):Ending→PH→List HP→Prop :=
 PRet T (fun u R' L'=>∃a,r = .inl a∧C a u R' L') (fun n R' L'=>∃o,r = .inr (n,o)∧D n o R' L')
theorem o_mf{f:FuncId}{caps:Array Operand}{vs:List Value}(ha:evs E caps.toList=some vs):OV x (.makeFunc (.func f) #[] caps) ty E R L (.func (.func f) #[] vs.toArray) :=
 ou_of fun _ _ _ _ a w hf hs=>⟨w,by
  have ha':caps.map a.eval=vs.toArray:=by
   have:=hf.evs ha
   apply Array.toList_inj.1
   simpa using this
  simp [execOp,ha',Instr.makeFunc],hs⟩
def Bld(T e:Nat)(b:Nat)(l:Str):HP:=fun h=>∃p v,(p=nl∨p=pt b 0)∧(l=[]→v = .slice none 0 0)∧h b=some (.cells #[p,v] T (0,0))∧OwS true e 1 eY v l (fun j=>if j=b then none else h j)
theorem st_split{G:World}{p q r:HP}(hq:∀h,r h→∃h1 h2,Dj h1 h2∧Le h1 h∧Le h2 h∧p h1∧q h2){w:World}(hs:St G R (r::L) w):St G R (p::q::L) w:=by
 obtain ⟨σ,a1,a2⟩:=hs.ex
 obtain ⟨b1,b2,b3⟩:=a1 0 r rfl
 obtain ⟨h1,h2,hd,l1,l2,hp,hq⟩:=hq _ b1
 refine ⟨hs.os,hs.tape,hs.out,hs.ro,fun i=>match i with | 0=>h1 | 1=>h2 | i+2=>σ (i+1),?_,?_⟩
 ·intro i z hz
  match i with
  | 0=>simp at hz;subst hz;exact ⟨hp,b2.le l1,(b3.symm.le l1).symm⟩
  | 1=>simp at hz;subst hz;exact ⟨hq,b2.le l2,(b3.symm.le l2).symm⟩
  | i+2=>exact a1 (i+1) z (by simpa using hz)
 ·intro i j hi hj hij
  have far:∀i,i<L.length→Dj (σ 0) (σ (i+1)):=fun i hi=>a2 0 (i+1) (by simp) (by simpa using hi) (by omega)
  match i,j with
  | 0,0=>exact absurd rfl hij
  | 1,1=>exact absurd rfl hij
  | 0,1=>exact hd
  | 1,0=>exact hd.symm
  | 0,j+2=>exact (far j (by simpa using hj)).le l1
  | 1,j+2=>exact (far j (by simpa using hj)).le l2
  | i+2,0=>exact ((far i (by simpa using hi)).le l1).symm
  | i+2,1=>exact ((far i (by simpa using hi)).le l2).symm
  | i+2,j+2=>exact a2 (i+1) (j+1) (by simpa using hi) (by simpa using hj) (by omega)
theorem st_merge{G:World}{p q r:HP}(hr:∀h1 h2,Dj h1 h2→p h1→q h2→r (fun b=>(h1 b).or (h2 b))){w:World}(hs:St G R (p::q::L) w):St G R (r::L) w:=by
 obtain ⟨σ,a1,a2⟩:=hs.ex
 obtain ⟨b1,b2,b3⟩:=a1 0 p rfl
 obtain ⟨c1,c2,c3⟩:=a1 1 q rfl
 have hd:=a2 0 1 (by simp) (by simp) (by omega)
 have or_none:∀b,((σ 0 b).or (σ 1 b))=none↔σ 0 b=none∧σ 1 b=none:=fun b=>by cases σ 0 b <;> simp
 refine ⟨hs.os,hs.tape,hs.out,hs.ro,fun i=>match i with | 0=>(fun b=>(σ 0 b).or (σ 1 b)) | i+1=>σ (i+2),?_,?_⟩
 ·intro i z hz
  match i with
  | 0 =>
   simp at hz;subst hz
   refine ⟨hr _ _ hd b1 c1,?_,?_⟩
   ·intro b o e
    have e':(σ 0 b).or (σ 1 b)=some o:=e
    cases h0:σ 0 b with
    | none=>rw [h0] at e';exact c2 b o (by simpa using e')
    | some o'=>rw [h0] at e';exact b2 b o (by rw [h0];simpa using e')
   ·intro b
    rcases b3 b with h | h
    ·exact .inl h
    ·rcases c3 b with h' | h'
     ·exact .inl h'
     ·exact .inr ((or_none b).2 ⟨h,h'⟩)
  | i+1=>exact a1 (i+2) z (by simpa using hz)
 ·intro i j hi hj hij
  have far:∀i,i<L.length→Dj (fun b=>(σ 0 b).or (σ 1 b)) (σ (i+2)):=fun i hi b=>by
   have e0:=a2 0 (i+2) (by simp) (by simpa using hi) (by omega) b
   have e1:=a2 1 (i+2) (by simp) (by simpa using hi) (by omega) b
   rcases e0 with h | h
   ·rcases e1 with h' | h'
    ·exact .inl ((or_none b).2 ⟨h,h'⟩)
    ·exact .inr h'
   ·exact .inr h
  match i,j with
  | 0,0=>exact absurd rfl hij
  | 0,j+1=>exact far j (by simpa using hj)
  | i+1,0=>exact (far i (by simpa using hi)).symm
  | i+1,j+1=>exact a2 (i+2) (j+2) (by simpa using hi) (by simpa using hj) (by omega)
theorem OwS.le{ap:Bool}{sz:Nat}{en:α→List Value}{q:List α}{h h':PH}(hh:OwS ap T sz en v q h)(hl:Le h h'):OwS ap T sz en v q h':=by
 rcases hh with hh | ⟨b,o,c,cs,fr,e,hb,r⟩
 ·exact .inl hh
 ·exact .inr ⟨b,o,c,cs,fr,e,hl _ _ hb,r⟩
theorem bld_new{G:World}{e b:Nat}{w:World}(hs:St G R (Blk b (.cells (List.toArray [nl,.slice none 0 0]) T (0,0))::L) w):St G R (Bld T e b []::L) w :=
 hs.head rfl rfl rfl fun k hk hh=>⟨k,⟨nl,.slice none 0 0,.inl rfl,fun _=>rfl,hk,.inl ⟨rfl,rfl⟩⟩,hh,fun b hb => .inl hb,fun _ _ _=>rfl⟩
theorem bld_open{G:World}{e b:Nat}{s:Str}{w:World}(hs:St G R (Bld T e b s::L) w):∃p v,(p=nl∨p=pt b 0)∧(s=[]→v = .slice none 0 0)∧St G R (Blk b (.cells (List.toArray [p,v]) T (0,0))::OwS true e 1 eY v s::L) w:=by
 have h0:St G R ((fun k=>∃p,(fun p k=>∃v,(fun v k=>(p=nl∨p=pt b 0)∧(s=[]→v = .slice none 0 0)∧k b=some (.cells #[p,v] T (0,0))∧OwS true e 1 eY v s (fun j=>if j=b then none else k j)) v k) p k)::L) w:=hs
 obtain ⟨p,h1⟩:=h0.openHead
 obtain ⟨v,h2⟩:=h1.openHead
 obtain ⟨hp,h3⟩:=h2.pureHead
 obtain ⟨hv,h4⟩:=h3.pureHead
 refine ⟨p,v,hp,hv,st_split (fun h hh=>⟨fun j=>if j=b then some (.cells #[p,v] T (0,0)) else none,fun j=>if j=b then none else h j,?_,?_,?_,?_,hh.2⟩) h4⟩
 ·intro j;by_cases e:j=b <;> simp [e]
 ·intro j o e;dsimp only at e;split at e
  ·rename_i h';subst h';rw [hh.1];exact e
  ·cases e
 ·intro j o e;dsimp only at e;split at e
  ·cases e
  ·exact e
 ·simp [Blk]
theorem bld_close{G:World}{e b:Nat}{s:Str}{p:Value}{w:World}(hp:p=nl∨p=pt b 0)(hv:s=[]→v = .slice none 0 0)(hs:St G R (Blk b (.cells (List.toArray [p,v]) T (0,0))::OwS true e 1 eY v s::L) w):St G R (Bld T e b s::L) w :=
 st_merge (fun h1 h2 hd k1 k2=>⟨p,v,hp,hv,by have:h1 b=_:=k1;simp [this],k2.le fun j o e=>by
  have hj:j≠b:=by
   rintro rfl
   have:h1 j=_:=k1
   rcases hd j with h | h
   ·rw [this] at h;cases h
   ·rw [e] at h;cases h
  rw [if_neg hj]
  rcases hd j with h' | h'
  ·simp [h',e]
  ·rw [e] at h';cases h'⟩) hs
theorem o_tu{s dd t:TypeId}{j:TypeInfo}{y:Operand}{b off:Nat}{cs:List Value}{fr:Nat×Nat}(k:Nat)(hs:x.P.underlying s=some (.pointer t))(hd:x.P.underlying dd=some .unsafePointer)(ht:x.P.info? t=some j)(hj:j.size≠0)
  (hy:ev E y=some (pt b off)) (hk:L[k]? = some (Blk b (.cells (List.toArray cs) T fr))) (ho:Nat.blt off cs.length=true):OV x (.convert s dd y) ty E R L (pt b off) :=
 ou_of fun _ _ _ _ a w hf hst=>⟨w,by
  have hb:=hst.blk hk
  have hsh:w.shape? (⟨b,off,none⟩:Addr).block=some (T,cs.length):=by simp [World.shape?,hb]
  have:=Lib.run_to_unsafe (P:=x.P) w ⟨b,off,none⟩ hs hd ht hj hsh (by simpa using ho)
  simp [execOp,hf.ev hy,this],hst⟩
theorem o_fu{s dd t:TypeId}{j:TypeInfo}{y:Operand}{b off:Nat}{cs:List Value}{fr:Nat×Nat}(k:Nat)(hs:x.P.underlying s=some .unsafePointer)(hd:x.P.underlying dd=some (.pointer t))(ht:x.P.info? t=some j)
  (hy:ev E y=some (pt b off)) (hk:L[k]? = some (Blk b (.cells (List.toArray cs) T fr))) (hl:liesAt x.P x.P.depth T (cs.length/x.P.cellsOf T) off t 1=true):OV x (.convert s dd y) ty E R L (pt b off) :=
 ou_of fun _ _ _ _ a w hf hst=>⟨w,by
  have hb:=hst.blk hk
  have hsh:w.shape? (⟨b,off,none⟩:Addr).block=some (T,cs.length):=by simp [World.shape?,hb]
  have:=Lib.run_from_unsafe (P:=x.P) w ⟨b,off,none⟩ hs hd ht hsh hl
  simp [execOp,hf.ev hy,this],hst⟩
theorem o_same{f:FuncId}{y:Operand}{ats:Array TypeId}(hc:∀v w,(callFunc f #[v]).run x.P w = .ok (.value v) w)(hy:ev E y=some v):OV x (.call ⟨.value (.func f),#[y],ats⟩) ty E R L v :=
 ou_of fun _ _ _ _ a w hf hst=>⟨w,by
  have h0:a.eval (.func f) = .func (.func f) #[] #[]:=rfl
  simp [execOp,resolve,h0,hf.ev hy,Deferred.ofValue,invoke,hc],hst⟩
theorem bP_same{P:Program}{tp te:TypeId}{j:TypeInfo}{b off:Nat}(hp:P.underlying tp=some (.pointer te))(hte:P.info? te=some j):Bop P .neq tp (pt b off) (pt b off) (vB false):=fun _ _ w=>by
 have:=Lib.run_neq_ptr_same (P:=P) w ⟨b,off,none⟩ hp hte
 simp [eqGuard,this,vB]
theorem o_sd{t:TypeId}{y:Operand}{e:Nat}{s:Str}(k:Nat)(hy:ev E y=some v)(hk:L[k]? = some (OwS true e 1 eY v s))(hne:s≠[]):OV x (.call ⟨.builtin .unsafeSliceData,#[y],#[t]⟩) ty E R L (pt (sb v) 0) :=
 ou_of fun _ _ _ _ a w hf hst=>⟨w,by
  obtain ⟨h,hh,hw⟩:=hst.get hk
  rcases hh with ⟨rfl,rfl⟩ | ⟨b,o,c,cs,fr,rfl,hb,_,_,_,hq,_,hap⟩
  ·exact absurd rfl hne
  ·obtain ⟨rfl,_,_⟩:=hap rfl
   have hl:0<s.length:=by cases s <;> simp_all
   have:=Lib.run_unsafeSliceData_row (P:=x.P) w #[t] ty ⟨b,0,none⟩ s.length c (by omega)
   simp [execOp,resolve,hf.ev hy,invoke,builtin,this,sb],hst⟩
theorem o_us{pT it:TypeId}{y z:Operand}{e:Nat}{s:Str}(hp:x.P.underlying pT=some (.pointer e))(hc:x.P.cellsOf e=1)(hy:ev E y=some (pt (sb v) 0))(hz:ev E z=some (vI s.length))
  (hL:L=OwS true e 1 eY v s::L') (hne:s≠[]):OU x (.call ⟨.builtin .unsafeString,#[y,z],#[pT,it]⟩) ty E R L (vS s) R L':=by
 subst hL
 refine ou_of fun _ _ _ _ a w hf hst =>?_
 obtain ⟨h,hh,hw⟩:=hst.get (i:=0) rfl
 rcases hh with ⟨rfl,rfl⟩ | ⟨b,o,c,cs,fr,rfl,hb,_,he,hl,hq,hm,hap⟩
 ·exact absurd rfl hne
 ·obtain ⟨rfl,rfl,hcl⟩:=hap rfl
  have hbw:=hw _ _ hb
  have hsh:w.shape? b=some (e,cs.length):=by simp [World.shape?,hbw]
  have hrun:=Lib.run_unsafeString_row (P:=x.P) w pT it ty e hp hc b cs.length hsh s hne (by omega) (by simp [maxLen] at hm;omega) (fun j u hj=>by
   have h1:=he j u hj
   have h2:((cs.drop (0+j*1)).take 1)[0]? = some (vY u):=by rw [h1];rfl
   simp [List.getElem?_take] at h2
   rw [add_eq]
   simp [World.cell?,hbw,h2,vY])
  refine ⟨w.freeze ⟨b,0,none⟩ s.length,by simp [execOp,resolve,hf.ev hy,hf.ev hz,invoke,builtin,sb,vI,hrun,vS],?_⟩
  have hfz:∀k,k≠b→(w.freeze ⟨b,0,none⟩ s.length).heap[k]? = w.heap[k]? := fun k hk=>by
   unfold World.freeze
   split
   ·rfl
   ·simp only [Array.getElem?_modify];rw [if_neg (fun e=>hk e.symm)]
  have hos:(w.freeze ⟨b,0,none⟩ s.length).os=w.os∧(w.freeze ⟨b,0,none⟩ s.length).tape=w.tape∧(w.freeze ⟨b,0,none⟩ s.length).output=w.output:=by
   unfold World.freeze;split <;> exact ⟨rfl,rfl,rfl⟩
  exact St.drop (p:=fun _=>True) (hst.head hos.1 hos.2.1 hos.2.2 fun k hk hkw=>⟨fun _=>none,trivial,(fun _ _ h=>by cases h),(fun _ h=>absurd rfl h),fun j hj hkj=>hfz j (by
   rintro rfl
   rcases hk with ⟨h1,_⟩ | ⟨b',o',c',cs',fr',h1,h2,_⟩
   ·cases h1
   ·simp only [Value.slice.injEq,Option.some.injEq,Addr.mk.injEq] at h1
    obtain ⟨⟨rfl,_⟩,_⟩:=h1
    rw [hkj] at h2;cases h2)⟩)
theorem o_sdn{t:TypeId}{y:Operand}(hy:ev E y=some (.slice none 0 0)):OV x (.call ⟨.builtin .unsafeSliceData,#[y],#[t]⟩) ty E R L nl :=
 ou_of fun _ _ _ _ a w hf hst=>⟨w,by
  have:=Lib.run_unsafeSliceData_nil (P:=x.P) w #[t] ty 0 0
  simp [execOp,resolve,hf.ev hy,invoke,builtin,this],hst⟩
theorem o_usn{pT it:TypeId}{y z:Operand}(hy:ev E y=some nl)(hz:ev E z=some (vI 0)):OV x (.call ⟨.builtin .unsafeString,#[y,z],#[pT,it]⟩) ty E R L (vS []) :=
 ou_of fun _ _ _ _ a w hf hst=>⟨w,by
  have:=Lib.run_unsafeString_none (P:=x.P) w pT it ty none
  simp [execOp,resolve,hf.ev hy,hf.ev hz,invoke,builtin,vI,this,vS];rfl,hst⟩
theorem o_lenN{t e:TypeId}{y:Operand}(hu:x.P.underlying t=some (.slice e))(hy:ev E y=some (.slice none 0 0)):OV x (.call ⟨.builtin .len,#[y],#[t]⟩) ty E R L (vI 0) :=
 ou_of fun _ _ _ _ a w hf hs=>⟨w,by
  have hl:(Builtin.len_ #[t] ty #[.slice none 0 0]).run x.P w = .ok (vI 0) w:=by
   simp [Builtin.len_,run_underlying hu w,goInt,vI]
  simp [execOp,resolve,hf.ev hy,invoke,builtin,hl],hs⟩
end
end Go.Proofs.YtpanhdnglicknaaGreat.Hw
