import Derived.Test.YtpanhdnglicknaaGreatHwD
import Derived.KernelRfl
set_option linter.unusedSimpArgs false
set_option linter.unusedVariables false
namespace Go.Proofs.YtpanhdnglicknaaGreat.Hw
open Go
def lt{α β:Type}(a:α)(f:α→β):β:=f a
theorem ltx{α β:Type}{a:α}{f:α→β}{y:β}(h:lt a f=y):∃r,a=r∧f r=y:=⟨a,rfl,h⟩
theorem bs{α β:Type}{a:Option α}{f:α→Option β}{y:β}(h:Option.bind a f=some y):∃r,a=some r∧f r=some y:=Option.bind_eq_some_iff.1 h
theorem ig{p:Prop}[Decidable p]{α:Type}{a:Option α}{y:α}(h:(if p then a else none)=some y):p∧a=some y:=by
 by_cases hp:p
 ·rw [if_pos hp] at h;exact ⟨hp,h⟩
 ·rw [if_neg hp] at h;cases h
theorem ift{b:Bool}{α:Type}{u v y:α}(h:(if b then u else v)=y)(hb:b=true):u=y:=by subst hb;exact h
theorem iff_{b:Bool}{α:Type}{u v y:α}(h:(if b then u else v)=y)(hb:b=false):v=y:=by subst hb;exact h
def om{α β:Type}(o:Option α)(n:β)(f:α→β):β:=match o with
 | none=>n
 | some a=>f a
theorem om_n{α β:Type}{o:Option α}{n y:β}{f:α→β}(h:om o n f=y)(ho:o=none):n=y:=by subst ho;exact h
theorem om_s{α β:Type}{o:Option α}{n y:β}{f:α→β}{a:α}(h:om o n f=y)(ho:o=some a):f a=y:=by subst ho;exact h
theorem nbf{b:Bool}(h:b=true):(!b)=false:=by subst h;rfl
theorem nbt{b:Bool}(h:b=false):(!b)=true:=by subst h;rfl
def gi{α:Type}(l:List α)(i:Int):Option α:=if 0≤i then l[i.toNat]? else none
theorem gi_some{α:Type}{l:List α}{i:Int}{x:α}(h:gi l i=some x):(0≤i∧i<(l.length:Int))∧l[i.toNat]? = some x:=by
 unfold gi at h
 split at h
 ·have:i.toNat<l.length:=by
   rcases Nat.lt_or_ge i.toNat l.length with q | q
   ·exact q
   ·rw [List.getElem?_eq_none q] at h;cases h
  exact ⟨⟨by assumption,by omega⟩,h⟩
 ·cases h
abbrev Bk(b T:Nat)(cs:List Value):HP:=Blk b (.cells cs.toArray T (0,0))
def rO{α:Type}(f:Nat→α→HP)(v:Value):Option α→HP
 | none=>fun _=>v=nl
 | some a=>fun h=>∃b,v=pt b 0∧f b a h
def pickT(n:Nat)(idx:List Nat)(L:List HP):List HP:=(idx.filterMap fun i=>if i<n then L[i]? else none)++L.drop n
section
variable {G:World} {R:PH} {L L':List HP} {w:World}
def okIdx(n:Nat)(idx:List Nat):Bool:=idx.all (fun i=>Nat.blt i n)&&decide idx.Nodup
theorem fm_idx{α:Type}(n:Nat)(L:List α)(hn:n≤L.length):∀(idx:List Nat),(∀i∈idx,i<n) →
  (idx.filterMap fun i=>if i<n then L[i]? else none).length=idx.length ∧
  ∀(k:Nat) (q:α),(idx.filterMap fun i=>if i<n then L[i]? else none)[k]? = some q→∃i:Nat,idx[k]? = some i∧i<n∧L[i]? = some q:=by
 intro idx
 induction idx with
 | nil=>intro _;exact ⟨rfl,fun k q h=>by simp at h⟩
 | cons a idx ih =>
  intro hi
  obtain ⟨h1,h2⟩:=ih fun i hm=>hi i (by simp [hm])
  have ha:a<n:=hi a (by simp)
  have e:(if a<n then L[a]? else none)=some (L[a]'(by omega)):=by rw [if_pos ha,List.getElem?_eq_getElem (by omega)]
  refine ⟨by simp only [List.filterMap_cons,e,List.length_cons,h1],?_⟩
  intro k q h
  simp only [List.filterMap_cons,e] at h
  cases k with
  | zero =>
   simp only [List.getElem?_cons_zero,Option.some.injEq] at h
   exact ⟨a,by simp,ha,by rw [←h,List.getElem?_eq_getElem (by omega)]⟩
  | succ k=>simpa using h2 k q (by simpa using h)
theorem st_pk(n:Nat)(idx:List Nat)(ho:okIdx n idx=true)(h:St G R L w)(hn:Nat.ble n L.length=true:=by rfl):St G R (pickT n idx L) w:=by
 unfold okIdx at ho
 simp only [Bool.and_eq_true,List.all_eq_true,decide_eq_true_eq] at ho
 have hlt:∀i∈idx,i<n:=fun i hi=>by simpa using ho.1 i hi
 have hn':=Nat.le_of_ble_eq_true hn
 obtain ⟨h1,h2⟩:=fm_idx n L hn' idx hlt
 refine h.pick (idx++(List.range (L.length-n)).map (· + n)) ?_ ?_
 ·refine List.nodup_append.2 ⟨ho.2,List.Pairwise.map _ (fun a b (hab:a≠b)=>by simpa using hab) List.nodup_range,?_⟩
  intro a ha b hb
  simp only [List.mem_map,List.mem_range] at hb
  obtain ⟨c,_,rfl⟩:=hb
  have:=hlt a ha
  omega
 ·intro k q hk
  unfold pickT at hk
  rcases Nat.lt_or_ge k idx.length with hk' | hk'
  ·rw [List.getElem?_append_left (by omega)] at hk
   obtain ⟨i,a,b,c⟩:=h2 k q hk
   exact ⟨i,by rw [List.getElem?_append_left hk'];exact a,c⟩
  ·rw [List.getElem?_append_right (by omega)] at hk
   rw [h1,List.getElem?_drop] at hk
   have hlt2:n+(k-idx.length)<L.length:=by
    rcases Nat.lt_or_ge (n+(k-idx.length)) L.length with x | x
    ·exact x
    ·rw [List.getElem?_eq_none x] at hk;cases hk
   refine ⟨n+(k-idx.length),?_,hk⟩
   rw [List.getElem?_append_right hk',List.getElem?_map,List.getElem?_range (by omega)]
   simp;omega
theorem id_(w:World)(h:St G R L w):St G R L w:=h
theorem y_:True:=trivial
theorem pk(n:Nat)(idx:List Nat)(ho:okIdx n idx=true:=by decide)(hn:Nat.ble n L.length=true:=by rfl)(w:World)(h:St G R L w):St G R (pickT n idx L) w:=st_pk n idx ho h hn
theorem mv1{p0 p1:HP}(h:St G R (p0::p1::L) w):St G R (p1::p0::L) w:=st_pk 2 [1,0] (by decide) h
theorem mv2{p0 p1 p2:HP}(h:St G R (p0::p1::p2::L) w):St G R (p2::p0::p1::L) w:=st_pk 3 [2,0,1] (by decide) h
theorem mv3{p0 p1 p2 p3:HP}(h:St G R (p0::p1::p2::p3::L) w):St G R (p3::p0::p1::p2::L) w:=st_pk 4 [3,0,1,2] (by decide) h
theorem mv4{p0 p1 p2 p3 p4:HP}(h:St G R (p0::p1::p2::p3::p4::L) w):St G R (p4::p0::p1::p2::p3::L) w:=st_pk 5 [4,0,1,2,3] (by decide) h
theorem mv5{p0 p1 p2 p3 p4 p5:HP}(h:St G R (p0::p1::p2::p3::p4::p5::L) w):St G R (p5::p0::p1::p2::p3::p4::L) w:=st_pk 6 [5,0,1,2,3,4] (by decide) h
theorem mv6{p0 p1 p2 p3 p4 p5 p6:HP}(h:St G R (p0::p1::p2::p3::p4::p5::p6::L) w):St G R (p6::p0::p1::p2::p3::p4::p5::L) w:=st_pk 7 [6,0,1,2,3,4,5] (by decide) h
theorem mv7{p0 p1 p2 p3 p4 p5 p6 p7:HP}(h:St G R (p0::p1::p2::p3::p4::p5::p6::p7::L) w):St G R (p7::p0::p1::p2::p3::p4::p5::p6::L) w:=st_pk 8 [7,0,1,2,3,4,5,6] (by decide) h
theorem mv8{p0 p1 p2 p3 p4 p5 p6 p7 p8:HP}(h:St G R (p0::p1::p2::p3::p4::p5::p6::p7::p8::L) w):St G R (p8::p0::p1::p2::p3::p4::p5::p6::p7::L) w:=st_pk 9 [8,0,1,2,3,4,5,6,7] (by decide) h
theorem mv9{p0 p1 p2 p3 p4 p5 p6 p7 p8 p9:HP}(h:St G R (p0::p1::p2::p3::p4::p5::p6::p7::p8::p9::L) w):St G R (p9::p0::p1::p2::p3::p4::p5::p6::p7::p8::L) w:=st_pk 10 [9,0,1,2,3,4,5,6,7,8] (by decide) h
theorem mv10{p0 p1 p2 p3 p4 p5 p6 p7 p8 p9 p10:HP}(h:St G R (p0::p1::p2::p3::p4::p5::p6::p7::p8::p9::p10::L) w):St G R (p10::p0::p1::p2::p3::p4::p5::p6::p7::p8::p9::L) w:=st_pk 11 [10,0,1,2,3,4,5,6,7,8,9] (by decide) h
theorem mv11{p0 p1 p2 p3 p4 p5 p6 p7 p8 p9 p10 p11:HP}(h:St G R (p0::p1::p2::p3::p4::p5::p6::p7::p8::p9::p10::p11::L) w):St G R (p11::p0::p1::p2::p3::p4::p5::p6::p7::p8::p9::p10::L) w:=st_pk 12 [11,0,1,2,3,4,5,6,7,8,9,10] (by decide) h
theorem st_wk{p p':HP}(hp:∀h,p h→p' h)(h:St G R (p::L) w):St G R (p'::L) w :=
 h.head rfl rfl rfl fun k hk hh=>⟨k,hp k hk,hh,fun b hb => .inl hb,fun _ _ _=>rfl⟩
theorem st_emp{p:HP}(hp:p fun _=>none)(h:St G R L w):St G R (p::L) w :=
 h.add rfl rfl rfl (fun _ _=>rfl) (k:=fun _=>none) hp (fun _ _ e=>by cases e) fun _ e=>absurd rfl e
theorem St.openHead{α:Type}{p:α→HP}(h:St G R ((fun k=>∃a,p a k)::L) w):∃a,St G R (p a::L) w:=by
 obtain ⟨k,⟨a,ha⟩,_⟩:=h.get (i:=0) rfl
 obtain ⟨σ,h1,h2⟩:=h.ex
 obtain ⟨⟨a,ha⟩,q⟩:=h1 0 _ rfl
 refine ⟨a,h.os,h.tape,h.out,h.ro,σ,?_,h2⟩
 intro i r hi
 cases i with
 | zero=>simp only [List.getElem?_cons_zero,Option.some.injEq] at hi;subst hi;exact ⟨ha,q⟩
 | succ i=>exact h1 (i+1) r (by simpa using hi)
theorem St.pureHead{φ:Prop}{p:HP}(h:St G R ((fun k=>φ∧p k)::L) w):φ∧St G R (p::L) w:=by
 obtain ⟨k,⟨a,_⟩,_⟩:=h.get (i:=0) rfl
 exact ⟨a,st_wk (fun _ hk=>hk.2) h⟩
theorem st_none{α:Type}{f:Nat→α→HP}(h:St G R L w):St G R (rO f nl none::L) w:=st_emp rfl h
theorem st_some{α:Type}{f:Nat→α→HP}{b:Nat}{a:α}(h:St G R (f b a::L) w):St G R (rO f (pt b 0) (some a)::L) w :=
 st_wk (fun _ hk=>⟨b,rfl,hk⟩) h
end
section
variable {x:Cx} {ks ks':List KF} {E E':Env} {R R':PH} {L L':List HP} {c d:Code} {ops:Array Oper} {l:List Oper} {e:Exit} {op:Op} {ty:TypeId}
 {v u:Value} {dd:Nat} {C:Value→PH→List HP→Prop} {pos:String} {aft:Array Edge}
theorem co_ofN{P:Program}{f:FuncId}{fn:Func}{c:Code}{args:List Value}{G:World}{R:PH}{L:List HP}{K:Ending→PH→List HP→Prop}{N:Nat}
  (hf:P.funcs[f]? = some fn) (hb:fn.body=some c) (hN:max fn.ntmps args.length=N)
  (h:CD ⟨P,fn,G,R,N,K,[],.fn⟩ c [] (argE 0 args) R L):CO P f args G R L K:=by
 subst hN;exact co_of hf hb h
theorem evs0:evs E []=some []:=rfl
theorem evs1{y:Operand}{ys:List Operand}{vs:List Value}(h:ev E y=some v)(hs:evs E ys=some vs):evs E (y::ys)=some (v::vs):=by simp [evs,h,hs]
theorem ex_sub(hE:Sub E E')(h:EX x e ks E' R L):EX x e ks E R L:=fun a w hf hs=>h a w (hf.sub hE) hs
theorem cd_by(b:Bool)(h1:b=true→CD x c ks E R L)(h2:b=false→CD x c ks E R L):CD x c ks E R L:=by
 cases b
 ·exact h2 rfl
 ·exact h1 rfl
theorem cd_opt{α:Type}{f:Nat→α→HP}{pv:Value}{o:Option α}(h0:o=none→pv=nl→CD x c ks E R L)
  (h1:∀a b,o=some a→pv=pt b 0→CD x c ks E R (f b a::L)):CD x c ks E R (rO f pv o::L):=fun ac w hf hs=>by
 cases o with
 | none =>
  obtain ⟨k,hk,_⟩:=hs.get (i:=0) rfl
  exact h0 rfl hk ac w hf hs.drop
 | some a =>
  have hs':St x.G R ((fun k=>∃b,pv=pt b 0∧f b a k)::L) w:=hs
  obtain ⟨b,h2⟩:=St.openHead hs'
  obtain ⟨hb,h3⟩:=St.pureHead h2
  exact h1 a b rfl hb ac w hf h3
theorem cd_join(hK:EX x .normal ks E' R L')(h:EX x .normal ks E' R L'→CD x c ks E R L):CD x c ks E R L:=h hK
theorem cd_joinS{α β:Type}{p:α⊕β}{Ef:α→Env}{Lf:α→List HP}(hK:∀q,p = .inl q→EX x .normal ks (Ef q) R (Lf q))
  (h:(∀q,p = .inl q→EX x .normal ks (Ef q) R (Lf q))→CD x c ks E R L):CD x c ks E R L:=h hK
theorem cd_loop{σ:Type}{M:Nat→σ→Prop}{Ef:σ→Env}{Lf:σ→List HP}(k:Nat)(s0:σ)(hM:M k s0)(hE:Sub E (Ef s0))
  (hL:∀w,St x.G R L w→St x.G R (Lf s0) w) (h0:∀s,¬M 0 s)
  (hs:∀k s,M (k+1) s→CD x c (.lp (fun a w=>∃s',M k s'∧Fr x.N x.D (Ef s') a∧St x.G R (Lf s') w)::ks) (Ef s) R (Lf s)):CD x (.loop c) ks E R L :=
 fun a w hf hst=>c_loop M Ef (fun _=>R) Lf h0 hs k s0 hM a w (hf.sub hE) (hL w hst)
theorem r_c{g:Option (Nat×Bool)}{L2:List HP}(h:OSW x ops ks ⟨some dd,op,ty,pos,aft,g⟩ E R L (fun u R' L'=>u=v∧R'=R∧L'=L2))
  (k:RL x ops ks l ((dd,v)::E) R L2) (hd:Nat.blt dd x.N=true:=by rfl):RL x ops ks (⟨some dd,op,ty,pos,aft,g⟩::l) E R L :=
 r_sw h (fun u R' L' _ ⟨h1,h2,h3⟩=>by subst h1;subst h2;subst h3;exact k) hd
theorem o_callq{f:FuncId}{args:Array Operand}{ats:Array TypeId}{vs:List Value}(hc:Ca x.P f)(ha:evs E args.toList=some vs)
  (h:CO x.P f vs x.G R L (Ret fun u R' L'=>u=v∧R'=R∧L'=L)):OV x (.call ⟨.value (.func f),args,ats⟩) ty E R L v:=fun dst pos aft g a w K Q hf hs hl k=>by
 have ha':args.map a.eval=vs.toArray:=by
  have:=hf.evs ha
  apply Array.toList_inj.1
  simpa using this
 have hr:(execOp a.eval ⟨dst,.call ⟨.value (.func f),args,ats⟩,ty,pos,aft,g⟩).run x.P w = .ok (.enter f vs.toArray) w:=by
  have h0:a.eval (.func f) = .func (.func f) #[] #[]:=rfl
  simp [execOp,resolve,ha',h0,Deferred.ofValue,invoke,hc _ w]
 refine oWP_enter hr (h w hs) fun e w' q =>?_
 obtain ⟨R',L',h1,⟨v',e1,h2,h3,h4⟩,h5⟩:=q
 subst e1;subst h2;subst h3;subst h4;exact k w' h5
def Cv(P:Program)(s d:TypeId)(a b:Value):Prop:=∀w,(convert s d a).run P w = .ok b w
theorem o_cv{y:Operand}{s d:TypeId}{a:Value}(hy:ev E y=some a)(h:Cv x.P s d a v):OV x (.convert s d y) ty E R L v :=
 ou_of fun _ _ _ _ ac w hf hs=>⟨w,by simp [execOp,hf.ev hy,h w],hs⟩
def evp(E:Env):List (Nat×Operand)→Option (List (Nat×Value))
 | []=>some []
 | (i,y)::ys=>match ev E y,evp E ys with
  | some v,some vs=>some ((i,v)::vs)
  | _,_=>none
theorem evp_sound{N:Nat}{D:List Deferred}{a:Act}(hf:Fr N D E a):∀{ps:List (Nat×Operand)} {vs:List (Nat×Value)},evp E ps=some vs→ps.map (fun p=>(p.1,a.eval p.2))=vs
 | [],vs,e=>by simp [evp] at e;simp [e]
 | (i,y)::ys,vs,e=>by
  simp only [evp] at e
  cases e1:ev E y with
  | none=>simp [e1] at e
  | some v =>
   cases e2:evp E ys with
   | none=>simp [e1,e2] at e
   | some us =>
    simp only [e1,e2,Option.some.injEq] at e
    subst e
    simp [hf.ev e1,evp_sound hf e2]
theorem o_bld{t:TypeId}{ps:Array (Nat×Operand)}{vs:List (Nat×Value)}(cs:List Value)(hp:evp E ps.toList=some vs)
  (h:∀w,(Instr.build t vs.toArray).run x.P w = .ok (.agg cs.toArray) w):OV x (.build t ps) ty E R L (.agg cs.toArray) :=
 ou_of fun _ _ _ _ a w hf hs=>⟨w,by
  have hv:(ps.map fun (p:Nat×Operand)=>(p.1,a.eval p.2))=vs.toArray:=by
   apply Array.toList_inj.1
   simpa using evp_sound hf hp
  have hv':(ps.map fun (i,x)=>(i,a.eval x))=vs.toArray:=hv
  simp only [execOp]
  rw [hv',Sem.run_bind,h w]
  rfl,hs⟩
theorem o_fd{t f:Nat}{y:Operand}{cs:List Value}(hy:ev E y=some (.agg cs.toArray))(h:∀w,(Instr.field t (.agg cs.toArray) f).run x.P w = .ok v w):OV x (.field t y f) ty E R L v :=
 ou_of fun _ _ _ _ a w hf hs=>⟨w,by simp [execOp,hf.ev hy,h w],hs⟩
theorem o_lenS{t:TypeId}{y:Operand}{s:Str}(hu:x.P.underlying t=some .string)(hy:ev E y=some (vS s)):
  OV x (.call ⟨.builtin .len,#[y],#[t]⟩) ty E R L (vI s.length) :=
 ou_of fun _ _ _ _ a w hf hs=>⟨w,by
  have hl:(Builtin.len_ #[t] ty #[vS s]).run x.P w = .ok (vI s.length) w:=by
   simp [Builtin.len_,run_underlying hu w,vS,goInt,vI]
   rfl
  simp [execOp,resolve,hf.ev hy,invoke,builtin,hl],hs⟩
section
variable {P:Program} {s d:TypeId}
theorem run_cv{ks kd:IntKind}(hs:P.underlying s=some (.int ks))(hd:P.underlying d=some (.int kd))(k:IntKind)(n:Int)(w:World):(convert s d (.int k n)).run P w = .ok (.int kd (kd.wrap n)) w:=by
 simp [convert,run_underlying hs w,run_underlying hd w,Conv.intToInt]
theorem cIW(hs:P.underlying s=some (.int .i64))(hd:P.underlying d=some (.int .u64))(a:Int):Cv P s d (vI a) (vW (toW a)):=fun w=>by
 have h:IntKind.wrap .u64 a=((toW a).toNat:Int):=by
  unfold toW;rw [IntKind.wrap_u64,UInt64.toNat_ofNat'];omega
 simp only [vW,vI,run_cv hs hd,h]
theorem cIY(hs:P.underlying s=some (.int .i64))(hd:P.underlying d=some (.int .u8))(a:Int):Cv P s d (vI a) (vY (toY a)):=fun w=>by
 have h:IntKind.wrap .u8 a=((toY a).toNat:Int):=by
  unfold toY;rw [IntKind.wrap_u8,UInt8.toNat_ofNat'];omega
 simp only [vY,vI,run_cv hs hd,h]
theorem cWI(hs:P.underlying s=some (.int .u64))(hd:P.underlying d=some (.int .i64))(a:UInt64):Cv P s d (vW a) (vI (i64 (a.toNat:Int))):=fun w=>by simp only [vW,vI,i64,run_cv hs hd,IntKind.wrap_i64]
theorem cWY(hs:P.underlying s=some (.int .u64))(hd:P.underlying d=some (.int .u8))(a:UInt64):Cv P s d (vW a) (vY a.toUInt8):=fun w=>by
 have h:IntKind.wrap .u8 (a.toNat:Int)=(a.toUInt8.toNat:Int):=by rw [IntKind.wrap_u8];simp
 simp only [vW,vY,run_cv hs hd,h]
theorem cYI(hs:P.underlying s=some (.int .u8))(hd:P.underlying d=some (.int .i64))(a:UInt8):Cv P s d (vY a) (vI (a.toNat:Int)):=fun w=>by
 have h:IntKind.wrap .i64 (a.toNat:Int)=(a.toNat:Int):=by rw [IntKind.wrap_i64];have:=a.toNat_lt;omega
 simp only [vY,vI,run_cv hs hd,h]
theorem cYW(hs:P.underlying s=some (.int .u8))(hd:P.underlying d=some (.int .u64))(a:UInt8):Cv P s d (vY a) (vW a.toUInt64):=fun w=>by
 have h:IntKind.wrap .u64 (a.toNat:Int)=(a.toUInt64.toNat:Int):=by rw [IntKind.wrap_u64];simp;have:=a.toNat_lt;omega
 simp only [vY,vW,run_cv hs hd,h]
end
def EqT(P:Program)(d t:Nat)(a b:Value)(r:Bool):Prop:=∀w,(Op.equalIn (d+1) t a b).run P w = .ok r w
def Pa(P:Program)(t:Nat)(cs:List Value)(off:Nat)(v:Value):Prop:=∀w,(part t cs.toArray off).run P w = .ok v w
section
variable {P:Program} {t:Nat}
theorem EqT.I(d:Nat){k:IntKind}(h:P.underlying t=some (.int k))(a b:Int):EqT P d t (vI a) (vI b) (a==b):=fun w=>run_equalIn_int w d t _ k a b h
theorem EqT.W(d:Nat){k:IntKind}(h:P.underlying t=some (.int k))(a b:UInt64):EqT P d t (vW a) (vW b) (a==b):=fun w=>by rw [←beqW];exact run_equalIn_int w d t _ k _ _ h
theorem EqT.D(d:Nat){k:IntKind}(h:P.underlying t=some (.int k))(a b:UInt32):EqT P d t (vD a) (vD b) (a==b):=fun w=>by rw [←beqD];exact run_equalIn_int w d t _ k _ _ h
theorem EqT.H(d:Nat){k:IntKind}(h:P.underlying t=some (.int k))(a b:UInt16):EqT P d t (vH a) (vH b) (a==b):=fun w=>by rw [←beqH];exact run_equalIn_int w d t _ k _ _ h
theorem EqT.Y(d:Nat){k:IntKind}(h:P.underlying t=some (.int k))(a b:UInt8):EqT P d t (vY a) (vY b) (a==b):=fun w=>by rw [←beqY];exact run_equalIn_int w d t _ k _ _ h
theorem EqT.B(d:Nat)(h:P.underlying t=some .bool)(a b:Bool):EqT P d t (vB a) (vB b) (a==b):=fun w=>run_equalIn_bool w d t a b h
theorem EqT.S(d:Nat)(h:P.underlying t=some .string)(a b:Str):EqT P d t (vS a) (vS b) (a==b):=fun w=>by
 have:=run_equalIn_string (P:=P) w d t ⟨a.toArray⟩ ⟨b.toArray⟩ h
 simpa [vS] using this
def EqF(P:Program)(d:Nat)(xs ys:List Value)(fs:List Field)(r:Bool):Prop:=∀w,(Op.eqFields (d+1) xs.toArray ys.toArray fs).run P w = .ok r w
theorem EqF.nil{d:Nat}{xs ys:List Value}: EqF P d xs ys [] true:=fun w=>by simp [Op.eqFields]
theorem EqF.cons{d:Nat}{xs ys:List Value}{f:Field}{fs:List Field}{a b:Value}{r s:Bool}(h1:Pa P f.type xs f.offset a)(h2:Pa P f.type ys f.offset b)
  (hn : (f.name != "_") = true) (h : EqT P d f.type a b r) (k : EqF P d xs ys fs s) : EqF P d xs ys (f :: fs) (r && s) := fun w => by
 have hn' : f.name ≠ "_" := by simpa using hn
 simp only [Op.eqFields,if_pos hn',Sem.run_bind,h1 w,h2 w,h w,Result.andThen_ok]
 cases r with
 | true=>simpa using k w
 | false=>simp
theorem EqT.st{d:Nat}{xs ys:List Value}{fs:Array Field}{r s:Bool}(hu:P.underlying t=some (.struct fs))(hp:P.stoodInHeld t=false)(h:EqF P d xs ys fs.toList r)(e:r=s):
  EqT P (d+1) t (.agg xs.toArray) (.agg ys.toArray) s:=fun w=>by
 have hf:P.fieldsOf t=fs:=by unfold Program.fieldsOf;rw [hu]
 subst e
 rw [run_equalIn_struct w (d+1) t _ _ (by rw [hf];exact hu) hp,hf]
 exact h w
theorem EqT.bop{xs ys:List Value}{r:Bool}(hm:P.eqGuardType P.depth t=false)(h:EqT P 9999 t (.agg xs.toArray) (.agg ys.toArray) r):Bop P .eql t (.agg xs.toArray) (.agg ys.toArray) (vB r):=fun x y w=>by
 rw [Sem.run_bind,run_eqGuard_agg w _ _ _ _ _ _ hm,Result.andThen_ok,run_eql_struct,h w];rfl
theorem EqT.bon{xs ys:List Value}{r:Bool}(hm:P.eqGuardType P.depth t=false)(h:EqT P 9999 t (.agg xs.toArray) (.agg ys.toArray) r):Bop P .neq t (.agg xs.toArray) (.agg ys.toArray) (vB (!r)):=fun x y w=>by
 rw [Sem.run_bind,run_eqGuard_agg w _ _ _ _ _ _ hm,Result.andThen_ok,run_neq_struct,h w];rfl
end
def RoS{α:Type}(R:PH)(v:Value)(sz:Nat)(e:α→List Value)(l:List α):Prop :=
 ∃a c,v = .slice a l.length (l.length+c)∧(l=[]∨∃b o cs T fr,a=some ⟨b,o,none⟩∧R b=some (.cells (List.toArray cs) T fr) ∧
  ∀i y,l[i]? = some y→(cs.drop (o+i*sz)).take sz=e y)
theorem RoS.ne{α:Type}{R:PH}{v:Value}{sz:Nat}{e:α→List Value}{l:List α}(h:RoS R v sz e l){i:Int}{y:α}(hi:gi l i=some y):
  ∃b o cs T fr c,v = .slice (some ⟨b,o,none⟩) l.length c∧R b=some (.cells (List.toArray cs) T fr)∧(cs.drop (o+i.toNat*sz)).take sz=e y∧(0≤i∧i<(l.length:Int)):=by
 obtain ⟨hb,hl⟩:=gi_some hi
 obtain ⟨a,c,hv,h⟩:=h
 rcases h with h | ⟨b,o,cs,T,fr,ha,hR,hc⟩
 ·subst h;simp at hl
 ·subst ha;exact ⟨b,o,cs,T,fr,_,hv,hR,hc _ _ hl,hb⟩
theorem rok{cs vs:List Value}{p n:Nat}(k:Nat)(h:(cs.drop p).take n=vs)(hk:k<n):cs[p+k]? = vs[k]? := by
 rw [←h,List.getElem?_take,if_pos hk,List.getElem?_drop]
theorem o_lenR{α:Type}{t e:TypeId}{y:Operand}{l:List α}{sz:Nat}{en:α→List Value}(hu:x.P.underlying t=some (.slice e))(hy:ev E y=some v)(h:RoS R v sz en l):
  OV x (.call ⟨.builtin .len,#[y],#[t]⟩) ty E R L (vI l.length) :=
 ou_of fun _ _ _ _ a w hf hs=>⟨w,by
  obtain ⟨p,c,hv,_⟩:=h
  subst hv
  have hl:(Builtin.len_ #[t] ty #[.slice p l.length (l.length+c)]).run x.P w = .ok (vI l.length) w:=by
   simp [Builtin.len_,run_underlying hu w,goInt,vI]
  simp [execOp,resolve,hf.ev hy,invoke,builtin,hl],hs⟩
theorem o_ix{t e:TypeId}{y z:Operand}{n c b o sz:Nat}{i:Int}(hu:x.P.underlying t=some (.slice e))(hsz:∀w,(sizeOf e).run x.P w = .ok sz w)
  (hy:ev E y=some v) (hz:ev E z=some (vI i)) (hv:v = .slice (some ⟨b,o,none⟩) n c) (hi:0≤i∧i<(n:Int)) :
  OV x (.indexAddr t y z) ty E R L (pt b (o+i.toNat*sz)) :=
 ou_of fun _ _ _ _ a w hf hs=>⟨w,by
  subst hv
  simp [execOp,hf.ev hy,hf.ev hz,Instr.indexAt,asIntOf,vI,run_underlying hu w,hi,hsz,add_eq],hs⟩
theorem rv_n{i t b T n:Nat}{p:Nat}{cs:List Value}{fr:Nat×Nat}(k:Nat)(vs:List Value)(ht:Ag x.P t n)(hp:lk E p=some (pt b i))
  (hi:L[k]? = some (Blk b (.cells cs.toArray T fr))) (hc:(cs.drop i).take n=vs) (hn:vs.length=n):RV x E R L (.cell p t) (.agg vs.toArray):=fun a w hf hs=>by
 simp [rvS,Array.getD_eq_getD_getElem?,hf.get _ _ hp,asAddr,run_ldn (hs.blk hi) ht hc hn]
theorem x_d1{r:ResultVar}(hr:x.fn.results = #[r])(h:RV x E R L r v)(hL:∀w,St x.G R L w→St x.G R L' w)(hR:Le x.R R)(hK:x.K (.returned v) R L')(hm:x.md = .fn:=by rfl)(hD:x.D=[]:=by rfl):EX x .ret [] E R L:=fun a w hf hs=>by
 have:=h a w hf hs
 refine kb_fn hm ⟨hf.df.trans hD,v,?_,⟨R,L',hR,hK,hL w hs⟩⟩
 rw [results_rvS (rs:=[r]) hr]
 simp [this]
theorem x_d2{r s:ResultVar}(hr:x.fn.results = #[r,s])(h:RV x E R L r v)(k:RV x E R L s u)(hL:∀w,St x.G R L w→St x.G R L' w)(hR:Le x.R R)
  (hK:x.K (.returned (.tuple #[v,u])) R L') (hm:x.md = .fn:=by rfl) (hD:x.D=[]:=by rfl):EX x .ret [] E R L:=fun a w hf hs=>by
 have h1:=h a w hf hs
 have h2:=k a w hf hs
 refine kb_fn hm ⟨hf.df.trans hD,_,?_,⟨R,L',hR,hK,hL w hs⟩⟩
 rw [results_rvS (rs:=[r,s]) hr]
 simp [h1,h2]
theorem x_d3{r s t:ResultVar}{q:Value}(hr:x.fn.results = #[r,s,t])(h:RV x E R L r v)(k:RV x E R L s u)(m:RV x E R L t q)(hL:∀w,St x.G R L w→St x.G R L' w)(hR:Le x.R R)
  (hK:x.K (.returned (.tuple #[v,u,q])) R L') (hm:x.md = .fn:=by rfl) (hD:x.D=[]:=by rfl):EX x .ret [] E R L:=fun a w hf hs=>by
 have h1:=h a w hf hs
 have h2:=k a w hf hs
 have h3:=m a w hf hs
 refine kb_fn hm ⟨hf.df.trans hD,_,?_,⟨R,L',hR,hK,hL w hs⟩⟩
 rw [results_rvS (rs:=[r,s,t]) hr]
 simp [h1,h2,h3]
end
end Go.Proofs.YtpanhdnglicknaaGreat.Hw
