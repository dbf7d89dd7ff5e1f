import Derived.Test.YtpanhdnglicknaaGreatHwU
set_option linter.unusedVariables false
set_option linter.unusedSimpArgs false
set_option linter.unusedSectionVars false
namespace Go.Proofs.YtpanhdnglicknaaGreat.Hw
open Go
def YO(P:Program)(l:Nat)(args:List Value)(G:World)(R:PH)(L:List HP)(K:Ending→PH→List HP→Prop):Prop :=
 ∀w,St G R L w→∃fn tmps assign body,(Instr.yield l args.toArray).run P w = .ok (.round l fn tmps assign body) w ∧
  RoundIn (FF .fn) 0 P l fn tmps assign body w (Post G R K)
theorem YO.mono{P:Program}{l:Nat}{args:List Value}{G:World}{R:PH}{L:List HP}{K K':Ending→PH→List HP→Prop}(h:YO P l args G R L K)
  (hk:∀e R' L',Le R R'→K e R' L'→K' e R' L'):YO P l args G R L K':=fun w hs=>by
 obtain ⟨fn,tmps,as,bo,h1,h2⟩:=h w hs
 refine ⟨fn,tmps,as,bo,h1,h2.mono fun e w' q =>?_⟩
 obtain ⟨R',L',a1,a2,a3⟩:=q
 exact ⟨R',L',a1,hk _ _ _ a1 a2,a3⟩
theorem YO.conv{P:Program}{l:Nat}{args:List Value}{G:World}{R:PH}{L L2:List HP}{K K2:Ending→PH→List HP→Prop}(h:YO P l args G R L2 K2)
  (h1:∀w,St G R L w→St G R L2 w) (h2:∀e R' L',K2 e R' L'→∃L'',K e R' L''∧∀w,St G R' L' w→St G R' L'' w):YO P l args G R L K:=fun w hs=>by
 obtain ⟨fn,tmps,as,bo,h3,h4⟩:=h w (h1 w hs)
 refine ⟨fn,tmps,as,bo,h3,h4.mono fun e w' q =>?_⟩
 obtain ⟨R',L',a1,a2,a3⟩:=q
 obtain ⟨L'',b1,b2⟩:=h2 _ _ _ a2
 exact ⟨R',L'',a1,b1,b2 _ a3⟩
theorem CO.conv{P:Program}{f:FuncId}{args:List Value}{G:World}{R:PH}{L L2:List HP}{K K2:Ending→PH→List HP→Prop}(h:CO P f args G R L2 K2)
  (h1:∀w,St G R L w→St G R L2 w) (h2:∀e R' L',K2 e R' L'→∃L'',K e R' L''∧∀w,St G R' L' w→St G R' L'' w):CO P f args G R L K:=fun w hs =>
 (h w (h1 w hs)).mono fun e w' q=>by
  obtain ⟨R',L',a1,a2,a3⟩:=q
  obtain ⟨L'',b1,b2⟩:=h2 _ _ _ a2
  exact ⟨R',L'',a1,b1,b2 _ a3⟩
theorem fr_round{N t:Nat}{E:Env}{tmps:Array Value}{v:Value}(h:Fr N [] E { tmps:=tmps,defers:=[] })(ht:Nat.blt t N=true):
  Fr N [] ((t,v)::E) { tmps:=((#[t]:Array Tmp).zip [v].toArray).foldl (fun ts (p,u)=>ts.setIfInBounds p u) tmps,defers:=[] } := by
 have h2:=h.put (d:=t) (by simpa using ht) v
 have h3:((#[t]:Array Tmp).zip [v].toArray).foldl (fun ts (p,u)=>ts.setIfInBounds p u) tmps=tmps.setIfInBounds t v:=by simp
 rw [h3]
 exact h2
section
variable {x:Cx} {ks:List KF} {E E':Env} {R R':PH} {L L':List HP} {ops:Array Oper} {ty:TypeId} {C:Value→PH→List HP→Prop}
theorem o_yield{l:Nat}{y:Operand}{args:Array Operand}{ats:Array TypeId}{vs:List Value}(hy:ev E y=some (.func (.yield l) #[] #[]))(ha:evs E args.toList=some vs)
  (h:YO x.P l vs x.G R L (Ret C)):OW x ks (.call ⟨.value y,args,ats⟩) ty E R L C:=fun dst pos aft g a w K hf hs k=>by
 have ha':args.map a.eval=vs.toArray:=by
  have:=hf.evs ha
  apply Array.toList_inj.1
  simpa using this
 obtain ⟨fn,tmps,as,bo,h1,h2⟩:=h w hs
 have hr:(execOp a.eval ⟨dst,.call ⟨.value y,args,ats⟩,ty,pos,aft,g⟩).run x.P w = .ok (.round l fn tmps as bo) w:=by
  simp [execOp,resolve,ha',hf.ev hy,Deferred.ofValue,invoke,h1]
 refine ⟨fun _ _=>trivial,?_⟩
 rw [show (FF x.md).round=x.md.ro from rfl,semAt_val hr (by simp)]
 refine ⟨fun h=>(by cases h),?_⟩
 have h3:RoundIn (FF x.md) (0-1) x.P l fn tmps as bo w (Post x.G R (Ret C)):=h2
 refine h3.mono fun e w' q =>?_
 obtain ⟨R',L',h1,⟨v,e1,h2⟩,h3⟩:=q
 subst e1;exact k v R' L' w' h1 h2 h3
theorem upd_put{w:World}{l:Nat}{o o':Obj}(h:w.heap[l]? = some o):Upd w (w.putObj l o') l o' :=
 ⟨rfl,rfl,rfl,by simp,World.putObj_heap_same (Array.getElem?_eq_some_iff.1 h).1,fun k hk=>World.putObj_heap_other hk⟩
def Lrec(fn:FuncId)(tmps:Array Value)(ps:Array Tmp)(assign body:Code)(D:Nat)(st:LoopState)(pe:Option Code):Loop :=
 { state:=st,pending:=pe,fn,tmps,params:=ps,assign,body,defers:=D }
theorem yo_round{P:Program}{fid:FuncId}{fn:Func}{G:World}{N l D:Nat}{tmps:Array Value}{ps:Array Tmp}{assign body:Code}{vs:List Value}{E0 E1:Env}{L0:List HP}{K:PH→List HP→Prop}
  (hps:vs.length=ps.size) (hE0:Fr N [] E0 { tmps:=(ps.zip vs.toArray).foldl (fun t (p,v)=>t.setIfInBounds p v) tmps,defers:=[] })
  (hassign:∀x:Cx,x.P=P→x.G=G→x.N=N→x.D=[]→x.md = .round l→∀ks,
   EX x .normal ks E1 R (Blk l (.loop (Lrec fid tmps ps assign body D .ready none))::L0)→CD x assign ks E0 R (Blk l (.loop (Lrec fid tmps ps assign body D .ready none))::L0))
  (hbody:CD ⟨P,fn,G,R,N,Ret fun u R' L'=>∃L1,L'=Blk l (.loop (Lrec fid tmps ps assign body D .busy none))::L1∧K R' L1,[],.round l⟩ body [] E1 R
   (Blk l (.loop (Lrec fid tmps ps assign body D .busy none))::L0)) :
  YO P l vs G R (Blk l (.loop (Lrec fid tmps ps assign body D .ready none))::L0)
   (Ret fun u R' L'=>u = .bool true∧∃L1,L'=Blk l (.loop (Lrec fid tmps ps assign body D .ready none))::L1∧K R' L1):=fun w hs=>by
 have hl:=hs.blk (i:=0) rfl
 refine ⟨fid,_,assign,body,run_yield hl (by simpa [Lrec] using hps),?_⟩
 refine roundIn_of_wpIn (F:=FF .fn) trivial ?_
 let x:Cx:=⟨P,fn,G,R,N,Ret fun u R' L'=>∃L1,L'=Blk l (.loop (Lrec fid tmps ps assign body D .busy none))::L1∧K R' L1,[],.round l⟩
 have ha:=hassign x rfl rfl rfl rfl rfl [.lp fun a w=>Fr N [] E1 a∧St G R (Blk l (.loop (Lrec fid tmps ps assign body D .ready none))::L0) w] (fun a w hf hs=>⟨hf,hs⟩)
 refine wpIn_mono (ha _ w hE0 hs) ?_
 intro e a1 w1 q
 cases e with
 | normal =>
  obtain ⟨hf1,hs1⟩:=q
  have hl1:=hs1.blk (i:=0) rfl
  refine ⟨_,run_beginRound hl1 rfl,?_⟩
  have hs2:St G R (Blk l (.loop (Lrec fid tmps ps assign body D .busy none))::L0) (w1.putObj l (.loop { Lrec fid tmps ps assign body D .ready none with state := .busy })):=hs1.upd (upd_put hl1)
  refine wpIn_mono (hbody _ _ hf1 hs2) ?_
  intro e a2 w2 q
  obtain ⟨rfl,R',L',hR,⟨u,hu,L1,rfl,hK⟩,hs3⟩:=q
  have hl3:=hs3.blk (i:=0) rfl
  refine ⟨_,_,run_endRound none hl3,?_⟩
  refine ⟨R',_,hR,⟨_,rfl,rfl,L1,rfl,hK⟩,?_⟩
  exact hs3.upd (upd_put hl3)
 | exit id=>exact (by cases q.1)
 | goto t=>exact (by cases q.1)
 | ret=>exact (by cases q.1)
 | panic c=>exact (by cases q.1)
 | outgrown=>exact (by cases q.1)
theorem x_round{l:Nat}(hm:x.md = .round l)(hR:Le x.R R)(hK:x.K (.returned (.bool true)) R L):EX x .normal [] E R L:=fun a w hf hs=>by
 show Kb x .normal a w
 unfold Kb
 rw [hm]
 exact ⟨rfl,R,L,hR,hK,hs⟩
def mark(r:Nat):Deferred := { target := .collected r,args := #[] }
theorem Kq_D{d:List Deferred}: ∀ks,Kq { x with D:=d } ks=Kq x ks
 | []=>rfl
 | .seq y::ks=>by unfold Kq;rw [Kq_D ks]
 | .blk id::ks=>by unfold Kq;rw [Kq_D ks]
 | .lp I::ks=>by unfold Kq;rw [Kq_D ks]
theorem c_rangeF{g:Operand}{ps:Array Tmp}{assign body:Code}{gf:FuncId}{lb:List Value}{K:PH→List HP→Prop}(hro:x.md.ro=none)(hg:ev E g=some (.func (.func gf) #[] lb.toArray))(hc:Ca x.P gf)
  (hseq:∀(fid:FuncId) (l D:Nat) (tmps:Array Value),Fr x.N [] E { tmps:=tmps,defers:=[] } →
   CO x.P gf (.func (.yield l) #[] #[]::lb) x.G R (Blk l (.loop (Lrec fid tmps ps assign body D .ready none))::Blk D (.deferred (some []))::L)
    (Ret fun u R' L'=>∃L1,L'=Blk l (.loop (Lrec fid tmps ps assign body D .ready none))::Blk D (.deferred (some []))::L1∧K R' L1))
  (hk:∀D R' L1,Le R R'→K R' L1→EX { x with D:=mark D::x.D } .normal ks E R' (Blk D (.deferred (some []))::L1)) :
  CD x (.rangeFunc g ps assign body) ks E R L:=fun a w hf hs=>by
 refine wpIn_rangeFunc ?_
 intro fid _
 rw [show (FF x.md).round=x.md.ro from rfl,hro]
 have hgv:=hf.ev hg
 have hs1:St x.G R (Blk w.heap.size (.deferred (some []))::L) (w.alloc (.deferred (some []))):=hs.alloc _
 have hs2:=hs1.alloc (.loop (Lrec fid a.tmps ps assign body w.heap.size .ready none))
 rw [World.size_alloc] at hs2
 obtain ⟨W1,hW1⟩:∃W1,(w.alloc (.deferred (some []))).alloc (.loop (Lrec fid a.tmps ps assign body w.heap.size .ready none))=W1:=⟨_,rfl⟩
 rw [hW1] at hs2
 refine ⟨w.heap.size+1,[mark w.heap.size],W1,{ target := .fn (.func gf) lb.toArray,args := #[.func (.yield (w.heap.size+1)) #[] #[]] },W1,gf,
  #[.func (.yield (w.heap.size+1)) #[] #[]]++lb.toArray,W1,?_,?_,fun _ _=>trivial,?_,fun h=>(by cases h),?_⟩
 ·rw [←hW1];exact run_enterLoop_outer _ _ _ _ _
 ·simp only [resolve,hgv]
  simp [go_sem]
 ·simp [invoke,hc _ _]
 ·have hfr:Fr x.N [] E { tmps:=a.tmps,defers:=[] } := ⟨hf.size,rfl,hf.get⟩
  have hco:=hseq fid (w.heap.size+1) w.heap.size a.tmps hfr _ hs2
  have e : #[Value.func (.yield (w.heap.size+1)) #[] #[]]++lb.toArray=(Value.func (.yield (w.heap.size+1)) #[] #[]::lb).toArray:=by simp
  rw [e]
  have c2:CallsIn (FF x.md) (0-1) x.P gf (Value.func (.yield (w.heap.size+1)) #[] #[]::lb).toArray _ _:=(callsIn_wide (n:=0-1)).2 hco
  refine c2.mono ?_
  rintro e w3 ⟨R',L',hR,⟨u,rfl,L1,rfl,hK⟩,hs3⟩
  have hl3:=hs3.blk (i:=0) rfl
  refine ⟨none,_,run_endLoop hl3 (by simp [Lrec]),?_⟩
  have hs4:=(hs3.upd (upd_put (o' := .loop { Lrec fid a.tmps ps assign body w.heap.size .ready none with state := .exhausted }) hl3)).drop
  have:=hk w.heap.size R' L1 hR hK { a with defers:=[mark w.heap.size]++a.defers } _ ⟨hf.size,by simp [hf.df],hf.get⟩ hs4
  rw [Kq_D] at this
  exact this
def MkC:List Deferred→HP
 | []=>fun _=>True
 | d::ds=>sep (fun h=>∃r,d=mark r∧Blk r (.deferred (some [])) h) (MkC ds)
theorem mk_add{G:World}{D:Nat}{ds:List Deferred}{w:World}(h:St G R (Blk D (.deferred (some []))::MkC ds::L) w):St G R (MkC (mark D::ds)::L) w :=
 st_sep_f (st_wk (fun _ hk=>⟨D,rfl,hk⟩) h)
theorem leaves_marks{G:World}{P:Program}{fn:Func}{tmps:Array Value}{Q:Ending→World→Prop}(hQ:∀w,St G R L w→∃v,(results fn tmps).run P w = .ok v w∧Q (.returned v) w):
  ∀(ds:List Deferred) (w:World),St G R (MkC ds::L) w→LeavesInM (FF .fn) 0 P fn tmps Q ds .returning w
 | [],w,h=>hQ w h.drop
 | d::ds,w,h=>by
  have h1:=st_sep_o h
  obtain ⟨r,h2⟩:=h1.openHead
  obtain ⟨rfl,h3⟩:=h2.pureHead
  have hl:=h3.blk (i:=0) rfl
  refine ⟨by simp,.inl ⟨r,_,rfl,run_takeDeferred hl,?_⟩⟩
  exact leaves_marks hQ ds _ (h3.upd (upd_put hl)).drop
theorem kb_m{a:Act}{w:World}(hm:x.md = .marks)(hd:a.defers=x.D)(hs:St x.G R (MkC x.D::L) w)
  (hQ:∀w,St x.G R L w→∃v,(results x.fn a.tmps).run x.P w = .ok v w∧Post x.G x.R x.K (.returned v) w):Kb x .ret a w:=by
 unfold Kb;rw [hm]
 show LeavesInM (FF .fn) 0 x.P x.fn a.tmps _ a.defers .returning w
 rw [hd]
 exact leaves_marks hQ _ _ hs
theorem x_m1{r:ResultVar}{v:Value}(hr:x.fn.results = #[r])(h:RV x E R L r v)(hL:∀w,St x.G R L w→St x.G R L' w)(hR:Le x.R R)(hK:x.K (.returned v) R L')(hm:x.md = .marks:=by rfl):
  EX x .ret [] E R (MkC x.D::L):=fun a w hf hs =>
 kb_m hm hf.df hs fun w hs=>by
  have:=h a w hf hs
  refine ⟨v,?_,R,L',hR,hK,hL w hs⟩
  rw [results_rvS (rs:=[r]) hr]
  simp [this]
theorem co_ofM{P:Program}{f:FuncId}{fn:Func}{c:Code}{args:List Value}{G:World}{K:Ending→PH→List HP→Prop}{N:Nat}
  (hf:P.funcs[f]? = some fn) (hb:fn.body=some c) (hN:max fn.ntmps args.length=N)
  (h:CD ⟨P,fn,G,R,N,K,[],.marks⟩ c [] (argE 0 args) R (MkC []::L)):CO P f args G R L K:=fun w hs=>by
 subst hN
 refine (callsIn_wide (n:=0)).1 (callsIn_of_wp_marks hf hb trivial (h _ w (Fr.enter args fn.ntmps) (st_emp trivial hs)))
theorem c_loopD{σ:Type}{c:Code}(M:Nat→σ→Prop)(Df:σ→List Deferred)(Ef:σ→Env)(Rf:σ→PH)(Lf:σ→List HP)(h0:∀s,¬M 0 s)
  (hs:∀k s,M (k+1) s→CD { x with D:=Df s } c (.lp (fun a w=>∃s',M k s'∧Fr x.N (Df s') (Ef s') a∧St x.G (Rf s') (Lf s') w)::ks) (Ef s) (Rf s) (Lf s))
  (k:Nat) (s:σ) (hM:M k s):CD { x with D:=Df s } (.loop c) ks (Ef s) (Rf s) (Lf s):=by
 intro a w hf hst
 refine wpIn_loop_ghost (fun n a w=>∃s',M n s'∧Fr x.N (Df s') (Ef s') a∧St x.G (Rf s') (Lf s') w) k ⟨s,hM,hf,hst⟩ ?_
 rintro n a w ⟨s',hM',hf',hs'⟩
 cases n with
 | zero=>exact absurd hM' (h0 s')
 | succ n =>
  refine wpIn_mono (hs n s' hM' a w hf' hs') ?_
  intro e a' w' q
  cases e with
  | normal=>exact (⟨n,Nat.lt_succ_self n,q⟩:∃n',n'<n+1∧∃s',M n' s'∧Fr x.N (Df s') (Ef s') a'∧St x.G (Rf s') (Lf s') w')
  | exit id=>simp only [Kq,Exit.then] at q ⊢;rw [Kq_D] at q ⊢;exact q
  | goto l=>simp only [Kq,Exit.then] at q ⊢;rw [Kq_D] at q ⊢;exact q
  | ret=>simp only [Kq,Exit.then] at q ⊢;rw [Kq_D] at q ⊢;exact q
  | panic ch=>simp only [Kq,Exit.then] at q ⊢;rw [Kq_D] at q ⊢;exact q
  | outgrown=>simp only [Kq,Exit.then] at q ⊢;rw [Kq_D] at q ⊢;exact q
theorem cd_loopD{σ:Type}{c:Code}(M:Nat→σ→Prop)(Df:σ→List Deferred)(Ef:σ→Env)(Rf:σ→PH)(Lf:σ→List HP)(k:Nat)(s:σ)(hM:M k s)(hD:x.D=Df s)(hE:Sub E (Ef s))(hL:∀w,St x.G R L w→St x.G (Rf s) (Lf s) w)(h0:∀s,¬M 0 s)
  (hs:∀k s,M (k+1) s→CD { x with D:=Df s } c (.lp (fun a w=>∃s',M k s'∧Fr x.N (Df s') (Ef s') a∧St x.G (Rf s') (Lf s') w)::ks) (Ef s) (Rf s) (Lf s)):CD x (.loop c) ks E R L:=by
 have h:=c_loopD (x:=x) (ks:=ks) M Df Ef Rf Lf h0 hs k s hM
 rw [←hD] at h
 exact fun a w hf hst=>h a w (hf.sub hE) (hL w hst)
theorem x_lpD{σ:Type}{M:σ→Prop}{Df:σ→List Deferred}{Ef:σ→Env}{Rf:σ→PH}{Lf:σ→List HP}(s:σ)(hM:M s)(hD:x.D=Df s)
  (hE:Sub E (Ef s)) (hL:∀w,St x.G R L w→St x.G (Rf s) (Lf s) w) :
  EX x .normal (.lp (fun a w=>∃s',M s'∧Fr x.N (Df s') (Ef s') a∧St x.G (Rf s') (Lf s') w)::ks) E R L :=
 fun a w hf hs=>(⟨s,hM,hD▸hf.sub hE,hL w hs⟩:∃s',M s'∧Fr x.N (Df s') (Ef s') a∧St x.G (Rf s') (Lf s') w)
end
end Go.Proofs.YtpanhdnglicknaaGreat.Hw
