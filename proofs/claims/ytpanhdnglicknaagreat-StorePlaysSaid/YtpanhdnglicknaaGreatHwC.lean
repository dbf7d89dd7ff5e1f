import Derived.Test.YtpanhdnglicknaaGreatHwB
set_option linter.unusedSimpArgs false
set_option linter.unusedVariables false
namespace Go.Proofs.YtpanhdnglicknaaGreat.Hw
open Go
def OU(x:Cx)(op:Op)(ty:TypeId)(E:Env)(R:PH)(L:List HP)(v:Value)(R':PH)(L':List HP):Prop :=
 ∀(dst:Option Tmp) (pos:String) (aft:Array Edge) (g:Option (Nat×Bool)) (a:Act) (w:World) (K:Act→World→Prop) (Q:Exit→Act→World→Prop),
  Fr x.N x.D E a→St x.G R L w→True→(∀w',St x.G R' L' w'→K (a.put dst v) w') →
  oWP x ⟨dst,op,ty,pos,aft,g⟩ a w K Q
abbrev OV(x:Cx)(op:Op)(ty:TypeId)(E:Env)(R:PH)(L:List HP)(v:Value):Prop:=OU x op ty E R L v R L
def OW(x:Cx)(ks:List KF)(op:Op)(ty:TypeId)(E:Env)(R:PH)(L:List HP)(C:Value→PH→List HP→Prop):Prop :=
 ∀(dst:Option Tmp) (pos:String) (aft:Array Edge) (g:Option (Nat×Bool)) (a:Act) (w:World) (K:Act→World→Prop),
  Fr x.N x.D E a→St x.G R L w→(∀v R' L' w',Le R R'→C v R' L'→St x.G R' L' w'→K (a.put dst v) w') →
  oWP x ⟨dst,op,ty,pos,aft,g⟩ a w K (Kq x ks)
section
variable {x:Cx} {ks:List KF} {E:Env} {R R':PH} {L L':List HP} {ops:Array Oper} {l:List Oper} {op:Op} {ty:TypeId} {pos:String} {aft:Array Edge}
 {v u:Value} {d:Nat} {C:Value→PH→List HP→Prop}
def gv(g:Bool)(v:Value):Value:=bif g then v else undef
theorem evg{y:Operand}{g:Bool}(h:ev E y=some (gv g v))(hg:g=true):ev E y=some v:=by subst hg;exact h
theorem evg2{y:Operand}{g p:Bool}(h:ev E y=some (gv (g&&p) v))(hg:g=true):ev E y=some (gv p v):=by subst hg;simpa using h
def OS(x:Cx)(ops:Array Oper)(o:Oper)(E:Env)(R:PH)(L:List HP)(v:Value)(R':PH)(L':List HP):Prop :=
 ∀(a:Act) (w:World) (K:Act→World→Prop) (Q:Exit→Act→World→Prop),Fr x.N x.D E a→St x.G R L w→True→(∀w',St x.G R' L' w'→K (a.put o.dst v) w') →
  if Region.wanted o (yielded ops a.tmps) then oWP x o a w K Q else K (a.put o.dst undef) w
def OSW(x:Cx)(ops:Array Oper)(ks:List KF)(o:Oper)(E:Env)(R:PH)(L:List HP)(C:Value→PH→List HP→Prop):Prop :=
 ∀(a:Act) (w:World) (K:Act→World→Prop),Fr x.N x.D E a→St x.G R L w→(∀v R' L' w',Le R R'→C v R' L'→St x.G R' L' w'→K (a.put o.dst v) w') →
  if Region.wanted o (yielded ops a.tmps) then oWP x o a w K (Kq x ks) else K (a.put o.dst undef) w
variable {dst:Option Tmp}
theorem s_u(h:OU x op ty E R L v R' L'):OS x ops ⟨dst,op,ty,pos,aft,none⟩ E R L v R' L':=fun a w K Q hf hs hl k=>by
 rw [if_pos (by rfl)]
 exact h _ _ _ _ a w _ _ hf hs hl k
theorem s_w(h:OW x ks op ty E R L C):OSW x ops ks ⟨dst,op,ty,pos,aft,none⟩ E R L C:=fun a w K hf hs k=>by
 rw [if_pos (by rfl)]
 exact h _ _ _ _ a w _ hf hs k
def yv:Value→Option Bool
 | .bool b=>some b
 | _=>none
theorem yi{a:Act}(hf:Fr x.N x.D E a){j s:Nat}{u:Value}(hj:(ops[j]?).bind (·.dst)=some s)(hs:lk E s=some u):
  yielded ops a.tmps j=yv u:=by
 unfold yielded
 rw [hj]
 simp only [ob_,hf.get _ _ hs]
 cases u <;> rfl
theorem s_gu{g c b:Bool}{j s:Nat}(hj:(ops[j]?).bind (·.dst)=some s)(hs:lk E s=some (gv g (vB c)))
  (h:(g&&(c==b))=true→OU x op ty E R L v R L):OS x ops ⟨dst,op,ty,pos,aft,some (j,b)⟩ E R L (gv (g&&(c==b)) v) R L:=fun a w K Q hf hst hl k=>by
 have hy:=yi (ops:=ops) hf hj hs
 cases hg:(g&&(c==b)) with
 | true =>
  have hg':=Bool.and_eq_true_iff.1 hg
  obtain ⟨rfl,hc⟩:=hg'
  have hc:=eq_of_beq hc
  subst hc
  rw [if_pos (by simp only [Region.wanted,hy,gv,cond_true,vB,yv];simp)]
  rw [hg] at k
  exact h hg _ _ _ _ a w _ _ hf hst hl k
 | false =>
  rw [if_neg (by
   simp only [Region.wanted,hy]
   cases g with
   | false=>simp [gv,undef,yv]
   | true=>simp only [Bool.true_and] at hg;simp only [gv,cond_true,vB,yv];simp at hg ⊢;exact hg)]
  have:=k w hst
  rw [hg] at this
  exact this
theorem s_gt{c:Bool}{j s:Nat}(hj:(ops[j]?).bind (·.dst)=some s)(hs:lk E s=some (vB c))(h:c=true→OU x op ty E R L v R L):
  OS x ops ⟨dst,op,ty,pos,aft,some (j,true)⟩ E R L (gv c v) R L:=by
 have:=s_gu (x:=x) (ops:=ops) (dst:=dst) (pos:=pos) (aft:=aft) (g:=true) (c:=c) (b:=true) (v:=v) hj hs (fun e=>h (by simpa using e))
 simpa using this
theorem s_gf{c:Bool}{j s:Nat}(hj:(ops[j]?).bind (·.dst)=some s)(hs:lk E s=some (vB c))(h:(!c)=true→OU x op ty E R L v R L):
  OS x ops ⟨dst,op,ty,pos,aft,some (j,false)⟩ E R L (gv (!c) v) R L:=by
 have:=s_gu (x:=x) (ops:=ops) (dst:=dst) (pos:=pos) (aft:=aft) (g:=true) (c:=c) (b:=false) (v:=v) hj hs (fun e=>h (by simpa using e))
 simpa using this
theorem s_ggt{g c:Bool}{j s:Nat}(hj:(ops[j]?).bind (·.dst)=some s)(hs:lk E s=some (gv g (vB c)))(h:(g&&c)=true→OU x op ty E R L v R L):
  OS x ops ⟨dst,op,ty,pos,aft,some (j,true)⟩ E R L (gv (g&&c) v) R L:=by
 have:=s_gu (x:=x) (ops:=ops) (dst:=dst) (pos:=pos) (aft:=aft) (g:=g) (c:=c) (b:=true) (v:=v) hj hs (fun e=>h (by simpa using e))
 simpa using this
theorem s_y{c b:Bool}{j s:Nat}(hj:(ops[j]?).bind (·.dst)=some s)(hs:lk E s=some (vB c))(hc:c=b)(h:OU x op ty E R L v R' L'):
  OS x ops ⟨dst,op,ty,pos,aft,some (j,b)⟩ E R L v R' L':=fun a w K Q hf hst hl k=>by
 have hy:=yi (ops:=ops) hf hj hs
 subst hc
 rw [if_pos (by simp [Region.wanted,hy,vB,yv])]
 exact h _ _ _ _ a w _ _ hf hst hl k
theorem s_yw{c b:Bool}{j s:Nat}(hj:(ops[j]?).bind (·.dst)=some s)(hs:lk E s=some (vB c))(hc:c=b)(h:OW x ks op ty E R L C):
  OSW x ops ks ⟨dst,op,ty,pos,aft,some (j,b)⟩ E R L C:=fun a w K hf hst k=>by
 have hy:=yi (ops:=ops) hf hj hs
 subst hc
 rw [if_pos (by simp [Region.wanted,hy,vB,yv])]
 exact h _ _ _ _ a w _ hf hst k
theorem s_n{c b:Bool}{j s:Nat}(hj:(ops[j]?).bind (·.dst)=some s)(hs:lk E s=some (vB c))(hc:c = !b):
  OS x ops ⟨dst,op,ty,pos,aft,some (j,b)⟩ E R L undef R L:=fun a w K Q hf hst hl k=>by
 have hy:=yi (ops:=ops) hf hj hs
 subst hc
 rw [if_neg (by simp [Region.wanted,hy,vB,yv])]
 exact k w hst
theorem s_nu{b:Bool}{j s:Nat}(hj:(ops[j]?).bind (·.dst)=some s)(hs:lk E s=some undef):
  OS x ops ⟨dst,op,ty,pos,aft,some (j,b)⟩ E R L undef R L:=fun a w K Q hf hst hl k=>by
 have hy:=yi (ops:=ops) hf hj hs
 rw [if_neg (by simp [Region.wanted,hy,undef,yv])]
 exact k w hst
theorem r_nil(h:EX x .normal ks E R L):RL x ops ks [] E R L:=h
theorem r_s{g:Option (Nat×Bool)}(h:OS x ops ⟨some d,op,ty,pos,aft,g⟩ E R L v R' L')(k:RL x ops ks l ((d,v)::E) R' L')(hd:Nat.blt d x.N=true:=by rfl):
  RL x ops ks (⟨some d,op,ty,pos,aft,g⟩::l) E R L:=fun a w hf hs =>
 wpl_cons <| h a w _ _ hf hs trivial fun w' hs'=>k _ w' (hf.put (by simpa using hd) v) hs'
theorem r_s0{g:Option (Nat×Bool)}(h:OS x ops ⟨none,op,ty,pos,aft,g⟩ E R L v R' L')(k:RL x ops ks l E R' L'):
  RL x ops ks (⟨none,op,ty,pos,aft,g⟩::l) E R L:=fun a w hf hs=>wpl_cons <| h a w _ _ hf hs trivial fun w' hs'=>k _ w' hf hs'
theorem r_sw{g:Option (Nat×Bool)}(h:OSW x ops ks ⟨some d,op,ty,pos,aft,g⟩ E R L C)(k:∀v R' L',Le R R'→C v R' L'→RL x ops ks l ((d,v)::E) R' L')(hd:Nat.blt d x.N=true:=by rfl):
  RL x ops ks (⟨some d,op,ty,pos,aft,g⟩::l) E R L:=fun a w hf hs =>
 wpl_cons <| h a w _ hf hs fun v R' L' w' hR hC hs'=>k v R' L' hR hC _ w' (hf.put (by simpa using hd) v) hs'
theorem r_u(h:OU x op ty E R L v R' L')(k:RL x ops ks l ((d,v)::E) R' L')(hd:Nat.blt d x.N=true:=by rfl):
  RL x ops ks (⟨some d,op,ty,pos,aft,none⟩::l) E R L:=r_s (s_u h) k hd
theorem r_u0(h:OU x op ty E R L v R' L')(k:RL x ops ks l E R' L'):RL x ops ks (⟨none,op,ty,pos,aft,none⟩::l) E R L:=r_s0 (s_u h) k
theorem r_w(h:OW x ks op ty E R L C)(k:∀v R' L',Le R R'→C v R' L'→RL x ops ks l ((d,v)::E) R' L')(hd:Nat.blt d x.N=true:=by rfl):
  RL x ops ks (⟨some d,op,ty,pos,aft,none⟩::l) E R L:=r_sw (s_w h) k hd
theorem ou_of(h:∀(dst:Option Tmp) (pos:String) (aft:Array Edge) (g:Option (Nat×Bool)) a w,Fr x.N x.D E a→St x.G R L w →
  ∃w',(execOp a.eval ⟨dst,op,ty,pos,aft,g⟩).run x.P w = .ok (.value v) w'∧St x.G R' L' w'):OU x op ty E R L v R' L' :=
 fun dst pos aft g a w K Q hf hs _ k=>by
  obtain ⟨w',e,s⟩:=h dst pos aft g a w hf hs
  exact oWP_val e (k w' s)
theorem ou_of_skip(h:∀(dst:Option Tmp) (pos:String) (aft:Array Edge) (g:Option (Nat×Bool)) a w,Fr x.N x.D E a→St x.G R L w →
  ∃w',(execOp a.eval ⟨dst,op,ty,pos,aft,g⟩).run x.P w = .ok .skip w'∧St x.G R' L' w'):OU x op ty E R L undef R' L' :=
 fun dst pos aft g a w K Q hf hs _ k=>by
  obtain ⟨w',e,s⟩:=h dst pos aft g a w hf hs
  exact oWP_skip e (k w' s)
theorem ow_of(h:∀(dst:Option Tmp) (pos:String) (aft:Array Edge) (g:Option (Nat×Bool)) a w,Fr x.N x.D E a→St x.G R L w →
  ∃v R' L' w',(execOp a.eval ⟨dst,op,ty,pos,aft,g⟩).run x.P w = .ok (.value v) w'∧Le R R'∧C v R' L'∧St x.G R' L' w'):OW x ks op ty E R L C :=
 fun dst pos aft g a w K hf hs k=>by
  obtain ⟨v,R',L',w',e,hR,hC,s⟩:=h dst pos aft g a w hf hs
  exact oWP_val e (k v R' L' w' hR hC s)
theorem o_mv{y:Operand}(h:ev E y=some v):OV x (.move y) ty E R L v :=
 ou_of fun _ _ _ _ a w hf hs=>⟨w,by simp [execOp,hf.ev h],hs⟩
theorem o_as{y:Operand}(h:ev E y=some v):OV x (.assign y) ty E R L v :=
 ou_of fun _ _ _ _ a w hf hs=>⟨w,by simp [execOp,hf.ev h],hs⟩
theorem o_bin{bo:BinOp}{t t':TypeId}{y z:Operand}{a b:Value}(hy:ev E y=some a)(hz:ev E z=some b)(h:Bop x.P bo t a b v):
  OV x (.binOp bo t y z t') ty E R L v :=
 ou_of fun _ _ _ _ ac w hf hs=>⟨w,by
  have:=h y z w
  simp only [execOp,hf.ev hy,hf.ev hz]
  rw [Sem.run_bind,this]
  rfl,hs⟩
theorem o_not{t:TypeId}{y:Operand}{b:Bool}(h:ev E y=some (.bool b)):OV x (.unOp .not t y) ty E R L (vB (!b)) :=
 ou_of fun _ _ _ _ a w hf hs=>⟨w,by simp [execOp,hf.ev h,Op.unary,vB],hs⟩
theorem o_and{c y:Operand}{p q:Bool}(hc:ev E c=some (vB p))(hy:ev E y=some (gv p (vB q))):
  OV x (.pick c y (.const (.bool false))) ty E R L (vB (p&&q)) :=
 ou_of fun _ _ _ _ a w hf hs=>⟨w,by
  have h0:a.eval (.const (.bool false)) = .bool false:=rfl
  cases p <;> simp [execOp,hf.ev hc,hf.ev hy,h0,asBool,vB,gv],hs⟩
theorem o_or{c y:Operand}{p q:Bool}(hc:ev E c=some (vB p))(hy:ev E y=some (gv (!p) (vB q))):
  OV x (.pick c (.const (.bool true)) y) ty E R L (vB (p||q)) :=
 ou_of fun _ _ _ _ a w hf hs=>⟨w,by
  have h0:a.eval (.const (.bool true)) = .bool true:=rfl
  cases p <;> simp [execOp,hf.ev hc,hf.ev hy,h0,asBool,vB,gv],hs⟩
theorem o_pt{c y z:Operand}{p:Bool}(hc:ev E c=some (.bool p))(hp:p=true)(hy:ev E y=some v):OV x (.pick c y z) ty E R L v :=
 ou_of fun _ _ _ _ a w hf hs=>⟨w,by subst hp;simp [execOp,hf.ev hc,hf.ev hy,asBool],hs⟩
theorem o_pf{c y z:Operand}{p:Bool}(hc:ev E c=some (.bool p))(hp:p=false)(hz:ev E z=some v):OV x (.pick c y z) ty E R L v :=
 ou_of fun _ _ _ _ a w hf hs=>⟨w,by subst hp;simp [execOp,hf.ev hc,hf.ev hz,asBool],hs⟩
theorem o_ext{y:Operand}{i:Nat}{vs:Array Value}(h:ev E y=some (.tuple vs))(hi:vs[i]? = some v):OV x (.extract y i) ty E R L v :=
 ou_of fun _ _ _ _ a w hf hs=>⟨w,by simp [execOp,hf.ev h,Instr.extract,hi],hs⟩
theorem o_nc{y:Operand}{a:Addr}(h:ev E y=some (.pointer (some a))):OV x (.nilCheck y) ty E R L (.pointer (some a)) :=
 ou_of fun _ _ _ _ ac w hf hs=>⟨w,by simp [execOp,hf.ev h],hs⟩
def Sc(P:Program)(t:TypeId):Prop:=(∀w,(isAgg t).run P w = .ok false w)∧∀w,(sizeOf t).run P w = .ok 1 w
def Ag(P:Program)(t:TypeId)(n:Nat):Prop:=(∀w,(isAgg t).run P w = .ok true w)∧∀w,(sizeOf t).run P w = .ok n w
theorem add_eq(b off i:Nat):(⟨b,off,none⟩:Addr).add i=⟨b,off+i,none⟩:=by
 unfold Addr.add;split <;> simp_all
theorem run_ld1{P:Program}{w:World}{t T b off:Nat}{cs:List Value}{fr:Nat×Nat}(hb:w.heap[b]? = some (.cells cs.toArray T fr))(ht:Sc P t)
  (hc:cs[off]? = some v):(loadVar t ⟨b,off,none⟩).run P w = .ok v w:=by
 have hcell:w.cell? ⟨b,off,none⟩=some v:=by simp [World.cell?,hb,hc]
 unfold loadVar
 rw [Sem.run_bind,ht.1 w]
 simp [hcell]
theorem run_ldn{P:Program}{w:World}{t T b off n:Nat}{cs vs:List Value}{fr:Nat×Nat}(hb:w.heap[b]? = some (.cells cs.toArray T fr))(ht:Ag P t n)
  (hv:(cs.drop off).take n=vs) (hn:vs.length=n):(loadVar t ⟨b,off,none⟩).run P w = .ok (.agg vs.toArray) w:=by
 have hl:(loadCells ⟨b,off,none⟩ vs.length).run P w = .ok vs.toArray w:=run_loadCells_list (P:=P) w _ vs fun j v hj=>by
  rw [add_eq]
  have:cs[off+j]? = some v:=by
   rw [←hv] at hj
   rw [List.getElem?_take] at hj
   split at hj
   ·rw [List.getElem?_drop] at hj;exact hj
   ·cases hj
  simp [World.cell?,hb,this]
 unfold loadVar
 rw [Sem.run_bind,ht.1 w]
 subst hn
 simp [ht.2 w,hl]
theorem o_ld{y:Operand}{t b off T:Nat}{cs:List Value}{fr:Nat×Nat}(i:Nat)(ht:Sc x.P t)(hy:ev E y=some (pt b off))
  (hi:L[i]? = some (Blk b (.cells cs.toArray T fr))) (hc:cs[off]? = some v):OV x (.load t y) ty E R L v :=
 ou_of fun _ _ _ _ a w hf hs=>⟨w,by simp [execOp,hf.ev hy,Instr.loadAt,Instr.sureAddr,run_ld1 (hs.blk hi) ht hc],hs⟩
theorem o_ldR{y:Operand}{t b off T:Nat}{cs:List Value}{fr:Nat×Nat}(ht:Sc x.P t)(hy:ev E y=some (pt b off))
  (hi:R b=some (.cells cs.toArray T fr)) (hc:cs[off]? = some v):OV x (.load t y) ty E R L v :=
 ou_of fun _ _ _ _ a w hf hs=>⟨w,by simp [execOp,hf.ev hy,Instr.loadAt,Instr.sureAddr,run_ld1 (hs.rd hi) ht hc],hs⟩
theorem o_ldn{y:Operand}{t b off T n:Nat}{cs:List Value}{fr:Nat×Nat}(i:Nat)(vs:List Value)(ht:Ag x.P t n)(hy:ev E y=some (pt b off))
  (hi:L[i]? = some (Blk b (.cells cs.toArray T fr))) (hc:(cs.drop off).take n=vs) (hn:vs.length=n):OV x (.load t y) ty E R L (.agg vs.toArray) :=
 ou_of fun _ _ _ _ a w hf hs=>⟨w,by simp [execOp,hf.ev hy,Instr.loadAt,Instr.sureAddr,run_ldn (hs.blk hi) ht hc hn],hs⟩
theorem o_ldnR{y:Operand}{t b off T n:Nat}{cs:List Value}{fr:Nat×Nat}(vs:List Value)(ht:Ag x.P t n)(hy:ev E y=some (pt b off))
  (hi:R b=some (.cells cs.toArray T fr)) (hc:(cs.drop off).take n=vs) (hn:vs.length=n):OV x (.load t y) ty E R L (.agg vs.toArray) :=
 ou_of fun _ _ _ _ a w hf hs=>⟨w,by simp [execOp,hf.ev hy,Instr.loadAt,Instr.sureAddr,run_ldn (hs.rd hi) ht hc hn],hs⟩
def Fa(P:Program)(s f o:Nat):Prop:=∀b off w,(Instr.fieldAt s (pt b off) f).run P w = .ok (pt b (off+o)) w
theorem o_fa{y:Operand}{s f o b off q:Nat}(h:Fa x.P s f o)(hy:ev E y=some (pt b off))(hq:off+o=q:=by rfl):OV x (.fieldAddr s y f) ty E R L (pt b q) :=
 ou_of fun _ _ _ _ a w hf hs=>⟨w,by subst hq;simp [execOp,hf.ev hy,h b off w],hs⟩
structure Upd (w w':World) (b:Nat) (o:Obj):Prop where
 os:w'.os=w.os
 tape:w'.tape=w.tape
 out:w'.output=w.output
 size:w'.heap.size=w.heap.size
 at_:w'.heap[b]? = some o
 rest:∀k,k≠b→w'.heap[k]? = w.heap[k]?
theorem St.upd{G:World}{w w':World}{b:Nat}{o o':Obj}(hs:St G R (Blk b o::L) w)(hu:Upd w w' b o'):St G R (Blk b o'::L) w' :=
 hs.head hu.os hu.tape hu.out fun k hk hh=>⟨fun j=>if j=b then some o' else k j,by simp [Blk],by
  intro j q e
  dsimp only at e
  split at e
  ·rename_i h;subst h;rw [←e];exact hu.at_
  ·rename_i h;rw [hu.rest j h];exact hh j q e,by
  intro j hj
  dsimp only at hj
  split at hj
  ·rename_i h;subst h;left;have:k j=some o:=hk;rw [this];simp
  ·exact .inl hj,by
  intro j hj e
  have:j≠b:=by rintro rfl;have:k j=some o:=hk;rw [this] at e;cases e
  exact hu.rest j this⟩
def sp:List Value→Nat→List Value→List Value
 | l,_,[]=>l
 | [],_,_=>[]
 | _::l,0,v::vs=>v::sp l 0 vs
 | y::l,i+1,vs=>y::sp l i vs
theorem sp_nil(l:List Value)(i:Nat):sp l i []=l:=by unfold sp;rfl
theorem sp_emp(i:Nat)(vs:List Value):sp [] i vs=[]:=by cases vs <;> simp [sp]
theorem sp_cons(v:Value)(vs:List Value):∀(l:List Value) (i:Nat),sp l i (v::vs)=sp (l.set i v) (i+1) vs
 | [],i=>by simp [sp_emp]
 | y::l,0=>by
  cases vs with
  | nil=>simp [sp,sp_nil]
  | cons u us=>simp [sp]
 | y::l,i+1=>by
  have:=sp_cons v vs l i
  cases vs with
  | nil=>simpa [sp,sp_nil] using this
  | cons u us=>simpa [sp] using this
theorem En{P:Program}{w:World}{b off T:Nat}{cs:List Value}{fr:Nat×Nat}(hb:w.heap[b]? = some (.cells cs.toArray T fr))(hv:v.oneCell'=true)
  (hlt:off<cs.length) (hfr:Nat.ble fr.2 off=true):∃w',(store ⟨b,off,none⟩ v).run P w = .ok () w'∧Upd w w' b (.cells (cs.set off v).toArray T fr):=by
 obtain ⟨lo,hi⟩:=fr
 have hblt:b<w.heap.size:=by
  rcases Nat.lt_or_ge b w.heap.size with h | h
  ·exact h
  ·simp [Array.getElem?_eq_none h] at hb
 have hcell:w.cell? ⟨b,off,none⟩=some (cs[off]'hlt):=by simp [World.cell?,hb,hlt]
 have hfz:w.frozen? ⟨b,off,none⟩=false:=by
  have:=Nat.le_of_ble_eq_true hfr
  simp only [World.frozen?,hb,Bool.and_eq_false_iff,decide_eq_false_iff_not]
  right;simp at this ⊢;omega
 refine ⟨w.setCell ⟨b,off,none⟩ v,by rw [run_store _ _ _ _ _ hv,hcell];simp [hfz],rfl,rfl,rfl,by simp,?_,?_⟩
 ·simp [World.setCell,Array.getElem?_modify,hb]
 ·intro k hk
  simp only [World.setCell,Array.getElem?_modify]
  rw [if_neg (fun e=>hk e.symm)]
theorem storeCells_run{P:Program}{b T:Nat}{fr:Nat×Nat}(a0:Nat):∀(vs:List Value) (w:World) (cs:List Value) (i:Nat),
  w.heap[b]? = some (.cells cs.toArray T fr)→(∀v∈vs,v.oneCell'=true)→a0+i+vs.length≤cs.length→Nat.ble fr.2 a0=true →
  ∃w',(storeCells ⟨b,a0,none⟩ vs i).run P w = .ok () w'∧Upd w w' b (.cells (sp cs (a0+i) vs).toArray T fr)
 | [],w,cs,i,hb,_,_,_=>⟨w,rfl,rfl,rfl,rfl,rfl,by simpa [sp_nil] using hb,fun _ _=>rfl⟩
 | v::vs,w,cs,i,hb,hv,hl,hfr=>by
  simp only [List.length_cons] at hl
  obtain ⟨w1,e1,u1⟩:=En (P:=P) (v:=v) (off:=a0+i) hb (hv v (by simp)) (by omega)
   (Nat.ble_eq_true_of_le (Nat.le_trans (Nat.le_of_ble_eq_true hfr) (by omega)))
  obtain ⟨w2,e2,u2⟩:=storeCells_run (P:=P) (b:=b) a0 vs w1 _ (i+1) u1.at_ (fun u hu=>hv u (by simp [hu])) (by simp;omega) hfr
  refine ⟨w2,?_,u2.os.trans u1.os,u2.tape.trans u1.tape,u2.out.trans u1.out,u2.size.trans u1.size,?_,fun k hk=>(u2.rest k hk).trans (u1.rest k hk)⟩
  ·show (do store ((⟨b,a0,none⟩:Addr).add i) v;storeCells ⟨b,a0,none⟩ vs (i+1):Sem Unit).run P w=_
   rw [add_eq,Sem.run_bind,e1]
   exact e2
  ·rw [u2.at_,sp_cons,Nat.add_assoc]
theorem o_st{y z:Operand}{t b off T:Nat}{cs:List Value}{fr:Nat×Nat}(ht:Sc x.P t)(hy:ev E y=some (pt b off))(hz:ev E z=some v)
  (hL:L=Blk b (.cells cs.toArray T fr)::L') (hv:v.oneCell'=true) (hlt:Nat.blt off cs.length=true) (hfr:Nat.ble fr.2 off=true) :
  OU x (.store t y z) ty E R L undef R (Blk b (.cells (cs.set off v).toArray T fr)::L'):=by
 subst hL
 refine ou_of_skip fun _ _ _ _ a w hf hs =>?_
 obtain ⟨w',e,hu⟩:=En (P:=x.P) (v:=v) (hs.blk (i:=0) rfl) hv (by simpa using hlt) hfr
 refine ⟨w',?_,hs.upd hu⟩
 have hc:v.cells = #[v]:=by cases v <;> simp_all [Value.cells,Value.oneCell']
 simp [execOp,hf.ev hy,hf.ev hz,Instr.storeAt,Instr.sureAddr,storeVar,ht.2,hc,storeCells,e,Addr.add]
theorem o_stn{y z:Operand}{t b off T n:Nat}{cs vs:List Value}{fr:Nat×Nat}(ht:Ag x.P t n)(hy:ev E y=some (pt b off))(hz:ev E z=some (.agg vs.toArray))
  (hL:L=Blk b (.cells cs.toArray T fr)::L') (hv:vs.all Value.oneCell'=true) (hn:vs.length=n) (hlt:Nat.ble (off+n) cs.length=true) (hfr:Nat.ble fr.2 off=true) :
  OU x (.store t y z) ty E R L undef R (Blk b (.cells (sp cs off vs).toArray T fr)::L'):=by
 subst hL
 refine ou_of_skip fun _ _ _ _ a w hf hs =>?_
 obtain ⟨w',e,hu⟩:=storeCells_run (P:=x.P) off vs w cs 0 (hs.blk (i:=0) rfl) (by simpa using hv) (by have:=Nat.le_of_ble_eq_true hlt;omega) hfr
 refine ⟨w',?_,hs.upd hu⟩
 simp [execOp,hf.ev hy,hf.ev hz,Instr.storeAt,Instr.sureAddr,storeVar,ht.2,Value.cells,hn,e]
theorem St.alloc{G:World}{w:World}(hs:St G R L w)(o:Obj):St G R (Blk w.heap.size o::L) (w.alloc o) :=
 hs.add rfl rfl rfl (fun b hb=>heap_alloc_old w o hb) (k:=fun j=>if j=w.heap.size then some o else none) (by simp [Blk])
  (fun j q e=>by
   replace e:(if j=w.heap.size then some o else none)=some q:=e
   by_cases h:j=w.heap.size
   ·subst h;rw [if_pos rfl] at e;rw [←Option.some.inj e];exact heap_alloc_new w o
   ·rw [if_neg h] at e;cases e)
  (fun b hb=>by
   replace hb:(if b=w.heap.size then some o else none)≠none:=hb
   by_cases h:b=w.heap.size
   ·omega
   ·rw [if_neg h] at hb;exact absurd rfl hb)
def Ze(P:Program)(t:TypeId)(cs:List Value):Prop:=∃v,v.cells=cs.toArray∧∀w,(zeroValue t).run P w = .ok v w
def New(R:PH)(L:List HP)(T:Nat)(cs:List Value):Value→PH→List HP→Prop :=
 fun v R' L'=>∃b,v=pt b 0∧R'=R∧L'=Blk b (.cells cs.toArray T (0,0))::L
theorem o_al{t:Nat}{cs:List Value}(hz:Ze x.P t cs):OW x ks (.alloc t) ty E R L (New R L t cs):=by
 refine ow_of fun _ _ _ _ a w hf hs =>?_
 obtain ⟨v,hv,hr⟩:=hz
 refine ⟨pt w.heap.size 0,R,_,w.alloc (.cells cs.toArray t (0,0)),?_,Le.refl R,⟨_,rfl,rfl,rfl⟩,hs.alloc _⟩
 simp [execOp,Instr.alloc,hr,newVar,newRow,hv]
theorem o_bx{t:Nat}{y:Operand}(cs:List Value)(hy:ev E y=some v)(hc:v.cells=cs.toArray):OW x ks (.box t y) ty E R L (New R L t cs):=by
 refine ow_of fun _ _ _ _ a w hf hs =>?_
 refine ⟨pt w.heap.size 0,R,_,w.alloc (.cells cs.toArray t (0,0)),?_,Le.refl R,⟨_,rfl,rfl,rfl⟩,hs.alloc _⟩
 simp [execOp,Instr.box,hf.ev hy,newVar,newRow,hc]
theorem r_new{T:Nat}{cs:List Value}(h:OW x ks op ty E R L (New R L T cs))(k:∀b,RL x ops ks l ((d,pt b 0)::E) R (Blk b (.cells cs.toArray T (0,0))::L))
  (hd:Nat.blt d x.N=true:=by rfl):RL x ops ks (⟨some d,op,ty,pos,aft,none⟩::l) E R L :=
 r_w h (fun v R' L' _ ⟨b,h1,h2,h3⟩=>by subst h1;subst h2;subst h3;exact k b) hd
def Ret(C:Value→PH→List HP→Prop):Ending→PH→List HP→Prop:=fun e R' L'=>∃v,e = .returned v∧C v R' L'
def Ca(P:Program)(f:FuncId):Prop:=∀(args:Array Value) w,(callFunc f args).run P w = .ok (.enter f args) w
theorem o_call{f:FuncId}{args:Array Operand}{ats:Array TypeId}{vs:List Value}(hc:Ca x.P f)(ha:evs E args.toList=some vs)
  (h:CO x.P f vs x.G R L (Ret C)):OW x ks (.call ⟨.value (.func f),args,ats⟩) ty E R L C:=fun dst pos aft g a w K hf hs k=>by
 have ha':args.map a.eval=vs.toArray:=by
  have:=hf.evs ha
  apply Array.toList_inj.1
  simpa using this
 have hr:(execOp a.eval ⟨dst,.call ⟨.value (.func f),args,ats⟩,ty,pos,aft,g⟩).run x.P w = .ok (.enter f vs.toArray) w:=by
  have h0:a.eval (.func f) = .func (.func f) #[] #[]:=rfl
  simp [execOp,resolve,ha',h0,Deferred.ofValue,invoke,hc _ w]
 refine oWP_enter hr (h w hs) fun e w' q =>?_
 obtain ⟨R',L',h1,⟨v,e1,h2⟩,h3⟩:=q
 subst e1;exact k v R' L' w' h1 h2 h3
end
end Go.Proofs.YtpanhdnglicknaaGreat.Hw
