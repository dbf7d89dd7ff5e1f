import Derived.Test.YtpanhdnglicknaaGreatHwT
import Derived.Lib.SliceRun
set_option linter.unusedSectionVars false
set_option linter.unusedSimpArgs false
set_option linter.unusedVariables false
namespace Go.Proofs.YtpanhdnglicknaaGreat.Hw
open Go
def Row{α:Type}(w:World)(sz:Nat)(en:α→List Value)(v:Value)(l:List α):Prop :=
 ∃a c,v = .slice a l.length c∧(l=[]∨∃b o cs T fr,a=some ⟨b,o,none⟩∧w.heap[b]? = some (.cells (List.toArray cs) T fr)∧∀i y,l[i]? = some y→(cs.drop (o+i*sz)).take sz=en y)
section
variable {x:Cx} {ks:List KF} {E:Env} {R R':PH} {L L':List HP} {ops:Array Oper} {ty:TypeId} {v u:Value} {d:Nat} {G:World} {w:World}
variable {α:Type} {ap:Bool} {T sz:Nat} {en:α→List Value} {q:List α}
theorem Row.hd(h:Row w sz en v q):∃a c,v = .slice a q.length c∧(a=none→q=[]):=by
 obtain ⟨a,c,e,h⟩:=h
 refine ⟨a,c,e,fun ha => ?_⟩
 rcases h with h | ⟨b,o,cs,T,fr,h,_⟩
 ·exact h
 ·rw [ha] at h;cases h
end
theorem cvI{P:Program}{s d:TypeId}{a:Value}{m n:Int}(h:Cv P s d a (vI m))(e:m=n):Cv P s d a (vI n):=by subst e;exact h
section
variable {x:Cx} {ks:List KF} {E:Env} {R R':PH} {L L':List HP} {ops:Array Oper} {ty:TypeId} {v u:Value} {d:Nat}
def pk4(i j u a:Int):Int:=if i=j then u else a
def at4(i a b c d:Int):Int:=if i=0 then a else if i=1 then b else if i=2 then c else d
theorem set4{a b c d u i:Int}(h:0≤i∧i<4):[vI a,vI b,vI c,vI d].set (0+i.toNat*1) (vI u)=[vI (pk4 i 0 u a),vI (pk4 i 1 u b),vI (pk4 i 2 u c),vI (pk4 i 3 u d)]:=by
 have:i=0∨i=1∨i=2∨i=3:=by omega
 rcases this with rfl | rfl | rfl | rfl <;> rfl
theorem get4{a b c d i:Int}(h:0≤i∧i<4):[vI a,vI b,vI c,vI d][0+i.toNat*1]? = some (vI (at4 i a b c d)):=by
 have:i=0∨i=1∨i=2∨i=3:=by omega
 rcases this with rfl | rfl | rfl | rfl <;> rfl
theorem o_ldV4{y:Operand}{t bl T:Nat}{ty:TypeId}{a b c d i:Int}(k:Nat)(ht:Sc x.P t)(hy:ev E y=some (pt bl (0+i.toNat*1)))(hk:L[k]? = some (Bk bl T [vI a,vI b,vI c,vI d]))(h:0≤i∧i<4):OV x (.load t y) ty E R L (vI (at4 i a b c d)) :=
 o_ld k ht hy hk (get4 h)
theorem o_stV4{y z:Operand}{t bl T:Nat}{ty:TypeId}{a b c d i u:Int}(ht:Sc x.P t)(hy:ev E y=some (pt bl (0+i.toNat*1)))(hz:ev E z=some (vI u))(hL:L=Bk bl T [vI a,vI b,vI c,vI d]::L')(h:0≤i∧i<4):
  OU x (.store t y z) ty E R L undef R (Bk bl T [vI (pk4 i 0 u a),vI (pk4 i 1 u b),vI (pk4 i 2 u c),vI (pk4 i 3 u d)]::L'):=by
 rw [←set4 h]
 have hlt:Nat.blt (0+i.toNat*1) [vI a,vI b,vI c,vI d].length=true:=by
  have:i=0∨i=1∨i=2∨i=3:=by omega
  rcases this with rfl | rfl | rfl | rfl <;> rfl
 exact o_st ht hy hz hL rfl hlt (by simp)
theorem si{α:Type}{a b:α}(h:some a=some b):a=b:=Option.some.inj h
theorem nxt{B:Bool}{C:Prop}(h:B=false):B=true→C:=fun e=>by rw [h] at e;cases e
theorem z{α:Sort _}{a:α}: a=a:=rfl
section
variable {dst:Option Tmp} {op:Op} {pos:String} {aft:Array Edge} {l:List Oper} {c e:Code} {ops':Array Oper} {id j s:Nat} {V E0:Env} {i:Nat} {r:List Nat} {b g:Bool}
def zp:List Nat→List Value→Env
 | i::r,v::s=>(i,v)::zp r s
 | _,_=>[]
theorem stn{ops:Array Oper}{effs S:List Nat}(ms qs es:List Nat)(vs:List Value)(hq:Quiet x ops (zp qs vs++V) E0 R L qs)(he:EffsOK x ops ks effs S (zp qs vs++V) E0 R L es)
  (hfin:(effs.all fun e=>S.any (Nat.beq e))=true→EX x .normal ks (envF ops (zp qs vs++V) E0) R L)
  (hW:((zp qs vs).all fun p=>(lk V p.1).isNone)=true:=by exact z) (hw:wfR 0 [] ops.toList=true:=by exact z) (hE:(effs.all fun e=>Nat.blt e ops.size)=true:=by exact z)
  (hS:(S.all fun s=>effs.any (Nat.beq s))=true:=by exact z) (hN:(ops.toList.all fun o=>match o.dst with | some d=>Nat.blt d x.N | none=>true)=true:=by exact z)
  (hms:masks ops.toList []=ms:=by exact z) (hqs:quietOf ops.size ms effs S=qs:=by exact z) (hes:effsOf ms effs S=es:=by exact z):Stage x ops ks effs S V E0 R L :=
 stage_ext _ hW (stage hw hE hS hN ms qs es hms hqs hes hq he hfin)
theorem stx{ops:Array Oper}{effs S:List Nat}(is:List Nat)(ms qs es:List Nat)(vs:List Value)(hq:Quiet x ops (zp is vs++V) E0 R L qs)(he:EffsOK x ops ks effs S (zp is vs++V) E0 R L es)
  (hfin:(effs.all fun e=>S.any (Nat.beq e))=true→EX x .normal ks (envF ops (zp is vs++V) E0) R L)
  (hW:((zp is vs).all fun p=>(lk V p.1).isNone)=true:=by exact z) (hw:wfR 0 [] ops.toList=true:=by exact z) (hE:(effs.all fun e=>Nat.blt e ops.size)=true:=by exact z)
  (hS:(S.all fun s=>effs.any (Nat.beq s))=true:=by exact z) (hN:(ops.toList.all fun o=>match o.dst with | some d=>Nat.blt d x.N | none=>true)=true:=by exact z)
  (hms:masks ops.toList []=ms:=by exact z) (hqs:quietOf ops.size ms effs S=qs:=by exact z) (hes:effsOf ms effs S=es:=by exact z):Stage x ops ks effs S V E0 R L :=
 stage_ext _ hW (stage hw hE hS hN ms qs es hms hqs hes hq he hfin)
theorem r_mv{y:Operand}(h:ev E y=some v)(k:RL x ops ks l ((d,v)::E) R L)(hd:Nat.blt d x.N=true:=by rfl):RL x ops ks (⟨some d,.move y,ty,pos,aft,none⟩::l) E R L:=r_u (o_mv h) k hd
theorem r_as{y:Operand}(h:ev E y=some v)(k:RL x ops ks l ((d,v)::E) R L)(hd:Nat.blt d x.N=true:=by rfl):RL x ops ks (⟨some d,.assign y,ty,pos,aft,none⟩::l) E R L:=r_u (o_as h) k hd
theorem r_nc{y:Operand}{a:Addr}(h:ev E y=some (.pointer (some a)))(k:RL x ops ks l ((d,.pointer (some a))::E) R L)(hd:Nat.blt d x.N=true:=by rfl):RL x ops ks (⟨some d,.nilCheck y,ty,pos,aft,none⟩::l) E R L:=r_u (o_nc h) k hd
theorem r_fa{y:Operand}{s f o b off q:Nat}(h:Fa x.P s f o)(hy:ev E y=some (pt b off))(k:RL x ops ks l ((d,pt b q)::E) R L)(hq:off+o=q:=by rfl)(hd:Nat.blt d x.N=true:=by rfl):
  RL x ops ks (⟨some d,.fieldAddr s y f,ty,pos,aft,none⟩::l) E R L:=r_u (o_fa h hy hq) k hd
theorem r_ext{y:Operand}{i:Nat}{vs:Array Value}(h:ev E y=some (.tuple vs))(hi:vs[i]? = some v)(k:RL x ops ks l ((d,v)::E) R L)(hd:Nat.blt d x.N=true:=by rfl):RL x ops ks (⟨some d,.extract y i,ty,pos,aft,none⟩::l) E R L:=r_u (o_ext h hi) k hd
theorem r_ld{y:Operand}{t b off T:Nat}{cs:List Value}{fr:Nat×Nat}(i:Nat)(ht:Sc x.P t)(hy:ev E y=some (pt b off))(hi:L[i]? = some (Blk b (.cells cs.toArray T fr)))(hc:cs[off]? = some v)
  (k:RL x ops ks l ((d,v)::E) R L) (hd:Nat.blt d x.N=true:=by rfl):RL x ops ks (⟨some d,.load t y,ty,pos,aft,none⟩::l) E R L:=r_u (o_ld i ht hy hi hc) k hd
theorem r_bin{bo:BinOp}{t t':TypeId}{y z:Operand}{a b:Value}(hy:ev E y=some a)(hz:ev E z=some b)(h:Bop x.P bo t a b v)(k:RL x ops ks l ((d,v)::E) R L)(hd:Nat.blt d x.N=true:=by rfl):
  RL x ops ks (⟨some d,.binOp bo t y z t',ty,pos,aft,none⟩::l) E R L:=r_u (o_bin hy hz h) k hd
theorem nsq(h:CD x c ks E R L):RL x ops (.seq c::ks) [] E R L:=r_nil (x_seq h)
theorem csr(h:RL x ops (.seq c::ks) ops.toList E R L):CD x (.seq (.region id ops false) c) ks E R L:=c_seq (c_reg h)
theorem nsr(h:RL x ops' (.seq c::ks) ops'.toList E R L):RL x ops (.seq (.seq (.region id ops' false) c)::ks) [] E R L:=nsq (csr h)
theorem nssr(h:RL x ops' (.seq c :: .seq e::ks) ops'.toList E R L):RL x ops (.seq (.seq (.seq (.region id ops' false) c) e)::ks) [] E R L:=nsq (c_seq (csr h))
theorem q_u(ho:ops[i]? = some ⟨dst,op,ty,pos,aft,none⟩)(hv:lk V i=some v)(h:OU x op ty (envD ops V E0 i) R L v R L)(k:Quiet x ops V E0 R L r):Quiet x ops V E0 R L (i::r):=qc ho hv (s_u h) k
theorem q_y(ho:ops[i]? = some ⟨dst,op,ty,pos,aft,some (j,b)⟩)(hv:lk V i=some v)(hj:(ops[j]?).bind (·.dst)=some s)(hs:lk (envD ops V E0 i) s=some (vB g))(hc:g=b)(h:OU x op ty (envD ops V E0 i) R L v R L)(k:Quiet x ops V E0 R L r):
  Quiet x ops V E0 R L (i::r):=qc ho hv (s_y hj hs hc h) k
theorem q_n(ho:ops[i]? = some ⟨dst,op,ty,pos,aft,some (j,b)⟩)(hv:lk V i=some undef)(hj:(ops[j]?).bind (·.dst)=some s)(hs:lk (envD ops V E0 i) s=some (vB g))(hc:g = !b)(k:Quiet x ops V E0 R L r):
  Quiet x ops V E0 R L (i::r):=qc ho hv (s_n hj hs hc) k
theorem q_mv{y:Operand}(ho:ops[i]? = some ⟨dst,.move y,ty,pos,aft,none⟩)(hv:lk V i=some v)(h:ev (envD ops V E0 i) y=some v)(k:Quiet x ops V E0 R L r):Quiet x ops V E0 R L (i::r):=q_u ho hv (o_mv h) k
theorem q_fa{y:Operand}{s f o b off q:Nat}(ho:ops[i]? = some ⟨dst,.fieldAddr s y f,ty,pos,aft,none⟩)(hv:lk V i=some (pt b q))(h:Fa x.P s f o)(hy:ev (envD ops V E0 i) y=some (pt b off))(k:Quiet x ops V E0 R L r)(hq:off+o=q:=by rfl):
  Quiet x ops V E0 R L (i::r):=q_u ho hv (o_fa h hy hq) k
theorem q_ld{y:Operand}{t b off T:Nat}{cs:List Value}{fr:Nat×Nat}(ho:ops[i]? = some ⟨dst,.load t y,ty,pos,aft,none⟩)(hv:lk V i=some v)(n:Nat)(ht:Sc x.P t)(hy:ev (envD ops V E0 i) y=some (pt b off))
  (hi:L[n]? = some (Blk b (.cells cs.toArray T fr))) (hc:cs[off]? = some v) (k:Quiet x ops V E0 R L r):Quiet x ops V E0 R L (i::r):=q_u ho hv (o_ld n ht hy hi hc) k
end
end
end Go.Proofs.YtpanhdnglicknaaGreat.Hw
