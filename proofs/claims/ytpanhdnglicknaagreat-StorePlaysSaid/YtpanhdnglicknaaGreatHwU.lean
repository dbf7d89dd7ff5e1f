import Derived.Test.YtpanhdnglicknaaGreatHwT
import Derived.Lib.SliceRun
set_option linter.unusedSectionVars false
set_option linter.unusedSimpArgs false
set_option linter.unusedVariables false
namespace Go.Proofs.YtpanhdnglicknaaGreat.Hw
open Go
def Row{α:Type}(w:World)(sz:Nat)(en:α→List Value)(v:Value)(l:List α):Prop :=
 ∃a c,v = .slice a l.length c∧(l=[]∨∃b o cs T fr,a=some ⟨b,o,none⟩∧w.heap[b]? = some (.cells (List.toArray cs) T fr)∧∀i y,l[i]? = some y→(cs.drop (o+i*sz)).take sz=en y)
section
variable {x:Cx} {ks:List KF} {E:Env} {R R':PH} {L L':List HP} {ops:Array Oper} {ty:TypeId} {v u:Value} {d:Nat} {G:World} {w:World}
variable {α:Type} {ap:Bool} {T sz:Nat} {en:α→List Value} {q:List α}
theorem row_k(hk:Kn x R L (OwS ap T sz en v q))(w:World)(hs:St x.G R L w):Row w sz en v q:=by
 obtain ⟨h,hh,hw⟩:=hk w hs
 rcases hh with ⟨rfl,rfl⟩ | ⟨b,o,c,cs,fr,rfl,hb,_,he,_⟩
 ·exact ⟨none,0,rfl,.inl rfl⟩
 ·exact ⟨_,c,rfl,.inr ⟨b,o,cs,T,fr,rfl,hw _ _ hb,he⟩⟩
theorem Row.hd(h:Row w sz en v q):∃a c,v = .slice a q.length c∧(a=none→q=[]):=by
 obtain ⟨a,c,e,h⟩:=h
 refine ⟨a,c,e,fun ha =>?_⟩
 rcases h with h | ⟨b,o,cs,T,fr,h,_⟩
 ·exact h
 ·rw [ha] at h;cases h
theorem o_apG{t e bytes:Nat}{i:TypeInfo}{z0:Value}{y z:Operand}{v2:Value}{r s:List α}(ht:x.P.underlying t=some (.slice e))(hi:x.P.info? e=some i)(hz:i.zero=some z0)
  (hsz:i.size=sz) (hby:i.bytes=bytes) (hzs:z0.cells.size=sz) (hpos:0<sz) (hbp:0<bytes) (hone:∀y∈r,∀u∈en y,u.oneCell'=true) (hen:∀y,(en y).length=sz)
  (hy:ev E y=some v) (hz2:ev E z=some v2) (hL:L=OwS true e sz en v q::L') (hk:∀w,St x.G R L w→Row w sz en v2 r) (hb:apd bytes q r=some s) :
  OW x ks (.call ⟨.builtin .append,#[y,z],#[t,t]⟩) ty E R L (App e sz en R L' s) :=
 ow_of fun dst pos aft g a w hf hst=>by
  subst hL
  unfold apd at hb
  split at hb
  case isFalse=>cases hb
  rename_i hfit
  cases hb
  rcases Nat.eq_zero_or_pos r.length with hne0 | hne
  ·obtain rfl:r=[]:=List.eq_nil_of_length_eq_zero hne0
   obtain ⟨a2,c2,rfl,_⟩:=hk w hst
   obtain ⟨h0,hh0,hw0⟩:=hst.get (i:=0) rfl
   have hsizeOf:∀w,(sizeOf e).run x.P w = .ok sz w:=fun w=>by rw [←hsz];have:=run_sizeOf (P:=x.P) (w:=w) hi;simpa [Program.cellsOf,hi] using this
   refine ⟨v,R,_,w,?_,Le.refl R,⟨rfl,rfl⟩,by rw [List.append_nil];exact hst⟩
   rcases hh0 with ⟨rfl,rfl⟩ | ⟨b,o,c,cs,fr,rfl,hbb,_,he,hl,hq,hm,hap⟩
   ·simp [execOp,resolve,hf.ev hy,hf.ev hz2,invoke,builtin,Builtin.append_,run_underlying ht,hsizeOf,Builtin.lenOf]
    cases a2 <;> simp [Builtin.firstCells,loadCells,loadCellsFrom]
   ·simp [execOp,resolve,hf.ev hy,hf.ev hz2,invoke,builtin,Builtin.append_,run_underlying ht,hsizeOf,Builtin.lenOf,hq]
    cases a2 <;> simp [Builtin.firstCells,loadCells,loadCellsFrom,storeCells]
  obtain ⟨a2,c2,rfl,hrow⟩:=hk w hst
  rcases hrow with rfl | ⟨b2,o2,cs2,T2,fr2,rfl,hb2,he2⟩
  ·simp at hne
  have hn63:q.length+r.length≤140737488355328:=Nat.le_trans (Nat.le_mul_of_pos_right _ hbp) hfit
  have hflat2:=flat_take hen he2
  have hnl:((r.map en).flatten).length=r.length*i.size:=by rw [hsz];exact flat_len hen r
  have hnews:∀j u,((r.map en).flatten)[j]? = some u→w.cell? ((⟨b2,o2,none⟩:Addr).add j)=some u:=fun j u hj=>by
   rw [add_eq]
   rw [←hflat2] at hj
   have hcell:=hb2
   rw [List.getElem?_take] at hj
   split at hj
   ·rw [List.getElem?_drop] at hj
    simp [World.cell?,hcell,hj]
   ·cases hj
  have h1':∀u∈(r.map en).flatten,u.oneCell'=true:=fun u hu=>by
   obtain ⟨c,hc,hu⟩:=List.mem_flatten.1 hu
   obtain ⟨y,hm,rfl⟩:=List.mem_map.1 hc
   exact hone y hm u hu
  have hrun:∀{u w'},(Builtin.append_ #[t,t] ty #[v,.slice (some ⟨b2,o2,none⟩) r.length c2]).run x.P w = .ok u w' →
    (execOp a.eval ⟨dst,.call ⟨.builtin .append,#[y,z],#[t,t]⟩,ty,pos,aft,g⟩).run x.P w = .ok (.value u) w':=fun h=>by
   simp [execOp,resolve,hf.ev hy,hf.ev hz2,invoke,builtin,h]
  obtain ⟨h0,hh0,hw0⟩:=hst.get (i:=0) rfl
  have hml:maxLen=9223372036854775807:=rfl
  rcases hh0 with ⟨rfl,rfl⟩ | ⟨b,o,c,cs,fr,rfl,hbb,_,he,hl,hq,hm,hap⟩
  ·have hr:=run_append_nil (P:=x.P) w t ty e i z0 ht hi hz ⟨b2,o2,none⟩ r.length c2 _ hnl hnews hne (by omega) (by rw [hby];simp at hfit;omega)
   have hge:=grownCap_ge w r.length 0 e
   have hgm:=grownCap_le_maxLen w r.length 0 e (by simp at hn63;omega)
   refine ⟨_,R,_,_,hrun hr,Le.refl R,⟨rfl,rfl⟩,?_⟩
   have hst':St x.G R L' w:=hst.drop
   refine St.addB (w':=w.drew.alloc _) hst' rfl rfl rfl (fun b hb=>RowKit.Below.heap_alloc w.drew _ b hb) (heap_alloc_new w.drew _) ?_
   refine .inr ⟨w.heap.size,0,grownCap w r.length 0 e,(r.map en).flatten++(Builtin.zeroCells z0.cells (grownCap w r.length 0 e-r.length)).toList,(0,0),by simp,?_,?_,?_,?_,by simpa using hge,hgm,fun _=>⟨rfl,rfl,?_⟩⟩
   ·simp
   ·intro k _ _;simp
   ·rw [List.nil_append]
    apply flat_of hen
    rw [List.drop_zero,List.take_append_of_le_length (by rw [flat_len hen];exact Nat.le_refl _),List.take_of_length_le (by rw [flat_len hen];exact Nat.le_refl _)]
   ·simp only [List.length_append,flat_len hen,Array.length_toList,size_zeroCells,hzs]
    rw [←Nat.add_mul];simp;exact Nat.mul_le_mul_right _ (by omega)
   ·simp only [List.length_append,flat_len hen,Array.length_toList,size_zeroCells,hzs]
    rw [←Nat.add_mul];congr 1;omega
  ·obtain ⟨rfl,rfl,hcl⟩:=hap rfl
   have hflat:=flat_take hen he
   by_cases hroom:q.length+r.length≤c
   ·have hmul:(q.length+r.length)*sz≤c*sz:=Nat.mul_le_mul_right _ hroom
    rw [Nat.add_mul] at hmul
    have hr:=run_append_room (P:=x.P) w t ty e i ht hi b q.length c cs.toArray (hw0 _ _ hbb) ⟨b2,o2,none⟩ r.length c2 _ hnl hnews h1' hroom (by rw [hnl,hsz];simp;omega)
    refine ⟨_,R,_,_,hrun hr,Le.refl R,⟨rfl,rfl⟩,?_⟩
    have hcur:=hw0 _ _ hbb
    have hblt:b<w.heap.size:=hw0.lt (b:=b) (by rw [hbb];simp)
    have hnc:(cs.take (q.length*i.size)++(r.map en).flatten++cs.drop (q.length*i.size+((r.map en).flatten).length)).length=c*sz:=by
     rw [hnl,hsz]
     simp only [List.length_append,List.length_take,List.length_drop,flat_len hen,hcl]
     rw [Nat.min_eq_left (by omega)];omega
    refine hst.updP (b:=b) (o' := .cells (cs.take (q.length*i.size)++(r.map en).flatten++cs.drop (q.length*i.size+((r.map en).flatten).length)).toArray e (0,0)) ?_ ?_
    ·refine ⟨rfl,rfl,rfl,by simp [World.setRow],?_,?_⟩
     ·simp [World.setRow,Array.getElem?_modify,hcur]
     ·intro k hk
      simp only [World.setRow,Array.getElem?_modify]
      rw [if_neg (fun e=>hk e.symm)]
    ·intro k hk hkw
     rcases hk with ⟨e1,_⟩ | ⟨b',o',c',cs',fr',e1,hb',_⟩
     ·cases e1
     simp only [Value.slice.injEq,Option.some.injEq,Addr.mk.injEq] at e1
     obtain ⟨⟨rfl,rfl,_⟩,_,rfl⟩:=e1
     refine ⟨by rw [hb'];simp,.inr ⟨b,0,c,_,(0,0),by simp,by simp only [if_true],?_,?_,by rw [hnc];omega,by simpa using hroom,hm,fun _=>⟨rfl,rfl,hnc⟩⟩⟩
     ·intro k _ _;simp
     ·apply flat_of hen
      rw [List.drop_zero,hsz,List.length_append,List.map_append,List.flatten_append]
      rw [List.take_append_of_le_length (by simp only [List.length_append,List.length_take,flat_len hen,hcl];rw [Nat.add_mul,Nat.min_eq_left (by omega)];exact Nat.le_refl _)]
      rw [List.take_of_length_le (by simp only [List.length_append,List.length_take,flat_len hen,hcl];rw [Nat.add_mul,Nat.min_eq_left (by omega)];exact Nat.le_refl _)]
      rw [List.drop_zero] at hflat
      rw [hflat]
   ·have hr:=run_append_grow (P:=x.P) w t ty e i z0 ht hi hz ⟨b,0,none⟩ q.length c _ (by rw [hsz];exact flat_len hen q) (fun j u hj=>by
     rw [add_eq]
     rw [←hflat] at hj
     have hcell:=hw0 _ _ hbb
     rw [List.getElem?_take] at hj
     split at hj
     ·rw [List.getElem?_drop] at hj
      simp only [Nat.zero_add] at hj ⊢
      simp [World.cell?,hcell,hj]
     ·cases hj) ⟨b2,o2,none⟩ r.length c2 _ hnl hnews (by omega) (by omega) (growslice_fits (by omega) (by rw [hby];exact hfit))
    have hge:=grownCap_ge w (q.length+r.length) c e
    have hgm:=grownCap_le_maxLen w (q.length+r.length) c e (by omega)
    refine ⟨_,R,_,_,hrun hr,Le.refl R,⟨rfl,rfl⟩,?_⟩
    have hst':St x.G R L' w:=hst.drop
    refine St.addB (w':=w.drew.alloc _) hst' rfl rfl rfl (fun b hb=>RowKit.Below.heap_alloc w.drew _ b hb) (heap_alloc_new w.drew _) ?_
    refine .inr ⟨w.heap.size,0,grownCap w (q.length+r.length) c e,(q.map en).flatten++(r.map en).flatten++(Builtin.zeroCells z0.cells (grownCap w (q.length+r.length) c e-(q.length+r.length))).toList,(0,0),by simp,?_,?_,?_,?_,by simpa using hge,hgm,fun _=>⟨rfl,rfl,?_⟩⟩
    ·simp
    ·intro k _ _;simp
    ·apply flat_of hen
     rw [List.drop_zero,List.take_append_of_le_length (by simp only [List.length_append,flat_len hen,Nat.add_mul];exact Nat.le_refl _),List.take_of_length_le (by simp only [List.length_append,flat_len hen,Nat.add_mul];exact Nat.le_refl _)]
     simp
    ·simp only [List.length_append,flat_len hen,Array.length_toList,size_zeroCells,hzs]
     rw [←Nat.add_mul,←Nat.add_mul];simp;exact Nat.mul_le_mul_right _ (by omega)
    ·simp only [List.length_append,flat_len hen,Array.length_toList,size_zeroCells,hzs]
     rw [←Nat.add_mul,←Nat.add_mul];congr 1;omega
end
section
variable {x:Cx} {ks:List KF} {E:Env} {R R':PH} {L L':List HP} {ops:Array Oper} {ty:TypeId} {v u:Value} {d:Nat}
theorem si{α:Type}{a b:α}(h:some a=some b):a=b:=Option.some.inj h
theorem nxt{B:Bool}{C:Prop}(h:B=false):B=true→C:=fun e=>by rw [h] at e;cases e
theorem z{α:Sort _}{a:α}: a=a:=rfl
section
variable {dst:Option Tmp} {op:Op} {pos:String} {aft:Array Edge} {l:List Oper} {c e:Code} {ops':Array Oper} {id j s:Nat} {V E0:Env} {i:Nat} {r:List Nat} {b g:Bool}
def zp:List Nat→List Value→Env
 | i::r,v::s=>(i,v)::zp r s
 | _,_=>[]
theorem stn{ops:Array Oper}{effs S:List Nat}(ms qs es:List Nat)(vs:List Value)(hq:Quiet x ops (zp qs vs++V) E0 R L qs)(he:EffsOK x ops ks effs S (zp qs vs++V) E0 R L es)
  (hfin:(effs.all fun e=>S.any (Nat.beq e))=true→EX x .normal ks (envF ops (zp qs vs++V) E0) R L)
  (hW:((zp qs vs).all fun p=>(lk V p.1).isNone)=true:=by exact z) (hw:wfR 0 [] ops.toList=true:=by exact z) (hE:(effs.all fun e=>Nat.blt e ops.size)=true:=by exact z)
  (hS:(S.all fun s=>effs.any (Nat.beq s))=true:=by exact z) (hN:(ops.toList.all fun o=>match o.dst with | some d=>Nat.blt d x.N | none=>true)=true:=by exact z)
  (hms:masks ops.toList []=ms:=by exact z) (hqs:quietOf ops.size ms effs S=qs:=by exact z) (hes:effsOf ms effs S=es:=by exact z):Stage x ops ks effs S V E0 R L :=
 stage_ext _ hW (stage hw hE hS hN ms qs es hms hqs hes hq he hfin)
theorem stx{ops:Array Oper}{effs S:List Nat}(is:List Nat)(ms qs es:List Nat)(vs:List Value)(hq:Quiet x ops (zp is vs++V) E0 R L qs)(he:EffsOK x ops ks effs S (zp is vs++V) E0 R L es)
  (hfin:(effs.all fun e=>S.any (Nat.beq e))=true→EX x .normal ks (envF ops (zp is vs++V) E0) R L)
  (hW:((zp is vs).all fun p=>(lk V p.1).isNone)=true:=by exact z) (hw:wfR 0 [] ops.toList=true:=by exact z) (hE:(effs.all fun e=>Nat.blt e ops.size)=true:=by exact z)
  (hS:(S.all fun s=>effs.any (Nat.beq s))=true:=by exact z) (hN:(ops.toList.all fun o=>match o.dst with | some d=>Nat.blt d x.N | none=>true)=true:=by exact z)
  (hms:masks ops.toList []=ms:=by exact z) (hqs:quietOf ops.size ms effs S=qs:=by exact z) (hes:effsOf ms effs S=es:=by exact z):Stage x ops ks effs S V E0 R L :=
 stage_ext _ hW (stage hw hE hS hN ms qs es hms hqs hes hq he hfin)
theorem r_mv{y:Operand}(h:ev E y=some v)(k:RL x ops ks l ((d,v)::E) R L)(hd:Nat.blt d x.N=true:=by rfl):RL x ops ks (⟨some d,.move y,ty,pos,aft,none⟩::l) E R L:=r_u (o_mv h) k hd
theorem r_as{y:Operand}(h:ev E y=some v)(k:RL x ops ks l ((d,v)::E) R L)(hd:Nat.blt d x.N=true:=by rfl):RL x ops ks (⟨some d,.assign y,ty,pos,aft,none⟩::l) E R L:=r_u (o_as h) k hd
theorem r_nc{y:Operand}{a:Addr}(h:ev E y=some (.pointer (some a)))(k:RL x ops ks l ((d,.pointer (some a))::E) R L)(hd:Nat.blt d x.N=true:=by rfl):RL x ops ks (⟨some d,.nilCheck y,ty,pos,aft,none⟩::l) E R L:=r_u (o_nc h) k hd
theorem r_fa{y:Operand}{s f o b off q:Nat}(h:Fa x.P s f o)(hy:ev E y=some (pt b off))(k:RL x ops ks l ((d,pt b q)::E) R L)(hq:off+o=q:=by rfl)(hd:Nat.blt d x.N=true:=by rfl):
  RL x ops ks (⟨some d,.fieldAddr s y f,ty,pos,aft,none⟩::l) E R L:=r_u (o_fa h hy hq) k hd
theorem r_ext{y:Operand}{i:Nat}{vs:Array Value}(h:ev E y=some (.tuple vs))(hi:vs[i]? = some v)(k:RL x ops ks l ((d,v)::E) R L)(hd:Nat.blt d x.N=true:=by rfl):RL x ops ks (⟨some d,.extract y i,ty,pos,aft,none⟩::l) E R L:=r_u (o_ext h hi) k hd
theorem r_ld{y:Operand}{t b off T:Nat}{cs:List Value}{fr:Nat×Nat}(i:Nat)(ht:Sc x.P t)(hy:ev E y=some (pt b off))(hi:L[i]? = some (Blk b (.cells cs.toArray T fr)))(hc:cs[off]? = some v)
  (k:RL x ops ks l ((d,v)::E) R L) (hd:Nat.blt d x.N=true:=by rfl):RL x ops ks (⟨some d,.load t y,ty,pos,aft,none⟩::l) E R L:=r_u (o_ld i ht hy hi hc) k hd
theorem r_bin{bo:BinOp}{t t':TypeId}{y z:Operand}{a b:Value}(hy:ev E y=some a)(hz:ev E z=some b)(h:Bop x.P bo t a b v)(k:RL x ops ks l ((d,v)::E) R L)(hd:Nat.blt d x.N=true:=by rfl):
  RL x ops ks (⟨some d,.binOp bo t y z t',ty,pos,aft,none⟩::l) E R L:=r_u (o_bin hy hz h) k hd
theorem nsq(h:CD x c ks E R L):RL x ops (.seq c::ks) [] E R L:=r_nil (x_seq h)
theorem csr(h:RL x ops (.seq c::ks) ops.toList E R L):CD x (.seq (.region id ops false) c) ks E R L:=c_seq (c_reg h)
theorem nsr(h:RL x ops' (.seq c::ks) ops'.toList E R L):RL x ops (.seq (.seq (.region id ops' false) c)::ks) [] E R L:=nsq (csr h)
theorem nssr(h:RL x ops' (.seq c :: .seq e::ks) ops'.toList E R L):RL x ops (.seq (.seq (.seq (.region id ops' false) c) e)::ks) [] E R L:=nsq (c_seq (csr h))
theorem q_u(ho:ops[i]? = some ⟨dst,op,ty,pos,aft,none⟩)(hv:lk V i=some v)(h:OU x op ty (envD ops V E0 i) R L v R L)(k:Quiet x ops V E0 R L r):Quiet x ops V E0 R L (i::r):=qc ho hv (s_u h) k
theorem q_y(ho:ops[i]? = some ⟨dst,op,ty,pos,aft,some (j,b)⟩)(hv:lk V i=some v)(hj:(ops[j]?).bind (·.dst)=some s)(hs:lk (envD ops V E0 i) s=some (vB g))(hc:g=b)(h:OU x op ty (envD ops V E0 i) R L v R L)(k:Quiet x ops V E0 R L r):
  Quiet x ops V E0 R L (i::r):=qc ho hv (s_y hj hs hc h) k
theorem q_n(ho:ops[i]? = some ⟨dst,op,ty,pos,aft,some (j,b)⟩)(hv:lk V i=some undef)(hj:(ops[j]?).bind (·.dst)=some s)(hs:lk (envD ops V E0 i) s=some (vB g))(hc:g = !b)(k:Quiet x ops V E0 R L r):
  Quiet x ops V E0 R L (i::r):=qc ho hv (s_n hj hs hc) k
theorem q_mv{y:Operand}(ho:ops[i]? = some ⟨dst,.move y,ty,pos,aft,none⟩)(hv:lk V i=some v)(h:ev (envD ops V E0 i) y=some v)(k:Quiet x ops V E0 R L r):Quiet x ops V E0 R L (i::r):=q_u ho hv (o_mv h) k
theorem q_fa{y:Operand}{s f o b off q:Nat}(ho:ops[i]? = some ⟨dst,.fieldAddr s y f,ty,pos,aft,none⟩)(hv:lk V i=some (pt b q))(h:Fa x.P s f o)(hy:ev (envD ops V E0 i) y=some (pt b off))(k:Quiet x ops V E0 R L r)(hq:off+o=q:=by rfl):
  Quiet x ops V E0 R L (i::r):=q_u ho hv (o_fa h hy hq) k
theorem q_ld{y:Operand}{t b off T:Nat}{cs:List Value}{fr:Nat×Nat}(ho:ops[i]? = some ⟨dst,.load t y,ty,pos,aft,none⟩)(hv:lk V i=some v)(n:Nat)(ht:Sc x.P t)(hy:ev (envD ops V E0 i) y=some (pt b off))
  (hi:L[n]? = some (Blk b (.cells cs.toArray T fr))) (hc:cs[off]? = some v) (k:Quiet x ops V E0 R L r):Quiet x ops V E0 R L (i::r):=q_u ho hv (o_ld n ht hy hi hc) k
end
end
theorem rokn{cs q:List Value}{p sz:Nat}(o n:Nat)(h:(cs.drop p).take sz=q)(hb:Nat.ble (o+n) sz=true:=by rfl):(cs.drop (p+o)).take n=(q.drop o).take n:=by
 have hb:=Nat.le_of_ble_eq_true hb
 rw [←h,List.drop_take,List.drop_drop,List.take_take,Nat.min_eq_left (by omega)]
end Go.Proofs.YtpanhdnglicknaaGreat.Hw
