import Derived.Test.YtpanhdnglicknaaGreatHwI
set_option linter.unusedSimpArgs false
set_option linter.unusedVariables false
namespace Go.Proofs.YtpanhdnglicknaaGreat.Hw
open Go
section
variable {x:Cx} {ks:List KF} {E:Env} {R R':PH} {L L':List HP} {ops:Array Oper} {ty:TypeId} {v u:Value} {d:Nat}
variable {α:Type} {ap:Bool} {T sz:Nat} {en:α→List Value} {q:List α}
theorem flat_take(hen:∀y,(en y).length=sz):∀{l:List α} {cs:List Value} {o:Nat},(∀i y,l[i]? = some y→(cs.drop (o+i*sz)).take sz=en y)→(cs.drop o).take (l.length*sz)=(l.map en).flatten
 | [],cs,o,_=>by simp
 | y::l,cs,o,h=>by
  have h0:=h 0 y rfl
  have ih:=flat_take hen (l:=l) (cs:=cs) (o:=o+sz) (fun i z hz=>by
   have:=h (i+1) z (by simpa using hz)
   rw [←this];congr 2;rw [Nat.add_mul];omega)
  rw [List.length_cons,Nat.add_mul,Nat.one_mul,Nat.add_comm,List.take_add,List.drop_drop,ih]
  simp only [Nat.zero_mul,Nat.add_zero] at h0
  rw [h0]
  simp
theorem flat_len(hen:∀y,(en y).length=sz):∀(l:List α),(l.map en).flatten.length=l.length*sz
 | []=>by simp
 | y::l=>by
  have:=flat_len hen l
  simp only [List.map_cons,List.flatten_cons,List.length_append,hen,List.length_cons,Nat.add_mul,this]
  omega
theorem flat_el(hen:∀y,(en y).length=sz):∀{l:List α} {i:Nat} {y:α},l[i]? = some y→((l.map en).flatten.drop (i*sz)).take sz=en y
 | [],_,_,h=>by simp at h
 | z::l,0,y,h=>by simp at h;subst h;simp [List.take_append,hen]
 | z::l,i+1,y,h=>by
  have:=flat_el hen (l:=l) (i:=i) (by simpa using h)
  rw [List.map_cons,List.flatten_cons,List.drop_append,hen,List.drop_eq_nil_of_le (by rw [hen,Nat.add_mul];omega)]
  rw [show (i+1)*sz-sz=i*sz by rw [Nat.add_mul];omega]
  simpa using this
theorem flat_of(hen:∀y,(en y).length=sz){l:List α}{cs:List Value}{o:Nat}(h:(cs.drop o).take (l.length*sz)=(l.map en).flatten):∀i y,l[i]? = some y→(cs.drop (o+i*sz)).take sz=en y:=by
 intro i y hi
 have hl:i<l.length:=(List.getElem?_eq_some_iff.1 hi).1
 have hm:(i+1)*sz≤l.length*sz:=Nat.mul_le_mul_right _ hl
 rw [Nat.add_mul,Nat.one_mul] at hm
 rw [←flat_el hen hi,←h,List.drop_take,List.take_take,List.drop_drop,Nat.min_eq_left (by omega)]
def App{α:Type}(e sz:Nat)(en:α→List Value)(R:PH)(L:List HP)(l:List α):Value→PH→List HP→Prop:=fun u R' L'=>R'=R∧L'=OwS true e sz en u l::L
def apd{α:Type}(bytes:Nat)(l r:List α):Option (List α):=if (l.length+r.length)*bytes≤140737488355328 then some (l++r) else none
theorem o_ap{t e bytes:Nat}{i:TypeInfo}{z0:Value}{y z:Operand}{v2:Value}{r s:List α}{T2:Nat}(k:Nat)(ht:x.P.underlying t=some (.slice e))(hi:x.P.info? e=some i)(hz:i.zero=some z0)
  (hsz:i.size=sz) (hby:i.bytes=bytes) (hzs:z0.cells.size=sz) (hpos:0<sz) (hbp:0<bytes) (hone:∀y∈r,∀u∈en y,u.oneCell'=true) (hen:∀y,(en y).length=sz)
  (hy:ev E y=some v) (hz2:ev E z=some v2) (hL:L=OwS true e sz en v q::L') (hk:L'[k]? = some (OwS ap T2 sz en v2 r)) (hne:0<r.length) (hb:apd bytes q r=some s) :
  OW x ks (.call ⟨.builtin .append,#[y,z],#[t,t]⟩) ty E R L (App e sz en R L' s) :=
 ow_of fun dst pos aft g a w hf hst=>by
  subst hL
  unfold apd at hb
  split at hb
  case isFalse=>cases hb
  rename_i hfit
  cases hb
  obtain ⟨h2,hh2,hw2⟩:=hst.get (i:=k+1) (by simpa using hk)
  rcases hh2 with ⟨_,rfl⟩ | ⟨b2,o2,c2,cs2,fr2,rfl,hb2,_,he2,hl2,hq2,hm2,_⟩
  ·simp at hne
  have hn63:q.length+r.length≤140737488355328:=Nat.le_trans (Nat.le_mul_of_pos_right _ hbp) hfit
  have hflat2:=flat_take hen he2
  have hnl:((r.map en).flatten).length=r.length*i.size:=by rw [hsz];exact flat_len hen r
  have hnews:∀j u,((r.map en).flatten)[j]? = some u→w.cell? ((⟨b2,o2,none⟩:Addr).add j)=some u:=fun j u hj=>by
   rw [add_eq]
   rw [←hflat2] at hj
   have hcell:=hw2 _ _ hb2
   rw [List.getElem?_take] at hj
   split at hj
   ·rw [List.getElem?_drop] at hj
    simp [World.cell?,hcell,hj]
   ·cases hj
  have h1':∀u∈(r.map en).flatten,u.oneCell'=true:=fun u hu=>by
   obtain ⟨c,hc,hu⟩:=List.mem_flatten.1 hu
   obtain ⟨y,hm,rfl⟩:=List.mem_map.1 hc
   exact hone y hm u hu
  have hrun:∀{u w'},(Builtin.append_ #[t,t] ty #[v,.slice (some ⟨b2,o2,none⟩) r.length c2]).run x.P w = .ok u w' →
    (execOp a.eval ⟨dst,.call ⟨.builtin .append,#[y,z],#[t,t]⟩,ty,pos,aft,g⟩).run x.P w = .ok (.value u) w':=fun h=>by
   simp [execOp,resolve,hf.ev hy,hf.ev hz2,invoke,builtin,h]
  obtain ⟨h0,hh0,hw0⟩:=hst.get (i:=0) rfl
  have hml:maxLen=9223372036854775807:=rfl
  rcases hh0 with ⟨rfl,rfl⟩ | ⟨b,o,c,cs,fr,rfl,hbb,_,he,hl,hq,hm,hap⟩
  ·have hr:=run_append_nil (P:=x.P) w t ty e i z0 ht hi hz ⟨b2,o2,none⟩ r.length c2 _ hnl hnews hne (by omega) (by rw [hby];simp at hfit;omega)
   have hge:=grownCap_ge w r.length 0 e
   have hgm:=grownCap_le_maxLen w r.length 0 e (by simp at hn63;omega)
   refine ⟨_,R,_,_,hrun hr,Le.refl R,⟨rfl,rfl⟩,?_⟩
   have hst':St x.G R L' w:=hst.drop
   refine St.addB (w':=w.drew.alloc _) hst' rfl rfl rfl (fun b hb=>RowKit.Below.heap_alloc w.drew _ b hb) (heap_alloc_new w.drew _) ?_
   refine .inr ⟨w.heap.size,0,grownCap w r.length 0 e,(r.map en).flatten++(Builtin.zeroCells z0.cells (grownCap w r.length 0 e-r.length)).toList,(0,0),by simp,?_,?_,?_,?_,by simpa using hge,hgm,fun _=>⟨rfl,rfl,?_⟩⟩
   ·simp
   ·intro k _ _;simp
   ·rw [List.nil_append]
    apply flat_of hen
    rw [List.drop_zero,List.take_append_of_le_length (by rw [flat_len hen];exact Nat.le_refl _),List.take_of_length_le (by rw [flat_len hen];exact Nat.le_refl _)]
   ·simp only [List.length_append,flat_len hen,Array.length_toList,size_zeroCells,hzs]
    rw [←Nat.add_mul];simp;exact Nat.mul_le_mul_right _ (by omega)
   ·simp only [List.length_append,flat_len hen,Array.length_toList,size_zeroCells,hzs]
    rw [←Nat.add_mul];congr 1;omega
  ·obtain ⟨rfl,rfl,hcl⟩:=hap rfl
   have hflat:=flat_take hen he
   by_cases hroom:q.length+r.length≤c
   ·have hmul:(q.length+r.length)*sz≤c*sz:=Nat.mul_le_mul_right _ hroom
    rw [Nat.add_mul] at hmul
    have hr:=run_append_room (P:=x.P) w t ty e i ht hi b q.length c cs.toArray (hw0 _ _ hbb) ⟨b2,o2,none⟩ r.length c2 _ hnl hnews h1' hroom (by rw [hnl,hsz];simp;omega)
    refine ⟨_,R,_,_,hrun hr,Le.refl R,⟨rfl,rfl⟩,?_⟩
    have hcur:=hw0 _ _ hbb
    have hblt:b<w.heap.size:=hw0.lt (b:=b) (by rw [hbb];simp)
    have hnc:(cs.take (q.length*i.size)++(r.map en).flatten++cs.drop (q.length*i.size+((r.map en).flatten).length)).length=c*sz:=by
     rw [hnl,hsz]
     simp only [List.length_append,List.length_take,List.length_drop,flat_len hen,hcl]
     rw [Nat.min_eq_left (by omega)];omega
    refine hst.updP (b:=b) (o' := .cells (cs.take (q.length*i.size)++(r.map en).flatten++cs.drop (q.length*i.size+((r.map en).flatten).length)).toArray e (0,0)) ?_ ?_
    ·refine ⟨rfl,rfl,rfl,by simp [World.setRow],?_,?_⟩
     ·simp [World.setRow,Array.getElem?_modify,hcur]
     ·intro k hk
      simp only [World.setRow,Array.getElem?_modify]
      rw [if_neg (fun e=>hk e.symm)]
    ·intro k hk hkw
     rcases hk with ⟨e1,_⟩ | ⟨b',o',c',cs',fr',e1,hb',_⟩
     ·cases e1
     simp only [Value.slice.injEq,Option.some.injEq,Addr.mk.injEq] at e1
     obtain ⟨⟨rfl,rfl,_⟩,_,rfl⟩:=e1
     refine ⟨by rw [hb'];simp,.inr ⟨b,0,c,_,(0,0),by simp,by simp only [if_true],?_,?_,by rw [hnc];omega,by simpa using hroom,hm,fun _=>⟨rfl,rfl,hnc⟩⟩⟩
     ·intro k _ _;simp
     ·apply flat_of hen
      rw [List.drop_zero,hsz,List.length_append,List.map_append,List.flatten_append]
      rw [List.take_append_of_le_length (by simp only [List.length_append,List.length_take,flat_len hen,hcl];rw [Nat.add_mul,Nat.min_eq_left (by omega)];exact Nat.le_refl _)]
      rw [List.take_of_length_le (by simp only [List.length_append,List.length_take,flat_len hen,hcl];rw [Nat.add_mul,Nat.min_eq_left (by omega)];exact Nat.le_refl _)]
      rw [List.drop_zero] at hflat
      rw [hflat]
   ·have hr:=run_append_grow (P:=x.P) w t ty e i z0 ht hi hz ⟨b,0,none⟩ q.length c _ (by rw [hsz];exact flat_len hen q) (fun j u hj=>by
     rw [add_eq]
     rw [←hflat] at hj
     have hcell:=hw0 _ _ hbb
     rw [List.getElem?_take] at hj
     split at hj
     ·rw [List.getElem?_drop] at hj
      simp only [Nat.zero_add] at hj ⊢
      simp [World.cell?,hcell,hj]
     ·cases hj) ⟨b2,o2,none⟩ r.length c2 _ hnl hnews (by omega) (by omega) (growslice_fits (by omega) (by rw [hby];exact hfit))
    have hge:=grownCap_ge w (q.length+r.length) c e
    have hgm:=grownCap_le_maxLen w (q.length+r.length) c e (by omega)
    refine ⟨_,R,_,_,hrun hr,Le.refl R,⟨rfl,rfl⟩,?_⟩
    have hst':St x.G R L' w:=hst.drop
    refine St.addB (w':=w.drew.alloc _) hst' rfl rfl rfl (fun b hb=>RowKit.Below.heap_alloc w.drew _ b hb) (heap_alloc_new w.drew _) ?_
    refine .inr ⟨w.heap.size,0,grownCap w (q.length+r.length) c e,(q.map en).flatten++(r.map en).flatten++(Builtin.zeroCells z0.cells (grownCap w (q.length+r.length) c e-(q.length+r.length))).toList,(0,0),by simp,?_,?_,?_,?_,by simpa using hge,hgm,fun _=>⟨rfl,rfl,?_⟩⟩
    ·simp
    ·intro k _ _;simp
    ·apply flat_of hen
     rw [List.drop_zero,List.take_append_of_le_length (by simp only [List.length_append,flat_len hen,Nat.add_mul];exact Nat.le_refl _),List.take_of_length_le (by simp only [List.length_append,flat_len hen,Nat.add_mul];exact Nat.le_refl _)]
     simp
    ·simp only [List.length_append,flat_len hen,Array.length_toList,size_zeroCells,hzs]
     rw [←Nat.add_mul,←Nat.add_mul];simp;exact Nat.mul_le_mul_right _ (by omega)
    ·simp only [List.length_append,flat_len hen,Array.length_toList,size_zeroCells,hzs]
     rw [←Nat.add_mul,←Nat.add_mul];congr 1;omega
end
end Go.Proofs.YtpanhdnglicknaaGreat.Hw
