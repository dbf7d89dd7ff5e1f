import Derived.Test.YtpanhdnglicknaaGreatHwH
import Derived.Laws.BytesString
import Derived.Laws.BytesArg
set_option linter.unusedSimpArgs false
set_option linter.unusedVariables false
namespace Go.Proofs.YtpanhdnglicknaaGreat.Hw
open Go
section
variable {x:Cx} {ks:List KF} {E:Env} {R R':PH} {L L':List HP} {ops:Array Oper} {l:List Oper} {ty:TypeId} {v u:Value} {d:Nat}
variable {α:Type} {ap:Bool} {T sz:Nat} {en:α→List Value} {q:List α}
def NwS{α:Type}(ap:Bool)(T sz:Nat)(en:α→List Value)(R:PH)(L:List HP)(l:List α):Value→PH→List HP→Prop :=
 fun u R' L'=>R'=R∧L'=OwS ap T sz en u l::L
theorem St.addB{G:World}{w w':World}{p:HP}{o:Obj}(h:St G R L w)(hos:w'.os=w.os)(htape:w'.tape=w.tape)(hout:w'.output=w.output)
  (hext:∀b,b<w.heap.size→w'.heap[b]? = w.heap[b]?) (hn:w'.heap[w.heap.size]? = some o) (hp:p (fun b=>if b=w.heap.size then some o else none)):St G R (p::L) w' :=
 h.add hos htape hout hext hp (fun b q e=>by
  split at e
  ·rename_i hb;subst hb;rw [hn];exact e
  ·cases e) (fun b hb=>by
  split at hb
  ·omega
  ·simp at hb)
theorem o_sb{s e dd:TypeId}{y:Operand}{t:Str}(hs:x.P.underlying s=some .string)(hd:x.P.underlying dd=some (.slice e))(he:x.P.underlying e=some (.int .u8))(hy:ev E y=some (vS t))(hl:t.length≤maxLen):
  OW x ks (.convert s dd y) ty E R L (NwS false e 1 eY R L t) :=
 ow_of fun _ _ _ _ a w hf hst=>by
  have hr:=Lib.run_convert_string_bytes (P:=x.P) w s dd e ⟨t.toArray⟩ hs hd he
  have hsz:(⟨t.toArray⟩:ByteArray).size=t.length:=by simp [ByteArray.size]
  have hg:=grownCap_ge w t.length 0 e
  have hgm:=grownCap_le_maxLen w t.length 0 e hl
  refine ⟨.slice (some ⟨w.heap.size,0,none⟩) (⟨t.toArray⟩:ByteArray).size (grownCap w (⟨t.toArray⟩:ByteArray).size 0 e),R,_,Lib.bytesWorld w e ⟨t.toArray⟩,by simp [execOp,hf.ev hy,vS,hr],Le.refl R,⟨rfl,rfl⟩,?_⟩
  refine hst.addB rfl rfl rfl (fun b hb=>Lib.bytesWorld_at_old w e _ b hb) (Lib.bytesWorld_at_new w e _) ?_
  have hc:Lib.bytesCells w e ⟨t.toArray⟩=(t.map (fun c=>vY c)++List.replicate (grownCap w t.length 0 e-t.length) (Value.int IntKind.u8 0)).toArray:=by
   apply Array.toList_inj.1
   simp [Lib.bytesCells,hsz,vY]
  have hcs:(Lib.bytesCells w e ⟨t.toArray⟩).size=grownCap w t.length 0 e:=by rw [hc];simp;omega
  refine .inr ⟨w.heap.size,0,grownCap w t.length 0 e,t.map (fun c=>vY c)++List.replicate (grownCap w t.length 0 e-t.length) (Value.int IntKind.u8 0),((Lib.bytesCells w e ⟨t.toArray⟩).size,(Lib.bytesCells w e ⟨t.toArray⟩).size+1),by rw [hsz],by simp [hc],?_,?_,?_,hg,hgm,fun h=>by cases h⟩
  ·intro k _ hk;rw [hcs];simp;omega
  ·intro i y hi
   have hil:i<t.length:=by
    rcases Nat.lt_or_ge i t.length with h | h
    ·exact h
    ·rw [List.getElem?_eq_none h] at hi;cases hi
   apply List.ext_getElem?
   intro j
   cases j with
   | zero =>
    have hi':=(List.getElem?_eq_some_iff.1 hi).2
    simp [List.getElem?_take,List.getElem?_append,hil,hi',eY]
   | succ j=>simp [eY];omega
  ·simp;omega
theorem take_byte{cs:List Value}{o c:Nat}{t:Str}(he:∀i y,t[i]? = some y→(cs.drop (o+i*1)).take 1=[vY y]):∀i,i<t.length→cs[o+i]? = some (vY (t.getD i 0)):=by
 intro i hi
 have h:=he i t[i] (List.getElem?_eq_getElem hi)
 have h2:((cs.drop (o+i*1)).take 1)[0]? = some (vY t[i]):=by rw [h];rfl
 simp [List.getElem?_take] at h2
 simp [h2,List.getD,List.getElem?_eq_getElem hi]
theorem run_bs{P:Program}{w:World}{s e dd:TypeId}{t:Str}(hs:P.underlying s=some (.slice e))(he:P.underlying e=some (.int .u8))(hd:P.underlying dd=some .string){b o c T:Nat}{cs:List Value}{fr:Nat×Nat}
  (hb:w.heap[b]? = some (.cells cs.toArray T fr)) (hc:∀i y,t[i]? = some y→(cs.drop (o+i*1)).take 1=[vY y]):(convert s dd (.slice (some ⟨b,o,none⟩) t.length c)).run P w = .ok (vS t) w:=by
 have h:=run_convert_bytes_arg (P:=P) w s e hs he b o t.length c (t.map fun c=>(c.toNat:Int)) (by simp) (fun i hi=>by
  have:=take_byte (c:=c) hc i hi
  simp [World.cell?,hb,this,vY,List.getD,hi]) dd hd
 rw [h]
 congr 1
 simp only [vS]
 congr 1
 apply ByteArray.ext
 apply Array.toList_inj.1
 rw [strOfNums_data]
 simp only [List.map_map]
 exact (List.map_congr_left (fun c _=>by simp)).trans (List.map_id t)
theorem o_bs{s e dd:TypeId}{y:Operand}{t:Str}(k:Nat)(hs:x.P.underlying s=some (.slice e))(he:x.P.underlying e=some (.int .u8))(hd:x.P.underlying dd=some .string)
  (hy:ev E y=some v) (hk:L[k]? = some (OwS ap T 1 eY v t)):OV x (.convert s dd y) ty E R L (vS t) :=
 ou_of fun _ _ _ _ a w hf hst=>⟨w,by
  obtain ⟨h,hh,hw⟩:=hst.get hk
  rcases hh with ⟨rfl,rfl⟩ | ⟨b,o,c,cs,fr,rfl,hb,_,hc,_⟩
  ·have:=run_convert_bytes_nil (P:=x.P) w s e hs he 0 0 dd hd
   simp [execOp,hf.ev hy,this,vS];rfl
  ·have:=run_bs (P:=x.P) (c:=c) hs he hd (hw _ _ hb) hc
   simp [execOp,hf.ev hy,this],hst⟩
def Bsl(P:Program)(t n:Nat)(parts:Array (Nat×Value))(e:TypeId)(cs:List Value):Prop :=
 ∀w,(Instr.buildSlice t n parts).run P w = .ok (.slice (some ⟨w.heap.size,0,none⟩) n n) (w.alloc (.cells cs.toArray e))
theorem o_bsl{t n:Nat}{parts:Array (Nat×Operand)}{vs:List (Nat×Value)}{e:TypeId}{cs:List Value}{r:List α}
  (hv:evp E parts.toList=some vs) (h:Bsl x.P t n vs.toArray e cs) (hn:r.length=n) (hm:n≤maxLen)
  (hc:cs=(r.map en).flatten) (he:∀y,(en y).length=sz):OW x ks (.buildSlice t n parts) ty E R L (NwS true e sz en R L r) :=
 ow_of fun _ _ _ _ a w hf hst=>by
  have hb:=h w
  have hv':parts.map (fun p=>(p.1,a.eval p.2))=vs.toArray:=by
   apply Array.toList_inj.1
   simpa using evp_sound hf hv
  refine ⟨.slice (some ⟨w.heap.size,0,none⟩) n n,R,_,w.alloc (.cells cs.toArray e),by simp [execOp,hv',hb,-World.alloc_eq],Le.refl R,⟨rfl,rfl⟩,?_⟩
  refine hst.addB rfl rfl rfl (fun b hb=>RowKit.Below.heap_alloc w _ b hb) (heap_alloc_new w _) ?_
  have hlen:cs.length=n*sz:=by
   rw [hc,←hn]
   clear hc hn hm h hb
   induction r with
   | nil=>simp
   | cons y r ih=>simp [List.flatten_cons,he,ih,Nat.add_mul];omega
  refine .inr ⟨w.heap.size,0,n,cs,(0,0),by rw [hn],by simp,?_,?_,by omega,by omega,hm,fun _=>⟨rfl,rfl,hlen⟩⟩
  ·intro k _ _;simp
  ·subst hc
   clear hn hm h hb hlen
   intro i y hi
   rw [Nat.zero_add]
   induction r generalizing i with
   | nil=>simp at hi
   | cons z r ih =>
    cases i with
    | zero=>simp at hi;subst hi;simp [List.take_append,he]
    | succ i =>
     have:=ih i (by simpa using hi)
     rw [List.map_cons,List.flatten_cons,List.drop_append,he,List.drop_eq_nil_of_le (by rw [he,Nat.add_mul];omega)]
     rw [show (i+1)*sz-sz=i*sz by rw [Nat.add_mul];omega]
     simpa using this
end
end Go.Proofs.YtpanhdnglicknaaGreat.Hw
