import Derived.Test.YtpanhdnglicknaaGreatHwY
import Derived.Shelf.SlIter.Nil
import Derived.Shelf.SortM.Plain
import Derived.Shelf.SortM.SortNone
import Derived.Shelf.SlicesE.DeleteFunc
set_option linter.unusedVariables false
set_option linter.unusedSimpArgs false
set_option linter.unusedSectionVars false
namespace Go.Proofs.YtpanhdnglicknaaGreat.Hw
open Go Go.Maps
open Go.Proofs (encStr)
open Go.RowKit (Below)
section
variable {P:Program} {G:World} {R:PH} {L F:List HP} {V:Type} {vv:V→Value}
def kins(x:Str):List Str→List Str
 | []=>[x]
 | y::l=>if leB x y then x::y::l else y::kins x l
def ksort(l:List Str):List Str:=l.foldr kins []
theorem kins_perm(x:Str):∀l:List Str,(kins x l).Perm (x::l)
 | []=>List.Perm.refl _
 | y::l=>by
  unfold kins
  split
  ·exact List.Perm.refl _
  ·exact ((kins_perm x l).cons y).trans (List.Perm.swap x y l)
theorem ksort_perm:∀l:List Str,(ksort l).Perm l
 | []=>List.Perm.refl _
 | x::l=>(kins_perm x (ksort l)).trans ((ksort_perm l).cons x)
theorem leB_tr{a b c:Str}(h1:leB a b=true)(h2:leB b c=true):leB a c=true:=by simp only [leB,decide_eq_true_eq] at *;exact List.le_trans h1 h2
theorem leB_to(a b:Str):(leB a b||leB b a)=true:=by simp only [leB,Bool.or_eq_true,decide_eq_true_eq];exact List.le_total a b
theorem leB_as{a b:Str}(h1:leB a b=true)(h2:leB b a=true):a=b:=by simp only [leB,decide_eq_true_eq] at h1 h2;exact List.le_antisymm h1 h2
theorem kins_sorted(x:Str):∀l:List Str,l.Pairwise (fun a b=>leB a b=true)→(kins x l).Pairwise (fun a b=>leB a b=true)
 | [],_=>by simp [kins]
 | y::l,h=>by
  unfold kins
  rw [List.pairwise_cons] at h
  split
  ·rename_i hxy
   refine List.pairwise_cons.2 ⟨fun z hz =>?_,List.pairwise_cons.2 h⟩
   rcases List.mem_cons.1 hz with rfl | hz
   ·exact hxy
   ·exact leB_tr hxy (h.1 z hz)
  ·rename_i hxy
   refine List.pairwise_cons.2 ⟨fun z hz =>?_,kins_sorted x l h.2⟩
   have:=(kins_perm x l).subset hz
   rcases List.mem_cons.1 this with rfl | hz2
   ·have:=leB_to z y;simp only [Bool.or_eq_true] at this;exact this.resolve_left hxy
   ·exact h.1 z hz2
theorem ksort_sorted:∀l:List Str,(ksort l).Pairwise (fun a b=>leB a b=true)
 | []=>List.Pairwise.nil
 | x::l=>kins_sorted x _ (ksort_sorted l)
theorem ksort_of{l l':List Str}(h:l.Perm l'):l.mergeSort leB=ksort l' :=
 List.Perm.eq_of_pairwise (le:=fun a b=>leB a b=true) (fun a b _ _ h1 h2=>leB_as h1 h2) (List.pairwise_mergeSort (le:=leB) (fun a b c h1 h2=>leB_tr h1 h2) leB_to l) (ksort_sorted l')
  (((List.mergeSort_perm l leB).trans h).trans (ksort_perm l').symm)
def mkeys(m:List (Str×V)):Option (List Str):=if decide (m.length≤1000000)&&m.all (fun p=>decide (p.1.length≤1000000000)) then some (ksort (m.map (·.1))) else none
theorem own_map{T:TypeId}{w:World}{h:PH}{r:Nat}{m:List (Str×V)}(hk:P.underlying T=some .string)(hh:OwM vS vv (.map (some r)) m h)(hw:Has h w)
  (hl:m.length≤1000000) (hks:∀p∈m,p.1.length≤1000000000) :
  ∃D:DataW Unit,w.ownsMap P T (fun _=>some (.lit (.bool true),[])) r m.length D∧(strKeys D).Perm (m.map (·.1))∧Maps.size D=m.length:=by
 obtain ⟨r2,es,clock,e1,h1,h2,h3⟩:=hh
 cases e1
 have hlen:es.size=m.length:=by simpa using h2.len
 have hrd:∀x:MapEntry,∀s:Str,x.key=vS s→s.length≤1000000000→WideElems.rd (H:=Unit) P T (fun _=>some (.lit (.bool true),[])) x=some (.string s,.lit (.bool true)):=fun x s hx hs=>by
  unfold WideElems.rd
  rw [hx]
  have:(keyOf P T (vS s))=some (.string s):=by
   have hs':s.length≤maxLen:=Nat.le_trans hs (by decide)
   have h2:(⟨s.toArray⟩:ByteArray).size≤maxLen:=hs'
   simp [keyOf,hk,mapKey,vS,h2]
  rw [this];rfl
 have hkey:∀(es:List MapEntry) (m:List (Str×V)),EsM vS vv es m→(∀p∈m,p.1.length≤1000000000) →
   (∀x∈es,∃y,WideElems.rd (H:=Unit) P T (fun _=>some (.lit (.bool true),[])) x=some y)∧es.map (WideElems.rg (H:=Unit) P T (fun _=>some (.lit (.bool true),[])))=m.map fun p=>(.string p.1,.lit (.bool true)):=by
  intro es
  induction es with
  | nil=>intro m h _;cases m with | nil=>exact ⟨by simp,rfl⟩ | cons _ _=>simp [EsM] at h
  | cons e es ih =>
   intro m h hm
   cases m with
   | nil=>simp [EsM] at h
   | cons p m =>
    simp only [EsM,List.map_cons,List.cons.injEq,Prod.mk.injEq] at h
    obtain ⟨i1,i2⟩:=ih m h.2 fun q hq=>hm q (by simp [hq])
    have hr:=hrd e p.1 h.1.1 (hm p (by simp))
    refine ⟨fun x hx =>?_,?_⟩
    ·rcases List.mem_cons.1 hx with rfl | hx
     ·exact ⟨_,hr⟩
     ·exact i1 x hx
    ·rw [List.map_cons,List.map_cons,i2];congr 1
     unfold WideElems.rg;rw [hr];rfl
 obtain ⟨k1,k2⟩:=hkey es.toList m h2 hks
 refine ⟨.map ((es.toList.map (WideElems.rg P T (fun _=>some (.lit (.bool true),[])))).foldr DataW.insert []),⟨es,clock,hw _ _ h1,⟨by rw [hlen];exact Nat.le_trans hl (by decide),h3,k1⟩,by omega,rfl⟩,?_,?_⟩
 ·rw [k2]
  have:=(WideShapes.sorted_perm (H:=Unit) (m.map fun p=>(Lit.string p.1,DataW.lit (.bool true)))).map (fun p=>strOf p.1)
  rw [List.map_map] at this
  exact this
 ·rw [k2]
  have:=(WideShapes.sorted_perm (H:=Unit) (m.map fun p=>(Lit.string p.1,DataW.lit (.bool true)))).length_eq
  simpa [Maps.size] using this
theorem st_below{w w':World}(h:St G R L w)(hb:Below w.heap.size w w'):St G R L w':=by
 refine ⟨hb.os.trans h.os,hb.tape.trans h.tape,hb.output.trans h.out,fun b o e =>?_,?_⟩
 ·rw [hb.block b (h.ro.lt (by rw [e];simp))];exact h.ro b o e
 ·obtain ⟨σ,h1,h2⟩:=h.ex
  refine ⟨σ,fun i p hi =>?_,h2⟩
  obtain ⟨a1,a2,a3⟩:=h1 i p hi
  exact ⟨a1,fun b o e=>by rw [hb.block b (a2.lt (by rw [e];simp))];exact a2 b o e,a3⟩
theorem st_row{w w':World}{v:Value}{T:Nat}{ks:List Str}(h:St G R L w)(hb:Below w.heap.size w w')(hr:w'.ownsRow w.heap.size T 1 v ks.length (ks.map encStr)):St G R (OwS true T 1 eS v ks::L) w':=by
 obtain ⟨h1,⟨rfl,h2⟩ | ⟨g,cap,cur,rfl,h2,h3,h4,h5,h6,h7⟩⟩:=hr
 ·have:ks=[]:=List.length_eq_zero_iff.1 h2
  subst this
  exact st_nil (st_below h hb)
 ·refine h.add (k:=fun b=>if b=g then some (.cells cur T (0,0)) else none) hb.os hb.tape hb.output (fun b hlt=>hb.block b hlt) ?_ (fun b o e =>?_) fun b hne =>?_
  ·refine .inr ⟨g,0,cap,cur.toList,(0,0),rfl,by simp,fun k h1 h2=>by simp,fun i y hy =>?_,by simp [h6],h4,h5,fun _=>⟨rfl,rfl,by simp [h6]⟩⟩
   have hi:i<ks.length:=by
    rcases Nat.lt_or_ge i ks.length with q | q
    ·exact q
    ·rw [List.getElem?_eq_none q] at hy;cases hy
   have:(cur.toList.take (ks.length*1))[i]? = some (encStr y):=by rw [h7,List.getElem?_map,hy];rfl
   rw [List.getElem?_take,if_pos (by omega)] at this
   rw [show (0:Nat)+i*1=i by omega]
   obtain ⟨q1,q2⟩:=List.getElem?_eq_some_iff.1 this
   rw [List.drop_eq_getElem_cons q1,q2];rfl
  ·by_cases hbg:b=g
   ·subst hbg;have e2:=(if_pos rfl).symm.trans e;cases e2;exact h3
   ·have e2:=(if_neg hbg).symm.trans e;cases e2
  ·by_cases hbg:b=g
   ·subst hbg;exact h2
   ·exact absurd (if_neg hbg) hne
theorem co_mkeys{f g T:Nat}(HK:∀(mb:Option Nat) (w:World),CallsIn Fence.wide 5 P f #[.map mb] w fun e w'=>e = .returned (.func (.func g) #[] #[.pointer (some ⟨w.heap.size,0,none⟩)])∧w'=w.alloc (.cells #[.map mb] T))
  {v:Value} {m:List (Str×V)} : CO P f [v] G R (OwM vS vv v m::F) (Ret fun u R' L'=>∃b,u = .func (.func g) #[] #[pt b 0]∧R'=R∧L'=Bk b T [v]::OwM vS vv v m::F):=by
 intro w hs
 obtain ⟨a,rfl⟩:=hd_m 0 rfl w hs
 refine ((callsIn_wide (n:=5)).1 (HK a w)).mono ?_
 rintro e w' ⟨rfl,rfl⟩
 exact ⟨R,_,Le.refl _,⟨_,rfl,_,rfl,rfl,rfl⟩,hs.alloc _⟩
theorem co_sorted{f g T M:Nat}(hk:P.underlying T=some .string)
  (HS:∀(b r nn:Nat) (D:DataW Unit) (w:World),b<w.heap.size→w.cell? ⟨b,0,none⟩=some (.map (some r))→w.ownsMap P T (fun _=>some (.lit (.bool true),[])) r nn D→Maps.size D≤maxLen→Maps.size D*16≤140737488355328 →
   CallsIn Fence.wide 5 P f #[.func (.func g) #[] #[.pointer (some ⟨b,0,none⟩)]] w fun e w'=>∃(v:Value) (ss:List (List UInt8)),e = .returned v∧ss.Perm (strKeys D) ∧
    w'.ownsRow w.heap.size T 1 v ss.length ((ss.mergeSort (fun x y=>decide (x≤y))).map encStr)∧(v = .slice none 0 0↔ss=[])∧Below w.heap.size w w')
  {v:Value} {m:List (Str×V)} {b:Nat} {r:List Str} (hm:mkeys m=some r) :
  CO P f [.func (.func g) #[] #[pt b 0]] G R (Bk b M [v]::OwM vS vv v m::F) (Ret fun u R' L'=>R'=R∧L'=OwS true T 1 eS u r::Bk b M [v]::OwM vS vv v m::F):=by
 intro w hs
 unfold mkeys at hm
 split at hm
 case isFalse=>cases hm
 rename_i hc
 cases hm
 simp only [Bool.and_eq_true,decide_eq_true_eq,List.all_eq_true] at hc
 have hbk:=hs.blk (i:=0) rfl
 obtain ⟨h,hh,hw⟩:=hs.get (i:=1) rfl
 obtain ⟨a,rfl⟩:=hd_m 1 rfl w hs
 obtain ⟨r0,rfl⟩:∃r0,a=some r0:=by obtain ⟨r,_,_,e,_⟩:=id hh;cases e;exact ⟨_,rfl⟩
 obtain ⟨D,hD,hp,hsz⟩:=own_map hk hh hw hc.1 hc.2
 have hblt:b<w.heap.size:=(Array.getElem?_eq_some_iff.1 hbk).1
 have hcell:w.cell? ⟨b,0,none⟩=some (.map (some r0)):=by simp [World.cell?,hbk]
 refine ((callsIn_wide (n:=5)).1 (HS b r0 m.length D w hblt hcell hD (by rw [hsz];exact Nat.le_trans hc.1 (by decide)) (by rw [hsz];omega))).mono ?_
 rintro e w' ⟨u,ss,rfl,hS,hrow,_,hb⟩
 have e1:ss.mergeSort (fun x y=>decide (x≤y))=ksort (m.map (·.1)):=ksort_of (hS.trans hp)
 have e2:ss.length=(ksort (m.map (·.1))).length:=by rw [(ksort_perm _).length_eq,(hS.trans hp).length_eq]
 rw [e1,e2] at hrow
 exact ⟨R,_,Le.refl _,⟨_,rfl,rfl,rfl⟩,st_row hs hb hrow⟩
open Go.Sort Go.Proofs in
def HasL(A:List HP)(w:World):Prop:=∀(i:Nat) p,A[i]? = some p→∃k:PH,p k∧Has k w
open Go.Sort Go.Proofs in
theorem co_del{f g T:Nat}{lb:List Value}{A:List HP}{p:Str→Bool}
  (HC:∀(W:World) (x:Str),HasL A W→FnGives P g lb.toArray #[encStr x] (.bool (p x)) W)
  (H0:CO P f [.slice none 0 0,.func (.func g) #[] lb.toArray] G R (A++F) (Ret fun u R' L'=>u = .slice none 0 0∧R'=R∧L'=A++F))
  (HD:∀(blk off cap:Nat) (d:Array Str) (w:World),PredAt P g lb.toArray encStr p w→PredOver P g lb.toArray encStr p blk off d.size w→Holds encStr w blk off d→d.size≤9223372036854775807→d.size≤cap →
   Calls P f #[.slice (some ⟨blk,off,none⟩) d.size cap,.func (.func g) #[] lb.toArray] w fun e w'=>e = .returned (.slice (some ⟨blk,off,none⟩) (d.toList.filter fun x => !p x).length cap) ∧
    ∃q,w'=putRow encStr (Sort.ahead w q) blk off ((d.toList.filter fun x => !p x)++List.replicate (d.size-(d.toList.filter fun x => !p x).length) []).toArray)
  {v:Value} {ks:List Str} : CO P f [v,.func (.func g) #[] lb.toArray] G R (OwS true T 1 eS v ks::A++F) (Ret fun u R' L'=>R'=R∧L'=OwS true T 1 eS u (ks.filter fun x => !p x)::A++F):=by
 intro w hs
 obtain ⟨σ,h1,h2⟩:=hs.ex
 obtain ⟨q1,q2,q3⟩:=h1 0 _ rfl
 have hlA:A.length<(OwS true T 1 eS v ks::A++F).length:=by simp;omega
 have hAi:∀(i:Nat) p,A[i]? = some p→(OwS true T 1 eS v ks::A++F)[i+1]? = some p:=fun i p hi=>by
  have:i<A.length:=(List.getElem?_eq_some_iff.1 hi).1
  simp only [List.cons_append,List.getElem?_cons_succ]
  rw [List.getElem?_append_left this];exact hi
 rcases q1 with ⟨rfl,rfl⟩ | ⟨b,o,c,cs,fr,rfl,hb,hfr,hel,hoc,hlc,hcm,hap⟩
 ·
  have hs':St G R (A++F) w:=hs.drop
  refine (H0 w hs').mono ?_
  rintro e w' ⟨_,_,a1,⟨u,rfl,rfl,rfl,rfl⟩,a3⟩
  exact ⟨_,_,Le.refl _,⟨_,rfl,rfl,rfl⟩,st_nil a3⟩
 ·have hbw:=q2 _ _ hb
  obtain ⟨rfl,rfl,hcs⟩:=hap rfl
  have hce:∀i y,ks[i]? = some y→cs[i]? = some (encStr y):=fun i y hi=>by
   have:=hel i y hi
   rw [show (0:Nat)+i*1=i by omega] at this
   have hlt:i<cs.length:=by
    have:i<ks.length:=(List.getElem?_eq_some_iff.1 hi).1
    omega
   rw [List.drop_eq_getElem_cons hlt] at this
   simp only [List.take_succ_cons,List.take_zero,List.cons.injEq,and_true] at this
   rw [List.getElem?_eq_getElem hlt,this];rfl
  have hA:HasL A w:=fun i p hi=>⟨σ (i+1),(h1 _ _ (hAi i p hi)).1,(h1 _ _ (hAi i p hi)).2.1⟩
  have hold:Holds encStr w b 0 ks.toArray:=fun j hj=>by
   have hj':j<ks.length:=by simpa using hj
   have e1:ks.toArray[j]! = ks[j]:=by rw [getElem!_pos ks.toArray j hj];simp
   refine ⟨?_,?_⟩
   ·simp only [World.cell?,hbw,e1]
    simpa using hce j _ (List.getElem?_eq_getElem hj')
   ·simp [World.frozen?,hbw]
  have hcap:ks.toArray.size≤c:=by simpa using hlc
  have hmx:ks.toArray.size≤9223372036854775807:=Nat.le_trans hcap (Nat.le_trans hcm (by decide))
  have keepA:∀W:World,(∀k,k<w.heap.size→k≠b→W.heap[k]? = w.heap[k]?)→HasL A W:=fun W hW i p hi=>by
   obtain ⟨a1,a2,a3⟩:=h1 _ _ (hAi i p hi)
   refine ⟨σ (i+1),a1,fun k o e =>?_⟩
   have hk:=a2 k o e
   have hne:k≠b:=by
    rintro rfl
    have hlt2:i+1<(OwS true T 1 eS (.slice (some ⟨k,0,none⟩) ks.length c) ks::A++F).length:=by
     have:i<A.length:=(List.getElem?_eq_some_iff.1 hi).1
     simp;omega
    have:=h2 0 (i+1) (by simp) hlt2 (by omega) k
    rw [hb,e] at this;simp at this
   rw [hW k (a2.lt (by rw [e];simp)) hne];exact hk
  have hpa:PredAt P g lb.toArray encStr p w:=fun W x hW=>HC W x (keepA W fun k hk _=>hW.block k hk)
  have hpo:PredOver P g lb.toArray encStr p b 0 ks.toArray.size w:=fun n os dk x _=>HC _ x (keepA _ fun k hk hne=>by
   unfold sortWorld
   rw [heap_grow_old _ _ (by show k<(putRow _ _ _ _ _).heap.size;rw [size_putRow];exact hk)]
   show (Array.modify _ _ _)[k]? = _
   rw [Array.getElem?_modify,if_neg (Ne.symm hne)];rfl)
  have H:=HD b 0 c ks.toArray w hpa hpo hold hmx hcap
  rw [show ks.toArray.size=ks.length from by simp] at H
  refine H.mono ?_
  rintro e w' ⟨rfl,q,rfl⟩
  have hfl:(ks.filter fun x => !p x).length≤ks.length:=List.length_filter_le _ _
  generalize (ks.filter fun x => !p x)=ks' at hfl
  refine ⟨R,_,Le.refl _,⟨_,rfl,rfl,rfl⟩,?_⟩
  have hd:(ks'++List.replicate (ks.length-ks'.length) ([]:Str)).length=ks.length:=by simp;omega
  generalize hdd:ks'++List.replicate (ks.length-ks'.length) ([]:Str)=dd at hd
  have hdk:∀i y,ks'[i]? = some y→dd[i]? = some y:=fun i y hi=>by
   rw [←hdd,List.getElem?_append_left (List.getElem?_eq_some_iff.1 hi).1];exact hi
  have hnew:(putRow encStr (Sort.ahead w q) b 0 dd.toArray).heap[b]? = some (.cells (putCells encStr 0 dd.toArray cs.toArray) T (0,0)):=by
   show (Array.modify _ _ _)[b]? = _
   rw [Array.getElem?_modify,if_pos rfl]
   show (w.heap[b]?).map _=_
   rw [hbw];rfl
  refine St.head (p:=OwS true T 1 eS (.slice (some ⟨b,0,none⟩) ks.length c) ks) hs rfl rfl rfl fun k hk hkw =>?_
  rcases hk with ⟨e,_⟩ | ⟨b',o',c',cs',fr',e',hb',hfr',hel',hoc',hlc',hcm',hap'⟩
  ·cases e
  ·cases e'
   have:some (Obj.cells (List.toArray cs') T fr')=some (.cells cs.toArray T (0,0)):=by rw [←hkw _ _ hb',hbw]
   refine ⟨fun j=>if j=b then some (.cells (putCells encStr 0 dd.toArray cs.toArray) T (0,0)) else k j,?_,fun j o e =>?_,fun j hj =>?_,fun j hj hk0 =>?_⟩
   ·refine .inr ⟨b,0,c,(putCells encStr 0 dd.toArray cs.toArray).toList,(0,0),rfl,by simp,fun k h1 h2=>by simp,fun i y hy =>?_,?_,by omega,hcm,fun _=>⟨rfl,rfl,?_⟩⟩
    ·have hi:i<ks'.length:=(List.getElem?_eq_some_iff.1 hy).1
     have hic:i<cs.length:=by omega
     rw [show (0:Nat)+i*1=i by omega]
     have:(putCells encStr 0 dd.toArray cs.toArray).toList[i]? = some (encStr y):=by
      unfold putCells
      have hdi:=hdk i y hy
      have hid:i<dd.length:=by omega
      have e2:dd.toArray[i]! = y:=by
       rw [getElem!_pos dd.toArray i (by simpa using hid)]
       have:=(List.getElem?_eq_some_iff.1 hdi).2
       simpa using this
      have e3:dd[i]=y:=(List.getElem?_eq_some_iff.1 hdi).2
      simp [hic,hid,e2,e3]
     obtain ⟨z1,z2⟩:=List.getElem?_eq_some_iff.1 this
     rw [List.drop_eq_getElem_cons z1,z2];rfl
    ·simp [putCells];omega
    ·simp [putCells,hcs]
   ·by_cases hj:j=b
    ·subst hj;have e2:=(if_pos rfl).symm.trans e;cases e2;exact hnew
    ·have e:=(if_neg hj).symm.trans e
     show (Array.modify _ _ _)[j]? = _
     rw [Array.getElem?_modify,if_neg (Ne.symm hj)]
     exact hkw j o e
   ·by_cases hjb:j=b
    ·subst hjb;left;rw [hb'];simp
    ·exact .inl fun q=>hj ((if_neg hjb).trans q)
   ·have hjb:j≠b:=by rintro rfl;rw [hb'] at hk0;cases hk0
    show (Array.modify _ _ _)[j]? = _
    rw [Array.getElem?_modify,if_neg (Ne.symm hjb)];rfl
end
end Go.Proofs.YtpanhdnglicknaaGreat.Hw
