import Derived.Test.YtpanhdnglicknaaGreatHwL
import Derived.Tactics
import Derived.Tactics2
import Derived.Defers
import Derived.Recover
import Derived.Laws.Pointers
set_option linter.unusedVariables false
set_option linter.unusedSimpArgs false
namespace Go.Proofs.YtpanhdnglicknaaGreat.Hw
open Go
theorem wpS_rec{P:Program}{Q:Exit→Act→List Frame→World→Prop}{a:Act}{cs cs':List Frame}{w:World}{id d ty:Nat}{pos:String}{v:Value}
  (hrec:recoverD cs=some (v,cs')) (h:Q .normal (a.put (some d) v) cs' w) :
  (Code.region id #[⟨some d,.call ⟨.builtin .recover,#[],#[]⟩,ty,pos,#[],none⟩] false).wpS P Q a cs w:=by
 apply wpS_region
 simp [wpOpsS,go_sem,hrec]
 exact h
theorem wpS_rec0{P:Program}{Q:Exit→Act→List Frame→World→Prop}{a:Act}{cs:List Frame}{w:World}{id d ty:Nat}{pos:String}
  (hrec:recoverD cs=none) (h:Q .normal (a.put (some d) .nilIface) cs w) :
  (Code.region id #[⟨some d,.call ⟨.builtin .recover,#[],#[]⟩,ty,pos,#[],none⟩] false).wpS P Q a cs w:=by
 apply wpS_region
 simp [wpOpsS,go_sem,hrec]
 exact h
theorem wpS_cd{P:Program}{fn:Func}{G:World}{R:PH}{N:Nat}{C:Value→PH→List HP→Prop}{c:Code}{E:Env}{L:List HP}{c₀ c₁:Frame}{cs:List Frame}{a:Act}{w:World}{u1:FrameMode}{Q:Ending→FrameMode→World→Prop}
  (h:CD ⟨P,fn,G,R,N,Ret C,[],.fn⟩ c [] E R L) (hf:Fr N [] E a) (hs:St G R L w) (hQ:∀v w' R' L',Le R R'→C v R' L'→St G R' L' w'→Q (.returned v) u1 w') (hc:c₁ = { c₀ with mode:=u1 } := by rfl) :
  c.wpS P (bodyPostS P fn c₀ cs Q) a (c₁::cs) w:=by
 subst hc
 refine wpS_of_wp (Code.wp_mono ?_ ((wpIn_wide (n:=0)).1 (h a w hf hs)))
 intro e a' w' hq
 cases e with
 | normal =>
  obtain ⟨hd,v,hr,R',L',h1,⟨v',e1,h2⟩,h3⟩:=hq
  cases e1
  exact ⟨hd,u1,rfl,v,hr,hQ v w' R' L' h1 h2 h3⟩
 | ret =>
  obtain ⟨hd,v,hr,R',L',h1,⟨v',e1,h2⟩,h3⟩:=hq
  cases e1
  exact ⟨hd,u1,rfl,v,hr,hQ v w' R' L' h1 h2 h3⟩
 | panic ch =>
  obtain ⟨hd,R',L',h1,⟨v',e1,h2⟩,h3⟩:=hq
  cases e1
 | outgrown =>
  obtain ⟨R',L',h1,⟨v',e1,h2⟩,h3⟩:=hq
  cases e1
 | exit id=>exact hq.elim
 | goto l=>exact hq.elim
theorem o_ta{x:Cx}{E:Env}{R:PH}{L:List HP}{ty s d:TypeId}{y:Operand}{ok:Bool}{w0 v:Value}(hy:ev E y=some w0)(h:∀w,(Instr.typeAssert w0 s d ok).run x.P w = .ok v w):OV x (.typeAssert y s d ok) ty E R L v :=
 ou_of fun _ _ _ _ a w hf hs=>⟨w,by simp [execOp,hf.ev hy,h w],hs⟩
theorem o_binc{x:Cx}{E:Env}{R:PH}{L:List HP}{ty t:TypeId}{bo:BinOp}{oty:TypeId}{y z:Operand}{u v r:Value}(hy:ev E y=some u)(hz:ev E z=some v)(h:∀w,(do eqGuard bo t y z u v;binOp bo t u v:Sem Value).run x.P w = .ok r w):
  OV x (.binOp bo t y z oty) ty E R L r :=
 ou_of fun _ _ _ _ a w hf hs=>⟨w,by
  have:=h w
  simp only [execOp,hf.ev hy,hf.ev hz]
  rw [Sem.run_bind,this]
  rfl,hs⟩
theorem nd_map{n:Nat}(k:Nat):((List.range n).map (· + k)).Nodup:=List.pairwise_map.2 (List.nodup_range.imp fun h=>by omega)
theorem st_mid{G:World}{R:PH}{p q:HP}{A F:List HP}{w:World}(h:St G R (p::q::(A++F)) w):St G R (p::(A++q::F)) w:=by
 refine h.pick (0::((List.range A.length).map (· + 2)++(1::(List.range F.length).map (· + (A.length+2))))) ?_ ?_
 ·rw [List.nodup_cons,List.nodup_append]
  refine ⟨by simp,nd_map _,?_,?_⟩
  ·rw [List.nodup_cons]
   exact ⟨by simp;omega,nd_map _⟩
  ·intro a ha b hb
   simp at ha hb
   obtain ⟨i,hi,rfl⟩:=ha
   rcases hb with rfl | ⟨j,hj,rfl⟩ <;> omega
 ·intro k r hk
  cases k with
  | zero=>exact ⟨0,rfl,by simpa using hk⟩
  | succ k =>
   simp only [List.getElem?_cons_succ] at hk ⊢
   rcases Nat.lt_or_ge k A.length with hl | hl
   ·rw [List.getElem?_append_left hl] at hk
    exact ⟨k+2,by rw [List.getElem?_append_left (by simpa using hl)];simp [hl],by simp [List.getElem?_append_left hl,hk]⟩
   ·rw [List.getElem?_append_right hl] at hk
    cases hm:k-A.length with
    | zero=>rw [hm] at hk;exact ⟨1,by rw [List.getElem?_append_right (by simpa using hl)];simp [hm],by simpa using hk⟩
    | succ m =>
     rw [hm] at hk
     have hmF:m<F.length:=by
      rcases Nat.lt_or_ge m F.length with h | h
      ·exact h
      ·simp [List.getElem?_eq_none h] at hk
     refine ⟨m+(A.length+2),by rw [List.getElem?_append_right (by simpa using hl)];simp [hm,hmF],?_⟩
     rw [show m+(A.length+2)=(m+A.length+1)+1 by omega]
     simp only [List.getElem?_cons_succ]
     rw [List.getElem?_append_right (by omega),show m+A.length-A.length=m by omega]
     simpa using hk
theorem st_mid'{G:World}{R:PH}{p q:HP}{A F:List HP}{w:World}(h:St G R (p::(A++q::F)) w):St G R (q::p::(A++F)) w:=by
 refine h.pick ((A.length+1)::0::((List.range A.length).map (· + 1)++(List.range F.length).map (· + (A.length+2)))) ?_ ?_
 ·rw [List.nodup_cons,List.nodup_cons,List.nodup_append]
  refine ⟨?_,by simp,nd_map _,nd_map _,?_⟩
  ·simp;omega
  ·intro a ha b hb
   simp at ha hb
   obtain ⟨i,hi,rfl⟩:=ha
   obtain ⟨j,hj,rfl⟩:=hb
   omega
 ·intro k r hk
  match k with
  | 0=>exact ⟨A.length+1,rfl,by simp at hk;subst hk;simp⟩
  | 1=>exact ⟨0,rfl,by simpa using hk⟩
  | k+2 =>
   simp only [List.getElem?_cons_succ] at hk ⊢
   rcases Nat.lt_or_ge k A.length with hl | hl
   ·rw [List.getElem?_append_left hl] at hk
    exact ⟨k+1,by rw [List.getElem?_append_left (by simpa using hl)];simp [hl],by simp [List.getElem?_append_left hl,hk]⟩
   ·rw [List.getElem?_append_right hl] at hk
    have hmF:k-A.length<F.length:=by
     rcases Nat.lt_or_ge (k-A.length) F.length with h | h
     ·exact h
     ·simp [List.getElem?_eq_none h] at hk
    refine ⟨k-A.length+(A.length+2),by rw [List.getElem?_append_right (by simpa using hl)];simp [hmF],?_⟩
    rw [show k-A.length+(A.length+2)=(k+1)+1 by omega]
    simp only [List.getElem?_cons_succ]
    rw [List.getElem?_append_right (by omega),show k+1-A.length=(k-A.length)+1 by omega]
    simpa using hk
theorem upd_set{w:World}{b T:Nat}{x v:Value}{fr:Nat×Nat}(hb:w.heap[b]? = some (.cells (List.toArray [x]) T fr)):Upd w (w.setCell ⟨b,0,none⟩ v) b (.cells (List.toArray [v]) T fr):=by
 refine ⟨rfl,rfl,rfl,by simp [World.setCell],?_,?_⟩
 ·simp [World.setCell,Array.getElem?_modify,hb]
 ·intro k hk
  simp only [World.setCell,Array.getElem?_modify]
  rw [if_neg (fun e=>hk e.symm)]
theorem bld_open_cd{x:Cx}{c:Code}{ks:List KF}{E:Env}{R:PH}{L:List HP}{T e b:Nat}{s:Str}
  (h:∀p v,(p=nl∨p=pt b 0)→(s=[]→v = .slice none 0 0)→CD x c ks E R (Blk b (.cells (List.toArray [p,v]) T (0,0))::OwS true e 1 eY v s::L)):CD x c ks E R (Bld T e b s::L):=fun a w hf hs=>by
 obtain ⟨p,v,hp,hv,hst⟩:=bld_open hs
 exact h p v hp hv a w hf hst
end Go.Proofs.YtpanhdnglicknaaGreat.Hw
