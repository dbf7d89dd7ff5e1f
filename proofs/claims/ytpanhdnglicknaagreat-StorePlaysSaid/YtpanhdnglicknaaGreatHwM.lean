import Derived.Test.YtpanhdnglicknaaGreatHwL
import Derived.Tactics
import Derived.Tactics2
import Derived.Defers
import Derived.Recover
import Derived.Laws.Pointers
set_option linter.unusedVariables false
set_option linter.unusedSimpArgs false
namespace Go.Proofs.YtpanhdnglicknaaGreat.Hw
open Go
theorem nd_map{n:Nat}(k:Nat):((List.range n).map (· + k)).Nodup:=List.pairwise_map.2 (List.nodup_range.imp fun h=>by omega)
theorem st_mid{G:World}{R:PH}{p q:HP}{A F:List HP}{w:World}(h:St G R (p::q::(A++F)) w):St G R (p::(A++q::F)) w:=by
 refine h.pick (0::((List.range A.length).map (· + 2)++(1::(List.range F.length).map (· + (A.length+2))))) ?_ ?_
 ·rw [List.nodup_cons,List.nodup_append]
  refine ⟨by simp,nd_map _,?_,?_⟩
  ·rw [List.nodup_cons]
   exact ⟨by simp;omega,nd_map _⟩
  ·intro a ha b hb
   simp at ha hb
   obtain ⟨i,hi,rfl⟩:=ha
   rcases hb with rfl | ⟨j,hj,rfl⟩ <;> omega
 ·intro k r hk
  cases k with
  | zero=>exact ⟨0,rfl,by simpa using hk⟩
  | succ k =>
   simp only [List.getElem?_cons_succ] at hk ⊢
   rcases Nat.lt_or_ge k A.length with hl | hl
   ·rw [List.getElem?_append_left hl] at hk
    exact ⟨k+2,by rw [List.getElem?_append_left (by simpa using hl)];simp [hl],by simp [List.getElem?_append_left hl,hk]⟩
   ·rw [List.getElem?_append_right hl] at hk
    cases hm:k-A.length with
    | zero=>rw [hm] at hk;exact ⟨1,by rw [List.getElem?_append_right (by simpa using hl)];simp [hm],by simpa using hk⟩
    | succ m =>
     rw [hm] at hk
     have hmF:m<F.length:=by
      rcases Nat.lt_or_ge m F.length with h | h
      ·exact h
      ·simp [List.getElem?_eq_none h] at hk
     refine ⟨m+(A.length+2),by rw [List.getElem?_append_right (by simpa using hl)];simp [hm,hmF],?_⟩
     rw [show m+(A.length+2)=(m+A.length+1)+1 by omega]
     simp only [List.getElem?_cons_succ]
     rw [List.getElem?_append_right (by omega),show m+A.length-A.length=m by omega]
     simpa using hk
theorem st_mid'{G:World}{R:PH}{p q:HP}{A F:List HP}{w:World}(h:St G R (p::(A++q::F)) w):St G R (q::p::(A++F)) w:=by
 refine h.pick ((A.length+1)::0::((List.range A.length).map (· + 1)++(List.range F.length).map (· + (A.length+2)))) ?_ ?_
 ·rw [List.nodup_cons,List.nodup_cons,List.nodup_append]
  refine ⟨?_,by simp,nd_map _,nd_map _,?_⟩
  ·simp;omega
  ·intro a ha b hb
   simp at ha hb
   obtain ⟨i,hi,rfl⟩:=ha
   obtain ⟨j,hj,rfl⟩:=hb
   omega
 ·intro k r hk
  match k with
  | 0=>exact ⟨A.length+1,rfl,by simp at hk;subst hk;simp⟩
  | 1=>exact ⟨0,rfl,by simpa using hk⟩
  | k+2 =>
   simp only [List.getElem?_cons_succ] at hk ⊢
   rcases Nat.lt_or_ge k A.length with hl | hl
   ·rw [List.getElem?_append_left hl] at hk
    exact ⟨k+1,by rw [List.getElem?_append_left (by simpa using hl)];simp [hl],by simp [List.getElem?_append_left hl,hk]⟩
   ·rw [List.getElem?_append_right hl] at hk
    have hmF:k-A.length<F.length:=by
     rcases Nat.lt_or_ge (k-A.length) F.length with h | h
     ·exact h
     ·simp [List.getElem?_eq_none h] at hk
    refine ⟨k-A.length+(A.length+2),by rw [List.getElem?_append_right (by simpa using hl)];simp [hmF],?_⟩
    rw [show k-A.length+(A.length+2)=(k+1)+1 by omega]
    simp only [List.getElem?_cons_succ]
    rw [List.getElem?_append_right (by omega),show k+1-A.length=(k-A.length)+1 by omega]
    simpa using hk
theorem bld_open_cd{x:Cx}{c:Code}{ks:List KF}{E:Env}{R:PH}{L:List HP}{T e b:Nat}{s:Str}
  (h:∀p v,(p=nl∨p=pt b 0)→(s=[]→v = .slice none 0 0)→CD x c ks E R (Blk b (.cells (List.toArray [p,v]) T (0,0))::OwS true e 1 eY v s::L)):CD x c ks E R (Bld T e b s::L):=fun a w hf hs=>by
 obtain ⟨p,v,hp,hv,hst⟩:=bld_open hs
 exact h p v hp hv a w hf hst
end Go.Proofs.YtpanhdnglicknaaGreat.Hw
