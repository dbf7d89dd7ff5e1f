import Derived.Test.YtpanhdnglicknaaGreatHwV
set_option linter.unusedVariables false
set_option linter.unusedSimpArgs false
set_option linter.unusedSectionVars false
namespace Go.Proofs.YtpanhdnglicknaaGreat.Hw
open Go
section
variable {x:Cx} {ks:List KF} {E E':Env} {R R':PH} {L L':List HP}
def Gives{α:Type}(P:Program)(G:World)(R:PH)(gf:FuncId)(lb:List Value)(enc:α→Value)(kz:List α)(A0:List HP):Prop :=
 ∀(l:Nat) (F:List HP) (Inv:List α→List HP→Prop),Inv [] F →
  (∀(A:List HP) (pre:List α) (k:α) (F:List HP),Inv pre F→(∃rest,kz=pre++k::rest)→YO P l [enc k] G R (A++F) (Ret fun u R' L'=>u=vB true∧R'=R∧∃F',L'=A++F'∧Inv (pre++[k]) F')) →
  CO P gf (.func (.yield l) #[] #[]::lb) G R (A0++F) (Ret fun u R' L'=>u = .tuple #[]∧R'=R∧∃F',L'=A0++F'∧Inv kz F')
theorem c_rangeR{α:Type}{g:Operand}{t:Tmp}{assign body:Code}{gf:FuncId}{lb:List Value}{enc:α→Value}{kz:List α}{A0 L0:List HP}(Inv:List α→List HP→Prop)
  (hg:ev E g=some (.func (.func gf) #[] lb.toArray)) (hc:Ca x.P gf) (ht:Nat.blt t x.N=true) (hG:Gives x.P x.G R gf lb enc kz A0) (h0:Inv [] L0) {E1:α→Env}
  (hassign:∀(k:α) (y:Cx),y.P=x.P→y.G=x.G→y.N=x.N→y.D=[]→∀ks L,EX y .normal ks (E1 k) R L→CD y assign ks ((t,enc k)::E) R L)
  (hbody:∀(l:Nat) (T:List HP) (pre:List α) (k:α) (L1:List HP),Inv pre L1→(∃rest,kz=pre++k::rest) →
   CD ⟨x.P,x.fn,x.G,R,x.N,fun e R' L'=>e = .returned (.bool true)∧R'=R∧∃L2,L'=L2++T∧Inv (pre++[k]) L2,[],.round l⟩ body [] (E1 k) R (L1++T))
  (hk:∀D L1,Inv kz L1→EX { x with D:=mark D::x.D } .normal ks E R (Blk D (.deferred (some []))::(A0++L1))) (hro:x.md.ro=none:=by rfl) :
  CD x (.rangeFunc g #[t] assign body) ks E R (A0++L0):=by
 refine c_rangeF (K:=fun R' L1=>R'=R∧∃F,L1=A0++F∧Inv kz F) hro hg hc (fun fid l D tmps hfr =>?_) ?_
 ·refine CO.conv (hG l (L0++[Blk l (.loop (Lrec fid tmps #[t] assign body D .ready none)),Blk D (.deferred (some []))])
   (fun pre F=>∃L1,F=L1++[Blk l (.loop (Lrec fid tmps #[t] assign body D .ready none)),Blk D (.deferred (some []))]∧Inv pre L1) ⟨L0,rfl,h0⟩ ?_) ?_ ?_
  ·rintro A pre k F ⟨L1,rfl,hi⟩ hlen
   refine YO.conv (yo_round (D:=D) (body:=body) (fid:=fid) (fn:=x.fn) (N:=x.N) (E0:=(t,enc k)::E) (E1:=E1 k) (L0:=Blk D (.deferred (some []))::(A++L1)) (K:=fun R' L'=>R'=R∧∃L2,L'=Blk D (.deferred (some []))::(A++L2)∧Inv (pre++[k]) L2)
    rfl (fr_round hfr ht) (fun y e1 e2 e3 e4 _ ks hx=>hassign k y e1 e2 e3 e4 ks _ hx) ?_) ?_ ?_
   ·intro a w hf hs
    have hs':=st_comm (x:=x) (Blk l (.loop (Lrec fid tmps #[t] assign body D .busy none))::Blk D (.deferred (some []))::A) L1 (by simpa using hs)
    refine wpIn_mono (hbody l _ pre k L1 hi hlen a w hf hs') ?_
    rintro e a' w' ⟨he,R',L',h1,⟨_,rfl,L2,rfl,hi2⟩,h3⟩
    have h4:=st_comm (x:=x) _ _ h3
    exact ⟨he,R',_,h1,⟨_,rfl,_,rfl,rfl,L2,rfl,hi2⟩,by simpa using h4⟩
   ·intro w hs
    have:=st_comm (x:=x) (A++L1) [Blk l (.loop (Lrec fid tmps #[t] assign body D .ready none)),Blk D (.deferred (some []))] (by simpa using hs)
    exact this
   ·rintro e R' L' ⟨u,rfl,rfl,_,rfl,rfl,L2,rfl,hi2⟩
    refine ⟨_,⟨_,rfl,rfl,rfl,_,rfl,L2,rfl,hi2⟩,fun w h =>?_⟩
    have:=st_comm (x:=x) [Blk l (.loop (Lrec fid tmps #[t] assign body D .ready none)),Blk D (.deferred (some []))] (A++L2) h
    simpa using this
  ·intro w hs
   have:=st_comm (x:=x) [Blk l (.loop (Lrec fid tmps #[t] assign body D .ready none)),Blk D (.deferred (some []))] (A0++L0) hs
   simpa using this
  ·rintro e R' L' ⟨u,rfl,rfl,rfl,F',rfl,L2,rfl,hi2⟩
   refine ⟨_,⟨_,rfl,_,rfl,rfl,L2,rfl,hi2⟩,fun w h =>?_⟩
   have:=st_comm (x:=x) (A0++L2) [Blk l (.loop (Lrec fid tmps #[t] assign body D .ready none)),Blk D (.deferred (some []))] (by simpa using h)
   exact this
 ·rintro D R' L1 _ ⟨rfl,F,rfl,hi⟩
  exact hk D F hi
end
end Go.Proofs.YtpanhdnglicknaaGreat.Hw
