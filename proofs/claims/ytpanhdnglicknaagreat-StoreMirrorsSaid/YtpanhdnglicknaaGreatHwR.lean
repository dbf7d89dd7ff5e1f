import Derived.Test.YtpanhdnglicknaaGreatHwQ
set_option linter.unusedSimpArgs false
set_option linter.unusedVariables false
namespace Go.Proofs.YtpanhdnglicknaaGreat.Hw
open Go
section
variable {x:Cx} {ks:List KF} {E:Env} {R R':PH} {L L' L2 L2':List HP} {ops:Array Oper} {ty:TypeId} {v u:Value} {d:Nat} {op:Op} {c:Code} {T:Nat} {G:World} {w:World}
variable {α β γ:Type}
def exP(f:γ→List HP):HP:=fun h=>∃g,star (f g) h
theorem st_exP_f{f:γ→List HP}(g:γ)(hs:St G R (f g++L) w):St G R (exP f::L) w:=st_wk (fun h hh=>⟨g,hh⟩) (st_star_f hs)
theorem st_exP_o{f:γ→List HP}(w:World)(hs:St G R (exP f::L) w):∃g,True∧St G R (f g++L) w:=by
 obtain ⟨g,h⟩:=St.openHead (p:=fun g h=>star (f g) h) hs
 exact ⟨g,trivial,st_star_o h⟩
theorem CO.monoL{P:Program}{f:FuncId}{args:List Value}{G:World}{K K':Ending→PH→List HP→Prop}
  (h:CO P f args G R L K) (hk:∀e R' L' w,Le R R'→K e R' L'→St G R' L' w→∃L2,K' e R' L2∧St G R' L2 w):CO P f args G R L K':=fun w hs =>
 (h w hs).mono fun e w' q=>by
  obtain ⟨R',L',a1,a2,a3⟩:=q
  obtain ⟨L2,b1,b2⟩:=hk _ _ _ _ a1 a2 a3
  exact ⟨R',L2,a1,b1,b2⟩
theorem co_lx{P:Program}{f:FuncId}{vs:List Value}{G:World}{a:α}{C:α→Value→PH→List HP→Prop}{D:Int→β→PH→List HP→Prop}{C2:Value→PH→List HP→Prop}
  (h:CO P f vs G R L (PK T (.inl a) C D)) (hk:∀u R' L' w,C a u R' L'→St G R' L' w→∃L2,C2 u R' L2∧St G R' L2 w):CO P f vs G R L (PRet T C2 fun _ _ _=>False) :=
 h.monoL fun e R' L' w _ q hs=>by
  rcases q with ⟨v,e1,a',e2,h2⟩ | ⟨n,e1,o,e2,h2⟩
  ·cases e2
   obtain ⟨L2,h3,h4⟩:=hk _ _ _ _ h2 hs
   exact ⟨L2,.inl ⟨v,e1,h3⟩,h4⟩
  ·cases e2
theorem co_rx{P:Program}{f:FuncId}{vs:List Value}{G:World}{n0:Int}{o0:β}{C:α→Value→PH→List HP→Prop}{D:Int→β→PH→List HP→Prop}{D2:PH→List HP→Prop}
  (h:CO P f vs G R L (PK T (.inr (n0,o0)) C D)) (hk:∀R' L' w,D n0 o0 R' L'→St G R' L' w→∃L2,D2 R' L2∧St G R' L2 w):CO P f vs G R L (PRet T (fun _ _ _=>False) fun n R' L'=>n=n0∧D2 R' L') :=
 h.monoL fun e R' L' w _ q hs=>by
  rcases q with ⟨v,e1,a',e2,h2⟩ | ⟨n,e1,o,e2,h2⟩
  ·cases e2
  ·cases e2
   obtain ⟨L2,h3,h4⟩:=hk _ _ _ h2 hs
   exact ⟨L2,.inr ⟨_,e1,rfl,h3⟩,h4⟩
end
end Go.Proofs.YtpanhdnglicknaaGreat.Hw
