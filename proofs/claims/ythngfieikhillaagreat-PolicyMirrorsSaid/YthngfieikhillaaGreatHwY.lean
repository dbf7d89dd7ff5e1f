import Derived.Test.YthngfieikhillaaGreatHwX
set_option linter.unusedVariables false
set_option linter.unusedSimpArgs false
set_option linter.unusedSectionVars false
namespace Go.Proofs.YthngfieikhillaaGreat.Hw
open Go
section
variable {x : Cx} {ks : List KF} {E E' : Env} {R R' : PH} {L L' : List HP} {ty : TypeId} {v : Value}
theorem o_callqP {f : FuncId} {args : Array Operand} {ats : Array TypeId} {vs : List Value} (hc : Ca x.P f) (ha : evs E args.toList = some vs)
  (h : CO x.P f vs x.G R L' (Ret fun u R' L2 => u = v ∧ R' = R ∧ L2 = L')) (hp : ∀ w, St x.G R L w → St x.G R L' w) (hq : ∀ w, St x.G R L' w → St x.G R L w) :
  OV x (.call ⟨.value (.func f), args, ats⟩) ty E R L v :=
 o_callq hc ha fun w hs => (h w (hp w hs)).mono fun e w' q => by
  obtain ⟨R', L2, h1, ⟨u, rfl, rfl, rfl, rfl⟩, h3⟩ := q
  exact ⟨_, _, h1, ⟨_, rfl, rfl, rfl, rfl⟩, hq _ h3⟩
end
end Go.Proofs.YthngfieikhillaaGreat.Hw
