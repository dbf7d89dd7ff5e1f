import Derived.Test.YtpanhdnglicknaaGreatHwQ
set_option linter.unusedSimpArgs false
set_option linter.unusedVariables false
namespace Go.Proofs.YtpanhdnglicknaaGreat.Hw
open Go
section
variable {x:Cx} {ks:List KF} {E:Env} {R R':PH} {L L' L2 L2':List HP} {ops:Array Oper} {ty:TypeId} {v u:Value} {d:Nat} {op:Op} {c:Code} {T:Nat} {G:World} {w:World}
variable {α β γ:Type}
end
end Go.Proofs.YtpanhdnglicknaaGreat.Hw
