import Derived.Test.YtpanhdnglicknaaGreatHwY
set_option linter.unusedSectionVars false
set_option linter.unusedSimpArgs false
set_option linter.unusedVariables false
namespace Go.Proofs.YtpanhdnglicknaaGreat.Hw
open Go
section
variable {α:Type} [Inhabited α]
def nn(n:Nat)(l:List α):List α:=(List.range n).map fun i=>l.getD i default
end
section
variable {x:Cx} {ks:List KF} {E:Env} {R R':PH} {L L':List HP} {ops:Array Oper} {ty:TypeId} {v u:Value} {d:Nat} {G:World} {w:World}
variable {α:Type}
def sd:Value→Nat→Nat→Value
 | .slice a _ c,lo,hi => .slice (if c=lo then a else a.map (·.add (lo*1))) (hi-lo) (c-lo)
 | v,_,_=>v
theorem RoS.cut{e:α→List Value}{q r:List α}{lo hi:Int}(h:RoS R v 1 e q)(hs:sl q lo hi=some r):RoS R (sd v lo.toNat hi.toNat) 1 e r:=by
 obtain ⟨⟨h0,h1,h2⟩,rfl⟩:=sl_some hs
 obtain ⟨a,c,rfl,h⟩:=h
 have hl:((q.drop lo.toNat).take (hi.toNat-lo.toNat)).length=hi.toNat-lo.toNat:=by simp;omega
 refine ⟨_,q.length+c-lo.toNat-(hi.toNat-lo.toNat),by rw [hl,Nat.add_sub_cancel' (by omega)];rfl,?_⟩
 by_cases hz:hi.toNat-lo.toNat=0
 ·left;rw [hz];rfl
 rcases h with rfl | ⟨b,o,cs,T,fr,rfl,hR,hc⟩
 ·simp at h2;omega
 right
 refine ⟨b,o+lo.toNat,cs,T,fr,by rw [if_neg (by omega)];simp [add_eq],hR,fun i y hy =>?_⟩
 rw [List.getElem?_take] at hy
 split at hy
 ·rw [List.getElem?_drop] at hy
  have:=hc _ _ hy
  rw [←this];congr 2;omega
 ·cases hy
end
end Go.Proofs.YtpanhdnglicknaaGreat.Hw
