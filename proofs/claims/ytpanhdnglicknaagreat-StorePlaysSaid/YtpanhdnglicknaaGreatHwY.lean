import Derived.Test.YtpanhdnglicknaaGreatHwX
set_option linter.unusedVariables false
set_option linter.unusedSimpArgs false
set_option linter.unusedSectionVars false
namespace Go.Proofs.YtpanhdnglicknaaGreat.Hw
open Go
section
variable {x:Cx} {ks:List KF} {E E':Env} {R R':PH} {L L':List HP} {ty:TypeId} {v:Value}
theorem o_callqP{f:FuncId}{args:Array Operand}{ats:Array TypeId}{vs:List Value}(hc:Ca x.P f)(ha:evs E args.toList=some vs)
  (h:CO x.P f vs x.G R L' (Ret fun u R' L2=>u=v∧R'=R∧L2=L')) (hp:∀w,St x.G R L w→St x.G R L' w) (hq:∀w,St x.G R L' w→St x.G R L w) :
  OV x (.call ⟨.value (.func f),args,ats⟩) ty E R L v :=
 o_callq hc ha fun w hs=>(h w (hp w hs)).mono fun e w' q=>by
  obtain ⟨R',L2,h1,⟨u,rfl,rfl,rfl,rfl⟩,h3⟩:=q
  exact ⟨_,_,h1,⟨_,rfl,rfl,rfl,rfl⟩,hq _ h3⟩
theorem run_lk{P:Program}{K V:Type}[BEq K][LawfulBEq K]{kv:K→Value}{vv:V→Value}{t k e:TypeId}{r clock:Nat}{es:Array MapEntry}{m:List (K×V)}{z0:V}(hu:P.underlying t=some (.map k e))(hK:KOk P k kv)(hz0:∀w,(zeroValue e).run P w = .ok (vv z0) w)
  {w:World} (hg:w.heap[r]? = some (.map es clock)) (he:EsM kv vv es.toList m) (key:K):(Instr.lookup t (.map (some r)) (kv key) false).run P w = .ok (vv ((mget m key).getD z0)) w:=by
 have hf2:=run_find hK he key w
 obtain ⟨d,hd,h1,h2⟩:=hK
 rw [mget_at]
 cases hm:mat m key with
 | none=>rw [hm] at hf2;simp [Instr.lookup,run_underlying hu,MapKept.run_getObj_map hg,MapKept.run_checkKey hd (h2 key),hf2,hz0,Result.andThen]
 | some p=>rw [hm] at hf2;simp [Instr.lookup,run_underlying hu,MapKept.run_getObj_map hg,MapKept.run_checkKey hd (h2 key),hf2,Result.andThen]
end
end Go.Proofs.YtpanhdnglicknaaGreat.Hw
