import Derived.Test.YtpanhdnglicknaaGreatW3
import Derived.Test.YtpanhdnglicknaaGreatFacts
import Derived.Test.YtpanhdnglicknaaGreatHwZ
import Derived.Test.YtpanhdnglicknaaGreatHwW
import Derived.Test.YtpanhdnglicknaaGreatHw8
set_option linter.unusedVariables false
set_option linter.unusedSectionVars false
set_option linter.unusedSimpArgs false
set_option maxRecDepth 100000
set_option maxHeartbeats 4000000
namespace Go.Proofs.YtpanhdnglicknaaGreat
open Go Go.Proofs.YtpanhdnglicknaaGreat.Hw
def Cs(ra129:UInt64×Aa):Nat→UInt64→UInt64→Str→(List (UInt64×Ao))→Option ((Str×(List (UInt64×Ao)))⊕((Option Ad×Aa)⊕(Int×Aa)))
 | 0,_,_,_,_=>none
 | k142+1,before_138,s_139,c_140,c_141=>if decide (s_139<ra129.1) then (Aj (⟨c_140⟩:Aa) 18446744073709551615).bind fun r147=>sm r147 (fun (ra149:UInt64×Aa)=>lt (An ra149.2 ((s_139==0)||decide (before_138<ra149.1))) fun r153=>sm r153 (fun (ra155:Unit)=>(Aj ra149.2 18446744073709551615).bind fun r159=>sm r159 (fun (ra161:UInt64×Aa)=>(CK ra161.2).bind fun r165=>sm r165 (fun (ra167:As×Aa)=>Cs ra129 k142 ra149.1 (s_139+1) ra167.2.s (mput c_141 ra149.1 (⟨ra161.1,ra167.1⟩:Ao))) fun ((rn168,ro169):Int×Aa)=>some (Sum.inr (Sum.inr (rn168,ro169)))) fun ((rn162,ro163):Int×Aa)=>some (Sum.inr (Sum.inr (rn162,ro163)))) fun ((rn156,ro157):Int×Unit)=>some (Sum.inr (Sum.inr (rn156,ra149.2)))) fun ((rn150,ro151):Int×Aa)=>some (Sum.inr (Sum.inr (rn150,ro151))) else some (Sum.inl (c_140,c_141))
def Ct(r119:List Str)(ra46:UInt64×Aa)(ra52:UInt64×Aa)(ra89:Option Ac×Aa)(x114:Ah)(x96:Ac):Nat→Int→Option (Unit⊕((Option Ad×Aa)⊕(Int×Aa)))
 | 0,_=>none
 | k172+1,s_171=>if decide (s_171<(r119.length:Int)) then (gi r119 s_171).bind fun x177=>lt (Az x114 x177) fun r179=>(Bj x96 x177).bind fun r182=>lt (An ra89.2 ((((r182&&(x177 != []))&&decide (1≤r179.1.Version))&&decide (r179.1.Version≤ra52.1))&&((r179.1.End==0)||decide (ra46.1<r179.1.End)))) fun r184=>sm r184 (fun (ra186:Unit)=>Ct r119 ra46 ra52 ra89 x114 x96 k172 (i64 (s_171+1))) fun ((rn187,ro188):Int×Unit)=>some (Sum.inr (Sum.inr (rn187,ra89.2))) else some (Sum.inl ())
def CQ(a0:Aa):Option ((Option Ad×Aa)⊕(Int×Aa)) :=
 (Aj a0 2).bind fun r2=>sm r2 (fun (ra4:UInt64×Aa)=>lt (i64 (ra4.1.toNat:Int)) fun n8=>(Aj ra4.2 1000).bind fun r10=>sm r10 (fun (ra12:UInt64×Aa)=>lt (i64 (ra12.1.toNat:Int)) fun n16=>(Aj ra12.2 1048576).bind fun r18=>sm r18 (fun (ra20:UInt64×Aa)=>lt (i64 (ra20.1.toNat:Int)) fun n24=>(Aj ra20.2 18446744073709551615).bind fun r26=>sm r26 (fun (ra28:UInt64×Aa)=>lt (An ra28.2 (Bs (⟨n8,n16,n24,ra28.1⟩:Au))) fun r32=>sm r32 (fun (ra34:Unit)=>(Aj ra28.2 18446744073709551615).bind fun r38=>sm r38 (fun (ra40:UInt64×Aa)=>(Aj ra40.2 18446744073709551615).bind fun r44=>sm r44 (fun (ra46:UInt64×Aa)=>(Aj ra46.2 18446744073709551615).bind fun r50=>sm r50 (fun (ra52:UInt64×Aa)=>(Aj ra52.2 9223372036854775807).bind fun r56=>sm r56 (fun (ra58:UInt64×Aa)=>lt (i64 (ra58.1.toNat:Int)) fun n62=>(Aj ra58.2 9223372036854775807).bind fun r64=>sm r64 (fun (ra66:UInt64×Aa)=>lt (i64 (ra66.1.toNat:Int)) fun n70=>lt (An ra66.2 (decide (n70≤n62))) fun r72=>sm r72 (fun (ra74:Unit)=>(CP ra66.2).bind fun r78=>sm r78 (fun (ra80:Option Ah×Aa)=>(Ck ra80.2).bind fun r87=>sm r87 (fun (ra89:Option Ac×Aa)=>om ra89.1 (none) fun x96=>Option.bind (if ((Ap x96)==n8) then (AW x96).bind fun r192=>om ra80.1 (none) fun x194=>Option.bind (if (r192==(AM x194)) then Option.bind (if decide ((AM x194)≤n16) then lt (An ra89.2 (decide ((Ba x194)≤n24))) fun r213=>sm r213 (fun (ra215:Unit)=>some (Sum.inl ())) fun ((rn216,ro217):Int×Unit)=>some (Sum.inr (Sum.inr (Sum.inr (Sum.inr (rn216,ra89.2))))) else lt (An ra89.2 false) fun r219=>sm r219 (fun (ra221:Unit)=>some (Sum.inl ())) fun ((rn222,ro223):Int×Unit)=>some (Sum.inr (Sum.inr (Sum.inr (Sum.inr (rn222,ra89.2)))))) fun (p206:Unit⊕(Unit⊕((Option Ah)⊕((Option Ad×Aa)⊕(Int×Aa)))))=>(match p206 with | Sum.inl q207=>some (Sum.inl ()) | Sum.inr r=>some r) else lt (An ra89.2 false) fun r225=>sm r225 (fun (ra227:Unit)=>some (Sum.inl ())) fun ((rn228,ro229):Int×Unit)=>some (Sum.inr (Sum.inr (Sum.inr (rn228,ra89.2))))) fun (p199:Unit⊕((Option Ah)⊕((Option Ad×Aa)⊕(Int×Aa))))=>(match p199 with | Sum.inl q200=>some (Sum.inl (some x194)) | Sum.inr r=>some r) else lt (An ra89.2 false) fun r231=>sm r231 (fun (ra233:Unit)=>some (Sum.inl ra80.1)) fun ((rn234,ro235):Int×Unit)=>some (Sum.inr (Sum.inr (rn234,ra89.2)))) fun (p106:(Option Ah)⊕((Option Ad×Aa)⊕(Int×Aa)))=>(match p106 with | Sum.inl q107=>om q107 (none) fun x114=>(A8 x114).bind fun r119=>Option.bind (Ct r119 ra46 ra52 ra89 x114 x96 (((r119.length:Int)-0).toNat+1) 0) fun (p122:Unit⊕((Option Ad×Aa)⊕(Int×Aa)))=>(match p122 with | Sum.inl q123=>(Aj ra89.2 64).bind fun r127=>sm r127 (fun (ra129:UInt64×Aa)=>Option.bind (Cs ra129 ((ra129.1-0).toNat+1) 0 0 ra129.2.s []) fun (p133:(Str×(List (UInt64×Ao)))⊕((Option Ad×Aa)⊕(Int×Aa)))=>(match p133 with | Sum.inl q134=>some (Sum.inl ((some (⟨(⟨n8,n16,n24,ra28.1⟩:Au),(some x114),(some x96),q134.2,ra40.1,ra46.1,ra52.1,(⟨n62,n70⟩:Bq)⟩:Ad)),(⟨q134.1⟩:Aa))) | Sum.inr r=>some r)) fun ((rn130,ro131):Int×Aa)=>some (Sum.inr (rn130,ro131)) | Sum.inr r=>some r) | Sum.inr r=>some r)) fun ((rn90,ro91):Int×Aa)=>some (Sum.inr (rn90,ro91))) fun ((rn81,ro82):Int×Aa)=>some (Sum.inr (rn81,ro82))) fun ((rn75,ro76):Int×Unit)=>some (Sum.inr (rn75,ra66.2))) fun ((rn67,ro68):Int×Aa)=>some (Sum.inr (rn67,ro68))) fun ((rn59,ro60):Int×Aa)=>some (Sum.inr (rn59,ro60))) fun ((rn53,ro54):Int×Aa)=>some (Sum.inr (rn53,ro54))) fun ((rn47,ro48):Int×Aa)=>some (Sum.inr (rn47,ro48))) fun ((rn41,ro42):Int×Aa)=>some (Sum.inr (rn41,ro42))) fun ((rn35,ro36):Int×Unit)=>some (Sum.inr (rn35,ra28.2))) fun ((rn29,ro30):Int×Aa)=>some (Sum.inr (rn29,ro30))) fun ((rn21,ro22):Int×Aa)=>some (Sum.inr (rn21,ro22))) fun ((rn13,ro14):Int×Aa)=>some (Sum.inr (rn13,ro14))) fun ((rn5,ro6):Int×Aa)=>some (Sum.inr (rn5,ro6))
theorem CQ.ok{G R F}(b0_:Nat)(a0:Aa)(r:(Option Ad×Aa)⊕(Int×Aa))(hm:CQ a0=some r):CO Tryz.prog 61 [pt b0_ 0] G R (Bk b0_ 177 (Aa.c a0)::F)
  (PK 175 r (fun (a:Option Ad×Aa) u R' L'=>∃(p0:Value×Ad.G),u=p0.1∧R'=R∧L'=rO (Ad.op p0.2) p0.1 a.1::Bk b0_ 177 (Aa.c a.2)::F) (fun n (o:Aa) R' L'=>R'=R∧L'=Bk b0_ 177 (Aa.c o)::F)):=by
 unfold CQ at hm
 refine co_ofN (N:=227) Tryz.func61 z z ?_
 refine csr ?_
 refine r_as z ?_
 refine nsr ?_
 refine r_sw (s_w (o_mm (kv:=vW) (vv:=Ao.v))) ?_
 rintro v0 R _ _ ⟨rfl,rfl⟩
 refine r_u (ou_if (hd_m 0 z) fun hb0=>o_bld [vI 0,vI 0,vI 0,vW 0,nl,nl,v0,vW 0,vW 0,vW 0,vI 0,vI 0] z (fun _=>by obtain ⟨_,rfl⟩:=hb0;kernel_rfl)) ?_
 refine r_new (o_bx [vI 0,vI 0,vI 0,vW 0,nl,nl,v0,vW 0,vW 0,vW 0,vI 0,vI 0] z z) fun b1 => ?_
 refine r_as z ?_
 refine r_nil (x_seq (c_seq ?_))
 obtain ⟨r2,hr2,hm3⟩:=bs hm
 rcases r2 with ra4 | ⟨rn5,ro6⟩
 rotate_left
 ·have hm7:=sm_r hm3
  refine c_reg ?_
  refine r_mv z (r_mv z ?_)
  refine rl_st (fun _ h=>mv2 h) ?_
  obtain rfl:=si hm7
  exact r_sw (s_w (o_callR ca101 z (Aj.ok b0_ a0 2 _ hr2) (by rintro _ _ _ ⟨rfl,rfl⟩;exact (px_st (pk 3 [0]) (px_of le_ (.inr ⟨_,z,_,z,z,z⟩)))))) (fun _ _ _ _ h=>h.elim)
 have hm7:=sm_l hm3
 obtain ⟨n8,hn8,hm9⟩:=ltx hm7
 obtain ⟨r10,hr10,hm11⟩:=bs hm9
 rcases r10 with ra12 | ⟨rn13,ro14⟩
 rotate_left
 ·have hm15:=sm_r hm11
  refine c_reg ?_
  refine r_mv z (r_mv z ?_)
  refine rl_st (fun _ h=>mv2 h) ?_
  refine r_c (s_w (o_callL ca101 z (Aj.ok b0_ a0 2 _ hr2) (fun _ _ _ h=>h))) ?_
  refine r_u (o_cv z (cvI (cWI Tryz.underlying22 Tryz.underlying3 ra4.1) hn8)) (r_mv z ?_)
  obtain rfl:=si hm15
  exact r_sw (s_w (o_callR ca101 z (Aj.ok b0_ _ 1000 _ hr10) (by rintro _ _ _ ⟨rfl,rfl⟩;exact (px_st (pk 3 [0]) (px_of le_ (.inr ⟨_,z,_,z,z,z⟩)))))) (fun _ _ _ _ h=>h.elim)
 have hm15:=sm_l hm11
 obtain ⟨n16,hn16,hm17⟩:=ltx hm15
 obtain ⟨r18,hr18,hm19⟩:=bs hm17
 rcases r18 with ra20 | ⟨rn21,ro22⟩
 rotate_left
 ·have hm23:=sm_r hm19
  refine c_reg ?_
  refine r_mv z (r_mv z ?_)
  refine rl_st (fun _ h=>mv2 h) ?_
  refine r_c (s_w (o_callL ca101 z (Aj.ok b0_ a0 2 _ hr2) (fun _ _ _ h=>h))) ?_
  refine r_u (o_cv z (cvI (cWI Tryz.underlying22 Tryz.underlying3 ra4.1) hn8)) (r_mv z ?_)
  refine r_c (s_w (o_callL ca101 z (Aj.ok b0_ _ 1000 _ hr10) (fun _ _ _ h=>h))) ?_
  refine r_u (o_cv z (cvI (cWI Tryz.underlying22 Tryz.underlying3 ra12.1) hn16)) (r_mv z ?_)
  obtain rfl:=si hm23
  exact r_sw (s_w (o_callR ca101 z (Aj.ok b0_ _ 1048576 _ hr18) (by rintro _ _ _ ⟨rfl,rfl⟩;exact (px_st (pk 3 [0]) (px_of le_ (.inr ⟨_,z,_,z,z,z⟩)))))) (fun _ _ _ _ h=>h.elim)
 have hm23:=sm_l hm19
 obtain ⟨n24,hn24,hm25⟩:=ltx hm23
 obtain ⟨r26,hr26,hm27⟩:=bs hm25
 rcases r26 with ra28 | ⟨rn29,ro30⟩
 rotate_left
 ·have hm31:=sm_r hm27
  refine c_reg ?_
  refine r_mv z (r_mv z ?_)
  refine rl_st (fun _ h=>mv2 h) ?_
  refine r_c (s_w (o_callL ca101 z (Aj.ok b0_ a0 2 _ hr2) (fun _ _ _ h=>h))) ?_
  refine r_u (o_cv z (cvI (cWI Tryz.underlying22 Tryz.underlying3 ra4.1) hn8)) (r_mv z ?_)
  refine r_c (s_w (o_callL ca101 z (Aj.ok b0_ _ 1000 _ hr10) (fun _ _ _ h=>h))) ?_
  refine r_u (o_cv z (cvI (cWI Tryz.underlying22 Tryz.underlying3 ra12.1) hn16)) (r_mv z ?_)
  refine r_c (s_w (o_callL ca101 z (Aj.ok b0_ _ 1048576 _ hr18) (fun _ _ _ h=>h))) ?_
  refine r_u (o_cv z (cvI (cWI Tryz.underlying22 Tryz.underlying3 ra20.1) hn24)) (r_mv z ?_)
  obtain rfl:=si hm31
  exact r_sw (s_w (o_callR ca101 z (Aj.ok b0_ _ 18446744073709551615 _ hr26) (by rintro _ _ _ ⟨rfl,rfl⟩;exact (px_st (pk 3 [0]) (px_of le_ (.inr ⟨_,z,_,z,z,z⟩)))))) (fun _ _ _ _ h=>h.elim)
 have hm31:=sm_l hm27
 refine c_reg ?_
 refine r_mv z (r_mv z ?_)
 refine rl_st (fun _ h=>mv2 h) ?_
 refine r_c (s_w (o_callL ca101 z (Aj.ok b0_ a0 2 _ hr2) (fun _ _ _ h=>h))) ?_
 refine r_u (o_cv z (cvI (cWI Tryz.underlying22 Tryz.underlying3 ra4.1) hn8)) (r_mv z ?_)
 refine r_c (s_w (o_callL ca101 z (Aj.ok b0_ _ 1000 _ hr10) (fun _ _ _ h=>h))) ?_
 refine r_u (o_cv z (cvI (cWI Tryz.underlying22 Tryz.underlying3 ra12.1) hn16)) (r_mv z ?_)
 refine r_c (s_w (o_callL ca101 z (Aj.ok b0_ _ 1048576 _ hr18) (fun _ _ _ h=>h))) ?_
 refine r_u (o_cv z (cvI (cWI Tryz.underlying22 Tryz.underlying3 ra20.1) hn24)) (r_mv z ?_)
 refine r_c (s_w (o_callL ca101 z (Aj.ok b0_ _ 18446744073709551615 _ hr26) (fun _ _ _ h=>h))) ?_
 refine r_u (o_bld [vI n8,vI n16,vI n24,vW ra28.1] z (fun _=>by kernel_rfl)) (r_nc z (r_fa fa96_0 z ?_))
 refine rl_st (fun _ h=>mv1 h) ?_
 refine r_u0 (o_stn ag24 z z z z z z z) ?_
 refine r_nil (x_seq (c_seq ?_))
 obtain ⟨r32,hr32,hm33⟩:=ltx hm31
 rcases r32 with ra34 | ⟨rn35,ro36⟩
 rotate_left
 ·have hm37:=sm_r hm33
  refine c_reg ?_
  refine r_mv z (r_mv z (r_nc z (r_fa fa96_0 z ?_)))
  refine r_u (o_ldn 0 [vI n8,vI n16,vI n24,vW ra28.1] ag24 z z z z) ?_
  refine r_u (o_callq ca29 z (Bs.ok (⟨n8,n16,n24,ra28.1⟩:Au) _ z)) ?_
  refine rl_st (fun _ h=>mv1 h) ?_
  obtain rfl:=si hm37
  exact r_sw (s_w (o_callR ca102 z (An.ok b0_ _ (Bs (⟨n8,n16,n24,ra28.1⟩:Au)) _ hr32) (by rintro _ _ _ ⟨rfl,rfl⟩;exact (px_st (pk 3 [0]) (px_of le_ (.inr ⟨_,z,_,z,z,z⟩)))))) (fun _ _ _ _ h=>h.elim)
 have hm37:=sm_l hm33
 refine c_reg ?_
 refine r_mv z (r_mv z (r_nc z (r_fa fa96_0 z ?_)))
 refine r_u (o_ldn 0 [vI n8,vI n16,vI n24,vW ra28.1] ag24 z z z z) ?_
 refine r_u (o_callq ca29 z (Bs.ok (⟨n8,n16,n24,ra28.1⟩:Au) _ z)) ?_
 refine rl_st (fun _ h=>mv1 h) ?_
 refine r_c (s_w (o_callL ca102 z (An.ok b0_ _ (Bs (⟨n8,n16,n24,ra28.1⟩:Au)) _ hr32) (fun _ _ _ h=>h))) ?_
 refine r_nil (x_seq (c_seq ?_))
 obtain ⟨r38,hr38,hm39⟩:=bs hm37
 rcases r38 with ra40 | ⟨rn41,ro42⟩
 rotate_left
 ·have hm43:=sm_r hm39
  refine c_reg ?_
  refine r_mv z (r_mv z (r_mv z (r_mv z ?_)))
  obtain rfl:=si hm43
  exact r_sw (s_w (o_callR ca101 z (Aj.ok b0_ _ 18446744073709551615 _ hr38) (by rintro _ _ _ ⟨rfl,rfl⟩;exact (px_st (pk 3 [0]) (px_of le_ (.inr ⟨_,z,_,z,z,z⟩)))))) (fun _ _ _ _ h=>h.elim)
 have hm43:=sm_l hm39
 obtain ⟨r44,hr44,hm45⟩:=bs hm43
 rcases r44 with ra46 | ⟨rn47,ro48⟩
 rotate_left
 ·have hm49:=sm_r hm45
  refine c_reg ?_
  refine r_mv z (r_mv z (r_mv z (r_mv z ?_)))
  refine r_c (s_w (o_callL ca101 z (Aj.ok b0_ _ 18446744073709551615 _ hr38) (fun _ _ _ h=>h))) ?_
  refine r_mv z ?_
  obtain rfl:=si hm49
  exact r_sw (s_w (o_callR ca101 z (Aj.ok b0_ _ 18446744073709551615 _ hr44) (by rintro _ _ _ ⟨rfl,rfl⟩;exact (px_st (pk 3 [0]) (px_of le_ (.inr ⟨_,z,_,z,z,z⟩)))))) (fun _ _ _ _ h=>h.elim)
 have hm49:=sm_l hm45
 obtain ⟨r50,hr50,hm51⟩:=bs hm49
 rcases r50 with ra52 | ⟨rn53,ro54⟩
 rotate_left
 ·have hm55:=sm_r hm51
  refine c_reg ?_
  refine r_mv z (r_mv z (r_mv z (r_mv z ?_)))
  refine r_c (s_w (o_callL ca101 z (Aj.ok b0_ _ 18446744073709551615 _ hr38) (fun _ _ _ h=>h))) ?_
  refine r_mv z ?_
  refine r_c (s_w (o_callL ca101 z (Aj.ok b0_ _ 18446744073709551615 _ hr44) (fun _ _ _ h=>h))) ?_
  refine r_mv z ?_
  obtain rfl:=si hm55
  exact r_sw (s_w (o_callR ca101 z (Aj.ok b0_ _ 18446744073709551615 _ hr50) (by rintro _ _ _ ⟨rfl,rfl⟩;exact (px_st (pk 3 [0]) (px_of le_ (.inr ⟨_,z,_,z,z,z⟩)))))) (fun _ _ _ _ h=>h.elim)
 have hm55:=sm_l hm51
 refine c_reg ?_
 refine r_mv z (r_mv z (r_mv z (r_mv z ?_)))
 refine r_c (s_w (o_callL ca101 z (Aj.ok b0_ _ 18446744073709551615 _ hr38) (fun _ _ _ h=>h))) ?_
 refine r_mv z ?_
 refine r_c (s_w (o_callL ca101 z (Aj.ok b0_ _ 18446744073709551615 _ hr44) (fun _ _ _ h=>h))) ?_
 refine r_mv z ?_
 refine r_c (s_w (o_callL ca101 z (Aj.ok b0_ _ 18446744073709551615 _ hr50) (fun _ _ _ h=>h))) ?_
 refine r_nc z (r_fa fa96_4 z ?_)
 refine rl_st (fun _ h=>mv1 h) ?_
 refine r_u0 (o_st sc22 z z z z z z) ?_
 refine r_nc z (r_fa fa96_5 z ?_)
 refine r_u0 (o_st sc22 z z z z z z) ?_
 refine r_nc z (r_fa fa96_6 z ?_)
 refine r_u0 (o_st sc22 z z z z z z) ?_
 refine r_nil (x_seq (c_seq ?_))
 obtain ⟨r56,hr56,hm57⟩:=bs hm55
 rcases r56 with ra58 | ⟨rn59,ro60⟩
 rotate_left
 ·have hm61:=sm_r hm57
  refine c_reg ?_
  refine r_mv z (r_mv z ?_)
  refine rl_st (fun _ h=>mv1 h) ?_
  obtain rfl:=si hm61
  exact r_sw (s_w (o_callR ca101 z (Aj.ok b0_ _ 9223372036854775807 _ hr56) (by rintro _ _ _ ⟨rfl,rfl⟩;exact (px_st (pk 3 [0]) (px_of le_ (.inr ⟨_,z,_,z,z,z⟩)))))) (fun _ _ _ _ h=>h.elim)
 have hm61:=sm_l hm57
 obtain ⟨n62,hn62,hm63⟩:=ltx hm61
 obtain ⟨r64,hr64,hm65⟩:=bs hm63
 rcases r64 with ra66 | ⟨rn67,ro68⟩
 rotate_left
 ·have hm69:=sm_r hm65
  refine c_reg ?_
  refine r_mv z (r_mv z ?_)
  refine rl_st (fun _ h=>mv1 h) ?_
  refine r_c (s_w (o_callL ca101 z (Aj.ok b0_ _ 9223372036854775807 _ hr56) (fun _ _ _ h=>h))) ?_
  refine r_u (o_cv z (cvI (cWI Tryz.underlying22 Tryz.underlying2 ra58.1) hn62)) (r_mv z ?_)
  obtain rfl:=si hm69
  exact r_sw (s_w (o_callR ca101 z (Aj.ok b0_ _ 9223372036854775807 _ hr64) (by rintro _ _ _ ⟨rfl,rfl⟩;exact (px_st (pk 3 [0]) (px_of le_ (.inr ⟨_,z,_,z,z,z⟩)))))) (fun _ _ _ _ h=>h.elim)
 have hm69:=sm_l hm65
 refine c_reg ?_
 refine r_mv z (r_mv z ?_)
 refine rl_st (fun _ h=>mv1 h) ?_
 refine r_c (s_w (o_callL ca101 z (Aj.ok b0_ _ 9223372036854775807 _ hr56) (fun _ _ _ h=>h))) ?_
 refine r_u (o_cv z (cvI (cWI Tryz.underlying22 Tryz.underlying2 ra58.1) hn62)) (r_mv z ?_)
 refine r_c (s_w (o_callL ca101 z (Aj.ok b0_ _ 9223372036854775807 _ hr64) (fun _ _ _ h=>h))) ?_
 obtain ⟨n70,hn70,hm71⟩:=ltx hm69
 refine r_u (o_cv z (cvI (cWI Tryz.underlying22 Tryz.underlying2 ra66.1) hn70)) ?_
 refine r_u (o_bld [vI n62,vI n70] z (fun _=>by kernel_rfl)) (r_nc z (r_fa fa96_7 z ?_))
 refine rl_st (fun _ h=>mv1 h) ?_
 refine r_u0 (o_stn ag47 z z z z z z z) ?_
 refine r_nil (x_seq (c_seq ?_))
 obtain ⟨r72,hr72,hm73⟩:=ltx hm71
 rcases r72 with ra74 | ⟨rn75,ro76⟩
 rotate_left
 ·have hm77:=sm_r hm73
  refine c_any mixed (effs:=[12]) (V:=[]) ?_
  refine stage_st (fun _ h=>mv1 h) ?_
  refine stn mk16_ [0,1,2,3,4,5,6,7,8,9,10,11] [12] [_,_,_,_,_,_,_,_,_,_,_,_] (q_mv z z z (q_mv z z z (q_u z z (o_nc z) (q_fa z z fa96_7 z (q_fa z z fa47_1 z (q_ld z z 1 sc2 z z z (q_mv z z z (q_u z z (o_nc z) (q_fa z z fa96_7 z (q_fa z z fa47_0 z (q_ld z z 1 sc2 z z z (q_u z z (o_bin z z (bI_le _ _)) qn)))))))))))) ?_ (nxt z)
  obtain rfl:=si hm77
  exact ec (eo_w z (s_w (o_callR ca102 z (An.ok b0_ _ _ _ hr72) (by rintro _ _ _ ⟨rfl,rfl⟩;exact (px_st (pk 3 [0]) (px_of le_ (.inr ⟨_,z,_,z,z,z⟩)))))) (fun _ _ _ _ h=>h.elim)) en
 have hm77:=sm_l hm73
 refine c_any mixed (effs:=[12]) (V:=[]) ?_
 refine stage_st (fun _ h=>mv1 h) ?_
 refine stn mk16_ [0,1,2,3,4,5,6,7,8,9,10,11] [12] [_,_,_,_,_,_,_,_,_,_,_,_] (q_mv z z z (q_mv z z z (q_u z z (o_nc z) (q_fa z z fa96_7 z (q_fa z z fa47_1 z (q_ld z z 1 sc2 z z z (q_mv z z z (q_u z z (o_nc z) (q_fa z z fa96_7 z (q_fa z z fa47_0 z (q_ld z z 1 sc2 z z z (q_u z z (o_bin z z (bI_le _ _)) qn)))))))))))) ?_ (nxt z)
 refine ec (eo_c z (s_w (o_callL ca102 z (An.ok b0_ _ _ _ hr72) (fun _ _ _ h=>h))) ?_) en
 refine stage z z z z mk16_ [] [] z z z qn en ?_
 intro _
 refine ex_sub (E':=[(0,pt b0_ 0),(3,pt b1 0)]) ⟨z,z,trivial⟩ ?_
 refine x_seq (c_seq ?_)
 obtain ⟨r78,hr78,hm79⟩:=bs hm77
 rcases r78 with ra80 | ⟨rn81,ro82⟩
 rotate_left
 ·have hm83:=sm_r hm79
  refine c_reg ?_
  refine r_mv z (r_mv z ?_)
  obtain rfl:=si hm83
  exact r_sw (s_w (o_callR ca103 z (CP.ok b0_ _ _ hr78) (by rintro _ _ _ ⟨rfl,rfl⟩;exact (px_st (pk 3 [0]) (px_of le_ (.inr ⟨_,z,_,z,z,z⟩)))))) (fun _ _ _ _ h=>h.elim)
 have hm83:=sm_l hm79
 refine c_reg ?_
 refine r_mv z (r_mv z ?_)
 refine r_sw (s_w (o_callL ca103 z (CP.ok b0_ _ _ hr78) (fun _ _ _ h=>h))) ?_
 rintro pv85 R _ _ ⟨⟨_,g86⟩,rfl,rfl,rfl⟩
 refine r_nc z (r_fa fa96_1 z ?_)
 refine rl_st (fun _ h=>mv2 h) ?_
 refine r_u0 (ou_if (one_p 1 z) fun ho0=>o_st sc92 z z z ho0 z z) ?_
 refine r_nil (x_seq (c_seq ?_))
 obtain ⟨r87,hr87,hm88⟩:=bs hm83
 rcases r87 with ra89 | ⟨rn90,ro91⟩
 rotate_left
 ·have hm92:=sm_r hm88
  refine c_reg ?_
  refine r_mv z (r_mv z ?_)
  refine rl_st (fun _ h=>mv2 h) ?_
  obtain rfl:=si hm92
  exact r_sw (s_w (o_callR ca104 z (Ck.ok b0_ _ _ hr87) (by rintro _ _ _ ⟨rfl,rfl⟩;exact (px_st (pk 4 [0]) (px_of le_ (.inr ⟨_,z,_,z,z,z⟩)))))) (fun _ _ _ _ h=>h.elim)
 have hm92:=sm_l hm88
 refine c_reg ?_
 refine r_mv z (r_mv z ?_)
 refine rl_st (fun _ h=>mv2 h) ?_
 refine r_sw (s_w (o_callL ca104 z (Ck.ok b0_ _ _ hr87) (fun _ _ _ h=>h))) ?_
 rintro pv94 R _ _ ⟨⟨_,g95⟩,rfl,rfl,rfl⟩
 refine r_nc z (r_fa fa96_2 z ?_)
 refine rl_st (fun _ h=>mv2 h) ?_
 refine r_u0 (ou_if (one_p 1 z) fun ho0=>o_st sc93 z z z ho0 z z) ?_
 refine r_nil (x_seq (c_seq ?_))
 refine cd_st (fun _ h=>mv1 h) ?_
 refine cd_opt (fun ho98 => ?_) (fun x96 b97 ho98 => ?_)
 ·rintro rfl
  have hm99:=om_n hm92 ho98
  cases hm99
 rintro rfl
 have hm99:=om_s hm92 ho98
 obtain ⟨⟨pv101,g102⟩,⟨pv104,g105⟩⟩:=g95
 refine cd_st (fun _ h=>st_star_o h) ?_
 obtain ⟨p106,hp111,hm112⟩:=bs hm99
 refine cd_cut (fun x ks=>∀(q107:Option Ah),∀(_:p106=Sum.inl q107),∀(pv108:Value×Ah.G),EX x .normal ks [(0,pt b0_ 0),(3,pt b1 0)] R (Bk b0_ 177 (Aa.c ra89.2)::Bk b97 144 [vI x96.kind,pv101,pv104]::Bk b1 96 [vI n8,vI n16,vI n24,vW ra28.1,pv108.1,pt b97 0,v0,vW ra40.1,vW ra46.1,vW ra52.1,vI n62,vI n70]::rO (Ai.op g102) pv101 x96.a::rO (Af.op g105) pv104 x96.t::OwM vW Ao.v v0 []::rO (Ah.op pv108.2) pv108.1 q107::F)) ?_ fun K113 => ?_
 rotate_left
 ·refine cd_by ((Ap x96)==n8) (fun h190 => ?_) fun h190 => ?_
  rotate_left
  ·have hm191:=iff_ hp111 h190
   obtain ⟨r231,hr231,hm232⟩:=ltx hm191
   rcases r231 with ra233 | ⟨rn234,ro235⟩
   ·have hm236:=sm_l hm232
    refine c_any mixed (effs:=[51]) (V:=[]) ?_
    refine stage_st (fun _ h=>mv4 h) ?_
    refine stn mk15_ [0,1,2,3,4,5,6,7,8,9,10,11,12,13,14,15,16,17,18,19,20,21,22,23,24,25,26,27,28,29,30,31,32,33,34,35,36,37,38,39,40,41,42,43,44,45,46,47,48,49,50] [51] [_,_,_,_,_,_,_,_,_,_,_,_,_,_,_,_,_,_,_,_,_,_,_,_,_,_,_,_,_,_,_,_,_,_,_,_,_,_,_,_,_,_,_,_,_,_,_,_,_,_,_] (q_mv z z z (q_mv z z z (q_u z z (o_nc z) (q_fa z z fa96_2 z (q_ld z z 4 sc93 z z z (q_u z z (o_callqP ca67 z (Ap.ok b97 x96 (⟨(pv101,g102),(pv104,g105)⟩:Ac.G) _ z) (pk 7 [1,2,3,0,4,5,6]) (pk 7 [3,0,1,2,4,5,6])) (q_mv z z z (q_u z z (o_nc z) (q_fa z z fa96_0 z (q_fa z z fa24_0 z (q_ld z z 4 sc3 z z z (q_u z z (o_bin z z (bI_eq _ n8)) (q_mv z z z (q_n z z z z h190 (q_n z z z z h190 (q_n z z z z h190 (q_n z z z z h190 (q_n z z z z h190 (q_n z z z z h190 (q_n z z z z h190 (q_n z z z z h190 (q_n z z z z h190 (q_n z z z z h190 (q_n z z z z h190 (q_u z z (o_pf z h190 z) (q_mv z z z (q_n z z z z z (q_n z z z z z (q_n z z z z z (q_n z z z z z (q_n z z z z z (q_n z z z z z (q_n z z z z z (q_n z z z z z (q_n z z z z z (q_n z z z z z (q_n z z z z z (q_u z z (o_pf z z z) (q_mv z z z (q_n z z z z z (q_n z z z z z (q_n z z z z z (q_n z z z z z (q_n z z z z z (q_n z z z z z (q_n z z z z z (q_n z z z z z (q_n z z z z z (q_n z z z z z (q_n z z z z z (q_u z z (o_pf z z z) qn))))))))))))))))))))))))))))))))))))))))))))))))))) ?_ (nxt z)
    refine ec (eo_c z (s_w (o_callL ca102 z (An.ok b0_ _ _ _ hr231) (fun _ _ _ h=>h))) ?_) en
    refine stage z z z z mk15_ [] [] z z z qn en ?_
    intro _
    refine ex_sub (E':=[(0,pt b0_ 0),(3,pt b1 0)]) ⟨z,z,trivial⟩ ?_
    obtain rfl:=si hm236
    exact x_sub (K113 _ z (pv85,g86)) ⟨z,z,trivial⟩ (pk 7 [0,1,4,2,3,6,5])
   have hm236:=sm_r hm232
   refine c_any mixed (effs:=[51]) (V:=[]) ?_
   refine stage_st (fun _ h=>mv4 h) ?_
   refine stn mk15_ [0,1,2,3,4,5,6,7,8,9,10,11,12,13,14,15,16,17,18,19,20,21,22,23,24,25,26,27,28,29,30,31,32,33,34,35,36,37,38,39,40,41,42,43,44,45,46,47,48,49,50] [51] [_,_,_,_,_,_,_,_,_,_,_,_,_,_,_,_,_,_,_,_,_,_,_,_,_,_,_,_,_,_,_,_,_,_,_,_,_,_,_,_,_,_,_,_,_,_,_,_,_,_,_] (q_mv z z z (q_mv z z z (q_u z z (o_nc z) (q_fa z z fa96_2 z (q_ld z z 4 sc93 z z z (q_u z z (o_callqP ca67 z (Ap.ok b97 x96 (⟨(pv101,g102),(pv104,g105)⟩:Ac.G) _ z) (pk 7 [1,2,3,0,4,5,6]) (pk 7 [3,0,1,2,4,5,6])) (q_mv z z z (q_u z z (o_nc z) (q_fa z z fa96_0 z (q_fa z z fa24_0 z (q_ld z z 4 sc3 z z z (q_u z z (o_bin z z (bI_eq _ n8)) (q_mv z z z (q_n z z z z h190 (q_n z z z z h190 (q_n z z z z h190 (q_n z z z z h190 (q_n z z z z h190 (q_n z z z z h190 (q_n z z z z h190 (q_n z z z z h190 (q_n z z z z h190 (q_n z z z z h190 (q_n z z z z h190 (q_u z z (o_pf z h190 z) (q_mv z z z (q_n z z z z z (q_n z z z z z (q_n z z z z z (q_n z z z z z (q_n z z z z z (q_n z z z z z (q_n z z z z z (q_n z z z z z (q_n z z z z z (q_n z z z z z (q_n z z z z z (q_u z z (o_pf z z z) (q_mv z z z (q_n z z z z z (q_n z z z z z (q_n z z z z z (q_n z z z z z (q_n z z z z z (q_n z z z z z (q_n z z z z z (q_n z z z z z (q_n z z z z z (q_n z z z z z (q_n z z z z z (q_u z z (o_pf z z z) qn))))))))))))))))))))))))))))))))))))))))))))))))))) ?_ (nxt z)
   obtain rfl:=si hm236
   try dsimp only at hm112
   obtain rfl:=si hm112
   exact ec (eo_w z (s_w (o_callR ca102 z (An.ok b0_ _ _ _ hr231) (by rintro _ _ _ ⟨rfl,rfl⟩;exact (px_st (pk 7 [0]) (px_of le_ (.inr ⟨_,z,_,z,z,z⟩)))))) (fun _ _ _ _ h=>h.elim)) en
  have hm191:=ift hp111 h190
  obtain ⟨r192,hr192,hm193⟩:=bs hm191
  refine cd_st (fun _ h=>mv5 h) ?_
  refine cd_opt (fun ho196 => ?_) (fun x194 b195 ho196 => ?_)
  ·rintro rfl
   have hm197:=om_n hm193 ho196
   cases hm197
  rintro rfl
  have hm197:=om_s hm193 ho196
  refine cd_st (fun _ h=>st_star_o h) ?_
  obtain ⟨p199,hp201,hm202⟩:=bs hm197
  refine cd_joinS (p:=p199) (Ef:=fun q200=>[(0,pt b0_ 0),(3,pt b1 0)]) (Lf:=fun q200=>Bk b0_ 177 (Aa.c ra89.2)::Bk b195 138 [g86.m,vI x194.bytes]::Bk b97 144 [vI x96.kind,pv101,pv104]::Bk b1 96 [vI n8,vI n16,vI n24,vW ra28.1,pt b195 0,pt b97 0,v0,vW ra40.1,vW ra46.1,vW ra52.1,vI n62,vI n70]::OwM vS Ak.v g86.m x194.m::rO (Ai.op g102) pv101 x96.a::rO (Af.op g105) pv104 x96.t::OwM vW Ao.v v0 []::F) (fun q200 hq => ?_) fun K203 => ?_
  ·subst hq
   try dsimp only at hm202
   refine ex_st (fun _ h=>mv2 (mv4 h)) ?_
   refine ex_st (fun _ h=>st_some (f:=Ah.op g86) (a:=x194) (st_star_f (A:=Ah.fl b195 x194 g86) h)) ?_
   obtain rfl:=si hm202
   exact x_sub (K113 _ z (pt b195 0,g86)) ⟨z,z,trivial⟩ (pk 7 [1,2,3,4,5,6,0])
  refine cd_by (r192==(AM x194)) (fun h204 => ?_) fun h204 => ?_
  rotate_left
  ·have hm205:=iff_ hp201 h204
   obtain ⟨r225,hr225,hm226⟩:=ltx hm205
   rcases r225 with ra227 | ⟨rn228,ro229⟩
   ·have hm230:=sm_l hm226
    refine c_any mixed (effs:=[51]) (V:=[]) ?_
    refine stage_st (fun _ h=>mv6 h) ?_
    refine stn mk15_ [0,1,2,3,4,5,6,7,8,9,10,11,12,13,14,15,16,17,18,19,20,21,22,23,24,25,26,27,28,29,30,31,32,33,34,35,36,37,38,39,40,41,42,43,44,45,46,47,48,49,50] [51] [_,_,_,_,_,_,_,_,_,_,_,_,_,_,_,_,_,_,_,_,_,_,_,_,_,_,_,_,_,_,_,_,_,_,_,_,_,_,_,_,_,_,_,_,_,_,_,_,_,_,_] (q_mv z z z (q_mv z z z (q_u z z (o_nc z) (q_fa z z fa96_2 z (q_ld z z 6 sc93 z z z (q_u z z (o_callqP ca67 z (Ap.ok b97 x96 (⟨(pv101,g102),(pv104,g105)⟩:Ac.G) _ z) (pk 8 [3,4,5,0,1,2,6,7]) (pk 8 [3,4,5,0,1,2,6,7])) (q_mv z z z (q_u z z (o_nc z) (q_fa z z fa96_0 z (q_fa z z fa24_0 z (q_ld z z 6 sc3 z z z (q_u z z (o_bin z z (bI_eq _ n8)) (q_mv z z z (q_y z z z z h190 (o_mv z) (q_y z z z z h190 (o_nc z) (q_y z z z z h190 (o_fa fa96_2 z) (q_y z z z z h190 (o_ld 6 sc93 z z z) (q_y z z z z h190 (o_callqP ca105 z (AW.ok b97 _ (⟨(pv101,g102),(pv104,g105)⟩:Ac.G) _ hr192) (pk 8 [3,4,5,0,1,2,6,7]) (pk 8 [3,4,5,0,1,2,6,7])) (q_y z z z z h190 (o_mv z) (q_y z z z z h190 (o_nc z) (q_y z z z z h190 (o_fa fa96_1 z) (q_y z z z z h190 (o_ld 6 sc92 z z z) (q_y z z z z h190 (o_callqP ca106 z (AM.ok b195 x194 g86 _ z) (pk 8 [1,2,0,3,4,5,6,7]) (pk 8 [2,0,1,3,4,5,6,7])) (q_y z z z z h190 (o_bin z z (bI_eq _ _)) (q_u z z (o_pt z h190 z) (q_mv z z z (q_n z z z z h204 (q_n z z z z h204 (q_n z z z z h204 (q_n z z z z h204 (q_n z z z z h204 (q_n z z z z h204 (q_n z z z z h204 (q_n z z z z h204 (q_n z z z z h204 (q_n z z z z h204 (q_n z z z z h204 (q_u z z (o_pf z h204 z) (q_mv z z z (q_n z z z z z (q_n z z z z z (q_n z z z z z (q_n z z z z z (q_n z z z z z (q_n z z z z z (q_n z z z z z (q_n z z z z z (q_n z z z z z (q_n z z z z z (q_n z z z z z (q_u z z (o_pf z z z) qn))))))))))))))))))))))))))))))))))))))))))))))))))) ?_ (nxt z)
    refine ec (eo_c z (s_w (o_callL ca102 z (An.ok b0_ _ _ _ hr225) (fun _ _ _ h=>h))) ?_) en
    refine stage z z z z mk15_ [] [] z z z qn en ?_
    intro _
    refine ex_sub (E':=[(0,pt b0_ 0),(3,pt b1 0)]) ⟨z,z,trivial⟩ ?_
    obtain rfl:=si hm230
    exact x_sub (K203 _ z) ⟨z,z,trivial⟩ (pk 8 [0,1,3,6,2,4,5,7])
   have hm230:=sm_r hm226
   refine c_any mixed (effs:=[51]) (V:=[]) ?_
   refine stage_st (fun _ h=>mv6 h) ?_
   refine stn mk15_ [0,1,2,3,4,5,6,7,8,9,10,11,12,13,14,15,16,17,18,19,20,21,22,23,24,25,26,27,28,29,30,31,32,33,34,35,36,37,38,39,40,41,42,43,44,45,46,47,48,49,50] [51] [_,_,_,_,_,_,_,_,_,_,_,_,_,_,_,_,_,_,_,_,_,_,_,_,_,_,_,_,_,_,_,_,_,_,_,_,_,_,_,_,_,_,_,_,_,_,_,_,_,_,_] (q_mv z z z (q_mv z z z (q_u z z (o_nc z) (q_fa z z fa96_2 z (q_ld z z 6 sc93 z z z (q_u z z (o_callqP ca67 z (Ap.ok b97 x96 (⟨(pv101,g102),(pv104,g105)⟩:Ac.G) _ z) (pk 8 [3,4,5,0,1,2,6,7]) (pk 8 [3,4,5,0,1,2,6,7])) (q_mv z z z (q_u z z (o_nc z) (q_fa z z fa96_0 z (q_fa z z fa24_0 z (q_ld z z 6 sc3 z z z (q_u z z (o_bin z z (bI_eq _ n8)) (q_mv z z z (q_y z z z z h190 (o_mv z) (q_y z z z z h190 (o_nc z) (q_y z z z z h190 (o_fa fa96_2 z) (q_y z z z z h190 (o_ld 6 sc93 z z z) (q_y z z z z h190 (o_callqP ca105 z (AW.ok b97 _ (⟨(pv101,g102),(pv104,g105)⟩:Ac.G) _ hr192) (pk 8 [3,4,5,0,1,2,6,7]) (pk 8 [3,4,5,0,1,2,6,7])) (q_y z z z z h190 (o_mv z) (q_y z z z z h190 (o_nc z) (q_y z z z z h190 (o_fa fa96_1 z) (q_y z z z z h190 (o_ld 6 sc92 z z z) (q_y z z z z h190 (o_callqP ca106 z (AM.ok b195 x194 g86 _ z) (pk 8 [1,2,0,3,4,5,6,7]) (pk 8 [2,0,1,3,4,5,6,7])) (q_y z z z z h190 (o_bin z z (bI_eq _ _)) (q_u z z (o_pt z h190 z) (q_mv z z z (q_n z z z z h204 (q_n z z z z h204 (q_n z z z z h204 (q_n z z z z h204 (q_n z z z z h204 (q_n z z z z h204 (q_n z z z z h204 (q_n z z z z h204 (q_n z z z z h204 (q_n z z z z h204 (q_n z z z z h204 (q_u z z (o_pf z h204 z) (q_mv z z z (q_n z z z z z (q_n z z z z z (q_n z z z z z (q_n z z z z z (q_n z z z z z (q_n z z z z z (q_n z z z z z (q_n z z z z z (q_n z z z z z (q_n z z z z z (q_n z z z z z (q_u z z (o_pf z z z) qn))))))))))))))))))))))))))))))))))))))))))))))))))) ?_ (nxt z)
   obtain rfl:=si hm230
   try dsimp only at hm202
   obtain rfl:=si hm202
   try dsimp only at hm112
   obtain rfl:=si hm112
   exact ec (eo_w z (s_w (o_callR ca102 z (An.ok b0_ _ _ _ hr225) (by rintro _ _ _ ⟨rfl,rfl⟩;exact (px_st (pk 8 [0]) (px_of le_ (.inr ⟨_,z,_,z,z,z⟩)))))) (fun _ _ _ _ h=>h.elim)) en
  have hm205:=ift hp201 h204
  obtain ⟨p206,hp208,hm209⟩:=bs hm205
  refine cd_joinS (p:=p206) (Ef:=fun q207=>[(0,pt b0_ 0),(3,pt b1 0)]) (Lf:=fun q207=>Bk b0_ 177 (Aa.c ra89.2)::Bk b195 138 [g86.m,vI x194.bytes]::Bk b97 144 [vI x96.kind,pv101,pv104]::Bk b1 96 [vI n8,vI n16,vI n24,vW ra28.1,pt b195 0,pt b97 0,v0,vW ra40.1,vW ra46.1,vW ra52.1,vI n62,vI n70]::OwM vS Ak.v g86.m x194.m::rO (Ai.op g102) pv101 x96.a::rO (Af.op g105) pv104 x96.t::OwM vW Ao.v v0 []::F) (fun q207 hq => ?_) fun K210 => ?_
  ·subst hq
   try dsimp only at hm209
   obtain rfl:=si hm209
   exact x_sub (K203 _ z) ⟨z,z,trivial⟩ (pk 8 [0,1,2,3,4,5,6,7])
  refine cd_by (decide ((AM x194)≤n16)) (fun h211 => ?_) fun h211 => ?_
  ·have hm212:=ift hp208 h211
   obtain ⟨r213,hr213,hm214⟩:=ltx hm212
   rcases r213 with ra215 | ⟨rn216,ro217⟩
   ·have hm218:=sm_l hm214
    refine c_any mixed (effs:=[51]) (V:=[]) ?_
    refine stage_st (fun _ h=>mv6 h) ?_
    refine stn mk15_ [0,1,2,3,4,5,6,7,8,9,10,11,12,13,14,15,16,17,18,19,20,21,22,23,24,25,26,27,28,29,30,31,32,33,34,35,36,37,38,39,40,41,42,43,44,45,46,47,48,49,50] [51] [_,_,_,_,_,_,_,_,_,_,_,_,_,_,_,_,_,_,_,_,_,_,_,_,_,_,_,_,_,_,_,_,_,_,_,_,_,_,_,_,_,_,_,_,_,_,_,_,_,_,_] (q_mv z z z (q_mv z z z (q_u z z (o_nc z) (q_fa z z fa96_2 z (q_ld z z 6 sc93 z z z (q_u z z (o_callqP ca67 z (Ap.ok b97 x96 (⟨(pv101,g102),(pv104,g105)⟩:Ac.G) _ z) (pk 8 [3,4,5,0,1,2,6,7]) (pk 8 [3,4,5,0,1,2,6,7])) (q_mv z z z (q_u z z (o_nc z) (q_fa z z fa96_0 z (q_fa z z fa24_0 z (q_ld z z 6 sc3 z z z (q_u z z (o_bin z z (bI_eq _ n8)) (q_mv z z z (q_y z z z z h190 (o_mv z) (q_y z z z z h190 (o_nc z) (q_y z z z z h190 (o_fa fa96_2 z) (q_y z z z z h190 (o_ld 6 sc93 z z z) (q_y z z z z h190 (o_callqP ca105 z (AW.ok b97 _ (⟨(pv101,g102),(pv104,g105)⟩:Ac.G) _ hr192) (pk 8 [3,4,5,0,1,2,6,7]) (pk 8 [3,4,5,0,1,2,6,7])) (q_y z z z z h190 (o_mv z) (q_y z z z z h190 (o_nc z) (q_y z z z z h190 (o_fa fa96_1 z) (q_y z z z z h190 (o_ld 6 sc92 z z z) (q_y z z z z h190 (o_callqP ca106 z (AM.ok b195 x194 g86 _ z) (pk 8 [1,2,0,3,4,5,6,7]) (pk 8 [2,0,1,3,4,5,6,7])) (q_y z z z z h190 (o_bin z z (bI_eq _ _)) (q_u z z (o_pt z h190 z) (q_mv z z z (q_y z z z z h204 (o_mv z) (q_y z z z z h204 (o_nc z) (q_y z z z z h204 (o_fa fa96_1 z) (q_y z z z z h204 (o_ld 6 sc92 z z z) (q_y z z z z h204 (o_callqP ca106 z (AM.ok b195 x194 g86 _ z) (pk 8 [1,2,0,3,4,5,6,7]) (pk 8 [2,0,1,3,4,5,6,7])) (q_y z z z z h204 (o_mv z) (q_y z z z z h204 (o_nc z) (q_y z z z z h204 (o_fa fa96_0 z) (q_y z z z z h204 (o_fa fa24_1 z) (q_y z z z z h204 (o_ld 6 sc3 z z z) (q_y z z z z h204 (o_bin z z (bI_le _ _)) (q_u z z (o_pt z h204 z) (q_mv z z z (q_y z z z z h211 (o_mv z) (q_y z z z z h211 (o_nc z) (q_y z z z z h211 (o_fa fa96_1 z) (q_y z z z z h211 (o_ld 6 sc92 z z z) (q_y z z z z h211 (o_callqP ca107 z (Ba.ok b195 x194 g86 _ z) (pk 8 [1,2,0,3,4,5,6,7]) (pk 8 [2,0,1,3,4,5,6,7])) (q_y z z z z h211 (o_mv z) (q_y z z z z h211 (o_nc z) (q_y z z z z h211 (o_fa fa96_0 z) (q_y z z z z h211 (o_fa fa24_2 z) (q_y z z z z h211 (o_ld 6 sc3 z z z) (q_y z z z z h211 (o_bin z z (bI_le _ _)) (q_u z z (o_pt z h211 z) qn))))))))))))))))))))))))))))))))))))))))))))))))))) ?_ (nxt z)
    refine ec (eo_c z (s_w (o_callL ca102 z (An.ok b0_ _ _ _ hr213) (fun _ _ _ h=>h))) ?_) en
    refine stage z z z z mk15_ [] [] z z z qn en ?_
    intro _
    refine ex_sub (E':=[(0,pt b0_ 0),(3,pt b1 0)]) ⟨z,z,trivial⟩ ?_
    obtain rfl:=si hm218
    exact x_sub (K210 _ z) ⟨z,z,trivial⟩ (pk 8 [0,1,3,6,2,4,5,7])
   have hm218:=sm_r hm214
   refine c_any mixed (effs:=[51]) (V:=[]) ?_
   refine stage_st (fun _ h=>mv6 h) ?_
   refine stn mk15_ [0,1,2,3,4,5,6,7,8,9,10,11,12,13,14,15,16,17,18,19,20,21,22,23,24,25,26,27,28,29,30,31,32,33,34,35,36,37,38,39,40,41,42,43,44,45,46,47,48,49,50] [51] [_,_,_,_,_,_,_,_,_,_,_,_,_,_,_,_,_,_,_,_,_,_,_,_,_,_,_,_,_,_,_,_,_,_,_,_,_,_,_,_,_,_,_,_,_,_,_,_,_,_,_] (q_mv z z z (q_mv z z z (q_u z z (o_nc z) (q_fa z z fa96_2 z (q_ld z z 6 sc93 z z z (q_u z z (o_callqP ca67 z (Ap.ok b97 x96 (⟨(pv101,g102),(pv104,g105)⟩:Ac.G) _ z) (pk 8 [3,4,5,0,1,2,6,7]) (pk 8 [3,4,5,0,1,2,6,7])) (q_mv z z z (q_u z z (o_nc z) (q_fa z z fa96_0 z (q_fa z z fa24_0 z (q_ld z z 6 sc3 z z z (q_u z z (o_bin z z (bI_eq _ n8)) (q_mv z z z (q_y z z z z h190 (o_mv z) (q_y z z z z h190 (o_nc z) (q_y z z z z h190 (o_fa fa96_2 z) (q_y z z z z h190 (o_ld 6 sc93 z z z) (q_y z z z z h190 (o_callqP ca105 z (AW.ok b97 _ (⟨(pv101,g102),(pv104,g105)⟩:Ac.G) _ hr192) (pk 8 [3,4,5,0,1,2,6,7]) (pk 8 [3,4,5,0,1,2,6,7])) (q_y z z z z h190 (o_mv z) (q_y z z z z h190 (o_nc z) (q_y z z z z h190 (o_fa fa96_1 z) (q_y z z z z h190 (o_ld 6 sc92 z z z) (q_y z z z z h190 (o_callqP ca106 z (AM.ok b195 x194 g86 _ z) (pk 8 [1,2,0,3,4,5,6,7]) (pk 8 [2,0,1,3,4,5,6,7])) (q_y z z z z h190 (o_bin z z (bI_eq _ _)) (q_u z z (o_pt z h190 z) (q_mv z z z (q_y z z z z h204 (o_mv z) (q_y z z z z h204 (o_nc z) (q_y z z z z h204 (o_fa fa96_1 z) (q_y z z z z h204 (o_ld 6 sc92 z z z) (q_y z z z z h204 (o_callqP ca106 z (AM.ok b195 x194 g86 _ z) (pk 8 [1,2,0,3,4,5,6,7]) (pk 8 [2,0,1,3,4,5,6,7])) (q_y z z z z h204 (o_mv z) (q_y z z z z h204 (o_nc z) (q_y z z z z h204 (o_fa fa96_0 z) (q_y z z z z h204 (o_fa fa24_1 z) (q_y z z z z h204 (o_ld 6 sc3 z z z) (q_y z z z z h204 (o_bin z z (bI_le _ _)) (q_u z z (o_pt z h204 z) (q_mv z z z (q_y z z z z h211 (o_mv z) (q_y z z z z h211 (o_nc z) (q_y z z z z h211 (o_fa fa96_1 z) (q_y z z z z h211 (o_ld 6 sc92 z z z) (q_y z z z z h211 (o_callqP ca107 z (Ba.ok b195 x194 g86 _ z) (pk 8 [1,2,0,3,4,5,6,7]) (pk 8 [2,0,1,3,4,5,6,7])) (q_y z z z z h211 (o_mv z) (q_y z z z z h211 (o_nc z) (q_y z z z z h211 (o_fa fa96_0 z) (q_y z z z z h211 (o_fa fa24_2 z) (q_y z z z z h211 (o_ld 6 sc3 z z z) (q_y z z z z h211 (o_bin z z (bI_le _ _)) (q_u z z (o_pt z h211 z) qn))))))))))))))))))))))))))))))))))))))))))))))))))) ?_ (nxt z)
   obtain rfl:=si hm218
   try dsimp only at hm209
   obtain rfl:=si hm209
   try dsimp only at hm202
   obtain rfl:=si hm202
   try dsimp only at hm112
   obtain rfl:=si hm112
   exact ec (eo_w z (s_w (o_callR ca102 z (An.ok b0_ _ _ _ hr213) (by rintro _ _ _ ⟨rfl,rfl⟩;exact (px_st (pk 8 [0]) (px_of le_ (.inr ⟨_,z,_,z,z,z⟩)))))) (fun _ _ _ _ h=>h.elim)) en
  have hm212:=iff_ hp208 h211
  obtain ⟨r219,hr219,hm220⟩:=ltx hm212
  rcases r219 with ra221 | ⟨rn222,ro223⟩
  ·have hm224:=sm_l hm220
   refine c_any mixed (effs:=[51]) (V:=[]) ?_
   refine stage_st (fun _ h=>mv6 h) ?_
   refine stn mk15_ [0,1,2,3,4,5,6,7,8,9,10,11,12,13,14,15,16,17,18,19,20,21,22,23,24,25,26,27,28,29,30,31,32,33,34,35,36,37,38,39,40,41,42,43,44,45,46,47,48,49,50] [51] [_,_,_,_,_,_,_,_,_,_,_,_,_,_,_,_,_,_,_,_,_,_,_,_,_,_,_,_,_,_,_,_,_,_,_,_,_,_,_,_,_,_,_,_,_,_,_,_,_,_,_] (q_mv z z z (q_mv z z z (q_u z z (o_nc z) (q_fa z z fa96_2 z (q_ld z z 6 sc93 z z z (q_u z z (o_callqP ca67 z (Ap.ok b97 x96 (⟨(pv101,g102),(pv104,g105)⟩:Ac.G) _ z) (pk 8 [3,4,5,0,1,2,6,7]) (pk 8 [3,4,5,0,1,2,6,7])) (q_mv z z z (q_u z z (o_nc z) (q_fa z z fa96_0 z (q_fa z z fa24_0 z (q_ld z z 6 sc3 z z z (q_u z z (o_bin z z (bI_eq _ n8)) (q_mv z z z (q_y z z z z h190 (o_mv z) (q_y z z z z h190 (o_nc z) (q_y z z z z h190 (o_fa fa96_2 z) (q_y z z z z h190 (o_ld 6 sc93 z z z) (q_y z z z z h190 (o_callqP ca105 z (AW.ok b97 _ (⟨(pv101,g102),(pv104,g105)⟩:Ac.G) _ hr192) (pk 8 [3,4,5,0,1,2,6,7]) (pk 8 [3,4,5,0,1,2,6,7])) (q_y z z z z h190 (o_mv z) (q_y z z z z h190 (o_nc z) (q_y z z z z h190 (o_fa fa96_1 z) (q_y z z z z h190 (o_ld 6 sc92 z z z) (q_y z z z z h190 (o_callqP ca106 z (AM.ok b195 x194 g86 _ z) (pk 8 [1,2,0,3,4,5,6,7]) (pk 8 [2,0,1,3,4,5,6,7])) (q_y z z z z h190 (o_bin z z (bI_eq _ _)) (q_u z z (o_pt z h190 z) (q_mv z z z (q_y z z z z h204 (o_mv z) (q_y z z z z h204 (o_nc z) (q_y z z z z h204 (o_fa fa96_1 z) (q_y z z z z h204 (o_ld 6 sc92 z z z) (q_y z z z z h204 (o_callqP ca106 z (AM.ok b195 x194 g86 _ z) (pk 8 [1,2,0,3,4,5,6,7]) (pk 8 [2,0,1,3,4,5,6,7])) (q_y z z z z h204 (o_mv z) (q_y z z z z h204 (o_nc z) (q_y z z z z h204 (o_fa fa96_0 z) (q_y z z z z h204 (o_fa fa24_1 z) (q_y z z z z h204 (o_ld 6 sc3 z z z) (q_y z z z z h204 (o_bin z z (bI_le _ _)) (q_u z z (o_pt z h204 z) (q_mv z z z (q_n z z z z h211 (q_n z z z z h211 (q_n z z z z h211 (q_n z z z z h211 (q_n z z z z h211 (q_n z z z z h211 (q_n z z z z h211 (q_n z z z z h211 (q_n z z z z h211 (q_n z z z z h211 (q_n z z z z h211 (q_u z z (o_pf z h211 z) qn))))))))))))))))))))))))))))))))))))))))))))))))))) ?_ (nxt z)
   refine ec (eo_c z (s_w (o_callL ca102 z (An.ok b0_ _ _ _ hr219) (fun _ _ _ h=>h))) ?_) en
   refine stage z z z z mk15_ [] [] z z z qn en ?_
   intro _
   refine ex_sub (E':=[(0,pt b0_ 0),(3,pt b1 0)]) ⟨z,z,trivial⟩ ?_
   obtain rfl:=si hm224
   exact x_sub (K210 _ z) ⟨z,z,trivial⟩ (pk 8 [0,1,3,6,2,4,5,7])
  have hm224:=sm_r hm220
  refine c_any mixed (effs:=[51]) (V:=[]) ?_
  refine stage_st (fun _ h=>mv6 h) ?_
  refine stn mk15_ [0,1,2,3,4,5,6,7,8,9,10,11,12,13,14,15,16,17,18,19,20,21,22,23,24,25,26,27,28,29,30,31,32,33,34,35,36,37,38,39,40,41,42,43,44,45,46,47,48,49,50] [51] [_,_,_,_,_,_,_,_,_,_,_,_,_,_,_,_,_,_,_,_,_,_,_,_,_,_,_,_,_,_,_,_,_,_,_,_,_,_,_,_,_,_,_,_,_,_,_,_,_,_,_] (q_mv z z z (q_mv z z z (q_u z z (o_nc z) (q_fa z z fa96_2 z (q_ld z z 6 sc93 z z z (q_u z z (o_callqP ca67 z (Ap.ok b97 x96 (⟨(pv101,g102),(pv104,g105)⟩:Ac.G) _ z) (pk 8 [3,4,5,0,1,2,6,7]) (pk 8 [3,4,5,0,1,2,6,7])) (q_mv z z z (q_u z z (o_nc z) (q_fa z z fa96_0 z (q_fa z z fa24_0 z (q_ld z z 6 sc3 z z z (q_u z z (o_bin z z (bI_eq _ n8)) (q_mv z z z (q_y z z z z h190 (o_mv z) (q_y z z z z h190 (o_nc z) (q_y z z z z h190 (o_fa fa96_2 z) (q_y z z z z h190 (o_ld 6 sc93 z z z) (q_y z z z z h190 (o_callqP ca105 z (AW.ok b97 _ (⟨(pv101,g102),(pv104,g105)⟩:Ac.G) _ hr192) (pk 8 [3,4,5,0,1,2,6,7]) (pk 8 [3,4,5,0,1,2,6,7])) (q_y z z z z h190 (o_mv z) (q_y z z z z h190 (o_nc z) (q_y z z z z h190 (o_fa fa96_1 z) (q_y z z z z h190 (o_ld 6 sc92 z z z) (q_y z z z z h190 (o_callqP ca106 z (AM.ok b195 x194 g86 _ z) (pk 8 [1,2,0,3,4,5,6,7]) (pk 8 [2,0,1,3,4,5,6,7])) (q_y z z z z h190 (o_bin z z (bI_eq _ _)) (q_u z z (o_pt z h190 z) (q_mv z z z (q_y z z z z h204 (o_mv z) (q_y z z z z h204 (o_nc z) (q_y z z z z h204 (o_fa fa96_1 z) (q_y z z z z h204 (o_ld 6 sc92 z z z) (q_y z z z z h204 (o_callqP ca106 z (AM.ok b195 x194 g86 _ z) (pk 8 [1,2,0,3,4,5,6,7]) (pk 8 [2,0,1,3,4,5,6,7])) (q_y z z z z h204 (o_mv z) (q_y z z z z h204 (o_nc z) (q_y z z z z h204 (o_fa fa96_0 z) (q_y z z z z h204 (o_fa fa24_1 z) (q_y z z z z h204 (o_ld 6 sc3 z z z) (q_y z z z z h204 (o_bin z z (bI_le _ _)) (q_u z z (o_pt z h204 z) (q_mv z z z (q_n z z z z h211 (q_n z z z z h211 (q_n z z z z h211 (q_n z z z z h211 (q_n z z z z h211 (q_n z z z z h211 (q_n z z z z h211 (q_n z z z z h211 (q_n z z z z h211 (q_n z z z z h211 (q_n z z z z h211 (q_u z z (o_pf z h211 z) qn))))))))))))))))))))))))))))))))))))))))))))))))))) ?_ (nxt z)
  obtain rfl:=si hm224
  try dsimp only at hm209
  obtain rfl:=si hm209
  try dsimp only at hm202
  obtain rfl:=si hm202
  try dsimp only at hm112
  obtain rfl:=si hm112
  exact ec (eo_w z (s_w (o_callR ca102 z (An.ok b0_ _ _ _ hr219) (by rintro _ _ _ ⟨rfl,rfl⟩;exact (px_st (pk 8 [0]) (px_of le_ (.inr ⟨_,z,_,z,z,z⟩)))))) (fun _ _ _ _ h=>h.elim)) en
 intro q107 hq pv108
 subst hq
 try dsimp only at hm112
 obtain ⟨pv109,g110⟩:=pv108
 refine x_seq (c_seq (c_seq ?_))
 refine cd_st (fun _ h=>mv6 h) ?_
 refine cd_opt (fun ho116 => ?_) (fun x114 b115 ho116 => ?_)
 ·rintro rfl
  have hm117:=om_n hm112 ho116
  cases hm117
 rintro rfl
 have hm117:=om_s hm112 ho116
 refine cd_st (fun _ h=>st_star_o h) ?_
 refine c_reg ?_
 refine r_mv z (r_nc z (r_fa fa96_1 z (r_ld 4 sc92 z z z ?_)))
 obtain ⟨r119,hr119,hm121⟩:=bs hm117
 refine r_sw (s_w (o_call ca39 z (A8.ok b115 _ g110 _ hr119))) ?_
 rintro v120 R _ _ ⟨_,rfl,rfl,rfl⟩
 refine r_u (o_lenO 0 Tryz.underlying98 z z) (r_mv z ?_)
 refine nsq ?_
 obtain ⟨p122,hp124,hm125⟩:=bs hm121
 refine cd_joinS (p:=p122) (Ef:=fun q123=>[(0,pt b0_ 0),(3,pt b1 0)]) (Lf:=fun q123=>Bk b115 138 [g110.m,vI x114.bytes]::Bk b0_ 177 (Aa.c ra89.2)::Bk b97 144 [vI x96.kind,pv101,pv104]::Bk b1 96 [vI n8,vI n16,vI n24,vW ra28.1,pt b115 0,pt b97 0,v0,vW ra40.1,vW ra46.1,vW ra52.1,vI n62,vI n70]::OwS true 9 1 eS v120 r119::OwM vS Ak.v g110.m x114.m::rO (Ai.op g102) pv101 x96.a::rO (Af.op g105) pv104 x96.t::OwM vW Ao.v v0 []::F) (fun q123 hq => ?_) fun K126 => ?_
 rotate_left
 ·refine c_blk ?_
  refine cd_loop (M:=fun k172 (s_171:Int)=>Ct r119 ra46 ra52 ra89 x114 x96 k172 s_171=some p122) (Ef:=fun (s_171:Int)=>[(0,pt b0_ 0),(3,pt b1 0),(141,v120),(142,vI (r119.length:Int)),(143,vI s_171)]) (Lf:=fun (s_171:Int)=>Bk b115 138 [g110.m,vI x114.bytes]::Bk b0_ 177 (Aa.c ra89.2)::Bk b97 144 [vI x96.kind,pv101,pv104]::Bk b1 96 [vI n8,vI n16,vI n24,vW ra28.1,pt b115 0,pt b97 0,v0,vW ra40.1,vW ra46.1,vW ra52.1,vI n62,vI n70]::OwS true 9 1 eS v120 r119::OwM vS Ak.v g110.m x114.m::rO (Ai.op g102) pv101 x96.a::rO (Af.op g105) pv104 x96.t::OwM vW Ao.v v0 []::F) (((r119.length:Int)-0).toNat+1) 0 hp124 ⟨z,z,z,z,z,trivial⟩ (pk 9 [1,3,4,5,0,2,6,7,8]) (fun _ h=>by cases h) fun k172 s_171 hM174 => ?_
  have hm173:Ct r119 ra46 ra52 ra89 x114 x96 (k172+1) s_171=some p122:=hM174
  rw [Ct] at hm173
  refine csr ?_
  refine r_bin z z (bI_lt _ _) ?_
  refine r_nil (x_seq (c_seq ?_))
  refine c_if (b:=decide (s_171<(r119.length:Int))) z (fun h175 => ?_) fun h175 => ?_
  rotate_left
  ·have hm176:=iff_ hm173 h175
   refine c_exit (x_exit (ks':=_) z ?_)
   obtain rfl:=si hm176
   exact x_sub (K126 _ z) ⟨z,z,trivial⟩ (pk 9 [0,1,2,3,4,5,6,7,8])
  have hm176:=ift hm173 h175
  refine c_skip (x_seq (c_seq (c_blk (csr ?_))))
  obtain ⟨x177,hx177,hm178⟩:=bs hm176
  refine r_u (o_ixO 4 Tryz.underlying98 (fun _=>by kernel_rfl) z z z hx177) (r_u (o_ldO0 4 sc9 z z hx177 z z) (r_as z ?_))
  refine nsr ?_
  refine r_mv z (r_nc z (r_fa fa96_1 z (r_ld 3 sc92 z z z (r_mv z ?_))))
  obtain ⟨r179,hr179,hm180⟩:=ltx hm178
  refine rl_st (fun _ h=>mv1 (mv5 h)) ?_
  refine r_c (s_w (o_call ca40 z (Az.ok b115 _ g110 _ _ hr179))) ?_
  refine r_mv z ?_
  refine r_ext z z ?_
  refine r_ext z z ?_
  refine r_new (o_al ze50) fun b181 => ?_
  refine r_u0 (o_stn ag50 z z z z z z z) ?_
  refine r_as z ?_
  refine nsq ?_
  obtain ⟨r182,hr182,hm183⟩:=bs hm180
  obtain ⟨r184,hr184,hm185⟩:=ltx hm183
  rcases r184 with ra186 | ⟨rn187,ro188⟩
  ·have hm189:=sm_l hm185
   refine c_any mixed (effs:=[39]) (V:=[]) ?_
   refine stage_st (fun _ h=>mv3 h) ?_
   refine stn mk12_ [0,1,2,3,4,5,6,7,8,9,10,11,12,13,14,15,16,17,18,19,20,21,22,23,24,25,26,27,28,29,30,31,32,33,34,35,36,37,38] [39] [_,_,_,_,_,_,_,_,_,_,_,_,_,_,_,_,_,_,_,_,_,_,_,_,_,_,_,_,_,_,_,_,_,_,_,_,_,_,_] (q_mv z z z (q_mv z z z (q_u z z (o_nc z) (q_fa z z fa96_2 z (q_ld z z 5 sc93 z z z (q_mv z z z (q_u z z (o_callqP ca108 z (Bj.ok b97 _ (⟨(pv101,g102),(pv104,g105)⟩:Ac.G) _ _ hr182) (pk 10 [4,7,8,0,1,2,3,5,6,9]) (pk 10 [3,4,5,6,0,7,8,1,2,9])) (q_mv z z z (qc z z (s_gt z z fun g=>o_mv z) (qc z z (s_gt z z fun g=>o_bin (evg z g) z (bS_ne _ [])) (q_u z z (o_and z z) (q_mv z z z (qc z z (s_gt z z fun g=>o_fa fa50_2 z) (qc z z (s_gt z z fun g=>o_ld 1 sc22 (evg z g) z z) (qc z z (s_gt z z fun g=>o_bin (evg z g) z (bW_ge _ 1)) (q_u z z (o_and z z) (q_mv z z z (qc z z (s_gt z z fun g=>o_fa fa50_2 z) (qc z z (s_gt z z fun g=>o_ld 1 sc22 (evg z g) z z) (qc z z (s_gt z z fun g=>o_mv z) (qc z z (s_gt z z fun g=>o_nc (evg z g)) (qc z z (s_gt z z fun g=>o_fa fa96_6 (evg z g)) (qc z z (s_gt z z fun g=>o_ld 5 sc22 (evg z g) z z) (qc z z (s_gt z z fun g=>o_bin (evg z g) (evg z g) (bW_le _ _)) (q_u z z (o_and z z) (q_mv z z z (qc z z (s_gt z z fun g=>o_fa fa50_3 z) (qc z z (s_gt z z fun g=>o_ld 1 sc22 (evg z g) z z) (qc z z (s_gt z z fun g=>o_bin (evg z g) z (bW_eq _ 0)) (qc z z (s_gt z z fun g=>o_mv (evg z g)) (qc z z (s_ggf z z fun g=>o_fa fa50_3 z) (qc z z (s_ggf z z fun g=>o_ld 1 sc22 (evg z g) z z) (qc z z (s_ggf z z fun g=>o_mv z) (qc z z (s_ggf z z fun g=>o_nc (evg z g)) (qc z z (s_ggf z z fun g=>o_fa fa96_5 (evg z g)) (qc z z (s_ggf z z fun g=>o_ld 5 sc22 (evg z g) z z) (qc z z (s_ggf z z fun g=>o_bin (evg z g) (evg z g) (bW_gt _ _)) (qc z z (s_gt z z fun g=>o_or (evg z g) (evg2 z g)) (q_u z z (o_and z z) qn))))))))))))))))))))))))))))))))))))))) ?_ (nxt z)
   refine ec (eo_c z (s_w (o_callL ca102 z (An.ok b0_ _ _ _ hr184) (fun _ _ _ h=>h))) ?_) en
   refine stage z z z z mk12_ [] [] z z z qn en ?_
   intro _
   refine ex_sub (E':=[(0,pt b0_ 0),(3,pt b1 0),(141,v120),(142,vI (r119.length:Int)),(143,vI s_171)]) ⟨z,z,z,z,z,trivial⟩ ?_
   refine x_blk (x_seq (c_reg ?_))
   refine r_bin z z (bI_add _ 1) (r_mv z ?_)
   refine r_nil ?_
   exact x_lp (i64 (s_171+1)) hm189 ⟨z,z,z,z,z,trivial⟩ (pk 10 [2,0,4,5,6,3,7,8,9])
  have hm189:=sm_r hm185
  refine c_any mixed (effs:=[39]) (V:=[]) ?_
  refine stage_st (fun _ h=>mv3 h) ?_
  refine stn mk12_ [0,1,2,3,4,5,6,7,8,9,10,11,12,13,14,15,16,17,18,19,20,21,22,23,24,25,26,27,28,29,30,31,32,33,34,35,36,37,38] [39] [_,_,_,_,_,_,_,_,_,_,_,_,_,_,_,_,_,_,_,_,_,_,_,_,_,_,_,_,_,_,_,_,_,_,_,_,_,_,_] (q_mv z z z (q_mv z z z (q_u z z (o_nc z) (q_fa z z fa96_2 z (q_ld z z 5 sc93 z z z (q_mv z z z (q_u z z (o_callqP ca108 z (Bj.ok b97 _ (⟨(pv101,g102),(pv104,g105)⟩:Ac.G) _ _ hr182) (pk 10 [4,7,8,0,1,2,3,5,6,9]) (pk 10 [3,4,5,6,0,7,8,1,2,9])) (q_mv z z z (qc z z (s_gt z z fun g=>o_mv z) (qc z z (s_gt z z fun g=>o_bin (evg z g) z (bS_ne _ [])) (q_u z z (o_and z z) (q_mv z z z (qc z z (s_gt z z fun g=>o_fa fa50_2 z) (qc z z (s_gt z z fun g=>o_ld 1 sc22 (evg z g) z z) (qc z z (s_gt z z fun g=>o_bin (evg z g) z (bW_ge _ 1)) (q_u z z (o_and z z) (q_mv z z z (qc z z (s_gt z z fun g=>o_fa fa50_2 z) (qc z z (s_gt z z fun g=>o_ld 1 sc22 (evg z g) z z) (qc z z (s_gt z z fun g=>o_mv z) (qc z z (s_gt z z fun g=>o_nc (evg z g)) (qc z z (s_gt z z fun g=>o_fa fa96_6 (evg z g)) (qc z z (s_gt z z fun g=>o_ld 5 sc22 (evg z g) z z) (qc z z (s_gt z z fun g=>o_bin (evg z g) (evg z g) (bW_le _ _)) (q_u z z (o_and z z) (q_mv z z z (qc z z (s_gt z z fun g=>o_fa fa50_3 z) (qc z z (s_gt z z fun g=>o_ld 1 sc22 (evg z g) z z) (qc z z (s_gt z z fun g=>o_bin (evg z g) z (bW_eq _ 0)) (qc z z (s_gt z z fun g=>o_mv (evg z g)) (qc z z (s_ggf z z fun g=>o_fa fa50_3 z) (qc z z (s_ggf z z fun g=>o_ld 1 sc22 (evg z g) z z) (qc z z (s_ggf z z fun g=>o_mv z) (qc z z (s_ggf z z fun g=>o_nc (evg z g)) (qc z z (s_ggf z z fun g=>o_fa fa96_5 (evg z g)) (qc z z (s_ggf z z fun g=>o_ld 5 sc22 (evg z g) z z) (qc z z (s_ggf z z fun g=>o_bin (evg z g) (evg z g) (bW_gt _ _)) (qc z z (s_gt z z fun g=>o_or (evg z g) (evg2 z g)) (q_u z z (o_and z z) qn))))))))))))))))))))))))))))))))))))))) ?_ (nxt z)
  obtain rfl:=si hm189
  try dsimp only at hm125
  obtain rfl:=si hm125
  exact ec (eo_w z (s_w (o_callR ca102 z (An.ok b0_ _ _ _ hr184) (by rintro _ _ _ ⟨rfl,rfl⟩;exact (px_st (pk 10 [0]) (px_of le_ (.inr ⟨_,z,_,z,z,z⟩)))))) (fun _ _ _ _ h=>h.elim)) en
 subst hq
 try dsimp only at hm125
 refine x_seq (c_seq ?_)
 obtain ⟨r127,hr127,hm128⟩:=bs hm125
 rcases r127 with ra129 | ⟨rn130,ro131⟩
 rotate_left
 ·have hm132:=sm_r hm128
  refine c_reg ?_
  refine r_mv z ?_
  refine rl_st (fun _ h=>mv1 h) ?_
  obtain rfl:=si hm132
  exact r_sw (s_w (o_callR ca101 z (Aj.ok b0_ _ 64 _ hr127) (by rintro _ _ _ ⟨rfl,rfl⟩;exact (px_st (pk 9 [0]) (px_of le_ (.inr ⟨_,z,_,z,z,z⟩)))))) (fun _ _ _ _ h=>h.elim)
 have hm132:=sm_l hm128
 refine c_reg ?_
 refine r_mv z ?_
 refine rl_st (fun _ h=>mv1 h) ?_
 refine r_c (s_w (o_callL ca101 z (Aj.ok b0_ _ 64 _ hr127) (fun _ _ _ h=>h))) ?_
 refine r_as z (r_as z ?_)
 refine nssr ?_
 refine r_mv z (r_mv z ?_)
 refine nsq ?_
 obtain ⟨p133,hp135,hm136⟩:=bs hm132
 refine cd_joinS (p:=p133) (Ef:=fun q134=>[(3,pt b1 0)]) (Lf:=fun q134=>Bk b0_ 177 [vS q134.1]::Bk b115 138 [g110.m,vI x114.bytes]::Bk b97 144 [vI x96.kind,pv101,pv104]::Bk b1 96 [vI n8,vI n16,vI n24,vW ra28.1,pt b115 0,pt b97 0,v0,vW ra40.1,vW ra46.1,vW ra52.1,vI n62,vI n70]::OwS true 9 1 eS v120 r119::OwM vS Ak.v g110.m x114.m::rO (Ai.op g102) pv101 x96.a::rO (Af.op g105) pv104 x96.t::OwM vW Ao.v v0 q134.2::F) (fun q134 hq => ?_) fun K137 => ?_
 ·subst hq
  try dsimp only at hm136
  refine x_seq (csr ?_)
  refine r_mv z (r_as z ?_)
  refine r_nil (x_seq (c_ret ?_))
  refine ex_st (fun _ h=>mv2 (mv5 h)) ?_
  refine ex_st (fun _ h=>st_some (f:=Ah.op g110) (a:=x114) (st_star_f (A:=Ah.fl b115 x114 g110) h)) ?_
  refine ex_st (fun _ h=>mv4 (mv6 (mv6 h))) ?_
  refine ex_st (fun _ h=>st_some (f:=Ac.op (⟨(pv101,g102),(pv104,g105)⟩:Ac.G)) (a:=x96) (st_star_f (A:=Ac.fl b97 x96 (⟨(pv101,g102),(pv104,g105)⟩:Ac.G)) h)) ?_
  refine ex_st (fun _ h=>mv4 (mv2 (mv1 (mv5 h)))) ?_
  refine ex_st (fun _ h=>st_some (f:=Ad.op (⟨(pt b115 0,g110),(pt b97 0,(⟨(pv101,g102),(pv104,g105)⟩:Ac.G)),v0⟩:Ad.G)) (a:=(⟨(⟨n8,n16,n24,ra28.1⟩:Au),(some x114),(some x96),q134.2,ra40.1,ra46.1,ra52.1,(⟨n62,n70⟩:Bq)⟩:Ad)) (st_star_f (A:=Ad.fl b1 (⟨(⟨n8,n16,n24,ra28.1⟩:Au),(some x114),(some x96),q134.2,ra40.1,ra46.1,ra52.1,(⟨n62,n70⟩:Bq)⟩:Ad) (⟨(pt b115 0,g110),(pt b97 0,(⟨(pv101,g102),(pv104,g105)⟩:Ac.G)),v0⟩:Ad.G)) h)) ?_
  obtain rfl:=si hm136
  refine ex_st (pk 3 [0,1]) ?_
  exact x_r1 z (rv_t z) le_ (.inl ⟨_,z,_,z,(pt b1 0,(⟨(pt b115 0,g110),(pt b97 0,(⟨(pv101,g102),(pv104,g105)⟩:Ac.G)),v0⟩:Ad.G)),z,z,z⟩)
 refine c_blk ?_
 refine cd_loop (M:=fun k142 (s:UInt64×UInt64×Str×(List (UInt64×Ao)))=>Cs ra129 k142 s.1 s.2.1 s.2.2.1 s.2.2.2=some p133) (Ef:=fun (s:UInt64×UInt64×Str×(List (UInt64×Ao)))=>[(0,pt b0_ 0),(3,pt b1 0),(199,vW ra129.1),(9,vW s.1),(200,vW s.2.1)]) (Lf:=fun (s:UInt64×UInt64×Str×(List (UInt64×Ao)))=>Bk b0_ 177 [vS s.2.2.1]::Bk b115 138 [g110.m,vI x114.bytes]::Bk b97 144 [vI x96.kind,pv101,pv104]::Bk b1 96 [vI n8,vI n16,vI n24,vW ra28.1,pt b115 0,pt b97 0,v0,vW ra40.1,vW ra46.1,vW ra52.1,vI n62,vI n70]::OwS true 9 1 eS v120 r119::OwM vS Ak.v g110.m x114.m::rO (Ai.op g102) pv101 x96.a::rO (Af.op g105) pv104 x96.t::OwM vW Ao.v v0 s.2.2.2::F) ((ra129.1-0).toNat+1) (0,0,ra129.2.s,[]) hp135 ⟨z,z,z,z,z,trivial⟩ (fun _ h=>h) (fun _ h=>by cases h) fun k142 s hM144 => ?_
 obtain ⟨before_138,s_139,c_140,c_141⟩:=s
 have hm143:Cs ra129 (k142+1) before_138 s_139 c_140 c_141=some p133:=hM144
 rw [Cs] at hm143
 refine csr ?_
 refine r_bin z z (bW_lt _ _) ?_
 refine r_nil (x_seq (c_seq ?_))
 refine c_if (b:=decide (s_139<ra129.1)) z (fun h145 => ?_) fun h145 => ?_
 rotate_left
 ·have hm146:=iff_ hm143 h145
  refine c_exit (x_exit (ks':=_) z ?_)
  obtain rfl:=si hm146
  exact x_sub (K137 _ z) ⟨z,trivial⟩ (pk 9 [0,1,2,3,4,5,6,7,8])
 have hm146:=ift hm143 h145
 refine c_skip (x_seq (c_seq (c_blk (csr ?_))))
 refine r_mv z (r_as z ?_)
 refine r_nil (x_seq (c_seq ?_))
 obtain ⟨r147,hr147,hm148⟩:=bs hm146
 rcases r147 with ra149 | ⟨rn150,ro151⟩
 rotate_left
 ·have hm152:=sm_r hm148
  refine c_reg ?_
  refine r_mv z ?_
  obtain rfl:=si hm152
  try dsimp only at hm136
  obtain rfl:=si hm136
  exact r_sw (s_w (o_callR ca101 z (Aj.ok b0_ (⟨c_140⟩:Aa) 18446744073709551615 _ hr147) (by rintro _ _ _ ⟨rfl,rfl⟩;exact (px_st (pk 9 [0]) (px_of le_ (.inr ⟨_,z,_,z,z,z⟩)))))) (fun _ _ _ _ h=>h.elim)
 have hm152:=sm_l hm148
 refine c_reg ?_
 refine r_mv z ?_
 refine r_c (s_w (o_callL ca101 z (Aj.ok b0_ (⟨c_140⟩:Aa) 18446744073709551615 _ hr147) (fun _ _ _ h=>h))) ?_
 refine r_as z ?_
 refine r_nil (x_seq (c_seq ?_))
 obtain ⟨r153,hr153,hm154⟩:=ltx hm152
 rcases r153 with ra155 | ⟨rn156,ro157⟩
 rotate_left
 ·have hm158:=sm_r hm154
  refine c_reg ?_
  refine r_mv z (r_mv z (r_bin z z (bW_eq _ 0) (r_mv z ?_)))
  refine r_s (s_gf z z fun g=>o_mv z) ?_
  refine r_s (s_gf z z fun g=>o_mv z) ?_
  refine r_s (s_gf z z fun g=>o_bin (evg z g) (evg z g) (bW_gt _ _)) ?_
  refine r_u (o_or z z) ?_
  obtain rfl:=si hm158
  try dsimp only at hm136
  obtain rfl:=si hm136
  exact r_sw (s_w (o_callR ca102 z (An.ok b0_ _ _ _ hr153) (by rintro _ _ _ ⟨rfl,rfl⟩;exact (px_st (pk 9 [0]) (px_of le_ (.inr ⟨_,z,_,z,z,z⟩)))))) (fun _ _ _ _ h=>h.elim)
 have hm158:=sm_l hm154
 refine c_reg ?_
 refine r_mv z (r_mv z (r_bin z z (bW_eq _ 0) (r_mv z ?_)))
 refine r_s (s_gf z z fun g=>o_mv z) ?_
 refine r_s (s_gf z z fun g=>o_mv z) ?_
 refine r_s (s_gf z z fun g=>o_bin (evg z g) (evg z g) (bW_gt _ _)) ?_
 refine r_u (o_or z z) ?_
 refine r_c (s_w (o_callL ca102 z (An.ok b0_ _ _ _ hr153) (fun _ _ _ h=>h))) ?_
 refine r_nil (x_seq (c_seq ?_))
 obtain ⟨r159,hr159,hm160⟩:=bs hm158
 rcases r159 with ra161 | ⟨rn162,ro163⟩
 rotate_left
 ·have hm164:=sm_r hm160
  refine c_any mixed (effs:=[6]) (V:=[]) ?_
  refine stn mk25_ [0,1,2,3,4,5,7] [6] [_,_,_,_,_,_,_] (q_mv z z z (q_u z z (o_nc z) (q_fa z z fa96_3 z (q_ld z z 3 sc94 z z z (q_mv z z z (q_mv z z z (q_mv z z z qn))))))) ?_ (nxt z)
  obtain rfl:=si hm164
  try dsimp only at hm136
  obtain rfl:=si hm136
  exact ec (eo_w z (s_w (o_callR ca101 z (Aj.ok b0_ _ 18446744073709551615 _ hr159) (by rintro _ _ _ ⟨rfl,rfl⟩;exact (px_st (pk 9 [0]) (px_of le_ (.inr ⟨_,z,_,z,z,z⟩)))))) (fun _ _ _ _ h=>h.elim)) en
 have hm164:=sm_l hm160
 obtain ⟨r165,hr165,hm166⟩:=bs hm164
 rcases r165 with ra167 | ⟨rn168,ro169⟩
 ·have hm170:=sm_l hm166
  refine c_any mixed (effs:=[6,8,10]) (V:=[]) ?_
  refine stn mk25_ [0,1,2,3,4,5,7] [6] [_,_,_,_,_,_,_] (q_mv z z z (q_u z z (o_nc z) (q_fa z z fa96_3 z (q_ld z z 3 sc94 z z z (q_mv z z z (q_mv z z z (q_mv z z z qn))))))) ?_ (nxt z)
  refine ec (eo_c z (s_w (o_callL ca101 z (Aj.ok b0_ _ 18446744073709551615 _ hr159) (fun _ _ _ h=>h))) ?_) en
  refine stage z z z z mk25_ [0,1,2,3,4,7] [8] z z z (q_mv z z z (q_u z z (o_nc z) (q_fa z z fa96_3 z (q_ld z z 3 sc94 z z z (q_mv z z z (q_mv z z z qn)))))) ?_ (nxt z)
  refine ec (eo_c z (s_w (o_callL ca109 z (CK.ok b0_ _ _ hr165) (fun _ _ _ h=>h))) ?_) en
  refine stage_st (fun _ h=>mv8 h) ?_
  refine stx [9] mk25_ [0,1,2,3,4,9] [10] [_] (q_mv z z z (q_u z z (o_nc z) (q_fa z z fa96_3 z (q_ld z z 4 sc94 z z z (q_mv z z z (q_u z z (o_bld [vW ra161.1,vI ra167.1.E,vS ra167.1.Value,vW ra167.1.Version] z (fun _=>by kernel_rfl)) qn)))))) ?_ (nxt z)
  refine ec (eo_u z (s_u (o_mu (kv:=vW) (vv:=Ao.v) (key:=ra149.1) (val:=(⟨ra161.1,ra167.1⟩:Ao)) Tryz.underlying94 (kok_W Tryz.underlying22) z z z z)) le_ ?_) en
  refine stage z z z z mk25_ [] [] z z z qn en ?_
  intro _
  refine ex_sub (E':=[(0,pt b0_ 0),(3,pt b1 0),(199,vW ra129.1),(200,vW s_139),(11,vW ra149.1)]) ⟨z,z,z,z,z,trivial⟩ ?_
  refine x_seq (c_reg ?_)
  refine r_mv z (r_as z ?_)
  refine r_nil (x_blk (x_seq (c_reg ?_)))
  refine r_bin z z (bW_add _ 1) (r_mv z ?_)
  refine r_nil ?_
  exact x_lp (ra149.1,s_139+1,ra167.2.s,mput c_141 ra149.1 (⟨ra161.1,ra167.1⟩:Ao)) hm170 ⟨z,z,z,z,z,trivial⟩ (pk 9 [1,2,3,4,5,6,7,8,0])
 have hm170:=sm_r hm166
 refine c_any mixed (effs:=[6,8]) (V:=[]) ?_
 refine stn mk25_ [0,1,2,3,4,5,7] [6] [_,_,_,_,_,_,_] (q_mv z z z (q_u z z (o_nc z) (q_fa z z fa96_3 z (q_ld z z 3 sc94 z z z (q_mv z z z (q_mv z z z (q_mv z z z qn))))))) ?_ (nxt z)
 refine ec (eo_c z (s_w (o_callL ca101 z (Aj.ok b0_ _ 18446744073709551615 _ hr159) (fun _ _ _ h=>h))) ?_) en
 refine stage z z z z mk25_ [0,1,2,3,4,7] [8] z z z (q_mv z z z (q_u z z (o_nc z) (q_fa z z fa96_3 z (q_ld z z 3 sc94 z z z (q_mv z z z (q_mv z z z qn)))))) ?_ (nxt z)
 obtain rfl:=si hm170
 try dsimp only at hm136
 obtain rfl:=si hm136
 exact ec (eo_w z (s_w (o_callR ca109 z (CK.ok b0_ _ _ hr165) (by rintro _ _ _ ⟨rfl,rfl⟩;exact (px_st (pk 9 [0]) (px_of le_ (.inr ⟨_,z,_,z,z,z⟩)))))) (fun _ _ _ _ h=>h.elim)) en
def CB(a0:Aa)(a1:Option Ad):Option ((Aa×Option Ad)⊕(Int×(Aa×Option Ad))) :=
 (CQ a0).bind fun r2=>sm r2 (fun (ra4:Option Ad×Aa)=>some (Sum.inl (ra4.2,ra4.1))) fun ((rn5,ro6):Int×Aa)=>some (Sum.inr (rn5,(ro6,a1)))
theorem CB.ok{G R F}(b0_:Nat)(a0:Aa)(b1_:Nat)(a1:Option Ad)(g1_:Value×Ad.G)(r:(Aa×Option Ad)⊕(Int×(Aa×Option Ad)))(hm:CB a0 a1=some r):CO Tryz.prog 60 [pt b0_ 0,pt b1_ 0] G R (Bk b0_ 177 (Aa.c a0)::Bk b1_ 30 [g1_.1]::rO (Ad.op g1_.2) g1_.1 a1::F)
  (PK 175 r (fun (a:Aa×Option Ad) u R' L'=>∃(q1:Value×Ad.G),u = .tuple #[]∧R'=R∧L'=Bk b0_ 177 (Aa.c a.1)::Bk b1_ 30 [q1.1]::rO (Ad.op q1.2) q1.1 a.2::F) (fun n (o:Aa×Option Ad) R' L'=>∃(q1:Value×Ad.G),R'=R∧L'=Bk b0_ 177 (Aa.c o.1)::Bk b1_ 30 [q1.1]::rO (Ad.op q1.2) q1.1 o.2::F)):=by
 obtain ⟨pv0,g1⟩:=g1_
 unfold CB at hm
 refine co_ofN (N:=5) Tryz.func60 z z ?_
 obtain ⟨r2,hr2,hm3⟩:=bs hm
 rcases r2 with ra4 | ⟨rn5,ro6⟩
 ·have hm7:=sm_l hm3
  refine c_reg ?_
  refine r_mv z ?_
  refine r_sw (s_w (o_callL ca61 z (CQ.ok b0_ a0 _ hr2) (fun _ _ _ h=>h))) ?_
  rintro pv9 R _ _ ⟨⟨_,g10⟩,rfl,rfl,rfl⟩
  refine rl_st (fun _ h=>mv2 h) ?_
  refine r_u0 (ou_if (one_p 1 z) fun ho0=>o_st sc30 z z z ho0 z z) ?_
  refine r_nil ?_
  refine x_end ?_
  obtain rfl:=si hm7
  refine ex_st (pk 4 [2,0,1]) ?_
  exact x_r0 z le_ (.inl ⟨_,z,_,z,(pv9,g10),z,z,z⟩)
 have hm7:=sm_r hm3
 refine c_reg ?_
 refine r_mv z ?_
 obtain rfl:=si hm7
 exact r_sw (s_w (o_callR ca61 z (CQ.ok b0_ a0 _ hr2) (by rintro _ _ _ ⟨rfl,rfl⟩;exact (px_st (pk 3 [0,1,2]) (px_of le_ (.inr ⟨_,z,_,z,(pv0,g1),z,z⟩)))))) (fun _ _ _ _ h=>h.elim)
def Cn(a0:Str):Option (Option Ad×Int) :=
 (CB (⟨a0⟩:Aa) none).bind fun r1=>Option.bind (sm r1 (fun (ra12:Aa×Option Ad)=>some ((if ra12.1.s==[] then 0 else 5),ra12.2)) fun ((rn13,ro14):Int×(Aa×Option Ad))=>some (rn13,ro14.2)) fun p3=>if (p3.1 != 0) then some (none,p3.1) else some (p3.2,0)
theorem Cn.ok{G R F}(a0:Str)(r:Option Ad×Int)(hm:Cn a0=some r):CO Tryz.prog 31 [vS a0] G R (F)
  (Ret fun u R' L'=>∃(p0:Value×Ad.G),u = .tuple #[p0.1,vI r.2]∧R'=R∧L'=rO (Ad.op p0.2) p0.1 r.1::F):=by
 unfold Cn at hm
 refine co_ofN (N:=13) Tryz.func31 z z ?_
 refine csr ?_
 refine r_as z (r_as z ?_)
 refine nsr ?_
 refine r_new (o_al ze30) fun b0 => ?_
 refine r_nil (x_seq (c_seq (c_seq ?_)))
 obtain ⟨r1,hr1,hm2⟩:=bs hm
 obtain ⟨p3,hp7,hm8⟩:=bs hm2
 refine cd_cut (fun x ks=>∀(pv4:Value×Ad.G),EX x .normal ks [(4,pt b0 0),(5,vI p3.1)] R (Bk b0 30 [pv4.1]::rO (Ad.op pv4.2) pv4.1 p3.2::F)) ?_ fun K9 => ?_
 ·intro pv4
  obtain ⟨pv5,g6⟩:=pv4
  refine x_seq (csr ?_)
  refine r_mv z (r_bin z z (bI_ne _ 0) ?_)
  refine nsq ?_
  refine c_if (b:=(p3.1 != 0)) z (fun h10 => ?_) fun h10 => ?_
  ·have hm11:=ift hm8 h10
   refine csr ?_
   refine r_mv z (r_as z (r_as z ?_))
   refine r_nil (x_seq (c_ret ?_))
   refine ex_st (fun _ h=>st_none (f:=Ad.op default) h) ?_
   obtain rfl:=si hm11
   refine ex_st (pk 3 [0]) ?_
   exact x_r2 z (rv_t z) (rv_t z) le_ ⟨_,z,(nl,default),z,z,z⟩
  have hm11:=iff_ hm8 h10
  refine c_skip (x_seq (csr ?_))
  refine r_ld 0 sc30 z z z (r_as z (r_as z ?_))
  refine r_nil (x_seq (c_ret ?_))
  obtain rfl:=si hm11
  refine ex_st (pk 2 [1]) ?_
  exact x_r2 z (rv_t z) (rv_t z) le_ ⟨_,z,(pv5,g6),z,z,z⟩
 rcases r1 with ra12 | ⟨rn13,ro14⟩
 ·have hm15:=sm_l hp7
  refine c_reg ?_
  refine r_mv z ?_
  refine r_u (o_mf z) ?_
  refine rl_st (fun _ h=>st_none (f:=Ad.op default) h) ?_
  refine rl_st (fun _ h=>mv1 h) ?_
  refine r_c (s_w (o_call ca59 z (Dg.okL (A:=[Bk b0 30 [nl],rO (Ad.op default) nl none]) (M:=[exP (fun (g:Value×Ad.G)=>[Bk b0 30 [g.1],rO (Ad.op g.2) g.1 ra12.2])]) (s':=ra12.1.s) ca60 (fun b F=>co_lx (CB.ok b (⟨a0⟩:Aa) b0 none (nl,default) (Sum.inl ra12) hr1) (fun _ _ _ _ ⟨q0,hu,hR,hL⟩ hs=>by subst hL;exact ⟨_,⟨hu,hR,z⟩,(st_pk 2 [1,0] (by decide) (st_exP_f (f:=fun (g:Value×Ad.G)=>[Bk b0 30 [g.1],rO (Ad.op g.2) g.1 ra12.2]) q0 (st_pk 3 [1,2,0] (by decide) hs)))⟩))))) ?_
  refine rl_ex (fun w h=>st_exP_o w h) fun g16 _ => ?_
  obtain ⟨pv17,g18⟩:=g16
  refine r_as z ?_
  refine r_nil ?_
  obtain rfl:=si hm15
  exact x_sub (K9 (pv17,g18)) ⟨z,z,trivial⟩ (pk 2 [0,1])
 have hm15:=sm_r hp7
 refine c_reg ?_
 refine r_mv z ?_
 refine r_u (o_mf z) ?_
 refine rl_st (fun _ h=>st_none (f:=Ad.op default) h) ?_
 refine rl_st (fun _ h=>mv1 h) ?_
 refine r_c (s_w (o_call ca59 z (Dg.okR (A:=[Bk b0 30 [nl],rO (Ad.op default) nl none]) (M:=[exP (fun (g:Value×Ad.G)=>[Bk b0 30 [g.1],rO (Ad.op g.2) g.1 ro14.2])]) (cs:=[vS ro14.1.s]) ca60 (fun b F=>co_rx (CB.ok b (⟨a0⟩:Aa) b0 none (nl,default) (Sum.inr (rn13,ro14)) hr1) (fun _ _ _ ⟨q0,hR,hL⟩ hs=>by subst hL;exact ⟨_,⟨hR,z⟩,(st_pk 2 [1,0] (by decide) (st_exP_f (f:=fun (g:Value×Ad.G)=>[Bk b0 30 [g.1],rO (Ad.op g.2) g.1 ro14.2]) q0 (st_pk 3 [1,2,0] (by decide) hs)))⟩))))) ?_
 refine rl_ex (fun w h=>st_exP_o w h) fun g19 _ => ?_
 obtain ⟨pv20,g21⟩:=g19
 refine r_as z ?_
 refine r_nil ?_
 obtain rfl:=si hm15
 exact x_sub (K9 (pv20,g21)) ⟨z,z,trivial⟩ (pk 2 [0,1])
def Cb(a0:Ad):Option (Option Ad) :=
 (AF a0).bind fun r7=>(Cn r7).bind fun r9=>some r9.1
theorem Cb.ok{G R F}(b0_:Nat)(a0:Ad)(g0_:Ad.G)(r:Option Ad)(hm:Cb a0=some r):CO Tryz.prog 28 [pt b0_ 0] G R (Bk b0_ 96 (Ad.k a0 g0_)::rO (Ah.op g0_.t.2) g0_.t.1 a0.t::rO (Ac.op g0_.p.2) g0_.p.1 a0.p::OwM vW Ao.v g0_.sessions a0.sessions::F)
  (Ret fun u R' L'=>∃(p0:Value×Ad.G),u=p0.1∧R'=R∧L'=rO (Ad.op p0.2) p0.1 r::Bk b0_ 96 (Ad.k a0 g0_)::rO (Ah.op g0_.t.2) g0_.t.1 a0.t::rO (Ac.op g0_.p.2) g0_.p.1 a0.p::OwM vW Ao.v g0_.sessions a0.sessions::F):=by
 obtain ⟨⟨pv1,g2⟩,⟨pv4,g5⟩,g6⟩:=g0_
 unfold Cb at hm
 refine co_ofN (N:=14) Tryz.func28 z z ?_
 refine csr ?_
 refine r_as z ?_
 refine nssr ?_
 refine r_mv z (r_bin z z (bP_eqp Tryz.underlying30) ?_)
 refine nsq ?_
 refine c_ff z ?_
 refine c_skip (x_seq (csr ?_))
 refine r_mv z ?_
 obtain ⟨r7,hr7,hm8⟩:=bs hm
 refine r_c (s_w (o_call ca25 z (AF.ok b0_ a0 (⟨(pv1,g2),(pv4,g5),g6⟩:Ad.G) _ hr7))) ?_
 obtain ⟨r9,hr9,hm13⟩:=bs hm8
 refine r_sw (s_w (o_call ca31 z (Cn.ok r7 _ hr9))) ?_
 rintro _ R _ _ ⟨⟨pv11,g12⟩,rfl,rfl,rfl⟩
 refine r_mv z ?_
 refine r_ext z z ?_
 refine r_ext z z (r_as z (r_as z ?_))
 refine nsr ?_
 refine r_mv z (r_as z ?_)
 refine r_nil (x_seq (c_ret ?_))
 obtain rfl:=si hm13
 exact x_r1 z (rv_t z) le_ ⟨_,z,(pv11,g12),z,z,z⟩
def Bv(a0:Au)(a1:List Ax)(a2:Ax):Option Bool :=
 (BL a0 a1).bind fun r2=>(BT).bind fun r7=>om r2.1 (none) fun x9=>Option.bind (if (!r7 || !r2.2.2) then some true else (AX x9).bind fun r89=>(AF x9).bind fun r93=>(B5 r93).bind fun r95=>some (r89 != r95)) fun p20=>if p20 then some false else (Cb x9).bind fun r28=>(A2 (AZ x9) r2.2.1 a2).bind fun r33=>om r28 (none) fun x36=>(AC x36 r33.1).bind fun r47=>(AF x9).bind fun r57=>(AF r47.2.2).bind fun r59=>(AX x9).bind fun r61=>(AX r47.2.2).bind fun r65=>if ((r57==r59)==(r61==r65)) then some true else (B5 r57).bind fun r79=>(B5 r59).bind fun r83=>some (r79==r83)
theorem Bv.ok{G R F}(a0:Au)(v1_:Value)(a1:List Ax)(h1_:RoS R v1_ 9 Ax.c a1)(a2:Ax)(r:Bool)(hm:Bv a0 a1 a2=some r):CO Tryz.prog 10 [.agg (Au.c a0).toArray,v1_,.agg (Ax.c a2).toArray] G R (F)
  (Ret fun u R' L'=>u=vB r∧True∧L'=F):=by
 unfold Bv at hm
 refine co_ofN (N:=67) Tryz.func10 z z ?_
 refine csr ?_
 refine r_new (o_bx (Au.c a0) z z) fun b0 => ?_
 refine r_new (o_bx (Ax.c a2) z z) fun b1 => ?_
 refine r_as z ?_
 refine nsr ?_
 refine r_u (o_ldn 1 (Au.c a0) ag24 z z z z) (r_mv z ?_)
 obtain ⟨r2,hr2,hm6⟩:=bs hm
 refine r_sw (s_w (o_call ca11 z (BL.ok a0 v1_ a1 h1_ _ hr2))) ?_
 rintro _ R _ _ ⟨⟨pv4,g5⟩,rfl,rfl,rfl⟩
 refine r_mv z ?_
 refine r_ext z z ?_
 refine r_ext z z ?_
 refine r_ext z z (r_as z (r_as z (r_as z ?_)))
 refine r_nil (x_seq (c_seq (c_seq ?_)))
 obtain ⟨r7,hr7,hm8⟩:=bs hm6
 refine cd_opt (fun ho11 => ?_) (fun x9 b10 ho11 => ?_)
 ·rintro rfl
  have hm12:=om_n hm8 ho11
  cases hm12
 rintro rfl
 have hm12:=om_s hm8 ho11
 obtain ⟨⟨pv14,g15⟩,⟨pv17,g18⟩,g19⟩:=g5
 refine cd_st (fun _ h=>st_star_o h) ?_
 obtain ⟨p20,hp23,hm24⟩:=bs hm12
 refine cd_cut (fun x ks=>∀(R21:PH),∀(le22:Le R R21),EX x .normal ks [(5,pt b1 0),(7,pt b10 0),(8,vW r2.2.1),(33,vB p20)] R21 (Bk b10 96 [vI x9.c.Policy,vI x9.c.Entries,vI x9.c.Bytes,vW x9.c.Seed,pv14,pv17,g19,vW x9.seq,vW x9.now,vW x9.version,vI x9.tally.Asked,vI x9.tally.Hits]::Bk b1 29 (Ax.c a2)::Bk b0 24 (Au.c a0)::rO (Ah.op g15) pv14 x9.t::rO (Ac.op g18) pv17 x9.p::OwM vW Ao.v g19 x9.sessions::F)) ?_ fun K25 => ?_
 rotate_left
 ·refine cd_by (!r7 || !r2.2.2) (fun h87 => ?_) fun h87 => ?_
  ·have hm88:=ift hp23 h87
   refine c_reg ?_
   refine r_u (o_callq ca12 z (BT.ok _ hr7)) ?_
   refine r_u (o_not z) (r_mv z ?_)
   refine r_s (s_gf z z fun g=>o_mv z) ?_
   refine r_s (s_gf z z fun g=>o_not (evg z g)) ?_
   refine r_u (o_or z z) (r_mv z ?_)
   refine r_s (s_n z z h87) ?_
   refine r_s (s_n z z h87) ?_
   refine r_s (s_n z z h87) ?_
   refine r_s (s_n z z h87) ?_
   refine r_s (s_n z z h87) ?_
   refine r_s (s_n z z h87) ?_
   refine r_u (o_pt z h87 z) ?_
   refine r_nil ?_
   obtain rfl:=si hm88
   exact x_sub (K25 _ le_) ⟨z,z,z,z,trivial⟩ (pk 6 [0,4,5,1,2,3])
  have hm88:=iff_ hp23 h87
  refine c_reg ?_
  refine r_u (o_callq ca12 z (BT.ok _ hr7)) ?_
  refine r_u (o_not z) (r_mv z ?_)
  refine r_s (s_gf z z fun g=>o_mv z) ?_
  refine r_s (s_gf z z fun g=>o_not (evg z g)) ?_
  refine r_u (o_or z z) (r_mv z ?_)
  refine r_s (s_y z z h87 (o_mv z)) ?_
  obtain ⟨r89,hr89,hm92⟩:=bs hm88
  refine r_sw (s_yw z z h87 (o_call ca32 z (AX.ok b10 x9 (⟨(pv14,g15),(pv17,g18),g19⟩:Ad.G) _ hr89))) ?_
  rintro _ R90 _ le91 ⟨rfl,_,rfl⟩
  refine r_s (s_y z z h87 (o_mv z)) ?_
  obtain ⟨r93,hr93,hm94⟩:=bs hm92
  refine r_c (s_yw z z h87 (o_call ca25 z (AF.ok b10 x9 (⟨(pv14,g15),(pv17,g18),g19⟩:Ad.G) _ hr93))) ?_
  obtain ⟨r95,hr95,hm98⟩:=bs hm94
  refine r_sw (s_yw z z h87 (o_call ca33 z (B5.ok _ _ hr95))) ?_
  rintro _ R96 _ le97 ⟨rfl,_,rfl⟩
  refine r_s (s_y z z h87 (o_bin z z (bS_ne _ _))) ?_
  refine r_u (o_pf z h87 z) ?_
  refine r_nil ?_
  obtain rfl:=si hm98
  exact x_sub (K25 _ (Le.trans le91 le97)) ⟨z,z,z,z,trivial⟩ (pk 6 [0,4,5,1,2,3])
 intro R21 le22
 refine x_seq ?_
 refine c_if (b:=p20) z (fun h26 => ?_) fun h26 => ?_
 ·have hm27:=ift hm24 h26
  refine csr ?_
  refine r_as z ?_
  refine r_nil (x_seq (c_ret ?_))
  obtain rfl:=si hm27
  refine ex_st (pk 6 []) ?_
  exact x_r1 z (rv_t z) le22 ⟨_,z,z,trivial,z⟩
 have hm27:=iff_ hm24 h26
 refine c_skip (x_seq (csr ?_))
 refine r_mv z ?_
 obtain ⟨r28,hr28,hm32⟩:=bs hm27
 refine rl_st (fun _ h=>mv3 (mv5 (mv5 (mv5 h)))) ?_
 refine r_sw (s_w (o_call ca28 z (Cb.ok b10 x9 (⟨(pv14,g15),(pv17,g18),g19⟩:Ad.G) _ hr28))) ?_
 rintro pv30 R21 _ _ ⟨⟨_,g31⟩,rfl,rfl,rfl⟩
 refine r_as z ?_
 refine r_nil (x_seq (c_seq ?_))
 obtain ⟨r33,hr33,hm34⟩:=bs hm32
 refine c_any mixed (effs:=[8,9]) (V:=[]) ?_
 refine stn mk22_ [0,1,2,3,4,5,6,7] [8] [_,_,_,_,_,_,_,_] (q_mv z z z (q_u z z (o_callqP ca14 z (AZ.ok b10 x9 (⟨(pv14,g15),(pv17,g18),g19⟩:Ad.G) _ z) (pk 7 [1,2,3,4,0,5,6]) (pk 7 [4,0,1,2,3,5,6])) (q_mv z z z (q_u z z (o_ldn 5 (Ax.c a2) ag29 z z z z) (q_u z z (o_callq ca13 z (A2.ok _ _ a2 _ hr33)) (q_mv z z z (q_u z z (o_ext z z) (q_u z z (o_ext z z) qn)))))))) ?_ (nxt z)
 refine ec (eo_n z (s_w (o_al ze35)) fun b35 => ?_) en
 refine stage z z z z mk22_ [0,1,2,3,4,5,6,7] [9] z z z (q_mv z z z (q_u z z (o_callqP ca14 z (AZ.ok b10 x9 (⟨(pv14,g15),(pv17,g18),g19⟩:Ad.G) _ z) (pk 8 [2,3,4,5,0,1,6,7]) (pk 8 [4,5,0,1,2,3,6,7])) (q_mv z z z (q_u z z (o_ldn 6 (Ax.c a2) ag29 z z z z) (q_u z z (o_callq ca13 z (A2.ok _ _ a2 _ hr33)) (q_mv z z z (q_u z z (o_ext z z) (q_u z z (o_ext z z) qn)))))))) ?_ (nxt z)
 refine ec (eo_u z (s_u (o_stn ag35 z z z z z z z)) le_ ?_) en
 refine stx [10] mk22_ [7,10] [] [_] (q_u z z (o_ext z z) (q_u z z (o_as z) qn)) en ?_
 intro _
 refine ex_sub (E':=[(7,pt b10 0),(10,pv30),(11,pt b35 0)]) ⟨z,z,z,trivial⟩ ?_
 refine x_seq (c_seq ?_)
 refine cd_st (fun _ h=>mv1 h) ?_
 refine cd_opt (fun ho38 => ?_) (fun x36 b37 ho38 => ?_)
 ·rintro rfl
  have hm39:=om_n hm34 ho38
  cases hm39
 rintro rfl
 have hm39:=om_s hm34 ho38
 obtain ⟨⟨pv41,g42⟩,⟨pv44,g45⟩,g46⟩:=g31
 refine cd_st (fun _ h=>st_star_o h) ?_
 refine c_reg ?_
 refine r_mv z ?_
 refine r_u (o_ldn 4 (AI.c r33.1) ag35 z z z z) ?_
 obtain ⟨r47,hr47,hm56⟩:=bs hm39
 refine r_sw (s_w (o_call ca15 z (AC.ok b37 _ (⟨(pv41,g42),(pv44,g45),g46⟩:Ad.G) _ _ hr47))) ?_
 rintro _ R21 _ _ ⟨⟨⟨pv50,g51⟩,⟨pv53,g54⟩,g55⟩,rfl,rfl,rfl⟩
 refine r_nil (x_seq (c_seq ?_))
 obtain ⟨r57,hr57,hm58⟩:=bs hm56
 obtain ⟨r59,hr59,hm60⟩:=bs hm58
 obtain ⟨r61,hr61,hm64⟩:=bs hm60
 obtain ⟨r65,hr65,hm68⟩:=bs hm64
 refine cd_by ((r57==r59)==(r61==r65)) (fun h69 => ?_) fun h69 => ?_
 ·have hm70:=ift hm68 h69
  refine c_reg ?_
  refine r_mv z ?_
  refine rl_st (fun _ h=>mv8 (mv8 (mv8 (mv8 h)))) ?_
  refine r_c (s_w (o_call ca25 z (AF.ok b10 x9 (⟨(pv14,g15),(pv17,g18),g19⟩:Ad.G) _ hr57))) ?_
  refine r_mv z ?_
  refine rl_st (fun _ h=>mv7 (mv7 (mv7 (mv7 h)))) ?_
  refine r_c (s_w (o_call ca25 z (AF.ok b37 _ (⟨(pv50,g51),(pv53,g54),g55⟩:Ad.G) _ hr59))) ?_
  refine r_bin z z (bS_eq _ _) (r_mv z ?_)
  refine rl_st (fun _ h=>mv7 (mv7 (mv7 (mv7 h)))) ?_
  refine r_sw (s_w (o_call ca32 z (AX.ok b10 x9 (⟨(pv14,g15),(pv17,g18),g19⟩:Ad.G) _ hr61))) ?_
  rintro _ R71 _ le72 ⟨rfl,_,rfl⟩
  refine r_mv z ?_
  refine rl_st (fun _ h=>mv7 (mv7 (mv7 (mv7 h)))) ?_
  refine r_sw (s_w (o_call ca32 z (AX.ok b37 _ (⟨(pv50,g51),(pv53,g54),g55⟩:Ad.G) _ hr65))) ?_
  rintro _ R73 _ le74 ⟨rfl,_,rfl⟩
  refine r_bin z z (bS_eq _ _) (r_bin z z (bB_eq Tryz.underlying4 (r57==r59) (r61==r65)) (r_mv z ?_))
  refine r_s (s_n z z h69) ?_
  refine r_s (s_n z z h69) ?_
  refine r_s (s_n z z h69) ?_
  refine r_s (s_n z z h69) ?_
  refine r_s (s_n z z h69) ?_
  refine r_s (s_n z z h69) ?_
  refine r_s (s_n z z h69) ?_
  refine r_u (o_pt z h69 z) (r_as z ?_)
  refine r_nil (x_seq (c_ret ?_))
  obtain rfl:=si hm70
  refine ex_st (pk 11 []) ?_
  exact x_r1 z (rv_t z) (Le.trans (Le.trans le22 le72) le74) ⟨_,z,z,trivial,z⟩
 have hm70:=iff_ hm68 h69
 refine c_reg ?_
 refine r_mv z ?_
 refine rl_st (fun _ h=>mv8 (mv8 (mv8 (mv8 h)))) ?_
 refine r_c (s_w (o_call ca25 z (AF.ok b10 x9 (⟨(pv14,g15),(pv17,g18),g19⟩:Ad.G) _ hr57))) ?_
 refine r_mv z ?_
 refine rl_st (fun _ h=>mv7 (mv7 (mv7 (mv7 h)))) ?_
 refine r_c (s_w (o_call ca25 z (AF.ok b37 _ (⟨(pv50,g51),(pv53,g54),g55⟩:Ad.G) _ hr59))) ?_
 refine r_bin z z (bS_eq _ _) (r_mv z ?_)
 refine rl_st (fun _ h=>mv7 (mv7 (mv7 (mv7 h)))) ?_
 refine r_sw (s_w (o_call ca32 z (AX.ok b10 x9 (⟨(pv14,g15),(pv17,g18),g19⟩:Ad.G) _ hr61))) ?_
 rintro _ R75 _ le76 ⟨rfl,_,rfl⟩
 refine r_mv z ?_
 refine rl_st (fun _ h=>mv7 (mv7 (mv7 (mv7 h)))) ?_
 refine r_sw (s_w (o_call ca32 z (AX.ok b37 _ (⟨(pv50,g51),(pv53,g54),g55⟩:Ad.G) _ hr65))) ?_
 rintro _ R77 _ le78 ⟨rfl,_,rfl⟩
 refine r_bin z z (bS_eq _ _) (r_bin z z (bB_eq Tryz.underlying4 (r57==r59) (r61==r65)) (r_mv z ?_))
 refine r_s (s_y z z h69 (o_mv z)) ?_
 refine rl_st (fun _ h=>mv7 (mv7 (mv7 (mv7 h)))) ?_
 refine r_c (s_yw z z h69 (o_call ca25 z (AF.ok b10 x9 (⟨(pv14,g15),(pv17,g18),g19⟩:Ad.G) _ hr57))) ?_
 obtain ⟨r79,hr79,hm82⟩:=bs hm70
 refine r_sw (s_yw z z h69 (o_call ca33 z (B5.ok _ _ hr79))) ?_
 rintro _ R80 _ le81 ⟨rfl,_,rfl⟩
 refine r_s (s_y z z h69 (o_mv z)) ?_
 refine rl_st (fun _ h=>mv7 (mv7 (mv7 (mv7 h)))) ?_
 refine r_c (s_yw z z h69 (o_call ca25 z (AF.ok b37 _ (⟨(pv50,g51),(pv53,g54),g55⟩:Ad.G) _ hr59))) ?_
 obtain ⟨r83,hr83,hm86⟩:=bs hm82
 refine r_sw (s_yw z z h69 (o_call ca33 z (B5.ok _ _ hr83))) ?_
 rintro _ R84 _ le85 ⟨rfl,_,rfl⟩
 refine r_s (s_y z z h69 (o_bin z z (bS_eq _ _))) ?_
 refine r_u (o_pf z h69 z) (r_as z ?_)
 refine r_nil (x_seq (c_ret ?_))
 obtain rfl:=si hm86
 refine ex_st (pk 11 []) ?_
 exact x_r1 z (rv_t z) (Le.trans (Le.trans (Le.trans (Le.trans le22 le76) le78) le81) le85) ⟨_,z,z,trivial,z⟩
end Go.Proofs.YtpanhdnglicknaaGreat
