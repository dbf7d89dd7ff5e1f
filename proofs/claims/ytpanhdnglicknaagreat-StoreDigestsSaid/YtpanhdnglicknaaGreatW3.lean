import Derived.Test.YtpanhdnglicknaaGreatW2
import Derived.Test.YtpanhdnglicknaaGreatFacts
import Derived.Test.YtpanhdnglicknaaGreatHwZ
import Derived.Test.YtpanhdnglicknaaGreatHwW
import Derived.Test.YtpanhdnglicknaaGreatHw8
set_option linter.unusedVariables false
set_option linter.unusedSectionVars false
set_option linter.unusedSimpArgs false
set_option maxRecDepth 100000
set_option maxHeartbeats 4000000
namespace Go.Proofs.YtpanhdnglicknaaGreat
open Go Go.Proofs.YtpanhdnglicknaaGreat.Hw
def Cr(ra7:UInt64×Aa):Nat→(Option Ah)→Str→UInt64→Str→Option ((Option Ah×Str)⊕((Option Ah×Aa)⊕(Int×Aa)))
 | 0,_,_,_,_=>none
 | k26+1,t_19,last_20,s_21,c_22=>if decide (s_21<ra7.1) then (AE (⟨c_22⟩:Aa) 64).bind fun r31=>sm r31 (fun (ra33:Str×Aa)=>(AE ra33.2 4096).bind fun r37=>sm r37 (fun (ra39:Str×Aa)=>(Aj ra39.2 18446744073709551615).bind fun r43=>sm r43 (fun (ra45:UInt64×Aa)=>(Aj ra45.2 18446744073709551615).bind fun r49=>sm r49 (fun (ra51:UInt64×Aa)=>lt (An ra51.2 ((s_21==0)||slt last_20 ra33.1)) fun r56=>sm r56 (fun (ra58:Unit)=>om t_19 (none) fun x62=>lt (By x62 (⟨ra33.1,ra39.1,ra45.1,ra51.1⟩:Ak)) fun r67=>Cr ra7 k26 (some r67) ra33.1 (s_21+1) ra51.2.s) fun ((rn59,ro60):Int×Unit)=>some (Sum.inr (Sum.inr (rn59,ra51.2)))) fun ((rn52,ro53):Int×Aa)=>some (Sum.inr (Sum.inr (rn52,ro53)))) fun ((rn46,ro47):Int×Aa)=>some (Sum.inr (Sum.inr (rn46,ro47)))) fun ((rn40,ro41):Int×Aa)=>some (Sum.inr (Sum.inr (rn40,ro41)))) fun ((rn34,ro35):Int×Aa)=>some (Sum.inr (Sum.inr (rn34,ro35))) else some (Sum.inl (t_19,c_22))
def CP(a0:Aa):Option ((Option Ah×Aa)⊕(Int×Aa)) :=
 lt (CW) fun r0=>(Aj a0 1000).bind fun r5=>sm r5 (fun (ra7:UInt64×Aa)=>Option.bind (Cr ra7 ((ra7.1-0).toNat+1) r0 [] 0 ra7.2.s) fun (p11:(Option Ah×Str)⊕((Option Ah×Aa)⊕(Int×Aa)))=>(match p11 with | Sum.inl q12=>some (Sum.inl (q12.1,(⟨q12.2⟩:Aa))) | Sum.inr r=>some r)) fun ((rn8,ro9):Int×Aa)=>some (Sum.inr (rn8,ro9))
theorem CP.ok{G R F}(b0_:Nat)(a0:Aa)(r:(Option Ah×Aa)⊕(Int×Aa))(hm:CP a0=some r):CO Tryz.prog 103 [pt b0_ 0] G R (Bk b0_ 177 (Aa.c a0)::F)
  (PK 175 r (fun (a:Option Ah×Aa) u R' L'=>∃(p0:Value×Ah.G),u=p0.1∧R'=R∧L'=rO (Ah.op p0.2) p0.1 a.1::Bk b0_ 177 (Aa.c a.2)::F) (fun n (o:Aa) R' L'=>R'=R∧L'=Bk b0_ 177 (Aa.c o)::F)):=by
 unfold CP at hm
 refine co_ofN (N:=41) Tryz.func103 z z ?_
 refine csr ?_
 refine r_as z ?_
 refine nsr ?_
 obtain ⟨r0,hr0,hm4⟩:=ltx hm
 refine r_sw (s_w (o_call ca42 z (CW.ok _ hr0))) ?_
 rintro pv2 R _ _ ⟨⟨_,g3⟩,rfl,rfl,rfl⟩
 refine r_as z (r_as z ?_)
 refine r_nil (x_seq (c_seq ?_))
 obtain ⟨r5,hr5,hm6⟩:=bs hm4
 rcases r5 with ra7 | ⟨rn8,ro9⟩
 rotate_left
 ·have hm10:=sm_r hm6
  refine c_reg ?_
  refine r_mv z ?_
  refine rl_st (fun _ h=>mv1 h) ?_
  obtain rfl:=si hm10
  exact r_sw (s_w (o_callR ca101 z (Aj.ok b0_ a0 1000 _ hr5) (by rintro _ _ _ ⟨rfl,rfl⟩;exact (px_st (pk 2 [0]) (px_of le_ (.inr ⟨_,z,_,z,z,z⟩)))))) (fun _ _ _ _ h=>h.elim)
 have hm10:=sm_l hm6
 refine c_reg ?_
 refine r_mv z ?_
 refine rl_st (fun _ h=>mv1 h) ?_
 refine r_c (s_w (o_callL ca101 z (Aj.ok b0_ a0 1000 _ hr5) (fun _ _ _ h=>h))) ?_
 refine r_as z ?_
 refine nssr ?_
 refine r_mv z (r_mv z ?_)
 refine nsq ?_
 obtain ⟨p11,hp16,hm17⟩:=bs hm10
 refine cd_cut (fun x ks=>∀(q12:Option Ah×Str),∀(_:p11=Sum.inl q12),∀(pv13:Value×Ah.G),EX x .normal ks [(3,pv13.1)] R (Bk b0_ 177 [vS q12.2]::rO (Ah.op pv13.2) pv13.1 q12.1::F)) ?_ fun K18 => ?_
 ·intro q12 hq pv13
  subst hq
  try dsimp only at hm17
  obtain ⟨pv14,g15⟩:=pv13
  refine x_seq (csr ?_)
  refine r_mv z (r_as z ?_)
  refine r_nil (x_seq (c_ret ?_))
  obtain rfl:=si hm17
  refine ex_st (pk 2 [1,0]) ?_
  exact x_r1 z (rv_t z) le_ (.inl ⟨_,z,_,z,(pv14,g15),z,z,z⟩)
 refine c_blk ?_
 refine cd_loopG (M:=fun k26 (s:Option Ah×Str×UInt64×Str×(Value×Ah.G))=>Cr ra7 k26 s.1 s.2.1 s.2.2.1 s.2.2.2.1=some p11) (Ef:=fun (s:Option Ah×Str×UInt64×Str×(Value×Ah.G))=>[(0,pt b0_ 0),(11,vW ra7.1),(3,s.2.2.2.2.1),(4,vS s.2.1),(12,vW s.2.2.1)]) (Rf:=fun (s:Option Ah×Str×UInt64×Str×(Value×Ah.G))=>R) (Lf:=fun (s:Option Ah×Str×UInt64×Str×(Value×Ah.G))=>Bk b0_ 177 [vS s.2.2.2.1]::rO (Ah.op s.2.2.2.2.2) s.2.2.2.2.1 s.1::F) ((ra7.1-0).toNat+1) (r0,[],0,ra7.2.s,(pv2,g3)) hp16 ⟨z,z,z,z,z,trivial⟩ (pk 2 [0,1]) (fun _ h=>by cases h) fun k26 s hM28 => ?_
 obtain ⟨t_19,last_20,s_21,c_22,pv23⟩:=s
 have hm27:Cr ra7 (k26+1) t_19 last_20 s_21 c_22=some p11:=hM28
 rw [Cr] at hm27
 obtain ⟨pv24,g25⟩:=pv23
 refine csr ?_
 refine r_bin z z (bW_lt _ _) ?_
 refine r_nil (x_seq (c_seq ?_))
 refine c_if (b:=decide (s_21<ra7.1)) z (fun h29 => ?_) fun h29 => ?_
 rotate_left
 ·have hm30:=iff_ hm27 h29
  refine c_exit (x_exit (ks':=_) z ?_)
  obtain rfl:=si hm30
  exact x_sub (K18 _ z (pv24,g25)) ⟨z,trivial⟩ (pk 2 [0,1])
 have hm30:=ift hm27 h29
 refine c_skip (x_seq (c_seq (c_blk (csr ?_))))
 refine r_mv z (r_as z ?_)
 refine r_nil (x_seq (c_seq ?_))
 obtain ⟨r31,hr31,hm32⟩:=bs hm30
 rcases r31 with ra33 | ⟨rn34,ro35⟩
 rotate_left
 ·have hm36:=sm_r hm32
  refine c_reg ?_
  refine r_mv z ?_
  obtain rfl:=si hm36
  try dsimp only at hm17
  obtain rfl:=si hm17
  exact r_sw (s_w (o_callR ca154 z (AE.ok b0_ (⟨c_22⟩:Aa) 64 _ hr31) (by rintro _ _ _ ⟨rfl,rfl⟩;exact (px_st (pk 2 [0]) (px_of le_ (.inr ⟨_,z,_,z,z,z⟩)))))) (fun _ _ _ _ h=>h.elim)
 have hm36:=sm_l hm32
 obtain ⟨r37,hr37,hm38⟩:=bs hm36
 rcases r37 with ra39 | ⟨rn40,ro41⟩
 rotate_left
 ·have hm42:=sm_r hm38
  refine c_reg ?_
  refine r_mv z ?_
  refine r_c (s_w (o_callL ca154 z (AE.ok b0_ (⟨c_22⟩:Aa) 64 _ hr31) (fun _ _ _ h=>h))) ?_
  refine r_mv z ?_
  obtain rfl:=si hm42
  try dsimp only at hm17
  obtain rfl:=si hm17
  exact r_sw (s_w (o_callR ca154 z (AE.ok b0_ _ 4096 _ hr37) (by rintro _ _ _ ⟨rfl,rfl⟩;exact (px_st (pk 2 [0]) (px_of le_ (.inr ⟨_,z,_,z,z,z⟩)))))) (fun _ _ _ _ h=>h.elim)
 have hm42:=sm_l hm38
 obtain ⟨r43,hr43,hm44⟩:=bs hm42
 rcases r43 with ra45 | ⟨rn46,ro47⟩
 rotate_left
 ·have hm48:=sm_r hm44
  refine c_reg ?_
  refine r_mv z ?_
  refine r_c (s_w (o_callL ca154 z (AE.ok b0_ (⟨c_22⟩:Aa) 64 _ hr31) (fun _ _ _ h=>h))) ?_
  refine r_mv z ?_
  refine r_c (s_w (o_callL ca154 z (AE.ok b0_ _ 4096 _ hr37) (fun _ _ _ h=>h))) ?_
  refine r_mv z ?_
  obtain rfl:=si hm48
  try dsimp only at hm17
  obtain rfl:=si hm17
  exact r_sw (s_w (o_callR ca101 z (Aj.ok b0_ _ 18446744073709551615 _ hr43) (by rintro _ _ _ ⟨rfl,rfl⟩;exact (px_st (pk 2 [0]) (px_of le_ (.inr ⟨_,z,_,z,z,z⟩)))))) (fun _ _ _ _ h=>h.elim)
 have hm48:=sm_l hm44
 obtain ⟨r49,hr49,hm50⟩:=bs hm48
 rcases r49 with ra51 | ⟨rn52,ro53⟩
 rotate_left
 ·have hm54:=sm_r hm50
  refine c_reg ?_
  refine r_mv z ?_
  refine r_c (s_w (o_callL ca154 z (AE.ok b0_ (⟨c_22⟩:Aa) 64 _ hr31) (fun _ _ _ h=>h))) ?_
  refine r_mv z ?_
  refine r_c (s_w (o_callL ca154 z (AE.ok b0_ _ 4096 _ hr37) (fun _ _ _ h=>h))) ?_
  refine r_mv z ?_
  refine r_c (s_w (o_callL ca101 z (Aj.ok b0_ _ 18446744073709551615 _ hr43) (fun _ _ _ h=>h))) ?_
  refine r_mv z ?_
  obtain rfl:=si hm54
  try dsimp only at hm17
  obtain rfl:=si hm17
  exact r_sw (s_w (o_callR ca101 z (Aj.ok b0_ _ 18446744073709551615 _ hr49) (by rintro _ _ _ ⟨rfl,rfl⟩;exact (px_st (pk 2 [0]) (px_of le_ (.inr ⟨_,z,_,z,z,z⟩)))))) (fun _ _ _ _ h=>h.elim)
 have hm54:=sm_l hm50
 refine c_reg ?_
 refine r_mv z ?_
 refine r_c (s_w (o_callL ca154 z (AE.ok b0_ (⟨c_22⟩:Aa) 64 _ hr31) (fun _ _ _ h=>h))) ?_
 refine r_mv z ?_
 refine r_c (s_w (o_callL ca154 z (AE.ok b0_ _ 4096 _ hr37) (fun _ _ _ h=>h))) ?_
 refine r_mv z ?_
 refine r_c (s_w (o_callL ca101 z (Aj.ok b0_ _ 18446744073709551615 _ hr43) (fun _ _ _ h=>h))) ?_
 refine r_mv z ?_
 refine r_c (s_w (o_callL ca101 z (Aj.ok b0_ _ 18446744073709551615 _ hr49) (fun _ _ _ h=>h))) ?_
 refine r_u (o_bld [vS ra33.1,vS ra39.1,vW ra45.1,vW ra51.1] z (fun _=>by kernel_rfl)) ?_
 refine r_new (o_al ze50) fun b55 => ?_
 refine r_u0 (o_stn ag50 z z z z z z z) ?_
 refine r_nil (x_seq (c_seq ?_))
 obtain ⟨r56,hr56,hm57⟩:=ltx hm54
 rcases r56 with ra58 | ⟨rn59,ro60⟩
 rotate_left
 ·have hm61:=sm_r hm57
  refine c_reg ?_
  refine r_mv z (r_mv z (r_bin z z (bW_eq _ 0) (r_mv z ?_)))
  refine r_s (s_gf z z fun g=>o_fa fa50_0 z) ?_
  refine r_s (s_gf z z fun g=>o_ld 0 sc9 (evg z g) z z) ?_
  refine r_s (s_gf z z fun g=>o_mv z) ?_
  refine r_s (s_gf z z fun g=>o_bin (evg z g) (evg z g) (bS_gt _ _)) ?_
  refine r_u (o_or z z) ?_
  refine rl_st (fun _ h=>mv1 h) ?_
  obtain rfl:=si hm61
  try dsimp only at hm17
  obtain rfl:=si hm17
  exact r_sw (s_w (o_callR ca102 z (An.ok b0_ _ _ _ hr56) (by rintro _ _ _ ⟨rfl,rfl⟩;exact (px_st (pk 3 [0]) (px_of le_ (.inr ⟨_,z,_,z,z,z⟩)))))) (fun _ _ _ _ h=>h.elim)
 have hm61:=sm_l hm57
 refine c_reg ?_
 refine r_mv z (r_mv z (r_bin z z (bW_eq _ 0) (r_mv z ?_)))
 refine r_s (s_gf z z fun g=>o_fa fa50_0 z) ?_
 refine r_s (s_gf z z fun g=>o_ld 0 sc9 (evg z g) z z) ?_
 refine r_s (s_gf z z fun g=>o_mv z) ?_
 refine r_s (s_gf z z fun g=>o_bin (evg z g) (evg z g) (bS_gt _ _)) ?_
 refine r_u (o_or z z) ?_
 refine rl_st (fun _ h=>mv1 h) ?_
 refine r_c (s_w (o_callL ca102 z (An.ok b0_ _ _ _ hr56) (fun _ _ _ h=>h))) ?_
 refine r_nil (x_seq (c_seq ?_))
 refine cd_st (fun _ h=>mv2 h) ?_
 refine cd_opt (fun ho64 => ?_) (fun x62 b63 ho64 => ?_)
 ·rintro rfl
  have hm65:=om_n hm61 ho64
  cases hm65
 rintro rfl
 have hm65:=om_s hm61 ho64
 refine cd_st (fun _ h=>st_star_o h) ?_
 refine c_reg ?_
 refine r_mv z ?_
 refine r_u (o_ldn 3 [vS ra33.1,vS ra39.1,vW ra45.1,vW ra51.1] ag50 z z z z) ?_
 obtain ⟨r67,hr67,hm68⟩:=ltx hm65
 refine r_c (s_w (o_call ca122 z (By.ok b63 _ g25 (⟨ra33.1,ra39.1,ra45.1,ra51.1⟩:Ak) _ hr67))) ?_
 refine r_nil (x_seq (c_reg ?_))
 refine r_fa fa50_0 z (r_ld 3 sc9 z z z (r_as z ?_))
 refine r_nil (x_blk (x_seq (c_reg ?_)))
 refine r_bin z z (bW_add _ 1) (r_mv z ?_)
 refine r_nil ?_
 refine ex_st (fun _ h=>st_some (f:=Ah.op g25) (a:=r67) (st_star_f (A:=Ah.fl b63 r67 g25) h)) ?_
 exact x_lp ((some r67),ra33.1,s_21+1,ra51.2.s,(pt b63 0,g25)) hm68 ⟨z,z,z,z,z,trivial⟩ (pk 3 [1,0])
def CG(q57:List Str×Str)(s_32:Int):Nat→(Option Ab)→Int→Option ((Option Ab)⊕((Option Ab×Str)⊕((Option Ab×Str)⊕((Option Ab×Aa)⊕(Int×Aa)))))
 | 0,_,_=>none
 | k75+1,out_70,k_71=>if decide (0≤k_71) then (gi q57.1 k_71).bind fun x80=>om out_70 (none) fun x82=>(AT x82 x80).bind fun r90=>Option.bind (if r90.2 then lt (An (⟨q57.2⟩:Aa) false) fun r104=>sm r104 (fun (ra106:Unit)=>some (Sum.inl x82)) fun ((rn107,ro108):Int×Unit)=>some (Sum.inr (Sum.inr (Sum.inr (Sum.inr (Sum.inr (rn107,(⟨q57.2⟩:Aa))))))) else (Av x82 s_32 x80).bind fun r110=>lt (An (⟨q57.2⟩:Aa) r110.1) fun r117=>sm r117 (fun (ra119:Unit)=>some (Sum.inl r110.2)) fun ((rn120,ro121):Int×Unit)=>some (Sum.inr (Sum.inr (Sum.inr (Sum.inr (Sum.inr (rn120,(⟨q57.2⟩:Aa)))))))) fun (p92:Ab⊕((Option Ab)⊕((Option Ab×Str)⊕((Option Ab×Str)⊕((Option Ab×Aa)⊕(Int×Aa))))))=>(match p92 with | Sum.inl q93=>CG q57 s_32 k75 (some q93) (i64 (k_71-1)) | Sum.inr r=>some r) else some (Sum.inl out_70)
def CH : Nat→(List Str)→UInt64→Str→Option ((List Str×Str)⊕((Option Ab×Str)⊕((Option Ab×Str)⊕((Option Ab×Aa)⊕(Int×Aa)))))
 | 0,_,_,_=>none
 | k137+1,keys_133,n_134,c_135=>if decide (0<n_134) then (AE (⟨c_135⟩:Aa) 64).bind fun r142=>sm r142 (fun (ra144:Str×Aa)=>(apd 16 keys_133 [ra144.1]).bind fun l150=>CH k137 l150 (n_134-1) ra144.2.s) fun ((rn145,ro146):Int×Aa)=>some (Sum.inr (Sum.inr (Sum.inr (Sum.inr (rn145,ro146))))) else some (Sum.inl (keys_133,c_135))
def CI(ra2:UInt64×Aa)(ra8:UInt64×Aa):Nat→(Option Ab)→Int→Str→Option ((Option Ab×Str)⊕((Option Ab×Aa)⊕(Int×Aa)))
 | 0,_,_,_=>none
 | k37+1,out_31,s_32,c_33=>if decide (s_32<(i64 (ra2.1.toNat:Int))) then Option.bind ((Aj (⟨c_33⟩:Aa) (toW (i64 (ra8.1.toNat:Int)))).bind fun r50=>sm r50 (fun (ra52:UInt64×Aa)=>Option.bind (CH ((ra52.1).toNat+1) [] ra52.1 ra52.2.s) fun (p56:(List Str×Str)⊕((Option Ab×Str)⊕((Option Ab×Str)⊕((Option Ab×Aa)⊕(Int×Aa)))))=>(match p56 with | Sum.inl q57=>Option.bind (CG q57 s_32 (((i64 ((q57.1.length:Int)-1))+1).toNat+1) out_31 (i64 ((q57.1.length:Int)-1))) fun (p62:(Option Ab)⊕((Option Ab×Str)⊕((Option Ab×Str)⊕((Option Ab×Aa)⊕(Int×Aa)))))=>(match p62 with | Sum.inl q63=>some (Sum.inl (q63,q57.2)) | Sum.inr r=>some r) | Sum.inr r=>some r)) fun ((rn53,ro54):Int×Aa)=>some (Sum.inr (Sum.inr (Sum.inr (rn53,ro54))))) fun (p42:(Option Ab×Str)⊕((Option Ab×Str)⊕((Option Ab×Aa)⊕(Int×Aa))))=>(match p42 with | Sum.inl q43=>CI ra2 ra8 k37 q43.1 (i64 (s_32+1)) q43.2 | Sum.inr r=>some r) else some (Sum.inl (out_31,c_33))
def CJ(a0:Aa):Option ((Option Ab×Aa)⊕(Int×Aa)) :=
 (Aj a0 8).bind fun r0=>sm r0 (fun (ra2:UInt64×Aa)=>(Aj ra2.2 4096).bind fun r6=>sm r6 (fun (ra8:UInt64×Aa)=>(Cu (i64 (ra2.1.toNat:Int)) (i64 (ra8.1.toNat:Int))).bind fun r12=>lt (An ra8.2 (r12.2==0)) fun r17=>sm r17 (fun (ra19:Unit)=>Option.bind (CI ra2 ra8 (((i64 (ra2.1.toNat:Int))-0).toNat+1) r12.1 0 ra8.2.s) fun (p23:(Option Ab×Str)⊕((Option Ab×Aa)⊕(Int×Aa)))=>(match p23 with | Sum.inl q24=>some (Sum.inl (q24.1,(⟨q24.2⟩:Aa))) | Sum.inr r=>some r)) fun ((rn20,ro21):Int×Unit)=>some (Sum.inr (rn20,ra8.2))) fun ((rn9,ro10):Int×Aa)=>some (Sum.inr (rn9,ro10))) fun ((rn3,ro4):Int×Aa)=>some (Sum.inr (rn3,ro4))
theorem CJ.ok{G R F}(b0_:Nat)(a0:Aa)(r:(Option Ab×Aa)⊕(Int×Aa))(hm:CJ a0=some r):CO Tryz.prog 202 [pt b0_ 0] G R (Bk b0_ 177 (Aa.c a0)::F)
  (PK 175 r (fun (a:Option Ab×Aa) u R' L'=>∃(p0:Value×Ab.G),u=p0.1∧R'=R∧L'=rO (Ab.op p0.2) p0.1 a.1::Bk b0_ 177 (Aa.c a.2)::F) (fun n (o:Aa) R' L'=>R'=R∧L'=Bk b0_ 177 (Aa.c o)::F)):=by
 unfold CJ at hm
 refine co_ofN (N:=77) Tryz.func202 z z ?_
 refine csr ?_
 refine r_as z ?_
 refine r_nil (x_seq (c_seq ?_))
 obtain ⟨r0,hr0,hm1⟩:=bs hm
 rcases r0 with ra2 | ⟨rn3,ro4⟩
 rotate_left
 ·have hm5:=sm_r hm1
  refine c_reg ?_
  refine r_mv z ?_
  obtain rfl:=si hm5
  exact r_sw (s_w (o_callR ca101 z (Aj.ok b0_ a0 8 _ hr0) (by rintro _ _ _ ⟨rfl,rfl⟩;exact (px_st (pk 1 [0]) (px_of le_ (.inr ⟨_,z,_,z,z,z⟩)))))) (fun _ _ _ _ h=>h.elim)
 have hm5:=sm_l hm1
 obtain ⟨r6,hr6,hm7⟩:=bs hm5
 rcases r6 with ra8 | ⟨rn9,ro10⟩
 rotate_left
 ·have hm11:=sm_r hm7
  refine c_reg ?_
  refine r_mv z ?_
  refine r_c (s_w (o_callL ca101 z (Aj.ok b0_ a0 8 _ hr0) (fun _ _ _ h=>h))) ?_
  refine r_u (o_cv z (cWI Tryz.underlying22 Tryz.underlying3 ra2.1)) (r_mv z ?_)
  obtain rfl:=si hm11
  exact r_sw (s_w (o_callR ca101 z (Aj.ok b0_ _ 4096 _ hr6) (by rintro _ _ _ ⟨rfl,rfl⟩;exact (px_st (pk 1 [0]) (px_of le_ (.inr ⟨_,z,_,z,z,z⟩)))))) (fun _ _ _ _ h=>h.elim)
 have hm11:=sm_l hm7
 refine c_reg ?_
 refine r_mv z ?_
 refine r_c (s_w (o_callL ca101 z (Aj.ok b0_ a0 8 _ hr0) (fun _ _ _ h=>h))) ?_
 refine r_u (o_cv z (cWI Tryz.underlying22 Tryz.underlying3 ra2.1)) (r_mv z ?_)
 refine r_c (s_w (o_callL ca101 z (Aj.ok b0_ _ 4096 _ hr6) (fun _ _ _ h=>h))) ?_
 refine r_u (o_cv z (cWI Tryz.underlying22 Tryz.underlying3 ra8.1)) (r_as z (r_as z ?_))
 refine nsr ?_
 refine r_mv z (r_mv z ?_)
 obtain ⟨r12,hr12,hm16⟩:=bs hm11
 refine r_sw (s_w (o_call ca128 z (Cu.ok _ _ _ hr12))) ?_
 rintro _ R _ _ ⟨⟨pv14,g15⟩,rfl,rfl,rfl⟩
 refine r_mv z ?_
 refine r_ext z z ?_
 refine r_ext z z (r_as z (r_as z ?_))
 refine r_nil (x_seq (c_seq ?_))
 obtain ⟨r17,hr17,hm18⟩:=ltx hm16
 rcases r17 with ra19 | ⟨rn20,ro21⟩
 rotate_left
 ·have hm22:=sm_r hm18
  refine c_reg ?_
  refine r_mv z (r_mv z (r_bin z z (bI_eq _ 0) ?_))
  refine rl_st (fun _ h=>mv1 h) ?_
  obtain rfl:=si hm22
  exact r_sw (s_w (o_callR ca102 z (An.ok b0_ _ _ _ hr17) (by rintro _ _ _ ⟨rfl,rfl⟩;exact (px_st (pk 2 [0]) (px_of le_ (.inr ⟨_,z,_,z,z,z⟩)))))) (fun _ _ _ _ h=>h.elim)
 have hm22:=sm_l hm18
 refine c_reg ?_
 refine r_mv z (r_mv z (r_bin z z (bI_eq _ 0) ?_))
 refine rl_st (fun _ h=>mv1 h) ?_
 refine r_c (s_w (o_callL ca102 z (An.ok b0_ _ _ _ hr17) (fun _ _ _ h=>h))) ?_
 refine nssr ?_
 refine r_mv z (r_mv z ?_)
 refine nsq ?_
 obtain ⟨p23,hp28,hm29⟩:=bs hm22
 refine cd_cut (fun x ks=>∀(q24:Option Ab×Str),∀(_:p23=Sum.inl q24),∀(pv25:Value×Ab.G),EX x .normal ks [(5,pv25.1)] R (Bk b0_ 177 [vS q24.2]::rO (Ab.op pv25.2) pv25.1 q24.1::F)) ?_ fun K30 => ?_
 ·intro q24 hq pv25
  subst hq
  try dsimp only at hm29
  obtain ⟨pv26,g27⟩:=pv25
  refine x_seq (csr ?_)
  refine r_mv z (r_as z ?_)
  refine r_nil (x_seq (c_ret ?_))
  obtain rfl:=si hm29
  refine ex_st (pk 2 [1,0]) ?_
  exact x_r1 z (rv_t z) le_ (.inl ⟨_,z,_,z,(pv26,g27),z,z,z⟩)
 refine c_blk ?_
 refine cd_loopG (M:=fun k37 (s:Option Ab×Int×Str×(Value×Ab.G))=>CI ra2 ra8 k37 s.1 s.2.1 s.2.2.1=some p23) (Ef:=fun (s:Option Ab×Int×Str×(Value×Ab.G))=>[(0,pt b0_ 0),(4,vI (i64 (ra8.1.toNat:Int))),(29,vI (i64 (ra2.1.toNat:Int))),(5,s.2.2.2.1),(30,vI s.2.1)]) (Rf:=fun (s:Option Ab×Int×Str×(Value×Ab.G))=>R) (Lf:=fun (s:Option Ab×Int×Str×(Value×Ab.G))=>Bk b0_ 177 [vS s.2.2.1]::rO (Ab.op s.2.2.2.2) s.2.2.2.1 s.1::F) (((i64 (ra2.1.toNat:Int))-0).toNat+1) (r12.1,0,ra8.2.s,(pv14,g15)) hp28 ⟨z,z,z,z,z,trivial⟩ (pk 2 [0,1]) (fun _ h=>by cases h) fun k37 s hM39 => ?_
 obtain ⟨out_31,s_32,c_33,pv34⟩:=s
 have hm38:CI ra2 ra8 (k37+1) out_31 s_32 c_33=some p23:=hM39
 rw [CI] at hm38
 obtain ⟨pv35,g36⟩:=pv34
 refine csr ?_
 refine r_bin z z (bI_lt _ _) ?_
 refine r_nil (x_seq (c_seq ?_))
 refine c_if (b:=decide (s_32<(i64 (ra2.1.toNat:Int)))) z (fun h40 => ?_) fun h40 => ?_
 rotate_left
 ·have hm41:=iff_ hm38 h40
  refine c_exit (x_exit (ks':=_) z ?_)
  obtain rfl:=si hm41
  exact x_sub (K30 _ z (pv35,g36)) ⟨z,trivial⟩ (pk 2 [0,1])
 have hm41:=ift hm38 h40
 refine c_skip (x_seq (c_seq ?_))
 obtain ⟨p42,hp47,hm48⟩:=bs hm41
 refine cd_cut (fun x ks=>∀(q43:Option Ab×Str),∀(_:p42=Sum.inl q43),∀(pv44:Value×Ab.G),EX x .normal ks [(0,pt b0_ 0),(4,vI (i64 (ra8.1.toNat:Int))),(29,vI (i64 (ra2.1.toNat:Int))),(30,vI s_32),(5,pv44.1)] R (Bk b0_ 177 [vS q43.2]::rO (Ab.op pv44.2) pv44.1 q43.1::F)) ?_ fun K49 => ?_
 ·intro q43 hq pv44
  subst hq
  try dsimp only at hm48
  obtain ⟨pv45,g46⟩:=pv44
  refine x_seq (c_reg ?_)
  refine r_bin z z (bI_add _ 1) (r_mv z ?_)
  refine r_nil ?_
  exact x_lp (q43.1,i64 (s_32+1),q43.2,(pv45,g46)) hm48 ⟨z,z,z,z,z,trivial⟩ (pk 2 [0,1])
 refine c_blk (csr ?_)
 refine r_mv z (r_as z ?_)
 refine nsr ?_
 refine r_as z ?_
 refine r_nil (x_seq (c_seq (c_seq ?_)))
 obtain ⟨r50,hr50,hm51⟩:=bs hp47
 rcases r50 with ra52 | ⟨rn53,ro54⟩
 rotate_left
 ·have hm55:=sm_r hm51
  refine c_reg ?_
  refine r_mv z (r_mv z (r_u (o_cv z (cIW Tryz.underlying3 Tryz.underlying22 (i64 (ra8.1.toNat:Int)))) ?_))
  obtain rfl:=si hm55
  try dsimp only at hm48
  obtain rfl:=si hm48
  try dsimp only at hm29
  obtain rfl:=si hm29
  exact r_sw (s_w (o_callR ca101 z (Aj.ok b0_ (⟨c_33⟩:Aa) _ _ hr50) (by rintro _ _ _ ⟨rfl,rfl⟩;exact (px_st (pk 2 [0]) (px_of le_ (.inr ⟨_,z,_,z,z,z⟩)))))) (fun _ _ _ _ h=>h.elim)
 have hm55:=sm_l hm51
 refine c_reg ?_
 refine r_mv z (r_mv z (r_u (o_cv z (cIW Tryz.underlying3 Tryz.underlying22 (i64 (ra8.1.toNat:Int)))) ?_))
 refine r_c (s_w (o_callL ca101 z (Aj.ok b0_ (⟨c_33⟩:Aa) _ _ hr50) (fun _ _ _ h=>h))) ?_
 refine r_as z ?_
 refine nsq ?_
 obtain ⟨p56,hp59,hm60⟩:=bs hm55
 refine cd_cut (fun x ks=>∀(q57:List Str×Str),∀(_:p56=Sum.inl q57),∀(g58:Value),EX x .normal ks [(0,pt b0_ 0),(4,vI (i64 (ra8.1.toNat:Int))),(5,pv35),(7,vI s_32),(29,vI (i64 (ra2.1.toNat:Int))),(30,vI s_32),(8,g58)] R (Bk b0_ 177 [vS q57.2]::rO (Ab.op g36) pv35 out_31::OwS true 9 1 eS g58 q57.1::F)) ?_ fun K61 => ?_
 rotate_left
 ·refine c_blk ?_
  refine cd_st (fun _ h=>st_nil (ap:=true) (T:=9) (sz:=1) (en:=eS) h) ?_
  refine cd_loopG (M:=fun k137 (s:List Str×UInt64×Str×Value)=>CH k137 s.1 s.2.1 s.2.2.1=some p56) (Ef:=fun (s:List Str×UInt64×Str×Value)=>[(0,pt b0_ 0),(4,vI (i64 (ra8.1.toNat:Int))),(5,pv35),(7,vI s_32),(29,vI (i64 (ra2.1.toNat:Int))),(30,vI s_32),(8,s.2.2.2),(9,vW s.2.1)]) (Rf:=fun (s:List Str×UInt64×Str×Value)=>R) (Lf:=fun (s:List Str×UInt64×Str×Value)=>Bk b0_ 177 [vS s.2.2.1]::rO (Ab.op g36) pv35 out_31::OwS true 9 1 eS s.2.2.2 s.1::F) ((ra52.1).toNat+1) ([],ra52.1,ra52.2.s,.slice none 0 0) hp59 ⟨z,z,z,z,z,z,z,z,trivial⟩ (pk 3 [1,2,0]) (fun _ h=>by cases h) fun k137 s hM139 => ?_
  obtain ⟨keys_133,n_134,c_135,g136⟩:=s
  have hm138:CH (k137+1) keys_133 n_134 c_135=some p56:=hM139
  rw [CH] at hm138
  refine c_seq (csr ?_)
  refine r_mv z (r_bin z z (bW_gt _ 0) ?_)
  refine nsq ?_
  refine c_if (b:=decide (0<n_134)) z (fun h140 => ?_) fun h140 => ?_
  rotate_left
  ·have hm141:=iff_ hm138 h140
   refine c_exit (x_exit (ks':=_) z ?_)
   obtain rfl:=si hm141
   exact x_sub (K61 _ z g136) ⟨z,z,z,z,z,z,z,trivial⟩ (pk 3 [0,1,2])
  have hm141:=ift hm138 h140
  refine c_skip (x_seq (c_seq (c_blk ?_)))
  obtain ⟨r142,hr142,hm143⟩:=bs hm141
  rcases r142 with ra144 | ⟨rn145,ro146⟩
  ·have hm147:=sm_l hm143
   refine c_reg ?_
   refine r_mv z (r_mv z ?_)
   refine r_c (s_w (o_callL ca154 z (AE.ok b0_ (⟨c_135⟩:Aa) 64 _ hr142) (fun _ _ _ h=>h))) ?_
   refine r_sw (s_w (o_bsl (en:=eS) (sz:=1) (e:=9) (cs:=[vS ra144.1]) (r:=[ra144.1]) z (fun _=>by kernel_rfl) z (by decide) z (fun _=>z))) ?_
   rintro v148 R _ _ ⟨rfl,rfl⟩
   obtain ⟨l150,hl150,hm151⟩:=bs hm147
   refine rl_st (fun _ h=>mv3 h) ?_
   refine r_sw (s_w (o_ap (sz:=1) (bytes:=16) 0 Tryz.underlying98 z z z z z (by decide) (by decide) (fun _ _ _ h=>by simp at h;subst h;rfl) (fun _=>z) z z z z (Nat.succ_pos _) hl150)) ?_
   rintro v149 R _ _ ⟨rfl,rfl⟩
   refine r_as z ?_
   refine r_nil (x_blk (x_seq (c_reg ?_)))
   refine r_mv z (r_bin z z (bW_sub _ 1) (r_as z ?_))
   refine r_nil ?_
   exact x_lp (l150,n_134-1,ra144.2.s,v149) hm151 ⟨z,z,z,z,z,z,z,z,trivial⟩ (pk 4 [2,3,0])
  have hm147:=sm_r hm143
  refine c_reg ?_
  refine r_mv z (r_mv z ?_)
  obtain rfl:=si hm147
  try dsimp only at hm60
  obtain rfl:=si hm60
  try dsimp only at hm48
  obtain rfl:=si hm48
  try dsimp only at hm29
  obtain rfl:=si hm29
  exact r_sw (s_w (o_callR ca154 z (AE.ok b0_ (⟨c_135⟩:Aa) 64 _ hr142) (by rintro _ _ _ ⟨rfl,rfl⟩;exact (px_st (pk 3 [0]) (px_of le_ (.inr ⟨_,z,_,z,z,z⟩)))))) (fun _ _ _ _ h=>h.elim)
 intro q57 hq g58
 subst hq
 try dsimp only at hm60
 refine x_seq (csr ?_)
 refine r_mv z (r_u (o_lenO 2 Tryz.underlying98 z z) (r_bin z z (bI_sub _ 1) (r_as z ?_)))
 refine nsq ?_
 obtain ⟨p62,hp67,hm68⟩:=bs hm60
 refine cd_cut (fun x ks=>∀(q63:Option Ab),∀(_:p62=Sum.inl q63),∀(pv64:Value×Ab.G),EX x .normal ks [(0,pt b0_ 0),(4,vI (i64 (ra8.1.toNat:Int))),(29,vI (i64 (ra2.1.toNat:Int))),(30,vI s_32),(5,pv64.1)] R (Bk b0_ 177 [vS q57.2]::OwS true 9 1 eS g58 q57.1::rO (Ab.op pv64.2) pv64.1 q63::F)) ?_ fun K69 => ?_
 ·intro q63 hq pv64
  subst hq
  try dsimp only at hm68
  obtain ⟨pv65,g66⟩:=pv64
  refine x_blk ?_
  obtain rfl:=si hm68
  exact x_sub (K49 _ z (pv65,g66)) ⟨z,z,z,z,z,trivial⟩ (pk 3 [0,2])
 refine c_blk ?_
 refine cd_loopG (M:=fun k75 (s:Option Ab×Int×(Value×Ab.G))=>CG q57 s_32 k75 s.1 s.2.1=some p62) (Ef:=fun (s:Option Ab×Int×(Value×Ab.G))=>[(0,pt b0_ 0),(4,vI (i64 (ra8.1.toNat:Int))),(7,vI s_32),(8,g58),(29,vI (i64 (ra2.1.toNat:Int))),(30,vI s_32),(5,s.2.2.1),(10,vI s.2.1)]) (Rf:=fun (s:Option Ab×Int×(Value×Ab.G))=>R) (Lf:=fun (s:Option Ab×Int×(Value×Ab.G))=>Bk b0_ 177 [vS q57.2]::OwS true 9 1 eS g58 q57.1::rO (Ab.op s.2.2.2) s.2.2.1 s.1::F) (((i64 ((q57.1.length:Int)-1))+1).toNat+1) (out_31,i64 ((q57.1.length:Int)-1),(pv35,g36)) hp67 ⟨z,z,z,z,z,z,z,z,trivial⟩ (pk 3 [0,2,1]) (fun _ h=>by cases h) fun k75 s hM77 => ?_
 obtain ⟨out_70,k_71,pv72⟩:=s
 have hm76:CG q57 s_32 (k75+1) out_70 k_71=some p62:=hM77
 rw [CG] at hm76
 obtain ⟨pv73,g74⟩:=pv72
 refine c_seq (csr ?_)
 refine r_mv z (r_bin z z (bI_ge _ 0) ?_)
 refine nsq ?_
 refine c_if (b:=decide (0≤k_71)) z (fun h78 => ?_) fun h78 => ?_
 rotate_left
 ·have hm79:=iff_ hm76 h78
  refine c_exit (x_exit (ks':=_) z ?_)
  obtain rfl:=si hm79
  exact x_sub (K69 _ z (pv73,g74)) ⟨z,z,z,z,z,trivial⟩ (pk 3 [0,1,2])
 have hm79:=ift hm76 h78
 refine c_skip (x_seq (c_seq (c_blk (c_seq ?_))))
 obtain ⟨x80,hx80,hm81⟩:=bs hm79
 refine cd_st (fun _ h=>mv2 h) ?_
 refine cd_opt (fun ho84 => ?_) (fun x82 b83 ho84 => ?_)
 ·rintro rfl
  have hm85:=om_n hm81 ho84
  cases hm85
 rintro rfl
 have hm85:=om_s hm81 ho84
 refine cd_st (fun _ h=>st_star_o h) ?_
 refine c_reg ?_
 refine r_mv z (r_mv z (r_mv z ?_))
 refine r_u (o_ixO 6 Tryz.underlying98 (fun _=>by kernel_rfl) z z z hx80) (r_u (o_ldO0 6 sc9 z z hx80 z z) ?_)
 obtain ⟨r90,hr90,hm91⟩:=bs hm85
 refine r_c (s_w (o_call ca160 z (AT.ok b83 _ g74 _ _ hr90))) ?_
 refine r_mv z ?_
 refine r_ext z z ?_
 refine r_ext z z (r_as z (r_as z ?_))
 refine nsq ?_
 obtain ⟨p92,hp99,hm100⟩:=bs hm91
 refine cd_cut (fun x ks=>∀(q93:Ab),∀(_:p92=Sum.inl q93),∀(g94:Ab.G),EX x .normal ks [(0,pt b0_ 0),(4,vI (i64 (ra8.1.toNat:Int))),(5,pt b83 0),(7,vI s_32),(8,g58),(10,vI k_71),(29,vI (i64 (ra2.1.toNat:Int))),(30,vI s_32)] R (Bk b0_ 177 [vS q57.2]::Bk b83 237 (Ab.k q93 g94)::OwS true 9 1 eS g58 q57.1::OwS true 240 4 Aq.c g94.slots q93.slots::OwS true 3 1 eI g94.free q93.free::OwM vS vI g94.at_ q93.at_::OwS true 3 1 eI g94.many q93.many::F)) ?_ fun K101 => ?_
 ·intro q93 hq g94
  subst hq
  try dsimp only at hm100
  refine x_blk (x_seq (c_reg ?_))
  refine r_mv z (r_bin z z (bI_sub _ 1) (r_as z ?_))
  refine r_nil ?_
  refine ex_st (fun _ h=>mv5 (mv6 (mv6 (mv6 (mv6 h))))) ?_
  refine ex_st (fun _ h=>st_some (f:=Ab.op g94) (a:=q93) (st_star_f (A:=Ab.fl b83 q93 g94) h)) ?_
  exact x_lp ((some q93),i64 (k_71-1),(pt b83 0,g94)) hm100 ⟨z,z,z,z,z,z,z,z,trivial⟩ (pk 3 [1,2,0])
 refine cd_by r90.2 (fun h102 => ?_) fun h102 => ?_
 ·have hm103:=ift hp99 h102
  obtain ⟨r104,hr104,hm105⟩:=ltx hm103
  rcases r104 with ra106 | ⟨rn107,ro108⟩
  ·have hm109:=sm_l hm105
   refine c_reg ?_
   refine r_mv z (r_mv z ?_)
   refine r_u (o_not z) (r_mv z ?_)
   refine r_s (s_n z z (nbf h102)) ?_
   refine r_s (s_n z z (nbf h102)) ?_
   refine r_s (s_n z z (nbf h102)) ?_
   refine r_s (s_n z z (nbf h102)) ?_
   refine r_s (s_n z z (nbf h102)) ?_
   refine r_s (s_n z z (nbf h102)) ?_
   refine r_s (s_n z z (nbf h102)) ?_
   refine r_u (o_pf z (nbf h102) z) ?_
   refine rl_st (fun _ h=>mv5 h) ?_
   refine r_c (s_w (o_callL ca102 z (An.ok b0_ (⟨q57.2⟩:Aa) _ _ hr104) (fun _ _ _ h=>h))) ?_
   refine r_nil ?_
   obtain rfl:=si hm109
   exact x_sub (K101 _ z g74) ⟨z,z,z,z,z,z,z,z,trivial⟩ (pk 7 [0,1,6,2,3,4,5])
  have hm109:=sm_r hm105
  refine c_reg ?_
  refine r_mv z (r_mv z ?_)
  refine r_u (o_not z) (r_mv z ?_)
  refine r_s (s_n z z (nbf h102)) ?_
  refine r_s (s_n z z (nbf h102)) ?_
  refine r_s (s_n z z (nbf h102)) ?_
  refine r_s (s_n z z (nbf h102)) ?_
  refine r_s (s_n z z (nbf h102)) ?_
  refine r_s (s_n z z (nbf h102)) ?_
  refine r_s (s_n z z (nbf h102)) ?_
  refine r_u (o_pf z (nbf h102) z) ?_
  refine rl_st (fun _ h=>mv5 h) ?_
  obtain rfl:=si hm109
  try dsimp only at hm100
  obtain rfl:=si hm100
  try dsimp only at hm68
  obtain rfl:=si hm68
  try dsimp only at hm48
  obtain rfl:=si hm48
  try dsimp only at hm29
  obtain rfl:=si hm29
  exact r_sw (s_w (o_callR ca102 z (An.ok b0_ (⟨q57.2⟩:Aa) _ _ hr104) (by rintro _ _ _ ⟨rfl,rfl⟩;exact (px_st (pk 7 [0]) (px_of le_ (.inr ⟨_,z,_,z,z,z⟩)))))) (fun _ _ _ _ h=>h.elim)
 have hm103:=iff_ hp99 h102
 obtain ⟨r110,hr110,hm116⟩:=bs hm103
 obtain ⟨r117,hr117,hm118⟩:=ltx hm116
 rcases r117 with ra119 | ⟨rn120,ro121⟩
 ·have hm122:=sm_l hm118
  refine c_reg ?_
  refine r_mv z (r_mv z ?_)
  refine r_u (o_not z) (r_mv z ?_)
  refine r_s (s_y z z (nbt h102) (o_mv z)) ?_
  refine r_s (s_y z z (nbt h102) (o_mv z)) ?_
  refine r_s (s_y z z (nbt h102) (o_mv z)) ?_
  refine r_s (s_y z z (nbt h102) (o_mv z)) ?_
  refine r_s (s_y z z (nbt h102) (o_ixO 6 Tryz.underlying98 (fun _=>by kernel_rfl) z z z hx80)) ?_
  refine r_s (s_y z z (nbt h102) (o_ldO0 6 sc9 z z hx80 z z)) ?_
  refine r_sw (s_yw z z (nbt h102) (o_call ca163 z (Av.ok b83 _ g74 _ _ _ hr110))) ?_
  rintro _ R _ _ ⟨g123,rfl,rfl,rfl⟩
  refine r_u (o_pt z (nbt h102) z) ?_
  refine rl_st (fun _ h=>mv5 h) ?_
  refine r_c (s_w (o_callL ca102 z (An.ok b0_ (⟨q57.2⟩:Aa) _ _ hr117) (fun _ _ _ h=>h))) ?_
  refine r_nil ?_
  obtain rfl:=si hm122
  exact x_sub (K101 _ z g123) ⟨z,z,z,z,z,z,z,z,trivial⟩ (pk 7 [0,1,6,2,3,4,5])
 have hm122:=sm_r hm118
 refine c_reg ?_
 refine r_mv z (r_mv z ?_)
 refine r_u (o_not z) (r_mv z ?_)
 refine r_s (s_y z z (nbt h102) (o_mv z)) ?_
 refine r_s (s_y z z (nbt h102) (o_mv z)) ?_
 refine r_s (s_y z z (nbt h102) (o_mv z)) ?_
 refine r_s (s_y z z (nbt h102) (o_mv z)) ?_
 refine r_s (s_y z z (nbt h102) (o_ixO 6 Tryz.underlying98 (fun _=>by kernel_rfl) z z z hx80)) ?_
 refine r_s (s_y z z (nbt h102) (o_ldO0 6 sc9 z z hx80 z z)) ?_
 refine r_sw (s_yw z z (nbt h102) (o_call ca163 z (Av.ok b83 _ g74 _ _ _ hr110))) ?_
 rintro _ R _ _ ⟨g128,rfl,rfl,rfl⟩
 refine r_u (o_pt z (nbt h102) z) ?_
 refine rl_st (fun _ h=>mv5 h) ?_
 obtain rfl:=si hm122
 try dsimp only at hm100
 obtain rfl:=si hm100
 try dsimp only at hm68
 obtain rfl:=si hm68
 try dsimp only at hm48
 obtain rfl:=si hm48
 try dsimp only at hm29
 obtain rfl:=si hm29
 exact r_sw (s_w (o_callR ca102 z (An.ok b0_ (⟨q57.2⟩:Aa) _ _ hr117) (by rintro _ _ _ ⟨rfl,rfl⟩;exact (px_st (pk 7 [0]) (px_of le_ (.inr ⟨_,z,_,z,z,z⟩)))))) (fun _ _ _ _ h=>h.elim)
def AB(a0:Ab):Int :=
 (a0.free.length:Int)
theorem AB.ok{G R F}(b0_:Nat)(a0:Ab)(g0_:Ab.G)(r:Int)(hm:AB a0=r):CO Tryz.prog 203 [pt b0_ 0] G R (Bk b0_ 237 (Ab.k a0 g0_)::OwS true 240 4 Aq.c g0_.slots a0.slots::OwS true 3 1 eI g0_.free a0.free::OwM vS vI g0_.at_ a0.at_::OwS true 3 1 eI g0_.many a0.many::F)
  (Ret fun u R' L'=>u=vI r∧R'=R∧L'=Bk b0_ 237 (Ab.k a0 g0_)::OwS true 240 4 Aq.c g0_.slots a0.slots::OwS true 3 1 eI g0_.free a0.free::OwM vS vI g0_.at_ a0.at_::OwS true 3 1 eI g0_.many a0.many::F):=by
 unfold AB at hm
 refine co_ofN (N:=10) Tryz.func203 z z ?_
 refine csr ?_
 refine r_as z ?_
 refine nssr ?_
 refine r_mv z (r_bin z z (bP_eqp Tryz.underlying191) ?_)
 refine nsq ?_
 refine c_ff z ?_
 refine c_skip (x_seq (csr ?_))
 refine r_mv z (r_nc z (r_fa fa237_2 z (r_ld 0 sc234 z z z (r_u (o_lenO 2 Tryz.underlying234 z z) (r_as z ?_)))))
 refine r_nil (x_seq (c_ret ?_))
 subst hm
 exact x_r1 z (rv_t z) le_ ⟨_,z,z,z,z⟩
def AJ(a0:Ab):Int :=
 a0.lists
theorem AJ.ok{G R F}(b0_:Nat)(a0:Ab)(g0_:Ab.G)(r:Int)(hm:AJ a0=r):CO Tryz.prog 204 [pt b0_ 0] G R (Bk b0_ 237 (Ab.k a0 g0_)::OwS true 240 4 Aq.c g0_.slots a0.slots::OwS true 3 1 eI g0_.free a0.free::OwM vS vI g0_.at_ a0.at_::OwS true 3 1 eI g0_.many a0.many::F)
  (Ret fun u R' L'=>u=vI r∧R'=R∧L'=Bk b0_ 237 (Ab.k a0 g0_)::OwS true 240 4 Aq.c g0_.slots a0.slots::OwS true 3 1 eI g0_.free a0.free::OwM vS vI g0_.at_ a0.at_::OwS true 3 1 eI g0_.many a0.many::F):=by
 unfold AJ at hm
 refine co_ofN (N:=9) Tryz.func204 z z ?_
 refine csr ?_
 refine r_as z ?_
 refine nssr ?_
 refine r_mv z (r_bin z z (bP_eqp Tryz.underlying191) ?_)
 refine nsq ?_
 refine c_ff z ?_
 refine c_skip (x_seq (csr ?_))
 refine r_mv z (r_nc z (r_fa fa237_0 z (r_ld 0 sc3 z z z (r_as z ?_))))
 refine r_nil (x_seq (c_ret ?_))
 subst hm
 exact x_r1 z (rv_t z) le_ ⟨_,z,z,z,z⟩
def BI(x29:Ab):Nat→Int→Int→(List Int)→Option (Int×List Int)
 | 0,_,_,_=>none
 | k66+1,all_63,s_64,c_65=>if decide (s_64<4) then (Ar x29 s_64).bind fun r71=>if 0≤s_64∧s_64<4 then BI x29 k66 (i64 (all_63+(at4 s_64 (pk4 s_64 0 r71 (c_65.getD 0 default)) (pk4 s_64 1 r71 (c_65.getD 1 default)) (pk4 s_64 2 r71 (c_65.getD 2 default)) (pk4 s_64 3 r71 (c_65.getD 3 default))))) (i64 (s_64+1)) [(pk4 s_64 0 r71 (c_65.getD 0 default)),(pk4 s_64 1 r71 (c_65.getD 1 default)),(pk4 s_64 2 r71 (c_65.getD 2 default)),(pk4 s_64 3 r71 (c_65.getD 3 default))] else none else some (all_63,c_65)
def C7(a0:Aa):Option ((Option Ai×Aa)⊕(Int×Aa)) :=
 (Aj a0 1000).bind fun r0=>sm r0 (fun (ra2:UInt64×Aa)=>lt (An ra2.2 (decide (1≤(i64 (ra2.1.toNat:Int))))) fun r7=>sm r7 (fun (ra9:Unit)=>(Aj ra2.2 (toW (i64 (ra2.1.toNat:Int)))).bind fun r13=>sm r13 (fun (ra15:UInt64×Aa)=>(CJ ra15.2).bind fun r19=>sm r19 (fun (ra21:Option Ab×Aa)=>om ra21.1 (none) fun x29=>Option.bind (BI x29 5 (AB x29) 0 [0,0,0,0]) fun p37=>if (((p37.1==(i64 ((i64 (2*(i64 (ra2.1.toNat:Int))))+1)))&&decide ((i64 ((p37.2.getD 0 default)+(p37.2.getD 1 default)))≤(i64 (ra2.1.toNat:Int))))&&decide ((i64 ((p37.2.getD 0 default)+(p37.2.getD 2 default)))≤(i64 (ra2.1.toNat:Int)))) then if decide ((i64 (p37.1-(AB x29)))≤(i64 (2*(i64 (ra2.1.toNat:Int))))) then lt (An ra21.2 ((AJ x29)==4)) fun r45=>sm r45 (fun (ra47:Unit)=>some (Sum.inl ((some (⟨i64 (ra2.1.toNat:Int),i64 (ra15.1.toNat:Int),(some x29)⟩:Ai)),ra21.2))) fun ((rn48,ro49):Int×Unit)=>some (Sum.inr (rn48,ra21.2)) else lt (An ra21.2 false) fun r51=>sm r51 (fun (ra53:Unit)=>some (Sum.inl ((some (⟨i64 (ra2.1.toNat:Int),i64 (ra15.1.toNat:Int),(some x29)⟩:Ai)),ra21.2))) fun ((rn54,ro55):Int×Unit)=>some (Sum.inr (rn54,ra21.2)) else lt (An ra21.2 false) fun r57=>sm r57 (fun (ra59:Unit)=>some (Sum.inl ((some (⟨i64 (ra2.1.toNat:Int),i64 (ra15.1.toNat:Int),(some x29)⟩:Ai)),ra21.2))) fun ((rn60,ro61):Int×Unit)=>some (Sum.inr (rn60,ra21.2))) fun ((rn22,ro23):Int×Aa)=>some (Sum.inr (rn22,ro23))) fun ((rn16,ro17):Int×Aa)=>some (Sum.inr (rn16,ro17))) fun ((rn10,ro11):Int×Unit)=>some (Sum.inr (rn10,ra2.2))) fun ((rn3,ro4):Int×Aa)=>some (Sum.inr (rn3,ro4))
theorem C7.ok{G R F}(b0_:Nat)(a0:Aa)(r:(Option Ai×Aa)⊕(Int×Aa))(hm:C7 a0=some r):CO Tryz.prog 155 [pt b0_ 0] G R (Bk b0_ 177 (Aa.c a0)::F)
  (PK 175 r (fun (a:Option Ai×Aa) u R' L'=>∃(p0:Value×Ai.G),u=p0.1∧R'=R∧L'=rO (Ai.op p0.2) p0.1 a.1::Bk b0_ 177 (Aa.c a.2)::F) (fun n (o:Aa) R' L'=>R'=R∧L'=Bk b0_ 177 (Aa.c o)::F)):=by
 unfold C7 at hm
 refine co_ofN (N:=116) Tryz.func155 z z ?_
 refine csr ?_
 refine r_as z ?_
 refine r_nil (x_seq (c_seq ?_))
 obtain ⟨r0,hr0,hm1⟩:=bs hm
 rcases r0 with ra2 | ⟨rn3,ro4⟩
 rotate_left
 ·have hm5:=sm_r hm1
  refine c_reg ?_
  refine r_mv z ?_
  obtain rfl:=si hm5
  exact r_sw (s_w (o_callR ca101 z (Aj.ok b0_ a0 1000 _ hr0) (by rintro _ _ _ ⟨rfl,rfl⟩;exact (px_st (pk 1 [0]) (px_of le_ (.inr ⟨_,z,_,z,z,z⟩)))))) (fun _ _ _ _ h=>h.elim)
 have hm5:=sm_l hm1
 refine c_reg ?_
 refine r_mv z ?_
 refine r_c (s_w (o_callL ca101 z (Aj.ok b0_ a0 1000 _ hr0) (fun _ _ _ h=>h))) ?_
 refine r_u (o_cv z (cWI Tryz.underlying22 Tryz.underlying3 ra2.1)) ?_
 refine r_u (o_bld [vI (i64 (ra2.1.toNat:Int)),vI 0,nl] z (fun _=>by kernel_rfl)) ?_
 refine r_new (o_bx [vI (i64 (ra2.1.toNat:Int)),vI 0,nl] z z) fun b6 => ?_
 refine r_as z ?_
 refine r_nil (x_seq (c_seq ?_))
 obtain ⟨r7,hr7,hm8⟩:=ltx hm5
 rcases r7 with ra9 | ⟨rn10,ro11⟩
 rotate_left
 ·have hm12:=sm_r hm8
  refine c_reg ?_
  refine r_mv z (r_mv z (r_nc z (r_fa fa193_0 z (r_ld 0 sc3 z z z (r_bin z z (bI_ge _ 1) ?_)))))
  refine rl_st (fun _ h=>mv1 h) ?_
  obtain rfl:=si hm12
  exact r_sw (s_w (o_callR ca102 z (An.ok b0_ _ _ _ hr7) (by rintro _ _ _ ⟨rfl,rfl⟩;exact (px_st (pk 2 [0]) (px_of le_ (.inr ⟨_,z,_,z,z,z⟩)))))) (fun _ _ _ _ h=>h.elim)
 have hm12:=sm_l hm8
 refine c_reg ?_
 refine r_mv z (r_mv z (r_nc z (r_fa fa193_0 z (r_ld 0 sc3 z z z (r_bin z z (bI_ge _ 1) ?_)))))
 refine rl_st (fun _ h=>mv1 h) ?_
 refine r_c (s_w (o_callL ca102 z (An.ok b0_ _ _ _ hr7) (fun _ _ _ h=>h))) ?_
 refine r_nil (x_seq (c_seq ?_))
 obtain ⟨r13,hr13,hm14⟩:=bs hm12
 rcases r13 with ra15 | ⟨rn16,ro17⟩
 rotate_left
 ·have hm18:=sm_r hm14
  refine c_reg ?_
  refine r_mv z (r_mv z (r_mv z (r_nc z (r_fa fa193_0 z (r_ld 1 sc3 z z z (r_u (o_cv z (cIW Tryz.underlying3 Tryz.underlying22 (i64 (ra2.1.toNat:Int)))) ?_))))))
  obtain rfl:=si hm18
  exact r_sw (s_w (o_callR ca101 z (Aj.ok b0_ _ _ _ hr13) (by rintro _ _ _ ⟨rfl,rfl⟩;exact (px_st (pk 2 [0]) (px_of le_ (.inr ⟨_,z,_,z,z,z⟩)))))) (fun _ _ _ _ h=>h.elim)
 have hm18:=sm_l hm14
 refine c_reg ?_
 refine r_mv z (r_mv z (r_mv z (r_nc z (r_fa fa193_0 z (r_ld 1 sc3 z z z (r_u (o_cv z (cIW Tryz.underlying3 Tryz.underlying22 (i64 (ra2.1.toNat:Int)))) ?_))))))
 refine r_c (s_w (o_callL ca101 z (Aj.ok b0_ _ _ _ hr13) (fun _ _ _ h=>h))) ?_
 refine r_u (o_cv z (cWI Tryz.underlying22 Tryz.underlying3 ra15.1)) (r_nc z (r_fa fa193_1 z ?_))
 refine rl_st (fun _ h=>mv1 h) ?_
 refine r_u0 (o_st sc3 z z z z z z) ?_
 refine r_nil (x_seq (c_seq ?_))
 obtain ⟨r19,hr19,hm20⟩:=bs hm18
 rcases r19 with ra21 | ⟨rn22,ro23⟩
 rotate_left
 ·have hm24:=sm_r hm20
  refine c_reg ?_
  refine r_mv z (r_mv z ?_)
  refine rl_st (fun _ h=>mv1 h) ?_
  obtain rfl:=si hm24
  exact r_sw (s_w (o_callR ca202 z (CJ.ok b0_ _ _ hr19) (by rintro _ _ _ ⟨rfl,rfl⟩;exact (px_st (pk 2 [0]) (px_of le_ (.inr ⟨_,z,_,z,z,z⟩)))))) (fun _ _ _ _ h=>h.elim)
 have hm24:=sm_l hm20
 refine c_reg ?_
 refine r_mv z (r_mv z ?_)
 refine rl_st (fun _ h=>mv1 h) ?_
 refine r_sw (s_w (o_callL ca202 z (CJ.ok b0_ _ _ hr19) (fun _ _ _ h=>h))) ?_
 rintro pv26 R _ _ ⟨⟨_,g27⟩,rfl,rfl,rfl⟩
 refine r_nc z (r_fa fa193_2 z ?_)
 refine rl_st (fun _ h=>mv2 h) ?_
 refine r_u0 (ou_if (one_p 1 z) fun ho0=>o_st sc191 z z z ho0 z z) ?_
 refine nsr ?_
 refine r_u (o_bld [vI 0,vI 0,vI 0,vI 0] z (fun _=>by kernel_rfl)) ?_
 refine r_new (o_al ze273) fun b28 => ?_
 refine r_u0 (o_stn ag273 z z z z z z z) ?_
 refine r_nil (x_seq (c_seq ?_))
 refine cd_st (fun _ h=>mv2 h) ?_
 refine cd_opt (fun ho31 => ?_) (fun x29 b30 ho31 => ?_)
 ·rintro rfl
  have hm32:=om_n hm24 ho31
  cases hm32
 rintro rfl
 have hm32:=om_s hm24 ho31
 refine cd_st (fun _ h=>st_star_o h) ?_
 refine c_reg ?_
 refine r_mv z (r_nc z (r_fa fa193_2 z (r_ld 6 sc191 z z z ?_)))
 refine r_c (s_w (o_call ca203 z (AB.ok b30 x29 g27 _ z))) ?_
 refine r_as z ?_
 refine nssr ?_
 refine r_mv z ?_
 refine nsq ?_
 obtain ⟨p37,hp38,hm39⟩:=bs hm32
 refine cd_join (E':=[(0,pt b0_ 0),(3,pt b6 0),(4,pt b28 0),(5,vI p37.1)]) (L':=Bk b30 237 (Ab.k x29 g27)::Bk b28 273 [vI (p37.2.getD 0 default),vI (p37.2.getD 1 default),vI (p37.2.getD 2 default),vI (p37.2.getD 3 default)]::Bk b6 193 [vI (i64 (ra2.1.toNat:Int)),vI (i64 (ra15.1.toNat:Int)),pt b30 0]::Bk b0_ 177 (Aa.c ra21.2)::OwS true 240 4 Aq.c g27.slots x29.slots::OwS true 3 1 eI g27.free x29.free::OwM vS vI g27.at_ x29.at_::OwS true 3 1 eI g27.many x29.many::F) ?_ fun K40 => ?_
 rotate_left
 ·refine c_blk ?_
  refine cd_loop (M:=fun k66 (s:Int×Int×List Int)=>BI x29 k66 s.1 s.2.1 s.2.2=some p37) (Ef:=fun (s:Int×Int×List Int)=>[(0,pt b0_ 0),(3,pt b6 0),(4,pt b28 0),(5,vI s.1),(41,vI s.2.1)]) (Lf:=fun (s:Int×Int×List Int)=>Bk b30 237 (Ab.k x29 g27)::Bk b28 273 [vI (s.2.2.getD 0 default),vI (s.2.2.getD 1 default),vI (s.2.2.getD 2 default),vI (s.2.2.getD 3 default)]::Bk b6 193 [vI (i64 (ra2.1.toNat:Int)),vI (i64 (ra15.1.toNat:Int)),pt b30 0]::Bk b0_ 177 (Aa.c ra21.2)::OwS true 240 4 Aq.c g27.slots x29.slots::OwS true 3 1 eI g27.free x29.free::OwM vS vI g27.at_ x29.at_::OwS true 3 1 eI g27.many x29.many::F) 5 ((AB x29),0,[0,0,0,0]) hp38 ⟨z,z,z,z,z,trivial⟩ (pk 8 [0,5,6,7,1,2,3,4]) (fun _ h=>by cases h) fun k66 s hM68 => ?_
  obtain ⟨all_63,s_64,c_65⟩:=s
  have hm67:BI x29 (k66+1) all_63 s_64 c_65=some p37:=hM68
  rw [BI] at hm67
  refine csr ?_
  refine r_bin z z (bI_lt _ 4) ?_
  refine r_nil (x_seq (c_seq ?_))
  refine c_if (b:=decide (s_64<4)) z (fun h69 => ?_) fun h69 => ?_
  rotate_left
  ·have hm70:=iff_ hm67 h69
   refine c_exit (x_exit (ks':=_) z ?_)
   obtain rfl:=si hm70
   exact x_sub K40 ⟨z,z,z,z,trivial⟩ (pk 8 [0,1,2,3,4,5,6,7])
  have hm70:=ift hm67 h69
  refine c_skip (x_seq (c_seq (c_blk (csr ?_))))
  refine r_mv z (r_as z ?_)
  refine nsr ?_
  refine r_mv z (r_mv z (r_nc z (r_fa fa193_2 z (r_ld 2 sc191 z z z (r_mv z ?_)))))
  obtain ⟨r71,hr71,hm72⟩:=bs hm70
  refine rl_st (fun _ h=>mv4 (mv7 (mv7 (mv7 (mv7 h))))) ?_
  refine r_c (s_w (o_call ca164 z (Ar.ok b30 _ g27 _ _ hr71))) ?_
  obtain ⟨h73,hm74⟩:=ig hm72
  refine r_u (o_ixA (sz:=1) Tryz.underlying273 (fun _=>by kernel_rfl) z z h73) ?_
  refine rl_st (fun _ h=>mv5 h) ?_
  refine r_u0 (o_stV4 sc3 z z z h73) ?_
  refine r_nil (x_seq (c_reg ?_))
  refine r_mv z (r_mv z ?_)
  refine r_u (o_ixA (sz:=1) Tryz.underlying273 (fun _=>by kernel_rfl) z z h73) ?_
  refine r_u (o_ldV4 0 sc3 z z h73) (r_bin z z (bI_add _ _) (r_as z ?_))
  refine r_nil (x_blk (x_seq (c_reg ?_)))
  refine r_bin z z (bI_add _ 1) (r_mv z ?_)
  refine r_nil ?_
  exact x_lp (i64 (all_63+(at4 s_64 (pk4 s_64 0 r71 (c_65.getD 0 default)) (pk4 s_64 1 r71 (c_65.getD 1 default)) (pk4 s_64 2 r71 (c_65.getD 2 default)) (pk4 s_64 3 r71 (c_65.getD 3 default)))),i64 (s_64+1),[(pk4 s_64 0 r71 (c_65.getD 0 default)),(pk4 s_64 1 r71 (c_65.getD 1 default)),(pk4 s_64 2 r71 (c_65.getD 2 default)),(pk4 s_64 3 r71 (c_65.getD 3 default))]) hm74 ⟨z,z,z,z,z,trivial⟩ (pk 8 [1,0,6,7,2,3,4,5])
 refine x_seq (c_seq ?_)
 refine cd_by (((p37.1==(i64 ((i64 (2*(i64 (ra2.1.toNat:Int))))+1)))&&decide ((i64 ((p37.2.getD 0 default)+(p37.2.getD 1 default)))≤(i64 (ra2.1.toNat:Int))))&&decide ((i64 ((p37.2.getD 0 default)+(p37.2.getD 2 default)))≤(i64 (ra2.1.toNat:Int)))) (fun h41 => ?_) fun h41 => ?_
 rotate_left
 ·have hm42:=iff_ hm39 h41
  obtain ⟨r57,hr57,hm58⟩:=ltx hm42
  rcases r57 with ra59 | ⟨rn60,ro61⟩
  rotate_left
  ·have hm62:=sm_r hm58
   refine c_any mixed (effs:=[56]) (V:=[]) ?_
   refine stage_st (fun _ h=>mv3 h) ?_
   refine stn mk6_ [0,1,2,3,4,5,6,7,8,9,10,11,12,13,14,15,16,17,18,19,20,21,22,23,24,25,26,27,28,29,30,31,32,33,34,35,36,37,38,39,40,41,42,43,44,45,46,47,48,49,50,51,52,53,54,55] [56] [_,_,_,_,_,_,_,_,_,_,_,_,_,_,_,_,_,_,_,_,_,_,_,_,_,_,_,_,_,_,_,_,_,_,_,_,_,_,_,_,_,_,_,_,_,_,_,_,_,_,_,_,_,_,_,_] (q_mv z z z (q_mv z z z (q_mv z z z (q_u z z (o_nc z) (q_fa z z fa193_0 z (q_ld z z 3 sc3 z z z (q_u z z (o_bin z z (bI_mul 2 _)) (q_u z z (o_bin z z (bI_add _ 1)) (q_u z z (o_bin z z (bI_eq _ _)) (q_mv z z z (qc z z (s_gt z z fun g=>o_ixA (sz:=1) (n:=4) (i:=0) Tryz.underlying273 (fun _=>by kernel_rfl) z z (by decide)) (qc z z (s_gt z z fun g=>o_ld 2 sc3 (evg z g) z z) (qc z z (s_gt z z fun g=>o_ixA (sz:=1) (n:=4) (i:=1) Tryz.underlying273 (fun _=>by kernel_rfl) z z (by decide)) (qc z z (s_gt z z fun g=>o_ld 2 sc3 (evg z g) z z) (qc z z (s_gt z z fun g=>o_bin (evg z g) (evg z g) (bI_add _ _)) (qc z z (s_gt z z fun g=>o_mv z) (qc z z (s_gt z z fun g=>o_nc (evg z g)) (qc z z (s_gt z z fun g=>o_fa fa193_0 (evg z g)) (qc z z (s_gt z z fun g=>o_ld 3 sc3 (evg z g) z z) (qc z z (s_gt z z fun g=>o_bin (evg z g) (evg z g) (bI_le _ _)) (q_u z z (o_and z z) (q_mv z z z (qc z z (s_gt z z fun g=>o_ixA (sz:=1) (n:=4) (i:=0) Tryz.underlying273 (fun _=>by kernel_rfl) z z (by decide)) (qc z z (s_gt z z fun g=>o_ld 2 sc3 (evg z g) z z) (qc z z (s_gt z z fun g=>o_ixA (sz:=1) (n:=4) (i:=2) Tryz.underlying273 (fun _=>by kernel_rfl) z z (by decide)) (qc z z (s_gt z z fun g=>o_ld 2 sc3 (evg z g) z z) (qc z z (s_gt z z fun g=>o_bin (evg z g) (evg z g) (bI_add _ _)) (qc z z (s_gt z z fun g=>o_mv z) (qc z z (s_gt z z fun g=>o_nc (evg z g)) (qc z z (s_gt z z fun g=>o_fa fa193_0 (evg z g)) (qc z z (s_gt z z fun g=>o_ld 3 sc3 (evg z g) z z) (qc z z (s_gt z z fun g=>o_bin (evg z g) (evg z g) (bI_le _ _)) (q_u z z (o_and z z) (q_mv z z z (q_n z z z z h41 (q_n z z z z h41 (q_n z z z z h41 (q_n z z z z h41 (q_n z z z z h41 (q_n z z z z h41 (q_n z z z z h41 (q_n z z z z h41 (q_n z z z z h41 (q_n z z z z h41 (q_n z z z z h41 (q_n z z z z h41 (q_n z z z z h41 (q_u z z (o_pf z h41 z) (q_mv z z z (q_n z z z z z (q_n z z z z z (q_n z z z z z (q_n z z z z z (q_n z z z z z (q_n z z z z z (q_u z z (o_pf z z z) qn)))))))))))))))))))))))))))))))))))))))))))))))))))))))) ?_ (nxt z)
   obtain rfl:=si hm62
   exact ec (eo_w z (s_w (o_callR ca102 z (An.ok b0_ _ _ _ hr57) (by rintro _ _ _ ⟨rfl,rfl⟩;exact (px_st (pk 8 [0]) (px_of le_ (.inr ⟨_,z,_,z,z,z⟩)))))) (fun _ _ _ _ h=>h.elim)) en
  have hm62:=sm_l hm58
  refine c_any mixed (effs:=[56]) (V:=[]) ?_
  refine stage_st (fun _ h=>mv3 h) ?_
  refine stn mk6_ [0,1,2,3,4,5,6,7,8,9,10,11,12,13,14,15,16,17,18,19,20,21,22,23,24,25,26,27,28,29,30,31,32,33,34,35,36,37,38,39,40,41,42,43,44,45,46,47,48,49,50,51,52,53,54,55] [56] [_,_,_,_,_,_,_,_,_,_,_,_,_,_,_,_,_,_,_,_,_,_,_,_,_,_,_,_,_,_,_,_,_,_,_,_,_,_,_,_,_,_,_,_,_,_,_,_,_,_,_,_,_,_,_,_] (q_mv z z z (q_mv z z z (q_mv z z z (q_u z z (o_nc z) (q_fa z z fa193_0 z (q_ld z z 3 sc3 z z z (q_u z z (o_bin z z (bI_mul 2 _)) (q_u z z (o_bin z z (bI_add _ 1)) (q_u z z (o_bin z z (bI_eq _ _)) (q_mv z z z (qc z z (s_gt z z fun g=>o_ixA (sz:=1) (n:=4) (i:=0) Tryz.underlying273 (fun _=>by kernel_rfl) z z (by decide)) (qc z z (s_gt z z fun g=>o_ld 2 sc3 (evg z g) z z) (qc z z (s_gt z z fun g=>o_ixA (sz:=1) (n:=4) (i:=1) Tryz.underlying273 (fun _=>by kernel_rfl) z z (by decide)) (qc z z (s_gt z z fun g=>o_ld 2 sc3 (evg z g) z z) (qc z z (s_gt z z fun g=>o_bin (evg z g) (evg z g) (bI_add _ _)) (qc z z (s_gt z z fun g=>o_mv z) (qc z z (s_gt z z fun g=>o_nc (evg z g)) (qc z z (s_gt z z fun g=>o_fa fa193_0 (evg z g)) (qc z z (s_gt z z fun g=>o_ld 3 sc3 (evg z g) z z) (qc z z (s_gt z z fun g=>o_bin (evg z g) (evg z g) (bI_le _ _)) (q_u z z (o_and z z) (q_mv z z z (qc z z (s_gt z z fun g=>o_ixA (sz:=1) (n:=4) (i:=0) Tryz.underlying273 (fun _=>by kernel_rfl) z z (by decide)) (qc z z (s_gt z z fun g=>o_ld 2 sc3 (evg z g) z z) (qc z z (s_gt z z fun g=>o_ixA (sz:=1) (n:=4) (i:=2) Tryz.underlying273 (fun _=>by kernel_rfl) z z (by decide)) (qc z z (s_gt z z fun g=>o_ld 2 sc3 (evg z g) z z) (qc z z (s_gt z z fun g=>o_bin (evg z g) (evg z g) (bI_add _ _)) (qc z z (s_gt z z fun g=>o_mv z) (qc z z (s_gt z z fun g=>o_nc (evg z g)) (qc z z (s_gt z z fun g=>o_fa fa193_0 (evg z g)) (qc z z (s_gt z z fun g=>o_ld 3 sc3 (evg z g) z z) (qc z z (s_gt z z fun g=>o_bin (evg z g) (evg z g) (bI_le _ _)) (q_u z z (o_and z z) (q_mv z z z (q_n z z z z h41 (q_n z z z z h41 (q_n z z z z h41 (q_n z z z z h41 (q_n z z z z h41 (q_n z z z z h41 (q_n z z z z h41 (q_n z z z z h41 (q_n z z z z h41 (q_n z z z z h41 (q_n z z z z h41 (q_n z z z z h41 (q_n z z z z h41 (q_u z z (o_pf z h41 z) (q_mv z z z (q_n z z z z z (q_n z z z z z (q_n z z z z z (q_n z z z z z (q_n z z z z z (q_n z z z z z (q_u z z (o_pf z z z) qn)))))))))))))))))))))))))))))))))))))))))))))))))))))))) ?_ (nxt z)
  refine ec (eo_c z (s_w (o_callL ca102 z (An.ok b0_ _ _ _ hr57) (fun _ _ _ h=>h))) ?_) en
  refine stage z z z z mk6_ [] [] z z z qn en ?_
  intro _
  refine ex_sub (E':=[(3,pt b6 0)]) ⟨z,trivial⟩ ?_
  refine x_seq (csr ?_)
  refine r_mv z (r_as z ?_)
  refine r_nil (x_seq (c_ret ?_))
  refine ex_st (fun _ h=>mv5 (mv7 (mv7 (mv7 (mv7 h))))) ?_
  refine ex_st (fun _ h=>st_some (f:=Ab.op g27) (a:=x29) (st_star_f (A:=Ab.fl b30 x29 g27) h)) ?_
  refine ex_st (fun _ h=>mv3 h) ?_
  refine ex_st (fun _ h=>st_some (f:=Ai.op (⟨(pt b30 0,g27)⟩:Ai.G)) (a:=(⟨i64 (ra2.1.toNat:Int),i64 (ra15.1.toNat:Int),(some x29)⟩:Ai)) (st_star_f (A:=Ai.fl b6 (⟨i64 (ra2.1.toNat:Int),i64 (ra15.1.toNat:Int),(some x29)⟩:Ai) (⟨(pt b30 0,g27)⟩:Ai.G)) h)) ?_
  obtain rfl:=si hm62
  refine ex_st (pk 3 [0,1]) ?_
  exact x_r1 z (rv_t z) le_ (.inl ⟨_,z,_,z,(pt b6 0,(⟨(pt b30 0,g27)⟩:Ai.G)),z,z,z⟩)
 have hm42:=ift hm39 h41
 refine cd_by (decide ((i64 (p37.1-(AB x29)))≤(i64 (2*(i64 (ra2.1.toNat:Int)))))) (fun h43 => ?_) fun h43 => ?_
 ·have hm44:=ift hm42 h43
  obtain ⟨r45,hr45,hm46⟩:=ltx hm44
  rcases r45 with ra47 | ⟨rn48,ro49⟩
  rotate_left
  ·have hm50:=sm_r hm46
   refine c_any mixed (effs:=[56]) (V:=[]) ?_
   refine stage_st (fun _ h=>mv3 h) ?_
   refine stn mk6_ [0,1,2,3,4,5,6,7,8,9,10,11,12,13,14,15,16,17,18,19,20,21,22,23,24,25,26,27,28,29,30,31,32,33,34,35,36,37,38,39,40,41,42,43,44,45,46,47,48,49,50,51,52,53,54,55] [56] [_,_,_,_,_,_,_,_,_,_,_,_,_,_,_,_,_,_,_,_,_,_,_,_,_,_,_,_,_,_,_,_,_,_,_,_,_,_,_,_,_,_,_,_,_,_,_,_,_,_,_,_,_,_,_,_] (q_mv z z z (q_mv z z z (q_mv z z z (q_u z z (o_nc z) (q_fa z z fa193_0 z (q_ld z z 3 sc3 z z z (q_u z z (o_bin z z (bI_mul 2 _)) (q_u z z (o_bin z z (bI_add _ 1)) (q_u z z (o_bin z z (bI_eq _ _)) (q_mv z z z (qc z z (s_gt z z fun g=>o_ixA (sz:=1) (n:=4) (i:=0) Tryz.underlying273 (fun _=>by kernel_rfl) z z (by decide)) (qc z z (s_gt z z fun g=>o_ld 2 sc3 (evg z g) z z) (qc z z (s_gt z z fun g=>o_ixA (sz:=1) (n:=4) (i:=1) Tryz.underlying273 (fun _=>by kernel_rfl) z z (by decide)) (qc z z (s_gt z z fun g=>o_ld 2 sc3 (evg z g) z z) (qc z z (s_gt z z fun g=>o_bin (evg z g) (evg z g) (bI_add _ _)) (qc z z (s_gt z z fun g=>o_mv z) (qc z z (s_gt z z fun g=>o_nc (evg z g)) (qc z z (s_gt z z fun g=>o_fa fa193_0 (evg z g)) (qc z z (s_gt z z fun g=>o_ld 3 sc3 (evg z g) z z) (qc z z (s_gt z z fun g=>o_bin (evg z g) (evg z g) (bI_le _ _)) (q_u z z (o_and z z) (q_mv z z z (qc z z (s_gt z z fun g=>o_ixA (sz:=1) (n:=4) (i:=0) Tryz.underlying273 (fun _=>by kernel_rfl) z z (by decide)) (qc z z (s_gt z z fun g=>o_ld 2 sc3 (evg z g) z z) (qc z z (s_gt z z fun g=>o_ixA (sz:=1) (n:=4) (i:=2) Tryz.underlying273 (fun _=>by kernel_rfl) z z (by decide)) (qc z z (s_gt z z fun g=>o_ld 2 sc3 (evg z g) z z) (qc z z (s_gt z z fun g=>o_bin (evg z g) (evg z g) (bI_add _ _)) (qc z z (s_gt z z fun g=>o_mv z) (qc z z (s_gt z z fun g=>o_nc (evg z g)) (qc z z (s_gt z z fun g=>o_fa fa193_0 (evg z g)) (qc z z (s_gt z z fun g=>o_ld 3 sc3 (evg z g) z z) (qc z z (s_gt z z fun g=>o_bin (evg z g) (evg z g) (bI_le _ _)) (q_u z z (o_and z z) (q_mv z z z (q_y z z z z h41 (o_mv z) (q_y z z z z h41 (o_mv z) (q_y z z z z h41 (o_nc z) (q_y z z z z h41 (o_fa fa193_2 z) (q_y z z z z h41 (o_ld 3 sc191 z z z) (q_y z z z z h41 (o_callqP ca203 z (AB.ok b30 x29 g27 _ z) (pk 8 [1,4,5,6,7,0,2,3]) (pk 8 [5,0,6,7,1,2,3,4])) (q_y z z z z h41 (o_bin z z (bI_sub _ _)) (q_y z z z z h41 (o_mv z) (q_y z z z z h41 (o_nc z) (q_y z z z z h41 (o_fa fa193_0 z) (q_y z z z z h41 (o_ld 3 sc3 z z z) (q_y z z z z h41 (o_bin z z (bI_mul 2 _)) (q_y z z z z h41 (o_bin z z (bI_le _ _)) (q_u z z (o_pt z h41 z) (q_mv z z z (q_y z z z z h43 (o_mv z) (q_y z z z z h43 (o_nc z) (q_y z z z z h43 (o_fa fa193_2 z) (q_y z z z z h43 (o_ld 3 sc191 z z z) (q_y z z z z h43 (o_callqP ca204 z (AJ.ok b30 x29 g27 _ z) (pk 8 [1,4,5,6,7,0,2,3]) (pk 8 [5,0,6,7,1,2,3,4])) (q_y z z z z h43 (o_bin z z (bI_eq _ 4)) (q_u z z (o_pt z h43 z) qn)))))))))))))))))))))))))))))))))))))))))))))))))))))))) ?_ (nxt z)
   obtain rfl:=si hm50
   exact ec (eo_w z (s_w (o_callR ca102 z (An.ok b0_ _ _ _ hr45) (by rintro _ _ _ ⟨rfl,rfl⟩;exact (px_st (pk 8 [0]) (px_of le_ (.inr ⟨_,z,_,z,z,z⟩)))))) (fun _ _ _ _ h=>h.elim)) en
  have hm50:=sm_l hm46
  refine c_any mixed (effs:=[56]) (V:=[]) ?_
  refine stage_st (fun _ h=>mv3 h) ?_
  refine stn mk6_ [0,1,2,3,4,5,6,7,8,9,10,11,12,13,14,15,16,17,18,19,20,21,22,23,24,25,26,27,28,29,30,31,32,33,34,35,36,37,38,39,40,41,42,43,44,45,46,47,48,49,50,51,52,53,54,55] [56] [_,_,_,_,_,_,_,_,_,_,_,_,_,_,_,_,_,_,_,_,_,_,_,_,_,_,_,_,_,_,_,_,_,_,_,_,_,_,_,_,_,_,_,_,_,_,_,_,_,_,_,_,_,_,_,_] (q_mv z z z (q_mv z z z (q_mv z z z (q_u z z (o_nc z) (q_fa z z fa193_0 z (q_ld z z 3 sc3 z z z (q_u z z (o_bin z z (bI_mul 2 _)) (q_u z z (o_bin z z (bI_add _ 1)) (q_u z z (o_bin z z (bI_eq _ _)) (q_mv z z z (qc z z (s_gt z z fun g=>o_ixA (sz:=1) (n:=4) (i:=0) Tryz.underlying273 (fun _=>by kernel_rfl) z z (by decide)) (qc z z (s_gt z z fun g=>o_ld 2 sc3 (evg z g) z z) (qc z z (s_gt z z fun g=>o_ixA (sz:=1) (n:=4) (i:=1) Tryz.underlying273 (fun _=>by kernel_rfl) z z (by decide)) (qc z z (s_gt z z fun g=>o_ld 2 sc3 (evg z g) z z) (qc z z (s_gt z z fun g=>o_bin (evg z g) (evg z g) (bI_add _ _)) (qc z z (s_gt z z fun g=>o_mv z) (qc z z (s_gt z z fun g=>o_nc (evg z g)) (qc z z (s_gt z z fun g=>o_fa fa193_0 (evg z g)) (qc z z (s_gt z z fun g=>o_ld 3 sc3 (evg z g) z z) (qc z z (s_gt z z fun g=>o_bin (evg z g) (evg z g) (bI_le _ _)) (q_u z z (o_and z z) (q_mv z z z (qc z z (s_gt z z fun g=>o_ixA (sz:=1) (n:=4) (i:=0) Tryz.underlying273 (fun _=>by kernel_rfl) z z (by decide)) (qc z z (s_gt z z fun g=>o_ld 2 sc3 (evg z g) z z) (qc z z (s_gt z z fun g=>o_ixA (sz:=1) (n:=4) (i:=2) Tryz.underlying273 (fun _=>by kernel_rfl) z z (by decide)) (qc z z (s_gt z z fun g=>o_ld 2 sc3 (evg z g) z z) (qc z z (s_gt z z fun g=>o_bin (evg z g) (evg z g) (bI_add _ _)) (qc z z (s_gt z z fun g=>o_mv z) (qc z z (s_gt z z fun g=>o_nc (evg z g)) (qc z z (s_gt z z fun g=>o_fa fa193_0 (evg z g)) (qc z z (s_gt z z fun g=>o_ld 3 sc3 (evg z g) z z) (qc z z (s_gt z z fun g=>o_bin (evg z g) (evg z g) (bI_le _ _)) (q_u z z (o_and z z) (q_mv z z z (q_y z z z z h41 (o_mv z) (q_y z z z z h41 (o_mv z) (q_y z z z z h41 (o_nc z) (q_y z z z z h41 (o_fa fa193_2 z) (q_y z z z z h41 (o_ld 3 sc191 z z z) (q_y z z z z h41 (o_callqP ca203 z (AB.ok b30 x29 g27 _ z) (pk 8 [1,4,5,6,7,0,2,3]) (pk 8 [5,0,6,7,1,2,3,4])) (q_y z z z z h41 (o_bin z z (bI_sub _ _)) (q_y z z z z h41 (o_mv z) (q_y z z z z h41 (o_nc z) (q_y z z z z h41 (o_fa fa193_0 z) (q_y z z z z h41 (o_ld 3 sc3 z z z) (q_y z z z z h41 (o_bin z z (bI_mul 2 _)) (q_y z z z z h41 (o_bin z z (bI_le _ _)) (q_u z z (o_pt z h41 z) (q_mv z z z (q_y z z z z h43 (o_mv z) (q_y z z z z h43 (o_nc z) (q_y z z z z h43 (o_fa fa193_2 z) (q_y z z z z h43 (o_ld 3 sc191 z z z) (q_y z z z z h43 (o_callqP ca204 z (AJ.ok b30 x29 g27 _ z) (pk 8 [1,4,5,6,7,0,2,3]) (pk 8 [5,0,6,7,1,2,3,4])) (q_y z z z z h43 (o_bin z z (bI_eq _ 4)) (q_u z z (o_pt z h43 z) qn)))))))))))))))))))))))))))))))))))))))))))))))))))))))) ?_ (nxt z)
  refine ec (eo_c z (s_w (o_callL ca102 z (An.ok b0_ _ _ _ hr45) (fun _ _ _ h=>h))) ?_) en
  refine stage z z z z mk6_ [] [] z z z qn en ?_
  intro _
  refine ex_sub (E':=[(3,pt b6 0)]) ⟨z,trivial⟩ ?_
  refine x_seq (csr ?_)
  refine r_mv z (r_as z ?_)
  refine r_nil (x_seq (c_ret ?_))
  refine ex_st (fun _ h=>mv5 (mv7 (mv7 (mv7 (mv7 h))))) ?_
  refine ex_st (fun _ h=>st_some (f:=Ab.op g27) (a:=x29) (st_star_f (A:=Ab.fl b30 x29 g27) h)) ?_
  refine ex_st (fun _ h=>mv3 h) ?_
  refine ex_st (fun _ h=>st_some (f:=Ai.op (⟨(pt b30 0,g27)⟩:Ai.G)) (a:=(⟨i64 (ra2.1.toNat:Int),i64 (ra15.1.toNat:Int),(some x29)⟩:Ai)) (st_star_f (A:=Ai.fl b6 (⟨i64 (ra2.1.toNat:Int),i64 (ra15.1.toNat:Int),(some x29)⟩:Ai) (⟨(pt b30 0,g27)⟩:Ai.G)) h)) ?_
  obtain rfl:=si hm50
  refine ex_st (pk 3 [0,1]) ?_
  exact x_r1 z (rv_t z) le_ (.inl ⟨_,z,_,z,(pt b6 0,(⟨(pt b30 0,g27)⟩:Ai.G)),z,z,z⟩)
 have hm44:=iff_ hm42 h43
 obtain ⟨r51,hr51,hm52⟩:=ltx hm44
 rcases r51 with ra53 | ⟨rn54,ro55⟩
 rotate_left
 ·have hm56:=sm_r hm52
  refine c_any mixed (effs:=[56]) (V:=[]) ?_
  refine stage_st (fun _ h=>mv3 h) ?_
  refine stn mk6_ [0,1,2,3,4,5,6,7,8,9,10,11,12,13,14,15,16,17,18,19,20,21,22,23,24,25,26,27,28,29,30,31,32,33,34,35,36,37,38,39,40,41,42,43,44,45,46,47,48,49,50,51,52,53,54,55] [56] [_,_,_,_,_,_,_,_,_,_,_,_,_,_,_,_,_,_,_,_,_,_,_,_,_,_,_,_,_,_,_,_,_,_,_,_,_,_,_,_,_,_,_,_,_,_,_,_,_,_,_,_,_,_,_,_] (q_mv z z z (q_mv z z z (q_mv z z z (q_u z z (o_nc z) (q_fa z z fa193_0 z (q_ld z z 3 sc3 z z z (q_u z z (o_bin z z (bI_mul 2 _)) (q_u z z (o_bin z z (bI_add _ 1)) (q_u z z (o_bin z z (bI_eq _ _)) (q_mv z z z (qc z z (s_gt z z fun g=>o_ixA (sz:=1) (n:=4) (i:=0) Tryz.underlying273 (fun _=>by kernel_rfl) z z (by decide)) (qc z z (s_gt z z fun g=>o_ld 2 sc3 (evg z g) z z) (qc z z (s_gt z z fun g=>o_ixA (sz:=1) (n:=4) (i:=1) Tryz.underlying273 (fun _=>by kernel_rfl) z z (by decide)) (qc z z (s_gt z z fun g=>o_ld 2 sc3 (evg z g) z z) (qc z z (s_gt z z fun g=>o_bin (evg z g) (evg z g) (bI_add _ _)) (qc z z (s_gt z z fun g=>o_mv z) (qc z z (s_gt z z fun g=>o_nc (evg z g)) (qc z z (s_gt z z fun g=>o_fa fa193_0 (evg z g)) (qc z z (s_gt z z fun g=>o_ld 3 sc3 (evg z g) z z) (qc z z (s_gt z z fun g=>o_bin (evg z g) (evg z g) (bI_le _ _)) (q_u z z (o_and z z) (q_mv z z z (qc z z (s_gt z z fun g=>o_ixA (sz:=1) (n:=4) (i:=0) Tryz.underlying273 (fun _=>by kernel_rfl) z z (by decide)) (qc z z (s_gt z z fun g=>o_ld 2 sc3 (evg z g) z z) (qc z z (s_gt z z fun g=>o_ixA (sz:=1) (n:=4) (i:=2) Tryz.underlying273 (fun _=>by kernel_rfl) z z (by decide)) (qc z z (s_gt z z fun g=>o_ld 2 sc3 (evg z g) z z) (qc z z (s_gt z z fun g=>o_bin (evg z g) (evg z g) (bI_add _ _)) (qc z z (s_gt z z fun g=>o_mv z) (qc z z (s_gt z z fun g=>o_nc (evg z g)) (qc z z (s_gt z z fun g=>o_fa fa193_0 (evg z g)) (qc z z (s_gt z z fun g=>o_ld 3 sc3 (evg z g) z z) (qc z z (s_gt z z fun g=>o_bin (evg z g) (evg z g) (bI_le _ _)) (q_u z z (o_and z z) (q_mv z z z (q_y z z z z h41 (o_mv z) (q_y z z z z h41 (o_mv z) (q_y z z z z h41 (o_nc z) (q_y z z z z h41 (o_fa fa193_2 z) (q_y z z z z h41 (o_ld 3 sc191 z z z) (q_y z z z z h41 (o_callqP ca203 z (AB.ok b30 x29 g27 _ z) (pk 8 [1,4,5,6,7,0,2,3]) (pk 8 [5,0,6,7,1,2,3,4])) (q_y z z z z h41 (o_bin z z (bI_sub _ _)) (q_y z z z z h41 (o_mv z) (q_y z z z z h41 (o_nc z) (q_y z z z z h41 (o_fa fa193_0 z) (q_y z z z z h41 (o_ld 3 sc3 z z z) (q_y z z z z h41 (o_bin z z (bI_mul 2 _)) (q_y z z z z h41 (o_bin z z (bI_le _ _)) (q_u z z (o_pt z h41 z) (q_mv z z z (q_n z z z z h43 (q_n z z z z h43 (q_n z z z z h43 (q_n z z z z h43 (q_n z z z z h43 (q_n z z z z h43 (q_u z z (o_pf z h43 z) qn)))))))))))))))))))))))))))))))))))))))))))))))))))))))) ?_ (nxt z)
  obtain rfl:=si hm56
  exact ec (eo_w z (s_w (o_callR ca102 z (An.ok b0_ _ _ _ hr51) (by rintro _ _ _ ⟨rfl,rfl⟩;exact (px_st (pk 8 [0]) (px_of le_ (.inr ⟨_,z,_,z,z,z⟩)))))) (fun _ _ _ _ h=>h.elim)) en
 have hm56:=sm_l hm52
 refine c_any mixed (effs:=[56]) (V:=[]) ?_
 refine stage_st (fun _ h=>mv3 h) ?_
 refine stn mk6_ [0,1,2,3,4,5,6,7,8,9,10,11,12,13,14,15,16,17,18,19,20,21,22,23,24,25,26,27,28,29,30,31,32,33,34,35,36,37,38,39,40,41,42,43,44,45,46,47,48,49,50,51,52,53,54,55] [56] [_,_,_,_,_,_,_,_,_,_,_,_,_,_,_,_,_,_,_,_,_,_,_,_,_,_,_,_,_,_,_,_,_,_,_,_,_,_,_,_,_,_,_,_,_,_,_,_,_,_,_,_,_,_,_,_] (q_mv z z z (q_mv z z z (q_mv z z z (q_u z z (o_nc z) (q_fa z z fa193_0 z (q_ld z z 3 sc3 z z z (q_u z z (o_bin z z (bI_mul 2 _)) (q_u z z (o_bin z z (bI_add _ 1)) (q_u z z (o_bin z z (bI_eq _ _)) (q_mv z z z (qc z z (s_gt z z fun g=>o_ixA (sz:=1) (n:=4) (i:=0) Tryz.underlying273 (fun _=>by kernel_rfl) z z (by decide)) (qc z z (s_gt z z fun g=>o_ld 2 sc3 (evg z g) z z) (qc z z (s_gt z z fun g=>o_ixA (sz:=1) (n:=4) (i:=1) Tryz.underlying273 (fun _=>by kernel_rfl) z z (by decide)) (qc z z (s_gt z z fun g=>o_ld 2 sc3 (evg z g) z z) (qc z z (s_gt z z fun g=>o_bin (evg z g) (evg z g) (bI_add _ _)) (qc z z (s_gt z z fun g=>o_mv z) (qc z z (s_gt z z fun g=>o_nc (evg z g)) (qc z z (s_gt z z fun g=>o_fa fa193_0 (evg z g)) (qc z z (s_gt z z fun g=>o_ld 3 sc3 (evg z g) z z) (qc z z (s_gt z z fun g=>o_bin (evg z g) (evg z g) (bI_le _ _)) (q_u z z (o_and z z) (q_mv z z z (qc z z (s_gt z z fun g=>o_ixA (sz:=1) (n:=4) (i:=0) Tryz.underlying273 (fun _=>by kernel_rfl) z z (by decide)) (qc z z (s_gt z z fun g=>o_ld 2 sc3 (evg z g) z z) (qc z z (s_gt z z fun g=>o_ixA (sz:=1) (n:=4) (i:=2) Tryz.underlying273 (fun _=>by kernel_rfl) z z (by decide)) (qc z z (s_gt z z fun g=>o_ld 2 sc3 (evg z g) z z) (qc z z (s_gt z z fun g=>o_bin (evg z g) (evg z g) (bI_add _ _)) (qc z z (s_gt z z fun g=>o_mv z) (qc z z (s_gt z z fun g=>o_nc (evg z g)) (qc z z (s_gt z z fun g=>o_fa fa193_0 (evg z g)) (qc z z (s_gt z z fun g=>o_ld 3 sc3 (evg z g) z z) (qc z z (s_gt z z fun g=>o_bin (evg z g) (evg z g) (bI_le _ _)) (q_u z z (o_and z z) (q_mv z z z (q_y z z z z h41 (o_mv z) (q_y z z z z h41 (o_mv z) (q_y z z z z h41 (o_nc z) (q_y z z z z h41 (o_fa fa193_2 z) (q_y z z z z h41 (o_ld 3 sc191 z z z) (q_y z z z z h41 (o_callqP ca203 z (AB.ok b30 x29 g27 _ z) (pk 8 [1,4,5,6,7,0,2,3]) (pk 8 [5,0,6,7,1,2,3,4])) (q_y z z z z h41 (o_bin z z (bI_sub _ _)) (q_y z z z z h41 (o_mv z) (q_y z z z z h41 (o_nc z) (q_y z z z z h41 (o_fa fa193_0 z) (q_y z z z z h41 (o_ld 3 sc3 z z z) (q_y z z z z h41 (o_bin z z (bI_mul 2 _)) (q_y z z z z h41 (o_bin z z (bI_le _ _)) (q_u z z (o_pt z h41 z) (q_mv z z z (q_n z z z z h43 (q_n z z z z h43 (q_n z z z z h43 (q_n z z z z h43 (q_n z z z z h43 (q_n z z z z h43 (q_u z z (o_pf z h43 z) qn)))))))))))))))))))))))))))))))))))))))))))))))))))))))) ?_ (nxt z)
 refine ec (eo_c z (s_w (o_callL ca102 z (An.ok b0_ _ _ _ hr51) (fun _ _ _ h=>h))) ?_) en
 refine stage z z z z mk6_ [] [] z z z qn en ?_
 intro _
 refine ex_sub (E':=[(3,pt b6 0)]) ⟨z,trivial⟩ ?_
 refine x_seq (csr ?_)
 refine r_mv z (r_as z ?_)
 refine r_nil (x_seq (c_ret ?_))
 refine ex_st (fun _ h=>mv5 (mv7 (mv7 (mv7 (mv7 h))))) ?_
 refine ex_st (fun _ h=>st_some (f:=Ab.op g27) (a:=x29) (st_star_f (A:=Ab.fl b30 x29 g27) h)) ?_
 refine ex_st (fun _ h=>mv3 h) ?_
 refine ex_st (fun _ h=>st_some (f:=Ai.op (⟨(pt b30 0,g27)⟩:Ai.G)) (a:=(⟨i64 (ra2.1.toNat:Int),i64 (ra15.1.toNat:Int),(some x29)⟩:Ai)) (st_star_f (A:=Ai.fl b6 (⟨i64 (ra2.1.toNat:Int),i64 (ra15.1.toNat:Int),(some x29)⟩:Ai) (⟨(pt b30 0,g27)⟩:Ai.G)) h)) ?_
 obtain rfl:=si hm56
 refine ex_st (pk 3 [0,1]) ?_
 exact x_r1 z (rv_t z) le_ (.inl ⟨_,z,_,z,(pt b6 0,(⟨(pt b30 0,g27)⟩:Ai.G)),z,z,z⟩)
def BW(a0:Aa):Option ((Bool×Aa)⊕(Int×Aa)) :=
 (AD a0 1).bind fun r0=>sm r0 (fun (ra2:Str×Aa)=>(gi ra2.1 0).bind fun c6=>if decide (1<c6) then lt (BD 6) fun r10=>sm r10 (fun (ra12:Unit)=>some (Sum.inl ((c6==1),ra2.2))) fun ((rn13,ro14):Int×Unit)=>some (Sum.inr (rn13,ra2.2)) else some (Sum.inl ((c6==1),ra2.2))) fun ((rn3,ro4):Int×Aa)=>some (Sum.inr (rn3,ro4))
theorem BW.ok{G R F}(b0_:Nat)(a0:Aa)(r:(Bool×Aa)⊕(Int×Aa))(hm:BW a0=some r):CO Tryz.prog 238 [pt b0_ 0] G R (Bk b0_ 177 (Aa.c a0)::F)
  (PK 175 r (fun (a:Bool×Aa) u R' L'=>u=vB a.1∧R'=R∧L'=Bk b0_ 177 (Aa.c a.2)::F) (fun n (o:Aa) R' L'=>R'=R∧L'=Bk b0_ 177 (Aa.c o)::F)):=by
 unfold BW at hm
 refine co_ofN (N:=12) Tryz.func238 z z ?_
 refine csr ?_
 refine r_as z ?_
 refine r_nil (x_seq (c_seq ?_))
 obtain ⟨r0,hr0,hm1⟩:=bs hm
 rcases r0 with ra2 | ⟨rn3,ro4⟩
 rotate_left
 ·have hm5:=sm_r hm1
  refine c_reg ?_
  refine r_mv z ?_
  obtain rfl:=si hm5
  exact r_sw (s_w (o_callR ca152 z (AD.ok b0_ a0 1 _ hr0) (by rintro _ _ _ ⟨rfl,rfl⟩;exact (px_st (pk 1 [0]) (px_of le_ (.inr ⟨_,z,_,z,z,z⟩)))))) (fun _ _ _ _ h=>h.elim)
 have hm5:=sm_l hm1
 refine c_reg ?_
 refine r_mv z ?_
 refine r_c (s_w (o_callL ca152 z (AD.ok b0_ a0 1 _ hr0) (fun _ _ _ h=>h))) ?_
 obtain ⟨c6,hc6,hm7⟩:=bs hm5
 refine r_u (o_ixS Tryz.underlying9 z z hc6) (r_as z ?_)
 refine nssr ?_
 refine r_mv z (r_bin z z (bY_gt c6 1) ?_)
 refine nsq ?_
 refine c_if (b:=decide (1<c6)) z (fun h8 => ?_) fun h8 => ?_
 rotate_left
 ·have hm9:=iff_ hm7 h8
  refine c_skip (x_seq (csr ?_))
  refine r_mv z (r_bin z z (bY_eq c6 1) (r_as z ?_))
  refine r_nil (x_seq (c_ret ?_))
  obtain rfl:=si hm9
  exact x_r1 z (rv_t z) le_ (.inl ⟨_,z,_,z,z,z,z⟩)
 have hm9:=ift hm7 h8
 obtain ⟨r10,hr10,hm11⟩:=ltx hm9
 rcases r10 with ra12 | ⟨rn13,ro14⟩
 ·have hm15:=sm_l hm11
  refine c_reg ?_
  refine r_c (s_w (o_callL ca153 z (BD.ok 6 _ hr10) (fun _ _ _ h=>h))) ?_
  refine nsr ?_
  refine r_mv z (r_bin z z (bY_eq c6 1) (r_as z ?_))
  refine r_nil (x_seq (c_ret ?_))
  obtain rfl:=si hm15
  exact x_r1 z (rv_t z) le_ (.inl ⟨_,z,_,z,z,z,z⟩)
 have hm15:=sm_r hm11
 refine c_reg ?_
 obtain rfl:=si hm15
 exact r_sw (s_w (o_callR ca153 z (BD.ok 6 _ hr10) (by rintro _ _ _ ⟨rfl,rfl⟩;exact (px_st (pk 1 [0]) (px_of le_ (.inr ⟨_,z,_,z,z,z⟩)))))) (fun _ _ _ _ h=>h.elim)
def B2(x29:Ae):Nat→Int→Str→(List Bool)→Option ((Str×List Bool)⊕((Option Ae×Aa)⊕(Int×Aa)))
 | 0,_,_,_=>none
 | k49+1,s_46,c_47,c_48=>if decide (s_46<(x29.door.length:Int)) then (BW (⟨c_47⟩:Aa)).bind fun r54=>sm r54 (fun (ra56:Bool×Aa)=>(gi c_48 s_46).bind fun x60=>B2 x29 k49 (i64 (s_46+1)) ra56.2.s (ls c_48 s_46 ra56.1)) fun ((rn57,ro58):Int×Aa)=>some (Sum.inr (Sum.inr (rn57,ro58))) else some (Sum.inl (c_47,c_48))
def Ch(ra79:Str×Aa)(y93:List UInt8):Nat→Int→Option (Unit⊕((List (List UInt8)×Str)⊕((List (List UInt8)×Str)⊕((Option Ae×Aa)⊕(Int×Aa)))))
 | 0,_=>none
 | k102+1,s_101=>if decide (s_101<(y93.length:Int)) then (gi y93 s_101).bind fun x107=>lt (An ra79.2 (decide (x107≤15))) fun r109=>sm r109 (fun (ra111:Unit)=>Ch ra79 y93 k102 (i64 (s_101+1))) fun ((rn112,ro113):Int×Unit)=>some (Sum.inr (Sum.inr (Sum.inr (Sum.inr (rn112,ra79.2))))) else some (Sum.inl ())
def BG(ra2:UInt64×Aa):Nat→Int→(List (List UInt8))→Str→Option ((List (List UInt8)×Str)⊕((Option Ae×Aa)⊕(Int×Aa)))
 | 0,_,_,_=>none
 | k66+1,s_62,c_63,c_64=>if decide (s_62<4) then Option.bind ((AD (⟨c_64⟩:Aa) (i64 (ra2.1.toNat:Int))).bind fun r77=>sm r77 (fun (ra79:Str×Aa)=>if ra79.1.length≤maxLen then (gi c_63 s_62).bind fun y86=>(gi (ls c_63 s_62 ra79.1) s_62).bind fun y93=>Option.bind (Ch ra79 y93 (((y93.length:Int)-0).toNat+1) 0) fun (p96:Unit⊕((List (List UInt8)×Str)⊕((List (List UInt8)×Str)⊕((Option Ae×Aa)⊕(Int×Aa)))))=>(match p96 with | Sum.inl q97=>some (Sum.inl (ls c_63 s_62 ra79.1,ra79.2.s)) | Sum.inr r=>some r) else none) fun ((rn80,ro81):Int×Aa)=>some (Sum.inr (Sum.inr (Sum.inr (rn80,ro81))))) fun (p71:(List (List UInt8)×Str)⊕((List (List UInt8)×Str)⊕((Option Ae×Aa)⊕(Int×Aa))))=>(match p71 with | Sum.inl q72=>BG ra2 k66 (i64 (s_62+1)) q72.1 q72.2 | Sum.inr r=>some r) else some (Sum.inl (c_63,c_64))
def Cj(a0:Aa):Option ((Option Ae×Aa)⊕(Int×Aa)) :=
 (Aj a0 4096).bind fun r0=>sm r0 (fun (ra2:UInt64×Aa)=>lt (An ra2.2 (decide (1≤(i64 (ra2.1.toNat:Int))))) fun r6=>sm r6 (fun (ra8:Unit)=>(Aj ra2.2 18446744073709551615).bind fun r12=>sm r12 (fun (ra14:UInt64×Aa)=>(Cl (i64 (ra2.1.toNat:Int)) ra14.1).bind fun r18=>(Aj ra14.2 ((toW (i64 (10*(i64 (ra2.1.toNat:Int)))))-1)).bind fun r23=>sm r23 (fun (ra25:UInt64×Aa)=>om r18.1 (none) fun x29=>Option.bind (BG ra2 5 0 x29.rows ra25.2.s) fun (p35:(List (List UInt8)×Str)⊕((Option Ae×Aa)⊕(Int×Aa)))=>(match p35 with | Sum.inl q36=>Option.bind (B2 x29 (((x29.door.length:Int)-0).toNat+1) 0 q36.2 x29.door) fun (p41:(Str×List Bool)⊕((Option Ae×Aa)⊕(Int×Aa)))=>(match p41 with | Sum.inl q42=>some (Sum.inl ((some (⟨x29.wide,x29.seed,q36.1,q42.2,i64 (ra25.1.toNat:Int)⟩:Ae)),(⟨q42.1⟩:Aa))) | Sum.inr r=>some r) | Sum.inr r=>some r)) fun ((rn26,ro27):Int×Aa)=>some (Sum.inr (rn26,ro27))) fun ((rn15,ro16):Int×Aa)=>some (Sum.inr (rn15,ro16))) fun ((rn9,ro10):Int×Unit)=>some (Sum.inr (rn9,ra2.2))) fun ((rn3,ro4):Int×Aa)=>some (Sum.inr (rn3,ro4))
theorem Cj.ok{G R F}(b0_:Nat)(a0:Aa)(r:(Option Ae×Aa)⊕(Int×Aa))(hm:Cj a0=some r):CO Tryz.prog 205 [pt b0_ 0] G R (Bk b0_ 177 (Aa.c a0)::F)
  (PK 175 r (fun (a:Option Ae×Aa) u R' L'=>∃(p0:Value×Ae.G),u=p0.1∧R'=R∧L'=rO (Ae.op p0.2) p0.1 a.1::Bk b0_ 177 (Aa.c a.2)::F) (fun n (o:Aa) R' L'=>R'=R∧L'=Bk b0_ 177 (Aa.c o)::F)):=by
 unfold Cj at hm
 refine co_ofN (N:=81) Tryz.func205 z z ?_
 refine csr ?_
 refine r_as z ?_
 refine r_nil (x_seq (c_seq ?_))
 obtain ⟨r0,hr0,hm1⟩:=bs hm
 rcases r0 with ra2 | ⟨rn3,ro4⟩
 rotate_left
 ·have hm5:=sm_r hm1
  refine c_reg ?_
  refine r_mv z ?_
  obtain rfl:=si hm5
  exact r_sw (s_w (o_callR ca101 z (Aj.ok b0_ a0 4096 _ hr0) (by rintro _ _ _ ⟨rfl,rfl⟩;exact (px_st (pk 1 [0]) (px_of le_ (.inr ⟨_,z,_,z,z,z⟩)))))) (fun _ _ _ _ h=>h.elim)
 have hm5:=sm_l hm1
 refine c_reg ?_
 refine r_mv z ?_
 refine r_c (s_w (o_callL ca101 z (Aj.ok b0_ a0 4096 _ hr0) (fun _ _ _ h=>h))) ?_
 refine r_u (o_cv z (cWI Tryz.underlying22 Tryz.underlying3 ra2.1)) (r_as z ?_)
 refine r_nil (x_seq (c_seq ?_))
 obtain ⟨r6,hr6,hm7⟩:=ltx hm5
 rcases r6 with ra8 | ⟨rn9,ro10⟩
 rotate_left
 ·have hm11:=sm_r hm7
  refine c_reg ?_
  refine r_mv z (r_mv z (r_bin z z (bI_ge _ 1) ?_))
  obtain rfl:=si hm11
  exact r_sw (s_w (o_callR ca102 z (An.ok b0_ _ _ _ hr6) (by rintro _ _ _ ⟨rfl,rfl⟩;exact (px_st (pk 1 [0]) (px_of le_ (.inr ⟨_,z,_,z,z,z⟩)))))) (fun _ _ _ _ h=>h.elim)
 have hm11:=sm_l hm7
 refine c_reg ?_
 refine r_mv z (r_mv z (r_bin z z (bI_ge _ 1) ?_))
 refine r_c (s_w (o_callL ca102 z (An.ok b0_ _ _ _ hr6) (fun _ _ _ h=>h))) ?_
 refine r_nil (x_seq (c_seq ?_))
 obtain ⟨r12,hr12,hm13⟩:=bs hm11
 rcases r12 with ra14 | ⟨rn15,ro16⟩
 rotate_left
 ·have hm17:=sm_r hm13
  refine c_reg ?_
  refine r_mv z (r_mv z ?_)
  obtain rfl:=si hm17
  exact r_sw (s_w (o_callR ca101 z (Aj.ok b0_ _ 18446744073709551615 _ hr12) (by rintro _ _ _ ⟨rfl,rfl⟩;exact (px_st (pk 1 [0]) (px_of le_ (.inr ⟨_,z,_,z,z,z⟩)))))) (fun _ _ _ _ h=>h.elim)
 have hm17:=sm_l hm13
 refine c_reg ?_
 refine r_mv z (r_mv z ?_)
 refine r_c (s_w (o_callL ca101 z (Aj.ok b0_ _ 18446744073709551615 _ hr12) (fun _ _ _ h=>h))) ?_
 obtain ⟨r18,hr18,hm22⟩:=bs hm17
 refine r_sw (s_w (o_call ca129 z (Cl.ok _ _ _ hr18))) ?_
 rintro _ R _ _ ⟨⟨pv20,g21⟩,rfl,rfl,rfl⟩
 refine r_mv z ?_
 refine r_ext z z ?_
 refine r_ext z z (r_as z (r_as z ?_))
 refine r_nil (x_seq (c_seq ?_))
 obtain ⟨r23,hr23,hm24⟩:=bs hm22
 rcases r23 with ra25 | ⟨rn26,ro27⟩
 rotate_left
 ·have hm28:=sm_r hm24
  refine c_reg ?_
  refine r_mv z (r_mv z (r_mv z (r_bin z z (bI_mul 10 _) (r_u (o_cv z (cIW Tryz.underlying3 Tryz.underlying22 (i64 (10*(i64 (ra2.1.toNat:Int)))))) (r_u (o_bin z z (bW_sub _ 1)) ?_)))))
  refine rl_st (fun _ h=>mv1 h) ?_
  obtain rfl:=si hm28
  exact r_sw (s_w (o_callR ca101 z (Aj.ok b0_ _ _ _ hr23) (by rintro _ _ _ ⟨rfl,rfl⟩;exact (px_st (pk 2 [0]) (px_of le_ (.inr ⟨_,z,_,z,z,z⟩)))))) (fun _ _ _ _ h=>h.elim)
 have hm28:=sm_l hm24
 refine cd_opt (fun ho31 => ?_) (fun x29 b30 ho31 => ?_)
 ·rintro rfl
  have hm32:=om_n hm28 ho31
  cases hm32
 rintro rfl
 have hm32:=om_s hm28 ho31
 refine cd_st (fun _ h=>st_star_o h) ?_
 refine c_reg ?_
 refine r_mv z (r_mv z (r_mv z (r_bin z z (bI_mul 10 _) (r_u (o_cv z (cIW Tryz.underlying3 Tryz.underlying22 (i64 (10*(i64 (ra2.1.toNat:Int)))))) (r_u (o_bin z z (bW_sub _ 1)) ?_)))))
 refine rl_st (fun _ h=>mv3 h) ?_
 refine r_c (s_w (o_callL ca101 z (Aj.ok b0_ _ _ _ hr23) (fun _ _ _ h=>h))) ?_
 refine r_u (o_cv z (cWI Tryz.underlying22 Tryz.underlying3 ra25.1)) (r_nc z (r_fa fa250_4 z ?_))
 refine rl_st (fun _ h=>mv1 h) ?_
 refine r_u0 (o_st sc3 z z z z z z) ?_
 refine nssr ?_
 refine r_mv z ?_
 refine nsq ?_
 obtain ⟨p35,hp38,hm39⟩:=bs hm32
 refine cd_cut (fun x ks=>∀(q36:List (List UInt8)×Str),∀(_:p35=Sum.inl q36),∀(g37:Value×Value×Value×Value),EX x .normal ks [(0,pt b0_ 0),(4,pt b30 0)] R (Bk b30 250 [vI x29.wide,vW x29.seed,g37.1,g37.2.1,g37.2.2.1,g37.2.2.2,g21.door,vI (i64 (ra25.1.toNat:Int))]::Bk b0_ 177 [vS q36.2]::OwS true 4 1 eB g21.door x29.door::OwL (OwS false 5 1 eY) [g37.1,g37.2.1,g37.2.2.1,g37.2.2.2] q36.1::F)) ?_ fun K40 => ?_
 ·intro q36 hq g37
  subst hq
  try dsimp only at hm39
  refine x_seq (c_seq (csr ?_))
  refine r_mv z (r_nc z (r_fa fa250_3 z (r_ld 0 sc68 z z z (r_u (o_lenO 2 Tryz.underlying68 z z) (r_mv z ?_)))))
  refine nsq ?_
  obtain ⟨p41,hp43,hm44⟩:=bs hm39
  refine cd_joinS (p:=p41) (Ef:=fun q42=>[(4,pt b30 0)]) (Lf:=fun q42=>Bk b30 250 [vI x29.wide,vW x29.seed,g37.1,g37.2.1,g37.2.2.1,g37.2.2.2,g21.door,vI (i64 (ra25.1.toNat:Int))]::Bk b0_ 177 [vS q42.1]::OwS true 4 1 eB g21.door q42.2::OwL (OwS false 5 1 eY) [g37.1,g37.2.1,g37.2.2.1,g37.2.2.2] q36.1::F) (fun q42 hq => ?_) fun K45 => ?_
  ·subst hq
   try dsimp only at hm44
   refine x_seq (csr ?_)
   refine r_mv z (r_as z ?_)
   refine r_nil (x_seq (c_ret ?_))
   refine ex_st (fun _ h=>mv2 (mv3 (mv2 h))) ?_
   refine ex_st (fun _ h=>st_some (f:=Ae.op (⟨g37,g21.door⟩:Ae.G)) (a:=(⟨x29.wide,x29.seed,q36.1,q42.2,i64 (ra25.1.toNat:Int)⟩:Ae)) (st_star_f (A:=Ae.fl b30 (⟨x29.wide,x29.seed,q36.1,q42.2,i64 (ra25.1.toNat:Int)⟩:Ae) (⟨g37,g21.door⟩:Ae.G)) h)) ?_
   obtain rfl:=si hm44
   exact x_r1 z (rv_t z) le_ (.inl ⟨_,z,_,z,(pt b30 0,(⟨g37,g21.door⟩:Ae.G)),z,z,z⟩)
  refine c_blk ?_
  refine cd_loop (M:=fun k49 (s:Int×Str×List Bool)=>B2 x29 k49 s.1 s.2.1 s.2.2=some p41) (Ef:=fun (s:Int×Str×List Bool)=>[(0,pt b0_ 0),(4,pt b30 0),(67,vI (x29.door.length:Int)),(68,vI s.1)]) (Lf:=fun (s:Int×Str×List Bool)=>Bk b30 250 [vI x29.wide,vW x29.seed,g37.1,g37.2.1,g37.2.2.1,g37.2.2.2,g21.door,vI (i64 (ra25.1.toNat:Int))]::Bk b0_ 177 [vS s.2.1]::OwS true 4 1 eB g21.door s.2.2::OwL (OwS false 5 1 eY) [g37.1,g37.2.1,g37.2.2.1,g37.2.2.2] q36.1::F) (((x29.door.length:Int)-0).toNat+1) (0,q36.2,x29.door) hp43 ⟨z,z,z,z,trivial⟩ (fun _ h=>h) (fun _ h=>by cases h) fun k49 s hM51 => ?_
  obtain ⟨s_46,c_47,c_48⟩:=s
  have hm50:B2 x29 (k49+1) s_46 c_47 c_48=some p41:=hM51
  rw [B2] at hm50
  refine csr ?_
  refine r_bin z z (bI_lt _ _) ?_
  refine r_nil (x_seq (c_seq ?_))
  refine c_if (b:=decide (s_46<(x29.door.length:Int))) z (fun h52 => ?_) fun h52 => ?_
  rotate_left
  ·have hm53:=iff_ hm50 h52
   refine c_exit (x_exit (ks':=_) z ?_)
   obtain rfl:=si hm53
   exact x_sub (K45 _ z) ⟨z,trivial⟩ (pk 4 [0,1,2,3])
  have hm53:=ift hm50 h52
  refine c_skip (x_seq (c_seq (c_blk (csr ?_))))
  refine r_mv z (r_as z ?_)
  refine nsq ?_
  obtain ⟨r54,hr54,hm55⟩:=bs hm53
  rcases r54 with ra56 | ⟨rn57,ro58⟩
  ·have hm59:=sm_l hm55
   obtain ⟨x60,hx60,hm61⟩:=bs hm59
   refine c_any mixed (effs:=[6,8]) (V:=[]) ?_
   refine stage_st (fun _ h=>mv1 h) ?_
   refine stn mk26_ [0,1,2,3,4,5] [6] [_,_,_,_,_,_] (q_mv z z z (q_u z z (o_nc z) (q_fa z z fa250_3 z (q_ld z z 1 sc68 z z z (q_mv z z z (q_mv z z z qn)))))) ?_ (nxt z)
   refine ec (eo_c z (s_w (o_callL ca238 z (BW.ok b0_ (⟨c_47⟩:Aa) _ hr54) (fun _ _ _ h=>h))) ?_) en
   refine stage_st (fun _ h=>mv2 h) ?_
   refine stx [7] mk26_ [0,1,2,3,4,7] [8] [_] (q_mv z z z (q_u z z (o_nc z) (q_fa z z fa250_3 z (q_ld z z 2 sc68 z z z (q_mv z z z (q_u z z (o_ixO 0 Tryz.underlying68 (fun _=>by kernel_rfl) z z z hx60) qn)))))) ?_ (nxt z)
   refine ec (eo_u z (s_u (o_stO0 (c':=ra56.1) sc4 z z z hx60 z z z)) le_ ?_) en
   refine stage z z z z mk26_ [] [] z z z qn en ?_
   intro _
   refine ex_sub (E':=[(0,pt b0_ 0),(4,pt b30 0),(67,vI (x29.door.length:Int)),(68,vI s_46)]) ⟨z,z,z,z,trivial⟩ ?_
   refine x_blk (x_seq (c_reg ?_))
   refine r_bin z z (bI_add _ 1) (r_mv z ?_)
   refine r_nil ?_
   exact x_lp (i64 (s_46+1),ra56.2.s,ls c_48 s_46 ra56.1) hm61 ⟨z,z,z,z,trivial⟩ (pk 4 [2,1,0,3])
  have hm59:=sm_r hm55
  refine c_any mixed (effs:=[6]) (V:=[]) ?_
  refine stage_st (fun _ h=>mv1 h) ?_
  refine stn mk26_ [0,1,2,3,4,5] [6] [_,_,_,_,_,_] (q_mv z z z (q_u z z (o_nc z) (q_fa z z fa250_3 z (q_ld z z 1 sc68 z z z (q_mv z z z (q_mv z z z qn)))))) ?_ (nxt z)
  obtain rfl:=si hm59
  try dsimp only at hm44
  obtain rfl:=si hm44
  exact ec (eo_w z (s_w (o_callR ca238 z (BW.ok b0_ (⟨c_47⟩:Aa) _ hr54) (by rintro _ _ _ ⟨rfl,rfl⟩;exact (px_st (pk 4 [0]) (px_of le_ (.inr ⟨_,z,_,z,z,z⟩)))))) (fun _ _ _ _ h=>h.elim)) en
 refine c_blk ?_
 refine cd_loopG (M:=fun k66 (s:Int×List (List UInt8)×Str×(Value×Value×Value×Value))=>BG ra2 k66 s.1 s.2.1 s.2.2.1=some p35) (Ef:=fun (s:Int×List (List UInt8)×Str×(Value×Value×Value×Value))=>[(0,pt b0_ 0),(3,vI (i64 (ra2.1.toNat:Int))),(4,pt b30 0),(34,vI s.1)]) (Rf:=fun (s:Int×List (List UInt8)×Str×(Value×Value×Value×Value))=>R) (Lf:=fun (s:Int×List (List UInt8)×Str×(Value×Value×Value×Value))=>Bk b30 250 [vI x29.wide,vW x29.seed,s.2.2.2.1,s.2.2.2.2.1,s.2.2.2.2.2.1,s.2.2.2.2.2.2,g21.door,vI (i64 (ra25.1.toNat:Int))]::Bk b0_ 177 [vS s.2.2.1]::OwS true 4 1 eB g21.door x29.door::OwL (OwS false 5 1 eY) [s.2.2.2.1,s.2.2.2.2.1,s.2.2.2.2.2.1,s.2.2.2.2.2.2] s.2.1::F) 5 (0,x29.rows,ra25.2.s,g21.rows) hp38 ⟨z,z,z,z,trivial⟩ (pk 4 [0,1,3,2]) (fun _ h=>by cases h) fun k66 s hM68 => ?_
 obtain ⟨s_62,c_63,c_64,g65⟩:=s
 have hm67:BG ra2 (k66+1) s_62 c_63 c_64=some p35:=hM68
 rw [BG] at hm67
 refine csr ?_
 refine r_bin z z (bI_lt _ 4) ?_
 refine r_nil (x_seq (c_seq ?_))
 refine c_if (b:=decide (s_62<4)) z (fun h69 => ?_) fun h69 => ?_
 rotate_left
 ·have hm70:=iff_ hm67 h69
  refine c_exit (x_exit (ks':=_) z ?_)
  obtain rfl:=si hm70
  exact x_sub (K40 _ z g65) ⟨z,z,trivial⟩ (pk 4 [0,1,2,3])
 have hm70:=ift hm67 h69
 refine c_skip (x_seq (c_seq ?_))
 obtain ⟨p71,hp74,hm75⟩:=bs hm70
 refine cd_cut (fun x ks=>∀(q72:List (List UInt8)×Str),∀(_:p71=Sum.inl q72),∀(g73:Value×Value×Value×Value),EX x .normal ks [(0,pt b0_ 0),(3,vI (i64 (ra2.1.toNat:Int))),(4,pt b30 0),(34,vI s_62)] R (Bk b30 250 [vI x29.wide,vW x29.seed,g73.1,g73.2.1,g73.2.2.1,g73.2.2.2,g21.door,vI (i64 (ra25.1.toNat:Int))]::Bk b0_ 177 [vS q72.2]::OwS true 4 1 eB g21.door x29.door::OwL (OwS false 5 1 eY) [g73.1,g73.2.1,g73.2.2.1,g73.2.2.2] q72.1::F)) ?_ fun K76 => ?_
 ·intro q72 hq g73
  subst hq
  try dsimp only at hm75
  refine x_seq (c_reg ?_)
  refine r_bin z z (bI_add _ 1) (r_mv z ?_)
  refine r_nil ?_
  exact x_lp (i64 (s_62+1),q72.1,q72.2,g73) hm75 ⟨z,z,z,z,trivial⟩ (pk 4 [0,1,2,3])
 refine c_blk (csr ?_)
 refine r_mv z (r_as z ?_)
 refine r_nil (x_seq (c_seq ?_))
 obtain ⟨r77,hr77,hm78⟩:=bs hp74
 rcases r77 with ra79 | ⟨rn80,ro81⟩
 rotate_left
 ·have hm82:=sm_r hm78
  refine c_any mixed (effs:=[4]) (V:=[]) ?_
  refine stage_st (fun _ h=>mv1 h) ?_
  refine stn mk0_ [0,1,2,3,6,7] [4] [_,_,_,_,_,_] (q_mv z z z (q_mv z z z (q_mv z z z (q_mv z z z (q_u z z (o_nc z) (q_fa z z fa250_2 z qn)))))) ?_ (nxt z)
  obtain rfl:=si hm82
  try dsimp only at hm75
  obtain rfl:=si hm75
  try dsimp only at hm39
  obtain rfl:=si hm39
  exact ec (eo_w z (s_w (o_callR ca152 z (AD.ok b0_ (⟨c_64⟩:Aa) _ _ hr77) (by rintro _ _ _ ⟨rfl,rfl⟩;exact (px_st (pk 4 [0]) (px_of le_ (.inr ⟨_,z,_,z,z,z⟩)))))) (fun _ _ _ _ h=>h.elim)) en
 have hm82:=sm_l hm78
 obtain ⟨h83,hm85⟩:=ig hm82
 obtain ⟨y86,hy86,hm88⟩:=bs hm85
 refine cd_ex (fun w h=>st_peek 3 hy86 z w h) fun u87 hu87 => ?_
 refine c_any mixed (effs:=[4,5,9]) (V:=[]) ?_
 refine stage_st (fun _ h=>mv1 h) ?_
 refine stn mk0_ [0,1,2,3,6,7] [4] [_,_,_,_,_,_] (q_mv z z z (q_mv z z z (q_mv z z z (q_mv z z z (q_u z z (o_nc z) (q_fa z z fa250_2 z qn)))))) ?_ (nxt z)
 refine ec (eo_c z (s_w (o_callL ca152 z (AD.ok b0_ (⟨c_64⟩:Aa) _ _ hr77) (fun _ _ _ h=>h))) ?_) en
 refine stage z z z z mk0_ [0,1,6,7] [5] z z z (q_mv z z z (q_mv z z z (q_u z z (o_nc z) (q_fa z z fa250_2 z qn)))) ?_ (nxt z)
 refine ec (eo_w z (s_w (o_sb Tryz.underlying9 Tryz.underlying131 Tryz.underlying5 z h83)) ?_) en
 rintro v84 R _ _ ⟨rfl,rfl⟩
 refine stage_st (fun _ h=>mv3 (mv4 h)) ?_
 refine stx [8] mk0_ [0,1,6,7,8] [9] [_] (q_mv z z z (q_mv z z z (q_u z z (o_nc z) (q_fa z z fa250_2 z (q_u z z (o_ixA (sz:=1) Tryz.underlying248 (fun _=>by kernel_rfl) z z (gi_some hu87).1) qn))))) ?_ (nxt z)
 refine ec (eo_w z (s_w (ow_if (one_o 2 z) fun ho=>o_stA4 (A:=[vI x29.wide,vW x29.seed]) (B:=[g21.door,vI (i64 (ra25.1.toNat:Int))]) hy86 hu87 sc131 z z z ho)) ?_) en
 rintro _ R _ _ ⟨p89,p90,p91,p92,rfl,rfl,rfl⟩
 refine stage z z z z mk0_ [] [] z z z qn en ?_
 intro _
 refine ex_sub (E':=[(0,pt b0_ 0),(3,vI (i64 (ra2.1.toNat:Int))),(4,pt b30 0),(34,vI s_62),(6,vI s_62)]) ⟨z,z,z,z,z,trivial⟩ ?_
 refine x_seq (csr ?_)
 refine r_mv z (r_mv z (r_nc z (r_fa fa250_2 z ?_)))
 obtain ⟨y93,hy93,hm95⟩:=bs hm88
 refine rl_ex (fun w h=>st_peek 1 hy93 z w h) fun u94 hu94 => ?_
 refine r_u (o_ixA (sz:=1) Tryz.underlying248 (fun _=>by kernel_rfl) z z (gi_some hu94).1) ?_
 refine r_u (o_ldA (o:=2) (n:=4) 0 sc131 z z hu94) ?_
 refine r_u (o_lenK (kn_in 1 z hu94 hy93) Tryz.underlying131 z) (r_mv z ?_)
 refine nsq ?_
 obtain ⟨p96,hp98,hm99⟩:=bs hm95
 refine cd_joinS (p:=p96) (Ef:=fun q97=>[(0,pt b0_ 0),(3,vI (i64 (ra2.1.toNat:Int))),(4,pt b30 0),(34,vI s_62)]) (Lf:=fun q97=>Bk b30 250 [vI x29.wide,vW x29.seed,p89,p90,p91,p92,g21.door,vI (i64 (ra25.1.toNat:Int))]::Bk b0_ 177 (Aa.c ra79.2)::OwL (OwS false 5 1 eY) [p89,p90,p91,p92] (ls c_63 s_62 ra79.1)::OwS true 4 1 eB g21.door x29.door::F) (fun q97 hq => ?_) fun K100 => ?_
 ·subst hq
  try dsimp only at hm99
  refine x_blk ?_
  obtain rfl:=si hm99
  exact x_sub (K76 _ z (p89,p90,p91,p92)) ⟨z,z,z,z,trivial⟩ (pk 4 [0,1,3,2])
 refine c_blk ?_
 refine cd_loop (M:=fun k102 (s_101:Int)=>Ch ra79 y93 k102 s_101=some p96) (Ef:=fun (s_101:Int)=>[(0,pt b0_ 0),(3,vI (i64 (ra2.1.toNat:Int))),(4,pt b30 0),(34,vI s_62),(51,u94),(52,vI (y93.length:Int)),(53,vI s_101)]) (Lf:=fun (s_101:Int)=>Bk b30 250 [vI x29.wide,vW x29.seed,p89,p90,p91,p92,g21.door,vI (i64 (ra25.1.toNat:Int))]::Bk b0_ 177 (Aa.c ra79.2)::OwL (OwS false 5 1 eY) [p89,p90,p91,p92] (ls c_63 s_62 ra79.1)::OwS true 4 1 eB g21.door x29.door::F) (((y93.length:Int)-0).toNat+1) 0 hp98 ⟨z,z,z,z,z,z,z,trivial⟩ (pk 4 [0,2,1,3]) (fun _ h=>by cases h) fun k102 s_101 hM104 => ?_
 have hm103:Ch ra79 y93 (k102+1) s_101=some p96:=hM104
 rw [Ch] at hm103
 refine csr ?_
 refine r_bin z z (bI_lt _ _) ?_
 refine r_nil (x_seq (c_seq ?_))
 refine c_if (b:=decide (s_101<(y93.length:Int))) z (fun h105 => ?_) fun h105 => ?_
 rotate_left
 ·have hm106:=iff_ hm103 h105
  refine c_exit (x_exit (ks':=_) z ?_)
  obtain rfl:=si hm106
  exact x_sub (K100 _ z) ⟨z,z,z,z,trivial⟩ (pk 4 [0,1,2,3])
 have hm106:=ift hm103 h105
 refine c_skip (x_seq (c_seq (c_blk (csr ?_))))
 obtain ⟨x107,hx107,hm108⟩:=bs hm106
 refine r_u (o_ixK (kn_in 2 z hu94 hy93) Tryz.underlying131 (fun _=>by kernel_rfl) z z hx107) ?_
 refine r_u (o_ldK (kn_in 2 z hu94 hy93) 0 sc5 z hx107 z z) (r_as z ?_)
 refine nsq ?_
 obtain ⟨r109,hr109,hm110⟩:=ltx hm108
 rcases r109 with ra111 | ⟨rn112,ro113⟩
 ·have hm114:=sm_l hm110
  refine c_reg ?_
  refine r_mv z (r_mv z (r_bin z z (bY_le _ 15) ?_))
  refine rl_st (fun _ h=>mv1 h) ?_
  refine r_c (s_w (o_callL ca102 z (An.ok b0_ _ _ _ hr109) (fun _ _ _ h=>h))) ?_
  refine r_nil (x_blk (x_seq (c_reg ?_)))
  refine r_bin z z (bI_add _ 1) (r_mv z ?_)
  refine r_nil ?_
  exact x_lp (i64 (s_101+1)) hm114 ⟨z,z,z,z,z,z,z,trivial⟩ (pk 4 [1,0,2,3])
 have hm114:=sm_r hm110
 refine c_reg ?_
 refine r_mv z (r_mv z (r_bin z z (bY_le _ 15) ?_))
 refine rl_st (fun _ h=>mv1 h) ?_
 obtain rfl:=si hm114
 try dsimp only at hm99
 obtain rfl:=si hm99
 try dsimp only at hm75
 obtain rfl:=si hm75
 try dsimp only at hm39
 obtain rfl:=si hm39
 exact r_sw (s_w (o_callR ca102 z (An.ok b0_ _ _ _ hr109) (by rintro _ _ _ ⟨rfl,rfl⟩;exact (px_st (pk 4 [0]) (px_of le_ (.inr ⟨_,z,_,z,z,z⟩)))))) (fun _ _ _ _ h=>h.elim)
def BX(a0:Ae):Int :=
 a0.wide
theorem BX.ok{G R F}(b0_:Nat)(a0:Ae)(g0_:Ae.G)(r:Int)(hm:BX a0=r):CO Tryz.prog 206 [pt b0_ 0] G R (Bk b0_ 250 (Ae.k a0 g0_)::OwL (OwS false 5 1 eY) [g0_.rows.1,g0_.rows.2.1,g0_.rows.2.2.1,g0_.rows.2.2.2] a0.rows::OwS true 4 1 eB g0_.door a0.door::F)
  (Ret fun u R' L'=>u=vI r∧R'=R∧L'=Bk b0_ 250 (Ae.k a0 g0_)::OwL (OwS false 5 1 eY) [g0_.rows.1,g0_.rows.2.1,g0_.rows.2.2.1,g0_.rows.2.2.2] a0.rows::OwS true 4 1 eB g0_.door a0.door::F):=by
 unfold BX at hm
 refine co_ofN (N:=9) Tryz.func206 z z ?_
 refine csr ?_
 refine r_as z ?_
 refine nssr ?_
 refine r_mv z (r_bin z z (bP_eqp Tryz.underlying194) ?_)
 refine nsq ?_
 refine c_ff z ?_
 refine c_skip (x_seq (csr ?_))
 refine r_mv z (r_nc z (r_fa fa250_0 z (r_ld 0 sc3 z z z (r_as z ?_))))
 refine r_nil (x_seq (c_ret ?_))
 subst hm
 exact x_r1 z (rv_t z) le_ ⟨_,z,z,z,z⟩
def C4(a0:Aa):Option ((Option Af×Aa)⊕(Int×Aa)) :=
 (Aj a0 1000).bind fun r0=>sm r0 (fun (ra2:UInt64×Aa)=>lt (An ra2.2 (decide (1≤(i64 (ra2.1.toNat:Int))))) fun r7=>sm r7 (fun (ra9:Unit)=>(Cj ra2.2).bind fun r13=>sm r13 (fun (ra15:Option Ae×Aa)=>om ra15.1 (none) fun x22=>lt (An ra15.2 ((BX x22)==(CT (i64 (ra2.1.toNat:Int))))) fun r28=>sm r28 (fun (ra30:Unit)=>(CJ ra15.2).bind fun r34=>sm r34 (fun (ra36:Option Ab×Aa)=>om ra36.1 (none) fun x44=>if ((AJ x44)==3) then (AG (⟨i64 (ra2.1.toNat:Int),(some x22),(some x44)⟩:Af)).bind fun r54=>if ((i64 ((AB x44)+r54))==(i64 ((i64 (ra2.1.toNat:Int))+1))) then if decide (r54≤(i64 (ra2.1.toNat:Int))) then (Ar x44 0).bind fun r60=>if decide (r60≤((Bl (i64 (ra2.1.toNat:Int))).Window)) then (Ar x44 2).bind fun r64=>lt (An ra36.2 (decide (r64≤((Bl (i64 (ra2.1.toNat:Int))).Protected)))) fun r66=>sm r66 (fun (ra68:Unit)=>some (Sum.inl ((some (⟨i64 (ra2.1.toNat:Int),(some x22),(some x44)⟩:Af)),ra36.2))) fun ((rn69,ro70):Int×Unit)=>some (Sum.inr (rn69,ra36.2)) else lt (An ra36.2 false) fun r72=>sm r72 (fun (ra74:Unit)=>some (Sum.inl ((some (⟨i64 (ra2.1.toNat:Int),(some x22),(some x44)⟩:Af)),ra36.2))) fun ((rn75,ro76):Int×Unit)=>some (Sum.inr (rn75,ra36.2)) else lt (An ra36.2 false) fun r78=>sm r78 (fun (ra80:Unit)=>some (Sum.inl ((some (⟨i64 (ra2.1.toNat:Int),(some x22),(some x44)⟩:Af)),ra36.2))) fun ((rn81,ro82):Int×Unit)=>some (Sum.inr (rn81,ra36.2)) else lt (An ra36.2 false) fun r84=>sm r84 (fun (ra86:Unit)=>some (Sum.inl ((some (⟨i64 (ra2.1.toNat:Int),(some x22),(some x44)⟩:Af)),ra36.2))) fun ((rn87,ro88):Int×Unit)=>some (Sum.inr (rn87,ra36.2)) else lt (An ra36.2 false) fun r90=>sm r90 (fun (ra92:Unit)=>some (Sum.inl ((some (⟨i64 (ra2.1.toNat:Int),(some x22),(some x44)⟩:Af)),ra36.2))) fun ((rn93,ro94):Int×Unit)=>some (Sum.inr (rn93,ra36.2))) fun ((rn37,ro38):Int×Aa)=>some (Sum.inr (rn37,ro38))) fun ((rn31,ro32):Int×Unit)=>some (Sum.inr (rn31,ra15.2))) fun ((rn16,ro17):Int×Aa)=>some (Sum.inr (rn16,ro17))) fun ((rn10,ro11):Int×Unit)=>some (Sum.inr (rn10,ra2.2))) fun ((rn3,ro4):Int×Aa)=>some (Sum.inr (rn3,ro4))
theorem C4.ok{G R F}(b0_:Nat)(a0:Aa)(r:(Option Af×Aa)⊕(Int×Aa))(hm:C4 a0=some r):CO Tryz.prog 156 [pt b0_ 0] G R (Bk b0_ 177 (Aa.c a0)::F)
  (PK 175 r (fun (a:Option Af×Aa) u R' L'=>∃(p0:Value×Af.G),u=p0.1∧R'=R∧L'=rO (Af.op p0.2) p0.1 a.1::Bk b0_ 177 (Aa.c a.2)::F) (fun n (o:Aa) R' L'=>R'=R∧L'=Bk b0_ 177 (Aa.c o)::F)):=by
 unfold C4 at hm
 refine co_ofN (N:=99) Tryz.func156 z z ?_
 refine csr ?_
 refine r_as z ?_
 refine r_nil (x_seq (c_seq ?_))
 obtain ⟨r0,hr0,hm1⟩:=bs hm
 rcases r0 with ra2 | ⟨rn3,ro4⟩
 rotate_left
 ·have hm5:=sm_r hm1
  refine c_reg ?_
  refine r_mv z ?_
  obtain rfl:=si hm5
  exact r_sw (s_w (o_callR ca101 z (Aj.ok b0_ a0 1000 _ hr0) (by rintro _ _ _ ⟨rfl,rfl⟩;exact (px_st (pk 1 [0]) (px_of le_ (.inr ⟨_,z,_,z,z,z⟩)))))) (fun _ _ _ _ h=>h.elim)
 have hm5:=sm_l hm1
 refine c_reg ?_
 refine r_mv z ?_
 refine r_c (s_w (o_callL ca101 z (Aj.ok b0_ a0 1000 _ hr0) (fun _ _ _ h=>h))) ?_
 refine r_u (o_cv z (cWI Tryz.underlying22 Tryz.underlying3 ra2.1)) ?_
 refine r_u (o_bld [vI (i64 (ra2.1.toNat:Int)),nl,nl] z (fun _=>by kernel_rfl)) ?_
 refine r_new (o_bx [vI (i64 (ra2.1.toNat:Int)),nl,nl] z z) fun b6 => ?_
 refine r_as z ?_
 refine r_nil (x_seq (c_seq ?_))
 obtain ⟨r7,hr7,hm8⟩:=ltx hm5
 rcases r7 with ra9 | ⟨rn10,ro11⟩
 rotate_left
 ·have hm12:=sm_r hm8
  refine c_reg ?_
  refine r_mv z (r_mv z (r_nc z (r_fa fa196_0 z (r_ld 0 sc3 z z z (r_bin z z (bI_ge _ 1) ?_)))))
  refine rl_st (fun _ h=>mv1 h) ?_
  obtain rfl:=si hm12
  exact r_sw (s_w (o_callR ca102 z (An.ok b0_ _ _ _ hr7) (by rintro _ _ _ ⟨rfl,rfl⟩;exact (px_st (pk 2 [0]) (px_of le_ (.inr ⟨_,z,_,z,z,z⟩)))))) (fun _ _ _ _ h=>h.elim)
 have hm12:=sm_l hm8
 refine c_reg ?_
 refine r_mv z (r_mv z (r_nc z (r_fa fa196_0 z (r_ld 0 sc3 z z z (r_bin z z (bI_ge _ 1) ?_)))))
 refine rl_st (fun _ h=>mv1 h) ?_
 refine r_c (s_w (o_callL ca102 z (An.ok b0_ _ _ _ hr7) (fun _ _ _ h=>h))) ?_
 refine r_nil (x_seq (c_seq ?_))
 obtain ⟨r13,hr13,hm14⟩:=bs hm12
 rcases r13 with ra15 | ⟨rn16,ro17⟩
 rotate_left
 ·have hm18:=sm_r hm14
  refine c_reg ?_
  refine r_mv z (r_mv z ?_)
  obtain rfl:=si hm18
  exact r_sw (s_w (o_callR ca205 z (Cj.ok b0_ _ _ hr13) (by rintro _ _ _ ⟨rfl,rfl⟩;exact (px_st (pk 2 [0]) (px_of le_ (.inr ⟨_,z,_,z,z,z⟩)))))) (fun _ _ _ _ h=>h.elim)
 have hm18:=sm_l hm14
 refine c_reg ?_
 refine r_mv z (r_mv z ?_)
 refine r_sw (s_w (o_callL ca205 z (Cj.ok b0_ _ _ hr13) (fun _ _ _ h=>h))) ?_
 rintro pv20 R _ _ ⟨⟨_,g21⟩,rfl,rfl,rfl⟩
 refine r_nc z (r_fa fa196_1 z ?_)
 refine rl_st (fun _ h=>mv2 h) ?_
 refine r_u0 (ou_if (one_p 1 z) fun ho0=>o_st sc194 z z z ho0 z z) ?_
 refine r_nil (x_seq (c_seq ?_))
 refine cd_st (fun _ h=>mv1 h) ?_
 refine cd_opt (fun ho24 => ?_) (fun x22 b23 ho24 => ?_)
 ·rintro rfl
  have hm25:=om_n hm18 ho24
  cases hm25
 rintro rfl
 have hm25:=om_s hm18 ho24
 refine cd_st (fun _ h=>st_star_o h) ?_
 obtain ⟨r28,hr28,hm29⟩:=ltx hm25
 rcases r28 with ra30 | ⟨rn31,ro32⟩
 rotate_left
 ·have hm33:=sm_r hm29
  refine c_any mixed (effs:=[12]) (V:=[]) ?_
  refine stage_st (fun _ h=>mv4 h) ?_
  refine stn mk14_ [0,1,2,3,4,5,6,7,8,9,10,11] [12] [_,_,_,_,_,_,_,_,_,_,_,_] (q_mv z z z (q_mv z z z (q_u z z (o_nc z) (q_fa z z fa196_1 z (q_ld z z 4 sc194 z z z (q_u z z (o_callqP ca206 z (BX.ok b23 x22 g21 _ z) (pk 5 [1,2,3,0,4]) (pk 5 [3,0,1,2,4])) (q_mv z z z (q_u z z (o_nc z) (q_fa z z fa196_0 z (q_ld z z 4 sc3 z z z (q_u z z (o_callq ca130 z (CT.ok (i64 (ra2.1.toNat:Int)) _ z)) (q_u z z (o_bin z z (bI_eq _ _)) qn)))))))))))) ?_ (nxt z)
  obtain rfl:=si hm33
  exact ec (eo_w z (s_w (o_callR ca102 z (An.ok b0_ _ _ _ hr28) (by rintro _ _ _ ⟨rfl,rfl⟩;exact (px_st (pk 5 [0]) (px_of le_ (.inr ⟨_,z,_,z,z,z⟩)))))) (fun _ _ _ _ h=>h.elim)) en
 have hm33:=sm_l hm29
 refine c_any mixed (effs:=[12]) (V:=[]) ?_
 refine stage_st (fun _ h=>mv4 h) ?_
 refine stn mk14_ [0,1,2,3,4,5,6,7,8,9,10,11] [12] [_,_,_,_,_,_,_,_,_,_,_,_] (q_mv z z z (q_mv z z z (q_u z z (o_nc z) (q_fa z z fa196_1 z (q_ld z z 4 sc194 z z z (q_u z z (o_callqP ca206 z (BX.ok b23 x22 g21 _ z) (pk 5 [1,2,3,0,4]) (pk 5 [3,0,1,2,4])) (q_mv z z z (q_u z z (o_nc z) (q_fa z z fa196_0 z (q_ld z z 4 sc3 z z z (q_u z z (o_callq ca130 z (CT.ok (i64 (ra2.1.toNat:Int)) _ z)) (q_u z z (o_bin z z (bI_eq _ _)) qn)))))))))))) ?_ (nxt z)
 refine ec (eo_c z (s_w (o_callL ca102 z (An.ok b0_ _ _ _ hr28) (fun _ _ _ h=>h))) ?_) en
 refine stage z z z z mk14_ [] [] z z z qn en ?_
 intro _
 refine ex_sub (E':=[(0,pt b0_ 0),(3,pt b6 0)]) ⟨z,z,trivial⟩ ?_
 refine x_seq (c_seq ?_)
 obtain ⟨r34,hr34,hm35⟩:=bs hm33
 rcases r34 with ra36 | ⟨rn37,ro38⟩
 rotate_left
 ·have hm39:=sm_r hm35
  refine c_reg ?_
  refine r_mv z (r_mv z ?_)
  obtain rfl:=si hm39
  exact r_sw (s_w (o_callR ca202 z (CJ.ok b0_ _ _ hr34) (by rintro _ _ _ ⟨rfl,rfl⟩;exact (px_st (pk 5 [0]) (px_of le_ (.inr ⟨_,z,_,z,z,z⟩)))))) (fun _ _ _ _ h=>h.elim)
 have hm39:=sm_l hm35
 refine c_reg ?_
 refine r_mv z (r_mv z ?_)
 refine r_sw (s_w (o_callL ca202 z (CJ.ok b0_ _ _ hr34) (fun _ _ _ h=>h))) ?_
 rintro pv41 R _ _ ⟨⟨_,g42⟩,rfl,rfl,rfl⟩
 refine r_nc z (r_fa fa196_2 z ?_)
 refine rl_st (fun _ h=>mv5 h) ?_
 refine r_u0 (ou_if (one_p 1 z) fun ho0=>o_st sc191 z z z ho0 z z) ?_
 refine nsr ?_
 refine r_mv z (r_nc z (r_fa fa196_0 z (r_ld 0 sc3 z z z ?_)))
 refine r_u (o_callq ca165 z (Bl.ok (i64 (ra2.1.toNat:Int)) _ z)) ?_
 refine r_new (o_al ze243) fun b43 => ?_
 refine r_u0 (o_stn ag243 z z z z z z z) ?_
 refine r_nil (x_seq (c_seq ?_))
 refine cd_st (fun _ h=>mv2 h) ?_
 refine cd_opt (fun ho46 => ?_) (fun x44 b45 ho46 => ?_)
 ·rintro rfl
  have hm47:=om_n hm39 ho46
  cases hm47
 rintro rfl
 have hm47:=om_s hm39 ho46
 refine cd_st (fun _ h=>st_star_o h) ?_
 refine cd_by ((AJ x44)==3) (fun h52 => ?_) fun h52 => ?_
 rotate_left
 ·have hm53:=iff_ hm47 h52
  obtain ⟨r90,hr90,hm91⟩:=ltx hm53
  rcases r90 with ra92 | ⟨rn93,ro94⟩
  rotate_left
  ·have hm95:=sm_r hm91
   refine c_any mixed (effs:=[52]) (V:=[]) ?_
   refine stage_st (fun _ h=>mv7 h) ?_
   refine stn mk17_ [0,1,2,3,4,5,6,7,8,9,10,11,12,13,14,15,16,17,18,19,20,21,22,23,24,25,26,27,28,29,30,31,32,33,34,35,36,37,38,39,40,41,42,43,44,45,46,47,48,49,50,51] [52] [_,_,_,_,_,_,_,_,_,_,_,_,_,_,_,_,_,_,_,_,_,_,_,_,_,_,_,_,_,_,_,_,_,_,_,_,_,_,_,_,_,_,_,_,_,_,_,_,_,_,_,_] (q_mv z z z (q_mv z z z (q_u z z (o_nc z) (q_fa z z fa196_2 z (q_ld z z 7 sc191 z z z (q_u z z (o_callqP ca204 z (AJ.ok b45 x44 g42 _ z) (pk 11 [1,2,3,4,5,0,6,7,8,9,10]) (pk 11 [5,0,1,2,3,4,6,7,8,9,10])) (q_u z z (o_bin z z (bI_eq _ 3)) (q_mv z z z (q_n z z z z h52 (q_n z z z z h52 (q_n z z z z h52 (q_n z z z z h52 (q_n z z z z h52 (q_n z z z z h52 (q_n z z z z h52 (q_n z z z z h52 (q_n z z z z h52 (q_n z z z z h52 (q_n z z z z h52 (q_n z z z z h52 (q_n z z z z h52 (q_n z z z z h52 (q_u z z (o_pf z h52 z) (q_mv z z z (q_n z z z z z (q_n z z z z z (q_n z z z z z (q_n z z z z z (q_n z z z z z (q_n z z z z z (q_n z z z z z (q_u z z (o_pf z z z) (q_mv z z z (q_n z z z z z (q_n z z z z z (q_n z z z z z (q_n z z z z z (q_n z z z z z (q_n z z z z z (q_n z z z z z (q_n z z z z z (q_u z z (o_pf z z z) (q_mv z z z (q_n z z z z z (q_n z z z z z (q_n z z z z z (q_n z z z z z (q_n z z z z z (q_n z z z z z (q_n z z z z z (q_n z z z z z (q_u z z (o_pf z z z) qn)))))))))))))))))))))))))))))))))))))))))))))))))))) ?_ (nxt z)
   obtain rfl:=si hm95
   exact ec (eo_w z (s_w (o_callR ca102 z (An.ok b0_ _ _ _ hr90) (by rintro _ _ _ ⟨rfl,rfl⟩;exact (px_st (pk 11 [0]) (px_of le_ (.inr ⟨_,z,_,z,z,z⟩)))))) (fun _ _ _ _ h=>h.elim)) en
  have hm95:=sm_l hm91
  refine c_any mixed (effs:=[52]) (V:=[]) ?_
  refine stage_st (fun _ h=>mv7 h) ?_
  refine stn mk17_ [0,1,2,3,4,5,6,7,8,9,10,11,12,13,14,15,16,17,18,19,20,21,22,23,24,25,26,27,28,29,30,31,32,33,34,35,36,37,38,39,40,41,42,43,44,45,46,47,48,49,50,51] [52] [_,_,_,_,_,_,_,_,_,_,_,_,_,_,_,_,_,_,_,_,_,_,_,_,_,_,_,_,_,_,_,_,_,_,_,_,_,_,_,_,_,_,_,_,_,_,_,_,_,_,_,_] (q_mv z z z (q_mv z z z (q_u z z (o_nc z) (q_fa z z fa196_2 z (q_ld z z 7 sc191 z z z (q_u z z (o_callqP ca204 z (AJ.ok b45 x44 g42 _ z) (pk 11 [1,2,3,4,5,0,6,7,8,9,10]) (pk 11 [5,0,1,2,3,4,6,7,8,9,10])) (q_u z z (o_bin z z (bI_eq _ 3)) (q_mv z z z (q_n z z z z h52 (q_n z z z z h52 (q_n z z z z h52 (q_n z z z z h52 (q_n z z z z h52 (q_n z z z z h52 (q_n z z z z h52 (q_n z z z z h52 (q_n z z z z h52 (q_n z z z z h52 (q_n z z z z h52 (q_n z z z z h52 (q_n z z z z h52 (q_n z z z z h52 (q_u z z (o_pf z h52 z) (q_mv z z z (q_n z z z z z (q_n z z z z z (q_n z z z z z (q_n z z z z z (q_n z z z z z (q_n z z z z z (q_n z z z z z (q_u z z (o_pf z z z) (q_mv z z z (q_n z z z z z (q_n z z z z z (q_n z z z z z (q_n z z z z z (q_n z z z z z (q_n z z z z z (q_n z z z z z (q_n z z z z z (q_u z z (o_pf z z z) (q_mv z z z (q_n z z z z z (q_n z z z z z (q_n z z z z z (q_n z z z z z (q_n z z z z z (q_n z z z z z (q_n z z z z z (q_n z z z z z (q_u z z (o_pf z z z) qn)))))))))))))))))))))))))))))))))))))))))))))))))))) ?_ (nxt z)
  refine ec (eo_c z (s_w (o_callL ca102 z (An.ok b0_ _ _ _ hr90) (fun _ _ _ h=>h))) ?_) en
  refine stage z z z z mk17_ [] [] z z z qn en ?_
  intro _
  refine ex_sub (E':=[(3,pt b6 0)]) ⟨z,trivial⟩ ?_
  refine x_seq (csr ?_)
  refine r_mv z (r_as z ?_)
  refine r_nil (x_seq (c_ret ?_))
  refine ex_st (fun _ h=>mv10 (mv10 (mv10 h))) ?_
  refine ex_st (fun _ h=>st_some (f:=Ae.op g21) (a:=x22) (st_star_f (A:=Ae.fl b23 x22 g21) h)) ?_
  refine ex_st (fun _ h=>mv6 (mv6 (mv6 (mv6 (mv6 h))))) ?_
  refine ex_st (fun _ h=>st_some (f:=Ab.op g42) (a:=x44) (st_star_f (A:=Ab.fl b45 x44 g42) h)) ?_
  refine ex_st (fun _ h=>mv4 (mv1 h)) ?_
  refine ex_st (fun _ h=>st_some (f:=Af.op (⟨(pt b23 0,g21),(pt b45 0,g42)⟩:Af.G)) (a:=(⟨i64 (ra2.1.toNat:Int),(some x22),(some x44)⟩:Af)) (st_star_f (A:=Af.fl b6 (⟨i64 (ra2.1.toNat:Int),(some x22),(some x44)⟩:Af) (⟨(pt b23 0,g21),(pt b45 0,g42)⟩:Af.G)) h)) ?_
  obtain rfl:=si hm95
  refine ex_st (pk 3 [0,1]) ?_
  exact x_r1 z (rv_t z) le_ (.inl ⟨_,z,_,z,(pt b6 0,(⟨(pt b23 0,g21),(pt b45 0,g42)⟩:Af.G)),z,z,z⟩)
 have hm53:=ift hm47 h52
 obtain ⟨r54,hr54,hm55⟩:=bs hm53
 refine cd_by ((i64 ((AB x44)+r54))==(i64 ((i64 (ra2.1.toNat:Int))+1))) (fun h56 => ?_) fun h56 => ?_
 rotate_left
 ·have hm57:=iff_ hm55 h56
  obtain ⟨r84,hr84,hm85⟩:=ltx hm57
  rcases r84 with ra86 | ⟨rn87,ro88⟩
  rotate_left
  ·have hm89:=sm_r hm85
   refine c_any mixed (effs:=[52]) (V:=[]) ?_
   refine stage_st (fun _ h=>mv7 h) ?_
   refine stn mk17_ [0,1,2,3,4,5,6,7,8,9,10,11,12,13,14,15,16,17,18,19,20,21,22,23,24,25,26,27,28,29,30,31,32,33,34,35,36,37,38,39,40,41,42,43,44,45,46,47,48,49,50,51] [52] [_,_,_,_,_,_,_,_,_,_,_,_,_,_,_,_,_,_,_,_,_,_,_,_,_,_,_,_,_,_,_,_,_,_,_,_,_,_,_,_,_,_,_,_,_,_,_,_,_,_,_,_] (q_mv z z z (q_mv z z z (q_u z z (o_nc z) (q_fa z z fa196_2 z (q_ld z z 7 sc191 z z z (q_u z z (o_callqP ca204 z (AJ.ok b45 x44 g42 _ z) (pk 11 [1,2,3,4,5,0,6,7,8,9,10]) (pk 11 [5,0,1,2,3,4,6,7,8,9,10])) (q_u z z (o_bin z z (bI_eq _ 3)) (q_mv z z z (q_y z z z z h52 (o_mv z) (q_y z z z z h52 (o_nc z) (q_y z z z z h52 (o_fa fa196_2 z) (q_y z z z z h52 (o_ld 7 sc191 z z z) (q_y z z z z h52 (o_callqP ca203 z (AB.ok b45 x44 g42 _ z) (pk 11 [1,2,3,4,5,0,6,7,8,9,10]) (pk 11 [5,0,1,2,3,4,6,7,8,9,10])) (q_y z z z z h52 (o_mv z) (q_y z z z z h52 (o_callqP ca158 z (AG.ok b6 (⟨i64 (ra2.1.toNat:Int),(some x22),(some x44)⟩:Af) (⟨(pt b23 0,g21),(pt b45 0,g42)⟩:Af.G) _ hr54) (fun _ h=>mv4 (mv1 (st_some (f:=Ab.op g42) (a:=x44) (st_star_f (A:=Ab.fl b45 x44 g42) (mv6 (mv6 (mv6 (mv6 (mv6 (st_some (f:=Ae.op g21) (a:=x22) (st_star_f (A:=Ae.fl b23 x22 g21) (mv10 (mv10 (mv10 h)))))))))))))) (fun _ h=>st_pk 11 [9,0,1,2,3,4,10,8,5,6,7] (by decide) (st_star_o (st_some_o (mv4 (st_star_o (st_some_o (mv1 h)))))))) (q_y z z z z h52 (o_bin z z (bI_add _ _)) (q_y z z z z h52 (o_mv z) (q_y z z z z h52 (o_nc z) (q_y z z z z h52 (o_fa fa196_0 z) (q_y z z z z h52 (o_ld 7 sc3 z z z) (q_y z z z z h52 (o_bin z z (bI_add _ 1)) (q_y z z z z h52 (o_bin z z (bI_eq _ _)) (q_u z z (o_pt z h52 z) (q_mv z z z (q_n z z z z h56 (q_n z z z z h56 (q_n z z z z h56 (q_n z z z z h56 (q_n z z z z h56 (q_n z z z z h56 (q_n z z z z h56 (q_u z z (o_pf z h56 z) (q_mv z z z (q_n z z z z z (q_n z z z z z (q_n z z z z z (q_n z z z z z (q_n z z z z z (q_n z z z z z (q_n z z z z z (q_n z z z z z (q_u z z (o_pf z z z) (q_mv z z z (q_n z z z z z (q_n z z z z z (q_n z z z z z (q_n z z z z z (q_n z z z z z (q_n z z z z z (q_n z z z z z (q_n z z z z z (q_u z z (o_pf z z z) qn)))))))))))))))))))))))))))))))))))))))))))))))))))) ?_ (nxt z)
   obtain rfl:=si hm89
   exact ec (eo_w z (s_w (o_callR ca102 z (An.ok b0_ _ _ _ hr84) (by rintro _ _ _ ⟨rfl,rfl⟩;exact (px_st (pk 11 [0]) (px_of le_ (.inr ⟨_,z,_,z,z,z⟩)))))) (fun _ _ _ _ h=>h.elim)) en
  have hm89:=sm_l hm85
  refine c_any mixed (effs:=[52]) (V:=[]) ?_
  refine stage_st (fun _ h=>mv7 h) ?_
  refine stn mk17_ [0,1,2,3,4,5,6,7,8,9,10,11,12,13,14,15,16,17,18,19,20,21,22,23,24,25,26,27,28,29,30,31,32,33,34,35,36,37,38,39,40,41,42,43,44,45,46,47,48,49,50,51] [52] [_,_,_,_,_,_,_,_,_,_,_,_,_,_,_,_,_,_,_,_,_,_,_,_,_,_,_,_,_,_,_,_,_,_,_,_,_,_,_,_,_,_,_,_,_,_,_,_,_,_,_,_] (q_mv z z z (q_mv z z z (q_u z z (o_nc z) (q_fa z z fa196_2 z (q_ld z z 7 sc191 z z z (q_u z z (o_callqP ca204 z (AJ.ok b45 x44 g42 _ z) (pk 11 [1,2,3,4,5,0,6,7,8,9,10]) (pk 11 [5,0,1,2,3,4,6,7,8,9,10])) (q_u z z (o_bin z z (bI_eq _ 3)) (q_mv z z z (q_y z z z z h52 (o_mv z) (q_y z z z z h52 (o_nc z) (q_y z z z z h52 (o_fa fa196_2 z) (q_y z z z z h52 (o_ld 7 sc191 z z z) (q_y z z z z h52 (o_callqP ca203 z (AB.ok b45 x44 g42 _ z) (pk 11 [1,2,3,4,5,0,6,7,8,9,10]) (pk 11 [5,0,1,2,3,4,6,7,8,9,10])) (q_y z z z z h52 (o_mv z) (q_y z z z z h52 (o_callqP ca158 z (AG.ok b6 (⟨i64 (ra2.1.toNat:Int),(some x22),(some x44)⟩:Af) (⟨(pt b23 0,g21),(pt b45 0,g42)⟩:Af.G) _ hr54) (fun _ h=>mv4 (mv1 (st_some (f:=Ab.op g42) (a:=x44) (st_star_f (A:=Ab.fl b45 x44 g42) (mv6 (mv6 (mv6 (mv6 (mv6 (st_some (f:=Ae.op g21) (a:=x22) (st_star_f (A:=Ae.fl b23 x22 g21) (mv10 (mv10 (mv10 h)))))))))))))) (fun _ h=>st_pk 11 [9,0,1,2,3,4,10,8,5,6,7] (by decide) (st_star_o (st_some_o (mv4 (st_star_o (st_some_o (mv1 h)))))))) (q_y z z z z h52 (o_bin z z (bI_add _ _)) (q_y z z z z h52 (o_mv z) (q_y z z z z h52 (o_nc z) (q_y z z z z h52 (o_fa fa196_0 z) (q_y z z z z h52 (o_ld 7 sc3 z z z) (q_y z z z z h52 (o_bin z z (bI_add _ 1)) (q_y z z z z h52 (o_bin z z (bI_eq _ _)) (q_u z z (o_pt z h52 z) (q_mv z z z (q_n z z z z h56 (q_n z z z z h56 (q_n z z z z h56 (q_n z z z z h56 (q_n z z z z h56 (q_n z z z z h56 (q_n z z z z h56 (q_u z z (o_pf z h56 z) (q_mv z z z (q_n z z z z z (q_n z z z z z (q_n z z z z z (q_n z z z z z (q_n z z z z z (q_n z z z z z (q_n z z z z z (q_n z z z z z (q_u z z (o_pf z z z) (q_mv z z z (q_n z z z z z (q_n z z z z z (q_n z z z z z (q_n z z z z z (q_n z z z z z (q_n z z z z z (q_n z z z z z (q_n z z z z z (q_u z z (o_pf z z z) qn)))))))))))))))))))))))))))))))))))))))))))))))))))) ?_ (nxt z)
  refine ec (eo_c z (s_w (o_callL ca102 z (An.ok b0_ _ _ _ hr84) (fun _ _ _ h=>h))) ?_) en
  refine stage z z z z mk17_ [] [] z z z qn en ?_
  intro _
  refine ex_sub (E':=[(3,pt b6 0)]) ⟨z,trivial⟩ ?_
  refine x_seq (csr ?_)
  refine r_mv z (r_as z ?_)
  refine r_nil (x_seq (c_ret ?_))
  refine ex_st (fun _ h=>mv10 (mv10 (mv10 h))) ?_
  refine ex_st (fun _ h=>st_some (f:=Ae.op g21) (a:=x22) (st_star_f (A:=Ae.fl b23 x22 g21) h)) ?_
  refine ex_st (fun _ h=>mv6 (mv6 (mv6 (mv6 (mv6 h))))) ?_
  refine ex_st (fun _ h=>st_some (f:=Ab.op g42) (a:=x44) (st_star_f (A:=Ab.fl b45 x44 g42) h)) ?_
  refine ex_st (fun _ h=>mv4 (mv1 h)) ?_
  refine ex_st (fun _ h=>st_some (f:=Af.op (⟨(pt b23 0,g21),(pt b45 0,g42)⟩:Af.G)) (a:=(⟨i64 (ra2.1.toNat:Int),(some x22),(some x44)⟩:Af)) (st_star_f (A:=Af.fl b6 (⟨i64 (ra2.1.toNat:Int),(some x22),(some x44)⟩:Af) (⟨(pt b23 0,g21),(pt b45 0,g42)⟩:Af.G)) h)) ?_
  obtain rfl:=si hm89
  refine ex_st (pk 3 [0,1]) ?_
  exact x_r1 z (rv_t z) le_ (.inl ⟨_,z,_,z,(pt b6 0,(⟨(pt b23 0,g21),(pt b45 0,g42)⟩:Af.G)),z,z,z⟩)
 have hm57:=ift hm55 h56
 refine cd_by (decide (r54≤(i64 (ra2.1.toNat:Int)))) (fun h58 => ?_) fun h58 => ?_
 rotate_left
 ·have hm59:=iff_ hm57 h58
  obtain ⟨r78,hr78,hm79⟩:=ltx hm59
  rcases r78 with ra80 | ⟨rn81,ro82⟩
  rotate_left
  ·have hm83:=sm_r hm79
   refine c_any mixed (effs:=[52]) (V:=[]) ?_
   refine stage_st (fun _ h=>mv7 h) ?_
   refine stn mk17_ [0,1,2,3,4,5,6,7,8,9,10,11,12,13,14,15,16,17,18,19,20,21,22,23,24,25,26,27,28,29,30,31,32,33,34,35,36,37,38,39,40,41,42,43,44,45,46,47,48,49,50,51] [52] [_,_,_,_,_,_,_,_,_,_,_,_,_,_,_,_,_,_,_,_,_,_,_,_,_,_,_,_,_,_,_,_,_,_,_,_,_,_,_,_,_,_,_,_,_,_,_,_,_,_,_,_] (q_mv z z z (q_mv z z z (q_u z z (o_nc z) (q_fa z z fa196_2 z (q_ld z z 7 sc191 z z z (q_u z z (o_callqP ca204 z (AJ.ok b45 x44 g42 _ z) (pk 11 [1,2,3,4,5,0,6,7,8,9,10]) (pk 11 [5,0,1,2,3,4,6,7,8,9,10])) (q_u z z (o_bin z z (bI_eq _ 3)) (q_mv z z z (q_y z z z z h52 (o_mv z) (q_y z z z z h52 (o_nc z) (q_y z z z z h52 (o_fa fa196_2 z) (q_y z z z z h52 (o_ld 7 sc191 z z z) (q_y z z z z h52 (o_callqP ca203 z (AB.ok b45 x44 g42 _ z) (pk 11 [1,2,3,4,5,0,6,7,8,9,10]) (pk 11 [5,0,1,2,3,4,6,7,8,9,10])) (q_y z z z z h52 (o_mv z) (q_y z z z z h52 (o_callqP ca158 z (AG.ok b6 (⟨i64 (ra2.1.toNat:Int),(some x22),(some x44)⟩:Af) (⟨(pt b23 0,g21),(pt b45 0,g42)⟩:Af.G) _ hr54) (fun _ h=>mv4 (mv1 (st_some (f:=Ab.op g42) (a:=x44) (st_star_f (A:=Ab.fl b45 x44 g42) (mv6 (mv6 (mv6 (mv6 (mv6 (st_some (f:=Ae.op g21) (a:=x22) (st_star_f (A:=Ae.fl b23 x22 g21) (mv10 (mv10 (mv10 h)))))))))))))) (fun _ h=>st_pk 11 [9,0,1,2,3,4,10,8,5,6,7] (by decide) (st_star_o (st_some_o (mv4 (st_star_o (st_some_o (mv1 h)))))))) (q_y z z z z h52 (o_bin z z (bI_add _ _)) (q_y z z z z h52 (o_mv z) (q_y z z z z h52 (o_nc z) (q_y z z z z h52 (o_fa fa196_0 z) (q_y z z z z h52 (o_ld 7 sc3 z z z) (q_y z z z z h52 (o_bin z z (bI_add _ 1)) (q_y z z z z h52 (o_bin z z (bI_eq _ _)) (q_u z z (o_pt z h52 z) (q_mv z z z (q_y z z z z h56 (o_mv z) (q_y z z z z h56 (o_callqP ca158 z (AG.ok b6 (⟨i64 (ra2.1.toNat:Int),(some x22),(some x44)⟩:Af) (⟨(pt b23 0,g21),(pt b45 0,g42)⟩:Af.G) _ hr54) (fun _ h=>mv4 (mv1 (st_some (f:=Ab.op g42) (a:=x44) (st_star_f (A:=Ab.fl b45 x44 g42) (mv6 (mv6 (mv6 (mv6 (mv6 (st_some (f:=Ae.op g21) (a:=x22) (st_star_f (A:=Ae.fl b23 x22 g21) (mv10 (mv10 (mv10 h)))))))))))))) (fun _ h=>st_pk 11 [9,0,1,2,3,4,10,8,5,6,7] (by decide) (st_star_o (st_some_o (mv4 (st_star_o (st_some_o (mv1 h)))))))) (q_y z z z z h56 (o_mv z) (q_y z z z z h56 (o_nc z) (q_y z z z z h56 (o_fa fa196_0 z) (q_y z z z z h56 (o_ld 7 sc3 z z z) (q_y z z z z h56 (o_bin z z (bI_le _ _)) (q_u z z (o_pt z h56 z) (q_mv z z z (q_n z z z z h58 (q_n z z z z h58 (q_n z z z z h58 (q_n z z z z h58 (q_n z z z z h58 (q_n z z z z h58 (q_n z z z z h58 (q_n z z z z h58 (q_u z z (o_pf z h58 z) (q_mv z z z (q_n z z z z z (q_n z z z z z (q_n z z z z z (q_n z z z z z (q_n z z z z z (q_n z z z z z (q_n z z z z z (q_n z z z z z (q_u z z (o_pf z z z) qn)))))))))))))))))))))))))))))))))))))))))))))))))))) ?_ (nxt z)
   obtain rfl:=si hm83
   exact ec (eo_w z (s_w (o_callR ca102 z (An.ok b0_ _ _ _ hr78) (by rintro _ _ _ ⟨rfl,rfl⟩;exact (px_st (pk 11 [0]) (px_of le_ (.inr ⟨_,z,_,z,z,z⟩)))))) (fun _ _ _ _ h=>h.elim)) en
  have hm83:=sm_l hm79
  refine c_any mixed (effs:=[52]) (V:=[]) ?_
  refine stage_st (fun _ h=>mv7 h) ?_
  refine stn mk17_ [0,1,2,3,4,5,6,7,8,9,10,11,12,13,14,15,16,17,18,19,20,21,22,23,24,25,26,27,28,29,30,31,32,33,34,35,36,37,38,39,40,41,42,43,44,45,46,47,48,49,50,51] [52] [_,_,_,_,_,_,_,_,_,_,_,_,_,_,_,_,_,_,_,_,_,_,_,_,_,_,_,_,_,_,_,_,_,_,_,_,_,_,_,_,_,_,_,_,_,_,_,_,_,_,_,_] (q_mv z z z (q_mv z z z (q_u z z (o_nc z) (q_fa z z fa196_2 z (q_ld z z 7 sc191 z z z (q_u z z (o_callqP ca204 z (AJ.ok b45 x44 g42 _ z) (pk 11 [1,2,3,4,5,0,6,7,8,9,10]) (pk 11 [5,0,1,2,3,4,6,7,8,9,10])) (q_u z z (o_bin z z (bI_eq _ 3)) (q_mv z z z (q_y z z z z h52 (o_mv z) (q_y z z z z h52 (o_nc z) (q_y z z z z h52 (o_fa fa196_2 z) (q_y z z z z h52 (o_ld 7 sc191 z z z) (q_y z z z z h52 (o_callqP ca203 z (AB.ok b45 x44 g42 _ z) (pk 11 [1,2,3,4,5,0,6,7,8,9,10]) (pk 11 [5,0,1,2,3,4,6,7,8,9,10])) (q_y z z z z h52 (o_mv z) (q_y z z z z h52 (o_callqP ca158 z (AG.ok b6 (⟨i64 (ra2.1.toNat:Int),(some x22),(some x44)⟩:Af) (⟨(pt b23 0,g21),(pt b45 0,g42)⟩:Af.G) _ hr54) (fun _ h=>mv4 (mv1 (st_some (f:=Ab.op g42) (a:=x44) (st_star_f (A:=Ab.fl b45 x44 g42) (mv6 (mv6 (mv6 (mv6 (mv6 (st_some (f:=Ae.op g21) (a:=x22) (st_star_f (A:=Ae.fl b23 x22 g21) (mv10 (mv10 (mv10 h)))))))))))))) (fun _ h=>st_pk 11 [9,0,1,2,3,4,10,8,5,6,7] (by decide) (st_star_o (st_some_o (mv4 (st_star_o (st_some_o (mv1 h)))))))) (q_y z z z z h52 (o_bin z z (bI_add _ _)) (q_y z z z z h52 (o_mv z) (q_y z z z z h52 (o_nc z) (q_y z z z z h52 (o_fa fa196_0 z) (q_y z z z z h52 (o_ld 7 sc3 z z z) (q_y z z z z h52 (o_bin z z (bI_add _ 1)) (q_y z z z z h52 (o_bin z z (bI_eq _ _)) (q_u z z (o_pt z h52 z) (q_mv z z z (q_y z z z z h56 (o_mv z) (q_y z z z z h56 (o_callqP ca158 z (AG.ok b6 (⟨i64 (ra2.1.toNat:Int),(some x22),(some x44)⟩:Af) (⟨(pt b23 0,g21),(pt b45 0,g42)⟩:Af.G) _ hr54) (fun _ h=>mv4 (mv1 (st_some (f:=Ab.op g42) (a:=x44) (st_star_f (A:=Ab.fl b45 x44 g42) (mv6 (mv6 (mv6 (mv6 (mv6 (st_some (f:=Ae.op g21) (a:=x22) (st_star_f (A:=Ae.fl b23 x22 g21) (mv10 (mv10 (mv10 h)))))))))))))) (fun _ h=>st_pk 11 [9,0,1,2,3,4,10,8,5,6,7] (by decide) (st_star_o (st_some_o (mv4 (st_star_o (st_some_o (mv1 h)))))))) (q_y z z z z h56 (o_mv z) (q_y z z z z h56 (o_nc z) (q_y z z z z h56 (o_fa fa196_0 z) (q_y z z z z h56 (o_ld 7 sc3 z z z) (q_y z z z z h56 (o_bin z z (bI_le _ _)) (q_u z z (o_pt z h56 z) (q_mv z z z (q_n z z z z h58 (q_n z z z z h58 (q_n z z z z h58 (q_n z z z z h58 (q_n z z z z h58 (q_n z z z z h58 (q_n z z z z h58 (q_n z z z z h58 (q_u z z (o_pf z h58 z) (q_mv z z z (q_n z z z z z (q_n z z z z z (q_n z z z z z (q_n z z z z z (q_n z z z z z (q_n z z z z z (q_n z z z z z (q_n z z z z z (q_u z z (o_pf z z z) qn)))))))))))))))))))))))))))))))))))))))))))))))))))) ?_ (nxt z)
  refine ec (eo_c z (s_w (o_callL ca102 z (An.ok b0_ _ _ _ hr78) (fun _ _ _ h=>h))) ?_) en
  refine stage z z z z mk17_ [] [] z z z qn en ?_
  intro _
  refine ex_sub (E':=[(3,pt b6 0)]) ⟨z,trivial⟩ ?_
  refine x_seq (csr ?_)
  refine r_mv z (r_as z ?_)
  refine r_nil (x_seq (c_ret ?_))
  refine ex_st (fun _ h=>mv10 (mv10 (mv10 h))) ?_
  refine ex_st (fun _ h=>st_some (f:=Ae.op g21) (a:=x22) (st_star_f (A:=Ae.fl b23 x22 g21) h)) ?_
  refine ex_st (fun _ h=>mv6 (mv6 (mv6 (mv6 (mv6 h))))) ?_
  refine ex_st (fun _ h=>st_some (f:=Ab.op g42) (a:=x44) (st_star_f (A:=Ab.fl b45 x44 g42) h)) ?_
  refine ex_st (fun _ h=>mv4 (mv1 h)) ?_
  refine ex_st (fun _ h=>st_some (f:=Af.op (⟨(pt b23 0,g21),(pt b45 0,g42)⟩:Af.G)) (a:=(⟨i64 (ra2.1.toNat:Int),(some x22),(some x44)⟩:Af)) (st_star_f (A:=Af.fl b6 (⟨i64 (ra2.1.toNat:Int),(some x22),(some x44)⟩:Af) (⟨(pt b23 0,g21),(pt b45 0,g42)⟩:Af.G)) h)) ?_
  obtain rfl:=si hm83
  refine ex_st (pk 3 [0,1]) ?_
  exact x_r1 z (rv_t z) le_ (.inl ⟨_,z,_,z,(pt b6 0,(⟨(pt b23 0,g21),(pt b45 0,g42)⟩:Af.G)),z,z,z⟩)
 have hm59:=ift hm57 h58
 obtain ⟨r60,hr60,hm61⟩:=bs hm59
 refine cd_by (decide (r60≤((Bl (i64 (ra2.1.toNat:Int))).Window))) (fun h62 => ?_) fun h62 => ?_
 ·have hm63:=ift hm61 h62
  obtain ⟨r64,hr64,hm65⟩:=bs hm63
  obtain ⟨r66,hr66,hm67⟩:=ltx hm65
  rcases r66 with ra68 | ⟨rn69,ro70⟩
  rotate_left
  ·have hm71:=sm_r hm67
   refine c_any mixed (effs:=[52]) (V:=[]) ?_
   refine stage_st (fun _ h=>mv7 h) ?_
   refine stn mk17_ [0,1,2,3,4,5,6,7,8,9,10,11,12,13,14,15,16,17,18,19,20,21,22,23,24,25,26,27,28,29,30,31,32,33,34,35,36,37,38,39,40,41,42,43,44,45,46,47,48,49,50,51] [52] [_,_,_,_,_,_,_,_,_,_,_,_,_,_,_,_,_,_,_,_,_,_,_,_,_,_,_,_,_,_,_,_,_,_,_,_,_,_,_,_,_,_,_,_,_,_,_,_,_,_,_,_] (q_mv z z z (q_mv z z z (q_u z z (o_nc z) (q_fa z z fa196_2 z (q_ld z z 7 sc191 z z z (q_u z z (o_callqP ca204 z (AJ.ok b45 x44 g42 _ z) (pk 11 [1,2,3,4,5,0,6,7,8,9,10]) (pk 11 [5,0,1,2,3,4,6,7,8,9,10])) (q_u z z (o_bin z z (bI_eq _ 3)) (q_mv z z z (q_y z z z z h52 (o_mv z) (q_y z z z z h52 (o_nc z) (q_y z z z z h52 (o_fa fa196_2 z) (q_y z z z z h52 (o_ld 7 sc191 z z z) (q_y z z z z h52 (o_callqP ca203 z (AB.ok b45 x44 g42 _ z) (pk 11 [1,2,3,4,5,0,6,7,8,9,10]) (pk 11 [5,0,1,2,3,4,6,7,8,9,10])) (q_y z z z z h52 (o_mv z) (q_y z z z z h52 (o_callqP ca158 z (AG.ok b6 (⟨i64 (ra2.1.toNat:Int),(some x22),(some x44)⟩:Af) (⟨(pt b23 0,g21),(pt b45 0,g42)⟩:Af.G) _ hr54) (fun _ h=>mv4 (mv1 (st_some (f:=Ab.op g42) (a:=x44) (st_star_f (A:=Ab.fl b45 x44 g42) (mv6 (mv6 (mv6 (mv6 (mv6 (st_some (f:=Ae.op g21) (a:=x22) (st_star_f (A:=Ae.fl b23 x22 g21) (mv10 (mv10 (mv10 h)))))))))))))) (fun _ h=>st_pk 11 [9,0,1,2,3,4,10,8,5,6,7] (by decide) (st_star_o (st_some_o (mv4 (st_star_o (st_some_o (mv1 h)))))))) (q_y z z z z h52 (o_bin z z (bI_add _ _)) (q_y z z z z h52 (o_mv z) (q_y z z z z h52 (o_nc z) (q_y z z z z h52 (o_fa fa196_0 z) (q_y z z z z h52 (o_ld 7 sc3 z z z) (q_y z z z z h52 (o_bin z z (bI_add _ 1)) (q_y z z z z h52 (o_bin z z (bI_eq _ _)) (q_u z z (o_pt z h52 z) (q_mv z z z (q_y z z z z h56 (o_mv z) (q_y z z z z h56 (o_callqP ca158 z (AG.ok b6 (⟨i64 (ra2.1.toNat:Int),(some x22),(some x44)⟩:Af) (⟨(pt b23 0,g21),(pt b45 0,g42)⟩:Af.G) _ hr54) (fun _ h=>mv4 (mv1 (st_some (f:=Ab.op g42) (a:=x44) (st_star_f (A:=Ab.fl b45 x44 g42) (mv6 (mv6 (mv6 (mv6 (mv6 (st_some (f:=Ae.op g21) (a:=x22) (st_star_f (A:=Ae.fl b23 x22 g21) (mv10 (mv10 (mv10 h)))))))))))))) (fun _ h=>st_pk 11 [9,0,1,2,3,4,10,8,5,6,7] (by decide) (st_star_o (st_some_o (mv4 (st_star_o (st_some_o (mv1 h)))))))) (q_y z z z z h56 (o_mv z) (q_y z z z z h56 (o_nc z) (q_y z z z z h56 (o_fa fa196_0 z) (q_y z z z z h56 (o_ld 7 sc3 z z z) (q_y z z z z h56 (o_bin z z (bI_le _ _)) (q_u z z (o_pt z h56 z) (q_mv z z z (q_y z z z z h58 (o_mv z) (q_y z z z z h58 (o_nc z) (q_y z z z z h58 (o_fa fa196_2 z) (q_y z z z z h58 (o_ld 7 sc191 z z z) (q_y z z z z h58 (o_callqP ca164 z (Ar.ok b45 _ g42 0 _ hr60) (pk 11 [1,2,3,4,5,0,6,7,8,9,10]) (pk 11 [5,0,1,2,3,4,6,7,8,9,10])) (q_y z z z z h58 (o_fa fa243_0 z) (q_y z z z z h58 (o_ld 6 sc3 z z z) (q_y z z z z h58 (o_bin z z (bI_le _ _)) (q_u z z (o_pt z h58 z) (q_mv z z z (q_y z z z z h62 (o_mv z) (q_y z z z z h62 (o_nc z) (q_y z z z z h62 (o_fa fa196_2 z) (q_y z z z z h62 (o_ld 7 sc191 z z z) (q_y z z z z h62 (o_callqP ca164 z (Ar.ok b45 _ g42 2 _ hr64) (pk 11 [1,2,3,4,5,0,6,7,8,9,10]) (pk 11 [5,0,1,2,3,4,6,7,8,9,10])) (q_y z z z z h62 (o_fa fa243_1 z) (q_y z z z z h62 (o_ld 6 sc3 z z z) (q_y z z z z h62 (o_bin z z (bI_le _ _)) (q_u z z (o_pt z h62 z) qn)))))))))))))))))))))))))))))))))))))))))))))))))))) ?_ (nxt z)
   obtain rfl:=si hm71
   exact ec (eo_w z (s_w (o_callR ca102 z (An.ok b0_ _ _ _ hr66) (by rintro _ _ _ ⟨rfl,rfl⟩;exact (px_st (pk 11 [0]) (px_of le_ (.inr ⟨_,z,_,z,z,z⟩)))))) (fun _ _ _ _ h=>h.elim)) en
  have hm71:=sm_l hm67
  refine c_any mixed (effs:=[52]) (V:=[]) ?_
  refine stage_st (fun _ h=>mv7 h) ?_
  refine stn mk17_ [0,1,2,3,4,5,6,7,8,9,10,11,12,13,14,15,16,17,18,19,20,21,22,23,24,25,26,27,28,29,30,31,32,33,34,35,36,37,38,39,40,41,42,43,44,45,46,47,48,49,50,51] [52] [_,_,_,_,_,_,_,_,_,_,_,_,_,_,_,_,_,_,_,_,_,_,_,_,_,_,_,_,_,_,_,_,_,_,_,_,_,_,_,_,_,_,_,_,_,_,_,_,_,_,_,_] (q_mv z z z (q_mv z z z (q_u z z (o_nc z) (q_fa z z fa196_2 z (q_ld z z 7 sc191 z z z (q_u z z (o_callqP ca204 z (AJ.ok b45 x44 g42 _ z) (pk 11 [1,2,3,4,5,0,6,7,8,9,10]) (pk 11 [5,0,1,2,3,4,6,7,8,9,10])) (q_u z z (o_bin z z (bI_eq _ 3)) (q_mv z z z (q_y z z z z h52 (o_mv z) (q_y z z z z h52 (o_nc z) (q_y z z z z h52 (o_fa fa196_2 z) (q_y z z z z h52 (o_ld 7 sc191 z z z) (q_y z z z z h52 (o_callqP ca203 z (AB.ok b45 x44 g42 _ z) (pk 11 [1,2,3,4,5,0,6,7,8,9,10]) (pk 11 [5,0,1,2,3,4,6,7,8,9,10])) (q_y z z z z h52 (o_mv z) (q_y z z z z h52 (o_callqP ca158 z (AG.ok b6 (⟨i64 (ra2.1.toNat:Int),(some x22),(some x44)⟩:Af) (⟨(pt b23 0,g21),(pt b45 0,g42)⟩:Af.G) _ hr54) (fun _ h=>mv4 (mv1 (st_some (f:=Ab.op g42) (a:=x44) (st_star_f (A:=Ab.fl b45 x44 g42) (mv6 (mv6 (mv6 (mv6 (mv6 (st_some (f:=Ae.op g21) (a:=x22) (st_star_f (A:=Ae.fl b23 x22 g21) (mv10 (mv10 (mv10 h)))))))))))))) (fun _ h=>st_pk 11 [9,0,1,2,3,4,10,8,5,6,7] (by decide) (st_star_o (st_some_o (mv4 (st_star_o (st_some_o (mv1 h)))))))) (q_y z z z z h52 (o_bin z z (bI_add _ _)) (q_y z z z z h52 (o_mv z) (q_y z z z z h52 (o_nc z) (q_y z z z z h52 (o_fa fa196_0 z) (q_y z z z z h52 (o_ld 7 sc3 z z z) (q_y z z z z h52 (o_bin z z (bI_add _ 1)) (q_y z z z z h52 (o_bin z z (bI_eq _ _)) (q_u z z (o_pt z h52 z) (q_mv z z z (q_y z z z z h56 (o_mv z) (q_y z z z z h56 (o_callqP ca158 z (AG.ok b6 (⟨i64 (ra2.1.toNat:Int),(some x22),(some x44)⟩:Af) (⟨(pt b23 0,g21),(pt b45 0,g42)⟩:Af.G) _ hr54) (fun _ h=>mv4 (mv1 (st_some (f:=Ab.op g42) (a:=x44) (st_star_f (A:=Ab.fl b45 x44 g42) (mv6 (mv6 (mv6 (mv6 (mv6 (st_some (f:=Ae.op g21) (a:=x22) (st_star_f (A:=Ae.fl b23 x22 g21) (mv10 (mv10 (mv10 h)))))))))))))) (fun _ h=>st_pk 11 [9,0,1,2,3,4,10,8,5,6,7] (by decide) (st_star_o (st_some_o (mv4 (st_star_o (st_some_o (mv1 h)))))))) (q_y z z z z h56 (o_mv z) (q_y z z z z h56 (o_nc z) (q_y z z z z h56 (o_fa fa196_0 z) (q_y z z z z h56 (o_ld 7 sc3 z z z) (q_y z z z z h56 (o_bin z z (bI_le _ _)) (q_u z z (o_pt z h56 z) (q_mv z z z (q_y z z z z h58 (o_mv z) (q_y z z z z h58 (o_nc z) (q_y z z z z h58 (o_fa fa196_2 z) (q_y z z z z h58 (o_ld 7 sc191 z z z) (q_y z z z z h58 (o_callqP ca164 z (Ar.ok b45 _ g42 0 _ hr60) (pk 11 [1,2,3,4,5,0,6,7,8,9,10]) (pk 11 [5,0,1,2,3,4,6,7,8,9,10])) (q_y z z z z h58 (o_fa fa243_0 z) (q_y z z z z h58 (o_ld 6 sc3 z z z) (q_y z z z z h58 (o_bin z z (bI_le _ _)) (q_u z z (o_pt z h58 z) (q_mv z z z (q_y z z z z h62 (o_mv z) (q_y z z z z h62 (o_nc z) (q_y z z z z h62 (o_fa fa196_2 z) (q_y z z z z h62 (o_ld 7 sc191 z z z) (q_y z z z z h62 (o_callqP ca164 z (Ar.ok b45 _ g42 2 _ hr64) (pk 11 [1,2,3,4,5,0,6,7,8,9,10]) (pk 11 [5,0,1,2,3,4,6,7,8,9,10])) (q_y z z z z h62 (o_fa fa243_1 z) (q_y z z z z h62 (o_ld 6 sc3 z z z) (q_y z z z z h62 (o_bin z z (bI_le _ _)) (q_u z z (o_pt z h62 z) qn)))))))))))))))))))))))))))))))))))))))))))))))))))) ?_ (nxt z)
  refine ec (eo_c z (s_w (o_callL ca102 z (An.ok b0_ _ _ _ hr66) (fun _ _ _ h=>h))) ?_) en
  refine stage z z z z mk17_ [] [] z z z qn en ?_
  intro _
  refine ex_sub (E':=[(3,pt b6 0)]) ⟨z,trivial⟩ ?_
  refine x_seq (csr ?_)
  refine r_mv z (r_as z ?_)
  refine r_nil (x_seq (c_ret ?_))
  refine ex_st (fun _ h=>mv10 (mv10 (mv10 h))) ?_
  refine ex_st (fun _ h=>st_some (f:=Ae.op g21) (a:=x22) (st_star_f (A:=Ae.fl b23 x22 g21) h)) ?_
  refine ex_st (fun _ h=>mv6 (mv6 (mv6 (mv6 (mv6 h))))) ?_
  refine ex_st (fun _ h=>st_some (f:=Ab.op g42) (a:=x44) (st_star_f (A:=Ab.fl b45 x44 g42) h)) ?_
  refine ex_st (fun _ h=>mv4 (mv1 h)) ?_
  refine ex_st (fun _ h=>st_some (f:=Af.op (⟨(pt b23 0,g21),(pt b45 0,g42)⟩:Af.G)) (a:=(⟨i64 (ra2.1.toNat:Int),(some x22),(some x44)⟩:Af)) (st_star_f (A:=Af.fl b6 (⟨i64 (ra2.1.toNat:Int),(some x22),(some x44)⟩:Af) (⟨(pt b23 0,g21),(pt b45 0,g42)⟩:Af.G)) h)) ?_
  obtain rfl:=si hm71
  refine ex_st (pk 3 [0,1]) ?_
  exact x_r1 z (rv_t z) le_ (.inl ⟨_,z,_,z,(pt b6 0,(⟨(pt b23 0,g21),(pt b45 0,g42)⟩:Af.G)),z,z,z⟩)
 have hm63:=iff_ hm61 h62
 obtain ⟨r72,hr72,hm73⟩:=ltx hm63
 rcases r72 with ra74 | ⟨rn75,ro76⟩
 rotate_left
 ·have hm77:=sm_r hm73
  refine c_any mixed (effs:=[52]) (V:=[]) ?_
  refine stage_st (fun _ h=>mv7 h) ?_
  refine stn mk17_ [0,1,2,3,4,5,6,7,8,9,10,11,12,13,14,15,16,17,18,19,20,21,22,23,24,25,26,27,28,29,30,31,32,33,34,35,36,37,38,39,40,41,42,43,44,45,46,47,48,49,50,51] [52] [_,_,_,_,_,_,_,_,_,_,_,_,_,_,_,_,_,_,_,_,_,_,_,_,_,_,_,_,_,_,_,_,_,_,_,_,_,_,_,_,_,_,_,_,_,_,_,_,_,_,_,_] (q_mv z z z (q_mv z z z (q_u z z (o_nc z) (q_fa z z fa196_2 z (q_ld z z 7 sc191 z z z (q_u z z (o_callqP ca204 z (AJ.ok b45 x44 g42 _ z) (pk 11 [1,2,3,4,5,0,6,7,8,9,10]) (pk 11 [5,0,1,2,3,4,6,7,8,9,10])) (q_u z z (o_bin z z (bI_eq _ 3)) (q_mv z z z (q_y z z z z h52 (o_mv z) (q_y z z z z h52 (o_nc z) (q_y z z z z h52 (o_fa fa196_2 z) (q_y z z z z h52 (o_ld 7 sc191 z z z) (q_y z z z z h52 (o_callqP ca203 z (AB.ok b45 x44 g42 _ z) (pk 11 [1,2,3,4,5,0,6,7,8,9,10]) (pk 11 [5,0,1,2,3,4,6,7,8,9,10])) (q_y z z z z h52 (o_mv z) (q_y z z z z h52 (o_callqP ca158 z (AG.ok b6 (⟨i64 (ra2.1.toNat:Int),(some x22),(some x44)⟩:Af) (⟨(pt b23 0,g21),(pt b45 0,g42)⟩:Af.G) _ hr54) (fun _ h=>mv4 (mv1 (st_some (f:=Ab.op g42) (a:=x44) (st_star_f (A:=Ab.fl b45 x44 g42) (mv6 (mv6 (mv6 (mv6 (mv6 (st_some (f:=Ae.op g21) (a:=x22) (st_star_f (A:=Ae.fl b23 x22 g21) (mv10 (mv10 (mv10 h)))))))))))))) (fun _ h=>st_pk 11 [9,0,1,2,3,4,10,8,5,6,7] (by decide) (st_star_o (st_some_o (mv4 (st_star_o (st_some_o (mv1 h)))))))) (q_y z z z z h52 (o_bin z z (bI_add _ _)) (q_y z z z z h52 (o_mv z) (q_y z z z z h52 (o_nc z) (q_y z z z z h52 (o_fa fa196_0 z) (q_y z z z z h52 (o_ld 7 sc3 z z z) (q_y z z z z h52 (o_bin z z (bI_add _ 1)) (q_y z z z z h52 (o_bin z z (bI_eq _ _)) (q_u z z (o_pt z h52 z) (q_mv z z z (q_y z z z z h56 (o_mv z) (q_y z z z z h56 (o_callqP ca158 z (AG.ok b6 (⟨i64 (ra2.1.toNat:Int),(some x22),(some x44)⟩:Af) (⟨(pt b23 0,g21),(pt b45 0,g42)⟩:Af.G) _ hr54) (fun _ h=>mv4 (mv1 (st_some (f:=Ab.op g42) (a:=x44) (st_star_f (A:=Ab.fl b45 x44 g42) (mv6 (mv6 (mv6 (mv6 (mv6 (st_some (f:=Ae.op g21) (a:=x22) (st_star_f (A:=Ae.fl b23 x22 g21) (mv10 (mv10 (mv10 h)))))))))))))) (fun _ h=>st_pk 11 [9,0,1,2,3,4,10,8,5,6,7] (by decide) (st_star_o (st_some_o (mv4 (st_star_o (st_some_o (mv1 h)))))))) (q_y z z z z h56 (o_mv z) (q_y z z z z h56 (o_nc z) (q_y z z z z h56 (o_fa fa196_0 z) (q_y z z z z h56 (o_ld 7 sc3 z z z) (q_y z z z z h56 (o_bin z z (bI_le _ _)) (q_u z z (o_pt z h56 z) (q_mv z z z (q_y z z z z h58 (o_mv z) (q_y z z z z h58 (o_nc z) (q_y z z z z h58 (o_fa fa196_2 z) (q_y z z z z h58 (o_ld 7 sc191 z z z) (q_y z z z z h58 (o_callqP ca164 z (Ar.ok b45 _ g42 0 _ hr60) (pk 11 [1,2,3,4,5,0,6,7,8,9,10]) (pk 11 [5,0,1,2,3,4,6,7,8,9,10])) (q_y z z z z h58 (o_fa fa243_0 z) (q_y z z z z h58 (o_ld 6 sc3 z z z) (q_y z z z z h58 (o_bin z z (bI_le _ _)) (q_u z z (o_pt z h58 z) (q_mv z z z (q_n z z z z h62 (q_n z z z z h62 (q_n z z z z h62 (q_n z z z z h62 (q_n z z z z h62 (q_n z z z z h62 (q_n z z z z h62 (q_n z z z z h62 (q_u z z (o_pf z h62 z) qn)))))))))))))))))))))))))))))))))))))))))))))))))))) ?_ (nxt z)
  obtain rfl:=si hm77
  exact ec (eo_w z (s_w (o_callR ca102 z (An.ok b0_ _ _ _ hr72) (by rintro _ _ _ ⟨rfl,rfl⟩;exact (px_st (pk 11 [0]) (px_of le_ (.inr ⟨_,z,_,z,z,z⟩)))))) (fun _ _ _ _ h=>h.elim)) en
 have hm77:=sm_l hm73
 refine c_any mixed (effs:=[52]) (V:=[]) ?_
 refine stage_st (fun _ h=>mv7 h) ?_
 refine stn mk17_ [0,1,2,3,4,5,6,7,8,9,10,11,12,13,14,15,16,17,18,19,20,21,22,23,24,25,26,27,28,29,30,31,32,33,34,35,36,37,38,39,40,41,42,43,44,45,46,47,48,49,50,51] [52] [_,_,_,_,_,_,_,_,_,_,_,_,_,_,_,_,_,_,_,_,_,_,_,_,_,_,_,_,_,_,_,_,_,_,_,_,_,_,_,_,_,_,_,_,_,_,_,_,_,_,_,_] (q_mv z z z (q_mv z z z (q_u z z (o_nc z) (q_fa z z fa196_2 z (q_ld z z 7 sc191 z z z (q_u z z (o_callqP ca204 z (AJ.ok b45 x44 g42 _ z) (pk 11 [1,2,3,4,5,0,6,7,8,9,10]) (pk 11 [5,0,1,2,3,4,6,7,8,9,10])) (q_u z z (o_bin z z (bI_eq _ 3)) (q_mv z z z (q_y z z z z h52 (o_mv z) (q_y z z z z h52 (o_nc z) (q_y z z z z h52 (o_fa fa196_2 z) (q_y z z z z h52 (o_ld 7 sc191 z z z) (q_y z z z z h52 (o_callqP ca203 z (AB.ok b45 x44 g42 _ z) (pk 11 [1,2,3,4,5,0,6,7,8,9,10]) (pk 11 [5,0,1,2,3,4,6,7,8,9,10])) (q_y z z z z h52 (o_mv z) (q_y z z z z h52 (o_callqP ca158 z (AG.ok b6 (⟨i64 (ra2.1.toNat:Int),(some x22),(some x44)⟩:Af) (⟨(pt b23 0,g21),(pt b45 0,g42)⟩:Af.G) _ hr54) (fun _ h=>mv4 (mv1 (st_some (f:=Ab.op g42) (a:=x44) (st_star_f (A:=Ab.fl b45 x44 g42) (mv6 (mv6 (mv6 (mv6 (mv6 (st_some (f:=Ae.op g21) (a:=x22) (st_star_f (A:=Ae.fl b23 x22 g21) (mv10 (mv10 (mv10 h)))))))))))))) (fun _ h=>st_pk 11 [9,0,1,2,3,4,10,8,5,6,7] (by decide) (st_star_o (st_some_o (mv4 (st_star_o (st_some_o (mv1 h)))))))) (q_y z z z z h52 (o_bin z z (bI_add _ _)) (q_y z z z z h52 (o_mv z) (q_y z z z z h52 (o_nc z) (q_y z z z z h52 (o_fa fa196_0 z) (q_y z z z z h52 (o_ld 7 sc3 z z z) (q_y z z z z h52 (o_bin z z (bI_add _ 1)) (q_y z z z z h52 (o_bin z z (bI_eq _ _)) (q_u z z (o_pt z h52 z) (q_mv z z z (q_y z z z z h56 (o_mv z) (q_y z z z z h56 (o_callqP ca158 z (AG.ok b6 (⟨i64 (ra2.1.toNat:Int),(some x22),(some x44)⟩:Af) (⟨(pt b23 0,g21),(pt b45 0,g42)⟩:Af.G) _ hr54) (fun _ h=>mv4 (mv1 (st_some (f:=Ab.op g42) (a:=x44) (st_star_f (A:=Ab.fl b45 x44 g42) (mv6 (mv6 (mv6 (mv6 (mv6 (st_some (f:=Ae.op g21) (a:=x22) (st_star_f (A:=Ae.fl b23 x22 g21) (mv10 (mv10 (mv10 h)))))))))))))) (fun _ h=>st_pk 11 [9,0,1,2,3,4,10,8,5,6,7] (by decide) (st_star_o (st_some_o (mv4 (st_star_o (st_some_o (mv1 h)))))))) (q_y z z z z h56 (o_mv z) (q_y z z z z h56 (o_nc z) (q_y z z z z h56 (o_fa fa196_0 z) (q_y z z z z h56 (o_ld 7 sc3 z z z) (q_y z z z z h56 (o_bin z z (bI_le _ _)) (q_u z z (o_pt z h56 z) (q_mv z z z (q_y z z z z h58 (o_mv z) (q_y z z z z h58 (o_nc z) (q_y z z z z h58 (o_fa fa196_2 z) (q_y z z z z h58 (o_ld 7 sc191 z z z) (q_y z z z z h58 (o_callqP ca164 z (Ar.ok b45 _ g42 0 _ hr60) (pk 11 [1,2,3,4,5,0,6,7,8,9,10]) (pk 11 [5,0,1,2,3,4,6,7,8,9,10])) (q_y z z z z h58 (o_fa fa243_0 z) (q_y z z z z h58 (o_ld 6 sc3 z z z) (q_y z z z z h58 (o_bin z z (bI_le _ _)) (q_u z z (o_pt z h58 z) (q_mv z z z (q_n z z z z h62 (q_n z z z z h62 (q_n z z z z h62 (q_n z z z z h62 (q_n z z z z h62 (q_n z z z z h62 (q_n z z z z h62 (q_n z z z z h62 (q_u z z (o_pf z h62 z) qn)))))))))))))))))))))))))))))))))))))))))))))))))))) ?_ (nxt z)
 refine ec (eo_c z (s_w (o_callL ca102 z (An.ok b0_ _ _ _ hr72) (fun _ _ _ h=>h))) ?_) en
 refine stage z z z z mk17_ [] [] z z z qn en ?_
 intro _
 refine ex_sub (E':=[(3,pt b6 0)]) ⟨z,trivial⟩ ?_
 refine x_seq (csr ?_)
 refine r_mv z (r_as z ?_)
 refine r_nil (x_seq (c_ret ?_))
 refine ex_st (fun _ h=>mv10 (mv10 (mv10 h))) ?_
 refine ex_st (fun _ h=>st_some (f:=Ae.op g21) (a:=x22) (st_star_f (A:=Ae.fl b23 x22 g21) h)) ?_
 refine ex_st (fun _ h=>mv6 (mv6 (mv6 (mv6 (mv6 h))))) ?_
 refine ex_st (fun _ h=>st_some (f:=Ab.op g42) (a:=x44) (st_star_f (A:=Ab.fl b45 x44 g42) h)) ?_
 refine ex_st (fun _ h=>mv4 (mv1 h)) ?_
 refine ex_st (fun _ h=>st_some (f:=Af.op (⟨(pt b23 0,g21),(pt b45 0,g42)⟩:Af.G)) (a:=(⟨i64 (ra2.1.toNat:Int),(some x22),(some x44)⟩:Af)) (st_star_f (A:=Af.fl b6 (⟨i64 (ra2.1.toNat:Int),(some x22),(some x44)⟩:Af) (⟨(pt b23 0,g21),(pt b45 0,g42)⟩:Af.G)) h)) ?_
 obtain rfl:=si hm77
 refine ex_st (pk 3 [0,1]) ?_
 exact x_r1 z (rv_t z) le_ (.inl ⟨_,z,_,z,(pt b6 0,(⟨(pt b23 0,g21),(pt b45 0,g42)⟩:Af.G)),z,z,z⟩)
def Ck(a0:Aa):Option ((Option Ac×Aa)⊕(Int×Aa)) :=
 (Aj a0 2).bind fun r0=>sm r0 (fun (ra2:UInt64×Aa)=>if ((i64 (ra2.1.toNat:Int))==1) then (C7 ra2.2).bind fun r9=>sm r9 (fun (ra11:Option Ai×Aa)=>some (Sum.inl ((some (⟨i64 (ra2.1.toNat:Int),ra11.1,none⟩:Ac)),ra11.2))) fun ((rn12,ro13):Int×Aa)=>some (Sum.inr (rn12,ro13)) else if ((i64 (ra2.1.toNat:Int))==2) then (C4 ra2.2).bind fun r20=>sm r20 (fun (ra22:Option Af×Aa)=>some (Sum.inl ((some (⟨i64 (ra2.1.toNat:Int),none,ra22.1⟩:Ac)),ra22.2))) fun ((rn23,ro24):Int×Aa)=>some (Sum.inr (rn23,ro24)) else lt (An ra2.2 false) fun r29=>sm r29 (fun (ra31:Unit)=>some (Sum.inl ((some (⟨i64 (ra2.1.toNat:Int),none,none⟩:Ac)),ra2.2))) fun ((rn32,ro33):Int×Unit)=>some (Sum.inr (rn32,ra2.2))) fun ((rn3,ro4):Int×Aa)=>some (Sum.inr (rn3,ro4))
theorem Ck.ok{G R F}(b0_:Nat)(a0:Aa)(r:(Option Ac×Aa)⊕(Int×Aa))(hm:Ck a0=some r):CO Tryz.prog 104 [pt b0_ 0] G R (Bk b0_ 177 (Aa.c a0)::F)
  (PK 175 r (fun (a:Option Ac×Aa) u R' L'=>∃(p0:Value×Ac.G),u=p0.1∧R'=R∧L'=rO (Ac.op p0.2) p0.1 a.1::Bk b0_ 177 (Aa.c a.2)::F) (fun n (o:Aa) R' L'=>R'=R∧L'=Bk b0_ 177 (Aa.c o)::F)):=by
 unfold Ck at hm
 refine co_ofN (N:=30) Tryz.func104 z z ?_
 refine csr ?_
 refine r_as z ?_
 refine r_nil (x_seq (c_seq ?_))
 obtain ⟨r0,hr0,hm1⟩:=bs hm
 rcases r0 with ra2 | ⟨rn3,ro4⟩
 rotate_left
 ·have hm5:=sm_r hm1
  refine c_reg ?_
  refine r_mv z ?_
  obtain rfl:=si hm5
  exact r_sw (s_w (o_callR ca101 z (Aj.ok b0_ a0 2 _ hr0) (by rintro _ _ _ ⟨rfl,rfl⟩;exact (px_st (pk 1 [0]) (px_of le_ (.inr ⟨_,z,_,z,z,z⟩)))))) (fun _ _ _ _ h=>h.elim)
 have hm5:=sm_l hm1
 refine c_reg ?_
 refine r_mv z ?_
 refine r_c (s_w (o_callL ca101 z (Aj.ok b0_ a0 2 _ hr0) (fun _ _ _ h=>h))) ?_
 refine r_u (o_cv z (cWI Tryz.underlying22 Tryz.underlying3 ra2.1)) ?_
 refine r_u (o_bld [vI (i64 (ra2.1.toNat:Int)),nl,nl] z (fun _=>by kernel_rfl)) ?_
 refine r_new (o_bx [vI (i64 (ra2.1.toNat:Int)),nl,nl] z z) fun b6 => ?_
 refine r_as z ?_
 refine nssr ?_
 refine r_mv z (r_nc z (r_fa fa144_0 z (r_ld 0 sc3 z z z ?_)))
 refine r_nil (x_seq (c_blk (csr ?_)))
 refine r_bin z z (bI_eq _ 1) (r_as z ?_)
 refine nsq ?_
 refine c_if (b:=((i64 (ra2.1.toNat:Int))==1)) z (fun h7 => ?_) fun h7 => ?_
 ·have hm8:=ift hm5 h7
  obtain ⟨r9,hr9,hm10⟩:=bs hm8
  rcases r9 with ra11 | ⟨rn12,ro13⟩
  rotate_left
  ·have hm14:=sm_r hm10
   refine c_reg ?_
   refine r_mv z (r_mv z ?_)
   refine rl_st (fun _ h=>mv1 h) ?_
   obtain rfl:=si hm14
   exact r_sw (s_w (o_callR ca155 z (C7.ok b0_ _ _ hr9) (by rintro _ _ _ ⟨rfl,rfl⟩;exact (px_st (pk 2 [0]) (px_of le_ (.inr ⟨_,z,_,z,z,z⟩)))))) (fun _ _ _ _ h=>h.elim)
  have hm14:=sm_l hm10
  refine c_reg ?_
  refine r_mv z (r_mv z ?_)
  refine rl_st (fun _ h=>mv1 h) ?_
  refine r_sw (s_w (o_callL ca155 z (C7.ok b0_ _ _ hr9) (fun _ _ _ h=>h))) ?_
  rintro pv16 R _ _ ⟨⟨_,g17⟩,rfl,rfl,rfl⟩
  refine r_nc z (r_fa fa144_1 z ?_)
  refine rl_st (fun _ h=>mv2 h) ?_
  refine r_u0 (ou_if (one_p 1 z) fun ho0=>o_st sc141 z z z ho0 z z) ?_
  refine r_nil (x_blk (x_seq (csr ?_)))
  refine r_mv z (r_as z ?_)
  refine r_nil (x_seq (c_ret ?_))
  refine ex_st (fun _ h=>st_none (f:=Af.op default) h) ?_
  refine ex_st (fun _ h=>mv2 (mv2 h)) ?_
  refine ex_st (fun _ h=>st_some (f:=Ac.op (⟨(pv16,g17),(nl,default)⟩:Ac.G)) (a:=(⟨i64 (ra2.1.toNat:Int),ra11.1,none⟩:Ac)) (st_star_f (A:=Ac.fl b6 (⟨i64 (ra2.1.toNat:Int),ra11.1,none⟩:Ac) (⟨(pv16,g17),(nl,default)⟩:Ac.G)) h)) ?_
  obtain rfl:=si hm14
  exact x_r1 z (rv_t z) le_ (.inl ⟨_,z,_,z,(pt b6 0,(⟨(pv16,g17),(nl,default)⟩:Ac.G)),z,z,z⟩)
 have hm8:=iff_ hm5 h7
 refine csr ?_
 refine r_bin z z (bI_eq _ 2) (r_as z ?_)
 refine nsq ?_
 refine c_if (b:=((i64 (ra2.1.toNat:Int))==2)) z (fun h18 => ?_) fun h18 => ?_
 ·have hm19:=ift hm8 h18
  obtain ⟨r20,hr20,hm21⟩:=bs hm19
  rcases r20 with ra22 | ⟨rn23,ro24⟩
  rotate_left
  ·have hm25:=sm_r hm21
   refine c_reg ?_
   refine r_mv z (r_mv z ?_)
   refine rl_st (fun _ h=>mv1 h) ?_
   obtain rfl:=si hm25
   exact r_sw (s_w (o_callR ca156 z (C4.ok b0_ _ _ hr20) (by rintro _ _ _ ⟨rfl,rfl⟩;exact (px_st (pk 2 [0]) (px_of le_ (.inr ⟨_,z,_,z,z,z⟩)))))) (fun _ _ _ _ h=>h.elim)
  have hm25:=sm_l hm21
  refine c_reg ?_
  refine r_mv z (r_mv z ?_)
  refine rl_st (fun _ h=>mv1 h) ?_
  refine r_sw (s_w (o_callL ca156 z (C4.ok b0_ _ _ hr20) (fun _ _ _ h=>h))) ?_
  rintro pv27 R _ _ ⟨⟨_,g28⟩,rfl,rfl,rfl⟩
  refine r_nc z (r_fa fa144_2 z ?_)
  refine rl_st (fun _ h=>mv2 h) ?_
  refine r_u0 (ou_if (one_p 1 z) fun ho0=>o_st sc142 z z z ho0 z z) ?_
  refine r_nil (x_blk (x_seq (csr ?_)))
  refine r_mv z (r_as z ?_)
  refine r_nil (x_seq (c_ret ?_))
  refine ex_st (fun _ h=>st_none (f:=Ai.op default) h) ?_
  refine ex_st (fun _ h=>mv2 (mv1 (mv2 h))) ?_
  refine ex_st (fun _ h=>st_some (f:=Ac.op (⟨(nl,default),(pv27,g28)⟩:Ac.G)) (a:=(⟨i64 (ra2.1.toNat:Int),none,ra22.1⟩:Ac)) (st_star_f (A:=Ac.fl b6 (⟨i64 (ra2.1.toNat:Int),none,ra22.1⟩:Ac) (⟨(nl,default),(pv27,g28)⟩:Ac.G)) h)) ?_
  obtain rfl:=si hm25
  exact x_r1 z (rv_t z) le_ (.inl ⟨_,z,_,z,(pt b6 0,(⟨(nl,default),(pv27,g28)⟩:Ac.G)),z,z,z⟩)
 have hm19:=iff_ hm8 h18
 obtain ⟨r29,hr29,hm30⟩:=ltx hm19
 rcases r29 with ra31 | ⟨rn32,ro33⟩
 ·have hm34:=sm_l hm30
  refine c_reg ?_
  refine r_mv z ?_
  refine rl_st (fun _ h=>mv1 h) ?_
  refine r_c (s_w (o_callL ca102 z (An.ok b0_ _ _ _ hr29) (fun _ _ _ h=>h))) ?_
  refine r_nil (x_blk (x_seq (csr ?_)))
  refine r_mv z (r_as z ?_)
  refine r_nil (x_seq (c_ret ?_))
  refine ex_st (fun _ h=>st_none (f:=Ai.op default) h) ?_
  refine ex_st (fun _ h=>st_none (f:=Af.op default) h) ?_
  refine ex_st (fun _ h=>mv3 (mv1 h)) ?_
  refine ex_st (fun _ h=>st_some (f:=Ac.op (⟨(nl,default),(nl ,default)⟩:Ac.G)) (a:=(⟨i64 (ra2.1.toNat:Int),none,none⟩:Ac)) (st_star_f (A:=Ac.fl b6 (⟨i64 (ra2.1.toNat:Int),none,none⟩:Ac) (⟨(nl,default),(nl ,default)⟩:Ac.G)) h)) ?_
  obtain rfl:=si hm34
  exact x_r1 z (rv_t z) le_ (.inl ⟨_,z,_,z,(pt b6 0,(⟨(nl,default),(nl ,default)⟩:Ac.G)),z,z,z⟩)
 have hm34:=sm_r hm30
 refine c_reg ?_
 refine r_mv z ?_
 refine rl_st (fun _ h=>mv1 h) ?_
 obtain rfl:=si hm34
 exact r_sw (s_w (o_callR ca102 z (An.ok b0_ _ _ _ hr29) (by rintro _ _ _ ⟨rfl,rfl⟩;exact (px_st (pk 2 [0]) (px_of le_ (.inr ⟨_,z,_,z,z,z⟩)))))) (fun _ _ _ _ h=>h.elim)
def AW(a0:Ac):Option Int :=
 if ((Ap a0)==1) then om a0.a (none) fun x8=>(Bt x8).bind fun r15=>some r15 else if ((Ap a0)==2) then om a0.t (none) fun x19=>(AG x19).bind fun r29=>some r29 else some 0
theorem AW.ok{G R F}(b0_:Nat)(a0:Ac)(g0_:Ac.G)(r:Int)(hm:AW a0=some r):CO Tryz.prog 105 [pt b0_ 0] G R (Bk b0_ 144 [vI a0.kind,g0_.a.1,g0_.t.1]::rO (Ai.op g0_.a.2) g0_.a.1 a0.a::rO (Af.op g0_.t.2) g0_.t.1 a0.t::F)
  (Ret fun u R' L'=>u=vI r∧R'=R∧L'=Bk b0_ 144 [vI a0.kind,g0_.a.1,g0_.t.1]::rO (Ai.op g0_.a.2) g0_.a.1 a0.a::rO (Af.op g0_.t.2) g0_.t.1 a0.t::F):=by
 obtain ⟨⟨pv1,g2⟩,⟨pv4,g5⟩⟩:=g0_
 unfold AW at hm
 refine co_ofN (N:=19) Tryz.func105 z z ?_
 refine csr ?_
 refine r_as z ?_
 refine nssr ?_
 refine r_mv z ?_
 refine r_c (s_w (o_call ca67 z (Ap.ok b0_ a0 (⟨(pv1,g2),(pv4,g5)⟩:Ac.G) _ z))) ?_
 refine r_nil (x_seq (c_blk (csr ?_)))
 refine r_bin z z (bI_eq _ 1) (r_as z ?_)
 refine nsq ?_
 refine c_if (b:=((Ap a0)==1)) z (fun h6 => ?_) fun h6 => ?_
 ·have hm7:=ift hm h6
  refine c_seq ?_
  refine cd_st (fun _ h=>mv1 h) ?_
  refine cd_opt (fun ho10 => ?_) (fun x8 b9 ho10 => ?_)
  ·rintro rfl
   have hm11:=om_n hm7 ho10
   cases hm11
  rintro rfl
  have hm11:=om_s hm7 ho10
  obtain ⟨⟨pv13,g14⟩⟩:=g2
  refine cd_st (fun _ h=>st_star_o h) ?_
  refine c_reg ?_
  refine r_mv z (r_nc z (r_fa fa144_1 z (r_ld 2 sc141 z z z ?_)))
  obtain ⟨r15,hr15,hm16⟩:=bs hm11
  refine r_c (s_w (o_call ca157 z (Bt.ok b9 x8 (⟨(pv13,g14)⟩:Ai.G) _ hr15))) ?_
  refine r_as z ?_
  refine r_nil (x_seq (c_ret ?_))
  refine ex_st (fun _ h=>st_some (f:=Ai.op (⟨(pv13,g14)⟩:Ai.G)) (a:=x8) (st_star_f (A:=Ai.fl b9 x8 (⟨(pv13,g14)⟩:Ai.G)) h)) ?_
  refine ex_st (fun _ h=>st_back ho10 h) ?_
  obtain rfl:=si hm16
  refine ex_st (pk 3 [1,0,2]) ?_
  exact x_r1 z (rv_t z) le_ ⟨_,z,z,z,z⟩
 have hm7:=iff_ hm h6
 refine csr ?_
 refine r_bin z z (bI_eq _ 2) (r_as z ?_)
 refine nsq ?_
 refine c_if (b:=((Ap a0)==2)) z (fun h17 => ?_) fun h17 => ?_
 rotate_left
 ·have hm18:=iff_ hm7 h17
  refine c_skip (x_blk (x_seq (csr ?_)))
  refine r_as z ?_
  refine r_nil (x_seq (c_ret ?_))
  obtain rfl:=si hm18
  exact x_r1 z (rv_t z) le_ ⟨_,z,z,z,z⟩
 have hm18:=ift hm7 h17
 refine c_seq ?_
 refine cd_st (fun _ h=>mv2 h) ?_
 refine cd_opt (fun ho21 => ?_) (fun x19 b20 ho21 => ?_)
 ·rintro rfl
  have hm22:=om_n hm18 ho21
  cases hm22
 rintro rfl
 have hm22:=om_s hm18 ho21
 obtain ⟨⟨pv24,g25⟩,⟨pv27,g28⟩⟩:=g5
 refine cd_st (fun _ h=>st_star_o h) ?_
 refine c_reg ?_
 refine r_mv z (r_nc z (r_fa fa144_2 z (r_ld 3 sc142 z z z ?_)))
 obtain ⟨r29,hr29,hm30⟩:=bs hm22
 refine r_c (s_w (o_call ca158 z (AG.ok b20 _ (⟨(pv24,g25),(pv27,g28)⟩:Af.G) _ hr29))) ?_
 refine r_as z ?_
 refine r_nil (x_seq (c_ret ?_))
 refine ex_st (fun _ h=>st_some (f:=Af.op (⟨(pv24,g25),(pv27,g28)⟩:Af.G)) (a:=x19) (st_star_f (A:=Af.fl b20 x19 (⟨(pv24,g25),(pv27,g28)⟩:Af.G)) h)) ?_
 refine ex_st (fun _ h=>st_back ho21 h) ?_
 obtain rfl:=si hm30
 refine ex_st (pk 3 [1,2,0]) ?_
 exact x_r1 z (rv_t z) le_ ⟨_,z,z,z,z⟩
def AM(a0:Ah):Int :=
 (a0.m.length:Int)
theorem AM.ok{G R F}(b0_:Nat)(a0:Ah)(g0_:Ah.G)(r:Int)(hm:AM a0=r):CO Tryz.prog 106 [pt b0_ 0] G R (Bk b0_ 138 [g0_.m,vI a0.bytes]::OwM vS Ak.v g0_.m a0.m::F)
  (Ret fun u R' L'=>u=vI r∧R'=R∧L'=Bk b0_ 138 [g0_.m,vI a0.bytes]::OwM vS Ak.v g0_.m a0.m::F):=by
 unfold AM at hm
 refine co_ofN (N:=10) Tryz.func106 z z ?_
 refine csr ?_
 refine r_as z ?_
 refine nssr ?_
 refine r_mv z (r_bin z z (bP_eqp Tryz.underlying92) ?_)
 refine nsq ?_
 refine c_ff z ?_
 refine c_skip (x_seq (csr ?_))
 refine r_mv z (r_nc z (r_fa fa138_0 z (r_ld 0 sc136 z z z ?_)))
 refine r_u (o_lenM (kv:=vS) (vv:=Ak.v) 1 Tryz.underlying136 z z) (r_as z ?_)
 refine r_nil (x_seq (c_ret ?_))
 subst hm
 exact x_r1 z (rv_t z) le_ ⟨_,z,z,z,z⟩
def Bj(a0:Ac)(a1:Str):Option Bool :=
 if ((Ap a0)==1) then om a0.a (none) fun x8=>(B6 x8 a1).bind fun r15=>some r15 else if ((Ap a0)==2) then om a0.t (none) fun x19=>(BO x19 a1).bind fun r29=>some r29 else some false
theorem Bj.ok{G R F}(b0_:Nat)(a0:Ac)(g0_:Ac.G)(a1:Str)(r:Bool)(hm:Bj a0 a1=some r):CO Tryz.prog 108 [pt b0_ 0,vS a1] G R (Bk b0_ 144 [vI a0.kind,g0_.a.1,g0_.t.1]::rO (Ai.op g0_.a.2) g0_.a.1 a0.a::rO (Af.op g0_.t.2) g0_.t.1 a0.t::F)
  (Ret fun u R' L'=>u=vB r∧R'=R∧L'=Bk b0_ 144 [vI a0.kind,g0_.a.1,g0_.t.1]::rO (Ai.op g0_.a.2) g0_.a.1 a0.a::rO (Af.op g0_.t.2) g0_.t.1 a0.t::F):=by
 obtain ⟨⟨pv1,g2⟩,⟨pv4,g5⟩⟩:=g0_
 unfold Bj at hm
 refine co_ofN (N:=23) Tryz.func108 z z ?_
 refine csr ?_
 refine r_as z ?_
 refine nssr ?_
 refine r_mv z ?_
 refine r_c (s_w (o_call ca67 z (Ap.ok b0_ a0 (⟨(pv1,g2),(pv4,g5)⟩:Ac.G) _ z))) ?_
 refine r_nil (x_seq (c_blk (csr ?_)))
 refine r_bin z z (bI_eq _ 1) (r_as z ?_)
 refine nsq ?_
 refine c_if (b:=((Ap a0)==1)) z (fun h6 => ?_) fun h6 => ?_
 ·have hm7:=ift hm h6
  refine c_seq ?_
  refine cd_st (fun _ h=>mv1 h) ?_
  refine cd_opt (fun ho10 => ?_) (fun x8 b9 ho10 => ?_)
  ·rintro rfl
   have hm11:=om_n hm7 ho10
   cases hm11
  rintro rfl
  have hm11:=om_s hm7 ho10
  obtain ⟨⟨pv13,g14⟩⟩:=g2
  refine cd_st (fun _ h=>st_star_o h) ?_
  refine c_reg ?_
  refine r_mv z (r_nc z (r_fa fa144_1 z (r_ld 2 sc141 z z z (r_mv z ?_))))
  obtain ⟨r15,hr15,hm16⟩:=bs hm11
  refine r_c (s_w (o_call ca116 z (B6.ok b9 x8 (⟨(pv13,g14)⟩:Ai.G) a1 _ hr15))) ?_
  refine r_as z ?_
  refine r_nil (x_seq (c_ret ?_))
  refine ex_st (fun _ h=>st_some (f:=Ai.op (⟨(pv13,g14)⟩:Ai.G)) (a:=x8) (st_star_f (A:=Ai.fl b9 x8 (⟨(pv13,g14)⟩:Ai.G)) h)) ?_
  refine ex_st (fun _ h=>st_back ho10 h) ?_
  obtain rfl:=si hm16
  refine ex_st (pk 3 [1,0,2]) ?_
  exact x_r1 z (rv_t z) le_ ⟨_,z,z,z,z⟩
 have hm7:=iff_ hm h6
 refine csr ?_
 refine r_bin z z (bI_eq _ 2) (r_as z ?_)
 refine nsq ?_
 refine c_if (b:=((Ap a0)==2)) z (fun h17 => ?_) fun h17 => ?_
 rotate_left
 ·have hm18:=iff_ hm7 h17
  refine c_skip (x_blk (x_seq (csr ?_)))
  refine r_as z ?_
  refine r_nil (x_seq (c_ret ?_))
  obtain rfl:=si hm18
  exact x_r1 z (rv_t z) le_ ⟨_,z,z,z,z⟩
 have hm18:=ift hm7 h17
 refine c_seq ?_
 refine cd_st (fun _ h=>mv2 h) ?_
 refine cd_opt (fun ho21 => ?_) (fun x19 b20 ho21 => ?_)
 ·rintro rfl
  have hm22:=om_n hm18 ho21
  cases hm22
 rintro rfl
 have hm22:=om_s hm18 ho21
 obtain ⟨⟨pv24,g25⟩,⟨pv27,g28⟩⟩:=g5
 refine cd_st (fun _ h=>st_star_o h) ?_
 refine c_reg ?_
 refine r_mv z (r_nc z (r_fa fa144_2 z (r_ld 3 sc142 z z z (r_mv z ?_))))
 obtain ⟨r29,hr29,hm30⟩:=bs hm22
 refine r_c (s_w (o_call ca118 z (BO.ok b20 _ (⟨(pv24,g25),(pv27,g28)⟩:Af.G) a1 _ hr29))) ?_
 refine r_as z ?_
 refine r_nil (x_seq (c_ret ?_))
 refine ex_st (fun _ h=>st_some (f:=Af.op (⟨(pv24,g25),(pv27,g28)⟩:Af.G)) (a:=x19) (st_star_f (A:=Af.fl b20 x19 (⟨(pv24,g25),(pv27,g28)⟩:Af.G)) h)) ?_
 refine ex_st (fun _ h=>st_back ho21 h) ?_
 obtain rfl:=si hm30
 refine ex_st (pk 3 [1,2,0]) ?_
 exact x_r1 z (rv_t z) le_ ⟨_,z,z,z,z⟩
def CK(a0:Aa):Option ((As×Aa)⊕(Int×Aa)) :=
 (Aj a0 65535).bind fun r1=>sm r1 (fun (ra3:UInt64×Aa)=>(AE ra3.2 4096).bind fun r7=>sm r7 (fun (ra9:Str×Aa)=>(Aj ra9.2 18446744073709551615).bind fun r13=>sm r13 (fun (ra15:UInt64×Aa)=>some (Sum.inl ((⟨i64 (ra3.1.toNat:Int),ra9.1,ra15.1⟩:As),ra15.2))) fun ((rn16,ro17):Int×Aa)=>some (Sum.inr (rn16,ro17))) fun ((rn10,ro11):Int×Aa)=>some (Sum.inr (rn10,ro11))) fun ((rn4,ro5):Int×Aa)=>some (Sum.inr (rn4,ro5))
theorem CK.ok{G R F}(b0_:Nat)(a0:Aa)(r:(As×Aa)⊕(Int×Aa))(hm:CK a0=some r):CO Tryz.prog 109 [pt b0_ 0] G R (Bk b0_ 177 (Aa.c a0)::F)
  (PK 175 r (fun (a:As×Aa) u R' L'=>u = .agg (As.c a.1).toArray∧R'=R∧L'=Bk b0_ 177 (Aa.c a.2)::F) (fun n (o:Aa) R' L'=>R'=R∧L'=Bk b0_ 177 (Aa.c o)::F)):=by
 unfold CK at hm
 refine co_ofN (N:=11) Tryz.func109 z z ?_
 refine csr ?_
 refine r_new (o_al ze41) fun b0 => ?_
 refine r_nil (x_seq (c_seq ?_))
 obtain ⟨r1,hr1,hm2⟩:=bs hm
 rcases r1 with ra3 | ⟨rn4,ro5⟩
 rotate_left
 ·have hm6:=sm_r hm2
  refine c_reg ?_
  refine r_mv z ?_
  refine rl_st (fun _ h=>mv1 h) ?_
  obtain rfl:=si hm6
  exact r_sw (s_w (o_callR ca101 z (Aj.ok b0_ a0 65535 _ hr1) (by rintro _ _ _ ⟨rfl,rfl⟩;exact (px_st (pk 2 [0]) (px_of le_ (.inr ⟨_,z,_,z,z,z⟩)))))) (fun _ _ _ _ h=>h.elim)
 have hm6:=sm_l hm2
 obtain ⟨r7,hr7,hm8⟩:=bs hm6
 rcases r7 with ra9 | ⟨rn10,ro11⟩
 rotate_left
 ·have hm12:=sm_r hm8
  refine c_reg ?_
  refine r_mv z ?_
  refine rl_st (fun _ h=>mv1 h) ?_
  refine r_c (s_w (o_callL ca101 z (Aj.ok b0_ a0 65535 _ hr1) (fun _ _ _ h=>h))) ?_
  refine r_u (o_cv z (cWI Tryz.underlying22 Tryz.underlying39 ra3.1)) (r_mv z ?_)
  obtain rfl:=si hm12
  exact r_sw (s_w (o_callR ca154 z (AE.ok b0_ _ 4096 _ hr7) (by rintro _ _ _ ⟨rfl,rfl⟩;exact (px_st (pk 2 [0]) (px_of le_ (.inr ⟨_,z,_,z,z,z⟩)))))) (fun _ _ _ _ h=>h.elim)
 have hm12:=sm_l hm8
 obtain ⟨r13,hr13,hm14⟩:=bs hm12
 rcases r13 with ra15 | ⟨rn16,ro17⟩
 ·have hm18:=sm_l hm14
  refine c_reg ?_
  refine r_mv z ?_
  refine rl_st (fun _ h=>mv1 h) ?_
  refine r_c (s_w (o_callL ca101 z (Aj.ok b0_ a0 65535 _ hr1) (fun _ _ _ h=>h))) ?_
  refine r_u (o_cv z (cWI Tryz.underlying22 Tryz.underlying39 ra3.1)) (r_mv z ?_)
  refine r_c (s_w (o_callL ca154 z (AE.ok b0_ _ 4096 _ hr7) (fun _ _ _ h=>h))) ?_
  refine r_mv z ?_
  refine r_c (s_w (o_callL ca101 z (Aj.ok b0_ _ 18446744073709551615 _ hr13) (fun _ _ _ h=>h))) ?_
  refine r_u (o_bld [vI (i64 (ra3.1.toNat:Int)),vS ra9.1,vW ra15.1] z (fun _=>by kernel_rfl)) ?_
  refine rl_st (fun _ h=>mv1 h) ?_
  refine r_u0 (o_stn ag41 z z z z z z z) ?_
  refine r_nil (x_seq (c_ret ?_))
  obtain rfl:=si hm18
  exact x_d1 z (rv_n 0 [vI (i64 (ra3.1.toNat:Int)),vS ra9.1,vW ra15.1] ag41 z z z z) (pk 2 [1]) le_ (.inl ⟨_,z,_,z,z,z,z⟩)
 have hm18:=sm_r hm14
 refine c_reg ?_
 refine r_mv z ?_
 refine rl_st (fun _ h=>mv1 h) ?_
 refine r_c (s_w (o_callL ca101 z (Aj.ok b0_ a0 65535 _ hr1) (fun _ _ _ h=>h))) ?_
 refine r_u (o_cv z (cWI Tryz.underlying22 Tryz.underlying39 ra3.1)) (r_mv z ?_)
 refine r_c (s_w (o_callL ca154 z (AE.ok b0_ _ 4096 _ hr7) (fun _ _ _ h=>h))) ?_
 refine r_mv z ?_
 obtain rfl:=si hm18
 exact r_sw (s_w (o_callR ca101 z (Aj.ok b0_ _ 18446744073709551615 _ hr13) (by rintro _ _ _ ⟨rfl,rfl⟩;exact (px_st (pk 2 [0]) (px_of le_ (.inr ⟨_,z,_,z,z,z⟩)))))) (fun _ _ _ _ h=>h.elim)
end Go.Proofs.YtpanhdnglicknaaGreat
