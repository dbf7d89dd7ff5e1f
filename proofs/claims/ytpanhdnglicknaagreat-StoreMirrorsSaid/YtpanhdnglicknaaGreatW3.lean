import Derived.Test.YtpanhdnglicknaaGreatW2
import Derived.Test.YtpanhdnglicknaaGreatFacts
import Derived.Test.YtpanhdnglicknaaGreatHwZ
import Derived.Test.YtpanhdnglicknaaGreatHwW
import Derived.Test.YtpanhdnglicknaaGreatHw8
set_option linter.unusedVariables false
set_option linter.unusedSectionVars false
set_option linter.unusedSimpArgs false
set_option maxRecDepth 100000
set_option maxHeartbeats 4000000
namespace Go.Proofs.YtpanhdnglicknaaGreat
open Go Go.Proofs.YtpanhdnglicknaaGreat.Hw
def Ck(x29:Ae):Nat→Int→Str→(List Bool)→Option ((Str×List Bool)⊕((Option Ae×Aa)⊕(Int×Aa)))
 | 0,_,_,_=>none
 | k49+1,s_46,c_47,c_48=>if decide (s_46<(x29.door.length:Int)) then (Cd (⟨c_47⟩:Aa)).bind fun r54=>sm r54 (fun (ra56:Bool×Aa)=>(gi c_48 s_46).bind fun x60=>Ck x29 k49 (i64 (s_46+1)) ra56.2.s (ls c_48 s_46 ra56.1)) fun ((rn57,ro58):Int×Aa)=>some (Sum.inr (Sum.inr (rn57,ro58))) else some (Sum.inl (c_47,c_48))
def Cz(ra79:Str×Aa)(y93:List UInt8):Nat→Int→Option (Unit⊕((List (List UInt8)×Str)⊕((List (List UInt8)×Str)⊕((Option Ae×Aa)⊕(Int×Aa)))))
 | 0,_=>none
 | k102+1,s_101=>if decide (s_101<(y93.length:Int)) then (gi y93 s_101).bind fun x107=>lt (An ra79.2 (decide (x107≤15))) fun r109=>sm r109 (fun (ra111:Unit)=>Cz ra79 y93 k102 (i64 (s_101+1))) fun ((rn112,ro113):Int×Unit)=>some (Sum.inr (Sum.inr (Sum.inr (Sum.inr (rn112,ra79.2))))) else some (Sum.inl ())
def BZ(ra2:UInt64×Aa):Nat→Int→(List (List UInt8))→Str→Option ((List (List UInt8)×Str)⊕((Option Ae×Aa)⊕(Int×Aa)))
 | 0,_,_,_=>none
 | k66+1,s_62,c_63,c_64=>if decide (s_62<4) then Option.bind ((AJ (⟨c_64⟩:Aa) (i64 (ra2.1.toNat:Int))).bind fun r77=>sm r77 (fun (ra79:Str×Aa)=>if ra79.1.length≤maxLen then (gi c_63 s_62).bind fun y86=>(gi (ls c_63 s_62 ra79.1) s_62).bind fun y93=>Option.bind (Cz ra79 y93 (((y93.length:Int)-0).toNat+1) 0) fun (p96:Unit⊕((List (List UInt8)×Str)⊕((List (List UInt8)×Str)⊕((Option Ae×Aa)⊕(Int×Aa)))))=>(match p96 with | Sum.inl q97=>some (Sum.inl (ls c_63 s_62 ra79.1,ra79.2.s)) | Sum.inr r=>some r) else none) fun ((rn80,ro81):Int×Aa)=>some (Sum.inr (Sum.inr (Sum.inr (rn80,ro81))))) fun (p71:(List (List UInt8)×Str)⊕((List (List UInt8)×Str)⊕((Option Ae×Aa)⊕(Int×Aa))))=>(match p71 with | Sum.inl q72=>BZ ra2 k66 (i64 (s_62+1)) q72.1 q72.2 | Sum.inr r=>some r) else some (Sum.inl (c_63,c_64))
def CK(a0:Aa):Option ((Option Ae×Aa)⊕(Int×Aa)) :=
 (Aj a0 4096).bind fun r0=>sm r0 (fun (ra2:UInt64×Aa)=>lt (An ra2.2 (decide (1≤(i64 (ra2.1.toNat:Int))))) fun r6=>sm r6 (fun (ra8:Unit)=>(Aj ra2.2 18446744073709551615).bind fun r12=>sm r12 (fun (ra14:UInt64×Aa)=>(CM (i64 (ra2.1.toNat:Int)) ra14.1).bind fun r18=>(Aj ra14.2 ((toW (i64 (10*(i64 (ra2.1.toNat:Int)))))-1)).bind fun r23=>sm r23 (fun (ra25:UInt64×Aa)=>om r18.1 (none) fun x29=>Option.bind (BZ ra2 5 0 x29.rows ra25.2.s) fun (p35:(List (List UInt8)×Str)⊕((Option Ae×Aa)⊕(Int×Aa)))=>(match p35 with | Sum.inl q36=>Option.bind (Ck x29 (((x29.door.length:Int)-0).toNat+1) 0 q36.2 x29.door) fun (p41:(Str×List Bool)⊕((Option Ae×Aa)⊕(Int×Aa)))=>(match p41 with | Sum.inl q42=>some (Sum.inl ((some (⟨x29.wide,x29.seed,q36.1,q42.2,i64 (ra25.1.toNat:Int)⟩:Ae)),(⟨q42.1⟩:Aa))) | Sum.inr r=>some r) | Sum.inr r=>some r)) fun ((rn26,ro27):Int×Aa)=>some (Sum.inr (rn26,ro27))) fun ((rn15,ro16):Int×Aa)=>some (Sum.inr (rn15,ro16))) fun ((rn9,ro10):Int×Unit)=>some (Sum.inr (rn9,ra2.2))) fun ((rn3,ro4):Int×Aa)=>some (Sum.inr (rn3,ro4))
theorem CK.ok{G R F}(b0_:Nat)(a0:Aa)(r:(Option Ae×Aa)⊕(Int×Aa))(hm:CK a0=some r):CO Tryz.prog 205 [pt b0_ 0] G R (Bk b0_ 177 (Aa.c a0)::F)
  (PK 175 r (fun (a:Option Ae×Aa) u R' L'=>∃(p0:Value×Ae.G),u=p0.1∧R'=R∧L'=rO (Ae.op p0.2) p0.1 a.1::Bk b0_ 177 (Aa.c a.2)::F) (fun n (o:Aa) R' L'=>R'=R∧L'=Bk b0_ 177 (Aa.c o)::F)):=by
 unfold CK at hm
 refine co_ofN (N:=81) Tryz.func205 z z ?_
 refine csr ?_
 refine r_as z ?_
 refine r_nil (x_seq (c_seq ?_))
 obtain ⟨r0,hr0,hm1⟩:=bs hm
 rcases r0 with ra2 | ⟨rn3,ro4⟩
 rotate_left
 ·have hm5:=sm_r hm1
  refine c_reg ?_
  refine r_mv z ?_
  obtain rfl:=si hm5
  exact r_sw (s_w (o_callR ca101 z (Aj.ok b0_ a0 4096 _ hr0) (by rintro _ _ _ ⟨rfl,rfl⟩;exact (px_st (pk 1 [0]) (px_of le_ (.inr ⟨_,z,_,z,z,z⟩)))))) (fun _ _ _ _ h=>h.elim)
 have hm5:=sm_l hm1
 refine c_reg ?_
 refine r_mv z ?_
 refine r_c (s_w (o_callL ca101 z (Aj.ok b0_ a0 4096 _ hr0) (fun _ _ _ h=>h))) ?_
 refine r_u (o_cv z (cWI Tryz.underlying22 Tryz.underlying3 ra2.1)) (r_as z ?_)
 refine r_nil (x_seq (c_seq ?_))
 obtain ⟨r6,hr6,hm7⟩:=ltx hm5
 rcases r6 with ra8 | ⟨rn9,ro10⟩
 rotate_left
 ·have hm11:=sm_r hm7
  refine c_reg ?_
  refine r_mv z (r_mv z (r_bin z z (bI_ge _ 1) ?_))
  obtain rfl:=si hm11
  exact r_sw (s_w (o_callR ca102 z (An.ok b0_ _ _ _ hr6) (by rintro _ _ _ ⟨rfl,rfl⟩;exact (px_st (pk 1 [0]) (px_of le_ (.inr ⟨_,z,_,z,z,z⟩)))))) (fun _ _ _ _ h=>h.elim)
 have hm11:=sm_l hm7
 refine c_reg ?_
 refine r_mv z (r_mv z (r_bin z z (bI_ge _ 1) ?_))
 refine r_c (s_w (o_callL ca102 z (An.ok b0_ _ _ _ hr6) (fun _ _ _ h=>h))) ?_
 refine r_nil (x_seq (c_seq ?_))
 obtain ⟨r12,hr12,hm13⟩:=bs hm11
 rcases r12 with ra14 | ⟨rn15,ro16⟩
 rotate_left
 ·have hm17:=sm_r hm13
  refine c_reg ?_
  refine r_mv z (r_mv z ?_)
  obtain rfl:=si hm17
  exact r_sw (s_w (o_callR ca101 z (Aj.ok b0_ _ 18446744073709551615 _ hr12) (by rintro _ _ _ ⟨rfl,rfl⟩;exact (px_st (pk 1 [0]) (px_of le_ (.inr ⟨_,z,_,z,z,z⟩)))))) (fun _ _ _ _ h=>h.elim)
 have hm17:=sm_l hm13
 refine c_reg ?_
 refine r_mv z (r_mv z ?_)
 refine r_c (s_w (o_callL ca101 z (Aj.ok b0_ _ 18446744073709551615 _ hr12) (fun _ _ _ h=>h))) ?_
 obtain ⟨r18,hr18,hm22⟩:=bs hm17
 refine r_sw (s_w (o_call ca129 z (CM.ok _ _ _ hr18))) ?_
 rintro _ R _ _ ⟨⟨pv20,g21⟩,rfl,rfl,rfl⟩
 refine r_mv z ?_
 refine r_ext z z ?_
 refine r_ext z z (r_as z (r_as z ?_))
 refine r_nil (x_seq (c_seq ?_))
 obtain ⟨r23,hr23,hm24⟩:=bs hm22
 rcases r23 with ra25 | ⟨rn26,ro27⟩
 rotate_left
 ·have hm28:=sm_r hm24
  refine c_reg ?_
  refine r_mv z (r_mv z (r_mv z (r_bin z z (bI_mul 10 _) (r_u (o_cv z (cIW Tryz.underlying3 Tryz.underlying22 (i64 (10*(i64 (ra2.1.toNat:Int)))))) (r_u (o_bin z z (bW_sub _ 1)) ?_)))))
  refine rl_st (fun _ h=>mv1 h) ?_
  obtain rfl:=si hm28
  exact r_sw (s_w (o_callR ca101 z (Aj.ok b0_ _ _ _ hr23) (by rintro _ _ _ ⟨rfl,rfl⟩;exact (px_st (pk 2 [0]) (px_of le_ (.inr ⟨_,z,_,z,z,z⟩)))))) (fun _ _ _ _ h=>h.elim)
 have hm28:=sm_l hm24
 refine cd_opt (fun ho31 => ?_) (fun x29 b30 ho31 => ?_)
 ·rintro rfl
  have hm32:=om_n hm28 ho31
  cases hm32
 rintro rfl
 have hm32:=om_s hm28 ho31
 refine cd_st (fun _ h=>st_star_o h) ?_
 refine c_reg ?_
 refine r_mv z (r_mv z (r_mv z (r_bin z z (bI_mul 10 _) (r_u (o_cv z (cIW Tryz.underlying3 Tryz.underlying22 (i64 (10*(i64 (ra2.1.toNat:Int)))))) (r_u (o_bin z z (bW_sub _ 1)) ?_)))))
 refine rl_st (fun _ h=>mv3 h) ?_
 refine r_c (s_w (o_callL ca101 z (Aj.ok b0_ _ _ _ hr23) (fun _ _ _ h=>h))) ?_
 refine r_u (o_cv z (cWI Tryz.underlying22 Tryz.underlying3 ra25.1)) (r_nc z (r_fa fa250_4 z ?_))
 refine rl_st (fun _ h=>mv1 h) ?_
 refine r_u0 (o_st sc3 z z z z z z) ?_
 refine nssr ?_
 refine r_mv z ?_
 refine nsq ?_
 obtain ⟨p35,hp38,hm39⟩:=bs hm32
 refine cd_cut (fun x ks=>∀(q36:List (List UInt8)×Str),∀(_:p35=Sum.inl q36),∀(g37:Value×Value×Value×Value),EX x .normal ks [(0,pt b0_ 0),(4,pt b30 0)] R (Bk b30 250 [vI x29.wide,vW x29.seed,g37.1,g37.2.1,g37.2.2.1,g37.2.2.2,g21.door,vI (i64 (ra25.1.toNat:Int))]::Bk b0_ 177 [vS q36.2]::OwS true 4 1 eB g21.door x29.door::OwL (OwS false 5 1 eY) [g37.1,g37.2.1,g37.2.2.1,g37.2.2.2] q36.1::F)) ?_ fun K40 => ?_
 ·intro q36 hq g37
  subst hq
  try dsimp only at hm39
  refine x_seq (c_seq (csr ?_))
  refine r_mv z (r_nc z (r_fa fa250_3 z (r_ld 0 sc68 z z z (r_u (o_lenO 2 Tryz.underlying68 z z) (r_mv z ?_)))))
  refine nsq ?_
  obtain ⟨p41,hp43,hm44⟩:=bs hm39
  refine cd_joinS (p:=p41) (Ef:=fun q42=>[(4,pt b30 0)]) (Lf:=fun q42=>Bk b30 250 [vI x29.wide,vW x29.seed,g37.1,g37.2.1,g37.2.2.1,g37.2.2.2,g21.door,vI (i64 (ra25.1.toNat:Int))]::Bk b0_ 177 [vS q42.1]::OwS true 4 1 eB g21.door q42.2::OwL (OwS false 5 1 eY) [g37.1,g37.2.1,g37.2.2.1,g37.2.2.2] q36.1::F) (fun q42 hq => ?_) fun K45 => ?_
  ·subst hq
   try dsimp only at hm44
   refine x_seq (csr ?_)
   refine r_mv z (r_as z ?_)
   refine r_nil (x_seq (c_ret ?_))
   refine ex_st (fun _ h=>mv2 (mv3 (mv2 h))) ?_
   refine ex_st (fun _ h=>st_some (f:=Ae.op (⟨g37,g21.door⟩:Ae.G)) (a:=(⟨x29.wide,x29.seed,q36.1,q42.2,i64 (ra25.1.toNat:Int)⟩:Ae)) (st_star_f (A:=Ae.fl b30 (⟨x29.wide,x29.seed,q36.1,q42.2,i64 (ra25.1.toNat:Int)⟩:Ae) (⟨g37,g21.door⟩:Ae.G)) h)) ?_
   obtain rfl:=si hm44
   exact x_r1 z (rv_t z) le_ (.inl ⟨_,z,_,z,(pt b30 0,(⟨g37,g21.door⟩:Ae.G)),z,z,z⟩)
  refine c_blk ?_
  refine cd_loop (M:=fun k49 (s:Int×Str×List Bool)=>Ck x29 k49 s.1 s.2.1 s.2.2=some p41) (Ef:=fun (s:Int×Str×List Bool)=>[(0,pt b0_ 0),(4,pt b30 0),(67,vI (x29.door.length:Int)),(68,vI s.1)]) (Lf:=fun (s:Int×Str×List Bool)=>Bk b30 250 [vI x29.wide,vW x29.seed,g37.1,g37.2.1,g37.2.2.1,g37.2.2.2,g21.door,vI (i64 (ra25.1.toNat:Int))]::Bk b0_ 177 [vS s.2.1]::OwS true 4 1 eB g21.door s.2.2::OwL (OwS false 5 1 eY) [g37.1,g37.2.1,g37.2.2.1,g37.2.2.2] q36.1::F) (((x29.door.length:Int)-0).toNat+1) (0,q36.2,x29.door) hp43 ⟨z,z,z,z,trivial⟩ (fun _ h=>h) (fun _ h=>by cases h) fun k49 s hM51 => ?_
  obtain ⟨s_46,c_47,c_48⟩:=s
  have hm50:Ck x29 (k49+1) s_46 c_47 c_48=some p41:=hM51
  rw [Ck] at hm50
  refine csr ?_
  refine r_bin z z (bI_lt _ _) ?_
  refine r_nil (x_seq (c_seq ?_))
  refine c_if (b:=decide (s_46<(x29.door.length:Int))) z (fun h52 => ?_) fun h52 => ?_
  rotate_left
  ·have hm53:=iff_ hm50 h52
   refine c_exit (x_exit (ks':=_) z ?_)
   obtain rfl:=si hm53
   exact x_sub (K45 _ z) ⟨z,trivial⟩ (pk 4 [0,1,2,3])
  have hm53:=ift hm50 h52
  refine c_skip (x_seq (c_seq (c_blk (csr ?_))))
  refine r_mv z (r_as z ?_)
  refine nsq ?_
  obtain ⟨r54,hr54,hm55⟩:=bs hm53
  rcases r54 with ra56 | ⟨rn57,ro58⟩
  ·have hm59:=sm_l hm55
   obtain ⟨x60,hx60,hm61⟩:=bs hm59
   refine c_any mixed (effs:=[6,8]) (V:=[]) ?_
   refine stage_st (fun _ h=>mv1 h) ?_
   refine stn mk25_ [0,1,2,3,4,5] [6] [_,_,_,_,_,_] (q_mv z z z (q_u z z (o_nc z) (q_fa z z fa250_3 z (q_ld z z 1 sc68 z z z (q_mv z z z (q_mv z z z qn)))))) ?_ (nxt z)
   refine ec (eo_c z (s_w (o_callL ca238 z (Cd.ok b0_ (⟨c_47⟩:Aa) _ hr54) (fun _ _ _ h=>h))) ?_) en
   refine stage_st (fun _ h=>mv2 h) ?_
   refine stx [7] mk25_ [0,1,2,3,4,7] [8] [_] (q_mv z z z (q_u z z (o_nc z) (q_fa z z fa250_3 z (q_ld z z 2 sc68 z z z (q_mv z z z (q_u z z (o_ixO 0 Tryz.underlying68 (fun _=>by kernel_rfl) z z z hx60) qn)))))) ?_ (nxt z)
   refine ec (eo_u z (s_u (o_stO0 (c':=ra56.1) sc4 z z z hx60 z z z)) le_ ?_) en
   refine stage z z z z mk25_ [] [] z z z qn en ?_
   intro _
   refine ex_sub (E':=[(0,pt b0_ 0),(4,pt b30 0),(67,vI (x29.door.length:Int)),(68,vI s_46)]) ⟨z,z,z,z,trivial⟩ ?_
   refine x_blk (x_seq (c_reg ?_))
   refine r_bin z z (bI_add _ 1) (r_mv z ?_)
   refine r_nil ?_
   exact x_lp (i64 (s_46+1),ra56.2.s,ls c_48 s_46 ra56.1) hm61 ⟨z,z,z,z,trivial⟩ (pk 4 [2,1,0,3])
  have hm59:=sm_r hm55
  refine c_any mixed (effs:=[6]) (V:=[]) ?_
  refine stage_st (fun _ h=>mv1 h) ?_
  refine stn mk25_ [0,1,2,3,4,5] [6] [_,_,_,_,_,_] (q_mv z z z (q_u z z (o_nc z) (q_fa z z fa250_3 z (q_ld z z 1 sc68 z z z (q_mv z z z (q_mv z z z qn)))))) ?_ (nxt z)
  obtain rfl:=si hm59
  try dsimp only at hm44
  obtain rfl:=si hm44
  exact ec (eo_w z (s_w (o_callR ca238 z (Cd.ok b0_ (⟨c_47⟩:Aa) _ hr54) (by rintro _ _ _ ⟨rfl,rfl⟩;exact (px_st (pk 4 [0]) (px_of le_ (.inr ⟨_,z,_,z,z,z⟩)))))) (fun _ _ _ _ h=>h.elim)) en
 refine c_blk ?_
 refine cd_loopG (M:=fun k66 (s:Int×List (List UInt8)×Str×(Value×Value×Value×Value))=>BZ ra2 k66 s.1 s.2.1 s.2.2.1=some p35) (Ef:=fun (s:Int×List (List UInt8)×Str×(Value×Value×Value×Value))=>[(0,pt b0_ 0),(3,vI (i64 (ra2.1.toNat:Int))),(4,pt b30 0),(34,vI s.1)]) (Rf:=fun (s:Int×List (List UInt8)×Str×(Value×Value×Value×Value))=>R) (Lf:=fun (s:Int×List (List UInt8)×Str×(Value×Value×Value×Value))=>Bk b30 250 [vI x29.wide,vW x29.seed,s.2.2.2.1,s.2.2.2.2.1,s.2.2.2.2.2.1,s.2.2.2.2.2.2,g21.door,vI (i64 (ra25.1.toNat:Int))]::Bk b0_ 177 [vS s.2.2.1]::OwS true 4 1 eB g21.door x29.door::OwL (OwS false 5 1 eY) [s.2.2.2.1,s.2.2.2.2.1,s.2.2.2.2.2.1,s.2.2.2.2.2.2] s.2.1::F) 5 (0,x29.rows,ra25.2.s,g21.rows) hp38 ⟨z,z,z,z,trivial⟩ (pk 4 [0,1,3,2]) (fun _ h=>by cases h) fun k66 s hM68 => ?_
 obtain ⟨s_62,c_63,c_64,g65⟩:=s
 have hm67:BZ ra2 (k66+1) s_62 c_63 c_64=some p35:=hM68
 rw [BZ] at hm67
 refine csr ?_
 refine r_bin z z (bI_lt _ 4) ?_
 refine r_nil (x_seq (c_seq ?_))
 refine c_if (b:=decide (s_62<4)) z (fun h69 => ?_) fun h69 => ?_
 rotate_left
 ·have hm70:=iff_ hm67 h69
  refine c_exit (x_exit (ks':=_) z ?_)
  obtain rfl:=si hm70
  exact x_sub (K40 _ z g65) ⟨z,z,trivial⟩ (pk 4 [0,1,2,3])
 have hm70:=ift hm67 h69
 refine c_skip (x_seq (c_seq ?_))
 obtain ⟨p71,hp74,hm75⟩:=bs hm70
 refine cd_cut (fun x ks=>∀(q72:List (List UInt8)×Str),∀(_:p71=Sum.inl q72),∀(g73:Value×Value×Value×Value),EX x .normal ks [(0,pt b0_ 0),(3,vI (i64 (ra2.1.toNat:Int))),(4,pt b30 0),(34,vI s_62)] R (Bk b30 250 [vI x29.wide,vW x29.seed,g73.1,g73.2.1,g73.2.2.1,g73.2.2.2,g21.door,vI (i64 (ra25.1.toNat:Int))]::Bk b0_ 177 [vS q72.2]::OwS true 4 1 eB g21.door x29.door::OwL (OwS false 5 1 eY) [g73.1,g73.2.1,g73.2.2.1,g73.2.2.2] q72.1::F)) ?_ fun K76 => ?_
 ·intro q72 hq g73
  subst hq
  try dsimp only at hm75
  refine x_seq (c_reg ?_)
  refine r_bin z z (bI_add _ 1) (r_mv z ?_)
  refine r_nil ?_
  exact x_lp (i64 (s_62+1),q72.1,q72.2,g73) hm75 ⟨z,z,z,z,trivial⟩ (pk 4 [0,1,2,3])
 refine c_blk (csr ?_)
 refine r_mv z (r_as z ?_)
 refine r_nil (x_seq (c_seq ?_))
 obtain ⟨r77,hr77,hm78⟩:=bs hp74
 rcases r77 with ra79 | ⟨rn80,ro81⟩
 rotate_left
 ·have hm82:=sm_r hm78
  refine c_any mixed (effs:=[4]) (V:=[]) ?_
  refine stage_st (fun _ h=>mv1 h) ?_
  refine stn mk0_ [0,1,2,3,6,7] [4] [_,_,_,_,_,_] (q_mv z z z (q_mv z z z (q_mv z z z (q_mv z z z (q_u z z (o_nc z) (q_fa z z fa250_2 z qn)))))) ?_ (nxt z)
  obtain rfl:=si hm82
  try dsimp only at hm75
  obtain rfl:=si hm75
  try dsimp only at hm39
  obtain rfl:=si hm39
  exact ec (eo_w z (s_w (o_callR ca152 z (AJ.ok b0_ (⟨c_64⟩:Aa) _ _ hr77) (by rintro _ _ _ ⟨rfl,rfl⟩;exact (px_st (pk 4 [0]) (px_of le_ (.inr ⟨_,z,_,z,z,z⟩)))))) (fun _ _ _ _ h=>h.elim)) en
 have hm82:=sm_l hm78
 obtain ⟨h83,hm85⟩:=ig hm82
 obtain ⟨y86,hy86,hm88⟩:=bs hm85
 refine cd_ex (fun w h=>st_peek 3 hy86 z w h) fun u87 hu87 => ?_
 refine c_any mixed (effs:=[4,5,9]) (V:=[]) ?_
 refine stage_st (fun _ h=>mv1 h) ?_
 refine stn mk0_ [0,1,2,3,6,7] [4] [_,_,_,_,_,_] (q_mv z z z (q_mv z z z (q_mv z z z (q_mv z z z (q_u z z (o_nc z) (q_fa z z fa250_2 z qn)))))) ?_ (nxt z)
 refine ec (eo_c z (s_w (o_callL ca152 z (AJ.ok b0_ (⟨c_64⟩:Aa) _ _ hr77) (fun _ _ _ h=>h))) ?_) en
 refine stage z z z z mk0_ [0,1,6,7] [5] z z z (q_mv z z z (q_mv z z z (q_u z z (o_nc z) (q_fa z z fa250_2 z qn)))) ?_ (nxt z)
 refine ec (eo_w z (s_w (o_sb Tryz.underlying9 Tryz.underlying131 Tryz.underlying5 z h83)) ?_) en
 rintro v84 R _ _ ⟨rfl,rfl⟩
 refine stage_st (fun _ h=>mv3 (mv4 h)) ?_
 refine stx [8] mk0_ [0,1,6,7,8] [9] [_] (q_mv z z z (q_mv z z z (q_u z z (o_nc z) (q_fa z z fa250_2 z (q_u z z (o_ixA (sz:=1) Tryz.underlying248 (fun _=>by kernel_rfl) z z (gi_some hu87).1) qn))))) ?_ (nxt z)
 refine ec (eo_w z (s_w (ow_if (one_o 2 z) fun ho=>o_stA4 (A:=[vI x29.wide,vW x29.seed]) (B:=[g21.door,vI (i64 (ra25.1.toNat:Int))]) hy86 hu87 sc131 z z z ho)) ?_) en
 rintro _ R _ _ ⟨p89,p90,p91,p92,rfl,rfl,rfl⟩
 refine stage z z z z mk0_ [] [] z z z qn en ?_
 intro _
 refine ex_sub (E':=[(0,pt b0_ 0),(3,vI (i64 (ra2.1.toNat:Int))),(4,pt b30 0),(34,vI s_62),(6,vI s_62)]) ⟨z,z,z,z,z,trivial⟩ ?_
 refine x_seq (csr ?_)
 refine r_mv z (r_mv z (r_nc z (r_fa fa250_2 z ?_)))
 obtain ⟨y93,hy93,hm95⟩:=bs hm88
 refine rl_ex (fun w h=>st_peek 1 hy93 z w h) fun u94 hu94 => ?_
 refine r_u (o_ixA (sz:=1) Tryz.underlying248 (fun _=>by kernel_rfl) z z (gi_some hu94).1) ?_
 refine r_u (o_ldA (o:=2) (n:=4) 0 sc131 z z hu94) ?_
 refine r_u (o_lenK (kn_in 1 z hu94 hy93) Tryz.underlying131 z) (r_mv z ?_)
 refine nsq ?_
 obtain ⟨p96,hp98,hm99⟩:=bs hm95
 refine cd_joinS (p:=p96) (Ef:=fun q97=>[(0,pt b0_ 0),(3,vI (i64 (ra2.1.toNat:Int))),(4,pt b30 0),(34,vI s_62)]) (Lf:=fun q97=>Bk b30 250 [vI x29.wide,vW x29.seed,p89,p90,p91,p92,g21.door,vI (i64 (ra25.1.toNat:Int))]::Bk b0_ 177 (Aa.c ra79.2)::OwL (OwS false 5 1 eY) [p89,p90,p91,p92] (ls c_63 s_62 ra79.1)::OwS true 4 1 eB g21.door x29.door::F) (fun q97 hq => ?_) fun K100 => ?_
 ·subst hq
  try dsimp only at hm99
  refine x_blk ?_
  obtain rfl:=si hm99
  exact x_sub (K76 _ z (p89,p90,p91,p92)) ⟨z,z,z,z,trivial⟩ (pk 4 [0,1,3,2])
 refine c_blk ?_
 refine cd_loop (M:=fun k102 (s_101:Int)=>Cz ra79 y93 k102 s_101=some p96) (Ef:=fun (s_101:Int)=>[(0,pt b0_ 0),(3,vI (i64 (ra2.1.toNat:Int))),(4,pt b30 0),(34,vI s_62),(51,u94),(52,vI (y93.length:Int)),(53,vI s_101)]) (Lf:=fun (s_101:Int)=>Bk b30 250 [vI x29.wide,vW x29.seed,p89,p90,p91,p92,g21.door,vI (i64 (ra25.1.toNat:Int))]::Bk b0_ 177 (Aa.c ra79.2)::OwL (OwS false 5 1 eY) [p89,p90,p91,p92] (ls c_63 s_62 ra79.1)::OwS true 4 1 eB g21.door x29.door::F) (((y93.length:Int)-0).toNat+1) 0 hp98 ⟨z,z,z,z,z,z,z,trivial⟩ (pk 4 [0,2,1,3]) (fun _ h=>by cases h) fun k102 s_101 hM104 => ?_
 have hm103:Cz ra79 y93 (k102+1) s_101=some p96:=hM104
 rw [Cz] at hm103
 refine csr ?_
 refine r_bin z z (bI_lt _ _) ?_
 refine r_nil (x_seq (c_seq ?_))
 refine c_if (b:=decide (s_101<(y93.length:Int))) z (fun h105 => ?_) fun h105 => ?_
 rotate_left
 ·have hm106:=iff_ hm103 h105
  refine c_exit (x_exit (ks':=_) z ?_)
  obtain rfl:=si hm106
  exact x_sub (K100 _ z) ⟨z,z,z,z,trivial⟩ (pk 4 [0,1,2,3])
 have hm106:=ift hm103 h105
 refine c_skip (x_seq (c_seq (c_blk (csr ?_))))
 obtain ⟨x107,hx107,hm108⟩:=bs hm106
 refine r_u (o_ixK (kn_in 2 z hu94 hy93) Tryz.underlying131 (fun _=>by kernel_rfl) z z hx107) ?_
 refine r_u (o_ldK (kn_in 2 z hu94 hy93) 0 sc5 z hx107 z z) (r_as z ?_)
 refine nsq ?_
 obtain ⟨r109,hr109,hm110⟩:=ltx hm108
 rcases r109 with ra111 | ⟨rn112,ro113⟩
 ·have hm114:=sm_l hm110
  refine c_reg ?_
  refine r_mv z (r_mv z (r_bin z z (bY_le _ 15) ?_))
  refine rl_st (fun _ h=>mv1 h) ?_
  refine r_c (s_w (o_callL ca102 z (An.ok b0_ _ _ _ hr109) (fun _ _ _ h=>h))) ?_
  refine r_nil (x_blk (x_seq (c_reg ?_)))
  refine r_bin z z (bI_add _ 1) (r_mv z ?_)
  refine r_nil ?_
  exact x_lp (i64 (s_101+1)) hm114 ⟨z,z,z,z,z,z,z,trivial⟩ (pk 4 [1,0,2,3])
 have hm114:=sm_r hm110
 refine c_reg ?_
 refine r_mv z (r_mv z (r_bin z z (bY_le _ 15) ?_))
 refine rl_st (fun _ h=>mv1 h) ?_
 obtain rfl:=si hm114
 try dsimp only at hm99
 obtain rfl:=si hm99
 try dsimp only at hm75
 obtain rfl:=si hm75
 try dsimp only at hm39
 obtain rfl:=si hm39
 exact r_sw (s_w (o_callR ca102 z (An.ok b0_ _ _ _ hr109) (by rintro _ _ _ ⟨rfl,rfl⟩;exact (px_st (pk 4 [0]) (px_of le_ (.inr ⟨_,z,_,z,z,z⟩)))))) (fun _ _ _ _ h=>h.elim)
def Ce(a0:Ae):Int :=
 a0.wide
theorem Ce.ok{G R F}(b0_:Nat)(a0:Ae)(g0_:Ae.G)(r:Int)(hm:Ce a0=r):CO Tryz.prog 206 [pt b0_ 0] G R (Bk b0_ 250 (Ae.k a0 g0_)::OwL (OwS false 5 1 eY) [g0_.rows.1,g0_.rows.2.1,g0_.rows.2.2.1,g0_.rows.2.2.2] a0.rows::OwS true 4 1 eB g0_.door a0.door::F)
  (Ret fun u R' L'=>u=vI r∧R'=R∧L'=Bk b0_ 250 (Ae.k a0 g0_)::OwL (OwS false 5 1 eY) [g0_.rows.1,g0_.rows.2.1,g0_.rows.2.2.1,g0_.rows.2.2.2] a0.rows::OwS true 4 1 eB g0_.door a0.door::F):=by
 unfold Ce at hm
 refine co_ofN (N:=9) Tryz.func206 z z ?_
 refine csr ?_
 refine r_as z ?_
 refine nssr ?_
 refine r_mv z (r_bin z z (bP_eqp Tryz.underlying194) ?_)
 refine nsq ?_
 refine c_ff z ?_
 refine c_skip (x_seq (csr ?_))
 refine r_mv z (r_nc z (r_fa fa250_0 z (r_ld 0 sc3 z z z (r_as z ?_))))
 refine r_nil (x_seq (c_ret ?_))
 subst hm
 exact x_r1 z (rv_t z) le_ ⟨_,z,z,z,z⟩
def Ds(a0:Aa):Option ((Option Af×Aa)⊕(Int×Aa)) :=
 (Aj a0 1000).bind fun r0=>sm r0 (fun (ra2:UInt64×Aa)=>lt (An ra2.2 (decide (1≤(i64 (ra2.1.toNat:Int))))) fun r7=>sm r7 (fun (ra9:Unit)=>(CK ra2.2).bind fun r13=>sm r13 (fun (ra15:Option Ae×Aa)=>om ra15.1 (none) fun x22=>lt (An ra15.2 ((Ce x22)==(Dg (i64 (ra2.1.toNat:Int))))) fun r28=>sm r28 (fun (ra30:Unit)=>(C6 ra15.2).bind fun r34=>sm r34 (fun (ra36:Option Ab×Aa)=>om ra36.1 (none) fun x44=>if ((AT x44)==3) then (AN (⟨i64 (ra2.1.toNat:Int),(some x22),(some x44)⟩:Af)).bind fun r54=>if ((i64 ((AI x44)+r54))==(i64 ((i64 (ra2.1.toNat:Int))+1))) then if decide (r54≤(i64 (ra2.1.toNat:Int))) then (Aq x44 0).bind fun r60=>if decide (r60≤((BH (i64 (ra2.1.toNat:Int))).Window)) then (Aq x44 2).bind fun r64=>lt (An ra36.2 (decide (r64≤((BH (i64 (ra2.1.toNat:Int))).Protected)))) fun r66=>sm r66 (fun (ra68:Unit)=>some (Sum.inl ((some (⟨i64 (ra2.1.toNat:Int),(some x22),(some x44)⟩:Af)),ra36.2))) fun ((rn69,ro70):Int×Unit)=>some (Sum.inr (rn69,ra36.2)) else lt (An ra36.2 false) fun r72=>sm r72 (fun (ra74:Unit)=>some (Sum.inl ((some (⟨i64 (ra2.1.toNat:Int),(some x22),(some x44)⟩:Af)),ra36.2))) fun ((rn75,ro76):Int×Unit)=>some (Sum.inr (rn75,ra36.2)) else lt (An ra36.2 false) fun r78=>sm r78 (fun (ra80:Unit)=>some (Sum.inl ((some (⟨i64 (ra2.1.toNat:Int),(some x22),(some x44)⟩:Af)),ra36.2))) fun ((rn81,ro82):Int×Unit)=>some (Sum.inr (rn81,ra36.2)) else lt (An ra36.2 false) fun r84=>sm r84 (fun (ra86:Unit)=>some (Sum.inl ((some (⟨i64 (ra2.1.toNat:Int),(some x22),(some x44)⟩:Af)),ra36.2))) fun ((rn87,ro88):Int×Unit)=>some (Sum.inr (rn87,ra36.2)) else lt (An ra36.2 false) fun r90=>sm r90 (fun (ra92:Unit)=>some (Sum.inl ((some (⟨i64 (ra2.1.toNat:Int),(some x22),(some x44)⟩:Af)),ra36.2))) fun ((rn93,ro94):Int×Unit)=>some (Sum.inr (rn93,ra36.2))) fun ((rn37,ro38):Int×Aa)=>some (Sum.inr (rn37,ro38))) fun ((rn31,ro32):Int×Unit)=>some (Sum.inr (rn31,ra15.2))) fun ((rn16,ro17):Int×Aa)=>some (Sum.inr (rn16,ro17))) fun ((rn10,ro11):Int×Unit)=>some (Sum.inr (rn10,ra2.2))) fun ((rn3,ro4):Int×Aa)=>some (Sum.inr (rn3,ro4))
theorem Ds.ok{G R F}(b0_:Nat)(a0:Aa)(r:(Option Af×Aa)⊕(Int×Aa))(hm:Ds a0=some r):CO Tryz.prog 156 [pt b0_ 0] G R (Bk b0_ 177 (Aa.c a0)::F)
  (PK 175 r (fun (a:Option Af×Aa) u R' L'=>∃(p0:Value×Af.G),u=p0.1∧R'=R∧L'=rO (Af.op p0.2) p0.1 a.1::Bk b0_ 177 (Aa.c a.2)::F) (fun n (o:Aa) R' L'=>R'=R∧L'=Bk b0_ 177 (Aa.c o)::F)):=by
 unfold Ds at hm
 refine co_ofN (N:=99) Tryz.func156 z z ?_
 refine csr ?_
 refine r_as z ?_
 refine r_nil (x_seq (c_seq ?_))
 obtain ⟨r0,hr0,hm1⟩:=bs hm
 rcases r0 with ra2 | ⟨rn3,ro4⟩
 rotate_left
 ·have hm5:=sm_r hm1
  refine c_reg ?_
  refine r_mv z ?_
  obtain rfl:=si hm5
  exact r_sw (s_w (o_callR ca101 z (Aj.ok b0_ a0 1000 _ hr0) (by rintro _ _ _ ⟨rfl,rfl⟩;exact (px_st (pk 1 [0]) (px_of le_ (.inr ⟨_,z,_,z,z,z⟩)))))) (fun _ _ _ _ h=>h.elim)
 have hm5:=sm_l hm1
 refine c_reg ?_
 refine r_mv z ?_
 refine r_c (s_w (o_callL ca101 z (Aj.ok b0_ a0 1000 _ hr0) (fun _ _ _ h=>h))) ?_
 refine r_u (o_cv z (cWI Tryz.underlying22 Tryz.underlying3 ra2.1)) ?_
 refine r_u (o_bld [vI (i64 (ra2.1.toNat:Int)),nl,nl] z (fun _=>by kernel_rfl)) ?_
 refine r_new (o_bx [vI (i64 (ra2.1.toNat:Int)),nl,nl] z z) fun b6 => ?_
 refine r_as z ?_
 refine r_nil (x_seq (c_seq ?_))
 obtain ⟨r7,hr7,hm8⟩:=ltx hm5
 rcases r7 with ra9 | ⟨rn10,ro11⟩
 rotate_left
 ·have hm12:=sm_r hm8
  refine c_reg ?_
  refine r_mv z (r_mv z (r_nc z (r_fa fa196_0 z (r_ld 0 sc3 z z z (r_bin z z (bI_ge _ 1) ?_)))))
  refine rl_st (fun _ h=>mv1 h) ?_
  obtain rfl:=si hm12
  exact r_sw (s_w (o_callR ca102 z (An.ok b0_ _ _ _ hr7) (by rintro _ _ _ ⟨rfl,rfl⟩;exact (px_st (pk 2 [0]) (px_of le_ (.inr ⟨_,z,_,z,z,z⟩)))))) (fun _ _ _ _ h=>h.elim)
 have hm12:=sm_l hm8
 refine c_reg ?_
 refine r_mv z (r_mv z (r_nc z (r_fa fa196_0 z (r_ld 0 sc3 z z z (r_bin z z (bI_ge _ 1) ?_)))))
 refine rl_st (fun _ h=>mv1 h) ?_
 refine r_c (s_w (o_callL ca102 z (An.ok b0_ _ _ _ hr7) (fun _ _ _ h=>h))) ?_
 refine r_nil (x_seq (c_seq ?_))
 obtain ⟨r13,hr13,hm14⟩:=bs hm12
 rcases r13 with ra15 | ⟨rn16,ro17⟩
 rotate_left
 ·have hm18:=sm_r hm14
  refine c_reg ?_
  refine r_mv z (r_mv z ?_)
  obtain rfl:=si hm18
  exact r_sw (s_w (o_callR ca205 z (CK.ok b0_ _ _ hr13) (by rintro _ _ _ ⟨rfl,rfl⟩;exact (px_st (pk 2 [0]) (px_of le_ (.inr ⟨_,z,_,z,z,z⟩)))))) (fun _ _ _ _ h=>h.elim)
 have hm18:=sm_l hm14
 refine c_reg ?_
 refine r_mv z (r_mv z ?_)
 refine r_sw (s_w (o_callL ca205 z (CK.ok b0_ _ _ hr13) (fun _ _ _ h=>h))) ?_
 rintro pv20 R _ _ ⟨⟨_,g21⟩,rfl,rfl,rfl⟩
 refine r_nc z (r_fa fa196_1 z ?_)
 refine rl_st (fun _ h=>mv2 h) ?_
 refine r_u0 (ou_if (one_p 1 z) fun ho0=>o_st sc194 z z z ho0 z z) ?_
 refine r_nil (x_seq (c_seq ?_))
 refine cd_st (fun _ h=>mv1 h) ?_
 refine cd_opt (fun ho24 => ?_) (fun x22 b23 ho24 => ?_)
 ·rintro rfl
  have hm25:=om_n hm18 ho24
  cases hm25
 rintro rfl
 have hm25:=om_s hm18 ho24
 refine cd_st (fun _ h=>st_star_o h) ?_
 obtain ⟨r28,hr28,hm29⟩:=ltx hm25
 rcases r28 with ra30 | ⟨rn31,ro32⟩
 rotate_left
 ·have hm33:=sm_r hm29
  refine c_any mixed (effs:=[12]) (V:=[]) ?_
  refine stage_st (fun _ h=>mv4 h) ?_
  refine stn mk14_ [0,1,2,3,4,5,6,7,8,9,10,11] [12] [_,_,_,_,_,_,_,_,_,_,_,_] (q_mv z z z (q_mv z z z (q_u z z (o_nc z) (q_fa z z fa196_1 z (q_ld z z 4 sc194 z z z (q_u z z (o_callqP ca206 z (Ce.ok b23 x22 g21 _ z) (pk 5 [1,2,3,0,4]) (pk 5 [3,0,1,2,4])) (q_mv z z z (q_u z z (o_nc z) (q_fa z z fa196_0 z (q_ld z z 4 sc3 z z z (q_u z z (o_callq ca130 z (Dg.ok (i64 (ra2.1.toNat:Int)) _ z)) (q_u z z (o_bin z z (bI_eq _ _)) qn)))))))))))) ?_ (nxt z)
  obtain rfl:=si hm33
  exact ec (eo_w z (s_w (o_callR ca102 z (An.ok b0_ _ _ _ hr28) (by rintro _ _ _ ⟨rfl,rfl⟩;exact (px_st (pk 5 [0]) (px_of le_ (.inr ⟨_,z,_,z,z,z⟩)))))) (fun _ _ _ _ h=>h.elim)) en
 have hm33:=sm_l hm29
 refine c_any mixed (effs:=[12]) (V:=[]) ?_
 refine stage_st (fun _ h=>mv4 h) ?_
 refine stn mk14_ [0,1,2,3,4,5,6,7,8,9,10,11] [12] [_,_,_,_,_,_,_,_,_,_,_,_] (q_mv z z z (q_mv z z z (q_u z z (o_nc z) (q_fa z z fa196_1 z (q_ld z z 4 sc194 z z z (q_u z z (o_callqP ca206 z (Ce.ok b23 x22 g21 _ z) (pk 5 [1,2,3,0,4]) (pk 5 [3,0,1,2,4])) (q_mv z z z (q_u z z (o_nc z) (q_fa z z fa196_0 z (q_ld z z 4 sc3 z z z (q_u z z (o_callq ca130 z (Dg.ok (i64 (ra2.1.toNat:Int)) _ z)) (q_u z z (o_bin z z (bI_eq _ _)) qn)))))))))))) ?_ (nxt z)
 refine ec (eo_c z (s_w (o_callL ca102 z (An.ok b0_ _ _ _ hr28) (fun _ _ _ h=>h))) ?_) en
 refine stage z z z z mk14_ [] [] z z z qn en ?_
 intro _
 refine ex_sub (E':=[(0,pt b0_ 0),(3,pt b6 0)]) ⟨z,z,trivial⟩ ?_
 refine x_seq (c_seq ?_)
 obtain ⟨r34,hr34,hm35⟩:=bs hm33
 rcases r34 with ra36 | ⟨rn37,ro38⟩
 rotate_left
 ·have hm39:=sm_r hm35
  refine c_reg ?_
  refine r_mv z (r_mv z ?_)
  obtain rfl:=si hm39
  exact r_sw (s_w (o_callR ca202 z (C6.ok b0_ _ _ hr34) (by rintro _ _ _ ⟨rfl,rfl⟩;exact (px_st (pk 5 [0]) (px_of le_ (.inr ⟨_,z,_,z,z,z⟩)))))) (fun _ _ _ _ h=>h.elim)
 have hm39:=sm_l hm35
 refine c_reg ?_
 refine r_mv z (r_mv z ?_)
 refine r_sw (s_w (o_callL ca202 z (C6.ok b0_ _ _ hr34) (fun _ _ _ h=>h))) ?_
 rintro pv41 R _ _ ⟨⟨_,g42⟩,rfl,rfl,rfl⟩
 refine r_nc z (r_fa fa196_2 z ?_)
 refine rl_st (fun _ h=>mv5 h) ?_
 refine r_u0 (ou_if (one_p 1 z) fun ho0=>o_st sc191 z z z ho0 z z) ?_
 refine nsr ?_
 refine r_mv z (r_nc z (r_fa fa196_0 z (r_ld 0 sc3 z z z ?_)))
 refine r_u (o_callq ca165 z (BH.ok (i64 (ra2.1.toNat:Int)) _ z)) ?_
 refine r_new (o_al ze243) fun b43 => ?_
 refine r_u0 (o_stn ag243 z z z z z z z) ?_
 refine r_nil (x_seq (c_seq ?_))
 refine cd_st (fun _ h=>mv2 h) ?_
 refine cd_opt (fun ho46 => ?_) (fun x44 b45 ho46 => ?_)
 ·rintro rfl
  have hm47:=om_n hm39 ho46
  cases hm47
 rintro rfl
 have hm47:=om_s hm39 ho46
 refine cd_st (fun _ h=>st_star_o h) ?_
 refine cd_by ((AT x44)==3) (fun h52 => ?_) fun h52 => ?_
 rotate_left
 ·have hm53:=iff_ hm47 h52
  obtain ⟨r90,hr90,hm91⟩:=ltx hm53
  rcases r90 with ra92 | ⟨rn93,ro94⟩
  rotate_left
  ·have hm95:=sm_r hm91
   refine c_any mixed (effs:=[52]) (V:=[]) ?_
   refine stage_st (fun _ h=>mv7 h) ?_
   refine stn mk17_ [0,1,2,3,4,5,6,7,8,9,10,11,12,13,14,15,16,17,18,19,20,21,22,23,24,25,26,27,28,29,30,31,32,33,34,35,36,37,38,39,40,41,42,43,44,45,46,47,48,49,50,51] [52] [_,_,_,_,_,_,_,_,_,_,_,_,_,_,_,_,_,_,_,_,_,_,_,_,_,_,_,_,_,_,_,_,_,_,_,_,_,_,_,_,_,_,_,_,_,_,_,_,_,_,_,_] (q_mv z z z (q_mv z z z (q_u z z (o_nc z) (q_fa z z fa196_2 z (q_ld z z 7 sc191 z z z (q_u z z (o_callqP ca204 z (AT.ok b45 x44 g42 _ z) (pk 11 [1,2,3,4,5,0,6,7,8,9,10]) (pk 11 [5,0,1,2,3,4,6,7,8,9,10])) (q_u z z (o_bin z z (bI_eq _ 3)) (q_mv z z z (q_n z z z z h52 (q_n z z z z h52 (q_n z z z z h52 (q_n z z z z h52 (q_n z z z z h52 (q_n z z z z h52 (q_n z z z z h52 (q_n z z z z h52 (q_n z z z z h52 (q_n z z z z h52 (q_n z z z z h52 (q_n z z z z h52 (q_n z z z z h52 (q_n z z z z h52 (q_u z z (o_pf z h52 z) (q_mv z z z (q_n z z z z z (q_n z z z z z (q_n z z z z z (q_n z z z z z (q_n z z z z z (q_n z z z z z (q_n z z z z z (q_u z z (o_pf z z z) (q_mv z z z (q_n z z z z z (q_n z z z z z (q_n z z z z z (q_n z z z z z (q_n z z z z z (q_n z z z z z (q_n z z z z z (q_n z z z z z (q_u z z (o_pf z z z) (q_mv z z z (q_n z z z z z (q_n z z z z z (q_n z z z z z (q_n z z z z z (q_n z z z z z (q_n z z z z z (q_n z z z z z (q_n z z z z z (q_u z z (o_pf z z z) qn)))))))))))))))))))))))))))))))))))))))))))))))))))) ?_ (nxt z)
   obtain rfl:=si hm95
   exact ec (eo_w z (s_w (o_callR ca102 z (An.ok b0_ _ _ _ hr90) (by rintro _ _ _ ⟨rfl,rfl⟩;exact (px_st (pk 11 [0]) (px_of le_ (.inr ⟨_,z,_,z,z,z⟩)))))) (fun _ _ _ _ h=>h.elim)) en
  have hm95:=sm_l hm91
  refine c_any mixed (effs:=[52]) (V:=[]) ?_
  refine stage_st (fun _ h=>mv7 h) ?_
  refine stn mk17_ [0,1,2,3,4,5,6,7,8,9,10,11,12,13,14,15,16,17,18,19,20,21,22,23,24,25,26,27,28,29,30,31,32,33,34,35,36,37,38,39,40,41,42,43,44,45,46,47,48,49,50,51] [52] [_,_,_,_,_,_,_,_,_,_,_,_,_,_,_,_,_,_,_,_,_,_,_,_,_,_,_,_,_,_,_,_,_,_,_,_,_,_,_,_,_,_,_,_,_,_,_,_,_,_,_,_] (q_mv z z z (q_mv z z z (q_u z z (o_nc z) (q_fa z z fa196_2 z (q_ld z z 7 sc191 z z z (q_u z z (o_callqP ca204 z (AT.ok b45 x44 g42 _ z) (pk 11 [1,2,3,4,5,0,6,7,8,9,10]) (pk 11 [5,0,1,2,3,4,6,7,8,9,10])) (q_u z z (o_bin z z (bI_eq _ 3)) (q_mv z z z (q_n z z z z h52 (q_n z z z z h52 (q_n z z z z h52 (q_n z z z z h52 (q_n z z z z h52 (q_n z z z z h52 (q_n z z z z h52 (q_n z z z z h52 (q_n z z z z h52 (q_n z z z z h52 (q_n z z z z h52 (q_n z z z z h52 (q_n z z z z h52 (q_n z z z z h52 (q_u z z (o_pf z h52 z) (q_mv z z z (q_n z z z z z (q_n z z z z z (q_n z z z z z (q_n z z z z z (q_n z z z z z (q_n z z z z z (q_n z z z z z (q_u z z (o_pf z z z) (q_mv z z z (q_n z z z z z (q_n z z z z z (q_n z z z z z (q_n z z z z z (q_n z z z z z (q_n z z z z z (q_n z z z z z (q_n z z z z z (q_u z z (o_pf z z z) (q_mv z z z (q_n z z z z z (q_n z z z z z (q_n z z z z z (q_n z z z z z (q_n z z z z z (q_n z z z z z (q_n z z z z z (q_n z z z z z (q_u z z (o_pf z z z) qn)))))))))))))))))))))))))))))))))))))))))))))))))))) ?_ (nxt z)
  refine ec (eo_c z (s_w (o_callL ca102 z (An.ok b0_ _ _ _ hr90) (fun _ _ _ h=>h))) ?_) en
  refine stage z z z z mk17_ [] [] z z z qn en ?_
  intro _
  refine ex_sub (E':=[(3,pt b6 0)]) ⟨z,trivial⟩ ?_
  refine x_seq (csr ?_)
  refine r_mv z (r_as z ?_)
  refine r_nil (x_seq (c_ret ?_))
  refine ex_st (fun _ h=>mv10 (mv10 (mv10 h))) ?_
  refine ex_st (fun _ h=>st_some (f:=Ae.op g21) (a:=x22) (st_star_f (A:=Ae.fl b23 x22 g21) h)) ?_
  refine ex_st (fun _ h=>mv6 (mv6 (mv6 (mv6 (mv6 h))))) ?_
  refine ex_st (fun _ h=>st_some (f:=Ab.op g42) (a:=x44) (st_star_f (A:=Ab.fl b45 x44 g42) h)) ?_
  refine ex_st (fun _ h=>mv4 (mv1 h)) ?_
  refine ex_st (fun _ h=>st_some (f:=Af.op (⟨(pt b23 0,g21),(pt b45 0,g42)⟩:Af.G)) (a:=(⟨i64 (ra2.1.toNat:Int),(some x22),(some x44)⟩:Af)) (st_star_f (A:=Af.fl b6 (⟨i64 (ra2.1.toNat:Int),(some x22),(some x44)⟩:Af) (⟨(pt b23 0,g21),(pt b45 0,g42)⟩:Af.G)) h)) ?_
  obtain rfl:=si hm95
  refine ex_st (pk 3 [0,1]) ?_
  exact x_r1 z (rv_t z) le_ (.inl ⟨_,z,_,z,(pt b6 0,(⟨(pt b23 0,g21),(pt b45 0,g42)⟩:Af.G)),z,z,z⟩)
 have hm53:=ift hm47 h52
 obtain ⟨r54,hr54,hm55⟩:=bs hm53
 refine cd_by ((i64 ((AI x44)+r54))==(i64 ((i64 (ra2.1.toNat:Int))+1))) (fun h56 => ?_) fun h56 => ?_
 rotate_left
 ·have hm57:=iff_ hm55 h56
  obtain ⟨r84,hr84,hm85⟩:=ltx hm57
  rcases r84 with ra86 | ⟨rn87,ro88⟩
  rotate_left
  ·have hm89:=sm_r hm85
   refine c_any mixed (effs:=[52]) (V:=[]) ?_
   refine stage_st (fun _ h=>mv7 h) ?_
   refine stn mk17_ [0,1,2,3,4,5,6,7,8,9,10,11,12,13,14,15,16,17,18,19,20,21,22,23,24,25,26,27,28,29,30,31,32,33,34,35,36,37,38,39,40,41,42,43,44,45,46,47,48,49,50,51] [52] [_,_,_,_,_,_,_,_,_,_,_,_,_,_,_,_,_,_,_,_,_,_,_,_,_,_,_,_,_,_,_,_,_,_,_,_,_,_,_,_,_,_,_,_,_,_,_,_,_,_,_,_] (q_mv z z z (q_mv z z z (q_u z z (o_nc z) (q_fa z z fa196_2 z (q_ld z z 7 sc191 z z z (q_u z z (o_callqP ca204 z (AT.ok b45 x44 g42 _ z) (pk 11 [1,2,3,4,5,0,6,7,8,9,10]) (pk 11 [5,0,1,2,3,4,6,7,8,9,10])) (q_u z z (o_bin z z (bI_eq _ 3)) (q_mv z z z (q_y z z z z h52 (o_mv z) (q_y z z z z h52 (o_nc z) (q_y z z z z h52 (o_fa fa196_2 z) (q_y z z z z h52 (o_ld 7 sc191 z z z) (q_y z z z z h52 (o_callqP ca203 z (AI.ok b45 x44 g42 _ z) (pk 11 [1,2,3,4,5,0,6,7,8,9,10]) (pk 11 [5,0,1,2,3,4,6,7,8,9,10])) (q_y z z z z h52 (o_mv z) (q_y z z z z h52 (o_callqP ca158 z (AN.ok b6 (⟨i64 (ra2.1.toNat:Int),(some x22),(some x44)⟩:Af) (⟨(pt b23 0,g21),(pt b45 0,g42)⟩:Af.G) _ hr54) (fun _ h=>mv4 (mv1 (st_some (f:=Ab.op g42) (a:=x44) (st_star_f (A:=Ab.fl b45 x44 g42) (mv6 (mv6 (mv6 (mv6 (mv6 (st_some (f:=Ae.op g21) (a:=x22) (st_star_f (A:=Ae.fl b23 x22 g21) (mv10 (mv10 (mv10 h)))))))))))))) (fun _ h=>st_pk 11 [9,0,1,2,3,4,10,8,5,6,7] (by decide) (st_star_o (st_some_o (mv4 (st_star_o (st_some_o (mv1 h)))))))) (q_y z z z z h52 (o_bin z z (bI_add _ _)) (q_y z z z z h52 (o_mv z) (q_y z z z z h52 (o_nc z) (q_y z z z z h52 (o_fa fa196_0 z) (q_y z z z z h52 (o_ld 7 sc3 z z z) (q_y z z z z h52 (o_bin z z (bI_add _ 1)) (q_y z z z z h52 (o_bin z z (bI_eq _ _)) (q_u z z (o_pt z h52 z) (q_mv z z z (q_n z z z z h56 (q_n z z z z h56 (q_n z z z z h56 (q_n z z z z h56 (q_n z z z z h56 (q_n z z z z h56 (q_n z z z z h56 (q_u z z (o_pf z h56 z) (q_mv z z z (q_n z z z z z (q_n z z z z z (q_n z z z z z (q_n z z z z z (q_n z z z z z (q_n z z z z z (q_n z z z z z (q_n z z z z z (q_u z z (o_pf z z z) (q_mv z z z (q_n z z z z z (q_n z z z z z (q_n z z z z z (q_n z z z z z (q_n z z z z z (q_n z z z z z (q_n z z z z z (q_n z z z z z (q_u z z (o_pf z z z) qn)))))))))))))))))))))))))))))))))))))))))))))))))))) ?_ (nxt z)
   obtain rfl:=si hm89
   exact ec (eo_w z (s_w (o_callR ca102 z (An.ok b0_ _ _ _ hr84) (by rintro _ _ _ ⟨rfl,rfl⟩;exact (px_st (pk 11 [0]) (px_of le_ (.inr ⟨_,z,_,z,z,z⟩)))))) (fun _ _ _ _ h=>h.elim)) en
  have hm89:=sm_l hm85
  refine c_any mixed (effs:=[52]) (V:=[]) ?_
  refine stage_st (fun _ h=>mv7 h) ?_
  refine stn mk17_ [0,1,2,3,4,5,6,7,8,9,10,11,12,13,14,15,16,17,18,19,20,21,22,23,24,25,26,27,28,29,30,31,32,33,34,35,36,37,38,39,40,41,42,43,44,45,46,47,48,49,50,51] [52] [_,_,_,_,_,_,_,_,_,_,_,_,_,_,_,_,_,_,_,_,_,_,_,_,_,_,_,_,_,_,_,_,_,_,_,_,_,_,_,_,_,_,_,_,_,_,_,_,_,_,_,_] (q_mv z z z (q_mv z z z (q_u z z (o_nc z) (q_fa z z fa196_2 z (q_ld z z 7 sc191 z z z (q_u z z (o_callqP ca204 z (AT.ok b45 x44 g42 _ z) (pk 11 [1,2,3,4,5,0,6,7,8,9,10]) (pk 11 [5,0,1,2,3,4,6,7,8,9,10])) (q_u z z (o_bin z z (bI_eq _ 3)) (q_mv z z z (q_y z z z z h52 (o_mv z) (q_y z z z z h52 (o_nc z) (q_y z z z z h52 (o_fa fa196_2 z) (q_y z z z z h52 (o_ld 7 sc191 z z z) (q_y z z z z h52 (o_callqP ca203 z (AI.ok b45 x44 g42 _ z) (pk 11 [1,2,3,4,5,0,6,7,8,9,10]) (pk 11 [5,0,1,2,3,4,6,7,8,9,10])) (q_y z z z z h52 (o_mv z) (q_y z z z z h52 (o_callqP ca158 z (AN.ok b6 (⟨i64 (ra2.1.toNat:Int),(some x22),(some x44)⟩:Af) (⟨(pt b23 0,g21),(pt b45 0,g42)⟩:Af.G) _ hr54) (fun _ h=>mv4 (mv1 (st_some (f:=Ab.op g42) (a:=x44) (st_star_f (A:=Ab.fl b45 x44 g42) (mv6 (mv6 (mv6 (mv6 (mv6 (st_some (f:=Ae.op g21) (a:=x22) (st_star_f (A:=Ae.fl b23 x22 g21) (mv10 (mv10 (mv10 h)))))))))))))) (fun _ h=>st_pk 11 [9,0,1,2,3,4,10,8,5,6,7] (by decide) (st_star_o (st_some_o (mv4 (st_star_o (st_some_o (mv1 h)))))))) (q_y z z z z h52 (o_bin z z (bI_add _ _)) (q_y z z z z h52 (o_mv z) (q_y z z z z h52 (o_nc z) (q_y z z z z h52 (o_fa fa196_0 z) (q_y z z z z h52 (o_ld 7 sc3 z z z) (q_y z z z z h52 (o_bin z z (bI_add _ 1)) (q_y z z z z h52 (o_bin z z (bI_eq _ _)) (q_u z z (o_pt z h52 z) (q_mv z z z (q_n z z z z h56 (q_n z z z z h56 (q_n z z z z h56 (q_n z z z z h56 (q_n z z z z h56 (q_n z z z z h56 (q_n z z z z h56 (q_u z z (o_pf z h56 z) (q_mv z z z (q_n z z z z z (q_n z z z z z (q_n z z z z z (q_n z z z z z (q_n z z z z z (q_n z z z z z (q_n z z z z z (q_n z z z z z (q_u z z (o_pf z z z) (q_mv z z z (q_n z z z z z (q_n z z z z z (q_n z z z z z (q_n z z z z z (q_n z z z z z (q_n z z z z z (q_n z z z z z (q_n z z z z z (q_u z z (o_pf z z z) qn)))))))))))))))))))))))))))))))))))))))))))))))))))) ?_ (nxt z)
  refine ec (eo_c z (s_w (o_callL ca102 z (An.ok b0_ _ _ _ hr84) (fun _ _ _ h=>h))) ?_) en
  refine stage z z z z mk17_ [] [] z z z qn en ?_
  intro _
  refine ex_sub (E':=[(3,pt b6 0)]) ⟨z,trivial⟩ ?_
  refine x_seq (csr ?_)
  refine r_mv z (r_as z ?_)
  refine r_nil (x_seq (c_ret ?_))
  refine ex_st (fun _ h=>mv10 (mv10 (mv10 h))) ?_
  refine ex_st (fun _ h=>st_some (f:=Ae.op g21) (a:=x22) (st_star_f (A:=Ae.fl b23 x22 g21) h)) ?_
  refine ex_st (fun _ h=>mv6 (mv6 (mv6 (mv6 (mv6 h))))) ?_
  refine ex_st (fun _ h=>st_some (f:=Ab.op g42) (a:=x44) (st_star_f (A:=Ab.fl b45 x44 g42) h)) ?_
  refine ex_st (fun _ h=>mv4 (mv1 h)) ?_
  refine ex_st (fun _ h=>st_some (f:=Af.op (⟨(pt b23 0,g21),(pt b45 0,g42)⟩:Af.G)) (a:=(⟨i64 (ra2.1.toNat:Int),(some x22),(some x44)⟩:Af)) (st_star_f (A:=Af.fl b6 (⟨i64 (ra2.1.toNat:Int),(some x22),(some x44)⟩:Af) (⟨(pt b23 0,g21),(pt b45 0,g42)⟩:Af.G)) h)) ?_
  obtain rfl:=si hm89
  refine ex_st (pk 3 [0,1]) ?_
  exact x_r1 z (rv_t z) le_ (.inl ⟨_,z,_,z,(pt b6 0,(⟨(pt b23 0,g21),(pt b45 0,g42)⟩:Af.G)),z,z,z⟩)
 have hm57:=ift hm55 h56
 refine cd_by (decide (r54≤(i64 (ra2.1.toNat:Int)))) (fun h58 => ?_) fun h58 => ?_
 rotate_left
 ·have hm59:=iff_ hm57 h58
  obtain ⟨r78,hr78,hm79⟩:=ltx hm59
  rcases r78 with ra80 | ⟨rn81,ro82⟩
  rotate_left
  ·have hm83:=sm_r hm79
   refine c_any mixed (effs:=[52]) (V:=[]) ?_
   refine stage_st (fun _ h=>mv7 h) ?_
   refine stn mk17_ [0,1,2,3,4,5,6,7,8,9,10,11,12,13,14,15,16,17,18,19,20,21,22,23,24,25,26,27,28,29,30,31,32,33,34,35,36,37,38,39,40,41,42,43,44,45,46,47,48,49,50,51] [52] [_,_,_,_,_,_,_,_,_,_,_,_,_,_,_,_,_,_,_,_,_,_,_,_,_,_,_,_,_,_,_,_,_,_,_,_,_,_,_,_,_,_,_,_,_,_,_,_,_,_,_,_] (q_mv z z z (q_mv z z z (q_u z z (o_nc z) (q_fa z z fa196_2 z (q_ld z z 7 sc191 z z z (q_u z z (o_callqP ca204 z (AT.ok b45 x44 g42 _ z) (pk 11 [1,2,3,4,5,0,6,7,8,9,10]) (pk 11 [5,0,1,2,3,4,6,7,8,9,10])) (q_u z z (o_bin z z (bI_eq _ 3)) (q_mv z z z (q_y z z z z h52 (o_mv z) (q_y z z z z h52 (o_nc z) (q_y z z z z h52 (o_fa fa196_2 z) (q_y z z z z h52 (o_ld 7 sc191 z z z) (q_y z z z z h52 (o_callqP ca203 z (AI.ok b45 x44 g42 _ z) (pk 11 [1,2,3,4,5,0,6,7,8,9,10]) (pk 11 [5,0,1,2,3,4,6,7,8,9,10])) (q_y z z z z h52 (o_mv z) (q_y z z z z h52 (o_callqP ca158 z (AN.ok b6 (⟨i64 (ra2.1.toNat:Int),(some x22),(some x44)⟩:Af) (⟨(pt b23 0,g21),(pt b45 0,g42)⟩:Af.G) _ hr54) (fun _ h=>mv4 (mv1 (st_some (f:=Ab.op g42) (a:=x44) (st_star_f (A:=Ab.fl b45 x44 g42) (mv6 (mv6 (mv6 (mv6 (mv6 (st_some (f:=Ae.op g21) (a:=x22) (st_star_f (A:=Ae.fl b23 x22 g21) (mv10 (mv10 (mv10 h)))))))))))))) (fun _ h=>st_pk 11 [9,0,1,2,3,4,10,8,5,6,7] (by decide) (st_star_o (st_some_o (mv4 (st_star_o (st_some_o (mv1 h)))))))) (q_y z z z z h52 (o_bin z z (bI_add _ _)) (q_y z z z z h52 (o_mv z) (q_y z z z z h52 (o_nc z) (q_y z z z z h52 (o_fa fa196_0 z) (q_y z z z z h52 (o_ld 7 sc3 z z z) (q_y z z z z h52 (o_bin z z (bI_add _ 1)) (q_y z z z z h52 (o_bin z z (bI_eq _ _)) (q_u z z (o_pt z h52 z) (q_mv z z z (q_y z z z z h56 (o_mv z) (q_y z z z z h56 (o_callqP ca158 z (AN.ok b6 (⟨i64 (ra2.1.toNat:Int),(some x22),(some x44)⟩:Af) (⟨(pt b23 0,g21),(pt b45 0,g42)⟩:Af.G) _ hr54) (fun _ h=>mv4 (mv1 (st_some (f:=Ab.op g42) (a:=x44) (st_star_f (A:=Ab.fl b45 x44 g42) (mv6 (mv6 (mv6 (mv6 (mv6 (st_some (f:=Ae.op g21) (a:=x22) (st_star_f (A:=Ae.fl b23 x22 g21) (mv10 (mv10 (mv10 h)))))))))))))) (fun _ h=>st_pk 11 [9,0,1,2,3,4,10,8,5,6,7] (by decide) (st_star_o (st_some_o (mv4 (st_star_o (st_some_o (mv1 h)))))))) (q_y z z z z h56 (o_mv z) (q_y z z z z h56 (o_nc z) (q_y z z z z h56 (o_fa fa196_0 z) (q_y z z z z h56 (o_ld 7 sc3 z z z) (q_y z z z z h56 (o_bin z z (bI_le _ _)) (q_u z z (o_pt z h56 z) (q_mv z z z (q_n z z z z h58 (q_n z z z z h58 (q_n z z z z h58 (q_n z z z z h58 (q_n z z z z h58 (q_n z z z z h58 (q_n z z z z h58 (q_n z z z z h58 (q_u z z (o_pf z h58 z) (q_mv z z z (q_n z z z z z (q_n z z z z z (q_n z z z z z (q_n z z z z z (q_n z z z z z (q_n z z z z z (q_n z z z z z (q_n z z z z z (q_u z z (o_pf z z z) qn)))))))))))))))))))))))))))))))))))))))))))))))))))) ?_ (nxt z)
   obtain rfl:=si hm83
   exact ec (eo_w z (s_w (o_callR ca102 z (An.ok b0_ _ _ _ hr78) (by rintro _ _ _ ⟨rfl,rfl⟩;exact (px_st (pk 11 [0]) (px_of le_ (.inr ⟨_,z,_,z,z,z⟩)))))) (fun _ _ _ _ h=>h.elim)) en
  have hm83:=sm_l hm79
  refine c_any mixed (effs:=[52]) (V:=[]) ?_
  refine stage_st (fun _ h=>mv7 h) ?_
  refine stn mk17_ [0,1,2,3,4,5,6,7,8,9,10,11,12,13,14,15,16,17,18,19,20,21,22,23,24,25,26,27,28,29,30,31,32,33,34,35,36,37,38,39,40,41,42,43,44,45,46,47,48,49,50,51] [52] [_,_,_,_,_,_,_,_,_,_,_,_,_,_,_,_,_,_,_,_,_,_,_,_,_,_,_,_,_,_,_,_,_,_,_,_,_,_,_,_,_,_,_,_,_,_,_,_,_,_,_,_] (q_mv z z z (q_mv z z z (q_u z z (o_nc z) (q_fa z z fa196_2 z (q_ld z z 7 sc191 z z z (q_u z z (o_callqP ca204 z (AT.ok b45 x44 g42 _ z) (pk 11 [1,2,3,4,5,0,6,7,8,9,10]) (pk 11 [5,0,1,2,3,4,6,7,8,9,10])) (q_u z z (o_bin z z (bI_eq _ 3)) (q_mv z z z (q_y z z z z h52 (o_mv z) (q_y z z z z h52 (o_nc z) (q_y z z z z h52 (o_fa fa196_2 z) (q_y z z z z h52 (o_ld 7 sc191 z z z) (q_y z z z z h52 (o_callqP ca203 z (AI.ok b45 x44 g42 _ z) (pk 11 [1,2,3,4,5,0,6,7,8,9,10]) (pk 11 [5,0,1,2,3,4,6,7,8,9,10])) (q_y z z z z h52 (o_mv z) (q_y z z z z h52 (o_callqP ca158 z (AN.ok b6 (⟨i64 (ra2.1.toNat:Int),(some x22),(some x44)⟩:Af) (⟨(pt b23 0,g21),(pt b45 0,g42)⟩:Af.G) _ hr54) (fun _ h=>mv4 (mv1 (st_some (f:=Ab.op g42) (a:=x44) (st_star_f (A:=Ab.fl b45 x44 g42) (mv6 (mv6 (mv6 (mv6 (mv6 (st_some (f:=Ae.op g21) (a:=x22) (st_star_f (A:=Ae.fl b23 x22 g21) (mv10 (mv10 (mv10 h)))))))))))))) (fun _ h=>st_pk 11 [9,0,1,2,3,4,10,8,5,6,7] (by decide) (st_star_o (st_some_o (mv4 (st_star_o (st_some_o (mv1 h)))))))) (q_y z z z z h52 (o_bin z z (bI_add _ _)) (q_y z z z z h52 (o_mv z) (q_y z z z z h52 (o_nc z) (q_y z z z z h52 (o_fa fa196_0 z) (q_y z z z z h52 (o_ld 7 sc3 z z z) (q_y z z z z h52 (o_bin z z (bI_add _ 1)) (q_y z z z z h52 (o_bin z z (bI_eq _ _)) (q_u z z (o_pt z h52 z) (q_mv z z z (q_y z z z z h56 (o_mv z) (q_y z z z z h56 (o_callqP ca158 z (AN.ok b6 (⟨i64 (ra2.1.toNat:Int),(some x22),(some x44)⟩:Af) (⟨(pt b23 0,g21),(pt b45 0,g42)⟩:Af.G) _ hr54) (fun _ h=>mv4 (mv1 (st_some (f:=Ab.op g42) (a:=x44) (st_star_f (A:=Ab.fl b45 x44 g42) (mv6 (mv6 (mv6 (mv6 (mv6 (st_some (f:=Ae.op g21) (a:=x22) (st_star_f (A:=Ae.fl b23 x22 g21) (mv10 (mv10 (mv10 h)))))))))))))) (fun _ h=>st_pk 11 [9,0,1,2,3,4,10,8,5,6,7] (by decide) (st_star_o (st_some_o (mv4 (st_star_o (st_some_o (mv1 h)))))))) (q_y z z z z h56 (o_mv z) (q_y z z z z h56 (o_nc z) (q_y z z z z h56 (o_fa fa196_0 z) (q_y z z z z h56 (o_ld 7 sc3 z z z) (q_y z z z z h56 (o_bin z z (bI_le _ _)) (q_u z z (o_pt z h56 z) (q_mv z z z (q_n z z z z h58 (q_n z z z z h58 (q_n z z z z h58 (q_n z z z z h58 (q_n z z z z h58 (q_n z z z z h58 (q_n z z z z h58 (q_n z z z z h58 (q_u z z (o_pf z h58 z) (q_mv z z z (q_n z z z z z (q_n z z z z z (q_n z z z z z (q_n z z z z z (q_n z z z z z (q_n z z z z z (q_n z z z z z (q_n z z z z z (q_u z z (o_pf z z z) qn)))))))))))))))))))))))))))))))))))))))))))))))))))) ?_ (nxt z)
  refine ec (eo_c z (s_w (o_callL ca102 z (An.ok b0_ _ _ _ hr78) (fun _ _ _ h=>h))) ?_) en
  refine stage z z z z mk17_ [] [] z z z qn en ?_
  intro _
  refine ex_sub (E':=[(3,pt b6 0)]) ⟨z,trivial⟩ ?_
  refine x_seq (csr ?_)
  refine r_mv z (r_as z ?_)
  refine r_nil (x_seq (c_ret ?_))
  refine ex_st (fun _ h=>mv10 (mv10 (mv10 h))) ?_
  refine ex_st (fun _ h=>st_some (f:=Ae.op g21) (a:=x22) (st_star_f (A:=Ae.fl b23 x22 g21) h)) ?_
  refine ex_st (fun _ h=>mv6 (mv6 (mv6 (mv6 (mv6 h))))) ?_
  refine ex_st (fun _ h=>st_some (f:=Ab.op g42) (a:=x44) (st_star_f (A:=Ab.fl b45 x44 g42) h)) ?_
  refine ex_st (fun _ h=>mv4 (mv1 h)) ?_
  refine ex_st (fun _ h=>st_some (f:=Af.op (⟨(pt b23 0,g21),(pt b45 0,g42)⟩:Af.G)) (a:=(⟨i64 (ra2.1.toNat:Int),(some x22),(some x44)⟩:Af)) (st_star_f (A:=Af.fl b6 (⟨i64 (ra2.1.toNat:Int),(some x22),(some x44)⟩:Af) (⟨(pt b23 0,g21),(pt b45 0,g42)⟩:Af.G)) h)) ?_
  obtain rfl:=si hm83
  refine ex_st (pk 3 [0,1]) ?_
  exact x_r1 z (rv_t z) le_ (.inl ⟨_,z,_,z,(pt b6 0,(⟨(pt b23 0,g21),(pt b45 0,g42)⟩:Af.G)),z,z,z⟩)
 have hm59:=ift hm57 h58
 obtain ⟨r60,hr60,hm61⟩:=bs hm59
 refine cd_by (decide (r60≤((BH (i64 (ra2.1.toNat:Int))).Window))) (fun h62 => ?_) fun h62 => ?_
 ·have hm63:=ift hm61 h62
  obtain ⟨r64,hr64,hm65⟩:=bs hm63
  obtain ⟨r66,hr66,hm67⟩:=ltx hm65
  rcases r66 with ra68 | ⟨rn69,ro70⟩
  rotate_left
  ·have hm71:=sm_r hm67
   refine c_any mixed (effs:=[52]) (V:=[]) ?_
   refine stage_st (fun _ h=>mv7 h) ?_
   refine stn mk17_ [0,1,2,3,4,5,6,7,8,9,10,11,12,13,14,15,16,17,18,19,20,21,22,23,24,25,26,27,28,29,30,31,32,33,34,35,36,37,38,39,40,41,42,43,44,45,46,47,48,49,50,51] [52] [_,_,_,_,_,_,_,_,_,_,_,_,_,_,_,_,_,_,_,_,_,_,_,_,_,_,_,_,_,_,_,_,_,_,_,_,_,_,_,_,_,_,_,_,_,_,_,_,_,_,_,_] (q_mv z z z (q_mv z z z (q_u z z (o_nc z) (q_fa z z fa196_2 z (q_ld z z 7 sc191 z z z (q_u z z (o_callqP ca204 z (AT.ok b45 x44 g42 _ z) (pk 11 [1,2,3,4,5,0,6,7,8,9,10]) (pk 11 [5,0,1,2,3,4,6,7,8,9,10])) (q_u z z (o_bin z z (bI_eq _ 3)) (q_mv z z z (q_y z z z z h52 (o_mv z) (q_y z z z z h52 (o_nc z) (q_y z z z z h52 (o_fa fa196_2 z) (q_y z z z z h52 (o_ld 7 sc191 z z z) (q_y z z z z h52 (o_callqP ca203 z (AI.ok b45 x44 g42 _ z) (pk 11 [1,2,3,4,5,0,6,7,8,9,10]) (pk 11 [5,0,1,2,3,4,6,7,8,9,10])) (q_y z z z z h52 (o_mv z) (q_y z z z z h52 (o_callqP ca158 z (AN.ok b6 (⟨i64 (ra2.1.toNat:Int),(some x22),(some x44)⟩:Af) (⟨(pt b23 0,g21),(pt b45 0,g42)⟩:Af.G) _ hr54) (fun _ h=>mv4 (mv1 (st_some (f:=Ab.op g42) (a:=x44) (st_star_f (A:=Ab.fl b45 x44 g42) (mv6 (mv6 (mv6 (mv6 (mv6 (st_some (f:=Ae.op g21) (a:=x22) (st_star_f (A:=Ae.fl b23 x22 g21) (mv10 (mv10 (mv10 h)))))))))))))) (fun _ h=>st_pk 11 [9,0,1,2,3,4,10,8,5,6,7] (by decide) (st_star_o (st_some_o (mv4 (st_star_o (st_some_o (mv1 h)))))))) (q_y z z z z h52 (o_bin z z (bI_add _ _)) (q_y z z z z h52 (o_mv z) (q_y z z z z h52 (o_nc z) (q_y z z z z h52 (o_fa fa196_0 z) (q_y z z z z h52 (o_ld 7 sc3 z z z) (q_y z z z z h52 (o_bin z z (bI_add _ 1)) (q_y z z z z h52 (o_bin z z (bI_eq _ _)) (q_u z z (o_pt z h52 z) (q_mv z z z (q_y z z z z h56 (o_mv z) (q_y z z z z h56 (o_callqP ca158 z (AN.ok b6 (⟨i64 (ra2.1.toNat:Int),(some x22),(some x44)⟩:Af) (⟨(pt b23 0,g21),(pt b45 0,g42)⟩:Af.G) _ hr54) (fun _ h=>mv4 (mv1 (st_some (f:=Ab.op g42) (a:=x44) (st_star_f (A:=Ab.fl b45 x44 g42) (mv6 (mv6 (mv6 (mv6 (mv6 (st_some (f:=Ae.op g21) (a:=x22) (st_star_f (A:=Ae.fl b23 x22 g21) (mv10 (mv10 (mv10 h)))))))))))))) (fun _ h=>st_pk 11 [9,0,1,2,3,4,10,8,5,6,7] (by decide) (st_star_o (st_some_o (mv4 (st_star_o (st_some_o (mv1 h)))))))) (q_y z z z z h56 (o_mv z) (q_y z z z z h56 (o_nc z) (q_y z z z z h56 (o_fa fa196_0 z) (q_y z z z z h56 (o_ld 7 sc3 z z z) (q_y z z z z h56 (o_bin z z (bI_le _ _)) (q_u z z (o_pt z h56 z) (q_mv z z z (q_y z z z z h58 (o_mv z) (q_y z z z z h58 (o_nc z) (q_y z z z z h58 (o_fa fa196_2 z) (q_y z z z z h58 (o_ld 7 sc191 z z z) (q_y z z z z h58 (o_callqP ca164 z (Aq.ok b45 _ g42 0 _ hr60) (pk 11 [1,2,3,4,5,0,6,7,8,9,10]) (pk 11 [5,0,1,2,3,4,6,7,8,9,10])) (q_y z z z z h58 (o_fa fa243_0 z) (q_y z z z z h58 (o_ld 6 sc3 z z z) (q_y z z z z h58 (o_bin z z (bI_le _ _)) (q_u z z (o_pt z h58 z) (q_mv z z z (q_y z z z z h62 (o_mv z) (q_y z z z z h62 (o_nc z) (q_y z z z z h62 (o_fa fa196_2 z) (q_y z z z z h62 (o_ld 7 sc191 z z z) (q_y z z z z h62 (o_callqP ca164 z (Aq.ok b45 _ g42 2 _ hr64) (pk 11 [1,2,3,4,5,0,6,7,8,9,10]) (pk 11 [5,0,1,2,3,4,6,7,8,9,10])) (q_y z z z z h62 (o_fa fa243_1 z) (q_y z z z z h62 (o_ld 6 sc3 z z z) (q_y z z z z h62 (o_bin z z (bI_le _ _)) (q_u z z (o_pt z h62 z) qn)))))))))))))))))))))))))))))))))))))))))))))))))))) ?_ (nxt z)
   obtain rfl:=si hm71
   exact ec (eo_w z (s_w (o_callR ca102 z (An.ok b0_ _ _ _ hr66) (by rintro _ _ _ ⟨rfl,rfl⟩;exact (px_st (pk 11 [0]) (px_of le_ (.inr ⟨_,z,_,z,z,z⟩)))))) (fun _ _ _ _ h=>h.elim)) en
  have hm71:=sm_l hm67
  refine c_any mixed (effs:=[52]) (V:=[]) ?_
  refine stage_st (fun _ h=>mv7 h) ?_
  refine stn mk17_ [0,1,2,3,4,5,6,7,8,9,10,11,12,13,14,15,16,17,18,19,20,21,22,23,24,25,26,27,28,29,30,31,32,33,34,35,36,37,38,39,40,41,42,43,44,45,46,47,48,49,50,51] [52] [_,_,_,_,_,_,_,_,_,_,_,_,_,_,_,_,_,_,_,_,_,_,_,_,_,_,_,_,_,_,_,_,_,_,_,_,_,_,_,_,_,_,_,_,_,_,_,_,_,_,_,_] (q_mv z z z (q_mv z z z (q_u z z (o_nc z) (q_fa z z fa196_2 z (q_ld z z 7 sc191 z z z (q_u z z (o_callqP ca204 z (AT.ok b45 x44 g42 _ z) (pk 11 [1,2,3,4,5,0,6,7,8,9,10]) (pk 11 [5,0,1,2,3,4,6,7,8,9,10])) (q_u z z (o_bin z z (bI_eq _ 3)) (q_mv z z z (q_y z z z z h52 (o_mv z) (q_y z z z z h52 (o_nc z) (q_y z z z z h52 (o_fa fa196_2 z) (q_y z z z z h52 (o_ld 7 sc191 z z z) (q_y z z z z h52 (o_callqP ca203 z (AI.ok b45 x44 g42 _ z) (pk 11 [1,2,3,4,5,0,6,7,8,9,10]) (pk 11 [5,0,1,2,3,4,6,7,8,9,10])) (q_y z z z z h52 (o_mv z) (q_y z z z z h52 (o_callqP ca158 z (AN.ok b6 (⟨i64 (ra2.1.toNat:Int),(some x22),(some x44)⟩:Af) (⟨(pt b23 0,g21),(pt b45 0,g42)⟩:Af.G) _ hr54) (fun _ h=>mv4 (mv1 (st_some (f:=Ab.op g42) (a:=x44) (st_star_f (A:=Ab.fl b45 x44 g42) (mv6 (mv6 (mv6 (mv6 (mv6 (st_some (f:=Ae.op g21) (a:=x22) (st_star_f (A:=Ae.fl b23 x22 g21) (mv10 (mv10 (mv10 h)))))))))))))) (fun _ h=>st_pk 11 [9,0,1,2,3,4,10,8,5,6,7] (by decide) (st_star_o (st_some_o (mv4 (st_star_o (st_some_o (mv1 h)))))))) (q_y z z z z h52 (o_bin z z (bI_add _ _)) (q_y z z z z h52 (o_mv z) (q_y z z z z h52 (o_nc z) (q_y z z z z h52 (o_fa fa196_0 z) (q_y z z z z h52 (o_ld 7 sc3 z z z) (q_y z z z z h52 (o_bin z z (bI_add _ 1)) (q_y z z z z h52 (o_bin z z (bI_eq _ _)) (q_u z z (o_pt z h52 z) (q_mv z z z (q_y z z z z h56 (o_mv z) (q_y z z z z h56 (o_callqP ca158 z (AN.ok b6 (⟨i64 (ra2.1.toNat:Int),(some x22),(some x44)⟩:Af) (⟨(pt b23 0,g21),(pt b45 0,g42)⟩:Af.G) _ hr54) (fun _ h=>mv4 (mv1 (st_some (f:=Ab.op g42) (a:=x44) (st_star_f (A:=Ab.fl b45 x44 g42) (mv6 (mv6 (mv6 (mv6 (mv6 (st_some (f:=Ae.op g21) (a:=x22) (st_star_f (A:=Ae.fl b23 x22 g21) (mv10 (mv10 (mv10 h)))))))))))))) (fun _ h=>st_pk 11 [9,0,1,2,3,4,10,8,5,6,7] (by decide) (st_star_o (st_some_o (mv4 (st_star_o (st_some_o (mv1 h)))))))) (q_y z z z z h56 (o_mv z) (q_y z z z z h56 (o_nc z) (q_y z z z z h56 (o_fa fa196_0 z) (q_y z z z z h56 (o_ld 7 sc3 z z z) (q_y z z z z h56 (o_bin z z (bI_le _ _)) (q_u z z (o_pt z h56 z) (q_mv z z z (q_y z z z z h58 (o_mv z) (q_y z z z z h58 (o_nc z) (q_y z z z z h58 (o_fa fa196_2 z) (q_y z z z z h58 (o_ld 7 sc191 z z z) (q_y z z z z h58 (o_callqP ca164 z (Aq.ok b45 _ g42 0 _ hr60) (pk 11 [1,2,3,4,5,0,6,7,8,9,10]) (pk 11 [5,0,1,2,3,4,6,7,8,9,10])) (q_y z z z z h58 (o_fa fa243_0 z) (q_y z z z z h58 (o_ld 6 sc3 z z z) (q_y z z z z h58 (o_bin z z (bI_le _ _)) (q_u z z (o_pt z h58 z) (q_mv z z z (q_y z z z z h62 (o_mv z) (q_y z z z z h62 (o_nc z) (q_y z z z z h62 (o_fa fa196_2 z) (q_y z z z z h62 (o_ld 7 sc191 z z z) (q_y z z z z h62 (o_callqP ca164 z (Aq.ok b45 _ g42 2 _ hr64) (pk 11 [1,2,3,4,5,0,6,7,8,9,10]) (pk 11 [5,0,1,2,3,4,6,7,8,9,10])) (q_y z z z z h62 (o_fa fa243_1 z) (q_y z z z z h62 (o_ld 6 sc3 z z z) (q_y z z z z h62 (o_bin z z (bI_le _ _)) (q_u z z (o_pt z h62 z) qn)))))))))))))))))))))))))))))))))))))))))))))))))))) ?_ (nxt z)
  refine ec (eo_c z (s_w (o_callL ca102 z (An.ok b0_ _ _ _ hr66) (fun _ _ _ h=>h))) ?_) en
  refine stage z z z z mk17_ [] [] z z z qn en ?_
  intro _
  refine ex_sub (E':=[(3,pt b6 0)]) ⟨z,trivial⟩ ?_
  refine x_seq (csr ?_)
  refine r_mv z (r_as z ?_)
  refine r_nil (x_seq (c_ret ?_))
  refine ex_st (fun _ h=>mv10 (mv10 (mv10 h))) ?_
  refine ex_st (fun _ h=>st_some (f:=Ae.op g21) (a:=x22) (st_star_f (A:=Ae.fl b23 x22 g21) h)) ?_
  refine ex_st (fun _ h=>mv6 (mv6 (mv6 (mv6 (mv6 h))))) ?_
  refine ex_st (fun _ h=>st_some (f:=Ab.op g42) (a:=x44) (st_star_f (A:=Ab.fl b45 x44 g42) h)) ?_
  refine ex_st (fun _ h=>mv4 (mv1 h)) ?_
  refine ex_st (fun _ h=>st_some (f:=Af.op (⟨(pt b23 0,g21),(pt b45 0,g42)⟩:Af.G)) (a:=(⟨i64 (ra2.1.toNat:Int),(some x22),(some x44)⟩:Af)) (st_star_f (A:=Af.fl b6 (⟨i64 (ra2.1.toNat:Int),(some x22),(some x44)⟩:Af) (⟨(pt b23 0,g21),(pt b45 0,g42)⟩:Af.G)) h)) ?_
  obtain rfl:=si hm71
  refine ex_st (pk 3 [0,1]) ?_
  exact x_r1 z (rv_t z) le_ (.inl ⟨_,z,_,z,(pt b6 0,(⟨(pt b23 0,g21),(pt b45 0,g42)⟩:Af.G)),z,z,z⟩)
 have hm63:=iff_ hm61 h62
 obtain ⟨r72,hr72,hm73⟩:=ltx hm63
 rcases r72 with ra74 | ⟨rn75,ro76⟩
 rotate_left
 ·have hm77:=sm_r hm73
  refine c_any mixed (effs:=[52]) (V:=[]) ?_
  refine stage_st (fun _ h=>mv7 h) ?_
  refine stn mk17_ [0,1,2,3,4,5,6,7,8,9,10,11,12,13,14,15,16,17,18,19,20,21,22,23,24,25,26,27,28,29,30,31,32,33,34,35,36,37,38,39,40,41,42,43,44,45,46,47,48,49,50,51] [52] [_,_,_,_,_,_,_,_,_,_,_,_,_,_,_,_,_,_,_,_,_,_,_,_,_,_,_,_,_,_,_,_,_,_,_,_,_,_,_,_,_,_,_,_,_,_,_,_,_,_,_,_] (q_mv z z z (q_mv z z z (q_u z z (o_nc z) (q_fa z z fa196_2 z (q_ld z z 7 sc191 z z z (q_u z z (o_callqP ca204 z (AT.ok b45 x44 g42 _ z) (pk 11 [1,2,3,4,5,0,6,7,8,9,10]) (pk 11 [5,0,1,2,3,4,6,7,8,9,10])) (q_u z z (o_bin z z (bI_eq _ 3)) (q_mv z z z (q_y z z z z h52 (o_mv z) (q_y z z z z h52 (o_nc z) (q_y z z z z h52 (o_fa fa196_2 z) (q_y z z z z h52 (o_ld 7 sc191 z z z) (q_y z z z z h52 (o_callqP ca203 z (AI.ok b45 x44 g42 _ z) (pk 11 [1,2,3,4,5,0,6,7,8,9,10]) (pk 11 [5,0,1,2,3,4,6,7,8,9,10])) (q_y z z z z h52 (o_mv z) (q_y z z z z h52 (o_callqP ca158 z (AN.ok b6 (⟨i64 (ra2.1.toNat:Int),(some x22),(some x44)⟩:Af) (⟨(pt b23 0,g21),(pt b45 0,g42)⟩:Af.G) _ hr54) (fun _ h=>mv4 (mv1 (st_some (f:=Ab.op g42) (a:=x44) (st_star_f (A:=Ab.fl b45 x44 g42) (mv6 (mv6 (mv6 (mv6 (mv6 (st_some (f:=Ae.op g21) (a:=x22) (st_star_f (A:=Ae.fl b23 x22 g21) (mv10 (mv10 (mv10 h)))))))))))))) (fun _ h=>st_pk 11 [9,0,1,2,3,4,10,8,5,6,7] (by decide) (st_star_o (st_some_o (mv4 (st_star_o (st_some_o (mv1 h)))))))) (q_y z z z z h52 (o_bin z z (bI_add _ _)) (q_y z z z z h52 (o_mv z) (q_y z z z z h52 (o_nc z) (q_y z z z z h52 (o_fa fa196_0 z) (q_y z z z z h52 (o_ld 7 sc3 z z z) (q_y z z z z h52 (o_bin z z (bI_add _ 1)) (q_y z z z z h52 (o_bin z z (bI_eq _ _)) (q_u z z (o_pt z h52 z) (q_mv z z z (q_y z z z z h56 (o_mv z) (q_y z z z z h56 (o_callqP ca158 z (AN.ok b6 (⟨i64 (ra2.1.toNat:Int),(some x22),(some x44)⟩:Af) (⟨(pt b23 0,g21),(pt b45 0,g42)⟩:Af.G) _ hr54) (fun _ h=>mv4 (mv1 (st_some (f:=Ab.op g42) (a:=x44) (st_star_f (A:=Ab.fl b45 x44 g42) (mv6 (mv6 (mv6 (mv6 (mv6 (st_some (f:=Ae.op g21) (a:=x22) (st_star_f (A:=Ae.fl b23 x22 g21) (mv10 (mv10 (mv10 h)))))))))))))) (fun _ h=>st_pk 11 [9,0,1,2,3,4,10,8,5,6,7] (by decide) (st_star_o (st_some_o (mv4 (st_star_o (st_some_o (mv1 h)))))))) (q_y z z z z h56 (o_mv z) (q_y z z z z h56 (o_nc z) (q_y z z z z h56 (o_fa fa196_0 z) (q_y z z z z h56 (o_ld 7 sc3 z z z) (q_y z z z z h56 (o_bin z z (bI_le _ _)) (q_u z z (o_pt z h56 z) (q_mv z z z (q_y z z z z h58 (o_mv z) (q_y z z z z h58 (o_nc z) (q_y z z z z h58 (o_fa fa196_2 z) (q_y z z z z h58 (o_ld 7 sc191 z z z) (q_y z z z z h58 (o_callqP ca164 z (Aq.ok b45 _ g42 0 _ hr60) (pk 11 [1,2,3,4,5,0,6,7,8,9,10]) (pk 11 [5,0,1,2,3,4,6,7,8,9,10])) (q_y z z z z h58 (o_fa fa243_0 z) (q_y z z z z h58 (o_ld 6 sc3 z z z) (q_y z z z z h58 (o_bin z z (bI_le _ _)) (q_u z z (o_pt z h58 z) (q_mv z z z (q_n z z z z h62 (q_n z z z z h62 (q_n z z z z h62 (q_n z z z z h62 (q_n z z z z h62 (q_n z z z z h62 (q_n z z z z h62 (q_n z z z z h62 (q_u z z (o_pf z h62 z) qn)))))))))))))))))))))))))))))))))))))))))))))))))))) ?_ (nxt z)
  obtain rfl:=si hm77
  exact ec (eo_w z (s_w (o_callR ca102 z (An.ok b0_ _ _ _ hr72) (by rintro _ _ _ ⟨rfl,rfl⟩;exact (px_st (pk 11 [0]) (px_of le_ (.inr ⟨_,z,_,z,z,z⟩)))))) (fun _ _ _ _ h=>h.elim)) en
 have hm77:=sm_l hm73
 refine c_any mixed (effs:=[52]) (V:=[]) ?_
 refine stage_st (fun _ h=>mv7 h) ?_
 refine stn mk17_ [0,1,2,3,4,5,6,7,8,9,10,11,12,13,14,15,16,17,18,19,20,21,22,23,24,25,26,27,28,29,30,31,32,33,34,35,36,37,38,39,40,41,42,43,44,45,46,47,48,49,50,51] [52] [_,_,_,_,_,_,_,_,_,_,_,_,_,_,_,_,_,_,_,_,_,_,_,_,_,_,_,_,_,_,_,_,_,_,_,_,_,_,_,_,_,_,_,_,_,_,_,_,_,_,_,_] (q_mv z z z (q_mv z z z (q_u z z (o_nc z) (q_fa z z fa196_2 z (q_ld z z 7 sc191 z z z (q_u z z (o_callqP ca204 z (AT.ok b45 x44 g42 _ z) (pk 11 [1,2,3,4,5,0,6,7,8,9,10]) (pk 11 [5,0,1,2,3,4,6,7,8,9,10])) (q_u z z (o_bin z z (bI_eq _ 3)) (q_mv z z z (q_y z z z z h52 (o_mv z) (q_y z z z z h52 (o_nc z) (q_y z z z z h52 (o_fa fa196_2 z) (q_y z z z z h52 (o_ld 7 sc191 z z z) (q_y z z z z h52 (o_callqP ca203 z (AI.ok b45 x44 g42 _ z) (pk 11 [1,2,3,4,5,0,6,7,8,9,10]) (pk 11 [5,0,1,2,3,4,6,7,8,9,10])) (q_y z z z z h52 (o_mv z) (q_y z z z z h52 (o_callqP ca158 z (AN.ok b6 (⟨i64 (ra2.1.toNat:Int),(some x22),(some x44)⟩:Af) (⟨(pt b23 0,g21),(pt b45 0,g42)⟩:Af.G) _ hr54) (fun _ h=>mv4 (mv1 (st_some (f:=Ab.op g42) (a:=x44) (st_star_f (A:=Ab.fl b45 x44 g42) (mv6 (mv6 (mv6 (mv6 (mv6 (st_some (f:=Ae.op g21) (a:=x22) (st_star_f (A:=Ae.fl b23 x22 g21) (mv10 (mv10 (mv10 h)))))))))))))) (fun _ h=>st_pk 11 [9,0,1,2,3,4,10,8,5,6,7] (by decide) (st_star_o (st_some_o (mv4 (st_star_o (st_some_o (mv1 h)))))))) (q_y z z z z h52 (o_bin z z (bI_add _ _)) (q_y z z z z h52 (o_mv z) (q_y z z z z h52 (o_nc z) (q_y z z z z h52 (o_fa fa196_0 z) (q_y z z z z h52 (o_ld 7 sc3 z z z) (q_y z z z z h52 (o_bin z z (bI_add _ 1)) (q_y z z z z h52 (o_bin z z (bI_eq _ _)) (q_u z z (o_pt z h52 z) (q_mv z z z (q_y z z z z h56 (o_mv z) (q_y z z z z h56 (o_callqP ca158 z (AN.ok b6 (⟨i64 (ra2.1.toNat:Int),(some x22),(some x44)⟩:Af) (⟨(pt b23 0,g21),(pt b45 0,g42)⟩:Af.G) _ hr54) (fun _ h=>mv4 (mv1 (st_some (f:=Ab.op g42) (a:=x44) (st_star_f (A:=Ab.fl b45 x44 g42) (mv6 (mv6 (mv6 (mv6 (mv6 (st_some (f:=Ae.op g21) (a:=x22) (st_star_f (A:=Ae.fl b23 x22 g21) (mv10 (mv10 (mv10 h)))))))))))))) (fun _ h=>st_pk 11 [9,0,1,2,3,4,10,8,5,6,7] (by decide) (st_star_o (st_some_o (mv4 (st_star_o (st_some_o (mv1 h)))))))) (q_y z z z z h56 (o_mv z) (q_y z z z z h56 (o_nc z) (q_y z z z z h56 (o_fa fa196_0 z) (q_y z z z z h56 (o_ld 7 sc3 z z z) (q_y z z z z h56 (o_bin z z (bI_le _ _)) (q_u z z (o_pt z h56 z) (q_mv z z z (q_y z z z z h58 (o_mv z) (q_y z z z z h58 (o_nc z) (q_y z z z z h58 (o_fa fa196_2 z) (q_y z z z z h58 (o_ld 7 sc191 z z z) (q_y z z z z h58 (o_callqP ca164 z (Aq.ok b45 _ g42 0 _ hr60) (pk 11 [1,2,3,4,5,0,6,7,8,9,10]) (pk 11 [5,0,1,2,3,4,6,7,8,9,10])) (q_y z z z z h58 (o_fa fa243_0 z) (q_y z z z z h58 (o_ld 6 sc3 z z z) (q_y z z z z h58 (o_bin z z (bI_le _ _)) (q_u z z (o_pt z h58 z) (q_mv z z z (q_n z z z z h62 (q_n z z z z h62 (q_n z z z z h62 (q_n z z z z h62 (q_n z z z z h62 (q_n z z z z h62 (q_n z z z z h62 (q_n z z z z h62 (q_u z z (o_pf z h62 z) qn)))))))))))))))))))))))))))))))))))))))))))))))))))) ?_ (nxt z)
 refine ec (eo_c z (s_w (o_callL ca102 z (An.ok b0_ _ _ _ hr72) (fun _ _ _ h=>h))) ?_) en
 refine stage z z z z mk17_ [] [] z z z qn en ?_
 intro _
 refine ex_sub (E':=[(3,pt b6 0)]) ⟨z,trivial⟩ ?_
 refine x_seq (csr ?_)
 refine r_mv z (r_as z ?_)
 refine r_nil (x_seq (c_ret ?_))
 refine ex_st (fun _ h=>mv10 (mv10 (mv10 h))) ?_
 refine ex_st (fun _ h=>st_some (f:=Ae.op g21) (a:=x22) (st_star_f (A:=Ae.fl b23 x22 g21) h)) ?_
 refine ex_st (fun _ h=>mv6 (mv6 (mv6 (mv6 (mv6 h))))) ?_
 refine ex_st (fun _ h=>st_some (f:=Ab.op g42) (a:=x44) (st_star_f (A:=Ab.fl b45 x44 g42) h)) ?_
 refine ex_st (fun _ h=>mv4 (mv1 h)) ?_
 refine ex_st (fun _ h=>st_some (f:=Af.op (⟨(pt b23 0,g21),(pt b45 0,g42)⟩:Af.G)) (a:=(⟨i64 (ra2.1.toNat:Int),(some x22),(some x44)⟩:Af)) (st_star_f (A:=Af.fl b6 (⟨i64 (ra2.1.toNat:Int),(some x22),(some x44)⟩:Af) (⟨(pt b23 0,g21),(pt b45 0,g42)⟩:Af.G)) h)) ?_
 obtain rfl:=si hm77
 refine ex_st (pk 3 [0,1]) ?_
 exact x_r1 z (rv_t z) le_ (.inl ⟨_,z,_,z,(pt b6 0,(⟨(pt b23 0,g21),(pt b45 0,g42)⟩:Af.G)),z,z,z⟩)
def CL(a0:Aa):Option ((Option Ac×Aa)⊕(Int×Aa)) :=
 (Aj a0 2).bind fun r0=>sm r0 (fun (ra2:UInt64×Aa)=>if ((i64 (ra2.1.toNat:Int))==1) then (Dw ra2.2).bind fun r9=>sm r9 (fun (ra11:Option Ai×Aa)=>some (Sum.inl ((some (⟨i64 (ra2.1.toNat:Int),ra11.1,none⟩:Ac)),ra11.2))) fun ((rn12,ro13):Int×Aa)=>some (Sum.inr (rn12,ro13)) else if ((i64 (ra2.1.toNat:Int))==2) then (Ds ra2.2).bind fun r20=>sm r20 (fun (ra22:Option Af×Aa)=>some (Sum.inl ((some (⟨i64 (ra2.1.toNat:Int),none,ra22.1⟩:Ac)),ra22.2))) fun ((rn23,ro24):Int×Aa)=>some (Sum.inr (rn23,ro24)) else lt (An ra2.2 false) fun r29=>sm r29 (fun (ra31:Unit)=>some (Sum.inl ((some (⟨i64 (ra2.1.toNat:Int),none,none⟩:Ac)),ra2.2))) fun ((rn32,ro33):Int×Unit)=>some (Sum.inr (rn32,ra2.2))) fun ((rn3,ro4):Int×Aa)=>some (Sum.inr (rn3,ro4))
theorem CL.ok{G R F}(b0_:Nat)(a0:Aa)(r:(Option Ac×Aa)⊕(Int×Aa))(hm:CL a0=some r):CO Tryz.prog 104 [pt b0_ 0] G R (Bk b0_ 177 (Aa.c a0)::F)
  (PK 175 r (fun (a:Option Ac×Aa) u R' L'=>∃(p0:Value×Ac.G),u=p0.1∧R'=R∧L'=rO (Ac.op p0.2) p0.1 a.1::Bk b0_ 177 (Aa.c a.2)::F) (fun n (o:Aa) R' L'=>R'=R∧L'=Bk b0_ 177 (Aa.c o)::F)):=by
 unfold CL at hm
 refine co_ofN (N:=30) Tryz.func104 z z ?_
 refine csr ?_
 refine r_as z ?_
 refine r_nil (x_seq (c_seq ?_))
 obtain ⟨r0,hr0,hm1⟩:=bs hm
 rcases r0 with ra2 | ⟨rn3,ro4⟩
 rotate_left
 ·have hm5:=sm_r hm1
  refine c_reg ?_
  refine r_mv z ?_
  obtain rfl:=si hm5
  exact r_sw (s_w (o_callR ca101 z (Aj.ok b0_ a0 2 _ hr0) (by rintro _ _ _ ⟨rfl,rfl⟩;exact (px_st (pk 1 [0]) (px_of le_ (.inr ⟨_,z,_,z,z,z⟩)))))) (fun _ _ _ _ h=>h.elim)
 have hm5:=sm_l hm1
 refine c_reg ?_
 refine r_mv z ?_
 refine r_c (s_w (o_callL ca101 z (Aj.ok b0_ a0 2 _ hr0) (fun _ _ _ h=>h))) ?_
 refine r_u (o_cv z (cWI Tryz.underlying22 Tryz.underlying3 ra2.1)) ?_
 refine r_u (o_bld [vI (i64 (ra2.1.toNat:Int)),nl,nl] z (fun _=>by kernel_rfl)) ?_
 refine r_new (o_bx [vI (i64 (ra2.1.toNat:Int)),nl,nl] z z) fun b6 => ?_
 refine r_as z ?_
 refine nssr ?_
 refine r_mv z (r_nc z (r_fa fa144_0 z (r_ld 0 sc3 z z z ?_)))
 refine r_nil (x_seq (c_blk (csr ?_)))
 refine r_bin z z (bI_eq _ 1) (r_as z ?_)
 refine nsq ?_
 refine c_if (b:=((i64 (ra2.1.toNat:Int))==1)) z (fun h7 => ?_) fun h7 => ?_
 ·have hm8:=ift hm5 h7
  obtain ⟨r9,hr9,hm10⟩:=bs hm8
  rcases r9 with ra11 | ⟨rn12,ro13⟩
  rotate_left
  ·have hm14:=sm_r hm10
   refine c_reg ?_
   refine r_mv z (r_mv z ?_)
   refine rl_st (fun _ h=>mv1 h) ?_
   obtain rfl:=si hm14
   exact r_sw (s_w (o_callR ca155 z (Dw.ok b0_ _ _ hr9) (by rintro _ _ _ ⟨rfl,rfl⟩;exact (px_st (pk 2 [0]) (px_of le_ (.inr ⟨_,z,_,z,z,z⟩)))))) (fun _ _ _ _ h=>h.elim)
  have hm14:=sm_l hm10
  refine c_reg ?_
  refine r_mv z (r_mv z ?_)
  refine rl_st (fun _ h=>mv1 h) ?_
  refine r_sw (s_w (o_callL ca155 z (Dw.ok b0_ _ _ hr9) (fun _ _ _ h=>h))) ?_
  rintro pv16 R _ _ ⟨⟨_,g17⟩,rfl,rfl,rfl⟩
  refine r_nc z (r_fa fa144_1 z ?_)
  refine rl_st (fun _ h=>mv2 h) ?_
  refine r_u0 (ou_if (one_p 1 z) fun ho0=>o_st sc141 z z z ho0 z z) ?_
  refine r_nil (x_blk (x_seq (csr ?_)))
  refine r_mv z (r_as z ?_)
  refine r_nil (x_seq (c_ret ?_))
  refine ex_st (fun _ h=>st_none (f:=Af.op default) h) ?_
  refine ex_st (fun _ h=>mv2 (mv2 h)) ?_
  refine ex_st (fun _ h=>st_some (f:=Ac.op (⟨(pv16,g17),(nl,default)⟩:Ac.G)) (a:=(⟨i64 (ra2.1.toNat:Int),ra11.1,none⟩:Ac)) (st_star_f (A:=Ac.fl b6 (⟨i64 (ra2.1.toNat:Int),ra11.1,none⟩:Ac) (⟨(pv16,g17),(nl,default)⟩:Ac.G)) h)) ?_
  obtain rfl:=si hm14
  exact x_r1 z (rv_t z) le_ (.inl ⟨_,z,_,z,(pt b6 0,(⟨(pv16,g17),(nl,default)⟩:Ac.G)),z,z,z⟩)
 have hm8:=iff_ hm5 h7
 refine csr ?_
 refine r_bin z z (bI_eq _ 2) (r_as z ?_)
 refine nsq ?_
 refine c_if (b:=((i64 (ra2.1.toNat:Int))==2)) z (fun h18 => ?_) fun h18 => ?_
 ·have hm19:=ift hm8 h18
  obtain ⟨r20,hr20,hm21⟩:=bs hm19
  rcases r20 with ra22 | ⟨rn23,ro24⟩
  rotate_left
  ·have hm25:=sm_r hm21
   refine c_reg ?_
   refine r_mv z (r_mv z ?_)
   refine rl_st (fun _ h=>mv1 h) ?_
   obtain rfl:=si hm25
   exact r_sw (s_w (o_callR ca156 z (Ds.ok b0_ _ _ hr20) (by rintro _ _ _ ⟨rfl,rfl⟩;exact (px_st (pk 2 [0]) (px_of le_ (.inr ⟨_,z,_,z,z,z⟩)))))) (fun _ _ _ _ h=>h.elim)
  have hm25:=sm_l hm21
  refine c_reg ?_
  refine r_mv z (r_mv z ?_)
  refine rl_st (fun _ h=>mv1 h) ?_
  refine r_sw (s_w (o_callL ca156 z (Ds.ok b0_ _ _ hr20) (fun _ _ _ h=>h))) ?_
  rintro pv27 R _ _ ⟨⟨_,g28⟩,rfl,rfl,rfl⟩
  refine r_nc z (r_fa fa144_2 z ?_)
  refine rl_st (fun _ h=>mv2 h) ?_
  refine r_u0 (ou_if (one_p 1 z) fun ho0=>o_st sc142 z z z ho0 z z) ?_
  refine r_nil (x_blk (x_seq (csr ?_)))
  refine r_mv z (r_as z ?_)
  refine r_nil (x_seq (c_ret ?_))
  refine ex_st (fun _ h=>st_none (f:=Ai.op default) h) ?_
  refine ex_st (fun _ h=>mv2 (mv1 (mv2 h))) ?_
  refine ex_st (fun _ h=>st_some (f:=Ac.op (⟨(nl,default),(pv27,g28)⟩:Ac.G)) (a:=(⟨i64 (ra2.1.toNat:Int),none,ra22.1⟩:Ac)) (st_star_f (A:=Ac.fl b6 (⟨i64 (ra2.1.toNat:Int),none,ra22.1⟩:Ac) (⟨(nl,default),(pv27,g28)⟩:Ac.G)) h)) ?_
  obtain rfl:=si hm25
  exact x_r1 z (rv_t z) le_ (.inl ⟨_,z,_,z,(pt b6 0,(⟨(nl,default),(pv27,g28)⟩:Ac.G)),z,z,z⟩)
 have hm19:=iff_ hm8 h18
 obtain ⟨r29,hr29,hm30⟩:=ltx hm19
 rcases r29 with ra31 | ⟨rn32,ro33⟩
 ·have hm34:=sm_l hm30
  refine c_reg ?_
  refine r_mv z ?_
  refine rl_st (fun _ h=>mv1 h) ?_
  refine r_c (s_w (o_callL ca102 z (An.ok b0_ _ _ _ hr29) (fun _ _ _ h=>h))) ?_
  refine r_nil (x_blk (x_seq (csr ?_)))
  refine r_mv z (r_as z ?_)
  refine r_nil (x_seq (c_ret ?_))
  refine ex_st (fun _ h=>st_none (f:=Ai.op default) h) ?_
  refine ex_st (fun _ h=>st_none (f:=Af.op default) h) ?_
  refine ex_st (fun _ h=>mv3 (mv1 h)) ?_
  refine ex_st (fun _ h=>st_some (f:=Ac.op (⟨(nl,default),(nl ,default)⟩:Ac.G)) (a:=(⟨i64 (ra2.1.toNat:Int),none,none⟩:Ac)) (st_star_f (A:=Ac.fl b6 (⟨i64 (ra2.1.toNat:Int),none,none⟩:Ac) (⟨(nl,default),(nl ,default)⟩:Ac.G)) h)) ?_
  obtain rfl:=si hm34
  exact x_r1 z (rv_t z) le_ (.inl ⟨_,z,_,z,(pt b6 0,(⟨(nl,default),(nl ,default)⟩:Ac.G)),z,z,z⟩)
 have hm34:=sm_r hm30
 refine c_reg ?_
 refine r_mv z ?_
 refine rl_st (fun _ h=>mv1 h) ?_
 obtain rfl:=si hm34
 exact r_sw (s_w (o_callR ca102 z (An.ok b0_ _ _ _ hr29) (by rintro _ _ _ ⟨rfl,rfl⟩;exact (px_st (pk 2 [0]) (px_of le_ (.inr ⟨_,z,_,z,z,z⟩)))))) (fun _ _ _ _ h=>h.elim)
def Be(a0:Ac):Option Int :=
 if ((Ao a0)==1) then om a0.a (none) fun x8=>(Bx x8).bind fun r15=>some r15 else if ((Ao a0)==2) then om a0.t (none) fun x19=>(AN x19).bind fun r29=>some r29 else some 0
theorem Be.ok{G R F}(b0_:Nat)(a0:Ac)(g0_:Ac.G)(r:Int)(hm:Be a0=some r):CO Tryz.prog 105 [pt b0_ 0] G R (Bk b0_ 144 [vI a0.kind,g0_.a.1,g0_.t.1]::rO (Ai.op g0_.a.2) g0_.a.1 a0.a::rO (Af.op g0_.t.2) g0_.t.1 a0.t::F)
  (Ret fun u R' L'=>u=vI r∧R'=R∧L'=Bk b0_ 144 [vI a0.kind,g0_.a.1,g0_.t.1]::rO (Ai.op g0_.a.2) g0_.a.1 a0.a::rO (Af.op g0_.t.2) g0_.t.1 a0.t::F):=by
 obtain ⟨⟨pv1,g2⟩,⟨pv4,g5⟩⟩:=g0_
 unfold Be at hm
 refine co_ofN (N:=19) Tryz.func105 z z ?_
 refine csr ?_
 refine r_as z ?_
 refine nssr ?_
 refine r_mv z ?_
 refine r_c (s_w (o_call ca67 z (Ao.ok b0_ a0 (⟨(pv1,g2),(pv4,g5)⟩:Ac.G) _ z))) ?_
 refine r_nil (x_seq (c_blk (csr ?_)))
 refine r_bin z z (bI_eq _ 1) (r_as z ?_)
 refine nsq ?_
 refine c_if (b:=((Ao a0)==1)) z (fun h6 => ?_) fun h6 => ?_
 ·have hm7:=ift hm h6
  refine c_seq ?_
  refine cd_st (fun _ h=>mv1 h) ?_
  refine cd_opt (fun ho10 => ?_) (fun x8 b9 ho10 => ?_)
  ·rintro rfl
   have hm11:=om_n hm7 ho10
   cases hm11
  rintro rfl
  have hm11:=om_s hm7 ho10
  obtain ⟨⟨pv13,g14⟩⟩:=g2
  refine cd_st (fun _ h=>st_star_o h) ?_
  refine c_reg ?_
  refine r_mv z (r_nc z (r_fa fa144_1 z (r_ld 2 sc141 z z z ?_)))
  obtain ⟨r15,hr15,hm16⟩:=bs hm11
  refine r_c (s_w (o_call ca157 z (Bx.ok b9 x8 (⟨(pv13,g14)⟩:Ai.G) _ hr15))) ?_
  refine r_as z ?_
  refine r_nil (x_seq (c_ret ?_))
  refine ex_st (fun _ h=>st_some (f:=Ai.op (⟨(pv13,g14)⟩:Ai.G)) (a:=x8) (st_star_f (A:=Ai.fl b9 x8 (⟨(pv13,g14)⟩:Ai.G)) h)) ?_
  refine ex_st (fun _ h=>st_back ho10 h) ?_
  obtain rfl:=si hm16
  refine ex_st (pk 3 [1,0,2]) ?_
  exact x_r1 z (rv_t z) le_ ⟨_,z,z,z,z⟩
 have hm7:=iff_ hm h6
 refine csr ?_
 refine r_bin z z (bI_eq _ 2) (r_as z ?_)
 refine nsq ?_
 refine c_if (b:=((Ao a0)==2)) z (fun h17 => ?_) fun h17 => ?_
 rotate_left
 ·have hm18:=iff_ hm7 h17
  refine c_skip (x_blk (x_seq (csr ?_)))
  refine r_as z ?_
  refine r_nil (x_seq (c_ret ?_))
  obtain rfl:=si hm18
  exact x_r1 z (rv_t z) le_ ⟨_,z,z,z,z⟩
 have hm18:=ift hm7 h17
 refine c_seq ?_
 refine cd_st (fun _ h=>mv2 h) ?_
 refine cd_opt (fun ho21 => ?_) (fun x19 b20 ho21 => ?_)
 ·rintro rfl
  have hm22:=om_n hm18 ho21
  cases hm22
 rintro rfl
 have hm22:=om_s hm18 ho21
 obtain ⟨⟨pv24,g25⟩,⟨pv27,g28⟩⟩:=g5
 refine cd_st (fun _ h=>st_star_o h) ?_
 refine c_reg ?_
 refine r_mv z (r_nc z (r_fa fa144_2 z (r_ld 3 sc142 z z z ?_)))
 obtain ⟨r29,hr29,hm30⟩:=bs hm22
 refine r_c (s_w (o_call ca158 z (AN.ok b20 _ (⟨(pv24,g25),(pv27,g28)⟩:Af.G) _ hr29))) ?_
 refine r_as z ?_
 refine r_nil (x_seq (c_ret ?_))
 refine ex_st (fun _ h=>st_some (f:=Af.op (⟨(pv24,g25),(pv27,g28)⟩:Af.G)) (a:=x19) (st_star_f (A:=Af.fl b20 x19 (⟨(pv24,g25),(pv27,g28)⟩:Af.G)) h)) ?_
 refine ex_st (fun _ h=>st_back ho21 h) ?_
 obtain rfl:=si hm30
 refine ex_st (pk 3 [1,2,0]) ?_
 exact x_r1 z (rv_t z) le_ ⟨_,z,z,z,z⟩
def AZ(a0:Ah):Int :=
 (a0.m.length:Int)
theorem AZ.ok{G R F}(b0_:Nat)(a0:Ah)(g0_:Ah.G)(r:Int)(hm:AZ a0=r):CO Tryz.prog 106 [pt b0_ 0] G R (Bk b0_ 138 [g0_.m,vI a0.bytes]::OwM vS Ak.v g0_.m a0.m::F)
  (Ret fun u R' L'=>u=vI r∧R'=R∧L'=Bk b0_ 138 [g0_.m,vI a0.bytes]::OwM vS Ak.v g0_.m a0.m::F):=by
 unfold AZ at hm
 refine co_ofN (N:=10) Tryz.func106 z z ?_
 refine csr ?_
 refine r_as z ?_
 refine nssr ?_
 refine r_mv z (r_bin z z (bP_eqp Tryz.underlying92) ?_)
 refine nsq ?_
 refine c_ff z ?_
 refine c_skip (x_seq (csr ?_))
 refine r_mv z (r_nc z (r_fa fa138_0 z (r_ld 0 sc136 z z z ?_)))
 refine r_u (o_lenM (kv:=vS) (vv:=Ak.v) 1 Tryz.underlying136 z z) (r_as z ?_)
 refine r_nil (x_seq (c_ret ?_))
 subst hm
 exact x_r1 z (rv_t z) le_ ⟨_,z,z,z,z⟩
def BG(a0:Ac)(a1:Str):Option Bool :=
 if ((Ao a0)==1) then om a0.a (none) fun x8=>(B7 x8 a1).bind fun r15=>some r15 else if ((Ao a0)==2) then om a0.t (none) fun x19=>(B6 x19 a1).bind fun r29=>some r29 else some false
theorem BG.ok{G R F}(b0_:Nat)(a0:Ac)(g0_:Ac.G)(a1:Str)(r:Bool)(hm:BG a0 a1=some r):CO Tryz.prog 108 [pt b0_ 0,vS a1] G R (Bk b0_ 144 [vI a0.kind,g0_.a.1,g0_.t.1]::rO (Ai.op g0_.a.2) g0_.a.1 a0.a::rO (Af.op g0_.t.2) g0_.t.1 a0.t::F)
  (Ret fun u R' L'=>u=vB r∧R'=R∧L'=Bk b0_ 144 [vI a0.kind,g0_.a.1,g0_.t.1]::rO (Ai.op g0_.a.2) g0_.a.1 a0.a::rO (Af.op g0_.t.2) g0_.t.1 a0.t::F):=by
 obtain ⟨⟨pv1,g2⟩,⟨pv4,g5⟩⟩:=g0_
 unfold BG at hm
 refine co_ofN (N:=23) Tryz.func108 z z ?_
 refine csr ?_
 refine r_as z ?_
 refine nssr ?_
 refine r_mv z ?_
 refine r_c (s_w (o_call ca67 z (Ao.ok b0_ a0 (⟨(pv1,g2),(pv4,g5)⟩:Ac.G) _ z))) ?_
 refine r_nil (x_seq (c_blk (csr ?_)))
 refine r_bin z z (bI_eq _ 1) (r_as z ?_)
 refine nsq ?_
 refine c_if (b:=((Ao a0)==1)) z (fun h6 => ?_) fun h6 => ?_
 ·have hm7:=ift hm h6
  refine c_seq ?_
  refine cd_st (fun _ h=>mv1 h) ?_
  refine cd_opt (fun ho10 => ?_) (fun x8 b9 ho10 => ?_)
  ·rintro rfl
   have hm11:=om_n hm7 ho10
   cases hm11
  rintro rfl
  have hm11:=om_s hm7 ho10
  obtain ⟨⟨pv13,g14⟩⟩:=g2
  refine cd_st (fun _ h=>st_star_o h) ?_
  refine c_reg ?_
  refine r_mv z (r_nc z (r_fa fa144_1 z (r_ld 2 sc141 z z z (r_mv z ?_))))
  obtain ⟨r15,hr15,hm16⟩:=bs hm11
  refine r_c (s_w (o_call ca116 z (B7.ok b9 x8 (⟨(pv13,g14)⟩:Ai.G) a1 _ hr15))) ?_
  refine r_as z ?_
  refine r_nil (x_seq (c_ret ?_))
  refine ex_st (fun _ h=>st_some (f:=Ai.op (⟨(pv13,g14)⟩:Ai.G)) (a:=x8) (st_star_f (A:=Ai.fl b9 x8 (⟨(pv13,g14)⟩:Ai.G)) h)) ?_
  refine ex_st (fun _ h=>st_back ho10 h) ?_
  obtain rfl:=si hm16
  refine ex_st (pk 3 [1,0,2]) ?_
  exact x_r1 z (rv_t z) le_ ⟨_,z,z,z,z⟩
 have hm7:=iff_ hm h6
 refine csr ?_
 refine r_bin z z (bI_eq _ 2) (r_as z ?_)
 refine nsq ?_
 refine c_if (b:=((Ao a0)==2)) z (fun h17 => ?_) fun h17 => ?_
 rotate_left
 ·have hm18:=iff_ hm7 h17
  refine c_skip (x_blk (x_seq (csr ?_)))
  refine r_as z ?_
  refine r_nil (x_seq (c_ret ?_))
  obtain rfl:=si hm18
  exact x_r1 z (rv_t z) le_ ⟨_,z,z,z,z⟩
 have hm18:=ift hm7 h17
 refine c_seq ?_
 refine cd_st (fun _ h=>mv2 h) ?_
 refine cd_opt (fun ho21 => ?_) (fun x19 b20 ho21 => ?_)
 ·rintro rfl
  have hm22:=om_n hm18 ho21
  cases hm22
 rintro rfl
 have hm22:=om_s hm18 ho21
 obtain ⟨⟨pv24,g25⟩,⟨pv27,g28⟩⟩:=g5
 refine cd_st (fun _ h=>st_star_o h) ?_
 refine c_reg ?_
 refine r_mv z (r_nc z (r_fa fa144_2 z (r_ld 3 sc142 z z z (r_mv z ?_))))
 obtain ⟨r29,hr29,hm30⟩:=bs hm22
 refine r_c (s_w (o_call ca118 z (B6.ok b20 _ (⟨(pv24,g25),(pv27,g28)⟩:Af.G) a1 _ hr29))) ?_
 refine r_as z ?_
 refine r_nil (x_seq (c_ret ?_))
 refine ex_st (fun _ h=>st_some (f:=Af.op (⟨(pv24,g25),(pv27,g28)⟩:Af.G)) (a:=x19) (st_star_f (A:=Af.fl b20 x19 (⟨(pv24,g25),(pv27,g28)⟩:Af.G)) h)) ?_
 refine ex_st (fun _ h=>st_back ho21 h) ?_
 obtain rfl:=si hm30
 refine ex_st (pk 3 [1,2,0]) ?_
 exact x_r1 z (rv_t z) le_ ⟨_,z,z,z,z⟩
def C7(a0:Aa):Option ((Ar×Aa)⊕(Int×Aa)) :=
 (Aj a0 65535).bind fun r1=>sm r1 (fun (ra3:UInt64×Aa)=>(AK ra3.2 4096).bind fun r7=>sm r7 (fun (ra9:Str×Aa)=>(Aj ra9.2 18446744073709551615).bind fun r13=>sm r13 (fun (ra15:UInt64×Aa)=>some (Sum.inl ((⟨i64 (ra3.1.toNat:Int),ra9.1,ra15.1⟩:Ar),ra15.2))) fun ((rn16,ro17):Int×Aa)=>some (Sum.inr (rn16,ro17))) fun ((rn10,ro11):Int×Aa)=>some (Sum.inr (rn10,ro11))) fun ((rn4,ro5):Int×Aa)=>some (Sum.inr (rn4,ro5))
theorem C7.ok{G R F}(b0_:Nat)(a0:Aa)(r:(Ar×Aa)⊕(Int×Aa))(hm:C7 a0=some r):CO Tryz.prog 109 [pt b0_ 0] G R (Bk b0_ 177 (Aa.c a0)::F)
  (PK 175 r (fun (a:Ar×Aa) u R' L'=>u = .agg (Ar.c a.1).toArray∧R'=R∧L'=Bk b0_ 177 (Aa.c a.2)::F) (fun n (o:Aa) R' L'=>R'=R∧L'=Bk b0_ 177 (Aa.c o)::F)):=by
 unfold C7 at hm
 refine co_ofN (N:=11) Tryz.func109 z z ?_
 refine csr ?_
 refine r_new (o_al ze41) fun b0 => ?_
 refine r_nil (x_seq (c_seq ?_))
 obtain ⟨r1,hr1,hm2⟩:=bs hm
 rcases r1 with ra3 | ⟨rn4,ro5⟩
 rotate_left
 ·have hm6:=sm_r hm2
  refine c_reg ?_
  refine r_mv z ?_
  refine rl_st (fun _ h=>mv1 h) ?_
  obtain rfl:=si hm6
  exact r_sw (s_w (o_callR ca101 z (Aj.ok b0_ a0 65535 _ hr1) (by rintro _ _ _ ⟨rfl,rfl⟩;exact (px_st (pk 2 [0]) (px_of le_ (.inr ⟨_,z,_,z,z,z⟩)))))) (fun _ _ _ _ h=>h.elim)
 have hm6:=sm_l hm2
 obtain ⟨r7,hr7,hm8⟩:=bs hm6
 rcases r7 with ra9 | ⟨rn10,ro11⟩
 rotate_left
 ·have hm12:=sm_r hm8
  refine c_reg ?_
  refine r_mv z ?_
  refine rl_st (fun _ h=>mv1 h) ?_
  refine r_c (s_w (o_callL ca101 z (Aj.ok b0_ a0 65535 _ hr1) (fun _ _ _ h=>h))) ?_
  refine r_u (o_cv z (cWI Tryz.underlying22 Tryz.underlying39 ra3.1)) (r_mv z ?_)
  obtain rfl:=si hm12
  exact r_sw (s_w (o_callR ca154 z (AK.ok b0_ _ 4096 _ hr7) (by rintro _ _ _ ⟨rfl,rfl⟩;exact (px_st (pk 2 [0]) (px_of le_ (.inr ⟨_,z,_,z,z,z⟩)))))) (fun _ _ _ _ h=>h.elim)
 have hm12:=sm_l hm8
 obtain ⟨r13,hr13,hm14⟩:=bs hm12
 rcases r13 with ra15 | ⟨rn16,ro17⟩
 ·have hm18:=sm_l hm14
  refine c_reg ?_
  refine r_mv z ?_
  refine rl_st (fun _ h=>mv1 h) ?_
  refine r_c (s_w (o_callL ca101 z (Aj.ok b0_ a0 65535 _ hr1) (fun _ _ _ h=>h))) ?_
  refine r_u (o_cv z (cWI Tryz.underlying22 Tryz.underlying39 ra3.1)) (r_mv z ?_)
  refine r_c (s_w (o_callL ca154 z (AK.ok b0_ _ 4096 _ hr7) (fun _ _ _ h=>h))) ?_
  refine r_mv z ?_
  refine r_c (s_w (o_callL ca101 z (Aj.ok b0_ _ 18446744073709551615 _ hr13) (fun _ _ _ h=>h))) ?_
  refine r_u (o_bld [vI (i64 (ra3.1.toNat:Int)),vS ra9.1,vW ra15.1] z (fun _=>by kernel_rfl)) ?_
  refine rl_st (fun _ h=>mv1 h) ?_
  refine r_u0 (o_stn ag41 z z z z z z z) ?_
  refine r_nil (x_seq (c_ret ?_))
  obtain rfl:=si hm18
  exact x_d1 z (rv_n 0 [vI (i64 (ra3.1.toNat:Int)),vS ra9.1,vW ra15.1] ag41 z z z z) (pk 2 [1]) le_ (.inl ⟨_,z,_,z,z,z,z⟩)
 have hm18:=sm_r hm14
 refine c_reg ?_
 refine r_mv z ?_
 refine rl_st (fun _ h=>mv1 h) ?_
 refine r_c (s_w (o_callL ca101 z (Aj.ok b0_ a0 65535 _ hr1) (fun _ _ _ h=>h))) ?_
 refine r_u (o_cv z (cWI Tryz.underlying22 Tryz.underlying39 ra3.1)) (r_mv z ?_)
 refine r_c (s_w (o_callL ca154 z (AK.ok b0_ _ 4096 _ hr7) (fun _ _ _ h=>h))) ?_
 refine r_mv z ?_
 obtain rfl:=si hm18
 exact r_sw (s_w (o_callR ca101 z (Aj.ok b0_ _ 18446744073709551615 _ hr13) (by rintro _ _ _ ⟨rfl,rfl⟩;exact (px_st (pk 2 [0]) (px_of le_ (.inr ⟨_,z,_,z,z,z⟩)))))) (fun _ _ _ _ h=>h.elim)
def CT(ra129:UInt64×Aa):Nat→UInt64→UInt64→Str→(List (UInt64×Ap))→Option ((Str×(List (UInt64×Ap)))⊕((Option Ad×Aa)⊕(Int×Aa)))
 | 0,_,_,_,_=>none
 | k142+1,before_138,s_139,c_140,c_141=>if decide (s_139<ra129.1) then (Aj (⟨c_140⟩:Aa) 18446744073709551615).bind fun r147=>sm r147 (fun (ra149:UInt64×Aa)=>lt (An ra149.2 ((s_139==0)||decide (before_138<ra149.1))) fun r153=>sm r153 (fun (ra155:Unit)=>(Aj ra149.2 18446744073709551615).bind fun r159=>sm r159 (fun (ra161:UInt64×Aa)=>(C7 ra161.2).bind fun r165=>sm r165 (fun (ra167:Ar×Aa)=>CT ra129 k142 ra149.1 (s_139+1) ra167.2.s (mput c_141 ra149.1 (⟨ra161.1,ra167.1⟩:Ap))) fun ((rn168,ro169):Int×Aa)=>some (Sum.inr (Sum.inr (rn168,ro169)))) fun ((rn162,ro163):Int×Aa)=>some (Sum.inr (Sum.inr (rn162,ro163)))) fun ((rn156,ro157):Int×Unit)=>some (Sum.inr (Sum.inr (rn156,ra149.2)))) fun ((rn150,ro151):Int×Aa)=>some (Sum.inr (Sum.inr (rn150,ro151))) else some (Sum.inl (c_140,c_141))
def CU(r119:List Str)(ra46:UInt64×Aa)(ra52:UInt64×Aa)(ra89:Option Ac×Aa)(x114:Ah)(x96:Ac):Nat→Int→Option (Unit⊕((Option Ad×Aa)⊕(Int×Aa)))
 | 0,_=>none
 | k172+1,s_171=>if decide (s_171<(r119.length:Int)) then (gi r119 s_171).bind fun x177=>lt (AA x114 x177) fun r179=>(BG x96 x177).bind fun r182=>lt (An ra89.2 ((((r182&&(x177 != []))&&decide (1≤r179.1.Version))&&decide (r179.1.Version≤ra52.1))&&((r179.1.End==0)||decide (ra46.1<r179.1.End)))) fun r184=>sm r184 (fun (ra186:Unit)=>CU r119 ra46 ra52 ra89 x114 x96 k172 (i64 (s_171+1))) fun ((rn187,ro188):Int×Unit)=>some (Sum.inr (Sum.inr (rn187,ra89.2))) else some (Sum.inl ())
def Dc(a0:Aa):Option ((Option Ad×Aa)⊕(Int×Aa)) :=
 (Aj a0 2).bind fun r2=>sm r2 (fun (ra4:UInt64×Aa)=>lt (i64 (ra4.1.toNat:Int)) fun n8=>(Aj ra4.2 1000).bind fun r10=>sm r10 (fun (ra12:UInt64×Aa)=>lt (i64 (ra12.1.toNat:Int)) fun n16=>(Aj ra12.2 1048576).bind fun r18=>sm r18 (fun (ra20:UInt64×Aa)=>lt (i64 (ra20.1.toNat:Int)) fun n24=>(Aj ra20.2 18446744073709551615).bind fun r26=>sm r26 (fun (ra28:UInt64×Aa)=>lt (An ra28.2 (BP (⟨n8,n16,n24,ra28.1⟩:Av))) fun r32=>sm r32 (fun (ra34:Unit)=>(Aj ra28.2 18446744073709551615).bind fun r38=>sm r38 (fun (ra40:UInt64×Aa)=>(Aj ra40.2 18446744073709551615).bind fun r44=>sm r44 (fun (ra46:UInt64×Aa)=>(Aj ra46.2 18446744073709551615).bind fun r50=>sm r50 (fun (ra52:UInt64×Aa)=>(Aj ra52.2 9223372036854775807).bind fun r56=>sm r56 (fun (ra58:UInt64×Aa)=>lt (i64 (ra58.1.toNat:Int)) fun n62=>(Aj ra58.2 9223372036854775807).bind fun r64=>sm r64 (fun (ra66:UInt64×Aa)=>lt (i64 (ra66.1.toNat:Int)) fun n70=>lt (An ra66.2 (decide (n70≤n62))) fun r72=>sm r72 (fun (ra74:Unit)=>(Db ra66.2).bind fun r78=>sm r78 (fun (ra80:Option Ah×Aa)=>(CL ra80.2).bind fun r87=>sm r87 (fun (ra89:Option Ac×Aa)=>om ra89.1 (none) fun x96=>Option.bind (if ((Ao x96)==n8) then (Be x96).bind fun r192=>om ra80.1 (none) fun x194=>Option.bind (if (r192==(AZ x194)) then Option.bind (if decide ((AZ x194)≤n16) then lt (An ra89.2 (decide ((Bn x194)≤n24))) fun r213=>sm r213 (fun (ra215:Unit)=>some (Sum.inl ())) fun ((rn216,ro217):Int×Unit)=>some (Sum.inr (Sum.inr (Sum.inr (Sum.inr (rn216,ra89.2))))) else lt (An ra89.2 false) fun r219=>sm r219 (fun (ra221:Unit)=>some (Sum.inl ())) fun ((rn222,ro223):Int×Unit)=>some (Sum.inr (Sum.inr (Sum.inr (Sum.inr (rn222,ra89.2)))))) fun (p206:Unit⊕(Unit⊕((Option Ah)⊕((Option Ad×Aa)⊕(Int×Aa)))))=>(match p206 with | Sum.inl q207=>some (Sum.inl ()) | Sum.inr r=>some r) else lt (An ra89.2 false) fun r225=>sm r225 (fun (ra227:Unit)=>some (Sum.inl ())) fun ((rn228,ro229):Int×Unit)=>some (Sum.inr (Sum.inr (Sum.inr (rn228,ra89.2))))) fun (p199:Unit⊕((Option Ah)⊕((Option Ad×Aa)⊕(Int×Aa))))=>(match p199 with | Sum.inl q200=>some (Sum.inl (some x194)) | Sum.inr r=>some r) else lt (An ra89.2 false) fun r231=>sm r231 (fun (ra233:Unit)=>some (Sum.inl ra80.1)) fun ((rn234,ro235):Int×Unit)=>some (Sum.inr (Sum.inr (rn234,ra89.2)))) fun (p106:(Option Ah)⊕((Option Ad×Aa)⊕(Int×Aa)))=>(match p106 with | Sum.inl q107=>om q107 (none) fun x114=>(Bl x114).bind fun r119=>Option.bind (CU r119 ra46 ra52 ra89 x114 x96 (((r119.length:Int)-0).toNat+1) 0) fun (p122:Unit⊕((Option Ad×Aa)⊕(Int×Aa)))=>(match p122 with | Sum.inl q123=>(Aj ra89.2 64).bind fun r127=>sm r127 (fun (ra129:UInt64×Aa)=>Option.bind (CT ra129 ((ra129.1-0).toNat+1) 0 0 ra129.2.s []) fun (p133:(Str×(List (UInt64×Ap)))⊕((Option Ad×Aa)⊕(Int×Aa)))=>(match p133 with | Sum.inl q134=>some (Sum.inl ((some (⟨(⟨n8,n16,n24,ra28.1⟩:Av),(some x114),(some x96),q134.2,ra40.1,ra46.1,ra52.1,(⟨n62,n70⟩:BJ)⟩:Ad)),(⟨q134.1⟩:Aa))) | Sum.inr r=>some r)) fun ((rn130,ro131):Int×Aa)=>some (Sum.inr (rn130,ro131)) | Sum.inr r=>some r) | Sum.inr r=>some r)) fun ((rn90,ro91):Int×Aa)=>some (Sum.inr (rn90,ro91))) fun ((rn81,ro82):Int×Aa)=>some (Sum.inr (rn81,ro82))) fun ((rn75,ro76):Int×Unit)=>some (Sum.inr (rn75,ra66.2))) fun ((rn67,ro68):Int×Aa)=>some (Sum.inr (rn67,ro68))) fun ((rn59,ro60):Int×Aa)=>some (Sum.inr (rn59,ro60))) fun ((rn53,ro54):Int×Aa)=>some (Sum.inr (rn53,ro54))) fun ((rn47,ro48):Int×Aa)=>some (Sum.inr (rn47,ro48))) fun ((rn41,ro42):Int×Aa)=>some (Sum.inr (rn41,ro42))) fun ((rn35,ro36):Int×Unit)=>some (Sum.inr (rn35,ra28.2))) fun ((rn29,ro30):Int×Aa)=>some (Sum.inr (rn29,ro30))) fun ((rn21,ro22):Int×Aa)=>some (Sum.inr (rn21,ro22))) fun ((rn13,ro14):Int×Aa)=>some (Sum.inr (rn13,ro14))) fun ((rn5,ro6):Int×Aa)=>some (Sum.inr (rn5,ro6))
theorem Dc.ok{G R F}(b0_:Nat)(a0:Aa)(r:(Option Ad×Aa)⊕(Int×Aa))(hm:Dc a0=some r):CO Tryz.prog 61 [pt b0_ 0] G R (Bk b0_ 177 (Aa.c a0)::F)
  (PK 175 r (fun (a:Option Ad×Aa) u R' L'=>∃(p0:Value×Ad.G),u=p0.1∧R'=R∧L'=rO (Ad.op p0.2) p0.1 a.1::Bk b0_ 177 (Aa.c a.2)::F) (fun n (o:Aa) R' L'=>R'=R∧L'=Bk b0_ 177 (Aa.c o)::F)):=by
 unfold Dc at hm
 refine co_ofN (N:=227) Tryz.func61 z z ?_
 refine csr ?_
 refine r_as z ?_
 refine nsr ?_
 refine r_sw (s_w (o_mm (kv:=vW) (vv:=Ap.v))) ?_
 rintro v0 R _ _ ⟨rfl,rfl⟩
 refine r_u (ou_if (hd_m 0 z) fun hb0=>o_bld [vI 0,vI 0,vI 0,vW 0,nl,nl,v0,vW 0,vW 0,vW 0,vI 0,vI 0] z (fun _=>by obtain ⟨_,rfl⟩:=hb0;kernel_rfl)) ?_
 refine r_new (o_bx [vI 0,vI 0,vI 0,vW 0,nl,nl,v0,vW 0,vW 0,vW 0,vI 0,vI 0] z z) fun b1 => ?_
 refine r_as z ?_
 refine r_nil (x_seq (c_seq ?_))
 obtain ⟨r2,hr2,hm3⟩:=bs hm
 rcases r2 with ra4 | ⟨rn5,ro6⟩
 rotate_left
 ·have hm7:=sm_r hm3
  refine c_reg ?_
  refine r_mv z (r_mv z ?_)
  refine rl_st (fun _ h=>mv2 h) ?_
  obtain rfl:=si hm7
  exact r_sw (s_w (o_callR ca101 z (Aj.ok b0_ a0 2 _ hr2) (by rintro _ _ _ ⟨rfl,rfl⟩;exact (px_st (pk 3 [0]) (px_of le_ (.inr ⟨_,z,_,z,z,z⟩)))))) (fun _ _ _ _ h=>h.elim)
 have hm7:=sm_l hm3
 obtain ⟨n8,hn8,hm9⟩:=ltx hm7
 obtain ⟨r10,hr10,hm11⟩:=bs hm9
 rcases r10 with ra12 | ⟨rn13,ro14⟩
 rotate_left
 ·have hm15:=sm_r hm11
  refine c_reg ?_
  refine r_mv z (r_mv z ?_)
  refine rl_st (fun _ h=>mv2 h) ?_
  refine r_c (s_w (o_callL ca101 z (Aj.ok b0_ a0 2 _ hr2) (fun _ _ _ h=>h))) ?_
  refine r_u (o_cv z (cvI (cWI Tryz.underlying22 Tryz.underlying3 ra4.1) hn8)) (r_mv z ?_)
  obtain rfl:=si hm15
  exact r_sw (s_w (o_callR ca101 z (Aj.ok b0_ _ 1000 _ hr10) (by rintro _ _ _ ⟨rfl,rfl⟩;exact (px_st (pk 3 [0]) (px_of le_ (.inr ⟨_,z,_,z,z,z⟩)))))) (fun _ _ _ _ h=>h.elim)
 have hm15:=sm_l hm11
 obtain ⟨n16,hn16,hm17⟩:=ltx hm15
 obtain ⟨r18,hr18,hm19⟩:=bs hm17
 rcases r18 with ra20 | ⟨rn21,ro22⟩
 rotate_left
 ·have hm23:=sm_r hm19
  refine c_reg ?_
  refine r_mv z (r_mv z ?_)
  refine rl_st (fun _ h=>mv2 h) ?_
  refine r_c (s_w (o_callL ca101 z (Aj.ok b0_ a0 2 _ hr2) (fun _ _ _ h=>h))) ?_
  refine r_u (o_cv z (cvI (cWI Tryz.underlying22 Tryz.underlying3 ra4.1) hn8)) (r_mv z ?_)
  refine r_c (s_w (o_callL ca101 z (Aj.ok b0_ _ 1000 _ hr10) (fun _ _ _ h=>h))) ?_
  refine r_u (o_cv z (cvI (cWI Tryz.underlying22 Tryz.underlying3 ra12.1) hn16)) (r_mv z ?_)
  obtain rfl:=si hm23
  exact r_sw (s_w (o_callR ca101 z (Aj.ok b0_ _ 1048576 _ hr18) (by rintro _ _ _ ⟨rfl,rfl⟩;exact (px_st (pk 3 [0]) (px_of le_ (.inr ⟨_,z,_,z,z,z⟩)))))) (fun _ _ _ _ h=>h.elim)
 have hm23:=sm_l hm19
 obtain ⟨n24,hn24,hm25⟩:=ltx hm23
 obtain ⟨r26,hr26,hm27⟩:=bs hm25
 rcases r26 with ra28 | ⟨rn29,ro30⟩
 rotate_left
 ·have hm31:=sm_r hm27
  refine c_reg ?_
  refine r_mv z (r_mv z ?_)
  refine rl_st (fun _ h=>mv2 h) ?_
  refine r_c (s_w (o_callL ca101 z (Aj.ok b0_ a0 2 _ hr2) (fun _ _ _ h=>h))) ?_
  refine r_u (o_cv z (cvI (cWI Tryz.underlying22 Tryz.underlying3 ra4.1) hn8)) (r_mv z ?_)
  refine r_c (s_w (o_callL ca101 z (Aj.ok b0_ _ 1000 _ hr10) (fun _ _ _ h=>h))) ?_
  refine r_u (o_cv z (cvI (cWI Tryz.underlying22 Tryz.underlying3 ra12.1) hn16)) (r_mv z ?_)
  refine r_c (s_w (o_callL ca101 z (Aj.ok b0_ _ 1048576 _ hr18) (fun _ _ _ h=>h))) ?_
  refine r_u (o_cv z (cvI (cWI Tryz.underlying22 Tryz.underlying3 ra20.1) hn24)) (r_mv z ?_)
  obtain rfl:=si hm31
  exact r_sw (s_w (o_callR ca101 z (Aj.ok b0_ _ 18446744073709551615 _ hr26) (by rintro _ _ _ ⟨rfl,rfl⟩;exact (px_st (pk 3 [0]) (px_of le_ (.inr ⟨_,z,_,z,z,z⟩)))))) (fun _ _ _ _ h=>h.elim)
 have hm31:=sm_l hm27
 refine c_reg ?_
 refine r_mv z (r_mv z ?_)
 refine rl_st (fun _ h=>mv2 h) ?_
 refine r_c (s_w (o_callL ca101 z (Aj.ok b0_ a0 2 _ hr2) (fun _ _ _ h=>h))) ?_
 refine r_u (o_cv z (cvI (cWI Tryz.underlying22 Tryz.underlying3 ra4.1) hn8)) (r_mv z ?_)
 refine r_c (s_w (o_callL ca101 z (Aj.ok b0_ _ 1000 _ hr10) (fun _ _ _ h=>h))) ?_
 refine r_u (o_cv z (cvI (cWI Tryz.underlying22 Tryz.underlying3 ra12.1) hn16)) (r_mv z ?_)
 refine r_c (s_w (o_callL ca101 z (Aj.ok b0_ _ 1048576 _ hr18) (fun _ _ _ h=>h))) ?_
 refine r_u (o_cv z (cvI (cWI Tryz.underlying22 Tryz.underlying3 ra20.1) hn24)) (r_mv z ?_)
 refine r_c (s_w (o_callL ca101 z (Aj.ok b0_ _ 18446744073709551615 _ hr26) (fun _ _ _ h=>h))) ?_
 refine r_u (o_bld [vI n8,vI n16,vI n24,vW ra28.1] z (fun _=>by kernel_rfl)) (r_nc z (r_fa fa96_0 z ?_))
 refine rl_st (fun _ h=>mv1 h) ?_
 refine r_u0 (o_stn ag24 z z z z z z z) ?_
 refine r_nil (x_seq (c_seq ?_))
 obtain ⟨r32,hr32,hm33⟩:=ltx hm31
 rcases r32 with ra34 | ⟨rn35,ro36⟩
 rotate_left
 ·have hm37:=sm_r hm33
  refine c_reg ?_
  refine r_mv z (r_mv z (r_nc z (r_fa fa96_0 z ?_)))
  refine r_u (o_ldn 0 [vI n8,vI n16,vI n24,vW ra28.1] ag24 z z z z) ?_
  refine r_u (o_callq ca29 z (BP.ok (⟨n8,n16,n24,ra28.1⟩:Av) _ z)) ?_
  refine rl_st (fun _ h=>mv1 h) ?_
  obtain rfl:=si hm37
  exact r_sw (s_w (o_callR ca102 z (An.ok b0_ _ (BP (⟨n8,n16,n24,ra28.1⟩:Av)) _ hr32) (by rintro _ _ _ ⟨rfl,rfl⟩;exact (px_st (pk 3 [0]) (px_of le_ (.inr ⟨_,z,_,z,z,z⟩)))))) (fun _ _ _ _ h=>h.elim)
 have hm37:=sm_l hm33
 refine c_reg ?_
 refine r_mv z (r_mv z (r_nc z (r_fa fa96_0 z ?_)))
 refine r_u (o_ldn 0 [vI n8,vI n16,vI n24,vW ra28.1] ag24 z z z z) ?_
 refine r_u (o_callq ca29 z (BP.ok (⟨n8,n16,n24,ra28.1⟩:Av) _ z)) ?_
 refine rl_st (fun _ h=>mv1 h) ?_
 refine r_c (s_w (o_callL ca102 z (An.ok b0_ _ (BP (⟨n8,n16,n24,ra28.1⟩:Av)) _ hr32) (fun _ _ _ h=>h))) ?_
 refine r_nil (x_seq (c_seq ?_))
 obtain ⟨r38,hr38,hm39⟩:=bs hm37
 rcases r38 with ra40 | ⟨rn41,ro42⟩
 rotate_left
 ·have hm43:=sm_r hm39
  refine c_reg ?_
  refine r_mv z (r_mv z (r_mv z (r_mv z ?_)))
  obtain rfl:=si hm43
  exact r_sw (s_w (o_callR ca101 z (Aj.ok b0_ _ 18446744073709551615 _ hr38) (by rintro _ _ _ ⟨rfl,rfl⟩;exact (px_st (pk 3 [0]) (px_of le_ (.inr ⟨_,z,_,z,z,z⟩)))))) (fun _ _ _ _ h=>h.elim)
 have hm43:=sm_l hm39
 obtain ⟨r44,hr44,hm45⟩:=bs hm43
 rcases r44 with ra46 | ⟨rn47,ro48⟩
 rotate_left
 ·have hm49:=sm_r hm45
  refine c_reg ?_
  refine r_mv z (r_mv z (r_mv z (r_mv z ?_)))
  refine r_c (s_w (o_callL ca101 z (Aj.ok b0_ _ 18446744073709551615 _ hr38) (fun _ _ _ h=>h))) ?_
  refine r_mv z ?_
  obtain rfl:=si hm49
  exact r_sw (s_w (o_callR ca101 z (Aj.ok b0_ _ 18446744073709551615 _ hr44) (by rintro _ _ _ ⟨rfl,rfl⟩;exact (px_st (pk 3 [0]) (px_of le_ (.inr ⟨_,z,_,z,z,z⟩)))))) (fun _ _ _ _ h=>h.elim)
 have hm49:=sm_l hm45
 obtain ⟨r50,hr50,hm51⟩:=bs hm49
 rcases r50 with ra52 | ⟨rn53,ro54⟩
 rotate_left
 ·have hm55:=sm_r hm51
  refine c_reg ?_
  refine r_mv z (r_mv z (r_mv z (r_mv z ?_)))
  refine r_c (s_w (o_callL ca101 z (Aj.ok b0_ _ 18446744073709551615 _ hr38) (fun _ _ _ h=>h))) ?_
  refine r_mv z ?_
  refine r_c (s_w (o_callL ca101 z (Aj.ok b0_ _ 18446744073709551615 _ hr44) (fun _ _ _ h=>h))) ?_
  refine r_mv z ?_
  obtain rfl:=si hm55
  exact r_sw (s_w (o_callR ca101 z (Aj.ok b0_ _ 18446744073709551615 _ hr50) (by rintro _ _ _ ⟨rfl,rfl⟩;exact (px_st (pk 3 [0]) (px_of le_ (.inr ⟨_,z,_,z,z,z⟩)))))) (fun _ _ _ _ h=>h.elim)
 have hm55:=sm_l hm51
 refine c_reg ?_
 refine r_mv z (r_mv z (r_mv z (r_mv z ?_)))
 refine r_c (s_w (o_callL ca101 z (Aj.ok b0_ _ 18446744073709551615 _ hr38) (fun _ _ _ h=>h))) ?_
 refine r_mv z ?_
 refine r_c (s_w (o_callL ca101 z (Aj.ok b0_ _ 18446744073709551615 _ hr44) (fun _ _ _ h=>h))) ?_
 refine r_mv z ?_
 refine r_c (s_w (o_callL ca101 z (Aj.ok b0_ _ 18446744073709551615 _ hr50) (fun _ _ _ h=>h))) ?_
 refine r_nc z (r_fa fa96_4 z ?_)
 refine rl_st (fun _ h=>mv1 h) ?_
 refine r_u0 (o_st sc22 z z z z z z) ?_
 refine r_nc z (r_fa fa96_5 z ?_)
 refine r_u0 (o_st sc22 z z z z z z) ?_
 refine r_nc z (r_fa fa96_6 z ?_)
 refine r_u0 (o_st sc22 z z z z z z) ?_
 refine r_nil (x_seq (c_seq ?_))
 obtain ⟨r56,hr56,hm57⟩:=bs hm55
 rcases r56 with ra58 | ⟨rn59,ro60⟩
 rotate_left
 ·have hm61:=sm_r hm57
  refine c_reg ?_
  refine r_mv z (r_mv z ?_)
  refine rl_st (fun _ h=>mv1 h) ?_
  obtain rfl:=si hm61
  exact r_sw (s_w (o_callR ca101 z (Aj.ok b0_ _ 9223372036854775807 _ hr56) (by rintro _ _ _ ⟨rfl,rfl⟩;exact (px_st (pk 3 [0]) (px_of le_ (.inr ⟨_,z,_,z,z,z⟩)))))) (fun _ _ _ _ h=>h.elim)
 have hm61:=sm_l hm57
 obtain ⟨n62,hn62,hm63⟩:=ltx hm61
 obtain ⟨r64,hr64,hm65⟩:=bs hm63
 rcases r64 with ra66 | ⟨rn67,ro68⟩
 rotate_left
 ·have hm69:=sm_r hm65
  refine c_reg ?_
  refine r_mv z (r_mv z ?_)
  refine rl_st (fun _ h=>mv1 h) ?_
  refine r_c (s_w (o_callL ca101 z (Aj.ok b0_ _ 9223372036854775807 _ hr56) (fun _ _ _ h=>h))) ?_
  refine r_u (o_cv z (cvI (cWI Tryz.underlying22 Tryz.underlying2 ra58.1) hn62)) (r_mv z ?_)
  obtain rfl:=si hm69
  exact r_sw (s_w (o_callR ca101 z (Aj.ok b0_ _ 9223372036854775807 _ hr64) (by rintro _ _ _ ⟨rfl,rfl⟩;exact (px_st (pk 3 [0]) (px_of le_ (.inr ⟨_,z,_,z,z,z⟩)))))) (fun _ _ _ _ h=>h.elim)
 have hm69:=sm_l hm65
 refine c_reg ?_
 refine r_mv z (r_mv z ?_)
 refine rl_st (fun _ h=>mv1 h) ?_
 refine r_c (s_w (o_callL ca101 z (Aj.ok b0_ _ 9223372036854775807 _ hr56) (fun _ _ _ h=>h))) ?_
 refine r_u (o_cv z (cvI (cWI Tryz.underlying22 Tryz.underlying2 ra58.1) hn62)) (r_mv z ?_)
 refine r_c (s_w (o_callL ca101 z (Aj.ok b0_ _ 9223372036854775807 _ hr64) (fun _ _ _ h=>h))) ?_
 obtain ⟨n70,hn70,hm71⟩:=ltx hm69
 refine r_u (o_cv z (cvI (cWI Tryz.underlying22 Tryz.underlying2 ra66.1) hn70)) ?_
 refine r_u (o_bld [vI n62,vI n70] z (fun _=>by kernel_rfl)) (r_nc z (r_fa fa96_7 z ?_))
 refine rl_st (fun _ h=>mv1 h) ?_
 refine r_u0 (o_stn ag47 z z z z z z z) ?_
 refine r_nil (x_seq (c_seq ?_))
 obtain ⟨r72,hr72,hm73⟩:=ltx hm71
 rcases r72 with ra74 | ⟨rn75,ro76⟩
 rotate_left
 ·have hm77:=sm_r hm73
  refine c_any mixed (effs:=[12]) (V:=[]) ?_
  refine stage_st (fun _ h=>mv1 h) ?_
  refine stn mk16_ [0,1,2,3,4,5,6,7,8,9,10,11] [12] [_,_,_,_,_,_,_,_,_,_,_,_] (q_mv z z z (q_mv z z z (q_u z z (o_nc z) (q_fa z z fa96_7 z (q_fa z z fa47_1 z (q_ld z z 1 sc2 z z z (q_mv z z z (q_u z z (o_nc z) (q_fa z z fa96_7 z (q_fa z z fa47_0 z (q_ld z z 1 sc2 z z z (q_u z z (o_bin z z (bI_le _ _)) qn)))))))))))) ?_ (nxt z)
  obtain rfl:=si hm77
  exact ec (eo_w z (s_w (o_callR ca102 z (An.ok b0_ _ _ _ hr72) (by rintro _ _ _ ⟨rfl,rfl⟩;exact (px_st (pk 3 [0]) (px_of le_ (.inr ⟨_,z,_,z,z,z⟩)))))) (fun _ _ _ _ h=>h.elim)) en
 have hm77:=sm_l hm73
 refine c_any mixed (effs:=[12]) (V:=[]) ?_
 refine stage_st (fun _ h=>mv1 h) ?_
 refine stn mk16_ [0,1,2,3,4,5,6,7,8,9,10,11] [12] [_,_,_,_,_,_,_,_,_,_,_,_] (q_mv z z z (q_mv z z z (q_u z z (o_nc z) (q_fa z z fa96_7 z (q_fa z z fa47_1 z (q_ld z z 1 sc2 z z z (q_mv z z z (q_u z z (o_nc z) (q_fa z z fa96_7 z (q_fa z z fa47_0 z (q_ld z z 1 sc2 z z z (q_u z z (o_bin z z (bI_le _ _)) qn)))))))))))) ?_ (nxt z)
 refine ec (eo_c z (s_w (o_callL ca102 z (An.ok b0_ _ _ _ hr72) (fun _ _ _ h=>h))) ?_) en
 refine stage z z z z mk16_ [] [] z z z qn en ?_
 intro _
 refine ex_sub (E':=[(0,pt b0_ 0),(3,pt b1 0)]) ⟨z,z,trivial⟩ ?_
 refine x_seq (c_seq ?_)
 obtain ⟨r78,hr78,hm79⟩:=bs hm77
 rcases r78 with ra80 | ⟨rn81,ro82⟩
 rotate_left
 ·have hm83:=sm_r hm79
  refine c_reg ?_
  refine r_mv z (r_mv z ?_)
  obtain rfl:=si hm83
  exact r_sw (s_w (o_callR ca103 z (Db.ok b0_ _ _ hr78) (by rintro _ _ _ ⟨rfl,rfl⟩;exact (px_st (pk 3 [0]) (px_of le_ (.inr ⟨_,z,_,z,z,z⟩)))))) (fun _ _ _ _ h=>h.elim)
 have hm83:=sm_l hm79
 refine c_reg ?_
 refine r_mv z (r_mv z ?_)
 refine r_sw (s_w (o_callL ca103 z (Db.ok b0_ _ _ hr78) (fun _ _ _ h=>h))) ?_
 rintro pv85 R _ _ ⟨⟨_,g86⟩,rfl,rfl,rfl⟩
 refine r_nc z (r_fa fa96_1 z ?_)
 refine rl_st (fun _ h=>mv2 h) ?_
 refine r_u0 (ou_if (one_p 1 z) fun ho0=>o_st sc92 z z z ho0 z z) ?_
 refine r_nil (x_seq (c_seq ?_))
 obtain ⟨r87,hr87,hm88⟩:=bs hm83
 rcases r87 with ra89 | ⟨rn90,ro91⟩
 rotate_left
 ·have hm92:=sm_r hm88
  refine c_reg ?_
  refine r_mv z (r_mv z ?_)
  refine rl_st (fun _ h=>mv2 h) ?_
  obtain rfl:=si hm92
  exact r_sw (s_w (o_callR ca104 z (CL.ok b0_ _ _ hr87) (by rintro _ _ _ ⟨rfl,rfl⟩;exact (px_st (pk 4 [0]) (px_of le_ (.inr ⟨_,z,_,z,z,z⟩)))))) (fun _ _ _ _ h=>h.elim)
 have hm92:=sm_l hm88
 refine c_reg ?_
 refine r_mv z (r_mv z ?_)
 refine rl_st (fun _ h=>mv2 h) ?_
 refine r_sw (s_w (o_callL ca104 z (CL.ok b0_ _ _ hr87) (fun _ _ _ h=>h))) ?_
 rintro pv94 R _ _ ⟨⟨_,g95⟩,rfl,rfl,rfl⟩
 refine r_nc z (r_fa fa96_2 z ?_)
 refine rl_st (fun _ h=>mv2 h) ?_
 refine r_u0 (ou_if (one_p 1 z) fun ho0=>o_st sc93 z z z ho0 z z) ?_
 refine r_nil (x_seq (c_seq ?_))
 refine cd_st (fun _ h=>mv1 h) ?_
 refine cd_opt (fun ho98 => ?_) (fun x96 b97 ho98 => ?_)
 ·rintro rfl
  have hm99:=om_n hm92 ho98
  cases hm99
 rintro rfl
 have hm99:=om_s hm92 ho98
 obtain ⟨⟨pv101,g102⟩,⟨pv104,g105⟩⟩:=g95
 refine cd_st (fun _ h=>st_star_o h) ?_
 obtain ⟨p106,hp111,hm112⟩:=bs hm99
 refine cd_cut (fun x ks=>∀(q107:Option Ah),∀(_:p106=Sum.inl q107),∀(pv108:Value×Ah.G),EX x .normal ks [(0,pt b0_ 0),(3,pt b1 0)] R (Bk b0_ 177 (Aa.c ra89.2)::Bk b97 144 [vI x96.kind,pv101,pv104]::Bk b1 96 [vI n8,vI n16,vI n24,vW ra28.1,pv108.1,pt b97 0,v0,vW ra40.1,vW ra46.1,vW ra52.1,vI n62,vI n70]::rO (Ai.op g102) pv101 x96.a::rO (Af.op g105) pv104 x96.t::OwM vW Ap.v v0 []::rO (Ah.op pv108.2) pv108.1 q107::F)) ?_ fun K113 => ?_
 rotate_left
 ·refine cd_by ((Ao x96)==n8) (fun h190 => ?_) fun h190 => ?_
  rotate_left
  ·have hm191:=iff_ hp111 h190
   obtain ⟨r231,hr231,hm232⟩:=ltx hm191
   rcases r231 with ra233 | ⟨rn234,ro235⟩
   ·have hm236:=sm_l hm232
    refine c_any mixed (effs:=[51]) (V:=[]) ?_
    refine stage_st (fun _ h=>mv4 h) ?_
    refine stn mk15_ [0,1,2,3,4,5,6,7,8,9,10,11,12,13,14,15,16,17,18,19,20,21,22,23,24,25,26,27,28,29,30,31,32,33,34,35,36,37,38,39,40,41,42,43,44,45,46,47,48,49,50] [51] [_,_,_,_,_,_,_,_,_,_,_,_,_,_,_,_,_,_,_,_,_,_,_,_,_,_,_,_,_,_,_,_,_,_,_,_,_,_,_,_,_,_,_,_,_,_,_,_,_,_,_] (q_mv z z z (q_mv z z z (q_u z z (o_nc z) (q_fa z z fa96_2 z (q_ld z z 4 sc93 z z z (q_u z z (o_callqP ca67 z (Ao.ok b97 x96 (⟨(pv101,g102),(pv104,g105)⟩:Ac.G) _ z) (pk 7 [1,2,3,0,4,5,6]) (pk 7 [3,0,1,2,4,5,6])) (q_mv z z z (q_u z z (o_nc z) (q_fa z z fa96_0 z (q_fa z z fa24_0 z (q_ld z z 4 sc3 z z z (q_u z z (o_bin z z (bI_eq _ n8)) (q_mv z z z (q_n z z z z h190 (q_n z z z z h190 (q_n z z z z h190 (q_n z z z z h190 (q_n z z z z h190 (q_n z z z z h190 (q_n z z z z h190 (q_n z z z z h190 (q_n z z z z h190 (q_n z z z z h190 (q_n z z z z h190 (q_u z z (o_pf z h190 z) (q_mv z z z (q_n z z z z z (q_n z z z z z (q_n z z z z z (q_n z z z z z (q_n z z z z z (q_n z z z z z (q_n z z z z z (q_n z z z z z (q_n z z z z z (q_n z z z z z (q_n z z z z z (q_u z z (o_pf z z z) (q_mv z z z (q_n z z z z z (q_n z z z z z (q_n z z z z z (q_n z z z z z (q_n z z z z z (q_n z z z z z (q_n z z z z z (q_n z z z z z (q_n z z z z z (q_n z z z z z (q_n z z z z z (q_u z z (o_pf z z z) qn))))))))))))))))))))))))))))))))))))))))))))))))))) ?_ (nxt z)
    refine ec (eo_c z (s_w (o_callL ca102 z (An.ok b0_ _ _ _ hr231) (fun _ _ _ h=>h))) ?_) en
    refine stage z z z z mk15_ [] [] z z z qn en ?_
    intro _
    refine ex_sub (E':=[(0,pt b0_ 0),(3,pt b1 0)]) ⟨z,z,trivial⟩ ?_
    obtain rfl:=si hm236
    exact x_sub (K113 _ z (pv85,g86)) ⟨z,z,trivial⟩ (pk 7 [0,1,4,2,3,6,5])
   have hm236:=sm_r hm232
   refine c_any mixed (effs:=[51]) (V:=[]) ?_
   refine stage_st (fun _ h=>mv4 h) ?_
   refine stn mk15_ [0,1,2,3,4,5,6,7,8,9,10,11,12,13,14,15,16,17,18,19,20,21,22,23,24,25,26,27,28,29,30,31,32,33,34,35,36,37,38,39,40,41,42,43,44,45,46,47,48,49,50] [51] [_,_,_,_,_,_,_,_,_,_,_,_,_,_,_,_,_,_,_,_,_,_,_,_,_,_,_,_,_,_,_,_,_,_,_,_,_,_,_,_,_,_,_,_,_,_,_,_,_,_,_] (q_mv z z z (q_mv z z z (q_u z z (o_nc z) (q_fa z z fa96_2 z (q_ld z z 4 sc93 z z z (q_u z z (o_callqP ca67 z (Ao.ok b97 x96 (⟨(pv101,g102),(pv104,g105)⟩:Ac.G) _ z) (pk 7 [1,2,3,0,4,5,6]) (pk 7 [3,0,1,2,4,5,6])) (q_mv z z z (q_u z z (o_nc z) (q_fa z z fa96_0 z (q_fa z z fa24_0 z (q_ld z z 4 sc3 z z z (q_u z z (o_bin z z (bI_eq _ n8)) (q_mv z z z (q_n z z z z h190 (q_n z z z z h190 (q_n z z z z h190 (q_n z z z z h190 (q_n z z z z h190 (q_n z z z z h190 (q_n z z z z h190 (q_n z z z z h190 (q_n z z z z h190 (q_n z z z z h190 (q_n z z z z h190 (q_u z z (o_pf z h190 z) (q_mv z z z (q_n z z z z z (q_n z z z z z (q_n z z z z z (q_n z z z z z (q_n z z z z z (q_n z z z z z (q_n z z z z z (q_n z z z z z (q_n z z z z z (q_n z z z z z (q_n z z z z z (q_u z z (o_pf z z z) (q_mv z z z (q_n z z z z z (q_n z z z z z (q_n z z z z z (q_n z z z z z (q_n z z z z z (q_n z z z z z (q_n z z z z z (q_n z z z z z (q_n z z z z z (q_n z z z z z (q_n z z z z z (q_u z z (o_pf z z z) qn))))))))))))))))))))))))))))))))))))))))))))))))))) ?_ (nxt z)
   obtain rfl:=si hm236
   try dsimp only at hm112
   obtain rfl:=si hm112
   exact ec (eo_w z (s_w (o_callR ca102 z (An.ok b0_ _ _ _ hr231) (by rintro _ _ _ ⟨rfl,rfl⟩;exact (px_st (pk 7 [0]) (px_of le_ (.inr ⟨_,z,_,z,z,z⟩)))))) (fun _ _ _ _ h=>h.elim)) en
  have hm191:=ift hp111 h190
  obtain ⟨r192,hr192,hm193⟩:=bs hm191
  refine cd_st (fun _ h=>mv5 h) ?_
  refine cd_opt (fun ho196 => ?_) (fun x194 b195 ho196 => ?_)
  ·rintro rfl
   have hm197:=om_n hm193 ho196
   cases hm197
  rintro rfl
  have hm197:=om_s hm193 ho196
  refine cd_st (fun _ h=>st_star_o h) ?_
  obtain ⟨p199,hp201,hm202⟩:=bs hm197
  refine cd_joinS (p:=p199) (Ef:=fun q200=>[(0,pt b0_ 0),(3,pt b1 0)]) (Lf:=fun q200=>Bk b0_ 177 (Aa.c ra89.2)::Bk b195 138 [g86.m,vI x194.bytes]::Bk b97 144 [vI x96.kind,pv101,pv104]::Bk b1 96 [vI n8,vI n16,vI n24,vW ra28.1,pt b195 0,pt b97 0,v0,vW ra40.1,vW ra46.1,vW ra52.1,vI n62,vI n70]::OwM vS Ak.v g86.m x194.m::rO (Ai.op g102) pv101 x96.a::rO (Af.op g105) pv104 x96.t::OwM vW Ap.v v0 []::F) (fun q200 hq => ?_) fun K203 => ?_
  ·subst hq
   try dsimp only at hm202
   refine ex_st (fun _ h=>mv2 (mv4 h)) ?_
   refine ex_st (fun _ h=>st_some (f:=Ah.op g86) (a:=x194) (st_star_f (A:=Ah.fl b195 x194 g86) h)) ?_
   obtain rfl:=si hm202
   exact x_sub (K113 _ z (pt b195 0,g86)) ⟨z,z,trivial⟩ (pk 7 [1,2,3,4,5,6,0])
  refine cd_by (r192==(AZ x194)) (fun h204 => ?_) fun h204 => ?_
  rotate_left
  ·have hm205:=iff_ hp201 h204
   obtain ⟨r225,hr225,hm226⟩:=ltx hm205
   rcases r225 with ra227 | ⟨rn228,ro229⟩
   ·have hm230:=sm_l hm226
    refine c_any mixed (effs:=[51]) (V:=[]) ?_
    refine stage_st (fun _ h=>mv6 h) ?_
    refine stn mk15_ [0,1,2,3,4,5,6,7,8,9,10,11,12,13,14,15,16,17,18,19,20,21,22,23,24,25,26,27,28,29,30,31,32,33,34,35,36,37,38,39,40,41,42,43,44,45,46,47,48,49,50] [51] [_,_,_,_,_,_,_,_,_,_,_,_,_,_,_,_,_,_,_,_,_,_,_,_,_,_,_,_,_,_,_,_,_,_,_,_,_,_,_,_,_,_,_,_,_,_,_,_,_,_,_] (q_mv z z z (q_mv z z z (q_u z z (o_nc z) (q_fa z z fa96_2 z (q_ld z z 6 sc93 z z z (q_u z z (o_callqP ca67 z (Ao.ok b97 x96 (⟨(pv101,g102),(pv104,g105)⟩:Ac.G) _ z) (pk 8 [3,4,5,0,1,2,6,7]) (pk 8 [3,4,5,0,1,2,6,7])) (q_mv z z z (q_u z z (o_nc z) (q_fa z z fa96_0 z (q_fa z z fa24_0 z (q_ld z z 6 sc3 z z z (q_u z z (o_bin z z (bI_eq _ n8)) (q_mv z z z (q_y z z z z h190 (o_mv z) (q_y z z z z h190 (o_nc z) (q_y z z z z h190 (o_fa fa96_2 z) (q_y z z z z h190 (o_ld 6 sc93 z z z) (q_y z z z z h190 (o_callqP ca105 z (Be.ok b97 _ (⟨(pv101,g102),(pv104,g105)⟩:Ac.G) _ hr192) (pk 8 [3,4,5,0,1,2,6,7]) (pk 8 [3,4,5,0,1,2,6,7])) (q_y z z z z h190 (o_mv z) (q_y z z z z h190 (o_nc z) (q_y z z z z h190 (o_fa fa96_1 z) (q_y z z z z h190 (o_ld 6 sc92 z z z) (q_y z z z z h190 (o_callqP ca106 z (AZ.ok b195 x194 g86 _ z) (pk 8 [1,2,0,3,4,5,6,7]) (pk 8 [2,0,1,3,4,5,6,7])) (q_y z z z z h190 (o_bin z z (bI_eq _ _)) (q_u z z (o_pt z h190 z) (q_mv z z z (q_n z z z z h204 (q_n z z z z h204 (q_n z z z z h204 (q_n z z z z h204 (q_n z z z z h204 (q_n z z z z h204 (q_n z z z z h204 (q_n z z z z h204 (q_n z z z z h204 (q_n z z z z h204 (q_n z z z z h204 (q_u z z (o_pf z h204 z) (q_mv z z z (q_n z z z z z (q_n z z z z z (q_n z z z z z (q_n z z z z z (q_n z z z z z (q_n z z z z z (q_n z z z z z (q_n z z z z z (q_n z z z z z (q_n z z z z z (q_n z z z z z (q_u z z (o_pf z z z) qn))))))))))))))))))))))))))))))))))))))))))))))))))) ?_ (nxt z)
    refine ec (eo_c z (s_w (o_callL ca102 z (An.ok b0_ _ _ _ hr225) (fun _ _ _ h=>h))) ?_) en
    refine stage z z z z mk15_ [] [] z z z qn en ?_
    intro _
    refine ex_sub (E':=[(0,pt b0_ 0),(3,pt b1 0)]) ⟨z,z,trivial⟩ ?_
    obtain rfl:=si hm230
    exact x_sub (K203 _ z) ⟨z,z,trivial⟩ (pk 8 [0,1,3,6,2,4,5,7])
   have hm230:=sm_r hm226
   refine c_any mixed (effs:=[51]) (V:=[]) ?_
   refine stage_st (fun _ h=>mv6 h) ?_
   refine stn mk15_ [0,1,2,3,4,5,6,7,8,9,10,11,12,13,14,15,16,17,18,19,20,21,22,23,24,25,26,27,28,29,30,31,32,33,34,35,36,37,38,39,40,41,42,43,44,45,46,47,48,49,50] [51] [_,_,_,_,_,_,_,_,_,_,_,_,_,_,_,_,_,_,_,_,_,_,_,_,_,_,_,_,_,_,_,_,_,_,_,_,_,_,_,_,_,_,_,_,_,_,_,_,_,_,_] (q_mv z z z (q_mv z z z (q_u z z (o_nc z) (q_fa z z fa96_2 z (q_ld z z 6 sc93 z z z (q_u z z (o_callqP ca67 z (Ao.ok b97 x96 (⟨(pv101,g102),(pv104,g105)⟩:Ac.G) _ z) (pk 8 [3,4,5,0,1,2,6,7]) (pk 8 [3,4,5,0,1,2,6,7])) (q_mv z z z (q_u z z (o_nc z) (q_fa z z fa96_0 z (q_fa z z fa24_0 z (q_ld z z 6 sc3 z z z (q_u z z (o_bin z z (bI_eq _ n8)) (q_mv z z z (q_y z z z z h190 (o_mv z) (q_y z z z z h190 (o_nc z) (q_y z z z z h190 (o_fa fa96_2 z) (q_y z z z z h190 (o_ld 6 sc93 z z z) (q_y z z z z h190 (o_callqP ca105 z (Be.ok b97 _ (⟨(pv101,g102),(pv104,g105)⟩:Ac.G) _ hr192) (pk 8 [3,4,5,0,1,2,6,7]) (pk 8 [3,4,5,0,1,2,6,7])) (q_y z z z z h190 (o_mv z) (q_y z z z z h190 (o_nc z) (q_y z z z z h190 (o_fa fa96_1 z) (q_y z z z z h190 (o_ld 6 sc92 z z z) (q_y z z z z h190 (o_callqP ca106 z (AZ.ok b195 x194 g86 _ z) (pk 8 [1,2,0,3,4,5,6,7]) (pk 8 [2,0,1,3,4,5,6,7])) (q_y z z z z h190 (o_bin z z (bI_eq _ _)) (q_u z z (o_pt z h190 z) (q_mv z z z (q_n z z z z h204 (q_n z z z z h204 (q_n z z z z h204 (q_n z z z z h204 (q_n z z z z h204 (q_n z z z z h204 (q_n z z z z h204 (q_n z z z z h204 (q_n z z z z h204 (q_n z z z z h204 (q_n z z z z h204 (q_u z z (o_pf z h204 z) (q_mv z z z (q_n z z z z z (q_n z z z z z (q_n z z z z z (q_n z z z z z (q_n z z z z z (q_n z z z z z (q_n z z z z z (q_n z z z z z (q_n z z z z z (q_n z z z z z (q_n z z z z z (q_u z z (o_pf z z z) qn))))))))))))))))))))))))))))))))))))))))))))))))))) ?_ (nxt z)
   obtain rfl:=si hm230
   try dsimp only at hm202
   obtain rfl:=si hm202
   try dsimp only at hm112
   obtain rfl:=si hm112
   exact ec (eo_w z (s_w (o_callR ca102 z (An.ok b0_ _ _ _ hr225) (by rintro _ _ _ ⟨rfl,rfl⟩;exact (px_st (pk 8 [0]) (px_of le_ (.inr ⟨_,z,_,z,z,z⟩)))))) (fun _ _ _ _ h=>h.elim)) en
  have hm205:=ift hp201 h204
  obtain ⟨p206,hp208,hm209⟩:=bs hm205
  refine cd_joinS (p:=p206) (Ef:=fun q207=>[(0,pt b0_ 0),(3,pt b1 0)]) (Lf:=fun q207=>Bk b0_ 177 (Aa.c ra89.2)::Bk b195 138 [g86.m,vI x194.bytes]::Bk b97 144 [vI x96.kind,pv101,pv104]::Bk b1 96 [vI n8,vI n16,vI n24,vW ra28.1,pt b195 0,pt b97 0,v0,vW ra40.1,vW ra46.1,vW ra52.1,vI n62,vI n70]::OwM vS Ak.v g86.m x194.m::rO (Ai.op g102) pv101 x96.a::rO (Af.op g105) pv104 x96.t::OwM vW Ap.v v0 []::F) (fun q207 hq => ?_) fun K210 => ?_
  ·subst hq
   try dsimp only at hm209
   obtain rfl:=si hm209
   exact x_sub (K203 _ z) ⟨z,z,trivial⟩ (pk 8 [0,1,2,3,4,5,6,7])
  refine cd_by (decide ((AZ x194)≤n16)) (fun h211 => ?_) fun h211 => ?_
  ·have hm212:=ift hp208 h211
   obtain ⟨r213,hr213,hm214⟩:=ltx hm212
   rcases r213 with ra215 | ⟨rn216,ro217⟩
   ·have hm218:=sm_l hm214
    refine c_any mixed (effs:=[51]) (V:=[]) ?_
    refine stage_st (fun _ h=>mv6 h) ?_
    refine stn mk15_ [0,1,2,3,4,5,6,7,8,9,10,11,12,13,14,15,16,17,18,19,20,21,22,23,24,25,26,27,28,29,30,31,32,33,34,35,36,37,38,39,40,41,42,43,44,45,46,47,48,49,50] [51] [_,_,_,_,_,_,_,_,_,_,_,_,_,_,_,_,_,_,_,_,_,_,_,_,_,_,_,_,_,_,_,_,_,_,_,_,_,_,_,_,_,_,_,_,_,_,_,_,_,_,_] (q_mv z z z (q_mv z z z (q_u z z (o_nc z) (q_fa z z fa96_2 z (q_ld z z 6 sc93 z z z (q_u z z (o_callqP ca67 z (Ao.ok b97 x96 (⟨(pv101,g102),(pv104,g105)⟩:Ac.G) _ z) (pk 8 [3,4,5,0,1,2,6,7]) (pk 8 [3,4,5,0,1,2,6,7])) (q_mv z z z (q_u z z (o_nc z) (q_fa z z fa96_0 z (q_fa z z fa24_0 z (q_ld z z 6 sc3 z z z (q_u z z (o_bin z z (bI_eq _ n8)) (q_mv z z z (q_y z z z z h190 (o_mv z) (q_y z z z z h190 (o_nc z) (q_y z z z z h190 (o_fa fa96_2 z) (q_y z z z z h190 (o_ld 6 sc93 z z z) (q_y z z z z h190 (o_callqP ca105 z (Be.ok b97 _ (⟨(pv101,g102),(pv104,g105)⟩:Ac.G) _ hr192) (pk 8 [3,4,5,0,1,2,6,7]) (pk 8 [3,4,5,0,1,2,6,7])) (q_y z z z z h190 (o_mv z) (q_y z z z z h190 (o_nc z) (q_y z z z z h190 (o_fa fa96_1 z) (q_y z z z z h190 (o_ld 6 sc92 z z z) (q_y z z z z h190 (o_callqP ca106 z (AZ.ok b195 x194 g86 _ z) (pk 8 [1,2,0,3,4,5,6,7]) (pk 8 [2,0,1,3,4,5,6,7])) (q_y z z z z h190 (o_bin z z (bI_eq _ _)) (q_u z z (o_pt z h190 z) (q_mv z z z (q_y z z z z h204 (o_mv z) (q_y z z z z h204 (o_nc z) (q_y z z z z h204 (o_fa fa96_1 z) (q_y z z z z h204 (o_ld 6 sc92 z z z) (q_y z z z z h204 (o_callqP ca106 z (AZ.ok b195 x194 g86 _ z) (pk 8 [1,2,0,3,4,5,6,7]) (pk 8 [2,0,1,3,4,5,6,7])) (q_y z z z z h204 (o_mv z) (q_y z z z z h204 (o_nc z) (q_y z z z z h204 (o_fa fa96_0 z) (q_y z z z z h204 (o_fa fa24_1 z) (q_y z z z z h204 (o_ld 6 sc3 z z z) (q_y z z z z h204 (o_bin z z (bI_le _ _)) (q_u z z (o_pt z h204 z) (q_mv z z z (q_y z z z z h211 (o_mv z) (q_y z z z z h211 (o_nc z) (q_y z z z z h211 (o_fa fa96_1 z) (q_y z z z z h211 (o_ld 6 sc92 z z z) (q_y z z z z h211 (o_callqP ca107 z (Bn.ok b195 x194 g86 _ z) (pk 8 [1,2,0,3,4,5,6,7]) (pk 8 [2,0,1,3,4,5,6,7])) (q_y z z z z h211 (o_mv z) (q_y z z z z h211 (o_nc z) (q_y z z z z h211 (o_fa fa96_0 z) (q_y z z z z h211 (o_fa fa24_2 z) (q_y z z z z h211 (o_ld 6 sc3 z z z) (q_y z z z z h211 (o_bin z z (bI_le _ _)) (q_u z z (o_pt z h211 z) qn))))))))))))))))))))))))))))))))))))))))))))))))))) ?_ (nxt z)
    refine ec (eo_c z (s_w (o_callL ca102 z (An.ok b0_ _ _ _ hr213) (fun _ _ _ h=>h))) ?_) en
    refine stage z z z z mk15_ [] [] z z z qn en ?_
    intro _
    refine ex_sub (E':=[(0,pt b0_ 0),(3,pt b1 0)]) ⟨z,z,trivial⟩ ?_
    obtain rfl:=si hm218
    exact x_sub (K210 _ z) ⟨z,z,trivial⟩ (pk 8 [0,1,3,6,2,4,5,7])
   have hm218:=sm_r hm214
   refine c_any mixed (effs:=[51]) (V:=[]) ?_
   refine stage_st (fun _ h=>mv6 h) ?_
   refine stn mk15_ [0,1,2,3,4,5,6,7,8,9,10,11,12,13,14,15,16,17,18,19,20,21,22,23,24,25,26,27,28,29,30,31,32,33,34,35,36,37,38,39,40,41,42,43,44,45,46,47,48,49,50] [51] [_,_,_,_,_,_,_,_,_,_,_,_,_,_,_,_,_,_,_,_,_,_,_,_,_,_,_,_,_,_,_,_,_,_,_,_,_,_,_,_,_,_,_,_,_,_,_,_,_,_,_] (q_mv z z z (q_mv z z z (q_u z z (o_nc z) (q_fa z z fa96_2 z (q_ld z z 6 sc93 z z z (q_u z z (o_callqP ca67 z (Ao.ok b97 x96 (⟨(pv101,g102),(pv104,g105)⟩:Ac.G) _ z) (pk 8 [3,4,5,0,1,2,6,7]) (pk 8 [3,4,5,0,1,2,6,7])) (q_mv z z z (q_u z z (o_nc z) (q_fa z z fa96_0 z (q_fa z z fa24_0 z (q_ld z z 6 sc3 z z z (q_u z z (o_bin z z (bI_eq _ n8)) (q_mv z z z (q_y z z z z h190 (o_mv z) (q_y z z z z h190 (o_nc z) (q_y z z z z h190 (o_fa fa96_2 z) (q_y z z z z h190 (o_ld 6 sc93 z z z) (q_y z z z z h190 (o_callqP ca105 z (Be.ok b97 _ (⟨(pv101,g102),(pv104,g105)⟩:Ac.G) _ hr192) (pk 8 [3,4,5,0,1,2,6,7]) (pk 8 [3,4,5,0,1,2,6,7])) (q_y z z z z h190 (o_mv z) (q_y z z z z h190 (o_nc z) (q_y z z z z h190 (o_fa fa96_1 z) (q_y z z z z h190 (o_ld 6 sc92 z z z) (q_y z z z z h190 (o_callqP ca106 z (AZ.ok b195 x194 g86 _ z) (pk 8 [1,2,0,3,4,5,6,7]) (pk 8 [2,0,1,3,4,5,6,7])) (q_y z z z z h190 (o_bin z z (bI_eq _ _)) (q_u z z (o_pt z h190 z) (q_mv z z z (q_y z z z z h204 (o_mv z) (q_y z z z z h204 (o_nc z) (q_y z z z z h204 (o_fa fa96_1 z) (q_y z z z z h204 (o_ld 6 sc92 z z z) (q_y z z z z h204 (o_callqP ca106 z (AZ.ok b195 x194 g86 _ z) (pk 8 [1,2,0,3,4,5,6,7]) (pk 8 [2,0,1,3,4,5,6,7])) (q_y z z z z h204 (o_mv z) (q_y z z z z h204 (o_nc z) (q_y z z z z h204 (o_fa fa96_0 z) (q_y z z z z h204 (o_fa fa24_1 z) (q_y z z z z h204 (o_ld 6 sc3 z z z) (q_y z z z z h204 (o_bin z z (bI_le _ _)) (q_u z z (o_pt z h204 z) (q_mv z z z (q_y z z z z h211 (o_mv z) (q_y z z z z h211 (o_nc z) (q_y z z z z h211 (o_fa fa96_1 z) (q_y z z z z h211 (o_ld 6 sc92 z z z) (q_y z z z z h211 (o_callqP ca107 z (Bn.ok b195 x194 g86 _ z) (pk 8 [1,2,0,3,4,5,6,7]) (pk 8 [2,0,1,3,4,5,6,7])) (q_y z z z z h211 (o_mv z) (q_y z z z z h211 (o_nc z) (q_y z z z z h211 (o_fa fa96_0 z) (q_y z z z z h211 (o_fa fa24_2 z) (q_y z z z z h211 (o_ld 6 sc3 z z z) (q_y z z z z h211 (o_bin z z (bI_le _ _)) (q_u z z (o_pt z h211 z) qn))))))))))))))))))))))))))))))))))))))))))))))))))) ?_ (nxt z)
   obtain rfl:=si hm218
   try dsimp only at hm209
   obtain rfl:=si hm209
   try dsimp only at hm202
   obtain rfl:=si hm202
   try dsimp only at hm112
   obtain rfl:=si hm112
   exact ec (eo_w z (s_w (o_callR ca102 z (An.ok b0_ _ _ _ hr213) (by rintro _ _ _ ⟨rfl,rfl⟩;exact (px_st (pk 8 [0]) (px_of le_ (.inr ⟨_,z,_,z,z,z⟩)))))) (fun _ _ _ _ h=>h.elim)) en
  have hm212:=iff_ hp208 h211
  obtain ⟨r219,hr219,hm220⟩:=ltx hm212
  rcases r219 with ra221 | ⟨rn222,ro223⟩
  ·have hm224:=sm_l hm220
   refine c_any mixed (effs:=[51]) (V:=[]) ?_
   refine stage_st (fun _ h=>mv6 h) ?_
   refine stn mk15_ [0,1,2,3,4,5,6,7,8,9,10,11,12,13,14,15,16,17,18,19,20,21,22,23,24,25,26,27,28,29,30,31,32,33,34,35,36,37,38,39,40,41,42,43,44,45,46,47,48,49,50] [51] [_,_,_,_,_,_,_,_,_,_,_,_,_,_,_,_,_,_,_,_,_,_,_,_,_,_,_,_,_,_,_,_,_,_,_,_,_,_,_,_,_,_,_,_,_,_,_,_,_,_,_] (q_mv z z z (q_mv z z z (q_u z z (o_nc z) (q_fa z z fa96_2 z (q_ld z z 6 sc93 z z z (q_u z z (o_callqP ca67 z (Ao.ok b97 x96 (⟨(pv101,g102),(pv104,g105)⟩:Ac.G) _ z) (pk 8 [3,4,5,0,1,2,6,7]) (pk 8 [3,4,5,0,1,2,6,7])) (q_mv z z z (q_u z z (o_nc z) (q_fa z z fa96_0 z (q_fa z z fa24_0 z (q_ld z z 6 sc3 z z z (q_u z z (o_bin z z (bI_eq _ n8)) (q_mv z z z (q_y z z z z h190 (o_mv z) (q_y z z z z h190 (o_nc z) (q_y z z z z h190 (o_fa fa96_2 z) (q_y z z z z h190 (o_ld 6 sc93 z z z) (q_y z z z z h190 (o_callqP ca105 z (Be.ok b97 _ (⟨(pv101,g102),(pv104,g105)⟩:Ac.G) _ hr192) (pk 8 [3,4,5,0,1,2,6,7]) (pk 8 [3,4,5,0,1,2,6,7])) (q_y z z z z h190 (o_mv z) (q_y z z z z h190 (o_nc z) (q_y z z z z h190 (o_fa fa96_1 z) (q_y z z z z h190 (o_ld 6 sc92 z z z) (q_y z z z z h190 (o_callqP ca106 z (AZ.ok b195 x194 g86 _ z) (pk 8 [1,2,0,3,4,5,6,7]) (pk 8 [2,0,1,3,4,5,6,7])) (q_y z z z z h190 (o_bin z z (bI_eq _ _)) (q_u z z (o_pt z h190 z) (q_mv z z z (q_y z z z z h204 (o_mv z) (q_y z z z z h204 (o_nc z) (q_y z z z z h204 (o_fa fa96_1 z) (q_y z z z z h204 (o_ld 6 sc92 z z z) (q_y z z z z h204 (o_callqP ca106 z (AZ.ok b195 x194 g86 _ z) (pk 8 [1,2,0,3,4,5,6,7]) (pk 8 [2,0,1,3,4,5,6,7])) (q_y z z z z h204 (o_mv z) (q_y z z z z h204 (o_nc z) (q_y z z z z h204 (o_fa fa96_0 z) (q_y z z z z h204 (o_fa fa24_1 z) (q_y z z z z h204 (o_ld 6 sc3 z z z) (q_y z z z z h204 (o_bin z z (bI_le _ _)) (q_u z z (o_pt z h204 z) (q_mv z z z (q_n z z z z h211 (q_n z z z z h211 (q_n z z z z h211 (q_n z z z z h211 (q_n z z z z h211 (q_n z z z z h211 (q_n z z z z h211 (q_n z z z z h211 (q_n z z z z h211 (q_n z z z z h211 (q_n z z z z h211 (q_u z z (o_pf z h211 z) qn))))))))))))))))))))))))))))))))))))))))))))))))))) ?_ (nxt z)
   refine ec (eo_c z (s_w (o_callL ca102 z (An.ok b0_ _ _ _ hr219) (fun _ _ _ h=>h))) ?_) en
   refine stage z z z z mk15_ [] [] z z z qn en ?_
   intro _
   refine ex_sub (E':=[(0,pt b0_ 0),(3,pt b1 0)]) ⟨z,z,trivial⟩ ?_
   obtain rfl:=si hm224
   exact x_sub (K210 _ z) ⟨z,z,trivial⟩ (pk 8 [0,1,3,6,2,4,5,7])
  have hm224:=sm_r hm220
  refine c_any mixed (effs:=[51]) (V:=[]) ?_
  refine stage_st (fun _ h=>mv6 h) ?_
  refine stn mk15_ [0,1,2,3,4,5,6,7,8,9,10,11,12,13,14,15,16,17,18,19,20,21,22,23,24,25,26,27,28,29,30,31,32,33,34,35,36,37,38,39,40,41,42,43,44,45,46,47,48,49,50] [51] [_,_,_,_,_,_,_,_,_,_,_,_,_,_,_,_,_,_,_,_,_,_,_,_,_,_,_,_,_,_,_,_,_,_,_,_,_,_,_,_,_,_,_,_,_,_,_,_,_,_,_] (q_mv z z z (q_mv z z z (q_u z z (o_nc z) (q_fa z z fa96_2 z (q_ld z z 6 sc93 z z z (q_u z z (o_callqP ca67 z (Ao.ok b97 x96 (⟨(pv101,g102),(pv104,g105)⟩:Ac.G) _ z) (pk 8 [3,4,5,0,1,2,6,7]) (pk 8 [3,4,5,0,1,2,6,7])) (q_mv z z z (q_u z z (o_nc z) (q_fa z z fa96_0 z (q_fa z z fa24_0 z (q_ld z z 6 sc3 z z z (q_u z z (o_bin z z (bI_eq _ n8)) (q_mv z z z (q_y z z z z h190 (o_mv z) (q_y z z z z h190 (o_nc z) (q_y z z z z h190 (o_fa fa96_2 z) (q_y z z z z h190 (o_ld 6 sc93 z z z) (q_y z z z z h190 (o_callqP ca105 z (Be.ok b97 _ (⟨(pv101,g102),(pv104,g105)⟩:Ac.G) _ hr192) (pk 8 [3,4,5,0,1,2,6,7]) (pk 8 [3,4,5,0,1,2,6,7])) (q_y z z z z h190 (o_mv z) (q_y z z z z h190 (o_nc z) (q_y z z z z h190 (o_fa fa96_1 z) (q_y z z z z h190 (o_ld 6 sc92 z z z) (q_y z z z z h190 (o_callqP ca106 z (AZ.ok b195 x194 g86 _ z) (pk 8 [1,2,0,3,4,5,6,7]) (pk 8 [2,0,1,3,4,5,6,7])) (q_y z z z z h190 (o_bin z z (bI_eq _ _)) (q_u z z (o_pt z h190 z) (q_mv z z z (q_y z z z z h204 (o_mv z) (q_y z z z z h204 (o_nc z) (q_y z z z z h204 (o_fa fa96_1 z) (q_y z z z z h204 (o_ld 6 sc92 z z z) (q_y z z z z h204 (o_callqP ca106 z (AZ.ok b195 x194 g86 _ z) (pk 8 [1,2,0,3,4,5,6,7]) (pk 8 [2,0,1,3,4,5,6,7])) (q_y z z z z h204 (o_mv z) (q_y z z z z h204 (o_nc z) (q_y z z z z h204 (o_fa fa96_0 z) (q_y z z z z h204 (o_fa fa24_1 z) (q_y z z z z h204 (o_ld 6 sc3 z z z) (q_y z z z z h204 (o_bin z z (bI_le _ _)) (q_u z z (o_pt z h204 z) (q_mv z z z (q_n z z z z h211 (q_n z z z z h211 (q_n z z z z h211 (q_n z z z z h211 (q_n z z z z h211 (q_n z z z z h211 (q_n z z z z h211 (q_n z z z z h211 (q_n z z z z h211 (q_n z z z z h211 (q_n z z z z h211 (q_u z z (o_pf z h211 z) qn))))))))))))))))))))))))))))))))))))))))))))))))))) ?_ (nxt z)
  obtain rfl:=si hm224
  try dsimp only at hm209
  obtain rfl:=si hm209
  try dsimp only at hm202
  obtain rfl:=si hm202
  try dsimp only at hm112
  obtain rfl:=si hm112
  exact ec (eo_w z (s_w (o_callR ca102 z (An.ok b0_ _ _ _ hr219) (by rintro _ _ _ ⟨rfl,rfl⟩;exact (px_st (pk 8 [0]) (px_of le_ (.inr ⟨_,z,_,z,z,z⟩)))))) (fun _ _ _ _ h=>h.elim)) en
 intro q107 hq pv108
 subst hq
 try dsimp only at hm112
 obtain ⟨pv109,g110⟩:=pv108
 refine x_seq (c_seq (c_seq ?_))
 refine cd_st (fun _ h=>mv6 h) ?_
 refine cd_opt (fun ho116 => ?_) (fun x114 b115 ho116 => ?_)
 ·rintro rfl
  have hm117:=om_n hm112 ho116
  cases hm117
 rintro rfl
 have hm117:=om_s hm112 ho116
 refine cd_st (fun _ h=>st_star_o h) ?_
 refine c_reg ?_
 refine r_mv z (r_nc z (r_fa fa96_1 z (r_ld 4 sc92 z z z ?_)))
 obtain ⟨r119,hr119,hm121⟩:=bs hm117
 refine r_sw (s_w (o_call ca39 z (Bl.ok b115 _ g110 _ hr119))) ?_
 rintro v120 R _ _ ⟨_,rfl,rfl,rfl⟩
 refine r_u (o_lenO 0 Tryz.underlying98 z z) (r_mv z ?_)
 refine nsq ?_
 obtain ⟨p122,hp124,hm125⟩:=bs hm121
 refine cd_joinS (p:=p122) (Ef:=fun q123=>[(0,pt b0_ 0),(3,pt b1 0)]) (Lf:=fun q123=>Bk b115 138 [g110.m,vI x114.bytes]::Bk b0_ 177 (Aa.c ra89.2)::Bk b97 144 [vI x96.kind,pv101,pv104]::Bk b1 96 [vI n8,vI n16,vI n24,vW ra28.1,pt b115 0,pt b97 0,v0,vW ra40.1,vW ra46.1,vW ra52.1,vI n62,vI n70]::OwS true 9 1 eS v120 r119::OwM vS Ak.v g110.m x114.m::rO (Ai.op g102) pv101 x96.a::rO (Af.op g105) pv104 x96.t::OwM vW Ap.v v0 []::F) (fun q123 hq => ?_) fun K126 => ?_
 rotate_left
 ·refine c_blk ?_
  refine cd_loop (M:=fun k172 (s_171:Int)=>CU r119 ra46 ra52 ra89 x114 x96 k172 s_171=some p122) (Ef:=fun (s_171:Int)=>[(0,pt b0_ 0),(3,pt b1 0),(141,v120),(142,vI (r119.length:Int)),(143,vI s_171)]) (Lf:=fun (s_171:Int)=>Bk b115 138 [g110.m,vI x114.bytes]::Bk b0_ 177 (Aa.c ra89.2)::Bk b97 144 [vI x96.kind,pv101,pv104]::Bk b1 96 [vI n8,vI n16,vI n24,vW ra28.1,pt b115 0,pt b97 0,v0,vW ra40.1,vW ra46.1,vW ra52.1,vI n62,vI n70]::OwS true 9 1 eS v120 r119::OwM vS Ak.v g110.m x114.m::rO (Ai.op g102) pv101 x96.a::rO (Af.op g105) pv104 x96.t::OwM vW Ap.v v0 []::F) (((r119.length:Int)-0).toNat+1) 0 hp124 ⟨z,z,z,z,z,trivial⟩ (pk 9 [1,3,4,5,0,2,6,7,8]) (fun _ h=>by cases h) fun k172 s_171 hM174 => ?_
  have hm173:CU r119 ra46 ra52 ra89 x114 x96 (k172+1) s_171=some p122:=hM174
  rw [CU] at hm173
  refine csr ?_
  refine r_bin z z (bI_lt _ _) ?_
  refine r_nil (x_seq (c_seq ?_))
  refine c_if (b:=decide (s_171<(r119.length:Int))) z (fun h175 => ?_) fun h175 => ?_
  rotate_left
  ·have hm176:=iff_ hm173 h175
   refine c_exit (x_exit (ks':=_) z ?_)
   obtain rfl:=si hm176
   exact x_sub (K126 _ z) ⟨z,z,trivial⟩ (pk 9 [0,1,2,3,4,5,6,7,8])
  have hm176:=ift hm173 h175
  refine c_skip (x_seq (c_seq (c_blk (csr ?_))))
  obtain ⟨x177,hx177,hm178⟩:=bs hm176
  refine r_u (o_ixO 4 Tryz.underlying98 (fun _=>by kernel_rfl) z z z hx177) (r_u (o_ldO0 4 sc9 z z hx177 z z) (r_as z ?_))
  refine nsr ?_
  refine r_mv z (r_nc z (r_fa fa96_1 z (r_ld 3 sc92 z z z (r_mv z ?_))))
  obtain ⟨r179,hr179,hm180⟩:=ltx hm178
  refine rl_st (fun _ h=>mv1 (mv5 h)) ?_
  refine r_c (s_w (o_call ca40 z (AA.ok b115 _ g110 _ _ hr179))) ?_
  refine r_mv z ?_
  refine r_ext z z ?_
  refine r_ext z z ?_
  refine r_new (o_al ze50) fun b181 => ?_
  refine r_u0 (o_stn ag50 z z z z z z z) ?_
  refine r_as z ?_
  refine nsq ?_
  obtain ⟨r182,hr182,hm183⟩:=bs hm180
  obtain ⟨r184,hr184,hm185⟩:=ltx hm183
  rcases r184 with ra186 | ⟨rn187,ro188⟩
  ·have hm189:=sm_l hm185
   refine c_any mixed (effs:=[39]) (V:=[]) ?_
   refine stage_st (fun _ h=>mv3 h) ?_
   refine stn mk12_ [0,1,2,3,4,5,6,7,8,9,10,11,12,13,14,15,16,17,18,19,20,21,22,23,24,25,26,27,28,29,30,31,32,33,34,35,36,37,38] [39] [_,_,_,_,_,_,_,_,_,_,_,_,_,_,_,_,_,_,_,_,_,_,_,_,_,_,_,_,_,_,_,_,_,_,_,_,_,_,_] (q_mv z z z (q_mv z z z (q_u z z (o_nc z) (q_fa z z fa96_2 z (q_ld z z 5 sc93 z z z (q_mv z z z (q_u z z (o_callqP ca108 z (BG.ok b97 _ (⟨(pv101,g102),(pv104,g105)⟩:Ac.G) _ _ hr182) (pk 10 [4,7,8,0,1,2,3,5,6,9]) (pk 10 [3,4,5,6,0,7,8,1,2,9])) (q_mv z z z (qc z z (s_gt z z fun g=>o_mv z) (qc z z (s_gt z z fun g=>o_bin (evg z g) z (bS_ne _ [])) (q_u z z (o_and z z) (q_mv z z z (qc z z (s_gt z z fun g=>o_fa fa50_2 z) (qc z z (s_gt z z fun g=>o_ld 1 sc22 (evg z g) z z) (qc z z (s_gt z z fun g=>o_bin (evg z g) z (bW_ge _ 1)) (q_u z z (o_and z z) (q_mv z z z (qc z z (s_gt z z fun g=>o_fa fa50_2 z) (qc z z (s_gt z z fun g=>o_ld 1 sc22 (evg z g) z z) (qc z z (s_gt z z fun g=>o_mv z) (qc z z (s_gt z z fun g=>o_nc (evg z g)) (qc z z (s_gt z z fun g=>o_fa fa96_6 (evg z g)) (qc z z (s_gt z z fun g=>o_ld 5 sc22 (evg z g) z z) (qc z z (s_gt z z fun g=>o_bin (evg z g) (evg z g) (bW_le _ _)) (q_u z z (o_and z z) (q_mv z z z (qc z z (s_gt z z fun g=>o_fa fa50_3 z) (qc z z (s_gt z z fun g=>o_ld 1 sc22 (evg z g) z z) (qc z z (s_gt z z fun g=>o_bin (evg z g) z (bW_eq _ 0)) (qc z z (s_gt z z fun g=>o_mv (evg z g)) (qc z z (s_ggf z z fun g=>o_fa fa50_3 z) (qc z z (s_ggf z z fun g=>o_ld 1 sc22 (evg z g) z z) (qc z z (s_ggf z z fun g=>o_mv z) (qc z z (s_ggf z z fun g=>o_nc (evg z g)) (qc z z (s_ggf z z fun g=>o_fa fa96_5 (evg z g)) (qc z z (s_ggf z z fun g=>o_ld 5 sc22 (evg z g) z z) (qc z z (s_ggf z z fun g=>o_bin (evg z g) (evg z g) (bW_gt _ _)) (qc z z (s_gt z z fun g=>o_or (evg z g) (evg2 z g)) (q_u z z (o_and z z) qn))))))))))))))))))))))))))))))))))))))) ?_ (nxt z)
   refine ec (eo_c z (s_w (o_callL ca102 z (An.ok b0_ _ _ _ hr184) (fun _ _ _ h=>h))) ?_) en
   refine stage z z z z mk12_ [] [] z z z qn en ?_
   intro _
   refine ex_sub (E':=[(0,pt b0_ 0),(3,pt b1 0),(141,v120),(142,vI (r119.length:Int)),(143,vI s_171)]) ⟨z,z,z,z,z,trivial⟩ ?_
   refine x_blk (x_seq (c_reg ?_))
   refine r_bin z z (bI_add _ 1) (r_mv z ?_)
   refine r_nil ?_
   exact x_lp (i64 (s_171+1)) hm189 ⟨z,z,z,z,z,trivial⟩ (pk 10 [2,0,4,5,6,3,7,8,9])
  have hm189:=sm_r hm185
  refine c_any mixed (effs:=[39]) (V:=[]) ?_
  refine stage_st (fun _ h=>mv3 h) ?_
  refine stn mk12_ [0,1,2,3,4,5,6,7,8,9,10,11,12,13,14,15,16,17,18,19,20,21,22,23,24,25,26,27,28,29,30,31,32,33,34,35,36,37,38] [39] [_,_,_,_,_,_,_,_,_,_,_,_,_,_,_,_,_,_,_,_,_,_,_,_,_,_,_,_,_,_,_,_,_,_,_,_,_,_,_] (q_mv z z z (q_mv z z z (q_u z z (o_nc z) (q_fa z z fa96_2 z (q_ld z z 5 sc93 z z z (q_mv z z z (q_u z z (o_callqP ca108 z (BG.ok b97 _ (⟨(pv101,g102),(pv104,g105)⟩:Ac.G) _ _ hr182) (pk 10 [4,7,8,0,1,2,3,5,6,9]) (pk 10 [3,4,5,6,0,7,8,1,2,9])) (q_mv z z z (qc z z (s_gt z z fun g=>o_mv z) (qc z z (s_gt z z fun g=>o_bin (evg z g) z (bS_ne _ [])) (q_u z z (o_and z z) (q_mv z z z (qc z z (s_gt z z fun g=>o_fa fa50_2 z) (qc z z (s_gt z z fun g=>o_ld 1 sc22 (evg z g) z z) (qc z z (s_gt z z fun g=>o_bin (evg z g) z (bW_ge _ 1)) (q_u z z (o_and z z) (q_mv z z z (qc z z (s_gt z z fun g=>o_fa fa50_2 z) (qc z z (s_gt z z fun g=>o_ld 1 sc22 (evg z g) z z) (qc z z (s_gt z z fun g=>o_mv z) (qc z z (s_gt z z fun g=>o_nc (evg z g)) (qc z z (s_gt z z fun g=>o_fa fa96_6 (evg z g)) (qc z z (s_gt z z fun g=>o_ld 5 sc22 (evg z g) z z) (qc z z (s_gt z z fun g=>o_bin (evg z g) (evg z g) (bW_le _ _)) (q_u z z (o_and z z) (q_mv z z z (qc z z (s_gt z z fun g=>o_fa fa50_3 z) (qc z z (s_gt z z fun g=>o_ld 1 sc22 (evg z g) z z) (qc z z (s_gt z z fun g=>o_bin (evg z g) z (bW_eq _ 0)) (qc z z (s_gt z z fun g=>o_mv (evg z g)) (qc z z (s_ggf z z fun g=>o_fa fa50_3 z) (qc z z (s_ggf z z fun g=>o_ld 1 sc22 (evg z g) z z) (qc z z (s_ggf z z fun g=>o_mv z) (qc z z (s_ggf z z fun g=>o_nc (evg z g)) (qc z z (s_ggf z z fun g=>o_fa fa96_5 (evg z g)) (qc z z (s_ggf z z fun g=>o_ld 5 sc22 (evg z g) z z) (qc z z (s_ggf z z fun g=>o_bin (evg z g) (evg z g) (bW_gt _ _)) (qc z z (s_gt z z fun g=>o_or (evg z g) (evg2 z g)) (q_u z z (o_and z z) qn))))))))))))))))))))))))))))))))))))))) ?_ (nxt z)
  obtain rfl:=si hm189
  try dsimp only at hm125
  obtain rfl:=si hm125
  exact ec (eo_w z (s_w (o_callR ca102 z (An.ok b0_ _ _ _ hr184) (by rintro _ _ _ ⟨rfl,rfl⟩;exact (px_st (pk 10 [0]) (px_of le_ (.inr ⟨_,z,_,z,z,z⟩)))))) (fun _ _ _ _ h=>h.elim)) en
 subst hq
 try dsimp only at hm125
 refine x_seq (c_seq ?_)
 obtain ⟨r127,hr127,hm128⟩:=bs hm125
 rcases r127 with ra129 | ⟨rn130,ro131⟩
 rotate_left
 ·have hm132:=sm_r hm128
  refine c_reg ?_
  refine r_mv z ?_
  refine rl_st (fun _ h=>mv1 h) ?_
  obtain rfl:=si hm132
  exact r_sw (s_w (o_callR ca101 z (Aj.ok b0_ _ 64 _ hr127) (by rintro _ _ _ ⟨rfl,rfl⟩;exact (px_st (pk 9 [0]) (px_of le_ (.inr ⟨_,z,_,z,z,z⟩)))))) (fun _ _ _ _ h=>h.elim)
 have hm132:=sm_l hm128
 refine c_reg ?_
 refine r_mv z ?_
 refine rl_st (fun _ h=>mv1 h) ?_
 refine r_c (s_w (o_callL ca101 z (Aj.ok b0_ _ 64 _ hr127) (fun _ _ _ h=>h))) ?_
 refine r_as z (r_as z ?_)
 refine nssr ?_
 refine r_mv z (r_mv z ?_)
 refine nsq ?_
 obtain ⟨p133,hp135,hm136⟩:=bs hm132
 refine cd_joinS (p:=p133) (Ef:=fun q134=>[(3,pt b1 0)]) (Lf:=fun q134=>Bk b0_ 177 [vS q134.1]::Bk b115 138 [g110.m,vI x114.bytes]::Bk b97 144 [vI x96.kind,pv101,pv104]::Bk b1 96 [vI n8,vI n16,vI n24,vW ra28.1,pt b115 0,pt b97 0,v0,vW ra40.1,vW ra46.1,vW ra52.1,vI n62,vI n70]::OwS true 9 1 eS v120 r119::OwM vS Ak.v g110.m x114.m::rO (Ai.op g102) pv101 x96.a::rO (Af.op g105) pv104 x96.t::OwM vW Ap.v v0 q134.2::F) (fun q134 hq => ?_) fun K137 => ?_
 ·subst hq
  try dsimp only at hm136
  refine x_seq (csr ?_)
  refine r_mv z (r_as z ?_)
  refine r_nil (x_seq (c_ret ?_))
  refine ex_st (fun _ h=>mv2 (mv5 h)) ?_
  refine ex_st (fun _ h=>st_some (f:=Ah.op g110) (a:=x114) (st_star_f (A:=Ah.fl b115 x114 g110) h)) ?_
  refine ex_st (fun _ h=>mv4 (mv6 (mv6 h))) ?_
  refine ex_st (fun _ h=>st_some (f:=Ac.op (⟨(pv101,g102),(pv104,g105)⟩:Ac.G)) (a:=x96) (st_star_f (A:=Ac.fl b97 x96 (⟨(pv101,g102),(pv104,g105)⟩:Ac.G)) h)) ?_
  refine ex_st (fun _ h=>mv4 (mv2 (mv1 (mv5 h)))) ?_
  refine ex_st (fun _ h=>st_some (f:=Ad.op (⟨(pt b115 0,g110),(pt b97 0,(⟨(pv101,g102),(pv104,g105)⟩:Ac.G)),v0⟩:Ad.G)) (a:=(⟨(⟨n8,n16,n24,ra28.1⟩:Av),(some x114),(some x96),q134.2,ra40.1,ra46.1,ra52.1,(⟨n62,n70⟩:BJ)⟩:Ad)) (st_star_f (A:=Ad.fl b1 (⟨(⟨n8,n16,n24,ra28.1⟩:Av),(some x114),(some x96),q134.2,ra40.1,ra46.1,ra52.1,(⟨n62,n70⟩:BJ)⟩:Ad) (⟨(pt b115 0,g110),(pt b97 0,(⟨(pv101,g102),(pv104,g105)⟩:Ac.G)),v0⟩:Ad.G)) h)) ?_
  obtain rfl:=si hm136
  refine ex_st (pk 3 [0,1]) ?_
  exact x_r1 z (rv_t z) le_ (.inl ⟨_,z,_,z,(pt b1 0,(⟨(pt b115 0,g110),(pt b97 0,(⟨(pv101,g102),(pv104,g105)⟩:Ac.G)),v0⟩:Ad.G)),z,z,z⟩)
 refine c_blk ?_
 refine cd_loop (M:=fun k142 (s:UInt64×UInt64×Str×(List (UInt64×Ap)))=>CT ra129 k142 s.1 s.2.1 s.2.2.1 s.2.2.2=some p133) (Ef:=fun (s:UInt64×UInt64×Str×(List (UInt64×Ap)))=>[(0,pt b0_ 0),(3,pt b1 0),(199,vW ra129.1),(9,vW s.1),(200,vW s.2.1)]) (Lf:=fun (s:UInt64×UInt64×Str×(List (UInt64×Ap)))=>Bk b0_ 177 [vS s.2.2.1]::Bk b115 138 [g110.m,vI x114.bytes]::Bk b97 144 [vI x96.kind,pv101,pv104]::Bk b1 96 [vI n8,vI n16,vI n24,vW ra28.1,pt b115 0,pt b97 0,v0,vW ra40.1,vW ra46.1,vW ra52.1,vI n62,vI n70]::OwS true 9 1 eS v120 r119::OwM vS Ak.v g110.m x114.m::rO (Ai.op g102) pv101 x96.a::rO (Af.op g105) pv104 x96.t::OwM vW Ap.v v0 s.2.2.2::F) ((ra129.1-0).toNat+1) (0,0,ra129.2.s,[]) hp135 ⟨z,z,z,z,z,trivial⟩ (fun _ h=>h) (fun _ h=>by cases h) fun k142 s hM144 => ?_
 obtain ⟨before_138,s_139,c_140,c_141⟩:=s
 have hm143:CT ra129 (k142+1) before_138 s_139 c_140 c_141=some p133:=hM144
 rw [CT] at hm143
 refine csr ?_
 refine r_bin z z (bW_lt _ _) ?_
 refine r_nil (x_seq (c_seq ?_))
 refine c_if (b:=decide (s_139<ra129.1)) z (fun h145 => ?_) fun h145 => ?_
 rotate_left
 ·have hm146:=iff_ hm143 h145
  refine c_exit (x_exit (ks':=_) z ?_)
  obtain rfl:=si hm146
  exact x_sub (K137 _ z) ⟨z,trivial⟩ (pk 9 [0,1,2,3,4,5,6,7,8])
 have hm146:=ift hm143 h145
 refine c_skip (x_seq (c_seq (c_blk (csr ?_))))
 refine r_mv z (r_as z ?_)
 refine r_nil (x_seq (c_seq ?_))
 obtain ⟨r147,hr147,hm148⟩:=bs hm146
 rcases r147 with ra149 | ⟨rn150,ro151⟩
 rotate_left
 ·have hm152:=sm_r hm148
  refine c_reg ?_
  refine r_mv z ?_
  obtain rfl:=si hm152
  try dsimp only at hm136
  obtain rfl:=si hm136
  exact r_sw (s_w (o_callR ca101 z (Aj.ok b0_ (⟨c_140⟩:Aa) 18446744073709551615 _ hr147) (by rintro _ _ _ ⟨rfl,rfl⟩;exact (px_st (pk 9 [0]) (px_of le_ (.inr ⟨_,z,_,z,z,z⟩)))))) (fun _ _ _ _ h=>h.elim)
 have hm152:=sm_l hm148
 refine c_reg ?_
 refine r_mv z ?_
 refine r_c (s_w (o_callL ca101 z (Aj.ok b0_ (⟨c_140⟩:Aa) 18446744073709551615 _ hr147) (fun _ _ _ h=>h))) ?_
 refine r_as z ?_
 refine r_nil (x_seq (c_seq ?_))
 obtain ⟨r153,hr153,hm154⟩:=ltx hm152
 rcases r153 with ra155 | ⟨rn156,ro157⟩
 rotate_left
 ·have hm158:=sm_r hm154
  refine c_reg ?_
  refine r_mv z (r_mv z (r_bin z z (bW_eq _ 0) (r_mv z ?_)))
  refine r_s (s_gf z z fun g=>o_mv z) ?_
  refine r_s (s_gf z z fun g=>o_mv z) ?_
  refine r_s (s_gf z z fun g=>o_bin (evg z g) (evg z g) (bW_gt _ _)) ?_
  refine r_u (o_or z z) ?_
  obtain rfl:=si hm158
  try dsimp only at hm136
  obtain rfl:=si hm136
  exact r_sw (s_w (o_callR ca102 z (An.ok b0_ _ _ _ hr153) (by rintro _ _ _ ⟨rfl,rfl⟩;exact (px_st (pk 9 [0]) (px_of le_ (.inr ⟨_,z,_,z,z,z⟩)))))) (fun _ _ _ _ h=>h.elim)
 have hm158:=sm_l hm154
 refine c_reg ?_
 refine r_mv z (r_mv z (r_bin z z (bW_eq _ 0) (r_mv z ?_)))
 refine r_s (s_gf z z fun g=>o_mv z) ?_
 refine r_s (s_gf z z fun g=>o_mv z) ?_
 refine r_s (s_gf z z fun g=>o_bin (evg z g) (evg z g) (bW_gt _ _)) ?_
 refine r_u (o_or z z) ?_
 refine r_c (s_w (o_callL ca102 z (An.ok b0_ _ _ _ hr153) (fun _ _ _ h=>h))) ?_
 refine r_nil (x_seq (c_seq ?_))
 obtain ⟨r159,hr159,hm160⟩:=bs hm158
 rcases r159 with ra161 | ⟨rn162,ro163⟩
 rotate_left
 ·have hm164:=sm_r hm160
  refine c_any mixed (effs:=[6]) (V:=[]) ?_
  refine stn mk24_ [0,1,2,3,4,5,7] [6] [_,_,_,_,_,_,_] (q_mv z z z (q_u z z (o_nc z) (q_fa z z fa96_3 z (q_ld z z 3 sc94 z z z (q_mv z z z (q_mv z z z (q_mv z z z qn))))))) ?_ (nxt z)
  obtain rfl:=si hm164
  try dsimp only at hm136
  obtain rfl:=si hm136
  exact ec (eo_w z (s_w (o_callR ca101 z (Aj.ok b0_ _ 18446744073709551615 _ hr159) (by rintro _ _ _ ⟨rfl,rfl⟩;exact (px_st (pk 9 [0]) (px_of le_ (.inr ⟨_,z,_,z,z,z⟩)))))) (fun _ _ _ _ h=>h.elim)) en
 have hm164:=sm_l hm160
 obtain ⟨r165,hr165,hm166⟩:=bs hm164
 rcases r165 with ra167 | ⟨rn168,ro169⟩
 ·have hm170:=sm_l hm166
  refine c_any mixed (effs:=[6,8,10]) (V:=[]) ?_
  refine stn mk24_ [0,1,2,3,4,5,7] [6] [_,_,_,_,_,_,_] (q_mv z z z (q_u z z (o_nc z) (q_fa z z fa96_3 z (q_ld z z 3 sc94 z z z (q_mv z z z (q_mv z z z (q_mv z z z qn))))))) ?_ (nxt z)
  refine ec (eo_c z (s_w (o_callL ca101 z (Aj.ok b0_ _ 18446744073709551615 _ hr159) (fun _ _ _ h=>h))) ?_) en
  refine stage z z z z mk24_ [0,1,2,3,4,7] [8] z z z (q_mv z z z (q_u z z (o_nc z) (q_fa z z fa96_3 z (q_ld z z 3 sc94 z z z (q_mv z z z (q_mv z z z qn)))))) ?_ (nxt z)
  refine ec (eo_c z (s_w (o_callL ca109 z (C7.ok b0_ _ _ hr165) (fun _ _ _ h=>h))) ?_) en
  refine stage_st (fun _ h=>mv8 h) ?_
  refine stx [9] mk24_ [0,1,2,3,4,9] [10] [_] (q_mv z z z (q_u z z (o_nc z) (q_fa z z fa96_3 z (q_ld z z 4 sc94 z z z (q_mv z z z (q_u z z (o_bld [vW ra161.1,vI ra167.1.E,vS ra167.1.Value,vW ra167.1.Version] z (fun _=>by kernel_rfl)) qn)))))) ?_ (nxt z)
  refine ec (eo_u z (s_u (o_mu (kv:=vW) (vv:=Ap.v) (key:=ra149.1) (val:=(⟨ra161.1,ra167.1⟩:Ap)) Tryz.underlying94 (kok_W Tryz.underlying22) z z z z)) le_ ?_) en
  refine stage z z z z mk24_ [] [] z z z qn en ?_
  intro _
  refine ex_sub (E':=[(0,pt b0_ 0),(3,pt b1 0),(199,vW ra129.1),(200,vW s_139),(11,vW ra149.1)]) ⟨z,z,z,z,z,trivial⟩ ?_
  refine x_seq (c_reg ?_)
  refine r_mv z (r_as z ?_)
  refine r_nil (x_blk (x_seq (c_reg ?_)))
  refine r_bin z z (bW_add _ 1) (r_mv z ?_)
  refine r_nil ?_
  exact x_lp (ra149.1,s_139+1,ra167.2.s,mput c_141 ra149.1 (⟨ra161.1,ra167.1⟩:Ap)) hm170 ⟨z,z,z,z,z,trivial⟩ (pk 9 [1,2,3,4,5,6,7,8,0])
 have hm170:=sm_r hm166
 refine c_any mixed (effs:=[6,8]) (V:=[]) ?_
 refine stn mk24_ [0,1,2,3,4,5,7] [6] [_,_,_,_,_,_,_] (q_mv z z z (q_u z z (o_nc z) (q_fa z z fa96_3 z (q_ld z z 3 sc94 z z z (q_mv z z z (q_mv z z z (q_mv z z z qn))))))) ?_ (nxt z)
 refine ec (eo_c z (s_w (o_callL ca101 z (Aj.ok b0_ _ 18446744073709551615 _ hr159) (fun _ _ _ h=>h))) ?_) en
 refine stage z z z z mk24_ [0,1,2,3,4,7] [8] z z z (q_mv z z z (q_u z z (o_nc z) (q_fa z z fa96_3 z (q_ld z z 3 sc94 z z z (q_mv z z z (q_mv z z z qn)))))) ?_ (nxt z)
 obtain rfl:=si hm170
 try dsimp only at hm136
 obtain rfl:=si hm136
 exact ec (eo_w z (s_w (o_callR ca109 z (C7.ok b0_ _ _ hr165) (by rintro _ _ _ ⟨rfl,rfl⟩;exact (px_st (pk 9 [0]) (px_of le_ (.inr ⟨_,z,_,z,z,z⟩)))))) (fun _ _ _ _ h=>h.elim)) en
def CZ(a0:Aa)(a1:Option Ad):Option ((Aa×Option Ad)⊕(Int×(Aa×Option Ad))) :=
 (Dc a0).bind fun r2=>sm r2 (fun (ra4:Option Ad×Aa)=>some (Sum.inl (ra4.2,ra4.1))) fun ((rn5,ro6):Int×Aa)=>some (Sum.inr (rn5,(ro6,a1)))
theorem CZ.ok{G R F}(b0_:Nat)(a0:Aa)(b1_:Nat)(a1:Option Ad)(g1_:Value×Ad.G)(r:(Aa×Option Ad)⊕(Int×(Aa×Option Ad)))(hm:CZ a0 a1=some r):CO Tryz.prog 60 [pt b0_ 0,pt b1_ 0] G R (Bk b0_ 177 (Aa.c a0)::Bk b1_ 30 [g1_.1]::rO (Ad.op g1_.2) g1_.1 a1::F)
  (PK 175 r (fun (a:Aa×Option Ad) u R' L'=>∃(q1:Value×Ad.G),u = .tuple #[]∧R'=R∧L'=Bk b0_ 177 (Aa.c a.1)::Bk b1_ 30 [q1.1]::rO (Ad.op q1.2) q1.1 a.2::F) (fun n (o:Aa×Option Ad) R' L'=>∃(q1:Value×Ad.G),R'=R∧L'=Bk b0_ 177 (Aa.c o.1)::Bk b1_ 30 [q1.1]::rO (Ad.op q1.2) q1.1 o.2::F)):=by
 obtain ⟨pv0,g1⟩:=g1_
 unfold CZ at hm
 refine co_ofN (N:=5) Tryz.func60 z z ?_
 obtain ⟨r2,hr2,hm3⟩:=bs hm
 rcases r2 with ra4 | ⟨rn5,ro6⟩
 ·have hm7:=sm_l hm3
  refine c_reg ?_
  refine r_mv z ?_
  refine r_sw (s_w (o_callL ca61 z (Dc.ok b0_ a0 _ hr2) (fun _ _ _ h=>h))) ?_
  rintro pv9 R _ _ ⟨⟨_,g10⟩,rfl,rfl,rfl⟩
  refine rl_st (fun _ h=>mv2 h) ?_
  refine r_u0 (ou_if (one_p 1 z) fun ho0=>o_st sc30 z z z ho0 z z) ?_
  refine r_nil ?_
  refine x_end ?_
  obtain rfl:=si hm7
  refine ex_st (pk 4 [2,0,1]) ?_
  exact x_r0 z le_ (.inl ⟨_,z,_,z,(pv9,g10),z,z,z⟩)
 have hm7:=sm_r hm3
 refine c_reg ?_
 refine r_mv z ?_
 obtain rfl:=si hm7
 exact r_sw (s_w (o_callR ca61 z (Dc.ok b0_ a0 _ hr2) (by rintro _ _ _ ⟨rfl,rfl⟩;exact (px_st (pk 3 [0,1,2]) (px_of le_ (.inr ⟨_,z,_,z,(pv0,g1),z,z⟩)))))) (fun _ _ _ _ h=>h.elim)
def Cf(a0:Str):Option (Option Ad×Int) :=
 (CZ (⟨a0⟩:Aa) none).bind fun r1=>Option.bind (sm r1 (fun (ra12:Aa×Option Ad)=>some ((if ra12.1.s==[] then 0 else 5),ra12.2)) fun ((rn13,ro14):Int×(Aa×Option Ad))=>some (rn13,ro14.2)) fun p3=>if (p3.1 != 0) then some (none,p3.1) else some (p3.2,0)
theorem Cf.ok{G R F}(a0:Str)(r:Option Ad×Int)(hm:Cf a0=some r):CO Tryz.prog 31 [vS a0] G R (F)
  (Ret fun u R' L'=>∃(p0:Value×Ad.G),u = .tuple #[p0.1,vI r.2]∧R'=R∧L'=rO (Ad.op p0.2) p0.1 r.1::F):=by
 unfold Cf at hm
 refine co_ofN (N:=13) Tryz.func31 z z ?_
 refine csr ?_
 refine r_as z (r_as z ?_)
 refine nsr ?_
 refine r_new (o_al ze30) fun b0 => ?_
 refine r_nil (x_seq (c_seq (c_seq ?_)))
 obtain ⟨r1,hr1,hm2⟩:=bs hm
 obtain ⟨p3,hp7,hm8⟩:=bs hm2
 refine cd_cut (fun x ks=>∀(pv4:Value×Ad.G),EX x .normal ks [(4,pt b0 0),(5,vI p3.1)] R (Bk b0 30 [pv4.1]::rO (Ad.op pv4.2) pv4.1 p3.2::F)) ?_ fun K9 => ?_
 ·intro pv4
  obtain ⟨pv5,g6⟩:=pv4
  refine x_seq (csr ?_)
  refine r_mv z (r_bin z z (bI_ne _ 0) ?_)
  refine nsq ?_
  refine c_if (b:=(p3.1 != 0)) z (fun h10 => ?_) fun h10 => ?_
  ·have hm11:=ift hm8 h10
   refine csr ?_
   refine r_mv z (r_as z (r_as z ?_))
   refine r_nil (x_seq (c_ret ?_))
   refine ex_st (fun _ h=>st_none (f:=Ad.op default) h) ?_
   obtain rfl:=si hm11
   refine ex_st (pk 3 [0]) ?_
   exact x_r2 z (rv_t z) (rv_t z) le_ ⟨_,z,(nl,default),z,z,z⟩
  have hm11:=iff_ hm8 h10
  refine c_skip (x_seq (csr ?_))
  refine r_ld 0 sc30 z z z (r_as z (r_as z ?_))
  refine r_nil (x_seq (c_ret ?_))
  obtain rfl:=si hm11
  refine ex_st (pk 2 [1]) ?_
  exact x_r2 z (rv_t z) (rv_t z) le_ ⟨_,z,(pv5,g6),z,z,z⟩
 rcases r1 with ra12 | ⟨rn13,ro14⟩
 ·have hm15:=sm_l hp7
  refine c_reg ?_
  refine r_mv z ?_
  refine r_u (o_mf z) ?_
  refine rl_st (fun _ h=>st_none (f:=Ad.op default) h) ?_
  refine rl_st (fun _ h=>mv1 h) ?_
  refine r_c (s_w (o_call ca59 z (DH.okL (A:=[Bk b0 30 [nl],rO (Ad.op default) nl none]) (M:=[exP (fun (g:Value×Ad.G)=>[Bk b0 30 [g.1],rO (Ad.op g.2) g.1 ra12.2])]) (s':=ra12.1.s) ca60 (fun b F=>co_lx (CZ.ok b (⟨a0⟩:Aa) b0 none (nl,default) (Sum.inl ra12) hr1) (fun _ _ _ _ ⟨q0,hu,hR,hL⟩ hs=>by subst hL;exact ⟨_,⟨hu,hR,z⟩,(st_pk 2 [1,0] (by decide) (st_exP_f (f:=fun (g:Value×Ad.G)=>[Bk b0 30 [g.1],rO (Ad.op g.2) g.1 ra12.2]) q0 (st_pk 3 [1,2,0] (by decide) hs)))⟩))))) ?_
  refine rl_ex (fun w h=>st_exP_o w h) fun g16 _ => ?_
  obtain ⟨pv17,g18⟩:=g16
  refine r_as z ?_
  refine r_nil ?_
  obtain rfl:=si hm15
  exact x_sub (K9 (pv17,g18)) ⟨z,z,trivial⟩ (pk 2 [0,1])
 have hm15:=sm_r hp7
 refine c_reg ?_
 refine r_mv z ?_
 refine r_u (o_mf z) ?_
 refine rl_st (fun _ h=>st_none (f:=Ad.op default) h) ?_
 refine rl_st (fun _ h=>mv1 h) ?_
 refine r_c (s_w (o_call ca59 z (DH.okR (A:=[Bk b0 30 [nl],rO (Ad.op default) nl none]) (M:=[exP (fun (g:Value×Ad.G)=>[Bk b0 30 [g.1],rO (Ad.op g.2) g.1 ro14.2])]) (cs:=[vS ro14.1.s]) ca60 (fun b F=>co_rx (CZ.ok b (⟨a0⟩:Aa) b0 none (nl,default) (Sum.inr (rn13,ro14)) hr1) (fun _ _ _ ⟨q0,hR,hL⟩ hs=>by subst hL;exact ⟨_,⟨hR,z⟩,(st_pk 2 [1,0] (by decide) (st_exP_f (f:=fun (g:Value×Ad.G)=>[Bk b0 30 [g.1],rO (Ad.op g.2) g.1 ro14.2]) q0 (st_pk 3 [1,2,0] (by decide) hs)))⟩))))) ?_
 refine rl_ex (fun w h=>st_exP_o w h) fun g19 _ => ?_
 obtain ⟨pv20,g21⟩:=g19
 refine r_as z ?_
 refine r_nil ?_
 obtain rfl:=si hm15
 exact x_sub (K9 (pv20,g21)) ⟨z,z,trivial⟩ (pk 2 [0,1])
def Cw(a0:Ad):Option (Option Ad) :=
 (AG a0).bind fun r7=>(Cf r7).bind fun r9=>some r9.1
theorem Cw.ok{G R F}(b0_:Nat)(a0:Ad)(g0_:Ad.G)(r:Option Ad)(hm:Cw a0=some r):CO Tryz.prog 28 [pt b0_ 0] G R (Bk b0_ 96 (Ad.k a0 g0_)::rO (Ah.op g0_.t.2) g0_.t.1 a0.t::rO (Ac.op g0_.p.2) g0_.p.1 a0.p::OwM vW Ap.v g0_.sessions a0.sessions::F)
  (Ret fun u R' L'=>∃(p0:Value×Ad.G),u=p0.1∧R'=R∧L'=rO (Ad.op p0.2) p0.1 r::Bk b0_ 96 (Ad.k a0 g0_)::rO (Ah.op g0_.t.2) g0_.t.1 a0.t::rO (Ac.op g0_.p.2) g0_.p.1 a0.p::OwM vW Ap.v g0_.sessions a0.sessions::F):=by
 obtain ⟨⟨pv1,g2⟩,⟨pv4,g5⟩,g6⟩:=g0_
 unfold Cw at hm
 refine co_ofN (N:=14) Tryz.func28 z z ?_
 refine csr ?_
 refine r_as z ?_
 refine nssr ?_
 refine r_mv z (r_bin z z (bP_eqp Tryz.underlying30) ?_)
 refine nsq ?_
 refine c_ff z ?_
 refine c_skip (x_seq (csr ?_))
 refine r_mv z ?_
 obtain ⟨r7,hr7,hm8⟩:=bs hm
 refine r_c (s_w (o_call ca25 z (AG.ok b0_ a0 (⟨(pv1,g2),(pv4,g5),g6⟩:Ad.G) _ hr7))) ?_
 obtain ⟨r9,hr9,hm13⟩:=bs hm8
 refine r_sw (s_w (o_call ca31 z (Cf.ok r7 _ hr9))) ?_
 rintro _ R _ _ ⟨⟨pv11,g12⟩,rfl,rfl,rfl⟩
 refine r_mv z ?_
 refine r_ext z z ?_
 refine r_ext z z (r_as z (r_as z ?_))
 refine nsr ?_
 refine r_mv z (r_as z ?_)
 refine r_nil (x_seq (c_ret ?_))
 obtain rfl:=si hm13
 exact x_r1 z (rv_t z) le_ ⟨_,z,(pv11,g12),z,z,z⟩
def BL(r12:List Str)(x7:Ah):Nat→(List Ak)→Int→Option (List Ak)
 | 0,_,_=>none
 | k23+1,out_20,s_21=>if decide (s_21<(r12.length:Int)) then (gi r12 s_21).bind fun x28=>lt (AA x7 x28) fun r30=>(apd 48 out_20 [r30.1]).bind fun l35=>BL r12 x7 k23 l35 (i64 (s_21+1)) else some out_20
def BX(a0:Ad):Option (List Ak) :=
 om a0.t (none) fun x7=>(Bl x7).bind fun r12=>Option.bind (BL r12 x7 (((r12.length:Int)-0).toNat+1) [] 0) fun p15=>some p15
theorem BX.ok{G R F}(b0_:Nat)(a0:Ad)(g0_:Ad.G)(r:List Ak)(hm:BX a0=some r):CO Tryz.prog 16 [pt b0_ 0] G R (Bk b0_ 96 (Ad.k a0 g0_)::rO (Ah.op g0_.t.2) g0_.t.1 a0.t::rO (Ac.op g0_.p.2) g0_.p.1 a0.p::OwM vW Ap.v g0_.sessions a0.sessions::F)
  (Ret fun u R' L'=>∃p0,u=p0∧R'=R∧L'=OwS true 50 4 Ak.c p0 r::Bk b0_ 96 (Ad.k a0 g0_)::rO (Ah.op g0_.t.2) g0_.t.1 a0.t::rO (Ac.op g0_.p.2) g0_.p.1 a0.p::OwM vW Ap.v g0_.sessions a0.sessions::F):=by
 obtain ⟨⟨pv1,g2⟩,⟨pv4,g5⟩,g6⟩:=g0_
 unfold BX at hm
 refine co_ofN (N:=35) Tryz.func16 z z ?_
 refine csr ?_
 refine r_as z ?_
 refine nssr ?_
 refine r_mv z (r_bin z z (bP_eqp Tryz.underlying30) ?_)
 refine nsq ?_
 refine c_ff z ?_
 refine c_skip (x_seq (csr ?_))
 refine r_as z ?_
 refine r_nil (x_seq (c_seq (c_seq ?_)))
 refine cd_st (fun _ h=>mv1 h) ?_
 refine cd_opt (fun ho9 => ?_) (fun x7 b8 ho9 => ?_)
 ·rintro rfl
  have hm10:=om_n hm ho9
  cases hm10
 rintro rfl
 have hm10:=om_s hm ho9
 refine cd_st (fun _ h=>st_star_o h) ?_
 refine c_reg ?_
 refine r_mv z (r_nc z (r_fa fa96_1 z (r_ld 2 sc92 z z z ?_)))
 obtain ⟨r12,hr12,hm14⟩:=bs hm10
 refine r_sw (s_w (o_call ca39 z (Bl.ok b8 x7 g2 _ hr12))) ?_
 rintro v13 R _ _ ⟨_,rfl,rfl,rfl⟩
 refine r_u (o_lenO 0 Tryz.underlying98 z z) (r_mv z ?_)
 refine nsq ?_
 obtain ⟨p15,hp17,hm18⟩:=bs hm14
 refine cd_cut (fun x ks=>∀(g16:Value),EX x .normal ks [(3,g16)] R (Bk b8 138 [g2.m,vI x7.bytes]::Bk b0_ 96 [vI a0.c.Policy,vI a0.c.Entries,vI a0.c.Bytes,vW a0.c.Seed,pt b8 0,pv4,g6,vW a0.seq,vW a0.now,vW a0.version,vI a0.tally.Asked,vI a0.tally.Hits]::OwS true 9 1 eS v13 r12::OwM vS Ak.v g2.m x7.m::rO (Ac.op g5) pv4 a0.p::OwM vW Ap.v g6 a0.sessions::OwS true 50 4 Ak.c g16 p15::F)) ?_ fun K19 => ?_
 ·intro g16
  refine x_seq (csr ?_)
  refine r_mv z (r_as z ?_)
  refine r_nil (x_seq (c_ret ?_))
  refine ex_st (fun _ h=>mv1 (mv3 h)) ?_
  refine ex_st (fun _ h=>st_some (f:=Ah.op g2) (a:=x7) (st_star_f (A:=Ah.fl b8 x7 g2) h)) ?_
  refine ex_st (fun _ h=>st_back ho9 h) ?_
  obtain rfl:=si hm18
  refine ex_st (pk 6 [5,1,0,3,4]) ?_
  exact x_r1 z (rv_t z) le_ ⟨_,z,g16,z,z,z⟩
 refine c_blk ?_
 refine cd_st (fun _ h=>st_nil (ap:=true) (T:=50) (sz:=4) (en:=Ak.c) h) ?_
 refine cd_loopG (M:=fun k23 (s:List Ak×Int×Value)=>BL r12 x7 k23 s.1 s.2.1=some p15) (Ef:=fun (s:List Ak×Int×Value)=>[(0,pt b0_ 0),(14,v13),(15,vI (r12.length:Int)),(3,s.2.2),(16,vI s.2.1)]) (Rf:=fun (s:List Ak×Int×Value)=>R) (Lf:=fun (s:List Ak×Int×Value)=>Bk b8 138 [g2.m,vI x7.bytes]::Bk b0_ 96 [vI a0.c.Policy,vI a0.c.Entries,vI a0.c.Bytes,vW a0.c.Seed,pt b8 0,pv4,g6,vW a0.seq,vW a0.now,vW a0.version,vI a0.tally.Asked,vI a0.tally.Hits]::OwS true 9 1 eS v13 r12::OwM vS Ak.v g2.m x7.m::rO (Ac.op g5) pv4 a0.p::OwM vW Ap.v g6 a0.sessions::OwS true 50 4 Ak.c s.2.2 s.1::F) (((r12.length:Int)-0).toNat+1) ([],0,.slice none 0 0) hp17 ⟨z,z,z,z,z,trivial⟩ (pk 7 [2,4,1,3,5,6,0]) (fun _ h=>by cases h) fun k23 s hM25 => ?_
 obtain ⟨out_20,s_21,g22⟩:=s
 have hm24:BL r12 x7 (k23+1) out_20 s_21=some p15:=hM25
 rw [BL] at hm24
 refine csr ?_
 refine r_bin z z (bI_lt _ _) ?_
 refine r_nil (x_seq (c_seq ?_))
 refine c_if (b:=decide (s_21<(r12.length:Int))) z (fun h26 => ?_) fun h26 => ?_
 rotate_left
 ·have hm27:=iff_ hm24 h26
  refine c_exit (x_exit (ks':=_) z ?_)
  obtain rfl:=si hm27
  exact x_sub (K19 g22) ⟨z,trivial⟩ (pk 7 [0,1,2,3,4,5,6])
 have hm27:=ift hm24 h26
 refine c_skip (x_seq (c_seq (c_blk (csr ?_))))
 obtain ⟨x28,hx28,hm29⟩:=bs hm27
 refine r_u (o_ixO 2 Tryz.underlying98 (fun _=>by kernel_rfl) z z z hx28) (r_u (o_ldO0 2 sc9 z z hx28 z z) (r_as z ?_))
 refine nsr ?_
 refine r_mv z (r_nc z (r_fa fa96_1 z (r_ld 1 sc92 z z z (r_mv z ?_))))
 obtain ⟨r30,hr30,hm31⟩:=ltx hm29
 refine rl_st (fun _ h=>mv1 (mv3 h)) ?_
 refine r_c (s_w (o_call ca40 z (AA.ok b8 x7 g2 _ _ hr30))) ?_
 refine r_mv z ?_
 refine r_ext z z ?_
 refine r_ext z z ?_
 refine r_new (o_al ze50) fun b32 => ?_
 refine r_u0 (o_stn ag50 z z z z z z z) ?_
 refine r_as z ?_
 refine r_nil (x_seq (c_reg ?_))
 refine r_mv z ?_
 refine r_u (o_ldn 0 (Ak.c r30.1) ag50 z z z z) ?_
 refine r_sw (s_w (o_bsl (en:=Ak.c) (sz:=4) (e:=50) (cs:=[vS r30.1.Key,vS r30.1.Value,vW r30.1.Version,vW r30.1.End]) (r:=[r30.1]) z (fun _=>by kernel_rfl) z (by decide) z (fun _=>z))) ?_
 rintro v33 R _ _ ⟨rfl,rfl⟩
 obtain ⟨l35,hl35,hm36⟩:=bs hm31
 refine rl_st (fun _ h=>mv8 h) ?_
 refine r_sw (s_w (o_ap (sz:=4) (bytes:=48) 0 Tryz.underlying44 rfl rfl rfl rfl rfl (by decide) (by decide) (fun _ _ _ h=>by simp [Ak.c] at h;rcases h with rfl | rfl | rfl | rfl <;> rfl) (fun _=>rfl) rfl rfl rfl rfl (Nat.succ_pos _) hl35)) ?_
 rintro v34 R _ _ ⟨rfl,rfl⟩
 refine r_as z ?_
 refine r_nil (x_blk (x_seq (c_reg ?_)))
 refine r_bin z z (bI_add _ 1) (r_mv z ?_)
 refine r_nil ?_
 exact x_lp (l35,i64 (s_21+1),v34) hm36 ⟨z,z,z,z,z,trivial⟩ (pk 9 [3,5,6,4,7,8,0])
def Cq : Option Bool :=
 (CR (⟨1,2,100,0⟩:Av)).bind fun r0=>om r0.1 (none) fun x5=>(AF x5 (⟨1,0,1,1,(⟨2,[107],[118],0,0⟩:AH)⟩:AM)).bind fun r16=>(AF r16.2.2 (⟨2,0,1,2,(⟨1,[107],[],0,0⟩:AH)⟩:AM)).bind fun r27=>if (((((r0.2==0)&&(r16.2.1==0))&&(r27.2.1==0))&&(r16.1.Version==1))&&(r27.1.Value==[118])) then if ((AU r27.2.2)==2) then (BX r27.2.2).bind fun r42=>some ((r42.length:Int)==1) else some false else some false
theorem Cq.ok{G R F}(r:Bool)(hm:Cq=some r):CO Tryz.prog 12 [] G R (F)
  (Ret fun u R' L'=>u=vB r∧R'=R∧L'=F):=by
 unfold Cq at hm
 refine co_ofN (N:=57) Tryz.func12 z z ?_
 refine csr ?_
 refine r_as z ?_
 refine nsr ?_
 refine r_u (o_bld [vI 1,vI 2,vI 100,vW 0] z (fun _=>by kernel_rfl)) ?_
 obtain ⟨r0,hr0,hm4⟩:=bs hm
 refine r_sw (s_w (o_call ca19 z (CR.ok (⟨1,2,100,0⟩:Av) _ hr0))) ?_
 rintro _ R _ _ ⟨⟨pv2,g3⟩,rfl,rfl,rfl⟩
 refine r_mv z ?_
 refine r_ext z z ?_
 refine r_ext z z (r_as z (r_as z ?_))
 refine r_nil (x_seq (c_seq ?_))
 refine cd_opt (fun ho7 => ?_) (fun x5 b6 ho7 => ?_)
 ·rintro rfl
  have hm8:=om_n hm4 ho7
  cases hm8
 rintro rfl
 have hm8:=om_s hm4 ho7
 obtain ⟨⟨pv10,g11⟩,⟨pv13,g14⟩,g15⟩:=g3
 refine cd_st (fun _ h=>st_star_o h) ?_
 refine c_reg ?_
 refine r_mv z ?_
 refine r_u (o_bld [vI 2,vS [107],vS [118],vW 0,vW 0] z (fun _=>by kernel_rfl)) ?_
 refine r_u (o_bld [vW 1,vW 0,vW 1,vW 1,vI 2,vS [107],vS [118],vW 0,vW 0] z (fun _=>by kernel_rfl)) ?_
 obtain ⟨r16,hr16,hm25⟩:=bs hm8
 refine r_sw (s_w (o_call ca15 z (AF.ok b6 x5 (⟨(pv10,g11),(pv13,g14),g15⟩:Ad.G) (⟨1,0,1,1,(⟨2,[107],[118],0,0⟩:AH)⟩:AM) _ hr16))) ?_
 rintro _ R _ _ ⟨⟨⟨pv19,g20⟩,⟨pv22,g23⟩,g24⟩,rfl,rfl,rfl⟩
 refine r_mv z ?_
 refine r_ext z z ?_
 refine r_ext z z ?_
 refine r_new (o_al ze41) fun b26 => ?_
 refine r_u0 (o_stn ag41 z z z z z z z) ?_
 refine r_as z ?_
 refine nsr ?_
 refine r_mv z ?_
 refine r_u (o_bld [vI 1,vS [107],vS [],vW 0,vW 0] z (fun _=>by kernel_rfl)) ?_
 refine r_u (o_bld [vW 2,vW 0,vW 1,vW 2,vI 1,vS [107],vS [],vW 0,vW 0] z (fun _=>by kernel_rfl)) ?_
 obtain ⟨r27,hr27,hm36⟩:=bs hm25
 refine rl_st (fun _ h=>mv4 (mv4 (mv4 (mv4 h)))) ?_
 refine r_sw (s_w (o_call ca15 z (AF.ok b6 _ (⟨(pv19,g20),(pv22,g23),g24⟩:Ad.G) (⟨2,0,1,2,(⟨1,[107],[],0,0⟩:AH)⟩:AM) _ hr27))) ?_
 rintro _ R _ _ ⟨⟨⟨pv30,g31⟩,⟨pv33,g34⟩,g35⟩,rfl,rfl,rfl⟩
 refine r_mv z ?_
 refine r_ext z z ?_
 refine r_ext z z ?_
 refine r_new (o_al ze41) fun b37 => ?_
 refine r_u0 (o_stn ag41 z z z z z z z) ?_
 refine r_as z ?_
 refine r_nil (x_seq (c_seq ?_))
 refine cd_by (((((r0.2==0)&&(r16.2.1==0))&&(r27.2.1==0))&&(r16.1.Version==1))&&(r27.1.Value==[118])) (fun h38 => ?_) fun h38 => ?_
 rotate_left
 ·have hm39:=iff_ hm36 h38
  refine c_reg ?_
  refine r_mv z (r_bin z z (bI_eq _ 0) (r_mv z ?_))
  refine r_s (s_gt z z fun g=>o_mv z) ?_
  refine r_s (s_gt z z fun g=>o_bin (evg z g) z (bI_eq _ 0)) ?_
  refine r_u (o_and z z) (r_mv z ?_)
  refine r_s (s_gt z z fun g=>o_mv z) ?_
  refine r_s (s_gt z z fun g=>o_bin (evg z g) z (bI_eq _ 0)) ?_
  refine r_u (o_and z z) (r_mv z ?_)
  refine r_s (s_gt z z fun g=>o_fa fa41_2 z) ?_
  refine r_s (s_gt z z fun g=>o_ld 5 sc22 (evg z g) z z) ?_
  refine r_s (s_gt z z fun g=>o_bin (evg z g) z (bW_eq _ 1)) ?_
  refine r_u (o_and z z) (r_mv z ?_)
  refine r_s (s_gt z z fun g=>o_fa fa41_1 z) ?_
  refine r_s (s_gt z z fun g=>o_ld 0 sc9 (evg z g) z z) ?_
  refine r_s (s_gt z z fun g=>o_bin (evg z g) z (bS_eq _ [118])) ?_
  refine r_u (o_and z z) (r_mv z ?_)
  refine r_s (s_n z z h38) ?_
  refine r_s (s_n z z h38) ?_
  refine r_s (s_n z z h38) ?_
  refine r_u (o_pf z h38 z) (r_mv z ?_)
  refine r_s (s_n z z z) ?_
  refine r_s (s_n z z z) ?_
  refine r_s (s_n z z z) ?_
  refine r_s (s_n z z z) ?_
  refine r_u (o_pf z z z) (r_as z ?_)
  refine r_nil (x_seq (c_ret ?_))
  obtain rfl:=si hm39
  refine ex_st (pk 6 []) ?_
  exact x_r1 z (rv_t z) le_ ⟨_,z,z,z,z⟩
 have hm39:=ift hm36 h38
 refine cd_by ((AU r27.2.2)==2) (fun h40 => ?_) fun h40 => ?_
 ·have hm41:=ift hm39 h40
  refine c_reg ?_
  refine r_mv z (r_bin z z (bI_eq _ 0) (r_mv z ?_))
  refine r_s (s_gt z z fun g=>o_mv z) ?_
  refine r_s (s_gt z z fun g=>o_bin (evg z g) z (bI_eq _ 0)) ?_
  refine r_u (o_and z z) (r_mv z ?_)
  refine r_s (s_gt z z fun g=>o_mv z) ?_
  refine r_s (s_gt z z fun g=>o_bin (evg z g) z (bI_eq _ 0)) ?_
  refine r_u (o_and z z) (r_mv z ?_)
  refine r_s (s_gt z z fun g=>o_fa fa41_2 z) ?_
  refine r_s (s_gt z z fun g=>o_ld 5 sc22 (evg z g) z z) ?_
  refine r_s (s_gt z z fun g=>o_bin (evg z g) z (bW_eq _ 1)) ?_
  refine r_u (o_and z z) (r_mv z ?_)
  refine r_s (s_gt z z fun g=>o_fa fa41_1 z) ?_
  refine r_s (s_gt z z fun g=>o_ld 0 sc9 (evg z g) z z) ?_
  refine r_s (s_gt z z fun g=>o_bin (evg z g) z (bS_eq _ [118])) ?_
  refine r_u (o_and z z) (r_mv z ?_)
  refine r_s (s_y z z h38 (o_mv z)) ?_
  refine rl_st (fun _ h=>mv4 (mv4 (mv4 (mv4 h)))) ?_
  refine r_c (s_yw z z h38 (o_call ca14 z (AU.ok b6 r27.2.2 (⟨(pv30,g31),(pv33,g34),g35⟩:Ad.G) _ z))) ?_
  refine r_s (s_y z z h38 (o_bin z z (bW_eq _ 2))) ?_
  refine r_u (o_pt z h38 z) (r_mv z ?_)
  refine r_s (s_y z z h40 (o_mv z)) ?_
  obtain ⟨r42,hr42,hm44⟩:=bs hm41
  refine r_sw (s_yw z z h40 (o_call ca16 z (BX.ok b6 _ (⟨(pv30,g31),(pv33,g34),g35⟩:Ad.G) _ hr42))) ?_
  rintro v43 R _ _ ⟨_,rfl,rfl,rfl⟩
  refine r_s (s_y z z h40 (o_lenO 0 Tryz.underlying44 z z)) ?_
  refine r_s (s_y z z h40 (o_bin z z (bI_eq _ 1))) ?_
  refine r_u (o_pt z h40 z) (r_as z ?_)
  refine r_nil (x_seq (c_ret ?_))
  obtain rfl:=si hm44
  refine ex_st (pk 7 []) ?_
  exact x_r1 z (rv_t z) le_ ⟨_,z,z,z,z⟩
 have hm41:=iff_ hm39 h40
 refine c_reg ?_
 refine r_mv z (r_bin z z (bI_eq _ 0) (r_mv z ?_))
 refine r_s (s_gt z z fun g=>o_mv z) ?_
 refine r_s (s_gt z z fun g=>o_bin (evg z g) z (bI_eq _ 0)) ?_
 refine r_u (o_and z z) (r_mv z ?_)
 refine r_s (s_gt z z fun g=>o_mv z) ?_
 refine r_s (s_gt z z fun g=>o_bin (evg z g) z (bI_eq _ 0)) ?_
 refine r_u (o_and z z) (r_mv z ?_)
 refine r_s (s_gt z z fun g=>o_fa fa41_2 z) ?_
 refine r_s (s_gt z z fun g=>o_ld 5 sc22 (evg z g) z z) ?_
 refine r_s (s_gt z z fun g=>o_bin (evg z g) z (bW_eq _ 1)) ?_
 refine r_u (o_and z z) (r_mv z ?_)
 refine r_s (s_gt z z fun g=>o_fa fa41_1 z) ?_
 refine r_s (s_gt z z fun g=>o_ld 0 sc9 (evg z g) z z) ?_
 refine r_s (s_gt z z fun g=>o_bin (evg z g) z (bS_eq _ [118])) ?_
 refine r_u (o_and z z) (r_mv z ?_)
 refine r_s (s_y z z h38 (o_mv z)) ?_
 refine rl_st (fun _ h=>mv4 (mv4 (mv4 (mv4 h)))) ?_
 refine r_c (s_yw z z h38 (o_call ca14 z (AU.ok b6 r27.2.2 (⟨(pv30,g31),(pv33,g34),g35⟩:Ad.G) _ z))) ?_
 refine r_s (s_y z z h38 (o_bin z z (bW_eq _ 2))) ?_
 refine r_u (o_pt z h38 z) (r_mv z ?_)
 refine r_s (s_n z z h40) ?_
 refine r_s (s_n z z h40) ?_
 refine r_s (s_n z z h40) ?_
 refine r_s (s_n z z h40) ?_
 refine r_u (o_pf z h40 z) (r_as z ?_)
 refine r_nil (x_seq (c_ret ?_))
 obtain rfl:=si hm41
 refine ex_st (pk 6 []) ?_
 exact x_r1 z (rv_t z) le_ ⟨_,z,z,z,z⟩
def Am : List UInt32 :=
 [1779033703,3144134277,1013904242,2773480762,1359893119,2600822924,528734635,1541459225]
theorem Am.ok{G R F}(r:List UInt32)(hm:Am=r):CO Tryz.prog 62 [] G R (F)
  (Ret fun u R' L'=>u = .agg [vD (r.getD 0 default),vD (r.getD 1 default),vD (r.getD 2 default),vD (r.getD 3 default),vD (r.getD 4 default),vD (r.getD 5 default),vD (r.getD 6 default),vD (r.getD 7 default)].toArray∧R'=R∧L'=F):=by
 unfold Am at hm
 refine co_ofN (N:=2) Tryz.func62 z z ?_
 refine csr ?_
 refine r_new (o_al ze129) fun b0 => ?_
 refine nsr ?_
 refine r_u (o_bld [vD 1779033703,vD 3144134277,vD 1013904242,vD 2773480762,vD 1359893119,vD 2600822924,vD 528734635,vD 1541459225] z (fun _=>by kernel_rfl)) ?_
 refine r_u0 (o_stn ag129 z z z z z z z) ?_
 refine r_nil (x_seq (c_ret ?_))
 subst hm
 exact x_d1 z (rv_n 0 [vD 1779033703,vD 3144134277,vD 1013904242,vD 2773480762,vD 1359893119,vD 2600822924,vD 528734635,vD 1541459225] ag129 z z z z) (pk 1 []) le_ ⟨_,z,z,z,z⟩
def Dv(a0:Int):Option Str :=
 (gi (nn 10 [[48,49,50,51,52,53,54,55,56,57,97,98,99,100,101,102],[101,97,52,56,57,102,100,54,49,99,48,50,98,55,53,51],[98,56,99,48,53,50,102,100,97,101,51,54,55,49,57,52],[55,57,51,49,100,99,98,101,50,54,53,97,52,48,102,56],[57,48,53,55,50,52,97,102,101,49,98,99,54,56,51,100],[50,99,54,97,48,98,56,51,52,100,55,53,102,101,49,57],[99,53,49,102,101,100,52,97,48,55,54,51,57,50,56,98],[100,98,55,101,99,49,51,57,53,48,102,52,56,54,50,97],[54,102,101,57,98,51,48,56,99,50,100,55,49,52,97,53],[97,50,56,52,55,54,49,53,102,98,57,101,51,99,100,48]]) a0).bind fun x1=>some x1
theorem Dv.ok{G R F}(a0:Int)(r:Str)(hm:Dv a0=some r):CO Tryz.prog 111 [vI a0] G R (F)
  (Ret fun u R' L'=>u=vS r∧R'=R∧L'=F):=by
 unfold Dv at hm
 refine co_ofN (N:=8) Tryz.func111 z z ?_
 refine csr ?_
 refine r_as z ?_
 refine nsr ?_
 refine r_u (o_bld [vS [48,49,50,51,52,53,54,55,56,57,97,98,99,100,101,102],vS [101,97,52,56,57,102,100,54,49,99,48,50,98,55,53,51],vS [98,56,99,48,53,50,102,100,97,101,51,54,55,49,57,52],vS [55,57,51,49,100,99,98,101,50,54,53,97,52,48,102,56],vS [57,48,53,55,50,52,97,102,101,49,98,99,54,56,51,100],vS [50,99,54,97,48,98,56,51,52,100,55,53,102,101,49,57],vS [99,53,49,102,101,100,52,97,48,55,54,51,57,50,56,98],vS [100,98,55,101,99,49,51,57,53,48,102,52,56,54,50,97],vS [54,102,101,57,98,51,48,56,99,50,100,55,49,52,97,53],vS [97,50,56,52,55,54,49,53,102,98,57,101,51,99,100,48]] z (fun _=>by kernel_rfl)) ?_
 refine r_new (o_al ze229) fun b0 => ?_
 refine r_u0 (o_stn ag229 z z z z z z z) ?_
 refine nsr ?_
 refine r_mv z ?_
 obtain ⟨x1,hx1,hm2⟩:=bs hm
 refine r_u (o_ixA (sz:=1) (n:=10) Tryz.underlying229 (fun _=>by kernel_rfl) z z (gi_nn hx1)) ?_
 refine r_u (o_ldV (f:=vS) 0 hx1 sc9 z z) (r_as z ?_)
 refine r_nil (x_seq (c_ret ?_))
 obtain rfl:=si hm2
 refine ex_st (pk 1 []) ?_
 exact x_r1 z (rv_t z) le_ ⟨_,z,z,z,z⟩
def Dn(a0:UInt8):Int :=
 if decide (97≤a0) then i64 (((a0-97).toNat:Int)+10) else ((a0-48).toNat:Int)
theorem Dn.ok{G R F}(a0:UInt8)(r:Int)(hm:Dn a0=r):CO Tryz.prog 113 [vY a0] G R (F)
  (Ret fun u R' L'=>u=vI r∧R'=R∧L'=F):=by
 unfold Dn at hm
 refine co_ofN (N:=12) Tryz.func113 z z ?_
 refine csr ?_
 refine r_as z ?_
 refine nssr ?_
 refine r_mv z (r_bin z z (bY_ge a0 97) ?_)
 refine nsq ?_
 refine c_if (b:=decide (97≤a0)) z (fun h0 => ?_) fun h0 => ?_
 ·have hm1:=ift hm h0
  refine csr ?_
  refine r_mv z (r_bin z z (bY_sub a0 97) (r_u (o_cv z (cYI Tryz.underlying5 Tryz.underlying3 (a0-97))) (r_bin z z (bI_add _ 10) (r_as z ?_))))
  refine r_nil (x_seq (c_ret ?_))
  subst hm1
  exact x_r1 z (rv_t z) le_ ⟨_,z,z,z,z⟩
 have hm1:=iff_ hm h0
 refine c_skip (x_seq (csr ?_))
 refine r_mv z (r_bin z z (bY_sub a0 48) (r_u (o_cv z (cYI Tryz.underlying5 Tryz.underlying3 (a0-48))) (r_as z ?_)))
 refine r_nil (x_seq (c_ret ?_))
 subst hm1
 exact x_r1 z (rv_t z) le_ ⟨_,z,z,z,z⟩
def C9(a0:Int)(a1:List UInt8):Option UInt32 :=
 (gi a1 (i64 (4*a0))).bind fun x0=>(gi a1 (i64 ((i64 (4*a0))+1))).bind fun x2=>(gi a1 (i64 ((i64 (4*a0))+2))).bind fun x4=>(gi a1 (i64 ((i64 (4*a0))+3))).bind fun x6=>some (((x0.toUInt32 ||| (shDl x2.toUInt32 ((8:UInt64).toNat:Int))) ||| (shDl x4.toUInt32 ((16:UInt64).toNat:Int))) ||| (shDl x6.toUInt32 ((24:UInt64).toNat:Int)))
theorem C9.ok{G R F}(a0:Int)(b1_:Nat)(a1:List UInt8)(w1_:Value)(h1_:RoS R w1_ 1 (fun x=>[vY x]) a1)(r:UInt32)(hm:C9 a0 a1=some r):CO Tryz.prog 110 [vI a0,pt b1_ 0] G R (Bk b1_ 131 [w1_]::F)
  (Ret fun u R' L'=>u=vD r∧R'=R∧L'=Bk b1_ 131 [w1_]::F):=by
 unfold C9 at hm
 refine co_ofN (N:=37) Tryz.func110 z z ?_
 refine csr ?_
 refine r_as z ?_
 refine r_nil (x_seq (c_seq ?_))
 obtain ⟨x0,hx0,hm1⟩:=bs hm
 obtain ⟨b0,o0,l0,T0,fr0,c0,hv0,hR0,he0,hi0⟩:=RoS.ne h1_ hx0
 obtain ⟨x2,hx2,hm3⟩:=bs hm1
 obtain ⟨b2,o2,l2,T2,fr2,c2,hv2,hR2,he2,hi2⟩:=RoS.ne h1_ hx2
 obtain ⟨x4,hx4,hm5⟩:=bs hm3
 obtain ⟨b4,o4,l4,T4,fr4,c4,hv4,hR4,he4,hi4⟩:=RoS.ne h1_ hx4
 obtain ⟨x6,hx6,hm7⟩:=bs hm5
 obtain ⟨b6,o6,l6,T6,fr6,c6,hv6,hR6,he6,hi6⟩:=RoS.ne h1_ hx6
 refine c_any mixed (effs:=[]) (V:=[]) ?_
 refine stn [0,0,2,7,15,31,0,0,128,384,960,1984,4032,8128,16383,0,0,65536,196608,491520,1015808,2064384,4161536,8388607,0,0,33554432,100663296,251658240,520093696,1056964608,2130706432,4294967295,8589934591] [0,1,2,3,4,5,6,7,8,9,10,11,12,13,14,15,16,17,18,19,20,21,22,23,24,25,26,27,28,29,30,31,32,33] [] [_,_,_,_,_,_,_,_,_,_,_,_,_,_,_,_,_,_,_,_,_,_,_,_,_,_,_,_,_,_,_,_,_,_] (q_ld z z 0 sc131 z z z (q_mv z z z (q_u z z (o_bin z z (bI_mul 4 a0)) (q_u z z (o_ix (sz:=1) Tryz.underlying131 (fun _=>by kernel_rfl) z z hv0 hi0) (q_u z z (o_ldR sc5 z hR0 (rok 0 he0 (by decide))) (q_u z z (o_cv z (cYD Tryz.underlying5 Tryz.underlying128 x0)) (q_ld z z 0 sc131 z z z (q_mv z z z (q_u z z (o_bin z z (bI_mul 4 a0)) (q_u z z (o_bin z z (bI_add _ 1)) (q_u z z (o_ix (sz:=1) Tryz.underlying131 (fun _=>by kernel_rfl) z z hv2 hi2) (q_u z z (o_ldR sc5 z hR2 (rok 0 he2 (by decide))) (q_u z z (o_cv z (cYD Tryz.underlying5 Tryz.underlying128 x2)) (q_u z z (o_bin z z (bDW_shl x2.toUInt32 8)) (q_u z z (o_bin z z (bD_or _ _)) (q_ld z z 0 sc131 z z z (q_mv z z z (q_u z z (o_bin z z (bI_mul 4 a0)) (q_u z z (o_bin z z (bI_add _ 2)) (q_u z z (o_ix (sz:=1) Tryz.underlying131 (fun _=>by kernel_rfl) z z hv4 hi4) (q_u z z (o_ldR sc5 z hR4 (rok 0 he4 (by decide))) (q_u z z (o_cv z (cYD Tryz.underlying5 Tryz.underlying128 x4)) (q_u z z (o_bin z z (bDW_shl x4.toUInt32 16)) (q_u z z (o_bin z z (bD_or _ _)) (q_ld z z 0 sc131 z z z (q_mv z z z (q_u z z (o_bin z z (bI_mul 4 a0)) (q_u z z (o_bin z z (bI_add _ 3)) (q_u z z (o_ix (sz:=1) Tryz.underlying131 (fun _=>by kernel_rfl) z z hv6 hi6) (q_u z z (o_ldR sc5 z hR6 (rok 0 he6 (by decide))) (q_u z z (o_cv z (cYD Tryz.underlying5 Tryz.underlying128 x6)) (q_u z z (o_bin z z (bDW_shl x6.toUInt32 24)) (q_u z z (o_bin z z (bD_or _ _)) (q_u z z (o_as z) qn)))))))))))))))))))))))))))))))))) en ?_
 intro _
 refine ex_sub (E':=[(3,vD (((x0.toUInt32 ||| (shDl x2.toUInt32 ((8:UInt64).toNat:Int))) ||| (shDl x4.toUInt32 ((16:UInt64).toNat:Int))) ||| (shDl x6.toUInt32 ((24:UInt64).toNat:Int))))]) ⟨z,trivial⟩ ?_
 refine x_seq (c_ret ?_)
 obtain rfl:=si hm7
 exact x_r1 z (rv_t z) le_ ⟨_,z,z,z,z⟩
def BR(a0:Int)(a1s0:List UInt8)(a2:Str):Option UInt32 :=
 (gi a2 a0).bind fun c0=>(C9 (Dn c0) a1s0).bind fun r2=>some r2
theorem BR.ok{G R F}(a0:Int)(b1_:Nat)(b1s0_:Nat)(a1s0:List UInt8)(w1s0_:Value)(h1s0_:RoS R w1s0_ 1 (fun x=>[vY x]) a1s0)(b2_:Nat)(a2:Str)(r:UInt32)(hm:BR a0 a1s0 a2=some r):CO Tryz.prog 112 [vI a0,pt b1_ 0,pt b2_ 0] G R (Bk b1_ 185 [.func (.func 110) #[] #[pt b1s0_ 0]]::Bk b1s0_ 131 [w1s0_]::Bk b2_ 9 [vS a2]::F)
  (Ret fun u R' L'=>u=vD r∧R'=R∧L'=Bk b1_ 185 [.func (.func 110) #[] #[pt b1s0_ 0]]::Bk b1s0_ 131 [w1s0_]::Bk b2_ 9 [vS a2]::F):=by
 unfold BR at hm
 refine co_ofN (N:=11) Tryz.func112 z z ?_
 refine csr ?_
 refine r_as z ?_
 refine r_nil (x_seq (c_seq ?_))
 obtain ⟨c0,hc0,hm1⟩:=bs hm
 obtain ⟨r2,hr2,hm3⟩:=bs hm1
 refine c_any mixed (effs:=[]) (V:=[]) ?_
 refine stn [0,0,0,6,14,31,63] [0,1,2,3,4,5,6] [] [_,_,_,_,_,_,_] (q_ld z z 0 sc185 z z z (q_ld z z 2 sc9 z z z (q_mv z z z (q_u z z (o_ixS Tryz.underlying9 z z hc0) (q_u z z (o_callq ca113 z (Dn.ok c0 _ z)) (q_u z z (o_callqPC z ca110 z (C9.ok _ b1s0_ _ w1s0_ h1s0_ _ hr2) (pk 3 [1,0,2]) (pk 3 [1,0,2])) (q_u z z (o_as z) qn))))))) en ?_
 intro _
 refine ex_sub (E':=[(4,vD r2)]) ⟨z,trivial⟩ ?_
 refine x_seq (c_ret ?_)
 obtain rfl:=si hm3
 exact x_r1 z (rv_t z) le_ ⟨_,z,z,z,z⟩
def A7(a0:UInt32)(a1:Int):UInt32 :=
 (shDl a0 (((toW a1) &&& 31).toNat:Int)) ||| (shDr a0 ((32-((toW a1) &&& 31)).toNat:Int))
theorem A7.ok{G R F}(a0:UInt32)(a1:Int)(r:UInt32)(hm:A7 a0 a1=r):CO Tryz.prog 159 [vD a0,vI a1] G R (F)
  (Ret fun u R' L'=>u=vD r∧R'=R∧L'=F):=by
 unfold A7 at hm
 refine co_ofN (N:=17) Tryz.func159 z z ?_
 refine csr ?_
 refine r_as z ?_
 refine nsr ?_
 refine r_mv z (r_u (o_cv z (cIW Tryz.underlying3 Tryz.underlying134 a1)) (r_bin z z (bW_and _ 31) (r_as z ?_)))
 refine nsr ?_
 refine r_mv z (r_mv z (r_bin z z (bDW_shl a0 ((toW a1) &&& 31)) (r_mv z (r_mv z (r_bin z z (bW_sub 32 _) (r_bin z z (bDW_shr a0 (32-((toW a1) &&& 31))) (r_u (o_bin z z (bD_or _ _)) (r_as z ?_))))))))
 refine r_nil (x_seq (c_ret ?_))
 subst hm
 exact x_r1 z (rv_t z) le_ ⟨_,z,z,z,z⟩
end Go.Proofs.YtpanhdnglicknaaGreat
