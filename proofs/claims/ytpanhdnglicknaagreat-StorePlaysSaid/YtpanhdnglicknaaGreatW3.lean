import Derived.Test.YtpanhdnglicknaaGreatW2
import Derived.Test.YtpanhdnglicknaaGreatFacts
import Derived.Test.YtpanhdnglicknaaGreatHwZ
import Derived.Test.YtpanhdnglicknaaGreatHwW
import Derived.Test.YtpanhdnglicknaaGreatHw8
set_option linter.unusedVariables false
set_option linter.unusedSectionVars false
set_option linter.unusedSimpArgs false
set_option maxRecDepth 100000
set_option maxHeartbeats 4000000
namespace Go.Proofs.YtpanhdnglicknaaGreat
open _root_.Go.Proofs.Tryz Go Go.Proofs.YtpanhdnglicknaaGreat.Hw
def Bz(a0:List Ai)(a1:Ai):Nat→(List Ai)→Bool→Int→Option (List Ai×Bool)
 | 0,_,_,_=>none
 | k17+1,out_13,in_14,i_15=>if decide (i_15<(a0.length:Int)) then Option.bind (if in_14 then some false else (gi a0 i_15).bind fun x52=>some (!slt x52.Key a1.Key)) fun p22=>Option.bind (if p22 then (apd 48 out_13 [a1]).bind fun l48=>some (l48,true) else some (out_13,in_14)) fun p26=>(gi a0 i_15).bind fun x31=>Option.bind (if (x31.Key != a1.Key) then (apd 48 p26.1 [x31]).bind fun l42=>some l42 else some p26.1) fun p33=>Bz a0 a1 k17 p33 p26.2 (i64 (i_15+1)) else some (out_13,in_14)
def BX(a0:List Ai)(a1:Ai):Option (List Ai) :=
 Option.bind (Bz a0 a1 (((a0.length:Int)-0).toNat+1) [] false 0) fun p2=>if !p2.2 then (apd 48 p2.1 [a1]).bind fun l11=>some l11 else some p2.1
theorem BX.ok{G R F}(v0_:Value)(a0:List Ai)(h0_:RoS R v0_ 4 Ai.c a0)(a1:Ai)(r:List Ai)(hm:BX a0 a1=some r):CO prog 84 [v0_,.agg (Ai.c a1).toArray] G R (F)
  (Ret fun u R' L'=>∃p0,u=p0∧R'=R∧L'=OwS true 50 4 Ai.c p0 r::F):=by
 unfold BX at hm
 refine co_ofN (N:=53) func84 z z ?_
 refine csr ?_
 refine r_new (o_bx (Ai.c a1) z z) fun b0 =>?_
 refine r_as z (nsr ?_)
 refine r_sw (s_w (o_bsl (en:=Ai.c) (sz:=4) (e:=50) (cs:=[]) (r:=[]) z kr z (by decide) z (fun _=>z))) ?_
 rintro v1 R _ _ ⟨rfl,rfl⟩
 refine r_as z (r_as z (nssr (r_as z (nsq ?_))))
 obtain ⟨p2,hp4,hm5⟩:=bs hm
 refine cd_cut (fun x ks=>∀(g3:Value),EX x .normal ks [(3,pt b0 0),(5,g3),(6,vB p2.2)] R (Bk b0 50 (Ai.c a1)::OwS true 50 4 Ai.c g3 p2.1::F)) ?_ fun K6 =>?_
 ·intro g3
  refine x_seq (c_seq (csr (r_mv z ?_)))
  refine r_u (o_not z) (nsq ?_)
  refine c_if (b := !p2.2) z (fun h7 =>?_) fun h7 =>?_
  rotate_left
  ·have hm8:=iff_ hm5 h7
   refine c_skip (x_seq (csr (r_mv z (r_as z (r_nil (x_seq (c_ret ?_)))))))
   obtain rfl:=si hm8
   refine ex_st (pk 2 [1]) ?_
   exact x_r1 z (rv_t z) le_ ⟨_,z,g3,z,z,z⟩
  have hm8:=ift hm5 h7
  refine c_reg (r_mv z ?_)
  refine r_u (o_ldn 0 (Ai.c a1) ag50 z z z z) ?_
  refine r_sw (s_w (o_bsl (en:=Ai.c) (sz:=4) (e:=50) (cs:=[vS a1.Key,vS a1.Value,vW a1.Version,vW a1.End]) (r:=[a1]) z kr z (by decide) z (fun _=>z))) ?_
  rintro v9 R _ _ ⟨rfl,rfl⟩
  obtain ⟨l11,hl11,hm12⟩:=bs hm8
  refine rl_st (fun _ h=>mv2 h) ?_
  refine r_sw (s_w (o_ap (sz:=4) (bytes:=48) 0 underlying61 rfl rfl rfl rfl rfl (by decide) (by decide) (fun _ _ _ h=>by simp [Ai.c] at h;rcases h with rfl | rfl | rfl | rfl <;> rfl) (fun _=>rfl) rfl rfl rfl rfl (Nat.succ_pos _) hl11)) ?_
  rintro v10 R _ _ ⟨rfl,rfl⟩
  refine r_as z (nsr (r_mv z (r_as z (r_nil (x_seq (c_ret ?_))))))
  obtain rfl:=si hm12
  refine ex_st (pk 3 [0]) ?_
  exact x_r1 z (rv_t z) le_ ⟨_,z,v10,z,z,z⟩
 refine c_blk ?_
 refine cd_loopG (M:=fun k17 (s:List Ai×Bool×Int×Value)=>Bz a0 a1 k17 s.1 s.2.1 s.2.2.1=some p2) (Ef:=fun (s:List Ai×Bool×Int×Value)=>[(0,v0_),(3,pt b0 0),(5,s.2.2.2),(6,vB s.2.1),(7,vI s.2.2.1)]) (Rf:=fun (s:List Ai×Bool×Int×Value)=>R) (Lf:=fun (s:List Ai×Bool×Int×Value)=>Bk b0 50 (Ai.c a1)::OwS true 50 4 Ai.c s.2.2.2 s.1::F) (((a0.length:Int)-0).toNat+1) ([],false,0,v1) hp4 ⟨z,z,z,z,z,y_⟩ (pk 2 [1,0]) (fun _ h=>by cases h) fun k17 s hM19 =>?_
 obtain ⟨out_13,in_14,i_15,g16⟩:=s
 have hm18:Bz a0 a1 (k17+1) out_13 in_14 i_15=some p2:=hM19
 rw [Bz] at hm18
 refine c_seq (csr (r_mv z (r_mv z ?_)))
 refine r_u (o_lenR underlying61 z h0_) (r_bin z z (bI_lt _ _) (nsq ?_))
 refine c_if (b:=decide (i_15<(a0.length:Int))) z (fun h20 =>?_) fun h20 =>?_
 rotate_left
 ·have hm21:=iff_ hm18 h20
  refine c_exit (x_exit (ks':=_) z ?_)
  obtain rfl:=si hm21
  exact x_sub (K6 g16) ⟨z,z,z,y_⟩ id_
 have hm21:=ift hm18 h20
 refine c_skip (x_seq (c_seq (c_blk (c_seq (c_seq ?_)))))
 obtain ⟨p22,hp23,hm24⟩:=bs hm21
 refine cd_join (E':=[(0,v0_),(3,pt b0 0),(5,g16),(6,vB in_14),(7,vI i_15),(26,vB p22)]) (L':=Bk b0 50 (Ai.c a1)::OwS true 50 4 Ai.c g16 out_13::F) ?_ fun K25 =>?_
 rotate_left
 ·refine cd_by in_14 (fun h50 =>?_) fun h50 =>?_
  ·have hm51:=ift hp23 h50
   refine c_any mixed (effs:=[]) (V:=[]) ?_
   refine stn mk49_ [0,1,2,3,4,5,6,7,8,9,10,11] [] [_,_,_,_,_,_,_,_,_,_,_,_] (q_mv z z z (q_u z z (o_not z) (q_mv z z z (q_n z z z z (nbf h50) (q_n z z z z (nbf h50) (q_n z z z z (nbf h50) (q_n z z z z (nbf h50) (q_n z z z z (nbf h50) (q_n z z z z (nbf h50) (q_n z z z z (nbf h50) (q_n z z z z (nbf h50) (q_u z z (o_pf z (nbf h50) z) qn)))))))))))) en ?_
   intro _
   refine ex_sub (E':=[(0,v0_),(3,pt b0 0),(5,g16),(6,vB in_14),(7,vI i_15),(26,vB false)]) ⟨z,z,z,z,z,z,y_⟩ ?_
   obtain rfl:=si hm51
   exact x_sub K25 ⟨z,z,z,z,z,z,y_⟩ id_
  have hm51:=iff_ hp23 h50
  obtain ⟨x52,hx52,hm53⟩:=bs hm51
  obtain ⟨b52,o52,l52,T52,fr52,c52,hv52,hR52,he52,hi52⟩:=RoS.ne h0_ hx52
  refine c_any mixed (effs:=[]) (V:=[]) ?_
  refine stn mk49_ [0,1,2,3,4,5,6,7,8,9,10,11] [] [_,_,_,_,_,_,_,_,_,_,_,_] (q_mv z z z (q_u z z (o_not z) (q_mv z z z (q_y z z z z (nbt h50) (o_mv z) (q_y z z z z (nbt h50) (o_mv z) (q_y z z z z (nbt h50) (o_ix (sz:=4) underlying61 kr z z hv52 hi52) (q_y z z z z (nbt h50) (o_fa fa50_0 z) (q_y z z z z (nbt h50) (o_ldR sc9 z hR52 (rok 0 he52 (by decide))) (q_y z z z z (nbt h50) (o_fa fa50_0 z) (q_y z z z z (nbt h50) (o_ld 0 sc9 z z z) (q_y z z z z (nbt h50) (o_bin z z (bS_ge _ _)) (q_u z z (o_pt z (nbt h50) z) qn)))))))))))) en ?_
  intro _
  refine ex_sub (E':=[(0,v0_),(3,pt b0 0),(5,g16),(6,vB in_14),(7,vI i_15),(26,vB (!slt x52.Key a1.Key))]) ⟨z,z,z,z,z,z,y_⟩ ?_
  obtain rfl:=si hm53
  exact x_sub K25 ⟨z,z,z,z,z,z,y_⟩ id_
 refine x_seq ?_
 obtain ⟨p26,hp28,hm29⟩:=bs hm24
 refine cd_cut (fun x ks=>∀(g27:Value),EX x .normal ks [(0,v0_),(3,pt b0 0),(7,vI i_15),(5,g27),(6,vB p26.2)] R (Bk b0 50 (Ai.c a1)::OwS true 50 4 Ai.c g27 p26.1::F)) ?_ fun K30 =>?_
 rotate_left
 ·refine c_if (b:=p22) z (fun h44 =>?_) fun h44 =>?_
  rotate_left
  ·have hm45:=iff_ hp28 h44
   refine c_skip ?_
   obtain rfl:=si hm45
   exact x_sub (K30 g16) ⟨z,z,z,z,z,y_⟩ id_
  have hm45:=ift hp28 h44
  refine c_reg (r_mv z ?_)
  refine r_u (o_ldn 0 (Ai.c a1) ag50 z z z z) ?_
  refine r_sw (s_w (o_bsl (en:=Ai.c) (sz:=4) (e:=50) (cs:=[vS a1.Key,vS a1.Value,vW a1.Version,vW a1.End]) (r:=[a1]) z kr z (by decide) z (fun _=>z))) ?_
  rintro v46 R _ _ ⟨rfl,rfl⟩
  obtain ⟨l48,hl48,hm49⟩:=bs hm45
  refine rl_st (fun _ h=>mv2 h) ?_
  refine r_sw (s_w (o_ap (sz:=4) (bytes:=48) 0 underlying61 rfl rfl rfl rfl rfl (by decide) (by decide) (fun _ _ _ h=>by simp [Ai.c] at h;rcases h with rfl | rfl | rfl | rfl <;> rfl) (fun _=>rfl) rfl rfl rfl rfl (Nat.succ_pos _) hl48)) ?_
  rintro v47 R _ _ ⟨rfl,rfl⟩
  refine r_as z (r_as z (r_nil ?_))
  obtain rfl:=si hm49
  exact x_sub (K30 v47) ⟨z,z,z,z,z,y_⟩ (pk 3 [2,0])
 intro g27
 refine x_seq (c_seq ?_)
 obtain ⟨x31,hx31,hm32⟩:=bs hm29
 obtain ⟨b31,o31,l31,T31,fr31,c31,hv31,hR31,he31,hi31⟩:=RoS.ne h0_ hx31
 refine c_any mixed (effs:=[]) (V:=[]) ?_
 refine stn [0,0,3,7,15,0,32,127] [0,1,2,3,4,5,6,7] [] [_,_,_,_,_,_,_,_] (q_mv z z z (q_mv z z z (q_u z z (o_ix (sz:=4) underlying61 kr z z hv31 hi31) (q_fa z z fa50_0 z (q_u z z (o_ldR sc9 z hR31 (rok 0 he31 (by decide))) (q_fa z z fa50_0 z (q_ld z z 0 sc9 z z z (q_u z z (o_bin z z (bS_ne _ _)) qn)))))))) en ?_
 intro _
 refine ex_sub (E':=[(0,v0_),(3,pt b0 0),(7,vI i_15),(5,g27),(6,vB p26.2),(38,vB (x31.Key != a1.Key))]) ⟨z,z,z,z,z,z,y_⟩ ?_
 refine x_seq ?_
 obtain ⟨p33,hp35,hm36⟩:=bs hm32
 refine cd_cut (fun x ks=>∀(g34:Value),EX x .normal ks [(0,v0_),(3,pt b0 0),(6,vB p26.2),(7,vI i_15),(5,g34)] R (Bk b0 50 (Ai.c a1)::OwS true 50 4 Ai.c g34 p33::F)) ?_ fun K37 =>?_
 ·intro g34
  refine x_blk (x_seq (c_reg (r_mv z (r_bin z z (bI_add _ 1) (r_as z (r_nil ?_))))))
  exact x_lp (p33,p26.2,i64 (i_15+1),g34) hm36 ⟨z,z,z,z,z,y_⟩ id_
 refine c_if (b:=(x31.Key != a1.Key)) z (fun h38 =>?_) fun h38 =>?_
 rotate_left
 ·have hm39:=iff_ hp35 h38
  refine c_skip ?_
  obtain rfl:=si hm39
  exact x_sub (K37 g27) ⟨z,z,z,z,z,y_⟩ id_
 have hm39:=ift hp35 h38
 refine c_reg (r_mv z (r_mv z (r_mv z ?_)))
 refine r_u (o_ix (sz:=4) underlying61 kr z z hv31 hi31) ?_
 refine r_u (o_ldnR (Ai.c x31) ag50 z hR31 he31 z) ?_
 refine r_sw (s_w (o_bsl (en:=Ai.c) (sz:=4) (e:=50) (cs:=[vS x31.Key,vS x31.Value,vW x31.Version,vW x31.End]) (r:=[x31]) z kr z (by decide) z (fun _=>z))) ?_
 rintro v40 R _ _ ⟨rfl,rfl⟩
 obtain ⟨l42,hl42,hm43⟩:=bs hm39
 refine rl_st (fun _ h=>mv2 h) ?_
 refine r_sw (s_w (o_ap (sz:=4) (bytes:=48) 0 underlying61 rfl rfl rfl rfl rfl (by decide) (by decide) (fun _ _ _ h=>by simp [Ai.c] at h;rcases h with rfl | rfl | rfl | rfl <;> rfl) (fun _=>rfl) rfl rfl rfl rfl (Nat.succ_pos _) hl42)) ?_
 rintro v41 R _ _ ⟨rfl,rfl⟩
 refine r_as z (r_nil ?_)
 obtain rfl:=si hm43
 exact x_sub (K37 v41) ⟨z,z,z,z,z,y_⟩ (pk 3 [2,0])
def Az(a0:Aa)(a1:Int):Option Int :=
 (gi a0.R.L a1).bind fun x1=>some (x1.length:Int)
theorem Az.ok{G R F}(a0:Aa)(g0_:Aa.G)(h0:Aa.ro R a0 g0_)(a1:Int)(r:Int)(hm:Az a0 a1=some r):CO prog 181 [.agg (Aa.k a0 g0_).toArray,vI a1] G R (F)
  (Ret fun u R' L'=>u=vI r∧R'=R∧L'=F):=by
 unfold Az at hm
 refine co_ofN (N:=12) func181 z z ?_
 refine csr ?_
 refine r_new (o_bx (Aa.k a0 g0_) z z) fun b0 =>?_
 refine r_as z (nsr (r_fa fa66_2 z (r_fa fa64_0 z (r_ld 0 sc62 z z z (r_mv z ?_)))))
 obtain ⟨x1,hx1,hm3⟩:=bs hm
 obtain ⟨b1,o1,l1,T1,fr1,c1,u2,hv1,hR1,he1,hi1,hN1⟩:=RoN.ne h0 hx1
 refine r_u (o_ix (sz:=1) underlying62 kr z z hv1 hi1) ?_
 refine r_u (o_ldR sc98 z hR1 (rok 0 he1 (by decide))) ?_
 refine r_u (o_lenR underlying98 z hN1) (r_as z (r_nil (x_seq (c_ret ?_))))
 obtain rfl:=si hm3
 refine ex_st (pk 1 []) ?_
 exact x_r1 z (rv_t z) le_ ⟨_,z,z,z,z⟩
def AS(a0:Aa):Option Int :=
 (Az a0 0).bind fun r1=>(Az a0 1).bind fun r3=>some (i64 (r1+r3))
theorem AS.ok{G R F}(a0:Aa)(g0_:Aa.G)(h0:Aa.ro R a0 g0_)(r:Int)(hm:AS a0=some r):CO prog 182 [.agg (Aa.k a0 g0_).toArray] G R (F)
  (Ret fun u R' L'=>u=vI r∧R'=R∧L'=F):=by
 unfold AS at hm
 refine co_ofN (N:=8) func182 z z ?_
 refine csr ?_
 refine r_new (o_bx (Aa.k a0 g0_) z z) fun b0 =>?_
 refine r_as z (r_nil (x_seq (c_seq ?_)))
 obtain ⟨r1,hr1,hm2⟩:=bs hm
 obtain ⟨r3,hr3,hm4⟩:=bs hm2
 refine c_any mixed (effs:=[]) (V:=[]) ?_
 refine stn [0,1,0,7,15,31] [0,1,2,3,4,5] [] [_,_,_,_,_,_] (q_u z z (o_ldn 0 (Aa.k a0 g0_) ag66 z z z z) (q_u z z (o_callq ca181 z (Az.ok a0 (⟨(⟨(g0_.R.L.1,[])⟩:Ab.G)⟩:Aa.G) h0 0 _ hr1)) (q_u z z (o_ldn 0 (Aa.k a0 g0_) ag66 z z z z) (q_u z z (o_callq ca181 z (Az.ok a0 (⟨(⟨(g0_.R.L.1,[])⟩:Ab.G)⟩:Aa.G) h0 1 _ hr3)) (q_u z z (o_bin z z (bI_add r1 r3)) (q_u z z (o_as z) qn)))))) en ?_
 intro _
 refine ex_sub (E':=[(2,vI (i64 (r1+r3)))]) ⟨z,y_⟩ ?_
 refine x_seq (c_ret ?_)
 obtain rfl:=si hm4
 refine ex_st (pk 1 []) ?_
 exact x_r1 z (rv_t z) le_ ⟨_,z,z,z,z⟩
def AO(a0:Aa)(a1:Bool):Option (Aa×List Str) :=
 (Az a0 0).bind fun r2=>Option.bind (if decide (0<r2) then Option.bind (if decide (a0.Target<r2) then some true else Option.bind (if a1 then Option.bind (if (r2==a0.Target) then some true else (Az a0 1).bind fun r47=>some (r47==0)) fun p41=>some p41 else (Az a0 1).bind fun r49=>some (r49==0)) fun p35=>some p35) fun p29=>some p29 else some false) fun p4=>Option.bind (if p4 then some 0 else some 1) fun p8=>(Ay a0.R p8).bind fun r12=>if !r12.2 then some (a0,[]) else (AB a0 (i64 (p8+2)) r12.1).bind fun r16=>some (r16,[r12.1])
theorem AO.ok{G R F}(a0:Aa)(g0_:Aa.G)(h0:Aa.ro R a0 g0_)(a1:Bool)(r:Aa×List Str)(hm:AO a0 a1=some r):CO prog 183 [.agg (Aa.k a0 g0_).toArray,vB a1] G R (F)
  (Ret fun u R' L'=>∃(p0:Aa.G) (p1:Value),u = .tuple #[.agg (Aa.k r.1 p0).toArray,p1]∧(Aa.ro R' r.1 p0)∧L'=OwS true 9 1 eS p1 r.2::F):=by
 unfold AO at hm
 refine co_ofN (N:=51) func183 z z ?_
 refine csr ?_
 refine r_new (o_bx (Aa.k a0 g0_) z z) fun b0 =>?_
 refine r_new (o_al ze66) fun b1 =>?_
 refine r_as z (nsr (r_as z (r_nil (x_seq (c_seq (c_seq ?_))))))
 obtain ⟨r2,hr2,hm3⟩:=bs hm
 obtain ⟨p4,hp5,hm6⟩:=bs hm3
 refine cd_join (E':=[(2,pt b0 0),(4,pt b1 0),(6,vI 1),(33,vB p4)]) (L':=Bk b1 66 [vI 0,vI 0,.slice none 0 0,vI 0]::Bk b0 66 (Aa.k a0 g0_)::F) ?_ fun K7 =>?_
 ·refine x_seq ?_
  obtain ⟨p8,hp9,hm10⟩:=bs hm6
  refine cd_join (E':=[(2,pt b0 0),(4,pt b1 0),(6,vI p8)]) (L':=Bk b1 66 [vI 0,vI 0,.slice none 0 0,vI 0]::Bk b0 66 (Aa.k a0 g0_)::F) ?_ fun K11 =>?_
  rotate_left
  ·refine c_if (b:=p4) z (fun h25 =>?_) fun h25 =>?_
   ·have hm26:=ift hp9 h25
    refine c_reg (r_as z (r_nil ?_))
    obtain rfl:=si hm26
    exact x_sub K11 ⟨z,z,z,y_⟩ id_
   have hm26:=iff_ hp9 h25
   refine c_skip ?_
   obtain rfl:=si hm26
   exact x_sub K11 ⟨z,z,z,y_⟩ id_
  refine x_seq (csr (r_fa fa66_2 z ?_))
  refine r_u (o_ldn 1 [g0_.R.L.1,vI a0.R.Places] ag64 z z z z) (r_mv z ?_)
  obtain ⟨r12,hr12,hm13⟩:=bs hm10
  refine r_u (o_callq ca180 z (Ay.ok _ (⟨(g0_.R.L.1,[])⟩:Ab.G) h0 p8 _ hr12)) (r_mv z (r_ext z z (r_ext z z (r_as z (r_as z (nssr (r_mv z ?_)))))))
  refine r_u (o_not z) (nsq ?_)
  refine c_if (b := !r12.2) z (fun h14 =>?_) fun h14 =>?_
  ·have hm15:=ift hm13 h14
   refine csr ?_
   refine r_u (o_ldn 1 (Aa.k a0 g0_) ag66 z z z z) ?_
   refine r_u0 (o_stn ag66 z z z (a_ z (a_ z (a_ (RoN.one h0) (a_ z al_n)))) z z z) (r_as z (r_nil (x_seq (c_ret ?_))))
   refine ex_st (fun _ h=>st_nil (ap:=true) (T:=9) (sz:=1) (en:=eS) h) ?_
   obtain rfl:=si hm15
   exact x_d2 z (rv_n 1 (Aa.k a0 g0_) ag66 z z z z) (rv_t z) (pk 3 [0]) le_ ⟨_,z,(⟨(⟨(g0_.R.L.1,[])⟩:Ab.G)⟩:Aa.G),(.slice none 0 0),z,h0,z⟩
  have hm15:=iff_ hm13 h14
  refine c_skip (x_seq (csr ?_))
  refine r_u (o_ldn 1 (Aa.k a0 g0_) ag66 z z z z) (r_mv z (r_bin z z (bI_add p8 2) (r_mv z ?_)))
  obtain ⟨r16,hr16,hm23⟩:=bs hm15
  refine r_sw (s_w (o_call ca175 z (AB.ok a0 (⟨(⟨(g0_.R.L.1,[])⟩:Ab.G)⟩:Aa.G) h0 _ _ _ hr16))) ?_
  rintro _ R21 _ le22 ⟨v17,rfl,hf18,rfl⟩
  refine r_mv z ?_
  refine r_sw (s_w (o_bsl (en:=eS) (sz:=1) (e:=9) (cs:=[vS r12.1]) (r:=[r12.1]) z kr z (by decide) z (fun _=>z))) ?_
  rintro v24 R21 _ _ ⟨rfl,rfl⟩
  refine rl_st (fun _ h=>mv1 h) ?_
  refine r_u0 (o_stn ag66 z z z (a_ z (a_ z (a_ (RoN.one hf18) (a_ z al_n)))) z z z) (r_as z (r_nil (x_seq (c_ret ?_))))
  obtain rfl:=si hm23
  exact x_d2 z (rv_n 0 (Aa.k r16 v17) ag66 z z z z) (rv_t z) (pk 3 [1]) le22 ⟨_,z,(⟨(⟨(v17.R.L.1,[])⟩:Ab.G)⟩:Aa.G),v24,z,hf18,z⟩
 refine cd_by (decide (0<r2)) (fun h27 =>?_) fun h27 =>?_
 rotate_left
 ·have hm28:=iff_ hp5 h27
  refine c_any mixed (effs:=[]) (V:=[]) ?_
  refine stn mk42_ [0,1,2,3,4,5,6,7,8,9,10,11,12,13,14,15,16,17,18,19,20,21,22,23,24] [] [_,_,_,_,_,_,_,_,_,_,_,_,_,_,_,_,_,_,_,_,_,_,_,_,_] (q_u z z (o_ldn 1 (Aa.k a0 g0_) ag66 z z z z) (q_u z z (o_callq ca181 z (Az.ok a0 (⟨(⟨(g0_.R.L.1,[])⟩:Ab.G)⟩:Aa.G) h0 0 _ hr2)) (q_u z z (o_bin z z (bI_gt r2 0)) (q_mv z z z (q_n z z z z h27 (q_n z z z z h27 (q_n z z z z h27 (q_n z z z z h27 (q_n z z z z h27 (q_n z z z z h27 (qc z z (s_nu z z) (qc z z (s_nu z z) (qc z z (s_nu z z) (qc z z (s_nu z z) (qc z z (s_nu z z) (qc z z (s_nu z z) (qc z z (s_nu z z) (qc z z (s_nu z z) (q_n z z z z h27 (q_n z z z z h27 (qc z z (s_nu z z) (qc z z (s_nu z z) (qc z z (s_nu z z) (q_n z z z z h27 (q_u z z (o_pf z h27 z) qn))))))))))))))))))))))))) en ?_
  intro _
  refine ex_sub (E':=[(2,pt b0 0),(4,pt b1 0),(6,vI 1),(33,vB false)]) ⟨z,z,z,z,y_⟩ ?_
  obtain rfl:=si hm28
  exact x_sub K7 ⟨z,z,z,z,y_⟩ id_
 have hm28:=ift hp5 h27
 obtain ⟨p29,hp30,hm31⟩:=bs hm28
 refine cd_join (E':=[(2,pt b0 0),(4,pt b1 0),(6,vI 1),(33,vB p29)]) (L':=Bk b1 66 [vI 0,vI 0,.slice none 0 0,vI 0]::Bk b0 66 (Aa.k a0 g0_)::F) ?_ fun K32 =>?_
 ·obtain rfl:=si hm31
  exact x_sub K7 ⟨z,z,z,z,y_⟩ id_
 refine cd_by (decide (a0.Target<r2)) (fun h33 =>?_) fun h33 =>?_
 ·have hm34:=ift hp30 h33
  refine c_any mixed (effs:=[]) (V:=[]) ?_
  refine stn mk42_ [0,1,2,3,4,5,6,7,8,9,10,11,12,13,14,15,16,17,18,19,20,21,22,23,24] [] [_,_,_,_,_,_,_,_,_,_,_,_,_,_,_,_,_,_,_,_,_,_,_,_,_] (q_u z z (o_ldn 1 (Aa.k a0 g0_) ag66 z z z z) (q_u z z (o_callq ca181 z (Az.ok a0 (⟨(⟨(g0_.R.L.1,[])⟩:Ab.G)⟩:Aa.G) h0 0 _ hr2)) (q_u z z (o_bin z z (bI_gt r2 0)) (q_mv z z z (q_y z z z z h27 (o_ldn 1 (Aa.k a0 g0_) ag66 z z z z) (q_y z z z z h27 (o_callq ca181 z (Az.ok a0 (⟨(⟨(g0_.R.L.1,[])⟩:Ab.G)⟩:Aa.G) h0 0 _ hr2)) (q_y z z z z h27 (o_fa fa66_1 z) (q_y z z z z h27 (o_ld 1 sc3 z z z) (q_y z z z z h27 (o_bin z z (bI_gt r2 _)) (q_y z z z z h27 (o_mv z) (q_n z z z z h33 (q_n z z z z h33 (qc z z (s_nu z z) (qc z z (s_nu z z) (qc z z (s_nu z z) (qc z z (s_nu z z) (qc z z (s_nu z z) (q_n z z z z h33 (q_y z z z z h27 (o_pt z h33 z) (q_y z z z z h27 (o_mv z) (q_n z z z z z (q_n z z z z z (q_n z z z z z (q_y z z z z h27 (o_pt z z z) (q_u z z (o_pt z h27 z) qn))))))))))))))))))))))))) en ?_
  intro _
  refine ex_sub (E':=[(2,pt b0 0),(4,pt b1 0),(6,vI 1),(33,vB true)]) ⟨z,z,z,z,y_⟩ ?_
  obtain rfl:=si hm34
  exact x_sub K32 ⟨z,z,z,z,y_⟩ id_
 have hm34:=iff_ hp30 h33
 obtain ⟨p35,hp36,hm37⟩:=bs hm34
 refine cd_join (E':=[(2,pt b0 0),(4,pt b1 0),(6,vI 1),(33,vB p35)]) (L':=Bk b1 66 [vI 0,vI 0,.slice none 0 0,vI 0]::Bk b0 66 (Aa.k a0 g0_)::F) ?_ fun K38 =>?_
 ·obtain rfl:=si hm37
  exact x_sub K32 ⟨z,z,z,z,y_⟩ id_
 refine cd_by a1 (fun h39 =>?_) fun h39 =>?_
 rotate_left
 ·have hm40:=iff_ hp36 h39
  obtain ⟨r49,hr49,hm50⟩:=bs hm40
  refine c_any mixed (effs:=[]) (V:=[]) ?_
  refine stn mk42_ [0,1,2,3,4,5,6,7,8,9,10,11,12,13,14,15,16,17,18,19,20,21,22,23,24] [] [_,_,_,_,_,_,_,_,_,_,_,_,_,_,_,_,_,_,_,_,_,_,_,_,_] (q_u z z (o_ldn 1 (Aa.k a0 g0_) ag66 z z z z) (q_u z z (o_callq ca181 z (Az.ok a0 (⟨(⟨(g0_.R.L.1,[])⟩:Ab.G)⟩:Aa.G) h0 0 _ hr2)) (q_u z z (o_bin z z (bI_gt r2 0)) (q_mv z z z (q_y z z z z h27 (o_ldn 1 (Aa.k a0 g0_) ag66 z z z z) (q_y z z z z h27 (o_callq ca181 z (Az.ok a0 (⟨(⟨(g0_.R.L.1,[])⟩:Ab.G)⟩:Aa.G) h0 0 _ hr2)) (q_y z z z z h27 (o_fa fa66_1 z) (q_y z z z z h27 (o_ld 1 sc3 z z z) (q_y z z z z h27 (o_bin z z (bI_gt r2 _)) (q_y z z z z h27 (o_mv z) (q_y z z z z h33 (o_mv z) (q_y z z z z h33 (o_mv z) (q_n z z z z h39 (q_n z z z z h39 (q_n z z z z h39 (q_n z z z z h39 (q_n z z z z h39 (q_y z z z z h33 (o_pf z h39 z) (q_y z z z z h27 (o_pf z h33 z) (q_y z z z z h27 (o_mv z) (q_y z z z z z (o_ldn 1 (Aa.k a0 g0_) ag66 z z z z) (q_y z z z z z (o_callq ca181 z (Az.ok a0 (⟨(⟨(g0_.R.L.1,[])⟩:Ab.G)⟩:Aa.G) h0 1 _ hr49)) (q_y z z z z z (o_bin z z (bI_eq _ 0)) (q_y z z z z h27 (o_pf z z z) (q_u z z (o_pt z h27 z) qn))))))))))))))))))))))))) en ?_
  intro _
  refine ex_sub (E':=[(2,pt b0 0),(4,pt b1 0),(6,vI 1),(33,vB (r49==0))]) ⟨z,z,z,z,y_⟩ ?_
  obtain rfl:=si hm50
  exact x_sub K38 ⟨z,z,z,z,y_⟩ id_
 have hm40:=ift hp36 h39
 obtain ⟨p41,hp42,hm43⟩:=bs hm40
 refine cd_join (E':=[(2,pt b0 0),(4,pt b1 0),(6,vI 1),(33,vB p41)]) (L':=Bk b1 66 [vI 0,vI 0,.slice none 0 0,vI 0]::Bk b0 66 (Aa.k a0 g0_)::F) ?_ fun K44 =>?_
 ·obtain rfl:=si hm43
  exact x_sub K38 ⟨z,z,z,z,y_⟩ id_
 refine cd_by (r2==a0.Target) (fun h45 =>?_) fun h45 =>?_
 ·have hm46:=ift hp42 h45
  refine c_any mixed (effs:=[]) (V:=[]) ?_
  refine stn mk42_ [0,1,2,3,4,5,6,7,8,9,10,11,12,13,14,15,16,17,18,19,20,21,22,23,24] [] [_,_,_,_,_,_,_,_,_,_,_,_,_,_,_,_,_,_,_,_,_,_,_,_,_] (q_u z z (o_ldn 1 (Aa.k a0 g0_) ag66 z z z z) (q_u z z (o_callq ca181 z (Az.ok a0 (⟨(⟨(g0_.R.L.1,[])⟩:Ab.G)⟩:Aa.G) h0 0 _ hr2)) (q_u z z (o_bin z z (bI_gt r2 0)) (q_mv z z z (q_y z z z z h27 (o_ldn 1 (Aa.k a0 g0_) ag66 z z z z) (q_y z z z z h27 (o_callq ca181 z (Az.ok a0 (⟨(⟨(g0_.R.L.1,[])⟩:Ab.G)⟩:Aa.G) h0 0 _ hr2)) (q_y z z z z h27 (o_fa fa66_1 z) (q_y z z z z h27 (o_ld 1 sc3 z z z) (q_y z z z z h27 (o_bin z z (bI_gt r2 _)) (q_y z z z z h27 (o_mv z) (q_y z z z z h33 (o_mv z) (q_y z z z z h33 (o_mv z) (q_y z z z z h39 (o_ldn 1 (Aa.k a0 g0_) ag66 z z z z) (q_y z z z z h39 (o_callq ca181 z (Az.ok a0 (⟨(⟨(g0_.R.L.1,[])⟩:Ab.G)⟩:Aa.G) h0 0 _ hr2)) (q_y z z z z h39 (o_fa fa66_1 z) (q_y z z z z h39 (o_ld 1 sc3 z z z) (q_y z z z z h39 (o_bin z z (bI_eq r2 _)) (q_y z z z z h33 (o_pt z h39 z) (q_y z z z z h27 (o_pf z h33 z) (q_y z z z z h27 (o_mv z) (q_n z z z z h45 (q_n z z z z h45 (q_n z z z z h45 (q_y z z z z h27 (o_pt z h45 z) (q_u z z (o_pt z h27 z) qn))))))))))))))))))))))))) en ?_
  intro _
  refine ex_sub (E':=[(2,pt b0 0),(4,pt b1 0),(6,vI 1),(33,vB true)]) ⟨z,z,z,z,y_⟩ ?_
  obtain rfl:=si hm46
  exact x_sub K44 ⟨z,z,z,z,y_⟩ id_
 have hm46:=iff_ hp42 h45
 obtain ⟨r47,hr47,hm48⟩:=bs hm46
 refine c_any mixed (effs:=[]) (V:=[]) ?_
 refine stn mk42_ [0,1,2,3,4,5,6,7,8,9,10,11,12,13,14,15,16,17,18,19,20,21,22,23,24] [] [_,_,_,_,_,_,_,_,_,_,_,_,_,_,_,_,_,_,_,_,_,_,_,_,_] (q_u z z (o_ldn 1 (Aa.k a0 g0_) ag66 z z z z) (q_u z z (o_callq ca181 z (Az.ok a0 (⟨(⟨(g0_.R.L.1,[])⟩:Ab.G)⟩:Aa.G) h0 0 _ hr2)) (q_u z z (o_bin z z (bI_gt r2 0)) (q_mv z z z (q_y z z z z h27 (o_ldn 1 (Aa.k a0 g0_) ag66 z z z z) (q_y z z z z h27 (o_callq ca181 z (Az.ok a0 (⟨(⟨(g0_.R.L.1,[])⟩:Ab.G)⟩:Aa.G) h0 0 _ hr2)) (q_y z z z z h27 (o_fa fa66_1 z) (q_y z z z z h27 (o_ld 1 sc3 z z z) (q_y z z z z h27 (o_bin z z (bI_gt r2 _)) (q_y z z z z h27 (o_mv z) (q_y z z z z h33 (o_mv z) (q_y z z z z h33 (o_mv z) (q_y z z z z h39 (o_ldn 1 (Aa.k a0 g0_) ag66 z z z z) (q_y z z z z h39 (o_callq ca181 z (Az.ok a0 (⟨(⟨(g0_.R.L.1,[])⟩:Ab.G)⟩:Aa.G) h0 0 _ hr2)) (q_y z z z z h39 (o_fa fa66_1 z) (q_y z z z z h39 (o_ld 1 sc3 z z z) (q_y z z z z h39 (o_bin z z (bI_eq r2 _)) (q_y z z z z h33 (o_pt z h39 z) (q_y z z z z h27 (o_pf z h33 z) (q_y z z z z h27 (o_mv z) (q_y z z z z h45 (o_ldn 1 (Aa.k a0 g0_) ag66 z z z z) (q_y z z z z h45 (o_callq ca181 z (Az.ok a0 (⟨(⟨(g0_.R.L.1,[])⟩:Ab.G)⟩:Aa.G) h0 1 _ hr47)) (q_y z z z z h45 (o_bin z z (bI_eq _ 0)) (q_y z z z z h27 (o_pf z h45 z) (q_u z z (o_pt z h27 z) qn))))))))))))))))))))))))) en ?_
 intro _
 refine ex_sub (E':=[(2,pt b0 0),(4,pt b1 0),(6,vI 1),(33,vB (r47==0))]) ⟨z,z,z,z,y_⟩ ?_
 obtain rfl:=si hm48
 exact x_sub K44 ⟨z,z,z,z,y_⟩ id_
def AY(a0:Aa)(a1:Int):Option Aa :=
 (Ay a0.R a1).bind fun r2=>if r2.2 then (AG a0.R r2.1).bind fun r6=>some (⟨a0.Most,a0.Target,r6⟩:Aa) else some a0
theorem AY.ok{G R F}(a0:Aa)(g0_:Aa.G)(h0:Aa.ro R a0 g0_)(a1:Int)(r:Aa)(hm:AY a0 a1=some r):CO prog 184 [.agg (Aa.k a0 g0_).toArray,vI a1] G R (F)
  (Ret fun u R' L'=>∃(p0:Aa.G),u = .agg (Aa.k r p0).toArray∧(Aa.ro R' r p0)∧L'=F):=by
 unfold AY at hm
 refine co_ofN (N:=21) func184 z z ?_
 refine csr ?_
 refine r_new (o_bx (Aa.k a0 g0_) z z) fun b0 =>?_
 refine r_new (o_al ze66) fun b1 =>?_
 refine nssr (r_fa fa66_2 z ?_)
 refine r_u (o_ldn 1 [g0_.R.L.1,vI a0.R.Places] ag64 z z z z) (r_mv z ?_)
 obtain ⟨r2,hr2,hm3⟩:=bs hm
 refine r_u (o_callq ca180 z (Ay.ok _ (⟨(g0_.R.L.1,[])⟩:Ab.G) h0 a1 _ hr2)) (r_mv z (r_ext z z (r_ext z z (r_as z (r_as z (nsr (r_mv z (nsq ?_))))))))
 refine c_if (b:=r2.2) z (fun h4 =>?_) fun h4 =>?_
 rotate_left
 ·have hm5:=iff_ hm3 h4
  refine c_skip (x_seq (csr ?_))
  refine r_u (o_ldn 1 (Aa.k a0 g0_) ag66 z z z z) ?_
  refine r_u0 (o_stn ag66 z z z (a_ z (a_ z (a_ (RoN.one h0) (a_ z al_n)))) z z z) (r_nil (x_seq (c_ret ?_)))
  obtain rfl:=si hm5
  exact x_d1 z (rv_n 0 (Aa.k a0 g0_) ag66 z z z z) (pk 2 []) le_ ⟨_,z,(⟨(⟨(g0_.R.L.1,[])⟩:Ab.G)⟩:Aa.G),z,h0,z⟩
 have hm5:=ift hm3 h4
 refine c_reg (r_fa fa66_2 z ?_)
 refine r_u (o_ldn 1 [g0_.R.L.1,vI a0.R.Places] ag64 z z z z) (r_mv z ?_)
 obtain ⟨r6,hr6,hm9⟩:=bs hm5
 refine r_sw (s_w (o_call ca174 z (AG.ok _ (⟨(g0_.R.L.1,[])⟩:Ab.G) h0 _ _ hr6))) ?_
 rintro _ R _ _ ⟨v7,rfl,rfl,rfl⟩
 refine r_fa fa66_2 z ?_
 refine rl_st (fun _ h=>mv3 h) ?_
 refine r_u0 (ou_if (one_o 1 z) fun ho0=>o_stn ag64 z z z (a_ ho0 (a_ z al_n)) z z z) ?_
 refine nsr ?_
 refine r_u (o_ldn 0 [vI a0.Most,vI a0.Target,v7.L.1,vI r6.Places] ag66 z z z z) ?_
 refine rl_st (fun _ h=>mv3 (mv1 h)) ?_
 refine r_u0 (ou_if (one_o 1 z) fun ho0=>o_stn ag66 z z z (a_ z (a_ z (a_ ho0 (a_ z al_n)))) z z z) ?_
 refine r_nil (x_seq (c_ret ?_))
 refine ex_st (fun _ h=>mv2 (mv3 h)) ?_
 refine ex_ex (fun w h=>st_freezeN w h) fun R10 hf13 =>?_
 obtain ⟨le11,h12⟩:=hf13
 obtain rfl:=si hm9
 exact x_d1 z (rv_n 0 [vI a0.Most,vI a0.Target,v7.L.1,vI r6.Places] ag66 z z z z) (pk 2 []) le11 ⟨_,z,(⟨(⟨(v7.L.1,[])⟩:Ab.G)⟩:Aa.G),z,h12,z⟩
def BU(a0:Aa)(a1:Str):Option (Aa×List Str) :=
 if decide (64<(a1.length:Int)) then some (a0,[]) else (BE a0 a1).bind fun r4=>if r4 then (AB a0 1 a1).bind fun r8=>some (r8,[]) else (AP a0.R a1).bind fun r17=>if r17.2 then (Az a0 2).bind fun r21=>(Az a0 3).bind fun r23=>Option.bind (if (r17.1==2) then if r21≠0 then Option.bind (if decide ((i64 (r23.tdiv r21))<1) then some 1 else some (i64 (r23.tdiv r21))) fun p65=>Option.bind (if decide (a0.Most<(i64 (a0.Target+p65))) then some a0.Most else some (i64 (a0.Target+p65))) fun p69=>some p69 else none else if r23≠0 then Option.bind (if decide ((i64 (r21.tdiv r23))<1) then some 1 else some (i64 (r21.tdiv r23))) fun p79=>Option.bind (if decide ((i64 (a0.Target-p79))<0) then some 0 else some (i64 (a0.Target-p79))) fun p83=>some p83 else none) fun p25=>(AS (⟨a0.Most,p25,a0.R⟩:Aa)).bind fun r29=>Option.bind (if decide (a0.Most≤r29) then (AO (⟨a0.Most,p25,a0.R⟩:Aa) (r17.1==3)).bind fun r52=>some (r52.2,r52.1) else some ([],(⟨a0.Most,p25,a0.R⟩:Aa))) fun p31=>(AB p31.2 1 a1).bind fun r42=>some (r42,p31.1) else (Az a0 0).bind fun r91=>(Az a0 2).bind fun r93=>(AS a0).bind fun r95=>(Az a0 3).bind fun r97=>Option.bind (if decide (a0.Most≤(i64 (r91+r93))) then some (r91==a0.Most) else some false) fun p99=>if p99 then (Ay a0.R 0).bind fun r105=>(AY a0 0).bind fun r108=>(AB r108 0 a1).bind fun r116=>some (r116,[r105.1]) else if decide (a0.Most≤(i64 (r91+r93))) then (AY a0 2).bind fun r126=>(AS r126).bind fun r134=>if decide (r126.Most≤r134) then (AO r126 false).bind fun r138=>(AB r138.1 0 a1).bind fun r147=>some (r147,r138.2) else (AB r126 0 a1).bind fun r155=>some (r155,[]) else if decide (a0.Most≤(i64 ((i64 (r95+r93))+r97))) then Option.bind (if decide ((i64 (2*a0.Most))≤(i64 ((i64 (r95+r93))+r97))) then (AY a0 3).bind fun r206=>some r206 else some a0) fun p165=>(AS p165).bind fun r175=>if decide (p165.Most≤r175) then (AO p165 false).bind fun r179=>(AB r179.1 0 a1).bind fun r188=>some (r188,r179.2) else (AB p165 0 a1).bind fun r196=>some (r196,[]) else (AB a0 0 a1).bind fun r214=>some (r214,[])
theorem BU.ok{G R F}(a0:Aa)(g0_:Aa.G)(h0:Aa.ro R a0 g0_)(a1:Str)(r:Aa×List Str)(hm:BU a0 a1=some r):CO prog 140 [.agg (Aa.k a0 g0_).toArray,vS a1] G R (F)
  (Ret fun u R' L'=>∃(p0:Aa.G) (p1:Value),u = .tuple #[.agg (Aa.k r.1 p0).toArray,p1]∧(Aa.ro R' r.1 p0)∧L'=OwS true 9 1 eS p1 r.2::F):=by
 unfold BU at hm
 refine co_ofN (N:=168) func140 z z ?_
 refine csr ?_
 refine r_new (o_bx (Aa.k a0 g0_) z z) fun b0 =>?_
 refine r_new (o_al ze66) fun b1 =>?_
 refine r_as z (nssr (r_mv z (r_u (o_lenS underlying9 z) (r_bin z z (bI_gt _ 64) (nsq ?_)))))
 refine c_if (b:=decide (64<(a1.length:Int))) z (fun h2 =>?_) fun h2 =>?_
 ·have hm3:=ift hm h2
  refine csr ?_
  refine r_u (o_ldn 1 (Aa.k a0 g0_) ag66 z z z z) ?_
  refine r_u0 (o_stn ag66 z z z (a_ z (a_ z (a_ (RoN.one h0) (a_ z al_n)))) z z z) (r_as z (r_nil (x_seq (c_ret ?_))))
  refine ex_st (fun _ h=>st_nil (ap:=true) (T:=9) (sz:=1) (en:=eS) h) ?_
  obtain rfl:=si hm3
  exact x_d2 z (rv_n 1 (Aa.k a0 g0_) ag66 z z z z) (rv_t z) (pk 3 [0]) le_ ⟨_,z,(⟨(⟨(g0_.R.L.1,[])⟩:Ab.G)⟩:Aa.G),(.slice none 0 0),z,h0,z⟩
 have hm3:=iff_ hm h2
 refine c_skip (x_seq (c_seq (csr ?_)))
 refine r_u (o_ldn 1 (Aa.k a0 g0_) ag66 z z z z) (r_mv z ?_)
 obtain ⟨r4,hr4,hm5⟩:=bs hm3
 refine r_u (o_callq ca173 z (BE.ok a0 (⟨(⟨(g0_.R.L.1,[])⟩:Ab.G)⟩:Aa.G) h0 a1 _ hr4)) (nsq ?_)
 refine c_if (b:=r4) z (fun h6 =>?_) fun h6 =>?_
 ·have hm7:=ift hm5 h6
  refine csr ?_
  refine r_u (o_ldn 1 (Aa.k a0 g0_) ag66 z z z z) (r_mv z ?_)
  obtain ⟨r8,hr8,hm15⟩:=bs hm7
  refine r_sw (s_w (o_call ca175 z (AB.ok a0 (⟨(⟨(g0_.R.L.1,[])⟩:Ab.G)⟩:Aa.G) h0 1 a1 _ hr8))) ?_
  rintro _ R13 _ le14 ⟨v9,rfl,hf10,rfl⟩
  refine r_u0 (o_stn ag66 z z z (a_ z (a_ z (a_ (RoN.one hf10) (a_ z al_n)))) z z z) (r_as z (r_nil (x_seq (c_ret ?_))))
  refine ex_st (fun _ h=>st_nil (ap:=true) (T:=9) (sz:=1) (en:=eS) h) ?_
  obtain rfl:=si hm15
  exact x_d2 z (rv_n 1 (Aa.k r8 v9) ag66 z z z z) (rv_t z) (pk 3 [0]) le14 ⟨_,z,(⟨(⟨(v9.R.L.1,[])⟩:Ab.G)⟩:Aa.G),(.slice none 0 0),z,hf10,z⟩
 have hm7:=iff_ hm5 h6
 refine c_skip (x_seq (csr ?_))
 refine r_sw (s_w (o_bsl (en:=eS) (sz:=1) (e:=9) (cs:=[]) (r:=[]) z kr z (by decide) z (fun _=>z))) ?_
 rintro v16 R _ _ ⟨rfl,rfl⟩
 refine r_as z (nsr (r_fa fa66_2 z ?_))
 refine r_u (o_ldn 2 [g0_.R.L.1,vI a0.R.Places] ag64 z z z z) (r_mv z ?_)
 obtain ⟨r17,hr17,hm18⟩:=bs hm7
 refine r_u (o_callq ca176 z (AP.ok _ (⟨(g0_.R.L.1,[])⟩:Ab.G) h0 a1 _ hr17)) (r_mv z (r_ext z z (r_ext z z (r_as z (r_as z (nssr (r_mv z (nsq ?_))))))))
 refine c_if (b:=r17.2) z (fun h19 =>?_) fun h19 =>?_
 ·have hm20:=ift hm18 h19
  refine c_seq ?_
  obtain ⟨r21,hr21,hm22⟩:=bs hm20
  obtain ⟨r23,hr23,hm24⟩:=bs hm22
  refine c_any mixed (effs:=[]) (V:=[]) ?_
  refine stn [0,1,0,7,15,31] [0,1,2,3,4,5] [] [_,_,_,_,_,_] (q_u z z (o_ldn 2 (Aa.k a0 g0_) ag66 z z z z) (q_u z z (o_callq ca181 z (Az.ok a0 (⟨(⟨(g0_.R.L.1,[])⟩:Ab.G)⟩:Aa.G) h0 2 _ hr21)) (q_u z z (o_ldn 2 (Aa.k a0 g0_) ag66 z z z z) (q_u z z (o_callq ca181 z (Az.ok a0 (⟨(⟨(g0_.R.L.1,[])⟩:Ab.G)⟩:Aa.G) h0 3 _ hr23)) (q_u z z (o_as z) (q_u z z (o_as z) qn)))))) en ?_
  intro _
  refine ex_sub (E':=[(1,vS a1),(2,pt b0 0),(4,pt b1 0),(6,v16),(7,vI r17.1),(9,vI r21),(10,vI r23)]) ⟨z,z,z,z,z,z,z,y_⟩ ?_
  refine x_seq (c_seq (csr (r_mv z (r_bin z z (bI_eq _ 2) (nsq ?_)))))
  obtain ⟨p25,hp26,hm27⟩:=bs hm24
  refine cd_join (E':=[(1,vS a1),(2,pt b0 0),(4,pt b1 0),(6,v16),(7,vI r17.1)]) (L':=Bk b0 66 [vI a0.Most,vI p25,g0_.R.L.1,vI a0.R.Places]::Bk b1 66 [vI 0,vI 0,.slice none 0 0,vI 0]::OwS true 9 1 eS v16 []::F) ?_ fun K28 =>?_
  ·refine x_seq (c_seq (c_seq ?_))
   obtain ⟨r29,hr29,hm30⟩:=bs hm27
   refine c_any mixed (effs:=[]) (V:=[]) ?_
   refine stn [0,1,0,4,15] [0,1,2,3,4] [] [_,_,_,_,_] (q_u z z (o_ldn 0 [vI a0.Most,vI p25,g0_.R.L.1,vI a0.R.Places] ag66 z z z z) (q_u z z (o_callq ca182 z (AS.ok (⟨a0.Most,p25,a0.R⟩:Aa) (⟨(⟨(g0_.R.L.1,[])⟩:Ab.G)⟩:Aa.G) h0 _ hr29)) (q_fa z z fa66_0 z (q_ld z z 0 sc3 z z z (q_u z z (o_bin z z (bI_ge _ _)) qn))))) en ?_
   intro _
   refine ex_sub (E':=[(1,vS a1),(2,pt b0 0),(4,pt b1 0),(6,v16),(7,vI r17.1),(78,vB (decide (a0.Most≤r29)))]) ⟨z,z,z,z,z,z,y_⟩ ?_
   refine x_seq ?_
   obtain ⟨p31,hp39,hm40⟩:=bs hm30
   refine cd_cut (fun x ks=>∀(R32:PH),∀(le33:Le R R32),∀(g34:Value),∀(g36:Aa.G),∀(hf35:Aa.ro R32 p31.2 g36),EX x .normal ks [(1,vS a1),(2,pt b0 0),(4,pt b1 0),(6,g34)] R32 (Bk b0 66 (Aa.k p31.2 g36)::Bk b1 66 [vI 0,vI 0,.slice none 0 0,vI 0]::OwS true 9 1 eS g34 p31.1::F)) ?_ fun K41 =>?_
   ·intro R32 le33 g34 g36 hf35
    refine x_seq (csr ?_)
    refine r_u (o_ldn 0 (Aa.k p31.2 g36) ag66 z z z z) (r_mv z ?_)
    obtain ⟨r42,hr42,hm49⟩:=bs hm40
    refine r_sw (s_w (o_call ca175 z (AB.ok _ (⟨(⟨(g36.R.L.1,[])⟩:Ab.G)⟩:Aa.G) hf35 1 a1 _ hr42))) ?_
    rintro _ R47 _ le48 ⟨v43,rfl,hf44,rfl⟩
    refine r_mv z ?_
    refine rl_st (fun _ h=>mv1 h) ?_
    refine r_u0 (o_stn ag66 z z z (a_ z (a_ z (a_ (RoN.one hf44) (a_ z al_n)))) z z z) (r_as z (r_nil (x_seq (c_ret ?_))))
    obtain rfl:=si hm49
    exact x_d2 z (rv_n 0 (Aa.k r42 v43) ag66 z z z z) (rv_t z) (pk 3 [2]) (Le.trans le33 le48) ⟨_,z,(⟨(⟨(v43.R.L.1,[])⟩:Ab.G)⟩:Aa.G),g34,z,hf44,z⟩
   refine c_if (b:=decide (a0.Most≤r29)) z (fun h50 =>?_) fun h50 =>?_
   rotate_left
   ·have hm51:=iff_ hp39 h50
    refine c_skip ?_
    obtain rfl:=si hm51
    exact x_sub (K41 _ le_ v16 (⟨(⟨(g0_.R.L.1,[])⟩:Ab.G)⟩:Aa.G) h0) ⟨z,z,z,z,y_⟩ id_
   have hm51:=ift hp39 h50
   refine c_reg ?_
   refine r_u (o_ldn 0 [vI a0.Most,vI p25,g0_.R.L.1,vI a0.R.Places] ag66 z z z z) (r_mv z (r_bin z z (bI_eq _ 3) ?_))
   obtain ⟨r52,hr52,hm60⟩:=bs hm51
   refine r_sw (s_w (o_call ca183 z (AO.ok (⟨a0.Most,p25,a0.R⟩:Aa) (⟨(⟨(g0_.R.L.1,[])⟩:Ab.G)⟩:Aa.G) h0 _ _ hr52))) ?_
   rintro _ R58 _ le59 ⟨v53,v57,rfl,hf54,rfl⟩
   refine r_mv z (r_ext z z (r_ext z z ?_))
   refine rl_st (fun _ h=>mv1 h) ?_
   refine r_u0 (o_stn ag66 z z z (a_ z (a_ z (a_ (RoN.one hf54) (a_ z al_n)))) z z z) (r_as z (r_nil ?_))
   obtain rfl:=si hm60
   exact x_sub (K41 _ le59 v57 (⟨(⟨(v53.R.L.1,[])⟩:Ab.G)⟩:Aa.G) hf54) ⟨z,z,z,z,y_⟩ (pk 4 [0,2,1])
  refine c_if (b:=(r17.1==2)) z (fun h61 =>?_) fun h61 =>?_
  ·have hm62:=ift hp26 h61
   refine csr (r_mv z (r_mv z ?_))
   obtain ⟨h63,hm64⟩:=ig hm62
   refine r_bin z z (bI_quo _ _ h63) (r_as z (nssr (r_mv z (r_bin z z (bI_lt _ 1) (nsq ?_)))))
   obtain ⟨p65,hp66,hm67⟩:=bs hm64
   refine cd_join (E':=[(1,vS a1),(2,pt b0 0),(4,pt b1 0),(6,v16),(7,vI r17.1),(11,vI p65)]) (L':=Bk b1 66 [vI 0,vI 0,.slice none 0 0,vI 0]::Bk b0 66 (Aa.k a0 g0_)::OwS true 9 1 eS v16 []::F) ?_ fun K68 =>?_
   rotate_left
   ·refine c_if (b:=decide ((i64 (r23.tdiv r21))<1)) z (fun h75 =>?_) fun h75 =>?_
    ·have hm76:=ift hp66 h75
     refine c_reg (r_as z (r_nil ?_))
     obtain rfl:=si hm76
     exact x_sub K68 ⟨z,z,z,z,z,z,y_⟩ (pk 3 [1,2,0])
    have hm76:=iff_ hp66 h75
    refine c_skip ?_
    obtain rfl:=si hm76
    exact x_sub K68 ⟨z,z,z,z,z,z,y_⟩ (pk 3 [1,2,0])
   refine x_seq (csr (r_fa fa66_1 z (r_ld 1 sc3 z z z (r_mv z (r_bin z z (bI_add _ _) (r_fa fa66_1 z ?_))))))
   refine rl_st (fun _ h=>mv1 h) ?_
   refine r_u0 (o_st sc3 z z z z z z) (nsr (r_fa fa66_1 z (r_ld 0 sc3 z z z (r_fa fa66_0 z (r_ld 0 sc3 z z z (r_bin z z (bI_gt _ _) (nsq ?_)))))))
   obtain ⟨p69,hp70,hm71⟩:=bs hm67
   refine cd_join (E':=[(1,vS a1),(2,pt b0 0),(4,pt b1 0),(6,v16),(7,vI r17.1)]) (L':=Bk b0 66 [vI a0.Most,vI p69,g0_.R.L.1,vI a0.R.Places]::Bk b1 66 [vI 0,vI 0,.slice none 0 0,vI 0]::OwS true 9 1 eS v16 []::F) ?_ fun K72 =>?_
   ·obtain rfl:=si hm71
    exact x_sub K28 ⟨z,z,z,z,z,y_⟩ id_
   refine c_if (b:=decide (a0.Most<(i64 (a0.Target+p65)))) z (fun h73 =>?_) fun h73 =>?_
   ·have hm74:=ift hp70 h73
    refine c_reg (r_fa fa66_0 z (r_ld 0 sc3 z z z (r_fa fa66_1 z ?_)))
    refine r_u0 (o_st sc3 z z z z z z) (r_nil ?_)
    obtain rfl:=si hm74
    exact x_sub K72 ⟨z,z,z,z,z,y_⟩ id_
   have hm74:=iff_ hp70 h73
   refine c_skip ?_
   obtain rfl:=si hm74
   exact x_sub K72 ⟨z,z,z,z,z,y_⟩ id_
  have hm62:=iff_ hp26 h61
  refine csr (r_mv z (r_mv z ?_))
  obtain ⟨h77,hm78⟩:=ig hm62
  refine r_bin z z (bI_quo _ _ h77) (r_as z (nssr (r_mv z (r_bin z z (bI_lt _ 1) (nsq ?_)))))
  obtain ⟨p79,hp80,hm81⟩:=bs hm78
  refine cd_join (E':=[(1,vS a1),(2,pt b0 0),(4,pt b1 0),(6,v16),(7,vI r17.1),(12,vI p79)]) (L':=Bk b1 66 [vI 0,vI 0,.slice none 0 0,vI 0]::Bk b0 66 (Aa.k a0 g0_)::OwS true 9 1 eS v16 []::F) ?_ fun K82 =>?_
  rotate_left
  ·refine c_if (b:=decide ((i64 (r21.tdiv r23))<1)) z (fun h89 =>?_) fun h89 =>?_
   ·have hm90:=ift hp80 h89
    refine c_reg (r_as z (r_nil ?_))
    obtain rfl:=si hm90
    exact x_sub K82 ⟨z,z,z,z,z,z,y_⟩ (pk 3 [1,2,0])
   have hm90:=iff_ hp80 h89
   refine c_skip ?_
   obtain rfl:=si hm90
   exact x_sub K82 ⟨z,z,z,z,z,z,y_⟩ (pk 3 [1,2,0])
  refine x_seq (csr (r_fa fa66_1 z (r_ld 1 sc3 z z z (r_mv z (r_bin z z (bI_sub _ _) (r_fa fa66_1 z ?_))))))
  refine rl_st (fun _ h=>mv1 h) ?_
  refine r_u0 (o_st sc3 z z z z z z) (nsr (r_fa fa66_1 z (r_ld 0 sc3 z z z (r_bin z z (bI_lt _ 0) (nsq ?_)))))
  obtain ⟨p83,hp84,hm85⟩:=bs hm81
  refine cd_join (E':=[(1,vS a1),(2,pt b0 0),(4,pt b1 0),(6,v16),(7,vI r17.1)]) (L':=Bk b0 66 [vI a0.Most,vI p83,g0_.R.L.1,vI a0.R.Places]::Bk b1 66 [vI 0,vI 0,.slice none 0 0,vI 0]::OwS true 9 1 eS v16 []::F) ?_ fun K86 =>?_
  ·obtain rfl:=si hm85
   exact x_sub K28 ⟨z,z,z,z,z,y_⟩ id_
  refine c_if (b:=decide ((i64 (a0.Target-p79))<0)) z (fun h87 =>?_) fun h87 =>?_
  ·have hm88:=ift hp84 h87
   refine c_reg (r_fa fa66_1 z ?_)
   refine r_u0 (o_st sc3 z z z z z z) (r_nil ?_)
   obtain rfl:=si hm88
   exact x_sub K86 ⟨z,z,z,z,z,y_⟩ id_
  have hm88:=iff_ hp84 h87
  refine c_skip ?_
  obtain rfl:=si hm88
  exact x_sub K86 ⟨z,z,z,z,z,y_⟩ id_
 have hm20:=iff_ hm18 h19
 refine c_skip (x_seq (c_seq ?_))
 obtain ⟨r91,hr91,hm92⟩:=bs hm20
 obtain ⟨r93,hr93,hm94⟩:=bs hm92
 obtain ⟨r95,hr95,hm96⟩:=bs hm94
 obtain ⟨r97,hr97,hm98⟩:=bs hm96
 refine c_any mixed (effs:=[]) (V:=[]) ?_
 refine stn [0,1,0,7,15,0,47,0,239,495,0,1519,4079,3583,16383] [0,1,2,3,4,5,6,7,8,9,10,11,12,13,14] [] [_,_,_,_,_,_,_,_,_,_,_,_,_,_,_] (q_u z z (o_ldn 2 (Aa.k a0 g0_) ag66 z z z z) (q_u z z (o_callq ca181 z (Az.ok a0 (⟨(⟨(g0_.R.L.1,[])⟩:Ab.G)⟩:Aa.G) h0 0 _ hr91)) (q_u z z (o_ldn 2 (Aa.k a0 g0_) ag66 z z z z) (q_u z z (o_callq ca181 z (Az.ok a0 (⟨(⟨(g0_.R.L.1,[])⟩:Ab.G)⟩:Aa.G) h0 2 _ hr93)) (q_u z z (o_bin z z (bI_add _ _)) (q_u z z (o_ldn 2 (Aa.k a0 g0_) ag66 z z z z) (q_u z z (o_callq ca182 z (AS.ok a0 (⟨(⟨(g0_.R.L.1,[])⟩:Ab.G)⟩:Aa.G) h0 _ hr95)) (q_u z z (o_ldn 2 (Aa.k a0 g0_) ag66 z z z z) (q_u z z (o_callq ca181 z (Az.ok a0 (⟨(⟨(g0_.R.L.1,[])⟩:Ab.G)⟩:Aa.G) h0 2 _ hr93)) (q_u z z (o_bin z z (bI_add _ _)) (q_u z z (o_ldn 2 (Aa.k a0 g0_) ag66 z z z z) (q_u z z (o_callq ca181 z (Az.ok a0 (⟨(⟨(g0_.R.L.1,[])⟩:Ab.G)⟩:Aa.G) h0 3 _ hr97)) (q_u z z (o_bin z z (bI_add _ _)) (q_u z z (o_as z) (q_u z z (o_as z) qn))))))))))))))) en ?_
 intro _
 refine ex_sub (E':=[(1,vS a1),(2,pt b0 0),(4,pt b1 0),(6,v16),(13,vI (i64 (r91+r93))),(14,vI (i64 ((i64 (r95+r93))+r97)))]) ⟨z,z,z,z,z,z,y_⟩ ?_
 refine x_seq (c_seq (c_blk (c_seq ?_)))
 obtain ⟨p99,hp100,hm101⟩:=bs hm98
 refine cd_join (E':=[(1,vS a1),(2,pt b0 0),(4,pt b1 0),(6,v16),(13,vI (i64 (r91+r93))),(14,vI (i64 ((i64 (r95+r93))+r97))),(103,vB p99)]) (L':=Bk b1 66 [vI 0,vI 0,.slice none 0 0,vI 0]::Bk b0 66 (Aa.k a0 g0_)::OwS true 9 1 eS v16 []::F) ?_ fun K102 =>?_
 rotate_left
 ·refine cd_by (decide (a0.Most≤(i64 (r91+r93)))) (fun h222 =>?_) fun h222 =>?_
  ·have hm223:=ift hp100 h222
   refine c_any mixed (effs:=[]) (V:=[]) ?_
   refine stn mk16_ [0,1,2,3,4,5,6,7,8,9,10,11] [] [_,_,_,_,_,_,_,_,_,_,_,_] (q_mv z z z (q_fa z z fa66_0 z (q_ld z z 2 sc3 z z z (q_u z z (o_bin z z (bI_ge _ _)) (q_mv z z z (q_y z z z z h222 (o_ldn 2 (Aa.k a0 g0_) ag66 z z z z) (q_y z z z z h222 (o_callq ca181 z (Az.ok a0 (⟨(⟨(g0_.R.L.1,[])⟩:Ab.G)⟩:Aa.G) h0 0 _ hr91)) (q_y z z z z h222 (o_fa fa66_0 z) (q_y z z z z h222 (o_ld 2 sc3 z z z) (q_y z z z z h222 (o_bin z z (bI_eq _ _)) (q_u z z (o_pt z h222 z) (q_u z z (o_as z) qn)))))))))))) en ?_
   intro _
   refine ex_sub (E':=[(1,vS a1),(2,pt b0 0),(4,pt b1 0),(6,v16),(13,vI (i64 (r91+r93))),(14,vI (i64 ((i64 (r95+r93))+r97))),(103,vB (r91==a0.Most))]) ⟨z,z,z,z,z,z,z,y_⟩ ?_
   obtain rfl:=si hm223
   exact x_sub K102 ⟨z,z,z,z,z,z,z,y_⟩ (pk 3 [1,2,0])
  have hm223:=iff_ hp100 h222
  refine c_any mixed (effs:=[]) (V:=[]) ?_
  refine stn mk16_ [0,1,2,3,4,5,6,7,8,9,10,11] [] [_,_,_,_,_,_,_,_,_,_,_,_] (q_mv z z z (q_fa z z fa66_0 z (q_ld z z 2 sc3 z z z (q_u z z (o_bin z z (bI_ge _ _)) (q_mv z z z (q_n z z z z h222 (q_n z z z z h222 (q_n z z z z h222 (q_n z z z z h222 (q_n z z z z h222 (q_u z z (o_pf z h222 z) (q_u z z (o_as z) qn)))))))))))) en ?_
  intro _
  refine ex_sub (E':=[(1,vS a1),(2,pt b0 0),(4,pt b1 0),(6,v16),(13,vI (i64 (r91+r93))),(14,vI (i64 ((i64 (r95+r93))+r97))),(103,vB false)]) ⟨z,z,z,z,z,z,z,y_⟩ ?_
  obtain rfl:=si hm223
  exact x_sub K102 ⟨z,z,z,z,z,z,z,y_⟩ (pk 3 [1,2,0])
 refine x_seq ?_
 refine c_if (b:=p99) z (fun h103 =>?_) fun h103 =>?_
 ·have hm104:=ift hm101 h103
  refine csr (r_fa fa66_2 z ?_)
  refine r_u (o_ldn 1 [g0_.R.L.1,vI a0.R.Places] ag64 z z z z) ?_
  obtain ⟨r105,hr105,hm106⟩:=bs hm104
  refine r_u (o_callq ca180 z (Ay.ok _ (⟨(g0_.R.L.1,[])⟩:Ab.G) h0 0 _ hr105)) (r_mv z (r_ext z z (r_ext z z (r_as z (r_as z (nsr (r_mv z ?_)))))))
  refine r_sw (s_w (o_bsl (en:=eS) (sz:=1) (e:=9) (cs:=[vS r105.1]) (r:=[r105.1]) z kr z (by decide) z (fun _=>z))) ?_
  rintro v107 R _ _ ⟨rfl,rfl⟩
  refine r_as z (r_nil (x_seq (c_reg ?_)))
  refine r_u (o_ldn 2 (Aa.k a0 g0_) ag66 z z z z) ?_
  obtain ⟨r108,hr108,hm115⟩:=bs hm106
  refine r_sw (s_w (o_call ca184 z (AY.ok a0 (⟨(⟨(g0_.R.L.1,[])⟩:Ab.G)⟩:Aa.G) h0 0 _ hr108))) ?_
  rintro _ R113 _ le114 ⟨v109,rfl,hf110,rfl⟩
  refine rl_st (fun _ h=>mv2 h) ?_
  refine r_u0 (o_stn ag66 z z z (a_ z (a_ z (a_ (RoN.one hf110) (a_ z al_n)))) z z z) (r_nil (x_blk (x_seq (csr ?_))))
  refine r_u (o_ldn 0 (Aa.k r108 v109) ag66 z z z z) (r_mv z ?_)
  obtain ⟨r116,hr116,hm123⟩:=bs hm115
  refine r_sw (s_w (o_call ca175 z (AB.ok _ (⟨(⟨(v109.R.L.1,[])⟩:Ab.G)⟩:Aa.G) hf110 0 a1 _ hr116))) ?_
  rintro _ R121 _ le122 ⟨v117,rfl,hf118,rfl⟩
  refine r_mv z ?_
  refine rl_st (fun _ h=>mv2 h) ?_
  refine r_u0 (o_stn ag66 z z z (a_ z (a_ z (a_ (RoN.one hf118) (a_ z al_n)))) z z z) (r_as z (r_nil (x_seq (c_ret ?_))))
  obtain rfl:=si hm123
  exact x_d2 z (rv_n 0 (Aa.k r116 v117) ag66 z z z z) (rv_t z) (pk 4 [2]) (Le.trans le114 le122) ⟨_,z,(⟨(⟨(v117.R.L.1,[])⟩:Ab.G)⟩:Aa.G),v107,z,hf118,z⟩
 have hm104:=iff_ hm101 h103
 refine csr (r_mv z (r_fa fa66_0 z (r_ld 1 sc3 z z z (r_bin z z (bI_ge _ _) (r_as z (nsq ?_))))))
 refine c_if (b:=decide (a0.Most≤(i64 (r91+r93)))) z (fun h124 =>?_) fun h124 =>?_
 ·have hm125:=ift hm104 h124
  refine csr ?_
  refine r_u (o_ldn 1 (Aa.k a0 g0_) ag66 z z z z) ?_
  obtain ⟨r126,hr126,hm133⟩:=bs hm125
  refine r_sw (s_w (o_call ca184 z (AY.ok a0 (⟨(⟨(g0_.R.L.1,[])⟩:Ab.G)⟩:Aa.G) h0 2 _ hr126))) ?_
  rintro _ R131 _ le132 ⟨v127,rfl,hf128,rfl⟩
  refine rl_st (fun _ h=>mv1 h) ?_
  refine r_u0 (o_stn ag66 z z z (a_ z (a_ z (a_ (RoN.one hf128) (a_ z al_n)))) z z z) (r_nil (x_seq (c_seq ?_)))
  obtain ⟨r134,hr134,hm135⟩:=bs hm133
  refine c_any mixed (effs:=[]) (V:=[]) ?_
  refine stn [0,1,0,4,15] [0,1,2,3,4] [] [_,_,_,_,_] (q_u z z (o_ldn 0 (Aa.k r126 v127) ag66 z z z z) (q_u z z (o_callq ca182 z (AS.ok _ (⟨(⟨(v127.R.L.1,[])⟩:Ab.G)⟩:Aa.G) hf128 _ hr134)) (q_fa z z fa66_0 z (q_ld z z 0 sc3 z z z (q_u z z (o_bin z z (bI_ge _ _)) qn))))) en ?_
  intro _
  refine ex_sub (E':=[(1,vS a1),(2,pt b0 0),(4,pt b1 0),(6,v16),(136,vB (decide (r126.Most≤r134)))]) ⟨z,z,z,z,z,y_⟩ ?_
  refine x_seq ?_
  refine c_if (b:=decide (r126.Most≤r134)) z (fun h136 =>?_) fun h136 =>?_
  rotate_left
  ·have hm137:=iff_ hm135 h136
   refine c_skip (x_blk (x_seq (csr ?_)))
   refine r_u (o_ldn 0 (Aa.k r126 v127) ag66 z z z z) (r_mv z ?_)
   obtain ⟨r155,hr155,hm162⟩:=bs hm137
   refine r_sw (s_w (o_call ca175 z (AB.ok _ (⟨(⟨(v127.R.L.1,[])⟩:Ab.G)⟩:Aa.G) hf128 0 a1 _ hr155))) ?_
   rintro _ R160 _ le161 ⟨v156,rfl,hf157,rfl⟩
   refine r_mv z ?_
   refine rl_st (fun _ h=>mv1 h) ?_
   refine r_u0 (o_stn ag66 z z z (a_ z (a_ z (a_ (RoN.one hf157) (a_ z al_n)))) z z z) (r_as z (r_nil (x_seq (c_ret ?_))))
   obtain rfl:=si hm162
   exact x_d2 z (rv_n 0 (Aa.k r155 v156) ag66 z z z z) (rv_t z) (pk 3 [2]) (Le.trans le132 le161) ⟨_,z,(⟨(⟨(v156.R.L.1,[])⟩:Ab.G)⟩:Aa.G),v16,z,hf157,z⟩
  have hm137:=ift hm135 h136
  refine c_reg ?_
  refine r_u (o_ldn 0 (Aa.k r126 v127) ag66 z z z z) ?_
  obtain ⟨r138,hr138,hm146⟩:=bs hm137
  refine r_sw (s_w (o_call ca183 z (AO.ok _ (⟨(⟨(v127.R.L.1,[])⟩:Ab.G)⟩:Aa.G) hf128 _ _ hr138))) ?_
  rintro _ R144 _ le145 ⟨v139,v143,rfl,hf140,rfl⟩
  refine r_mv z (r_ext z z (r_ext z z ?_))
  refine rl_st (fun _ h=>mv1 h) ?_
  refine r_u0 (o_stn ag66 z z z (a_ z (a_ z (a_ (RoN.one hf140) (a_ z al_n)))) z z z) (r_as z (r_nil (x_blk (x_seq (csr ?_)))))
  refine r_u (o_ldn 0 (Aa.k r138.1 v139) ag66 z z z z) (r_mv z ?_)
  obtain ⟨r147,hr147,hm154⟩:=bs hm146
  refine r_sw (s_w (o_call ca175 z (AB.ok _ (⟨(⟨(v139.R.L.1,[])⟩:Ab.G)⟩:Aa.G) hf140 0 a1 _ hr147))) ?_
  rintro _ R152 _ le153 ⟨v148,rfl,hf149,rfl⟩
  refine r_mv z ?_
  refine rl_st (fun _ h=>mv2 h) ?_
  refine r_u0 (o_stn ag66 z z z (a_ z (a_ z (a_ (RoN.one hf149) (a_ z al_n)))) z z z) (r_as z (r_nil (x_seq (c_ret ?_))))
  obtain rfl:=si hm154
  exact x_d2 z (rv_n 0 (Aa.k r147 v148) ag66 z z z z) (rv_t z) (pk 4 [2]) (Le.trans (Le.trans le132 le145) le153) ⟨_,z,(⟨(⟨(v148.R.L.1,[])⟩:Ab.G)⟩:Aa.G),v143,z,hf149,z⟩
 have hm125:=iff_ hm104 h124
 refine csr (r_mv z (r_fa fa66_0 z (r_ld 1 sc3 z z z (r_u (o_bin z z (bI_ge _ _)) (r_as z (nsq ?_))))))
 refine c_if (b:=decide (a0.Most≤(i64 ((i64 (r95+r93))+r97)))) z (fun h163 =>?_) fun h163 =>?_
 rotate_left
 ·have hm164:=iff_ hm125 h163
  refine c_skip (x_blk (x_seq (csr ?_)))
  refine r_u (o_ldn 1 (Aa.k a0 g0_) ag66 z z z z) (r_mv z ?_)
  obtain ⟨r214,hr214,hm221⟩:=bs hm164
  refine r_sw (s_w (o_call ca175 z (AB.ok a0 (⟨(⟨(g0_.R.L.1,[])⟩:Ab.G)⟩:Aa.G) h0 0 a1 _ hr214))) ?_
  rintro _ R219 _ le220 ⟨v215,rfl,hf216,rfl⟩
  refine r_mv z ?_
  refine r_u0 (o_stn ag66 z z z (a_ z (a_ z (a_ (RoN.one hf216) (a_ z al_n)))) z z z) (r_as z (r_nil (x_seq (c_ret ?_))))
  obtain rfl:=si hm221
  exact x_d2 z (rv_n 0 (Aa.k r214 v215) ag66 z z z z) (rv_t z) (pk 3 [2]) le220 ⟨_,z,(⟨(⟨(v215.R.L.1,[])⟩:Ab.G)⟩:Aa.G),v16,z,hf216,z⟩
 have hm164:=ift hm125 h163
 refine c_seq (csr (r_mv z (r_fa fa66_0 z (r_ld 1 sc3 z z z (r_bin z z (bI_mul 2 _) (r_u (o_bin z z (bI_ge _ _)) (nsq ?_)))))))
 obtain ⟨p165,hp172,hm173⟩:=bs hm164
 refine cd_cut (fun x ks=>∀(R166:PH),∀(le167:Le R R166),∀(g169:Aa.G),∀(hf168:Aa.ro R166 p165 g169),EX x .normal ks [(1,vS a1),(2,pt b0 0),(4,pt b1 0),(6,v16)] R166 (Bk b0 66 (Aa.k p165 g169)::Bk b1 66 [vI 0,vI 0,.slice none 0 0,vI 0]::OwS true 9 1 eS v16 []::F)) ?_ fun K174 =>?_
 rotate_left
 ·refine c_if (b:=decide ((i64 (2*a0.Most))≤(i64 ((i64 (r95+r93))+r97)))) z (fun h204 =>?_) fun h204 =>?_
  ·have hm205:=ift hp172 h204
   refine c_reg ?_
   refine r_u (o_ldn 1 (Aa.k a0 g0_) ag66 z z z z) ?_
   obtain ⟨r206,hr206,hm213⟩:=bs hm205
   refine r_sw (s_w (o_call ca184 z (AY.ok a0 (⟨(⟨(g0_.R.L.1,[])⟩:Ab.G)⟩:Aa.G) h0 3 _ hr206))) ?_
   rintro _ R211 _ le212 ⟨v207,rfl,hf208,rfl⟩
   refine rl_st (fun _ h=>mv1 h) ?_
   refine r_u0 (o_stn ag66 z z z (a_ z (a_ z (a_ (RoN.one hf208) (a_ z al_n)))) z z z) (r_nil ?_)
   obtain rfl:=si hm213
   exact x_sub (K174 _ le212 (⟨(⟨(v207.R.L.1,[])⟩:Ab.G)⟩:Aa.G) hf208) ⟨z,z,z,z,y_⟩ id_
  have hm205:=iff_ hp172 h204
  refine c_skip ?_
  obtain rfl:=si hm205
  exact x_sub (K174 _ le_ (⟨(⟨(g0_.R.L.1,[])⟩:Ab.G)⟩:Aa.G) h0) ⟨z,z,z,z,y_⟩ (pk 3 [1,0,2])
 intro R166 le167 g169 hf168
 refine x_seq (c_seq ?_)
 obtain ⟨r175,hr175,hm176⟩:=bs hm173
 refine c_any mixed (effs:=[]) (V:=[]) ?_
 refine stn [0,1,0,4,15] [0,1,2,3,4] [] [_,_,_,_,_] (q_u z z (o_ldn 0 (Aa.k p165 g169) ag66 z z z z) (q_u z z (o_callq ca182 z (AS.ok _ (⟨(⟨(g169.R.L.1,[])⟩:Ab.G)⟩:Aa.G) hf168 _ hr175)) (q_fa z z fa66_0 z (q_ld z z 0 sc3 z z z (q_u z z (o_bin z z (bI_ge _ _)) qn))))) en ?_
 intro _
 refine ex_sub (E':=[(1,vS a1),(2,pt b0 0),(4,pt b1 0),(6,v16),(158,vB (decide (p165.Most≤r175)))]) ⟨z,z,z,z,z,y_⟩ ?_
 refine x_seq ?_
 refine c_if (b:=decide (p165.Most≤r175)) z (fun h177 =>?_) fun h177 =>?_
 rotate_left
 ·have hm178:=iff_ hm176 h177
  refine c_skip (x_blk (x_seq (csr ?_)))
  refine r_u (o_ldn 0 (Aa.k p165 g169) ag66 z z z z) (r_mv z ?_)
  obtain ⟨r196,hr196,hm203⟩:=bs hm178
  refine r_sw (s_w (o_call ca175 z (AB.ok _ (⟨(⟨(g169.R.L.1,[])⟩:Ab.G)⟩:Aa.G) hf168 0 a1 _ hr196))) ?_
  rintro _ R201 _ le202 ⟨v197,rfl,hf198,rfl⟩
  refine r_mv z ?_
  refine rl_st (fun _ h=>mv1 h) ?_
  refine r_u0 (o_stn ag66 z z z (a_ z (a_ z (a_ (RoN.one hf198) (a_ z al_n)))) z z z) (r_as z (r_nil (x_seq (c_ret ?_))))
  obtain rfl:=si hm203
  exact x_d2 z (rv_n 0 (Aa.k r196 v197) ag66 z z z z) (rv_t z) (pk 3 [2]) (Le.trans le167 le202) ⟨_,z,(⟨(⟨(v197.R.L.1,[])⟩:Ab.G)⟩:Aa.G),v16,z,hf198,z⟩
 have hm178:=ift hm176 h177
 refine c_reg ?_
 refine r_u (o_ldn 0 (Aa.k p165 g169) ag66 z z z z) ?_
 obtain ⟨r179,hr179,hm187⟩:=bs hm178
 refine r_sw (s_w (o_call ca183 z (AO.ok _ (⟨(⟨(g169.R.L.1,[])⟩:Ab.G)⟩:Aa.G) hf168 _ _ hr179))) ?_
 rintro _ R185 _ le186 ⟨v180,v184,rfl,hf181,rfl⟩
 refine r_mv z (r_ext z z (r_ext z z ?_))
 refine rl_st (fun _ h=>mv1 h) ?_
 refine r_u0 (o_stn ag66 z z z (a_ z (a_ z (a_ (RoN.one hf181) (a_ z al_n)))) z z z) (r_as z (r_nil (x_blk (x_seq (csr ?_)))))
 refine r_u (o_ldn 0 (Aa.k r179.1 v180) ag66 z z z z) (r_mv z ?_)
 obtain ⟨r188,hr188,hm195⟩:=bs hm187
 refine r_sw (s_w (o_call ca175 z (AB.ok _ (⟨(⟨(v180.R.L.1,[])⟩:Ab.G)⟩:Aa.G) hf181 0 a1 _ hr188))) ?_
 rintro _ R193 _ le194 ⟨v189,rfl,hf190,rfl⟩
 refine r_mv z ?_
 refine rl_st (fun _ h=>mv2 h) ?_
 refine r_u0 (o_stn ag66 z z z (a_ z (a_ z (a_ (RoN.one hf190) (a_ z al_n)))) z z z) (r_as z (r_nil (x_seq (c_ret ?_))))
 obtain rfl:=si hm195
 exact x_d2 z (rv_n 0 (Aa.k r188 v189) ag66 z z z z) (rv_t z) (pk 4 [2]) (Le.trans (Le.trans le167 le186) le194) ⟨_,z,(⟨(⟨(v189.R.L.1,[])⟩:Ab.G)⟩:Aa.G),v184,z,hf190,z⟩
def C6(a0:Ae):Option Int :=
 (BT a0.R).bind fun r1=>some r1
theorem C6.ok{G R F}(a0:Ae)(g0_:Ae.G)(h0:Ae.ro R a0 g0_)(r:Int)(hm:C6 a0=some r):CO prog 185 [.agg (Ae.k a0 g0_).toArray] G R (F)
  (Ret fun u R' L'=>u=vI r∧R'=R∧L'=F):=by
 unfold C6 at hm
 refine co_ofN (N:=6) func185 z z ?_
 refine csr ?_
 refine r_new (o_bx (Ae.k a0 g0_) z z) fun b0 =>?_
 refine r_as z (nsr (r_fa fa72_2 z ?_))
 refine r_u (o_ldn 0 [g0_.R.L.1,vI a0.R.Places] ag64 z z z z) ?_
 obtain ⟨r1,hr1,hm2⟩:=bs hm
 refine r_u (o_callq ca230 z (BT.ok _ (⟨(g0_.R.L.1,[])⟩:Ab.G) h0.2 _ hr1)) (r_as z (r_nil (x_seq (c_ret ?_))))
 obtain rfl:=si hm2
 refine ex_st (pk 1 []) ?_
 exact x_r1 z (rv_t z) le_ ⟨_,z,z,z,z⟩
def A4(a0:Ad)(a1:Str):Option Int :=
 (Bb a0 a1).bind fun r1=>(AX a0 a1 4).bind fun r3=>(gi a0.Door r3).bind fun x5=>if x5 then some (i64 (r1+1)) else some r1
theorem A4.ok{G R F}(a0:Ad)(g0_:Ad.G)(h0:Ad.ro R a0 g0_)(a1:Str)(r:Int)(hm:A4 a0 a1=some r):CO prog 186 [.agg (Ad.k a0 g0_).toArray,vS a1] G R (F)
  (Ret fun u R' L'=>u=vI r∧R'=R∧L'=F):=by
 unfold A4 at hm
 refine co_ofN (N:=19) func186 z z ?_
 refine csr ?_
 refine r_new (o_bx (Ad.k a0 g0_) z z) fun b0 =>?_
 refine r_as z (nsr ?_)
 refine r_u (o_ldn 0 (Ad.k a0 g0_) ag70 z z z z) (r_mv z ?_)
 obtain ⟨r1,hr1,hm2⟩:=bs hm
 refine r_u (o_callq ca228 z (Bb.ok a0 (⟨(g0_.Rows.1,[]),g0_.Door⟩:Ad.G) ⟨h0.1,h0.2⟩ a1 _ hr1)) (r_as z (r_nil (x_seq (c_seq (c_seq ?_)))))
 obtain ⟨r3,hr3,hm4⟩:=bs hm2
 obtain ⟨x5,hx5,hm6⟩:=bs hm4
 obtain ⟨b5,o5,l5,T5,fr5,c5,hv5,hR5,he5,hi5⟩:=RoS.ne h0.2 hx5
 refine c_any mixed (effs:=[]) (V:=[]) ?_
 refine stn [0,1,0,0,12,31,63] [0,1,2,3,4,5,6] [] [_,_,_,_,_,_,_] (q_fa z z fa70_3 z (q_ld z z 0 sc68 z z z (q_u z z (o_ldn 0 (Ad.k a0 g0_) ag70 z z z z) (q_mv z z z (q_u z z (o_callq ca227 z (AX.ok a0 (⟨(g0_.Rows.1,[]),g0_.Door⟩:Ad.G) ⟨h0.1,h0.2⟩ a1 4 _ hr3)) (q_u z z (o_ix (sz:=1) underlying68 kr z z hv5 hi5) (q_u z z (o_ldR sc4 z hR5 (rok 0 he5 (by decide))) qn))))))) en ?_
 intro _
 refine ex_sub (E':=[(5,vI r1),(15,vB x5)]) ⟨z,z,y_⟩ ?_
 refine x_seq ?_
 refine c_if (b:=x5) z (fun h7 =>?_) fun h7 =>?_
 ·have hm8:=ift hm6 h7
  refine c_reg (r_mv z (r_bin z z (bI_add r1 1) (r_as z (nsr (r_mv z (r_as z (r_nil (x_seq (c_ret ?_)))))))))
  obtain rfl:=si hm8
  refine ex_st (pk 1 []) ?_
  exact x_r1 z (rv_t z) le_ ⟨_,z,z,z,z⟩
 have hm8:=iff_ hm6 h7
 refine c_skip (x_seq (csr (r_mv z (r_as z (r_nil (x_seq (c_ret ?_)))))))
 obtain rfl:=si hm8
 refine ex_st (pk 1 []) ?_
 exact x_r1 z (rv_t z) le_ ⟨_,z,z,z,z⟩
def Bg(a0:Ae)(a1:Str):Option (Ae×List Str) :=
 if decide (64<(a1.length:Int)) then some (a0,[]) else (Bl a0 a1).bind fun r4=>if r4.2 then some (r4.1,[]) else (Bc a0.S a1).bind fun r18=>(AH (⟨a0.Most,r18,a0.R⟩:Ae) 0 a1).bind fun r33=>lt (Cn r33.Most) fun r44=>(gi r33.R.L 0).bind fun x46=>if decide ((x46.length:Int)≤r44.1) then some (r33,[]) else (Ay r33.R 0).bind fun r51=>(C6 r33).bind fun r53=>if decide (r53≤r33.Most) then (AH r33 1 r51.1).bind fun r57=>some (r57,[]) else (Ay r33.R 1).bind fun r68=>Option.bind (if !r68.2 then (Ay r33.R 2).bind fun r117=>some (r117.1,r117.2) else some (r68.1,r68.2)) fun p70=>Option.bind (if p70.2 then (A4 r33.S r51.1).bind fun r111=>(A4 r33.S p70.1).bind fun r113=>some (decide (r113<r111)) else some false) fun p74=>if p74 then (AG r33.R p70.1).bind fun r80=>(AH (⟨r33.Most,r33.S,r80⟩:Ae) 1 r51.1).bind fun r88=>some (r88,[p70.1]) else (AG r33.R r51.1).bind fun r100=>some ((⟨r33.Most,r33.S,r100⟩:Ae),[r51.1])
theorem Bg.ok{G R F}(a0:Ae)(g0_:Ae.G)(h0:Ae.ro R a0 g0_)(a1:Str)(r:Ae×List Str)(hm:Bg a0 a1=some r):CO prog 141 [.agg (Ae.k a0 g0_).toArray,vS a1] G R (F)
  (Ret fun u R' L'=>∃(p0:Ae.G) (p1:Value),u = .tuple #[.agg (Ae.k r.1 p0).toArray,p1]∧(Ae.ro R' r.1 p0)∧L'=OwS true 9 1 eS p1 r.2::F):=by
 unfold Bg at hm
 refine co_ofN (N:=107) func141 z z ?_
 refine csr ?_
 refine r_new (o_bx (Ae.k a0 g0_) z z) fun b0 =>?_
 refine r_new (o_al ze72) fun b1 =>?_
 refine r_as z (nssr (r_mv z (r_u (o_lenS underlying9 z) (r_bin z z (bI_gt _ 64) (nsq ?_)))))
 refine c_if (b:=decide (64<(a1.length:Int))) z (fun h2 =>?_) fun h2 =>?_
 ·have hm3:=ift hm h2
  refine csr ?_
  refine r_u (o_ldn 1 (Ae.k a0 g0_) ag72 z z z z) ?_
  refine r_u0 (o_stn ag72 z z z (a_ z (a_ z (a_ z (a_ (RoN.one h0.1.1) (a_ (RoS.one h0.1.2) (a_ z (a_ (RoN.one h0.2) (a_ z al_n)))))))) z z z) (r_as z (r_nil (x_seq (c_ret ?_))))
  refine ex_st (fun _ h=>st_nil (ap:=true) (T:=9) (sz:=1) (en:=eS) h) ?_
  obtain rfl:=si hm3
  exact x_d2 z (rv_n 1 (Ae.k a0 g0_) ag72 z z z z) (rv_t z) (pk 3 [0]) le_ ⟨_,z,(⟨(⟨(g0_.S.Rows.1,[]),g0_.S.Door⟩:Ad.G),(⟨(g0_.R.L.1,[])⟩:Ab.G)⟩:Ae.G),(.slice none 0 0),z,⟨⟨h0.1.1,h0.1.2⟩,h0.2⟩,z⟩
 have hm3:=iff_ hm h2
 refine c_skip (x_seq (c_seq (csr ?_)))
 refine r_u (o_ldn 1 (Ae.k a0 g0_) ag72 z z z z) (r_mv z ?_)
 obtain ⟨r4,hr4,hm14⟩:=bs hm3
 refine r_sw (s_w (o_call ca137 z (Bl.ok a0 (⟨(⟨(g0_.S.Rows.1,[]),g0_.S.Door⟩:Ad.G),(⟨(g0_.R.L.1,[])⟩:Ab.G)⟩:Ae.G) ⟨⟨h0.1.1,h0.1.2⟩,h0.2⟩ a1 _ hr4))) ?_
 rintro _ R12 _ le13 ⟨v5,rfl,hf6,rfl⟩
 refine r_mv z (r_ext z z (r_ext z z ?_))
 refine r_new (o_al ze72) fun b15 =>?_
 refine r_u0 (o_stn ag72 z z z (a_ z (a_ z (a_ z (a_ (RoN.one hf6.1.1) (a_ (RoS.one hf6.1.2) (a_ z (a_ (RoN.one hf6.2) (a_ z al_n)))))))) z z z) (r_as z (nsr (r_mv z (nsq ?_))))
 refine c_if (b:=r4.2) z (fun h16 =>?_) fun h16 =>?_
 ·have hm17:=ift hm14 h16
  refine csr ?_
  refine r_u (o_ldn 0 (Ae.k r4.1 v5) ag72 z z z z) ?_
  refine rl_st (fun _ h=>mv1 h) ?_
  refine r_u0 (o_stn ag72 z z z (a_ z (a_ z (a_ z (a_ (RoN.one hf6.1.1) (a_ (RoS.one hf6.1.2) (a_ z (a_ (RoN.one hf6.2) (a_ z al_n)))))))) z z z) (r_as z (r_nil (x_seq (c_ret ?_))))
  refine ex_st (fun _ h=>st_nil (ap:=true) (T:=9) (sz:=1) (en:=eS) h) ?_
  obtain rfl:=si hm17
  exact x_d2 z (rv_n 1 (Ae.k r4.1 v5) ag72 z z z z) (rv_t z) (pk 4 [0]) le13 ⟨_,z,(⟨(⟨(v5.S.Rows.1,[]),v5.S.Door⟩:Ad.G),(⟨(v5.R.L.1,[])⟩:Ab.G)⟩:Ae.G),(.slice none 0 0),z,⟨⟨hf6.1.1,hf6.1.2⟩,hf6.2⟩,z⟩
 have hm17:=iff_ hm14 h16
 refine c_skip (x_seq (csr (r_fa fa72_1 z ?_)))
 refine r_u (o_ldn 2 (Ad.k a0.S g0_.S) ag70 z z z z) (r_mv z ?_)
 obtain ⟨r18,hr18,hm24⟩:=bs hm17
 refine r_sw (s_w (o_call ca177 z (Bc.ok _ (⟨(g0_.S.Rows.1,[]),g0_.S.Door⟩:Ad.G) ⟨(RoN.mono le13 h0.1.1),(RoS.mono le13 h0.1.2)⟩ a1 _ hr18))) ?_
 rintro _ R22 _ le23 ⟨v19,rfl,_,rfl⟩
 refine r_fa fa72_1 z ?_
 refine rl_st (fun _ h=>mv5 (mv1 (mv2 h))) ?_
 refine r_u0 (ou_if (one_o 1 z) fun ho0=>ou_if (one_o 2 z) fun ho1=>o_stn ag70 z z z (a_ z (a_ z (a_ ho0 (a_ ho1 (a_ z al_n))))) z z z) ?_
 refine nsr ?_
 refine r_u (o_ldn 0 [vI a0.Most,vI r18.Wide,vW r18.Seed,v19.Rows.1,v19.Door,vI r18.Added,g0_.R.L.1,vI a0.R.Places] ag72 z z z z) (r_mv z ?_)
 refine rl_st (fun _ h=>mv2 (mv3 h)) ?_
 refine rl_ex (fun w h=>st_freezeN w h) fun R25 hf28 =>?_
 obtain ⟨le26,h27⟩:=hf28
 refine rl_st (fun _ h=>mv1 h) ?_
 refine rl_ex (fun w h=>st_freeze w h) fun R29 hf32 =>?_
 obtain ⟨le30,h31⟩:=hf32
 obtain ⟨r33,hr33,hm43⟩:=bs hm24
 refine r_sw (s_w (o_call ca178 z (AH.ok (⟨a0.Most,r18,a0.R⟩:Ae) (⟨(⟨(v19.Rows.1,[]),v19.Door⟩:Ad.G),(⟨(g0_.R.L.1,[])⟩:Ab.G)⟩:Ae.G) ⟨⟨(RoN.mono le30 h27),h31⟩,(RoN.mono (Le.trans (Le.trans (Le.trans le13 le23) le26) le30) h0.2)⟩ 0 a1 _ hr33))) ?_
 rintro _ R41 _ le42 ⟨v34,rfl,hf35,rfl⟩
 refine r_u0 (o_stn ag72 z z z (a_ z (a_ z (a_ z (a_ (RoN.one hf35.1.1) (a_ (RoS.one hf35.1.2) (a_ z (a_ (RoN.one hf35.2) (a_ z al_n)))))))) z z z) (nsr (r_fa fa72_0 z (r_ld 0 sc3 z z z ?_)))
 obtain ⟨r44,hr44,hm45⟩:=ltx hm43
 refine r_u (o_callq ca179 z (Cn.ok _ _ hr44)) (r_mv z (r_ext z z (r_ext z z (r_as z (r_as z (nssr (r_fa fa72_2 z (r_fa fa64_0 z (r_ld 0 sc62 z z z ?_)))))))))
 obtain ⟨x46,hx46,hm48⟩:=bs hm45
 obtain ⟨b46,o46,l46,T46,fr46,c46,u47,hv46,hR46,he46,hi46,hN46⟩:=RoN.ne hf35.2 hx46
 refine r_u (o_ix (sz:=1) underlying62 kr z z hv46 hi46) ?_
 refine r_u (o_ldR sc98 z hR46 (rok 0 he46 (by decide))) ?_
 refine r_u (o_lenR underlying98 z hN46) (r_mv z (r_bin z z (bI_le _ _) (nsq ?_)))
 refine c_if (b:=decide ((x46.length:Int)≤r44.1)) z (fun h49 =>?_) fun h49 =>?_
 ·have hm50:=ift hm48 h49
  refine csr ?_
  refine r_u (o_ldn 0 (Ae.k r33 v34) ag72 z z z z) ?_
  refine rl_st (fun _ h=>mv2 h) ?_
  refine r_u0 (o_stn ag72 z z z (a_ z (a_ z (a_ z (a_ (RoN.one hf35.1.1) (a_ (RoS.one hf35.1.2) (a_ z (a_ (RoN.one hf35.2) (a_ z al_n)))))))) z z z) (r_as z (r_nil (x_seq (c_ret ?_))))
  refine ex_st (fun _ h=>st_nil (ap:=true) (T:=9) (sz:=1) (en:=eS) h) ?_
  obtain rfl:=si hm50
  exact x_d2 z (rv_n 1 (Ae.k r33 v34) ag72 z z z z) (rv_t z) (pk 4 [0]) (Le.trans (Le.trans (Le.trans (Le.trans le13 le23) le26) le30) le42) ⟨_,z,(⟨(⟨(v34.S.Rows.1,[]),v34.S.Door⟩:Ad.G),(⟨(v34.R.L.1,[])⟩:Ab.G)⟩:Ae.G),(.slice none 0 0),z,⟨⟨hf35.1.1,hf35.1.2⟩,hf35.2⟩,z⟩
 have hm50:=iff_ hm48 h49
 refine c_skip (x_seq (csr (r_fa fa72_2 z ?_)))
 refine r_u (o_ldn 0 [v34.R.L.1,vI r33.R.Places] ag64 z z z z) ?_
 obtain ⟨r51,hr51,hm52⟩:=bs hm50
 refine r_u (o_callq ca180 z (Ay.ok _ (⟨(v34.R.L.1,[])⟩:Ab.G) hf35.2 0 _ hr51)) (r_mv z (r_ext z z (r_ext z z (r_as z (r_as z (r_nil (x_seq (c_seq (c_seq ?_)))))))))
 obtain ⟨r53,hr53,hm54⟩:=bs hm52
 refine c_any mixed (effs:=[]) (V:=[]) ?_
 refine stn [0,1,0,4,15] [0,1,2,3,4] [] [_,_,_,_,_] (q_u z z (o_ldn 0 (Ae.k r33 v34) ag72 z z z z) (q_u z z (o_callq ca185 z (C6.ok _ (⟨(⟨(v34.S.Rows.1,[]),v34.S.Door⟩:Ad.G),(⟨(v34.R.L.1,[])⟩:Ab.G)⟩:Ae.G) ⟨⟨hf35.1.1,hf35.1.2⟩,hf35.2⟩ _ hr53)) (q_fa z z fa72_0 z (q_ld z z 0 sc3 z z z (q_u z z (o_bin z z (bI_le _ _)) qn))))) en ?_
 intro _
 refine ex_sub (E':=[(2,pt b0 0),(4,pt b1 0),(10,vS r51.1),(59,vB (decide (r53≤r33.Most)))]) ⟨z,z,z,z,y_⟩ ?_
 refine x_seq ?_
 refine c_if (b:=decide (r53≤r33.Most)) z (fun h55 =>?_) fun h55 =>?_
 ·have hm56:=ift hm54 h55
  refine csr ?_
  refine r_u (o_ldn 0 (Ae.k r33 v34) ag72 z z z z) (r_mv z ?_)
  obtain ⟨r57,hr57,hm67⟩:=bs hm56
  refine r_sw (s_w (o_call ca178 z (AH.ok _ (⟨(⟨(v34.S.Rows.1,[]),v34.S.Door⟩:Ad.G),(⟨(v34.R.L.1,[])⟩:Ab.G)⟩:Ae.G) ⟨⟨hf35.1.1,hf35.1.2⟩,hf35.2⟩ 1 _ _ hr57))) ?_
  rintro _ R65 _ le66 ⟨v58,rfl,hf59,rfl⟩
  refine rl_st (fun _ h=>mv2 h) ?_
  refine r_u0 (o_stn ag72 z z z (a_ z (a_ z (a_ z (a_ (RoN.one hf59.1.1) (a_ (RoS.one hf59.1.2) (a_ z (a_ (RoN.one hf59.2) (a_ z al_n)))))))) z z z) (r_as z (r_nil (x_seq (c_ret ?_))))
  refine ex_st (fun _ h=>st_nil (ap:=true) (T:=9) (sz:=1) (en:=eS) h) ?_
  obtain rfl:=si hm67
  exact x_d2 z (rv_n 1 (Ae.k r57 v58) ag72 z z z z) (rv_t z) (pk 4 [0]) (Le.trans (Le.trans (Le.trans (Le.trans (Le.trans le13 le23) le26) le30) le42) le66) ⟨_,z,(⟨(⟨(v58.S.Rows.1,[]),v58.S.Door⟩:Ad.G),(⟨(v58.R.L.1,[])⟩:Ab.G)⟩:Ae.G),(.slice none 0 0),z,⟨⟨hf59.1.1,hf59.1.2⟩,hf59.2⟩,z⟩
 have hm56:=iff_ hm54 h55
 refine c_skip (x_seq (csr (r_fa fa72_2 z ?_)))
 refine r_u (o_ldn 0 [v34.R.L.1,vI r33.R.Places] ag64 z z z z) ?_
 obtain ⟨r68,hr68,hm69⟩:=bs hm56
 refine r_u (o_callq ca180 z (Ay.ok _ (⟨(v34.R.L.1,[])⟩:Ab.G) hf35.2 1 _ hr68)) (r_mv z (r_ext z z (r_ext z z (r_as z (r_as z (nssr (r_mv z ?_)))))))
 refine r_u (o_not z) (nsq ?_)
 obtain ⟨p70,hp71,hm72⟩:=bs hm69
 refine cd_join (E':=[(2,pt b0 0),(4,pt b1 0),(10,vS r51.1),(12,vS p70.1),(13,vB p70.2)]) (L':=Bk b0 72 (Ae.k r33 v34)::Bk b15 72 (Ae.k r4.1 v5)::Bk b1 72 [vI 0,vI 0,vW 0,.slice none 0 0,.slice none 0 0,vI 0,.slice none 0 0,vI 0]::F) ?_ fun K73 =>?_
 rotate_left
 ·refine c_if (b := !r68.2) z (fun h115 =>?_) fun h115 =>?_
  ·have hm116:=ift hp71 h115
   refine c_reg (r_fa fa72_2 z ?_)
   refine r_u (o_ldn 0 [v34.R.L.1,vI r33.R.Places] ag64 z z z z) ?_
   obtain ⟨r117,hr117,hm118⟩:=bs hm116
   refine r_u (o_callq ca180 z (Ay.ok _ (⟨(v34.R.L.1,[])⟩:Ab.G) hf35.2 2 _ hr117)) (r_mv z (r_ext z z (r_ext z z (r_as z (r_as z (r_nil ?_))))))
   obtain rfl:=si hm118
   exact x_sub K73 ⟨z,z,z,z,z,y_⟩ id_
  have hm116:=iff_ hp71 h115
  refine c_skip ?_
  obtain rfl:=si hm116
  exact x_sub K73 ⟨z,z,z,z,z,y_⟩ id_
 refine x_seq (c_seq (c_seq ?_))
 obtain ⟨p74,hp75,hm76⟩:=bs hm72
 refine cd_join (E':=[(2,pt b0 0),(4,pt b1 0),(10,vS r51.1),(12,vS p70.1),(88,vB p74)]) (L':=Bk b0 72 (Ae.k r33 v34)::Bk b15 72 (Ae.k r4.1 v5)::Bk b1 72 [vI 0,vI 0,vW 0,.slice none 0 0,.slice none 0 0,vI 0,.slice none 0 0,vI 0]::F) ?_ fun K77 =>?_
 rotate_left
 ·refine cd_by p70.2 (fun h109 =>?_) fun h109 =>?_
  ·have hm110:=ift hp75 h109
   obtain ⟨r111,hr111,hm112⟩:=bs hm110
   obtain ⟨r113,hr113,hm114⟩:=bs hm112
   refine c_any mixed (effs:=[]) (V:=[]) ?_
   refine stn mk47_ [0,1,2,3,4,5,6,7,8,9,10,11] [] [_,_,_,_,_,_,_,_,_,_,_,_] (q_mv z z z (q_mv z z z (q_y z z z z h109 (o_fa fa72_1 z) (q_y z z z z h109 (o_ldn 0 (Ad.k r33.S v34.S) ag70 z z z z) (q_y z z z z h109 (o_mv z) (q_y z z z z h109 (o_callq ca186 z (A4.ok _ (⟨(v34.S.Rows.1,[]),v34.S.Door⟩:Ad.G) ⟨hf35.1.1,hf35.1.2⟩ _ _ hr111)) (q_y z z z z h109 (o_fa fa72_1 z) (q_y z z z z h109 (o_ldn 0 (Ad.k r33.S v34.S) ag70 z z z z) (q_y z z z z h109 (o_mv z) (q_y z z z z h109 (o_callq ca186 z (A4.ok _ (⟨(v34.S.Rows.1,[]),v34.S.Door⟩:Ad.G) ⟨hf35.1.1,hf35.1.2⟩ _ _ hr113)) (q_y z z z z h109 (o_bin z z (bI_gt _ _)) (q_u z z (o_pt z h109 z) qn)))))))))))) en ?_
   intro _
   refine ex_sub (E':=[(2,pt b0 0),(4,pt b1 0),(10,vS r51.1),(12,vS p70.1),(88,vB (decide (r113<r111)))]) ⟨z,z,z,z,z,y_⟩ ?_
   obtain rfl:=si hm114
   exact x_sub K77 ⟨z,z,z,z,z,y_⟩ id_
  have hm110:=iff_ hp75 h109
  refine c_any mixed (effs:=[]) (V:=[]) ?_
  refine stn mk47_ [0,1,2,3,4,5,6,7,8,9,10,11] [] [_,_,_,_,_,_,_,_,_,_,_,_] (q_mv z z z (q_mv z z z (q_n z z z z h109 (q_n z z z z h109 (q_n z z z z h109 (q_n z z z z h109 (q_n z z z z h109 (q_n z z z z h109 (q_n z z z z h109 (q_n z z z z h109 (q_n z z z z h109 (q_u z z (o_pf z h109 z) qn)))))))))))) en ?_
  intro _
  refine ex_sub (E':=[(2,pt b0 0),(4,pt b1 0),(10,vS r51.1),(12,vS p70.1),(88,vB false)]) ⟨z,z,z,z,z,y_⟩ ?_
  obtain rfl:=si hm110
  exact x_sub K77 ⟨z,z,z,z,z,y_⟩ id_
 refine x_seq ?_
 refine c_if (b:=p74) z (fun h78 =>?_) fun h78 =>?_
 ·have hm79:=ift hm76 h78
  refine csr (r_fa fa72_2 z ?_)
  refine r_u (o_ldn 0 [v34.R.L.1,vI r33.R.Places] ag64 z z z z) (r_mv z ?_)
  obtain ⟨r80,hr80,hm83⟩:=bs hm79
  refine r_sw (s_w (o_call ca174 z (AG.ok _ (⟨(v34.R.L.1,[])⟩:Ab.G) hf35.2 _ _ hr80))) ?_
  rintro _ R41 _ _ ⟨v81,rfl,rfl,rfl⟩
  refine r_fa fa72_2 z ?_
  refine rl_st (fun _ h=>mv2 h) ?_
  refine r_u0 (ou_if (one_o 1 z) fun ho0=>o_stn ag64 z z z (a_ ho0 (a_ z al_n)) z z z) ?_
  refine nsr ?_
  refine r_u (o_ldn 0 [vI r33.Most,vI r33.S.Wide,vW r33.S.Seed,v34.S.Rows.1,v34.S.Door,vI r33.S.Added,v81.L.1,vI r80.Places] ag72 z z z z) (r_mv z ?_)
  refine rl_st (fun _ h=>mv2 (mv2 h)) ?_
  refine rl_ex (fun w h=>st_freezeN w h) fun R84 hf87 =>?_
  obtain ⟨le85,h86⟩:=hf87
  obtain ⟨r88,hr88,hm98⟩:=bs hm83
  refine r_sw (s_w (o_call ca178 z (AH.ok (⟨r33.Most,r33.S,r80⟩:Ae) (⟨(⟨(v34.S.Rows.1,[]),v34.S.Door⟩:Ad.G),(⟨(v81.L.1,[])⟩:Ab.G)⟩:Ae.G) ⟨⟨(RoN.mono le85 hf35.1.1),(RoS.mono le85 hf35.1.2)⟩,h86⟩ 1 _ _ hr88))) ?_
  rintro _ R96 _ le97 ⟨v89,rfl,hf90,rfl⟩
  refine r_mv z ?_
  refine r_sw (s_w (o_bsl (en:=eS) (sz:=1) (e:=9) (cs:=[vS p70.1]) (r:=[p70.1]) z kr z (by decide) z (fun _=>z))) ?_
  rintro v99 R96 _ _ ⟨rfl,rfl⟩
  refine rl_st (fun _ h=>mv3 h) ?_
  refine r_u0 (o_stn ag72 z z z (a_ z (a_ z (a_ z (a_ (RoN.one hf90.1.1) (a_ (RoS.one hf90.1.2) (a_ z (a_ (RoN.one hf90.2) (a_ z al_n)))))))) z z z) (r_as z (r_nil (x_seq (c_ret ?_))))
  obtain rfl:=si hm98
  exact x_d2 z (rv_n 0 (Ae.k r88 v89) ag72 z z z z) (rv_t z) (pk 4 [1]) (Le.trans (Le.trans (Le.trans (Le.trans (Le.trans (Le.trans le13 le23) le26) le30) le42) le85) le97) ⟨_,z,(⟨(⟨(v89.S.Rows.1,[]),v89.S.Door⟩:Ad.G),(⟨(v89.R.L.1,[])⟩:Ab.G)⟩:Ae.G),v99,z,⟨⟨hf90.1.1,hf90.1.2⟩,hf90.2⟩,z⟩
 have hm79:=iff_ hm76 h78
 refine c_skip (x_seq (csr (r_fa fa72_2 z ?_)))
 refine r_u (o_ldn 0 [v34.R.L.1,vI r33.R.Places] ag64 z z z z) (r_mv z ?_)
 obtain ⟨r100,hr100,hm103⟩:=bs hm79
 refine r_sw (s_w (o_call ca174 z (AG.ok _ (⟨(v34.R.L.1,[])⟩:Ab.G) hf35.2 _ _ hr100))) ?_
 rintro _ R41 _ _ ⟨v101,rfl,rfl,rfl⟩
 refine r_fa fa72_2 z ?_
 refine rl_st (fun _ h=>mv2 h) ?_
 refine r_u0 (ou_if (one_o 1 z) fun ho0=>o_stn ag64 z z z (a_ ho0 (a_ z al_n)) z z z) ?_
 refine nsr ?_
 refine r_u (o_ldn 0 [vI r33.Most,vI r33.S.Wide,vW r33.S.Seed,v34.S.Rows.1,v34.S.Door,vI r33.S.Added,v101.L.1,vI r100.Places] ag72 z z z z) (r_mv z ?_)
 refine r_sw (s_w (o_bsl (en:=eS) (sz:=1) (e:=9) (cs:=[vS r51.1]) (r:=[r51.1]) z kr z (by decide) z (fun _=>z))) ?_
 rintro v104 R41 _ _ ⟨rfl,rfl⟩
 refine rl_st (fun _ h=>mv5 (mv2 h)) ?_
 refine r_u0 (ou_if (one_o 1 z) fun ho0=>o_stn ag72 z z z (a_ z (a_ z (a_ z (a_ (RoN.one hf35.1.1) (a_ (RoS.one hf35.1.2) (a_ z (a_ ho0 (a_ z al_n)))))))) z z z) ?_
 refine r_as z (r_nil (x_seq (c_ret ?_)))
 refine ex_st (fun _ h=>mv2 (mv4 h)) ?_
 refine ex_ex (fun w h=>st_freezeN w h) fun R105 hf108 =>?_
 obtain ⟨le106,h107⟩:=hf108
 obtain rfl:=si hm103
 exact x_d2 z (rv_n 0 [vI r33.Most,vI r33.S.Wide,vW r33.S.Seed,v34.S.Rows.1,v34.S.Door,vI r33.S.Added,v101.L.1,vI r100.Places] ag72 z z z z) (rv_t z) (pk 4 [1]) (Le.trans (Le.trans (Le.trans (Le.trans (Le.trans le13 le23) le26) le30) le42) le106) ⟨_,z,(⟨(⟨(v34.S.Rows.1,[]),v34.S.Door⟩:Ad.G),(⟨(v101.L.1,[])⟩:Ab.G)⟩:Ae.G),v104,z,⟨⟨(RoN.mono le106 hf35.1.1),(RoS.mono le106 hf35.1.2)⟩,h107⟩,z⟩
def BO(a0:Af)(a1:Str):Option (Af×List Str) :=
 if (a0.Kind==1) then (BU a0.A a1).bind fun r5=>some ((⟨a0.Kind,r5.1,a0.T⟩:Af),r5.2) else (Bg a0.T a1).bind fun r14=>some ((⟨a0.Kind,a0.A,r14.1⟩:Af),r14.2)
theorem BO.ok{G R F}(a0:Af)(g0_:Af.G)(h0:Af.ro R a0 g0_)(a1:Str)(r:Af×List Str)(hm:BO a0 a1=some r):CO prog 85 [.agg (Af.k a0 g0_).toArray,vS a1] G R (F)
  (Ret fun u R' L'=>∃(p0:Af.G) (p1:Value),u = .tuple #[.agg (Af.k r.1 p0).toArray,p1]∧(Af.ro R' r.1 p0)∧L'=OwS true 9 1 eS p1 r.2::F):=by
 unfold BO at hm
 refine co_ofN (N:=29) func85 z z ?_
 refine csr ?_
 refine r_new (o_bx (Af.k a0 g0_) z z) fun b0 =>?_
 refine r_new (o_al ze74) fun b1 =>?_
 refine r_as z (nsr ?_)
 refine r_sw (s_w (o_bsl (en:=eS) (sz:=1) (e:=9) (cs:=[]) (r:=[]) z kr z (by decide) z (fun _=>z))) ?_
 rintro v2 R _ _ ⟨rfl,rfl⟩
 refine r_as z (nssr (r_fa fa74_0 z (r_ld 2 sc3 z z z (r_bin z z (bI_eq _ 1) (nsq ?_)))))
 refine c_if (b:=(a0.Kind==1)) z (fun h3 =>?_) fun h3 =>?_
 ·have hm4:=ift hm h3
  refine c_reg (r_fa fa74_1 z ?_)
  refine r_u (o_ldn 2 (Aa.k a0.A g0_.A) ag66 z z z z) (r_mv z ?_)
  obtain ⟨r5,hr5,hm13⟩:=bs hm4
  refine r_sw (s_w (o_call ca140 z (BU.ok _ (⟨(⟨(g0_.A.R.L.1,[])⟩:Ab.G)⟩:Aa.G) h0.1 a1 _ hr5))) ?_
  rintro _ R11 _ le12 ⟨v6,v10,rfl,hf7,rfl⟩
  refine r_mv z (r_ext z z (r_ext z z (r_fa fa74_1 z ?_)))
  refine rl_st (fun _ h=>mv3 h) ?_
  refine r_u0 (o_stn ag66 z z z (a_ z (a_ z (a_ (RoN.one hf7) (a_ z al_n)))) z z z) (r_as z (nsr ?_))
  refine r_u (o_ldn 0 [vI a0.Kind,vI r5.1.Most,vI r5.1.Target,v6.R.L.1,vI r5.1.R.Places,vI a0.T.Most,vI a0.T.S.Wide,vW a0.T.S.Seed,g0_.T.S.Rows.1,g0_.T.S.Door,vI a0.T.S.Added,g0_.T.R.L.1,vI a0.T.R.Places] ag74 z z z z) (r_mv z ?_)
  refine rl_st (fun _ h=>mv3 h) ?_
  refine r_u0 (o_stn ag74 z z z (a_ z (a_ z (a_ z (a_ (RoN.one hf7) (a_ z (a_ z (a_ z (a_ z (a_ (RoN.one (RoN.mono le12 h0.2.1.1)) (a_ (RoS.one (RoS.mono le12 h0.2.1.2)) (a_ z (a_ (RoN.one (RoN.mono le12 h0.2.2)) (a_ z al_n))))))))))))) z z z) (r_as z (r_nil (x_seq (c_ret ?_))))
  obtain rfl:=si hm13
  exact x_d2 z (rv_n 0 [vI a0.Kind,vI r5.1.Most,vI r5.1.Target,v6.R.L.1,vI r5.1.R.Places,vI a0.T.Most,vI a0.T.S.Wide,vW a0.T.S.Seed,g0_.T.S.Rows.1,g0_.T.S.Door,vI a0.T.S.Added,g0_.T.R.L.1,vI a0.T.R.Places] ag74 z z z z) (rv_t z) (pk 4 [2]) le12 ⟨_,z,(⟨(⟨(⟨(v6.R.L.1,[])⟩:Ab.G)⟩:Aa.G),(⟨(⟨(g0_.T.S.Rows.1,[]),g0_.T.S.Door⟩:Ad.G),(⟨(g0_.T.R.L.1,[])⟩:Ab.G)⟩:Ae.G)⟩:Af.G),v10,z,⟨hf7,⟨⟨(RoN.mono le12 h0.2.1.1),(RoS.mono le12 h0.2.1.2)⟩,(RoN.mono le12 h0.2.2)⟩⟩,z⟩
 have hm4:=iff_ hm h3
 refine c_reg (r_fa fa74_2 z ?_)
 refine r_u (o_ldn 2 (Ae.k a0.T g0_.T) ag72 z z z z) (r_mv z ?_)
 obtain ⟨r14,hr14,hm25⟩:=bs hm4
 refine r_sw (s_w (o_call ca141 z (Bg.ok _ (⟨(⟨(g0_.T.S.Rows.1,[]),g0_.T.S.Door⟩:Ad.G),(⟨(g0_.T.R.L.1,[])⟩:Ab.G)⟩:Ae.G) ⟨⟨h0.2.1.1,h0.2.1.2⟩,h0.2.2⟩ a1 _ hr14))) ?_
 rintro _ R23 _ le24 ⟨v15,v22,rfl,hf16,rfl⟩
 refine r_mv z (r_ext z z (r_ext z z (r_fa fa74_2 z ?_)))
 refine rl_st (fun _ h=>mv3 h) ?_
 refine r_u0 (o_stn ag72 z z z (a_ z (a_ z (a_ z (a_ (RoN.one hf16.1.1) (a_ (RoS.one hf16.1.2) (a_ z (a_ (RoN.one hf16.2) (a_ z al_n)))))))) z z z) (r_as z (nsr ?_))
 refine r_u (o_ldn 0 [vI a0.Kind,vI a0.A.Most,vI a0.A.Target,g0_.A.R.L.1,vI a0.A.R.Places,vI r14.1.Most,vI r14.1.S.Wide,vW r14.1.S.Seed,v15.S.Rows.1,v15.S.Door,vI r14.1.S.Added,v15.R.L.1,vI r14.1.R.Places] ag74 z z z z) (r_mv z ?_)
 refine rl_st (fun _ h=>mv3 h) ?_
 refine r_u0 (o_stn ag74 z z z (a_ z (a_ z (a_ z (a_ (RoN.one (RoN.mono le24 h0.1)) (a_ z (a_ z (a_ z (a_ z (a_ (RoN.one hf16.1.1) (a_ (RoS.one hf16.1.2) (a_ z (a_ (RoN.one hf16.2) (a_ z al_n))))))))))))) z z z) (r_as z (r_nil (x_seq (c_ret ?_))))
 obtain rfl:=si hm25
 exact x_d2 z (rv_n 0 [vI a0.Kind,vI a0.A.Most,vI a0.A.Target,g0_.A.R.L.1,vI a0.A.R.Places,vI r14.1.Most,vI r14.1.S.Wide,vW r14.1.S.Seed,v15.S.Rows.1,v15.S.Door,vI r14.1.S.Added,v15.R.L.1,vI r14.1.R.Places] ag74 z z z z) (rv_t z) (pk 4 [2]) le24 ⟨_,z,(⟨(⟨(⟨(g0_.A.R.L.1,[])⟩:Ab.G)⟩:Aa.G),(⟨(⟨(v15.S.Rows.1,[]),v15.S.Door⟩:Ad.G),(⟨(v15.R.L.1,[])⟩:Ab.G)⟩:Ae.G)⟩:Af.G),v22,z,⟨(RoN.mono le24 h0.1),⟨⟨hf16.1.1,hf16.1.2⟩,hf16.2⟩⟩,z⟩
def BG(a0:List Ai):Nat→Int→Int→Option (Int)
 | 0,_,_=>none
 | k6+1,n_4,i_5=>if decide (i_5<(a0.length:Int)) then (gi a0 i_5).bind fun x11=>BG a0 k6 (i64 (n_4+(i64 ((x11.Key.length:Int)+(x11.Value.length:Int))))) (i64 (i_5+1)) else some n_4
def CB(a0:List Ai):Option Int :=
 Option.bind (BG a0 (((a0.length:Int)-0).toNat+1) 0 0) fun p0=>some p0
theorem CB.ok{G R F}(v0_:Value)(a0:List Ai)(h0_:RoS R v0_ 4 Ai.c a0)(r:Int)(hm:CB a0=some r):CO prog 86 [v0_] G R (F)
  (Ret fun u R' L'=>u=vI r∧R'=R∧L'=F):=by
 unfold CB at hm
 refine co_ofN (N:=27) func86 z z ?_
 refine csr (r_as z (nsr (r_as z (nssr (r_as z (nsq ?_))))))
 obtain ⟨p0,hp1,hm2⟩:=bs hm
 refine cd_join (E':=[(3,vI p0)]) (L':=F) ?_ fun K3 =>?_
 ·refine x_seq (csr (r_mv z (r_as z (r_nil (x_seq (c_ret ?_))))))
  obtain rfl:=si hm2
  exact x_r1 z (rv_t z) le_ ⟨_,z,z,z,z⟩
 refine c_blk ?_
 refine cd_loop (M:=fun k6 (s:Int×Int)=>BG a0 k6 s.1 s.2=some p0) (Ef:=fun (s:Int×Int)=>[(0,v0_),(3,vI s.1),(4,vI s.2)]) (Lf:=fun (s:Int×Int)=>F) (((a0.length:Int)-0).toNat+1) (0,0) hp1 ⟨z,z,z,y_⟩ (fun _ h=>h) (fun _ h=>by cases h) fun k6 s hM8 =>?_
 obtain ⟨n_4,i_5⟩:=s
 have hm7:BG a0 (k6+1) n_4 i_5=some p0:=hM8
 rw [BG] at hm7
 refine c_seq (csr (r_mv z (r_mv z ?_)))
 refine r_u (o_lenR underlying61 z h0_) (r_bin z z (bI_lt _ _) (nsq ?_))
 refine c_if (b:=decide (i_5<(a0.length:Int))) z (fun h9 =>?_) fun h9 =>?_
 ·have hm10:=ift hm7 h9
  refine c_skip (x_seq (c_seq (c_blk ?_)))
  obtain ⟨x11,hx11,hm12⟩:=bs hm10
  obtain ⟨b11,o11,l11,T11,fr11,c11,hv11,hR11,he11,hi11⟩:=RoS.ne h0_ hx11
  refine c_any mixed (effs:=[]) (V:=[]) ?_
  refine stn [0,0,0,6,14,30,62,0,0,384,896,1920,3968,8190,16383,32767] [0,1,2,3,4,5,6,7,8,9,10,11,12,13,14,15] [] [_,_,_,_,_,_,_,_,_,_,_,_,_,_,_,_] (q_mv z z z (q_mv z z z (q_mv z z z (q_u z z (o_ix (sz:=4) underlying61 kr z z hv11 hi11) (q_fa z z fa50_0 z (q_u z z (o_ldR sc9 z hR11 (rok 0 he11 (by decide))) (q_u z z (o_lenS underlying9 z) (q_mv z z z (q_mv z z z (q_u z z (o_ix (sz:=4) underlying61 kr z z hv11 hi11) (q_fa z z fa50_1 z (q_u z z (o_ldR sc9 z hR11 (rok 1 he11 (by decide))) (q_u z z (o_lenS underlying9 z) (q_u z z (o_bin z z (bI_add _ _)) (q_u z z (o_bin z z (bI_add _ _)) (q_u z z (o_as z) qn)))))))))))))))) en ?_
  intro _
  refine ex_sub (E':=[(0,v0_),(3,vI (i64 (n_4+(i64 ((x11.Key.length:Int)+(x11.Value.length:Int)))))),(4,vI i_5)]) ⟨z,z,z,y_⟩ ?_
  refine x_blk (x_seq (c_reg (r_mv z (r_bin z z (bI_add _ 1) (r_as z (r_nil ?_))))))
  exact x_lp (i64 (n_4+(i64 ((x11.Key.length:Int)+(x11.Value.length:Int)))),i64 (i_5+1)) hm12 ⟨z,z,z,y_⟩ id_
 have hm10:=iff_ hm7 h9
 refine c_exit (x_exit (ks':=_) z ?_)
 obtain rfl:=si hm10
 exact x_sub K3 ⟨z,y_⟩ id_
def CZ(a0:Aa):Option (Aa×Str×Bool) :=
 (AS a0).bind fun r2=>if (r2==0) then some (a0,[],false) else (AO a0 false).bind fun r6=>if ((r6.2.length:Int)==0) then some (a0,[],false) else (gi r6.2 0).bind fun x18=>some (r6.1,x18,true)
theorem CZ.ok{G R F}(a0:Aa)(g0_:Aa.G)(h0:Aa.ro R a0 g0_)(r:Aa×Str×Bool)(hm:CZ a0=some r):CO prog 142 [.agg (Aa.k a0 g0_).toArray] G R (F)
  (Ret fun u R' L'=>∃(p0:Aa.G),u = .tuple #[.agg (Aa.k r.1 p0).toArray,vS r.2.1,vB r.2.2]∧(Aa.ro R' r.1 p0)∧L'=F):=by
 unfold CZ at hm
 refine co_ofN (N:=24) func142 z z ?_
 refine csr ?_
 refine r_new (o_bx (Aa.k a0 g0_) z z) fun b0 =>?_
 refine r_new (o_al ze66) fun b1 =>?_
 refine r_as z (r_as z (nssr ?_))
 refine r_u (o_ldn 1 (Aa.k a0 g0_) ag66 z z z z) ?_
 obtain ⟨r2,hr2,hm3⟩:=bs hm
 refine r_u (o_callq ca182 z (AS.ok a0 (⟨(⟨(g0_.R.L.1,[])⟩:Ab.G)⟩:Aa.G) h0 _ hr2)) (r_bin z z (bI_eq r2 0) (nsq ?_))
 refine c_if (b:=(r2==0)) z (fun h4 =>?_) fun h4 =>?_
 ·have hm5:=ift hm3 h4
  refine csr ?_
  refine r_u (o_ldn 1 (Aa.k a0 g0_) ag66 z z z z) ?_
  refine r_u0 (o_stn ag66 z z z (a_ z (a_ z (a_ (RoN.one h0) (a_ z al_n)))) z z z) (r_as z (r_as z (r_nil (x_seq (c_ret ?_)))))
  obtain rfl:=si hm5
  exact x_d3 z (rv_n 0 (Aa.k a0 g0_) ag66 z z z z) (rv_t z) (rv_t z) (pk 2 []) le_ ⟨_,z,(⟨(⟨(g0_.R.L.1,[])⟩:Ab.G)⟩:Aa.G),z,h0,z⟩
 have hm5:=iff_ hm3 h4
 refine c_skip (x_seq (csr ?_))
 refine r_u (o_ldn 1 (Aa.k a0 g0_) ag66 z z z z) ?_
 obtain ⟨r6,hr6,hm14⟩:=bs hm5
 refine r_sw (s_w (o_call ca183 z (AO.ok a0 (⟨(⟨(g0_.R.L.1,[])⟩:Ab.G)⟩:Aa.G) h0 _ _ hr6))) ?_
 rintro _ R12 _ le13 ⟨v7,v11,rfl,hf8,rfl⟩
 refine r_mv z (r_ext z z (r_ext z z ?_))
 refine r_new (o_al ze66) fun b15 =>?_
 refine r_u0 (o_stn ag66 z z z (a_ z (a_ z (a_ (RoN.one hf8) (a_ z al_n)))) z z z) (r_as z (nssr (r_mv z (r_u (o_lenO 1 underlying98 z z) (r_bin z z (bI_eq _ 0) (nsq ?_))))))
 refine c_if (b:=((r6.2.length:Int)==0)) z (fun h16 =>?_) fun h16 =>?_
 ·have hm17:=ift hm14 h16
  refine csr ?_
  refine r_u (o_ldn 3 (Aa.k a0 g0_) ag66 z z z z) ?_
  refine rl_st (fun _ h=>mv2 h) ?_
  refine r_u0 (o_stn ag66 z z z (a_ z (a_ z (a_ (RoN.one (RoN.mono le13 h0)) (a_ z al_n)))) z z z) (r_as z (r_as z (r_nil (x_seq (c_ret ?_)))))
  obtain rfl:=si hm17
  exact x_d3 z (rv_n 0 (Aa.k a0 g0_) ag66 z z z z) (rv_t z) (rv_t z) (pk 4 []) le13 ⟨_,z,(⟨(⟨(g0_.R.L.1,[])⟩:Ab.G)⟩:Aa.G),z,(RoN.mono le13 h0),z⟩
 have hm17:=iff_ hm14 h16
 refine c_skip (x_seq (c_seq ?_))
 obtain ⟨x18,hx18,hm19⟩:=bs hm17
 refine c_any mixed (effs:=[4]) (V:=[]) ?_
 refine stage_st (fun _ h=>mv2 h) ?_
 refine stn [0,0,2,6,1,31,63] [0,1,2,3] [4] [_,_,_,_] (q_u z z (o_ldn 1 (Aa.k r6.1 v7) ag66 z z z z) (q_mv z z z (q_u z z (o_ixO 2 underlying98 kr z z z hx18) (q_u z z (o_ldO0 2 sc9 z z hx18 z z) qn)))) ?_ (nxt z)
 refine ec (eo_u z (s_u (o_stn ag66 z z z (a_ z (a_ z (a_ (RoN.one hf8) (a_ z al_n)))) z z z)) le_ ?_) en
 refine stx [5,6] [0,0,2,6,1,31,63] [1,2,3,5,6] [] [_,_] (q_mv z z z (q_u z z (o_ixO 2 underlying98 kr z z z hx18) (q_u z z (o_ldO0 2 sc9 z z hx18 z z) (q_u z z (o_as z) (q_u z z (o_as z) qn))))) en ?_
 intro _
 refine ex_sub (E':=[(2,pt b1 0),(3,vS x18),(4,vB true)]) ⟨z,z,z,y_⟩ ?_
 refine x_seq (c_ret ?_)
 obtain rfl:=si hm19
 exact x_d3 z (rv_n 0 (Aa.k r6.1 v7) ag66 z z z z) (rv_t z) (rv_t z) (pk 4 []) le13 ⟨_,z,(⟨(⟨(v7.R.L.1,[])⟩:Ab.G)⟩:Aa.G),z,hf8,z⟩
def Bt(a0:Ae):Nat→Int→Option (Unit⊕(Ae×Str×Bool))
 | 0,_=>none
 | k9+1,i_8=>if decide (i_8<3) then (gi [1,0,2] i_8).bind fun x14=>(Ay a0.R x14).bind fun r16=>if r16.2 then (AG a0.R r16.1).bind fun r20=>some (Sum.inr ((⟨a0.Most,a0.S,r20⟩:Ae),r16.1,true)) else Bt a0 k9 (i64 (i_8+1)) else some (Sum.inl ())
def CN(a0:Ae):Option (Ae×Str×Bool) :=
 Option.bind (Bt a0 4 0) fun (p3:Unit⊕(Ae×Str×Bool))=>(match p3 with | Sum.inl q4=>some (a0,[],false) | Sum.inr r=>some r)
theorem CN.ok{G R F}(a0:Ae)(g0_:Ae.G)(h0:Ae.ro R a0 g0_)(r:Ae×Str×Bool)(hm:CN a0=some r):CO prog 143 [.agg (Ae.k a0 g0_).toArray] G R (F)
  (Ret fun u R' L'=>∃(p0:Ae.G),u = .tuple #[.agg (Ae.k r.1 p0).toArray,vS r.2.1,vB r.2.2]∧(Ae.ro R' r.1 p0)∧L'=F):=by
 unfold CN at hm
 refine co_ofN (N:=33) func143 z z ?_
 refine csr ?_
 refine r_new (o_bx (Ae.k a0 g0_) z z) fun b0 =>?_
 refine r_new (o_al ze72) fun b1 =>?_
 refine r_as z (r_as z (nsr ?_))
 refine r_sw (s_w (o_bsl (en:=eI) (sz:=1) (e:=3) (cs:=[vI 1,vI 0,vI 2]) (r:=[1,0,2]) z kr z (by decide) z (fun _=>z))) ?_
 rintro v2 R _ _ ⟨rfl,rfl⟩
 refine r_as z (nssr (r_as z (nsq ?_)))
 obtain ⟨p3,hp5,hm6⟩:=bs hm
 refine cd_joinS (p:=p3) (Ef:=fun q4=>[(1,pt b0 0),(2,pt b1 0)]) (Lf:=fun q4=>Bk b1 72 [vI 0,vI 0,vW 0,.slice none 0 0,.slice none 0 0,vI 0,.slice none 0 0,vI 0]::Bk b0 72 (Ae.k a0 g0_)::OwS true 3 1 eI v2 [1,0,2]::F) (fun q4 hq =>?_) fun K7 =>?_
 ·subst hq
  try dsimp only at hm6
  refine x_seq (csr ?_)
  refine r_u (o_ldn 1 (Ae.k a0 g0_) ag72 z z z z) ?_
  refine r_u0 (o_stn ag72 z z z (a_ z (a_ z (a_ z (a_ (RoN.one h0.1.1) (a_ (RoS.one h0.1.2) (a_ z (a_ (RoN.one h0.2) (a_ z al_n)))))))) z z z) (r_as z (r_as z (r_nil (x_seq (c_ret ?_)))))
  obtain rfl:=si hm6
  exact x_d3 z (rv_n 0 (Ae.k a0 g0_) ag72 z z z z) (rv_t z) (rv_t z) (pk 3 []) le_ ⟨_,z,(⟨(⟨(g0_.S.Rows.1,[]),g0_.S.Door⟩:Ad.G),(⟨(g0_.R.L.1,[])⟩:Ab.G)⟩:Ae.G),z,⟨⟨h0.1.1,h0.1.2⟩,h0.2⟩,z⟩
 refine c_blk ?_
 refine cd_loop (M:=fun k9 (i_8:Int)=>Bt a0 k9 i_8=some p3) (Ef:=fun (i_8:Int)=>[(1,pt b0 0),(2,pt b1 0),(5,v2),(6,vI i_8)]) (Lf:=fun (i_8:Int)=>Bk b1 72 [vI 0,vI 0,vW 0,.slice none 0 0,.slice none 0 0,vI 0,.slice none 0 0,vI 0]::Bk b0 72 (Ae.k a0 g0_)::OwS true 3 1 eI v2 [1,0,2]::F) 4 0 hp5 ⟨z,z,z,z,y_⟩ (pk 3 [1,2,0]) (fun _ h=>by cases h) fun k9 i_8 hM11 =>?_
 have hm10:Bt a0 (k9+1) i_8=some p3:=hM11
 rw [Bt] at hm10
 refine c_seq (csr (r_mv z (r_bin z z (bI_lt _ 3) (nsq ?_))))
 refine c_if (b:=decide (i_8<3)) z (fun h12 =>?_) fun h12 =>?_
 rotate_left
 ·have hm13:=iff_ hm10 h12
  refine c_exit (x_exit (ks':=_) z ?_)
  obtain rfl:=si hm13
  exact x_sub (K7 _ z) ⟨z,z,y_⟩ id_
 have hm13:=ift hm10 h12
 refine c_skip (x_seq (c_seq (c_blk (c_seq ?_))))
 obtain ⟨x14,hx14,hm15⟩:=bs hm13
 obtain ⟨r16,hr16,hm17⟩:=bs hm15
 refine c_any mixed (effs:=[]) (V:=[]) ?_
 refine stn [0,1,0,0,12,28,63,127,255,255,511,2047] [0,1,2,3,4,5,6,7,8,9,10,11] [] [_,_,_,_,_,_,_,_,_,_,_,_] (q_fa z z fa72_2 z (q_u z z (o_ldn 1 [g0_.R.L.1,vI a0.R.Places] ag64 z z z z) (q_mv z z z (q_mv z z z (q_u z z (o_ixO 2 underlying234 kr z z z hx14) (q_u z z (o_ldO0 2 sc3 z z hx14 z z) (q_u z z (o_callq ca180 z (Ay.ok _ (⟨(g0_.R.L.1,[])⟩:Ab.G) h0.2 _ _ hr16)) (q_mv z z z (q_u z z (o_ext z z) (q_u z z (o_ext z z) (q_u z z (o_as z) (q_u z z (o_as z) qn)))))))))))) en ?_
 intro _
 refine ex_sub (E':=[(1,pt b0 0),(2,pt b1 0),(5,v2),(6,vI i_8),(7,vS r16.1),(8,vB r16.2)]) ⟨z,z,z,z,z,z,y_⟩ ?_
 refine x_seq (csr (r_mv z (nsq ?_)))
 refine c_if (b:=r16.2) z (fun h18 =>?_) fun h18 =>?_
 rotate_left
 ·have hm19:=iff_ hm17 h18
  refine c_skip (x_blk (x_seq (c_reg (r_mv z (r_bin z z (bI_add _ 1) (r_as z (r_nil ?_)))))))
  exact x_lp (i64 (i_8+1)) hm19 ⟨z,z,z,z,y_⟩ id_
 have hm19:=ift hm17 h18
 refine csr (r_fa fa72_2 z ?_)
 refine r_u (o_ldn 1 [g0_.R.L.1,vI a0.R.Places] ag64 z z z z) (r_mv z ?_)
 obtain ⟨r20,hr20,hm23⟩:=bs hm19
 refine r_sw (s_w (o_call ca174 z (AG.ok _ (⟨(g0_.R.L.1,[])⟩:Ab.G) h0.2 _ _ hr20))) ?_
 rintro _ R _ _ ⟨v21,rfl,rfl,rfl⟩
 refine r_fa fa72_2 z ?_
 refine rl_st (fun _ h=>mv3 h) ?_
 refine r_u0 (ou_if (one_o 1 z) fun ho0=>o_stn ag64 z z z (a_ ho0 (a_ z al_n)) z z z) ?_
 refine nsr ?_
 refine r_u (o_ldn 0 [vI a0.Most,vI a0.S.Wide,vW a0.S.Seed,g0_.S.Rows.1,g0_.S.Door,vI a0.S.Added,v21.L.1,vI r20.Places] ag72 z z z z) (r_mv z ?_)
 refine rl_st (fun _ h=>mv3 (mv1 h)) ?_
 refine r_u0 (ou_if (one_o 1 z) fun ho0=>o_stn ag72 z z z (a_ z (a_ z (a_ z (a_ (RoN.one h0.1.1) (a_ (RoS.one h0.1.2) (a_ z (a_ ho0 (a_ z al_n)))))))) z z z) ?_
 refine r_as z (r_as z (r_nil (x_seq (c_ret ?_))))
 obtain rfl:=si hm23
 try dsimp only at hm6
 refine ex_st (fun _ h=>mv2 (mv3 h)) ?_
 refine ex_ex (fun w h=>st_freezeN w h) fun R24 hf27 =>?_
 obtain ⟨le25,h26⟩:=hf27
 obtain rfl:=si hm6
 exact x_d3 z (rv_n 0 [vI a0.Most,vI a0.S.Wide,vW a0.S.Seed,g0_.S.Rows.1,g0_.S.Door,vI a0.S.Added,v21.L.1,vI r20.Places] ag72 z z z z) (rv_t z) (rv_t z) (pk 3 []) le25 ⟨_,z,(⟨(⟨(g0_.S.Rows.1,[]),g0_.S.Door⟩:Ad.G),(⟨(v21.L.1,[])⟩:Ab.G)⟩:Ae.G),z,⟨⟨(RoN.mono le25 h0.1.1),(RoS.mono le25 h0.1.2)⟩,h26⟩,z⟩
def Cp(a0:Af):Option (Af×Str×Bool) :=
 if (a0.Kind==1) then (CZ a0.A).bind fun r4=>some ((⟨a0.Kind,r4.1,a0.T⟩:Af),r4.2.1,r4.2.2) else (CN a0.T).bind fun r12=>some ((⟨a0.Kind,a0.A,r12.1⟩:Af),r12.2.1,r12.2.2)
theorem Cp.ok{G R F}(a0:Af)(g0_:Af.G)(h0:Af.ro R a0 g0_)(r:Af×Str×Bool)(hm:Cp a0=some r):CO prog 87 [.agg (Af.k a0 g0_).toArray] G R (F)
  (Ret fun u R' L'=>∃(p0:Af.G),u = .tuple #[.agg (Af.k r.1 p0).toArray,vS r.2.1,vB r.2.2]∧(Af.ro R' r.1 p0)∧L'=F):=by
 unfold Cp at hm
 refine co_ofN (N:=29) func87 z z ?_
 refine csr ?_
 refine r_new (o_bx (Af.k a0 g0_) z z) fun b0 =>?_
 refine r_new (o_al ze74) fun b1 =>?_
 refine r_as z (r_as z (nsr (r_as z (r_as z (nssr (r_fa fa74_0 z (r_ld 1 sc3 z z z (r_bin z z (bI_eq _ 1) (nsq ?_)))))))))
 refine c_if (b:=(a0.Kind==1)) z (fun h2 =>?_) fun h2 =>?_
 ·have hm3:=ift hm h2
  refine c_reg (r_fa fa74_1 z ?_)
  refine r_u (o_ldn 1 (Aa.k a0.A g0_.A) ag66 z z z z) ?_
  obtain ⟨r4,hr4,hm11⟩:=bs hm3
  refine r_sw (s_w (o_call ca142 z (CZ.ok _ (⟨(⟨(g0_.A.R.L.1,[])⟩:Ab.G)⟩:Aa.G) h0.1 _ hr4))) ?_
  rintro _ R9 _ le10 ⟨v5,rfl,hf6,rfl⟩
  refine r_mv z (r_ext z z (r_ext z z (r_ext z z (r_fa fa74_1 z ?_))))
  refine rl_st (fun _ h=>mv1 h) ?_
  refine r_u0 (o_stn ag66 z z z (a_ z (a_ z (a_ (RoN.one hf6) (a_ z al_n)))) z z z) (r_as z (r_as z (nsr ?_)))
  refine r_u (o_ldn 0 [vI a0.Kind,vI r4.1.Most,vI r4.1.Target,v5.R.L.1,vI r4.1.R.Places,vI a0.T.Most,vI a0.T.S.Wide,vW a0.T.S.Seed,g0_.T.S.Rows.1,g0_.T.S.Door,vI a0.T.S.Added,g0_.T.R.L.1,vI a0.T.R.Places] ag74 z z z z) (r_mv z (r_mv z ?_))
  refine rl_st (fun _ h=>mv1 h) ?_
  refine r_u0 (o_stn ag74 z z z (a_ z (a_ z (a_ z (a_ (RoN.one hf6) (a_ z (a_ z (a_ z (a_ z (a_ (RoN.one (RoN.mono le10 h0.2.1.1)) (a_ (RoS.one (RoS.mono le10 h0.2.1.2)) (a_ z (a_ (RoN.one (RoN.mono le10 h0.2.2)) (a_ z al_n))))))))))))) z z z) (r_as z (r_as z (r_nil (x_seq (c_ret ?_)))))
  obtain rfl:=si hm11
  exact x_d3 z (rv_n 0 [vI a0.Kind,vI r4.1.Most,vI r4.1.Target,v5.R.L.1,vI r4.1.R.Places,vI a0.T.Most,vI a0.T.S.Wide,vW a0.T.S.Seed,g0_.T.S.Rows.1,g0_.T.S.Door,vI a0.T.S.Added,g0_.T.R.L.1,vI a0.T.R.Places] ag74 z z z z) (rv_t z) (rv_t z) (pk 2 []) le10 ⟨_,z,(⟨(⟨(⟨(v5.R.L.1,[])⟩:Ab.G)⟩:Aa.G),(⟨(⟨(g0_.T.S.Rows.1,[]),g0_.T.S.Door⟩:Ad.G),(⟨(g0_.T.R.L.1,[])⟩:Ab.G)⟩:Ae.G)⟩:Af.G),z,⟨hf6,⟨⟨(RoN.mono le10 h0.2.1.1),(RoS.mono le10 h0.2.1.2)⟩,(RoN.mono le10 h0.2.2)⟩⟩,z⟩
 have hm3:=iff_ hm h2
 refine c_reg (r_fa fa74_2 z ?_)
 refine r_u (o_ldn 1 (Ae.k a0.T g0_.T) ag72 z z z z) ?_
 obtain ⟨r12,hr12,hm22⟩:=bs hm3
 refine r_sw (s_w (o_call ca143 z (CN.ok _ (⟨(⟨(g0_.T.S.Rows.1,[]),g0_.T.S.Door⟩:Ad.G),(⟨(g0_.T.R.L.1,[])⟩:Ab.G)⟩:Ae.G) ⟨⟨h0.2.1.1,h0.2.1.2⟩,h0.2.2⟩ _ hr12))) ?_
 rintro _ R20 _ le21 ⟨v13,rfl,hf14,rfl⟩
 refine r_mv z (r_ext z z (r_ext z z (r_ext z z (r_fa fa74_2 z ?_))))
 refine rl_st (fun _ h=>mv1 h) ?_
 refine r_u0 (o_stn ag72 z z z (a_ z (a_ z (a_ z (a_ (RoN.one hf14.1.1) (a_ (RoS.one hf14.1.2) (a_ z (a_ (RoN.one hf14.2) (a_ z al_n)))))))) z z z) (r_as z (r_as z (nsr ?_)))
 refine r_u (o_ldn 0 [vI a0.Kind,vI a0.A.Most,vI a0.A.Target,g0_.A.R.L.1,vI a0.A.R.Places,vI r12.1.Most,vI r12.1.S.Wide,vW r12.1.S.Seed,v13.S.Rows.1,v13.S.Door,vI r12.1.S.Added,v13.R.L.1,vI r12.1.R.Places] ag74 z z z z) (r_mv z (r_mv z ?_))
 refine rl_st (fun _ h=>mv1 h) ?_
 refine r_u0 (o_stn ag74 z z z (a_ z (a_ z (a_ z (a_ (RoN.one (RoN.mono le21 h0.1)) (a_ z (a_ z (a_ z (a_ z (a_ (RoN.one hf14.1.1) (a_ (RoS.one hf14.1.2) (a_ z (a_ (RoN.one hf14.2) (a_ z al_n))))))))))))) z z z) (r_as z (r_as z (r_nil (x_seq (c_ret ?_)))))
 obtain rfl:=si hm22
 exact x_d3 z (rv_n 0 [vI a0.Kind,vI a0.A.Most,vI a0.A.Target,g0_.A.R.L.1,vI a0.A.R.Places,vI r12.1.Most,vI r12.1.S.Wide,vW r12.1.S.Seed,v13.S.Rows.1,v13.S.Door,vI r12.1.S.Added,v13.R.L.1,vI r12.1.R.Places] ag74 z z z z) (rv_t z) (rv_t z) (pk 2 []) le21 ⟨_,z,(⟨(⟨(⟨(g0_.A.R.L.1,[])⟩:Ab.G)⟩:Aa.G),(⟨(⟨(v13.S.Rows.1,[]),v13.S.Door⟩:Ad.G),(⟨(v13.R.L.1,[])⟩:Ab.G)⟩:Ae.G)⟩:Af.G),z,⟨(RoN.mono le21 h0.1),⟨⟨hf14.1.1,hf14.1.2⟩,hf14.2⟩⟩,z⟩
def BI : Nat→Int→Ac→Option (Ac)
 | 0,_,_=>none
 | k137+1,i_119,c_120=>Option.bind (if decide (i_119<1001) then (CB c_120.T).bind fun r177=>some (decide (c_120.C.Bytes<r177)) else some false) fun p144=>if p144 then (Cp c_120.P).bind fun r150=>if !r150.2.2 then some c_120 else (A3 c_120.T r150.2.1).bind fun r168=>BI k137 (i64 (i_119+1)) (⟨c_120.C,r168,r150.1,c_120.Sessions,c_120.Seq,c_120.Now,c_120.Ver,c_120.Asked,c_120.Hits⟩:Ac) else some c_120
def BJ(r75:Af×List Str):Nat→Int→(List Ai)→Option (List Ai)
 | 0,_,_=>none
 | k184+1,i_179,c_180=>if decide (i_179<(r75.2.length:Int)) then (gi r75.2 i_179).bind fun x193=>(A3 c_180 x193).bind fun r195=>BJ r75 k184 (i64 (i_179+1)) r195 else some c_180
def CI(a0:Ac)(a1:AI):Option (Ac×Ap) :=
 (CW a0.T a1.Key).bind fun r4=>if ((a1.Kind==1)&&r4.2) then (Co a0.P a1.Key).bind fun r9=>some ((⟨a0.C,a0.T,r9.1,a0.Sessions,a0.Seq,a0.Now,a0.Ver,i64 (a0.Asked+1),i64 (a0.Hits+1)⟩:Ac),(⟨0,r4.1.Value,r4.1.Version⟩:Ap)) else if (a1.Kind==1) then (CA a0.P a1.Key).bind fun r26=>some ((⟨a0.C,a0.T,r26,a0.Sessions,a0.Seq,a0.Now,a0.Ver,i64 (a0.Asked+1),a0.Hits⟩:Ac),(⟨2,[],0⟩:Ap)) else if ((a1.Kind != 2) && !r4.2) then some (a0,(⟨2,[],0⟩:Ap)) else if (a1.Kind==3) then (Bs a0 a1.Key).bind fun r45=>some (r45,(⟨0,[],r4.1.Version⟩:Ap)) else if ((a1.Kind==4)&&(r4.1.Version != a1.Version)) then some (a0,(⟨121,[],r4.1.Version⟩:Ap)) else if decide (a0.C.Bytes<(i64 ((a1.Key.length:Int)+(a1.Value.length:Int)))) then some (a0,(⟨120,[],0⟩:Ap)) else Option.bind (if (decide (0<a1.TTL)&&decide (a0.Now<18446744073709551615)) then Option.bind (if decide (a1.TTL<(18446744073709551615-a0.Now)) then some (a0.Now+a1.TTL) else some 18446744073709551615) fun p200=>some p200 else some 0) fun p68=>(BX a0.T (⟨a1.Key,a1.Value,a0.Ver+1,p68⟩:Ai)).bind fun r72=>(BO a0.P a1.Key).bind fun r75=>Option.bind (BJ r75 (((r75.2.length:Int)-0).toNat+1) 0 r72) fun p92=>Option.bind (BI 1002 0 (⟨a0.C,p92,r75.1,a0.Sessions,a0.Seq,a0.Now,a0.Ver+1,a0.Asked,a0.Hits⟩:Ac)) fun p99=>some (p99,(⟨0,[],p99.Ver⟩:Ap))
theorem CI.ok{G R F}(a0:Ac)(g0_:Ac.G)(h0:Ac.ro R a0 g0_)(a1:AI)(r:Ac×Ap)(hm:CI a0 a1=some r):CO prog 47 [.agg (Ac.k a0 g0_).toArray,.agg (AI.c a1).toArray] G R (F)
  (Ret fun u R' L'=>∃(p0:Ac.G),u = .tuple #[.agg (Ac.k r.1 p0).toArray,.agg (Ap.c r.2).toArray]∧(Ac.ro R' r.1 p0)∧L'=F):=by
 unfold CI at hm
 refine co_ofN (N:=214) func47 z z ?_
 refine csr ?_
 refine r_new (o_bx (Ac.k a0 g0_) z z) fun b0 =>?_
 refine r_new (o_bx (AI.c a1) z z) fun b1 =>?_
 refine r_new (o_al ze77) fun b2 =>?_
 refine r_new (o_al ze41) fun b3 =>?_
 refine nsr (r_fa fa77_1 z (r_ld 3 sc61 z z z (r_fa fa27_1 z (r_ld 2 sc9 z z z ?_))))
 obtain ⟨r4,hr4,hm5⟩:=bs hm
 refine r_u (o_callq ca81 z (CW.ok g0_.T _ h0.1 _ _ hr4)) (r_mv z (r_ext z z (r_ext z z ?_)))
 refine r_new (o_al ze50) fun b6 =>?_
 refine r_u0 (o_stn ag50 z z z z z z z) (r_as z (r_nil (x_seq (c_seq (c_blk (csr (r_fa fa27_0 z (r_ld 3 sc3 z z z (r_bin z z (bI_eq _ 1) (r_mv z ?_))))))))))
 refine r_s (s_gt z z fun g=>o_mv z) ?_
 refine r_u (o_and z z) (r_as z (nsq ?_))
 refine c_if (b:=((a1.Kind==1)&&r4.2)) z (fun h7 =>?_) fun h7 =>?_
 ·have hm8:=ift hm5 h7
  refine csr (r_fa fa77_7 z (r_ld 4 sc2 z z z (r_bin z z (bI_add _ 1) (r_fa fa77_8 z (r_ld 4 sc2 z z z (r_bin z z (bI_add _ 1) (r_fa fa77_7 z ?_)))))))
  refine rl_st (fun _ h=>mv4 h) ?_
  refine r_u0 (o_st sc2 z z z z z z) (r_fa fa77_8 z ?_)
  refine r_u0 (o_st sc2 z z z z z z) (nsr (r_fa fa77_2 z ?_))
  refine r_u (o_ldn 0 (Af.k a0.P g0_.P) ag74 z z z z) (r_fa fa27_1 z (r_ld 4 sc9 z z z ?_))
  obtain ⟨r9,hr9,hm23⟩:=bs hm8
  refine r_sw (s_w (o_call ca82 z (Co.ok _ (⟨(⟨(⟨(g0_.P.A.R.L.1,[])⟩:Ab.G)⟩:Aa.G),(⟨(⟨(g0_.P.T.S.Rows.1,[]),g0_.P.T.S.Door⟩:Ad.G),(⟨(g0_.P.T.R.L.1,[])⟩:Ab.G)⟩:Ae.G)⟩:Af.G) ⟨h0.2.1.1,⟨⟨h0.2.1.2.1.1,h0.2.1.2.1.2⟩,h0.2.1.2.2⟩⟩ _ _ hr9))) ?_
  rintro _ R21 _ le22 ⟨v10,rfl,hf11,rfl⟩
  refine r_mv z (r_ext z z (r_ext z z (r_fa fa77_2 z ?_)))
  refine r_u0 (o_stn ag74 z z z (a_ z (a_ z (a_ z (a_ (RoN.one hf11.1) (a_ z (a_ z (a_ z (a_ z (a_ (RoN.one hf11.2.1.1) (a_ (RoS.one hf11.2.1.2) (a_ z (a_ (RoN.one hf11.2.2) (a_ z al_n))))))))))))) z z z) (r_nil (x_seq (c_seq ?_)))
  refine c_any mixed (effs:=[6,7]) (V:=[]) ?_
  refine stage_st (fun _ h=>mv3 h) ?_
  refine stn mk8_ [0,1,2,3,4,5] [6] [_,_,_,_,_,_] (q_u z z (o_ldn 1 [vI a0.C.Policy,vI a0.C.Entries,vI a0.C.Bytes,vW a0.C.Seed,g0_.T,vI r9.1.Kind,vI r9.1.A.Most,vI r9.1.A.Target,v10.A.R.L.1,vI r9.1.A.R.Places,vI r9.1.T.Most,vI r9.1.T.S.Wide,vW r9.1.T.S.Seed,v10.T.S.Rows.1,v10.T.S.Door,vI r9.1.T.S.Added,v10.T.R.L.1,vI r9.1.T.R.Places,g0_.Sessions,vW a0.Seq,vW a0.Now,vW a0.Ver,vI (i64 (a0.Asked+1)),vI (i64 (a0.Hits+1))] ag77 z z z z) (q_fa z z fa50_1 z (q_ld z z 2 sc9 z z z (q_fa z z fa50_2 z (q_ld z z 2 sc22 z z z (q_u z z (o_bld [vI 0,vS r4.1.Value,vW r4.1.Version] z kr) qn)))))) ?_ (nxt z)
  refine ec (eo_u z (s_u (o_stn ag77 z z z (a_ z (a_ z (a_ z (a_ z (a_ (RoS.one (RoS.mono le22 h0.1)) (a_ z (a_ z (a_ z (a_ (RoN.one hf11.1) (a_ z (a_ z (a_ z (a_ z (a_ (RoN.one hf11.2.1.1) (a_ (RoS.one hf11.2.1.2) (a_ z (a_ (RoN.one hf11.2.2) (a_ z (a_ (RoS.one (RoS.mono le22 h0.2.2)) (a_ z (a_ z (a_ z (a_ z (a_ z al_n)))))))))))))))))))))))) z z z)) le_ ?_) en
  refine stage_st (fun _ h=>mv3 h) ?_
  refine stage z z z z mk8_ [1,2,3,4,5] [7] z z z (q_fa z z fa50_1 z (q_ld z z 3 sc9 z z z (q_fa z z fa50_2 z (q_ld z z 3 sc22 z z z (q_u z z (o_bld [vI 0,vS r4.1.Value,vW r4.1.Version] z kr) qn))))) ?_ (nxt z)
  refine ec (eo_u z (s_u (o_stn ag41 z z z z z z z)) le_ ?_) en
  refine stage z z z z mk8_ [] [] z z z qn en ?_
  intro _
  refine ex_sub (E':=[(4,pt b2 0),(5,pt b3 0)]) ⟨z,z,y_⟩ ?_
  refine x_seq (c_ret ?_)
  obtain rfl:=si hm23
  exact x_d2 z (rv_n 1 [vI a0.C.Policy,vI a0.C.Entries,vI a0.C.Bytes,vW a0.C.Seed,g0_.T,vI r9.1.Kind,vI r9.1.A.Most,vI r9.1.A.Target,v10.A.R.L.1,vI r9.1.A.R.Places,vI r9.1.T.Most,vI r9.1.T.S.Wide,vW r9.1.T.S.Seed,v10.T.S.Rows.1,v10.T.S.Door,vI r9.1.T.S.Added,v10.T.R.L.1,vI r9.1.T.R.Places,g0_.Sessions,vW a0.Seq,vW a0.Now,vW a0.Ver,vI (i64 (a0.Asked+1)),vI (i64 (a0.Hits+1))] ag77 z z z z) (rv_n 0 [vI 0,vS r4.1.Value,vW r4.1.Version] ag41 z z z z) (pk 5 []) le22 ⟨_,z,(⟨g0_.T,(⟨(⟨(⟨(v10.A.R.L.1,[])⟩:Ab.G)⟩:Aa.G),(⟨(⟨(v10.T.S.Rows.1,[]),v10.T.S.Door⟩:Ad.G),(⟨(v10.T.R.L.1,[])⟩:Ab.G)⟩:Ae.G)⟩:Af.G),g0_.Sessions⟩:Ac.G),z,⟨(RoS.mono le22 h0.1),⟨hf11.1,⟨⟨hf11.2.1.1,hf11.2.1.2⟩,hf11.2.2⟩⟩,(RoS.mono le22 h0.2.2)⟩,z⟩
 have hm8:=iff_ hm5 h7
 refine csr (r_fa fa27_0 z (r_ld 3 sc3 z z z (r_bin z z (bI_eq _ 1) (r_as z (nsq ?_)))))
 refine c_if (b:=(a1.Kind==1)) z (fun h24 =>?_) fun h24 =>?_
 ·have hm25:=ift hm8 h24
  refine csr (r_fa fa77_7 z (r_ld 4 sc2 z z z (r_bin z z (bI_add _ 1) (r_fa fa77_7 z ?_))))
  refine rl_st (fun _ h=>mv4 h) ?_
  refine r_u0 (o_st sc2 z z z z z z) (nsr (r_fa fa77_2 z ?_))
  refine r_u (o_ldn 0 (Af.k a0.P g0_.P) ag74 z z z z) (r_fa fa27_1 z (r_ld 4 sc9 z z z ?_))
  obtain ⟨r26,hr26,hm40⟩:=bs hm25
  refine r_sw (s_w (o_call ca83 z (CA.ok _ (⟨(⟨(⟨(g0_.P.A.R.L.1,[])⟩:Ab.G)⟩:Aa.G),(⟨(⟨(g0_.P.T.S.Rows.1,[]),g0_.P.T.S.Door⟩:Ad.G),(⟨(g0_.P.T.R.L.1,[])⟩:Ab.G)⟩:Ae.G)⟩:Af.G) ⟨h0.2.1.1,⟨⟨h0.2.1.2.1.1,h0.2.1.2.1.2⟩,h0.2.1.2.2⟩⟩ _ _ hr26))) ?_
  rintro _ R38 _ le39 ⟨v27,rfl,hf28,rfl⟩
  refine r_fa fa77_2 z ?_
  refine r_u0 (o_stn ag74 z z z (a_ z (a_ z (a_ z (a_ (RoN.one hf28.1) (a_ z (a_ z (a_ z (a_ z (a_ (RoN.one hf28.2.1.1) (a_ (RoS.one hf28.2.1.2) (a_ z (a_ (RoN.one hf28.2.2) (a_ z al_n))))))))))))) z z z) (nsr ?_)
  refine r_u (o_ldn 0 [vI a0.C.Policy,vI a0.C.Entries,vI a0.C.Bytes,vW a0.C.Seed,g0_.T,vI r26.Kind,vI r26.A.Most,vI r26.A.Target,v27.A.R.L.1,vI r26.A.R.Places,vI r26.T.Most,vI r26.T.S.Wide,vW r26.T.S.Seed,v27.T.S.Rows.1,v27.T.S.Door,vI r26.T.S.Added,v27.T.R.L.1,vI r26.T.R.Places,g0_.Sessions,vW a0.Seq,vW a0.Now,vW a0.Ver,vI (i64 (a0.Asked+1)),vI a0.Hits] ag77 z z z z) ?_
  refine r_u (o_bld [vI 2,vS [],vW 0] z kr) ?_
  refine rl_st (fun _ h=>mv3 h) ?_
  refine r_u0 (o_stn ag77 z z z (a_ z (a_ z (a_ z (a_ z (a_ (RoS.one (RoS.mono le39 h0.1)) (a_ z (a_ z (a_ z (a_ (RoN.one hf28.1) (a_ z (a_ z (a_ z (a_ z (a_ (RoN.one hf28.2.1.1) (a_ (RoS.one hf28.2.1.2) (a_ z (a_ (RoN.one hf28.2.2) (a_ z (a_ (RoS.one (RoS.mono le39 h0.2.2)) (a_ z (a_ z (a_ z (a_ z (a_ z al_n)))))))))))))))))))))))) z z z) ?_
  refine rl_st (fun _ h=>mv3 h) ?_
  refine r_u0 (o_stn ag41 z z z z z z z) (r_nil (x_seq (c_ret ?_)))
  obtain rfl:=si hm40
  exact x_d2 z (rv_n 1 [vI a0.C.Policy,vI a0.C.Entries,vI a0.C.Bytes,vW a0.C.Seed,g0_.T,vI r26.Kind,vI r26.A.Most,vI r26.A.Target,v27.A.R.L.1,vI r26.A.R.Places,vI r26.T.Most,vI r26.T.S.Wide,vW r26.T.S.Seed,v27.T.S.Rows.1,v27.T.S.Door,vI r26.T.S.Added,v27.T.R.L.1,vI r26.T.R.Places,g0_.Sessions,vW a0.Seq,vW a0.Now,vW a0.Ver,vI (i64 (a0.Asked+1)),vI a0.Hits] ag77 z z z z) (rv_n 0 [vI 2,vS [],vW 0] ag41 z z z z) (pk 5 []) le39 ⟨_,z,(⟨g0_.T,(⟨(⟨(⟨(v27.A.R.L.1,[])⟩:Ab.G)⟩:Aa.G),(⟨(⟨(v27.T.S.Rows.1,[]),v27.T.S.Door⟩:Ad.G),(⟨(v27.T.R.L.1,[])⟩:Ab.G)⟩:Ae.G)⟩:Af.G),g0_.Sessions⟩:Ac.G),z,⟨(RoS.mono le39 h0.1),⟨hf28.1,⟨⟨hf28.2.1.1,hf28.2.1.2⟩,hf28.2.2⟩⟩,(RoS.mono le39 h0.2.2)⟩,z⟩
 have hm25:=iff_ hm8 h24
 refine csr (r_fa fa27_0 z (r_ld 3 sc3 z z z (r_bin z z (bI_ne _ 2) (r_mv z ?_))))
 refine r_s (s_gt z z fun g=>o_mv z) ?_
 refine r_s (s_gt z z fun g=>o_not (evg z g)) ?_
 refine r_u (o_and z z) (r_as z (nsq ?_))
 refine c_if (b:=((a1.Kind != 2) && !r4.2)) z (fun h41 =>?_) fun h41 =>?_
 ·have hm42:=ift hm25 h41
  refine csr ?_
  refine r_u (o_ldn 4 (Ac.k a0 g0_) ag77 z z z z) ?_
  refine r_u (o_bld [vI 2,vS [],vW 0] z kr) ?_
  refine rl_st (fun _ h=>mv2 h) ?_
  refine r_u0 (o_stn ag77 z z z (a_ z (a_ z (a_ z (a_ z (a_ (RoS.one h0.1) (a_ z (a_ z (a_ z (a_ (RoN.one h0.2.1.1) (a_ z (a_ z (a_ z (a_ z (a_ (RoN.one h0.2.1.2.1.1) (a_ (RoS.one h0.2.1.2.1.2) (a_ z (a_ (RoN.one h0.2.1.2.2) (a_ z (a_ (RoS.one h0.2.2) (a_ z (a_ z (a_ z (a_ z (a_ z al_n)))))))))))))))))))))))) z z z) ?_
  refine rl_st (fun _ h=>mv2 h) ?_
  refine r_u0 (o_stn ag41 z z z z z z z) (r_nil (x_seq (c_ret ?_)))
  obtain rfl:=si hm42
  exact x_d2 z (rv_n 1 (Ac.k a0 g0_) ag77 z z z z) (rv_n 0 [vI 2,vS [],vW 0] ag41 z z z z) (pk 5 []) le_ ⟨_,z,(⟨g0_.T,(⟨(⟨(⟨(g0_.P.A.R.L.1,[])⟩:Ab.G)⟩:Aa.G),(⟨(⟨(g0_.P.T.S.Rows.1,[]),g0_.P.T.S.Door⟩:Ad.G),(⟨(g0_.P.T.R.L.1,[])⟩:Ab.G)⟩:Ae.G)⟩:Af.G),g0_.Sessions⟩:Ac.G),z,⟨h0.1,⟨h0.2.1.1,⟨⟨h0.2.1.2.1.1,h0.2.1.2.1.2⟩,h0.2.1.2.2⟩⟩,h0.2.2⟩,z⟩
 have hm42:=iff_ hm25 h41
 refine csr (r_fa fa27_0 z (r_ld 3 sc3 z z z (r_bin z z (bI_eq _ 3) (r_as z (nsq ?_)))))
 refine c_if (b:=(a1.Kind==3)) z (fun h43 =>?_) fun h43 =>?_
 ·have hm44:=ift hm42 h43
  refine c_seq ?_
  obtain ⟨r45,hr45,hm62⟩:=bs hm44
  refine c_any mixed (effs:=[3,7,8]) (V:=[]) ?_
  refine stn mk15_ [0,1,2,4,5,6] [3] [_,_,_,_,_,_] (q_u z z (o_ldn 4 (Ac.k a0 g0_) ag77 z z z z) (q_fa z z fa27_1 z (q_ld z z 3 sc9 z z z (q_fa z z fa50_2 z (q_ld z z 0 sc22 z z z (q_u z z (o_bld [vI 0,vS [],vW r4.1.Version] z kr) qn)))))) ?_ (nxt z)
  refine ec (eo_w z (s_w (o_call ca45 z (Bs.ok a0 (⟨g0_.T,(⟨(⟨(⟨(g0_.P.A.R.L.1,[])⟩:Ab.G)⟩:Aa.G),(⟨(⟨(g0_.P.T.S.Rows.1,[]),g0_.P.T.S.Door⟩:Ad.G),(⟨(g0_.P.T.R.L.1,[])⟩:Ab.G)⟩:Ae.G)⟩:Af.G),g0_.Sessions⟩:Ac.G) ⟨h0.1,⟨h0.2.1.1,⟨⟨h0.2.1.2.1.1,h0.2.1.2.1.2⟩,h0.2.1.2.2⟩⟩,h0.2.2⟩ _ _ hr45))) ?_) en
  rintro _ R60 _ le61 ⟨v46,rfl,hf47,rfl⟩
  refine stage_st (fun _ h=>mv2 h) ?_
  refine stage z z z z mk15_ [4,5,6] [7] z z z (q_fa z z fa50_2 z (q_ld z z 1 sc22 z z z (q_u z z (o_bld [vI 0,vS [],vW r4.1.Version] z kr) qn))) ?_ (nxt z)
  refine ec (eo_u z (s_u (o_stn ag77 z z z (a_ z (a_ z (a_ z (a_ z (a_ (RoS.one hf47.1) (a_ z (a_ z (a_ z (a_ (RoN.one hf47.2.1.1) (a_ z (a_ z (a_ z (a_ z (a_ (RoN.one hf47.2.1.2.1.1) (a_ (RoS.one hf47.2.1.2.1.2) (a_ z (a_ (RoN.one hf47.2.1.2.2) (a_ z (a_ (RoS.one hf47.2.2) (a_ z (a_ z (a_ z (a_ z (a_ z al_n)))))))))))))))))))))))) z z z)) le_ ?_) en
  refine stage_st (fun _ h=>mv2 h) ?_
  refine stage z z z z mk15_ [4,5,6] [8] z z z (q_fa z z fa50_2 z (q_ld z z 2 sc22 z z z (q_u z z (o_bld [vI 0,vS [],vW r4.1.Version] z kr) qn))) ?_ (nxt z)
  refine ec (eo_u z (s_u (o_stn ag41 z z z z z z z)) le_ ?_) en
  refine stage z z z z mk15_ [] [] z z z qn en ?_
  intro _
  refine ex_sub (E':=[(4,pt b2 0),(5,pt b3 0)]) ⟨z,z,y_⟩ ?_
  refine x_seq (c_ret ?_)
  obtain rfl:=si hm62
  exact x_d2 z (rv_n 1 (Ac.k r45 v46) ag77 z z z z) (rv_n 0 [vI 0,vS [],vW r4.1.Version] ag41 z z z z) (pk 5 []) le61 ⟨_,z,(⟨v46.T,(⟨(⟨(⟨(v46.P.A.R.L.1,[])⟩:Ab.G)⟩:Aa.G),(⟨(⟨(v46.P.T.S.Rows.1,[]),v46.P.T.S.Door⟩:Ad.G),(⟨(v46.P.T.R.L.1,[])⟩:Ab.G)⟩:Ae.G)⟩:Af.G),v46.Sessions⟩:Ac.G),z,⟨hf47.1,⟨hf47.2.1.1,⟨⟨hf47.2.1.2.1.1,hf47.2.1.2.1.2⟩,hf47.2.1.2.2⟩⟩,hf47.2.2⟩,z⟩
 have hm44:=iff_ hm42 h43
 refine csr (r_fa fa27_0 z (r_ld 3 sc3 z z z (r_bin z z (bI_eq _ 4) (r_mv z ?_))))
 refine r_s (s_gt z z fun g=>o_fa fa50_2 z) ?_
 refine r_s (s_gt z z fun g=>o_ld 0 sc22 (evg z g) z z) ?_
 refine r_s (s_gt z z fun g=>o_fa fa27_4 z) ?_
 refine r_s (s_gt z z fun g=>o_ld 3 sc22 (evg z g) z z) ?_
 refine r_s (s_gt z z fun g=>o_bin (evg z g) (evg z g) (bW_ne _ _)) ?_
 refine r_u (o_and z z) (r_as z (nsq ?_))
 refine c_if (b:=((a1.Kind==4)&&(r4.1.Version != a1.Version))) z (fun h63 =>?_) fun h63 =>?_
 ·have hm64:=ift hm44 h63
  refine c_seq ?_
  refine c_any mixed (effs:=[4,5]) (V:=[]) ?_
  refine stage_st (fun _ h=>mv2 h) ?_
  refine stn [0,0,2,6,1,31] [0,1,2,3] [4] [_,_,_,_] (q_u z z (o_ldn 4 (Ac.k a0 g0_) ag77 z z z z) (q_fa z z fa50_2 z (q_ld z z 1 sc22 z z z (q_u z z (o_bld [vI 121,vS [],vW r4.1.Version] z kr) qn)))) ?_ (nxt z)
  refine ec (eo_u z (s_u (o_stn ag77 z z z (a_ z (a_ z (a_ z (a_ z (a_ (RoS.one h0.1) (a_ z (a_ z (a_ z (a_ (RoN.one h0.2.1.1) (a_ z (a_ z (a_ z (a_ z (a_ (RoN.one h0.2.1.2.1.1) (a_ (RoS.one h0.2.1.2.1.2) (a_ z (a_ (RoN.one h0.2.1.2.2) (a_ z (a_ (RoS.one h0.2.2) (a_ z (a_ z (a_ z (a_ z (a_ z al_n)))))))))))))))))))))))) z z z)) le_ ?_) en
  refine stage_st (fun _ h=>mv2 h) ?_
  refine stage z z z z [0,0,2,6,1,31] [1,2,3] [5] z z z (q_fa z z fa50_2 z (q_ld z z 2 sc22 z z z (q_u z z (o_bld [vI 121,vS [],vW r4.1.Version] z kr) qn))) ?_ (nxt z)
  refine ec (eo_u z (s_u (o_stn ag41 z z z z z z z)) le_ ?_) en
  refine stage z z z z [0,0,2,6,1,31] [] [] z z z qn en ?_
  intro _
  refine ex_sub (E':=[(4,pt b2 0),(5,pt b3 0)]) ⟨z,z,y_⟩ ?_
  refine x_seq (c_ret ?_)
  obtain rfl:=si hm64
  exact x_d2 z (rv_n 1 (Ac.k a0 g0_) ag77 z z z z) (rv_n 0 [vI 121,vS [],vW r4.1.Version] ag41 z z z z) (pk 5 []) le_ ⟨_,z,(⟨g0_.T,(⟨(⟨(⟨(g0_.P.A.R.L.1,[])⟩:Ab.G)⟩:Aa.G),(⟨(⟨(g0_.P.T.S.Rows.1,[]),g0_.P.T.S.Door⟩:Ad.G),(⟨(g0_.P.T.R.L.1,[])⟩:Ab.G)⟩:Ae.G)⟩:Af.G),g0_.Sessions⟩:Ac.G),z,⟨h0.1,⟨h0.2.1.1,⟨⟨h0.2.1.2.1.1,h0.2.1.2.1.2⟩,h0.2.1.2.2⟩⟩,h0.2.2⟩,z⟩
 have hm64:=iff_ hm44 h63
 refine csr (r_fa fa27_1 z (r_ld 3 sc9 z z z (r_u (o_lenS underlying9 z) (r_fa fa27_2 z (r_ld 3 sc9 z z z (r_u (o_lenS underlying9 z) (r_bin z z (bI_add _ _) (r_fa fa77_0 z (r_fa fa24_2 z (r_ld 4 sc3 z z z (r_bin z z (bI_gt _ _) (r_as z (nsq ?_)))))))))))))
 refine c_if (b:=decide (a0.C.Bytes<(i64 ((a1.Key.length:Int)+(a1.Value.length:Int))))) z (fun h65 =>?_) fun h65 =>?_
 ·have hm66:=ift hm64 h65
  refine csr ?_
  refine r_u (o_ldn 4 (Ac.k a0 g0_) ag77 z z z z) ?_
  refine r_u (o_bld [vI 120,vS [],vW 0] z kr) ?_
  refine rl_st (fun _ h=>mv2 h) ?_
  refine r_u0 (o_stn ag77 z z z (a_ z (a_ z (a_ z (a_ z (a_ (RoS.one h0.1) (a_ z (a_ z (a_ z (a_ (RoN.one h0.2.1.1) (a_ z (a_ z (a_ z (a_ z (a_ (RoN.one h0.2.1.2.1.1) (a_ (RoS.one h0.2.1.2.1.2) (a_ z (a_ (RoN.one h0.2.1.2.2) (a_ z (a_ (RoS.one h0.2.2) (a_ z (a_ z (a_ z (a_ z (a_ z al_n)))))))))))))))))))))))) z z z) ?_
  refine rl_st (fun _ h=>mv2 h) ?_
  refine r_u0 (o_stn ag41 z z z z z z z) (r_nil (x_seq (c_ret ?_)))
  obtain rfl:=si hm66
  exact x_d2 z (rv_n 1 (Ac.k a0 g0_) ag77 z z z z) (rv_n 0 [vI 120,vS [],vW 0] ag41 z z z z) (pk 5 []) le_ ⟨_,z,(⟨g0_.T,(⟨(⟨(⟨(g0_.P.A.R.L.1,[])⟩:Ab.G)⟩:Aa.G),(⟨(⟨(g0_.P.T.S.Rows.1,[]),g0_.P.T.S.Door⟩:Ad.G),(⟨(g0_.P.T.R.L.1,[])⟩:Ab.G)⟩:Ae.G)⟩:Af.G),g0_.Sessions⟩:Ac.G),z,⟨h0.1,⟨h0.2.1.1,⟨⟨h0.2.1.2.1.1,h0.2.1.2.1.2⟩,h0.2.1.2.2⟩⟩,h0.2.2⟩,z⟩
 have hm66:=iff_ hm64 h65
 refine c_skip (x_blk (x_seq (csr (r_fa fa77_6 z (r_ld 4 sc22 z z z (r_bin z z (bW_add _ 1) (r_fa fa77_6 z ?_)))))))
 refine rl_st (fun _ h=>mv4 h) ?_
 refine r_u0 (o_st sc22 z z z z z z) (nsr (r_fa fa27_1 z (r_ld 4 sc9 z z z (r_fa fa27_2 z (r_ld 4 sc9 z z z (r_fa fa77_6 z (r_ld 0 sc22 z z z ?_)))))))
 refine r_u (o_bld [vS a1.Key,vS a1.Value,vW (a0.Ver+1),vW 0] z kr) ?_
 refine r_new (o_al ze50) fun b67 =>?_
 refine r_u0 (o_stn ag50 z z z z z z z) (nssr (r_fa fa27_3 z (r_ld 5 sc22 z z z (r_bin z z (bW_gt _ 0) (r_mv z ?_)))))
 refine r_s (s_gt z z fun g=>o_fa fa77_5 z) ?_
 refine r_s (s_gt z z fun g=>o_ld 1 sc22 (evg z g) z z) ?_
 refine r_s (s_gt z z fun g=>o_bin (evg z g) z (bW_lt _ 18446744073709551615)) ?_
 refine r_u (o_and z z) (nsq ?_)
 obtain ⟨p68,hp69,hm70⟩:=bs hm66
 refine cd_join (E':=[(2,pt b0 0),(3,pt b1 0),(4,pt b2 0),(5,pt b3 0),(8,pt b67 0)]) (L':=Bk b67 50 [vS a1.Key,vS a1.Value,vW (a0.Ver+1),vW p68]::Bk b0 77 [vI a0.C.Policy,vI a0.C.Entries,vI a0.C.Bytes,vW a0.C.Seed,g0_.T,vI a0.P.Kind,vI a0.P.A.Most,vI a0.P.A.Target,g0_.P.A.R.L.1,vI a0.P.A.R.Places,vI a0.P.T.Most,vI a0.P.T.S.Wide,vW a0.P.T.S.Seed,g0_.P.T.S.Rows.1,g0_.P.T.S.Door,vI a0.P.T.S.Added,g0_.P.T.R.L.1,vI a0.P.T.R.Places,g0_.Sessions,vW a0.Seq,vW a0.Now,vW (a0.Ver+1),vI a0.Asked,vI a0.Hits]::Bk b6 50 (Ai.c r4.1)::Bk b3 41 [vI 0,vS [],vW 0]::Bk b2 77 [vI 0,vI 0,vI 0,vW 0,.slice none 0 0,vI 0,vI 0,vI 0,.slice none 0 0,vI 0,vI 0,vI 0,vW 0,.slice none 0 0,.slice none 0 0,vI 0,.slice none 0 0,vI 0,.slice none 0 0,vW 0,vW 0,vW 0,vI 0,vI 0]::Bk b1 27 (AI.c a1)::F) ?_ fun K71 =>?_
 rotate_left
 ·refine c_if (b:=(decide (0<a1.TTL)&&decide (a0.Now<18446744073709551615))) z (fun h198 =>?_) fun h198 =>?_
  rotate_left
  ·have hm199:=iff_ hp69 h198
   refine c_skip ?_
   obtain rfl:=si hm199
   exact x_sub K71 ⟨z,z,z,z,z,y_⟩ id_
  have hm199:=ift hp69 h198
  refine csr (r_fa fa50_3 z ?_)
  refine r_u0 (o_st sc22 z z z z z z) (nsr (r_fa fa77_5 z (r_ld 1 sc22 z z z (r_bin z z (bW_sub 18446744073709551615 _) (r_fa fa27_3 z (r_ld 5 sc22 z z z (r_bin z z (bW_gt _ _) (nsq ?_))))))))
  obtain ⟨p200,hp201,hm202⟩:=bs hm199
  refine cd_join (E':=[(2,pt b0 0),(3,pt b1 0),(4,pt b2 0),(5,pt b3 0),(8,pt b67 0)]) (L':=Bk b67 50 [vS a1.Key,vS a1.Value,vW (a0.Ver+1),vW p200]::Bk b0 77 [vI a0.C.Policy,vI a0.C.Entries,vI a0.C.Bytes,vW a0.C.Seed,g0_.T,vI a0.P.Kind,vI a0.P.A.Most,vI a0.P.A.Target,g0_.P.A.R.L.1,vI a0.P.A.R.Places,vI a0.P.T.Most,vI a0.P.T.S.Wide,vW a0.P.T.S.Seed,g0_.P.T.S.Rows.1,g0_.P.T.S.Door,vI a0.P.T.S.Added,g0_.P.T.R.L.1,vI a0.P.T.R.Places,g0_.Sessions,vW a0.Seq,vW a0.Now,vW (a0.Ver+1),vI a0.Asked,vI a0.Hits]::Bk b6 50 (Ai.c r4.1)::Bk b3 41 [vI 0,vS [],vW 0]::Bk b2 77 [vI 0,vI 0,vI 0,vW 0,.slice none 0 0,vI 0,vI 0,vI 0,.slice none 0 0,vI 0,vI 0,vI 0,vW 0,.slice none 0 0,.slice none 0 0,vI 0,.slice none 0 0,vI 0,.slice none 0 0,vW 0,vW 0,vW 0,vI 0,vI 0]::Bk b1 27 (AI.c a1)::F) ?_ fun K203 =>?_
  ·obtain rfl:=si hm202
   exact x_sub K71 ⟨z,z,z,z,z,y_⟩ id_
  refine c_if (b:=decide (a1.TTL<(18446744073709551615-a0.Now))) z (fun h204 =>?_) fun h204 =>?_
  ·have hm205:=ift hp201 h204
   refine c_reg (r_fa fa77_5 z (r_ld 1 sc22 z z z (r_fa fa27_3 z (r_ld 5 sc22 z z z (r_bin z z (bW_add _ _) (r_fa fa50_3 z ?_))))))
   refine r_u0 (o_st sc22 z z z z z z) (r_nil ?_)
   obtain rfl:=si hm205
   exact x_sub K203 ⟨z,z,z,z,z,y_⟩ id_
  have hm205:=iff_ hp201 h204
  refine c_skip ?_
  obtain rfl:=si hm205
  exact x_sub K203 ⟨z,z,z,z,z,y_⟩ id_
 refine x_seq (csr (r_fa fa77_1 z (r_ld 1 sc61 z z z ?_)))
 refine r_u (o_ldn 0 [vS a1.Key,vS a1.Value,vW (a0.Ver+1),vW p68] ag50 z z z z) ?_
 obtain ⟨r72,hr72,hm74⟩:=bs hm70
 refine r_sw (s_w (o_call ca84 z (BX.ok g0_.T _ h0.1 (⟨a1.Key,a1.Value,a0.Ver+1,p68⟩:Ai) _ hr72))) ?_
 rintro v73 R _ _ ⟨_,rfl,rfl,rfl⟩
 refine r_fa fa77_1 z ?_
 refine rl_st (fun _ h=>mv2 h) ?_
 refine r_u0 (ou_if (one_o 1 z) fun ho0=>o_st sc61 z z z ho0 z z) ?_
 refine nsr (r_fa fa77_2 z ?_)
 refine r_u (o_ldn 0 (Af.k a0.P g0_.P) ag74 z z z z) (r_fa fa27_1 z (r_ld 6 sc9 z z z ?_))
 obtain ⟨r75,hr75,hm90⟩:=bs hm74
 refine r_sw (s_w (o_call ca85 z (BO.ok _ (⟨(⟨(⟨(g0_.P.A.R.L.1,[])⟩:Ab.G)⟩:Aa.G),(⟨(⟨(g0_.P.T.S.Rows.1,[]),g0_.P.T.S.Door⟩:Ad.G),(⟨(g0_.P.T.R.L.1,[])⟩:Ab.G)⟩:Ae.G)⟩:Af.G) ⟨h0.2.1.1,⟨⟨h0.2.1.2.1.1,h0.2.1.2.1.2⟩,h0.2.1.2.2⟩⟩ _ _ hr75))) ?_
 rintro _ R88 _ le89 ⟨v76,v87,rfl,hf77,rfl⟩
 refine r_mv z (r_ext z z (r_ext z z ?_))
 refine r_new (o_al ze74) fun b91 =>?_
 refine r_u0 (o_stn ag74 z z z (a_ z (a_ z (a_ z (a_ (RoN.one hf77.1) (a_ z (a_ z (a_ z (a_ z (a_ (RoN.one hf77.2.1.1) (a_ (RoS.one hf77.2.1.2) (a_ z (a_ (RoN.one hf77.2.2) (a_ z al_n))))))))))))) z z z) (r_as z (nsr ?_))
 refine r_u (o_ldn 0 (Af.k r75.1 v76) ag74 z z z z) (r_fa fa77_2 z ?_)
 refine rl_st (fun _ h=>mv2 h) ?_
 refine r_u0 (o_stn ag74 z z z (a_ z (a_ z (a_ z (a_ (RoN.one hf77.1) (a_ z (a_ z (a_ z (a_ z (a_ (RoN.one hf77.2.1.1) (a_ (RoS.one hf77.2.1.2) (a_ z (a_ (RoN.one hf77.2.2) (a_ z al_n))))))))))))) z z z) (nssr (r_as z (nsq ?_)))
 obtain ⟨p92,hp96,hm97⟩:=bs hm90
 refine cd_cut (fun x ks=>∀(R93:PH),∀(le94:Le R88 R93),∀(g95:Value),EX x .normal ks [(2,pt b0 0),(4,pt b2 0),(5,pt b3 0)] R93 (Bk b0 77 [vI a0.C.Policy,vI a0.C.Entries,vI a0.C.Bytes,vW a0.C.Seed,g95,vI r75.1.Kind,vI r75.1.A.Most,vI r75.1.A.Target,v76.A.R.L.1,vI r75.1.A.R.Places,vI r75.1.T.Most,vI r75.1.T.S.Wide,vW r75.1.T.S.Seed,v76.T.S.Rows.1,v76.T.S.Door,vI r75.1.T.S.Added,v76.T.R.L.1,vI r75.1.T.R.Places,g0_.Sessions,vW a0.Seq,vW a0.Now,vW (a0.Ver+1),vI a0.Asked,vI a0.Hits]::Bk b91 74 (Af.k r75.1 v76)::Bk b67 50 [vS a1.Key,vS a1.Value,vW (a0.Ver+1),vW p68]::Bk b6 50 (Ai.c r4.1)::Bk b3 41 [vI 0,vS [],vW 0]::Bk b2 77 [vI 0,vI 0,vI 0,vW 0,.slice none 0 0,vI 0,vI 0,vI 0,.slice none 0 0,vI 0,vI 0,vI 0,vW 0,.slice none 0 0,.slice none 0 0,vI 0,.slice none 0 0,vI 0,.slice none 0 0,vW 0,vW 0,vW 0,vI 0,vI 0]::Bk b1 27 (AI.c a1)::OwS true 9 1 eS v87 r75.2::OwS true 50 4 Ai.c g95 p92::F)) ?_ fun K98 =>?_
 rotate_left
 ·refine c_blk ?_
  refine cd_loopG (M:=fun k184 (s:Int×List Ai×Value×PH)=>(BJ r75 k184 s.1 s.2.1=some p92)∧(Le R88 s.2.2.2)) (Ef:=fun (s:Int×List Ai×Value×PH)=>[(2,pt b0 0),(4,pt b2 0),(5,pt b3 0),(10,v87),(11,vI s.1)]) (Rf:=fun (s:Int×List Ai×Value×PH)=>s.2.2.2) (Lf:=fun (s:Int×List Ai×Value×PH)=>Bk b0 77 [vI a0.C.Policy,vI a0.C.Entries,vI a0.C.Bytes,vW a0.C.Seed,s.2.2.1,vI r75.1.Kind,vI r75.1.A.Most,vI r75.1.A.Target,v76.A.R.L.1,vI r75.1.A.R.Places,vI r75.1.T.Most,vI r75.1.T.S.Wide,vW r75.1.T.S.Seed,v76.T.S.Rows.1,v76.T.S.Door,vI r75.1.T.S.Added,v76.T.R.L.1,vI r75.1.T.R.Places,g0_.Sessions,vW a0.Seq,vW a0.Now,vW (a0.Ver+1),vI a0.Asked,vI a0.Hits]::Bk b91 74 (Af.k r75.1 v76)::Bk b67 50 [vS a1.Key,vS a1.Value,vW (a0.Ver+1),vW p68]::Bk b6 50 (Ai.c r4.1)::Bk b3 41 [vI 0,vS [],vW 0]::Bk b2 77 [vI 0,vI 0,vI 0,vW 0,.slice none 0 0,vI 0,vI 0,vI 0,.slice none 0 0,vI 0,vI 0,vI 0,vW 0,.slice none 0 0,.slice none 0 0,vI 0,.slice none 0 0,vI 0,.slice none 0 0,vW 0,vW 0,vW 0,vI 0,vI 0]::Bk b1 27 (AI.c a1)::OwS true 9 1 eS v87 r75.2::OwS true 50 4 Ai.c s.2.2.1 s.2.1::F) (((r75.2.length:Int)-0).toNat+1) (0,r72,v73,R88) ⟨hp96,le_⟩ ⟨z,z,z,z,z,y_⟩ (pk 9 [0,1,4,5,6,7,8,2,3]) (fun _ h=>by cases h.1) fun k184 s hM186 =>?_
  obtain ⟨i_179,c_180,g183,R181⟩:=s
  have hm185:BJ r75 (k184+1) i_179 c_180=some p92:=hM186.1
  have le182:Le R88 R181:=hM186.2
  rw [BJ] at hm185
  refine c_seq (csr (r_mv z (r_mv z (r_u (o_lenO 7 underlying98 z z) (r_bin z z (bI_lt _ _) (nsq ?_))))))
  refine c_if (b:=decide (i_179<(r75.2.length:Int))) z (fun h187 =>?_) fun h187 =>?_
  rotate_left
  ·have hm188:=iff_ hm185 h187
   refine c_exit (x_exit (ks':=_) z ?_)
   obtain rfl:=si hm188
   exact x_sub (K98 _ le182 g183) ⟨z,z,z,y_⟩ id_
  have hm188:=ift hm185 h187
  refine c_skip (x_seq (c_seq (c_blk ?_)))
  refine cd_st (fun _ h=>mv8 h) ?_
  refine cd_ex (fun w h=>st_freeze w h) fun R189 hf192 =>?_
  obtain ⟨le190,h191⟩:=hf192
  obtain ⟨x193,hx193,hm194⟩:=bs hm188
  obtain ⟨r195,hr195,hm197⟩:=bs hm194
  refine c_any mixed (effs:=[6,8]) (V:=[]) ?_
  refine stn mk19_ [0,1,2,3,4,5] [6] [_,_,_,_,_,_] (q_fa z z fa77_1 z (q_ld z z 0 sc61 z z z (q_mv z z z (q_mv z z z (q_u z z (o_ixO 7 underlying98 kr z z z hx193) (q_u z z (o_ldO0 7 sc9 z z hx193 z z) qn)))))) ?_ (nxt z)
  refine ec (eo_w z (s_w (o_call ca79 z (A3.ok g183 _ h191 _ _ hr195))) ?_) en
  rintro v196 R189 _ _ ⟨_,rfl,rfl,rfl⟩
  refine stage_st (fun _ h=>mv1 h) ?_
  refine stn mk19_ [7] [8] [_] (q_fa z z fa77_1 z qn) ?_ (nxt z)
  refine ec (eo_u z (s_u (ou_if (one_o 1 z) fun ho0=>o_st sc61 z z z ho0 z z)) le_ ?_) en
  refine stage z z z z mk19_ [] [] z z z qn en ?_
  intro _
  refine ex_sub (E':=[(2,pt b0 0),(4,pt b2 0),(5,pt b3 0),(10,v87),(11,vI i_179)]) ⟨z,z,z,z,z,y_⟩ ?_
  refine x_blk (x_seq (c_reg (r_mv z (r_bin z z (bI_add _ 1) (r_as z (r_nil ?_))))))
  exact x_lp (i64 (i_179+1),r195,v196,R189) ⟨hm197,(Le.trans le182 le190)⟩ ⟨z,z,z,z,z,y_⟩ (pk 9 [0,2,3,4,5,6,7,8,1])
 intro R93 le94 g95
 refine x_seq (c_seq (csr (r_as z (nsq ?_))))
 obtain ⟨p99,hp116,hm117⟩:=bs hm97
 refine cd_cut (fun x ks=>∀(R100:PH),∀(le101:Le R93 R100),∀(g103:Ac.G),∀(hf102:Ac.ro R100 p99 g103),EX x .normal ks [(2,pt b0 0),(4,pt b2 0),(5,pt b3 0)] R100 (Bk b0 77 (Ac.k p99 g103)::Bk b91 74 (Af.k r75.1 v76)::Bk b67 50 [vS a1.Key,vS a1.Value,vW (a0.Ver+1),vW p68]::Bk b6 50 (Ai.c r4.1)::Bk b3 41 [vI 0,vS [],vW 0]::Bk b2 77 [vI 0,vI 0,vI 0,vW 0,.slice none 0 0,vI 0,vI 0,vI 0,.slice none 0 0,vI 0,vI 0,vI 0,vW 0,.slice none 0 0,.slice none 0 0,vI 0,.slice none 0 0,vI 0,.slice none 0 0,vW 0,vW 0,vW 0,vI 0,vI 0]::Bk b1 27 (AI.c a1)::OwS true 9 1 eS v87 r75.2::F)) ?_ fun K118 =>?_
 ·intro R100 le101 g103 hf102
  refine x_seq (c_seq ?_)
  refine c_any mixed (effs:=[4,5]) (V:=[]) ?_
  refine stage_st (fun _ h=>mv5 h) ?_
  refine stn [0,0,2,6,1,31] [0,1,2,3] [4] [_,_,_,_] (q_u z z (o_ldn 1 (Ac.k p99 g103) ag77 z z z z) (q_fa z z fa77_6 z (q_ld z z 1 sc22 z z z (q_u z z (o_bld [vI 0,vS [],vW p99.Ver] z kr) qn)))) ?_ (nxt z)
  refine ec (eo_u z (s_u (o_stn ag77 z z z (a_ z (a_ z (a_ z (a_ z (a_ (RoS.one hf102.1) (a_ z (a_ z (a_ z (a_ (RoN.one hf102.2.1.1) (a_ z (a_ z (a_ z (a_ z (a_ (RoN.one hf102.2.1.2.1.1) (a_ (RoS.one hf102.2.1.2.1.2) (a_ z (a_ (RoN.one hf102.2.1.2.2) (a_ z (a_ (RoS.one hf102.2.2) (a_ z (a_ z (a_ z (a_ z (a_ z al_n)))))))))))))))))))))))) z z z)) le_ ?_) en
  refine stage_st (fun _ h=>mv5 h) ?_
  refine stage z z z z [0,0,2,6,1,31] [1,2,3] [5] z z z (q_fa z z fa77_6 z (q_ld z z 2 sc22 z z z (q_u z z (o_bld [vI 0,vS [],vW p99.Ver] z kr) qn))) ?_ (nxt z)
  refine ec (eo_u z (s_u (o_stn ag41 z z z z z z z)) le_ ?_) en
  refine stage z z z z [0,0,2,6,1,31] [] [] z z z qn en ?_
  intro _
  refine ex_sub (E':=[(4,pt b2 0),(5,pt b3 0)]) ⟨z,z,y_⟩ ?_
  refine x_seq (c_ret ?_)
  obtain rfl:=si hm117
  exact x_d2 z (rv_n 1 (Ac.k p99 g103) ag77 z z z z) (rv_n 0 [vI 0,vS [],vW p99.Ver] ag41 z z z z) (pk 8 []) (Le.trans (Le.trans le89 le94) le101) ⟨_,z,(⟨g103.T,(⟨(⟨(⟨(g103.P.A.R.L.1,[])⟩:Ab.G)⟩:Aa.G),(⟨(⟨(g103.P.T.S.Rows.1,[]),g103.P.T.S.Door⟩:Ad.G),(⟨(g103.P.T.R.L.1,[])⟩:Ab.G)⟩:Ae.G)⟩:Af.G),g103.Sessions⟩:Ac.G),z,⟨hf102.1,⟨hf102.2.1.1,⟨⟨hf102.2.1.2.1.1,hf102.2.1.2.1.2⟩,hf102.2.1.2.2⟩⟩,hf102.2.2⟩,z⟩
 refine c_blk ?_
 refine cd_st (fun _ h=>mv8 h) ?_
 refine cd_ex (fun w h=>st_freeze w h) fun R138 hf141 =>?_
 obtain ⟨le139,h140⟩:=hf141
 refine cd_loopG (M:=fun k137 (s:Int×Ac×Ac.G×PH)=>(BI k137 s.1 s.2.1=some p99)∧(Le R93 s.2.2.2)∧(Ac.ro s.2.2.2 s.2.1 s.2.2.1)) (Ef:=fun (s:Int×Ac×Ac.G×PH)=>[(2,pt b0 0),(4,pt b2 0),(5,pt b3 0),(12,vI s.1)]) (Rf:=fun (s:Int×Ac×Ac.G×PH)=>s.2.2.2) (Lf:=fun (s:Int×Ac×Ac.G×PH)=>Bk b0 77 (Ac.k s.2.1 s.2.2.1)::Bk b91 74 (Af.k r75.1 v76)::Bk b67 50 [vS a1.Key,vS a1.Value,vW (a0.Ver+1),vW p68]::Bk b6 50 (Ai.c r4.1)::Bk b3 41 [vI 0,vS [],vW 0]::Bk b2 77 [vI 0,vI 0,vI 0,vW 0,.slice none 0 0,vI 0,vI 0,vI 0,.slice none 0 0,vI 0,vI 0,vI 0,vW 0,.slice none 0 0,.slice none 0 0,vI 0,.slice none 0 0,vI 0,.slice none 0 0,vW 0,vW 0,vW 0,vI 0,vI 0]::Bk b1 27 (AI.c a1)::OwS true 9 1 eS v87 r75.2::F) 1002 (0,(⟨a0.C,p92,r75.1,a0.Sessions,a0.Seq,a0.Now,a0.Ver+1,a0.Asked,a0.Hits⟩:Ac),(⟨g95,(⟨(⟨(⟨(v76.A.R.L.1,[])⟩:Ab.G)⟩:Aa.G),(⟨(⟨(v76.T.S.Rows.1,[]),v76.T.S.Door⟩:Ad.G),(⟨(v76.T.R.L.1,[])⟩:Ab.G)⟩:Ae.G)⟩:Af.G),g0_.Sessions⟩:Ac.G),R138) ⟨hp116,le139,⟨h140,⟨(RoN.mono (Le.trans le94 le139) hf77.1),⟨⟨(RoN.mono (Le.trans le94 le139) hf77.2.1.1),(RoS.mono (Le.trans le94 le139) hf77.2.1.2)⟩,(RoN.mono (Le.trans le94 le139) hf77.2.2)⟩⟩,(RoS.mono (Le.trans (Le.trans le89 le94) le139) h0.2.2)⟩⟩ ⟨z,z,z,z,y_⟩ id_ (fun _ h=>by cases h.1) fun k137 s hM143 =>?_
 obtain ⟨i_119,c_120,g124,R121⟩:=s
 have hm142:BI (k137+1) i_119 c_120=some p99:=hM143.1
 have le122:Le R93 R121:=hM143.2.1
 have hf123:Ac.ro R121 c_120 g124:=hM143.2.2
 rw [BI] at hm142
 refine c_seq (c_seq ?_)
 obtain ⟨p144,hp145,hm146⟩:=bs hm142
 refine cd_join (E':=[(2,pt b0 0),(4,pt b2 0),(5,pt b3 0),(12,vI i_119),(191,vB p144)]) (L':=Bk b0 77 (Ac.k c_120 g124)::Bk b91 74 (Af.k r75.1 v76)::Bk b67 50 [vS a1.Key,vS a1.Value,vW (a0.Ver+1),vW p68]::Bk b6 50 (Ai.c r4.1)::Bk b3 41 [vI 0,vS [],vW 0]::Bk b2 77 [vI 0,vI 0,vI 0,vW 0,.slice none 0 0,vI 0,vI 0,vI 0,.slice none 0 0,vI 0,vI 0,vI 0,vW 0,.slice none 0 0,.slice none 0 0,vI 0,.slice none 0 0,vI 0,.slice none 0 0,vW 0,vW 0,vW 0,vI 0,vI 0]::Bk b1 27 (AI.c a1)::OwS true 9 1 eS v87 r75.2::F) ?_ fun K147 =>?_
 rotate_left
 ·refine cd_by (decide (i_119<1001)) (fun h175 =>?_) fun h175 =>?_
  ·have hm176:=ift hp145 h175
   obtain ⟨r177,hr177,hm178⟩:=bs hm176
   refine c_any mixed (effs:=[]) (V:=[]) ?_
   refine stn mk44_ [0,1,2,3,4,5,6,7,8,9,10] [] [_,_,_,_,_,_,_,_,_,_,_] (q_mv z z z (q_u z z (o_bin z z (bI_lt _ 1001)) (q_mv z z z (q_y z z z z h175 (o_fa fa77_1 z) (q_y z z z z h175 (o_ld 0 sc61 z z z) (q_y z z z z h175 (o_callq ca86 z (CB.ok g124.T _ hf123.1 _ hr177)) (q_y z z z z h175 (o_fa fa77_0 z) (q_y z z z z h175 (o_fa fa24_2 z) (q_y z z z z h175 (o_ld 0 sc3 z z z) (q_y z z z z h175 (o_bin z z (bI_gt _ _)) (q_u z z (o_pt z h175 z) qn))))))))))) en ?_
   intro _
   refine ex_sub (E':=[(2,pt b0 0),(4,pt b2 0),(5,pt b3 0),(12,vI i_119),(191,vB (decide (c_120.C.Bytes<r177)))]) ⟨z,z,z,z,z,y_⟩ ?_
   obtain rfl:=si hm178
   exact x_sub K147 ⟨z,z,z,z,z,y_⟩ id_
  have hm176:=iff_ hp145 h175
  refine c_any mixed (effs:=[]) (V:=[]) ?_
  refine stn mk44_ [0,1,2,3,4,5,6,7,8,9,10] [] [_,_,_,_,_,_,_,_,_,_,_] (q_mv z z z (q_u z z (o_bin z z (bI_lt _ 1001)) (q_mv z z z (q_n z z z z h175 (q_n z z z z h175 (q_n z z z z h175 (q_n z z z z h175 (q_n z z z z h175 (q_n z z z z h175 (q_n z z z z h175 (q_u z z (o_pf z h175 z) qn))))))))))) en ?_
  intro _
  refine ex_sub (E':=[(2,pt b0 0),(4,pt b2 0),(5,pt b3 0),(12,vI i_119),(191,vB false)]) ⟨z,z,z,z,z,y_⟩ ?_
  obtain rfl:=si hm176
  exact x_sub K147 ⟨z,z,z,z,z,y_⟩ id_
 refine x_seq ?_
 refine c_if (b:=p144) z (fun h148 =>?_) fun h148 =>?_
 rotate_left
 ·have hm149:=iff_ hm146 h148
  refine c_exit (x_exit (ks':=_) z ?_)
  obtain rfl:=si hm149
  exact x_sub (K118 _ le122 (⟨g124.T,(⟨(⟨(⟨(g124.P.A.R.L.1,[])⟩:Ab.G)⟩:Aa.G),(⟨(⟨(g124.P.T.S.Rows.1,[]),g124.P.T.S.Door⟩:Ad.G),(⟨(g124.P.T.R.L.1,[])⟩:Ab.G)⟩:Ae.G)⟩:Af.G),g124.Sessions⟩:Ac.G) ⟨hf123.1,⟨hf123.2.1.1,⟨⟨hf123.2.1.2.1.1,hf123.2.1.2.1.2⟩,hf123.2.1.2.2⟩⟩,hf123.2.2⟩) ⟨z,z,z,y_⟩ id_
 have hm149:=ift hm146 h148
 refine c_skip (x_seq (c_seq (c_blk (csr (r_fa fa77_2 z ?_)))))
 refine r_u (o_ldn 0 (Af.k c_120.P g124.P) ag74 z z z z) ?_
 obtain ⟨r150,hr150,hm164⟩:=bs hm149
 refine r_sw (s_w (o_call ca87 z (Cp.ok _ (⟨(⟨(⟨(g124.P.A.R.L.1,[])⟩:Ab.G)⟩:Aa.G),(⟨(⟨(g124.P.T.S.Rows.1,[]),g124.P.T.S.Door⟩:Ad.G),(⟨(g124.P.T.R.L.1,[])⟩:Ab.G)⟩:Ae.G)⟩:Af.G) ⟨hf123.2.1.1,⟨⟨hf123.2.1.2.1.1,hf123.2.1.2.1.2⟩,hf123.2.1.2.2⟩⟩ _ hr150))) ?_
 rintro _ R162 _ le163 ⟨v151,rfl,hf152,rfl⟩
 refine r_mv z (r_ext z z (r_ext z z (r_ext z z ?_)))
 refine r_new (o_al ze74) fun b165 =>?_
 refine r_u0 (o_stn ag74 z z z (a_ z (a_ z (a_ z (a_ (RoN.one hf152.1) (a_ z (a_ z (a_ z (a_ z (a_ (RoN.one hf152.2.1.1) (a_ (RoS.one hf152.2.1.2) (a_ z (a_ (RoN.one hf152.2.2) (a_ z al_n))))))))))))) z z z) (r_as z (r_as z (nssr (r_mv z ?_))))
 refine r_u (o_not z) (nsq ?_)
 refine c_if (b := !r150.2.2) z (fun h166 =>?_) fun h166 =>?_
 ·have hm167:=ift hm164 h166
  refine c_exit (x_exit (ks':=_) z ?_)
  obtain rfl:=si hm167
  exact x_sub (K118 _ (Le.trans le122 le163) (⟨g124.T,(⟨(⟨(⟨(g124.P.A.R.L.1,[])⟩:Ab.G)⟩:Aa.G),(⟨(⟨(g124.P.T.S.Rows.1,[]),g124.P.T.S.Door⟩:Ad.G),(⟨(g124.P.T.R.L.1,[])⟩:Ab.G)⟩:Ae.G)⟩:Af.G),g124.Sessions⟩:Ac.G) ⟨(RoS.mono le163 hf123.1),⟨(RoN.mono le163 hf123.2.1.1),⟨⟨(RoN.mono le163 hf123.2.1.2.1.1),(RoS.mono le163 hf123.2.1.2.1.2)⟩,(RoN.mono le163 hf123.2.1.2.2)⟩⟩,(RoS.mono le163 hf123.2.2)⟩) ⟨z,z,z,y_⟩ (pk 9 [1,2,3,4,5,6,7,8])
 have hm167:=iff_ hm164 h166
 refine c_skip (x_seq (csr ?_))
 refine r_u (o_ldn 0 (Af.k r150.1 v151) ag74 z z z z) (r_fa fa77_2 z ?_)
 refine rl_st (fun _ h=>mv1 h) ?_
 refine r_u0 (o_stn ag74 z z z (a_ z (a_ z (a_ z (a_ (RoN.one hf152.1) (a_ z (a_ z (a_ z (a_ z (a_ (RoN.one hf152.2.1.1) (a_ (RoS.one hf152.2.1.2) (a_ z (a_ (RoN.one hf152.2.2) (a_ z al_n))))))))))))) z z z) (r_nil (x_seq (c_reg (r_fa fa77_1 z (r_ld 0 sc61 z z z (r_mv z ?_))))))
 obtain ⟨r168,hr168,hm170⟩:=bs hm167
 refine r_sw (s_w (o_call ca79 z (A3.ok g124.T _ (RoS.mono le163 hf123.1) _ _ hr168))) ?_
 rintro v169 R162 _ _ ⟨_,rfl,rfl,rfl⟩
 refine r_fa fa77_1 z ?_
 refine rl_st (fun _ h=>mv1 h) ?_
 refine r_u0 (ou_if (one_o 1 z) fun ho0=>o_st sc61 z z z ho0 z z) ?_
 refine r_nil (x_blk (x_seq (c_reg (r_mv z (r_bin z z (bI_add _ 1) (r_as z (r_nil ?_)))))))
 refine ex_st (fun _ h=>mv1 h) ?_
 refine ex_ex (fun w h=>st_freeze w h) fun R171 hf174 =>?_
 obtain ⟨le172,h173⟩:=hf174
 exact x_lp (i64 (i_119+1),(⟨c_120.C,r168,r150.1,c_120.Sessions,c_120.Seq,c_120.Now,c_120.Ver,c_120.Asked,c_120.Hits⟩:Ac),(⟨v169,(⟨(⟨(⟨(v151.A.R.L.1,[])⟩:Ab.G)⟩:Aa.G),(⟨(⟨(v151.T.S.Rows.1,[]),v151.T.S.Door⟩:Ad.G),(⟨(v151.T.R.L.1,[])⟩:Ab.G)⟩:Ae.G)⟩:Af.G),g124.Sessions⟩:Ac.G),R171) ⟨hm170,(Le.trans (Le.trans le122 le163) le172),⟨h173,⟨(RoN.mono le172 hf152.1),⟨⟨(RoN.mono le172 hf152.2.1.1),(RoS.mono le172 hf152.2.1.2)⟩,(RoN.mono le172 hf152.2.2)⟩⟩,(RoS.mono (Le.trans le163 le172) hf123.2.2)⟩⟩ ⟨z,z,z,z,y_⟩ (pk 9 [0,2,3,4,5,6,7,8])
def Bu(a0:Ac)(a1:As):Nat→(List As)→Bool→Int→Option (List As×Bool)
 | 0,_,_,_=>none
 | k27+1,out_23,in_24,i_25=>if decide (i_25<(a0.Sessions.length:Int)) then Option.bind (if in_24 then some false else (gi a0.Sessions i_25).bind fun x62=>some (decide (a1.Session≤x62.Session))) fun p32=>Option.bind (if p32 then (apd 48 out_23 [a1]).bind fun l58=>some (l58,true) else some (out_23,in_24)) fun p36=>(gi a0.Sessions i_25).bind fun x41=>Option.bind (if (x41.Session != a1.Session) then (apd 48 p36.1 [x41]).bind fun l52=>some l52 else some p36.1) fun p43=>Bu a0 a1 k27 p43 p36.2 (i64 (i_25+1)) else some (out_23,in_24)
def Ck(a0:Ac)(a1:As):Option Ac :=
 Option.bind (Bu a0 a1 (((a0.Sessions.length:Int)-0).toNat+1) [] false 0) fun p4=>if !p4.2 then (apd 48 p4.1 [a1]).bind fun l13=>some (⟨a0.C,a0.T,a0.P,l13,a0.Seq,a0.Now,a0.Ver,a0.Asked,a0.Hits⟩:Ac) else some (⟨a0.C,a0.T,a0.P,p4.1,a0.Seq,a0.Now,a0.Ver,a0.Asked,a0.Hits⟩:Ac)
theorem Ck.ok{G R F}(a0:Ac)(g0_:Ac.G)(h0:Ac.ro R a0 g0_)(a1:As)(r:Ac)(hm:Ck a0 a1=some r):CO prog 48 [.agg (Ac.k a0 g0_).toArray,.agg (As.c a1).toArray] G R (F)
  (Ret fun u R' L'=>∃(p0:Ac.G),u = .agg (Ac.k r p0).toArray∧(Ac.ro R' r p0)∧L'=F):=by
 unfold Ck at hm
 refine co_ofN (N:=59) func48 z z ?_
 refine csr ?_
 refine r_new (o_bx (Ac.k a0 g0_) z z) fun b0 =>?_
 refine r_new (o_bx (As.c a1) z z) fun b1 =>?_
 refine r_new (o_al ze77) fun b2 =>?_
 refine nsr ?_
 refine r_sw (s_w (o_bsl (en:=As.c) (sz:=5) (e:=83) (cs:=[]) (r:=[]) z kr z (by decide) z (fun _=>z))) ?_
 rintro v3 R _ _ ⟨rfl,rfl⟩
 refine r_as z (r_as z (nssr (r_as z (nsq ?_))))
 obtain ⟨p4,hp6,hm7⟩:=bs hm
 refine cd_cut (fun x ks=>∀(g5:Value),EX x .normal ks [(2,pt b0 0),(3,pt b1 0),(4,pt b2 0),(5,g5),(6,vB p4.2)] R (Bk b2 77 [vI 0,vI 0,vI 0,vW 0,.slice none 0 0,vI 0,vI 0,vI 0,.slice none 0 0,vI 0,vI 0,vI 0,vW 0,.slice none 0 0,.slice none 0 0,vI 0,.slice none 0 0,vI 0,.slice none 0 0,vW 0,vW 0,vW 0,vI 0,vI 0]::Bk b1 83 (As.c a1)::Bk b0 77 (Ac.k a0 g0_)::OwS true 83 5 As.c g5 p4.1::F)) ?_ fun K8 =>?_
 ·intro g5
  refine x_seq (c_seq (csr (r_mv z ?_)))
  refine r_u (o_not z) (nsq ?_)
  refine c_if (b := !p4.2) z (fun h9 =>?_) fun h9 =>?_
  rotate_left
  ·have hm10:=iff_ hm7 h9
   refine c_skip (x_seq (csr (r_mv z (r_fa fa77_3 z ?_))))
   refine rl_st (fun _ h=>mv3 (mv3 h)) ?_
   refine r_u0 (ou_if (one_o 1 z) fun ho0=>o_st sc75 z z z ho0 z z) ?_
   refine nsr ?_
   refine r_u (o_ldn 0 [vI a0.C.Policy,vI a0.C.Entries,vI a0.C.Bytes,vW a0.C.Seed,g0_.T,vI a0.P.Kind,vI a0.P.A.Most,vI a0.P.A.Target,g0_.P.A.R.L.1,vI a0.P.A.R.Places,vI a0.P.T.Most,vI a0.P.T.S.Wide,vW a0.P.T.S.Seed,g0_.P.T.S.Rows.1,g0_.P.T.S.Door,vI a0.P.T.S.Added,g0_.P.T.R.L.1,vI a0.P.T.R.Places,g5,vW a0.Seq,vW a0.Now,vW a0.Ver,vI a0.Asked,vI a0.Hits] ag77 z z z z) ?_
   refine rl_st (fun _ h=>mv2 (mv1 h)) ?_
   refine r_u0 (ou_if (one_o 1 z) fun ho0=>o_stn ag77 z z z (a_ z (a_ z (a_ z (a_ z (a_ (RoS.one h0.1) (a_ z (a_ z (a_ z (a_ (RoN.one h0.2.1.1) (a_ z (a_ z (a_ z (a_ z (a_ (RoN.one h0.2.1.2.1.1) (a_ (RoS.one h0.2.1.2.1.2) (a_ z (a_ (RoN.one h0.2.1.2.2) (a_ z (a_ ho0 (a_ z (a_ z (a_ z (a_ z (a_ z al_n)))))))))))))))))))))))) z z z) ?_
   refine r_nil (x_seq (c_ret ?_))
   refine ex_st (fun _ h=>mv1 h) ?_
   refine ex_ex (fun w h=>st_freeze w h) fun R19 hf22 =>?_
   obtain ⟨le20,h21⟩:=hf22
   obtain rfl:=si hm10
   exact x_d1 z (rv_n 0 [vI a0.C.Policy,vI a0.C.Entries,vI a0.C.Bytes,vW a0.C.Seed,g0_.T,vI a0.P.Kind,vI a0.P.A.Most,vI a0.P.A.Target,g0_.P.A.R.L.1,vI a0.P.A.R.Places,vI a0.P.T.Most,vI a0.P.T.S.Wide,vW a0.P.T.S.Seed,g0_.P.T.S.Rows.1,g0_.P.T.S.Door,vI a0.P.T.S.Added,g0_.P.T.R.L.1,vI a0.P.T.R.Places,g5,vW a0.Seq,vW a0.Now,vW a0.Ver,vI a0.Asked,vI a0.Hits] ag77 z z z z) (pk 3 []) le20 ⟨_,z,(⟨g0_.T,(⟨(⟨(⟨(g0_.P.A.R.L.1,[])⟩:Ab.G)⟩:Aa.G),(⟨(⟨(g0_.P.T.S.Rows.1,[]),g0_.P.T.S.Door⟩:Ad.G),(⟨(g0_.P.T.R.L.1,[])⟩:Ab.G)⟩:Ae.G)⟩:Af.G),g5⟩:Ac.G),z,⟨(RoS.mono le20 h0.1),⟨(RoN.mono le20 h0.2.1.1),⟨⟨(RoN.mono le20 h0.2.1.2.1.1),(RoS.mono le20 h0.2.1.2.1.2)⟩,(RoN.mono le20 h0.2.1.2.2)⟩⟩,h21⟩,z⟩
  have hm10:=ift hm7 h9
  refine c_reg (r_mv z ?_)
  refine r_u (o_ldn 1 (As.c a1) ag83 z z z z) ?_
  refine r_sw (s_w (o_bsl (en:=As.c) (sz:=5) (e:=83) (cs:=[vW a1.Session,vW a1.Num,vI a1.Reply.E,vS a1.Reply.Value,vW a1.Reply.Version]) (r:=[a1]) z kr z (by decide) z (fun _=>z))) ?_
  rintro v11 R _ _ ⟨rfl,rfl⟩
  obtain ⟨l13,hl13,hm14⟩:=bs hm10
  refine rl_st (fun _ h=>mv4 h) ?_
  refine r_sw (s_w (o_ap (sz:=5) (bytes:=48) 0 underlying75 rfl rfl rfl rfl rfl (by decide) (by decide) (fun _ _ _ h=>by simp [As.c] at h;rcases h with rfl | rfl | rfl | rfl | rfl <;> rfl) (fun _=>rfl) rfl rfl rfl rfl (Nat.succ_pos _) hl13)) ?_
  rintro v12 R _ _ ⟨rfl,rfl⟩
  refine r_as z (nsr (r_mv z (r_fa fa77_3 z ?_)))
  refine rl_st (fun _ h=>mv4 h) ?_
  refine r_u0 (ou_if (one_o 1 z) fun ho0=>o_st sc75 z z z ho0 z z) ?_
  refine nsr ?_
  refine r_u (o_ldn 0 [vI a0.C.Policy,vI a0.C.Entries,vI a0.C.Bytes,vW a0.C.Seed,g0_.T,vI a0.P.Kind,vI a0.P.A.Most,vI a0.P.A.Target,g0_.P.A.R.L.1,vI a0.P.A.R.Places,vI a0.P.T.Most,vI a0.P.T.S.Wide,vW a0.P.T.S.Seed,g0_.P.T.S.Rows.1,g0_.P.T.S.Door,vI a0.P.T.S.Added,g0_.P.T.R.L.1,vI a0.P.T.R.Places,v12,vW a0.Seq,vW a0.Now,vW a0.Ver,vI a0.Asked,vI a0.Hits] ag77 z z z z) ?_
  refine rl_st (fun _ h=>mv3 (mv1 h)) ?_
  refine r_u0 (ou_if (one_o 1 z) fun ho0=>o_stn ag77 z z z (a_ z (a_ z (a_ z (a_ z (a_ (RoS.one h0.1) (a_ z (a_ z (a_ z (a_ (RoN.one h0.2.1.1) (a_ z (a_ z (a_ z (a_ z (a_ (RoN.one h0.2.1.2.1.1) (a_ (RoS.one h0.2.1.2.1.2) (a_ z (a_ (RoN.one h0.2.1.2.2) (a_ z (a_ ho0 (a_ z (a_ z (a_ z (a_ z (a_ z al_n)))))))))))))))))))))))) z z z) ?_
  refine r_nil (x_seq (c_ret ?_))
  refine ex_st (fun _ h=>mv1 h) ?_
  refine ex_ex (fun w h=>st_freeze w h) fun R15 hf18 =>?_
  obtain ⟨le16,h17⟩:=hf18
  obtain rfl:=si hm14
  exact x_d1 z (rv_n 0 [vI a0.C.Policy,vI a0.C.Entries,vI a0.C.Bytes,vW a0.C.Seed,g0_.T,vI a0.P.Kind,vI a0.P.A.Most,vI a0.P.A.Target,g0_.P.A.R.L.1,vI a0.P.A.R.Places,vI a0.P.T.Most,vI a0.P.T.S.Wide,vW a0.P.T.S.Seed,g0_.P.T.S.Rows.1,g0_.P.T.S.Door,vI a0.P.T.S.Added,g0_.P.T.R.L.1,vI a0.P.T.R.Places,v12,vW a0.Seq,vW a0.Now,vW a0.Ver,vI a0.Asked,vI a0.Hits] ag77 z z z z) (pk 4 []) le16 ⟨_,z,(⟨g0_.T,(⟨(⟨(⟨(g0_.P.A.R.L.1,[])⟩:Ab.G)⟩:Aa.G),(⟨(⟨(g0_.P.T.S.Rows.1,[]),g0_.P.T.S.Door⟩:Ad.G),(⟨(g0_.P.T.R.L.1,[])⟩:Ab.G)⟩:Ae.G)⟩:Af.G),v12⟩:Ac.G),z,⟨(RoS.mono le16 h0.1),⟨(RoN.mono le16 h0.2.1.1),⟨⟨(RoN.mono le16 h0.2.1.2.1.1),(RoS.mono le16 h0.2.1.2.1.2)⟩,(RoN.mono le16 h0.2.1.2.2)⟩⟩,h17⟩,z⟩
 refine c_blk ?_
 refine cd_loopG (M:=fun k27 (s:List As×Bool×Int×Value)=>Bu a0 a1 k27 s.1 s.2.1 s.2.2.1=some p4) (Ef:=fun (s:List As×Bool×Int×Value)=>[(2,pt b0 0),(3,pt b1 0),(4,pt b2 0),(5,s.2.2.2),(6,vB s.2.1),(7,vI s.2.2.1)]) (Rf:=fun (s:List As×Bool×Int×Value)=>R) (Lf:=fun (s:List As×Bool×Int×Value)=>Bk b2 77 [vI 0,vI 0,vI 0,vW 0,.slice none 0 0,vI 0,vI 0,vI 0,.slice none 0 0,vI 0,vI 0,vI 0,vW 0,.slice none 0 0,.slice none 0 0,vI 0,.slice none 0 0,vI 0,.slice none 0 0,vW 0,vW 0,vW 0,vI 0,vI 0]::Bk b1 83 (As.c a1)::Bk b0 77 (Ac.k a0 g0_)::OwS true 83 5 As.c s.2.2.2 s.1::F) (((a0.Sessions.length:Int)-0).toNat+1) ([],false,0,v3) hp6 ⟨z,z,z,z,z,z,y_⟩ (pk 4 [1,2,3,0]) (fun _ h=>by cases h) fun k27 s hM29 =>?_
 obtain ⟨out_23,in_24,i_25,g26⟩:=s
 have hm28:Bu a0 a1 (k27+1) out_23 in_24 i_25=some p4:=hM29
 rw [Bu] at hm28
 refine c_seq (csr (r_mv z (r_fa fa77_3 z (r_ld 2 sc75 z z z ?_))))
 refine r_u (o_lenR underlying75 z h0.2.2) (r_bin z z (bI_lt _ _) (nsq ?_))
 refine c_if (b:=decide (i_25<(a0.Sessions.length:Int))) z (fun h30 =>?_) fun h30 =>?_
 rotate_left
 ·have hm31:=iff_ hm28 h30
  refine c_exit (x_exit (ks':=_) z ?_)
  obtain rfl:=si hm31
  exact x_sub (K8 g26) ⟨z,z,z,z,z,y_⟩ id_
 have hm31:=ift hm28 h30
 refine c_skip (x_seq (c_seq (c_blk (c_seq (c_seq ?_)))))
 obtain ⟨p32,hp33,hm34⟩:=bs hm31
 refine cd_join (E':=[(2,pt b0 0),(3,pt b1 0),(4,pt b2 0),(5,g26),(6,vB in_24),(7,vI i_25),(28,vB p32)]) (L':=Bk b2 77 [vI 0,vI 0,vI 0,vW 0,.slice none 0 0,vI 0,vI 0,vI 0,.slice none 0 0,vI 0,vI 0,vI 0,vW 0,.slice none 0 0,.slice none 0 0,vI 0,.slice none 0 0,vI 0,.slice none 0 0,vW 0,vW 0,vW 0,vI 0,vI 0]::Bk b1 83 (As.c a1)::Bk b0 77 (Ac.k a0 g0_)::OwS true 83 5 As.c g26 out_23::F) ?_ fun K35 =>?_
 rotate_left
 ·refine cd_by in_24 (fun h60 =>?_) fun h60 =>?_
  ·have hm61:=ift hp33 h60
   refine c_any mixed (effs:=[]) (V:=[]) ?_
   refine stn mk46_ [0,1,2,3,4,5,6,7,8,9,10,11,12] [] [_,_,_,_,_,_,_,_,_,_,_,_,_] (q_mv z z z (q_u z z (o_not z) (q_mv z z z (q_n z z z z (nbf h60) (q_n z z z z (nbf h60) (q_n z z z z (nbf h60) (q_n z z z z (nbf h60) (q_n z z z z (nbf h60) (q_n z z z z (nbf h60) (q_n z z z z (nbf h60) (q_n z z z z (nbf h60) (q_n z z z z (nbf h60) (q_u z z (o_pf z (nbf h60) z) qn))))))))))))) en ?_
   intro _
   refine ex_sub (E':=[(2,pt b0 0),(3,pt b1 0),(4,pt b2 0),(5,g26),(6,vB in_24),(7,vI i_25),(28,vB false)]) ⟨z,z,z,z,z,z,z,y_⟩ ?_
   obtain rfl:=si hm61
   exact x_sub K35 ⟨z,z,z,z,z,z,z,y_⟩ id_
  have hm61:=iff_ hp33 h60
  obtain ⟨x62,hx62,hm63⟩:=bs hm61
  obtain ⟨b62,o62,l62,T62,fr62,c62,hv62,hR62,he62,hi62⟩:=RoS.ne h0.2.2 hx62
  refine c_any mixed (effs:=[]) (V:=[]) ?_
  refine stn mk46_ [0,1,2,3,4,5,6,7,8,9,10,11,12] [] [_,_,_,_,_,_,_,_,_,_,_,_,_] (q_mv z z z (q_u z z (o_not z) (q_mv z z z (q_y z z z z (nbt h60) (o_fa fa77_3 z) (q_y z z z z (nbt h60) (o_ld 2 sc75 z z z) (q_y z z z z (nbt h60) (o_mv z) (q_y z z z z (nbt h60) (o_ix (sz:=5) underlying75 kr z z hv62 hi62) (q_y z z z z (nbt h60) (o_fa fa83_0 z) (q_y z z z z (nbt h60) (o_ldR sc22 z hR62 (rok 0 he62 (by decide))) (q_y z z z z (nbt h60) (o_fa fa83_0 z) (q_y z z z z (nbt h60) (o_ld 1 sc22 z z z) (q_y z z z z (nbt h60) (o_bin z z (bW_ge _ _)) (q_u z z (o_pt z (nbt h60) z) qn))))))))))))) en ?_
  intro _
  refine ex_sub (E':=[(2,pt b0 0),(3,pt b1 0),(4,pt b2 0),(5,g26),(6,vB in_24),(7,vI i_25),(28,vB (decide (a1.Session≤x62.Session)))]) ⟨z,z,z,z,z,z,z,y_⟩ ?_
  obtain rfl:=si hm63
  exact x_sub K35 ⟨z,z,z,z,z,z,z,y_⟩ id_
 refine x_seq ?_
 obtain ⟨p36,hp38,hm39⟩:=bs hm34
 refine cd_cut (fun x ks=>∀(g37:Value),EX x .normal ks [(2,pt b0 0),(3,pt b1 0),(4,pt b2 0),(7,vI i_25),(5,g37),(6,vB p36.2)] R (Bk b2 77 [vI 0,vI 0,vI 0,vW 0,.slice none 0 0,vI 0,vI 0,vI 0,.slice none 0 0,vI 0,vI 0,vI 0,vW 0,.slice none 0 0,.slice none 0 0,vI 0,.slice none 0 0,vI 0,.slice none 0 0,vW 0,vW 0,vW 0,vI 0,vI 0]::Bk b1 83 (As.c a1)::Bk b0 77 (Ac.k a0 g0_)::OwS true 83 5 As.c g37 p36.1::F)) ?_ fun K40 =>?_
 rotate_left
 ·refine c_if (b:=p32) z (fun h54 =>?_) fun h54 =>?_
  rotate_left
  ·have hm55:=iff_ hp38 h54
   refine c_skip ?_
   obtain rfl:=si hm55
   exact x_sub (K40 g26) ⟨z,z,z,z,z,z,y_⟩ id_
  have hm55:=ift hp38 h54
  refine c_reg (r_mv z ?_)
  refine r_u (o_ldn 1 (As.c a1) ag83 z z z z) ?_
  refine r_sw (s_w (o_bsl (en:=As.c) (sz:=5) (e:=83) (cs:=[vW a1.Session,vW a1.Num,vI a1.Reply.E,vS a1.Reply.Value,vW a1.Reply.Version]) (r:=[a1]) z kr z (by decide) z (fun _=>z))) ?_
  rintro v56 R _ _ ⟨rfl,rfl⟩
  obtain ⟨l58,hl58,hm59⟩:=bs hm55
  refine rl_st (fun _ h=>mv4 h) ?_
  refine r_sw (s_w (o_ap (sz:=5) (bytes:=48) 0 underlying75 rfl rfl rfl rfl rfl (by decide) (by decide) (fun _ _ _ h=>by simp [As.c] at h;rcases h with rfl | rfl | rfl | rfl | rfl <;> rfl) (fun _=>rfl) rfl rfl rfl rfl (Nat.succ_pos _) hl58)) ?_
  rintro v57 R _ _ ⟨rfl,rfl⟩
  refine r_as z (r_as z (r_nil ?_))
  obtain rfl:=si hm59
  exact x_sub (K40 v57) ⟨z,z,z,z,z,z,y_⟩ (pk 5 [2,3,4,0])
 intro g37
 refine x_seq (c_seq ?_)
 obtain ⟨x41,hx41,hm42⟩:=bs hm39
 obtain ⟨b41,o41,l41,T41,fr41,c41,hv41,hR41,he41,hi41⟩:=RoS.ne h0.2.2 hx41
 refine c_any mixed (effs:=[]) (V:=[]) ?_
 refine stn mk27_ [0,1,2,3,4,5,6,7,8] [] [_,_,_,_,_,_,_,_,_] (q_fa z z fa77_3 z (q_ld z z 2 sc75 z z z (q_mv z z z (q_u z z (o_ix (sz:=5) underlying75 kr z z hv41 hi41) (q_fa z z fa83_0 z (q_u z z (o_ldR sc22 z hR41 (rok 0 he41 (by decide))) (q_fa z z fa83_0 z (q_ld z z 1 sc22 z z z (q_u z z (o_bin z z (bW_ne _ _)) qn))))))))) en ?_
 intro _
 refine ex_sub (E':=[(2,pt b0 0),(3,pt b1 0),(4,pt b2 0),(7,vI i_25),(5,g37),(6,vB p36.2),(41,vB (x41.Session != a1.Session))]) ⟨z,z,z,z,z,z,z,y_⟩ ?_
 refine x_seq ?_
 obtain ⟨p43,hp45,hm46⟩:=bs hm42
 refine cd_cut (fun x ks=>∀(g44:Value),EX x .normal ks [(2,pt b0 0),(3,pt b1 0),(4,pt b2 0),(6,vB p36.2),(7,vI i_25),(5,g44)] R (Bk b2 77 [vI 0,vI 0,vI 0,vW 0,.slice none 0 0,vI 0,vI 0,vI 0,.slice none 0 0,vI 0,vI 0,vI 0,vW 0,.slice none 0 0,.slice none 0 0,vI 0,.slice none 0 0,vI 0,.slice none 0 0,vW 0,vW 0,vW 0,vI 0,vI 0]::Bk b1 83 (As.c a1)::Bk b0 77 (Ac.k a0 g0_)::OwS true 83 5 As.c g44 p43::F)) ?_ fun K47 =>?_
 ·intro g44
  refine x_blk (x_seq (c_reg (r_mv z (r_bin z z (bI_add _ 1) (r_as z (r_nil ?_))))))
  exact x_lp (p43,p36.2,i64 (i_25+1),g44) hm46 ⟨z,z,z,z,z,z,y_⟩ id_
 refine c_if (b:=(x41.Session != a1.Session)) z (fun h48 =>?_) fun h48 =>?_
 rotate_left
 ·have hm49:=iff_ hp45 h48
  refine c_skip ?_
  obtain rfl:=si hm49
  exact x_sub (K47 g37) ⟨z,z,z,z,z,z,y_⟩ id_
 have hm49:=ift hp45 h48
 refine c_reg (r_mv z (r_fa fa77_3 z (r_ld 2 sc75 z z z (r_mv z ?_))))
 refine r_u (o_ix (sz:=5) underlying75 kr z z hv41 hi41) ?_
 refine r_u (o_ldnR (As.c x41) ag83 z hR41 he41 z) ?_
 refine r_sw (s_w (o_bsl (en:=As.c) (sz:=5) (e:=83) (cs:=[vW x41.Session,vW x41.Num,vI x41.Reply.E,vS x41.Reply.Value,vW x41.Reply.Version]) (r:=[x41]) z kr z (by decide) z (fun _=>z))) ?_
 rintro v50 R _ _ ⟨rfl,rfl⟩
 obtain ⟨l52,hl52,hm53⟩:=bs hm49
 refine rl_st (fun _ h=>mv4 h) ?_
 refine r_sw (s_w (o_ap (sz:=5) (bytes:=48) 0 underlying75 rfl rfl rfl rfl rfl (by decide) (by decide) (fun _ _ _ h=>by simp [As.c] at h;rcases h with rfl | rfl | rfl | rfl | rfl <;> rfl) (fun _=>rfl) rfl rfl rfl rfl (Nat.succ_pos _) hl52)) ?_
 rintro v51 R _ _ ⟨rfl,rfl⟩
 refine r_as z (r_nil ?_)
 obtain rfl:=si hm53
 exact x_sub (K47 v51) ⟨z,z,z,z,z,z,y_⟩ (pk 5 [2,3,4,0])
end Go.Proofs.YtpanhdnglicknaaGreat
