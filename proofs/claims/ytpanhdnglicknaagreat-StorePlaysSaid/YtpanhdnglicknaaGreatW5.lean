import Derived.Test.YtpanhdnglicknaaGreatW4
import Derived.Test.YtpanhdnglicknaaGreatFacts
import Derived.Test.YtpanhdnglicknaaGreatHwZ
import Derived.Test.YtpanhdnglicknaaGreatHwW
import Derived.Test.YtpanhdnglicknaaGreatHw8
set_option linter.unusedVariables false
set_option linter.unusedSectionVars false
set_option linter.unusedSimpArgs false
set_option maxRecDepth 100000
set_option maxHeartbeats 4000000
namespace Go.Proofs.YtpanhdnglicknaaGreat
open _root_.Go.Proofs.Tryz Go Go.Proofs.YtpanhdnglicknaaGreat.Hw
def Bj(r157:AK×UInt64)(r171:Ac×Ap×Int)(r197:UInt64×Ap×Bool):Nat→Bool→Bool→Int→Option (Bool×Bool)
 | 0,_,_,_=>none
 | k209+1,is_206,found_207,k_208=>if decide (k_208<(r171.1.Sessions.length:Int)) then (gi r171.1.Sessions k_208).bind fun x214=>Option.bind (if (x214.Session==r157.1.Session) then some (false,((is_206&&(x214.Num==r197.1))&&decide (x214.Reply=r197.2.1))) else some (is_206,found_207)) fun p216=>Bj r157 r171 r197 k209 p216.1 p216.2 (i64 (k_208+1)) else some (is_206,found_207)
def BQ(a1:List AM):Nat→(Option Ak)→UInt64→Int→Ac→Option ((Option Ak×Ac)⊕Bool)
 | 0,_,_,_,_=>none
 | k91+1,s_68,now_69,i_70,c_71=>if (decide (i_70<(a1.length:Int))&&decide (i_70<80)) then Option.bind (om s_68 (none) fun x144=>(gi a1 i_70).bind fun x155=>(C3 (Bm x144) now_69 x155).bind fun r157=>(AQ x144 r157.1).bind fun r160=>(CC c_71 r157.1).bind fun r171=>Option.bind (if ((r160.2.1 != r171.2.2) || !(decide (r160.1=r171.2.1))) then some true else (Dz r160.2.2 r171.1).bind fun r224=>some (!r224)) fun p191=>if p191 then some (Sum.inr (Sum.inr false)) else lt (CP r160.2.2 r157.1.Session) fun r197=>Option.bind (Bj r157 r171 r197 (((r171.1.Sessions.length:Int)-0).toNat+1) r197.2.2 false 0) fun p200=>if (p200.1||(((!p200.2&&(r160.2.1==0))&&(r157.1.Op.Kind != 5))&&(r171.2.1.E != 3))) then some (Sum.inr (Sum.inr false)) else some (Sum.inl ((some r160.2.2),r157.2,r171.1))) fun (p120:(Option Ak×UInt64×Ac)⊕((Option Ak×Ac)⊕Bool))=>(match p120 with | Sum.inl q121=>BQ a1 k91 q121.1 q121.2.1 (i64 (i_70+1)) q121.2.2 | Sum.inr r=>some r) else some (Sum.inl (s_68,c_71))
def Dg(a0:Au)(a1:List AM):Option Bool :=
 (DR (AN a0)).bind fun r2=>(DH (AN a0)).bind fun r7=>(DK).bind fun r23=>if (!r23||(r2.2 != 0)) then some false else Option.bind (BQ a1 (((a1.length:Int)-0).toNat+1) r2.1 0 0 r7) fun (p27:(Option Ak×Ac)⊕Bool)=>(match p27 with | Sum.inl q28=>om q28.1 (none) fun x51=>(Di x51).bind fun r62=>(Ct q28.2).bind fun r64=>if (r62==r64) then some (decide ((Dl x51)=(AN a0))) else some false | Sum.inr r=>some r)
theorem Dg.ok{G R F}(a0:Au)(v1_:Value)(a1:List AM)(h1_:RoS R v1_ 9 AM.c a1)(r:Bool)(hm:Dg a0 a1=some r):CO prog 7 [.agg (Au.c a0).toArray,v1_] G R (F)
  (Ret fun u R' L'=>u=vB r∧True∧L'=F):=by
 unfold Dg at hm
 refine co_ofN (N:=164) func7 z z ?_
 refine csr ?_
 refine r_new (o_bx (Au.c a0) z z) fun b0 =>?_
 refine r_as z (nsr ?_)
 refine r_u (o_ldn 0 (Au.c a0) ag24 z z z z) ?_
 refine r_u (o_callq ca18 z (AN.ok a0 _ z)) ?_
 refine r_new (o_al ze24) fun b1 =>?_
 refine r_u0 (o_stn ag24 z z z z z z z) (nsr ?_)
 refine r_u (o_ldn 0 (Au.c (AN a0)) ag24 z z z z) ?_
 obtain ⟨r2,hr2,hm6⟩:=bs hm
 refine r_sw (s_w (o_call ca19 z (DR.ok _ _ hr2))) ?_
 rintro _ R _ _ ⟨⟨pv4,g5⟩,rfl,rfl,rfl⟩
 refine r_mv z (r_ext z z (r_ext z z (r_as z (r_as z (nsr ?_)))))
 refine r_u (o_ldn 1 (Au.c (AN a0)) ag24 z z z z) ?_
 obtain ⟨r7,hr7,hm21⟩:=bs hm6
 refine r_sw (s_w (o_call ca22 z (DH.ok _ _ hr7))) ?_
 rintro _ R _ _ ⟨v8,rfl,rfl,rfl⟩
 refine r_new (o_al ze77) fun b22 =>?_
 refine rl_st (fun _ h=>mv6 (mv6 (mv6 (mv7 (mv8 (mv8 (mv9 h))))))) ?_
 refine r_u0 (ou_if (one_o 1 z) fun ho0=>ou_if (one_o 2 z) fun ho1=>ou_if (one_o 3 z) fun ho2=>ou_if (one_o 4 z) fun ho3=>ou_if (one_o 5 z) fun ho4=>ou_if (one_o 6 z) fun ho5=>o_stn ag77 z z z (a_ z (a_ z (a_ z (a_ z (a_ ho0 (a_ z (a_ z (a_ z (a_ ho1 (a_ z (a_ z (a_ z (a_ z (a_ ho2 (a_ ho3 (a_ z (a_ ho4 (a_ z (a_ ho5 (a_ z (a_ z (a_ z (a_ z (a_ z al_n)))))))))))))))))))))))) z z z) ?_
 refine r_as z (nssr ?_)
 obtain ⟨r23,hr23,hm24⟩:=bs hm21
 refine r_u (o_callq ca12 z (DK.ok _ hr23)) ?_
 refine r_u (o_not z) (r_mv z ?_)
 refine r_s (s_gf z z fun g=>o_mv z) ?_
 refine r_s (s_gf z z fun g=>o_bin (evg z g) z (bI_ne _ 0)) ?_
 refine r_u (o_or z z) (nsq ?_)
 refine c_if (b:=(!r23||(r2.2 != 0))) z (fun h25 =>?_) fun h25 =>?_
 ·have hm26:=ift hm24 h25
  refine csr (r_as z (r_nil (x_seq (c_ret ?_))))
  obtain rfl:=si hm26
  refine ex_st (pk 13 []) ?_
  exact x_r1 z (rv_t z) le_ ⟨_,z,z,trivial,z⟩
 have hm26:=iff_ hm24 h25
 refine c_skip (x_seq (c_seq (csr (r_as z (nsq ?_)))))
 obtain ⟨p27,hp48,hm49⟩:=bs hm26
 refine cd_cut (fun x ks=>∀(q28:Option Ak×Ac),∀(_:p27=Sum.inl q28),∀(R29:PH),∀(le30:Le R R29),∀(pv31:Value×Ak.G),∀(g35:Ac.G),∀(hf34:Ac.ro R29 q28.2 g35),EX x .normal ks [(5,pt b1 0),(8,pt b22 0),(6,pv31.1)] R29 (Bk b22 77 (Ac.k q28.2 g35)::Bk b1 24 (Au.c (AN a0))::Bk b0 24 (Au.c a0)::rO (Ak.op pv31.2) pv31.1 q28.1::F)) ?_ fun K50 =>?_
 ·intro q28 hq R29 le30 pv31 g35 hf34
  subst hq
  try dsimp only at hm49
  obtain ⟨pv32,g33⟩:=pv31
  refine x_seq (c_seq ?_)
  refine cd_st (fun _ h=>mv3 h) ?_
  refine cd_opt (fun ho53 =>?_) (fun x51 b52 ho53 =>?_)
  ·rintro rfl
   have hm54:=om_n hm49 ho53
   cases hm54
  rintro rfl
  have hm54:=om_s hm49 ho53
  obtain ⟨⟨pv56,g57⟩,⟨pv59,g60⟩,g61⟩:=g33
  refine cd_st (fun _ h=>st_star_o h) ?_
  obtain ⟨r62,hr62,hm63⟩:=bs hm54
  obtain ⟨r64,hr64,hm65⟩:=bs hm63
  refine cd_by (r62==r64) (fun h66 =>?_) fun h66 =>?_
  ·have hm67:=ift hm65 h66
   refine c_any mixed (effs:=[]) (V:=[]) ?_
   refine stn mk28_ [0,1,2,3,4,5,6,7,8,9,10,11] [] [_,_,_,_,_,_,_,_,_,_,_,_] (q_mv z z z (q_u z z (o_callqP ca25 z (Di.ok b52 _ (⟨(pv56,g57),(pv59,g60),g61⟩:Ak.G) _ hr62) id_ id_) (q_u z z (o_ldn 4 (Ac.k q28.2 g35) ag77 z z z z) (q_u z z (o_callq ca26 z (Ct.ok _ (⟨g35.T,(⟨(⟨(⟨(g35.P.A.R.L.1,[])⟩:Ab.G)⟩:Aa.G),(⟨(⟨(g35.P.T.S.Rows.1,[]),g35.P.T.S.Door⟩:Ad.G),(⟨(g35.P.T.R.L.1,[])⟩:Ab.G)⟩:Ae.G)⟩:Af.G),g35.Sessions⟩:Ac.G) ⟨hf34.1,⟨hf34.2.1.1,⟨⟨hf34.2.1.2.1.1,hf34.2.1.2.1.2⟩,hf34.2.1.2.2⟩⟩,hf34.2.2⟩ _ hr64)) (q_u z z (o_bin z z (bS_eq _ _)) (q_mv z z z (q_y z z z z h66 (o_mv z) (q_y z z z z h66 (o_callqP ca27 z (Dl.ok b52 x51 (⟨(pv56,g57),(pv59,g60),g61⟩:Ak.G) _ z) id_ id_) (q_y z z z z h66 (o_ldn 5 (Au.c (AN a0)) ag24 z z z z) (q_y z z z z h66 (o_bin z z (Au.beq_24 (Dl x51) (AN a0))) (q_u z z (o_pt z h66 z) (q_u z z (o_as z) qn)))))))))))) en ?_
   intro _
   refine ex_sub (E':=[(4,vB (decide ((Dl x51)=(AN a0))))]) ⟨z,y_⟩ ?_
   refine x_seq (c_ret ?_)
   obtain rfl:=si hm67
   refine ex_st (pk 7 []) ?_
   exact x_r1 z (rv_t z) le30 ⟨_,z,z,trivial,z⟩
  have hm67:=iff_ hm65 h66
  refine c_any mixed (effs:=[]) (V:=[]) ?_
  refine stn mk28_ [0,1,2,3,4,5,6,7,8,9,10,11] [] [_,_,_,_,_,_,_,_,_,_,_,_] (q_mv z z z (q_u z z (o_callqP ca25 z (Di.ok b52 _ (⟨(pv56,g57),(pv59,g60),g61⟩:Ak.G) _ hr62) id_ id_) (q_u z z (o_ldn 4 (Ac.k q28.2 g35) ag77 z z z z) (q_u z z (o_callq ca26 z (Ct.ok _ (⟨g35.T,(⟨(⟨(⟨(g35.P.A.R.L.1,[])⟩:Ab.G)⟩:Aa.G),(⟨(⟨(g35.P.T.S.Rows.1,[]),g35.P.T.S.Door⟩:Ad.G),(⟨(g35.P.T.R.L.1,[])⟩:Ab.G)⟩:Ae.G)⟩:Af.G),g35.Sessions⟩:Ac.G) ⟨hf34.1,⟨hf34.2.1.1,⟨⟨hf34.2.1.2.1.1,hf34.2.1.2.1.2⟩,hf34.2.1.2.2⟩⟩,hf34.2.2⟩ _ hr64)) (q_u z z (o_bin z z (bS_eq _ _)) (q_mv z z z (q_n z z z z h66 (q_n z z z z h66 (q_n z z z z h66 (q_n z z z z h66 (q_u z z (o_pf z h66 z) (q_u z z (o_as z) qn)))))))))))) en ?_
  intro _
  refine ex_sub (E':=[(4,vB false)]) ⟨z,y_⟩ ?_
  refine x_seq (c_ret ?_)
  obtain rfl:=si hm67
  refine ex_st (pk 7 []) ?_
  exact x_r1 z (rv_t z) le30 ⟨_,z,z,trivial,z⟩
 refine c_blk ?_
 refine cd_st (fun _ h=>mv1 h) ?_
 refine cd_ex (fun w h=>st_freeze w h) fun R92 hf95 =>?_
 obtain ⟨le93,h94⟩:=hf95
 refine cd_st (fun _ h=>mv2 (mv6 h)) ?_
 refine cd_ex (fun w h=>st_freezeN w h) fun R96 hf99 =>?_
 obtain ⟨le97,h98⟩:=hf99
 refine cd_st (fun _ h=>mv2 (mv5 h)) ?_
 refine cd_ex (fun w h=>st_freezeN w h) fun R100 hf103 =>?_
 obtain ⟨le101,h102⟩:=hf103
 refine cd_st (fun _ h=>mv1 h) ?_
 refine cd_ex (fun w h=>st_freeze w h) fun R104 hf107 =>?_
 obtain ⟨le105,h106⟩:=hf107
 refine cd_st (fun _ h=>mv2 (mv3 h)) ?_
 refine cd_ex (fun w h=>st_freezeN w h) fun R108 hf111 =>?_
 obtain ⟨le109,h110⟩:=hf111
 refine cd_st (fun _ h=>mv1 h) ?_
 refine cd_ex (fun w h=>st_freeze w h) fun R112 hf115 =>?_
 obtain ⟨le113,h114⟩:=hf115
 refine cd_loopG (M:=fun k91 (s:Option Ak×UInt64×Int×Ac×(Value×Ak.G)×Ac.G×PH)=>(BQ a1 k91 s.1 s.2.1 s.2.2.1 s.2.2.2.1=some p27)∧(Le R s.2.2.2.2.2.2)∧(Ac.ro s.2.2.2.2.2.2 s.2.2.2.1 s.2.2.2.2.2.1)) (Ef:=fun (s:Option Ak×UInt64×Int×Ac×(Value×Ak.G)×Ac.G×PH)=>[(1,v1_),(5,pt b1 0),(8,pt b22 0),(6,s.2.2.2.2.1.1),(9,vW s.2.1),(10,vI s.2.2.1)]) (Rf:=fun (s:Option Ak×UInt64×Int×Ac×(Value×Ak.G)×Ac.G×PH)=>s.2.2.2.2.2.2) (Lf:=fun (s:Option Ak×UInt64×Int×Ac×(Value×Ak.G)×Ac.G×PH)=>Bk b22 77 (Ac.k s.2.2.2.1 s.2.2.2.2.2.1)::Bk b1 24 (Au.c (AN a0))::Bk b0 24 (Au.c a0)::rO (Ak.op s.2.2.2.2.1.2) s.2.2.2.2.1.1 s.1::F) (((a1.length:Int)-0).toNat+1) (r2.1,0,0,r7,(pv4,g5),(⟨v8.T,(⟨(⟨(⟨(v8.P.A.R.L.1,[])⟩:Ab.G)⟩:Aa.G),(⟨(⟨(v8.P.T.S.Rows.1,[]),v8.P.T.S.Door⟩:Ad.G),(⟨(v8.P.T.R.L.1,[])⟩:Ab.G)⟩:Ae.G)⟩:Af.G),v8.Sessions⟩:Ac.G),R112) ⟨hp48,(Le.trans (Le.trans (Le.trans (Le.trans (Le.trans le93 le97) le101) le105) le109) le113),⟨(RoS.mono (Le.trans (Le.trans (Le.trans (Le.trans le97 le101) le105) le109) le113) h94),⟨(RoN.mono (Le.trans (Le.trans (Le.trans le101 le105) le109) le113) h98),⟨⟨(RoN.mono (Le.trans (Le.trans le105 le109) le113) h102),(RoS.mono (Le.trans le109 le113) h106)⟩,(RoN.mono le113 h110)⟩⟩,h114⟩⟩ ⟨z,z,z,z,z,z,y_⟩ (pk 4 [0,2,3,1]) (fun _ h=>by cases h.1) fun k91 s hM117 =>?_
 obtain ⟨s_68,now_69,i_70,c_71,pv74,g78,R72⟩:=s
 have hm116:BQ a1 (k91+1) s_68 now_69 i_70 c_71=some p27:=hM117.1
 have le73:Le R R72:=hM117.2.1
 have hf77:Ac.ro R72 c_71 g78:=hM117.2.2
 rw [BQ] at hm116
 obtain ⟨pv75,g76⟩:=pv74
 refine c_seq (csr (r_mv z (r_mv z ?_)))
 refine r_u (o_lenR underlying25 z (RoS.mono le73 h1_)) (r_bin z z (bI_lt _ _) (r_mv z ?_))
 refine r_s (s_gt z z fun g=>o_mv z) ?_
 refine r_s (s_gt z z fun g=>o_bin (evg z g) z (bI_lt _ 80)) ?_
 refine r_u (o_and z z) (nsq ?_)
 refine c_if (b:=(decide (i_70<(a1.length:Int))&&decide (i_70<80))) z (fun h118 =>?_) fun h118 =>?_
 rotate_left
 ·have hm119:=iff_ hm116 h118
  refine c_exit (x_exit (ks':=_) z ?_)
  obtain rfl:=si hm119
  exact x_sub (K50 _ z _ le73 (pv75,g76) (⟨g78.T,(⟨(⟨(⟨(g78.P.A.R.L.1,[])⟩:Ab.G)⟩:Aa.G),(⟨(⟨(g78.P.T.S.Rows.1,[]),g78.P.T.S.Door⟩:Ad.G),(⟨(g78.P.T.R.L.1,[])⟩:Ab.G)⟩:Ae.G)⟩:Af.G),g78.Sessions⟩:Ac.G) ⟨hf77.1,⟨hf77.2.1.1,⟨⟨hf77.2.1.2.1.1,hf77.2.1.2.1.2⟩,hf77.2.1.2.2⟩⟩,hf77.2.2⟩) ⟨z,z,z,y_⟩ id_
 have hm119:=ift hm116 h118
 refine c_skip (x_seq (c_seq ?_))
 obtain ⟨p120,hp141,hm142⟩:=bs hm119
 refine cd_cut (fun x ks=>∀(q121:Option Ak×UInt64×Ac),∀(_:p120=Sum.inl q121),∀(R122:PH),∀(le123:Le R72 R122),∀(pv124:Value×Ak.G),∀(g128:Ac.G),∀(hf127:Ac.ro R122 q121.2.2 g128),EX x .normal ks [(1,v1_),(5,pt b1 0),(8,pt b22 0),(10,vI i_70),(6,pv124.1),(9,vW q121.2.1)] R122 (Bk b22 77 (Ac.k q121.2.2 g128)::Bk b1 24 (Au.c (AN a0))::Bk b0 24 (Au.c a0)::rO (Ak.op pv124.2) pv124.1 q121.1::F)) ?_ fun K143 =>?_
 ·intro q121 hq R122 le123 pv124 g128 hf127
  subst hq
  try dsimp only at hm142
  obtain ⟨pv125,g126⟩:=pv124
  refine x_seq (c_reg (r_mv z (r_bin z z (bI_add _ 1) (r_as z (r_nil ?_)))))
  exact x_lp (q121.1,q121.2.1,i64 (i_70+1),q121.2.2,(pv125,g126),(⟨g128.T,(⟨(⟨(⟨(g128.P.A.R.L.1,[])⟩:Ab.G)⟩:Aa.G),(⟨(⟨(g128.P.T.S.Rows.1,[]),g128.P.T.S.Door⟩:Ad.G),(⟨(g128.P.T.R.L.1,[])⟩:Ab.G)⟩:Ae.G)⟩:Af.G),g128.Sessions⟩:Ac.G),R122) ⟨hm142,(Le.trans le73 le123),⟨hf127.1,⟨hf127.2.1.1,⟨⟨hf127.2.1.2.1.1,hf127.2.1.2.1.2⟩,hf127.2.1.2.2⟩⟩,hf127.2.2⟩⟩ ⟨z,z,z,z,z,z,y_⟩ id_
 refine c_blk (c_seq ?_)
 refine cd_st (fun _ h=>mv3 h) ?_
 refine cd_opt (fun ho146 =>?_) (fun x144 b145 ho146 =>?_)
 ·rintro rfl
  have hm147:=om_n hp141 ho146
  cases hm147
 rintro rfl
 have hm147:=om_s hp141 ho146
 obtain ⟨⟨pv149,g150⟩,⟨pv152,g153⟩,g154⟩:=g76
 refine cd_st (fun _ h=>st_star_o h) ?_
 obtain ⟨x155,hx155,hm156⟩:=bs hm147
 obtain ⟨b155,o155,l155,T155,fr155,c155,hv155,hR155,he155,hi155⟩:=RoS.ne (RoS.mono le73 h1_) hx155
 obtain ⟨r157,hr157,hm158⟩:=bs hm156
 refine c_any mixed (effs:=[11,12]) (V:=[]) ?_
 refine stn mk18_ [0,1,2,3,4,5,6,7,8,9,10] [11] [_,_,_,_,_,_,_,_,_,_,_] (q_mv z z z (q_u z z (o_callqP ca14 z (Bm.ok b145 x144 (⟨(pv149,g150),(pv152,g153),g154⟩:Ak.G) _ z) id_ id_) (q_mv z z z (q_mv z z z (q_mv z z z (q_u z z (o_ix (sz:=9) underlying25 kr z z hv155 hi155) (q_u z z (o_ldnR (AM.c x155) ag29 z hR155 he155 z) (q_u z z (o_callq ca13 z (C3.ok _ _ _ _ hr157)) (q_mv z z z (q_u z z (o_ext z z) (q_u z z (o_ext z z) qn))))))))))) ?_ (nxt z)
 refine ec (eo_n z (s_w (o_al ze35)) fun b159 =>?_) en
 refine stage z z z z mk18_ [0,1,2,3,4,5,6,7,8,9,10] [12] z z z (q_mv z z z (q_u z z (o_callqP ca14 z (Bm.ok b145 x144 (⟨(pv149,g150),(pv152,g153),g154⟩:Ak.G) _ z) (pk 8 [1,2,3,4,0,5,6,7]) (pk 8 [4,0,1,2,3,5,6,7])) (q_mv z z z (q_mv z z z (q_mv z z z (q_u z z (o_ix (sz:=9) underlying25 kr z z hv155 hi155) (q_u z z (o_ldnR (AM.c x155) ag29 z hR155 he155 z) (q_u z z (o_callq ca13 z (C3.ok _ _ _ _ hr157)) (q_mv z z z (q_u z z (o_ext z z) (q_u z z (o_ext z z) qn))))))))))) ?_ (nxt z)
 refine ec (eo_u z (s_u (o_stn ag35 z z z z z z z)) le_ ?_) en
 refine stx [13] mk18_ [10,13] [] [_] (q_u z z (o_ext z z) (q_u z z (o_as z) qn)) en ?_
 intro _
 refine ex_sub (E':=[(1,v1_),(5,pt b1 0),(8,pt b22 0),(6,pt b145 0),(10,vI i_70),(11,pt b159 0),(12,vW r157.2)]) ⟨z,z,z,z,z,z,z,y_⟩ ?_
 refine x_seq (csr (r_mv z (r_as z (nsr (r_mv z ?_)))))
 refine r_u (o_ldn 0 (AK.c r157.1) ag35 z z z z) ?_
 obtain ⟨r160,hr160,hm169⟩:=bs hm158
 refine rl_st (fun _ h=>mv4 (mv4 (mv4 (mv4 h)))) ?_
 refine r_sw (s_w (o_call ca15 z (AQ.ok b145 _ (⟨(pv149,g150),(pv152,g153),g154⟩:Ak.G) _ _ hr160))) ?_
 rintro _ R72 _ _ ⟨⟨⟨pv163,g164⟩,⟨pv166,g167⟩,g168⟩,rfl,rfl,rfl⟩
 refine r_mv z (r_ext z z (r_ext z z ?_))
 refine r_new (o_al ze41) fun b170 =>?_
 refine r_u0 (o_stn ag41 z z z z z z z) (r_as z (nsr ?_))
 refine r_u (o_ldn 6 (Ac.k c_71 g78) ag77 z z z z) ?_
 refine r_u (o_ldn 5 (AK.c r157.1) ag35 z z z z) ?_
 obtain ⟨r171,hr171,hm188⟩:=bs hm169
 refine r_sw (s_w (o_call ca23 z (CC.ok _ (⟨g78.T,(⟨(⟨(⟨(g78.P.A.R.L.1,[])⟩:Ab.G)⟩:Aa.G),(⟨(⟨(g78.P.T.S.Rows.1,[]),g78.P.T.S.Door⟩:Ad.G),(⟨(g78.P.T.R.L.1,[])⟩:Ab.G)⟩:Ae.G)⟩:Af.G),g78.Sessions⟩:Ac.G) ⟨hf77.1,⟨hf77.2.1.1,⟨⟨hf77.2.1.2.1.1,hf77.2.1.2.1.2⟩,hf77.2.1.2.2⟩⟩,hf77.2.2⟩ _ _ hr171))) ?_
 rintro _ R186 _ le187 ⟨v172,rfl,hf173,rfl⟩
 refine r_mv z (r_ext z z (r_ext z z (r_ext z z ?_)))
 refine r_new (o_al ze77) fun b189 =>?_
 refine r_new (o_al ze41) fun b190 =>?_
 refine rl_st (fun _ h=>mv1 h) ?_
 refine r_u0 (o_stn ag77 z z z (a_ z (a_ z (a_ z (a_ z (a_ (RoS.one hf173.1) (a_ z (a_ z (a_ z (a_ (RoN.one hf173.2.1.1) (a_ z (a_ z (a_ z (a_ z (a_ (RoN.one hf173.2.1.2.1.1) (a_ (RoS.one hf173.2.1.2.1.2) (a_ z (a_ (RoN.one hf173.2.1.2.2) (a_ z (a_ (RoS.one hf173.2.2) (a_ z (a_ z (a_ z (a_ z (a_ z al_n)))))))))))))))))))))))) z z z) ?_
 refine rl_st (fun _ h=>mv1 h) ?_
 refine r_u0 (o_stn ag41 z z z z z z z) (r_as z (nsr ?_))
 refine r_u (o_ldn 1 (Ac.k r171.1 v172) ag77 z z z z) ?_
 refine rl_st (fun _ h=>mv8 h) ?_
 refine r_u0 (o_stn ag77 z z z (a_ z (a_ z (a_ z (a_ z (a_ (RoS.one hf173.1) (a_ z (a_ z (a_ z (a_ (RoN.one hf173.2.1.1) (a_ z (a_ z (a_ z (a_ z (a_ (RoN.one hf173.2.1.2.1.1) (a_ (RoS.one hf173.2.1.2.1.2) (a_ z (a_ (RoN.one hf173.2.1.2.2) (a_ z (a_ (RoS.one hf173.2.2) (a_ z (a_ z (a_ z (a_ z (a_ z al_n)))))))))))))))))))))))) z z z) (r_nil (x_seq (c_seq (c_seq ?_))))
 obtain ⟨p191,hp192,hm193⟩:=bs hm188
 refine cd_join (E':=[(1,v1_),(5,pt b1 0),(6,pt b145 0),(8,pt b22 0),(9,vW r157.2),(10,vI i_70),(11,pt b159 0),(14,vI r160.2.1),(16,pt b190 0),(87,vB p191)]) (L':=Bk b22 77 (Ac.k r171.1 v172)::Bk b190 41 (Ap.c r171.2.1)::Bk b189 77 (Ac.k r171.1 v172)::Bk b170 41 (Ap.c r160.1)::Bk b145 96 [vI r160.2.2.c.Policy,vI r160.2.2.c.Entries,vI r160.2.2.c.Bytes,vW r160.2.2.c.Seed,pv163,pv166,g168,vW r160.2.2.seq,vW r160.2.2.now,vW r160.2.2.version,vI r160.2.2.tally.Asked,vI r160.2.2.tally.Hits]::Bk b159 35 (AK.c r157.1)::Bk b1 24 (Au.c (AN a0))::Bk b0 24 (Au.c a0)::rO (Am.op g164) pv163 r160.2.2.t::rO (Ah.op g167) pv166 r160.2.2.p::OwM vW Ar.v g168 r160.2.2.sessions::F) ?_ fun K194 =>?_
 rotate_left
 ·refine cd_by ((r160.2.1 != r171.2.2) || !(decide (r160.1=r171.2.1))) (fun h222 =>?_) fun h222 =>?_
  ·have hm223:=ift hp192 h222
   refine c_reg (r_mv z (r_mv z (r_bin z z (bI_ne _ _) (r_mv z ?_))))
   refine r_s (s_gf z z fun g=>o_ldn 3 (Ap.c r160.1) ag41 z z z z) ?_
   refine r_s (s_gf z z fun g=>o_ldn 1 (Ap.c r171.2.1) ag41 z z z z) ?_
   refine r_s (s_gf z z fun g=>o_bin (evg z g) (evg z g) (Ap.bne_41 r160.1 r171.2.1)) ?_
   refine r_u (o_or z z) (r_mv z ?_)
   refine r_s (s_n z z h222) ?_
   refine r_s (s_n z z h222) ?_
   refine r_s (s_n z z h222) ?_
   refine r_s (s_n z z h222) ?_
   refine r_u (o_pt z h222 z) (r_nil ?_)
   obtain rfl:=si hm223
   exact x_sub K194 ⟨z,z,z,z,z,z,z,z,z,z,y_⟩ (pk 11 [0,1,2,3,4,8,9,10,5,6,7])
  have hm223:=iff_ hp192 h222
  refine c_reg (r_mv z (r_mv z (r_bin z z (bI_ne _ _) (r_mv z ?_))))
  refine r_s (s_gf z z fun g=>o_ldn 3 (Ap.c r160.1) ag41 z z z z) ?_
  refine r_s (s_gf z z fun g=>o_ldn 1 (Ap.c r171.2.1) ag41 z z z z) ?_
  refine r_s (s_gf z z fun g=>o_bin (evg z g) (evg z g) (Ap.bne_41 r160.1 r171.2.1)) ?_
  refine r_u (o_or z z) (r_mv z ?_)
  refine r_s (s_y z z h222 (o_mv z)) ?_
  refine r_s (s_y z z h222 (o_ldn 0 (Ac.k r171.1 v172) ag77 z z z z)) ?_
  obtain ⟨r224,hr224,hm225⟩:=bs hm223
  refine rl_st (fun _ h=>mv7 (mv7 (mv7 (mv7 h)))) ?_
  refine r_c (s_yw z z h222 (o_call ca24 z (Dz.ok b145 _ (⟨(pv163,g164),(pv166,g167),g168⟩:Ak.G) _ (⟨v172.T,(⟨(⟨(⟨(v172.P.A.R.L.1,[])⟩:Ab.G)⟩:Aa.G),(⟨(⟨(v172.P.T.S.Rows.1,[]),v172.P.T.S.Door⟩:Ad.G),(⟨(v172.P.T.R.L.1,[])⟩:Ab.G)⟩:Ae.G)⟩:Af.G),v172.Sessions⟩:Ac.G) ⟨hf173.1,⟨hf173.2.1.1,⟨⟨hf173.2.1.2.1.1,hf173.2.1.2.1.2⟩,hf173.2.1.2.2⟩⟩,hf173.2.2⟩ _ hr224))) ?_
  refine r_s (s_y z z h222 (o_not z)) ?_
  refine r_u (o_pf z h222 z) (r_nil ?_)
  obtain rfl:=si hm225
  exact x_sub K194 ⟨z,z,z,z,z,z,z,z,z,z,y_⟩ (pk 11 [4,5,6,7,0,8,9,10,1,2,3])
 refine x_seq ?_
 refine c_if (b:=p191) z (fun h195 =>?_) fun h195 =>?_
 ·have hm196:=ift hm193 h195
  refine csr (r_as z (r_nil (x_seq (c_ret ?_))))
  obtain rfl:=si hm196
  try dsimp only at hm142
  obtain rfl:=si hm142
  try dsimp only at hm49
  obtain rfl:=si hm49
  refine ex_st (pk 11 []) ?_
  exact x_r1 z (rv_t z) (Le.trans le73 le187) ⟨_,z,z,trivial,z⟩
 have hm196:=iff_ hm193 h195
 refine c_skip (x_seq (csr (r_mv z (r_fa fa35_2 z (r_ld 5 sc22 z z z ?_)))))
 obtain ⟨r197,hr197,hm198⟩:=ltx hm196
 refine rl_st (fun _ h=>mv7 (mv10 (mv10 (mv10 h)))) ?_
 refine r_c (s_w (o_call ca21 z (CP.ok b145 _ (⟨(pv163,g164),(pv166,g167),g168⟩:Ak.G) _ _ hr197))) ?_
 refine r_mv z (r_ext z z (r_ext z z (r_ext z z ?_)))
 refine r_new (o_al ze41) fun b199 =>?_
 refine r_as z ?_
 refine r_u0 (o_stn ag41 z z z z z z z) (r_as z (nsr (r_as z (nssr (r_as z (nsq ?_))))))
 obtain ⟨p200,hp201,hm202⟩:=bs hm198
 refine cd_join (E':=[(1,v1_),(5,pt b1 0),(6,pt b145 0),(8,pt b22 0),(9,vW r157.2),(10,vI i_70),(11,pt b159 0),(14,vI r160.2.1),(16,pt b190 0),(20,vB p200.1),(21,vB p200.2)]) (L':=Bk b199 41 (Ap.c r197.2.1)::Bk b145 96 [vI r160.2.2.c.Policy,vI r160.2.2.c.Entries,vI r160.2.2.c.Bytes,vW r160.2.2.c.Seed,pv163,pv166,g168,vW r160.2.2.seq,vW r160.2.2.now,vW r160.2.2.version,vI r160.2.2.tally.Asked,vI r160.2.2.tally.Hits]::Bk b22 77 (Ac.k r171.1 v172)::Bk b190 41 (Ap.c r171.2.1)::Bk b189 77 (Ac.k r171.1 v172)::Bk b170 41 (Ap.c r160.1)::Bk b159 35 (AK.c r157.1)::Bk b1 24 (Au.c (AN a0))::Bk b0 24 (Au.c a0)::rO (Am.op g164) pv163 r160.2.2.t::rO (Ah.op g167) pv166 r160.2.2.p::OwM vW Ar.v g168 r160.2.2.sessions::F) ?_ fun K203 =>?_
 ·refine x_seq (csr (r_mv z (r_mv z ?_)))
  refine r_s (s_gf z z fun g=>o_mv z) ?_
  refine r_s (s_gf z z fun g=>o_not (evg z g)) ?_
  refine r_s (s_gf z z fun g=>o_mv (evg z g)) ?_
  refine r_s (s_ggt z z fun g=>o_mv z) ?_
  refine r_s (s_ggt z z fun g=>o_bin (evg z g) z (bI_eq _ 0)) ?_
  refine r_s (s_gf z z fun g=>o_and (evg z g) (evg2 z g)) ?_
  refine r_s (s_gf z z fun g=>o_mv (evg z g)) ?_
  refine r_s (s_ggt z z fun g=>o_fa fa35_4 z) ?_
  refine r_s (s_ggt z z fun g=>o_fa fa27_0 (evg z g)) ?_
  refine r_s (s_ggt z z fun g=>o_ld 6 sc3 (evg z g) z z) ?_
  refine r_s (s_ggt z z fun g=>o_bin (evg z g) z (bI_ne _ 5)) ?_
  refine r_s (s_gf z z fun g=>o_and (evg z g) (evg2 z g)) ?_
  refine r_s (s_gf z z fun g=>o_mv (evg z g)) ?_
  refine r_s (s_ggt z z fun g=>o_fa fa41_0 z) ?_
  refine r_s (s_ggt z z fun g=>o_ld 3 sc39 (evg z g) z z) ?_
  refine r_s (s_ggt z z fun g=>o_bin (evg z g) z (bI_ne _ 3)) ?_
  refine r_s (s_gf z z fun g=>o_and (evg z g) (evg2 z g)) ?_
  refine r_u (o_or z z) (nsq ?_)
  refine c_if (b:=(p200.1||(((!p200.2&&(r160.2.1==0))&&(r157.1.Op.Kind != 5))&&(r171.2.1.E != 3)))) z (fun h204 =>?_) fun h204 =>?_
  ·have hm205:=ift hm202 h204
   refine csr (r_as z (r_nil (x_seq (c_ret ?_))))
   obtain rfl:=si hm205
   try dsimp only at hm142
   obtain rfl:=si hm142
   try dsimp only at hm49
   obtain rfl:=si hm49
   refine ex_st (pk 12 []) ?_
   exact x_r1 z (rv_t z) (Le.trans le73 le187) ⟨_,z,z,trivial,z⟩
  have hm205:=iff_ hm202 h204
  refine c_skip (x_blk ?_)
  refine ex_st (fun _ h=>mv4 (mv11 (mv11 (mv11 h)))) ?_
  refine ex_st (fun _ h=>st_some (f:=Ak.op (⟨(pv163,g164),(pv166,g167),g168⟩:Ak.G)) (a:=r160.2.2) (st_star_f (A:=Ak.fl b145 r160.2.2 (⟨(pv163,g164),(pv166,g167),g168⟩:Ak.G)) h)) ?_
  obtain rfl:=si hm205
  exact x_sub (K143 _ z _ le187 (pt b145 0,(⟨(pv163,g164),(pv166,g167),g168⟩:Ak.G)) (⟨v172.T,(⟨(⟨(⟨(v172.P.A.R.L.1,[])⟩:Ab.G)⟩:Aa.G),(⟨(⟨(v172.P.T.S.Rows.1,[]),v172.P.T.S.Door⟩:Ad.G),(⟨(v172.P.T.R.L.1,[])⟩:Ab.G)⟩:Ae.G)⟩:Af.G),v172.Sessions⟩:Ac.G) ⟨hf173.1,⟨hf173.2.1.1,⟨⟨hf173.2.1.2.1.1,hf173.2.1.2.1.2⟩,hf173.2.1.2.2⟩⟩,hf173.2.2⟩) ⟨z,z,z,z,z,z,y_⟩ (pk 9 [2,7,8,0])
 refine c_blk ?_
 refine cd_loop (M:=fun k209 (s:Bool×Bool×Int)=>Bj r157 r171 r197 k209 s.1 s.2.1 s.2.2=some p200) (Ef:=fun (s:Bool×Bool×Int)=>[(1,v1_),(5,pt b1 0),(6,pt b145 0),(8,pt b22 0),(9,vW r157.2),(10,vI i_70),(11,pt b159 0),(14,vI r160.2.1),(16,pt b190 0),(18,vW r197.1),(19,pt b199 0),(20,vB s.1),(21,vB s.2.1),(22,vI s.2.2)]) (Lf:=fun (s:Bool×Bool×Int)=>Bk b199 41 (Ap.c r197.2.1)::Bk b145 96 [vI r160.2.2.c.Policy,vI r160.2.2.c.Entries,vI r160.2.2.c.Bytes,vW r160.2.2.c.Seed,pv163,pv166,g168,vW r160.2.2.seq,vW r160.2.2.now,vW r160.2.2.version,vI r160.2.2.tally.Asked,vI r160.2.2.tally.Hits]::Bk b22 77 (Ac.k r171.1 v172)::Bk b190 41 (Ap.c r171.2.1)::Bk b189 77 (Ac.k r171.1 v172)::Bk b170 41 (Ap.c r160.1)::Bk b159 35 (AK.c r157.1)::Bk b1 24 (Au.c (AN a0))::Bk b0 24 (Au.c a0)::rO (Am.op g164) pv163 r160.2.2.t::rO (Ah.op g167) pv166 r160.2.2.p::OwM vW Ar.v g168 r160.2.2.sessions::F) (((r171.1.Sessions.length:Int)-0).toNat+1) (r197.2.2,false,0) hp201 ⟨z,z,z,z,z,z,z,z,z,z,z,z,z,z,y_⟩ (pk 12 [0,1,5,6,7,8,9,10,11,2,3,4]) (fun _ h=>by cases h) fun k209 s hM211 =>?_
 obtain ⟨is_206,found_207,k_208⟩:=s
 have hm210:Bj r157 r171 r197 (k209+1) is_206 found_207 k_208=some p200:=hM211
 rw [Bj] at hm210
 refine c_seq (csr (r_mv z (r_fa fa77_3 z (r_ld 2 sc75 z z z ?_))))
 refine r_u (o_lenR underlying75 z hf173.2.2) (r_bin z z (bI_lt _ _) (nsq ?_))
 refine c_if (b:=decide (k_208<(r171.1.Sessions.length:Int))) z (fun h212 =>?_) fun h212 =>?_
 rotate_left
 ·have hm213:=iff_ hm210 h212
  refine c_exit (x_exit (ks':=_) z ?_)
  obtain rfl:=si hm213
  exact x_sub K203 ⟨z,z,z,z,z,z,z,z,z,z,z,y_⟩ id_
 have hm213:=ift hm210 h212
 refine c_skip (x_seq (c_seq (c_blk (c_seq ?_))))
 obtain ⟨x214,hx214,hm215⟩:=bs hm213
 obtain ⟨b214,o214,l214,T214,fr214,c214,hv214,hR214,he214,hi214⟩:=RoS.ne hf173.2.2 hx214
 refine c_any mixed (effs:=[]) (V:=[]) ?_
 refine stn mk27_ [0,1,2,3,4,5,6,7,8] [] [_,_,_,_,_,_,_,_,_] (q_fa z z fa77_3 z (q_ld z z 2 sc75 z z z (q_mv z z z (q_u z z (o_ix (sz:=5) underlying75 kr z z hv214 hi214) (q_fa z z fa83_0 z (q_u z z (o_ldR sc22 z hR214 (rok 0 he214 (by decide))) (q_fa z z fa35_2 z (q_ld z z 6 sc22 z z z (q_u z z (o_bin z z (bW_eq _ _)) qn))))))))) en ?_
 intro _
 refine ex_sub (E':=[(1,v1_),(5,pt b1 0),(6,pt b145 0),(8,pt b22 0),(9,vW r157.2),(10,vI i_70),(11,pt b159 0),(14,vI r160.2.1),(16,pt b190 0),(18,vW r197.1),(19,pt b199 0),(20,vB is_206),(21,vB found_207),(22,vI k_208),(111,vB (x214.Session==r157.1.Session))]) ⟨z,z,z,z,z,z,z,z,z,z,z,z,z,z,z,y_⟩ ?_
 refine x_seq ?_
 obtain ⟨p216,hp217,hm218⟩:=bs hm215
 refine cd_join (E':=[(1,v1_),(5,pt b1 0),(6,pt b145 0),(8,pt b22 0),(9,vW r157.2),(10,vI i_70),(11,pt b159 0),(14,vI r160.2.1),(16,pt b190 0),(18,vW r197.1),(19,pt b199 0),(22,vI k_208),(20,vB p216.1),(21,vB p216.2)]) (L':=Bk b199 41 (Ap.c r197.2.1)::Bk b145 96 [vI r160.2.2.c.Policy,vI r160.2.2.c.Entries,vI r160.2.2.c.Bytes,vW r160.2.2.c.Seed,pv163,pv166,g168,vW r160.2.2.seq,vW r160.2.2.now,vW r160.2.2.version,vI r160.2.2.tally.Asked,vI r160.2.2.tally.Hits]::Bk b22 77 (Ac.k r171.1 v172)::Bk b190 41 (Ap.c r171.2.1)::Bk b189 77 (Ac.k r171.1 v172)::Bk b170 41 (Ap.c r160.1)::Bk b159 35 (AK.c r157.1)::Bk b1 24 (Au.c (AN a0))::Bk b0 24 (Au.c a0)::rO (Am.op g164) pv163 r160.2.2.t::rO (Ah.op g167) pv166 r160.2.2.p::OwM vW Ar.v g168 r160.2.2.sessions::F) ?_ fun K219 =>?_
 ·refine x_blk (x_seq (c_reg (r_mv z (r_bin z z (bI_add _ 1) (r_as z (r_nil ?_))))))
  exact x_lp (p216.1,p216.2,i64 (k_208+1)) hm218 ⟨z,z,z,z,z,z,z,z,z,z,z,z,z,z,y_⟩ id_
 refine c_if (b:=(x214.Session==r157.1.Session)) z (fun h220 =>?_) fun h220 =>?_
 ·have hm221:=ift hp217 h220
  refine c_seq ?_
  refine c_any mixed (effs:=[]) (V:=[]) ?_
  refine stn [0,1,3,7,3,31,63,127,3,511,1023,2047,4095,8191,4095,32767,65535,131071,4095,524287,1048575,2097151] [0,1,2,3,4,5,6,7,8,9,10,11,12,13,14,15,16,17,18,19,20,21] [] [_,_,_,_,_,_,_,_,_,_,_,_,_,_,_,_,_,_,_,_,_,_] (q_mv z z z (q_mv z z z (qc z z (s_gt z z fun g=>o_fa fa77_3 z) (qc z z (s_gt z z fun g=>o_ld 2 sc75 (evg z g) z z) (qc z z (s_gt z z fun g=>o_mv z) (qc z z (s_gt z z fun g=>o_ix (sz:=5) underlying75 kr (evg z g) (evg z g) hv214 hi214) (qc z z (s_gt z z fun g=>o_fa fa83_1 (evg z g)) (qc z z (s_gt z z fun g=>o_ldR sc22 (evg z g) hR214 (rok 1 he214 (by decide))) (qc z z (s_gt z z fun g=>o_mv z) (qc z z (s_gt z z fun g=>o_bin (evg z g) (evg z g) (bW_eq _ _)) (q_u z z (o_and z z) (q_mv z z z (qc z z (s_gt z z fun g=>o_fa fa77_3 z) (qc z z (s_gt z z fun g=>o_ld 2 sc75 (evg z g) z z) (qc z z (s_gt z z fun g=>o_mv z) (qc z z (s_gt z z fun g=>o_ix (sz:=5) underlying75 kr (evg z g) (evg z g) hv214 hi214) (qc z z (s_gt z z fun g=>o_fa fa83_2 (evg z g)) (qc z z (s_gt z z fun g=>o_ldnR (Ap.c x214.Reply) ag41 (evg z g) hR214 (rokn 2 3 he214) z) (qc z z (s_gt z z fun g=>o_ldn 0 (Ap.c r197.2.1) ag41 z z z z) (qc z z (s_gt z z fun g=>o_bin (evg z g) (evg z g) (Ap.beq_41 x214.Reply r197.2.1)) (q_u z z (o_and z z) (q_u z z (o_as z) qn)))))))))))))))))))))) en ?_
  intro _
  refine ex_sub (E':=[(1,v1_),(5,pt b1 0),(6,pt b145 0),(8,pt b22 0),(9,vW r157.2),(10,vI i_70),(11,pt b159 0),(14,vI r160.2.1),(16,pt b190 0),(18,vW r197.1),(19,pt b199 0),(21,vB ((is_206&&(x214.Num==r197.1))&&decide (x214.Reply=r197.2.1))),(22,vI k_208)]) ⟨z,z,z,z,z,z,z,z,z,z,z,z,z,y_⟩ ?_
  refine x_seq (c_reg (r_as z (r_nil ?_)))
  obtain rfl:=si hm221
  exact x_sub K219 ⟨z,z,z,z,z,z,z,z,z,z,z,z,z,z,y_⟩ id_
 have hm221:=iff_ hp217 h220
 refine c_skip ?_
 obtain rfl:=si hm221
 exact x_sub K219 ⟨z,z,z,z,z,z,z,z,z,z,z,z,z,z,y_⟩ id_
end Go.Proofs.YtpanhdnglicknaaGreat
