import Derived.Test.YtpanhdnglicknaaGreatW3
import Derived.Test.YtpanhdnglicknaaGreatFacts
import Derived.Test.YtpanhdnglicknaaGreatHwZ
import Derived.Test.YtpanhdnglicknaaGreatHwW
import Derived.Test.YtpanhdnglicknaaGreatHw8
set_option linter.unusedVariables false
set_option linter.unusedSectionVars false
set_option linter.unusedSimpArgs false
set_option maxRecDepth 100000
set_option maxHeartbeats 4000000
namespace Go.Proofs.YtpanhdnglicknaaGreat
open _root_.Go.Proofs.Tryz Go Go.Proofs.YtpanhdnglicknaaGreat.Hw
def BH(a0:Ac):Nat→Int→Ac→Option (Ac)
 | 0,_,_=>none
 | k115+1,i_97,c_98=>if decide (i_97<(a0.T.length:Int)) then (gi a0.T i_97).bind fun x120=>Option.bind (if (decide (0<x120.End)&&decide (x120.End≤c_98.Now)) then (Bs c_98 x120.Key).bind fun r144=>some r144 else some c_98) fun p122=>BH a0 k115 (i64 (i_97+1)) p122 else some c_98
def CC(a0:Ac)(a1:AK):Option (Ac×Ap×Int) :=
 if !(C9 a1.Op) then some (a0,(⟨0,[],0⟩:Ap),1) else if ((a0.Seq==18446744073709551615)||(a1.Seq != (a0.Seq+1))) then some (a0,(⟨0,[],0⟩:Ap),123) else Option.bind (if decide (a0.Now<a1.Now) then some a1.Now else some a0.Now) fun p8=>Option.bind (BH a0 (((a0.T.length:Int)-0).toNat+1) 0 (⟨a0.C,a0.T,a0.P,a0.Sessions,a0.Seq+1,p8,a0.Ver,a0.Asked,a0.Hits⟩:Ac)) fun p12=>if (a1.Op.Kind==5) then some (p12,(⟨0,[],0⟩:Ap),0) else (Ch p12 a1.Session).bind fun r34=>Option.bind (if decide (0≤r34) then (gi p12.Sessions r34).bind fun x95=>some (x95.Num==a1.Num) else some false) fun p36=>if p36 then (gi p12.Sessions r34).bind fun x42=>some (p12,x42.Reply,0) else Option.bind (if decide (0≤r34) then (gi p12.Sessions r34).bind fun x91=>some (decide (a1.Num<x91.Num)) else some false) fun p44=>if p44 then some (p12,(⟨122,[],0⟩:Ap),0) else if (decide (r34<0)&&decide (64≤(p12.Sessions.length:Int))) then some (p12,(⟨3,[],0⟩:Ap),0) else (CI p12 a1.Op).bind fun r52=>(Ck r52.1 (⟨a1.Session,a1.Num,r52.2⟩:As)).bind fun r71=>some (r71,r52.2,0)
theorem CC.ok{G R F}(a0:Ac)(g0_:Ac.G)(h0:Ac.ro R a0 g0_)(a1:AK)(r:Ac×Ap×Int)(hm:CC a0 a1=some r):CO prog 23 [.agg (Ac.k a0 g0_).toArray,.agg (AK.c a1).toArray] G R (F)
  (Ret fun u R' L'=>∃(p0:Ac.G),u = .tuple #[.agg (Ac.k r.1 p0).toArray,.agg (Ap.c r.2.1).toArray,vI r.2.2]∧(Ac.ro R' r.1 p0)∧L'=F):=by
 unfold CC at hm
 refine co_ofN (N:=147) func23 z z ?_
 refine csr ?_
 refine r_new (o_bx (Ac.k a0 g0_) z z) fun b0 =>?_
 refine r_new (o_bx (AK.c a1) z z) fun b1 =>?_
 refine r_new (o_al ze77) fun b2 =>?_
 refine r_new (o_al ze41) fun b3 =>?_
 refine r_as z (nssr (r_fa fa35_4 z ?_))
 refine r_u (o_ldn 2 (AI.c a1.Op) ag27 z z z z) ?_
 refine r_u (o_callq ca44 z (C9.ok a1.Op _ z)) ?_
 refine r_u (o_not z) (nsq ?_)
 refine c_if (b := !(C9 a1.Op)) z (fun h4 =>?_) fun h4 =>?_
 ·have hm5:=ift hm h4
  refine csr ?_
  refine r_u (o_ldn 3 (Ac.k a0 g0_) ag77 z z z z) ?_
  refine r_u (o_bld [vI 0,vS [],vW 0] z kr) ?_
  refine rl_st (fun _ h=>mv1 h) ?_
  refine r_u0 (o_stn ag77 z z z (a_ z (a_ z (a_ z (a_ z (a_ (RoS.one h0.1) (a_ z (a_ z (a_ z (a_ (RoN.one h0.2.1.1) (a_ z (a_ z (a_ z (a_ z (a_ (RoN.one h0.2.1.2.1.1) (a_ (RoS.one h0.2.1.2.1.2) (a_ z (a_ (RoN.one h0.2.1.2.2) (a_ z (a_ (RoS.one h0.2.2) (a_ z (a_ z (a_ z (a_ z (a_ z al_n)))))))))))))))))))))))) z z z) ?_
  refine rl_st (fun _ h=>mv1 h) ?_
  refine r_u0 (o_stn ag41 z z z z z z z) (r_as z (r_nil (x_seq (c_ret ?_))))
  obtain rfl:=si hm5
  exact x_d3 z (rv_n 1 (Ac.k a0 g0_) ag77 z z z z) (rv_n 0 [vI 0,vS [],vW 0] ag41 z z z z) (rv_t z) (pk 4 []) le_ ⟨_,z,(⟨g0_.T,(⟨(⟨(⟨(g0_.P.A.R.L.1,[])⟩:Ab.G)⟩:Aa.G),(⟨(⟨(g0_.P.T.S.Rows.1,[]),g0_.P.T.S.Door⟩:Ad.G),(⟨(g0_.P.T.R.L.1,[])⟩:Ab.G)⟩:Ae.G)⟩:Af.G),g0_.Sessions⟩:Ac.G),z,⟨h0.1,⟨h0.2.1.1,⟨⟨h0.2.1.2.1.1,h0.2.1.2.1.2⟩,h0.2.1.2.2⟩⟩,h0.2.2⟩,z⟩
 have hm5:=iff_ hm h4
 refine c_skip (x_seq (c_seq (csr (r_fa fa77_4 z (r_ld 3 sc22 z z z (r_bin z z (bW_eq _ 18446744073709551615) (r_mv z ?_)))))))
 refine r_s (s_gf z z fun g=>o_fa fa35_0 z) ?_
 refine r_s (s_gf z z fun g=>o_ld 2 sc22 (evg z g) z z) ?_
 refine r_s (s_gf z z fun g=>o_fa fa77_4 z) ?_
 refine r_s (s_gf z z fun g=>o_ld 3 sc22 (evg z g) z z) ?_
 refine r_s (s_gf z z fun g=>o_bin (evg z g) z (bW_add _ 1)) ?_
 refine r_s (s_gf z z fun g=>o_bin (evg z g) (evg z g) (bW_ne _ _)) ?_
 refine r_u (o_or z z) (nsq ?_)
 refine c_if (b:=((a0.Seq==18446744073709551615)||(a1.Seq != (a0.Seq+1)))) z (fun h6 =>?_) fun h6 =>?_
 ·have hm7:=ift hm5 h6
  refine csr ?_
  refine r_u (o_ldn 3 (Ac.k a0 g0_) ag77 z z z z) ?_
  refine r_u (o_bld [vI 0,vS [],vW 0] z kr) ?_
  refine rl_st (fun _ h=>mv1 h) ?_
  refine r_u0 (o_stn ag77 z z z (a_ z (a_ z (a_ z (a_ z (a_ (RoS.one h0.1) (a_ z (a_ z (a_ z (a_ (RoN.one h0.2.1.1) (a_ z (a_ z (a_ z (a_ z (a_ (RoN.one h0.2.1.2.1.1) (a_ (RoS.one h0.2.1.2.1.2) (a_ z (a_ (RoN.one h0.2.1.2.2) (a_ z (a_ (RoS.one h0.2.2) (a_ z (a_ z (a_ z (a_ z (a_ z al_n)))))))))))))))))))))))) z z z) ?_
  refine rl_st (fun _ h=>mv1 h) ?_
  refine r_u0 (o_stn ag41 z z z z z z z) (r_as z (r_nil (x_seq (c_ret ?_))))
  obtain rfl:=si hm7
  exact x_d3 z (rv_n 1 (Ac.k a0 g0_) ag77 z z z z) (rv_n 0 [vI 0,vS [],vW 0] ag41 z z z z) (rv_t z) (pk 4 []) le_ ⟨_,z,(⟨g0_.T,(⟨(⟨(⟨(g0_.P.A.R.L.1,[])⟩:Ab.G)⟩:Aa.G),(⟨(⟨(g0_.P.T.S.Rows.1,[]),g0_.P.T.S.Door⟩:Ad.G),(⟨(g0_.P.T.R.L.1,[])⟩:Ab.G)⟩:Ae.G)⟩:Af.G),g0_.Sessions⟩:Ac.G),z,⟨h0.1,⟨h0.2.1.1,⟨⟨h0.2.1.2.1.1,h0.2.1.2.1.2⟩,h0.2.1.2.2⟩⟩,h0.2.2⟩,z⟩
 have hm7:=iff_ hm5 h6
 refine c_skip (x_seq (csr (r_fa fa77_4 z (r_ld 3 sc22 z z z (r_bin z z (bW_add _ 1) (r_fa fa77_4 z ?_))))))
 refine rl_st (fun _ h=>mv3 h) ?_
 refine r_u0 (o_st sc22 z z z z z z) (nssr (r_fa fa35_1 z (r_ld 3 sc22 z z z (r_fa fa77_5 z (r_ld 0 sc22 z z z (r_bin z z (bW_gt _ _) (nsq ?_)))))))
 obtain ⟨p8,hp9,hm10⟩:=bs hm7
 refine cd_join (E':=[(2,pt b0 0),(3,pt b1 0),(4,pt b2 0),(5,pt b3 0)]) (L':=Bk b0 77 [vI a0.C.Policy,vI a0.C.Entries,vI a0.C.Bytes,vW a0.C.Seed,g0_.T,vI a0.P.Kind,vI a0.P.A.Most,vI a0.P.A.Target,g0_.P.A.R.L.1,vI a0.P.A.R.Places,vI a0.P.T.Most,vI a0.P.T.S.Wide,vW a0.P.T.S.Seed,g0_.P.T.S.Rows.1,g0_.P.T.S.Door,vI a0.P.T.S.Added,g0_.P.T.R.L.1,vI a0.P.T.R.Places,g0_.Sessions,vW (a0.Seq+1),vW p8,vW a0.Ver,vI a0.Asked,vI a0.Hits]::Bk b3 41 [vI 0,vS [],vW 0]::Bk b2 77 [vI 0,vI 0,vI 0,vW 0,.slice none 0 0,vI 0,vI 0,vI 0,.slice none 0 0,vI 0,vI 0,vI 0,vW 0,.slice none 0 0,.slice none 0 0,vI 0,.slice none 0 0,vI 0,.slice none 0 0,vW 0,vW 0,vW 0,vI 0,vI 0]::Bk b1 35 (AK.c a1)::F) ?_ fun K11 =>?_
 rotate_left
 ·refine c_if (b:=decide (a0.Now<a1.Now)) z (fun h162 =>?_) fun h162 =>?_
  ·have hm163:=ift hp9 h162
   refine c_reg (r_fa fa35_1 z (r_ld 3 sc22 z z z (r_fa fa77_5 z ?_)))
   refine r_u0 (o_st sc22 z z z z z z) (r_nil ?_)
   obtain rfl:=si hm163
   exact x_sub K11 ⟨z,z,z,z,y_⟩ id_
  have hm163:=iff_ hp9 h162
  refine c_skip ?_
  obtain rfl:=si hm163
  exact x_sub K11 ⟨z,z,z,z,y_⟩ id_
 refine x_seq (csr (r_fa fa77_1 z (r_ld 0 sc61 z z z (r_as z (nssr (r_as z (nsq ?_)))))))
 obtain ⟨p12,hp29,hm30⟩:=bs hm10
 refine cd_cut (fun x ks=>∀(R13:PH),∀(le14:Le R R13),∀(g16:Ac.G),∀(hf15:Ac.ro R13 p12 g16),EX x .normal ks [(2,pt b0 0),(3,pt b1 0),(4,pt b2 0),(5,pt b3 0)] R13 (Bk b0 77 (Ac.k p12 g16)::Bk b3 41 [vI 0,vS [],vW 0]::Bk b2 77 [vI 0,vI 0,vI 0,vW 0,.slice none 0 0,vI 0,vI 0,vI 0,.slice none 0 0,vI 0,vI 0,vI 0,vW 0,.slice none 0 0,.slice none 0 0,vI 0,.slice none 0 0,vI 0,.slice none 0 0,vW 0,vW 0,vW 0,vI 0,vI 0]::Bk b1 35 (AK.c a1)::F)) ?_ fun K31 =>?_
 rotate_left
 ·refine c_blk ?_
  refine cd_loopG (M:=fun k115 (s:Int×Ac×Ac.G×PH)=>(BH a0 k115 s.1 s.2.1=some p12)∧(Le R s.2.2.2)∧(Ac.ro s.2.2.2 s.2.1 s.2.2.1)) (Ef:=fun (s:Int×Ac×Ac.G×PH)=>[(2,pt b0 0),(3,pt b1 0),(4,pt b2 0),(5,pt b3 0),(7,g0_.T),(8,vI s.1)]) (Rf:=fun (s:Int×Ac×Ac.G×PH)=>s.2.2.2) (Lf:=fun (s:Int×Ac×Ac.G×PH)=>Bk b0 77 (Ac.k s.2.1 s.2.2.1)::Bk b3 41 [vI 0,vS [],vW 0]::Bk b2 77 [vI 0,vI 0,vI 0,vW 0,.slice none 0 0,vI 0,vI 0,vI 0,.slice none 0 0,vI 0,vI 0,vI 0,vW 0,.slice none 0 0,.slice none 0 0,vI 0,.slice none 0 0,vI 0,.slice none 0 0,vW 0,vW 0,vW 0,vI 0,vI 0]::Bk b1 35 (AK.c a1)::F) (((a0.T.length:Int)-0).toNat+1) (0,(⟨a0.C,a0.T,a0.P,a0.Sessions,a0.Seq+1,p8,a0.Ver,a0.Asked,a0.Hits⟩:Ac),(⟨g0_.T,(⟨(⟨(⟨(g0_.P.A.R.L.1,[])⟩:Ab.G)⟩:Aa.G),(⟨(⟨(g0_.P.T.S.Rows.1,[]),g0_.P.T.S.Door⟩:Ad.G),(⟨(g0_.P.T.R.L.1,[])⟩:Ab.G)⟩:Ae.G)⟩:Af.G),g0_.Sessions⟩:Ac.G),R) ⟨hp29,le_,⟨h0.1,⟨h0.2.1.1,⟨⟨h0.2.1.2.1.1,h0.2.1.2.1.2⟩,h0.2.1.2.2⟩⟩,h0.2.2⟩⟩ ⟨z,z,z,z,z,z,y_⟩ id_ (fun _ h=>by cases h.1) fun k115 s hM117 =>?_
  obtain ⟨i_97,c_98,g102,R99⟩:=s
  have hm116:BH a0 (k115+1) i_97 c_98=some p12:=hM117.1
  have le100:Le R R99:=hM117.2.1
  have hf101:Ac.ro R99 c_98 g102:=hM117.2.2
  rw [BH] at hm116
  refine c_seq (csr (r_mv z (r_mv z ?_)))
  refine r_u (o_lenR underlying61 z (RoS.mono le100 h0.1)) (r_bin z z (bI_lt _ _) (nsq ?_))
  refine c_if (b:=decide (i_97<(a0.T.length:Int))) z (fun h118 =>?_) fun h118 =>?_
  rotate_left
  ·have hm119:=iff_ hm116 h118
   refine c_exit (x_exit (ks':=_) z ?_)
   obtain rfl:=si hm119
   exact x_sub (K31 _ le100 (⟨g102.T,(⟨(⟨(⟨(g102.P.A.R.L.1,[])⟩:Ab.G)⟩:Aa.G),(⟨(⟨(g102.P.T.S.Rows.1,[]),g102.P.T.S.Door⟩:Ad.G),(⟨(g102.P.T.R.L.1,[])⟩:Ab.G)⟩:Ae.G)⟩:Af.G),g102.Sessions⟩:Ac.G) ⟨hf101.1,⟨hf101.2.1.1,⟨⟨hf101.2.1.2.1.1,hf101.2.1.2.1.2⟩,hf101.2.1.2.2⟩⟩,hf101.2.2⟩) ⟨z,z,z,z,y_⟩ id_
  have hm119:=ift hm116 h118
  refine c_skip (x_seq (c_seq (c_blk (c_seq ?_))))
  obtain ⟨x120,hx120,hm121⟩:=bs hm119
  obtain ⟨b120,o120,l120,T120,fr120,c120,hv120,hR120,he120,hi120⟩:=RoS.ne (RoS.mono le100 h0.1) hx120
  refine c_any mixed (effs:=[]) (V:=[]) ?_
  refine stn [0,0,3,7,15,31,63,127,127,511,1023,2047,127,4223,16383,32767] [0,1,2,3,4,5,6,7,8,9,10,11,12,13,14,15] [] [_,_,_,_,_,_,_,_,_,_,_,_,_,_,_,_] (q_mv z z z (q_mv z z z (q_u z z (o_ix (sz:=4) underlying61 kr z z hv120 hi120) (q_fa z z fa50_3 z (q_u z z (o_ldR sc22 z hR120 (rok 3 he120 (by decide))) (q_u z z (o_bin z z (bW_gt _ 0)) (q_mv z z z (qc z z (s_gt z z fun g=>o_mv z) (qc z z (s_gt z z fun g=>o_mv z) (qc z z (s_gt z z fun g=>o_ix (sz:=4) underlying61 kr (evg z g) (evg z g) hv120 hi120) (qc z z (s_gt z z fun g=>o_fa fa50_3 (evg z g)) (qc z z (s_gt z z fun g=>o_ldR sc22 (evg z g) hR120 (rok 3 he120 (by decide))) (qc z z (s_gt z z fun g=>o_fa fa77_5 z) (qc z z (s_gt z z fun g=>o_ld 0 sc22 (evg z g) z z) (qc z z (s_gt z z fun g=>o_bin (evg z g) (evg z g) (bW_le _ _)) (q_u z z (o_and z z) qn)))))))))))))))) en ?_
  intro _
  refine ex_sub (E':=[(2,pt b0 0),(3,pt b1 0),(4,pt b2 0),(5,pt b3 0),(7,g0_.T),(8,vI i_97),(65,vB (decide (0<x120.End)&&decide (x120.End≤c_98.Now)))]) ⟨z,z,z,z,z,z,z,y_⟩ ?_
  refine x_seq ?_
  obtain ⟨p122,hp139,hm140⟩:=bs hm121
  refine cd_cut (fun x ks=>∀(R123:PH),∀(le124:Le R99 R123),∀(g126:Ac.G),∀(hf125:Ac.ro R123 p122 g126),EX x .normal ks [(2,pt b0 0),(3,pt b1 0),(4,pt b2 0),(5,pt b3 0),(7,g0_.T),(8,vI i_97)] R123 (Bk b0 77 (Ac.k p122 g126)::Bk b3 41 [vI 0,vS [],vW 0]::Bk b2 77 [vI 0,vI 0,vI 0,vW 0,.slice none 0 0,vI 0,vI 0,vI 0,.slice none 0 0,vI 0,vI 0,vI 0,vW 0,.slice none 0 0,.slice none 0 0,vI 0,.slice none 0 0,vI 0,.slice none 0 0,vW 0,vW 0,vW 0,vI 0,vI 0]::Bk b1 35 (AK.c a1)::F)) ?_ fun K141 =>?_
  ·intro R123 le124 g126 hf125
   refine x_blk (x_seq (c_reg (r_mv z (r_bin z z (bI_add _ 1) (r_as z (r_nil ?_))))))
   exact x_lp (i64 (i_97+1),p122,(⟨g126.T,(⟨(⟨(⟨(g126.P.A.R.L.1,[])⟩:Ab.G)⟩:Aa.G),(⟨(⟨(g126.P.T.S.Rows.1,[]),g126.P.T.S.Door⟩:Ad.G),(⟨(g126.P.T.R.L.1,[])⟩:Ab.G)⟩:Ae.G)⟩:Af.G),g126.Sessions⟩:Ac.G),R123) ⟨hm140,(Le.trans le100 le124),⟨hf125.1,⟨hf125.2.1.1,⟨⟨hf125.2.1.2.1.1,hf125.2.1.2.1.2⟩,hf125.2.1.2.2⟩⟩,hf125.2.2⟩⟩ ⟨z,z,z,z,z,z,y_⟩ id_
  refine c_if (b:=(decide (0<x120.End)&&decide (x120.End≤c_98.Now))) z (fun h142 =>?_) fun h142 =>?_
  rotate_left
  ·have hm143:=iff_ hp139 h142
   refine c_skip ?_
   obtain rfl:=si hm143
   exact x_sub (K141 _ le_ (⟨g102.T,(⟨(⟨(⟨(g102.P.A.R.L.1,[])⟩:Ab.G)⟩:Aa.G),(⟨(⟨(g102.P.T.S.Rows.1,[]),g102.P.T.S.Door⟩:Ad.G),(⟨(g102.P.T.R.L.1,[])⟩:Ab.G)⟩:Ae.G)⟩:Af.G),g102.Sessions⟩:Ac.G) ⟨hf101.1,⟨hf101.2.1.1,⟨⟨hf101.2.1.2.1.1,hf101.2.1.2.1.2⟩,hf101.2.1.2.2⟩⟩,hf101.2.2⟩) ⟨z,z,z,z,z,z,y_⟩ id_
  have hm143:=ift hp139 h142
  obtain ⟨r144,hr144,hm161⟩:=bs hm143
  refine c_any mixed (effs:=[6,7]) (V:=[]) ?_
  refine stn mk4_ [0,1,2,3,4,5] [6] [_,_,_,_,_,_] (q_u z z (o_ldn 0 (Ac.k c_98 g102) ag77 z z z z) (q_mv z z z (q_mv z z z (q_u z z (o_ix (sz:=4) underlying61 kr z z hv120 hi120) (q_fa z z fa50_0 z (q_u z z (o_ldR sc9 z hR120 (rok 0 he120 (by decide))) qn)))))) ?_ (nxt z)
  refine ec (eo_w z (s_w (o_call ca45 z (Bs.ok _ (⟨g102.T,(⟨(⟨(⟨(g102.P.A.R.L.1,[])⟩:Ab.G)⟩:Aa.G),(⟨(⟨(g102.P.T.S.Rows.1,[]),g102.P.T.S.Door⟩:Ad.G),(⟨(g102.P.T.R.L.1,[])⟩:Ab.G)⟩:Ae.G)⟩:Af.G),g102.Sessions⟩:Ac.G) ⟨hf101.1,⟨hf101.2.1.1,⟨⟨hf101.2.1.2.1.1,hf101.2.1.2.1.2⟩,hf101.2.1.2.2⟩⟩,hf101.2.2⟩ _ _ hr144))) ?_) en
  rintro _ R159 _ le160 ⟨v145,rfl,hf146,rfl⟩
  refine stage z z z z mk4_ [] [7] z z z qn ?_ (nxt z)
  refine ec (eo_u z (s_u (o_stn ag77 z z z (a_ z (a_ z (a_ z (a_ z (a_ (RoS.one hf146.1) (a_ z (a_ z (a_ z (a_ (RoN.one hf146.2.1.1) (a_ z (a_ z (a_ z (a_ z (a_ (RoN.one hf146.2.1.2.1.1) (a_ (RoS.one hf146.2.1.2.1.2) (a_ z (a_ (RoN.one hf146.2.1.2.2) (a_ z (a_ (RoS.one hf146.2.2) (a_ z (a_ z (a_ z (a_ z (a_ z al_n)))))))))))))))))))))))) z z z)) le_ ?_) en
  refine stage z z z z mk4_ [] [] z z z qn en ?_
  intro _
  refine ex_sub (E':=[(2,pt b0 0),(3,pt b1 0),(4,pt b2 0),(5,pt b3 0),(7,g0_.T),(8,vI i_97)]) ⟨z,z,z,z,z,z,y_⟩ ?_
  obtain rfl:=si hm161
  exact x_sub (K141 _ le160 (⟨v145.T,(⟨(⟨(⟨(v145.P.A.R.L.1,[])⟩:Ab.G)⟩:Aa.G),(⟨(⟨(v145.P.T.S.Rows.1,[]),v145.P.T.S.Door⟩:Ad.G),(⟨(v145.P.T.R.L.1,[])⟩:Ab.G)⟩:Ae.G)⟩:Af.G),v145.Sessions⟩:Ac.G) ⟨hf146.1,⟨hf146.2.1.1,⟨⟨hf146.2.1.2.1.1,hf146.2.1.2.1.2⟩,hf146.2.1.2.2⟩⟩,hf146.2.2⟩) ⟨z,z,z,z,z,z,y_⟩ id_
 intro R13 le14 g16 hf15
 refine x_seq (c_seq (csr (r_fa fa35_4 z (r_fa fa27_0 z (r_ld 3 sc3 z z z (r_bin z z (bI_eq _ 5) (nsq ?_)))))))
 refine c_if (b:=(a1.Op.Kind==5)) z (fun h32 =>?_) fun h32 =>?_
 ·have hm33:=ift hm30 h32
  refine csr ?_
  refine r_u (o_ldn 0 (Ac.k p12 g16) ag77 z z z z) ?_
  refine r_u (o_bld [vI 0,vS [],vW 0] z kr) ?_
  refine rl_st (fun _ h=>mv2 h) ?_
  refine r_u0 (o_stn ag77 z z z (a_ z (a_ z (a_ z (a_ z (a_ (RoS.one hf15.1) (a_ z (a_ z (a_ z (a_ (RoN.one hf15.2.1.1) (a_ z (a_ z (a_ z (a_ z (a_ (RoN.one hf15.2.1.2.1.1) (a_ (RoS.one hf15.2.1.2.1.2) (a_ z (a_ (RoN.one hf15.2.1.2.2) (a_ z (a_ (RoS.one hf15.2.2) (a_ z (a_ z (a_ z (a_ z (a_ z al_n)))))))))))))))))))))))) z z z) ?_
  refine rl_st (fun _ h=>mv2 h) ?_
  refine r_u0 (o_stn ag41 z z z z z z z) (r_as z (r_nil (x_seq (c_ret ?_))))
  obtain rfl:=si hm33
  exact x_d3 z (rv_n 1 (Ac.k p12 g16) ag77 z z z z) (rv_n 0 [vI 0,vS [],vW 0] ag41 z z z z) (rv_t z) (pk 4 []) le14 ⟨_,z,(⟨g16.T,(⟨(⟨(⟨(g16.P.A.R.L.1,[])⟩:Ab.G)⟩:Aa.G),(⟨(⟨(g16.P.T.S.Rows.1,[]),g16.P.T.S.Door⟩:Ad.G),(⟨(g16.P.T.R.L.1,[])⟩:Ab.G)⟩:Ae.G)⟩:Af.G),g16.Sessions⟩:Ac.G),z,⟨hf15.1,⟨hf15.2.1.1,⟨⟨hf15.2.1.2.1.1,hf15.2.1.2.1.2⟩,hf15.2.1.2.2⟩⟩,hf15.2.2⟩,z⟩
 have hm33:=iff_ hm30 h32
 refine c_skip (x_seq (csr ?_))
 refine r_u (o_ldn 0 (Ac.k p12 g16) ag77 z z z z) (r_fa fa35_2 z (r_ld 3 sc22 z z z ?_))
 obtain ⟨r34,hr34,hm35⟩:=bs hm33
 refine r_u (o_callq ca46 z (Ch.ok _ (⟨g16.T,(⟨(⟨(⟨(g16.P.A.R.L.1,[])⟩:Ab.G)⟩:Aa.G),(⟨(⟨(g16.P.T.S.Rows.1,[]),g16.P.T.S.Door⟩:Ad.G),(⟨(g16.P.T.R.L.1,[])⟩:Ab.G)⟩:Ae.G)⟩:Af.G),g16.Sessions⟩:Ac.G) ⟨hf15.1,⟨hf15.2.1.1,⟨⟨hf15.2.1.2.1.1,hf15.2.1.2.1.2⟩,hf15.2.1.2.2⟩⟩,hf15.2.2⟩ _ _ hr34)) (r_as z (r_nil (x_seq (c_seq (c_blk (c_seq ?_))))))
 obtain ⟨p36,hp37,hm38⟩:=bs hm35
 refine cd_join (E':=[(2,pt b0 0),(3,pt b1 0),(4,pt b2 0),(5,pt b3 0),(9,vI r34),(83,vB p36)]) (L':=Bk b0 77 (Ac.k p12 g16)::Bk b3 41 [vI 0,vS [],vW 0]::Bk b2 77 [vI 0,vI 0,vI 0,vW 0,.slice none 0 0,vI 0,vI 0,vI 0,.slice none 0 0,vI 0,vI 0,vI 0,vW 0,.slice none 0 0,.slice none 0 0,vI 0,.slice none 0 0,vI 0,.slice none 0 0,vW 0,vW 0,vW 0,vI 0,vI 0]::Bk b1 35 (AK.c a1)::F) ?_ fun K39 =>?_
 rotate_left
 ·refine cd_by (decide (0≤r34)) (fun h93 =>?_) fun h93 =>?_
  ·have hm94:=ift hp37 h93
   obtain ⟨x95,hx95,hm96⟩:=bs hm94
   obtain ⟨b95,o95,l95,T95,fr95,c95,hv95,hR95,he95,hi95⟩:=RoS.ne hf15.2.2 hx95
   refine c_any mixed (effs:=[]) (V:=[]) ?_
   refine stn mk45_ [0,1,2,3,4,5,6,7,8,9,10,11,12,13] [] [_,_,_,_,_,_,_,_,_,_,_,_,_,_] (q_mv z z z (q_u z z (o_bin z z (bI_ge _ 0)) (q_mv z z z (q_y z z z z h93 (o_fa fa77_3 z) (q_y z z z z h93 (o_ld 0 sc75 z z z) (q_y z z z z h93 (o_mv z) (q_y z z z z h93 (o_ix (sz:=5) underlying75 kr z z hv95 hi95) (q_y z z z z h93 (o_fa fa83_1 z) (q_y z z z z h93 (o_ldR sc22 z hR95 (rok 1 he95 (by decide))) (q_y z z z z h93 (o_fa fa35_3 z) (q_y z z z z h93 (o_ld 3 sc22 z z z) (q_y z z z z h93 (o_bin z z (bW_eq _ _)) (q_u z z (o_pt z h93 z) (q_u z z (o_as z) qn)))))))))))))) en ?_
   intro _
   refine ex_sub (E':=[(2,pt b0 0),(3,pt b1 0),(4,pt b2 0),(5,pt b3 0),(9,vI r34),(83,vB (x95.Num==a1.Num))]) ⟨z,z,z,z,z,z,y_⟩ ?_
   obtain rfl:=si hm96
   exact x_sub K39 ⟨z,z,z,z,z,z,y_⟩ id_
  have hm94:=iff_ hp37 h93
  refine c_any mixed (effs:=[]) (V:=[]) ?_
  refine stn mk45_ [0,1,2,3,4,5,6,7,8,9,10,11,12,13] [] [_,_,_,_,_,_,_,_,_,_,_,_,_,_] (q_mv z z z (q_u z z (o_bin z z (bI_ge _ 0)) (q_mv z z z (q_n z z z z h93 (q_n z z z z h93 (q_n z z z z h93 (q_n z z z z h93 (q_n z z z z h93 (q_n z z z z h93 (q_n z z z z h93 (q_n z z z z h93 (q_n z z z z h93 (q_u z z (o_pf z h93 z) (q_u z z (o_as z) qn)))))))))))))) en ?_
  intro _
  refine ex_sub (E':=[(2,pt b0 0),(3,pt b1 0),(4,pt b2 0),(5,pt b3 0),(9,vI r34),(83,vB false)]) ⟨z,z,z,z,z,z,y_⟩ ?_
  obtain rfl:=si hm94
  exact x_sub K39 ⟨z,z,z,z,z,z,y_⟩ id_
 refine x_seq ?_
 refine c_if (b:=p36) z (fun h40 =>?_) fun h40 =>?_
 ·have hm41:=ift hm38 h40
  refine c_seq ?_
  obtain ⟨x42,hx42,hm43⟩:=bs hm41
  obtain ⟨b42,o42,l42,T42,fr42,c42,hv42,hR42,he42,hi42⟩:=RoS.ne hf15.2.2 hx42
  refine c_any mixed (effs:=[7,8]) (V:=[]) ?_
  refine stage_st (fun _ h=>mv2 h) ?_
  refine stn mk5_ [0,1,2,3,4,5,6] [7] [_,_,_,_,_,_,_] (q_u z z (o_ldn 1 (Ac.k p12 g16) ag77 z z z z) (q_fa z z fa77_3 z (q_ld z z 1 sc75 z z z (q_mv z z z (q_u z z (o_ix (sz:=5) underlying75 kr z z hv42 hi42) (q_fa z z fa83_2 z (q_u z z (o_ldnR (Ap.c x42.Reply) ag41 z hR42 (rokn 2 3 he42) z) qn))))))) ?_ (nxt z)
  refine ec (eo_u z (s_u (o_stn ag77 z z z (a_ z (a_ z (a_ z (a_ z (a_ (RoS.one hf15.1) (a_ z (a_ z (a_ z (a_ (RoN.one hf15.2.1.1) (a_ z (a_ z (a_ z (a_ z (a_ (RoN.one hf15.2.1.2.1.1) (a_ (RoS.one hf15.2.1.2.1.2) (a_ z (a_ (RoN.one hf15.2.1.2.2) (a_ z (a_ (RoS.one hf15.2.2) (a_ z (a_ z (a_ z (a_ z (a_ z al_n)))))))))))))))))))))))) z z z)) le_ ?_) en
  refine stage_st (fun _ h=>mv2 h) ?_
  refine stage z z z z mk5_ [1,2,3,4,5,6] [8] z z z (q_fa z z fa77_3 z (q_ld z z 2 sc75 z z z (q_mv z z z (q_u z z (o_ix (sz:=5) underlying75 kr z z hv42 hi42) (q_fa z z fa83_2 z (q_u z z (o_ldnR (Ap.c x42.Reply) ag41 z hR42 (rokn 2 3 he42) z) qn)))))) ?_ (nxt z)
  refine ec (eo_u z (s_u (o_stn ag41 z z z z z z z)) le_ ?_) en
  refine stn mk5_ [9] [] [_] (q_u z z (o_as z) qn) en ?_
  intro _
  refine ex_sub (E':=[(4,pt b2 0),(5,pt b3 0),(6,vI 0)]) ⟨z,z,z,y_⟩ ?_
  refine x_seq (c_ret ?_)
  obtain rfl:=si hm43
  exact x_d3 z (rv_n 1 (Ac.k p12 g16) ag77 z z z z) (rv_n 0 (Ap.c x42.Reply) ag41 z z z z) (rv_t z) (pk 4 []) le14 ⟨_,z,(⟨g16.T,(⟨(⟨(⟨(g16.P.A.R.L.1,[])⟩:Ab.G)⟩:Aa.G),(⟨(⟨(g16.P.T.S.Rows.1,[]),g16.P.T.S.Door⟩:Ad.G),(⟨(g16.P.T.R.L.1,[])⟩:Ab.G)⟩:Ae.G)⟩:Af.G),g16.Sessions⟩:Ac.G),z,⟨hf15.1,⟨hf15.2.1.1,⟨⟨hf15.2.1.2.1.1,hf15.2.1.2.1.2⟩,hf15.2.1.2.2⟩⟩,hf15.2.2⟩,z⟩
 have hm41:=iff_ hm38 h40
 refine c_seq ?_
 obtain ⟨p44,hp45,hm46⟩:=bs hm41
 refine cd_join (E':=[(2,pt b0 0),(3,pt b1 0),(4,pt b2 0),(5,pt b3 0),(9,vI r34),(104,vB p44)]) (L':=Bk b0 77 (Ac.k p12 g16)::Bk b3 41 [vI 0,vS [],vW 0]::Bk b2 77 [vI 0,vI 0,vI 0,vW 0,.slice none 0 0,vI 0,vI 0,vI 0,.slice none 0 0,vI 0,vI 0,vI 0,vW 0,.slice none 0 0,.slice none 0 0,vI 0,.slice none 0 0,vI 0,.slice none 0 0,vW 0,vW 0,vW 0,vI 0,vI 0]::Bk b1 35 (AK.c a1)::F) ?_ fun K47 =>?_
 rotate_left
 ·refine cd_by (decide (0≤r34)) (fun h89 =>?_) fun h89 =>?_
  ·have hm90:=ift hp45 h89
   obtain ⟨x91,hx91,hm92⟩:=bs hm90
   obtain ⟨b91,o91,l91,T91,fr91,c91,hv91,hR91,he91,hi91⟩:=RoS.ne hf15.2.2 hx91
   refine c_any mixed (effs:=[]) (V:=[]) ?_
   refine stn mk45_ [0,1,2,3,4,5,6,7,8,9,10,11,12,13] [] [_,_,_,_,_,_,_,_,_,_,_,_,_,_] (q_mv z z z (q_u z z (o_bin z z (bI_ge _ 0)) (q_mv z z z (q_y z z z z h89 (o_fa fa77_3 z) (q_y z z z z h89 (o_ld 0 sc75 z z z) (q_y z z z z h89 (o_mv z) (q_y z z z z h89 (o_ix (sz:=5) underlying75 kr z z hv91 hi91) (q_y z z z z h89 (o_fa fa83_1 z) (q_y z z z z h89 (o_ldR sc22 z hR91 (rok 1 he91 (by decide))) (q_y z z z z h89 (o_fa fa35_3 z) (q_y z z z z h89 (o_ld 3 sc22 z z z) (q_y z z z z h89 (o_bin z z (bW_gt _ _)) (q_u z z (o_pt z h89 z) (q_u z z (o_as z) qn)))))))))))))) en ?_
   intro _
   refine ex_sub (E':=[(2,pt b0 0),(3,pt b1 0),(4,pt b2 0),(5,pt b3 0),(9,vI r34),(104,vB (decide (a1.Num<x91.Num)))]) ⟨z,z,z,z,z,z,y_⟩ ?_
   obtain rfl:=si hm92
   exact x_sub K47 ⟨z,z,z,z,z,z,y_⟩ id_
  have hm90:=iff_ hp45 h89
  refine c_any mixed (effs:=[]) (V:=[]) ?_
  refine stn mk45_ [0,1,2,3,4,5,6,7,8,9,10,11,12,13] [] [_,_,_,_,_,_,_,_,_,_,_,_,_,_] (q_mv z z z (q_u z z (o_bin z z (bI_ge _ 0)) (q_mv z z z (q_n z z z z h89 (q_n z z z z h89 (q_n z z z z h89 (q_n z z z z h89 (q_n z z z z h89 (q_n z z z z h89 (q_n z z z z h89 (q_n z z z z h89 (q_n z z z z h89 (q_u z z (o_pf z h89 z) (q_u z z (o_as z) qn)))))))))))))) en ?_
  intro _
  refine ex_sub (E':=[(2,pt b0 0),(3,pt b1 0),(4,pt b2 0),(5,pt b3 0),(9,vI r34),(104,vB false)]) ⟨z,z,z,z,z,z,y_⟩ ?_
  obtain rfl:=si hm90
  exact x_sub K47 ⟨z,z,z,z,z,z,y_⟩ id_
 refine x_seq ?_
 refine c_if (b:=p44) z (fun h48 =>?_) fun h48 =>?_
 ·have hm49:=ift hm46 h48
  refine csr ?_
  refine r_u (o_ldn 0 (Ac.k p12 g16) ag77 z z z z) ?_
  refine r_u (o_bld [vI 122,vS [],vW 0] z kr) ?_
  refine rl_st (fun _ h=>mv2 h) ?_
  refine r_u0 (o_stn ag77 z z z (a_ z (a_ z (a_ z (a_ z (a_ (RoS.one hf15.1) (a_ z (a_ z (a_ z (a_ (RoN.one hf15.2.1.1) (a_ z (a_ z (a_ z (a_ z (a_ (RoN.one hf15.2.1.2.1.1) (a_ (RoS.one hf15.2.1.2.1.2) (a_ z (a_ (RoN.one hf15.2.1.2.2) (a_ z (a_ (RoS.one hf15.2.2) (a_ z (a_ z (a_ z (a_ z (a_ z al_n)))))))))))))))))))))))) z z z) ?_
  refine rl_st (fun _ h=>mv2 h) ?_
  refine r_u0 (o_stn ag41 z z z z z z z) (r_as z (r_nil (x_seq (c_ret ?_))))
  obtain rfl:=si hm49
  exact x_d3 z (rv_n 1 (Ac.k p12 g16) ag77 z z z z) (rv_n 0 [vI 122,vS [],vW 0] ag41 z z z z) (rv_t z) (pk 4 []) le14 ⟨_,z,(⟨g16.T,(⟨(⟨(⟨(g16.P.A.R.L.1,[])⟩:Ab.G)⟩:Aa.G),(⟨(⟨(g16.P.T.S.Rows.1,[]),g16.P.T.S.Door⟩:Ad.G),(⟨(g16.P.T.R.L.1,[])⟩:Ab.G)⟩:Ae.G)⟩:Af.G),g16.Sessions⟩:Ac.G),z,⟨hf15.1,⟨hf15.2.1.1,⟨⟨hf15.2.1.2.1.1,hf15.2.1.2.1.2⟩,hf15.2.1.2.2⟩⟩,hf15.2.2⟩,z⟩
 have hm49:=iff_ hm46 h48
 refine csr (r_mv z (r_bin z z (bI_lt _ 0) (r_mv z ?_)))
 refine r_s (s_gt z z fun g=>o_fa fa77_3 z) ?_
 refine r_s (s_gt z z fun g=>o_ld 0 sc75 (evg z g) z z) ?_
 refine r_s (s_gt z z fun g=>o_lenR underlying75 (evg z g) hf15.2.2) ?_
 refine r_s (s_gt z z fun g=>o_bin (evg z g) z (bI_ge _ 64)) ?_
 refine r_u (o_and z z) (r_as z (nsq ?_))
 refine c_if (b:=(decide (r34<0)&&decide (64≤(p12.Sessions.length:Int)))) z (fun h50 =>?_) fun h50 =>?_
 ·have hm51:=ift hm49 h50
  refine csr ?_
  refine r_u (o_ldn 0 (Ac.k p12 g16) ag77 z z z z) ?_
  refine r_u (o_bld [vI 3,vS [],vW 0] z kr) ?_
  refine rl_st (fun _ h=>mv2 h) ?_
  refine r_u0 (o_stn ag77 z z z (a_ z (a_ z (a_ z (a_ z (a_ (RoS.one hf15.1) (a_ z (a_ z (a_ z (a_ (RoN.one hf15.2.1.1) (a_ z (a_ z (a_ z (a_ z (a_ (RoN.one hf15.2.1.2.1.1) (a_ (RoS.one hf15.2.1.2.1.2) (a_ z (a_ (RoN.one hf15.2.1.2.2) (a_ z (a_ (RoS.one hf15.2.2) (a_ z (a_ z (a_ z (a_ z (a_ z al_n)))))))))))))))))))))))) z z z) ?_
  refine rl_st (fun _ h=>mv2 h) ?_
  refine r_u0 (o_stn ag41 z z z z z z z) (r_as z (r_nil (x_seq (c_ret ?_))))
  obtain rfl:=si hm51
  exact x_d3 z (rv_n 1 (Ac.k p12 g16) ag77 z z z z) (rv_n 0 [vI 3,vS [],vW 0] ag41 z z z z) (rv_t z) (pk 4 []) le14 ⟨_,z,(⟨g16.T,(⟨(⟨(⟨(g16.P.A.R.L.1,[])⟩:Ab.G)⟩:Aa.G),(⟨(⟨(g16.P.T.S.Rows.1,[]),g16.P.T.S.Door⟩:Ad.G),(⟨(g16.P.T.R.L.1,[])⟩:Ab.G)⟩:Ae.G)⟩:Af.G),g16.Sessions⟩:Ac.G),z,⟨hf15.1,⟨hf15.2.1.1,⟨⟨hf15.2.1.2.1.1,hf15.2.1.2.1.2⟩,hf15.2.1.2.2⟩⟩,hf15.2.2⟩,z⟩
 have hm51:=iff_ hm49 h50
 refine c_skip (x_blk (x_seq (csr ?_)))
 refine r_u (o_ldn 0 (Ac.k p12 g16) ag77 z z z z) (r_fa fa35_4 z ?_)
 refine r_u (o_ldn 3 (AI.c a1.Op) ag27 z z z z) ?_
 obtain ⟨r52,hr52,hm69⟩:=bs hm51
 refine r_sw (s_w (o_call ca47 z (CI.ok _ (⟨g16.T,(⟨(⟨(⟨(g16.P.A.R.L.1,[])⟩:Ab.G)⟩:Aa.G),(⟨(⟨(g16.P.T.S.Rows.1,[]),g16.P.T.S.Door⟩:Ad.G),(⟨(g16.P.T.R.L.1,[])⟩:Ab.G)⟩:Ae.G)⟩:Af.G),g16.Sessions⟩:Ac.G) ⟨hf15.1,⟨hf15.2.1.1,⟨⟨hf15.2.1.2.1.1,hf15.2.1.2.1.2⟩,hf15.2.1.2.2⟩⟩,hf15.2.2⟩ _ _ hr52))) ?_
 rintro _ R67 _ le68 ⟨v53,rfl,hf54,rfl⟩
 refine r_mv z (r_ext z z (r_ext z z ?_))
 refine r_new (o_al ze41) fun b70 =>?_
 refine rl_st (fun _ h=>mv1 h) ?_
 refine r_u0 (o_stn ag77 z z z (a_ z (a_ z (a_ z (a_ z (a_ (RoS.one hf54.1) (a_ z (a_ z (a_ z (a_ (RoN.one hf54.2.1.1) (a_ z (a_ z (a_ z (a_ z (a_ (RoN.one hf54.2.1.2.1.1) (a_ (RoS.one hf54.2.1.2.1.2) (a_ z (a_ (RoN.one hf54.2.1.2.2) (a_ z (a_ (RoS.one hf54.2.2) (a_ z (a_ z (a_ z (a_ z (a_ z al_n)))))))))))))))))))))))) z z z) ?_
 refine rl_st (fun _ h=>mv1 h) ?_
 refine r_u0 (o_stn ag41 z z z z z z z) (r_nil (x_seq (c_seq ?_)))
 obtain ⟨r71,hr71,hm88⟩:=bs hm69
 refine c_any mixed (effs:=[7,9,10]) (V:=[]) ?_
 refine stn mk7_ [0,1,2,3,4,5,6,8] [7] [_,_,_,_,_,_,_,_] (q_u z z (o_ldn 1 (Ac.k r52.1 v53) ag77 z z z z) (q_fa z z fa35_2 z (q_ld z z 4 sc22 z z z (q_fa z z fa35_3 z (q_ld z z 4 sc22 z z z (q_u z z (o_ldn 0 (Ap.c r52.2) ag41 z z z z) (q_u z z (o_bld [vW a1.Session,vW a1.Num,vI r52.2.E,vS r52.2.Value,vW r52.2.Version] z kr) (q_u z z (o_ldn 0 (Ap.c r52.2) ag41 z z z z) qn)))))))) ?_ (nxt z)
 refine ec (eo_w z (s_w (o_call ca48 z (Ck.ok _ (⟨v53.T,(⟨(⟨(⟨(v53.P.A.R.L.1,[])⟩:Ab.G)⟩:Aa.G),(⟨(⟨(v53.P.T.S.Rows.1,[]),v53.P.T.S.Door⟩:Ad.G),(⟨(v53.P.T.R.L.1,[])⟩:Ab.G)⟩:Ae.G)⟩:Af.G),v53.Sessions⟩:Ac.G) ⟨hf54.1,⟨hf54.2.1.1,⟨⟨hf54.2.1.2.1.1,hf54.2.1.2.1.2⟩,hf54.2.1.2.2⟩⟩,hf54.2.2⟩ (⟨a1.Session,a1.Num,r52.2⟩:As) _ hr71))) ?_) en
 rintro _ R86 _ le87 ⟨v72,rfl,hf73,rfl⟩
 refine stage_st (fun _ h=>mv3 h) ?_
 refine stage z z z z mk7_ [8] [9] z z z (q_u z z (o_ldn 1 (Ap.c r52.2) ag41 z z z z) qn) ?_ (nxt z)
 refine ec (eo_u z (s_u (o_stn ag77 z z z (a_ z (a_ z (a_ z (a_ z (a_ (RoS.one hf73.1) (a_ z (a_ z (a_ z (a_ (RoN.one hf73.2.1.1) (a_ z (a_ z (a_ z (a_ z (a_ (RoN.one hf73.2.1.2.1.1) (a_ (RoS.one hf73.2.1.2.1.2) (a_ z (a_ (RoN.one hf73.2.1.2.2) (a_ z (a_ (RoS.one hf73.2.2) (a_ z (a_ z (a_ z (a_ z (a_ z al_n)))))))))))))))))))))))) z z z)) le_ ?_) en
 refine stage_st (fun _ h=>mv3 h) ?_
 refine stage z z z z mk7_ [8] [10] z z z (q_u z z (o_ldn 2 (Ap.c r52.2) ag41 z z z z) qn) ?_ (nxt z)
 refine ec (eo_u z (s_u (o_stn ag41 z z z z z z z)) le_ ?_) en
 refine stn mk7_ [11] [] [_] (q_u z z (o_as z) qn) en ?_
 intro _
 refine ex_sub (E':=[(4,pt b2 0),(5,pt b3 0),(6,vI 0)]) ⟨z,z,z,y_⟩ ?_
 refine x_seq (c_ret ?_)
 obtain rfl:=si hm88
 exact x_d3 z (rv_n 1 (Ac.k r71 v72) ag77 z z z z) (rv_n 0 (Ap.c r52.2) ag41 z z z z) (rv_t z) (pk 5 []) (Le.trans (Le.trans le14 le68) le87) ⟨_,z,(⟨v72.T,(⟨(⟨(⟨(v72.P.A.R.L.1,[])⟩:Ab.G)⟩:Aa.G),(⟨(⟨(v72.P.T.S.Rows.1,[]),v72.P.T.S.Door⟩:Ad.G),(⟨(v72.P.T.R.L.1,[])⟩:Ab.G)⟩:Ae.G)⟩:Af.G),v72.Sessions⟩:Ac.G),z,⟨hf73.1,⟨hf73.2.1.1,⟨⟨hf73.2.1.2.1.1,hf73.2.1.2.1.2⟩,hf73.2.1.2.2⟩⟩,hf73.2.2⟩,z⟩
def Du(a0:Ak):UInt64 :=
 a0.now
theorem Du.ok{G R F}(b0_:Nat)(a0:Ak)(g0_:Ak.G)(r:UInt64)(hm:Du a0=r):CO prog 20 [pt b0_ 0] G R (Bk b0_ 96 (Ak.k a0 g0_)::rO (Am.op g0_.t.2) g0_.t.1 a0.t::rO (Ah.op g0_.p.2) g0_.p.1 a0.p::OwM vW Ar.v g0_.sessions a0.sessions::F)
  (Ret fun u R' L'=>u=vW r∧R'=R∧L'=Bk b0_ 96 (Ak.k a0 g0_)::rO (Am.op g0_.t.2) g0_.t.1 a0.t::rO (Ah.op g0_.p.2) g0_.p.1 a0.p::OwM vW Ar.v g0_.sessions a0.sessions::F):=by
 obtain ⟨⟨pv1,g2⟩,⟨pv4,g5⟩,g6⟩:=g0_
 unfold Du at hm
 refine co_ofN (N:=9) func20 z z ?_
 refine csr (r_as z (nssr (r_mv z (r_bin z z (bP_eqp underlying30) (nsq (c_ff z (c_skip (x_seq (csr (r_mv z (r_nc z (r_fa fa96_5 z (r_ld 0 sc22 z z z (r_as z (r_nil (x_seq (c_ret ?_)))))))))))))))))
 subst hm
 exact x_r1 z (rv_t z) le_ ⟨_,z,z,z,z⟩
def BD(a0:Ak):Cb :=
 a0.tally
theorem BD.ok{G R F}(b0_:Nat)(a0:Ak)(g0_:Ak.G)(r:Cb)(hm:BD a0=r):CO prog 17 [pt b0_ 0] G R (Bk b0_ 96 (Ak.k a0 g0_)::rO (Am.op g0_.t.2) g0_.t.1 a0.t::rO (Ah.op g0_.p.2) g0_.p.1 a0.p::OwM vW Ar.v g0_.sessions a0.sessions::F)
  (Ret fun u R' L'=>u = .agg (Cb.c r).toArray∧R'=R∧L'=Bk b0_ 96 (Ak.k a0 g0_)::rO (Am.op g0_.t.2) g0_.t.1 a0.t::rO (Ah.op g0_.p.2) g0_.p.1 a0.p::OwM vW Ar.v g0_.sessions a0.sessions::F):=by
 obtain ⟨⟨pv1,g2⟩,⟨pv4,g5⟩,g6⟩:=g0_
 unfold BD at hm
 refine co_ofN (N:=10) func17 z z ?_
 refine csr ?_
 refine r_new (o_al ze47) fun b7 =>?_
 refine nssr (r_mv z (r_bin z z (bP_eqp underlying30) (nsq (c_ff z (c_skip (x_seq (csr (r_mv z (r_nc z (r_fa fa96_7 z ?_))))))))))
 refine r_u (o_ldn 1 (Cb.c a0.tally) ag47 z z z z) ?_
 refine r_u0 (o_stn ag47 z z z z z z z) (r_nil (x_seq (c_ret ?_)))
 subst hm
 exact x_d1 z (rv_n 0 (Cb.c a0.tally) ag47 z z z z) (pk 5 [1,2,3,4]) le_ ⟨_,z,z,z,z⟩
def CT(a1:Ac)(r8:List Ai):Nat→Int→Option (Unit⊕Bool)
 | 0,_=>none
 | k23+1,i_22=>if decide (i_22<(r8.length:Int)) then (gi r8 i_22).bind fun x28=>(gi a1.T i_22).bind fun x30=>if !(decide (x28=x30)) then some (Sum.inr false) else CT a1 r8 k23 (i64 (i_22+1)) else some (Sum.inl ())
def Dz(a0:Ak)(a1:Ac):Option Bool :=
 (Cm a0).bind fun r8=>Option.bind (if ((r8.length:Int) != (a1.T.length:Int)) then some true else Option.bind (if ((Bm a0) != a1.Seq) then some true else Option.bind (if ((Du a0) != a1.Now) then some true else Option.bind (if (((BD a0).Asked) != a1.Asked) then some true else some (((BD a0).Hits) != a1.Hits)) fun p48=>some p48) fun p42=>some p42) fun p36=>some p36) fun p11=>if p11 then some false else Option.bind (CT a1 r8 (((r8.length:Int)-0).toNat+1) 0) fun (p17:Unit⊕Bool)=>(match p17 with | Sum.inl q18=>some true | Sum.inr r=>some r)
theorem Dz.ok{G R F}(b0_:Nat)(a0:Ak)(g0_:Ak.G)(a1:Ac)(g1_:Ac.G)(h1:Ac.ro R a1 g1_)(r:Bool)(hm:Dz a0 a1=some r):CO prog 24 [pt b0_ 0,.agg (Ac.k a1 g1_).toArray] G R (Bk b0_ 96 (Ak.k a0 g0_)::rO (Am.op g0_.t.2) g0_.t.1 a0.t::rO (Ah.op g0_.p.2) g0_.p.1 a0.p::OwM vW Ar.v g0_.sessions a0.sessions::F)
  (Ret fun u R' L'=>u=vB r∧R'=R∧L'=Bk b0_ 96 (Ak.k a0 g0_)::rO (Am.op g0_.t.2) g0_.t.1 a0.t::rO (Ah.op g0_.p.2) g0_.p.1 a0.p::OwM vW Ar.v g0_.sessions a0.sessions::F):=by
 obtain ⟨⟨pv1,g2⟩,⟨pv4,g5⟩,g6⟩:=g0_
 unfold Dz at hm
 refine co_ofN (N:=61) func24 z z ?_
 refine csr ?_
 refine r_new (o_bx (Ac.k a1 g1_) z z) fun b7 =>?_
 refine r_as z (nsr (r_mv z ?_))
 obtain ⟨r8,hr8,hm10⟩:=bs hm
 refine rl_st (fun _ h=>mv4 (mv4 (mv4 (mv4 h)))) ?_
 refine r_sw (s_w (o_call ca16 z (Cm.ok b0_ a0 (⟨(pv1,g2),(pv4,g5),g6⟩:Ak.G) _ hr8))) ?_
 rintro v9 R _ _ ⟨_,rfl,rfl,rfl⟩
 refine r_as z (r_nil (x_seq (c_seq (c_seq ?_))))
 obtain ⟨p11,hp12,hm13⟩:=bs hm10
 refine cd_join (E':=[(3,pt b7 0),(5,v9),(44,vB p11)]) (L':=Bk b0_ 96 [vI a0.c.Policy,vI a0.c.Entries,vI a0.c.Bytes,vW a0.c.Seed,pv1,pv4,g6,vW a0.seq,vW a0.now,vW a0.version,vI a0.tally.Asked,vI a0.tally.Hits]::Bk b7 77 (Ac.k a1 g1_)::OwS true 50 4 Ai.c v9 r8::rO (Am.op g2) pv1 a0.t::rO (Ah.op g5) pv4 a0.p::OwM vW Ar.v g6 a0.sessions::F) ?_ fun K14 =>?_
 ·refine x_seq ?_
  refine c_if (b:=p11) z (fun h15 =>?_) fun h15 =>?_
  ·have hm16:=ift hm13 h15
   refine csr (r_as z (r_nil (x_seq (c_ret ?_))))
   obtain rfl:=si hm16
   refine ex_st (pk 6 [0,3,4,5]) ?_
   exact x_r1 z (rv_t z) le_ ⟨_,z,z,z,z⟩
  have hm16:=iff_ hm13 h15
  refine c_skip (x_seq (c_seq (csr (r_as z (nsq ?_)))))
  obtain ⟨p17,hp19,hm20⟩:=bs hm16
  refine cd_joinS (p:=p17) (Ef:=fun q18=>[]) (Lf:=fun q18=>Bk b0_ 96 [vI a0.c.Policy,vI a0.c.Entries,vI a0.c.Bytes,vW a0.c.Seed,pv1,pv4,g6,vW a0.seq,vW a0.now,vW a0.version,vI a0.tally.Asked,vI a0.tally.Hits]::Bk b7 77 (Ac.k a1 g1_)::OwS true 50 4 Ai.c v9 r8::rO (Am.op g2) pv1 a0.t::rO (Ah.op g5) pv4 a0.p::OwM vW Ar.v g6 a0.sessions::F) (fun q18 hq =>?_) fun K21 =>?_
  ·subst hq
   try dsimp only at hm20
   refine x_seq (csr (r_as z (r_nil (x_seq (c_ret ?_)))))
   obtain rfl:=si hm20
   refine ex_st (pk 6 [0,3,4,5]) ?_
   exact x_r1 z (rv_t z) le_ ⟨_,z,z,z,z⟩
  refine c_blk ?_
  refine cd_loop (M:=fun k23 (i_22:Int)=>CT a1 r8 k23 i_22=some p17) (Ef:=fun (i_22:Int)=>[(3,pt b7 0),(5,v9),(6,vI i_22)]) (Lf:=fun (i_22:Int)=>Bk b0_ 96 [vI a0.c.Policy,vI a0.c.Entries,vI a0.c.Bytes,vW a0.c.Seed,pv1,pv4,g6,vW a0.seq,vW a0.now,vW a0.version,vI a0.tally.Asked,vI a0.tally.Hits]::Bk b7 77 (Ac.k a1 g1_)::OwS true 50 4 Ai.c v9 r8::rO (Am.op g2) pv1 a0.t::rO (Ah.op g5) pv4 a0.p::OwM vW Ar.v g6 a0.sessions::F) (((r8.length:Int)-0).toNat+1) 0 hp19 ⟨z,z,z,y_⟩ (fun _ h=>h) (fun _ h=>by cases h) fun k23 i_22 hM25 =>?_
  have hm24:CT a1 r8 (k23+1) i_22=some p17:=hM25
  rw [CT] at hm24
  refine c_seq (csr (r_mv z (r_mv z (r_u (o_lenO 2 underlying44 z z) (r_bin z z (bI_lt _ _) (nsq ?_))))))
  refine c_if (b:=decide (i_22<(r8.length:Int))) z (fun h26 =>?_) fun h26 =>?_
  rotate_left
  ·have hm27:=iff_ hm24 h26
   refine c_exit (x_exit (ks':=_) z ?_)
   obtain rfl:=si hm27
   exact x_sub (K21 _ z) trivial id_
  have hm27:=ift hm24 h26
  refine c_skip (x_seq (c_seq (c_blk (c_seq ?_))))
  obtain ⟨x28,hx28,hm29⟩:=bs hm27
  obtain ⟨x30,hx30,hm31⟩:=bs hm29
  obtain ⟨b30,o30,l30,T30,fr30,c30,hv30,hR30,he30,hi30⟩:=RoS.ne h1.1 hx30
  refine c_any mixed (effs:=[]) (V:=[]) ?_
  refine stn [0,0,3,7,0,16,0,112,240,511] [0,1,2,3,4,5,6,7,8,9] [] [_,_,_,_,_,_,_,_,_,_] (q_mv z z z (q_mv z z z (q_u z z (o_ixO 2 underlying44 kr z z z hx28) (q_u z z (o_ldnO 2 ag50 z z hx28 z) (q_fa z z fa77_1 z (q_ld z z 1 sc61 z z z (q_mv z z z (q_u z z (o_ix (sz:=4) underlying61 kr z z hv30 hi30) (q_u z z (o_ldnR (Ai.c x30) ag50 z hR30 he30 z) (q_u z z (o_bin z z (Ai.bne_50 x28 x30)) qn)))))))))) en ?_
  intro _
  refine ex_sub (E':=[(3,pt b7 0),(5,v9),(6,vI i_22),(60,vB (!(decide (x28=x30))))]) ⟨z,z,z,z,y_⟩ ?_
  refine x_seq ?_
  refine c_if (b := !(decide (x28=x30))) z (fun h32 =>?_) fun h32 =>?_
  ·have hm33:=ift hm31 h32
   refine csr (r_as z (r_nil (x_seq (c_ret ?_))))
   obtain rfl:=si hm33
   try dsimp only at hm20
   obtain rfl:=si hm20
   refine ex_st (pk 6 [0,3,4,5]) ?_
   exact x_r1 z (rv_t z) le_ ⟨_,z,z,z,z⟩
  have hm33:=iff_ hm31 h32
  refine c_skip (x_blk (x_seq (c_reg (r_mv z (r_bin z z (bI_add _ 1) (r_as z (r_nil ?_)))))))
  exact x_lp (i64 (i_22+1)) hm33 ⟨z,z,z,y_⟩ id_
 refine cd_by ((r8.length:Int) != (a1.T.length:Int)) (fun h34 =>?_) fun h34 =>?_
 ·have hm35:=ift hp12 h34
  refine c_any mixed (effs:=[]) (V:=[]) ?_
  refine stn mk23_ [0,1,2,3,4,5,6,7,8,9,10,11,12,13,14,15,16,17,18,19,20,21,22,23,24,25,26,27,28,29,30,31,32,33,34,35] [] [_,_,_,_,_,_,_,_,_,_,_,_,_,_,_,_,_,_,_,_,_,_,_,_,_,_,_,_,_,_,_,_,_,_,_,_] (q_mv z z z (q_u z z (o_lenO 0 underlying44 z z) (q_fa z z fa77_1 z (q_ld z z 5 sc61 z z z (q_u z z (o_lenR underlying61 z h1.1) (q_u z z (o_bin z z (bI_ne _ _)) (q_mv z z z (q_n z z z z h34 (q_n z z z z h34 (q_n z z z z h34 (q_n z z z z h34 (q_n z z z z h34 (q_u z z (o_pt z h34 z) (q_mv z z z (q_n z z z z z (q_n z z z z z (q_n z z z z z (q_n z z z z z (q_n z z z z z (q_u z z (o_pt z z z) (q_mv z z z (q_n z z z z z (q_n z z z z z (q_n z z z z z (q_n z z z z z (q_n z z z z z (q_n z z z z z (q_u z z (o_pt z z z) (q_mv z z z (q_n z z z z z (q_n z z z z z (q_n z z z z z (q_n z z z z z (q_n z z z z z (q_n z z z z z (q_u z z (o_pt z z z) qn)))))))))))))))))))))))))))))))))))) en ?_
  intro _
  refine ex_sub (E':=[(3,pt b7 0),(5,v9),(44,vB true)]) ⟨z,z,z,y_⟩ ?_
  obtain rfl:=si hm35
  exact x_sub K14 ⟨z,z,z,y_⟩ (pk 6 [1,5,0,2,3,4])
 have hm35:=iff_ hp12 h34
 obtain ⟨p36,hp37,hm38⟩:=bs hm35
 refine cd_join (E':=[(3,pt b7 0),(5,v9),(44,vB p36)]) (L':=Bk b0_ 96 [vI a0.c.Policy,vI a0.c.Entries,vI a0.c.Bytes,vW a0.c.Seed,pv1,pv4,g6,vW a0.seq,vW a0.now,vW a0.version,vI a0.tally.Asked,vI a0.tally.Hits]::Bk b7 77 (Ac.k a1 g1_)::OwS true 50 4 Ai.c v9 r8::rO (Am.op g2) pv1 a0.t::rO (Ah.op g5) pv4 a0.p::OwM vW Ar.v g6 a0.sessions::F) ?_ fun K39 =>?_
 ·obtain rfl:=si hm38
  exact x_sub K14 ⟨z,z,z,y_⟩ id_
 refine cd_by ((Bm a0) != a1.Seq) (fun h40 =>?_) fun h40 =>?_
 ·have hm41:=ift hp37 h40
  refine c_any mixed (effs:=[]) (V:=[]) ?_
  refine stn mk23_ [0,1,2,3,4,5,6,7,8,9,10,11,12,13,14,15,16,17,18,19,20,21,22,23,24,25,26,27,28,29,30,31,32,33,34,35] [] [_,_,_,_,_,_,_,_,_,_,_,_,_,_,_,_,_,_,_,_,_,_,_,_,_,_,_,_,_,_,_,_,_,_,_,_] (q_mv z z z (q_u z z (o_lenO 0 underlying44 z z) (q_fa z z fa77_1 z (q_ld z z 5 sc61 z z z (q_u z z (o_lenR underlying61 z h1.1) (q_u z z (o_bin z z (bI_ne _ _)) (q_mv z z z (q_y z z z z h34 (o_mv z) (q_y z z z z h34 (o_callqP ca14 z (Bm.ok b0_ a0 (⟨(pv1,g2),(pv4,g5),g6⟩:Ak.G) _ z) (pk 6 [1,2,3,4,0,5]) (pk 6 [4,0,1,2,3,5])) (q_y z z z z h34 (o_fa fa77_4 z) (q_y z z z z h34 (o_ld 5 sc22 z z z) (q_y z z z z h34 (o_bin z z (bW_ne _ _)) (q_u z z (o_pf z h34 z) (q_mv z z z (q_n z z z z h40 (q_n z z z z h40 (q_n z z z z h40 (q_n z z z z h40 (q_n z z z z h40 (q_u z z (o_pt z h40 z) (q_mv z z z (q_n z z z z z (q_n z z z z z (q_n z z z z z (q_n z z z z z (q_n z z z z z (q_n z z z z z (q_u z z (o_pt z z z) (q_mv z z z (q_n z z z z z (q_n z z z z z (q_n z z z z z (q_n z z z z z (q_n z z z z z (q_n z z z z z (q_u z z (o_pt z z z) qn)))))))))))))))))))))))))))))))))))) en ?_
  intro _
  refine ex_sub (E':=[(3,pt b7 0),(5,v9),(44,vB true)]) ⟨z,z,z,y_⟩ ?_
  obtain rfl:=si hm41
  exact x_sub K39 ⟨z,z,z,y_⟩ (pk 6 [1,5,0,2,3,4])
 have hm41:=iff_ hp37 h40
 obtain ⟨p42,hp43,hm44⟩:=bs hm41
 refine cd_join (E':=[(3,pt b7 0),(5,v9),(44,vB p42)]) (L':=Bk b0_ 96 [vI a0.c.Policy,vI a0.c.Entries,vI a0.c.Bytes,vW a0.c.Seed,pv1,pv4,g6,vW a0.seq,vW a0.now,vW a0.version,vI a0.tally.Asked,vI a0.tally.Hits]::Bk b7 77 (Ac.k a1 g1_)::OwS true 50 4 Ai.c v9 r8::rO (Am.op g2) pv1 a0.t::rO (Ah.op g5) pv4 a0.p::OwM vW Ar.v g6 a0.sessions::F) ?_ fun K45 =>?_
 ·obtain rfl:=si hm44
  exact x_sub K39 ⟨z,z,z,y_⟩ id_
 refine cd_by ((Du a0) != a1.Now) (fun h46 =>?_) fun h46 =>?_
 ·have hm47:=ift hp43 h46
  refine c_any mixed (effs:=[]) (V:=[]) ?_
  refine stn mk23_ [0,1,2,3,4,5,6,7,8,9,10,11,12,13,14,15,16,17,18,19,20,21,22,23,24,25,26,27,28,29,30,31,32,33,34,35] [] [_,_,_,_,_,_,_,_,_,_,_,_,_,_,_,_,_,_,_,_,_,_,_,_,_,_,_,_,_,_,_,_,_,_,_,_] (q_mv z z z (q_u z z (o_lenO 0 underlying44 z z) (q_fa z z fa77_1 z (q_ld z z 5 sc61 z z z (q_u z z (o_lenR underlying61 z h1.1) (q_u z z (o_bin z z (bI_ne _ _)) (q_mv z z z (q_y z z z z h34 (o_mv z) (q_y z z z z h34 (o_callqP ca14 z (Bm.ok b0_ a0 (⟨(pv1,g2),(pv4,g5),g6⟩:Ak.G) _ z) (pk 6 [1,2,3,4,0,5]) (pk 6 [4,0,1,2,3,5])) (q_y z z z z h34 (o_fa fa77_4 z) (q_y z z z z h34 (o_ld 5 sc22 z z z) (q_y z z z z h34 (o_bin z z (bW_ne _ _)) (q_u z z (o_pf z h34 z) (q_mv z z z (q_y z z z z h40 (o_mv z) (q_y z z z z h40 (o_callqP ca20 z (Du.ok b0_ a0 (⟨(pv1,g2),(pv4,g5),g6⟩:Ak.G) _ z) (pk 6 [1,2,3,4,0,5]) (pk 6 [4,0,1,2,3,5])) (q_y z z z z h40 (o_fa fa77_5 z) (q_y z z z z h40 (o_ld 5 sc22 z z z) (q_y z z z z h40 (o_bin z z (bW_ne _ _)) (q_u z z (o_pf z h40 z) (q_mv z z z (q_n z z z z h46 (q_n z z z z h46 (q_n z z z z h46 (q_n z z z z h46 (q_n z z z z h46 (q_n z z z z h46 (q_u z z (o_pt z h46 z) (q_mv z z z (q_n z z z z z (q_n z z z z z (q_n z z z z z (q_n z z z z z (q_n z z z z z (q_n z z z z z (q_u z z (o_pt z z z) qn)))))))))))))))))))))))))))))))))))) en ?_
  intro _
  refine ex_sub (E':=[(3,pt b7 0),(5,v9),(44,vB true)]) ⟨z,z,z,y_⟩ ?_
  obtain rfl:=si hm47
  exact x_sub K45 ⟨z,z,z,y_⟩ (pk 6 [1,5,0,2,3,4])
 have hm47:=iff_ hp43 h46
 obtain ⟨p48,hp49,hm50⟩:=bs hm47
 refine cd_join (E':=[(3,pt b7 0),(5,v9),(44,vB p48)]) (L':=Bk b0_ 96 [vI a0.c.Policy,vI a0.c.Entries,vI a0.c.Bytes,vW a0.c.Seed,pv1,pv4,g6,vW a0.seq,vW a0.now,vW a0.version,vI a0.tally.Asked,vI a0.tally.Hits]::Bk b7 77 (Ac.k a1 g1_)::OwS true 50 4 Ai.c v9 r8::rO (Am.op g2) pv1 a0.t::rO (Ah.op g5) pv4 a0.p::OwM vW Ar.v g6 a0.sessions::F) ?_ fun K51 =>?_
 ·obtain rfl:=si hm50
  exact x_sub K45 ⟨z,z,z,y_⟩ id_
 refine cd_by (((BD a0).Asked) != a1.Asked) (fun h52 =>?_) fun h52 =>?_
 ·have hm53:=ift hp49 h52
  refine c_any mixed (effs:=[]) (V:=[]) ?_
  refine stn mk23_ [0,1,2,3,4,5,6,7,8,9,10,11,12,13,14,15,16,17,18,19,20,21,22,23,24,25,26,27,28,29,30,31,32,33,34,35] [] [_,_,_,_,_,_,_,_,_,_,_,_,_,_,_,_,_,_,_,_,_,_,_,_,_,_,_,_,_,_,_,_,_,_,_,_] (q_mv z z z (q_u z z (o_lenO 0 underlying44 z z) (q_fa z z fa77_1 z (q_ld z z 5 sc61 z z z (q_u z z (o_lenR underlying61 z h1.1) (q_u z z (o_bin z z (bI_ne _ _)) (q_mv z z z (q_y z z z z h34 (o_mv z) (q_y z z z z h34 (o_callqP ca14 z (Bm.ok b0_ a0 (⟨(pv1,g2),(pv4,g5),g6⟩:Ak.G) _ z) (pk 6 [1,2,3,4,0,5]) (pk 6 [4,0,1,2,3,5])) (q_y z z z z h34 (o_fa fa77_4 z) (q_y z z z z h34 (o_ld 5 sc22 z z z) (q_y z z z z h34 (o_bin z z (bW_ne _ _)) (q_u z z (o_pf z h34 z) (q_mv z z z (q_y z z z z h40 (o_mv z) (q_y z z z z h40 (o_callqP ca20 z (Du.ok b0_ a0 (⟨(pv1,g2),(pv4,g5),g6⟩:Ak.G) _ z) (pk 6 [1,2,3,4,0,5]) (pk 6 [4,0,1,2,3,5])) (q_y z z z z h40 (o_fa fa77_5 z) (q_y z z z z h40 (o_ld 5 sc22 z z z) (q_y z z z z h40 (o_bin z z (bW_ne _ _)) (q_u z z (o_pf z h40 z) (q_mv z z z (q_y z z z z h46 (o_mv z) (q_y z z z z h46 (o_callqP ca17 z (BD.ok b0_ a0 (⟨(pv1,g2),(pv4,g5),g6⟩:Ak.G) _ z) (pk 6 [1,2,3,4,0,5]) (pk 6 [4,0,1,2,3,5])) (q_y z z z z h46 (o_fd (v:=vI ((BD a0).Asked)) z kr) (q_y z z z z h46 (o_fa fa77_7 z) (q_y z z z z h46 (o_ld 5 sc2 z z z) (q_y z z z z h46 (o_bin z z (bI_ne _ _)) (q_u z z (o_pf z h46 z) (q_mv z z z (q_n z z z z h52 (q_n z z z z h52 (q_n z z z z h52 (q_n z z z z h52 (q_n z z z z h52 (q_n z z z z h52 (q_u z z (o_pt z h52 z) qn)))))))))))))))))))))))))))))))))))) en ?_
  intro _
  refine ex_sub (E':=[(3,pt b7 0),(5,v9),(44,vB true)]) ⟨z,z,z,y_⟩ ?_
  obtain rfl:=si hm53
  exact x_sub K51 ⟨z,z,z,y_⟩ (pk 6 [1,5,0,2,3,4])
 have hm53:=iff_ hp49 h52
 refine c_any mixed (effs:=[]) (V:=[]) ?_
 refine stn mk23_ [0,1,2,3,4,5,6,7,8,9,10,11,12,13,14,15,16,17,18,19,20,21,22,23,24,25,26,27,28,29,30,31,32,33,34,35] [] [_,_,_,_,_,_,_,_,_,_,_,_,_,_,_,_,_,_,_,_,_,_,_,_,_,_,_,_,_,_,_,_,_,_,_,_] (q_mv z z z (q_u z z (o_lenO 0 underlying44 z z) (q_fa z z fa77_1 z (q_ld z z 5 sc61 z z z (q_u z z (o_lenR underlying61 z h1.1) (q_u z z (o_bin z z (bI_ne _ _)) (q_mv z z z (q_y z z z z h34 (o_mv z) (q_y z z z z h34 (o_callqP ca14 z (Bm.ok b0_ a0 (⟨(pv1,g2),(pv4,g5),g6⟩:Ak.G) _ z) (pk 6 [1,2,3,4,0,5]) (pk 6 [4,0,1,2,3,5])) (q_y z z z z h34 (o_fa fa77_4 z) (q_y z z z z h34 (o_ld 5 sc22 z z z) (q_y z z z z h34 (o_bin z z (bW_ne _ _)) (q_u z z (o_pf z h34 z) (q_mv z z z (q_y z z z z h40 (o_mv z) (q_y z z z z h40 (o_callqP ca20 z (Du.ok b0_ a0 (⟨(pv1,g2),(pv4,g5),g6⟩:Ak.G) _ z) (pk 6 [1,2,3,4,0,5]) (pk 6 [4,0,1,2,3,5])) (q_y z z z z h40 (o_fa fa77_5 z) (q_y z z z z h40 (o_ld 5 sc22 z z z) (q_y z z z z h40 (o_bin z z (bW_ne _ _)) (q_u z z (o_pf z h40 z) (q_mv z z z (q_y z z z z h46 (o_mv z) (q_y z z z z h46 (o_callqP ca17 z (BD.ok b0_ a0 (⟨(pv1,g2),(pv4,g5),g6⟩:Ak.G) _ z) (pk 6 [1,2,3,4,0,5]) (pk 6 [4,0,1,2,3,5])) (q_y z z z z h46 (o_fd (v:=vI ((BD a0).Asked)) z kr) (q_y z z z z h46 (o_fa fa77_7 z) (q_y z z z z h46 (o_ld 5 sc2 z z z) (q_y z z z z h46 (o_bin z z (bI_ne _ _)) (q_u z z (o_pf z h46 z) (q_mv z z z (q_y z z z z h52 (o_mv z) (q_y z z z z h52 (o_callqP ca17 z (BD.ok b0_ a0 (⟨(pv1,g2),(pv4,g5),g6⟩:Ak.G) _ z) (pk 6 [1,2,3,4,0,5]) (pk 6 [4,0,1,2,3,5])) (q_y z z z z h52 (o_fd (v:=vI ((BD a0).Hits)) z kr) (q_y z z z z h52 (o_fa fa77_8 z) (q_y z z z z h52 (o_ld 5 sc2 z z z) (q_y z z z z h52 (o_bin z z (bI_ne _ _)) (q_u z z (o_pf z h52 z) qn)))))))))))))))))))))))))))))))))))) en ?_
 intro _
 refine ex_sub (E':=[(3,pt b7 0),(5,v9),(44,vB (((BD a0).Hits) != a1.Hits))]) ⟨z,z,z,y_⟩ ?_
 obtain rfl:=si hm53
 exact x_sub K51 ⟨z,z,z,y_⟩ (pk 6 [1,5,0,2,3,4])
def CP(a0:Ak)(a1:UInt64):UInt64×Ap×Bool :=
 (((mget a0.sessions a1).getD ((⟨0,(⟨0,[],0⟩:Ap)⟩:Ar):Ar)).num,(((mget a0.sessions a1).getD ((⟨0,(⟨0,[],0⟩:Ap)⟩:Ar):Ar)).reply),(mget a0.sessions a1).isSome)
theorem CP.ok{G R F}(b0_:Nat)(a0:Ak)(g0_:Ak.G)(a1:UInt64)(r:UInt64×Ap×Bool)(hm:CP a0 a1=r):CO prog 21 [pt b0_ 0,vW a1] G R (Bk b0_ 96 (Ak.k a0 g0_)::rO (Am.op g0_.t.2) g0_.t.1 a0.t::rO (Ah.op g0_.p.2) g0_.p.1 a0.p::OwM vW Ar.v g0_.sessions a0.sessions::F)
  (Ret fun u R' L'=>u = .tuple #[vW r.1,.agg (Ap.c r.2.1).toArray,vB r.2.2]∧R'=R∧L'=Bk b0_ 96 (Ak.k a0 g0_)::rO (Am.op g0_.t.2) g0_.t.1 a0.t::rO (Ah.op g0_.p.2) g0_.p.1 a0.p::OwM vW Ar.v g0_.sessions a0.sessions::F):=by
 obtain ⟨⟨pv1,g2⟩,⟨pv4,g5⟩,g6⟩:=g0_
 unfold CP at hm
 refine co_ofN (N:=26) func21 z z ?_
 refine csr (r_as z ?_)
 refine r_new (o_al ze41) fun b7 =>?_
 refine r_as z (nssr (r_mv z (r_bin z z (bP_eqp underlying30) (nsq (c_ff z (c_skip (x_seq (csr (r_mv z (r_nc z (r_fa fa96_3 z (r_ld 1 sc94 z z z (r_mv z ?_)))))))))))))
 refine r_u (o_lk (kv:=vW) (vv:=Ar.v) (key:=a1) (z0:=((⟨0,(⟨0,[],0⟩:Ap)⟩:Ar):Ar)) 4 underlying94 (kok_W underlying22) kr z z z) (r_mv z (r_ext z z (r_ext z z ?_)))
 refine r_new (o_al ze102) fun b8 =>?_
 refine r_u0 (o_stn ag102 z z z z z z z) (r_as z (r_nil (x_seq (c_seq ?_))))
 refine c_any mixed (effs:=[6]) (V:=[]) ?_
 refine stage_st (fun _ h=>mv1 h) ?_
 refine stn mk22_ [0,1,2,3,4,5] [6] [_,_,_,_,_,_] (q_fa z z fa102_0 z (q_ld z z 1 sc22 z z z (q_fa z z fa102_1 z (q_u z z (o_ldn 1 (Ap.c (((mget a0.sessions a1).getD ((⟨0,(⟨0,[],0⟩:Ap)⟩:Ar):Ar)).reply)) ag41 z z z z) (q_mv z z z (q_u z z (o_as z) qn)))))) ?_ (nxt z)
 refine ec (eo_u z (s_u (o_stn ag41 z z z z z z z)) le_ ?_) en
 refine stx [7] mk22_ [4,7] [] [_] (q_mv z z z (q_u z z (o_as z) qn)) en ?_
 intro _
 refine ex_sub (E':=[(4,vW (((mget a0.sessions a1).getD ((⟨0,(⟨0,[],0⟩:Ap)⟩:Ar):Ar)).num)),(5,pt b7 0),(6,vB ((mget a0.sessions a1).isSome))]) ⟨z,z,z,y_⟩ ?_
 refine x_seq (c_ret ?_)
 subst hm
 exact x_d3 z (rv_t z) (rv_n 0 (Ap.c (((mget a0.sessions a1).getD ((⟨0,(⟨0,[],0⟩:Ap)⟩:Ar):Ar)).reply)) ag41 z z z z) (rv_t z) (pk 6 [2,3,4,5]) le_ ⟨_,z,z,z,z⟩
def CU(a0:Am)(r3:List Str):Nat→Str→Int→Option (Str)
 | 0,_,_=>none
 | k12+1,out_10,s_11=>if decide (s_11<(r3.length:Int)) then (gi r3 s_11).bind fun x17=>(Dw x17).bind fun r20=>(Dw (((mget a0.m x17).getD ((⟨[],[],0,0⟩:Ai):Ai)).Value)).bind fun r22=>if r20.length+r22.length≤maxS then (AJ (((mget a0.m x17).getD ((⟨[],[],0,0⟩:Ai):Ai)).Version)).bind fun r26=>if (r20++r22).length+r26.length≤maxS then (AJ (((mget a0.m x17).getD ((⟨[],[],0,0⟩:Ai):Ai)).End)).bind fun r30=>if ((r20++r22)++r26).length+r30.length≤maxS then if out_10.length+(((r20++r22)++r26)++r30).length≤maxS then CU a0 r3 k12 (out_10++(((r20++r22)++r26)++r30)) (i64 (s_11+1)) else none else none else none else none else some out_10
def DA(a0:Am):Option Str :=
 (AJ (toW (a0.m.length:Int))).bind fun r1=>(C5 a0).bind fun r3=>Option.bind (CU a0 r3 (((r3.length:Int)-0).toNat+1) r1 0) fun p6=>some p6
theorem DA.ok{G R F}(b0_:Nat)(a0:Am)(g0_:Am.G)(r:Str)(hm:DA a0=some r):CO prog 50 [pt b0_ 0] G R (Bk b0_ 138 [g0_.m,vI a0.bytes]::OwM vS Ai.v g0_.m a0.m::F)
  (Ret fun u R' L'=>u=vS r∧R'=R∧L'=Bk b0_ 138 [g0_.m,vI a0.bytes]::OwM vS Ai.v g0_.m a0.m::F):=by
 unfold DA at hm
 refine co_ofN (N:=47) func50 z z ?_
 refine csr (r_as z (nssr (r_mv z (r_bin z z (bP_eqp underlying92) (nsq (c_ff z (c_skip (x_seq (csr (r_mv z (r_nc z (r_fa fa138_0 z (r_ld 0 sc136 z z z ?_)))))))))))))
 refine r_u (o_lenM (kv:=vS) (vv:=Ai.v) 1 underlying136 z z) (r_u (o_cv z (cIW underlying3 underlying22 (a0.m.length:Int))) ?_)
 obtain ⟨r1,hr1,hm2⟩:=bs hm
 refine r_u (o_callq ca49 z (AJ.ok _ _ hr1)) (r_as z (nssr (r_mv z ?_)))
 obtain ⟨r3,hr3,hm5⟩:=bs hm2
 refine r_sw (s_w (o_call ca39 z (C5.ok b0_ a0 g0_ _ hr3))) ?_
 rintro v4 R _ _ ⟨_,rfl,rfl,rfl⟩
 refine r_u (o_lenO 0 underlying98 z z) (r_mv z (nsq ?_))
 obtain ⟨p6,hp7,hm8⟩:=bs hm5
 refine cd_join (E':=[(3,vS p6)]) (L':=Bk b0_ 138 [g0_.m,vI a0.bytes]::OwS true 9 1 eS v4 r3::OwM vS Ai.v g0_.m a0.m::F) ?_ fun K9 =>?_
 ·refine x_seq (csr (r_mv z (r_as z (r_nil (x_seq (c_ret ?_))))))
  obtain rfl:=si hm8
  refine ex_st (pk 3 [0,2]) ?_
  exact x_r1 z (rv_t z) le_ ⟨_,z,z,z,z⟩
 refine c_blk ?_
 refine cd_loop (M:=fun k12 (s:Str×Int)=>CU a0 r3 k12 s.1 s.2=some p6) (Ef:=fun (s:Str×Int)=>[(0,pt b0_ 0),(17,v4),(18,vI (r3.length:Int)),(3,vS s.1),(19,vI s.2)]) (Lf:=fun (s:Str×Int)=>Bk b0_ 138 [g0_.m,vI a0.bytes]::OwS true 9 1 eS v4 r3::OwM vS Ai.v g0_.m a0.m::F) (((r3.length:Int)-0).toNat+1) (r1,0) hp7 ⟨z,z,z,z,z,y_⟩ (pk 3 [1,0,2]) (fun _ h=>by cases h) fun k12 s hM14 =>?_
 obtain ⟨out_10,s_11⟩:=s
 have hm13:CU a0 r3 (k12+1) out_10 s_11=some p6:=hM14
 rw [CU] at hm13
 refine csr (r_bin z z (bI_lt _ _) (r_nil (x_seq (c_seq ?_))))
 refine c_if (b:=decide (s_11<(r3.length:Int))) z (fun h15 =>?_) fun h15 =>?_
 rotate_left
 ·have hm16:=iff_ hm13 h15
  refine c_exit (x_exit (ks':=_) z ?_)
  obtain rfl:=si hm16
  exact x_sub K9 ⟨z,y_⟩ id_
 have hm16:=ift hm13 h15
 refine c_skip (x_seq (c_seq (c_blk (csr ?_))))
 obtain ⟨x17,hx17,hm18⟩:=bs hm16
 refine r_u (o_ixO 1 underlying98 kr z z z hx17) (r_u (o_ldO0 1 sc9 z z hx17 z z) (r_as z (nsr (r_mv z (r_nc z (r_fa fa138_0 z (r_ld 0 sc136 z z z (r_mv z ?_))))))))
 refine r_u (o_lk1 (kv:=vS) (vv:=Ai.v) (key:=x17) (z0:=((⟨[],[],0,0⟩:Ai):Ai)) 2 underlying136 (kok_S underlying9) kr z z z) ?_
 refine r_new (o_al ze50) fun b19 =>?_
 refine r_u0 (o_stn ag50 z z z z z z z) (nsq ?_)
 obtain ⟨r20,hr20,hm21⟩:=bs hm18
 obtain ⟨r22,hr22,hm23⟩:=bs hm21
 obtain ⟨h24,hm25⟩:=ig hm23
 obtain ⟨r26,hr26,hm27⟩:=bs hm25
 obtain ⟨h28,hm29⟩:=ig hm27
 obtain ⟨r30,hr30,hm31⟩:=bs hm29
 obtain ⟨h32,hm33⟩:=ig hm31
 obtain ⟨h34,hm35⟩:=ig hm33
 refine c_any mixed (effs:=[]) (V:=[]) ?_
 refine stn [0,0,2,0,8,30,62,0,128,446,1022,0,2048,7102,16382,32767,65535] [0,1,2,3,4,5,6,7,8,9,10,11,12,13,14,15,16] [] [_,_,_,_,_,_,_,_,_,_,_,_,_,_,_,_,_] (q_mv z z z (q_mv z z z (q_u z z (o_callq ca90 z (Dw.ok _ _ hr20)) (q_fa z z fa50_1 z (q_ld z z 0 sc9 z z z (q_u z z (o_callq ca90 z (Dw.ok (((mget a0.m x17).getD ((⟨[],[],0,0⟩:Ai):Ai)).Value) _ hr22)) (q_u z z (o_bin z z (bS_add _ _ h24)) (q_fa z z fa50_2 z (q_ld z z 0 sc22 z z z (q_u z z (o_callq ca49 z (AJ.ok (((mget a0.m x17).getD ((⟨[],[],0,0⟩:Ai):Ai)).Version) _ hr26)) (q_u z z (o_bin z z (bS_add _ _ h28)) (q_fa z z fa50_3 z (q_ld z z 0 sc22 z z z (q_u z z (o_callq ca49 z (AJ.ok (((mget a0.m x17).getD ((⟨[],[],0,0⟩:Ai):Ai)).End) _ hr30)) (q_u z z (o_bin z z (bS_add _ _ h32)) (q_u z z (o_bin z z (bS_add _ _ h34)) (q_u z z (o_as z) qn))))))))))))))))) en ?_
 intro _
 refine ex_sub (E':=[(0,pt b0_ 0),(17,v4),(18,vI (r3.length:Int)),(3,vS (out_10++(((r20++r22)++r26)++r30))),(19,vI s_11)]) ⟨z,z,z,z,z,y_⟩ ?_
 refine x_blk (x_seq (c_reg (r_bin z z (bI_add _ 1) (r_mv z (r_nil ?_)))))
 exact x_lp (out_10++(((r20++r22)++r26)++r30),i64 (s_11+1)) hm35 ⟨z,z,z,z,z,y_⟩ (pk 4 [1,2,3])
def Em:Option Aj→Nat
 | none=>1
 | some r=>r.slots.length+1
def CE(a2:Int)(x2:Aj):Nat→Int→Option (List Str)
 | 0,_=>none
 | k19+1,i_18=>if (i_18 != a2) then (gi x2.slots i_18).bind fun x24=>(CE a2 x2 k19 x24.next).bind fun r_=>some (x24.key::r_) else some []
def DI(a1:Option Aj)(a2:Int):Option (List Str) :=
 om a1 (none) fun x2=>if !(CK x2 a2) then some [] else (gi x2.slots a2).bind fun x12=>Option.bind (CE a2 x2 (Em a1) x12.next) fun p14=>some p14
theorem DI.ok{G R}(b1_:Nat)(a1:Option Aj)(g1_:Value×Aj.G)(b2_:Nat)(a2:Int)(r:List Str)(hm:DI a1 a2=some r):
  Gives prog G R 231 [pt b1_ 0,pt b2_ 0] vS r [Bk b1_ 191 [g1_.1],rO (Aj.op g1_.2) g1_.1 a1,Bk b2_ 3 [vI a2]]:=by
 intro l F Inv h0 hY
 change CO prog 231 [.func (.yield l) #[] #[],pt b1_ 0,pt b2_ 0] G R (Bk b1_ 191 [g1_.1]::rO (Aj.op g1_.2) g1_.1 a1::Bk b2_ 3 [vI a2]::F) (Ret fun u R' L'=>u = .tuple #[]∧R'=R∧∃F',L'=Bk b1_ 191 [g1_.1]::rO (Aj.op g1_.2) g1_.1 a1::Bk b2_ 3 [vI a2]::F'∧Inv r F')
 obtain ⟨pv0,g1⟩:=g1_
 unfold DI at hm
 refine co_ofN (N:=39) func231 rfl rfl ?_
 refine c_seq (c_seq ?_)
 refine cd_st (pk 3 [1,0,2]) ?_
 refine cd_opt (fun ho4 =>?_) (fun x2 b3 ho4 =>?_)
 ·rintro rfl
  have hm5:=om_n hm ho4
  cases hm5
 rintro rfl
 have hm5:=om_s hm ho4
 refine cd_st (fun _ h=>st_star_o h) ?_
 refine c_reg ?_
 refine r_u (o_ld 5 sc191 rfl rfl rfl) (r_u (o_ld 6 sc3 rfl rfl rfl) ?_)
 refine r_c (s_w (o_call ca210 rfl (CK.ok b3 x2 g1 a2 _ rfl))) ?_
 refine r_u (o_not rfl) (r_nil (x_seq ?_))
 refine c_if (b := !(CK x2 a2)) rfl (fun h10 =>?_) fun h10 =>?_
 ·have hm11:=ift hm5 h10
  refine c_ret ?_
  refine ex_st (fun _ h=>st_some (f:=Aj.op g1) (a:=x2) (st_star_f (A:=Aj.fl b3 x2 g1) h)) ?_
  refine ex_st (fun _ h=>st_back ho4 h) ?_
  obtain rfl:=si hm11
  refine ex_st (pk 3 [1,0,2]) ?_
  exact x_r0 rfl le_ ⟨_,rfl,rfl,rfl,F,rfl,h0⟩
 have hm11:=iff_ hm5 h10
 refine c_skip (x_seq (c_seq ?_))
 obtain ⟨x12,hx12,hm13⟩:=bs hm11
 refine c_any mixed (effs:=[]) (V:=[]) ?_
 refine stage_ext [(0,pt b3 0),(1,pt b3 0),(2,pt b3 1),(3,g1.slots),(4,vI a2),(5,pt (sb g1.slots) (so g1.slots+a2.toNat*4)),(6,pt (sb g1.slots) (so g1.slots+a2.toNat*4+3)),(7,vI x12.next),(8,vI x12.next)] rfl ?_
 refine stage rfl rfl rfl rfl [0,1,3,7,0,31,63,127,255] [0,1,2,3,4,5,6,7,8] [] rfl rfl rfl (qc rfl rfl (s_u (o_ld 5 sc191 rfl rfl rfl)) (qc rfl rfl (s_u (o_nc rfl)) (qc rfl rfl (s_u (o_fa fa237_1 rfl)) (qc rfl rfl (s_u (o_ld 0 sc233 rfl rfl rfl)) (qc rfl rfl (s_u (o_ld 6 sc3 rfl rfl rfl)) (qc rfl rfl (s_u (o_ixO 1 underlying233 kr rfl rfl rfl hx12)) (qc rfl rfl (s_u (o_fa fa240_3 rfl)) (qc rfl rfl (s_u (o_ldO 1 3 sc3 rfl rfl hx12 rfl rfl)) (qc rfl rfl (s_u (o_as rfl)) qn))))))))) en ?_
 intro _
 refine ex_sub (E':=[(0,.func (.yield l) #[] #[]),(1,pt b1_ 0),(2,pt b2_ 0),(4,vI x12.next)]) ⟨rfl,rfl,rfl,rfl,y_⟩ ?_
 refine x_seq ?_
 obtain ⟨p14,hp15,hm16⟩:=bs hm13
 obtain rfl:=si hm16
 refine c_blk ?_
 refine cd_loop (σ:=Int×List HP×List Str) (M:=fun k19 s=>∃rest,CE a2 x2 k19 s.1=some rest∧p14=s.2.2++rest∧Inv s.2.2 s.2.1) (Ef:=fun s=>[(0,.func (.yield l) #[] #[]),(1,pt b1_ 0),(2,pt b2_ 0),(4,vI s.1)]) (Lf:=fun s=>Bk b3 237 [vI x2.lists,g1.slots,g1.free,g1.at_,g1.many]::Bk b1_ 191 [pt b3 0]::Bk b2_ 3 [vI a2]::OwS true 240 4 Av.c g1.slots x2.slots::OwS true 3 1 eI g1.free x2.free::OwM vS vI g1.at_ x2.at_::OwS true 3 1 eI g1.many x2.many::s.2.1) (Em a1) (x12.next,F,[]) ⟨p14,hp15,rfl,h0⟩ ⟨rfl,rfl,rfl,rfl,y_⟩ (pk 7 [0,5,6,1,2,3,4]) (fun s h=>by obtain ⟨_,h,_⟩:=h;simp [CE] at h) fun k19 s hM21 =>?_
 obtain ⟨i_18,Fc,pre⟩:=s
 obtain ⟨rest,hm20,hpre,hInv⟩:=hM21
 replace hpre:p14=pre++rest:=hpre
 replace hInv:Inv pre Fc:=hInv
 change CD _ _ _ [(0,.func (.yield l) #[] #[]),(1,pt b1_ 0),(2,pt b2_ 0),(4,vI i_18)] R (Bk b3 237 [vI x2.lists,g1.slots,g1.free,g1.at_,g1.many]::Bk b1_ 191 [pt b3 0]::Bk b2_ 3 [vI a2]::OwS true 240 4 Av.c g1.slots x2.slots::OwS true 3 1 eI g1.free x2.free::OwM vS vI g1.at_ x2.at_::OwS true 3 1 eI g1.many x2.many::Fc)
 replace hm20:CE a2 x2 (k19+1) i_18=some rest:=hm20
 rw [CE] at hm20
 refine c_seq (c_seq (c_reg ?_))
 refine r_u (o_mv rfl) (r_u (o_ld 2 sc3 rfl rfl rfl) (r_u (o_bin rfl rfl (bI_ne i_18 a2)) (r_nil (x_seq ?_))))
 refine c_if (b:=(i_18 != a2)) rfl (fun h22 =>?_) fun h22 =>?_
 ·have hm23:=ift hm20 h22
  refine c_skip (x_seq (c_seq (c_blk (c_seq (c_reg ?_)))))
  refine r_u (o_mv rfl) (r_u (o_ld 1 sc191 rfl rfl rfl) (r_u (o_nc rfl) (r_u (o_fa fa237_1 rfl) (r_u (o_ld 0 sc233 rfl rfl rfl) (r_u (o_mv rfl) ?_)))))
  obtain ⟨x24,hx24,hm25⟩:=bs hm23
  refine r_u (o_ixO 3 underlying233 kr rfl rfl rfl hx24) (r_u (o_fa fa240_0 rfl) (r_u (o_ldO0 3 sc9 rfl rfl hx24 rfl rfl) ?_))
  obtain ⟨r2,hr2,hm26⟩:=bs hm25
  obtain rfl:=si hm26
  refine r_w (o_yield rfl rfl (hY [Bk b3 237 [vI x2.lists,g1.slots,g1.free,g1.at_,g1.many],Bk b1_ 191 [pt b3 0],Bk b2_ 3 [vI a2],OwS true 240 4 Av.c g1.slots x2.slots,OwS true 3 1 eI g1.free x2.free,OwM vS vI g1.at_ x2.at_,OwS true 3 1 eI g1.many x2.many] pre x24.key Fc hInv ⟨_,hpre⟩)) (fun v R' L' _ hC =>?_)
  obtain ⟨hv,hR',F',hL',hInv'⟩:=hC
  subst hv;subst hL';subst hR'
  refine r_u (o_not rfl) (r_nil (x_seq (c_ff rfl (c_skip (x_blk (x_seq (c_reg ?_)))))))
  refine r_u (o_ld 1 sc191 rfl rfl rfl) (r_u (o_nc rfl) (r_u (o_fa fa237_1 rfl) (r_u (o_ld 0 sc233 rfl rfl rfl) (r_u (o_mv rfl) ?_))))
  refine r_u (o_ixO 3 underlying233 kr rfl rfl rfl hx24) (r_u (o_fa fa240_3 rfl) (r_u (o_ldO 3 3 sc3 rfl rfl hx24 rfl rfl) (r_u (o_as rfl) (r_nil ?_))))
  exact x_lp (x24.next,F',pre++[x24.key]) ⟨r2,hr2,by rw [hpre];simp,hInv'⟩ ⟨rfl,rfl,rfl,rfl,y_⟩ id_
 have hm23:=iff_ hm20 h22
 refine c_exit (x_exit (ks':=_) rfl ?_)
 obtain rfl:=si hm23
 rw [List.append_nil] at hpre
 subst hpre
 refine x_end ?_
 refine ex_st (pk 7 [0,3,4,5,6,1,2]) ?_
 refine ex_st (fun _ h=>st_some (f:=Aj.op g1) (a:=x2) (st_star_f (A:=Aj.fl b3 x2 g1) h)) ?_
 refine ex_st (fun _ h=>st_back ho4 h) ?_
 refine ex_st (pk 3 [1,0,2]) ?_
 exact x_r0 rfl le_ ⟨_,rfl,rfl,rfl,Fc,rfl,hInv⟩
theorem El.ok{G R F}(pv:Value)(hpv:pv.cells = #[pv])(a1:Int):CO prog 188 [pv,vI a1] G R F
  (Ret fun u R' L'=>∃b0 b1,u = .func (.func 231) #[] #[pt b0 0,pt b1 0]∧R'=R∧L'=Bk b1 3 [vI a1]::Bk b0 191 [pv]::F):=by
 refine co_ofN (N:=6) func188 rfl rfl ?_
 refine c_seq (c_reg ?_)
 refine r_new (o_bx [pv] rfl hpv) fun b0 =>?_
 refine r_new (o_bx [vI a1] rfl rfl) fun b1 =>?_
 refine r_u (o_as rfl) (r_nil (x_seq (c_seq (c_reg ?_))))
 refine r_u (o_mf rfl) (r_u (o_as rfl) (r_nil (x_seq (c_ret ?_))))
 exact x_r1 rfl (rv_t rfl) le_ ⟨_,rfl,b0,b1,rfl,rfl,rfl⟩
def DS:List Str→Str→Option Str
 | [],c=>some c
 | k::l,c=>(Dw k).bind fun t=>if c.length+t.length≤maxS then DS l (c++t) else none
theorem Ei{l r:List Str}: ∀{c:Str},DS (l++r) c=(DS l c).bind fun d=>DS r d:=by
 induction l with
 | nil=>intro c;rfl
 | cons k l ih =>
  intro c
  simp only [List.cons_append,DS]
  cases Dw k with
  | none=>rfl
  | some t =>
   simp only [ob_]
   split
   ·exact ih
   ·rfl
def C4(a0:Aj):Nat→Int→Str→Option (Str)
 | 0,_,_=>none
 | k17+1,s_15,c_16=>if decide (s_15<a0.lists) then (gi a0.many s_15).bind fun x22=>(AJ (toW x22)).bind fun r24=>if c_16.length+r24.length≤maxS then (DI (some a0) s_15).bind fun kz=>(DS kz (c_16++r24)).bind fun c2=>C4 a0 k17 (i64 (s_15+1)) c2 else none else some c_16
def Dd(a0:Aj):Option Str :=
 (AJ (toW a0.lists)).bind fun r4=>(AJ (toW (i64 ((a0.slots.length:Int)-a0.lists)))).bind fun r6=>if r4.length+r6.length≤maxS then Option.bind (C4 a0 ((a0.lists-0).toNat+1) 0 (r4++r6)) fun p11=>some p11 else none
theorem Dd.ok{G R F}(b0_:Nat)(a0:Aj)(g0_:Aj.G)(r:Str)(hm:Dd a0=some r):CO prog 145 [pt b0_ 0] G R (Bk b0_ 237 [vI a0.lists,g0_.slots,g0_.free,g0_.at_,g0_.many]::OwS true 240 4 Av.c g0_.slots a0.slots::OwS true 3 1 eI g0_.free a0.free::OwM vS vI g0_.at_ a0.at_::OwS true 3 1 eI g0_.many a0.many::F)
  (Ret fun u R' L'=>u=vS r∧R'=R∧L'=Bk b0_ 237 [vI a0.lists,g0_.slots,g0_.free,g0_.at_,g0_.many]::OwS true 240 4 Av.c g0_.slots a0.slots::OwS true 3 1 eI g0_.free a0.free::OwM vS vI g0_.at_ a0.at_::OwS true 3 1 eI g0_.many a0.many::F):=by
 unfold Dd at hm
 refine co_ofM (N:=55) func145 rfl rfl ?_
 refine cd_st (pk 6 [1,2,3,4,5,0]) ?_
 refine c_seq (c_reg ?_)
 refine r_u (o_as rfl) (r_nil (x_seq (c_seq (c_seq (c_reg ?_)))))
 refine r_u (o_mv rfl) (r_u (o_bin rfl rfl (bP_eqp underlying191)) (r_nil (x_seq (c_ff rfl (c_skip (x_seq (c_seq ?_)))))))
 obtain ⟨r4,hr4,hm5⟩:=bs hm
 obtain ⟨r6,hr6,hm7⟩:=bs hm5
 obtain ⟨h8,hm9⟩:=ig hm7
 refine c_any mixed (effs:=[19,20]) (V:=[]) ?_
 refine stage_ext [(0,pt b0_ 0),(1,pt b0_ 0),(2,pt b0_ 0),(3,vI a0.lists),(4,vW (toW a0.lists)),(5,vS r4),(6,pt b0_ 0),(7,pt b0_ 0),(8,pt b0_ 1),(9,g0_.slots),(10,vI (a0.slots.length:Int)),(11,pt b0_ 0),(12,pt b0_ 0),(13,pt b0_ 0),(14,vI a0.lists),(15,vI (i64 ((a0.slots.length:Int)-a0.lists))),(16,vW (toW (i64 ((a0.slots.length:Int)-a0.lists)))),(17,vS r6),(18,vS (r4++r6))] rfl ?_
 refine stage rfl rfl rfl rfl mk41_ [0,1,2,3,4,5,6,7,8,9,10,11,12,13,14,15,16,17,18] [19] rfl rfl rfl (qc rfl rfl (s_u (o_mv rfl)) (qc rfl rfl (s_u (o_nc rfl)) (qc rfl rfl (s_u (o_fa fa237_0 rfl)) (qc rfl rfl (s_u (o_ld 0 sc3 rfl rfl rfl)) (qc rfl rfl (s_u (o_cv rfl (cIW underlying3 underlying22 a0.lists))) (qc rfl rfl (s_u (o_callq ca49 rfl (AJ.ok (toW a0.lists) r4 hr4))) (qc rfl rfl (s_u (o_mv rfl)) (qc rfl rfl (s_u (o_nc rfl)) (qc rfl rfl (s_u (o_fa fa237_1 rfl)) (qc rfl rfl (s_u (o_ld 0 sc233 rfl rfl rfl)) (qc rfl rfl (s_u (o_lenO 1 underlying233 rfl rfl)) (qc rfl rfl (s_u (o_mv rfl)) (qc rfl rfl (s_u (o_nc rfl)) (qc rfl rfl (s_u (o_fa fa237_0 rfl)) (qc rfl rfl (s_u (o_ld 0 sc3 rfl rfl rfl)) (qc rfl rfl (s_u (o_bin rfl rfl (bI_sub (a0.slots.length:Int) a0.lists))) (qc rfl rfl (s_u (o_cv rfl (cIW underlying3 underlying22 (i64 ((a0.slots.length:Int)-a0.lists))))) (qc rfl rfl (s_u (o_callq ca49 rfl (AJ.ok (toW (i64 ((a0.slots.length:Int)-a0.lists))) r6 hr6))) (qc rfl rfl (s_u (o_bin rfl rfl (bS_add r4 r6 h8))) qn))))))))))))))))))) ?_ (nxt rfl)
 refine ec (eo_n rfl (s_w (o_al ze9)) fun b10 =>?_) en
 refine stage rfl rfl rfl rfl mk41_ [0,1,2,3,4,5,6,7,8,9,10,11,12,13,14,15,16,17,18] [20] rfl rfl rfl (qc rfl rfl (s_u (o_mv rfl)) (qc rfl rfl (s_u (o_nc rfl)) (qc rfl rfl (s_u (o_fa fa237_0 rfl)) (qc rfl rfl (s_u (o_ld 1 sc3 rfl rfl rfl)) (qc rfl rfl (s_u (o_cv rfl (cIW underlying3 underlying22 a0.lists))) (qc rfl rfl (s_u (o_callq ca49 rfl (AJ.ok (toW a0.lists) r4 hr4))) (qc rfl rfl (s_u (o_mv rfl)) (qc rfl rfl (s_u (o_nc rfl)) (qc rfl rfl (s_u (o_fa fa237_1 rfl)) (qc rfl rfl (s_u (o_ld 1 sc233 rfl rfl rfl)) (qc rfl rfl (s_u (o_lenO 2 underlying233 rfl rfl)) (qc rfl rfl (s_u (o_mv rfl)) (qc rfl rfl (s_u (o_nc rfl)) (qc rfl rfl (s_u (o_fa fa237_0 rfl)) (qc rfl rfl (s_u (o_ld 1 sc3 rfl rfl rfl)) (qc rfl rfl (s_u (o_bin rfl rfl (bI_sub (a0.slots.length:Int) a0.lists))) (qc rfl rfl (s_u (o_cv rfl (cIW underlying3 underlying22 (i64 ((a0.slots.length:Int)-a0.lists))))) (qc rfl rfl (s_u (o_callq ca49 rfl (AJ.ok (toW (i64 ((a0.slots.length:Int)-a0.lists))) r6 hr6))) (qc rfl rfl (s_u (o_bin rfl rfl (bS_add r4 r6 h8))) qn))))))))))))))))))) ?_ (nxt rfl)
 refine ec (eo_u rfl (s_u (o_st sc9 rfl rfl rfl rfl rfl rfl)) le_ ?_) en
 refine stage rfl rfl rfl rfl mk41_ [] [] rfl rfl rfl qn en ?_
 intro _
 refine ex_sub (E':=[(0,pt b0_ 0),(3,pt b10 0)]) ⟨rfl,rfl,y_⟩ ?_
 refine x_seq (c_seq (c_seq (c_reg ?_)))
 refine r_u (o_mv rfl) (r_u (o_nc rfl) (r_u (o_fa fa237_0 rfl) (r_u (o_ld 1 sc3 rfl rfl rfl) (r_u (o_mv rfl) (r_nil (x_seq ?_))))))
 obtain ⟨p11,hp12,hm13⟩:=bs hm9
 obtain rfl:=si hm13
 refine c_blk ?_
 refine cd_loopD (σ:=Int×Str×List Deferred) (M:=fun k s=>C4 a0 k s.1 s.2.1=some p11) (Df:=fun s=>s.2.2)
  (Ef:=fun s=>[(0,pt b0_ 0),(3,pt b10 0),(30,vI a0.lists),(31,vI s.1)]) (Rf:=fun _=>R)
  (Lf:=fun s=>Bk b10 9 [vS s.2.1]::Bk b0_ 237 [vI a0.lists,g0_.slots,g0_.free,g0_.at_,g0_.many]::OwS true 240 4 Av.c g0_.slots a0.slots::OwS true 3 1 eI g0_.free a0.free::OwM vS vI g0_.at_ a0.at_::OwS true 3 1 eI g0_.many a0.many::MkC s.2.2::F)
  ((a0.lists-0).toNat+1) (0,r4++r6,[]) hp12 rfl ⟨rfl,rfl,rfl,rfl,y_⟩ (fun _ h=>h) (fun s h=>by simp [C4] at h) fun k17 s hM19 =>?_
 obtain ⟨s_15,c_16,ds⟩:=s
 have hm18:C4 a0 (k17+1) s_15 c_16=some p11:=hM19
 rw [C4] at hm18
 change CD _ _ _ [(0,pt b0_ 0),(3,pt b10 0),(30,vI a0.lists),(31,vI s_15)] R (Bk b10 9 [vS c_16]::Bk b0_ 237 [vI a0.lists,g0_.slots,g0_.free,g0_.at_,g0_.many]::OwS true 240 4 Av.c g0_.slots a0.slots::OwS true 3 1 eI g0_.free a0.free::OwM vS vI g0_.at_ a0.at_::OwS true 3 1 eI g0_.many a0.many::MkC ds::F)
 refine c_seq (c_reg ?_)
 refine r_u (o_bin rfl rfl (bI_lt s_15 a0.lists)) (r_nil (x_seq (c_seq ?_)))
 refine c_if (b:=decide (s_15<a0.lists)) rfl (fun h20 =>?_) fun h20 =>?_
 rotate_left
 ·have hm21:=iff_ hm18 h20
  refine c_exit (x_exit (ks':=_) rfl ?_)
  obtain rfl:=si hm21
  refine x_seq (c_seq (c_reg ?_))
  refine r_u (o_ld 0 sc9 rfl rfl rfl) (r_u (o_as rfl) (r_nil (x_seq (c_ret ?_))))
  refine ex_st (pk 7 [6,1,2,3,4,5]) ?_
  exact x_m1 rfl (rv_t rfl) (fun _ h=>h) le_ ⟨_,rfl,rfl,rfl,rfl⟩
 have hm21:=ift hm18 h20
 refine c_skip (x_seq (c_seq (c_blk (c_seq (c_reg ?_)))))
 refine r_u (o_mv rfl) (r_u (o_as rfl) (r_nil (x_seq (c_seq ?_))))
 obtain ⟨x22,hx22,hm23⟩:=bs hm21
 obtain ⟨r24,hr24,hm25⟩:=bs hm23
 obtain ⟨h26,hm27⟩:=ig hm25
 obtain ⟨kz,hkz,hm28⟩:=bs hm27
 obtain ⟨c2,hc2,hm29⟩:=bs hm28
 refine c_any mixed (effs:=[11]) (V:=[]) ?_
 refine stage_ext [(0,vS c_16),(1,pt b0_ 0),(2,pt b0_ 0),(3,pt b0_ 4),(4,g0_.many),(5,vI s_15),(6,pt (sb g0_.many) (so g0_.many+s_15.toNat*1)),(7,vI x22),(8,vW (toW x22)),(9,vS r24),(10,vS (c_16++r24))] rfl ?_
 refine stage rfl rfl rfl rfl mk12_ [0,1,2,3,4,5,6,7,8,9,10] [11] rfl rfl rfl (qc rfl rfl (s_u (o_ld 0 sc9 rfl rfl rfl)) (qc rfl rfl (s_u (o_mv rfl)) (qc rfl rfl (s_u (o_nc rfl)) (qc rfl rfl (s_u (o_fa fa237_4 rfl)) (qc rfl rfl (s_u (o_ld 1 sc234 rfl rfl rfl)) (qc rfl rfl (s_u (o_mv rfl)) (qc rfl rfl (s_u (o_ixO 5 underlying234 kr rfl rfl rfl hx22)) (qc rfl rfl (s_u (o_ldO0 5 sc3 rfl rfl hx22 rfl rfl)) (qc rfl rfl (s_u (o_cv rfl (cIW underlying3 underlying22 x22))) (qc rfl rfl (s_u (o_callq ca49 rfl (AJ.ok (toW x22) r24 hr24))) (qc rfl rfl (s_u (o_bin rfl rfl (bS_add c_16 r24 h26))) qn))))))))))) ?_ (nxt rfl)
 refine ec (eo_u rfl (s_u (o_st sc9 rfl rfl rfl rfl rfl rfl)) le_ ?_) en
 refine stage rfl rfl rfl rfl mk12_ [] [] rfl rfl rfl qn en ?_
 intro _
 refine ex_sub (E':=[(0,pt b0_ 0),(3,pt b10 0),(30,vI a0.lists),(31,vI s_15),(4,vI s_15)]) ⟨rfl,rfl,rfl,rfl,rfl,y_⟩ ?_
 refine x_seq (c_seq (c_reg ?_))
 refine r_u (o_mv rfl) (r_u (o_mv rfl) ?_)
 refine r_w (o_call ca188 rfl (El.ok (pt b0_ 0) rfl s_15)) (fun v R L' _ hC =>?_)
 obtain ⟨c0,c1,rfl,rfl,rfl⟩:=hC
 refine r_nil ?_
 refine ex_sub (E':=[(0,pt b0_ 0),(3,pt b10 0),(30,vI a0.lists),(31,vI s_15),(47,.func (.func 231) #[] #[pt c0 0,pt c1 0])]) ⟨rfl,rfl,rfl,rfl,rfl,y_⟩ ?_
 refine x_seq (c_blk ?_)
 refine cd_st (pk 9 [3,4,5,6,7,0,1,2,8]) ?_
 refine cd_st (fun _ h=>st_some (f:=Aj.op g0_) (a:=a0) (st_star_f (A:=Aj.fl b0_ a0 g0_) h)) ?_
 refine cd_st (pk 5 [2,0,1,3,4]) ?_
 refine c_rangeR (kz:=kz) (A0:=[Bk c0 191 [pt b0_ 0],rO (Aj.op g0_) (pt b0_ 0) (some a0),Bk c1 3 [vI s_15]])
  (L0:=Bk b10 9 [vS (c_16++r24)]::MkC ds::F)
  (fun pre L=>∃c,DS pre (c_16++r24)=some c∧L=Bk b10 9 [vS c]::MkC ds::F)
  rfl ca231 rfl (DI.ok c0 (some a0) (pt b0_ 0,g0_) c1 s_15 kz hkz) ⟨_,rfl,rfl⟩
  (E1:=fun k=>[(0,pt b0_ 0),(3,pt b10 0),(5,vS k),(30,vI a0.lists),(31,vI s_15)]) (fun k y e1 e2 e3 e4 ks L hx =>?_) (fun l T pre k L1 hi hl =>?_) (fun D L1 hi =>?_)
 ·refine c_reg ?_
  refine r_u (o_as rfl) ?_ (by rw [e3];rfl)
  refine r_nil ?_
  exact ex_sub (E':=[(0,pt b0_ 0),(3,pt b10 0),(5,vS k),(30,vI a0.lists),(31,vI s_15)]) ⟨rfl,rfl,rfl,rfl,rfl,y_⟩ hx
 ·obtain ⟨c,hc,rfl⟩:=hi
  obtain ⟨rest,hrest⟩:=hl
  have h30:=hc2
  rw [hrest,Ei,hc,ob_,DS] at h30
  obtain ⟨t,ht,h31⟩:=bs h30
  obtain ⟨h32,h33⟩:=ig h31
  change CD _ _ _ _ R (Bk b10 9 [vS c]::MkC ds::(F++T))
  refine c_blk ?_
  refine c_any mixed (effs:=[4]) (V:=[]) ?_
  refine stage_ext [(0,vS c),(1,vS k),(2,vS t),(3,vS (c++t))] rfl ?_
  refine stage rfl rfl rfl rfl [0,0,2,7,15] [0,1,2,3] [4] rfl rfl rfl (qc rfl rfl (s_u (o_ld 0 sc9 rfl rfl rfl)) (qc rfl rfl (s_u (o_mv rfl)) (qc rfl rfl (s_u (o_callq ca90 rfl (Dw.ok k t ht))) (qc rfl rfl (s_u (o_bin rfl rfl (bS_add c t h32))) qn)))) ?_ (nxt rfl)
  refine ec (eo_u rfl (s_u (o_st sc9 rfl rfl rfl rfl rfl rfl)) le_ ?_) en
  refine stage rfl rfl rfl rfl [0,0,2,7,15] [] [] rfl rfl rfl qn en ?_
  intro _
  refine x_blk ?_
  exact x_round rfl le_ ⟨rfl,rfl,_,(List.cons_append ..).symm▸rfl,c++t,by rw [Ei,hc,ob_,DS,ht,ob_,if_pos h32];rfl,rfl⟩
 obtain ⟨c,hc,rfl⟩:=hi
 rw [hc2] at hc
 obtain rfl:=si hc
 refine x_blk (x_blk (x_seq (c_reg ?_)))
 refine r_u (o_bin rfl rfl (bI_add s_15 1)) (r_u (o_mv rfl) (r_nil ?_))
 exact x_lpD (i64 (s_15+1),c2,Hw.mark D::ds) hm29 rfl ⟨rfl,rfl,rfl,rfl,y_⟩ (fun w h=>by
  have h1:=st_pk 6 [2,4,0,5] (by decide) h
  have h2:=st_star_o (A:=Aj.fl b0_ a0 g0_) (st_some_o h1)
  exact st_pk 7 [1,2,3,4,5,6,0] (by decide) (mk_add (st_pk 8 [6,7,5,0,1,2,3,4] (by decide) h2)))
def DY(a0:Aq):Option Str :=
 (AJ (toW a0.most)).bind fun r3=>(AJ (toW a0.target)).bind fun r5=>if r3.length+r5.length≤maxS then om a0.r (none) fun x9=>(Dd x9).bind fun r17=>if (r3++r5).length+r17.length≤maxS then some ((r3++r5)++r17) else none else none
theorem DY.ok{G R F}(b0_:Nat)(a0:Aq)(g0_:Aq.G)(r:Str)(hm:DY a0=some r):CO prog 91 [pt b0_ 0] G R (Bk b0_ 193 [vI a0.most,vI a0.target,g0_.r.1]::rO (Aj.op g0_.r.2) g0_.r.1 a0.r::F)
  (Ret fun u R' L'=>u=vS r∧R'=R∧L'=Bk b0_ 193 [vI a0.most,vI a0.target,g0_.r.1]::rO (Aj.op g0_.r.2) g0_.r.1 a0.r::F):=by
 obtain ⟨⟨pv1,g2⟩⟩:=g0_
 unfold DY at hm
 refine co_ofN (N:=24) func91 z z ?_
 refine csr (r_as z (nssr (r_mv z (r_bin z z (bP_eqp underlying141) (nsq (c_ff z (c_skip (x_seq (c_seq ?_)))))))))
 obtain ⟨r3,hr3,hm4⟩:=bs hm
 obtain ⟨r5,hr5,hm6⟩:=bs hm4
 obtain ⟨h7,hm8⟩:=ig hm6
 refine cd_st (fun _ h=>mv1 h) ?_
 refine cd_opt (fun ho11 =>?_) (fun x9 b10 ho11 =>?_)
 ·rintro rfl
  have hm12:=om_n hm8 ho11
  cases hm12
 rintro rfl
 have hm12:=om_s hm8 ho11
 refine cd_st (fun _ h=>st_star_o h) ?_
 obtain ⟨r17,hr17,hm18⟩:=bs hm12
 obtain ⟨h19,hm20⟩:=ig hm18
 refine c_any mixed (effs:=[]) (V:=[]) ?_
 refine stn [0,1,3,7,15,31,0,64,192,448,960,2047,4095,0,8192,24576,57344,126975,262143,524287] [0,1,2,3,4,5,6,7,8,9,10,11,12,13,14,15,16,17,18,19] [] [_,_,_,_,_,_,_,_,_,_,_,_,_,_,_,_,_,_,_,_] (q_mv z z z (q_u z z (o_nc z) (q_fa z z fa193_0 z (q_ld z z 5 sc3 z z z (q_u z z (o_cv z (cIW underlying3 underlying22 a0.most)) (q_u z z (o_callq ca49 z (AJ.ok _ _ hr3)) (q_mv z z z (q_u z z (o_nc z) (q_fa z z fa193_1 z (q_ld z z 5 sc3 z z z (q_u z z (o_cv z (cIW underlying3 underlying22 a0.target)) (q_u z z (o_callq ca49 z (AJ.ok _ _ hr5)) (q_u z z (o_bin z z (bS_add r3 r5 h7)) (q_mv z z z (q_u z z (o_nc z) (q_fa z z fa193_2 z (q_ld z z 5 sc191 z z z (q_u z z (o_callqP ca145 z (Dd.ok b10 x9 g2 _ hr17) id_ id_) (q_u z z (o_bin z z (bS_add _ _ h19)) (q_u z z (o_as z) qn)))))))))))))))))))) en ?_
 intro _
 refine ex_sub (E':=[(2,vS ((r3++r5)++r17))]) ⟨z,y_⟩ ?_
 refine x_seq (c_ret ?_)
 refine ex_st (fun _ h=>st_some (f:=Aj.op g2) (a:=x9) (st_star_f (A:=Aj.fl b10 x9 g2) h)) ?_
 refine ex_st (fun _ h=>st_back ho11 h) ?_
 obtain rfl:=si hm20
 refine ex_st (pk 2 [1,0]) ?_
 exact x_r1 z (rv_t z) le_ ⟨_,z,z,z,z⟩
def D7(a0:Bool):Str :=
 if a0 then [1] else [0]
theorem D7.ok{G R F}(a0:Bool)(r:Str)(hm:D7 a0=r):CO prog 189 [vB a0] G R (F)
  (Ret fun u R' L'=>u=vS r∧R'=R∧L'=F):=by
 unfold D7 at hm
 refine co_ofN (N:=4) func189 z z ?_
 refine csr (r_as z (nssr (r_mv z (nsq ?_))))
 refine c_if (b:=a0) z (fun h0 =>?_) fun h0 =>?_
 ·have hm1:=ift hm h0
  refine csr (r_as z (r_nil (x_seq (c_ret ?_))))
  subst hm1
  exact x_r1 z (rv_t z) le_ ⟨_,z,z,z,z⟩
 have hm1:=iff_ hm h0
 refine c_skip (x_seq (csr (r_as z (r_nil (x_seq (c_ret ?_))))))
 subst hm1
 exact x_r1 z (rv_t z) le_ ⟨_,z,z,z,z⟩
def Cs(a0:An):Nat→Str→Int→Option (Str)
 | 0,_,_=>none
 | k22+1,out_20,s_21=>if decide (s_21<(a0.door.length:Int)) then (gi a0.door s_21).bind fun x27=>if out_20.length+(D7 x27).length≤maxS then Cs a0 k22 (out_20++(D7 x27)) (i64 (s_21+1)) else none else some out_20
def Bn(a0:An):Nat→Str→Int→Option (Str)
 | 0,_,_=>none
 | k33+1,out_31,s_32=>if decide (s_32<4) then (gi a0.rows s_32).bind fun y38=>if out_31.length+y38.length≤maxS then Bn a0 k33 (out_31++y38) (i64 (s_32+1)) else none else some out_31
def Do(a0:An):Option Str :=
 (AJ (toW a0.wide)).bind fun r2=>(AJ a0.seed).bind fun r4=>if r2.length+r4.length≤maxS then (AJ (toW a0.added)).bind fun r8=>if (r2++r4).length+r8.length≤maxS then Option.bind (Bn a0 5 ((r2++r4)++r8) 0) fun p12=>Option.bind (Cs a0 (((a0.door.length:Int)-0).toNat+1) p12 0) fun p16=>some p16 else none else none
theorem Do.ok{G R F}(b0_:Nat)(a0:An)(g0_:An.G)(r:Str)(hm:Do a0=some r):CO prog 146 [pt b0_ 0] G R (Bk b0_ 250 (An.k a0 g0_)::OwL (OwS false 5 1 eY) [g0_.rows.1,g0_.rows.2.1,g0_.rows.2.2.1,g0_.rows.2.2.2] a0.rows::OwS true 4 1 eB g0_.door a0.door::F)
  (Ret fun u R' L'=>u=vS r∧R'=R∧L'=Bk b0_ 250 (An.k a0 g0_)::OwL (OwS false 5 1 eY) [g0_.rows.1,g0_.rows.2.1,g0_.rows.2.2.1,g0_.rows.2.2.2] a0.rows::OwS true 4 1 eB g0_.door a0.door::F):=by
 unfold Do at hm
 refine co_ofN (N:=56) func146 z z ?_
 refine csr (r_as z (nssr (r_mv z (r_bin z z (bP_eqp underlying194) (nsq (c_ff z (c_skip (x_seq (c_seq ?_)))))))))
 obtain ⟨r2,hr2,hm3⟩:=bs hm
 obtain ⟨r4,hr4,hm5⟩:=bs hm3
 obtain ⟨h6,hm7⟩:=ig hm5
 obtain ⟨r8,hr8,hm9⟩:=bs hm7
 obtain ⟨h10,hm11⟩:=ig hm9
 refine c_any mixed (effs:=[]) (V:=[]) ?_
 refine stn [0,1,3,7,15,31,0,64,192,448,1023,2047,0,4096,12288,28672,61440,129023,262143,524287] [0,1,2,3,4,5,6,7,8,9,10,11,12,13,14,15,16,17,18,19] [] [_,_,_,_,_,_,_,_,_,_,_,_,_,_,_,_,_,_,_,_] (q_mv z z z (q_u z z (o_nc z) (q_fa z z fa250_0 z (q_ld z z 0 sc3 z z z (q_u z z (o_cv z (cIW underlying3 underlying22 a0.wide)) (q_u z z (o_callq ca49 z (AJ.ok _ _ hr2)) (q_mv z z z (q_u z z (o_nc z) (q_fa z z fa250_1 z (q_ld z z 0 sc22 z z z (q_u z z (o_callq ca49 z (AJ.ok _ _ hr4)) (q_u z z (o_bin z z (bS_add r2 r4 h6)) (q_mv z z z (q_u z z (o_nc z) (q_fa z z fa250_4 z (q_ld z z 0 sc3 z z z (q_u z z (o_cv z (cIW underlying3 underlying22 a0.added)) (q_u z z (o_callq ca49 z (AJ.ok _ _ hr8)) (q_u z z (o_bin z z (bS_add _ r8 h10)) (q_u z z (o_as z) qn)))))))))))))))))))) en ?_
 intro _
 refine ex_sub (E':=[(0,pt b0_ 0),(3,vS ((r2++r4)++r8))]) ⟨z,z,y_⟩ ?_
 refine x_seq (c_seq (csr (r_mv z (r_nc z (r_fa fa250_2 z ?_)))))
 refine r_u (o_ldn 0 [g0_.rows.1,g0_.rows.2.1,g0_.rows.2.2.1,g0_.rows.2.2.2] ag248 z z z z) (r_mv z (nsq ?_))
 obtain ⟨p12,hp13,hm14⟩:=bs hm11
 refine cd_join (E':=[(0,pt b0_ 0),(3,vS p12)]) (L':=Bk b0_ 250 (An.k a0 g0_)::OwL (OwS false 5 1 eY) [g0_.rows.1,g0_.rows.2.1,g0_.rows.2.2.1,g0_.rows.2.2.2] a0.rows::OwS true 4 1 eB g0_.door a0.door::F) ?_ fun K15 =>?_
 ·refine x_seq (c_seq (csr (r_mv z (r_nc z (r_fa fa250_3 z (r_ld 0 sc68 z z z (r_u (o_lenO 2 underlying68 z z) (r_mv z (nsq ?_)))))))))
  obtain ⟨p16,hp17,hm18⟩:=bs hm14
  refine cd_join (E':=[(3,vS p16)]) (L':=Bk b0_ 250 (An.k a0 g0_)::OwL (OwS false 5 1 eY) [g0_.rows.1,g0_.rows.2.1,g0_.rows.2.2.1,g0_.rows.2.2.2] a0.rows::OwS true 4 1 eB g0_.door a0.door::F) ?_ fun K19 =>?_
  ·refine x_seq (csr (r_mv z (r_as z (r_nil (x_seq (c_ret ?_))))))
   obtain rfl:=si hm18
   exact x_r1 z (rv_t z) le_ ⟨_,z,z,z,z⟩
  refine c_blk ?_
  refine cd_loop (M:=fun k22 (s:Str×Int)=>Cs a0 k22 s.1 s.2=some p16) (Ef:=fun (s:Str×Int)=>[(44,g0_.door),(45,vI (a0.door.length:Int)),(3,vS s.1),(46,vI s.2)]) (Lf:=fun (s:Str×Int)=>Bk b0_ 250 (An.k a0 g0_)::OwL (OwS false 5 1 eY) [g0_.rows.1,g0_.rows.2.1,g0_.rows.2.2.1,g0_.rows.2.2.2] a0.rows::OwS true 4 1 eB g0_.door a0.door::F) (((a0.door.length:Int)-0).toNat+1) (p12,0) hp17 ⟨z,z,z,z,y_⟩ (fun _ h=>h) (fun _ h=>by cases h) fun k22 s hM24 =>?_
  obtain ⟨out_20,s_21⟩:=s
  have hm23:Cs a0 (k22+1) out_20 s_21=some p16:=hM24
  rw [Cs] at hm23
  refine csr (r_bin z z (bI_lt _ _) (r_nil (x_seq (c_seq ?_))))
  refine c_if (b:=decide (s_21<(a0.door.length:Int))) z (fun h25 =>?_) fun h25 =>?_
  rotate_left
  ·have hm26:=iff_ hm23 h25
   refine c_exit (x_exit (ks':=_) z ?_)
   obtain rfl:=si hm26
   exact x_sub K19 ⟨z,y_⟩ id_
  have hm26:=ift hm23 h25
  refine c_skip (x_seq (c_seq (c_blk (csr ?_))))
  obtain ⟨x27,hx27,hm28⟩:=bs hm26
  refine r_u (o_ixO 2 underlying68 kr z z z hx27) (r_u (o_ldO0 2 sc4 z z hx27 z z) (r_as z (r_nil (x_seq (c_reg (r_mv z (r_mv z ?_)))))))
  refine r_u (o_callq ca189 z (D7.ok x27 _ z)) ?_
  obtain ⟨h29,hm30⟩:=ig hm28
  refine r_bin z z (bS_add _ _ h29) (r_as z (r_nil (x_blk (x_seq (c_reg (r_bin z z (bI_add _ 1) (r_mv z (r_nil ?_))))))))
  exact x_lp (out_20++(D7 x27),i64 (s_21+1)) hm30 ⟨z,z,z,z,y_⟩ id_
 refine c_blk ?_
 refine cd_loop (M:=fun k33 (s:Str×Int)=>Bn a0 k33 s.1 s.2=some p12) (Ef:=fun (s:Str×Int)=>[(0,pt b0_ 0),(32,.agg [g0_.rows.1,g0_.rows.2.1,g0_.rows.2.2.1,g0_.rows.2.2.2].toArray),(3,vS s.1),(33,vI s.2)]) (Lf:=fun (s:Str×Int)=>Bk b0_ 250 (An.k a0 g0_)::OwL (OwS false 5 1 eY) [g0_.rows.1,g0_.rows.2.1,g0_.rows.2.2.1,g0_.rows.2.2.2] a0.rows::OwS true 4 1 eB g0_.door a0.door::F) 5 ((r2++r4)++r8,0) hp13 ⟨z,z,z,z,y_⟩ (fun _ h=>h) (fun _ h=>by cases h) fun k33 s hM35 =>?_
 obtain ⟨out_31,s_32⟩:=s
 have hm34:Bn a0 (k33+1) out_31 s_32=some p12:=hM35
 rw [Bn] at hm34
 refine csr (r_bin z z (bI_lt _ 4) (r_nil (x_seq (c_seq ?_))))
 refine c_if (b:=decide (s_32<4)) z (fun h36 =>?_) fun h36 =>?_
 rotate_left
 ·have hm37:=iff_ hm34 h36
  refine c_exit (x_exit (ks':=_) z ?_)
  obtain rfl:=si hm37
  exact x_sub K15 ⟨z,z,y_⟩ id_
 have hm37:=ift hm34 h36
 refine c_skip (x_seq (c_seq (c_blk (csr ?_))))
 obtain ⟨y38,hy38,hm40⟩:=bs hm37
 refine rl_ex (fun w h=>st_peek 1 hy38 z w h) fun u39 hu39 =>?_
 refine r_u (o_ixG underlying248 kr sc131.1 z z z hu39) (r_as z (r_nil (x_seq (c_reg (r_mv z (r_mv z ?_))))))
 refine r_u (o_bsK (kn_in 1 z hu39 hy38) underlying131 underlying5 underlying9 z) ?_
 obtain ⟨h41,hm42⟩:=ig hm40
 refine r_bin z z (bS_add _ _ h41) (r_as z (r_nil (x_blk (x_seq (c_reg (r_bin z z (bI_add _ 1) (r_mv z (r_nil ?_))))))))
 exact x_lp (out_31++y38,i64 (s_32+1)) hm42 ⟨z,z,z,z,y_⟩ id_
def DQ(a0:Ao):Option Str :=
 (AJ (toW a0.most)).bind fun r6=>om a0.s (none) fun x8=>(Do x8).bind fun r14=>if r6.length+r14.length≤maxS then om a0.r (none) fun x18=>(Dd x18).bind fun r26=>if (r6++r14).length+r26.length≤maxS then some ((r6++r14)++r26) else none else none
theorem DQ.ok{G R F}(b0_:Nat)(a0:Ao)(g0_:Ao.G)(r:Str)(hm:DQ a0=some r):CO prog 92 [pt b0_ 0] G R (Bk b0_ 196 [vI a0.most,g0_.s.1,g0_.r.1]::rO (An.op g0_.s.2) g0_.s.1 a0.s::rO (Aj.op g0_.r.2) g0_.r.1 a0.r::F)
  (Ret fun u R' L'=>u=vS r∧R'=R∧L'=Bk b0_ 196 [vI a0.most,g0_.s.1,g0_.r.1]::rO (An.op g0_.s.2) g0_.s.1 a0.s::rO (Aj.op g0_.r.2) g0_.r.1 a0.r::F):=by
 obtain ⟨⟨pv1,g2⟩,⟨pv4,g5⟩⟩:=g0_
 unfold DQ at hm
 refine co_ofN (N:=23) func92 z z ?_
 refine csr (r_as z (nssr (r_mv z (r_bin z z (bP_eqp underlying142) (nsq (c_ff z (c_skip (x_seq (c_seq ?_)))))))))
 obtain ⟨r6,hr6,hm7⟩:=bs hm
 refine cd_st (fun _ h=>mv1 h) ?_
 refine cd_opt (fun ho10 =>?_) (fun x8 b9 ho10 =>?_)
 ·rintro rfl
  have hm11:=om_n hm7 ho10
  cases hm11
 rintro rfl
 have hm11:=om_s hm7 ho10
 refine cd_st (fun _ h=>st_star_o h) ?_
 obtain ⟨r14,hr14,hm15⟩:=bs hm11
 obtain ⟨h16,hm17⟩:=ig hm15
 refine cd_st (fun _ h=>mv4 h) ?_
 refine cd_opt (fun ho20 =>?_) (fun x18 b19 ho20 =>?_)
 ·rintro rfl
  have hm21:=om_n hm17 ho20
  cases hm21
 rintro rfl
 have hm21:=om_s hm17 ho20
 refine cd_st (fun _ h=>st_star_o h) ?_
 obtain ⟨r26,hr26,hm27⟩:=bs hm21
 obtain ⟨h28,hm29⟩:=ig hm27
 refine c_any mixed (effs:=[]) (V:=[]) ?_
 refine stn [0,1,3,7,15,31,0,64,192,448,1023,2047,0,4096,12288,28672,63487,131071,262143] [0,1,2,3,4,5,6,7,8,9,10,11,12,13,14,15,16,17,18] [] [_,_,_,_,_,_,_,_,_,_,_,_,_,_,_,_,_,_,_] (q_mv z z z (q_u z z (o_nc z) (q_fa z z fa196_0 z (q_ld z z 8 sc3 z z z (q_u z z (o_cv z (cIW underlying3 underlying22 a0.most)) (q_u z z (o_callq ca49 z (AJ.ok _ _ hr6)) (q_mv z z z (q_u z z (o_nc z) (q_fa z z fa196_1 z (q_ld z z 8 sc194 z z z (q_u z z (o_callqP ca146 z (Do.ok b9 x8 g2 _ hr14) (pk 9 [5,6,7,0,1,2,3,4,8]) (pk 9 [3,4,5,6,7,0,1,2,8])) (q_u z z (o_bin z z (bS_add r6 _ h16)) (q_mv z z z (q_u z z (o_nc z) (q_fa z z fa196_2 z (q_ld z z 8 sc191 z z z (q_u z z (o_callqP ca145 z (Dd.ok b19 _ g5 _ hr26) id_ id_) (q_u z z (o_bin z z (bS_add _ _ h28)) (q_u z z (o_as z) qn))))))))))))))))))) en ?_
 intro _
 refine ex_sub (E':=[(2,vS ((r6++r14)++r26))]) ⟨z,y_⟩ ?_
 refine x_seq (c_ret ?_)
 refine ex_st (fun _ h=>mv7 (mv7 (mv7 h))) ?_
 refine ex_st (fun _ h=>st_some (f:=An.op g2) (a:=x8) (st_star_f (A:=An.fl b9 x8 g2) h)) ?_
 refine ex_st (fun _ h=>mv5 (mv5 (mv5 (mv5 (mv5 h))))) ?_
 refine ex_st (fun _ h=>st_some (f:=Aj.op g5) (a:=x18) (st_star_f (A:=Aj.fl b19 x18 g5) h)) ?_
 refine ex_st (fun _ h=>mv1 h) ?_
 refine ex_st (fun _ h=>st_back ho10 h) ?_
 refine ex_st (fun _ h=>mv1 h) ?_
 refine ex_st (fun _ h=>st_back ho20 h) ?_
 obtain rfl:=si hm29
 refine ex_st (pk 3 [2,1,0]) ?_
 exact x_r1 z (rv_t z) le_ ⟨_,z,z,z,z⟩
def Dp(a0:Ah):Option Str :=
 if ((AA a0)==1) then (AJ 1).bind fun r8=>om a0.a (none) fun x10=>(DY x10).bind fun r17=>if r8.length+r17.length≤maxS then some (r8++r17) else none else if ((AA a0)==2) then (AJ 2).bind fun r23=>om a0.t (none) fun x25=>(DQ x25).bind fun r35=>if r23.length+r35.length≤maxS then some (r23++r35) else none else some []
theorem Dp.ok{G R F}(b0_:Nat)(a0:Ah)(g0_:Ah.G)(r:Str)(hm:Dp a0=some r):CO prog 51 [pt b0_ 0] G R (Bk b0_ 144 [vI a0.kind,g0_.a.1,g0_.t.1]::rO (Aq.op g0_.a.2) g0_.a.1 a0.a::rO (Ao.op g0_.t.2) g0_.t.1 a0.t::F)
  (Ret fun u R' L'=>u=vS r∧R'=R∧L'=Bk b0_ 144 [vI a0.kind,g0_.a.1,g0_.t.1]::rO (Aq.op g0_.a.2) g0_.a.1 a0.a::rO (Ao.op g0_.t.2) g0_.t.1 a0.t::F):=by
 obtain ⟨⟨pv1,g2⟩,⟨pv4,g5⟩⟩:=g0_
 unfold Dp at hm
 refine co_ofN (N:=23) func51 z z ?_
 refine csr (r_as z (nssr (r_mv z ?_)))
 refine r_c (s_w (o_call ca67 z (AA.ok b0_ a0 (⟨(pv1,g2),(pv4,g5)⟩:Ah.G) _ z))) ?_
 refine r_nil (x_seq (c_blk (csr (r_bin z z (bI_eq _ 1) (r_as z (nsq ?_))))))
 refine c_if (b:=((AA a0)==1)) z (fun h6 =>?_) fun h6 =>?_
 ·have hm7:=ift hm h6
  refine c_seq ?_
  obtain ⟨r8,hr8,hm9⟩:=bs hm7
  refine cd_st (fun _ h=>mv1 h) ?_
  refine cd_opt (fun ho12 =>?_) (fun x10 b11 ho12 =>?_)
  ·rintro rfl
   have hm13:=om_n hm9 ho12
   cases hm13
  rintro rfl
  have hm13:=om_s hm9 ho12
  obtain ⟨⟨pv15,g16⟩⟩:=g2
  refine cd_st (fun _ h=>st_star_o h) ?_
  obtain ⟨r17,hr17,hm18⟩:=bs hm13
  obtain ⟨h19,hm20⟩:=ig hm18
  refine c_any mixed (effs:=[]) (V:=[]) ?_
  refine stn mk14_ [0,1,2,3,4,5,6,7] [] [_,_,_,_,_,_,_,_] (q_u z z (o_callq ca49 z (AJ.ok 1 _ hr8)) (q_mv z z z (q_u z z (o_nc z) (q_fa z z fa144_1 z (q_ld z z 2 sc141 z z z (q_u z z (o_callqP ca91 z (DY.ok b11 _ (⟨(pv15,g16)⟩:Aq.G) _ hr17) id_ id_) (q_u z z (o_bin z z (bS_add r8 _ h19)) (q_u z z (o_as z) qn)))))))) en ?_
  intro _
  refine ex_sub (E':=[(2,vS (r8++r17))]) ⟨z,y_⟩ ?_
  refine x_seq (c_ret ?_)
  refine ex_st (fun _ h=>st_some (f:=Aq.op (⟨(pv15,g16)⟩:Aq.G)) (a:=x10) (st_star_f (A:=Aq.fl b11 x10 (⟨(pv15,g16)⟩:Aq.G)) h)) ?_
  refine ex_st (fun _ h=>st_back ho12 h) ?_
  obtain rfl:=si hm20
  refine ex_st (pk 3 [1,0,2]) ?_
  exact x_r1 z (rv_t z) le_ ⟨_,z,z,z,z⟩
 have hm7:=iff_ hm h6
 refine csr (r_bin z z (bI_eq _ 2) (r_as z (nsq ?_)))
 refine c_if (b:=((AA a0)==2)) z (fun h21 =>?_) fun h21 =>?_
 rotate_left
 ·have hm22:=iff_ hm7 h21
  refine c_skip (x_blk (x_seq (csr (r_as z (r_nil (x_seq (c_ret ?_)))))))
  obtain rfl:=si hm22
  exact x_r1 z (rv_t z) le_ ⟨_,z,z,z,z⟩
 have hm22:=ift hm7 h21
 refine c_seq ?_
 obtain ⟨r23,hr23,hm24⟩:=bs hm22
 refine cd_st (fun _ h=>mv2 h) ?_
 refine cd_opt (fun ho27 =>?_) (fun x25 b26 ho27 =>?_)
 ·rintro rfl
  have hm28:=om_n hm24 ho27
  cases hm28
 rintro rfl
 have hm28:=om_s hm24 ho27
 obtain ⟨⟨pv30,g31⟩,⟨pv33,g34⟩⟩:=g5
 refine cd_st (fun _ h=>st_star_o h) ?_
 obtain ⟨r35,hr35,hm36⟩:=bs hm28
 obtain ⟨h37,hm38⟩:=ig hm36
 refine c_any mixed (effs:=[]) (V:=[]) ?_
 refine stn mk14_ [0,1,2,3,4,5,6,7] [] [_,_,_,_,_,_,_,_] (q_u z z (o_callq ca49 z (AJ.ok 2 _ hr23)) (q_mv z z z (q_u z z (o_nc z) (q_fa z z fa144_2 z (q_ld z z 3 sc142 z z z (q_u z z (o_callqP ca92 z (DQ.ok b26 _ (⟨(pv30,g31),(pv33,g34)⟩:Ao.G) _ hr35) id_ id_) (q_u z z (o_bin z z (bS_add _ _ h37)) (q_u z z (o_as z) qn)))))))) en ?_
 intro _
 refine ex_sub (E':=[(2,vS (r23++r35))]) ⟨z,y_⟩ ?_
 refine x_seq (c_ret ?_)
 refine ex_st (fun _ h=>st_some (f:=Ao.op (⟨(pv30,g31),(pv33,g34)⟩:Ao.G)) (a:=x25) (st_star_f (A:=Ao.fl b26 x25 (⟨(pv30,g31),(pv33,g34)⟩:Ao.G)) h)) ?_
 refine ex_st (fun _ h=>st_back ho27 h) ?_
 obtain rfl:=si hm38
 refine ex_st (pk 3 [1,2,0]) ?_
 exact x_r1 z (rv_t z) le_ ⟨_,z,z,z,z⟩
def D4(a0:Ap):Option Str :=
 (AJ (toW a0.E)).bind fun r1=>(Dw a0.Value).bind fun r3=>if r1.length+r3.length≤maxS then (AJ a0.Version).bind fun r7=>if (r1++r3).length+r7.length≤maxS then some ((r1++r3)++r7) else none else none
theorem D4.ok{G R F}(a0:Ap)(r:Str)(hm:D4 a0=some r):CO prog 54 [.agg (Ap.c a0).toArray] G R (F)
  (Ret fun u R' L'=>u=vS r∧R'=R∧L'=F):=by
 unfold D4 at hm
 refine co_ofN (N:=15) func54 z z ?_
 refine csr ?_
 refine r_new (o_bx (Ap.c a0) z z) fun b0 =>?_
 refine r_as z (r_nil (x_seq (c_seq ?_)))
 obtain ⟨r1,hr1,hm2⟩:=bs hm
 obtain ⟨r3,hr3,hm4⟩:=bs hm2
 obtain ⟨h5,hm6⟩:=ig hm4
 obtain ⟨r7,hr7,hm8⟩:=bs hm6
 obtain ⟨h9,hm10⟩:=ig hm8
 refine c_any mixed (effs:=[]) (V:=[]) ?_
 refine stn mk36_ [0,1,2,3,4,5,6,7,8,9,10,11,12] [] [_,_,_,_,_,_,_,_,_,_,_,_,_] (q_fa z z fa41_0 z (q_ld z z 0 sc39 z z z (q_u z z (o_cv z (cIW underlying39 underlying22 a0.E)) (q_u z z (o_callq ca49 z (AJ.ok _ _ hr1)) (q_fa z z fa41_1 z (q_ld z z 0 sc9 z z z (q_u z z (o_callq ca90 z (Dw.ok _ _ hr3)) (q_u z z (o_bin z z (bS_add r1 r3 h5)) (q_fa z z fa41_2 z (q_ld z z 0 sc22 z z z (q_u z z (o_callq ca49 z (AJ.ok _ _ hr7)) (q_u z z (o_bin z z (bS_add _ r7 h9)) (q_u z z (o_as z) qn))))))))))))) en ?_
 intro _
 refine ex_sub (E':=[(2,vS ((r1++r3)++r7))]) ⟨z,y_⟩ ?_
 refine x_seq (c_ret ?_)
 obtain rfl:=si hm10
 refine ex_st (pk 1 []) ?_
 exact x_r1 z (rv_t z) le_ ⟨_,z,z,z,z⟩
def Cl(a0:Ak)(l69:List UInt64):Nat→Str→Int→Option (Str)
 | 0,_,_=>none
 | k78+1,out_76,s_77=>if decide (s_77<(l69.length:Int)) then (gi l69 s_77).bind fun x83=>(AJ x83).bind fun r86=>(AJ (((mget a0.sessions x83).getD ((⟨0,(⟨0,[],0⟩:Ap)⟩:Ar):Ar)).num)).bind fun r88=>if r86.length+r88.length≤maxS then (D4 (((mget a0.sessions x83).getD ((⟨0,(⟨0,[],0⟩:Ap)⟩:Ar):Ar)).reply)).bind fun r92=>if (r86++r88).length+r92.length≤maxS then if out_76.length+((r86++r88)++r92).length≤maxS then Cl a0 l69 k78 (out_76++((r86++r88)++r92)) (i64 (s_77+1)) else none else none else none else some out_76
def Di(a0:Ak):Option Str :=
 (AJ (toW a0.c.Policy)).bind fun r7=>(AJ (toW a0.c.Entries)).bind fun r9=>if r7.length+r9.length≤maxS then (AJ (toW a0.c.Bytes)).bind fun r13=>if (r7++r9).length+r13.length≤maxS then (AJ a0.c.Seed).bind fun r17=>if ((r7++r9)++r13).length+r17.length≤maxS then (AJ a0.seq).bind fun r21=>(AJ a0.now).bind fun r23=>if r21.length+r23.length≤maxS then (AJ a0.version).bind fun r27=>if (r21++r23).length+r27.length≤maxS then (AJ (toW a0.tally.Asked)).bind fun r31=>if ((r21++r23)++r27).length+r31.length≤maxS then (AJ (toW a0.tally.Hits)).bind fun r35=>if (((r21++r23)++r27)++r31).length+r35.length≤maxS then if (((r7++r9)++r13)++r17).length+((((r21++r23)++r27)++r31)++r35).length≤maxS then om a0.t (none) fun x41=>(DA x41).bind fun r46=>om a0.p (none) fun x48=>(Dp x48).bind fun r58=>if r46.length+r58.length≤maxS then (AJ (toW (a0.sessions.length:Int))).bind fun r62=>if (r46++r58).length+r62.length≤maxS then if ((((r7++r9)++r13)++r17)++((((r21++r23)++r27)++r31)++r35)).length+((r46++r58)++r62).length≤maxS then (mkeysW a0.sessions).bind fun l69=>Option.bind (Cl a0 l69 (((l69.length:Int)-0).toNat+1) (((((r7++r9)++r13)++r17)++((((r21++r23)++r27)++r31)++r35))++((r46++r58)++r62)) 0) fun p72=>some p72 else none else none else none else none else none else none else none else none else none else none else none
theorem Di.ok{G R F}(b0_:Nat)(a0:Ak)(g0_:Ak.G)(r:Str)(hm:Di a0=some r):CO prog 25 [pt b0_ 0] G R (Bk b0_ 96 (Ak.k a0 g0_)::rO (Am.op g0_.t.2) g0_.t.1 a0.t::rO (Ah.op g0_.p.2) g0_.p.1 a0.p::OwM vW Ar.v g0_.sessions a0.sessions::F)
  (Ret fun u R' L'=>u=vS r∧R'=R∧L'=Bk b0_ 96 (Ak.k a0 g0_)::rO (Am.op g0_.t.2) g0_.t.1 a0.t::rO (Ah.op g0_.p.2) g0_.p.1 a0.p::OwM vW Ar.v g0_.sessions a0.sessions::F):=by
 obtain ⟨⟨pv1,g2⟩,⟨pv4,g5⟩,g6⟩:=g0_
 unfold Di at hm
 refine co_ofN (N:=126) func25 z z ?_
 refine csr (r_as z (nssr (r_mv z (r_bin z z (bP_eqp underlying30) (nsq (c_ff z (c_skip (x_seq (c_seq ?_)))))))))
 obtain ⟨r7,hr7,hm8⟩:=bs hm
 obtain ⟨r9,hr9,hm10⟩:=bs hm8
 obtain ⟨h11,hm12⟩:=ig hm10
 obtain ⟨r13,hr13,hm14⟩:=bs hm12
 obtain ⟨h15,hm16⟩:=ig hm14
 obtain ⟨r17,hr17,hm18⟩:=bs hm16
 obtain ⟨h19,hm20⟩:=ig hm18
 refine c_any mixed (effs:=[]) (V:=[]) ?_
 refine stn [0,1,3,7,15,31,63,0,128,384,896,1920,3968,8191,16383,0,32768,98304,229376,491520,1015808,2080767,4194303,0,8388608,25165824,58720256,125829120,264224767,536870911,1073741823] [0,1,2,3,4,5,6,7,8,9,10,11,12,13,14,15,16,17,18,19,20,21,22,23,24,25,26,27,28,29,30] [] [_,_,_,_,_,_,_,_,_,_,_,_,_,_,_,_,_,_,_,_,_,_,_,_,_,_,_,_,_,_,_] (q_mv z z z (q_u z z (o_nc z) (q_fa z z fa96_0 z (q_fa z z fa24_0 z (q_ld z z 0 sc3 z z z (q_u z z (o_cv z (cIW underlying3 underlying22 a0.c.Policy)) (q_u z z (o_callq ca49 z (AJ.ok _ _ hr7)) (q_mv z z z (q_u z z (o_nc z) (q_fa z z fa96_0 z (q_fa z z fa24_1 z (q_ld z z 0 sc3 z z z (q_u z z (o_cv z (cIW underlying3 underlying22 a0.c.Entries)) (q_u z z (o_callq ca49 z (AJ.ok _ _ hr9)) (q_u z z (o_bin z z (bS_add r7 r9 h11)) (q_mv z z z (q_u z z (o_nc z) (q_fa z z fa96_0 z (q_fa z z fa24_2 z (q_ld z z 0 sc3 z z z (q_u z z (o_cv z (cIW underlying3 underlying22 a0.c.Bytes)) (q_u z z (o_callq ca49 z (AJ.ok _ _ hr13)) (q_u z z (o_bin z z (bS_add _ _ h15)) (q_mv z z z (q_u z z (o_nc z) (q_fa z z fa96_0 z (q_fa z z fa24_3 z (q_ld z z 0 sc22 z z z (q_u z z (o_callq ca49 z (AJ.ok _ _ hr17)) (q_u z z (o_bin z z (bS_add _ _ h19)) (q_u z z (o_as z) qn))))))))))))))))))))))))))))))) en ?_
 intro _
 refine ex_sub (E':=[(0,pt b0_ 0),(3,vS (((r7++r9)++r13)++r17))]) ⟨z,z,y_⟩ ?_
 refine x_seq (c_seq ?_)
 obtain ⟨r21,hr21,hm22⟩:=bs hm20
 obtain ⟨r23,hr23,hm24⟩:=bs hm22
 obtain ⟨h25,hm26⟩:=ig hm24
 obtain ⟨r27,hr27,hm28⟩:=bs hm26
 obtain ⟨h29,hm30⟩:=ig hm28
 obtain ⟨r31,hr31,hm32⟩:=bs hm30
 obtain ⟨h33,hm34⟩:=ig hm32
 obtain ⟨r35,hr35,hm36⟩:=bs hm34
 obtain ⟨h37,hm38⟩:=ig hm36
 obtain ⟨h39,hm40⟩:=ig hm38
 refine c_any mixed (effs:=[]) (V:=[]) ?_
 refine stn [0,0,2,6,14,30,0,64,192,448,1022,2046,0,4096,12288,28672,63486,131070,0,262144,786432,1835008,3932160,8126464,16644094,33554430,0,67108864,201326592,469762048,1006632960,2080374784,4261279742,8589934590,17179869183,34359738367] [0,1,2,3,4,5,6,7,8,9,10,11,12,13,14,15,16,17,18,19,20,21,22,23,24,25,26,27,28,29,30,31,32,33,34,35] [] [_,_,_,_,_,_,_,_,_,_,_,_,_,_,_,_,_,_,_,_,_,_,_,_,_,_,_,_,_,_,_,_,_,_,_,_] (q_mv z z z (q_mv z z z (q_u z z (o_nc z) (q_fa z z fa96_4 z (q_ld z z 0 sc22 z z z (q_u z z (o_callq ca49 z (AJ.ok _ _ hr21)) (q_mv z z z (q_u z z (o_nc z) (q_fa z z fa96_5 z (q_ld z z 0 sc22 z z z (q_u z z (o_callq ca49 z (AJ.ok _ _ hr23)) (q_u z z (o_bin z z (bS_add _ _ h25)) (q_mv z z z (q_u z z (o_nc z) (q_fa z z fa96_6 z (q_ld z z 0 sc22 z z z (q_u z z (o_callq ca49 z (AJ.ok _ _ hr27)) (q_u z z (o_bin z z (bS_add _ _ h29)) (q_mv z z z (q_u z z (o_nc z) (q_fa z z fa96_7 z (q_fa z z fa47_0 z (q_ld z z 0 sc2 z z z (q_u z z (o_cv z (cIW underlying2 underlying22 a0.tally.Asked)) (q_u z z (o_callq ca49 z (AJ.ok _ _ hr31)) (q_u z z (o_bin z z (bS_add _ _ h33)) (q_mv z z z (q_u z z (o_nc z) (q_fa z z fa96_7 z (q_fa z z fa47_1 z (q_ld z z 0 sc2 z z z (q_u z z (o_cv z (cIW underlying2 underlying22 a0.tally.Hits)) (q_u z z (o_callq ca49 z (AJ.ok _ _ hr35)) (q_u z z (o_bin z z (bS_add _ _ h37)) (q_u z z (o_bin z z (bS_add _ _ h39)) (q_u z z (o_as z) qn)))))))))))))))))))))))))))))))))))) en ?_
 intro _
 refine ex_sub (E':=[(0,pt b0_ 0),(3,vS ((((r7++r9)++r13)++r17)++((((r21++r23)++r27)++r31)++r35)))]) ⟨z,z,y_⟩ ?_
 refine x_seq (c_seq ?_)
 refine cd_st (fun _ h=>mv1 h) ?_
 refine cd_opt (fun ho43 =>?_) (fun x41 b42 ho43 =>?_)
 ·rintro rfl
  have hm44:=om_n hm40 ho43
  cases hm44
 rintro rfl
 have hm44:=om_s hm40 ho43
 refine cd_st (fun _ h=>st_star_o h) ?_
 obtain ⟨r46,hr46,hm47⟩:=bs hm44
 refine cd_st (fun _ h=>mv3 h) ?_
 refine cd_opt (fun ho50 =>?_) (fun x48 b49 ho50 =>?_)
 ·rintro rfl
  have hm51:=om_n hm47 ho50
  cases hm51
 rintro rfl
 have hm51:=om_s hm47 ho50
 obtain ⟨⟨pv53,g54⟩,⟨pv56,g57⟩⟩:=g5
 refine cd_st (fun _ h=>st_star_o h) ?_
 obtain ⟨r58,hr58,hm59⟩:=bs hm51
 obtain ⟨h60,hm61⟩:=ig hm59
 obtain ⟨r62,hr62,hm63⟩:=bs hm61
 obtain ⟨h64,hm65⟩:=ig hm63
 obtain ⟨h66,hm67⟩:=ig hm65
 refine c_any mixed (effs:=[]) (V:=[]) ?_
 refine stn [0,0,2,6,14,30,0,64,192,448,1022,2046,0,4096,12288,28672,63486,129022,260094,524286,1048575,2097151] [0,1,2,3,4,5,6,7,8,9,10,11,12,13,14,15,16,17,18,19,20,21] [] [_,_,_,_,_,_,_,_,_,_,_,_,_,_,_,_,_,_,_,_,_,_] (q_mv z z z (q_mv z z z (q_u z z (o_nc z) (q_fa z z fa96_1 z (q_ld z z 5 sc92 z z z (q_u z z (o_callqP ca50 z (DA.ok b42 _ g2 _ hr46) (pk 7 [3,4,0,1,2,5,6]) (pk 7 [2,3,4,0,1,5,6])) (q_mv z z z (q_u z z (o_nc z) (q_fa z z fa96_2 z (q_ld z z 5 sc93 z z z (q_u z z (o_callqP ca51 z (Dp.ok b49 _ (⟨(pv53,g54),(pv56,g57)⟩:Ah.G) _ hr58) id_ id_) (q_u z z (o_bin z z (bS_add _ _ h60)) (q_mv z z z (q_u z z (o_nc z) (q_fa z z fa96_3 z (q_ld z z 5 sc94 z z z (q_u z z (o_lenM (kv:=vW) (vv:=Ar.v) 6 underlying94 z z) (q_u z z (o_cv z (cIW underlying3 underlying22 (a0.sessions.length:Int))) (q_u z z (o_callq ca49 z (AJ.ok _ _ hr62)) (q_u z z (o_bin z z (bS_add _ _ h64)) (q_u z z (o_bin z z (bS_add _ _ h66)) (q_u z z (o_as z) qn)))))))))))))))))))))) en ?_
 intro _
 refine ex_sub (E':=[(0,pt b0_ 0),(3,vS (((((r7++r9)++r13)++r17)++((((r21++r23)++r27)++r31)++r35))++((r46++r58)++r62)))]) ⟨z,z,y_⟩ ?_
 refine x_seq (c_seq (csr (r_mv z (r_nc z (r_fa fa96_3 z (r_ld 5 sc94 z z z ?_))))))
 refine rl_st (fun _ h=>mv6 h) ?_
 refine r_sw (s_w (o_call ca53 z mkeys64)) ?_
 rintro _ R _ _ ⟨b68,rfl,rfl,rfl⟩
 obtain ⟨l69,hl69,hm71⟩:=bs hm67
 refine r_sw (s_w (o_call ca52 z (sorted64 hl69))) ?_
 rintro v70 R _ _ ⟨rfl,rfl⟩
 refine r_u (o_lenO 0 underlying118 z z) (r_mv z (nsq ?_))
 obtain ⟨p72,hp73,hm74⟩:=bs hm71
 refine cd_join (E':=[(3,vS p72)]) (L':=Bk b49 144 [vI x48.kind,pv53,pv56]::Bk b42 138 [g2.m,vI x41.bytes]::Bk b0_ 96 [vI a0.c.Policy,vI a0.c.Entries,vI a0.c.Bytes,vW a0.c.Seed,pt b42 0,pt b49 0,g6,vW a0.seq,vW a0.now,vW a0.version,vI a0.tally.Asked,vI a0.tally.Hits]::OwS true 22 1 eW v70 l69::OwM vW Ar.v g6 a0.sessions::rO (Aq.op g54) pv53 x48.a::rO (Ao.op g57) pv56 x48.t::OwM vS Ai.v g2.m x41.m::F) ?_ fun K75 =>?_
 ·refine x_seq (csr (r_mv z (r_as z (r_nil (x_seq (c_ret ?_))))))
  refine ex_st (fun _ h=>mv2 (mv7 h)) ?_
  refine ex_st (fun _ h=>st_some (f:=Am.op g2) (a:=x41) (st_star_f (A:=Am.fl b42 x41 g2) h)) ?_
  refine ex_st (fun _ h=>mv3 (mv6 (mv6 h))) ?_
  refine ex_st (fun _ h=>st_some (f:=Ah.op (⟨(pv53,g54),(pv56,g57)⟩:Ah.G)) (a:=x48) (st_star_f (A:=Ah.fl b49 x48 (⟨(pv53,g54),(pv56,g57)⟩:Ah.G)) h)) ?_
  refine ex_st (fun _ h=>mv1 h) ?_
  refine ex_st (fun _ h=>st_back ho43 h) ?_
  refine ex_st (fun _ h=>mv1 h) ?_
  refine ex_st (fun _ h=>st_back ho50 h) ?_
  obtain rfl:=si hm74
  refine ex_st (pk 5 [2,1,0,4]) ?_
  exact x_r1 z (rv_t z) le_ ⟨_,z,z,z,z⟩
 refine c_blk ?_
 refine cd_loop (M:=fun k78 (s:Str×Int)=>Cl a0 l69 k78 s.1 s.2=some p72) (Ef:=fun (s:Str×Int)=>[(0,pt b0_ 0),(100,v70),(101,vI (l69.length:Int)),(3,vS s.1),(102,vI s.2)]) (Lf:=fun (s:Str×Int)=>Bk b49 144 [vI x48.kind,pv53,pv56]::Bk b42 138 [g2.m,vI x41.bytes]::Bk b0_ 96 [vI a0.c.Policy,vI a0.c.Entries,vI a0.c.Bytes,vW a0.c.Seed,pt b42 0,pt b49 0,g6,vW a0.seq,vW a0.now,vW a0.version,vI a0.tally.Asked,vI a0.tally.Hits]::OwS true 22 1 eW v70 l69::OwM vW Ar.v g6 a0.sessions::rO (Aq.op g54) pv53 x48.a::rO (Ao.op g57) pv56 x48.t::OwM vS Ai.v g2.m x41.m::F) (((l69.length:Int)-0).toNat+1) (((((r7++r9)++r13)++r17)++((((r21++r23)++r27)++r31)++r35))++((r46++r58)++r62),0) hp73 ⟨z,z,z,z,z,y_⟩ (pk 8 [2,5,7,0,1,3,4,6]) (fun _ h=>by cases h) fun k78 s hM80 =>?_
 obtain ⟨out_76,s_77⟩:=s
 have hm79:Cl a0 l69 (k78+1) out_76 s_77=some p72:=hM80
 rw [Cl] at hm79
 refine csr (r_bin z z (bI_lt _ _) (r_nil (x_seq (c_seq ?_))))
 refine c_if (b:=decide (s_77<(l69.length:Int))) z (fun h81 =>?_) fun h81 =>?_
 rotate_left
 ·have hm82:=iff_ hm79 h81
  refine c_exit (x_exit (ks':=_) z ?_)
  obtain rfl:=si hm82
  exact x_sub K75 ⟨z,y_⟩ id_
 have hm82:=ift hm79 h81
 refine c_skip (x_seq (c_seq (c_blk (csr ?_))))
 obtain ⟨x83,hx83,hm84⟩:=bs hm82
 refine r_u (o_ixO 3 underlying118 kr z z z hx83) (r_u (o_ldO0 3 sc22 z z hx83 z z) (r_as z (nsr (r_mv z (r_nc z (r_fa fa96_3 z (r_ld 2 sc94 z z z (r_mv z ?_))))))))
 refine r_u (o_lk1 (kv:=vW) (vv:=Ar.v) (key:=x83) (z0:=((⟨0,(⟨0,[],0⟩:Ap)⟩:Ar):Ar)) 4 underlying94 (kok_W underlying22) kr z z z) ?_
 refine r_new (o_al ze102) fun b85 =>?_
 refine r_u0 (o_stn ag102 z z z z z z z) (nsq ?_)
 obtain ⟨r86,hr86,hm87⟩:=bs hm84
 obtain ⟨r88,hr88,hm89⟩:=bs hm87
 obtain ⟨h90,hm91⟩:=ig hm89
 obtain ⟨r92,hr92,hm93⟩:=bs hm91
 obtain ⟨h94,hm95⟩:=ig hm93
 obtain ⟨h96,hm97⟩:=ig hm95
 refine c_any mixed (effs:=[]) (V:=[]) ?_
 refine stn [0,0,2,0,8,30,62,0,128,446,1022,2047,4095] [0,1,2,3,4,5,6,7,8,9,10,11,12] [] [_,_,_,_,_,_,_,_,_,_,_,_,_] (q_mv z z z (q_mv z z z (q_u z z (o_callq ca49 z (AJ.ok _ _ hr86)) (q_fa z z fa102_0 z (q_ld z z 0 sc22 z z z (q_u z z (o_callq ca49 z (AJ.ok (((mget a0.sessions x83).getD ((⟨0,(⟨0,[],0⟩:Ap)⟩:Ar):Ar)).num) _ hr88)) (q_u z z (o_bin z z (bS_add _ _ h90)) (q_fa z z fa102_1 z (q_u z z (o_ldn 0 (Ap.c (((mget a0.sessions x83).getD ((⟨0,(⟨0,[],0⟩:Ap)⟩:Ar):Ar)).reply)) ag41 z z z z) (q_u z z (o_callq ca54 z (D4.ok (((mget a0.sessions x83).getD ((⟨0,(⟨0,[],0⟩:Ap)⟩:Ar):Ar)).reply) _ hr92)) (q_u z z (o_bin z z (bS_add _ _ h94)) (q_u z z (o_bin z z (bS_add _ _ h96)) (q_u z z (o_as z) qn))))))))))))) en ?_
 intro _
 refine ex_sub (E':=[(0,pt b0_ 0),(100,v70),(101,vI (l69.length:Int)),(3,vS (out_76++((r86++r88)++r92))),(102,vI s_77)]) ⟨z,z,z,z,z,y_⟩ ?_
 refine x_blk (x_seq (c_reg (r_bin z z (bI_add _ 1) (r_mv z (r_nil ?_)))))
 exact x_lp (out_76++((r86++r88)++r92),i64 (s_77+1)) hm97 ⟨z,z,z,z,z,y_⟩ (pk 9 [1,2,3,4,5,6,7,8])
def B9 : Nat→UInt64→Str→Option (UInt64×Str)
 | 0,_,_=>none
 | k9+1,n_7,s_8=>if decide (127<n_7) then if s_8.length+[(128+(n_7%128)).toUInt8].length≤maxS then B9 k9 (n_7/128) (s_8++[(128+(n_7%128)).toUInt8]) else none else some (n_7,s_8)
def AC(a0:UInt64):Option Str :=
 Option.bind (B9 11 a0 []) fun p0=>if p0.2.length+[p0.1.toUInt8].length≤maxS then some (p0.2++[p0.1.toUInt8]) else none
theorem AC.ok{G R F}(a0:UInt64)(r:Str)(hm:AC a0=some r):CO prog 55 [vW a0] G R (F)
  (Ret fun u R' L'=>u=vS r∧R'=R∧L'=F):=by
 unfold AC at hm
 refine co_ofN (N:=22) func55 z z ?_
 refine csr (r_as z (nsr (r_as z (r_nil (x_seq (c_seq ?_))))))
 obtain ⟨p0,hp1,hm2⟩:=bs hm
 refine cd_join (E':=[(0,vW p0.1),(3,vS p0.2)]) (L':=F) ?_ fun K3 =>?_
 ·refine x_seq (csr (r_mv z (r_mv z (r_u (o_cv z (cWY underlying22 underlying5 p0.1)) ?_))))
  refine r_sw (s_w (o_bsl (en:=eY) (sz:=1) (e:=5) (cs:=[vY p0.1.toUInt8]) (r:=[p0.1.toUInt8]) z kr z (by decide) z (fun _=>z))) ?_
  rintro v4 R _ _ ⟨rfl,rfl⟩
  refine r_u (o_bs 0 underlying131 underlying5 underlying9 z z) ?_
  obtain ⟨h5,hm6⟩:=ig hm2
  refine r_bin z z (bS_add _ _ h5) (r_as z (r_nil (x_seq (c_ret ?_))))
  obtain rfl:=si hm6
  refine ex_st (pk 1 []) ?_
  exact x_r1 z (rv_t z) le_ ⟨_,z,z,z,z⟩
 refine c_blk ?_
 refine cd_loop (M:=fun k9 (s:UInt64×Str)=>B9 k9 s.1 s.2=some p0) (Ef:=fun (s:UInt64×Str)=>[(0,vW s.1),(3,vS s.2)]) (Lf:=fun (s:UInt64×Str)=>F) 11 (a0,[]) hp1 ⟨z,z,y_⟩ (fun _ h=>h) (fun _ h=>by cases h) fun k9 s hM11 =>?_
 obtain ⟨n_7,s_8⟩:=s
 have hm10:B9 (k9+1) n_7 s_8=some p0:=hM11
 rw [B9] at hm10
 refine c_seq (csr (r_mv z (r_bin z z (bW_gt _ 127) (nsq ?_))))
 refine c_if (b:=decide (127<n_7)) z (fun h12 =>?_) fun h12 =>?_
 ·have hm13:=ift hm10 h12
  refine c_skip (x_seq (c_blk (csr (r_mv z (r_mv z (r_bin z z (bW_rem _ 128 (by decide)) (r_bin z z (bW_add 128 _) (r_u (o_cv z (cWY underlying22 underlying5 (128+(n_7%128)))) ?_))))))))
  refine r_sw (s_w (o_bsl (en:=eY) (sz:=1) (e:=5) (cs:=[vY ((128+(n_7%128)).toUInt8)]) (r:=[(128+(n_7%128)).toUInt8]) z kr z (by decide) z (fun _=>z))) ?_
  rintro v14 R _ _ ⟨rfl,rfl⟩
  refine r_u (o_bs 0 underlying131 underlying5 underlying9 z z) ?_
  obtain ⟨h15,hm16⟩:=ig hm13
  refine r_bin z z (bS_add _ _ h15) (r_as z (r_nil (x_seq (c_reg (r_mv z (r_bin z z (bW_quo _ 128 (by decide)) (r_as z (r_nil (x_blk ?_)))))))))
  exact x_lp (n_7/128,s_8++[(128+(n_7%128)).toUInt8]) hm16 ⟨z,z,y_⟩ (pk 1 [])
 have hm13:=iff_ hm10 h12
 refine c_exit (x_exit (ks':=_) z ?_)
 obtain rfl:=si hm13
 exact x_sub K3 ⟨z,z,y_⟩ id_
def Bv(a0:Str):Option Str :=
 (AC (toW (a0.length:Int))).bind fun r0=>if r0.length+a0.length≤maxS then some (r0++a0) else none
theorem Bv.ok{G R F}(a0:Str)(r:Str)(hm:Bv a0=some r):CO prog 99 [vS a0] G R (F)
  (Ret fun u R' L'=>u=vS r∧R'=R∧L'=F):=by
 unfold Bv at hm
 refine co_ofN (N:=9) func99 z z ?_
 refine csr (r_as z (nsr (r_mv z (r_u (o_lenS underlying9 z) (r_u (o_cv z (cIW underlying3 underlying22 (a0.length:Int))) ?_)))))
 obtain ⟨r0,hr0,hm1⟩:=bs hm
 refine r_u (o_callq ca55 z (AC.ok _ _ hr0)) (r_mv z ?_)
 obtain ⟨h2,hm3⟩:=ig hm1
 refine r_bin z z (bS_add r0 a0 h2) (r_as z (r_nil (x_seq (c_ret ?_))))
 obtain rfl:=si hm3
 exact x_r1 z (rv_t z) le_ ⟨_,z,z,z,z⟩
def DJ(a0:Ai):Option Str :=
 (Bv a0.Key).bind fun r1=>(Bv a0.Value).bind fun r3=>if r1.length+r3.length≤maxS then (AC a0.Version).bind fun r7=>if (r1++r3).length+r7.length≤maxS then (AC a0.End).bind fun r11=>if ((r1++r3)++r7).length+r11.length≤maxS then some (((r1++r3)++r7)++r11) else none else none else none
theorem DJ.ok{G R F}(a0:Ai)(r:Str)(hm:DJ a0=some r):CO prog 96 [.agg (Ai.c a0).toArray] G R (F)
  (Ret fun u R' L'=>u=vS r∧R'=R∧L'=F):=by
 unfold DJ at hm
 refine co_ofN (N:=18) func96 z z ?_
 refine csr ?_
 refine r_new (o_bx (Ai.c a0) z z) fun b0 =>?_
 refine r_as z (r_nil (x_seq (c_seq ?_)))
 obtain ⟨r1,hr1,hm2⟩:=bs hm
 obtain ⟨r3,hr3,hm4⟩:=bs hm2
 obtain ⟨h5,hm6⟩:=ig hm4
 obtain ⟨r7,hr7,hm8⟩:=bs hm6
 obtain ⟨h9,hm10⟩:=ig hm8
 obtain ⟨r11,hr11,hm12⟩:=bs hm10
 obtain ⟨h13,hm14⟩:=ig hm12
 refine c_any mixed (effs:=[]) (V:=[]) ?_
 refine stn [0,1,3,0,8,31,63,0,128,447,1023,0,2048,7103,16383,32767] [0,1,2,3,4,5,6,7,8,9,10,11,12,13,14,15] [] [_,_,_,_,_,_,_,_,_,_,_,_,_,_,_,_] (q_fa z z fa50_0 z (q_ld z z 0 sc9 z z z (q_u z z (o_callq ca99 z (Bv.ok _ _ hr1)) (q_fa z z fa50_1 z (q_ld z z 0 sc9 z z z (q_u z z (o_callq ca99 z (Bv.ok _ _ hr3)) (q_u z z (o_bin z z (bS_add r1 r3 h5)) (q_fa z z fa50_2 z (q_ld z z 0 sc22 z z z (q_u z z (o_callq ca55 z (AC.ok _ _ hr7)) (q_u z z (o_bin z z (bS_add _ r7 h9)) (q_fa z z fa50_3 z (q_ld z z 0 sc22 z z z (q_u z z (o_callq ca55 z (AC.ok _ _ hr11)) (q_u z z (o_bin z z (bS_add _ _ h13)) (q_u z z (o_as z) qn)))))))))))))))) en ?_
 intro _
 refine ex_sub (E':=[(2,vS (((r1++r3)++r7)++r11))]) ⟨z,y_⟩ ?_
 refine x_seq (c_ret ?_)
 obtain rfl:=si hm14
 refine ex_st (pk 1 []) ?_
 exact x_r1 z (rv_t z) le_ ⟨_,z,z,z,z⟩
def Bx(a0:List Ai):Nat→Str→Int→Option (Str)
 | 0,_,_=>none
 | k8+1,s_6,i_7=>if decide (i_7<(a0.length:Int)) then (gi a0 i_7).bind fun x13=>(DJ x13).bind fun r15=>if s_6.length+r15.length≤maxS then Bx a0 k8 (s_6++r15) (i64 (i_7+1)) else none else some s_6
def Cq(a0:List Ai):Option Str :=
 (AC (toW (a0.length:Int))).bind fun r0=>Option.bind (Bx a0 (((a0.length:Int)-0).toNat+1) r0 0) fun p2=>some p2
theorem Cq.ok{G R F}(v0_:Value)(a0:List Ai)(h0_:RoS R v0_ 4 Ai.c a0)(r:Str)(hm:Cq a0=some r):CO prog 56 [v0_] G R (F)
  (Ret fun u R' L'=>u=vS r∧R'=R∧L'=F):=by
 unfold Cq at hm
 refine co_ofN (N:=23) func56 z z ?_
 refine csr (r_as z (nsr (r_mv z ?_)))
 refine r_u (o_lenR underlying61 z h0_) (r_u (o_cv z (cIW underlying3 underlying22 (a0.length:Int))) ?_)
 obtain ⟨r0,hr0,hm1⟩:=bs hm
 refine r_u (o_callq ca55 z (AC.ok _ _ hr0)) (r_as z (nssr (r_as z (nsq ?_))))
 obtain ⟨p2,hp3,hm4⟩:=bs hm1
 refine cd_join (E':=[(3,vS p2)]) (L':=F) ?_ fun K5 =>?_
 ·refine x_seq (csr (r_mv z (r_as z (r_nil (x_seq (c_ret ?_))))))
  obtain rfl:=si hm4
  exact x_r1 z (rv_t z) le_ ⟨_,z,z,z,z⟩
 refine c_blk ?_
 refine cd_loop (M:=fun k8 (s:Str×Int)=>Bx a0 k8 s.1 s.2=some p2) (Ef:=fun (s:Str×Int)=>[(0,v0_),(3,vS s.1),(4,vI s.2)]) (Lf:=fun (s:Str×Int)=>F) (((a0.length:Int)-0).toNat+1) (r0,0) hp3 ⟨z,z,z,y_⟩ (fun _ h=>h) (fun _ h=>by cases h) fun k8 s hM10 =>?_
 obtain ⟨s_6,i_7⟩:=s
 have hm9:Bx a0 (k8+1) s_6 i_7=some p2:=hM10
 rw [Bx] at hm9
 refine c_seq (csr (r_mv z (r_mv z ?_)))
 refine r_u (o_lenR underlying61 z h0_) (r_bin z z (bI_lt _ _) (nsq ?_))
 refine c_if (b:=decide (i_7<(a0.length:Int))) z (fun h11 =>?_) fun h11 =>?_
 rotate_left
 ·have hm12:=iff_ hm9 h11
  refine c_exit (x_exit (ks':=_) z ?_)
  obtain rfl:=si hm12
  exact x_sub K5 ⟨z,y_⟩ id_
 have hm12:=ift hm9 h11
 refine c_skip (x_seq (c_seq (c_blk (c_reg (r_mv z (r_mv z (r_mv z ?_)))))))
 obtain ⟨x13,hx13,hm14⟩:=bs hm12
 obtain ⟨b13,o13,l13,T13,fr13,c13,hv13,hR13,he13,hi13⟩:=RoS.ne h0_ hx13
 refine r_u (o_ix (sz:=4) underlying61 kr z z hv13 hi13) ?_
 refine r_u (o_ldnR (Ai.c x13) ag50 z hR13 he13 z) ?_
 obtain ⟨r15,hr15,hm16⟩:=bs hm14
 refine r_u (o_callq ca96 z (DJ.ok _ _ hr15)) ?_
 obtain ⟨h17,hm18⟩:=ig hm16
 refine r_bin z z (bS_add _ _ h17) (r_as z (r_nil (x_blk (x_seq (c_reg (r_mv z (r_bin z z (bI_add _ 1) (r_as z (r_nil ?_)))))))))
 exact x_lp (s_6++r15,i64 (i_7+1)) hm18 ⟨z,z,z,y_⟩ id_
def BW(x22:List Str):Nat→Str→Int→Option (Str)
 | 0,_,_=>none
 | k35+1,out_33,k_34=>if decide (k_34<(x22.length:Int)) then (gi x22 k_34).bind fun x40=>(Bv x40).bind fun r42=>if out_33.length+r42.length≤maxS then BW x22 k35 (out_33++r42) (i64 (k_34+1)) else none else some out_33
def Cr(a0:Ab):Nat→Str→Int→Option (Str)
 | 0,_,_=>none
 | k13+1,out_11,i_12=>if decide (i_12<(a0.L.length:Int)) then Option.bind ((gi a0.L i_12).bind fun x22=>(AC (toW (x22.length:Int))).bind fun r25=>if out_11.length+r25.length≤maxS then Option.bind (BW x22 (((x22.length:Int)-0).toNat+1) (out_11++r25) 0) fun p29=>some p29 else none) fun p18=>Cr a0 k13 p18 (i64 (i_12+1)) else some out_11
def Bp(a0:Ab):Option Str :=
 (AC (toW (a0.L.length:Int))).bind fun r1=>(AC (toW a0.Places)).bind fun r3=>if r1.length+r3.length≤maxS then Option.bind (Cr a0 (((a0.L.length:Int)-0).toNat+1) (r1++r3) 0) fun p7=>some p7 else none
theorem Bp.ok{G R F}(a0:Ab)(g0_:Ab.G)(h0:Ab.ro R a0 g0_)(r:Str)(hm:Bp a0=some r):CO prog 150 [.agg [g0_.L.1,vI a0.Places].toArray] G R (F)
  (Ret fun u R' L'=>u=vS r∧R'=R∧L'=F):=by
 unfold Bp at hm
 refine co_ofN (N:=55) func150 z z ?_
 refine csr ?_
 refine r_new (o_bx [g0_.L.1,vI a0.Places] z z) fun b0 =>?_
 refine r_as z (r_nil (x_seq (c_seq ?_)))
 obtain ⟨r1,hr1,hm2⟩:=bs hm
 obtain ⟨r3,hr3,hm4⟩:=bs hm2
 obtain ⟨h5,hm6⟩:=ig hm4
 refine c_any mixed (effs:=[]) (V:=[]) ?_
 refine stn [0,1,3,7,15,0,32,96,255,511,1023] [0,1,2,3,4,5,6,7,8,9,10] [] [_,_,_,_,_,_,_,_,_,_,_] (q_fa z z fa64_0 z (q_ld z z 0 sc62 z z z (q_u z z (o_lenRN underlying62 z h0) (q_u z z (o_cv z (cIW underlying3 underlying22 (a0.L.length:Int))) (q_u z z (o_callq ca55 z (AC.ok _ _ hr1)) (q_fa z z fa64_1 z (q_ld z z 0 sc3 z z z (q_u z z (o_cv z (cIW underlying3 underlying22 a0.Places)) (q_u z z (o_callq ca55 z (AC.ok _ _ hr3)) (q_u z z (o_bin z z (bS_add r1 r3 h5)) (q_u z z (o_as z) qn))))))))))) en ?_
 intro _
 refine ex_sub (E':=[(1,pt b0 0),(3,vS (r1++r3))]) ⟨z,z,y_⟩ ?_
 refine x_seq (c_seq (csr (r_as z (nsq ?_))))
 obtain ⟨p7,hp8,hm9⟩:=bs hm6
 refine cd_join (E':=[(3,vS p7)]) (L':=Bk b0 64 [g0_.L.1,vI a0.Places]::F) ?_ fun K10 =>?_
 ·refine x_seq (csr (r_mv z (r_as z (r_nil (x_seq (c_ret ?_))))))
  obtain rfl:=si hm9
  refine ex_st (pk 1 []) ?_
  exact x_r1 z (rv_t z) le_ ⟨_,z,z,z,z⟩
 refine c_blk ?_
 refine cd_loop (M:=fun k13 (s:Str×Int)=>Cr a0 k13 s.1 s.2=some p7) (Ef:=fun (s:Str×Int)=>[(1,pt b0 0),(3,vS s.1),(4,vI s.2)]) (Lf:=fun (s:Str×Int)=>Bk b0 64 [g0_.L.1,vI a0.Places]::F) (((a0.L.length:Int)-0).toNat+1) (r1++r3,0) hp8 ⟨z,z,z,y_⟩ (fun _ h=>h) (fun _ h=>by cases h) fun k13 s hM15 =>?_
 obtain ⟨out_11,i_12⟩:=s
 have hm14:Cr a0 (k13+1) out_11 i_12=some p7:=hM15
 rw [Cr] at hm14
 refine c_seq (csr (r_mv z (r_fa fa64_0 z (r_ld 0 sc62 z z z ?_))))
 refine r_u (o_lenRN underlying62 z h0) (r_bin z z (bI_lt _ _) (nsq ?_))
 refine c_if (b:=decide (i_12<(a0.L.length:Int))) z (fun h16 =>?_) fun h16 =>?_
 rotate_left
 ·have hm17:=iff_ hm14 h16
  refine c_exit (x_exit (ks':=_) z ?_)
  obtain rfl:=si hm17
  exact x_sub K10 ⟨z,y_⟩ id_
 have hm17:=ift hm14 h16
 refine c_skip (x_seq (c_seq ?_))
 obtain ⟨p18,hp19,hm20⟩:=bs hm17
 refine cd_join (E':=[(1,pt b0 0),(4,vI i_12),(3,vS p18)]) (L':=Bk b0 64 [g0_.L.1,vI a0.Places]::F) ?_ fun K21 =>?_
 ·refine x_seq (c_reg (r_mv z (r_bin z z (bI_add _ 1) (r_as z (r_nil ?_)))))
  exact x_lp (p18,i64 (i_12+1)) hm20 ⟨z,z,z,y_⟩ id_
 refine c_blk (csr (r_mv z (r_fa fa64_0 z (r_ld 0 sc62 z z z (r_mv z ?_)))))
 obtain ⟨x22,hx22,hm24⟩:=bs hp19
 obtain ⟨b22,o22,l22,T22,fr22,c22,u23,hv22,hR22,he22,hi22,hN22⟩:=RoN.ne h0 hx22
 refine r_u (o_ix (sz:=1) underlying62 kr z z hv22 hi22) ?_
 refine r_u (o_ldR sc98 z hR22 (rok 0 he22 (by decide))) ?_
 refine r_u (o_lenR underlying98 z hN22) (r_u (o_cv z (cIW underlying3 underlying22 (x22.length:Int))) ?_)
 obtain ⟨r25,hr25,hm26⟩:=bs hm24
 refine r_u (o_callq ca55 z (AC.ok _ _ hr25)) ?_
 obtain ⟨h27,hm28⟩:=ig hm26
 refine r_bin z z (bS_add _ _ h27) (r_as z (nsr (r_as z (nsq ?_))))
 obtain ⟨p29,hp30,hm31⟩:=bs hm28
 refine cd_join (E':=[(1,pt b0 0),(4,vI i_12),(3,vS p29)]) (L':=Bk b0 64 [g0_.L.1,vI a0.Places]::F) ?_ fun K32 =>?_
 ·refine x_blk ?_
  obtain rfl:=si hm31
  exact x_sub K21 ⟨z,z,z,y_⟩ id_
 refine c_blk ?_
 refine cd_loop (M:=fun k35 (s:Str×Int)=>BW x22 k35 s.1 s.2=some p29) (Ef:=fun (s:Str×Int)=>[(1,pt b0 0),(4,vI i_12),(3,vS s.1),(5,vI s.2)]) (Lf:=fun (s:Str×Int)=>Bk b0 64 [g0_.L.1,vI a0.Places]::F) (((x22.length:Int)-0).toNat+1) (out_11++r25,0) hp30 ⟨z,z,z,z,y_⟩ (fun _ h=>h) (fun _ h=>by cases h) fun k35 s hM37 =>?_
 obtain ⟨out_33,k_34⟩:=s
 have hm36:BW x22 (k35+1) out_33 k_34=some p29:=hM37
 rw [BW] at hm36
 refine c_seq (csr (r_mv z (r_fa fa64_0 z (r_ld 0 sc62 z z z (r_mv z ?_)))))
 refine r_u (o_ix (sz:=1) underlying62 kr z z hv22 hi22) ?_
 refine r_u (o_ldR sc98 z hR22 (rok 0 he22 (by decide))) ?_
 refine r_u (o_lenR underlying98 z hN22) (r_bin z z (bI_lt _ _) (nsq ?_))
 refine c_if (b:=decide (k_34<(x22.length:Int))) z (fun h38 =>?_) fun h38 =>?_
 rotate_left
 ·have hm39:=iff_ hm36 h38
  refine c_exit (x_exit (ks':=_) z ?_)
  obtain rfl:=si hm39
  exact x_sub K32 ⟨z,z,z,y_⟩ id_
 have hm39:=ift hm36 h38
 refine c_skip (x_seq (c_seq (c_blk (c_reg (r_mv z (r_fa fa64_0 z (r_ld 0 sc62 z z z (r_mv z ?_))))))))
 refine r_u (o_ix (sz:=1) underlying62 kr z z hv22 hi22) ?_
 refine r_u (o_ldR sc98 z hR22 (rok 0 he22 (by decide))) (r_mv z ?_)
 obtain ⟨x40,hx40,hm41⟩:=bs hm39
 obtain ⟨b40,o40,l40,T40,fr40,c40,hv40,hR40,he40,hi40⟩:=RoS.ne hN22 hx40
 refine r_u (o_ix (sz:=1) underlying98 kr z z hv40 hi40) ?_
 refine r_u (o_ldR sc9 z hR40 (rok 0 he40 (by decide))) ?_
 obtain ⟨r42,hr42,hm43⟩:=bs hm41
 refine r_u (o_callq ca99 z (Bv.ok _ _ hr42)) ?_
 obtain ⟨h44,hm45⟩:=ig hm43
 refine r_bin z z (bS_add _ _ h44) (r_as z (r_nil (x_blk (x_seq (c_reg (r_mv z (r_bin z z (bI_add _ 1) (r_as z (r_nil ?_)))))))))
 exact x_lp (out_33++r42,i64 (k_34+1)) hm45 ⟨z,z,z,z,y_⟩ id_
def De(a0:Aa):Option Str :=
 (AC (toW a0.Most)).bind fun r1=>(AC (toW a0.Target)).bind fun r3=>if r1.length+r3.length≤maxS then (Bp a0.R).bind fun r7=>if (r1++r3).length+r7.length≤maxS then some ((r1++r3)++r7) else none else none
theorem De.ok{G R F}(a0:Aa)(g0_:Aa.G)(h0:Aa.ro R a0 g0_)(r:Str)(hm:De a0=some r):CO prog 97 [.agg (Aa.k a0 g0_).toArray] G R (F)
  (Ret fun u R' L'=>u=vS r∧R'=R∧L'=F):=by
 unfold De at hm
 refine co_ofN (N:=16) func97 z z ?_
 refine csr ?_
 refine r_new (o_bx (Aa.k a0 g0_) z z) fun b0 =>?_
 refine r_as z (r_nil (x_seq (c_seq ?_)))
 obtain ⟨r1,hr1,hm2⟩:=bs hm
 obtain ⟨r3,hr3,hm4⟩:=bs hm2
 obtain ⟨h5,hm6⟩:=ig hm4
 obtain ⟨r7,hr7,hm8⟩:=bs hm6
 obtain ⟨h9,hm10⟩:=ig hm8
 refine c_any mixed (effs:=[]) (V:=[]) ?_
 refine stn [0,1,3,7,0,16,48,127,255,0,512,1791,4095,8191] [0,1,2,3,4,5,6,7,8,9,10,11,12,13] [] [_,_,_,_,_,_,_,_,_,_,_,_,_,_] (q_fa z z fa66_0 z (q_ld z z 0 sc3 z z z (q_u z z (o_cv z (cIW underlying3 underlying22 a0.Most)) (q_u z z (o_callq ca55 z (AC.ok _ _ hr1)) (q_fa z z fa66_1 z (q_ld z z 0 sc3 z z z (q_u z z (o_cv z (cIW underlying3 underlying22 a0.Target)) (q_u z z (o_callq ca55 z (AC.ok _ _ hr3)) (q_u z z (o_bin z z (bS_add r1 r3 h5)) (q_fa z z fa66_2 z (q_u z z (o_ldn 0 [g0_.R.L.1,vI a0.R.Places] ag64 z z z z) (q_u z z (o_callq ca150 z (Bp.ok _ (⟨(g0_.R.L.1,[])⟩:Ab.G) h0 _ hr7)) (q_u z z (o_bin z z (bS_add _ r7 h9)) (q_u z z (o_as z) qn)))))))))))))) en ?_
 intro _
 refine ex_sub (E':=[(2,vS ((r1++r3)++r7))]) ⟨z,y_⟩ ?_
 refine x_seq (c_ret ?_)
 obtain rfl:=si hm10
 refine ex_st (pk 1 []) ?_
 exact x_r1 z (rv_t z) le_ ⟨_,z,z,z,z⟩
def Dk(a0:Bool):Str :=
 if a0 then [1] else [0]
theorem Dk.ok{G R F}(a0:Bool)(r:Str)(hm:Dk a0=r):CO prog 201 [vB a0] G R (F)
  (Ret fun u R' L'=>u=vS r∧R'=R∧L'=F):=by
 unfold Dk at hm
 refine co_ofN (N:=4) func201 z z ?_
 refine csr (r_as z (nssr (r_mv z (nsq ?_))))
 refine c_if (b:=a0) z (fun h0 =>?_) fun h0 =>?_
 ·have hm1:=ift hm h0
  refine csr (r_as z (r_nil (x_seq (c_ret ?_))))
  subst hm1
  exact x_r1 z (rv_t z) le_ ⟨_,z,z,z,z⟩
 have hm1:=iff_ hm h0
 refine c_skip (x_seq (csr (r_as z (r_nil (x_seq (c_ret ?_))))))
 subst hm1
 exact x_r1 z (rv_t z) le_ ⟨_,z,z,z,z⟩
def BP(a0:Ad):Nat→Str→Int→Option (Str)
 | 0,_,_=>none
 | k21+1,out_19,k_20=>if decide (k_20<a0.Wide) then (gi a0.Door k_20).bind fun x26=>if out_19.length+(Dk x26).length≤maxS then BP a0 k21 (out_19++(Dk x26)) (i64 (k_20+1)) else none else some out_19
def A7(a0:Ad)(i_31:Int):Nat→Str→Int→Option (Str)
 | 0,_,_=>none
 | k47+1,out_45,k_46=>if decide (k_46<a0.Wide) then (gi a0.Rows i_31).bind fun x52=>(gi x52 k_46).bind fun x55=>if out_45.length+[toY x55].length≤maxS then A7 a0 i_31 k47 (out_45++[toY x55]) (i64 (k_46+1)) else none else some out_45
def A8(a0:Ad):Nat→Str→Int→Option (Str)
 | 0,_,_=>none
 | k32+1,out_30,i_31=>if decide (i_31<4) then Option.bind (Option.bind (A7 a0 i_31 ((a0.Wide-0).toNat+1) out_30 0) fun p41=>some p41) fun p37=>A8 a0 k32 p37 (i64 (i_31+1)) else some out_30
def CQ(a0:Ad):Option Str :=
 (AC (toW a0.Wide)).bind fun r1=>(AC a0.Seed).bind fun r3=>if r1.length+r3.length≤maxS then (AC (toW a0.Added)).bind fun r7=>if (r1++r3).length+r7.length≤maxS then Option.bind (A8 a0 5 ((r1++r3)++r7) 0) fun p11=>Option.bind (BP a0 ((a0.Wide-0).toNat+1) p11 0) fun p15=>some p15 else none else none
theorem CQ.ok{G R F}(a0:Ad)(g0_:Ad.G)(h0:Ad.ro R a0 g0_)(r:Str)(hm:CQ a0=some r):CO prog 151 [.agg (Ad.k a0 g0_).toArray] G R (F)
  (Ret fun u R' L'=>u=vS r∧R'=R∧L'=F):=by
 unfold CQ at hm
 refine co_ofN (N:=58) func151 z z ?_
 refine csr ?_
 refine r_new (o_bx (Ad.k a0 g0_) z z) fun b0 =>?_
 refine r_as z (r_nil (x_seq (c_seq ?_)))
 obtain ⟨r1,hr1,hm2⟩:=bs hm
 obtain ⟨r3,hr3,hm4⟩:=bs hm2
 obtain ⟨h5,hm6⟩:=ig hm4
 obtain ⟨r7,hr7,hm8⟩:=bs hm6
 obtain ⟨h9,hm10⟩:=ig hm8
 refine c_any mixed (effs:=[]) (V:=[]) ?_
 refine stn [0,1,3,7,0,16,63,127,0,256,768,1919,4095,8191] [0,1,2,3,4,5,6,7,8,9,10,11,12,13] [] [_,_,_,_,_,_,_,_,_,_,_,_,_,_] (q_fa z z fa70_0 z (q_ld z z 0 sc3 z z z (q_u z z (o_cv z (cIW underlying3 underlying22 a0.Wide)) (q_u z z (o_callq ca55 z (AC.ok _ _ hr1)) (q_fa z z fa70_1 z (q_ld z z 0 sc22 z z z (q_u z z (o_callq ca55 z (AC.ok _ _ hr3)) (q_u z z (o_bin z z (bS_add r1 r3 h5)) (q_fa z z fa70_4 z (q_ld z z 0 sc3 z z z (q_u z z (o_cv z (cIW underlying3 underlying22 a0.Added)) (q_u z z (o_callq ca55 z (AC.ok _ _ hr7)) (q_u z z (o_bin z z (bS_add _ r7 h9)) (q_u z z (o_as z) qn)))))))))))))) en ?_
 intro _
 refine ex_sub (E':=[(1,pt b0 0),(3,vS ((r1++r3)++r7))]) ⟨z,z,y_⟩ ?_
 refine x_seq (c_seq (csr (r_as z (nsq ?_))))
 obtain ⟨p11,hp12,hm13⟩:=bs hm10
 refine cd_join (E':=[(1,pt b0 0),(3,vS p11)]) (L':=Bk b0 70 (Ad.k a0 g0_)::F) ?_ fun K14 =>?_
 ·refine x_seq (c_seq (csr (r_as z (nsq ?_))))
  obtain ⟨p15,hp16,hm17⟩:=bs hm13
  refine cd_join (E':=[(3,vS p15)]) (L':=Bk b0 70 (Ad.k a0 g0_)::F) ?_ fun K18 =>?_
  ·refine x_seq (csr (r_mv z (r_as z (r_nil (x_seq (c_ret ?_))))))
   obtain rfl:=si hm17
   refine ex_st (pk 1 []) ?_
   exact x_r1 z (rv_t z) le_ ⟨_,z,z,z,z⟩
  refine c_blk ?_
  refine cd_loop (M:=fun k21 (s:Str×Int)=>BP a0 k21 s.1 s.2=some p15) (Ef:=fun (s:Str×Int)=>[(1,pt b0 0),(3,vS s.1),(6,vI s.2)]) (Lf:=fun (s:Str×Int)=>Bk b0 70 (Ad.k a0 g0_)::F) ((a0.Wide-0).toNat+1) (p11,0) hp16 ⟨z,z,z,y_⟩ (fun _ h=>h) (fun _ h=>by cases h) fun k21 s hM23 =>?_
  obtain ⟨out_19,k_20⟩:=s
  have hm22:BP a0 (k21+1) out_19 k_20=some p15:=hM23
  rw [BP] at hm22
  refine c_seq (csr (r_mv z (r_fa fa70_0 z (r_ld 0 sc3 z z z (r_bin z z (bI_lt _ _) (nsq ?_))))))
  refine c_if (b:=decide (k_20<a0.Wide)) z (fun h24 =>?_) fun h24 =>?_
  rotate_left
  ·have hm25:=iff_ hm22 h24
   refine c_exit (x_exit (ks':=_) z ?_)
   obtain rfl:=si hm25
   exact x_sub K18 ⟨z,y_⟩ id_
  have hm25:=ift hm22 h24
  refine c_skip (x_seq (c_seq (c_blk (c_reg (r_mv z (r_fa fa70_3 z (r_ld 0 sc68 z z z (r_mv z ?_))))))))
  obtain ⟨x26,hx26,hm27⟩:=bs hm25
  obtain ⟨b26,o26,l26,T26,fr26,c26,hv26,hR26,he26,hi26⟩:=RoS.ne h0.2 hx26
  refine r_u (o_ix (sz:=1) underlying68 kr z z hv26 hi26) ?_
  refine r_u (o_ldR sc4 z hR26 (rok 0 he26 (by decide))) ?_
  refine r_u (o_callq ca201 z (Dk.ok x26 _ z)) ?_
  obtain ⟨h28,hm29⟩:=ig hm27
  refine r_bin z z (bS_add _ _ h28) (r_as z (r_nil (x_blk (x_seq (c_reg (r_mv z (r_bin z z (bI_add _ 1) (r_as z (r_nil ?_)))))))))
  exact x_lp (out_19++(Dk x26),i64 (k_20+1)) hm29 ⟨z,z,z,y_⟩ id_
 refine c_blk ?_
 refine cd_loop (M:=fun k32 (s:Str×Int)=>A8 a0 k32 s.1 s.2=some p11) (Ef:=fun (s:Str×Int)=>[(1,pt b0 0),(3,vS s.1),(4,vI s.2)]) (Lf:=fun (s:Str×Int)=>Bk b0 70 (Ad.k a0 g0_)::F) 5 ((r1++r3)++r7,0) hp12 ⟨z,z,z,y_⟩ (fun _ h=>h) (fun _ h=>by cases h) fun k32 s hM34 =>?_
 obtain ⟨out_30,i_31⟩:=s
 have hm33:A8 a0 (k32+1) out_30 i_31=some p11:=hM34
 rw [A8] at hm33
 refine c_seq (csr (r_mv z (r_bin z z (bI_lt _ 4) (nsq ?_))))
 refine c_if (b:=decide (i_31<4)) z (fun h35 =>?_) fun h35 =>?_
 rotate_left
 ·have hm36:=iff_ hm33 h35
  refine c_exit (x_exit (ks':=_) z ?_)
  obtain rfl:=si hm36
  exact x_sub K14 ⟨z,z,y_⟩ id_
 have hm36:=ift hm33 h35
 refine c_skip (x_seq (c_seq ?_))
 obtain ⟨p37,hp38,hm39⟩:=bs hm36
 refine cd_join (E':=[(1,pt b0 0),(4,vI i_31),(3,vS p37)]) (L':=Bk b0 70 (Ad.k a0 g0_)::F) ?_ fun K40 =>?_
 ·refine x_seq (c_reg (r_mv z (r_bin z z (bI_add _ 1) (r_as z (r_nil ?_)))))
  exact x_lp (p37,i64 (i_31+1)) hm39 ⟨z,z,z,y_⟩ id_
 refine c_blk (csr (r_as z (nsq ?_)))
 obtain ⟨p41,hp42,hm43⟩:=bs hp38
 refine cd_join (E':=[(1,pt b0 0),(4,vI i_31),(3,vS p41)]) (L':=Bk b0 70 (Ad.k a0 g0_)::F) ?_ fun K44 =>?_
 ·refine x_blk ?_
  obtain rfl:=si hm43
  exact x_sub K40 ⟨z,z,z,y_⟩ id_
 refine c_blk ?_
 refine cd_loop (M:=fun k47 (s:Str×Int)=>A7 a0 i_31 k47 s.1 s.2=some p41) (Ef:=fun (s:Str×Int)=>[(1,pt b0 0),(4,vI i_31),(3,vS s.1),(5,vI s.2)]) (Lf:=fun (s:Str×Int)=>Bk b0 70 (Ad.k a0 g0_)::F) ((a0.Wide-0).toNat+1) (out_30,0) hp42 ⟨z,z,z,z,y_⟩ (fun _ h=>h) (fun _ h=>by cases h) fun k47 s hM49 =>?_
 obtain ⟨out_45,k_46⟩:=s
 have hm48:A7 a0 i_31 (k47+1) out_45 k_46=some p41:=hM49
 rw [A7] at hm48
 refine c_seq (csr (r_mv z (r_fa fa70_0 z (r_ld 0 sc3 z z z (r_bin z z (bI_lt _ _) (nsq ?_))))))
 refine c_if (b:=decide (k_46<a0.Wide)) z (fun h50 =>?_) fun h50 =>?_
 rotate_left
 ·have hm51:=iff_ hm48 h50
  refine c_exit (x_exit (ks':=_) z ?_)
  obtain rfl:=si hm51
  exact x_sub K44 ⟨z,z,z,y_⟩ id_
 have hm51:=ift hm48 h50
 refine c_skip (x_seq (c_seq (c_blk (c_reg (r_mv z (r_fa fa70_2 z (r_ld 0 sc67 z z z (r_mv z ?_))))))))
 obtain ⟨x52,hx52,hm54⟩:=bs hm51
 obtain ⟨b52,o52,l52,T52,fr52,c52,u53,hv52,hR52,he52,hi52,hN52⟩:=RoN.ne h0.1 hx52
 refine r_u (o_ix (sz:=1) underlying67 kr z z hv52 hi52) ?_
 refine r_u (o_ldR sc234 z hR52 (rok 0 he52 (by decide))) (r_mv z ?_)
 obtain ⟨x55,hx55,hm56⟩:=bs hm54
 obtain ⟨b55,o55,l55,T55,fr55,c55,hv55,hR55,he55,hi55⟩:=RoS.ne hN52 hx55
 refine r_u (o_ix (sz:=1) underlying234 kr z z hv55 hi55) ?_
 refine r_u (o_ldR sc3 z hR55 (rok 0 he55 (by decide))) (r_u (o_cv z (cIY underlying3 underlying5 x55)) ?_)
 refine r_sw (s_w (o_bsl (en:=eY) (sz:=1) (e:=5) (cs:=[vY (toY x55)]) (r:=[toY x55]) z kr z (by decide) z (fun _=>z))) ?_
 rintro v57 R _ _ ⟨rfl,rfl⟩
 refine r_u (o_bs 0 underlying131 underlying5 underlying9 z z) ?_
 obtain ⟨h58,hm59⟩:=ig hm56
 refine r_bin z z (bS_add _ _ h58) (r_as z (r_nil (x_blk (x_seq (c_reg (r_mv z (r_bin z z (bI_add _ 1) (r_as z (r_nil ?_)))))))))
 exact x_lp (out_45++[toY x55],i64 (k_46+1)) hm59 ⟨z,z,z,z,y_⟩ (pk 2 [1])
def C7(a0:Ae):Option Str :=
 (AC (toW a0.Most)).bind fun r1=>(CQ a0.S).bind fun r3=>if r1.length+r3.length≤maxS then (Bp a0.R).bind fun r7=>if (r1++r3).length+r7.length≤maxS then some ((r1++r3)++r7) else none else none
theorem C7.ok{G R F}(a0:Ae)(g0_:Ae.G)(h0:Ae.ro R a0 g0_)(r:Str)(hm:C7 a0=some r):CO prog 98 [.agg (Ae.k a0 g0_).toArray] G R (F)
  (Ret fun u R' L'=>u=vS r∧R'=R∧L'=F):=by
 unfold C7 at hm
 refine co_ofN (N:=15) func98 z z ?_
 refine csr ?_
 refine r_new (o_bx (Ae.k a0 g0_) z z) fun b0 =>?_
 refine r_as z (r_nil (x_seq (c_seq ?_)))
 obtain ⟨r1,hr1,hm2⟩:=bs hm
 obtain ⟨r3,hr3,hm4⟩:=bs hm2
 obtain ⟨h5,hm6⟩:=ig hm4
 obtain ⟨r7,hr7,hm8⟩:=bs hm6
 obtain ⟨h9,hm10⟩:=ig hm8
 refine c_any mixed (effs:=[]) (V:=[]) ?_
 refine stn mk36_ [0,1,2,3,4,5,6,7,8,9,10,11,12] [] [_,_,_,_,_,_,_,_,_,_,_,_,_] (q_fa z z fa72_0 z (q_ld z z 0 sc3 z z z (q_u z z (o_cv z (cIW underlying3 underlying22 a0.Most)) (q_u z z (o_callq ca55 z (AC.ok _ _ hr1)) (q_fa z z fa72_1 z (q_u z z (o_ldn 0 (Ad.k a0.S g0_.S) ag70 z z z z) (q_u z z (o_callq ca151 z (CQ.ok _ (⟨(g0_.S.Rows.1,[]),g0_.S.Door⟩:Ad.G) ⟨h0.1.1,h0.1.2⟩ _ hr3)) (q_u z z (o_bin z z (bS_add r1 r3 h5)) (q_fa z z fa72_2 z (q_u z z (o_ldn 0 [g0_.R.L.1,vI a0.R.Places] ag64 z z z z) (q_u z z (o_callq ca150 z (Bp.ok _ (⟨(g0_.R.L.1,[])⟩:Ab.G) h0.2 _ hr7)) (q_u z z (o_bin z z (bS_add _ r7 h9)) (q_u z z (o_as z) qn))))))))))))) en ?_
 intro _
 refine ex_sub (E':=[(2,vS ((r1++r3)++r7))]) ⟨z,y_⟩ ?_
 refine x_seq (c_ret ?_)
 obtain rfl:=si hm10
 refine ex_st (pk 1 []) ?_
 exact x_r1 z (rv_t z) le_ ⟨_,z,z,z,z⟩
def CR(a0:Af):Option Str :=
 if (a0.Kind==1) then (De a0.A).bind fun r3=>if [1].length+r3.length≤maxS then some ([1]++r3) else none else (C7 a0.T).bind fun r7=>if [2].length+r7.length≤maxS then some ([2]++r7) else none
theorem CR.ok{G R F}(a0:Af)(g0_:Af.G)(h0:Af.ro R a0 g0_)(r:Str)(hm:CR a0=some r):CO prog 57 [.agg (Af.k a0 g0_).toArray] G R (F)
  (Ret fun u R' L'=>u=vS r∧R'=R∧L'=F):=by
 unfold CR at hm
 refine co_ofN (N:=14) func57 z z ?_
 refine csr ?_
 refine r_new (o_bx (Af.k a0 g0_) z z) fun b0 =>?_
 refine r_as z (nssr (r_fa fa74_0 z (r_ld 0 sc3 z z z (r_bin z z (bI_eq _ 1) (nsq ?_)))))
 refine c_if (b:=(a0.Kind==1)) z (fun h1 =>?_) fun h1 =>?_
 ·have hm2:=ift hm h1
  refine csr (r_fa fa74_1 z ?_)
  refine r_u (o_ldn 0 (Aa.k a0.A g0_.A) ag66 z z z z) ?_
  obtain ⟨r3,hr3,hm4⟩:=bs hm2
  refine r_u (o_callq ca97 z (De.ok _ (⟨(⟨(g0_.A.R.L.1,[])⟩:Ab.G)⟩:Aa.G) h0.1 _ hr3)) ?_
  obtain ⟨h5,hm6⟩:=ig hm4
  refine r_bin z z (bS_add [1] r3 h5) (r_as z (r_nil (x_seq (c_ret ?_))))
  obtain rfl:=si hm6
  refine ex_st (pk 1 []) ?_
  exact x_r1 z (rv_t z) le_ ⟨_,z,z,z,z⟩
 have hm2:=iff_ hm h1
 refine c_skip (x_seq (csr (r_fa fa74_2 z ?_)))
 refine r_u (o_ldn 0 (Ae.k a0.T g0_.T) ag72 z z z z) ?_
 obtain ⟨r7,hr7,hm8⟩:=bs hm2
 refine r_u (o_callq ca98 z (C7.ok _ (⟨(⟨(g0_.T.S.Rows.1,[]),g0_.T.S.Door⟩:Ad.G),(⟨(g0_.T.R.L.1,[])⟩:Ab.G)⟩:Ae.G) ⟨⟨h0.2.1.1,h0.2.1.2⟩,h0.2.2⟩ _ hr7)) ?_
 obtain ⟨h9,hm10⟩:=ig hm8
 refine r_bin z z (bS_add [2] r7 h9) (r_as z (r_nil (x_seq (c_ret ?_))))
 obtain rfl:=si hm10
 refine ex_st (pk 1 []) ?_
 exact x_r1 z (rv_t z) le_ ⟨_,z,z,z,z⟩
def C8(a0:Ap):Option Str :=
 (AC (toW a0.E)).bind fun r1=>(Bv a0.Value).bind fun r3=>if r1.length+r3.length≤maxS then (AC a0.Version).bind fun r7=>if (r1++r3).length+r7.length≤maxS then some ((r1++r3)++r7) else none else none
theorem C8.ok{G R F}(a0:Ap)(r:Str)(hm:C8 a0=some r):CO prog 58 [.agg (Ap.c a0).toArray] G R (F)
  (Ret fun u R' L'=>u=vS r∧R'=R∧L'=F):=by
 unfold C8 at hm
 refine co_ofN (N:=15) func58 z z ?_
 refine csr ?_
 refine r_new (o_bx (Ap.c a0) z z) fun b0 =>?_
 refine r_as z (r_nil (x_seq (c_seq ?_)))
 obtain ⟨r1,hr1,hm2⟩:=bs hm
 obtain ⟨r3,hr3,hm4⟩:=bs hm2
 obtain ⟨h5,hm6⟩:=ig hm4
 obtain ⟨r7,hr7,hm8⟩:=bs hm6
 obtain ⟨h9,hm10⟩:=ig hm8
 refine c_any mixed (effs:=[]) (V:=[]) ?_
 refine stn mk36_ [0,1,2,3,4,5,6,7,8,9,10,11,12] [] [_,_,_,_,_,_,_,_,_,_,_,_,_] (q_fa z z fa41_0 z (q_ld z z 0 sc39 z z z (q_u z z (o_cv z (cIW underlying39 underlying22 a0.E)) (q_u z z (o_callq ca55 z (AC.ok _ _ hr1)) (q_fa z z fa41_1 z (q_ld z z 0 sc9 z z z (q_u z z (o_callq ca99 z (Bv.ok _ _ hr3)) (q_u z z (o_bin z z (bS_add r1 r3 h5)) (q_fa z z fa41_2 z (q_ld z z 0 sc22 z z z (q_u z z (o_callq ca55 z (AC.ok _ _ hr7)) (q_u z z (o_bin z z (bS_add _ r7 h9)) (q_u z z (o_as z) qn))))))))))))) en ?_
 intro _
 refine ex_sub (E':=[(2,vS ((r1++r3)++r7))]) ⟨z,y_⟩ ?_
 refine x_seq (c_ret ?_)
 obtain rfl:=si hm10
 refine ex_st (pk 1 []) ?_
 exact x_r1 z (rv_t z) le_ ⟨_,z,z,z,z⟩
def BA(a0:Ac):Nat→Str→Int→Option (Str)
 | 0,_,_=>none
 | k24+1,out_22,i_23=>if decide (i_23<(a0.Sessions.length:Int)) then (gi a0.Sessions i_23).bind fun x29=>(AC x29.Session).bind fun r31=>(AC x29.Num).bind fun r33=>if r31.length+r33.length≤maxS then (C8 x29.Reply).bind fun r37=>if (r31++r33).length+r37.length≤maxS then if out_22.length+((r31++r33)++r37).length≤maxS then BA a0 k24 (out_22++((r31++r33)++r37)) (i64 (i_23+1)) else none else none else none else some out_22
def BB(a0:Ac):Nat→Str→Int→Option (Str)
 | 0,_,_=>none
 | k45+1,out_43,i_44=>if decide (i_44<([toW a0.C.Policy,toW a0.C.Entries,toW a0.C.Bytes,a0.C.Seed,a0.Seq,a0.Now,a0.Ver,toW a0.Asked,toW a0.Hits].length:Int)) then (gi [toW a0.C.Policy,toW a0.C.Entries,toW a0.C.Bytes,a0.C.Seed,a0.Seq,a0.Now,a0.Ver,toW a0.Asked,toW a0.Hits] i_44).bind fun x50=>(AC x50).bind fun r52=>if out_43.length+r52.length≤maxS then BB a0 k45 (out_43++r52) (i64 (i_44+1)) else none else some out_43
def Ct(a0:Ac):Option Str :=
 Option.bind (BB a0 ((([toW a0.C.Policy,toW a0.C.Entries,toW a0.C.Bytes,a0.C.Seed,a0.Seq,a0.Now,a0.Ver,toW a0.Asked,toW a0.Hits].length:Int)-0).toNat+1) [] 0) fun p2=>(Cq a0.T).bind fun r6=>(CR a0.P).bind fun r8=>if r6.length+r8.length≤maxS then (AC (toW (a0.Sessions.length:Int))).bind fun r12=>if (r6++r8).length+r12.length≤maxS then if p2.length+((r6++r8)++r12).length≤maxS then Option.bind (BA a0 (((a0.Sessions.length:Int)-0).toNat+1) (p2++((r6++r8)++r12)) 0) fun p18=>some p18 else none else none else none
theorem Ct.ok{G R F}(a0:Ac)(g0_:Ac.G)(h0:Ac.ro R a0 g0_)(r:Str)(hm:Ct a0=some r):CO prog 26 [.agg (Ac.k a0 g0_).toArray] G R (F)
  (Ret fun u R' L'=>u=vS r∧R'=R∧L'=F):=by
 unfold Ct at hm
 refine co_ofN (N:=96) func26 z z ?_
 refine csr ?_
 refine r_new (o_bx (Ac.k a0 g0_) z z) fun b0 =>?_
 refine r_as z (nsr (r_fa fa77_0 z (r_fa fa24_0 z (r_ld 0 sc3 z z z (r_u (o_cv z (cIW underlying3 underlying22 a0.C.Policy)) (r_fa fa77_0 z (r_fa fa24_1 z (r_ld 0 sc3 z z z (r_u (o_cv z (cIW underlying3 underlying22 a0.C.Entries)) (r_fa fa77_0 z (r_fa fa24_2 z (r_ld 0 sc3 z z z (r_u (o_cv z (cIW underlying3 underlying22 a0.C.Bytes)) (r_fa fa77_0 z (r_fa fa24_3 z (r_ld 0 sc22 z z z (r_fa fa77_4 z (r_ld 0 sc22 z z z (r_fa fa77_5 z (r_ld 0 sc22 z z z (r_fa fa77_6 z (r_ld 0 sc22 z z z (r_fa fa77_7 z (r_ld 0 sc2 z z z (r_u (o_cv z (cIW underlying2 underlying22 a0.Asked)) (r_fa fa77_8 z (r_ld 0 sc2 z z z (r_u (o_cv z (cIW underlying2 underlying22 a0.Hits)) ?_))))))))))))))))))))))))))))
 refine r_sw (s_w (o_bsl (en:=eW) (sz:=1) (e:=22) (cs:=[vW (toW a0.C.Policy),vW (toW a0.C.Entries),vW (toW a0.C.Bytes),vW a0.C.Seed,vW a0.Seq,vW a0.Now,vW a0.Ver,vW (toW a0.Asked),vW (toW a0.Hits)]) (r:=[toW a0.C.Policy,toW a0.C.Entries,toW a0.C.Bytes,a0.C.Seed,a0.Seq,a0.Now,a0.Ver,toW a0.Asked,toW a0.Hits]) z kr z (by decide) z (fun _=>z))) ?_
 rintro v1 R _ _ ⟨rfl,rfl⟩
 refine r_as z (nsr (r_as z (nssr (r_as z (nsq ?_)))))
 obtain ⟨p2,hp3,hm4⟩:=bs hm
 refine cd_join (E':=[(1,pt b0 0),(4,vS p2)]) (L':=Bk b0 77 (Ac.k a0 g0_)::OwS true 22 1 eW v1 [toW a0.C.Policy,toW a0.C.Entries,toW a0.C.Bytes,a0.C.Seed,a0.Seq,a0.Now,a0.Ver,toW a0.Asked,toW a0.Hits]::F) ?_ fun K5 =>?_
 rotate_left
 ·refine c_blk ?_
  refine cd_loop (M:=fun k45 (s:Str×Int)=>BB a0 k45 s.1 s.2=some p2) (Ef:=fun (s:Str×Int)=>[(1,pt b0 0),(3,v1),(4,vS s.1),(5,vI s.2)]) (Lf:=fun (s:Str×Int)=>Bk b0 77 (Ac.k a0 g0_)::OwS true 22 1 eW v1 [toW a0.C.Policy,toW a0.C.Entries,toW a0.C.Bytes,a0.C.Seed,a0.Seq,a0.Now,a0.Ver,toW a0.Asked,toW a0.Hits]::F) ((([toW a0.C.Policy,toW a0.C.Entries,toW a0.C.Bytes,a0.C.Seed,a0.Seq,a0.Now,a0.Ver,toW a0.Asked,toW a0.Hits].length:Int)-0).toNat+1) ([],0) hp3 ⟨z,z,z,z,y_⟩ (pk 2 [1,0]) (fun _ h=>by cases h) fun k45 s hM47 =>?_
  obtain ⟨out_43,i_44⟩:=s
  have hm46:BB a0 (k45+1) out_43 i_44=some p2:=hM47
  rw [BB] at hm46
  refine c_seq (csr (r_mv z (r_mv z (r_u (o_lenO 1 underlying118 z z) (r_bin z z (bI_lt _ _) (nsq ?_))))))
  refine c_if (b:=decide (i_44<([toW a0.C.Policy,toW a0.C.Entries,toW a0.C.Bytes,a0.C.Seed,a0.Seq,a0.Now,a0.Ver,toW a0.Asked,toW a0.Hits].length:Int))) z (fun h48 =>?_) fun h48 =>?_
  rotate_left
  ·have hm49:=iff_ hm46 h48
   refine c_exit (x_exit (ks':=_) z ?_)
   obtain rfl:=si hm49
   exact x_sub K5 ⟨z,z,y_⟩ id_
  have hm49:=ift hm46 h48
  refine c_skip (x_seq (c_seq (c_blk (c_reg (r_mv z (r_mv z (r_mv z ?_)))))))
  obtain ⟨x50,hx50,hm51⟩:=bs hm49
  refine r_u (o_ixO 1 underlying118 kr z z z hx50) (r_u (o_ldO0 1 sc22 z z hx50 z z) ?_)
  obtain ⟨r52,hr52,hm53⟩:=bs hm51
  refine r_u (o_callq ca55 z (AC.ok _ _ hr52)) ?_
  obtain ⟨h54,hm55⟩:=ig hm53
  refine r_bin z z (bS_add _ _ h54) (r_as z (r_nil (x_blk (x_seq (c_reg (r_mv z (r_bin z z (bI_add _ 1) (r_as z (r_nil ?_)))))))))
  exact x_lp (out_43++r52,i64 (i_44+1)) hm55 ⟨z,z,z,z,y_⟩ id_
 refine x_seq (c_seq ?_)
 obtain ⟨r6,hr6,hm7⟩:=bs hm4
 obtain ⟨r8,hr8,hm9⟩:=bs hm7
 obtain ⟨h10,hm11⟩:=ig hm9
 obtain ⟨r12,hr12,hm13⟩:=bs hm11
 obtain ⟨h14,hm15⟩:=ig hm13
 obtain ⟨h16,hm17⟩:=ig hm15
 refine c_any mixed (effs:=[]) (V:=[]) ?_
 refine stn [0,0,2,6,0,16,62,126,0,256,768,1792,3966,8190,16383,32767] [0,1,2,3,4,5,6,7,8,9,10,11,12,13,14,15] [] [_,_,_,_,_,_,_,_,_,_,_,_,_,_,_,_] (q_mv z z z (q_fa z z fa77_1 z (q_ld z z 0 sc61 z z z (q_u z z (o_callq ca56 z (Cq.ok g0_.T _ h0.1 _ hr6)) (q_fa z z fa77_2 z (q_u z z (o_ldn 0 (Af.k a0.P g0_.P) ag74 z z z z) (q_u z z (o_callq ca57 z (CR.ok _ (⟨(⟨(⟨(g0_.P.A.R.L.1,[])⟩:Ab.G)⟩:Aa.G),(⟨(⟨(g0_.P.T.S.Rows.1,[]),g0_.P.T.S.Door⟩:Ad.G),(⟨(g0_.P.T.R.L.1,[])⟩:Ab.G)⟩:Ae.G)⟩:Af.G) ⟨h0.2.1.1,⟨⟨h0.2.1.2.1.1,h0.2.1.2.1.2⟩,h0.2.1.2.2⟩⟩ _ hr8)) (q_u z z (o_bin z z (bS_add r6 r8 h10)) (q_fa z z fa77_3 z (q_ld z z 0 sc75 z z z (q_u z z (o_lenR underlying75 z h0.2.2) (q_u z z (o_cv z (cIW underlying3 underlying22 (a0.Sessions.length:Int))) (q_u z z (o_callq ca55 z (AC.ok _ _ hr12)) (q_u z z (o_bin z z (bS_add _ _ h14)) (q_u z z (o_bin z z (bS_add p2 _ h16)) (q_u z z (o_as z) qn)))))))))))))))) en ?_
 intro _
 refine ex_sub (E':=[(1,pt b0 0),(4,vS (p2++((r6++r8)++r12)))]) ⟨z,z,y_⟩ ?_
 refine x_seq (c_seq (csr (r_as z (nsq ?_))))
 obtain ⟨p18,hp19,hm20⟩:=bs hm17
 refine cd_join (E':=[(4,vS p18)]) (L':=Bk b0 77 (Ac.k a0 g0_)::OwS true 22 1 eW v1 [toW a0.C.Policy,toW a0.C.Entries,toW a0.C.Bytes,a0.C.Seed,a0.Seq,a0.Now,a0.Ver,toW a0.Asked,toW a0.Hits]::F) ?_ fun K21 =>?_
 ·refine x_seq (csr (r_mv z (r_as z (r_nil (x_seq (c_ret ?_))))))
  obtain rfl:=si hm20
  refine ex_st (pk 2 []) ?_
  exact x_r1 z (rv_t z) le_ ⟨_,z,z,z,z⟩
 refine c_blk ?_
 refine cd_loop (M:=fun k24 (s:Str×Int)=>BA a0 k24 s.1 s.2=some p18) (Ef:=fun (s:Str×Int)=>[(1,pt b0 0),(4,vS s.1),(6,vI s.2)]) (Lf:=fun (s:Str×Int)=>Bk b0 77 (Ac.k a0 g0_)::OwS true 22 1 eW v1 [toW a0.C.Policy,toW a0.C.Entries,toW a0.C.Bytes,a0.C.Seed,a0.Seq,a0.Now,a0.Ver,toW a0.Asked,toW a0.Hits]::F) (((a0.Sessions.length:Int)-0).toNat+1) (p2++((r6++r8)++r12),0) hp19 ⟨z,z,z,y_⟩ (fun _ h=>h) (fun _ h=>by cases h) fun k24 s hM26 =>?_
 obtain ⟨out_22,i_23⟩:=s
 have hm25:BA a0 (k24+1) out_22 i_23=some p18:=hM26
 rw [BA] at hm25
 refine c_seq (csr (r_mv z (r_fa fa77_3 z (r_ld 0 sc75 z z z ?_))))
 refine r_u (o_lenR underlying75 z h0.2.2) (r_bin z z (bI_lt _ _) (nsq ?_))
 refine c_if (b:=decide (i_23<(a0.Sessions.length:Int))) z (fun h27 =>?_) fun h27 =>?_
 rotate_left
 ·have hm28:=iff_ hm25 h27
  refine c_exit (x_exit (ks':=_) z ?_)
  obtain rfl:=si hm28
  exact x_sub K21 ⟨z,y_⟩ id_
 have hm28:=ift hm25 h27
 refine c_skip (x_seq (c_seq (c_blk ?_)))
 obtain ⟨x29,hx29,hm30⟩:=bs hm28
 obtain ⟨b29,o29,l29,T29,fr29,c29,hv29,hR29,he29,hi29⟩:=RoS.ne h0.2.2 hx29
 obtain ⟨r31,hr31,hm32⟩:=bs hm30
 obtain ⟨r33,hr33,hm34⟩:=bs hm32
 obtain ⟨h35,hm36⟩:=ig hm34
 obtain ⟨r37,hr37,hm38⟩:=bs hm36
 obtain ⟨h39,hm40⟩:=ig hm38
 obtain ⟨h41,hm42⟩:=ig hm40
 refine c_any mixed (effs:=[]) (V:=[]) ?_
 refine stn [0,0,2,0,14,30,62,126,0,256,0,1792,3840,7936,16382,32766,0,65536,0,458752,983040,2031616,4161534,8388606,16777215,33554431] [0,1,2,3,4,5,6,7,8,9,10,11,12,13,14,15,16,17,18,19,20,21,22,23,24,25] [] [_,_,_,_,_,_,_,_,_,_,_,_,_,_,_,_,_,_,_,_,_,_,_,_,_,_] (q_mv z z z (q_fa z z fa77_3 z (q_ld z z 0 sc75 z z z (q_mv z z z (q_u z z (o_ix (sz:=5) underlying75 kr z z hv29 hi29) (q_fa z z fa83_0 z (q_u z z (o_ldR sc22 z hR29 (rok 0 he29 (by decide))) (q_u z z (o_callq ca55 z (AC.ok _ _ hr31)) (q_fa z z fa77_3 z (q_ld z z 0 sc75 z z z (q_mv z z z (q_u z z (o_ix (sz:=5) underlying75 kr z z hv29 hi29) (q_fa z z fa83_1 z (q_u z z (o_ldR sc22 z hR29 (rok 1 he29 (by decide))) (q_u z z (o_callq ca55 z (AC.ok _ _ hr33)) (q_u z z (o_bin z z (bS_add _ _ h35)) (q_fa z z fa77_3 z (q_ld z z 0 sc75 z z z (q_mv z z z (q_u z z (o_ix (sz:=5) underlying75 kr z z hv29 hi29) (q_fa z z fa83_2 z (q_u z z (o_ldnR (Ap.c x29.Reply) ag41 z hR29 (rokn 2 3 he29) z) (q_u z z (o_callq ca58 z (C8.ok _ _ hr37)) (q_u z z (o_bin z z (bS_add _ _ h39)) (q_u z z (o_bin z z (bS_add _ _ h41)) (q_u z z (o_as z) qn)))))))))))))))))))))))))) en ?_
 intro _
 refine ex_sub (E':=[(1,pt b0 0),(4,vS (out_22++((r31++r33)++r37))),(6,vI i_23)]) ⟨z,z,z,y_⟩ ?_
 refine x_blk (x_seq (c_reg (r_mv z (r_bin z z (bI_add _ 1) (r_as z (r_nil ?_))))))
 exact x_lp (out_22++((r31++r33)++r37),i64 (i_23+1)) hm42 ⟨z,z,z,y_⟩ id_
def Dl(a0:Ak):Au :=
 a0.c
theorem Dl.ok{G R F}(b0_:Nat)(a0:Ak)(g0_:Ak.G)(r:Au)(hm:Dl a0=r):CO prog 27 [pt b0_ 0] G R (Bk b0_ 96 (Ak.k a0 g0_)::rO (Am.op g0_.t.2) g0_.t.1 a0.t::rO (Ah.op g0_.p.2) g0_.p.1 a0.p::OwM vW Ar.v g0_.sessions a0.sessions::F)
  (Ret fun u R' L'=>u = .agg (Au.c r).toArray∧R'=R∧L'=Bk b0_ 96 (Ak.k a0 g0_)::rO (Am.op g0_.t.2) g0_.t.1 a0.t::rO (Ah.op g0_.p.2) g0_.p.1 a0.p::OwM vW Ar.v g0_.sessions a0.sessions::F):=by
 obtain ⟨⟨pv1,g2⟩,⟨pv4,g5⟩,g6⟩:=g0_
 unfold Dl at hm
 refine co_ofN (N:=10) func27 z z ?_
 refine csr ?_
 refine r_new (o_al ze24) fun b7 =>?_
 refine nssr (r_mv z (r_bin z z (bP_eqp underlying30) (nsq (c_ff z (c_skip (x_seq (csr (r_mv z (r_nc z (r_fa fa96_0 z ?_))))))))))
 refine r_u (o_ldn 1 (Au.c a0.c) ag24 z z z z) ?_
 refine r_u0 (o_stn ag24 z z z z z z z) (r_nil (x_seq (c_ret ?_)))
 subst hm
 exact x_d1 z (rv_n 0 (Au.c a0.c) ag24 z z z z) (pk 5 [1,2,3,4]) le_ ⟨_,z,z,z,z⟩
end Go.Proofs.YtpanhdnglicknaaGreat
