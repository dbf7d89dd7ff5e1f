import Derived.Test.YtpanhdnglicknaaGreatW1
import Derived.Test.YtpanhdnglicknaaGreatFacts
import Derived.Test.YtpanhdnglicknaaGreatHwZ
import Derived.Test.YtpanhdnglicknaaGreatHwW
import Derived.Test.YtpanhdnglicknaaGreatHw8
set_option linter.unusedVariables false
set_option linter.unusedSectionVars false
set_option linter.unusedSimpArgs false
set_option maxRecDepth 100000
set_option maxHeartbeats 4000000
namespace Go.Proofs.YtpanhdnglicknaaGreat
open _root_.Go.Proofs.Tryz Go Go.Proofs.YtpanhdnglicknaaGreat.Hw
def Bf(r18:List Str):Nat→Int→Int→(Option Ah)→(List (Str×Ai))→Option (Int×Option Ah×(List (Str×Ai)))
 | 0,_,_,_,_=>none
 | k55+1,s_48,c_49,c_50,c_51=>if decide (s_48<(r18.length:Int)) then (gi r18 s_48).bind fun x60=>lt (A9 (⟨c_51,c_49⟩:Am) x60) fun r62=>om c_50 (none) fun x64=>(Bd x64 x60).bind fun r74=>Bf r18 k55 (i64 (s_48+1)) r62.2.bytes (some r74.2) r62.2.m else some (c_49,c_50,c_51)
def AQ(a0:Ak)(a1:AK):Option (Ap×Int×Ak) :=
 if !(B2 a1.Op) then some ((⟨0,[],0⟩:Ap),1,a0) else if ((a1.Seq==0)||((a1.Seq-1) != a0.seq)) then some ((⟨0,[],0⟩:Ap),123,a0) else om a0.t (none) fun x13=>(CV x13 (if a0.now<a1.Now then a1.Now else a0.now)).bind fun r18=>Option.bind (Bf r18 (((r18.length:Int)-0).toNat+1) 0 x13.bytes a0.p x13.m) fun p21=>if (a1.Op.Kind==5) then some ((⟨0,[],0⟩:Ap),0,(⟨a0.c,(some (⟨p21.2.2,p21.1⟩:Am)),p21.2.1,a0.sessions,a0.seq+1,(if a0.now<a1.Now then a1.Now else a0.now),a0.version,a0.tally⟩:Ak)) else if ((mget a0.sessions a1.Session).isSome&&(a1.Num==(((mget a0.sessions a1.Session).getD ((⟨0,(⟨0,[],0⟩:Ap)⟩:Ar):Ar)).num))) then some ((((mget a0.sessions a1.Session).getD ((⟨0,(⟨0,[],0⟩:Ap)⟩:Ar):Ar)).reply),0,(⟨a0.c,(some (⟨p21.2.2,p21.1⟩:Am)),p21.2.1,a0.sessions,a0.seq+1,(if a0.now<a1.Now then a1.Now else a0.now),a0.version,a0.tally⟩:Ak)) else if ((mget a0.sessions a1.Session).isSome&&decide (a1.Num<(((mget a0.sessions a1.Session).getD ((⟨0,(⟨0,[],0⟩:Ap)⟩:Ar):Ar)).num))) then some ((⟨122,[],0⟩:Ap),0,(⟨a0.c,(some (⟨p21.2.2,p21.1⟩:Am)),p21.2.1,a0.sessions,a0.seq+1,(if a0.now<a1.Now then a1.Now else a0.now),a0.version,a0.tally⟩:Ak)) else if (!((mget a0.sessions a1.Session).isSome)&&decide (64≤(a0.sessions.length:Int))) then some ((⟨3,[],0⟩:Ap),0,(⟨a0.c,(some (⟨p21.2.2,p21.1⟩:Am)),p21.2.1,a0.sessions,a0.seq+1,(if a0.now<a1.Now then a1.Now else a0.now),a0.version,a0.tally⟩:Ak)) else (AW (⟨a0.c,(some (⟨p21.2.2,p21.1⟩:Am)),p21.2.1,a0.sessions,a0.seq+1,(if a0.now<a1.Now then a1.Now else a0.now),a0.version,a0.tally⟩:Ak) a1.Op).bind fun r37=>some (r37.1,0,(⟨r37.2.c,r37.2.t,r37.2.p,mput r37.2.sessions a1.Session (⟨a1.Num,r37.1⟩:Ar),r37.2.seq,r37.2.now,r37.2.version,r37.2.tally⟩:Ak))
theorem AQ.ok{G R F}(b0_:Nat)(a0:Ak)(g0_:Ak.G)(a1:AK)(r:Ap×Int×Ak)(hm:AQ a0 a1=some r):CO prog 15 [pt b0_ 0,.agg (AK.c a1).toArray] G R (Bk b0_ 96 (Ak.k a0 g0_)::rO (Am.op g0_.t.2) g0_.t.1 a0.t::rO (Ah.op g0_.p.2) g0_.p.1 a0.p::OwM vW Ar.v g0_.sessions a0.sessions::F)
  (Ret fun u R' L'=>∃(q0:Ak.G),u = .tuple #[.agg (Ap.c r.1).toArray,vI r.2.1]∧R'=R∧L'=Bk b0_ 96 (Ak.k r.2.2 q0)::rO (Am.op q0.t.2) q0.t.1 r.2.2.t::rO (Ah.op q0.p.2) q0.p.1 r.2.2.p::OwM vW Ar.v q0.sessions r.2.2.sessions::F):=by
 obtain ⟨⟨pv1,g2⟩,⟨pv4,g5⟩,g6⟩:=g0_
 unfold AQ at hm
 refine co_ofN (N:=143) func15 z z ?_
 refine csr ?_
 refine r_new (o_bx (AK.c a1) z z) fun b7 =>?_
 refine r_new (o_al ze41) fun b8 =>?_
 refine r_as z (r_nil (x_seq (c_seq (c_blk (csr (r_mv z (r_bin z z (bP_eqp underlying30) (r_mv z ?_))))))))
 refine r_s (s_y z z z (o_fa fa35_4 z)) ?_
 refine r_s (s_y z z z (o_ldn 1 (AI.c a1.Op) ag27 z z z z)) ?_
 refine r_s (s_y z z z (o_callq ca34 z (B2.ok a1.Op _ z))) ?_
 refine r_s (s_y z z z (o_not z)) ?_
 refine r_u (o_pf z z z) (r_as z (nsq ?_))
 refine c_if (b := !(B2 a1.Op)) z (fun h9 =>?_) fun h9 =>?_
 ·have hm10:=ift hm h9
  refine csr ?_
  refine r_u (o_bld [vI 0,vS [],vW 0] z kr) ?_
  refine r_u0 (o_stn ag41 z z z z z z z) (r_as z (r_nil (x_seq (c_ret ?_))))
  obtain rfl:=si hm10
  exact x_d2 z (rv_n 0 [vI 0,vS [],vW 0] ag41 z z z z) (rv_t z) (pk 6 [2,3,4,5]) le_ ⟨_,z,(⟨(pv1,g2),(pv4,g5),g6⟩:Ak.G),z,z,z⟩
 have hm10:=iff_ hm h9
 refine c_seq ?_
 refine c_any mixed (effs:=[]) (V:=[]) ?_
 refine stn [0,1,3,7,15,31,63,15,143,399,911,2047,4095,8191] [0,1,2,3,4,5,6,7,8,9,10,11,12,13] [] [_,_,_,_,_,_,_,_,_,_,_,_,_,_] (q_fa z z fa35_0 z (q_ld z z 1 sc22 z z z (q_u z z (o_bin z z (bW_eq _ 0)) (q_mv z z z (qc z z (s_gf z z fun g=>o_fa fa35_0 z) (qc z z (s_gf z z fun g=>o_ld 1 sc22 (evg z g) z z) (qc z z (s_gf z z fun g=>o_bin (evg z g) z (bW_sub _ 1)) (qc z z (s_gf z z fun g=>o_mv z) (qc z z (s_gf z z fun g=>o_nc (evg z g)) (qc z z (s_gf z z fun g=>o_fa fa96_4 (evg z g)) (qc z z (s_gf z z fun g=>o_ld 2 sc22 (evg z g) z z) (qc z z (s_gf z z fun g=>o_bin (evg z g) (evg z g) (bW_ne _ _)) (q_u z z (o_or z z) (q_u z z (o_as z) qn)))))))))))))) en ?_
 intro _
 refine ex_sub (E':=[(0,pt b0_ 0),(3,pt b7 0),(4,pt b8 0),(21,vB ((a1.Seq==0)||((a1.Seq-1) != a0.seq)))]) ⟨z,z,z,z,y_⟩ ?_
 refine x_seq ?_
 refine c_if (b:=((a1.Seq==0)||((a1.Seq-1) != a0.seq))) z (fun h11 =>?_) fun h11 =>?_
 ·have hm12:=ift hm10 h11
  refine csr ?_
  refine r_u (o_bld [vI 0,vS [],vW 0] z kr) ?_
  refine r_u0 (o_stn ag41 z z z z z z z) (r_as z (r_nil (x_seq (c_ret ?_))))
  obtain rfl:=si hm12
  exact x_d2 z (rv_n 0 [vI 0,vS [],vW 0] ag41 z z z z) (rv_t z) (pk 6 [2,3,4,5]) le_ ⟨_,z,(⟨(pv1,g2),(pv4,g5),g6⟩:Ak.G),z,z,z⟩
 have hm12:=iff_ hm10 h11
 refine c_skip (x_blk (x_seq (csr (r_mv z (r_nc z (r_fa fa96_4 z (r_ld 2 sc22 z z z (r_bin z z (bW_add _ 1) (r_nc z (r_fa fa96_4 z ?_))))))))))
 refine rl_st (fun _ h=>mv2 h) ?_
 refine r_u0 (o_st sc22 z z z z z z) (r_nil (x_seq (c_seq ?_)))
 refine c_any mixed (effs:=[10]) (V:=[]) ?_
 refine stn mk10_ [0,1,2,3,4,5,6,7,8,9] [10] [_,_,_,_,_,_,_,_,_,_] (q_mv z z z (q_mv z z z (q_u z z (o_nc z) (q_fa z z fa96_5 z (q_ld z z 0 sc22 z z z (q_fa z z fa35_1 z (q_ld z z 2 sc22 z z z (q_u z z (o_maxW z z) (q_u z z (o_nc z) (q_fa z z fa96_5 z qn)))))))))) ?_ (nxt z)
 refine ec (eo_u z (s_u (o_st sc22 z z z z z z)) le_ ?_) en
 refine stage z z z z mk10_ [] [] z z z qn en ?_
 intro _
 refine ex_sub (E':=[(0,pt b0_ 0),(3,pt b7 0),(4,pt b8 0)]) ⟨z,z,z,y_⟩ ?_
 refine x_seq (c_seq (c_seq ?_))
 refine cd_st (fun _ h=>mv3 h) ?_
 refine cd_opt (fun ho15 =>?_) (fun x13 b14 ho15 =>?_)
 ·rintro rfl
  have hm16:=om_n hm12 ho15
  cases hm16
 rintro rfl
 have hm16:=om_s hm12 ho15
 refine cd_st (fun _ h=>st_star_o h) ?_
 obtain ⟨r18,hr18,hm20⟩:=bs hm16
 refine c_any mixed (effs:=[8]) (V:=[]) ?_
 refine stn mk34_ [0,1,2,3,4,5,6,7,10] [8] [_,_,_,_,_,_,_,_,_] (q_mv z z z (q_u z z (o_nc z) (q_fa z z fa96_1 z (q_ld z z 2 sc92 z z z (q_mv z z z (q_u z z (o_nc z) (q_fa z z fa96_5 z (q_ld z z 2 sc22 z z z (q_mv z z z qn))))))))) ?_ (nxt z)
 refine ec (eo_w z (s_w (o_call ca35 z (CV.ok b14 _ g2 _ _ hr18))) ?_) en
 rintro v19 R _ _ ⟨_,rfl,rfl,rfl⟩
 refine stx [9] mk34_ [9,10] [] [_] (q_u z z (o_lenO 0 underlying98 z z) (q_mv z z z qn)) en ?_
 intro _
 refine ex_sub (E':=[(0,pt b0_ 0),(3,pt b7 0),(4,pt b8 0),(61,v19),(62,vI (r18.length:Int)),(63,vI 0)]) ⟨z,z,z,z,z,z,y_⟩ ?_
 refine x_seq ?_
 obtain ⟨p21,hp25,hm26⟩:=bs hm20
 refine cd_cut (fun x ks=>∀(pv22:Value×Ah.G),EX x .normal ks [(0,pt b0_ 0),(3,pt b7 0),(4,pt b8 0)] R (Bk b14 138 [g2.m,vI p21.1]::Bk b0_ 96 [vI a0.c.Policy,vI a0.c.Entries,vI a0.c.Bytes,vW a0.c.Seed,pt b14 0,pv22.1,g6,vW (a0.seq+1),vW (if a0.now<a1.Now then a1.Now else a0.now),vW a0.version,vI a0.tally.Asked,vI a0.tally.Hits]::Bk b8 41 [vI 0,vS [],vW 0]::Bk b7 35 (AK.c a1)::OwS true 9 1 eS v19 r18::OwM vS Ai.v g2.m p21.2.2::OwM vW Ar.v g6 a0.sessions::rO (Ah.op pv22.2) pv22.1 p21.2.1::F)) ?_ fun K27 =>?_
 rotate_left
 ·refine c_blk ?_
  refine cd_loopG (M:=fun k55 (s:Int×Int×Option Ah×(List (Str×Ai))×(Value×Ah.G))=>Bf r18 k55 s.1 s.2.1 s.2.2.1 s.2.2.2.1=some p21) (Ef:=fun (s:Int×Int×Option Ah×(List (Str×Ai))×(Value×Ah.G))=>[(0,pt b0_ 0),(3,pt b7 0),(4,pt b8 0),(61,v19),(62,vI (r18.length:Int)),(63,vI s.1)]) (Rf:=fun (s:Int×Int×Option Ah×(List (Str×Ai))×(Value×Ah.G))=>R) (Lf:=fun (s:Int×Int×Option Ah×(List (Str×Ai))×(Value×Ah.G))=>Bk b14 138 [g2.m,vI s.2.1]::Bk b0_ 96 [vI a0.c.Policy,vI a0.c.Entries,vI a0.c.Bytes,vW a0.c.Seed,pt b14 0,s.2.2.2.2.1,g6,vW (a0.seq+1),vW (if a0.now<a1.Now then a1.Now else a0.now),vW a0.version,vI a0.tally.Asked,vI a0.tally.Hits]::Bk b8 41 [vI 0,vS [],vW 0]::Bk b7 35 (AK.c a1)::OwS true 9 1 eS v19 r18::OwM vS Ai.v g2.m s.2.2.2.1::OwM vW Ar.v g6 a0.sessions::rO (Ah.op s.2.2.2.2.2) s.2.2.2.2.1 s.2.2.1::F) (((r18.length:Int)-0).toNat+1) (0,x13.bytes,a0.p,x13.m,(pv4,g5)) hp25 ⟨z,z,z,z,z,z,y_⟩ (pk 8 [1,3,4,5,0,2,7,6]) (fun _ h=>by cases h) fun k55 s hM57 =>?_
  obtain ⟨s_48,c_49,c_50,c_51,pv52⟩:=s
  have hm56:Bf r18 (k55+1) s_48 c_49 c_50 c_51=some p21:=hM57
  rw [Bf] at hm56
  obtain ⟨pv53,g54⟩:=pv52
  refine csr (r_bin z z (bI_lt _ _) (r_nil (x_seq (c_seq ?_))))
  refine c_if (b:=decide (s_48<(r18.length:Int))) z (fun h58 =>?_) fun h58 =>?_
  rotate_left
  ·have hm59:=iff_ hm56 h58
   refine c_exit (x_exit (ks':=_) z ?_)
   obtain rfl:=si hm59
   exact x_sub (K27 (pv53,g54)) ⟨z,z,z,y_⟩ id_
  have hm59:=ift hm56 h58
  refine c_skip (x_seq (c_seq (c_blk (csr ?_))))
  obtain ⟨x60,hx60,hm61⟩:=bs hm59
  refine r_u (o_ixO 4 underlying98 kr z z z hx60) (r_u (o_ldO0 4 sc9 z z hx60 z z) (r_as z (nsr (r_mv z (r_nc z (r_fa fa96_1 z (r_ld 1 sc92 z z z (r_mv z ?_))))))))
  obtain ⟨r62,hr62,hm63⟩:=ltx hm61
  refine rl_st (fun _ h=>mv1 (mv5 h)) ?_
  refine r_c (s_w (o_call ca36 z (A9.ok b14 (⟨c_51,c_49⟩:Am) g2 _ _ hr62))) ?_
  refine nsq ?_
  refine cd_st (fun _ h=>mv7 h) ?_
  refine cd_opt (fun ho66 =>?_) (fun x64 b65 ho66 =>?_)
  ·rintro rfl
   have hm67:=om_n hm63 ho66
   cases hm67
  rintro rfl
  have hm67:=om_s hm63 ho66
  obtain ⟨⟨pv69,g70⟩,⟨pv72,g73⟩⟩:=g54
  refine cd_st (fun _ h=>st_star_o h) ?_
  refine c_reg (r_mv z (r_nc z (r_fa fa96_2 z (r_ld 5 sc93 z z z (r_mv z ?_)))))
  obtain ⟨r74,hr74,hm82⟩:=bs hm67
  refine r_sw (s_w (o_call ca37 z (Bd.ok b65 _ (⟨(pv69,g70),(pv72,g73)⟩:Ah.G) _ _ hr74))) ?_
  rintro _ R _ _ ⟨⟨⟨pv77,g78⟩,⟨pv80,g81⟩⟩,rfl,rfl,rfl⟩
  refine r_nil (x_blk (x_seq (c_reg (r_bin z z (bI_add _ 1) (r_mv z (r_nil ?_))))))
  refine ex_st (fun _ h=>st_some (f:=Ah.op (⟨(pv77,g78),(pv80,g81)⟩:Ah.G)) (a:=r74.2) (st_star_f (A:=Ah.fl b65 r74.2 (⟨(pv77,g78),(pv80,g81)⟩:Ah.G)) h)) ?_
  exact x_lp (i64 (s_48+1),r62.2.bytes,(some r74.2),r62.2.m,(pt b65 0,(⟨(pv77,g78),(pv80,g81)⟩:Ah.G))) hm82 ⟨z,z,z,z,z,z,y_⟩ (pk 8 [1,3,4,5,6,2,7,0])
 intro pv22
 obtain ⟨pv23,g24⟩:=pv22
 refine x_seq (c_seq (csr (r_fa fa35_4 z (r_fa fa27_0 z (r_ld 3 sc3 z z z (r_bin z z (bI_eq _ 5) (nsq ?_)))))))
 refine c_if (b:=(a1.Op.Kind==5)) z (fun h28 =>?_) fun h28 =>?_
 ·have hm29:=ift hm26 h28
  refine csr ?_
  refine r_u (o_bld [vI 0,vS [],vW 0] z kr) ?_
  refine rl_st (fun _ h=>mv2 h) ?_
  refine r_u0 (o_stn ag41 z z z z z z z) (r_as z (r_nil (x_seq (c_ret ?_))))
  refine ex_st (fun _ h=>mv2 (mv5 h)) ?_
  refine ex_st (fun _ h=>st_some (f:=Am.op g2) (a:=(⟨p21.2.2,p21.1⟩:Am)) (st_star_f (A:=Am.fl b14 (⟨p21.2.2,p21.1⟩:Am) g2) h)) ?_
  obtain rfl:=si hm29
  exact x_d2 z (rv_n 1 [vI 0,vS [],vW 0] ag41 z z z z) (rv_t z) (pk 7 [2,0,6,5]) le_ ⟨_,z,(⟨(pt b14 0,g2),(pv23,g24),g6⟩:Ak.G),z,z,z⟩
 have hm29:=iff_ hm26 h28
 refine c_skip (x_seq (c_seq ?_))
 refine c_any mixed (effs:=[10,11]) (V:=[]) ?_
 refine stn mk38_ [0,1,2,3,4,5,6,7,8,9] [10] [_,_,_,_,_,_,_,_,_,_] (q_mv z z z (q_u z z (o_nc z) (q_fa z z fa96_3 z (q_ld z z 1 sc94 z z z (q_fa z z fa35_2 z (q_ld z z 3 sc22 z z z (q_u z z (o_lk (kv:=vW) (vv:=Ar.v) (key:=a1.Session) (z0:=((⟨0,(⟨0,[],0⟩:Ap)⟩:Ar):Ar)) 6 underlying94 (kok_W underlying22) kr z z z) (q_mv z z z (q_u z z (o_ext z z) (q_u z z (o_ext z z) qn)))))))))) ?_ (nxt z)
 refine ec (eo_n z (s_w (o_al ze102)) fun b30 =>?_) en
 refine stage z z z z mk38_ [0,1,2,3,4,5,6,7,8,9] [11] z z z (q_mv z z z (q_u z z (o_nc z) (q_fa z z fa96_3 z (q_ld z z 2 sc94 z z z (q_fa z z fa35_2 z (q_ld z z 4 sc22 z z z (q_u z z (o_lk (kv:=vW) (vv:=Ar.v) (key:=a1.Session) (z0:=((⟨0,(⟨0,[],0⟩:Ap)⟩:Ar):Ar)) 7 underlying94 (kok_W underlying22) kr z z z) (q_mv z z z (q_u z z (o_ext z z) (q_u z z (o_ext z z) qn)))))))))) ?_ (nxt z)
 refine ec (eo_u z (s_u (o_stn ag102 z z z z z z z)) le_ ?_) en
 refine stx [12] mk38_ [9,12] [] [_] (q_u z z (o_ext z z) (q_u z z (o_as z) qn)) en ?_
 intro _
 refine ex_sub (E':=[(0,pt b0_ 0),(3,pt b7 0),(4,pt b8 0),(8,pt b30 0),(9,vB ((mget a0.sessions a1.Session).isSome))]) ⟨z,z,z,z,z,y_⟩ ?_
 refine x_seq (c_seq (c_blk (csr (r_mv z (r_mv z ?_)))))
 refine r_s (s_gt z z fun g=>o_fa fa35_3 z) ?_
 refine r_s (s_gt z z fun g=>o_ld 4 sc22 (evg z g) z z) ?_
 refine r_s (s_gt z z fun g=>o_fa fa102_0 z) ?_
 refine r_s (s_gt z z fun g=>o_ld 0 sc22 (evg z g) z z) ?_
 refine r_s (s_gt z z fun g=>o_bin (evg z g) (evg z g) (bW_eq _ _)) ?_
 refine r_u (o_and z z) (r_as z (nsq ?_))
 refine c_if (b:=((mget a0.sessions a1.Session).isSome&&(a1.Num==(((mget a0.sessions a1.Session).getD ((⟨0,(⟨0,[],0⟩:Ap)⟩:Ar):Ar)).num)))) z (fun h31 =>?_) fun h31 =>?_
 ·have hm32:=ift hm29 h31
  refine csr (r_fa fa102_1 z ?_)
  refine r_u (o_ldn 0 (Ap.c (((mget a0.sessions a1.Session).getD ((⟨0,(⟨0,[],0⟩:Ap)⟩:Ar):Ar)).reply)) ag41 z z z z) ?_
  refine rl_st (fun _ h=>mv3 h) ?_
  refine r_u0 (o_stn ag41 z z z z z z z) (r_as z (r_nil (x_seq (c_ret ?_))))
  refine ex_st (fun _ h=>mv3 (mv6 h)) ?_
  refine ex_st (fun _ h=>st_some (f:=Am.op g2) (a:=(⟨p21.2.2,p21.1⟩:Am)) (st_star_f (A:=Am.fl b14 (⟨p21.2.2,p21.1⟩:Am) g2) h)) ?_
  obtain rfl:=si hm32
  exact x_d2 z (rv_n 1 (Ap.c (((mget a0.sessions a1.Session).getD ((⟨0,(⟨0,[],0⟩:Ap)⟩:Ar):Ar)).reply)) ag41 z z z z) (rv_t z) (pk 8 [3,0,7,6]) le_ ⟨_,z,(⟨(pt b14 0,g2),(pv23,g24),g6⟩:Ak.G),z,z,z⟩
 have hm32:=iff_ hm29 h31
 refine csr (r_mv z (r_mv z ?_))
 refine r_s (s_gt z z fun g=>o_fa fa35_3 z) ?_
 refine r_s (s_gt z z fun g=>o_ld 4 sc22 (evg z g) z z) ?_
 refine r_s (s_gt z z fun g=>o_fa fa102_0 z) ?_
 refine r_s (s_gt z z fun g=>o_ld 0 sc22 (evg z g) z z) ?_
 refine r_s (s_gt z z fun g=>o_bin (evg z g) (evg z g) (bW_lt _ _)) ?_
 refine r_u (o_and z z) (r_as z (nsq ?_))
 refine c_if (b:=((mget a0.sessions a1.Session).isSome&&decide (a1.Num<(((mget a0.sessions a1.Session).getD ((⟨0,(⟨0,[],0⟩:Ap)⟩:Ar):Ar)).num)))) z (fun h33 =>?_) fun h33 =>?_
 ·have hm34:=ift hm32 h33
  refine csr ?_
  refine r_u (o_bld [vI 122,vS [],vW 0] z kr) ?_
  refine rl_st (fun _ h=>mv3 h) ?_
  refine r_u0 (o_stn ag41 z z z z z z z) (r_as z (r_nil (x_seq (c_ret ?_))))
  refine ex_st (fun _ h=>mv3 (mv6 h)) ?_
  refine ex_st (fun _ h=>st_some (f:=Am.op g2) (a:=(⟨p21.2.2,p21.1⟩:Am)) (st_star_f (A:=Am.fl b14 (⟨p21.2.2,p21.1⟩:Am) g2) h)) ?_
  obtain rfl:=si hm34
  exact x_d2 z (rv_n 1 [vI 122,vS [],vW 0] ag41 z z z z) (rv_t z) (pk 8 [3,0,7,6]) le_ ⟨_,z,(⟨(pt b14 0,g2),(pv23,g24),g6⟩:Ak.G),z,z,z⟩
 have hm34:=iff_ hm32 h33
 refine csr (r_mv z ?_)
 refine r_u (o_not z) (r_mv z ?_)
 refine r_s (s_gt z z fun g=>o_mv z) ?_
 refine r_s (s_gt z z fun g=>o_nc (evg z g)) ?_
 refine r_s (s_gt z z fun g=>o_fa fa96_3 (evg z g)) ?_
 refine r_s (s_gt z z fun g=>o_ld 2 sc94 (evg z g) z z) ?_
 refine r_s (s_gt z z fun g=>o_lenM (kv:=vW) (vv:=Ar.v) 7 underlying94 (evg z g) z) ?_
 refine r_s (s_gt z z fun g=>o_bin (evg z g) z (bI_ge _ 64)) ?_
 refine r_u (o_and z z) (r_as z (nsq ?_))
 refine c_if (b:=(!((mget a0.sessions a1.Session).isSome)&&decide (64≤(a0.sessions.length:Int)))) z (fun h35 =>?_) fun h35 =>?_
 ·have hm36:=ift hm34 h35
  refine csr ?_
  refine r_u (o_bld [vI 3,vS [],vW 0] z kr) ?_
  refine rl_st (fun _ h=>mv3 h) ?_
  refine r_u0 (o_stn ag41 z z z z z z z) (r_as z (r_nil (x_seq (c_ret ?_))))
  refine ex_st (fun _ h=>mv3 (mv6 h)) ?_
  refine ex_st (fun _ h=>st_some (f:=Am.op g2) (a:=(⟨p21.2.2,p21.1⟩:Am)) (st_star_f (A:=Am.fl b14 (⟨p21.2.2,p21.1⟩:Am) g2) h)) ?_
  obtain rfl:=si hm36
  exact x_d2 z (rv_n 1 [vI 3,vS [],vW 0] ag41 z z z z) (rv_t z) (pk 8 [3,0,7,6]) le_ ⟨_,z,(⟨(pt b14 0,g2),(pv23,g24),g6⟩:Ak.G),z,z,z⟩
 have hm36:=iff_ hm34 h35
 refine c_skip (x_blk (x_seq (csr (r_mv z (r_fa fa35_4 z ?_)))))
 refine r_u (o_ldn 4 (AI.c a1.Op) ag27 z z z z) ?_
 refine rl_st (fun _ h=>mv2 (mv6 h)) ?_
 refine rl_st (fun _ h=>st_some (f:=Am.op g2) (a:=(⟨p21.2.2,p21.1⟩:Am)) (st_star_f (A:=Am.fl b14 (⟨p21.2.2,p21.1⟩:Am) g2) h)) ?_
 obtain ⟨r37,hr37,hm46⟩:=bs hm36
 refine rl_st (fun _ h=>mv4 (mv2 (mv7 (mv6 h)))) ?_
 refine r_sw (s_w (o_call ca38 z (AW.ok b0_ (⟨a0.c,(some (⟨p21.2.2,p21.1⟩:Am)),p21.2.1,a0.sessions,a0.seq+1,(if a0.now<a1.Now then a1.Now else a0.now),a0.version,a0.tally⟩:Ak) (⟨(pt b14 0,g2),(pv23,g24),g6⟩:Ak.G) _ _ hr37))) ?_
 rintro _ R _ _ ⟨⟨⟨pv40,g41⟩,⟨pv43,g44⟩,g45⟩,rfl,rfl,rfl⟩
 refine r_new (o_al ze41) fun b47 =>?_
 refine r_u0 (o_stn ag41 z z z z z z z) (r_nil (x_seq (c_seq ?_)))
 refine c_any mixed (effs:=[10]) (V:=[]) ?_
 refine stage_st (fun _ h=>mv4 h) ?_
 refine stn mk30_ [0,1,2,3,4,5,6,7,8,9] [10] [_,_,_,_,_,_,_,_,_,_] (q_mv z z z (q_u z z (o_nc z) (q_fa z z fa96_3 z (q_ld z z 2 sc94 z z z (q_fa z z fa35_2 z (q_ld z z 7 sc22 z z z (q_fa z z fa35_3 z (q_ld z z 7 sc22 z z z (q_u z z (o_ldn 1 (Ap.c r37.1) ag41 z z z z) (q_u z z (o_bld [vW a1.Num,vI r37.1.E,vS r37.1.Value,vW r37.1.Version] z kr) qn)))))))))) ?_ (nxt z)
 refine ec (eo_u z (s_u (o_mu (kv:=vW) (vv:=Ar.v) (key:=a1.Session) (val:=(⟨a1.Num,r37.1⟩:Ar)) underlying94 (kok_W underlying22) z z z z)) le_ ?_) en
 refine stage z z z z mk30_ [] [] z z z qn en ?_
 intro _
 refine ex_sub (E':=[(4,pt b8 0),(10,pt b47 0)]) ⟨z,z,y_⟩ ?_
 refine x_seq (csr ?_)
 refine r_u (o_ldn 1 (Ap.c r37.1) ag41 z z z z) ?_
 refine rl_st (fun _ h=>mv6 h) ?_
 refine r_u0 (o_stn ag41 z z z z z z z) (r_as z (r_nil (x_seq (c_ret ?_))))
 obtain rfl:=si hm46
 exact x_d2 z (rv_n 0 (Ap.c r37.1) ag41 z z z z) (rv_t z) (pk 9 [3,4,5,1]) le_ ⟨_,z,(⟨(pv40,g41),(pv43,g44),g45⟩:Ak.G),z,z,z⟩
def Bm(a0:Ak):UInt64 :=
 a0.seq
theorem Bm.ok{G R F}(b0_:Nat)(a0:Ak)(g0_:Ak.G)(r:UInt64)(hm:Bm a0=r):CO prog 14 [pt b0_ 0] G R (Bk b0_ 96 (Ak.k a0 g0_)::rO (Am.op g0_.t.2) g0_.t.1 a0.t::rO (Ah.op g0_.p.2) g0_.p.1 a0.p::OwM vW Ar.v g0_.sessions a0.sessions::F)
  (Ret fun u R' L'=>u=vW r∧R'=R∧L'=Bk b0_ 96 (Ak.k a0 g0_)::rO (Am.op g0_.t.2) g0_.t.1 a0.t::rO (Ah.op g0_.p.2) g0_.p.1 a0.p::OwM vW Ar.v g0_.sessions a0.sessions::F):=by
 obtain ⟨⟨pv1,g2⟩,⟨pv4,g5⟩,g6⟩:=g0_
 unfold Bm at hm
 refine co_ofN (N:=9) func14 z z ?_
 refine csr (r_as z (nssr (r_mv z (r_bin z z (bP_eqp underlying30) (nsq (c_ff z (c_skip (x_seq (csr (r_mv z (r_nc z (r_fa fa96_4 z (r_ld 0 sc22 z z z (r_as z (r_nil (x_seq (c_ret ?_)))))))))))))))))
 subst hm
 exact x_r1 z (rv_t z) le_ ⟨_,z,z,z,z⟩
def CH(r12:List Str)(x7:Am):Nat→(List Ai)→Int→Option (List Ai)
 | 0,_,_=>none
 | k23+1,out_20,s_21=>if decide (s_21<(r12.length:Int)) then (gi r12 s_21).bind fun x28=>lt (AT x7 x28) fun r30=>(apd 48 out_20 [r30.1]).bind fun l35=>CH r12 x7 k23 l35 (i64 (s_21+1)) else some out_20
def Cm(a0:Ak):Option (List Ai) :=
 om a0.t (none) fun x7=>(C5 x7).bind fun r12=>Option.bind (CH r12 x7 (((r12.length:Int)-0).toNat+1) [] 0) fun p15=>some p15
theorem Cm.ok{G R F}(b0_:Nat)(a0:Ak)(g0_:Ak.G)(r:List Ai)(hm:Cm a0=some r):CO prog 16 [pt b0_ 0] G R (Bk b0_ 96 (Ak.k a0 g0_)::rO (Am.op g0_.t.2) g0_.t.1 a0.t::rO (Ah.op g0_.p.2) g0_.p.1 a0.p::OwM vW Ar.v g0_.sessions a0.sessions::F)
  (Ret fun u R' L'=>∃p0,u=p0∧R'=R∧L'=OwS true 50 4 Ai.c p0 r::Bk b0_ 96 (Ak.k a0 g0_)::rO (Am.op g0_.t.2) g0_.t.1 a0.t::rO (Ah.op g0_.p.2) g0_.p.1 a0.p::OwM vW Ar.v g0_.sessions a0.sessions::F):=by
 obtain ⟨⟨pv1,g2⟩,⟨pv4,g5⟩,g6⟩:=g0_
 unfold Cm at hm
 refine co_ofN (N:=35) func16 z z ?_
 refine csr (r_as z (nssr (r_mv z (r_bin z z (bP_eqp underlying30) (nsq (c_ff z (c_skip (x_seq (csr (r_as z (r_nil (x_seq (c_seq (c_seq ?_))))))))))))))
 refine cd_st (fun _ h=>mv1 h) ?_
 refine cd_opt (fun ho9 =>?_) (fun x7 b8 ho9 =>?_)
 ·rintro rfl
  have hm10:=om_n hm ho9
  cases hm10
 rintro rfl
 have hm10:=om_s hm ho9
 refine cd_st (fun _ h=>st_star_o h) ?_
 refine c_reg (r_mv z (r_nc z (r_fa fa96_1 z (r_ld 2 sc92 z z z ?_))))
 obtain ⟨r12,hr12,hm14⟩:=bs hm10
 refine r_sw (s_w (o_call ca39 z (C5.ok b8 x7 g2 _ hr12))) ?_
 rintro v13 R _ _ ⟨_,rfl,rfl,rfl⟩
 refine r_u (o_lenO 0 underlying98 z z) (r_mv z (nsq ?_))
 obtain ⟨p15,hp17,hm18⟩:=bs hm14
 refine cd_cut (fun x ks=>∀(g16:Value),EX x .normal ks [(3,g16)] R (Bk b8 138 [g2.m,vI x7.bytes]::Bk b0_ 96 [vI a0.c.Policy,vI a0.c.Entries,vI a0.c.Bytes,vW a0.c.Seed,pt b8 0,pv4,g6,vW a0.seq,vW a0.now,vW a0.version,vI a0.tally.Asked,vI a0.tally.Hits]::OwS true 9 1 eS v13 r12::OwM vS Ai.v g2.m x7.m::rO (Ah.op g5) pv4 a0.p::OwM vW Ar.v g6 a0.sessions::OwS true 50 4 Ai.c g16 p15::F)) ?_ fun K19 =>?_
 ·intro g16
  refine x_seq (csr (r_mv z (r_as z (r_nil (x_seq (c_ret ?_))))))
  refine ex_st (fun _ h=>mv1 (mv3 h)) ?_
  refine ex_st (fun _ h=>st_some (f:=Am.op g2) (a:=x7) (st_star_f (A:=Am.fl b8 x7 g2) h)) ?_
  refine ex_st (fun _ h=>st_back ho9 h) ?_
  obtain rfl:=si hm18
  refine ex_st (pk 6 [5,1,0,3,4]) ?_
  exact x_r1 z (rv_t z) le_ ⟨_,z,g16,z,z,z⟩
 refine c_blk ?_
 refine cd_st (fun _ h=>st_nil (ap:=true) (T:=50) (sz:=4) (en:=Ai.c) h) ?_
 refine cd_loopG (M:=fun k23 (s:List Ai×Int×Value)=>CH r12 x7 k23 s.1 s.2.1=some p15) (Ef:=fun (s:List Ai×Int×Value)=>[(0,pt b0_ 0),(14,v13),(15,vI (r12.length:Int)),(3,s.2.2),(16,vI s.2.1)]) (Rf:=fun (s:List Ai×Int×Value)=>R) (Lf:=fun (s:List Ai×Int×Value)=>Bk b8 138 [g2.m,vI x7.bytes]::Bk b0_ 96 [vI a0.c.Policy,vI a0.c.Entries,vI a0.c.Bytes,vW a0.c.Seed,pt b8 0,pv4,g6,vW a0.seq,vW a0.now,vW a0.version,vI a0.tally.Asked,vI a0.tally.Hits]::OwS true 9 1 eS v13 r12::OwM vS Ai.v g2.m x7.m::rO (Ah.op g5) pv4 a0.p::OwM vW Ar.v g6 a0.sessions::OwS true 50 4 Ai.c s.2.2 s.1::F) (((r12.length:Int)-0).toNat+1) ([],0,.slice none 0 0) hp17 ⟨z,z,z,z,z,y_⟩ (pk 7 [2,4,1,3,5,6,0]) (fun _ h=>by cases h) fun k23 s hM25 =>?_
 obtain ⟨out_20,s_21,g22⟩:=s
 have hm24:CH r12 x7 (k23+1) out_20 s_21=some p15:=hM25
 rw [CH] at hm24
 refine csr (r_bin z z (bI_lt _ _) (r_nil (x_seq (c_seq ?_))))
 refine c_if (b:=decide (s_21<(r12.length:Int))) z (fun h26 =>?_) fun h26 =>?_
 rotate_left
 ·have hm27:=iff_ hm24 h26
  refine c_exit (x_exit (ks':=_) z ?_)
  obtain rfl:=si hm27
  exact x_sub (K19 g22) ⟨z,y_⟩ id_
 have hm27:=ift hm24 h26
 refine c_skip (x_seq (c_seq (c_blk (csr ?_))))
 obtain ⟨x28,hx28,hm29⟩:=bs hm27
 refine r_u (o_ixO 2 underlying98 kr z z z hx28) (r_u (o_ldO0 2 sc9 z z hx28 z z) (r_as z (nsr (r_mv z (r_nc z (r_fa fa96_1 z (r_ld 1 sc92 z z z (r_mv z ?_))))))))
 obtain ⟨r30,hr30,hm31⟩:=ltx hm29
 refine rl_st (fun _ h=>mv1 (mv3 h)) ?_
 refine r_c (s_w (o_call ca40 z (AT.ok b8 x7 g2 _ _ hr30))) ?_
 refine r_mv z (r_ext z z (r_ext z z ?_))
 refine r_new (o_al ze50) fun b32 =>?_
 refine r_u0 (o_stn ag50 z z z z z z z) (r_as z (r_nil (x_seq (c_reg (r_mv z ?_)))))
 refine r_u (o_ldn 0 (Ai.c r30.1) ag50 z z z z) ?_
 refine r_sw (s_w (o_bsl (en:=Ai.c) (sz:=4) (e:=50) (cs:=[vS r30.1.Key,vS r30.1.Value,vW r30.1.Version,vW r30.1.End]) (r:=[r30.1]) z kr z (by decide) z (fun _=>z))) ?_
 rintro v33 R _ _ ⟨rfl,rfl⟩
 obtain ⟨l35,hl35,hm36⟩:=bs hm31
 refine rl_st (fun _ h=>mv8 h) ?_
 refine r_sw (s_w (o_ap (sz:=4) (bytes:=48) 0 underlying44 rfl rfl rfl rfl rfl (by decide) (by decide) (fun _ _ _ h=>by simp [Ai.c] at h;rcases h with rfl | rfl | rfl | rfl <;> rfl) (fun _=>rfl) rfl rfl rfl rfl (Nat.succ_pos _) hl35)) ?_
 rintro v34 R _ _ ⟨rfl,rfl⟩
 refine r_as z (r_nil (x_blk (x_seq (c_reg (r_bin z z (bI_add _ 1) (r_mv z (r_nil ?_)))))))
 exact x_lp (l35,i64 (s_21+1),v34) hm36 ⟨z,z,z,z,z,y_⟩ (pk 9 [3,5,6,4,7,8,0])
def DK : Option Bool :=
 (DR (⟨1,2,100,0⟩:Au)).bind fun r0=>om r0.1 (none) fun x5=>(AQ x5 (⟨1,0,1,1,(⟨2,[107],[118],0,0⟩:AI)⟩:AK)).bind fun r16=>(AQ r16.2.2 (⟨2,0,1,2,(⟨1,[107],[],0,0⟩:AI)⟩:AK)).bind fun r27=>if (((((r0.2==0)&&(r16.2.1==0))&&(r27.2.1==0))&&(r16.1.Version==1))&&(r27.1.Value==[118])) then if ((Bm r27.2.2)==2) then (Cm r27.2.2).bind fun r42=>some ((r42.length:Int)==1) else some false else some false
theorem DK.ok{G R F}(r:Bool)(hm:DK=some r):CO prog 12 [] G R (F)
  (Ret fun u R' L'=>u=vB r∧R'=R∧L'=F):=by
 unfold DK at hm
 refine co_ofN (N:=57) func12 z z ?_
 refine csr (r_as z (nsr ?_))
 refine r_u (o_bld [vI 1,vI 2,vI 100,vW 0] z kr) ?_
 obtain ⟨r0,hr0,hm4⟩:=bs hm
 refine r_sw (s_w (o_call ca19 z (DR.ok (⟨1,2,100,0⟩:Au) _ hr0))) ?_
 rintro _ R _ _ ⟨⟨pv2,g3⟩,rfl,rfl,rfl⟩
 refine r_mv z (r_ext z z (r_ext z z (r_as z (r_as z (r_nil (x_seq (c_seq ?_)))))))
 refine cd_opt (fun ho7 =>?_) (fun x5 b6 ho7 =>?_)
 ·rintro rfl
  have hm8:=om_n hm4 ho7
  cases hm8
 rintro rfl
 have hm8:=om_s hm4 ho7
 obtain ⟨⟨pv10,g11⟩,⟨pv13,g14⟩,g15⟩:=g3
 refine cd_st (fun _ h=>st_star_o h) ?_
 refine c_reg (r_mv z ?_)
 refine r_u (o_bld [vI 2,vS [107],vS [118],vW 0,vW 0] z kr) ?_
 refine r_u (o_bld [vW 1,vW 0,vW 1,vW 1,vI 2,vS [107],vS [118],vW 0,vW 0] z kr) ?_
 obtain ⟨r16,hr16,hm25⟩:=bs hm8
 refine r_sw (s_w (o_call ca15 z (AQ.ok b6 x5 (⟨(pv10,g11),(pv13,g14),g15⟩:Ak.G) (⟨1,0,1,1,(⟨2,[107],[118],0,0⟩:AI)⟩:AK) _ hr16))) ?_
 rintro _ R _ _ ⟨⟨⟨pv19,g20⟩,⟨pv22,g23⟩,g24⟩,rfl,rfl,rfl⟩
 refine r_mv z (r_ext z z (r_ext z z ?_))
 refine r_new (o_al ze41) fun b26 =>?_
 refine r_u0 (o_stn ag41 z z z z z z z) (r_as z (nsr (r_mv z ?_)))
 refine r_u (o_bld [vI 1,vS [107],vS [],vW 0,vW 0] z kr) ?_
 refine r_u (o_bld [vW 2,vW 0,vW 1,vW 2,vI 1,vS [107],vS [],vW 0,vW 0] z kr) ?_
 obtain ⟨r27,hr27,hm36⟩:=bs hm25
 refine rl_st (fun _ h=>mv4 (mv4 (mv4 (mv4 h)))) ?_
 refine r_sw (s_w (o_call ca15 z (AQ.ok b6 _ (⟨(pv19,g20),(pv22,g23),g24⟩:Ak.G) (⟨2,0,1,2,(⟨1,[107],[],0,0⟩:AI)⟩:AK) _ hr27))) ?_
 rintro _ R _ _ ⟨⟨⟨pv30,g31⟩,⟨pv33,g34⟩,g35⟩,rfl,rfl,rfl⟩
 refine r_mv z (r_ext z z (r_ext z z ?_))
 refine r_new (o_al ze41) fun b37 =>?_
 refine r_u0 (o_stn ag41 z z z z z z z) (r_as z (r_nil (x_seq (c_seq ?_))))
 refine cd_by (((((r0.2==0)&&(r16.2.1==0))&&(r27.2.1==0))&&(r16.1.Version==1))&&(r27.1.Value==[118])) (fun h38 =>?_) fun h38 =>?_
 rotate_left
 ·have hm39:=iff_ hm36 h38
  refine c_reg (r_mv z (r_bin z z (bI_eq _ 0) (r_mv z ?_)))
  refine r_s (s_gt z z fun g=>o_mv z) ?_
  refine r_s (s_gt z z fun g=>o_bin (evg z g) z (bI_eq _ 0)) ?_
  refine r_u (o_and z z) (r_mv z ?_)
  refine r_s (s_gt z z fun g=>o_mv z) ?_
  refine r_s (s_gt z z fun g=>o_bin (evg z g) z (bI_eq _ 0)) ?_
  refine r_u (o_and z z) (r_mv z ?_)
  refine r_s (s_gt z z fun g=>o_fa fa41_2 z) ?_
  refine r_s (s_gt z z fun g=>o_ld 5 sc22 (evg z g) z z) ?_
  refine r_s (s_gt z z fun g=>o_bin (evg z g) z (bW_eq _ 1)) ?_
  refine r_u (o_and z z) (r_mv z ?_)
  refine r_s (s_gt z z fun g=>o_fa fa41_1 z) ?_
  refine r_s (s_gt z z fun g=>o_ld 0 sc9 (evg z g) z z) ?_
  refine r_s (s_gt z z fun g=>o_bin (evg z g) z (bS_eq _ [118])) ?_
  refine r_u (o_and z z) (r_mv z ?_)
  refine r_s (s_n z z h38) ?_
  refine r_s (s_n z z h38) ?_
  refine r_s (s_n z z h38) ?_
  refine r_u (o_pf z h38 z) (r_mv z ?_)
  refine r_s (s_n z z z) ?_
  refine r_s (s_n z z z) ?_
  refine r_s (s_n z z z) ?_
  refine r_s (s_n z z z) ?_
  refine r_u (o_pf z z z) (r_as z (r_nil (x_seq (c_ret ?_))))
  obtain rfl:=si hm39
  refine ex_st (pk 6 []) ?_
  exact x_r1 z (rv_t z) le_ ⟨_,z,z,z,z⟩
 have hm39:=ift hm36 h38
 refine cd_by ((Bm r27.2.2)==2) (fun h40 =>?_) fun h40 =>?_
 ·have hm41:=ift hm39 h40
  refine c_reg (r_mv z (r_bin z z (bI_eq _ 0) (r_mv z ?_)))
  refine r_s (s_gt z z fun g=>o_mv z) ?_
  refine r_s (s_gt z z fun g=>o_bin (evg z g) z (bI_eq _ 0)) ?_
  refine r_u (o_and z z) (r_mv z ?_)
  refine r_s (s_gt z z fun g=>o_mv z) ?_
  refine r_s (s_gt z z fun g=>o_bin (evg z g) z (bI_eq _ 0)) ?_
  refine r_u (o_and z z) (r_mv z ?_)
  refine r_s (s_gt z z fun g=>o_fa fa41_2 z) ?_
  refine r_s (s_gt z z fun g=>o_ld 5 sc22 (evg z g) z z) ?_
  refine r_s (s_gt z z fun g=>o_bin (evg z g) z (bW_eq _ 1)) ?_
  refine r_u (o_and z z) (r_mv z ?_)
  refine r_s (s_gt z z fun g=>o_fa fa41_1 z) ?_
  refine r_s (s_gt z z fun g=>o_ld 0 sc9 (evg z g) z z) ?_
  refine r_s (s_gt z z fun g=>o_bin (evg z g) z (bS_eq _ [118])) ?_
  refine r_u (o_and z z) (r_mv z ?_)
  refine r_s (s_y z z h38 (o_mv z)) ?_
  refine rl_st (fun _ h=>mv4 (mv4 (mv4 (mv4 h)))) ?_
  refine r_c (s_yw z z h38 (o_call ca14 z (Bm.ok b6 r27.2.2 (⟨(pv30,g31),(pv33,g34),g35⟩:Ak.G) _ z))) ?_
  refine r_s (s_y z z h38 (o_bin z z (bW_eq _ 2))) ?_
  refine r_u (o_pt z h38 z) (r_mv z ?_)
  refine r_s (s_y z z h40 (o_mv z)) ?_
  obtain ⟨r42,hr42,hm44⟩:=bs hm41
  refine r_sw (s_yw z z h40 (o_call ca16 z (Cm.ok b6 _ (⟨(pv30,g31),(pv33,g34),g35⟩:Ak.G) _ hr42))) ?_
  rintro v43 R _ _ ⟨_,rfl,rfl,rfl⟩
  refine r_s (s_y z z h40 (o_lenO 0 underlying44 z z)) ?_
  refine r_s (s_y z z h40 (o_bin z z (bI_eq _ 1))) ?_
  refine r_u (o_pt z h40 z) (r_as z (r_nil (x_seq (c_ret ?_))))
  obtain rfl:=si hm44
  refine ex_st (pk 7 []) ?_
  exact x_r1 z (rv_t z) le_ ⟨_,z,z,z,z⟩
 have hm41:=iff_ hm39 h40
 refine c_reg (r_mv z (r_bin z z (bI_eq _ 0) (r_mv z ?_)))
 refine r_s (s_gt z z fun g=>o_mv z) ?_
 refine r_s (s_gt z z fun g=>o_bin (evg z g) z (bI_eq _ 0)) ?_
 refine r_u (o_and z z) (r_mv z ?_)
 refine r_s (s_gt z z fun g=>o_mv z) ?_
 refine r_s (s_gt z z fun g=>o_bin (evg z g) z (bI_eq _ 0)) ?_
 refine r_u (o_and z z) (r_mv z ?_)
 refine r_s (s_gt z z fun g=>o_fa fa41_2 z) ?_
 refine r_s (s_gt z z fun g=>o_ld 5 sc22 (evg z g) z z) ?_
 refine r_s (s_gt z z fun g=>o_bin (evg z g) z (bW_eq _ 1)) ?_
 refine r_u (o_and z z) (r_mv z ?_)
 refine r_s (s_gt z z fun g=>o_fa fa41_1 z) ?_
 refine r_s (s_gt z z fun g=>o_ld 0 sc9 (evg z g) z z) ?_
 refine r_s (s_gt z z fun g=>o_bin (evg z g) z (bS_eq _ [118])) ?_
 refine r_u (o_and z z) (r_mv z ?_)
 refine r_s (s_y z z h38 (o_mv z)) ?_
 refine rl_st (fun _ h=>mv4 (mv4 (mv4 (mv4 h)))) ?_
 refine r_c (s_yw z z h38 (o_call ca14 z (Bm.ok b6 r27.2.2 (⟨(pv30,g31),(pv33,g34),g35⟩:Ak.G) _ z))) ?_
 refine r_s (s_y z z h38 (o_bin z z (bW_eq _ 2))) ?_
 refine r_u (o_pt z h38 z) (r_mv z ?_)
 refine r_s (s_n z z h40) ?_
 refine r_s (s_n z z h40) ?_
 refine r_s (s_n z z h40) ?_
 refine r_s (s_n z z h40) ?_
 refine r_u (o_pf z h40 z) (r_as z (r_nil (x_seq (c_ret ?_))))
 obtain rfl:=si hm41
 refine ex_st (pk 6 []) ?_
 exact x_r1 z (rv_t z) le_ ⟨_,z,z,z,z⟩
def C3(a0:UInt64)(a1:UInt64)(a2:AM):Option (AK×UInt64) :=
 Option.bind (if decide (70<(a2.Op.Key.length:Int)) then (sl a2.Op.Key 0 70).bind fun s23=>some s23 else some a2.Op.Key) fun p3=>Option.bind (if decide (1200<(a2.Op.Value.length:Int)) then (sl a2.Op.Value 0 1200).bind fun s19=>some s19 else some a2.Op.Value) fun p7=>Option.bind (if decide (a2.Ticks≤100) then some (a1+a2.Ticks) else some a1) fun p11=>some ((⟨(a0+1)+((toW (iand a2.Skip 3))/3),p11,a2.Session &&& 7,a2.Num &&& 31,(⟨a2.Op.Kind,p3,p7,a2.Op.TTL,a2.Op.Version⟩:AI)⟩:AK),p11)
theorem C3.ok{G R F}(a0:UInt64)(a1:UInt64)(a2:AM)(r:AK×UInt64)(hm:C3 a0 a1 a2=some r):CO prog 13 [vW a0,vW a1,.agg (AM.c a2).toArray] G R (F)
  (Ret fun u R' L'=>u = .tuple #[.agg (AK.c r.1).toArray,vW r.2]∧R'=R∧L'=F):=by
 unfold C3 at hm
 refine co_ofN (N:=54) func13 z z ?_
 refine csr ?_
 refine r_new (o_bx (AM.c a2) z z) fun b0 =>?_
 refine r_new (o_al ze35) fun b1 =>?_
 refine r_as z (nsr (r_fa fa29_3 z ?_))
 refine r_u (o_ldn 1 (AI.c a2.Op) ag27 z z z z) ?_
 refine r_new (o_al ze27) fun b2 =>?_
 refine r_u0 (o_stn ag27 z z z z z z z) (nssr (r_fa fa27_1 z (r_ld 0 sc9 z z z (r_u (o_lenS underlying9 z) (r_bin z z (bI_gt _ 70) (nsq ?_))))))
 obtain ⟨p3,hp4,hm5⟩:=bs hm
 refine cd_join (E':=[(0,vW a0),(1,vW a1),(5,pt b0 0),(6,pt b1 0),(8,pt b2 0)]) (L':=Bk b2 27 [vI a2.Op.Kind,vS p3,vS a2.Op.Value,vW a2.Op.TTL,vW a2.Op.Version]::Bk b1 35 [vW 0,vW 0,vW 0,vW 0,vI 0,vS [],vS [],vW 0,vW 0]::Bk b0 29 (AM.c a2)::F) ?_ fun K6 =>?_
 rotate_left
 ·refine c_if (b:=decide (70<(a2.Op.Key.length:Int))) z (fun h21 =>?_) fun h21 =>?_
  ·have hm22:=ift hp4 h21
   refine c_reg (r_fa fa27_1 z (r_ld 0 sc9 z z z ?_))
   obtain ⟨s23,hs23,hm24⟩:=bs hm22
   refine r_u (o_slS (i:=0) (j:=70) underlying9 z z z hs23) (r_fa fa27_1 z ?_)
   refine r_u0 (o_st sc9 z z z z z z) (r_nil ?_)
   obtain rfl:=si hm24
   exact x_sub K6 ⟨z,z,z,z,z,y_⟩ id_
  have hm22:=iff_ hp4 h21
  refine c_skip ?_
  obtain rfl:=si hm22
  exact x_sub K6 ⟨z,z,z,z,z,y_⟩ id_
 refine x_seq (c_seq (csr (r_fa fa27_2 z (r_ld 0 sc9 z z z (r_u (o_lenS underlying9 z) (r_bin z z (bI_gt _ 1200) (nsq ?_)))))))
 obtain ⟨p7,hp8,hm9⟩:=bs hm5
 refine cd_join (E':=[(0,vW a0),(1,vW a1),(5,pt b0 0),(6,pt b1 0),(8,pt b2 0)]) (L':=Bk b2 27 [vI a2.Op.Kind,vS p3,vS p7,vW a2.Op.TTL,vW a2.Op.Version]::Bk b1 35 [vW 0,vW 0,vW 0,vW 0,vI 0,vS [],vS [],vW 0,vW 0]::Bk b0 29 (AM.c a2)::F) ?_ fun K10 =>?_
 rotate_left
 ·refine c_if (b:=decide (1200<(a2.Op.Value.length:Int))) z (fun h17 =>?_) fun h17 =>?_
  ·have hm18:=ift hp8 h17
   refine c_reg (r_fa fa27_2 z (r_ld 0 sc9 z z z ?_))
   obtain ⟨s19,hs19,hm20⟩:=bs hm18
   refine r_u (o_slS (i:=0) (j:=1200) underlying9 z z z hs19) (r_fa fa27_2 z ?_)
   refine r_u0 (o_st sc9 z z z z z z) (r_nil ?_)
   obtain rfl:=si hm20
   exact x_sub K10 ⟨z,z,z,z,z,y_⟩ id_
  have hm18:=iff_ hp8 h17
  refine c_skip ?_
  obtain rfl:=si hm18
  exact x_sub K10 ⟨z,z,z,z,z,y_⟩ id_
 refine x_seq (csr (r_mv z (r_as z (nssr (r_fa fa29_0 z (r_ld 2 sc22 z z z (r_bin z z (bW_le _ 100) (nsq ?_))))))))
 obtain ⟨p11,hp12,hm13⟩:=bs hm9
 refine cd_join (E':=[(0,vW a0),(5,pt b0 0),(6,pt b1 0),(8,pt b2 0),(9,vW p11)]) (L':=Bk b2 27 [vI a2.Op.Kind,vS p3,vS p7,vW a2.Op.TTL,vW a2.Op.Version]::Bk b1 35 [vW 0,vW 0,vW 0,vW 0,vI 0,vS [],vS [],vW 0,vW 0]::Bk b0 29 (AM.c a2)::F) ?_ fun K14 =>?_
 ·refine x_seq (csr (r_mv z (r_bin z z (bW_add a0 1) (r_fa fa29_4 z (r_ld 2 sc3 z z z (r_bin z z (bI_and _ 3) (r_u (o_cv z (cIW underlying3 underlying22 (iand a2.Skip 3))) (r_bin z z (bW_quo _ 3 (by decide)) (r_bin z z (bW_add _ _) (r_mv z (r_fa fa29_1 z (r_ld 2 sc22 z z z (r_bin z z (bW_and _ 7) (r_fa fa29_2 z (r_ld 2 sc22 z z z (r_bin z z (bW_and _ 31) ?_))))))))))))))))
  refine r_u (o_ldn 0 [vI a2.Op.Kind,vS p3,vS p7,vW a2.Op.TTL,vW a2.Op.Version] ag27 z z z z) ?_
  refine r_u (o_bld [vW ((a0+1)+((toW (iand a2.Skip 3))/3)),vW p11,vW (a2.Session &&& 7),vW (a2.Num &&& 31),vI a2.Op.Kind,vS p3,vS p7,vW a2.Op.TTL,vW a2.Op.Version] z kr) (r_mv z ?_)
  refine rl_st (fun _ h=>mv1 h) ?_
  refine r_u0 (o_stn ag35 z z z z z z z) (r_as z (r_nil (x_seq (c_ret ?_))))
  obtain rfl:=si hm13
  exact x_d2 z (rv_n 0 [vW ((a0+1)+((toW (iand a2.Skip 3))/3)),vW p11,vW (a2.Session &&& 7),vW (a2.Num &&& 31),vI a2.Op.Kind,vS p3,vS p7,vW a2.Op.TTL,vW a2.Op.Version] ag35 z z z z) (rv_t z) (pk 3 []) le_ ⟨_,z,z,z,z⟩
 refine c_if (b:=decide (a2.Ticks≤100)) z (fun h15 =>?_) fun h15 =>?_
 ·have hm16:=ift hp12 h15
  refine c_reg (r_mv z (r_fa fa29_0 z (r_ld 2 sc22 z z z (r_bin z z (bW_add a1 _) (r_as z (r_nil ?_))))))
  obtain rfl:=si hm16
  exact x_sub K14 ⟨z,z,z,z,z,y_⟩ id_
 have hm16:=iff_ hp12 h15
 refine c_skip ?_
 obtain rfl:=si hm16
 exact x_sub K14 ⟨z,z,z,z,z,y_⟩ id_
def C9(a0:AI):Bool :=
 if ((decide (64<(a0.Key.length:Int))||decide (4096<(a0.Value.length:Int)))||decide (1073741824<a0.TTL)) then false else lt (if (a0.Kind==1) then (a0.Kind==1) else (a0.Kind==3)) fun p3=>if p3 then (((a0.Key != [])&&((a0.Value==[])&&(a0.TTL==0)))&&(a0.Version==0)) else if (a0.Kind==2) then ((a0.Key != [])&&(a0.Version==0)) else if (a0.Kind==4) then ((a0.Key != [])&&decide (0<a0.Version)) else if (a0.Kind==5) then (((a0.Key==[])&&((a0.Value==[])&&(a0.TTL==0)))&&(a0.Version==0)) else false
theorem C9.ok{G R F}(a0:AI)(r:Bool)(hm:C9 a0=r):CO prog 44 [.agg (AI.c a0).toArray] G R (F)
  (Ret fun u R' L'=>u=vB r∧R'=R∧L'=F):=by
 unfold C9 at hm
 refine co_ofN (N:=76) func44 z z ?_
 refine csr ?_
 refine r_new (o_bx (AI.c a0) z z) fun b0 =>?_
 refine r_as z (nssr (r_fa fa27_1 z (r_ld 0 sc9 z z z (r_u (o_lenS underlying9 z) (r_bin z z (bI_gt _ 64) (r_mv z ?_))))))
 refine r_s (s_gf z z fun g=>o_fa fa27_2 z) ?_
 refine r_s (s_gf z z fun g=>o_ld 0 sc9 (evg z g) z z) ?_
 refine r_s (s_gf z z fun g=>o_lenS underlying9 (evg z g)) ?_
 refine r_s (s_gf z z fun g=>o_bin (evg z g) z (bI_gt _ 4096)) ?_
 refine r_u (o_or z z) (r_mv z ?_)
 refine r_s (s_gf z z fun g=>o_fa fa27_3 z) ?_
 refine r_s (s_gf z z fun g=>o_ld 0 sc22 (evg z g) z z) ?_
 refine r_s (s_gf z z fun g=>o_bin (evg z g) z (bW_gt _ 1073741824)) ?_
 refine r_u (o_or z z) (nsq ?_)
 refine c_if (b:=((decide (64<(a0.Key.length:Int))||decide (4096<(a0.Value.length:Int)))||decide (1073741824<a0.TTL))) z (fun h1 =>?_) fun h1 =>?_
 ·have hm2:=ift hm h1
  refine csr (r_as z (r_nil (x_seq (c_ret ?_))))
  subst hm2
  refine ex_st (pk 1 []) ?_
  exact x_r1 z (rv_t z) le_ ⟨_,z,z,z,z⟩
 have hm2:=iff_ hm h1
 refine c_skip (x_seq (csr (r_fa fa27_2 z (r_ld 0 sc9 z z z (r_bin z z (bS_eq _ []) (r_mv z ?_))))))
 refine r_s (s_gt z z fun g=>o_fa fa27_3 z) ?_
 refine r_s (s_gt z z fun g=>o_ld 0 sc22 (evg z g) z z) ?_
 refine r_s (s_gt z z fun g=>o_bin (evg z g) z (bW_eq _ 0)) ?_
 refine r_u (o_and z z) (r_as z (nssr (r_fa fa27_0 z (r_ld 0 sc3 z z z (r_nil (x_seq (c_blk (c_seq (csr (r_bin z z (bI_eq _ 1) (r_as z (nsq ?_))))))))))))
 obtain ⟨p3,hp4,hm5⟩:=ltx hm2
 refine cd_join (E':=[(1,pt b0 0),(3,vB ((a0.Value==[])&&(a0.TTL==0))),(28,vI a0.Kind),(29,vB p3)]) (L':=Bk b0 27 (AI.c a0)::F) ?_ fun K6 =>?_
 rotate_left
 ·refine c_if (b:=(a0.Kind==1)) z (fun h15 =>?_) fun h15 =>?_
  ·have hm16:=ift hp4 h15
   refine c_skip ?_
   subst hm16
   exact x_sub K6 ⟨z,z,z,z,y_⟩ id_
  have hm16:=iff_ hp4 h15
  refine c_reg (r_bin z z (bI_eq _ 3) (r_as z (r_nil ?_)))
  subst hm16
  exact x_sub K6 ⟨z,z,z,z,y_⟩ id_
 refine x_seq ?_
 refine c_if (b:=p3) z (fun h7 =>?_) fun h7 =>?_
 ·have hm8:=ift hm5 h7
  refine csr (r_fa fa27_1 z (r_ld 0 sc9 z z z (r_bin z z (bS_ne _ []) (r_mv z ?_))))
  refine r_s (s_gt z z fun g=>o_mv z) ?_
  refine r_u (o_and z z) (r_mv z ?_)
  refine r_s (s_gt z z fun g=>o_fa fa27_4 z) ?_
  refine r_s (s_gt z z fun g=>o_ld 0 sc22 (evg z g) z z) ?_
  refine r_s (s_gt z z fun g=>o_bin (evg z g) z (bW_eq _ 0)) ?_
  refine r_u (o_and z z) (r_as z (r_nil (x_seq (c_ret ?_))))
  subst hm8
  refine ex_st (pk 1 []) ?_
  exact x_r1 z (rv_t z) le_ ⟨_,z,z,z,z⟩
 have hm8:=iff_ hm5 h7
 refine csr (r_bin z z (bI_eq _ 2) (r_as z (nsq ?_)))
 refine c_if (b:=(a0.Kind==2)) z (fun h9 =>?_) fun h9 =>?_
 ·have hm10:=ift hm8 h9
  refine csr (r_fa fa27_1 z (r_ld 0 sc9 z z z (r_bin z z (bS_ne _ []) (r_mv z ?_))))
  refine r_s (s_gt z z fun g=>o_fa fa27_4 z) ?_
  refine r_s (s_gt z z fun g=>o_ld 0 sc22 (evg z g) z z) ?_
  refine r_s (s_gt z z fun g=>o_bin (evg z g) z (bW_eq _ 0)) ?_
  refine r_u (o_and z z) (r_as z (r_nil (x_seq (c_ret ?_))))
  subst hm10
  refine ex_st (pk 1 []) ?_
  exact x_r1 z (rv_t z) le_ ⟨_,z,z,z,z⟩
 have hm10:=iff_ hm8 h9
 refine csr (r_bin z z (bI_eq _ 4) (r_as z (nsq ?_)))
 refine c_if (b:=(a0.Kind==4)) z (fun h11 =>?_) fun h11 =>?_
 ·have hm12:=ift hm10 h11
  refine csr (r_fa fa27_1 z (r_ld 0 sc9 z z z (r_bin z z (bS_ne _ []) (r_mv z ?_))))
  refine r_s (s_gt z z fun g=>o_fa fa27_4 z) ?_
  refine r_s (s_gt z z fun g=>o_ld 0 sc22 (evg z g) z z) ?_
  refine r_s (s_gt z z fun g=>o_bin (evg z g) z (bW_gt _ 0)) ?_
  refine r_u (o_and z z) (r_as z (r_nil (x_seq (c_ret ?_))))
  subst hm12
  refine ex_st (pk 1 []) ?_
  exact x_r1 z (rv_t z) le_ ⟨_,z,z,z,z⟩
 have hm12:=iff_ hm10 h11
 refine csr (r_bin z z (bI_eq _ 5) (r_as z (nsq ?_)))
 refine c_if (b:=(a0.Kind==5)) z (fun h13 =>?_) fun h13 =>?_
 ·have hm14:=ift hm12 h13
  refine csr (r_fa fa27_1 z (r_ld 0 sc9 z z z (r_bin z z (bS_eq _ []) (r_mv z ?_))))
  refine r_s (s_gt z z fun g=>o_mv z) ?_
  refine r_u (o_and z z) (r_mv z ?_)
  refine r_s (s_gt z z fun g=>o_fa fa27_4 z) ?_
  refine r_s (s_gt z z fun g=>o_ld 0 sc22 (evg z g) z z) ?_
  refine r_s (s_gt z z fun g=>o_bin (evg z g) z (bW_eq _ 0)) ?_
  refine r_u (o_and z z) (r_as z (r_nil (x_seq (c_ret ?_))))
  subst hm14
  refine ex_st (pk 1 []) ?_
  exact x_r1 z (rv_t z) le_ ⟨_,z,z,z,z⟩
 have hm14:=iff_ hm12 h13
 refine c_skip (x_blk (x_seq (csr (r_as z (r_nil (x_seq (c_ret ?_)))))))
 subst hm14
 refine ex_st (pk 1 []) ?_
 exact x_r1 z (rv_t z) le_ ⟨_,z,z,z,z⟩
def BM(a0:List Ai)(a1:Str):Nat→(List Ai)→Int→Option (List Ai)
 | 0,_,_=>none
 | k9+1,out_6,i_7=>if decide (i_7<(a0.length:Int)) then (gi a0 i_7).bind fun x14=>Option.bind (if (x14.Key != a1) then (apd 48 out_6 [x14]).bind fun l25=>some l25 else some out_6) fun p16=>BM a0 a1 k9 p16 (i64 (i_7+1)) else some out_6
def A3(a0:List Ai)(a1:Str):Option (List Ai) :=
 Option.bind (BM a0 a1 (((a0.length:Int)-0).toNat+1) [] 0) fun p1=>some p1
theorem A3.ok{G R F}(v0_:Value)(a0:List Ai)(h0_:RoS R v0_ 4 Ai.c a0)(a1:Str)(r:List Ai)(hm:A3 a0 a1=some r):CO prog 79 [v0_,vS a1] G R (F)
  (Ret fun u R' L'=>∃p0,u=p0∧R'=R∧L'=OwS true 50 4 Ai.c p0 r::F):=by
 unfold A3 at hm
 refine co_ofN (N:=29) func79 z z ?_
 refine csr (r_as z (nsr ?_))
 refine r_sw (s_w (o_bsl (en:=Ai.c) (sz:=4) (e:=50) (cs:=[]) (r:=[]) z kr z (by decide) z (fun _=>z))) ?_
 rintro v0 R _ _ ⟨rfl,rfl⟩
 refine r_as z (nssr (r_as z (nsq ?_)))
 obtain ⟨p1,hp3,hm4⟩:=bs hm
 refine cd_cut (fun x ks=>∀(g2:Value),EX x .normal ks [(5,g2)] R (OwS true 50 4 Ai.c g2 p1::F)) ?_ fun K5 =>?_
 ·intro g2
  refine x_seq (csr (r_mv z (r_as z (r_nil (x_seq (c_ret ?_))))))
  obtain rfl:=si hm4
  exact x_r1 z (rv_t z) le_ ⟨_,z,g2,z,z,z⟩
 refine c_blk ?_
 refine cd_loopG (M:=fun k9 (s:List Ai×Int×Value)=>BM a0 a1 k9 s.1 s.2.1=some p1) (Ef:=fun (s:List Ai×Int×Value)=>[(0,v0_),(1,vS a1),(5,s.2.2),(6,vI s.2.1)]) (Rf:=fun (s:List Ai×Int×Value)=>R) (Lf:=fun (s:List Ai×Int×Value)=>OwS true 50 4 Ai.c s.2.2 s.1::F) (((a0.length:Int)-0).toNat+1) ([],0,v0) hp3 ⟨z,z,z,z,y_⟩ id_ (fun _ h=>by cases h) fun k9 s hM11 =>?_
 obtain ⟨out_6,i_7,g8⟩:=s
 have hm10:BM a0 a1 (k9+1) out_6 i_7=some p1:=hM11
 rw [BM] at hm10
 refine c_seq (csr (r_mv z (r_mv z ?_)))
 refine r_u (o_lenR underlying61 z h0_) (r_bin z z (bI_lt _ _) (nsq ?_))
 refine c_if (b:=decide (i_7<(a0.length:Int))) z (fun h12 =>?_) fun h12 =>?_
 rotate_left
 ·have hm13:=iff_ hm10 h12
  refine c_exit (x_exit (ks':=_) z ?_)
  obtain rfl:=si hm13
  exact x_sub (K5 g8) ⟨z,y_⟩ id_
 have hm13:=ift hm10 h12
 refine c_skip (x_seq (c_seq (c_blk (csr (r_mv z (r_mv z ?_))))))
 obtain ⟨x14,hx14,hm15⟩:=bs hm13
 obtain ⟨b14,o14,l14,T14,fr14,c14,hv14,hR14,he14,hi14⟩:=RoS.ne h0_ hx14
 refine r_u (o_ix (sz:=4) underlying61 kr z z hv14 hi14) (r_fa fa50_0 z ?_)
 refine r_u (o_ldR sc9 z hR14 (rok 0 he14 (by decide))) (r_mv z (r_bin z z (bS_ne _ a1) (nsq ?_)))
 obtain ⟨p16,hp18,hm19⟩:=bs hm15
 refine cd_cut (fun x ks=>∀(g17:Value),EX x .normal ks [(0,v0_),(1,vS a1),(6,vI i_7),(5,g17)] R (OwS true 50 4 Ai.c g17 p16::F)) ?_ fun K20 =>?_
 ·intro g17
  refine x_blk (x_seq (c_reg (r_mv z (r_bin z z (bI_add _ 1) (r_as z (r_nil ?_))))))
  exact x_lp (p16,i64 (i_7+1),g17) hm19 ⟨z,z,z,z,y_⟩ id_
 refine c_if (b:=(x14.Key != a1)) z (fun h21 =>?_) fun h21 =>?_
 rotate_left
 ·have hm22:=iff_ hp18 h21
  refine c_skip ?_
  obtain rfl:=si hm22
  exact x_sub (K20 g8) ⟨z,z,z,z,y_⟩ id_
 have hm22:=ift hp18 h21
 refine c_reg (r_mv z (r_mv z (r_mv z ?_)))
 refine r_u (o_ix (sz:=4) underlying61 kr z z hv14 hi14) ?_
 refine r_u (o_ldnR (Ai.c x14) ag50 z hR14 he14 z) ?_
 refine r_sw (s_w (o_bsl (en:=Ai.c) (sz:=4) (e:=50) (cs:=[vS x14.Key,vS x14.Value,vW x14.Version,vW x14.End]) (r:=[x14]) z kr z (by decide) z (fun _=>z))) ?_
 rintro v23 R _ _ ⟨rfl,rfl⟩
 obtain ⟨l25,hl25,hm26⟩:=bs hm22
 refine rl_st (fun _ h=>mv1 h) ?_
 refine r_sw (s_w (o_ap (sz:=4) (bytes:=48) 0 underlying61 rfl rfl rfl rfl rfl (by decide) (by decide) (fun _ _ _ h=>by simp [Ai.c] at h;rcases h with rfl | rfl | rfl | rfl <;> rfl) (fun _=>rfl) rfl rfl rfl rfl (Nat.succ_pos _) hl25)) ?_
 rintro v24 R _ _ ⟨rfl,rfl⟩
 refine r_as z (r_nil ?_)
 obtain rfl:=si hm26
 exact x_sub (K20 v24) ⟨z,z,z,z,y_⟩ (pk 2 [0])
def Cy(a0:Ab)(a1:Str)(i_6:Int):Nat→Int→Option (Unit⊕(Unit⊕(Unit⊕(Int×Bool))))
 | 0,_=>none
 | k23+1,k_22=>(gi a0.L i_6).bind fun x28=>if decide (k_22<(x28.length:Int)) then (gi x28 k_22).bind fun x33=>if (x33==a1) then some (Sum.inr (Sum.inr (Sum.inr (i_6,true)))) else Cy a0 a1 i_6 k23 (i64 (k_22+1)) else some (Sum.inl ())
def B0(a0:Ab)(a1:Str):Nat→Int→Option (Unit⊕(Int×Bool))
 | 0,_=>none
 | k7+1,i_6=>if decide (i_6<(a0.L.length:Int)) then Option.bind (Option.bind (Cy a0 a1 i_6 1100 0) fun (p17:Unit⊕(Unit⊕(Unit⊕(Int×Bool))))=>(match p17 with | Sum.inl q18=>some (Sum.inl ()) | Sum.inr r=>some r)) fun (p12:Unit⊕(Unit⊕(Int×Bool)))=>(match p12 with | Sum.inl q13=>B0 a0 a1 k7 (i64 (i_6+1)) | Sum.inr r=>some r) else some (Sum.inl ())
def AP(a0:Ab)(a1:Str):Option (Int×Bool) :=
 Option.bind (B0 a0 a1 (((a0.L.length:Int)-0).toNat+1) 0) fun (p1:Unit⊕(Int×Bool))=>(match p1 with | Sum.inl q2=>some (0,false) | Sum.inr r=>some r)
theorem AP.ok{G R F}(a0:Ab)(g0_:Ab.G)(h0:Ab.ro R a0 g0_)(a1:Str)(r:Int×Bool)(hm:AP a0 a1=some r):CO prog 176 [.agg [g0_.L.1,vI a0.Places].toArray,vS a1] G R (F)
  (Ret fun u R' L'=>u = .tuple #[vI r.1,vB r.2]∧R'=R∧L'=F):=by
 unfold AP at hm
 refine co_ofN (N:=36) func176 z z ?_
 refine csr ?_
 refine r_new (o_bx [g0_.L.1,vI a0.Places] z z) fun b0 =>?_
 refine r_as z (r_as z (nssr (r_as z (nsq ?_))))
 obtain ⟨p1,hp3,hm4⟩:=bs hm
 refine cd_joinS (p:=p1) (Ef:=fun q2=>[]) (Lf:=fun q2=>Bk b0 64 [g0_.L.1,vI a0.Places]::F) (fun q2 hq =>?_) fun K5 =>?_
 ·subst hq
  try dsimp only at hm4
  refine x_seq (csr (r_as z (r_as z (r_nil (x_seq (c_ret ?_))))))
  obtain rfl:=si hm4
  refine ex_st (pk 1 []) ?_
  exact x_r2 z (rv_t z) (rv_t z) le_ ⟨_,z,z,z,z⟩
 refine c_blk ?_
 refine cd_loop (M:=fun k7 (i_6:Int)=>B0 a0 a1 k7 i_6=some p1) (Ef:=fun (i_6:Int)=>[(1,vS a1),(2,pt b0 0),(6,vI i_6)]) (Lf:=fun (i_6:Int)=>Bk b0 64 [g0_.L.1,vI a0.Places]::F) (((a0.L.length:Int)-0).toNat+1) 0 hp3 ⟨z,z,z,y_⟩ (fun _ h=>h) (fun _ h=>by cases h) fun k7 i_6 hM9 =>?_
 have hm8:B0 a0 a1 (k7+1) i_6=some p1:=hM9
 rw [B0] at hm8
 refine c_seq (csr (r_mv z (r_fa fa64_0 z (r_ld 0 sc62 z z z ?_))))
 refine r_u (o_lenRN underlying62 z h0) (r_bin z z (bI_lt _ _) (nsq ?_))
 refine c_if (b:=decide (i_6<(a0.L.length:Int))) z (fun h10 =>?_) fun h10 =>?_
 rotate_left
 ·have hm11:=iff_ hm8 h10
  refine c_exit (x_exit (ks':=_) z ?_)
  obtain rfl:=si hm11
  exact x_sub (K5 _ z) trivial id_
 have hm11:=ift hm8 h10
 refine c_skip (x_seq (c_seq ?_))
 obtain ⟨p12,hp14,hm15⟩:=bs hm11
 refine cd_joinS (p:=p12) (Ef:=fun q13=>[(1,vS a1),(2,pt b0 0),(6,vI i_6)]) (Lf:=fun q13=>Bk b0 64 [g0_.L.1,vI a0.Places]::F) (fun q13 hq =>?_) fun K16 =>?_
 ·subst hq
  try dsimp only at hm15
  refine x_seq (c_reg (r_mv z (r_bin z z (bI_add _ 1) (r_as z (r_nil ?_)))))
  exact x_lp (i64 (i_6+1)) hm15 ⟨z,z,z,y_⟩ id_
 refine c_blk (csr (r_as z (nsq ?_)))
 obtain ⟨p17,hp19,hm20⟩:=bs hp14
 refine cd_joinS (p:=p17) (Ef:=fun q18=>[(1,vS a1),(2,pt b0 0),(6,vI i_6)]) (Lf:=fun q18=>Bk b0 64 [g0_.L.1,vI a0.Places]::F) (fun q18 hq =>?_) fun K21 =>?_
 ·subst hq
  try dsimp only at hm20
  refine x_blk ?_
  obtain rfl:=si hm20
  exact x_sub (K16 _ z) ⟨z,z,z,y_⟩ id_
 refine c_blk ?_
 refine cd_loop (M:=fun k23 (k_22:Int)=>Cy a0 a1 i_6 k23 k_22=some p17) (Ef:=fun (k_22:Int)=>[(1,vS a1),(2,pt b0 0),(6,vI i_6),(7,vI k_22)]) (Lf:=fun (k_22:Int)=>Bk b0 64 [g0_.L.1,vI a0.Places]::F) 1100 0 hp19 ⟨z,z,z,z,y_⟩ (fun _ h=>h) (fun _ h=>by cases h) fun k23 k_22 hM27 =>?_
 have hm26:Cy a0 a1 i_6 (k23+1) k_22=some p17:=hM27
 rw [Cy] at hm26
 refine c_seq (csr (r_mv z (r_fa fa64_0 z (r_ld 0 sc62 z z z (r_mv z ?_)))))
 obtain ⟨x28,hx28,hm30⟩:=bs hm26
 obtain ⟨b28,o28,l28,T28,fr28,c28,u29,hv28,hR28,he28,hi28,hN28⟩:=RoN.ne h0 hx28
 refine r_u (o_ix (sz:=1) underlying62 kr z z hv28 hi28) ?_
 refine r_u (o_ldR sc98 z hR28 (rok 0 he28 (by decide))) ?_
 refine r_u (o_lenR underlying98 z hN28) (r_bin z z (bI_lt _ _) (nsq ?_))
 refine c_if (b:=decide (k_22<(x28.length:Int))) z (fun h31 =>?_) fun h31 =>?_
 rotate_left
 ·have hm32:=iff_ hm30 h31
  refine c_exit (x_exit (ks':=_) z ?_)
  obtain rfl:=si hm32
  exact x_sub (K21 _ z) ⟨z,z,z,y_⟩ id_
 have hm32:=ift hm30 h31
 refine c_skip (x_seq (c_seq (c_blk (csr (r_fa fa64_0 z (r_ld 0 sc62 z z z (r_mv z ?_)))))))
 refine r_u (o_ix (sz:=1) underlying62 kr z z hv28 hi28) ?_
 refine r_u (o_ldR sc98 z hR28 (rok 0 he28 (by decide))) (r_mv z ?_)
 obtain ⟨x33,hx33,hm34⟩:=bs hm32
 obtain ⟨b33,o33,l33,T33,fr33,c33,hv33,hR33,he33,hi33⟩:=RoS.ne hN28 hx33
 refine r_u (o_ix (sz:=1) underlying98 kr z z hv33 hi33) ?_
 refine r_u (o_ldR sc9 z hR33 (rok 0 he33 (by decide))) (r_mv z (r_bin z z (bS_eq _ a1) (nsq ?_)))
 refine c_if (b:=(x33==a1)) z (fun h35 =>?_) fun h35 =>?_
 ·have hm36:=ift hm34 h35
  refine csr (r_mv z (r_as z (r_as z (r_nil (x_seq (c_ret ?_))))))
  obtain rfl:=si hm36
  try dsimp only at hm20
  obtain rfl:=si hm20
  try dsimp only at hm15
  obtain rfl:=si hm15
  try dsimp only at hm4
  obtain rfl:=si hm4
  refine ex_st (pk 1 []) ?_
  exact x_r2 z (rv_t z) (rv_t z) le_ ⟨_,z,z,z,z⟩
 have hm36:=iff_ hm34 h35
 refine c_skip (x_blk (x_seq (c_reg (r_mv z (r_bin z z (bI_add _ 1) (r_as z (r_nil ?_)))))))
 exact x_lp (i64 (k_22+1)) hm36 ⟨z,z,z,z,y_⟩ id_
def BE(a0:Aa)(a1:Str):Option Bool :=
 (AP a0.R a1).bind fun r1=>some (r1.2&&decide (r1.1<2))
theorem BE.ok{G R F}(a0:Aa)(g0_:Aa.G)(h0:Aa.ro R a0 g0_)(a1:Str)(r:Bool)(hm:BE a0 a1=some r):CO prog 173 [.agg (Aa.k a0 g0_).toArray,vS a1] G R (F)
  (Ret fun u R' L'=>u=vB r∧R'=R∧L'=F):=by
 unfold BE at hm
 refine co_ofN (N:=19) func173 z z ?_
 refine csr ?_
 refine r_new (o_bx (Aa.k a0 g0_) z z) fun b0 =>?_
 refine r_as z (nsr (r_fa fa66_2 z ?_))
 refine r_u (o_ldn 0 [g0_.R.L.1,vI a0.R.Places] ag64 z z z z) (r_mv z ?_)
 obtain ⟨r1,hr1,hm2⟩:=bs hm
 refine r_u (o_callq ca176 z (AP.ok _ (⟨(g0_.R.L.1,[])⟩:Ab.G) h0 a1 _ hr1)) (r_mv z (r_ext z z (r_ext z z (r_as z (r_as z (nsr (r_mv z (r_mv z ?_))))))))
 refine r_s (s_gt z z fun g=>o_mv z) ?_
 refine r_s (s_gt z z fun g=>o_bin (evg z g) z (bI_lt _ 2)) ?_
 refine r_u (o_and z z) (r_as z (r_nil (x_seq (c_ret ?_))))
 obtain rfl:=si hm2
 refine ex_st (pk 1 []) ?_
 exact x_r1 z (rv_t z) le_ ⟨_,z,z,z,z⟩
def Cf(a0:Ab)(a1:Str)(i_12:Int):Nat→(List Str)→Int→Option (List Str)
 | 0,_,_=>none
 | k37+1,l_34,k_35=>(gi a0.L i_12).bind fun x42=>if decide (k_35<(x42.length:Int)) then (gi x42 k_35).bind fun x47=>Option.bind (if (x47 != a1) then (apd 16 l_34 [x47]).bind fun l58=>some l58 else some l_34) fun p49=>Cf a0 a1 i_12 k37 p49 (i64 (k_35+1)) else some l_34
def Cg(a0:Ab)(a1:Str):Nat→Int→(List (List Str))→Option (List (List Str))
 | 0,_,_=>none
 | k15+1,i_12,c_13=>if decide (i_12<(a0.L.length:Int)) then Option.bind (Option.bind (Cf a0 a1 i_12 1100 [] 0) fun p26=>(gi c_13 i_12).bind fun y31=>some (ls c_13 i_12 p26)) fun p20=>Cg a0 a1 k15 (i64 (i_12+1)) p20 else some c_13
def AG(a0:Ab)(a1:Str):Option Ab :=
 (BC (a0.L.length:Int) a0.Places).bind fun r2=>Option.bind (Cg a0 a1 (((a0.L.length:Int)-0).toNat+1) 0 r2.L) fun p7=>some (⟨p7,r2.Places⟩:Ab)
theorem AG.ok{G R F}(a0:Ab)(g0_:Ab.G)(h0:Ab.ro R a0 g0_)(a1:Str)(r:Ab)(hm:AG a0 a1=some r):CO prog 174 [.agg [g0_.L.1,vI a0.Places].toArray,vS a1] G R (F)
  (Ret fun u R' L'=>∃(p0:Ab.G),u = .agg [p0.L.1,vI r.Places].toArray∧R'=R∧L'=OwS true 98 1 eV p0.L.1 p0.L.2::OwL (OwS true 9 1 eS) p0.L.2 r.L::F):=by
 unfold AG at hm
 refine co_ofN (N:=60) func174 z z ?_
 refine csr ?_
 refine r_new (o_bx [g0_.L.1,vI a0.Places] z z) fun b0 =>?_
 refine r_new (o_al ze64) fun b1 =>?_
 refine nsr (r_fa fa64_0 z (r_ld 1 sc62 z z z ?_))
 refine r_u (o_lenRN underlying62 z h0) (r_fa fa64_1 z (r_ld 1 sc3 z z z ?_))
 obtain ⟨r2,hr2,hm5⟩:=bs hm
 refine r_sw (s_w (o_call ca131 z (BC.ok _ _ _ hr2))) ?_
 rintro _ R _ _ ⟨v3,rfl,rfl,rfl⟩
 refine r_new (o_al ze64) fun b6 =>?_
 refine r_u0 (ou_if (one_o 1 z) fun ho0=>o_stn ag64 z z z (a_ ho0 (a_ z al_n)) z z z) ?_
 refine nssr (r_as z (nsq ?_))
 obtain ⟨p7,hp9,hm10⟩:=bs hm5
 refine cd_cut (fun x ks=>∀(hs8:List Value),EX x .normal ks [(4,pt b1 0),(5,pt b6 0)] R (Bk b6 64 [v3.L.1,vI r2.Places]::Bk b1 64 [.slice none 0 0,vI 0]::Bk b0 64 [g0_.L.1,vI a0.Places]::OwS true 98 1 eV v3.L.1 hs8::OwL (OwS true 9 1 eS) hs8 p7::F)) ?_ fun K11 =>?_
 ·intro hs8
  refine x_seq (csr ?_)
  refine r_u (o_ldn 0 [v3.L.1,vI r2.Places] ag64 z z z z) ?_
  refine rl_st (fun _ h=>mv2 (mv3 h)) ?_
  refine r_u0 (ou_if (one_o 1 z) fun ho0=>o_stn ag64 z z z (a_ ho0 (a_ z al_n)) z z z) ?_
  refine r_nil (x_seq (c_ret ?_))
  obtain rfl:=si hm10
  exact x_d1 z (rv_n 0 [v3.L.1,vI r2.Places] ag64 z z z z) (pk 5 [1,4]) le_ ⟨_,z,(⟨(v3.L.1,hs8)⟩:Ab.G),z,z,z⟩
 refine c_blk ?_
 refine cd_loopG (M:=fun k15 (s:Int×List (List Str)×List Value)=>Cg a0 a1 k15 s.1 s.2.1=some p7) (Ef:=fun (s:Int×List (List Str)×List Value)=>[(1,vS a1),(2,pt b0 0),(4,pt b1 0),(5,pt b6 0),(6,vI s.1)]) (Rf:=fun (s:Int×List (List Str)×List Value)=>R) (Lf:=fun (s:Int×List (List Str)×List Value)=>Bk b6 64 [v3.L.1,vI r2.Places]::Bk b1 64 [.slice none 0 0,vI 0]::Bk b0 64 [g0_.L.1,vI a0.Places]::OwS true 98 1 eV v3.L.1 s.2.2::OwL (OwS true 9 1 eS) s.2.2 s.2.1::F) (((a0.L.length:Int)-0).toNat+1) (0,r2.L,v3.L.2) hp9 ⟨z,z,z,z,z,y_⟩ (pk 5 [0,3,4,1,2]) (fun _ h=>by cases h) fun k15 s hM17 =>?_
 obtain ⟨i_12,c_13,hs14⟩:=s
 have hm16:Cg a0 a1 (k15+1) i_12 c_13=some p7:=hM17
 rw [Cg] at hm16
 refine c_seq (csr (r_mv z (r_fa fa64_0 z (r_ld 2 sc62 z z z ?_))))
 refine r_u (o_lenRN underlying62 z h0) (r_bin z z (bI_lt _ _) (nsq ?_))
 refine c_if (b:=decide (i_12<(a0.L.length:Int))) z (fun h18 =>?_) fun h18 =>?_
 rotate_left
 ·have hm19:=iff_ hm16 h18
  refine c_exit (x_exit (ks':=_) z ?_)
  obtain rfl:=si hm19
  exact x_sub (K11 hs14) ⟨z,z,y_⟩ id_
 have hm19:=ift hm16 h18
 refine c_skip (x_seq (c_seq ?_))
 obtain ⟨p20,hp22,hm23⟩:=bs hm19
 refine cd_cut (fun x ks=>∀(hs21:List Value),EX x .normal ks [(1,vS a1),(2,pt b0 0),(4,pt b1 0),(5,pt b6 0),(6,vI i_12)] R (Bk b6 64 [v3.L.1,vI r2.Places]::Bk b1 64 [.slice none 0 0,vI 0]::Bk b0 64 [g0_.L.1,vI a0.Places]::OwS true 98 1 eV v3.L.1 hs21::OwL (OwS true 9 1 eS) hs21 p20::F)) ?_ fun K24 =>?_
 ·intro hs21
  refine x_seq (c_reg (r_mv z (r_bin z z (bI_add _ 1) (r_as z (r_nil ?_)))))
  exact x_lp (i64 (i_12+1),p20,hs21) hm23 ⟨z,z,z,z,z,y_⟩ id_
 refine c_blk (csr ?_)
 refine r_sw (s_w (o_bsl (en:=eS) (sz:=1) (e:=9) (cs:=[]) (r:=[]) z kr z (by decide) z (fun _=>z))) ?_
 rintro v25 R _ _ ⟨rfl,rfl⟩
 refine r_as z (nssr (r_as z (nsq ?_)))
 obtain ⟨p26,hp28,hm29⟩:=bs hp22
 refine cd_cut (fun x ks=>∀(g27:Value),EX x .normal ks [(1,vS a1),(2,pt b0 0),(4,pt b1 0),(5,pt b6 0),(6,vI i_12),(7,g27)] R (Bk b6 64 [v3.L.1,vI r2.Places]::Bk b1 64 [.slice none 0 0,vI 0]::Bk b0 64 [g0_.L.1,vI a0.Places]::OwS true 98 1 eV v3.L.1 hs14::OwL (OwS true 9 1 eS) hs14 c_13::OwS true 9 1 eS g27 p26::F)) ?_ fun K30 =>?_
 ·intro g27
  refine x_seq (c_reg (r_fa fa64_0 z (r_ld 0 sc62 z z z (r_mv z (r_mv z ?_)))))
  obtain ⟨y31,hy31,hm33⟩:=bs hm29
  refine rl_ex (fun w h=>st_peek 4 hy31 z w h) fun u32 hu32 =>?_
  refine r_u (o_ixO 3 underlying62 kr z z z hu32) ?_
  refine rl_st (fun _ h=>mv5 (mv5 (mv5 h))) ?_
  refine r_u0 (ou_if (one_o 2 z) fun ho=>o_stH hy31 hu32 sc98 z z z ho) ?_
  refine r_nil (x_blk ?_)
  obtain rfl:=si hm33
  exact x_sub (K24 (ls hs14 i_12 g27)) ⟨z,z,z,z,z,y_⟩ (pk 5 [2,3,4,0,1])
 refine c_blk ?_
 refine cd_loopG (M:=fun k37 (s:List Str×Int×Value)=>Cf a0 a1 i_12 k37 s.1 s.2.1=some p26) (Ef:=fun (s:List Str×Int×Value)=>[(1,vS a1),(2,pt b0 0),(4,pt b1 0),(5,pt b6 0),(6,vI i_12),(7,s.2.2),(8,vI s.2.1)]) (Rf:=fun (s:List Str×Int×Value)=>R) (Lf:=fun (s:List Str×Int×Value)=>Bk b6 64 [v3.L.1,vI r2.Places]::Bk b1 64 [.slice none 0 0,vI 0]::Bk b0 64 [g0_.L.1,vI a0.Places]::OwS true 98 1 eV v3.L.1 hs14::OwL (OwS true 9 1 eS) hs14 c_13::OwS true 9 1 eS s.2.2 s.1::F) 1100 ([],0,v25) hp28 ⟨z,z,z,z,z,z,z,y_⟩ (pk 6 [1,2,3,4,5,0]) (fun _ h=>by cases h) fun k37 s hM41 =>?_
 obtain ⟨l_34,k_35,g36⟩:=s
 have hm40:Cf a0 a1 i_12 (k37+1) l_34 k_35=some p26:=hM41
 rw [Cf] at hm40
 refine c_seq (csr (r_mv z (r_fa fa64_0 z (r_ld 2 sc62 z z z (r_mv z ?_)))))
 obtain ⟨x42,hx42,hm44⟩:=bs hm40
 obtain ⟨b42,o42,l42,T42,fr42,c42,u43,hv42,hR42,he42,hi42,hN42⟩:=RoN.ne h0 hx42
 refine r_u (o_ix (sz:=1) underlying62 kr z z hv42 hi42) ?_
 refine r_u (o_ldR sc98 z hR42 (rok 0 he42 (by decide))) ?_
 refine r_u (o_lenR underlying98 z hN42) (r_bin z z (bI_lt _ _) (nsq ?_))
 refine c_if (b:=decide (k_35<(x42.length:Int))) z (fun h45 =>?_) fun h45 =>?_
 rotate_left
 ·have hm46:=iff_ hm44 h45
  refine c_exit (x_exit (ks':=_) z ?_)
  obtain rfl:=si hm46
  exact x_sub (K30 g36) ⟨z,z,z,z,z,z,y_⟩ id_
 have hm46:=ift hm44 h45
 refine c_skip (x_seq (c_seq (c_blk (csr (r_fa fa64_0 z (r_ld 2 sc62 z z z (r_mv z ?_)))))))
 refine r_u (o_ix (sz:=1) underlying62 kr z z hv42 hi42) ?_
 refine r_u (o_ldR sc98 z hR42 (rok 0 he42 (by decide))) (r_mv z ?_)
 obtain ⟨x47,hx47,hm48⟩:=bs hm46
 obtain ⟨b47,o47,l47,T47,fr47,c47,hv47,hR47,he47,hi47⟩:=RoS.ne hN42 hx47
 refine r_u (o_ix (sz:=1) underlying98 kr z z hv47 hi47) ?_
 refine r_u (o_ldR sc9 z hR47 (rok 0 he47 (by decide))) (r_mv z (r_bin z z (bS_ne _ a1) (nsq ?_)))
 obtain ⟨p49,hp51,hm52⟩:=bs hm48
 refine cd_cut (fun x ks=>∀(g50:Value),EX x .normal ks [(1,vS a1),(2,pt b0 0),(4,pt b1 0),(5,pt b6 0),(6,vI i_12),(8,vI k_35),(7,g50)] R (Bk b6 64 [v3.L.1,vI r2.Places]::Bk b1 64 [.slice none 0 0,vI 0]::Bk b0 64 [g0_.L.1,vI a0.Places]::OwS true 98 1 eV v3.L.1 hs14::OwL (OwS true 9 1 eS) hs14 c_13::OwS true 9 1 eS g50 p49::F)) ?_ fun K53 =>?_
 ·intro g50
  refine x_blk (x_seq (c_reg (r_mv z (r_bin z z (bI_add _ 1) (r_as z (r_nil ?_))))))
  exact x_lp (p49,i64 (k_35+1),g50) hm52 ⟨z,z,z,z,z,z,z,y_⟩ id_
 refine c_if (b:=(x47 != a1)) z (fun h54 =>?_) fun h54 =>?_
 rotate_left
 ·have hm55:=iff_ hp51 h54
  refine c_skip ?_
  obtain rfl:=si hm55
  exact x_sub (K53 g36) ⟨z,z,z,z,z,z,z,y_⟩ id_
 have hm55:=ift hp51 h54
 refine c_reg (r_mv z (r_fa fa64_0 z (r_ld 2 sc62 z z z (r_mv z ?_))))
 refine r_u (o_ix (sz:=1) underlying62 kr z z hv42 hi42) ?_
 refine r_u (o_ldR sc98 z hR42 (rok 0 he42 (by decide))) (r_mv z ?_)
 refine r_u (o_ix (sz:=1) underlying98 kr z z hv47 hi47) ?_
 refine r_u (o_ldR sc9 z hR47 (rok 0 he47 (by decide))) ?_
 refine r_sw (s_w (o_bsl (en:=eS) (sz:=1) (e:=9) (cs:=[vS x47]) (r:=[x47]) z kr z (by decide) z (fun _=>z))) ?_
 rintro v56 R _ _ ⟨rfl,rfl⟩
 obtain ⟨l58,hl58,hm59⟩:=bs hm55
 refine rl_st (fun _ h=>mv6 h) ?_
 refine r_sw (s_w (o_ap (sz:=1) (bytes:=16) 0 underlying98 z z z z z (by decide) (by decide) (fun _ _ _ h=>by simp at h;subst h;rfl) (fun _=>z) z z z z (Nat.succ_pos _) hl58)) ?_
 rintro v57 R _ _ ⟨rfl,rfl⟩
 refine r_as z (r_nil ?_)
 obtain rfl:=si hm59
 exact x_sub (K53 v57) ⟨z,z,z,z,z,z,z,y_⟩ (pk 7 [2,3,4,5,6,0])
def CM(a0:Aa)(a1:Str):Option (Aa×Bool) :=
 (BE a0 a1).bind fun r2=>(AG a0.R a1).bind fun r4=>some ((⟨a0.Most,a0.Target,r4⟩:Aa),r2)
theorem CM.ok{G R F}(a0:Aa)(g0_:Aa.G)(h0:Aa.ro R a0 g0_)(a1:Str)(r:Aa×Bool)(hm:CM a0 a1=some r):CO prog 134 [.agg (Aa.k a0 g0_).toArray,vS a1] G R (F)
  (Ret fun u R' L'=>∃(p0:Aa.G),u = .tuple #[.agg (Aa.k r.1 p0).toArray,vB r.2]∧R'=R∧L'=OwS true 98 1 eV p0.R.L.1 p0.R.L.2::OwL (OwS true 9 1 eS) p0.R.L.2 r.1.R.L::F):=by
 unfold CM at hm
 refine co_ofN (N:=17) func134 z z ?_
 refine csr ?_
 refine r_new (o_bx (Aa.k a0 g0_) z z) fun b0 =>?_
 refine r_new (o_al ze66) fun b1 =>?_
 refine r_as z (nsr ?_)
 refine r_u (o_ldn 1 (Aa.k a0 g0_) ag66 z z z z) (r_mv z ?_)
 obtain ⟨r2,hr2,hm3⟩:=bs hm
 refine r_u (o_callq ca173 z (BE.ok a0 (⟨(⟨(g0_.R.L.1,[])⟩:Ab.G)⟩:Aa.G) h0 a1 _ hr2)) (r_as z (nsr (r_fa fa66_2 z ?_)))
 refine r_u (o_ldn 1 [g0_.R.L.1,vI a0.R.Places] ag64 z z z z) (r_mv z ?_)
 obtain ⟨r4,hr4,hm7⟩:=bs hm3
 refine r_sw (s_w (o_call ca174 z (AG.ok _ (⟨(g0_.R.L.1,[])⟩:Ab.G) h0 a1 _ hr4))) ?_
 rintro _ R _ _ ⟨v5,rfl,rfl,rfl⟩
 refine r_fa fa66_2 z ?_
 refine rl_st (fun _ h=>mv3 h) ?_
 refine r_u0 (ou_if (one_o 1 z) fun ho0=>o_stn ag64 z z z (a_ ho0 (a_ z al_n)) z z z) ?_
 refine nsr ?_
 refine r_u (o_ldn 0 [vI a0.Most,vI a0.Target,v5.L.1,vI r4.Places] ag66 z z z z) (r_mv z ?_)
 refine rl_st (fun _ h=>mv3 (mv1 h)) ?_
 refine r_u0 (ou_if (one_o 1 z) fun ho0=>o_stn ag66 z z z (a_ z (a_ z (a_ ho0 (a_ z al_n)))) z z z) ?_
 refine r_as z (r_nil (x_seq (c_ret ?_)))
 obtain rfl:=si hm7
 exact x_d2 z (rv_n 0 [vI a0.Most,vI a0.Target,v5.L.1,vI r4.Places] ag66 z z z z) (rv_t z) (pk 4 [1,3]) le_ ⟨_,z,(⟨v5⟩:Aa.G),z,z,z⟩
def B8(a0:Ae)(a1:Str):Option Bool :=
 (AP a0.R a1).bind fun r1=>some r1.2
theorem B8.ok{G R F}(a0:Ae)(g0_:Ae.G)(h0:Ae.ro R a0 g0_)(a1:Str)(r:Bool)(hm:B8 a0 a1=some r):CO prog 138 [.agg (Ae.k a0 g0_).toArray,vS a1] G R (F)
  (Ret fun u R' L'=>u=vB r∧R'=R∧L'=F):=by
 unfold B8 at hm
 refine co_ofN (N:=15) func138 z z ?_
 refine csr ?_
 refine r_new (o_bx (Ae.k a0 g0_) z z) fun b0 =>?_
 refine r_as z (nsr (r_fa fa72_2 z ?_))
 refine r_u (o_ldn 0 [g0_.R.L.1,vI a0.R.Places] ag64 z z z z) (r_mv z ?_)
 obtain ⟨r1,hr1,hm2⟩:=bs hm
 refine r_u (o_callq ca176 z (AP.ok _ (⟨(g0_.R.L.1,[])⟩:Ab.G) h0.2 a1 _ hr1)) (r_mv z (r_ext z z (r_ext z z (r_as z (r_as z (nsr (r_mv z (r_as z (r_nil (x_seq (c_ret ?_)))))))))))
 obtain rfl:=si hm2
 refine ex_st (pk 1 []) ?_
 exact x_r1 z (rv_t z) le_ ⟨_,z,z,z,z⟩
def Cz(a0:Ae)(a1:Str):Option (Ae×Bool) :=
 (B8 a0 a1).bind fun r2=>(AG a0.R a1).bind fun r4=>some ((⟨a0.Most,a0.S,r4⟩:Ae),r2)
theorem Cz.ok{G R F}(a0:Ae)(g0_:Ae.G)(h0:Ae.ro R a0 g0_)(a1:Str)(r:Ae×Bool)(hm:Cz a0 a1=some r):CO prog 135 [.agg (Ae.k a0 g0_).toArray,vS a1] G R (F)
  (Ret fun u R' L'=>∃(p0:Ae.G),u = .tuple #[.agg (Ae.k r.1 p0).toArray,vB r.2]∧(Ae.ro R' r.1 p0)∧L'=F):=by
 unfold Cz at hm
 refine co_ofN (N:=17) func135 z z ?_
 refine csr ?_
 refine r_new (o_bx (Ae.k a0 g0_) z z) fun b0 =>?_
 refine r_new (o_al ze72) fun b1 =>?_
 refine r_as z (nsr ?_)
 refine r_u (o_ldn 1 (Ae.k a0 g0_) ag72 z z z z) (r_mv z ?_)
 obtain ⟨r2,hr2,hm3⟩:=bs hm
 refine r_u (o_callq ca138 z (B8.ok a0 (⟨(⟨(g0_.S.Rows.1,[]),g0_.S.Door⟩:Ad.G),(⟨(g0_.R.L.1,[])⟩:Ab.G)⟩:Ae.G) ⟨⟨h0.1.1,h0.1.2⟩,h0.2⟩ a1 _ hr2)) (r_as z (nsr (r_fa fa72_2 z ?_)))
 refine r_u (o_ldn 1 [g0_.R.L.1,vI a0.R.Places] ag64 z z z z) (r_mv z ?_)
 obtain ⟨r4,hr4,hm7⟩:=bs hm3
 refine r_sw (s_w (o_call ca174 z (AG.ok _ (⟨(g0_.R.L.1,[])⟩:Ab.G) h0.2 a1 _ hr4))) ?_
 rintro _ R _ _ ⟨v5,rfl,rfl,rfl⟩
 refine r_fa fa72_2 z ?_
 refine rl_st (fun _ h=>mv3 h) ?_
 refine r_u0 (ou_if (one_o 1 z) fun ho0=>o_stn ag64 z z z (a_ ho0 (a_ z al_n)) z z z) ?_
 refine nsr ?_
 refine r_u (o_ldn 0 [vI a0.Most,vI a0.S.Wide,vW a0.S.Seed,g0_.S.Rows.1,g0_.S.Door,vI a0.S.Added,v5.L.1,vI r4.Places] ag72 z z z z) (r_mv z ?_)
 refine rl_st (fun _ h=>mv3 (mv1 h)) ?_
 refine r_u0 (ou_if (one_o 1 z) fun ho0=>o_stn ag72 z z z (a_ z (a_ z (a_ z (a_ (RoN.one h0.1.1) (a_ (RoS.one h0.1.2) (a_ z (a_ ho0 (a_ z al_n)))))))) z z z) ?_
 refine r_as z (r_nil (x_seq (c_ret ?_)))
 refine ex_st (fun _ h=>mv2 (mv3 h)) ?_
 refine ex_ex (fun w h=>st_freezeN w h) fun R8 hf11 =>?_
 obtain ⟨le9,h10⟩:=hf11
 obtain rfl:=si hm7
 exact x_d2 z (rv_n 0 [vI a0.Most,vI a0.S.Wide,vW a0.S.Seed,g0_.S.Rows.1,g0_.S.Door,vI a0.S.Added,v5.L.1,vI r4.Places] ag72 z z z z) (rv_t z) (pk 2 []) le9 ⟨_,z,(⟨(⟨(g0_.S.Rows.1,[]),g0_.S.Door⟩:Ad.G),(⟨(v5.L.1,[])⟩:Ab.G)⟩:Ae.G),z,⟨⟨(RoN.mono le9 h0.1.1),(RoS.mono le9 h0.1.2)⟩,h10⟩,z⟩
def BN(a0:Af)(a1:Str):Option (Af×Bool) :=
 if (a0.Kind==1) then (CM a0.A a1).bind fun r4=>some ((⟨a0.Kind,r4.1,a0.T⟩:Af),r4.2) else (Cz a0.T a1).bind fun r13=>some ((⟨a0.Kind,a0.A,r13.1⟩:Af),r13.2)
theorem BN.ok{G R F}(a0:Af)(g0_:Af.G)(h0:Af.ro R a0 g0_)(a1:Str)(r:Af×Bool)(hm:BN a0 a1=some r):CO prog 80 [.agg (Af.k a0 g0_).toArray,vS a1] G R (F)
  (Ret fun u R' L'=>∃(p0:Af.G),u = .tuple #[.agg (Af.k r.1 p0).toArray,vB r.2]∧(Af.ro R' r.1 p0)∧L'=F):=by
 unfold BN at hm
 refine co_ofN (N:=28) func80 z z ?_
 refine csr ?_
 refine r_new (o_bx (Af.k a0 g0_) z z) fun b0 =>?_
 refine r_new (o_al ze74) fun b1 =>?_
 refine r_as z (nsr (r_as z (nssr (r_fa fa74_0 z (r_ld 1 sc3 z z z (r_bin z z (bI_eq _ 1) (nsq ?_)))))))
 refine c_if (b:=(a0.Kind==1)) z (fun h2 =>?_) fun h2 =>?_
 ·have hm3:=ift hm h2
  refine c_reg (r_fa fa74_1 z ?_)
  refine r_u (o_ldn 1 (Aa.k a0.A g0_.A) ag66 z z z z) (r_mv z ?_)
  obtain ⟨r4,hr4,hm8⟩:=bs hm3
  refine r_sw (s_w (o_call ca134 z (CM.ok _ (⟨(⟨(g0_.A.R.L.1,[])⟩:Ab.G)⟩:Aa.G) h0.1 a1 _ hr4))) ?_
  rintro _ R _ _ ⟨v5,rfl,rfl,rfl⟩
  refine r_mv z (r_ext z z (r_ext z z (r_fa fa74_1 z ?_)))
  refine rl_st (fun _ h=>mv3 h) ?_
  refine r_u0 (ou_if (one_o 1 z) fun ho0=>o_stn ag66 z z z (a_ z (a_ z (a_ ho0 (a_ z al_n)))) z z z) ?_
  refine r_as z (nsr ?_)
  refine r_u (o_ldn 0 [vI a0.Kind,vI r4.1.Most,vI r4.1.Target,v5.R.L.1,vI r4.1.R.Places,vI a0.T.Most,vI a0.T.S.Wide,vW a0.T.S.Seed,g0_.T.S.Rows.1,g0_.T.S.Door,vI a0.T.S.Added,g0_.T.R.L.1,vI a0.T.R.Places] ag74 z z z z) (r_mv z ?_)
  refine rl_st (fun _ h=>mv3 (mv1 h)) ?_
  refine r_u0 (ou_if (one_o 1 z) fun ho0=>o_stn ag74 z z z (a_ z (a_ z (a_ z (a_ ho0 (a_ z (a_ z (a_ z (a_ z (a_ (RoN.one h0.2.1.1) (a_ (RoS.one h0.2.1.2) (a_ z (a_ (RoN.one h0.2.2) (a_ z al_n))))))))))))) z z z) ?_
  refine r_as z (r_nil (x_seq (c_ret ?_)))
  refine ex_st (fun _ h=>mv2 (mv3 h)) ?_
  refine ex_ex (fun w h=>st_freezeN w h) fun R9 hf12 =>?_
  obtain ⟨le10,h11⟩:=hf12
  obtain rfl:=si hm8
  exact x_d2 z (rv_n 0 [vI a0.Kind,vI r4.1.Most,vI r4.1.Target,v5.R.L.1,vI r4.1.R.Places,vI a0.T.Most,vI a0.T.S.Wide,vW a0.T.S.Seed,g0_.T.S.Rows.1,g0_.T.S.Door,vI a0.T.S.Added,g0_.T.R.L.1,vI a0.T.R.Places] ag74 z z z z) (rv_t z) (pk 2 []) le10 ⟨_,z,(⟨(⟨(⟨(v5.R.L.1,[])⟩:Ab.G)⟩:Aa.G),(⟨(⟨(g0_.T.S.Rows.1,[]),g0_.T.S.Door⟩:Ad.G),(⟨(g0_.T.R.L.1,[])⟩:Ab.G)⟩:Ae.G)⟩:Af.G),z,⟨h11,⟨⟨(RoN.mono le10 h0.2.1.1),(RoS.mono le10 h0.2.1.2)⟩,(RoN.mono le10 h0.2.2)⟩⟩,z⟩
 have hm3:=iff_ hm h2
 refine c_reg (r_fa fa74_2 z ?_)
 refine r_u (o_ldn 1 (Ae.k a0.T g0_.T) ag72 z z z z) (r_mv z ?_)
 obtain ⟨r13,hr13,hm23⟩:=bs hm3
 refine r_sw (s_w (o_call ca135 z (Cz.ok _ (⟨(⟨(g0_.T.S.Rows.1,[]),g0_.T.S.Door⟩:Ad.G),(⟨(g0_.T.R.L.1,[])⟩:Ab.G)⟩:Ae.G) ⟨⟨h0.2.1.1,h0.2.1.2⟩,h0.2.2⟩ a1 _ hr13))) ?_
 rintro _ R21 _ le22 ⟨v14,rfl,hf15,rfl⟩
 refine r_mv z (r_ext z z (r_ext z z (r_fa fa74_2 z ?_)))
 refine rl_st (fun _ h=>mv1 h) ?_
 refine r_u0 (o_stn ag72 z z z (a_ z (a_ z (a_ z (a_ (RoN.one hf15.1.1) (a_ (RoS.one hf15.1.2) (a_ z (a_ (RoN.one hf15.2) (a_ z al_n)))))))) z z z) (r_as z (nsr ?_))
 refine r_u (o_ldn 0 [vI a0.Kind,vI a0.A.Most,vI a0.A.Target,g0_.A.R.L.1,vI a0.A.R.Places,vI r13.1.Most,vI r13.1.S.Wide,vW r13.1.S.Seed,v14.S.Rows.1,v14.S.Door,vI r13.1.S.Added,v14.R.L.1,vI r13.1.R.Places] ag74 z z z z) (r_mv z ?_)
 refine rl_st (fun _ h=>mv1 h) ?_
 refine r_u0 (o_stn ag74 z z z (a_ z (a_ z (a_ z (a_ (RoN.one (RoN.mono le22 h0.1)) (a_ z (a_ z (a_ z (a_ z (a_ (RoN.one hf15.1.1) (a_ (RoS.one hf15.1.2) (a_ z (a_ (RoN.one hf15.2) (a_ z al_n))))))))))))) z z z) (r_as z (r_nil (x_seq (c_ret ?_))))
 obtain rfl:=si hm23
 exact x_d2 z (rv_n 0 [vI a0.Kind,vI a0.A.Most,vI a0.A.Target,g0_.A.R.L.1,vI a0.A.R.Places,vI r13.1.Most,vI r13.1.S.Wide,vW r13.1.S.Seed,v14.S.Rows.1,v14.S.Door,vI r13.1.S.Added,v14.R.L.1,vI r13.1.R.Places] ag74 z z z z) (rv_t z) (pk 2 []) le22 ⟨_,z,(⟨(⟨(⟨(g0_.A.R.L.1,[])⟩:Ab.G)⟩:Aa.G),(⟨(⟨(v14.S.Rows.1,[]),v14.S.Door⟩:Ad.G),(⟨(v14.R.L.1,[])⟩:Ab.G)⟩:Ae.G)⟩:Af.G),z,⟨(RoN.mono le22 h0.1),⟨⟨hf15.1.1,hf15.1.2⟩,hf15.2⟩⟩,z⟩
def Bs(a0:Ac)(a1:Str):Option Ac :=
 (A3 a0.T a1).bind fun r2=>(BN a0.P a1).bind fun r5=>some (⟨a0.C,r2,r5.1,a0.Sessions,a0.Seq,a0.Now,a0.Ver,a0.Asked,a0.Hits⟩:Ac)
theorem Bs.ok{G R F}(a0:Ac)(g0_:Ac.G)(h0:Ac.ro R a0 g0_)(a1:Str)(r:Ac)(hm:Bs a0 a1=some r):CO prog 45 [.agg (Ac.k a0 g0_).toArray,vS a1] G R (F)
  (Ret fun u R' L'=>∃(p0:Ac.G),u = .agg (Ac.k r p0).toArray∧(Ac.ro R' r p0)∧L'=F):=by
 unfold Bs at hm
 refine co_ofN (N:=19) func45 z z ?_
 refine csr ?_
 refine r_new (o_bx (Ac.k a0 g0_) z z) fun b0 =>?_
 refine r_new (o_al ze77) fun b1 =>?_
 refine nsr (r_fa fa77_1 z (r_ld 1 sc61 z z z (r_mv z ?_)))
 obtain ⟨r2,hr2,hm4⟩:=bs hm
 refine r_sw (s_w (o_call ca79 z (A3.ok g0_.T _ h0.1 a1 _ hr2))) ?_
 rintro v3 R _ _ ⟨_,rfl,rfl,rfl⟩
 refine r_fa fa77_1 z ?_
 refine rl_st (fun _ h=>mv2 h) ?_
 refine r_u0 (ou_if (one_o 1 z) fun ho0=>o_st sc61 z z z ho0 z z) ?_
 refine nsr (r_fa fa77_2 z ?_)
 refine r_u (o_ldn 0 (Af.k a0.P g0_.P) ag74 z z z z) (r_mv z ?_)
 obtain ⟨r5,hr5,hm19⟩:=bs hm4
 refine r_sw (s_w (o_call ca80 z (BN.ok _ (⟨(⟨(⟨(g0_.P.A.R.L.1,[])⟩:Ab.G)⟩:Aa.G),(⟨(⟨(g0_.P.T.S.Rows.1,[]),g0_.P.T.S.Door⟩:Ad.G),(⟨(g0_.P.T.R.L.1,[])⟩:Ab.G)⟩:Ae.G)⟩:Af.G) ⟨h0.2.1.1,⟨⟨h0.2.1.2.1.1,h0.2.1.2.1.2⟩,h0.2.1.2.2⟩⟩ a1 _ hr5))) ?_
 rintro _ R17 _ le18 ⟨v6,rfl,hf7,rfl⟩
 refine r_mv z (r_ext z z (r_ext z z (r_fa fa77_2 z ?_)))
 refine r_u0 (o_stn ag74 z z z (a_ z (a_ z (a_ z (a_ (RoN.one hf7.1) (a_ z (a_ z (a_ z (a_ z (a_ (RoN.one hf7.2.1.1) (a_ (RoS.one hf7.2.1.2) (a_ z (a_ (RoN.one hf7.2.2) (a_ z al_n))))))))))))) z z z) (nsr ?_)
 refine r_u (o_ldn 0 [vI a0.C.Policy,vI a0.C.Entries,vI a0.C.Bytes,vW a0.C.Seed,v3,vI r5.1.Kind,vI r5.1.A.Most,vI r5.1.A.Target,v6.A.R.L.1,vI r5.1.A.R.Places,vI r5.1.T.Most,vI r5.1.T.S.Wide,vW r5.1.T.S.Seed,v6.T.S.Rows.1,v6.T.S.Door,vI r5.1.T.S.Added,v6.T.R.L.1,vI r5.1.T.R.Places,g0_.Sessions,vW a0.Seq,vW a0.Now,vW a0.Ver,vI a0.Asked,vI a0.Hits] ag77 z z z z) ?_
 refine rl_st (fun _ h=>mv2 (mv1 h)) ?_
 refine r_u0 (ou_if (one_o 1 z) fun ho0=>o_stn ag77 z z z (a_ z (a_ z (a_ z (a_ z (a_ ho0 (a_ z (a_ z (a_ z (a_ (RoN.one hf7.1) (a_ z (a_ z (a_ z (a_ z (a_ (RoN.one hf7.2.1.1) (a_ (RoS.one hf7.2.1.2) (a_ z (a_ (RoN.one hf7.2.2) (a_ z (a_ (RoS.one (RoS.mono le18 h0.2.2)) (a_ z (a_ z (a_ z (a_ z (a_ z al_n)))))))))))))))))))))))) z z z) ?_
 refine r_nil (x_seq (c_ret ?_))
 refine ex_st (fun _ h=>mv1 h) ?_
 refine ex_ex (fun w h=>st_freeze w h) fun R20 hf23 =>?_
 obtain ⟨le21,h22⟩:=hf23
 obtain rfl:=si hm19
 exact x_d1 z (rv_n 0 [vI a0.C.Policy,vI a0.C.Entries,vI a0.C.Bytes,vW a0.C.Seed,v3,vI r5.1.Kind,vI r5.1.A.Most,vI r5.1.A.Target,v6.A.R.L.1,vI r5.1.A.R.Places,vI r5.1.T.Most,vI r5.1.T.S.Wide,vW r5.1.T.S.Seed,v6.T.S.Rows.1,v6.T.S.Door,vI r5.1.T.S.Added,v6.T.R.L.1,vI r5.1.T.R.Places,g0_.Sessions,vW a0.Seq,vW a0.Now,vW a0.Ver,vI a0.Asked,vI a0.Hits] ag77 z z z z) (pk 2 []) (Le.trans le18 le21) ⟨_,z,(⟨v3,(⟨(⟨(⟨(v6.A.R.L.1,[])⟩:Ab.G)⟩:Aa.G),(⟨(⟨(v6.T.S.Rows.1,[]),v6.T.S.Door⟩:Ad.G),(⟨(v6.T.R.L.1,[])⟩:Ab.G)⟩:Ae.G)⟩:Af.G),g0_.Sessions⟩:Ac.G),z,⟨h22,⟨(RoN.mono le21 hf7.1),⟨⟨(RoN.mono le21 hf7.2.1.1),(RoS.mono le21 hf7.2.1.2)⟩,(RoN.mono le21 hf7.2.2)⟩⟩,(RoS.mono (Le.trans le18 le21) h0.2.2)⟩,z⟩
def Bh(a0:Ac)(a1:UInt64):Nat→Int→Option (Unit⊕Int)
 | 0,_=>none
 | k7+1,i_6=>if decide (i_6<(a0.Sessions.length:Int)) then (gi a0.Sessions i_6).bind fun x12=>if (x12.Session==a1) then some (Sum.inr i_6) else Bh a0 a1 k7 (i64 (i_6+1)) else some (Sum.inl ())
def Ch(a0:Ac)(a1:UInt64):Option Int :=
 Option.bind (Bh a0 a1 (((a0.Sessions.length:Int)-0).toNat+1) 0) fun (p1:Unit⊕Int)=>(match p1 with | Sum.inl q2=>some (-1) | Sum.inr r=>some r)
theorem Ch.ok{G R F}(a0:Ac)(g0_:Ac.G)(h0:Ac.ro R a0 g0_)(a1:UInt64)(r:Int)(hm:Ch a0 a1=some r):CO prog 46 [.agg (Ac.k a0 g0_).toArray,vW a1] G R (F)
  (Ret fun u R' L'=>u=vI r∧R'=R∧L'=F):=by
 unfold Ch at hm
 refine co_ofN (N:=22) func46 z z ?_
 refine csr ?_
 refine r_new (o_bx (Ac.k a0 g0_) z z) fun b0 =>?_
 refine r_as z (nssr (r_as z (nsq ?_)))
 obtain ⟨p1,hp3,hm4⟩:=bs hm
 refine cd_joinS (p:=p1) (Ef:=fun q2=>[]) (Lf:=fun q2=>Bk b0 77 (Ac.k a0 g0_)::F) (fun q2 hq =>?_) fun K5 =>?_
 ·subst hq
  try dsimp only at hm4
  refine x_seq (csr (r_as z (r_nil (x_seq (c_ret ?_)))))
  obtain rfl:=si hm4
  refine ex_st (pk 1 []) ?_
  exact x_r1 z (rv_t z) le_ ⟨_,z,z,z,z⟩
 refine c_blk ?_
 refine cd_loop (M:=fun k7 (i_6:Int)=>Bh a0 a1 k7 i_6=some p1) (Ef:=fun (i_6:Int)=>[(1,vW a1),(2,pt b0 0),(5,vI i_6)]) (Lf:=fun (i_6:Int)=>Bk b0 77 (Ac.k a0 g0_)::F) (((a0.Sessions.length:Int)-0).toNat+1) 0 hp3 ⟨z,z,z,y_⟩ (fun _ h=>h) (fun _ h=>by cases h) fun k7 i_6 hM9 =>?_
 have hm8:Bh a0 a1 (k7+1) i_6=some p1:=hM9
 rw [Bh] at hm8
 refine c_seq (csr (r_mv z (r_fa fa77_3 z (r_ld 0 sc75 z z z ?_))))
 refine r_u (o_lenR underlying75 z h0.2.2) (r_bin z z (bI_lt _ _) (nsq ?_))
 refine c_if (b:=decide (i_6<(a0.Sessions.length:Int))) z (fun h10 =>?_) fun h10 =>?_
 rotate_left
 ·have hm11:=iff_ hm8 h10
  refine c_exit (x_exit (ks':=_) z ?_)
  obtain rfl:=si hm11
  exact x_sub (K5 _ z) trivial id_
 have hm11:=ift hm8 h10
 refine c_skip (x_seq (c_seq (c_blk (csr (r_fa fa77_3 z (r_ld 0 sc75 z z z (r_mv z ?_)))))))
 obtain ⟨x12,hx12,hm13⟩:=bs hm11
 obtain ⟨b12,o12,l12,T12,fr12,c12,hv12,hR12,he12,hi12⟩:=RoS.ne h0.2.2 hx12
 refine r_u (o_ix (sz:=5) underlying75 kr z z hv12 hi12) (r_fa fa83_0 z ?_)
 refine r_u (o_ldR sc22 z hR12 (rok 0 he12 (by decide))) (r_mv z (r_bin z z (bW_eq _ a1) (nsq ?_)))
 refine c_if (b:=(x12.Session==a1)) z (fun h14 =>?_) fun h14 =>?_
 ·have hm15:=ift hm13 h14
  refine csr (r_mv z (r_as z (r_nil (x_seq (c_ret ?_)))))
  obtain rfl:=si hm15
  try dsimp only at hm4
  obtain rfl:=si hm4
  refine ex_st (pk 1 []) ?_
  exact x_r1 z (rv_t z) le_ ⟨_,z,z,z,z⟩
 have hm15:=iff_ hm13 h14
 refine c_skip (x_blk (x_seq (c_reg (r_mv z (r_bin z z (bI_add _ 1) (r_as z (r_nil ?_)))))))
 exact x_lp (i64 (i_6+1)) hm15 ⟨z,z,z,y_⟩ id_
def BV(a0:List Ai)(a1:Str):Nat→Int→Option (Unit⊕(Ai×Bool))
 | 0,_=>none
 | k7+1,i_6=>if decide (i_6<(a0.length:Int)) then (gi a0 i_6).bind fun x12=>if (x12.Key==a1) then some (Sum.inr (x12,true)) else BV a0 a1 k7 (i64 (i_6+1)) else some (Sum.inl ())
def CW(a0:List Ai)(a1:Str):Option (Ai×Bool) :=
 Option.bind (BV a0 a1 (((a0.length:Int)-0).toNat+1) 0) fun (p1:Unit⊕(Ai×Bool))=>(match p1 with | Sum.inl q2=>some ((⟨[],[],0,0⟩:Ai),false) | Sum.inr r=>some r)
theorem CW.ok{G R F}(v0_:Value)(a0:List Ai)(h0_:RoS R v0_ 4 Ai.c a0)(a1:Str)(r:Ai×Bool)(hm:CW a0 a1=some r):CO prog 81 [v0_,vS a1] G R (F)
  (Ret fun u R' L'=>u = .tuple #[.agg (Ai.c r.1).toArray,vB r.2]∧R'=R∧L'=F):=by
 unfold CW at hm
 refine co_ofN (N:=25) func81 z z ?_
 refine csr ?_
 refine r_new (o_al ze50) fun b0 =>?_
 refine r_as z (nssr (r_as z (nsq ?_)))
 obtain ⟨p1,hp3,hm4⟩:=bs hm
 refine cd_joinS (p:=p1) (Ef:=fun q2=>[(4,pt b0 0)]) (Lf:=fun q2=>Bk b0 50 [vS [],vS [],vW 0,vW 0]::F) (fun q2 hq =>?_) fun K5 =>?_
 ·subst hq
  try dsimp only at hm4
  refine x_seq (csr ?_)
  refine r_u (o_bld [vS [],vS [],vW 0,vW 0] z kr) ?_
  refine r_u0 (o_stn ag50 z z z z z z z) (r_as z (r_nil (x_seq (c_ret ?_))))
  obtain rfl:=si hm4
  exact x_d2 z (rv_n 0 [vS [],vS [],vW 0,vW 0] ag50 z z z z) (rv_t z) (pk 1 []) le_ ⟨_,z,z,z,z⟩
 refine c_blk ?_
 refine cd_loop (M:=fun k7 (i_6:Int)=>BV a0 a1 k7 i_6=some p1) (Ef:=fun (i_6:Int)=>[(0,v0_),(1,vS a1),(4,pt b0 0),(6,vI i_6)]) (Lf:=fun (i_6:Int)=>Bk b0 50 [vS [],vS [],vW 0,vW 0]::F) (((a0.length:Int)-0).toNat+1) 0 hp3 ⟨z,z,z,z,y_⟩ (fun _ h=>h) (fun _ h=>by cases h) fun k7 i_6 hM9 =>?_
 have hm8:BV a0 a1 (k7+1) i_6=some p1:=hM9
 rw [BV] at hm8
 refine c_seq (csr (r_mv z (r_mv z ?_)))
 refine r_u (o_lenR underlying61 z h0_) (r_bin z z (bI_lt _ _) (nsq ?_))
 refine c_if (b:=decide (i_6<(a0.length:Int))) z (fun h10 =>?_) fun h10 =>?_
 rotate_left
 ·have hm11:=iff_ hm8 h10
  refine c_exit (x_exit (ks':=_) z ?_)
  obtain rfl:=si hm11
  exact x_sub (K5 _ z) ⟨z,y_⟩ id_
 have hm11:=ift hm8 h10
 refine c_skip (x_seq (c_seq (c_blk (csr (r_mv z (r_mv z ?_))))))
 obtain ⟨x12,hx12,hm13⟩:=bs hm11
 obtain ⟨b12,o12,l12,T12,fr12,c12,hv12,hR12,he12,hi12⟩:=RoS.ne h0_ hx12
 refine r_u (o_ix (sz:=4) underlying61 kr z z hv12 hi12) (r_fa fa50_0 z ?_)
 refine r_u (o_ldR sc9 z hR12 (rok 0 he12 (by decide))) (r_mv z (r_bin z z (bS_eq _ a1) (nsq ?_)))
 refine c_if (b:=(x12.Key==a1)) z (fun h14 =>?_) fun h14 =>?_
 ·have hm15:=ift hm13 h14
  refine csr (r_mv z (r_mv z ?_))
  refine r_u (o_ix (sz:=4) underlying61 kr z z hv12 hi12) ?_
  refine r_u (o_ldnR (Ai.c x12) ag50 z hR12 he12 z) ?_
  refine r_u0 (o_stn ag50 z z z z z z z) (r_as z (r_nil (x_seq (c_ret ?_))))
  obtain rfl:=si hm15
  try dsimp only at hm4
  obtain rfl:=si hm4
  exact x_d2 z (rv_n 0 (Ai.c x12) ag50 z z z z) (rv_t z) (pk 1 []) le_ ⟨_,z,z,z,z⟩
 have hm15:=iff_ hm13 h14
 refine c_skip (x_blk (x_seq (c_reg (r_mv z (r_bin z z (bI_add _ 1) (r_as z (r_nil ?_)))))))
 exact x_lp (i64 (i_6+1)) hm15 ⟨z,z,z,z,y_⟩ id_
def Ci(a0:Ab):Nat→Int→Int→Option (Int)
 | 0,_,_=>none
 | k7+1,n_5,i_6=>if decide (i_6<(a0.L.length:Int)) then (gi a0.L i_6).bind fun x12=>Ci a0 k7 (i64 (n_5+(x12.length:Int))) (i64 (i_6+1)) else some n_5
def BT(a0:Ab):Option Int :=
 Option.bind (Ci a0 (((a0.L.length:Int)-0).toNat+1) 0 0) fun p1=>some p1
theorem BT.ok{G R F}(a0:Ab)(g0_:Ab.G)(h0:Ab.ro R a0 g0_)(r:Int)(hm:BT a0=some r):CO prog 230 [.agg [g0_.L.1,vI a0.Places].toArray] G R (F)
  (Ret fun u R' L'=>u=vI r∧R'=R∧L'=F):=by
 unfold BT at hm
 refine co_ofN (N:=21) func230 z z ?_
 refine csr ?_
 refine r_new (o_bx [g0_.L.1,vI a0.Places] z z) fun b0 =>?_
 refine r_as z (nsr (r_as z (nssr (r_as z (nsq ?_)))))
 obtain ⟨p1,hp2,hm3⟩:=bs hm
 refine cd_join (E':=[(3,vI p1)]) (L':=Bk b0 64 [g0_.L.1,vI a0.Places]::F) ?_ fun K4 =>?_
 ·refine x_seq (csr (r_mv z (r_as z (r_nil (x_seq (c_ret ?_))))))
  obtain rfl:=si hm3
  refine ex_st (pk 1 []) ?_
  exact x_r1 z (rv_t z) le_ ⟨_,z,z,z,z⟩
 refine c_blk ?_
 refine cd_loop (M:=fun k7 (s:Int×Int)=>Ci a0 k7 s.1 s.2=some p1) (Ef:=fun (s:Int×Int)=>[(1,pt b0 0),(3,vI s.1),(4,vI s.2)]) (Lf:=fun (s:Int×Int)=>Bk b0 64 [g0_.L.1,vI a0.Places]::F) (((a0.L.length:Int)-0).toNat+1) (0,0) hp2 ⟨z,z,z,y_⟩ (fun _ h=>h) (fun _ h=>by cases h) fun k7 s hM9 =>?_
 obtain ⟨n_5,i_6⟩:=s
 have hm8:Ci a0 (k7+1) n_5 i_6=some p1:=hM9
 rw [Ci] at hm8
 refine c_seq (csr (r_mv z (r_fa fa64_0 z (r_ld 0 sc62 z z z ?_))))
 refine r_u (o_lenRN underlying62 z h0) (r_bin z z (bI_lt _ _) (nsq ?_))
 refine c_if (b:=decide (i_6<(a0.L.length:Int))) z (fun h10 =>?_) fun h10 =>?_
 ·have hm11:=ift hm8 h10
  refine c_skip (x_seq (c_seq (c_blk (c_reg (r_mv z (r_fa fa64_0 z (r_ld 0 sc62 z z z (r_mv z ?_))))))))
  obtain ⟨x12,hx12,hm14⟩:=bs hm11
  obtain ⟨b12,o12,l12,T12,fr12,c12,u13,hv12,hR12,he12,hi12,hN12⟩:=RoN.ne h0 hx12
  refine r_u (o_ix (sz:=1) underlying62 kr z z hv12 hi12) ?_
  refine r_u (o_ldR sc98 z hR12 (rok 0 he12 (by decide))) ?_
  refine r_u (o_lenR underlying98 z hN12) (r_bin z z (bI_add _ _) (r_as z (r_nil (x_blk (x_seq (c_reg (r_mv z (r_bin z z (bI_add _ 1) (r_as z (r_nil ?_))))))))))
  exact x_lp (i64 (n_5+(x12.length:Int)),i64 (i_6+1)) hm14 ⟨z,z,z,y_⟩ id_
 have hm11:=iff_ hm8 h10
 refine c_exit (x_exit (ks':=_) z ?_)
 obtain rfl:=si hm11
 exact x_sub K4 ⟨z,y_⟩ id_
def A2(a0:Ab)(a1:Int)(a2:Str):Option (Ab×Bool) :=
 (AP a0 a2).bind fun r2=>Option.bind (if ((decide (a1<0)||decide ((a0.L.length:Int)≤a1))||decide (64<(a2.length:Int))) then some true else Option.bind (if r2.2 then some false else (BT a0).bind fun r34=>some (decide (a0.Places≤r34))) fun p28=>some p28) fun p4=>if p4 then some (a0,false) else (AG a0 a2).bind fun r10=>(gi r10.L a1).bind fun y16=>(apd 16 [a2] y16).bind fun l20=>some ((⟨ls r10.L a1 l20,r10.Places⟩:Ab),true)
theorem A2.ok{G R F}(a0:Ab)(g0_:Ab.G)(h0:Ab.ro R a0 g0_)(a1:Int)(a2:Str)(r:Ab×Bool)(hm:A2 a0 a1 a2=some r):CO prog 226 [.agg [g0_.L.1,vI a0.Places].toArray,vI a1,vS a2] G R (F)
  (Ret fun u R' L'=>∃(p0:Ab.G),u = .tuple #[.agg [p0.L.1,vI r.1.Places].toArray,vB r.2]∧(Ab.ro R' r.1 p0)∧L'=F):=by
 unfold A2 at hm
 refine co_ofN (N:=59) func226 z z ?_
 refine csr ?_
 refine r_new (o_bx [g0_.L.1,vI a0.Places] z z) fun b0 =>?_
 refine r_new (o_al ze64) fun b1 =>?_
 refine r_as z (nsr ?_)
 refine r_u (o_ldn 1 [g0_.L.1,vI a0.Places] ag64 z z z z) (r_mv z ?_)
 obtain ⟨r2,hr2,hm3⟩:=bs hm
 refine r_u (o_callq ca176 z (AP.ok a0 (⟨(g0_.L.1,[])⟩:Ab.G) h0 a2 _ hr2)) (r_mv z (r_ext z z (r_ext z z (r_as z (r_as z (r_nil (x_seq (c_seq (c_seq ?_)))))))))
 obtain ⟨p4,hp5,hm6⟩:=bs hm3
 refine cd_join (E':=[(1,vI a1),(2,vS a2),(3,pt b0 0),(6,pt b1 0),(41,vB p4)]) (L':=Bk b1 64 [.slice none 0 0,vI 0]::Bk b0 64 [g0_.L.1,vI a0.Places]::F) ?_ fun K7 =>?_
 rotate_left
 ·refine cd_by ((decide (a1<0)||decide ((a0.L.length:Int)≤a1))||decide (64<(a2.length:Int))) (fun h26 =>?_) fun h26 =>?_
  ·have hm27:=ift hp5 h26
   refine c_any mixed (effs:=[]) (V:=[]) ?_
   refine stn mk48_ [0,1,2,3,4,5,6,7,8,9,10,11,12,13,14,15,16,17,18,19,20,21,22,23,24] [] [_,_,_,_,_,_,_,_,_,_,_,_,_,_,_,_,_,_,_,_,_,_,_,_,_] (q_mv z z z (q_u z z (o_bin z z (bI_lt a1 0)) (q_mv z z z (qc z z (s_gf z z fun g=>o_mv z) (qc z z (s_gf z z fun g=>o_fa fa64_0 z) (qc z z (s_gf z z fun g=>o_ld 1 sc62 (evg z g) z z) (qc z z (s_gf z z fun g=>o_lenRN underlying62 (evg z g) h0) (qc z z (s_gf z z fun g=>o_bin (evg z g) (evg z g) (bI_ge a1 _)) (q_u z z (o_or z z) (q_mv z z z (qc z z (s_gf z z fun g=>o_mv z) (qc z z (s_gf z z fun g=>o_lenS underlying9 (evg z g)) (qc z z (s_gf z z fun g=>o_bin (evg z g) z (bI_gt _ 64)) (q_u z z (o_or z z) (q_mv z z z (q_n z z z z h26 (q_n z z z z h26 (q_n z z z z h26 (qc z z (s_nu z z) (qc z z (s_nu z z) (qc z z (s_nu z z) (qc z z (s_nu z z) (qc z z (s_nu z z) (q_n z z z z h26 (q_u z z (o_pt z h26 z) qn))))))))))))))))))))))))) en ?_
   intro _
   refine ex_sub (E':=[(1,vI a1),(2,vS a2),(3,pt b0 0),(6,pt b1 0),(41,vB true)]) ⟨z,z,z,z,z,y_⟩ ?_
   obtain rfl:=si hm27
   exact x_sub K7 ⟨z,z,z,z,z,y_⟩ id_
  have hm27:=iff_ hp5 h26
  obtain ⟨p28,hp29,hm30⟩:=bs hm27
  refine cd_join (E':=[(1,vI a1),(2,vS a2),(3,pt b0 0),(6,pt b1 0),(41,vB p28)]) (L':=Bk b1 64 [.slice none 0 0,vI 0]::Bk b0 64 [g0_.L.1,vI a0.Places]::F) ?_ fun K31 =>?_
  ·obtain rfl:=si hm30
   exact x_sub K7 ⟨z,z,z,z,z,y_⟩ id_
  refine cd_by r2.2 (fun h32 =>?_) fun h32 =>?_
  ·have hm33:=ift hp29 h32
   refine c_any mixed (effs:=[]) (V:=[]) ?_
   refine stn mk48_ [0,1,2,3,4,5,6,7,8,9,10,11,12,13,14,15,16,17,18,19,20,21,22,23,24] [] [_,_,_,_,_,_,_,_,_,_,_,_,_,_,_,_,_,_,_,_,_,_,_,_,_] (q_mv z z z (q_u z z (o_bin z z (bI_lt a1 0)) (q_mv z z z (qc z z (s_gf z z fun g=>o_mv z) (qc z z (s_gf z z fun g=>o_fa fa64_0 z) (qc z z (s_gf z z fun g=>o_ld 1 sc62 (evg z g) z z) (qc z z (s_gf z z fun g=>o_lenRN underlying62 (evg z g) h0) (qc z z (s_gf z z fun g=>o_bin (evg z g) (evg z g) (bI_ge a1 _)) (q_u z z (o_or z z) (q_mv z z z (qc z z (s_gf z z fun g=>o_mv z) (qc z z (s_gf z z fun g=>o_lenS underlying9 (evg z g)) (qc z z (s_gf z z fun g=>o_bin (evg z g) z (bI_gt _ 64)) (q_u z z (o_or z z) (q_mv z z z (q_y z z z z h26 (o_mv z) (q_y z z z z h26 (o_not z) (q_y z z z z h26 (o_mv z) (q_n z z z z (nbf h32) (q_n z z z z (nbf h32) (q_n z z z z (nbf h32) (q_n z z z z (nbf h32) (q_n z z z z (nbf h32) (q_y z z z z h26 (o_pf z (nbf h32) z) (q_u z z (o_pf z h26 z) qn))))))))))))))))))))))))) en ?_
   intro _
   refine ex_sub (E':=[(1,vI a1),(2,vS a2),(3,pt b0 0),(6,pt b1 0),(41,vB false)]) ⟨z,z,z,z,z,y_⟩ ?_
   obtain rfl:=si hm33
   exact x_sub K31 ⟨z,z,z,z,z,y_⟩ id_
  have hm33:=iff_ hp29 h32
  obtain ⟨r34,hr34,hm35⟩:=bs hm33
  refine c_any mixed (effs:=[]) (V:=[]) ?_
  refine stn mk48_ [0,1,2,3,4,5,6,7,8,9,10,11,12,13,14,15,16,17,18,19,20,21,22,23,24] [] [_,_,_,_,_,_,_,_,_,_,_,_,_,_,_,_,_,_,_,_,_,_,_,_,_] (q_mv z z z (q_u z z (o_bin z z (bI_lt a1 0)) (q_mv z z z (qc z z (s_gf z z fun g=>o_mv z) (qc z z (s_gf z z fun g=>o_fa fa64_0 z) (qc z z (s_gf z z fun g=>o_ld 1 sc62 (evg z g) z z) (qc z z (s_gf z z fun g=>o_lenRN underlying62 (evg z g) h0) (qc z z (s_gf z z fun g=>o_bin (evg z g) (evg z g) (bI_ge a1 _)) (q_u z z (o_or z z) (q_mv z z z (qc z z (s_gf z z fun g=>o_mv z) (qc z z (s_gf z z fun g=>o_lenS underlying9 (evg z g)) (qc z z (s_gf z z fun g=>o_bin (evg z g) z (bI_gt _ 64)) (q_u z z (o_or z z) (q_mv z z z (q_y z z z z h26 (o_mv z) (q_y z z z z h26 (o_not z) (q_y z z z z h26 (o_mv z) (q_y z z z z (nbt h32) (o_ldn 1 [g0_.L.1,vI a0.Places] ag64 z z z z) (q_y z z z z (nbt h32) (o_callq ca230 z (BT.ok a0 (⟨(g0_.L.1,[])⟩:Ab.G) h0 _ hr34)) (q_y z z z z (nbt h32) (o_fa fa64_1 z) (q_y z z z z (nbt h32) (o_ld 1 sc3 z z z) (q_y z z z z (nbt h32) (o_bin z z (bI_ge _ _)) (q_y z z z z h26 (o_pt z (nbt h32) z) (q_u z z (o_pf z h26 z) qn))))))))))))))))))))))))) en ?_
  intro _
  refine ex_sub (E':=[(1,vI a1),(2,vS a2),(3,pt b0 0),(6,pt b1 0),(41,vB (decide (a0.Places≤r34)))]) ⟨z,z,z,z,z,y_⟩ ?_
  obtain rfl:=si hm35
  exact x_sub K31 ⟨z,z,z,z,z,y_⟩ id_
 refine x_seq ?_
 refine c_if (b:=p4) z (fun h8 =>?_) fun h8 =>?_
 ·have hm9:=ift hm6 h8
  refine csr ?_
  refine r_u (o_ldn 1 [g0_.L.1,vI a0.Places] ag64 z z z z) ?_
  refine r_u0 (o_stn ag64 z z z (a_ (RoN.one h0) (a_ z al_n)) z z z) (r_as z (r_nil (x_seq (c_ret ?_))))
  obtain rfl:=si hm9
  exact x_d2 z (rv_n 0 [g0_.L.1,vI a0.Places] ag64 z z z z) (rv_t z) (pk 2 []) le_ ⟨_,z,(⟨(g0_.L.1,[])⟩:Ab.G),z,h0,z⟩
 have hm9:=iff_ hm6 h8
 refine c_skip (x_seq (csr ?_))
 refine r_u (o_ldn 1 [g0_.L.1,vI a0.Places] ag64 z z z z) (r_mv z ?_)
 obtain ⟨r10,hr10,hm13⟩:=bs hm9
 refine r_sw (s_w (o_call ca174 z (AG.ok a0 (⟨(g0_.L.1,[])⟩:Ab.G) h0 a2 _ hr10))) ?_
 rintro _ R _ _ ⟨v11,rfl,rfl,rfl⟩
 refine r_new (o_al ze64) fun b14 =>?_
 refine r_u0 (ou_if (one_o 1 z) fun ho0=>o_stn ag64 z z z (a_ ho0 (a_ z al_n)) z z z) ?_
 refine r_nil (x_seq (c_seq ?_))
 obtain ⟨y16,hy16,hm18⟩:=bs hm13
 refine cd_ex (fun w h=>st_peek 2 hy16 z w h) fun u17 hu17 =>?_
 obtain ⟨l20,hl20,hm21⟩:=bs hm18
 refine c_any mixed (effs:=[4,10,12]) (V:=[]) ?_
 refine stn mk20_ [0,1,2,3,5,6,7,8,9] [4] [_,_,_,_,_,_,_,_,_] (q_fa z z fa64_0 z (q_ld z z 0 sc62 z z z (q_mv z z z (q_mv z z z (q_fa z z fa64_0 z (q_ld z z 0 sc62 z z z (q_mv z z z (q_u z z (o_ixO 1 underlying62 kr z z z hu17) (q_u z z (o_ldO0 1 sc98 z z hu17 z z) qn))))))))) ?_ (nxt z)
 refine ec (eo_w z (s_w (o_bsl (en:=eS) (sz:=1) (e:=9) (cs:=[vS a2]) (r:=[a2]) z kr z (by decide) z (fun _=>z))) ?_) en
 rintro v15 R _ _ ⟨rfl,rfl⟩
 refine stage_st (fun _ h=>mv1 (mv3 h)) ?_
 refine stage z z z z mk20_ [0,1,2,5,6,7,8,9] [10] z z z (q_fa z z fa64_0 z (q_ld z z 2 sc62 z z z (q_mv z z z (q_fa z z fa64_0 z (q_ld z z 2 sc62 z z z (q_mv z z z (q_u z z (o_ixO 3 underlying62 kr z z z hu17) (q_u z z (o_ldO0 3 sc98 z z hu17 z z) qn)))))))) ?_ (nxt z)
 refine ec (eo_w z (s_w (o_apG (sz:=1) (bytes:=16) underlying98 z z z z z (by decide) (by decide) (fun _ _ _ h=>by simp at h;subst h;rfl) (fun _=>z) z z z (row_k (kn_in 1 z hu17 hy16)) hl20)) ?_) en
 rintro v19 R _ _ ⟨rfl,rfl⟩
 refine stage_st (fun _ h=>mv3 (mv1 h)) ?_
 refine stx [11] mk20_ [0,1,2,11] [12] [_] (q_fa z z fa64_0 z (q_ld z z 3 sc62 z z z (q_mv z z z (q_u z z (o_ixO 0 underlying62 kr z z z hu17) qn)))) ?_ (nxt z)
 refine ec (eo_u z (s_u (ou_if (one_o 2 z) fun ho=>o_stH hy16 hu17 sc98 z z z ho)) le_ ?_) en
 refine stage z z z z mk20_ [] [] z z z qn en ?_
 intro _
 refine ex_sub (E':=[(6,pt b1 0),(10,pt b14 0)]) ⟨z,z,y_⟩ ?_
 refine x_seq (csr ?_)
 refine r_u (o_ldn 2 [v11.L.1,vI r10.Places] ag64 z z z z) ?_
 refine rl_st (fun _ h=>mv3 h) ?_
 refine r_u0 (ou_if (one_o 1 z) fun ho0=>o_stn ag64 z z z (a_ ho0 (a_ z al_n)) z z z) ?_
 refine r_as z (r_nil (x_seq (c_ret ?_)))
 refine ex_st (fun _ h=>mv2 (mv2 h)) ?_
 refine ex_ex (fun w h=>st_freezeN w h) fun R22 hf25 =>?_
 obtain ⟨le23,h24⟩:=hf25
 obtain rfl:=si hm21
 exact x_d2 z (rv_n 0 [v11.L.1,vI r10.Places] ag64 z z z z) (rv_t z) (pk 3 []) le23 ⟨_,z,(⟨(v11.L.1,[])⟩:Ab.G),z,h24,z⟩
def AB(a0:Aa)(a1:Int)(a2:Str):Option Aa :=
 (A2 a0.R a1 a2).bind fun r2=>some (⟨a0.Most,a0.Target,r2.1⟩:Aa)
theorem AB.ok{G R F}(a0:Aa)(g0_:Aa.G)(h0:Aa.ro R a0 g0_)(a1:Int)(a2:Str)(r:Aa)(hm:AB a0 a1 a2=some r):CO prog 175 [.agg (Aa.k a0 g0_).toArray,vI a1,vS a2] G R (F)
  (Ret fun u R' L'=>∃(p0:Aa.G),u = .agg (Aa.k r p0).toArray∧(Aa.ro R' r p0)∧L'=F):=by
 unfold AB at hm
 refine co_ofN (N:=17) func175 z z ?_
 refine csr ?_
 refine r_new (o_bx (Aa.k a0 g0_) z z) fun b0 =>?_
 refine r_new (o_al ze66) fun b1 =>?_
 refine nsr (r_fa fa66_2 z ?_)
 refine r_u (o_ldn 1 [g0_.R.L.1,vI a0.R.Places] ag64 z z z z) (r_mv z (r_mv z ?_))
 obtain ⟨r2,hr2,hm8⟩:=bs hm
 refine r_sw (s_w (o_call ca226 z (A2.ok _ (⟨(g0_.R.L.1,[])⟩:Ab.G) h0 a1 a2 _ hr2))) ?_
 rintro _ R6 _ le7 ⟨v3,rfl,hf4,rfl⟩
 refine r_mv z (r_ext z z (r_ext z z (r_fa fa66_2 z ?_)))
 refine rl_st (fun _ h=>mv1 h) ?_
 refine r_u0 (o_stn ag64 z z z (a_ (RoN.one hf4) (a_ z al_n)) z z z) (nsr ?_)
 refine r_u (o_ldn 0 [vI a0.Most,vI a0.Target,v3.L.1,vI r2.1.Places] ag66 z z z z) ?_
 refine rl_st (fun _ h=>mv1 h) ?_
 refine r_u0 (o_stn ag66 z z z (a_ z (a_ z (a_ (RoN.one hf4) (a_ z al_n)))) z z z) (r_nil (x_seq (c_ret ?_)))
 obtain rfl:=si hm8
 exact x_d1 z (rv_n 0 [vI a0.Most,vI a0.Target,v3.L.1,vI r2.1.Places] ag66 z z z z) (pk 2 []) le7 ⟨_,z,(⟨(⟨(v3.L.1,[])⟩:Ab.G)⟩:Aa.G),z,hf4,z⟩
def CX(a0:Aa)(a1:Str):Option (Aa×Bool) :=
 (BE a0 a1).bind fun r2=>if !r2 then some (a0,false) else (AB a0 1 a1).bind fun r6=>some (r6,true)
theorem CX.ok{G R F}(a0:Aa)(g0_:Aa.G)(h0:Aa.ro R a0 g0_)(a1:Str)(r:Aa×Bool)(hm:CX a0 a1=some r):CO prog 136 [.agg (Aa.k a0 g0_).toArray,vS a1] G R (F)
  (Ret fun u R' L'=>∃(p0:Aa.G),u = .tuple #[.agg (Aa.k r.1 p0).toArray,vB r.2]∧(Aa.ro R' r.1 p0)∧L'=F):=by
 unfold CX at hm
 refine co_ofN (N:=14) func136 z z ?_
 refine csr ?_
 refine r_new (o_bx (Aa.k a0 g0_) z z) fun b0 =>?_
 refine r_new (o_al ze66) fun b1 =>?_
 refine r_as z (nssr ?_)
 refine r_u (o_ldn 1 (Aa.k a0 g0_) ag66 z z z z) (r_mv z ?_)
 obtain ⟨r2,hr2,hm3⟩:=bs hm
 refine r_u (o_callq ca173 z (BE.ok a0 (⟨(⟨(g0_.R.L.1,[])⟩:Ab.G)⟩:Aa.G) h0 a1 _ hr2)) ?_
 refine r_u (o_not z) (nsq ?_)
 refine c_if (b := !r2) z (fun h4 =>?_) fun h4 =>?_
 ·have hm5:=ift hm3 h4
  refine csr ?_
  refine r_u (o_ldn 1 (Aa.k a0 g0_) ag66 z z z z) ?_
  refine r_u0 (o_stn ag66 z z z (a_ z (a_ z (a_ (RoN.one h0) (a_ z al_n)))) z z z) (r_as z (r_nil (x_seq (c_ret ?_))))
  obtain rfl:=si hm5
  exact x_d2 z (rv_n 0 (Aa.k a0 g0_) ag66 z z z z) (rv_t z) (pk 2 []) le_ ⟨_,z,(⟨(⟨(g0_.R.L.1,[])⟩:Ab.G)⟩:Aa.G),z,h0,z⟩
 have hm5:=iff_ hm3 h4
 refine c_skip (x_seq (csr ?_))
 refine r_u (o_ldn 1 (Aa.k a0 g0_) ag66 z z z z) (r_mv z ?_)
 obtain ⟨r6,hr6,hm13⟩:=bs hm5
 refine r_sw (s_w (o_call ca175 z (AB.ok a0 (⟨(⟨(g0_.R.L.1,[])⟩:Ab.G)⟩:Aa.G) h0 1 a1 _ hr6))) ?_
 rintro _ R11 _ le12 ⟨v7,rfl,hf8,rfl⟩
 refine r_u0 (o_stn ag66 z z z (a_ z (a_ z (a_ (RoN.one hf8) (a_ z al_n)))) z z z) (r_as z (r_nil (x_seq (c_ret ?_))))
 obtain rfl:=si hm13
 exact x_d2 z (rv_n 0 (Aa.k r6 v7) ag66 z z z z) (rv_t z) (pk 2 []) le12 ⟨_,z,(⟨(⟨(v7.R.L.1,[])⟩:Ab.G)⟩:Aa.G),z,hf8,z⟩
def CS(a1:Int):Nat→UInt64→Int→Option (UInt64)
 | 0,_,_=>none
 | k6+1,n_4,i_5=>if decide (i_5<a1) then CS a1 k6 ((n_4*2)+(n_4/9223372036854775808)) (i64 (i_5+1)) else some n_4
def Dy(a0:UInt64)(a1:Int):Option UInt64 :=
 Option.bind (CS a1 ((a1-0).toNat+1) a0 0) fun p0=>some p0
theorem Dy.ok{G R F}(a0:UInt64)(a1:Int)(r:UInt64)(hm:Dy a0 a1=some r):CO prog 254 [vW a0,vI a1] G R (F)
  (Ret fun u R' L'=>u=vW r∧R'=R∧L'=F):=by
 unfold Dy at hm
 refine co_ofN (N:=19) func254 z z ?_
 refine csr (r_as z (nssr (r_as z (nsq ?_))))
 obtain ⟨p0,hp1,hm2⟩:=bs hm
 refine cd_join (E':=[(0,vW p0)]) (L':=F) ?_ fun K3 =>?_
 ·refine x_seq (csr (r_mv z (r_as z (r_nil (x_seq (c_ret ?_))))))
  obtain rfl:=si hm2
  exact x_r1 z (rv_t z) le_ ⟨_,z,z,z,z⟩
 refine c_blk ?_
 refine cd_loop (M:=fun k6 (s:UInt64×Int)=>CS a1 k6 s.1 s.2=some p0) (Ef:=fun (s:UInt64×Int)=>[(1,vI a1),(0,vW s.1),(5,vI s.2)]) (Lf:=fun (s:UInt64×Int)=>F) ((a1-0).toNat+1) (a0,0) hp1 ⟨z,z,z,y_⟩ (fun _ h=>h) (fun _ h=>by cases h) fun k6 s hM8 =>?_
 obtain ⟨n_4,i_5⟩:=s
 have hm7:CS a1 (k6+1) n_4 i_5=some p0:=hM8
 rw [CS] at hm7
 refine c_seq (csr (r_mv z (r_mv z (r_bin z z (bI_lt _ a1) (nsq ?_)))))
 refine c_if (b:=decide (i_5<a1)) z (fun h9 =>?_) fun h9 =>?_
 ·have hm10:=ift hm7 h9
  refine c_skip (x_seq (c_seq (c_blk (csr (r_mv z (r_bin z z (bW_quo _ 9223372036854775808 (by decide)) (r_as z (r_nil (x_seq (c_reg (r_mv z (r_bin z z (bW_mul _ 2) (r_mv z (r_bin z z (bW_add _ _) (r_as z (r_nil (x_blk (x_seq (c_reg (r_mv z (r_bin z z (bI_add _ 1) (r_as z (r_nil ?_)))))))))))))))))))))))
  exact x_lp ((n_4*2)+(n_4/9223372036854775808),i64 (i_5+1)) hm10 ⟨z,z,z,y_⟩ id_
 have hm10:=iff_ hm7 h9
 refine c_exit (x_exit (ks':=_) z ?_)
 obtain rfl:=si hm10
 exact x_sub K3 ⟨z,y_⟩ id_
def Cw(a0:UInt64):Option UInt64 :=
 (Dy ((a0 ^^^ (a0/4294967296))*11400714819323198485) 29).bind fun r0=>some ((r0*11400714819323198485) ^^^ ((r0*11400714819323198485)/4294967296))
theorem Cw.ok{G R F}(a0:UInt64)(r:UInt64)(hm:Cw a0=some r):CO prog 252 [vW a0] G R (F)
  (Ret fun u R' L'=>u=vW r∧R'=R∧L'=F):=by
 unfold Cw at hm
 refine co_ofN (N:=17) func252 z z ?_
 refine csr (r_as z (nsr (r_mv z (r_mv z (r_bin z z (bW_quo a0 4294967296 (by decide)) (r_bin z z (bW_xor a0 _) (r_as z (nsr (r_mv z (r_bin z z (bW_mul _ 11400714819323198485) (r_as z (nsr (r_mv z ?_)))))))))))))
 obtain ⟨r0,hr0,hm1⟩:=bs hm
 refine r_u (o_callq ca254 z (Dy.ok _ 29 _ hr0)) (r_as z (nsr (r_mv z (r_bin z z (bW_mul r0 11400714819323198485) (r_as z (nsr (r_mv z (r_mv z (r_bin z z (bW_quo _ 4294967296 (by decide)) (r_bin z z (bW_xor _ _) (r_as z (r_nil (x_seq (c_ret ?_))))))))))))))
 obtain rfl:=si hm1
 exact x_r1 z (rv_t z) le_ ⟨_,z,z,z,z⟩
def Da(a1:Str):Nat→UInt64→Int→Option (UInt64)
 | 0,_,_=>none
 | k10+1,h_8,i_9=>if decide (i_9<(a1.length:Int)) then (gi a1 i_9).bind fun c15=>Da a1 k10 ((h_8 ^^^ c15.toUInt64)*1099511628211) (i64 (i_9+1)) else some h_8
def DP(a0:UInt64)(a1:Str):Option UInt64 :=
 (Cw a0).bind fun r0=>Option.bind (Da a1 (((a1.length:Int)-0).toNat+1) (14695981039346656037 ^^^ r0) 0) fun p2=>(Cw (p2 ^^^ (toW (a1.length:Int)))).bind fun r6=>some r6
theorem DP.ok{G R F}(a0:UInt64)(a1:Str)(r:UInt64)(hm:DP a0 a1=some r):CO prog 246 [vW a0,vS a1] G R (F)
  (Ret fun u R' L'=>u=vW r∧R'=R∧L'=F):=by
 unfold DP at hm
 refine co_ofN (N:=30) func246 z z ?_
 refine csr (r_as z (nsr (r_mv z ?_)))
 obtain ⟨r0,hr0,hm1⟩:=bs hm
 refine r_u (o_callq ca252 z (Cw.ok a0 _ hr0)) (r_bin z z (bW_xor 14695981039346656037 r0) (r_as z (nssr (r_as z (nsq ?_)))))
 obtain ⟨p2,hp3,hm4⟩:=bs hm1
 refine cd_join (E':=[(1,vS a1),(5,vW p2)]) (L':=F) ?_ fun K5 =>?_
 ·refine x_seq (csr (r_mv z (r_mv z (r_u (o_lenS underlying9 z) (r_u (o_cv z (cIW underlying3 underlying22 (a1.length:Int))) (r_bin z z (bW_xor p2 _) ?_))))))
  obtain ⟨r6,hr6,hm7⟩:=bs hm4
  refine r_u (o_callq ca252 z (Cw.ok _ _ hr6)) (r_as z (r_nil (x_seq (c_ret ?_))))
  obtain rfl:=si hm7
  exact x_r1 z (rv_t z) le_ ⟨_,z,z,z,z⟩
 refine c_blk ?_
 refine cd_loop (M:=fun k10 (s:UInt64×Int)=>Da a1 k10 s.1 s.2=some p2) (Ef:=fun (s:UInt64×Int)=>[(1,vS a1),(5,vW s.1),(6,vI s.2)]) (Lf:=fun (s:UInt64×Int)=>F) (((a1.length:Int)-0).toNat+1) (14695981039346656037 ^^^ r0,0) hp3 ⟨z,z,z,y_⟩ (fun _ h=>h) (fun _ h=>by cases h) fun k10 s hM12 =>?_
 obtain ⟨h_8,i_9⟩:=s
 have hm11:Da a1 (k10+1) h_8 i_9=some p2:=hM12
 rw [Da] at hm11
 refine c_seq (csr (r_mv z (r_mv z (r_u (o_lenS underlying9 z) (r_bin z z (bI_lt _ _) (nsq ?_))))))
 refine c_if (b:=decide (i_9<(a1.length:Int))) z (fun h13 =>?_) fun h13 =>?_
 ·have hm14:=ift hm11 h13
  refine c_skip (x_seq (c_seq (c_blk (csr (r_mv z (r_mv z (r_mv z ?_)))))))
  obtain ⟨c15,hc15,hm16⟩:=bs hm14
  refine r_u (o_ixS underlying9 z z hc15) (r_u (o_cv z (cYW underlying5 underlying22 c15)) (r_bin z z (bW_xor _ _) (r_as z (r_nil (x_seq (c_reg (r_mv z (r_bin z z (bW_mul _ 1099511628211) (r_as z (r_nil (x_blk (x_seq (c_reg (r_mv z (r_bin z z (bI_add _ 1) (r_as z (r_nil ?_)))))))))))))))))
  exact x_lp ((h_8 ^^^ c15.toUInt64)*1099511628211,i64 (i_9+1)) hm16 ⟨z,z,z,y_⟩ id_
 have hm14:=iff_ hm11 h13
 refine c_exit (x_exit (ks':=_) z ?_)
 obtain rfl:=si hm14
 exact x_sub K5 ⟨z,z,y_⟩ id_
def BF(a0:UInt64)(a1:UInt64):UInt64 :=
 (((a0/4294967296)*(a1/4294967296))+((((a0/4294967296)*(a1%4294967296))+(((a0%4294967296)*(a1%4294967296))/4294967296))/4294967296))+((((a0%4294967296)*(a1/4294967296))+((((a0/4294967296)*(a1%4294967296))+(((a0%4294967296)*(a1%4294967296))/4294967296))%4294967296))/4294967296)
theorem BF.ok{G R F}(a0:UInt64)(a1:UInt64)(r:UInt64)(hm:BF a0 a1=r):CO prog 251 [vW a0,vW a1] G R (F)
  (Ret fun u R' L'=>u=vW r∧R'=R∧L'=F):=by
 unfold BF at hm
 refine co_ofN (N:=42) func251 z z ?_
 refine csr (r_as z (nsr (r_mv z (r_bin z z (bW_quo a0 4294967296 (by decide)) (r_mv z (r_bin z z (bW_rem a0 4294967296 (by decide)) (r_mv z (r_bin z z (bW_quo a1 4294967296 (by decide)) (r_mv z (r_bin z z (bW_rem a1 4294967296 (by decide)) (r_as z (r_as z (r_as z (r_as z (nsr (r_mv z (r_mv z (r_bin z z (bW_mul _ _) (r_mv z (r_mv z (r_bin z z (bW_mul _ _) (r_bin z z (bW_quo _ 4294967296 (by decide)) (r_bin z z (bW_add _ _) (r_as z (nsr (r_mv z (r_mv z (r_bin z z (bW_mul _ _) (r_mv z (r_u (o_bin z z (bW_rem _ 4294967296 (by decide))) (r_u (o_bin z z (bW_add _ _)) (r_as z (nsr ?_)))))))))))))))))))))))))))))))))
 refine r_mv z (r_mv z (r_bin z z (bW_mul _ _) (r_mv z (r_u (o_bin z z (bW_quo _ 4294967296 (by decide))) (r_u (o_bin z z (bW_add _ _)) (r_mv z (r_u (o_bin z z (bW_quo _ 4294967296 (by decide))) (r_u (o_bin z z (bW_add _ _)) (r_as z (r_nil (x_seq (c_ret ?_))))))))))))
 subst hm
 exact x_r1 z (rv_t z) le_ ⟨_,z,z,z,z⟩
def Dt(a0:UInt64)(a1:Int)(a2:Int):Option Int :=
 if decide (a2<1) then some 0 else (Cw (a0+((toW a1)*11400714819323198485))).bind fun r2=>some (i64 ((BF r2 (toW a2)).toNat:Int))
theorem Dt.ok{G R F}(a0:UInt64)(a1:Int)(a2:Int)(r:Int)(hm:Dt a0 a1 a2=some r):CO prog 245 [vW a0,vI a1,vI a2] G R (F)
  (Ret fun u R' L'=>u=vI r∧R'=R∧L'=F):=by
 unfold Dt at hm
 refine co_ofN (N:=19) func245 z z ?_
 refine csr (r_as z (nssr (r_mv z (r_bin z z (bI_lt a2 1) (nsq ?_)))))
 refine c_if (b:=decide (a2<1)) z (fun h0 =>?_) fun h0 =>?_
 ·have hm1:=ift hm h0
  refine csr (r_as z (r_nil (x_seq (c_ret ?_))))
  obtain rfl:=si hm1
  exact x_r1 z (rv_t z) le_ ⟨_,z,z,z,z⟩
 have hm1:=iff_ hm h0
 refine c_skip (x_seq (csr (r_mv z (r_mv z (r_u (o_cv z (cIW underlying3 underlying22 a1)) (r_bin z z (bW_mul _ 11400714819323198485) (r_bin z z (bW_add a0 _) ?_)))))))
 obtain ⟨r2,hr2,hm3⟩:=bs hm1
 refine r_u (o_callq ca252 z (Cw.ok _ _ hr2)) (r_mv z (r_u (o_cv z (cIW underlying3 underlying22 a2)) ?_))
 refine r_u (o_callq ca251 z (BF.ok r2 (toW a2) _ z)) (r_u (o_cv z (cWI underlying22 underlying3 (BF r2 (toW a2)))) (r_as z (r_nil (x_seq (c_ret ?_)))))
 obtain rfl:=si hm3
 exact x_r1 z (rv_t z) le_ ⟨_,z,z,z,z⟩
def AX(a0:Ad)(a1:Str)(a2:Int):Option Int :=
 (DP a0.Seed a1).bind fun r1=>(Dt r1 a2 a0.Wide).bind fun r3=>some r3
theorem AX.ok{G R F}(a0:Ad)(g0_:Ad.G)(h0:Ad.ro R a0 g0_)(a1:Str)(a2:Int)(r:Int)(hm:AX a0 a1 a2=some r):CO prog 227 [.agg (Ad.k a0 g0_).toArray,vS a1,vI a2] G R (F)
  (Ret fun u R' L'=>u=vI r∧R'=R∧L'=F):=by
 unfold AX at hm
 refine co_ofN (N:=15) func227 z z ?_
 refine csr ?_
 refine r_new (o_bx (Ad.k a0 g0_) z z) fun b0 =>?_
 refine r_as z (r_nil (x_seq (c_seq ?_)))
 obtain ⟨r1,hr1,hm2⟩:=bs hm
 obtain ⟨r3,hr3,hm4⟩:=bs hm2
 refine c_any mixed (effs:=[]) (V:=[]) ?_
 refine stn [0,1,0,7,0,0,32,127,255] [0,1,2,3,4,5,6,7,8] [] [_,_,_,_,_,_,_,_,_] (q_fa z z fa70_1 z (q_ld z z 0 sc22 z z z (q_mv z z z (q_u z z (o_callq ca246 z (DP.ok _ a1 _ hr1)) (q_mv z z z (q_fa z z fa70_0 z (q_ld z z 0 sc3 z z z (q_u z z (o_callq ca245 z (Dt.ok r1 a2 _ _ hr3)) (q_u z z (o_as z) qn))))))))) en ?_
 intro _
 refine ex_sub (E':=[(6,vI r3)]) ⟨z,y_⟩ ?_
 refine x_seq (c_ret ?_)
 obtain rfl:=si hm4
 refine ex_st (pk 1 []) ?_
 exact x_r1 z (rv_t z) le_ ⟨_,z,z,z,z⟩
def AU(a0:Ad)(a1:Str):Nat→Int→Int→Option (Int)
 | 0,_,_=>none
 | k7+1,n_5,i_6=>if decide (i_6<4) then (gi a0.Rows i_6).bind fun x12=>(AX a0 a1 i_6).bind fun r15=>(gi x12 r15).bind fun x17=>Option.bind (if decide (x17<n_5) then some x17 else some n_5) fun p19=>AU a0 a1 k7 p19 (i64 (i_6+1)) else some n_5
def Bb(a0:Ad)(a1:Str):Option Int :=
 Option.bind (AU a0 a1 5 15 0) fun p1=>some p1
theorem Bb.ok{G R F}(a0:Ad)(g0_:Ad.G)(h0:Ad.ro R a0 g0_)(a1:Str)(r:Int)(hm:Bb a0 a1=some r):CO prog 228 [.agg (Ad.k a0 g0_).toArray,vS a1] G R (F)
  (Ret fun u R' L'=>u=vI r∧R'=R∧L'=F):=by
 unfold Bb at hm
 refine co_ofN (N:=28) func228 z z ?_
 refine csr ?_
 refine r_new (o_bx (Ad.k a0 g0_) z z) fun b0 =>?_
 refine r_as z (nsr (r_as z (nssr (r_as z (nsq ?_)))))
 obtain ⟨p1,hp2,hm3⟩:=bs hm
 refine cd_join (E':=[(5,vI p1)]) (L':=Bk b0 70 (Ad.k a0 g0_)::F) ?_ fun K4 =>?_
 ·refine x_seq (csr (r_mv z (r_as z (r_nil (x_seq (c_ret ?_))))))
  obtain rfl:=si hm3
  refine ex_st (pk 1 []) ?_
  exact x_r1 z (rv_t z) le_ ⟨_,z,z,z,z⟩
 refine c_blk ?_
 refine cd_loop (M:=fun k7 (s:Int×Int)=>AU a0 a1 k7 s.1 s.2=some p1) (Ef:=fun (s:Int×Int)=>[(1,vS a1),(2,pt b0 0),(5,vI s.1),(6,vI s.2)]) (Lf:=fun (s:Int×Int)=>Bk b0 70 (Ad.k a0 g0_)::F) 5 (15,0) hp2 ⟨z,z,z,z,y_⟩ (fun _ h=>h) (fun _ h=>by cases h) fun k7 s hM9 =>?_
 obtain ⟨n_5,i_6⟩:=s
 have hm8:AU a0 a1 (k7+1) n_5 i_6=some p1:=hM9
 rw [AU] at hm8
 refine c_seq (csr (r_mv z (r_bin z z (bI_lt _ 4) (nsq ?_))))
 refine c_if (b:=decide (i_6<4)) z (fun h10 =>?_) fun h10 =>?_
 rotate_left
 ·have hm11:=iff_ hm8 h10
  refine c_exit (x_exit (ks':=_) z ?_)
  obtain rfl:=si hm11
  exact x_sub K4 ⟨z,y_⟩ id_
 have hm11:=ift hm8 h10
 refine c_skip (x_seq (c_seq (c_blk (c_seq ?_))))
 obtain ⟨x12,hx12,hm14⟩:=bs hm11
 obtain ⟨b12,o12,l12,T12,fr12,c12,u13,hv12,hR12,he12,hi12,hN12⟩:=RoN.ne h0.1 hx12
 obtain ⟨r15,hr15,hm16⟩:=bs hm14
 obtain ⟨x17,hx17,hm18⟩:=bs hm16
 obtain ⟨b17,o17,l17,T17,fr17,c17,hv17,hR17,he17,hi17⟩:=RoS.ne hN12 hx17
 refine c_any mixed (effs:=[]) (V:=[]) ?_
 refine stn [0,1,0,7,15,0,0,0,224,511,1023,2047] [0,1,2,3,4,5,6,7,8,9,10,11] [] [_,_,_,_,_,_,_,_,_,_,_,_] (q_fa z z fa70_2 z (q_ld z z 0 sc67 z z z (q_mv z z z (q_u z z (o_ix (sz:=1) underlying67 kr z z hv12 hi12) (q_u z z (o_ldR sc234 z hR12 (rok 0 he12 (by decide))) (q_u z z (o_ldn 0 (Ad.k a0 g0_) ag70 z z z z) (q_mv z z z (q_mv z z z (q_u z z (o_callq ca227 z (AX.ok a0 (⟨(g0_.Rows.1,[]),g0_.Door⟩:Ad.G) ⟨h0.1,h0.2⟩ a1 _ _ hr15)) (q_u z z (o_ix (sz:=1) underlying234 kr z z hv17 hi17) (q_u z z (o_ldR sc3 z hR17 (rok 0 he17 (by decide))) (q_u z z (o_as z) qn)))))))))))) en ?_
 intro _
 refine ex_sub (E':=[(1,vS a1),(2,pt b0 0),(5,vI n_5),(6,vI i_6),(7,vI x17)]) ⟨z,z,z,z,z,y_⟩ ?_
 refine x_seq (csr (r_mv z (r_mv z (r_bin z z (bI_lt _ _) (nsq ?_)))))
 obtain ⟨p19,hp20,hm21⟩:=bs hm18
 refine cd_join (E':=[(1,vS a1),(2,pt b0 0),(6,vI i_6),(5,vI p19)]) (L':=Bk b0 70 (Ad.k a0 g0_)::F) ?_ fun K22 =>?_
 ·refine x_blk (x_seq (c_reg (r_mv z (r_bin z z (bI_add _ 1) (r_as z (r_nil ?_))))))
  exact x_lp (p19,i64 (i_6+1)) hm21 ⟨z,z,z,z,y_⟩ id_
 refine c_if (b:=decide (x17<n_5)) z (fun h23 =>?_) fun h23 =>?_
 ·have hm24:=ift hp20 h23
  refine c_reg (r_mv z (r_as z (r_nil ?_)))
  obtain rfl:=si hm24
  exact x_sub K22 ⟨z,z,z,z,y_⟩ id_
 have hm24:=iff_ hp20 h23
 refine c_skip ?_
 obtain rfl:=si hm24
 exact x_sub K22 ⟨z,z,z,z,y_⟩ id_
def A5(a0:Ad)(i_12:Int):Nat→Int→(List (List Int))→Option (List (List Int))
 | 0,_,_=>none
 | k29+1,k_27,c_28=>if decide (k_27<a0.Wide) then (gi c_28 i_12).bind fun y34=>(gi a0.Rows i_12).bind fun x37=>(gi x37 k_27).bind fun x40=>(gi y34 k_27).bind fun x42=>A5 a0 i_12 k29 (i64 (k_27+1)) (ls c_28 i_12 (ls y34 k_27 (i64 (x40.tdiv 2)))) else some c_28
def Bi(a0:Ad):Nat→Int→(List (List Int))→Option (List (List Int))
 | 0,_,_=>none
 | k14+1,i_12,c_13=>if decide (i_12<4) then Option.bind (Option.bind (A5 a0 i_12 ((a0.Wide-0).toNat+1) 0 c_13) fun p23=>some p23) fun p19=>Bi a0 k14 (i64 (i_12+1)) p19 else some c_13
def Cj(a0:Ad):Option Ad :=
 (Cu a0.Wide a0.Seed).bind fun r2=>Option.bind (Bi a0 5 0 r2.Rows) fun p8=>some (⟨r2.Wide,r2.Seed,p8,r2.Door,i64 (a0.Added.tdiv 2)⟩:Ad)
theorem Cj.ok{G R F}(a0:Ad)(g0_:Ad.G)(h0:Ad.ro R a0 g0_)(r:Ad)(hm:Cj a0=some r):CO prog 229 [.agg (Ad.k a0 g0_).toArray] G R (F)
  (Ret fun u R' L'=>∃(p0:Ad.G),u = .agg (Ad.k r p0).toArray∧R'=R∧L'=OwS true 234 1 eV p0.Rows.1 p0.Rows.2::OwL (OwS true 3 1 eI) p0.Rows.2 r.Rows::OwS true 4 1 eB p0.Door r.Door::F):=by
 unfold Cj at hm
 refine co_ofN (N:=42) func229 z z ?_
 refine csr ?_
 refine r_new (o_bx (Ad.k a0 g0_) z z) fun b0 =>?_
 refine r_new (o_al ze70) fun b1 =>?_
 refine nsr (r_fa fa70_0 z (r_ld 1 sc3 z z z (r_fa fa70_1 z (r_ld 1 sc22 z z z ?_))))
 obtain ⟨r2,hr2,hm6⟩:=bs hm
 refine r_sw (s_w (o_call ca132 z (Cu.ok _ _ _ hr2))) ?_
 rintro _ R _ _ ⟨v3,rfl,rfl,rfl⟩
 refine r_new (o_al ze70) fun b7 =>?_
 refine rl_st (fun _ h=>mv2 (mv2 (mv3 h))) ?_
 refine r_u0 (ou_if (one_o 1 z) fun ho0=>ou_if (one_o 2 z) fun ho1=>o_stn ag70 z z z (a_ z (a_ z (a_ ho0 (a_ ho1 (a_ z al_n))))) z z z) ?_
 refine nssr (r_as z (nsq ?_))
 obtain ⟨p8,hp9,hm10⟩:=bs hm6
 refine cd_join (E':=[(1,pt b0 0),(2,pt b1 0),(3,pt b7 0)]) (L':=Bk b7 70 (Ad.k r2 v3)::Bk b1 70 [vI 0,vW 0,.slice none 0 0,.slice none 0 0,vI 0]::Bk b0 70 (Ad.k a0 g0_)::OwS true 234 1 eV v3.Rows.1 v3.Rows.2::OwS true 4 1 eB v3.Door r2.Door::OwL (OwS true 3 1 eI) v3.Rows.2 p8::F) ?_ fun K11 =>?_
 ·refine x_seq (csr (r_fa fa70_4 z (r_ld 2 sc3 z z z (r_bin z z (bI_quo _ 2 (by decide)) (r_fa fa70_4 z ?_)))))
  refine r_u0 (o_st sc3 z z z z z z) (nsr ?_)
  refine r_u (o_ldn 0 [vI r2.Wide,vW r2.Seed,v3.Rows.1,v3.Door,vI (i64 (a0.Added.tdiv 2))] ag70 z z z z) ?_
  refine rl_st (fun _ h=>mv3 (mv4 (mv4 h))) ?_
  refine r_u0 (ou_if (one_o 1 z) fun ho0=>ou_if (one_o 2 z) fun ho1=>o_stn ag70 z z z (a_ z (a_ z (a_ ho0 (a_ ho1 (a_ z al_n))))) z z z) ?_
  refine r_nil (x_seq (c_ret ?_))
  obtain rfl:=si hm10
  exact x_d1 z (rv_n 0 [vI r2.Wide,vW r2.Seed,v3.Rows.1,v3.Door,vI (i64 (a0.Added.tdiv 2))] ag70 z z z z) (pk 6 [1,5,2]) le_ ⟨_,z,v3,z,z,z⟩
 refine c_blk ?_
 refine cd_loop (M:=fun k14 (s:Int×List (List Int))=>Bi a0 k14 s.1 s.2=some p8) (Ef:=fun (s:Int×List (List Int))=>[(1,pt b0 0),(2,pt b1 0),(3,pt b7 0),(4,vI s.1)]) (Lf:=fun (s:Int×List (List Int))=>Bk b7 70 (Ad.k r2 v3)::Bk b1 70 [vI 0,vW 0,.slice none 0 0,.slice none 0 0,vI 0]::Bk b0 70 (Ad.k a0 g0_)::OwS true 234 1 eV v3.Rows.1 v3.Rows.2::OwS true 4 1 eB v3.Door r2.Door::OwL (OwS true 3 1 eI) v3.Rows.2 s.2::F) 5 (0,r2.Rows) hp9 ⟨z,z,z,z,y_⟩ (pk 6 [0,4,5,1,2,3]) (fun _ h=>by cases h) fun k14 s hM16 =>?_
 obtain ⟨i_12,c_13⟩:=s
 have hm15:Bi a0 (k14+1) i_12 c_13=some p8:=hM16
 rw [Bi] at hm15
 refine c_seq (csr (r_mv z (r_bin z z (bI_lt _ 4) (nsq ?_))))
 refine c_if (b:=decide (i_12<4)) z (fun h17 =>?_) fun h17 =>?_
 rotate_left
 ·have hm18:=iff_ hm15 h17
  refine c_exit (x_exit (ks':=_) z ?_)
  obtain rfl:=si hm18
  exact x_sub K11 ⟨z,z,z,y_⟩ id_
 have hm18:=ift hm15 h17
 refine c_skip (x_seq (c_seq ?_))
 obtain ⟨p19,hp20,hm21⟩:=bs hm18
 refine cd_join (E':=[(1,pt b0 0),(2,pt b1 0),(3,pt b7 0),(4,vI i_12)]) (L':=Bk b7 70 (Ad.k r2 v3)::Bk b1 70 [vI 0,vW 0,.slice none 0 0,.slice none 0 0,vI 0]::Bk b0 70 (Ad.k a0 g0_)::OwS true 234 1 eV v3.Rows.1 v3.Rows.2::OwS true 4 1 eB v3.Door r2.Door::OwL (OwS true 3 1 eI) v3.Rows.2 p19::F) ?_ fun K22 =>?_
 ·refine x_seq (c_reg (r_mv z (r_bin z z (bI_add _ 1) (r_as z (r_nil ?_)))))
  exact x_lp (i64 (i_12+1),p19) hm21 ⟨z,z,z,z,y_⟩ id_
 refine c_blk (csr (r_as z (nsq ?_)))
 obtain ⟨p23,hp24,hm25⟩:=bs hp20
 refine cd_join (E':=[(1,pt b0 0),(2,pt b1 0),(3,pt b7 0),(4,vI i_12)]) (L':=Bk b7 70 (Ad.k r2 v3)::Bk b1 70 [vI 0,vW 0,.slice none 0 0,.slice none 0 0,vI 0]::Bk b0 70 (Ad.k a0 g0_)::OwS true 234 1 eV v3.Rows.1 v3.Rows.2::OwS true 4 1 eB v3.Door r2.Door::OwL (OwS true 3 1 eI) v3.Rows.2 p23::F) ?_ fun K26 =>?_
 ·refine x_blk ?_
  obtain rfl:=si hm25
  exact x_sub K22 ⟨z,z,z,z,y_⟩ id_
 refine c_blk ?_
 refine cd_loop (M:=fun k29 (s:Int×List (List Int))=>A5 a0 i_12 k29 s.1 s.2=some p23) (Ef:=fun (s:Int×List (List Int))=>[(1,pt b0 0),(2,pt b1 0),(3,pt b7 0),(4,vI i_12),(5,vI s.1)]) (Lf:=fun (s:Int×List (List Int))=>Bk b7 70 (Ad.k r2 v3)::Bk b1 70 [vI 0,vW 0,.slice none 0 0,.slice none 0 0,vI 0]::Bk b0 70 (Ad.k a0 g0_)::OwS true 234 1 eV v3.Rows.1 v3.Rows.2::OwS true 4 1 eB v3.Door r2.Door::OwL (OwS true 3 1 eI) v3.Rows.2 s.2::F) ((a0.Wide-0).toNat+1) (0,c_13) hp24 ⟨z,z,z,z,z,y_⟩ (fun _ h=>h) (fun _ h=>by cases h) fun k29 s hM31 =>?_
 obtain ⟨k_27,c_28⟩:=s
 have hm30:A5 a0 i_12 (k29+1) k_27 c_28=some p23:=hM31
 rw [A5] at hm30
 refine c_seq (csr (r_mv z (r_fa fa70_0 z (r_ld 2 sc3 z z z (r_bin z z (bI_lt _ _) (nsq ?_))))))
 refine c_if (b:=decide (k_27<a0.Wide)) z (fun h32 =>?_) fun h32 =>?_
 rotate_left
 ·have hm33:=iff_ hm30 h32
  refine c_exit (x_exit (ks':=_) z ?_)
  obtain rfl:=si hm33
  exact x_sub K26 ⟨z,z,z,z,y_⟩ id_
 have hm33:=ift hm30 h32
 refine c_skip (x_seq (c_seq (c_blk ?_)))
 obtain ⟨y34,hy34,hm36⟩:=bs hm33
 refine cd_ex (fun w h=>st_peek 5 hy34 z w h) fun u35 hu35 =>?_
 obtain ⟨x37,hx37,hm39⟩:=bs hm36
 obtain ⟨b37,o37,l37,T37,fr37,c37,u38,hv37,hR37,he37,hi37,hN37⟩:=RoN.ne h0.1 hx37
 obtain ⟨x40,hx40,hm41⟩:=bs hm39
 obtain ⟨b40,o40,l40,T40,fr40,c40,hv40,hR40,he40,hi40⟩:=RoS.ne hN37 hx40
 obtain ⟨x42,hx42,hm43⟩:=bs hm41
 refine c_any mixed (effs:=[16]) (V:=[]) ?_
 refine stage_st (fun _ h=>mv5 h) ?_
 refine stn mk25_ [0,1,2,3,4,5,6,7,8,9,10,11,12,13,14,15] [16] [_,_,_,_,_,_,_,_,_,_,_,_,_,_,_,_] (q_fa z z fa70_2 z (q_ld z z 1 sc67 z z z (q_mv z z z (q_u z z (o_ixO 4 underlying67 kr z z z hu35) (q_u z z (o_ldO0 4 sc234 z z hu35 z z) (q_mv z z z (q_fa z z fa70_2 z (q_ld z z 3 sc67 z z z (q_mv z z z (q_u z z (o_ix (sz:=1) underlying67 kr z z hv37 hi37) (q_u z z (o_ldR sc234 z hR37 (rok 0 he37 (by decide))) (q_mv z z z (q_u z z (o_ix (sz:=1) underlying234 kr z z hv40 hi40) (q_u z z (o_ldR sc3 z hR40 (rok 0 he40 (by decide))) (q_u z z (o_bin z z (bI_quo _ 2 (by decide))) (q_u z z (o_ixK (kn_in 0 z hu35 hy34) underlying234 kr z z hx42) qn)))))))))))))))) ?_ (nxt z)
 refine ec (eo_u z (s_u (o_stL (c':=i64 (x40.tdiv 2)) 0 hu35 hy34 sc3 z z z hx42 z z z)) le_ ?_) en
 refine stage z z z z mk25_ [] [] z z z qn en ?_
 intro _
 refine ex_sub (E':=[(1,pt b0 0),(2,pt b1 0),(3,pt b7 0),(4,vI i_12),(5,vI k_27)]) ⟨z,z,z,z,z,y_⟩ ?_
 refine x_blk (x_seq (c_reg (r_mv z (r_bin z z (bI_add _ 1) (r_as z (r_nil ?_))))))
 exact x_lp (i64 (k_27+1),ls c_28 i_12 (ls y34 k_27 (i64 (x40.tdiv 2)))) hm43 ⟨z,z,z,z,z,y_⟩ (pk 6 [1,2,3,4,5,0])
def AZ(a0:Ad)(a1:Str)(r41:Int):Nat→Int→(List (List Int))→Option (List (List Int))
 | 0,_,_=>none
 | k49+1,i_47,c_48=>if decide (i_47<4) then (AX a0 a1 i_47).bind fun r54=>(gi a0.Rows i_47).bind fun x56=>(gi x56 r54).bind fun x59=>Option.bind (if ((x59==r41)&&decide (r41<15)) then (gi c_48 i_47).bind fun y67=>(gi y67 r54).bind fun x70=>some (ls c_48 i_47 (ls y67 r54 (i64 (x70+1)))) else some c_48) fun p61=>AZ a0 a1 r41 k49 (i64 (i_47+1)) p61 else some c_48
def A6(a0:Ad):Nat→Int→(List (List Int))→Option (List (List Int))
 | 0,_,_=>none
 | k74+1,i_72,c_73=>if decide (i_72<4) then (gi c_73 i_72).bind fun y79=>(gi a0.Rows i_72).bind fun x82=>(cpy y79 x82).bind fun l85=>A6 a0 k74 (i64 (i_72+1)) (ls c_73 i_72 l85) else some c_73
def Bc(a0:Ad)(a1:Str):Option Ad :=
 (Cu a0.Wide a0.Seed).bind fun r2=>(cpy r2.Door a0.Door).bind fun l8=>Option.bind (A6 a0 5 0 r2.Rows) fun p10=>(AX a0 a1 4).bind fun r14=>(gi a0.Door r14).bind fun x16=>Option.bind (if !x16 then (gi l8 r14).bind fun x39=>some (ls l8 r14 true,p10) else (Bb a0 a1).bind fun r41=>Option.bind (AZ a0 a1 r41 5 0 p10) fun p43=>some (l8,p43)) fun p18=>if decide ((i64 (10*a0.Wide))≤(i64 (a0.Added+1))) then (Cj (⟨r2.Wide,r2.Seed,p18.2,p18.1,i64 (a0.Added+1)⟩:Ad)).bind fun r32=>some r32 else some (⟨r2.Wide,r2.Seed,p18.2,p18.1,i64 (a0.Added+1)⟩:Ad)
theorem Bc.ok{G R F}(a0:Ad)(g0_:Ad.G)(h0:Ad.ro R a0 g0_)(a1:Str)(r:Ad)(hm:Bc a0 a1=some r):CO prog 177 [.agg (Ad.k a0 g0_).toArray,vS a1] G R (F)
  (Ret fun u R' L'=>∃(p0:Ad.G),u = .agg (Ad.k r p0).toArray∧True∧L'=OwS true 234 1 eV p0.Rows.1 p0.Rows.2::OwL (OwS true 3 1 eI) p0.Rows.2 r.Rows::OwS true 4 1 eB p0.Door r.Door::F):=by
 unfold Bc at hm
 refine co_ofN (N:=97) func177 z z ?_
 refine csr ?_
 refine r_new (o_bx (Ad.k a0 g0_) z z) fun b0 =>?_
 refine r_new (o_al ze70) fun b1 =>?_
 refine nsr (r_fa fa70_0 z (r_ld 1 sc3 z z z (r_fa fa70_1 z (r_ld 1 sc22 z z z ?_))))
 obtain ⟨r2,hr2,hm6⟩:=bs hm
 refine r_sw (s_w (o_call ca132 z (Cu.ok _ _ _ hr2))) ?_
 rintro _ R _ _ ⟨v3,rfl,rfl,rfl⟩
 refine r_new (o_al ze70) fun b7 =>?_
 refine rl_st (fun _ h=>mv2 (mv2 (mv3 h))) ?_
 refine r_u0 (ou_if (one_o 1 z) fun ho0=>ou_if (one_o 2 z) fun ho1=>o_stn ag70 z z z (a_ z (a_ z (a_ ho0 (a_ ho1 (a_ z al_n))))) z z z) ?_
 refine nsr (r_fa fa70_3 z (r_ld 0 sc68 z z z (r_fa fa70_3 z (r_ld 5 sc68 z z z ?_))))
 obtain ⟨l8,hl8,hm9⟩:=bs hm6
 refine rl_st (fun _ h=>mv2 h) ?_
 refine r_u (o_cp underlying68 z z (fun _=>⟨_,z,z⟩) z z z h0.2 hl8) (nssr (r_as z (nsq ?_)))
 obtain ⟨p10,hp11,hm12⟩:=bs hm9
 refine cd_join (E':=[(1,vS a1),(2,pt b0 0),(4,pt b1 0),(5,pt b7 0)]) (L':=Bk b7 70 (Ad.k r2 v3)::Bk b1 70 [vI 0,vW 0,.slice none 0 0,.slice none 0 0,vI 0]::Bk b0 70 (Ad.k a0 g0_)::OwS true 4 1 eB v3.Door l8::OwS true 234 1 eV v3.Rows.1 v3.Rows.2::OwL (OwS true 3 1 eI) v3.Rows.2 p10::F) ?_ fun K13 =>?_
 rotate_left
 ·refine c_blk ?_
  refine cd_loop (M:=fun k74 (s:Int×List (List Int))=>A6 a0 k74 s.1 s.2=some p10) (Ef:=fun (s:Int×List (List Int))=>[(1,vS a1),(2,pt b0 0),(4,pt b1 0),(5,pt b7 0),(6,vI s.1)]) (Lf:=fun (s:Int×List (List Int))=>Bk b7 70 (Ad.k r2 v3)::Bk b1 70 [vI 0,vW 0,.slice none 0 0,.slice none 0 0,vI 0]::Bk b0 70 (Ad.k a0 g0_)::OwS true 4 1 eB v3.Door l8::OwS true 234 1 eV v3.Rows.1 v3.Rows.2::OwL (OwS true 3 1 eI) v3.Rows.2 s.2::F) 5 (0,r2.Rows) hp11 ⟨z,z,z,z,z,y_⟩ (pk 6 [1,4,5,0,2,3]) (fun _ h=>by cases h) fun k74 s hM76 =>?_
  obtain ⟨i_72,c_73⟩:=s
  have hm75:A6 a0 (k74+1) i_72 c_73=some p10:=hM76
  rw [A6] at hm75
  refine c_seq (csr (r_mv z (r_bin z z (bI_lt _ 4) (nsq ?_))))
  refine c_if (b:=decide (i_72<4)) z (fun h77 =>?_) fun h77 =>?_
  rotate_left
  ·have hm78:=iff_ hm75 h77
   refine c_exit (x_exit (ks':=_) z ?_)
   obtain rfl:=si hm78
   exact x_sub K13 ⟨z,z,z,z,y_⟩ id_
  have hm78:=ift hm75 h77
  refine c_skip (x_seq (c_seq (c_blk ?_)))
  obtain ⟨y79,hy79,hm81⟩:=bs hm78
  refine cd_ex (fun w h=>st_peek 5 hy79 z w h) fun u80 hu80 =>?_
  obtain ⟨x82,hx82,hm84⟩:=bs hm81
  obtain ⟨b82,o82,l82,T82,fr82,c82,u83,hv82,hR82,he82,hi82,hN82⟩:=RoN.ne h0.1 hx82
  obtain ⟨l85,hl85,hm86⟩:=bs hm84
  refine c_any mixed (effs:=[10]) (V:=[]) ?_
  refine stage_st (fun _ h=>mv5 h) ?_
  refine stn mk26_ [0,1,2,3,4,5,6,7,8,9] [10] [_,_,_,_,_,_,_,_,_,_] (q_fa z z fa70_2 z (q_ld z z 1 sc67 z z z (q_mv z z z (q_u z z (o_ixO 5 underlying67 kr z z z hu80) (q_u z z (o_ldO0 5 sc234 z z hu80 z z) (q_fa z z fa70_2 z (q_ld z z 3 sc67 z z z (q_mv z z z (q_u z z (o_ix (sz:=1) underlying67 kr z z hv82 hi82) (q_u z z (o_ldR sc234 z hR82 (rok 0 he82 (by decide))) qn)))))))))) ?_ (nxt z)
  refine ec (eo_u z (s_u (o_cpL hu80 hy79 underlying234 z z (fun _=>⟨_,z,z⟩) z z z hN82 hl85)) le_ ?_) en
  refine stage z z z z mk26_ [] [] z z z qn en ?_
  intro _
  refine ex_sub (E':=[(1,vS a1),(2,pt b0 0),(4,pt b1 0),(5,pt b7 0),(6,vI i_72)]) ⟨z,z,z,z,z,y_⟩ ?_
  refine x_blk (x_seq (c_reg (r_mv z (r_bin z z (bI_add _ 1) (r_as z (r_nil ?_))))))
  exact x_lp (i64 (i_72+1),ls c_73 i_72 l85) hm86 ⟨z,z,z,z,z,y_⟩ (pk 6 [1,2,3,4,5,0])
 refine x_seq (csr (r_fa fa70_4 z (r_ld 2 sc3 z z z (r_bin z z (bI_add _ 1) (r_fa fa70_4 z ?_)))))
 refine r_u0 (o_st sc3 z z z z z z) (nssr ?_)
 refine r_u (o_ldn 2 (Ad.k a0 g0_) ag70 z z z z) (r_mv z ?_)
 obtain ⟨r14,hr14,hm15⟩:=bs hm12
 refine r_u (o_callq ca227 z (AX.ok a0 (⟨(g0_.Rows.1,[]),g0_.Door⟩:Ad.G) ⟨h0.1,h0.2⟩ a1 4 _ hr14)) (r_as z (nsr (r_fa fa70_3 z (r_ld 2 sc68 z z z (r_mv z ?_)))))
 obtain ⟨x16,hx16,hm17⟩:=bs hm15
 obtain ⟨b16,o16,l16,T16,fr16,c16,hv16,hR16,he16,hi16⟩:=RoS.ne h0.2 hx16
 refine r_u (o_ix (sz:=1) underlying68 kr z z hv16 hi16) ?_
 refine r_u (o_ldR sc4 z hR16 (rok 0 he16 (by decide))) ?_
 refine r_u (o_not z) (nsq ?_)
 obtain ⟨p18,hp19,hm20⟩:=bs hm17
 refine cd_join (E':=[(2,pt b0 0),(4,pt b1 0),(5,pt b7 0)]) (L':=Bk b7 70 [vI r2.Wide,vW r2.Seed,v3.Rows.1,v3.Door,vI (i64 (a0.Added+1))]::Bk b1 70 [vI 0,vW 0,.slice none 0 0,.slice none 0 0,vI 0]::Bk b0 70 (Ad.k a0 g0_)::OwS true 4 1 eB v3.Door p18.1::OwS true 234 1 eV v3.Rows.1 v3.Rows.2::OwL (OwS true 3 1 eI) v3.Rows.2 p18.2::F) ?_ fun K21 =>?_
 ·refine x_seq (c_seq (csr (r_fa fa70_4 z (r_ld 0 sc3 z z z (r_fa fa70_0 z (r_ld 2 sc3 z z z (r_bin z z (bI_mul 10 _) (r_bin z z (bI_ge _ _) (nsq ?_)))))))))
  refine c_if (b:=decide ((i64 (10*a0.Wide))≤(i64 (a0.Added+1)))) z (fun h22 =>?_) fun h22 =>?_
  ·have hm23:=ift hm20 h22
   refine csr ?_
   refine r_u (o_ldn 0 [vI r2.Wide,vW r2.Seed,v3.Rows.1,v3.Door,vI (i64 (a0.Added+1))] ag70 z z z z) ?_
   refine rl_st (fun _ h=>mv5 (mv5 h)) ?_
   refine rl_ex (fun w h=>st_freezeN w h) fun R24 hf27 =>?_
   obtain ⟨le25,h26⟩:=hf27
   refine rl_st (fun _ h=>mv3 h) ?_
   refine rl_ex (fun w h=>st_freeze w h) fun R28 hf31 =>?_
   obtain ⟨le29,h30⟩:=hf31
   obtain ⟨r32,hr32,hm36⟩:=bs hm23
   refine r_sw (s_w (o_call ca229 z (Cj.ok (⟨r2.Wide,r2.Seed,p18.2,p18.1,i64 (a0.Added+1)⟩:Ad) (⟨(v3.Rows.1,[]),v3.Door⟩:Ad.G) ⟨(RoN.mono le29 h26),h30⟩ _ hr32))) ?_
   rintro _ R28 _ _ ⟨v33,rfl,rfl,rfl⟩
   refine rl_st (fun _ h=>mv4 (mv1 (mv2 h))) ?_
   refine r_u0 (ou_if (one_o 1 z) fun ho0=>ou_if (one_o 2 z) fun ho1=>o_stn ag70 z z z (a_ z (a_ z (a_ ho0 (a_ ho1 (a_ z al_n))))) z z z) ?_
   refine r_nil (x_seq (c_ret ?_))
   obtain rfl:=si hm36
   exact x_d1 z (rv_n 0 (Ad.k r32 v33) ag70 z z z z) (pk 6 [1,3,2]) (Le.trans le25 le29) ⟨_,z,v33,z,trivial,z⟩
  have hm23:=iff_ hm20 h22
  refine c_skip (x_seq (csr ?_))
  refine r_u (o_ldn 0 [vI r2.Wide,vW r2.Seed,v3.Rows.1,v3.Door,vI (i64 (a0.Added+1))] ag70 z z z z) ?_
  refine rl_st (fun _ h=>mv3 (mv4 (mv3 h))) ?_
  refine r_u0 (ou_if (one_o 1 z) fun ho0=>ou_if (one_o 2 z) fun ho1=>o_stn ag70 z z z (a_ z (a_ z (a_ ho0 (a_ ho1 (a_ z al_n))))) z z z) ?_
  refine r_nil (x_seq (c_ret ?_))
  obtain rfl:=si hm23
  exact x_d1 z (rv_n 0 [vI r2.Wide,vW r2.Seed,v3.Rows.1,v3.Door,vI (i64 (a0.Added+1))] ag70 z z z z) (pk 6 [1,5,2]) le_ ⟨_,z,v3,z,trivial,z⟩
 refine c_if (b := !x16) z (fun h37 =>?_) fun h37 =>?_
 ·have hm38:=ift hp19 h37
  refine c_reg (r_fa fa70_3 z (r_ld 0 sc68 z z z (r_mv z ?_)))
  obtain ⟨x39,hx39,hm40⟩:=bs hm38
  refine r_u (o_ixO 3 underlying68 kr z z z hx39) ?_
  refine rl_st (fun _ h=>mv3 h) ?_
  refine r_u0 (o_stO0 (c':=true) sc4 z z z hx39 z z z) (r_nil ?_)
  obtain rfl:=si hm40
  exact x_sub K21 ⟨z,z,z,y_⟩ (pk 6 [1,2,3,0,4,5])
 have hm38:=iff_ hp19 h37
 refine csr ?_
 refine r_u (o_ldn 2 (Ad.k a0 g0_) ag70 z z z z) (r_mv z ?_)
 obtain ⟨r41,hr41,hm42⟩:=bs hm38
 refine r_u (o_callq ca228 z (Bb.ok a0 (⟨(g0_.Rows.1,[]),g0_.Door⟩:Ad.G) ⟨h0.1,h0.2⟩ a1 _ hr41)) (r_as z (nsr (r_as z (nsq ?_))))
 obtain ⟨p43,hp44,hm45⟩:=bs hm42
 refine cd_join (E':=[(2,pt b0 0),(4,pt b1 0),(5,pt b7 0)]) (L':=Bk b7 70 [vI r2.Wide,vW r2.Seed,v3.Rows.1,v3.Door,vI (i64 (a0.Added+1))]::Bk b1 70 [vI 0,vW 0,.slice none 0 0,.slice none 0 0,vI 0]::Bk b0 70 (Ad.k a0 g0_)::OwS true 4 1 eB v3.Door l8::OwS true 234 1 eV v3.Rows.1 v3.Rows.2::OwL (OwS true 3 1 eI) v3.Rows.2 p43::F) ?_ fun K46 =>?_
 ·obtain rfl:=si hm45
  exact x_sub K21 ⟨z,z,z,y_⟩ id_
 refine c_blk ?_
 refine cd_loop (M:=fun k49 (s:Int×List (List Int))=>AZ a0 a1 r41 k49 s.1 s.2=some p43) (Ef:=fun (s:Int×List (List Int))=>[(1,vS a1),(2,pt b0 0),(4,pt b1 0),(5,pt b7 0),(8,vI r41),(9,vI s.1)]) (Lf:=fun (s:Int×List (List Int))=>Bk b7 70 [vI r2.Wide,vW r2.Seed,v3.Rows.1,v3.Door,vI (i64 (a0.Added+1))]::Bk b1 70 [vI 0,vW 0,.slice none 0 0,.slice none 0 0,vI 0]::Bk b0 70 (Ad.k a0 g0_)::OwS true 4 1 eB v3.Door l8::OwS true 234 1 eV v3.Rows.1 v3.Rows.2::OwL (OwS true 3 1 eI) v3.Rows.2 s.2::F) 5 (0,p10) hp44 ⟨z,z,z,z,z,z,y_⟩ (fun _ h=>h) (fun _ h=>by cases h) fun k49 s hM51 =>?_
 obtain ⟨i_47,c_48⟩:=s
 have hm50:AZ a0 a1 r41 (k49+1) i_47 c_48=some p43:=hM51
 rw [AZ] at hm50
 refine c_seq (csr (r_mv z (r_bin z z (bI_lt _ 4) (nsq ?_))))
 refine c_if (b:=decide (i_47<4)) z (fun h52 =>?_) fun h52 =>?_
 rotate_left
 ·have hm53:=iff_ hm50 h52
  refine c_exit (x_exit (ks':=_) z ?_)
  obtain rfl:=si hm53
  exact x_sub K46 ⟨z,z,z,y_⟩ id_
 have hm53:=ift hm50 h52
 refine c_skip (x_seq (c_seq (c_blk (csr ?_))))
 refine r_u (o_ldn 2 (Ad.k a0 g0_) ag70 z z z z) (r_mv z (r_mv z ?_))
 obtain ⟨r54,hr54,hm55⟩:=bs hm53
 refine r_u (o_callq ca227 z (AX.ok a0 (⟨(g0_.Rows.1,[]),g0_.Door⟩:Ad.G) ⟨h0.1,h0.2⟩ a1 _ _ hr54)) (r_as z (nsr (r_fa fa70_2 z (r_ld 2 sc67 z z z (r_mv z ?_)))))
 obtain ⟨x56,hx56,hm58⟩:=bs hm55
 obtain ⟨b56,o56,l56,T56,fr56,c56,u57,hv56,hR56,he56,hi56,hN56⟩:=RoN.ne h0.1 hx56
 refine r_u (o_ix (sz:=1) underlying67 kr z z hv56 hi56) ?_
 refine r_u (o_ldR sc234 z hR56 (rok 0 he56 (by decide))) (r_mv z ?_)
 obtain ⟨x59,hx59,hm60⟩:=bs hm58
 obtain ⟨b59,o59,l59,T59,fr59,c59,hv59,hR59,he59,hi59⟩:=RoS.ne hN56 hx59
 refine r_u (o_ix (sz:=1) underlying234 kr z z hv59 hi59) ?_
 refine r_u (o_ldR sc3 z hR59 (rok 0 he59 (by decide))) (r_mv z (r_bin z z (bI_eq _ _) (r_mv z ?_)))
 refine r_s (s_gt z z fun g=>o_mv z) ?_
 refine r_s (s_gt z z fun g=>o_bin (evg z g) z (bI_lt _ 15)) ?_
 refine r_u (o_and z z) (nsq ?_)
 obtain ⟨p61,hp62,hm63⟩:=bs hm60
 refine cd_join (E':=[(1,vS a1),(2,pt b0 0),(4,pt b1 0),(5,pt b7 0),(8,vI r41),(9,vI i_47)]) (L':=Bk b7 70 [vI r2.Wide,vW r2.Seed,v3.Rows.1,v3.Door,vI (i64 (a0.Added+1))]::Bk b1 70 [vI 0,vW 0,.slice none 0 0,.slice none 0 0,vI 0]::Bk b0 70 (Ad.k a0 g0_)::OwL (OwS true 3 1 eI) v3.Rows.2 p61::OwS true 4 1 eB v3.Door l8::OwS true 234 1 eV v3.Rows.1 v3.Rows.2::F) ?_ fun K64 =>?_
 ·refine x_blk (x_seq (c_reg (r_mv z (r_bin z z (bI_add _ 1) (r_as z (r_nil ?_))))))
  exact x_lp (i64 (i_47+1),p61) hm63 ⟨z,z,z,z,z,z,y_⟩ (pk 6 [0,1,2,4,5,3])
 refine c_if (b:=((x59==r41)&&decide (r41<15))) z (fun h65 =>?_) fun h65 =>?_
 rotate_left
 ·have hm66:=iff_ hp62 h65
  refine c_skip ?_
  obtain rfl:=si hm66
  exact x_sub K64 ⟨z,z,z,z,z,z,y_⟩ (pk 6 [0,1,2,5,3,4])
 have hm66:=ift hp62 h65
 refine c_reg (r_fa fa70_2 z (r_ld 0 sc67 z z z (r_mv z ?_)))
 obtain ⟨y67,hy67,hm69⟩:=bs hm66
 refine rl_ex (fun w h=>st_peek 5 hy67 z w h) fun u68 hu68 =>?_
 refine r_u (o_ixO 4 underlying67 kr z z z hu68) (r_u (o_ldO0 4 sc234 z z hu68 z z) (r_mv z ?_))
 obtain ⟨x70,hx70,hm71⟩:=bs hm69
 refine r_u (o_ixK (kn_in 5 z hu68 hy67) underlying234 kr z z hx70) ?_
 refine r_u (o_ldK (kn_in 5 z hu68 hy67) 0 sc3 z hx70 z z) (r_bin z z (bI_add _ 1) ?_)
 refine r_u (o_ixK (kn_in 5 z hu68 hy67) underlying234 kr z z hx70) ?_
 refine rl_st (fun _ h=>mv5 h) ?_
 refine r_u0 (o_stL (c':=i64 (x70+1)) 0 hu68 hy67 sc3 z z z hx70 z z z) (r_nil ?_)
 obtain rfl:=si hm71
 exact x_sub K64 ⟨z,z,z,z,z,z,y_⟩ (pk 6 [1,2,3,0,4,5])
def AH(a0:Ae)(a1:Int)(a2:Str):Option Ae :=
 (A2 a0.R a1 a2).bind fun r2=>some (⟨a0.Most,a0.S,r2.1⟩:Ae)
theorem AH.ok{G R F}(a0:Ae)(g0_:Ae.G)(h0:Ae.ro R a0 g0_)(a1:Int)(a2:Str)(r:Ae)(hm:AH a0 a1 a2=some r):CO prog 178 [.agg (Ae.k a0 g0_).toArray,vI a1,vS a2] G R (F)
  (Ret fun u R' L'=>∃(p0:Ae.G),u = .agg (Ae.k r p0).toArray∧(Ae.ro R' r p0)∧L'=F):=by
 unfold AH at hm
 refine co_ofN (N:=17) func178 z z ?_
 refine csr ?_
 refine r_new (o_bx (Ae.k a0 g0_) z z) fun b0 =>?_
 refine r_new (o_al ze72) fun b1 =>?_
 refine nsr (r_fa fa72_2 z ?_)
 refine r_u (o_ldn 1 [g0_.R.L.1,vI a0.R.Places] ag64 z z z z) (r_mv z (r_mv z ?_))
 obtain ⟨r2,hr2,hm8⟩:=bs hm
 refine r_sw (s_w (o_call ca226 z (A2.ok _ (⟨(g0_.R.L.1,[])⟩:Ab.G) h0.2 a1 a2 _ hr2))) ?_
 rintro _ R6 _ le7 ⟨v3,rfl,hf4,rfl⟩
 refine r_mv z (r_ext z z (r_ext z z (r_fa fa72_2 z ?_)))
 refine rl_st (fun _ h=>mv1 h) ?_
 refine r_u0 (o_stn ag64 z z z (a_ (RoN.one hf4) (a_ z al_n)) z z z) (nsr ?_)
 refine r_u (o_ldn 0 [vI a0.Most,vI a0.S.Wide,vW a0.S.Seed,g0_.S.Rows.1,g0_.S.Door,vI a0.S.Added,v3.L.1,vI r2.1.Places] ag72 z z z z) ?_
 refine rl_st (fun _ h=>mv1 h) ?_
 refine r_u0 (o_stn ag72 z z z (a_ z (a_ z (a_ z (a_ (RoN.one (RoN.mono le7 h0.1.1)) (a_ (RoS.one (RoS.mono le7 h0.1.2)) (a_ z (a_ (RoN.one hf4) (a_ z al_n)))))))) z z z) (r_nil (x_seq (c_ret ?_)))
 obtain rfl:=si hm8
 exact x_d1 z (rv_n 0 [vI a0.Most,vI a0.S.Wide,vW a0.S.Seed,g0_.S.Rows.1,g0_.S.Door,vI a0.S.Added,v3.L.1,vI r2.1.Places] ag72 z z z z) (pk 2 []) le7 ⟨_,z,(⟨(⟨(g0_.S.Rows.1,[]),g0_.S.Door⟩:Ad.G),(⟨(v3.L.1,[])⟩:Ab.G)⟩:Ae.G),z,⟨⟨(RoN.mono le7 h0.1.1),(RoS.mono le7 h0.1.2)⟩,hf4⟩,z⟩
def Cn(a0:Int):Int×Int :=
 lt (if decide ((i64 (a0.tdiv 8))<1) then 1 else i64 (a0.tdiv 8)) fun p0=>(p0,i64 ((i64 ((i64 (a0-p0))*4)).tdiv 5))
theorem Cn.ok{G R F}(a0:Int)(r:Int×Int)(hm:Cn a0=r):CO prog 179 [vI a0] G R (F)
  (Ret fun u R' L'=>u = .tuple #[vI r.1,vI r.2]∧R'=R∧L'=F):=by
 unfold Cn at hm
 refine co_ofN (N:=15) func179 z z ?_
 refine csr (r_as z (r_as z (nsr (r_mv z (r_bin z z (bI_quo a0 8 (by decide)) (r_as z (nssr (r_mv z (r_bin z z (bI_lt _ 1) (nsq ?_))))))))))
 obtain ⟨p0,hp1,hm2⟩:=ltx hm
 refine cd_join (E':=[(0,vI a0),(4,vI p0)]) (L':=F) ?_ fun K3 =>?_
 ·refine x_seq (csr (r_mv z (r_mv z (r_mv z (r_bin z z (bI_sub a0 p0) (r_bin z z (bI_mul _ 4) (r_u (o_bin z z (bI_quo _ 5 (by decide))) (r_as z (r_as z (r_nil (x_seq (c_ret ?_))))))))))))
  subst hm2
  exact x_r2 z (rv_t z) (rv_t z) le_ ⟨_,z,z,z,z⟩
 refine c_if (b:=decide ((i64 (a0.tdiv 8))<1)) z (fun h4 =>?_) fun h4 =>?_
 ·have hm5:=ift hp1 h4
  refine c_reg (r_as z (r_nil ?_))
  subst hm5
  exact x_sub K3 ⟨z,z,y_⟩ id_
 have hm5:=iff_ hp1 h4
 refine c_skip ?_
 subst hm5
 exact x_sub K3 ⟨z,z,y_⟩ id_
def Ay(a0:Ab)(a1:Int):Option (Str×Bool) :=
 Option.bind (if (decide (a1<0)||decide ((a0.L.length:Int)≤a1)) then some true else (gi a0.L a1).bind fun x14=>some ((x14.length:Int)==0)) fun p1=>if p1 then some ([],false) else (gi a0.L a1).bind fun x7=>(gi x7 (i64 ((x7.length:Int)-1))).bind fun x10=>some (x10,true)
theorem Ay.ok{G R F}(a0:Ab)(g0_:Ab.G)(h0:Ab.ro R a0 g0_)(a1:Int)(r:Str×Bool)(hm:Ay a0 a1=some r):CO prog 180 [.agg [g0_.L.1,vI a0.Places].toArray,vI a1] G R (F)
  (Ret fun u R' L'=>u = .tuple #[vS r.1,vB r.2]∧R'=R∧L'=F):=by
 unfold Ay at hm
 refine co_ofN (N:=38) func180 z z ?_
 refine csr ?_
 refine r_new (o_bx [g0_.L.1,vI a0.Places] z z) fun b0 =>?_
 refine r_as z (r_as z (r_nil (x_seq (c_seq (c_seq ?_)))))
 obtain ⟨p1,hp2,hm3⟩:=bs hm
 refine cd_join (E':=[(1,vI a1),(2,pt b0 0),(23,vB p1)]) (L':=Bk b0 64 [g0_.L.1,vI a0.Places]::F) ?_ fun K4 =>?_
 ·refine x_seq ?_
  refine c_if (b:=p1) z (fun h5 =>?_) fun h5 =>?_
  ·have hm6:=ift hm3 h5
   refine csr (r_as z (r_as z (r_nil (x_seq (c_ret ?_)))))
   obtain rfl:=si hm6
   refine ex_st (pk 1 []) ?_
   exact x_r2 z (rv_t z) (rv_t z) le_ ⟨_,z,z,z,z⟩
  have hm6:=iff_ hm3 h5
  refine c_skip (x_seq (c_seq ?_))
  obtain ⟨x7,hx7,hm9⟩:=bs hm6
  obtain ⟨b7,o7,l7,T7,fr7,c7,u8,hv7,hR7,he7,hi7,hN7⟩:=RoN.ne h0 hx7
  obtain ⟨x10,hx10,hm11⟩:=bs hm9
  obtain ⟨b10,o10,l10,T10,fr10,c10,hv10,hR10,he10,hi10⟩:=RoS.ne hN7 hx10
  refine c_any mixed (effs:=[]) (V:=[]) ?_
  refine stn [0,1,0,7,15,0,32,0,224,480,992,2016,4095,8191,16383,32767] [0,1,2,3,4,5,6,7,8,9,10,11,12,13,14,15] [] [_,_,_,_,_,_,_,_,_,_,_,_,_,_,_,_] (q_fa z z fa64_0 z (q_ld z z 0 sc62 z z z (q_mv z z z (q_u z z (o_ix (sz:=1) underlying62 kr z z hv7 hi7) (q_u z z (o_ldR sc98 z hR7 (rok 0 he7 (by decide))) (q_fa z z fa64_0 z (q_ld z z 0 sc62 z z z (q_mv z z z (q_u z z (o_ix (sz:=1) underlying62 kr z z hv7 hi7) (q_u z z (o_ldR sc98 z hR7 (rok 0 he7 (by decide))) (q_u z z (o_lenR underlying98 z hN7) (q_u z z (o_bin z z (bI_sub _ 1)) (q_u z z (o_ix (sz:=1) underlying98 kr z z hv10 hi10) (q_u z z (o_ldR sc9 z hR10 (rok 0 he10 (by decide))) (q_u z z (o_as z) (q_u z z (o_as z) qn)))))))))))))))) en ?_
  intro _
  refine ex_sub (E':=[(4,vS x10),(5,vB true)]) ⟨z,z,y_⟩ ?_
  refine x_seq (c_ret ?_)
  obtain rfl:=si hm11
  refine ex_st (pk 1 []) ?_
  exact x_r2 z (rv_t z) (rv_t z) le_ ⟨_,z,z,z,z⟩
 refine cd_by (decide (a1<0)||decide ((a0.L.length:Int)≤a1)) (fun h12 =>?_) fun h12 =>?_
 ·have hm13:=ift hp2 h12
  refine c_reg (r_mv z (r_bin z z (bI_lt a1 0) (r_mv z ?_)))
  refine r_s (s_gf z z fun g=>o_mv z) ?_
  refine r_s (s_gf z z fun g=>o_fa fa64_0 z) ?_
  refine r_s (s_gf z z fun g=>o_ld 0 sc62 (evg z g) z z) ?_
  refine r_s (s_gf z z fun g=>o_lenRN underlying62 (evg z g) h0) ?_
  refine r_s (s_gf z z fun g=>o_bin (evg z g) (evg z g) (bI_ge a1 _)) ?_
  refine r_u (o_or z z) (r_mv z ?_)
  refine r_s (s_n z z h12) ?_
  refine r_s (s_n z z h12) ?_
  refine r_s (s_n z z h12) ?_
  refine r_s (s_n z z h12) ?_
  refine r_s (s_n z z h12) ?_
  refine r_s (s_n z z h12) ?_
  refine r_s (s_n z z h12) ?_
  refine r_u (o_pt z h12 z) (r_nil ?_)
  obtain rfl:=si hm13
  exact x_sub K4 ⟨z,z,z,y_⟩ id_
 have hm13:=iff_ hp2 h12
 refine c_reg (r_mv z (r_bin z z (bI_lt a1 0) (r_mv z ?_)))
 refine r_s (s_gf z z fun g=>o_mv z) ?_
 refine r_s (s_gf z z fun g=>o_fa fa64_0 z) ?_
 refine r_s (s_gf z z fun g=>o_ld 0 sc62 (evg z g) z z) ?_
 refine r_s (s_gf z z fun g=>o_lenRN underlying62 (evg z g) h0) ?_
 refine r_s (s_gf z z fun g=>o_bin (evg z g) (evg z g) (bI_ge a1 _)) ?_
 refine r_u (o_or z z) (r_mv z ?_)
 refine r_s (s_y z z h12 (o_fa fa64_0 z)) ?_
 refine r_s (s_y z z h12 (o_ld 0 sc62 z z z)) ?_
 refine r_s (s_y z z h12 (o_mv z)) ?_
 obtain ⟨x14,hx14,hm16⟩:=bs hm13
 obtain ⟨b14,o14,l14,T14,fr14,c14,u15,hv14,hR14,he14,hi14,hN14⟩:=RoN.ne h0 hx14
 refine r_s (s_y z z h12 (o_ix (sz:=1) underlying62 kr z z hv14 hi14)) ?_
 refine r_s (s_y z z h12 (o_ldR sc98 z hR14 (rok 0 he14 (by decide)))) ?_
 refine r_s (s_y z z h12 (o_lenR underlying98 z hN14)) ?_
 refine r_s (s_y z z h12 (o_bin z z (bI_eq _ 0))) ?_
 refine r_u (o_pf z h12 z) (r_nil ?_)
 obtain rfl:=si hm16
 exact x_sub K4 ⟨z,z,z,y_⟩ id_
def Bl(a0:Ae)(a1:Str):Option (Ae×Bool) :=
 (AP a0.R a1).bind fun r2=>if !r2.2 then some (a0,false) else (Bc a0.S a1).bind fun r6=>if (r2.1==0) then (AH (⟨a0.Most,r6,a0.R⟩:Ae) 0 a1).bind fun r23=>some (r23,true) else (AH (⟨a0.Most,r6,a0.R⟩:Ae) 2 a1).bind fun r42=>lt (Cn r42.Most) fun r53=>(gi r42.R.L 2).bind fun x55=>if decide (r53.2<(x55.length:Int)) then (Ay r42.R 2).bind fun r60=>(AH r42 1 r60.1).bind fun r62=>some (r62,true) else some (r42,true)
theorem Bl.ok{G R F}(a0:Ae)(g0_:Ae.G)(h0:Ae.ro R a0 g0_)(a1:Str)(r:Ae×Bool)(hm:Bl a0 a1=some r):CO prog 137 [.agg (Ae.k a0 g0_).toArray,vS a1] G R (F)
  (Ret fun u R' L'=>∃(p0:Ae.G),u = .tuple #[.agg (Ae.k r.1 p0).toArray,vB r.2]∧(Ae.ro R' r.1 p0)∧L'=F):=by
 unfold Bl at hm
 refine co_ofN (N:=59) func137 z z ?_
 refine csr ?_
 refine r_new (o_bx (Ae.k a0 g0_) z z) fun b0 =>?_
 refine r_new (o_al ze72) fun b1 =>?_
 refine r_as z (nsr (r_fa fa72_2 z ?_))
 refine r_u (o_ldn 1 [g0_.R.L.1,vI a0.R.Places] ag64 z z z z) (r_mv z ?_)
 obtain ⟨r2,hr2,hm3⟩:=bs hm
 refine r_u (o_callq ca176 z (AP.ok _ (⟨(g0_.R.L.1,[])⟩:Ab.G) h0.2 a1 _ hr2)) (r_mv z (r_ext z z (r_ext z z (r_as z (r_as z (nssr (r_mv z ?_)))))))
 refine r_u (o_not z) (nsq ?_)
 refine c_if (b := !r2.2) z (fun h4 =>?_) fun h4 =>?_
 ·have hm5:=ift hm3 h4
  refine csr ?_
  refine r_u (o_ldn 1 (Ae.k a0 g0_) ag72 z z z z) ?_
  refine r_u0 (o_stn ag72 z z z (a_ z (a_ z (a_ z (a_ (RoN.one h0.1.1) (a_ (RoS.one h0.1.2) (a_ z (a_ (RoN.one h0.2) (a_ z al_n)))))))) z z z) (r_as z (r_nil (x_seq (c_ret ?_))))
  obtain rfl:=si hm5
  exact x_d2 z (rv_n 0 (Ae.k a0 g0_) ag72 z z z z) (rv_t z) (pk 2 []) le_ ⟨_,z,(⟨(⟨(g0_.S.Rows.1,[]),g0_.S.Door⟩:Ad.G),(⟨(g0_.R.L.1,[])⟩:Ab.G)⟩:Ae.G),z,⟨⟨h0.1.1,h0.1.2⟩,h0.2⟩,z⟩
 have hm5:=iff_ hm3 h4
 refine c_skip (x_seq (csr (r_fa fa72_1 z ?_)))
 refine r_u (o_ldn 1 (Ad.k a0.S g0_.S) ag70 z z z z) (r_mv z ?_)
 obtain ⟨r6,hr6,hm12⟩:=bs hm5
 refine r_sw (s_w (o_call ca177 z (Bc.ok _ (⟨(g0_.S.Rows.1,[]),g0_.S.Door⟩:Ad.G) ⟨h0.1.1,h0.1.2⟩ a1 _ hr6))) ?_
 rintro _ R10 _ le11 ⟨v7,rfl,_,rfl⟩
 refine r_fa fa72_1 z ?_
 refine rl_st (fun _ h=>mv4 (mv1 (mv2 h))) ?_
 refine r_u0 (ou_if (one_o 1 z) fun ho0=>ou_if (one_o 2 z) fun ho1=>o_stn ag70 z z z (a_ z (a_ z (a_ ho0 (a_ ho1 (a_ z al_n))))) z z z) ?_
 refine nssr (r_mv z (r_bin z z (bI_eq _ 0) (nsq ?_)))
 refine c_if (b:=(r2.1==0)) z (fun h13 =>?_) fun h13 =>?_
 ·have hm14:=ift hm12 h13
  refine csr ?_
  refine r_u (o_ldn 0 [vI a0.Most,vI r6.Wide,vW r6.Seed,v7.Rows.1,v7.Door,vI r6.Added,g0_.R.L.1,vI a0.R.Places] ag72 z z z z) (r_mv z ?_)
  refine rl_st (fun _ h=>mv2 (mv3 h)) ?_
  refine rl_ex (fun w h=>st_freezeN w h) fun R15 hf18 =>?_
  obtain ⟨le16,h17⟩:=hf18
  refine rl_st (fun _ h=>mv1 h) ?_
  refine rl_ex (fun w h=>st_freeze w h) fun R19 hf22 =>?_
  obtain ⟨le20,h21⟩:=hf22
  obtain ⟨r23,hr23,hm33⟩:=bs hm14
  refine r_sw (s_w (o_call ca178 z (AH.ok (⟨a0.Most,r6,a0.R⟩:Ae) (⟨(⟨(v7.Rows.1,[]),v7.Door⟩:Ad.G),(⟨(g0_.R.L.1,[])⟩:Ab.G)⟩:Ae.G) ⟨⟨(RoN.mono le20 h17),h21⟩,(RoN.mono (Le.trans (Le.trans le11 le16) le20) h0.2)⟩ 0 a1 _ hr23))) ?_
  rintro _ R31 _ le32 ⟨v24,rfl,hf25,rfl⟩
  refine rl_st (fun _ h=>mv1 h) ?_
  refine r_u0 (o_stn ag72 z z z (a_ z (a_ z (a_ z (a_ (RoN.one hf25.1.1) (a_ (RoS.one hf25.1.2) (a_ z (a_ (RoN.one hf25.2) (a_ z al_n)))))))) z z z) (r_as z (r_nil (x_seq (c_ret ?_))))
  obtain rfl:=si hm33
  exact x_d2 z (rv_n 0 (Ae.k r23 v24) ag72 z z z z) (rv_t z) (pk 2 []) (Le.trans (Le.trans (Le.trans le11 le16) le20) le32) ⟨_,z,(⟨(⟨(v24.S.Rows.1,[]),v24.S.Door⟩:Ad.G),(⟨(v24.R.L.1,[])⟩:Ab.G)⟩:Ae.G),z,⟨⟨hf25.1.1,hf25.1.2⟩,hf25.2⟩,z⟩
 have hm14:=iff_ hm12 h13
 refine c_skip (x_seq (csr ?_))
 refine r_u (o_ldn 0 [vI a0.Most,vI r6.Wide,vW r6.Seed,v7.Rows.1,v7.Door,vI r6.Added,g0_.R.L.1,vI a0.R.Places] ag72 z z z z) (r_mv z ?_)
 refine rl_st (fun _ h=>mv2 (mv3 h)) ?_
 refine rl_ex (fun w h=>st_freezeN w h) fun R34 hf37 =>?_
 obtain ⟨le35,h36⟩:=hf37
 refine rl_st (fun _ h=>mv1 h) ?_
 refine rl_ex (fun w h=>st_freeze w h) fun R38 hf41 =>?_
 obtain ⟨le39,h40⟩:=hf41
 obtain ⟨r42,hr42,hm52⟩:=bs hm14
 refine r_sw (s_w (o_call ca178 z (AH.ok (⟨a0.Most,r6,a0.R⟩:Ae) (⟨(⟨(v7.Rows.1,[]),v7.Door⟩:Ad.G),(⟨(g0_.R.L.1,[])⟩:Ab.G)⟩:Ae.G) ⟨⟨(RoN.mono le39 h36),h40⟩,(RoN.mono (Le.trans (Le.trans le11 le35) le39) h0.2)⟩ 2 a1 _ hr42))) ?_
 rintro _ R50 _ le51 ⟨v43,rfl,hf44,rfl⟩
 refine r_u0 (o_stn ag72 z z z (a_ z (a_ z (a_ z (a_ (RoN.one hf44.1.1) (a_ (RoS.one hf44.1.2) (a_ z (a_ (RoN.one hf44.2) (a_ z al_n)))))))) z z z) (nssr (r_fa fa72_0 z (r_ld 0 sc3 z z z ?_)))
 obtain ⟨r53,hr53,hm54⟩:=ltx hm52
 refine r_u (o_callq ca179 z (Cn.ok _ _ hr53)) (r_mv z (r_ext z z (r_ext z z (r_as z (r_as z (nsr (r_fa fa72_2 z (r_fa fa64_0 z (r_ld 0 sc62 z z z ?_)))))))))
 obtain ⟨x55,hx55,hm57⟩:=bs hm54
 obtain ⟨b55,o55,l55,T55,fr55,c55,u56,hv55,hR55,he55,hi55,hN55⟩:=RoN.ne hf44.2 hx55
 refine r_u (o_ix (sz:=1) underlying62 kr z z hv55 hi55) ?_
 refine r_u (o_ldR sc98 z hR55 (rok 0 he55 (by decide))) ?_
 refine r_u (o_lenR underlying98 z hN55) (r_mv z (r_bin z z (bI_gt _ _) (nsq ?_)))
 refine c_if (b:=decide (r53.2<(x55.length:Int))) z (fun h58 =>?_) fun h58 =>?_
 rotate_left
 ·have hm59:=iff_ hm57 h58
  refine c_skip (x_seq (csr ?_))
  refine r_u (o_ldn 0 (Ae.k r42 v43) ag72 z z z z) ?_
  refine rl_st (fun _ h=>mv1 h) ?_
  refine r_u0 (o_stn ag72 z z z (a_ z (a_ z (a_ z (a_ (RoN.one hf44.1.1) (a_ (RoS.one hf44.1.2) (a_ z (a_ (RoN.one hf44.2) (a_ z al_n)))))))) z z z) (r_as z (r_nil (x_seq (c_ret ?_))))
  obtain rfl:=si hm59
  exact x_d2 z (rv_n 0 (Ae.k r42 v43) ag72 z z z z) (rv_t z) (pk 2 []) (Le.trans (Le.trans (Le.trans le11 le35) le39) le51) ⟨_,z,(⟨(⟨(v43.S.Rows.1,[]),v43.S.Door⟩:Ad.G),(⟨(v43.R.L.1,[])⟩:Ab.G)⟩:Ae.G),z,⟨⟨hf44.1.1,hf44.1.2⟩,hf44.2⟩,z⟩
 have hm59:=ift hm57 h58
 refine csr (r_fa fa72_2 z ?_)
 refine r_u (o_ldn 0 [v43.R.L.1,vI r42.R.Places] ag64 z z z z) ?_
 obtain ⟨r60,hr60,hm61⟩:=bs hm59
 refine r_u (o_callq ca180 z (Ay.ok _ (⟨(v43.R.L.1,[])⟩:Ab.G) hf44.2 2 _ hr60)) (r_mv z (r_ext z z (r_ext z z (r_as z (r_as z (r_nil (x_seq (c_reg ?_))))))))
 refine r_u (o_ldn 0 (Ae.k r42 v43) ag72 z z z z) (r_mv z ?_)
 obtain ⟨r62,hr62,hm72⟩:=bs hm61
 refine r_sw (s_w (o_call ca178 z (AH.ok _ (⟨(⟨(v43.S.Rows.1,[]),v43.S.Door⟩:Ad.G),(⟨(v43.R.L.1,[])⟩:Ab.G)⟩:Ae.G) ⟨⟨hf44.1.1,hf44.1.2⟩,hf44.2⟩ 1 _ _ hr62))) ?_
 rintro _ R70 _ le71 ⟨v63,rfl,hf64,rfl⟩
 refine r_u0 (o_stn ag72 z z z (a_ z (a_ z (a_ z (a_ (RoN.one hf64.1.1) (a_ (RoS.one hf64.1.2) (a_ z (a_ (RoN.one hf64.2) (a_ z al_n)))))))) z z z) (nsr ?_)
 refine r_u (o_ldn 0 (Ae.k r62 v63) ag72 z z z z) ?_
 refine rl_st (fun _ h=>mv1 h) ?_
 refine r_u0 (o_stn ag72 z z z (a_ z (a_ z (a_ z (a_ (RoN.one hf64.1.1) (a_ (RoS.one hf64.1.2) (a_ z (a_ (RoN.one hf64.2) (a_ z al_n)))))))) z z z) (r_as z (r_nil (x_seq (c_ret ?_))))
 obtain rfl:=si hm72
 exact x_d2 z (rv_n 0 (Ae.k r62 v63) ag72 z z z z) (rv_t z) (pk 2 []) (Le.trans (Le.trans (Le.trans (Le.trans le11 le35) le39) le51) le71) ⟨_,z,(⟨(⟨(v63.S.Rows.1,[]),v63.S.Door⟩:Ad.G),(⟨(v63.R.L.1,[])⟩:Ab.G)⟩:Ae.G),z,⟨⟨hf64.1.1,hf64.1.2⟩,hf64.2⟩,z⟩
def Co(a0:Af)(a1:Str):Option (Af×Bool) :=
 if (a0.Kind==1) then (CX a0.A a1).bind fun r4=>some ((⟨a0.Kind,r4.1,a0.T⟩:Af),r4.2) else (Bl a0.T a1).bind fun r12=>some ((⟨a0.Kind,a0.A,r12.1⟩:Af),r12.2)
theorem Co.ok{G R F}(a0:Af)(g0_:Af.G)(h0:Af.ro R a0 g0_)(a1:Str)(r:Af×Bool)(hm:Co a0 a1=some r):CO prog 82 [.agg (Af.k a0 g0_).toArray,vS a1] G R (F)
  (Ret fun u R' L'=>∃(p0:Af.G),u = .tuple #[.agg (Af.k r.1 p0).toArray,vB r.2]∧(Af.ro R' r.1 p0)∧L'=F):=by
 unfold Co at hm
 refine co_ofN (N:=28) func82 z z ?_
 refine csr ?_
 refine r_new (o_bx (Af.k a0 g0_) z z) fun b0 =>?_
 refine r_new (o_al ze74) fun b1 =>?_
 refine r_as z (nsr (r_as z (nssr (r_fa fa74_0 z (r_ld 1 sc3 z z z (r_bin z z (bI_eq _ 1) (nsq ?_)))))))
 refine c_if (b:=(a0.Kind==1)) z (fun h2 =>?_) fun h2 =>?_
 ·have hm3:=ift hm h2
  refine c_reg (r_fa fa74_1 z ?_)
  refine r_u (o_ldn 1 (Aa.k a0.A g0_.A) ag66 z z z z) (r_mv z ?_)
  obtain ⟨r4,hr4,hm11⟩:=bs hm3
  refine r_sw (s_w (o_call ca136 z (CX.ok _ (⟨(⟨(g0_.A.R.L.1,[])⟩:Ab.G)⟩:Aa.G) h0.1 a1 _ hr4))) ?_
  rintro _ R9 _ le10 ⟨v5,rfl,hf6,rfl⟩
  refine r_mv z (r_ext z z (r_ext z z (r_fa fa74_1 z ?_)))
  refine rl_st (fun _ h=>mv1 h) ?_
  refine r_u0 (o_stn ag66 z z z (a_ z (a_ z (a_ (RoN.one hf6) (a_ z al_n)))) z z z) (r_as z (nsr ?_))
  refine r_u (o_ldn 0 [vI a0.Kind,vI r4.1.Most,vI r4.1.Target,v5.R.L.1,vI r4.1.R.Places,vI a0.T.Most,vI a0.T.S.Wide,vW a0.T.S.Seed,g0_.T.S.Rows.1,g0_.T.S.Door,vI a0.T.S.Added,g0_.T.R.L.1,vI a0.T.R.Places] ag74 z z z z) (r_mv z ?_)
  refine rl_st (fun _ h=>mv1 h) ?_
  refine r_u0 (o_stn ag74 z z z (a_ z (a_ z (a_ z (a_ (RoN.one hf6) (a_ z (a_ z (a_ z (a_ z (a_ (RoN.one (RoN.mono le10 h0.2.1.1)) (a_ (RoS.one (RoS.mono le10 h0.2.1.2)) (a_ z (a_ (RoN.one (RoN.mono le10 h0.2.2)) (a_ z al_n))))))))))))) z z z) (r_as z (r_nil (x_seq (c_ret ?_))))
  obtain rfl:=si hm11
  exact x_d2 z (rv_n 0 [vI a0.Kind,vI r4.1.Most,vI r4.1.Target,v5.R.L.1,vI r4.1.R.Places,vI a0.T.Most,vI a0.T.S.Wide,vW a0.T.S.Seed,g0_.T.S.Rows.1,g0_.T.S.Door,vI a0.T.S.Added,g0_.T.R.L.1,vI a0.T.R.Places] ag74 z z z z) (rv_t z) (pk 2 []) le10 ⟨_,z,(⟨(⟨(⟨(v5.R.L.1,[])⟩:Ab.G)⟩:Aa.G),(⟨(⟨(g0_.T.S.Rows.1,[]),g0_.T.S.Door⟩:Ad.G),(⟨(g0_.T.R.L.1,[])⟩:Ab.G)⟩:Ae.G)⟩:Af.G),z,⟨hf6,⟨⟨(RoN.mono le10 h0.2.1.1),(RoS.mono le10 h0.2.1.2)⟩,(RoN.mono le10 h0.2.2)⟩⟩,z⟩
 have hm3:=iff_ hm h2
 refine c_reg (r_fa fa74_2 z ?_)
 refine r_u (o_ldn 1 (Ae.k a0.T g0_.T) ag72 z z z z) (r_mv z ?_)
 obtain ⟨r12,hr12,hm22⟩:=bs hm3
 refine r_sw (s_w (o_call ca137 z (Bl.ok _ (⟨(⟨(g0_.T.S.Rows.1,[]),g0_.T.S.Door⟩:Ad.G),(⟨(g0_.T.R.L.1,[])⟩:Ab.G)⟩:Ae.G) ⟨⟨h0.2.1.1,h0.2.1.2⟩,h0.2.2⟩ a1 _ hr12))) ?_
 rintro _ R20 _ le21 ⟨v13,rfl,hf14,rfl⟩
 refine r_mv z (r_ext z z (r_ext z z (r_fa fa74_2 z ?_)))
 refine rl_st (fun _ h=>mv1 h) ?_
 refine r_u0 (o_stn ag72 z z z (a_ z (a_ z (a_ z (a_ (RoN.one hf14.1.1) (a_ (RoS.one hf14.1.2) (a_ z (a_ (RoN.one hf14.2) (a_ z al_n)))))))) z z z) (r_as z (nsr ?_))
 refine r_u (o_ldn 0 [vI a0.Kind,vI a0.A.Most,vI a0.A.Target,g0_.A.R.L.1,vI a0.A.R.Places,vI r12.1.Most,vI r12.1.S.Wide,vW r12.1.S.Seed,v13.S.Rows.1,v13.S.Door,vI r12.1.S.Added,v13.R.L.1,vI r12.1.R.Places] ag74 z z z z) (r_mv z ?_)
 refine rl_st (fun _ h=>mv1 h) ?_
 refine r_u0 (o_stn ag74 z z z (a_ z (a_ z (a_ z (a_ (RoN.one (RoN.mono le21 h0.1)) (a_ z (a_ z (a_ z (a_ z (a_ (RoN.one hf14.1.1) (a_ (RoS.one hf14.1.2) (a_ z (a_ (RoN.one hf14.2) (a_ z al_n))))))))))))) z z z) (r_as z (r_nil (x_seq (c_ret ?_))))
 obtain rfl:=si hm22
 exact x_d2 z (rv_n 0 [vI a0.Kind,vI a0.A.Most,vI a0.A.Target,g0_.A.R.L.1,vI a0.A.R.Places,vI r12.1.Most,vI r12.1.S.Wide,vW r12.1.S.Seed,v13.S.Rows.1,v13.S.Door,vI r12.1.S.Added,v13.R.L.1,vI r12.1.R.Places] ag74 z z z z) (rv_t z) (pk 2 []) le21 ⟨_,z,(⟨(⟨(⟨(g0_.A.R.L.1,[])⟩:Ab.G)⟩:Aa.G),(⟨(⟨(v13.S.Rows.1,[]),v13.S.Door⟩:Ad.G),(⟨(v13.R.L.1,[])⟩:Ab.G)⟩:Ae.G)⟩:Af.G),z,⟨(RoN.mono le21 h0.1),⟨⟨hf14.1.1,hf14.1.2⟩,hf14.2⟩⟩,z⟩
def CY(a0:Ae)(a1:Str):Option Ae :=
 if decide ((a1.length:Int)≤64) then (Bc a0.S a1).bind fun r4=>some (⟨a0.Most,r4,a0.R⟩:Ae) else some a0
theorem CY.ok{G R F}(a0:Ae)(g0_:Ae.G)(h0:Ae.ro R a0 g0_)(a1:Str)(r:Ae)(hm:CY a0 a1=some r):CO prog 139 [.agg (Ae.k a0 g0_).toArray,vS a1] G R (F)
  (Ret fun u R' L'=>∃(p0:Ae.G),u = .agg (Ae.k r p0).toArray∧(Ae.ro R' r p0)∧L'=F):=by
 unfold CY at hm
 refine co_ofN (N:=14) func139 z z ?_
 refine csr ?_
 refine r_new (o_bx (Ae.k a0 g0_) z z) fun b0 =>?_
 refine r_new (o_al ze72) fun b1 =>?_
 refine nssr (r_mv z (r_u (o_lenS underlying9 z) (r_bin z z (bI_le _ 64) (nsq ?_))))
 refine c_if (b:=decide ((a1.length:Int)≤64)) z (fun h2 =>?_) fun h2 =>?_
 rotate_left
 ·have hm3:=iff_ hm h2
  refine c_skip (x_seq (csr ?_))
  refine r_u (o_ldn 1 (Ae.k a0 g0_) ag72 z z z z) ?_
  refine r_u0 (o_stn ag72 z z z (a_ z (a_ z (a_ z (a_ (RoN.one h0.1.1) (a_ (RoS.one h0.1.2) (a_ z (a_ (RoN.one h0.2) (a_ z al_n)))))))) z z z) (r_nil (x_seq (c_ret ?_)))
  obtain rfl:=si hm3
  exact x_d1 z (rv_n 0 (Ae.k a0 g0_) ag72 z z z z) (pk 2 []) le_ ⟨_,z,(⟨(⟨(g0_.S.Rows.1,[]),g0_.S.Door⟩:Ad.G),(⟨(g0_.R.L.1,[])⟩:Ab.G)⟩:Ae.G),z,⟨⟨h0.1.1,h0.1.2⟩,h0.2⟩,z⟩
 have hm3:=ift hm h2
 refine c_reg (r_fa fa72_1 z ?_)
 refine r_u (o_ldn 1 (Ad.k a0.S g0_.S) ag70 z z z z) (r_mv z ?_)
 obtain ⟨r4,hr4,hm10⟩:=bs hm3
 refine r_sw (s_w (o_call ca177 z (Bc.ok _ (⟨(g0_.S.Rows.1,[]),g0_.S.Door⟩:Ad.G) ⟨h0.1.1,h0.1.2⟩ a1 _ hr4))) ?_
 rintro _ R8 _ le9 ⟨v5,rfl,_,rfl⟩
 refine r_fa fa72_1 z ?_
 refine rl_st (fun _ h=>mv4 (mv1 (mv2 h))) ?_
 refine r_u0 (ou_if (one_o 1 z) fun ho0=>ou_if (one_o 2 z) fun ho1=>o_stn ag70 z z z (a_ z (a_ z (a_ ho0 (a_ ho1 (a_ z al_n))))) z z z) ?_
 refine nsr ?_
 refine r_u (o_ldn 0 [vI a0.Most,vI r4.Wide,vW r4.Seed,v5.Rows.1,v5.Door,vI r4.Added,g0_.R.L.1,vI a0.R.Places] ag72 z z z z) ?_
 refine rl_st (fun _ h=>mv4 (mv2 (mv2 h))) ?_
 refine r_u0 (ou_if (one_o 1 z) fun ho0=>ou_if (one_o 2 z) fun ho1=>o_stn ag72 z z z (a_ z (a_ z (a_ z (a_ ho0 (a_ ho1 (a_ z (a_ (RoN.one (RoN.mono le9 h0.2)) (a_ z al_n)))))))) z z z) ?_
 refine r_nil (x_seq (c_ret ?_))
 refine ex_st (fun _ h=>mv2 (mv4 h)) ?_
 refine ex_ex (fun w h=>st_freezeN w h) fun R11 hf14 =>?_
 obtain ⟨le12,h13⟩:=hf14
 refine ex_st (fun _ h=>mv1 h) ?_
 refine ex_ex (fun w h=>st_freeze w h) fun R15 hf18 =>?_
 obtain ⟨le16,h17⟩:=hf18
 obtain rfl:=si hm10
 exact x_d1 z (rv_n 0 [vI a0.Most,vI r4.Wide,vW r4.Seed,v5.Rows.1,v5.Door,vI r4.Added,g0_.R.L.1,vI a0.R.Places] ag72 z z z z) (pk 2 []) (Le.trans (Le.trans le9 le12) le16) ⟨_,z,(⟨(⟨(v5.Rows.1,[]),v5.Door⟩:Ad.G),(⟨(g0_.R.L.1,[])⟩:Ab.G)⟩:Ae.G),z,⟨⟨(RoN.mono le16 h13),h17⟩,(RoN.mono (Le.trans (Le.trans le9 le12) le16) h0.2)⟩,z⟩
def CA(a0:Af)(a1:Str):Option Af :=
 Option.bind (if (a0.Kind==2) then (B8 a0.T a1).bind fun r21=>some (!r21) else some false) fun p2=>if p2 then (CY a0.T a1).bind fun r8=>some (⟨a0.Kind,a0.A,r8⟩:Af) else some a0
theorem CA.ok{G R F}(a0:Af)(g0_:Af.G)(h0:Af.ro R a0 g0_)(a1:Str)(r:Af)(hm:CA a0 a1=some r):CO prog 83 [.agg (Af.k a0 g0_).toArray,vS a1] G R (F)
  (Ret fun u R' L'=>∃(p0:Af.G),u = .agg (Af.k r p0).toArray∧(Af.ro R' r p0)∧L'=F):=by
 unfold CA at hm
 refine co_ofN (N:=21) func83 z z ?_
 refine csr ?_
 refine r_new (o_bx (Af.k a0 g0_) z z) fun b0 =>?_
 refine r_new (o_al ze74) fun b1 =>?_
 refine r_nil (x_seq (c_seq (c_seq ?_)))
 obtain ⟨p2,hp3,hm4⟩:=bs hm
 refine cd_join (E':=[(1,vS a1),(2,pt b0 0),(4,pt b1 0),(14,vB p2)]) (L':=Bk b1 74 [vI 0,vI 0,vI 0,.slice none 0 0,vI 0,vI 0,vI 0,vW 0,.slice none 0 0,.slice none 0 0,vI 0,.slice none 0 0,vI 0]::Bk b0 74 (Af.k a0 g0_)::F) ?_ fun K5 =>?_
 ·refine x_seq ?_
  refine c_if (b:=p2) z (fun h6 =>?_) fun h6 =>?_
  rotate_left
  ·have hm7:=iff_ hm4 h6
   refine c_skip (x_seq (csr ?_))
   refine r_u (o_ldn 1 (Af.k a0 g0_) ag74 z z z z) ?_
   refine r_u0 (o_stn ag74 z z z (a_ z (a_ z (a_ z (a_ (RoN.one h0.1) (a_ z (a_ z (a_ z (a_ z (a_ (RoN.one h0.2.1.1) (a_ (RoS.one h0.2.1.2) (a_ z (a_ (RoN.one h0.2.2) (a_ z al_n))))))))))))) z z z) (r_nil (x_seq (c_ret ?_)))
   obtain rfl:=si hm7
   exact x_d1 z (rv_n 0 (Af.k a0 g0_) ag74 z z z z) (pk 2 []) le_ ⟨_,z,(⟨(⟨(⟨(g0_.A.R.L.1,[])⟩:Ab.G)⟩:Aa.G),(⟨(⟨(g0_.T.S.Rows.1,[]),g0_.T.S.Door⟩:Ad.G),(⟨(g0_.T.R.L.1,[])⟩:Ab.G)⟩:Ae.G)⟩:Af.G),z,⟨h0.1,⟨⟨h0.2.1.1,h0.2.1.2⟩,h0.2.2⟩⟩,z⟩
  have hm7:=ift hm4 h6
  refine c_reg (r_fa fa74_2 z ?_)
  refine r_u (o_ldn 1 (Ae.k a0.T g0_.T) ag72 z z z z) (r_mv z ?_)
  obtain ⟨r8,hr8,hm18⟩:=bs hm7
  refine r_sw (s_w (o_call ca139 z (CY.ok _ (⟨(⟨(g0_.T.S.Rows.1,[]),g0_.T.S.Door⟩:Ad.G),(⟨(g0_.T.R.L.1,[])⟩:Ab.G)⟩:Ae.G) ⟨⟨h0.2.1.1,h0.2.1.2⟩,h0.2.2⟩ a1 _ hr8))) ?_
  rintro _ R16 _ le17 ⟨v9,rfl,hf10,rfl⟩
  refine r_fa fa74_2 z ?_
  refine rl_st (fun _ h=>mv1 h) ?_
  refine r_u0 (o_stn ag72 z z z (a_ z (a_ z (a_ z (a_ (RoN.one hf10.1.1) (a_ (RoS.one hf10.1.2) (a_ z (a_ (RoN.one hf10.2) (a_ z al_n)))))))) z z z) (nsr ?_)
  refine r_u (o_ldn 0 [vI a0.Kind,vI a0.A.Most,vI a0.A.Target,g0_.A.R.L.1,vI a0.A.R.Places,vI r8.Most,vI r8.S.Wide,vW r8.S.Seed,v9.S.Rows.1,v9.S.Door,vI r8.S.Added,v9.R.L.1,vI r8.R.Places] ag74 z z z z) ?_
  refine rl_st (fun _ h=>mv1 h) ?_
  refine r_u0 (o_stn ag74 z z z (a_ z (a_ z (a_ z (a_ (RoN.one (RoN.mono le17 h0.1)) (a_ z (a_ z (a_ z (a_ z (a_ (RoN.one hf10.1.1) (a_ (RoS.one hf10.1.2) (a_ z (a_ (RoN.one hf10.2) (a_ z al_n))))))))))))) z z z) (r_nil (x_seq (c_ret ?_)))
  obtain rfl:=si hm18
  exact x_d1 z (rv_n 0 [vI a0.Kind,vI a0.A.Most,vI a0.A.Target,g0_.A.R.L.1,vI a0.A.R.Places,vI r8.Most,vI r8.S.Wide,vW r8.S.Seed,v9.S.Rows.1,v9.S.Door,vI r8.S.Added,v9.R.L.1,vI r8.R.Places] ag74 z z z z) (pk 2 []) le17 ⟨_,z,(⟨(⟨(⟨(g0_.A.R.L.1,[])⟩:Ab.G)⟩:Aa.G),(⟨(⟨(v9.S.Rows.1,[]),v9.S.Door⟩:Ad.G),(⟨(v9.R.L.1,[])⟩:Ab.G)⟩:Ae.G)⟩:Af.G),z,⟨(RoN.mono le17 h0.1),⟨⟨hf10.1.1,hf10.1.2⟩,hf10.2⟩⟩,z⟩
 refine cd_by (a0.Kind==2) (fun h19 =>?_) fun h19 =>?_
 ·have hm20:=ift hp3 h19
  refine c_reg (r_fa fa74_0 z (r_ld 1 sc3 z z z (r_bin z z (bI_eq _ 2) (r_mv z ?_))))
  refine r_s (s_y z z h19 (o_fa fa74_2 z)) ?_
  refine r_s (s_y z z h19 (o_ldn 1 (Ae.k a0.T g0_.T) ag72 z z z z)) ?_
  refine r_s (s_y z z h19 (o_mv z)) ?_
  obtain ⟨r21,hr21,hm22⟩:=bs hm20
  refine r_s (s_y z z h19 (o_callq ca138 z (B8.ok _ (⟨(⟨(g0_.T.S.Rows.1,[]),g0_.T.S.Door⟩:Ad.G),(⟨(g0_.T.R.L.1,[])⟩:Ab.G)⟩:Ae.G) ⟨⟨h0.2.1.1,h0.2.1.2⟩,h0.2.2⟩ a1 _ hr21))) ?_
  refine r_s (s_y z z h19 (o_not z)) ?_
  refine r_u (o_pt z h19 z) (r_nil ?_)
  obtain rfl:=si hm22
  exact x_sub K5 ⟨z,z,z,z,y_⟩ id_
 have hm20:=iff_ hp3 h19
 refine c_reg (r_fa fa74_0 z (r_ld 1 sc3 z z z (r_bin z z (bI_eq _ 2) (r_mv z ?_))))
 refine r_s (s_n z z h19) ?_
 refine r_s (s_n z z h19) ?_
 refine r_s (s_n z z h19) ?_
 refine r_s (s_n z z h19) ?_
 refine r_s (s_n z z h19) ?_
 refine r_u (o_pf z h19 z) (r_nil ?_)
 obtain rfl:=si hm20
 exact x_sub K5 ⟨z,z,z,z,y_⟩ id_
end Go.Proofs.YtpanhdnglicknaaGreat
