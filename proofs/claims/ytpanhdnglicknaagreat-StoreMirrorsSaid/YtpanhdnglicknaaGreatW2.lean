import Derived.Test.YtpanhdnglicknaaGreatW1
import Derived.Test.YtpanhdnglicknaaGreatFacts
import Derived.Test.YtpanhdnglicknaaGreatHwZ
import Derived.Test.YtpanhdnglicknaaGreatHwW
import Derived.Test.YtpanhdnglicknaaGreatHw8
set_option linter.unusedVariables false
set_option linter.unusedSectionVars false
set_option linter.unusedSimpArgs false
set_option maxRecDepth 100000
set_option maxHeartbeats 4000000
namespace Go.Proofs.YtpanhdnglicknaaGreat
open Go Go.Proofs.YtpanhdnglicknaaGreat.Hw
def A3(r18:List Str):Nat→Int→Int→(Option Ac)→(List (Str×Ak))→Option (Int×Option Ac×(List (Str×Ak)))
 | 0,_,_,_,_=>none
 | k55+1,s_48,c_49,c_50,c_51=>if decide (s_48<(r18.length:Int)) then (gi r18 s_48).bind fun x60=>lt (AS (⟨c_51,c_49⟩:Ah) x60) fun r62=>om c_50 (none) fun x64=>(AY x64 x60).bind fun r74=>A3 r18 k55 (i64 (s_48+1)) r62.2.bytes (some r74.2) r62.2.m else some (c_49,c_50,c_51)
def AF(a0:Ad)(a1:AM):Option (Ar×Int×Ad) :=
 if !(BQ a1.Op) then some ((⟨0,[],0⟩:Ar),1,a0) else if ((a1.Seq==0)||((a1.Seq-1) != a0.seq)) then some ((⟨0,[],0⟩:Ar),123,a0) else om a0.t (none) fun x13=>(BF x13 (if a0.now<a1.Now then a1.Now else a0.now)).bind fun r18=>Option.bind (A3 r18 (((r18.length:Int)-0).toNat+1) 0 x13.bytes a0.p x13.m) fun p21=>if (a1.Op.Kind==5) then some ((⟨0,[],0⟩:Ar),0,(⟨a0.c,(some (⟨p21.2.2,p21.1⟩:Ah)),p21.2.1,a0.sessions,a0.seq+1,(if a0.now<a1.Now then a1.Now else a0.now),a0.version,a0.tally⟩:Ad)) else if ((mget a0.sessions a1.Session).isSome&&(a1.Num==(((mget a0.sessions a1.Session).getD ((⟨0,(⟨0,[],0⟩:Ar)⟩:Ap):Ap)).num))) then some ((((mget a0.sessions a1.Session).getD ((⟨0,(⟨0,[],0⟩:Ar)⟩:Ap):Ap)).reply),0,(⟨a0.c,(some (⟨p21.2.2,p21.1⟩:Ah)),p21.2.1,a0.sessions,a0.seq+1,(if a0.now<a1.Now then a1.Now else a0.now),a0.version,a0.tally⟩:Ad)) else if ((mget a0.sessions a1.Session).isSome&&decide (a1.Num<(((mget a0.sessions a1.Session).getD ((⟨0,(⟨0,[],0⟩:Ar)⟩:Ap):Ap)).num))) then some ((⟨122,[],0⟩:Ar),0,(⟨a0.c,(some (⟨p21.2.2,p21.1⟩:Ah)),p21.2.1,a0.sessions,a0.seq+1,(if a0.now<a1.Now then a1.Now else a0.now),a0.version,a0.tally⟩:Ad)) else if (!((mget a0.sessions a1.Session).isSome)&&decide (64≤(a0.sessions.length:Int))) then some ((⟨3,[],0⟩:Ar),0,(⟨a0.c,(some (⟨p21.2.2,p21.1⟩:Ah)),p21.2.1,a0.sessions,a0.seq+1,(if a0.now<a1.Now then a1.Now else a0.now),a0.version,a0.tally⟩:Ad)) else (AP (⟨a0.c,(some (⟨p21.2.2,p21.1⟩:Ah)),p21.2.1,a0.sessions,a0.seq+1,(if a0.now<a1.Now then a1.Now else a0.now),a0.version,a0.tally⟩:Ad) a1.Op).bind fun r37=>some (r37.1,0,(⟨r37.2.c,r37.2.t,r37.2.p,mput r37.2.sessions a1.Session (⟨a1.Num,r37.1⟩:Ap),r37.2.seq,r37.2.now,r37.2.version,r37.2.tally⟩:Ad))
theorem AF.ok{G R F}(b0_:Nat)(a0:Ad)(g0_:Ad.G)(a1:AM)(r:Ar×Int×Ad)(hm:AF a0 a1=some r):CO Tryz.prog 15 [pt b0_ 0,.agg (AM.c a1).toArray] G R (Bk b0_ 96 (Ad.k a0 g0_)::rO (Ah.op g0_.t.2) g0_.t.1 a0.t::rO (Ac.op g0_.p.2) g0_.p.1 a0.p::OwM vW Ap.v g0_.sessions a0.sessions::F)
  (Ret fun u R' L'=>∃(q0:Ad.G),u = .tuple #[.agg (Ar.c r.1).toArray,vI r.2.1]∧R'=R∧L'=Bk b0_ 96 (Ad.k r.2.2 q0)::rO (Ah.op q0.t.2) q0.t.1 r.2.2.t::rO (Ac.op q0.p.2) q0.p.1 r.2.2.p::OwM vW Ap.v q0.sessions r.2.2.sessions::F):=by
 obtain ⟨⟨pv1,g2⟩,⟨pv4,g5⟩,g6⟩:=g0_
 unfold AF at hm
 refine co_ofN (N:=143) Tryz.func15 z z ?_
 refine csr ?_
 refine r_new (o_bx (AM.c a1) z z) fun b7 => ?_
 refine r_new (o_al ze41) fun b8 => ?_
 refine r_as z ?_
 refine r_nil (x_seq (c_seq (c_blk (csr ?_))))
 refine r_mv z (r_bin z z (bP_eqp Tryz.underlying30) (r_mv z ?_))
 refine r_s (s_y z z z (o_fa fa35_4 z)) ?_
 refine r_s (s_y z z z (o_ldn 1 (AH.c a1.Op) ag27 z z z z)) ?_
 refine r_s (s_y z z z (o_callq ca34 z (BQ.ok a1.Op _ z))) ?_
 refine r_s (s_y z z z (o_not z)) ?_
 refine r_u (o_pf z z z) (r_as z ?_)
 refine nsq ?_
 refine c_if (b := !(BQ a1.Op)) z (fun h9 => ?_) fun h9 => ?_
 ·have hm10:=ift hm h9
  refine csr ?_
  refine r_u (o_bld [vI 0,vS [],vW 0] z (fun _=>by kernel_rfl)) ?_
  refine r_u0 (o_stn ag41 z z z z z z z) ?_
  refine r_as z ?_
  refine r_nil (x_seq (c_ret ?_))
  obtain rfl:=si hm10
  exact x_d2 z (rv_n 0 [vI 0,vS [],vW 0] ag41 z z z z) (rv_t z) (pk 6 [2,3,4,5]) le_ ⟨_,z,(⟨(pv1,g2),(pv4,g5),g6⟩:Ad.G),z,z,z⟩
 have hm10:=iff_ hm h9
 refine c_seq ?_
 refine c_any mixed (effs:=[]) (V:=[]) ?_
 refine stn [0,1,3,7,15,31,63,15,143,399,911,2047,4095,8191] [0,1,2,3,4,5,6,7,8,9,10,11,12,13] [] [_,_,_,_,_,_,_,_,_,_,_,_,_,_] (q_fa z z fa35_0 z (q_ld z z 1 sc22 z z z (q_u z z (o_bin z z (bW_eq _ 0)) (q_mv z z z (qc z z (s_gf z z fun g=>o_fa fa35_0 z) (qc z z (s_gf z z fun g=>o_ld 1 sc22 (evg z g) z z) (qc z z (s_gf z z fun g=>o_bin (evg z g) z (bW_sub _ 1)) (qc z z (s_gf z z fun g=>o_mv z) (qc z z (s_gf z z fun g=>o_nc (evg z g)) (qc z z (s_gf z z fun g=>o_fa fa96_4 (evg z g)) (qc z z (s_gf z z fun g=>o_ld 2 sc22 (evg z g) z z) (qc z z (s_gf z z fun g=>o_bin (evg z g) (evg z g) (bW_ne _ _)) (q_u z z (o_or z z) (q_u z z (o_as z) qn)))))))))))))) en ?_
 intro _
 refine ex_sub (E':=[(0,pt b0_ 0),(3,pt b7 0),(4,pt b8 0),(21,vB ((a1.Seq==0)||((a1.Seq-1) != a0.seq)))]) ⟨z,z,z,z,trivial⟩ ?_
 refine x_seq ?_
 refine c_if (b:=((a1.Seq==0)||((a1.Seq-1) != a0.seq))) z (fun h11 => ?_) fun h11 => ?_
 ·have hm12:=ift hm10 h11
  refine csr ?_
  refine r_u (o_bld [vI 0,vS [],vW 0] z (fun _=>by kernel_rfl)) ?_
  refine r_u0 (o_stn ag41 z z z z z z z) ?_
  refine r_as z ?_
  refine r_nil (x_seq (c_ret ?_))
  obtain rfl:=si hm12
  exact x_d2 z (rv_n 0 [vI 0,vS [],vW 0] ag41 z z z z) (rv_t z) (pk 6 [2,3,4,5]) le_ ⟨_,z,(⟨(pv1,g2),(pv4,g5),g6⟩:Ad.G),z,z,z⟩
 have hm12:=iff_ hm10 h11
 refine c_skip (x_blk (x_seq (csr ?_)))
 refine r_mv z (r_nc z (r_fa fa96_4 z (r_ld 2 sc22 z z z (r_bin z z (bW_add _ 1) (r_nc z (r_fa fa96_4 z ?_))))))
 refine rl_st (fun _ h=>mv2 h) ?_
 refine r_u0 (o_st sc22 z z z z z z) ?_
 refine r_nil (x_seq (c_seq ?_))
 refine c_any mixed (effs:=[10]) (V:=[]) ?_
 refine stn mk10_ [0,1,2,3,4,5,6,7,8,9] [10] [_,_,_,_,_,_,_,_,_,_] (q_mv z z z (q_mv z z z (q_u z z (o_nc z) (q_fa z z fa96_5 z (q_ld z z 0 sc22 z z z (q_fa z z fa35_1 z (q_ld z z 2 sc22 z z z (q_u z z (o_maxW z z) (q_u z z (o_nc z) (q_fa z z fa96_5 z qn)))))))))) ?_ (nxt z)
 refine ec (eo_u z (s_u (o_st sc22 z z z z z z)) le_ ?_) en
 refine stage z z z z mk10_ [] [] z z z qn en ?_
 intro _
 refine ex_sub (E':=[(0,pt b0_ 0),(3,pt b7 0),(4,pt b8 0)]) ⟨z,z,z,trivial⟩ ?_
 refine x_seq (c_seq (c_seq ?_))
 refine cd_st (fun _ h=>mv3 h) ?_
 refine cd_opt (fun ho15 => ?_) (fun x13 b14 ho15 => ?_)
 ·rintro rfl
  have hm16:=om_n hm12 ho15
  cases hm16
 rintro rfl
 have hm16:=om_s hm12 ho15
 refine cd_st (fun _ h=>st_star_o h) ?_
 obtain ⟨r18,hr18,hm20⟩:=bs hm16
 refine c_any mixed (effs:=[8]) (V:=[]) ?_
 refine stn mk31_ [0,1,2,3,4,5,6,7,10] [8] [_,_,_,_,_,_,_,_,_] (q_mv z z z (q_u z z (o_nc z) (q_fa z z fa96_1 z (q_ld z z 2 sc92 z z z (q_mv z z z (q_u z z (o_nc z) (q_fa z z fa96_5 z (q_ld z z 2 sc22 z z z (q_mv z z z qn))))))))) ?_ (nxt z)
 refine ec (eo_w z (s_w (o_call ca35 z (BF.ok b14 _ g2 _ _ hr18))) ?_) en
 rintro v19 R _ _ ⟨_,rfl,rfl,rfl⟩
 refine stx [9] mk31_ [9,10] [] [_] (q_u z z (o_lenO 0 Tryz.underlying98 z z) (q_mv z z z qn)) en ?_
 intro _
 refine ex_sub (E':=[(0,pt b0_ 0),(3,pt b7 0),(4,pt b8 0),(61,v19),(62,vI (r18.length:Int)),(63,vI 0)]) ⟨z,z,z,z,z,z,trivial⟩ ?_
 refine x_seq ?_
 obtain ⟨p21,hp25,hm26⟩:=bs hm20
 refine cd_cut (fun x ks=>∀(pv22:Value×Ac.G),EX x .normal ks [(0,pt b0_ 0),(3,pt b7 0),(4,pt b8 0)] R (Bk b14 138 [g2.m,vI p21.1]::Bk b0_ 96 [vI a0.c.Policy,vI a0.c.Entries,vI a0.c.Bytes,vW a0.c.Seed,pt b14 0,pv22.1,g6,vW (a0.seq+1),vW (if a0.now<a1.Now then a1.Now else a0.now),vW a0.version,vI a0.tally.Asked,vI a0.tally.Hits]::Bk b8 41 [vI 0,vS [],vW 0]::Bk b7 35 (AM.c a1)::OwS true 9 1 eS v19 r18::OwM vS Ak.v g2.m p21.2.2::OwM vW Ap.v g6 a0.sessions::rO (Ac.op pv22.2) pv22.1 p21.2.1::F)) ?_ fun K27 => ?_
 rotate_left
 ·refine c_blk ?_
  refine cd_loopG (M:=fun k55 (s:Int×Int×Option Ac×(List (Str×Ak))×(Value×Ac.G))=>A3 r18 k55 s.1 s.2.1 s.2.2.1 s.2.2.2.1=some p21) (Ef:=fun (s:Int×Int×Option Ac×(List (Str×Ak))×(Value×Ac.G))=>[(0,pt b0_ 0),(3,pt b7 0),(4,pt b8 0),(61,v19),(62,vI (r18.length:Int)),(63,vI s.1)]) (Rf:=fun (s:Int×Int×Option Ac×(List (Str×Ak))×(Value×Ac.G))=>R) (Lf:=fun (s:Int×Int×Option Ac×(List (Str×Ak))×(Value×Ac.G))=>Bk b14 138 [g2.m,vI s.2.1]::Bk b0_ 96 [vI a0.c.Policy,vI a0.c.Entries,vI a0.c.Bytes,vW a0.c.Seed,pt b14 0,s.2.2.2.2.1,g6,vW (a0.seq+1),vW (if a0.now<a1.Now then a1.Now else a0.now),vW a0.version,vI a0.tally.Asked,vI a0.tally.Hits]::Bk b8 41 [vI 0,vS [],vW 0]::Bk b7 35 (AM.c a1)::OwS true 9 1 eS v19 r18::OwM vS Ak.v g2.m s.2.2.2.1::OwM vW Ap.v g6 a0.sessions::rO (Ac.op s.2.2.2.2.2) s.2.2.2.2.1 s.2.2.1::F) (((r18.length:Int)-0).toNat+1) (0,x13.bytes,a0.p,x13.m,(pv4,g5)) hp25 ⟨z,z,z,z,z,z,trivial⟩ (pk 8 [1,3,4,5,0,2,7,6]) (fun _ h=>by cases h) fun k55 s hM57 => ?_
  obtain ⟨s_48,c_49,c_50,c_51,pv52⟩:=s
  have hm56:A3 r18 (k55+1) s_48 c_49 c_50 c_51=some p21:=hM57
  rw [A3] at hm56
  obtain ⟨pv53,g54⟩:=pv52
  refine csr ?_
  refine r_bin z z (bI_lt _ _) ?_
  refine r_nil (x_seq (c_seq ?_))
  refine c_if (b:=decide (s_48<(r18.length:Int))) z (fun h58 => ?_) fun h58 => ?_
  rotate_left
  ·have hm59:=iff_ hm56 h58
   refine c_exit (x_exit (ks':=_) z ?_)
   obtain rfl:=si hm59
   exact x_sub (K27 (pv53,g54)) ⟨z,z,z,trivial⟩ (pk 8 [0,1,2,3,4,5,6,7])
  have hm59:=ift hm56 h58
  refine c_skip (x_seq (c_seq (c_blk (csr ?_))))
  obtain ⟨x60,hx60,hm61⟩:=bs hm59
  refine r_u (o_ixO 4 Tryz.underlying98 (fun _=>by kernel_rfl) z z z hx60) (r_u (o_ldO0 4 sc9 z z hx60 z z) (r_as z ?_))
  refine nsr ?_
  refine r_mv z (r_nc z (r_fa fa96_1 z (r_ld 1 sc92 z z z (r_mv z ?_))))
  obtain ⟨r62,hr62,hm63⟩:=ltx hm61
  refine rl_st (fun _ h=>mv1 (mv5 h)) ?_
  refine r_c (s_w (o_call ca36 z (AS.ok b14 (⟨c_51,c_49⟩:Ah) g2 _ _ hr62))) ?_
  refine nsq ?_
  refine cd_st (fun _ h=>mv7 h) ?_
  refine cd_opt (fun ho66 => ?_) (fun x64 b65 ho66 => ?_)
  ·rintro rfl
   have hm67:=om_n hm63 ho66
   cases hm67
  rintro rfl
  have hm67:=om_s hm63 ho66
  obtain ⟨⟨pv69,g70⟩,⟨pv72,g73⟩⟩:=g54
  refine cd_st (fun _ h=>st_star_o h) ?_
  refine c_reg ?_
  refine r_mv z (r_nc z (r_fa fa96_2 z (r_ld 5 sc93 z z z (r_mv z ?_))))
  obtain ⟨r74,hr74,hm82⟩:=bs hm67
  refine r_sw (s_w (o_call ca37 z (AY.ok b65 _ (⟨(pv69,g70),(pv72,g73)⟩:Ac.G) _ _ hr74))) ?_
  rintro _ R _ _ ⟨⟨⟨pv77,g78⟩,⟨pv80,g81⟩⟩,rfl,rfl,rfl⟩
  refine r_nil (x_blk (x_seq (c_reg ?_)))
  refine r_bin z z (bI_add _ 1) (r_mv z ?_)
  refine r_nil ?_
  refine ex_st (fun _ h=>st_some (f:=Ac.op (⟨(pv77,g78),(pv80,g81)⟩:Ac.G)) (a:=r74.2) (st_star_f (A:=Ac.fl b65 r74.2 (⟨(pv77,g78),(pv80,g81)⟩:Ac.G)) h)) ?_
  exact x_lp (i64 (s_48+1),r62.2.bytes,(some r74.2),r62.2.m,(pt b65 0,(⟨(pv77,g78),(pv80,g81)⟩:Ac.G))) hm82 ⟨z,z,z,z,z,z,trivial⟩ (pk 8 [1,3,4,5,6,2,7,0])
 intro pv22
 obtain ⟨pv23,g24⟩:=pv22
 refine x_seq (c_seq (csr ?_))
 refine r_fa fa35_4 z (r_fa fa27_0 z (r_ld 3 sc3 z z z (r_bin z z (bI_eq _ 5) ?_)))
 refine nsq ?_
 refine c_if (b:=(a1.Op.Kind==5)) z (fun h28 => ?_) fun h28 => ?_
 ·have hm29:=ift hm26 h28
  refine csr ?_
  refine r_u (o_bld [vI 0,vS [],vW 0] z (fun _=>by kernel_rfl)) ?_
  refine rl_st (fun _ h=>mv2 h) ?_
  refine r_u0 (o_stn ag41 z z z z z z z) ?_
  refine r_as z ?_
  refine r_nil (x_seq (c_ret ?_))
  refine ex_st (fun _ h=>mv2 (mv5 h)) ?_
  refine ex_st (fun _ h=>st_some (f:=Ah.op g2) (a:=(⟨p21.2.2,p21.1⟩:Ah)) (st_star_f (A:=Ah.fl b14 (⟨p21.2.2,p21.1⟩:Ah) g2) h)) ?_
  obtain rfl:=si hm29
  exact x_d2 z (rv_n 1 [vI 0,vS [],vW 0] ag41 z z z z) (rv_t z) (pk 7 [2,0,6,5]) le_ ⟨_,z,(⟨(pt b14 0,g2),(pv23,g24),g6⟩:Ad.G),z,z,z⟩
 have hm29:=iff_ hm26 h28
 refine c_skip (x_seq (c_seq ?_))
 refine c_any mixed (effs:=[10,11]) (V:=[]) ?_
 refine stn mk34_ [0,1,2,3,4,5,6,7,8,9] [10] [_,_,_,_,_,_,_,_,_,_] (q_mv z z z (q_u z z (o_nc z) (q_fa z z fa96_3 z (q_ld z z 1 sc94 z z z (q_fa z z fa35_2 z (q_ld z z 3 sc22 z z z (q_u z z (o_lk (kv:=vW) (vv:=Ap.v) (key:=a1.Session) (z0:=((⟨0,(⟨0,[],0⟩:Ar)⟩:Ap):Ap)) 6 Tryz.underlying94 (kok_W Tryz.underlying22) (fun _=>by kernel_rfl) z z z) (q_mv z z z (q_u z z (o_ext z z) (q_u z z (o_ext z z) qn)))))))))) ?_ (nxt z)
 refine ec (eo_n z (s_w (o_al ze102)) fun b30 => ?_) en
 refine stage z z z z mk34_ [0,1,2,3,4,5,6,7,8,9] [11] z z z (q_mv z z z (q_u z z (o_nc z) (q_fa z z fa96_3 z (q_ld z z 2 sc94 z z z (q_fa z z fa35_2 z (q_ld z z 4 sc22 z z z (q_u z z (o_lk (kv:=vW) (vv:=Ap.v) (key:=a1.Session) (z0:=((⟨0,(⟨0,[],0⟩:Ar)⟩:Ap):Ap)) 7 Tryz.underlying94 (kok_W Tryz.underlying22) (fun _=>by kernel_rfl) z z z) (q_mv z z z (q_u z z (o_ext z z) (q_u z z (o_ext z z) qn)))))))))) ?_ (nxt z)
 refine ec (eo_u z (s_u (o_stn ag102 z z z z z z z)) le_ ?_) en
 refine stx [12] mk34_ [9,12] [] [_] (q_u z z (o_ext z z) (q_u z z (o_as z) qn)) en ?_
 intro _
 refine ex_sub (E':=[(0,pt b0_ 0),(3,pt b7 0),(4,pt b8 0),(8,pt b30 0),(9,vB ((mget a0.sessions a1.Session).isSome))]) ⟨z,z,z,z,z,trivial⟩ ?_
 refine x_seq (c_seq (c_blk (csr ?_)))
 refine r_mv z (r_mv z ?_)
 refine r_s (s_gt z z fun g=>o_fa fa35_3 z) ?_
 refine r_s (s_gt z z fun g=>o_ld 4 sc22 (evg z g) z z) ?_
 refine r_s (s_gt z z fun g=>o_fa fa102_0 z) ?_
 refine r_s (s_gt z z fun g=>o_ld 0 sc22 (evg z g) z z) ?_
 refine r_s (s_gt z z fun g=>o_bin (evg z g) (evg z g) (bW_eq _ _)) ?_
 refine r_u (o_and z z) (r_as z ?_)
 refine nsq ?_
 refine c_if (b:=((mget a0.sessions a1.Session).isSome&&(a1.Num==(((mget a0.sessions a1.Session).getD ((⟨0,(⟨0,[],0⟩:Ar)⟩:Ap):Ap)).num)))) z (fun h31 => ?_) fun h31 => ?_
 ·have hm32:=ift hm29 h31
  refine csr ?_
  refine r_fa fa102_1 z ?_
  refine r_u (o_ldn 0 (Ar.c (((mget a0.sessions a1.Session).getD ((⟨0,(⟨0,[],0⟩:Ar)⟩:Ap):Ap)).reply)) ag41 z z z z) ?_
  refine rl_st (fun _ h=>mv3 h) ?_
  refine r_u0 (o_stn ag41 z z z z z z z) ?_
  refine r_as z ?_
  refine r_nil (x_seq (c_ret ?_))
  refine ex_st (fun _ h=>mv3 (mv6 h)) ?_
  refine ex_st (fun _ h=>st_some (f:=Ah.op g2) (a:=(⟨p21.2.2,p21.1⟩:Ah)) (st_star_f (A:=Ah.fl b14 (⟨p21.2.2,p21.1⟩:Ah) g2) h)) ?_
  obtain rfl:=si hm32
  exact x_d2 z (rv_n 1 (Ar.c (((mget a0.sessions a1.Session).getD ((⟨0,(⟨0,[],0⟩:Ar)⟩:Ap):Ap)).reply)) ag41 z z z z) (rv_t z) (pk 8 [3,0,7,6]) le_ ⟨_,z,(⟨(pt b14 0,g2),(pv23,g24),g6⟩:Ad.G),z,z,z⟩
 have hm32:=iff_ hm29 h31
 refine csr ?_
 refine r_mv z (r_mv z ?_)
 refine r_s (s_gt z z fun g=>o_fa fa35_3 z) ?_
 refine r_s (s_gt z z fun g=>o_ld 4 sc22 (evg z g) z z) ?_
 refine r_s (s_gt z z fun g=>o_fa fa102_0 z) ?_
 refine r_s (s_gt z z fun g=>o_ld 0 sc22 (evg z g) z z) ?_
 refine r_s (s_gt z z fun g=>o_bin (evg z g) (evg z g) (bW_lt _ _)) ?_
 refine r_u (o_and z z) (r_as z ?_)
 refine nsq ?_
 refine c_if (b:=((mget a0.sessions a1.Session).isSome&&decide (a1.Num<(((mget a0.sessions a1.Session).getD ((⟨0,(⟨0,[],0⟩:Ar)⟩:Ap):Ap)).num)))) z (fun h33 => ?_) fun h33 => ?_
 ·have hm34:=ift hm32 h33
  refine csr ?_
  refine r_u (o_bld [vI 122,vS [],vW 0] z (fun _=>by kernel_rfl)) ?_
  refine rl_st (fun _ h=>mv3 h) ?_
  refine r_u0 (o_stn ag41 z z z z z z z) ?_
  refine r_as z ?_
  refine r_nil (x_seq (c_ret ?_))
  refine ex_st (fun _ h=>mv3 (mv6 h)) ?_
  refine ex_st (fun _ h=>st_some (f:=Ah.op g2) (a:=(⟨p21.2.2,p21.1⟩:Ah)) (st_star_f (A:=Ah.fl b14 (⟨p21.2.2,p21.1⟩:Ah) g2) h)) ?_
  obtain rfl:=si hm34
  exact x_d2 z (rv_n 1 [vI 122,vS [],vW 0] ag41 z z z z) (rv_t z) (pk 8 [3,0,7,6]) le_ ⟨_,z,(⟨(pt b14 0,g2),(pv23,g24),g6⟩:Ad.G),z,z,z⟩
 have hm34:=iff_ hm32 h33
 refine csr ?_
 refine r_mv z ?_
 refine r_u (o_not z) (r_mv z ?_)
 refine r_s (s_gt z z fun g=>o_mv z) ?_
 refine r_s (s_gt z z fun g=>o_nc (evg z g)) ?_
 refine r_s (s_gt z z fun g=>o_fa fa96_3 (evg z g)) ?_
 refine r_s (s_gt z z fun g=>o_ld 2 sc94 (evg z g) z z) ?_
 refine r_s (s_gt z z fun g=>o_lenM (kv:=vW) (vv:=Ap.v) 7 Tryz.underlying94 (evg z g) z) ?_
 refine r_s (s_gt z z fun g=>o_bin (evg z g) z (bI_ge _ 64)) ?_
 refine r_u (o_and z z) (r_as z ?_)
 refine nsq ?_
 refine c_if (b:=(!((mget a0.sessions a1.Session).isSome)&&decide (64≤(a0.sessions.length:Int)))) z (fun h35 => ?_) fun h35 => ?_
 ·have hm36:=ift hm34 h35
  refine csr ?_
  refine r_u (o_bld [vI 3,vS [],vW 0] z (fun _=>by kernel_rfl)) ?_
  refine rl_st (fun _ h=>mv3 h) ?_
  refine r_u0 (o_stn ag41 z z z z z z z) ?_
  refine r_as z ?_
  refine r_nil (x_seq (c_ret ?_))
  refine ex_st (fun _ h=>mv3 (mv6 h)) ?_
  refine ex_st (fun _ h=>st_some (f:=Ah.op g2) (a:=(⟨p21.2.2,p21.1⟩:Ah)) (st_star_f (A:=Ah.fl b14 (⟨p21.2.2,p21.1⟩:Ah) g2) h)) ?_
  obtain rfl:=si hm36
  exact x_d2 z (rv_n 1 [vI 3,vS [],vW 0] ag41 z z z z) (rv_t z) (pk 8 [3,0,7,6]) le_ ⟨_,z,(⟨(pt b14 0,g2),(pv23,g24),g6⟩:Ad.G),z,z,z⟩
 have hm36:=iff_ hm34 h35
 refine c_skip (x_blk (x_seq (csr ?_)))
 refine r_mv z (r_fa fa35_4 z ?_)
 refine r_u (o_ldn 4 (AH.c a1.Op) ag27 z z z z) ?_
 refine rl_st (fun _ h=>mv2 (mv6 h)) ?_
 refine rl_st (fun _ h=>st_some (f:=Ah.op g2) (a:=(⟨p21.2.2,p21.1⟩:Ah)) (st_star_f (A:=Ah.fl b14 (⟨p21.2.2,p21.1⟩:Ah) g2) h)) ?_
 obtain ⟨r37,hr37,hm46⟩:=bs hm36
 refine rl_st (fun _ h=>mv4 (mv2 (mv7 (mv6 h)))) ?_
 refine r_sw (s_w (o_call ca38 z (AP.ok b0_ (⟨a0.c,(some (⟨p21.2.2,p21.1⟩:Ah)),p21.2.1,a0.sessions,a0.seq+1,(if a0.now<a1.Now then a1.Now else a0.now),a0.version,a0.tally⟩:Ad) (⟨(pt b14 0,g2),(pv23,g24),g6⟩:Ad.G) _ _ hr37))) ?_
 rintro _ R _ _ ⟨⟨⟨pv40,g41⟩,⟨pv43,g44⟩,g45⟩,rfl,rfl,rfl⟩
 refine r_new (o_al ze41) fun b47 => ?_
 refine r_u0 (o_stn ag41 z z z z z z z) ?_
 refine r_nil (x_seq (c_seq ?_))
 refine c_any mixed (effs:=[10]) (V:=[]) ?_
 refine stage_st (fun _ h=>mv4 h) ?_
 refine stn mk27_ [0,1,2,3,4,5,6,7,8,9] [10] [_,_,_,_,_,_,_,_,_,_] (q_mv z z z (q_u z z (o_nc z) (q_fa z z fa96_3 z (q_ld z z 2 sc94 z z z (q_fa z z fa35_2 z (q_ld z z 7 sc22 z z z (q_fa z z fa35_3 z (q_ld z z 7 sc22 z z z (q_u z z (o_ldn 1 (Ar.c r37.1) ag41 z z z z) (q_u z z (o_bld [vW a1.Num,vI r37.1.E,vS r37.1.Value,vW r37.1.Version] z (fun _=>by kernel_rfl)) qn)))))))))) ?_ (nxt z)
 refine ec (eo_u z (s_u (o_mu (kv:=vW) (vv:=Ap.v) (key:=a1.Session) (val:=(⟨a1.Num,r37.1⟩:Ap)) Tryz.underlying94 (kok_W Tryz.underlying22) z z z z)) le_ ?_) en
 refine stage z z z z mk27_ [] [] z z z qn en ?_
 intro _
 refine ex_sub (E':=[(4,pt b8 0),(10,pt b47 0)]) ⟨z,z,trivial⟩ ?_
 refine x_seq (csr ?_)
 refine r_u (o_ldn 1 (Ar.c r37.1) ag41 z z z z) ?_
 refine rl_st (fun _ h=>mv6 h) ?_
 refine r_u0 (o_stn ag41 z z z z z z z) ?_
 refine r_as z ?_
 refine r_nil (x_seq (c_ret ?_))
 obtain rfl:=si hm46
 exact x_d2 z (rv_n 0 (Ar.c r37.1) ag41 z z z z) (rv_t z) (pk 9 [3,4,5,1]) le_ ⟨_,z,(⟨(pv40,g41),(pv43,g44),g45⟩:Ad.G),z,z,z⟩
def BD(a1:List Az):Nat→(Option Ad)→UInt64→Int→Option (Option Ad×UInt64)
 | 0,_,_,_=>none
 | k30+1,s_24,now_25,i_26=>if (decide (i_26<(a1.length:Int))&&decide (i_26<60)) then om s_24 (none) fun x35=>(gi a1 i_26).bind fun x46=>(Bj (AU x35) now_25 x46).bind fun r48=>(AF x35 r48.1).bind fun r51=>BD a1 k30 (some r51.2.2) r48.2 (i64 (i_26+1)) else some (s_24,now_25)
def B4(a0:Av)(a1:List Az):Option (Option Ad×UInt64×Bool) :=
 (CR (B3 a0)).bind fun r1=>Option.bind (BD a1 (((a1.length:Int)-0).toNat+1) r1.1 0 0) fun p6=>om p6.1 (none) fun x13=>some ((some x13),p6.2,((r1.2==0)&&true))
theorem B4.ok{G R F}(a0:Av)(v1_:Value)(a1:List Az)(h1_:RoS R v1_ 9 Az.c a1)(r:Option Ad×UInt64×Bool)(hm:B4 a0 a1=some r):CO Tryz.prog 11 [.agg (Av.c a0).toArray,v1_] G R (F)
  (Ret fun u R' L'=>∃(p0:Value×Ad.G),u = .tuple #[p0.1,vW r.2.1,vB r.2.2]∧R'=R∧L'=rO (Ad.op p0.2) p0.1 r.1::F):=by
 unfold B4 at hm
 refine co_ofN (N:=52) Tryz.func11 z z ?_
 refine csr ?_
 refine r_new (o_bx (Av.c a0) z z) fun b0 => ?_
 refine r_as z (r_as z (r_as z ?_))
 refine nsr ?_
 refine r_u (o_ldn 0 (Av.c a0) ag24 z z z z) ?_
 refine r_u (o_callq ca18 z (B3.ok a0 _ z)) ?_
 obtain ⟨r1,hr1,hm5⟩:=bs hm
 refine r_sw (s_w (o_call ca19 z (CR.ok _ _ hr1))) ?_
 rintro _ R _ _ ⟨⟨pv3,g4⟩,rfl,rfl,rfl⟩
 refine r_mv z ?_
 refine r_ext z z ?_
 refine r_ext z z (r_as z (r_as z ?_))
 refine nsr ?_
 refine r_as z ?_
 refine nssr ?_
 refine r_as z ?_
 refine nsq ?_
 obtain ⟨p6,hp10,hm11⟩:=bs hm5
 refine cd_cut (fun x ks=>∀(pv7:Value×Ad.G),EX x .normal ks [(8,vI r1.2),(7,pv7.1),(9,vW p6.2)] R (Bk b0 24 (Av.c a0)::rO (Ad.op pv7.2) pv7.1 p6.1::F)) ?_ fun K12 => ?_
 ·intro pv7
  obtain ⟨pv8,g9⟩:=pv7
  refine x_seq (c_seq ?_)
  refine cd_st (fun _ h=>mv1 h) ?_
  refine cd_opt (fun ho15 => ?_) (fun x13 b14 ho15 => ?_)
  ·rintro rfl
   have hm16:=om_n hm11 ho15
   cases hm16
  rintro rfl
  have hm16:=om_s hm11 ho15
  obtain ⟨⟨pv18,g19⟩,⟨pv21,g22⟩,g23⟩:=g9
  refine cd_st (fun _ h=>st_star_o h) ?_
  refine c_reg ?_
  refine r_mv z (r_mv z (r_mv z (r_bin z z (bI_eq _ 0) (r_mv z ?_))))
  refine r_s (s_gt z z fun g=>o_mv z) ?_
  refine r_s (s_gt z z fun g=>o_bin (evg z g) z (bP_nep Tryz.underlying30)) ?_
  refine r_u (o_and z z) (r_as z (r_as z (r_as z ?_)))
  refine r_nil (x_seq (c_ret ?_))
  refine ex_st (fun _ h=>st_some (f:=Ad.op (⟨(pv18,g19),(pv21,g22),g23⟩:Ad.G)) (a:=x13) (st_star_f (A:=Ad.fl b14 x13 (⟨(pv18,g19),(pv21,g22),g23⟩:Ad.G)) h)) ?_
  obtain rfl:=si hm16
  refine ex_st (pk 2 [0]) ?_
  exact x_r3 z (rv_t z) (rv_t z) (rv_t z) le_ ⟨_,z,(pt b14 0,(⟨(pv18,g19),(pv21,g22),g23⟩:Ad.G)),z,z,z⟩
 refine c_blk ?_
 refine cd_loopG (M:=fun k30 (s:Option Ad×UInt64×Int×(Value×Ad.G))=>BD a1 k30 s.1 s.2.1 s.2.2.1=some p6) (Ef:=fun (s:Option Ad×UInt64×Int×(Value×Ad.G))=>[(1,v1_),(8,vI r1.2),(7,s.2.2.2.1),(9,vW s.2.1),(10,vI s.2.2.1)]) (Rf:=fun (s:Option Ad×UInt64×Int×(Value×Ad.G))=>R) (Lf:=fun (s:Option Ad×UInt64×Int×(Value×Ad.G))=>Bk b0 24 (Av.c a0)::rO (Ad.op s.2.2.2.2) s.2.2.2.1 s.1::F) (((a1.length:Int)-0).toNat+1) (r1.1,0,0,(pv3,g4)) hp10 ⟨z,z,z,z,z,trivial⟩ (pk 2 [1,0]) (fun _ h=>by cases h) fun k30 s hM32 => ?_
 obtain ⟨s_24,now_25,i_26,pv27⟩:=s
 have hm31:BD a1 (k30+1) s_24 now_25 i_26=some p6:=hM32
 rw [BD] at hm31
 obtain ⟨pv28,g29⟩:=pv27
 refine c_seq (csr ?_)
 refine r_mv z (r_mv z ?_)
 refine r_u (o_lenR Tryz.underlying25 z h1_) (r_bin z z (bI_lt _ _) (r_mv z ?_))
 refine r_s (s_gt z z fun g=>o_mv z) ?_
 refine r_s (s_gt z z fun g=>o_bin (evg z g) z (bI_lt _ 60)) ?_
 refine r_u (o_and z z) ?_
 refine nsq ?_
 refine c_if (b:=(decide (i_26<(a1.length:Int))&&decide (i_26<60))) z (fun h33 => ?_) fun h33 => ?_
 rotate_left
 ·have hm34:=iff_ hm31 h33
  refine c_exit (x_exit (ks':=_) z ?_)
  obtain rfl:=si hm34
  exact x_sub (K12 (pv28,g29)) ⟨z,z,z,trivial⟩ (pk 2 [0,1])
 have hm34:=ift hm31 h33
 refine c_skip (x_seq (c_seq (c_blk (c_seq ?_))))
 refine cd_st (fun _ h=>mv1 h) ?_
 refine cd_opt (fun ho37 => ?_) (fun x35 b36 ho37 => ?_)
 ·rintro rfl
  have hm38:=om_n hm34 ho37
  cases hm38
 rintro rfl
 have hm38:=om_s hm34 ho37
 obtain ⟨⟨pv40,g41⟩,⟨pv43,g44⟩,g45⟩:=g29
 refine cd_st (fun _ h=>st_star_o h) ?_
 obtain ⟨x46,hx46,hm47⟩:=bs hm38
 obtain ⟨b46,o46,l46,T46,fr46,c46,hv46,hR46,he46,hi46⟩:=RoS.ne h1_ hx46
 obtain ⟨r48,hr48,hm49⟩:=bs hm47
 refine c_any mixed (effs:=[11,12]) (V:=[]) ?_
 refine stn mk21_ [0,1,2,3,4,5,6,7,8,9,10] [11] [_,_,_,_,_,_,_,_,_,_,_] (q_mv z z z (q_u z z (o_callqP ca14 z (AU.ok b36 x35 (⟨(pv40,g41),(pv43,g44),g45⟩:Ad.G) _ z) (pk 5 [0,1,2,3,4]) (pk 5 [0,1,2,3,4])) (q_mv z z z (q_mv z z z (q_mv z z z (q_u z z (o_ix (sz:=9) Tryz.underlying25 (fun _=>by kernel_rfl) z z hv46 hi46) (q_u z z (o_ldnR (Az.c x46) ag29 z hR46 he46 z) (q_u z z (o_callq ca13 z (Bj.ok _ _ _ _ hr48)) (q_mv z z z (q_u z z (o_ext z z) (q_u z z (o_ext z z) qn))))))))))) ?_ (nxt z)
 refine ec (eo_n z (s_w (o_al ze35)) fun b50 => ?_) en
 refine stage z z z z mk21_ [0,1,2,3,4,5,6,7,8,9,10] [12] z z z (q_mv z z z (q_u z z (o_callqP ca14 z (AU.ok b36 x35 (⟨(pv40,g41),(pv43,g44),g45⟩:Ad.G) _ z) (pk 6 [1,2,3,4,0,5]) (pk 6 [4,0,1,2,3,5])) (q_mv z z z (q_mv z z z (q_mv z z z (q_u z z (o_ix (sz:=9) Tryz.underlying25 (fun _=>by kernel_rfl) z z hv46 hi46) (q_u z z (o_ldnR (Az.c x46) ag29 z hR46 he46 z) (q_u z z (o_callq ca13 z (Bj.ok _ _ _ _ hr48)) (q_mv z z z (q_u z z (o_ext z z) (q_u z z (o_ext z z) qn))))))))))) ?_ (nxt z)
 refine ec (eo_u z (s_u (o_stn ag35 z z z z z z z)) le_ ?_) en
 refine stx [13] mk21_ [10,13] [] [_] (q_u z z (o_ext z z) (q_u z z (o_as z) qn)) en ?_
 intro _
 refine ex_sub (E':=[(1,v1_),(8,vI r1.2),(7,pt b36 0),(10,vI i_26),(11,pt b50 0),(12,vW r48.2)]) ⟨z,z,z,z,z,z,trivial⟩ ?_
 refine x_seq (csr ?_)
 refine r_mv z (r_as z ?_)
 refine r_nil (x_seq (c_reg ?_))
 refine r_mv z ?_
 refine r_u (o_ldn 0 (AM.c r48.1) ag35 z z z z) ?_
 obtain ⟨r51,hr51,hm60⟩:=bs hm49
 refine rl_st (fun _ h=>mv4 (mv4 (mv4 (mv4 h)))) ?_
 refine r_sw (s_w (o_call ca15 z (AF.ok b36 _ (⟨(pv40,g41),(pv43,g44),g45⟩:Ad.G) _ _ hr51))) ?_
 rintro _ R _ _ ⟨⟨⟨pv54,g55⟩,⟨pv57,g58⟩,g59⟩,rfl,rfl,rfl⟩
 refine r_nil (x_blk (x_seq (c_reg ?_)))
 refine r_mv z (r_bin z z (bI_add _ 1) (r_as z ?_))
 refine r_nil ?_
 refine ex_st (fun _ h=>st_some (f:=Ad.op (⟨(pv54,g55),(pv57,g58),g59⟩:Ad.G)) (a:=r51.2.2) (st_star_f (A:=Ad.fl b36 r51.2.2 (⟨(pv54,g55),(pv57,g58),g59⟩:Ad.G)) h)) ?_
 exact x_lp ((some r51.2.2),r48.2,i64 (i_26+1),(pt b36 0,(⟨(pv54,g55),(pv57,g58),g59⟩:Ad.G))) hm60 ⟨z,z,z,z,z,trivial⟩ (pk 3 [2,0])
def Bf(a0:Ah)(r3:List Str):Nat→Str→Int→Option (Str)
 | 0,_,_=>none
 | k12+1,out_10,s_11=>if decide (s_11<(r3.length:Int)) then (gi r3 s_11).bind fun x17=>(Cc x17).bind fun r20=>(Cc (((mget a0.m x17).getD ((⟨[],[],0,0⟩:Ak):Ak)).Value)).bind fun r22=>if r20.length+r22.length≤maxS then (AB (((mget a0.m x17).getD ((⟨[],[],0,0⟩:Ak):Ak)).Version)).bind fun r26=>if (r20++r22).length+r26.length≤maxS then (AB (((mget a0.m x17).getD ((⟨[],[],0,0⟩:Ak):Ak)).End)).bind fun r30=>if ((r20++r22)++r26).length+r30.length≤maxS then if out_10.length+(((r20++r22)++r26)++r30).length≤maxS then Bf a0 r3 k12 (out_10++(((r20++r22)++r26)++r30)) (i64 (s_11+1)) else none else none else none else none else some out_10
def BK(a0:Ah):Option Str :=
 (AB (toW (a0.m.length:Int))).bind fun r1=>(Bl a0).bind fun r3=>Option.bind (Bf a0 r3 (((r3.length:Int)-0).toNat+1) r1 0) fun p6=>some p6
theorem BK.ok{G R F}(b0_:Nat)(a0:Ah)(g0_:Ah.G)(r:Str)(hm:BK a0=some r):CO Tryz.prog 50 [pt b0_ 0] G R (Bk b0_ 138 [g0_.m,vI a0.bytes]::OwM vS Ak.v g0_.m a0.m::F)
  (Ret fun u R' L'=>u=vS r∧R'=R∧L'=Bk b0_ 138 [g0_.m,vI a0.bytes]::OwM vS Ak.v g0_.m a0.m::F):=by
 unfold BK at hm
 refine co_ofN (N:=47) Tryz.func50 z z ?_
 refine csr ?_
 refine r_as z ?_
 refine nssr ?_
 refine r_mv z (r_bin z z (bP_eqp Tryz.underlying92) ?_)
 refine nsq ?_
 refine c_ff z ?_
 refine c_skip (x_seq (csr ?_))
 refine r_mv z (r_nc z (r_fa fa138_0 z (r_ld 0 sc136 z z z ?_)))
 refine r_u (o_lenM (kv:=vS) (vv:=Ak.v) 1 Tryz.underlying136 z z) (r_u (o_cv z (cIW Tryz.underlying3 Tryz.underlying22 (a0.m.length:Int))) ?_)
 obtain ⟨r1,hr1,hm2⟩:=bs hm
 refine r_u (o_callq ca49 z (AB.ok _ _ hr1)) (r_as z ?_)
 refine nssr ?_
 refine r_mv z ?_
 obtain ⟨r3,hr3,hm5⟩:=bs hm2
 refine r_sw (s_w (o_call ca39 z (Bl.ok b0_ a0 g0_ _ hr3))) ?_
 rintro v4 R _ _ ⟨_,rfl,rfl,rfl⟩
 refine r_u (o_lenO 0 Tryz.underlying98 z z) (r_mv z ?_)
 refine nsq ?_
 obtain ⟨p6,hp7,hm8⟩:=bs hm5
 refine cd_join (E':=[(3,vS p6)]) (L':=Bk b0_ 138 [g0_.m,vI a0.bytes]::OwS true 9 1 eS v4 r3::OwM vS Ak.v g0_.m a0.m::F) ?_ fun K9 => ?_
 ·refine x_seq (csr ?_)
  refine r_mv z (r_as z ?_)
  refine r_nil (x_seq (c_ret ?_))
  obtain rfl:=si hm8
  refine ex_st (pk 3 [0,2]) ?_
  exact x_r1 z (rv_t z) le_ ⟨_,z,z,z,z⟩
 refine c_blk ?_
 refine cd_loop (M:=fun k12 (s:Str×Int)=>Bf a0 r3 k12 s.1 s.2=some p6) (Ef:=fun (s:Str×Int)=>[(0,pt b0_ 0),(17,v4),(18,vI (r3.length:Int)),(3,vS s.1),(19,vI s.2)]) (Lf:=fun (s:Str×Int)=>Bk b0_ 138 [g0_.m,vI a0.bytes]::OwS true 9 1 eS v4 r3::OwM vS Ak.v g0_.m a0.m::F) (((r3.length:Int)-0).toNat+1) (r1,0) hp7 ⟨z,z,z,z,z,trivial⟩ (pk 3 [1,0,2]) (fun _ h=>by cases h) fun k12 s hM14 => ?_
 obtain ⟨out_10,s_11⟩:=s
 have hm13:Bf a0 r3 (k12+1) out_10 s_11=some p6:=hM14
 rw [Bf] at hm13
 refine csr ?_
 refine r_bin z z (bI_lt _ _) ?_
 refine r_nil (x_seq (c_seq ?_))
 refine c_if (b:=decide (s_11<(r3.length:Int))) z (fun h15 => ?_) fun h15 => ?_
 rotate_left
 ·have hm16:=iff_ hm13 h15
  refine c_exit (x_exit (ks':=_) z ?_)
  obtain rfl:=si hm16
  exact x_sub K9 ⟨z,trivial⟩ (pk 3 [0,1,2])
 have hm16:=ift hm13 h15
 refine c_skip (x_seq (c_seq (c_blk (csr ?_))))
 obtain ⟨x17,hx17,hm18⟩:=bs hm16
 refine r_u (o_ixO 1 Tryz.underlying98 (fun _=>by kernel_rfl) z z z hx17) (r_u (o_ldO0 1 sc9 z z hx17 z z) (r_as z ?_))
 refine nsr ?_
 refine r_mv z (r_nc z (r_fa fa138_0 z (r_ld 0 sc136 z z z (r_mv z ?_))))
 refine r_u (o_lk1 (kv:=vS) (vv:=Ak.v) (key:=x17) (z0:=((⟨[],[],0,0⟩:Ak):Ak)) 2 Tryz.underlying136 (kok_S Tryz.underlying9) (fun _=>by kernel_rfl) z z z) ?_
 refine r_new (o_al ze50) fun b19 => ?_
 refine r_u0 (o_stn ag50 z z z z z z z) ?_
 refine nsq ?_
 obtain ⟨r20,hr20,hm21⟩:=bs hm18
 obtain ⟨r22,hr22,hm23⟩:=bs hm21
 obtain ⟨h24,hm25⟩:=ig hm23
 obtain ⟨r26,hr26,hm27⟩:=bs hm25
 obtain ⟨h28,hm29⟩:=ig hm27
 obtain ⟨r30,hr30,hm31⟩:=bs hm29
 obtain ⟨h32,hm33⟩:=ig hm31
 obtain ⟨h34,hm35⟩:=ig hm33
 refine c_any mixed (effs:=[]) (V:=[]) ?_
 refine stn [0,0,2,0,8,30,62,0,128,446,1022,0,2048,7102,16382,32767,65535] [0,1,2,3,4,5,6,7,8,9,10,11,12,13,14,15,16] [] [_,_,_,_,_,_,_,_,_,_,_,_,_,_,_,_,_] (q_mv z z z (q_mv z z z (q_u z z (o_callq ca90 z (Cc.ok _ _ hr20)) (q_fa z z fa50_1 z (q_ld z z 0 sc9 z z z (q_u z z (o_callq ca90 z (Cc.ok (((mget a0.m x17).getD ((⟨[],[],0,0⟩:Ak):Ak)).Value) _ hr22)) (q_u z z (o_bin z z (bS_add _ _ h24)) (q_fa z z fa50_2 z (q_ld z z 0 sc22 z z z (q_u z z (o_callq ca49 z (AB.ok (((mget a0.m x17).getD ((⟨[],[],0,0⟩:Ak):Ak)).Version) _ hr26)) (q_u z z (o_bin z z (bS_add _ _ h28)) (q_fa z z fa50_3 z (q_ld z z 0 sc22 z z z (q_u z z (o_callq ca49 z (AB.ok (((mget a0.m x17).getD ((⟨[],[],0,0⟩:Ak):Ak)).End) _ hr30)) (q_u z z (o_bin z z (bS_add _ _ h32)) (q_u z z (o_bin z z (bS_add _ _ h34)) (q_u z z (o_as z) qn))))))))))))))))) en ?_
 intro _
 refine ex_sub (E':=[(0,pt b0_ 0),(17,v4),(18,vI (r3.length:Int)),(3,vS (out_10++(((r20++r22)++r26)++r30))),(19,vI s_11)]) ⟨z,z,z,z,z,trivial⟩ ?_
 refine x_blk (x_seq (c_reg ?_))
 refine r_bin z z (bI_add _ 1) (r_mv z ?_)
 refine r_nil ?_
 exact x_lp (out_10++(((r20++r22)++r26)++r30),i64 (s_11+1)) hm35 ⟨z,z,z,z,z,trivial⟩ (pk 4 [1,2,3])
def DK:Option Ab→Nat
 | none=>1
 | some r=>r.slots.length+1
def BI(a2:Int)(x2:Ab):Nat→Int→Option (List Str)
 | 0,_=>none
 | k19+1,i_18=>if (i_18 != a2) then (gi x2.slots i_18).bind fun x24=>(BI a2 x2 k19 x24.next).bind fun r_=>some (x24.key::r_) else some []
def Cm(a1:Option Ab)(a2:Int):Option (List Str) :=
 om a1 (none) fun x2=>if !(BN x2 a2) then some [] else (gi x2.slots a2).bind fun x12=>Option.bind (BI a2 x2 (DK a1) x12.next) fun p14=>some p14
theorem Cm.ok{G R}(b1_:Nat)(a1:Option Ab)(g1_:Value×Ab.G)(b2_:Nat)(a2:Int)(r:List Str)(hm:Cm a1 a2=some r):
  Gives Tryz.prog G R 231 [pt b1_ 0,pt b2_ 0] vS r [Bk b1_ 191 [g1_.1],rO (Ab.op g1_.2) g1_.1 a1,Bk b2_ 3 [vI a2]]:=by
 intro l F Inv h0 hY
 change CO Tryz.prog 231 [.func (.yield l) #[] #[],pt b1_ 0,pt b2_ 0] G R (Bk b1_ 191 [g1_.1]::rO (Ab.op g1_.2) g1_.1 a1::Bk b2_ 3 [vI a2]::F) (Ret fun u R' L'=>u = .tuple #[]∧R'=R∧∃F',L'=Bk b1_ 191 [g1_.1]::rO (Ab.op g1_.2) g1_.1 a1::Bk b2_ 3 [vI a2]::F'∧Inv r F')
 obtain ⟨pv0,g1⟩:=g1_
 unfold Cm at hm
 refine co_ofN (N:=39) Tryz.func231 rfl rfl ?_
 refine c_seq (c_seq ?_)
 refine cd_st (pk 3 [1,0,2]) ?_
 refine cd_opt (fun ho4 => ?_) (fun x2 b3 ho4 => ?_)
 ·rintro rfl
  have hm5:=om_n hm ho4
  cases hm5
 rintro rfl
 have hm5:=om_s hm ho4
 refine cd_st (fun _ h=>st_star_o h) ?_
 refine c_reg ?_
 refine r_u (o_ld 5 sc191 rfl rfl rfl) (r_u (o_ld 6 sc3 rfl rfl rfl) ?_)
 refine r_c (s_w (o_call ca210 rfl (BN.ok b3 x2 g1 a2 _ rfl))) ?_
 refine r_u (o_not rfl) ?_
 refine r_nil (x_seq ?_)
 refine c_if (b := !(BN x2 a2)) rfl (fun h10 => ?_) fun h10 => ?_
 ·have hm11:=ift hm5 h10
  refine c_ret ?_
  refine ex_st (fun _ h=>st_some (f:=Ab.op g1) (a:=x2) (st_star_f (A:=Ab.fl b3 x2 g1) h)) ?_
  refine ex_st (fun _ h=>st_back ho4 h) ?_
  obtain rfl:=si hm11
  refine ex_st (pk 3 [1,0,2]) ?_
  exact x_r0 rfl le_ ⟨_,rfl,rfl,rfl,F,rfl,h0⟩
 have hm11:=iff_ hm5 h10
 refine c_skip (x_seq (c_seq ?_))
 obtain ⟨x12,hx12,hm13⟩:=bs hm11
 refine c_any mixed (effs:=[]) (V:=[]) ?_
 refine stage_ext [(0,pt b3 0),(1,pt b3 0),(2,pt b3 1),(3,g1.slots),(4,vI a2),(5,pt (sb g1.slots) (so g1.slots+a2.toNat*4)),(6,pt (sb g1.slots) (so g1.slots+a2.toNat*4+3)),(7,vI x12.next),(8,vI x12.next)] rfl ?_
 refine stage rfl rfl rfl rfl [0,1,3,7,0,31,63,127,255] [0,1,2,3,4,5,6,7,8] [] rfl rfl rfl (qc rfl rfl (s_u (o_ld 5 sc191 rfl rfl rfl)) (qc rfl rfl (s_u (o_nc rfl)) (qc rfl rfl (s_u (o_fa fa237_1 rfl)) (qc rfl rfl (s_u (o_ld 0 sc233 rfl rfl rfl)) (qc rfl rfl (s_u (o_ld 6 sc3 rfl rfl rfl)) (qc rfl rfl (s_u (o_ixO 1 Tryz.underlying233 (fun _=>by kernel_rfl) rfl rfl rfl hx12)) (qc rfl rfl (s_u (o_fa fa240_3 rfl)) (qc rfl rfl (s_u (o_ldO 1 3 sc3 rfl rfl hx12 rfl rfl)) (qc rfl rfl (s_u (o_as rfl)) qn))))))))) en ?_
 intro _
 refine ex_sub (E':=[(0,.func (.yield l) #[] #[]),(1,pt b1_ 0),(2,pt b2_ 0),(4,vI x12.next)]) ⟨rfl,rfl,rfl,rfl,trivial⟩ ?_
 refine x_seq ?_
 obtain ⟨p14,hp15,hm16⟩:=bs hm13
 obtain rfl:=si hm16
 refine c_blk ?_
 refine cd_loop (σ:=Int×List HP×List Str) (M:=fun k19 s=>∃rest,BI a2 x2 k19 s.1=some rest∧p14=s.2.2++rest∧Inv s.2.2 s.2.1) (Ef:=fun s=>[(0,.func (.yield l) #[] #[]),(1,pt b1_ 0),(2,pt b2_ 0),(4,vI s.1)]) (Lf:=fun s=>Bk b3 237 [vI x2.lists,g1.slots,g1.free,g1.at_,g1.many]::Bk b1_ 191 [pt b3 0]::Bk b2_ 3 [vI a2]::OwS true 240 4 As.c g1.slots x2.slots::OwS true 3 1 eI g1.free x2.free::OwM vS vI g1.at_ x2.at_::OwS true 3 1 eI g1.many x2.many::s.2.1) (DK a1) (x12.next,F,[]) ⟨p14,hp15,rfl,h0⟩ ⟨rfl,rfl,rfl,rfl,trivial⟩ (pk 7 [0,5,6,1,2,3,4]) (fun s h=>by obtain ⟨_,h,_⟩:=h;simp [BI] at h) fun k19 s hM21 => ?_
 obtain ⟨i_18,Fc,pre⟩:=s
 obtain ⟨rest,hm20,hpre,hInv⟩:=hM21
 replace hpre:p14=pre++rest:=hpre
 replace hInv:Inv pre Fc:=hInv
 change CD _ _ _ [(0,.func (.yield l) #[] #[]),(1,pt b1_ 0),(2,pt b2_ 0),(4,vI i_18)] R (Bk b3 237 [vI x2.lists,g1.slots,g1.free,g1.at_,g1.many]::Bk b1_ 191 [pt b3 0]::Bk b2_ 3 [vI a2]::OwS true 240 4 As.c g1.slots x2.slots::OwS true 3 1 eI g1.free x2.free::OwM vS vI g1.at_ x2.at_::OwS true 3 1 eI g1.many x2.many::Fc)
 replace hm20:BI a2 x2 (k19+1) i_18=some rest:=hm20
 rw [BI] at hm20
 refine c_seq (c_seq (c_reg ?_))
 refine r_u (o_mv rfl) (r_u (o_ld 2 sc3 rfl rfl rfl) (r_u (o_bin rfl rfl (bI_ne i_18 a2)) ?_))
 refine r_nil (x_seq ?_)
 refine c_if (b:=(i_18 != a2)) rfl (fun h22 => ?_) fun h22 => ?_
 ·have hm23:=ift hm20 h22
  refine c_skip (x_seq (c_seq (c_blk (c_seq (c_reg ?_)))))
  refine r_u (o_mv rfl) (r_u (o_ld 1 sc191 rfl rfl rfl) (r_u (o_nc rfl) (r_u (o_fa fa237_1 rfl) (r_u (o_ld 0 sc233 rfl rfl rfl) (r_u (o_mv rfl) ?_)))))
  obtain ⟨x24,hx24,hm25⟩:=bs hm23
  refine r_u (o_ixO 3 Tryz.underlying233 (fun _=>by kernel_rfl) rfl rfl rfl hx24) (r_u (o_fa fa240_0 rfl) (r_u (o_ldO0 3 sc9 rfl rfl hx24 rfl rfl) ?_))
  obtain ⟨r2,hr2,hm26⟩:=bs hm25
  obtain rfl:=si hm26
  refine r_w (o_yield rfl rfl (hY [Bk b3 237 [vI x2.lists,g1.slots,g1.free,g1.at_,g1.many],Bk b1_ 191 [pt b3 0],Bk b2_ 3 [vI a2],OwS true 240 4 As.c g1.slots x2.slots,OwS true 3 1 eI g1.free x2.free,OwM vS vI g1.at_ x2.at_,OwS true 3 1 eI g1.many x2.many] pre x24.key Fc hInv ⟨_,hpre⟩)) (fun v R' L' _ hC => ?_)
  obtain ⟨hv,hR',F',hL',hInv'⟩:=hC
  subst hv;subst hL';subst hR'
  refine r_u (o_not rfl) ?_
  refine r_nil (x_seq ?_)
  refine c_ff rfl ?_
  refine c_skip (x_blk (x_seq (c_reg ?_)))
  refine r_u (o_ld 1 sc191 rfl rfl rfl) (r_u (o_nc rfl) (r_u (o_fa fa237_1 rfl) (r_u (o_ld 0 sc233 rfl rfl rfl) (r_u (o_mv rfl) ?_))))
  refine r_u (o_ixO 3 Tryz.underlying233 (fun _=>by kernel_rfl) rfl rfl rfl hx24) (r_u (o_fa fa240_3 rfl) (r_u (o_ldO 3 3 sc3 rfl rfl hx24 rfl rfl) (r_u (o_as rfl) ?_)))
  refine r_nil ?_
  exact x_lp (x24.next,F',pre++[x24.key]) ⟨r2,hr2,by rw [hpre];simp,hInv'⟩ ⟨rfl,rfl,rfl,rfl,trivial⟩ (pk 7 [0,1,2,3,4,5,6])
 have hm23:=iff_ hm20 h22
 refine c_exit (x_exit (ks':=_) rfl ?_)
 obtain rfl:=si hm23
 rw [List.append_nil] at hpre
 subst hpre
 refine x_end ?_
 refine ex_st (pk 7 [0,3,4,5,6,1,2]) ?_
 refine ex_st (fun _ h=>st_some (f:=Ab.op g1) (a:=x2) (st_star_f (A:=Ab.fl b3 x2 g1) h)) ?_
 refine ex_st (fun _ h=>st_back ho4 h) ?_
 refine ex_st (pk 3 [1,0,2]) ?_
 exact x_r0 rfl le_ ⟨_,rfl,rfl,rfl,Fc,rfl,hInv⟩
theorem DJ.ok{G R F}(pv:Value)(hpv:pv.cells = #[pv])(a1:Int):CO Tryz.prog 188 [pv,vI a1] G R F
  (Ret fun u R' L'=>∃b0 b1,u = .func (.func 231) #[] #[pt b0 0,pt b1 0]∧R'=R∧L'=Bk b1 3 [vI a1]::Bk b0 191 [pv]::F):=by
 refine co_ofN (N:=6) Tryz.func188 rfl rfl ?_
 refine c_seq (c_reg ?_)
 refine r_new (o_bx [pv] rfl hpv) fun b0 => ?_
 refine r_new (o_bx [vI a1] rfl rfl) fun b1 => ?_
 refine r_u (o_as rfl) ?_
 refine r_nil (x_seq (c_seq (c_reg ?_)))
 refine r_u (o_mf rfl) (r_u (o_as rfl) ?_)
 refine r_nil (x_seq (c_ret ?_))
 exact x_r1 rfl (rv_t rfl) le_ ⟨_,rfl,b0,b1,rfl,rfl,rfl⟩
def Cy:List Str→Str→Option Str
 | [],c=>some c
 | k::l,c=>(Cc k).bind fun t=>if c.length+t.length≤maxS then Cy l (c++t) else none
theorem DG{l r:List Str}: ∀{c:Str},Cy (l++r) c=(Cy l c).bind fun d=>Cy r d:=by
 induction l with
 | nil=>intro c;rfl
 | cons k l ih =>
  intro c
  simp only [List.cons_append,Cy]
  cases Cc k with
  | none=>rfl
  | some t =>
   simp only [Option.bind_some]
   split
   ·exact ih
   ·rfl
def BU(a0:Ab):Nat→Int→Str→Option (Str)
 | 0,_,_=>none
 | k17+1,s_15,c_16=>if decide (s_15<a0.lists) then (gi a0.many s_15).bind fun x22=>(AB (toW x22)).bind fun r24=>if c_16.length+r24.length≤maxS then (Cm (some a0) s_15).bind fun kz=>(Cy kz (c_16++r24)).bind fun c2=>BU a0 k17 (i64 (s_15+1)) c2 else none else some c_16
def BY(a0:Ab):Option Str :=
 (AB (toW a0.lists)).bind fun r4=>(AB (toW (i64 ((a0.slots.length:Int)-a0.lists)))).bind fun r6=>if r4.length+r6.length≤maxS then Option.bind (BU a0 ((a0.lists-0).toNat+1) 0 (r4++r6)) fun p11=>some p11 else none
theorem BY.ok{G R F}(b0_:Nat)(a0:Ab)(g0_:Ab.G)(r:Str)(hm:BY a0=some r):CO Tryz.prog 145 [pt b0_ 0] G R (Bk b0_ 237 [vI a0.lists,g0_.slots,g0_.free,g0_.at_,g0_.many]::OwS true 240 4 As.c g0_.slots a0.slots::OwS true 3 1 eI g0_.free a0.free::OwM vS vI g0_.at_ a0.at_::OwS true 3 1 eI g0_.many a0.many::F)
  (Ret fun u R' L'=>u=vS r∧R'=R∧L'=Bk b0_ 237 [vI a0.lists,g0_.slots,g0_.free,g0_.at_,g0_.many]::OwS true 240 4 As.c g0_.slots a0.slots::OwS true 3 1 eI g0_.free a0.free::OwM vS vI g0_.at_ a0.at_::OwS true 3 1 eI g0_.many a0.many::F):=by
 unfold BY at hm
 refine co_ofM (N:=55) Tryz.func145 rfl rfl ?_
 refine cd_st (pk 6 [1,2,3,4,5,0]) ?_
 refine c_seq (c_reg ?_)
 refine r_u (o_as rfl) ?_
 refine r_nil (x_seq (c_seq (c_seq (c_reg ?_))))
 refine r_u (o_mv rfl) (r_u (o_bin rfl rfl (bP_eqp Tryz.underlying191)) ?_)
 refine r_nil (x_seq ?_)
 refine c_ff rfl ?_
 refine c_skip (x_seq (c_seq ?_))
 obtain ⟨r4,hr4,hm5⟩:=bs hm
 obtain ⟨r6,hr6,hm7⟩:=bs hm5
 obtain ⟨h8,hm9⟩:=ig hm7
 refine c_any mixed (effs:=[19,20]) (V:=[]) ?_
 refine stage_ext [(0,pt b0_ 0),(1,pt b0_ 0),(2,pt b0_ 0),(3,vI a0.lists),(4,vW (toW a0.lists)),(5,vS r4),(6,pt b0_ 0),(7,pt b0_ 0),(8,pt b0_ 1),(9,g0_.slots),(10,vI (a0.slots.length:Int)),(11,pt b0_ 0),(12,pt b0_ 0),(13,pt b0_ 0),(14,vI a0.lists),(15,vI (i64 ((a0.slots.length:Int)-a0.lists))),(16,vW (toW (i64 ((a0.slots.length:Int)-a0.lists)))),(17,vS r6),(18,vS (r4++r6))] rfl ?_
 refine stage rfl rfl rfl rfl mk37_ [0,1,2,3,4,5,6,7,8,9,10,11,12,13,14,15,16,17,18] [19] rfl rfl rfl (qc rfl rfl (s_u (o_mv rfl)) (qc rfl rfl (s_u (o_nc rfl)) (qc rfl rfl (s_u (o_fa fa237_0 rfl)) (qc rfl rfl (s_u (o_ld 0 sc3 rfl rfl rfl)) (qc rfl rfl (s_u (o_cv rfl (cIW Tryz.underlying3 Tryz.underlying22 a0.lists))) (qc rfl rfl (s_u (o_callq ca49 rfl (AB.ok (toW a0.lists) r4 hr4))) (qc rfl rfl (s_u (o_mv rfl)) (qc rfl rfl (s_u (o_nc rfl)) (qc rfl rfl (s_u (o_fa fa237_1 rfl)) (qc rfl rfl (s_u (o_ld 0 sc233 rfl rfl rfl)) (qc rfl rfl (s_u (o_lenO 1 Tryz.underlying233 rfl rfl)) (qc rfl rfl (s_u (o_mv rfl)) (qc rfl rfl (s_u (o_nc rfl)) (qc rfl rfl (s_u (o_fa fa237_0 rfl)) (qc rfl rfl (s_u (o_ld 0 sc3 rfl rfl rfl)) (qc rfl rfl (s_u (o_bin rfl rfl (bI_sub (a0.slots.length:Int) a0.lists))) (qc rfl rfl (s_u (o_cv rfl (cIW Tryz.underlying3 Tryz.underlying22 (i64 ((a0.slots.length:Int)-a0.lists))))) (qc rfl rfl (s_u (o_callq ca49 rfl (AB.ok (toW (i64 ((a0.slots.length:Int)-a0.lists))) r6 hr6))) (qc rfl rfl (s_u (o_bin rfl rfl (bS_add r4 r6 h8))) qn))))))))))))))))))) ?_ (nxt rfl)
 refine ec (eo_n rfl (s_w (o_al ze9)) fun b10 => ?_) en
 refine stage rfl rfl rfl rfl mk37_ [0,1,2,3,4,5,6,7,8,9,10,11,12,13,14,15,16,17,18] [20] rfl rfl rfl (qc rfl rfl (s_u (o_mv rfl)) (qc rfl rfl (s_u (o_nc rfl)) (qc rfl rfl (s_u (o_fa fa237_0 rfl)) (qc rfl rfl (s_u (o_ld 1 sc3 rfl rfl rfl)) (qc rfl rfl (s_u (o_cv rfl (cIW Tryz.underlying3 Tryz.underlying22 a0.lists))) (qc rfl rfl (s_u (o_callq ca49 rfl (AB.ok (toW a0.lists) r4 hr4))) (qc rfl rfl (s_u (o_mv rfl)) (qc rfl rfl (s_u (o_nc rfl)) (qc rfl rfl (s_u (o_fa fa237_1 rfl)) (qc rfl rfl (s_u (o_ld 1 sc233 rfl rfl rfl)) (qc rfl rfl (s_u (o_lenO 2 Tryz.underlying233 rfl rfl)) (qc rfl rfl (s_u (o_mv rfl)) (qc rfl rfl (s_u (o_nc rfl)) (qc rfl rfl (s_u (o_fa fa237_0 rfl)) (qc rfl rfl (s_u (o_ld 1 sc3 rfl rfl rfl)) (qc rfl rfl (s_u (o_bin rfl rfl (bI_sub (a0.slots.length:Int) a0.lists))) (qc rfl rfl (s_u (o_cv rfl (cIW Tryz.underlying3 Tryz.underlying22 (i64 ((a0.slots.length:Int)-a0.lists))))) (qc rfl rfl (s_u (o_callq ca49 rfl (AB.ok (toW (i64 ((a0.slots.length:Int)-a0.lists))) r6 hr6))) (qc rfl rfl (s_u (o_bin rfl rfl (bS_add r4 r6 h8))) qn))))))))))))))))))) ?_ (nxt rfl)
 refine ec (eo_u rfl (s_u (o_st sc9 rfl rfl rfl rfl rfl rfl)) le_ ?_) en
 refine stage rfl rfl rfl rfl mk37_ [] [] rfl rfl rfl qn en ?_
 intro _
 refine ex_sub (E':=[(0,pt b0_ 0),(3,pt b10 0)]) ⟨rfl,rfl,trivial⟩ ?_
 refine x_seq (c_seq (c_seq (c_reg ?_)))
 refine r_u (o_mv rfl) (r_u (o_nc rfl) (r_u (o_fa fa237_0 rfl) (r_u (o_ld 1 sc3 rfl rfl rfl) (r_u (o_mv rfl) ?_))))
 refine r_nil (x_seq ?_)
 obtain ⟨p11,hp12,hm13⟩:=bs hm9
 obtain rfl:=si hm13
 refine c_blk ?_
 refine cd_loopD (σ:=Int×Str×List Deferred) (M:=fun k s=>BU a0 k s.1 s.2.1=some p11) (Df:=fun s=>s.2.2)
  (Ef:=fun s=>[(0,pt b0_ 0),(3,pt b10 0),(30,vI a0.lists),(31,vI s.1)]) (Rf:=fun _=>R)
  (Lf:=fun s=>Bk b10 9 [vS s.2.1]::Bk b0_ 237 [vI a0.lists,g0_.slots,g0_.free,g0_.at_,g0_.many]::OwS true 240 4 As.c g0_.slots a0.slots::OwS true 3 1 eI g0_.free a0.free::OwM vS vI g0_.at_ a0.at_::OwS true 3 1 eI g0_.many a0.many::MkC s.2.2::F)
  ((a0.lists-0).toNat+1) (0,r4++r6,[]) hp12 rfl ⟨rfl,rfl,rfl,rfl,trivial⟩ (fun _ h=>h) (fun s h=>by simp [BU] at h) fun k17 s hM19 => ?_
 obtain ⟨s_15,c_16,ds⟩:=s
 have hm18:BU a0 (k17+1) s_15 c_16=some p11:=hM19
 rw [BU] at hm18
 change CD _ _ _ [(0,pt b0_ 0),(3,pt b10 0),(30,vI a0.lists),(31,vI s_15)] R (Bk b10 9 [vS c_16]::Bk b0_ 237 [vI a0.lists,g0_.slots,g0_.free,g0_.at_,g0_.many]::OwS true 240 4 As.c g0_.slots a0.slots::OwS true 3 1 eI g0_.free a0.free::OwM vS vI g0_.at_ a0.at_::OwS true 3 1 eI g0_.many a0.many::MkC ds::F)
 refine c_seq (c_reg ?_)
 refine r_u (o_bin rfl rfl (bI_lt s_15 a0.lists)) ?_
 refine r_nil (x_seq (c_seq ?_))
 refine c_if (b:=decide (s_15<a0.lists)) rfl (fun h20 => ?_) fun h20 => ?_
 rotate_left
 ·have hm21:=iff_ hm18 h20
  refine c_exit (x_exit (ks':=_) rfl ?_)
  obtain rfl:=si hm21
  refine x_seq (c_seq (c_reg ?_))
  refine r_u (o_ld 0 sc9 rfl rfl rfl) (r_u (o_as rfl) ?_)
  refine r_nil (x_seq (c_ret ?_))
  refine ex_st (pk 7 [6,1,2,3,4,5]) ?_
  exact x_m1 rfl (rv_t rfl) (fun _ h=>h) le_ ⟨_,rfl,rfl,rfl,rfl⟩
 have hm21:=ift hm18 h20
 refine c_skip (x_seq (c_seq (c_blk (c_seq (c_reg ?_)))))
 refine r_u (o_mv rfl) (r_u (o_as rfl) ?_)
 refine r_nil (x_seq (c_seq ?_))
 obtain ⟨x22,hx22,hm23⟩:=bs hm21
 obtain ⟨r24,hr24,hm25⟩:=bs hm23
 obtain ⟨h26,hm27⟩:=ig hm25
 obtain ⟨kz,hkz,hm28⟩:=bs hm27
 obtain ⟨c2,hc2,hm29⟩:=bs hm28
 refine c_any mixed (effs:=[11]) (V:=[]) ?_
 refine stage_ext [(0,vS c_16),(1,pt b0_ 0),(2,pt b0_ 0),(3,pt b0_ 4),(4,g0_.many),(5,vI s_15),(6,pt (sb g0_.many) (so g0_.many+s_15.toNat*1)),(7,vI x22),(8,vW (toW x22)),(9,vS r24),(10,vS (c_16++r24))] rfl ?_
 refine stage rfl rfl rfl rfl mk13_ [0,1,2,3,4,5,6,7,8,9,10] [11] rfl rfl rfl (qc rfl rfl (s_u (o_ld 0 sc9 rfl rfl rfl)) (qc rfl rfl (s_u (o_mv rfl)) (qc rfl rfl (s_u (o_nc rfl)) (qc rfl rfl (s_u (o_fa fa237_4 rfl)) (qc rfl rfl (s_u (o_ld 1 sc234 rfl rfl rfl)) (qc rfl rfl (s_u (o_mv rfl)) (qc rfl rfl (s_u (o_ixO 5 Tryz.underlying234 (fun _=>by kernel_rfl) rfl rfl rfl hx22)) (qc rfl rfl (s_u (o_ldO0 5 sc3 rfl rfl hx22 rfl rfl)) (qc rfl rfl (s_u (o_cv rfl (cIW Tryz.underlying3 Tryz.underlying22 x22))) (qc rfl rfl (s_u (o_callq ca49 rfl (AB.ok (toW x22) r24 hr24))) (qc rfl rfl (s_u (o_bin rfl rfl (bS_add c_16 r24 h26))) qn))))))))))) ?_ (nxt rfl)
 refine ec (eo_u rfl (s_u (o_st sc9 rfl rfl rfl rfl rfl rfl)) le_ ?_) en
 refine stage rfl rfl rfl rfl mk13_ [] [] rfl rfl rfl qn en ?_
 intro _
 refine ex_sub (E':=[(0,pt b0_ 0),(3,pt b10 0),(30,vI a0.lists),(31,vI s_15),(4,vI s_15)]) ⟨rfl,rfl,rfl,rfl,rfl,trivial⟩ ?_
 refine x_seq (c_seq (c_reg ?_))
 refine r_u (o_mv rfl) (r_u (o_mv rfl) ?_)
 refine r_w (o_call ca188 rfl (DJ.ok (pt b0_ 0) rfl s_15)) (fun v R L' _ hC => ?_)
 obtain ⟨c0,c1,rfl,rfl,rfl⟩:=hC
 refine r_nil ?_
 refine ex_sub (E':=[(0,pt b0_ 0),(3,pt b10 0),(30,vI a0.lists),(31,vI s_15),(47,.func (.func 231) #[] #[pt c0 0,pt c1 0])]) ⟨rfl,rfl,rfl,rfl,rfl,trivial⟩ ?_
 refine x_seq (c_blk ?_)
 refine cd_st (pk 9 [3,4,5,6,7,0,1,2,8]) ?_
 refine cd_st (fun _ h=>st_some (f:=Ab.op g0_) (a:=a0) (st_star_f (A:=Ab.fl b0_ a0 g0_) h)) ?_
 refine cd_st (pk 5 [2,0,1,3,4]) ?_
 refine c_rangeR (kz:=kz) (A0:=[Bk c0 191 [pt b0_ 0],rO (Ab.op g0_) (pt b0_ 0) (some a0),Bk c1 3 [vI s_15]])
  (L0:=Bk b10 9 [vS (c_16++r24)]::MkC ds::F)
  (fun pre L=>∃c,Cy pre (c_16++r24)=some c∧L=Bk b10 9 [vS c]::MkC ds::F)
  rfl ca231 rfl (Cm.ok c0 (some a0) (pt b0_ 0,g0_) c1 s_15 kz hkz) ⟨_,rfl,rfl⟩
  (E1:=fun k=>[(0,pt b0_ 0),(3,pt b10 0),(5,vS k),(30,vI a0.lists),(31,vI s_15)]) (fun k y e1 e2 e3 e4 ks L hx => ?_) (fun l T pre k L1 hi hl => ?_) (fun D L1 hi => ?_)
 ·refine c_reg ?_
  refine r_u (o_as rfl) ?_ (by rw [e3];rfl)
  refine r_nil ?_
  exact ex_sub (E':=[(0,pt b0_ 0),(3,pt b10 0),(5,vS k),(30,vI a0.lists),(31,vI s_15)]) ⟨rfl,rfl,rfl,rfl,rfl,trivial⟩ hx
 ·obtain ⟨c,hc,rfl⟩:=hi
  obtain ⟨rest,hrest⟩:=hl
  have h30:=hc2
  rw [hrest,DG,hc,Option.bind_some,Cy] at h30
  obtain ⟨t,ht,h31⟩:=bs h30
  obtain ⟨h32,h33⟩:=ig h31
  change CD _ _ _ _ R (Bk b10 9 [vS c]::MkC ds::(F++T))
  refine c_blk ?_
  refine c_any mixed (effs:=[4]) (V:=[]) ?_
  refine stage_ext [(0,vS c),(1,vS k),(2,vS t),(3,vS (c++t))] rfl ?_
  refine stage rfl rfl rfl rfl [0,0,2,7,15] [0,1,2,3] [4] rfl rfl rfl (qc rfl rfl (s_u (o_ld 0 sc9 rfl rfl rfl)) (qc rfl rfl (s_u (o_mv rfl)) (qc rfl rfl (s_u (o_callq ca90 rfl (Cc.ok k t ht))) (qc rfl rfl (s_u (o_bin rfl rfl (bS_add c t h32))) qn)))) ?_ (nxt rfl)
  refine ec (eo_u rfl (s_u (o_st sc9 rfl rfl rfl rfl rfl rfl)) le_ ?_) en
  refine stage rfl rfl rfl rfl [0,0,2,7,15] [] [] rfl rfl rfl qn en ?_
  intro _
  refine x_blk ?_
  exact x_round rfl le_ ⟨rfl,rfl,_,(List.cons_append ..).symm▸rfl,c++t,by rw [DG,hc,Option.bind_some,Cy,ht,Option.bind_some,if_pos h32];rfl,rfl⟩
 obtain ⟨c,hc,rfl⟩:=hi
 rw [hc2] at hc
 obtain rfl:=si hc
 refine x_blk (x_blk (x_seq (c_reg ?_)))
 refine r_u (o_bin rfl rfl (bI_add s_15 1)) (r_u (o_mv rfl) ?_)
 refine r_nil ?_
 exact x_lpD (i64 (s_15+1),c2,Hw.mark D::ds) hm29 rfl ⟨rfl,rfl,rfl,rfl,trivial⟩ (fun w h=>by
  have h1:=st_pk 6 [2,4,0,5] (by decide) h
  have h2:=st_star_o (A:=Ab.fl b0_ a0 g0_) (st_some_o h1)
  exact st_pk 7 [1,2,3,4,5,6,0] (by decide) (mk_add (st_pk 8 [6,7,5,0,1,2,3,4] (by decide) h2)))
def CY(a0:Ai):Option Str :=
 (AB (toW a0.most)).bind fun r3=>(AB (toW a0.target)).bind fun r5=>if r3.length+r5.length≤maxS then om a0.r (none) fun x9=>(BY x9).bind fun r17=>if (r3++r5).length+r17.length≤maxS then some ((r3++r5)++r17) else none else none
theorem CY.ok{G R F}(b0_:Nat)(a0:Ai)(g0_:Ai.G)(r:Str)(hm:CY a0=some r):CO Tryz.prog 91 [pt b0_ 0] G R (Bk b0_ 193 [vI a0.most,vI a0.target,g0_.r.1]::rO (Ab.op g0_.r.2) g0_.r.1 a0.r::F)
  (Ret fun u R' L'=>u=vS r∧R'=R∧L'=Bk b0_ 193 [vI a0.most,vI a0.target,g0_.r.1]::rO (Ab.op g0_.r.2) g0_.r.1 a0.r::F):=by
 obtain ⟨⟨pv1,g2⟩⟩:=g0_
 unfold CY at hm
 refine co_ofN (N:=24) Tryz.func91 z z ?_
 refine csr ?_
 refine r_as z ?_
 refine nssr ?_
 refine r_mv z (r_bin z z (bP_eqp Tryz.underlying141) ?_)
 refine nsq ?_
 refine c_ff z ?_
 refine c_skip (x_seq (c_seq ?_))
 obtain ⟨r3,hr3,hm4⟩:=bs hm
 obtain ⟨r5,hr5,hm6⟩:=bs hm4
 obtain ⟨h7,hm8⟩:=ig hm6
 refine cd_st (fun _ h=>mv1 h) ?_
 refine cd_opt (fun ho11 => ?_) (fun x9 b10 ho11 => ?_)
 ·rintro rfl
  have hm12:=om_n hm8 ho11
  cases hm12
 rintro rfl
 have hm12:=om_s hm8 ho11
 refine cd_st (fun _ h=>st_star_o h) ?_
 obtain ⟨r17,hr17,hm18⟩:=bs hm12
 obtain ⟨h19,hm20⟩:=ig hm18
 refine c_any mixed (effs:=[]) (V:=[]) ?_
 refine stn [0,1,3,7,15,31,0,64,192,448,960,2047,4095,0,8192,24576,57344,126975,262143,524287] [0,1,2,3,4,5,6,7,8,9,10,11,12,13,14,15,16,17,18,19] [] [_,_,_,_,_,_,_,_,_,_,_,_,_,_,_,_,_,_,_,_] (q_mv z z z (q_u z z (o_nc z) (q_fa z z fa193_0 z (q_ld z z 5 sc3 z z z (q_u z z (o_cv z (cIW Tryz.underlying3 Tryz.underlying22 a0.most)) (q_u z z (o_callq ca49 z (AB.ok _ _ hr3)) (q_mv z z z (q_u z z (o_nc z) (q_fa z z fa193_1 z (q_ld z z 5 sc3 z z z (q_u z z (o_cv z (cIW Tryz.underlying3 Tryz.underlying22 a0.target)) (q_u z z (o_callq ca49 z (AB.ok _ _ hr5)) (q_u z z (o_bin z z (bS_add r3 r5 h7)) (q_mv z z z (q_u z z (o_nc z) (q_fa z z fa193_2 z (q_ld z z 5 sc191 z z z (q_u z z (o_callqP ca145 z (BY.ok b10 x9 g2 _ hr17) (pk 6 [0,1,2,3,4,5]) (pk 6 [0,1,2,3,4,5])) (q_u z z (o_bin z z (bS_add _ _ h19)) (q_u z z (o_as z) qn)))))))))))))))))))) en ?_
 intro _
 refine ex_sub (E':=[(2,vS ((r3++r5)++r17))]) ⟨z,trivial⟩ ?_
 refine x_seq (c_ret ?_)
 refine ex_st (fun _ h=>st_some (f:=Ab.op g2) (a:=x9) (st_star_f (A:=Ab.fl b10 x9 g2) h)) ?_
 refine ex_st (fun _ h=>st_back ho11 h) ?_
 obtain rfl:=si hm20
 refine ex_st (pk 2 [1,0]) ?_
 exact x_r1 z (rv_t z) le_ ⟨_,z,z,z,z⟩
def Dr(a0:Bool):Str :=
 if a0 then [1] else [0]
theorem Dr.ok{G R F}(a0:Bool)(r:Str)(hm:Dr a0=r):CO Tryz.prog 189 [vB a0] G R (F)
  (Ret fun u R' L'=>u=vS r∧R'=R∧L'=F):=by
 unfold Dr at hm
 refine co_ofN (N:=4) Tryz.func189 z z ?_
 refine csr ?_
 refine r_as z ?_
 refine nssr ?_
 refine r_mv z ?_
 refine nsq ?_
 refine c_if (b:=a0) z (fun h0 => ?_) fun h0 => ?_
 ·have hm1:=ift hm h0
  refine csr ?_
  refine r_as z ?_
  refine r_nil (x_seq (c_ret ?_))
  subst hm1
  exact x_r1 z (rv_t z) le_ ⟨_,z,z,z,z⟩
 have hm1:=iff_ hm h0
 refine c_skip (x_seq (csr ?_))
 refine r_as z ?_
 refine r_nil (x_seq (c_ret ?_))
 subst hm1
 exact x_r1 z (rv_t z) le_ ⟨_,z,z,z,z⟩
def BE(a0:Ae):Nat→Str→Int→Option (Str)
 | 0,_,_=>none
 | k22+1,out_20,s_21=>if decide (s_21<(a0.door.length:Int)) then (gi a0.door s_21).bind fun x27=>if out_20.length+(Dr x27).length≤maxS then BE a0 k22 (out_20++(Dr x27)) (i64 (s_21+1)) else none else some out_20
def A4(a0:Ae):Nat→Str→Int→Option (Str)
 | 0,_,_=>none
 | k33+1,out_31,s_32=>if decide (s_32<4) then (gi a0.rows s_32).bind fun y38=>if out_31.length+y38.length≤maxS then A4 a0 k33 (out_31++y38) (i64 (s_32+1)) else none else some out_31
def B5(a0:Ae):Option Str :=
 (AB (toW a0.wide)).bind fun r2=>(AB a0.seed).bind fun r4=>if r2.length+r4.length≤maxS then (AB (toW a0.added)).bind fun r8=>if (r2++r4).length+r8.length≤maxS then Option.bind (A4 a0 5 ((r2++r4)++r8) 0) fun p12=>Option.bind (BE a0 (((a0.door.length:Int)-0).toNat+1) p12 0) fun p16=>some p16 else none else none
theorem B5.ok{G R F}(b0_:Nat)(a0:Ae)(g0_:Ae.G)(r:Str)(hm:B5 a0=some r):CO Tryz.prog 146 [pt b0_ 0] G R (Bk b0_ 250 (Ae.k a0 g0_)::OwL (OwS false 5 1 eY) [g0_.rows.1,g0_.rows.2.1,g0_.rows.2.2.1,g0_.rows.2.2.2] a0.rows::OwS true 4 1 eB g0_.door a0.door::F)
  (Ret fun u R' L'=>u=vS r∧R'=R∧L'=Bk b0_ 250 (Ae.k a0 g0_)::OwL (OwS false 5 1 eY) [g0_.rows.1,g0_.rows.2.1,g0_.rows.2.2.1,g0_.rows.2.2.2] a0.rows::OwS true 4 1 eB g0_.door a0.door::F):=by
 unfold B5 at hm
 refine co_ofN (N:=56) Tryz.func146 z z ?_
 refine csr ?_
 refine r_as z ?_
 refine nssr ?_
 refine r_mv z (r_bin z z (bP_eqp Tryz.underlying194) ?_)
 refine nsq ?_
 refine c_ff z ?_
 refine c_skip (x_seq (c_seq ?_))
 obtain ⟨r2,hr2,hm3⟩:=bs hm
 obtain ⟨r4,hr4,hm5⟩:=bs hm3
 obtain ⟨h6,hm7⟩:=ig hm5
 obtain ⟨r8,hr8,hm9⟩:=bs hm7
 obtain ⟨h10,hm11⟩:=ig hm9
 refine c_any mixed (effs:=[]) (V:=[]) ?_
 refine stn [0,1,3,7,15,31,0,64,192,448,1023,2047,0,4096,12288,28672,61440,129023,262143,524287] [0,1,2,3,4,5,6,7,8,9,10,11,12,13,14,15,16,17,18,19] [] [_,_,_,_,_,_,_,_,_,_,_,_,_,_,_,_,_,_,_,_] (q_mv z z z (q_u z z (o_nc z) (q_fa z z fa250_0 z (q_ld z z 0 sc3 z z z (q_u z z (o_cv z (cIW Tryz.underlying3 Tryz.underlying22 a0.wide)) (q_u z z (o_callq ca49 z (AB.ok _ _ hr2)) (q_mv z z z (q_u z z (o_nc z) (q_fa z z fa250_1 z (q_ld z z 0 sc22 z z z (q_u z z (o_callq ca49 z (AB.ok _ _ hr4)) (q_u z z (o_bin z z (bS_add r2 r4 h6)) (q_mv z z z (q_u z z (o_nc z) (q_fa z z fa250_4 z (q_ld z z 0 sc3 z z z (q_u z z (o_cv z (cIW Tryz.underlying3 Tryz.underlying22 a0.added)) (q_u z z (o_callq ca49 z (AB.ok _ _ hr8)) (q_u z z (o_bin z z (bS_add _ r8 h10)) (q_u z z (o_as z) qn)))))))))))))))))))) en ?_
 intro _
 refine ex_sub (E':=[(0,pt b0_ 0),(3,vS ((r2++r4)++r8))]) ⟨z,z,trivial⟩ ?_
 refine x_seq (c_seq (csr ?_))
 refine r_mv z (r_nc z (r_fa fa250_2 z ?_))
 refine r_u (o_ldn 0 [g0_.rows.1,g0_.rows.2.1,g0_.rows.2.2.1,g0_.rows.2.2.2] ag248 z z z z) (r_mv z ?_)
 refine nsq ?_
 obtain ⟨p12,hp13,hm14⟩:=bs hm11
 refine cd_join (E':=[(0,pt b0_ 0),(3,vS p12)]) (L':=Bk b0_ 250 (Ae.k a0 g0_)::OwL (OwS false 5 1 eY) [g0_.rows.1,g0_.rows.2.1,g0_.rows.2.2.1,g0_.rows.2.2.2] a0.rows::OwS true 4 1 eB g0_.door a0.door::F) ?_ fun K15 => ?_
 ·refine x_seq (c_seq (csr ?_))
  refine r_mv z (r_nc z (r_fa fa250_3 z (r_ld 0 sc68 z z z (r_u (o_lenO 2 Tryz.underlying68 z z) (r_mv z ?_)))))
  refine nsq ?_
  obtain ⟨p16,hp17,hm18⟩:=bs hm14
  refine cd_join (E':=[(3,vS p16)]) (L':=Bk b0_ 250 (Ae.k a0 g0_)::OwL (OwS false 5 1 eY) [g0_.rows.1,g0_.rows.2.1,g0_.rows.2.2.1,g0_.rows.2.2.2] a0.rows::OwS true 4 1 eB g0_.door a0.door::F) ?_ fun K19 => ?_
  ·refine x_seq (csr ?_)
   refine r_mv z (r_as z ?_)
   refine r_nil (x_seq (c_ret ?_))
   obtain rfl:=si hm18
   exact x_r1 z (rv_t z) le_ ⟨_,z,z,z,z⟩
  refine c_blk ?_
  refine cd_loop (M:=fun k22 (s:Str×Int)=>BE a0 k22 s.1 s.2=some p16) (Ef:=fun (s:Str×Int)=>[(44,g0_.door),(45,vI (a0.door.length:Int)),(3,vS s.1),(46,vI s.2)]) (Lf:=fun (s:Str×Int)=>Bk b0_ 250 (Ae.k a0 g0_)::OwL (OwS false 5 1 eY) [g0_.rows.1,g0_.rows.2.1,g0_.rows.2.2.1,g0_.rows.2.2.2] a0.rows::OwS true 4 1 eB g0_.door a0.door::F) (((a0.door.length:Int)-0).toNat+1) (p12,0) hp17 ⟨z,z,z,z,trivial⟩ (fun _ h=>h) (fun _ h=>by cases h) fun k22 s hM24 => ?_
  obtain ⟨out_20,s_21⟩:=s
  have hm23:BE a0 (k22+1) out_20 s_21=some p16:=hM24
  rw [BE] at hm23
  refine csr ?_
  refine r_bin z z (bI_lt _ _) ?_
  refine r_nil (x_seq (c_seq ?_))
  refine c_if (b:=decide (s_21<(a0.door.length:Int))) z (fun h25 => ?_) fun h25 => ?_
  rotate_left
  ·have hm26:=iff_ hm23 h25
   refine c_exit (x_exit (ks':=_) z ?_)
   obtain rfl:=si hm26
   exact x_sub K19 ⟨z,trivial⟩ (pk 3 [0,1,2])
  have hm26:=ift hm23 h25
  refine c_skip (x_seq (c_seq (c_blk (csr ?_))))
  obtain ⟨x27,hx27,hm28⟩:=bs hm26
  refine r_u (o_ixO 2 Tryz.underlying68 (fun _=>by kernel_rfl) z z z hx27) (r_u (o_ldO0 2 sc4 z z hx27 z z) (r_as z ?_))
  refine r_nil (x_seq (c_reg ?_))
  refine r_mv z (r_mv z ?_)
  refine r_u (o_callq ca189 z (Dr.ok x27 _ z)) ?_
  obtain ⟨h29,hm30⟩:=ig hm28
  refine r_bin z z (bS_add _ _ h29) (r_as z ?_)
  refine r_nil (x_blk (x_seq (c_reg ?_)))
  refine r_bin z z (bI_add _ 1) (r_mv z ?_)
  refine r_nil ?_
  exact x_lp (out_20++(Dr x27),i64 (s_21+1)) hm30 ⟨z,z,z,z,trivial⟩ (pk 3 [0,1,2])
 refine c_blk ?_
 refine cd_loop (M:=fun k33 (s:Str×Int)=>A4 a0 k33 s.1 s.2=some p12) (Ef:=fun (s:Str×Int)=>[(0,pt b0_ 0),(32,.agg [g0_.rows.1,g0_.rows.2.1,g0_.rows.2.2.1,g0_.rows.2.2.2].toArray),(3,vS s.1),(33,vI s.2)]) (Lf:=fun (s:Str×Int)=>Bk b0_ 250 (Ae.k a0 g0_)::OwL (OwS false 5 1 eY) [g0_.rows.1,g0_.rows.2.1,g0_.rows.2.2.1,g0_.rows.2.2.2] a0.rows::OwS true 4 1 eB g0_.door a0.door::F) 5 ((r2++r4)++r8,0) hp13 ⟨z,z,z,z,trivial⟩ (fun _ h=>h) (fun _ h=>by cases h) fun k33 s hM35 => ?_
 obtain ⟨out_31,s_32⟩:=s
 have hm34:A4 a0 (k33+1) out_31 s_32=some p12:=hM35
 rw [A4] at hm34
 refine csr ?_
 refine r_bin z z (bI_lt _ 4) ?_
 refine r_nil (x_seq (c_seq ?_))
 refine c_if (b:=decide (s_32<4)) z (fun h36 => ?_) fun h36 => ?_
 rotate_left
 ·have hm37:=iff_ hm34 h36
  refine c_exit (x_exit (ks':=_) z ?_)
  obtain rfl:=si hm37
  exact x_sub K15 ⟨z,z,trivial⟩ (pk 3 [0,1,2])
 have hm37:=ift hm34 h36
 refine c_skip (x_seq (c_seq (c_blk (csr ?_))))
 obtain ⟨y38,hy38,hm40⟩:=bs hm37
 refine rl_ex (fun w h=>st_peek 1 hy38 z w h) fun u39 hu39 => ?_
 refine r_u (o_ixG Tryz.underlying248 (fun _=>by kernel_rfl) sc131.1 z z z hu39) (r_as z ?_)
 refine r_nil (x_seq (c_reg ?_))
 refine r_mv z (r_mv z ?_)
 refine r_u (o_bsK (kn_in 1 z hu39 hy38) Tryz.underlying131 Tryz.underlying5 Tryz.underlying9 z) ?_
 obtain ⟨h41,hm42⟩:=ig hm40
 refine r_bin z z (bS_add _ _ h41) (r_as z ?_)
 refine r_nil (x_blk (x_seq (c_reg ?_)))
 refine r_bin z z (bI_add _ 1) (r_mv z ?_)
 refine r_nil ?_
 exact x_lp (out_31++y38,i64 (s_32+1)) hm42 ⟨z,z,z,z,trivial⟩ (pk 3 [0,1,2])
def Cu(a0:Af):Option Str :=
 (AB (toW a0.most)).bind fun r6=>om a0.s (none) fun x8=>(B5 x8).bind fun r14=>if r6.length+r14.length≤maxS then om a0.r (none) fun x18=>(BY x18).bind fun r26=>if (r6++r14).length+r26.length≤maxS then some ((r6++r14)++r26) else none else none
theorem Cu.ok{G R F}(b0_:Nat)(a0:Af)(g0_:Af.G)(r:Str)(hm:Cu a0=some r):CO Tryz.prog 92 [pt b0_ 0] G R (Bk b0_ 196 [vI a0.most,g0_.s.1,g0_.r.1]::rO (Ae.op g0_.s.2) g0_.s.1 a0.s::rO (Ab.op g0_.r.2) g0_.r.1 a0.r::F)
  (Ret fun u R' L'=>u=vS r∧R'=R∧L'=Bk b0_ 196 [vI a0.most,g0_.s.1,g0_.r.1]::rO (Ae.op g0_.s.2) g0_.s.1 a0.s::rO (Ab.op g0_.r.2) g0_.r.1 a0.r::F):=by
 obtain ⟨⟨pv1,g2⟩,⟨pv4,g5⟩⟩:=g0_
 unfold Cu at hm
 refine co_ofN (N:=23) Tryz.func92 z z ?_
 refine csr ?_
 refine r_as z ?_
 refine nssr ?_
 refine r_mv z (r_bin z z (bP_eqp Tryz.underlying142) ?_)
 refine nsq ?_
 refine c_ff z ?_
 refine c_skip (x_seq (c_seq ?_))
 obtain ⟨r6,hr6,hm7⟩:=bs hm
 refine cd_st (fun _ h=>mv1 h) ?_
 refine cd_opt (fun ho10 => ?_) (fun x8 b9 ho10 => ?_)
 ·rintro rfl
  have hm11:=om_n hm7 ho10
  cases hm11
 rintro rfl
 have hm11:=om_s hm7 ho10
 refine cd_st (fun _ h=>st_star_o h) ?_
 obtain ⟨r14,hr14,hm15⟩:=bs hm11
 obtain ⟨h16,hm17⟩:=ig hm15
 refine cd_st (fun _ h=>mv4 h) ?_
 refine cd_opt (fun ho20 => ?_) (fun x18 b19 ho20 => ?_)
 ·rintro rfl
  have hm21:=om_n hm17 ho20
  cases hm21
 rintro rfl
 have hm21:=om_s hm17 ho20
 refine cd_st (fun _ h=>st_star_o h) ?_
 obtain ⟨r26,hr26,hm27⟩:=bs hm21
 obtain ⟨h28,hm29⟩:=ig hm27
 refine c_any mixed (effs:=[]) (V:=[]) ?_
 refine stn [0,1,3,7,15,31,0,64,192,448,1023,2047,0,4096,12288,28672,63487,131071,262143] [0,1,2,3,4,5,6,7,8,9,10,11,12,13,14,15,16,17,18] [] [_,_,_,_,_,_,_,_,_,_,_,_,_,_,_,_,_,_,_] (q_mv z z z (q_u z z (o_nc z) (q_fa z z fa196_0 z (q_ld z z 8 sc3 z z z (q_u z z (o_cv z (cIW Tryz.underlying3 Tryz.underlying22 a0.most)) (q_u z z (o_callq ca49 z (AB.ok _ _ hr6)) (q_mv z z z (q_u z z (o_nc z) (q_fa z z fa196_1 z (q_ld z z 8 sc194 z z z (q_u z z (o_callqP ca146 z (B5.ok b9 x8 g2 _ hr14) (pk 9 [5,6,7,0,1,2,3,4,8]) (pk 9 [3,4,5,6,7,0,1,2,8])) (q_u z z (o_bin z z (bS_add r6 _ h16)) (q_mv z z z (q_u z z (o_nc z) (q_fa z z fa196_2 z (q_ld z z 8 sc191 z z z (q_u z z (o_callqP ca145 z (BY.ok b19 _ g5 _ hr26) (pk 9 [0,1,2,3,4,5,6,7,8]) (pk 9 [0,1,2,3,4,5,6,7,8])) (q_u z z (o_bin z z (bS_add _ _ h28)) (q_u z z (o_as z) qn))))))))))))))))))) en ?_
 intro _
 refine ex_sub (E':=[(2,vS ((r6++r14)++r26))]) ⟨z,trivial⟩ ?_
 refine x_seq (c_ret ?_)
 refine ex_st (fun _ h=>mv7 (mv7 (mv7 h))) ?_
 refine ex_st (fun _ h=>st_some (f:=Ae.op g2) (a:=x8) (st_star_f (A:=Ae.fl b9 x8 g2) h)) ?_
 refine ex_st (fun _ h=>mv5 (mv5 (mv5 (mv5 (mv5 h))))) ?_
 refine ex_st (fun _ h=>st_some (f:=Ab.op g5) (a:=x18) (st_star_f (A:=Ab.fl b19 x18 g5) h)) ?_
 refine ex_st (fun _ h=>mv1 h) ?_
 refine ex_st (fun _ h=>st_back ho10 h) ?_
 refine ex_st (fun _ h=>mv1 h) ?_
 refine ex_st (fun _ h=>st_back ho20 h) ?_
 obtain rfl:=si hm29
 refine ex_st (pk 3 [2,1,0]) ?_
 exact x_r1 z (rv_t z) le_ ⟨_,z,z,z,z⟩
def By(a0:Ac):Option Str :=
 if ((Ao a0)==1) then (AB 1).bind fun r8=>om a0.a (none) fun x10=>(CY x10).bind fun r17=>if r8.length+r17.length≤maxS then some (r8++r17) else none else if ((Ao a0)==2) then (AB 2).bind fun r23=>om a0.t (none) fun x25=>(Cu x25).bind fun r35=>if r23.length+r35.length≤maxS then some (r23++r35) else none else some []
theorem By.ok{G R F}(b0_:Nat)(a0:Ac)(g0_:Ac.G)(r:Str)(hm:By a0=some r):CO Tryz.prog 51 [pt b0_ 0] G R (Bk b0_ 144 [vI a0.kind,g0_.a.1,g0_.t.1]::rO (Ai.op g0_.a.2) g0_.a.1 a0.a::rO (Af.op g0_.t.2) g0_.t.1 a0.t::F)
  (Ret fun u R' L'=>u=vS r∧R'=R∧L'=Bk b0_ 144 [vI a0.kind,g0_.a.1,g0_.t.1]::rO (Ai.op g0_.a.2) g0_.a.1 a0.a::rO (Af.op g0_.t.2) g0_.t.1 a0.t::F):=by
 obtain ⟨⟨pv1,g2⟩,⟨pv4,g5⟩⟩:=g0_
 unfold By at hm
 refine co_ofN (N:=23) Tryz.func51 z z ?_
 refine csr ?_
 refine r_as z ?_
 refine nssr ?_
 refine r_mv z ?_
 refine r_c (s_w (o_call ca67 z (Ao.ok b0_ a0 (⟨(pv1,g2),(pv4,g5)⟩:Ac.G) _ z))) ?_
 refine r_nil (x_seq (c_blk (csr ?_)))
 refine r_bin z z (bI_eq _ 1) (r_as z ?_)
 refine nsq ?_
 refine c_if (b:=((Ao a0)==1)) z (fun h6 => ?_) fun h6 => ?_
 ·have hm7:=ift hm h6
  refine c_seq ?_
  obtain ⟨r8,hr8,hm9⟩:=bs hm7
  refine cd_st (fun _ h=>mv1 h) ?_
  refine cd_opt (fun ho12 => ?_) (fun x10 b11 ho12 => ?_)
  ·rintro rfl
   have hm13:=om_n hm9 ho12
   cases hm13
  rintro rfl
  have hm13:=om_s hm9 ho12
  obtain ⟨⟨pv15,g16⟩⟩:=g2
  refine cd_st (fun _ h=>st_star_o h) ?_
  obtain ⟨r17,hr17,hm18⟩:=bs hm13
  obtain ⟨h19,hm20⟩:=ig hm18
  refine c_any mixed (effs:=[]) (V:=[]) ?_
  refine stn mk19_ [0,1,2,3,4,5,6,7] [] [_,_,_,_,_,_,_,_] (q_u z z (o_callq ca49 z (AB.ok 1 _ hr8)) (q_mv z z z (q_u z z (o_nc z) (q_fa z z fa144_1 z (q_ld z z 2 sc141 z z z (q_u z z (o_callqP ca91 z (CY.ok b11 _ (⟨(pv15,g16)⟩:Ai.G) _ hr17) (pk 4 [0,1,2,3]) (pk 4 [0,1,2,3])) (q_u z z (o_bin z z (bS_add r8 _ h19)) (q_u z z (o_as z) qn)))))))) en ?_
  intro _
  refine ex_sub (E':=[(2,vS (r8++r17))]) ⟨z,trivial⟩ ?_
  refine x_seq (c_ret ?_)
  refine ex_st (fun _ h=>st_some (f:=Ai.op (⟨(pv15,g16)⟩:Ai.G)) (a:=x10) (st_star_f (A:=Ai.fl b11 x10 (⟨(pv15,g16)⟩:Ai.G)) h)) ?_
  refine ex_st (fun _ h=>st_back ho12 h) ?_
  obtain rfl:=si hm20
  refine ex_st (pk 3 [1,0,2]) ?_
  exact x_r1 z (rv_t z) le_ ⟨_,z,z,z,z⟩
 have hm7:=iff_ hm h6
 refine csr ?_
 refine r_bin z z (bI_eq _ 2) (r_as z ?_)
 refine nsq ?_
 refine c_if (b:=((Ao a0)==2)) z (fun h21 => ?_) fun h21 => ?_
 rotate_left
 ·have hm22:=iff_ hm7 h21
  refine c_skip (x_blk (x_seq (csr ?_)))
  refine r_as z ?_
  refine r_nil (x_seq (c_ret ?_))
  obtain rfl:=si hm22
  exact x_r1 z (rv_t z) le_ ⟨_,z,z,z,z⟩
 have hm22:=ift hm7 h21
 refine c_seq ?_
 obtain ⟨r23,hr23,hm24⟩:=bs hm22
 refine cd_st (fun _ h=>mv2 h) ?_
 refine cd_opt (fun ho27 => ?_) (fun x25 b26 ho27 => ?_)
 ·rintro rfl
  have hm28:=om_n hm24 ho27
  cases hm28
 rintro rfl
 have hm28:=om_s hm24 ho27
 obtain ⟨⟨pv30,g31⟩,⟨pv33,g34⟩⟩:=g5
 refine cd_st (fun _ h=>st_star_o h) ?_
 obtain ⟨r35,hr35,hm36⟩:=bs hm28
 obtain ⟨h37,hm38⟩:=ig hm36
 refine c_any mixed (effs:=[]) (V:=[]) ?_
 refine stn mk19_ [0,1,2,3,4,5,6,7] [] [_,_,_,_,_,_,_,_] (q_u z z (o_callq ca49 z (AB.ok 2 _ hr23)) (q_mv z z z (q_u z z (o_nc z) (q_fa z z fa144_2 z (q_ld z z 3 sc142 z z z (q_u z z (o_callqP ca92 z (Cu.ok b26 _ (⟨(pv30,g31),(pv33,g34)⟩:Af.G) _ hr35) (pk 5 [0,1,2,3,4]) (pk 5 [0,1,2,3,4])) (q_u z z (o_bin z z (bS_add _ _ h37)) (q_u z z (o_as z) qn)))))))) en ?_
 intro _
 refine ex_sub (E':=[(2,vS (r23++r35))]) ⟨z,trivial⟩ ?_
 refine x_seq (c_ret ?_)
 refine ex_st (fun _ h=>st_some (f:=Af.op (⟨(pv30,g31),(pv33,g34)⟩:Af.G)) (a:=x25) (st_star_f (A:=Af.fl b26 x25 (⟨(pv30,g31),(pv33,g34)⟩:Af.G)) h)) ?_
 refine ex_st (fun _ h=>st_back ho27 h) ?_
 obtain rfl:=si hm38
 refine ex_st (pk 3 [1,2,0]) ?_
 exact x_r1 z (rv_t z) le_ ⟨_,z,z,z,z⟩
def Dm(a0:Ar):Option Str :=
 (AB (toW a0.E)).bind fun r1=>(Cc a0.Value).bind fun r3=>if r1.length+r3.length≤maxS then (AB a0.Version).bind fun r7=>if (r1++r3).length+r7.length≤maxS then some ((r1++r3)++r7) else none else none
theorem Dm.ok{G R F}(a0:Ar)(r:Str)(hm:Dm a0=some r):CO Tryz.prog 54 [.agg (Ar.c a0).toArray] G R (F)
  (Ret fun u R' L'=>u=vS r∧R'=R∧L'=F):=by
 unfold Dm at hm
 refine co_ofN (N:=15) Tryz.func54 z z ?_
 refine csr ?_
 refine r_new (o_bx (Ar.c a0) z z) fun b0 => ?_
 refine r_as z ?_
 refine r_nil (x_seq (c_seq ?_))
 obtain ⟨r1,hr1,hm2⟩:=bs hm
 obtain ⟨r3,hr3,hm4⟩:=bs hm2
 obtain ⟨h5,hm6⟩:=ig hm4
 obtain ⟨r7,hr7,hm8⟩:=bs hm6
 obtain ⟨h9,hm10⟩:=ig hm8
 refine c_any mixed (effs:=[]) (V:=[]) ?_
 refine stn [0,1,3,7,0,16,63,127,0,256,895,2047,4095] [0,1,2,3,4,5,6,7,8,9,10,11,12] [] [_,_,_,_,_,_,_,_,_,_,_,_,_] (q_fa z z fa41_0 z (q_ld z z 0 sc39 z z z (q_u z z (o_cv z (cIW Tryz.underlying39 Tryz.underlying22 a0.E)) (q_u z z (o_callq ca49 z (AB.ok _ _ hr1)) (q_fa z z fa41_1 z (q_ld z z 0 sc9 z z z (q_u z z (o_callq ca90 z (Cc.ok _ _ hr3)) (q_u z z (o_bin z z (bS_add r1 r3 h5)) (q_fa z z fa41_2 z (q_ld z z 0 sc22 z z z (q_u z z (o_callq ca49 z (AB.ok _ _ hr7)) (q_u z z (o_bin z z (bS_add _ r7 h9)) (q_u z z (o_as z) qn))))))))))))) en ?_
 intro _
 refine ex_sub (E':=[(2,vS ((r1++r3)++r7))]) ⟨z,trivial⟩ ?_
 refine x_seq (c_ret ?_)
 obtain rfl:=si hm10
 refine ex_st (pk 1 []) ?_
 exact x_r1 z (rv_t z) le_ ⟨_,z,z,z,z⟩
def A6(a0:Ad)(l69:List UInt64):Nat→Str→Int→Option (Str)
 | 0,_,_=>none
 | k78+1,out_76,s_77=>if decide (s_77<(l69.length:Int)) then (gi l69 s_77).bind fun x83=>(AB x83).bind fun r86=>(AB (((mget a0.sessions x83).getD ((⟨0,(⟨0,[],0⟩:Ar)⟩:Ap):Ap)).num)).bind fun r88=>if r86.length+r88.length≤maxS then (Dm (((mget a0.sessions x83).getD ((⟨0,(⟨0,[],0⟩:Ar)⟩:Ap):Ap)).reply)).bind fun r92=>if (r86++r88).length+r92.length≤maxS then if out_76.length+((r86++r88)++r92).length≤maxS then A6 a0 l69 k78 (out_76++((r86++r88)++r92)) (i64 (s_77+1)) else none else none else none else some out_76
def AG(a0:Ad):Option Str :=
 (AB (toW a0.c.Policy)).bind fun r7=>(AB (toW a0.c.Entries)).bind fun r9=>if r7.length+r9.length≤maxS then (AB (toW a0.c.Bytes)).bind fun r13=>if (r7++r9).length+r13.length≤maxS then (AB a0.c.Seed).bind fun r17=>if ((r7++r9)++r13).length+r17.length≤maxS then (AB a0.seq).bind fun r21=>(AB a0.now).bind fun r23=>if r21.length+r23.length≤maxS then (AB a0.version).bind fun r27=>if (r21++r23).length+r27.length≤maxS then (AB (toW a0.tally.Asked)).bind fun r31=>if ((r21++r23)++r27).length+r31.length≤maxS then (AB (toW a0.tally.Hits)).bind fun r35=>if (((r21++r23)++r27)++r31).length+r35.length≤maxS then if (((r7++r9)++r13)++r17).length+((((r21++r23)++r27)++r31)++r35).length≤maxS then om a0.t (none) fun x41=>(BK x41).bind fun r46=>om a0.p (none) fun x48=>(By x48).bind fun r58=>if r46.length+r58.length≤maxS then (AB (toW (a0.sessions.length:Int))).bind fun r62=>if (r46++r58).length+r62.length≤maxS then if ((((r7++r9)++r13)++r17)++((((r21++r23)++r27)++r31)++r35)).length+((r46++r58)++r62).length≤maxS then (mkeysW a0.sessions).bind fun l69=>Option.bind (A6 a0 l69 (((l69.length:Int)-0).toNat+1) (((((r7++r9)++r13)++r17)++((((r21++r23)++r27)++r31)++r35))++((r46++r58)++r62)) 0) fun p72=>some p72 else none else none else none else none else none else none else none else none else none else none else none
theorem AG.ok{G R F}(b0_:Nat)(a0:Ad)(g0_:Ad.G)(r:Str)(hm:AG a0=some r):CO Tryz.prog 25 [pt b0_ 0] G R (Bk b0_ 96 (Ad.k a0 g0_)::rO (Ah.op g0_.t.2) g0_.t.1 a0.t::rO (Ac.op g0_.p.2) g0_.p.1 a0.p::OwM vW Ap.v g0_.sessions a0.sessions::F)
  (Ret fun u R' L'=>u=vS r∧R'=R∧L'=Bk b0_ 96 (Ad.k a0 g0_)::rO (Ah.op g0_.t.2) g0_.t.1 a0.t::rO (Ac.op g0_.p.2) g0_.p.1 a0.p::OwM vW Ap.v g0_.sessions a0.sessions::F):=by
 obtain ⟨⟨pv1,g2⟩,⟨pv4,g5⟩,g6⟩:=g0_
 unfold AG at hm
 refine co_ofN (N:=126) Tryz.func25 z z ?_
 refine csr ?_
 refine r_as z ?_
 refine nssr ?_
 refine r_mv z (r_bin z z (bP_eqp Tryz.underlying30) ?_)
 refine nsq ?_
 refine c_ff z ?_
 refine c_skip (x_seq (c_seq ?_))
 obtain ⟨r7,hr7,hm8⟩:=bs hm
 obtain ⟨r9,hr9,hm10⟩:=bs hm8
 obtain ⟨h11,hm12⟩:=ig hm10
 obtain ⟨r13,hr13,hm14⟩:=bs hm12
 obtain ⟨h15,hm16⟩:=ig hm14
 obtain ⟨r17,hr17,hm18⟩:=bs hm16
 obtain ⟨h19,hm20⟩:=ig hm18
 refine c_any mixed (effs:=[]) (V:=[]) ?_
 refine stn [0,1,3,7,15,31,63,0,128,384,896,1920,3968,8191,16383,0,32768,98304,229376,491520,1015808,2080767,4194303,0,8388608,25165824,58720256,125829120,264224767,536870911,1073741823] [0,1,2,3,4,5,6,7,8,9,10,11,12,13,14,15,16,17,18,19,20,21,22,23,24,25,26,27,28,29,30] [] [_,_,_,_,_,_,_,_,_,_,_,_,_,_,_,_,_,_,_,_,_,_,_,_,_,_,_,_,_,_,_] (q_mv z z z (q_u z z (o_nc z) (q_fa z z fa96_0 z (q_fa z z fa24_0 z (q_ld z z 0 sc3 z z z (q_u z z (o_cv z (cIW Tryz.underlying3 Tryz.underlying22 a0.c.Policy)) (q_u z z (o_callq ca49 z (AB.ok _ _ hr7)) (q_mv z z z (q_u z z (o_nc z) (q_fa z z fa96_0 z (q_fa z z fa24_1 z (q_ld z z 0 sc3 z z z (q_u z z (o_cv z (cIW Tryz.underlying3 Tryz.underlying22 a0.c.Entries)) (q_u z z (o_callq ca49 z (AB.ok _ _ hr9)) (q_u z z (o_bin z z (bS_add r7 r9 h11)) (q_mv z z z (q_u z z (o_nc z) (q_fa z z fa96_0 z (q_fa z z fa24_2 z (q_ld z z 0 sc3 z z z (q_u z z (o_cv z (cIW Tryz.underlying3 Tryz.underlying22 a0.c.Bytes)) (q_u z z (o_callq ca49 z (AB.ok _ _ hr13)) (q_u z z (o_bin z z (bS_add _ _ h15)) (q_mv z z z (q_u z z (o_nc z) (q_fa z z fa96_0 z (q_fa z z fa24_3 z (q_ld z z 0 sc22 z z z (q_u z z (o_callq ca49 z (AB.ok _ _ hr17)) (q_u z z (o_bin z z (bS_add _ _ h19)) (q_u z z (o_as z) qn))))))))))))))))))))))))))))))) en ?_
 intro _
 refine ex_sub (E':=[(0,pt b0_ 0),(3,vS (((r7++r9)++r13)++r17))]) ⟨z,z,trivial⟩ ?_
 refine x_seq (c_seq ?_)
 obtain ⟨r21,hr21,hm22⟩:=bs hm20
 obtain ⟨r23,hr23,hm24⟩:=bs hm22
 obtain ⟨h25,hm26⟩:=ig hm24
 obtain ⟨r27,hr27,hm28⟩:=bs hm26
 obtain ⟨h29,hm30⟩:=ig hm28
 obtain ⟨r31,hr31,hm32⟩:=bs hm30
 obtain ⟨h33,hm34⟩:=ig hm32
 obtain ⟨r35,hr35,hm36⟩:=bs hm34
 obtain ⟨h37,hm38⟩:=ig hm36
 obtain ⟨h39,hm40⟩:=ig hm38
 refine c_any mixed (effs:=[]) (V:=[]) ?_
 refine stn [0,0,2,6,14,30,0,64,192,448,1022,2046,0,4096,12288,28672,63486,131070,0,262144,786432,1835008,3932160,8126464,16644094,33554430,0,67108864,201326592,469762048,1006632960,2080374784,4261279742,8589934590,17179869183,34359738367] [0,1,2,3,4,5,6,7,8,9,10,11,12,13,14,15,16,17,18,19,20,21,22,23,24,25,26,27,28,29,30,31,32,33,34,35] [] [_,_,_,_,_,_,_,_,_,_,_,_,_,_,_,_,_,_,_,_,_,_,_,_,_,_,_,_,_,_,_,_,_,_,_,_] (q_mv z z z (q_mv z z z (q_u z z (o_nc z) (q_fa z z fa96_4 z (q_ld z z 0 sc22 z z z (q_u z z (o_callq ca49 z (AB.ok _ _ hr21)) (q_mv z z z (q_u z z (o_nc z) (q_fa z z fa96_5 z (q_ld z z 0 sc22 z z z (q_u z z (o_callq ca49 z (AB.ok _ _ hr23)) (q_u z z (o_bin z z (bS_add _ _ h25)) (q_mv z z z (q_u z z (o_nc z) (q_fa z z fa96_6 z (q_ld z z 0 sc22 z z z (q_u z z (o_callq ca49 z (AB.ok _ _ hr27)) (q_u z z (o_bin z z (bS_add _ _ h29)) (q_mv z z z (q_u z z (o_nc z) (q_fa z z fa96_7 z (q_fa z z fa47_0 z (q_ld z z 0 sc2 z z z (q_u z z (o_cv z (cIW Tryz.underlying2 Tryz.underlying22 a0.tally.Asked)) (q_u z z (o_callq ca49 z (AB.ok _ _ hr31)) (q_u z z (o_bin z z (bS_add _ _ h33)) (q_mv z z z (q_u z z (o_nc z) (q_fa z z fa96_7 z (q_fa z z fa47_1 z (q_ld z z 0 sc2 z z z (q_u z z (o_cv z (cIW Tryz.underlying2 Tryz.underlying22 a0.tally.Hits)) (q_u z z (o_callq ca49 z (AB.ok _ _ hr35)) (q_u z z (o_bin z z (bS_add _ _ h37)) (q_u z z (o_bin z z (bS_add _ _ h39)) (q_u z z (o_as z) qn)))))))))))))))))))))))))))))))))))) en ?_
 intro _
 refine ex_sub (E':=[(0,pt b0_ 0),(3,vS ((((r7++r9)++r13)++r17)++((((r21++r23)++r27)++r31)++r35)))]) ⟨z,z,trivial⟩ ?_
 refine x_seq (c_seq ?_)
 refine cd_st (fun _ h=>mv1 h) ?_
 refine cd_opt (fun ho43 => ?_) (fun x41 b42 ho43 => ?_)
 ·rintro rfl
  have hm44:=om_n hm40 ho43
  cases hm44
 rintro rfl
 have hm44:=om_s hm40 ho43
 refine cd_st (fun _ h=>st_star_o h) ?_
 obtain ⟨r46,hr46,hm47⟩:=bs hm44
 refine cd_st (fun _ h=>mv3 h) ?_
 refine cd_opt (fun ho50 => ?_) (fun x48 b49 ho50 => ?_)
 ·rintro rfl
  have hm51:=om_n hm47 ho50
  cases hm51
 rintro rfl
 have hm51:=om_s hm47 ho50
 obtain ⟨⟨pv53,g54⟩,⟨pv56,g57⟩⟩:=g5
 refine cd_st (fun _ h=>st_star_o h) ?_
 obtain ⟨r58,hr58,hm59⟩:=bs hm51
 obtain ⟨h60,hm61⟩:=ig hm59
 obtain ⟨r62,hr62,hm63⟩:=bs hm61
 obtain ⟨h64,hm65⟩:=ig hm63
 obtain ⟨h66,hm67⟩:=ig hm65
 refine c_any mixed (effs:=[]) (V:=[]) ?_
 refine stn [0,0,2,6,14,30,0,64,192,448,1022,2046,0,4096,12288,28672,63486,129022,260094,524286,1048575,2097151] [0,1,2,3,4,5,6,7,8,9,10,11,12,13,14,15,16,17,18,19,20,21] [] [_,_,_,_,_,_,_,_,_,_,_,_,_,_,_,_,_,_,_,_,_,_] (q_mv z z z (q_mv z z z (q_u z z (o_nc z) (q_fa z z fa96_1 z (q_ld z z 5 sc92 z z z (q_u z z (o_callqP ca50 z (BK.ok b42 _ g2 _ hr46) (pk 7 [3,4,0,1,2,5,6]) (pk 7 [2,3,4,0,1,5,6])) (q_mv z z z (q_u z z (o_nc z) (q_fa z z fa96_2 z (q_ld z z 5 sc93 z z z (q_u z z (o_callqP ca51 z (By.ok b49 _ (⟨(pv53,g54),(pv56,g57)⟩:Ac.G) _ hr58) (pk 7 [0,1,2,3,4,5,6]) (pk 7 [0,1,2,3,4,5,6])) (q_u z z (o_bin z z (bS_add _ _ h60)) (q_mv z z z (q_u z z (o_nc z) (q_fa z z fa96_3 z (q_ld z z 5 sc94 z z z (q_u z z (o_lenM (kv:=vW) (vv:=Ap.v) 6 Tryz.underlying94 z z) (q_u z z (o_cv z (cIW Tryz.underlying3 Tryz.underlying22 (a0.sessions.length:Int))) (q_u z z (o_callq ca49 z (AB.ok _ _ hr62)) (q_u z z (o_bin z z (bS_add _ _ h64)) (q_u z z (o_bin z z (bS_add _ _ h66)) (q_u z z (o_as z) qn)))))))))))))))))))))) en ?_
 intro _
 refine ex_sub (E':=[(0,pt b0_ 0),(3,vS (((((r7++r9)++r13)++r17)++((((r21++r23)++r27)++r31)++r35))++((r46++r58)++r62)))]) ⟨z,z,trivial⟩ ?_
 refine x_seq (c_seq (csr ?_))
 refine r_mv z (r_nc z (r_fa fa96_3 z (r_ld 5 sc94 z z z ?_)))
 refine rl_st (fun _ h=>mv6 h) ?_
 refine r_sw (s_w (o_call ca53 z mkeys64)) ?_
 rintro _ R _ _ ⟨b68,rfl,rfl,rfl⟩
 obtain ⟨l69,hl69,hm71⟩:=bs hm67
 refine r_sw (s_w (o_call ca52 z (sorted64 hl69))) ?_
 rintro v70 R _ _ ⟨rfl,rfl⟩
 refine r_u (o_lenO 0 Tryz.underlying118 z z) (r_mv z ?_)
 refine nsq ?_
 obtain ⟨p72,hp73,hm74⟩:=bs hm71
 refine cd_join (E':=[(3,vS p72)]) (L':=Bk b49 144 [vI x48.kind,pv53,pv56]::Bk b42 138 [g2.m,vI x41.bytes]::Bk b0_ 96 [vI a0.c.Policy,vI a0.c.Entries,vI a0.c.Bytes,vW a0.c.Seed,pt b42 0,pt b49 0,g6,vW a0.seq,vW a0.now,vW a0.version,vI a0.tally.Asked,vI a0.tally.Hits]::OwS true 22 1 eW v70 l69::OwM vW Ap.v g6 a0.sessions::rO (Ai.op g54) pv53 x48.a::rO (Af.op g57) pv56 x48.t::OwM vS Ak.v g2.m x41.m::F) ?_ fun K75 => ?_
 ·refine x_seq (csr ?_)
  refine r_mv z (r_as z ?_)
  refine r_nil (x_seq (c_ret ?_))
  refine ex_st (fun _ h=>mv2 (mv7 h)) ?_
  refine ex_st (fun _ h=>st_some (f:=Ah.op g2) (a:=x41) (st_star_f (A:=Ah.fl b42 x41 g2) h)) ?_
  refine ex_st (fun _ h=>mv3 (mv6 (mv6 h))) ?_
  refine ex_st (fun _ h=>st_some (f:=Ac.op (⟨(pv53,g54),(pv56,g57)⟩:Ac.G)) (a:=x48) (st_star_f (A:=Ac.fl b49 x48 (⟨(pv53,g54),(pv56,g57)⟩:Ac.G)) h)) ?_
  refine ex_st (fun _ h=>mv1 h) ?_
  refine ex_st (fun _ h=>st_back ho43 h) ?_
  refine ex_st (fun _ h=>mv1 h) ?_
  refine ex_st (fun _ h=>st_back ho50 h) ?_
  obtain rfl:=si hm74
  refine ex_st (pk 5 [2,1,0,4]) ?_
  exact x_r1 z (rv_t z) le_ ⟨_,z,z,z,z⟩
 refine c_blk ?_
 refine cd_loop (M:=fun k78 (s:Str×Int)=>A6 a0 l69 k78 s.1 s.2=some p72) (Ef:=fun (s:Str×Int)=>[(0,pt b0_ 0),(100,v70),(101,vI (l69.length:Int)),(3,vS s.1),(102,vI s.2)]) (Lf:=fun (s:Str×Int)=>Bk b49 144 [vI x48.kind,pv53,pv56]::Bk b42 138 [g2.m,vI x41.bytes]::Bk b0_ 96 [vI a0.c.Policy,vI a0.c.Entries,vI a0.c.Bytes,vW a0.c.Seed,pt b42 0,pt b49 0,g6,vW a0.seq,vW a0.now,vW a0.version,vI a0.tally.Asked,vI a0.tally.Hits]::OwS true 22 1 eW v70 l69::OwM vW Ap.v g6 a0.sessions::rO (Ai.op g54) pv53 x48.a::rO (Af.op g57) pv56 x48.t::OwM vS Ak.v g2.m x41.m::F) (((l69.length:Int)-0).toNat+1) (((((r7++r9)++r13)++r17)++((((r21++r23)++r27)++r31)++r35))++((r46++r58)++r62),0) hp73 ⟨z,z,z,z,z,trivial⟩ (pk 8 [2,5,7,0,1,3,4,6]) (fun _ h=>by cases h) fun k78 s hM80 => ?_
 obtain ⟨out_76,s_77⟩:=s
 have hm79:A6 a0 l69 (k78+1) out_76 s_77=some p72:=hM80
 rw [A6] at hm79
 refine csr ?_
 refine r_bin z z (bI_lt _ _) ?_
 refine r_nil (x_seq (c_seq ?_))
 refine c_if (b:=decide (s_77<(l69.length:Int))) z (fun h81 => ?_) fun h81 => ?_
 rotate_left
 ·have hm82:=iff_ hm79 h81
  refine c_exit (x_exit (ks':=_) z ?_)
  obtain rfl:=si hm82
  exact x_sub K75 ⟨z,trivial⟩ (pk 8 [0,1,2,3,4,5,6,7])
 have hm82:=ift hm79 h81
 refine c_skip (x_seq (c_seq (c_blk (csr ?_))))
 obtain ⟨x83,hx83,hm84⟩:=bs hm82
 refine r_u (o_ixO 3 Tryz.underlying118 (fun _=>by kernel_rfl) z z z hx83) (r_u (o_ldO0 3 sc22 z z hx83 z z) (r_as z ?_))
 refine nsr ?_
 refine r_mv z (r_nc z (r_fa fa96_3 z (r_ld 2 sc94 z z z (r_mv z ?_))))
 refine r_u (o_lk1 (kv:=vW) (vv:=Ap.v) (key:=x83) (z0:=((⟨0,(⟨0,[],0⟩:Ar)⟩:Ap):Ap)) 4 Tryz.underlying94 (kok_W Tryz.underlying22) (fun _=>by kernel_rfl) z z z) ?_
 refine r_new (o_al ze102) fun b85 => ?_
 refine r_u0 (o_stn ag102 z z z z z z z) ?_
 refine nsq ?_
 obtain ⟨r86,hr86,hm87⟩:=bs hm84
 obtain ⟨r88,hr88,hm89⟩:=bs hm87
 obtain ⟨h90,hm91⟩:=ig hm89
 obtain ⟨r92,hr92,hm93⟩:=bs hm91
 obtain ⟨h94,hm95⟩:=ig hm93
 obtain ⟨h96,hm97⟩:=ig hm95
 refine c_any mixed (effs:=[]) (V:=[]) ?_
 refine stn [0,0,2,0,8,30,62,0,128,446,1022,2047,4095] [0,1,2,3,4,5,6,7,8,9,10,11,12] [] [_,_,_,_,_,_,_,_,_,_,_,_,_] (q_mv z z z (q_mv z z z (q_u z z (o_callq ca49 z (AB.ok _ _ hr86)) (q_fa z z fa102_0 z (q_ld z z 0 sc22 z z z (q_u z z (o_callq ca49 z (AB.ok (((mget a0.sessions x83).getD ((⟨0,(⟨0,[],0⟩:Ar)⟩:Ap):Ap)).num) _ hr88)) (q_u z z (o_bin z z (bS_add _ _ h90)) (q_fa z z fa102_1 z (q_u z z (o_ldn 0 (Ar.c (((mget a0.sessions x83).getD ((⟨0,(⟨0,[],0⟩:Ar)⟩:Ap):Ap)).reply)) ag41 z z z z) (q_u z z (o_callq ca54 z (Dm.ok (((mget a0.sessions x83).getD ((⟨0,(⟨0,[],0⟩:Ar)⟩:Ap):Ap)).reply) _ hr92)) (q_u z z (o_bin z z (bS_add _ _ h94)) (q_u z z (o_bin z z (bS_add _ _ h96)) (q_u z z (o_as z) qn))))))))))))) en ?_
 intro _
 refine ex_sub (E':=[(0,pt b0_ 0),(100,v70),(101,vI (l69.length:Int)),(3,vS (out_76++((r86++r88)++r92))),(102,vI s_77)]) ⟨z,z,z,z,z,trivial⟩ ?_
 refine x_blk (x_seq (c_reg ?_))
 refine r_bin z z (bI_add _ 1) (r_mv z ?_)
 refine r_nil ?_
 exact x_lp (out_76++((r86++r88)++r92),i64 (s_77+1)) hm97 ⟨z,z,z,z,z,trivial⟩ (pk 9 [1,2,3,4,5,6,7,8])
def BW(a0:Int):(Unit)⊕(Int×Unit) :=
 Sum.inr (a0,())
theorem BW.ok{G R F}(a0:Int)(r:(Unit)⊕(Int×Unit))(hm:BW a0=r):CO Tryz.prog 153 [vI a0] G R (F)
  (PK 175 r (fun (a:Unit) u R' L'=>u = .tuple #[]∧R'=R∧L'=F) (fun n (o:Unit) R' L'=>R'=R∧L'=F)):=by
 unfold BW at hm
 refine co_ofN (N:=5) Tryz.func153 z z ?_
 refine c_reg ?_
 refine r_mv z ?_
 refine r_u (o_bld [vI a0] z (fun _=>by kernel_rfl)) ?_
 refine r_u (o_mi (v := .iface 175 (.agg #[vI a0])) z (fun _=>by kernel_rfl)) ?_
 subst hm
 exact r_sw0 (s_w (o_panic z (px_st (pk 0 []) (px_of le_ (.inr ⟨_,z,_,z,z,z⟩))))) (fun _ _ _ _ h=>h.elim)
def AJ(a0:Aa)(a1:Int):Option ((Str×Aa)⊕(Int×Aa)) :=
 Option.bind (if (decide (a1<0)||decide ((a0.s.length:Int)<a1)) then lt (BW 4) fun r11=>sm r11 (fun (ra13:Unit)=>some (Sum.inl ())) fun ((rn14,ro15):Int×Unit)=>some (Sum.inr (Sum.inr (rn14,a0))) else some (Sum.inl ())) fun (p0:Unit⊕((Str×Aa)⊕(Int×Aa)))=>(match p0 with | Sum.inl q1=>(sl a0.s 0 a1).bind fun s5=>(sl a0.s a1 (a0.s.length:Int)).bind fun s7=>some (Sum.inl (s5,(⟨s7⟩:Aa))) | Sum.inr r=>some r)
theorem AJ.ok{G R F}(b0_:Nat)(a0:Aa)(a1:Int)(r:(Str×Aa)⊕(Int×Aa))(hm:AJ a0 a1=some r):CO Tryz.prog 152 [pt b0_ 0,vI a1] G R (Bk b0_ 177 (Aa.c a0)::F)
  (PK 175 r (fun (a:Str×Aa) u R' L'=>u=vS a.1∧R'=R∧L'=Bk b0_ 177 (Aa.c a.2)::F) (fun n (o:Aa) R' L'=>R'=R∧L'=Bk b0_ 177 (Aa.c o)::F)):=by
 unfold AJ at hm
 refine co_ofN (N:=34) Tryz.func152 z z ?_
 refine csr ?_
 refine r_as z ?_
 refine nssr ?_
 refine r_mv z (r_bin z z (bI_lt a1 0) (r_mv z ?_))
 refine r_s (s_gf z z fun g=>o_mv z) ?_
 refine r_s (s_gf z z fun g=>o_mv z) ?_
 refine r_s (s_gf z z fun g=>o_nc (evg z g)) ?_
 refine r_s (s_gf z z fun g=>o_fa fa177_0 (evg z g)) ?_
 refine r_s (s_gf z z fun g=>o_ld 0 sc9 (evg z g) z z) ?_
 refine r_s (s_gf z z fun g=>o_lenS Tryz.underlying9 (evg z g)) ?_
 refine r_s (s_gf z z fun g=>o_bin (evg z g) (evg z g) (bI_gt a1 _)) ?_
 refine r_u (o_or z z) ?_
 refine nsq ?_
 obtain ⟨p0,hp2,hm3⟩:=bs hm
 refine cd_joinS (p:=p0) (Ef:=fun q1=>[(0,pt b0_ 0),(1,vI a1)]) (Lf:=fun q1=>Bk b0_ 177 (Aa.c a0)::F) (fun q1 hq => ?_) fun K4 => ?_
 ·subst hq
  try dsimp only at hm3
  refine x_seq (csr ?_)
  refine r_mv z (r_nc z (r_fa fa177_0 z (r_ld 0 sc9 z z z (r_mv z ?_))))
  obtain ⟨s5,hs5,hm6⟩:=bs hm3
  refine r_u (o_slS (i:=0) (j:=a1) Tryz.underlying9 z z z hs5) (r_as z ?_)
  refine nsr ?_
  refine r_mv z (r_mv z (r_nc z (r_fa fa177_0 z (r_ld 0 sc9 z z z (r_mv z ?_)))))
  obtain ⟨s7,hs7,hm8⟩:=bs hm6
  refine r_u (o_slS (i:=a1) (j:=(a0.s.length:Int)) Tryz.underlying9 z z z hs7) (r_nc z (r_fa fa177_0 z ?_))
  refine r_u0 (o_st sc9 z z z z z z) ?_
  refine nsr ?_
  refine r_mv z (r_as z ?_)
  refine r_nil (x_seq (c_ret ?_))
  obtain rfl:=si hm8
  exact x_r1 z (rv_t z) le_ (.inl ⟨_,z,_,z,z,z,z⟩)
 refine c_if (b:=(decide (a1<0)||decide ((a0.s.length:Int)<a1))) z (fun h9 => ?_) fun h9 => ?_
 rotate_left
 ·have hm10:=iff_ hp2 h9
  refine c_skip ?_
  obtain rfl:=si hm10
  exact x_sub (K4 _ z) ⟨z,z,trivial⟩ (pk 1 [0])
 have hm10:=ift hp2 h9
 obtain ⟨r11,hr11,hm12⟩:=ltx hm10
 rcases r11 with ra13 | ⟨rn14,ro15⟩
 ·have hm16:=sm_l hm12
  refine c_reg ?_
  refine r_c (s_w (o_callL ca153 z (BW.ok 4 _ hr11) (fun _ _ _ h=>h))) ?_
  refine r_nil ?_
  obtain rfl:=si hm16
  exact x_sub (K4 _ z) ⟨z,z,trivial⟩ (pk 1 [0])
 have hm16:=sm_r hm12
 refine c_reg ?_
 obtain rfl:=si hm16
 try dsimp only at hm3
 obtain rfl:=si hm3
 exact r_sw (s_w (o_callR ca153 z (BW.ok 4 _ hr11) (by rintro _ _ _ ⟨rfl,rfl⟩;exact (px_st (pk 1 [0]) (px_of le_ (.inr ⟨_,z,_,z,z,z⟩)))))) (fun _ _ _ _ h=>h.elim)
def BA : Nat→UInt64→Int→Str→Option ((UInt64×Str)⊕((UInt64×Aa)⊕(Int×Aa)))
 | 0,_,_,_=>none
 | k16+1,n_13,s_14,c_15=>if decide (s_14<10) then (AJ (⟨c_15⟩:Aa) 1).bind fun r21=>sm r21 (fun (ra23:Str×Aa)=>(gi ra23.1 0).bind fun c27=>Option.bind (if (((s_14==9)&&decide (1<c27))||(decide (0<s_14)&&(c27==0))) then lt (BW 6) fun r40=>sm r40 (fun (ra42:Unit)=>some (Sum.inl ())) fun ((rn43,ro44):Int×Unit)=>some (Sum.inr (Sum.inr (Sum.inr (rn43,ra23.2)))) else some (Sum.inl ())) fun (p29:Unit⊕((UInt64×Str)⊕((UInt64×Aa)⊕(Int×Aa))))=>(match p29 with | Sum.inl q30=>if 0≤(i64 (7*s_14)) then if decide (c27<128) then some (Sum.inl (n_13 ||| (shWl ((c27%128).toUInt64) (i64 (7*s_14))),ra23.2.s)) else BA k16 (n_13 ||| (shWl ((c27%128).toUInt64) (i64 (7*s_14)))) (i64 (s_14+1)) ra23.2.s else none | Sum.inr r=>some r)) fun ((rn24,ro25):Int×Aa)=>some (Sum.inr (Sum.inr (rn24,ro25))) else some (Sum.inl (n_13,c_15))
def Aj(a0:Aa)(a1:UInt64):Option ((UInt64×Aa)⊕(Int×Aa)) :=
 Option.bind (BA 11 0 0 a0.s) fun (p0:(UInt64×Str)⊕((UInt64×Aa)⊕(Int×Aa)))=>(match p0 with | Sum.inl q1=>if decide (a1<q1.1) then lt (BW 3) fun r7=>sm r7 (fun (ra9:Unit)=>some (Sum.inl (q1.1,(⟨q1.2⟩:Aa)))) fun ((rn10,ro11):Int×Unit)=>some (Sum.inr (rn10,(⟨q1.2⟩:Aa))) else some (Sum.inl (q1.1,(⟨q1.2⟩:Aa))) | Sum.inr r=>some r)
theorem Aj.ok{G R F}(b0_:Nat)(a0:Aa)(a1:UInt64)(r:(UInt64×Aa)⊕(Int×Aa))(hm:Aj a0 a1=some r):CO Tryz.prog 101 [pt b0_ 0,vW a1] G R (Bk b0_ 177 (Aa.c a0)::F)
  (PK 175 r (fun (a:UInt64×Aa) u R' L'=>u=vW a.1∧R'=R∧L'=Bk b0_ 177 (Aa.c a.2)::F) (fun n (o:Aa) R' L'=>R'=R∧L'=Bk b0_ 177 (Aa.c o)::F)):=by
 unfold Aj at hm
 refine co_ofN (N:=45) Tryz.func101 z z ?_
 refine csr ?_
 refine r_as z ?_
 refine nsr ?_
 refine r_as z ?_
 refine nssr ?_
 refine r_mv z ?_
 refine nsq ?_
 obtain ⟨p0,hp2,hm3⟩:=bs hm
 refine cd_joinS (p:=p0) (Ef:=fun q1=>[(1,vW a1),(5,vW q1.1)]) (Lf:=fun q1=>Bk b0_ 177 [vS q1.2]::F) (fun q1 hq => ?_) fun K4 => ?_
 ·subst hq
  try dsimp only at hm3
  refine x_seq (c_seq (csr ?_))
  refine r_mv z (r_mv z (r_bin z z (bW_gt _ a1) ?_))
  refine nsq ?_
  refine c_if (b:=decide (a1<q1.1)) z (fun h5 => ?_) fun h5 => ?_
  rotate_left
  ·have hm6:=iff_ hm3 h5
   refine c_skip (x_seq (csr ?_))
   refine r_mv z (r_as z ?_)
   refine r_nil (x_seq (c_ret ?_))
   obtain rfl:=si hm6
   exact x_r1 z (rv_t z) le_ (.inl ⟨_,z,_,z,z,z,z⟩)
  have hm6:=ift hm3 h5
  obtain ⟨r7,hr7,hm8⟩:=ltx hm6
  rcases r7 with ra9 | ⟨rn10,ro11⟩
  ·have hm12:=sm_l hm8
   refine c_reg ?_
   refine r_c (s_w (o_callL ca153 z (BW.ok 3 _ hr7) (fun _ _ _ h=>h))) ?_
   refine nsr ?_
   refine r_mv z (r_as z ?_)
   refine r_nil (x_seq (c_ret ?_))
   obtain rfl:=si hm12
   exact x_r1 z (rv_t z) le_ (.inl ⟨_,z,_,z,z,z,z⟩)
  have hm12:=sm_r hm8
  refine c_reg ?_
  obtain rfl:=si hm12
  exact r_sw (s_w (o_callR ca153 z (BW.ok 3 _ hr7) (by rintro _ _ _ ⟨rfl,rfl⟩;exact (px_st (pk 1 [0]) (px_of le_ (.inr ⟨_,z,_,z,z,z⟩)))))) (fun _ _ _ _ h=>h.elim)
 refine c_blk ?_
 refine cd_loop (M:=fun k16 (s:UInt64×Int×Str)=>BA k16 s.1 s.2.1 s.2.2=some p0) (Ef:=fun (s:UInt64×Int×Str)=>[(0,pt b0_ 0),(1,vW a1),(5,vW s.1),(8,vI s.2.1)]) (Lf:=fun (s:UInt64×Int×Str)=>Bk b0_ 177 [vS s.2.2]::F) 11 (0,0,a0.s) hp2 ⟨z,z,z,z,trivial⟩ (fun _ h=>h) (fun _ h=>by cases h) fun k16 s hM18 => ?_
 obtain ⟨n_13,s_14,c_15⟩:=s
 have hm17:BA (k16+1) n_13 s_14 c_15=some p0:=hM18
 rw [BA] at hm17
 refine csr ?_
 refine r_bin z z (bI_lt _ 10) ?_
 refine r_nil (x_seq (c_seq ?_))
 refine c_if (b:=decide (s_14<10)) z (fun h19 => ?_) fun h19 => ?_
 rotate_left
 ·have hm20:=iff_ hm17 h19
  refine c_exit (x_exit (ks':=_) z ?_)
  obtain rfl:=si hm20
  exact x_sub (K4 _ z) ⟨z,z,trivial⟩ (pk 1 [0])
 have hm20:=ift hm17 h19
 refine c_skip (x_seq (c_seq (c_blk (csr ?_))))
 refine r_mv z (r_as z ?_)
 refine r_nil (x_seq (c_seq ?_))
 obtain ⟨r21,hr21,hm22⟩:=bs hm20
 rcases r21 with ra23 | ⟨rn24,ro25⟩
 rotate_left
 ·have hm26:=sm_r hm22
  refine c_reg ?_
  refine r_mv z ?_
  obtain rfl:=si hm26
  try dsimp only at hm3
  obtain rfl:=si hm3
  exact r_sw (s_w (o_callR ca152 z (AJ.ok b0_ (⟨c_15⟩:Aa) 1 _ hr21) (by rintro _ _ _ ⟨rfl,rfl⟩;exact (px_st (pk 1 [0]) (px_of le_ (.inr ⟨_,z,_,z,z,z⟩)))))) (fun _ _ _ _ h=>h.elim)
 have hm26:=sm_l hm22
 refine c_reg ?_
 refine r_mv z ?_
 refine r_c (s_w (o_callL ca152 z (AJ.ok b0_ (⟨c_15⟩:Aa) 1 _ hr21) (fun _ _ _ h=>h))) ?_
 obtain ⟨c27,hc27,hm28⟩:=bs hm26
 refine r_u (o_ixS Tryz.underlying9 z z hc27) (r_as z ?_)
 refine nssr ?_
 refine r_mv z (r_bin z z (bI_eq _ 9) (r_mv z ?_))
 refine r_s (s_gt z z fun g=>o_mv z) ?_
 refine r_s (s_gt z z fun g=>o_bin (evg z g) z (bY_gt _ 1)) ?_
 refine r_u (o_and z z) (r_mv z ?_)
 refine r_s (s_gf z z fun g=>o_mv z) ?_
 refine r_s (s_gf z z fun g=>o_bin (evg z g) z (bI_gt _ 0)) ?_
 refine r_s (s_gf z z fun g=>o_mv (evg z g)) ?_
 refine r_s (s_ggt z z fun g=>o_mv z) ?_
 refine r_s (s_ggt z z fun g=>o_bin (evg z g) z (bY_eq _ 0)) ?_
 refine r_s (s_gf z z fun g=>o_and (evg z g) (evg2 z g)) ?_
 refine r_u (o_or z z) ?_
 refine nsq ?_
 obtain ⟨p29,hp31,hm32⟩:=bs hm28
 refine cd_joinS (p:=p29) (Ef:=fun q30=>[(0,pt b0_ 0),(1,vW a1),(5,vW n_13),(6,vI s_14),(7,vY c27),(8,vI s_14)]) (Lf:=fun q30=>Bk b0_ 177 (Aa.c ra23.2)::F) (fun q30 hq => ?_) fun K33 => ?_
 ·subst hq
  try dsimp only at hm32
  refine x_seq (csr ?_)
  refine r_mv z (r_mv z (r_bin z z (bY_rem _ 128 (by decide)) (r_u (o_cv z (cYW Tryz.underlying5 Tryz.underlying22 (c27%128))) (r_mv z (r_bin z z (bI_mul 7 _) ?_)))))
  obtain ⟨h34,hm35⟩:=ig hm32
  refine r_bin z z (bWI_shl ((c27%128).toUInt64) (i64 (7*s_14)) h34) (r_bin z z (bW_or _ _) (r_as z ?_))
  refine nsr ?_
  refine r_mv z (r_bin z z (bY_lt _ 128) ?_)
  refine nsq ?_
  refine c_if (b:=decide (c27<128)) z (fun h36 => ?_) fun h36 => ?_
  ·have hm37:=ift hm35 h36
   refine c_exit (x_exit (ks':=_) z ?_)
   obtain rfl:=si hm37
   exact x_sub (K4 _ z) ⟨z,z,trivial⟩ (pk 1 [0])
  have hm37:=iff_ hm35 h36
  refine c_skip (x_blk (x_seq (c_reg ?_)))
  refine r_bin z z (bI_add _ 1) (r_mv z ?_)
  refine r_nil ?_
  exact x_lp (n_13 ||| (shWl ((c27%128).toUInt64) (i64 (7*s_14))),i64 (s_14+1),ra23.2.s) hm37 ⟨z,z,z,z,trivial⟩ (pk 1 [0])
 refine c_if (b:=(((s_14==9)&&decide (1<c27))||(decide (0<s_14)&&(c27==0)))) z (fun h38 => ?_) fun h38 => ?_
 rotate_left
 ·have hm39:=iff_ hp31 h38
  refine c_skip ?_
  obtain rfl:=si hm39
  exact x_sub (K33 _ z) ⟨z,z,z,z,z,z,trivial⟩ (pk 1 [0])
 have hm39:=ift hp31 h38
 obtain ⟨r40,hr40,hm41⟩:=ltx hm39
 rcases r40 with ra42 | ⟨rn43,ro44⟩
 ·have hm45:=sm_l hm41
  refine c_reg ?_
  refine r_c (s_w (o_callL ca153 z (BW.ok 6 _ hr40) (fun _ _ _ h=>h))) ?_
  refine r_nil ?_
  obtain rfl:=si hm45
  exact x_sub (K33 _ z) ⟨z,z,z,z,z,z,trivial⟩ (pk 1 [0])
 have hm45:=sm_r hm41
 refine c_reg ?_
 obtain rfl:=si hm45
 try dsimp only at hm32
 obtain rfl:=si hm32
 try dsimp only at hm3
 obtain rfl:=si hm3
 exact r_sw (s_w (o_callR ca153 z (BW.ok 6 _ hr40) (by rintro _ _ _ ⟨rfl,rfl⟩;exact (px_st (pk 1 [0]) (px_of le_ (.inr ⟨_,z,_,z,z,z⟩)))))) (fun _ _ _ _ h=>h.elim)
def An(a0:Aa)(a1:Bool):(Unit)⊕(Int×Unit) :=
 if !a1 then lt (BW 6) fun r2=>sm r2 (fun (ra4:Unit)=>Sum.inl ()) fun ((rn5,ro6):Int×Unit)=>Sum.inr (rn5,()) else Sum.inl ()
theorem An.ok{G R F}(b0_:Nat)(a0:Aa)(a1:Bool)(r:(Unit)⊕(Int×Unit))(hm:An a0 a1=r):CO Tryz.prog 102 [pt b0_ 0,vB a1] G R (Bk b0_ 177 (Aa.c a0)::F)
  (PK 175 r (fun (a:Unit) u R' L'=>u = .tuple #[]∧R'=R∧L'=Bk b0_ 177 (Aa.c a0)::F) (fun n (o:Unit) R' L'=>R'=R∧L'=Bk b0_ 177 (Aa.c a0)::F)):=by
 unfold An at hm
 refine co_ofN (N:=7) Tryz.func102 z z ?_
 refine csr ?_
 refine r_mv z ?_
 refine r_u (o_not z) ?_
 refine nsq ?_
 refine c_if (b := !a1) z (fun h0 => ?_) fun h0 => ?_
 rotate_left
 ·have hm1:=iff_ hm h0
  refine c_skip ?_
  refine x_end ?_
  subst hm1
  exact x_r0 z le_ (.inl ⟨_,z,_,z,z,z,z⟩)
 have hm1:=ift hm h0
 obtain ⟨r2,hr2,hm3⟩:=ltx hm1
 rcases r2 with ra4 | ⟨rn5,ro6⟩
 ·have hm7:=sm_l hm3
  refine c_reg ?_
  refine r_c (s_w (o_callL ca153 z (BW.ok 6 _ hr2) (fun _ _ _ h=>h))) ?_
  refine r_nil ?_
  refine x_end ?_
  subst hm7
  exact x_r0 z le_ (.inl ⟨_,z,_,z,z,z,z⟩)
 have hm7:=sm_r hm3
 refine c_reg ?_
 subst hm7
 exact r_sw (s_w (o_callR ca153 z (BW.ok 6 _ hr2) (by rintro _ _ _ ⟨rfl,rfl⟩;exact (px_st (pk 1 [0]) (px_of le_ (.inr ⟨_,z,_,z,z,z⟩)))))) (fun _ _ _ _ h=>h.elim)
def AK(a0:Aa)(a1:Int):Option ((Str×Aa)⊕(Int×Aa)) :=
 (Aj a0 (toW (if a1<0 then 0 else a1))).bind fun r0=>sm r0 (fun (ra2:UInt64×Aa)=>(AJ ra2.2 (i64 (ra2.1.toNat:Int))).bind fun r6=>sm r6 (fun (ra8:Str×Aa)=>some (Sum.inl (ra8.1,ra8.2))) fun ((rn9,ro10):Int×Aa)=>some (Sum.inr (rn9,ro10))) fun ((rn3,ro4):Int×Aa)=>some (Sum.inr (rn3,ro4))
theorem AK.ok{G R F}(b0_:Nat)(a0:Aa)(a1:Int)(r:(Str×Aa)⊕(Int×Aa))(hm:AK a0 a1=some r):CO Tryz.prog 154 [pt b0_ 0,vI a1] G R (Bk b0_ 177 (Aa.c a0)::F)
  (PK 175 r (fun (a:Str×Aa) u R' L'=>u=vS a.1∧R'=R∧L'=Bk b0_ 177 (Aa.c a.2)::F) (fun n (o:Aa) R' L'=>R'=R∧L'=Bk b0_ 177 (Aa.c o)::F)):=by
 unfold AK at hm
 refine co_ofN (N:=13) Tryz.func154 z z ?_
 refine csr ?_
 refine r_as z ?_
 refine r_nil (x_seq (c_seq ?_))
 obtain ⟨r0,hr0,hm1⟩:=bs hm
 rcases r0 with ra2 | ⟨rn3,ro4⟩
 rotate_left
 ·have hm5:=sm_r hm1
  refine c_reg ?_
  refine r_mv z (r_mv z (r_mv z ?_))
  refine r_u (o_maxI z z) (r_u (o_cv z (cIW Tryz.underlying3 Tryz.underlying22 (if a1<0 then 0 else a1))) ?_)
  obtain rfl:=si hm5
  exact r_sw (s_w (o_callR ca101 z (Aj.ok b0_ a0 _ _ hr0) (by rintro _ _ _ ⟨rfl,rfl⟩;exact (px_st (pk 1 [0]) (px_of le_ (.inr ⟨_,z,_,z,z,z⟩)))))) (fun _ _ _ _ h=>h.elim)
 have hm5:=sm_l hm1
 obtain ⟨r6,hr6,hm7⟩:=bs hm5
 rcases r6 with ra8 | ⟨rn9,ro10⟩
 ·have hm11:=sm_l hm7
  refine c_reg ?_
  refine r_mv z (r_mv z (r_mv z ?_))
  refine r_u (o_maxI z z) (r_u (o_cv z (cIW Tryz.underlying3 Tryz.underlying22 (if a1<0 then 0 else a1))) ?_)
  refine r_c (s_w (o_callL ca101 z (Aj.ok b0_ a0 _ _ hr0) (fun _ _ _ h=>h))) ?_
  refine r_u (o_cv z (cWI Tryz.underlying22 Tryz.underlying3 ra2.1)) ?_
  refine r_c (s_w (o_callL ca152 z (AJ.ok b0_ _ _ _ hr6) (fun _ _ _ h=>h))) ?_
  refine r_as z ?_
  refine r_nil (x_seq (c_ret ?_))
  obtain rfl:=si hm11
  exact x_r1 z (rv_t z) le_ (.inl ⟨_,z,_,z,z,z,z⟩)
 have hm11:=sm_r hm7
 refine c_reg ?_
 refine r_mv z (r_mv z (r_mv z ?_))
 refine r_u (o_maxI z z) (r_u (o_cv z (cIW Tryz.underlying3 Tryz.underlying22 (if a1<0 then 0 else a1))) ?_)
 refine r_c (s_w (o_callL ca101 z (Aj.ok b0_ a0 _ _ hr0) (fun _ _ _ h=>h))) ?_
 refine r_u (o_cv z (cWI Tryz.underlying22 Tryz.underlying3 ra2.1)) ?_
 obtain rfl:=si hm11
 exact r_sw (s_w (o_callR ca152 z (AJ.ok b0_ _ _ _ hr6) (by rintro _ _ _ ⟨rfl,rfl⟩;exact (px_st (pk 1 [0]) (px_of le_ (.inr ⟨_,z,_,z,z,z⟩)))))) (fun _ _ _ _ h=>h.elim)
def CS(ra7:UInt64×Aa):Nat→(Option Ah)→Str→UInt64→Str→Option ((Option Ah×Str)⊕((Option Ah×Aa)⊕(Int×Aa)))
 | 0,_,_,_,_=>none
 | k26+1,t_19,last_20,s_21,c_22=>if decide (s_21<ra7.1) then (AK (⟨c_22⟩:Aa) 64).bind fun r31=>sm r31 (fun (ra33:Str×Aa)=>(AK ra33.2 4096).bind fun r37=>sm r37 (fun (ra39:Str×Aa)=>(Aj ra39.2 18446744073709551615).bind fun r43=>sm r43 (fun (ra45:UInt64×Aa)=>(Aj ra45.2 18446744073709551615).bind fun r49=>sm r49 (fun (ra51:UInt64×Aa)=>lt (An ra51.2 ((s_21==0)||slt last_20 ra33.1)) fun r56=>sm r56 (fun (ra58:Unit)=>om t_19 (none) fun x62=>lt (Bd x62 (⟨ra33.1,ra39.1,ra45.1,ra51.1⟩:Ak)) fun r67=>CS ra7 k26 (some r67) ra33.1 (s_21+1) ra51.2.s) fun ((rn59,ro60):Int×Unit)=>some (Sum.inr (Sum.inr (rn59,ra51.2)))) fun ((rn52,ro53):Int×Aa)=>some (Sum.inr (Sum.inr (rn52,ro53)))) fun ((rn46,ro47):Int×Aa)=>some (Sum.inr (Sum.inr (rn46,ro47)))) fun ((rn40,ro41):Int×Aa)=>some (Sum.inr (Sum.inr (rn40,ro41)))) fun ((rn34,ro35):Int×Aa)=>some (Sum.inr (Sum.inr (rn34,ro35))) else some (Sum.inl (t_19,c_22))
def Db(a0:Aa):Option ((Option Ah×Aa)⊕(Int×Aa)) :=
 lt (Dl) fun r0=>(Aj a0 1000).bind fun r5=>sm r5 (fun (ra7:UInt64×Aa)=>Option.bind (CS ra7 ((ra7.1-0).toNat+1) r0 [] 0 ra7.2.s) fun (p11:(Option Ah×Str)⊕((Option Ah×Aa)⊕(Int×Aa)))=>(match p11 with | Sum.inl q12=>some (Sum.inl (q12.1,(⟨q12.2⟩:Aa))) | Sum.inr r=>some r)) fun ((rn8,ro9):Int×Aa)=>some (Sum.inr (rn8,ro9))
theorem Db.ok{G R F}(b0_:Nat)(a0:Aa)(r:(Option Ah×Aa)⊕(Int×Aa))(hm:Db a0=some r):CO Tryz.prog 103 [pt b0_ 0] G R (Bk b0_ 177 (Aa.c a0)::F)
  (PK 175 r (fun (a:Option Ah×Aa) u R' L'=>∃(p0:Value×Ah.G),u=p0.1∧R'=R∧L'=rO (Ah.op p0.2) p0.1 a.1::Bk b0_ 177 (Aa.c a.2)::F) (fun n (o:Aa) R' L'=>R'=R∧L'=Bk b0_ 177 (Aa.c o)::F)):=by
 unfold Db at hm
 refine co_ofN (N:=41) Tryz.func103 z z ?_
 refine csr ?_
 refine r_as z ?_
 refine nsr ?_
 obtain ⟨r0,hr0,hm4⟩:=ltx hm
 refine r_sw (s_w (o_call ca42 z (Dl.ok _ hr0))) ?_
 rintro pv2 R _ _ ⟨⟨_,g3⟩,rfl,rfl,rfl⟩
 refine r_as z (r_as z ?_)
 refine r_nil (x_seq (c_seq ?_))
 obtain ⟨r5,hr5,hm6⟩:=bs hm4
 rcases r5 with ra7 | ⟨rn8,ro9⟩
 rotate_left
 ·have hm10:=sm_r hm6
  refine c_reg ?_
  refine r_mv z ?_
  refine rl_st (fun _ h=>mv1 h) ?_
  obtain rfl:=si hm10
  exact r_sw (s_w (o_callR ca101 z (Aj.ok b0_ a0 1000 _ hr5) (by rintro _ _ _ ⟨rfl,rfl⟩;exact (px_st (pk 2 [0]) (px_of le_ (.inr ⟨_,z,_,z,z,z⟩)))))) (fun _ _ _ _ h=>h.elim)
 have hm10:=sm_l hm6
 refine c_reg ?_
 refine r_mv z ?_
 refine rl_st (fun _ h=>mv1 h) ?_
 refine r_c (s_w (o_callL ca101 z (Aj.ok b0_ a0 1000 _ hr5) (fun _ _ _ h=>h))) ?_
 refine r_as z ?_
 refine nssr ?_
 refine r_mv z (r_mv z ?_)
 refine nsq ?_
 obtain ⟨p11,hp16,hm17⟩:=bs hm10
 refine cd_cut (fun x ks=>∀(q12:Option Ah×Str),∀(_:p11=Sum.inl q12),∀(pv13:Value×Ah.G),EX x .normal ks [(3,pv13.1)] R (Bk b0_ 177 [vS q12.2]::rO (Ah.op pv13.2) pv13.1 q12.1::F)) ?_ fun K18 => ?_
 ·intro q12 hq pv13
  subst hq
  try dsimp only at hm17
  obtain ⟨pv14,g15⟩:=pv13
  refine x_seq (csr ?_)
  refine r_mv z (r_as z ?_)
  refine r_nil (x_seq (c_ret ?_))
  obtain rfl:=si hm17
  refine ex_st (pk 2 [1,0]) ?_
  exact x_r1 z (rv_t z) le_ (.inl ⟨_,z,_,z,(pv14,g15),z,z,z⟩)
 refine c_blk ?_
 refine cd_loopG (M:=fun k26 (s:Option Ah×Str×UInt64×Str×(Value×Ah.G))=>CS ra7 k26 s.1 s.2.1 s.2.2.1 s.2.2.2.1=some p11) (Ef:=fun (s:Option Ah×Str×UInt64×Str×(Value×Ah.G))=>[(0,pt b0_ 0),(11,vW ra7.1),(3,s.2.2.2.2.1),(4,vS s.2.1),(12,vW s.2.2.1)]) (Rf:=fun (s:Option Ah×Str×UInt64×Str×(Value×Ah.G))=>R) (Lf:=fun (s:Option Ah×Str×UInt64×Str×(Value×Ah.G))=>Bk b0_ 177 [vS s.2.2.2.1]::rO (Ah.op s.2.2.2.2.2) s.2.2.2.2.1 s.1::F) ((ra7.1-0).toNat+1) (r0,[],0,ra7.2.s,(pv2,g3)) hp16 ⟨z,z,z,z,z,trivial⟩ (pk 2 [0,1]) (fun _ h=>by cases h) fun k26 s hM28 => ?_
 obtain ⟨t_19,last_20,s_21,c_22,pv23⟩:=s
 have hm27:CS ra7 (k26+1) t_19 last_20 s_21 c_22=some p11:=hM28
 rw [CS] at hm27
 obtain ⟨pv24,g25⟩:=pv23
 refine csr ?_
 refine r_bin z z (bW_lt _ _) ?_
 refine r_nil (x_seq (c_seq ?_))
 refine c_if (b:=decide (s_21<ra7.1)) z (fun h29 => ?_) fun h29 => ?_
 rotate_left
 ·have hm30:=iff_ hm27 h29
  refine c_exit (x_exit (ks':=_) z ?_)
  obtain rfl:=si hm30
  exact x_sub (K18 _ z (pv24,g25)) ⟨z,trivial⟩ (pk 2 [0,1])
 have hm30:=ift hm27 h29
 refine c_skip (x_seq (c_seq (c_blk (csr ?_))))
 refine r_mv z (r_as z ?_)
 refine r_nil (x_seq (c_seq ?_))
 obtain ⟨r31,hr31,hm32⟩:=bs hm30
 rcases r31 with ra33 | ⟨rn34,ro35⟩
 rotate_left
 ·have hm36:=sm_r hm32
  refine c_reg ?_
  refine r_mv z ?_
  obtain rfl:=si hm36
  try dsimp only at hm17
  obtain rfl:=si hm17
  exact r_sw (s_w (o_callR ca154 z (AK.ok b0_ (⟨c_22⟩:Aa) 64 _ hr31) (by rintro _ _ _ ⟨rfl,rfl⟩;exact (px_st (pk 2 [0]) (px_of le_ (.inr ⟨_,z,_,z,z,z⟩)))))) (fun _ _ _ _ h=>h.elim)
 have hm36:=sm_l hm32
 obtain ⟨r37,hr37,hm38⟩:=bs hm36
 rcases r37 with ra39 | ⟨rn40,ro41⟩
 rotate_left
 ·have hm42:=sm_r hm38
  refine c_reg ?_
  refine r_mv z ?_
  refine r_c (s_w (o_callL ca154 z (AK.ok b0_ (⟨c_22⟩:Aa) 64 _ hr31) (fun _ _ _ h=>h))) ?_
  refine r_mv z ?_
  obtain rfl:=si hm42
  try dsimp only at hm17
  obtain rfl:=si hm17
  exact r_sw (s_w (o_callR ca154 z (AK.ok b0_ _ 4096 _ hr37) (by rintro _ _ _ ⟨rfl,rfl⟩;exact (px_st (pk 2 [0]) (px_of le_ (.inr ⟨_,z,_,z,z,z⟩)))))) (fun _ _ _ _ h=>h.elim)
 have hm42:=sm_l hm38
 obtain ⟨r43,hr43,hm44⟩:=bs hm42
 rcases r43 with ra45 | ⟨rn46,ro47⟩
 rotate_left
 ·have hm48:=sm_r hm44
  refine c_reg ?_
  refine r_mv z ?_
  refine r_c (s_w (o_callL ca154 z (AK.ok b0_ (⟨c_22⟩:Aa) 64 _ hr31) (fun _ _ _ h=>h))) ?_
  refine r_mv z ?_
  refine r_c (s_w (o_callL ca154 z (AK.ok b0_ _ 4096 _ hr37) (fun _ _ _ h=>h))) ?_
  refine r_mv z ?_
  obtain rfl:=si hm48
  try dsimp only at hm17
  obtain rfl:=si hm17
  exact r_sw (s_w (o_callR ca101 z (Aj.ok b0_ _ 18446744073709551615 _ hr43) (by rintro _ _ _ ⟨rfl,rfl⟩;exact (px_st (pk 2 [0]) (px_of le_ (.inr ⟨_,z,_,z,z,z⟩)))))) (fun _ _ _ _ h=>h.elim)
 have hm48:=sm_l hm44
 obtain ⟨r49,hr49,hm50⟩:=bs hm48
 rcases r49 with ra51 | ⟨rn52,ro53⟩
 rotate_left
 ·have hm54:=sm_r hm50
  refine c_reg ?_
  refine r_mv z ?_
  refine r_c (s_w (o_callL ca154 z (AK.ok b0_ (⟨c_22⟩:Aa) 64 _ hr31) (fun _ _ _ h=>h))) ?_
  refine r_mv z ?_
  refine r_c (s_w (o_callL ca154 z (AK.ok b0_ _ 4096 _ hr37) (fun _ _ _ h=>h))) ?_
  refine r_mv z ?_
  refine r_c (s_w (o_callL ca101 z (Aj.ok b0_ _ 18446744073709551615 _ hr43) (fun _ _ _ h=>h))) ?_
  refine r_mv z ?_
  obtain rfl:=si hm54
  try dsimp only at hm17
  obtain rfl:=si hm17
  exact r_sw (s_w (o_callR ca101 z (Aj.ok b0_ _ 18446744073709551615 _ hr49) (by rintro _ _ _ ⟨rfl,rfl⟩;exact (px_st (pk 2 [0]) (px_of le_ (.inr ⟨_,z,_,z,z,z⟩)))))) (fun _ _ _ _ h=>h.elim)
 have hm54:=sm_l hm50
 refine c_reg ?_
 refine r_mv z ?_
 refine r_c (s_w (o_callL ca154 z (AK.ok b0_ (⟨c_22⟩:Aa) 64 _ hr31) (fun _ _ _ h=>h))) ?_
 refine r_mv z ?_
 refine r_c (s_w (o_callL ca154 z (AK.ok b0_ _ 4096 _ hr37) (fun _ _ _ h=>h))) ?_
 refine r_mv z ?_
 refine r_c (s_w (o_callL ca101 z (Aj.ok b0_ _ 18446744073709551615 _ hr43) (fun _ _ _ h=>h))) ?_
 refine r_mv z ?_
 refine r_c (s_w (o_callL ca101 z (Aj.ok b0_ _ 18446744073709551615 _ hr49) (fun _ _ _ h=>h))) ?_
 refine r_u (o_bld [vS ra33.1,vS ra39.1,vW ra45.1,vW ra51.1] z (fun _=>by kernel_rfl)) ?_
 refine r_new (o_al ze50) fun b55 => ?_
 refine r_u0 (o_stn ag50 z z z z z z z) ?_
 refine r_nil (x_seq (c_seq ?_))
 obtain ⟨r56,hr56,hm57⟩:=ltx hm54
 rcases r56 with ra58 | ⟨rn59,ro60⟩
 rotate_left
 ·have hm61:=sm_r hm57
  refine c_reg ?_
  refine r_mv z (r_mv z (r_bin z z (bW_eq _ 0) (r_mv z ?_)))
  refine r_s (s_gf z z fun g=>o_fa fa50_0 z) ?_
  refine r_s (s_gf z z fun g=>o_ld 0 sc9 (evg z g) z z) ?_
  refine r_s (s_gf z z fun g=>o_mv z) ?_
  refine r_s (s_gf z z fun g=>o_bin (evg z g) (evg z g) (bS_gt _ _)) ?_
  refine r_u (o_or z z) ?_
  refine rl_st (fun _ h=>mv1 h) ?_
  obtain rfl:=si hm61
  try dsimp only at hm17
  obtain rfl:=si hm17
  exact r_sw (s_w (o_callR ca102 z (An.ok b0_ _ _ _ hr56) (by rintro _ _ _ ⟨rfl,rfl⟩;exact (px_st (pk 3 [0]) (px_of le_ (.inr ⟨_,z,_,z,z,z⟩)))))) (fun _ _ _ _ h=>h.elim)
 have hm61:=sm_l hm57
 refine c_reg ?_
 refine r_mv z (r_mv z (r_bin z z (bW_eq _ 0) (r_mv z ?_)))
 refine r_s (s_gf z z fun g=>o_fa fa50_0 z) ?_
 refine r_s (s_gf z z fun g=>o_ld 0 sc9 (evg z g) z z) ?_
 refine r_s (s_gf z z fun g=>o_mv z) ?_
 refine r_s (s_gf z z fun g=>o_bin (evg z g) (evg z g) (bS_gt _ _)) ?_
 refine r_u (o_or z z) ?_
 refine rl_st (fun _ h=>mv1 h) ?_
 refine r_c (s_w (o_callL ca102 z (An.ok b0_ _ _ _ hr56) (fun _ _ _ h=>h))) ?_
 refine r_nil (x_seq (c_seq ?_))
 refine cd_st (fun _ h=>mv2 h) ?_
 refine cd_opt (fun ho64 => ?_) (fun x62 b63 ho64 => ?_)
 ·rintro rfl
  have hm65:=om_n hm61 ho64
  cases hm65
 rintro rfl
 have hm65:=om_s hm61 ho64
 refine cd_st (fun _ h=>st_star_o h) ?_
 refine c_reg ?_
 refine r_mv z ?_
 refine r_u (o_ldn 3 [vS ra33.1,vS ra39.1,vW ra45.1,vW ra51.1] ag50 z z z z) ?_
 obtain ⟨r67,hr67,hm68⟩:=ltx hm65
 refine r_c (s_w (o_call ca122 z (Bd.ok b63 _ g25 (⟨ra33.1,ra39.1,ra45.1,ra51.1⟩:Ak) _ hr67))) ?_
 refine r_nil (x_seq (c_reg ?_))
 refine r_fa fa50_0 z (r_ld 3 sc9 z z z (r_as z ?_))
 refine r_nil (x_blk (x_seq (c_reg ?_)))
 refine r_bin z z (bW_add _ 1) (r_mv z ?_)
 refine r_nil ?_
 refine ex_st (fun _ h=>st_some (f:=Ah.op g25) (a:=r67) (st_star_f (A:=Ah.fl b63 r67 g25) h)) ?_
 exact x_lp ((some r67),ra33.1,s_21+1,ra51.2.s,(pt b63 0,g25)) hm68 ⟨z,z,z,z,z,trivial⟩ (pk 3 [1,0])
def C3(q57:List Str×Str)(s_32:Int):Nat→(Option Ab)→Int→Option ((Option Ab)⊕((Option Ab×Str)⊕((Option Ab×Str)⊕((Option Ab×Aa)⊕(Int×Aa)))))
 | 0,_,_=>none
 | k75+1,out_70,k_71=>if decide (0≤k_71) then (gi q57.1 k_71).bind fun x80=>om out_70 (none) fun x82=>(A5 x82 x80).bind fun r90=>Option.bind (if r90.2 then lt (An (⟨q57.2⟩:Aa) false) fun r104=>sm r104 (fun (ra106:Unit)=>some (Sum.inl x82)) fun ((rn107,ro108):Int×Unit)=>some (Sum.inr (Sum.inr (Sum.inr (Sum.inr (Sum.inr (rn107,(⟨q57.2⟩:Aa))))))) else (Au x82 s_32 x80).bind fun r110=>lt (An (⟨q57.2⟩:Aa) r110.1) fun r117=>sm r117 (fun (ra119:Unit)=>some (Sum.inl r110.2)) fun ((rn120,ro121):Int×Unit)=>some (Sum.inr (Sum.inr (Sum.inr (Sum.inr (Sum.inr (rn120,(⟨q57.2⟩:Aa)))))))) fun (p92:Ab⊕((Option Ab)⊕((Option Ab×Str)⊕((Option Ab×Str)⊕((Option Ab×Aa)⊕(Int×Aa))))))=>(match p92 with | Sum.inl q93=>C3 q57 s_32 k75 (some q93) (i64 (k_71-1)) | Sum.inr r=>some r) else some (Sum.inl out_70)
def C4 : Nat→(List Str)→UInt64→Str→Option ((List Str×Str)⊕((Option Ab×Str)⊕((Option Ab×Str)⊕((Option Ab×Aa)⊕(Int×Aa)))))
 | 0,_,_,_=>none
 | k137+1,keys_133,n_134,c_135=>if decide (0<n_134) then (AK (⟨c_135⟩:Aa) 64).bind fun r142=>sm r142 (fun (ra144:Str×Aa)=>(apd 16 keys_133 [ra144.1]).bind fun l150=>C4 k137 l150 (n_134-1) ra144.2.s) fun ((rn145,ro146):Int×Aa)=>some (Sum.inr (Sum.inr (Sum.inr (Sum.inr (rn145,ro146))))) else some (Sum.inl (keys_133,c_135))
def C5(ra2:UInt64×Aa)(ra8:UInt64×Aa):Nat→(Option Ab)→Int→Str→Option ((Option Ab×Str)⊕((Option Ab×Aa)⊕(Int×Aa)))
 | 0,_,_,_=>none
 | k37+1,out_31,s_32,c_33=>if decide (s_32<(i64 (ra2.1.toNat:Int))) then Option.bind ((Aj (⟨c_33⟩:Aa) (toW (i64 (ra8.1.toNat:Int)))).bind fun r50=>sm r50 (fun (ra52:UInt64×Aa)=>Option.bind (C4 ((ra52.1).toNat+1) [] ra52.1 ra52.2.s) fun (p56:(List Str×Str)⊕((Option Ab×Str)⊕((Option Ab×Str)⊕((Option Ab×Aa)⊕(Int×Aa)))))=>(match p56 with | Sum.inl q57=>Option.bind (C3 q57 s_32 (((i64 ((q57.1.length:Int)-1))+1).toNat+1) out_31 (i64 ((q57.1.length:Int)-1))) fun (p62:(Option Ab)⊕((Option Ab×Str)⊕((Option Ab×Str)⊕((Option Ab×Aa)⊕(Int×Aa)))))=>(match p62 with | Sum.inl q63=>some (Sum.inl (q63,q57.2)) | Sum.inr r=>some r) | Sum.inr r=>some r)) fun ((rn53,ro54):Int×Aa)=>some (Sum.inr (Sum.inr (Sum.inr (rn53,ro54))))) fun (p42:(Option Ab×Str)⊕((Option Ab×Str)⊕((Option Ab×Aa)⊕(Int×Aa))))=>(match p42 with | Sum.inl q43=>C5 ra2 ra8 k37 q43.1 (i64 (s_32+1)) q43.2 | Sum.inr r=>some r) else some (Sum.inl (out_31,c_33))
def C6(a0:Aa):Option ((Option Ab×Aa)⊕(Int×Aa)) :=
 (Aj a0 8).bind fun r0=>sm r0 (fun (ra2:UInt64×Aa)=>(Aj ra2.2 4096).bind fun r6=>sm r6 (fun (ra8:UInt64×Aa)=>(CV (i64 (ra2.1.toNat:Int)) (i64 (ra8.1.toNat:Int))).bind fun r12=>lt (An ra8.2 (r12.2==0)) fun r17=>sm r17 (fun (ra19:Unit)=>Option.bind (C5 ra2 ra8 (((i64 (ra2.1.toNat:Int))-0).toNat+1) r12.1 0 ra8.2.s) fun (p23:(Option Ab×Str)⊕((Option Ab×Aa)⊕(Int×Aa)))=>(match p23 with | Sum.inl q24=>some (Sum.inl (q24.1,(⟨q24.2⟩:Aa))) | Sum.inr r=>some r)) fun ((rn20,ro21):Int×Unit)=>some (Sum.inr (rn20,ra8.2))) fun ((rn9,ro10):Int×Aa)=>some (Sum.inr (rn9,ro10))) fun ((rn3,ro4):Int×Aa)=>some (Sum.inr (rn3,ro4))
theorem C6.ok{G R F}(b0_:Nat)(a0:Aa)(r:(Option Ab×Aa)⊕(Int×Aa))(hm:C6 a0=some r):CO Tryz.prog 202 [pt b0_ 0] G R (Bk b0_ 177 (Aa.c a0)::F)
  (PK 175 r (fun (a:Option Ab×Aa) u R' L'=>∃(p0:Value×Ab.G),u=p0.1∧R'=R∧L'=rO (Ab.op p0.2) p0.1 a.1::Bk b0_ 177 (Aa.c a.2)::F) (fun n (o:Aa) R' L'=>R'=R∧L'=Bk b0_ 177 (Aa.c o)::F)):=by
 unfold C6 at hm
 refine co_ofN (N:=77) Tryz.func202 z z ?_
 refine csr ?_
 refine r_as z ?_
 refine r_nil (x_seq (c_seq ?_))
 obtain ⟨r0,hr0,hm1⟩:=bs hm
 rcases r0 with ra2 | ⟨rn3,ro4⟩
 rotate_left
 ·have hm5:=sm_r hm1
  refine c_reg ?_
  refine r_mv z ?_
  obtain rfl:=si hm5
  exact r_sw (s_w (o_callR ca101 z (Aj.ok b0_ a0 8 _ hr0) (by rintro _ _ _ ⟨rfl,rfl⟩;exact (px_st (pk 1 [0]) (px_of le_ (.inr ⟨_,z,_,z,z,z⟩)))))) (fun _ _ _ _ h=>h.elim)
 have hm5:=sm_l hm1
 obtain ⟨r6,hr6,hm7⟩:=bs hm5
 rcases r6 with ra8 | ⟨rn9,ro10⟩
 rotate_left
 ·have hm11:=sm_r hm7
  refine c_reg ?_
  refine r_mv z ?_
  refine r_c (s_w (o_callL ca101 z (Aj.ok b0_ a0 8 _ hr0) (fun _ _ _ h=>h))) ?_
  refine r_u (o_cv z (cWI Tryz.underlying22 Tryz.underlying3 ra2.1)) (r_mv z ?_)
  obtain rfl:=si hm11
  exact r_sw (s_w (o_callR ca101 z (Aj.ok b0_ _ 4096 _ hr6) (by rintro _ _ _ ⟨rfl,rfl⟩;exact (px_st (pk 1 [0]) (px_of le_ (.inr ⟨_,z,_,z,z,z⟩)))))) (fun _ _ _ _ h=>h.elim)
 have hm11:=sm_l hm7
 refine c_reg ?_
 refine r_mv z ?_
 refine r_c (s_w (o_callL ca101 z (Aj.ok b0_ a0 8 _ hr0) (fun _ _ _ h=>h))) ?_
 refine r_u (o_cv z (cWI Tryz.underlying22 Tryz.underlying3 ra2.1)) (r_mv z ?_)
 refine r_c (s_w (o_callL ca101 z (Aj.ok b0_ _ 4096 _ hr6) (fun _ _ _ h=>h))) ?_
 refine r_u (o_cv z (cWI Tryz.underlying22 Tryz.underlying3 ra8.1)) (r_as z (r_as z ?_))
 refine nsr ?_
 refine r_mv z (r_mv z ?_)
 obtain ⟨r12,hr12,hm16⟩:=bs hm11
 refine r_sw (s_w (o_call ca128 z (CV.ok _ _ _ hr12))) ?_
 rintro _ R _ _ ⟨⟨pv14,g15⟩,rfl,rfl,rfl⟩
 refine r_mv z ?_
 refine r_ext z z ?_
 refine r_ext z z (r_as z (r_as z ?_))
 refine r_nil (x_seq (c_seq ?_))
 obtain ⟨r17,hr17,hm18⟩:=ltx hm16
 rcases r17 with ra19 | ⟨rn20,ro21⟩
 rotate_left
 ·have hm22:=sm_r hm18
  refine c_reg ?_
  refine r_mv z (r_mv z (r_bin z z (bI_eq _ 0) ?_))
  refine rl_st (fun _ h=>mv1 h) ?_
  obtain rfl:=si hm22
  exact r_sw (s_w (o_callR ca102 z (An.ok b0_ _ _ _ hr17) (by rintro _ _ _ ⟨rfl,rfl⟩;exact (px_st (pk 2 [0]) (px_of le_ (.inr ⟨_,z,_,z,z,z⟩)))))) (fun _ _ _ _ h=>h.elim)
 have hm22:=sm_l hm18
 refine c_reg ?_
 refine r_mv z (r_mv z (r_bin z z (bI_eq _ 0) ?_))
 refine rl_st (fun _ h=>mv1 h) ?_
 refine r_c (s_w (o_callL ca102 z (An.ok b0_ _ _ _ hr17) (fun _ _ _ h=>h))) ?_
 refine nssr ?_
 refine r_mv z (r_mv z ?_)
 refine nsq ?_
 obtain ⟨p23,hp28,hm29⟩:=bs hm22
 refine cd_cut (fun x ks=>∀(q24:Option Ab×Str),∀(_:p23=Sum.inl q24),∀(pv25:Value×Ab.G),EX x .normal ks [(5,pv25.1)] R (Bk b0_ 177 [vS q24.2]::rO (Ab.op pv25.2) pv25.1 q24.1::F)) ?_ fun K30 => ?_
 ·intro q24 hq pv25
  subst hq
  try dsimp only at hm29
  obtain ⟨pv26,g27⟩:=pv25
  refine x_seq (csr ?_)
  refine r_mv z (r_as z ?_)
  refine r_nil (x_seq (c_ret ?_))
  obtain rfl:=si hm29
  refine ex_st (pk 2 [1,0]) ?_
  exact x_r1 z (rv_t z) le_ (.inl ⟨_,z,_,z,(pv26,g27),z,z,z⟩)
 refine c_blk ?_
 refine cd_loopG (M:=fun k37 (s:Option Ab×Int×Str×(Value×Ab.G))=>C5 ra2 ra8 k37 s.1 s.2.1 s.2.2.1=some p23) (Ef:=fun (s:Option Ab×Int×Str×(Value×Ab.G))=>[(0,pt b0_ 0),(4,vI (i64 (ra8.1.toNat:Int))),(29,vI (i64 (ra2.1.toNat:Int))),(5,s.2.2.2.1),(30,vI s.2.1)]) (Rf:=fun (s:Option Ab×Int×Str×(Value×Ab.G))=>R) (Lf:=fun (s:Option Ab×Int×Str×(Value×Ab.G))=>Bk b0_ 177 [vS s.2.2.1]::rO (Ab.op s.2.2.2.2) s.2.2.2.1 s.1::F) (((i64 (ra2.1.toNat:Int))-0).toNat+1) (r12.1,0,ra8.2.s,(pv14,g15)) hp28 ⟨z,z,z,z,z,trivial⟩ (pk 2 [0,1]) (fun _ h=>by cases h) fun k37 s hM39 => ?_
 obtain ⟨out_31,s_32,c_33,pv34⟩:=s
 have hm38:C5 ra2 ra8 (k37+1) out_31 s_32 c_33=some p23:=hM39
 rw [C5] at hm38
 obtain ⟨pv35,g36⟩:=pv34
 refine csr ?_
 refine r_bin z z (bI_lt _ _) ?_
 refine r_nil (x_seq (c_seq ?_))
 refine c_if (b:=decide (s_32<(i64 (ra2.1.toNat:Int)))) z (fun h40 => ?_) fun h40 => ?_
 rotate_left
 ·have hm41:=iff_ hm38 h40
  refine c_exit (x_exit (ks':=_) z ?_)
  obtain rfl:=si hm41
  exact x_sub (K30 _ z (pv35,g36)) ⟨z,trivial⟩ (pk 2 [0,1])
 have hm41:=ift hm38 h40
 refine c_skip (x_seq (c_seq ?_))
 obtain ⟨p42,hp47,hm48⟩:=bs hm41
 refine cd_cut (fun x ks=>∀(q43:Option Ab×Str),∀(_:p42=Sum.inl q43),∀(pv44:Value×Ab.G),EX x .normal ks [(0,pt b0_ 0),(4,vI (i64 (ra8.1.toNat:Int))),(29,vI (i64 (ra2.1.toNat:Int))),(30,vI s_32),(5,pv44.1)] R (Bk b0_ 177 [vS q43.2]::rO (Ab.op pv44.2) pv44.1 q43.1::F)) ?_ fun K49 => ?_
 ·intro q43 hq pv44
  subst hq
  try dsimp only at hm48
  obtain ⟨pv45,g46⟩:=pv44
  refine x_seq (c_reg ?_)
  refine r_bin z z (bI_add _ 1) (r_mv z ?_)
  refine r_nil ?_
  exact x_lp (q43.1,i64 (s_32+1),q43.2,(pv45,g46)) hm48 ⟨z,z,z,z,z,trivial⟩ (pk 2 [0,1])
 refine c_blk (csr ?_)
 refine r_mv z (r_as z ?_)
 refine nsr ?_
 refine r_as z ?_
 refine r_nil (x_seq (c_seq (c_seq ?_)))
 obtain ⟨r50,hr50,hm51⟩:=bs hp47
 rcases r50 with ra52 | ⟨rn53,ro54⟩
 rotate_left
 ·have hm55:=sm_r hm51
  refine c_reg ?_
  refine r_mv z (r_mv z (r_u (o_cv z (cIW Tryz.underlying3 Tryz.underlying22 (i64 (ra8.1.toNat:Int)))) ?_))
  obtain rfl:=si hm55
  try dsimp only at hm48
  obtain rfl:=si hm48
  try dsimp only at hm29
  obtain rfl:=si hm29
  exact r_sw (s_w (o_callR ca101 z (Aj.ok b0_ (⟨c_33⟩:Aa) _ _ hr50) (by rintro _ _ _ ⟨rfl,rfl⟩;exact (px_st (pk 2 [0]) (px_of le_ (.inr ⟨_,z,_,z,z,z⟩)))))) (fun _ _ _ _ h=>h.elim)
 have hm55:=sm_l hm51
 refine c_reg ?_
 refine r_mv z (r_mv z (r_u (o_cv z (cIW Tryz.underlying3 Tryz.underlying22 (i64 (ra8.1.toNat:Int)))) ?_))
 refine r_c (s_w (o_callL ca101 z (Aj.ok b0_ (⟨c_33⟩:Aa) _ _ hr50) (fun _ _ _ h=>h))) ?_
 refine r_as z ?_
 refine nsq ?_
 obtain ⟨p56,hp59,hm60⟩:=bs hm55
 refine cd_cut (fun x ks=>∀(q57:List Str×Str),∀(_:p56=Sum.inl q57),∀(g58:Value),EX x .normal ks [(0,pt b0_ 0),(4,vI (i64 (ra8.1.toNat:Int))),(5,pv35),(7,vI s_32),(29,vI (i64 (ra2.1.toNat:Int))),(30,vI s_32),(8,g58)] R (Bk b0_ 177 [vS q57.2]::rO (Ab.op g36) pv35 out_31::OwS true 9 1 eS g58 q57.1::F)) ?_ fun K61 => ?_
 rotate_left
 ·refine c_blk ?_
  refine cd_st (fun _ h=>st_nil (ap:=true) (T:=9) (sz:=1) (en:=eS) h) ?_
  refine cd_loopG (M:=fun k137 (s:List Str×UInt64×Str×Value)=>C4 k137 s.1 s.2.1 s.2.2.1=some p56) (Ef:=fun (s:List Str×UInt64×Str×Value)=>[(0,pt b0_ 0),(4,vI (i64 (ra8.1.toNat:Int))),(5,pv35),(7,vI s_32),(29,vI (i64 (ra2.1.toNat:Int))),(30,vI s_32),(8,s.2.2.2),(9,vW s.2.1)]) (Rf:=fun (s:List Str×UInt64×Str×Value)=>R) (Lf:=fun (s:List Str×UInt64×Str×Value)=>Bk b0_ 177 [vS s.2.2.1]::rO (Ab.op g36) pv35 out_31::OwS true 9 1 eS s.2.2.2 s.1::F) ((ra52.1).toNat+1) ([],ra52.1,ra52.2.s,.slice none 0 0) hp59 ⟨z,z,z,z,z,z,z,z,trivial⟩ (pk 3 [1,2,0]) (fun _ h=>by cases h) fun k137 s hM139 => ?_
  obtain ⟨keys_133,n_134,c_135,g136⟩:=s
  have hm138:C4 (k137+1) keys_133 n_134 c_135=some p56:=hM139
  rw [C4] at hm138
  refine c_seq (csr ?_)
  refine r_mv z (r_bin z z (bW_gt _ 0) ?_)
  refine nsq ?_
  refine c_if (b:=decide (0<n_134)) z (fun h140 => ?_) fun h140 => ?_
  rotate_left
  ·have hm141:=iff_ hm138 h140
   refine c_exit (x_exit (ks':=_) z ?_)
   obtain rfl:=si hm141
   exact x_sub (K61 _ z g136) ⟨z,z,z,z,z,z,z,trivial⟩ (pk 3 [0,1,2])
  have hm141:=ift hm138 h140
  refine c_skip (x_seq (c_seq (c_blk ?_)))
  obtain ⟨r142,hr142,hm143⟩:=bs hm141
  rcases r142 with ra144 | ⟨rn145,ro146⟩
  ·have hm147:=sm_l hm143
   refine c_reg ?_
   refine r_mv z (r_mv z ?_)
   refine r_c (s_w (o_callL ca154 z (AK.ok b0_ (⟨c_135⟩:Aa) 64 _ hr142) (fun _ _ _ h=>h))) ?_
   refine r_sw (s_w (o_bsl (en:=eS) (sz:=1) (e:=9) (cs:=[vS ra144.1]) (r:=[ra144.1]) z (fun _=>by kernel_rfl) z (by decide) z (fun _=>z))) ?_
   rintro v148 R _ _ ⟨rfl,rfl⟩
   obtain ⟨l150,hl150,hm151⟩:=bs hm147
   refine rl_st (fun _ h=>mv3 h) ?_
   refine r_sw (s_w (o_ap (sz:=1) (bytes:=16) 0 Tryz.underlying98 z z z z z (by decide) (by decide) (fun _ _ _ h=>by simp at h;subst h;rfl) (fun _=>z) z z z z (Nat.succ_pos _) hl150)) ?_
   rintro v149 R _ _ ⟨rfl,rfl⟩
   refine r_as z ?_
   refine r_nil (x_blk (x_seq (c_reg ?_)))
   refine r_mv z (r_bin z z (bW_sub _ 1) (r_as z ?_))
   refine r_nil ?_
   exact x_lp (l150,n_134-1,ra144.2.s,v149) hm151 ⟨z,z,z,z,z,z,z,z,trivial⟩ (pk 4 [2,3,0])
  have hm147:=sm_r hm143
  refine c_reg ?_
  refine r_mv z (r_mv z ?_)
  obtain rfl:=si hm147
  try dsimp only at hm60
  obtain rfl:=si hm60
  try dsimp only at hm48
  obtain rfl:=si hm48
  try dsimp only at hm29
  obtain rfl:=si hm29
  exact r_sw (s_w (o_callR ca154 z (AK.ok b0_ (⟨c_135⟩:Aa) 64 _ hr142) (by rintro _ _ _ ⟨rfl,rfl⟩;exact (px_st (pk 3 [0]) (px_of le_ (.inr ⟨_,z,_,z,z,z⟩)))))) (fun _ _ _ _ h=>h.elim)
 intro q57 hq g58
 subst hq
 try dsimp only at hm60
 refine x_seq (csr ?_)
 refine r_mv z (r_u (o_lenO 2 Tryz.underlying98 z z) (r_bin z z (bI_sub _ 1) (r_as z ?_)))
 refine nsq ?_
 obtain ⟨p62,hp67,hm68⟩:=bs hm60
 refine cd_cut (fun x ks=>∀(q63:Option Ab),∀(_:p62=Sum.inl q63),∀(pv64:Value×Ab.G),EX x .normal ks [(0,pt b0_ 0),(4,vI (i64 (ra8.1.toNat:Int))),(29,vI (i64 (ra2.1.toNat:Int))),(30,vI s_32),(5,pv64.1)] R (Bk b0_ 177 [vS q57.2]::OwS true 9 1 eS g58 q57.1::rO (Ab.op pv64.2) pv64.1 q63::F)) ?_ fun K69 => ?_
 ·intro q63 hq pv64
  subst hq
  try dsimp only at hm68
  obtain ⟨pv65,g66⟩:=pv64
  refine x_blk ?_
  obtain rfl:=si hm68
  exact x_sub (K49 _ z (pv65,g66)) ⟨z,z,z,z,z,trivial⟩ (pk 3 [0,2])
 refine c_blk ?_
 refine cd_loopG (M:=fun k75 (s:Option Ab×Int×(Value×Ab.G))=>C3 q57 s_32 k75 s.1 s.2.1=some p62) (Ef:=fun (s:Option Ab×Int×(Value×Ab.G))=>[(0,pt b0_ 0),(4,vI (i64 (ra8.1.toNat:Int))),(7,vI s_32),(8,g58),(29,vI (i64 (ra2.1.toNat:Int))),(30,vI s_32),(5,s.2.2.1),(10,vI s.2.1)]) (Rf:=fun (s:Option Ab×Int×(Value×Ab.G))=>R) (Lf:=fun (s:Option Ab×Int×(Value×Ab.G))=>Bk b0_ 177 [vS q57.2]::OwS true 9 1 eS g58 q57.1::rO (Ab.op s.2.2.2) s.2.2.1 s.1::F) (((i64 ((q57.1.length:Int)-1))+1).toNat+1) (out_31,i64 ((q57.1.length:Int)-1),(pv35,g36)) hp67 ⟨z,z,z,z,z,z,z,z,trivial⟩ (pk 3 [0,2,1]) (fun _ h=>by cases h) fun k75 s hM77 => ?_
 obtain ⟨out_70,k_71,pv72⟩:=s
 have hm76:C3 q57 s_32 (k75+1) out_70 k_71=some p62:=hM77
 rw [C3] at hm76
 obtain ⟨pv73,g74⟩:=pv72
 refine c_seq (csr ?_)
 refine r_mv z (r_bin z z (bI_ge _ 0) ?_)
 refine nsq ?_
 refine c_if (b:=decide (0≤k_71)) z (fun h78 => ?_) fun h78 => ?_
 rotate_left
 ·have hm79:=iff_ hm76 h78
  refine c_exit (x_exit (ks':=_) z ?_)
  obtain rfl:=si hm79
  exact x_sub (K69 _ z (pv73,g74)) ⟨z,z,z,z,z,trivial⟩ (pk 3 [0,1,2])
 have hm79:=ift hm76 h78
 refine c_skip (x_seq (c_seq (c_blk (c_seq ?_))))
 obtain ⟨x80,hx80,hm81⟩:=bs hm79
 refine cd_st (fun _ h=>mv2 h) ?_
 refine cd_opt (fun ho84 => ?_) (fun x82 b83 ho84 => ?_)
 ·rintro rfl
  have hm85:=om_n hm81 ho84
  cases hm85
 rintro rfl
 have hm85:=om_s hm81 ho84
 refine cd_st (fun _ h=>st_star_o h) ?_
 refine c_reg ?_
 refine r_mv z (r_mv z (r_mv z ?_))
 refine r_u (o_ixO 6 Tryz.underlying98 (fun _=>by kernel_rfl) z z z hx80) (r_u (o_ldO0 6 sc9 z z hx80 z z) ?_)
 obtain ⟨r90,hr90,hm91⟩:=bs hm85
 refine r_c (s_w (o_call ca160 z (A5.ok b83 _ g74 _ _ hr90))) ?_
 refine r_mv z ?_
 refine r_ext z z ?_
 refine r_ext z z (r_as z (r_as z ?_))
 refine nsq ?_
 obtain ⟨p92,hp99,hm100⟩:=bs hm91
 refine cd_cut (fun x ks=>∀(q93:Ab),∀(_:p92=Sum.inl q93),∀(g94:Ab.G),EX x .normal ks [(0,pt b0_ 0),(4,vI (i64 (ra8.1.toNat:Int))),(5,pt b83 0),(7,vI s_32),(8,g58),(10,vI k_71),(29,vI (i64 (ra2.1.toNat:Int))),(30,vI s_32)] R (Bk b0_ 177 [vS q57.2]::Bk b83 237 (Ab.k q93 g94)::OwS true 9 1 eS g58 q57.1::OwS true 240 4 As.c g94.slots q93.slots::OwS true 3 1 eI g94.free q93.free::OwM vS vI g94.at_ q93.at_::OwS true 3 1 eI g94.many q93.many::F)) ?_ fun K101 => ?_
 ·intro q93 hq g94
  subst hq
  try dsimp only at hm100
  refine x_blk (x_seq (c_reg ?_))
  refine r_mv z (r_bin z z (bI_sub _ 1) (r_as z ?_))
  refine r_nil ?_
  refine ex_st (fun _ h=>mv5 (mv6 (mv6 (mv6 (mv6 h))))) ?_
  refine ex_st (fun _ h=>st_some (f:=Ab.op g94) (a:=q93) (st_star_f (A:=Ab.fl b83 q93 g94) h)) ?_
  exact x_lp ((some q93),i64 (k_71-1),(pt b83 0,g94)) hm100 ⟨z,z,z,z,z,z,z,z,trivial⟩ (pk 3 [1,2,0])
 refine cd_by r90.2 (fun h102 => ?_) fun h102 => ?_
 ·have hm103:=ift hp99 h102
  obtain ⟨r104,hr104,hm105⟩:=ltx hm103
  rcases r104 with ra106 | ⟨rn107,ro108⟩
  ·have hm109:=sm_l hm105
   refine c_reg ?_
   refine r_mv z (r_mv z ?_)
   refine r_u (o_not z) (r_mv z ?_)
   refine r_s (s_n z z (nbf h102)) ?_
   refine r_s (s_n z z (nbf h102)) ?_
   refine r_s (s_n z z (nbf h102)) ?_
   refine r_s (s_n z z (nbf h102)) ?_
   refine r_s (s_n z z (nbf h102)) ?_
   refine r_s (s_n z z (nbf h102)) ?_
   refine r_s (s_n z z (nbf h102)) ?_
   refine r_u (o_pf z (nbf h102) z) ?_
   refine rl_st (fun _ h=>mv5 h) ?_
   refine r_c (s_w (o_callL ca102 z (An.ok b0_ (⟨q57.2⟩:Aa) _ _ hr104) (fun _ _ _ h=>h))) ?_
   refine r_nil ?_
   obtain rfl:=si hm109
   exact x_sub (K101 _ z g74) ⟨z,z,z,z,z,z,z,z,trivial⟩ (pk 7 [0,1,6,2,3,4,5])
  have hm109:=sm_r hm105
  refine c_reg ?_
  refine r_mv z (r_mv z ?_)
  refine r_u (o_not z) (r_mv z ?_)
  refine r_s (s_n z z (nbf h102)) ?_
  refine r_s (s_n z z (nbf h102)) ?_
  refine r_s (s_n z z (nbf h102)) ?_
  refine r_s (s_n z z (nbf h102)) ?_
  refine r_s (s_n z z (nbf h102)) ?_
  refine r_s (s_n z z (nbf h102)) ?_
  refine r_s (s_n z z (nbf h102)) ?_
  refine r_u (o_pf z (nbf h102) z) ?_
  refine rl_st (fun _ h=>mv5 h) ?_
  obtain rfl:=si hm109
  try dsimp only at hm100
  obtain rfl:=si hm100
  try dsimp only at hm68
  obtain rfl:=si hm68
  try dsimp only at hm48
  obtain rfl:=si hm48
  try dsimp only at hm29
  obtain rfl:=si hm29
  exact r_sw (s_w (o_callR ca102 z (An.ok b0_ (⟨q57.2⟩:Aa) _ _ hr104) (by rintro _ _ _ ⟨rfl,rfl⟩;exact (px_st (pk 7 [0]) (px_of le_ (.inr ⟨_,z,_,z,z,z⟩)))))) (fun _ _ _ _ h=>h.elim)
 have hm103:=iff_ hp99 h102
 obtain ⟨r110,hr110,hm116⟩:=bs hm103
 obtain ⟨r117,hr117,hm118⟩:=ltx hm116
 rcases r117 with ra119 | ⟨rn120,ro121⟩
 ·have hm122:=sm_l hm118
  refine c_reg ?_
  refine r_mv z (r_mv z ?_)
  refine r_u (o_not z) (r_mv z ?_)
  refine r_s (s_y z z (nbt h102) (o_mv z)) ?_
  refine r_s (s_y z z (nbt h102) (o_mv z)) ?_
  refine r_s (s_y z z (nbt h102) (o_mv z)) ?_
  refine r_s (s_y z z (nbt h102) (o_mv z)) ?_
  refine r_s (s_y z z (nbt h102) (o_ixO 6 Tryz.underlying98 (fun _=>by kernel_rfl) z z z hx80)) ?_
  refine r_s (s_y z z (nbt h102) (o_ldO0 6 sc9 z z hx80 z z)) ?_
  refine r_sw (s_yw z z (nbt h102) (o_call ca163 z (Au.ok b83 _ g74 _ _ _ hr110))) ?_
  rintro _ R _ _ ⟨g123,rfl,rfl,rfl⟩
  refine r_u (o_pt z (nbt h102) z) ?_
  refine rl_st (fun _ h=>mv5 h) ?_
  refine r_c (s_w (o_callL ca102 z (An.ok b0_ (⟨q57.2⟩:Aa) _ _ hr117) (fun _ _ _ h=>h))) ?_
  refine r_nil ?_
  obtain rfl:=si hm122
  exact x_sub (K101 _ z g123) ⟨z,z,z,z,z,z,z,z,trivial⟩ (pk 7 [0,1,6,2,3,4,5])
 have hm122:=sm_r hm118
 refine c_reg ?_
 refine r_mv z (r_mv z ?_)
 refine r_u (o_not z) (r_mv z ?_)
 refine r_s (s_y z z (nbt h102) (o_mv z)) ?_
 refine r_s (s_y z z (nbt h102) (o_mv z)) ?_
 refine r_s (s_y z z (nbt h102) (o_mv z)) ?_
 refine r_s (s_y z z (nbt h102) (o_mv z)) ?_
 refine r_s (s_y z z (nbt h102) (o_ixO 6 Tryz.underlying98 (fun _=>by kernel_rfl) z z z hx80)) ?_
 refine r_s (s_y z z (nbt h102) (o_ldO0 6 sc9 z z hx80 z z)) ?_
 refine r_sw (s_yw z z (nbt h102) (o_call ca163 z (Au.ok b83 _ g74 _ _ _ hr110))) ?_
 rintro _ R _ _ ⟨g128,rfl,rfl,rfl⟩
 refine r_u (o_pt z (nbt h102) z) ?_
 refine rl_st (fun _ h=>mv5 h) ?_
 obtain rfl:=si hm122
 try dsimp only at hm100
 obtain rfl:=si hm100
 try dsimp only at hm68
 obtain rfl:=si hm68
 try dsimp only at hm48
 obtain rfl:=si hm48
 try dsimp only at hm29
 obtain rfl:=si hm29
 exact r_sw (s_w (o_callR ca102 z (An.ok b0_ (⟨q57.2⟩:Aa) _ _ hr117) (by rintro _ _ _ ⟨rfl,rfl⟩;exact (px_st (pk 7 [0]) (px_of le_ (.inr ⟨_,z,_,z,z,z⟩)))))) (fun _ _ _ _ h=>h.elim)
def AI(a0:Ab):Int :=
 (a0.free.length:Int)
theorem AI.ok{G R F}(b0_:Nat)(a0:Ab)(g0_:Ab.G)(r:Int)(hm:AI a0=r):CO Tryz.prog 203 [pt b0_ 0] G R (Bk b0_ 237 (Ab.k a0 g0_)::OwS true 240 4 As.c g0_.slots a0.slots::OwS true 3 1 eI g0_.free a0.free::OwM vS vI g0_.at_ a0.at_::OwS true 3 1 eI g0_.many a0.many::F)
  (Ret fun u R' L'=>u=vI r∧R'=R∧L'=Bk b0_ 237 (Ab.k a0 g0_)::OwS true 240 4 As.c g0_.slots a0.slots::OwS true 3 1 eI g0_.free a0.free::OwM vS vI g0_.at_ a0.at_::OwS true 3 1 eI g0_.many a0.many::F):=by
 unfold AI at hm
 refine co_ofN (N:=10) Tryz.func203 z z ?_
 refine csr ?_
 refine r_as z ?_
 refine nssr ?_
 refine r_mv z (r_bin z z (bP_eqp Tryz.underlying191) ?_)
 refine nsq ?_
 refine c_ff z ?_
 refine c_skip (x_seq (csr ?_))
 refine r_mv z (r_nc z (r_fa fa237_2 z (r_ld 0 sc234 z z z (r_u (o_lenO 2 Tryz.underlying234 z z) (r_as z ?_)))))
 refine r_nil (x_seq (c_ret ?_))
 subst hm
 exact x_r1 z (rv_t z) le_ ⟨_,z,z,z,z⟩
def AT(a0:Ab):Int :=
 a0.lists
theorem AT.ok{G R F}(b0_:Nat)(a0:Ab)(g0_:Ab.G)(r:Int)(hm:AT a0=r):CO Tryz.prog 204 [pt b0_ 0] G R (Bk b0_ 237 (Ab.k a0 g0_)::OwS true 240 4 As.c g0_.slots a0.slots::OwS true 3 1 eI g0_.free a0.free::OwM vS vI g0_.at_ a0.at_::OwS true 3 1 eI g0_.many a0.many::F)
  (Ret fun u R' L'=>u=vI r∧R'=R∧L'=Bk b0_ 237 (Ab.k a0 g0_)::OwS true 240 4 As.c g0_.slots a0.slots::OwS true 3 1 eI g0_.free a0.free::OwM vS vI g0_.at_ a0.at_::OwS true 3 1 eI g0_.many a0.many::F):=by
 unfold AT at hm
 refine co_ofN (N:=9) Tryz.func204 z z ?_
 refine csr ?_
 refine r_as z ?_
 refine nssr ?_
 refine r_mv z (r_bin z z (bP_eqp Tryz.underlying191) ?_)
 refine nsq ?_
 refine c_ff z ?_
 refine c_skip (x_seq (csr ?_))
 refine r_mv z (r_nc z (r_fa fa237_0 z (r_ld 0 sc3 z z z (r_as z ?_))))
 refine r_nil (x_seq (c_ret ?_))
 subst hm
 exact x_r1 z (rv_t z) le_ ⟨_,z,z,z,z⟩
def B2(x29:Ab):Nat→Int→Int→(List Int)→Option (Int×List Int)
 | 0,_,_,_=>none
 | k66+1,all_63,s_64,c_65=>if decide (s_64<4) then (Aq x29 s_64).bind fun r71=>if 0≤s_64∧s_64<4 then B2 x29 k66 (i64 (all_63+(at4 s_64 (pk4 s_64 0 r71 (c_65.getD 0 default)) (pk4 s_64 1 r71 (c_65.getD 1 default)) (pk4 s_64 2 r71 (c_65.getD 2 default)) (pk4 s_64 3 r71 (c_65.getD 3 default))))) (i64 (s_64+1)) [(pk4 s_64 0 r71 (c_65.getD 0 default)),(pk4 s_64 1 r71 (c_65.getD 1 default)),(pk4 s_64 2 r71 (c_65.getD 2 default)),(pk4 s_64 3 r71 (c_65.getD 3 default))] else none else some (all_63,c_65)
def Dw(a0:Aa):Option ((Option Ai×Aa)⊕(Int×Aa)) :=
 (Aj a0 1000).bind fun r0=>sm r0 (fun (ra2:UInt64×Aa)=>lt (An ra2.2 (decide (1≤(i64 (ra2.1.toNat:Int))))) fun r7=>sm r7 (fun (ra9:Unit)=>(Aj ra2.2 (toW (i64 (ra2.1.toNat:Int)))).bind fun r13=>sm r13 (fun (ra15:UInt64×Aa)=>(C6 ra15.2).bind fun r19=>sm r19 (fun (ra21:Option Ab×Aa)=>om ra21.1 (none) fun x29=>Option.bind (B2 x29 5 (AI x29) 0 [0,0,0,0]) fun p37=>if (((p37.1==(i64 ((i64 (2*(i64 (ra2.1.toNat:Int))))+1)))&&decide ((i64 ((p37.2.getD 0 default)+(p37.2.getD 1 default)))≤(i64 (ra2.1.toNat:Int))))&&decide ((i64 ((p37.2.getD 0 default)+(p37.2.getD 2 default)))≤(i64 (ra2.1.toNat:Int)))) then if decide ((i64 (p37.1-(AI x29)))≤(i64 (2*(i64 (ra2.1.toNat:Int))))) then lt (An ra21.2 ((AT x29)==4)) fun r45=>sm r45 (fun (ra47:Unit)=>some (Sum.inl ((some (⟨i64 (ra2.1.toNat:Int),i64 (ra15.1.toNat:Int),(some x29)⟩:Ai)),ra21.2))) fun ((rn48,ro49):Int×Unit)=>some (Sum.inr (rn48,ra21.2)) else lt (An ra21.2 false) fun r51=>sm r51 (fun (ra53:Unit)=>some (Sum.inl ((some (⟨i64 (ra2.1.toNat:Int),i64 (ra15.1.toNat:Int),(some x29)⟩:Ai)),ra21.2))) fun ((rn54,ro55):Int×Unit)=>some (Sum.inr (rn54,ra21.2)) else lt (An ra21.2 false) fun r57=>sm r57 (fun (ra59:Unit)=>some (Sum.inl ((some (⟨i64 (ra2.1.toNat:Int),i64 (ra15.1.toNat:Int),(some x29)⟩:Ai)),ra21.2))) fun ((rn60,ro61):Int×Unit)=>some (Sum.inr (rn60,ra21.2))) fun ((rn22,ro23):Int×Aa)=>some (Sum.inr (rn22,ro23))) fun ((rn16,ro17):Int×Aa)=>some (Sum.inr (rn16,ro17))) fun ((rn10,ro11):Int×Unit)=>some (Sum.inr (rn10,ra2.2))) fun ((rn3,ro4):Int×Aa)=>some (Sum.inr (rn3,ro4))
theorem Dw.ok{G R F}(b0_:Nat)(a0:Aa)(r:(Option Ai×Aa)⊕(Int×Aa))(hm:Dw a0=some r):CO Tryz.prog 155 [pt b0_ 0] G R (Bk b0_ 177 (Aa.c a0)::F)
  (PK 175 r (fun (a:Option Ai×Aa) u R' L'=>∃(p0:Value×Ai.G),u=p0.1∧R'=R∧L'=rO (Ai.op p0.2) p0.1 a.1::Bk b0_ 177 (Aa.c a.2)::F) (fun n (o:Aa) R' L'=>R'=R∧L'=Bk b0_ 177 (Aa.c o)::F)):=by
 unfold Dw at hm
 refine co_ofN (N:=116) Tryz.func155 z z ?_
 refine csr ?_
 refine r_as z ?_
 refine r_nil (x_seq (c_seq ?_))
 obtain ⟨r0,hr0,hm1⟩:=bs hm
 rcases r0 with ra2 | ⟨rn3,ro4⟩
 rotate_left
 ·have hm5:=sm_r hm1
  refine c_reg ?_
  refine r_mv z ?_
  obtain rfl:=si hm5
  exact r_sw (s_w (o_callR ca101 z (Aj.ok b0_ a0 1000 _ hr0) (by rintro _ _ _ ⟨rfl,rfl⟩;exact (px_st (pk 1 [0]) (px_of le_ (.inr ⟨_,z,_,z,z,z⟩)))))) (fun _ _ _ _ h=>h.elim)
 have hm5:=sm_l hm1
 refine c_reg ?_
 refine r_mv z ?_
 refine r_c (s_w (o_callL ca101 z (Aj.ok b0_ a0 1000 _ hr0) (fun _ _ _ h=>h))) ?_
 refine r_u (o_cv z (cWI Tryz.underlying22 Tryz.underlying3 ra2.1)) ?_
 refine r_u (o_bld [vI (i64 (ra2.1.toNat:Int)),vI 0,nl] z (fun _=>by kernel_rfl)) ?_
 refine r_new (o_bx [vI (i64 (ra2.1.toNat:Int)),vI 0,nl] z z) fun b6 => ?_
 refine r_as z ?_
 refine r_nil (x_seq (c_seq ?_))
 obtain ⟨r7,hr7,hm8⟩:=ltx hm5
 rcases r7 with ra9 | ⟨rn10,ro11⟩
 rotate_left
 ·have hm12:=sm_r hm8
  refine c_reg ?_
  refine r_mv z (r_mv z (r_nc z (r_fa fa193_0 z (r_ld 0 sc3 z z z (r_bin z z (bI_ge _ 1) ?_)))))
  refine rl_st (fun _ h=>mv1 h) ?_
  obtain rfl:=si hm12
  exact r_sw (s_w (o_callR ca102 z (An.ok b0_ _ _ _ hr7) (by rintro _ _ _ ⟨rfl,rfl⟩;exact (px_st (pk 2 [0]) (px_of le_ (.inr ⟨_,z,_,z,z,z⟩)))))) (fun _ _ _ _ h=>h.elim)
 have hm12:=sm_l hm8
 refine c_reg ?_
 refine r_mv z (r_mv z (r_nc z (r_fa fa193_0 z (r_ld 0 sc3 z z z (r_bin z z (bI_ge _ 1) ?_)))))
 refine rl_st (fun _ h=>mv1 h) ?_
 refine r_c (s_w (o_callL ca102 z (An.ok b0_ _ _ _ hr7) (fun _ _ _ h=>h))) ?_
 refine r_nil (x_seq (c_seq ?_))
 obtain ⟨r13,hr13,hm14⟩:=bs hm12
 rcases r13 with ra15 | ⟨rn16,ro17⟩
 rotate_left
 ·have hm18:=sm_r hm14
  refine c_reg ?_
  refine r_mv z (r_mv z (r_mv z (r_nc z (r_fa fa193_0 z (r_ld 1 sc3 z z z (r_u (o_cv z (cIW Tryz.underlying3 Tryz.underlying22 (i64 (ra2.1.toNat:Int)))) ?_))))))
  obtain rfl:=si hm18
  exact r_sw (s_w (o_callR ca101 z (Aj.ok b0_ _ _ _ hr13) (by rintro _ _ _ ⟨rfl,rfl⟩;exact (px_st (pk 2 [0]) (px_of le_ (.inr ⟨_,z,_,z,z,z⟩)))))) (fun _ _ _ _ h=>h.elim)
 have hm18:=sm_l hm14
 refine c_reg ?_
 refine r_mv z (r_mv z (r_mv z (r_nc z (r_fa fa193_0 z (r_ld 1 sc3 z z z (r_u (o_cv z (cIW Tryz.underlying3 Tryz.underlying22 (i64 (ra2.1.toNat:Int)))) ?_))))))
 refine r_c (s_w (o_callL ca101 z (Aj.ok b0_ _ _ _ hr13) (fun _ _ _ h=>h))) ?_
 refine r_u (o_cv z (cWI Tryz.underlying22 Tryz.underlying3 ra15.1)) (r_nc z (r_fa fa193_1 z ?_))
 refine rl_st (fun _ h=>mv1 h) ?_
 refine r_u0 (o_st sc3 z z z z z z) ?_
 refine r_nil (x_seq (c_seq ?_))
 obtain ⟨r19,hr19,hm20⟩:=bs hm18
 rcases r19 with ra21 | ⟨rn22,ro23⟩
 rotate_left
 ·have hm24:=sm_r hm20
  refine c_reg ?_
  refine r_mv z (r_mv z ?_)
  refine rl_st (fun _ h=>mv1 h) ?_
  obtain rfl:=si hm24
  exact r_sw (s_w (o_callR ca202 z (C6.ok b0_ _ _ hr19) (by rintro _ _ _ ⟨rfl,rfl⟩;exact (px_st (pk 2 [0]) (px_of le_ (.inr ⟨_,z,_,z,z,z⟩)))))) (fun _ _ _ _ h=>h.elim)
 have hm24:=sm_l hm20
 refine c_reg ?_
 refine r_mv z (r_mv z ?_)
 refine rl_st (fun _ h=>mv1 h) ?_
 refine r_sw (s_w (o_callL ca202 z (C6.ok b0_ _ _ hr19) (fun _ _ _ h=>h))) ?_
 rintro pv26 R _ _ ⟨⟨_,g27⟩,rfl,rfl,rfl⟩
 refine r_nc z (r_fa fa193_2 z ?_)
 refine rl_st (fun _ h=>mv2 h) ?_
 refine r_u0 (ou_if (one_p 1 z) fun ho0=>o_st sc191 z z z ho0 z z) ?_
 refine nsr ?_
 refine r_u (o_bld [vI 0,vI 0,vI 0,vI 0] z (fun _=>by kernel_rfl)) ?_
 refine r_new (o_al ze273) fun b28 => ?_
 refine r_u0 (o_stn ag273 z z z z z z z) ?_
 refine r_nil (x_seq (c_seq ?_))
 refine cd_st (fun _ h=>mv2 h) ?_
 refine cd_opt (fun ho31 => ?_) (fun x29 b30 ho31 => ?_)
 ·rintro rfl
  have hm32:=om_n hm24 ho31
  cases hm32
 rintro rfl
 have hm32:=om_s hm24 ho31
 refine cd_st (fun _ h=>st_star_o h) ?_
 refine c_reg ?_
 refine r_mv z (r_nc z (r_fa fa193_2 z (r_ld 6 sc191 z z z ?_)))
 refine r_c (s_w (o_call ca203 z (AI.ok b30 x29 g27 _ z))) ?_
 refine r_as z ?_
 refine nssr ?_
 refine r_mv z ?_
 refine nsq ?_
 obtain ⟨p37,hp38,hm39⟩:=bs hm32
 refine cd_join (E':=[(0,pt b0_ 0),(3,pt b6 0),(4,pt b28 0),(5,vI p37.1)]) (L':=Bk b30 237 (Ab.k x29 g27)::Bk b28 273 [vI (p37.2.getD 0 default),vI (p37.2.getD 1 default),vI (p37.2.getD 2 default),vI (p37.2.getD 3 default)]::Bk b6 193 [vI (i64 (ra2.1.toNat:Int)),vI (i64 (ra15.1.toNat:Int)),pt b30 0]::Bk b0_ 177 (Aa.c ra21.2)::OwS true 240 4 As.c g27.slots x29.slots::OwS true 3 1 eI g27.free x29.free::OwM vS vI g27.at_ x29.at_::OwS true 3 1 eI g27.many x29.many::F) ?_ fun K40 => ?_
 rotate_left
 ·refine c_blk ?_
  refine cd_loop (M:=fun k66 (s:Int×Int×List Int)=>B2 x29 k66 s.1 s.2.1 s.2.2=some p37) (Ef:=fun (s:Int×Int×List Int)=>[(0,pt b0_ 0),(3,pt b6 0),(4,pt b28 0),(5,vI s.1),(41,vI s.2.1)]) (Lf:=fun (s:Int×Int×List Int)=>Bk b30 237 (Ab.k x29 g27)::Bk b28 273 [vI (s.2.2.getD 0 default),vI (s.2.2.getD 1 default),vI (s.2.2.getD 2 default),vI (s.2.2.getD 3 default)]::Bk b6 193 [vI (i64 (ra2.1.toNat:Int)),vI (i64 (ra15.1.toNat:Int)),pt b30 0]::Bk b0_ 177 (Aa.c ra21.2)::OwS true 240 4 As.c g27.slots x29.slots::OwS true 3 1 eI g27.free x29.free::OwM vS vI g27.at_ x29.at_::OwS true 3 1 eI g27.many x29.many::F) 5 ((AI x29),0,[0,0,0,0]) hp38 ⟨z,z,z,z,z,trivial⟩ (pk 8 [0,5,6,7,1,2,3,4]) (fun _ h=>by cases h) fun k66 s hM68 => ?_
  obtain ⟨all_63,s_64,c_65⟩:=s
  have hm67:B2 x29 (k66+1) all_63 s_64 c_65=some p37:=hM68
  rw [B2] at hm67
  refine csr ?_
  refine r_bin z z (bI_lt _ 4) ?_
  refine r_nil (x_seq (c_seq ?_))
  refine c_if (b:=decide (s_64<4)) z (fun h69 => ?_) fun h69 => ?_
  rotate_left
  ·have hm70:=iff_ hm67 h69
   refine c_exit (x_exit (ks':=_) z ?_)
   obtain rfl:=si hm70
   exact x_sub K40 ⟨z,z,z,z,trivial⟩ (pk 8 [0,1,2,3,4,5,6,7])
  have hm70:=ift hm67 h69
  refine c_skip (x_seq (c_seq (c_blk (csr ?_))))
  refine r_mv z (r_as z ?_)
  refine nsr ?_
  refine r_mv z (r_mv z (r_nc z (r_fa fa193_2 z (r_ld 2 sc191 z z z (r_mv z ?_)))))
  obtain ⟨r71,hr71,hm72⟩:=bs hm70
  refine rl_st (fun _ h=>mv4 (mv7 (mv7 (mv7 (mv7 h))))) ?_
  refine r_c (s_w (o_call ca164 z (Aq.ok b30 _ g27 _ _ hr71))) ?_
  obtain ⟨h73,hm74⟩:=ig hm72
  refine r_u (o_ixA (sz:=1) Tryz.underlying273 (fun _=>by kernel_rfl) z z h73) ?_
  refine rl_st (fun _ h=>mv5 h) ?_
  refine r_u0 (o_stV4 sc3 z z z h73) ?_
  refine r_nil (x_seq (c_reg ?_))
  refine r_mv z (r_mv z ?_)
  refine r_u (o_ixA (sz:=1) Tryz.underlying273 (fun _=>by kernel_rfl) z z h73) ?_
  refine r_u (o_ldV4 0 sc3 z z h73) (r_bin z z (bI_add _ _) (r_as z ?_))
  refine r_nil (x_blk (x_seq (c_reg ?_)))
  refine r_bin z z (bI_add _ 1) (r_mv z ?_)
  refine r_nil ?_
  exact x_lp (i64 (all_63+(at4 s_64 (pk4 s_64 0 r71 (c_65.getD 0 default)) (pk4 s_64 1 r71 (c_65.getD 1 default)) (pk4 s_64 2 r71 (c_65.getD 2 default)) (pk4 s_64 3 r71 (c_65.getD 3 default)))),i64 (s_64+1),[(pk4 s_64 0 r71 (c_65.getD 0 default)),(pk4 s_64 1 r71 (c_65.getD 1 default)),(pk4 s_64 2 r71 (c_65.getD 2 default)),(pk4 s_64 3 r71 (c_65.getD 3 default))]) hm74 ⟨z,z,z,z,z,trivial⟩ (pk 8 [1,0,6,7,2,3,4,5])
 refine x_seq (c_seq ?_)
 refine cd_by (((p37.1==(i64 ((i64 (2*(i64 (ra2.1.toNat:Int))))+1)))&&decide ((i64 ((p37.2.getD 0 default)+(p37.2.getD 1 default)))≤(i64 (ra2.1.toNat:Int))))&&decide ((i64 ((p37.2.getD 0 default)+(p37.2.getD 2 default)))≤(i64 (ra2.1.toNat:Int)))) (fun h41 => ?_) fun h41 => ?_
 rotate_left
 ·have hm42:=iff_ hm39 h41
  obtain ⟨r57,hr57,hm58⟩:=ltx hm42
  rcases r57 with ra59 | ⟨rn60,ro61⟩
  rotate_left
  ·have hm62:=sm_r hm58
   refine c_any mixed (effs:=[56]) (V:=[]) ?_
   refine stage_st (fun _ h=>mv3 h) ?_
   refine stn mk6_ [0,1,2,3,4,5,6,7,8,9,10,11,12,13,14,15,16,17,18,19,20,21,22,23,24,25,26,27,28,29,30,31,32,33,34,35,36,37,38,39,40,41,42,43,44,45,46,47,48,49,50,51,52,53,54,55] [56] [_,_,_,_,_,_,_,_,_,_,_,_,_,_,_,_,_,_,_,_,_,_,_,_,_,_,_,_,_,_,_,_,_,_,_,_,_,_,_,_,_,_,_,_,_,_,_,_,_,_,_,_,_,_,_,_] (q_mv z z z (q_mv z z z (q_mv z z z (q_u z z (o_nc z) (q_fa z z fa193_0 z (q_ld z z 3 sc3 z z z (q_u z z (o_bin z z (bI_mul 2 _)) (q_u z z (o_bin z z (bI_add _ 1)) (q_u z z (o_bin z z (bI_eq _ _)) (q_mv z z z (qc z z (s_gt z z fun g=>o_ixA (sz:=1) (n:=4) (i:=0) Tryz.underlying273 (fun _=>by kernel_rfl) z z (by decide)) (qc z z (s_gt z z fun g=>o_ld 2 sc3 (evg z g) z z) (qc z z (s_gt z z fun g=>o_ixA (sz:=1) (n:=4) (i:=1) Tryz.underlying273 (fun _=>by kernel_rfl) z z (by decide)) (qc z z (s_gt z z fun g=>o_ld 2 sc3 (evg z g) z z) (qc z z (s_gt z z fun g=>o_bin (evg z g) (evg z g) (bI_add _ _)) (qc z z (s_gt z z fun g=>o_mv z) (qc z z (s_gt z z fun g=>o_nc (evg z g)) (qc z z (s_gt z z fun g=>o_fa fa193_0 (evg z g)) (qc z z (s_gt z z fun g=>o_ld 3 sc3 (evg z g) z z) (qc z z (s_gt z z fun g=>o_bin (evg z g) (evg z g) (bI_le _ _)) (q_u z z (o_and z z) (q_mv z z z (qc z z (s_gt z z fun g=>o_ixA (sz:=1) (n:=4) (i:=0) Tryz.underlying273 (fun _=>by kernel_rfl) z z (by decide)) (qc z z (s_gt z z fun g=>o_ld 2 sc3 (evg z g) z z) (qc z z (s_gt z z fun g=>o_ixA (sz:=1) (n:=4) (i:=2) Tryz.underlying273 (fun _=>by kernel_rfl) z z (by decide)) (qc z z (s_gt z z fun g=>o_ld 2 sc3 (evg z g) z z) (qc z z (s_gt z z fun g=>o_bin (evg z g) (evg z g) (bI_add _ _)) (qc z z (s_gt z z fun g=>o_mv z) (qc z z (s_gt z z fun g=>o_nc (evg z g)) (qc z z (s_gt z z fun g=>o_fa fa193_0 (evg z g)) (qc z z (s_gt z z fun g=>o_ld 3 sc3 (evg z g) z z) (qc z z (s_gt z z fun g=>o_bin (evg z g) (evg z g) (bI_le _ _)) (q_u z z (o_and z z) (q_mv z z z (q_n z z z z h41 (q_n z z z z h41 (q_n z z z z h41 (q_n z z z z h41 (q_n z z z z h41 (q_n z z z z h41 (q_n z z z z h41 (q_n z z z z h41 (q_n z z z z h41 (q_n z z z z h41 (q_n z z z z h41 (q_n z z z z h41 (q_n z z z z h41 (q_u z z (o_pf z h41 z) (q_mv z z z (q_n z z z z z (q_n z z z z z (q_n z z z z z (q_n z z z z z (q_n z z z z z (q_n z z z z z (q_u z z (o_pf z z z) qn)))))))))))))))))))))))))))))))))))))))))))))))))))))))) ?_ (nxt z)
   obtain rfl:=si hm62
   exact ec (eo_w z (s_w (o_callR ca102 z (An.ok b0_ _ _ _ hr57) (by rintro _ _ _ ⟨rfl,rfl⟩;exact (px_st (pk 8 [0]) (px_of le_ (.inr ⟨_,z,_,z,z,z⟩)))))) (fun _ _ _ _ h=>h.elim)) en
  have hm62:=sm_l hm58
  refine c_any mixed (effs:=[56]) (V:=[]) ?_
  refine stage_st (fun _ h=>mv3 h) ?_
  refine stn mk6_ [0,1,2,3,4,5,6,7,8,9,10,11,12,13,14,15,16,17,18,19,20,21,22,23,24,25,26,27,28,29,30,31,32,33,34,35,36,37,38,39,40,41,42,43,44,45,46,47,48,49,50,51,52,53,54,55] [56] [_,_,_,_,_,_,_,_,_,_,_,_,_,_,_,_,_,_,_,_,_,_,_,_,_,_,_,_,_,_,_,_,_,_,_,_,_,_,_,_,_,_,_,_,_,_,_,_,_,_,_,_,_,_,_,_] (q_mv z z z (q_mv z z z (q_mv z z z (q_u z z (o_nc z) (q_fa z z fa193_0 z (q_ld z z 3 sc3 z z z (q_u z z (o_bin z z (bI_mul 2 _)) (q_u z z (o_bin z z (bI_add _ 1)) (q_u z z (o_bin z z (bI_eq _ _)) (q_mv z z z (qc z z (s_gt z z fun g=>o_ixA (sz:=1) (n:=4) (i:=0) Tryz.underlying273 (fun _=>by kernel_rfl) z z (by decide)) (qc z z (s_gt z z fun g=>o_ld 2 sc3 (evg z g) z z) (qc z z (s_gt z z fun g=>o_ixA (sz:=1) (n:=4) (i:=1) Tryz.underlying273 (fun _=>by kernel_rfl) z z (by decide)) (qc z z (s_gt z z fun g=>o_ld 2 sc3 (evg z g) z z) (qc z z (s_gt z z fun g=>o_bin (evg z g) (evg z g) (bI_add _ _)) (qc z z (s_gt z z fun g=>o_mv z) (qc z z (s_gt z z fun g=>o_nc (evg z g)) (qc z z (s_gt z z fun g=>o_fa fa193_0 (evg z g)) (qc z z (s_gt z z fun g=>o_ld 3 sc3 (evg z g) z z) (qc z z (s_gt z z fun g=>o_bin (evg z g) (evg z g) (bI_le _ _)) (q_u z z (o_and z z) (q_mv z z z (qc z z (s_gt z z fun g=>o_ixA (sz:=1) (n:=4) (i:=0) Tryz.underlying273 (fun _=>by kernel_rfl) z z (by decide)) (qc z z (s_gt z z fun g=>o_ld 2 sc3 (evg z g) z z) (qc z z (s_gt z z fun g=>o_ixA (sz:=1) (n:=4) (i:=2) Tryz.underlying273 (fun _=>by kernel_rfl) z z (by decide)) (qc z z (s_gt z z fun g=>o_ld 2 sc3 (evg z g) z z) (qc z z (s_gt z z fun g=>o_bin (evg z g) (evg z g) (bI_add _ _)) (qc z z (s_gt z z fun g=>o_mv z) (qc z z (s_gt z z fun g=>o_nc (evg z g)) (qc z z (s_gt z z fun g=>o_fa fa193_0 (evg z g)) (qc z z (s_gt z z fun g=>o_ld 3 sc3 (evg z g) z z) (qc z z (s_gt z z fun g=>o_bin (evg z g) (evg z g) (bI_le _ _)) (q_u z z (o_and z z) (q_mv z z z (q_n z z z z h41 (q_n z z z z h41 (q_n z z z z h41 (q_n z z z z h41 (q_n z z z z h41 (q_n z z z z h41 (q_n z z z z h41 (q_n z z z z h41 (q_n z z z z h41 (q_n z z z z h41 (q_n z z z z h41 (q_n z z z z h41 (q_n z z z z h41 (q_u z z (o_pf z h41 z) (q_mv z z z (q_n z z z z z (q_n z z z z z (q_n z z z z z (q_n z z z z z (q_n z z z z z (q_n z z z z z (q_u z z (o_pf z z z) qn)))))))))))))))))))))))))))))))))))))))))))))))))))))))) ?_ (nxt z)
  refine ec (eo_c z (s_w (o_callL ca102 z (An.ok b0_ _ _ _ hr57) (fun _ _ _ h=>h))) ?_) en
  refine stage z z z z mk6_ [] [] z z z qn en ?_
  intro _
  refine ex_sub (E':=[(3,pt b6 0)]) ⟨z,trivial⟩ ?_
  refine x_seq (csr ?_)
  refine r_mv z (r_as z ?_)
  refine r_nil (x_seq (c_ret ?_))
  refine ex_st (fun _ h=>mv5 (mv7 (mv7 (mv7 (mv7 h))))) ?_
  refine ex_st (fun _ h=>st_some (f:=Ab.op g27) (a:=x29) (st_star_f (A:=Ab.fl b30 x29 g27) h)) ?_
  refine ex_st (fun _ h=>mv3 h) ?_
  refine ex_st (fun _ h=>st_some (f:=Ai.op (⟨(pt b30 0,g27)⟩:Ai.G)) (a:=(⟨i64 (ra2.1.toNat:Int),i64 (ra15.1.toNat:Int),(some x29)⟩:Ai)) (st_star_f (A:=Ai.fl b6 (⟨i64 (ra2.1.toNat:Int),i64 (ra15.1.toNat:Int),(some x29)⟩:Ai) (⟨(pt b30 0,g27)⟩:Ai.G)) h)) ?_
  obtain rfl:=si hm62
  refine ex_st (pk 3 [0,1]) ?_
  exact x_r1 z (rv_t z) le_ (.inl ⟨_,z,_,z,(pt b6 0,(⟨(pt b30 0,g27)⟩:Ai.G)),z,z,z⟩)
 have hm42:=ift hm39 h41
 refine cd_by (decide ((i64 (p37.1-(AI x29)))≤(i64 (2*(i64 (ra2.1.toNat:Int)))))) (fun h43 => ?_) fun h43 => ?_
 ·have hm44:=ift hm42 h43
  obtain ⟨r45,hr45,hm46⟩:=ltx hm44
  rcases r45 with ra47 | ⟨rn48,ro49⟩
  rotate_left
  ·have hm50:=sm_r hm46
   refine c_any mixed (effs:=[56]) (V:=[]) ?_
   refine stage_st (fun _ h=>mv3 h) ?_
   refine stn mk6_ [0,1,2,3,4,5,6,7,8,9,10,11,12,13,14,15,16,17,18,19,20,21,22,23,24,25,26,27,28,29,30,31,32,33,34,35,36,37,38,39,40,41,42,43,44,45,46,47,48,49,50,51,52,53,54,55] [56] [_,_,_,_,_,_,_,_,_,_,_,_,_,_,_,_,_,_,_,_,_,_,_,_,_,_,_,_,_,_,_,_,_,_,_,_,_,_,_,_,_,_,_,_,_,_,_,_,_,_,_,_,_,_,_,_] (q_mv z z z (q_mv z z z (q_mv z z z (q_u z z (o_nc z) (q_fa z z fa193_0 z (q_ld z z 3 sc3 z z z (q_u z z (o_bin z z (bI_mul 2 _)) (q_u z z (o_bin z z (bI_add _ 1)) (q_u z z (o_bin z z (bI_eq _ _)) (q_mv z z z (qc z z (s_gt z z fun g=>o_ixA (sz:=1) (n:=4) (i:=0) Tryz.underlying273 (fun _=>by kernel_rfl) z z (by decide)) (qc z z (s_gt z z fun g=>o_ld 2 sc3 (evg z g) z z) (qc z z (s_gt z z fun g=>o_ixA (sz:=1) (n:=4) (i:=1) Tryz.underlying273 (fun _=>by kernel_rfl) z z (by decide)) (qc z z (s_gt z z fun g=>o_ld 2 sc3 (evg z g) z z) (qc z z (s_gt z z fun g=>o_bin (evg z g) (evg z g) (bI_add _ _)) (qc z z (s_gt z z fun g=>o_mv z) (qc z z (s_gt z z fun g=>o_nc (evg z g)) (qc z z (s_gt z z fun g=>o_fa fa193_0 (evg z g)) (qc z z (s_gt z z fun g=>o_ld 3 sc3 (evg z g) z z) (qc z z (s_gt z z fun g=>o_bin (evg z g) (evg z g) (bI_le _ _)) (q_u z z (o_and z z) (q_mv z z z (qc z z (s_gt z z fun g=>o_ixA (sz:=1) (n:=4) (i:=0) Tryz.underlying273 (fun _=>by kernel_rfl) z z (by decide)) (qc z z (s_gt z z fun g=>o_ld 2 sc3 (evg z g) z z) (qc z z (s_gt z z fun g=>o_ixA (sz:=1) (n:=4) (i:=2) Tryz.underlying273 (fun _=>by kernel_rfl) z z (by decide)) (qc z z (s_gt z z fun g=>o_ld 2 sc3 (evg z g) z z) (qc z z (s_gt z z fun g=>o_bin (evg z g) (evg z g) (bI_add _ _)) (qc z z (s_gt z z fun g=>o_mv z) (qc z z (s_gt z z fun g=>o_nc (evg z g)) (qc z z (s_gt z z fun g=>o_fa fa193_0 (evg z g)) (qc z z (s_gt z z fun g=>o_ld 3 sc3 (evg z g) z z) (qc z z (s_gt z z fun g=>o_bin (evg z g) (evg z g) (bI_le _ _)) (q_u z z (o_and z z) (q_mv z z z (q_y z z z z h41 (o_mv z) (q_y z z z z h41 (o_mv z) (q_y z z z z h41 (o_nc z) (q_y z z z z h41 (o_fa fa193_2 z) (q_y z z z z h41 (o_ld 3 sc191 z z z) (q_y z z z z h41 (o_callqP ca203 z (AI.ok b30 x29 g27 _ z) (pk 8 [1,4,5,6,7,0,2,3]) (pk 8 [5,0,6,7,1,2,3,4])) (q_y z z z z h41 (o_bin z z (bI_sub _ _)) (q_y z z z z h41 (o_mv z) (q_y z z z z h41 (o_nc z) (q_y z z z z h41 (o_fa fa193_0 z) (q_y z z z z h41 (o_ld 3 sc3 z z z) (q_y z z z z h41 (o_bin z z (bI_mul 2 _)) (q_y z z z z h41 (o_bin z z (bI_le _ _)) (q_u z z (o_pt z h41 z) (q_mv z z z (q_y z z z z h43 (o_mv z) (q_y z z z z h43 (o_nc z) (q_y z z z z h43 (o_fa fa193_2 z) (q_y z z z z h43 (o_ld 3 sc191 z z z) (q_y z z z z h43 (o_callqP ca204 z (AT.ok b30 x29 g27 _ z) (pk 8 [1,4,5,6,7,0,2,3]) (pk 8 [5,0,6,7,1,2,3,4])) (q_y z z z z h43 (o_bin z z (bI_eq _ 4)) (q_u z z (o_pt z h43 z) qn)))))))))))))))))))))))))))))))))))))))))))))))))))))))) ?_ (nxt z)
   obtain rfl:=si hm50
   exact ec (eo_w z (s_w (o_callR ca102 z (An.ok b0_ _ _ _ hr45) (by rintro _ _ _ ⟨rfl,rfl⟩;exact (px_st (pk 8 [0]) (px_of le_ (.inr ⟨_,z,_,z,z,z⟩)))))) (fun _ _ _ _ h=>h.elim)) en
  have hm50:=sm_l hm46
  refine c_any mixed (effs:=[56]) (V:=[]) ?_
  refine stage_st (fun _ h=>mv3 h) ?_
  refine stn mk6_ [0,1,2,3,4,5,6,7,8,9,10,11,12,13,14,15,16,17,18,19,20,21,22,23,24,25,26,27,28,29,30,31,32,33,34,35,36,37,38,39,40,41,42,43,44,45,46,47,48,49,50,51,52,53,54,55] [56] [_,_,_,_,_,_,_,_,_,_,_,_,_,_,_,_,_,_,_,_,_,_,_,_,_,_,_,_,_,_,_,_,_,_,_,_,_,_,_,_,_,_,_,_,_,_,_,_,_,_,_,_,_,_,_,_] (q_mv z z z (q_mv z z z (q_mv z z z (q_u z z (o_nc z) (q_fa z z fa193_0 z (q_ld z z 3 sc3 z z z (q_u z z (o_bin z z (bI_mul 2 _)) (q_u z z (o_bin z z (bI_add _ 1)) (q_u z z (o_bin z z (bI_eq _ _)) (q_mv z z z (qc z z (s_gt z z fun g=>o_ixA (sz:=1) (n:=4) (i:=0) Tryz.underlying273 (fun _=>by kernel_rfl) z z (by decide)) (qc z z (s_gt z z fun g=>o_ld 2 sc3 (evg z g) z z) (qc z z (s_gt z z fun g=>o_ixA (sz:=1) (n:=4) (i:=1) Tryz.underlying273 (fun _=>by kernel_rfl) z z (by decide)) (qc z z (s_gt z z fun g=>o_ld 2 sc3 (evg z g) z z) (qc z z (s_gt z z fun g=>o_bin (evg z g) (evg z g) (bI_add _ _)) (qc z z (s_gt z z fun g=>o_mv z) (qc z z (s_gt z z fun g=>o_nc (evg z g)) (qc z z (s_gt z z fun g=>o_fa fa193_0 (evg z g)) (qc z z (s_gt z z fun g=>o_ld 3 sc3 (evg z g) z z) (qc z z (s_gt z z fun g=>o_bin (evg z g) (evg z g) (bI_le _ _)) (q_u z z (o_and z z) (q_mv z z z (qc z z (s_gt z z fun g=>o_ixA (sz:=1) (n:=4) (i:=0) Tryz.underlying273 (fun _=>by kernel_rfl) z z (by decide)) (qc z z (s_gt z z fun g=>o_ld 2 sc3 (evg z g) z z) (qc z z (s_gt z z fun g=>o_ixA (sz:=1) (n:=4) (i:=2) Tryz.underlying273 (fun _=>by kernel_rfl) z z (by decide)) (qc z z (s_gt z z fun g=>o_ld 2 sc3 (evg z g) z z) (qc z z (s_gt z z fun g=>o_bin (evg z g) (evg z g) (bI_add _ _)) (qc z z (s_gt z z fun g=>o_mv z) (qc z z (s_gt z z fun g=>o_nc (evg z g)) (qc z z (s_gt z z fun g=>o_fa fa193_0 (evg z g)) (qc z z (s_gt z z fun g=>o_ld 3 sc3 (evg z g) z z) (qc z z (s_gt z z fun g=>o_bin (evg z g) (evg z g) (bI_le _ _)) (q_u z z (o_and z z) (q_mv z z z (q_y z z z z h41 (o_mv z) (q_y z z z z h41 (o_mv z) (q_y z z z z h41 (o_nc z) (q_y z z z z h41 (o_fa fa193_2 z) (q_y z z z z h41 (o_ld 3 sc191 z z z) (q_y z z z z h41 (o_callqP ca203 z (AI.ok b30 x29 g27 _ z) (pk 8 [1,4,5,6,7,0,2,3]) (pk 8 [5,0,6,7,1,2,3,4])) (q_y z z z z h41 (o_bin z z (bI_sub _ _)) (q_y z z z z h41 (o_mv z) (q_y z z z z h41 (o_nc z) (q_y z z z z h41 (o_fa fa193_0 z) (q_y z z z z h41 (o_ld 3 sc3 z z z) (q_y z z z z h41 (o_bin z z (bI_mul 2 _)) (q_y z z z z h41 (o_bin z z (bI_le _ _)) (q_u z z (o_pt z h41 z) (q_mv z z z (q_y z z z z h43 (o_mv z) (q_y z z z z h43 (o_nc z) (q_y z z z z h43 (o_fa fa193_2 z) (q_y z z z z h43 (o_ld 3 sc191 z z z) (q_y z z z z h43 (o_callqP ca204 z (AT.ok b30 x29 g27 _ z) (pk 8 [1,4,5,6,7,0,2,3]) (pk 8 [5,0,6,7,1,2,3,4])) (q_y z z z z h43 (o_bin z z (bI_eq _ 4)) (q_u z z (o_pt z h43 z) qn)))))))))))))))))))))))))))))))))))))))))))))))))))))))) ?_ (nxt z)
  refine ec (eo_c z (s_w (o_callL ca102 z (An.ok b0_ _ _ _ hr45) (fun _ _ _ h=>h))) ?_) en
  refine stage z z z z mk6_ [] [] z z z qn en ?_
  intro _
  refine ex_sub (E':=[(3,pt b6 0)]) ⟨z,trivial⟩ ?_
  refine x_seq (csr ?_)
  refine r_mv z (r_as z ?_)
  refine r_nil (x_seq (c_ret ?_))
  refine ex_st (fun _ h=>mv5 (mv7 (mv7 (mv7 (mv7 h))))) ?_
  refine ex_st (fun _ h=>st_some (f:=Ab.op g27) (a:=x29) (st_star_f (A:=Ab.fl b30 x29 g27) h)) ?_
  refine ex_st (fun _ h=>mv3 h) ?_
  refine ex_st (fun _ h=>st_some (f:=Ai.op (⟨(pt b30 0,g27)⟩:Ai.G)) (a:=(⟨i64 (ra2.1.toNat:Int),i64 (ra15.1.toNat:Int),(some x29)⟩:Ai)) (st_star_f (A:=Ai.fl b6 (⟨i64 (ra2.1.toNat:Int),i64 (ra15.1.toNat:Int),(some x29)⟩:Ai) (⟨(pt b30 0,g27)⟩:Ai.G)) h)) ?_
  obtain rfl:=si hm50
  refine ex_st (pk 3 [0,1]) ?_
  exact x_r1 z (rv_t z) le_ (.inl ⟨_,z,_,z,(pt b6 0,(⟨(pt b30 0,g27)⟩:Ai.G)),z,z,z⟩)
 have hm44:=iff_ hm42 h43
 obtain ⟨r51,hr51,hm52⟩:=ltx hm44
 rcases r51 with ra53 | ⟨rn54,ro55⟩
 rotate_left
 ·have hm56:=sm_r hm52
  refine c_any mixed (effs:=[56]) (V:=[]) ?_
  refine stage_st (fun _ h=>mv3 h) ?_
  refine stn mk6_ [0,1,2,3,4,5,6,7,8,9,10,11,12,13,14,15,16,17,18,19,20,21,22,23,24,25,26,27,28,29,30,31,32,33,34,35,36,37,38,39,40,41,42,43,44,45,46,47,48,49,50,51,52,53,54,55] [56] [_,_,_,_,_,_,_,_,_,_,_,_,_,_,_,_,_,_,_,_,_,_,_,_,_,_,_,_,_,_,_,_,_,_,_,_,_,_,_,_,_,_,_,_,_,_,_,_,_,_,_,_,_,_,_,_] (q_mv z z z (q_mv z z z (q_mv z z z (q_u z z (o_nc z) (q_fa z z fa193_0 z (q_ld z z 3 sc3 z z z (q_u z z (o_bin z z (bI_mul 2 _)) (q_u z z (o_bin z z (bI_add _ 1)) (q_u z z (o_bin z z (bI_eq _ _)) (q_mv z z z (qc z z (s_gt z z fun g=>o_ixA (sz:=1) (n:=4) (i:=0) Tryz.underlying273 (fun _=>by kernel_rfl) z z (by decide)) (qc z z (s_gt z z fun g=>o_ld 2 sc3 (evg z g) z z) (qc z z (s_gt z z fun g=>o_ixA (sz:=1) (n:=4) (i:=1) Tryz.underlying273 (fun _=>by kernel_rfl) z z (by decide)) (qc z z (s_gt z z fun g=>o_ld 2 sc3 (evg z g) z z) (qc z z (s_gt z z fun g=>o_bin (evg z g) (evg z g) (bI_add _ _)) (qc z z (s_gt z z fun g=>o_mv z) (qc z z (s_gt z z fun g=>o_nc (evg z g)) (qc z z (s_gt z z fun g=>o_fa fa193_0 (evg z g)) (qc z z (s_gt z z fun g=>o_ld 3 sc3 (evg z g) z z) (qc z z (s_gt z z fun g=>o_bin (evg z g) (evg z g) (bI_le _ _)) (q_u z z (o_and z z) (q_mv z z z (qc z z (s_gt z z fun g=>o_ixA (sz:=1) (n:=4) (i:=0) Tryz.underlying273 (fun _=>by kernel_rfl) z z (by decide)) (qc z z (s_gt z z fun g=>o_ld 2 sc3 (evg z g) z z) (qc z z (s_gt z z fun g=>o_ixA (sz:=1) (n:=4) (i:=2) Tryz.underlying273 (fun _=>by kernel_rfl) z z (by decide)) (qc z z (s_gt z z fun g=>o_ld 2 sc3 (evg z g) z z) (qc z z (s_gt z z fun g=>o_bin (evg z g) (evg z g) (bI_add _ _)) (qc z z (s_gt z z fun g=>o_mv z) (qc z z (s_gt z z fun g=>o_nc (evg z g)) (qc z z (s_gt z z fun g=>o_fa fa193_0 (evg z g)) (qc z z (s_gt z z fun g=>o_ld 3 sc3 (evg z g) z z) (qc z z (s_gt z z fun g=>o_bin (evg z g) (evg z g) (bI_le _ _)) (q_u z z (o_and z z) (q_mv z z z (q_y z z z z h41 (o_mv z) (q_y z z z z h41 (o_mv z) (q_y z z z z h41 (o_nc z) (q_y z z z z h41 (o_fa fa193_2 z) (q_y z z z z h41 (o_ld 3 sc191 z z z) (q_y z z z z h41 (o_callqP ca203 z (AI.ok b30 x29 g27 _ z) (pk 8 [1,4,5,6,7,0,2,3]) (pk 8 [5,0,6,7,1,2,3,4])) (q_y z z z z h41 (o_bin z z (bI_sub _ _)) (q_y z z z z h41 (o_mv z) (q_y z z z z h41 (o_nc z) (q_y z z z z h41 (o_fa fa193_0 z) (q_y z z z z h41 (o_ld 3 sc3 z z z) (q_y z z z z h41 (o_bin z z (bI_mul 2 _)) (q_y z z z z h41 (o_bin z z (bI_le _ _)) (q_u z z (o_pt z h41 z) (q_mv z z z (q_n z z z z h43 (q_n z z z z h43 (q_n z z z z h43 (q_n z z z z h43 (q_n z z z z h43 (q_n z z z z h43 (q_u z z (o_pf z h43 z) qn)))))))))))))))))))))))))))))))))))))))))))))))))))))))) ?_ (nxt z)
  obtain rfl:=si hm56
  exact ec (eo_w z (s_w (o_callR ca102 z (An.ok b0_ _ _ _ hr51) (by rintro _ _ _ ⟨rfl,rfl⟩;exact (px_st (pk 8 [0]) (px_of le_ (.inr ⟨_,z,_,z,z,z⟩)))))) (fun _ _ _ _ h=>h.elim)) en
 have hm56:=sm_l hm52
 refine c_any mixed (effs:=[56]) (V:=[]) ?_
 refine stage_st (fun _ h=>mv3 h) ?_
 refine stn mk6_ [0,1,2,3,4,5,6,7,8,9,10,11,12,13,14,15,16,17,18,19,20,21,22,23,24,25,26,27,28,29,30,31,32,33,34,35,36,37,38,39,40,41,42,43,44,45,46,47,48,49,50,51,52,53,54,55] [56] [_,_,_,_,_,_,_,_,_,_,_,_,_,_,_,_,_,_,_,_,_,_,_,_,_,_,_,_,_,_,_,_,_,_,_,_,_,_,_,_,_,_,_,_,_,_,_,_,_,_,_,_,_,_,_,_] (q_mv z z z (q_mv z z z (q_mv z z z (q_u z z (o_nc z) (q_fa z z fa193_0 z (q_ld z z 3 sc3 z z z (q_u z z (o_bin z z (bI_mul 2 _)) (q_u z z (o_bin z z (bI_add _ 1)) (q_u z z (o_bin z z (bI_eq _ _)) (q_mv z z z (qc z z (s_gt z z fun g=>o_ixA (sz:=1) (n:=4) (i:=0) Tryz.underlying273 (fun _=>by kernel_rfl) z z (by decide)) (qc z z (s_gt z z fun g=>o_ld 2 sc3 (evg z g) z z) (qc z z (s_gt z z fun g=>o_ixA (sz:=1) (n:=4) (i:=1) Tryz.underlying273 (fun _=>by kernel_rfl) z z (by decide)) (qc z z (s_gt z z fun g=>o_ld 2 sc3 (evg z g) z z) (qc z z (s_gt z z fun g=>o_bin (evg z g) (evg z g) (bI_add _ _)) (qc z z (s_gt z z fun g=>o_mv z) (qc z z (s_gt z z fun g=>o_nc (evg z g)) (qc z z (s_gt z z fun g=>o_fa fa193_0 (evg z g)) (qc z z (s_gt z z fun g=>o_ld 3 sc3 (evg z g) z z) (qc z z (s_gt z z fun g=>o_bin (evg z g) (evg z g) (bI_le _ _)) (q_u z z (o_and z z) (q_mv z z z (qc z z (s_gt z z fun g=>o_ixA (sz:=1) (n:=4) (i:=0) Tryz.underlying273 (fun _=>by kernel_rfl) z z (by decide)) (qc z z (s_gt z z fun g=>o_ld 2 sc3 (evg z g) z z) (qc z z (s_gt z z fun g=>o_ixA (sz:=1) (n:=4) (i:=2) Tryz.underlying273 (fun _=>by kernel_rfl) z z (by decide)) (qc z z (s_gt z z fun g=>o_ld 2 sc3 (evg z g) z z) (qc z z (s_gt z z fun g=>o_bin (evg z g) (evg z g) (bI_add _ _)) (qc z z (s_gt z z fun g=>o_mv z) (qc z z (s_gt z z fun g=>o_nc (evg z g)) (qc z z (s_gt z z fun g=>o_fa fa193_0 (evg z g)) (qc z z (s_gt z z fun g=>o_ld 3 sc3 (evg z g) z z) (qc z z (s_gt z z fun g=>o_bin (evg z g) (evg z g) (bI_le _ _)) (q_u z z (o_and z z) (q_mv z z z (q_y z z z z h41 (o_mv z) (q_y z z z z h41 (o_mv z) (q_y z z z z h41 (o_nc z) (q_y z z z z h41 (o_fa fa193_2 z) (q_y z z z z h41 (o_ld 3 sc191 z z z) (q_y z z z z h41 (o_callqP ca203 z (AI.ok b30 x29 g27 _ z) (pk 8 [1,4,5,6,7,0,2,3]) (pk 8 [5,0,6,7,1,2,3,4])) (q_y z z z z h41 (o_bin z z (bI_sub _ _)) (q_y z z z z h41 (o_mv z) (q_y z z z z h41 (o_nc z) (q_y z z z z h41 (o_fa fa193_0 z) (q_y z z z z h41 (o_ld 3 sc3 z z z) (q_y z z z z h41 (o_bin z z (bI_mul 2 _)) (q_y z z z z h41 (o_bin z z (bI_le _ _)) (q_u z z (o_pt z h41 z) (q_mv z z z (q_n z z z z h43 (q_n z z z z h43 (q_n z z z z h43 (q_n z z z z h43 (q_n z z z z h43 (q_n z z z z h43 (q_u z z (o_pf z h43 z) qn)))))))))))))))))))))))))))))))))))))))))))))))))))))))) ?_ (nxt z)
 refine ec (eo_c z (s_w (o_callL ca102 z (An.ok b0_ _ _ _ hr51) (fun _ _ _ h=>h))) ?_) en
 refine stage z z z z mk6_ [] [] z z z qn en ?_
 intro _
 refine ex_sub (E':=[(3,pt b6 0)]) ⟨z,trivial⟩ ?_
 refine x_seq (csr ?_)
 refine r_mv z (r_as z ?_)
 refine r_nil (x_seq (c_ret ?_))
 refine ex_st (fun _ h=>mv5 (mv7 (mv7 (mv7 (mv7 h))))) ?_
 refine ex_st (fun _ h=>st_some (f:=Ab.op g27) (a:=x29) (st_star_f (A:=Ab.fl b30 x29 g27) h)) ?_
 refine ex_st (fun _ h=>mv3 h) ?_
 refine ex_st (fun _ h=>st_some (f:=Ai.op (⟨(pt b30 0,g27)⟩:Ai.G)) (a:=(⟨i64 (ra2.1.toNat:Int),i64 (ra15.1.toNat:Int),(some x29)⟩:Ai)) (st_star_f (A:=Ai.fl b6 (⟨i64 (ra2.1.toNat:Int),i64 (ra15.1.toNat:Int),(some x29)⟩:Ai) (⟨(pt b30 0,g27)⟩:Ai.G)) h)) ?_
 obtain rfl:=si hm56
 refine ex_st (pk 3 [0,1]) ?_
 exact x_r1 z (rv_t z) le_ (.inl ⟨_,z,_,z,(pt b6 0,(⟨(pt b30 0,g27)⟩:Ai.G)),z,z,z⟩)
def Cd(a0:Aa):Option ((Bool×Aa)⊕(Int×Aa)) :=
 (AJ a0 1).bind fun r0=>sm r0 (fun (ra2:Str×Aa)=>(gi ra2.1 0).bind fun c6=>if decide (1<c6) then lt (BW 6) fun r10=>sm r10 (fun (ra12:Unit)=>some (Sum.inl ((c6==1),ra2.2))) fun ((rn13,ro14):Int×Unit)=>some (Sum.inr (rn13,ra2.2)) else some (Sum.inl ((c6==1),ra2.2))) fun ((rn3,ro4):Int×Aa)=>some (Sum.inr (rn3,ro4))
theorem Cd.ok{G R F}(b0_:Nat)(a0:Aa)(r:(Bool×Aa)⊕(Int×Aa))(hm:Cd a0=some r):CO Tryz.prog 238 [pt b0_ 0] G R (Bk b0_ 177 (Aa.c a0)::F)
  (PK 175 r (fun (a:Bool×Aa) u R' L'=>u=vB a.1∧R'=R∧L'=Bk b0_ 177 (Aa.c a.2)::F) (fun n (o:Aa) R' L'=>R'=R∧L'=Bk b0_ 177 (Aa.c o)::F)):=by
 unfold Cd at hm
 refine co_ofN (N:=12) Tryz.func238 z z ?_
 refine csr ?_
 refine r_as z ?_
 refine r_nil (x_seq (c_seq ?_))
 obtain ⟨r0,hr0,hm1⟩:=bs hm
 rcases r0 with ra2 | ⟨rn3,ro4⟩
 rotate_left
 ·have hm5:=sm_r hm1
  refine c_reg ?_
  refine r_mv z ?_
  obtain rfl:=si hm5
  exact r_sw (s_w (o_callR ca152 z (AJ.ok b0_ a0 1 _ hr0) (by rintro _ _ _ ⟨rfl,rfl⟩;exact (px_st (pk 1 [0]) (px_of le_ (.inr ⟨_,z,_,z,z,z⟩)))))) (fun _ _ _ _ h=>h.elim)
 have hm5:=sm_l hm1
 refine c_reg ?_
 refine r_mv z ?_
 refine r_c (s_w (o_callL ca152 z (AJ.ok b0_ a0 1 _ hr0) (fun _ _ _ h=>h))) ?_
 obtain ⟨c6,hc6,hm7⟩:=bs hm5
 refine r_u (o_ixS Tryz.underlying9 z z hc6) (r_as z ?_)
 refine nssr ?_
 refine r_mv z (r_bin z z (bY_gt c6 1) ?_)
 refine nsq ?_
 refine c_if (b:=decide (1<c6)) z (fun h8 => ?_) fun h8 => ?_
 rotate_left
 ·have hm9:=iff_ hm7 h8
  refine c_skip (x_seq (csr ?_))
  refine r_mv z (r_bin z z (bY_eq c6 1) (r_as z ?_))
  refine r_nil (x_seq (c_ret ?_))
  obtain rfl:=si hm9
  exact x_r1 z (rv_t z) le_ (.inl ⟨_,z,_,z,z,z,z⟩)
 have hm9:=ift hm7 h8
 obtain ⟨r10,hr10,hm11⟩:=ltx hm9
 rcases r10 with ra12 | ⟨rn13,ro14⟩
 ·have hm15:=sm_l hm11
  refine c_reg ?_
  refine r_c (s_w (o_callL ca153 z (BW.ok 6 _ hr10) (fun _ _ _ h=>h))) ?_
  refine nsr ?_
  refine r_mv z (r_bin z z (bY_eq c6 1) (r_as z ?_))
  refine r_nil (x_seq (c_ret ?_))
  obtain rfl:=si hm15
  exact x_r1 z (rv_t z) le_ (.inl ⟨_,z,_,z,z,z,z⟩)
 have hm15:=sm_r hm11
 refine c_reg ?_
 obtain rfl:=si hm15
 exact r_sw (s_w (o_callR ca153 z (BW.ok 6 _ hr10) (by rintro _ _ _ ⟨rfl,rfl⟩;exact (px_st (pk 1 [0]) (px_of le_ (.inr ⟨_,z,_,z,z,z⟩)))))) (fun _ _ _ _ h=>h.elim)
end Go.Proofs.YtpanhdnglicknaaGreat
