import Derived.Test.YtpanhdnglicknaaGreatW1
import Derived.Test.YtpanhdnglicknaaGreatFacts
import Derived.Test.YtpanhdnglicknaaGreatHwZ
import Derived.Test.YtpanhdnglicknaaGreatHwW
import Derived.Test.YtpanhdnglicknaaGreatHw8
set_option linter.unusedVariables false
set_option linter.unusedSectionVars false
set_option linter.unusedSimpArgs false
set_option maxRecDepth 100000
set_option maxHeartbeats 4000000
namespace Go.Proofs.YtpanhdnglicknaaGreat
open Go Go.Proofs.YtpanhdnglicknaaGreat.Hw
def Bc(r18:List Str):Nat→Int→Int→(Option Ac)→(List (Str×Ak))→Option (Int×Option Ac×(List (Str×Ak)))
 | 0,_,_,_,_=>none
 | k55+1,s_48,c_49,c_50,c_51=>if decide (s_48<(r18.length:Int)) then (gi r18 s_48).bind fun x60=>lt (AN (⟨c_51,c_49⟩:Ah) x60) fun r62=>om c_50 (none) fun x64=>(A3 x64 x60).bind fun r74=>Bc r18 k55 (i64 (s_48+1)) r62.2.bytes (some r74.2) r62.2.m else some (c_49,c_50,c_51)
def AC(a0:Ad)(a1:AI):Option (As×Int×Ad) :=
 if !(BB a1.Op) then some ((⟨0,[],0⟩:As),1,a0) else if ((a1.Seq==0)||((a1.Seq-1) != a0.seq)) then some ((⟨0,[],0⟩:As),123,a0) else om a0.t (none) fun x13=>(BR x13 (if a0.now<a1.Now then a1.Now else a0.now)).bind fun r18=>Option.bind (Bc r18 (((r18.length:Int)-0).toNat+1) 0 x13.bytes a0.p x13.m) fun p21=>if (a1.Op.Kind==5) then some ((⟨0,[],0⟩:As),0,(⟨a0.c,(some (⟨p21.2.2,p21.1⟩:Ah)),p21.2.1,a0.sessions,a0.seq+1,(if a0.now<a1.Now then a1.Now else a0.now),a0.version,a0.tally⟩:Ad)) else if ((mget a0.sessions a1.Session).isSome&&(a1.Num==(((mget a0.sessions a1.Session).getD ((⟨0,(⟨0,[],0⟩:As)⟩:Ao):Ao)).num))) then some ((((mget a0.sessions a1.Session).getD ((⟨0,(⟨0,[],0⟩:As)⟩:Ao):Ao)).reply),0,(⟨a0.c,(some (⟨p21.2.2,p21.1⟩:Ah)),p21.2.1,a0.sessions,a0.seq+1,(if a0.now<a1.Now then a1.Now else a0.now),a0.version,a0.tally⟩:Ad)) else if ((mget a0.sessions a1.Session).isSome&&decide (a1.Num<(((mget a0.sessions a1.Session).getD ((⟨0,(⟨0,[],0⟩:As)⟩:Ao):Ao)).num))) then some ((⟨122,[],0⟩:As),0,(⟨a0.c,(some (⟨p21.2.2,p21.1⟩:Ah)),p21.2.1,a0.sessions,a0.seq+1,(if a0.now<a1.Now then a1.Now else a0.now),a0.version,a0.tally⟩:Ad)) else if (!((mget a0.sessions a1.Session).isSome)&&decide (64≤(a0.sessions.length:Int))) then some ((⟨3,[],0⟩:As),0,(⟨a0.c,(some (⟨p21.2.2,p21.1⟩:Ah)),p21.2.1,a0.sessions,a0.seq+1,(if a0.now<a1.Now then a1.Now else a0.now),a0.version,a0.tally⟩:Ad)) else (AK (⟨a0.c,(some (⟨p21.2.2,p21.1⟩:Ah)),p21.2.1,a0.sessions,a0.seq+1,(if a0.now<a1.Now then a1.Now else a0.now),a0.version,a0.tally⟩:Ad) a1.Op).bind fun r37=>some (r37.1,0,(⟨r37.2.c,r37.2.t,r37.2.p,mput r37.2.sessions a1.Session (⟨a1.Num,r37.1⟩:Ao),r37.2.seq,r37.2.now,r37.2.version,r37.2.tally⟩:Ad))
theorem AC.ok{G R F}(b0_:Nat)(a0:Ad)(g0_:Ad.G)(a1:AI)(r:As×Int×Ad)(hm:AC a0 a1=some r):CO Tryz.prog 15 [pt b0_ 0,.agg (AI.c a1).toArray] G R (Bk b0_ 96 (Ad.k a0 g0_)::rO (Ah.op g0_.t.2) g0_.t.1 a0.t::rO (Ac.op g0_.p.2) g0_.p.1 a0.p::OwM vW Ao.v g0_.sessions a0.sessions::F)
  (Ret fun u R' L'=>∃(q0:Ad.G),u = .tuple #[.agg (As.c r.1).toArray,vI r.2.1]∧R'=R∧L'=Bk b0_ 96 (Ad.k r.2.2 q0)::rO (Ah.op q0.t.2) q0.t.1 r.2.2.t::rO (Ac.op q0.p.2) q0.p.1 r.2.2.p::OwM vW Ao.v q0.sessions r.2.2.sessions::F):=by
 obtain ⟨⟨pv1,g2⟩,⟨pv4,g5⟩,g6⟩:=g0_
 unfold AC at hm
 refine co_ofN (N:=143) Tryz.func15 z z ?_
 refine csr ?_
 refine r_new (o_bx (AI.c a1) z z) fun b7 => ?_
 refine r_new (o_al ze41) fun b8 => ?_
 refine r_as z ?_
 refine r_nil (x_seq (c_seq (c_blk (csr ?_))))
 refine r_mv z (r_bin z z (bP_eqp Tryz.underlying30) (r_mv z ?_))
 refine r_s (s_y z z z (o_fa fa35_4 z)) ?_
 refine r_s (s_y z z z (o_ldn 1 (AA.c a1.Op) ag27 z z z z)) ?_
 refine r_s (s_y z z z (o_callq ca34 z (BB.ok a1.Op _ z))) ?_
 refine r_s (s_y z z z (o_not z)) ?_
 refine r_u (o_pf z z z) (r_as z ?_)
 refine nsq ?_
 refine c_if (b := !(BB a1.Op)) z (fun h9 => ?_) fun h9 => ?_
 ·have hm10:=ift hm h9
  refine csr ?_
  refine r_u (o_bld [vI 0,vS [],vW 0] z (fun _=>by kernel_rfl)) ?_
  refine r_u0 (o_stn ag41 z z z z z z z) ?_
  refine r_as z ?_
  refine r_nil (x_seq (c_ret ?_))
  obtain rfl:=si hm10
  exact x_d2 z (rv_n 0 [vI 0,vS [],vW 0] ag41 z z z z) (rv_t z) (pk 6 [2,3,4,5]) le_ ⟨_,z,(⟨(pv1,g2),(pv4,g5),g6⟩:Ad.G),z,z,z⟩
 have hm10:=iff_ hm h9
 refine c_seq ?_
 refine c_any mixed (effs:=[]) (V:=[]) ?_
 refine stn [0,1,3,7,15,31,63,15,143,399,911,2047,4095,8191] [0,1,2,3,4,5,6,7,8,9,10,11,12,13] [] [_,_,_,_,_,_,_,_,_,_,_,_,_,_] (q_fa z z fa35_0 z (q_ld z z 1 sc22 z z z (q_u z z (o_bin z z (bW_eq _ 0)) (q_mv z z z (qc z z (s_gf z z fun g=>o_fa fa35_0 z) (qc z z (s_gf z z fun g=>o_ld 1 sc22 (evg z g) z z) (qc z z (s_gf z z fun g=>o_bin (evg z g) z (bW_sub _ 1)) (qc z z (s_gf z z fun g=>o_mv z) (qc z z (s_gf z z fun g=>o_nc (evg z g)) (qc z z (s_gf z z fun g=>o_fa fa96_4 (evg z g)) (qc z z (s_gf z z fun g=>o_ld 2 sc22 (evg z g) z z) (qc z z (s_gf z z fun g=>o_bin (evg z g) (evg z g) (bW_ne _ _)) (q_u z z (o_or z z) (q_u z z (o_as z) qn)))))))))))))) en ?_
 intro _
 refine ex_sub (E':=[(0,pt b0_ 0),(3,pt b7 0),(4,pt b8 0),(21,vB ((a1.Seq==0)||((a1.Seq-1) != a0.seq)))]) ⟨z,z,z,z,trivial⟩ ?_
 refine x_seq ?_
 refine c_if (b:=((a1.Seq==0)||((a1.Seq-1) != a0.seq))) z (fun h11 => ?_) fun h11 => ?_
 ·have hm12:=ift hm10 h11
  refine csr ?_
  refine r_u (o_bld [vI 0,vS [],vW 0] z (fun _=>by kernel_rfl)) ?_
  refine r_u0 (o_stn ag41 z z z z z z z) ?_
  refine r_as z ?_
  refine r_nil (x_seq (c_ret ?_))
  obtain rfl:=si hm12
  exact x_d2 z (rv_n 0 [vI 0,vS [],vW 0] ag41 z z z z) (rv_t z) (pk 6 [2,3,4,5]) le_ ⟨_,z,(⟨(pv1,g2),(pv4,g5),g6⟩:Ad.G),z,z,z⟩
 have hm12:=iff_ hm10 h11
 refine c_skip (x_blk (x_seq (csr ?_)))
 refine r_mv z (r_nc z (r_fa fa96_4 z (r_ld 2 sc22 z z z (r_bin z z (bW_add _ 1) (r_nc z (r_fa fa96_4 z ?_))))))
 refine rl_st (fun _ h=>mv2 h) ?_
 refine r_u0 (o_st sc22 z z z z z z) ?_
 refine r_nil (x_seq (c_seq ?_))
 refine c_any mixed (effs:=[10]) (V:=[]) ?_
 refine stn mk10_ [0,1,2,3,4,5,6,7,8,9] [10] [_,_,_,_,_,_,_,_,_,_] (q_mv z z z (q_mv z z z (q_u z z (o_nc z) (q_fa z z fa96_5 z (q_ld z z 0 sc22 z z z (q_fa z z fa35_1 z (q_ld z z 2 sc22 z z z (q_u z z (o_maxW z z) (q_u z z (o_nc z) (q_fa z z fa96_5 z qn)))))))))) ?_ (nxt z)
 refine ec (eo_u z (s_u (o_st sc22 z z z z z z)) le_ ?_) en
 refine stage z z z z mk10_ [] [] z z z qn en ?_
 intro _
 refine ex_sub (E':=[(0,pt b0_ 0),(3,pt b7 0),(4,pt b8 0)]) ⟨z,z,z,trivial⟩ ?_
 refine x_seq (c_seq (c_seq ?_))
 refine cd_st (fun _ h=>mv3 h) ?_
 refine cd_opt (fun ho15 => ?_) (fun x13 b14 ho15 => ?_)
 ·rintro rfl
  have hm16:=om_n hm12 ho15
  cases hm16
 rintro rfl
 have hm16:=om_s hm12 ho15
 refine cd_st (fun _ h=>st_star_o h) ?_
 obtain ⟨r18,hr18,hm20⟩:=bs hm16
 refine c_any mixed (effs:=[8]) (V:=[]) ?_
 refine stn mk32_ [0,1,2,3,4,5,6,7,10] [8] [_,_,_,_,_,_,_,_,_] (q_mv z z z (q_u z z (o_nc z) (q_fa z z fa96_1 z (q_ld z z 2 sc92 z z z (q_mv z z z (q_u z z (o_nc z) (q_fa z z fa96_5 z (q_ld z z 2 sc22 z z z (q_mv z z z qn))))))))) ?_ (nxt z)
 refine ec (eo_w z (s_w (o_call ca35 z (BR.ok b14 _ g2 _ _ hr18))) ?_) en
 rintro v19 R _ _ ⟨_,rfl,rfl,rfl⟩
 refine stx [9] mk32_ [9,10] [] [_] (q_u z z (o_lenO 0 Tryz.underlying98 z z) (q_mv z z z qn)) en ?_
 intro _
 refine ex_sub (E':=[(0,pt b0_ 0),(3,pt b7 0),(4,pt b8 0),(61,v19),(62,vI (r18.length:Int)),(63,vI 0)]) ⟨z,z,z,z,z,z,trivial⟩ ?_
 refine x_seq ?_
 obtain ⟨p21,hp25,hm26⟩:=bs hm20
 refine cd_cut (fun x ks=>∀(pv22:Value×Ac.G),EX x .normal ks [(0,pt b0_ 0),(3,pt b7 0),(4,pt b8 0)] R (Bk b14 138 [g2.m,vI p21.1]::Bk b0_ 96 [vI a0.c.Policy,vI a0.c.Entries,vI a0.c.Bytes,vW a0.c.Seed,pt b14 0,pv22.1,g6,vW (a0.seq+1),vW (if a0.now<a1.Now then a1.Now else a0.now),vW a0.version,vI a0.tally.Asked,vI a0.tally.Hits]::Bk b8 41 [vI 0,vS [],vW 0]::Bk b7 35 (AI.c a1)::OwS true 9 1 eS v19 r18::OwM vS Ak.v g2.m p21.2.2::OwM vW Ao.v g6 a0.sessions::rO (Ac.op pv22.2) pv22.1 p21.2.1::F)) ?_ fun K27 => ?_
 rotate_left
 ·refine c_blk ?_
  refine cd_loopG (M:=fun k55 (s:Int×Int×Option Ac×(List (Str×Ak))×(Value×Ac.G))=>Bc r18 k55 s.1 s.2.1 s.2.2.1 s.2.2.2.1=some p21) (Ef:=fun (s:Int×Int×Option Ac×(List (Str×Ak))×(Value×Ac.G))=>[(0,pt b0_ 0),(3,pt b7 0),(4,pt b8 0),(61,v19),(62,vI (r18.length:Int)),(63,vI s.1)]) (Rf:=fun (s:Int×Int×Option Ac×(List (Str×Ak))×(Value×Ac.G))=>R) (Lf:=fun (s:Int×Int×Option Ac×(List (Str×Ak))×(Value×Ac.G))=>Bk b14 138 [g2.m,vI s.2.1]::Bk b0_ 96 [vI a0.c.Policy,vI a0.c.Entries,vI a0.c.Bytes,vW a0.c.Seed,pt b14 0,s.2.2.2.2.1,g6,vW (a0.seq+1),vW (if a0.now<a1.Now then a1.Now else a0.now),vW a0.version,vI a0.tally.Asked,vI a0.tally.Hits]::Bk b8 41 [vI 0,vS [],vW 0]::Bk b7 35 (AI.c a1)::OwS true 9 1 eS v19 r18::OwM vS Ak.v g2.m s.2.2.2.1::OwM vW Ao.v g6 a0.sessions::rO (Ac.op s.2.2.2.2.2) s.2.2.2.2.1 s.2.2.1::F) (((r18.length:Int)-0).toNat+1) (0,x13.bytes,a0.p,x13.m,(pv4,g5)) hp25 ⟨z,z,z,z,z,z,trivial⟩ (pk 8 [1,3,4,5,0,2,7,6]) (fun _ h=>by cases h) fun k55 s hM57 => ?_
  obtain ⟨s_48,c_49,c_50,c_51,pv52⟩:=s
  have hm56:Bc r18 (k55+1) s_48 c_49 c_50 c_51=some p21:=hM57
  rw [Bc] at hm56
  obtain ⟨pv53,g54⟩:=pv52
  refine csr ?_
  refine r_bin z z (bI_lt _ _) ?_
  refine r_nil (x_seq (c_seq ?_))
  refine c_if (b:=decide (s_48<(r18.length:Int))) z (fun h58 => ?_) fun h58 => ?_
  rotate_left
  ·have hm59:=iff_ hm56 h58
   refine c_exit (x_exit (ks':=_) z ?_)
   obtain rfl:=si hm59
   exact x_sub (K27 (pv53,g54)) ⟨z,z,z,trivial⟩ (pk 8 [0,1,2,3,4,5,6,7])
  have hm59:=ift hm56 h58
  refine c_skip (x_seq (c_seq (c_blk (csr ?_))))
  obtain ⟨x60,hx60,hm61⟩:=bs hm59
  refine r_u (o_ixO 4 Tryz.underlying98 (fun _=>by kernel_rfl) z z z hx60) (r_u (o_ldO0 4 sc9 z z hx60 z z) (r_as z ?_))
  refine nsr ?_
  refine r_mv z (r_nc z (r_fa fa96_1 z (r_ld 1 sc92 z z z (r_mv z ?_))))
  obtain ⟨r62,hr62,hm63⟩:=ltx hm61
  refine rl_st (fun _ h=>mv1 (mv5 h)) ?_
  refine r_c (s_w (o_call ca36 z (AN.ok b14 (⟨c_51,c_49⟩:Ah) g2 _ _ hr62))) ?_
  refine nsq ?_
  refine cd_st (fun _ h=>mv7 h) ?_
  refine cd_opt (fun ho66 => ?_) (fun x64 b65 ho66 => ?_)
  ·rintro rfl
   have hm67:=om_n hm63 ho66
   cases hm67
  rintro rfl
  have hm67:=om_s hm63 ho66
  obtain ⟨⟨pv69,g70⟩,⟨pv72,g73⟩⟩:=g54
  refine cd_st (fun _ h=>st_star_o h) ?_
  refine c_reg ?_
  refine r_mv z (r_nc z (r_fa fa96_2 z (r_ld 5 sc93 z z z (r_mv z ?_))))
  obtain ⟨r74,hr74,hm82⟩:=bs hm67
  refine r_sw (s_w (o_call ca37 z (A3.ok b65 _ (⟨(pv69,g70),(pv72,g73)⟩:Ac.G) _ _ hr74))) ?_
  rintro _ R _ _ ⟨⟨⟨pv77,g78⟩,⟨pv80,g81⟩⟩,rfl,rfl,rfl⟩
  refine r_nil (x_blk (x_seq (c_reg ?_)))
  refine r_bin z z (bI_add _ 1) (r_mv z ?_)
  refine r_nil ?_
  refine ex_st (fun _ h=>st_some (f:=Ac.op (⟨(pv77,g78),(pv80,g81)⟩:Ac.G)) (a:=r74.2) (st_star_f (A:=Ac.fl b65 r74.2 (⟨(pv77,g78),(pv80,g81)⟩:Ac.G)) h)) ?_
  exact x_lp (i64 (s_48+1),r62.2.bytes,(some r74.2),r62.2.m,(pt b65 0,(⟨(pv77,g78),(pv80,g81)⟩:Ac.G))) hm82 ⟨z,z,z,z,z,z,trivial⟩ (pk 8 [1,3,4,5,6,2,7,0])
 intro pv22
 obtain ⟨pv23,g24⟩:=pv22
 refine x_seq (c_seq (csr ?_))
 refine r_fa fa35_4 z (r_fa fa27_0 z (r_ld 3 sc3 z z z (r_bin z z (bI_eq _ 5) ?_)))
 refine nsq ?_
 refine c_if (b:=(a1.Op.Kind==5)) z (fun h28 => ?_) fun h28 => ?_
 ·have hm29:=ift hm26 h28
  refine csr ?_
  refine r_u (o_bld [vI 0,vS [],vW 0] z (fun _=>by kernel_rfl)) ?_
  refine rl_st (fun _ h=>mv2 h) ?_
  refine r_u0 (o_stn ag41 z z z z z z z) ?_
  refine r_as z ?_
  refine r_nil (x_seq (c_ret ?_))
  refine ex_st (fun _ h=>mv2 (mv5 h)) ?_
  refine ex_st (fun _ h=>st_some (f:=Ah.op g2) (a:=(⟨p21.2.2,p21.1⟩:Ah)) (st_star_f (A:=Ah.fl b14 (⟨p21.2.2,p21.1⟩:Ah) g2) h)) ?_
  obtain rfl:=si hm29
  exact x_d2 z (rv_n 1 [vI 0,vS [],vW 0] ag41 z z z z) (rv_t z) (pk 7 [2,0,6,5]) le_ ⟨_,z,(⟨(pt b14 0,g2),(pv23,g24),g6⟩:Ad.G),z,z,z⟩
 have hm29:=iff_ hm26 h28
 refine c_skip (x_seq (c_seq ?_))
 refine c_any mixed (effs:=[10,11]) (V:=[]) ?_
 refine stn mk35_ [0,1,2,3,4,5,6,7,8,9] [10] [_,_,_,_,_,_,_,_,_,_] (q_mv z z z (q_u z z (o_nc z) (q_fa z z fa96_3 z (q_ld z z 1 sc94 z z z (q_fa z z fa35_2 z (q_ld z z 3 sc22 z z z (q_u z z (o_lk (kv:=vW) (vv:=Ao.v) (key:=a1.Session) (z0:=((⟨0,(⟨0,[],0⟩:As)⟩:Ao):Ao)) 6 Tryz.underlying94 (kok_W Tryz.underlying22) (fun _=>by kernel_rfl) z z z) (q_mv z z z (q_u z z (o_ext z z) (q_u z z (o_ext z z) qn)))))))))) ?_ (nxt z)
 refine ec (eo_n z (s_w (o_al ze102)) fun b30 => ?_) en
 refine stage z z z z mk35_ [0,1,2,3,4,5,6,7,8,9] [11] z z z (q_mv z z z (q_u z z (o_nc z) (q_fa z z fa96_3 z (q_ld z z 2 sc94 z z z (q_fa z z fa35_2 z (q_ld z z 4 sc22 z z z (q_u z z (o_lk (kv:=vW) (vv:=Ao.v) (key:=a1.Session) (z0:=((⟨0,(⟨0,[],0⟩:As)⟩:Ao):Ao)) 7 Tryz.underlying94 (kok_W Tryz.underlying22) (fun _=>by kernel_rfl) z z z) (q_mv z z z (q_u z z (o_ext z z) (q_u z z (o_ext z z) qn)))))))))) ?_ (nxt z)
 refine ec (eo_u z (s_u (o_stn ag102 z z z z z z z)) le_ ?_) en
 refine stx [12] mk35_ [9,12] [] [_] (q_u z z (o_ext z z) (q_u z z (o_as z) qn)) en ?_
 intro _
 refine ex_sub (E':=[(0,pt b0_ 0),(3,pt b7 0),(4,pt b8 0),(8,pt b30 0),(9,vB ((mget a0.sessions a1.Session).isSome))]) ⟨z,z,z,z,z,trivial⟩ ?_
 refine x_seq (c_seq (c_blk (csr ?_)))
 refine r_mv z (r_mv z ?_)
 refine r_s (s_gt z z fun g=>o_fa fa35_3 z) ?_
 refine r_s (s_gt z z fun g=>o_ld 4 sc22 (evg z g) z z) ?_
 refine r_s (s_gt z z fun g=>o_fa fa102_0 z) ?_
 refine r_s (s_gt z z fun g=>o_ld 0 sc22 (evg z g) z z) ?_
 refine r_s (s_gt z z fun g=>o_bin (evg z g) (evg z g) (bW_eq _ _)) ?_
 refine r_u (o_and z z) (r_as z ?_)
 refine nsq ?_
 refine c_if (b:=((mget a0.sessions a1.Session).isSome&&(a1.Num==(((mget a0.sessions a1.Session).getD ((⟨0,(⟨0,[],0⟩:As)⟩:Ao):Ao)).num)))) z (fun h31 => ?_) fun h31 => ?_
 ·have hm32:=ift hm29 h31
  refine csr ?_
  refine r_fa fa102_1 z ?_
  refine r_u (o_ldn 0 (As.c (((mget a0.sessions a1.Session).getD ((⟨0,(⟨0,[],0⟩:As)⟩:Ao):Ao)).reply)) ag41 z z z z) ?_
  refine rl_st (fun _ h=>mv3 h) ?_
  refine r_u0 (o_stn ag41 z z z z z z z) ?_
  refine r_as z ?_
  refine r_nil (x_seq (c_ret ?_))
  refine ex_st (fun _ h=>mv3 (mv6 h)) ?_
  refine ex_st (fun _ h=>st_some (f:=Ah.op g2) (a:=(⟨p21.2.2,p21.1⟩:Ah)) (st_star_f (A:=Ah.fl b14 (⟨p21.2.2,p21.1⟩:Ah) g2) h)) ?_
  obtain rfl:=si hm32
  exact x_d2 z (rv_n 1 (As.c (((mget a0.sessions a1.Session).getD ((⟨0,(⟨0,[],0⟩:As)⟩:Ao):Ao)).reply)) ag41 z z z z) (rv_t z) (pk 8 [3,0,7,6]) le_ ⟨_,z,(⟨(pt b14 0,g2),(pv23,g24),g6⟩:Ad.G),z,z,z⟩
 have hm32:=iff_ hm29 h31
 refine csr ?_
 refine r_mv z (r_mv z ?_)
 refine r_s (s_gt z z fun g=>o_fa fa35_3 z) ?_
 refine r_s (s_gt z z fun g=>o_ld 4 sc22 (evg z g) z z) ?_
 refine r_s (s_gt z z fun g=>o_fa fa102_0 z) ?_
 refine r_s (s_gt z z fun g=>o_ld 0 sc22 (evg z g) z z) ?_
 refine r_s (s_gt z z fun g=>o_bin (evg z g) (evg z g) (bW_lt _ _)) ?_
 refine r_u (o_and z z) (r_as z ?_)
 refine nsq ?_
 refine c_if (b:=((mget a0.sessions a1.Session).isSome&&decide (a1.Num<(((mget a0.sessions a1.Session).getD ((⟨0,(⟨0,[],0⟩:As)⟩:Ao):Ao)).num)))) z (fun h33 => ?_) fun h33 => ?_
 ·have hm34:=ift hm32 h33
  refine csr ?_
  refine r_u (o_bld [vI 122,vS [],vW 0] z (fun _=>by kernel_rfl)) ?_
  refine rl_st (fun _ h=>mv3 h) ?_
  refine r_u0 (o_stn ag41 z z z z z z z) ?_
  refine r_as z ?_
  refine r_nil (x_seq (c_ret ?_))
  refine ex_st (fun _ h=>mv3 (mv6 h)) ?_
  refine ex_st (fun _ h=>st_some (f:=Ah.op g2) (a:=(⟨p21.2.2,p21.1⟩:Ah)) (st_star_f (A:=Ah.fl b14 (⟨p21.2.2,p21.1⟩:Ah) g2) h)) ?_
  obtain rfl:=si hm34
  exact x_d2 z (rv_n 1 [vI 122,vS [],vW 0] ag41 z z z z) (rv_t z) (pk 8 [3,0,7,6]) le_ ⟨_,z,(⟨(pt b14 0,g2),(pv23,g24),g6⟩:Ad.G),z,z,z⟩
 have hm34:=iff_ hm32 h33
 refine csr ?_
 refine r_mv z ?_
 refine r_u (o_not z) (r_mv z ?_)
 refine r_s (s_gt z z fun g=>o_mv z) ?_
 refine r_s (s_gt z z fun g=>o_nc (evg z g)) ?_
 refine r_s (s_gt z z fun g=>o_fa fa96_3 (evg z g)) ?_
 refine r_s (s_gt z z fun g=>o_ld 2 sc94 (evg z g) z z) ?_
 refine r_s (s_gt z z fun g=>o_lenM (kv:=vW) (vv:=Ao.v) 7 Tryz.underlying94 (evg z g) z) ?_
 refine r_s (s_gt z z fun g=>o_bin (evg z g) z (bI_ge _ 64)) ?_
 refine r_u (o_and z z) (r_as z ?_)
 refine nsq ?_
 refine c_if (b:=(!((mget a0.sessions a1.Session).isSome)&&decide (64≤(a0.sessions.length:Int)))) z (fun h35 => ?_) fun h35 => ?_
 ·have hm36:=ift hm34 h35
  refine csr ?_
  refine r_u (o_bld [vI 3,vS [],vW 0] z (fun _=>by kernel_rfl)) ?_
  refine rl_st (fun _ h=>mv3 h) ?_
  refine r_u0 (o_stn ag41 z z z z z z z) ?_
  refine r_as z ?_
  refine r_nil (x_seq (c_ret ?_))
  refine ex_st (fun _ h=>mv3 (mv6 h)) ?_
  refine ex_st (fun _ h=>st_some (f:=Ah.op g2) (a:=(⟨p21.2.2,p21.1⟩:Ah)) (st_star_f (A:=Ah.fl b14 (⟨p21.2.2,p21.1⟩:Ah) g2) h)) ?_
  obtain rfl:=si hm36
  exact x_d2 z (rv_n 1 [vI 3,vS [],vW 0] ag41 z z z z) (rv_t z) (pk 8 [3,0,7,6]) le_ ⟨_,z,(⟨(pt b14 0,g2),(pv23,g24),g6⟩:Ad.G),z,z,z⟩
 have hm36:=iff_ hm34 h35
 refine c_skip (x_blk (x_seq (csr ?_)))
 refine r_mv z (r_fa fa35_4 z ?_)
 refine r_u (o_ldn 4 (AA.c a1.Op) ag27 z z z z) ?_
 refine rl_st (fun _ h=>mv2 (mv6 h)) ?_
 refine rl_st (fun _ h=>st_some (f:=Ah.op g2) (a:=(⟨p21.2.2,p21.1⟩:Ah)) (st_star_f (A:=Ah.fl b14 (⟨p21.2.2,p21.1⟩:Ah) g2) h)) ?_
 obtain ⟨r37,hr37,hm46⟩:=bs hm36
 refine rl_st (fun _ h=>mv4 (mv2 (mv7 (mv6 h)))) ?_
 refine r_sw (s_w (o_call ca38 z (AK.ok b0_ (⟨a0.c,(some (⟨p21.2.2,p21.1⟩:Ah)),p21.2.1,a0.sessions,a0.seq+1,(if a0.now<a1.Now then a1.Now else a0.now),a0.version,a0.tally⟩:Ad) (⟨(pt b14 0,g2),(pv23,g24),g6⟩:Ad.G) _ _ hr37))) ?_
 rintro _ R _ _ ⟨⟨⟨pv40,g41⟩,⟨pv43,g44⟩,g45⟩,rfl,rfl,rfl⟩
 refine r_new (o_al ze41) fun b47 => ?_
 refine r_u0 (o_stn ag41 z z z z z z z) ?_
 refine r_nil (x_seq (c_seq ?_))
 refine c_any mixed (effs:=[10]) (V:=[]) ?_
 refine stage_st (fun _ h=>mv4 h) ?_
 refine stn mk28_ [0,1,2,3,4,5,6,7,8,9] [10] [_,_,_,_,_,_,_,_,_,_] (q_mv z z z (q_u z z (o_nc z) (q_fa z z fa96_3 z (q_ld z z 2 sc94 z z z (q_fa z z fa35_2 z (q_ld z z 7 sc22 z z z (q_fa z z fa35_3 z (q_ld z z 7 sc22 z z z (q_u z z (o_ldn 1 (As.c r37.1) ag41 z z z z) (q_u z z (o_bld [vW a1.Num,vI r37.1.E,vS r37.1.Value,vW r37.1.Version] z (fun _=>by kernel_rfl)) qn)))))))))) ?_ (nxt z)
 refine ec (eo_u z (s_u (o_mu (kv:=vW) (vv:=Ao.v) (key:=a1.Session) (val:=(⟨a1.Num,r37.1⟩:Ao)) Tryz.underlying94 (kok_W Tryz.underlying22) z z z z)) le_ ?_) en
 refine stage z z z z mk28_ [] [] z z z qn en ?_
 intro _
 refine ex_sub (E':=[(4,pt b8 0),(10,pt b47 0)]) ⟨z,z,trivial⟩ ?_
 refine x_seq (csr ?_)
 refine r_u (o_ldn 1 (As.c r37.1) ag41 z z z z) ?_
 refine rl_st (fun _ h=>mv6 h) ?_
 refine r_u0 (o_stn ag41 z z z z z z z) ?_
 refine r_as z ?_
 refine r_nil (x_seq (c_ret ?_))
 obtain rfl:=si hm46
 exact x_d2 z (rv_n 0 (As.c r37.1) ag41 z z z z) (rv_t z) (pk 9 [3,4,5,1]) le_ ⟨_,z,(⟨(pv40,g41),(pv43,g44),g45⟩:Ad.G),z,z,z⟩
def Bh(a1:List Ax):Nat→(Option Ad)→UInt64→Int→Option (Option Ad×UInt64)
 | 0,_,_,_=>none
 | k30+1,s_24,now_25,i_26=>if (decide (i_26<(a1.length:Int))&&decide (i_26<60)) then om s_24 (none) fun x35=>(gi a1 i_26).bind fun x46=>(A2 (AZ x35) now_25 x46).bind fun r48=>(AC x35 r48.1).bind fun r51=>Bh a1 k30 (some r51.2.2) r48.2 (i64 (i_26+1)) else some (s_24,now_25)
def BL(a0:Au)(a1:List Ax):Option (Option Ad×UInt64×Bool) :=
 (Cp (BJ a0)).bind fun r1=>Option.bind (Bh a1 (((a1.length:Int)-0).toNat+1) r1.1 0 0) fun p6=>om p6.1 (none) fun x13=>some ((some x13),p6.2,((r1.2==0)&&true))
theorem BL.ok{G R F}(a0:Au)(v1_:Value)(a1:List Ax)(h1_:RoS R v1_ 9 Ax.c a1)(r:Option Ad×UInt64×Bool)(hm:BL a0 a1=some r):CO Tryz.prog 11 [.agg (Au.c a0).toArray,v1_] G R (F)
  (Ret fun u R' L'=>∃(p0:Value×Ad.G),u = .tuple #[p0.1,vW r.2.1,vB r.2.2]∧R'=R∧L'=rO (Ad.op p0.2) p0.1 r.1::F):=by
 unfold BL at hm
 refine co_ofN (N:=52) Tryz.func11 z z ?_
 refine csr ?_
 refine r_new (o_bx (Au.c a0) z z) fun b0 => ?_
 refine r_as z (r_as z (r_as z ?_))
 refine nsr ?_
 refine r_u (o_ldn 0 (Au.c a0) ag24 z z z z) ?_
 refine r_u (o_callq ca18 z (BJ.ok a0 _ z)) ?_
 obtain ⟨r1,hr1,hm5⟩:=bs hm
 refine r_sw (s_w (o_call ca19 z (Cp.ok _ _ hr1))) ?_
 rintro _ R _ _ ⟨⟨pv3,g4⟩,rfl,rfl,rfl⟩
 refine r_mv z ?_
 refine r_ext z z ?_
 refine r_ext z z (r_as z (r_as z ?_))
 refine nsr ?_
 refine r_as z ?_
 refine nssr ?_
 refine r_as z ?_
 refine nsq ?_
 obtain ⟨p6,hp10,hm11⟩:=bs hm5
 refine cd_cut (fun x ks=>∀(pv7:Value×Ad.G),EX x .normal ks [(8,vI r1.2),(7,pv7.1),(9,vW p6.2)] R (Bk b0 24 (Au.c a0)::rO (Ad.op pv7.2) pv7.1 p6.1::F)) ?_ fun K12 => ?_
 ·intro pv7
  obtain ⟨pv8,g9⟩:=pv7
  refine x_seq (c_seq ?_)
  refine cd_st (fun _ h=>mv1 h) ?_
  refine cd_opt (fun ho15 => ?_) (fun x13 b14 ho15 => ?_)
  ·rintro rfl
   have hm16:=om_n hm11 ho15
   cases hm16
  rintro rfl
  have hm16:=om_s hm11 ho15
  obtain ⟨⟨pv18,g19⟩,⟨pv21,g22⟩,g23⟩:=g9
  refine cd_st (fun _ h=>st_star_o h) ?_
  refine c_reg ?_
  refine r_mv z (r_mv z (r_mv z (r_bin z z (bI_eq _ 0) (r_mv z ?_))))
  refine r_s (s_gt z z fun g=>o_mv z) ?_
  refine r_s (s_gt z z fun g=>o_bin (evg z g) z (bP_nep Tryz.underlying30)) ?_
  refine r_u (o_and z z) (r_as z (r_as z (r_as z ?_)))
  refine r_nil (x_seq (c_ret ?_))
  refine ex_st (fun _ h=>st_some (f:=Ad.op (⟨(pv18,g19),(pv21,g22),g23⟩:Ad.G)) (a:=x13) (st_star_f (A:=Ad.fl b14 x13 (⟨(pv18,g19),(pv21,g22),g23⟩:Ad.G)) h)) ?_
  obtain rfl:=si hm16
  refine ex_st (pk 2 [0]) ?_
  exact x_r3 z (rv_t z) (rv_t z) (rv_t z) le_ ⟨_,z,(pt b14 0,(⟨(pv18,g19),(pv21,g22),g23⟩:Ad.G)),z,z,z⟩
 refine c_blk ?_
 refine cd_loopG (M:=fun k30 (s:Option Ad×UInt64×Int×(Value×Ad.G))=>Bh a1 k30 s.1 s.2.1 s.2.2.1=some p6) (Ef:=fun (s:Option Ad×UInt64×Int×(Value×Ad.G))=>[(1,v1_),(8,vI r1.2),(7,s.2.2.2.1),(9,vW s.2.1),(10,vI s.2.2.1)]) (Rf:=fun (s:Option Ad×UInt64×Int×(Value×Ad.G))=>R) (Lf:=fun (s:Option Ad×UInt64×Int×(Value×Ad.G))=>Bk b0 24 (Au.c a0)::rO (Ad.op s.2.2.2.2) s.2.2.2.1 s.1::F) (((a1.length:Int)-0).toNat+1) (r1.1,0,0,(pv3,g4)) hp10 ⟨z,z,z,z,z,trivial⟩ (pk 2 [1,0]) (fun _ h=>by cases h) fun k30 s hM32 => ?_
 obtain ⟨s_24,now_25,i_26,pv27⟩:=s
 have hm31:Bh a1 (k30+1) s_24 now_25 i_26=some p6:=hM32
 rw [Bh] at hm31
 obtain ⟨pv28,g29⟩:=pv27
 refine c_seq (csr ?_)
 refine r_mv z (r_mv z ?_)
 refine r_u (o_lenR Tryz.underlying25 z h1_) (r_bin z z (bI_lt _ _) (r_mv z ?_))
 refine r_s (s_gt z z fun g=>o_mv z) ?_
 refine r_s (s_gt z z fun g=>o_bin (evg z g) z (bI_lt _ 60)) ?_
 refine r_u (o_and z z) ?_
 refine nsq ?_
 refine c_if (b:=(decide (i_26<(a1.length:Int))&&decide (i_26<60))) z (fun h33 => ?_) fun h33 => ?_
 rotate_left
 ·have hm34:=iff_ hm31 h33
  refine c_exit (x_exit (ks':=_) z ?_)
  obtain rfl:=si hm34
  exact x_sub (K12 (pv28,g29)) ⟨z,z,z,trivial⟩ (pk 2 [0,1])
 have hm34:=ift hm31 h33
 refine c_skip (x_seq (c_seq (c_blk (c_seq ?_))))
 refine cd_st (fun _ h=>mv1 h) ?_
 refine cd_opt (fun ho37 => ?_) (fun x35 b36 ho37 => ?_)
 ·rintro rfl
  have hm38:=om_n hm34 ho37
  cases hm38
 rintro rfl
 have hm38:=om_s hm34 ho37
 obtain ⟨⟨pv40,g41⟩,⟨pv43,g44⟩,g45⟩:=g29
 refine cd_st (fun _ h=>st_star_o h) ?_
 obtain ⟨x46,hx46,hm47⟩:=bs hm38
 obtain ⟨b46,o46,l46,T46,fr46,c46,hv46,hR46,he46,hi46⟩:=RoS.ne h1_ hx46
 obtain ⟨r48,hr48,hm49⟩:=bs hm47
 refine c_any mixed (effs:=[11,12]) (V:=[]) ?_
 refine stn mk21_ [0,1,2,3,4,5,6,7,8,9,10] [11] [_,_,_,_,_,_,_,_,_,_,_] (q_mv z z z (q_u z z (o_callqP ca14 z (AZ.ok b36 x35 (⟨(pv40,g41),(pv43,g44),g45⟩:Ad.G) _ z) (pk 5 [0,1,2,3,4]) (pk 5 [0,1,2,3,4])) (q_mv z z z (q_mv z z z (q_mv z z z (q_u z z (o_ix (sz:=9) Tryz.underlying25 (fun _=>by kernel_rfl) z z hv46 hi46) (q_u z z (o_ldnR (Ax.c x46) ag29 z hR46 he46 z) (q_u z z (o_callq ca13 z (A2.ok _ _ _ _ hr48)) (q_mv z z z (q_u z z (o_ext z z) (q_u z z (o_ext z z) qn))))))))))) ?_ (nxt z)
 refine ec (eo_n z (s_w (o_al ze35)) fun b50 => ?_) en
 refine stage z z z z mk21_ [0,1,2,3,4,5,6,7,8,9,10] [12] z z z (q_mv z z z (q_u z z (o_callqP ca14 z (AZ.ok b36 x35 (⟨(pv40,g41),(pv43,g44),g45⟩:Ad.G) _ z) (pk 6 [1,2,3,4,0,5]) (pk 6 [4,0,1,2,3,5])) (q_mv z z z (q_mv z z z (q_mv z z z (q_u z z (o_ix (sz:=9) Tryz.underlying25 (fun _=>by kernel_rfl) z z hv46 hi46) (q_u z z (o_ldnR (Ax.c x46) ag29 z hR46 he46 z) (q_u z z (o_callq ca13 z (A2.ok _ _ _ _ hr48)) (q_mv z z z (q_u z z (o_ext z z) (q_u z z (o_ext z z) qn))))))))))) ?_ (nxt z)
 refine ec (eo_u z (s_u (o_stn ag35 z z z z z z z)) le_ ?_) en
 refine stx [13] mk21_ [10,13] [] [_] (q_u z z (o_ext z z) (q_u z z (o_as z) qn)) en ?_
 intro _
 refine ex_sub (E':=[(1,v1_),(8,vI r1.2),(7,pt b36 0),(10,vI i_26),(11,pt b50 0),(12,vW r48.2)]) ⟨z,z,z,z,z,z,trivial⟩ ?_
 refine x_seq (csr ?_)
 refine r_mv z (r_as z ?_)
 refine r_nil (x_seq (c_reg ?_))
 refine r_mv z ?_
 refine r_u (o_ldn 0 (AI.c r48.1) ag35 z z z z) ?_
 obtain ⟨r51,hr51,hm60⟩:=bs hm49
 refine rl_st (fun _ h=>mv4 (mv4 (mv4 (mv4 h)))) ?_
 refine r_sw (s_w (o_call ca15 z (AC.ok b36 _ (⟨(pv40,g41),(pv43,g44),g45⟩:Ad.G) _ _ hr51))) ?_
 rintro _ R _ _ ⟨⟨⟨pv54,g55⟩,⟨pv57,g58⟩,g59⟩,rfl,rfl,rfl⟩
 refine r_nil (x_blk (x_seq (c_reg ?_)))
 refine r_mv z (r_bin z z (bI_add _ 1) (r_as z ?_))
 refine r_nil ?_
 refine ex_st (fun _ h=>st_some (f:=Ad.op (⟨(pv54,g55),(pv57,g58),g59⟩:Ad.G)) (a:=r51.2.2) (st_star_f (A:=Ad.fl b36 r51.2.2 (⟨(pv54,g55),(pv57,g58),g59⟩:Ad.G)) h)) ?_
 exact x_lp ((some r51.2.2),r48.2,i64 (i_26+1),(pt b36 0,(⟨(pv54,g55),(pv57,g58),g59⟩:Ad.G))) hm60 ⟨z,z,z,z,z,trivial⟩ (pk 3 [2,0])
def Bn(r12:List Str)(x7:Ah):Nat→(List Ak)→Int→Option (List Ak)
 | 0,_,_=>none
 | k23+1,out_20,s_21=>if decide (s_21<(r12.length:Int)) then (gi r12 s_21).bind fun x28=>lt (Az x7 x28) fun r30=>(apd 48 out_20 [r30.1]).bind fun l35=>Bn r12 x7 k23 l35 (i64 (s_21+1)) else some out_20
def BC(a0:Ad):Option (List Ak) :=
 om a0.t (none) fun x7=>(A8 x7).bind fun r12=>Option.bind (Bn r12 x7 (((r12.length:Int)-0).toNat+1) [] 0) fun p15=>some p15
theorem BC.ok{G R F}(b0_:Nat)(a0:Ad)(g0_:Ad.G)(r:List Ak)(hm:BC a0=some r):CO Tryz.prog 16 [pt b0_ 0] G R (Bk b0_ 96 (Ad.k a0 g0_)::rO (Ah.op g0_.t.2) g0_.t.1 a0.t::rO (Ac.op g0_.p.2) g0_.p.1 a0.p::OwM vW Ao.v g0_.sessions a0.sessions::F)
  (Ret fun u R' L'=>∃p0,u=p0∧R'=R∧L'=OwS true 50 4 Ak.c p0 r::Bk b0_ 96 (Ad.k a0 g0_)::rO (Ah.op g0_.t.2) g0_.t.1 a0.t::rO (Ac.op g0_.p.2) g0_.p.1 a0.p::OwM vW Ao.v g0_.sessions a0.sessions::F):=by
 obtain ⟨⟨pv1,g2⟩,⟨pv4,g5⟩,g6⟩:=g0_
 unfold BC at hm
 refine co_ofN (N:=35) Tryz.func16 z z ?_
 refine csr ?_
 refine r_as z ?_
 refine nssr ?_
 refine r_mv z (r_bin z z (bP_eqp Tryz.underlying30) ?_)
 refine nsq ?_
 refine c_ff z ?_
 refine c_skip (x_seq (csr ?_))
 refine r_as z ?_
 refine r_nil (x_seq (c_seq (c_seq ?_)))
 refine cd_st (fun _ h=>mv1 h) ?_
 refine cd_opt (fun ho9 => ?_) (fun x7 b8 ho9 => ?_)
 ·rintro rfl
  have hm10:=om_n hm ho9
  cases hm10
 rintro rfl
 have hm10:=om_s hm ho9
 refine cd_st (fun _ h=>st_star_o h) ?_
 refine c_reg ?_
 refine r_mv z (r_nc z (r_fa fa96_1 z (r_ld 2 sc92 z z z ?_)))
 obtain ⟨r12,hr12,hm14⟩:=bs hm10
 refine r_sw (s_w (o_call ca39 z (A8.ok b8 x7 g2 _ hr12))) ?_
 rintro v13 R _ _ ⟨_,rfl,rfl,rfl⟩
 refine r_u (o_lenO 0 Tryz.underlying98 z z) (r_mv z ?_)
 refine nsq ?_
 obtain ⟨p15,hp17,hm18⟩:=bs hm14
 refine cd_cut (fun x ks=>∀(g16:Value),EX x .normal ks [(3,g16)] R (Bk b8 138 [g2.m,vI x7.bytes]::Bk b0_ 96 [vI a0.c.Policy,vI a0.c.Entries,vI a0.c.Bytes,vW a0.c.Seed,pt b8 0,pv4,g6,vW a0.seq,vW a0.now,vW a0.version,vI a0.tally.Asked,vI a0.tally.Hits]::OwS true 9 1 eS v13 r12::OwM vS Ak.v g2.m x7.m::rO (Ac.op g5) pv4 a0.p::OwM vW Ao.v g6 a0.sessions::OwS true 50 4 Ak.c g16 p15::F)) ?_ fun K19 => ?_
 ·intro g16
  refine x_seq (csr ?_)
  refine r_mv z (r_as z ?_)
  refine r_nil (x_seq (c_ret ?_))
  refine ex_st (fun _ h=>mv1 (mv3 h)) ?_
  refine ex_st (fun _ h=>st_some (f:=Ah.op g2) (a:=x7) (st_star_f (A:=Ah.fl b8 x7 g2) h)) ?_
  refine ex_st (fun _ h=>st_back ho9 h) ?_
  obtain rfl:=si hm18
  refine ex_st (pk 6 [5,1,0,3,4]) ?_
  exact x_r1 z (rv_t z) le_ ⟨_,z,g16,z,z,z⟩
 refine c_blk ?_
 refine cd_st (fun _ h=>st_nil (ap:=true) (T:=50) (sz:=4) (en:=Ak.c) h) ?_
 refine cd_loopG (M:=fun k23 (s:List Ak×Int×Value)=>Bn r12 x7 k23 s.1 s.2.1=some p15) (Ef:=fun (s:List Ak×Int×Value)=>[(0,pt b0_ 0),(14,v13),(15,vI (r12.length:Int)),(3,s.2.2),(16,vI s.2.1)]) (Rf:=fun (s:List Ak×Int×Value)=>R) (Lf:=fun (s:List Ak×Int×Value)=>Bk b8 138 [g2.m,vI x7.bytes]::Bk b0_ 96 [vI a0.c.Policy,vI a0.c.Entries,vI a0.c.Bytes,vW a0.c.Seed,pt b8 0,pv4,g6,vW a0.seq,vW a0.now,vW a0.version,vI a0.tally.Asked,vI a0.tally.Hits]::OwS true 9 1 eS v13 r12::OwM vS Ak.v g2.m x7.m::rO (Ac.op g5) pv4 a0.p::OwM vW Ao.v g6 a0.sessions::OwS true 50 4 Ak.c s.2.2 s.1::F) (((r12.length:Int)-0).toNat+1) ([],0,.slice none 0 0) hp17 ⟨z,z,z,z,z,trivial⟩ (pk 7 [2,4,1,3,5,6,0]) (fun _ h=>by cases h) fun k23 s hM25 => ?_
 obtain ⟨out_20,s_21,g22⟩:=s
 have hm24:Bn r12 x7 (k23+1) out_20 s_21=some p15:=hM25
 rw [Bn] at hm24
 refine csr ?_
 refine r_bin z z (bI_lt _ _) ?_
 refine r_nil (x_seq (c_seq ?_))
 refine c_if (b:=decide (s_21<(r12.length:Int))) z (fun h26 => ?_) fun h26 => ?_
 rotate_left
 ·have hm27:=iff_ hm24 h26
  refine c_exit (x_exit (ks':=_) z ?_)
  obtain rfl:=si hm27
  exact x_sub (K19 g22) ⟨z,trivial⟩ (pk 7 [0,1,2,3,4,5,6])
 have hm27:=ift hm24 h26
 refine c_skip (x_seq (c_seq (c_blk (csr ?_))))
 obtain ⟨x28,hx28,hm29⟩:=bs hm27
 refine r_u (o_ixO 2 Tryz.underlying98 (fun _=>by kernel_rfl) z z z hx28) (r_u (o_ldO0 2 sc9 z z hx28 z z) (r_as z ?_))
 refine nsr ?_
 refine r_mv z (r_nc z (r_fa fa96_1 z (r_ld 1 sc92 z z z (r_mv z ?_))))
 obtain ⟨r30,hr30,hm31⟩:=ltx hm29
 refine rl_st (fun _ h=>mv1 (mv3 h)) ?_
 refine r_c (s_w (o_call ca40 z (Az.ok b8 x7 g2 _ _ hr30))) ?_
 refine r_mv z ?_
 refine r_ext z z ?_
 refine r_ext z z ?_
 refine r_new (o_al ze50) fun b32 => ?_
 refine r_u0 (o_stn ag50 z z z z z z z) ?_
 refine r_as z ?_
 refine r_nil (x_seq (c_reg ?_))
 refine r_mv z ?_
 refine r_u (o_ldn 0 (Ak.c r30.1) ag50 z z z z) ?_
 refine r_sw (s_w (o_bsl (en:=Ak.c) (sz:=4) (e:=50) (cs:=[vS r30.1.Key,vS r30.1.Value,vW r30.1.Version,vW r30.1.End]) (r:=[r30.1]) z (fun _=>by kernel_rfl) z (by decide) z (fun _=>z))) ?_
 rintro v33 R _ _ ⟨rfl,rfl⟩
 obtain ⟨l35,hl35,hm36⟩:=bs hm31
 refine rl_st (fun _ h=>mv8 h) ?_
 refine r_sw (s_w (o_ap (sz:=4) (bytes:=48) 0 Tryz.underlying44 rfl rfl rfl rfl rfl (by decide) (by decide) (fun _ _ _ h=>by simp [Ak.c] at h;rcases h with rfl | rfl | rfl | rfl <;> rfl) (fun _=>rfl) rfl rfl rfl rfl (Nat.succ_pos _) hl35)) ?_
 rintro v34 R _ _ ⟨rfl,rfl⟩
 refine r_as z ?_
 refine r_nil (x_blk (x_seq (c_reg ?_)))
 refine r_bin z z (bI_add _ 1) (r_mv z ?_)
 refine r_nil ?_
 exact x_lp (l35,i64 (s_21+1),v34) hm36 ⟨z,z,z,z,z,trivial⟩ (pk 9 [3,5,6,4,7,8,0])
def BT : Option Bool :=
 (Cp (⟨1,2,100,0⟩:Au)).bind fun r0=>om r0.1 (none) fun x5=>(AC x5 (⟨1,0,1,1,(⟨2,[107],[118],0,0⟩:AA)⟩:AI)).bind fun r16=>(AC r16.2.2 (⟨2,0,1,2,(⟨1,[107],[],0,0⟩:AA)⟩:AI)).bind fun r27=>if (((((r0.2==0)&&(r16.2.1==0))&&(r27.2.1==0))&&(r16.1.Version==1))&&(r27.1.Value==[118])) then if ((AZ r27.2.2)==2) then (BC r27.2.2).bind fun r42=>some ((r42.length:Int)==1) else some false else some false
theorem BT.ok{G R F}(r:Bool)(hm:BT=some r):CO Tryz.prog 12 [] G R (F)
  (Ret fun u R' L'=>u=vB r∧R'=R∧L'=F):=by
 unfold BT at hm
 refine co_ofN (N:=57) Tryz.func12 z z ?_
 refine csr ?_
 refine r_as z ?_
 refine nsr ?_
 refine r_u (o_bld [vI 1,vI 2,vI 100,vW 0] z (fun _=>by kernel_rfl)) ?_
 obtain ⟨r0,hr0,hm4⟩:=bs hm
 refine r_sw (s_w (o_call ca19 z (Cp.ok (⟨1,2,100,0⟩:Au) _ hr0))) ?_
 rintro _ R _ _ ⟨⟨pv2,g3⟩,rfl,rfl,rfl⟩
 refine r_mv z ?_
 refine r_ext z z ?_
 refine r_ext z z (r_as z (r_as z ?_))
 refine r_nil (x_seq (c_seq ?_))
 refine cd_opt (fun ho7 => ?_) (fun x5 b6 ho7 => ?_)
 ·rintro rfl
  have hm8:=om_n hm4 ho7
  cases hm8
 rintro rfl
 have hm8:=om_s hm4 ho7
 obtain ⟨⟨pv10,g11⟩,⟨pv13,g14⟩,g15⟩:=g3
 refine cd_st (fun _ h=>st_star_o h) ?_
 refine c_reg ?_
 refine r_mv z ?_
 refine r_u (o_bld [vI 2,vS [107],vS [118],vW 0,vW 0] z (fun _=>by kernel_rfl)) ?_
 refine r_u (o_bld [vW 1,vW 0,vW 1,vW 1,vI 2,vS [107],vS [118],vW 0,vW 0] z (fun _=>by kernel_rfl)) ?_
 obtain ⟨r16,hr16,hm25⟩:=bs hm8
 refine r_sw (s_w (o_call ca15 z (AC.ok b6 x5 (⟨(pv10,g11),(pv13,g14),g15⟩:Ad.G) (⟨1,0,1,1,(⟨2,[107],[118],0,0⟩:AA)⟩:AI) _ hr16))) ?_
 rintro _ R _ _ ⟨⟨⟨pv19,g20⟩,⟨pv22,g23⟩,g24⟩,rfl,rfl,rfl⟩
 refine r_mv z ?_
 refine r_ext z z ?_
 refine r_ext z z ?_
 refine r_new (o_al ze41) fun b26 => ?_
 refine r_u0 (o_stn ag41 z z z z z z z) ?_
 refine r_as z ?_
 refine nsr ?_
 refine r_mv z ?_
 refine r_u (o_bld [vI 1,vS [107],vS [],vW 0,vW 0] z (fun _=>by kernel_rfl)) ?_
 refine r_u (o_bld [vW 2,vW 0,vW 1,vW 2,vI 1,vS [107],vS [],vW 0,vW 0] z (fun _=>by kernel_rfl)) ?_
 obtain ⟨r27,hr27,hm36⟩:=bs hm25
 refine rl_st (fun _ h=>mv4 (mv4 (mv4 (mv4 h)))) ?_
 refine r_sw (s_w (o_call ca15 z (AC.ok b6 _ (⟨(pv19,g20),(pv22,g23),g24⟩:Ad.G) (⟨2,0,1,2,(⟨1,[107],[],0,0⟩:AA)⟩:AI) _ hr27))) ?_
 rintro _ R _ _ ⟨⟨⟨pv30,g31⟩,⟨pv33,g34⟩,g35⟩,rfl,rfl,rfl⟩
 refine r_mv z ?_
 refine r_ext z z ?_
 refine r_ext z z ?_
 refine r_new (o_al ze41) fun b37 => ?_
 refine r_u0 (o_stn ag41 z z z z z z z) ?_
 refine r_as z ?_
 refine r_nil (x_seq (c_seq ?_))
 refine cd_by (((((r0.2==0)&&(r16.2.1==0))&&(r27.2.1==0))&&(r16.1.Version==1))&&(r27.1.Value==[118])) (fun h38 => ?_) fun h38 => ?_
 rotate_left
 ·have hm39:=iff_ hm36 h38
  refine c_reg ?_
  refine r_mv z (r_bin z z (bI_eq _ 0) (r_mv z ?_))
  refine r_s (s_gt z z fun g=>o_mv z) ?_
  refine r_s (s_gt z z fun g=>o_bin (evg z g) z (bI_eq _ 0)) ?_
  refine r_u (o_and z z) (r_mv z ?_)
  refine r_s (s_gt z z fun g=>o_mv z) ?_
  refine r_s (s_gt z z fun g=>o_bin (evg z g) z (bI_eq _ 0)) ?_
  refine r_u (o_and z z) (r_mv z ?_)
  refine r_s (s_gt z z fun g=>o_fa fa41_2 z) ?_
  refine r_s (s_gt z z fun g=>o_ld 5 sc22 (evg z g) z z) ?_
  refine r_s (s_gt z z fun g=>o_bin (evg z g) z (bW_eq _ 1)) ?_
  refine r_u (o_and z z) (r_mv z ?_)
  refine r_s (s_gt z z fun g=>o_fa fa41_1 z) ?_
  refine r_s (s_gt z z fun g=>o_ld 0 sc9 (evg z g) z z) ?_
  refine r_s (s_gt z z fun g=>o_bin (evg z g) z (bS_eq _ [118])) ?_
  refine r_u (o_and z z) (r_mv z ?_)
  refine r_s (s_n z z h38) ?_
  refine r_s (s_n z z h38) ?_
  refine r_s (s_n z z h38) ?_
  refine r_u (o_pf z h38 z) (r_mv z ?_)
  refine r_s (s_n z z z) ?_
  refine r_s (s_n z z z) ?_
  refine r_s (s_n z z z) ?_
  refine r_s (s_n z z z) ?_
  refine r_u (o_pf z z z) (r_as z ?_)
  refine r_nil (x_seq (c_ret ?_))
  obtain rfl:=si hm39
  refine ex_st (pk 6 []) ?_
  exact x_r1 z (rv_t z) le_ ⟨_,z,z,z,z⟩
 have hm39:=ift hm36 h38
 refine cd_by ((AZ r27.2.2)==2) (fun h40 => ?_) fun h40 => ?_
 ·have hm41:=ift hm39 h40
  refine c_reg ?_
  refine r_mv z (r_bin z z (bI_eq _ 0) (r_mv z ?_))
  refine r_s (s_gt z z fun g=>o_mv z) ?_
  refine r_s (s_gt z z fun g=>o_bin (evg z g) z (bI_eq _ 0)) ?_
  refine r_u (o_and z z) (r_mv z ?_)
  refine r_s (s_gt z z fun g=>o_mv z) ?_
  refine r_s (s_gt z z fun g=>o_bin (evg z g) z (bI_eq _ 0)) ?_
  refine r_u (o_and z z) (r_mv z ?_)
  refine r_s (s_gt z z fun g=>o_fa fa41_2 z) ?_
  refine r_s (s_gt z z fun g=>o_ld 5 sc22 (evg z g) z z) ?_
  refine r_s (s_gt z z fun g=>o_bin (evg z g) z (bW_eq _ 1)) ?_
  refine r_u (o_and z z) (r_mv z ?_)
  refine r_s (s_gt z z fun g=>o_fa fa41_1 z) ?_
  refine r_s (s_gt z z fun g=>o_ld 0 sc9 (evg z g) z z) ?_
  refine r_s (s_gt z z fun g=>o_bin (evg z g) z (bS_eq _ [118])) ?_
  refine r_u (o_and z z) (r_mv z ?_)
  refine r_s (s_y z z h38 (o_mv z)) ?_
  refine rl_st (fun _ h=>mv4 (mv4 (mv4 (mv4 h)))) ?_
  refine r_c (s_yw z z h38 (o_call ca14 z (AZ.ok b6 r27.2.2 (⟨(pv30,g31),(pv33,g34),g35⟩:Ad.G) _ z))) ?_
  refine r_s (s_y z z h38 (o_bin z z (bW_eq _ 2))) ?_
  refine r_u (o_pt z h38 z) (r_mv z ?_)
  refine r_s (s_y z z h40 (o_mv z)) ?_
  obtain ⟨r42,hr42,hm44⟩:=bs hm41
  refine r_sw (s_yw z z h40 (o_call ca16 z (BC.ok b6 _ (⟨(pv30,g31),(pv33,g34),g35⟩:Ad.G) _ hr42))) ?_
  rintro v43 R _ _ ⟨_,rfl,rfl,rfl⟩
  refine r_s (s_y z z h40 (o_lenO 0 Tryz.underlying44 z z)) ?_
  refine r_s (s_y z z h40 (o_bin z z (bI_eq _ 1))) ?_
  refine r_u (o_pt z h40 z) (r_as z ?_)
  refine r_nil (x_seq (c_ret ?_))
  obtain rfl:=si hm44
  refine ex_st (pk 7 []) ?_
  exact x_r1 z (rv_t z) le_ ⟨_,z,z,z,z⟩
 have hm41:=iff_ hm39 h40
 refine c_reg ?_
 refine r_mv z (r_bin z z (bI_eq _ 0) (r_mv z ?_))
 refine r_s (s_gt z z fun g=>o_mv z) ?_
 refine r_s (s_gt z z fun g=>o_bin (evg z g) z (bI_eq _ 0)) ?_
 refine r_u (o_and z z) (r_mv z ?_)
 refine r_s (s_gt z z fun g=>o_mv z) ?_
 refine r_s (s_gt z z fun g=>o_bin (evg z g) z (bI_eq _ 0)) ?_
 refine r_u (o_and z z) (r_mv z ?_)
 refine r_s (s_gt z z fun g=>o_fa fa41_2 z) ?_
 refine r_s (s_gt z z fun g=>o_ld 5 sc22 (evg z g) z z) ?_
 refine r_s (s_gt z z fun g=>o_bin (evg z g) z (bW_eq _ 1)) ?_
 refine r_u (o_and z z) (r_mv z ?_)
 refine r_s (s_gt z z fun g=>o_fa fa41_1 z) ?_
 refine r_s (s_gt z z fun g=>o_ld 0 sc9 (evg z g) z z) ?_
 refine r_s (s_gt z z fun g=>o_bin (evg z g) z (bS_eq _ [118])) ?_
 refine r_u (o_and z z) (r_mv z ?_)
 refine r_s (s_y z z h38 (o_mv z)) ?_
 refine rl_st (fun _ h=>mv4 (mv4 (mv4 (mv4 h)))) ?_
 refine r_c (s_yw z z h38 (o_call ca14 z (AZ.ok b6 r27.2.2 (⟨(pv30,g31),(pv33,g34),g35⟩:Ad.G) _ z))) ?_
 refine r_s (s_y z z h38 (o_bin z z (bW_eq _ 2))) ?_
 refine r_u (o_pt z h38 z) (r_mv z ?_)
 refine r_s (s_n z z h40) ?_
 refine r_s (s_n z z h40) ?_
 refine r_s (s_n z z h40) ?_
 refine r_s (s_n z z h40) ?_
 refine r_u (o_pf z h40 z) (r_as z ?_)
 refine r_nil (x_seq (c_ret ?_))
 obtain rfl:=si hm41
 refine ex_st (pk 6 []) ?_
 exact x_r1 z (rv_t z) le_ ⟨_,z,z,z,z⟩
def Br(a0:Ah)(r3:List Str):Nat→Str→Int→Option (Str)
 | 0,_,_=>none
 | k12+1,out_10,s_11=>if decide (s_11<(r3.length:Int)) then (gi r3 s_11).bind fun x17=>(BU x17).bind fun r20=>(BU (((mget a0.m x17).getD ((⟨[],[],0,0⟩:Ak):Ak)).Value)).bind fun r22=>if r20.length+r22.length≤maxS then (Ay (((mget a0.m x17).getD ((⟨[],[],0,0⟩:Ak):Ak)).Version)).bind fun r26=>if (r20++r22).length+r26.length≤maxS then (Ay (((mget a0.m x17).getD ((⟨[],[],0,0⟩:Ak):Ak)).End)).bind fun r30=>if ((r20++r22)++r26).length+r30.length≤maxS then if out_10.length+(((r20++r22)++r26)++r30).length≤maxS then Br a0 r3 k12 (out_10++(((r20++r22)++r26)++r30)) (i64 (s_11+1)) else none else none else none else none else some out_10
def BV(a0:Ah):Option Str :=
 (Ay (toW (a0.m.length:Int))).bind fun r1=>(A8 a0).bind fun r3=>Option.bind (Br a0 r3 (((r3.length:Int)-0).toNat+1) r1 0) fun p6=>some p6
theorem BV.ok{G R F}(b0_:Nat)(a0:Ah)(g0_:Ah.G)(r:Str)(hm:BV a0=some r):CO Tryz.prog 50 [pt b0_ 0] G R (Bk b0_ 138 [g0_.m,vI a0.bytes]::OwM vS Ak.v g0_.m a0.m::F)
  (Ret fun u R' L'=>u=vS r∧R'=R∧L'=Bk b0_ 138 [g0_.m,vI a0.bytes]::OwM vS Ak.v g0_.m a0.m::F):=by
 unfold BV at hm
 refine co_ofN (N:=47) Tryz.func50 z z ?_
 refine csr ?_
 refine r_as z ?_
 refine nssr ?_
 refine r_mv z (r_bin z z (bP_eqp Tryz.underlying92) ?_)
 refine nsq ?_
 refine c_ff z ?_
 refine c_skip (x_seq (csr ?_))
 refine r_mv z (r_nc z (r_fa fa138_0 z (r_ld 0 sc136 z z z ?_)))
 refine r_u (o_lenM (kv:=vS) (vv:=Ak.v) 1 Tryz.underlying136 z z) (r_u (o_cv z (cIW Tryz.underlying3 Tryz.underlying22 (a0.m.length:Int))) ?_)
 obtain ⟨r1,hr1,hm2⟩:=bs hm
 refine r_u (o_callq ca49 z (Ay.ok _ _ hr1)) (r_as z ?_)
 refine nssr ?_
 refine r_mv z ?_
 obtain ⟨r3,hr3,hm5⟩:=bs hm2
 refine r_sw (s_w (o_call ca39 z (A8.ok b0_ a0 g0_ _ hr3))) ?_
 rintro v4 R _ _ ⟨_,rfl,rfl,rfl⟩
 refine r_u (o_lenO 0 Tryz.underlying98 z z) (r_mv z ?_)
 refine nsq ?_
 obtain ⟨p6,hp7,hm8⟩:=bs hm5
 refine cd_join (E':=[(3,vS p6)]) (L':=Bk b0_ 138 [g0_.m,vI a0.bytes]::OwS true 9 1 eS v4 r3::OwM vS Ak.v g0_.m a0.m::F) ?_ fun K9 => ?_
 ·refine x_seq (csr ?_)
  refine r_mv z (r_as z ?_)
  refine r_nil (x_seq (c_ret ?_))
  obtain rfl:=si hm8
  refine ex_st (pk 3 [0,2]) ?_
  exact x_r1 z (rv_t z) le_ ⟨_,z,z,z,z⟩
 refine c_blk ?_
 refine cd_loop (M:=fun k12 (s:Str×Int)=>Br a0 r3 k12 s.1 s.2=some p6) (Ef:=fun (s:Str×Int)=>[(0,pt b0_ 0),(17,v4),(18,vI (r3.length:Int)),(3,vS s.1),(19,vI s.2)]) (Lf:=fun (s:Str×Int)=>Bk b0_ 138 [g0_.m,vI a0.bytes]::OwS true 9 1 eS v4 r3::OwM vS Ak.v g0_.m a0.m::F) (((r3.length:Int)-0).toNat+1) (r1,0) hp7 ⟨z,z,z,z,z,trivial⟩ (pk 3 [1,0,2]) (fun _ h=>by cases h) fun k12 s hM14 => ?_
 obtain ⟨out_10,s_11⟩:=s
 have hm13:Br a0 r3 (k12+1) out_10 s_11=some p6:=hM14
 rw [Br] at hm13
 refine csr ?_
 refine r_bin z z (bI_lt _ _) ?_
 refine r_nil (x_seq (c_seq ?_))
 refine c_if (b:=decide (s_11<(r3.length:Int))) z (fun h15 => ?_) fun h15 => ?_
 rotate_left
 ·have hm16:=iff_ hm13 h15
  refine c_exit (x_exit (ks':=_) z ?_)
  obtain rfl:=si hm16
  exact x_sub K9 ⟨z,trivial⟩ (pk 3 [0,1,2])
 have hm16:=ift hm13 h15
 refine c_skip (x_seq (c_seq (c_blk (csr ?_))))
 obtain ⟨x17,hx17,hm18⟩:=bs hm16
 refine r_u (o_ixO 1 Tryz.underlying98 (fun _=>by kernel_rfl) z z z hx17) (r_u (o_ldO0 1 sc9 z z hx17 z z) (r_as z ?_))
 refine nsr ?_
 refine r_mv z (r_nc z (r_fa fa138_0 z (r_ld 0 sc136 z z z (r_mv z ?_))))
 refine r_u (o_lk1 (kv:=vS) (vv:=Ak.v) (key:=x17) (z0:=((⟨[],[],0,0⟩:Ak):Ak)) 2 Tryz.underlying136 (kok_S Tryz.underlying9) (fun _=>by kernel_rfl) z z z) ?_
 refine r_new (o_al ze50) fun b19 => ?_
 refine r_u0 (o_stn ag50 z z z z z z z) ?_
 refine nsq ?_
 obtain ⟨r20,hr20,hm21⟩:=bs hm18
 obtain ⟨r22,hr22,hm23⟩:=bs hm21
 obtain ⟨h24,hm25⟩:=ig hm23
 obtain ⟨r26,hr26,hm27⟩:=bs hm25
 obtain ⟨h28,hm29⟩:=ig hm27
 obtain ⟨r30,hr30,hm31⟩:=bs hm29
 obtain ⟨h32,hm33⟩:=ig hm31
 obtain ⟨h34,hm35⟩:=ig hm33
 refine c_any mixed (effs:=[]) (V:=[]) ?_
 refine stn [0,0,2,0,8,30,62,0,128,446,1022,0,2048,7102,16382,32767,65535] [0,1,2,3,4,5,6,7,8,9,10,11,12,13,14,15,16] [] [_,_,_,_,_,_,_,_,_,_,_,_,_,_,_,_,_] (q_mv z z z (q_mv z z z (q_u z z (o_callq ca90 z (BU.ok _ _ hr20)) (q_fa z z fa50_1 z (q_ld z z 0 sc9 z z z (q_u z z (o_callq ca90 z (BU.ok (((mget a0.m x17).getD ((⟨[],[],0,0⟩:Ak):Ak)).Value) _ hr22)) (q_u z z (o_bin z z (bS_add _ _ h24)) (q_fa z z fa50_2 z (q_ld z z 0 sc22 z z z (q_u z z (o_callq ca49 z (Ay.ok (((mget a0.m x17).getD ((⟨[],[],0,0⟩:Ak):Ak)).Version) _ hr26)) (q_u z z (o_bin z z (bS_add _ _ h28)) (q_fa z z fa50_3 z (q_ld z z 0 sc22 z z z (q_u z z (o_callq ca49 z (Ay.ok (((mget a0.m x17).getD ((⟨[],[],0,0⟩:Ak):Ak)).End) _ hr30)) (q_u z z (o_bin z z (bS_add _ _ h32)) (q_u z z (o_bin z z (bS_add _ _ h34)) (q_u z z (o_as z) qn))))))))))))))))) en ?_
 intro _
 refine ex_sub (E':=[(0,pt b0_ 0),(17,v4),(18,vI (r3.length:Int)),(3,vS (out_10++(((r20++r22)++r26)++r30))),(19,vI s_11)]) ⟨z,z,z,z,z,trivial⟩ ?_
 refine x_blk (x_seq (c_reg ?_))
 refine r_bin z z (bI_add _ 1) (r_mv z ?_)
 refine r_nil ?_
 exact x_lp (out_10++(((r20++r22)++r26)++r30),i64 (s_11+1)) hm35 ⟨z,z,z,z,z,trivial⟩ (pk 4 [1,2,3])
def Dk:Option Ab→Nat
 | none=>1
 | some r=>r.slots.length+1
def Bm(a2:Int)(x2:Ab):Nat→Int→Option (List Str)
 | 0,_=>none
 | k19+1,i_18=>if (i_18 != a2) then (gi x2.slots i_18).bind fun x24=>(Bm a2 x2 k19 x24.next).bind fun r_=>some (x24.key::r_) else some []
def B4(a1:Option Ab)(a2:Int):Option (List Str) :=
 om a1 (none) fun x2=>if !(Bo x2 a2) then some [] else (gi x2.slots a2).bind fun x12=>Option.bind (Bm a2 x2 (Dk a1) x12.next) fun p14=>some p14
theorem B4.ok{G R}(b1_:Nat)(a1:Option Ab)(g1_:Value×Ab.G)(b2_:Nat)(a2:Int)(r:List Str)(hm:B4 a1 a2=some r):
  Gives Tryz.prog G R 231 [pt b1_ 0,pt b2_ 0] vS r [Bk b1_ 191 [g1_.1],rO (Ab.op g1_.2) g1_.1 a1,Bk b2_ 3 [vI a2]]:=by
 intro l F Inv h0 hY
 change CO Tryz.prog 231 [.func (.yield l) #[] #[],pt b1_ 0,pt b2_ 0] G R (Bk b1_ 191 [g1_.1]::rO (Ab.op g1_.2) g1_.1 a1::Bk b2_ 3 [vI a2]::F) (Ret fun u R' L'=>u = .tuple #[]∧R'=R∧∃F',L'=Bk b1_ 191 [g1_.1]::rO (Ab.op g1_.2) g1_.1 a1::Bk b2_ 3 [vI a2]::F'∧Inv r F')
 obtain ⟨pv0,g1⟩:=g1_
 unfold B4 at hm
 refine co_ofN (N:=39) Tryz.func231 rfl rfl ?_
 refine c_seq (c_seq ?_)
 refine cd_st (pk 3 [1,0,2]) ?_
 refine cd_opt (fun ho4 => ?_) (fun x2 b3 ho4 => ?_)
 ·rintro rfl
  have hm5:=om_n hm ho4
  cases hm5
 rintro rfl
 have hm5:=om_s hm ho4
 refine cd_st (fun _ h=>st_star_o h) ?_
 refine c_reg ?_
 refine r_u (o_ld 5 sc191 rfl rfl rfl) (r_u (o_ld 6 sc3 rfl rfl rfl) ?_)
 refine r_c (s_w (o_call ca210 rfl (Bo.ok b3 x2 g1 a2 _ rfl))) ?_
 refine r_u (o_not rfl) ?_
 refine r_nil (x_seq ?_)
 refine c_if (b := !(Bo x2 a2)) rfl (fun h10 => ?_) fun h10 => ?_
 ·have hm11:=ift hm5 h10
  refine c_ret ?_
  refine ex_st (fun _ h=>st_some (f:=Ab.op g1) (a:=x2) (st_star_f (A:=Ab.fl b3 x2 g1) h)) ?_
  refine ex_st (fun _ h=>st_back ho4 h) ?_
  obtain rfl:=si hm11
  refine ex_st (pk 3 [1,0,2]) ?_
  exact x_r0 rfl le_ ⟨_,rfl,rfl,rfl,F,rfl,h0⟩
 have hm11:=iff_ hm5 h10
 refine c_skip (x_seq (c_seq ?_))
 obtain ⟨x12,hx12,hm13⟩:=bs hm11
 refine c_any mixed (effs:=[]) (V:=[]) ?_
 refine stage_ext [(0,pt b3 0),(1,pt b3 0),(2,pt b3 1),(3,g1.slots),(4,vI a2),(5,pt (sb g1.slots) (so g1.slots+a2.toNat*4)),(6,pt (sb g1.slots) (so g1.slots+a2.toNat*4+3)),(7,vI x12.next),(8,vI x12.next)] rfl ?_
 refine stage rfl rfl rfl rfl [0,1,3,7,0,31,63,127,255] [0,1,2,3,4,5,6,7,8] [] rfl rfl rfl (qc rfl rfl (s_u (o_ld 5 sc191 rfl rfl rfl)) (qc rfl rfl (s_u (o_nc rfl)) (qc rfl rfl (s_u (o_fa fa237_1 rfl)) (qc rfl rfl (s_u (o_ld 0 sc233 rfl rfl rfl)) (qc rfl rfl (s_u (o_ld 6 sc3 rfl rfl rfl)) (qc rfl rfl (s_u (o_ixO 1 Tryz.underlying233 (fun _=>by kernel_rfl) rfl rfl rfl hx12)) (qc rfl rfl (s_u (o_fa fa240_3 rfl)) (qc rfl rfl (s_u (o_ldO 1 3 sc3 rfl rfl hx12 rfl rfl)) (qc rfl rfl (s_u (o_as rfl)) qn))))))))) en ?_
 intro _
 refine ex_sub (E':=[(0,.func (.yield l) #[] #[]),(1,pt b1_ 0),(2,pt b2_ 0),(4,vI x12.next)]) ⟨rfl,rfl,rfl,rfl,trivial⟩ ?_
 refine x_seq ?_
 obtain ⟨p14,hp15,hm16⟩:=bs hm13
 obtain rfl:=si hm16
 refine c_blk ?_
 refine cd_loop (σ:=Int×List HP×List Str) (M:=fun k19 s=>∃rest,Bm a2 x2 k19 s.1=some rest∧p14=s.2.2++rest∧Inv s.2.2 s.2.1) (Ef:=fun s=>[(0,.func (.yield l) #[] #[]),(1,pt b1_ 0),(2,pt b2_ 0),(4,vI s.1)]) (Lf:=fun s=>Bk b3 237 [vI x2.lists,g1.slots,g1.free,g1.at_,g1.many]::Bk b1_ 191 [pt b3 0]::Bk b2_ 3 [vI a2]::OwS true 240 4 Aq.c g1.slots x2.slots::OwS true 3 1 eI g1.free x2.free::OwM vS vI g1.at_ x2.at_::OwS true 3 1 eI g1.many x2.many::s.2.1) (Dk a1) (x12.next,F,[]) ⟨p14,hp15,rfl,h0⟩ ⟨rfl,rfl,rfl,rfl,trivial⟩ (pk 7 [0,5,6,1,2,3,4]) (fun s h=>by obtain ⟨_,h,_⟩:=h;simp [Bm] at h) fun k19 s hM21 => ?_
 obtain ⟨i_18,Fc,pre⟩:=s
 obtain ⟨rest,hm20,hpre,hInv⟩:=hM21
 replace hpre:p14=pre++rest:=hpre
 replace hInv:Inv pre Fc:=hInv
 change CD _ _ _ [(0,.func (.yield l) #[] #[]),(1,pt b1_ 0),(2,pt b2_ 0),(4,vI i_18)] R (Bk b3 237 [vI x2.lists,g1.slots,g1.free,g1.at_,g1.many]::Bk b1_ 191 [pt b3 0]::Bk b2_ 3 [vI a2]::OwS true 240 4 Aq.c g1.slots x2.slots::OwS true 3 1 eI g1.free x2.free::OwM vS vI g1.at_ x2.at_::OwS true 3 1 eI g1.many x2.many::Fc)
 replace hm20:Bm a2 x2 (k19+1) i_18=some rest:=hm20
 rw [Bm] at hm20
 refine c_seq (c_seq (c_reg ?_))
 refine r_u (o_mv rfl) (r_u (o_ld 2 sc3 rfl rfl rfl) (r_u (o_bin rfl rfl (bI_ne i_18 a2)) ?_))
 refine r_nil (x_seq ?_)
 refine c_if (b:=(i_18 != a2)) rfl (fun h22 => ?_) fun h22 => ?_
 ·have hm23:=ift hm20 h22
  refine c_skip (x_seq (c_seq (c_blk (c_seq (c_reg ?_)))))
  refine r_u (o_mv rfl) (r_u (o_ld 1 sc191 rfl rfl rfl) (r_u (o_nc rfl) (r_u (o_fa fa237_1 rfl) (r_u (o_ld 0 sc233 rfl rfl rfl) (r_u (o_mv rfl) ?_)))))
  obtain ⟨x24,hx24,hm25⟩:=bs hm23
  refine r_u (o_ixO 3 Tryz.underlying233 (fun _=>by kernel_rfl) rfl rfl rfl hx24) (r_u (o_fa fa240_0 rfl) (r_u (o_ldO0 3 sc9 rfl rfl hx24 rfl rfl) ?_))
  obtain ⟨r2,hr2,hm26⟩:=bs hm25
  obtain rfl:=si hm26
  refine r_w (o_yield rfl rfl (hY [Bk b3 237 [vI x2.lists,g1.slots,g1.free,g1.at_,g1.many],Bk b1_ 191 [pt b3 0],Bk b2_ 3 [vI a2],OwS true 240 4 Aq.c g1.slots x2.slots,OwS true 3 1 eI g1.free x2.free,OwM vS vI g1.at_ x2.at_,OwS true 3 1 eI g1.many x2.many] pre x24.key Fc hInv ⟨_,hpre⟩)) (fun v R' L' _ hC => ?_)
  obtain ⟨hv,hR',F',hL',hInv'⟩:=hC
  subst hv;subst hL';subst hR'
  refine r_u (o_not rfl) ?_
  refine r_nil (x_seq ?_)
  refine c_ff rfl ?_
  refine c_skip (x_blk (x_seq (c_reg ?_)))
  refine r_u (o_ld 1 sc191 rfl rfl rfl) (r_u (o_nc rfl) (r_u (o_fa fa237_1 rfl) (r_u (o_ld 0 sc233 rfl rfl rfl) (r_u (o_mv rfl) ?_))))
  refine r_u (o_ixO 3 Tryz.underlying233 (fun _=>by kernel_rfl) rfl rfl rfl hx24) (r_u (o_fa fa240_3 rfl) (r_u (o_ldO 3 3 sc3 rfl rfl hx24 rfl rfl) (r_u (o_as rfl) ?_)))
  refine r_nil ?_
  exact x_lp (x24.next,F',pre++[x24.key]) ⟨r2,hr2,by rw [hpre];simp,hInv'⟩ ⟨rfl,rfl,rfl,rfl,trivial⟩ (pk 7 [0,1,2,3,4,5,6])
 have hm23:=iff_ hm20 h22
 refine c_exit (x_exit (ks':=_) rfl ?_)
 obtain rfl:=si hm23
 rw [List.append_nil] at hpre
 subst hpre
 refine x_end ?_
 refine ex_st (pk 7 [0,3,4,5,6,1,2]) ?_
 refine ex_st (fun _ h=>st_some (f:=Ab.op g1) (a:=x2) (st_star_f (A:=Ab.fl b3 x2 g1) h)) ?_
 refine ex_st (fun _ h=>st_back ho4 h) ?_
 refine ex_st (pk 3 [1,0,2]) ?_
 exact x_r0 rfl le_ ⟨_,rfl,rfl,rfl,Fc,rfl,hInv⟩
theorem Di.ok{G R F}(pv:Value)(hpv:pv.cells = #[pv])(a1:Int):CO Tryz.prog 188 [pv,vI a1] G R F
  (Ret fun u R' L'=>∃b0 b1,u = .func (.func 231) #[] #[pt b0 0,pt b1 0]∧R'=R∧L'=Bk b1 3 [vI a1]::Bk b0 191 [pv]::F):=by
 refine co_ofN (N:=6) Tryz.func188 rfl rfl ?_
 refine c_seq (c_reg ?_)
 refine r_new (o_bx [pv] rfl hpv) fun b0 => ?_
 refine r_new (o_bx [vI a1] rfl rfl) fun b1 => ?_
 refine r_u (o_as rfl) ?_
 refine r_nil (x_seq (c_seq (c_reg ?_)))
 refine r_u (o_mf rfl) (r_u (o_as rfl) ?_)
 refine r_nil (x_seq (c_ret ?_))
 exact x_r1 rfl (rv_t rfl) le_ ⟨_,rfl,b0,b1,rfl,rfl,rfl⟩
def Cc:List Str→Str→Option Str
 | [],c=>some c
 | k::l,c=>(BU k).bind fun t=>if c.length+t.length≤maxS then Cc l (c++t) else none
theorem De{l r:List Str}: ∀{c:Str},Cc (l++r) c=(Cc l c).bind fun d=>Cc r d:=by
 induction l with
 | nil=>intro c;rfl
 | cons k l ih =>
  intro c
  simp only [List.cons_append,Cc]
  cases BU k with
  | none=>rfl
  | some t =>
   simp only [Option.bind_some]
   split
   ·exact ih
   ·rfl
def BA(a0:Ab):Nat→Int→Str→Option (Str)
 | 0,_,_=>none
 | k17+1,s_15,c_16=>if decide (s_15<a0.lists) then (gi a0.many s_15).bind fun x22=>(Ay (toW x22)).bind fun r24=>if c_16.length+r24.length≤maxS then (B4 (some a0) s_15).bind fun kz=>(Cc kz (c_16++r24)).bind fun c2=>BA a0 k17 (i64 (s_15+1)) c2 else none else some c_16
def BE(a0:Ab):Option Str :=
 (Ay (toW a0.lists)).bind fun r4=>(Ay (toW (i64 ((a0.slots.length:Int)-a0.lists)))).bind fun r6=>if r4.length+r6.length≤maxS then Option.bind (BA a0 ((a0.lists-0).toNat+1) 0 (r4++r6)) fun p11=>some p11 else none
theorem BE.ok{G R F}(b0_:Nat)(a0:Ab)(g0_:Ab.G)(r:Str)(hm:BE a0=some r):CO Tryz.prog 145 [pt b0_ 0] G R (Bk b0_ 237 [vI a0.lists,g0_.slots,g0_.free,g0_.at_,g0_.many]::OwS true 240 4 Aq.c g0_.slots a0.slots::OwS true 3 1 eI g0_.free a0.free::OwM vS vI g0_.at_ a0.at_::OwS true 3 1 eI g0_.many a0.many::F)
  (Ret fun u R' L'=>u=vS r∧R'=R∧L'=Bk b0_ 237 [vI a0.lists,g0_.slots,g0_.free,g0_.at_,g0_.many]::OwS true 240 4 Aq.c g0_.slots a0.slots::OwS true 3 1 eI g0_.free a0.free::OwM vS vI g0_.at_ a0.at_::OwS true 3 1 eI g0_.many a0.many::F):=by
 unfold BE at hm
 refine co_ofM (N:=55) Tryz.func145 rfl rfl ?_
 refine cd_st (pk 6 [1,2,3,4,5,0]) ?_
 refine c_seq (c_reg ?_)
 refine r_u (o_as rfl) ?_
 refine r_nil (x_seq (c_seq (c_seq (c_reg ?_))))
 refine r_u (o_mv rfl) (r_u (o_bin rfl rfl (bP_eqp Tryz.underlying191)) ?_)
 refine r_nil (x_seq ?_)
 refine c_ff rfl ?_
 refine c_skip (x_seq (c_seq ?_))
 obtain ⟨r4,hr4,hm5⟩:=bs hm
 obtain ⟨r6,hr6,hm7⟩:=bs hm5
 obtain ⟨h8,hm9⟩:=ig hm7
 refine c_any mixed (effs:=[19,20]) (V:=[]) ?_
 refine stage_ext [(0,pt b0_ 0),(1,pt b0_ 0),(2,pt b0_ 0),(3,vI a0.lists),(4,vW (toW a0.lists)),(5,vS r4),(6,pt b0_ 0),(7,pt b0_ 0),(8,pt b0_ 1),(9,g0_.slots),(10,vI (a0.slots.length:Int)),(11,pt b0_ 0),(12,pt b0_ 0),(13,pt b0_ 0),(14,vI a0.lists),(15,vI (i64 ((a0.slots.length:Int)-a0.lists))),(16,vW (toW (i64 ((a0.slots.length:Int)-a0.lists)))),(17,vS r6),(18,vS (r4++r6))] rfl ?_
 refine stage rfl rfl rfl rfl mk38_ [0,1,2,3,4,5,6,7,8,9,10,11,12,13,14,15,16,17,18] [19] rfl rfl rfl (qc rfl rfl (s_u (o_mv rfl)) (qc rfl rfl (s_u (o_nc rfl)) (qc rfl rfl (s_u (o_fa fa237_0 rfl)) (qc rfl rfl (s_u (o_ld 0 sc3 rfl rfl rfl)) (qc rfl rfl (s_u (o_cv rfl (cIW Tryz.underlying3 Tryz.underlying22 a0.lists))) (qc rfl rfl (s_u (o_callq ca49 rfl (Ay.ok (toW a0.lists) r4 hr4))) (qc rfl rfl (s_u (o_mv rfl)) (qc rfl rfl (s_u (o_nc rfl)) (qc rfl rfl (s_u (o_fa fa237_1 rfl)) (qc rfl rfl (s_u (o_ld 0 sc233 rfl rfl rfl)) (qc rfl rfl (s_u (o_lenO 1 Tryz.underlying233 rfl rfl)) (qc rfl rfl (s_u (o_mv rfl)) (qc rfl rfl (s_u (o_nc rfl)) (qc rfl rfl (s_u (o_fa fa237_0 rfl)) (qc rfl rfl (s_u (o_ld 0 sc3 rfl rfl rfl)) (qc rfl rfl (s_u (o_bin rfl rfl (bI_sub (a0.slots.length:Int) a0.lists))) (qc rfl rfl (s_u (o_cv rfl (cIW Tryz.underlying3 Tryz.underlying22 (i64 ((a0.slots.length:Int)-a0.lists))))) (qc rfl rfl (s_u (o_callq ca49 rfl (Ay.ok (toW (i64 ((a0.slots.length:Int)-a0.lists))) r6 hr6))) (qc rfl rfl (s_u (o_bin rfl rfl (bS_add r4 r6 h8))) qn))))))))))))))))))) ?_ (nxt rfl)
 refine ec (eo_n rfl (s_w (o_al ze9)) fun b10 => ?_) en
 refine stage rfl rfl rfl rfl mk38_ [0,1,2,3,4,5,6,7,8,9,10,11,12,13,14,15,16,17,18] [20] rfl rfl rfl (qc rfl rfl (s_u (o_mv rfl)) (qc rfl rfl (s_u (o_nc rfl)) (qc rfl rfl (s_u (o_fa fa237_0 rfl)) (qc rfl rfl (s_u (o_ld 1 sc3 rfl rfl rfl)) (qc rfl rfl (s_u (o_cv rfl (cIW Tryz.underlying3 Tryz.underlying22 a0.lists))) (qc rfl rfl (s_u (o_callq ca49 rfl (Ay.ok (toW a0.lists) r4 hr4))) (qc rfl rfl (s_u (o_mv rfl)) (qc rfl rfl (s_u (o_nc rfl)) (qc rfl rfl (s_u (o_fa fa237_1 rfl)) (qc rfl rfl (s_u (o_ld 1 sc233 rfl rfl rfl)) (qc rfl rfl (s_u (o_lenO 2 Tryz.underlying233 rfl rfl)) (qc rfl rfl (s_u (o_mv rfl)) (qc rfl rfl (s_u (o_nc rfl)) (qc rfl rfl (s_u (o_fa fa237_0 rfl)) (qc rfl rfl (s_u (o_ld 1 sc3 rfl rfl rfl)) (qc rfl rfl (s_u (o_bin rfl rfl (bI_sub (a0.slots.length:Int) a0.lists))) (qc rfl rfl (s_u (o_cv rfl (cIW Tryz.underlying3 Tryz.underlying22 (i64 ((a0.slots.length:Int)-a0.lists))))) (qc rfl rfl (s_u (o_callq ca49 rfl (Ay.ok (toW (i64 ((a0.slots.length:Int)-a0.lists))) r6 hr6))) (qc rfl rfl (s_u (o_bin rfl rfl (bS_add r4 r6 h8))) qn))))))))))))))))))) ?_ (nxt rfl)
 refine ec (eo_u rfl (s_u (o_st sc9 rfl rfl rfl rfl rfl rfl)) le_ ?_) en
 refine stage rfl rfl rfl rfl mk38_ [] [] rfl rfl rfl qn en ?_
 intro _
 refine ex_sub (E':=[(0,pt b0_ 0),(3,pt b10 0)]) ⟨rfl,rfl,trivial⟩ ?_
 refine x_seq (c_seq (c_seq (c_reg ?_)))
 refine r_u (o_mv rfl) (r_u (o_nc rfl) (r_u (o_fa fa237_0 rfl) (r_u (o_ld 1 sc3 rfl rfl rfl) (r_u (o_mv rfl) ?_))))
 refine r_nil (x_seq ?_)
 obtain ⟨p11,hp12,hm13⟩:=bs hm9
 obtain rfl:=si hm13
 refine c_blk ?_
 refine cd_loopD (σ:=Int×Str×List Deferred) (M:=fun k s=>BA a0 k s.1 s.2.1=some p11) (Df:=fun s=>s.2.2)
  (Ef:=fun s=>[(0,pt b0_ 0),(3,pt b10 0),(30,vI a0.lists),(31,vI s.1)]) (Rf:=fun _=>R)
  (Lf:=fun s=>Bk b10 9 [vS s.2.1]::Bk b0_ 237 [vI a0.lists,g0_.slots,g0_.free,g0_.at_,g0_.many]::OwS true 240 4 Aq.c g0_.slots a0.slots::OwS true 3 1 eI g0_.free a0.free::OwM vS vI g0_.at_ a0.at_::OwS true 3 1 eI g0_.many a0.many::MkC s.2.2::F)
  ((a0.lists-0).toNat+1) (0,r4++r6,[]) hp12 rfl ⟨rfl,rfl,rfl,rfl,trivial⟩ (fun _ h=>h) (fun s h=>by simp [BA] at h) fun k17 s hM19 => ?_
 obtain ⟨s_15,c_16,ds⟩:=s
 have hm18:BA a0 (k17+1) s_15 c_16=some p11:=hM19
 rw [BA] at hm18
 change CD _ _ _ [(0,pt b0_ 0),(3,pt b10 0),(30,vI a0.lists),(31,vI s_15)] R (Bk b10 9 [vS c_16]::Bk b0_ 237 [vI a0.lists,g0_.slots,g0_.free,g0_.at_,g0_.many]::OwS true 240 4 Aq.c g0_.slots a0.slots::OwS true 3 1 eI g0_.free a0.free::OwM vS vI g0_.at_ a0.at_::OwS true 3 1 eI g0_.many a0.many::MkC ds::F)
 refine c_seq (c_reg ?_)
 refine r_u (o_bin rfl rfl (bI_lt s_15 a0.lists)) ?_
 refine r_nil (x_seq (c_seq ?_))
 refine c_if (b:=decide (s_15<a0.lists)) rfl (fun h20 => ?_) fun h20 => ?_
 rotate_left
 ·have hm21:=iff_ hm18 h20
  refine c_exit (x_exit (ks':=_) rfl ?_)
  obtain rfl:=si hm21
  refine x_seq (c_seq (c_reg ?_))
  refine r_u (o_ld 0 sc9 rfl rfl rfl) (r_u (o_as rfl) ?_)
  refine r_nil (x_seq (c_ret ?_))
  refine ex_st (pk 7 [6,1,2,3,4,5]) ?_
  exact x_m1 rfl (rv_t rfl) (fun _ h=>h) le_ ⟨_,rfl,rfl,rfl,rfl⟩
 have hm21:=ift hm18 h20
 refine c_skip (x_seq (c_seq (c_blk (c_seq (c_reg ?_)))))
 refine r_u (o_mv rfl) (r_u (o_as rfl) ?_)
 refine r_nil (x_seq (c_seq ?_))
 obtain ⟨x22,hx22,hm23⟩:=bs hm21
 obtain ⟨r24,hr24,hm25⟩:=bs hm23
 obtain ⟨h26,hm27⟩:=ig hm25
 obtain ⟨kz,hkz,hm28⟩:=bs hm27
 obtain ⟨c2,hc2,hm29⟩:=bs hm28
 refine c_any mixed (effs:=[11]) (V:=[]) ?_
 refine stage_ext [(0,vS c_16),(1,pt b0_ 0),(2,pt b0_ 0),(3,pt b0_ 4),(4,g0_.many),(5,vI s_15),(6,pt (sb g0_.many) (so g0_.many+s_15.toNat*1)),(7,vI x22),(8,vW (toW x22)),(9,vS r24),(10,vS (c_16++r24))] rfl ?_
 refine stage rfl rfl rfl rfl mk13_ [0,1,2,3,4,5,6,7,8,9,10] [11] rfl rfl rfl (qc rfl rfl (s_u (o_ld 0 sc9 rfl rfl rfl)) (qc rfl rfl (s_u (o_mv rfl)) (qc rfl rfl (s_u (o_nc rfl)) (qc rfl rfl (s_u (o_fa fa237_4 rfl)) (qc rfl rfl (s_u (o_ld 1 sc234 rfl rfl rfl)) (qc rfl rfl (s_u (o_mv rfl)) (qc rfl rfl (s_u (o_ixO 5 Tryz.underlying234 (fun _=>by kernel_rfl) rfl rfl rfl hx22)) (qc rfl rfl (s_u (o_ldO0 5 sc3 rfl rfl hx22 rfl rfl)) (qc rfl rfl (s_u (o_cv rfl (cIW Tryz.underlying3 Tryz.underlying22 x22))) (qc rfl rfl (s_u (o_callq ca49 rfl (Ay.ok (toW x22) r24 hr24))) (qc rfl rfl (s_u (o_bin rfl rfl (bS_add c_16 r24 h26))) qn))))))))))) ?_ (nxt rfl)
 refine ec (eo_u rfl (s_u (o_st sc9 rfl rfl rfl rfl rfl rfl)) le_ ?_) en
 refine stage rfl rfl rfl rfl mk13_ [] [] rfl rfl rfl qn en ?_
 intro _
 refine ex_sub (E':=[(0,pt b0_ 0),(3,pt b10 0),(30,vI a0.lists),(31,vI s_15),(4,vI s_15)]) ⟨rfl,rfl,rfl,rfl,rfl,trivial⟩ ?_
 refine x_seq (c_seq (c_reg ?_))
 refine r_u (o_mv rfl) (r_u (o_mv rfl) ?_)
 refine r_w (o_call ca188 rfl (Di.ok (pt b0_ 0) rfl s_15)) (fun v R L' _ hC => ?_)
 obtain ⟨c0,c1,rfl,rfl,rfl⟩:=hC
 refine r_nil ?_
 refine ex_sub (E':=[(0,pt b0_ 0),(3,pt b10 0),(30,vI a0.lists),(31,vI s_15),(47,.func (.func 231) #[] #[pt c0 0,pt c1 0])]) ⟨rfl,rfl,rfl,rfl,rfl,trivial⟩ ?_
 refine x_seq (c_blk ?_)
 refine cd_st (pk 9 [3,4,5,6,7,0,1,2,8]) ?_
 refine cd_st (fun _ h=>st_some (f:=Ab.op g0_) (a:=a0) (st_star_f (A:=Ab.fl b0_ a0 g0_) h)) ?_
 refine cd_st (pk 5 [2,0,1,3,4]) ?_
 refine c_rangeR (kz:=kz) (A0:=[Bk c0 191 [pt b0_ 0],rO (Ab.op g0_) (pt b0_ 0) (some a0),Bk c1 3 [vI s_15]])
  (L0:=Bk b10 9 [vS (c_16++r24)]::MkC ds::F)
  (fun pre L=>∃c,Cc pre (c_16++r24)=some c∧L=Bk b10 9 [vS c]::MkC ds::F)
  rfl ca231 rfl (B4.ok c0 (some a0) (pt b0_ 0,g0_) c1 s_15 kz hkz) ⟨_,rfl,rfl⟩
  (E1:=fun k=>[(0,pt b0_ 0),(3,pt b10 0),(5,vS k),(30,vI a0.lists),(31,vI s_15)]) (fun k y e1 e2 e3 e4 ks L hx => ?_) (fun l T pre k L1 hi hl => ?_) (fun D L1 hi => ?_)
 ·refine c_reg ?_
  refine r_u (o_as rfl) ?_ (by rw [e3];rfl)
  refine r_nil ?_
  exact ex_sub (E':=[(0,pt b0_ 0),(3,pt b10 0),(5,vS k),(30,vI a0.lists),(31,vI s_15)]) ⟨rfl,rfl,rfl,rfl,rfl,trivial⟩ hx
 ·obtain ⟨c,hc,rfl⟩:=hi
  obtain ⟨rest,hrest⟩:=hl
  have h30:=hc2
  rw [hrest,De,hc,Option.bind_some,Cc] at h30
  obtain ⟨t,ht,h31⟩:=bs h30
  obtain ⟨h32,h33⟩:=ig h31
  change CD _ _ _ _ R (Bk b10 9 [vS c]::MkC ds::(F++T))
  refine c_blk ?_
  refine c_any mixed (effs:=[4]) (V:=[]) ?_
  refine stage_ext [(0,vS c),(1,vS k),(2,vS t),(3,vS (c++t))] rfl ?_
  refine stage rfl rfl rfl rfl [0,0,2,7,15] [0,1,2,3] [4] rfl rfl rfl (qc rfl rfl (s_u (o_ld 0 sc9 rfl rfl rfl)) (qc rfl rfl (s_u (o_mv rfl)) (qc rfl rfl (s_u (o_callq ca90 rfl (BU.ok k t ht))) (qc rfl rfl (s_u (o_bin rfl rfl (bS_add c t h32))) qn)))) ?_ (nxt rfl)
  refine ec (eo_u rfl (s_u (o_st sc9 rfl rfl rfl rfl rfl rfl)) le_ ?_) en
  refine stage rfl rfl rfl rfl [0,0,2,7,15] [] [] rfl rfl rfl qn en ?_
  intro _
  refine x_blk ?_
  exact x_round rfl le_ ⟨rfl,rfl,_,(List.cons_append ..).symm▸rfl,c++t,by rw [De,hc,Option.bind_some,Cc,ht,Option.bind_some,if_pos h32];rfl,rfl⟩
 obtain ⟨c,hc,rfl⟩:=hi
 rw [hc2] at hc
 obtain rfl:=si hc
 refine x_blk (x_blk (x_seq (c_reg ?_)))
 refine r_u (o_bin rfl rfl (bI_add s_15 1)) (r_u (o_mv rfl) ?_)
 refine r_nil ?_
 exact x_lpD (i64 (s_15+1),c2,Hw.mark D::ds) hm29 rfl ⟨rfl,rfl,rfl,rfl,trivial⟩ (fun w h=>by
  have h1:=st_pk 6 [2,4,0,5] (by decide) h
  have h2:=st_star_o (A:=Ab.fl b0_ a0 g0_) (st_some_o h1)
  exact st_pk 7 [1,2,3,4,5,6,0] (by decide) (mk_add (st_pk 8 [6,7,5,0,1,2,3,4] (by decide) h2)))
def CA(a0:Ai):Option Str :=
 (Ay (toW a0.most)).bind fun r3=>(Ay (toW a0.target)).bind fun r5=>if r3.length+r5.length≤maxS then om a0.r (none) fun x9=>(BE x9).bind fun r17=>if (r3++r5).length+r17.length≤maxS then some ((r3++r5)++r17) else none else none
theorem CA.ok{G R F}(b0_:Nat)(a0:Ai)(g0_:Ai.G)(r:Str)(hm:CA a0=some r):CO Tryz.prog 91 [pt b0_ 0] G R (Bk b0_ 193 [vI a0.most,vI a0.target,g0_.r.1]::rO (Ab.op g0_.r.2) g0_.r.1 a0.r::F)
  (Ret fun u R' L'=>u=vS r∧R'=R∧L'=Bk b0_ 193 [vI a0.most,vI a0.target,g0_.r.1]::rO (Ab.op g0_.r.2) g0_.r.1 a0.r::F):=by
 obtain ⟨⟨pv1,g2⟩⟩:=g0_
 unfold CA at hm
 refine co_ofN (N:=24) Tryz.func91 z z ?_
 refine csr ?_
 refine r_as z ?_
 refine nssr ?_
 refine r_mv z (r_bin z z (bP_eqp Tryz.underlying141) ?_)
 refine nsq ?_
 refine c_ff z ?_
 refine c_skip (x_seq (c_seq ?_))
 obtain ⟨r3,hr3,hm4⟩:=bs hm
 obtain ⟨r5,hr5,hm6⟩:=bs hm4
 obtain ⟨h7,hm8⟩:=ig hm6
 refine cd_st (fun _ h=>mv1 h) ?_
 refine cd_opt (fun ho11 => ?_) (fun x9 b10 ho11 => ?_)
 ·rintro rfl
  have hm12:=om_n hm8 ho11
  cases hm12
 rintro rfl
 have hm12:=om_s hm8 ho11
 refine cd_st (fun _ h=>st_star_o h) ?_
 obtain ⟨r17,hr17,hm18⟩:=bs hm12
 obtain ⟨h19,hm20⟩:=ig hm18
 refine c_any mixed (effs:=[]) (V:=[]) ?_
 refine stn [0,1,3,7,15,31,0,64,192,448,960,2047,4095,0,8192,24576,57344,126975,262143,524287] [0,1,2,3,4,5,6,7,8,9,10,11,12,13,14,15,16,17,18,19] [] [_,_,_,_,_,_,_,_,_,_,_,_,_,_,_,_,_,_,_,_] (q_mv z z z (q_u z z (o_nc z) (q_fa z z fa193_0 z (q_ld z z 5 sc3 z z z (q_u z z (o_cv z (cIW Tryz.underlying3 Tryz.underlying22 a0.most)) (q_u z z (o_callq ca49 z (Ay.ok _ _ hr3)) (q_mv z z z (q_u z z (o_nc z) (q_fa z z fa193_1 z (q_ld z z 5 sc3 z z z (q_u z z (o_cv z (cIW Tryz.underlying3 Tryz.underlying22 a0.target)) (q_u z z (o_callq ca49 z (Ay.ok _ _ hr5)) (q_u z z (o_bin z z (bS_add r3 r5 h7)) (q_mv z z z (q_u z z (o_nc z) (q_fa z z fa193_2 z (q_ld z z 5 sc191 z z z (q_u z z (o_callqP ca145 z (BE.ok b10 x9 g2 _ hr17) (pk 6 [0,1,2,3,4,5]) (pk 6 [0,1,2,3,4,5])) (q_u z z (o_bin z z (bS_add _ _ h19)) (q_u z z (o_as z) qn)))))))))))))))))))) en ?_
 intro _
 refine ex_sub (E':=[(2,vS ((r3++r5)++r17))]) ⟨z,trivial⟩ ?_
 refine x_seq (c_ret ?_)
 refine ex_st (fun _ h=>st_some (f:=Ab.op g2) (a:=x9) (st_star_f (A:=Ab.fl b10 x9 g2) h)) ?_
 refine ex_st (fun _ h=>st_back ho11 h) ?_
 obtain rfl:=si hm20
 refine ex_st (pk 2 [1,0]) ?_
 exact x_r1 z (rv_t z) le_ ⟨_,z,z,z,z⟩
def C3(a0:Bool):Str :=
 if a0 then [1] else [0]
theorem C3.ok{G R F}(a0:Bool)(r:Str)(hm:C3 a0=r):CO Tryz.prog 189 [vB a0] G R (F)
  (Ret fun u R' L'=>u=vS r∧R'=R∧L'=F):=by
 unfold C3 at hm
 refine co_ofN (N:=4) Tryz.func189 z z ?_
 refine csr ?_
 refine r_as z ?_
 refine nssr ?_
 refine r_mv z ?_
 refine nsq ?_
 refine c_if (b:=a0) z (fun h0 => ?_) fun h0 => ?_
 ·have hm1:=ift hm h0
  refine csr ?_
  refine r_as z ?_
  refine r_nil (x_seq (c_ret ?_))
  subst hm1
  exact x_r1 z (rv_t z) le_ ⟨_,z,z,z,z⟩
 have hm1:=iff_ hm h0
 refine c_skip (x_seq (csr ?_))
 refine r_as z ?_
 refine r_nil (x_seq (c_ret ?_))
 subst hm1
 exact x_r1 z (rv_t z) le_ ⟨_,z,z,z,z⟩
def Bi(a0:Ae):Nat→Str→Int→Option (Str)
 | 0,_,_=>none
 | k22+1,out_20,s_21=>if decide (s_21<(a0.door.length:Int)) then (gi a0.door s_21).bind fun x27=>if out_20.length+(C3 x27).length≤maxS then Bi a0 k22 (out_20++(C3 x27)) (i64 (s_21+1)) else none else some out_20
def AO(a0:Ae):Nat→Str→Int→Option (Str)
 | 0,_,_=>none
 | k33+1,out_31,s_32=>if decide (s_32<4) then (gi a0.rows s_32).bind fun y38=>if out_31.length+y38.length≤maxS then AO a0 k33 (out_31++y38) (i64 (s_32+1)) else none else some out_31
def BM(a0:Ae):Option Str :=
 (Ay (toW a0.wide)).bind fun r2=>(Ay a0.seed).bind fun r4=>if r2.length+r4.length≤maxS then (Ay (toW a0.added)).bind fun r8=>if (r2++r4).length+r8.length≤maxS then Option.bind (AO a0 5 ((r2++r4)++r8) 0) fun p12=>Option.bind (Bi a0 (((a0.door.length:Int)-0).toNat+1) p12 0) fun p16=>some p16 else none else none
theorem BM.ok{G R F}(b0_:Nat)(a0:Ae)(g0_:Ae.G)(r:Str)(hm:BM a0=some r):CO Tryz.prog 146 [pt b0_ 0] G R (Bk b0_ 250 (Ae.k a0 g0_)::OwL (OwS false 5 1 eY) [g0_.rows.1,g0_.rows.2.1,g0_.rows.2.2.1,g0_.rows.2.2.2] a0.rows::OwS true 4 1 eB g0_.door a0.door::F)
  (Ret fun u R' L'=>u=vS r∧R'=R∧L'=Bk b0_ 250 (Ae.k a0 g0_)::OwL (OwS false 5 1 eY) [g0_.rows.1,g0_.rows.2.1,g0_.rows.2.2.1,g0_.rows.2.2.2] a0.rows::OwS true 4 1 eB g0_.door a0.door::F):=by
 unfold BM at hm
 refine co_ofN (N:=56) Tryz.func146 z z ?_
 refine csr ?_
 refine r_as z ?_
 refine nssr ?_
 refine r_mv z (r_bin z z (bP_eqp Tryz.underlying194) ?_)
 refine nsq ?_
 refine c_ff z ?_
 refine c_skip (x_seq (c_seq ?_))
 obtain ⟨r2,hr2,hm3⟩:=bs hm
 obtain ⟨r4,hr4,hm5⟩:=bs hm3
 obtain ⟨h6,hm7⟩:=ig hm5
 obtain ⟨r8,hr8,hm9⟩:=bs hm7
 obtain ⟨h10,hm11⟩:=ig hm9
 refine c_any mixed (effs:=[]) (V:=[]) ?_
 refine stn [0,1,3,7,15,31,0,64,192,448,1023,2047,0,4096,12288,28672,61440,129023,262143,524287] [0,1,2,3,4,5,6,7,8,9,10,11,12,13,14,15,16,17,18,19] [] [_,_,_,_,_,_,_,_,_,_,_,_,_,_,_,_,_,_,_,_] (q_mv z z z (q_u z z (o_nc z) (q_fa z z fa250_0 z (q_ld z z 0 sc3 z z z (q_u z z (o_cv z (cIW Tryz.underlying3 Tryz.underlying22 a0.wide)) (q_u z z (o_callq ca49 z (Ay.ok _ _ hr2)) (q_mv z z z (q_u z z (o_nc z) (q_fa z z fa250_1 z (q_ld z z 0 sc22 z z z (q_u z z (o_callq ca49 z (Ay.ok _ _ hr4)) (q_u z z (o_bin z z (bS_add r2 r4 h6)) (q_mv z z z (q_u z z (o_nc z) (q_fa z z fa250_4 z (q_ld z z 0 sc3 z z z (q_u z z (o_cv z (cIW Tryz.underlying3 Tryz.underlying22 a0.added)) (q_u z z (o_callq ca49 z (Ay.ok _ _ hr8)) (q_u z z (o_bin z z (bS_add _ r8 h10)) (q_u z z (o_as z) qn)))))))))))))))))))) en ?_
 intro _
 refine ex_sub (E':=[(0,pt b0_ 0),(3,vS ((r2++r4)++r8))]) ⟨z,z,trivial⟩ ?_
 refine x_seq (c_seq (csr ?_))
 refine r_mv z (r_nc z (r_fa fa250_2 z ?_))
 refine r_u (o_ldn 0 [g0_.rows.1,g0_.rows.2.1,g0_.rows.2.2.1,g0_.rows.2.2.2] ag248 z z z z) (r_mv z ?_)
 refine nsq ?_
 obtain ⟨p12,hp13,hm14⟩:=bs hm11
 refine cd_join (E':=[(0,pt b0_ 0),(3,vS p12)]) (L':=Bk b0_ 250 (Ae.k a0 g0_)::OwL (OwS false 5 1 eY) [g0_.rows.1,g0_.rows.2.1,g0_.rows.2.2.1,g0_.rows.2.2.2] a0.rows::OwS true 4 1 eB g0_.door a0.door::F) ?_ fun K15 => ?_
 ·refine x_seq (c_seq (csr ?_))
  refine r_mv z (r_nc z (r_fa fa250_3 z (r_ld 0 sc68 z z z (r_u (o_lenO 2 Tryz.underlying68 z z) (r_mv z ?_)))))
  refine nsq ?_
  obtain ⟨p16,hp17,hm18⟩:=bs hm14
  refine cd_join (E':=[(3,vS p16)]) (L':=Bk b0_ 250 (Ae.k a0 g0_)::OwL (OwS false 5 1 eY) [g0_.rows.1,g0_.rows.2.1,g0_.rows.2.2.1,g0_.rows.2.2.2] a0.rows::OwS true 4 1 eB g0_.door a0.door::F) ?_ fun K19 => ?_
  ·refine x_seq (csr ?_)
   refine r_mv z (r_as z ?_)
   refine r_nil (x_seq (c_ret ?_))
   obtain rfl:=si hm18
   exact x_r1 z (rv_t z) le_ ⟨_,z,z,z,z⟩
  refine c_blk ?_
  refine cd_loop (M:=fun k22 (s:Str×Int)=>Bi a0 k22 s.1 s.2=some p16) (Ef:=fun (s:Str×Int)=>[(44,g0_.door),(45,vI (a0.door.length:Int)),(3,vS s.1),(46,vI s.2)]) (Lf:=fun (s:Str×Int)=>Bk b0_ 250 (Ae.k a0 g0_)::OwL (OwS false 5 1 eY) [g0_.rows.1,g0_.rows.2.1,g0_.rows.2.2.1,g0_.rows.2.2.2] a0.rows::OwS true 4 1 eB g0_.door a0.door::F) (((a0.door.length:Int)-0).toNat+1) (p12,0) hp17 ⟨z,z,z,z,trivial⟩ (fun _ h=>h) (fun _ h=>by cases h) fun k22 s hM24 => ?_
  obtain ⟨out_20,s_21⟩:=s
  have hm23:Bi a0 (k22+1) out_20 s_21=some p16:=hM24
  rw [Bi] at hm23
  refine csr ?_
  refine r_bin z z (bI_lt _ _) ?_
  refine r_nil (x_seq (c_seq ?_))
  refine c_if (b:=decide (s_21<(a0.door.length:Int))) z (fun h25 => ?_) fun h25 => ?_
  rotate_left
  ·have hm26:=iff_ hm23 h25
   refine c_exit (x_exit (ks':=_) z ?_)
   obtain rfl:=si hm26
   exact x_sub K19 ⟨z,trivial⟩ (pk 3 [0,1,2])
  have hm26:=ift hm23 h25
  refine c_skip (x_seq (c_seq (c_blk (csr ?_))))
  obtain ⟨x27,hx27,hm28⟩:=bs hm26
  refine r_u (o_ixO 2 Tryz.underlying68 (fun _=>by kernel_rfl) z z z hx27) (r_u (o_ldO0 2 sc4 z z hx27 z z) (r_as z ?_))
  refine r_nil (x_seq (c_reg ?_))
  refine r_mv z (r_mv z ?_)
  refine r_u (o_callq ca189 z (C3.ok x27 _ z)) ?_
  obtain ⟨h29,hm30⟩:=ig hm28
  refine r_bin z z (bS_add _ _ h29) (r_as z ?_)
  refine r_nil (x_blk (x_seq (c_reg ?_)))
  refine r_bin z z (bI_add _ 1) (r_mv z ?_)
  refine r_nil ?_
  exact x_lp (out_20++(C3 x27),i64 (s_21+1)) hm30 ⟨z,z,z,z,trivial⟩ (pk 3 [0,1,2])
 refine c_blk ?_
 refine cd_loop (M:=fun k33 (s:Str×Int)=>AO a0 k33 s.1 s.2=some p12) (Ef:=fun (s:Str×Int)=>[(0,pt b0_ 0),(32,.agg [g0_.rows.1,g0_.rows.2.1,g0_.rows.2.2.1,g0_.rows.2.2.2].toArray),(3,vS s.1),(33,vI s.2)]) (Lf:=fun (s:Str×Int)=>Bk b0_ 250 (Ae.k a0 g0_)::OwL (OwS false 5 1 eY) [g0_.rows.1,g0_.rows.2.1,g0_.rows.2.2.1,g0_.rows.2.2.2] a0.rows::OwS true 4 1 eB g0_.door a0.door::F) 5 ((r2++r4)++r8,0) hp13 ⟨z,z,z,z,trivial⟩ (fun _ h=>h) (fun _ h=>by cases h) fun k33 s hM35 => ?_
 obtain ⟨out_31,s_32⟩:=s
 have hm34:AO a0 (k33+1) out_31 s_32=some p12:=hM35
 rw [AO] at hm34
 refine csr ?_
 refine r_bin z z (bI_lt _ 4) ?_
 refine r_nil (x_seq (c_seq ?_))
 refine c_if (b:=decide (s_32<4)) z (fun h36 => ?_) fun h36 => ?_
 rotate_left
 ·have hm37:=iff_ hm34 h36
  refine c_exit (x_exit (ks':=_) z ?_)
  obtain rfl:=si hm37
  exact x_sub K15 ⟨z,z,trivial⟩ (pk 3 [0,1,2])
 have hm37:=ift hm34 h36
 refine c_skip (x_seq (c_seq (c_blk (csr ?_))))
 obtain ⟨y38,hy38,hm40⟩:=bs hm37
 refine rl_ex (fun w h=>st_peek 1 hy38 z w h) fun u39 hu39 => ?_
 refine r_u (o_ixG Tryz.underlying248 (fun _=>by kernel_rfl) sc131.1 z z z hu39) (r_as z ?_)
 refine r_nil (x_seq (c_reg ?_))
 refine r_mv z (r_mv z ?_)
 refine r_u (o_bsK (kn_in 1 z hu39 hy38) Tryz.underlying131 Tryz.underlying5 Tryz.underlying9 z) ?_
 obtain ⟨h41,hm42⟩:=ig hm40
 refine r_bin z z (bS_add _ _ h41) (r_as z ?_)
 refine r_nil (x_blk (x_seq (c_reg ?_)))
 refine r_bin z z (bI_add _ 1) (r_mv z ?_)
 refine r_nil ?_
 exact x_lp (out_31++y38,i64 (s_32+1)) hm42 ⟨z,z,z,z,trivial⟩ (pk 3 [0,1,2])
def B9(a0:Af):Option Str :=
 (Ay (toW a0.most)).bind fun r6=>om a0.s (none) fun x8=>(BM x8).bind fun r14=>if r6.length+r14.length≤maxS then om a0.r (none) fun x18=>(BE x18).bind fun r26=>if (r6++r14).length+r26.length≤maxS then some ((r6++r14)++r26) else none else none
theorem B9.ok{G R F}(b0_:Nat)(a0:Af)(g0_:Af.G)(r:Str)(hm:B9 a0=some r):CO Tryz.prog 92 [pt b0_ 0] G R (Bk b0_ 196 [vI a0.most,g0_.s.1,g0_.r.1]::rO (Ae.op g0_.s.2) g0_.s.1 a0.s::rO (Ab.op g0_.r.2) g0_.r.1 a0.r::F)
  (Ret fun u R' L'=>u=vS r∧R'=R∧L'=Bk b0_ 196 [vI a0.most,g0_.s.1,g0_.r.1]::rO (Ae.op g0_.s.2) g0_.s.1 a0.s::rO (Ab.op g0_.r.2) g0_.r.1 a0.r::F):=by
 obtain ⟨⟨pv1,g2⟩,⟨pv4,g5⟩⟩:=g0_
 unfold B9 at hm
 refine co_ofN (N:=23) Tryz.func92 z z ?_
 refine csr ?_
 refine r_as z ?_
 refine nssr ?_
 refine r_mv z (r_bin z z (bP_eqp Tryz.underlying142) ?_)
 refine nsq ?_
 refine c_ff z ?_
 refine c_skip (x_seq (c_seq ?_))
 obtain ⟨r6,hr6,hm7⟩:=bs hm
 refine cd_st (fun _ h=>mv1 h) ?_
 refine cd_opt (fun ho10 => ?_) (fun x8 b9 ho10 => ?_)
 ·rintro rfl
  have hm11:=om_n hm7 ho10
  cases hm11
 rintro rfl
 have hm11:=om_s hm7 ho10
 refine cd_st (fun _ h=>st_star_o h) ?_
 obtain ⟨r14,hr14,hm15⟩:=bs hm11
 obtain ⟨h16,hm17⟩:=ig hm15
 refine cd_st (fun _ h=>mv4 h) ?_
 refine cd_opt (fun ho20 => ?_) (fun x18 b19 ho20 => ?_)
 ·rintro rfl
  have hm21:=om_n hm17 ho20
  cases hm21
 rintro rfl
 have hm21:=om_s hm17 ho20
 refine cd_st (fun _ h=>st_star_o h) ?_
 obtain ⟨r26,hr26,hm27⟩:=bs hm21
 obtain ⟨h28,hm29⟩:=ig hm27
 refine c_any mixed (effs:=[]) (V:=[]) ?_
 refine stn [0,1,3,7,15,31,0,64,192,448,1023,2047,0,4096,12288,28672,63487,131071,262143] [0,1,2,3,4,5,6,7,8,9,10,11,12,13,14,15,16,17,18] [] [_,_,_,_,_,_,_,_,_,_,_,_,_,_,_,_,_,_,_] (q_mv z z z (q_u z z (o_nc z) (q_fa z z fa196_0 z (q_ld z z 8 sc3 z z z (q_u z z (o_cv z (cIW Tryz.underlying3 Tryz.underlying22 a0.most)) (q_u z z (o_callq ca49 z (Ay.ok _ _ hr6)) (q_mv z z z (q_u z z (o_nc z) (q_fa z z fa196_1 z (q_ld z z 8 sc194 z z z (q_u z z (o_callqP ca146 z (BM.ok b9 x8 g2 _ hr14) (pk 9 [5,6,7,0,1,2,3,4,8]) (pk 9 [3,4,5,6,7,0,1,2,8])) (q_u z z (o_bin z z (bS_add r6 _ h16)) (q_mv z z z (q_u z z (o_nc z) (q_fa z z fa196_2 z (q_ld z z 8 sc191 z z z (q_u z z (o_callqP ca145 z (BE.ok b19 _ g5 _ hr26) (pk 9 [0,1,2,3,4,5,6,7,8]) (pk 9 [0,1,2,3,4,5,6,7,8])) (q_u z z (o_bin z z (bS_add _ _ h28)) (q_u z z (o_as z) qn))))))))))))))))))) en ?_
 intro _
 refine ex_sub (E':=[(2,vS ((r6++r14)++r26))]) ⟨z,trivial⟩ ?_
 refine x_seq (c_ret ?_)
 refine ex_st (fun _ h=>mv7 (mv7 (mv7 h))) ?_
 refine ex_st (fun _ h=>st_some (f:=Ae.op g2) (a:=x8) (st_star_f (A:=Ae.fl b9 x8 g2) h)) ?_
 refine ex_st (fun _ h=>mv5 (mv5 (mv5 (mv5 (mv5 h))))) ?_
 refine ex_st (fun _ h=>st_some (f:=Ab.op g5) (a:=x18) (st_star_f (A:=Ab.fl b19 x18 g5) h)) ?_
 refine ex_st (fun _ h=>mv1 h) ?_
 refine ex_st (fun _ h=>st_back ho10 h) ?_
 refine ex_st (fun _ h=>mv1 h) ?_
 refine ex_st (fun _ h=>st_back ho20 h) ?_
 obtain rfl:=si hm29
 refine ex_st (pk 3 [2,1,0]) ?_
 exact x_r1 z (rv_t z) le_ ⟨_,z,z,z,z⟩
def BN(a0:Ac):Option Str :=
 if ((Ap a0)==1) then (Ay 1).bind fun r8=>om a0.a (none) fun x10=>(CA x10).bind fun r17=>if r8.length+r17.length≤maxS then some (r8++r17) else none else if ((Ap a0)==2) then (Ay 2).bind fun r23=>om a0.t (none) fun x25=>(B9 x25).bind fun r35=>if r23.length+r35.length≤maxS then some (r23++r35) else none else some []
theorem BN.ok{G R F}(b0_:Nat)(a0:Ac)(g0_:Ac.G)(r:Str)(hm:BN a0=some r):CO Tryz.prog 51 [pt b0_ 0] G R (Bk b0_ 144 [vI a0.kind,g0_.a.1,g0_.t.1]::rO (Ai.op g0_.a.2) g0_.a.1 a0.a::rO (Af.op g0_.t.2) g0_.t.1 a0.t::F)
  (Ret fun u R' L'=>u=vS r∧R'=R∧L'=Bk b0_ 144 [vI a0.kind,g0_.a.1,g0_.t.1]::rO (Ai.op g0_.a.2) g0_.a.1 a0.a::rO (Af.op g0_.t.2) g0_.t.1 a0.t::F):=by
 obtain ⟨⟨pv1,g2⟩,⟨pv4,g5⟩⟩:=g0_
 unfold BN at hm
 refine co_ofN (N:=23) Tryz.func51 z z ?_
 refine csr ?_
 refine r_as z ?_
 refine nssr ?_
 refine r_mv z ?_
 refine r_c (s_w (o_call ca67 z (Ap.ok b0_ a0 (⟨(pv1,g2),(pv4,g5)⟩:Ac.G) _ z))) ?_
 refine r_nil (x_seq (c_blk (csr ?_)))
 refine r_bin z z (bI_eq _ 1) (r_as z ?_)
 refine nsq ?_
 refine c_if (b:=((Ap a0)==1)) z (fun h6 => ?_) fun h6 => ?_
 ·have hm7:=ift hm h6
  refine c_seq ?_
  obtain ⟨r8,hr8,hm9⟩:=bs hm7
  refine cd_st (fun _ h=>mv1 h) ?_
  refine cd_opt (fun ho12 => ?_) (fun x10 b11 ho12 => ?_)
  ·rintro rfl
   have hm13:=om_n hm9 ho12
   cases hm13
  rintro rfl
  have hm13:=om_s hm9 ho12
  obtain ⟨⟨pv15,g16⟩⟩:=g2
  refine cd_st (fun _ h=>st_star_o h) ?_
  obtain ⟨r17,hr17,hm18⟩:=bs hm13
  obtain ⟨h19,hm20⟩:=ig hm18
  refine c_any mixed (effs:=[]) (V:=[]) ?_
  refine stn mk19_ [0,1,2,3,4,5,6,7] [] [_,_,_,_,_,_,_,_] (q_u z z (o_callq ca49 z (Ay.ok 1 _ hr8)) (q_mv z z z (q_u z z (o_nc z) (q_fa z z fa144_1 z (q_ld z z 2 sc141 z z z (q_u z z (o_callqP ca91 z (CA.ok b11 _ (⟨(pv15,g16)⟩:Ai.G) _ hr17) (pk 4 [0,1,2,3]) (pk 4 [0,1,2,3])) (q_u z z (o_bin z z (bS_add r8 _ h19)) (q_u z z (o_as z) qn)))))))) en ?_
  intro _
  refine ex_sub (E':=[(2,vS (r8++r17))]) ⟨z,trivial⟩ ?_
  refine x_seq (c_ret ?_)
  refine ex_st (fun _ h=>st_some (f:=Ai.op (⟨(pv15,g16)⟩:Ai.G)) (a:=x10) (st_star_f (A:=Ai.fl b11 x10 (⟨(pv15,g16)⟩:Ai.G)) h)) ?_
  refine ex_st (fun _ h=>st_back ho12 h) ?_
  obtain rfl:=si hm20
  refine ex_st (pk 3 [1,0,2]) ?_
  exact x_r1 z (rv_t z) le_ ⟨_,z,z,z,z⟩
 have hm7:=iff_ hm h6
 refine csr ?_
 refine r_bin z z (bI_eq _ 2) (r_as z ?_)
 refine nsq ?_
 refine c_if (b:=((Ap a0)==2)) z (fun h21 => ?_) fun h21 => ?_
 rotate_left
 ·have hm22:=iff_ hm7 h21
  refine c_skip (x_blk (x_seq (csr ?_)))
  refine r_as z ?_
  refine r_nil (x_seq (c_ret ?_))
  obtain rfl:=si hm22
  exact x_r1 z (rv_t z) le_ ⟨_,z,z,z,z⟩
 have hm22:=ift hm7 h21
 refine c_seq ?_
 obtain ⟨r23,hr23,hm24⟩:=bs hm22
 refine cd_st (fun _ h=>mv2 h) ?_
 refine cd_opt (fun ho27 => ?_) (fun x25 b26 ho27 => ?_)
 ·rintro rfl
  have hm28:=om_n hm24 ho27
  cases hm28
 rintro rfl
 have hm28:=om_s hm24 ho27
 obtain ⟨⟨pv30,g31⟩,⟨pv33,g34⟩⟩:=g5
 refine cd_st (fun _ h=>st_star_o h) ?_
 obtain ⟨r35,hr35,hm36⟩:=bs hm28
 obtain ⟨h37,hm38⟩:=ig hm36
 refine c_any mixed (effs:=[]) (V:=[]) ?_
 refine stn mk19_ [0,1,2,3,4,5,6,7] [] [_,_,_,_,_,_,_,_] (q_u z z (o_callq ca49 z (Ay.ok 2 _ hr23)) (q_mv z z z (q_u z z (o_nc z) (q_fa z z fa144_2 z (q_ld z z 3 sc142 z z z (q_u z z (o_callqP ca92 z (B9.ok b26 _ (⟨(pv30,g31),(pv33,g34)⟩:Af.G) _ hr35) (pk 5 [0,1,2,3,4]) (pk 5 [0,1,2,3,4])) (q_u z z (o_bin z z (bS_add _ _ h37)) (q_u z z (o_as z) qn)))))))) en ?_
 intro _
 refine ex_sub (E':=[(2,vS (r23++r35))]) ⟨z,trivial⟩ ?_
 refine x_seq (c_ret ?_)
 refine ex_st (fun _ h=>st_some (f:=Af.op (⟨(pv30,g31),(pv33,g34)⟩:Af.G)) (a:=x25) (st_star_f (A:=Af.fl b26 x25 (⟨(pv30,g31),(pv33,g34)⟩:Af.G)) h)) ?_
 refine ex_st (fun _ h=>st_back ho27 h) ?_
 obtain rfl:=si hm38
 refine ex_st (pk 3 [1,2,0]) ?_
 exact x_r1 z (rv_t z) le_ ⟨_,z,z,z,z⟩
def CX(a0:As):Option Str :=
 (Ay (toW a0.E)).bind fun r1=>(BU a0.Value).bind fun r3=>if r1.length+r3.length≤maxS then (Ay a0.Version).bind fun r7=>if (r1++r3).length+r7.length≤maxS then some ((r1++r3)++r7) else none else none
theorem CX.ok{G R F}(a0:As)(r:Str)(hm:CX a0=some r):CO Tryz.prog 54 [.agg (As.c a0).toArray] G R (F)
  (Ret fun u R' L'=>u=vS r∧R'=R∧L'=F):=by
 unfold CX at hm
 refine co_ofN (N:=15) Tryz.func54 z z ?_
 refine csr ?_
 refine r_new (o_bx (As.c a0) z z) fun b0 => ?_
 refine r_as z ?_
 refine r_nil (x_seq (c_seq ?_))
 obtain ⟨r1,hr1,hm2⟩:=bs hm
 obtain ⟨r3,hr3,hm4⟩:=bs hm2
 obtain ⟨h5,hm6⟩:=ig hm4
 obtain ⟨r7,hr7,hm8⟩:=bs hm6
 obtain ⟨h9,hm10⟩:=ig hm8
 refine c_any mixed (effs:=[]) (V:=[]) ?_
 refine stn [0,1,3,7,0,16,63,127,0,256,895,2047,4095] [0,1,2,3,4,5,6,7,8,9,10,11,12] [] [_,_,_,_,_,_,_,_,_,_,_,_,_] (q_fa z z fa41_0 z (q_ld z z 0 sc39 z z z (q_u z z (o_cv z (cIW Tryz.underlying39 Tryz.underlying22 a0.E)) (q_u z z (o_callq ca49 z (Ay.ok _ _ hr1)) (q_fa z z fa41_1 z (q_ld z z 0 sc9 z z z (q_u z z (o_callq ca90 z (BU.ok _ _ hr3)) (q_u z z (o_bin z z (bS_add r1 r3 h5)) (q_fa z z fa41_2 z (q_ld z z 0 sc22 z z z (q_u z z (o_callq ca49 z (Ay.ok _ _ hr7)) (q_u z z (o_bin z z (bS_add _ r7 h9)) (q_u z z (o_as z) qn))))))))))))) en ?_
 intro _
 refine ex_sub (E':=[(2,vS ((r1++r3)++r7))]) ⟨z,trivial⟩ ?_
 refine x_seq (c_ret ?_)
 obtain rfl:=si hm10
 refine ex_st (pk 1 []) ?_
 exact x_r1 z (rv_t z) le_ ⟨_,z,z,z,z⟩
def Bf(a0:Ad)(l69:List UInt64):Nat→Str→Int→Option (Str)
 | 0,_,_=>none
 | k78+1,out_76,s_77=>if decide (s_77<(l69.length:Int)) then (gi l69 s_77).bind fun x83=>(Ay x83).bind fun r86=>(Ay (((mget a0.sessions x83).getD ((⟨0,(⟨0,[],0⟩:As)⟩:Ao):Ao)).num)).bind fun r88=>if r86.length+r88.length≤maxS then (CX (((mget a0.sessions x83).getD ((⟨0,(⟨0,[],0⟩:As)⟩:Ao):Ao)).reply)).bind fun r92=>if (r86++r88).length+r92.length≤maxS then if out_76.length+((r86++r88)++r92).length≤maxS then Bf a0 l69 k78 (out_76++((r86++r88)++r92)) (i64 (s_77+1)) else none else none else none else some out_76
def AF(a0:Ad):Option Str :=
 (Ay (toW a0.c.Policy)).bind fun r7=>(Ay (toW a0.c.Entries)).bind fun r9=>if r7.length+r9.length≤maxS then (Ay (toW a0.c.Bytes)).bind fun r13=>if (r7++r9).length+r13.length≤maxS then (Ay a0.c.Seed).bind fun r17=>if ((r7++r9)++r13).length+r17.length≤maxS then (Ay a0.seq).bind fun r21=>(Ay a0.now).bind fun r23=>if r21.length+r23.length≤maxS then (Ay a0.version).bind fun r27=>if (r21++r23).length+r27.length≤maxS then (Ay (toW a0.tally.Asked)).bind fun r31=>if ((r21++r23)++r27).length+r31.length≤maxS then (Ay (toW a0.tally.Hits)).bind fun r35=>if (((r21++r23)++r27)++r31).length+r35.length≤maxS then if (((r7++r9)++r13)++r17).length+((((r21++r23)++r27)++r31)++r35).length≤maxS then om a0.t (none) fun x41=>(BV x41).bind fun r46=>om a0.p (none) fun x48=>(BN x48).bind fun r58=>if r46.length+r58.length≤maxS then (Ay (toW (a0.sessions.length:Int))).bind fun r62=>if (r46++r58).length+r62.length≤maxS then if ((((r7++r9)++r13)++r17)++((((r21++r23)++r27)++r31)++r35)).length+((r46++r58)++r62).length≤maxS then (mkeysW a0.sessions).bind fun l69=>Option.bind (Bf a0 l69 (((l69.length:Int)-0).toNat+1) (((((r7++r9)++r13)++r17)++((((r21++r23)++r27)++r31)++r35))++((r46++r58)++r62)) 0) fun p72=>some p72 else none else none else none else none else none else none else none else none else none else none else none
theorem AF.ok{G R F}(b0_:Nat)(a0:Ad)(g0_:Ad.G)(r:Str)(hm:AF a0=some r):CO Tryz.prog 25 [pt b0_ 0] G R (Bk b0_ 96 (Ad.k a0 g0_)::rO (Ah.op g0_.t.2) g0_.t.1 a0.t::rO (Ac.op g0_.p.2) g0_.p.1 a0.p::OwM vW Ao.v g0_.sessions a0.sessions::F)
  (Ret fun u R' L'=>u=vS r∧R'=R∧L'=Bk b0_ 96 (Ad.k a0 g0_)::rO (Ah.op g0_.t.2) g0_.t.1 a0.t::rO (Ac.op g0_.p.2) g0_.p.1 a0.p::OwM vW Ao.v g0_.sessions a0.sessions::F):=by
 obtain ⟨⟨pv1,g2⟩,⟨pv4,g5⟩,g6⟩:=g0_
 unfold AF at hm
 refine co_ofN (N:=126) Tryz.func25 z z ?_
 refine csr ?_
 refine r_as z ?_
 refine nssr ?_
 refine r_mv z (r_bin z z (bP_eqp Tryz.underlying30) ?_)
 refine nsq ?_
 refine c_ff z ?_
 refine c_skip (x_seq (c_seq ?_))
 obtain ⟨r7,hr7,hm8⟩:=bs hm
 obtain ⟨r9,hr9,hm10⟩:=bs hm8
 obtain ⟨h11,hm12⟩:=ig hm10
 obtain ⟨r13,hr13,hm14⟩:=bs hm12
 obtain ⟨h15,hm16⟩:=ig hm14
 obtain ⟨r17,hr17,hm18⟩:=bs hm16
 obtain ⟨h19,hm20⟩:=ig hm18
 refine c_any mixed (effs:=[]) (V:=[]) ?_
 refine stn [0,1,3,7,15,31,63,0,128,384,896,1920,3968,8191,16383,0,32768,98304,229376,491520,1015808,2080767,4194303,0,8388608,25165824,58720256,125829120,264224767,536870911,1073741823] [0,1,2,3,4,5,6,7,8,9,10,11,12,13,14,15,16,17,18,19,20,21,22,23,24,25,26,27,28,29,30] [] [_,_,_,_,_,_,_,_,_,_,_,_,_,_,_,_,_,_,_,_,_,_,_,_,_,_,_,_,_,_,_] (q_mv z z z (q_u z z (o_nc z) (q_fa z z fa96_0 z (q_fa z z fa24_0 z (q_ld z z 0 sc3 z z z (q_u z z (o_cv z (cIW Tryz.underlying3 Tryz.underlying22 a0.c.Policy)) (q_u z z (o_callq ca49 z (Ay.ok _ _ hr7)) (q_mv z z z (q_u z z (o_nc z) (q_fa z z fa96_0 z (q_fa z z fa24_1 z (q_ld z z 0 sc3 z z z (q_u z z (o_cv z (cIW Tryz.underlying3 Tryz.underlying22 a0.c.Entries)) (q_u z z (o_callq ca49 z (Ay.ok _ _ hr9)) (q_u z z (o_bin z z (bS_add r7 r9 h11)) (q_mv z z z (q_u z z (o_nc z) (q_fa z z fa96_0 z (q_fa z z fa24_2 z (q_ld z z 0 sc3 z z z (q_u z z (o_cv z (cIW Tryz.underlying3 Tryz.underlying22 a0.c.Bytes)) (q_u z z (o_callq ca49 z (Ay.ok _ _ hr13)) (q_u z z (o_bin z z (bS_add _ _ h15)) (q_mv z z z (q_u z z (o_nc z) (q_fa z z fa96_0 z (q_fa z z fa24_3 z (q_ld z z 0 sc22 z z z (q_u z z (o_callq ca49 z (Ay.ok _ _ hr17)) (q_u z z (o_bin z z (bS_add _ _ h19)) (q_u z z (o_as z) qn))))))))))))))))))))))))))))))) en ?_
 intro _
 refine ex_sub (E':=[(0,pt b0_ 0),(3,vS (((r7++r9)++r13)++r17))]) ⟨z,z,trivial⟩ ?_
 refine x_seq (c_seq ?_)
 obtain ⟨r21,hr21,hm22⟩:=bs hm20
 obtain ⟨r23,hr23,hm24⟩:=bs hm22
 obtain ⟨h25,hm26⟩:=ig hm24
 obtain ⟨r27,hr27,hm28⟩:=bs hm26
 obtain ⟨h29,hm30⟩:=ig hm28
 obtain ⟨r31,hr31,hm32⟩:=bs hm30
 obtain ⟨h33,hm34⟩:=ig hm32
 obtain ⟨r35,hr35,hm36⟩:=bs hm34
 obtain ⟨h37,hm38⟩:=ig hm36
 obtain ⟨h39,hm40⟩:=ig hm38
 refine c_any mixed (effs:=[]) (V:=[]) ?_
 refine stn [0,0,2,6,14,30,0,64,192,448,1022,2046,0,4096,12288,28672,63486,131070,0,262144,786432,1835008,3932160,8126464,16644094,33554430,0,67108864,201326592,469762048,1006632960,2080374784,4261279742,8589934590,17179869183,34359738367] [0,1,2,3,4,5,6,7,8,9,10,11,12,13,14,15,16,17,18,19,20,21,22,23,24,25,26,27,28,29,30,31,32,33,34,35] [] [_,_,_,_,_,_,_,_,_,_,_,_,_,_,_,_,_,_,_,_,_,_,_,_,_,_,_,_,_,_,_,_,_,_,_,_] (q_mv z z z (q_mv z z z (q_u z z (o_nc z) (q_fa z z fa96_4 z (q_ld z z 0 sc22 z z z (q_u z z (o_callq ca49 z (Ay.ok _ _ hr21)) (q_mv z z z (q_u z z (o_nc z) (q_fa z z fa96_5 z (q_ld z z 0 sc22 z z z (q_u z z (o_callq ca49 z (Ay.ok _ _ hr23)) (q_u z z (o_bin z z (bS_add _ _ h25)) (q_mv z z z (q_u z z (o_nc z) (q_fa z z fa96_6 z (q_ld z z 0 sc22 z z z (q_u z z (o_callq ca49 z (Ay.ok _ _ hr27)) (q_u z z (o_bin z z (bS_add _ _ h29)) (q_mv z z z (q_u z z (o_nc z) (q_fa z z fa96_7 z (q_fa z z fa47_0 z (q_ld z z 0 sc2 z z z (q_u z z (o_cv z (cIW Tryz.underlying2 Tryz.underlying22 a0.tally.Asked)) (q_u z z (o_callq ca49 z (Ay.ok _ _ hr31)) (q_u z z (o_bin z z (bS_add _ _ h33)) (q_mv z z z (q_u z z (o_nc z) (q_fa z z fa96_7 z (q_fa z z fa47_1 z (q_ld z z 0 sc2 z z z (q_u z z (o_cv z (cIW Tryz.underlying2 Tryz.underlying22 a0.tally.Hits)) (q_u z z (o_callq ca49 z (Ay.ok _ _ hr35)) (q_u z z (o_bin z z (bS_add _ _ h37)) (q_u z z (o_bin z z (bS_add _ _ h39)) (q_u z z (o_as z) qn)))))))))))))))))))))))))))))))))))) en ?_
 intro _
 refine ex_sub (E':=[(0,pt b0_ 0),(3,vS ((((r7++r9)++r13)++r17)++((((r21++r23)++r27)++r31)++r35)))]) ⟨z,z,trivial⟩ ?_
 refine x_seq (c_seq ?_)
 refine cd_st (fun _ h=>mv1 h) ?_
 refine cd_opt (fun ho43 => ?_) (fun x41 b42 ho43 => ?_)
 ·rintro rfl
  have hm44:=om_n hm40 ho43
  cases hm44
 rintro rfl
 have hm44:=om_s hm40 ho43
 refine cd_st (fun _ h=>st_star_o h) ?_
 obtain ⟨r46,hr46,hm47⟩:=bs hm44
 refine cd_st (fun _ h=>mv3 h) ?_
 refine cd_opt (fun ho50 => ?_) (fun x48 b49 ho50 => ?_)
 ·rintro rfl
  have hm51:=om_n hm47 ho50
  cases hm51
 rintro rfl
 have hm51:=om_s hm47 ho50
 obtain ⟨⟨pv53,g54⟩,⟨pv56,g57⟩⟩:=g5
 refine cd_st (fun _ h=>st_star_o h) ?_
 obtain ⟨r58,hr58,hm59⟩:=bs hm51
 obtain ⟨h60,hm61⟩:=ig hm59
 obtain ⟨r62,hr62,hm63⟩:=bs hm61
 obtain ⟨h64,hm65⟩:=ig hm63
 obtain ⟨h66,hm67⟩:=ig hm65
 refine c_any mixed (effs:=[]) (V:=[]) ?_
 refine stn [0,0,2,6,14,30,0,64,192,448,1022,2046,0,4096,12288,28672,63486,129022,260094,524286,1048575,2097151] [0,1,2,3,4,5,6,7,8,9,10,11,12,13,14,15,16,17,18,19,20,21] [] [_,_,_,_,_,_,_,_,_,_,_,_,_,_,_,_,_,_,_,_,_,_] (q_mv z z z (q_mv z z z (q_u z z (o_nc z) (q_fa z z fa96_1 z (q_ld z z 5 sc92 z z z (q_u z z (o_callqP ca50 z (BV.ok b42 _ g2 _ hr46) (pk 7 [3,4,0,1,2,5,6]) (pk 7 [2,3,4,0,1,5,6])) (q_mv z z z (q_u z z (o_nc z) (q_fa z z fa96_2 z (q_ld z z 5 sc93 z z z (q_u z z (o_callqP ca51 z (BN.ok b49 _ (⟨(pv53,g54),(pv56,g57)⟩:Ac.G) _ hr58) (pk 7 [0,1,2,3,4,5,6]) (pk 7 [0,1,2,3,4,5,6])) (q_u z z (o_bin z z (bS_add _ _ h60)) (q_mv z z z (q_u z z (o_nc z) (q_fa z z fa96_3 z (q_ld z z 5 sc94 z z z (q_u z z (o_lenM (kv:=vW) (vv:=Ao.v) 6 Tryz.underlying94 z z) (q_u z z (o_cv z (cIW Tryz.underlying3 Tryz.underlying22 (a0.sessions.length:Int))) (q_u z z (o_callq ca49 z (Ay.ok _ _ hr62)) (q_u z z (o_bin z z (bS_add _ _ h64)) (q_u z z (o_bin z z (bS_add _ _ h66)) (q_u z z (o_as z) qn)))))))))))))))))))))) en ?_
 intro _
 refine ex_sub (E':=[(0,pt b0_ 0),(3,vS (((((r7++r9)++r13)++r17)++((((r21++r23)++r27)++r31)++r35))++((r46++r58)++r62)))]) ⟨z,z,trivial⟩ ?_
 refine x_seq (c_seq (csr ?_))
 refine r_mv z (r_nc z (r_fa fa96_3 z (r_ld 5 sc94 z z z ?_)))
 refine rl_st (fun _ h=>mv6 h) ?_
 refine r_sw (s_w (o_call ca53 z mkeys64)) ?_
 rintro _ R _ _ ⟨b68,rfl,rfl,rfl⟩
 obtain ⟨l69,hl69,hm71⟩:=bs hm67
 refine r_sw (s_w (o_call ca52 z (sorted64 hl69))) ?_
 rintro v70 R _ _ ⟨rfl,rfl⟩
 refine r_u (o_lenO 0 Tryz.underlying118 z z) (r_mv z ?_)
 refine nsq ?_
 obtain ⟨p72,hp73,hm74⟩:=bs hm71
 refine cd_join (E':=[(3,vS p72)]) (L':=Bk b49 144 [vI x48.kind,pv53,pv56]::Bk b42 138 [g2.m,vI x41.bytes]::Bk b0_ 96 [vI a0.c.Policy,vI a0.c.Entries,vI a0.c.Bytes,vW a0.c.Seed,pt b42 0,pt b49 0,g6,vW a0.seq,vW a0.now,vW a0.version,vI a0.tally.Asked,vI a0.tally.Hits]::OwS true 22 1 eW v70 l69::OwM vW Ao.v g6 a0.sessions::rO (Ai.op g54) pv53 x48.a::rO (Af.op g57) pv56 x48.t::OwM vS Ak.v g2.m x41.m::F) ?_ fun K75 => ?_
 ·refine x_seq (csr ?_)
  refine r_mv z (r_as z ?_)
  refine r_nil (x_seq (c_ret ?_))
  refine ex_st (fun _ h=>mv2 (mv7 h)) ?_
  refine ex_st (fun _ h=>st_some (f:=Ah.op g2) (a:=x41) (st_star_f (A:=Ah.fl b42 x41 g2) h)) ?_
  refine ex_st (fun _ h=>mv3 (mv6 (mv6 h))) ?_
  refine ex_st (fun _ h=>st_some (f:=Ac.op (⟨(pv53,g54),(pv56,g57)⟩:Ac.G)) (a:=x48) (st_star_f (A:=Ac.fl b49 x48 (⟨(pv53,g54),(pv56,g57)⟩:Ac.G)) h)) ?_
  refine ex_st (fun _ h=>mv1 h) ?_
  refine ex_st (fun _ h=>st_back ho43 h) ?_
  refine ex_st (fun _ h=>mv1 h) ?_
  refine ex_st (fun _ h=>st_back ho50 h) ?_
  obtain rfl:=si hm74
  refine ex_st (pk 5 [2,1,0,4]) ?_
  exact x_r1 z (rv_t z) le_ ⟨_,z,z,z,z⟩
 refine c_blk ?_
 refine cd_loop (M:=fun k78 (s:Str×Int)=>Bf a0 l69 k78 s.1 s.2=some p72) (Ef:=fun (s:Str×Int)=>[(0,pt b0_ 0),(100,v70),(101,vI (l69.length:Int)),(3,vS s.1),(102,vI s.2)]) (Lf:=fun (s:Str×Int)=>Bk b49 144 [vI x48.kind,pv53,pv56]::Bk b42 138 [g2.m,vI x41.bytes]::Bk b0_ 96 [vI a0.c.Policy,vI a0.c.Entries,vI a0.c.Bytes,vW a0.c.Seed,pt b42 0,pt b49 0,g6,vW a0.seq,vW a0.now,vW a0.version,vI a0.tally.Asked,vI a0.tally.Hits]::OwS true 22 1 eW v70 l69::OwM vW Ao.v g6 a0.sessions::rO (Ai.op g54) pv53 x48.a::rO (Af.op g57) pv56 x48.t::OwM vS Ak.v g2.m x41.m::F) (((l69.length:Int)-0).toNat+1) (((((r7++r9)++r13)++r17)++((((r21++r23)++r27)++r31)++r35))++((r46++r58)++r62),0) hp73 ⟨z,z,z,z,z,trivial⟩ (pk 8 [2,5,7,0,1,3,4,6]) (fun _ h=>by cases h) fun k78 s hM80 => ?_
 obtain ⟨out_76,s_77⟩:=s
 have hm79:Bf a0 l69 (k78+1) out_76 s_77=some p72:=hM80
 rw [Bf] at hm79
 refine csr ?_
 refine r_bin z z (bI_lt _ _) ?_
 refine r_nil (x_seq (c_seq ?_))
 refine c_if (b:=decide (s_77<(l69.length:Int))) z (fun h81 => ?_) fun h81 => ?_
 rotate_left
 ·have hm82:=iff_ hm79 h81
  refine c_exit (x_exit (ks':=_) z ?_)
  obtain rfl:=si hm82
  exact x_sub K75 ⟨z,trivial⟩ (pk 8 [0,1,2,3,4,5,6,7])
 have hm82:=ift hm79 h81
 refine c_skip (x_seq (c_seq (c_blk (csr ?_))))
 obtain ⟨x83,hx83,hm84⟩:=bs hm82
 refine r_u (o_ixO 3 Tryz.underlying118 (fun _=>by kernel_rfl) z z z hx83) (r_u (o_ldO0 3 sc22 z z hx83 z z) (r_as z ?_))
 refine nsr ?_
 refine r_mv z (r_nc z (r_fa fa96_3 z (r_ld 2 sc94 z z z (r_mv z ?_))))
 refine r_u (o_lk1 (kv:=vW) (vv:=Ao.v) (key:=x83) (z0:=((⟨0,(⟨0,[],0⟩:As)⟩:Ao):Ao)) 4 Tryz.underlying94 (kok_W Tryz.underlying22) (fun _=>by kernel_rfl) z z z) ?_
 refine r_new (o_al ze102) fun b85 => ?_
 refine r_u0 (o_stn ag102 z z z z z z z) ?_
 refine nsq ?_
 obtain ⟨r86,hr86,hm87⟩:=bs hm84
 obtain ⟨r88,hr88,hm89⟩:=bs hm87
 obtain ⟨h90,hm91⟩:=ig hm89
 obtain ⟨r92,hr92,hm93⟩:=bs hm91
 obtain ⟨h94,hm95⟩:=ig hm93
 obtain ⟨h96,hm97⟩:=ig hm95
 refine c_any mixed (effs:=[]) (V:=[]) ?_
 refine stn [0,0,2,0,8,30,62,0,128,446,1022,2047,4095] [0,1,2,3,4,5,6,7,8,9,10,11,12] [] [_,_,_,_,_,_,_,_,_,_,_,_,_] (q_mv z z z (q_mv z z z (q_u z z (o_callq ca49 z (Ay.ok _ _ hr86)) (q_fa z z fa102_0 z (q_ld z z 0 sc22 z z z (q_u z z (o_callq ca49 z (Ay.ok (((mget a0.sessions x83).getD ((⟨0,(⟨0,[],0⟩:As)⟩:Ao):Ao)).num) _ hr88)) (q_u z z (o_bin z z (bS_add _ _ h90)) (q_fa z z fa102_1 z (q_u z z (o_ldn 0 (As.c (((mget a0.sessions x83).getD ((⟨0,(⟨0,[],0⟩:As)⟩:Ao):Ao)).reply)) ag41 z z z z) (q_u z z (o_callq ca54 z (CX.ok (((mget a0.sessions x83).getD ((⟨0,(⟨0,[],0⟩:As)⟩:Ao):Ao)).reply) _ hr92)) (q_u z z (o_bin z z (bS_add _ _ h94)) (q_u z z (o_bin z z (bS_add _ _ h96)) (q_u z z (o_as z) qn))))))))))))) en ?_
 intro _
 refine ex_sub (E':=[(0,pt b0_ 0),(100,v70),(101,vI (l69.length:Int)),(3,vS (out_76++((r86++r88)++r92))),(102,vI s_77)]) ⟨z,z,z,z,z,trivial⟩ ?_
 refine x_blk (x_seq (c_reg ?_))
 refine r_bin z z (bI_add _ 1) (r_mv z ?_)
 refine r_nil ?_
 exact x_lp (out_76++((r86++r88)++r92),i64 (s_77+1)) hm97 ⟨z,z,z,z,z,trivial⟩ (pk 9 [1,2,3,4,5,6,7,8])
def Am : List UInt32 :=
 [1779033703,3144134277,1013904242,2773480762,1359893119,2600822924,528734635,1541459225]
theorem Am.ok{G R F}(r:List UInt32)(hm:Am=r):CO Tryz.prog 62 [] G R (F)
  (Ret fun u R' L'=>u = .agg [vD (r.getD 0 default),vD (r.getD 1 default),vD (r.getD 2 default),vD (r.getD 3 default),vD (r.getD 4 default),vD (r.getD 5 default),vD (r.getD 6 default),vD (r.getD 7 default)].toArray∧R'=R∧L'=F):=by
 unfold Am at hm
 refine co_ofN (N:=2) Tryz.func62 z z ?_
 refine csr ?_
 refine r_new (o_al ze129) fun b0 => ?_
 refine nsr ?_
 refine r_u (o_bld [vD 1779033703,vD 3144134277,vD 1013904242,vD 2773480762,vD 1359893119,vD 2600822924,vD 528734635,vD 1541459225] z (fun _=>by kernel_rfl)) ?_
 refine r_u0 (o_stn ag129 z z z z z z z) ?_
 refine r_nil (x_seq (c_ret ?_))
 subst hm
 exact x_d1 z (rv_n 0 [vD 1779033703,vD 3144134277,vD 1013904242,vD 2773480762,vD 1359893119,vD 2600822924,vD 528734635,vD 1541459225] ag129 z z z z) (pk 1 []) le_ ⟨_,z,z,z,z⟩
def C6(a0:Int):Option Str :=
 (gi (nn 10 [[48,49,50,51,52,53,54,55,56,57,97,98,99,100,101,102],[101,97,52,56,57,102,100,54,49,99,48,50,98,55,53,51],[98,56,99,48,53,50,102,100,97,101,51,54,55,49,57,52],[55,57,51,49,100,99,98,101,50,54,53,97,52,48,102,56],[57,48,53,55,50,52,97,102,101,49,98,99,54,56,51,100],[50,99,54,97,48,98,56,51,52,100,55,53,102,101,49,57],[99,53,49,102,101,100,52,97,48,55,54,51,57,50,56,98],[100,98,55,101,99,49,51,57,53,48,102,52,56,54,50,97],[54,102,101,57,98,51,48,56,99,50,100,55,49,52,97,53],[97,50,56,52,55,54,49,53,102,98,57,101,51,99,100,48]]) a0).bind fun x1=>some x1
theorem C6.ok{G R F}(a0:Int)(r:Str)(hm:C6 a0=some r):CO Tryz.prog 111 [vI a0] G R (F)
  (Ret fun u R' L'=>u=vS r∧R'=R∧L'=F):=by
 unfold C6 at hm
 refine co_ofN (N:=8) Tryz.func111 z z ?_
 refine csr ?_
 refine r_as z ?_
 refine nsr ?_
 refine r_u (o_bld [vS [48,49,50,51,52,53,54,55,56,57,97,98,99,100,101,102],vS [101,97,52,56,57,102,100,54,49,99,48,50,98,55,53,51],vS [98,56,99,48,53,50,102,100,97,101,51,54,55,49,57,52],vS [55,57,51,49,100,99,98,101,50,54,53,97,52,48,102,56],vS [57,48,53,55,50,52,97,102,101,49,98,99,54,56,51,100],vS [50,99,54,97,48,98,56,51,52,100,55,53,102,101,49,57],vS [99,53,49,102,101,100,52,97,48,55,54,51,57,50,56,98],vS [100,98,55,101,99,49,51,57,53,48,102,52,56,54,50,97],vS [54,102,101,57,98,51,48,56,99,50,100,55,49,52,97,53],vS [97,50,56,52,55,54,49,53,102,98,57,101,51,99,100,48]] z (fun _=>by kernel_rfl)) ?_
 refine r_new (o_al ze229) fun b0 => ?_
 refine r_u0 (o_stn ag229 z z z z z z z) ?_
 refine nsr ?_
 refine r_mv z ?_
 obtain ⟨x1,hx1,hm2⟩:=bs hm
 refine r_u (o_ixA (sz:=1) (n:=10) Tryz.underlying229 (fun _=>by kernel_rfl) z z (gi_nn hx1)) ?_
 refine r_u (o_ldV (f:=vS) 0 hx1 sc9 z z) (r_as z ?_)
 refine r_nil (x_seq (c_ret ?_))
 obtain rfl:=si hm2
 refine ex_st (pk 1 []) ?_
 exact x_r1 z (rv_t z) le_ ⟨_,z,z,z,z⟩
def CY(a0:UInt8):Int :=
 if decide (97≤a0) then i64 (((a0-97).toNat:Int)+10) else ((a0-48).toNat:Int)
theorem CY.ok{G R F}(a0:UInt8)(r:Int)(hm:CY a0=r):CO Tryz.prog 113 [vY a0] G R (F)
  (Ret fun u R' L'=>u=vI r∧R'=R∧L'=F):=by
 unfold CY at hm
 refine co_ofN (N:=12) Tryz.func113 z z ?_
 refine csr ?_
 refine r_as z ?_
 refine nssr ?_
 refine r_mv z (r_bin z z (bY_ge a0 97) ?_)
 refine nsq ?_
 refine c_if (b:=decide (97≤a0)) z (fun h0 => ?_) fun h0 => ?_
 ·have hm1:=ift hm h0
  refine csr ?_
  refine r_mv z (r_bin z z (bY_sub a0 97) (r_u (o_cv z (cYI Tryz.underlying5 Tryz.underlying3 (a0-97))) (r_bin z z (bI_add _ 10) (r_as z ?_))))
  refine r_nil (x_seq (c_ret ?_))
  subst hm1
  exact x_r1 z (rv_t z) le_ ⟨_,z,z,z,z⟩
 have hm1:=iff_ hm h0
 refine c_skip (x_seq (csr ?_))
 refine r_mv z (r_bin z z (bY_sub a0 48) (r_u (o_cv z (cYI Tryz.underlying5 Tryz.underlying3 (a0-48))) (r_as z ?_)))
 refine r_nil (x_seq (c_ret ?_))
 subst hm1
 exact x_r1 z (rv_t z) le_ ⟨_,z,z,z,z⟩
def CM(a0:Int)(a1:List UInt8):Option UInt32 :=
 (gi a1 (i64 (4*a0))).bind fun x0=>(gi a1 (i64 ((i64 (4*a0))+1))).bind fun x2=>(gi a1 (i64 ((i64 (4*a0))+2))).bind fun x4=>(gi a1 (i64 ((i64 (4*a0))+3))).bind fun x6=>some (((x0.toUInt32 ||| (shDl x2.toUInt32 ((8:UInt64).toNat:Int))) ||| (shDl x4.toUInt32 ((16:UInt64).toNat:Int))) ||| (shDl x6.toUInt32 ((24:UInt64).toNat:Int)))
theorem CM.ok{G R F}(a0:Int)(b1_:Nat)(a1:List UInt8)(w1_:Value)(h1_:RoS R w1_ 1 (fun x=>[vY x]) a1)(r:UInt32)(hm:CM a0 a1=some r):CO Tryz.prog 110 [vI a0,pt b1_ 0] G R (Bk b1_ 131 [w1_]::F)
  (Ret fun u R' L'=>u=vD r∧R'=R∧L'=Bk b1_ 131 [w1_]::F):=by
 unfold CM at hm
 refine co_ofN (N:=37) Tryz.func110 z z ?_
 refine csr ?_
 refine r_as z ?_
 refine r_nil (x_seq (c_seq ?_))
 obtain ⟨x0,hx0,hm1⟩:=bs hm
 obtain ⟨b0,o0,l0,T0,fr0,c0,hv0,hR0,he0,hi0⟩:=RoS.ne h1_ hx0
 obtain ⟨x2,hx2,hm3⟩:=bs hm1
 obtain ⟨b2,o2,l2,T2,fr2,c2,hv2,hR2,he2,hi2⟩:=RoS.ne h1_ hx2
 obtain ⟨x4,hx4,hm5⟩:=bs hm3
 obtain ⟨b4,o4,l4,T4,fr4,c4,hv4,hR4,he4,hi4⟩:=RoS.ne h1_ hx4
 obtain ⟨x6,hx6,hm7⟩:=bs hm5
 obtain ⟨b6,o6,l6,T6,fr6,c6,hv6,hR6,he6,hi6⟩:=RoS.ne h1_ hx6
 refine c_any mixed (effs:=[]) (V:=[]) ?_
 refine stn [0,0,2,7,15,31,0,0,128,384,960,1984,4032,8128,16383,0,0,65536,196608,491520,1015808,2064384,4161536,8388607,0,0,33554432,100663296,251658240,520093696,1056964608,2130706432,4294967295,8589934591] [0,1,2,3,4,5,6,7,8,9,10,11,12,13,14,15,16,17,18,19,20,21,22,23,24,25,26,27,28,29,30,31,32,33] [] [_,_,_,_,_,_,_,_,_,_,_,_,_,_,_,_,_,_,_,_,_,_,_,_,_,_,_,_,_,_,_,_,_,_] (q_ld z z 0 sc131 z z z (q_mv z z z (q_u z z (o_bin z z (bI_mul 4 a0)) (q_u z z (o_ix (sz:=1) Tryz.underlying131 (fun _=>by kernel_rfl) z z hv0 hi0) (q_u z z (o_ldR sc5 z hR0 (rok 0 he0 (by decide))) (q_u z z (o_cv z (cYD Tryz.underlying5 Tryz.underlying128 x0)) (q_ld z z 0 sc131 z z z (q_mv z z z (q_u z z (o_bin z z (bI_mul 4 a0)) (q_u z z (o_bin z z (bI_add _ 1)) (q_u z z (o_ix (sz:=1) Tryz.underlying131 (fun _=>by kernel_rfl) z z hv2 hi2) (q_u z z (o_ldR sc5 z hR2 (rok 0 he2 (by decide))) (q_u z z (o_cv z (cYD Tryz.underlying5 Tryz.underlying128 x2)) (q_u z z (o_bin z z (bDW_shl x2.toUInt32 8)) (q_u z z (o_bin z z (bD_or _ _)) (q_ld z z 0 sc131 z z z (q_mv z z z (q_u z z (o_bin z z (bI_mul 4 a0)) (q_u z z (o_bin z z (bI_add _ 2)) (q_u z z (o_ix (sz:=1) Tryz.underlying131 (fun _=>by kernel_rfl) z z hv4 hi4) (q_u z z (o_ldR sc5 z hR4 (rok 0 he4 (by decide))) (q_u z z (o_cv z (cYD Tryz.underlying5 Tryz.underlying128 x4)) (q_u z z (o_bin z z (bDW_shl x4.toUInt32 16)) (q_u z z (o_bin z z (bD_or _ _)) (q_ld z z 0 sc131 z z z (q_mv z z z (q_u z z (o_bin z z (bI_mul 4 a0)) (q_u z z (o_bin z z (bI_add _ 3)) (q_u z z (o_ix (sz:=1) Tryz.underlying131 (fun _=>by kernel_rfl) z z hv6 hi6) (q_u z z (o_ldR sc5 z hR6 (rok 0 he6 (by decide))) (q_u z z (o_cv z (cYD Tryz.underlying5 Tryz.underlying128 x6)) (q_u z z (o_bin z z (bDW_shl x6.toUInt32 24)) (q_u z z (o_bin z z (bD_or _ _)) (q_u z z (o_as z) qn)))))))))))))))))))))))))))))))))) en ?_
 intro _
 refine ex_sub (E':=[(3,vD (((x0.toUInt32 ||| (shDl x2.toUInt32 ((8:UInt64).toNat:Int))) ||| (shDl x4.toUInt32 ((16:UInt64).toNat:Int))) ||| (shDl x6.toUInt32 ((24:UInt64).toNat:Int))))]) ⟨z,trivial⟩ ?_
 refine x_seq (c_ret ?_)
 obtain rfl:=si hm7
 exact x_r1 z (rv_t z) le_ ⟨_,z,z,z,z⟩
def Bu(a0:Int)(a1s0:List UInt8)(a2:Str):Option UInt32 :=
 (gi a2 a0).bind fun c0=>(CM (CY c0) a1s0).bind fun r2=>some r2
theorem Bu.ok{G R F}(a0:Int)(b1_:Nat)(b1s0_:Nat)(a1s0:List UInt8)(w1s0_:Value)(h1s0_:RoS R w1s0_ 1 (fun x=>[vY x]) a1s0)(b2_:Nat)(a2:Str)(r:UInt32)(hm:Bu a0 a1s0 a2=some r):CO Tryz.prog 112 [vI a0,pt b1_ 0,pt b2_ 0] G R (Bk b1_ 185 [.func (.func 110) #[] #[pt b1s0_ 0]]::Bk b1s0_ 131 [w1s0_]::Bk b2_ 9 [vS a2]::F)
  (Ret fun u R' L'=>u=vD r∧R'=R∧L'=Bk b1_ 185 [.func (.func 110) #[] #[pt b1s0_ 0]]::Bk b1s0_ 131 [w1s0_]::Bk b2_ 9 [vS a2]::F):=by
 unfold Bu at hm
 refine co_ofN (N:=11) Tryz.func112 z z ?_
 refine csr ?_
 refine r_as z ?_
 refine r_nil (x_seq (c_seq ?_))
 obtain ⟨c0,hc0,hm1⟩:=bs hm
 obtain ⟨r2,hr2,hm3⟩:=bs hm1
 refine c_any mixed (effs:=[]) (V:=[]) ?_
 refine stn [0,0,0,6,14,31,63] [0,1,2,3,4,5,6] [] [_,_,_,_,_,_,_] (q_ld z z 0 sc185 z z z (q_ld z z 2 sc9 z z z (q_mv z z z (q_u z z (o_ixS Tryz.underlying9 z z hc0) (q_u z z (o_callq ca113 z (CY.ok c0 _ z)) (q_u z z (o_callqPC z ca110 z (CM.ok _ b1s0_ _ w1s0_ h1s0_ _ hr2) (pk 3 [1,0,2]) (pk 3 [1,0,2])) (q_u z z (o_as z) qn))))))) en ?_
 intro _
 refine ex_sub (E':=[(4,vD r2)]) ⟨z,trivial⟩ ?_
 refine x_seq (c_ret ?_)
 obtain rfl:=si hm3
 exact x_r1 z (rv_t z) le_ ⟨_,z,z,z,z⟩
def AP(a0:UInt32)(a1:Int):UInt32 :=
 (shDl a0 (((toW a1) &&& 31).toNat:Int)) ||| (shDr a0 ((32-((toW a1) &&& 31)).toNat:Int))
theorem AP.ok{G R F}(a0:UInt32)(a1:Int)(r:UInt32)(hm:AP a0 a1=r):CO Tryz.prog 159 [vD a0,vI a1] G R (F)
  (Ret fun u R' L'=>u=vD r∧R'=R∧L'=F):=by
 unfold AP at hm
 refine co_ofN (N:=17) Tryz.func159 z z ?_
 refine csr ?_
 refine r_as z ?_
 refine nsr ?_
 refine r_mv z (r_u (o_cv z (cIW Tryz.underlying3 Tryz.underlying134 a1)) (r_bin z z (bW_and _ 31) (r_as z ?_)))
 refine nsr ?_
 refine r_mv z (r_mv z (r_bin z z (bDW_shl a0 ((toW a1) &&& 31)) (r_mv z (r_mv z (r_bin z z (bW_sub 32 _) (r_bin z z (bDW_shr a0 (32-((toW a1) &&& 31))) (r_u (o_bin z z (bD_or _ _)) (r_as z ?_))))))))
 refine r_nil (x_seq (c_ret ?_))
 subst hm
 exact x_r1 z (rv_t z) le_ ⟨_,z,z,z,z⟩
def B7(a0:List UInt32)(a1:Int)(a2:Int)(a3:Int)(a4:Int)(a5:UInt32)(a6:UInt32):Option (List UInt32) :=
 (gi (nn 16 a0) a1).bind fun x0=>(gi (nn 16 a0) a2).bind fun x2=>lt (ls (nn 16 a0) a1 (x0+(x2+a5))) fun y4=>(gi (nn 16 y4) a4).bind fun x6=>(gi (nn 16 y4) a1).bind fun x8=>lt (ls (nn 16 y4) a4 (AP (x6 ^^^ x8) (-16))) fun y10=>(gi (nn 16 y10) a3).bind fun x12=>(gi (nn 16 y10) a4).bind fun x14=>lt (ls (nn 16 y10) a3 (x12+x14)) fun y16=>(gi (nn 16 y16) a2).bind fun x18=>(gi (nn 16 y16) a3).bind fun x20=>lt (ls (nn 16 y16) a2 (AP (x18 ^^^ x20) (-12))) fun y22=>(gi (nn 16 y22) a1).bind fun x24=>(gi (nn 16 y22) a2).bind fun x26=>lt (ls (nn 16 y22) a1 (x24+(x26+a6))) fun y28=>(gi (nn 16 y28) a4).bind fun x30=>(gi (nn 16 y28) a1).bind fun x32=>lt (ls (nn 16 y28) a4 (AP (x30 ^^^ x32) (-8))) fun y34=>(gi (nn 16 y34) a3).bind fun x36=>(gi (nn 16 y34) a4).bind fun x38=>lt (ls (nn 16 y34) a3 (x36+x38)) fun y40=>(gi (nn 16 y40) a2).bind fun x42=>(gi (nn 16 y40) a3).bind fun x44=>lt (ls (nn 16 y40) a2 (AP (x42 ^^^ x44) (-7))) fun y46=>some y46
theorem B7.ok{G R F}(b0_:Nat)(a0:List UInt32)(a1:Int)(a2:Int)(a3:Int)(a4:Int)(a5:UInt32)(a6:UInt32)(r:List UInt32)(hm:B7 a0 a1 a2 a3 a4 a5 a6=some r):CO Tryz.prog 114 [pt b0_ 0,vI a1,vI a2,vI a3,vI a4,vD a5,vD a6] G R (Bk b0_ 183 [vD (a0.getD 0 default),vD (a0.getD 1 default),vD (a0.getD 2 default),vD (a0.getD 3 default),vD (a0.getD 4 default),vD (a0.getD 5 default),vD (a0.getD 6 default),vD (a0.getD 7 default),vD (a0.getD 8 default),vD (a0.getD 9 default),vD (a0.getD 10 default),vD (a0.getD 11 default),vD (a0.getD 12 default),vD (a0.getD 13 default),vD (a0.getD 14 default),vD (a0.getD 15 default)]::F)
  (Ret fun u R' L'=>u = .tuple #[]∧R'=R∧L'=Bk b0_ 183 [vD (r.getD 0 default),vD (r.getD 1 default),vD (r.getD 2 default),vD (r.getD 3 default),vD (r.getD 4 default),vD (r.getD 5 default),vD (r.getD 6 default),vD (r.getD 7 default),vD (r.getD 8 default),vD (r.getD 9 default),vD (r.getD 10 default),vD (r.getD 11 default),vD (r.getD 12 default),vD (r.getD 13 default),vD (r.getD 14 default),vD (r.getD 15 default)]::F):=by
 unfold B7 at hm
 refine co_ofN (N:=134) Tryz.func114 z z ?_
 refine c_seq ?_
 obtain ⟨x0,hx0,hm1⟩:=bs hm
 obtain ⟨x2,hx2,hm3⟩:=bs hm1
 obtain ⟨y4,hy4,hm5⟩:=ltx hm3
 refine c_any mixed (effs:=[15]) (V:=[]) ?_
 refine stn mk7_ [0,1,2,3,4,5,6,7,8,9,10,11,12,13,14] [15] [_,_,_,_,_,_,_,_,_,_,_,_,_,_,_] (q_mv z z z (q_mv z z z (q_u z z (o_nc z) (q_u z z (o_ixA (sz:=1) (n:=16) Tryz.underlying183 (fun _=>by kernel_rfl) z z (gi_nn hx0)) (q_u z z (o_ldV (f:=vD) 0 hx0 sc128 z z) (q_mv z z z (q_mv z z z (q_u z z (o_nc z) (q_u z z (o_ixA (sz:=1) (n:=16) Tryz.underlying183 (fun _=>by kernel_rfl) z z (gi_nn hx2)) (q_u z z (o_ldV (f:=vD) 0 hx2 sc128 z z) (q_mv z z z (q_u z z (o_bin z z (bD_add x2 a5)) (q_u z z (o_bin z z (bD_add x0 _)) (q_u z z (o_nc z) (q_u z z (o_ixA (sz:=1) (n:=16) Tryz.underlying183 (fun _=>by kernel_rfl) z z (gi_nn hx0)) qn))))))))))))))) ?_ (nxt z)
 refine ec (eo_u z (s_u (o_stV 16 (f:=vD) (u:=x0+(x2+a5)) hy4 hx0 sc128 z z z z)) le_ ?_) en
 refine stage z z z z mk7_ [] [] z z z qn en ?_
 intro _
 refine ex_sub (E':=[(0,pt b0_ 0),(1,vI a1),(2,vI a2),(3,vI a3),(4,vI a4),(6,vD a6)]) ⟨z,z,z,z,z,z,trivial⟩ ?_
 refine x_seq (c_seq ?_)
 obtain ⟨x6,hx6,hm7⟩:=bs hm5
 obtain ⟨x8,hx8,hm9⟩:=bs hm7
 obtain ⟨y10,hy10,hm11⟩:=ltx hm9
 refine c_any mixed (effs:=[16]) (V:=[]) ?_
 refine stn mk2_ [0,1,2,3,4,5,6,7,8,9,10,11,12,13,14,15] [16] [_,_,_,_,_,_,_,_,_,_,_,_,_,_,_,_] (q_mv z z z (q_mv z z z (q_mv z z z (q_mv z z z (q_u z z (o_nc z) (q_u z z (o_ixA (sz:=1) (n:=16) Tryz.underlying183 (fun _=>by kernel_rfl) z z (gi_nn hx6)) (q_u z z (o_ldV (f:=vD) 0 hx6 sc128 z z) (q_mv z z z (q_mv z z z (q_u z z (o_nc z) (q_u z z (o_ixA (sz:=1) (n:=16) Tryz.underlying183 (fun _=>by kernel_rfl) z z (gi_nn hx8)) (q_u z z (o_ldV (f:=vD) 0 hx8 sc128 z z) (q_u z z (o_bin z z (bD_xor x6 x8)) (q_u z z (o_callq ca159 z (AP.ok (x6 ^^^ x8) (-16) _ z)) (q_u z z (o_nc z) (q_u z z (o_ixA (sz:=1) (n:=16) Tryz.underlying183 (fun _=>by kernel_rfl) z z (gi_nn hx6)) qn)))))))))))))))) ?_ (nxt z)
 refine ec (eo_u z (s_u (o_stV 16 (f:=vD) (u:=(AP (x6 ^^^ x8) (-16))) hy10 hx6 sc128 z z z z)) le_ ?_) en
 refine stage z z z z mk2_ [] [] z z z qn en ?_
 intro _
 refine ex_sub (E':=[(0,pt b0_ 0),(1,vI a1),(2,vI a2),(3,vI a3),(4,vI a4),(6,vD a6)]) ⟨z,z,z,z,z,z,trivial⟩ ?_
 refine x_seq (c_seq ?_)
 obtain ⟨x12,hx12,hm13⟩:=bs hm11
 obtain ⟨x14,hx14,hm15⟩:=bs hm13
 obtain ⟨y16,hy16,hm17⟩:=ltx hm15
 refine c_any mixed (effs:=[13]) (V:=[]) ?_
 refine stn mk8_ [0,1,2,3,4,5,6,7,8,9,10,11,12] [13] [_,_,_,_,_,_,_,_,_,_,_,_,_] (q_mv z z z (q_mv z z z (q_u z z (o_nc z) (q_u z z (o_ixA (sz:=1) (n:=16) Tryz.underlying183 (fun _=>by kernel_rfl) z z (gi_nn hx12)) (q_u z z (o_ldV (f:=vD) 0 hx12 sc128 z z) (q_mv z z z (q_mv z z z (q_u z z (o_nc z) (q_u z z (o_ixA (sz:=1) (n:=16) Tryz.underlying183 (fun _=>by kernel_rfl) z z (gi_nn hx14)) (q_u z z (o_ldV (f:=vD) 0 hx14 sc128 z z) (q_u z z (o_bin z z (bD_add _ _)) (q_u z z (o_nc z) (q_u z z (o_ixA (sz:=1) (n:=16) Tryz.underlying183 (fun _=>by kernel_rfl) z z (gi_nn hx12)) qn))))))))))))) ?_ (nxt z)
 refine ec (eo_u z (s_u (o_stV 16 (f:=vD) (u:=x12+x14) hy16 hx12 sc128 z z z z)) le_ ?_) en
 refine stage z z z z mk8_ [] [] z z z qn en ?_
 intro _
 refine ex_sub (E':=[(0,pt b0_ 0),(1,vI a1),(2,vI a2),(3,vI a3),(4,vI a4),(6,vD a6)]) ⟨z,z,z,z,z,z,trivial⟩ ?_
 refine x_seq (c_seq ?_)
 obtain ⟨x18,hx18,hm19⟩:=bs hm17
 obtain ⟨x20,hx20,hm21⟩:=bs hm19
 obtain ⟨y22,hy22,hm23⟩:=ltx hm21
 refine c_any mixed (effs:=[16]) (V:=[]) ?_
 refine stn mk2_ [0,1,2,3,4,5,6,7,8,9,10,11,12,13,14,15] [16] [_,_,_,_,_,_,_,_,_,_,_,_,_,_,_,_] (q_mv z z z (q_mv z z z (q_mv z z z (q_mv z z z (q_u z z (o_nc z) (q_u z z (o_ixA (sz:=1) (n:=16) Tryz.underlying183 (fun _=>by kernel_rfl) z z (gi_nn hx18)) (q_u z z (o_ldV (f:=vD) 0 hx18 sc128 z z) (q_mv z z z (q_mv z z z (q_u z z (o_nc z) (q_u z z (o_ixA (sz:=1) (n:=16) Tryz.underlying183 (fun _=>by kernel_rfl) z z (gi_nn hx20)) (q_u z z (o_ldV (f:=vD) 0 hx20 sc128 z z) (q_u z z (o_bin z z (bD_xor _ _)) (q_u z z (o_callq ca159 z (AP.ok (x18 ^^^ x20) (-12) _ z)) (q_u z z (o_nc z) (q_u z z (o_ixA (sz:=1) (n:=16) Tryz.underlying183 (fun _=>by kernel_rfl) z z (gi_nn hx18)) qn)))))))))))))))) ?_ (nxt z)
 refine ec (eo_u z (s_u (o_stV 16 (f:=vD) (u:=(AP (x18 ^^^ x20) (-12))) hy22 hx18 sc128 z z z z)) le_ ?_) en
 refine stage z z z z mk2_ [] [] z z z qn en ?_
 intro _
 refine ex_sub (E':=[(0,pt b0_ 0),(1,vI a1),(2,vI a2),(3,vI a3),(4,vI a4),(6,vD a6)]) ⟨z,z,z,z,z,z,trivial⟩ ?_
 refine x_seq (c_seq ?_)
 obtain ⟨x24,hx24,hm25⟩:=bs hm23
 obtain ⟨x26,hx26,hm27⟩:=bs hm25
 obtain ⟨y28,hy28,hm29⟩:=ltx hm27
 refine c_any mixed (effs:=[15]) (V:=[]) ?_
 refine stn mk7_ [0,1,2,3,4,5,6,7,8,9,10,11,12,13,14] [15] [_,_,_,_,_,_,_,_,_,_,_,_,_,_,_] (q_mv z z z (q_mv z z z (q_u z z (o_nc z) (q_u z z (o_ixA (sz:=1) (n:=16) Tryz.underlying183 (fun _=>by kernel_rfl) z z (gi_nn hx24)) (q_u z z (o_ldV (f:=vD) 0 hx24 sc128 z z) (q_mv z z z (q_mv z z z (q_u z z (o_nc z) (q_u z z (o_ixA (sz:=1) (n:=16) Tryz.underlying183 (fun _=>by kernel_rfl) z z (gi_nn hx26)) (q_u z z (o_ldV (f:=vD) 0 hx26 sc128 z z) (q_mv z z z (q_u z z (o_bin z z (bD_add _ a6)) (q_u z z (o_bin z z (bD_add _ _)) (q_u z z (o_nc z) (q_u z z (o_ixA (sz:=1) (n:=16) Tryz.underlying183 (fun _=>by kernel_rfl) z z (gi_nn hx24)) qn))))))))))))))) ?_ (nxt z)
 refine ec (eo_u z (s_u (o_stV 16 (f:=vD) (u:=x24+(x26+a6)) hy28 hx24 sc128 z z z z)) le_ ?_) en
 refine stage z z z z mk7_ [] [] z z z qn en ?_
 intro _
 refine ex_sub (E':=[(0,pt b0_ 0),(1,vI a1),(2,vI a2),(3,vI a3),(4,vI a4)]) ⟨z,z,z,z,z,trivial⟩ ?_
 refine x_seq (c_seq ?_)
 obtain ⟨x30,hx30,hm31⟩:=bs hm29
 obtain ⟨x32,hx32,hm33⟩:=bs hm31
 obtain ⟨y34,hy34,hm35⟩:=ltx hm33
 refine c_any mixed (effs:=[16]) (V:=[]) ?_
 refine stn mk2_ [0,1,2,3,4,5,6,7,8,9,10,11,12,13,14,15] [16] [_,_,_,_,_,_,_,_,_,_,_,_,_,_,_,_] (q_mv z z z (q_mv z z z (q_mv z z z (q_mv z z z (q_u z z (o_nc z) (q_u z z (o_ixA (sz:=1) (n:=16) Tryz.underlying183 (fun _=>by kernel_rfl) z z (gi_nn hx30)) (q_u z z (o_ldV (f:=vD) 0 hx30 sc128 z z) (q_mv z z z (q_mv z z z (q_u z z (o_nc z) (q_u z z (o_ixA (sz:=1) (n:=16) Tryz.underlying183 (fun _=>by kernel_rfl) z z (gi_nn hx32)) (q_u z z (o_ldV (f:=vD) 0 hx32 sc128 z z) (q_u z z (o_bin z z (bD_xor _ _)) (q_u z z (o_callq ca159 z (AP.ok (x30 ^^^ x32) (-8) _ z)) (q_u z z (o_nc z) (q_u z z (o_ixA (sz:=1) (n:=16) Tryz.underlying183 (fun _=>by kernel_rfl) z z (gi_nn hx30)) qn)))))))))))))))) ?_ (nxt z)
 refine ec (eo_u z (s_u (o_stV 16 (f:=vD) (u:=(AP (x30 ^^^ x32) (-8))) hy34 hx30 sc128 z z z z)) le_ ?_) en
 refine stage z z z z mk2_ [] [] z z z qn en ?_
 intro _
 refine ex_sub (E':=[(0,pt b0_ 0),(2,vI a2),(3,vI a3),(4,vI a4)]) ⟨z,z,z,z,trivial⟩ ?_
 refine x_seq (c_seq ?_)
 obtain ⟨x36,hx36,hm37⟩:=bs hm35
 obtain ⟨x38,hx38,hm39⟩:=bs hm37
 obtain ⟨y40,hy40,hm41⟩:=ltx hm39
 refine c_any mixed (effs:=[13]) (V:=[]) ?_
 refine stn mk8_ [0,1,2,3,4,5,6,7,8,9,10,11,12] [13] [_,_,_,_,_,_,_,_,_,_,_,_,_] (q_mv z z z (q_mv z z z (q_u z z (o_nc z) (q_u z z (o_ixA (sz:=1) (n:=16) Tryz.underlying183 (fun _=>by kernel_rfl) z z (gi_nn hx36)) (q_u z z (o_ldV (f:=vD) 0 hx36 sc128 z z) (q_mv z z z (q_mv z z z (q_u z z (o_nc z) (q_u z z (o_ixA (sz:=1) (n:=16) Tryz.underlying183 (fun _=>by kernel_rfl) z z (gi_nn hx38)) (q_u z z (o_ldV (f:=vD) 0 hx38 sc128 z z) (q_u z z (o_bin z z (bD_add _ _)) (q_u z z (o_nc z) (q_u z z (o_ixA (sz:=1) (n:=16) Tryz.underlying183 (fun _=>by kernel_rfl) z z (gi_nn hx36)) qn))))))))))))) ?_ (nxt z)
 refine ec (eo_u z (s_u (o_stV 16 (f:=vD) (u:=x36+x38) hy40 hx36 sc128 z z z z)) le_ ?_) en
 refine stage z z z z mk8_ [] [] z z z qn en ?_
 intro _
 refine ex_sub (E':=[(0,pt b0_ 0),(2,vI a2),(3,vI a3)]) ⟨z,z,z,trivial⟩ ?_
 refine x_seq ?_
 obtain ⟨x42,hx42,hm43⟩:=bs hm41
 obtain ⟨x44,hx44,hm45⟩:=bs hm43
 obtain ⟨y46,hy46,hm47⟩:=ltx hm45
 refine c_any mixed (effs:=[16]) (V:=[]) ?_
 refine stn mk2_ [0,1,2,3,4,5,6,7,8,9,10,11,12,13,14,15] [16] [_,_,_,_,_,_,_,_,_,_,_,_,_,_,_,_] (q_mv z z z (q_mv z z z (q_mv z z z (q_mv z z z (q_u z z (o_nc z) (q_u z z (o_ixA (sz:=1) (n:=16) Tryz.underlying183 (fun _=>by kernel_rfl) z z (gi_nn hx42)) (q_u z z (o_ldV (f:=vD) 0 hx42 sc128 z z) (q_mv z z z (q_mv z z z (q_u z z (o_nc z) (q_u z z (o_ixA (sz:=1) (n:=16) Tryz.underlying183 (fun _=>by kernel_rfl) z z (gi_nn hx44)) (q_u z z (o_ldV (f:=vD) 0 hx44 sc128 z z) (q_u z z (o_bin z z (bD_xor _ _)) (q_u z z (o_callq ca159 z (AP.ok (x42 ^^^ x44) (-7) _ z)) (q_u z z (o_nc z) (q_u z z (o_ixA (sz:=1) (n:=16) Tryz.underlying183 (fun _=>by kernel_rfl) z z (gi_nn hx42)) qn)))))))))))))))) ?_ (nxt z)
 refine ec (eo_u z (s_u (o_stV 16 (f:=vD) (u:=(AP (x42 ^^^ x44) (-7))) hy46 hx42 sc128 z z z z)) le_ ?_) en
 refine stage z z z z mk2_ [] [] z z z qn en ?_
 intro _
 refine ex_sub (E':=[]) trivial ?_
 refine x_end ?_
 obtain rfl:=si hm47
 exact x_r0 z le_ ⟨_,z,z,z,z⟩
def Cd(p10:List UInt32):Nat→Int→(List UInt32)→Option (List UInt32)
 | 0,_,_=>none
 | k20+1,s_18,c_19=>if decide (s_18<8) then (gi (nn 8 c_19) s_18).bind fun x25=>(gi (nn 16 p10) s_18).bind fun x27=>(gi (nn 16 p10) (i64 (s_18+8))).bind fun x29=>lt (ls (nn 8 c_19) s_18 (x25 ^^^ (x27 ^^^ x29))) fun y31=>Cd p10 k20 (i64 (s_18+1)) y31 else some c_19
def Ce(a1:List UInt8)(r44:Str):Nat→Int→(List UInt32)→Option (List UInt32)
 | 0,_,_=>none
 | k57+1,s_55,c_56=>if decide (s_55<4) then (Bu (i64 (8+(i64 (2*s_55)))) a1 r44).bind fun r62=>(Bu (i64 (9+(i64 (2*s_55)))) a1 r44).bind fun r64=>(B7 c_56 s_55 (i64 (4+((i64 (s_55+1)).tmod 4))) (i64 (8+((i64 (s_55+2)).tmod 4))) (i64 (12+((i64 (s_55+3)).tmod 4))) r62 r64).bind fun r66=>Ce a1 r44 k57 (i64 (s_55+1)) r66 else some c_56
def Cf(a1:List UInt8)(r44:Str):Nat→Int→(List UInt32)→Option (List UInt32)
 | 0,_,_=>none
 | k70+1,s_68,c_69=>if decide (s_68<4) then (Bu (i64 (2*s_68)) a1 r44).bind fun r75=>(Bu (i64 ((i64 (2*s_68))+1)) a1 r44).bind fun r77=>(B7 c_69 s_68 (i64 (s_68+4)) (i64 (s_68+8)) (i64 (s_68+12)) r75 r77).bind fun r79=>Cf a1 r44 k70 (i64 (s_68+1)) r79 else some c_69
def Cg(a1:List UInt8):Nat→Int→(List UInt32)→Option (List UInt32)
 | 0,_,_=>none
 | k35+1,s_33,c_34=>if decide (s_33<10) then Option.bind ((C6 s_33).bind fun r44=>Option.bind (Cf a1 r44 5 0 c_34) fun p47=>Option.bind (Ce a1 r44 5 0 p47) fun p51=>some p51) fun p40=>Cg a1 k35 (i64 (s_33+1)) p40 else some c_34
def CC(a0:List UInt32)(a1:List UInt8)(a2:UInt64)(a3:Bool):Option (List UInt32) :=
 Option.bind (if a3 then some (~~~(Am.getD 6 default)) else some (Am.getD 6 default)) fun p5=>Option.bind (Cg a1 11 0 [(a0.getD 0 default),(a0.getD 1 default),(a0.getD 2 default),(a0.getD 3 default),(a0.getD 4 default),(a0.getD 5 default),(a0.getD 6 default),(a0.getD 7 default),(Am.getD 0 default),(Am.getD 1 default),(Am.getD 2 default),(Am.getD 3 default),(Am.getD 4 default) ^^^ a2.toUInt32,(Am.getD 5 default) ^^^ ((shWr a2 ((32:UInt64).toNat:Int)).toUInt32),p5,(Am.getD 7 default)]) fun p10=>Option.bind (Cd p10 9 0 a0) fun p14=>some p14
theorem CC.ok{G R F}(a0:List UInt32)(v1_:Value)(a1:List UInt8)(h1_:RoS R v1_ 1 (fun x=>[vY x]) a1)(a2:UInt64)(a3:Bool)(r:List UInt32)(hm:CC a0 a1 a2 a3=some r):CO Tryz.prog 63 [.agg [vD (a0.getD 0 default),vD (a0.getD 1 default),vD (a0.getD 2 default),vD (a0.getD 3 default),vD (a0.getD 4 default),vD (a0.getD 5 default),vD (a0.getD 6 default),vD (a0.getD 7 default)].toArray,v1_,vW a2,vB a3] G R (F)
  (Ret fun u R' L'=>u = .agg [vD (r.getD 0 default),vD (r.getD 1 default),vD (r.getD 2 default),vD (r.getD 3 default),vD (r.getD 4 default),vD (r.getD 5 default),vD (r.getD 6 default),vD (r.getD 7 default)].toArray∧R'=R∧L'=F):=by
 unfold CC at hm
 refine co_ofN (N:=118) Tryz.func63 z z ?_
 refine csr ?_
 refine r_new (o_bx [vD (a0.getD 0 default),vD (a0.getD 1 default),vD (a0.getD 2 default),vD (a0.getD 3 default),vD (a0.getD 4 default),vD (a0.getD 5 default),vD (a0.getD 6 default),vD (a0.getD 7 default)] z z) fun b0 => ?_
 refine r_new (o_bx [v1_] z (sl_cells (RoS.hd h1_))) fun b1 => ?_
 refine r_new (o_al ze129) fun b2 => ?_
 refine nsr ?_
 refine r_new (o_al ze183) fun b3 => ?_
 refine nsr ?_
 refine r_u (o_callq ca62 z (Am.ok _ z)) ?_
 refine r_new (o_al ze129) fun b4 => ?_
 refine r_u0 (o_stn ag129 z z z z z z z) ?_
 refine r_nil (x_seq (c_seq ?_))
 refine c_any mixed (effs:=[2]) (V:=[]) ?_
 refine stage_st (fun _ h=>mv2 (mv4 h)) ?_
 refine stn [0,0,3] [0,1] [2] [_,_] (q_u z z (o_slAh (n:=16) (j:=8) Tryz.underlying183 (fun _=>by kernel_rfl) z z (by decide)) (q_u z z (o_slA Tryz.underlying129 (fun _=>by kernel_rfl) z) qn)) ?_ (nxt z)
 refine ec (eo_u z (s_u (o_cpB (es:=[vD (a0.getD 0 default),vD (a0.getD 1 default),vD (a0.getD 2 default),vD (a0.getD 3 default),vD (a0.getD 4 default),vD (a0.getD 5 default),vD (a0.getD 6 default),vD (a0.getD 7 default),vD 0,vD 0,vD 0,vD 0,vD 0,vD 0,vD 0,vD 0]) Tryz.underlying184 z z z z z z z z z)) le_ ?_) en
 refine stage z z z z [0,0,3] [] [] z z z qn en ?_
 intro _
 refine ex_sub (E':=[(2,vW a2),(3,vB a3),(4,pt b0 0),(5,pt b1 0),(8,pt b2 0),(9,pt b3 0),(10,pt b4 0)]) ⟨z,z,z,z,z,z,z,trivial⟩ ?_
 refine x_seq (c_seq ?_)
 refine c_any mixed (effs:=[2]) (V:=[]) ?_
 refine stage_st (fun _ h=>mv1 (mv2 h)) ?_
 refine stn [0,0,3] [0,1] [2] [_,_] (q_u z z (o_slAl (n:=16) (j:=8) Tryz.underlying183 (fun _=>by kernel_rfl) z z (by decide)) (q_u z z (o_slA Tryz.underlying129 (fun _=>by kernel_rfl) z) qn)) ?_ (nxt z)
 refine ec (eo_u z (s_u (o_cpB (es:=[vD (a0.getD 0 default),vD (a0.getD 1 default),vD (a0.getD 2 default),vD (a0.getD 3 default),vD (a0.getD 4 default),vD (a0.getD 5 default),vD (a0.getD 6 default),vD (a0.getD 7 default),vD (Am.getD 0 default),vD (Am.getD 1 default),vD (Am.getD 2 default),vD (Am.getD 3 default),vD (Am.getD 4 default),vD (Am.getD 5 default),vD (Am.getD 6 default),vD (Am.getD 7 default)]) Tryz.underlying184 z z z z z z z z z)) le_ ?_) en
 refine stage z z z z [0,0,3] [] [] z z z qn en ?_
 intro _
 refine ex_sub (E':=[(2,vW a2),(3,vB a3),(4,pt b0 0),(5,pt b1 0),(8,pt b2 0),(9,pt b3 0)]) ⟨z,z,z,z,z,z,trivial⟩ ?_
 refine x_seq (csr ?_)
 refine r_u (o_ixA (sz:=1) (n:=16) (i:=12) Tryz.underlying183 (fun _=>by kernel_rfl) z z (by decide)) (r_ld 0 sc128 z z z (r_mv z (r_u (o_cv z (cWD Tryz.underlying22 Tryz.underlying128 a2)) (r_bin z z (bD_xor _ _) ?_))))
 refine r_u (o_ixA (sz:=1) (n:=16) (i:=12) Tryz.underlying183 (fun _=>by kernel_rfl) z z (by decide)) ?_
 refine r_u0 (o_st sc128 z z z z z z) ?_
 refine nsr ?_
 refine r_u (o_ixA (sz:=1) (n:=16) (i:=13) Tryz.underlying183 (fun _=>by kernel_rfl) z z (by decide)) (r_ld 0 sc128 z z z (r_mv z (r_bin z z (bWW_shr a2 32) (r_u (o_cv z (cWD Tryz.underlying22 Tryz.underlying128 (shWr a2 ((32:UInt64).toNat:Int)))) (r_u (o_bin z z (bD_xor _ _)) ?_)))))
 refine r_u (o_ixA (sz:=1) (n:=16) (i:=13) Tryz.underlying183 (fun _=>by kernel_rfl) z z (by decide)) ?_
 refine r_u0 (o_st sc128 z z z z z z) ?_
 refine nssr ?_
 refine r_mv z ?_
 refine nsq ?_
 obtain ⟨p5,hp6,hm7⟩:=bs hm
 refine cd_join (E':=[(4,pt b0 0),(5,pt b1 0),(8,pt b2 0),(9,pt b3 0)]) (L':=Bk b3 183 [vD (a0.getD 0 default),vD (a0.getD 1 default),vD (a0.getD 2 default),vD (a0.getD 3 default),vD (a0.getD 4 default),vD (a0.getD 5 default),vD (a0.getD 6 default),vD (a0.getD 7 default),vD (Am.getD 0 default),vD (Am.getD 1 default),vD (Am.getD 2 default),vD (Am.getD 3 default),vD ((Am.getD 4 default) ^^^ a2.toUInt32),vD ((Am.getD 5 default) ^^^ ((shWr a2 ((32:UInt64).toNat:Int)).toUInt32)),vD p5,vD (Am.getD 7 default)]::Bk b4 129 [vD (Am.getD 0 default),vD (Am.getD 1 default),vD (Am.getD 2 default),vD (Am.getD 3 default),vD (Am.getD 4 default),vD (Am.getD 5 default),vD (Am.getD 6 default),vD (Am.getD 7 default)]::Bk b0 129 [vD (a0.getD 0 default),vD (a0.getD 1 default),vD (a0.getD 2 default),vD (a0.getD 3 default),vD (a0.getD 4 default),vD (a0.getD 5 default),vD (a0.getD 6 default),vD (a0.getD 7 default)]::Bk b2 129 [vD 0,vD 0,vD 0,vD 0,vD 0,vD 0,vD 0,vD 0]::Bk b1 131 [v1_]::F) ?_ fun K8 => ?_
 rotate_left
 ·refine c_if (b:=a3) z (fun h81 => ?_) fun h81 => ?_
  ·have hm82:=ift hp6 h81
   refine c_reg ?_
   refine r_u (o_ixA (sz:=1) (n:=16) (i:=14) Tryz.underlying183 (fun _=>by kernel_rfl) z z (by decide)) (r_ld 0 sc128 z z z ?_)
   refine r_u (o_un z (uD_xor (Am.getD 6 default))) ?_
   refine r_u (o_ixA (sz:=1) (n:=16) (i:=14) Tryz.underlying183 (fun _=>by kernel_rfl) z z (by decide)) ?_
   refine r_u0 (o_st sc128 z z z z z z) ?_
   refine r_nil ?_
   obtain rfl:=si hm82
   exact x_sub K8 ⟨z,z,z,z,trivial⟩ (pk 5 [0,1,2,3,4])
  have hm82:=iff_ hp6 h81
  refine c_skip ?_
  obtain rfl:=si hm82
  exact x_sub K8 ⟨z,z,z,z,trivial⟩ (pk 5 [0,1,2,3,4])
 refine x_seq (csr ?_)
 refine r_u (o_mf z) ?_
 refine r_new (o_al ze185) fun b9 => ?_
 refine r_u0 (o_st sc185 z z z z z z) ?_
 refine nssr ?_
 refine r_mv z ?_
 refine nsq ?_
 obtain ⟨p10,hp11,hm12⟩:=bs hm7
 refine cd_join (E':=[(4,pt b0 0),(8,pt b2 0),(9,pt b3 0)]) (L':=Bk b9 185 [.func (.func 110) #[] #[pt b1 0]]::Bk b3 183 [vD (p10.getD 0 default),vD (p10.getD 1 default),vD (p10.getD 2 default),vD (p10.getD 3 default),vD (p10.getD 4 default),vD (p10.getD 5 default),vD (p10.getD 6 default),vD (p10.getD 7 default),vD (p10.getD 8 default),vD (p10.getD 9 default),vD (p10.getD 10 default),vD (p10.getD 11 default),vD (p10.getD 12 default),vD (p10.getD 13 default),vD (p10.getD 14 default),vD (p10.getD 15 default)]::Bk b4 129 [vD (Am.getD 0 default),vD (Am.getD 1 default),vD (Am.getD 2 default),vD (Am.getD 3 default),vD (Am.getD 4 default),vD (Am.getD 5 default),vD (Am.getD 6 default),vD (Am.getD 7 default)]::Bk b0 129 [vD (a0.getD 0 default),vD (a0.getD 1 default),vD (a0.getD 2 default),vD (a0.getD 3 default),vD (a0.getD 4 default),vD (a0.getD 5 default),vD (a0.getD 6 default),vD (a0.getD 7 default)]::Bk b2 129 [vD 0,vD 0,vD 0,vD 0,vD 0,vD 0,vD 0,vD 0]::Bk b1 131 [v1_]::F) ?_ fun K13 => ?_
 ·refine x_seq (c_seq (csr ?_))
  refine r_mv z ?_
  refine nsq ?_
  obtain ⟨p14,hp15,hm16⟩:=bs hm12
  refine cd_join (E':=[(4,pt b0 0),(8,pt b2 0)]) (L':=Bk b9 185 [.func (.func 110) #[] #[pt b1 0]]::Bk b3 183 [vD (p10.getD 0 default),vD (p10.getD 1 default),vD (p10.getD 2 default),vD (p10.getD 3 default),vD (p10.getD 4 default),vD (p10.getD 5 default),vD (p10.getD 6 default),vD (p10.getD 7 default),vD (p10.getD 8 default),vD (p10.getD 9 default),vD (p10.getD 10 default),vD (p10.getD 11 default),vD (p10.getD 12 default),vD (p10.getD 13 default),vD (p10.getD 14 default),vD (p10.getD 15 default)]::Bk b4 129 [vD (Am.getD 0 default),vD (Am.getD 1 default),vD (Am.getD 2 default),vD (Am.getD 3 default),vD (Am.getD 4 default),vD (Am.getD 5 default),vD (Am.getD 6 default),vD (Am.getD 7 default)]::Bk b0 129 [vD (p14.getD 0 default),vD (p14.getD 1 default),vD (p14.getD 2 default),vD (p14.getD 3 default),vD (p14.getD 4 default),vD (p14.getD 5 default),vD (p14.getD 6 default),vD (p14.getD 7 default)]::Bk b2 129 [vD 0,vD 0,vD 0,vD 0,vD 0,vD 0,vD 0,vD 0]::Bk b1 131 [v1_]::F) ?_ fun K17 => ?_
  ·refine x_seq (csr ?_)
   refine r_u (o_ldn 3 [vD (p14.getD 0 default),vD (p14.getD 1 default),vD (p14.getD 2 default),vD (p14.getD 3 default),vD (p14.getD 4 default),vD (p14.getD 5 default),vD (p14.getD 6 default),vD (p14.getD 7 default)] ag129 z z z z) ?_
   refine rl_st (fun _ h=>mv4 h) ?_
   refine r_u0 (o_stn ag129 z z z z z z z) ?_
   refine r_nil (x_seq (c_ret ?_))
   obtain rfl:=si hm16
   exact x_d1 z (rv_n 0 [vD (p14.getD 0 default),vD (p14.getD 1 default),vD (p14.getD 2 default),vD (p14.getD 3 default),vD (p14.getD 4 default),vD (p14.getD 5 default),vD (p14.getD 6 default),vD (p14.getD 7 default)] ag129 z z z z) (pk 6 []) le_ ⟨_,z,z,z,z⟩
  refine c_blk ?_
  refine cd_loop (M:=fun k20 (s:Int×List UInt32)=>Cd p10 k20 s.1 s.2=some p14) (Ef:=fun (s:Int×List UInt32)=>[(4,pt b0 0),(8,pt b2 0),(9,pt b3 0),(100,vI s.1)]) (Lf:=fun (s:Int×List UInt32)=>Bk b9 185 [.func (.func 110) #[] #[pt b1 0]]::Bk b3 183 [vD (p10.getD 0 default),vD (p10.getD 1 default),vD (p10.getD 2 default),vD (p10.getD 3 default),vD (p10.getD 4 default),vD (p10.getD 5 default),vD (p10.getD 6 default),vD (p10.getD 7 default),vD (p10.getD 8 default),vD (p10.getD 9 default),vD (p10.getD 10 default),vD (p10.getD 11 default),vD (p10.getD 12 default),vD (p10.getD 13 default),vD (p10.getD 14 default),vD (p10.getD 15 default)]::Bk b4 129 [vD (Am.getD 0 default),vD (Am.getD 1 default),vD (Am.getD 2 default),vD (Am.getD 3 default),vD (Am.getD 4 default),vD (Am.getD 5 default),vD (Am.getD 6 default),vD (Am.getD 7 default)]::Bk b0 129 [vD (s.2.getD 0 default),vD (s.2.getD 1 default),vD (s.2.getD 2 default),vD (s.2.getD 3 default),vD (s.2.getD 4 default),vD (s.2.getD 5 default),vD (s.2.getD 6 default),vD (s.2.getD 7 default)]::Bk b2 129 [vD 0,vD 0,vD 0,vD 0,vD 0,vD 0,vD 0,vD 0]::Bk b1 131 [v1_]::F) 9 (0,a0) hp15 ⟨z,z,z,z,trivial⟩ (fun _ h=>h) (fun _ h=>by cases h) fun k20 s hM22 => ?_
  obtain ⟨s_18,c_19⟩:=s
  have hm21:Cd p10 (k20+1) s_18 c_19=some p14:=hM22
  rw [Cd] at hm21
  refine csr ?_
  refine r_bin z z (bI_lt _ 8) ?_
  refine r_nil (x_seq (c_seq ?_))
  refine c_if (b:=decide (s_18<8)) z (fun h23 => ?_) fun h23 => ?_
  rotate_left
  ·have hm24:=iff_ hm21 h23
   refine c_exit (x_exit (ks':=_) z ?_)
   obtain rfl:=si hm24
   exact x_sub K17 ⟨z,z,trivial⟩ (pk 6 [0,1,2,3,4,5])
  have hm24:=ift hm21 h23
  refine c_skip (x_seq (c_seq (c_blk (csr ?_))))
  refine r_mv z (r_as z ?_)
  refine nsq ?_
  obtain ⟨x25,hx25,hm26⟩:=bs hm24
  obtain ⟨x27,hx27,hm28⟩:=bs hm26
  obtain ⟨x29,hx29,hm30⟩:=bs hm28
  obtain ⟨y31,hy31,hm32⟩:=ltx hm30
  refine c_any mixed (effs:=[13]) (V:=[]) ?_
  refine stage_st (fun _ h=>mv3 h) ?_
  refine stn mk24_ [0,1,2,3,4,5,6,7,8,9,10,11,12] [13] [_,_,_,_,_,_,_,_,_,_,_,_,_] (q_mv z z z (q_u z z (o_ixA (sz:=1) (n:=8) Tryz.underlying129 (fun _=>by kernel_rfl) z z (gi_nn hx25)) (q_u z z (o_ldV (f:=vD) 0 hx25 sc128 z z) (q_mv z z z (q_u z z (o_ixA (sz:=1) (n:=16) Tryz.underlying183 (fun _=>by kernel_rfl) z z (gi_nn hx27)) (q_u z z (o_ldV (f:=vD) 2 hx27 sc128 z z) (q_mv z z z (q_u z z (o_bin z z (bI_add _ 8)) (q_u z z (o_ixA (sz:=1) (n:=16) Tryz.underlying183 (fun _=>by kernel_rfl) z z (gi_nn hx29)) (q_u z z (o_ldV (f:=vD) 2 hx29 sc128 z z) (q_u z z (o_bin z z (bD_xor _ _)) (q_u z z (o_bin z z (bD_xor _ _)) (q_u z z (o_ixA (sz:=1) (n:=8) Tryz.underlying129 (fun _=>by kernel_rfl) z z (gi_nn hx25)) qn))))))))))))) ?_ (nxt z)
  refine ec (eo_u z (s_u (o_stV 8 (f:=vD) (u:=x25 ^^^ (x27 ^^^ x29)) hy31 hx25 sc128 z z z z)) le_ ?_) en
  refine stage z z z z mk24_ [] [] z z z qn en ?_
  intro _
  refine ex_sub (E':=[(4,pt b0 0),(8,pt b2 0),(9,pt b3 0),(100,vI s_18)]) ⟨z,z,z,z,trivial⟩ ?_
  refine x_blk (x_seq (c_reg ?_))
  refine r_bin z z (bI_add _ 1) (r_mv z ?_)
  refine r_nil ?_
  exact x_lp (i64 (s_18+1),y31) hm32 ⟨z,z,z,z,trivial⟩ (pk 6 [1,2,3,0,4,5])
 refine c_blk ?_
 refine cd_loop (M:=fun k35 (s:Int×List UInt32)=>Cg a1 k35 s.1 s.2=some p10) (Ef:=fun (s:Int×List UInt32)=>[(4,pt b0 0),(8,pt b2 0),(9,pt b3 0),(11,pt b9 0),(44,vI s.1)]) (Lf:=fun (s:Int×List UInt32)=>Bk b9 185 [.func (.func 110) #[] #[pt b1 0]]::Bk b3 183 [vD (s.2.getD 0 default),vD (s.2.getD 1 default),vD (s.2.getD 2 default),vD (s.2.getD 3 default),vD (s.2.getD 4 default),vD (s.2.getD 5 default),vD (s.2.getD 6 default),vD (s.2.getD 7 default),vD (s.2.getD 8 default),vD (s.2.getD 9 default),vD (s.2.getD 10 default),vD (s.2.getD 11 default),vD (s.2.getD 12 default),vD (s.2.getD 13 default),vD (s.2.getD 14 default),vD (s.2.getD 15 default)]::Bk b4 129 [vD (Am.getD 0 default),vD (Am.getD 1 default),vD (Am.getD 2 default),vD (Am.getD 3 default),vD (Am.getD 4 default),vD (Am.getD 5 default),vD (Am.getD 6 default),vD (Am.getD 7 default)]::Bk b0 129 [vD (a0.getD 0 default),vD (a0.getD 1 default),vD (a0.getD 2 default),vD (a0.getD 3 default),vD (a0.getD 4 default),vD (a0.getD 5 default),vD (a0.getD 6 default),vD (a0.getD 7 default)]::Bk b2 129 [vD 0,vD 0,vD 0,vD 0,vD 0,vD 0,vD 0,vD 0]::Bk b1 131 [v1_]::F) 11 (0,[(a0.getD 0 default),(a0.getD 1 default),(a0.getD 2 default),(a0.getD 3 default),(a0.getD 4 default),(a0.getD 5 default),(a0.getD 6 default),(a0.getD 7 default),(Am.getD 0 default),(Am.getD 1 default),(Am.getD 2 default),(Am.getD 3 default),(Am.getD 4 default) ^^^ a2.toUInt32,(Am.getD 5 default) ^^^ ((shWr a2 ((32:UInt64).toNat:Int)).toUInt32),p5,(Am.getD 7 default)]) hp11 ⟨z,z,z,z,z,trivial⟩ (fun _ h=>h) (fun _ h=>by cases h) fun k35 s hM37 => ?_
 obtain ⟨s_33,c_34⟩:=s
 have hm36:Cg a1 (k35+1) s_33 c_34=some p10:=hM37
 rw [Cg] at hm36
 refine csr ?_
 refine r_bin z z (bI_lt _ 10) ?_
 refine r_nil (x_seq (c_seq ?_))
 refine c_if (b:=decide (s_33<10)) z (fun h38 => ?_) fun h38 => ?_
 rotate_left
 ·have hm39:=iff_ hm36 h38
  refine c_exit (x_exit (ks':=_) z ?_)
  obtain rfl:=si hm39
  exact x_sub K13 ⟨z,z,z,trivial⟩ (pk 6 [0,1,2,3,4,5])
 have hm39:=ift hm36 h38
 refine c_skip (x_seq (c_seq ?_))
 obtain ⟨p40,hp41,hm42⟩:=bs hm39
 refine cd_join (E':=[(4,pt b0 0),(8,pt b2 0),(9,pt b3 0),(11,pt b9 0),(44,vI s_33)]) (L':=Bk b9 185 [.func (.func 110) #[] #[pt b1 0]]::Bk b3 183 [vD (p40.getD 0 default),vD (p40.getD 1 default),vD (p40.getD 2 default),vD (p40.getD 3 default),vD (p40.getD 4 default),vD (p40.getD 5 default),vD (p40.getD 6 default),vD (p40.getD 7 default),vD (p40.getD 8 default),vD (p40.getD 9 default),vD (p40.getD 10 default),vD (p40.getD 11 default),vD (p40.getD 12 default),vD (p40.getD 13 default),vD (p40.getD 14 default),vD (p40.getD 15 default)]::Bk b4 129 [vD (Am.getD 0 default),vD (Am.getD 1 default),vD (Am.getD 2 default),vD (Am.getD 3 default),vD (Am.getD 4 default),vD (Am.getD 5 default),vD (Am.getD 6 default),vD (Am.getD 7 default)]::Bk b0 129 [vD (a0.getD 0 default),vD (a0.getD 1 default),vD (a0.getD 2 default),vD (a0.getD 3 default),vD (a0.getD 4 default),vD (a0.getD 5 default),vD (a0.getD 6 default),vD (a0.getD 7 default)]::Bk b2 129 [vD 0,vD 0,vD 0,vD 0,vD 0,vD 0,vD 0,vD 0]::Bk b1 131 [v1_]::F) ?_ fun K43 => ?_
 ·refine x_seq (c_reg ?_)
  refine r_bin z z (bI_add _ 1) (r_mv z ?_)
  refine r_nil ?_
  exact x_lp (i64 (s_33+1),p40) hm42 ⟨z,z,z,z,z,trivial⟩ (pk 6 [0,1,2,3,4,5])
 refine c_blk (csr ?_)
 refine r_mv z (r_as z ?_)
 refine nsr ?_
 refine r_mv z ?_
 obtain ⟨r44,hr44,hm45⟩:=bs hp41
 refine r_u (o_callq ca111 z (C6.ok _ _ hr44)) ?_
 refine r_new (o_al ze9) fun b46 => ?_
 refine r_u0 (o_st sc9 z z z z z z) ?_
 refine nsr ?_
 refine r_u (o_mf z) (r_as z ?_)
 refine nssr ?_
 refine r_mv z ?_
 refine nsq ?_
 obtain ⟨p47,hp48,hm49⟩:=bs hm45
 refine cd_join (E':=[(4,pt b0 0),(8,pt b2 0),(9,pt b3 0),(11,pt b9 0),(14,.func (.func 112) #[] #[pt b9 0,pt b46 0]),(44,vI s_33)]) (L':=Bk b46 9 [vS r44]::Bk b9 185 [.func (.func 110) #[] #[pt b1 0]]::Bk b3 183 [vD (p47.getD 0 default),vD (p47.getD 1 default),vD (p47.getD 2 default),vD (p47.getD 3 default),vD (p47.getD 4 default),vD (p47.getD 5 default),vD (p47.getD 6 default),vD (p47.getD 7 default),vD (p47.getD 8 default),vD (p47.getD 9 default),vD (p47.getD 10 default),vD (p47.getD 11 default),vD (p47.getD 12 default),vD (p47.getD 13 default),vD (p47.getD 14 default),vD (p47.getD 15 default)]::Bk b4 129 [vD (Am.getD 0 default),vD (Am.getD 1 default),vD (Am.getD 2 default),vD (Am.getD 3 default),vD (Am.getD 4 default),vD (Am.getD 5 default),vD (Am.getD 6 default),vD (Am.getD 7 default)]::Bk b0 129 [vD (a0.getD 0 default),vD (a0.getD 1 default),vD (a0.getD 2 default),vD (a0.getD 3 default),vD (a0.getD 4 default),vD (a0.getD 5 default),vD (a0.getD 6 default),vD (a0.getD 7 default)]::Bk b2 129 [vD 0,vD 0,vD 0,vD 0,vD 0,vD 0,vD 0,vD 0]::Bk b1 131 [v1_]::F) ?_ fun K50 => ?_
 ·refine x_seq (csr ?_)
  refine r_mv z ?_
  refine nsq ?_
  obtain ⟨p51,hp52,hm53⟩:=bs hm49
  refine cd_join (E':=[(4,pt b0 0),(8,pt b2 0),(9,pt b3 0),(11,pt b9 0),(44,vI s_33)]) (L':=Bk b46 9 [vS r44]::Bk b9 185 [.func (.func 110) #[] #[pt b1 0]]::Bk b3 183 [vD (p51.getD 0 default),vD (p51.getD 1 default),vD (p51.getD 2 default),vD (p51.getD 3 default),vD (p51.getD 4 default),vD (p51.getD 5 default),vD (p51.getD 6 default),vD (p51.getD 7 default),vD (p51.getD 8 default),vD (p51.getD 9 default),vD (p51.getD 10 default),vD (p51.getD 11 default),vD (p51.getD 12 default),vD (p51.getD 13 default),vD (p51.getD 14 default),vD (p51.getD 15 default)]::Bk b4 129 [vD (Am.getD 0 default),vD (Am.getD 1 default),vD (Am.getD 2 default),vD (Am.getD 3 default),vD (Am.getD 4 default),vD (Am.getD 5 default),vD (Am.getD 6 default),vD (Am.getD 7 default)]::Bk b0 129 [vD (a0.getD 0 default),vD (a0.getD 1 default),vD (a0.getD 2 default),vD (a0.getD 3 default),vD (a0.getD 4 default),vD (a0.getD 5 default),vD (a0.getD 6 default),vD (a0.getD 7 default)]::Bk b2 129 [vD 0,vD 0,vD 0,vD 0,vD 0,vD 0,vD 0,vD 0]::Bk b1 131 [v1_]::F) ?_ fun K54 => ?_
  ·refine x_blk ?_
   obtain rfl:=si hm53
   exact x_sub K43 ⟨z,z,z,z,z,trivial⟩ (pk 7 [1,2,3,4,5,6])
  refine c_blk ?_
  refine cd_loop (M:=fun k57 (s:Int×List UInt32)=>Ce a1 r44 k57 s.1 s.2=some p51) (Ef:=fun (s:Int×List UInt32)=>[(4,pt b0 0),(8,pt b2 0),(9,pt b3 0),(11,pt b9 0),(14,.func (.func 112) #[] #[pt b9 0,pt b46 0]),(44,vI s_33),(71,vI s.1)]) (Lf:=fun (s:Int×List UInt32)=>Bk b46 9 [vS r44]::Bk b9 185 [.func (.func 110) #[] #[pt b1 0]]::Bk b3 183 [vD (s.2.getD 0 default),vD (s.2.getD 1 default),vD (s.2.getD 2 default),vD (s.2.getD 3 default),vD (s.2.getD 4 default),vD (s.2.getD 5 default),vD (s.2.getD 6 default),vD (s.2.getD 7 default),vD (s.2.getD 8 default),vD (s.2.getD 9 default),vD (s.2.getD 10 default),vD (s.2.getD 11 default),vD (s.2.getD 12 default),vD (s.2.getD 13 default),vD (s.2.getD 14 default),vD (s.2.getD 15 default)]::Bk b4 129 [vD (Am.getD 0 default),vD (Am.getD 1 default),vD (Am.getD 2 default),vD (Am.getD 3 default),vD (Am.getD 4 default),vD (Am.getD 5 default),vD (Am.getD 6 default),vD (Am.getD 7 default)]::Bk b0 129 [vD (a0.getD 0 default),vD (a0.getD 1 default),vD (a0.getD 2 default),vD (a0.getD 3 default),vD (a0.getD 4 default),vD (a0.getD 5 default),vD (a0.getD 6 default),vD (a0.getD 7 default)]::Bk b2 129 [vD 0,vD 0,vD 0,vD 0,vD 0,vD 0,vD 0,vD 0]::Bk b1 131 [v1_]::F) 5 (0,p47) hp52 ⟨z,z,z,z,z,z,z,trivial⟩ (fun _ h=>h) (fun _ h=>by cases h) fun k57 s hM59 => ?_
  obtain ⟨s_55,c_56⟩:=s
  have hm58:Ce a1 r44 (k57+1) s_55 c_56=some p51:=hM59
  rw [Ce] at hm58
  refine csr ?_
  refine r_bin z z (bI_lt _ 4) ?_
  refine r_nil (x_seq (c_seq ?_))
  refine c_if (b:=decide (s_55<4)) z (fun h60 => ?_) fun h60 => ?_
  rotate_left
  ·have hm61:=iff_ hm58 h60
   refine c_exit (x_exit (ks':=_) z ?_)
   obtain rfl:=si hm61
   exact x_sub K54 ⟨z,z,z,z,z,trivial⟩ (pk 7 [0,1,2,3,4,5,6])
  have hm61:=ift hm58 h60
  refine c_skip (x_seq (c_seq (c_blk (csr ?_))))
  refine r_mv z (r_as z ?_)
  refine r_nil (x_seq (c_reg ?_))
  refine r_mv z (r_mv z (r_bin z z (bI_add _ 1) (r_bin z z (bI_rem _ 4 (by decide)) (r_bin z z (bI_add 4 _) (r_mv z (r_bin z z (bI_add _ 2) (r_bin z z (bI_rem _ 4 (by decide)) (r_bin z z (bI_add 8 _) (r_mv z (r_bin z z (bI_add _ 3) (r_bin z z (bI_rem _ 4 (by decide)) (r_bin z z (bI_add 12 _) (r_mv z (r_mv z (r_bin z z (bI_mul 2 _) (r_bin z z (bI_add 8 _) ?_))))))))))))))))
  obtain ⟨r62,hr62,hm63⟩:=bs hm61
  refine rl_st (fun _ h=>mv2 (mv6 h)) ?_
  refine r_c (s_w (o_callC z ca112 z (Bu.ok _ b9 b1 a1 v1_ h1_ b46 _ _ hr62))) ?_
  refine r_mv z (r_mv z (r_bin z z (bI_mul 2 _) (r_bin z z (bI_add 9 _) ?_)))
  obtain ⟨r64,hr64,hm65⟩:=bs hm63
  refine r_c (s_w (o_callC z ca112 z (Bu.ok _ b9 b1 a1 v1_ h1_ b46 _ _ hr64))) ?_
  obtain ⟨r66,hr66,hm67⟩:=bs hm65
  refine rl_st (fun _ h=>mv3 h) ?_
  refine r_c (s_w (o_call ca114 z (B7.ok b3 _ _ _ _ _ _ _ _ hr66))) ?_
  refine r_nil (x_blk (x_seq (c_reg ?_)))
  refine r_bin z z (bI_add _ 1) (r_mv z ?_)
  refine r_nil ?_
  exact x_lp (i64 (s_55+1),r66) hm67 ⟨z,z,z,z,z,z,z,trivial⟩ (pk 7 [3,1,0,4,5,6,2])
 refine c_blk ?_
 refine cd_loop (M:=fun k70 (s:Int×List UInt32)=>Cf a1 r44 k70 s.1 s.2=some p47) (Ef:=fun (s:Int×List UInt32)=>[(4,pt b0 0),(8,pt b2 0),(9,pt b3 0),(11,pt b9 0),(14,.func (.func 112) #[] #[pt b9 0,pt b46 0]),(44,vI s_33),(50,vI s.1)]) (Lf:=fun (s:Int×List UInt32)=>Bk b46 9 [vS r44]::Bk b9 185 [.func (.func 110) #[] #[pt b1 0]]::Bk b3 183 [vD (s.2.getD 0 default),vD (s.2.getD 1 default),vD (s.2.getD 2 default),vD (s.2.getD 3 default),vD (s.2.getD 4 default),vD (s.2.getD 5 default),vD (s.2.getD 6 default),vD (s.2.getD 7 default),vD (s.2.getD 8 default),vD (s.2.getD 9 default),vD (s.2.getD 10 default),vD (s.2.getD 11 default),vD (s.2.getD 12 default),vD (s.2.getD 13 default),vD (s.2.getD 14 default),vD (s.2.getD 15 default)]::Bk b4 129 [vD (Am.getD 0 default),vD (Am.getD 1 default),vD (Am.getD 2 default),vD (Am.getD 3 default),vD (Am.getD 4 default),vD (Am.getD 5 default),vD (Am.getD 6 default),vD (Am.getD 7 default)]::Bk b0 129 [vD (a0.getD 0 default),vD (a0.getD 1 default),vD (a0.getD 2 default),vD (a0.getD 3 default),vD (a0.getD 4 default),vD (a0.getD 5 default),vD (a0.getD 6 default),vD (a0.getD 7 default)]::Bk b2 129 [vD 0,vD 0,vD 0,vD 0,vD 0,vD 0,vD 0,vD 0]::Bk b1 131 [v1_]::F) 5 (0,c_34) hp48 ⟨z,z,z,z,z,z,z,trivial⟩ (fun _ h=>h) (fun _ h=>by cases h) fun k70 s hM72 => ?_
 obtain ⟨s_68,c_69⟩:=s
 have hm71:Cf a1 r44 (k70+1) s_68 c_69=some p47:=hM72
 rw [Cf] at hm71
 refine csr ?_
 refine r_bin z z (bI_lt _ 4) ?_
 refine r_nil (x_seq (c_seq ?_))
 refine c_if (b:=decide (s_68<4)) z (fun h73 => ?_) fun h73 => ?_
 rotate_left
 ·have hm74:=iff_ hm71 h73
  refine c_exit (x_exit (ks':=_) z ?_)
  obtain rfl:=si hm74
  exact x_sub K50 ⟨z,z,z,z,z,z,trivial⟩ (pk 7 [0,1,2,3,4,5,6])
 have hm74:=ift hm71 h73
 refine c_skip (x_seq (c_seq (c_blk (csr ?_))))
 refine r_mv z (r_as z ?_)
 refine r_nil (x_seq (c_reg ?_))
 refine r_mv z (r_mv z (r_bin z z (bI_add _ 4) (r_mv z (r_bin z z (bI_add _ 8) (r_mv z (r_bin z z (bI_add _ 12) (r_mv z (r_mv z (r_bin z z (bI_mul 2 _) ?_)))))))))
 obtain ⟨r75,hr75,hm76⟩:=bs hm74
 refine rl_st (fun _ h=>mv2 (mv6 h)) ?_
 refine r_c (s_w (o_callC z ca112 z (Bu.ok _ b9 b1 a1 v1_ h1_ b46 _ _ hr75))) ?_
 refine r_mv z (r_mv z (r_bin z z (bI_mul 2 _) (r_bin z z (bI_add _ 1) ?_)))
 obtain ⟨r77,hr77,hm78⟩:=bs hm76
 refine r_c (s_w (o_callC z ca112 z (Bu.ok _ b9 b1 a1 v1_ h1_ b46 _ _ hr77))) ?_
 obtain ⟨r79,hr79,hm80⟩:=bs hm78
 refine rl_st (fun _ h=>mv3 h) ?_
 refine r_c (s_w (o_call ca114 z (B7.ok b3 _ _ _ _ _ _ _ _ hr79))) ?_
 refine r_nil (x_blk (x_seq (c_reg ?_)))
 refine r_bin z z (bI_add _ 1) (r_mv z ?_)
 refine r_nil ?_
 exact x_lp (i64 (s_68+1),r79) hm80 ⟨z,z,z,z,z,z,z,trivial⟩ (pk 7 [3,1,0,4,5,6,2])
def CE(r19:List UInt32):Nat→(List UInt8)→Int→Option (List UInt8)
 | 0,_,_=>none
 | k29+1,out_26,s_27=>if decide (s_27<8) then (gi (nn 8 r19) s_27).bind fun x34=>(apd 1 out_26 [x34.toUInt8,(shDr x34 ((8:UInt64).toNat:Int)).toUInt8,(shDr x34 ((16:UInt64).toNat:Int)).toUInt8,(shDr x34 ((24:UInt64).toNat:Int)).toUInt8]).bind fun l38=>CE r19 k29 l38 (i64 (s_27+1)) else some out_26
def CU : Nat→(List UInt8)→UInt64→(List UInt32)→Option (List UInt8×UInt64×List UInt32)
 | 0,_,_,_=>none
 | k47+1,p_40,many_41,c_42=>if decide (64<(p_40.length:Int)) then (sl p_40 0 64).bind fun l56=>(CC c_42 l56 (many_41+64) false).bind fun r58=>(sl p_40 64 (p_40.length:Int)).bind fun l60=>CU k47 l60 (many_41+64) r58 else some (p_40,many_41,c_42)
def B5(a0:Str):Option Str :=
 if a0.length≤maxLen then Option.bind (CU (a0.length+1) a0 0 [(Am.getD 0 default) ^^^ 16842784,(Am.getD 1 default),(Am.getD 2 default),(Am.getD 3 default),(Am.getD 4 default),(Am.getD 5 default),(Am.getD 6 default),(Am.getD 7 default)]) fun p4=>(cpy [0,0,0,0,0,0,0,0,0,0,0,0,0,0,0,0,0,0,0,0,0,0,0,0,0,0,0,0,0,0,0,0,0,0,0,0,0,0,0,0,0,0,0,0,0,0,0,0,0,0,0,0,0,0,0,0,0,0,0,0,0,0,0,0] p4.1).bind fun l13=>(CC p4.2.2 l13 (p4.2.1+(toW (p4.1.length:Int))) true).bind fun r19=>Option.bind (CE r19 9 [] 0) fun p21=>some p21 else none
theorem B5.ok{G R F}(a0:Str)(r:Str)(hm:B5 a0=some r):CO Tryz.prog 33 [vS a0] G R (F)
  (Ret fun u R' L'=>u=vS r∧True∧L'=F):=by
 unfold B5 at hm
 refine co_ofN (N:=62) Tryz.func33 z z ?_
 refine csr ?_
 refine r_as z ?_
 refine nsr ?_
 refine r_u (o_callq ca62 z (Am.ok _ z)) ?_
 refine r_new (o_al ze129) fun b0 => ?_
 refine r_u0 (o_stn ag129 z z z z z z z) ?_
 refine nsr ?_
 refine r_u (o_ixA (sz:=1) (n:=8) (i:=0) Tryz.underlying129 (fun _=>by kernel_rfl) z z (by decide)) (r_ld 0 sc128 z z z (r_bin z z (bD_xor _ 16842784) ?_))
 refine r_u (o_ixA (sz:=1) (n:=8) (i:=0) Tryz.underlying129 (fun _=>by kernel_rfl) z z (by decide)) ?_
 refine r_u0 (o_st sc128 z z z z z z) ?_
 refine nsr ?_
 refine r_mv z ?_
 obtain ⟨h1,hm3⟩:=ig hm
 refine r_sw (s_w (o_sb Tryz.underlying9 Tryz.underlying131 Tryz.underlying5 z h1)) ?_
 rintro v2 R _ _ ⟨rfl,rfl⟩
 refine r_as z (r_as z ?_)
 refine r_nil (x_seq (c_seq ?_))
 obtain ⟨p4,hp9,hm10⟩:=bs hm3
 refine cd_cut (fun x ks=>∀(R5:PH),∀(le6:Le R R5),∀(g8:Value),∀(hf7:RoS R5 g8 1 (fun x=>[vY x]) p4.1),EX x .normal ks [(3,pt b0 0),(4,g8),(5,vW p4.2.1)] R5 (Bk b0 129 [vD (p4.2.2.getD 0 default),vD (p4.2.2.getD 1 default),vD (p4.2.2.getD 2 default),vD (p4.2.2.getD 3 default),vD (p4.2.2.getD 4 default),vD (p4.2.2.getD 5 default),vD (p4.2.2.getD 6 default),vD (p4.2.2.getD 7 default)]::F)) ?_ fun K11 => ?_
 rotate_left
 ·refine c_blk ?_
  refine cd_ex (fun w h=>st_freeze w h) fun R48 hf51 => ?_
  obtain ⟨le49,h50⟩:=hf51
  refine cd_loopG (M:=fun k47 (s:List UInt8×UInt64×List UInt32×Value×PH)=>(CU k47 s.1 s.2.1 s.2.2.1=some p4)∧(Le R s.2.2.2.2)∧(RoS s.2.2.2.2 s.2.2.2.1 1 (fun x=>[vY x]) s.1)) (Ef:=fun (s:List UInt8×UInt64×List UInt32×Value×PH)=>[(3,pt b0 0),(4,s.2.2.2.1),(5,vW s.2.1)]) (Rf:=fun (s:List UInt8×UInt64×List UInt32×Value×PH)=>s.2.2.2.2) (Lf:=fun (s:List UInt8×UInt64×List UInt32×Value×PH)=>Bk b0 129 [vD (s.2.2.1.getD 0 default),vD (s.2.2.1.getD 1 default),vD (s.2.2.1.getD 2 default),vD (s.2.2.1.getD 3 default),vD (s.2.2.1.getD 4 default),vD (s.2.2.1.getD 5 default),vD (s.2.2.1.getD 6 default),vD (s.2.2.1.getD 7 default)]::F) (a0.length+1) (a0,0,[(Am.getD 0 default) ^^^ 16842784,(Am.getD 1 default),(Am.getD 2 default),(Am.getD 3 default),(Am.getD 4 default),(Am.getD 5 default),(Am.getD 6 default),(Am.getD 7 default)],v2,R48) ⟨hp9,le49,h50⟩ ⟨z,z,z,trivial⟩ (pk 1 [0]) (fun _ h=>by cases h.1) fun k47 s hM53 => ?_
  obtain ⟨p_40,many_41,c_42,g46,R43⟩:=s
  have hm52:CU (k47+1) p_40 many_41 c_42=some p4:=hM53.1
  have le44:Le R R43:=hM53.2.1
  have hf45:RoS R43 g46 1 (fun x=>[vY x]) p_40:=hM53.2.2
  rw [CU] at hm52
  refine c_seq (csr ?_)
  refine r_mv z ?_
  refine r_u (o_lenR Tryz.underlying131 z hf45) (r_bin z z (bI_gt _ 64) ?_)
  refine nsq ?_
  refine c_if (b:=decide (64<(p_40.length:Int))) z (fun h54 => ?_) fun h54 => ?_
  rotate_left
  ·have hm55:=iff_ hm52 h54
   refine c_exit (x_exit (ks':=_) z ?_)
   obtain rfl:=si hm55
   exact x_sub (K11 _ le44 g46 hf45) ⟨z,z,z,trivial⟩ (pk 1 [0])
  have hm55:=ift hm52 h54
  refine c_skip (x_seq (c_blk (csr ?_)))
  refine r_mv z (r_bin z z (bW_add _ 64) (r_as z ?_))
  refine r_nil (x_seq (c_seq ?_))
  obtain ⟨l56,hl56,hm57⟩:=bs hm55
  obtain ⟨r58,hr58,hm59⟩:=bs hm57
  refine c_any mixed (effs:=[5]) (V:=[]) ?_
  refine stn [0,0,2,0,15,31] [0,1,2,3,4] [5] [_,_,_,_,_] (q_u z z (o_ldn 0 [vD (c_42.getD 0 default),vD (c_42.getD 1 default),vD (c_42.getD 2 default),vD (c_42.getD 3 default),vD (c_42.getD 4 default),vD (c_42.getD 5 default),vD (c_42.getD 6 default),vD (c_42.getD 7 default)] ag129 z z z z) (q_mv z z z (q_u z z (o_slRh Tryz.underlying131 (fun _=>by kernel_rfl) z z hf45 hl56) (q_mv z z z (q_u z z (o_callq ca63 z (CC.ok _ (sd g46 0 (64:Int).toNat) _ (RoS.cut hf45 hl56) _ _ _ hr58)) qn))))) ?_ (nxt z)
  refine ec (eo_u z (s_u (o_stn ag129 z z z z z z z)) le_ ?_) en
  refine stage z z z z [0,0,2,0,15,31] [] [] z z z qn en ?_
  intro _
  refine ex_sub (E':=[(3,pt b0 0),(4,g46),(5,vW (many_41+64))]) ⟨z,z,z,trivial⟩ ?_
  refine x_seq (c_reg ?_)
  refine r_mv z ?_
  obtain ⟨l60,hl60,hm61⟩:=bs hm59
  refine r_u (o_slRl Tryz.underlying131 (fun _=>by kernel_rfl) z z hf45 hl60) (r_as z ?_)
  refine r_nil (x_blk ?_)
  exact x_lp (l60,many_41+64,r58,(sd g46 (64:Int).toNat (p_40.length:Int).toNat),R43) ⟨hm61,le44,(RoS.cut hf45 hl60)⟩ ⟨z,z,z,trivial⟩ (pk 1 [0])
 intro R5 le6 g8 hf7
 refine x_seq (csr ?_)
 refine r_mv z (r_mv z ?_)
 refine r_u (o_lenR Tryz.underlying131 z hf7) (r_u (o_cv z (cIW Tryz.underlying3 Tryz.underlying22 (p4.1.length:Int))) (r_bin z z (bW_add _ _) (r_as z ?_)))
 refine nsr ?_
 refine r_new (o_al ze133) fun b12 => ?_
 refine nsr ?_
 refine rl_st (fun _ h=>st_arrS (f:=vY) (q:=List.replicate 64 0) z z h) ?_
 refine r_u (o_slA Tryz.underlying133 (fun _=>by kernel_rfl) z) (r_mv z ?_)
 obtain ⟨l13,hl13,hm14⟩:=bs hm10
 refine r_u (o_cp Tryz.underlying131 z z (fun _=>⟨_,z,z⟩) z z z hf7 hl13) ?_
 refine r_nil (x_seq (c_seq ?_))
 refine cd_ex (fun w h=>st_freeze w h) fun R15 hf18 => ?_
 obtain ⟨le16,h17⟩:=hf18
 obtain ⟨r19,hr19,hm20⟩:=bs hm14
 refine c_any mixed (effs:=[4]) (V:=[]) ?_
 refine stn [0,0,0,7,15] [0,1,2,3] [4] [_,_,_,_] (q_u z z (o_ldn 0 [vD (p4.2.2.getD 0 default),vD (p4.2.2.getD 1 default),vD (p4.2.2.getD 2 default),vD (p4.2.2.getD 3 default),vD (p4.2.2.getD 4 default),vD (p4.2.2.getD 5 default),vD (p4.2.2.getD 6 default),vD (p4.2.2.getD 7 default)] ag129 z z z z) (q_u z z (o_slA Tryz.underlying133 (fun _=>by kernel_rfl) z) (q_mv z z z (q_u z z (o_callq ca63 z (CC.ok _ (.slice (some ⟨b12,0,none⟩) 64 64) _ h17 _ _ _ hr19)) qn)))) ?_ (nxt z)
 refine ec (eo_u z (s_u (o_stn ag129 z z z z z z z)) le_ ?_) en
 refine stage z z z z [0,0,0,7,15] [] [] z z z qn en ?_
 intro _
 refine ex_sub (E':=[(3,pt b0 0)]) ⟨z,trivial⟩ ?_
 refine x_seq (csr ?_)
 refine r_as z ?_
 refine nssr ?_
 refine r_u (o_ldn 0 [vD (r19.getD 0 default),vD (r19.getD 1 default),vD (r19.getD 2 default),vD (r19.getD 3 default),vD (r19.getD 4 default),vD (r19.getD 5 default),vD (r19.getD 6 default),vD (r19.getD 7 default)] ag129 z z z z) (r_mv z ?_)
 refine nsq ?_
 obtain ⟨p21,hp23,hm24⟩:=bs hm20
 refine cd_cut (fun x ks=>∀(g22:Value),EX x .normal ks [(7,g22)] R15 (Bk b0 129 [vD (r19.getD 0 default),vD (r19.getD 1 default),vD (r19.getD 2 default),vD (r19.getD 3 default),vD (r19.getD 4 default),vD (r19.getD 5 default),vD (r19.getD 6 default),vD (r19.getD 7 default)]::OwS true 5 1 eY g22 p21::F)) ?_ fun K25 => ?_
 ·intro g22
  refine x_seq (csr ?_)
  refine r_mv z ?_
  refine r_u (o_bs 1 Tryz.underlying131 Tryz.underlying5 Tryz.underlying9 z z) (r_as z ?_)
  refine r_nil (x_seq (c_ret ?_))
  obtain rfl:=si hm24
  refine ex_st (pk 2 []) ?_
  exact x_r1 z (rv_t z) (Le.trans le6 le16) ⟨_,z,z,trivial,z⟩
 refine c_blk ?_
 refine cd_st (fun _ h=>st_nil (ap:=true) (T:=5) (sz:=1) (en:=eY) h) ?_
 refine cd_loopG (M:=fun k29 (s:List UInt8×Int×Value)=>CE r19 k29 s.1 s.2.1=some p21) (Ef:=fun (s:List UInt8×Int×Value)=>[(41,.agg [vD (r19.getD 0 default),vD (r19.getD 1 default),vD (r19.getD 2 default),vD (r19.getD 3 default),vD (r19.getD 4 default),vD (r19.getD 5 default),vD (r19.getD 6 default),vD (r19.getD 7 default)].toArray),(7,s.2.2),(42,vI s.2.1)]) (Rf:=fun (s:List UInt8×Int×Value)=>R15) (Lf:=fun (s:List UInt8×Int×Value)=>Bk b0 129 [vD (r19.getD 0 default),vD (r19.getD 1 default),vD (r19.getD 2 default),vD (r19.getD 3 default),vD (r19.getD 4 default),vD (r19.getD 5 default),vD (r19.getD 6 default),vD (r19.getD 7 default)]::OwS true 5 1 eY s.2.2 s.1::F) 9 ([],0,.slice none 0 0) hp23 ⟨z,z,z,trivial⟩ (pk 2 [1,0]) (fun _ h=>by cases h) fun k29 s hM31 => ?_
 obtain ⟨out_26,s_27,g28⟩:=s
 have hm30:CE r19 (k29+1) out_26 s_27=some p21:=hM31
 rw [CE] at hm30
 refine csr ?_
 refine r_bin z z (bI_lt _ 8) ?_
 refine r_nil (x_seq (c_seq ?_))
 refine c_if (b:=decide (s_27<8)) z (fun h32 => ?_) fun h32 => ?_
 rotate_left
 ·have hm33:=iff_ hm30 h32
  refine c_exit (x_exit (ks':=_) z ?_)
  obtain rfl:=si hm33
  exact x_sub (K25 g28) ⟨z,trivial⟩ (pk 2 [0,1])
 have hm33:=ift hm30 h32
 refine c_skip (x_seq (c_seq (c_blk (csr ?_))))
 obtain ⟨x34,hx34,hm35⟩:=bs hm33
 refine r_u (o_ixN (f:=vD) hx34 Tryz.underlying129 (fun _=>by kernel_rfl) sc128.1 z z z) (r_as z ?_)
 refine r_nil (x_seq (c_reg ?_))
 refine r_mv z (r_mv z (r_u (o_cv z (cDY Tryz.underlying128 Tryz.underlying5 x34)) (r_mv z (r_bin z z (bDW_shr x34 8) (r_u (o_cv z (cDY Tryz.underlying128 Tryz.underlying5 (shDr x34 ((8:UInt64).toNat:Int)))) (r_mv z (r_bin z z (bDW_shr x34 16) (r_u (o_cv z (cDY Tryz.underlying128 Tryz.underlying5 (shDr x34 ((16:UInt64).toNat:Int)))) (r_mv z (r_bin z z (bDW_shr x34 24) (r_u (o_cv z (cDY Tryz.underlying128 Tryz.underlying5 (shDr x34 ((24:UInt64).toNat:Int)))) ?_)))))))))))
 refine r_sw (s_w (o_bsl (en:=eY) (sz:=1) (e:=5) (cs:=[vY x34.toUInt8,vY ((shDr x34 ((8:UInt64).toNat:Int)).toUInt8),vY ((shDr x34 ((16:UInt64).toNat:Int)).toUInt8),vY ((shDr x34 ((24:UInt64).toNat:Int)).toUInt8)]) (r:=[x34.toUInt8,(shDr x34 ((8:UInt64).toNat:Int)).toUInt8,(shDr x34 ((16:UInt64).toNat:Int)).toUInt8,(shDr x34 ((24:UInt64).toNat:Int)).toUInt8]) z (fun _=>by kernel_rfl) z (by decide) z (fun _=>z))) ?_
 rintro v36 R15 _ _ ⟨rfl,rfl⟩
 obtain ⟨l38,hl38,hm39⟩:=bs hm35
 refine rl_st (fun _ h=>mv2 h) ?_
 refine r_sw (s_w (o_ap (sz:=1) (bytes:=1) 0 Tryz.underlying131 z z z z z (by decide) (by decide) (fun _ _ _ h=>by simp at h;subst h;rfl) (fun _=>z) z z z z (Nat.succ_pos _) hl38)) ?_
 rintro v37 R15 _ _ ⟨rfl,rfl⟩
 refine r_as z ?_
 refine r_nil (x_blk (x_seq (c_reg ?_)))
 refine r_bin z z (bI_add _ 1) (r_mv z ?_)
 refine r_nil ?_
 exact x_lp (l38,i64 (s_27+1),v37) hm39 ⟨z,z,z,trivial⟩ (pk 3 [2,0])
def AX(a0:Ad):Option Str :=
 (AF a0).bind fun r7=>(B5 r7).bind fun r9=>some r9
theorem AX.ok{G R F}(b0_:Nat)(a0:Ad)(g0_:Ad.G)(r:Str)(hm:AX a0=some r):CO Tryz.prog 32 [pt b0_ 0] G R (Bk b0_ 96 (Ad.k a0 g0_)::rO (Ah.op g0_.t.2) g0_.t.1 a0.t::rO (Ac.op g0_.p.2) g0_.p.1 a0.p::OwM vW Ao.v g0_.sessions a0.sessions::F)
  (Ret fun u R' L'=>u=vS r∧True∧L'=Bk b0_ 96 (Ad.k a0 g0_)::rO (Ah.op g0_.t.2) g0_.t.1 a0.t::rO (Ac.op g0_.p.2) g0_.p.1 a0.p::OwM vW Ao.v g0_.sessions a0.sessions::F):=by
 obtain ⟨⟨pv1,g2⟩,⟨pv4,g5⟩,g6⟩:=g0_
 unfold AX at hm
 refine co_ofN (N:=6) Tryz.func32 z z ?_
 refine csr ?_
 refine r_as z ?_
 refine nsr ?_
 refine r_mv z ?_
 obtain ⟨r7,hr7,hm8⟩:=bs hm
 refine r_c (s_w (o_call ca25 z (AF.ok b0_ a0 (⟨(pv1,g2),(pv4,g5),g6⟩:Ad.G) _ hr7))) ?_
 obtain ⟨r9,hr9,hm12⟩:=bs hm8
 refine r_sw (s_w (o_call ca33 z (B5.ok r7 _ hr9))) ?_
 rintro _ R10 _ le11 ⟨rfl,_,rfl⟩
 refine r_as z ?_
 refine r_nil (x_seq (c_ret ?_))
 obtain rfl:=si hm12
 exact x_r1 z (rv_t z) le11 ⟨_,z,z,trivial,z⟩
def BD(a0:Int):(Unit)⊕(Int×Unit) :=
 Sum.inr (a0,())
theorem BD.ok{G R F}(a0:Int)(r:(Unit)⊕(Int×Unit))(hm:BD a0=r):CO Tryz.prog 153 [vI a0] G R (F)
  (PK 175 r (fun (a:Unit) u R' L'=>u = .tuple #[]∧R'=R∧L'=F) (fun n (o:Unit) R' L'=>R'=R∧L'=F)):=by
 unfold BD at hm
 refine co_ofN (N:=5) Tryz.func153 z z ?_
 refine c_reg ?_
 refine r_mv z ?_
 refine r_u (o_bld [vI a0] z (fun _=>by kernel_rfl)) ?_
 refine r_u (o_mi (v := .iface 175 (.agg #[vI a0])) z (fun _=>by kernel_rfl)) ?_
 subst hm
 exact r_sw0 (s_w (o_panic z (px_st (pk 0 []) (px_of le_ (.inr ⟨_,z,_,z,z,z⟩))))) (fun _ _ _ _ h=>h.elim)
def AD(a0:Aa)(a1:Int):Option ((Str×Aa)⊕(Int×Aa)) :=
 Option.bind (if (decide (a1<0)||decide ((a0.s.length:Int)<a1)) then lt (BD 4) fun r11=>sm r11 (fun (ra13:Unit)=>some (Sum.inl ())) fun ((rn14,ro15):Int×Unit)=>some (Sum.inr (Sum.inr (rn14,a0))) else some (Sum.inl ())) fun (p0:Unit⊕((Str×Aa)⊕(Int×Aa)))=>(match p0 with | Sum.inl q1=>(sl a0.s 0 a1).bind fun s5=>(sl a0.s a1 (a0.s.length:Int)).bind fun s7=>some (Sum.inl (s5,(⟨s7⟩:Aa))) | Sum.inr r=>some r)
theorem AD.ok{G R F}(b0_:Nat)(a0:Aa)(a1:Int)(r:(Str×Aa)⊕(Int×Aa))(hm:AD a0 a1=some r):CO Tryz.prog 152 [pt b0_ 0,vI a1] G R (Bk b0_ 177 (Aa.c a0)::F)
  (PK 175 r (fun (a:Str×Aa) u R' L'=>u=vS a.1∧R'=R∧L'=Bk b0_ 177 (Aa.c a.2)::F) (fun n (o:Aa) R' L'=>R'=R∧L'=Bk b0_ 177 (Aa.c o)::F)):=by
 unfold AD at hm
 refine co_ofN (N:=34) Tryz.func152 z z ?_
 refine csr ?_
 refine r_as z ?_
 refine nssr ?_
 refine r_mv z (r_bin z z (bI_lt a1 0) (r_mv z ?_))
 refine r_s (s_gf z z fun g=>o_mv z) ?_
 refine r_s (s_gf z z fun g=>o_mv z) ?_
 refine r_s (s_gf z z fun g=>o_nc (evg z g)) ?_
 refine r_s (s_gf z z fun g=>o_fa fa177_0 (evg z g)) ?_
 refine r_s (s_gf z z fun g=>o_ld 0 sc9 (evg z g) z z) ?_
 refine r_s (s_gf z z fun g=>o_lenS Tryz.underlying9 (evg z g)) ?_
 refine r_s (s_gf z z fun g=>o_bin (evg z g) (evg z g) (bI_gt a1 _)) ?_
 refine r_u (o_or z z) ?_
 refine nsq ?_
 obtain ⟨p0,hp2,hm3⟩:=bs hm
 refine cd_joinS (p:=p0) (Ef:=fun q1=>[(0,pt b0_ 0),(1,vI a1)]) (Lf:=fun q1=>Bk b0_ 177 (Aa.c a0)::F) (fun q1 hq => ?_) fun K4 => ?_
 ·subst hq
  try dsimp only at hm3
  refine x_seq (csr ?_)
  refine r_mv z (r_nc z (r_fa fa177_0 z (r_ld 0 sc9 z z z (r_mv z ?_))))
  obtain ⟨s5,hs5,hm6⟩:=bs hm3
  refine r_u (o_slS (i:=0) (j:=a1) Tryz.underlying9 z z z hs5) (r_as z ?_)
  refine nsr ?_
  refine r_mv z (r_mv z (r_nc z (r_fa fa177_0 z (r_ld 0 sc9 z z z (r_mv z ?_)))))
  obtain ⟨s7,hs7,hm8⟩:=bs hm6
  refine r_u (o_slS (i:=a1) (j:=(a0.s.length:Int)) Tryz.underlying9 z z z hs7) (r_nc z (r_fa fa177_0 z ?_))
  refine r_u0 (o_st sc9 z z z z z z) ?_
  refine nsr ?_
  refine r_mv z (r_as z ?_)
  refine r_nil (x_seq (c_ret ?_))
  obtain rfl:=si hm8
  exact x_r1 z (rv_t z) le_ (.inl ⟨_,z,_,z,z,z,z⟩)
 refine c_if (b:=(decide (a1<0)||decide ((a0.s.length:Int)<a1))) z (fun h9 => ?_) fun h9 => ?_
 rotate_left
 ·have hm10:=iff_ hp2 h9
  refine c_skip ?_
  obtain rfl:=si hm10
  exact x_sub (K4 _ z) ⟨z,z,trivial⟩ (pk 1 [0])
 have hm10:=ift hp2 h9
 obtain ⟨r11,hr11,hm12⟩:=ltx hm10
 rcases r11 with ra13 | ⟨rn14,ro15⟩
 ·have hm16:=sm_l hm12
  refine c_reg ?_
  refine r_c (s_w (o_callL ca153 z (BD.ok 4 _ hr11) (fun _ _ _ h=>h))) ?_
  refine r_nil ?_
  obtain rfl:=si hm16
  exact x_sub (K4 _ z) ⟨z,z,trivial⟩ (pk 1 [0])
 have hm16:=sm_r hm12
 refine c_reg ?_
 obtain rfl:=si hm16
 try dsimp only at hm3
 obtain rfl:=si hm3
 exact r_sw (s_w (o_callR ca153 z (BD.ok 4 _ hr11) (by rintro _ _ _ ⟨rfl,rfl⟩;exact (px_st (pk 1 [0]) (px_of le_ (.inr ⟨_,z,_,z,z,z⟩)))))) (fun _ _ _ _ h=>h.elim)
def Be : Nat→UInt64→Int→Str→Option ((UInt64×Str)⊕((UInt64×Aa)⊕(Int×Aa)))
 | 0,_,_,_=>none
 | k16+1,n_13,s_14,c_15=>if decide (s_14<10) then (AD (⟨c_15⟩:Aa) 1).bind fun r21=>sm r21 (fun (ra23:Str×Aa)=>(gi ra23.1 0).bind fun c27=>Option.bind (if (((s_14==9)&&decide (1<c27))||(decide (0<s_14)&&(c27==0))) then lt (BD 6) fun r40=>sm r40 (fun (ra42:Unit)=>some (Sum.inl ())) fun ((rn43,ro44):Int×Unit)=>some (Sum.inr (Sum.inr (Sum.inr (rn43,ra23.2)))) else some (Sum.inl ())) fun (p29:Unit⊕((UInt64×Str)⊕((UInt64×Aa)⊕(Int×Aa))))=>(match p29 with | Sum.inl q30=>if 0≤(i64 (7*s_14)) then if decide (c27<128) then some (Sum.inl (n_13 ||| (shWl ((c27%128).toUInt64) (i64 (7*s_14))),ra23.2.s)) else Be k16 (n_13 ||| (shWl ((c27%128).toUInt64) (i64 (7*s_14)))) (i64 (s_14+1)) ra23.2.s else none | Sum.inr r=>some r)) fun ((rn24,ro25):Int×Aa)=>some (Sum.inr (Sum.inr (rn24,ro25))) else some (Sum.inl (n_13,c_15))
def Aj(a0:Aa)(a1:UInt64):Option ((UInt64×Aa)⊕(Int×Aa)) :=
 Option.bind (Be 11 0 0 a0.s) fun (p0:(UInt64×Str)⊕((UInt64×Aa)⊕(Int×Aa)))=>(match p0 with | Sum.inl q1=>if decide (a1<q1.1) then lt (BD 3) fun r7=>sm r7 (fun (ra9:Unit)=>some (Sum.inl (q1.1,(⟨q1.2⟩:Aa)))) fun ((rn10,ro11):Int×Unit)=>some (Sum.inr (rn10,(⟨q1.2⟩:Aa))) else some (Sum.inl (q1.1,(⟨q1.2⟩:Aa))) | Sum.inr r=>some r)
theorem Aj.ok{G R F}(b0_:Nat)(a0:Aa)(a1:UInt64)(r:(UInt64×Aa)⊕(Int×Aa))(hm:Aj a0 a1=some r):CO Tryz.prog 101 [pt b0_ 0,vW a1] G R (Bk b0_ 177 (Aa.c a0)::F)
  (PK 175 r (fun (a:UInt64×Aa) u R' L'=>u=vW a.1∧R'=R∧L'=Bk b0_ 177 (Aa.c a.2)::F) (fun n (o:Aa) R' L'=>R'=R∧L'=Bk b0_ 177 (Aa.c o)::F)):=by
 unfold Aj at hm
 refine co_ofN (N:=45) Tryz.func101 z z ?_
 refine csr ?_
 refine r_as z ?_
 refine nsr ?_
 refine r_as z ?_
 refine nssr ?_
 refine r_mv z ?_
 refine nsq ?_
 obtain ⟨p0,hp2,hm3⟩:=bs hm
 refine cd_joinS (p:=p0) (Ef:=fun q1=>[(1,vW a1),(5,vW q1.1)]) (Lf:=fun q1=>Bk b0_ 177 [vS q1.2]::F) (fun q1 hq => ?_) fun K4 => ?_
 ·subst hq
  try dsimp only at hm3
  refine x_seq (c_seq (csr ?_))
  refine r_mv z (r_mv z (r_bin z z (bW_gt _ a1) ?_))
  refine nsq ?_
  refine c_if (b:=decide (a1<q1.1)) z (fun h5 => ?_) fun h5 => ?_
  rotate_left
  ·have hm6:=iff_ hm3 h5
   refine c_skip (x_seq (csr ?_))
   refine r_mv z (r_as z ?_)
   refine r_nil (x_seq (c_ret ?_))
   obtain rfl:=si hm6
   exact x_r1 z (rv_t z) le_ (.inl ⟨_,z,_,z,z,z,z⟩)
  have hm6:=ift hm3 h5
  obtain ⟨r7,hr7,hm8⟩:=ltx hm6
  rcases r7 with ra9 | ⟨rn10,ro11⟩
  ·have hm12:=sm_l hm8
   refine c_reg ?_
   refine r_c (s_w (o_callL ca153 z (BD.ok 3 _ hr7) (fun _ _ _ h=>h))) ?_
   refine nsr ?_
   refine r_mv z (r_as z ?_)
   refine r_nil (x_seq (c_ret ?_))
   obtain rfl:=si hm12
   exact x_r1 z (rv_t z) le_ (.inl ⟨_,z,_,z,z,z,z⟩)
  have hm12:=sm_r hm8
  refine c_reg ?_
  obtain rfl:=si hm12
  exact r_sw (s_w (o_callR ca153 z (BD.ok 3 _ hr7) (by rintro _ _ _ ⟨rfl,rfl⟩;exact (px_st (pk 1 [0]) (px_of le_ (.inr ⟨_,z,_,z,z,z⟩)))))) (fun _ _ _ _ h=>h.elim)
 refine c_blk ?_
 refine cd_loop (M:=fun k16 (s:UInt64×Int×Str)=>Be k16 s.1 s.2.1 s.2.2=some p0) (Ef:=fun (s:UInt64×Int×Str)=>[(0,pt b0_ 0),(1,vW a1),(5,vW s.1),(8,vI s.2.1)]) (Lf:=fun (s:UInt64×Int×Str)=>Bk b0_ 177 [vS s.2.2]::F) 11 (0,0,a0.s) hp2 ⟨z,z,z,z,trivial⟩ (fun _ h=>h) (fun _ h=>by cases h) fun k16 s hM18 => ?_
 obtain ⟨n_13,s_14,c_15⟩:=s
 have hm17:Be (k16+1) n_13 s_14 c_15=some p0:=hM18
 rw [Be] at hm17
 refine csr ?_
 refine r_bin z z (bI_lt _ 10) ?_
 refine r_nil (x_seq (c_seq ?_))
 refine c_if (b:=decide (s_14<10)) z (fun h19 => ?_) fun h19 => ?_
 rotate_left
 ·have hm20:=iff_ hm17 h19
  refine c_exit (x_exit (ks':=_) z ?_)
  obtain rfl:=si hm20
  exact x_sub (K4 _ z) ⟨z,z,trivial⟩ (pk 1 [0])
 have hm20:=ift hm17 h19
 refine c_skip (x_seq (c_seq (c_blk (csr ?_))))
 refine r_mv z (r_as z ?_)
 refine r_nil (x_seq (c_seq ?_))
 obtain ⟨r21,hr21,hm22⟩:=bs hm20
 rcases r21 with ra23 | ⟨rn24,ro25⟩
 rotate_left
 ·have hm26:=sm_r hm22
  refine c_reg ?_
  refine r_mv z ?_
  obtain rfl:=si hm26
  try dsimp only at hm3
  obtain rfl:=si hm3
  exact r_sw (s_w (o_callR ca152 z (AD.ok b0_ (⟨c_15⟩:Aa) 1 _ hr21) (by rintro _ _ _ ⟨rfl,rfl⟩;exact (px_st (pk 1 [0]) (px_of le_ (.inr ⟨_,z,_,z,z,z⟩)))))) (fun _ _ _ _ h=>h.elim)
 have hm26:=sm_l hm22
 refine c_reg ?_
 refine r_mv z ?_
 refine r_c (s_w (o_callL ca152 z (AD.ok b0_ (⟨c_15⟩:Aa) 1 _ hr21) (fun _ _ _ h=>h))) ?_
 obtain ⟨c27,hc27,hm28⟩:=bs hm26
 refine r_u (o_ixS Tryz.underlying9 z z hc27) (r_as z ?_)
 refine nssr ?_
 refine r_mv z (r_bin z z (bI_eq _ 9) (r_mv z ?_))
 refine r_s (s_gt z z fun g=>o_mv z) ?_
 refine r_s (s_gt z z fun g=>o_bin (evg z g) z (bY_gt _ 1)) ?_
 refine r_u (o_and z z) (r_mv z ?_)
 refine r_s (s_gf z z fun g=>o_mv z) ?_
 refine r_s (s_gf z z fun g=>o_bin (evg z g) z (bI_gt _ 0)) ?_
 refine r_s (s_gf z z fun g=>o_mv (evg z g)) ?_
 refine r_s (s_ggt z z fun g=>o_mv z) ?_
 refine r_s (s_ggt z z fun g=>o_bin (evg z g) z (bY_eq _ 0)) ?_
 refine r_s (s_gf z z fun g=>o_and (evg z g) (evg2 z g)) ?_
 refine r_u (o_or z z) ?_
 refine nsq ?_
 obtain ⟨p29,hp31,hm32⟩:=bs hm28
 refine cd_joinS (p:=p29) (Ef:=fun q30=>[(0,pt b0_ 0),(1,vW a1),(5,vW n_13),(6,vI s_14),(7,vY c27),(8,vI s_14)]) (Lf:=fun q30=>Bk b0_ 177 (Aa.c ra23.2)::F) (fun q30 hq => ?_) fun K33 => ?_
 ·subst hq
  try dsimp only at hm32
  refine x_seq (csr ?_)
  refine r_mv z (r_mv z (r_bin z z (bY_rem _ 128 (by decide)) (r_u (o_cv z (cYW Tryz.underlying5 Tryz.underlying22 (c27%128))) (r_mv z (r_bin z z (bI_mul 7 _) ?_)))))
  obtain ⟨h34,hm35⟩:=ig hm32
  refine r_bin z z (bWI_shl ((c27%128).toUInt64) (i64 (7*s_14)) h34) (r_bin z z (bW_or _ _) (r_as z ?_))
  refine nsr ?_
  refine r_mv z (r_bin z z (bY_lt _ 128) ?_)
  refine nsq ?_
  refine c_if (b:=decide (c27<128)) z (fun h36 => ?_) fun h36 => ?_
  ·have hm37:=ift hm35 h36
   refine c_exit (x_exit (ks':=_) z ?_)
   obtain rfl:=si hm37
   exact x_sub (K4 _ z) ⟨z,z,trivial⟩ (pk 1 [0])
  have hm37:=iff_ hm35 h36
  refine c_skip (x_blk (x_seq (c_reg ?_)))
  refine r_bin z z (bI_add _ 1) (r_mv z ?_)
  refine r_nil ?_
  exact x_lp (n_13 ||| (shWl ((c27%128).toUInt64) (i64 (7*s_14))),i64 (s_14+1),ra23.2.s) hm37 ⟨z,z,z,z,trivial⟩ (pk 1 [0])
 refine c_if (b:=(((s_14==9)&&decide (1<c27))||(decide (0<s_14)&&(c27==0)))) z (fun h38 => ?_) fun h38 => ?_
 rotate_left
 ·have hm39:=iff_ hp31 h38
  refine c_skip ?_
  obtain rfl:=si hm39
  exact x_sub (K33 _ z) ⟨z,z,z,z,z,z,trivial⟩ (pk 1 [0])
 have hm39:=ift hp31 h38
 obtain ⟨r40,hr40,hm41⟩:=ltx hm39
 rcases r40 with ra42 | ⟨rn43,ro44⟩
 ·have hm45:=sm_l hm41
  refine c_reg ?_
  refine r_c (s_w (o_callL ca153 z (BD.ok 6 _ hr40) (fun _ _ _ h=>h))) ?_
  refine r_nil ?_
  obtain rfl:=si hm45
  exact x_sub (K33 _ z) ⟨z,z,z,z,z,z,trivial⟩ (pk 1 [0])
 have hm45:=sm_r hm41
 refine c_reg ?_
 obtain rfl:=si hm45
 try dsimp only at hm32
 obtain rfl:=si hm32
 try dsimp only at hm3
 obtain rfl:=si hm3
 exact r_sw (s_w (o_callR ca153 z (BD.ok 6 _ hr40) (by rintro _ _ _ ⟨rfl,rfl⟩;exact (px_st (pk 1 [0]) (px_of le_ (.inr ⟨_,z,_,z,z,z⟩)))))) (fun _ _ _ _ h=>h.elim)
def An(a0:Aa)(a1:Bool):(Unit)⊕(Int×Unit) :=
 if !a1 then lt (BD 6) fun r2=>sm r2 (fun (ra4:Unit)=>Sum.inl ()) fun ((rn5,ro6):Int×Unit)=>Sum.inr (rn5,()) else Sum.inl ()
theorem An.ok{G R F}(b0_:Nat)(a0:Aa)(a1:Bool)(r:(Unit)⊕(Int×Unit))(hm:An a0 a1=r):CO Tryz.prog 102 [pt b0_ 0,vB a1] G R (Bk b0_ 177 (Aa.c a0)::F)
  (PK 175 r (fun (a:Unit) u R' L'=>u = .tuple #[]∧R'=R∧L'=Bk b0_ 177 (Aa.c a0)::F) (fun n (o:Unit) R' L'=>R'=R∧L'=Bk b0_ 177 (Aa.c a0)::F)):=by
 unfold An at hm
 refine co_ofN (N:=7) Tryz.func102 z z ?_
 refine csr ?_
 refine r_mv z ?_
 refine r_u (o_not z) ?_
 refine nsq ?_
 refine c_if (b := !a1) z (fun h0 => ?_) fun h0 => ?_
 rotate_left
 ·have hm1:=iff_ hm h0
  refine c_skip ?_
  refine x_end ?_
  subst hm1
  exact x_r0 z le_ (.inl ⟨_,z,_,z,z,z,z⟩)
 have hm1:=ift hm h0
 obtain ⟨r2,hr2,hm3⟩:=ltx hm1
 rcases r2 with ra4 | ⟨rn5,ro6⟩
 ·have hm7:=sm_l hm3
  refine c_reg ?_
  refine r_c (s_w (o_callL ca153 z (BD.ok 6 _ hr2) (fun _ _ _ h=>h))) ?_
  refine r_nil ?_
  refine x_end ?_
  subst hm7
  exact x_r0 z le_ (.inl ⟨_,z,_,z,z,z,z⟩)
 have hm7:=sm_r hm3
 refine c_reg ?_
 subst hm7
 exact r_sw (s_w (o_callR ca153 z (BD.ok 6 _ hr2) (by rintro _ _ _ ⟨rfl,rfl⟩;exact (px_st (pk 1 [0]) (px_of le_ (.inr ⟨_,z,_,z,z,z⟩)))))) (fun _ _ _ _ h=>h.elim)
def AE(a0:Aa)(a1:Int):Option ((Str×Aa)⊕(Int×Aa)) :=
 (Aj a0 (toW (if a1<0 then 0 else a1))).bind fun r0=>sm r0 (fun (ra2:UInt64×Aa)=>(AD ra2.2 (i64 (ra2.1.toNat:Int))).bind fun r6=>sm r6 (fun (ra8:Str×Aa)=>some (Sum.inl (ra8.1,ra8.2))) fun ((rn9,ro10):Int×Aa)=>some (Sum.inr (rn9,ro10))) fun ((rn3,ro4):Int×Aa)=>some (Sum.inr (rn3,ro4))
theorem AE.ok{G R F}(b0_:Nat)(a0:Aa)(a1:Int)(r:(Str×Aa)⊕(Int×Aa))(hm:AE a0 a1=some r):CO Tryz.prog 154 [pt b0_ 0,vI a1] G R (Bk b0_ 177 (Aa.c a0)::F)
  (PK 175 r (fun (a:Str×Aa) u R' L'=>u=vS a.1∧R'=R∧L'=Bk b0_ 177 (Aa.c a.2)::F) (fun n (o:Aa) R' L'=>R'=R∧L'=Bk b0_ 177 (Aa.c o)::F)):=by
 unfold AE at hm
 refine co_ofN (N:=13) Tryz.func154 z z ?_
 refine csr ?_
 refine r_as z ?_
 refine r_nil (x_seq (c_seq ?_))
 obtain ⟨r0,hr0,hm1⟩:=bs hm
 rcases r0 with ra2 | ⟨rn3,ro4⟩
 rotate_left
 ·have hm5:=sm_r hm1
  refine c_reg ?_
  refine r_mv z (r_mv z (r_mv z ?_))
  refine r_u (o_maxI z z) (r_u (o_cv z (cIW Tryz.underlying3 Tryz.underlying22 (if a1<0 then 0 else a1))) ?_)
  obtain rfl:=si hm5
  exact r_sw (s_w (o_callR ca101 z (Aj.ok b0_ a0 _ _ hr0) (by rintro _ _ _ ⟨rfl,rfl⟩;exact (px_st (pk 1 [0]) (px_of le_ (.inr ⟨_,z,_,z,z,z⟩)))))) (fun _ _ _ _ h=>h.elim)
 have hm5:=sm_l hm1
 obtain ⟨r6,hr6,hm7⟩:=bs hm5
 rcases r6 with ra8 | ⟨rn9,ro10⟩
 ·have hm11:=sm_l hm7
  refine c_reg ?_
  refine r_mv z (r_mv z (r_mv z ?_))
  refine r_u (o_maxI z z) (r_u (o_cv z (cIW Tryz.underlying3 Tryz.underlying22 (if a1<0 then 0 else a1))) ?_)
  refine r_c (s_w (o_callL ca101 z (Aj.ok b0_ a0 _ _ hr0) (fun _ _ _ h=>h))) ?_
  refine r_u (o_cv z (cWI Tryz.underlying22 Tryz.underlying3 ra2.1)) ?_
  refine r_c (s_w (o_callL ca152 z (AD.ok b0_ _ _ _ hr6) (fun _ _ _ h=>h))) ?_
  refine r_as z ?_
  refine r_nil (x_seq (c_ret ?_))
  obtain rfl:=si hm11
  exact x_r1 z (rv_t z) le_ (.inl ⟨_,z,_,z,z,z,z⟩)
 have hm11:=sm_r hm7
 refine c_reg ?_
 refine r_mv z (r_mv z (r_mv z ?_))
 refine r_u (o_maxI z z) (r_u (o_cv z (cIW Tryz.underlying3 Tryz.underlying22 (if a1<0 then 0 else a1))) ?_)
 refine r_c (s_w (o_callL ca101 z (Aj.ok b0_ a0 _ _ hr0) (fun _ _ _ h=>h))) ?_
 refine r_u (o_cv z (cWI Tryz.underlying22 Tryz.underlying3 ra2.1)) ?_
 obtain rfl:=si hm11
 exact r_sw (s_w (o_callR ca152 z (AD.ok b0_ _ _ _ hr6) (by rintro _ _ _ ⟨rfl,rfl⟩;exact (px_st (pk 1 [0]) (px_of le_ (.inr ⟨_,z,_,z,z,z⟩)))))) (fun _ _ _ _ h=>h.elim)
end Go.Proofs.YtpanhdnglicknaaGreat
