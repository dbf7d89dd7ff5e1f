import Derived.Test.YtpanhdnglicknaaGreatW0
import Derived.Test.YtpanhdnglicknaaGreatFacts
import Derived.Test.YtpanhdnglicknaaGreatHwZ
import Derived.Test.YtpanhdnglicknaaGreatHwW
import Derived.Test.YtpanhdnglicknaaGreatHw8
set_option linter.unusedVariables false
set_option linter.unusedSectionVars false
set_option linter.unusedSimpArgs false
set_option maxRecDepth 100000
set_option maxHeartbeats 4000000
namespace Go.Proofs.YtpanhdnglicknaaGreat
open _root_.Go.Proofs.Tryz Go Go.Proofs.YtpanhdnglicknaaGreat.Hw
def BS(s_6:Int)(y17:List UInt8):Nat→Int→(List (List UInt8))→Option (List (List UInt8))
 | 0,_,_=>none
 | k26+1,s_24,c_25=>if decide (s_24<(y17.length:Int)) then (gi c_25 s_6).bind fun y31=>(gi y31 s_24).bind fun x34=>BS s_6 y17 k26 (i64 (s_24+1)) (ls c_25 s_6 (ls y31 s_24 (x34/2))) else some c_25
def B7 : Nat→Int→(List (List UInt8))→Option (List (List UInt8))
 | 0,_,_=>none
 | k8+1,s_6,c_7=>if decide (s_6<4) then Option.bind ((gi c_7 s_6).bind fun y17=>Option.bind (BS s_6 y17 (((y17.length:Int)-0).toNat+1) 0 c_7) fun p20=>some p20) fun p13=>B7 k8 (i64 (s_6+1)) p13 else some c_7
def Ds(a0:An):Option An :=
 Option.bind (B7 5 0 a0.rows) fun p2=>some (⟨a0.wide,a0.seed,p2,List.replicate a0.door.length false,i64 (a0.added.tdiv 2)⟩:An)
theorem Ds.ok{G R F}(b0_:Nat)(a0:An)(g0_:An.G)(r:An)(hm:Ds a0=some r):CO prog 209 [pt b0_ 0] G R (Bk b0_ 250 (An.k a0 g0_)::OwL (OwS false 5 1 eY) [g0_.rows.1,g0_.rows.2.1,g0_.rows.2.2.1,g0_.rows.2.2.2] a0.rows::OwS true 4 1 eB g0_.door a0.door::F)
  (Ret fun u R' L'=>u = .tuple #[]∧R'=R∧L'=Bk b0_ 250 (An.k r g0_)::OwL (OwS false 5 1 eY) [g0_.rows.1,g0_.rows.2.1,g0_.rows.2.2.1,g0_.rows.2.2.2] r.rows::OwS true 4 1 eB g0_.door r.door::F):=by
 unfold Ds at hm
 refine co_ofN (N:=43) func209 z z ?_
 refine c_seq (csr (r_mv z (r_bin z z (bP_eqp underlying194) (nsq (c_ff z (c_skip (x_seq (c_seq (csr (r_mv z (nsq ?_)))))))))))
 obtain ⟨p2,hp3,hm4⟩:=bs hm
 refine cd_join (E':=[(0,pt b0_ 0)]) (L':=Bk b0_ 250 (An.k a0 g0_)::OwL (OwS false 5 1 eY) [g0_.rows.1,g0_.rows.2.1,g0_.rows.2.2.1,g0_.rows.2.2.2] p2::OwS true 4 1 eB g0_.door a0.door::F) ?_ fun K5 =>?_
 ·refine x_seq (csr (r_mv z (r_nc z (r_fa fa250_3 z (r_ld 0 sc68 z z z ?_)))))
  refine rl_st (fun _ h=>mv2 h) ?_
  refine r_u0 (o_clr (e:=4) (z1:=false) underlying68 z z z z ⟨_,z,z⟩ z z) (r_nil (x_seq (c_reg (r_mv z (r_nc z (r_fa fa250_4 z (r_ld 1 sc3 z z z (r_bin z z (bI_quo _ 2 (by decide)) (r_nc z (r_fa fa250_4 z ?_))))))))))
  refine rl_st (fun _ h=>mv1 h) ?_
  refine r_u0 (o_st sc3 z z z z z z) (r_nil ?_)
  refine x_end ?_
  obtain rfl:=si hm4
  refine ex_st (pk 3 [0,2,1]) ?_
  exact x_r0 z le_ ⟨_,z,z,z,z⟩
 refine c_blk ?_
 refine cd_loop (M:=fun k8 (s:Int×List (List UInt8))=>B7 k8 s.1 s.2=some p2) (Ef:=fun (s:Int×List (List UInt8))=>[(0,pt b0_ 0),(6,vI s.1)]) (Lf:=fun (s:Int×List (List UInt8))=>Bk b0_ 250 (An.k a0 g0_)::OwL (OwS false 5 1 eY) [g0_.rows.1,g0_.rows.2.1,g0_.rows.2.2.1,g0_.rows.2.2.2] s.2::OwS true 4 1 eB g0_.door a0.door::F) 5 (0,a0.rows) hp3 ⟨z,z,y_⟩ (fun _ h=>h) (fun _ h=>by cases h) fun k8 s hM10 =>?_
 obtain ⟨s_6,c_7⟩:=s
 have hm9:B7 (k8+1) s_6 c_7=some p2:=hM10
 rw [B7] at hm9
 refine csr (r_bin z z (bI_lt _ 4) (r_nil (x_seq (c_seq ?_))))
 refine c_if (b:=decide (s_6<4)) z (fun h11 =>?_) fun h11 =>?_
 rotate_left
 ·have hm12:=iff_ hm9 h11
  refine c_exit (x_exit (ks':=_) z ?_)
  obtain rfl:=si hm12
  exact x_sub K5 ⟨z,y_⟩ id_
 have hm12:=ift hm9 h11
 refine c_skip (x_seq (c_seq ?_))
 obtain ⟨p13,hp14,hm15⟩:=bs hm12
 refine cd_join (E':=[(0,pt b0_ 0),(6,vI s_6)]) (L':=Bk b0_ 250 (An.k a0 g0_)::OwL (OwS false 5 1 eY) [g0_.rows.1,g0_.rows.2.1,g0_.rows.2.2.1,g0_.rows.2.2.2] p13::OwS true 4 1 eB g0_.door a0.door::F) ?_ fun K16 =>?_
 ·refine x_seq (c_reg (r_bin z z (bI_add _ 1) (r_mv z (r_nil ?_))))
  exact x_lp (i64 (s_6+1),p13) hm15 ⟨z,z,y_⟩ id_
 refine c_blk (csr (r_mv z (r_as z (nsr (r_mv z (r_mv z (r_nc z (r_fa fa250_2 z ?_))))))))
 obtain ⟨y17,hy17,hm19⟩:=bs hp14
 refine rl_ex (fun w h=>st_peek 1 hy17 z w h) fun u18 hu18 =>?_
 refine r_u (o_ixA (sz:=1) underlying248 kr z z (gi_some hu18).1) ?_
 refine r_u (o_ldA (o:=2) (n:=4) 0 sc131 z z hu18) ?_
 refine r_u (o_lenK (kn_in 1 z hu18 hy17) underlying131 z) (r_mv z (nsq ?_))
 obtain ⟨p20,hp21,hm22⟩:=bs hm19
 refine cd_join (E':=[(0,pt b0_ 0),(6,vI s_6)]) (L':=Bk b0_ 250 (An.k a0 g0_)::OwL (OwS false 5 1 eY) [g0_.rows.1,g0_.rows.2.1,g0_.rows.2.2.1,g0_.rows.2.2.2] p20::OwS true 4 1 eB g0_.door a0.door::F) ?_ fun K23 =>?_
 ·refine x_blk ?_
  obtain rfl:=si hm22
  exact x_sub K16 ⟨z,z,y_⟩ id_
 refine c_blk ?_
 refine cd_loop (M:=fun k26 (s:Int×List (List UInt8))=>BS s_6 y17 k26 s.1 s.2=some p20) (Ef:=fun (s:Int×List (List UInt8))=>[(0,pt b0_ 0),(2,vI s_6),(6,vI s_6),(15,vI (y17.length:Int)),(16,vI s.1)]) (Lf:=fun (s:Int×List (List UInt8))=>Bk b0_ 250 (An.k a0 g0_)::OwL (OwS false 5 1 eY) [g0_.rows.1,g0_.rows.2.1,g0_.rows.2.2.1,g0_.rows.2.2.2] s.2::OwS true 4 1 eB g0_.door a0.door::F) (((y17.length:Int)-0).toNat+1) (0,c_7) hp21 ⟨z,z,z,z,z,y_⟩ (fun _ h=>h) (fun _ h=>by cases h) fun k26 s hM28 =>?_
 obtain ⟨s_24,c_25⟩:=s
 have hm27:BS s_6 y17 (k26+1) s_24 c_25=some p20:=hM28
 rw [BS] at hm27
 refine csr (r_bin z z (bI_lt _ _) (r_nil (x_seq (c_seq ?_))))
 refine c_if (b:=decide (s_24<(y17.length:Int))) z (fun h29 =>?_) fun h29 =>?_
 rotate_left
 ·have hm30:=iff_ hm27 h29
  refine c_exit (x_exit (ks':=_) z ?_)
  obtain rfl:=si hm30
  exact x_sub K23 ⟨z,z,y_⟩ id_
 have hm30:=ift hm27 h29
 refine c_skip (x_seq (c_seq (c_blk (csr (r_mv z (r_as z (r_nil (x_seq (c_reg (r_mv z (r_mv z (r_nc z (r_fa fa250_2 z ?_)))))))))))))
 obtain ⟨y31,hy31,hm33⟩:=bs hm30
 refine rl_ex (fun w h=>st_peek 1 hy31 z w h) fun u32 hu32 =>?_
 refine r_u (o_ixA (sz:=1) underlying248 kr z z (gi_some hu32).1) ?_
 refine r_u (o_ldA (o:=2) (n:=4) 0 sc131 z z hu32) (r_mv z ?_)
 obtain ⟨x34,hx34,hm35⟩:=bs hm33
 refine r_u (o_ixK (kn_in 1 z hu32 hy31) underlying131 kr z z hx34) ?_
 refine r_u (o_ldK (kn_in 1 z hu32 hy31) 0 sc5 z hx34 z z) (r_bin z z (bY_quo _ 2 (by decide)) ?_)
 refine r_u (o_ixK (kn_in 1 z hu32 hy31) underlying131 kr z z hx34) ?_
 refine rl_st (fun _ h=>mv1 h) ?_
 refine r_u0 (o_stL (c':=x34/2) 0 hu32 hy31 sc5 z z z hx34 z z z) (r_nil (x_blk (x_seq (c_reg (r_bin z z (bI_add _ 1) (r_mv z (r_nil ?_)))))))
 exact x_lp (i64 (s_24+1),ls c_25 s_6 (ls y31 s_24 (x34/2))) hm35 ⟨z,z,z,z,z,y_⟩ (pk 3 [1,0,2])
def By(a0:An)(a1:Str)(r16:UInt8):Nat→Int→(List (List UInt8))→Option (List (List UInt8))
 | 0,_,_=>none
 | k24+1,s_22,c_23=>if decide (s_22<4) then (Bw (⟨a0.wide,a0.seed,c_23,a0.door,a0.added⟩:An) a1 s_22).bind fun r29=>(gi c_23 s_22).bind fun y31=>(gi y31 r29).bind fun x34=>Option.bind (if ((x34==r16)&&decide (r16<15)) then some (ls c_23 s_22 (ls y31 r29 (x34+1))) else some c_23) fun p36=>By a0 a1 r16 k24 (i64 (s_22+1)) p36 else some c_23
def B4(a0:An)(a1:Str):Option An :=
 (Bw a0 a1 4).bind fun r2=>(gi a0.door r2).bind fun x4=>Option.bind (if !x4 then some (ls a0.door r2 true,a0.rows) else (BY a0 a1).bind fun r16=>Option.bind (By a0 a1 r16 5 0 a0.rows) fun p18=>some (a0.door,p18)) fun p6=>if decide ((i64 (10*a0.wide))≤(i64 (a0.added+1))) then (Ds (⟨a0.wide,a0.seed,p6.2,p6.1,i64 (a0.added+1)⟩:An)).bind fun r12=>some r12 else some (⟨a0.wide,a0.seed,p6.2,p6.1,i64 (a0.added+1)⟩:An)
theorem B4.ok{G R F}(b0_:Nat)(a0:An)(g0_:An.G)(a1:Str)(r:An)(hm:B4 a0 a1=some r):CO prog 162 [pt b0_ 0,vS a1] G R (Bk b0_ 250 (An.k a0 g0_)::OwL (OwS false 5 1 eY) [g0_.rows.1,g0_.rows.2.1,g0_.rows.2.2.1,g0_.rows.2.2.2] a0.rows::OwS true 4 1 eB g0_.door a0.door::F)
  (Ret fun u R' L'=>u = .tuple #[]∧R'=R∧L'=Bk b0_ 250 (An.k r g0_)::OwL (OwS false 5 1 eY) [g0_.rows.1,g0_.rows.2.1,g0_.rows.2.2.1,g0_.rows.2.2.2] r.rows::OwS true 4 1 eB g0_.door r.door::F):=by
 unfold B4 at hm
 refine co_ofN (N:=83) func162 z z ?_
 refine c_seq (csr (r_mv z (r_bin z z (bP_eqp underlying194) (nsq (c_ff z (c_skip (x_seq (c_seq (csr (r_mv z (r_mv z ?_)))))))))))
 obtain ⟨r2,hr2,hm3⟩:=bs hm
 refine r_c (s_w (o_call ca207 z (Bw.ok b0_ a0 g0_ a1 4 _ hr2))) ?_
 refine r_as z (nsr (r_mv z (r_nc z (r_fa fa250_3 z (r_ld 0 sc68 z z z (r_mv z ?_))))))
 obtain ⟨x4,hx4,hm5⟩:=bs hm3
 refine r_u (o_ixO 2 underlying68 kr z z z hx4) (r_u (o_ldO0 2 sc4 z z hx4 z z) ?_)
 refine r_u (o_not z) (nsq ?_)
 obtain ⟨p6,hp7,hm8⟩:=bs hm5
 refine cd_join (E':=[(0,pt b0_ 0)]) (L':=Bk b0_ 250 (An.k a0 g0_)::OwS true 4 1 eB g0_.door p6.1::OwL (OwS false 5 1 eY) [g0_.rows.1,g0_.rows.2.1,g0_.rows.2.2.1,g0_.rows.2.2.2] p6.2::F) ?_ fun K9 =>?_
 ·refine x_seq (csr (r_mv z (r_nc z (r_fa fa250_4 z (r_ld 0 sc3 z z z (r_bin z z (bI_add _ 1) (r_nc z (r_fa fa250_4 z ?_))))))))
  refine r_u0 (o_st sc3 z z z z z z) (r_nil (x_seq (c_seq ?_)))
  refine c_any mixed (effs:=[]) (V:=[]) ?_
  refine stn [0,1,3,7,0,16,48,112,240,511] [0,1,2,3,4,5,6,7,8,9] [] [_,_,_,_,_,_,_,_,_,_] (q_mv z z z (q_u z z (o_nc z) (q_fa z z fa250_4 z (q_ld z z 0 sc3 z z z (q_mv z z z (q_u z z (o_nc z) (q_fa z z fa250_0 z (q_ld z z 0 sc3 z z z (q_u z z (o_bin z z (bI_mul 10 _)) (q_u z z (o_bin z z (bI_ge _ _)) qn)))))))))) en ?_
  intro _
  refine ex_sub (E':=[(0,pt b0_ 0),(80,vB (decide ((i64 (10*a0.wide))≤(i64 (a0.added+1)))))]) ⟨z,z,y_⟩ ?_
  refine x_seq ?_
  refine c_if (b:=decide ((i64 (10*a0.wide))≤(i64 (a0.added+1)))) z (fun h10 =>?_) fun h10 =>?_
  ·have hm11:=ift hm8 h10
   refine c_reg (r_mv z ?_)
   obtain ⟨r12,hr12,hm13⟩:=bs hm11
   refine rl_st (fun _ h=>mv2 (mv2 (mv1 h))) ?_
   refine r_c (s_w (o_call ca209 z (Ds.ok b0_ (⟨a0.wide,a0.seed,p6.2,p6.1,i64 (a0.added+1)⟩:An) g0_ _ hr12))) ?_
   refine r_nil ?_
   refine x_end ?_
   obtain rfl:=si hm13
   exact x_r0 z le_ ⟨_,z,z,z,z⟩
  have hm11:=iff_ hm8 h10
  refine c_skip ?_
  refine x_end ?_
  obtain rfl:=si hm11
  refine ex_st (pk 3 [0,2,1]) ?_
  exact x_r0 z le_ ⟨_,z,z,z,z⟩
 refine c_if (b := !x4) z (fun h14 =>?_) fun h14 =>?_
 ·have hm15:=ift hp7 h14
  refine c_reg (r_mv z (r_nc z (r_fa fa250_3 z (r_ld 0 sc68 z z z (r_mv z ?_)))))
  refine r_u (o_ixO 2 underlying68 kr z z z hx4) ?_
  refine rl_st (fun _ h=>mv2 h) ?_
  refine r_u0 (o_stO0 (c':=true) sc4 z z z hx4 z z z) (r_nil ?_)
  obtain rfl:=si hm15
  exact x_sub K9 ⟨z,y_⟩ (pk 3 [1,0,2])
 have hm15:=iff_ hp7 h14
 refine csr (r_mv z (r_mv z ?_))
 obtain ⟨r16,hr16,hm17⟩:=bs hm15
 refine r_c (s_w (o_call ca208 z (BY.ok b0_ a0 g0_ a1 _ hr16))) ?_
 refine r_as z (nsr (r_mv z (nsq ?_)))
 obtain ⟨p18,hp19,hm20⟩:=bs hm17
 refine cd_join (E':=[(0,pt b0_ 0)]) (L':=Bk b0_ 250 (An.k a0 g0_)::OwL (OwS false 5 1 eY) [g0_.rows.1,g0_.rows.2.1,g0_.rows.2.2.1,g0_.rows.2.2.2] p18::OwS true 4 1 eB g0_.door a0.door::F) ?_ fun K21 =>?_
 ·obtain rfl:=si hm20
  exact x_sub K9 ⟨z,y_⟩ (pk 3 [0,2,1])
 refine c_blk ?_
 refine cd_loop (M:=fun k24 (s:Int×List (List UInt8))=>By a0 a1 r16 k24 s.1 s.2=some p18) (Ef:=fun (s:Int×List (List UInt8))=>[(0,pt b0_ 0),(1,vS a1),(5,vY r16),(30,vI s.1)]) (Lf:=fun (s:Int×List (List UInt8))=>Bk b0_ 250 (An.k a0 g0_)::OwL (OwS false 5 1 eY) [g0_.rows.1,g0_.rows.2.1,g0_.rows.2.2.1,g0_.rows.2.2.2] s.2::OwS true 4 1 eB g0_.door a0.door::F) 5 (0,a0.rows) hp19 ⟨z,z,z,z,y_⟩ (fun _ h=>h) (fun _ h=>by cases h) fun k24 s hM26 =>?_
 obtain ⟨s_22,c_23⟩:=s
 have hm25:By a0 a1 r16 (k24+1) s_22 c_23=some p18:=hM26
 rw [By] at hm25
 refine csr (r_bin z z (bI_lt _ 4) (r_nil (x_seq (c_seq ?_))))
 refine c_if (b:=decide (s_22<4)) z (fun h27 =>?_) fun h27 =>?_
 rotate_left
 ·have hm28:=iff_ hm25 h27
  refine c_exit (x_exit (ks':=_) z ?_)
  obtain rfl:=si hm28
  exact x_sub K21 ⟨z,y_⟩ id_
 have hm28:=ift hm25 h27
 refine c_skip (x_seq (c_seq (c_blk (csr (r_mv z (r_as z (nsr (r_mv z (r_mv z (r_mv z ?_))))))))))
 obtain ⟨r29,hr29,hm30⟩:=bs hm28
 refine r_c (s_w (o_call ca207 z (Bw.ok b0_ (⟨a0.wide,a0.seed,c_23,a0.door,a0.added⟩:An) g0_ a1 _ _ hr29))) ?_
 refine r_as z (nsr (r_mv z (r_mv z (r_nc z (r_fa fa250_2 z ?_)))))
 obtain ⟨y31,hy31,hm33⟩:=bs hm30
 refine rl_ex (fun w h=>st_peek 1 hy31 z w h) fun u32 hu32 =>?_
 refine r_u (o_ixA (sz:=1) underlying248 kr z z (gi_some hu32).1) ?_
 refine r_u (o_ldA (o:=2) (n:=4) 0 sc131 z z hu32) (r_mv z ?_)
 obtain ⟨x34,hx34,hm35⟩:=bs hm33
 refine r_u (o_ixK (kn_in 1 z hu32 hy31) underlying131 kr z z hx34) ?_
 refine r_u (o_ldK (kn_in 1 z hu32 hy31) 0 sc5 z hx34 z z) (r_mv z (r_bin z z (bY_eq _ _) (r_mv z ?_)))
 refine r_s (s_gt z z fun g=>o_mv z) ?_
 refine r_s (s_gt z z fun g=>o_bin (evg z g) z (bY_lt _ 15)) ?_
 refine r_u (o_and z z) (nsq ?_)
 obtain ⟨p36,hp37,hm38⟩:=bs hm35
 refine cd_join (E':=[(0,pt b0_ 0),(1,vS a1),(5,vY r16),(30,vI s_22)]) (L':=Bk b0_ 250 (An.k a0 g0_)::OwL (OwS false 5 1 eY) [g0_.rows.1,g0_.rows.2.1,g0_.rows.2.2.1,g0_.rows.2.2.2] p36::OwS true 4 1 eB g0_.door a0.door::F) ?_ fun K39 =>?_
 ·refine x_blk (x_seq (c_reg (r_bin z z (bI_add _ 1) (r_mv z (r_nil ?_)))))
  exact x_lp (i64 (s_22+1),p36) hm38 ⟨z,z,z,z,y_⟩ id_
 refine c_if (b:=((x34==r16)&&decide (r16<15))) z (fun h40 =>?_) fun h40 =>?_
 ·have hm41:=ift hp37 h40
  refine c_reg (r_mv z (r_mv z (r_nc z (r_fa fa250_2 z ?_))))
  refine r_u (o_ixA (sz:=1) underlying248 kr z z (gi_some hu32).1) ?_
  refine r_u (o_ldA (o:=2) (n:=4) 0 sc131 z z hu32) (r_mv z ?_)
  refine r_u (o_ixK (kn_in 1 z hu32 hy31) underlying131 kr z z hx34) ?_
  refine r_u (o_ldK (kn_in 1 z hu32 hy31) 0 sc5 z hx34 z z) (r_bin z z (bY_add _ 1) ?_)
  refine r_u (o_ixK (kn_in 1 z hu32 hy31) underlying131 kr z z hx34) ?_
  refine rl_st (fun _ h=>mv1 h) ?_
  refine r_u0 (o_stL (c':=x34+1) 0 hu32 hy31 sc5 z z z hx34 z z z) (r_nil ?_)
  obtain rfl:=si hm41
  exact x_sub K39 ⟨z,z,z,z,y_⟩ (pk 3 [1,0,2])
 have hm41:=iff_ hp37 h40
 refine c_skip ?_
 obtain rfl:=si hm41
 exact x_sub K39 ⟨z,z,z,z,y_⟩ id_
def DW(a0:Ao)(a1:Str):Option Ao :=
 if decide ((a1.length:Int)≤64) then om a0.s (none) fun x8=>(B4 x8 a1).bind fun r14=>some (⟨a0.most,(some r14),a0.r⟩:Ao) else some a0
theorem DW.ok{G R F}(b0_:Nat)(a0:Ao)(g0_:Ao.G)(a1:Str)(r:Ao)(hm:DW a0 a1=some r):CO prog 119 [pt b0_ 0,vS a1] G R (Bk b0_ 196 [vI a0.most,g0_.s.1,g0_.r.1]::rO (An.op g0_.s.2) g0_.s.1 a0.s::rO (Aj.op g0_.r.2) g0_.r.1 a0.r::F)
  (Ret fun u R' L'=>u = .tuple #[]∧R'=R∧L'=Bk b0_ 196 [vI r.most,g0_.s.1,g0_.r.1]::rO (An.op g0_.s.2) g0_.s.1 r.s::rO (Aj.op g0_.r.2) g0_.r.1 r.r::F):=by
 obtain ⟨⟨pv1,g2⟩,⟨pv4,g5⟩⟩:=g0_
 unfold DW at hm
 refine co_ofN (N:=17) func119 z z ?_
 refine csr (r_mv z (r_bin z z (bP_nep underlying142) (r_mv z ?_)))
 refine r_s (s_y z z z (o_mv z)) ?_
 refine r_s (s_y z z z (o_lenS underlying9 z)) ?_
 refine r_s (s_y z z z (o_bin z z (bI_le _ 64))) ?_
 refine r_u (o_pt z z z) (nsq ?_)
 refine c_if (b:=decide ((a1.length:Int)≤64)) z (fun h6 =>?_) fun h6 =>?_
 rotate_left
 ·have hm7:=iff_ hm h6
  refine c_skip ?_
  refine x_end ?_
  obtain rfl:=si hm7
  exact x_r0 z le_ ⟨_,z,z,z,z⟩
 have hm7:=ift hm h6
 refine cd_st (fun _ h=>mv1 h) ?_
 refine cd_opt (fun ho10 =>?_) (fun x8 b9 ho10 =>?_)
 ·rintro rfl
  have hm11:=om_n hm7 ho10
  cases hm11
 rintro rfl
 have hm11:=om_s hm7 ho10
 refine cd_st (fun _ h=>st_star_o h) ?_
 refine c_reg (r_mv z (r_nc z (r_fa fa196_1 z (r_ld 3 sc194 z z z (r_mv z ?_)))))
 obtain ⟨r14,hr14,hm15⟩:=bs hm11
 refine r_c (s_w (o_call ca162 z (B4.ok b9 x8 g2 a1 _ hr14))) ?_
 refine r_nil ?_
 refine x_end ?_
 refine ex_st (fun _ h=>st_some (f:=An.op g2) (a:=r14) (st_star_f (A:=An.fl b9 r14 g2) h)) ?_
 obtain rfl:=si hm15
 refine ex_st (pk 3 [1,0,2]) ?_
 exact x_r0 z le_ ⟨_,z,z,z,z⟩
def Cc(a0:Ah)(a1:Str):Option Ah :=
 if ((AA a0)==2) then om a0.t (none) fun x8=>if ((AA (⟨a0.kind,a0.a,(some x8)⟩:Ah))==2) then (DM x8 a1).bind fun r20=>if !r20 then (DW x8 a1).bind fun r24=>some (⟨a0.kind,a0.a,(some r24)⟩:Ah) else some a0 else some a0 else some a0
theorem Cc.ok{G R F}(b0_:Nat)(a0:Ah)(g0_:Ah.G)(a1:Str)(r:Ah)(hm:Cc a0 a1=some r):CO prog 70 [pt b0_ 0,vS a1] G R (Bk b0_ 144 [vI a0.kind,g0_.a.1,g0_.t.1]::rO (Aq.op g0_.a.2) g0_.a.1 a0.a::rO (Ao.op g0_.t.2) g0_.t.1 a0.t::F)
  (Ret fun u R' L'=>u = .tuple #[]∧R'=R∧L'=Bk b0_ 144 [vI r.kind,g0_.a.1,g0_.t.1]::rO (Aq.op g0_.a.2) g0_.a.1 r.a::rO (Ao.op g0_.t.2) g0_.t.1 r.t::F):=by
 obtain ⟨⟨pv1,g2⟩,⟨pv4,g5⟩⟩:=g0_
 unfold Cc at hm
 refine co_ofN (N:=22) func70 z z ?_
 refine c_seq ?_
 refine cd_by ((AA a0)==2) (fun h6 =>?_) fun h6 =>?_
 rotate_left
 ·have hm7:=iff_ hm h6
  refine c_reg (r_mv z ?_)
  refine r_c (s_w (o_call ca67 z (AA.ok b0_ a0 (⟨(pv1,g2),(pv4,g5)⟩:Ah.G) _ z))) ?_
  refine r_bin z z (bI_eq _ 2) (r_mv z ?_)
  refine r_s (s_n z z h6) ?_
  refine r_s (s_n z z h6) ?_
  refine r_s (s_n z z h6) ?_
  refine r_s (s_n z z h6) ?_
  refine r_s (s_n z z h6) ?_
  refine r_s (s_n z z h6) ?_
  refine r_s (s_n z z h6) ?_
  refine r_u (o_pf z h6 z) (nsq (c_ff z (c_skip ?_)))
  refine x_end ?_
  obtain rfl:=si hm7
  exact x_r0 z le_ ⟨_,z,z,z,z⟩
 have hm7:=ift hm h6
 refine cd_st (fun _ h=>mv2 h) ?_
 refine cd_opt (fun ho10 =>?_) (fun x8 b9 ho10 =>?_)
 ·rintro rfl
  have hm11:=om_n hm7 ho10
  cases hm11
 rintro rfl
 have hm11:=om_s hm7 ho10
 obtain ⟨⟨pv13,g14⟩,⟨pv16,g17⟩⟩:=g5
 refine cd_st (fun _ h=>st_star_o h) ?_
 refine cd_by ((AA (⟨a0.kind,a0.a,(some x8)⟩:Ah))==2) (fun h18 =>?_) fun h18 =>?_
 rotate_left
 ·have hm19:=iff_ hm11 h18
  refine c_reg (r_mv z ?_)
  refine rl_st (fun _ h=>st_some (f:=Ao.op (⟨(pv13,g14),(pv16,g17)⟩:Ao.G)) (a:=x8) (st_star_f (A:=Ao.fl b9 x8 (⟨(pv13,g14),(pv16,g17)⟩:Ao.G)) h)) ?_
  refine rl_st (fun _ h=>mv2 (mv2 h)) ?_
  refine r_c (s_w (o_call ca67 z (AA.ok b0_ (⟨a0.kind,a0.a,(some x8)⟩:Ah) (⟨(pv1,g2),(pt b9 0,(⟨(pv13,g14),(pv16,g17)⟩:Ao.G))⟩:Ah.G) _ z))) ?_
  refine r_bin z z (bI_eq _ 2) (r_mv z ?_)
  refine r_s (s_n z z h18) ?_
  refine r_s (s_n z z h18) ?_
  refine r_s (s_n z z h18) ?_
  refine r_s (s_n z z h18) ?_
  refine r_s (s_n z z h18) ?_
  refine r_s (s_n z z h18) ?_
  refine r_s (s_n z z h18) ?_
  refine r_u (o_pf z h18 z) (nsq (c_ff z (c_skip ?_)))
  refine x_end ?_
  refine ex_st (fun _ h=>mv2 h) ?_
  refine ex_st (fun _ h=>st_back ho10 h) ?_
  obtain rfl:=si hm19
  refine ex_st (pk 3 [1,2,0]) ?_
  exact x_r0 z le_ ⟨_,z,z,z,z⟩
 have hm19:=ift hm11 h18
 refine c_reg (r_mv z ?_)
 refine rl_st (fun _ h=>st_some (f:=Ao.op (⟨(pv13,g14),(pv16,g17)⟩:Ao.G)) (a:=x8) (st_star_f (A:=Ao.fl b9 x8 (⟨(pv13,g14),(pv16,g17)⟩:Ao.G)) h)) ?_
 refine rl_st (fun _ h=>mv2 (mv2 h)) ?_
 refine r_c (s_w (o_call ca67 z (AA.ok b0_ (⟨a0.kind,a0.a,(some x8)⟩:Ah) (⟨(pv1,g2),(pt b9 0,(⟨(pv13,g14),(pv16,g17)⟩:Ao.G))⟩:Ah.G) _ z))) ?_
 refine r_bin z z (bI_eq _ 2) (r_mv z ?_)
 refine r_s (s_y z z h18 (o_mv z)) ?_
 refine r_s (s_y z z h18 (o_nc z)) ?_
 refine r_s (s_y z z h18 (o_fa fa144_2 z)) ?_
 refine r_s (s_y z z h18 (o_ld 0 sc142 z z z)) ?_
 refine r_s (s_y z z h18 (o_mv z)) ?_
 refine rl_st (fun _ h=>mv2 h) ?_
 refine rl_st (fun _ h=>st_some_o h) ?_
 refine rl_st (fun _ h=>st_star_o h) ?_
 obtain ⟨r20,hr20,hm21⟩:=bs hm19
 refine r_c (s_yw z z h18 (o_call ca118 z (DM.ok b9 x8 (⟨(pv13,g14),(pv16,g17)⟩:Ao.G) a1 _ hr20))) ?_
 refine r_s (s_y z z h18 (o_not z)) ?_
 refine r_u (o_pt z h18 z) (nsq ?_)
 refine c_if (b := !r20) z (fun h22 =>?_) fun h22 =>?_
 ·have hm23:=ift hm21 h22
  refine c_reg (r_mv z (r_nc z (r_fa fa144_2 z (r_ld 3 sc142 z z z (r_mv z ?_)))))
  obtain ⟨r24,hr24,hm25⟩:=bs hm23
  refine r_c (s_w (o_call ca119 z (DW.ok b9 x8 (⟨(pv13,g14),(pv16,g17)⟩:Ao.G) a1 _ hr24))) ?_
  refine r_nil ?_
  refine x_end ?_
  refine ex_st (fun _ h=>st_some (f:=Ao.op (⟨(pv13,g14),(pv16,g17)⟩:Ao.G)) (a:=r24) (st_star_f (A:=Ao.fl b9 r24 (⟨(pv13,g14),(pv16,g17)⟩:Ao.G)) h)) ?_
  obtain rfl:=si hm25
  refine ex_st (pk 3 [1,2,0]) ?_
  exact x_r0 z le_ ⟨_,z,z,z,z⟩
 have hm23:=iff_ hm21 h22
 refine c_skip ?_
 refine x_end ?_
 refine ex_st (fun _ h=>st_some (f:=Ao.op (⟨(pv13,g14),(pv16,g17)⟩:Ao.G)) (a:=x8) (st_star_f (A:=Ao.fl b9 x8 (⟨(pv13,g14),(pv16,g17)⟩:Ao.G)) h)) ?_
 refine ex_st (fun _ h=>st_back ho10 h) ?_
 obtain rfl:=si hm23
 refine ex_st (pk 3 [1,2,0]) ?_
 exact x_r0 z le_ ⟨_,z,z,z,z⟩
def CK(a0:Aj)(a1:Int):Bool :=
 (decide (0≤a1)&&decide (a1<a0.lists))
theorem CK.ok{G R F}(b0_:Nat)(a0:Aj)(g0_:Aj.G)(a1:Int)(r:Bool)(hm:CK a0 a1=r):CO prog 210 [pt b0_ 0,vI a1] G R (Bk b0_ 237 (Aj.k a0 g0_)::OwS true 240 4 Av.c g0_.slots a0.slots::OwS true 3 1 eI g0_.free a0.free::OwM vS vI g0_.at_ a0.at_::OwS true 3 1 eI g0_.many a0.many::F)
  (Ret fun u R' L'=>u=vB r∧R'=R∧L'=Bk b0_ 237 (Aj.k a0 g0_)::OwS true 240 4 Av.c g0_.slots a0.slots::OwS true 3 1 eI g0_.free a0.free::OwM vS vI g0_.at_ a0.at_::OwS true 3 1 eI g0_.many a0.many::F):=by
 unfold CK at hm
 refine co_ofN (N:=19) func210 z z ?_
 refine csr (r_as z (nsr (r_mv z (r_bin z z (bP_nep underlying191) (r_mv z ?_)))))
 refine r_s (s_y z z z (o_mv z)) ?_
 refine r_s (s_y z z z (o_bin z z (bI_ge a1 0))) ?_
 refine r_u (o_pt z z z) (r_mv z ?_)
 refine r_s (s_gt z z fun g=>o_mv z) ?_
 refine r_s (s_gt z z fun g=>o_mv z) ?_
 refine r_s (s_gt z z fun g=>o_nc (evg z g)) ?_
 refine r_s (s_gt z z fun g=>o_fa fa237_0 (evg z g)) ?_
 refine r_s (s_gt z z fun g=>o_ld 0 sc3 (evg z g) z z) ?_
 refine r_s (s_gt z z fun g=>o_bin (evg z g) (evg z g) (bI_lt a1 _)) ?_
 refine r_u (o_and z z) (r_as z (r_nil (x_seq (c_ret ?_))))
 subst hm
 exact x_r1 z (rv_t z) le_ ⟨_,z,z,z,z⟩
def Dh(a0:Aj)(a1:Int)(a2:Int):Option Aj :=
 (gi a0.slots a1).bind fun x4=>(gi a0.slots a2).bind fun x6=>(gi (ls a0.slots a1 (⟨x4.key,a2,x4.prev,x4.next⟩:Av)) a1).bind fun x8=>(gi (ls (ls a0.slots a1 (⟨x4.key,a2,x4.prev,x4.next⟩:Av)) a1 (⟨x8.key,x8.list,a2,x8.next⟩:Av)) a1).bind fun x10=>(gi (ls (ls (ls a0.slots a1 (⟨x4.key,a2,x4.prev,x4.next⟩:Av)) a1 (⟨x8.key,x8.list,a2,x8.next⟩:Av)) a1 (⟨x10.key,x10.list,x10.prev,x6.next⟩:Av)) a1).bind fun x12=>(gi (ls (ls (ls a0.slots a1 (⟨x4.key,a2,x4.prev,x4.next⟩:Av)) a1 (⟨x8.key,x8.list,a2,x8.next⟩:Av)) a1 (⟨x10.key,x10.list,x10.prev,x6.next⟩:Av)) x12.next).bind fun x14=>(gi (ls (ls (ls (ls a0.slots a1 (⟨x4.key,a2,x4.prev,x4.next⟩:Av)) a1 (⟨x8.key,x8.list,a2,x8.next⟩:Av)) a1 (⟨x10.key,x10.list,x10.prev,x6.next⟩:Av)) x12.next (⟨x14.key,x14.list,a1,x14.next⟩:Av)) a2).bind fun x16=>(gi a0.many a2).bind fun x18=>some (⟨a0.lists,ls (ls (ls (ls (ls a0.slots a1 (⟨x4.key,a2,x4.prev,x4.next⟩:Av)) a1 (⟨x8.key,x8.list,a2,x8.next⟩:Av)) a1 (⟨x10.key,x10.list,x10.prev,x6.next⟩:Av)) x12.next (⟨x14.key,x14.list,a1,x14.next⟩:Av)) a2 (⟨x16.key,x16.list,x16.prev,a1⟩:Av),a0.free,a0.at_,ls a0.many a2 (i64 (x18+1))⟩:Aj)
theorem Dh.ok{G R F}(b0_:Nat)(a0:Aj)(g0_:Aj.G)(a1:Int)(a2:Int)(r:Aj)(hm:Dh a0 a1 a2=some r):CO prog 211 [pt b0_ 0,vI a1,vI a2] G R (Bk b0_ 237 (Aj.k a0 g0_)::OwS true 240 4 Av.c g0_.slots a0.slots::OwS true 3 1 eI g0_.free a0.free::OwM vS vI g0_.at_ a0.at_::OwS true 3 1 eI g0_.many a0.many::F)
  (Ret fun u R' L'=>u = .tuple #[]∧R'=R∧L'=Bk b0_ 237 (Aj.k r g0_)::OwS true 240 4 Av.c g0_.slots r.slots::OwS true 3 1 eI g0_.free r.free::OwM vS vI g0_.at_ r.at_::OwS true 3 1 eI g0_.many r.many::F):=by
 unfold Dh at hm
 refine co_ofN (N:=60) func211 z z ?_
 refine csr (r_mv z (r_nc z (r_fa fa237_1 z (r_ld 0 sc233 z z z (r_mv z ?_)))))
 obtain ⟨x4,hx4,hm5⟩:=bs hm
 refine r_u (o_ixO 1 underlying233 kr z z z hx4) (r_as z (nsr (r_mv z (r_mv z (r_mv z (r_mv z (r_mv z (r_mv z (r_nc z (r_fa fa237_1 z (r_ld 0 sc233 z z z (r_mv z ?_))))))))))))
 obtain ⟨x6,hx6,hm7⟩:=bs hm5
 refine r_u (o_ixO 1 underlying233 kr z z z hx6) (r_fa fa240_3 z (r_u (o_ldO 1 3 sc3 z z hx6 z z) (r_nc z (r_fa fa240_1 z ?_))))
 refine rl_st (fun _ h=>mv1 h) ?_
 refine r_u0 (o_stO (c':=(⟨x4.key,a2,x4.prev,x4.next⟩:Av)) 1 sc3 z z z hx4 z z z) (r_nc z (r_fa fa240_2 z ?_))
 obtain ⟨x8,hx8,hm9⟩:=bs hm7
 refine r_u0 (o_stO (c':=(⟨x8.key,x8.list,a2,x8.next⟩:Av)) 2 sc3 z z z hx8 z z z) (r_nc z (r_fa fa240_3 z ?_))
 obtain ⟨x10,hx10,hm11⟩:=bs hm9
 refine r_u0 (o_stO (c':=(⟨x10.key,x10.list,x10.prev,x6.next⟩:Av)) 3 sc3 z z z hx10 z z z) (r_nil (x_seq (c_seq ?_)))
 obtain ⟨x12,hx12,hm13⟩:=bs hm11
 obtain ⟨x14,hx14,hm15⟩:=bs hm13
 obtain ⟨x16,hx16,hm17⟩:=bs hm15
 refine c_any mixed (effs:=[17,20]) (V:=[]) ?_
 refine stn mk32_ [0,1,2,3,4,5,6,7,8,9,10,11,12,13,14,15,16] [17] [_,_,_,_,_,_,_,_,_,_,_,_,_,_,_,_,_] (q_mv z z z (q_u z z (o_nc z) (q_fa z z fa237_1 z (q_ld z z 1 sc233 z z z (q_mv z z z (q_u z z (o_nc z) (q_fa z z fa240_3 z (q_u z z (o_ldO 0 3 sc3 z z hx12 z z) (q_mv z z z (q_u z z (o_nc z) (q_fa z z fa237_1 z (q_ld z z 1 sc233 z z z (q_mv z z z (q_mv z z z (q_mv z z z (q_u z z (o_ixO 0 underlying233 kr z z z hx14) (q_fa z z fa240_2 z qn))))))))))))))))) ?_ (nxt z)
 refine ec (eo_u z (s_u (o_stO (c':=(⟨x14.key,x14.list,a1,x14.next⟩:Av)) 2 sc3 z z z hx14 z z z)) le_ ?_) en
 refine stx [18,19] mk32_ [12,14,18,19] [20] [_,_] (q_mv z z z (q_mv z z z (q_u z z (o_ixO 0 underlying233 kr z z z hx16) (q_fa z z fa240_3 z qn)))) ?_ (nxt z)
 refine ec (eo_u z (s_u (o_stO (c':=(⟨x16.key,x16.list,x16.prev,a1⟩:Av)) 3 sc3 z z z hx16 z z z)) le_ ?_) en
 refine stage z z z z mk32_ [] [] z z z qn en ?_
 intro _
 refine ex_sub (E':=[(0,pt b0_ 0),(2,vI a2)]) ⟨z,z,y_⟩ ?_
 refine x_seq (c_reg (r_mv z (r_nc z (r_fa fa237_4 z (r_ld 1 sc234 z z z (r_mv z ?_))))))
 obtain ⟨x18,hx18,hm19⟩:=bs hm17
 refine r_u (o_ixO 4 underlying234 kr z z z hx18) (r_u (o_ldO0 4 sc3 z z hx18 z z) (r_bin z z (bI_add _ 1) ?_))
 refine r_u (o_ixO 4 underlying234 kr z z z hx18) ?_
 refine rl_st (fun _ h=>mv4 h) ?_
 refine r_u0 (o_stO0 (c':=i64 (x18+1)) sc3 z z z hx18 z z z) (r_nil ?_)
 refine x_end ?_
 obtain rfl:=si hm19
 refine ex_st (pk 5 [2,1,3,4,0]) ?_
 exact x_r0 z le_ ⟨_,z,z,z,z⟩
def Ax(a0:Aj)(a1:Int)(a2:Str):Option (Bool×Aj) :=
 if (!(CK a0 a1)||decide (64<(a2.length:Int))) then some (false,a0) else if (mget a0.at_ a2).isSome then (Dr a0 ((mget a0.at_ a2).getD (0:Int))).bind fun r8=>(Dh r8 ((mget a0.at_ a2).getD (0:Int)) a1).bind fun r10=>some (true,r10) else if ((a0.free.length:Int)==0) then some (false,a0) else (gi a0.free (i64 ((a0.free.length:Int)-1))).bind fun x14=>(sl a0.free 0 (i64 ((a0.free.length:Int)-1))).bind fun l16=>(gi a0.slots x14).bind fun x18=>(Dh (⟨a0.lists,ls a0.slots x14 (⟨a2,x18.list,x18.prev,x18.next⟩:Av),l16,mput a0.at_ a2 x14,a0.many⟩:Aj) x14 a1).bind fun r20=>some (true,r20)
theorem Ax.ok{G R F}(b0_:Nat)(a0:Aj)(g0_:Aj.G)(a1:Int)(a2:Str)(r:Bool×Aj)(hm:Ax a0 a1 a2=some r):CO prog 163 [pt b0_ 0,vI a1,vS a2] G R (Bk b0_ 237 (Aj.k a0 g0_)::OwS true 240 4 Av.c g0_.slots a0.slots::OwS true 3 1 eI g0_.free a0.free::OwM vS vI g0_.at_ a0.at_::OwS true 3 1 eI g0_.many a0.many::F)
  (Ret fun u R' L'=>∃(q0:Aj.G),u=vB r.1∧R'=R∧L'=Bk b0_ 237 (Aj.k r.2 q0)::OwS true 240 4 Av.c q0.slots r.2.slots::OwS true 3 1 eI q0.free r.2.free::OwM vS vI q0.at_ r.2.at_::OwS true 3 1 eI q0.many r.2.many::F):=by
 unfold Ax at hm
 refine co_ofN (N:=80) func163 z z ?_
 refine csr (r_as z (nssr (r_mv z (r_mv z ?_))))
 refine r_c (s_w (o_call ca210 z (CK.ok b0_ a0 g0_ a1 _ z))) ?_
 refine r_u (o_not z) (r_mv z ?_)
 refine r_s (s_gf z z fun g=>o_mv z) ?_
 refine r_s (s_gf z z fun g=>o_lenS underlying9 (evg z g)) ?_
 refine r_s (s_gf z z fun g=>o_bin (evg z g) z (bI_gt _ 64)) ?_
 refine r_u (o_or z z) (nsq ?_)
 refine c_if (b:=(!(CK a0 a1)||decide (64<(a2.length:Int)))) z (fun h4 =>?_) fun h4 =>?_
 ·have hm5:=ift hm h4
  refine csr (r_as z (r_nil (x_seq (c_ret ?_))))
  obtain rfl:=si hm5
  exact x_r1 z (rv_t z) le_ ⟨_,z,g0_,z,z,z⟩
 have hm5:=iff_ hm h4
 refine c_skip (x_seq (c_seq (csr (r_mv z (r_nc z (r_fa fa237_3 z (r_ld 0 sc235 z z z (r_mv z ?_))))))))
 refine r_u (o_lk (kv:=vS) (vv:=vI) (key:=a2) (z0:=(0:Int)) 3 underlying235 (kok_S underlying9) kr z z z) (r_mv z (r_ext z z (r_ext z z (r_as z (r_as z (nsr (r_mv z (nsq ?_))))))))
 refine c_if (b:=(mget a0.at_ a2).isSome) z (fun h6 =>?_) fun h6 =>?_
 ·have hm7:=ift hm5 h6
  refine csr (r_mv z (r_mv z ?_))
  obtain ⟨r8,hr8,hm9⟩:=bs hm7
  refine r_c (s_w (o_call ca161 z (Dr.ok b0_ a0 g0_ _ _ hr8))) ?_
  refine nsr (r_mv z (r_mv z (r_mv z ?_)))
  obtain ⟨r10,hr10,hm11⟩:=bs hm9
  refine r_c (s_w (o_call ca211 z (Dh.ok b0_ r8 g0_ _ a1 _ hr10))) ?_
  refine nsr (r_as z (r_nil (x_seq (c_ret ?_))))
  obtain rfl:=si hm11
  exact x_r1 z (rv_t z) le_ ⟨_,z,g0_,z,z,z⟩
 have hm7:=iff_ hm5 h6
 refine c_skip (x_seq (csr (r_mv z (r_nc z (r_fa fa237_2 z (r_ld 0 sc234 z z z (r_u (o_lenO 2 underlying234 z z) (r_as z (nssr (r_mv z (r_bin z z (bI_eq _ 0) (nsq ?_))))))))))))
 refine c_if (b:=((a0.free.length:Int)==0)) z (fun h12 =>?_) fun h12 =>?_
 ·have hm13:=ift hm7 h12
  refine csr (r_as z (r_nil (x_seq (c_ret ?_))))
  obtain rfl:=si hm13
  exact x_r1 z (rv_t z) le_ ⟨_,z,g0_,z,z,z⟩
 have hm13:=iff_ hm7 h12
 refine c_skip (x_seq (csr (r_mv z (r_nc z (r_fa fa237_2 z (r_ld 0 sc234 z z z (r_mv z (r_bin z z (bI_sub _ 1) ?_))))))))
 obtain ⟨x14,hx14,hm15⟩:=bs hm13
 refine r_u (o_ixO 2 underlying234 kr z z z hx14) (r_u (o_ldO0 2 sc3 z z hx14 z z) (r_as z (nsr (r_mv z (r_mv z (r_nc z (r_fa fa237_2 z (r_ld 0 sc234 z z z (r_mv z (r_bin z z (bI_sub _ 1) ?_))))))))))
 obtain ⟨l16,hl16,hm17⟩:=bs hm15
 refine rl_st (fun _ h=>mv2 h) ?_
 refine r_u (o_slO underlying234 kr z z z hl16) (r_nc z (r_fa fa237_2 z ?_))
 refine rl_st (fun _ h=>mv1 h) ?_
 refine r_u0 (ou_if (one_o 1 z) fun ho0=>o_st sc234 z z z ho0 z z) ?_
 refine nsr (r_mv z (r_nc z (r_fa fa237_1 z (r_ld 0 sc233 z z z (r_mv z (r_mv z ?_))))))
 obtain ⟨x18,hx18,hm19⟩:=bs hm17
 refine r_u (o_ixO 2 underlying233 kr z z z hx18) (r_fa fa240_0 z ?_)
 refine rl_st (fun _ h=>mv2 h) ?_
 refine r_u0 (o_stO0 (c':=(⟨a2,x18.list,x18.prev,x18.next⟩:Av)) sc9 z z z hx18 z z z) (nsr (r_mv z (r_nc z (r_fa fa237_3 z (r_ld 1 sc235 z z z (r_mv z (r_mv z ?_)))))))
 refine rl_st (fun _ h=>mv3 h) ?_
 refine r_u0 (o_mu (kv:=vS) (vv:=vI) (key:=a2) (val:=x14) underlying235 (kok_S underlying9) z z z z) (nsr (r_mv z (r_mv z (r_mv z ?_))))
 obtain ⟨r20,hr20,hm21⟩:=bs hm19
 refine rl_st (fun _ h=>mv4 (mv3 (mv4 (mv1 (mv4 h))))) ?_
 refine r_c (s_w (o_call ca211 z (Dh.ok b0_ (⟨a0.lists,ls a0.slots x14 (⟨a2,x18.list,x18.prev,x18.next⟩:Av),l16,mput a0.at_ a2 x14,a0.many⟩:Aj) (⟨g0_.slots,(sh g0_.free (i64 ((a0.free.length:Int)-1)).toNat),g0_.at_,g0_.many⟩:Aj.G) _ a1 _ hr20))) ?_
 refine nsr (r_as z (r_nil (x_seq (c_ret ?_))))
 obtain rfl:=si hm21
 exact x_r1 z (rv_t z) le_ ⟨_,z,(⟨g0_.slots,(sh g0_.free (i64 ((a0.free.length:Int)-1)).toNat),g0_.at_,g0_.many⟩:Aj.G),z,z,z⟩
def B5(a0:Aq)(a1:Str):Option (Bool×Aq) :=
 (DL a0 a1).bind fun r3=>if !r3 then some (false,a0) else om a0.r (none) fun x7=>(Ax x7 1 a1).bind fun r15=>some (r15.1,(⟨a0.most,a0.target,(some r15.2)⟩:Aq))
theorem B5.ok{G R F}(b0_:Nat)(a0:Aq)(g0_:Aq.G)(a1:Str)(r:Bool×Aq)(hm:B5 a0 a1=some r):CO prog 120 [pt b0_ 0,vS a1] G R (Bk b0_ 193 [vI a0.most,vI a0.target,g0_.r.1]::rO (Aj.op g0_.r.2) g0_.r.1 a0.r::F)
  (Ret fun u R' L'=>∃(q0:Aq.G),u=vB r.1∧R'=R∧L'=Bk b0_ 193 [vI r.2.most,vI r.2.target,q0.r.1]::rO (Aj.op q0.r.2) q0.r.1 r.2.r::F):=by
 obtain ⟨⟨pv1,g2⟩⟩:=g0_
 unfold B5 at hm
 refine co_ofN (N:=15) func120 z z ?_
 refine csr (r_as z (nssr (r_mv z (r_mv z ?_))))
 obtain ⟨r3,hr3,hm4⟩:=bs hm
 refine r_c (s_w (o_call ca116 z (DL.ok b0_ a0 (⟨(pv1,g2)⟩:Aq.G) a1 _ hr3))) ?_
 refine r_u (o_not z) (nsq ?_)
 refine c_if (b := !r3) z (fun h5 =>?_) fun h5 =>?_
 ·have hm6:=ift hm4 h5
  refine csr (r_as z (r_nil (x_seq (c_ret ?_))))
  obtain rfl:=si hm6
  exact x_r1 z (rv_t z) le_ ⟨_,z,(⟨(pv1,g2)⟩:Aq.G),z,z,z⟩
 have hm6:=iff_ hm4 h5
 refine c_skip (x_seq (c_seq ?_))
 refine cd_st (fun _ h=>mv1 h) ?_
 refine cd_opt (fun ho9 =>?_) (fun x7 b8 ho9 =>?_)
 ·rintro rfl
  have hm10:=om_n hm6 ho9
  cases hm10
 rintro rfl
 have hm10:=om_s hm6 ho9
 refine cd_st (fun _ h=>st_star_o h) ?_
 refine c_reg (r_mv z (r_nc z (r_fa fa193_2 z (r_ld 5 sc191 z z z (r_mv z ?_)))))
 obtain ⟨r15,hr15,hm21⟩:=bs hm10
 refine r_sw (s_w (o_call ca163 z (Ax.ok b8 x7 g2 1 a1 _ hr15))) ?_
 rintro _ R _ _ ⟨g16,rfl,rfl,rfl⟩
 refine r_as z (r_nil (x_seq (c_ret ?_)))
 refine ex_st (fun _ h=>st_some (f:=Aj.op g16) (a:=r15.2) (st_star_f (A:=Aj.fl b8 r15.2 g16) h)) ?_
 obtain rfl:=si hm21
 refine ex_st (pk 2 [1,0]) ?_
 exact x_r1 z (rv_t z) le_ ⟨_,z,(⟨(pt b8 0,g16)⟩:Aq.G),z,z,z⟩
def Aw(a0:Aj)(a1:Int):Option Int :=
 if !(CK a0 a1) then some 0 else (gi a0.many a1).bind fun x6=>some x6
theorem Aw.ok{G R F}(b0_:Nat)(a0:Aj)(g0_:Aj.G)(a1:Int)(r:Int)(hm:Aw a0 a1=some r):CO prog 164 [pt b0_ 0,vI a1] G R (Bk b0_ 237 (Aj.k a0 g0_)::OwS true 240 4 Av.c g0_.slots a0.slots::OwS true 3 1 eI g0_.free a0.free::OwM vS vI g0_.at_ a0.at_::OwS true 3 1 eI g0_.many a0.many::F)
  (Ret fun u R' L'=>u=vI r∧R'=R∧L'=Bk b0_ 237 (Aj.k a0 g0_)::OwS true 240 4 Av.c g0_.slots a0.slots::OwS true 3 1 eI g0_.free a0.free::OwM vS vI g0_.at_ a0.at_::OwS true 3 1 eI g0_.many a0.many::F):=by
 unfold Aw at hm
 refine co_ofN (N:=16) func164 z z ?_
 refine csr (r_as z (nssr (r_mv z (r_mv z ?_))))
 refine r_c (s_w (o_call ca210 z (CK.ok b0_ a0 g0_ a1 _ z))) ?_
 refine r_u (o_not z) (nsq ?_)
 refine c_if (b := !(CK a0 a1)) z (fun h4 =>?_) fun h4 =>?_
 ·have hm5:=ift hm h4
  refine csr (r_as z (r_nil (x_seq (c_ret ?_))))
  obtain rfl:=si hm5
  exact x_r1 z (rv_t z) le_ ⟨_,z,z,z,z⟩
 have hm5:=iff_ hm h4
 refine c_skip (x_seq (csr (r_mv z (r_nc z (r_fa fa237_4 z (r_ld 0 sc234 z z z (r_mv z ?_)))))))
 obtain ⟨x6,hx6,hm7⟩:=bs hm5
 refine r_u (o_ixO 4 underlying234 kr z z z hx6) (r_u (o_ldO0 4 sc3 z z hx6 z z) (r_as z (r_nil (x_seq (c_ret ?_)))))
 obtain rfl:=si hm7
 exact x_r1 z (rv_t z) le_ ⟨_,z,z,z,z⟩
def Dn(a0:Int):D3 :=
 (⟨(if 1<(i64 (a0.tdiv 8)) then i64 (a0.tdiv 8) else 1),i64 ((i64 ((i64 (a0-(if 1<(i64 (a0.tdiv 8)) then i64 (a0.tdiv 8) else 1)))*4)).tdiv 5)⟩:D3)
theorem Dn.ok{G R F}(a0:Int)(r:D3)(hm:Dn a0=r):CO prog 165 [vI a0] G R (F)
  (Ret fun u R' L'=>u = .agg (D3.c r).toArray∧R'=R∧L'=F):=by
 unfold Dn at hm
 refine co_ofN (N:=14) func165 z z ?_
 refine csr ?_
 refine r_new (o_al ze243) fun b0 =>?_
 refine nsr (r_mv z (r_bin z z (bI_quo a0 8 (by decide)) ?_))
 refine r_u (o_maxI z z) (r_as z (nsr (r_mv z (r_mv z (r_mv z (r_bin z z (bI_sub a0 _) (r_u (o_bin z z (bI_mul _ 4)) (r_u (o_bin z z (bI_quo _ 5 (by decide))) ?_))))))))
 refine r_u (o_bld [vI (if 1<(i64 (a0.tdiv 8)) then i64 (a0.tdiv 8) else 1),vI (i64 ((i64 ((i64 (a0-(if 1<(i64 (a0.tdiv 8)) then i64 (a0.tdiv 8) else 1)))*4)).tdiv 5))] z kr) ?_
 refine r_u0 (o_stn ag243 z z z z z z z) (r_nil (x_seq (c_ret ?_)))
 subst hm
 exact x_d1 z (rv_n 0 [vI (if 1<(i64 (a0.tdiv 8)) then i64 (a0.tdiv 8) else 1),vI (i64 ((i64 ((i64 (a0-(if 1<(i64 (a0.tdiv 8)) then i64 (a0.tdiv 8) else 1)))*4)).tdiv 5))] ag243 z z z z) (pk 1 []) le_ ⟨_,z,z,z,z⟩
def AF(a0:Aj)(a1:Int):Option (Str×Bool) :=
 (Aw a0 a1).bind fun r4=>if (r4==0) then some ([],false) else (gi a0.slots a1).bind fun x8=>(gi a0.slots x8.prev).bind fun x10=>some (x10.key,true)
theorem AF.ok{G R F}(b0_:Nat)(a0:Aj)(g0_:Aj.G)(a1:Int)(r:Str×Bool)(hm:AF a0 a1=some r):CO prog 166 [pt b0_ 0,vI a1] G R (Bk b0_ 237 (Aj.k a0 g0_)::OwS true 240 4 Av.c g0_.slots a0.slots::OwS true 3 1 eI g0_.free a0.free::OwM vS vI g0_.at_ a0.at_::OwS true 3 1 eI g0_.many a0.many::F)
  (Ret fun u R' L'=>u = .tuple #[vS r.1,vB r.2]∧R'=R∧L'=Bk b0_ 237 (Aj.k a0 g0_)::OwS true 240 4 Av.c g0_.slots a0.slots::OwS true 3 1 eI g0_.free a0.free::OwM vS vI g0_.at_ a0.at_::OwS true 3 1 eI g0_.many a0.many::F):=by
 unfold AF at hm
 refine co_ofN (N:=25) func166 z z ?_
 refine csr (r_as z (r_as z (nssr (r_mv z (r_mv z ?_)))))
 obtain ⟨r4,hr4,hm5⟩:=bs hm
 refine r_c (s_w (o_call ca164 z (Aw.ok b0_ a0 g0_ a1 _ hr4))) ?_
 refine r_bin z z (bI_eq r4 0) (nsq ?_)
 refine c_if (b:=(r4==0)) z (fun h6 =>?_) fun h6 =>?_
 ·have hm7:=ift hm5 h6
  refine csr (r_as z (r_as z (r_nil (x_seq (c_ret ?_)))))
  obtain rfl:=si hm7
  exact x_r2 z (rv_t z) (rv_t z) le_ ⟨_,z,z,z,z⟩
 have hm7:=iff_ hm5 h6
 refine c_skip (x_seq (c_seq ?_))
 obtain ⟨x8,hx8,hm9⟩:=bs hm7
 obtain ⟨x10,hx10,hm11⟩:=bs hm9
 refine c_any mixed (effs:=[]) (V:=[]) ?_
 refine stn [0,1,3,7,0,16,48,112,0,496,1008,2032,4095,8191,16383,32767,65535] [0,1,2,3,4,5,6,7,8,9,10,11,12,13,14,15,16] [] [_,_,_,_,_,_,_,_,_,_,_,_,_,_,_,_,_] (q_mv z z z (q_u z z (o_nc z) (q_fa z z fa237_1 z (q_ld z z 0 sc233 z z z (q_mv z z z (q_u z z (o_nc z) (q_fa z z fa237_1 z (q_ld z z 0 sc233 z z z (q_mv z z z (q_u z z (o_ixO 1 underlying233 kr z z z hx8) (q_fa z z fa240_2 z (q_u z z (o_ldO 1 2 sc3 z z hx8 z z) (q_u z z (o_ixO 1 underlying233 kr z z z hx10) (q_fa z z fa240_0 z (q_u z z (o_ldO0 1 sc9 z z hx10 z z) (q_u z z (o_as z) (q_u z z (o_as z) qn))))))))))))))))) en ?_
 intro _
 refine ex_sub (E':=[(4,vS x10.key),(5,vB true)]) ⟨z,z,y_⟩ ?_
 refine x_seq (c_ret ?_)
 obtain rfl:=si hm11
 exact x_r2 z (rv_t z) (rv_t z) le_ ⟨_,z,z,z,z⟩
def C0(a0:Ao)(a1:Str):Option (Bool×Ao) :=
 (DM a0 a1).bind fun r6=>if !r6 then some (false,a0) else om a0.s (none) fun x10=>(B4 x10 a1).bind fun r16=>om a0.r (none) fun x18=>(BK x18 a1).bind fun r26=>if (r26.1==0) then (Ax x18 0 a1).bind fun r30=>some (r30.1,(⟨a0.most,(some r16),(some r30.2)⟩:Ao)) else (Ax x18 2 a1).bind fun r37=>(Aw r37.2 2).bind fun r44=>if decide (((Dn a0.most).Protected)<r44) then (AF r37.2 2).bind fun r48=>(Ax r37.2 1 r48.1).bind fun r50=>some (true,(⟨a0.most,(some r16),(some r50.2)⟩:Ao)) else some (true,(⟨a0.most,(some r16),(some r37.2)⟩:Ao))
theorem C0.ok{G R F}(b0_:Nat)(a0:Ao)(g0_:Ao.G)(a1:Str)(r:Bool×Ao)(hm:C0 a0 a1=some r):CO prog 121 [pt b0_ 0,vS a1] G R (Bk b0_ 196 [vI a0.most,g0_.s.1,g0_.r.1]::rO (An.op g0_.s.2) g0_.s.1 a0.s::rO (Aj.op g0_.r.2) g0_.r.1 a0.r::F)
  (Ret fun u R' L'=>∃(q0:Ao.G),u=vB r.1∧R'=R∧L'=Bk b0_ 196 [vI r.2.most,q0.s.1,q0.r.1]::rO (An.op q0.s.2) q0.s.1 r.2.s::rO (Aj.op q0.r.2) q0.r.1 r.2.r::F):=by
 obtain ⟨⟨pv1,g2⟩,⟨pv4,g5⟩⟩:=g0_
 unfold C0 at hm
 refine co_ofN (N:=68) func121 z z ?_
 refine csr (r_as z (nssr (r_mv z (r_mv z ?_))))
 obtain ⟨r6,hr6,hm7⟩:=bs hm
 refine r_c (s_w (o_call ca118 z (DM.ok b0_ a0 (⟨(pv1,g2),(pv4,g5)⟩:Ao.G) a1 _ hr6))) ?_
 refine r_u (o_not z) (nsq ?_)
 refine c_if (b := !r6) z (fun h8 =>?_) fun h8 =>?_
 ·have hm9:=ift hm7 h8
  refine csr (r_as z (r_nil (x_seq (c_ret ?_))))
  obtain rfl:=si hm9
  exact x_r1 z (rv_t z) le_ ⟨_,z,(⟨(pv1,g2),(pv4,g5)⟩:Ao.G),z,z,z⟩
 have hm9:=iff_ hm7 h8
 refine c_skip (x_seq (c_seq ?_))
 refine cd_st (fun _ h=>mv1 h) ?_
 refine cd_opt (fun ho12 =>?_) (fun x10 b11 ho12 =>?_)
 ·rintro rfl
  have hm13:=om_n hm9 ho12
  cases hm13
 rintro rfl
 have hm13:=om_s hm9 ho12
 refine cd_st (fun _ h=>st_star_o h) ?_
 refine c_reg (r_mv z (r_nc z (r_fa fa196_1 z (r_ld 3 sc194 z z z (r_mv z ?_)))))
 obtain ⟨r16,hr16,hm17⟩:=bs hm13
 refine r_c (s_w (o_call ca162 z (B4.ok b11 _ g2 a1 _ hr16))) ?_
 refine r_nil (x_seq (c_seq ?_))
 refine cd_st (fun _ h=>mv4 h) ?_
 refine cd_opt (fun ho20 =>?_) (fun x18 b19 ho20 =>?_)
 ·rintro rfl
  have hm21:=om_n hm17 ho20
  cases hm21
 rintro rfl
 have hm21:=om_s hm17 ho20
 refine cd_st (fun _ h=>st_star_o h) ?_
 refine c_reg (r_mv z (r_nc z (r_fa fa196_2 z (r_ld 8 sc191 z z z (r_mv z ?_)))))
 obtain ⟨r26,hr26,hm27⟩:=bs hm21
 refine r_c (s_w (o_call ca160 z (BK.ok b19 _ g5 a1 _ hr26))) ?_
 refine r_mv z (r_ext z z (r_ext z z (r_as z (r_as z (nssr (r_mv z (r_bin z z (bI_eq _ 0) (nsq ?_))))))))
 refine c_if (b:=(r26.1==0)) z (fun h28 =>?_) fun h28 =>?_
 ·have hm29:=ift hm27 h28
  refine csr (r_mv z (r_nc z (r_fa fa196_2 z (r_ld 8 sc191 z z z (r_mv z ?_)))))
  obtain ⟨r30,hr30,hm36⟩:=bs hm29
  refine r_sw (s_w (o_call ca163 z (Ax.ok b19 _ g5 0 a1 _ hr30))) ?_
  rintro _ R _ _ ⟨g31,rfl,rfl,rfl⟩
  refine r_as z (r_nil (x_seq (c_ret ?_)))
  refine ex_st (fun _ h=>mv7 (mv7 (mv7 h))) ?_
  refine ex_st (fun _ h=>st_some (f:=An.op g2) (a:=r16) (st_star_f (A:=An.fl b11 r16 g2) h)) ?_
  refine ex_st (fun _ h=>mv5 (mv5 (mv5 (mv5 (mv5 h))))) ?_
  refine ex_st (fun _ h=>st_some (f:=Aj.op g31) (a:=r30.2) (st_star_f (A:=Aj.fl b19 r30.2 g31) h)) ?_
  obtain rfl:=si hm36
  refine ex_st (pk 3 [2,1,0]) ?_
  exact x_r1 z (rv_t z) le_ ⟨_,z,(⟨(pt b11 0,g2),(pt b19 0,g31)⟩:Ao.G),z,z,z⟩
 have hm29:=iff_ hm27 h28
 refine c_skip (x_seq (csr (r_mv z (r_nc z (r_fa fa196_2 z (r_ld 8 sc191 z z z (r_mv z ?_)))))))
 obtain ⟨r37,hr37,hm43⟩:=bs hm29
 refine r_sw (s_w (o_call ca163 z (Ax.ok b19 _ g5 2 a1 _ hr37))) ?_
 rintro _ R _ _ ⟨g38,rfl,rfl,rfl⟩
 refine r_nil (x_seq (c_seq (c_seq ?_)))
 obtain ⟨r44,hr44,hm45⟩:=bs hm43
 refine c_any mixed (effs:=[]) (V:=[]) ?_
 refine stn mk40_ [0,1,2,3,4,5,6,7,8,9,10,11] [] [_,_,_,_,_,_,_,_,_,_,_,_] (q_mv z z z (q_u z z (o_nc z) (q_fa z z fa196_2 z (q_ld z z 8 sc191 z z z (q_u z z (o_callqP ca164 z (Aw.ok b19 _ g38 2 _ hr44) id_ id_) (q_mv z z z (q_u z z (o_nc z) (q_fa z z fa196_0 z (q_ld z z 8 sc3 z z z (q_u z z (o_callq ca165 z (Dn.ok a0.most _ z)) (q_u z z (o_fd (v:=vI ((Dn a0.most).Protected)) z kr) (q_u z z (o_bin z z (bI_gt _ _)) qn)))))))))))) en ?_
 intro _
 refine ex_sub (E':=[(0,pt b0_ 0),(53,vB (decide (((Dn a0.most).Protected)<r44)))]) ⟨z,z,y_⟩ ?_
 refine x_seq ?_
 refine c_if (b:=decide (((Dn a0.most).Protected)<r44)) z (fun h46 =>?_) fun h46 =>?_
 rotate_left
 ·have hm47:=iff_ hm45 h46
  refine c_skip (x_seq (csr (r_as z (r_nil (x_seq (c_ret ?_))))))
  refine ex_st (fun _ h=>mv7 (mv7 (mv7 h))) ?_
  refine ex_st (fun _ h=>st_some (f:=An.op g2) (a:=r16) (st_star_f (A:=An.fl b11 r16 g2) h)) ?_
  refine ex_st (fun _ h=>mv5 (mv5 (mv5 (mv5 (mv5 h))))) ?_
  refine ex_st (fun _ h=>st_some (f:=Aj.op g38) (a:=r37.2) (st_star_f (A:=Aj.fl b19 r37.2 g38) h)) ?_
  obtain rfl:=si hm47
  refine ex_st (pk 3 [2,1,0]) ?_
  exact x_r1 z (rv_t z) le_ ⟨_,z,(⟨(pt b11 0,g2),(pt b19 0,g38)⟩:Ao.G),z,z,z⟩
 have hm47:=ift hm45 h46
 refine csr (r_mv z (r_nc z (r_fa fa196_2 z (r_ld 8 sc191 z z z ?_))))
 obtain ⟨r48,hr48,hm49⟩:=bs hm47
 refine r_c (s_w (o_call ca166 z (AF.ok b19 _ g38 2 _ hr48))) ?_
 refine r_mv z (r_ext z z (r_ext z z (r_as z (r_as z (r_nil (x_seq (c_reg (r_mv z (r_nc z (r_fa fa196_2 z (r_ld 8 sc191 z z z (r_mv z ?_))))))))))))
 obtain ⟨r50,hr50,hm56⟩:=bs hm49
 refine r_sw (s_w (o_call ca163 z (Ax.ok b19 _ g38 1 _ _ hr50))) ?_
 rintro _ R _ _ ⟨g51,rfl,rfl,rfl⟩
 refine nsr (r_as z (r_nil (x_seq (c_ret ?_))))
 refine ex_st (fun _ h=>mv7 (mv7 (mv7 h))) ?_
 refine ex_st (fun _ h=>st_some (f:=An.op g2) (a:=r16) (st_star_f (A:=An.fl b11 r16 g2) h)) ?_
 refine ex_st (fun _ h=>mv5 (mv5 (mv5 (mv5 (mv5 h))))) ?_
 refine ex_st (fun _ h=>st_some (f:=Aj.op g51) (a:=r50.2) (st_star_f (A:=Aj.fl b19 r50.2 g51) h)) ?_
 obtain rfl:=si hm56
 refine ex_st (pk 3 [2,1,0]) ?_
 exact x_r1 z (rv_t z) le_ ⟨_,z,(⟨(pt b11 0,g2),(pt b19 0,g51)⟩:Ao.G),z,z,z⟩
def BZ(a0:Ah)(a1:Str):Option (Bool×Ah) :=
 if ((AA a0)==1) then om a0.a (none) fun x8=>(B5 x8 a1).bind fun r15=>some (r15.1,(⟨a0.kind,(some r15.2),a0.t⟩:Ah)) else if ((AA a0)==2) then om a0.t (none) fun x23=>(C0 x23 a1).bind fun r33=>some (r33.1,(⟨a0.kind,a0.a,(some r33.2)⟩:Ah)) else some (false,a0)
theorem BZ.ok{G R F}(b0_:Nat)(a0:Ah)(g0_:Ah.G)(a1:Str)(r:Bool×Ah)(hm:BZ a0 a1=some r):CO prog 71 [pt b0_ 0,vS a1] G R (Bk b0_ 144 [vI a0.kind,g0_.a.1,g0_.t.1]::rO (Aq.op g0_.a.2) g0_.a.1 a0.a::rO (Ao.op g0_.t.2) g0_.t.1 a0.t::F)
  (Ret fun u R' L'=>∃(q0:Ah.G),u=vB r.1∧R'=R∧L'=Bk b0_ 144 [vI r.2.kind,q0.a.1,q0.t.1]::rO (Aq.op q0.a.2) q0.a.1 r.2.a::rO (Ao.op q0.t.2) q0.t.1 r.2.t::F):=by
 obtain ⟨⟨pv1,g2⟩,⟨pv4,g5⟩⟩:=g0_
 unfold BZ at hm
 refine co_ofN (N:=23) func71 z z ?_
 refine csr (r_as z (nssr (r_mv z ?_)))
 refine r_c (s_w (o_call ca67 z (AA.ok b0_ a0 (⟨(pv1,g2),(pv4,g5)⟩:Ah.G) _ z))) ?_
 refine r_nil (x_seq (c_blk (csr (r_bin z z (bI_eq _ 1) (r_as z (nsq ?_))))))
 refine c_if (b:=((AA a0)==1)) z (fun h6 =>?_) fun h6 =>?_
 ·have hm7:=ift hm h6
  refine c_seq ?_
  refine cd_st (fun _ h=>mv1 h) ?_
  refine cd_opt (fun ho10 =>?_) (fun x8 b9 ho10 =>?_)
  ·rintro rfl
   have hm11:=om_n hm7 ho10
   cases hm11
  rintro rfl
  have hm11:=om_s hm7 ho10
  obtain ⟨⟨pv13,g14⟩⟩:=g2
  refine cd_st (fun _ h=>st_star_o h) ?_
  refine c_reg (r_mv z (r_nc z (r_fa fa144_1 z (r_ld 2 sc141 z z z (r_mv z ?_)))))
  obtain ⟨r15,hr15,hm20⟩:=bs hm11
  refine r_sw (s_w (o_call ca120 z (B5.ok b9 x8 (⟨(pv13,g14)⟩:Aq.G) a1 _ hr15))) ?_
  rintro _ R _ _ ⟨⟨⟨pv18,g19⟩⟩,rfl,rfl,rfl⟩
  refine r_as z (r_nil (x_seq (c_ret ?_)))
  refine ex_st (fun _ h=>st_some (f:=Aq.op (⟨(pv18,g19)⟩:Aq.G)) (a:=r15.2) (st_star_f (A:=Aq.fl b9 r15.2 (⟨(pv18,g19)⟩:Aq.G)) h)) ?_
  obtain rfl:=si hm20
  refine ex_st (pk 3 [1,0,2]) ?_
  exact x_r1 z (rv_t z) le_ ⟨_,z,(⟨(pt b9 0,(⟨(pv18,g19)⟩:Aq.G)),(pv4,g5)⟩:Ah.G),z,z,z⟩
 have hm7:=iff_ hm h6
 refine csr (r_bin z z (bI_eq _ 2) (r_as z (nsq ?_)))
 refine c_if (b:=((AA a0)==2)) z (fun h21 =>?_) fun h21 =>?_
 rotate_left
 ·have hm22:=iff_ hm7 h21
  refine c_skip (x_blk (x_seq (csr (r_as z (r_nil (x_seq (c_ret ?_)))))))
  obtain rfl:=si hm22
  exact x_r1 z (rv_t z) le_ ⟨_,z,(⟨(pv1,g2),(pv4,g5)⟩:Ah.G),z,z,z⟩
 have hm22:=ift hm7 h21
 refine c_seq ?_
 refine cd_st (fun _ h=>mv2 h) ?_
 refine cd_opt (fun ho25 =>?_) (fun x23 b24 ho25 =>?_)
 ·rintro rfl
  have hm26:=om_n hm22 ho25
  cases hm26
 rintro rfl
 have hm26:=om_s hm22 ho25
 obtain ⟨⟨pv28,g29⟩,⟨pv31,g32⟩⟩:=g5
 refine cd_st (fun _ h=>st_star_o h) ?_
 refine c_reg (r_mv z (r_nc z (r_fa fa144_2 z (r_ld 3 sc142 z z z (r_mv z ?_)))))
 obtain ⟨r33,hr33,hm41⟩:=bs hm26
 refine r_sw (s_w (o_call ca121 z (C0.ok b24 _ (⟨(pv28,g29),(pv31,g32)⟩:Ao.G) a1 _ hr33))) ?_
 rintro _ R _ _ ⟨⟨⟨pv36,g37⟩,⟨pv39,g40⟩⟩,rfl,rfl,rfl⟩
 refine r_as z (r_nil (x_seq (c_ret ?_)))
 refine ex_st (fun _ h=>st_some (f:=Ao.op (⟨(pv36,g37),(pv39,g40)⟩:Ao.G)) (a:=r33.2) (st_star_f (A:=Ao.fl b24 r33.2 (⟨(pv36,g37),(pv39,g40)⟩:Ao.G)) h)) ?_
 obtain rfl:=si hm41
 refine ex_st (pk 3 [1,2,0]) ?_
 exact x_r1 z (rv_t z) le_ ⟨_,z,(⟨(pv1,g2),(pt b24 0,(⟨(pv36,g37),(pv39,g40)⟩:Ao.G))⟩:Ah.G),z,z,z⟩
def C2(a0:Am)(a1:Ai):Am :=
 lt (A9 a0 a1.Key) fun r2=>(⟨mput r2.2.m a1.Key a1,i64 (r2.2.bytes+(D0 a1))⟩:Am)
theorem C2.ok{G R F}(b0_:Nat)(a0:Am)(g0_:Am.G)(a1:Ai)(r:Am)(hm:C2 a0 a1=r):CO prog 122 [pt b0_ 0,.agg (Ai.c a1).toArray] G R (Bk b0_ 138 [g0_.m,vI a0.bytes]::OwM vS Ai.v g0_.m a0.m::F)
  (Ret fun u R' L'=>u = .tuple #[]∧R'=R∧L'=Bk b0_ 138 [g0_.m,vI r.bytes]::OwM vS Ai.v g0_.m r.m::F):=by
 unfold C2 at hm
 refine co_ofN (N:=26) func122 z z ?_
 refine csr ?_
 refine r_new (o_bx (Ai.c a1) z z) fun b1 =>?_
 refine nsr (r_mv z (r_bin z z (bP_nep underlying92) (nsq ?_)))
 refine c_tt z ?_
 refine csr (r_mv z (r_fa fa50_0 z (r_ld 0 sc9 z z z ?_)))
 obtain ⟨r2,hr2,hm3⟩:=ltx hm
 refine rl_st (fun _ h=>mv2 (mv2 h)) ?_
 refine r_c (s_w (o_call ca36 z (A9.ok b0_ a0 g0_ _ _ hr2))) ?_
 refine r_nil (x_seq (c_seq ?_))
 refine c_any mixed (effs:=[7]) (V:=[]) ?_
 refine stage_st (fun _ h=>mv1 h) ?_
 refine stn mk29_ [0,1,2,3,4,5,6] [7] [_,_,_,_,_,_,_] (q_mv z z z (q_u z z (o_nc z) (q_fa z z fa138_0 z (q_ld z z 1 sc136 z z z (q_fa z z fa50_0 z (q_ld z z 2 sc9 z z z (q_u z z (o_ldn 2 (Ai.c a1) ag50 z z z z) qn))))))) ?_ (nxt z)
 refine ec (eo_u z (s_u (o_mu (kv:=vS) (vv:=Ai.v) (key:=a1.Key) (val:=a1) underlying136 (kok_S underlying9) z z z z)) le_ ?_) en
 refine stage z z z z mk29_ [] [] z z z qn en ?_
 intro _
 refine ex_sub (E':=[(0,pt b0_ 0),(3,pt b1 0)]) ⟨z,z,y_⟩ ?_
 refine x_seq ?_
 refine c_any mixed (effs:=[9]) (V:=[]) ?_
 refine stage_st (fun _ h=>mv1 h) ?_
 refine stn mk39_ [0,1,2,3,4,5,6,7,8] [9] [_,_,_,_,_,_,_,_,_] (q_mv z z z (q_u z z (o_nc z) (q_fa z z fa138_1 z (q_ld z z 0 sc3 z z z (q_u z z (o_ldn 2 (Ai.c a1) ag50 z z z z) (q_u z z (o_callq ca66 z (D0.ok a1 _ z)) (q_u z z (o_bin z z (bI_add _ _)) (q_u z z (o_nc z) (q_fa z z fa138_1 z qn))))))))) ?_ (nxt z)
 refine ec (eo_u z (s_u (o_st sc3 z z z z z z)) le_ ?_) en
 refine stage z z z z mk39_ [] [] z z z qn en ?_
 intro _
 refine ex_sub (E':=[]) trivial ?_
 refine x_end ?_
 subst hm3
 refine ex_st (pk 3 [0,1]) ?_
 exact x_r0 z le_ ⟨_,z,z,z,z⟩
def CG(a0:Aq):Option Int :=
 om a0.r (none) fun x3=>(Aw x3 0).bind fun r11=>(Aw x3 1).bind fun r13=>some (i64 (r11+r13))
theorem CG.ok{G R F}(b0_:Nat)(a0:Aq)(g0_:Aq.G)(r:Int)(hm:CG a0=some r):CO prog 157 [pt b0_ 0] G R (Bk b0_ 193 [vI a0.most,vI a0.target,g0_.r.1]::rO (Aj.op g0_.r.2) g0_.r.1 a0.r::F)
  (Ret fun u R' L'=>u=vI r∧R'=R∧L'=Bk b0_ 193 [vI a0.most,vI a0.target,g0_.r.1]::rO (Aj.op g0_.r.2) g0_.r.1 a0.r::F):=by
 obtain ⟨⟨pv1,g2⟩⟩:=g0_
 unfold CG at hm
 refine co_ofN (N:=16) func157 z z ?_
 refine csr (r_as z (nssr (r_mv z (r_bin z z (bP_eqp underlying141) (nsq (c_ff z (c_skip (x_seq (c_seq ?_)))))))))
 refine cd_st (fun _ h=>mv1 h) ?_
 refine cd_opt (fun ho5 =>?_) (fun x3 b4 ho5 =>?_)
 ·rintro rfl
  have hm6:=om_n hm ho5
  cases hm6
 rintro rfl
 have hm6:=om_s hm ho5
 refine cd_st (fun _ h=>st_star_o h) ?_
 obtain ⟨r11,hr11,hm12⟩:=bs hm6
 obtain ⟨r13,hr13,hm14⟩:=bs hm12
 refine c_any mixed (effs:=[]) (V:=[]) ?_
 refine stn mk40_ [0,1,2,3,4,5,6,7,8,9,10,11] [] [_,_,_,_,_,_,_,_,_,_,_,_] (q_mv z z z (q_u z z (o_nc z) (q_fa z z fa193_2 z (q_ld z z 5 sc191 z z z (q_u z z (o_callqP ca164 z (Aw.ok b4 x3 g2 0 _ hr11) id_ id_) (q_mv z z z (q_u z z (o_nc z) (q_fa z z fa193_2 z (q_ld z z 5 sc191 z z z (q_u z z (o_callqP ca164 z (Aw.ok b4 x3 g2 1 _ hr13) id_ id_) (q_u z z (o_bin z z (bI_add _ _)) (q_u z z (o_as z) qn)))))))))))) en ?_
 intro _
 refine ex_sub (E':=[(2,vI (i64 (r11+r13)))]) ⟨z,y_⟩ ?_
 refine x_seq (c_ret ?_)
 refine ex_st (fun _ h=>st_some (f:=Aj.op g2) (a:=x3) (st_star_f (A:=Aj.fl b4 x3 g2) h)) ?_
 refine ex_st (fun _ h=>st_back ho5 h) ?_
 obtain rfl:=si hm14
 refine ex_st (pk 2 [1,0]) ?_
 exact x_r1 z (rv_t z) le_ ⟨_,z,z,z,z⟩
def Bq(a0:Aq)(a1:Bool):Option (List Str×Aq) :=
 om a0.r (none) fun x3=>(Aw x3 0).bind fun r11=>Option.bind (if decide (0<r11) then Option.bind (if (decide (a0.target<r11)||(a1&&(r11==a0.target))) then some true else (Aw x3 1).bind fun r43=>some (r43==0)) fun p37=>some p37 else some false) fun p13=>Option.bind (if p13 then some (0,2) else some (1,3)) fun p17=>(AF x3 p17.1).bind fun r21=>if !r21.2 then some ([],a0) else (Ax x3 p17.2 r21.1).bind fun r25=>some ([r21.1],(⟨a0.most,a0.target,(some r25.2)⟩:Aq))
theorem Bq.ok{G R F}(b0_:Nat)(a0:Aq)(g0_:Aq.G)(a1:Bool)(r:List Str×Aq)(hm:Bq a0 a1=some r):CO prog 214 [pt b0_ 0,vB a1] G R (Bk b0_ 193 [vI a0.most,vI a0.target,g0_.r.1]::rO (Aj.op g0_.r.2) g0_.r.1 a0.r::F)
  (Ret fun u R' L'=>∃(p0:Value) (q0:Aq.G),u=p0∧R'=R∧L'=OwS true 9 1 eS p0 r.1::Bk b0_ 193 [vI r.2.most,vI r.2.target,q0.r.1]::rO (Aj.op q0.r.2) q0.r.1 r.2.r::F):=by
 obtain ⟨⟨pv1,g2⟩⟩:=g0_
 unfold Bq at hm
 refine co_ofN (N:=64) func214 z z ?_
 refine csr (r_as z (nsr (r_as z (r_as z (r_nil (x_seq (c_seq (c_seq ?_))))))))
 refine cd_st (fun _ h=>mv1 h) ?_
 refine cd_opt (fun ho5 =>?_) (fun x3 b4 ho5 =>?_)
 ·rintro rfl
  have hm6:=om_n hm ho5
  cases hm6
 rintro rfl
 have hm6:=om_s hm ho5
 refine cd_st (fun _ h=>st_star_o h) ?_
 refine c_reg (r_mv z (r_nc z (r_fa fa193_2 z (r_ld 5 sc191 z z z ?_))))
 obtain ⟨r11,hr11,hm12⟩:=bs hm6
 refine r_c (s_w (o_call ca164 z (Aw.ok b4 x3 g2 0 _ hr11))) ?_
 refine r_as z (r_nil (x_seq (c_seq ?_)))
 obtain ⟨p13,hp14,hm15⟩:=bs hm12
 refine cd_join (E':=[(0,pt b0_ 0),(5,vI 1),(6,vI 3),(43,vB p13)]) (L':=Bk b4 237 (Aj.k x3 g2)::Bk b0_ 193 [vI a0.most,vI a0.target,pt b4 0]::OwS true 240 4 Av.c g2.slots x3.slots::OwS true 3 1 eI g2.free x3.free::OwM vS vI g2.at_ x3.at_::OwS true 3 1 eI g2.many x3.many::F) ?_ fun K16 =>?_
 ·refine x_seq ?_
  obtain ⟨p17,hp18,hm19⟩:=bs hm15
  refine cd_join (E':=[(0,pt b0_ 0),(5,vI p17.1),(6,vI p17.2)]) (L':=Bk b4 237 (Aj.k x3 g2)::Bk b0_ 193 [vI a0.most,vI a0.target,pt b4 0]::OwS true 240 4 Av.c g2.slots x3.slots::OwS true 3 1 eI g2.free x3.free::OwM vS vI g2.at_ x3.at_::OwS true 3 1 eI g2.many x3.many::F) ?_ fun K20 =>?_
  rotate_left
  ·refine c_if (b:=p13) z (fun h33 =>?_) fun h33 =>?_
   ·have hm34:=ift hp18 h33
    refine c_reg (r_as z (r_as z (r_nil ?_)))
    obtain rfl:=si hm34
    exact x_sub K20 ⟨z,z,z,y_⟩ id_
   have hm34:=iff_ hp18 h33
   refine c_skip ?_
   obtain rfl:=si hm34
   exact x_sub K20 ⟨z,z,z,y_⟩ id_
  refine x_seq (csr (r_mv z (r_nc z (r_fa fa193_2 z (r_ld 1 sc191 z z z (r_mv z ?_))))))
  obtain ⟨r21,hr21,hm22⟩:=bs hm19
  refine rl_st (fun _ h=>mv4 (mv5 (mv5 (mv5 (mv5 h))))) ?_
  refine r_c (s_w (o_call ca166 z (AF.ok b4 x3 g2 _ _ hr21))) ?_
  refine r_mv z (r_ext z z (r_ext z z (r_as z (r_as z (nssr (r_mv z ?_))))))
  refine r_u (o_not z) (nsq ?_)
  refine c_if (b := !r21.2) z (fun h23 =>?_) fun h23 =>?_
  ·have hm24:=ift hm22 h23
   refine csr (r_as z (r_nil (x_seq (c_ret ?_))))
   refine ex_st (fun _ h=>st_nil (ap:=true) (T:=9) (sz:=1) (en:=eS) h) ?_
   refine ex_st (fun _ h=>mv5 (mv5 (mv5 (mv5 (mv5 h))))) ?_
   refine ex_st (fun _ h=>st_some (f:=Aj.op g2) (a:=x3) (st_star_f (A:=Aj.fl b4 x3 g2) h)) ?_
   refine ex_st (fun _ h=>st_back ho5 h) ?_
   obtain rfl:=si hm24
   refine ex_st (pk 3 [1,2,0]) ?_
   exact x_r1 z (rv_t z) le_ ⟨_,z,(.slice none 0 0),(⟨(pt b4 0,g2)⟩:Aq.G),z,z,z⟩
  have hm24:=iff_ hm22 h23
  refine c_skip (x_seq (csr (r_mv z (r_nc z (r_fa fa193_2 z (r_ld 5 sc191 z z z (r_mv z (r_mv z ?_))))))))
  obtain ⟨r25,hr25,hm31⟩:=bs hm24
  refine r_sw (s_w (o_call ca163 z (Ax.ok b4 x3 g2 _ _ _ hr25))) ?_
  rintro _ R _ _ ⟨g26,rfl,rfl,rfl⟩
  refine nsr (r_mv z ?_)
  refine r_sw (s_w (o_bsl (en:=eS) (sz:=1) (e:=9) (cs:=[vS r21.1]) (r:=[r21.1]) z kr z (by decide) z (fun _=>z))) ?_
  rintro v32 R _ _ ⟨rfl,rfl⟩
  refine r_as z (r_nil (x_seq (c_ret ?_)))
  refine ex_st (fun _ h=>mv5 (mv5 (mv5 (mv5 (mv5 h))))) ?_
  refine ex_st (fun _ h=>st_some (f:=Aj.op g26) (a:=r25.2) (st_star_f (A:=Aj.fl b4 r25.2 g26) h)) ?_
  obtain rfl:=si hm31
  refine ex_st (pk 3 [1,2,0]) ?_
  exact x_r1 z (rv_t z) le_ ⟨_,z,v32,(⟨(pt b4 0,g26)⟩:Aq.G),z,z,z⟩
 refine cd_by (decide (0<r11)) (fun h35 =>?_) fun h35 =>?_
 rotate_left
 ·have hm36:=iff_ hp14 h35
  refine c_reg (r_mv z (r_bin z z (bI_gt _ 0) (r_mv z ?_)))
  refine r_s (s_n z z h35) ?_
  refine r_s (s_n z z h35) ?_
  refine r_s (s_n z z h35) ?_
  refine r_s (s_n z z h35) ?_
  refine r_s (s_n z z h35) ?_
  refine r_s (s_n z z h35) ?_
  refine r_s (s_n z z h35) ?_
  refine r_s (s_nu z z) ?_
  refine r_s (s_nu z z) ?_
  refine r_s (s_nu z z) ?_
  refine r_s (s_nu z z) ?_
  refine r_s (s_nu z z) ?_
  refine r_s (s_nu z z) ?_
  refine r_s (s_nu z z) ?_
  refine r_s (s_nu z z) ?_
  refine r_s (s_nu z z) ?_
  refine r_s (s_n z z h35) ?_
  refine r_s (s_n z z h35) ?_
  refine r_s (s_nu z z) ?_
  refine r_s (s_nu z z) ?_
  refine r_s (s_nu z z) ?_
  refine r_s (s_nu z z) ?_
  refine r_s (s_nu z z) ?_
  refine r_s (s_nu z z) ?_
  refine r_s (s_n z z h35) ?_
  refine r_u (o_pf z h35 z) (r_nil ?_)
  obtain rfl:=si hm36
  exact x_sub K16 ⟨z,z,z,z,y_⟩ (pk 6 [0,5,1,2,3,4])
 have hm36:=ift hp14 h35
 obtain ⟨p37,hp38,hm39⟩:=bs hm36
 refine cd_join (E':=[(0,pt b0_ 0),(5,vI 1),(6,vI 3),(43,vB p37)]) (L':=Bk b4 237 (Aj.k x3 g2)::Bk b0_ 193 [vI a0.most,vI a0.target,pt b4 0]::OwS true 240 4 Av.c g2.slots x3.slots::OwS true 3 1 eI g2.free x3.free::OwM vS vI g2.at_ x3.at_::OwS true 3 1 eI g2.many x3.many::F) ?_ fun K40 =>?_
 ·obtain rfl:=si hm39
  exact x_sub K16 ⟨z,z,z,z,y_⟩ id_
 refine cd_by (decide (a0.target<r11)||(a1&&(r11==a0.target))) (fun h41 =>?_) fun h41 =>?_
 ·have hm42:=ift hp38 h41
  refine c_reg (r_mv z (r_bin z z (bI_gt _ 0) (r_mv z ?_)))
  refine r_s (s_y z z h35 (o_mv z)) ?_
  refine r_s (s_y z z h35 (o_mv z)) ?_
  refine r_s (s_y z z h35 (o_nc z)) ?_
  refine r_s (s_y z z h35 (o_fa fa193_1 z)) ?_
  refine r_s (s_y z z h35 (o_ld 5 sc3 z z z)) ?_
  refine r_s (s_y z z h35 (o_bin z z (bI_gt _ _))) ?_
  refine r_s (s_y z z h35 (o_mv z)) ?_
  refine r_s (s_gf z z fun g=>o_mv z) ?_
  refine r_s (s_gf z z fun g=>o_mv (evg z g)) ?_
  refine r_s (s_ggt z z fun g=>o_mv z) ?_
  refine r_s (s_ggt z z fun g=>o_mv z) ?_
  refine r_s (s_ggt z z fun g=>o_nc (evg z g)) ?_
  refine r_s (s_ggt z z fun g=>o_fa fa193_1 (evg z g)) ?_
  refine r_s (s_ggt z z fun g=>o_ld 5 sc3 (evg z g) z z) ?_
  refine r_s (s_ggt z z fun g=>o_bin (evg z g) (evg z g) (bI_eq _ _)) ?_
  refine r_s (s_gf z z fun g=>o_and (evg z g) (evg2 z g)) ?_
  refine r_s (s_y z z h35 (o_or z z)) ?_
  refine r_s (s_y z z h35 (o_mv z)) ?_
  refine r_s (s_n z z h41) ?_
  refine r_s (s_n z z h41) ?_
  refine r_s (s_n z z h41) ?_
  refine r_s (s_n z z h41) ?_
  refine r_s (s_n z z h41) ?_
  refine r_s (s_n z z h41) ?_
  refine r_s (s_y z z h35 (o_pt z h41 z)) ?_
  refine r_u (o_pt z h35 z) (r_nil ?_)
  obtain rfl:=si hm42
  exact x_sub K40 ⟨z,z,z,z,y_⟩ (pk 6 [0,5,1,2,3,4])
 have hm42:=iff_ hp38 h41
 refine c_reg (r_mv z (r_bin z z (bI_gt _ 0) (r_mv z ?_)))
 refine r_s (s_y z z h35 (o_mv z)) ?_
 refine r_s (s_y z z h35 (o_mv z)) ?_
 refine r_s (s_y z z h35 (o_nc z)) ?_
 refine r_s (s_y z z h35 (o_fa fa193_1 z)) ?_
 refine r_s (s_y z z h35 (o_ld 5 sc3 z z z)) ?_
 refine r_s (s_y z z h35 (o_bin z z (bI_gt _ _))) ?_
 refine r_s (s_y z z h35 (o_mv z)) ?_
 refine r_s (s_gf z z fun g=>o_mv z) ?_
 refine r_s (s_gf z z fun g=>o_mv (evg z g)) ?_
 refine r_s (s_ggt z z fun g=>o_mv z) ?_
 refine r_s (s_ggt z z fun g=>o_mv z) ?_
 refine r_s (s_ggt z z fun g=>o_nc (evg z g)) ?_
 refine r_s (s_ggt z z fun g=>o_fa fa193_1 (evg z g)) ?_
 refine r_s (s_ggt z z fun g=>o_ld 5 sc3 (evg z g) z z) ?_
 refine r_s (s_ggt z z fun g=>o_bin (evg z g) (evg z g) (bI_eq _ _)) ?_
 refine r_s (s_gf z z fun g=>o_and (evg z g) (evg2 z g)) ?_
 refine r_s (s_y z z h35 (o_or z z)) ?_
 refine r_s (s_y z z h35 (o_mv z)) ?_
 refine r_s (s_y z z h41 (o_mv z)) ?_
 refine r_s (s_y z z h41 (o_nc z)) ?_
 refine r_s (s_y z z h41 (o_fa fa193_2 z)) ?_
 refine r_s (s_y z z h41 (o_ld 5 sc191 z z z)) ?_
 obtain ⟨r43,hr43,hm44⟩:=bs hm42
 refine r_c (s_yw z z h41 (o_call ca164 z (Aw.ok b4 x3 g2 1 _ hr43))) ?_
 refine r_s (s_y z z h41 (o_bin z z (bI_eq _ 0))) ?_
 refine r_s (s_y z z h35 (o_pf z h41 z)) ?_
 refine r_u (o_pt z h35 z) (r_nil ?_)
 obtain rfl:=si hm44
 exact x_sub K40 ⟨z,z,z,z,y_⟩ (pk 6 [0,5,1,2,3,4])
def DN(a0:Aq)(a1:Str)(a2:Int):Option (List Str×Aq) :=
 om a0.r (none) fun x3=>(Aw x3 2).bind fun r11=>(Aw x3 3).bind fun r13=>Option.bind (if (a2==2) then if r11≠0 then some (if (i64 (a0.target+(if 1<(i64 (r13.tdiv r11)) then i64 (r13.tdiv r11) else 1)))<a0.most then i64 (a0.target+(if 1<(i64 (r13.tdiv r11)) then i64 (r13.tdiv r11) else 1)) else a0.most) else none else if r13≠0 then some (if 0<(i64 (a0.target-(if 1<(i64 (r11.tdiv r13)) then i64 (r11.tdiv r13) else 1))) then i64 (a0.target-(if 1<(i64 (r11.tdiv r13)) then i64 (r11.tdiv r13) else 1)) else 0) else none) fun p15=>(CG (⟨a0.most,p15,(some x3)⟩:Aq)).bind fun r19=>Option.bind (if decide (a0.most≤r19) then (Bq (⟨a0.most,p15,(some x3)⟩:Aq) (a2==3)).bind fun r47=>some (r47.1,r47.2) else some ([],(⟨a0.most,p15,(some x3)⟩:Aq))) fun p21=>om p21.2.r (none) fun x30=>(Ax x30 1 a1).bind fun r38=>some (p21.1,(⟨p21.2.most,p21.2.target,(some r38.2)⟩:Aq))
theorem DN.ok{G R F}(b0_:Nat)(a0:Aq)(g0_:Aq.G)(a1:Str)(a2:Int)(r:List Str×Aq)(hm:DN a0 a1 a2=some r):CO prog 212 [pt b0_ 0,vS a1,vI a2] G R (Bk b0_ 193 [vI a0.most,vI a0.target,g0_.r.1]::rO (Aj.op g0_.r.2) g0_.r.1 a0.r::F)
  (Ret fun u R' L'=>∃(p0:Value) (q0:Aq.G),u=p0∧R'=R∧L'=OwS true 9 1 eS p0 r.1::Bk b0_ 193 [vI r.2.most,vI r.2.target,q0.r.1]::rO (Aj.op q0.r.2) q0.r.1 r.2.r::F):=by
 obtain ⟨⟨pv1,g2⟩⟩:=g0_
 unfold DN at hm
 refine co_ofN (N:=70) func212 z z ?_
 refine csr (r_as z (r_nil (x_seq (c_seq ?_))))
 refine cd_st (fun _ h=>mv1 h) ?_
 refine cd_opt (fun ho5 =>?_) (fun x3 b4 ho5 =>?_)
 ·rintro rfl
  have hm6:=om_n hm ho5
  cases hm6
 rintro rfl
 have hm6:=om_s hm ho5
 refine cd_st (fun _ h=>st_star_o h) ?_
 obtain ⟨r11,hr11,hm12⟩:=bs hm6
 obtain ⟨r13,hr13,hm14⟩:=bs hm12
 refine c_any mixed (effs:=[]) (V:=[]) ?_
 refine stn mk40_ [0,1,2,3,4,5,6,7,8,9,10,11] [] [_,_,_,_,_,_,_,_,_,_,_,_] (q_mv z z z (q_u z z (o_nc z) (q_fa z z fa193_2 z (q_ld z z 5 sc191 z z z (q_u z z (o_callqP ca164 z (Aw.ok b4 x3 g2 2 _ hr11) id_ id_) (q_mv z z z (q_u z z (o_nc z) (q_fa z z fa193_2 z (q_ld z z 5 sc191 z z z (q_u z z (o_callqP ca164 z (Aw.ok b4 x3 g2 3 _ hr13) id_ id_) (q_u z z (o_as z) (q_u z z (o_as z) qn)))))))))))) en ?_
 intro _
 refine ex_sub (E':=[(0,pt b0_ 0),(1,vS a1),(2,vI a2),(7,vI r11),(8,vI r13)]) ⟨z,z,z,z,z,y_⟩ ?_
 refine x_seq (c_seq (csr (r_mv z (r_bin z z (bI_eq a2 2) (nsq ?_)))))
 obtain ⟨p15,hp16,hm17⟩:=bs hm14
 refine cd_join (E':=[(0,pt b0_ 0),(1,vS a1),(2,vI a2)]) (L':=Bk b0_ 193 [vI a0.most,vI p15,pt b4 0]::Bk b4 237 (Aj.k x3 g2)::OwS true 240 4 Av.c g2.slots x3.slots::OwS true 3 1 eI g2.free x3.free::OwM vS vI g2.at_ x3.at_::OwS true 3 1 eI g2.many x3.many::F) ?_ fun K18 =>?_
 rotate_left
 ·refine c_if (b:=(a2==2)) z (fun h54 =>?_) fun h54 =>?_
  ·have hm55:=ift hp16 h54
   obtain ⟨h56,hm57⟩:=ig hm55
   refine c_any mixed (effs:=[17]) (V:=[]) ?_
   refine stage_st (fun _ h=>mv5 h) ?_
   refine stn mk11_ [0,1,2,3,4,5,6,7,8,9,10,11,12,13,14,15,16] [17] [_,_,_,_,_,_,_,_,_,_,_,_,_,_,_,_,_] (q_mv z z z (q_mv z z z (q_u z z (o_nc z) (q_fa z z fa193_0 z (q_ld z z 0 sc3 z z z (q_mv z z z (q_u z z (o_nc z) (q_fa z z fa193_1 z (q_ld z z 0 sc3 z z z (q_mv z z z (q_mv z z z (q_u z z (o_bin z z (bI_quo _ _ h56)) (q_u z z (o_maxI z z) (q_u z z (o_bin z z (bI_add _ _)) (q_u z z (o_minI z z) (q_u z z (o_nc z) (q_fa z z fa193_1 z qn))))))))))))))))) ?_ (nxt z)
   refine ec (eo_u z (s_u (o_st sc3 z z z z z z)) le_ ?_) en
   refine stage z z z z mk11_ [] [] z z z qn en ?_
   intro _
   refine ex_sub (E':=[(0,pt b0_ 0),(1,vS a1),(2,vI a2)]) ⟨z,z,z,y_⟩ ?_
   obtain rfl:=si hm57
   exact x_sub K18 ⟨z,z,z,y_⟩ id_
  have hm55:=iff_ hp16 h54
  obtain ⟨h58,hm59⟩:=ig hm55
  refine c_any mixed (effs:=[13]) (V:=[]) ?_
  refine stage_st (fun _ h=>mv5 h) ?_
  refine stn mk9_ [0,1,2,3,4,5,6,7,8,9,10,11,12] [13] [_,_,_,_,_,_,_,_,_,_,_,_,_] (q_mv z z z (q_mv z z z (q_u z z (o_nc z) (q_fa z z fa193_1 z (q_ld z z 0 sc3 z z z (q_mv z z z (q_mv z z z (q_u z z (o_bin z z (bI_quo _ _ h58)) (q_u z z (o_maxI z z) (q_u z z (o_bin z z (bI_sub _ _)) (q_u z z (o_maxI z z) (q_u z z (o_nc z) (q_fa z z fa193_1 z qn))))))))))))) ?_ (nxt z)
  refine ec (eo_u z (s_u (o_st sc3 z z z z z z)) le_ ?_) en
  refine stage z z z z mk9_ [] [] z z z qn en ?_
  intro _
  refine ex_sub (E':=[(0,pt b0_ 0),(1,vS a1),(2,vI a2)]) ⟨z,z,z,y_⟩ ?_
  obtain rfl:=si hm59
  exact x_sub K18 ⟨z,z,z,y_⟩ id_
 refine x_seq (csr (r_as z (r_nil (x_seq (c_seq (c_seq ?_))))))
 obtain ⟨r19,hr19,hm20⟩:=bs hm17
 refine c_any mixed (effs:=[]) (V:=[]) ?_
 refine stn [0,1,0,4,12,28,63] [0,1,2,3,4,5,6] [] [_,_,_,_,_,_,_] (q_mv z z z (q_u z z (o_callqP ca157 z (CG.ok b0_ (⟨a0.most,p15,(some x3)⟩:Aq) (⟨(pt b4 0,g2)⟩:Aq.G) _ hr19) (fun _ h=>mv1 (st_some (f:=Aj.op g2) (a:=x3) (st_star_f (A:=Aj.fl b4 x3 g2) (mv5 (mv5 (mv5 (mv5 (mv5 h)))))))) (fun _ h=>st_pk 6 [5,0,1,2,3,4] (by decide) (st_star_o (st_some_o (mv1 h))))) (q_mv z z z (q_u z z (o_nc z) (q_fa z z fa193_0 z (q_ld z z 0 sc3 z z z (q_u z z (o_bin z z (bI_ge _ _)) qn))))))) en ?_
 intro _
 refine ex_sub (E':=[(0,pt b0_ 0),(1,vS a1),(2,vI a2),(9,.slice none 0 0),(58,vB (decide (a0.most≤r19)))]) ⟨z,z,z,z,z,y_⟩ ?_
 refine x_seq ?_
 obtain ⟨p21,hp27,hm28⟩:=bs hm20
 refine cd_cut (fun x ks=>∀(g22:Value),∀(g23:Aq.G),EX x .normal ks [(0,pt b0_ 0),(1,vS a1),(9,g22)] R (Bk b0_ 193 [vI p21.2.most,vI p21.2.target,g23.r.1]::OwS true 9 1 eS g22 p21.1::rO (Aj.op g23.r.2) g23.r.1 p21.2.r::F)) ?_ fun K29 =>?_
 ·intro g22 g23
  obtain ⟨⟨pv25,g26⟩⟩:=g23
  refine x_seq (c_seq ?_)
  refine cd_st (fun _ h=>mv2 h) ?_
  refine cd_opt (fun ho32 =>?_) (fun x30 b31 ho32 =>?_)
  ·rintro rfl
   have hm33:=om_n hm28 ho32
   cases hm33
  rintro rfl
  have hm33:=om_s hm28 ho32
  refine cd_st (fun _ h=>st_star_o h) ?_
  refine c_reg (r_mv z (r_nc z (r_fa fa193_2 z (r_ld 5 sc191 z z z (r_mv z ?_)))))
  obtain ⟨r38,hr38,hm44⟩:=bs hm33
  refine r_sw (s_w (o_call ca163 z (Ax.ok b31 _ g26 1 a1 _ hr38))) ?_
  rintro _ R _ _ ⟨g39,rfl,rfl,rfl⟩
  refine nsr (r_mv z (r_as z (r_nil (x_seq (c_ret ?_)))))
  refine ex_st (fun _ h=>st_some (f:=Aj.op g39) (a:=r38.2) (st_star_f (A:=Aj.fl b31 r38.2 g39) h)) ?_
  obtain rfl:=si hm44
  refine ex_st (pk 3 [2,1,0]) ?_
  exact x_r1 z (rv_t z) le_ ⟨_,z,g22,(⟨(pt b31 0,g39)⟩:Aq.G),z,z,z⟩
 refine c_if (b:=decide (a0.most≤r19)) z (fun h45 =>?_) fun h45 =>?_
 ·have hm46:=ift hp27 h45
  refine c_reg (r_mv z (r_mv z (r_bin z z (bI_eq a2 3) ?_)))
  refine rl_st (fun _ h=>mv5 (mv5 (mv5 (mv5 (mv5 h))))) ?_
  refine rl_st (fun _ h=>st_some (f:=Aj.op g2) (a:=x3) (st_star_f (A:=Aj.fl b4 x3 g2) h)) ?_
  obtain ⟨r47,hr47,hm53⟩:=bs hm46
  refine rl_st (fun _ h=>mv1 h) ?_
  refine r_sw (s_w (o_call ca214 z (Bq.ok b0_ (⟨a0.most,p15,(some x3)⟩:Aq) (⟨(pt b4 0,g2)⟩:Aq.G) _ _ hr47))) ?_
  rintro v48 R _ _ ⟨_,⟨⟨pv51,g52⟩⟩,rfl,rfl,rfl⟩
  refine r_as z (r_nil ?_)
  obtain rfl:=si hm53
  exact x_sub (K29 v48 (⟨(pv51,g52)⟩:Aq.G)) ⟨z,z,z,y_⟩ (pk 3 [1,0,2])
 have hm46:=iff_ hp27 h45
 refine c_skip ?_
 refine ex_st (fun _ h=>st_nil (ap:=true) (T:=9) (sz:=1) (en:=eS) h) ?_
 refine ex_st (fun _ h=>mv6 (mv6 (mv6 (mv6 (mv6 h))))) ?_
 refine ex_st (fun _ h=>st_some (f:=Aj.op g2) (a:=x3) (st_star_f (A:=Aj.fl b4 x3 g2) h)) ?_
 obtain rfl:=si hm46
 exact x_sub (K29 (.slice none 0 0) (⟨(pt b4 0,g2)⟩:Aq.G)) ⟨z,z,z,y_⟩ (pk 3 [2,1,0])
def B3(a0:Aq)(a1:Int):Option Aq :=
 om a0.r (none) fun x3=>(AF x3 a1).bind fun r11=>if r11.2 then (AV x3 r11.1).bind fun r15=>some (⟨a0.most,a0.target,(some r15.2)⟩:Aq) else some a0
theorem B3.ok{G R F}(b0_:Nat)(a0:Aq)(g0_:Aq.G)(a1:Int)(r:Aq)(hm:B3 a0 a1=some r):CO prog 213 [pt b0_ 0,vI a1] G R (Bk b0_ 193 [vI a0.most,vI a0.target,g0_.r.1]::rO (Aj.op g0_.r.2) g0_.r.1 a0.r::F)
  (Ret fun u R' L'=>∃(q0:Aq.G),u = .tuple #[]∧R'=R∧L'=Bk b0_ 193 [vI r.most,vI r.target,q0.r.1]::rO (Aj.op q0.r.2) q0.r.1 r.r::F):=by
 obtain ⟨⟨pv1,g2⟩⟩:=g0_
 unfold B3 at hm
 refine co_ofN (N:=22) func213 z z ?_
 refine c_seq ?_
 refine cd_st (fun _ h=>mv1 h) ?_
 refine cd_opt (fun ho5 =>?_) (fun x3 b4 ho5 =>?_)
 ·rintro rfl
  have hm6:=om_n hm ho5
  cases hm6
 rintro rfl
 have hm6:=om_s hm ho5
 refine cd_st (fun _ h=>st_star_o h) ?_
 refine c_reg (r_mv z (r_nc z (r_fa fa193_2 z (r_ld 5 sc191 z z z (r_mv z ?_)))))
 obtain ⟨r11,hr11,hm12⟩:=bs hm6
 refine r_c (s_w (o_call ca166 z (AF.ok b4 x3 g2 a1 _ hr11))) ?_
 refine r_mv z (r_ext z z (r_ext z z (r_as z (r_as z (nsr (r_mv z (nsq ?_)))))))
 refine c_if (b:=r11.2) z (fun h13 =>?_) fun h13 =>?_
 ·have hm14:=ift hm12 h13
  refine c_reg (r_mv z (r_nc z (r_fa fa193_2 z (r_ld 5 sc191 z z z (r_mv z ?_)))))
  obtain ⟨r15,hr15,hm21⟩:=bs hm14
  refine r_sw (s_w (o_call ca117 z (AV.ok b4 x3 g2 _ _ hr15))) ?_
  rintro _ R _ _ ⟨g16,rfl,rfl,rfl⟩
  refine r_nil ?_
  refine x_end ?_
  refine ex_st (fun _ h=>st_some (f:=Aj.op g16) (a:=r15.2) (st_star_f (A:=Aj.fl b4 r15.2 g16) h)) ?_
  obtain rfl:=si hm21
  refine ex_st (pk 2 [1,0]) ?_
  exact x_r0 z le_ ⟨_,z,(⟨(pt b4 0,g16)⟩:Aq.G),z,z,z⟩
 have hm14:=iff_ hm12 h13
 refine c_skip ?_
 refine x_end ?_
 refine ex_st (fun _ h=>st_some (f:=Aj.op g2) (a:=x3) (st_star_f (A:=Aj.fl b4 x3 g2) h)) ?_
 refine ex_st (fun _ h=>st_back ho5 h) ?_
 obtain rfl:=si hm14
 refine ex_st (pk 2 [1,0]) ?_
 exact x_r0 z le_ ⟨_,z,(⟨(pt b4 0,g2)⟩:Aq.G),z,z,z⟩
def CJ(a0:Aq)(a1:Str):Option (List Str×Aq) :=
 Option.bind (if decide (64<(a1.length:Int)) then some (true,a0) else (B5 a0 a1).bind fun r168=>some (r168.1,r168.2)) fun p3=>if p3.1 then some ([],p3.2) else om p3.2.r (none) fun x13=>(BK x13 a1).bind fun r21=>if r21.2 then (DN (⟨p3.2.most,p3.2.target,(some x13)⟩:Aq) a1 r21.1).bind fun r25=>some (r25.1,r25.2) else (Aw x13 0).bind fun r32=>(Aw x13 2).bind fun r34=>(Aw x13 1).bind fun r36=>(Aw x13 3).bind fun r38=>Option.bind (if decide (p3.2.most≤(i64 (r32+r34))) then some (decide (r32<p3.2.most)) else some false) fun p40=>Option.bind (if p40 then (B3 (⟨p3.2.most,p3.2.target,(some x13)⟩:Aq) 2).bind fun r70=>(CG r70).bind fun r76=>Option.bind (if decide (r70.most≤r76) then (Bq r70 false).bind fun r89=>some (r89.1,r89.2) else some ([],r70)) fun p78=>some (p78.1,p78.2) else Option.bind (if decide (p3.2.most≤(i64 (r32+r34))) then (AF x13 0).bind fun r107=>(AV x13 r107.1).bind fun r109=>some ([r107.1],(⟨p3.2.most,p3.2.target,(some r109.2)⟩:Aq)) else Option.bind (if decide (p3.2.most≤(i64 ((i64 ((i64 (r32+r34))+r36))+r38))) then Option.bind (if decide ((i64 (2*p3.2.most))≤(i64 ((i64 ((i64 (r32+r34))+r36))+r38))) then (B3 (⟨p3.2.most,p3.2.target,(some x13)⟩:Aq) 3).bind fun r158=>some r158 else some (⟨p3.2.most,p3.2.target,(some x13)⟩:Aq)) fun p128=>(CG p128).bind fun r136=>Option.bind (if decide (p128.most≤r136) then (Bq p128 false).bind fun r149=>some (r149.1,r149.2) else some ([],p128)) fun p138=>some (p138.1,p138.2) else some ([],(⟨p3.2.most,p3.2.target,(some x13)⟩:Aq))) fun p117=>some (p117.1,p117.2)) fun p96=>some (p96.1,p96.2)) fun p44=>om p44.2.r (none) fun x53=>(Ax x53 0 a1).bind fun r61=>some (p44.1,(⟨p44.2.most,p44.2.target,(some r61.2)⟩:Aq))
theorem CJ.ok{G R F}(b0_:Nat)(a0:Aq)(g0_:Aq.G)(a1:Str)(r:List Str×Aq)(hm:CJ a0 a1=some r):CO prog 167 [pt b0_ 0,vS a1] G R (Bk b0_ 193 [vI a0.most,vI a0.target,g0_.r.1]::rO (Aj.op g0_.r.2) g0_.r.1 a0.r::F)
  (Ret fun u R' L'=>∃(p0:Value) (q0:Aq.G),u=p0∧R'=R∧L'=OwS true 9 1 eS p0 r.1::Bk b0_ 193 [vI r.2.most,vI r.2.target,q0.r.1]::rO (Aj.op q0.r.2) q0.r.1 r.2.r::F):=by
 obtain ⟨⟨pv1,g2⟩⟩:=g0_
 unfold CJ at hm
 refine co_ofN (N:=147) func167 z z ?_
 refine csr (r_as z (r_nil (x_seq (c_seq (c_seq ?_)))))
 obtain ⟨p3,hp8,hm9⟩:=bs hm
 refine cd_cut (fun x ks=>∀(g4:Aq.G),EX x .normal ks [(0,pt b0_ 0),(1,vS a1),(23,vB p3.1)] R (Bk b0_ 193 [vI p3.2.most,vI p3.2.target,g4.r.1]::rO (Aj.op g4.r.2) g4.r.1 p3.2.r::F)) ?_ fun K10 =>?_
 rotate_left
 ·refine cd_by (decide (64<(a1.length:Int))) (fun h166 =>?_) fun h166 =>?_
  ·have hm167:=ift hp8 h166
   refine c_reg (r_mv z (r_bin z z (bP_eqp underlying141) (r_mv z ?_)))
   refine r_s (s_y z z z (o_mv z)) ?_
   refine r_s (s_y z z z (o_lenS underlying9 z)) ?_
   refine r_s (s_y z z z (o_bin z z (bI_gt _ 64))) ?_
   refine r_u (o_pf z z z) (r_mv z ?_)
   refine r_s (s_n z z h166) ?_
   refine r_s (s_n z z h166) ?_
   refine r_s (s_n z z h166) ?_
   refine r_u (o_pt z h166 z) (r_nil ?_)
   obtain rfl:=si hm167
   exact x_sub (K10 (⟨(pv1,g2)⟩:Aq.G)) ⟨z,z,z,y_⟩ id_
  have hm167:=iff_ hp8 h166
  refine c_reg (r_mv z (r_bin z z (bP_eqp underlying141) (r_mv z ?_)))
  refine r_s (s_y z z z (o_mv z)) ?_
  refine r_s (s_y z z z (o_lenS underlying9 z)) ?_
  refine r_s (s_y z z z (o_bin z z (bI_gt _ 64))) ?_
  refine r_u (o_pf z z z) (r_mv z ?_)
  refine r_s (s_y z z h166 (o_mv z)) ?_
  refine r_s (s_y z z h166 (o_mv z)) ?_
  obtain ⟨r168,hr168,hm173⟩:=bs hm167
  refine r_sw (s_yw z z h166 (o_call ca120 z (B5.ok b0_ a0 (⟨(pv1,g2)⟩:Aq.G) a1 _ hr168))) ?_
  rintro _ R _ _ ⟨⟨⟨pv171,g172⟩⟩,rfl,rfl,rfl⟩
  refine r_u (o_pf z h166 z) (r_nil ?_)
  obtain rfl:=si hm173
  exact x_sub (K10 (⟨(pv171,g172)⟩:Aq.G)) ⟨z,z,z,y_⟩ id_
 intro g4
 obtain ⟨⟨pv6,g7⟩⟩:=g4
 refine x_seq ?_
 refine c_if (b:=p3.1) z (fun h11 =>?_) fun h11 =>?_
 ·have hm12:=ift hm9 h11
  refine csr (r_as z (r_nil (x_seq (c_ret ?_))))
  refine ex_st (fun _ h=>st_nil (ap:=true) (T:=9) (sz:=1) (en:=eS) h) ?_
  obtain rfl:=si hm12
  exact x_r1 z (rv_t z) le_ ⟨_,z,(.slice none 0 0),(⟨(pv6,g7)⟩:Aq.G),z,z,z⟩
 have hm12:=iff_ hm9 h11
 refine c_skip (x_seq (c_seq (c_seq ?_)))
 refine cd_st (fun _ h=>mv1 h) ?_
 refine cd_opt (fun ho15 =>?_) (fun x13 b14 ho15 =>?_)
 ·rintro rfl
  have hm16:=om_n hm12 ho15
  cases hm16
 rintro rfl
 have hm16:=om_s hm12 ho15
 refine cd_st (fun _ h=>st_star_o h) ?_
 refine c_reg (r_mv z (r_nc z (r_fa fa193_2 z (r_ld 5 sc191 z z z (r_mv z ?_)))))
 obtain ⟨r21,hr21,hm22⟩:=bs hm16
 refine r_c (s_w (o_call ca160 z (BK.ok b14 _ g7 a1 _ hr21))) ?_
 refine r_mv z (r_ext z z (r_ext z z (r_as z (r_as z (nsr (r_mv z (nsq ?_)))))))
 refine c_if (b:=r21.2) z (fun h23 =>?_) fun h23 =>?_
 ·have hm24:=ift hm22 h23
  refine csr (r_mv z (r_mv z (r_mv z ?_)))
  refine rl_st (fun _ h=>st_some (f:=Aj.op g7) (a:=x13) (st_star_f (A:=Aj.fl b14 x13 g7) h)) ?_
  obtain ⟨r25,hr25,hm31⟩:=bs hm24
  refine rl_st (fun _ h=>mv1 h) ?_
  refine r_sw (s_w (o_call ca212 z (DN.ok b0_ (⟨p3.2.most,p3.2.target,(some x13)⟩:Aq) (⟨(pt b14 0,g7)⟩:Aq.G) a1 _ _ hr25))) ?_
  rintro v26 R _ _ ⟨_,⟨⟨pv29,g30⟩⟩,rfl,rfl,rfl⟩
  refine r_as z (r_nil (x_seq (c_ret ?_)))
  obtain rfl:=si hm31
  exact x_r1 z (rv_t z) le_ ⟨_,z,v26,(⟨(pv29,g30)⟩:Aq.G),z,z,z⟩
 have hm24:=iff_ hm22 h23
 refine c_skip (x_seq (csr (r_as z (r_nil (x_seq (c_seq ?_))))))
 obtain ⟨r32,hr32,hm33⟩:=bs hm24
 obtain ⟨r34,hr34,hm35⟩:=bs hm33
 refine c_any mixed (effs:=[]) (V:=[]) ?_
 refine stn mk40_ [0,1,2,3,4,5,6,7,8,9,10,11] [] [_,_,_,_,_,_,_,_,_,_,_,_] (q_mv z z z (q_u z z (o_nc z) (q_fa z z fa193_2 z (q_ld z z 5 sc191 z z z (q_u z z (o_callqP ca164 z (Aw.ok b14 _ g7 0 _ hr32) id_ id_) (q_mv z z z (q_u z z (o_nc z) (q_fa z z fa193_2 z (q_ld z z 5 sc191 z z z (q_u z z (o_callqP ca164 z (Aw.ok b14 _ g7 2 _ hr34) id_ id_) (q_u z z (o_bin z z (bI_add _ _)) (q_u z z (o_as z) qn)))))))))))) en ?_
 intro _
 refine ex_sub (E':=[(0,pt b0_ 0),(1,vS a1),(7,.slice none 0 0),(8,vI (i64 (r32+r34)))]) ⟨z,z,z,z,y_⟩ ?_
 refine x_seq (c_seq ?_)
 obtain ⟨r36,hr36,hm37⟩:=bs hm35
 obtain ⟨r38,hr38,hm39⟩:=bs hm37
 refine c_any mixed (effs:=[]) (V:=[]) ?_
 refine stn [0,0,2,6,14,30,63,0,128,384,896,1982,4095,8191] [0,1,2,3,4,5,6,7,8,9,10,11,12,13] [] [_,_,_,_,_,_,_,_,_,_,_,_,_,_] (q_mv z z z (q_mv z z z (q_u z z (o_nc z) (q_fa z z fa193_2 z (q_ld z z 5 sc191 z z z (q_u z z (o_callqP ca164 z (Aw.ok b14 _ g7 1 _ hr36) id_ id_) (q_u z z (o_bin z z (bI_add _ _)) (q_mv z z z (q_u z z (o_nc z) (q_fa z z fa193_2 z (q_ld z z 5 sc191 z z z (q_u z z (o_callqP ca164 z (Aw.ok b14 _ g7 3 _ hr38) id_ id_) (q_u z z (o_bin z z (bI_add _ _)) (q_u z z (o_as z) qn)))))))))))))) en ?_
 intro _
 refine ex_sub (E':=[(0,pt b0_ 0),(1,vS a1),(7,.slice none 0 0),(8,vI (i64 (r32+r34))),(9,vI (i64 ((i64 ((i64 (r32+r34))+r36))+r38)))]) ⟨z,z,z,z,z,y_⟩ ?_
 refine x_seq (c_seq (c_blk (c_seq ?_)))
 obtain ⟨p40,hp41,hm42⟩:=bs hm39
 refine cd_join (E':=[(0,pt b0_ 0),(1,vS a1),(7,.slice none 0 0),(8,vI (i64 (r32+r34))),(9,vI (i64 ((i64 ((i64 (r32+r34))+r36))+r38))),(62,vB p40)]) (L':=Bk b14 237 (Aj.k x13 g7)::Bk b0_ 193 [vI p3.2.most,vI p3.2.target,pt b14 0]::OwS true 240 4 Av.c g7.slots x13.slots::OwS true 3 1 eI g7.free x13.free::OwM vS vI g7.at_ x13.at_::OwS true 3 1 eI g7.many x13.many::F) ?_ fun K43 =>?_
 rotate_left
 ·refine cd_by (decide (p3.2.most≤(i64 (r32+r34)))) (fun h164 =>?_) fun h164 =>?_
  ·have hm165:=ift hp41 h164
   refine c_any mixed (effs:=[]) (V:=[]) ?_
   refine stn mk13_ [0,1,2,3,4,5,6,7,8,9,10,11,12,13,14,15,16,17,18] [] [_,_,_,_,_,_,_,_,_,_,_,_,_,_,_,_,_,_,_] (q_mv z z z (q_mv z z z (q_u z z (o_nc z) (q_fa z z fa193_0 z (q_ld z z 5 sc3 z z z (q_u z z (o_bin z z (bI_ge _ _)) (q_mv z z z (q_y z z z z h164 (o_mv z) (q_y z z z z h164 (o_nc z) (q_y z z z z h164 (o_fa fa193_2 z) (q_y z z z z h164 (o_ld 5 sc191 z z z) (q_y z z z z h164 (o_callqP ca164 z (Aw.ok b14 _ g7 0 _ hr32) id_ id_) (q_y z z z z h164 (o_mv z) (q_y z z z z h164 (o_nc z) (q_y z z z z h164 (o_fa fa193_0 z) (q_y z z z z h164 (o_ld 5 sc3 z z z) (q_y z z z z h164 (o_bin z z (bI_lt _ _)) (q_u z z (o_pt z h164 z) (q_u z z (o_as z) qn))))))))))))))))))) en ?_
   intro _
   refine ex_sub (E':=[(0,pt b0_ 0),(1,vS a1),(7,.slice none 0 0),(8,vI (i64 (r32+r34))),(9,vI (i64 ((i64 ((i64 (r32+r34))+r36))+r38))),(62,vB (decide (r32<p3.2.most)))]) ⟨z,z,z,z,z,z,y_⟩ ?_
   obtain rfl:=si hm165
   exact x_sub K43 ⟨z,z,z,z,z,z,y_⟩ (pk 6 [0,5,1,2,3,4])
  have hm165:=iff_ hp41 h164
  refine c_any mixed (effs:=[]) (V:=[]) ?_
  refine stn mk13_ [0,1,2,3,4,5,6,7,8,9,10,11,12,13,14,15,16,17,18] [] [_,_,_,_,_,_,_,_,_,_,_,_,_,_,_,_,_,_,_] (q_mv z z z (q_mv z z z (q_u z z (o_nc z) (q_fa z z fa193_0 z (q_ld z z 5 sc3 z z z (q_u z z (o_bin z z (bI_ge _ _)) (q_mv z z z (q_n z z z z h164 (q_n z z z z h164 (q_n z z z z h164 (q_n z z z z h164 (q_n z z z z h164 (q_n z z z z h164 (q_n z z z z h164 (q_n z z z z h164 (q_n z z z z h164 (q_n z z z z h164 (q_u z z (o_pf z h164 z) (q_u z z (o_as z) qn))))))))))))))))))) en ?_
  intro _
  refine ex_sub (E':=[(0,pt b0_ 0),(1,vS a1),(7,.slice none 0 0),(8,vI (i64 (r32+r34))),(9,vI (i64 ((i64 ((i64 (r32+r34))+r36))+r38))),(62,vB false)]) ⟨z,z,z,z,z,z,y_⟩ ?_
  obtain rfl:=si hm165
  exact x_sub K43 ⟨z,z,z,z,z,z,y_⟩ (pk 6 [0,5,1,2,3,4])
 refine x_seq ?_
 obtain ⟨p44,hp50,hm51⟩:=bs hm42
 refine cd_cut (fun x ks=>∀(g45:Value),∀(g46:Aq.G),EX x .normal ks [(0,pt b0_ 0),(1,vS a1),(7,g45)] R (Bk b0_ 193 [vI p44.2.most,vI p44.2.target,g46.r.1]::OwS true 9 1 eS g45 p44.1::rO (Aj.op g46.r.2) g46.r.1 p44.2.r::F)) ?_ fun K52 =>?_
 ·intro g45 g46
  obtain ⟨⟨pv48,g49⟩⟩:=g46
  refine x_blk (x_seq (c_seq ?_))
  refine cd_st (fun _ h=>mv2 h) ?_
  refine cd_opt (fun ho55 =>?_) (fun x53 b54 ho55 =>?_)
  ·rintro rfl
   have hm56:=om_n hm51 ho55
   cases hm56
  rintro rfl
  have hm56:=om_s hm51 ho55
  refine cd_st (fun _ h=>st_star_o h) ?_
  refine c_reg (r_mv z (r_nc z (r_fa fa193_2 z (r_ld 5 sc191 z z z (r_mv z ?_)))))
  obtain ⟨r61,hr61,hm67⟩:=bs hm56
  refine r_sw (s_w (o_call ca163 z (Ax.ok b54 _ g49 0 a1 _ hr61))) ?_
  rintro _ R _ _ ⟨g62,rfl,rfl,rfl⟩
  refine nsr (r_mv z (r_as z (r_nil (x_seq (c_ret ?_)))))
  refine ex_st (fun _ h=>st_some (f:=Aj.op g62) (a:=r61.2) (st_star_f (A:=Aj.fl b54 r61.2 g62) h)) ?_
  obtain rfl:=si hm67
  refine ex_st (pk 3 [2,1,0]) ?_
  exact x_r1 z (rv_t z) le_ ⟨_,z,g45,(⟨(pt b54 0,g62)⟩:Aq.G),z,z,z⟩
 refine c_if (b:=p40) z (fun h68 =>?_) fun h68 =>?_
 ·have hm69:=ift hp50 h68
  refine csr (r_mv z ?_)
  refine rl_st (fun _ h=>mv4 (mv5 (mv5 (mv5 (mv5 h))))) ?_
  refine rl_st (fun _ h=>st_some (f:=Aj.op g7) (a:=x13) (st_star_f (A:=Aj.fl b14 x13 g7) h)) ?_
  obtain ⟨r70,hr70,hm75⟩:=bs hm69
  refine rl_st (fun _ h=>mv1 h) ?_
  refine r_sw (s_w (o_call ca213 z (B3.ok b0_ (⟨p3.2.most,p3.2.target,(some x13)⟩:Aq) (⟨(pt b14 0,g7)⟩:Aq.G) 2 _ hr70))) ?_
  rintro _ R _ _ ⟨⟨⟨pv73,g74⟩⟩,rfl,rfl,rfl⟩
  refine r_nil (x_seq (c_seq ?_))
  obtain ⟨r76,hr76,hm77⟩:=bs hm75
  refine c_any mixed (effs:=[]) (V:=[]) ?_
  refine stn [0,1,0,4,12,28,63] [0,1,2,3,4,5,6] [] [_,_,_,_,_,_,_] (q_mv z z z (q_u z z (o_callqP ca157 z (CG.ok b0_ _ (⟨(pv73,g74)⟩:Aq.G) _ hr76) id_ id_) (q_mv z z z (q_u z z (o_nc z) (q_fa z z fa193_0 z (q_ld z z 0 sc3 z z z (q_u z z (o_bin z z (bI_ge _ _)) qn))))))) en ?_
  intro _
  refine ex_sub (E':=[(0,pt b0_ 0),(1,vS a1),(7,.slice none 0 0),(89,vB (decide (r70.most≤r76)))]) ⟨z,z,z,z,y_⟩ ?_
  refine x_seq ?_
  obtain ⟨p78,hp84,hm85⟩:=bs hm77
  refine cd_cut (fun x ks=>∀(g79:Value),∀(g80:Aq.G),EX x .normal ks [(0,pt b0_ 0),(1,vS a1),(7,g79)] R (Bk b0_ 193 [vI p78.2.most,vI p78.2.target,g80.r.1]::OwS true 9 1 eS g79 p78.1::rO (Aj.op g80.r.2) g80.r.1 p78.2.r::F)) ?_ fun K86 =>?_
  ·intro g79 g80
   obtain ⟨⟨pv82,g83⟩⟩:=g80
   obtain rfl:=si hm85
   exact x_sub (K52 g79 (⟨(pv82,g83)⟩:Aq.G)) ⟨z,z,z,y_⟩ id_
  refine c_if (b:=decide (r70.most≤r76)) z (fun h87 =>?_) fun h87 =>?_
  ·have hm88:=ift hp84 h87
   refine c_reg (r_mv z ?_)
   obtain ⟨r89,hr89,hm95⟩:=bs hm88
   refine r_sw (s_w (o_call ca214 z (Bq.ok b0_ _ (⟨(pv73,g74)⟩:Aq.G) _ _ hr89))) ?_
   rintro v90 R _ _ ⟨_,⟨⟨pv93,g94⟩⟩,rfl,rfl,rfl⟩
   refine r_as z (r_nil ?_)
   obtain rfl:=si hm95
   exact x_sub (K86 v90 (⟨(pv93,g94)⟩:Aq.G)) ⟨z,z,z,y_⟩ (pk 3 [1,0,2])
  have hm88:=iff_ hp84 h87
  refine c_skip ?_
  refine ex_st (fun _ h=>st_nil (ap:=true) (T:=9) (sz:=1) (en:=eS) h) ?_
  obtain rfl:=si hm88
  exact x_sub (K86 (.slice none 0 0) (⟨(pv73,g74)⟩:Aq.G)) ⟨z,z,z,y_⟩ (pk 3 [1,0,2])
 have hm69:=iff_ hp50 h68
 refine csr (r_mv z (r_mv z (r_nc z (r_fa fa193_0 z (r_ld 1 sc3 z z z (r_bin z z (bI_ge _ _) (r_as z (nsq ?_))))))))
 obtain ⟨p96,hp102,hm103⟩:=bs hm69
 refine cd_cut (fun x ks=>∀(g97:Value),∀(g98:Aq.G),EX x .normal ks [(0,pt b0_ 0),(1,vS a1),(7,g97)] R (Bk b0_ 193 [vI p96.2.most,vI p96.2.target,g98.r.1]::OwS true 9 1 eS g97 p96.1::rO (Aj.op g98.r.2) g98.r.1 p96.2.r::F)) ?_ fun K104 =>?_
 ·intro g97 g98
  obtain ⟨⟨pv100,g101⟩⟩:=g98
  obtain rfl:=si hm103
  exact x_sub (K52 g97 (⟨(pv100,g101)⟩:Aq.G)) ⟨z,z,z,y_⟩ id_
 refine c_if (b:=decide (p3.2.most≤(i64 (r32+r34)))) z (fun h105 =>?_) fun h105 =>?_
 ·have hm106:=ift hp102 h105
  refine csr (r_mv z (r_nc z (r_fa fa193_2 z (r_ld 1 sc191 z z z ?_))))
  obtain ⟨r107,hr107,hm108⟩:=bs hm106
  refine rl_st (fun _ h=>mv4 (mv5 (mv5 (mv5 (mv5 h))))) ?_
  refine r_c (s_w (o_call ca166 z (AF.ok b14 _ g7 0 _ hr107))) ?_
  refine r_mv z (r_ext z z (r_ext z z (r_as z (r_as z (nsr (r_mv z (r_nc z (r_fa fa193_2 z (r_ld 5 sc191 z z z (r_mv z ?_))))))))))
  obtain ⟨r109,hr109,hm115⟩:=bs hm108
  refine r_sw (s_w (o_call ca117 z (AV.ok b14 _ g7 _ _ hr109))) ?_
  rintro _ R _ _ ⟨g110,rfl,rfl,rfl⟩
  refine r_nil (x_seq (c_reg (r_mv z ?_)))
  refine r_sw (s_w (o_bsl (en:=eS) (sz:=1) (e:=9) (cs:=[vS r107.1]) (r:=[r107.1]) z kr z (by decide) z (fun _=>z))) ?_
  rintro v116 R _ _ ⟨rfl,rfl⟩
  refine r_as z (r_nil ?_)
  refine ex_st (fun _ h=>mv5 (mv5 (mv5 (mv5 (mv5 h))))) ?_
  refine ex_st (fun _ h=>st_some (f:=Aj.op g110) (a:=r109.2) (st_star_f (A:=Aj.fl b14 r109.2 g110) h)) ?_
  obtain rfl:=si hm115
  exact x_sub (K104 v116 (⟨(pt b14 0,g110)⟩:Aq.G)) ⟨z,z,z,y_⟩ (pk 3 [2,1,0])
 have hm106:=iff_ hp102 h105
 refine csr (r_mv z (r_mv z (r_nc z (r_fa fa193_0 z (r_ld 1 sc3 z z z (r_u (o_bin z z (bI_ge _ _)) (r_as z (nsq ?_))))))))
 obtain ⟨p117,hp123,hm124⟩:=bs hm106
 refine cd_cut (fun x ks=>∀(g118:Value),∀(g119:Aq.G),EX x .normal ks [(0,pt b0_ 0),(1,vS a1),(7,g118)] R (Bk b0_ 193 [vI p117.2.most,vI p117.2.target,g119.r.1]::OwS true 9 1 eS g118 p117.1::rO (Aj.op g119.r.2) g119.r.1 p117.2.r::F)) ?_ fun K125 =>?_
 ·intro g118 g119
  obtain ⟨⟨pv121,g122⟩⟩:=g119
  obtain rfl:=si hm124
  exact x_sub (K104 g118 (⟨(pv121,g122)⟩:Aq.G)) ⟨z,z,z,y_⟩ id_
 refine c_if (b:=decide (p3.2.most≤(i64 ((i64 ((i64 (r32+r34))+r36))+r38)))) z (fun h126 =>?_) fun h126 =>?_
 rotate_left
 ·have hm127:=iff_ hp123 h126
  refine c_skip ?_
  refine ex_st (fun _ h=>st_nil (ap:=true) (T:=9) (sz:=1) (en:=eS) h) ?_
  refine ex_st (fun _ h=>mv5 (mv6 (mv6 (mv6 (mv6 h))))) ?_
  refine ex_st (fun _ h=>st_some (f:=Aj.op g7) (a:=x13) (st_star_f (A:=Aj.fl b14 x13 g7) h)) ?_
  obtain rfl:=si hm127
  exact x_sub (K125 (.slice none 0 0) (⟨(pt b14 0,g7)⟩:Aq.G)) ⟨z,z,z,y_⟩ (pk 3 [2,1,0])
 have hm127:=ift hp123 h126
 refine c_seq (csr (r_mv z (r_mv z (r_nc z (r_fa fa193_0 z (r_ld 1 sc3 z z z (r_bin z z (bI_mul 2 _) (r_u (o_bin z z (bI_ge _ _)) (nsq ?_)))))))))
 obtain ⟨p128,hp133,hm134⟩:=bs hm127
 refine cd_cut (fun x ks=>∀(g129:Aq.G),EX x .normal ks [(0,pt b0_ 0),(1,vS a1),(7,.slice none 0 0)] R (Bk b0_ 193 [vI p128.most,vI p128.target,g129.r.1]::rO (Aj.op g129.r.2) g129.r.1 p128.r::F)) ?_ fun K135 =>?_
 rotate_left
 ·refine c_if (b:=decide ((i64 (2*p3.2.most))≤(i64 ((i64 ((i64 (r32+r34))+r36))+r38)))) z (fun h156 =>?_) fun h156 =>?_
  ·have hm157:=ift hp133 h156
   refine c_reg (r_mv z ?_)
   refine rl_st (fun _ h=>mv4 (mv5 (mv5 (mv5 (mv5 h))))) ?_
   refine rl_st (fun _ h=>st_some (f:=Aj.op g7) (a:=x13) (st_star_f (A:=Aj.fl b14 x13 g7) h)) ?_
   obtain ⟨r158,hr158,hm163⟩:=bs hm157
   refine rl_st (fun _ h=>mv1 h) ?_
   refine r_sw (s_w (o_call ca213 z (B3.ok b0_ (⟨p3.2.most,p3.2.target,(some x13)⟩:Aq) (⟨(pt b14 0,g7)⟩:Aq.G) 3 _ hr158))) ?_
   rintro _ R _ _ ⟨⟨⟨pv161,g162⟩⟩,rfl,rfl,rfl⟩
   refine r_nil ?_
   obtain rfl:=si hm163
   exact x_sub (K135 (⟨(pv161,g162)⟩:Aq.G)) ⟨z,z,z,y_⟩ id_
  have hm157:=iff_ hp133 h156
  refine c_skip ?_
  refine ex_st (fun _ h=>mv4 (mv5 (mv5 (mv5 (mv5 h))))) ?_
  refine ex_st (fun _ h=>st_some (f:=Aj.op g7) (a:=x13) (st_star_f (A:=Aj.fl b14 x13 g7) h)) ?_
  obtain rfl:=si hm157
  exact x_sub (K135 (⟨(pt b14 0,g7)⟩:Aq.G)) ⟨z,z,z,y_⟩ (pk 2 [1,0])
 intro g129
 obtain ⟨⟨pv131,g132⟩⟩:=g129
 refine x_seq (c_seq ?_)
 obtain ⟨r136,hr136,hm137⟩:=bs hm134
 refine c_any mixed (effs:=[]) (V:=[]) ?_
 refine stn [0,1,0,4,12,28,63] [0,1,2,3,4,5,6] [] [_,_,_,_,_,_,_] (q_mv z z z (q_u z z (o_callqP ca157 z (CG.ok b0_ _ (⟨(pv131,g132)⟩:Aq.G) _ hr136) id_ id_) (q_mv z z z (q_u z z (o_nc z) (q_fa z z fa193_0 z (q_ld z z 0 sc3 z z z (q_u z z (o_bin z z (bI_ge _ _)) qn))))))) en ?_
 intro _
 refine ex_sub (E':=[(0,pt b0_ 0),(1,vS a1),(7,.slice none 0 0),(137,vB (decide (p128.most≤r136)))]) ⟨z,z,z,z,y_⟩ ?_
 refine x_seq ?_
 obtain ⟨p138,hp144,hm145⟩:=bs hm137
 refine cd_cut (fun x ks=>∀(g139:Value),∀(g140:Aq.G),EX x .normal ks [(0,pt b0_ 0),(1,vS a1),(7,g139)] R (Bk b0_ 193 [vI p138.2.most,vI p138.2.target,g140.r.1]::OwS true 9 1 eS g139 p138.1::rO (Aj.op g140.r.2) g140.r.1 p138.2.r::F)) ?_ fun K146 =>?_
 ·intro g139 g140
  obtain ⟨⟨pv142,g143⟩⟩:=g140
  obtain rfl:=si hm145
  exact x_sub (K125 g139 (⟨(pv142,g143)⟩:Aq.G)) ⟨z,z,z,y_⟩ id_
 refine c_if (b:=decide (p128.most≤r136)) z (fun h147 =>?_) fun h147 =>?_
 ·have hm148:=ift hp144 h147
  refine c_reg (r_mv z ?_)
  obtain ⟨r149,hr149,hm155⟩:=bs hm148
  refine r_sw (s_w (o_call ca214 z (Bq.ok b0_ _ (⟨(pv131,g132)⟩:Aq.G) _ _ hr149))) ?_
  rintro v150 R _ _ ⟨_,⟨⟨pv153,g154⟩⟩,rfl,rfl,rfl⟩
  refine r_as z (r_nil ?_)
  obtain rfl:=si hm155
  exact x_sub (K146 v150 (⟨(pv153,g154)⟩:Aq.G)) ⟨z,z,z,y_⟩ (pk 3 [1,0,2])
 have hm148:=iff_ hp144 h147
 refine c_skip ?_
 refine ex_st (fun _ h=>st_nil (ap:=true) (T:=9) (sz:=1) (en:=eS) h) ?_
 obtain rfl:=si hm148
 exact x_sub (K146 (.slice none 0 0) (⟨(pv131,g132)⟩:Aq.G)) ⟨z,z,z,y_⟩ (pk 3 [1,0,2])
def Dq(a0:Ao):Option Int :=
 om a0.r (none) fun x6=>(Aw x6 0).bind fun r14=>(Aw x6 1).bind fun r16=>(Aw x6 2).bind fun r18=>some (i64 ((i64 (r14+r16))+r18))
theorem Dq.ok{G R F}(b0_:Nat)(a0:Ao)(g0_:Ao.G)(r:Int)(hm:Dq a0=some r):CO prog 158 [pt b0_ 0] G R (Bk b0_ 196 [vI a0.most,g0_.s.1,g0_.r.1]::rO (An.op g0_.s.2) g0_.s.1 a0.s::rO (Aj.op g0_.r.2) g0_.r.1 a0.r::F)
  (Ret fun u R' L'=>u=vI r∧R'=R∧L'=Bk b0_ 196 [vI a0.most,g0_.s.1,g0_.r.1]::rO (An.op g0_.s.2) g0_.s.1 a0.s::rO (Aj.op g0_.r.2) g0_.r.1 a0.r::F):=by
 obtain ⟨⟨pv1,g2⟩,⟨pv4,g5⟩⟩:=g0_
 unfold Dq at hm
 refine co_ofN (N:=22) func158 z z ?_
 refine csr (r_as z (nssr (r_mv z (r_bin z z (bP_eqp underlying142) (nsq (c_ff z (c_skip (x_seq (c_seq ?_)))))))))
 refine cd_st (fun _ h=>mv2 h) ?_
 refine cd_opt (fun ho8 =>?_) (fun x6 b7 ho8 =>?_)
 ·rintro rfl
  have hm9:=om_n hm ho8
  cases hm9
 rintro rfl
 have hm9:=om_s hm ho8
 refine cd_st (fun _ h=>st_star_o h) ?_
 obtain ⟨r14,hr14,hm15⟩:=bs hm9
 obtain ⟨r16,hr16,hm17⟩:=bs hm15
 obtain ⟨r18,hr18,hm19⟩:=bs hm17
 refine c_any mixed (effs:=[]) (V:=[]) ?_
 refine stn [0,1,3,7,15,0,32,96,224,511,1023,0,2048,6144,14336,31743,65535,131071] [0,1,2,3,4,5,6,7,8,9,10,11,12,13,14,15,16,17] [] [_,_,_,_,_,_,_,_,_,_,_,_,_,_,_,_,_,_] (q_mv z z z (q_u z z (o_nc z) (q_fa z z fa196_2 z (q_ld z z 5 sc191 z z z (q_u z z (o_callqP ca164 z (Aw.ok b7 x6 g5 0 _ hr14) id_ id_) (q_mv z z z (q_u z z (o_nc z) (q_fa z z fa196_2 z (q_ld z z 5 sc191 z z z (q_u z z (o_callqP ca164 z (Aw.ok b7 x6 g5 1 _ hr16) id_ id_) (q_u z z (o_bin z z (bI_add _ _)) (q_mv z z z (q_u z z (o_nc z) (q_fa z z fa196_2 z (q_ld z z 5 sc191 z z z (q_u z z (o_callqP ca164 z (Aw.ok b7 x6 g5 2 _ hr18) id_ id_) (q_u z z (o_bin z z (bI_add _ _)) (q_u z z (o_as z) qn)))))))))))))))))) en ?_
 intro _
 refine ex_sub (E':=[(2,vI (i64 ((i64 (r14+r16))+r18)))]) ⟨z,y_⟩ ?_
 refine x_seq (c_ret ?_)
 refine ex_st (fun _ h=>st_some (f:=Aj.op g5) (a:=x6) (st_star_f (A:=Aj.fl b7 x6 g5) h)) ?_
 refine ex_st (fun _ h=>st_back ho8 h) ?_
 obtain rfl:=si hm19
 refine ex_st (pk 3 [1,2,0]) ?_
 exact x_r1 z (rv_t z) le_ ⟨_,z,z,z,z⟩
def DX(a0:Ao):Option (Str×Bool) :=
 om a0.r (none) fun x6=>(AF x6 1).bind fun r14=>if r14.2 then some (r14.1,true) else (AF x6 2).bind fun r18=>some (r18.1,r18.2)
theorem DX.ok{G R F}(b0_:Nat)(a0:Ao)(g0_:Ao.G)(r:Str×Bool)(hm:DX a0=some r):CO prog 215 [pt b0_ 0] G R (Bk b0_ 196 [vI a0.most,g0_.s.1,g0_.r.1]::rO (An.op g0_.s.2) g0_.s.1 a0.s::rO (Aj.op g0_.r.2) g0_.r.1 a0.r::F)
  (Ret fun u R' L'=>u = .tuple #[vS r.1,vB r.2]∧R'=R∧L'=Bk b0_ 196 [vI a0.most,g0_.s.1,g0_.r.1]::rO (An.op g0_.s.2) g0_.s.1 a0.s::rO (Aj.op g0_.r.2) g0_.r.1 a0.r::F):=by
 obtain ⟨⟨pv1,g2⟩,⟨pv4,g5⟩⟩:=g0_
 unfold DX at hm
 refine co_ofN (N:=23) func215 z z ?_
 refine csr (r_as z (r_as z (r_nil (x_seq (c_seq (c_seq ?_))))))
 refine cd_st (fun _ h=>mv2 h) ?_
 refine cd_opt (fun ho8 =>?_) (fun x6 b7 ho8 =>?_)
 ·rintro rfl
  have hm9:=om_n hm ho8
  cases hm9
 rintro rfl
 have hm9:=om_s hm ho8
 refine cd_st (fun _ h=>st_star_o h) ?_
 refine c_reg (r_mv z (r_nc z (r_fa fa196_2 z (r_ld 5 sc191 z z z ?_))))
 obtain ⟨r14,hr14,hm15⟩:=bs hm9
 refine r_c (s_w (o_call ca166 z (AF.ok b7 x6 g5 1 _ hr14))) ?_
 refine r_mv z (r_ext z z (r_ext z z (r_as z (r_as z (nsr (r_mv z (nsq ?_)))))))
 refine c_if (b:=r14.2) z (fun h16 =>?_) fun h16 =>?_
 ·have hm17:=ift hm15 h16
  refine csr (r_mv z (r_as z (r_as z (r_nil (x_seq (c_ret ?_))))))
  refine ex_st (fun _ h=>st_some (f:=Aj.op g5) (a:=x6) (st_star_f (A:=Aj.fl b7 x6 g5) h)) ?_
  refine ex_st (fun _ h=>st_back ho8 h) ?_
  obtain rfl:=si hm17
  refine ex_st (pk 3 [1,2,0]) ?_
  exact x_r2 z (rv_t z) (rv_t z) le_ ⟨_,z,z,z,z⟩
 have hm17:=iff_ hm15 h16
 refine c_skip (x_seq (csr (r_mv z (r_nc z (r_fa fa196_2 z (r_ld 5 sc191 z z z ?_))))))
 obtain ⟨r18,hr18,hm19⟩:=bs hm17
 refine r_c (s_w (o_call ca166 z (AF.ok b7 x6 g5 2 _ hr18))) ?_
 refine r_ext z z (r_ext z z (r_as z (r_as z (r_nil (x_seq (c_ret ?_))))))
 refine ex_st (fun _ h=>st_some (f:=Aj.op g5) (a:=x6) (st_star_f (A:=Aj.fl b7 x6 g5) h)) ?_
 refine ex_st (fun _ h=>st_back ho8 h) ?_
 obtain rfl:=si hm19
 refine ex_st (pk 3 [1,2,0]) ?_
 exact x_r2 z (rv_t z) (rv_t z) le_ ⟨_,z,z,z,z⟩
def Cd(a0:An)(a1:Str):Option Int :=
 (BY a0 a1).bind fun r2=>(Bw a0 a1 4).bind fun r4=>(gi a0.door r4).bind fun x6=>if x6 then some (i64 ((r2.toNat:Int)+1)) else some (r2.toNat:Int)
theorem Cd.ok{G R F}(b0_:Nat)(a0:An)(g0_:An.G)(a1:Str)(r:Int)(hm:Cd a0 a1=some r):CO prog 216 [pt b0_ 0,vS a1] G R (Bk b0_ 250 (An.k a0 g0_)::OwL (OwS false 5 1 eY) [g0_.rows.1,g0_.rows.2.1,g0_.rows.2.2.1,g0_.rows.2.2.2] a0.rows::OwS true 4 1 eB g0_.door a0.door::F)
  (Ret fun u R' L'=>u=vI r∧R'=R∧L'=Bk b0_ 250 (An.k a0 g0_)::OwL (OwS false 5 1 eY) [g0_.rows.1,g0_.rows.2.1,g0_.rows.2.2.1,g0_.rows.2.2.2] a0.rows::OwS true 4 1 eB g0_.door a0.door::F):=by
 unfold Cd at hm
 refine co_ofN (N:=24) func216 z z ?_
 refine csr (r_as z (nssr (r_mv z (r_bin z z (bP_eqp underlying194) (nsq (c_ff z (c_skip (x_seq (csr (r_mv z (r_mv z ?_)))))))))))
 obtain ⟨r2,hr2,hm3⟩:=bs hm
 refine r_c (s_w (o_call ca208 z (BY.ok b0_ a0 g0_ a1 _ hr2))) ?_
 refine r_u (o_cv z (cYI underlying5 underlying3 r2)) (r_as z (r_nil (x_seq (c_seq (c_seq ?_)))))
 obtain ⟨r4,hr4,hm5⟩:=bs hm3
 obtain ⟨x6,hx6,hm7⟩:=bs hm5
 refine c_any mixed (effs:=[]) (V:=[]) ?_
 refine stn [0,1,3,7,0,0,48,127,255] [0,1,2,3,4,5,6,7,8] [] [_,_,_,_,_,_,_,_,_] (q_mv z z z (q_u z z (o_nc z) (q_fa z z fa250_3 z (q_ld z z 0 sc68 z z z (q_mv z z z (q_mv z z z (q_u z z (o_callqP ca207 z (Bw.ok b0_ a0 g0_ a1 4 _ hr4) id_ id_) (q_u z z (o_ixO 2 underlying68 kr z z z hx6) (q_u z z (o_ldO0 2 sc4 z z hx6 z z) qn))))))))) en ?_
 intro _
 refine ex_sub (E':=[(5,vI (r2.toNat:Int)),(20,vB x6)]) ⟨z,z,y_⟩ ?_
 refine x_seq ?_
 refine c_if (b:=x6) z (fun h8 =>?_) fun h8 =>?_
 ·have hm9:=ift hm7 h8
  refine c_reg (r_mv z (r_bin z z (bI_add _ 1) (r_as z (nsr (r_mv z (r_as z (r_nil (x_seq (c_ret ?_)))))))))
  obtain rfl:=si hm9
  exact x_r1 z (rv_t z) le_ ⟨_,z,z,z,z⟩
 have hm9:=iff_ hm7 h8
 refine c_skip (x_seq (csr (r_mv z (r_as z (r_nil (x_seq (c_ret ?_)))))))
 obtain rfl:=si hm9
 exact x_r1 z (rv_t z) le_ ⟨_,z,z,z,z⟩
def CL(a0:Ao)(a1:Str):Option (List Str×Ao) :=
 Option.bind (if decide (64<(a1.length:Int)) then some (true,a0) else (C0 a0 a1).bind fun r98=>some (r98.1,r98.2)) fun p6=>if p6.1 then some ([],p6.2) else om p6.2.s (none) fun x19=>(B4 x19 a1).bind fun r25=>om p6.2.r (none) fun x27=>(Ax x27 0 a1).bind fun r35=>(Aw r35.2 0).bind fun r42=>if decide (r42≤((Dn p6.2.most).Window)) then some ([],(⟨p6.2.most,(some r25),(some r35.2)⟩:Ao)) else (AF r35.2 0).bind fun r46=>(Dq (⟨p6.2.most,(some r25),(some r35.2)⟩:Ao)).bind fun r48=>if decide (r48≤p6.2.most) then (Ax r35.2 1 r46.1).bind fun r52=>some ([],(⟨p6.2.most,(some r25),(some r52.2)⟩:Ao)) else (DX (⟨p6.2.most,(some r25),(some r35.2)⟩:Ao)).bind fun r59=>Option.bind (if r59.2 then (Cd r25 r46.1).bind fun r92=>(Cd r25 r59.1).bind fun r94=>some (decide (r94<r92)) else some false) fun p61=>if p61 then (AV r35.2 r59.1).bind fun r67=>(Ax r67.2 1 r46.1).bind fun r74=>some ([r59.1],(⟨p6.2.most,(some r25),(some r74.2)⟩:Ao)) else (AV r35.2 r46.1).bind fun r82=>some ([r46.1],(⟨p6.2.most,(some r25),(some r82.2)⟩:Ao))
theorem CL.ok{G R F}(b0_:Nat)(a0:Ao)(g0_:Ao.G)(a1:Str)(r:List Str×Ao)(hm:CL a0 a1=some r):CO prog 168 [pt b0_ 0,vS a1] G R (Bk b0_ 196 [vI a0.most,g0_.s.1,g0_.r.1]::rO (An.op g0_.s.2) g0_.s.1 a0.s::rO (Aj.op g0_.r.2) g0_.r.1 a0.r::F)
  (Ret fun u R' L'=>∃(p0:Value) (q0:Ao.G),u=p0∧R'=R∧L'=OwS true 9 1 eS p0 r.1::Bk b0_ 196 [vI r.2.most,q0.s.1,q0.r.1]::rO (An.op q0.s.2) q0.s.1 r.2.s::rO (Aj.op q0.r.2) q0.r.1 r.2.r::F):=by
 obtain ⟨⟨pv1,g2⟩,⟨pv4,g5⟩⟩:=g0_
 unfold CL at hm
 refine co_ofN (N:=109) func168 z z ?_
 refine csr (r_as z (r_nil (x_seq (c_seq (c_seq ?_)))))
 obtain ⟨p6,hp14,hm15⟩:=bs hm
 refine cd_cut (fun x ks=>∀(g7:Ao.G),EX x .normal ks [(0,pt b0_ 0),(1,vS a1),(20,vB p6.1)] R (Bk b0_ 196 [vI p6.2.most,g7.s.1,g7.r.1]::rO (An.op g7.s.2) g7.s.1 p6.2.s::rO (Aj.op g7.r.2) g7.r.1 p6.2.r::F)) ?_ fun K16 =>?_
 rotate_left
 ·refine cd_by (decide (64<(a1.length:Int))) (fun h96 =>?_) fun h96 =>?_
  ·have hm97:=ift hp14 h96
   refine c_reg (r_mv z (r_bin z z (bP_eqp underlying142) (r_mv z ?_)))
   refine r_s (s_y z z z (o_mv z)) ?_
   refine r_s (s_y z z z (o_lenS underlying9 z)) ?_
   refine r_s (s_y z z z (o_bin z z (bI_gt _ 64))) ?_
   refine r_u (o_pf z z z) (r_mv z ?_)
   refine r_s (s_n z z h96) ?_
   refine r_s (s_n z z h96) ?_
   refine r_s (s_n z z h96) ?_
   refine r_u (o_pt z h96 z) (r_nil ?_)
   obtain rfl:=si hm97
   exact x_sub (K16 (⟨(pv1,g2),(pv4,g5)⟩:Ao.G)) ⟨z,z,z,y_⟩ id_
  have hm97:=iff_ hp14 h96
  refine c_reg (r_mv z (r_bin z z (bP_eqp underlying142) (r_mv z ?_)))
  refine r_s (s_y z z z (o_mv z)) ?_
  refine r_s (s_y z z z (o_lenS underlying9 z)) ?_
  refine r_s (s_y z z z (o_bin z z (bI_gt _ 64))) ?_
  refine r_u (o_pf z z z) (r_mv z ?_)
  refine r_s (s_y z z h96 (o_mv z)) ?_
  refine r_s (s_y z z h96 (o_mv z)) ?_
  obtain ⟨r98,hr98,hm106⟩:=bs hm97
  refine r_sw (s_yw z z h96 (o_call ca121 z (C0.ok b0_ a0 (⟨(pv1,g2),(pv4,g5)⟩:Ao.G) a1 _ hr98))) ?_
  rintro _ R _ _ ⟨⟨⟨pv101,g102⟩,⟨pv104,g105⟩⟩,rfl,rfl,rfl⟩
  refine r_u (o_pf z h96 z) (r_nil ?_)
  obtain rfl:=si hm106
  exact x_sub (K16 (⟨(pv101,g102),(pv104,g105)⟩:Ao.G)) ⟨z,z,z,y_⟩ id_
 intro g7
 obtain ⟨⟨pv9,g10⟩,⟨pv12,g13⟩⟩:=g7
 refine x_seq ?_
 refine c_if (b:=p6.1) z (fun h17 =>?_) fun h17 =>?_
 ·have hm18:=ift hm15 h17
  refine csr (r_as z (r_nil (x_seq (c_ret ?_))))
  refine ex_st (fun _ h=>st_nil (ap:=true) (T:=9) (sz:=1) (en:=eS) h) ?_
  obtain rfl:=si hm18
  exact x_r1 z (rv_t z) le_ ⟨_,z,(.slice none 0 0),(⟨(pv9,g10),(pv12,g13)⟩:Ao.G),z,z,z⟩
 have hm18:=iff_ hm15 h17
 refine c_skip (x_seq (c_seq ?_))
 refine cd_st (fun _ h=>mv1 h) ?_
 refine cd_opt (fun ho21 =>?_) (fun x19 b20 ho21 =>?_)
 ·rintro rfl
  have hm22:=om_n hm18 ho21
  cases hm22
 rintro rfl
 have hm22:=om_s hm18 ho21
 refine cd_st (fun _ h=>st_star_o h) ?_
 refine c_reg (r_mv z (r_nc z (r_fa fa196_1 z (r_ld 3 sc194 z z z (r_mv z ?_)))))
 obtain ⟨r25,hr25,hm26⟩:=bs hm22
 refine r_c (s_w (o_call ca162 z (B4.ok b20 _ g10 a1 _ hr25))) ?_
 refine r_nil (x_seq (c_seq ?_))
 refine cd_st (fun _ h=>mv4 h) ?_
 refine cd_opt (fun ho29 =>?_) (fun x27 b28 ho29 =>?_)
 ·rintro rfl
  have hm30:=om_n hm26 ho29
  cases hm30
 rintro rfl
 have hm30:=om_s hm26 ho29
 refine cd_st (fun _ h=>st_star_o h) ?_
 refine c_reg (r_mv z (r_nc z (r_fa fa196_2 z (r_ld 8 sc191 z z z (r_mv z ?_)))))
 obtain ⟨r35,hr35,hm41⟩:=bs hm30
 refine r_sw (s_w (o_call ca163 z (Ax.ok b28 _ g13 0 a1 _ hr35))) ?_
 rintro _ R _ _ ⟨g36,rfl,rfl,rfl⟩
 refine r_nil (x_seq (c_seq (c_seq ?_)))
 obtain ⟨r42,hr42,hm43⟩:=bs hm41
 refine c_any mixed (effs:=[]) (V:=[]) ?_
 refine stn mk40_ [0,1,2,3,4,5,6,7,8,9,10,11] [] [_,_,_,_,_,_,_,_,_,_,_,_] (q_mv z z z (q_u z z (o_nc z) (q_fa z z fa196_2 z (q_ld z z 8 sc191 z z z (q_u z z (o_callqP ca164 z (Aw.ok b28 _ g36 0 _ hr42) id_ id_) (q_mv z z z (q_u z z (o_nc z) (q_fa z z fa196_0 z (q_ld z z 8 sc3 z z z (q_u z z (o_callq ca165 z (Dn.ok p6.2.most _ z)) (q_u z z (o_fd (v:=vI ((Dn p6.2.most).Window)) z kr) (q_u z z (o_bin z z (bI_le _ _)) qn)))))))))))) en ?_
 intro _
 refine ex_sub (E':=[(0,pt b0_ 0),(44,vB (decide (r42≤((Dn p6.2.most).Window))))]) ⟨z,z,y_⟩ ?_
 refine x_seq ?_
 refine c_if (b:=decide (r42≤((Dn p6.2.most).Window))) z (fun h44 =>?_) fun h44 =>?_
 ·have hm45:=ift hm43 h44
  refine csr (r_as z (r_nil (x_seq (c_ret ?_))))
  refine ex_st (fun _ h=>st_nil (ap:=true) (T:=9) (sz:=1) (en:=eS) h) ?_
  refine ex_st (fun _ h=>mv8 (mv8 (mv8 h))) ?_
  refine ex_st (fun _ h=>st_some (f:=An.op g10) (a:=r25) (st_star_f (A:=An.fl b20 r25 g10) h)) ?_
  refine ex_st (fun _ h=>mv6 (mv6 (mv6 (mv6 (mv6 h))))) ?_
  refine ex_st (fun _ h=>st_some (f:=Aj.op g36) (a:=r35.2) (st_star_f (A:=Aj.fl b28 r35.2 g36) h)) ?_
  obtain rfl:=si hm45
  refine ex_st (pk 4 [2,3,1,0]) ?_
  exact x_r1 z (rv_t z) le_ ⟨_,z,(.slice none 0 0),(⟨(pt b20 0,g10),(pt b28 0,g36)⟩:Ao.G),z,z,z⟩
 have hm45:=iff_ hm43 h44
 refine c_skip (x_seq (csr (r_mv z (r_nc z (r_fa fa196_2 z (r_ld 8 sc191 z z z ?_))))))
 obtain ⟨r46,hr46,hm47⟩:=bs hm45
 refine r_c (s_w (o_call ca166 z (AF.ok b28 _ g36 0 _ hr46))) ?_
 refine r_mv z (r_ext z z (r_ext z z (r_as z (r_as z (r_nil (x_seq (c_seq (c_seq ?_))))))))
 obtain ⟨r48,hr48,hm49⟩:=bs hm47
 refine c_any mixed (effs:=[]) (V:=[]) ?_
 refine stn [0,1,0,4,12,28,63] [0,1,2,3,4,5,6] [] [_,_,_,_,_,_,_] (q_mv z z z (q_u z z (o_callqP ca158 z (Dq.ok b0_ (⟨p6.2.most,(some r25),(some r35.2)⟩:Ao) (⟨(pt b20 0,g10),(pt b28 0,g36)⟩:Ao.G) _ hr48) (fun _ h=>mv2 (mv1 (st_some (f:=Aj.op g36) (a:=r35.2) (st_star_f (A:=Aj.fl b28 r35.2 g36) (mv5 (mv5 (mv5 (mv5 (mv5 (st_some (f:=An.op g10) (a:=r25) (st_star_f (A:=An.fl b20 r25 g10) (mv7 (mv7 (mv7 h)))))))))))))) (fun _ h=>st_pk 9 [0,1,2,3,4,5,6,7,8] (by decide) (st_star_o (st_some_o (mv4 (st_star_o (st_some_o (mv1 h)))))))) (q_mv z z z (q_u z z (o_nc z) (q_fa z z fa196_0 z (q_ld z z 8 sc3 z z z (q_u z z (o_bin z z (bI_le _ _)) qn))))))) en ?_
 intro _
 refine ex_sub (E':=[(0,pt b0_ 0),(5,vS r46.1),(59,vB (decide (r48≤p6.2.most)))]) ⟨z,z,z,y_⟩ ?_
 refine x_seq ?_
 refine c_if (b:=decide (r48≤p6.2.most)) z (fun h50 =>?_) fun h50 =>?_
 ·have hm51:=ift hm49 h50
  refine csr (r_mv z (r_nc z (r_fa fa196_2 z (r_ld 8 sc191 z z z (r_mv z ?_)))))
  obtain ⟨r52,hr52,hm58⟩:=bs hm51
  refine r_sw (s_w (o_call ca163 z (Ax.ok b28 _ g36 1 _ _ hr52))) ?_
  rintro _ R _ _ ⟨g53,rfl,rfl,rfl⟩
  refine nsr (r_as z (r_nil (x_seq (c_ret ?_))))
  refine ex_st (fun _ h=>st_nil (ap:=true) (T:=9) (sz:=1) (en:=eS) h) ?_
  refine ex_st (fun _ h=>mv8 (mv8 (mv8 h))) ?_
  refine ex_st (fun _ h=>st_some (f:=An.op g10) (a:=r25) (st_star_f (A:=An.fl b20 r25 g10) h)) ?_
  refine ex_st (fun _ h=>mv6 (mv6 (mv6 (mv6 (mv6 h))))) ?_
  refine ex_st (fun _ h=>st_some (f:=Aj.op g53) (a:=r52.2) (st_star_f (A:=Aj.fl b28 r52.2 g53) h)) ?_
  obtain rfl:=si hm58
  refine ex_st (pk 4 [2,3,1,0]) ?_
  exact x_r1 z (rv_t z) le_ ⟨_,z,(.slice none 0 0),(⟨(pt b20 0,g10),(pt b28 0,g53)⟩:Ao.G),z,z,z⟩
 have hm51:=iff_ hm49 h50
 refine c_skip (x_seq (csr (r_mv z ?_)))
 refine rl_st (fun _ h=>mv7 (mv7 (mv7 h))) ?_
 refine rl_st (fun _ h=>st_some (f:=An.op g10) (a:=r25) (st_star_f (A:=An.fl b20 r25 g10) h)) ?_
 refine rl_st (fun _ h=>mv5 (mv5 (mv5 (mv5 (mv5 h))))) ?_
 refine rl_st (fun _ h=>st_some (f:=Aj.op g36) (a:=r35.2) (st_star_f (A:=Aj.fl b28 r35.2 g36) h)) ?_
 obtain ⟨r59,hr59,hm60⟩:=bs hm51
 refine rl_st (fun _ h=>mv2 (mv1 h)) ?_
 refine r_c (s_w (o_call ca215 z (DX.ok b0_ (⟨p6.2.most,(some r25),(some r35.2)⟩:Ao) (⟨(pt b20 0,g10),(pt b28 0,g36)⟩:Ao.G) _ hr59))) ?_
 refine r_mv z (r_ext z z (r_ext z z (r_as z (r_as z (r_nil (x_seq (c_seq (c_seq ?_))))))))
 refine cd_st (fun _ h=>mv1 h) ?_
 refine cd_st (fun _ h=>st_some_o h) ?_
 refine cd_st (fun _ h=>st_star_o h) ?_
 obtain ⟨p61,hp62,hm63⟩:=bs hm60
 refine cd_join (E':=[(0,pt b0_ 0),(5,vS r46.1),(7,vS r59.1),(86,vB p61)]) (L':=Bk b20 250 (An.k r25 g10)::Bk b0_ 196 [vI p6.2.most,pt b20 0,pt b28 0]::OwL (OwS false 5 1 eY) [g10.rows.1,g10.rows.2.1,g10.rows.2.2.1,g10.rows.2.2.2] r25.rows::OwS true 4 1 eB g10.door r25.door::rO (Aj.op g36) (pt b28 0) (some r35.2)::F) ?_ fun K64 =>?_
 rotate_left
 ·refine cd_by r59.2 (fun h90 =>?_) fun h90 =>?_
  ·have hm91:=ift hp62 h90
   obtain ⟨r92,hr92,hm93⟩:=bs hm91
   obtain ⟨r94,hr94,hm95⟩:=bs hm93
   refine c_any mixed (effs:=[]) (V:=[]) ?_
   refine stn mk43_ [0,1,2,3,4,5,6,7,8,9,10,11,12,13,14,15] [] [_,_,_,_,_,_,_,_,_,_,_,_,_,_,_,_] (q_mv z z z (q_mv z z z (q_y z z z z h90 (o_mv z) (q_y z z z z h90 (o_nc z) (q_y z z z z h90 (o_fa fa196_1 z) (q_y z z z z h90 (o_ld 3 sc194 z z z) (q_y z z z z h90 (o_mv z) (q_y z z z z h90 (o_callqP ca216 z (Cd.ok b20 _ g10 _ _ hr92) id_ id_) (q_y z z z z h90 (o_mv z) (q_y z z z z h90 (o_nc z) (q_y z z z z h90 (o_fa fa196_1 z) (q_y z z z z h90 (o_ld 3 sc194 z z z) (q_y z z z z h90 (o_mv z) (q_y z z z z h90 (o_callqP ca216 z (Cd.ok b20 _ g10 _ _ hr94) id_ id_) (q_y z z z z h90 (o_bin z z (bI_gt _ _)) (q_u z z (o_pt z h90 z) qn)))))))))))))))) en ?_
   intro _
   refine ex_sub (E':=[(0,pt b0_ 0),(5,vS r46.1),(7,vS r59.1),(86,vB (decide (r94<r92)))]) ⟨z,z,z,z,y_⟩ ?_
   obtain rfl:=si hm95
   exact x_sub K64 ⟨z,z,z,z,y_⟩ (pk 5 [0,3,1,2,4])
  have hm91:=iff_ hp62 h90
  refine c_any mixed (effs:=[]) (V:=[]) ?_
  refine stn mk43_ [0,1,2,3,4,5,6,7,8,9,10,11,12,13,14,15] [] [_,_,_,_,_,_,_,_,_,_,_,_,_,_,_,_] (q_mv z z z (q_mv z z z (q_n z z z z h90 (q_n z z z z h90 (q_n z z z z h90 (q_n z z z z h90 (q_n z z z z h90 (q_n z z z z h90 (q_n z z z z h90 (q_n z z z z h90 (q_n z z z z h90 (q_n z z z z h90 (q_n z z z z h90 (q_n z z z z h90 (q_n z z z z h90 (q_u z z (o_pf z h90 z) qn)))))))))))))))) en ?_
  intro _
  refine ex_sub (E':=[(0,pt b0_ 0),(5,vS r46.1),(7,vS r59.1),(86,vB false)]) ⟨z,z,z,z,y_⟩ ?_
  obtain rfl:=si hm91
  exact x_sub K64 ⟨z,z,z,z,y_⟩ (pk 5 [0,3,1,2,4])
 refine x_seq ?_
 refine c_if (b:=p61) z (fun h65 =>?_) fun h65 =>?_
 ·have hm66:=ift hm63 h65
  refine csr (r_mv z (r_nc z (r_fa fa196_2 z (r_ld 1 sc191 z z z (r_mv z ?_)))))
  refine rl_st (fun _ h=>mv4 h) ?_
  refine rl_st (fun _ h=>st_some_o h) ?_
  refine rl_st (fun _ h=>st_star_o h) ?_
  obtain ⟨r67,hr67,hm73⟩:=bs hm66
  refine r_sw (s_w (o_call ca117 z (AV.ok b28 _ g36 _ _ hr67))) ?_
  rintro _ R _ _ ⟨g68,rfl,rfl,rfl⟩
  refine nsr (r_mv z (r_nc z (r_fa fa196_2 z (r_ld 6 sc191 z z z (r_mv z ?_)))))
  obtain ⟨r74,hr74,hm80⟩:=bs hm73
  refine r_sw (s_w (o_call ca163 z (Ax.ok b28 _ g68 1 _ _ hr74))) ?_
  rintro _ R _ _ ⟨g75,rfl,rfl,rfl⟩
  refine nsr (r_mv z ?_)
  refine r_sw (s_w (o_bsl (en:=eS) (sz:=1) (e:=9) (cs:=[vS r59.1]) (r:=[r59.1]) z kr z (by decide) z (fun _=>z))) ?_
  rintro v81 R _ _ ⟨rfl,rfl⟩
  refine r_as z (r_nil (x_seq (c_ret ?_)))
  refine ex_st (fun _ h=>mv8 (mv9 (mv9 h))) ?_
  refine ex_st (fun _ h=>st_some (f:=An.op g10) (a:=r25) (st_star_f (A:=An.fl b20 r25 g10) h)) ?_
  refine ex_st (fun _ h=>mv6 (mv6 (mv6 (mv6 (mv6 h))))) ?_
  refine ex_st (fun _ h=>st_some (f:=Aj.op g75) (a:=r74.2) (st_star_f (A:=Aj.fl b28 r74.2 g75) h)) ?_
  obtain rfl:=si hm80
  refine ex_st (pk 4 [2,3,1,0]) ?_
  exact x_r1 z (rv_t z) le_ ⟨_,z,v81,(⟨(pt b20 0,g10),(pt b28 0,g75)⟩:Ao.G),z,z,z⟩
 have hm66:=iff_ hm63 h65
 refine c_skip (x_seq (csr (r_mv z (r_nc z (r_fa fa196_2 z (r_ld 1 sc191 z z z (r_mv z ?_)))))))
 refine rl_st (fun _ h=>mv4 h) ?_
 refine rl_st (fun _ h=>st_some_o h) ?_
 refine rl_st (fun _ h=>st_star_o h) ?_
 obtain ⟨r82,hr82,hm88⟩:=bs hm66
 refine r_sw (s_w (o_call ca117 z (AV.ok b28 _ g36 _ _ hr82))) ?_
 rintro _ R _ _ ⟨g83,rfl,rfl,rfl⟩
 refine nsr (r_mv z ?_)
 refine r_sw (s_w (o_bsl (en:=eS) (sz:=1) (e:=9) (cs:=[vS r46.1]) (r:=[r46.1]) z kr z (by decide) z (fun _=>z))) ?_
 rintro v89 R _ _ ⟨rfl,rfl⟩
 refine r_as z (r_nil (x_seq (c_ret ?_)))
 refine ex_st (fun _ h=>mv8 (mv9 (mv9 h))) ?_
 refine ex_st (fun _ h=>st_some (f:=An.op g10) (a:=r25) (st_star_f (A:=An.fl b20 r25 g10) h)) ?_
 refine ex_st (fun _ h=>mv6 (mv6 (mv6 (mv6 (mv6 h))))) ?_
 refine ex_st (fun _ h=>st_some (f:=Aj.op g83) (a:=r82.2) (st_star_f (A:=Aj.fl b28 r82.2 g83) h)) ?_
 obtain rfl:=si hm88
 refine ex_st (pk 4 [2,3,1,0]) ?_
 exact x_r1 z (rv_t z) le_ ⟨_,z,v89,(⟨(pt b20 0,g10),(pt b28 0,g83)⟩:Ao.G),z,z,z⟩
def Ba(a0:Ah)(a1:Str):Option (List Str×Ah) :=
 if ((AA a0)==1) then om a0.a (none) fun x8=>(CJ x8 a1).bind fun r15=>some (r15.1,(⟨a0.kind,(some r15.2),a0.t⟩:Ah)) else if ((AA a0)==2) then om a0.t (none) fun x24=>(CL x24 a1).bind fun r34=>some (r34.1,(⟨a0.kind,a0.a,(some r34.2)⟩:Ah)) else some ([],a0)
theorem Ba.ok{G R F}(b0_:Nat)(a0:Ah)(g0_:Ah.G)(a1:Str)(r:List Str×Ah)(hm:Ba a0 a1=some r):CO prog 123 [pt b0_ 0,vS a1] G R (Bk b0_ 144 [vI a0.kind,g0_.a.1,g0_.t.1]::rO (Aq.op g0_.a.2) g0_.a.1 a0.a::rO (Ao.op g0_.t.2) g0_.t.1 a0.t::F)
  (Ret fun u R' L'=>∃(p0:Value) (q0:Ah.G),u=p0∧R'=R∧L'=OwS true 9 1 eS p0 r.1::Bk b0_ 144 [vI r.2.kind,q0.a.1,q0.t.1]::rO (Aq.op q0.a.2) q0.a.1 r.2.a::rO (Ao.op q0.t.2) q0.t.1 r.2.t::F):=by
 obtain ⟨⟨pv1,g2⟩,⟨pv4,g5⟩⟩:=g0_
 unfold Ba at hm
 refine co_ofN (N:=23) func123 z z ?_
 refine csr (r_as z (nssr (r_mv z ?_)))
 refine r_c (s_w (o_call ca67 z (AA.ok b0_ a0 (⟨(pv1,g2),(pv4,g5)⟩:Ah.G) _ z))) ?_
 refine r_nil (x_seq (c_blk (csr (r_bin z z (bI_eq _ 1) (r_as z (nsq ?_))))))
 refine c_if (b:=((AA a0)==1)) z (fun h6 =>?_) fun h6 =>?_
 ·have hm7:=ift hm h6
  refine c_seq ?_
  refine cd_st (fun _ h=>mv1 h) ?_
  refine cd_opt (fun ho10 =>?_) (fun x8 b9 ho10 =>?_)
  ·rintro rfl
   have hm11:=om_n hm7 ho10
   cases hm11
  rintro rfl
  have hm11:=om_s hm7 ho10
  obtain ⟨⟨pv13,g14⟩⟩:=g2
  refine cd_st (fun _ h=>st_star_o h) ?_
  refine c_reg (r_mv z (r_nc z (r_fa fa144_1 z (r_ld 2 sc141 z z z (r_mv z ?_)))))
  obtain ⟨r15,hr15,hm21⟩:=bs hm11
  refine r_sw (s_w (o_call ca167 z (CJ.ok b9 x8 (⟨(pv13,g14)⟩:Aq.G) a1 _ hr15))) ?_
  rintro v16 R _ _ ⟨_,⟨⟨pv19,g20⟩⟩,rfl,rfl,rfl⟩
  refine r_as z (r_nil (x_seq (c_ret ?_)))
  refine ex_st (fun _ h=>mv2 (mv2 h)) ?_
  refine ex_st (fun _ h=>st_some (f:=Aq.op (⟨(pv19,g20)⟩:Aq.G)) (a:=r15.2) (st_star_f (A:=Aq.fl b9 r15.2 (⟨(pv19,g20)⟩:Aq.G)) h)) ?_
  obtain rfl:=si hm21
  refine ex_st (pk 4 [1,2,0,3]) ?_
  exact x_r1 z (rv_t z) le_ ⟨_,z,v16,(⟨(pt b9 0,(⟨(pv19,g20)⟩:Aq.G)),(pv4,g5)⟩:Ah.G),z,z,z⟩
 have hm7:=iff_ hm h6
 refine csr (r_bin z z (bI_eq _ 2) (r_as z (nsq ?_)))
 refine c_if (b:=((AA a0)==2)) z (fun h22 =>?_) fun h22 =>?_
 rotate_left
 ·have hm23:=iff_ hm7 h22
  refine c_skip (x_blk (x_seq (csr (r_as z (r_nil (x_seq (c_ret ?_)))))))
  refine ex_st (fun _ h=>st_nil (ap:=true) (T:=9) (sz:=1) (en:=eS) h) ?_
  obtain rfl:=si hm23
  exact x_r1 z (rv_t z) le_ ⟨_,z,(.slice none 0 0),(⟨(pv1,g2),(pv4,g5)⟩:Ah.G),z,z,z⟩
 have hm23:=ift hm7 h22
 refine c_seq ?_
 refine cd_st (fun _ h=>mv2 h) ?_
 refine cd_opt (fun ho26 =>?_) (fun x24 b25 ho26 =>?_)
 ·rintro rfl
  have hm27:=om_n hm23 ho26
  cases hm27
 rintro rfl
 have hm27:=om_s hm23 ho26
 obtain ⟨⟨pv29,g30⟩,⟨pv32,g33⟩⟩:=g5
 refine cd_st (fun _ h=>st_star_o h) ?_
 refine c_reg (r_mv z (r_nc z (r_fa fa144_2 z (r_ld 3 sc142 z z z (r_mv z ?_)))))
 obtain ⟨r34,hr34,hm43⟩:=bs hm27
 refine r_sw (s_w (o_call ca168 z (CL.ok b25 _ (⟨(pv29,g30),(pv32,g33)⟩:Ao.G) a1 _ hr34))) ?_
 rintro v35 R _ _ ⟨_,⟨⟨pv38,g39⟩,⟨pv41,g42⟩⟩,rfl,rfl,rfl⟩
 refine r_as z (r_nil (x_seq (c_ret ?_)))
 refine ex_st (fun _ h=>mv3 (mv3 (mv3 h))) ?_
 refine ex_st (fun _ h=>st_some (f:=Ao.op (⟨(pv38,g39),(pv41,g42)⟩:Ao.G)) (a:=r34.2) (st_star_f (A:=Ao.fl b25 r34.2 (⟨(pv38,g39),(pv41,g42)⟩:Ao.G)) h)) ?_
 obtain rfl:=si hm43
 refine ex_st (pk 4 [1,2,3,0]) ?_
 exact x_r1 z (rv_t z) le_ ⟨_,z,v35,(⟨(pv1,g2),(pt b25 0,(⟨(pv38,g39),(pv41,g42)⟩:Ao.G))⟩:Ah.G),z,z,z⟩
def Dc(a0:Am):Int :=
 a0.bytes
theorem Dc.ok{G R F}(b0_:Nat)(a0:Am)(g0_:Am.G)(r:Int)(hm:Dc a0=r):CO prog 107 [pt b0_ 0] G R (Bk b0_ 138 [g0_.m,vI a0.bytes]::OwM vS Ai.v g0_.m a0.m::F)
  (Ret fun u R' L'=>u=vI r∧R'=R∧L'=Bk b0_ 138 [g0_.m,vI a0.bytes]::OwM vS Ai.v g0_.m a0.m::F):=by
 unfold Dc at hm
 refine co_ofN (N:=9) func107 z z ?_
 refine csr (r_as z (nssr (r_mv z (r_bin z z (bP_eqp underlying92) (nsq (c_ff z (c_skip (x_seq (csr (r_mv z (r_nc z (r_fa fa138_1 z (r_ld 0 sc3 z z z (r_as z (r_nil (x_seq (c_ret ?_)))))))))))))))))
 subst hm
 exact x_r1 z (rv_t z) le_ ⟨_,z,z,z,z⟩
def DC(a0:Aq):Option (Str×Bool×Aq) :=
 (CG a0).bind fun r3=>if (r3==0) then some ([],false,a0) else (Bq a0 false).bind fun r7=>(gi r7.1 0).bind fun x14=>some (x14,true,r7.2)
theorem DC.ok{G R F}(b0_:Nat)(a0:Aq)(g0_:Aq.G)(r:Str×Bool×Aq)(hm:DC a0=some r):CO prog 169 [pt b0_ 0] G R (Bk b0_ 193 [vI a0.most,vI a0.target,g0_.r.1]::rO (Aj.op g0_.r.2) g0_.r.1 a0.r::F)
  (Ret fun u R' L'=>∃(q0:Aq.G),u = .tuple #[vS r.1,vB r.2.1]∧R'=R∧L'=Bk b0_ 193 [vI r.2.2.most,vI r.2.2.target,q0.r.1]::rO (Aj.op q0.r.2) q0.r.1 r.2.2.r::F):=by
 obtain ⟨⟨pv1,g2⟩⟩:=g0_
 unfold DC at hm
 refine co_ofN (N:=11) func169 z z ?_
 refine csr (r_as z (r_as z (nssr (r_mv z ?_))))
 obtain ⟨r3,hr3,hm4⟩:=bs hm
 refine r_c (s_w (o_call ca157 z (CG.ok b0_ a0 (⟨(pv1,g2)⟩:Aq.G) _ hr3))) ?_
 refine r_bin z z (bI_eq r3 0) (nsq ?_)
 refine c_if (b:=(r3==0)) z (fun h5 =>?_) fun h5 =>?_
 ·have hm6:=ift hm4 h5
  refine csr (r_as z (r_as z (r_nil (x_seq (c_ret ?_)))))
  obtain rfl:=si hm6
  exact x_r2 z (rv_t z) (rv_t z) le_ ⟨_,z,(⟨(pv1,g2)⟩:Aq.G),z,z,z⟩
 have hm6:=iff_ hm4 h5
 refine c_skip (x_seq (csr (r_mv z ?_)))
 obtain ⟨r7,hr7,hm13⟩:=bs hm6
 refine r_sw (s_w (o_call ca214 z (Bq.ok b0_ a0 (⟨(pv1,g2)⟩:Aq.G) _ _ hr7))) ?_
 rintro v8 R _ _ ⟨_,⟨⟨pv11,g12⟩⟩,rfl,rfl,rfl⟩
 obtain ⟨x14,hx14,hm15⟩:=bs hm13
 refine r_u (o_ixO 0 underlying98 kr z z z hx14) (r_u (o_ldO0 0 sc9 z z hx14 z z) (r_as z (r_as z (r_nil (x_seq (c_ret ?_))))))
 obtain rfl:=si hm15
 refine ex_st (pk 3 [1,2]) ?_
 exact x_r2 z (rv_t z) (rv_t z) le_ ⟨_,z,(⟨(pv11,g12)⟩:Aq.G),z,z,z⟩
def DV(a0:Ao):Option (Str×Bool×Ao) :=
 (Dq a0).bind fun r6=>if (r6==0) then some ([],false,a0) else om a0.r (none) fun x10=>(AF x10 1).bind fun r18=>Option.bind (if !r18.2 then (AF x10 0).bind fun r41=>some (r41.1,r41.2) else some (r18.1,r18.2)) fun p20=>Option.bind (if !p20.2 then (AF x10 2).bind fun r37=>some r37.1 else some p20.1) fun p24=>(AV x10 p24).bind fun r28=>some (p24,true,(⟨a0.most,a0.s,(some r28.2)⟩:Ao))
theorem DV.ok{G R F}(b0_:Nat)(a0:Ao)(g0_:Ao.G)(r:Str×Bool×Ao)(hm:DV a0=some r):CO prog 170 [pt b0_ 0] G R (Bk b0_ 196 [vI a0.most,g0_.s.1,g0_.r.1]::rO (An.op g0_.s.2) g0_.s.1 a0.s::rO (Aj.op g0_.r.2) g0_.r.1 a0.r::F)
  (Ret fun u R' L'=>∃(q0:Ao.G),u = .tuple #[vS r.1,vB r.2.1]∧R'=R∧L'=Bk b0_ 196 [vI r.2.2.most,q0.s.1,q0.r.1]::rO (An.op q0.s.2) q0.s.1 r.2.2.s::rO (Aj.op q0.r.2) q0.r.1 r.2.2.r::F):=by
 obtain ⟨⟨pv1,g2⟩,⟨pv4,g5⟩⟩:=g0_
 unfold DV at hm
 refine co_ofN (N:=44) func170 z z ?_
 refine csr (r_as z (r_as z (nssr (r_mv z ?_))))
 obtain ⟨r6,hr6,hm7⟩:=bs hm
 refine r_c (s_w (o_call ca158 z (Dq.ok b0_ a0 (⟨(pv1,g2),(pv4,g5)⟩:Ao.G) _ hr6))) ?_
 refine r_bin z z (bI_eq r6 0) (nsq ?_)
 refine c_if (b:=(r6==0)) z (fun h8 =>?_) fun h8 =>?_
 ·have hm9:=ift hm7 h8
  refine csr (r_as z (r_as z (r_nil (x_seq (c_ret ?_)))))
  obtain rfl:=si hm9
  exact x_r2 z (rv_t z) (rv_t z) le_ ⟨_,z,(⟨(pv1,g2),(pv4,g5)⟩:Ao.G),z,z,z⟩
 have hm9:=iff_ hm7 h8
 refine c_skip (x_seq (c_seq ?_))
 refine cd_st (fun _ h=>mv2 h) ?_
 refine cd_opt (fun ho12 =>?_) (fun x10 b11 ho12 =>?_)
 ·rintro rfl
  have hm13:=om_n hm9 ho12
  cases hm13
 rintro rfl
 have hm13:=om_s hm9 ho12
 refine cd_st (fun _ h=>st_star_o h) ?_
 refine c_reg (r_mv z (r_nc z (r_fa fa196_2 z (r_ld 5 sc191 z z z ?_))))
 obtain ⟨r18,hr18,hm19⟩:=bs hm13
 refine r_c (s_w (o_call ca166 z (AF.ok b11 _ g5 1 _ hr18))) ?_
 refine r_mv z (r_ext z z (r_ext z z (r_as z (r_as z (nssr (r_mv z ?_))))))
 refine r_u (o_not z) (nsq ?_)
 obtain ⟨p20,hp21,hm22⟩:=bs hm19
 refine cd_join (E':=[(0,pt b0_ 0),(4,vS p20.1),(5,vB p20.2)]) (L':=Bk b11 237 (Aj.k x10 g5)::Bk b0_ 196 [vI a0.most,pv1,pt b11 0]::OwS true 240 4 Av.c g5.slots x10.slots::OwS true 3 1 eI g5.free x10.free::OwM vS vI g5.at_ x10.at_::OwS true 3 1 eI g5.many x10.many::rO (An.op g2) pv1 a0.s::F) ?_ fun K23 =>?_
 rotate_left
 ·refine c_if (b := !r18.2) z (fun h39 =>?_) fun h39 =>?_
  ·have hm40:=ift hp21 h39
   refine c_reg (r_mv z (r_nc z (r_fa fa196_2 z (r_ld 5 sc191 z z z ?_))))
   obtain ⟨r41,hr41,hm42⟩:=bs hm40
   refine r_c (s_w (o_call ca166 z (AF.ok b11 _ g5 0 _ hr41))) ?_
   refine r_mv z (r_ext z z (r_ext z z (r_as z (r_as z (r_nil ?_)))))
   obtain rfl:=si hm42
   exact x_sub K23 ⟨z,z,z,y_⟩ (pk 7 [0,5,1,2,3,4,6])
  have hm40:=iff_ hp21 h39
  refine c_skip ?_
  obtain rfl:=si hm40
  exact x_sub K23 ⟨z,z,z,y_⟩ (pk 7 [0,5,1,2,3,4,6])
 refine x_seq (c_seq (csr (r_mv z ?_)))
 refine r_u (o_not z) (nsq ?_)
 obtain ⟨p24,hp25,hm26⟩:=bs hm22
 refine cd_join (E':=[(0,pt b0_ 0),(4,vS p24)]) (L':=Bk b11 237 (Aj.k x10 g5)::Bk b0_ 196 [vI a0.most,pv1,pt b11 0]::OwS true 240 4 Av.c g5.slots x10.slots::OwS true 3 1 eI g5.free x10.free::OwM vS vI g5.at_ x10.at_::OwS true 3 1 eI g5.many x10.many::rO (An.op g2) pv1 a0.s::F) ?_ fun K27 =>?_
 ·refine x_seq (csr (r_mv z (r_nc z (r_fa fa196_2 z (r_ld 1 sc191 z z z (r_mv z ?_))))))
  obtain ⟨r28,hr28,hm34⟩:=bs hm26
  refine rl_st (fun _ h=>mv4 (mv5 (mv5 (mv5 (mv5 h))))) ?_
  refine r_sw (s_w (o_call ca117 z (AV.ok b11 _ g5 _ _ hr28))) ?_
  rintro _ R _ _ ⟨g29,rfl,rfl,rfl⟩
  refine nsr (r_mv z (r_as z (r_as z (r_nil (x_seq (c_ret ?_))))))
  refine ex_st (fun _ h=>st_some (f:=Aj.op g29) (a:=r28.2) (st_star_f (A:=Aj.fl b11 r28.2 g29) h)) ?_
  obtain rfl:=si hm34
  refine ex_st (pk 3 [1,2,0]) ?_
  exact x_r2 z (rv_t z) (rv_t z) le_ ⟨_,z,(⟨(pv1,g2),(pt b11 0,g29)⟩:Ao.G),z,z,z⟩
 refine c_if (b := !p20.2) z (fun h35 =>?_) fun h35 =>?_
 ·have hm36:=ift hp25 h35
  refine c_reg (r_mv z (r_nc z (r_fa fa196_2 z (r_ld 1 sc191 z z z ?_))))
  obtain ⟨r37,hr37,hm38⟩:=bs hm36
  refine rl_st (fun _ h=>mv4 (mv5 (mv5 (mv5 (mv5 h))))) ?_
  refine r_c (s_w (o_call ca166 z (AF.ok b11 _ g5 2 _ hr37))) ?_
  refine r_mv z (r_ext z z (r_ext z z (r_as z (r_nil ?_))))
  obtain rfl:=si hm38
  exact x_sub K27 ⟨z,z,y_⟩ (pk 7 [0,5,1,2,3,4,6])
 have hm36:=iff_ hp25 h35
 refine c_skip ?_
 obtain rfl:=si hm36
 exact x_sub K27 ⟨z,z,y_⟩ id_
def BL(a0:Ah):Option (Str×Bool×Ah) :=
 if ((AA a0)==1) then om a0.a (none) fun x8=>(DC x8).bind fun r15=>some (r15.1,r15.2.1,(⟨a0.kind,(some r15.2.2),a0.t⟩:Ah)) else if ((AA a0)==2) then om a0.t (none) fun x23=>(DV x23).bind fun r33=>some (r33.1,r33.2.1,(⟨a0.kind,a0.a,(some r33.2.2)⟩:Ah)) else some ([],false,a0)
theorem BL.ok{G R F}(b0_:Nat)(a0:Ah)(g0_:Ah.G)(r:Str×Bool×Ah)(hm:BL a0=some r):CO prog 124 [pt b0_ 0] G R (Bk b0_ 144 [vI a0.kind,g0_.a.1,g0_.t.1]::rO (Aq.op g0_.a.2) g0_.a.1 a0.a::rO (Ao.op g0_.t.2) g0_.t.1 a0.t::F)
  (Ret fun u R' L'=>∃(q0:Ah.G),u = .tuple #[vS r.1,vB r.2.1]∧R'=R∧L'=Bk b0_ 144 [vI r.2.2.kind,q0.a.1,q0.t.1]::rO (Aq.op q0.a.2) q0.a.1 r.2.2.a::rO (Ao.op q0.t.2) q0.t.1 r.2.2.t::F):=by
 obtain ⟨⟨pv1,g2⟩,⟨pv4,g5⟩⟩:=g0_
 unfold BL at hm
 refine co_ofN (N:=24) func124 z z ?_
 refine csr (r_as z (r_as z (nssr (r_mv z ?_))))
 refine r_c (s_w (o_call ca67 z (AA.ok b0_ a0 (⟨(pv1,g2),(pv4,g5)⟩:Ah.G) _ z))) ?_
 refine r_nil (x_seq (c_blk (csr (r_bin z z (bI_eq _ 1) (r_as z (nsq ?_))))))
 refine c_if (b:=((AA a0)==1)) z (fun h6 =>?_) fun h6 =>?_
 ·have hm7:=ift hm h6
  refine c_seq ?_
  refine cd_st (fun _ h=>mv1 h) ?_
  refine cd_opt (fun ho10 =>?_) (fun x8 b9 ho10 =>?_)
  ·rintro rfl
   have hm11:=om_n hm7 ho10
   cases hm11
  rintro rfl
  have hm11:=om_s hm7 ho10
  obtain ⟨⟨pv13,g14⟩⟩:=g2
  refine cd_st (fun _ h=>st_star_o h) ?_
  refine c_reg (r_mv z (r_nc z (r_fa fa144_1 z (r_ld 2 sc141 z z z ?_))))
  obtain ⟨r15,hr15,hm20⟩:=bs hm11
  refine r_sw (s_w (o_call ca169 z (DC.ok b9 x8 (⟨(pv13,g14)⟩:Aq.G) _ hr15))) ?_
  rintro _ R _ _ ⟨⟨⟨pv18,g19⟩⟩,rfl,rfl,rfl⟩
  refine r_ext z z (r_ext z z (r_as z (r_as z (r_nil (x_seq (c_ret ?_))))))
  refine ex_st (fun _ h=>st_some (f:=Aq.op (⟨(pv18,g19)⟩:Aq.G)) (a:=r15.2.2) (st_star_f (A:=Aq.fl b9 r15.2.2 (⟨(pv18,g19)⟩:Aq.G)) h)) ?_
  obtain rfl:=si hm20
  refine ex_st (pk 3 [1,0,2]) ?_
  exact x_r2 z (rv_t z) (rv_t z) le_ ⟨_,z,(⟨(pt b9 0,(⟨(pv18,g19)⟩:Aq.G)),(pv4,g5)⟩:Ah.G),z,z,z⟩
 have hm7:=iff_ hm h6
 refine csr (r_bin z z (bI_eq _ 2) (r_as z (nsq ?_)))
 refine c_if (b:=((AA a0)==2)) z (fun h21 =>?_) fun h21 =>?_
 rotate_left
 ·have hm22:=iff_ hm7 h21
  refine c_skip (x_blk (x_seq (csr (r_as z (r_as z (r_nil (x_seq (c_ret ?_))))))))
  obtain rfl:=si hm22
  exact x_r2 z (rv_t z) (rv_t z) le_ ⟨_,z,(⟨(pv1,g2),(pv4,g5)⟩:Ah.G),z,z,z⟩
 have hm22:=ift hm7 h21
 refine c_seq ?_
 refine cd_st (fun _ h=>mv2 h) ?_
 refine cd_opt (fun ho25 =>?_) (fun x23 b24 ho25 =>?_)
 ·rintro rfl
  have hm26:=om_n hm22 ho25
  cases hm26
 rintro rfl
 have hm26:=om_s hm22 ho25
 obtain ⟨⟨pv28,g29⟩,⟨pv31,g32⟩⟩:=g5
 refine cd_st (fun _ h=>st_star_o h) ?_
 refine c_reg (r_mv z (r_nc z (r_fa fa144_2 z (r_ld 3 sc142 z z z ?_))))
 obtain ⟨r33,hr33,hm41⟩:=bs hm26
 refine r_sw (s_w (o_call ca170 z (DV.ok b24 _ (⟨(pv28,g29),(pv31,g32)⟩:Ao.G) _ hr33))) ?_
 rintro _ R _ _ ⟨⟨⟨pv36,g37⟩,⟨pv39,g40⟩⟩,rfl,rfl,rfl⟩
 refine r_ext z z (r_ext z z (r_as z (r_as z (r_nil (x_seq (c_ret ?_))))))
 refine ex_st (fun _ h=>st_some (f:=Ao.op (⟨(pv36,g37),(pv39,g40)⟩:Ao.G)) (a:=r33.2.2) (st_star_f (A:=Ao.fl b24 r33.2.2 (⟨(pv36,g37),(pv39,g40)⟩:Ao.G)) h)) ?_
 obtain rfl:=si hm41
 refine ex_st (pk 3 [1,2,0]) ?_
 exact x_r2 z (rv_t z) (rv_t z) le_ ⟨_,z,(⟨(pv1,g2),(pt b24 0,(⟨(pv36,g37),(pv39,g40)⟩:Ao.G))⟩:Ah.G),z,z,z⟩
def Ce(a0:Ak):Nat→Ah→Int→(List (Str×Ai))→Option (Ah×Int×(List (Str×Ai)))
 | 0,_,_,_=>none
 | k68+1,c_58,c_59,c_60=>if decide (a0.c.Bytes<(Dc (⟨c_60,c_59⟩:Am))) then (BL c_58).bind fun r73=>if !r73.2.1 then some (r73.2.2,c_59,c_60) else lt (A9 (⟨c_60,c_59⟩:Am) r73.1) fun r84=>Ce a0 k68 r73.2.2 r84.2.bytes r84.2.m else some (c_58,c_59,c_60)
def Br(r33:List Str×Ah):Nat→Int→Int→(List (Str×Ai))→Option (Int×(List (Str×Ai)))
 | 0,_,_,_=>none
 | k89+1,s_86,c_87,c_88=>if decide (s_86<(r33.1.length:Int)) then (gi r33.1 s_86).bind fun x94=>lt (A9 (⟨c_88,c_87⟩:Am) x94) fun r96=>Br r33 k89 (i64 (s_86+1)) r96.2.bytes r96.2.m else some (c_87,c_88)
def Be(a0:Ak)(a1:AI):Option (Ap×Ak) :=
 if decide (a0.c.Bytes<(i64 ((a1.Key.length:Int)+(a1.Value.length:Int)))) then some ((⟨120,[],0⟩:Ap),a0) else Option.bind (if (decide (0<a1.TTL)&&decide (a0.now<18446744073709551615)) then some (a0.now+(if (18446744073709551615-a0.now)<a1.TTL then 18446744073709551615-a0.now else a1.TTL)) else some 0) fun p12=>om a0.t (none) fun x16=>lt (C2 x16 (⟨a1.Key,a1.Value,a0.version+1,p12⟩:Ai)) fun r21=>om a0.p (none) fun x23=>(Ba x23 a1.Key).bind fun r33=>Option.bind (Br r33 (((r33.1.length:Int)-0).toNat+1) 0 r21.bytes r21.m) fun p43=>Option.bind (Ce a0 1100 r33.2 p43.1 p43.2) fun p47=>some ((⟨0,[],a0.version+1⟩:Ap),(⟨a0.c,(some (⟨p47.2.2,p47.2.1⟩:Am)),(some p47.1),a0.sessions,a0.seq,a0.now,a0.version+1,a0.tally⟩:Ak))
theorem Be.ok{G R F}(b0_:Nat)(a0:Ak)(g0_:Ak.G)(a1:AI)(r:Ap×Ak)(hm:Be a0 a1=some r):CO prog 72 [pt b0_ 0,.agg (AI.c a1).toArray] G R (Bk b0_ 96 (Ak.k a0 g0_)::rO (Am.op g0_.t.2) g0_.t.1 a0.t::rO (Ah.op g0_.p.2) g0_.p.1 a0.p::OwM vW Ar.v g0_.sessions a0.sessions::F)
  (Ret fun u R' L'=>∃(q0:Ak.G),u = .agg (Ap.c r.1).toArray∧R'=R∧L'=Bk b0_ 96 (Ak.k r.2 q0)::rO (Am.op q0.t.2) q0.t.1 r.2.t::rO (Ah.op q0.p.2) q0.p.1 r.2.p::OwM vW Ar.v q0.sessions r.2.sessions::F):=by
 obtain ⟨⟨pv1,g2⟩,⟨pv4,g5⟩,g6⟩:=g0_
 unfold Be at hm
 refine co_ofN (N:=121) func72 z z ?_
 refine csr ?_
 refine r_new (o_bx (AI.c a1) z z) fun b7 =>?_
 refine r_new (o_al ze41) fun b8 =>?_
 refine r_nil (x_seq (c_seq (c_seq ?_)))
 refine c_any mixed (effs:=[]) (V:=[]) ?_
 refine stn [0,1,3,0,8,24,63,0,128,384,896,1920,4095] [0,1,2,3,4,5,6,7,8,9,10,11,12] [] [_,_,_,_,_,_,_,_,_,_,_,_,_] (q_fa z z fa27_1 z (q_ld z z 1 sc9 z z z (q_u z z (o_lenS underlying9 z) (q_fa z z fa27_2 z (q_ld z z 1 sc9 z z z (q_u z z (o_lenS underlying9 z) (q_u z z (o_bin z z (bI_add _ _)) (q_mv z z z (q_u z z (o_nc z) (q_fa z z fa96_0 z (q_fa z z fa24_2 z (q_ld z z 2 sc3 z z z (q_u z z (o_bin z z (bI_gt _ _)) qn))))))))))))) en ?_
 intro _
 refine ex_sub (E':=[(0,pt b0_ 0),(3,pt b7 0),(4,pt b8 0),(22,vB (decide (a0.c.Bytes<(i64 ((a1.Key.length:Int)+(a1.Value.length:Int))))))]) ⟨z,z,z,z,y_⟩ ?_
 refine x_seq ?_
 refine c_if (b:=decide (a0.c.Bytes<(i64 ((a1.Key.length:Int)+(a1.Value.length:Int))))) z (fun h9 =>?_) fun h9 =>?_
 ·have hm10:=ift hm h9
  refine csr ?_
  refine r_u (o_bld [vI 120,vS [],vW 0] z kr) ?_
  refine r_u0 (o_stn ag41 z z z z z z z) (r_nil (x_seq (c_ret ?_)))
  obtain rfl:=si hm10
  exact x_d1 z (rv_n 0 [vI 120,vS [],vW 0] ag41 z z z z) (pk 6 [2,3,4,5]) le_ ⟨_,z,(⟨(pv1,g2),(pv4,g5),g6⟩:Ak.G),z,z,z⟩
 have hm10:=iff_ hm h9
 refine c_skip (x_seq (csr (r_mv z (r_nc z (r_fa fa96_6 z (r_ld 2 sc22 z z z (r_bin z z (bW_add _ 1) (r_nc z (r_fa fa96_6 z ?_)))))))))
 refine rl_st (fun _ h=>mv2 h) ?_
 refine r_u0 (o_st sc22 z z z z z z) (r_nil (x_seq (c_seq ?_)))
 refine c_any mixed (effs:=[9,10]) (V:=[]) ?_
 refine stn mk21_ [0,1,2,3,4,5,6,7,8] [9] [_,_,_,_,_,_,_,_,_] (q_fa z z fa27_1 z (q_ld z z 2 sc9 z z z (q_fa z z fa27_2 z (q_ld z z 2 sc9 z z z (q_mv z z z (q_u z z (o_nc z) (q_fa z z fa96_6 z (q_ld z z 0 sc22 z z z (q_u z z (o_bld [vS a1.Key,vS a1.Value,vW (a0.version+1),vW 0] z kr) qn))))))))) ?_ (nxt z)
 refine ec (eo_n z (s_w (o_al ze50)) fun b11 =>?_) en
 refine stage z z z z mk21_ [0,1,2,3,4,5,6,7,8] [10] z z z (q_fa z z fa27_1 z (q_ld z z 3 sc9 z z z (q_fa z z fa27_2 z (q_ld z z 3 sc9 z z z (q_mv z z z (q_u z z (o_nc z) (q_fa z z fa96_6 z (q_ld z z 1 sc22 z z z (q_u z z (o_bld [vS a1.Key,vS a1.Value,vW (a0.version+1),vW 0] z kr) qn))))))))) ?_ (nxt z)
 refine ec (eo_u z (s_u (o_stn ag50 z z z z z z z)) le_ ?_) en
 refine stage z z z z mk21_ [] [] z z z qn en ?_
 intro _
 refine ex_sub (E':=[(0,pt b0_ 0),(3,pt b7 0),(4,pt b8 0),(5,pt b11 0)]) ⟨z,z,z,z,y_⟩ ?_
 refine x_seq (c_seq (csr (r_fa fa27_3 z (r_ld 3 sc22 z z z (r_bin z z (bW_gt _ 0) (r_mv z ?_))))))
 refine r_s (s_gt z z fun g=>o_mv z) ?_
 refine r_s (s_gt z z fun g=>o_nc (evg z g)) ?_
 refine r_s (s_gt z z fun g=>o_fa fa96_5 (evg z g)) ?_
 refine r_s (s_gt z z fun g=>o_ld 1 sc22 (evg z g) z z) ?_
 refine r_s (s_gt z z fun g=>o_bin (evg z g) z (bW_lt _ 18446744073709551615)) ?_
 refine r_u (o_and z z) (nsq ?_)
 obtain ⟨p12,hp13,hm14⟩:=bs hm10
 refine cd_join (E':=[(0,pt b0_ 0),(3,pt b7 0),(4,pt b8 0),(5,pt b11 0)]) (L':=Bk b11 50 [vS a1.Key,vS a1.Value,vW (a0.version+1),vW p12]::Bk b0_ 96 [vI a0.c.Policy,vI a0.c.Entries,vI a0.c.Bytes,vW a0.c.Seed,pv1,pv4,g6,vW a0.seq,vW a0.now,vW (a0.version+1),vI a0.tally.Asked,vI a0.tally.Hits]::Bk b8 41 [vI 0,vS [],vW 0]::Bk b7 27 (AI.c a1)::rO (Am.op g2) pv1 a0.t::rO (Ah.op g5) pv4 a0.p::OwM vW Ar.v g6 a0.sessions::F) ?_ fun K15 =>?_
 rotate_left
 ·refine c_if (b:=(decide (0<a1.TTL)&&decide (a0.now<18446744073709551615))) z (fun h98 =>?_) fun h98 =>?_
  ·have hm99:=ift hp13 h98
   refine c_any mixed (effs:=[14]) (V:=[]) ?_
   refine stn mk31_ [0,1,2,3,4,5,6,7,8,9,10,11,12,13] [14] [_,_,_,_,_,_,_,_,_,_,_,_,_,_] (q_mv z z z (q_u z z (o_nc z) (q_fa z z fa96_5 z (q_ld z z 1 sc22 z z z (q_fa z z fa27_3 z (q_ld z z 3 sc22 z z z (q_mv z z z (q_u z z (o_nc z) (q_fa z z fa96_5 z (q_ld z z 1 sc22 z z z (q_u z z (o_bin z z (bW_sub 18446744073709551615 _)) (q_u z z (o_minW z z) (q_u z z (o_bin z z (bW_add _ _)) (q_fa z z fa50_3 z qn)))))))))))))) ?_ (nxt z)
   refine ec (eo_u z (s_u (o_st sc22 z z z z z z)) le_ ?_) en
   refine stage z z z z mk31_ [] [] z z z qn en ?_
   intro _
   refine ex_sub (E':=[(0,pt b0_ 0),(3,pt b7 0),(4,pt b8 0),(5,pt b11 0)]) ⟨z,z,z,z,y_⟩ ?_
   obtain rfl:=si hm99
   exact x_sub K15 ⟨z,z,z,z,y_⟩ id_
  have hm99:=iff_ hp13 h98
  refine c_skip ?_
  obtain rfl:=si hm99
  exact x_sub K15 ⟨z,z,z,z,y_⟩ id_
 refine x_seq (c_seq ?_)
 refine cd_st (fun _ h=>mv4 h) ?_
 refine cd_opt (fun ho18 =>?_) (fun x16 b17 ho18 =>?_)
 ·rintro rfl
  have hm19:=om_n hm14 ho18
  cases hm19
 rintro rfl
 have hm19:=om_s hm14 ho18
 refine cd_st (fun _ h=>st_star_o h) ?_
 obtain ⟨r21,hr21,hm22⟩:=ltx hm19
 refine c_any mixed (effs:=[5]) (V:=[]) ?_
 refine stn [0,1,3,7,0,31] [0,1,2,3,4] [5] [_,_,_,_,_] (q_mv z z z (q_u z z (o_nc z) (q_fa z z fa96_1 z (q_ld z z 3 sc92 z z z (q_u z z (o_ldn 2 [vS a1.Key,vS a1.Value,vW (a0.version+1),vW p12] ag50 z z z z) qn))))) ?_ (nxt z)
 refine ec (eo_c z (s_w (o_call ca122 z (C2.ok b17 _ g2 (⟨a1.Key,a1.Value,a0.version+1,p12⟩:Ai) _ hr21))) ?_) en
 refine stage z z z z [0,1,3,7,0,31] [] [] z z z qn en ?_
 intro _
 refine ex_sub (E':=[(0,pt b0_ 0),(3,pt b7 0),(4,pt b8 0)]) ⟨z,z,z,y_⟩ ?_
 refine x_seq (c_seq (c_seq ?_))
 refine cd_st (fun _ h=>mv6 h) ?_
 refine cd_opt (fun ho25 =>?_) (fun x23 b24 ho25 =>?_)
 ·rintro rfl
  have hm26:=om_n hm22 ho25
  cases hm26
 rintro rfl
 have hm26:=om_s hm22 ho25
 obtain ⟨⟨pv28,g29⟩,⟨pv31,g32⟩⟩:=g5
 refine cd_st (fun _ h=>st_star_o h) ?_
 obtain ⟨r33,hr33,hm42⟩:=bs hm26
 refine c_any mixed (effs:=[6]) (V:=[]) ?_
 refine stn mk37_ [0,1,2,3,4,5,8] [6] [_,_,_,_,_,_,_] (q_mv z z z (q_u z z (o_nc z) (q_fa z z fa96_2 z (q_ld z z 6 sc93 z z z (q_fa z z fa27_1 z (q_ld z z 8 sc9 z z z (q_mv z z z qn))))))) ?_ (nxt z)
 refine ec (eo_w z (s_w (o_call ca123 z (Ba.ok b24 _ (⟨(pv28,g29),(pv31,g32)⟩:Ah.G) _ _ hr33))) ?_) en
 rintro v34 R _ _ ⟨_,⟨⟨pv37,g38⟩,⟨pv40,g41⟩⟩,rfl,rfl,rfl⟩
 refine stx [7] mk37_ [7,8] [] [_] (q_u z z (o_lenO 0 underlying98 z z) (q_mv z z z qn)) en ?_
 intro _
 refine ex_sub (E':=[(0,pt b0_ 0),(4,pt b8 0),(76,v34),(77,vI (r33.1.length:Int)),(78,vI 0)]) ⟨z,z,z,z,z,y_⟩ ?_
 refine x_seq ?_
 obtain ⟨p43,hp44,hm45⟩:=bs hm42
 refine cd_join (E':=[(0,pt b0_ 0),(4,pt b8 0)]) (L':=Bk b24 144 [vI r33.2.kind,pv37,pv40]::Bk b17 138 [g2.m,vI p43.1]::Bk b11 50 [vS a1.Key,vS a1.Value,vW (a0.version+1),vW p12]::Bk b0_ 96 [vI a0.c.Policy,vI a0.c.Entries,vI a0.c.Bytes,vW a0.c.Seed,pt b17 0,pt b24 0,g6,vW a0.seq,vW a0.now,vW (a0.version+1),vI a0.tally.Asked,vI a0.tally.Hits]::Bk b8 41 [vI 0,vS [],vW 0]::Bk b7 27 (AI.c a1)::OwS true 9 1 eS v34 r33.1::rO (Aq.op g38) pv37 r33.2.a::rO (Ao.op g41) pv40 r33.2.t::OwM vS Ai.v g2.m p43.2::OwM vW Ar.v g6 a0.sessions::F) ?_ fun K46 =>?_
 rotate_left
 ·refine c_blk ?_
  refine cd_loop (M:=fun k89 (s:Int×Int×(List (Str×Ai)))=>Br r33 k89 s.1 s.2.1 s.2.2=some p43) (Ef:=fun (s:Int×Int×(List (Str×Ai)))=>[(0,pt b0_ 0),(4,pt b8 0),(76,v34),(77,vI (r33.1.length:Int)),(78,vI s.1)]) (Lf:=fun (s:Int×Int×(List (Str×Ai)))=>Bk b24 144 [vI r33.2.kind,pv37,pv40]::Bk b17 138 [g2.m,vI s.2.1]::Bk b11 50 [vS a1.Key,vS a1.Value,vW (a0.version+1),vW p12]::Bk b0_ 96 [vI a0.c.Policy,vI a0.c.Entries,vI a0.c.Bytes,vW a0.c.Seed,pt b17 0,pt b24 0,g6,vW a0.seq,vW a0.now,vW (a0.version+1),vI a0.tally.Asked,vI a0.tally.Hits]::Bk b8 41 [vI 0,vS [],vW 0]::Bk b7 27 (AI.c a1)::OwS true 9 1 eS v34 r33.1::rO (Aq.op g38) pv37 r33.2.a::rO (Ao.op g41) pv40 r33.2.t::OwM vS Ai.v g2.m s.2.2::OwM vW Ar.v g6 a0.sessions::F) (((r33.1.length:Int)-0).toNat+1) (0,r21.bytes,r21.m) hp44 ⟨z,z,z,z,z,y_⟩ (pk 11 [1,4,6,7,8,9,0,2,3,5,10]) (fun _ h=>by cases h) fun k89 s hM91 =>?_
  obtain ⟨s_86,c_87,c_88⟩:=s
  have hm90:Br r33 (k89+1) s_86 c_87 c_88=some p43:=hM91
  rw [Br] at hm90
  refine csr (r_bin z z (bI_lt _ _) (r_nil (x_seq (c_seq ?_))))
  refine c_if (b:=decide (s_86<(r33.1.length:Int))) z (fun h92 =>?_) fun h92 =>?_
  rotate_left
  ·have hm93:=iff_ hm90 h92
   refine c_exit (x_exit (ks':=_) z ?_)
   obtain rfl:=si hm93
   exact x_sub K46 ⟨z,z,y_⟩ id_
  have hm93:=ift hm90 h92
  refine c_skip (x_seq (c_seq (c_blk (csr ?_))))
  obtain ⟨x94,hx94,hm95⟩:=bs hm93
  refine r_u (o_ixO 6 underlying98 kr z z z hx94) (r_u (o_ldO0 6 sc9 z z hx94 z z) (r_as z (r_nil (x_seq (c_reg (r_mv z (r_nc z (r_fa fa96_1 z (r_ld 3 sc92 z z z (r_mv z ?_))))))))))
  obtain ⟨r96,hr96,hm97⟩:=ltx hm95
  refine rl_st (fun _ h=>mv2 (mv9 h)) ?_
  refine r_c (s_w (o_call ca36 z (A9.ok b17 (⟨c_88,c_87⟩:Am) g2 _ _ hr96))) ?_
  refine r_nil (x_blk (x_seq (c_reg (r_bin z z (bI_add _ 1) (r_mv z (r_nil ?_))))))
  exact x_lp (i64 (s_86+1),r96.2.bytes,r96.2.m) hm97 ⟨z,z,z,z,z,y_⟩ (pk 11 [2,0,3,4,5,6,7,8,9,1,10])
 refine x_seq (c_seq ?_)
 obtain ⟨p47,hp55,hm56⟩:=bs hm45
 refine cd_cut (fun x ks=>∀(g48:Ah.G),EX x .normal ks [(0,pt b0_ 0),(4,pt b8 0)] R (Bk b24 144 [vI p47.1.kind,g48.a.1,g48.t.1]::Bk b17 138 [g2.m,vI p47.2.1]::Bk b11 50 [vS a1.Key,vS a1.Value,vW (a0.version+1),vW p12]::Bk b0_ 96 [vI a0.c.Policy,vI a0.c.Entries,vI a0.c.Bytes,vW a0.c.Seed,pt b17 0,pt b24 0,g6,vW a0.seq,vW a0.now,vW (a0.version+1),vI a0.tally.Asked,vI a0.tally.Hits]::Bk b8 41 [vI 0,vS [],vW 0]::Bk b7 27 (AI.c a1)::OwS true 9 1 eS v34 r33.1::OwM vS Ai.v g2.m p47.2.2::OwM vW Ar.v g6 a0.sessions::rO (Aq.op g48.a.2) g48.a.1 p47.1.a::rO (Ao.op g48.t.2) g48.t.1 p47.1.t::F)) ?_ fun K57 =>?_
 ·intro g48
  obtain ⟨⟨pv50,g51⟩,⟨pv53,g54⟩⟩:=g48
  refine x_seq (csr (r_mv z (r_nc z (r_fa fa96_6 z (r_ld 3 sc22 z z z ?_)))))
  refine r_u (o_bld [vI 0,vS [],vW (a0.version+1)] z kr) ?_
  refine rl_st (fun _ h=>mv4 h) ?_
  refine r_u0 (o_stn ag41 z z z z z z z) (r_nil (x_seq (c_ret ?_)))
  refine ex_st (fun _ h=>mv3 (mv7 h)) ?_
  refine ex_st (fun _ h=>st_some (f:=Am.op g2) (a:=(⟨p47.2.2,p47.2.1⟩:Am)) (st_star_f (A:=Am.fl b17 (⟨p47.2.2,p47.2.1⟩:Am) g2) h)) ?_
  refine ex_st (fun _ h=>mv4 (mv9 (mv9 h))) ?_
  refine ex_st (fun _ h=>st_some (f:=Ah.op (⟨(pv50,g51),(pv53,g54)⟩:Ah.G)) (a:=p47.1) (st_star_f (A:=Ah.fl b24 p47.1 (⟨(pv50,g51),(pv53,g54)⟩:Ah.G)) h)) ?_
  obtain rfl:=si hm56
  exact x_d1 z (rv_n 2 [vI 0,vS [],vW (a0.version+1)] ag41 z z z z) (pk 8 [4,1,0,7]) le_ ⟨_,z,(⟨(pt b17 0,g2),(pt b24 0,(⟨(pv50,g51),(pv53,g54)⟩:Ah.G)),g6⟩:Ak.G),z,z,z⟩
 refine c_blk ?_
 refine cd_loopG (M:=fun k68 (s:Ah×Int×(List (Str×Ai))×Ah.G)=>Ce a0 k68 s.1 s.2.1 s.2.2.1=some p47) (Ef:=fun (s:Ah×Int×(List (Str×Ai))×Ah.G)=>[(0,pt b0_ 0),(4,pt b8 0)]) (Rf:=fun (s:Ah×Int×(List (Str×Ai))×Ah.G)=>R) (Lf:=fun (s:Ah×Int×(List (Str×Ai))×Ah.G)=>Bk b24 144 [vI s.1.kind,s.2.2.2.a.1,s.2.2.2.t.1]::Bk b17 138 [g2.m,vI s.2.1]::Bk b11 50 [vS a1.Key,vS a1.Value,vW (a0.version+1),vW p12]::Bk b0_ 96 [vI a0.c.Policy,vI a0.c.Entries,vI a0.c.Bytes,vW a0.c.Seed,pt b17 0,pt b24 0,g6,vW a0.seq,vW a0.now,vW (a0.version+1),vI a0.tally.Asked,vI a0.tally.Hits]::Bk b8 41 [vI 0,vS [],vW 0]::Bk b7 27 (AI.c a1)::OwS true 9 1 eS v34 r33.1::OwM vS Ai.v g2.m s.2.2.1::OwM vW Ar.v g6 a0.sessions::rO (Aq.op s.2.2.2.a.2) s.2.2.2.a.1 s.1.a::rO (Ao.op s.2.2.2.t.2) s.2.2.2.t.1 s.1.t::F) 1100 (r33.2,p43.1,p43.2,(⟨(pv37,g38),(pv40,g41)⟩:Ah.G)) hp55 ⟨z,z,y_⟩ (pk 11 [0,1,2,3,4,5,6,9,10,7,8]) (fun _ h=>by cases h) fun k68 s hM70 =>?_
 obtain ⟨c_58,c_59,c_60,g61⟩:=s
 have hm69:Ce a0 (k68+1) c_58 c_59 c_60=some p47:=hM70
 rw [Ce] at hm69
 obtain ⟨⟨pv63,g64⟩,⟨pv66,g67⟩⟩:=g61
 refine c_seq (c_seq ?_)
 refine c_any mixed (effs:=[]) (V:=[]) ?_
 refine stn [0,1,3,7,15,0,32,96,224,480,1023] [0,1,2,3,4,5,6,7,8,9,10] [] [_,_,_,_,_,_,_,_,_,_,_] (q_mv z z z (q_u z z (o_nc z) (q_fa z z fa96_1 z (q_ld z z 3 sc92 z z z (q_u z z (o_callqP ca107 z (Dc.ok b17 (⟨c_60,c_59⟩:Am) g2 _ z) (pk 11 [1,7,0,2,3,4,5,6,8,9,10]) (pk 11 [2,0,3,4,5,6,7,1,8,9,10])) (q_mv z z z (q_u z z (o_nc z) (q_fa z z fa96_0 z (q_fa z z fa24_2 z (q_ld z z 3 sc3 z z z (q_u z z (o_bin z z (bI_gt _ _)) qn))))))))))) en ?_
 intro _
 refine ex_sub (E':=[(0,pt b0_ 0),(4,pt b8 0),(99,vB (decide (a0.c.Bytes<(Dc (⟨c_60,c_59⟩:Am)))))]) ⟨z,z,z,y_⟩ ?_
 refine x_seq ?_
 refine c_if (b:=decide (a0.c.Bytes<(Dc (⟨c_60,c_59⟩:Am)))) z (fun h71 =>?_) fun h71 =>?_
 rotate_left
 ·have hm72:=iff_ hm69 h71
  refine c_exit (x_exit (ks':=_) z ?_)
  obtain rfl:=si hm72
  exact x_sub (K57 (⟨(pv63,g64),(pv66,g67)⟩:Ah.G)) ⟨z,z,y_⟩ id_
 have hm72:=ift hm69 h71
 refine c_skip (x_seq (c_blk (csr (r_mv z (r_nc z (r_fa fa96_2 z (r_ld 3 sc93 z z z ?_)))))))
 obtain ⟨r73,hr73,hm81⟩:=bs hm72
 refine rl_st (fun _ h=>mv2 (mv10 (mv10 h))) ?_
 refine r_sw (s_w (o_call ca124 z (BL.ok b24 _ (⟨(pv63,g64),(pv66,g67)⟩:Ah.G) _ hr73))) ?_
 rintro _ R _ _ ⟨⟨⟨pv76,g77⟩,⟨pv79,g80⟩⟩,rfl,rfl,rfl⟩
 refine r_mv z (r_ext z z (r_ext z z (r_as z (r_as z (nssr (r_mv z ?_))))))
 refine r_u (o_not z) (nsq ?_)
 refine c_if (b := !r73.2.1) z (fun h82 =>?_) fun h82 =>?_
 ·have hm83:=ift hm81 h82
  refine c_exit (x_exit (ks':=_) z ?_)
  obtain rfl:=si hm83
  exact x_sub (K57 (⟨(pv76,g77),(pv79,g80)⟩:Ah.G)) ⟨z,z,y_⟩ (pk 11 [0,3,4,5,6,7,8,9,10,1,2])
 have hm83:=iff_ hm81 h82
 refine c_skip (x_seq (c_reg (r_mv z (r_nc z (r_fa fa96_1 z (r_ld 5 sc92 z z z (r_mv z ?_)))))))
 obtain ⟨r84,hr84,hm85⟩:=ltx hm83
 refine rl_st (fun _ h=>mv4 (mv9 h)) ?_
 refine r_c (s_w (o_call ca36 z (A9.ok b17 (⟨c_60,c_59⟩:Am) g2 _ _ hr84))) ?_
 refine r_nil (x_blk ?_)
 exact x_lp (r73.2.2,r84.2.bytes,r84.2.m,(⟨(pv76,g77),(pv79,g80)⟩:Ah.G)) hm85 ⟨z,z,y_⟩ (pk 11 [2,0,5,6,7,8,9,1,10,3,4])
def AW(a0:Ak)(a1:AI):Option (Ap×Ak) :=
 om a0.t (none) fun x9=>lt (AT x9 a1.Key) fun r14=>if (a1.Kind==1) then if !r14.2 then om a0.p (none) fun x21=>(Cc x21 a1.Key).bind fun r31=>some ((⟨2,[],0⟩:Ap),(⟨a0.c,a0.t,(some r31),a0.sessions,a0.seq,a0.now,a0.version,(⟨i64 (a0.tally.Asked+1),a0.tally.Hits⟩:Cb)⟩:Ak)) else om a0.p (none) fun x33=>(BZ x33 a1.Key).bind fun r43=>some ((⟨0,r14.1.Value,r14.1.Version⟩:Ap),(⟨a0.c,a0.t,(some r43.2),a0.sessions,a0.seq,a0.now,a0.version,(⟨i64 (a0.tally.Asked+1),i64 (a0.tally.Hits+1)⟩:Cb)⟩:Ak)) else if (a1.Kind==3) then if !r14.2 then some ((⟨2,[],0⟩:Ap),a0) else lt (A9 x9 a1.Key) fun r56=>om a0.p (none) fun x58=>(Bd x58 a1.Key).bind fun r68=>some ((⟨0,[],r14.1.Version⟩:Ap),(⟨a0.c,(some r56.2),(some r68.2),a0.sessions,a0.seq,a0.now,a0.version,a0.tally⟩:Ak)) else if (a1.Kind==4) then if !r14.2 then some ((⟨2,[],0⟩:Ap),a0) else if (r14.1.Version != a1.Version) then some ((⟨121,[],r14.1.Version⟩:Ap),a0) else (Be (⟨a0.c,(some x9),a0.p,a0.sessions,a0.seq,a0.now,a0.version,a0.tally⟩:Ak) a1).bind fun r83=>some (r83.1,r83.2) else (Be (⟨a0.c,(some x9),a0.p,a0.sessions,a0.seq,a0.now,a0.version,a0.tally⟩:Ak) a1).bind fun r93=>some (r93.1,r93.2)
theorem AW.ok{G R F}(b0_:Nat)(a0:Ak)(g0_:Ak.G)(a1:AI)(r:Ap×Ak)(hm:AW a0 a1=some r):CO prog 38 [pt b0_ 0,.agg (AI.c a1).toArray] G R (Bk b0_ 96 (Ak.k a0 g0_)::rO (Am.op g0_.t.2) g0_.t.1 a0.t::rO (Ah.op g0_.p.2) g0_.p.1 a0.p::OwM vW Ar.v g0_.sessions a0.sessions::F)
  (Ret fun u R' L'=>∃(q0:Ak.G),u = .agg (Ap.c r.1).toArray∧R'=R∧L'=Bk b0_ 96 (Ak.k r.2 q0)::rO (Am.op q0.t.2) q0.t.1 r.2.t::rO (Ah.op q0.p.2) q0.p.1 r.2.p::OwM vW Ar.v q0.sessions r.2.sessions::F):=by
 obtain ⟨⟨pv1,g2⟩,⟨pv4,g5⟩,g6⟩:=g0_
 unfold AW at hm
 refine co_ofN (N:=99) func38 z z ?_
 refine csr ?_
 refine r_new (o_bx (AI.c a1) z z) fun b7 =>?_
 refine r_new (o_al ze41) fun b8 =>?_
 refine r_nil (x_seq (c_seq ?_))
 refine cd_st (fun _ h=>mv3 h) ?_
 refine cd_opt (fun ho11 =>?_) (fun x9 b10 ho11 =>?_)
 ·rintro rfl
  have hm12:=om_n hm ho11
  cases hm12
 rintro rfl
 have hm12:=om_s hm ho11
 refine cd_st (fun _ h=>st_star_o h) ?_
 obtain ⟨r14,hr14,hm15⟩:=ltx hm12
 refine c_any mixed (effs:=[10,11]) (V:=[]) ?_
 refine stn mk38_ [0,1,2,3,4,5,6,7,8,9] [10] [_,_,_,_,_,_,_,_,_,_] (q_mv z z z (q_u z z (o_nc z) (q_fa z z fa96_1 z (q_ld z z 4 sc92 z z z (q_fa z z fa27_1 z (q_ld z z 3 sc9 z z z (q_u z z (o_callqP ca40 z (AT.ok b10 x9 g2 _ _ hr14) id_ id_) (q_mv z z z (q_u z z (o_ext z z) (q_u z z (o_ext z z) qn)))))))))) ?_ (nxt z)
 refine ec (eo_n z (s_w (o_al ze50)) fun b16 =>?_) en
 refine stage z z z z mk38_ [0,1,2,3,4,5,6,7,8,9] [11] z z z (q_mv z z z (q_u z z (o_nc z) (q_fa z z fa96_1 z (q_ld z z 5 sc92 z z z (q_fa z z fa27_1 z (q_ld z z 4 sc9 z z z (q_u z z (o_callqP ca40 z (AT.ok b10 x9 g2 _ _ hr14) (pk 8 [1,2,0,3,4,5,6,7]) (pk 8 [2,0,1,3,4,5,6,7])) (q_mv z z z (q_u z z (o_ext z z) (q_u z z (o_ext z z) qn)))))))))) ?_ (nxt z)
 refine ec (eo_u z (s_u (o_stn ag50 z z z z z z z)) le_ ?_) en
 refine stx [12] mk38_ [9,12] [] [_] (q_u z z (o_ext z z) (q_u z z (o_as z) qn)) en ?_
 intro _
 refine ex_sub (E':=[(0,pt b0_ 0),(3,pt b7 0),(4,pt b8 0),(5,pt b16 0),(6,vB r14.2)]) ⟨z,z,z,z,z,y_⟩ ?_
 refine x_seq (c_seq (csr (r_fa fa27_0 z (r_ld 4 sc3 z z z (r_nil (x_seq (c_blk (csr (r_bin z z (bI_eq _ 1) (r_as z (nsq ?_)))))))))))
 refine c_if (b:=(a1.Kind==1)) z (fun h17 =>?_) fun h17 =>?_
 ·have hm18:=ift hm15 h17
  refine csr (r_mv z (r_nc z (r_fa fa96_7 z (r_fa fa47_0 z (r_ld 5 sc2 z z z (r_bin z z (bI_add _ 1) (r_nc z (r_fa fa96_7 z (r_fa fa47_0 z ?_)))))))))
  refine rl_st (fun _ h=>mv5 h) ?_
  refine r_u0 (o_st sc2 z z z z z z) (nssr (r_mv z ?_))
  refine r_u (o_not z) (nsq ?_)
  refine c_if (b := !r14.2) z (fun h19 =>?_) fun h19 =>?_
  ·have hm20:=ift hm18 h19
   refine c_seq ?_
   refine cd_st (fun _ h=>mv6 h) ?_
   refine cd_opt (fun ho23 =>?_) (fun x21 b22 ho23 =>?_)
   ·rintro rfl
    have hm24:=om_n hm20 ho23
    cases hm24
   rintro rfl
   have hm24:=om_s hm20 ho23
   obtain ⟨⟨pv26,g27⟩,⟨pv29,g30⟩⟩:=g5
   refine cd_st (fun _ h=>st_star_o h) ?_
   obtain ⟨r31,hr31,hm32⟩:=bs hm24
   refine c_any mixed (effs:=[6]) (V:=[]) ?_
   refine stn [0,1,3,7,0,16,63] [0,1,2,3,4,5] [6] [_,_,_,_,_,_] (q_mv z z z (q_u z z (o_nc z) (q_fa z z fa96_2 z (q_ld z z 3 sc93 z z z (q_fa z z fa27_1 z (q_ld z z 8 sc9 z z z qn)))))) ?_ (nxt z)
   refine ec (eo_c z (s_w (o_call ca70 z (Cc.ok b22 _ (⟨(pv26,g27),(pv29,g30)⟩:Ah.G) _ _ hr31))) ?_) en
   refine stage z z z z [0,1,3,7,0,16,63] [] [] z z z qn en ?_
   intro _
   refine ex_sub (E':=[(4,pt b8 0)]) ⟨z,y_⟩ ?_
   refine x_seq (csr ?_)
   refine r_u (o_bld [vI 2,vS [],vW 0] z kr) ?_
   refine rl_st (fun _ h=>mv7 h) ?_
   refine r_u0 (o_stn ag41 z z z z z z z) (r_nil (x_seq (c_ret ?_)))
   refine ex_st (fun _ h=>mv7 (mv7 h)) ?_
   refine ex_st (fun _ h=>st_some (f:=Am.op g2) (a:=x9) (st_star_f (A:=Am.fl b10 x9 g2) h)) ?_
   refine ex_st (fun _ h=>mv4 (mv4 (mv4 h))) ?_
   refine ex_st (fun _ h=>st_some (f:=Ah.op (⟨(pv26,g27),(pv29,g30)⟩:Ah.G)) (a:=r31) (st_star_f (A:=Ah.fl b22 r31 (⟨(pv26,g27),(pv29,g30)⟩:Ah.G)) h)) ?_
   refine ex_st (fun _ h=>mv1 h) ?_
   refine ex_st (fun _ h=>st_back ho11 h) ?_
   obtain rfl:=si hm32
   exact x_d1 z (rv_n 2 [vI 2,vS [],vW 0] ag41 z z z z) (pk 7 [3,0,1,6]) le_ ⟨_,z,(⟨(pt b10 0,g2),(pt b22 0,(⟨(pv26,g27),(pv29,g30)⟩:Ah.G)),g6⟩:Ak.G),z,z,z⟩
  have hm20:=iff_ hm18 h19
  refine c_skip (x_seq (csr (r_mv z (r_nc z (r_fa fa96_7 z (r_fa fa47_1 z (r_ld 0 sc2 z z z (r_bin z z (bI_add _ 1) (r_nc z (r_fa fa96_7 z (r_fa fa47_1 z ?_)))))))))))
  refine r_u0 (o_st sc2 z z z z z z) (r_nil (x_seq (c_seq ?_)))
  refine cd_st (fun _ h=>mv6 h) ?_
  refine cd_opt (fun ho35 =>?_) (fun x33 b34 ho35 =>?_)
  ·rintro rfl
   have hm36:=om_n hm20 ho35
   cases hm36
  rintro rfl
  have hm36:=om_s hm20 ho35
  obtain ⟨⟨pv38,g39⟩,⟨pv41,g42⟩⟩:=g5
  refine cd_st (fun _ h=>st_star_o h) ?_
  obtain ⟨r43,hr43,hm51⟩:=bs hm36
  refine c_any mixed (effs:=[6]) (V:=[]) ?_
  refine stn [0,1,3,7,0,16,63] [0,1,2,3,4,5] [6] [_,_,_,_,_,_] (q_mv z z z (q_u z z (o_nc z) (q_fa z z fa96_2 z (q_ld z z 3 sc93 z z z (q_fa z z fa27_1 z (q_ld z z 8 sc9 z z z qn)))))) ?_ (nxt z)
  refine ec (eo_w z (s_w (o_call ca71 z (BZ.ok b34 _ (⟨(pv38,g39),(pv41,g42)⟩:Ah.G) _ _ hr43))) ?_) en
  rintro _ R _ _ ⟨⟨⟨pv46,g47⟩,⟨pv49,g50⟩⟩,rfl,rfl,rfl⟩
  refine stage z z z z [0,1,3,7,0,16,63] [] [] z z z qn en ?_
  intro _
  refine ex_sub (E':=[(4,pt b8 0),(5,pt b16 0)]) ⟨z,z,y_⟩ ?_
  refine x_seq (csr (r_fa fa50_1 z (r_ld 4 sc9 z z z (r_fa fa50_2 z (r_ld 4 sc22 z z z ?_)))))
  refine r_u (o_bld [vI 0,vS r14.1.Value,vW r14.1.Version] z kr) ?_
  refine rl_st (fun _ h=>mv7 h) ?_
  refine r_u0 (o_stn ag41 z z z z z z z) (r_nil (x_seq (c_ret ?_)))
  refine ex_st (fun _ h=>mv7 (mv7 h)) ?_
  refine ex_st (fun _ h=>st_some (f:=Am.op g2) (a:=x9) (st_star_f (A:=Am.fl b10 x9 g2) h)) ?_
  refine ex_st (fun _ h=>mv4 (mv4 (mv4 h))) ?_
  refine ex_st (fun _ h=>st_some (f:=Ah.op (⟨(pv46,g47),(pv49,g50)⟩:Ah.G)) (a:=r43.2) (st_star_f (A:=Ah.fl b34 r43.2 (⟨(pv46,g47),(pv49,g50)⟩:Ah.G)) h)) ?_
  refine ex_st (fun _ h=>mv1 h) ?_
  refine ex_st (fun _ h=>st_back ho11 h) ?_
  obtain rfl:=si hm51
  exact x_d1 z (rv_n 2 [vI 0,vS r14.1.Value,vW r14.1.Version] ag41 z z z z) (pk 7 [3,0,1,6]) le_ ⟨_,z,(⟨(pt b10 0,g2),(pt b34 0,(⟨(pv46,g47),(pv49,g50)⟩:Ah.G)),g6⟩:Ak.G),z,z,z⟩
 have hm18:=iff_ hm15 h17
 refine csr (r_bin z z (bI_eq _ 3) (r_as z (nsq ?_)))
 refine c_if (b:=(a1.Kind==3)) z (fun h52 =>?_) fun h52 =>?_
 ·have hm53:=ift hm18 h52
  refine c_seq (csr (r_mv z ?_))
  refine r_u (o_not z) (nsq ?_)
  refine c_if (b := !r14.2) z (fun h54 =>?_) fun h54 =>?_
  ·have hm55:=ift hm53 h54
   refine csr ?_
   refine r_u (o_bld [vI 2,vS [],vW 0] z kr) ?_
   refine rl_st (fun _ h=>mv3 h) ?_
   refine r_u0 (o_stn ag41 z z z z z z z) (r_nil (x_seq (c_ret ?_)))
   refine ex_st (fun _ h=>mv3 (mv3 h)) ?_
   refine ex_st (fun _ h=>st_some (f:=Am.op g2) (a:=x9) (st_star_f (A:=Am.fl b10 x9 g2) h)) ?_
   refine ex_st (fun _ h=>st_back ho11 h) ?_
   obtain rfl:=si hm55
   exact x_d1 z (rv_n 1 [vI 2,vS [],vW 0] ag41 z z z z) (pk 7 [4,0,5,6]) le_ ⟨_,z,(⟨(pt b10 0,g2),(pv4,g5),g6⟩:Ak.G),z,z,z⟩
  have hm55:=iff_ hm53 h54
  refine c_skip (x_seq (c_seq ?_))
  obtain ⟨r56,hr56,hm57⟩:=ltx hm55
  refine c_any mixed (effs:=[6]) (V:=[]) ?_
  refine stage_st (fun _ h=>mv2 (mv2 h)) ?_
  refine stn [0,1,3,7,0,16,63] [0,1,2,3,4,5] [6] [_,_,_,_,_,_] (q_mv z z z (q_u z z (o_nc z) (q_fa z z fa96_1 z (q_ld z z 5 sc92 z z z (q_fa z z fa27_1 z (q_ld z z 4 sc9 z z z qn)))))) ?_ (nxt z)
  refine ec (eo_c z (s_w (o_call ca36 z (A9.ok b10 x9 g2 _ _ hr56))) ?_) en
  refine stage z z z z [0,1,3,7,0,16,63] [] [] z z z qn en ?_
  intro _
  refine ex_sub (E':=[(0,pt b0_ 0),(3,pt b7 0),(4,pt b8 0),(5,pt b16 0)]) ⟨z,z,z,z,y_⟩ ?_
  refine x_seq (c_seq ?_)
  refine cd_st (fun _ h=>mv6 h) ?_
  refine cd_opt (fun ho60 =>?_) (fun x58 b59 ho60 =>?_)
  ·rintro rfl
   have hm61:=om_n hm57 ho60
   cases hm61
  rintro rfl
  have hm61:=om_s hm57 ho60
  obtain ⟨⟨pv63,g64⟩,⟨pv66,g67⟩⟩:=g5
  refine cd_st (fun _ h=>st_star_o h) ?_
  obtain ⟨r68,hr68,hm76⟩:=bs hm61
  refine c_any mixed (effs:=[6]) (V:=[]) ?_
  refine stn [0,1,3,7,0,16,63] [0,1,2,3,4,5] [6] [_,_,_,_,_,_] (q_mv z z z (q_u z z (o_nc z) (q_fa z z fa96_2 z (q_ld z z 8 sc93 z z z (q_fa z z fa27_1 z (q_ld z z 7 sc9 z z z qn)))))) ?_ (nxt z)
  refine ec (eo_w z (s_w (o_call ca37 z (Bd.ok b59 _ (⟨(pv63,g64),(pv66,g67)⟩:Ah.G) _ _ hr68))) ?_) en
  rintro _ R _ _ ⟨⟨⟨pv71,g72⟩,⟨pv74,g75⟩⟩,rfl,rfl,rfl⟩
  refine stage z z z z [0,1,3,7,0,16,63] [] [] z z z qn en ?_
  intro _
  refine ex_sub (E':=[(4,pt b8 0),(5,pt b16 0)]) ⟨z,z,y_⟩ ?_
  refine x_seq (csr (r_fa fa50_2 z (r_ld 5 sc22 z z z ?_)))
  refine r_u (o_bld [vI 0,vS [],vW r14.1.Version] z kr) ?_
  refine rl_st (fun _ h=>mv6 h) ?_
  refine r_u0 (o_stn ag41 z z z z z z z) (r_nil (x_seq (c_ret ?_)))
  refine ex_st (fun _ h=>mv5 (mv5 h)) ?_
  refine ex_st (fun _ h=>st_some (f:=Am.op g2) (a:=r56.2) (st_star_f (A:=Am.fl b10 r56.2 g2) h)) ?_
  refine ex_st (fun _ h=>mv4 (mv4 (mv4 h))) ?_
  refine ex_st (fun _ h=>st_some (f:=Ah.op (⟨(pv71,g72),(pv74,g75)⟩:Ah.G)) (a:=r68.2) (st_star_f (A:=Ah.fl b59 r68.2 (⟨(pv71,g72),(pv74,g75)⟩:Ah.G)) h)) ?_
  obtain rfl:=si hm76
  exact x_d1 z (rv_n 2 [vI 0,vS [],vW r14.1.Version] ag41 z z z z) (pk 7 [5,1,0,6]) le_ ⟨_,z,(⟨(pt b10 0,g2),(pt b59 0,(⟨(pv71,g72),(pv74,g75)⟩:Ah.G)),g6⟩:Ak.G),z,z,z⟩
 have hm53:=iff_ hm18 h52
 refine csr (r_bin z z (bI_eq _ 4) (r_as z (nsq ?_)))
 refine c_if (b:=(a1.Kind==4)) z (fun h77 =>?_) fun h77 =>?_
 rotate_left
 ·have hm78:=iff_ hm53 h77
  refine c_skip (x_blk (x_seq (csr (r_mv z ?_))))
  refine r_u (o_ldn 4 (AI.c a1) ag27 z z z z) ?_
  refine rl_st (fun _ h=>mv2 (mv2 h)) ?_
  refine rl_st (fun _ h=>st_some (f:=Am.op g2) (a:=x9) (st_star_f (A:=Am.fl b10 x9 g2) h)) ?_
  obtain ⟨r93,hr93,hm102⟩:=bs hm78
  refine rl_st (fun _ h=>mv6 (mv2 (mv6 (mv6 h)))) ?_
  refine r_sw (s_w (o_call ca72 z (Be.ok b0_ (⟨a0.c,(some x9),a0.p,a0.sessions,a0.seq,a0.now,a0.version,a0.tally⟩:Ak) (⟨(pt b10 0,g2),(pv4,g5),g6⟩:Ak.G) a1 _ hr93))) ?_
  rintro _ R _ _ ⟨⟨⟨pv96,g97⟩,⟨pv99,g100⟩,g101⟩,rfl,rfl,rfl⟩
  refine rl_st (fun _ h=>mv5 h) ?_
  refine r_u0 (o_stn ag41 z z z z z z z) (r_nil (x_seq (c_ret ?_)))
  obtain rfl:=si hm102
  exact x_d1 z (rv_n 0 (Ap.c r93.1) ag41 z z z z) (pk 7 [1,2,3,4]) le_ ⟨_,z,(⟨(pv96,g97),(pv99,g100),g101⟩:Ak.G),z,z,z⟩
 have hm78:=ift hm53 h77
 refine c_seq (csr (r_mv z ?_))
 refine r_u (o_not z) (nsq ?_)
 refine c_if (b := !r14.2) z (fun h79 =>?_) fun h79 =>?_
 ·have hm80:=ift hm78 h79
  refine csr ?_
  refine r_u (o_bld [vI 2,vS [],vW 0] z kr) ?_
  refine rl_st (fun _ h=>mv3 h) ?_
  refine r_u0 (o_stn ag41 z z z z z z z) (r_nil (x_seq (c_ret ?_)))
  refine ex_st (fun _ h=>mv3 (mv3 h)) ?_
  refine ex_st (fun _ h=>st_some (f:=Am.op g2) (a:=x9) (st_star_f (A:=Am.fl b10 x9 g2) h)) ?_
  refine ex_st (fun _ h=>st_back ho11 h) ?_
  obtain rfl:=si hm80
  exact x_d1 z (rv_n 1 [vI 2,vS [],vW 0] ag41 z z z z) (pk 7 [4,0,5,6]) le_ ⟨_,z,(⟨(pt b10 0,g2),(pv4,g5),g6⟩:Ak.G),z,z,z⟩
 have hm80:=iff_ hm78 h79
 refine c_skip (x_seq (csr (r_fa fa50_2 z (r_ld 0 sc22 z z z (r_fa fa27_4 z (r_ld 4 sc22 z z z (r_bin z z (bW_ne _ _) (nsq ?_))))))))
 refine c_if (b:=(r14.1.Version != a1.Version)) z (fun h81 =>?_) fun h81 =>?_
 ·have hm82:=ift hm80 h81
  refine csr (r_fa fa50_2 z (r_ld 0 sc22 z z z ?_))
  refine r_u (o_bld [vI 121,vS [],vW r14.1.Version] z kr) ?_
  refine rl_st (fun _ h=>mv3 h) ?_
  refine r_u0 (o_stn ag41 z z z z z z z) (r_nil (x_seq (c_ret ?_)))
  refine ex_st (fun _ h=>mv3 (mv3 h)) ?_
  refine ex_st (fun _ h=>st_some (f:=Am.op g2) (a:=x9) (st_star_f (A:=Am.fl b10 x9 g2) h)) ?_
  refine ex_st (fun _ h=>st_back ho11 h) ?_
  obtain rfl:=si hm82
  exact x_d1 z (rv_n 1 [vI 121,vS [],vW r14.1.Version] ag41 z z z z) (pk 7 [4,0,5,6]) le_ ⟨_,z,(⟨(pt b10 0,g2),(pv4,g5),g6⟩:Ak.G),z,z,z⟩
 have hm82:=iff_ hm80 h81
 refine c_skip (x_blk (x_seq (csr (r_mv z ?_))))
 refine r_u (o_ldn 4 (AI.c a1) ag27 z z z z) ?_
 refine rl_st (fun _ h=>mv2 (mv2 h)) ?_
 refine rl_st (fun _ h=>st_some (f:=Am.op g2) (a:=x9) (st_star_f (A:=Am.fl b10 x9 g2) h)) ?_
 obtain ⟨r83,hr83,hm92⟩:=bs hm82
 refine rl_st (fun _ h=>mv6 (mv2 (mv6 (mv6 h)))) ?_
 refine r_sw (s_w (o_call ca72 z (Be.ok b0_ (⟨a0.c,(some x9),a0.p,a0.sessions,a0.seq,a0.now,a0.version,a0.tally⟩:Ak) (⟨(pt b10 0,g2),(pv4,g5),g6⟩:Ak.G) a1 _ hr83))) ?_
 rintro _ R _ _ ⟨⟨⟨pv86,g87⟩,⟨pv89,g90⟩,g91⟩,rfl,rfl,rfl⟩
 refine rl_st (fun _ h=>mv5 h) ?_
 refine r_u0 (o_stn ag41 z z z z z z z) (r_nil (x_seq (c_ret ?_)))
 obtain rfl:=si hm92
 exact x_d1 z (rv_n 0 (Ap.c r83.1) ag41 z z z z) (pk 7 [1,2,3,4]) le_ ⟨_,z,(⟨(pv86,g87),(pv89,g90),g91⟩:Ak.G),z,z,z⟩
end Go.Proofs.YtpanhdnglicknaaGreat
