import Derived.Test.YthngfieikhillaaW6
import Derived.Test.YthngfieikhillaaFacts
import Derived.Test.YthngfieikhillaaHwU
set_option linter.unusedVariables false
set_option linter.unusedSectionVars false
set_option linter.unusedSimpArgs false
set_option maxRecDepth 100000
set_option maxHeartbeats 8000000
namespace Go.Proofs.Ythngfieikhillaa
open Go Go.Proofs.Ythngfieikhillaa.Hw
def client_Client_Handle (a0 : client_Client) (a1 : api_Packet) (a2 : Int) : Option (List api_Packet × client_Client) :=
  if ((((client_Client_Ended a0) || (a1.To != a0.n)) || decide (a1.From < 0)) || decide (2 ≤ a1.From)) then some ([], a0) else (say_Open a1.S).bind fun r6 => if (r6.2 != 0) then some ([], a0) else if (((((r6.1.Kind == 15) && a0.under) && (r6.1.View.Primary != a1.From)) && (r6.1.View.Primary == (i64 (1 - a1.From)))) && (a0.to != r6.1.View.Primary)) then (client_Client_ask (⟨a0.n, a0.l, a0.at_, r6.1.View.Primary, a0.since, a0.began, a0.under, a0.heard, a0.epochs⟩ : client_Client)).bind fun r16 => some (r16.1, r16.2) else if (((((r6.1.Kind == 14) && a0.under) && (r6.1.Session == (toW a0.n))) && (r6.1.Num == (toW (i64 (a0.at_ + 1))))) && (r6.1.Reply.E != 130)) then (client_Client_told a0 r6.1 a2).bind fun r29 => some ([], r29) else some ([], a0)
theorem client_Client_Handle.ok {G R F} (b0_ : Nat) (a0 : client_Client) (g0_ : client_Client.G) (a1 : api_Packet) (a2 : Int) (r : List api_Packet × client_Client) (hm : client_Client_Handle a0 a1 a2 = some r) : CO Try.prog 17 [pt b0_ 0, .agg (api_Packet.c a1).toArray, vI a2] G R (Bk b0_ 97 [vI a0.n, g0_.l, vI a0.at_, vI a0.to, vI a0.since, vI a0.began, vB a0.under, g0_.heard, g0_.epochs] :: OwS true 32 5 api_Op.c g0_.l a0.l :: OwS true 65 9 api_Heard.c g0_.heard a0.heard :: OwS true 22 1 eW g0_.epochs a0.epochs :: F)
    (Ret fun u R' L' => ∃ (p0 : Value) (q0 : client_Client.G), u = p0 ∧ True ∧ L' = OwS true 59 4 api_Packet.c p0 r.1 :: Bk b0_ 97 [vI r.2.n, q0.l, vI r.2.at_, vI r.2.to, vI r.2.since, vI r.2.began, vB r.2.under, q0.heard, q0.epochs] :: OwS true 32 5 api_Op.c q0.l r.2.l :: OwS true 65 9 api_Heard.c q0.heard r.2.heard :: OwS true 22 1 eW q0.epochs r.2.epochs :: F) := by
  unfold client_Client_Handle at hm
  refine co_ofN (N := 124) Try.func17 rfl rfl ?_
  refine c_seq ?_
  refine c_reg ?_
  refine r_new (o_bx (api_Packet.c a1) rfl rfl) fun b3 => ?_
  refine r_u (o_as rfl) ?_
  refine r_nil ?_
  refine x_seq ?_
  refine c_seq ?_
  refine c_seq ?_
  refine c_any mixed (effs := [1]) (V := []) ?_
  refine stage_st (fun _ h => st_pk 5 [1, 2, 3, 4, 0] (by decide) h) ?_
  refine stage_ext [(0, pt b0_ 0)] rfl ?_
  refine stage rfl rfl rfl rfl [0, 1, 3, 7, 15, 7, 39, 103, 231, 511, 1023, 2047, 4095, 8191, 16383, 32767, 65535, 131071, 262143, 524287, 1048575] [0] [1] rfl rfl rfl (qc rfl rfl (s_u (o_mv rfl)) qn) ?_ (fun h => absurd h (by decide))
  refine ec (eo_c rfl (s_w (o_call ca20 rfl (client_Client_Ended.ok b0_ a0 g0_ _ rfl))) ?_) en
  refine stage_ext [(2, vB (client_Client_Ended a0)), (3, gv (!(client_Client_Ended a0)) (pt b3 1)), (4, gv (!(client_Client_Ended a0)) (vI a1.To)), (5, gv (!(client_Client_Ended a0)) (pt b0_ 0)), (6, gv (!(client_Client_Ended a0)) (pt b0_ 0)), (7, gv (!(client_Client_Ended a0)) (pt b0_ 0)), (8, gv (!(client_Client_Ended a0)) (vI a0.n)), (9, gv (!(client_Client_Ended a0)) (vB (a1.To != a0.n))), (10, vB ((client_Client_Ended a0) || (a1.To != a0.n))), (11, vB ((client_Client_Ended a0) || (a1.To != a0.n))), (12, gv (!((client_Client_Ended a0) || (a1.To != a0.n))) (pt b3 0)), (13, gv (!((client_Client_Ended a0) || (a1.To != a0.n))) (vI a1.From)), (14, gv (!((client_Client_Ended a0) || (a1.To != a0.n))) (vB (decide (a1.From < 0)))), (15, vB (((client_Client_Ended a0) || (a1.To != a0.n)) || decide (a1.From < 0))), (16, vB (((client_Client_Ended a0) || (a1.To != a0.n)) || decide (a1.From < 0))), (17, gv (!(((client_Client_Ended a0) || (a1.To != a0.n)) || decide (a1.From < 0))) (pt b3 0)), (18, gv (!(((client_Client_Ended a0) || (a1.To != a0.n)) || decide (a1.From < 0))) (vI a1.From)), (19, gv (!(((client_Client_Ended a0) || (a1.To != a0.n)) || decide (a1.From < 0))) (vB (decide (2 ≤ a1.From)))), (20, vB ((((client_Client_Ended a0) || (a1.To != a0.n)) || decide (a1.From < 0)) || decide (2 ≤ a1.From)))] rfl ?_
  refine stage rfl rfl rfl rfl [0, 1, 3, 7, 15, 7, 39, 103, 231, 511, 1023, 2047, 4095, 8191, 16383, 32767, 65535, 131071, 262143, 524287, 1048575] [2, 3, 4, 5, 6, 7, 8, 9, 10, 11, 12, 13, 14, 15, 16, 17, 18, 19, 20] [] rfl rfl rfl (qc rfl rfl (s_u (o_mv rfl)) (qc rfl rfl (s_gf rfl rfl fun g => o_fa fa59_1 rfl) (qc rfl rfl (s_gf rfl rfl fun g => o_ld 4 sc3 (evg rfl g) rfl rfl) (qc rfl rfl (s_gf rfl rfl fun g => o_mv rfl) (qc rfl rfl (s_gf rfl rfl fun g => o_nc (evg rfl g)) (qc rfl rfl (s_gf rfl rfl fun g => o_fa fa97_0 (evg rfl g)) (qc rfl rfl (s_gf rfl rfl fun g => o_ld 0 sc3 (evg rfl g) rfl rfl) (qc rfl rfl (s_gf rfl rfl fun g => o_bin (evg rfl g) (evg rfl g) (bI_ne a1.To a0.n)) (qc rfl rfl (s_u (o_or rfl rfl)) (qc rfl rfl (s_u (o_mv rfl)) (qc rfl rfl (s_gf rfl rfl fun g => o_fa fa59_0 rfl) (qc rfl rfl (s_gf rfl rfl fun g => o_ld 4 sc3 (evg rfl g) rfl rfl) (qc rfl rfl (s_gf rfl rfl fun g => o_bin (evg rfl g) rfl (bI_lt a1.From 0)) (qc rfl rfl (s_u (o_or rfl rfl)) (qc rfl rfl (s_u (o_mv rfl)) (qc rfl rfl (s_gf rfl rfl fun g => o_fa fa59_0 rfl) (qc rfl rfl (s_gf rfl rfl fun g => o_ld 4 sc3 (evg rfl g) rfl rfl) (qc rfl rfl (s_gf rfl rfl fun g => o_bin (evg rfl g) rfl (bI_ge a1.From 2)) (qc rfl rfl (s_u (o_or rfl rfl)) qn))))))))))))))))))) en ?_
  intro _
  refine ex_sub (E' := [(0, pt b0_ 0), (2, vI a2), (4, pt b3 0), (29, vB ((((client_Client_Ended a0) || (a1.To != a0.n)) || decide (a1.From < 0)) || decide (2 ≤ a1.From)))]) ⟨rfl, rfl, rfl, rfl, trivial⟩ ?_
  refine x_seq ?_
  refine c_if (b := ((((client_Client_Ended a0) || (a1.To != a0.n)) || decide (a1.From < 0)) || decide (2 ≤ a1.From))) rfl (fun h4 => ?_) fun h4 => ?_
  · have hm5 := ift hm h4
    clear hm
    refine c_seq ?_
    refine c_reg ?_
    refine r_u (o_as rfl) ?_
    refine r_nil ?_
    refine x_seq ?_
    refine c_ret ?_
    refine ex_st (fun _ h => st_nil (ap := true) (T := 59) (sz := 4) (en := api_Packet.c) h) ?_
    obtain rfl := Option.some.inj hm5
    refine ex_st (fun _ h => st_pk 6 [0, 1, 2, 3, 4] (by decide) h) ?_
    exact x_r1 rfl (rv_t rfl) (Le.refl _) ⟨_, rfl, (.slice none 0 0), g0_, rfl, trivial, rfl⟩
  · have hm5 := iff_ hm h4
    clear hm
    refine c_skip ?_
    refine x_seq ?_
    refine c_seq ?_
    refine c_reg ?_
    refine r_u (o_fa fa59_2 rfl) ?_
    refine r_u (o_ld 4 sc9 rfl rfl rfl) ?_
    obtain ⟨r6, hr6, hm10⟩ := bs hm5
    clear hm5
    refine r_sw (s_w (o_call ca10 rfl (say_Open.ok a1.S r6 hr6))) ?_
    rintro _ R _ _ ⟨v7, rfl, rfl, rfl⟩
    refine r_u (o_mv rfl) ?_
    refine r_u (o_ext rfl rfl) ?_
    refine r_u (o_ext rfl rfl) ?_
    refine r_new (o_al ze37) fun b11 => ?_
    refine r_u0 (ou_if (one_o 1 rfl) fun ho0 => ou_if (one_o 2 rfl) fun ho1 => o_stn ag37 rfl rfl rfl (al_c rfl (al_c rfl (al_c rfl (al_c rfl (al_c rfl (al_c rfl (al_c rfl (al_c rfl (al_c rfl (al_c rfl (al_c rfl (al_c rfl (al_c rfl (al_c rfl (al_c rfl (al_c rfl (al_c rfl (al_c rfl (al_c rfl (al_c rfl (al_c rfl (al_c rfl (al_c rfl (al_c rfl (al_c rfl (al_c rfl (al_c rfl (al_c rfl (al_c rfl (al_c rfl (al_c rfl (al_c rfl (al_c rfl (al_c ho0 (al_c rfl (al_c rfl (al_c rfl (al_c rfl (al_c rfl (al_c rfl (al_c ho1 (al_c rfl (al_c rfl (al_c rfl (al_c rfl (al_c rfl (al_c rfl (al_c rfl (al_c rfl (al_c rfl (al_c rfl al_n))))))))))))))))))))))))))))))))))))))))))))))))))) rfl rfl rfl) ?_
    refine r_u (o_as rfl) ?_
    refine r_nil ?_
    refine x_seq ?_
    refine c_seq ?_
    refine c_seq ?_
    refine c_reg ?_
    refine r_u (o_mv rfl) ?_
    refine r_u (o_bin rfl rfl (bI_ne r6.2 0)) ?_
    refine r_nil ?_
    refine x_seq ?_
    refine c_if (b := (r6.2 != 0)) rfl (fun h12 => ?_) fun h12 => ?_
    · have hm13 := ift hm10 h12
      clear hm10
      refine c_seq ?_
      refine c_reg ?_
      refine r_u (o_as rfl) ?_
      refine r_nil ?_
      refine x_seq ?_
      refine c_ret ?_
      refine ex_st (fun _ h => st_nil (ap := true) (T := 59) (sz := 4) (en := api_Packet.c) h) ?_
      obtain rfl := Option.some.inj hm13
      refine ex_st (fun _ h => st_pk 9 [0, 4, 5, 6, 7] (by decide) h) ?_
      exact x_r1 rfl (rv_t rfl) (Le.refl _) ⟨_, rfl, (.slice none 0 0), g0_, rfl, trivial, rfl⟩
    · have hm13 := iff_ hm10 h12
      clear hm10
      refine c_skip ?_
      refine x_seq ?_
      refine c_seq ?_
      refine c_blk ?_
      refine c_seq ?_
      refine c_any mixed (effs := []) (V := []) ?_
      refine stage_ext [(0, pt b11 0), (1, vI r6.1.Kind), (2, vB (r6.1.Kind == 15)), (3, vB (r6.1.Kind == 15)), (4, gv (r6.1.Kind == 15) (pt b0_ 0)), (5, gv (r6.1.Kind == 15) (pt b0_ 0)), (6, gv (r6.1.Kind == 15) (pt b0_ 6)), (7, gv (r6.1.Kind == 15) (vB a0.under)), (8, vB ((r6.1.Kind == 15) && a0.under)), (9, vB ((r6.1.Kind == 15) && a0.under)), (10, gv ((r6.1.Kind == 15) && a0.under) (pt b11 1)), (11, gv ((r6.1.Kind == 15) && a0.under) (pt b11 2)), (12, gv ((r6.1.Kind == 15) && a0.under) (vI r6.1.View.Primary)), (13, gv ((r6.1.Kind == 15) && a0.under) (pt b3 0)), (14, gv ((r6.1.Kind == 15) && a0.under) (vI a1.From)), (15, gv ((r6.1.Kind == 15) && a0.under) (vB (r6.1.View.Primary != a1.From))), (16, vB (((r6.1.Kind == 15) && a0.under) && (r6.1.View.Primary != a1.From))), (17, vB (((r6.1.Kind == 15) && a0.under) && (r6.1.View.Primary != a1.From))), (18, gv (((r6.1.Kind == 15) && a0.under) && (r6.1.View.Primary != a1.From)) (pt b11 1)), (19, gv (((r6.1.Kind == 15) && a0.under) && (r6.1.View.Primary != a1.From)) (pt b11 2)), (20, gv (((r6.1.Kind == 15) && a0.under) && (r6.1.View.Primary != a1.From)) (vI r6.1.View.Primary)), (21, gv (((r6.1.Kind == 15) && a0.under) && (r6.1.View.Primary != a1.From)) (pt b3 0)), (22, gv (((r6.1.Kind == 15) && a0.under) && (r6.1.View.Primary != a1.From)) (vI a1.From)), (23, gv (((r6.1.Kind == 15) && a0.under) && (r6.1.View.Primary != a1.From)) (vI (i64 (1 - a1.From)))), (24, gv (((r6.1.Kind == 15) && a0.under) && (r6.1.View.Primary != a1.From)) (vB (r6.1.View.Primary == (i64 (1 - a1.From))))), (25, vB ((((r6.1.Kind == 15) && a0.under) && (r6.1.View.Primary != a1.From)) && (r6.1.View.Primary == (i64 (1 - a1.From))))), (26, vB ((((r6.1.Kind == 15) && a0.under) && (r6.1.View.Primary != a1.From)) && (r6.1.View.Primary == (i64 (1 - a1.From))))), (27, gv ((((r6.1.Kind == 15) && a0.under) && (r6.1.View.Primary != a1.From)) && (r6.1.View.Primary == (i64 (1 - a1.From)))) (pt b0_ 0)), (28, gv ((((r6.1.Kind == 15) && a0.under) && (r6.1.View.Primary != a1.From)) && (r6.1.View.Primary == (i64 (1 - a1.From)))) (pt b0_ 0)), (29, gv ((((r6.1.Kind == 15) && a0.under) && (r6.1.View.Primary != a1.From)) && (r6.1.View.Primary == (i64 (1 - a1.From)))) (pt b0_ 3)), (30, gv ((((r6.1.Kind == 15) && a0.under) && (r6.1.View.Primary != a1.From)) && (r6.1.View.Primary == (i64 (1 - a1.From)))) (vI a0.to)), (31, gv ((((r6.1.Kind == 15) && a0.under) && (r6.1.View.Primary != a1.From)) && (r6.1.View.Primary == (i64 (1 - a1.From)))) (pt b11 1)), (32, gv ((((r6.1.Kind == 15) && a0.under) && (r6.1.View.Primary != a1.From)) && (r6.1.View.Primary == (i64 (1 - a1.From)))) (pt b11 2)), (33, gv ((((r6.1.Kind == 15) && a0.under) && (r6.1.View.Primary != a1.From)) && (r6.1.View.Primary == (i64 (1 - a1.From)))) (vI r6.1.View.Primary)), (34, gv ((((r6.1.Kind == 15) && a0.under) && (r6.1.View.Primary != a1.From)) && (r6.1.View.Primary == (i64 (1 - a1.From)))) (vB (a0.to != r6.1.View.Primary))), (35, vB (((((r6.1.Kind == 15) && a0.under) && (r6.1.View.Primary != a1.From)) && (r6.1.View.Primary == (i64 (1 - a1.From)))) && (a0.to != r6.1.View.Primary))), (36, vB (((((r6.1.Kind == 15) && a0.under) && (r6.1.View.Primary != a1.From)) && (r6.1.View.Primary == (i64 (1 - a1.From)))) && (a0.to != r6.1.View.Primary)))] rfl ?_
      refine stage rfl rfl rfl rfl [0, 1, 3, 7, 15, 31, 63, 127, 255, 511, 1023, 2047, 4095, 1023, 9215, 32767, 65535, 131071, 262143, 524287, 1048575, 262143, 2359295, 6553599, 16777215, 33554431, 67108863, 134217727, 268435455, 536870911, 1073741823, 134217727, 2281701375, 6576668671, 17179869183, 34359738367, 68719476735] [0, 1, 2, 3, 4, 5, 6, 7, 8, 9, 10, 11, 12, 13, 14, 15, 16, 17, 18, 19, 20, 21, 22, 23, 24, 25, 26, 27, 28, 29, 30, 31, 32, 33, 34, 35, 36] [] rfl rfl rfl (qc rfl rfl (s_u (o_fa fa37_0 rfl)) (qc rfl rfl (s_u (o_ld 0 sc3 rfl rfl rfl)) (qc rfl rfl (s_u (o_bin rfl rfl (bI_eq r6.1.Kind 15))) (qc rfl rfl (s_u (o_mv rfl)) (qc rfl rfl (s_gt rfl rfl fun g => o_mv rfl) (qc rfl rfl (s_gt rfl rfl fun g => o_nc (evg rfl g)) (qc rfl rfl (s_gt rfl rfl fun g => o_fa fa97_6 (evg rfl g)) (qc rfl rfl (s_gt rfl rfl fun g => o_ld 3 sc4 (evg rfl g) rfl rfl) (qc rfl rfl (s_u (o_and rfl rfl)) (qc rfl rfl (s_u (o_mv rfl)) (qc rfl rfl (s_gt rfl rfl fun g => o_fa fa37_1 rfl) (qc rfl rfl (s_gt rfl rfl fun g => o_fa fa24_1 (evg rfl g)) (qc rfl rfl (s_gt rfl rfl fun g => o_ld 0 sc3 (evg rfl g) rfl rfl) (qc rfl rfl (s_gt rfl rfl fun g => o_fa fa59_0 rfl) (qc rfl rfl (s_gt rfl rfl fun g => o_ld 7 sc3 (evg rfl g) rfl rfl) (qc rfl rfl (s_gt rfl rfl fun g => o_bin (evg rfl g) (evg rfl g) (bI_ne r6.1.View.Primary a1.From)) (qc rfl rfl (s_u (o_and rfl rfl)) (qc rfl rfl (s_u (o_mv rfl)) (qc rfl rfl (s_gt rfl rfl fun g => o_fa fa37_1 rfl) (qc rfl rfl (s_gt rfl rfl fun g => o_fa fa24_1 (evg rfl g)) (qc rfl rfl (s_gt rfl rfl fun g => o_ld 0 sc3 (evg rfl g) rfl rfl) (qc rfl rfl (s_gt rfl rfl fun g => o_fa fa59_0 rfl) (qc rfl rfl (s_gt rfl rfl fun g => o_ld 7 sc3 (evg rfl g) rfl rfl) (qc rfl rfl (s_gt rfl rfl fun g => o_bin rfl (evg rfl g) (bI_sub 1 a1.From)) (qc rfl rfl (s_gt rfl rfl fun g => o_bin (evg rfl g) (evg rfl g) (bI_eq r6.1.View.Primary (i64 (1 - a1.From)))) (qc rfl rfl (s_u (o_and rfl rfl)) (qc rfl rfl (s_u (o_mv rfl)) (qc rfl rfl (s_gt rfl rfl fun g => o_mv rfl) (qc rfl rfl (s_gt rfl rfl fun g => o_nc (evg rfl g)) (qc rfl rfl (s_gt rfl rfl fun g => o_fa fa97_3 (evg rfl g)) (qc rfl rfl (s_gt rfl rfl fun g => o_ld 3 sc3 (evg rfl g) rfl rfl) (qc rfl rfl (s_gt rfl rfl fun g => o_fa fa37_1 rfl) (qc rfl rfl (s_gt rfl rfl fun g => o_fa fa24_1 (evg rfl g)) (qc rfl rfl (s_gt rfl rfl fun g => o_ld 0 sc3 (evg rfl g) rfl rfl) (qc rfl rfl (s_gt rfl rfl fun g => o_bin (evg rfl g) (evg rfl g) (bI_ne a0.to r6.1.View.Primary)) (qc rfl rfl (s_u (o_and rfl rfl)) (qc rfl rfl (s_u (o_as rfl)) qn))))))))))))))))))))))))))))))))))))) en ?_
      intro _
      refine ex_sub (E' := [(0, pt b0_ 0), (2, vI a2), (7, pt b11 0), (38, vB (((((r6.1.Kind == 15) && a0.under) && (r6.1.View.Primary != a1.From)) && (r6.1.View.Primary == (i64 (1 - a1.From)))) && (a0.to != r6.1.View.Primary)))]) ⟨rfl, rfl, rfl, rfl, trivial⟩ ?_
      refine x_seq ?_
      refine c_if (b := (((((r6.1.Kind == 15) && a0.under) && (r6.1.View.Primary != a1.From)) && (r6.1.View.Primary == (i64 (1 - a1.From)))) && (a0.to != r6.1.View.Primary))) rfl (fun h14 => ?_) fun h14 => ?_
      · have hm15 := ift hm13 h14
        clear hm13
        refine c_seq ?_
        refine c_reg ?_
        refine r_u (o_mv rfl) ?_
        refine r_u (o_fa fa37_1 rfl) ?_
        refine r_u (o_fa fa24_1 rfl) ?_
        refine r_u (o_ld 0 sc3 rfl rfl rfl) ?_
        refine r_u (o_nc rfl) ?_
        refine r_u (o_fa fa97_3 rfl) ?_
        refine rl_st (fun _ h => st_pk 8 [3, 0, 1, 2, 4, 5, 6, 7] (by decide) h) ?_
        refine r_u0 (o_st sc3 rfl rfl rfl rfl rfl rfl) ?_
        refine r_nil ?_
        refine x_seq ?_
        refine c_seq ?_
        refine c_reg ?_
        refine r_u (o_mv rfl) ?_
        obtain ⟨r16, hr16, hm18⟩ := bs hm15
        clear hm15
        refine rl_st (fun _ h => st_pk 8 [0, 4, 5, 6, 1, 2, 3, 7] (by decide) h) ?_
        refine r_sw (s_w (o_call ca49 rfl (client_Client_ask.ok b0_ (⟨a0.n, a0.l, a0.at_, r6.1.View.Primary, a0.since, a0.began, a0.under, a0.heard, a0.epochs⟩ : client_Client) g0_ r16 hr16))) ?_
        rintro v17 R _ _ ⟨_, rfl, rfl, rfl⟩
        refine r_u (o_as rfl) ?_
        refine r_nil ?_
        refine x_seq ?_
        refine c_ret ?_
        obtain rfl := Option.some.inj hm18
        refine ex_st (fun _ h => st_pk 9 [0, 1, 2, 3, 4] (by decide) h) ?_
        exact x_r1 rfl (rv_t rfl) (Le.refl _) ⟨_, rfl, v17, g0_, rfl, trivial, rfl⟩
      · have hm15 := iff_ hm13 h14
        clear hm13
        refine c_seq ?_
        refine c_any mixed (effs := []) (V := []) ?_
        refine stage_ext [(0, pt b11 0), (1, vI r6.1.Kind), (2, vB (r6.1.Kind == 14)), (3, vB (r6.1.Kind == 14)), (4, gv (r6.1.Kind == 14) (pt b0_ 0)), (5, gv (r6.1.Kind == 14) (pt b0_ 0)), (6, gv (r6.1.Kind == 14) (pt b0_ 6)), (7, gv (r6.1.Kind == 14) (vB a0.under)), (8, vB ((r6.1.Kind == 14) && a0.under)), (9, vB ((r6.1.Kind == 14) && a0.under)), (10, gv ((r6.1.Kind == 14) && a0.under) (pt b11 41)), (11, gv ((r6.1.Kind == 14) && a0.under) (vW r6.1.Session)), (12, gv ((r6.1.Kind == 14) && a0.under) (pt b0_ 0)), (13, gv ((r6.1.Kind == 14) && a0.under) (pt b0_ 0)), (14, gv ((r6.1.Kind == 14) && a0.under) (pt b0_ 0)), (15, gv ((r6.1.Kind == 14) && a0.under) (vI a0.n)), (16, gv ((r6.1.Kind == 14) && a0.under) (vW (toW a0.n))), (17, gv ((r6.1.Kind == 14) && a0.under) (vB (r6.1.Session == (toW a0.n)))), (18, vB (((r6.1.Kind == 14) && a0.under) && (r6.1.Session == (toW a0.n)))), (19, vB (((r6.1.Kind == 14) && a0.under) && (r6.1.Session == (toW a0.n)))), (20, gv (((r6.1.Kind == 14) && a0.under) && (r6.1.Session == (toW a0.n))) (pt b11 42)), (21, gv (((r6.1.Kind == 14) && a0.under) && (r6.1.Session == (toW a0.n))) (vW r6.1.Num)), (22, gv (((r6.1.Kind == 14) && a0.under) && (r6.1.Session == (toW a0.n))) (pt b0_ 0)), (23, gv (((r6.1.Kind == 14) && a0.under) && (r6.1.Session == (toW a0.n))) (pt b0_ 0)), (24, gv (((r6.1.Kind == 14) && a0.under) && (r6.1.Session == (toW a0.n))) (pt b0_ 2)), (25, gv (((r6.1.Kind == 14) && a0.under) && (r6.1.Session == (toW a0.n))) (vI a0.at_)), (26, gv (((r6.1.Kind == 14) && a0.under) && (r6.1.Session == (toW a0.n))) (vI (i64 (a0.at_ + 1)))), (27, gv (((r6.1.Kind == 14) && a0.under) && (r6.1.Session == (toW a0.n))) (vW (toW (i64 (a0.at_ + 1))))), (28, gv (((r6.1.Kind == 14) && a0.under) && (r6.1.Session == (toW a0.n))) (vB (r6.1.Num == (toW (i64 (a0.at_ + 1)))))), (29, vB ((((r6.1.Kind == 14) && a0.under) && (r6.1.Session == (toW a0.n))) && (r6.1.Num == (toW (i64 (a0.at_ + 1)))))), (30, vB ((((r6.1.Kind == 14) && a0.under) && (r6.1.Session == (toW a0.n))) && (r6.1.Num == (toW (i64 (a0.at_ + 1)))))), (31, gv ((((r6.1.Kind == 14) && a0.under) && (r6.1.Session == (toW a0.n))) && (r6.1.Num == (toW (i64 (a0.at_ + 1))))) (pt b11 48)), (32, gv ((((r6.1.Kind == 14) && a0.under) && (r6.1.Session == (toW a0.n))) && (r6.1.Num == (toW (i64 (a0.at_ + 1))))) (pt b11 48)), (33, gv ((((r6.1.Kind == 14) && a0.under) && (r6.1.Session == (toW a0.n))) && (r6.1.Num == (toW (i64 (a0.at_ + 1))))) (vI r6.1.Reply.E)), (34, gv ((((r6.1.Kind == 14) && a0.under) && (r6.1.Session == (toW a0.n))) && (r6.1.Num == (toW (i64 (a0.at_ + 1))))) (vB (r6.1.Reply.E != 130))), (35, vB (((((r6.1.Kind == 14) && a0.under) && (r6.1.Session == (toW a0.n))) && (r6.1.Num == (toW (i64 (a0.at_ + 1))))) && (r6.1.Reply.E != 130))), (36, vB (((((r6.1.Kind == 14) && a0.under) && (r6.1.Session == (toW a0.n))) && (r6.1.Num == (toW (i64 (a0.at_ + 1))))) && (r6.1.Reply.E != 130)))] rfl ?_
        refine stage rfl rfl rfl rfl [0, 1, 3, 7, 15, 31, 63, 127, 255, 511, 1023, 2047, 1023, 5119, 13311, 29695, 62463, 131071, 262143, 524287, 1048575, 2097151, 1048575, 5242879, 13631487, 30408703, 63963135, 131071999, 268435455, 536870911, 1073741823, 2147483647, 4294967295, 8589934591, 17179869183, 34359738367, 68719476735] [0, 1, 2, 3, 4, 5, 6, 7, 8, 9, 10, 11, 12, 13, 14, 15, 16, 17, 18, 19, 20, 21, 22, 23, 24, 25, 26, 27, 28, 29, 30, 31, 32, 33, 34, 35, 36] [] rfl rfl rfl (qc rfl rfl (s_u (o_fa fa37_0 rfl)) (qc rfl rfl (s_u (o_ld 0 sc3 rfl rfl rfl)) (qc rfl rfl (s_u (o_bin rfl rfl (bI_eq r6.1.Kind 14))) (qc rfl rfl (s_u (o_mv rfl)) (qc rfl rfl (s_gt rfl rfl fun g => o_mv rfl) (qc rfl rfl (s_gt rfl rfl fun g => o_nc (evg rfl g)) (qc rfl rfl (s_gt rfl rfl fun g => o_fa fa97_6 (evg rfl g)) (qc rfl rfl (s_gt rfl rfl fun g => o_ld 3 sc4 (evg rfl g) rfl rfl) (qc rfl rfl (s_u (o_and rfl rfl)) (qc rfl rfl (s_u (o_mv rfl)) (qc rfl rfl (s_gt rfl rfl fun g => o_fa fa37_12 rfl) (qc rfl rfl (s_gt rfl rfl fun g => o_ld 0 sc22 (evg rfl g) rfl rfl) (qc rfl rfl (s_gt rfl rfl fun g => o_mv rfl) (qc rfl rfl (s_gt rfl rfl fun g => o_nc (evg rfl g)) (qc rfl rfl (s_gt rfl rfl fun g => o_fa fa97_0 (evg rfl g)) (qc rfl rfl (s_gt rfl rfl fun g => o_ld 3 sc3 (evg rfl g) rfl rfl) (qc rfl rfl (s_gt rfl rfl fun g => o_cv (evg rfl g) (cIW Try.underlying3 Try.underlying22 a0.n)) (qc rfl rfl (s_gt rfl rfl fun g => o_bin (evg rfl g) (evg rfl g) (bW_eq r6.1.Session (toW a0.n))) (qc rfl rfl (s_u (o_and rfl rfl)) (qc rfl rfl (s_u (o_mv rfl)) (qc rfl rfl (s_gt rfl rfl fun g => o_fa fa37_13 rfl) (qc rfl rfl (s_gt rfl rfl fun g => o_ld 0 sc22 (evg rfl g) rfl rfl) (qc rfl rfl (s_gt rfl rfl fun g => o_mv rfl) (qc rfl rfl (s_gt rfl rfl fun g => o_nc (evg rfl g)) (qc rfl rfl (s_gt rfl rfl fun g => o_fa fa97_2 (evg rfl g)) (qc rfl rfl (s_gt rfl rfl fun g => o_ld 3 sc3 (evg rfl g) rfl rfl) (qc rfl rfl (s_gt rfl rfl fun g => o_bin (evg rfl g) rfl (bI_add a0.at_ 1)) (qc rfl rfl (s_gt rfl rfl fun g => o_cv (evg rfl g) (cIW Try.underlying3 Try.underlying22 (i64 (a0.at_ + 1)))) (qc rfl rfl (s_gt rfl rfl fun g => o_bin (evg rfl g) (evg rfl g) (bW_eq r6.1.Num (toW (i64 (a0.at_ + 1))))) (qc rfl rfl (s_u (o_and rfl rfl)) (qc rfl rfl (s_u (o_mv rfl)) (qc rfl rfl (s_gt rfl rfl fun g => o_fa fa37_15 rfl) (qc rfl rfl (s_gt rfl rfl fun g => o_fa fa35_0 (evg rfl g)) (qc rfl rfl (s_gt rfl rfl fun g => o_ld 0 sc33 (evg rfl g) rfl rfl) (qc rfl rfl (s_gt rfl rfl fun g => o_bin (evg rfl g) rfl (bI_ne r6.1.Reply.E 130)) (qc rfl rfl (s_u (o_and rfl rfl)) (qc rfl rfl (s_u (o_as rfl)) qn))))))))))))))))))))))))))))))))))))) en ?_
        intro _
        refine ex_sub (E' := [(0, pt b0_ 0), (2, vI a2), (7, pt b11 0), (83, vB (((((r6.1.Kind == 14) && a0.under) && (r6.1.Session == (toW a0.n))) && (r6.1.Num == (toW (i64 (a0.at_ + 1))))) && (r6.1.Reply.E != 130)))]) ⟨rfl, rfl, rfl, rfl, trivial⟩ ?_
        refine x_seq ?_
        refine c_if (b := (((((r6.1.Kind == 14) && a0.under) && (r6.1.Session == (toW a0.n))) && (r6.1.Num == (toW (i64 (a0.at_ + 1))))) && (r6.1.Reply.E != 130))) rfl (fun h19 => ?_) fun h19 => ?_
        · have hm20 := ift hm15 h19
          clear hm15
          refine c_reg ?_
          refine r_u (o_mv rfl) ?_
          refine r_u (o_ldn 0 [vI r6.1.Kind, vW r6.1.View.V, vI r6.1.View.Primary, vW r6.1.View.PLife, vI r6.1.View.Backup, vW r6.1.View.BLife, vW r6.1.View.Epoch, vW r6.1.Value.V, vI r6.1.Value.Primary, vW r6.1.Value.PLife, vI r6.1.Value.Backup, vW r6.1.Value.BLife, vW r6.1.Value.Epoch, vW r6.1.Ballot, vB r6.1.Promise.OK, vW r6.1.Promise.V, vW r6.1.Promise.Most, vW r6.1.Promise.Ballot, vW r6.1.Promise.Value.V, vI r6.1.Promise.Value.Primary, vW r6.1.Promise.Value.PLife, vI r6.1.Promise.Value.Backup, vW r6.1.Promise.Value.BLife, vW r6.1.Promise.Value.Epoch, vW r6.1.Promise.Chosen.V, vI r6.1.Promise.Chosen.Primary, vW r6.1.Promise.Chosen.PLife, vI r6.1.Promise.Chosen.Backup, vW r6.1.Promise.Chosen.BLife, vW r6.1.Promise.Chosen.Epoch, vW r6.1.Seq, vW r6.1.Done, vW r6.1.Life, v7.Records, vI r6.1.Piece.N, vI r6.1.Piece.Of, vS r6.1.Piece.Data, vS r6.1.Piece.Sum, vS r6.1.Piece.Whole, vS r6.1.Digest, v7.Sums, vW r6.1.Session, vW r6.1.Num, vI r6.1.Op.Kind, vS r6.1.Op.Key, vS r6.1.Op.Value, vW r6.1.Op.TTL, vW r6.1.Op.Version, vI r6.1.Reply.E, vS r6.1.Reply.Value, vW r6.1.Reply.Version] ag37 rfl rfl rfl rfl) ?_
          refine r_u (o_mv rfl) ?_
          refine rl_st (fun _ h => st_pk 8 [1, 0, 2, 3, 4, 5, 6, 7] (by decide) h) ?_
          refine rl_ex (fun w h => st_freeze w h) fun R21 hf24 => ?_
          obtain ⟨le22, h23⟩ := hf24
          refine rl_st (fun _ h => st_pk 7 [1, 0, 2, 3, 4, 5, 6] (by decide) h) ?_
          refine rl_ex (fun w h => st_freeze w h) fun R25 hf28 => ?_
          obtain ⟨le26, h27⟩ := hf28
          obtain ⟨r29, hr29, hm34⟩ := bs hm20
          clear hm20
          refine rl_st (fun _ h => st_pk 6 [1, 2, 3, 4, 0, 5] (by decide) h) ?_
          refine r_sw (s_w (o_call ca50 rfl (client_Client_told.ok b0_ a0 g0_ r6.1 v7 ⟨(RoS.mono le26 h23), h27⟩ a2 r29 hr29))) ?_
          rintro _ R25 _ _ ⟨g30, rfl, rfl, rfl⟩
          refine r_nil ?_
          refine x_blk ?_
          refine x_seq ?_
          refine c_seq ?_
          refine c_reg ?_
          refine r_u (o_as rfl) ?_
          refine r_nil ?_
          refine x_seq ?_
          refine c_ret ?_
          refine ex_st (fun _ h => st_nil (ap := true) (T := 59) (sz := 4) (en := api_Packet.c) h) ?_
          obtain rfl := Option.some.inj hm34
          refine ex_st (fun _ h => st_pk 7 [0, 1, 2, 3, 4] (by decide) h) ?_
          exact x_r1 rfl (rv_t rfl) (Le.trans le22 le26) ⟨_, rfl, (.slice none 0 0), g30, rfl, trivial, rfl⟩
        · have hm20 := iff_ hm15 h19
          clear hm15
          refine c_skip ?_
          refine x_blk ?_
          refine x_seq ?_
          refine c_seq ?_
          refine c_reg ?_
          refine r_u (o_as rfl) ?_
          refine r_nil ?_
          refine x_seq ?_
          refine c_ret ?_
          refine ex_st (fun _ h => st_nil (ap := true) (T := 59) (sz := 4) (en := api_Packet.c) h) ?_
          obtain rfl := Option.some.inj hm20
          refine ex_st (fun _ h => st_pk 9 [0, 4, 5, 6, 7] (by decide) h) ?_
          exact x_r1 rfl (rv_t rfl) (Le.refl _) ⟨_, rfl, (.slice none 0 0), g0_, rfl, trivial, rfl⟩

def client_Client_Heard (a0 : client_Client) : Option (List api_Heard) :=
  (apd 80 [] a0.heard).bind fun l4 => some l4
theorem client_Client_Heard.ok {G R F} (b0_ : Nat) (a0 : client_Client) (g0_ : client_Client.G) (r : List api_Heard) (hm : client_Client_Heard a0 = some r) : CO Try.prog 21 [pt b0_ 0] G R (Bk b0_ 97 [vI a0.n, g0_.l, vI a0.at_, vI a0.to, vI a0.since, vI a0.began, vB a0.under, g0_.heard, g0_.epochs] :: OwS true 32 5 api_Op.c g0_.l a0.l :: OwS true 65 9 api_Heard.c g0_.heard a0.heard :: OwS true 22 1 eW g0_.epochs a0.epochs :: F)
    (Ret fun u R' L' => ∃ p0, u = p0 ∧ R' = R ∧ L' = OwS true 65 9 api_Heard.c p0 r :: Bk b0_ 97 [vI a0.n, g0_.l, vI a0.at_, vI a0.to, vI a0.since, vI a0.began, vB a0.under, g0_.heard, g0_.epochs] :: OwS true 32 5 api_Op.c g0_.l a0.l :: OwS true 65 9 api_Heard.c g0_.heard a0.heard :: OwS true 22 1 eW g0_.epochs a0.epochs :: F) := by
  unfold client_Client_Heard at hm
  refine co_ofN (N := 10) Try.func21 rfl rfl ?_
  refine c_seq ?_
  refine c_reg ?_
  refine r_u (o_as rfl) ?_
  refine r_nil ?_
  refine x_seq ?_
  refine c_seq ?_
  refine c_seq ?_
  refine c_reg ?_
  refine r_u (o_mv rfl) ?_
  refine r_u (o_bin rfl rfl (bP_eqp Try.underlying49)) ?_
  refine r_nil ?_
  refine x_seq ?_
  refine c_ff rfl ?_
  refine c_skip ?_
  refine x_seq ?_
  refine c_seq ?_
  refine c_reg ?_
  refine r_u (o_mv rfl) ?_
  refine r_u (o_nc rfl) ?_
  refine r_u (o_fa fa97_7 rfl) ?_
  refine r_u (o_ld 0 sc62 rfl rfl rfl) ?_
  obtain ⟨l4, hl4, hm5⟩ := bs hm
  clear hm
  refine rl_st (fun _ h => st_pk 4 [2, 0, 1, 3] (by decide) h) ?_
  refine r_sw (s_w (o_call ca51 rfl (clone51.okO rfl hl4))) ?_
  rintro v3 R _ _ ⟨rfl, rfl⟩
  refine r_u (o_as rfl) ?_
  refine r_nil ?_
  refine x_seq ?_
  refine c_ret ?_
  obtain rfl := Option.some.inj hm5
  refine ex_st (fun _ h => st_pk 5 [0, 2, 3, 1, 4] (by decide) h) ?_
  exact x_r1 rfl (rv_t rfl) (Le.refl _) ⟨_, rfl, v3, rfl, rfl, rfl⟩

def hawthornlaw21_awake  : Option Bool :=
  (client_New 10 [hawthornlaw21_get]).bind fun r5 => om r5.1 (none) fun x10 => (client_Client_Tick x10 4).bind fun r17 => Option.bind (if ((r5.2 != 0) || ((r17.1.length : Int) != 1)) then some true else (gi r17.1 0).bind fun x46 => some ((x46.To != 0) || (x46.From != 10))) fun p20 => if p20 then some false else (hawthornlaw21_told 0 10 (⟨14, (hawthornlaw21_view 0), (⟨0, 0, 0, 0, 0, 0⟩ : api_View), 0, (⟨false, 0, 0, 0, (⟨0, 0, 0, 0, 0, 0⟩ : api_View), (⟨0, 0, 0, 0, 0, 0⟩ : api_View)⟩ : api_Promise), 7, 0, 0, [], (⟨0, 0, [], [], []⟩ : api_Piece), [], [], 10, 1, (⟨0, [], [], 0, 0⟩ : api_Op), (⟨0, [], 0⟩ : api_Reply)⟩ : api_Say)).bind fun r26 => (client_Client_Handle r17.2 r26 9).bind fun r28 => (client_Client_Heard r28.2).bind fun r37 => if ((client_Client_Ended r28.2) && ((r37.length : Int) == 1)) then (gi r37 0).bind fun x42 => some ((((x42.Seq == 7) && (x42.Began == 4)) && (x42.Ended == 9)) && (x42.Epoch == 2)) else some false
theorem hawthornlaw21_awake.ok {G R F} (r : Bool) (hm : hawthornlaw21_awake = some r) : CO Try.prog 14 [] G R (F)
    (Ret fun u R' L' => u = vB r ∧ True ∧ L' = F) := by
  unfold hawthornlaw21_awake at hm
  refine co_ofN (N := 76) Try.func14 rfl rfl ?_
  refine c_seq ?_
  refine c_reg ?_
  refine r_u (o_as rfl) ?_
  refine r_nil ?_
  refine x_seq ?_
  refine c_seq ?_
  refine c_reg ?_
  refine r_u (o_callq ca22 rfl (hawthornlaw21_get.ok _ rfl)) ?_
  refine r_sw (s_w (o_bsl (en := api_Op.c) (sz := 5) (e := 32) (cs := [vI hawthornlaw21_get.Kind, vS hawthornlaw21_get.Key, vS hawthornlaw21_get.Value, vW hawthornlaw21_get.TTL, vW hawthornlaw21_get.Version]) (r := [hawthornlaw21_get]) rfl (fun _ => by kernel_rfl) rfl (by decide) rfl (fun _ => rfl))) ?_
  rintro v0 R _ _ ⟨rfl, rfl⟩
  refine rl_ex (fun w h => st_freeze w h) fun R1 hf4 => ?_
  obtain ⟨le2, h3⟩ := hf4
  obtain ⟨r5, hr5, hm9⟩ := bs hm
  clear hm
  refine r_sw (s_w (o_call ca13 rfl (client_New.ok 10 v0 [hawthornlaw21_get] h3 r5 hr5))) ?_
  rintro _ R1 _ _ ⟨⟨pv7, g8⟩, rfl, rfl, rfl⟩
  refine r_u (o_mv rfl) ?_
  refine r_u (o_ext rfl rfl) ?_
  refine r_u (o_ext rfl rfl) ?_
  refine r_u (o_as rfl) ?_
  refine r_u (o_as rfl) ?_
  refine r_nil ?_
  refine x_seq ?_
  refine c_seq ?_
  refine cd_opt (fun ho12 => ?_) (fun x10 b11 ho12 => ?_)
  · rintro rfl
    have hm13 := om_n hm9 ho12
    clear hm9
    cases hm13
  · rintro rfl
    have hm13 := om_s hm9 ho12
    clear hm9
    refine cd_st (fun _ h => st_star_o h) ?_
    refine c_reg ?_
    refine r_u (o_mv rfl) ?_
    obtain ⟨r17, hr17, hm19⟩ := bs hm13
    clear hm13
    refine r_sw (s_w (o_call ca15 rfl (client_Client_Tick.ok b11 x10 g8 4 r17 hr17))) ?_
    rintro v18 R1 _ _ ⟨_, rfl, rfl, rfl⟩
    refine r_u (o_as rfl) ?_
    refine r_nil ?_
    refine x_seq ?_
    refine c_seq ?_
    refine c_seq ?_
    obtain ⟨p20, hp21, hm22⟩ := bs hm19
    refine cd_join (E' := [(1, pt b11 0), (33, vB p20)]) (L' := Bk b11 97 [vI r17.2.n, g8.l, vI r17.2.at_, vI r17.2.to, vI r17.2.since, vI r17.2.began, vB r17.2.under, g8.heard, g8.epochs] :: OwS true 59 4 api_Packet.c v18 r17.1 :: OwS true 32 5 api_Op.c g8.l r17.2.l :: OwS true 65 9 api_Heard.c g8.heard r17.2.heard :: OwS true 22 1 eW g8.epochs r17.2.epochs :: F) ?_ fun K23 => ?_
    · refine x_seq ?_
      refine c_if (b := p20) rfl (fun h24 => ?_) fun h24 => ?_
      · have hm25 := ift hm22 h24
        clear hm22
        refine c_seq ?_
        refine c_reg ?_
        refine r_u (o_as rfl) ?_
        refine r_nil ?_
        refine x_seq ?_
        refine c_ret ?_
        obtain rfl := Option.some.inj hm25
        refine ex_st (fun _ h => st_pk 5 [] (by decide) h) ?_
        exact x_r1 rfl (rv_t rfl) le2 ⟨_, rfl, rfl, trivial, rfl⟩
      · have hm25 := iff_ hm22 h24
        clear hm22
        refine c_skip ?_
        refine x_seq ?_
        refine c_seq ?_
        refine c_reg ?_
        refine r_u (o_mv rfl) ?_
        refine r_u (o_callq ca16 rfl (hawthornlaw21_view.ok 0 _ rfl)) ?_
        refine r_u (o_bld [vI 14, vW ((hawthornlaw21_view 0).V), vI ((hawthornlaw21_view 0).Primary), vW ((hawthornlaw21_view 0).PLife), vI ((hawthornlaw21_view 0).Backup), vW ((hawthornlaw21_view 0).BLife), vW ((hawthornlaw21_view 0).Epoch), vW 0, vI 0, vW 0, vI 0, vW 0, vW 0, vW 0, vB false, vW 0, vW 0, vW 0, vW 0, vI 0, vW 0, vI 0, vW 0, vW 0, vW 0, vI 0, vW 0, vI 0, vW 0, vW 0, vW 7, vW 0, vW 0, .slice none 0 0, vI 0, vI 0, vS [], vS [], vS [], vS [], .slice none 0 0, vW 10, vW 1, vI 0, vS [], vS [], vW 0, vW 0, vI 0, vS [], vW 0] rfl (fun _ => by kernel_rfl)) ?_
        obtain ⟨r26, hr26, hm27⟩ := bs hm25
        clear hm25
        refine r_u (o_callq ca18 rfl (hawthornlaw21_told.ok 0 10 (⟨14, (hawthornlaw21_view 0), (⟨0, 0, 0, 0, 0, 0⟩ : api_View), 0, (⟨false, 0, 0, 0, (⟨0, 0, 0, 0, 0, 0⟩ : api_View), (⟨0, 0, 0, 0, 0, 0⟩ : api_View)⟩ : api_Promise), 7, 0, 0, [], (⟨0, 0, [], [], []⟩ : api_Piece), [], [], 10, 1, (⟨0, [], [], 0, 0⟩ : api_Op), (⟨0, [], 0⟩ : api_Reply)⟩ : api_Say) (⟨.slice none 0 0, .slice none 0 0⟩ : api_Say.G) ⟨RoS.nil, RoS.nil⟩ r26 hr26)) ?_
        obtain ⟨r28, hr28, hm36⟩ := bs hm27
        clear hm27
        refine rl_st (fun _ h => st_pk 5 [0, 2, 3, 4, 1] (by decide) h) ?_
        refine r_sw (s_w (o_call ca17 rfl (client_Client_Handle.ok b11 r17.2 g8 r26 9 r28 hr28))) ?_
        rintro v29 R34 _ le35 ⟨_, g30, rfl, _, rfl⟩
        refine r_nil ?_
        refine x_seq ?_
        refine c_seq ?_
        refine c_reg ?_
        refine r_u (o_mv rfl) ?_
        obtain ⟨r37, hr37, hm39⟩ := bs hm36
        clear hm36
        refine rl_st (fun _ h => st_pk 6 [1, 2, 3, 4, 0, 5] (by decide) h) ?_
        refine r_sw (s_w (o_call ca21 rfl (client_Client_Heard.ok b11 r28.2 g30 r37 hr37))) ?_
        rintro v38 R34 _ _ ⟨_, rfl, rfl, rfl⟩
        refine r_u (o_as rfl) ?_
        refine r_nil ?_
        refine x_seq ?_
        refine c_seq ?_
        refine cd_by ((client_Client_Ended r28.2) && ((r37.length : Int) == 1)) (fun h40 => ?_) fun h40 => ?_
        · have hm41 := ift hm39 h40
          clear hm39
          refine c_reg ?_
          refine r_u (o_mv rfl) ?_
          refine rl_st (fun _ h => st_pk 7 [1, 2, 3, 4, 0, 5, 6] (by decide) h) ?_
          refine r_c (s_w (o_call ca20 rfl (client_Client_Ended.ok b11 r28.2 g30 _ rfl))) ?_
          refine r_u (o_mv rfl) ?_
          refine r_s (s_gt rfl rfl fun g => o_mv rfl) ?_
          refine r_s (s_gt rfl rfl fun g => o_lenO 4 Try.underlying62 (evg rfl g) rfl) ?_
          refine r_s (s_gt rfl rfl fun g => o_bin (evg rfl g) rfl (bI_eq (r37.length : Int) 1)) ?_
          refine r_u (o_and rfl rfl) ?_
          refine r_u (o_mv rfl) ?_
          refine r_s (s_y rfl rfl h40 (o_mv rfl)) ?_
          obtain ⟨x42, hx42, hm43⟩ := bs hm41
          clear hm41
          refine r_s (s_y rfl rfl h40 (o_ixO 4 Try.underlying62 (fun _ => by kernel_rfl) rfl rfl rfl hx42)) ?_
          refine r_s (s_y rfl rfl h40 (o_fa fa65_3 rfl)) ?_
          refine r_s (s_y rfl rfl h40 (o_ldO 4 3 sc22 rfl rfl hx42 rfl rfl)) ?_
          refine r_s (s_y rfl rfl h40 (o_bin rfl rfl (bW_eq x42.Seq 7))) ?_
          refine r_u (o_pt rfl h40 rfl) ?_
          refine r_u (o_mv rfl) ?_
          refine r_s (s_gt rfl rfl fun g => o_mv rfl) ?_
          refine r_s (s_gt rfl rfl fun g => o_ixO 4 Try.underlying62 (fun _ => by kernel_rfl) (evg rfl g) rfl rfl hx42) ?_
          refine r_s (s_gt rfl rfl fun g => o_fa fa65_5 (evg rfl g)) ?_
          refine r_s (s_gt rfl rfl fun g => o_ldO 4 7 sc3 (evg rfl g) rfl hx42 rfl rfl) ?_
          refine r_s (s_gt rfl rfl fun g => o_bin (evg rfl g) rfl (bI_eq x42.Began 4)) ?_
          refine r_u (o_and rfl rfl) ?_
          refine r_u (o_mv rfl) ?_
          refine r_s (s_gt rfl rfl fun g => o_mv rfl) ?_
          refine r_s (s_gt rfl rfl fun g => o_ixO 4 Try.underlying62 (fun _ => by kernel_rfl) (evg rfl g) rfl rfl hx42) ?_
          refine r_s (s_gt rfl rfl fun g => o_fa fa65_6 (evg rfl g)) ?_
          refine r_s (s_gt rfl rfl fun g => o_ldO 4 8 sc3 (evg rfl g) rfl hx42 rfl rfl) ?_
          refine r_s (s_gt rfl rfl fun g => o_bin (evg rfl g) rfl (bI_eq x42.Ended 9)) ?_
          refine r_u (o_and rfl rfl) ?_
          refine r_u (o_mv rfl) ?_
          refine r_s (s_gt rfl rfl fun g => o_mv rfl) ?_
          refine r_s (s_gt rfl rfl fun g => o_ixO 4 Try.underlying62 (fun _ => by kernel_rfl) (evg rfl g) rfl rfl hx42) ?_
          refine r_s (s_gt rfl rfl fun g => o_fa fa65_1 (evg rfl g)) ?_
          refine r_s (s_gt rfl rfl fun g => o_ldO 4 1 sc22 (evg rfl g) rfl hx42 rfl rfl) ?_
          refine r_s (s_gt rfl rfl fun g => o_bin (evg rfl g) rfl (bW_eq x42.Epoch 2)) ?_
          refine r_u (o_and rfl rfl) ?_
          refine r_u (o_as rfl) ?_
          refine r_nil ?_
          refine x_seq ?_
          refine c_ret ?_
          obtain rfl := Option.some.inj hm43
          refine ex_st (fun _ h => st_pk 7 [] (by decide) h) ?_
          exact x_r1 rfl (rv_t rfl) (Le.trans le2 le35) ⟨_, rfl, rfl, trivial, rfl⟩
        · have hm41 := iff_ hm39 h40
          clear hm39
          refine c_reg ?_
          refine r_u (o_mv rfl) ?_
          refine rl_st (fun _ h => st_pk 7 [1, 2, 3, 4, 0, 5, 6] (by decide) h) ?_
          refine r_c (s_w (o_call ca20 rfl (client_Client_Ended.ok b11 r28.2 g30 _ rfl))) ?_
          refine r_u (o_mv rfl) ?_
          refine r_s (s_gt rfl rfl fun g => o_mv rfl) ?_
          refine r_s (s_gt rfl rfl fun g => o_lenO 4 Try.underlying62 (evg rfl g) rfl) ?_
          refine r_s (s_gt rfl rfl fun g => o_bin (evg rfl g) rfl (bI_eq (r37.length : Int) 1)) ?_
          refine r_u (o_and rfl rfl) ?_
          refine r_u (o_mv rfl) ?_
          refine r_s (s_n rfl rfl h40) ?_
          refine r_s (s_n rfl rfl h40) ?_
          refine r_s (s_n rfl rfl h40) ?_
          refine r_s (s_n rfl rfl h40) ?_
          refine r_s (s_n rfl rfl h40) ?_
          refine r_u (o_pf rfl h40 rfl) ?_
          refine r_u (o_mv rfl) ?_
          refine r_s (s_n rfl rfl rfl) ?_
          refine r_s (s_n rfl rfl rfl) ?_
          refine r_s (s_n rfl rfl rfl) ?_
          refine r_s (s_n rfl rfl rfl) ?_
          refine r_s (s_n rfl rfl rfl) ?_
          refine r_u (o_pf rfl rfl rfl) ?_
          refine r_u (o_mv rfl) ?_
          refine r_s (s_n rfl rfl rfl) ?_
          refine r_s (s_n rfl rfl rfl) ?_
          refine r_s (s_n rfl rfl rfl) ?_
          refine r_s (s_n rfl rfl rfl) ?_
          refine r_s (s_n rfl rfl rfl) ?_
          refine r_u (o_pf rfl rfl rfl) ?_
          refine r_u (o_mv rfl) ?_
          refine r_s (s_n rfl rfl rfl) ?_
          refine r_s (s_n rfl rfl rfl) ?_
          refine r_s (s_n rfl rfl rfl) ?_
          refine r_s (s_n rfl rfl rfl) ?_
          refine r_s (s_n rfl rfl rfl) ?_
          refine r_u (o_pf rfl rfl rfl) ?_
          refine r_u (o_as rfl) ?_
          refine r_nil ?_
          refine x_seq ?_
          refine c_ret ?_
          obtain rfl := Option.some.inj hm41
          refine ex_st (fun _ h => st_pk 7 [] (by decide) h) ?_
          exact x_r1 rfl (rv_t rfl) (Le.trans le2 le35) ⟨_, rfl, rfl, trivial, rfl⟩
    · refine cd_by ((r5.2 != 0) || ((r17.1.length : Int) != 1)) (fun h44 => ?_) fun h44 => ?_
      · have hm45 := ift hp21 h44
        clear hp21
        refine c_reg ?_
        refine r_u (o_mv rfl) ?_
        refine r_u (o_bin rfl rfl (bI_ne r5.2 0)) ?_
        refine r_u (o_mv rfl) ?_
        refine r_s (s_gf rfl rfl fun g => o_mv rfl) ?_
        refine r_s (s_gf rfl rfl fun g => o_lenO 0 Try.underlying54 (evg rfl g) rfl) ?_
        refine r_s (s_gf rfl rfl fun g => o_bin (evg rfl g) rfl (bI_ne (r17.1.length : Int) 1)) ?_
        refine r_u (o_or rfl rfl) ?_
        refine r_u (o_mv rfl) ?_
        refine r_s (s_n rfl rfl h44) ?_
        refine r_s (s_n rfl rfl h44) ?_
        refine r_s (s_n rfl rfl h44) ?_
        refine r_s (s_n rfl rfl h44) ?_
        refine r_s (s_n rfl rfl h44) ?_
        refine r_u (o_pt rfl h44 rfl) ?_
        refine r_u (o_mv rfl) ?_
        refine r_s (s_n rfl rfl rfl) ?_
        refine r_s (s_n rfl rfl rfl) ?_
        refine r_s (s_n rfl rfl rfl) ?_
        refine r_s (s_n rfl rfl rfl) ?_
        refine r_s (s_n rfl rfl rfl) ?_
        refine r_u (o_pt rfl rfl rfl) ?_
        refine r_nil ?_
        obtain rfl := Option.some.inj hm45
        exact x_sub K23 ⟨rfl, rfl, trivial⟩ (fun _ h => st_pk 5 [1, 0, 2, 3, 4] (by decide) h)
      · have hm45 := iff_ hp21 h44
        clear hp21
        refine c_reg ?_
        refine r_u (o_mv rfl) ?_
        refine r_u (o_bin rfl rfl (bI_ne r5.2 0)) ?_
        refine r_u (o_mv rfl) ?_
        refine r_s (s_gf rfl rfl fun g => o_mv rfl) ?_
        refine r_s (s_gf rfl rfl fun g => o_lenO 0 Try.underlying54 (evg rfl g) rfl) ?_
        refine r_s (s_gf rfl rfl fun g => o_bin (evg rfl g) rfl (bI_ne (r17.1.length : Int) 1)) ?_
        refine r_u (o_or rfl rfl) ?_
        refine r_u (o_mv rfl) ?_
        refine r_s (s_y rfl rfl h44 (o_mv rfl)) ?_
        obtain ⟨x46, hx46, hm47⟩ := bs hm45
        clear hm45
        refine r_s (s_y rfl rfl h44 (o_ixO 0 Try.underlying54 (fun _ => by kernel_rfl) rfl rfl rfl hx46)) ?_
        refine r_s (s_y rfl rfl h44 (o_fa fa59_1 rfl)) ?_
        refine r_s (s_y rfl rfl h44 (o_ldO 0 1 sc3 rfl rfl hx46 rfl rfl)) ?_
        refine r_s (s_y rfl rfl h44 (o_bin rfl rfl (bI_ne x46.To 0))) ?_
        refine r_u (o_pf rfl h44 rfl) ?_
        refine r_u (o_mv rfl) ?_
        refine r_s (s_gf rfl rfl fun g => o_mv rfl) ?_
        refine r_s (s_gf rfl rfl fun g => o_ixO 0 Try.underlying54 (fun _ => by kernel_rfl) (evg rfl g) rfl rfl hx46) ?_
        refine r_s (s_gf rfl rfl fun g => o_fa fa59_0 (evg rfl g)) ?_
        refine r_s (s_gf rfl rfl fun g => o_ldO0 0 sc3 (evg rfl g) rfl hx46 rfl rfl) ?_
        refine r_s (s_gf rfl rfl fun g => o_bin (evg rfl g) rfl (bI_ne x46.From 10)) ?_
        refine r_u (o_or rfl rfl) ?_
        refine r_nil ?_
        obtain rfl := Option.some.inj hm47
        exact x_sub K23 ⟨rfl, rfl, trivial⟩ (fun _ h => st_pk 5 [1, 0, 2, 3, 4] (by decide) h)

def hawthornlaw21_asks (a0 : List api_Packet) (a1 : Int) (a2 : Int) (a3 : UInt64) (a4 : api_Op) : Option Bool :=
  Option.bind (if ((a0.length : Int) != 1) then some true else (gi a0 0).bind fun x17 => some ((x17.From != a1) || (x17.To != a2))) fun p1 => if p1 then some false else (gi a0 0).bind fun x7 => (say_Open x7.S).bind fun r9 => some (((((r9.2 == 0) && (r9.1.Kind == 13)) && (r9.1.Session == (toW a1))) && (r9.1.Num == a3)) && decide (r9.1.Op = a4))
theorem hawthornlaw21_asks.ok {G R F} (v0_ : Value) (a0 : List api_Packet) (h0_ : RoS R v0_ 4 api_Packet.c a0) (a1 : Int) (a2 : Int) (a3 : UInt64) (a4 : api_Op) (r : Bool) (hm : hawthornlaw21_asks a0 a1 a2 a3 a4 = some r) : CO Try.prog 19 [v0_, vI a1, vI a2, vW a3, .agg (api_Op.c a4).toArray] G R (F)
    (Ret fun u R' L' => u = vB r ∧ R' = R ∧ L' = F) := by
  unfold hawthornlaw21_asks at hm
  refine co_ofN (N := 66) Try.func19 rfl rfl ?_
  refine c_seq ?_
  refine c_reg ?_
  refine r_new (o_bx (api_Op.c a4) rfl rfl) fun b0 => ?_
  refine r_u (o_as rfl) ?_
  refine r_nil ?_
  refine x_seq ?_
  refine c_seq ?_
  refine c_seq ?_
  obtain ⟨p1, hp2, hm3⟩ := bs hm
  refine cd_join (E' := [(0, v0_), (1, vI a1), (3, vW a3), (9, pt b0 0), (31, vB p1)]) (L' := Bk b0 32 (api_Op.c a4) :: F) ?_ fun K4 => ?_
  · refine x_seq ?_
    refine c_if (b := p1) rfl (fun h5 => ?_) fun h5 => ?_
    · have hm6 := ift hm3 h5
      clear hm3
      refine c_seq ?_
      refine c_reg ?_
      refine r_u (o_as rfl) ?_
      refine r_nil ?_
      refine x_seq ?_
      refine c_ret ?_
      obtain rfl := Option.some.inj hm6
      refine ex_st (fun _ h => st_pk 1 [] (by decide) h) ?_
      exact x_r1 rfl (rv_t rfl) (Le.refl _) ⟨_, rfl, rfl, rfl, rfl⟩
    · have hm6 := iff_ hm3 h5
      clear hm3
      refine c_skip ?_
      refine x_seq ?_
      refine c_seq ?_
      refine c_reg ?_
      refine r_u (o_mv rfl) ?_
      obtain ⟨x7, hx7, hm8⟩ := bs hm6
      clear hm6
      obtain ⟨b7, o7, l7, T7, fr7, c7, hv7, hR7, he7, hi7⟩ := RoS.ne h0_ hx7
      refine r_u (o_ix (sz := 4) Try.underlying54 (fun _ => by kernel_rfl) rfl rfl hv7 hi7) ?_
      refine r_u (o_fa fa59_2 rfl) ?_
      refine r_u (o_ldR sc9 rfl hR7 (rok 2 he7 (by decide))) ?_
      obtain ⟨r9, hr9, hm13⟩ := bs hm8
      clear hm8
      refine r_sw (s_w (o_call ca10 rfl (say_Open.ok x7.S r9 hr9))) ?_
      rintro _ R _ _ ⟨v10, rfl, rfl, rfl⟩
      refine r_u (o_mv rfl) ?_
      refine r_u (o_ext rfl rfl) ?_
      refine r_u (o_ext rfl rfl) ?_
      refine r_new (o_al ze37) fun b14 => ?_
      refine r_u0 (ou_if (one_o 1 rfl) fun ho0 => ou_if (one_o 2 rfl) fun ho1 => o_stn ag37 rfl rfl rfl (al_c rfl (al_c rfl (al_c rfl (al_c rfl (al_c rfl (al_c rfl (al_c rfl (al_c rfl (al_c rfl (al_c rfl (al_c rfl (al_c rfl (al_c rfl (al_c rfl (al_c rfl (al_c rfl (al_c rfl (al_c rfl (al_c rfl (al_c rfl (al_c rfl (al_c rfl (al_c rfl (al_c rfl (al_c rfl (al_c rfl (al_c rfl (al_c rfl (al_c rfl (al_c rfl (al_c rfl (al_c rfl (al_c rfl (al_c ho0 (al_c rfl (al_c rfl (al_c rfl (al_c rfl (al_c rfl (al_c rfl (al_c ho1 (al_c rfl (al_c rfl (al_c rfl (al_c rfl (al_c rfl (al_c rfl (al_c rfl (al_c rfl (al_c rfl (al_c rfl al_n))))))))))))))))))))))))))))))))))))))))))))))))))) rfl rfl rfl) ?_
      refine r_u (o_as rfl) ?_
      refine r_nil ?_
      refine x_seq ?_
      refine c_seq ?_
      refine c_reg ?_
      refine r_u (o_mv rfl) ?_
      refine r_u (o_bin rfl rfl (bI_eq r9.2 0)) ?_
      refine r_u (o_mv rfl) ?_
      refine r_s (s_gt rfl rfl fun g => o_fa fa37_0 rfl) ?_
      refine r_s (s_gt rfl rfl fun g => o_ld 0 sc3 (evg rfl g) rfl rfl) ?_
      refine r_s (s_gt rfl rfl fun g => o_bin (evg rfl g) rfl (bI_eq r9.1.Kind 13)) ?_
      refine r_u (o_and rfl rfl) ?_
      refine r_u (o_mv rfl) ?_
      refine r_s (s_gt rfl rfl fun g => o_fa fa37_12 rfl) ?_
      refine r_s (s_gt rfl rfl fun g => o_ld 0 sc22 (evg rfl g) rfl rfl) ?_
      refine r_s (s_gt rfl rfl fun g => o_mv rfl) ?_
      refine r_s (s_gt rfl rfl fun g => o_cv (evg rfl g) (cIW Try.underlying3 Try.underlying22 a1)) ?_
      refine r_s (s_gt rfl rfl fun g => o_bin (evg rfl g) (evg rfl g) (bW_eq r9.1.Session (toW a1))) ?_
      refine r_u (o_and rfl rfl) ?_
      refine r_u (o_mv rfl) ?_
      refine r_s (s_gt rfl rfl fun g => o_fa fa37_13 rfl) ?_
      refine r_s (s_gt rfl rfl fun g => o_ld 0 sc22 (evg rfl g) rfl rfl) ?_
      refine r_s (s_gt rfl rfl fun g => o_mv rfl) ?_
      refine r_s (s_gt rfl rfl fun g => o_bin (evg rfl g) (evg rfl g) (bW_eq r9.1.Num a3)) ?_
      refine r_u (o_and rfl rfl) ?_
      refine r_u (o_mv rfl) ?_
      refine r_s (s_gt rfl rfl fun g => o_fa fa37_14 rfl) ?_
      refine r_s (s_gt rfl rfl fun g => o_ldn 0 (api_Op.c r9.1.Op) ag32 (evg rfl g) rfl rfl rfl) ?_
      refine r_s (s_gt rfl rfl fun g => o_ldn 3 (api_Op.c a4) ag32 rfl rfl rfl rfl) ?_
      refine r_s (s_gt rfl rfl fun g => o_bin (evg rfl g) (evg rfl g) (api_Op.beq_32 r9.1.Op a4)) ?_
      refine r_u (o_and rfl rfl) ?_
      refine r_u (o_as rfl) ?_
      refine r_nil ?_
      refine x_seq ?_
      refine c_ret ?_
      obtain rfl := Option.some.inj hm13
      refine ex_st (fun _ h => st_pk 4 [] (by decide) h) ?_
      exact x_r1 rfl (rv_t rfl) (Le.refl _) ⟨_, rfl, rfl, rfl, rfl⟩
  · refine cd_by ((a0.length : Int) != 1) (fun h15 => ?_) fun h15 => ?_
    · have hm16 := ift hp2 h15
      clear hp2
      refine c_reg ?_
      refine r_u (o_mv rfl) ?_
      refine r_u (o_lenR Try.underlying54 rfl h0_) ?_
      refine r_u (o_bin rfl rfl (bI_ne (a0.length : Int) 1)) ?_
      refine r_u (o_mv rfl) ?_
      refine r_s (s_n rfl rfl h15) ?_
      refine r_s (s_n rfl rfl h15) ?_
      refine r_s (s_n rfl rfl h15) ?_
      refine r_s (s_n rfl rfl h15) ?_
      refine r_s (s_n rfl rfl h15) ?_
      refine r_s (s_n rfl rfl h15) ?_
      refine r_u (o_pt rfl h15 rfl) ?_
      refine r_u (o_mv rfl) ?_
      refine r_s (s_n rfl rfl rfl) ?_
      refine r_s (s_n rfl rfl rfl) ?_
      refine r_s (s_n rfl rfl rfl) ?_
      refine r_s (s_n rfl rfl rfl) ?_
      refine r_s (s_n rfl rfl rfl) ?_
      refine r_s (s_n rfl rfl rfl) ?_
      refine r_u (o_pt rfl rfl rfl) ?_
      refine r_nil ?_
      obtain rfl := Option.some.inj hm16
      exact x_sub K4 ⟨rfl, rfl, rfl, rfl, rfl, trivial⟩ (fun _ h => st_pk 1 [0] (by decide) h)
    · have hm16 := iff_ hp2 h15
      clear hp2
      refine c_reg ?_
      refine r_u (o_mv rfl) ?_
      refine r_u (o_lenR Try.underlying54 rfl h0_) ?_
      refine r_u (o_bin rfl rfl (bI_ne (a0.length : Int) 1)) ?_
      refine r_u (o_mv rfl) ?_
      refine r_s (s_y rfl rfl h15 (o_mv rfl)) ?_
      obtain ⟨x17, hx17, hm18⟩ := bs hm16
      clear hm16
      obtain ⟨b17, o17, l17, T17, fr17, c17, hv17, hR17, he17, hi17⟩ := RoS.ne h0_ hx17
      refine r_s (s_y rfl rfl h15 (o_ix (sz := 4) Try.underlying54 (fun _ => by kernel_rfl) rfl rfl hv17 hi17)) ?_
      refine r_s (s_y rfl rfl h15 (o_fa fa59_0 rfl)) ?_
      refine r_s (s_y rfl rfl h15 (o_ldR sc3 rfl hR17 (rok 0 he17 (by decide)))) ?_
      refine r_s (s_y rfl rfl h15 (o_mv rfl)) ?_
      refine r_s (s_y rfl rfl h15 (o_bin rfl rfl (bI_ne x17.From a1))) ?_
      refine r_u (o_pf rfl h15 rfl) ?_
      refine r_u (o_mv rfl) ?_
      refine r_s (s_gf rfl rfl fun g => o_mv rfl) ?_
      refine r_s (s_gf rfl rfl fun g => o_ix (sz := 4) Try.underlying54 (fun _ => by kernel_rfl) (evg rfl g) rfl hv17 hi17) ?_
      refine r_s (s_gf rfl rfl fun g => o_fa fa59_1 (evg rfl g)) ?_
      refine r_s (s_gf rfl rfl fun g => o_ldR sc3 (evg rfl g) hR17 (rok 1 he17 (by decide))) ?_
      refine r_s (s_gf rfl rfl fun g => o_mv rfl) ?_
      refine r_s (s_gf rfl rfl fun g => o_bin (evg rfl g) (evg rfl g) (bI_ne x17.To a2)) ?_
      refine r_u (o_or rfl rfl) ?_
      refine r_nil ?_
      obtain rfl := Option.some.inj hm18
      exact x_sub K4 ⟨rfl, rfl, rfl, rfl, rfl, trivial⟩ (fun _ h => st_pk 1 [0] (by decide) h)

end Go.Proofs.Ythngfieikhillaa
