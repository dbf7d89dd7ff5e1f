import Derived.Test.YthngfieikhillaaW3
import Derived.Test.YthngfieikhillaaFacts
import Derived.Test.YthngfieikhillaaHwT
set_option linter.unusedVariables false
set_option linter.unusedSectionVars false
set_option linter.unusedSimpArgs false
set_option maxRecDepth 100000
set_option maxHeartbeats 8000000
namespace Go.Proofs.Ythngfieikhillaa
open Go Go.Proofs.Ythngfieikhillaa.Hw
def hawthornlaw09_PolicyNone (a0 : Int) (a1 : Str) : Option Bool :=
  (hawthornlaw09_few a1).bind fun r0 => (policy_Policy_Miss_n r0).bind fun r2 => (policy_Policy_Evict_n).bind fun r4 => (policy_New (iand a0 7) 3 1).bind fun r6 => (policy_New 1 0 1).bind fun r11 => (policy_New 2 1001 1).bind fun r16 => (hawthornlaw09_awake).bind fun r21 => if (r21 && !r4.2) then (policy_Policy_Has_n r0).bind fun r25 => if r25 then some false else (policy_Policy_Len_n).bind fun r29 => if (r29 == 0) then (policy_Policy_Touch_n r0).bind fun r33 => if r33 then some false else (policy_Policy_Insert_n r0).bind fun r37 => if ((r37.length : Int) == 0) then (policy_Policy_Remove_n r0).bind fun r43 => if (!r43 && (policy_Policy_Kind_n == 0)) then (policy_Policy_Export_n).bind fun r48 => om r6.1 (some (((((r48 == []) && ((r6.2 == 0) == (((iand a0 7) == 1) || ((iand a0 7) == 2)))) && (false == (r6.2 == 0))) && (r11.2 == 1)) && (r16.2 == 1))) fun x50 => some (((((r48 == []) && ((r6.2 == 0) == (((iand a0 7) == 1) || ((iand a0 7) == 2)))) && (true == (r6.2 == 0))) && (r11.2 == 1)) && (r16.2 == 1)) else some false else some false else some false else some false
theorem hawthornlaw09_PolicyNone.ok {G R F} (a0 : Int) (a1 : Str) (r : Bool) (hm : hawthornlaw09_PolicyNone a0 a1 = some r) : CO Try.prog 6 [vI a0, vS a1] G R (F)
    (Ret fun u R' L' => u = vB r ∧ R' = R ∧ L' = F) := by
  unfold hawthornlaw09_PolicyNone at hm
  refine co_ofN (N := 114) Try.func6 rfl rfl ?_
  refine c_seq ?_
  refine c_reg ?_
  refine r_u (o_as rfl) ?_
  refine r_nil ?_
  refine x_seq ?_
  refine c_seq ?_
  refine c_reg ?_
  refine r_u (o_as rfl) ?_
  refine r_nil ?_
  refine x_seq ?_
  refine c_seq ?_
  refine c_reg ?_
  refine r_u (o_mv rfl) ?_
  refine r_u (o_mv rfl) ?_
  obtain ⟨r0, hr0, hm1⟩ := bs hm
  refine r_u (o_callq ca25 rfl (hawthornlaw09_few.ok a1 r0 hr0)) ?_
  obtain ⟨r2, hr2, hm3⟩ := bs hm1
  refine r_u (o_callq ca24 rfl (policy_Policy_Miss_n.ok r0 r2 hr2)) ?_
  refine r_nil ?_
  refine x_seq ?_
  refine c_seq ?_
  refine c_reg ?_
  refine r_u (o_mv rfl) ?_
  obtain ⟨r4, hr4, hm5⟩ := bs hm3
  refine r_u (o_callq ca26 rfl (policy_Policy_Evict_n.ok r4 hr4)) ?_
  refine r_u (o_mv rfl) ?_
  refine r_u (o_ext rfl rfl) ?_
  refine r_u (o_ext rfl rfl) ?_
  refine r_u (o_as rfl) ?_
  refine r_u (o_as rfl) ?_
  refine r_nil ?_
  refine x_seq ?_
  refine c_seq ?_
  refine c_reg ?_
  refine r_u (o_mv rfl) ?_
  refine r_u (o_bin rfl rfl (bI_and a0 7)) ?_
  refine r_u (o_as rfl) ?_
  refine r_nil ?_
  refine x_seq ?_
  refine c_seq ?_
  refine c_reg ?_
  refine r_u (o_mv rfl) ?_
  obtain ⟨r6, hr6, hm10⟩ := bs hm5
  refine r_sw (s_w (o_call ca27 rfl (policy_New.ok (iand a0 7) 3 1 r6 hr6))) ?_
  rintro _ R _ _ ⟨⟨pv8, g9⟩, rfl, rfl, rfl⟩
  refine r_u (o_mv rfl) ?_
  refine r_u (o_ext rfl rfl) ?_
  refine r_u (o_ext rfl rfl) ?_
  refine r_u (o_as rfl) ?_
  refine r_u (o_as rfl) ?_
  refine r_nil ?_
  refine x_seq ?_
  refine c_seq ?_
  refine c_reg ?_
  obtain ⟨r11, hr11, hm15⟩ := bs hm10
  refine r_sw (s_w (o_call ca27 rfl (policy_New.ok 1 0 1 r11 hr11))) ?_
  rintro _ R _ _ ⟨⟨pv13, g14⟩, rfl, rfl, rfl⟩
  refine r_u (o_mv rfl) ?_
  refine r_u (o_ext rfl rfl) ?_
  refine r_u (o_ext rfl rfl) ?_
  refine r_u (o_as rfl) ?_
  refine r_u (o_as rfl) ?_
  refine r_nil ?_
  refine x_seq ?_
  refine c_seq ?_
  refine c_reg ?_
  obtain ⟨r16, hr16, hm20⟩ := bs hm15
  refine r_sw (s_w (o_call ca27 rfl (policy_New.ok 2 1001 1 r16 hr16))) ?_
  rintro _ R _ _ ⟨⟨pv18, g19⟩, rfl, rfl, rfl⟩
  refine r_u (o_mv rfl) ?_
  refine r_u (o_ext rfl rfl) ?_
  refine r_u (o_ext rfl rfl) ?_
  refine r_u (o_as rfl) ?_
  refine r_u (o_as rfl) ?_
  refine r_nil ?_
  refine x_seq ?_
  refine c_seq ?_
  obtain ⟨r21, hr21, hm22⟩ := bs hm20
  refine cd_by (r21 && !r4.2) (fun h23 => ?_) fun h23 => ?_
  · have hm24 := ift hm22 h23
    obtain ⟨r25, hr25, hm26⟩ := bs hm24
    refine cd_by r25 (fun h27 => ?_) fun h27 => ?_
    · have hm28 := ift hm26 h27
      refine c_reg ?_
      refine r_u (o_callq ca28 rfl (hawthornlaw09_awake.ok r21 hr21)) ?_
      refine r_u (o_mv rfl) ?_
      refine r_s (s_gt rfl rfl fun g => o_mv rfl) ?_
      refine r_s (s_gt rfl rfl fun g => o_not (evg rfl g)) ?_
      refine r_u (o_and rfl rfl) ?_
      refine r_u (o_mv rfl) ?_
      refine r_s (s_y rfl rfl h23 (o_mv rfl)) ?_
      refine r_s (s_y rfl rfl h23 (o_mv rfl)) ?_
      refine r_s (s_y rfl rfl h23 (o_callq ca25 rfl (hawthornlaw09_few.ok a1 r0 hr0))) ?_
      refine r_s (s_y rfl rfl h23 (o_callq ca29 rfl (policy_Policy_Has_n.ok r0 r25 hr25))) ?_
      refine r_s (s_y rfl rfl h23 (o_not rfl)) ?_
      refine r_u (o_pt rfl h23 rfl) ?_
      refine r_u (o_mv rfl) ?_
      refine r_s (s_n rfl rfl (nbf h27)) ?_
      refine r_s (s_n rfl rfl (nbf h27)) ?_
      refine r_s (s_n rfl rfl (nbf h27)) ?_
      refine r_u (o_pf rfl (nbf h27) rfl) ?_
      refine r_u (o_mv rfl) ?_
      refine r_s (s_n rfl rfl rfl) ?_
      refine r_s (s_n rfl rfl rfl) ?_
      refine r_s (s_n rfl rfl rfl) ?_
      refine r_s (s_n rfl rfl rfl) ?_
      refine r_s (s_n rfl rfl rfl) ?_
      refine r_u (o_pf rfl rfl rfl) ?_
      refine r_u (o_mv rfl) ?_
      refine r_s (s_n rfl rfl rfl) ?_
      refine r_s (s_n rfl rfl rfl) ?_
      refine r_s (s_n rfl rfl rfl) ?_
      refine r_s (s_n rfl rfl rfl) ?_
      refine r_s (s_n rfl rfl rfl) ?_
      refine r_s (s_n rfl rfl rfl) ?_
      refine r_u (o_pf rfl rfl rfl) ?_
      refine r_u (o_mv rfl) ?_
      refine r_s (s_n rfl rfl rfl) ?_
      refine r_s (s_n rfl rfl rfl) ?_
      refine r_s (s_n rfl rfl rfl) ?_
      refine r_s (s_n rfl rfl rfl) ?_
      refine r_s (s_n rfl rfl rfl) ?_
      refine r_u (o_pf rfl rfl rfl) ?_
      refine r_u (o_mv rfl) ?_
      refine r_s (s_n rfl rfl rfl) ?_
      refine r_s (s_n rfl rfl rfl) ?_
      refine r_s (s_n rfl rfl rfl) ?_
      refine r_u (o_pf rfl rfl rfl) ?_
      refine r_u (o_mv rfl) ?_
      refine r_s (s_n rfl rfl rfl) ?_
      refine r_s (s_n rfl rfl rfl) ?_
      refine r_s (s_n rfl rfl rfl) ?_
      refine r_u (o_pf rfl rfl rfl) ?_
      refine r_u (o_mv rfl) ?_
      refine r_s (s_n rfl rfl rfl) ?_
      refine r_s (s_n rfl rfl rfl) ?_
      refine r_s (s_n rfl rfl rfl) ?_
      refine r_s (s_n rfl rfl rfl) ?_
      refine r_s (s_n rfl rfl rfl) ?_
      refine r_s (s_nu rfl rfl) ?_
      refine r_s (s_nu rfl rfl) ?_
      refine r_s (s_n rfl rfl rfl) ?_
      refine r_s (s_n rfl rfl rfl) ?_
      refine r_u (o_pf rfl rfl rfl) ?_
      refine r_u (o_mv rfl) ?_
      refine r_s (s_n rfl rfl rfl) ?_
      refine r_s (s_n rfl rfl rfl) ?_
      refine r_s (s_n rfl rfl rfl) ?_
      refine r_s (s_n rfl rfl rfl) ?_
      refine r_s (s_n rfl rfl rfl) ?_
      refine r_u (o_pf rfl rfl rfl) ?_
      refine r_u (o_mv rfl) ?_
      refine r_s (s_n rfl rfl rfl) ?_
      refine r_s (s_n rfl rfl rfl) ?_
      refine r_u (o_pf rfl rfl rfl) ?_
      refine r_u (o_mv rfl) ?_
      refine r_s (s_n rfl rfl rfl) ?_
      refine r_s (s_n rfl rfl rfl) ?_
      refine r_u (o_pf rfl rfl rfl) ?_
      refine r_u (o_as rfl) ?_
      refine r_nil ?_
      refine x_seq ?_
      refine c_ret ?_
      obtain rfl := Option.some.inj hm28
      refine ex_st (fun _ h => st_pk 3 [] (by decide) h) ?_
      exact x_r1 rfl (rv_t rfl) (Le.refl _) ⟨_, rfl, rfl, rfl, rfl⟩
    · have hm28 := iff_ hm26 h27
      obtain ⟨r29, hr29, hm30⟩ := bs hm28
      refine cd_by (r29 == 0) (fun h31 => ?_) fun h31 => ?_
      · have hm32 := ift hm30 h31
        obtain ⟨r33, hr33, hm34⟩ := bs hm32
        refine cd_by r33 (fun h35 => ?_) fun h35 => ?_
        · have hm36 := ift hm34 h35
          refine c_reg ?_
          refine r_u (o_callq ca28 rfl (hawthornlaw09_awake.ok r21 hr21)) ?_
          refine r_u (o_mv rfl) ?_
          refine r_s (s_gt rfl rfl fun g => o_mv rfl) ?_
          refine r_s (s_gt rfl rfl fun g => o_not (evg rfl g)) ?_
          refine r_u (o_and rfl rfl) ?_
          refine r_u (o_mv rfl) ?_
          refine r_s (s_y rfl rfl h23 (o_mv rfl)) ?_
          refine r_s (s_y rfl rfl h23 (o_mv rfl)) ?_
          refine r_s (s_y rfl rfl h23 (o_callq ca25 rfl (hawthornlaw09_few.ok a1 r0 hr0))) ?_
          refine r_s (s_y rfl rfl h23 (o_callq ca29 rfl (policy_Policy_Has_n.ok r0 r25 hr25))) ?_
          refine r_s (s_y rfl rfl h23 (o_not rfl)) ?_
          refine r_u (o_pt rfl h23 rfl) ?_
          refine r_u (o_mv rfl) ?_
          refine r_s (s_y rfl rfl (nbt h27) (o_mv rfl)) ?_
          refine r_s (s_y rfl rfl (nbt h27) (o_callq ca30 rfl (policy_Policy_Len_n.ok r29 hr29))) ?_
          refine r_s (s_y rfl rfl (nbt h27) (o_bin rfl rfl (bI_eq r29 0))) ?_
          refine r_u (o_pt rfl (nbt h27) rfl) ?_
          refine r_u (o_mv rfl) ?_
          refine r_s (s_y rfl rfl h31 (o_mv rfl)) ?_
          refine r_s (s_y rfl rfl h31 (o_mv rfl)) ?_
          refine r_s (s_y rfl rfl h31 (o_callq ca25 rfl (hawthornlaw09_few.ok a1 r0 hr0))) ?_
          refine r_s (s_y rfl rfl h31 (o_callq ca31 rfl (policy_Policy_Touch_n.ok r0 r33 hr33))) ?_
          refine r_s (s_y rfl rfl h31 (o_not rfl)) ?_
          refine r_u (o_pt rfl h31 rfl) ?_
          refine r_u (o_mv rfl) ?_
          refine r_s (s_n rfl rfl (nbf h35)) ?_
          refine r_s (s_n rfl rfl (nbf h35)) ?_
          refine r_s (s_n rfl rfl (nbf h35)) ?_
          refine r_s (s_n rfl rfl (nbf h35)) ?_
          refine r_s (s_n rfl rfl (nbf h35)) ?_
          refine r_s (s_n rfl rfl (nbf h35)) ?_
          refine r_u (o_pf rfl (nbf h35) rfl) ?_
          refine r_u (o_mv rfl) ?_
          refine r_s (s_n rfl rfl rfl) ?_
          refine r_s (s_n rfl rfl rfl) ?_
          refine r_s (s_n rfl rfl rfl) ?_
          refine r_s (s_n rfl rfl rfl) ?_
          refine r_s (s_n rfl rfl rfl) ?_
          refine r_u (o_pf rfl rfl rfl) ?_
          refine r_u (o_mv rfl) ?_
          refine r_s (s_n rfl rfl rfl) ?_
          refine r_s (s_n rfl rfl rfl) ?_
          refine r_s (s_n rfl rfl rfl) ?_
          refine r_u (o_pf rfl rfl rfl) ?_
          refine r_u (o_mv rfl) ?_
          refine r_s (s_n rfl rfl rfl) ?_
          refine r_s (s_n rfl rfl rfl) ?_
          refine r_s (s_n rfl rfl rfl) ?_
          refine r_u (o_pf rfl rfl rfl) ?_
          refine r_u (o_mv rfl) ?_
          refine r_s (s_n rfl rfl rfl) ?_
          refine r_s (s_n rfl rfl rfl) ?_
          refine r_s (s_n rfl rfl rfl) ?_
          refine r_s (s_n rfl rfl rfl) ?_
          refine r_s (s_n rfl rfl rfl) ?_
          refine r_s (s_nu rfl rfl) ?_
          refine r_s (s_nu rfl rfl) ?_
          refine r_s (s_n rfl rfl rfl) ?_
          refine r_s (s_n rfl rfl rfl) ?_
          refine r_u (o_pf rfl rfl rfl) ?_
          refine r_u (o_mv rfl) ?_
          refine r_s (s_n rfl rfl rfl) ?_
          refine r_s (s_n rfl rfl rfl) ?_
          refine r_s (s_n rfl rfl rfl) ?_
          refine r_s (s_n rfl rfl rfl) ?_
          refine r_s (s_n rfl rfl rfl) ?_
          refine r_u (o_pf rfl rfl rfl) ?_
          refine r_u (o_mv rfl) ?_
          refine r_s (s_n rfl rfl rfl) ?_
          refine r_s (s_n rfl rfl rfl) ?_
          refine r_u (o_pf rfl rfl rfl) ?_
          refine r_u (o_mv rfl) ?_
          refine r_s (s_n rfl rfl rfl) ?_
          refine r_s (s_n rfl rfl rfl) ?_
          refine r_u (o_pf rfl rfl rfl) ?_
          refine r_u (o_as rfl) ?_
          refine r_nil ?_
          refine x_seq ?_
          refine c_ret ?_
          obtain rfl := Option.some.inj hm36
          refine ex_st (fun _ h => st_pk 3 [] (by decide) h) ?_
          exact x_r1 rfl (rv_t rfl) (Le.refl _) ⟨_, rfl, rfl, rfl, rfl⟩
        · have hm36 := iff_ hm34 h35
          obtain ⟨r37, hr37, hm39⟩ := bs hm36
          refine cd_by ((r37.length : Int) == 0) (fun h40 => ?_) fun h40 => ?_
          · have hm41 := ift hm39 h40
            obtain ⟨r43, hr43, hm44⟩ := bs hm41
            refine cd_by (!r43 && (policy_Policy_Kind_n == 0)) (fun h45 => ?_) fun h45 => ?_
            · have hm46 := ift hm44 h45
              obtain ⟨r48, hr48, hm49⟩ := bs hm46
              refine cd_st (fun _ h => st_pk 3 [2, 0, 1] (by decide) h) ?_
              refine cd_opt (fun ho52 => ?_) (fun x50 b51 ho52 => ?_)
              · rintro rfl
                have hm53 := om_n hm49 ho52
                refine c_reg ?_
                refine r_u (o_callq ca28 rfl (hawthornlaw09_awake.ok r21 hr21)) ?_
                refine r_u (o_mv rfl) ?_
                refine r_s (s_gt rfl rfl fun g => o_mv rfl) ?_
                refine r_s (s_gt rfl rfl fun g => o_not (evg rfl g)) ?_
                refine r_u (o_and rfl rfl) ?_
                refine r_u (o_mv rfl) ?_
                refine r_s (s_y rfl rfl h23 (o_mv rfl)) ?_
                refine r_s (s_y rfl rfl h23 (o_mv rfl)) ?_
                refine r_s (s_y rfl rfl h23 (o_callq ca25 rfl (hawthornlaw09_few.ok a1 r0 hr0))) ?_
                refine r_s (s_y rfl rfl h23 (o_callq ca29 rfl (policy_Policy_Has_n.ok r0 r25 hr25))) ?_
                refine r_s (s_y rfl rfl h23 (o_not rfl)) ?_
                refine r_u (o_pt rfl h23 rfl) ?_
                refine r_u (o_mv rfl) ?_
                refine r_s (s_y rfl rfl (nbt h27) (o_mv rfl)) ?_
                refine r_s (s_y rfl rfl (nbt h27) (o_callq ca30 rfl (policy_Policy_Len_n.ok r29 hr29))) ?_
                refine r_s (s_y rfl rfl (nbt h27) (o_bin rfl rfl (bI_eq r29 0))) ?_
                refine r_u (o_pt rfl (nbt h27) rfl) ?_
                refine r_u (o_mv rfl) ?_
                refine r_s (s_y rfl rfl h31 (o_mv rfl)) ?_
                refine r_s (s_y rfl rfl h31 (o_mv rfl)) ?_
                refine r_s (s_y rfl rfl h31 (o_callq ca25 rfl (hawthornlaw09_few.ok a1 r0 hr0))) ?_
                refine r_s (s_y rfl rfl h31 (o_callq ca31 rfl (policy_Policy_Touch_n.ok r0 r33 hr33))) ?_
                refine r_s (s_y rfl rfl h31 (o_not rfl)) ?_
                refine r_u (o_pt rfl h31 rfl) ?_
                refine r_u (o_mv rfl) ?_
                refine r_s (s_y rfl rfl (nbt h35) (o_mv rfl)) ?_
                refine r_s (s_y rfl rfl (nbt h35) (o_mv rfl)) ?_
                refine r_s (s_y rfl rfl (nbt h35) (o_callq ca25 rfl (hawthornlaw09_few.ok a1 r0 hr0))) ?_
                refine r_sw (s_yw rfl rfl (nbt h35) (o_call ca32 rfl (policy_Policy_Insert_n.ok r0 r37 hr37))) ?_
                rintro v61 R _ _ ⟨_, rfl, rfl, rfl⟩
                refine r_s (s_y rfl rfl (nbt h35) (o_lenO 0 Try.underlying30 rfl rfl)) ?_
                refine r_s (s_y rfl rfl (nbt h35) (o_bin rfl rfl (bI_eq (r37.length : Int) 0))) ?_
                refine r_u (o_pt rfl (nbt h35) rfl) ?_
                refine r_u (o_mv rfl) ?_
                refine r_s (s_y rfl rfl h40 (o_mv rfl)) ?_
                refine r_s (s_y rfl rfl h40 (o_mv rfl)) ?_
                refine r_s (s_y rfl rfl h40 (o_callq ca25 rfl (hawthornlaw09_few.ok a1 r0 hr0))) ?_
                refine r_s (s_y rfl rfl h40 (o_callq ca33 rfl (policy_Policy_Remove_n.ok r0 r43 hr43))) ?_
                refine r_s (s_y rfl rfl h40 (o_not rfl)) ?_
                refine r_u (o_pt rfl h40 rfl) ?_
                refine r_u (o_mv rfl) ?_
                refine r_s (s_gt rfl rfl fun g => o_mv rfl) ?_
                refine r_s (s_gt rfl rfl fun g => o_callq ca34 (evs1 (evg rfl g) evs0) (policy_Policy_Kind_n.ok _ rfl)) ?_
                refine r_s (s_gt rfl rfl fun g => o_bin (evg rfl g) rfl (bI_eq policy_Policy_Kind_n 0)) ?_
                refine r_u (o_and rfl rfl) ?_
                refine r_u (o_mv rfl) ?_
                refine r_s (s_y rfl rfl h45 (o_mv rfl)) ?_
                refine r_s (s_y rfl rfl h45 (o_callq ca35 rfl (policy_Policy_Export_n.ok r48 hr48))) ?_
                refine r_s (s_y rfl rfl h45 (o_bin rfl rfl (bS_eq r48 []))) ?_
                refine r_u (o_pt rfl h45 rfl) ?_
                refine r_u (o_mv rfl) ?_
                refine r_s (s_gt rfl rfl fun g => o_mv rfl) ?_
                refine r_s (s_gt rfl rfl fun g => o_bin (evg rfl g) rfl (bI_eq r6.2 0)) ?_
                refine r_s (s_gt rfl rfl fun g => o_mv rfl) ?_
                refine r_s (s_gt rfl rfl fun g => o_bin (evg rfl g) rfl (bI_eq (iand a0 7) 1)) ?_
                refine r_s (s_gt rfl rfl fun g => o_mv (evg rfl g)) ?_
                refine r_s (s_ggf rfl rfl fun g => o_mv rfl) ?_
                refine r_s (s_ggf rfl rfl fun g => o_bin (evg rfl g) rfl (bI_eq (iand a0 7) 2)) ?_
                refine r_s (s_gt rfl rfl fun g => o_or (evg rfl g) (evg2 rfl g)) ?_
                refine r_s (s_gt rfl rfl fun g => o_bin (evg rfl g) (evg rfl g) (bB_eq Try.underlying4 (r6.2 == 0) (((iand a0 7) == 1) || ((iand a0 7) == 2)))) ?_
                refine r_u (o_and rfl rfl) ?_
                refine r_u (o_mv rfl) ?_
                refine r_s (s_gt rfl rfl fun g => o_mv rfl) ?_
                refine r_s (s_gt rfl rfl fun g => o_bin (evg rfl g) rfl (bP_nen Try.underlying71)) ?_
                refine r_s (s_gt rfl rfl fun g => o_mv rfl) ?_
                refine r_s (s_gt rfl rfl fun g => o_bin (evg rfl g) rfl (bI_eq r6.2 0)) ?_
                refine r_s (s_gt rfl rfl fun g => o_bin (evg rfl g) (evg rfl g) (bB_eq Try.underlying4 false (r6.2 == 0))) ?_
                refine r_u (o_and rfl rfl) ?_
                refine r_u (o_mv rfl) ?_
                refine r_s (s_gt rfl rfl fun g => o_mv rfl) ?_
                refine r_s (s_gt rfl rfl fun g => o_bin (evg rfl g) rfl (bI_eq r11.2 1)) ?_
                refine r_u (o_and rfl rfl) ?_
                refine r_u (o_mv rfl) ?_
                refine r_s (s_gt rfl rfl fun g => o_mv rfl) ?_
                refine r_s (s_gt rfl rfl fun g => o_bin (evg rfl g) rfl (bI_eq r16.2 1)) ?_
                refine r_u (o_and rfl rfl) ?_
                refine r_u (o_as rfl) ?_
                refine r_nil ?_
                refine x_seq ?_
                refine c_ret ?_
                obtain rfl := Option.some.inj hm53
                refine ex_st (fun _ h => st_pk 3 [] (by decide) h) ?_
                exact x_r1 rfl (rv_t rfl) (Le.refl _) ⟨_, rfl, rfl, rfl, rfl⟩
              · rintro rfl
                have hm53 := om_s hm49 ho52
                obtain ⟨⟨pv55, g56⟩, ⟨pv58, g59⟩⟩ := g9
                refine cd_st (fun _ h => st_star_o h) ?_
                refine c_reg ?_
                refine r_u (o_callq ca28 rfl (hawthornlaw09_awake.ok r21 hr21)) ?_
                refine r_u (o_mv rfl) ?_
                refine r_s (s_gt rfl rfl fun g => o_mv rfl) ?_
                refine r_s (s_gt rfl rfl fun g => o_not (evg rfl g)) ?_
                refine r_u (o_and rfl rfl) ?_
                refine r_u (o_mv rfl) ?_
                refine r_s (s_y rfl rfl h23 (o_mv rfl)) ?_
                refine r_s (s_y rfl rfl h23 (o_mv rfl)) ?_
                refine r_s (s_y rfl rfl h23 (o_callq ca25 rfl (hawthornlaw09_few.ok a1 r0 hr0))) ?_
                refine r_s (s_y rfl rfl h23 (o_callq ca29 rfl (policy_Policy_Has_n.ok r0 r25 hr25))) ?_
                refine r_s (s_y rfl rfl h23 (o_not rfl)) ?_
                refine r_u (o_pt rfl h23 rfl) ?_
                refine r_u (o_mv rfl) ?_
                refine r_s (s_y rfl rfl (nbt h27) (o_mv rfl)) ?_
                refine r_s (s_y rfl rfl (nbt h27) (o_callq ca30 rfl (policy_Policy_Len_n.ok r29 hr29))) ?_
                refine r_s (s_y rfl rfl (nbt h27) (o_bin rfl rfl (bI_eq r29 0))) ?_
                refine r_u (o_pt rfl (nbt h27) rfl) ?_
                refine r_u (o_mv rfl) ?_
                refine r_s (s_y rfl rfl h31 (o_mv rfl)) ?_
                refine r_s (s_y rfl rfl h31 (o_mv rfl)) ?_
                refine r_s (s_y rfl rfl h31 (o_callq ca25 rfl (hawthornlaw09_few.ok a1 r0 hr0))) ?_
                refine r_s (s_y rfl rfl h31 (o_callq ca31 rfl (policy_Policy_Touch_n.ok r0 r33 hr33))) ?_
                refine r_s (s_y rfl rfl h31 (o_not rfl)) ?_
                refine r_u (o_pt rfl h31 rfl) ?_
                refine r_u (o_mv rfl) ?_
                refine r_s (s_y rfl rfl (nbt h35) (o_mv rfl)) ?_
                refine r_s (s_y rfl rfl (nbt h35) (o_mv rfl)) ?_
                refine r_s (s_y rfl rfl (nbt h35) (o_callq ca25 rfl (hawthornlaw09_few.ok a1 r0 hr0))) ?_
                refine r_sw (s_yw rfl rfl (nbt h35) (o_call ca32 rfl (policy_Policy_Insert_n.ok r0 r37 hr37))) ?_
                rintro v60 R _ _ ⟨_, rfl, rfl, rfl⟩
                refine r_s (s_y rfl rfl (nbt h35) (o_lenO 0 Try.underlying30 rfl rfl)) ?_
                refine r_s (s_y rfl rfl (nbt h35) (o_bin rfl rfl (bI_eq (r37.length : Int) 0))) ?_
                refine r_u (o_pt rfl (nbt h35) rfl) ?_
                refine r_u (o_mv rfl) ?_
                refine r_s (s_y rfl rfl h40 (o_mv rfl)) ?_
                refine r_s (s_y rfl rfl h40 (o_mv rfl)) ?_
                refine r_s (s_y rfl rfl h40 (o_callq ca25 rfl (hawthornlaw09_few.ok a1 r0 hr0))) ?_
                refine r_s (s_y rfl rfl h40 (o_callq ca33 rfl (policy_Policy_Remove_n.ok r0 r43 hr43))) ?_
                refine r_s (s_y rfl rfl h40 (o_not rfl)) ?_
                refine r_u (o_pt rfl h40 rfl) ?_
                refine r_u (o_mv rfl) ?_
                refine r_s (s_gt rfl rfl fun g => o_mv rfl) ?_
                refine r_s (s_gt rfl rfl fun g => o_callq ca34 (evs1 (evg rfl g) evs0) (policy_Policy_Kind_n.ok _ rfl)) ?_
                refine r_s (s_gt rfl rfl fun g => o_bin (evg rfl g) rfl (bI_eq policy_Policy_Kind_n 0)) ?_
                refine r_u (o_and rfl rfl) ?_
                refine r_u (o_mv rfl) ?_
                refine r_s (s_y rfl rfl h45 (o_mv rfl)) ?_
                refine r_s (s_y rfl rfl h45 (o_callq ca35 rfl (policy_Policy_Export_n.ok r48 hr48))) ?_
                refine r_s (s_y rfl rfl h45 (o_bin rfl rfl (bS_eq r48 []))) ?_
                refine r_u (o_pt rfl h45 rfl) ?_
                refine r_u (o_mv rfl) ?_
                refine r_s (s_gt rfl rfl fun g => o_mv rfl) ?_
                refine r_s (s_gt rfl rfl fun g => o_bin (evg rfl g) rfl (bI_eq r6.2 0)) ?_
                refine r_s (s_gt rfl rfl fun g => o_mv rfl) ?_
                refine r_s (s_gt rfl rfl fun g => o_bin (evg rfl g) rfl (bI_eq (iand a0 7) 1)) ?_
                refine r_s (s_gt rfl rfl fun g => o_mv (evg rfl g)) ?_
                refine r_s (s_ggf rfl rfl fun g => o_mv rfl) ?_
                refine r_s (s_ggf rfl rfl fun g => o_bin (evg rfl g) rfl (bI_eq (iand a0 7) 2)) ?_
                refine r_s (s_gt rfl rfl fun g => o_or (evg rfl g) (evg2 rfl g)) ?_
                refine r_s (s_gt rfl rfl fun g => o_bin (evg rfl g) (evg rfl g) (bB_eq Try.underlying4 (r6.2 == 0) (((iand a0 7) == 1) || ((iand a0 7) == 2)))) ?_
                refine r_u (o_and rfl rfl) ?_
                refine r_u (o_mv rfl) ?_
                refine r_s (s_gt rfl rfl fun g => o_mv rfl) ?_
                refine r_s (s_gt rfl rfl fun g => o_bin (evg rfl g) rfl (bP_nep Try.underlying71)) ?_
                refine r_s (s_gt rfl rfl fun g => o_mv rfl) ?_
                refine r_s (s_gt rfl rfl fun g => o_bin (evg rfl g) rfl (bI_eq r6.2 0)) ?_
                refine r_s (s_gt rfl rfl fun g => o_bin (evg rfl g) (evg rfl g) (bB_eq Try.underlying4 true (r6.2 == 0))) ?_
                refine r_u (o_and rfl rfl) ?_
                refine r_u (o_mv rfl) ?_
                refine r_s (s_gt rfl rfl fun g => o_mv rfl) ?_
                refine r_s (s_gt rfl rfl fun g => o_bin (evg rfl g) rfl (bI_eq r11.2 1)) ?_
                refine r_u (o_and rfl rfl) ?_
                refine r_u (o_mv rfl) ?_
                refine r_s (s_gt rfl rfl fun g => o_mv rfl) ?_
                refine r_s (s_gt rfl rfl fun g => o_bin (evg rfl g) rfl (bI_eq r16.2 1)) ?_
                refine r_u (o_and rfl rfl) ?_
                refine r_u (o_as rfl) ?_
                refine r_nil ?_
                refine x_seq ?_
                refine c_ret ?_
                obtain rfl := Option.some.inj hm53
                refine ex_st (fun _ h => st_pk 6 [] (by decide) h) ?_
                exact x_r1 rfl (rv_t rfl) (Le.refl _) ⟨_, rfl, rfl, rfl, rfl⟩
            · have hm46 := iff_ hm44 h45
              refine c_reg ?_
              refine r_u (o_callq ca28 rfl (hawthornlaw09_awake.ok r21 hr21)) ?_
              refine r_u (o_mv rfl) ?_
              refine r_s (s_gt rfl rfl fun g => o_mv rfl) ?_
              refine r_s (s_gt rfl rfl fun g => o_not (evg rfl g)) ?_
              refine r_u (o_and rfl rfl) ?_
              refine r_u (o_mv rfl) ?_
              refine r_s (s_y rfl rfl h23 (o_mv rfl)) ?_
              refine r_s (s_y rfl rfl h23 (o_mv rfl)) ?_
              refine r_s (s_y rfl rfl h23 (o_callq ca25 rfl (hawthornlaw09_few.ok a1 r0 hr0))) ?_
              refine r_s (s_y rfl rfl h23 (o_callq ca29 rfl (policy_Policy_Has_n.ok r0 r25 hr25))) ?_
              refine r_s (s_y rfl rfl h23 (o_not rfl)) ?_
              refine r_u (o_pt rfl h23 rfl) ?_
              refine r_u (o_mv rfl) ?_
              refine r_s (s_y rfl rfl (nbt h27) (o_mv rfl)) ?_
              refine r_s (s_y rfl rfl (nbt h27) (o_callq ca30 rfl (policy_Policy_Len_n.ok r29 hr29))) ?_
              refine r_s (s_y rfl rfl (nbt h27) (o_bin rfl rfl (bI_eq r29 0))) ?_
              refine r_u (o_pt rfl (nbt h27) rfl) ?_
              refine r_u (o_mv rfl) ?_
              refine r_s (s_y rfl rfl h31 (o_mv rfl)) ?_
              refine r_s (s_y rfl rfl h31 (o_mv rfl)) ?_
              refine r_s (s_y rfl rfl h31 (o_callq ca25 rfl (hawthornlaw09_few.ok a1 r0 hr0))) ?_
              refine r_s (s_y rfl rfl h31 (o_callq ca31 rfl (policy_Policy_Touch_n.ok r0 r33 hr33))) ?_
              refine r_s (s_y rfl rfl h31 (o_not rfl)) ?_
              refine r_u (o_pt rfl h31 rfl) ?_
              refine r_u (o_mv rfl) ?_
              refine r_s (s_y rfl rfl (nbt h35) (o_mv rfl)) ?_
              refine r_s (s_y rfl rfl (nbt h35) (o_mv rfl)) ?_
              refine r_s (s_y rfl rfl (nbt h35) (o_callq ca25 rfl (hawthornlaw09_few.ok a1 r0 hr0))) ?_
              refine r_sw (s_yw rfl rfl (nbt h35) (o_call ca32 rfl (policy_Policy_Insert_n.ok r0 r37 hr37))) ?_
              rintro v62 R _ _ ⟨_, rfl, rfl, rfl⟩
              refine r_s (s_y rfl rfl (nbt h35) (o_lenO 0 Try.underlying30 rfl rfl)) ?_
              refine r_s (s_y rfl rfl (nbt h35) (o_bin rfl rfl (bI_eq (r37.length : Int) 0))) ?_
              refine r_u (o_pt rfl (nbt h35) rfl) ?_
              refine r_u (o_mv rfl) ?_
              refine r_s (s_y rfl rfl h40 (o_mv rfl)) ?_
              refine r_s (s_y rfl rfl h40 (o_mv rfl)) ?_
              refine r_s (s_y rfl rfl h40 (o_callq ca25 rfl (hawthornlaw09_few.ok a1 r0 hr0))) ?_
              refine r_s (s_y rfl rfl h40 (o_callq ca33 rfl (policy_Policy_Remove_n.ok r0 r43 hr43))) ?_
              refine r_s (s_y rfl rfl h40 (o_not rfl)) ?_
              refine r_u (o_pt rfl h40 rfl) ?_
              refine r_u (o_mv rfl) ?_
              refine r_s (s_gt rfl rfl fun g => o_mv rfl) ?_
              refine r_s (s_gt rfl rfl fun g => o_callq ca34 (evs1 (evg rfl g) evs0) (policy_Policy_Kind_n.ok _ rfl)) ?_
              refine r_s (s_gt rfl rfl fun g => o_bin (evg rfl g) rfl (bI_eq policy_Policy_Kind_n 0)) ?_
              refine r_u (o_and rfl rfl) ?_
              refine r_u (o_mv rfl) ?_
              refine r_s (s_n rfl rfl h45) ?_
              refine r_s (s_n rfl rfl h45) ?_
              refine r_s (s_n rfl rfl h45) ?_
              refine r_u (o_pf rfl h45 rfl) ?_
              refine r_u (o_mv rfl) ?_
              refine r_s (s_n rfl rfl rfl) ?_
              refine r_s (s_n rfl rfl rfl) ?_
              refine r_s (s_n rfl rfl rfl) ?_
              refine r_s (s_n rfl rfl rfl) ?_
              refine r_s (s_n rfl rfl rfl) ?_
              refine r_s (s_nu rfl rfl) ?_
              refine r_s (s_nu rfl rfl) ?_
              refine r_s (s_n rfl rfl rfl) ?_
              refine r_s (s_n rfl rfl rfl) ?_
              refine r_u (o_pf rfl rfl rfl) ?_
              refine r_u (o_mv rfl) ?_
              refine r_s (s_n rfl rfl rfl) ?_
              refine r_s (s_n rfl rfl rfl) ?_
              refine r_s (s_n rfl rfl rfl) ?_
              refine r_s (s_n rfl rfl rfl) ?_
              refine r_s (s_n rfl rfl rfl) ?_
              refine r_u (o_pf rfl rfl rfl) ?_
              refine r_u (o_mv rfl) ?_
              refine r_s (s_n rfl rfl rfl) ?_
              refine r_s (s_n rfl rfl rfl) ?_
              refine r_u (o_pf rfl rfl rfl) ?_
              refine r_u (o_mv rfl) ?_
              refine r_s (s_n rfl rfl rfl) ?_
              refine r_s (s_n rfl rfl rfl) ?_
              refine r_u (o_pf rfl rfl rfl) ?_
              refine r_u (o_as rfl) ?_
              refine r_nil ?_
              refine x_seq ?_
              refine c_ret ?_
              obtain rfl := Option.some.inj hm46
              refine ex_st (fun _ h => st_pk 4 [] (by decide) h) ?_
              exact x_r1 rfl (rv_t rfl) (Le.refl _) ⟨_, rfl, rfl, rfl, rfl⟩
          · have hm41 := iff_ hm39 h40
            refine c_reg ?_
            refine r_u (o_callq ca28 rfl (hawthornlaw09_awake.ok r21 hr21)) ?_
            refine r_u (o_mv rfl) ?_
            refine r_s (s_gt rfl rfl fun g => o_mv rfl) ?_
            refine r_s (s_gt rfl rfl fun g => o_not (evg rfl g)) ?_
            refine r_u (o_and rfl rfl) ?_
            refine r_u (o_mv rfl) ?_
            refine r_s (s_y rfl rfl h23 (o_mv rfl)) ?_
            refine r_s (s_y rfl rfl h23 (o_mv rfl)) ?_
            refine r_s (s_y rfl rfl h23 (o_callq ca25 rfl (hawthornlaw09_few.ok a1 r0 hr0))) ?_
            refine r_s (s_y rfl rfl h23 (o_callq ca29 rfl (policy_Policy_Has_n.ok r0 r25 hr25))) ?_
            refine r_s (s_y rfl rfl h23 (o_not rfl)) ?_
            refine r_u (o_pt rfl h23 rfl) ?_
            refine r_u (o_mv rfl) ?_
            refine r_s (s_y rfl rfl (nbt h27) (o_mv rfl)) ?_
            refine r_s (s_y rfl rfl (nbt h27) (o_callq ca30 rfl (policy_Policy_Len_n.ok r29 hr29))) ?_
            refine r_s (s_y rfl rfl (nbt h27) (o_bin rfl rfl (bI_eq r29 0))) ?_
            refine r_u (o_pt rfl (nbt h27) rfl) ?_
            refine r_u (o_mv rfl) ?_
            refine r_s (s_y rfl rfl h31 (o_mv rfl)) ?_
            refine r_s (s_y rfl rfl h31 (o_mv rfl)) ?_
            refine r_s (s_y rfl rfl h31 (o_callq ca25 rfl (hawthornlaw09_few.ok a1 r0 hr0))) ?_
            refine r_s (s_y rfl rfl h31 (o_callq ca31 rfl (policy_Policy_Touch_n.ok r0 r33 hr33))) ?_
            refine r_s (s_y rfl rfl h31 (o_not rfl)) ?_
            refine r_u (o_pt rfl h31 rfl) ?_
            refine r_u (o_mv rfl) ?_
            refine r_s (s_y rfl rfl (nbt h35) (o_mv rfl)) ?_
            refine r_s (s_y rfl rfl (nbt h35) (o_mv rfl)) ?_
            refine r_s (s_y rfl rfl (nbt h35) (o_callq ca25 rfl (hawthornlaw09_few.ok a1 r0 hr0))) ?_
            refine r_sw (s_yw rfl rfl (nbt h35) (o_call ca32 rfl (policy_Policy_Insert_n.ok r0 r37 hr37))) ?_
            rintro v63 R _ _ ⟨_, rfl, rfl, rfl⟩
            refine r_s (s_y rfl rfl (nbt h35) (o_lenO 0 Try.underlying30 rfl rfl)) ?_
            refine r_s (s_y rfl rfl (nbt h35) (o_bin rfl rfl (bI_eq (r37.length : Int) 0))) ?_
            refine r_u (o_pt rfl (nbt h35) rfl) ?_
            refine r_u (o_mv rfl) ?_
            refine r_s (s_n rfl rfl h40) ?_
            refine r_s (s_n rfl rfl h40) ?_
            refine r_s (s_n rfl rfl h40) ?_
            refine r_s (s_n rfl rfl h40) ?_
            refine r_s (s_n rfl rfl h40) ?_
            refine r_u (o_pf rfl h40 rfl) ?_
            refine r_u (o_mv rfl) ?_
            refine r_s (s_n rfl rfl rfl) ?_
            refine r_s (s_n rfl rfl rfl) ?_
            refine r_s (s_n rfl rfl rfl) ?_
            refine r_u (o_pf rfl rfl rfl) ?_
            refine r_u (o_mv rfl) ?_
            refine r_s (s_n rfl rfl rfl) ?_
            refine r_s (s_n rfl rfl rfl) ?_
            refine r_s (s_n rfl rfl rfl) ?_
            refine r_u (o_pf rfl rfl rfl) ?_
            refine r_u (o_mv rfl) ?_
            refine r_s (s_n rfl rfl rfl) ?_
            refine r_s (s_n rfl rfl rfl) ?_
            refine r_s (s_n rfl rfl rfl) ?_
            refine r_s (s_n rfl rfl rfl) ?_
            refine r_s (s_n rfl rfl rfl) ?_
            refine r_s (s_nu rfl rfl) ?_
            refine r_s (s_nu rfl rfl) ?_
            refine r_s (s_n rfl rfl rfl) ?_
            refine r_s (s_n rfl rfl rfl) ?_
            refine r_u (o_pf rfl rfl rfl) ?_
            refine r_u (o_mv rfl) ?_
            refine r_s (s_n rfl rfl rfl) ?_
            refine r_s (s_n rfl rfl rfl) ?_
            refine r_s (s_n rfl rfl rfl) ?_
            refine r_s (s_n rfl rfl rfl) ?_
            refine r_s (s_n rfl rfl rfl) ?_
            refine r_u (o_pf rfl rfl rfl) ?_
            refine r_u (o_mv rfl) ?_
            refine r_s (s_n rfl rfl rfl) ?_
            refine r_s (s_n rfl rfl rfl) ?_
            refine r_u (o_pf rfl rfl rfl) ?_
            refine r_u (o_mv rfl) ?_
            refine r_s (s_n rfl rfl rfl) ?_
            refine r_s (s_n rfl rfl rfl) ?_
            refine r_u (o_pf rfl rfl rfl) ?_
            refine r_u (o_as rfl) ?_
            refine r_nil ?_
            refine x_seq ?_
            refine c_ret ?_
            obtain rfl := Option.some.inj hm41
            refine ex_st (fun _ h => st_pk 4 [] (by decide) h) ?_
            exact x_r1 rfl (rv_t rfl) (Le.refl _) ⟨_, rfl, rfl, rfl, rfl⟩
      · have hm32 := iff_ hm30 h31
        refine c_reg ?_
        refine r_u (o_callq ca28 rfl (hawthornlaw09_awake.ok r21 hr21)) ?_
        refine r_u (o_mv rfl) ?_
        refine r_s (s_gt rfl rfl fun g => o_mv rfl) ?_
        refine r_s (s_gt rfl rfl fun g => o_not (evg rfl g)) ?_
        refine r_u (o_and rfl rfl) ?_
        refine r_u (o_mv rfl) ?_
        refine r_s (s_y rfl rfl h23 (o_mv rfl)) ?_
        refine r_s (s_y rfl rfl h23 (o_mv rfl)) ?_
        refine r_s (s_y rfl rfl h23 (o_callq ca25 rfl (hawthornlaw09_few.ok a1 r0 hr0))) ?_
        refine r_s (s_y rfl rfl h23 (o_callq ca29 rfl (policy_Policy_Has_n.ok r0 r25 hr25))) ?_
        refine r_s (s_y rfl rfl h23 (o_not rfl)) ?_
        refine r_u (o_pt rfl h23 rfl) ?_
        refine r_u (o_mv rfl) ?_
        refine r_s (s_y rfl rfl (nbt h27) (o_mv rfl)) ?_
        refine r_s (s_y rfl rfl (nbt h27) (o_callq ca30 rfl (policy_Policy_Len_n.ok r29 hr29))) ?_
        refine r_s (s_y rfl rfl (nbt h27) (o_bin rfl rfl (bI_eq r29 0))) ?_
        refine r_u (o_pt rfl (nbt h27) rfl) ?_
        refine r_u (o_mv rfl) ?_
        refine r_s (s_n rfl rfl h31) ?_
        refine r_s (s_n rfl rfl h31) ?_
        refine r_s (s_n rfl rfl h31) ?_
        refine r_s (s_n rfl rfl h31) ?_
        refine r_s (s_n rfl rfl h31) ?_
        refine r_u (o_pf rfl h31 rfl) ?_
        refine r_u (o_mv rfl) ?_
        refine r_s (s_n rfl rfl rfl) ?_
        refine r_s (s_n rfl rfl rfl) ?_
        refine r_s (s_n rfl rfl rfl) ?_
        refine r_s (s_n rfl rfl rfl) ?_
        refine r_s (s_n rfl rfl rfl) ?_
        refine r_s (s_n rfl rfl rfl) ?_
        refine r_u (o_pf rfl rfl rfl) ?_
        refine r_u (o_mv rfl) ?_
        refine r_s (s_n rfl rfl rfl) ?_
        refine r_s (s_n rfl rfl rfl) ?_
        refine r_s (s_n rfl rfl rfl) ?_
        refine r_s (s_n rfl rfl rfl) ?_
        refine r_s (s_n rfl rfl rfl) ?_
        refine r_u (o_pf rfl rfl rfl) ?_
        refine r_u (o_mv rfl) ?_
        refine r_s (s_n rfl rfl rfl) ?_
        refine r_s (s_n rfl rfl rfl) ?_
        refine r_s (s_n rfl rfl rfl) ?_
        refine r_u (o_pf rfl rfl rfl) ?_
        refine r_u (o_mv rfl) ?_
        refine r_s (s_n rfl rfl rfl) ?_
        refine r_s (s_n rfl rfl rfl) ?_
        refine r_s (s_n rfl rfl rfl) ?_
        refine r_u (o_pf rfl rfl rfl) ?_
        refine r_u (o_mv rfl) ?_
        refine r_s (s_n rfl rfl rfl) ?_
        refine r_s (s_n rfl rfl rfl) ?_
        refine r_s (s_n rfl rfl rfl) ?_
        refine r_s (s_n rfl rfl rfl) ?_
        refine r_s (s_n rfl rfl rfl) ?_
        refine r_s (s_nu rfl rfl) ?_
        refine r_s (s_nu rfl rfl) ?_
        refine r_s (s_n rfl rfl rfl) ?_
        refine r_s (s_n rfl rfl rfl) ?_
        refine r_u (o_pf rfl rfl rfl) ?_
        refine r_u (o_mv rfl) ?_
        refine r_s (s_n rfl rfl rfl) ?_
        refine r_s (s_n rfl rfl rfl) ?_
        refine r_s (s_n rfl rfl rfl) ?_
        refine r_s (s_n rfl rfl rfl) ?_
        refine r_s (s_n rfl rfl rfl) ?_
        refine r_u (o_pf rfl rfl rfl) ?_
        refine r_u (o_mv rfl) ?_
        refine r_s (s_n rfl rfl rfl) ?_
        refine r_s (s_n rfl rfl rfl) ?_
        refine r_u (o_pf rfl rfl rfl) ?_
        refine r_u (o_mv rfl) ?_
        refine r_s (s_n rfl rfl rfl) ?_
        refine r_s (s_n rfl rfl rfl) ?_
        refine r_u (o_pf rfl rfl rfl) ?_
        refine r_u (o_as rfl) ?_
        refine r_nil ?_
        refine x_seq ?_
        refine c_ret ?_
        obtain rfl := Option.some.inj hm32
        refine ex_st (fun _ h => st_pk 3 [] (by decide) h) ?_
        exact x_r1 rfl (rv_t rfl) (Le.refl _) ⟨_, rfl, rfl, rfl, rfl⟩
  · have hm24 := iff_ hm22 h23
    refine c_reg ?_
    refine r_u (o_callq ca28 rfl (hawthornlaw09_awake.ok r21 hr21)) ?_
    refine r_u (o_mv rfl) ?_
    refine r_s (s_gt rfl rfl fun g => o_mv rfl) ?_
    refine r_s (s_gt rfl rfl fun g => o_not (evg rfl g)) ?_
    refine r_u (o_and rfl rfl) ?_
    refine r_u (o_mv rfl) ?_
    refine r_s (s_n rfl rfl h23) ?_
    refine r_s (s_n rfl rfl h23) ?_
    refine r_s (s_n rfl rfl h23) ?_
    refine r_s (s_n rfl rfl h23) ?_
    refine r_s (s_n rfl rfl h23) ?_
    refine r_u (o_pf rfl h23 rfl) ?_
    refine r_u (o_mv rfl) ?_
    refine r_s (s_n rfl rfl rfl) ?_
    refine r_s (s_n rfl rfl rfl) ?_
    refine r_s (s_n rfl rfl rfl) ?_
    refine r_u (o_pf rfl rfl rfl) ?_
    refine r_u (o_mv rfl) ?_
    refine r_s (s_n rfl rfl rfl) ?_
    refine r_s (s_n rfl rfl rfl) ?_
    refine r_s (s_n rfl rfl rfl) ?_
    refine r_s (s_n rfl rfl rfl) ?_
    refine r_s (s_n rfl rfl rfl) ?_
    refine r_u (o_pf rfl rfl rfl) ?_
    refine r_u (o_mv rfl) ?_
    refine r_s (s_n rfl rfl rfl) ?_
    refine r_s (s_n rfl rfl rfl) ?_
    refine r_s (s_n rfl rfl rfl) ?_
    refine r_s (s_n rfl rfl rfl) ?_
    refine r_s (s_n rfl rfl rfl) ?_
    refine r_s (s_n rfl rfl rfl) ?_
    refine r_u (o_pf rfl rfl rfl) ?_
    refine r_u (o_mv rfl) ?_
    refine r_s (s_n rfl rfl rfl) ?_
    refine r_s (s_n rfl rfl rfl) ?_
    refine r_s (s_n rfl rfl rfl) ?_
    refine r_s (s_n rfl rfl rfl) ?_
    refine r_s (s_n rfl rfl rfl) ?_
    refine r_u (o_pf rfl rfl rfl) ?_
    refine r_u (o_mv rfl) ?_
    refine r_s (s_n rfl rfl rfl) ?_
    refine r_s (s_n rfl rfl rfl) ?_
    refine r_s (s_n rfl rfl rfl) ?_
    refine r_u (o_pf rfl rfl rfl) ?_
    refine r_u (o_mv rfl) ?_
    refine r_s (s_n rfl rfl rfl) ?_
    refine r_s (s_n rfl rfl rfl) ?_
    refine r_s (s_n rfl rfl rfl) ?_
    refine r_u (o_pf rfl rfl rfl) ?_
    refine r_u (o_mv rfl) ?_
    refine r_s (s_n rfl rfl rfl) ?_
    refine r_s (s_n rfl rfl rfl) ?_
    refine r_s (s_n rfl rfl rfl) ?_
    refine r_s (s_n rfl rfl rfl) ?_
    refine r_s (s_n rfl rfl rfl) ?_
    refine r_s (s_nu rfl rfl) ?_
    refine r_s (s_nu rfl rfl) ?_
    refine r_s (s_n rfl rfl rfl) ?_
    refine r_s (s_n rfl rfl rfl) ?_
    refine r_u (o_pf rfl rfl rfl) ?_
    refine r_u (o_mv rfl) ?_
    refine r_s (s_n rfl rfl rfl) ?_
    refine r_s (s_n rfl rfl rfl) ?_
    refine r_s (s_n rfl rfl rfl) ?_
    refine r_s (s_n rfl rfl rfl) ?_
    refine r_s (s_n rfl rfl rfl) ?_
    refine r_u (o_pf rfl rfl rfl) ?_
    refine r_u (o_mv rfl) ?_
    refine r_s (s_n rfl rfl rfl) ?_
    refine r_s (s_n rfl rfl rfl) ?_
    refine r_u (o_pf rfl rfl rfl) ?_
    refine r_u (o_mv rfl) ?_
    refine r_s (s_n rfl rfl rfl) ?_
    refine r_s (s_n rfl rfl rfl) ?_
    refine r_u (o_pf rfl rfl rfl) ?_
    refine r_u (o_as rfl) ?_
    refine r_nil ?_
    refine x_seq ?_
    refine c_ret ?_
    obtain rfl := Option.some.inj hm24
    refine ex_st (fun _ h => st_pk 3 [] (by decide) h) ?_
    exact x_r1 rfl (rv_t rfl) (Le.refl _) ⟨_, rfl, rfl, rfl, rfl⟩

end Go.Proofs.Ythngfieikhillaa
