import Derived.Test.YtpanhdnglicknaaW1
import Derived.Test.YtpanhdnglicknaaFacts
import Derived.Test.YtpanhdnglicknaaHwZ
set_option linter.unusedVariables false
set_option linter.unusedSectionVars false
set_option linter.unusedSimpArgs false
set_option maxRecDepth 100000
set_option maxHeartbeats 8000000
namespace Go.Proofs.Ytpanhdnglicknaa
open Go Go.Proofs.Ytpanhdnglicknaa.Hw
def store_Store_do (a0 : store_Store) (a1 : api_Op) : Option (api_Reply × store_Store) :=
  om a0.t (none) fun x9 => lt (table_Table_Get x9 a1.Key) fun r14 => if (a1.Kind == 1) then if !r14.2 then om a0.p (none) fun x21 => (policy_Policy_Miss x21 a1.Key).bind fun r31 => some ((⟨2, [], 0⟩ : api_Reply), (⟨a0.c, a0.t, (some r31), a0.sessions, a0.seq, a0.now, a0.version, (⟨i64 (a0.tally.Asked + 1), a0.tally.Hits⟩ : api_Tally)⟩ : store_Store)) else om a0.p (none) fun x33 => (policy_Policy_Touch x33 a1.Key).bind fun r43 => some ((⟨0, r14.1.Value, r14.1.Version⟩ : api_Reply), (⟨a0.c, a0.t, (some r43.2), a0.sessions, a0.seq, a0.now, a0.version, (⟨i64 (a0.tally.Asked + 1), i64 (a0.tally.Hits + 1)⟩ : api_Tally)⟩ : store_Store)) else if (a1.Kind == 3) then if !r14.2 then some ((⟨2, [], 0⟩ : api_Reply), a0) else lt (table_Table_Drop x9 a1.Key) fun r56 => om a0.p (none) fun x58 => (policy_Policy_Remove x58 a1.Key).bind fun r68 => some ((⟨0, [], r14.1.Version⟩ : api_Reply), (⟨a0.c, (some r56.2), (some r68.2), a0.sessions, a0.seq, a0.now, a0.version, a0.tally⟩ : store_Store)) else if (a1.Kind == 4) then if !r14.2 then some ((⟨2, [], 0⟩ : api_Reply), a0) else if (r14.1.Version != a1.Version) then some ((⟨121, [], r14.1.Version⟩ : api_Reply), a0) else (store_Store_put (⟨a0.c, (some x9), a0.p, a0.sessions, a0.seq, a0.now, a0.version, a0.tally⟩ : store_Store) a1).bind fun r83 => some (r83.1, r83.2) else (store_Store_put (⟨a0.c, (some x9), a0.p, a0.sessions, a0.seq, a0.now, a0.version, a0.tally⟩ : store_Store) a1).bind fun r93 => some (r93.1, r93.2)
theorem store_Store_do.ok {G R F} (b0_ : Nat) (a0 : store_Store) (g0_ : store_Store.G) (a1 : api_Op) (r : api_Reply × store_Store) (hm : store_Store_do a0 a1 = some r) : CO Try.prog 19 [pt b0_ 0, .agg (api_Op.c a1).toArray] G R (Bk b0_ 57 [vI a0.c.Policy, vI a0.c.Entries, vI a0.c.Bytes, vW a0.c.Seed, g0_.t.1, g0_.p.1, g0_.sessions, vW a0.seq, vW a0.now, vW a0.version, vI a0.tally.Asked, vI a0.tally.Hits] :: rO (table_Table.op g0_.t.2) g0_.t.1 a0.t :: rO (policy_Policy.op g0_.p.2) g0_.p.1 a0.p :: OwM vW store_last.v g0_.sessions a0.sessions :: F)
    (Ret fun u R' L' => ∃ (q0 : store_Store.G), u = .agg (api_Reply.c r.1).toArray ∧ R' = R ∧ L' = Bk b0_ 57 [vI r.2.c.Policy, vI r.2.c.Entries, vI r.2.c.Bytes, vW r.2.c.Seed, q0.t.1, q0.p.1, q0.sessions, vW r.2.seq, vW r.2.now, vW r.2.version, vI r.2.tally.Asked, vI r.2.tally.Hits] :: rO (table_Table.op q0.t.2) q0.t.1 r.2.t :: rO (policy_Policy.op q0.p.2) q0.p.1 r.2.p :: OwM vW store_last.v q0.sessions r.2.sessions :: F) := by
  obtain ⟨⟨pv1, g2⟩, ⟨pv4, g5⟩, g6⟩ := g0_
  unfold store_Store_do at hm
  refine co_ofN (N := 99) Try.func19 rfl rfl ?_
  refine c_seq ?_
  refine c_reg ?_
  refine r_new (o_bx (api_Op.c a1) rfl rfl) fun b7 => ?_
  refine r_new (o_al ze33) fun b8 => ?_
  refine r_nil ?_
  refine x_seq ?_
  refine c_seq ?_
  refine cd_st (fun _ h => mv3 h) ?_
  refine cd_opt (fun ho11 => ?_) (fun x9 b10 ho11 => ?_)
  · rintro rfl
    have hm12 := om_n hm ho11
    clear hm
    cases hm12
  · rintro rfl
    have hm12 := om_s hm ho11
    clear hm
    refine cd_st (fun _ h => st_star_o h) ?_
    obtain ⟨r14, hr14, hm15⟩ := ltx hm12
    clear hm12
    refine c_any mixed (effs := [10, 11]) (V := []) ?_
    refine stage_ext [(0, pt b0_ 0), (1, pt b0_ 0), (2, pt b0_ 4), (3, pt b10 0), (4, pt b7 1), (5, vS a1.Key), (6, .tuple #[.agg (api_Entry.c r14.1).toArray, vB r14.2]), (7, .tuple #[.agg (api_Entry.c r14.1).toArray, vB r14.2]), (8, .agg (api_Entry.c r14.1).toArray), (9, vB r14.2)] rfl ?_
    refine stage rfl rfl rfl rfl [0, 1, 3, 7, 0, 16, 63, 127, 255, 255, 0, 1535, 4095] [0, 1, 2, 3, 4, 5, 6, 7, 8, 9] [10] rfl rfl rfl (qc rfl rfl (s_u (o_mv rfl)) (qc rfl rfl (s_u (o_nc rfl)) (qc rfl rfl (s_u (o_fa fa57_1 rfl)) (qc rfl rfl (s_u (o_ld 4 sc51 rfl rfl rfl)) (qc rfl rfl (s_u (o_fa fa31_1 rfl)) (qc rfl rfl (s_u (o_ld 3 sc9 rfl rfl rfl)) (qc rfl rfl (s_u (o_callqP ca21 rfl (table_Table_Get.ok b10 x9 g2 a1.Key r14 hr14) (fun _ h => st_pk 7 [0, 1, 2, 3, 4, 5, 6] (by decide) h) (fun _ h => st_pk 7 [0, 1, 2, 3, 4, 5, 6] (by decide) h))) (qc rfl rfl (s_u (o_mv rfl)) (qc rfl rfl (s_u (o_ext rfl rfl)) (qc rfl rfl (s_u (o_ext rfl rfl)) qn)))))))))) ?_ (fun h => absurd h (by decide))
    refine ec (eo_n rfl (s_w (o_al ze44)) fun b16 => ?_) en
    refine stage rfl rfl rfl rfl [0, 1, 3, 7, 0, 16, 63, 127, 255, 255, 0, 1535, 4095] [0, 1, 2, 3, 4, 5, 6, 7, 8, 9] [11] rfl rfl rfl (qc rfl rfl (s_u (o_mv rfl)) (qc rfl rfl (s_u (o_nc rfl)) (qc rfl rfl (s_u (o_fa fa57_1 rfl)) (qc rfl rfl (s_u (o_ld 5 sc51 rfl rfl rfl)) (qc rfl rfl (s_u (o_fa fa31_1 rfl)) (qc rfl rfl (s_u (o_ld 4 sc9 rfl rfl rfl)) (qc rfl rfl (s_u (o_callqP ca21 rfl (table_Table_Get.ok b10 x9 g2 a1.Key r14 hr14) (fun _ h => st_pk 8 [1, 2, 0, 3, 4, 5, 6, 7] (by decide) h) (fun _ h => st_pk 8 [2, 0, 1, 3, 4, 5, 6, 7] (by decide) h))) (qc rfl rfl (s_u (o_mv rfl)) (qc rfl rfl (s_u (o_ext rfl rfl)) (qc rfl rfl (s_u (o_ext rfl rfl)) qn)))))))))) ?_ (fun h => absurd h (by decide))
    refine ec (eo_u rfl (s_u (o_stn ag44 rfl rfl rfl rfl rfl rfl rfl)) (Le.refl _) ?_) en
    refine stage_ext [(12, vB r14.2)] rfl ?_
    refine stage rfl rfl rfl rfl [0, 1, 3, 7, 0, 16, 63, 127, 255, 255, 0, 1535, 4095] [9, 12] [] rfl rfl rfl (qc rfl rfl (s_u (o_ext rfl rfl)) (qc rfl rfl (s_u (o_as rfl)) qn)) en ?_
    intro _
    refine ex_sub (E' := [(0, pt b0_ 0), (3, pt b7 0), (4, pt b8 0), (5, pt b16 0), (6, vB r14.2)]) ⟨rfl, rfl, rfl, rfl, rfl, trivial⟩ ?_
    refine x_seq ?_
    refine c_seq ?_
    refine c_seq ?_
    refine c_reg ?_
    refine r_u (o_fa fa31_0 rfl) ?_
    refine r_u (o_ld 4 sc3 rfl rfl rfl) ?_
    refine r_nil ?_
    refine x_seq ?_
    refine c_blk ?_
    refine c_seq ?_
    refine c_reg ?_
    refine r_u (o_bin rfl rfl (bI_eq a1.Kind 1)) ?_
    refine r_u (o_as rfl) ?_
    refine r_nil ?_
    refine x_seq ?_
    refine c_if (b := (a1.Kind == 1)) rfl (fun h17 => ?_) fun h17 => ?_
    · have hm18 := ift hm15 h17
      clear hm15
      refine c_seq ?_
      refine c_reg ?_
      refine r_u (o_mv rfl) ?_
      refine r_u (o_nc rfl) ?_
      refine r_u (o_fa fa57_7 rfl) ?_
      refine r_u (o_fa fa55_0 rfl) ?_
      refine r_u (o_ld 5 sc2 rfl rfl rfl) ?_
      refine r_u (o_bin rfl rfl (bI_add a0.tally.Asked 1)) ?_
      refine r_u (o_nc rfl) ?_
      refine r_u (o_fa fa57_7 rfl) ?_
      refine r_u (o_fa fa55_0 rfl) ?_
      refine rl_st (fun _ h => mv5 h) ?_
      refine r_u0 (o_st sc2 rfl rfl rfl rfl rfl rfl) ?_
      refine r_nil ?_
      refine x_seq ?_
      refine c_seq ?_
      refine c_seq ?_
      refine c_reg ?_
      refine r_u (o_mv rfl) ?_
      refine r_u (o_not rfl) ?_
      refine r_nil ?_
      refine x_seq ?_
      refine c_if (b := !r14.2) rfl (fun h19 => ?_) fun h19 => ?_
      · have hm20 := ift hm18 h19
        clear hm18
        refine c_seq ?_
        refine cd_st (fun _ h => mv6 h) ?_
        refine cd_opt (fun ho23 => ?_) (fun x21 b22 ho23 => ?_)
        · rintro rfl
          have hm24 := om_n hm20 ho23
          clear hm20
          cases hm24
        · rintro rfl
          have hm24 := om_s hm20 ho23
          clear hm20
          obtain ⟨⟨pv26, g27⟩, ⟨pv29, g30⟩⟩ := g5
          refine cd_st (fun _ h => st_star_o h) ?_
          obtain ⟨r31, hr31, hm32⟩ := bs hm24
          clear hm24
          refine c_any mixed (effs := [6]) (V := []) ?_
          refine stage_ext [(0, pt b0_ 0), (1, pt b0_ 0), (2, pt b0_ 5), (3, pt b22 0), (4, pt b7 1), (5, vS a1.Key)] rfl ?_
          refine stage rfl rfl rfl rfl [0, 1, 3, 7, 0, 16, 63] [0, 1, 2, 3, 4, 5] [6] rfl rfl rfl (qc rfl rfl (s_u (o_mv rfl)) (qc rfl rfl (s_u (o_nc rfl)) (qc rfl rfl (s_u (o_fa fa57_2 rfl)) (qc rfl rfl (s_u (o_ld 3 sc48 rfl rfl rfl)) (qc rfl rfl (s_u (o_fa fa31_1 rfl)) (qc rfl rfl (s_u (o_ld 8 sc9 rfl rfl rfl)) qn)))))) ?_ (fun h => absurd h (by decide))
          refine ec (eo_c rfl (s_w (o_call ca30 rfl (policy_Policy_Miss.ok b22 x21 (⟨(pv26, g27), (pv29, g30)⟩ : policy_Policy.G) a1.Key r31 hr31))) ?_) en
          refine stage rfl rfl rfl rfl [0, 1, 3, 7, 0, 16, 63] [] [] rfl rfl rfl qn en ?_
          intro _
          refine ex_sub (E' := [(4, pt b8 0)]) ⟨rfl, trivial⟩ ?_
          refine x_seq ?_
          refine c_seq ?_
          refine c_reg ?_
          refine r_u (o_bld [vI 2, vS [], vW 0] rfl (fun _ => by kernel_rfl)) ?_
          refine rl_st (fun _ h => mv7 h) ?_
          refine r_u0 (o_stn ag33 rfl rfl rfl rfl rfl rfl rfl) ?_
          refine r_nil ?_
          refine x_seq ?_
          refine c_ret ?_
          refine ex_st (fun _ h => mv7 (mv7 h)) ?_
          refine ex_st (fun _ h => st_some (f := table_Table.op g2) (a := x9) (st_star_f (A := table_Table.fl b10 x9 g2) h)) ?_
          refine ex_st (fun _ h => mv4 (mv4 (mv4 h))) ?_
          refine ex_st (fun _ h => st_some (f := policy_Policy.op (⟨(pv26, g27), (pv29, g30)⟩ : policy_Policy.G)) (a := r31) (st_star_f (A := policy_Policy.fl b22 r31 (⟨(pv26, g27), (pv29, g30)⟩ : policy_Policy.G)) h)) ?_
          refine ex_st (fun _ h => mv1 h) ?_
          refine ex_st (fun _ h => st_back ho11 h) ?_
          obtain rfl := Option.some.inj hm32
          exact x_d1 rfl (rv_n 2 [vI 2, vS [], vW 0] ag33 rfl rfl rfl rfl) (fun _ h => st_pk 7 [3, 0, 1, 6] (by decide) h) (Le.refl _) ⟨_, rfl, (⟨(pt b10 0, g2), (pt b22 0, (⟨(pv26, g27), (pv29, g30)⟩ : policy_Policy.G)), g6⟩ : store_Store.G), rfl, rfl, rfl⟩
      · have hm20 := iff_ hm18 h19
        clear hm18
        refine c_skip ?_
        refine x_seq ?_
        refine c_seq ?_
        refine c_reg ?_
        refine r_u (o_mv rfl) ?_
        refine r_u (o_nc rfl) ?_
        refine r_u (o_fa fa57_7 rfl) ?_
        refine r_u (o_fa fa55_1 rfl) ?_
        refine r_u (o_ld 0 sc2 rfl rfl rfl) ?_
        refine r_u (o_bin rfl rfl (bI_add a0.tally.Hits 1)) ?_
        refine r_u (o_nc rfl) ?_
        refine r_u (o_fa fa57_7 rfl) ?_
        refine r_u (o_fa fa55_1 rfl) ?_
        refine r_u0 (o_st sc2 rfl rfl rfl rfl rfl rfl) ?_
        refine r_nil ?_
        refine x_seq ?_
        refine c_seq ?_
        refine cd_st (fun _ h => mv6 h) ?_
        refine cd_opt (fun ho35 => ?_) (fun x33 b34 ho35 => ?_)
        · rintro rfl
          have hm36 := om_n hm20 ho35
          clear hm20
          cases hm36
        · rintro rfl
          have hm36 := om_s hm20 ho35
          clear hm20
          obtain ⟨⟨pv38, g39⟩, ⟨pv41, g42⟩⟩ := g5
          refine cd_st (fun _ h => st_star_o h) ?_
          obtain ⟨r43, hr43, hm51⟩ := bs hm36
          clear hm36
          refine c_any mixed (effs := [6]) (V := []) ?_
          refine stage_ext [(0, pt b0_ 0), (1, pt b0_ 0), (2, pt b0_ 5), (3, pt b34 0), (4, pt b7 1), (5, vS a1.Key)] rfl ?_
          refine stage rfl rfl rfl rfl [0, 1, 3, 7, 0, 16, 63] [0, 1, 2, 3, 4, 5] [6] rfl rfl rfl (qc rfl rfl (s_u (o_mv rfl)) (qc rfl rfl (s_u (o_nc rfl)) (qc rfl rfl (s_u (o_fa fa57_2 rfl)) (qc rfl rfl (s_u (o_ld 3 sc48 rfl rfl rfl)) (qc rfl rfl (s_u (o_fa fa31_1 rfl)) (qc rfl rfl (s_u (o_ld 8 sc9 rfl rfl rfl)) qn)))))) ?_ (fun h => absurd h (by decide))
          refine ec (eo_w rfl (s_w (o_call ca31 rfl (policy_Policy_Touch.ok b34 x33 (⟨(pv38, g39), (pv41, g42)⟩ : policy_Policy.G) a1.Key r43 hr43))) ?_) en
          rintro _ R _ _ ⟨⟨⟨pv46, g47⟩, ⟨pv49, g50⟩⟩, rfl, rfl, rfl⟩
          refine stage rfl rfl rfl rfl [0, 1, 3, 7, 0, 16, 63] [] [] rfl rfl rfl qn en ?_
          intro _
          refine ex_sub (E' := [(4, pt b8 0), (5, pt b16 0)]) ⟨rfl, rfl, trivial⟩ ?_
          refine x_seq ?_
          refine c_seq ?_
          refine c_reg ?_
          refine r_u (o_fa fa44_1 rfl) ?_
          refine r_u (o_ld 4 sc9 rfl rfl rfl) ?_
          refine r_u (o_fa fa44_2 rfl) ?_
          refine r_u (o_ld 4 sc22 rfl rfl rfl) ?_
          refine r_u (o_bld [vI 0, vS r14.1.Value, vW r14.1.Version] rfl (fun _ => by kernel_rfl)) ?_
          refine rl_st (fun _ h => mv7 h) ?_
          refine r_u0 (o_stn ag33 rfl rfl rfl rfl rfl rfl rfl) ?_
          refine r_nil ?_
          refine x_seq ?_
          refine c_ret ?_
          refine ex_st (fun _ h => mv7 (mv7 h)) ?_
          refine ex_st (fun _ h => st_some (f := table_Table.op g2) (a := x9) (st_star_f (A := table_Table.fl b10 x9 g2) h)) ?_
          refine ex_st (fun _ h => mv4 (mv4 (mv4 h))) ?_
          refine ex_st (fun _ h => st_some (f := policy_Policy.op (⟨(pv46, g47), (pv49, g50)⟩ : policy_Policy.G)) (a := r43.2) (st_star_f (A := policy_Policy.fl b34 r43.2 (⟨(pv46, g47), (pv49, g50)⟩ : policy_Policy.G)) h)) ?_
          refine ex_st (fun _ h => mv1 h) ?_
          refine ex_st (fun _ h => st_back ho11 h) ?_
          obtain rfl := Option.some.inj hm51
          exact x_d1 rfl (rv_n 2 [vI 0, vS r14.1.Value, vW r14.1.Version] ag33 rfl rfl rfl rfl) (fun _ h => st_pk 7 [3, 0, 1, 6] (by decide) h) (Le.refl _) ⟨_, rfl, (⟨(pt b10 0, g2), (pt b34 0, (⟨(pv46, g47), (pv49, g50)⟩ : policy_Policy.G)), g6⟩ : store_Store.G), rfl, rfl, rfl⟩
    · have hm18 := iff_ hm15 h17
      clear hm15
      refine c_seq ?_
      refine c_reg ?_
      refine r_u (o_bin rfl rfl (bI_eq a1.Kind 3)) ?_
      refine r_u (o_as rfl) ?_
      refine r_nil ?_
      refine x_seq ?_
      refine c_if (b := (a1.Kind == 3)) rfl (fun h52 => ?_) fun h52 => ?_
      · have hm53 := ift hm18 h52
        clear hm18
        refine c_seq ?_
        refine c_seq ?_
        refine c_reg ?_
        refine r_u (o_mv rfl) ?_
        refine r_u (o_not rfl) ?_
        refine r_nil ?_
        refine x_seq ?_
        refine c_if (b := !r14.2) rfl (fun h54 => ?_) fun h54 => ?_
        · have hm55 := ift hm53 h54
          clear hm53
          refine c_seq ?_
          refine c_reg ?_
          refine r_u (o_bld [vI 2, vS [], vW 0] rfl (fun _ => by kernel_rfl)) ?_
          refine rl_st (fun _ h => mv3 h) ?_
          refine r_u0 (o_stn ag33 rfl rfl rfl rfl rfl rfl rfl) ?_
          refine r_nil ?_
          refine x_seq ?_
          refine c_ret ?_
          refine ex_st (fun _ h => mv3 (mv3 h)) ?_
          refine ex_st (fun _ h => st_some (f := table_Table.op g2) (a := x9) (st_star_f (A := table_Table.fl b10 x9 g2) h)) ?_
          refine ex_st (fun _ h => st_back ho11 h) ?_
          obtain rfl := Option.some.inj hm55
          exact x_d1 rfl (rv_n 1 [vI 2, vS [], vW 0] ag33 rfl rfl rfl rfl) (fun _ h => st_pk 7 [4, 0, 5, 6] (by decide) h) (Le.refl _) ⟨_, rfl, (⟨(pt b10 0, g2), (pv4, g5), g6⟩ : store_Store.G), rfl, rfl, rfl⟩
        · have hm55 := iff_ hm53 h54
          clear hm53
          refine c_skip ?_
          refine x_seq ?_
          refine c_seq ?_
          obtain ⟨r56, hr56, hm57⟩ := ltx hm55
          clear hm55
          refine c_any mixed (effs := [6]) (V := []) ?_
          refine stage_st (fun _ h => mv2 (mv2 h)) ?_
          refine stage_ext [(0, pt b0_ 0), (1, pt b0_ 0), (2, pt b0_ 4), (3, pt b10 0), (4, pt b7 1), (5, vS a1.Key)] rfl ?_
          refine stage rfl rfl rfl rfl [0, 1, 3, 7, 0, 16, 63] [0, 1, 2, 3, 4, 5] [6] rfl rfl rfl (qc rfl rfl (s_u (o_mv rfl)) (qc rfl rfl (s_u (o_nc rfl)) (qc rfl rfl (s_u (o_fa fa57_1 rfl)) (qc rfl rfl (s_u (o_ld 5 sc51 rfl rfl rfl)) (qc rfl rfl (s_u (o_fa fa31_1 rfl)) (qc rfl rfl (s_u (o_ld 4 sc9 rfl rfl rfl)) qn)))))) ?_ (fun h => absurd h (by decide))
          refine ec (eo_c rfl (s_w (o_call ca17 rfl (table_Table_Drop.ok b10 x9 g2 a1.Key r56 hr56))) ?_) en
          refine stage rfl rfl rfl rfl [0, 1, 3, 7, 0, 16, 63] [] [] rfl rfl rfl qn en ?_
          intro _
          refine ex_sub (E' := [(0, pt b0_ 0), (3, pt b7 0), (4, pt b8 0), (5, pt b16 0)]) ⟨rfl, rfl, rfl, rfl, trivial⟩ ?_
          refine x_seq ?_
          refine c_seq ?_
          refine cd_st (fun _ h => mv6 h) ?_
          refine cd_opt (fun ho60 => ?_) (fun x58 b59 ho60 => ?_)
          · rintro rfl
            have hm61 := om_n hm57 ho60
            clear hm57
            cases hm61
          · rintro rfl
            have hm61 := om_s hm57 ho60
            clear hm57
            obtain ⟨⟨pv63, g64⟩, ⟨pv66, g67⟩⟩ := g5
            refine cd_st (fun _ h => st_star_o h) ?_
            obtain ⟨r68, hr68, hm76⟩ := bs hm61
            clear hm61
            refine c_any mixed (effs := [6]) (V := []) ?_
            refine stage_ext [(0, pt b0_ 0), (1, pt b0_ 0), (2, pt b0_ 5), (3, pt b59 0), (4, pt b7 1), (5, vS a1.Key)] rfl ?_
            refine stage rfl rfl rfl rfl [0, 1, 3, 7, 0, 16, 63] [0, 1, 2, 3, 4, 5] [6] rfl rfl rfl (qc rfl rfl (s_u (o_mv rfl)) (qc rfl rfl (s_u (o_nc rfl)) (qc rfl rfl (s_u (o_fa fa57_2 rfl)) (qc rfl rfl (s_u (o_ld 8 sc48 rfl rfl rfl)) (qc rfl rfl (s_u (o_fa fa31_1 rfl)) (qc rfl rfl (s_u (o_ld 7 sc9 rfl rfl rfl)) qn)))))) ?_ (fun h => absurd h (by decide))
            refine ec (eo_w rfl (s_w (o_call ca18 rfl (policy_Policy_Remove.ok b59 x58 (⟨(pv63, g64), (pv66, g67)⟩ : policy_Policy.G) a1.Key r68 hr68))) ?_) en
            rintro _ R _ _ ⟨⟨⟨pv71, g72⟩, ⟨pv74, g75⟩⟩, rfl, rfl, rfl⟩
            refine stage rfl rfl rfl rfl [0, 1, 3, 7, 0, 16, 63] [] [] rfl rfl rfl qn en ?_
            intro _
            refine ex_sub (E' := [(4, pt b8 0), (5, pt b16 0)]) ⟨rfl, rfl, trivial⟩ ?_
            refine x_seq ?_
            refine c_seq ?_
            refine c_reg ?_
            refine r_u (o_fa fa44_2 rfl) ?_
            refine r_u (o_ld 5 sc22 rfl rfl rfl) ?_
            refine r_u (o_bld [vI 0, vS [], vW r14.1.Version] rfl (fun _ => by kernel_rfl)) ?_
            refine rl_st (fun _ h => mv6 h) ?_
            refine r_u0 (o_stn ag33 rfl rfl rfl rfl rfl rfl rfl) ?_
            refine r_nil ?_
            refine x_seq ?_
            refine c_ret ?_
            refine ex_st (fun _ h => mv5 (mv5 h)) ?_
            refine ex_st (fun _ h => st_some (f := table_Table.op g2) (a := r56.2) (st_star_f (A := table_Table.fl b10 r56.2 g2) h)) ?_
            refine ex_st (fun _ h => mv4 (mv4 (mv4 h))) ?_
            refine ex_st (fun _ h => st_some (f := policy_Policy.op (⟨(pv71, g72), (pv74, g75)⟩ : policy_Policy.G)) (a := r68.2) (st_star_f (A := policy_Policy.fl b59 r68.2 (⟨(pv71, g72), (pv74, g75)⟩ : policy_Policy.G)) h)) ?_
            obtain rfl := Option.some.inj hm76
            exact x_d1 rfl (rv_n 2 [vI 0, vS [], vW r14.1.Version] ag33 rfl rfl rfl rfl) (fun _ h => st_pk 7 [5, 1, 0, 6] (by decide) h) (Le.refl _) ⟨_, rfl, (⟨(pt b10 0, g2), (pt b59 0, (⟨(pv71, g72), (pv74, g75)⟩ : policy_Policy.G)), g6⟩ : store_Store.G), rfl, rfl, rfl⟩
      · have hm53 := iff_ hm18 h52
        clear hm18
        refine c_seq ?_
        refine c_reg ?_
        refine r_u (o_bin rfl rfl (bI_eq a1.Kind 4)) ?_
        refine r_u (o_as rfl) ?_
        refine r_nil ?_
        refine x_seq ?_
        refine c_if (b := (a1.Kind == 4)) rfl (fun h77 => ?_) fun h77 => ?_
        · have hm78 := ift hm53 h77
          clear hm53
          refine c_seq ?_
          refine c_seq ?_
          refine c_reg ?_
          refine r_u (o_mv rfl) ?_
          refine r_u (o_not rfl) ?_
          refine r_nil ?_
          refine x_seq ?_
          refine c_if (b := !r14.2) rfl (fun h79 => ?_) fun h79 => ?_
          · have hm80 := ift hm78 h79
            clear hm78
            refine c_seq ?_
            refine c_reg ?_
            refine r_u (o_bld [vI 2, vS [], vW 0] rfl (fun _ => by kernel_rfl)) ?_
            refine rl_st (fun _ h => mv3 h) ?_
            refine r_u0 (o_stn ag33 rfl rfl rfl rfl rfl rfl rfl) ?_
            refine r_nil ?_
            refine x_seq ?_
            refine c_ret ?_
            refine ex_st (fun _ h => mv3 (mv3 h)) ?_
            refine ex_st (fun _ h => st_some (f := table_Table.op g2) (a := x9) (st_star_f (A := table_Table.fl b10 x9 g2) h)) ?_
            refine ex_st (fun _ h => st_back ho11 h) ?_
            obtain rfl := Option.some.inj hm80
            exact x_d1 rfl (rv_n 1 [vI 2, vS [], vW 0] ag33 rfl rfl rfl rfl) (fun _ h => st_pk 7 [4, 0, 5, 6] (by decide) h) (Le.refl _) ⟨_, rfl, (⟨(pt b10 0, g2), (pv4, g5), g6⟩ : store_Store.G), rfl, rfl, rfl⟩
          · have hm80 := iff_ hm78 h79
            clear hm78
            refine c_skip ?_
            refine x_seq ?_
            refine c_seq ?_
            refine c_reg ?_
            refine r_u (o_fa fa44_2 rfl) ?_
            refine r_u (o_ld 0 sc22 rfl rfl rfl) ?_
            refine r_u (o_fa fa31_4 rfl) ?_
            refine r_u (o_ld 4 sc22 rfl rfl rfl) ?_
            refine r_u (o_bin rfl rfl (bW_ne r14.1.Version a1.Version)) ?_
            refine r_nil ?_
            refine x_seq ?_
            refine c_if (b := (r14.1.Version != a1.Version)) rfl (fun h81 => ?_) fun h81 => ?_
            · have hm82 := ift hm80 h81
              clear hm80
              refine c_seq ?_
              refine c_reg ?_
              refine r_u (o_fa fa44_2 rfl) ?_
              refine r_u (o_ld 0 sc22 rfl rfl rfl) ?_
              refine r_u (o_bld [vI 121, vS [], vW r14.1.Version] rfl (fun _ => by kernel_rfl)) ?_
              refine rl_st (fun _ h => mv3 h) ?_
              refine r_u0 (o_stn ag33 rfl rfl rfl rfl rfl rfl rfl) ?_
              refine r_nil ?_
              refine x_seq ?_
              refine c_ret ?_
              refine ex_st (fun _ h => mv3 (mv3 h)) ?_
              refine ex_st (fun _ h => st_some (f := table_Table.op g2) (a := x9) (st_star_f (A := table_Table.fl b10 x9 g2) h)) ?_
              refine ex_st (fun _ h => st_back ho11 h) ?_
              obtain rfl := Option.some.inj hm82
              exact x_d1 rfl (rv_n 1 [vI 121, vS [], vW r14.1.Version] ag33 rfl rfl rfl rfl) (fun _ h => st_pk 7 [4, 0, 5, 6] (by decide) h) (Le.refl _) ⟨_, rfl, (⟨(pt b10 0, g2), (pv4, g5), g6⟩ : store_Store.G), rfl, rfl, rfl⟩
            · have hm82 := iff_ hm80 h81
              clear hm80
              refine c_skip ?_
              refine x_blk ?_
              refine x_seq ?_
              refine c_seq ?_
              refine c_reg ?_
              refine r_u (o_mv rfl) ?_
              refine r_u (o_ldn 4 (api_Op.c a1) ag31 rfl rfl rfl rfl) ?_
              refine rl_st (fun _ h => mv2 (mv2 h)) ?_
              refine rl_st (fun _ h => st_some (f := table_Table.op g2) (a := x9) (st_star_f (A := table_Table.fl b10 x9 g2) h)) ?_
              obtain ⟨r83, hr83, hm92⟩ := bs hm82
              clear hm82
              refine rl_st (fun _ h => mv6 (mv2 (mv6 (mv6 h)))) ?_
              refine r_sw (s_w (o_call ca32 rfl (store_Store_put.ok b0_ (⟨a0.c, (some x9), a0.p, a0.sessions, a0.seq, a0.now, a0.version, a0.tally⟩ : store_Store) (⟨(pt b10 0, g2), (pv4, g5), g6⟩ : store_Store.G) a1 r83 hr83))) ?_
              rintro _ R _ _ ⟨⟨⟨pv86, g87⟩, ⟨pv89, g90⟩, g91⟩, rfl, rfl, rfl⟩
              refine rl_st (fun _ h => mv5 h) ?_
              refine r_u0 (o_stn ag33 rfl rfl rfl rfl rfl rfl rfl) ?_
              refine r_nil ?_
              refine x_seq ?_
              refine c_ret ?_
              obtain rfl := Option.some.inj hm92
              exact x_d1 rfl (rv_n 0 (api_Reply.c r83.1) ag33 rfl rfl rfl rfl) (fun _ h => st_pk 7 [1, 2, 3, 4] (by decide) h) (Le.refl _) ⟨_, rfl, (⟨(pv86, g87), (pv89, g90), g91⟩ : store_Store.G), rfl, rfl, rfl⟩
        · have hm78 := iff_ hm53 h77
          clear hm53
          refine c_skip ?_
          refine x_blk ?_
          refine x_seq ?_
          refine c_seq ?_
          refine c_reg ?_
          refine r_u (o_mv rfl) ?_
          refine r_u (o_ldn 4 (api_Op.c a1) ag31 rfl rfl rfl rfl) ?_
          refine rl_st (fun _ h => mv2 (mv2 h)) ?_
          refine rl_st (fun _ h => st_some (f := table_Table.op g2) (a := x9) (st_star_f (A := table_Table.fl b10 x9 g2) h)) ?_
          obtain ⟨r93, hr93, hm102⟩ := bs hm78
          clear hm78
          refine rl_st (fun _ h => mv6 (mv2 (mv6 (mv6 h)))) ?_
          refine r_sw (s_w (o_call ca32 rfl (store_Store_put.ok b0_ (⟨a0.c, (some x9), a0.p, a0.sessions, a0.seq, a0.now, a0.version, a0.tally⟩ : store_Store) (⟨(pt b10 0, g2), (pv4, g5), g6⟩ : store_Store.G) a1 r93 hr93))) ?_
          rintro _ R _ _ ⟨⟨⟨pv96, g97⟩, ⟨pv99, g100⟩, g101⟩, rfl, rfl, rfl⟩
          refine rl_st (fun _ h => mv5 h) ?_
          refine r_u0 (o_stn ag33 rfl rfl rfl rfl rfl rfl rfl) ?_
          refine r_nil ?_
          refine x_seq ?_
          refine c_ret ?_
          obtain rfl := Option.some.inj hm102
          exact x_d1 rfl (rv_n 0 (api_Reply.c r93.1) ag33 rfl rfl rfl rfl) (fun _ h => st_pk 7 [1, 2, 3, 4] (by decide) h) (Le.refl _) ⟨_, rfl, (⟨(pv96, g97), (pv99, g100), g101⟩ : store_Store.G), rfl, rfl, rfl⟩

def store_Store_Apply_l0 (r18 : List Str) : Nat → Int → Int → (Option policy_Policy) → (List (Str × api_Entry)) → Option (Int × Option policy_Policy × (List (Str × api_Entry)))
  | 0, _, _, _, _ => none
  | k55 + 1, s_48, c_49, c_50, c_51 => if decide (s_48 < (r18.length : Int)) then (gi r18 s_48).bind fun x60 => lt (table_Table_Drop (⟨c_51, c_49⟩ : table_Table) x60) fun r62 => om c_50 (none) fun x64 => (policy_Policy_Remove x64 x60).bind fun r74 => store_Store_Apply_l0 r18 k55 (i64 (s_48 + 1)) r62.2.bytes (some r74.2) r62.2.m else some (c_49, c_50, c_51)
def store_Store_Apply (a0 : store_Store) (a1 : api_Record) : Option (api_Reply × Int × store_Store) :=
  if !(op_Check a1.Op) then some ((⟨0, [], 0⟩ : api_Reply), 1, a0) else if ((a1.Seq == 0) || ((a1.Seq - 1) != a0.seq)) then some ((⟨0, [], 0⟩ : api_Reply), 123, a0) else om a0.t (none) fun x13 => (table_Table_Ended x13 (if a0.now < a1.Now then a1.Now else a0.now)).bind fun r18 => Option.bind (store_Store_Apply_l0 r18 (((r18.length : Int) - 0).toNat + 1) 0 x13.bytes a0.p x13.m) fun p21 => if (a1.Op.Kind == 5) then some ((⟨0, [], 0⟩ : api_Reply), 0, (⟨a0.c, (some (⟨p21.2.2, p21.1⟩ : table_Table)), p21.2.1, a0.sessions, a0.seq + 1, (if a0.now < a1.Now then a1.Now else a0.now), a0.version, a0.tally⟩ : store_Store)) else if ((mget a0.sessions a1.Session).isSome && (a1.Num == (((mget a0.sessions a1.Session).getD ((⟨0, (⟨0, [], 0⟩ : api_Reply)⟩ : store_last) : store_last)).num))) then some ((((mget a0.sessions a1.Session).getD ((⟨0, (⟨0, [], 0⟩ : api_Reply)⟩ : store_last) : store_last)).reply), 0, (⟨a0.c, (some (⟨p21.2.2, p21.1⟩ : table_Table)), p21.2.1, a0.sessions, a0.seq + 1, (if a0.now < a1.Now then a1.Now else a0.now), a0.version, a0.tally⟩ : store_Store)) else if ((mget a0.sessions a1.Session).isSome && decide (a1.Num < (((mget a0.sessions a1.Session).getD ((⟨0, (⟨0, [], 0⟩ : api_Reply)⟩ : store_last) : store_last)).num))) then some ((⟨122, [], 0⟩ : api_Reply), 0, (⟨a0.c, (some (⟨p21.2.2, p21.1⟩ : table_Table)), p21.2.1, a0.sessions, a0.seq + 1, (if a0.now < a1.Now then a1.Now else a0.now), a0.version, a0.tally⟩ : store_Store)) else if (!((mget a0.sessions a1.Session).isSome) && decide (64 ≤ (a0.sessions.length : Int))) then some ((⟨3, [], 0⟩ : api_Reply), 0, (⟨a0.c, (some (⟨p21.2.2, p21.1⟩ : table_Table)), p21.2.1, a0.sessions, a0.seq + 1, (if a0.now < a1.Now then a1.Now else a0.now), a0.version, a0.tally⟩ : store_Store)) else (store_Store_do (⟨a0.c, (some (⟨p21.2.2, p21.1⟩ : table_Table)), p21.2.1, a0.sessions, a0.seq + 1, (if a0.now < a1.Now then a1.Now else a0.now), a0.version, a0.tally⟩ : store_Store) a1.Op).bind fun r37 => some (r37.1, 0, (⟨r37.2.c, r37.2.t, r37.2.p, mput r37.2.sessions a1.Session (⟨a1.Num, r37.1⟩ : store_last), r37.2.seq, r37.2.now, r37.2.version, r37.2.tally⟩ : store_Store))
theorem store_Store_Apply.ok {G R F} (b0_ : Nat) (a0 : store_Store) (g0_ : store_Store.G) (a1 : api_Record) (r : api_Reply × Int × store_Store) (hm : store_Store_Apply a0 a1 = some r) : CO Try.prog 9 [pt b0_ 0, .agg (api_Record.c a1).toArray] G R (Bk b0_ 57 [vI a0.c.Policy, vI a0.c.Entries, vI a0.c.Bytes, vW a0.c.Seed, g0_.t.1, g0_.p.1, g0_.sessions, vW a0.seq, vW a0.now, vW a0.version, vI a0.tally.Asked, vI a0.tally.Hits] :: rO (table_Table.op g0_.t.2) g0_.t.1 a0.t :: rO (policy_Policy.op g0_.p.2) g0_.p.1 a0.p :: OwM vW store_last.v g0_.sessions a0.sessions :: F)
    (Ret fun u R' L' => ∃ (q0 : store_Store.G), u = .tuple #[.agg (api_Reply.c r.1).toArray, vI r.2.1] ∧ R' = R ∧ L' = Bk b0_ 57 [vI r.2.2.c.Policy, vI r.2.2.c.Entries, vI r.2.2.c.Bytes, vW r.2.2.c.Seed, q0.t.1, q0.p.1, q0.sessions, vW r.2.2.seq, vW r.2.2.now, vW r.2.2.version, vI r.2.2.tally.Asked, vI r.2.2.tally.Hits] :: rO (table_Table.op q0.t.2) q0.t.1 r.2.2.t :: rO (policy_Policy.op q0.p.2) q0.p.1 r.2.2.p :: OwM vW store_last.v q0.sessions r.2.2.sessions :: F) := by
  obtain ⟨⟨pv1, g2⟩, ⟨pv4, g5⟩, g6⟩ := g0_
  unfold store_Store_Apply at hm
  refine co_ofN (N := 143) Try.func9 rfl rfl ?_
  refine c_seq ?_
  refine c_reg ?_
  refine r_new (o_bx (api_Record.c a1) rfl rfl) fun b7 => ?_
  refine r_new (o_al ze33) fun b8 => ?_
  refine r_u (o_as rfl) ?_
  refine r_nil ?_
  refine x_seq ?_
  refine c_seq ?_
  refine c_blk ?_
  refine c_seq ?_
  refine c_reg ?_
  refine r_u (o_mv rfl) ?_
  refine r_u (o_bin rfl rfl (bP_eqp Try.underlying24)) ?_
  refine r_u (o_mv rfl) ?_
  refine r_s (s_y rfl rfl rfl (o_fa fa37_4 rfl)) ?_
  refine r_s (s_y rfl rfl rfl (o_ldn 1 (api_Op.c a1.Op) ag31 rfl rfl rfl rfl)) ?_
  refine r_s (s_y rfl rfl rfl (o_callq ca15 rfl (op_Check.ok a1.Op _ rfl))) ?_
  refine r_s (s_y rfl rfl rfl (o_not rfl)) ?_
  refine r_u (o_pf rfl rfl rfl) ?_
  refine r_u (o_as rfl) ?_
  refine r_nil ?_
  refine x_seq ?_
  refine c_if (b := !(op_Check a1.Op)) rfl (fun h9 => ?_) fun h9 => ?_
  · have hm10 := ift hm h9
    clear hm
    refine c_seq ?_
    refine c_reg ?_
    refine r_u (o_bld [vI 0, vS [], vW 0] rfl (fun _ => by kernel_rfl)) ?_
    refine r_u0 (o_stn ag33 rfl rfl rfl rfl rfl rfl rfl) ?_
    refine r_u (o_as rfl) ?_
    refine r_nil ?_
    refine x_seq ?_
    refine c_ret ?_
    obtain rfl := Option.some.inj hm10
    exact x_d2 rfl (rv_n 0 [vI 0, vS [], vW 0] ag33 rfl rfl rfl rfl) (rv_t rfl) (fun _ h => st_pk 6 [2, 3, 4, 5] (by decide) h) (Le.refl _) ⟨_, rfl, (⟨(pv1, g2), (pv4, g5), g6⟩ : store_Store.G), rfl, rfl, rfl⟩
  · have hm10 := iff_ hm h9
    clear hm
    refine c_seq ?_
    refine c_any mixed (effs := []) (V := []) ?_
    refine stage_ext [(0, pt b7 0), (1, vW a1.Seq), (2, vB (a1.Seq == 0)), (3, vB (a1.Seq == 0)), (4, gv (!(a1.Seq == 0)) (pt b7 0)), (5, gv (!(a1.Seq == 0)) (vW a1.Seq)), (6, gv (!(a1.Seq == 0)) (vW (a1.Seq - 1))), (7, gv (!(a1.Seq == 0)) (pt b0_ 0)), (8, gv (!(a1.Seq == 0)) (pt b0_ 0)), (9, gv (!(a1.Seq == 0)) (pt b0_ 7)), (10, gv (!(a1.Seq == 0)) (vW a0.seq)), (11, gv (!(a1.Seq == 0)) (vB ((a1.Seq - 1) != a0.seq))), (12, vB ((a1.Seq == 0) || ((a1.Seq - 1) != a0.seq))), (13, vB ((a1.Seq == 0) || ((a1.Seq - 1) != a0.seq)))] rfl ?_
    refine stage rfl rfl rfl rfl [0, 1, 3, 7, 15, 31, 63, 15, 143, 399, 911, 2047, 4095, 8191] [0, 1, 2, 3, 4, 5, 6, 7, 8, 9, 10, 11, 12, 13] [] rfl rfl rfl (qc rfl rfl (s_u (o_fa fa37_0 rfl)) (qc rfl rfl (s_u (o_ld 1 sc22 rfl rfl rfl)) (qc rfl rfl (s_u (o_bin rfl rfl (bW_eq a1.Seq 0))) (qc rfl rfl (s_u (o_mv rfl)) (qc rfl rfl (s_gf rfl rfl fun g => o_fa fa37_0 rfl) (qc rfl rfl (s_gf rfl rfl fun g => o_ld 1 sc22 (evg rfl g) rfl rfl) (qc rfl rfl (s_gf rfl rfl fun g => o_bin (evg rfl g) rfl (bW_sub a1.Seq 1)) (qc rfl rfl (s_gf rfl rfl fun g => o_mv rfl) (qc rfl rfl (s_gf rfl rfl fun g => o_nc (evg rfl g)) (qc rfl rfl (s_gf rfl rfl fun g => o_fa fa57_4 (evg rfl g)) (qc rfl rfl (s_gf rfl rfl fun g => o_ld 2 sc22 (evg rfl g) rfl rfl) (qc rfl rfl (s_gf rfl rfl fun g => o_bin (evg rfl g) (evg rfl g) (bW_ne (a1.Seq - 1) a0.seq)) (qc rfl rfl (s_u (o_or rfl rfl)) (qc rfl rfl (s_u (o_as rfl)) qn)))))))))))))) en ?_
    intro _
    refine ex_sub (E' := [(0, pt b0_ 0), (3, pt b7 0), (4, pt b8 0), (21, vB ((a1.Seq == 0) || ((a1.Seq - 1) != a0.seq)))]) ⟨rfl, rfl, rfl, rfl, trivial⟩ ?_
    refine x_seq ?_
    refine c_if (b := ((a1.Seq == 0) || ((a1.Seq - 1) != a0.seq))) rfl (fun h11 => ?_) fun h11 => ?_
    · have hm12 := ift hm10 h11
      clear hm10
      refine c_seq ?_
      refine c_reg ?_
      refine r_u (o_bld [vI 0, vS [], vW 0] rfl (fun _ => by kernel_rfl)) ?_
      refine r_u0 (o_stn ag33 rfl rfl rfl rfl rfl rfl rfl) ?_
      refine r_u (o_as rfl) ?_
      refine r_nil ?_
      refine x_seq ?_
      refine c_ret ?_
      obtain rfl := Option.some.inj hm12
      exact x_d2 rfl (rv_n 0 [vI 0, vS [], vW 0] ag33 rfl rfl rfl rfl) (rv_t rfl) (fun _ h => st_pk 6 [2, 3, 4, 5] (by decide) h) (Le.refl _) ⟨_, rfl, (⟨(pv1, g2), (pv4, g5), g6⟩ : store_Store.G), rfl, rfl, rfl⟩
    · have hm12 := iff_ hm10 h11
      clear hm10
      refine c_skip ?_
      refine x_blk ?_
      refine x_seq ?_
      refine c_seq ?_
      refine c_reg ?_
      refine r_u (o_mv rfl) ?_
      refine r_u (o_nc rfl) ?_
      refine r_u (o_fa fa57_4 rfl) ?_
      refine r_u (o_ld 2 sc22 rfl rfl rfl) ?_
      refine r_u (o_bin rfl rfl (bW_add a0.seq 1)) ?_
      refine r_u (o_nc rfl) ?_
      refine r_u (o_fa fa57_4 rfl) ?_
      refine rl_st (fun _ h => mv2 h) ?_
      refine r_u0 (o_st sc22 rfl rfl rfl rfl rfl rfl) ?_
      refine r_nil ?_
      refine x_seq ?_
      refine c_seq ?_
      refine c_any mixed (effs := [10]) (V := []) ?_
      refine stage_ext [(0, pt b0_ 0), (1, pt b0_ 0), (2, pt b0_ 0), (3, pt b0_ 8), (4, vW a0.now), (5, pt b7 1), (6, vW a1.Now), (7, vW (if a0.now < a1.Now then a1.Now else a0.now)), (8, pt b0_ 0), (9, pt b0_ 8)] rfl ?_
      refine stage rfl rfl rfl rfl [0, 0, 2, 6, 14, 0, 32, 126, 255, 511, 1023] [0, 1, 2, 3, 4, 5, 6, 7, 8, 9] [10] rfl rfl rfl (qc rfl rfl (s_u (o_mv rfl)) (qc rfl rfl (s_u (o_mv rfl)) (qc rfl rfl (s_u (o_nc rfl)) (qc rfl rfl (s_u (o_fa fa57_5 rfl)) (qc rfl rfl (s_u (o_ld 0 sc22 rfl rfl rfl)) (qc rfl rfl (s_u (o_fa fa37_1 rfl)) (qc rfl rfl (s_u (o_ld 2 sc22 rfl rfl rfl)) (qc rfl rfl (s_u (o_maxW rfl rfl)) (qc rfl rfl (s_u (o_nc rfl)) (qc rfl rfl (s_u (o_fa fa57_5 rfl)) qn)))))))))) ?_ (fun h => absurd h (by decide))
      refine ec (eo_u rfl (s_u (o_st sc22 rfl rfl rfl rfl rfl rfl)) (Le.refl _) ?_) en
      refine stage rfl rfl rfl rfl [0, 0, 2, 6, 14, 0, 32, 126, 255, 511, 1023] [] [] rfl rfl rfl qn en ?_
      intro _
      refine ex_sub (E' := [(0, pt b0_ 0), (3, pt b7 0), (4, pt b8 0)]) ⟨rfl, rfl, rfl, trivial⟩ ?_
      refine x_seq ?_
      refine c_seq ?_
      refine c_seq ?_
      refine cd_st (fun _ h => mv3 h) ?_
      refine cd_opt (fun ho15 => ?_) (fun x13 b14 ho15 => ?_)
      · rintro rfl
        have hm16 := om_n hm12 ho15
        clear hm12
        cases hm16
      · rintro rfl
        have hm16 := om_s hm12 ho15
        clear hm12
        refine cd_st (fun _ h => st_star_o h) ?_
        obtain ⟨r18, hr18, hm20⟩ := bs hm16
        clear hm16
        refine c_any mixed (effs := [8]) (V := []) ?_
        refine stage_ext [(0, pt b0_ 0), (1, pt b0_ 0), (2, pt b0_ 4), (3, pt b14 0), (4, pt b0_ 0), (5, pt b0_ 0), (6, pt b0_ 8), (7, vW (if a0.now < a1.Now then a1.Now else a0.now)), (10, vI 0)] rfl ?_
        refine stage rfl rfl rfl rfl [0, 1, 3, 7, 0, 16, 48, 112, 255, 511, 0] [0, 1, 2, 3, 4, 5, 6, 7, 10] [8] rfl rfl rfl (qc rfl rfl (s_u (o_mv rfl)) (qc rfl rfl (s_u (o_nc rfl)) (qc rfl rfl (s_u (o_fa fa57_1 rfl)) (qc rfl rfl (s_u (o_ld 2 sc51 rfl rfl rfl)) (qc rfl rfl (s_u (o_mv rfl)) (qc rfl rfl (s_u (o_nc rfl)) (qc rfl rfl (s_u (o_fa fa57_5 rfl)) (qc rfl rfl (s_u (o_ld 2 sc22 rfl rfl rfl)) (qc rfl rfl (s_u (o_mv rfl)) qn))))))))) ?_ (fun h => absurd h (by decide))
        refine ec (eo_w rfl (s_w (o_call ca16 rfl (table_Table_Ended.ok b14 x13 g2 (if a0.now < a1.Now then a1.Now else a0.now) r18 hr18))) ?_) en
        rintro v19 R _ _ ⟨_, rfl, rfl, rfl⟩
        refine stage_ext [(9, vI (r18.length : Int))] rfl ?_
        refine stage rfl rfl rfl rfl [0, 1, 3, 7, 0, 16, 48, 112, 255, 511, 0] [9, 10] [] rfl rfl rfl (qc rfl rfl (s_u (o_lenO 0 Try.underlying59 rfl rfl)) (qc rfl rfl (s_u (o_mv rfl)) qn)) en ?_
        intro _
        refine ex_sub (E' := [(0, pt b0_ 0), (3, pt b7 0), (4, pt b8 0), (61, v19), (62, vI (r18.length : Int)), (63, vI 0)]) ⟨rfl, rfl, rfl, rfl, rfl, rfl, trivial⟩ ?_
        refine x_seq ?_
        obtain ⟨p21, hp25, hm26⟩ := bs hm20
        refine cd_cut (fun x ks => ∀ (pv22 : Value × policy_Policy.G), EX x .normal ks [(0, pt b0_ 0), (3, pt b7 0), (4, pt b8 0)] R (Bk b14 79 [g2.m, vI p21.1] :: Bk b0_ 57 [vI a0.c.Policy, vI a0.c.Entries, vI a0.c.Bytes, vW a0.c.Seed, pt b14 0, pv22.1, g6, vW (a0.seq + 1), vW (if a0.now < a1.Now then a1.Now else a0.now), vW a0.version, vI a0.tally.Asked, vI a0.tally.Hits] :: Bk b8 33 [vI 0, vS [], vW 0] :: Bk b7 37 (api_Record.c a1) :: OwS true 9 1 eS v19 r18 :: OwM vS api_Entry.v g2.m p21.2.2 :: OwM vW store_last.v g6 a0.sessions :: rO (policy_Policy.op pv22.2) pv22.1 p21.2.1 :: F)) ?_ fun K27 => ?_
        · intro pv22
          obtain ⟨pv23, g24⟩ := pv22
          refine x_seq ?_
          refine c_seq ?_
          refine c_seq ?_
          refine c_reg ?_
          refine r_u (o_fa fa37_4 rfl) ?_
          refine r_u (o_fa fa31_0 rfl) ?_
          refine r_u (o_ld 3 sc3 rfl rfl rfl) ?_
          refine r_u (o_bin rfl rfl (bI_eq a1.Op.Kind 5)) ?_
          refine r_nil ?_
          refine x_seq ?_
          refine c_if (b := (a1.Op.Kind == 5)) rfl (fun h28 => ?_) fun h28 => ?_
          · have hm29 := ift hm26 h28
            clear hm26
            refine c_seq ?_
            refine c_reg ?_
            refine r_u (o_bld [vI 0, vS [], vW 0] rfl (fun _ => by kernel_rfl)) ?_
            refine rl_st (fun _ h => mv2 h) ?_
            refine r_u0 (o_stn ag33 rfl rfl rfl rfl rfl rfl rfl) ?_
            refine r_u (o_as rfl) ?_
            refine r_nil ?_
            refine x_seq ?_
            refine c_ret ?_
            refine ex_st (fun _ h => mv2 (mv5 h)) ?_
            refine ex_st (fun _ h => st_some (f := table_Table.op g2) (a := (⟨p21.2.2, p21.1⟩ : table_Table)) (st_star_f (A := table_Table.fl b14 (⟨p21.2.2, p21.1⟩ : table_Table) g2) h)) ?_
            obtain rfl := Option.some.inj hm29
            exact x_d2 rfl (rv_n 1 [vI 0, vS [], vW 0] ag33 rfl rfl rfl rfl) (rv_t rfl) (fun _ h => st_pk 7 [2, 0, 6, 5] (by decide) h) (Le.refl _) ⟨_, rfl, (⟨(pt b14 0, g2), (pv23, g24), g6⟩ : store_Store.G), rfl, rfl, rfl⟩
          · have hm29 := iff_ hm26 h28
            clear hm26
            refine c_skip ?_
            refine x_seq ?_
            refine c_seq ?_
            refine c_any mixed (effs := [10, 11]) (V := []) ?_
            refine stage_ext [(0, pt b0_ 0), (1, pt b0_ 0), (2, pt b0_ 6), (3, g6), (4, pt b7 2), (5, vW a1.Session), (6, .tuple #[.agg [vW (((mget a0.sessions a1.Session).getD ((⟨0, (⟨0, [], 0⟩ : api_Reply)⟩ : store_last) : store_last)).num), vI ((((mget a0.sessions a1.Session).getD ((⟨0, (⟨0, [], 0⟩ : api_Reply)⟩ : store_last) : store_last)).reply).E), vS ((((mget a0.sessions a1.Session).getD ((⟨0, (⟨0, [], 0⟩ : api_Reply)⟩ : store_last) : store_last)).reply).Value), vW ((((mget a0.sessions a1.Session).getD ((⟨0, (⟨0, [], 0⟩ : api_Reply)⟩ : store_last) : store_last)).reply).Version)].toArray, vB ((mget a0.sessions a1.Session).isSome)]), (7, .tuple #[.agg [vW (((mget a0.sessions a1.Session).getD ((⟨0, (⟨0, [], 0⟩ : api_Reply)⟩ : store_last) : store_last)).num), vI ((((mget a0.sessions a1.Session).getD ((⟨0, (⟨0, [], 0⟩ : api_Reply)⟩ : store_last) : store_last)).reply).E), vS ((((mget a0.sessions a1.Session).getD ((⟨0, (⟨0, [], 0⟩ : api_Reply)⟩ : store_last) : store_last)).reply).Value), vW ((((mget a0.sessions a1.Session).getD ((⟨0, (⟨0, [], 0⟩ : api_Reply)⟩ : store_last) : store_last)).reply).Version)].toArray, vB ((mget a0.sessions a1.Session).isSome)]), (8, .agg [vW (((mget a0.sessions a1.Session).getD ((⟨0, (⟨0, [], 0⟩ : api_Reply)⟩ : store_last) : store_last)).num), vI ((((mget a0.sessions a1.Session).getD ((⟨0, (⟨0, [], 0⟩ : api_Reply)⟩ : store_last) : store_last)).reply).E), vS ((((mget a0.sessions a1.Session).getD ((⟨0, (⟨0, [], 0⟩ : api_Reply)⟩ : store_last) : store_last)).reply).Value), vW ((((mget a0.sessions a1.Session).getD ((⟨0, (⟨0, [], 0⟩ : api_Reply)⟩ : store_last) : store_last)).reply).Version)].toArray), (9, vB ((mget a0.sessions a1.Session).isSome))] rfl ?_
            refine stage rfl rfl rfl rfl [0, 1, 3, 7, 0, 16, 63, 127, 255, 255, 0, 1535, 4095] [0, 1, 2, 3, 4, 5, 6, 7, 8, 9] [10] rfl rfl rfl (qc rfl rfl (s_u (o_mv rfl)) (qc rfl rfl (s_u (o_nc rfl)) (qc rfl rfl (s_u (o_fa fa57_3 rfl)) (qc rfl rfl (s_u (o_ld 1 sc53 rfl rfl rfl)) (qc rfl rfl (s_u (o_fa fa37_2 rfl)) (qc rfl rfl (s_u (o_ld 3 sc22 rfl rfl rfl)) (qc rfl rfl (s_u (o_lk (kv := vW) (vv := store_last.v) (key := a1.Session) (z0 := ((⟨0, (⟨0, [], 0⟩ : api_Reply)⟩ : store_last) : store_last)) 6 Try.underlying53 (kok_W Try.underlying22) (fun _ => by kernel_rfl) rfl rfl rfl)) (qc rfl rfl (s_u (o_mv rfl)) (qc rfl rfl (s_u (o_ext rfl rfl)) (qc rfl rfl (s_u (o_ext rfl rfl)) qn)))))))))) ?_ (fun h => absurd h (by decide))
            refine ec (eo_n rfl (s_w (o_al ze63)) fun b30 => ?_) en
            refine stage rfl rfl rfl rfl [0, 1, 3, 7, 0, 16, 63, 127, 255, 255, 0, 1535, 4095] [0, 1, 2, 3, 4, 5, 6, 7, 8, 9] [11] rfl rfl rfl (qc rfl rfl (s_u (o_mv rfl)) (qc rfl rfl (s_u (o_nc rfl)) (qc rfl rfl (s_u (o_fa fa57_3 rfl)) (qc rfl rfl (s_u (o_ld 2 sc53 rfl rfl rfl)) (qc rfl rfl (s_u (o_fa fa37_2 rfl)) (qc rfl rfl (s_u (o_ld 4 sc22 rfl rfl rfl)) (qc rfl rfl (s_u (o_lk (kv := vW) (vv := store_last.v) (key := a1.Session) (z0 := ((⟨0, (⟨0, [], 0⟩ : api_Reply)⟩ : store_last) : store_last)) 7 Try.underlying53 (kok_W Try.underlying22) (fun _ => by kernel_rfl) rfl rfl rfl)) (qc rfl rfl (s_u (o_mv rfl)) (qc rfl rfl (s_u (o_ext rfl rfl)) (qc rfl rfl (s_u (o_ext rfl rfl)) qn)))))))))) ?_ (fun h => absurd h (by decide))
            refine ec (eo_u rfl (s_u (o_stn ag63 rfl rfl rfl rfl rfl rfl rfl)) (Le.refl _) ?_) en
            refine stage_ext [(12, vB ((mget a0.sessions a1.Session).isSome))] rfl ?_
            refine stage rfl rfl rfl rfl [0, 1, 3, 7, 0, 16, 63, 127, 255, 255, 0, 1535, 4095] [9, 12] [] rfl rfl rfl (qc rfl rfl (s_u (o_ext rfl rfl)) (qc rfl rfl (s_u (o_as rfl)) qn)) en ?_
            intro _
            refine ex_sub (E' := [(0, pt b0_ 0), (3, pt b7 0), (4, pt b8 0), (8, pt b30 0), (9, vB ((mget a0.sessions a1.Session).isSome))]) ⟨rfl, rfl, rfl, rfl, rfl, trivial⟩ ?_
            refine x_seq ?_
            refine c_seq ?_
            refine c_blk ?_
            refine c_seq ?_
            refine c_reg ?_
            refine r_u (o_mv rfl) ?_
            refine r_u (o_mv rfl) ?_
            refine r_s (s_gt rfl rfl fun g => o_fa fa37_3 rfl) ?_
            refine r_s (s_gt rfl rfl fun g => o_ld 4 sc22 (evg rfl g) rfl rfl) ?_
            refine r_s (s_gt rfl rfl fun g => o_fa fa63_0 rfl) ?_
            refine r_s (s_gt rfl rfl fun g => o_ld 0 sc22 (evg rfl g) rfl rfl) ?_
            refine r_s (s_gt rfl rfl fun g => o_bin (evg rfl g) (evg rfl g) (bW_eq a1.Num (((mget a0.sessions a1.Session).getD ((⟨0, (⟨0, [], 0⟩ : api_Reply)⟩ : store_last) : store_last)).num))) ?_
            refine r_u (o_and rfl rfl) ?_
            refine r_u (o_as rfl) ?_
            refine r_nil ?_
            refine x_seq ?_
            refine c_if (b := ((mget a0.sessions a1.Session).isSome && (a1.Num == (((mget a0.sessions a1.Session).getD ((⟨0, (⟨0, [], 0⟩ : api_Reply)⟩ : store_last) : store_last)).num)))) rfl (fun h31 => ?_) fun h31 => ?_
            · have hm32 := ift hm29 h31
              clear hm29
              refine c_seq ?_
              refine c_reg ?_
              refine r_u (o_fa fa63_1 rfl) ?_
              refine r_u (o_ldn 0 (api_Reply.c (((mget a0.sessions a1.Session).getD ((⟨0, (⟨0, [], 0⟩ : api_Reply)⟩ : store_last) : store_last)).reply)) ag33 rfl rfl rfl rfl) ?_
              refine rl_st (fun _ h => mv3 h) ?_
              refine r_u0 (o_stn ag33 rfl rfl rfl rfl rfl rfl rfl) ?_
              refine r_u (o_as rfl) ?_
              refine r_nil ?_
              refine x_seq ?_
              refine c_ret ?_
              refine ex_st (fun _ h => mv3 (mv6 h)) ?_
              refine ex_st (fun _ h => st_some (f := table_Table.op g2) (a := (⟨p21.2.2, p21.1⟩ : table_Table)) (st_star_f (A := table_Table.fl b14 (⟨p21.2.2, p21.1⟩ : table_Table) g2) h)) ?_
              obtain rfl := Option.some.inj hm32
              exact x_d2 rfl (rv_n 1 (api_Reply.c (((mget a0.sessions a1.Session).getD ((⟨0, (⟨0, [], 0⟩ : api_Reply)⟩ : store_last) : store_last)).reply)) ag33 rfl rfl rfl rfl) (rv_t rfl) (fun _ h => st_pk 8 [3, 0, 7, 6] (by decide) h) (Le.refl _) ⟨_, rfl, (⟨(pt b14 0, g2), (pv23, g24), g6⟩ : store_Store.G), rfl, rfl, rfl⟩
            · have hm32 := iff_ hm29 h31
              clear hm29
              refine c_seq ?_
              refine c_reg ?_
              refine r_u (o_mv rfl) ?_
              refine r_u (o_mv rfl) ?_
              refine r_s (s_gt rfl rfl fun g => o_fa fa37_3 rfl) ?_
              refine r_s (s_gt rfl rfl fun g => o_ld 4 sc22 (evg rfl g) rfl rfl) ?_
              refine r_s (s_gt rfl rfl fun g => o_fa fa63_0 rfl) ?_
              refine r_s (s_gt rfl rfl fun g => o_ld 0 sc22 (evg rfl g) rfl rfl) ?_
              refine r_s (s_gt rfl rfl fun g => o_bin (evg rfl g) (evg rfl g) (bW_lt a1.Num (((mget a0.sessions a1.Session).getD ((⟨0, (⟨0, [], 0⟩ : api_Reply)⟩ : store_last) : store_last)).num))) ?_
              refine r_u (o_and rfl rfl) ?_
              refine r_u (o_as rfl) ?_
              refine r_nil ?_
              refine x_seq ?_
              refine c_if (b := ((mget a0.sessions a1.Session).isSome && decide (a1.Num < (((mget a0.sessions a1.Session).getD ((⟨0, (⟨0, [], 0⟩ : api_Reply)⟩ : store_last) : store_last)).num)))) rfl (fun h33 => ?_) fun h33 => ?_
              · have hm34 := ift hm32 h33
                clear hm32
                refine c_seq ?_
                refine c_reg ?_
                refine r_u (o_bld [vI 122, vS [], vW 0] rfl (fun _ => by kernel_rfl)) ?_
                refine rl_st (fun _ h => mv3 h) ?_
                refine r_u0 (o_stn ag33 rfl rfl rfl rfl rfl rfl rfl) ?_
                refine r_u (o_as rfl) ?_
                refine r_nil ?_
                refine x_seq ?_
                refine c_ret ?_
                refine ex_st (fun _ h => mv3 (mv6 h)) ?_
                refine ex_st (fun _ h => st_some (f := table_Table.op g2) (a := (⟨p21.2.2, p21.1⟩ : table_Table)) (st_star_f (A := table_Table.fl b14 (⟨p21.2.2, p21.1⟩ : table_Table) g2) h)) ?_
                obtain rfl := Option.some.inj hm34
                exact x_d2 rfl (rv_n 1 [vI 122, vS [], vW 0] ag33 rfl rfl rfl rfl) (rv_t rfl) (fun _ h => st_pk 8 [3, 0, 7, 6] (by decide) h) (Le.refl _) ⟨_, rfl, (⟨(pt b14 0, g2), (pv23, g24), g6⟩ : store_Store.G), rfl, rfl, rfl⟩
              · have hm34 := iff_ hm32 h33
                clear hm32
                refine c_seq ?_
                refine c_reg ?_
                refine r_u (o_mv rfl) ?_
                refine r_u (o_not rfl) ?_
                refine r_u (o_mv rfl) ?_
                refine r_s (s_gt rfl rfl fun g => o_mv rfl) ?_
                refine r_s (s_gt rfl rfl fun g => o_nc (evg rfl g)) ?_
                refine r_s (s_gt rfl rfl fun g => o_fa fa57_3 (evg rfl g)) ?_
                refine r_s (s_gt rfl rfl fun g => o_ld 2 sc53 (evg rfl g) rfl rfl) ?_
                refine r_s (s_gt rfl rfl fun g => o_lenM (kv := vW) (vv := store_last.v) 7 Try.underlying53 (evg rfl g) rfl) ?_
                refine r_s (s_gt rfl rfl fun g => o_bin (evg rfl g) rfl (bI_ge (a0.sessions.length : Int) 64)) ?_
                refine r_u (o_and rfl rfl) ?_
                refine r_u (o_as rfl) ?_
                refine r_nil ?_
                refine x_seq ?_
                refine c_if (b := (!((mget a0.sessions a1.Session).isSome) && decide (64 ≤ (a0.sessions.length : Int)))) rfl (fun h35 => ?_) fun h35 => ?_
                · have hm36 := ift hm34 h35
                  clear hm34
                  refine c_seq ?_
                  refine c_reg ?_
                  refine r_u (o_bld [vI 3, vS [], vW 0] rfl (fun _ => by kernel_rfl)) ?_
                  refine rl_st (fun _ h => mv3 h) ?_
                  refine r_u0 (o_stn ag33 rfl rfl rfl rfl rfl rfl rfl) ?_
                  refine r_u (o_as rfl) ?_
                  refine r_nil ?_
                  refine x_seq ?_
                  refine c_ret ?_
                  refine ex_st (fun _ h => mv3 (mv6 h)) ?_
                  refine ex_st (fun _ h => st_some (f := table_Table.op g2) (a := (⟨p21.2.2, p21.1⟩ : table_Table)) (st_star_f (A := table_Table.fl b14 (⟨p21.2.2, p21.1⟩ : table_Table) g2) h)) ?_
                  obtain rfl := Option.some.inj hm36
                  exact x_d2 rfl (rv_n 1 [vI 3, vS [], vW 0] ag33 rfl rfl rfl rfl) (rv_t rfl) (fun _ h => st_pk 8 [3, 0, 7, 6] (by decide) h) (Le.refl _) ⟨_, rfl, (⟨(pt b14 0, g2), (pv23, g24), g6⟩ : store_Store.G), rfl, rfl, rfl⟩
                · have hm36 := iff_ hm34 h35
                  clear hm34
                  refine c_skip ?_
                  refine x_blk ?_
                  refine x_seq ?_
                  refine c_seq ?_
                  refine c_reg ?_
                  refine r_u (o_mv rfl) ?_
                  refine r_u (o_fa fa37_4 rfl) ?_
                  refine r_u (o_ldn 4 (api_Op.c a1.Op) ag31 rfl rfl rfl rfl) ?_
                  refine rl_st (fun _ h => mv2 (mv6 h)) ?_
                  refine rl_st (fun _ h => st_some (f := table_Table.op g2) (a := (⟨p21.2.2, p21.1⟩ : table_Table)) (st_star_f (A := table_Table.fl b14 (⟨p21.2.2, p21.1⟩ : table_Table) g2) h)) ?_
                  obtain ⟨r37, hr37, hm46⟩ := bs hm36
                  clear hm36
                  refine rl_st (fun _ h => mv4 (mv2 (mv7 (mv6 h)))) ?_
                  refine r_sw (s_w (o_call ca19 rfl (store_Store_do.ok b0_ (⟨a0.c, (some (⟨p21.2.2, p21.1⟩ : table_Table)), p21.2.1, a0.sessions, a0.seq + 1, (if a0.now < a1.Now then a1.Now else a0.now), a0.version, a0.tally⟩ : store_Store) (⟨(pt b14 0, g2), (pv23, g24), g6⟩ : store_Store.G) a1.Op r37 hr37))) ?_
                  rintro _ R _ _ ⟨⟨⟨pv40, g41⟩, ⟨pv43, g44⟩, g45⟩, rfl, rfl, rfl⟩
                  refine r_new (o_al ze33) fun b47 => ?_
                  refine r_u0 (o_stn ag33 rfl rfl rfl rfl rfl rfl rfl) ?_
                  refine r_nil ?_
                  refine x_seq ?_
                  refine c_seq ?_
                  refine c_any mixed (effs := [10]) (V := []) ?_
                  refine stage_st (fun _ h => mv4 h) ?_
                  refine stage_ext [(0, pt b0_ 0), (1, pt b0_ 0), (2, pt b0_ 6), (3, g45), (4, pt b7 2), (5, vW a1.Session), (6, pt b7 3), (7, vW a1.Num), (8, .agg (api_Reply.c r37.1).toArray), (9, .agg [vW a1.Num, vI r37.1.E, vS r37.1.Value, vW r37.1.Version].toArray)] rfl ?_
                  refine stage rfl rfl rfl rfl [0, 1, 3, 7, 0, 16, 0, 64, 0, 448, 1023] [0, 1, 2, 3, 4, 5, 6, 7, 8, 9] [10] rfl rfl rfl (qc rfl rfl (s_u (o_mv rfl)) (qc rfl rfl (s_u (o_nc rfl)) (qc rfl rfl (s_u (o_fa fa57_3 rfl)) (qc rfl rfl (s_u (o_ld 2 sc53 rfl rfl rfl)) (qc rfl rfl (s_u (o_fa fa37_2 rfl)) (qc rfl rfl (s_u (o_ld 7 sc22 rfl rfl rfl)) (qc rfl rfl (s_u (o_fa fa37_3 rfl)) (qc rfl rfl (s_u (o_ld 7 sc22 rfl rfl rfl)) (qc rfl rfl (s_u (o_ldn 1 (api_Reply.c r37.1) ag33 rfl rfl rfl rfl)) (qc rfl rfl (s_u (o_bld [vW a1.Num, vI r37.1.E, vS r37.1.Value, vW r37.1.Version] rfl (fun _ => by kernel_rfl))) qn)))))))))) ?_ (fun h => absurd h (by decide))
                  refine ec (eo_u rfl (s_u (o_mu (kv := vW) (vv := store_last.v) (key := a1.Session) (val := (⟨a1.Num, r37.1⟩ : store_last)) Try.underlying53 (kok_W Try.underlying22) rfl rfl rfl rfl)) (Le.refl _) ?_) en
                  refine stage rfl rfl rfl rfl [0, 1, 3, 7, 0, 16, 0, 64, 0, 448, 1023] [] [] rfl rfl rfl qn en ?_
                  intro _
                  refine ex_sub (E' := [(4, pt b8 0), (10, pt b47 0)]) ⟨rfl, rfl, trivial⟩ ?_
                  refine x_seq ?_
                  refine c_seq ?_
                  refine c_reg ?_
                  refine r_u (o_ldn 1 (api_Reply.c r37.1) ag33 rfl rfl rfl rfl) ?_
                  refine rl_st (fun _ h => mv6 h) ?_
                  refine r_u0 (o_stn ag33 rfl rfl rfl rfl rfl rfl rfl) ?_
                  refine r_u (o_as rfl) ?_
                  refine r_nil ?_
                  refine x_seq ?_
                  refine c_ret ?_
                  obtain rfl := Option.some.inj hm46
                  exact x_d2 rfl (rv_n 0 (api_Reply.c r37.1) ag33 rfl rfl rfl rfl) (rv_t rfl) (fun _ h => st_pk 9 [3, 4, 5, 1] (by decide) h) (Le.refl _) ⟨_, rfl, (⟨(pv40, g41), (pv43, g44), g45⟩ : store_Store.G), rfl, rfl, rfl⟩
        · refine c_blk ?_
          refine cd_loopG (M := fun k55 (s : Int × Int × Option policy_Policy × (List (Str × api_Entry)) × (Value × policy_Policy.G)) => store_Store_Apply_l0 r18 k55 s.1 s.2.1 s.2.2.1 s.2.2.2.1 = some p21) (Ef := fun (s : Int × Int × Option policy_Policy × (List (Str × api_Entry)) × (Value × policy_Policy.G)) => [(0, pt b0_ 0), (3, pt b7 0), (4, pt b8 0), (61, v19), (62, vI (r18.length : Int)), (63, vI s.1)]) (Rf := fun (s : Int × Int × Option policy_Policy × (List (Str × api_Entry)) × (Value × policy_Policy.G)) => R) (Lf := fun (s : Int × Int × Option policy_Policy × (List (Str × api_Entry)) × (Value × policy_Policy.G)) => Bk b14 79 [g2.m, vI s.2.1] :: Bk b0_ 57 [vI a0.c.Policy, vI a0.c.Entries, vI a0.c.Bytes, vW a0.c.Seed, pt b14 0, s.2.2.2.2.1, g6, vW (a0.seq + 1), vW (if a0.now < a1.Now then a1.Now else a0.now), vW a0.version, vI a0.tally.Asked, vI a0.tally.Hits] :: Bk b8 33 [vI 0, vS [], vW 0] :: Bk b7 37 (api_Record.c a1) :: OwS true 9 1 eS v19 r18 :: OwM vS api_Entry.v g2.m s.2.2.2.1 :: OwM vW store_last.v g6 a0.sessions :: rO (policy_Policy.op s.2.2.2.2.2) s.2.2.2.2.1 s.2.2.1 :: F) (((r18.length : Int) - 0).toNat + 1) (0, x13.bytes, a0.p, x13.m, (pv4, g5)) hp25 ⟨rfl, rfl, rfl, rfl, rfl, rfl, trivial⟩ (fun _ h => st_pk 8 [1, 3, 4, 5, 0, 2, 7, 6] (by decide) h) (fun _ h => by cases h) fun k55 s hM57 => ?_
          obtain ⟨s_48, c_49, c_50, c_51, pv52⟩ := s
          have hm56 : store_Store_Apply_l0 r18 (k55 + 1) s_48 c_49 c_50 c_51 = some p21 := hM57
          rw [store_Store_Apply_l0] at hm56
          obtain ⟨pv53, g54⟩ := pv52
          refine c_seq ?_
          refine c_reg ?_
          refine r_u (o_bin rfl rfl (bI_lt s_48 (r18.length : Int))) ?_
          refine r_nil ?_
          refine x_seq ?_
          refine c_seq ?_
          refine c_if (b := decide (s_48 < (r18.length : Int))) rfl (fun h58 => ?_) fun h58 => ?_
          · have hm59 := ift hm56 h58
            clear hm56
            refine c_skip ?_
            refine x_seq ?_
            refine c_seq ?_
            refine c_blk ?_
            refine c_seq ?_
            refine c_reg ?_
            obtain ⟨x60, hx60, hm61⟩ := bs hm59
            clear hm59
            refine r_u (o_ixO 4 Try.underlying59 (fun _ => by kernel_rfl) rfl rfl rfl hx60) ?_
            refine r_u (o_ldO0 4 sc9 rfl rfl hx60 rfl rfl) ?_
            refine r_u (o_as rfl) ?_
            refine r_nil ?_
            refine x_seq ?_
            refine c_seq ?_
            refine c_reg ?_
            refine r_u (o_mv rfl) ?_
            refine r_u (o_nc rfl) ?_
            refine r_u (o_fa fa57_1 rfl) ?_
            refine r_u (o_ld 1 sc51 rfl rfl rfl) ?_
            refine r_u (o_mv rfl) ?_
            obtain ⟨r62, hr62, hm63⟩ := ltx hm61
            clear hm61
            refine rl_st (fun _ h => mv1 (mv5 h)) ?_
            refine r_c (s_w (o_call ca17 rfl (table_Table_Drop.ok b14 (⟨c_51, c_49⟩ : table_Table) g2 x60 r62 hr62))) ?_
            refine r_nil ?_
            refine x_seq ?_
            refine cd_st (fun _ h => mv7 h) ?_
            refine cd_opt (fun ho66 => ?_) (fun x64 b65 ho66 => ?_)
            · rintro rfl
              have hm67 := om_n hm63 ho66
              clear hm63
              cases hm67
            · rintro rfl
              have hm67 := om_s hm63 ho66
              clear hm63
              obtain ⟨⟨pv69, g70⟩, ⟨pv72, g73⟩⟩ := g54
              refine cd_st (fun _ h => st_star_o h) ?_
              refine c_reg ?_
              refine r_u (o_mv rfl) ?_
              refine r_u (o_nc rfl) ?_
              refine r_u (o_fa fa57_2 rfl) ?_
              refine r_u (o_ld 5 sc48 rfl rfl rfl) ?_
              refine r_u (o_mv rfl) ?_
              obtain ⟨r74, hr74, hm82⟩ := bs hm67
              clear hm67
              refine r_sw (s_w (o_call ca18 rfl (policy_Policy_Remove.ok b65 x64 (⟨(pv69, g70), (pv72, g73)⟩ : policy_Policy.G) x60 r74 hr74))) ?_
              rintro _ R _ _ ⟨⟨⟨pv77, g78⟩, ⟨pv80, g81⟩⟩, rfl, rfl, rfl⟩
              refine r_nil ?_
              refine x_blk ?_
              refine x_seq ?_
              refine c_reg ?_
              refine r_u (o_bin rfl rfl (bI_add s_48 1)) ?_
              refine r_u (o_mv rfl) ?_
              refine r_nil ?_
              refine ex_st (fun _ h => st_some (f := policy_Policy.op (⟨(pv77, g78), (pv80, g81)⟩ : policy_Policy.G)) (a := r74.2) (st_star_f (A := policy_Policy.fl b65 r74.2 (⟨(pv77, g78), (pv80, g81)⟩ : policy_Policy.G)) h)) ?_
              exact x_lp (i64 (s_48 + 1), r62.2.bytes, (some r74.2), r62.2.m, (pt b65 0, (⟨(pv77, g78), (pv80, g81)⟩ : policy_Policy.G))) hm82 ⟨rfl, rfl, rfl, rfl, rfl, rfl, trivial⟩ (fun _ h => st_pk 8 [1, 3, 4, 5, 6, 2, 7, 0] (by decide) h)
          · have hm59 := iff_ hm56 h58
            clear hm56
            refine c_exit (x_exit (ks' := _) rfl ?_)
            obtain rfl := Option.some.inj hm59
            exact x_sub (K27 (pv53, g54)) ⟨rfl, rfl, rfl, trivial⟩ (fun _ h => st_pk 8 [0, 1, 2, 3, 4, 5, 6, 7] (by decide) h)

def store_Store_Seq (a0 : store_Store) : UInt64 :=
  a0.seq
theorem store_Store_Seq.ok {G R F} (b0_ : Nat) (a0 : store_Store) (g0_ : store_Store.G) (r : UInt64) (hm : store_Store_Seq a0 = r) : CO Try.prog 11 [pt b0_ 0] G R (Bk b0_ 57 [vI a0.c.Policy, vI a0.c.Entries, vI a0.c.Bytes, vW a0.c.Seed, g0_.t.1, g0_.p.1, g0_.sessions, vW a0.seq, vW a0.now, vW a0.version, vI a0.tally.Asked, vI a0.tally.Hits] :: rO (table_Table.op g0_.t.2) g0_.t.1 a0.t :: rO (policy_Policy.op g0_.p.2) g0_.p.1 a0.p :: OwM vW store_last.v g0_.sessions a0.sessions :: F)
    (Ret fun u R' L' => u = vW r ∧ R' = R ∧ L' = Bk b0_ 57 [vI a0.c.Policy, vI a0.c.Entries, vI a0.c.Bytes, vW a0.c.Seed, g0_.t.1, g0_.p.1, g0_.sessions, vW a0.seq, vW a0.now, vW a0.version, vI a0.tally.Asked, vI a0.tally.Hits] :: rO (table_Table.op g0_.t.2) g0_.t.1 a0.t :: rO (policy_Policy.op g0_.p.2) g0_.p.1 a0.p :: OwM vW store_last.v g0_.sessions a0.sessions :: F) := by
  obtain ⟨⟨pv1, g2⟩, ⟨pv4, g5⟩, g6⟩ := g0_
  unfold store_Store_Seq at hm
  refine co_ofN (N := 9) Try.func11 rfl rfl ?_
  refine c_seq ?_
  refine c_reg ?_
  refine r_u (o_as rfl) ?_
  refine r_nil ?_
  refine x_seq ?_
  refine c_seq ?_
  refine c_seq ?_
  refine c_reg ?_
  refine r_u (o_mv rfl) ?_
  refine r_u (o_bin rfl rfl (bP_eqp Try.underlying24)) ?_
  refine r_nil ?_
  refine x_seq ?_
  refine c_ff rfl ?_
  refine c_skip ?_
  refine x_seq ?_
  refine c_seq ?_
  refine c_reg ?_
  refine r_u (o_mv rfl) ?_
  refine r_u (o_nc rfl) ?_
  refine r_u (o_fa fa57_4 rfl) ?_
  refine r_u (o_ld 0 sc22 rfl rfl rfl) ?_
  refine r_u (o_as rfl) ?_
  refine r_nil ?_
  refine x_seq ?_
  refine c_ret ?_
  subst hm
  exact x_r1 rfl (rv_t rfl) (Le.refl _) ⟨_, rfl, rfl, rfl, rfl⟩

def store_Store_Entries_l0 (r12 : List Str) (x7 : table_Table) : Nat → (List api_Entry) → Int → Option (List api_Entry)
  | 0, _, _ => none
  | k23 + 1, out_20, s_21 => if decide (s_21 < (r12.length : Int)) then (gi r12 s_21).bind fun x28 => lt (table_Table_Get x7 x28) fun r30 => (apd 48 out_20 [r30.1]).bind fun l35 => store_Store_Entries_l0 r12 x7 k23 l35 (i64 (s_21 + 1)) else some out_20
def store_Store_Entries (a0 : store_Store) : Option (List api_Entry) :=
  om a0.t (none) fun x7 => (table_Table_Keys x7).bind fun r12 => Option.bind (store_Store_Entries_l0 r12 x7 (((r12.length : Int) - 0).toNat + 1) [] 0) fun p15 => some p15
theorem store_Store_Entries.ok {G R F} (b0_ : Nat) (a0 : store_Store) (g0_ : store_Store.G) (r : List api_Entry) (hm : store_Store_Entries a0 = some r) : CO Try.prog 10 [pt b0_ 0] G R (Bk b0_ 57 [vI a0.c.Policy, vI a0.c.Entries, vI a0.c.Bytes, vW a0.c.Seed, g0_.t.1, g0_.p.1, g0_.sessions, vW a0.seq, vW a0.now, vW a0.version, vI a0.tally.Asked, vI a0.tally.Hits] :: rO (table_Table.op g0_.t.2) g0_.t.1 a0.t :: rO (policy_Policy.op g0_.p.2) g0_.p.1 a0.p :: OwM vW store_last.v g0_.sessions a0.sessions :: F)
    (Ret fun u R' L' => ∃ p0, u = p0 ∧ R' = R ∧ L' = OwS true 44 4 api_Entry.c p0 r :: Bk b0_ 57 [vI a0.c.Policy, vI a0.c.Entries, vI a0.c.Bytes, vW a0.c.Seed, g0_.t.1, g0_.p.1, g0_.sessions, vW a0.seq, vW a0.now, vW a0.version, vI a0.tally.Asked, vI a0.tally.Hits] :: rO (table_Table.op g0_.t.2) g0_.t.1 a0.t :: rO (policy_Policy.op g0_.p.2) g0_.p.1 a0.p :: OwM vW store_last.v g0_.sessions a0.sessions :: F) := by
  obtain ⟨⟨pv1, g2⟩, ⟨pv4, g5⟩, g6⟩ := g0_
  unfold store_Store_Entries at hm
  refine co_ofN (N := 35) Try.func10 rfl rfl ?_
  refine c_seq ?_
  refine c_reg ?_
  refine r_u (o_as rfl) ?_
  refine r_nil ?_
  refine x_seq ?_
  refine c_seq ?_
  refine c_seq ?_
  refine c_reg ?_
  refine r_u (o_mv rfl) ?_
  refine r_u (o_bin rfl rfl (bP_eqp Try.underlying24)) ?_
  refine r_nil ?_
  refine x_seq ?_
  refine c_ff rfl ?_
  refine c_skip ?_
  refine x_seq ?_
  refine c_seq ?_
  refine c_reg ?_
  refine r_u (o_as rfl) ?_
  refine r_nil ?_
  refine x_seq ?_
  refine c_seq ?_
  refine c_seq ?_
  refine cd_st (fun _ h => mv1 h) ?_
  refine cd_opt (fun ho9 => ?_) (fun x7 b8 ho9 => ?_)
  · rintro rfl
    have hm10 := om_n hm ho9
    clear hm
    cases hm10
  · rintro rfl
    have hm10 := om_s hm ho9
    clear hm
    refine cd_st (fun _ h => st_star_o h) ?_
    refine c_reg ?_
    refine r_u (o_mv rfl) ?_
    refine r_u (o_nc rfl) ?_
    refine r_u (o_fa fa57_1 rfl) ?_
    refine r_u (o_ld 2 sc51 rfl rfl rfl) ?_
    obtain ⟨r12, hr12, hm14⟩ := bs hm10
    clear hm10
    refine r_sw (s_w (o_call ca20 rfl (table_Table_Keys.ok b8 x7 g2 r12 hr12))) ?_
    rintro v13 R _ _ ⟨_, rfl, rfl, rfl⟩
    refine r_u (o_lenO 0 Try.underlying59 rfl rfl) ?_
    refine r_u (o_mv rfl) ?_
    refine r_nil ?_
    refine x_seq ?_
    obtain ⟨p15, hp17, hm18⟩ := bs hm14
    refine cd_cut (fun x ks => ∀ (g16 : Value), EX x .normal ks [(3, g16)] R (Bk b8 79 [g2.m, vI x7.bytes] :: Bk b0_ 57 [vI a0.c.Policy, vI a0.c.Entries, vI a0.c.Bytes, vW a0.c.Seed, pt b8 0, pv4, g6, vW a0.seq, vW a0.now, vW a0.version, vI a0.tally.Asked, vI a0.tally.Hits] :: OwS true 9 1 eS v13 r12 :: OwM vS api_Entry.v g2.m x7.m :: rO (policy_Policy.op g5) pv4 a0.p :: OwM vW store_last.v g6 a0.sessions :: OwS true 44 4 api_Entry.c g16 p15 :: F)) ?_ fun K19 => ?_
    · intro g16
      refine x_seq ?_
      refine c_seq ?_
      refine c_reg ?_
      refine r_u (o_mv rfl) ?_
      refine r_u (o_as rfl) ?_
      refine r_nil ?_
      refine x_seq ?_
      refine c_ret ?_
      refine ex_st (fun _ h => mv1 (mv3 h)) ?_
      refine ex_st (fun _ h => st_some (f := table_Table.op g2) (a := x7) (st_star_f (A := table_Table.fl b8 x7 g2) h)) ?_
      refine ex_st (fun _ h => st_back ho9 h) ?_
      obtain rfl := Option.some.inj hm18
      refine ex_st (fun _ h => st_pk 6 [5, 1, 0, 3, 4] (by decide) h) ?_
      exact x_r1 rfl (rv_t rfl) (Le.refl _) ⟨_, rfl, g16, rfl, rfl, rfl⟩
    · refine c_blk ?_
      refine cd_st (fun _ h => st_nil (ap := true) (T := 44) (sz := 4) (en := api_Entry.c) h) ?_
      refine cd_loopG (M := fun k23 (s : List api_Entry × Int × Value) => store_Store_Entries_l0 r12 x7 k23 s.1 s.2.1 = some p15) (Ef := fun (s : List api_Entry × Int × Value) => [(0, pt b0_ 0), (14, v13), (15, vI (r12.length : Int)), (3, s.2.2), (16, vI s.2.1)]) (Rf := fun (s : List api_Entry × Int × Value) => R) (Lf := fun (s : List api_Entry × Int × Value) => Bk b8 79 [g2.m, vI x7.bytes] :: Bk b0_ 57 [vI a0.c.Policy, vI a0.c.Entries, vI a0.c.Bytes, vW a0.c.Seed, pt b8 0, pv4, g6, vW a0.seq, vW a0.now, vW a0.version, vI a0.tally.Asked, vI a0.tally.Hits] :: OwS true 9 1 eS v13 r12 :: OwM vS api_Entry.v g2.m x7.m :: rO (policy_Policy.op g5) pv4 a0.p :: OwM vW store_last.v g6 a0.sessions :: OwS true 44 4 api_Entry.c s.2.2 s.1 :: F) (((r12.length : Int) - 0).toNat + 1) ([], 0, .slice none 0 0) hp17 ⟨rfl, rfl, rfl, rfl, rfl, trivial⟩ (fun _ h => st_pk 7 [2, 4, 1, 3, 5, 6, 0] (by decide) h) (fun _ h => by cases h) fun k23 s hM25 => ?_
      obtain ⟨out_20, s_21, g22⟩ := s
      have hm24 : store_Store_Entries_l0 r12 x7 (k23 + 1) out_20 s_21 = some p15 := hM25
      rw [store_Store_Entries_l0] at hm24
      refine c_seq ?_
      refine c_reg ?_
      refine r_u (o_bin rfl rfl (bI_lt s_21 (r12.length : Int))) ?_
      refine r_nil ?_
      refine x_seq ?_
      refine c_seq ?_
      refine c_if (b := decide (s_21 < (r12.length : Int))) rfl (fun h26 => ?_) fun h26 => ?_
      · have hm27 := ift hm24 h26
        clear hm24
        refine c_skip ?_
        refine x_seq ?_
        refine c_seq ?_
        refine c_blk ?_
        refine c_seq ?_
        refine c_reg ?_
        obtain ⟨x28, hx28, hm29⟩ := bs hm27
        clear hm27
        refine r_u (o_ixO 2 Try.underlying59 (fun _ => by kernel_rfl) rfl rfl rfl hx28) ?_
        refine r_u (o_ldO0 2 sc9 rfl rfl hx28 rfl rfl) ?_
        refine r_u (o_as rfl) ?_
        refine r_nil ?_
        refine x_seq ?_
        refine c_seq ?_
        refine c_reg ?_
        refine r_u (o_mv rfl) ?_
        refine r_u (o_nc rfl) ?_
        refine r_u (o_fa fa57_1 rfl) ?_
        refine r_u (o_ld 1 sc51 rfl rfl rfl) ?_
        refine r_u (o_mv rfl) ?_
        obtain ⟨r30, hr30, hm31⟩ := ltx hm29
        clear hm29
        refine rl_st (fun _ h => mv1 (mv3 h)) ?_
        refine r_c (s_w (o_call ca21 rfl (table_Table_Get.ok b8 x7 g2 x28 r30 hr30))) ?_
        refine r_u (o_mv rfl) ?_
        refine r_u (o_ext rfl rfl) ?_
        refine r_u (o_ext rfl rfl) ?_
        refine r_new (o_al ze44) fun b32 => ?_
        refine r_u0 (o_stn ag44 rfl rfl rfl rfl rfl rfl rfl) ?_
        refine r_u (o_as rfl) ?_
        refine r_nil ?_
        refine x_seq ?_
        refine c_reg ?_
        refine r_u (o_mv rfl) ?_
        refine r_u (o_ldn 0 (api_Entry.c r30.1) ag44 rfl rfl rfl rfl) ?_
        refine r_sw (s_w (o_bsl (en := api_Entry.c) (sz := 4) (e := 44) (cs := [vS r30.1.Key, vS r30.1.Value, vW r30.1.Version, vW r30.1.End]) (r := [r30.1]) rfl (fun _ => by kernel_rfl) rfl (by decide) rfl (fun _ => rfl))) ?_
        rintro v33 R _ _ ⟨rfl, rfl⟩
        obtain ⟨l35, hl35, hm36⟩ := bs hm31
        clear hm31
        refine rl_st (fun _ h => mv8 h) ?_
        refine r_sw (s_w (o_ap (sz := 4) (bytes := 48) 0 Try.underlying41 rfl rfl rfl rfl rfl (by decide) (by decide) (fun _ _ _ h => by simp [api_Entry.c] at h; rcases h with rfl | rfl | rfl | rfl <;> rfl) (fun _ => rfl) rfl rfl rfl rfl (Nat.succ_pos _) hl35)) ?_
        rintro v34 R _ _ ⟨rfl, rfl⟩
        refine r_u (o_as rfl) ?_
        refine r_nil ?_
        refine x_blk ?_
        refine x_seq ?_
        refine c_reg ?_
        refine r_u (o_bin rfl rfl (bI_add s_21 1)) ?_
        refine r_u (o_mv rfl) ?_
        refine r_nil ?_
        exact x_lp (l35, i64 (s_21 + 1), v34) hm36 ⟨rfl, rfl, rfl, rfl, rfl, trivial⟩ (fun _ h => st_pk 9 [3, 5, 6, 4, 7, 8, 0] (by decide) h)
      · have hm27 := iff_ hm24 h26
        clear hm24
        refine c_exit (x_exit (ks' := _) rfl ?_)
        obtain rfl := Option.some.inj hm27
        exact x_sub (K19 g22) ⟨rfl, trivial⟩ (fun _ h => st_pk 7 [0, 1, 2, 3, 4, 5, 6] (by decide) h)

def hawthornlaw12_awake  : Option Bool :=
  (store_New (⟨1, 2, 100, 0⟩ : api_Config)).bind fun r0 => om r0.1 (none) fun x5 => (store_Store_Apply x5 (⟨1, 0, 1, 1, (⟨2, [107], [118], 0, 0⟩ : api_Op)⟩ : api_Record)).bind fun r16 => (store_Store_Apply r16.2.2 (⟨2, 0, 1, 2, (⟨1, [107], [], 0, 0⟩ : api_Op)⟩ : api_Record)).bind fun r27 => if (((((r0.2 == 0) && (r16.2.1 == 0)) && (r27.2.1 == 0)) && (r16.1.Version == 1)) && (r27.1.Value == [118])) then if ((store_Store_Seq r27.2.2) == 2) then (store_Store_Entries r27.2.2).bind fun r42 => some ((r42.length : Int) == 1) else some false else some false
theorem hawthornlaw12_awake.ok {G R F} (r : Bool) (hm : hawthornlaw12_awake = some r) : CO Try.prog 6 [] G R (F)
    (Ret fun u R' L' => u = vB r ∧ R' = R ∧ L' = F) := by
  unfold hawthornlaw12_awake at hm
  refine co_ofN (N := 57) Try.func6 rfl rfl ?_
  refine c_seq ?_
  refine c_reg ?_
  refine r_u (o_as rfl) ?_
  refine r_nil ?_
  refine x_seq ?_
  refine c_seq ?_
  refine c_reg ?_
  refine r_u (o_bld [vI 1, vI 2, vI 100, vW 0] rfl (fun _ => by kernel_rfl)) ?_
  obtain ⟨r0, hr0, hm4⟩ := bs hm
  clear hm
  refine r_sw (s_w (o_call ca7 rfl (store_New.ok (⟨1, 2, 100, 0⟩ : api_Config) r0 hr0))) ?_
  rintro _ R _ _ ⟨⟨pv2, g3⟩, rfl, rfl, rfl⟩
  refine r_u (o_mv rfl) ?_
  refine r_u (o_ext rfl rfl) ?_
  refine r_u (o_ext rfl rfl) ?_
  refine r_u (o_as rfl) ?_
  refine r_u (o_as rfl) ?_
  refine r_nil ?_
  refine x_seq ?_
  refine c_seq ?_
  refine cd_opt (fun ho7 => ?_) (fun x5 b6 ho7 => ?_)
  · rintro rfl
    have hm8 := om_n hm4 ho7
    clear hm4
    cases hm8
  · rintro rfl
    have hm8 := om_s hm4 ho7
    clear hm4
    obtain ⟨⟨pv10, g11⟩, ⟨pv13, g14⟩, g15⟩ := g3
    refine cd_st (fun _ h => st_star_o h) ?_
    refine c_reg ?_
    refine r_u (o_mv rfl) ?_
    refine r_u (o_bld [vI 2, vS [107], vS [118], vW 0, vW 0] rfl (fun _ => by kernel_rfl)) ?_
    refine r_u (o_bld [vW 1, vW 0, vW 1, vW 1, vI 2, vS [107], vS [118], vW 0, vW 0] rfl (fun _ => by kernel_rfl)) ?_
    obtain ⟨r16, hr16, hm25⟩ := bs hm8
    clear hm8
    refine r_sw (s_w (o_call ca9 rfl (store_Store_Apply.ok b6 x5 (⟨(pv10, g11), (pv13, g14), g15⟩ : store_Store.G) (⟨1, 0, 1, 1, (⟨2, [107], [118], 0, 0⟩ : api_Op)⟩ : api_Record) r16 hr16))) ?_
    rintro _ R _ _ ⟨⟨⟨pv19, g20⟩, ⟨pv22, g23⟩, g24⟩, rfl, rfl, rfl⟩
    refine r_u (o_mv rfl) ?_
    refine r_u (o_ext rfl rfl) ?_
    refine r_u (o_ext rfl rfl) ?_
    refine r_new (o_al ze33) fun b26 => ?_
    refine r_u0 (o_stn ag33 rfl rfl rfl rfl rfl rfl rfl) ?_
    refine r_u (o_as rfl) ?_
    refine r_nil ?_
    refine x_seq ?_
    refine c_seq ?_
    refine c_reg ?_
    refine r_u (o_mv rfl) ?_
    refine r_u (o_bld [vI 1, vS [107], vS [], vW 0, vW 0] rfl (fun _ => by kernel_rfl)) ?_
    refine r_u (o_bld [vW 2, vW 0, vW 1, vW 2, vI 1, vS [107], vS [], vW 0, vW 0] rfl (fun _ => by kernel_rfl)) ?_
    obtain ⟨r27, hr27, hm36⟩ := bs hm25
    clear hm25
    refine rl_st (fun _ h => mv4 (mv4 (mv4 (mv4 h)))) ?_
    refine r_sw (s_w (o_call ca9 rfl (store_Store_Apply.ok b6 r16.2.2 (⟨(pv19, g20), (pv22, g23), g24⟩ : store_Store.G) (⟨2, 0, 1, 2, (⟨1, [107], [], 0, 0⟩ : api_Op)⟩ : api_Record) r27 hr27))) ?_
    rintro _ R _ _ ⟨⟨⟨pv30, g31⟩, ⟨pv33, g34⟩, g35⟩, rfl, rfl, rfl⟩
    refine r_u (o_mv rfl) ?_
    refine r_u (o_ext rfl rfl) ?_
    refine r_u (o_ext rfl rfl) ?_
    refine r_new (o_al ze33) fun b37 => ?_
    refine r_u0 (o_stn ag33 rfl rfl rfl rfl rfl rfl rfl) ?_
    refine r_u (o_as rfl) ?_
    refine r_nil ?_
    refine x_seq ?_
    refine c_seq ?_
    refine cd_by (((((r0.2 == 0) && (r16.2.1 == 0)) && (r27.2.1 == 0)) && (r16.1.Version == 1)) && (r27.1.Value == [118])) (fun h38 => ?_) fun h38 => ?_
    · have hm39 := ift hm36 h38
      clear hm36
      refine cd_by ((store_Store_Seq r27.2.2) == 2) (fun h40 => ?_) fun h40 => ?_
      · have hm41 := ift hm39 h40
        clear hm39
        refine c_reg ?_
        refine r_u (o_mv rfl) ?_
        refine r_u (o_bin rfl rfl (bI_eq r0.2 0)) ?_
        refine r_u (o_mv rfl) ?_
        refine r_s (s_gt rfl rfl fun g => o_mv rfl) ?_
        refine r_s (s_gt rfl rfl fun g => o_bin (evg rfl g) rfl (bI_eq r16.2.1 0)) ?_
        refine r_u (o_and rfl rfl) ?_
        refine r_u (o_mv rfl) ?_
        refine r_s (s_gt rfl rfl fun g => o_mv rfl) ?_
        refine r_s (s_gt rfl rfl fun g => o_bin (evg rfl g) rfl (bI_eq r27.2.1 0)) ?_
        refine r_u (o_and rfl rfl) ?_
        refine r_u (o_mv rfl) ?_
        refine r_s (s_gt rfl rfl fun g => o_fa fa33_2 rfl) ?_
        refine r_s (s_gt rfl rfl fun g => o_ld 5 sc22 (evg rfl g) rfl rfl) ?_
        refine r_s (s_gt rfl rfl fun g => o_bin (evg rfl g) rfl (bW_eq r16.1.Version 1)) ?_
        refine r_u (o_and rfl rfl) ?_
        refine r_u (o_mv rfl) ?_
        refine r_s (s_gt rfl rfl fun g => o_fa fa33_1 rfl) ?_
        refine r_s (s_gt rfl rfl fun g => o_ld 0 sc9 (evg rfl g) rfl rfl) ?_
        refine r_s (s_gt rfl rfl fun g => o_bin (evg rfl g) rfl (bS_eq r27.1.Value [118])) ?_
        refine r_u (o_and rfl rfl) ?_
        refine r_u (o_mv rfl) ?_
        refine r_s (s_y rfl rfl h38 (o_mv rfl)) ?_
        refine rl_st (fun _ h => mv4 (mv4 (mv4 (mv4 h)))) ?_
        refine r_c (s_yw rfl rfl h38 (o_call ca11 rfl (store_Store_Seq.ok b6 r27.2.2 (⟨(pv30, g31), (pv33, g34), g35⟩ : store_Store.G) _ rfl))) ?_
        refine r_s (s_y rfl rfl h38 (o_bin rfl rfl (bW_eq (store_Store_Seq r27.2.2) 2))) ?_
        refine r_u (o_pt rfl h38 rfl) ?_
        refine r_u (o_mv rfl) ?_
        refine r_s (s_y rfl rfl h40 (o_mv rfl)) ?_
        obtain ⟨r42, hr42, hm44⟩ := bs hm41
        clear hm41
        refine r_sw (s_yw rfl rfl h40 (o_call ca10 rfl (store_Store_Entries.ok b6 r27.2.2 (⟨(pv30, g31), (pv33, g34), g35⟩ : store_Store.G) r42 hr42))) ?_
        rintro v43 R _ _ ⟨_, rfl, rfl, rfl⟩
        refine r_s (s_y rfl rfl h40 (o_lenO 0 Try.underlying41 rfl rfl)) ?_
        refine r_s (s_y rfl rfl h40 (o_bin rfl rfl (bI_eq (r42.length : Int) 1))) ?_
        refine r_u (o_pt rfl h40 rfl) ?_
        refine r_u (o_as rfl) ?_
        refine r_nil ?_
        refine x_seq ?_
        refine c_ret ?_
        obtain rfl := Option.some.inj hm44
        refine ex_st (fun _ h => st_pk 7 [] (by decide) h) ?_
        exact x_r1 rfl (rv_t rfl) (Le.refl _) ⟨_, rfl, rfl, rfl, rfl⟩
      · have hm41 := iff_ hm39 h40
        clear hm39
        refine c_reg ?_
        refine r_u (o_mv rfl) ?_
        refine r_u (o_bin rfl rfl (bI_eq r0.2 0)) ?_
        refine r_u (o_mv rfl) ?_
        refine r_s (s_gt rfl rfl fun g => o_mv rfl) ?_
        refine r_s (s_gt rfl rfl fun g => o_bin (evg rfl g) rfl (bI_eq r16.2.1 0)) ?_
        refine r_u (o_and rfl rfl) ?_
        refine r_u (o_mv rfl) ?_
        refine r_s (s_gt rfl rfl fun g => o_mv rfl) ?_
        refine r_s (s_gt rfl rfl fun g => o_bin (evg rfl g) rfl (bI_eq r27.2.1 0)) ?_
        refine r_u (o_and rfl rfl) ?_
        refine r_u (o_mv rfl) ?_
        refine r_s (s_gt rfl rfl fun g => o_fa fa33_2 rfl) ?_
        refine r_s (s_gt rfl rfl fun g => o_ld 5 sc22 (evg rfl g) rfl rfl) ?_
        refine r_s (s_gt rfl rfl fun g => o_bin (evg rfl g) rfl (bW_eq r16.1.Version 1)) ?_
        refine r_u (o_and rfl rfl) ?_
        refine r_u (o_mv rfl) ?_
        refine r_s (s_gt rfl rfl fun g => o_fa fa33_1 rfl) ?_
        refine r_s (s_gt rfl rfl fun g => o_ld 0 sc9 (evg rfl g) rfl rfl) ?_
        refine r_s (s_gt rfl rfl fun g => o_bin (evg rfl g) rfl (bS_eq r27.1.Value [118])) ?_
        refine r_u (o_and rfl rfl) ?_
        refine r_u (o_mv rfl) ?_
        refine r_s (s_y rfl rfl h38 (o_mv rfl)) ?_
        refine rl_st (fun _ h => mv4 (mv4 (mv4 (mv4 h)))) ?_
        refine r_c (s_yw rfl rfl h38 (o_call ca11 rfl (store_Store_Seq.ok b6 r27.2.2 (⟨(pv30, g31), (pv33, g34), g35⟩ : store_Store.G) _ rfl))) ?_
        refine r_s (s_y rfl rfl h38 (o_bin rfl rfl (bW_eq (store_Store_Seq r27.2.2) 2))) ?_
        refine r_u (o_pt rfl h38 rfl) ?_
        refine r_u (o_mv rfl) ?_
        refine r_s (s_n rfl rfl h40) ?_
        refine r_s (s_n rfl rfl h40) ?_
        refine r_s (s_n rfl rfl h40) ?_
        refine r_s (s_n rfl rfl h40) ?_
        refine r_u (o_pf rfl h40 rfl) ?_
        refine r_u (o_as rfl) ?_
        refine r_nil ?_
        refine x_seq ?_
        refine c_ret ?_
        obtain rfl := Option.some.inj hm41
        refine ex_st (fun _ h => st_pk 6 [] (by decide) h) ?_
        exact x_r1 rfl (rv_t rfl) (Le.refl _) ⟨_, rfl, rfl, rfl, rfl⟩
    · have hm39 := iff_ hm36 h38
      clear hm36
      refine c_reg ?_
      refine r_u (o_mv rfl) ?_
      refine r_u (o_bin rfl rfl (bI_eq r0.2 0)) ?_
      refine r_u (o_mv rfl) ?_
      refine r_s (s_gt rfl rfl fun g => o_mv rfl) ?_
      refine r_s (s_gt rfl rfl fun g => o_bin (evg rfl g) rfl (bI_eq r16.2.1 0)) ?_
      refine r_u (o_and rfl rfl) ?_
      refine r_u (o_mv rfl) ?_
      refine r_s (s_gt rfl rfl fun g => o_mv rfl) ?_
      refine r_s (s_gt rfl rfl fun g => o_bin (evg rfl g) rfl (bI_eq r27.2.1 0)) ?_
      refine r_u (o_and rfl rfl) ?_
      refine r_u (o_mv rfl) ?_
      refine r_s (s_gt rfl rfl fun g => o_fa fa33_2 rfl) ?_
      refine r_s (s_gt rfl rfl fun g => o_ld 5 sc22 (evg rfl g) rfl rfl) ?_
      refine r_s (s_gt rfl rfl fun g => o_bin (evg rfl g) rfl (bW_eq r16.1.Version 1)) ?_
      refine r_u (o_and rfl rfl) ?_
      refine r_u (o_mv rfl) ?_
      refine r_s (s_gt rfl rfl fun g => o_fa fa33_1 rfl) ?_
      refine r_s (s_gt rfl rfl fun g => o_ld 0 sc9 (evg rfl g) rfl rfl) ?_
      refine r_s (s_gt rfl rfl fun g => o_bin (evg rfl g) rfl (bS_eq r27.1.Value [118])) ?_
      refine r_u (o_and rfl rfl) ?_
      refine r_u (o_mv rfl) ?_
      refine r_s (s_n rfl rfl h38) ?_
      refine r_s (s_n rfl rfl h38) ?_
      refine r_s (s_n rfl rfl h38) ?_
      refine r_u (o_pf rfl h38 rfl) ?_
      refine r_u (o_mv rfl) ?_
      refine r_s (s_n rfl rfl rfl) ?_
      refine r_s (s_n rfl rfl rfl) ?_
      refine r_s (s_n rfl rfl rfl) ?_
      refine r_s (s_n rfl rfl rfl) ?_
      refine r_u (o_pf rfl rfl rfl) ?_
      refine r_u (o_as rfl) ?_
      refine r_nil ?_
      refine x_seq ?_
      refine c_ret ?_
      obtain rfl := Option.some.inj hm39
      refine ex_st (fun _ h => st_pk 6 [] (by decide) h) ?_
      exact x_r1 rfl (rv_t rfl) (Le.refl _) ⟨_, rfl, rfl, rfl, rfl⟩

def hawthornlaw12_StoreEnds (a0 : UInt64) (a1 : UInt64) (a2 : UInt64) : Option Bool :=
  (store_New (⟨2, 4, 1000, 3⟩ : api_Config)).bind fun r0 => om r0.1 (none) fun x5 => (store_Store_Apply x5 (⟨1, a0, 1, 1, (⟨2, [107], [118], 1 + (a1 % 1073741824), 0⟩ : api_Op)⟩ : api_Record)).bind fun r16 => (store_Store_Apply r16.2.2 (⟨2, a2, 1, 2, (⟨1, [107], [], 0, 0⟩ : api_Op)⟩ : api_Record)).bind fun r27 => (hawthornlaw12_awake).bind fun r38 => if ((((!r38 || (r0.2 != 0)) || (r16.2.1 != 0)) || (r27.2.1 != 0)) || (r16.1.E != 0)) then some false else Option.bind (if decide (a0 < a2) then some (a2 - a0) else some 0) fun p42 => some (((r27.1.E == 0) == (decide (p42 < (1 + (a1 % 1073741824))) && (decide (a2 < 18446744073709551615) || (a0 == 18446744073709551615)))) && ((r27.1.E == 0) || (r27.1.E == 2)))
theorem hawthornlaw12_StoreEnds.ok {G R F} (a0 : UInt64) (a1 : UInt64) (a2 : UInt64) (r : Bool) (hm : hawthornlaw12_StoreEnds a0 a1 a2 = some r) : CO Try.prog 4 [vW a0, vW a1, vW a2] G R (F)
    (Ret fun u R' L' => u = vB r ∧ R' = R ∧ L' = F) := by
  unfold hawthornlaw12_StoreEnds at hm
  refine co_ofN (N := 92) Try.func4 rfl rfl ?_
  refine c_seq ?_
  refine c_reg ?_
  refine r_u (o_as rfl) ?_
  refine r_nil ?_
  refine x_seq ?_
  refine c_seq ?_
  refine c_reg ?_
  refine r_u (o_bld [vI 2, vI 4, vI 1000, vW 3] rfl (fun _ => by kernel_rfl)) ?_
  obtain ⟨r0, hr0, hm4⟩ := bs hm
  clear hm
  refine r_sw (s_w (o_call ca7 rfl (store_New.ok (⟨2, 4, 1000, 3⟩ : api_Config) r0 hr0))) ?_
  rintro _ R _ _ ⟨⟨pv2, g3⟩, rfl, rfl, rfl⟩
  refine r_u (o_mv rfl) ?_
  refine r_u (o_ext rfl rfl) ?_
  refine r_u (o_ext rfl rfl) ?_
  refine r_u (o_as rfl) ?_
  refine r_u (o_as rfl) ?_
  refine r_nil ?_
  refine x_seq ?_
  refine c_seq ?_
  refine c_reg ?_
  refine r_u (o_mv rfl) ?_
  refine r_u (o_bin rfl rfl (bW_rem a1 1073741824 (by decide))) ?_
  refine r_u (o_bin rfl rfl (bW_add 1 (a1 % 1073741824))) ?_
  refine r_u (o_as rfl) ?_
  refine r_nil ?_
  refine x_seq ?_
  refine c_seq ?_
  refine cd_opt (fun ho7 => ?_) (fun x5 b6 ho7 => ?_)
  · rintro rfl
    have hm8 := om_n hm4 ho7
    clear hm4
    cases hm8
  · rintro rfl
    have hm8 := om_s hm4 ho7
    clear hm4
    obtain ⟨⟨pv10, g11⟩, ⟨pv13, g14⟩, g15⟩ := g3
    refine cd_st (fun _ h => st_star_o h) ?_
    refine c_reg ?_
    refine r_u (o_mv rfl) ?_
    refine r_u (o_mv rfl) ?_
    refine r_u (o_mv rfl) ?_
    refine r_u (o_bld [vI 2, vS [107], vS [118], vW (1 + (a1 % 1073741824)), vW 0] rfl (fun _ => by kernel_rfl)) ?_
    refine r_u (o_bld [vW 1, vW a0, vW 1, vW 1, vI 2, vS [107], vS [118], vW (1 + (a1 % 1073741824)), vW 0] rfl (fun _ => by kernel_rfl)) ?_
    obtain ⟨r16, hr16, hm25⟩ := bs hm8
    clear hm8
    refine r_sw (s_w (o_call ca9 rfl (store_Store_Apply.ok b6 x5 (⟨(pv10, g11), (pv13, g14), g15⟩ : store_Store.G) (⟨1, a0, 1, 1, (⟨2, [107], [118], 1 + (a1 % 1073741824), 0⟩ : api_Op)⟩ : api_Record) r16 hr16))) ?_
    rintro _ R _ _ ⟨⟨⟨pv19, g20⟩, ⟨pv22, g23⟩, g24⟩, rfl, rfl, rfl⟩
    refine r_u (o_mv rfl) ?_
    refine r_u (o_ext rfl rfl) ?_
    refine r_u (o_ext rfl rfl) ?_
    refine r_new (o_al ze33) fun b26 => ?_
    refine r_u0 (o_stn ag33 rfl rfl rfl rfl rfl rfl rfl) ?_
    refine r_u (o_as rfl) ?_
    refine r_nil ?_
    refine x_seq ?_
    refine c_seq ?_
    refine c_reg ?_
    refine r_u (o_mv rfl) ?_
    refine r_u (o_mv rfl) ?_
    refine r_u (o_bld [vI 1, vS [107], vS [], vW 0, vW 0] rfl (fun _ => by kernel_rfl)) ?_
    refine r_u (o_bld [vW 2, vW a2, vW 1, vW 2, vI 1, vS [107], vS [], vW 0, vW 0] rfl (fun _ => by kernel_rfl)) ?_
    obtain ⟨r27, hr27, hm36⟩ := bs hm25
    clear hm25
    refine rl_st (fun _ h => mv4 (mv4 (mv4 (mv4 h)))) ?_
    refine r_sw (s_w (o_call ca9 rfl (store_Store_Apply.ok b6 r16.2.2 (⟨(pv19, g20), (pv22, g23), g24⟩ : store_Store.G) (⟨2, a2, 1, 2, (⟨1, [107], [], 0, 0⟩ : api_Op)⟩ : api_Record) r27 hr27))) ?_
    rintro _ R _ _ ⟨⟨⟨pv30, g31⟩, ⟨pv33, g34⟩, g35⟩, rfl, rfl, rfl⟩
    refine r_u (o_mv rfl) ?_
    refine r_u (o_ext rfl rfl) ?_
    refine r_u (o_ext rfl rfl) ?_
    refine r_new (o_al ze33) fun b37 => ?_
    refine r_u0 (o_stn ag33 rfl rfl rfl rfl rfl rfl rfl) ?_
    refine r_u (o_as rfl) ?_
    refine r_nil ?_
    refine x_seq ?_
    refine c_seq ?_
    refine c_seq ?_
    refine c_reg ?_
    obtain ⟨r38, hr38, hm39⟩ := bs hm36
    clear hm36
    refine r_u (o_callq ca6 rfl (hawthornlaw12_awake.ok r38 hr38)) ?_
    refine r_u (o_not rfl) ?_
    refine r_u (o_mv rfl) ?_
    refine r_s (s_gf rfl rfl fun g => o_mv rfl) ?_
    refine r_s (s_gf rfl rfl fun g => o_bin (evg rfl g) rfl (bI_ne r0.2 0)) ?_
    refine r_u (o_or rfl rfl) ?_
    refine r_u (o_mv rfl) ?_
    refine r_s (s_gf rfl rfl fun g => o_mv rfl) ?_
    refine r_s (s_gf rfl rfl fun g => o_bin (evg rfl g) rfl (bI_ne r16.2.1 0)) ?_
    refine r_u (o_or rfl rfl) ?_
    refine r_u (o_mv rfl) ?_
    refine r_s (s_gf rfl rfl fun g => o_mv rfl) ?_
    refine r_s (s_gf rfl rfl fun g => o_bin (evg rfl g) rfl (bI_ne r27.2.1 0)) ?_
    refine r_u (o_or rfl rfl) ?_
    refine r_u (o_mv rfl) ?_
    refine r_s (s_gf rfl rfl fun g => o_fa fa33_0 rfl) ?_
    refine r_s (s_gf rfl rfl fun g => o_ld 5 sc25 (evg rfl g) rfl rfl) ?_
    refine r_s (s_gf rfl rfl fun g => o_bin (evg rfl g) rfl (bI_ne r16.1.E 0)) ?_
    refine r_u (o_or rfl rfl) ?_
    refine r_nil ?_
    refine x_seq ?_
    refine c_if (b := ((((!r38 || (r0.2 != 0)) || (r16.2.1 != 0)) || (r27.2.1 != 0)) || (r16.1.E != 0))) rfl (fun h40 => ?_) fun h40 => ?_
    · have hm41 := ift hm39 h40
      clear hm39
      refine c_seq ?_
      refine c_reg ?_
      refine r_u (o_as rfl) ?_
      refine r_nil ?_
      refine x_seq ?_
      refine c_ret ?_
      obtain rfl := Option.some.inj hm41
      refine ex_st (fun _ h => st_pk 6 [] (by decide) h) ?_
      exact x_r1 rfl (rv_t rfl) (Le.refl _) ⟨_, rfl, rfl, rfl, rfl⟩
    · have hm41 := iff_ hm39 h40
      clear hm39
      refine c_skip ?_
      refine x_seq ?_
      refine c_seq ?_
      refine c_reg ?_
      refine r_u (o_as rfl) ?_
      refine r_nil ?_
      refine x_seq ?_
      refine c_seq ?_
      refine c_seq ?_
      refine c_reg ?_
      refine r_u (o_mv rfl) ?_
      refine r_u (o_mv rfl) ?_
      refine r_u (o_bin rfl rfl (bW_gt a2 a0)) ?_
      refine r_nil ?_
      refine x_seq ?_
      obtain ⟨p42, hp43, hm44⟩ := bs hm41
      refine cd_join (E' := [(0, vW a0), (2, vW a2), (9, vW (1 + (a1 % 1073741824))), (12, pt b37 0), (14, vW p42)]) (L' := Bk b37 33 (api_Reply.c r27.1) :: Bk b6 57 [vI r27.2.2.c.Policy, vI r27.2.2.c.Entries, vI r27.2.2.c.Bytes, vW r27.2.2.c.Seed, pv30, pv33, g35, vW r27.2.2.seq, vW r27.2.2.now, vW r27.2.2.version, vI r27.2.2.tally.Asked, vI r27.2.2.tally.Hits] :: Bk b26 33 (api_Reply.c r16.1) :: rO (table_Table.op g31) pv30 r27.2.2.t :: rO (policy_Policy.op g34) pv33 r27.2.2.p :: OwM vW store_last.v g35 r27.2.2.sessions :: F) ?_ fun K45 => ?_
      · refine x_seq ?_
        refine c_seq ?_
        refine c_reg ?_
        refine r_u (o_mv rfl) ?_
        refine r_u (o_mv rfl) ?_
        refine r_u (o_bin rfl rfl (bW_lt p42 (1 + (a1 % 1073741824)))) ?_
        refine r_u (o_mv rfl) ?_
        refine r_s (s_gt rfl rfl fun g => o_mv rfl) ?_
        refine r_s (s_gt rfl rfl fun g => o_bin (evg rfl g) rfl (bW_lt a2 18446744073709551615)) ?_
        refine r_s (s_gt rfl rfl fun g => o_mv (evg rfl g)) ?_
        refine r_s (s_ggf rfl rfl fun g => o_mv rfl) ?_
        refine r_s (s_ggf rfl rfl fun g => o_bin (evg rfl g) rfl (bW_eq a0 18446744073709551615)) ?_
        refine r_s (s_gt rfl rfl fun g => o_or (evg rfl g) (evg2 rfl g)) ?_
        refine r_u (o_and rfl rfl) ?_
        refine r_u (o_as rfl) ?_
        refine r_nil ?_
        refine x_seq ?_
        refine c_seq ?_
        refine c_reg ?_
        refine r_u (o_fa fa33_0 rfl) ?_
        refine r_u (o_ld 0 sc25 rfl rfl rfl) ?_
        refine r_u (o_bin rfl rfl (bI_eq r27.1.E 0)) ?_
        refine r_u (o_mv rfl) ?_
        refine r_u (o_bin rfl rfl (bB_eq Try.underlying4 (r27.1.E == 0) (decide (p42 < (1 + (a1 % 1073741824))) && (decide (a2 < 18446744073709551615) || (a0 == 18446744073709551615))))) ?_
        refine r_u (o_mv rfl) ?_
        refine r_s (s_gt rfl rfl fun g => o_fa fa33_0 rfl) ?_
        refine r_s (s_gt rfl rfl fun g => o_ld 0 sc25 (evg rfl g) rfl rfl) ?_
        refine r_s (s_gt rfl rfl fun g => o_bin (evg rfl g) rfl (bI_eq r27.1.E 0)) ?_
        refine r_s (s_gt rfl rfl fun g => o_mv (evg rfl g)) ?_
        refine r_s (s_ggf rfl rfl fun g => o_fa fa33_0 rfl) ?_
        refine r_s (s_ggf rfl rfl fun g => o_ld 0 sc25 (evg rfl g) rfl rfl) ?_
        refine r_s (s_ggf rfl rfl fun g => o_bin (evg rfl g) rfl (bI_eq r27.1.E 2)) ?_
        refine r_s (s_gt rfl rfl fun g => o_or (evg rfl g) (evg2 rfl g)) ?_
        refine r_u (o_and rfl rfl) ?_
        refine r_u (o_as rfl) ?_
        refine r_nil ?_
        refine x_seq ?_
        refine c_ret ?_
        obtain rfl := Option.some.inj hm44
        refine ex_st (fun _ h => st_pk 6 [] (by decide) h) ?_
        exact x_r1 rfl (rv_t rfl) (Le.refl _) ⟨_, rfl, rfl, rfl, rfl⟩
      · refine c_if (b := decide (a0 < a2)) rfl (fun h46 => ?_) fun h46 => ?_
        · have hm47 := ift hp43 h46
          clear hp43
          refine c_reg ?_
          refine r_u (o_mv rfl) ?_
          refine r_u (o_mv rfl) ?_
          refine r_u (o_bin rfl rfl (bW_sub a2 a0)) ?_
          refine r_u (o_as rfl) ?_
          refine r_nil ?_
          obtain rfl := Option.some.inj hm47
          exact x_sub K45 ⟨rfl, rfl, rfl, rfl, rfl, trivial⟩ (fun _ h => st_pk 6 [0, 1, 5, 2, 3, 4] (by decide) h)
        · have hm47 := iff_ hp43 h46
          clear hp43
          refine c_skip ?_
          obtain rfl := Option.some.inj hm47
          exact x_sub K45 ⟨rfl, rfl, rfl, rfl, rfl, trivial⟩ (fun _ h => st_pk 6 [0, 1, 5, 2, 3, 4] (by decide) h)

def hawthornlaw12_StoreSessions_l0 (a0 : Int) (a1 : Str) : Nat → (Option store_Store) → Int → Option ((Option store_Store) ⊕ Bool)
  | 0, _, _ => none
  | k44 + 1, s_39, i_40 => if decide (i_40 < (i64 (62 + (iand a0 3)))) then om s_39 (none) fun x49 => (store_Store_Apply x49 (⟨toW (i64 (i_40 + 1)), 0, toW i_40, 1, (⟨2, a1, [118], 0, 0⟩ : api_Op)⟩ : api_Record)).bind fun r60 => if (((r60.2.1 != 0) || ((r60.1.E == 0) != (decide (i_40 < 64)))) || ((r60.1.E != 0) && (r60.1.E != 3))) then some (Sum.inr false) else hawthornlaw12_StoreSessions_l0 a0 a1 k44 (some r60.2.2) (i64 (i_40 + 1)) else some (Sum.inl s_39)
def hawthornlaw12_StoreSessions (a0 : Int) (a1 : Str) : Option Bool :=
  if (decide ((a1.length : Int) < 1) || decide (64 < (a1.length : Int))) then (hawthornlaw12_awake).bind fun r2 => some r2 else (store_New (⟨1, 4, 1000, 0⟩ : api_Config)).bind fun r4 => (hawthornlaw12_awake).bind fun r9 => if (!r9 || (r4.2 != 0)) then some false else Option.bind (hawthornlaw12_StoreSessions_l0 a0 a1 (((i64 (62 + (iand a0 3))) - 0).toNat + 1) r4.1 0) fun (p13 : (Option store_Store) ⊕ Bool) => (match p13 with | Sum.inl q14 => om q14 (none) fun x21 => (store_Store_Entries x21).bind fun r32 => if ((r32.length : Int) == 1) then (gi r32 0).bind fun x37 => some (x37.Version == (toW (if 64 < (i64 (62 + (iand a0 3))) then 64 else i64 (62 + (iand a0 3))))) else some false | Sum.inr r => some r)
theorem hawthornlaw12_StoreSessions.ok {G R F} (a0 : Int) (a1 : Str) (r : Bool) (hm : hawthornlaw12_StoreSessions a0 a1 = some r) : CO Try.prog 5 [vI a0, vS a1] G R (F)
    (Ret fun u R' L' => u = vB r ∧ R' = R ∧ L' = F) := by
  unfold hawthornlaw12_StoreSessions at hm
  refine co_ofN (N := 88) Try.func5 rfl rfl ?_
  refine c_seq ?_
  refine c_reg ?_
  refine r_u (o_as rfl) ?_
  refine r_nil ?_
  refine x_seq ?_
  refine c_seq ?_
  refine c_seq ?_
  refine c_reg ?_
  refine r_u (o_mv rfl) ?_
  refine r_u (o_lenS Try.underlying9 rfl) ?_
  refine r_u (o_bin rfl rfl (bI_lt (a1.length : Int) 1)) ?_
  refine r_u (o_mv rfl) ?_
  refine r_s (s_gf rfl rfl fun g => o_mv rfl) ?_
  refine r_s (s_gf rfl rfl fun g => o_lenS Try.underlying9 (evg rfl g)) ?_
  refine r_s (s_gf rfl rfl fun g => o_bin (evg rfl g) rfl (bI_gt (a1.length : Int) 64)) ?_
  refine r_u (o_or rfl rfl) ?_
  refine r_nil ?_
  refine x_seq ?_
  refine c_if (b := (decide ((a1.length : Int) < 1) || decide (64 < (a1.length : Int)))) rfl (fun h0 => ?_) fun h0 => ?_
  · have hm1 := ift hm h0
    clear hm
    refine c_seq ?_
    refine c_reg ?_
    obtain ⟨r2, hr2, hm3⟩ := bs hm1
    clear hm1
    refine r_u (o_callq ca6 rfl (hawthornlaw12_awake.ok r2 hr2)) ?_
    refine r_u (o_as rfl) ?_
    refine r_nil ?_
    refine x_seq ?_
    refine c_ret ?_
    obtain rfl := Option.some.inj hm3
    exact x_r1 rfl (rv_t rfl) (Le.refl _) ⟨_, rfl, rfl, rfl, rfl⟩
  · have hm1 := iff_ hm h0
    clear hm
    refine c_skip ?_
    refine x_seq ?_
    refine c_seq ?_
    refine c_reg ?_
    refine r_u (o_bld [vI 1, vI 4, vI 1000, vW 0] rfl (fun _ => by kernel_rfl)) ?_
    obtain ⟨r4, hr4, hm8⟩ := bs hm1
    clear hm1
    refine r_sw (s_w (o_call ca7 rfl (store_New.ok (⟨1, 4, 1000, 0⟩ : api_Config) r4 hr4))) ?_
    rintro _ R _ _ ⟨⟨pv6, g7⟩, rfl, rfl, rfl⟩
    refine r_u (o_mv rfl) ?_
    refine r_u (o_ext rfl rfl) ?_
    refine r_u (o_ext rfl rfl) ?_
    refine r_u (o_as rfl) ?_
    refine r_u (o_as rfl) ?_
    refine r_nil ?_
    refine x_seq ?_
    refine c_seq ?_
    refine c_seq ?_
    refine c_reg ?_
    obtain ⟨r9, hr9, hm10⟩ := bs hm8
    clear hm8
    refine r_u (o_callq ca6 rfl (hawthornlaw12_awake.ok r9 hr9)) ?_
    refine r_u (o_not rfl) ?_
    refine r_u (o_mv rfl) ?_
    refine r_s (s_gf rfl rfl fun g => o_mv rfl) ?_
    refine r_s (s_gf rfl rfl fun g => o_bin (evg rfl g) rfl (bI_ne r4.2 0)) ?_
    refine r_u (o_or rfl rfl) ?_
    refine r_nil ?_
    refine x_seq ?_
    refine c_if (b := (!r9 || (r4.2 != 0))) rfl (fun h11 => ?_) fun h11 => ?_
    · have hm12 := ift hm10 h11
      clear hm10
      refine c_seq ?_
      refine c_reg ?_
      refine r_u (o_as rfl) ?_
      refine r_nil ?_
      refine x_seq ?_
      refine c_ret ?_
      obtain rfl := Option.some.inj hm12
      refine ex_st (fun _ h => st_pk 1 [] (by decide) h) ?_
      exact x_r1 rfl (rv_t rfl) (Le.refl _) ⟨_, rfl, rfl, rfl, rfl⟩
    · have hm12 := iff_ hm10 h11
      clear hm10
      refine c_skip ?_
      refine x_seq ?_
      refine c_seq ?_
      refine c_reg ?_
      refine r_u (o_mv rfl) ?_
      refine r_u (o_bin rfl rfl (bI_and a0 3)) ?_
      refine r_u (o_bin rfl rfl (bI_add 62 (iand a0 3))) ?_
      refine r_u (o_as rfl) ?_
      refine r_nil ?_
      refine x_seq ?_
      refine c_seq ?_
      refine c_seq ?_
      refine c_reg ?_
      refine r_u (o_as rfl) ?_
      refine r_nil ?_
      refine x_seq ?_
      obtain ⟨p13, hp18, hm19⟩ := bs hm12
      refine cd_cut (fun x ks => ∀ (q14 : Option store_Store), ∀ (_ : p13 = Sum.inl q14), ∀ (pv15 : Value × store_Store.G), EX x .normal ks [(7, vI (i64 (62 + (iand a0 3)))), (5, pv15.1)] R (rO (store_Store.op pv15.2) pv15.1 q14 :: F)) ?_ fun K20 => ?_
      · intro q14 hq pv15
        subst hq
        try dsimp only at hm19
        obtain ⟨pv16, g17⟩ := pv15
        refine x_seq ?_
        refine c_seq ?_
        refine cd_opt (fun ho23 => ?_) (fun x21 b22 ho23 => ?_)
        · rintro rfl
          have hm24 := om_n hm19 ho23
          clear hm19
          cases hm24
        · rintro rfl
          have hm24 := om_s hm19 ho23
          clear hm19
          obtain ⟨⟨pv26, g27⟩, ⟨pv29, g30⟩, g31⟩ := g17
          refine cd_st (fun _ h => st_star_o h) ?_
          refine c_reg ?_
          refine r_u (o_mv rfl) ?_
          obtain ⟨r32, hr32, hm34⟩ := bs hm24
          clear hm24
          refine r_sw (s_w (o_call ca10 rfl (store_Store_Entries.ok b22 x21 (⟨(pv26, g27), (pv29, g30), g31⟩ : store_Store.G) r32 hr32))) ?_
          rintro v33 R _ _ ⟨_, rfl, rfl, rfl⟩
          refine r_u (o_as rfl) ?_
          refine r_nil ?_
          refine x_seq ?_
          refine c_seq ?_
          refine cd_by ((r32.length : Int) == 1) (fun h35 => ?_) fun h35 => ?_
          · have hm36 := ift hm34 h35
            clear hm34
            refine c_reg ?_
            refine r_u (o_mv rfl) ?_
            refine r_u (o_lenO 0 Try.underlying41 rfl rfl) ?_
            refine r_u (o_bin rfl rfl (bI_eq (r32.length : Int) 1)) ?_
            refine r_u (o_mv rfl) ?_
            refine r_s (s_y rfl rfl h35 (o_mv rfl)) ?_
            obtain ⟨x37, hx37, hm38⟩ := bs hm36
            clear hm36
            refine r_s (s_y rfl rfl h35 (o_ixO 0 Try.underlying41 (fun _ => by kernel_rfl) rfl rfl rfl hx37)) ?_
            refine r_s (s_y rfl rfl h35 (o_fa fa44_2 rfl)) ?_
            refine r_s (s_y rfl rfl h35 (o_ldO 0 2 sc22 rfl rfl hx37 rfl rfl)) ?_
            refine r_s (s_y rfl rfl h35 (o_mv rfl)) ?_
            refine r_s (s_y rfl rfl h35 (o_minI rfl rfl)) ?_
            refine r_s (s_y rfl rfl h35 (o_cv rfl (cIW Try.underlying3 Try.underlying22 (if 64 < (i64 (62 + (iand a0 3))) then 64 else i64 (62 + (iand a0 3)))))) ?_
            refine r_s (s_y rfl rfl h35 (o_bin rfl rfl (bW_eq x37.Version (toW (if 64 < (i64 (62 + (iand a0 3))) then 64 else i64 (62 + (iand a0 3))))))) ?_
            refine r_u (o_pt rfl h35 rfl) ?_
            refine r_u (o_as rfl) ?_
            refine r_nil ?_
            refine x_seq ?_
            refine c_ret ?_
            obtain rfl := Option.some.inj hm38
            refine ex_st (fun _ h => st_pk 5 [] (by decide) h) ?_
            exact x_r1 rfl (rv_t rfl) (Le.refl _) ⟨_, rfl, rfl, rfl, rfl⟩
          · have hm36 := iff_ hm34 h35
            clear hm34
            refine c_reg ?_
            refine r_u (o_mv rfl) ?_
            refine r_u (o_lenO 0 Try.underlying41 rfl rfl) ?_
            refine r_u (o_bin rfl rfl (bI_eq (r32.length : Int) 1)) ?_
            refine r_u (o_mv rfl) ?_
            refine r_s (s_n rfl rfl h35) ?_
            refine r_s (s_n rfl rfl h35) ?_
            refine r_s (s_n rfl rfl h35) ?_
            refine r_s (s_n rfl rfl h35) ?_
            refine r_s (s_n rfl rfl h35) ?_
            refine r_s (s_n rfl rfl h35) ?_
            refine r_s (s_n rfl rfl h35) ?_
            refine r_s (s_n rfl rfl h35) ?_
            refine r_u (o_pf rfl h35 rfl) ?_
            refine r_u (o_as rfl) ?_
            refine r_nil ?_
            refine x_seq ?_
            refine c_ret ?_
            obtain rfl := Option.some.inj hm36
            refine ex_st (fun _ h => st_pk 5 [] (by decide) h) ?_
            exact x_r1 rfl (rv_t rfl) (Le.refl _) ⟨_, rfl, rfl, rfl, rfl⟩
      · refine c_blk ?_
        refine cd_loopG (M := fun k44 (s : Option store_Store × Int × (Value × store_Store.G)) => hawthornlaw12_StoreSessions_l0 a0 a1 k44 s.1 s.2.1 = some p13) (Ef := fun (s : Option store_Store × Int × (Value × store_Store.G)) => [(1, vS a1), (7, vI (i64 (62 + (iand a0 3)))), (5, s.2.2.1), (8, vI s.2.1)]) (Rf := fun (s : Option store_Store × Int × (Value × store_Store.G)) => R) (Lf := fun (s : Option store_Store × Int × (Value × store_Store.G)) => rO (store_Store.op s.2.2.2) s.2.2.1 s.1 :: F) (((i64 (62 + (iand a0 3))) - 0).toNat + 1) (r4.1, 0, (pv6, g7)) hp18 ⟨rfl, rfl, rfl, rfl, trivial⟩ (fun _ h => st_pk 1 [0] (by decide) h) (fun _ h => by cases h) fun k44 s hM46 => ?_
        obtain ⟨s_39, i_40, pv41⟩ := s
        have hm45 : hawthornlaw12_StoreSessions_l0 a0 a1 (k44 + 1) s_39 i_40 = some p13 := hM46
        rw [hawthornlaw12_StoreSessions_l0] at hm45
        obtain ⟨pv42, g43⟩ := pv41
        refine c_seq ?_
        refine c_seq ?_
        refine c_reg ?_
        refine r_u (o_mv rfl) ?_
        refine r_u (o_mv rfl) ?_
        refine r_u (o_bin rfl rfl (bI_lt i_40 (i64 (62 + (iand a0 3))))) ?_
        refine r_nil ?_
        refine x_seq ?_
        refine c_if (b := decide (i_40 < (i64 (62 + (iand a0 3))))) rfl (fun h47 => ?_) fun h47 => ?_
        · have hm48 := ift hm45 h47
          clear hm45
          refine c_skip ?_
          refine x_seq ?_
          refine c_seq ?_
          refine c_blk ?_
          refine c_seq ?_
          refine cd_opt (fun ho51 => ?_) (fun x49 b50 ho51 => ?_)
          · rintro rfl
            have hm52 := om_n hm48 ho51
            clear hm48
            cases hm52
          · rintro rfl
            have hm52 := om_s hm48 ho51
            clear hm48
            obtain ⟨⟨pv54, g55⟩, ⟨pv57, g58⟩, g59⟩ := g43
            refine cd_st (fun _ h => st_star_o h) ?_
            refine c_reg ?_
            refine r_u (o_mv rfl) ?_
            refine r_u (o_mv rfl) ?_
            refine r_u (o_bin rfl rfl (bI_add i_40 1)) ?_
            refine r_u (o_cv rfl (cIW Try.underlying3 Try.underlying22 (i64 (i_40 + 1)))) ?_
            refine r_u (o_mv rfl) ?_
            refine r_u (o_cv rfl (cIW Try.underlying3 Try.underlying22 i_40)) ?_
            refine r_u (o_mv rfl) ?_
            refine r_u (o_bld [vI 2, vS a1, vS [118], vW 0, vW 0] rfl (fun _ => by kernel_rfl)) ?_
            refine r_u (o_bld [vW (toW (i64 (i_40 + 1))), vW 0, vW (toW i_40), vW 1, vI 2, vS a1, vS [118], vW 0, vW 0] rfl (fun _ => by kernel_rfl)) ?_
            obtain ⟨r60, hr60, hm69⟩ := bs hm52
            clear hm52
            refine r_sw (s_w (o_call ca9 rfl (store_Store_Apply.ok b50 x49 (⟨(pv54, g55), (pv57, g58), g59⟩ : store_Store.G) (⟨toW (i64 (i_40 + 1)), 0, toW i_40, 1, (⟨2, a1, [118], 0, 0⟩ : api_Op)⟩ : api_Record) r60 hr60))) ?_
            rintro _ R _ _ ⟨⟨⟨pv63, g64⟩, ⟨pv66, g67⟩, g68⟩, rfl, rfl, rfl⟩
            refine r_u (o_mv rfl) ?_
            refine r_u (o_ext rfl rfl) ?_
            refine r_u (o_ext rfl rfl) ?_
            refine r_new (o_al ze33) fun b70 => ?_
            refine r_u0 (o_stn ag33 rfl rfl rfl rfl rfl rfl rfl) ?_
            refine r_u (o_as rfl) ?_
            refine r_nil ?_
            refine x_seq ?_
            refine c_seq ?_
            refine c_reg ?_
            refine r_u (o_mv rfl) ?_
            refine r_u (o_bin rfl rfl (bI_ne r60.2.1 0)) ?_
            refine r_u (o_mv rfl) ?_
            refine r_s (s_gf rfl rfl fun g => o_fa fa33_0 rfl) ?_
            refine r_s (s_gf rfl rfl fun g => o_ld 0 sc25 (evg rfl g) rfl rfl) ?_
            refine r_s (s_gf rfl rfl fun g => o_bin (evg rfl g) rfl (bI_eq r60.1.E 0)) ?_
            refine r_s (s_gf rfl rfl fun g => o_mv rfl) ?_
            refine r_s (s_gf rfl rfl fun g => o_bin (evg rfl g) rfl (bI_lt i_40 64)) ?_
            refine r_s (s_gf rfl rfl fun g => o_bin (evg rfl g) (evg rfl g) (bB_ne Try.underlying4 (r60.1.E == 0) (decide (i_40 < 64)))) ?_
            refine r_u (o_or rfl rfl) ?_
            refine r_u (o_mv rfl) ?_
            refine r_s (s_gf rfl rfl fun g => o_fa fa33_0 rfl) ?_
            refine r_s (s_gf rfl rfl fun g => o_ld 0 sc25 (evg rfl g) rfl rfl) ?_
            refine r_s (s_gf rfl rfl fun g => o_bin (evg rfl g) rfl (bI_ne r60.1.E 0)) ?_
            refine r_s (s_gf rfl rfl fun g => o_mv (evg rfl g)) ?_
            refine r_s (s_ggt rfl rfl fun g => o_fa fa33_0 rfl) ?_
            refine r_s (s_ggt rfl rfl fun g => o_ld 0 sc25 (evg rfl g) rfl rfl) ?_
            refine r_s (s_ggt rfl rfl fun g => o_bin (evg rfl g) rfl (bI_ne r60.1.E 3)) ?_
            refine r_s (s_gf rfl rfl fun g => o_and (evg rfl g) (evg2 rfl g)) ?_
            refine r_u (o_or rfl rfl) ?_
            refine r_nil ?_
            refine x_seq ?_
            refine c_if (b := (((r60.2.1 != 0) || ((r60.1.E == 0) != (decide (i_40 < 64)))) || ((r60.1.E != 0) && (r60.1.E != 3)))) rfl (fun h71 => ?_) fun h71 => ?_
            · have hm72 := ift hm69 h71
              clear hm69
              refine c_seq ?_
              refine c_reg ?_
              refine r_u (o_as rfl) ?_
              refine r_nil ?_
              refine x_seq ?_
              refine c_ret ?_
              obtain rfl := Option.some.inj hm72
              try dsimp only at hm19
              obtain rfl := Option.some.inj hm19
              refine ex_st (fun _ h => st_pk 5 [] (by decide) h) ?_
              exact x_r1 rfl (rv_t rfl) (Le.refl _) ⟨_, rfl, rfl, rfl, rfl⟩
            · have hm72 := iff_ hm69 h71
              clear hm69
              refine c_skip ?_
              refine x_blk ?_
              refine x_seq ?_
              refine c_reg ?_
              refine r_u (o_mv rfl) ?_
              refine r_u (o_bin rfl rfl (bI_add i_40 1)) ?_
              refine r_u (o_as rfl) ?_
              refine r_nil ?_
              refine ex_st (fun _ h => mv4 (mv4 (mv4 (mv4 h)))) ?_
              refine ex_st (fun _ h => st_some (f := store_Store.op (⟨(pv63, g64), (pv66, g67), g68⟩ : store_Store.G)) (a := r60.2.2) (st_star_f (A := store_Store.fl b50 r60.2.2 (⟨(pv63, g64), (pv66, g67), g68⟩ : store_Store.G)) h)) ?_
              exact x_lp ((some r60.2.2), i64 (i_40 + 1), (pt b50 0, (⟨(pv63, g64), (pv66, g67), g68⟩ : store_Store.G))) hm72 ⟨rfl, rfl, rfl, rfl, trivial⟩ (fun _ h => st_pk 2 [0] (by decide) h)
        · have hm48 := iff_ hm45 h47
          clear hm45
          refine c_exit (x_exit (ks' := _) rfl ?_)
          obtain rfl := Option.some.inj hm48
          exact x_sub (K20 _ rfl (pv42, g43)) ⟨rfl, rfl, trivial⟩ (fun _ h => st_pk 1 [0] (by decide) h)

def hawthornlaw12_StoreCas_1 (a0 : UInt64) (a1 : api_Op) (a2 : Option store_Store) : Option (api_Reply × Int × Option store_Store) :=
  om a2 (none) fun x4 => (store_Store_Apply x4 (⟨a0, 0, 1, a0, a1⟩ : api_Record)).bind fun r15 => some (r15.1, r15.2.1, (some r15.2.2))
theorem hawthornlaw12_StoreCas_1.ok {G R F} (a0 : UInt64) (a1 : api_Op) (b2_ : Nat) (a2 : Option store_Store) (g2_ : Value × store_Store.G) (r : api_Reply × Int × Option store_Store) (hm : hawthornlaw12_StoreCas_1 a0 a1 a2 = some r) : CO Try.prog 8 [vW a0, .agg (api_Op.c a1).toArray, pt b2_ 0] G R (Bk b2_ 24 [g2_.1] :: rO (store_Store.op g2_.2) g2_.1 a2 :: F)
    (Ret fun u R' L' => ∃ (q0 : Value × store_Store.G), u = .tuple #[.agg (api_Reply.c r.1).toArray, vI r.2.1] ∧ R' = R ∧ L' = Bk b2_ 24 [q0.1] :: rO (store_Store.op q0.2) q0.1 r.2.2 :: F) := by
  obtain ⟨pv0, g1⟩ := g2_
  unfold hawthornlaw12_StoreCas_1 at hm
  refine co_ofN (N := 15) Try.func8 rfl rfl ?_
  refine c_seq ?_
  refine c_reg ?_
  refine r_new (o_bx (api_Op.c a1) rfl rfl) fun b2 => ?_
  refine r_new (o_al ze33) fun b3 => ?_
  refine r_u (o_as rfl) ?_
  refine r_nil ?_
  refine x_seq ?_
  refine c_seq ?_
  refine cd_st (fun _ h => mv3 h) ?_
  refine cd_opt (fun ho6 => ?_) (fun x4 b5 ho6 => ?_)
  · rintro rfl
    have hm7 := om_n hm ho6
    clear hm
    cases hm7
  · rintro rfl
    have hm7 := om_s hm ho6
    clear hm
    obtain ⟨⟨pv9, g10⟩, ⟨pv12, g13⟩, g14⟩ := g1
    refine cd_st (fun _ h => st_star_o h) ?_
    refine c_reg ?_
    refine r_u (o_ld 6 sc24 rfl rfl rfl) ?_
    refine r_u (o_mv rfl) ?_
    refine r_u (o_mv rfl) ?_
    refine r_u (o_ldn 5 (api_Op.c a1) ag31 rfl rfl rfl rfl) ?_
    refine r_u (o_bld [vW a0, vW 0, vW 1, vW a0, vI a1.Kind, vS a1.Key, vS a1.Value, vW a1.TTL, vW a1.Version] rfl (fun _ => by kernel_rfl)) ?_
    obtain ⟨r15, hr15, hm24⟩ := bs hm7
    clear hm7
    refine r_sw (s_w (o_call ca9 rfl (store_Store_Apply.ok b5 x4 (⟨(pv9, g10), (pv12, g13), g14⟩ : store_Store.G) (⟨a0, 0, 1, a0, a1⟩ : api_Record) r15 hr15))) ?_
    rintro _ R _ _ ⟨⟨⟨pv18, g19⟩, ⟨pv21, g22⟩, g23⟩, rfl, rfl, rfl⟩
    refine r_u (o_ext rfl rfl) ?_
    refine r_u (o_ext rfl rfl) ?_
    refine rl_st (fun _ h => mv4 h) ?_
    refine r_u0 (o_stn ag33 rfl rfl rfl rfl rfl rfl rfl) ?_
    refine r_u (o_as rfl) ?_
    refine r_nil ?_
    refine x_seq ?_
    refine c_ret ?_
    refine ex_st (fun _ h => mv4 (mv4 (mv4 (mv4 h)))) ?_
    refine ex_st (fun _ h => st_some (f := store_Store.op (⟨(pv18, g19), (pv21, g22), g23⟩ : store_Store.G)) (a := r15.2.2) (st_star_f (A := store_Store.fl b5 r15.2.2 (⟨(pv18, g19), (pv21, g22), g23⟩ : store_Store.G)) h)) ?_
    obtain rfl := Option.some.inj hm24
    exact x_d2 rfl (rv_n 1 (api_Reply.c r15.1) ag33 rfl rfl rfl rfl) (rv_t rfl) (fun _ h => st_pk 4 [3, 0] (by decide) h) (Le.refl _) ⟨_, rfl, (pt b5 0, (⟨(pv18, g19), (pv21, g22), g23⟩ : store_Store.G)), rfl, rfl, rfl⟩

def hawthornlaw12_StoreCas (a0 : Str) (a1 : Str) (a2 : UInt64) : Option Bool :=
  if (decide (100 < (a0.length : Int)) || decide (100 < (a1.length : Int))) then (hawthornlaw12_awake).bind fun r2 => some r2 else (store_New (⟨1, 4, 1000, 0⟩ : api_Config)).bind fun r4 => (hawthornlaw12_StoreCas_1 1 (⟨2, [107], a0, 0, 0⟩ : api_Op) r4.1).bind fun r10 => (hawthornlaw12_StoreCas_1 2 (⟨4, [107], a1, 0, 1 + (a2 &&& 3)⟩ : api_Op) r10.2.2).bind fun r16 => (hawthornlaw12_StoreCas_1 3 (⟨4, [107], a0, 0, 1⟩ : api_Op) r16.2.2).bind fun r22 => (hawthornlaw12_StoreCas_1 4 (⟨1, [107], [], 0, 0⟩ : api_Op) r22.2.2).bind fun r28 => (hawthornlaw12_awake).bind fun r34 => if ((((((!r34 || (r4.2 != 0)) || (r10.2.1 != 0)) || (r16.2.1 != 0)) || (r22.2.1 != 0)) || (r28.2.1 != 0)) || (r10.1.Version != 1)) then some false else if ((1 + (a2 &&& 3)) == 1) then some ((((((r16.1.E == 0) && (r16.1.Version == 2)) && (r22.1.E == 121)) && (r22.1.Version == 2)) && (r28.1.Value == a1)) && (r28.1.Version == 2)) else some (((((r16.1.E == 121) && (r16.1.Version == 1)) && (r22.1.E == 0)) && (r22.1.Version == 2)) && (r28.1.Value == a0))
theorem hawthornlaw12_StoreCas.ok {G R F} (a0 : Str) (a1 : Str) (a2 : UInt64) (r : Bool) (hm : hawthornlaw12_StoreCas a0 a1 a2 = some r) : CO Try.prog 3 [vS a0, vS a1, vW a2] G R (F)
    (Ret fun u R' L' => u = vB r ∧ R' = R ∧ L' = F) := by
  unfold hawthornlaw12_StoreCas at hm
  refine co_ofN (N := 147) Try.func3 rfl rfl ?_
  refine c_seq ?_
  refine c_reg ?_
  refine r_u (o_as rfl) ?_
  refine r_nil ?_
  refine x_seq ?_
  refine c_seq ?_
  refine c_seq ?_
  refine c_reg ?_
  refine r_u (o_mv rfl) ?_
  refine r_u (o_lenS Try.underlying9 rfl) ?_
  refine r_u (o_bin rfl rfl (bI_gt (a0.length : Int) 100)) ?_
  refine r_u (o_mv rfl) ?_
  refine r_s (s_gf rfl rfl fun g => o_mv rfl) ?_
  refine r_s (s_gf rfl rfl fun g => o_lenS Try.underlying9 (evg rfl g)) ?_
  refine r_s (s_gf rfl rfl fun g => o_bin (evg rfl g) rfl (bI_gt (a1.length : Int) 100)) ?_
  refine r_u (o_or rfl rfl) ?_
  refine r_nil ?_
  refine x_seq ?_
  refine c_if (b := (decide (100 < (a0.length : Int)) || decide (100 < (a1.length : Int)))) rfl (fun h0 => ?_) fun h0 => ?_
  · have hm1 := ift hm h0
    clear hm
    refine c_seq ?_
    refine c_reg ?_
    obtain ⟨r2, hr2, hm3⟩ := bs hm1
    clear hm1
    refine r_u (o_callq ca6 rfl (hawthornlaw12_awake.ok r2 hr2)) ?_
    refine r_u (o_as rfl) ?_
    refine r_nil ?_
    refine x_seq ?_
    refine c_ret ?_
    obtain rfl := Option.some.inj hm3
    exact x_r1 rfl (rv_t rfl) (Le.refl _) ⟨_, rfl, rfl, rfl, rfl⟩
  · have hm1 := iff_ hm h0
    clear hm
    refine c_skip ?_
    refine x_seq ?_
    refine c_seq ?_
    refine c_reg ?_
    refine r_u (o_bld [vI 1, vI 4, vI 1000, vW 0] rfl (fun _ => by kernel_rfl)) ?_
    obtain ⟨r4, hr4, hm8⟩ := bs hm1
    clear hm1
    refine r_sw (s_w (o_call ca7 rfl (store_New.ok (⟨1, 4, 1000, 0⟩ : api_Config) r4 hr4))) ?_
    rintro _ R _ _ ⟨⟨pv6, g7⟩, rfl, rfl, rfl⟩
    refine r_u (o_mv rfl) ?_
    refine r_u (o_ext rfl rfl) ?_
    refine r_u (o_ext rfl rfl) ?_
    refine r_new (o_al ze24) fun b9 => ?_
    refine r_u0 (ou_if (one_p 1 rfl) fun ho0 => o_st sc24 rfl rfl rfl ho0 rfl rfl) ?_
    refine r_u (o_as rfl) ?_
    refine r_nil ?_
    refine x_seq ?_
    refine c_seq ?_
    refine c_reg ?_
    refine r_u (o_mf rfl) ?_
    refine r_u (o_as rfl) ?_
    refine r_nil ?_
    refine x_seq ?_
    refine c_seq ?_
    refine c_reg ?_
    refine r_u (o_mv rfl) ?_
    refine r_u (o_mv rfl) ?_
    refine r_u (o_bld [vI 2, vS [107], vS a0, vW 0, vW 0] rfl (fun _ => by kernel_rfl)) ?_
    obtain ⟨r10, hr10, hm14⟩ := bs hm8
    clear hm8
    refine r_sw (s_w (o_callC rfl ca8 rfl (hawthornlaw12_StoreCas_1.ok 1 (⟨2, [107], a0, 0, 0⟩ : api_Op) b9 r4.1 (pv6, g7) r10 hr10))) ?_
    rintro _ R _ _ ⟨⟨pv12, g13⟩, rfl, rfl, rfl⟩
    refine r_u (o_mv rfl) ?_
    refine r_u (o_ext rfl rfl) ?_
    refine r_u (o_ext rfl rfl) ?_
    refine r_new (o_al ze33) fun b15 => ?_
    refine r_u0 (o_stn ag33 rfl rfl rfl rfl rfl rfl rfl) ?_
    refine r_u (o_as rfl) ?_
    refine r_nil ?_
    refine x_seq ?_
    refine c_seq ?_
    refine c_reg ?_
    refine r_u (o_mv rfl) ?_
    refine r_u (o_bin rfl rfl (bW_and a2 3)) ?_
    refine r_u (o_bin rfl rfl (bW_add 1 (a2 &&& 3))) ?_
    refine r_u (o_as rfl) ?_
    refine r_nil ?_
    refine x_seq ?_
    refine c_seq ?_
    refine c_reg ?_
    refine r_u (o_mv rfl) ?_
    refine r_u (o_mv rfl) ?_
    refine r_u (o_mv rfl) ?_
    refine r_u (o_bld [vI 4, vS [107], vS a1, vW 0, vW (1 + (a2 &&& 3))] rfl (fun _ => by kernel_rfl)) ?_
    obtain ⟨r16, hr16, hm20⟩ := bs hm14
    clear hm14
    refine rl_st (fun _ h => mv2 (mv2 h)) ?_
    refine r_sw (s_w (o_callC rfl ca8 rfl (hawthornlaw12_StoreCas_1.ok 2 (⟨4, [107], a1, 0, 1 + (a2 &&& 3)⟩ : api_Op) b9 r10.2.2 (pv12, g13) r16 hr16))) ?_
    rintro _ R _ _ ⟨⟨pv18, g19⟩, rfl, rfl, rfl⟩
    refine r_u (o_mv rfl) ?_
    refine r_u (o_ext rfl rfl) ?_
    refine r_u (o_ext rfl rfl) ?_
    refine r_new (o_al ze33) fun b21 => ?_
    refine r_u0 (o_stn ag33 rfl rfl rfl rfl rfl rfl rfl) ?_
    refine r_u (o_as rfl) ?_
    refine r_nil ?_
    refine x_seq ?_
    refine c_seq ?_
    refine c_reg ?_
    refine r_u (o_mv rfl) ?_
    refine r_u (o_mv rfl) ?_
    refine r_u (o_bld [vI 4, vS [107], vS a0, vW 0, vW 1] rfl (fun _ => by kernel_rfl)) ?_
    obtain ⟨r22, hr22, hm26⟩ := bs hm20
    clear hm20
    refine rl_st (fun _ h => mv2 (mv2 h)) ?_
    refine r_sw (s_w (o_callC rfl ca8 rfl (hawthornlaw12_StoreCas_1.ok 3 (⟨4, [107], a0, 0, 1⟩ : api_Op) b9 r16.2.2 (pv18, g19) r22 hr22))) ?_
    rintro _ R _ _ ⟨⟨pv24, g25⟩, rfl, rfl, rfl⟩
    refine r_u (o_mv rfl) ?_
    refine r_u (o_ext rfl rfl) ?_
    refine r_u (o_ext rfl rfl) ?_
    refine r_new (o_al ze33) fun b27 => ?_
    refine r_u0 (o_stn ag33 rfl rfl rfl rfl rfl rfl rfl) ?_
    refine r_u (o_as rfl) ?_
    refine r_nil ?_
    refine x_seq ?_
    refine c_seq ?_
    refine c_reg ?_
    refine r_u (o_mv rfl) ?_
    refine r_u (o_bld [vI 1, vS [107], vS [], vW 0, vW 0] rfl (fun _ => by kernel_rfl)) ?_
    obtain ⟨r28, hr28, hm32⟩ := bs hm26
    clear hm26
    refine rl_st (fun _ h => mv2 (mv2 h)) ?_
    refine r_sw (s_w (o_callC rfl ca8 rfl (hawthornlaw12_StoreCas_1.ok 4 (⟨1, [107], [], 0, 0⟩ : api_Op) b9 r22.2.2 (pv24, g25) r28 hr28))) ?_
    rintro _ R _ _ ⟨⟨pv30, g31⟩, rfl, rfl, rfl⟩
    refine r_u (o_mv rfl) ?_
    refine r_u (o_ext rfl rfl) ?_
    refine r_u (o_ext rfl rfl) ?_
    refine r_new (o_al ze33) fun b33 => ?_
    refine r_u0 (o_stn ag33 rfl rfl rfl rfl rfl rfl rfl) ?_
    refine r_u (o_as rfl) ?_
    refine r_nil ?_
    refine x_seq ?_
    refine c_seq ?_
    refine c_seq ?_
    refine c_reg ?_
    obtain ⟨r34, hr34, hm35⟩ := bs hm32
    clear hm32
    refine r_u (o_callq ca6 rfl (hawthornlaw12_awake.ok r34 hr34)) ?_
    refine r_u (o_not rfl) ?_
    refine r_u (o_mv rfl) ?_
    refine r_s (s_gf rfl rfl fun g => o_mv rfl) ?_
    refine r_s (s_gf rfl rfl fun g => o_bin (evg rfl g) rfl (bI_ne r4.2 0)) ?_
    refine r_u (o_or rfl rfl) ?_
    refine r_u (o_mv rfl) ?_
    refine r_s (s_gf rfl rfl fun g => o_mv rfl) ?_
    refine r_s (s_gf rfl rfl fun g => o_bin (evg rfl g) rfl (bI_ne r10.2.1 0)) ?_
    refine r_u (o_or rfl rfl) ?_
    refine r_u (o_mv rfl) ?_
    refine r_s (s_gf rfl rfl fun g => o_mv rfl) ?_
    refine r_s (s_gf rfl rfl fun g => o_bin (evg rfl g) rfl (bI_ne r16.2.1 0)) ?_
    refine r_u (o_or rfl rfl) ?_
    refine r_u (o_mv rfl) ?_
    refine r_s (s_gf rfl rfl fun g => o_mv rfl) ?_
    refine r_s (s_gf rfl rfl fun g => o_bin (evg rfl g) rfl (bI_ne r22.2.1 0)) ?_
    refine r_u (o_or rfl rfl) ?_
    refine r_u (o_mv rfl) ?_
    refine r_s (s_gf rfl rfl fun g => o_mv rfl) ?_
    refine r_s (s_gf rfl rfl fun g => o_bin (evg rfl g) rfl (bI_ne r28.2.1 0)) ?_
    refine r_u (o_or rfl rfl) ?_
    refine r_u (o_mv rfl) ?_
    refine r_s (s_gf rfl rfl fun g => o_fa fa33_2 rfl) ?_
    refine r_s (s_gf rfl rfl fun g => o_ld 5 sc22 (evg rfl g) rfl rfl) ?_
    refine r_s (s_gf rfl rfl fun g => o_bin (evg rfl g) rfl (bW_ne r10.1.Version 1)) ?_
    refine r_u (o_or rfl rfl) ?_
    refine r_nil ?_
    refine x_seq ?_
    refine c_if (b := ((((((!r34 || (r4.2 != 0)) || (r10.2.1 != 0)) || (r16.2.1 != 0)) || (r22.2.1 != 0)) || (r28.2.1 != 0)) || (r10.1.Version != 1))) rfl (fun h36 => ?_) fun h36 => ?_
    · have hm37 := ift hm35 h36
      clear hm35
      refine c_seq ?_
      refine c_reg ?_
      refine r_u (o_as rfl) ?_
      refine r_nil ?_
      refine x_seq ?_
      refine c_ret ?_
      obtain rfl := Option.some.inj hm37
      refine ex_st (fun _ h => st_pk 6 [] (by decide) h) ?_
      exact x_r1 rfl (rv_t rfl) (Le.refl _) ⟨_, rfl, rfl, rfl, rfl⟩
    · have hm37 := iff_ hm35 h36
      clear hm35
      refine c_skip ?_
      refine x_seq ?_
      refine c_seq ?_
      refine c_seq ?_
      refine c_reg ?_
      refine r_u (o_mv rfl) ?_
      refine r_u (o_bin rfl rfl (bW_eq (1 + (a2 &&& 3)) 1)) ?_
      refine r_nil ?_
      refine x_seq ?_
      refine c_if (b := ((1 + (a2 &&& 3)) == 1)) rfl (fun h38 => ?_) fun h38 => ?_
      · have hm39 := ift hm37 h38
        clear hm37
        refine c_seq ?_
        refine c_reg ?_
        refine r_u (o_fa fa33_0 rfl) ?_
        refine r_u (o_ld 4 sc25 rfl rfl rfl) ?_
        refine r_u (o_bin rfl rfl (bI_eq r16.1.E 0)) ?_
        refine r_u (o_mv rfl) ?_
        refine r_s (s_gt rfl rfl fun g => o_fa fa33_2 rfl) ?_
        refine r_s (s_gt rfl rfl fun g => o_ld 4 sc22 (evg rfl g) rfl rfl) ?_
        refine r_s (s_gt rfl rfl fun g => o_bin (evg rfl g) rfl (bW_eq r16.1.Version 2)) ?_
        refine r_u (o_and rfl rfl) ?_
        refine r_u (o_mv rfl) ?_
        refine r_s (s_gt rfl rfl fun g => o_fa fa33_0 rfl) ?_
        refine r_s (s_gt rfl rfl fun g => o_ld 3 sc25 (evg rfl g) rfl rfl) ?_
        refine r_s (s_gt rfl rfl fun g => o_bin (evg rfl g) rfl (bI_eq r22.1.E 121)) ?_
        refine r_u (o_and rfl rfl) ?_
        refine r_u (o_mv rfl) ?_
        refine r_s (s_gt rfl rfl fun g => o_fa fa33_2 rfl) ?_
        refine r_s (s_gt rfl rfl fun g => o_ld 3 sc22 (evg rfl g) rfl rfl) ?_
        refine r_s (s_gt rfl rfl fun g => o_bin (evg rfl g) rfl (bW_eq r22.1.Version 2)) ?_
        refine r_u (o_and rfl rfl) ?_
        refine r_u (o_mv rfl) ?_
        refine r_s (s_gt rfl rfl fun g => o_fa fa33_1 rfl) ?_
        refine r_s (s_gt rfl rfl fun g => o_ld 0 sc9 (evg rfl g) rfl rfl) ?_
        refine r_s (s_gt rfl rfl fun g => o_mv rfl) ?_
        refine r_s (s_gt rfl rfl fun g => o_bin (evg rfl g) (evg rfl g) (bS_eq r28.1.Value a1)) ?_
        refine r_u (o_and rfl rfl) ?_
        refine r_u (o_mv rfl) ?_
        refine r_s (s_gt rfl rfl fun g => o_fa fa33_2 rfl) ?_
        refine r_s (s_gt rfl rfl fun g => o_ld 0 sc22 (evg rfl g) rfl rfl) ?_
        refine r_s (s_gt rfl rfl fun g => o_bin (evg rfl g) rfl (bW_eq r28.1.Version 2)) ?_
        refine r_u (o_and rfl rfl) ?_
        refine r_u (o_as rfl) ?_
        refine r_nil ?_
        refine x_seq ?_
        refine c_ret ?_
        obtain rfl := Option.some.inj hm39
        refine ex_st (fun _ h => st_pk 6 [] (by decide) h) ?_
        exact x_r1 rfl (rv_t rfl) (Le.refl _) ⟨_, rfl, rfl, rfl, rfl⟩
      · have hm39 := iff_ hm37 h38
        clear hm37
        refine c_skip ?_
        refine x_seq ?_
        refine c_seq ?_
        refine c_reg ?_
        refine r_u (o_fa fa33_0 rfl) ?_
        refine r_u (o_ld 4 sc25 rfl rfl rfl) ?_
        refine r_u (o_bin rfl rfl (bI_eq r16.1.E 121)) ?_
        refine r_u (o_mv rfl) ?_
        refine r_s (s_gt rfl rfl fun g => o_fa fa33_2 rfl) ?_
        refine r_s (s_gt rfl rfl fun g => o_ld 4 sc22 (evg rfl g) rfl rfl) ?_
        refine r_s (s_gt rfl rfl fun g => o_bin (evg rfl g) rfl (bW_eq r16.1.Version 1)) ?_
        refine r_u (o_and rfl rfl) ?_
        refine r_u (o_mv rfl) ?_
        refine r_s (s_gt rfl rfl fun g => o_fa fa33_0 rfl) ?_
        refine r_s (s_gt rfl rfl fun g => o_ld 3 sc25 (evg rfl g) rfl rfl) ?_
        refine r_s (s_gt rfl rfl fun g => o_bin (evg rfl g) rfl (bI_eq r22.1.E 0)) ?_
        refine r_u (o_and rfl rfl) ?_
        refine r_u (o_mv rfl) ?_
        refine r_s (s_gt rfl rfl fun g => o_fa fa33_2 rfl) ?_
        refine r_s (s_gt rfl rfl fun g => o_ld 3 sc22 (evg rfl g) rfl rfl) ?_
        refine r_s (s_gt rfl rfl fun g => o_bin (evg rfl g) rfl (bW_eq r22.1.Version 2)) ?_
        refine r_u (o_and rfl rfl) ?_
        refine r_u (o_mv rfl) ?_
        refine r_s (s_gt rfl rfl fun g => o_fa fa33_1 rfl) ?_
        refine r_s (s_gt rfl rfl fun g => o_ld 0 sc9 (evg rfl g) rfl rfl) ?_
        refine r_s (s_gt rfl rfl fun g => o_mv rfl) ?_
        refine r_s (s_gt rfl rfl fun g => o_bin (evg rfl g) (evg rfl g) (bS_eq r28.1.Value a0)) ?_
        refine r_u (o_and rfl rfl) ?_
        refine r_u (o_as rfl) ?_
        refine r_nil ?_
        refine x_seq ?_
        refine c_ret ?_
        obtain rfl := Option.some.inj hm39
        refine ex_st (fun _ h => st_pk 6 [] (by decide) h) ?_
        exact x_r1 rfl (rv_t rfl) (Le.refl _) ⟨_, rfl, rfl, rfl, rfl⟩

end Go.Proofs.Ytpanhdnglicknaa
