import Derived.Test.YtpanhdnglicknaaGreatW2
import Derived.Test.YtpanhdnglicknaaGreatFacts
import Derived.Test.YtpanhdnglicknaaGreatHwZ
set_option linter.unusedVariables false
set_option linter.unusedSectionVars false
set_option linter.unusedSimpArgs false
set_option maxRecDepth 100000
set_option maxHeartbeats 8000000
namespace Go.Proofs.YtpanhdnglicknaaGreat
open Go Go.Proofs.YtpanhdnglicknaaGreat.Hw
def hawthornlaw12_StoreTally_l0 (a1 : List api_Op) (r1 : Option store_Store × Int) : Nat → (Option store_Store) → Int → Int → Int → Option ((Option store_Store × Int × Int) ⊕ Bool)
  | 0, _, _, _, _ => none
  | k36 + 1, s_29, asked_30, hits_31, i_32 => if ((decide (i_32 < (a1.length : Int)) && decide (i_32 < 80)) && (r1.2 == 0)) then om s_29 (none) fun x41 => (gi a1 i_32).bind fun x52 => (hawthornlaw12_record (store_Store_Seq x41) 0 (⟨0, 0, toW i_32, x52, 0⟩ : hawthornlaw12_Act)).bind fun r54 => (store_Store_Apply x41 (⟨r54.1.Seq, r54.1.Now, r54.1.Session, toW (i64 (i_32 + 1)), r54.1.Op⟩ : api_Record)).bind fun r57 => Option.bind (if ((r57.2.1 == 0) && (r54.1.Op.Kind == 1)) then Option.bind (if (r57.1.E == 0) then some (Sum.inl (i64 (hits_31 + 1))) else if (r57.1.E != 2) then some (Sum.inr (Sum.inr (Sum.inr false))) else some (Sum.inl hits_31)) fun (p75 : Int ⊕ ((Int × Int) ⊕ ((Option store_Store × Int × Int) ⊕ Bool))) => (match p75 with | Sum.inl q76 => some (Sum.inl (i64 (asked_30 + 1), q76)) | Sum.inr r => some r) else some (Sum.inl (asked_30, hits_31))) fun (p68 : (Int × Int) ⊕ ((Option store_Store × Int × Int) ⊕ Bool)) => (match p68 with | Sum.inl q69 => hawthornlaw12_StoreTally_l0 a1 r1 k36 (some r57.2.2) q69.1 q69.2 (i64 (i_32 + 1)) | Sum.inr r => some r) else some (Sum.inl (s_29, asked_30, hits_31))
def hawthornlaw12_StoreTally (a0 : api_Config) (a1 : List api_Op) : Option Bool :=
  (store_New (hawthornlaw12_Config a0)).bind fun r1 => Option.bind (hawthornlaw12_StoreTally_l0 a1 r1 (((a1.length : Int) - 0).toNat + 1) r1.1 0 0 0) fun (p6 : (Option store_Store × Int × Int) ⊕ Bool) => (match p6 with | Sum.inl q7 => (hawthornlaw12_awake).bind fun r14 => om q7.1 (none) fun x16 => if (r14 && (r1.2 == 0)) then some (decide ((store_Store_Tally x16) = (⟨q7.2.1, q7.2.2⟩ : api_Tally))) else some false | Sum.inr r => some r)
theorem hawthornlaw12_StoreTally.ok {G R F} (a0 : api_Config) (v1_ : Value) (a1 : List api_Op) (h1_ : RoS R v1_ 5 api_Op.c a1) (r : Bool) (hm : hawthornlaw12_StoreTally a0 a1 = some r) : CO Tryz.prog 5 [.agg (api_Config.c a0).toArray, v1_] G R (F)
    (Ret fun u R' L' => u = vB r ∧ R' = R ∧ L' = F) := by
  unfold hawthornlaw12_StoreTally at hm
  refine co_ofN (N := 88) Tryz.func5 rfl rfl ?_
  refine c_seq ?_
  refine c_reg ?_
  refine r_new (o_bx (api_Config.c a0) rfl rfl) fun b0 => ?_
  refine r_u (o_as rfl) ?_
  refine r_nil ?_
  refine x_seq ?_
  refine c_seq ?_
  refine c_reg ?_
  refine r_u (o_ldn 0 (api_Config.c a0) ag24 rfl rfl rfl rfl) ?_
  refine r_u (o_callq ca18 rfl (hawthornlaw12_Config.ok a0 _ rfl)) ?_
  obtain ⟨r1, hr1, hm5⟩ := bs hm
  clear hm
  refine r_sw (s_w (o_call ca19 rfl (store_New.ok (hawthornlaw12_Config a0) r1 hr1))) ?_
  rintro _ R _ _ ⟨⟨pv3, g4⟩, rfl, rfl, rfl⟩
  refine r_u (o_mv rfl) ?_
  refine r_u (o_ext rfl rfl) ?_
  refine r_u (o_ext rfl rfl) ?_
  refine r_u (o_as rfl) ?_
  refine r_u (o_as rfl) ?_
  refine r_nil ?_
  refine x_seq ?_
  refine c_seq ?_
  refine c_reg ?_
  refine r_u (o_as rfl) ?_
  refine r_u (o_as rfl) ?_
  refine r_nil ?_
  refine x_seq ?_
  refine c_seq ?_
  refine c_seq ?_
  refine c_reg ?_
  refine r_u (o_as rfl) ?_
  refine r_nil ?_
  refine x_seq ?_
  obtain ⟨p6, hp11, hm12⟩ := bs hm5
  refine cd_cut (fun x ks => ∀ (q7 : Option store_Store × Int × Int), ∀ (_ : p6 = Sum.inl q7), ∀ (pv8 : Value × store_Store.G), EX x .normal ks [(6, vI r1.2), (5, pv8.1), (7, vI q7.2.1), (8, vI q7.2.2)] R (Bk b0 24 (api_Config.c a0) :: rO (store_Store.op pv8.2) pv8.1 q7.1 :: F)) ?_ fun K13 => ?_
  · intro q7 hq pv8
    subst hq
    try dsimp only at hm12
    obtain ⟨pv9, g10⟩ := pv8
    refine x_seq ?_
    refine c_seq ?_
    obtain ⟨r14, hr14, hm15⟩ := bs hm12
    clear hm12
    refine cd_st (fun _ h => mv1 h) ?_
    refine cd_opt (fun ho18 => ?_) (fun x16 b17 ho18 => ?_)
    · rintro rfl
      have hm19 := om_n hm15 ho18
      clear hm15
      cases hm19
    · rintro rfl
      have hm19 := om_s hm15 ho18
      clear hm15
      obtain ⟨⟨pv21, g22⟩, ⟨pv24, g25⟩, g26⟩ := g10
      refine cd_st (fun _ h => st_star_o h) ?_
      refine cd_by (r14 && (r1.2 == 0)) (fun h27 => ?_) fun h27 => ?_
      · have hm28 := ift hm19 h27
        clear hm19
        refine c_reg ?_
        refine r_u (o_callq ca12 rfl (hawthornlaw12_awake.ok r14 hr14)) ?_
        refine r_u (o_mv rfl) ?_
        refine r_s (s_gt rfl rfl fun g => o_mv rfl) ?_
        refine r_s (s_gt rfl rfl fun g => o_bin (evg rfl g) rfl (bI_eq r1.2 0)) ?_
        refine r_u (o_and rfl rfl) ?_
        refine r_u (o_mv rfl) ?_
        refine r_s (s_y rfl rfl h27 (o_mv rfl)) ?_
        refine r_c (s_yw rfl rfl h27 (o_call ca17 rfl (store_Store_Tally.ok b17 x16 (⟨(pv21, g22), (pv24, g25), g26⟩ : store_Store.G) _ rfl))) ?_
        refine r_s (s_y rfl rfl h27 (o_mv rfl)) ?_
        refine r_s (s_y rfl rfl h27 (o_mv rfl)) ?_
        refine r_s (s_y rfl rfl h27 (o_bld [vI q7.2.1, vI q7.2.2] rfl (fun _ => by kernel_rfl))) ?_
        refine r_s (s_y rfl rfl h27 (o_bin rfl rfl (api_Tally.beq_47 (store_Store_Tally x16) (⟨q7.2.1, q7.2.2⟩ : api_Tally)))) ?_
        refine r_u (o_pt rfl h27 rfl) ?_
        refine r_u (o_as rfl) ?_
        refine r_nil ?_
        refine x_seq ?_
        refine c_ret ?_
        obtain rfl := Option.some.inj hm28
        refine ex_st (fun _ h => st_pk 5 [] (by decide) h) ?_
        exact x_r1 rfl (rv_t rfl) (Le.refl _) ⟨_, rfl, rfl, rfl, rfl⟩
      · have hm28 := iff_ hm19 h27
        clear hm19
        refine c_reg ?_
        refine r_u (o_callq ca12 rfl (hawthornlaw12_awake.ok r14 hr14)) ?_
        refine r_u (o_mv rfl) ?_
        refine r_s (s_gt rfl rfl fun g => o_mv rfl) ?_
        refine r_s (s_gt rfl rfl fun g => o_bin (evg rfl g) rfl (bI_eq r1.2 0)) ?_
        refine r_u (o_and rfl rfl) ?_
        refine r_u (o_mv rfl) ?_
        refine r_s (s_n rfl rfl h27) ?_
        refine r_s (s_n rfl rfl h27) ?_
        refine r_s (s_n rfl rfl h27) ?_
        refine r_s (s_n rfl rfl h27) ?_
        refine r_s (s_n rfl rfl h27) ?_
        refine r_s (s_n rfl rfl h27) ?_
        refine r_u (o_pf rfl h27 rfl) ?_
        refine r_u (o_as rfl) ?_
        refine r_nil ?_
        refine x_seq ?_
        refine c_ret ?_
        obtain rfl := Option.some.inj hm28
        refine ex_st (fun _ h => st_pk 5 [] (by decide) h) ?_
        exact x_r1 rfl (rv_t rfl) (Le.refl _) ⟨_, rfl, rfl, rfl, rfl⟩
  · refine c_blk ?_
    refine cd_loopG (M := fun k36 (s : Option store_Store × Int × Int × Int × (Value × store_Store.G)) => hawthornlaw12_StoreTally_l0 a1 r1 k36 s.1 s.2.1 s.2.2.1 s.2.2.2.1 = some p6) (Ef := fun (s : Option store_Store × Int × Int × Int × (Value × store_Store.G)) => [(1, v1_), (6, vI r1.2), (5, s.2.2.2.2.1), (7, vI s.2.1), (8, vI s.2.2.1), (9, vI s.2.2.2.1)]) (Rf := fun (s : Option store_Store × Int × Int × Int × (Value × store_Store.G)) => R) (Lf := fun (s : Option store_Store × Int × Int × Int × (Value × store_Store.G)) => Bk b0 24 (api_Config.c a0) :: rO (store_Store.op s.2.2.2.2.2) s.2.2.2.2.1 s.1 :: F) (((a1.length : Int) - 0).toNat + 1) (r1.1, 0, 0, 0, (pv3, g4)) hp11 ⟨rfl, rfl, rfl, rfl, rfl, rfl, trivial⟩ (fun _ h => st_pk 2 [1, 0] (by decide) h) (fun _ h => by cases h) fun k36 s hM38 => ?_
    obtain ⟨s_29, asked_30, hits_31, i_32, pv33⟩ := s
    have hm37 : hawthornlaw12_StoreTally_l0 a1 r1 (k36 + 1) s_29 asked_30 hits_31 i_32 = some p6 := hM38
    rw [hawthornlaw12_StoreTally_l0] at hm37
    obtain ⟨pv34, g35⟩ := pv33
    refine c_seq ?_
    refine c_seq ?_
    refine c_reg ?_
    refine r_u (o_mv rfl) ?_
    refine r_u (o_mv rfl) ?_
    refine r_u (o_lenR Tryz.underlying56 rfl h1_) ?_
    refine r_u (o_bin rfl rfl (bI_lt i_32 (a1.length : Int))) ?_
    refine r_u (o_mv rfl) ?_
    refine r_s (s_gt rfl rfl fun g => o_mv rfl) ?_
    refine r_s (s_gt rfl rfl fun g => o_bin (evg rfl g) rfl (bI_lt i_32 80)) ?_
    refine r_u (o_and rfl rfl) ?_
    refine r_u (o_mv rfl) ?_
    refine r_s (s_gt rfl rfl fun g => o_mv rfl) ?_
    refine r_s (s_gt rfl rfl fun g => o_bin (evg rfl g) rfl (bI_eq r1.2 0)) ?_
    refine r_u (o_and rfl rfl) ?_
    refine r_nil ?_
    refine x_seq ?_
    refine c_if (b := ((decide (i_32 < (a1.length : Int)) && decide (i_32 < 80)) && (r1.2 == 0))) rfl (fun h39 => ?_) fun h39 => ?_
    · have hm40 := ift hm37 h39
      clear hm37
      refine c_skip ?_
      refine x_seq ?_
      refine c_seq ?_
      refine c_blk ?_
      refine c_seq ?_
      refine cd_st (fun _ h => mv1 h) ?_
      refine cd_opt (fun ho43 => ?_) (fun x41 b42 ho43 => ?_)
      · rintro rfl
        have hm44 := om_n hm40 ho43
        clear hm40
        cases hm44
      · rintro rfl
        have hm44 := om_s hm40 ho43
        clear hm40
        obtain ⟨⟨pv46, g47⟩, ⟨pv49, g50⟩, g51⟩ := g35
        refine cd_st (fun _ h => st_star_o h) ?_
        obtain ⟨x52, hx52, hm53⟩ := bs hm44
        clear hm44
        obtain ⟨b52, o52, l52, T52, fr52, c52, hv52, hR52, he52, hi52⟩ := RoS.ne h1_ hx52
        obtain ⟨r54, hr54, hm55⟩ := bs hm53
        clear hm53
        refine c_any mixed (effs := [13, 14]) (V := []) ?_
        refine stage_ext [(0, pt b42 0), (1, vW (store_Store_Seq x41)), (2, vI i_32), (3, vW (toW i_32)), (4, v1_), (5, vI i_32), (6, pt b52 (o52 + i_32.toNat * 5)), (7, .agg (api_Op.c x52).toArray), (8, .agg [vW 0, vW 0, vW (toW i_32), vI x52.Kind, vS x52.Key, vS x52.Value, vW x52.TTL, vW x52.Version, vI 0].toArray), (9, .tuple #[.agg (api_Record.c r54.1).toArray, vW r54.2]), (10, .tuple #[.agg (api_Record.c r54.1).toArray, vW r54.2]), (11, .agg (api_Record.c r54.1).toArray), (12, vW r54.2)] rfl ?_
        refine stage rfl rfl rfl rfl [0, 1, 0, 4, 0, 0, 48, 112, 252, 511, 1023, 2047, 2047, 0, 12287, 32767] [0, 1, 2, 3, 4, 5, 6, 7, 8, 9, 10, 11, 12] [13] rfl rfl rfl (qc rfl rfl (s_u (o_mv rfl)) (qc rfl rfl (s_u (o_callqP ca14 rfl (store_Store_Seq.ok b42 x41 (⟨(pv46, g47), (pv49, g50), g51⟩ : store_Store.G) _ rfl) (fun _ h => st_pk 5 [0, 1, 2, 3, 4] (by decide) h) (fun _ h => st_pk 5 [0, 1, 2, 3, 4] (by decide) h))) (qc rfl rfl (s_u (o_mv rfl)) (qc rfl rfl (s_u (o_cv rfl (cIW Tryz.underlying3 Tryz.underlying22 i_32))) (qc rfl rfl (s_u (o_mv rfl)) (qc rfl rfl (s_u (o_mv rfl)) (qc rfl rfl (s_u (o_ix (sz := 5) Tryz.underlying56 (fun _ => by kernel_rfl) rfl rfl hv52 hi52)) (qc rfl rfl (s_u (o_ldnR (api_Op.c x52) ag27 rfl hR52 he52 rfl)) (qc rfl rfl (s_u (o_bld [vW 0, vW 0, vW (toW i_32), vI x52.Kind, vS x52.Key, vS x52.Value, vW x52.TTL, vW x52.Version, vI 0] rfl (fun _ => by kernel_rfl))) (qc rfl rfl (s_u (o_callq ca13 rfl (hawthornlaw12_record.ok (store_Store_Seq x41) 0 (⟨0, 0, toW i_32, x52, 0⟩ : hawthornlaw12_Act) r54 hr54))) (qc rfl rfl (s_u (o_mv rfl)) (qc rfl rfl (s_u (o_ext rfl rfl)) (qc rfl rfl (s_u (o_ext rfl rfl)) qn))))))))))))) ?_ (fun h => absurd h (by decide))
        refine ec (eo_n rfl (s_w (o_al ze35)) fun b56 => ?_) en
        refine stage rfl rfl rfl rfl [0, 1, 0, 4, 0, 0, 48, 112, 252, 511, 1023, 2047, 2047, 0, 12287, 32767] [0, 1, 2, 3, 4, 5, 6, 7, 8, 9, 10, 11, 12] [14] rfl rfl rfl (qc rfl rfl (s_u (o_mv rfl)) (qc rfl rfl (s_u (o_callqP ca14 rfl (store_Store_Seq.ok b42 x41 (⟨(pv46, g47), (pv49, g50), g51⟩ : store_Store.G) _ rfl) (fun _ h => st_pk 6 [1, 2, 3, 4, 0, 5] (by decide) h) (fun _ h => st_pk 6 [4, 0, 1, 2, 3, 5] (by decide) h))) (qc rfl rfl (s_u (o_mv rfl)) (qc rfl rfl (s_u (o_cv rfl (cIW Tryz.underlying3 Tryz.underlying22 i_32))) (qc rfl rfl (s_u (o_mv rfl)) (qc rfl rfl (s_u (o_mv rfl)) (qc rfl rfl (s_u (o_ix (sz := 5) Tryz.underlying56 (fun _ => by kernel_rfl) rfl rfl hv52 hi52)) (qc rfl rfl (s_u (o_ldnR (api_Op.c x52) ag27 rfl hR52 he52 rfl)) (qc rfl rfl (s_u (o_bld [vW 0, vW 0, vW (toW i_32), vI x52.Kind, vS x52.Key, vS x52.Value, vW x52.TTL, vW x52.Version, vI 0] rfl (fun _ => by kernel_rfl))) (qc rfl rfl (s_u (o_callq ca13 rfl (hawthornlaw12_record.ok (store_Store_Seq x41) 0 (⟨0, 0, toW i_32, x52, 0⟩ : hawthornlaw12_Act) r54 hr54))) (qc rfl rfl (s_u (o_mv rfl)) (qc rfl rfl (s_u (o_ext rfl rfl)) (qc rfl rfl (s_u (o_ext rfl rfl)) qn))))))))))))) ?_ (fun h => absurd h (by decide))
        refine ec (eo_u rfl (s_u (o_stn ag35 rfl rfl rfl rfl rfl rfl rfl)) (Le.refl _) ?_) en
        refine stage_ext [(15, vW r54.2)] rfl ?_
        refine stage rfl rfl rfl rfl [0, 1, 0, 4, 0, 0, 48, 112, 252, 511, 1023, 2047, 2047, 0, 12287, 32767] [12, 15] [] rfl rfl rfl (qc rfl rfl (s_u (o_ext rfl rfl)) (qc rfl rfl (s_u (o_as rfl)) qn)) en ?_
        intro _
        refine ex_sub (E' := [(1, v1_), (6, vI r1.2), (5, pt b42 0), (7, vI asked_30), (8, vI hits_31), (9, vI i_32), (10, pt b56 0)]) ⟨rfl, rfl, rfl, rfl, rfl, rfl, rfl, trivial⟩ ?_
        refine x_seq ?_
        refine c_seq ?_
        refine c_reg ?_
        refine r_u (o_mv rfl) ?_
        refine r_u (o_bin rfl rfl (bI_add i_32 1)) ?_
        refine r_u (o_cv rfl (cIW Tryz.underlying3 Tryz.underlying22 (i64 (i_32 + 1)))) ?_
        refine r_u (o_fa fa35_3 rfl) ?_
        refine r_u0 (o_st sc22 rfl rfl rfl rfl rfl rfl) ?_
        refine r_nil ?_
        refine x_seq ?_
        refine c_seq ?_
        refine c_reg ?_
        refine r_u (o_mv rfl) ?_
        refine r_u (o_ldn 0 [vW r54.1.Seq, vW r54.1.Now, vW r54.1.Session, vW (toW (i64 (i_32 + 1))), vI r54.1.Op.Kind, vS r54.1.Op.Key, vS r54.1.Op.Value, vW r54.1.Op.TTL, vW r54.1.Op.Version] ag35 rfl rfl rfl rfl) ?_
        obtain ⟨r57, hr57, hm66⟩ := bs hm55
        clear hm55
        refine rl_st (fun _ h => mv4 (mv4 (mv4 (mv4 h)))) ?_
        refine r_sw (s_w (o_call ca15 rfl (store_Store_Apply.ok b42 x41 (⟨(pv46, g47), (pv49, g50), g51⟩ : store_Store.G) (⟨r54.1.Seq, r54.1.Now, r54.1.Session, toW (i64 (i_32 + 1)), r54.1.Op⟩ : api_Record) r57 hr57))) ?_
        rintro _ R _ _ ⟨⟨⟨pv60, g61⟩, ⟨pv63, g64⟩, g65⟩, rfl, rfl, rfl⟩
        refine r_u (o_mv rfl) ?_
        refine r_u (o_ext rfl rfl) ?_
        refine r_u (o_ext rfl rfl) ?_
        refine r_new (o_al ze41) fun b67 => ?_
        refine r_u0 (o_stn ag41 rfl rfl rfl rfl rfl rfl rfl) ?_
        refine r_u (o_as rfl) ?_
        refine r_nil ?_
        refine x_seq ?_
        refine c_seq ?_
        refine c_reg ?_
        refine r_u (o_mv rfl) ?_
        refine r_u (o_bin rfl rfl (bI_eq r57.2.1 0)) ?_
        refine r_u (o_mv rfl) ?_
        refine r_s (s_gt rfl rfl fun g => o_fa fa35_4 rfl) ?_
        refine r_s (s_gt rfl rfl fun g => o_fa fa27_0 (evg rfl g)) ?_
        refine r_s (s_gt rfl rfl fun g => o_ld 5 sc3 (evg rfl g) rfl rfl) ?_
        refine r_s (s_gt rfl rfl fun g => o_bin (evg rfl g) rfl (bI_eq r54.1.Op.Kind 1)) ?_
        refine r_u (o_and rfl rfl) ?_
        refine r_nil ?_
        refine x_seq ?_
        obtain ⟨p68, hp70, hm71⟩ := bs hm66
        refine cd_joinS (p := p68) (Ef := fun q69 => [(1, v1_), (5, pt b42 0), (6, vI r1.2), (9, vI i_32), (7, vI q69.1), (8, vI q69.2)]) (Lf := fun q69 => Bk b67 41 (api_Reply.c r57.1) :: Bk b42 96 [vI r57.2.2.c.Policy, vI r57.2.2.c.Entries, vI r57.2.2.c.Bytes, vW r57.2.2.c.Seed, pv60, pv63, g65, vW r57.2.2.seq, vW r57.2.2.now, vW r57.2.2.version, vI r57.2.2.tally.Asked, vI r57.2.2.tally.Hits] :: Bk b56 35 [vW r54.1.Seq, vW r54.1.Now, vW r54.1.Session, vW (toW (i64 (i_32 + 1))), vI r54.1.Op.Kind, vS r54.1.Op.Key, vS r54.1.Op.Value, vW r54.1.Op.TTL, vW r54.1.Op.Version] :: Bk b0 24 (api_Config.c a0) :: rO (table_Table.op g61) pv60 r57.2.2.t :: rO (policy_Policy.op g64) pv63 r57.2.2.p :: OwM vW store_last.v g65 r57.2.2.sessions :: F) (fun q69 hq => ?_) fun K72 => ?_
        · subst hq
          try dsimp only at hm71
          refine x_blk ?_
          refine x_seq ?_
          refine c_reg ?_
          refine r_u (o_mv rfl) ?_
          refine r_u (o_bin rfl rfl (bI_add i_32 1)) ?_
          refine r_u (o_as rfl) ?_
          refine r_nil ?_
          refine ex_st (fun _ h => mv4 (mv6 (mv6 (mv6 h)))) ?_
          refine ex_st (fun _ h => st_some (f := store_Store.op (⟨(pv60, g61), (pv63, g64), g65⟩ : store_Store.G)) (a := r57.2.2) (st_star_f (A := store_Store.fl b42 r57.2.2 (⟨(pv60, g61), (pv63, g64), g65⟩ : store_Store.G)) h)) ?_
          exact x_lp ((some r57.2.2), q69.1, q69.2, i64 (i_32 + 1), (pt b42 0, (⟨(pv60, g61), (pv63, g64), g65⟩ : store_Store.G))) hm71 ⟨rfl, rfl, rfl, rfl, rfl, rfl, trivial⟩ (fun _ h => st_pk 4 [3, 0] (by decide) h)
        · refine c_if (b := ((r57.2.1 == 0) && (r54.1.Op.Kind == 1))) rfl (fun h73 => ?_) fun h73 => ?_
          · have hm74 := ift hp70 h73
            clear hp70
            refine c_seq ?_
            refine c_reg ?_
            refine r_u (o_mv rfl) ?_
            refine r_u (o_bin rfl rfl (bI_add asked_30 1)) ?_
            refine r_u (o_as rfl) ?_
            refine r_nil ?_
            refine x_seq ?_
            refine c_seq ?_
            refine c_reg ?_
            refine r_u (o_fa fa41_0 rfl) ?_
            refine r_u (o_ld 0 sc39 rfl rfl rfl) ?_
            refine r_u (o_bin rfl rfl (bI_eq r57.1.E 0)) ?_
            refine r_nil ?_
            refine x_seq ?_
            obtain ⟨p75, hp77, hm78⟩ := bs hm74
            refine cd_joinS (p := p75) (Ef := fun q76 => [(1, v1_), (5, pt b42 0), (6, vI r1.2), (7, vI (i64 (asked_30 + 1))), (9, vI i_32), (8, vI q76)]) (Lf := fun q76 => Bk b67 41 (api_Reply.c r57.1) :: Bk b42 96 [vI r57.2.2.c.Policy, vI r57.2.2.c.Entries, vI r57.2.2.c.Bytes, vW r57.2.2.c.Seed, pv60, pv63, g65, vW r57.2.2.seq, vW r57.2.2.now, vW r57.2.2.version, vI r57.2.2.tally.Asked, vI r57.2.2.tally.Hits] :: Bk b56 35 [vW r54.1.Seq, vW r54.1.Now, vW r54.1.Session, vW (toW (i64 (i_32 + 1))), vI r54.1.Op.Kind, vS r54.1.Op.Key, vS r54.1.Op.Value, vW r54.1.Op.TTL, vW r54.1.Op.Version] :: Bk b0 24 (api_Config.c a0) :: rO (table_Table.op g61) pv60 r57.2.2.t :: rO (policy_Policy.op g64) pv63 r57.2.2.p :: OwM vW store_last.v g65 r57.2.2.sessions :: F) (fun q76 hq => ?_) fun K79 => ?_
            · subst hq
              try dsimp only at hm78
              obtain rfl := Option.some.inj hm78
              exact x_sub (K72 _ rfl) ⟨rfl, rfl, rfl, rfl, rfl, rfl, trivial⟩ (fun _ h => st_pk 7 [0, 1, 2, 3, 4, 5, 6] (by decide) h)
            · refine c_if (b := (r57.1.E == 0)) rfl (fun h80 => ?_) fun h80 => ?_
              · have hm81 := ift hp77 h80
                clear hp77
                refine c_reg ?_
                refine r_u (o_mv rfl) ?_
                refine r_u (o_bin rfl rfl (bI_add hits_31 1)) ?_
                refine r_u (o_as rfl) ?_
                refine r_nil ?_
                obtain rfl := Option.some.inj hm81
                exact x_sub (K79 _ rfl) ⟨rfl, rfl, rfl, rfl, rfl, rfl, trivial⟩ (fun _ h => st_pk 7 [0, 1, 5, 6, 2, 3, 4] (by decide) h)
              · have hm81 := iff_ hp77 h80
                clear hp77
                refine c_seq ?_
                refine c_reg ?_
                refine r_u (o_fa fa41_0 rfl) ?_
                refine r_u (o_ld 0 sc39 rfl rfl rfl) ?_
                refine r_u (o_bin rfl rfl (bI_ne r57.1.E 2)) ?_
                refine r_nil ?_
                refine x_seq ?_
                refine c_if (b := (r57.1.E != 2)) rfl (fun h82 => ?_) fun h82 => ?_
                · have hm83 := ift hm81 h82
                  clear hm81
                  refine c_seq ?_
                  refine c_reg ?_
                  refine r_u (o_as rfl) ?_
                  refine r_nil ?_
                  refine x_seq ?_
                  refine c_ret ?_
                  obtain rfl := Option.some.inj hm83
                  try dsimp only at hm78
                  obtain rfl := Option.some.inj hm78
                  try dsimp only at hm71
                  obtain rfl := Option.some.inj hm71
                  try dsimp only at hm12
                  obtain rfl := Option.some.inj hm12
                  refine ex_st (fun _ h => st_pk 7 [] (by decide) h) ?_
                  exact x_r1 rfl (rv_t rfl) (Le.refl _) ⟨_, rfl, rfl, rfl, rfl⟩
                · have hm83 := iff_ hm81 h82
                  clear hm81
                  refine c_skip ?_
                  obtain rfl := Option.some.inj hm83
                  exact x_sub (K79 _ rfl) ⟨rfl, rfl, rfl, rfl, rfl, rfl, trivial⟩ (fun _ h => st_pk 7 [0, 1, 5, 6, 2, 3, 4] (by decide) h)
          · have hm74 := iff_ hp70 h73
            clear hp70
            refine c_skip ?_
            obtain rfl := Option.some.inj hm74
            exact x_sub (K72 _ rfl) ⟨rfl, rfl, rfl, rfl, rfl, rfl, trivial⟩ (fun _ h => st_pk 7 [0, 1, 5, 6, 2, 3, 4] (by decide) h)
    · have hm40 := iff_ hm37 h39
      clear hm37
      refine c_exit (x_exit (ks' := _) rfl ?_)
      obtain rfl := Option.some.inj hm40
      exact x_sub (K13 _ rfl (pv34, g35)) ⟨rfl, rfl, rfl, rfl, trivial⟩ (fun _ h => st_pk 2 [0, 1] (by decide) h)

def store_Store_Told (a0 : store_Store) (a1 : UInt64) : UInt64 × api_Reply × Bool :=
  (((mget a0.sessions a1).getD ((⟨0, (⟨0, [], 0⟩ : api_Reply)⟩ : store_last) : store_last)).num, (((mget a0.sessions a1).getD ((⟨0, (⟨0, [], 0⟩ : api_Reply)⟩ : store_last) : store_last)).reply), (mget a0.sessions a1).isSome)
theorem store_Store_Told.ok {G R F} (b0_ : Nat) (a0 : store_Store) (g0_ : store_Store.G) (a1 : UInt64) (r : UInt64 × api_Reply × Bool) (hm : store_Store_Told a0 a1 = r) : CO Tryz.prog 21 [pt b0_ 0, vW a1] G R (Bk b0_ 96 [vI a0.c.Policy, vI a0.c.Entries, vI a0.c.Bytes, vW a0.c.Seed, g0_.t.1, g0_.p.1, g0_.sessions, vW a0.seq, vW a0.now, vW a0.version, vI a0.tally.Asked, vI a0.tally.Hits] :: rO (table_Table.op g0_.t.2) g0_.t.1 a0.t :: rO (policy_Policy.op g0_.p.2) g0_.p.1 a0.p :: OwM vW store_last.v g0_.sessions a0.sessions :: F)
    (Ret fun u R' L' => u = .tuple #[vW r.1, .agg (api_Reply.c r.2.1).toArray, vB r.2.2] ∧ R' = R ∧ L' = Bk b0_ 96 [vI a0.c.Policy, vI a0.c.Entries, vI a0.c.Bytes, vW a0.c.Seed, g0_.t.1, g0_.p.1, g0_.sessions, vW a0.seq, vW a0.now, vW a0.version, vI a0.tally.Asked, vI a0.tally.Hits] :: rO (table_Table.op g0_.t.2) g0_.t.1 a0.t :: rO (policy_Policy.op g0_.p.2) g0_.p.1 a0.p :: OwM vW store_last.v g0_.sessions a0.sessions :: F) := by
  obtain ⟨⟨pv1, g2⟩, ⟨pv4, g5⟩, g6⟩ := g0_
  unfold store_Store_Told at hm
  refine co_ofN (N := 26) Tryz.func21 rfl rfl ?_
  refine c_seq ?_
  refine c_reg ?_
  refine r_u (o_as rfl) ?_
  refine r_new (o_al ze41) fun b7 => ?_
  refine r_u (o_as rfl) ?_
  refine r_nil ?_
  refine x_seq ?_
  refine c_seq ?_
  refine c_seq ?_
  refine c_reg ?_
  refine r_u (o_mv rfl) ?_
  refine r_u (o_bin rfl rfl (bP_eqp Tryz.underlying30)) ?_
  refine r_nil ?_
  refine x_seq ?_
  refine c_ff rfl ?_
  refine c_skip ?_
  refine x_seq ?_
  refine c_seq ?_
  refine c_reg ?_
  refine r_u (o_mv rfl) ?_
  refine r_u (o_nc rfl) ?_
  refine r_u (o_fa fa96_3 rfl) ?_
  refine r_u (o_ld 1 sc94 rfl rfl rfl) ?_
  refine r_u (o_mv rfl) ?_
  refine r_u (o_lk (kv := vW) (vv := store_last.v) (key := a1) (z0 := ((⟨0, (⟨0, [], 0⟩ : api_Reply)⟩ : store_last) : store_last)) 4 Tryz.underlying94 (kok_W Tryz.underlying22) (fun _ => by kernel_rfl) rfl rfl rfl) ?_
  refine r_u (o_mv rfl) ?_
  refine r_u (o_ext rfl rfl) ?_
  refine r_u (o_ext rfl rfl) ?_
  refine r_new (o_al ze102) fun b8 => ?_
  refine r_u0 (o_stn ag102 rfl rfl rfl rfl rfl rfl rfl) ?_
  refine r_u (o_as rfl) ?_
  refine r_nil ?_
  refine x_seq ?_
  refine c_seq ?_
  refine c_any mixed (effs := [6]) (V := []) ?_
  refine stage_st (fun _ h => mv1 h) ?_
  refine stage_ext [(0, pt b8 0), (1, vW (((mget a0.sessions a1).getD ((⟨0, (⟨0, [], 0⟩ : api_Reply)⟩ : store_last) : store_last)).num)), (2, pt b8 1), (3, .agg (api_Reply.c (((mget a0.sessions a1).getD ((⟨0, (⟨0, [], 0⟩ : api_Reply)⟩ : store_last) : store_last)).reply)).toArray), (4, vB ((mget a0.sessions a1).isSome)), (5, vW (((mget a0.sessions a1).getD ((⟨0, (⟨0, [], 0⟩ : api_Reply)⟩ : store_last) : store_last)).num))] rfl ?_
  refine stage rfl rfl rfl rfl [0, 1, 0, 4, 0, 3, 47, 127] [0, 1, 2, 3, 4, 5] [6] rfl rfl rfl (qc rfl rfl (s_u (o_fa fa102_0 rfl)) (qc rfl rfl (s_u (o_ld 1 sc22 rfl rfl rfl)) (qc rfl rfl (s_u (o_fa fa102_1 rfl)) (qc rfl rfl (s_u (o_ldn 1 (api_Reply.c (((mget a0.sessions a1).getD ((⟨0, (⟨0, [], 0⟩ : api_Reply)⟩ : store_last) : store_last)).reply)) ag41 rfl rfl rfl rfl)) (qc rfl rfl (s_u (o_mv rfl)) (qc rfl rfl (s_u (o_as rfl)) qn)))))) ?_ (fun h => absurd h (by decide))
  refine ec (eo_u rfl (s_u (o_stn ag41 rfl rfl rfl rfl rfl rfl rfl)) (Le.refl _) ?_) en
  refine stage_ext [(7, vB ((mget a0.sessions a1).isSome))] rfl ?_
  refine stage rfl rfl rfl rfl [0, 1, 0, 4, 0, 3, 47, 127] [4, 7] [] rfl rfl rfl (qc rfl rfl (s_u (o_mv rfl)) (qc rfl rfl (s_u (o_as rfl)) qn)) en ?_
  intro _
  refine ex_sub (E' := [(4, vW (((mget a0.sessions a1).getD ((⟨0, (⟨0, [], 0⟩ : api_Reply)⟩ : store_last) : store_last)).num)), (5, pt b7 0), (6, vB ((mget a0.sessions a1).isSome))]) ⟨rfl, rfl, rfl, trivial⟩ ?_
  refine x_seq ?_
  refine c_ret ?_
  subst hm
  exact x_d3 rfl (rv_t rfl) (rv_n 0 (api_Reply.c (((mget a0.sessions a1).getD ((⟨0, (⟨0, [], 0⟩ : api_Reply)⟩ : store_last) : store_last)).reply)) ag41 rfl rfl rfl rfl) (rv_t rfl) (fun _ h => st_pk 6 [2, 3, 4, 5] (by decide) h) (Le.refl _) ⟨_, rfl, rfl, rfl, rfl⟩

def hawthornlaw12_StoreMarks_l0 (a2 : UInt64) (r1 : Option store_Store × UInt64 × Bool) (r21 : List api_Entry) : Nat → Int → Int → Option (Int)
  | 0, _, _ => none
  | k58 + 1, left_56, i_57 => if decide (i_57 < (r21.length : Int)) then (gi r21 i_57).bind fun x63 => Option.bind (if ((x63.End == 0) || decide ((r1.2.1 + (a2 &&& 15)) < x63.End)) then some (i64 (left_56 + 1)) else some left_56) fun p65 => hawthornlaw12_StoreMarks_l0 a2 r1 r21 k58 p65 (i64 (i_57 + 1)) else some left_56
def hawthornlaw12_StoreMarks (a0 : api_Config) (a1 : List hawthornlaw12_Act) (a2 : UInt64) : Option Bool :=
  (hawthornlaw12_played a0 a1).bind fun r1 => (hawthornlaw12_awake).bind fun r6 => if (!r6 || !r1.2.2) then some false else om r1.1 (none) fun x10 => (store_Store_Entries x10).bind fun r21 => (store_Store_Apply x10 (⟨(store_Store_Seq x10) + 1, r1.2.1 + (a2 &&& 15), 99, 1, (⟨5, [], [], 0, 0⟩ : api_Op)⟩ : api_Record)).bind fun r25 => lt (store_Store_Told r25.2.2 99) fun r36 => Option.bind (hawthornlaw12_StoreMarks_l0 a2 r1 r21 (((r21.length : Int) - 0).toNat + 1) 0 0) fun p39 => if (((r25.2.1 == 0) && decide (r25.1 = (⟨0, [], 0⟩ : api_Reply))) && !r36.2.2) then if ((store_Store_Seq r25.2.2) == ((store_Store_Seq x10) + 1)) then if decide ((store_Store_Tally r25.2.2) = (store_Store_Tally x10)) then (store_Store_Entries r25.2.2).bind fun r49 => if ((r49.length : Int) == p39) then some (decide ((r1.2.1 + (a2 &&& 15)) ≤ (store_Store_Now r25.2.2))) else some false else some false else some false else some false
theorem hawthornlaw12_StoreMarks.ok {G R F} (a0 : api_Config) (v1_ : Value) (a1 : List hawthornlaw12_Act) (h1_ : RoS R v1_ 9 hawthornlaw12_Act.c a1) (a2 : UInt64) (r : Bool) (hm : hawthornlaw12_StoreMarks a0 a1 a2 = some r) : CO Tryz.prog 6 [.agg (api_Config.c a0).toArray, v1_, vW a2] G R (F)
    (Ret fun u R' L' => u = vB r ∧ R' = R ∧ L' = F) := by
  unfold hawthornlaw12_StoreMarks at hm
  refine co_ofN (N := 120) Tryz.func6 rfl rfl ?_
  refine c_seq ?_
  refine c_reg ?_
  refine r_new (o_bx (api_Config.c a0) rfl rfl) fun b0 => ?_
  refine r_u (o_as rfl) ?_
  refine r_nil ?_
  refine x_seq ?_
  refine c_seq ?_
  refine c_reg ?_
  refine r_u (o_ldn 0 (api_Config.c a0) ag24 rfl rfl rfl rfl) ?_
  refine r_u (o_mv rfl) ?_
  obtain ⟨r1, hr1, hm5⟩ := bs hm
  clear hm
  refine r_sw (s_w (o_call ca11 rfl (hawthornlaw12_played.ok a0 v1_ a1 h1_ r1 hr1))) ?_
  rintro _ R _ _ ⟨⟨pv3, g4⟩, rfl, rfl, rfl⟩
  refine r_u (o_mv rfl) ?_
  refine r_u (o_ext rfl rfl) ?_
  refine r_u (o_ext rfl rfl) ?_
  refine r_u (o_ext rfl rfl) ?_
  refine r_u (o_as rfl) ?_
  refine r_u (o_as rfl) ?_
  refine r_u (o_as rfl) ?_
  refine r_nil ?_
  refine x_seq ?_
  refine c_seq ?_
  refine c_seq ?_
  refine c_reg ?_
  obtain ⟨r6, hr6, hm7⟩ := bs hm5
  clear hm5
  refine r_u (o_callq ca12 rfl (hawthornlaw12_awake.ok r6 hr6)) ?_
  refine r_u (o_not rfl) ?_
  refine r_u (o_mv rfl) ?_
  refine r_s (s_gf rfl rfl fun g => o_mv rfl) ?_
  refine r_s (s_gf rfl rfl fun g => o_not (evg rfl g)) ?_
  refine r_u (o_or rfl rfl) ?_
  refine r_nil ?_
  refine x_seq ?_
  refine c_if (b := (!r6 || !r1.2.2)) rfl (fun h8 => ?_) fun h8 => ?_
  · have hm9 := ift hm7 h8
    clear hm7
    refine c_seq ?_
    refine c_reg ?_
    refine r_u (o_as rfl) ?_
    refine r_nil ?_
    refine x_seq ?_
    refine c_ret ?_
    obtain rfl := Option.some.inj hm9
    refine ex_st (fun _ h => st_pk 2 [] (by decide) h) ?_
    exact x_r1 rfl (rv_t rfl) (Le.refl _) ⟨_, rfl, rfl, rfl, rfl⟩
  · have hm9 := iff_ hm7 h8
    clear hm7
    refine c_skip ?_
    refine x_seq ?_
    refine c_seq ?_
    refine cd_opt (fun ho12 => ?_) (fun x10 b11 ho12 => ?_)
    · rintro rfl
      have hm13 := om_n hm9 ho12
      clear hm9
      cases hm13
    · rintro rfl
      have hm13 := om_s hm9 ho12
      clear hm9
      obtain ⟨⟨pv15, g16⟩, ⟨pv18, g19⟩, g20⟩ := g4
      refine cd_st (fun _ h => st_star_o h) ?_
      refine c_reg ?_
      refine r_u (o_mv rfl) ?_
      obtain ⟨r21, hr21, hm23⟩ := bs hm13
      clear hm13
      refine r_sw (s_w (o_call ca16 rfl (store_Store_Entries.ok b11 x10 (⟨(pv15, g16), (pv18, g19), g20⟩ : store_Store.G) r21 hr21))) ?_
      rintro v22 R _ _ ⟨_, rfl, rfl, rfl⟩
      refine r_u (o_mv rfl) ?_
      refine rl_st (fun _ h => mv4 (mv4 (mv4 (mv4 h)))) ?_
      refine r_c (s_w (o_call ca17 rfl (store_Store_Tally.ok b11 x10 (⟨(pv15, g16), (pv18, g19), g20⟩ : store_Store.G) _ rfl))) ?_
      refine r_u (o_mv rfl) ?_
      refine r_c (s_w (o_call ca14 rfl (store_Store_Seq.ok b11 x10 (⟨(pv15, g16), (pv18, g19), g20⟩ : store_Store.G) _ rfl))) ?_
      refine r_new (o_al ze47) fun b24 => ?_
      refine r_u (o_as rfl) ?_
      refine r_u0 (o_stn ag47 rfl rfl rfl rfl rfl rfl rfl) ?_
      refine r_u (o_as rfl) ?_
      refine r_nil ?_
      refine x_seq ?_
      refine c_seq ?_
      refine c_reg ?_
      refine r_u (o_mv rfl) ?_
      refine r_u (o_mv rfl) ?_
      refine r_u (o_bin rfl rfl (bW_and a2 15)) ?_
      refine r_u (o_bin rfl rfl (bW_add r1.2.1 (a2 &&& 15))) ?_
      refine r_u (o_as rfl) ?_
      refine r_nil ?_
      refine x_seq ?_
      refine c_seq ?_
      refine c_reg ?_
      refine r_u (o_mv rfl) ?_
      refine r_u (o_mv rfl) ?_
      refine r_u (o_bin rfl rfl (bW_add (store_Store_Seq x10) 1)) ?_
      refine r_u (o_mv rfl) ?_
      refine r_u (o_bld [vI 5, vS [], vS [], vW 0, vW 0] rfl (fun _ => by kernel_rfl)) ?_
      refine r_u (o_bld [vW ((store_Store_Seq x10) + 1), vW (r1.2.1 + (a2 &&& 15)), vW 99, vW 1, vI 5, vS [], vS [], vW 0, vW 0] rfl (fun _ => by kernel_rfl)) ?_
      obtain ⟨r25, hr25, hm34⟩ := bs hm23
      clear hm23
      refine rl_st (fun _ h => mv4 (mv4 (mv4 (mv4 h)))) ?_
      refine r_sw (s_w (o_call ca15 rfl (store_Store_Apply.ok b11 x10 (⟨(pv15, g16), (pv18, g19), g20⟩ : store_Store.G) (⟨(store_Store_Seq x10) + 1, r1.2.1 + (a2 &&& 15), 99, 1, (⟨5, [], [], 0, 0⟩ : api_Op)⟩ : api_Record) r25 hr25))) ?_
      rintro _ R _ _ ⟨⟨⟨pv28, g29⟩, ⟨pv31, g32⟩, g33⟩, rfl, rfl, rfl⟩
      refine r_u (o_mv rfl) ?_
      refine r_u (o_ext rfl rfl) ?_
      refine r_u (o_ext rfl rfl) ?_
      refine r_new (o_al ze41) fun b35 => ?_
      refine r_u0 (o_stn ag41 rfl rfl rfl rfl rfl rfl rfl) ?_
      refine r_u (o_as rfl) ?_
      refine r_nil ?_
      refine x_seq ?_
      refine c_seq ?_
      refine c_reg ?_
      refine r_u (o_mv rfl) ?_
      obtain ⟨r36, hr36, hm37⟩ := ltx hm34
      clear hm34
      refine rl_st (fun _ h => mv4 (mv4 (mv4 (mv4 h)))) ?_
      refine r_c (s_w (o_call ca21 rfl (store_Store_Told.ok b11 r25.2.2 (⟨(pv28, g29), (pv31, g32), g33⟩ : store_Store.G) 99 r36 hr36))) ?_
      refine r_u (o_mv rfl) ?_
      refine r_u (o_ext rfl rfl) ?_
      refine r_u (o_ext rfl rfl) ?_
      refine r_u (o_ext rfl rfl) ?_
      refine r_new (o_al ze41) fun b38 => ?_
      refine r_u (o_as rfl) ?_
      refine r_u0 (o_stn ag41 rfl rfl rfl rfl rfl rfl rfl) ?_
      refine r_u (o_as rfl) ?_
      refine r_nil ?_
      refine x_seq ?_
      refine c_seq ?_
      refine c_reg ?_
      refine r_u (o_as rfl) ?_
      refine r_nil ?_
      refine x_seq ?_
      refine c_seq ?_
      refine c_seq ?_
      refine c_reg ?_
      refine r_u (o_as rfl) ?_
      refine r_nil ?_
      refine x_seq ?_
      obtain ⟨p39, hp40, hm41⟩ := bs hm37
      refine cd_join (E' := [(7, pt b11 0), (11, pt b24 0), (12, vW (store_Store_Seq x10)), (13, vW (r1.2.1 + (a2 &&& 15))), (14, pt b35 0), (15, vI r25.2.1), (18, vB r36.2.2), (19, vI p39)]) (L' := Bk b38 41 (api_Reply.c r36.2.1) :: Bk b11 96 [vI r25.2.2.c.Policy, vI r25.2.2.c.Entries, vI r25.2.2.c.Bytes, vW r25.2.2.c.Seed, pv28, pv31, g33, vW r25.2.2.seq, vW r25.2.2.now, vW r25.2.2.version, vI r25.2.2.tally.Asked, vI r25.2.2.tally.Hits] :: Bk b35 41 (api_Reply.c r25.1) :: Bk b24 47 (api_Tally.c (store_Store_Tally x10)) :: Bk b0 24 (api_Config.c a0) :: rO (table_Table.op g29) pv28 r25.2.2.t :: rO (policy_Policy.op g32) pv31 r25.2.2.p :: OwM vW store_last.v g33 r25.2.2.sessions :: OwS true 50 4 api_Entry.c v22 r21 :: F) ?_ fun K42 => ?_
      · refine x_seq ?_
        refine c_seq ?_
        refine cd_by (((r25.2.1 == 0) && decide (r25.1 = (⟨0, [], 0⟩ : api_Reply))) && !r36.2.2) (fun h43 => ?_) fun h43 => ?_
        · have hm44 := ift hm41 h43
          clear hm41
          refine cd_by ((store_Store_Seq r25.2.2) == ((store_Store_Seq x10) + 1)) (fun h45 => ?_) fun h45 => ?_
          · have hm46 := ift hm44 h45
            clear hm44
            refine cd_by (decide ((store_Store_Tally r25.2.2) = (store_Store_Tally x10))) (fun h47 => ?_) fun h47 => ?_
            · have hm48 := ift hm46 h47
              clear hm46
              obtain ⟨r49, hr49, hm51⟩ := bs hm48
              clear hm48
              refine cd_by ((r49.length : Int) == p39) (fun h52 => ?_) fun h52 => ?_
              · have hm53 := ift hm51 h52
                clear hm51
                refine c_any mixed (effs := [26]) (V := []) ?_
                refine stage_st (fun _ h => mv4 (mv7 (mv7 (mv7 h)))) ?_
                refine stage_ext [(0, vI r25.2.1), (1, vB (r25.2.1 == 0)), (2, vB (r25.2.1 == 0)), (3, gv (r25.2.1 == 0) (.agg (api_Reply.c r25.1).toArray)), (4, gv (r25.2.1 == 0) (.agg [vI 0, vS [], vW 0].toArray)), (5, gv (r25.2.1 == 0) (vB (decide (r25.1 = (⟨0, [], 0⟩ : api_Reply))))), (6, vB ((r25.2.1 == 0) && decide (r25.1 = (⟨0, [], 0⟩ : api_Reply)))), (7, vB ((r25.2.1 == 0) && decide (r25.1 = (⟨0, [], 0⟩ : api_Reply)))), (8, gv ((r25.2.1 == 0) && decide (r25.1 = (⟨0, [], 0⟩ : api_Reply))) (vB r36.2.2)), (9, gv ((r25.2.1 == 0) && decide (r25.1 = (⟨0, [], 0⟩ : api_Reply))) (vB (!r36.2.2))), (10, vB (((r25.2.1 == 0) && decide (r25.1 = (⟨0, [], 0⟩ : api_Reply))) && !r36.2.2)), (11, vB (((r25.2.1 == 0) && decide (r25.1 = (⟨0, [], 0⟩ : api_Reply))) && !r36.2.2)), (12, pt b11 0), (13, vW (store_Store_Seq r25.2.2)), (14, vW (store_Store_Seq x10)), (15, vW ((store_Store_Seq x10) + 1)), (16, vB ((store_Store_Seq r25.2.2) == ((store_Store_Seq x10) + 1))), (17, vB ((store_Store_Seq r25.2.2) == ((store_Store_Seq x10) + 1))), (18, vB ((store_Store_Seq r25.2.2) == ((store_Store_Seq x10) + 1))), (19, pt b11 0), (20, .agg (api_Tally.c (store_Store_Tally r25.2.2)).toArray), (21, .agg (api_Tally.c (store_Store_Tally x10)).toArray), (22, vB (decide ((store_Store_Tally r25.2.2) = (store_Store_Tally x10)))), (23, vB (decide ((store_Store_Tally r25.2.2) = (store_Store_Tally x10)))), (24, vB (decide ((store_Store_Tally r25.2.2) = (store_Store_Tally x10)))), (25, pt b11 0), (28, vI p39)] rfl ?_
                refine stage rfl rfl rfl rfl [0, 1, 3, 7, 7, 31, 63, 127, 255, 511, 1023, 2047, 4095, 8191, 4095, 20479, 65535, 131071, 262143, 524287, 1048575, 524287, 4194303, 8388607, 16777215, 33554431, 67108863, 134217727, 33554431, 536870911, 1073741823, 2147483647, 4294967295, 8589934591, 4294967295, 34359738367, 68719476735, 137438953471] [0, 1, 2, 3, 4, 5, 6, 7, 8, 9, 10, 11, 12, 13, 14, 15, 16, 17, 18, 19, 20, 21, 22, 23, 24, 25, 28] [26] rfl rfl rfl (qc rfl rfl (s_u (o_mv rfl)) (qc rfl rfl (s_u (o_bin rfl rfl (bI_eq r25.2.1 0))) (qc rfl rfl (s_u (o_mv rfl)) (qc rfl rfl (s_gt rfl rfl fun g => o_ldn 5 (api_Reply.c r25.1) ag41 rfl rfl rfl rfl) (qc rfl rfl (s_gt rfl rfl fun g => o_bld [vI 0, vS [], vW 0] rfl (fun _ => by kernel_rfl)) (qc rfl rfl (s_gt rfl rfl fun g => o_bin (evg rfl g) (evg rfl g) (api_Reply.beq_41 r25.1 (⟨0, [], 0⟩ : api_Reply))) (qc rfl rfl (s_u (o_and rfl rfl)) (qc rfl rfl (s_u (o_mv rfl)) (qc rfl rfl (s_gt rfl rfl fun g => o_mv rfl) (qc rfl rfl (s_gt rfl rfl fun g => o_not (evg rfl g)) (qc rfl rfl (s_u (o_and rfl rfl)) (qc rfl rfl (s_u (o_mv rfl)) (qc rfl rfl (s_y rfl rfl h43 (o_mv rfl)) (qc rfl rfl (s_y rfl rfl h43 (o_callqP ca14 rfl (store_Store_Seq.ok b11 r25.2.2 (⟨(pv28, g29), (pv31, g32), g33⟩ : store_Store.G) _ rfl) (fun _ h => st_pk 9 [0, 1, 2, 3, 4, 5, 6, 7, 8] (by decide) h) (fun _ h => st_pk 9 [0, 1, 2, 3, 4, 5, 6, 7, 8] (by decide) h))) (qc rfl rfl (s_y rfl rfl h43 (o_mv rfl)) (qc rfl rfl (s_y rfl rfl h43 (o_bin rfl rfl (bW_add (store_Store_Seq x10) 1))) (qc rfl rfl (s_y rfl rfl h43 (o_bin rfl rfl (bW_eq (store_Store_Seq r25.2.2) ((store_Store_Seq x10) + 1)))) (qc rfl rfl (s_u (o_pt rfl h43 rfl)) (qc rfl rfl (s_u (o_mv rfl)) (qc rfl rfl (s_y rfl rfl h45 (o_mv rfl)) (qc rfl rfl (s_y rfl rfl h45 (o_callqP ca17 rfl (store_Store_Tally.ok b11 r25.2.2 (⟨(pv28, g29), (pv31, g32), g33⟩ : store_Store.G) _ rfl) (fun _ h => st_pk 9 [0, 1, 2, 3, 4, 5, 6, 7, 8] (by decide) h) (fun _ h => st_pk 9 [0, 1, 2, 3, 4, 5, 6, 7, 8] (by decide) h))) (qc rfl rfl (s_y rfl rfl h45 (o_ldn 6 (api_Tally.c (store_Store_Tally x10)) ag47 rfl rfl rfl rfl)) (qc rfl rfl (s_y rfl rfl h45 (o_bin rfl rfl (api_Tally.beq_47 (store_Store_Tally r25.2.2) (store_Store_Tally x10)))) (qc rfl rfl (s_u (o_pt rfl h45 rfl)) (qc rfl rfl (s_u (o_mv rfl)) (qc rfl rfl (s_y rfl rfl h47 (o_mv rfl)) (qc rfl rfl (s_y rfl rfl h47 (o_mv rfl)) qn))))))))))))))))))))))))))) ?_ (fun h => absurd h (by decide))
                refine ec (eo_w rfl (s_yw rfl rfl h47 (o_call ca16 rfl (store_Store_Entries.ok b11 r25.2.2 (⟨(pv28, g29), (pv31, g32), g33⟩ : store_Store.G) r49 hr49))) ?_) en
                rintro v54 R _ _ ⟨_, rfl, rfl, rfl⟩
                refine stage_ext [(27, vI (r49.length : Int)), (29, vB ((r49.length : Int) == p39)), (30, vB ((r49.length : Int) == p39)), (31, vB ((r49.length : Int) == p39)), (32, pt b11 0), (33, vW (store_Store_Now r25.2.2)), (34, vW (r1.2.1 + (a2 &&& 15))), (35, vB (decide ((r1.2.1 + (a2 &&& 15)) ≤ (store_Store_Now r25.2.2)))), (36, vB (decide ((r1.2.1 + (a2 &&& 15)) ≤ (store_Store_Now r25.2.2)))), (37, vB (decide ((r1.2.1 + (a2 &&& 15)) ≤ (store_Store_Now r25.2.2))))] rfl ?_
                refine stage rfl rfl rfl rfl [0, 1, 3, 7, 7, 31, 63, 127, 255, 511, 1023, 2047, 4095, 8191, 4095, 20479, 65535, 131071, 262143, 524287, 1048575, 524287, 4194303, 8388607, 16777215, 33554431, 67108863, 134217727, 33554431, 536870911, 1073741823, 2147483647, 4294967295, 8589934591, 4294967295, 34359738367, 68719476735, 137438953471] [27, 28, 29, 30, 31, 32, 33, 34, 35, 36, 37] [] rfl rfl rfl (qc rfl rfl (s_y rfl rfl h47 (o_lenO 0 Tryz.underlying44 rfl rfl)) (qc rfl rfl (s_y rfl rfl h47 (o_mv rfl)) (qc rfl rfl (s_y rfl rfl h47 (o_bin rfl rfl (bI_eq (r49.length : Int) p39))) (qc rfl rfl (s_u (o_pt rfl h47 rfl)) (qc rfl rfl (s_u (o_mv rfl)) (qc rfl rfl (s_y rfl rfl h52 (o_mv rfl)) (qc rfl rfl (s_y rfl rfl h52 (o_callqP ca20 rfl (store_Store_Now.ok b11 r25.2.2 (⟨(pv28, g29), (pv31, g32), g33⟩ : store_Store.G) _ rfl) (fun _ h => st_pk 10 [1, 2, 3, 4, 0, 5, 6, 7, 8, 9] (by decide) h) (fun _ h => st_pk 10 [4, 0, 1, 2, 3, 5, 6, 7, 8, 9] (by decide) h))) (qc rfl rfl (s_y rfl rfl h52 (o_mv rfl)) (qc rfl rfl (s_y rfl rfl h52 (o_bin rfl rfl (bW_ge (store_Store_Now r25.2.2) (r1.2.1 + (a2 &&& 15))))) (qc rfl rfl (s_u (o_pt rfl h52 rfl)) (qc rfl rfl (s_u (o_as rfl)) qn))))))))))) en ?_
                intro _
                refine ex_sub (E' := [(6, vB (decide ((r1.2.1 + (a2 &&& 15)) ≤ (store_Store_Now r25.2.2))))]) ⟨rfl, trivial⟩ ?_
                refine x_seq ?_
                refine c_ret ?_
                obtain rfl := Option.some.inj hm53
                refine ex_st (fun _ h => st_pk 10 [] (by decide) h) ?_
                exact x_r1 rfl (rv_t rfl) (Le.refl _) ⟨_, rfl, rfl, rfl, rfl⟩
              · have hm53 := iff_ hm51 h52
                clear hm51
                refine c_any mixed (effs := [26]) (V := []) ?_
                refine stage_st (fun _ h => mv4 (mv7 (mv7 (mv7 h)))) ?_
                refine stage_ext [(0, vI r25.2.1), (1, vB (r25.2.1 == 0)), (2, vB (r25.2.1 == 0)), (3, gv (r25.2.1 == 0) (.agg (api_Reply.c r25.1).toArray)), (4, gv (r25.2.1 == 0) (.agg [vI 0, vS [], vW 0].toArray)), (5, gv (r25.2.1 == 0) (vB (decide (r25.1 = (⟨0, [], 0⟩ : api_Reply))))), (6, vB ((r25.2.1 == 0) && decide (r25.1 = (⟨0, [], 0⟩ : api_Reply)))), (7, vB ((r25.2.1 == 0) && decide (r25.1 = (⟨0, [], 0⟩ : api_Reply)))), (8, gv ((r25.2.1 == 0) && decide (r25.1 = (⟨0, [], 0⟩ : api_Reply))) (vB r36.2.2)), (9, gv ((r25.2.1 == 0) && decide (r25.1 = (⟨0, [], 0⟩ : api_Reply))) (vB (!r36.2.2))), (10, vB (((r25.2.1 == 0) && decide (r25.1 = (⟨0, [], 0⟩ : api_Reply))) && !r36.2.2)), (11, vB (((r25.2.1 == 0) && decide (r25.1 = (⟨0, [], 0⟩ : api_Reply))) && !r36.2.2)), (12, pt b11 0), (13, vW (store_Store_Seq r25.2.2)), (14, vW (store_Store_Seq x10)), (15, vW ((store_Store_Seq x10) + 1)), (16, vB ((store_Store_Seq r25.2.2) == ((store_Store_Seq x10) + 1))), (17, vB ((store_Store_Seq r25.2.2) == ((store_Store_Seq x10) + 1))), (18, vB ((store_Store_Seq r25.2.2) == ((store_Store_Seq x10) + 1))), (19, pt b11 0), (20, .agg (api_Tally.c (store_Store_Tally r25.2.2)).toArray), (21, .agg (api_Tally.c (store_Store_Tally x10)).toArray), (22, vB (decide ((store_Store_Tally r25.2.2) = (store_Store_Tally x10)))), (23, vB (decide ((store_Store_Tally r25.2.2) = (store_Store_Tally x10)))), (24, vB (decide ((store_Store_Tally r25.2.2) = (store_Store_Tally x10)))), (25, pt b11 0), (28, vI p39)] rfl ?_
                refine stage rfl rfl rfl rfl [0, 1, 3, 7, 7, 31, 63, 127, 255, 511, 1023, 2047, 4095, 8191, 4095, 20479, 65535, 131071, 262143, 524287, 1048575, 524287, 4194303, 8388607, 16777215, 33554431, 67108863, 134217727, 33554431, 536870911, 1073741823, 2147483647, 4294967295, 8589934591, 4294967295, 34359738367, 68719476735, 137438953471] [0, 1, 2, 3, 4, 5, 6, 7, 8, 9, 10, 11, 12, 13, 14, 15, 16, 17, 18, 19, 20, 21, 22, 23, 24, 25, 28] [26] rfl rfl rfl (qc rfl rfl (s_u (o_mv rfl)) (qc rfl rfl (s_u (o_bin rfl rfl (bI_eq r25.2.1 0))) (qc rfl rfl (s_u (o_mv rfl)) (qc rfl rfl (s_gt rfl rfl fun g => o_ldn 5 (api_Reply.c r25.1) ag41 rfl rfl rfl rfl) (qc rfl rfl (s_gt rfl rfl fun g => o_bld [vI 0, vS [], vW 0] rfl (fun _ => by kernel_rfl)) (qc rfl rfl (s_gt rfl rfl fun g => o_bin (evg rfl g) (evg rfl g) (api_Reply.beq_41 r25.1 (⟨0, [], 0⟩ : api_Reply))) (qc rfl rfl (s_u (o_and rfl rfl)) (qc rfl rfl (s_u (o_mv rfl)) (qc rfl rfl (s_gt rfl rfl fun g => o_mv rfl) (qc rfl rfl (s_gt rfl rfl fun g => o_not (evg rfl g)) (qc rfl rfl (s_u (o_and rfl rfl)) (qc rfl rfl (s_u (o_mv rfl)) (qc rfl rfl (s_y rfl rfl h43 (o_mv rfl)) (qc rfl rfl (s_y rfl rfl h43 (o_callqP ca14 rfl (store_Store_Seq.ok b11 r25.2.2 (⟨(pv28, g29), (pv31, g32), g33⟩ : store_Store.G) _ rfl) (fun _ h => st_pk 9 [0, 1, 2, 3, 4, 5, 6, 7, 8] (by decide) h) (fun _ h => st_pk 9 [0, 1, 2, 3, 4, 5, 6, 7, 8] (by decide) h))) (qc rfl rfl (s_y rfl rfl h43 (o_mv rfl)) (qc rfl rfl (s_y rfl rfl h43 (o_bin rfl rfl (bW_add (store_Store_Seq x10) 1))) (qc rfl rfl (s_y rfl rfl h43 (o_bin rfl rfl (bW_eq (store_Store_Seq r25.2.2) ((store_Store_Seq x10) + 1)))) (qc rfl rfl (s_u (o_pt rfl h43 rfl)) (qc rfl rfl (s_u (o_mv rfl)) (qc rfl rfl (s_y rfl rfl h45 (o_mv rfl)) (qc rfl rfl (s_y rfl rfl h45 (o_callqP ca17 rfl (store_Store_Tally.ok b11 r25.2.2 (⟨(pv28, g29), (pv31, g32), g33⟩ : store_Store.G) _ rfl) (fun _ h => st_pk 9 [0, 1, 2, 3, 4, 5, 6, 7, 8] (by decide) h) (fun _ h => st_pk 9 [0, 1, 2, 3, 4, 5, 6, 7, 8] (by decide) h))) (qc rfl rfl (s_y rfl rfl h45 (o_ldn 6 (api_Tally.c (store_Store_Tally x10)) ag47 rfl rfl rfl rfl)) (qc rfl rfl (s_y rfl rfl h45 (o_bin rfl rfl (api_Tally.beq_47 (store_Store_Tally r25.2.2) (store_Store_Tally x10)))) (qc rfl rfl (s_u (o_pt rfl h45 rfl)) (qc rfl rfl (s_u (o_mv rfl)) (qc rfl rfl (s_y rfl rfl h47 (o_mv rfl)) (qc rfl rfl (s_y rfl rfl h47 (o_mv rfl)) qn))))))))))))))))))))))))))) ?_ (fun h => absurd h (by decide))
                refine ec (eo_w rfl (s_yw rfl rfl h47 (o_call ca16 rfl (store_Store_Entries.ok b11 r25.2.2 (⟨(pv28, g29), (pv31, g32), g33⟩ : store_Store.G) r49 hr49))) ?_) en
                rintro v55 R _ _ ⟨_, rfl, rfl, rfl⟩
                refine stage_ext [(27, vI (r49.length : Int)), (29, vB ((r49.length : Int) == p39)), (30, vB ((r49.length : Int) == p39)), (31, vB ((r49.length : Int) == p39)), (32, undef), (33, undef), (34, undef), (35, undef), (36, vB false), (37, vB false)] rfl ?_
                refine stage rfl rfl rfl rfl [0, 1, 3, 7, 7, 31, 63, 127, 255, 511, 1023, 2047, 4095, 8191, 4095, 20479, 65535, 131071, 262143, 524287, 1048575, 524287, 4194303, 8388607, 16777215, 33554431, 67108863, 134217727, 33554431, 536870911, 1073741823, 2147483647, 4294967295, 8589934591, 4294967295, 34359738367, 68719476735, 137438953471] [27, 28, 29, 30, 31, 32, 33, 34, 35, 36, 37] [] rfl rfl rfl (qc rfl rfl (s_y rfl rfl h47 (o_lenO 0 Tryz.underlying44 rfl rfl)) (qc rfl rfl (s_y rfl rfl h47 (o_mv rfl)) (qc rfl rfl (s_y rfl rfl h47 (o_bin rfl rfl (bI_eq (r49.length : Int) p39))) (qc rfl rfl (s_u (o_pt rfl h47 rfl)) (qc rfl rfl (s_u (o_mv rfl)) (qc rfl rfl (s_n rfl rfl h52) (qc rfl rfl (s_n rfl rfl h52) (qc rfl rfl (s_n rfl rfl h52) (qc rfl rfl (s_n rfl rfl h52) (qc rfl rfl (s_u (o_pf rfl h52 rfl)) (qc rfl rfl (s_u (o_as rfl)) qn))))))))))) en ?_
                intro _
                refine ex_sub (E' := [(6, vB false)]) ⟨rfl, trivial⟩ ?_
                refine x_seq ?_
                refine c_ret ?_
                obtain rfl := Option.some.inj hm53
                refine ex_st (fun _ h => st_pk 10 [] (by decide) h) ?_
                exact x_r1 rfl (rv_t rfl) (Le.refl _) ⟨_, rfl, rfl, rfl, rfl⟩
            · have hm48 := iff_ hm46 h47
              clear hm46
              refine c_any mixed (effs := []) (V := []) ?_
              refine stage_ext [(0, vI r25.2.1), (1, vB (r25.2.1 == 0)), (2, vB (r25.2.1 == 0)), (3, gv (r25.2.1 == 0) (.agg (api_Reply.c r25.1).toArray)), (4, gv (r25.2.1 == 0) (.agg [vI 0, vS [], vW 0].toArray)), (5, gv (r25.2.1 == 0) (vB (decide (r25.1 = (⟨0, [], 0⟩ : api_Reply))))), (6, vB ((r25.2.1 == 0) && decide (r25.1 = (⟨0, [], 0⟩ : api_Reply)))), (7, vB ((r25.2.1 == 0) && decide (r25.1 = (⟨0, [], 0⟩ : api_Reply)))), (8, gv ((r25.2.1 == 0) && decide (r25.1 = (⟨0, [], 0⟩ : api_Reply))) (vB r36.2.2)), (9, gv ((r25.2.1 == 0) && decide (r25.1 = (⟨0, [], 0⟩ : api_Reply))) (vB (!r36.2.2))), (10, vB (((r25.2.1 == 0) && decide (r25.1 = (⟨0, [], 0⟩ : api_Reply))) && !r36.2.2)), (11, vB (((r25.2.1 == 0) && decide (r25.1 = (⟨0, [], 0⟩ : api_Reply))) && !r36.2.2)), (12, pt b11 0), (13, vW (store_Store_Seq r25.2.2)), (14, vW (store_Store_Seq x10)), (15, vW ((store_Store_Seq x10) + 1)), (16, vB ((store_Store_Seq r25.2.2) == ((store_Store_Seq x10) + 1))), (17, vB ((store_Store_Seq r25.2.2) == ((store_Store_Seq x10) + 1))), (18, vB ((store_Store_Seq r25.2.2) == ((store_Store_Seq x10) + 1))), (19, pt b11 0), (20, .agg (api_Tally.c (store_Store_Tally r25.2.2)).toArray), (21, .agg (api_Tally.c (store_Store_Tally x10)).toArray), (22, vB (decide ((store_Store_Tally r25.2.2) = (store_Store_Tally x10)))), (23, vB (decide ((store_Store_Tally r25.2.2) = (store_Store_Tally x10)))), (24, vB (decide ((store_Store_Tally r25.2.2) = (store_Store_Tally x10)))), (25, undef), (26, undef), (27, undef), (28, undef), (29, undef), (30, vB false), (31, vB false), (32, undef), (33, undef), (34, undef), (35, undef), (36, vB false), (37, vB false)] rfl ?_
              refine stage rfl rfl rfl rfl [0, 1, 3, 7, 7, 31, 63, 127, 255, 511, 1023, 2047, 4095, 8191, 4095, 20479, 65535, 131071, 262143, 524287, 1048575, 524287, 4194303, 8388607, 16777215, 33554431, 67108863, 134217727, 33554431, 536870911, 1073741823, 2147483647, 4294967295, 8589934591, 4294967295, 34359738367, 68719476735, 137438953471] [0, 1, 2, 3, 4, 5, 6, 7, 8, 9, 10, 11, 12, 13, 14, 15, 16, 17, 18, 19, 20, 21, 22, 23, 24, 25, 26, 27, 28, 29, 30, 31, 32, 33, 34, 35, 36, 37] [] rfl rfl rfl (qc rfl rfl (s_u (o_mv rfl)) (qc rfl rfl (s_u (o_bin rfl rfl (bI_eq r25.2.1 0))) (qc rfl rfl (s_u (o_mv rfl)) (qc rfl rfl (s_gt rfl rfl fun g => o_ldn 2 (api_Reply.c r25.1) ag41 rfl rfl rfl rfl) (qc rfl rfl (s_gt rfl rfl fun g => o_bld [vI 0, vS [], vW 0] rfl (fun _ => by kernel_rfl)) (qc rfl rfl (s_gt rfl rfl fun g => o_bin (evg rfl g) (evg rfl g) (api_Reply.beq_41 r25.1 (⟨0, [], 0⟩ : api_Reply))) (qc rfl rfl (s_u (o_and rfl rfl)) (qc rfl rfl (s_u (o_mv rfl)) (qc rfl rfl (s_gt rfl rfl fun g => o_mv rfl) (qc rfl rfl (s_gt rfl rfl fun g => o_not (evg rfl g)) (qc rfl rfl (s_u (o_and rfl rfl)) (qc rfl rfl (s_u (o_mv rfl)) (qc rfl rfl (s_y rfl rfl h43 (o_mv rfl)) (qc rfl rfl (s_y rfl rfl h43 (o_callqP ca14 rfl (store_Store_Seq.ok b11 r25.2.2 (⟨(pv28, g29), (pv31, g32), g33⟩ : store_Store.G) _ rfl) (fun _ h => st_pk 9 [1, 5, 6, 7, 0, 2, 3, 4, 8] (by decide) h) (fun _ h => st_pk 9 [4, 0, 5, 6, 7, 1, 2, 3, 8] (by decide) h))) (qc rfl rfl (s_y rfl rfl h43 (o_mv rfl)) (qc rfl rfl (s_y rfl rfl h43 (o_bin rfl rfl (bW_add (store_Store_Seq x10) 1))) (qc rfl rfl (s_y rfl rfl h43 (o_bin rfl rfl (bW_eq (store_Store_Seq r25.2.2) ((store_Store_Seq x10) + 1)))) (qc rfl rfl (s_u (o_pt rfl h43 rfl)) (qc rfl rfl (s_u (o_mv rfl)) (qc rfl rfl (s_y rfl rfl h45 (o_mv rfl)) (qc rfl rfl (s_y rfl rfl h45 (o_callqP ca17 rfl (store_Store_Tally.ok b11 r25.2.2 (⟨(pv28, g29), (pv31, g32), g33⟩ : store_Store.G) _ rfl) (fun _ h => st_pk 9 [1, 5, 6, 7, 0, 2, 3, 4, 8] (by decide) h) (fun _ h => st_pk 9 [4, 0, 5, 6, 7, 1, 2, 3, 8] (by decide) h))) (qc rfl rfl (s_y rfl rfl h45 (o_ldn 3 (api_Tally.c (store_Store_Tally x10)) ag47 rfl rfl rfl rfl)) (qc rfl rfl (s_y rfl rfl h45 (o_bin rfl rfl (api_Tally.beq_47 (store_Store_Tally r25.2.2) (store_Store_Tally x10)))) (qc rfl rfl (s_u (o_pt rfl h45 rfl)) (qc rfl rfl (s_u (o_mv rfl)) (qc rfl rfl (s_n rfl rfl h47) (qc rfl rfl (s_n rfl rfl h47) (qc rfl rfl (s_n rfl rfl h47) (qc rfl rfl (s_n rfl rfl h47) (qc rfl rfl (s_n rfl rfl h47) (qc rfl rfl (s_u (o_pf rfl h47 rfl)) (qc rfl rfl (s_u (o_mv rfl)) (qc rfl rfl (s_n rfl rfl rfl) (qc rfl rfl (s_n rfl rfl rfl) (qc rfl rfl (s_n rfl rfl rfl) (qc rfl rfl (s_n rfl rfl rfl) (qc rfl rfl (s_u (o_pf rfl rfl rfl)) (qc rfl rfl (s_u (o_as rfl)) qn)))))))))))))))))))))))))))))))))))))) en ?_
              intro _
              refine ex_sub (E' := [(6, vB false)]) ⟨rfl, trivial⟩ ?_
              refine x_seq ?_
              refine c_ret ?_
              obtain rfl := Option.some.inj hm48
              refine ex_st (fun _ h => st_pk 9 [] (by decide) h) ?_
              exact x_r1 rfl (rv_t rfl) (Le.refl _) ⟨_, rfl, rfl, rfl, rfl⟩
          · have hm46 := iff_ hm44 h45
            clear hm44
            refine c_any mixed (effs := []) (V := []) ?_
            refine stage_ext [(0, vI r25.2.1), (1, vB (r25.2.1 == 0)), (2, vB (r25.2.1 == 0)), (3, gv (r25.2.1 == 0) (.agg (api_Reply.c r25.1).toArray)), (4, gv (r25.2.1 == 0) (.agg [vI 0, vS [], vW 0].toArray)), (5, gv (r25.2.1 == 0) (vB (decide (r25.1 = (⟨0, [], 0⟩ : api_Reply))))), (6, vB ((r25.2.1 == 0) && decide (r25.1 = (⟨0, [], 0⟩ : api_Reply)))), (7, vB ((r25.2.1 == 0) && decide (r25.1 = (⟨0, [], 0⟩ : api_Reply)))), (8, gv ((r25.2.1 == 0) && decide (r25.1 = (⟨0, [], 0⟩ : api_Reply))) (vB r36.2.2)), (9, gv ((r25.2.1 == 0) && decide (r25.1 = (⟨0, [], 0⟩ : api_Reply))) (vB (!r36.2.2))), (10, vB (((r25.2.1 == 0) && decide (r25.1 = (⟨0, [], 0⟩ : api_Reply))) && !r36.2.2)), (11, vB (((r25.2.1 == 0) && decide (r25.1 = (⟨0, [], 0⟩ : api_Reply))) && !r36.2.2)), (12, pt b11 0), (13, vW (store_Store_Seq r25.2.2)), (14, vW (store_Store_Seq x10)), (15, vW ((store_Store_Seq x10) + 1)), (16, vB ((store_Store_Seq r25.2.2) == ((store_Store_Seq x10) + 1))), (17, vB ((store_Store_Seq r25.2.2) == ((store_Store_Seq x10) + 1))), (18, vB ((store_Store_Seq r25.2.2) == ((store_Store_Seq x10) + 1))), (19, undef), (20, undef), (21, undef), (22, undef), (23, vB false), (24, vB false), (25, undef), (26, undef), (27, undef), (28, undef), (29, undef), (30, vB false), (31, vB false), (32, undef), (33, undef), (34, undef), (35, undef), (36, vB false), (37, vB false)] rfl ?_
            refine stage rfl rfl rfl rfl [0, 1, 3, 7, 7, 31, 63, 127, 255, 511, 1023, 2047, 4095, 8191, 4095, 20479, 65535, 131071, 262143, 524287, 1048575, 524287, 4194303, 8388607, 16777215, 33554431, 67108863, 134217727, 33554431, 536870911, 1073741823, 2147483647, 4294967295, 8589934591, 4294967295, 34359738367, 68719476735, 137438953471] [0, 1, 2, 3, 4, 5, 6, 7, 8, 9, 10, 11, 12, 13, 14, 15, 16, 17, 18, 19, 20, 21, 22, 23, 24, 25, 26, 27, 28, 29, 30, 31, 32, 33, 34, 35, 36, 37] [] rfl rfl rfl (qc rfl rfl (s_u (o_mv rfl)) (qc rfl rfl (s_u (o_bin rfl rfl (bI_eq r25.2.1 0))) (qc rfl rfl (s_u (o_mv rfl)) (qc rfl rfl (s_gt rfl rfl fun g => o_ldn 2 (api_Reply.c r25.1) ag41 rfl rfl rfl rfl) (qc rfl rfl (s_gt rfl rfl fun g => o_bld [vI 0, vS [], vW 0] rfl (fun _ => by kernel_rfl)) (qc rfl rfl (s_gt rfl rfl fun g => o_bin (evg rfl g) (evg rfl g) (api_Reply.beq_41 r25.1 (⟨0, [], 0⟩ : api_Reply))) (qc rfl rfl (s_u (o_and rfl rfl)) (qc rfl rfl (s_u (o_mv rfl)) (qc rfl rfl (s_gt rfl rfl fun g => o_mv rfl) (qc rfl rfl (s_gt rfl rfl fun g => o_not (evg rfl g)) (qc rfl rfl (s_u (o_and rfl rfl)) (qc rfl rfl (s_u (o_mv rfl)) (qc rfl rfl (s_y rfl rfl h43 (o_mv rfl)) (qc rfl rfl (s_y rfl rfl h43 (o_callqP ca14 rfl (store_Store_Seq.ok b11 r25.2.2 (⟨(pv28, g29), (pv31, g32), g33⟩ : store_Store.G) _ rfl) (fun _ h => st_pk 9 [1, 5, 6, 7, 0, 2, 3, 4, 8] (by decide) h) (fun _ h => st_pk 9 [4, 0, 5, 6, 7, 1, 2, 3, 8] (by decide) h))) (qc rfl rfl (s_y rfl rfl h43 (o_mv rfl)) (qc rfl rfl (s_y rfl rfl h43 (o_bin rfl rfl (bW_add (store_Store_Seq x10) 1))) (qc rfl rfl (s_y rfl rfl h43 (o_bin rfl rfl (bW_eq (store_Store_Seq r25.2.2) ((store_Store_Seq x10) + 1)))) (qc rfl rfl (s_u (o_pt rfl h43 rfl)) (qc rfl rfl (s_u (o_mv rfl)) (qc rfl rfl (s_n rfl rfl h45) (qc rfl rfl (s_n rfl rfl h45) (qc rfl rfl (s_n rfl rfl h45) (qc rfl rfl (s_n rfl rfl h45) (qc rfl rfl (s_u (o_pf rfl h45 rfl)) (qc rfl rfl (s_u (o_mv rfl)) (qc rfl rfl (s_n rfl rfl rfl) (qc rfl rfl (s_n rfl rfl rfl) (qc rfl rfl (s_n rfl rfl rfl) (qc rfl rfl (s_n rfl rfl rfl) (qc rfl rfl (s_n rfl rfl rfl) (qc rfl rfl (s_u (o_pf rfl rfl rfl)) (qc rfl rfl (s_u (o_mv rfl)) (qc rfl rfl (s_n rfl rfl rfl) (qc rfl rfl (s_n rfl rfl rfl) (qc rfl rfl (s_n rfl rfl rfl) (qc rfl rfl (s_n rfl rfl rfl) (qc rfl rfl (s_u (o_pf rfl rfl rfl)) (qc rfl rfl (s_u (o_as rfl)) qn)))))))))))))))))))))))))))))))))))))) en ?_
            intro _
            refine ex_sub (E' := [(6, vB false)]) ⟨rfl, trivial⟩ ?_
            refine x_seq ?_
            refine c_ret ?_
            obtain rfl := Option.some.inj hm46
            refine ex_st (fun _ h => st_pk 9 [] (by decide) h) ?_
            exact x_r1 rfl (rv_t rfl) (Le.refl _) ⟨_, rfl, rfl, rfl, rfl⟩
        · have hm44 := iff_ hm41 h43
          clear hm41
          refine c_any mixed (effs := []) (V := []) ?_
          refine stage_ext [(0, vI r25.2.1), (1, vB (r25.2.1 == 0)), (2, vB (r25.2.1 == 0)), (3, gv (r25.2.1 == 0) (.agg (api_Reply.c r25.1).toArray)), (4, gv (r25.2.1 == 0) (.agg [vI 0, vS [], vW 0].toArray)), (5, gv (r25.2.1 == 0) (vB (decide (r25.1 = (⟨0, [], 0⟩ : api_Reply))))), (6, vB ((r25.2.1 == 0) && decide (r25.1 = (⟨0, [], 0⟩ : api_Reply)))), (7, vB ((r25.2.1 == 0) && decide (r25.1 = (⟨0, [], 0⟩ : api_Reply)))), (8, gv ((r25.2.1 == 0) && decide (r25.1 = (⟨0, [], 0⟩ : api_Reply))) (vB r36.2.2)), (9, gv ((r25.2.1 == 0) && decide (r25.1 = (⟨0, [], 0⟩ : api_Reply))) (vB (!r36.2.2))), (10, vB (((r25.2.1 == 0) && decide (r25.1 = (⟨0, [], 0⟩ : api_Reply))) && !r36.2.2)), (11, vB (((r25.2.1 == 0) && decide (r25.1 = (⟨0, [], 0⟩ : api_Reply))) && !r36.2.2)), (12, undef), (13, undef), (14, undef), (15, undef), (16, undef), (17, vB false), (18, vB false), (19, undef), (20, undef), (21, undef), (22, undef), (23, vB false), (24, vB false), (25, undef), (26, undef), (27, undef), (28, undef), (29, undef), (30, vB false), (31, vB false), (32, undef), (33, undef), (34, undef), (35, undef), (36, vB false), (37, vB false)] rfl ?_
          refine stage rfl rfl rfl rfl [0, 1, 3, 7, 7, 31, 63, 127, 255, 511, 1023, 2047, 4095, 8191, 4095, 20479, 65535, 131071, 262143, 524287, 1048575, 524287, 4194303, 8388607, 16777215, 33554431, 67108863, 134217727, 33554431, 536870911, 1073741823, 2147483647, 4294967295, 8589934591, 4294967295, 34359738367, 68719476735, 137438953471] [0, 1, 2, 3, 4, 5, 6, 7, 8, 9, 10, 11, 12, 13, 14, 15, 16, 17, 18, 19, 20, 21, 22, 23, 24, 25, 26, 27, 28, 29, 30, 31, 32, 33, 34, 35, 36, 37] [] rfl rfl rfl (qc rfl rfl (s_u (o_mv rfl)) (qc rfl rfl (s_u (o_bin rfl rfl (bI_eq r25.2.1 0))) (qc rfl rfl (s_u (o_mv rfl)) (qc rfl rfl (s_gt rfl rfl fun g => o_ldn 2 (api_Reply.c r25.1) ag41 rfl rfl rfl rfl) (qc rfl rfl (s_gt rfl rfl fun g => o_bld [vI 0, vS [], vW 0] rfl (fun _ => by kernel_rfl)) (qc rfl rfl (s_gt rfl rfl fun g => o_bin (evg rfl g) (evg rfl g) (api_Reply.beq_41 r25.1 (⟨0, [], 0⟩ : api_Reply))) (qc rfl rfl (s_u (o_and rfl rfl)) (qc rfl rfl (s_u (o_mv rfl)) (qc rfl rfl (s_gt rfl rfl fun g => o_mv rfl) (qc rfl rfl (s_gt rfl rfl fun g => o_not (evg rfl g)) (qc rfl rfl (s_u (o_and rfl rfl)) (qc rfl rfl (s_u (o_mv rfl)) (qc rfl rfl (s_n rfl rfl h43) (qc rfl rfl (s_n rfl rfl h43) (qc rfl rfl (s_n rfl rfl h43) (qc rfl rfl (s_n rfl rfl h43) (qc rfl rfl (s_n rfl rfl h43) (qc rfl rfl (s_u (o_pf rfl h43 rfl)) (qc rfl rfl (s_u (o_mv rfl)) (qc rfl rfl (s_n rfl rfl rfl) (qc rfl rfl (s_n rfl rfl rfl) (qc rfl rfl (s_n rfl rfl rfl) (qc rfl rfl (s_n rfl rfl rfl) (qc rfl rfl (s_u (o_pf rfl rfl rfl)) (qc rfl rfl (s_u (o_mv rfl)) (qc rfl rfl (s_n rfl rfl rfl) (qc rfl rfl (s_n rfl rfl rfl) (qc rfl rfl (s_n rfl rfl rfl) (qc rfl rfl (s_n rfl rfl rfl) (qc rfl rfl (s_n rfl rfl rfl) (qc rfl rfl (s_u (o_pf rfl rfl rfl)) (qc rfl rfl (s_u (o_mv rfl)) (qc rfl rfl (s_n rfl rfl rfl) (qc rfl rfl (s_n rfl rfl rfl) (qc rfl rfl (s_n rfl rfl rfl) (qc rfl rfl (s_n rfl rfl rfl) (qc rfl rfl (s_u (o_pf rfl rfl rfl)) (qc rfl rfl (s_u (o_as rfl)) qn)))))))))))))))))))))))))))))))))))))) en ?_
          intro _
          refine ex_sub (E' := [(6, vB false)]) ⟨rfl, trivial⟩ ?_
          refine x_seq ?_
          refine c_ret ?_
          obtain rfl := Option.some.inj hm44
          refine ex_st (fun _ h => st_pk 9 [] (by decide) h) ?_
          exact x_r1 rfl (rv_t rfl) (Le.refl _) ⟨_, rfl, rfl, rfl, rfl⟩
      · refine c_blk ?_
        refine cd_loop (M := fun k58 (s : Int × Int) => hawthornlaw12_StoreMarks_l0 a2 r1 r21 k58 s.1 s.2 = some p39) (Ef := fun (s : Int × Int) => [(7, pt b11 0), (10, v22), (11, pt b24 0), (12, vW (store_Store_Seq x10)), (13, vW (r1.2.1 + (a2 &&& 15))), (14, pt b35 0), (15, vI r25.2.1), (18, vB r36.2.2), (19, vI s.1), (20, vI s.2)]) (Lf := fun (s : Int × Int) => Bk b38 41 (api_Reply.c r36.2.1) :: Bk b11 96 [vI r25.2.2.c.Policy, vI r25.2.2.c.Entries, vI r25.2.2.c.Bytes, vW r25.2.2.c.Seed, pv28, pv31, g33, vW r25.2.2.seq, vW r25.2.2.now, vW r25.2.2.version, vI r25.2.2.tally.Asked, vI r25.2.2.tally.Hits] :: Bk b35 41 (api_Reply.c r25.1) :: Bk b24 47 (api_Tally.c (store_Store_Tally x10)) :: Bk b0 24 (api_Config.c a0) :: rO (table_Table.op g29) pv28 r25.2.2.t :: rO (policy_Policy.op g32) pv31 r25.2.2.p :: OwM vW store_last.v g33 r25.2.2.sessions :: OwS true 50 4 api_Entry.c v22 r21 :: F) (((r21.length : Int) - 0).toNat + 1) (0, 0) hp40 ⟨rfl, rfl, rfl, rfl, rfl, rfl, rfl, rfl, rfl, rfl, trivial⟩ (fun _ h => st_pk 9 [0, 1, 5, 6, 8, 2, 3, 4, 7] (by decide) h) (fun _ h => by cases h) fun k58 s hM60 => ?_
        obtain ⟨left_56, i_57⟩ := s
        have hm59 : hawthornlaw12_StoreMarks_l0 a2 r1 r21 (k58 + 1) left_56 i_57 = some p39 := hM60
        rw [hawthornlaw12_StoreMarks_l0] at hm59
        refine c_seq ?_
        refine c_seq ?_
        refine c_reg ?_
        refine r_u (o_mv rfl) ?_
        refine r_u (o_mv rfl) ?_
        refine r_u (o_lenO 8 Tryz.underlying44 rfl rfl) ?_
        refine r_u (o_bin rfl rfl (bI_lt i_57 (r21.length : Int))) ?_
        refine r_nil ?_
        refine x_seq ?_
        refine c_if (b := decide (i_57 < (r21.length : Int))) rfl (fun h61 => ?_) fun h61 => ?_
        · have hm62 := ift hm59 h61
          clear hm59
          refine c_skip ?_
          refine x_seq ?_
          refine c_seq ?_
          refine c_blk ?_
          refine c_seq ?_
          refine c_reg ?_
          refine r_u (o_mv rfl) ?_
          refine r_u (o_mv rfl) ?_
          obtain ⟨x63, hx63, hm64⟩ := bs hm62
          clear hm62
          refine r_u (o_ixO 8 Tryz.underlying44 (fun _ => by kernel_rfl) rfl rfl rfl hx63) ?_
          refine r_u (o_fa fa50_3 rfl) ?_
          refine r_u (o_ldO 8 3 sc22 rfl rfl hx63 rfl rfl) ?_
          refine r_u (o_bin rfl rfl (bW_eq x63.End 0)) ?_
          refine r_u (o_mv rfl) ?_
          refine r_s (s_gf rfl rfl fun g => o_mv rfl) ?_
          refine r_s (s_gf rfl rfl fun g => o_mv rfl) ?_
          refine r_s (s_gf rfl rfl fun g => o_ixO 8 Tryz.underlying44 (fun _ => by kernel_rfl) (evg rfl g) (evg rfl g) rfl hx63) ?_
          refine r_s (s_gf rfl rfl fun g => o_fa fa50_3 (evg rfl g)) ?_
          refine r_s (s_gf rfl rfl fun g => o_ldO 8 3 sc22 (evg rfl g) rfl hx63 rfl rfl) ?_
          refine r_s (s_gf rfl rfl fun g => o_mv rfl) ?_
          refine r_s (s_gf rfl rfl fun g => o_bin (evg rfl g) (evg rfl g) (bW_gt x63.End (r1.2.1 + (a2 &&& 15)))) ?_
          refine r_u (o_or rfl rfl) ?_
          refine r_nil ?_
          refine x_seq ?_
          obtain ⟨p65, hp66, hm67⟩ := bs hm64
          refine cd_join (E' := [(7, pt b11 0), (10, v22), (11, pt b24 0), (12, vW (store_Store_Seq x10)), (13, vW (r1.2.1 + (a2 &&& 15))), (14, pt b35 0), (15, vI r25.2.1), (18, vB r36.2.2), (20, vI i_57), (19, vI p65)]) (L' := Bk b38 41 (api_Reply.c r36.2.1) :: Bk b11 96 [vI r25.2.2.c.Policy, vI r25.2.2.c.Entries, vI r25.2.2.c.Bytes, vW r25.2.2.c.Seed, pv28, pv31, g33, vW r25.2.2.seq, vW r25.2.2.now, vW r25.2.2.version, vI r25.2.2.tally.Asked, vI r25.2.2.tally.Hits] :: Bk b35 41 (api_Reply.c r25.1) :: Bk b24 47 (api_Tally.c (store_Store_Tally x10)) :: Bk b0 24 (api_Config.c a0) :: rO (table_Table.op g29) pv28 r25.2.2.t :: rO (policy_Policy.op g32) pv31 r25.2.2.p :: OwM vW store_last.v g33 r25.2.2.sessions :: OwS true 50 4 api_Entry.c v22 r21 :: F) ?_ fun K68 => ?_
          · refine x_blk ?_
            refine x_seq ?_
            refine c_reg ?_
            refine r_u (o_mv rfl) ?_
            refine r_u (o_bin rfl rfl (bI_add i_57 1)) ?_
            refine r_u (o_as rfl) ?_
            refine r_nil ?_
            exact x_lp (p65, i64 (i_57 + 1)) hm67 ⟨rfl, rfl, rfl, rfl, rfl, rfl, rfl, rfl, rfl, rfl, trivial⟩ (fun _ h => st_pk 9 [0, 1, 2, 3, 4, 5, 6, 7, 8] (by decide) h)
          · refine c_if (b := ((x63.End == 0) || decide ((r1.2.1 + (a2 &&& 15)) < x63.End))) rfl (fun h69 => ?_) fun h69 => ?_
            · have hm70 := ift hp66 h69
              clear hp66
              refine c_reg ?_
              refine r_u (o_mv rfl) ?_
              refine r_u (o_bin rfl rfl (bI_add left_56 1)) ?_
              refine r_u (o_as rfl) ?_
              refine r_nil ?_
              obtain rfl := Option.some.inj hm70
              exact x_sub K68 ⟨rfl, rfl, rfl, rfl, rfl, rfl, rfl, rfl, rfl, rfl, trivial⟩ (fun _ h => st_pk 9 [0, 1, 2, 3, 4, 5, 6, 7, 8] (by decide) h)
            · have hm70 := iff_ hp66 h69
              clear hp66
              refine c_skip ?_
              obtain rfl := Option.some.inj hm70
              exact x_sub K68 ⟨rfl, rfl, rfl, rfl, rfl, rfl, rfl, rfl, rfl, rfl, trivial⟩ (fun _ h => st_pk 9 [0, 1, 2, 3, 4, 5, 6, 7, 8] (by decide) h)
        · have hm62 := iff_ hm59 h61
          clear hm59
          refine c_exit (x_exit (ks' := _) rfl ?_)
          obtain rfl := Option.some.inj hm62
          exact x_sub K42 ⟨rfl, rfl, rfl, rfl, rfl, rfl, rfl, rfl, trivial⟩ (fun _ h => st_pk 9 [0, 1, 2, 3, 4, 5, 6, 7, 8] (by decide) h)

end Go.Proofs.YtpanhdnglicknaaGreat
