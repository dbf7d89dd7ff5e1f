import Derived.Test.YtpanhdnglicknaaW4
import Derived.Test.YtpanhdnglicknaaFacts
import Derived.Test.YtpanhdnglicknaaHwZ
set_option linter.unusedVariables false
set_option linter.unusedSectionVars false
set_option linter.unusedSimpArgs false
set_option maxRecDepth 100000
set_option maxHeartbeats 8000000
namespace Go.Proofs.Ytpanhdnglicknaa
open Go Go.Proofs.Ytpanhdnglicknaa.Hw
def arc_Arc_Insert (a0 : arc_Arc) (a1 : Str) : Option (List Str × arc_Arc) :=
  Option.bind (if decide (64 < (a1.length : Int)) then some (true, a0) else (arc_Arc_Touch a0 a1).bind fun r168 => some (r168.1, r168.2)) fun p3 => if p3.1 then some ([], p3.2) else om p3.2.r (none) fun x13 => (ring_Rings_In x13 a1).bind fun r21 => if r21.2 then (arc_Arc_again (⟨p3.2.most, p3.2.target, (some x13)⟩ : arc_Arc) a1 r21.1).bind fun r25 => some (r25.1, r25.2) else (ring_Rings_Len x13 0).bind fun r32 => (ring_Rings_Len x13 2).bind fun r34 => (ring_Rings_Len x13 1).bind fun r36 => (ring_Rings_Len x13 3).bind fun r38 => Option.bind (if decide (p3.2.most ≤ (i64 (r32 + r34))) then some (decide (r32 < p3.2.most)) else some false) fun p40 => Option.bind (if p40 then (arc_Arc_forget (⟨p3.2.most, p3.2.target, (some x13)⟩ : arc_Arc) 2).bind fun r70 => (arc_Arc_Len r70).bind fun r76 => Option.bind (if decide (r70.most ≤ r76) then (arc_Arc_replace r70 false).bind fun r89 => some (r89.1, r89.2) else some ([], r70)) fun p78 => some (p78.1, p78.2) else Option.bind (if decide (p3.2.most ≤ (i64 (r32 + r34))) then (ring_Rings_Back x13 0).bind fun r107 => (ring_Rings_Drop x13 r107.1).bind fun r109 => some ([r107.1], (⟨p3.2.most, p3.2.target, (some r109.2)⟩ : arc_Arc)) else Option.bind (if decide (p3.2.most ≤ (i64 ((i64 ((i64 (r32 + r34)) + r36)) + r38))) then Option.bind (if decide ((i64 (2 * p3.2.most)) ≤ (i64 ((i64 ((i64 (r32 + r34)) + r36)) + r38))) then (arc_Arc_forget (⟨p3.2.most, p3.2.target, (some x13)⟩ : arc_Arc) 3).bind fun r158 => some r158 else some (⟨p3.2.most, p3.2.target, (some x13)⟩ : arc_Arc)) fun p128 => (arc_Arc_Len p128).bind fun r136 => Option.bind (if decide (p128.most ≤ r136) then (arc_Arc_replace p128 false).bind fun r149 => some (r149.1, r149.2) else some ([], p128)) fun p138 => some (p138.1, p138.2) else some ([], (⟨p3.2.most, p3.2.target, (some x13)⟩ : arc_Arc))) fun p117 => some (p117.1, p117.2)) fun p96 => some (p96.1, p96.2)) fun p44 => om p44.2.r (none) fun x53 => (ring_Rings_Front x53 0 a1).bind fun r61 => some (p44.1, (⟨p44.2.most, p44.2.target, (some r61.2)⟩ : arc_Arc))
theorem arc_Arc_Insert.ok {G R F} (b0_ : Nat) (a0 : arc_Arc) (g0_ : arc_Arc.G) (a1 : Str) (r : List Str × arc_Arc) (hm : arc_Arc_Insert a0 a1 = some r) : CO Try.prog 59 [pt b0_ 0, vS a1] G R (Bk b0_ 92 [vI a0.most, vI a0.target, g0_.r.1] :: rO (ring_Rings.op g0_.r.2) g0_.r.1 a0.r :: F)
    (Ret fun u R' L' => ∃ (p0 : Value) (q0 : arc_Arc.G), u = p0 ∧ R' = R ∧ L' = OwS true 9 1 eS p0 r.1 :: Bk b0_ 92 [vI r.2.most, vI r.2.target, q0.r.1] :: rO (ring_Rings.op q0.r.2) q0.r.1 r.2.r :: F) := by
  obtain ⟨⟨pv1, g2⟩⟩ := g0_
  unfold arc_Arc_Insert at hm
  refine co_ofN (N := 147) Try.func59 rfl rfl ?_
  refine c_seq ?_
  refine c_reg ?_
  refine r_u (o_as rfl) ?_
  refine r_nil ?_
  refine x_seq ?_
  refine c_seq ?_
  refine c_seq ?_
  obtain ⟨p3, hp8, hm9⟩ := bs hm
  refine cd_cut (fun x ks => ∀ (g4 : arc_Arc.G), EX x .normal ks [(0, pt b0_ 0), (1, vS a1), (23, vB p3.1)] R (Bk b0_ 92 [vI p3.2.most, vI p3.2.target, g4.r.1] :: rO (ring_Rings.op g4.r.2) g4.r.1 p3.2.r :: F)) ?_ fun K10 => ?_
  · intro g4
    obtain ⟨⟨pv6, g7⟩⟩ := g4
    refine x_seq ?_
    refine c_if (b := p3.1) rfl (fun h11 => ?_) fun h11 => ?_
    · have hm12 := ift hm9 h11
      clear hm9
      refine c_seq ?_
      refine c_reg ?_
      refine r_u (o_as rfl) ?_
      refine r_nil ?_
      refine x_seq ?_
      refine c_ret ?_
      refine ex_st (fun _ h => st_nil (ap := true) (T := 9) (sz := 1) (en := eS) h) ?_
      obtain rfl := Option.some.inj hm12
      exact x_r1 rfl (rv_t rfl) (Le.refl _) ⟨_, rfl, (.slice none 0 0), (⟨(pv6, g7)⟩ : arc_Arc.G), rfl, rfl, rfl⟩
    · have hm12 := iff_ hm9 h11
      clear hm9
      refine c_skip ?_
      refine x_seq ?_
      refine c_seq ?_
      refine c_seq ?_
      refine cd_st (fun _ h => mv1 h) ?_
      refine cd_opt (fun ho15 => ?_) (fun x13 b14 ho15 => ?_)
      · rintro rfl
        have hm16 := om_n hm12 ho15
        clear hm12
        cases hm16
      · rintro rfl
        have hm16 := om_s hm12 ho15
        clear hm12
        refine cd_st (fun _ h => st_star_o h) ?_
        refine c_reg ?_
        refine r_u (o_mv rfl) ?_
        refine r_u (o_nc rfl) ?_
        refine r_u (o_fa fa92_2 rfl) ?_
        refine r_u (o_ld 5 sc88 rfl rfl rfl) ?_
        refine r_u (o_mv rfl) ?_
        obtain ⟨r21, hr21, hm22⟩ := bs hm16
        clear hm16
        refine r_c (s_w (o_call ca52 rfl (ring_Rings_In.ok b14 x13 g7 a1 r21 hr21))) ?_
        refine r_u (o_mv rfl) ?_
        refine r_u (o_ext rfl rfl) ?_
        refine r_u (o_ext rfl rfl) ?_
        refine r_u (o_as rfl) ?_
        refine r_u (o_as rfl) ?_
        refine r_nil ?_
        refine x_seq ?_
        refine c_seq ?_
        refine c_reg ?_
        refine r_u (o_mv rfl) ?_
        refine r_nil ?_
        refine x_seq ?_
        refine c_if (b := r21.2) rfl (fun h23 => ?_) fun h23 => ?_
        · have hm24 := ift hm22 h23
          clear hm22
          refine c_seq ?_
          refine c_reg ?_
          refine r_u (o_mv rfl) ?_
          refine r_u (o_mv rfl) ?_
          refine r_u (o_mv rfl) ?_
          refine rl_st (fun _ h => st_some (f := ring_Rings.op g7) (a := x13) (st_star_f (A := ring_Rings.fl b14 x13 g7) h)) ?_
          obtain ⟨r25, hr25, hm31⟩ := bs hm24
          clear hm24
          refine rl_st (fun _ h => mv1 h) ?_
          refine r_sw (s_w (o_call ca71 rfl (arc_Arc_again.ok b0_ (⟨p3.2.most, p3.2.target, (some x13)⟩ : arc_Arc) (⟨(pt b14 0, g7)⟩ : arc_Arc.G) a1 r21.1 r25 hr25))) ?_
          rintro v26 R _ _ ⟨_, ⟨⟨pv29, g30⟩⟩, rfl, rfl, rfl⟩
          refine r_u (o_as rfl) ?_
          refine r_nil ?_
          refine x_seq ?_
          refine c_ret ?_
          obtain rfl := Option.some.inj hm31
          exact x_r1 rfl (rv_t rfl) (Le.refl _) ⟨_, rfl, v26, (⟨(pv29, g30)⟩ : arc_Arc.G), rfl, rfl, rfl⟩
        · have hm24 := iff_ hm22 h23
          clear hm22
          refine c_skip ?_
          refine x_seq ?_
          refine c_seq ?_
          refine c_reg ?_
          refine r_u (o_as rfl) ?_
          refine r_nil ?_
          refine x_seq ?_
          refine c_seq ?_
          obtain ⟨r32, hr32, hm33⟩ := bs hm24
          clear hm24
          obtain ⟨r34, hr34, hm35⟩ := bs hm33
          clear hm33
          refine c_any mixed (effs := []) (V := []) ?_
          refine stage_ext [(0, pt b0_ 0), (1, pt b0_ 0), (2, pt b0_ 2), (3, pt b14 0), (4, vI r32), (5, pt b0_ 0), (6, pt b0_ 0), (7, pt b0_ 2), (8, pt b14 0), (9, vI r34), (10, vI (i64 (r32 + r34))), (11, vI (i64 (r32 + r34)))] rfl ?_
          refine stage rfl rfl rfl rfl [0, 1, 3, 7, 15, 0, 32, 96, 224, 511, 1023, 2047] [0, 1, 2, 3, 4, 5, 6, 7, 8, 9, 10, 11] [] rfl rfl rfl (qc rfl rfl (s_u (o_mv rfl)) (qc rfl rfl (s_u (o_nc rfl)) (qc rfl rfl (s_u (o_fa fa92_2 rfl)) (qc rfl rfl (s_u (o_ld 5 sc88 rfl rfl rfl)) (qc rfl rfl (s_u (o_callqP ca56 rfl (ring_Rings_Len.ok b14 x13 g7 0 r32 hr32) (fun _ h => st_pk 6 [0, 1, 2, 3, 4, 5] (by decide) h) (fun _ h => st_pk 6 [0, 1, 2, 3, 4, 5] (by decide) h))) (qc rfl rfl (s_u (o_mv rfl)) (qc rfl rfl (s_u (o_nc rfl)) (qc rfl rfl (s_u (o_fa fa92_2 rfl)) (qc rfl rfl (s_u (o_ld 5 sc88 rfl rfl rfl)) (qc rfl rfl (s_u (o_callqP ca56 rfl (ring_Rings_Len.ok b14 x13 g7 2 r34 hr34) (fun _ h => st_pk 6 [0, 1, 2, 3, 4, 5] (by decide) h) (fun _ h => st_pk 6 [0, 1, 2, 3, 4, 5] (by decide) h))) (qc rfl rfl (s_u (o_bin rfl rfl (bI_add r32 r34))) (qc rfl rfl (s_u (o_as rfl)) qn)))))))))))) en ?_
          intro _
          refine ex_sub (E' := [(0, pt b0_ 0), (1, vS a1), (7, .slice none 0 0), (8, vI (i64 (r32 + r34)))]) ⟨rfl, rfl, rfl, rfl, trivial⟩ ?_
          refine x_seq ?_
          refine c_seq ?_
          obtain ⟨r36, hr36, hm37⟩ := bs hm35
          clear hm35
          obtain ⟨r38, hr38, hm39⟩ := bs hm37
          clear hm37
          refine c_any mixed (effs := []) (V := []) ?_
          refine stage_ext [(0, vI (i64 (r32 + r34))), (1, pt b0_ 0), (2, pt b0_ 0), (3, pt b0_ 2), (4, pt b14 0), (5, vI r36), (6, vI (i64 ((i64 (r32 + r34)) + r36))), (7, pt b0_ 0), (8, pt b0_ 0), (9, pt b0_ 2), (10, pt b14 0), (11, vI r38), (12, vI (i64 ((i64 ((i64 (r32 + r34)) + r36)) + r38))), (13, vI (i64 ((i64 ((i64 (r32 + r34)) + r36)) + r38)))] rfl ?_
          refine stage rfl rfl rfl rfl [0, 0, 2, 6, 14, 30, 63, 0, 128, 384, 896, 1982, 4095, 8191] [0, 1, 2, 3, 4, 5, 6, 7, 8, 9, 10, 11, 12, 13] [] rfl rfl rfl (qc rfl rfl (s_u (o_mv rfl)) (qc rfl rfl (s_u (o_mv rfl)) (qc rfl rfl (s_u (o_nc rfl)) (qc rfl rfl (s_u (o_fa fa92_2 rfl)) (qc rfl rfl (s_u (o_ld 5 sc88 rfl rfl rfl)) (qc rfl rfl (s_u (o_callqP ca56 rfl (ring_Rings_Len.ok b14 x13 g7 1 r36 hr36) (fun _ h => st_pk 6 [0, 1, 2, 3, 4, 5] (by decide) h) (fun _ h => st_pk 6 [0, 1, 2, 3, 4, 5] (by decide) h))) (qc rfl rfl (s_u (o_bin rfl rfl (bI_add (i64 (r32 + r34)) r36))) (qc rfl rfl (s_u (o_mv rfl)) (qc rfl rfl (s_u (o_nc rfl)) (qc rfl rfl (s_u (o_fa fa92_2 rfl)) (qc rfl rfl (s_u (o_ld 5 sc88 rfl rfl rfl)) (qc rfl rfl (s_u (o_callqP ca56 rfl (ring_Rings_Len.ok b14 x13 g7 3 r38 hr38) (fun _ h => st_pk 6 [0, 1, 2, 3, 4, 5] (by decide) h) (fun _ h => st_pk 6 [0, 1, 2, 3, 4, 5] (by decide) h))) (qc rfl rfl (s_u (o_bin rfl rfl (bI_add (i64 ((i64 (r32 + r34)) + r36)) r38))) (qc rfl rfl (s_u (o_as rfl)) qn)))))))))))))) en ?_
          intro _
          refine ex_sub (E' := [(0, pt b0_ 0), (1, vS a1), (7, .slice none 0 0), (8, vI (i64 (r32 + r34))), (9, vI (i64 ((i64 ((i64 (r32 + r34)) + r36)) + r38)))]) ⟨rfl, rfl, rfl, rfl, rfl, trivial⟩ ?_
          refine x_seq ?_
          refine c_seq ?_
          refine c_blk ?_
          refine c_seq ?_
          obtain ⟨p40, hp41, hm42⟩ := bs hm39
          refine cd_join (E' := [(0, pt b0_ 0), (1, vS a1), (7, .slice none 0 0), (8, vI (i64 (r32 + r34))), (9, vI (i64 ((i64 ((i64 (r32 + r34)) + r36)) + r38))), (62, vB p40)]) (L' := Bk b14 109 [vI x13.lists, g7.slots, g7.free, g7.at_, g7.many] :: Bk b0_ 92 [vI p3.2.most, vI p3.2.target, pt b14 0] :: OwS true 111 4 ring_slot.c g7.slots x13.slots :: OwS true 3 1 eI g7.free x13.free :: OwM vS vI g7.at_ x13.at_ :: OwS true 3 1 eI g7.many x13.many :: F) ?_ fun K43 => ?_
          · refine x_seq ?_
            obtain ⟨p44, hp50, hm51⟩ := bs hm42
            refine cd_cut (fun x ks => ∀ (g45 : Value), ∀ (g46 : arc_Arc.G), EX x .normal ks [(0, pt b0_ 0), (1, vS a1), (7, g45)] R (Bk b0_ 92 [vI p44.2.most, vI p44.2.target, g46.r.1] :: OwS true 9 1 eS g45 p44.1 :: rO (ring_Rings.op g46.r.2) g46.r.1 p44.2.r :: F)) ?_ fun K52 => ?_
            · intro g45 g46
              obtain ⟨⟨pv48, g49⟩⟩ := g46
              refine x_blk ?_
              refine x_seq ?_
              refine c_seq ?_
              refine cd_st (fun _ h => mv2 h) ?_
              refine cd_opt (fun ho55 => ?_) (fun x53 b54 ho55 => ?_)
              · rintro rfl
                have hm56 := om_n hm51 ho55
                clear hm51
                cases hm56
              · rintro rfl
                have hm56 := om_s hm51 ho55
                clear hm51
                refine cd_st (fun _ h => st_star_o h) ?_
                refine c_reg ?_
                refine r_u (o_mv rfl) ?_
                refine r_u (o_nc rfl) ?_
                refine r_u (o_fa fa92_2 rfl) ?_
                refine r_u (o_ld 5 sc88 rfl rfl rfl) ?_
                refine r_u (o_mv rfl) ?_
                obtain ⟨r61, hr61, hm67⟩ := bs hm56
                clear hm56
                refine r_sw (s_w (o_call ca55 rfl (ring_Rings_Front.ok b54 x53 g49 0 a1 r61 hr61))) ?_
                rintro _ R _ _ ⟨g62, rfl, rfl, rfl⟩
                refine r_nil ?_
                refine x_seq ?_
                refine c_seq ?_
                refine c_reg ?_
                refine r_u (o_mv rfl) ?_
                refine r_u (o_as rfl) ?_
                refine r_nil ?_
                refine x_seq ?_
                refine c_ret ?_
                refine ex_st (fun _ h => st_some (f := ring_Rings.op g62) (a := r61.2) (st_star_f (A := ring_Rings.fl b54 r61.2 g62) h)) ?_
                obtain rfl := Option.some.inj hm67
                refine ex_st (fun _ h => st_pk 3 [2, 1, 0] (by decide) h) ?_
                exact x_r1 rfl (rv_t rfl) (Le.refl _) ⟨_, rfl, g45, (⟨(pt b54 0, g62)⟩ : arc_Arc.G), rfl, rfl, rfl⟩
            · refine c_if (b := p40) rfl (fun h68 => ?_) fun h68 => ?_
              · have hm69 := ift hp50 h68
                clear hp50
                refine c_seq ?_
                refine c_reg ?_
                refine r_u (o_mv rfl) ?_
                refine rl_st (fun _ h => mv4 (mv5 (mv5 (mv5 (mv5 h))))) ?_
                refine rl_st (fun _ h => st_some (f := ring_Rings.op g7) (a := x13) (st_star_f (A := ring_Rings.fl b14 x13 g7) h)) ?_
                obtain ⟨r70, hr70, hm75⟩ := bs hm69
                clear hm69
                refine rl_st (fun _ h => mv1 h) ?_
                refine r_sw (s_w (o_call ca72 rfl (arc_Arc_forget.ok b0_ (⟨p3.2.most, p3.2.target, (some x13)⟩ : arc_Arc) (⟨(pt b14 0, g7)⟩ : arc_Arc.G) 2 r70 hr70))) ?_
                rintro _ R _ _ ⟨⟨⟨pv73, g74⟩⟩, rfl, rfl, rfl⟩
                refine r_nil ?_
                refine x_seq ?_
                refine c_seq ?_
                obtain ⟨r76, hr76, hm77⟩ := bs hm75
                clear hm75
                refine c_any mixed (effs := []) (V := []) ?_
                refine stage_ext [(0, pt b0_ 0), (1, vI r76), (2, pt b0_ 0), (3, pt b0_ 0), (4, pt b0_ 0), (5, vI r70.most), (6, vB (decide (r70.most ≤ r76)))] rfl ?_
                refine stage rfl rfl rfl rfl [0, 1, 0, 4, 12, 28, 63] [0, 1, 2, 3, 4, 5, 6] [] rfl rfl rfl (qc rfl rfl (s_u (o_mv rfl)) (qc rfl rfl (s_u (o_callqP ca73 rfl (arc_Arc_Len.ok b0_ r70 (⟨(pv73, g74)⟩ : arc_Arc.G) r76 hr76) (fun _ h => st_pk 2 [0, 1] (by decide) h) (fun _ h => st_pk 2 [0, 1] (by decide) h))) (qc rfl rfl (s_u (o_mv rfl)) (qc rfl rfl (s_u (o_nc rfl)) (qc rfl rfl (s_u (o_fa fa92_0 rfl)) (qc rfl rfl (s_u (o_ld 0 sc3 rfl rfl rfl)) (qc rfl rfl (s_u (o_bin rfl rfl (bI_ge r76 r70.most))) qn))))))) en ?_
                intro _
                refine ex_sub (E' := [(0, pt b0_ 0), (1, vS a1), (7, .slice none 0 0), (89, vB (decide (r70.most ≤ r76)))]) ⟨rfl, rfl, rfl, rfl, trivial⟩ ?_
                refine x_seq ?_
                obtain ⟨p78, hp84, hm85⟩ := bs hm77
                refine cd_cut (fun x ks => ∀ (g79 : Value), ∀ (g80 : arc_Arc.G), EX x .normal ks [(0, pt b0_ 0), (1, vS a1), (7, g79)] R (Bk b0_ 92 [vI p78.2.most, vI p78.2.target, g80.r.1] :: OwS true 9 1 eS g79 p78.1 :: rO (ring_Rings.op g80.r.2) g80.r.1 p78.2.r :: F)) ?_ fun K86 => ?_
                · intro g79 g80
                  obtain ⟨⟨pv82, g83⟩⟩ := g80
                  obtain rfl := Option.some.inj hm85
                  exact x_sub (K52 g79 (⟨(pv82, g83)⟩ : arc_Arc.G)) ⟨rfl, rfl, rfl, trivial⟩ (fun _ h => st_pk 3 [0, 1, 2] (by decide) h)
                · refine c_if (b := decide (r70.most ≤ r76)) rfl (fun h87 => ?_) fun h87 => ?_
                  · have hm88 := ift hp84 h87
                    clear hp84
                    refine c_reg ?_
                    refine r_u (o_mv rfl) ?_
                    obtain ⟨r89, hr89, hm95⟩ := bs hm88
                    clear hm88
                    refine r_sw (s_w (o_call ca74 rfl (arc_Arc_replace.ok b0_ r70 (⟨(pv73, g74)⟩ : arc_Arc.G) false r89 hr89))) ?_
                    rintro v90 R _ _ ⟨_, ⟨⟨pv93, g94⟩⟩, rfl, rfl, rfl⟩
                    refine r_u (o_as rfl) ?_
                    refine r_nil ?_
                    obtain rfl := Option.some.inj hm95
                    exact x_sub (K86 v90 (⟨(pv93, g94)⟩ : arc_Arc.G)) ⟨rfl, rfl, rfl, trivial⟩ (fun _ h => st_pk 3 [1, 0, 2] (by decide) h)
                  · have hm88 := iff_ hp84 h87
                    clear hp84
                    refine c_skip ?_
                    refine ex_st (fun _ h => st_nil (ap := true) (T := 9) (sz := 1) (en := eS) h) ?_
                    obtain rfl := Option.some.inj hm88
                    exact x_sub (K86 (.slice none 0 0) (⟨(pv73, g74)⟩ : arc_Arc.G)) ⟨rfl, rfl, rfl, trivial⟩ (fun _ h => st_pk 3 [1, 0, 2] (by decide) h)
              · have hm69 := iff_ hp50 h68
                clear hp50
                refine c_seq ?_
                refine c_reg ?_
                refine r_u (o_mv rfl) ?_
                refine r_u (o_mv rfl) ?_
                refine r_u (o_nc rfl) ?_
                refine r_u (o_fa fa92_0 rfl) ?_
                refine r_u (o_ld 1 sc3 rfl rfl rfl) ?_
                refine r_u (o_bin rfl rfl (bI_ge (i64 (r32 + r34)) p3.2.most)) ?_
                refine r_u (o_as rfl) ?_
                refine r_nil ?_
                refine x_seq ?_
                obtain ⟨p96, hp102, hm103⟩ := bs hm69
                refine cd_cut (fun x ks => ∀ (g97 : Value), ∀ (g98 : arc_Arc.G), EX x .normal ks [(0, pt b0_ 0), (1, vS a1), (7, g97)] R (Bk b0_ 92 [vI p96.2.most, vI p96.2.target, g98.r.1] :: OwS true 9 1 eS g97 p96.1 :: rO (ring_Rings.op g98.r.2) g98.r.1 p96.2.r :: F)) ?_ fun K104 => ?_
                · intro g97 g98
                  obtain ⟨⟨pv100, g101⟩⟩ := g98
                  obtain rfl := Option.some.inj hm103
                  exact x_sub (K52 g97 (⟨(pv100, g101)⟩ : arc_Arc.G)) ⟨rfl, rfl, rfl, trivial⟩ (fun _ h => st_pk 3 [0, 1, 2] (by decide) h)
                · refine c_if (b := decide (p3.2.most ≤ (i64 (r32 + r34)))) rfl (fun h105 => ?_) fun h105 => ?_
                  · have hm106 := ift hp102 h105
                    clear hp102
                    refine c_seq ?_
                    refine c_reg ?_
                    refine r_u (o_mv rfl) ?_
                    refine r_u (o_nc rfl) ?_
                    refine r_u (o_fa fa92_2 rfl) ?_
                    refine r_u (o_ld 1 sc88 rfl rfl rfl) ?_
                    obtain ⟨r107, hr107, hm108⟩ := bs hm106
                    clear hm106
                    refine rl_st (fun _ h => mv4 (mv5 (mv5 (mv5 (mv5 h))))) ?_
                    refine r_c (s_w (o_call ca58 rfl (ring_Rings_Back.ok b14 x13 g7 0 r107 hr107))) ?_
                    refine r_u (o_mv rfl) ?_
                    refine r_u (o_ext rfl rfl) ?_
                    refine r_u (o_ext rfl rfl) ?_
                    refine r_u (o_as rfl) ?_
                    refine r_u (o_as rfl) ?_
                    refine r_nil ?_
                    refine x_seq ?_
                    refine c_seq ?_
                    refine c_reg ?_
                    refine r_u (o_mv rfl) ?_
                    refine r_u (o_nc rfl) ?_
                    refine r_u (o_fa fa92_2 rfl) ?_
                    refine r_u (o_ld 5 sc88 rfl rfl rfl) ?_
                    refine r_u (o_mv rfl) ?_
                    obtain ⟨r109, hr109, hm115⟩ := bs hm108
                    clear hm108
                    refine r_sw (s_w (o_call ca40 rfl (ring_Rings_Drop.ok b14 x13 g7 r107.1 r109 hr109))) ?_
                    rintro _ R _ _ ⟨g110, rfl, rfl, rfl⟩
                    refine r_nil ?_
                    refine x_seq ?_
                    refine c_reg ?_
                    refine r_u (o_mv rfl) ?_
                    refine r_sw (s_w (o_bsl (en := eS) (sz := 1) (e := 9) (cs := [vS r107.1]) (r := [r107.1]) rfl (fun _ => by kernel_rfl) rfl (by decide) rfl (fun _ => rfl))) ?_
                    rintro v116 R _ _ ⟨rfl, rfl⟩
                    refine r_u (o_as rfl) ?_
                    refine r_nil ?_
                    refine ex_st (fun _ h => mv5 (mv5 (mv5 (mv5 (mv5 h))))) ?_
                    refine ex_st (fun _ h => st_some (f := ring_Rings.op g110) (a := r109.2) (st_star_f (A := ring_Rings.fl b14 r109.2 g110) h)) ?_
                    obtain rfl := Option.some.inj hm115
                    exact x_sub (K104 v116 (⟨(pt b14 0, g110)⟩ : arc_Arc.G)) ⟨rfl, rfl, rfl, trivial⟩ (fun _ h => st_pk 3 [2, 1, 0] (by decide) h)
                  · have hm106 := iff_ hp102 h105
                    clear hp102
                    refine c_seq ?_
                    refine c_reg ?_
                    refine r_u (o_mv rfl) ?_
                    refine r_u (o_mv rfl) ?_
                    refine r_u (o_nc rfl) ?_
                    refine r_u (o_fa fa92_0 rfl) ?_
                    refine r_u (o_ld 1 sc3 rfl rfl rfl) ?_
                    refine r_u (o_bin rfl rfl (bI_ge (i64 ((i64 ((i64 (r32 + r34)) + r36)) + r38)) p3.2.most)) ?_
                    refine r_u (o_as rfl) ?_
                    refine r_nil ?_
                    refine x_seq ?_
                    obtain ⟨p117, hp123, hm124⟩ := bs hm106
                    refine cd_cut (fun x ks => ∀ (g118 : Value), ∀ (g119 : arc_Arc.G), EX x .normal ks [(0, pt b0_ 0), (1, vS a1), (7, g118)] R (Bk b0_ 92 [vI p117.2.most, vI p117.2.target, g119.r.1] :: OwS true 9 1 eS g118 p117.1 :: rO (ring_Rings.op g119.r.2) g119.r.1 p117.2.r :: F)) ?_ fun K125 => ?_
                    · intro g118 g119
                      obtain ⟨⟨pv121, g122⟩⟩ := g119
                      obtain rfl := Option.some.inj hm124
                      exact x_sub (K104 g118 (⟨(pv121, g122)⟩ : arc_Arc.G)) ⟨rfl, rfl, rfl, trivial⟩ (fun _ h => st_pk 3 [0, 1, 2] (by decide) h)
                    · refine c_if (b := decide (p3.2.most ≤ (i64 ((i64 ((i64 (r32 + r34)) + r36)) + r38)))) rfl (fun h126 => ?_) fun h126 => ?_
                      · have hm127 := ift hp123 h126
                        clear hp123
                        refine c_seq ?_
                        refine c_seq ?_
                        refine c_reg ?_
                        refine r_u (o_mv rfl) ?_
                        refine r_u (o_mv rfl) ?_
                        refine r_u (o_nc rfl) ?_
                        refine r_u (o_fa fa92_0 rfl) ?_
                        refine r_u (o_ld 1 sc3 rfl rfl rfl) ?_
                        refine r_u (o_bin rfl rfl (bI_mul 2 p3.2.most)) ?_
                        refine r_u (o_bin rfl rfl (bI_ge (i64 ((i64 ((i64 (r32 + r34)) + r36)) + r38)) (i64 (2 * p3.2.most)))) ?_
                        refine r_nil ?_
                        refine x_seq ?_
                        obtain ⟨p128, hp133, hm134⟩ := bs hm127
                        refine cd_cut (fun x ks => ∀ (g129 : arc_Arc.G), EX x .normal ks [(0, pt b0_ 0), (1, vS a1), (7, .slice none 0 0)] R (Bk b0_ 92 [vI p128.most, vI p128.target, g129.r.1] :: rO (ring_Rings.op g129.r.2) g129.r.1 p128.r :: F)) ?_ fun K135 => ?_
                        · intro g129
                          obtain ⟨⟨pv131, g132⟩⟩ := g129
                          refine x_seq ?_
                          refine c_seq ?_
                          obtain ⟨r136, hr136, hm137⟩ := bs hm134
                          clear hm134
                          refine c_any mixed (effs := []) (V := []) ?_
                          refine stage_ext [(0, pt b0_ 0), (1, vI r136), (2, pt b0_ 0), (3, pt b0_ 0), (4, pt b0_ 0), (5, vI p128.most), (6, vB (decide (p128.most ≤ r136)))] rfl ?_
                          refine stage rfl rfl rfl rfl [0, 1, 0, 4, 12, 28, 63] [0, 1, 2, 3, 4, 5, 6] [] rfl rfl rfl (qc rfl rfl (s_u (o_mv rfl)) (qc rfl rfl (s_u (o_callqP ca73 rfl (arc_Arc_Len.ok b0_ p128 (⟨(pv131, g132)⟩ : arc_Arc.G) r136 hr136) (fun _ h => st_pk 2 [0, 1] (by decide) h) (fun _ h => st_pk 2 [0, 1] (by decide) h))) (qc rfl rfl (s_u (o_mv rfl)) (qc rfl rfl (s_u (o_nc rfl)) (qc rfl rfl (s_u (o_fa fa92_0 rfl)) (qc rfl rfl (s_u (o_ld 0 sc3 rfl rfl rfl)) (qc rfl rfl (s_u (o_bin rfl rfl (bI_ge r136 p128.most))) qn))))))) en ?_
                          intro _
                          refine ex_sub (E' := [(0, pt b0_ 0), (1, vS a1), (7, .slice none 0 0), (137, vB (decide (p128.most ≤ r136)))]) ⟨rfl, rfl, rfl, rfl, trivial⟩ ?_
                          refine x_seq ?_
                          obtain ⟨p138, hp144, hm145⟩ := bs hm137
                          refine cd_cut (fun x ks => ∀ (g139 : Value), ∀ (g140 : arc_Arc.G), EX x .normal ks [(0, pt b0_ 0), (1, vS a1), (7, g139)] R (Bk b0_ 92 [vI p138.2.most, vI p138.2.target, g140.r.1] :: OwS true 9 1 eS g139 p138.1 :: rO (ring_Rings.op g140.r.2) g140.r.1 p138.2.r :: F)) ?_ fun K146 => ?_
                          · intro g139 g140
                            obtain ⟨⟨pv142, g143⟩⟩ := g140
                            obtain rfl := Option.some.inj hm145
                            exact x_sub (K125 g139 (⟨(pv142, g143)⟩ : arc_Arc.G)) ⟨rfl, rfl, rfl, trivial⟩ (fun _ h => st_pk 3 [0, 1, 2] (by decide) h)
                          · refine c_if (b := decide (p128.most ≤ r136)) rfl (fun h147 => ?_) fun h147 => ?_
                            · have hm148 := ift hp144 h147
                              clear hp144
                              refine c_reg ?_
                              refine r_u (o_mv rfl) ?_
                              obtain ⟨r149, hr149, hm155⟩ := bs hm148
                              clear hm148
                              refine r_sw (s_w (o_call ca74 rfl (arc_Arc_replace.ok b0_ p128 (⟨(pv131, g132)⟩ : arc_Arc.G) false r149 hr149))) ?_
                              rintro v150 R _ _ ⟨_, ⟨⟨pv153, g154⟩⟩, rfl, rfl, rfl⟩
                              refine r_u (o_as rfl) ?_
                              refine r_nil ?_
                              obtain rfl := Option.some.inj hm155
                              exact x_sub (K146 v150 (⟨(pv153, g154)⟩ : arc_Arc.G)) ⟨rfl, rfl, rfl, trivial⟩ (fun _ h => st_pk 3 [1, 0, 2] (by decide) h)
                            · have hm148 := iff_ hp144 h147
                              clear hp144
                              refine c_skip ?_
                              refine ex_st (fun _ h => st_nil (ap := true) (T := 9) (sz := 1) (en := eS) h) ?_
                              obtain rfl := Option.some.inj hm148
                              exact x_sub (K146 (.slice none 0 0) (⟨(pv131, g132)⟩ : arc_Arc.G)) ⟨rfl, rfl, rfl, trivial⟩ (fun _ h => st_pk 3 [1, 0, 2] (by decide) h)
                        · refine c_if (b := decide ((i64 (2 * p3.2.most)) ≤ (i64 ((i64 ((i64 (r32 + r34)) + r36)) + r38)))) rfl (fun h156 => ?_) fun h156 => ?_
                          · have hm157 := ift hp133 h156
                            clear hp133
                            refine c_reg ?_
                            refine r_u (o_mv rfl) ?_
                            refine rl_st (fun _ h => mv4 (mv5 (mv5 (mv5 (mv5 h))))) ?_
                            refine rl_st (fun _ h => st_some (f := ring_Rings.op g7) (a := x13) (st_star_f (A := ring_Rings.fl b14 x13 g7) h)) ?_
                            obtain ⟨r158, hr158, hm163⟩ := bs hm157
                            clear hm157
                            refine rl_st (fun _ h => mv1 h) ?_
                            refine r_sw (s_w (o_call ca72 rfl (arc_Arc_forget.ok b0_ (⟨p3.2.most, p3.2.target, (some x13)⟩ : arc_Arc) (⟨(pt b14 0, g7)⟩ : arc_Arc.G) 3 r158 hr158))) ?_
                            rintro _ R _ _ ⟨⟨⟨pv161, g162⟩⟩, rfl, rfl, rfl⟩
                            refine r_nil ?_
                            obtain rfl := Option.some.inj hm163
                            exact x_sub (K135 (⟨(pv161, g162)⟩ : arc_Arc.G)) ⟨rfl, rfl, rfl, trivial⟩ (fun _ h => st_pk 2 [0, 1] (by decide) h)
                          · have hm157 := iff_ hp133 h156
                            clear hp133
                            refine c_skip ?_
                            refine ex_st (fun _ h => mv4 (mv5 (mv5 (mv5 (mv5 h))))) ?_
                            refine ex_st (fun _ h => st_some (f := ring_Rings.op g7) (a := x13) (st_star_f (A := ring_Rings.fl b14 x13 g7) h)) ?_
                            obtain rfl := Option.some.inj hm157
                            exact x_sub (K135 (⟨(pt b14 0, g7)⟩ : arc_Arc.G)) ⟨rfl, rfl, rfl, trivial⟩ (fun _ h => st_pk 2 [1, 0] (by decide) h)
                      · have hm127 := iff_ hp123 h126
                        clear hp123
                        refine c_skip ?_
                        refine ex_st (fun _ h => st_nil (ap := true) (T := 9) (sz := 1) (en := eS) h) ?_
                        refine ex_st (fun _ h => mv5 (mv6 (mv6 (mv6 (mv6 h))))) ?_
                        refine ex_st (fun _ h => st_some (f := ring_Rings.op g7) (a := x13) (st_star_f (A := ring_Rings.fl b14 x13 g7) h)) ?_
                        obtain rfl := Option.some.inj hm127
                        exact x_sub (K125 (.slice none 0 0) (⟨(pt b14 0, g7)⟩ : arc_Arc.G)) ⟨rfl, rfl, rfl, trivial⟩ (fun _ h => st_pk 3 [2, 1, 0] (by decide) h)
          · refine cd_by (decide (p3.2.most ≤ (i64 (r32 + r34)))) (fun h164 => ?_) fun h164 => ?_
            · have hm165 := ift hp41 h164
              clear hp41
              refine c_any mixed (effs := []) (V := []) ?_
              refine stage_ext [(0, vI (i64 (r32 + r34))), (1, pt b0_ 0), (2, pt b0_ 0), (3, pt b0_ 0), (4, vI p3.2.most), (5, vB (decide (p3.2.most ≤ (i64 (r32 + r34))))), (6, vB (decide (p3.2.most ≤ (i64 (r32 + r34))))), (7, pt b0_ 0), (8, pt b0_ 0), (9, pt b0_ 2), (10, pt b14 0), (11, vI r32), (12, pt b0_ 0), (13, pt b0_ 0), (14, pt b0_ 0), (15, vI p3.2.most), (16, vB (decide (r32 < p3.2.most))), (17, vB (decide (r32 < p3.2.most))), (18, vB (decide (r32 < p3.2.most)))] rfl ?_
              refine stage rfl rfl rfl rfl [0, 0, 2, 6, 14, 31, 63, 127, 255, 511, 1023, 2047, 127, 4223, 12415, 28799, 65535, 131071, 262143] [0, 1, 2, 3, 4, 5, 6, 7, 8, 9, 10, 11, 12, 13, 14, 15, 16, 17, 18] [] rfl rfl rfl (qc rfl rfl (s_u (o_mv rfl)) (qc rfl rfl (s_u (o_mv rfl)) (qc rfl rfl (s_u (o_nc rfl)) (qc rfl rfl (s_u (o_fa fa92_0 rfl)) (qc rfl rfl (s_u (o_ld 5 sc3 rfl rfl rfl)) (qc rfl rfl (s_u (o_bin rfl rfl (bI_ge (i64 (r32 + r34)) p3.2.most))) (qc rfl rfl (s_u (o_mv rfl)) (qc rfl rfl (s_y rfl rfl h164 (o_mv rfl)) (qc rfl rfl (s_y rfl rfl h164 (o_nc rfl)) (qc rfl rfl (s_y rfl rfl h164 (o_fa fa92_2 rfl)) (qc rfl rfl (s_y rfl rfl h164 (o_ld 5 sc88 rfl rfl rfl)) (qc rfl rfl (s_y rfl rfl h164 (o_callqP ca56 rfl (ring_Rings_Len.ok b14 x13 g7 0 r32 hr32) (fun _ h => st_pk 6 [0, 1, 2, 3, 4, 5] (by decide) h) (fun _ h => st_pk 6 [0, 1, 2, 3, 4, 5] (by decide) h))) (qc rfl rfl (s_y rfl rfl h164 (o_mv rfl)) (qc rfl rfl (s_y rfl rfl h164 (o_nc rfl)) (qc rfl rfl (s_y rfl rfl h164 (o_fa fa92_0 rfl)) (qc rfl rfl (s_y rfl rfl h164 (o_ld 5 sc3 rfl rfl rfl)) (qc rfl rfl (s_y rfl rfl h164 (o_bin rfl rfl (bI_lt r32 p3.2.most))) (qc rfl rfl (s_u (o_pt rfl h164 rfl)) (qc rfl rfl (s_u (o_as rfl)) qn))))))))))))))))))) en ?_
              intro _
              refine ex_sub (E' := [(0, pt b0_ 0), (1, vS a1), (7, .slice none 0 0), (8, vI (i64 (r32 + r34))), (9, vI (i64 ((i64 ((i64 (r32 + r34)) + r36)) + r38))), (62, vB (decide (r32 < p3.2.most)))]) ⟨rfl, rfl, rfl, rfl, rfl, rfl, trivial⟩ ?_
              obtain rfl := Option.some.inj hm165
              exact x_sub K43 ⟨rfl, rfl, rfl, rfl, rfl, rfl, trivial⟩ (fun _ h => st_pk 6 [0, 5, 1, 2, 3, 4] (by decide) h)
            · have hm165 := iff_ hp41 h164
              clear hp41
              refine c_any mixed (effs := []) (V := []) ?_
              refine stage_ext [(0, vI (i64 (r32 + r34))), (1, pt b0_ 0), (2, pt b0_ 0), (3, pt b0_ 0), (4, vI p3.2.most), (5, vB (decide (p3.2.most ≤ (i64 (r32 + r34))))), (6, vB (decide (p3.2.most ≤ (i64 (r32 + r34))))), (7, undef), (8, undef), (9, undef), (10, undef), (11, undef), (12, undef), (13, undef), (14, undef), (15, undef), (16, undef), (17, vB false), (18, vB false)] rfl ?_
              refine stage rfl rfl rfl rfl [0, 0, 2, 6, 14, 31, 63, 127, 255, 511, 1023, 2047, 127, 4223, 12415, 28799, 65535, 131071, 262143] [0, 1, 2, 3, 4, 5, 6, 7, 8, 9, 10, 11, 12, 13, 14, 15, 16, 17, 18] [] rfl rfl rfl (qc rfl rfl (s_u (o_mv rfl)) (qc rfl rfl (s_u (o_mv rfl)) (qc rfl rfl (s_u (o_nc rfl)) (qc rfl rfl (s_u (o_fa fa92_0 rfl)) (qc rfl rfl (s_u (o_ld 5 sc3 rfl rfl rfl)) (qc rfl rfl (s_u (o_bin rfl rfl (bI_ge (i64 (r32 + r34)) p3.2.most))) (qc rfl rfl (s_u (o_mv rfl)) (qc rfl rfl (s_n rfl rfl h164) (qc rfl rfl (s_n rfl rfl h164) (qc rfl rfl (s_n rfl rfl h164) (qc rfl rfl (s_n rfl rfl h164) (qc rfl rfl (s_n rfl rfl h164) (qc rfl rfl (s_n rfl rfl h164) (qc rfl rfl (s_n rfl rfl h164) (qc rfl rfl (s_n rfl rfl h164) (qc rfl rfl (s_n rfl rfl h164) (qc rfl rfl (s_n rfl rfl h164) (qc rfl rfl (s_u (o_pf rfl h164 rfl)) (qc rfl rfl (s_u (o_as rfl)) qn))))))))))))))))))) en ?_
              intro _
              refine ex_sub (E' := [(0, pt b0_ 0), (1, vS a1), (7, .slice none 0 0), (8, vI (i64 (r32 + r34))), (9, vI (i64 ((i64 ((i64 (r32 + r34)) + r36)) + r38))), (62, vB false)]) ⟨rfl, rfl, rfl, rfl, rfl, rfl, trivial⟩ ?_
              obtain rfl := Option.some.inj hm165
              exact x_sub K43 ⟨rfl, rfl, rfl, rfl, rfl, rfl, trivial⟩ (fun _ h => st_pk 6 [0, 5, 1, 2, 3, 4] (by decide) h)
  · refine cd_by (decide (64 < (a1.length : Int))) (fun h166 => ?_) fun h166 => ?_
    · have hm167 := ift hp8 h166
      clear hp8
      refine c_reg ?_
      refine r_u (o_mv rfl) ?_
      refine r_u (o_bin rfl rfl (bP_eqp Try.underlying69)) ?_
      refine r_u (o_mv rfl) ?_
      refine r_s (s_y rfl rfl rfl (o_mv rfl)) ?_
      refine r_s (s_y rfl rfl rfl (o_lenS Try.underlying9 rfl)) ?_
      refine r_s (s_y rfl rfl rfl (o_bin rfl rfl (bI_gt (a1.length : Int) 64))) ?_
      refine r_u (o_pf rfl rfl rfl) ?_
      refine r_u (o_mv rfl) ?_
      refine r_s (s_n rfl rfl h166) ?_
      refine r_s (s_n rfl rfl h166) ?_
      refine r_s (s_n rfl rfl h166) ?_
      refine r_u (o_pt rfl h166 rfl) ?_
      refine r_nil ?_
      obtain rfl := Option.some.inj hm167
      exact x_sub (K10 (⟨(pv1, g2)⟩ : arc_Arc.G)) ⟨rfl, rfl, rfl, trivial⟩ (fun _ h => st_pk 2 [0, 1] (by decide) h)
    · have hm167 := iff_ hp8 h166
      clear hp8
      refine c_reg ?_
      refine r_u (o_mv rfl) ?_
      refine r_u (o_bin rfl rfl (bP_eqp Try.underlying69)) ?_
      refine r_u (o_mv rfl) ?_
      refine r_s (s_y rfl rfl rfl (o_mv rfl)) ?_
      refine r_s (s_y rfl rfl rfl (o_lenS Try.underlying9 rfl)) ?_
      refine r_s (s_y rfl rfl rfl (o_bin rfl rfl (bI_gt (a1.length : Int) 64))) ?_
      refine r_u (o_pf rfl rfl rfl) ?_
      refine r_u (o_mv rfl) ?_
      refine r_s (s_y rfl rfl h166 (o_mv rfl)) ?_
      refine r_s (s_y rfl rfl h166 (o_mv rfl)) ?_
      obtain ⟨r168, hr168, hm173⟩ := bs hm167
      clear hm167
      refine r_sw (s_yw rfl rfl h166 (o_call ca43 rfl (arc_Arc_Touch.ok b0_ a0 (⟨(pv1, g2)⟩ : arc_Arc.G) a1 r168 hr168))) ?_
      rintro _ R _ _ ⟨⟨⟨pv171, g172⟩⟩, rfl, rfl, rfl⟩
      refine r_u (o_pf rfl h166 rfl) ?_
      refine r_nil ?_
      obtain rfl := Option.some.inj hm173
      exact x_sub (K10 (⟨(pv171, g172)⟩ : arc_Arc.G)) ⟨rfl, rfl, rfl, trivial⟩ (fun _ h => st_pk 2 [0, 1] (by decide) h)

def tiny_Tiny_Len (a0 : tiny_Tiny) : Option Int :=
  om a0.r (none) fun x6 => (ring_Rings_Len x6 0).bind fun r14 => (ring_Rings_Len x6 1).bind fun r16 => (ring_Rings_Len x6 2).bind fun r18 => some (i64 ((i64 (r14 + r16)) + r18))
theorem tiny_Tiny_Len.ok {G R F} (b0_ : Nat) (a0 : tiny_Tiny) (g0_ : tiny_Tiny.G) (r : Int) (hm : tiny_Tiny_Len a0 = some r) : CO Try.prog 75 [pt b0_ 0] G R (Bk b0_ 98 [vI a0.most, g0_.s.1, g0_.r.1] :: rO (sketch_Sketch.op g0_.s.2) g0_.s.1 a0.s :: rO (ring_Rings.op g0_.r.2) g0_.r.1 a0.r :: F)
    (Ret fun u R' L' => u = vI r ∧ R' = R ∧ L' = Bk b0_ 98 [vI a0.most, g0_.s.1, g0_.r.1] :: rO (sketch_Sketch.op g0_.s.2) g0_.s.1 a0.s :: rO (ring_Rings.op g0_.r.2) g0_.r.1 a0.r :: F) := by
  obtain ⟨⟨pv1, g2⟩, ⟨pv4, g5⟩⟩ := g0_
  unfold tiny_Tiny_Len at hm
  refine co_ofN (N := 22) Try.func75 rfl rfl ?_
  refine c_seq ?_
  refine c_reg ?_
  refine r_u (o_as rfl) ?_
  refine r_nil ?_
  refine x_seq ?_
  refine c_seq ?_
  refine c_seq ?_
  refine c_reg ?_
  refine r_u (o_mv rfl) ?_
  refine r_u (o_bin rfl rfl (bP_eqp Try.underlying70)) ?_
  refine r_nil ?_
  refine x_seq ?_
  refine c_ff rfl ?_
  refine c_skip ?_
  refine x_seq ?_
  refine c_seq ?_
  refine cd_st (fun _ h => mv2 h) ?_
  refine cd_opt (fun ho8 => ?_) (fun x6 b7 ho8 => ?_)
  · rintro rfl
    have hm9 := om_n hm ho8
    clear hm
    cases hm9
  · rintro rfl
    have hm9 := om_s hm ho8
    clear hm
    refine cd_st (fun _ h => st_star_o h) ?_
    obtain ⟨r14, hr14, hm15⟩ := bs hm9
    clear hm9
    obtain ⟨r16, hr16, hm17⟩ := bs hm15
    clear hm15
    obtain ⟨r18, hr18, hm19⟩ := bs hm17
    clear hm17
    refine c_any mixed (effs := []) (V := []) ?_
    refine stage_ext [(0, pt b0_ 0), (1, pt b0_ 0), (2, pt b0_ 2), (3, pt b7 0), (4, vI r14), (5, pt b0_ 0), (6, pt b0_ 0), (7, pt b0_ 2), (8, pt b7 0), (9, vI r16), (10, vI (i64 (r14 + r16))), (11, pt b0_ 0), (12, pt b0_ 0), (13, pt b0_ 2), (14, pt b7 0), (15, vI r18), (16, vI (i64 ((i64 (r14 + r16)) + r18))), (17, vI (i64 ((i64 (r14 + r16)) + r18)))] rfl ?_
    refine stage rfl rfl rfl rfl [0, 1, 3, 7, 15, 0, 32, 96, 224, 511, 1023, 0, 2048, 6144, 14336, 31743, 65535, 131071] [0, 1, 2, 3, 4, 5, 6, 7, 8, 9, 10, 11, 12, 13, 14, 15, 16, 17] [] rfl rfl rfl (qc rfl rfl (s_u (o_mv rfl)) (qc rfl rfl (s_u (o_nc rfl)) (qc rfl rfl (s_u (o_fa fa98_2 rfl)) (qc rfl rfl (s_u (o_ld 5 sc88 rfl rfl rfl)) (qc rfl rfl (s_u (o_callqP ca56 rfl (ring_Rings_Len.ok b7 x6 g5 0 r14 hr14) (fun _ h => st_pk 7 [0, 1, 2, 3, 4, 5, 6] (by decide) h) (fun _ h => st_pk 7 [0, 1, 2, 3, 4, 5, 6] (by decide) h))) (qc rfl rfl (s_u (o_mv rfl)) (qc rfl rfl (s_u (o_nc rfl)) (qc rfl rfl (s_u (o_fa fa98_2 rfl)) (qc rfl rfl (s_u (o_ld 5 sc88 rfl rfl rfl)) (qc rfl rfl (s_u (o_callqP ca56 rfl (ring_Rings_Len.ok b7 x6 g5 1 r16 hr16) (fun _ h => st_pk 7 [0, 1, 2, 3, 4, 5, 6] (by decide) h) (fun _ h => st_pk 7 [0, 1, 2, 3, 4, 5, 6] (by decide) h))) (qc rfl rfl (s_u (o_bin rfl rfl (bI_add r14 r16))) (qc rfl rfl (s_u (o_mv rfl)) (qc rfl rfl (s_u (o_nc rfl)) (qc rfl rfl (s_u (o_fa fa98_2 rfl)) (qc rfl rfl (s_u (o_ld 5 sc88 rfl rfl rfl)) (qc rfl rfl (s_u (o_callqP ca56 rfl (ring_Rings_Len.ok b7 x6 g5 2 r18 hr18) (fun _ h => st_pk 7 [0, 1, 2, 3, 4, 5, 6] (by decide) h) (fun _ h => st_pk 7 [0, 1, 2, 3, 4, 5, 6] (by decide) h))) (qc rfl rfl (s_u (o_bin rfl rfl (bI_add (i64 (r14 + r16)) r18))) (qc rfl rfl (s_u (o_as rfl)) qn)))))))))))))))))) en ?_
    intro _
    refine ex_sub (E' := [(2, vI (i64 ((i64 (r14 + r16)) + r18)))]) ⟨rfl, trivial⟩ ?_
    refine x_seq ?_
    refine c_ret ?_
    refine ex_st (fun _ h => st_some (f := ring_Rings.op g5) (a := x6) (st_star_f (A := ring_Rings.fl b7 x6 g5) h)) ?_
    refine ex_st (fun _ h => st_back ho8 h) ?_
    obtain rfl := Option.some.inj hm19
    refine ex_st (fun _ h => st_pk 3 [1, 2, 0] (by decide) h) ?_
    exact x_r1 rfl (rv_t rfl) (Le.refl _) ⟨_, rfl, rfl, rfl, rfl⟩

def tiny_Tiny_last (a0 : tiny_Tiny) : Option (Str × Bool) :=
  om a0.r (none) fun x6 => (ring_Rings_Back x6 1).bind fun r14 => if r14.2 then some (r14.1, true) else (ring_Rings_Back x6 2).bind fun r18 => some (r18.1, r18.2)
theorem tiny_Tiny_last.ok {G R F} (b0_ : Nat) (a0 : tiny_Tiny) (g0_ : tiny_Tiny.G) (r : Str × Bool) (hm : tiny_Tiny_last a0 = some r) : CO Try.prog 76 [pt b0_ 0] G R (Bk b0_ 98 [vI a0.most, g0_.s.1, g0_.r.1] :: rO (sketch_Sketch.op g0_.s.2) g0_.s.1 a0.s :: rO (ring_Rings.op g0_.r.2) g0_.r.1 a0.r :: F)
    (Ret fun u R' L' => u = .tuple #[vS r.1, vB r.2] ∧ R' = R ∧ L' = Bk b0_ 98 [vI a0.most, g0_.s.1, g0_.r.1] :: rO (sketch_Sketch.op g0_.s.2) g0_.s.1 a0.s :: rO (ring_Rings.op g0_.r.2) g0_.r.1 a0.r :: F) := by
  obtain ⟨⟨pv1, g2⟩, ⟨pv4, g5⟩⟩ := g0_
  unfold tiny_Tiny_last at hm
  refine co_ofN (N := 23) Try.func76 rfl rfl ?_
  refine c_seq ?_
  refine c_reg ?_
  refine r_u (o_as rfl) ?_
  refine r_u (o_as rfl) ?_
  refine r_nil ?_
  refine x_seq ?_
  refine c_seq ?_
  refine c_seq ?_
  refine cd_st (fun _ h => mv2 h) ?_
  refine cd_opt (fun ho8 => ?_) (fun x6 b7 ho8 => ?_)
  · rintro rfl
    have hm9 := om_n hm ho8
    clear hm
    cases hm9
  · rintro rfl
    have hm9 := om_s hm ho8
    clear hm
    refine cd_st (fun _ h => st_star_o h) ?_
    refine c_reg ?_
    refine r_u (o_mv rfl) ?_
    refine r_u (o_nc rfl) ?_
    refine r_u (o_fa fa98_2 rfl) ?_
    refine r_u (o_ld 5 sc88 rfl rfl rfl) ?_
    obtain ⟨r14, hr14, hm15⟩ := bs hm9
    clear hm9
    refine r_c (s_w (o_call ca58 rfl (ring_Rings_Back.ok b7 x6 g5 1 r14 hr14))) ?_
    refine r_u (o_mv rfl) ?_
    refine r_u (o_ext rfl rfl) ?_
    refine r_u (o_ext rfl rfl) ?_
    refine r_u (o_as rfl) ?_
    refine r_u (o_as rfl) ?_
    refine r_nil ?_
    refine x_seq ?_
    refine c_seq ?_
    refine c_reg ?_
    refine r_u (o_mv rfl) ?_
    refine r_nil ?_
    refine x_seq ?_
    refine c_if (b := r14.2) rfl (fun h16 => ?_) fun h16 => ?_
    · have hm17 := ift hm15 h16
      clear hm15
      refine c_seq ?_
      refine c_reg ?_
      refine r_u (o_mv rfl) ?_
      refine r_u (o_as rfl) ?_
      refine r_u (o_as rfl) ?_
      refine r_nil ?_
      refine x_seq ?_
      refine c_ret ?_
      refine ex_st (fun _ h => st_some (f := ring_Rings.op g5) (a := x6) (st_star_f (A := ring_Rings.fl b7 x6 g5) h)) ?_
      refine ex_st (fun _ h => st_back ho8 h) ?_
      obtain rfl := Option.some.inj hm17
      refine ex_st (fun _ h => st_pk 3 [1, 2, 0] (by decide) h) ?_
      exact x_r2 rfl (rv_t rfl) (rv_t rfl) (Le.refl _) ⟨_, rfl, rfl, rfl, rfl⟩
    · have hm17 := iff_ hm15 h16
      clear hm15
      refine c_skip ?_
      refine x_seq ?_
      refine c_seq ?_
      refine c_reg ?_
      refine r_u (o_mv rfl) ?_
      refine r_u (o_nc rfl) ?_
      refine r_u (o_fa fa98_2 rfl) ?_
      refine r_u (o_ld 5 sc88 rfl rfl rfl) ?_
      obtain ⟨r18, hr18, hm19⟩ := bs hm17
      clear hm17
      refine r_c (s_w (o_call ca58 rfl (ring_Rings_Back.ok b7 x6 g5 2 r18 hr18))) ?_
      refine r_u (o_ext rfl rfl) ?_
      refine r_u (o_ext rfl rfl) ?_
      refine r_u (o_as rfl) ?_
      refine r_u (o_as rfl) ?_
      refine r_nil ?_
      refine x_seq ?_
      refine c_ret ?_
      refine ex_st (fun _ h => st_some (f := ring_Rings.op g5) (a := x6) (st_star_f (A := ring_Rings.fl b7 x6 g5) h)) ?_
      refine ex_st (fun _ h => st_back ho8 h) ?_
      obtain rfl := Option.some.inj hm19
      refine ex_st (fun _ h => st_pk 3 [1, 2, 0] (by decide) h) ?_
      exact x_r2 rfl (rv_t rfl) (rv_t rfl) (Le.refl _) ⟨_, rfl, rfl, rfl, rfl⟩

def sketch_Sketch_Seen (a0 : sketch_Sketch) (a1 : Str) : Option Int :=
  (sketch_Sketch_least a0 a1).bind fun r2 => (sketch_Sketch_place a0 a1 4).bind fun r4 => (gi a0.door r4).bind fun x6 => if x6 then some (i64 ((r2.toNat : Int) + 1)) else some (r2.toNat : Int)
theorem sketch_Sketch_Seen.ok {G R F} (b0_ : Nat) (a0 : sketch_Sketch) (g0_ : sketch_Sketch.G) (a1 : Str) (r : Int) (hm : sketch_Sketch_Seen a0 a1 = some r) : CO Try.prog 77 [pt b0_ 0, vS a1] G R (Bk b0_ 116 [vI a0.wide, vW a0.seed, g0_.rows.1, g0_.rows.2.1, g0_.rows.2.2.1, g0_.rows.2.2.2, g0_.door, vI a0.added] :: OwL (OwS false 5 1 eY) [g0_.rows.1, g0_.rows.2.1, g0_.rows.2.2.1, g0_.rows.2.2.2] a0.rows :: OwS true 4 1 eB g0_.door a0.door :: F)
    (Ret fun u R' L' => u = vI r ∧ R' = R ∧ L' = Bk b0_ 116 [vI a0.wide, vW a0.seed, g0_.rows.1, g0_.rows.2.1, g0_.rows.2.2.1, g0_.rows.2.2.2, g0_.door, vI a0.added] :: OwL (OwS false 5 1 eY) [g0_.rows.1, g0_.rows.2.1, g0_.rows.2.2.1, g0_.rows.2.2.2] a0.rows :: OwS true 4 1 eB g0_.door a0.door :: F) := by
  unfold sketch_Sketch_Seen at hm
  refine co_ofN (N := 24) Try.func77 rfl rfl ?_
  refine c_seq ?_
  refine c_reg ?_
  refine r_u (o_as rfl) ?_
  refine r_nil ?_
  refine x_seq ?_
  refine c_seq ?_
  refine c_seq ?_
  refine c_reg ?_
  refine r_u (o_mv rfl) ?_
  refine r_u (o_bin rfl rfl (bP_eqp Try.underlying93)) ?_
  refine r_nil ?_
  refine x_seq ?_
  refine c_ff rfl ?_
  refine c_skip ?_
  refine x_seq ?_
  refine c_seq ?_
  refine c_reg ?_
  refine r_u (o_mv rfl) ?_
  refine r_u (o_mv rfl) ?_
  obtain ⟨r2, hr2, hm3⟩ := bs hm
  clear hm
  refine r_c (s_w (o_call ca67 rfl (sketch_Sketch_least.ok b0_ a0 g0_ a1 r2 hr2))) ?_
  refine r_u (o_cv rfl (cYI Try.underlying5 Try.underlying3 r2)) ?_
  refine r_u (o_as rfl) ?_
  refine r_nil ?_
  refine x_seq ?_
  refine c_seq ?_
  refine c_seq ?_
  obtain ⟨r4, hr4, hm5⟩ := bs hm3
  clear hm3
  obtain ⟨x6, hx6, hm7⟩ := bs hm5
  clear hm5
  refine c_any mixed (effs := []) (V := []) ?_
  refine stage_ext [(0, pt b0_ 0), (1, pt b0_ 0), (2, pt b0_ 6), (3, g0_.door), (4, pt b0_ 0), (5, vS a1), (6, vI r4), (7, pt (sb g0_.door) (so g0_.door + r4.toNat * 1)), (8, vB x6)] rfl ?_
  refine stage rfl rfl rfl rfl [0, 1, 3, 7, 0, 0, 48, 127, 255] [0, 1, 2, 3, 4, 5, 6, 7, 8] [] rfl rfl rfl (qc rfl rfl (s_u (o_mv rfl)) (qc rfl rfl (s_u (o_nc rfl)) (qc rfl rfl (s_u (o_fa fa116_3 rfl)) (qc rfl rfl (s_u (o_ld 0 sc112 rfl rfl rfl)) (qc rfl rfl (s_u (o_mv rfl)) (qc rfl rfl (s_u (o_mv rfl)) (qc rfl rfl (s_u (o_callqP ca66 rfl (sketch_Sketch_place.ok b0_ a0 g0_ a1 4 r4 hr4) (fun _ h => st_pk 3 [0, 1, 2] (by decide) h) (fun _ h => st_pk 3 [0, 1, 2] (by decide) h))) (qc rfl rfl (s_u (o_ixO 2 Try.underlying112 (fun _ => by kernel_rfl) rfl rfl rfl hx6)) (qc rfl rfl (s_u (o_ldO0 2 sc4 rfl rfl hx6 rfl rfl)) qn))))))))) en ?_
  intro _
  refine ex_sub (E' := [(5, vI (r2.toNat : Int)), (20, vB x6)]) ⟨rfl, rfl, trivial⟩ ?_
  refine x_seq ?_
  refine c_if (b := x6) rfl (fun h8 => ?_) fun h8 => ?_
  · have hm9 := ift hm7 h8
    clear hm7
    refine c_reg ?_
    refine r_u (o_mv rfl) ?_
    refine r_u (o_bin rfl rfl (bI_add (r2.toNat : Int) 1)) ?_
    refine r_u (o_as rfl) ?_
    refine r_nil ?_
    refine x_seq ?_
    refine c_seq ?_
    refine c_reg ?_
    refine r_u (o_mv rfl) ?_
    refine r_u (o_as rfl) ?_
    refine r_nil ?_
    refine x_seq ?_
    refine c_ret ?_
    obtain rfl := Option.some.inj hm9
    exact x_r1 rfl (rv_t rfl) (Le.refl _) ⟨_, rfl, rfl, rfl, rfl⟩
  · have hm9 := iff_ hm7 h8
    clear hm7
    refine c_skip ?_
    refine x_seq ?_
    refine c_seq ?_
    refine c_reg ?_
    refine r_u (o_mv rfl) ?_
    refine r_u (o_as rfl) ?_
    refine r_nil ?_
    refine x_seq ?_
    refine c_ret ?_
    obtain rfl := Option.some.inj hm9
    exact x_r1 rfl (rv_t rfl) (Le.refl _) ⟨_, rfl, rfl, rfl, rfl⟩

end Go.Proofs.Ytpanhdnglicknaa
