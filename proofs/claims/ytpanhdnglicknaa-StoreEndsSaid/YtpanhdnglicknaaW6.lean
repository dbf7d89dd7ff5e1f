import Derived.Test.YtpanhdnglicknaaW5
import Derived.Test.YtpanhdnglicknaaFacts
import Derived.Test.YtpanhdnglicknaaHwZ
set_option linter.unusedVariables false
set_option linter.unusedSectionVars false
set_option linter.unusedSimpArgs false
set_option maxRecDepth 100000
set_option maxHeartbeats 8000000
namespace Go.Proofs.Ytpanhdnglicknaa
open Go Go.Proofs.Ytpanhdnglicknaa.Hw
def tiny_Tiny_Insert (a0 : tiny_Tiny) (a1 : Str) : Option (List Str × tiny_Tiny) :=
  Option.bind (if decide (64 < (a1.length : Int)) then some (true, a0) else (tiny_Tiny_Touch a0 a1).bind fun r98 => some (r98.1, r98.2)) fun p6 => if p6.1 then some ([], p6.2) else om p6.2.s (none) fun x19 => (sketch_Sketch_Add x19 a1).bind fun r25 => om p6.2.r (none) fun x27 => (ring_Rings_Front x27 0 a1).bind fun r35 => (ring_Rings_Len r35.2 0).bind fun r42 => if decide (r42 ≤ ((tiny_Parts p6.2.most).Window)) then some ([], (⟨p6.2.most, (some r25), (some r35.2)⟩ : tiny_Tiny)) else (ring_Rings_Back r35.2 0).bind fun r46 => (tiny_Tiny_Len (⟨p6.2.most, (some r25), (some r35.2)⟩ : tiny_Tiny)).bind fun r48 => if decide (r48 ≤ p6.2.most) then (ring_Rings_Front r35.2 1 r46.1).bind fun r52 => some ([], (⟨p6.2.most, (some r25), (some r52.2)⟩ : tiny_Tiny)) else (tiny_Tiny_last (⟨p6.2.most, (some r25), (some r35.2)⟩ : tiny_Tiny)).bind fun r59 => Option.bind (if r59.2 then (sketch_Sketch_Seen r25 r46.1).bind fun r92 => (sketch_Sketch_Seen r25 r59.1).bind fun r94 => some (decide (r94 < r92)) else some false) fun p61 => if p61 then (ring_Rings_Drop r35.2 r59.1).bind fun r67 => (ring_Rings_Front r67.2 1 r46.1).bind fun r74 => some ([r59.1], (⟨p6.2.most, (some r25), (some r74.2)⟩ : tiny_Tiny)) else (ring_Rings_Drop r35.2 r46.1).bind fun r82 => some ([r46.1], (⟨p6.2.most, (some r25), (some r82.2)⟩ : tiny_Tiny))
theorem tiny_Tiny_Insert.ok {G R F} (b0_ : Nat) (a0 : tiny_Tiny) (g0_ : tiny_Tiny.G) (a1 : Str) (r : List Str × tiny_Tiny) (hm : tiny_Tiny_Insert a0 a1 = some r) : CO Try.prog 60 [pt b0_ 0, vS a1] G R (Bk b0_ 98 [vI a0.most, g0_.s.1, g0_.r.1] :: rO (sketch_Sketch.op g0_.s.2) g0_.s.1 a0.s :: rO (ring_Rings.op g0_.r.2) g0_.r.1 a0.r :: F)
    (Ret fun u R' L' => ∃ (p0 : Value) (q0 : tiny_Tiny.G), u = p0 ∧ R' = R ∧ L' = OwS true 9 1 eS p0 r.1 :: Bk b0_ 98 [vI r.2.most, q0.s.1, q0.r.1] :: rO (sketch_Sketch.op q0.s.2) q0.s.1 r.2.s :: rO (ring_Rings.op q0.r.2) q0.r.1 r.2.r :: F) := by
  obtain ⟨⟨pv1, g2⟩, ⟨pv4, g5⟩⟩ := g0_
  unfold tiny_Tiny_Insert at hm
  refine co_ofN (N := 109) Try.func60 rfl rfl ?_
  refine c_seq ?_
  refine c_reg ?_
  refine r_u (o_as rfl) ?_
  refine r_nil ?_
  refine x_seq ?_
  refine c_seq ?_
  refine c_seq ?_
  obtain ⟨p6, hp14, hm15⟩ := bs hm
  refine cd_cut (fun x ks => ∀ (g7 : tiny_Tiny.G), EX x .normal ks [(0, pt b0_ 0), (1, vS a1), (20, vB p6.1)] R (Bk b0_ 98 [vI p6.2.most, g7.s.1, g7.r.1] :: rO (sketch_Sketch.op g7.s.2) g7.s.1 p6.2.s :: rO (ring_Rings.op g7.r.2) g7.r.1 p6.2.r :: F)) ?_ fun K16 => ?_
  · intro g7
    obtain ⟨⟨pv9, g10⟩, ⟨pv12, g13⟩⟩ := g7
    refine x_seq ?_
    refine c_if (b := p6.1) rfl (fun h17 => ?_) fun h17 => ?_
    · have hm18 := ift hm15 h17
      clear hm15
      refine c_seq ?_
      refine c_reg ?_
      refine r_u (o_as rfl) ?_
      refine r_nil ?_
      refine x_seq ?_
      refine c_ret ?_
      refine ex_st (fun _ h => st_nil (ap := true) (T := 9) (sz := 1) (en := eS) h) ?_
      obtain rfl := Option.some.inj hm18
      exact x_r1 rfl (rv_t rfl) (Le.refl _) ⟨_, rfl, (.slice none 0 0), (⟨(pv9, g10), (pv12, g13)⟩ : tiny_Tiny.G), rfl, rfl, rfl⟩
    · have hm18 := iff_ hm15 h17
      clear hm15
      refine c_skip ?_
      refine x_seq ?_
      refine c_seq ?_
      refine cd_st (fun _ h => mv1 h) ?_
      refine cd_opt (fun ho21 => ?_) (fun x19 b20 ho21 => ?_)
      · rintro rfl
        have hm22 := om_n hm18 ho21
        clear hm18
        cases hm22
      · rintro rfl
        have hm22 := om_s hm18 ho21
        clear hm18
        refine cd_st (fun _ h => st_star_o h) ?_
        refine c_reg ?_
        refine r_u (o_mv rfl) ?_
        refine r_u (o_nc rfl) ?_
        refine r_u (o_fa fa98_1 rfl) ?_
        refine r_u (o_ld 3 sc93 rfl rfl rfl) ?_
        refine r_u (o_mv rfl) ?_
        obtain ⟨r25, hr25, hm26⟩ := bs hm22
        clear hm22
        refine r_c (s_w (o_call ca54 rfl (sketch_Sketch_Add.ok b20 x19 g10 a1 r25 hr25))) ?_
        refine r_nil ?_
        refine x_seq ?_
        refine c_seq ?_
        refine cd_st (fun _ h => mv4 h) ?_
        refine cd_opt (fun ho29 => ?_) (fun x27 b28 ho29 => ?_)
        · rintro rfl
          have hm30 := om_n hm26 ho29
          clear hm26
          cases hm30
        · rintro rfl
          have hm30 := om_s hm26 ho29
          clear hm26
          refine cd_st (fun _ h => st_star_o h) ?_
          refine c_reg ?_
          refine r_u (o_mv rfl) ?_
          refine r_u (o_nc rfl) ?_
          refine r_u (o_fa fa98_2 rfl) ?_
          refine r_u (o_ld 8 sc88 rfl rfl rfl) ?_
          refine r_u (o_mv rfl) ?_
          obtain ⟨r35, hr35, hm41⟩ := bs hm30
          clear hm30
          refine r_sw (s_w (o_call ca55 rfl (ring_Rings_Front.ok b28 x27 g13 0 a1 r35 hr35))) ?_
          rintro _ R _ _ ⟨g36, rfl, rfl, rfl⟩
          refine r_nil ?_
          refine x_seq ?_
          refine c_seq ?_
          refine c_seq ?_
          obtain ⟨r42, hr42, hm43⟩ := bs hm41
          clear hm41
          refine c_any mixed (effs := []) (V := []) ?_
          refine stage_ext [(0, pt b0_ 0), (1, pt b0_ 0), (2, pt b0_ 2), (3, pt b28 0), (4, vI r42), (5, pt b0_ 0), (6, pt b0_ 0), (7, pt b0_ 0), (8, vI p6.2.most), (9, .agg (api_Parts.c (tiny_Parts p6.2.most)).toArray), (10, vI ((tiny_Parts p6.2.most).Window)), (11, vB (decide (r42 ≤ ((tiny_Parts p6.2.most).Window))))] rfl ?_
          refine stage rfl rfl rfl rfl [0, 1, 3, 7, 15, 0, 32, 96, 224, 511, 1023, 2047] [0, 1, 2, 3, 4, 5, 6, 7, 8, 9, 10, 11] [] rfl rfl rfl (qc rfl rfl (s_u (o_mv rfl)) (qc rfl rfl (s_u (o_nc rfl)) (qc rfl rfl (s_u (o_fa fa98_2 rfl)) (qc rfl rfl (s_u (o_ld 8 sc88 rfl rfl rfl)) (qc rfl rfl (s_u (o_callqP ca56 rfl (ring_Rings_Len.ok b28 r35.2 g36 0 r42 hr42) (fun _ h => st_pk 9 [0, 1, 2, 3, 4, 5, 6, 7, 8] (by decide) h) (fun _ h => st_pk 9 [0, 1, 2, 3, 4, 5, 6, 7, 8] (by decide) h))) (qc rfl rfl (s_u (o_mv rfl)) (qc rfl rfl (s_u (o_nc rfl)) (qc rfl rfl (s_u (o_fa fa98_0 rfl)) (qc rfl rfl (s_u (o_ld 8 sc3 rfl rfl rfl)) (qc rfl rfl (s_u (o_callq ca57 rfl (tiny_Parts.ok p6.2.most _ rfl))) (qc rfl rfl (s_u (o_fd (v := vI ((tiny_Parts p6.2.most).Window)) rfl (fun _ => by kernel_rfl))) (qc rfl rfl (s_u (o_bin rfl rfl (bI_le r42 ((tiny_Parts p6.2.most).Window)))) qn)))))))))))) en ?_
          intro _
          refine ex_sub (E' := [(0, pt b0_ 0), (44, vB (decide (r42 ≤ ((tiny_Parts p6.2.most).Window))))]) ⟨rfl, rfl, trivial⟩ ?_
          refine x_seq ?_
          refine c_if (b := decide (r42 ≤ ((tiny_Parts p6.2.most).Window))) rfl (fun h44 => ?_) fun h44 => ?_
          · have hm45 := ift hm43 h44
            clear hm43
            refine c_seq ?_
            refine c_reg ?_
            refine r_u (o_as rfl) ?_
            refine r_nil ?_
            refine x_seq ?_
            refine c_ret ?_
            refine ex_st (fun _ h => st_nil (ap := true) (T := 9) (sz := 1) (en := eS) h) ?_
            refine ex_st (fun _ h => mv8 (mv8 (mv8 h))) ?_
            refine ex_st (fun _ h => st_some (f := sketch_Sketch.op g10) (a := r25) (st_star_f (A := sketch_Sketch.fl b20 r25 g10) h)) ?_
            refine ex_st (fun _ h => mv6 (mv6 (mv6 (mv6 (mv6 h))))) ?_
            refine ex_st (fun _ h => st_some (f := ring_Rings.op g36) (a := r35.2) (st_star_f (A := ring_Rings.fl b28 r35.2 g36) h)) ?_
            obtain rfl := Option.some.inj hm45
            refine ex_st (fun _ h => st_pk 4 [2, 3, 1, 0] (by decide) h) ?_
            exact x_r1 rfl (rv_t rfl) (Le.refl _) ⟨_, rfl, (.slice none 0 0), (⟨(pt b20 0, g10), (pt b28 0, g36)⟩ : tiny_Tiny.G), rfl, rfl, rfl⟩
          · have hm45 := iff_ hm43 h44
            clear hm43
            refine c_skip ?_
            refine x_seq ?_
            refine c_seq ?_
            refine c_reg ?_
            refine r_u (o_mv rfl) ?_
            refine r_u (o_nc rfl) ?_
            refine r_u (o_fa fa98_2 rfl) ?_
            refine r_u (o_ld 8 sc88 rfl rfl rfl) ?_
            obtain ⟨r46, hr46, hm47⟩ := bs hm45
            clear hm45
            refine r_c (s_w (o_call ca58 rfl (ring_Rings_Back.ok b28 r35.2 g36 0 r46 hr46))) ?_
            refine r_u (o_mv rfl) ?_
            refine r_u (o_ext rfl rfl) ?_
            refine r_u (o_ext rfl rfl) ?_
            refine r_u (o_as rfl) ?_
            refine r_u (o_as rfl) ?_
            refine r_nil ?_
            refine x_seq ?_
            refine c_seq ?_
            refine c_seq ?_
            refine cd_st (fun _ h => mv7 (mv7 (mv7 h))) ?_
            refine cd_st (fun _ h => st_some (f := sketch_Sketch.op g10) (a := r25) (st_star_f (A := sketch_Sketch.fl b20 r25 g10) h)) ?_
            refine cd_st (fun _ h => mv5 (mv5 (mv5 (mv5 (mv5 h))))) ?_
            refine cd_st (fun _ h => st_some (f := ring_Rings.op g36) (a := r35.2) (st_star_f (A := ring_Rings.fl b28 r35.2 g36) h)) ?_
            obtain ⟨r48, hr48, hm49⟩ := bs hm47
            clear hm47
            refine c_any mixed (effs := []) (V := []) ?_
            refine stage_ext [(0, pt b0_ 0), (1, vI r48), (2, pt b0_ 0), (3, pt b0_ 0), (4, pt b0_ 0), (5, vI p6.2.most), (6, vB (decide (r48 ≤ p6.2.most)))] rfl ?_
            refine stage rfl rfl rfl rfl [0, 1, 0, 4, 12, 28, 63] [0, 1, 2, 3, 4, 5, 6] [] rfl rfl rfl (qc rfl rfl (s_u (o_mv rfl)) (qc rfl rfl (s_u (o_callqP ca75 rfl (tiny_Tiny_Len.ok b0_ (⟨p6.2.most, (some r25), (some r35.2)⟩ : tiny_Tiny) (⟨(pt b20 0, g10), (pt b28 0, g36)⟩ : tiny_Tiny.G) r48 hr48) (fun _ h => st_pk 3 [2, 1, 0] (by decide) h) (fun _ h => st_pk 3 [2, 1, 0] (by decide) h))) (qc rfl rfl (s_u (o_mv rfl)) (qc rfl rfl (s_u (o_nc rfl)) (qc rfl rfl (s_u (o_fa fa98_0 rfl)) (qc rfl rfl (s_u (o_ld 2 sc3 rfl rfl rfl)) (qc rfl rfl (s_u (o_bin rfl rfl (bI_le r48 p6.2.most))) qn))))))) en ?_
            intro _
            refine ex_sub (E' := [(0, pt b0_ 0), (5, vS r46.1), (59, vB (decide (r48 ≤ p6.2.most)))]) ⟨rfl, rfl, rfl, trivial⟩ ?_
            refine x_seq ?_
            refine c_if (b := decide (r48 ≤ p6.2.most)) rfl (fun h50 => ?_) fun h50 => ?_
            · have hm51 := ift hm49 h50
              clear hm49
              refine c_seq ?_
              refine c_reg ?_
              refine r_u (o_mv rfl) ?_
              refine r_u (o_nc rfl) ?_
              refine r_u (o_fa fa98_2 rfl) ?_
              refine r_u (o_ld 2 sc88 rfl rfl rfl) ?_
              refine r_u (o_mv rfl) ?_
              refine rl_st (fun _ h => st_some_o h) ?_
              refine rl_st (fun _ h => st_star_o h) ?_
              obtain ⟨r52, hr52, hm58⟩ := bs hm51
              clear hm51
              refine r_sw (s_w (o_call ca55 rfl (ring_Rings_Front.ok b28 r35.2 g36 1 r46.1 r52 hr52))) ?_
              rintro _ R _ _ ⟨g53, rfl, rfl, rfl⟩
              refine r_nil ?_
              refine x_seq ?_
              refine c_seq ?_
              refine c_reg ?_
              refine r_u (o_as rfl) ?_
              refine r_nil ?_
              refine x_seq ?_
              refine c_ret ?_
              refine ex_st (fun _ h => st_nil (ap := true) (T := 9) (sz := 1) (en := eS) h) ?_
              refine ex_st (fun _ h => mv5 (mv5 (mv5 (mv5 (mv5 h))))) ?_
              refine ex_st (fun _ h => st_some (f := ring_Rings.op g53) (a := r52.2) (st_star_f (A := ring_Rings.fl b28 r52.2 g53) h)) ?_
              obtain rfl := Option.some.inj hm58
              refine ex_st (fun _ h => st_pk 4 [1, 3, 2, 0] (by decide) h) ?_
              exact x_r1 rfl (rv_t rfl) (Le.refl _) ⟨_, rfl, (.slice none 0 0), (⟨(pt b20 0, g10), (pt b28 0, g53)⟩ : tiny_Tiny.G), rfl, rfl, rfl⟩
            · have hm51 := iff_ hm49 h50
              clear hm49
              refine c_skip ?_
              refine x_seq ?_
              refine c_seq ?_
              refine c_reg ?_
              refine r_u (o_mv rfl) ?_
              obtain ⟨r59, hr59, hm60⟩ := bs hm51
              clear hm51
              refine rl_st (fun _ h => mv2 (mv1 h)) ?_
              refine r_c (s_w (o_call ca76 rfl (tiny_Tiny_last.ok b0_ (⟨p6.2.most, (some r25), (some r35.2)⟩ : tiny_Tiny) (⟨(pt b20 0, g10), (pt b28 0, g36)⟩ : tiny_Tiny.G) r59 hr59))) ?_
              refine r_u (o_mv rfl) ?_
              refine r_u (o_ext rfl rfl) ?_
              refine r_u (o_ext rfl rfl) ?_
              refine r_u (o_as rfl) ?_
              refine r_u (o_as rfl) ?_
              refine r_nil ?_
              refine x_seq ?_
              refine c_seq ?_
              refine c_seq ?_
              refine cd_st (fun _ h => mv1 h) ?_
              refine cd_st (fun _ h => st_some_o h) ?_
              refine cd_st (fun _ h => st_star_o h) ?_
              obtain ⟨p61, hp62, hm63⟩ := bs hm60
              refine cd_join (E' := [(0, pt b0_ 0), (5, vS r46.1), (7, vS r59.1), (86, vB p61)]) (L' := Bk b20 116 [vI r25.wide, vW r25.seed, g10.rows.1, g10.rows.2.1, g10.rows.2.2.1, g10.rows.2.2.2, g10.door, vI r25.added] :: Bk b0_ 98 [vI p6.2.most, pt b20 0, pt b28 0] :: OwL (OwS false 5 1 eY) [g10.rows.1, g10.rows.2.1, g10.rows.2.2.1, g10.rows.2.2.2] r25.rows :: OwS true 4 1 eB g10.door r25.door :: rO (ring_Rings.op g36) (pt b28 0) (some r35.2) :: F) ?_ fun K64 => ?_
              · refine x_seq ?_
                refine c_if (b := p61) rfl (fun h65 => ?_) fun h65 => ?_
                · have hm66 := ift hm63 h65
                  clear hm63
                  refine c_seq ?_
                  refine c_reg ?_
                  refine r_u (o_mv rfl) ?_
                  refine r_u (o_nc rfl) ?_
                  refine r_u (o_fa fa98_2 rfl) ?_
                  refine r_u (o_ld 1 sc88 rfl rfl rfl) ?_
                  refine r_u (o_mv rfl) ?_
                  refine rl_st (fun _ h => mv4 h) ?_
                  refine rl_st (fun _ h => st_some_o h) ?_
                  refine rl_st (fun _ h => st_star_o h) ?_
                  obtain ⟨r67, hr67, hm73⟩ := bs hm66
                  clear hm66
                  refine r_sw (s_w (o_call ca40 rfl (ring_Rings_Drop.ok b28 r35.2 g36 r59.1 r67 hr67))) ?_
                  rintro _ R _ _ ⟨g68, rfl, rfl, rfl⟩
                  refine r_nil ?_
                  refine x_seq ?_
                  refine c_seq ?_
                  refine c_reg ?_
                  refine r_u (o_mv rfl) ?_
                  refine r_u (o_nc rfl) ?_
                  refine r_u (o_fa fa98_2 rfl) ?_
                  refine r_u (o_ld 6 sc88 rfl rfl rfl) ?_
                  refine r_u (o_mv rfl) ?_
                  obtain ⟨r74, hr74, hm80⟩ := bs hm73
                  clear hm73
                  refine r_sw (s_w (o_call ca55 rfl (ring_Rings_Front.ok b28 r67.2 g68 1 r46.1 r74 hr74))) ?_
                  rintro _ R _ _ ⟨g75, rfl, rfl, rfl⟩
                  refine r_nil ?_
                  refine x_seq ?_
                  refine c_seq ?_
                  refine c_reg ?_
                  refine r_u (o_mv rfl) ?_
                  refine r_sw (s_w (o_bsl (en := eS) (sz := 1) (e := 9) (cs := [vS r59.1]) (r := [r59.1]) rfl (fun _ => by kernel_rfl) rfl (by decide) rfl (fun _ => rfl))) ?_
                  rintro v81 R _ _ ⟨rfl, rfl⟩
                  refine r_u (o_as rfl) ?_
                  refine r_nil ?_
                  refine x_seq ?_
                  refine c_ret ?_
                  refine ex_st (fun _ h => mv8 (mv9 (mv9 h))) ?_
                  refine ex_st (fun _ h => st_some (f := sketch_Sketch.op g10) (a := r25) (st_star_f (A := sketch_Sketch.fl b20 r25 g10) h)) ?_
                  refine ex_st (fun _ h => mv6 (mv6 (mv6 (mv6 (mv6 h))))) ?_
                  refine ex_st (fun _ h => st_some (f := ring_Rings.op g75) (a := r74.2) (st_star_f (A := ring_Rings.fl b28 r74.2 g75) h)) ?_
                  obtain rfl := Option.some.inj hm80
                  refine ex_st (fun _ h => st_pk 4 [2, 3, 1, 0] (by decide) h) ?_
                  exact x_r1 rfl (rv_t rfl) (Le.refl _) ⟨_, rfl, v81, (⟨(pt b20 0, g10), (pt b28 0, g75)⟩ : tiny_Tiny.G), rfl, rfl, rfl⟩
                · have hm66 := iff_ hm63 h65
                  clear hm63
                  refine c_skip ?_
                  refine x_seq ?_
                  refine c_seq ?_
                  refine c_reg ?_
                  refine r_u (o_mv rfl) ?_
                  refine r_u (o_nc rfl) ?_
                  refine r_u (o_fa fa98_2 rfl) ?_
                  refine r_u (o_ld 1 sc88 rfl rfl rfl) ?_
                  refine r_u (o_mv rfl) ?_
                  refine rl_st (fun _ h => mv4 h) ?_
                  refine rl_st (fun _ h => st_some_o h) ?_
                  refine rl_st (fun _ h => st_star_o h) ?_
                  obtain ⟨r82, hr82, hm88⟩ := bs hm66
                  clear hm66
                  refine r_sw (s_w (o_call ca40 rfl (ring_Rings_Drop.ok b28 r35.2 g36 r46.1 r82 hr82))) ?_
                  rintro _ R _ _ ⟨g83, rfl, rfl, rfl⟩
                  refine r_nil ?_
                  refine x_seq ?_
                  refine c_seq ?_
                  refine c_reg ?_
                  refine r_u (o_mv rfl) ?_
                  refine r_sw (s_w (o_bsl (en := eS) (sz := 1) (e := 9) (cs := [vS r46.1]) (r := [r46.1]) rfl (fun _ => by kernel_rfl) rfl (by decide) rfl (fun _ => rfl))) ?_
                  rintro v89 R _ _ ⟨rfl, rfl⟩
                  refine r_u (o_as rfl) ?_
                  refine r_nil ?_
                  refine x_seq ?_
                  refine c_ret ?_
                  refine ex_st (fun _ h => mv8 (mv9 (mv9 h))) ?_
                  refine ex_st (fun _ h => st_some (f := sketch_Sketch.op g10) (a := r25) (st_star_f (A := sketch_Sketch.fl b20 r25 g10) h)) ?_
                  refine ex_st (fun _ h => mv6 (mv6 (mv6 (mv6 (mv6 h))))) ?_
                  refine ex_st (fun _ h => st_some (f := ring_Rings.op g83) (a := r82.2) (st_star_f (A := ring_Rings.fl b28 r82.2 g83) h)) ?_
                  obtain rfl := Option.some.inj hm88
                  refine ex_st (fun _ h => st_pk 4 [2, 3, 1, 0] (by decide) h) ?_
                  exact x_r1 rfl (rv_t rfl) (Le.refl _) ⟨_, rfl, v89, (⟨(pt b20 0, g10), (pt b28 0, g83)⟩ : tiny_Tiny.G), rfl, rfl, rfl⟩
              · refine cd_by r59.2 (fun h90 => ?_) fun h90 => ?_
                · have hm91 := ift hp62 h90
                  clear hp62
                  obtain ⟨r92, hr92, hm93⟩ := bs hm91
                  clear hm91
                  obtain ⟨r94, hr94, hm95⟩ := bs hm93
                  clear hm93
                  refine c_any mixed (effs := []) (V := []) ?_
                  refine stage_ext [(0, vB r59.2), (1, vB r59.2), (2, pt b0_ 0), (3, pt b0_ 0), (4, pt b0_ 1), (5, pt b20 0), (6, vS r46.1), (7, vI r92), (8, pt b0_ 0), (9, pt b0_ 0), (10, pt b0_ 1), (11, pt b20 0), (12, vS r59.1), (13, vI r94), (14, vB (decide (r94 < r92))), (15, vB (decide (r94 < r92)))] rfl ?_
                  refine stage rfl rfl rfl rfl [0, 1, 3, 7, 15, 31, 3, 127, 3, 259, 771, 1795, 3, 8191, 16383, 32767] [0, 1, 2, 3, 4, 5, 6, 7, 8, 9, 10, 11, 12, 13, 14, 15] [] rfl rfl rfl (qc rfl rfl (s_u (o_mv rfl)) (qc rfl rfl (s_u (o_mv rfl)) (qc rfl rfl (s_y rfl rfl h90 (o_mv rfl)) (qc rfl rfl (s_y rfl rfl h90 (o_nc rfl)) (qc rfl rfl (s_y rfl rfl h90 (o_fa fa98_1 rfl)) (qc rfl rfl (s_y rfl rfl h90 (o_ld 3 sc93 rfl rfl rfl)) (qc rfl rfl (s_y rfl rfl h90 (o_mv rfl)) (qc rfl rfl (s_y rfl rfl h90 (o_callqP ca77 rfl (sketch_Sketch_Seen.ok b20 r25 g10 r46.1 r92 hr92) (fun _ h => st_pk 5 [0, 1, 2, 3, 4] (by decide) h) (fun _ h => st_pk 5 [0, 1, 2, 3, 4] (by decide) h))) (qc rfl rfl (s_y rfl rfl h90 (o_mv rfl)) (qc rfl rfl (s_y rfl rfl h90 (o_nc rfl)) (qc rfl rfl (s_y rfl rfl h90 (o_fa fa98_1 rfl)) (qc rfl rfl (s_y rfl rfl h90 (o_ld 3 sc93 rfl rfl rfl)) (qc rfl rfl (s_y rfl rfl h90 (o_mv rfl)) (qc rfl rfl (s_y rfl rfl h90 (o_callqP ca77 rfl (sketch_Sketch_Seen.ok b20 r25 g10 r59.1 r94 hr94) (fun _ h => st_pk 5 [0, 1, 2, 3, 4] (by decide) h) (fun _ h => st_pk 5 [0, 1, 2, 3, 4] (by decide) h))) (qc rfl rfl (s_y rfl rfl h90 (o_bin rfl rfl (bI_gt r92 r94))) (qc rfl rfl (s_u (o_pt rfl h90 rfl)) qn)))))))))))))))) en ?_
                  intro _
                  refine ex_sub (E' := [(0, pt b0_ 0), (5, vS r46.1), (7, vS r59.1), (86, vB (decide (r94 < r92)))]) ⟨rfl, rfl, rfl, rfl, trivial⟩ ?_
                  obtain rfl := Option.some.inj hm95
                  exact x_sub K64 ⟨rfl, rfl, rfl, rfl, trivial⟩ (fun _ h => st_pk 5 [0, 3, 1, 2, 4] (by decide) h)
                · have hm91 := iff_ hp62 h90
                  clear hp62
                  refine c_any mixed (effs := []) (V := []) ?_
                  refine stage_ext [(0, vB r59.2), (1, vB r59.2), (2, undef), (3, undef), (4, undef), (5, undef), (6, undef), (7, undef), (8, undef), (9, undef), (10, undef), (11, undef), (12, undef), (13, undef), (14, undef), (15, vB false)] rfl ?_
                  refine stage rfl rfl rfl rfl [0, 1, 3, 7, 15, 31, 3, 127, 3, 259, 771, 1795, 3, 8191, 16383, 32767] [0, 1, 2, 3, 4, 5, 6, 7, 8, 9, 10, 11, 12, 13, 14, 15] [] rfl rfl rfl (qc rfl rfl (s_u (o_mv rfl)) (qc rfl rfl (s_u (o_mv rfl)) (qc rfl rfl (s_n rfl rfl h90) (qc rfl rfl (s_n rfl rfl h90) (qc rfl rfl (s_n rfl rfl h90) (qc rfl rfl (s_n rfl rfl h90) (qc rfl rfl (s_n rfl rfl h90) (qc rfl rfl (s_n rfl rfl h90) (qc rfl rfl (s_n rfl rfl h90) (qc rfl rfl (s_n rfl rfl h90) (qc rfl rfl (s_n rfl rfl h90) (qc rfl rfl (s_n rfl rfl h90) (qc rfl rfl (s_n rfl rfl h90) (qc rfl rfl (s_n rfl rfl h90) (qc rfl rfl (s_n rfl rfl h90) (qc rfl rfl (s_u (o_pf rfl h90 rfl)) qn)))))))))))))))) en ?_
                  intro _
                  refine ex_sub (E' := [(0, pt b0_ 0), (5, vS r46.1), (7, vS r59.1), (86, vB false)]) ⟨rfl, rfl, rfl, rfl, trivial⟩ ?_
                  obtain rfl := Option.some.inj hm91
                  exact x_sub K64 ⟨rfl, rfl, rfl, rfl, trivial⟩ (fun _ h => st_pk 5 [0, 3, 1, 2, 4] (by decide) h)
  · refine cd_by (decide (64 < (a1.length : Int))) (fun h96 => ?_) fun h96 => ?_
    · have hm97 := ift hp14 h96
      clear hp14
      refine c_reg ?_
      refine r_u (o_mv rfl) ?_
      refine r_u (o_bin rfl rfl (bP_eqp Try.underlying70)) ?_
      refine r_u (o_mv rfl) ?_
      refine r_s (s_y rfl rfl rfl (o_mv rfl)) ?_
      refine r_s (s_y rfl rfl rfl (o_lenS Try.underlying9 rfl)) ?_
      refine r_s (s_y rfl rfl rfl (o_bin rfl rfl (bI_gt (a1.length : Int) 64))) ?_
      refine r_u (o_pf rfl rfl rfl) ?_
      refine r_u (o_mv rfl) ?_
      refine r_s (s_n rfl rfl h96) ?_
      refine r_s (s_n rfl rfl h96) ?_
      refine r_s (s_n rfl rfl h96) ?_
      refine r_u (o_pt rfl h96 rfl) ?_
      refine r_nil ?_
      obtain rfl := Option.some.inj hm97
      exact x_sub (K16 (⟨(pv1, g2), (pv4, g5)⟩ : tiny_Tiny.G)) ⟨rfl, rfl, rfl, trivial⟩ (fun _ h => st_pk 3 [0, 1, 2] (by decide) h)
    · have hm97 := iff_ hp14 h96
      clear hp14
      refine c_reg ?_
      refine r_u (o_mv rfl) ?_
      refine r_u (o_bin rfl rfl (bP_eqp Try.underlying70)) ?_
      refine r_u (o_mv rfl) ?_
      refine r_s (s_y rfl rfl rfl (o_mv rfl)) ?_
      refine r_s (s_y rfl rfl rfl (o_lenS Try.underlying9 rfl)) ?_
      refine r_s (s_y rfl rfl rfl (o_bin rfl rfl (bI_gt (a1.length : Int) 64))) ?_
      refine r_u (o_pf rfl rfl rfl) ?_
      refine r_u (o_mv rfl) ?_
      refine r_s (s_y rfl rfl h96 (o_mv rfl)) ?_
      refine r_s (s_y rfl rfl h96 (o_mv rfl)) ?_
      obtain ⟨r98, hr98, hm106⟩ := bs hm97
      clear hm97
      refine r_sw (s_yw rfl rfl h96 (o_call ca44 rfl (tiny_Tiny_Touch.ok b0_ a0 (⟨(pv1, g2), (pv4, g5)⟩ : tiny_Tiny.G) a1 r98 hr98))) ?_
      rintro _ R _ _ ⟨⟨⟨pv101, g102⟩, ⟨pv104, g105⟩⟩, rfl, rfl, rfl⟩
      refine r_u (o_pf rfl h96 rfl) ?_
      refine r_nil ?_
      obtain rfl := Option.some.inj hm106
      exact x_sub (K16 (⟨(pv101, g102), (pv104, g105)⟩ : tiny_Tiny.G)) ⟨rfl, rfl, rfl, trivial⟩ (fun _ h => st_pk 3 [0, 1, 2] (by decide) h)

def policy_Policy_Insert (a0 : policy_Policy) (a1 : Str) : Option (List Str × policy_Policy) :=
  if ((policy_Policy_Kind a0) == 1) then om a0.a (none) fun x8 => (arc_Arc_Insert x8 a1).bind fun r15 => some (r15.1, (⟨a0.kind, (some r15.2), a0.t⟩ : policy_Policy)) else if ((policy_Policy_Kind a0) == 2) then om a0.t (none) fun x24 => (tiny_Tiny_Insert x24 a1).bind fun r34 => some (r34.1, (⟨a0.kind, a0.a, (some r34.2)⟩ : policy_Policy)) else some ([], a0)
theorem policy_Policy_Insert.ok {G R F} (b0_ : Nat) (a0 : policy_Policy) (g0_ : policy_Policy.G) (a1 : Str) (r : List Str × policy_Policy) (hm : policy_Policy_Insert a0 a1 = some r) : CO Try.prog 46 [pt b0_ 0, vS a1] G R (Bk b0_ 72 [vI a0.kind, g0_.a.1, g0_.t.1] :: rO (arc_Arc.op g0_.a.2) g0_.a.1 a0.a :: rO (tiny_Tiny.op g0_.t.2) g0_.t.1 a0.t :: F)
    (Ret fun u R' L' => ∃ (p0 : Value) (q0 : policy_Policy.G), u = p0 ∧ R' = R ∧ L' = OwS true 9 1 eS p0 r.1 :: Bk b0_ 72 [vI r.2.kind, q0.a.1, q0.t.1] :: rO (arc_Arc.op q0.a.2) q0.a.1 r.2.a :: rO (tiny_Tiny.op q0.t.2) q0.t.1 r.2.t :: F) := by
  obtain ⟨⟨pv1, g2⟩, ⟨pv4, g5⟩⟩ := g0_
  unfold policy_Policy_Insert at hm
  refine co_ofN (N := 23) Try.func46 rfl rfl ?_
  refine c_seq ?_
  refine c_reg ?_
  refine r_u (o_as rfl) ?_
  refine r_nil ?_
  refine x_seq ?_
  refine c_seq ?_
  refine c_seq ?_
  refine c_reg ?_
  refine r_u (o_mv rfl) ?_
  refine r_c (s_w (o_call ca27 rfl (policy_Policy_Kind.ok b0_ a0 (⟨(pv1, g2), (pv4, g5)⟩ : policy_Policy.G) _ rfl))) ?_
  refine r_nil ?_
  refine x_seq ?_
  refine c_blk ?_
  refine c_seq ?_
  refine c_reg ?_
  refine r_u (o_bin rfl rfl (bI_eq (policy_Policy_Kind a0) 1)) ?_
  refine r_u (o_as rfl) ?_
  refine r_nil ?_
  refine x_seq ?_
  refine c_if (b := ((policy_Policy_Kind a0) == 1)) rfl (fun h6 => ?_) fun h6 => ?_
  · have hm7 := ift hm h6
    clear hm
    refine c_seq ?_
    refine cd_st (fun _ h => mv1 h) ?_
    refine cd_opt (fun ho10 => ?_) (fun x8 b9 ho10 => ?_)
    · rintro rfl
      have hm11 := om_n hm7 ho10
      clear hm7
      cases hm11
    · rintro rfl
      have hm11 := om_s hm7 ho10
      clear hm7
      obtain ⟨⟨pv13, g14⟩⟩ := g2
      refine cd_st (fun _ h => st_star_o h) ?_
      refine c_reg ?_
      refine r_u (o_mv rfl) ?_
      refine r_u (o_nc rfl) ?_
      refine r_u (o_fa fa72_1 rfl) ?_
      refine r_u (o_ld 2 sc69 rfl rfl rfl) ?_
      refine r_u (o_mv rfl) ?_
      obtain ⟨r15, hr15, hm21⟩ := bs hm11
      clear hm11
      refine r_sw (s_w (o_call ca59 rfl (arc_Arc_Insert.ok b9 x8 (⟨(pv13, g14)⟩ : arc_Arc.G) a1 r15 hr15))) ?_
      rintro v16 R _ _ ⟨_, ⟨⟨pv19, g20⟩⟩, rfl, rfl, rfl⟩
      refine r_u (o_as rfl) ?_
      refine r_nil ?_
      refine x_seq ?_
      refine c_ret ?_
      refine ex_st (fun _ h => mv2 (mv2 h)) ?_
      refine ex_st (fun _ h => st_some (f := arc_Arc.op (⟨(pv19, g20)⟩ : arc_Arc.G)) (a := r15.2) (st_star_f (A := arc_Arc.fl b9 r15.2 (⟨(pv19, g20)⟩ : arc_Arc.G)) h)) ?_
      obtain rfl := Option.some.inj hm21
      refine ex_st (fun _ h => st_pk 4 [1, 2, 0, 3] (by decide) h) ?_
      exact x_r1 rfl (rv_t rfl) (Le.refl _) ⟨_, rfl, v16, (⟨(pt b9 0, (⟨(pv19, g20)⟩ : arc_Arc.G)), (pv4, g5)⟩ : policy_Policy.G), rfl, rfl, rfl⟩
  · have hm7 := iff_ hm h6
    clear hm
    refine c_seq ?_
    refine c_reg ?_
    refine r_u (o_bin rfl rfl (bI_eq (policy_Policy_Kind a0) 2)) ?_
    refine r_u (o_as rfl) ?_
    refine r_nil ?_
    refine x_seq ?_
    refine c_if (b := ((policy_Policy_Kind a0) == 2)) rfl (fun h22 => ?_) fun h22 => ?_
    · have hm23 := ift hm7 h22
      clear hm7
      refine c_seq ?_
      refine cd_st (fun _ h => mv2 h) ?_
      refine cd_opt (fun ho26 => ?_) (fun x24 b25 ho26 => ?_)
      · rintro rfl
        have hm27 := om_n hm23 ho26
        clear hm23
        cases hm27
      · rintro rfl
        have hm27 := om_s hm23 ho26
        clear hm23
        obtain ⟨⟨pv29, g30⟩, ⟨pv32, g33⟩⟩ := g5
        refine cd_st (fun _ h => st_star_o h) ?_
        refine c_reg ?_
        refine r_u (o_mv rfl) ?_
        refine r_u (o_nc rfl) ?_
        refine r_u (o_fa fa72_2 rfl) ?_
        refine r_u (o_ld 3 sc70 rfl rfl rfl) ?_
        refine r_u (o_mv rfl) ?_
        obtain ⟨r34, hr34, hm43⟩ := bs hm27
        clear hm27
        refine r_sw (s_w (o_call ca60 rfl (tiny_Tiny_Insert.ok b25 x24 (⟨(pv29, g30), (pv32, g33)⟩ : tiny_Tiny.G) a1 r34 hr34))) ?_
        rintro v35 R _ _ ⟨_, ⟨⟨pv38, g39⟩, ⟨pv41, g42⟩⟩, rfl, rfl, rfl⟩
        refine r_u (o_as rfl) ?_
        refine r_nil ?_
        refine x_seq ?_
        refine c_ret ?_
        refine ex_st (fun _ h => mv3 (mv3 (mv3 h))) ?_
        refine ex_st (fun _ h => st_some (f := tiny_Tiny.op (⟨(pv38, g39), (pv41, g42)⟩ : tiny_Tiny.G)) (a := r34.2) (st_star_f (A := tiny_Tiny.fl b25 r34.2 (⟨(pv38, g39), (pv41, g42)⟩ : tiny_Tiny.G)) h)) ?_
        obtain rfl := Option.some.inj hm43
        refine ex_st (fun _ h => st_pk 4 [1, 2, 3, 0] (by decide) h) ?_
        exact x_r1 rfl (rv_t rfl) (Le.refl _) ⟨_, rfl, v35, (⟨(pv1, g2), (pt b25 0, (⟨(pv38, g39), (pv41, g42)⟩ : tiny_Tiny.G))⟩ : policy_Policy.G), rfl, rfl, rfl⟩
    · have hm23 := iff_ hm7 h22
      clear hm7
      refine c_skip ?_
      refine x_blk ?_
      refine x_seq ?_
      refine c_seq ?_
      refine c_reg ?_
      refine r_u (o_as rfl) ?_
      refine r_nil ?_
      refine x_seq ?_
      refine c_ret ?_
      refine ex_st (fun _ h => st_nil (ap := true) (T := 9) (sz := 1) (en := eS) h) ?_
      obtain rfl := Option.some.inj hm23
      exact x_r1 rfl (rv_t rfl) (Le.refl _) ⟨_, rfl, (.slice none 0 0), (⟨(pv1, g2), (pv4, g5)⟩ : policy_Policy.G), rfl, rfl, rfl⟩

def table_Table_Bytes (a0 : table_Table) : Int :=
  a0.bytes
theorem table_Table_Bytes.ok {G R F} (b0_ : Nat) (a0 : table_Table) (g0_ : table_Table.G) (r : Int) (hm : table_Table_Bytes a0 = r) : CO Try.prog 47 [pt b0_ 0] G R (Bk b0_ 79 [g0_.m, vI a0.bytes] :: OwM vS api_Entry.v g0_.m a0.m :: F)
    (Ret fun u R' L' => u = vI r ∧ R' = R ∧ L' = Bk b0_ 79 [g0_.m, vI a0.bytes] :: OwM vS api_Entry.v g0_.m a0.m :: F) := by
  unfold table_Table_Bytes at hm
  refine co_ofN (N := 9) Try.func47 rfl rfl ?_
  refine c_seq ?_
  refine c_reg ?_
  refine r_u (o_as rfl) ?_
  refine r_nil ?_
  refine x_seq ?_
  refine c_seq ?_
  refine c_seq ?_
  refine c_reg ?_
  refine r_u (o_mv rfl) ?_
  refine r_u (o_bin rfl rfl (bP_eqp Try.underlying51)) ?_
  refine r_nil ?_
  refine x_seq ?_
  refine c_ff rfl ?_
  refine c_skip ?_
  refine x_seq ?_
  refine c_seq ?_
  refine c_reg ?_
  refine r_u (o_mv rfl) ?_
  refine r_u (o_nc rfl) ?_
  refine r_u (o_fa fa79_1 rfl) ?_
  refine r_u (o_ld 0 sc3 rfl rfl rfl) ?_
  refine r_u (o_as rfl) ?_
  refine r_nil ?_
  refine x_seq ?_
  refine c_ret ?_
  subst hm
  exact x_r1 rfl (rv_t rfl) (Le.refl _) ⟨_, rfl, rfl, rfl, rfl⟩

def arc_Arc_Evict (a0 : arc_Arc) : Option (Str × Bool × arc_Arc) :=
  (arc_Arc_Len a0).bind fun r3 => if (r3 == 0) then some ([], false, a0) else (arc_Arc_replace a0 false).bind fun r7 => (gi r7.1 0).bind fun x14 => some (x14, true, r7.2)
theorem arc_Arc_Evict.ok {G R F} (b0_ : Nat) (a0 : arc_Arc) (g0_ : arc_Arc.G) (r : Str × Bool × arc_Arc) (hm : arc_Arc_Evict a0 = some r) : CO Try.prog 61 [pt b0_ 0] G R (Bk b0_ 92 [vI a0.most, vI a0.target, g0_.r.1] :: rO (ring_Rings.op g0_.r.2) g0_.r.1 a0.r :: F)
    (Ret fun u R' L' => ∃ (q0 : arc_Arc.G), u = .tuple #[vS r.1, vB r.2.1] ∧ R' = R ∧ L' = Bk b0_ 92 [vI r.2.2.most, vI r.2.2.target, q0.r.1] :: rO (ring_Rings.op q0.r.2) q0.r.1 r.2.2.r :: F) := by
  obtain ⟨⟨pv1, g2⟩⟩ := g0_
  unfold arc_Arc_Evict at hm
  refine co_ofN (N := 11) Try.func61 rfl rfl ?_
  refine c_seq ?_
  refine c_reg ?_
  refine r_u (o_as rfl) ?_
  refine r_u (o_as rfl) ?_
  refine r_nil ?_
  refine x_seq ?_
  refine c_seq ?_
  refine c_seq ?_
  refine c_reg ?_
  refine r_u (o_mv rfl) ?_
  obtain ⟨r3, hr3, hm4⟩ := bs hm
  clear hm
  refine r_c (s_w (o_call ca73 rfl (arc_Arc_Len.ok b0_ a0 (⟨(pv1, g2)⟩ : arc_Arc.G) r3 hr3))) ?_
  refine r_u (o_bin rfl rfl (bI_eq r3 0)) ?_
  refine r_nil ?_
  refine x_seq ?_
  refine c_if (b := (r3 == 0)) rfl (fun h5 => ?_) fun h5 => ?_
  · have hm6 := ift hm4 h5
    clear hm4
    refine c_seq ?_
    refine c_reg ?_
    refine r_u (o_as rfl) ?_
    refine r_u (o_as rfl) ?_
    refine r_nil ?_
    refine x_seq ?_
    refine c_ret ?_
    obtain rfl := Option.some.inj hm6
    exact x_r2 rfl (rv_t rfl) (rv_t rfl) (Le.refl _) ⟨_, rfl, (⟨(pv1, g2)⟩ : arc_Arc.G), rfl, rfl, rfl⟩
  · have hm6 := iff_ hm4 h5
    clear hm4
    refine c_skip ?_
    refine x_seq ?_
    refine c_seq ?_
    refine c_reg ?_
    refine r_u (o_mv rfl) ?_
    obtain ⟨r7, hr7, hm13⟩ := bs hm6
    clear hm6
    refine r_sw (s_w (o_call ca74 rfl (arc_Arc_replace.ok b0_ a0 (⟨(pv1, g2)⟩ : arc_Arc.G) false r7 hr7))) ?_
    rintro v8 R _ _ ⟨_, ⟨⟨pv11, g12⟩⟩, rfl, rfl, rfl⟩
    obtain ⟨x14, hx14, hm15⟩ := bs hm13
    clear hm13
    refine r_u (o_ixO 0 Try.underlying59 (fun _ => by kernel_rfl) rfl rfl rfl hx14) ?_
    refine r_u (o_ldO0 0 sc9 rfl rfl hx14 rfl rfl) ?_
    refine r_u (o_as rfl) ?_
    refine r_u (o_as rfl) ?_
    refine r_nil ?_
    refine x_seq ?_
    refine c_ret ?_
    obtain rfl := Option.some.inj hm15
    refine ex_st (fun _ h => st_pk 3 [1, 2] (by decide) h) ?_
    exact x_r2 rfl (rv_t rfl) (rv_t rfl) (Le.refl _) ⟨_, rfl, (⟨(pv11, g12)⟩ : arc_Arc.G), rfl, rfl, rfl⟩

def tiny_Tiny_Evict (a0 : tiny_Tiny) : Option (Str × Bool × tiny_Tiny) :=
  (tiny_Tiny_Len a0).bind fun r6 => if (r6 == 0) then some ([], false, a0) else om a0.r (none) fun x10 => (ring_Rings_Back x10 1).bind fun r18 => Option.bind (if !r18.2 then (ring_Rings_Back x10 0).bind fun r41 => some (r41.1, r41.2) else some (r18.1, r18.2)) fun p20 => Option.bind (if !p20.2 then (ring_Rings_Back x10 2).bind fun r37 => some r37.1 else some p20.1) fun p24 => (ring_Rings_Drop x10 p24).bind fun r28 => some (p24, true, (⟨a0.most, a0.s, (some r28.2)⟩ : tiny_Tiny))
theorem tiny_Tiny_Evict.ok {G R F} (b0_ : Nat) (a0 : tiny_Tiny) (g0_ : tiny_Tiny.G) (r : Str × Bool × tiny_Tiny) (hm : tiny_Tiny_Evict a0 = some r) : CO Try.prog 62 [pt b0_ 0] G R (Bk b0_ 98 [vI a0.most, g0_.s.1, g0_.r.1] :: rO (sketch_Sketch.op g0_.s.2) g0_.s.1 a0.s :: rO (ring_Rings.op g0_.r.2) g0_.r.1 a0.r :: F)
    (Ret fun u R' L' => ∃ (q0 : tiny_Tiny.G), u = .tuple #[vS r.1, vB r.2.1] ∧ R' = R ∧ L' = Bk b0_ 98 [vI r.2.2.most, q0.s.1, q0.r.1] :: rO (sketch_Sketch.op q0.s.2) q0.s.1 r.2.2.s :: rO (ring_Rings.op q0.r.2) q0.r.1 r.2.2.r :: F) := by
  obtain ⟨⟨pv1, g2⟩, ⟨pv4, g5⟩⟩ := g0_
  unfold tiny_Tiny_Evict at hm
  refine co_ofN (N := 44) Try.func62 rfl rfl ?_
  refine c_seq ?_
  refine c_reg ?_
  refine r_u (o_as rfl) ?_
  refine r_u (o_as rfl) ?_
  refine r_nil ?_
  refine x_seq ?_
  refine c_seq ?_
  refine c_seq ?_
  refine c_reg ?_
  refine r_u (o_mv rfl) ?_
  obtain ⟨r6, hr6, hm7⟩ := bs hm
  clear hm
  refine r_c (s_w (o_call ca75 rfl (tiny_Tiny_Len.ok b0_ a0 (⟨(pv1, g2), (pv4, g5)⟩ : tiny_Tiny.G) r6 hr6))) ?_
  refine r_u (o_bin rfl rfl (bI_eq r6 0)) ?_
  refine r_nil ?_
  refine x_seq ?_
  refine c_if (b := (r6 == 0)) rfl (fun h8 => ?_) fun h8 => ?_
  · have hm9 := ift hm7 h8
    clear hm7
    refine c_seq ?_
    refine c_reg ?_
    refine r_u (o_as rfl) ?_
    refine r_u (o_as rfl) ?_
    refine r_nil ?_
    refine x_seq ?_
    refine c_ret ?_
    obtain rfl := Option.some.inj hm9
    exact x_r2 rfl (rv_t rfl) (rv_t rfl) (Le.refl _) ⟨_, rfl, (⟨(pv1, g2), (pv4, g5)⟩ : tiny_Tiny.G), rfl, rfl, rfl⟩
  · have hm9 := iff_ hm7 h8
    clear hm7
    refine c_skip ?_
    refine x_seq ?_
    refine c_seq ?_
    refine cd_st (fun _ h => mv2 h) ?_
    refine cd_opt (fun ho12 => ?_) (fun x10 b11 ho12 => ?_)
    · rintro rfl
      have hm13 := om_n hm9 ho12
      clear hm9
      cases hm13
    · rintro rfl
      have hm13 := om_s hm9 ho12
      clear hm9
      refine cd_st (fun _ h => st_star_o h) ?_
      refine c_reg ?_
      refine r_u (o_mv rfl) ?_
      refine r_u (o_nc rfl) ?_
      refine r_u (o_fa fa98_2 rfl) ?_
      refine r_u (o_ld 5 sc88 rfl rfl rfl) ?_
      obtain ⟨r18, hr18, hm19⟩ := bs hm13
      clear hm13
      refine r_c (s_w (o_call ca58 rfl (ring_Rings_Back.ok b11 x10 g5 1 r18 hr18))) ?_
      refine r_u (o_mv rfl) ?_
      refine r_u (o_ext rfl rfl) ?_
      refine r_u (o_ext rfl rfl) ?_
      refine r_u (o_as rfl) ?_
      refine r_u (o_as rfl) ?_
      refine r_nil ?_
      refine x_seq ?_
      refine c_seq ?_
      refine c_seq ?_
      refine c_reg ?_
      refine r_u (o_mv rfl) ?_
      refine r_u (o_not rfl) ?_
      refine r_nil ?_
      refine x_seq ?_
      obtain ⟨p20, hp21, hm22⟩ := bs hm19
      refine cd_join (E' := [(0, pt b0_ 0), (4, vS p20.1), (5, vB p20.2)]) (L' := Bk b11 109 [vI x10.lists, g5.slots, g5.free, g5.at_, g5.many] :: Bk b0_ 98 [vI a0.most, pv1, pt b11 0] :: OwS true 111 4 ring_slot.c g5.slots x10.slots :: OwS true 3 1 eI g5.free x10.free :: OwM vS vI g5.at_ x10.at_ :: OwS true 3 1 eI g5.many x10.many :: rO (sketch_Sketch.op g2) pv1 a0.s :: F) ?_ fun K23 => ?_
      · refine x_seq ?_
        refine c_seq ?_
        refine c_seq ?_
        refine c_reg ?_
        refine r_u (o_mv rfl) ?_
        refine r_u (o_not rfl) ?_
        refine r_nil ?_
        refine x_seq ?_
        obtain ⟨p24, hp25, hm26⟩ := bs hm22
        refine cd_join (E' := [(0, pt b0_ 0), (4, vS p24)]) (L' := Bk b11 109 [vI x10.lists, g5.slots, g5.free, g5.at_, g5.many] :: Bk b0_ 98 [vI a0.most, pv1, pt b11 0] :: OwS true 111 4 ring_slot.c g5.slots x10.slots :: OwS true 3 1 eI g5.free x10.free :: OwM vS vI g5.at_ x10.at_ :: OwS true 3 1 eI g5.many x10.many :: rO (sketch_Sketch.op g2) pv1 a0.s :: F) ?_ fun K27 => ?_
        · refine x_seq ?_
          refine c_seq ?_
          refine c_reg ?_
          refine r_u (o_mv rfl) ?_
          refine r_u (o_nc rfl) ?_
          refine r_u (o_fa fa98_2 rfl) ?_
          refine r_u (o_ld 1 sc88 rfl rfl rfl) ?_
          refine r_u (o_mv rfl) ?_
          obtain ⟨r28, hr28, hm34⟩ := bs hm26
          clear hm26
          refine rl_st (fun _ h => mv4 (mv5 (mv5 (mv5 (mv5 h))))) ?_
          refine r_sw (s_w (o_call ca40 rfl (ring_Rings_Drop.ok b11 x10 g5 p24 r28 hr28))) ?_
          rintro _ R _ _ ⟨g29, rfl, rfl, rfl⟩
          refine r_nil ?_
          refine x_seq ?_
          refine c_seq ?_
          refine c_reg ?_
          refine r_u (o_mv rfl) ?_
          refine r_u (o_as rfl) ?_
          refine r_u (o_as rfl) ?_
          refine r_nil ?_
          refine x_seq ?_
          refine c_ret ?_
          refine ex_st (fun _ h => st_some (f := ring_Rings.op g29) (a := r28.2) (st_star_f (A := ring_Rings.fl b11 r28.2 g29) h)) ?_
          obtain rfl := Option.some.inj hm34
          refine ex_st (fun _ h => st_pk 3 [1, 2, 0] (by decide) h) ?_
          exact x_r2 rfl (rv_t rfl) (rv_t rfl) (Le.refl _) ⟨_, rfl, (⟨(pv1, g2), (pt b11 0, g29)⟩ : tiny_Tiny.G), rfl, rfl, rfl⟩
        · refine c_if (b := !p20.2) rfl (fun h35 => ?_) fun h35 => ?_
          · have hm36 := ift hp25 h35
            clear hp25
            refine c_reg ?_
            refine r_u (o_mv rfl) ?_
            refine r_u (o_nc rfl) ?_
            refine r_u (o_fa fa98_2 rfl) ?_
            refine r_u (o_ld 1 sc88 rfl rfl rfl) ?_
            obtain ⟨r37, hr37, hm38⟩ := bs hm36
            clear hm36
            refine rl_st (fun _ h => mv4 (mv5 (mv5 (mv5 (mv5 h))))) ?_
            refine r_c (s_w (o_call ca58 rfl (ring_Rings_Back.ok b11 x10 g5 2 r37 hr37))) ?_
            refine r_u (o_mv rfl) ?_
            refine r_u (o_ext rfl rfl) ?_
            refine r_u (o_ext rfl rfl) ?_
            refine r_u (o_as rfl) ?_
            refine r_nil ?_
            obtain rfl := Option.some.inj hm38
            exact x_sub K27 ⟨rfl, rfl, trivial⟩ (fun _ h => st_pk 7 [0, 5, 1, 2, 3, 4, 6] (by decide) h)
          · have hm36 := iff_ hp25 h35
            clear hp25
            refine c_skip ?_
            obtain rfl := Option.some.inj hm36
            exact x_sub K27 ⟨rfl, rfl, trivial⟩ (fun _ h => st_pk 7 [0, 1, 2, 3, 4, 5, 6] (by decide) h)
      · refine c_if (b := !r18.2) rfl (fun h39 => ?_) fun h39 => ?_
        · have hm40 := ift hp21 h39
          clear hp21
          refine c_reg ?_
          refine r_u (o_mv rfl) ?_
          refine r_u (o_nc rfl) ?_
          refine r_u (o_fa fa98_2 rfl) ?_
          refine r_u (o_ld 5 sc88 rfl rfl rfl) ?_
          obtain ⟨r41, hr41, hm42⟩ := bs hm40
          clear hm40
          refine r_c (s_w (o_call ca58 rfl (ring_Rings_Back.ok b11 x10 g5 0 r41 hr41))) ?_
          refine r_u (o_mv rfl) ?_
          refine r_u (o_ext rfl rfl) ?_
          refine r_u (o_ext rfl rfl) ?_
          refine r_u (o_as rfl) ?_
          refine r_u (o_as rfl) ?_
          refine r_nil ?_
          obtain rfl := Option.some.inj hm42
          exact x_sub K23 ⟨rfl, rfl, rfl, trivial⟩ (fun _ h => st_pk 7 [0, 5, 1, 2, 3, 4, 6] (by decide) h)
        · have hm40 := iff_ hp21 h39
          clear hp21
          refine c_skip ?_
          obtain rfl := Option.some.inj hm40
          exact x_sub K23 ⟨rfl, rfl, rfl, trivial⟩ (fun _ h => st_pk 7 [0, 5, 1, 2, 3, 4, 6] (by decide) h)

def policy_Policy_Evict (a0 : policy_Policy) : Option (Str × Bool × policy_Policy) :=
  if ((policy_Policy_Kind a0) == 1) then om a0.a (none) fun x8 => (arc_Arc_Evict x8).bind fun r15 => some (r15.1, r15.2.1, (⟨a0.kind, (some r15.2.2), a0.t⟩ : policy_Policy)) else if ((policy_Policy_Kind a0) == 2) then om a0.t (none) fun x23 => (tiny_Tiny_Evict x23).bind fun r33 => some (r33.1, r33.2.1, (⟨a0.kind, a0.a, (some r33.2.2)⟩ : policy_Policy)) else some ([], false, a0)
theorem policy_Policy_Evict.ok {G R F} (b0_ : Nat) (a0 : policy_Policy) (g0_ : policy_Policy.G) (r : Str × Bool × policy_Policy) (hm : policy_Policy_Evict a0 = some r) : CO Try.prog 48 [pt b0_ 0] G R (Bk b0_ 72 [vI a0.kind, g0_.a.1, g0_.t.1] :: rO (arc_Arc.op g0_.a.2) g0_.a.1 a0.a :: rO (tiny_Tiny.op g0_.t.2) g0_.t.1 a0.t :: F)
    (Ret fun u R' L' => ∃ (q0 : policy_Policy.G), u = .tuple #[vS r.1, vB r.2.1] ∧ R' = R ∧ L' = Bk b0_ 72 [vI r.2.2.kind, q0.a.1, q0.t.1] :: rO (arc_Arc.op q0.a.2) q0.a.1 r.2.2.a :: rO (tiny_Tiny.op q0.t.2) q0.t.1 r.2.2.t :: F) := by
  obtain ⟨⟨pv1, g2⟩, ⟨pv4, g5⟩⟩ := g0_
  unfold policy_Policy_Evict at hm
  refine co_ofN (N := 24) Try.func48 rfl rfl ?_
  refine c_seq ?_
  refine c_reg ?_
  refine r_u (o_as rfl) ?_
  refine r_u (o_as rfl) ?_
  refine r_nil ?_
  refine x_seq ?_
  refine c_seq ?_
  refine c_seq ?_
  refine c_reg ?_
  refine r_u (o_mv rfl) ?_
  refine r_c (s_w (o_call ca27 rfl (policy_Policy_Kind.ok b0_ a0 (⟨(pv1, g2), (pv4, g5)⟩ : policy_Policy.G) _ rfl))) ?_
  refine r_nil ?_
  refine x_seq ?_
  refine c_blk ?_
  refine c_seq ?_
  refine c_reg ?_
  refine r_u (o_bin rfl rfl (bI_eq (policy_Policy_Kind a0) 1)) ?_
  refine r_u (o_as rfl) ?_
  refine r_nil ?_
  refine x_seq ?_
  refine c_if (b := ((policy_Policy_Kind a0) == 1)) rfl (fun h6 => ?_) fun h6 => ?_
  · have hm7 := ift hm h6
    clear hm
    refine c_seq ?_
    refine cd_st (fun _ h => mv1 h) ?_
    refine cd_opt (fun ho10 => ?_) (fun x8 b9 ho10 => ?_)
    · rintro rfl
      have hm11 := om_n hm7 ho10
      clear hm7
      cases hm11
    · rintro rfl
      have hm11 := om_s hm7 ho10
      clear hm7
      obtain ⟨⟨pv13, g14⟩⟩ := g2
      refine cd_st (fun _ h => st_star_o h) ?_
      refine c_reg ?_
      refine r_u (o_mv rfl) ?_
      refine r_u (o_nc rfl) ?_
      refine r_u (o_fa fa72_1 rfl) ?_
      refine r_u (o_ld 2 sc69 rfl rfl rfl) ?_
      obtain ⟨r15, hr15, hm20⟩ := bs hm11
      clear hm11
      refine r_sw (s_w (o_call ca61 rfl (arc_Arc_Evict.ok b9 x8 (⟨(pv13, g14)⟩ : arc_Arc.G) r15 hr15))) ?_
      rintro _ R _ _ ⟨⟨⟨pv18, g19⟩⟩, rfl, rfl, rfl⟩
      refine r_u (o_ext rfl rfl) ?_
      refine r_u (o_ext rfl rfl) ?_
      refine r_u (o_as rfl) ?_
      refine r_u (o_as rfl) ?_
      refine r_nil ?_
      refine x_seq ?_
      refine c_ret ?_
      refine ex_st (fun _ h => st_some (f := arc_Arc.op (⟨(pv18, g19)⟩ : arc_Arc.G)) (a := r15.2.2) (st_star_f (A := arc_Arc.fl b9 r15.2.2 (⟨(pv18, g19)⟩ : arc_Arc.G)) h)) ?_
      obtain rfl := Option.some.inj hm20
      refine ex_st (fun _ h => st_pk 3 [1, 0, 2] (by decide) h) ?_
      exact x_r2 rfl (rv_t rfl) (rv_t rfl) (Le.refl _) ⟨_, rfl, (⟨(pt b9 0, (⟨(pv18, g19)⟩ : arc_Arc.G)), (pv4, g5)⟩ : policy_Policy.G), rfl, rfl, rfl⟩
  · have hm7 := iff_ hm h6
    clear hm
    refine c_seq ?_
    refine c_reg ?_
    refine r_u (o_bin rfl rfl (bI_eq (policy_Policy_Kind a0) 2)) ?_
    refine r_u (o_as rfl) ?_
    refine r_nil ?_
    refine x_seq ?_
    refine c_if (b := ((policy_Policy_Kind a0) == 2)) rfl (fun h21 => ?_) fun h21 => ?_
    · have hm22 := ift hm7 h21
      clear hm7
      refine c_seq ?_
      refine cd_st (fun _ h => mv2 h) ?_
      refine cd_opt (fun ho25 => ?_) (fun x23 b24 ho25 => ?_)
      · rintro rfl
        have hm26 := om_n hm22 ho25
        clear hm22
        cases hm26
      · rintro rfl
        have hm26 := om_s hm22 ho25
        clear hm22
        obtain ⟨⟨pv28, g29⟩, ⟨pv31, g32⟩⟩ := g5
        refine cd_st (fun _ h => st_star_o h) ?_
        refine c_reg ?_
        refine r_u (o_mv rfl) ?_
        refine r_u (o_nc rfl) ?_
        refine r_u (o_fa fa72_2 rfl) ?_
        refine r_u (o_ld 3 sc70 rfl rfl rfl) ?_
        obtain ⟨r33, hr33, hm41⟩ := bs hm26
        clear hm26
        refine r_sw (s_w (o_call ca62 rfl (tiny_Tiny_Evict.ok b24 x23 (⟨(pv28, g29), (pv31, g32)⟩ : tiny_Tiny.G) r33 hr33))) ?_
        rintro _ R _ _ ⟨⟨⟨pv36, g37⟩, ⟨pv39, g40⟩⟩, rfl, rfl, rfl⟩
        refine r_u (o_ext rfl rfl) ?_
        refine r_u (o_ext rfl rfl) ?_
        refine r_u (o_as rfl) ?_
        refine r_u (o_as rfl) ?_
        refine r_nil ?_
        refine x_seq ?_
        refine c_ret ?_
        refine ex_st (fun _ h => st_some (f := tiny_Tiny.op (⟨(pv36, g37), (pv39, g40)⟩ : tiny_Tiny.G)) (a := r33.2.2) (st_star_f (A := tiny_Tiny.fl b24 r33.2.2 (⟨(pv36, g37), (pv39, g40)⟩ : tiny_Tiny.G)) h)) ?_
        obtain rfl := Option.some.inj hm41
        refine ex_st (fun _ h => st_pk 3 [1, 2, 0] (by decide) h) ?_
        exact x_r2 rfl (rv_t rfl) (rv_t rfl) (Le.refl _) ⟨_, rfl, (⟨(pv1, g2), (pt b24 0, (⟨(pv36, g37), (pv39, g40)⟩ : tiny_Tiny.G))⟩ : policy_Policy.G), rfl, rfl, rfl⟩
    · have hm22 := iff_ hm7 h21
      clear hm7
      refine c_skip ?_
      refine x_blk ?_
      refine x_seq ?_
      refine c_seq ?_
      refine c_reg ?_
      refine r_u (o_as rfl) ?_
      refine r_u (o_as rfl) ?_
      refine r_nil ?_
      refine x_seq ?_
      refine c_ret ?_
      obtain rfl := Option.some.inj hm22
      exact x_r2 rfl (rv_t rfl) (rv_t rfl) (Le.refl _) ⟨_, rfl, (⟨(pv1, g2), (pv4, g5)⟩ : policy_Policy.G), rfl, rfl, rfl⟩

end Go.Proofs.Ytpanhdnglicknaa
