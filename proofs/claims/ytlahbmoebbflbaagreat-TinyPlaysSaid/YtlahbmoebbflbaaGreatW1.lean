import Derived.Test.YtlahbmoebbflbaaGreatW0
import Derived.Test.YtlahbmoebbflbaaGreatFacts
import Derived.Test.YtlahbmoebbflbaaGreatHwY
set_option linter.unusedVariables false
set_option linter.unusedSectionVars false
set_option linter.unusedSimpArgs false
set_option maxRecDepth 100000
set_option maxHeartbeats 8000000
namespace Go.Proofs.YtlahbmoebbflbaaGreat
open Go Go.Proofs.YtlahbmoebbflbaaGreat.Hw
def tiny_Tiny_Insert (a0 : tiny_Tiny) (a1 : Str) : Option (List Str × tiny_Tiny) :=
  Option.bind (if decide (64 < (a1.length : Int)) then some (true, a0) else (tiny_Tiny_Touch a0 a1).bind fun r98 => some (r98.1, r98.2)) fun p6 => if p6.1 then some ([], p6.2) else om p6.2.s (none) fun x19 => (sketch_Sketch_Add x19 a1).bind fun r25 => om p6.2.r (none) fun x27 => (ring_Rings_Front x27 0 a1).bind fun r35 => (ring_Rings_Len r35.2 0).bind fun r42 => if decide (r42 ≤ ((tiny_Parts p6.2.most).Window)) then some ([], (⟨p6.2.most, (some r25), (some r35.2)⟩ : tiny_Tiny)) else (ring_Rings_Back r35.2 0).bind fun r46 => (tiny_Tiny_Len (⟨p6.2.most, (some r25), (some r35.2)⟩ : tiny_Tiny)).bind fun r48 => if decide (r48 ≤ p6.2.most) then (ring_Rings_Front r35.2 1 r46.1).bind fun r52 => some ([], (⟨p6.2.most, (some r25), (some r52.2)⟩ : tiny_Tiny)) else (tiny_Tiny_last (⟨p6.2.most, (some r25), (some r35.2)⟩ : tiny_Tiny)).bind fun r59 => Option.bind (if r59.2 then (sketch_Sketch_Seen r25 r46.1).bind fun r92 => (sketch_Sketch_Seen r25 r59.1).bind fun r94 => some (decide (r94 < r92)) else some false) fun p61 => if p61 then (ring_Rings_Drop r35.2 r59.1).bind fun r67 => (ring_Rings_Front r67.2 1 r46.1).bind fun r74 => some ([r59.1], (⟨p6.2.most, (some r25), (some r74.2)⟩ : tiny_Tiny)) else (ring_Rings_Drop r35.2 r46.1).bind fun r82 => some ([r46.1], (⟨p6.2.most, (some r25), (some r82.2)⟩ : tiny_Tiny))
theorem tiny_Tiny_Insert.ok {G R F} (b0_ : Nat) (a0 : tiny_Tiny) (g0_ : tiny_Tiny.G) (a1 : Str) (r : List Str × tiny_Tiny) (hm : tiny_Tiny_Insert a0 a1 = some r) : CO Tryz.prog 22 [pt b0_ 0, vS a1] G R (Bk b0_ 57 [vI a0.most, g0_.s.1, g0_.r.1] :: rO (sketch_Sketch.op g0_.s.2) g0_.s.1 a0.s :: rO (ring_Rings.op g0_.r.2) g0_.r.1 a0.r :: F)
    (Ret fun u R' L' => ∃ (p0 : Value) (q0 : tiny_Tiny.G), u = p0 ∧ R' = R ∧ L' = OwS true 9 1 eS p0 r.1 :: Bk b0_ 57 [vI r.2.most, q0.s.1, q0.r.1] :: rO (sketch_Sketch.op q0.s.2) q0.s.1 r.2.s :: rO (ring_Rings.op q0.r.2) q0.r.1 r.2.r :: F) := by
  obtain ⟨⟨pv1, g2⟩, ⟨pv4, g5⟩⟩ := g0_
  unfold tiny_Tiny_Insert at hm
  refine co_ofN (N := 109) Tryz.func22 rfl rfl ?_
  refine c_seq ?_
  refine c_reg ?_
  refine r_u (o_as rfl) ?_
  refine r_nil ?_
  refine x_seq ?_
  refine c_seq ?_
  refine c_seq ?_
  obtain ⟨p6, hp14, hm15⟩ := bs hm
  refine cd_cut (fun x ks => ∀ (g7 : tiny_Tiny.G), EX x .normal ks [(0, pt b0_ 0), (1, vS a1), (20, vB p6.1)] R (Bk b0_ 57 [vI p6.2.most, g7.s.1, g7.r.1] :: rO (sketch_Sketch.op g7.s.2) g7.s.1 p6.2.s :: rO (ring_Rings.op g7.r.2) g7.r.1 p6.2.r :: F)) ?_ fun K16 => ?_
  · intro g7
    obtain ⟨⟨pv9, g10⟩, ⟨pv12, g13⟩⟩ := g7
    refine x_seq ?_
    refine c_if (b := p6.1) rfl (fun h17 => ?_) fun h17 => ?_
    · have hm18 := ift hm15 h17
      clear hm15
      refine c_seq ?_
      refine c_reg ?_
      refine r_u (o_as rfl) ?_
      refine r_nil ?_
      refine x_seq ?_
      refine c_ret ?_
      refine ex_st (fun _ h => st_nil (ap := true) (T := 9) (sz := 1) (en := eS) h) ?_
      obtain rfl := Option.some.inj hm18
      exact x_r1 rfl (rv_t rfl) (Le.refl _) ⟨_, rfl, (.slice none 0 0), (⟨(pv9, g10), (pv12, g13)⟩ : tiny_Tiny.G), rfl, rfl, rfl⟩
    · have hm18 := iff_ hm15 h17
      clear hm15
      refine c_skip ?_
      refine x_seq ?_
      refine c_seq ?_
      refine cd_st (fun _ h => mv1 h) ?_
      refine cd_opt (fun ho21 => ?_) (fun x19 b20 ho21 => ?_)
      · rintro rfl
        have hm22 := om_n hm18 ho21
        clear hm18
        cases hm22
      · rintro rfl
        have hm22 := om_s hm18 ho21
        clear hm18
        refine cd_st (fun _ h => st_star_o h) ?_
        refine c_reg ?_
        refine r_u (o_mv rfl) ?_
        refine r_u (o_nc rfl) ?_
        refine r_u (o_fa fa57_1 rfl) ?_
        refine r_u (o_ld 3 sc49 rfl rfl rfl) ?_
        refine r_u (o_mv rfl) ?_
        obtain ⟨r25, hr25, hm26⟩ := bs hm22
        clear hm22
        refine r_c (s_w (o_call ca48 rfl (sketch_Sketch_Add.ok b20 x19 g10 a1 r25 hr25))) ?_
        refine r_nil ?_
        refine x_seq ?_
        refine c_seq ?_
        refine cd_st (fun _ h => mv4 h) ?_
        refine cd_opt (fun ho29 => ?_) (fun x27 b28 ho29 => ?_)
        · rintro rfl
          have hm30 := om_n hm26 ho29
          clear hm26
          cases hm30
        · rintro rfl
          have hm30 := om_s hm26 ho29
          clear hm26
          refine cd_st (fun _ h => st_star_o h) ?_
          refine c_reg ?_
          refine r_u (o_mv rfl) ?_
          refine r_u (o_nc rfl) ?_
          refine r_u (o_fa fa57_2 rfl) ?_
          refine r_u (o_ld 8 sc53 rfl rfl rfl) ?_
          refine r_u (o_mv rfl) ?_
          obtain ⟨r35, hr35, hm41⟩ := bs hm30
          clear hm30
          refine r_sw (s_w (o_call ca49 rfl (ring_Rings_Front.ok b28 x27 g13 0 a1 r35 hr35))) ?_
          rintro _ R _ _ ⟨g36, rfl, rfl, rfl⟩
          refine r_nil ?_
          refine x_seq ?_
          refine c_seq ?_
          refine c_seq ?_
          obtain ⟨r42, hr42, hm43⟩ := bs hm41
          clear hm41
          refine c_any mixed (effs := []) (V := []) ?_
          refine stage_ext [(0, pt b0_ 0), (1, pt b0_ 0), (2, pt b0_ 2), (3, pt b28 0), (4, vI r42), (5, pt b0_ 0), (6, pt b0_ 0), (7, pt b0_ 0), (8, vI p6.2.most), (9, .agg (api_Parts.c (tiny_Parts p6.2.most)).toArray), (10, vI ((tiny_Parts p6.2.most).Window)), (11, vB (decide (r42 ≤ ((tiny_Parts p6.2.most).Window))))] rfl ?_
          refine stage rfl rfl rfl rfl [0, 1, 3, 7, 15, 0, 32, 96, 224, 511, 1023, 2047] [0, 1, 2, 3, 4, 5, 6, 7, 8, 9, 10, 11] [] rfl rfl rfl (qc rfl rfl (s_u (o_mv rfl)) (qc rfl rfl (s_u (o_nc rfl)) (qc rfl rfl (s_u (o_fa fa57_2 rfl)) (qc rfl rfl (s_u (o_ld 8 sc53 rfl rfl rfl)) (qc rfl rfl (s_u (o_callqP ca50 rfl (ring_Rings_Len.ok b28 r35.2 g36 0 r42 hr42) (fun _ h => st_pk 9 [0, 1, 2, 3, 4, 5, 6, 7, 8] (by decide) h) (fun _ h => st_pk 9 [0, 1, 2, 3, 4, 5, 6, 7, 8] (by decide) h))) (qc rfl rfl (s_u (o_mv rfl)) (qc rfl rfl (s_u (o_nc rfl)) (qc rfl rfl (s_u (o_fa fa57_0 rfl)) (qc rfl rfl (s_u (o_ld 8 sc3 rfl rfl rfl)) (qc rfl rfl (s_u (o_callq ca51 rfl (tiny_Parts.ok p6.2.most _ rfl))) (qc rfl rfl (s_u (o_fd (v := vI ((tiny_Parts p6.2.most).Window)) rfl (fun _ => by kernel_rfl))) (qc rfl rfl (s_u (o_bin rfl rfl (bI_le r42 ((tiny_Parts p6.2.most).Window)))) qn)))))))))))) en ?_
          intro _
          refine ex_sub (E' := [(0, pt b0_ 0), (44, vB (decide (r42 ≤ ((tiny_Parts p6.2.most).Window))))]) ⟨rfl, rfl, trivial⟩ ?_
          refine x_seq ?_
          refine c_if (b := decide (r42 ≤ ((tiny_Parts p6.2.most).Window))) rfl (fun h44 => ?_) fun h44 => ?_
          · have hm45 := ift hm43 h44
            clear hm43
            refine c_seq ?_
            refine c_reg ?_
            refine r_u (o_as rfl) ?_
            refine r_nil ?_
            refine x_seq ?_
            refine c_ret ?_
            refine ex_st (fun _ h => st_nil (ap := true) (T := 9) (sz := 1) (en := eS) h) ?_
            refine ex_st (fun _ h => mv8 (mv8 (mv8 h))) ?_
            refine ex_st (fun _ h => st_some (f := sketch_Sketch.op g10) (a := r25) (st_star_f (A := sketch_Sketch.fl b20 r25 g10) h)) ?_
            refine ex_st (fun _ h => mv6 (mv6 (mv6 (mv6 (mv6 h))))) ?_
            refine ex_st (fun _ h => st_some (f := ring_Rings.op g36) (a := r35.2) (st_star_f (A := ring_Rings.fl b28 r35.2 g36) h)) ?_
            obtain rfl := Option.some.inj hm45
            refine ex_st (fun _ h => st_pk 4 [2, 3, 1, 0] (by decide) h) ?_
            exact x_r1 rfl (rv_t rfl) (Le.refl _) ⟨_, rfl, (.slice none 0 0), (⟨(pt b20 0, g10), (pt b28 0, g36)⟩ : tiny_Tiny.G), rfl, rfl, rfl⟩
          · have hm45 := iff_ hm43 h44
            clear hm43
            refine c_skip ?_
            refine x_seq ?_
            refine c_seq ?_
            refine c_reg ?_
            refine r_u (o_mv rfl) ?_
            refine r_u (o_nc rfl) ?_
            refine r_u (o_fa fa57_2 rfl) ?_
            refine r_u (o_ld 8 sc53 rfl rfl rfl) ?_
            obtain ⟨r46, hr46, hm47⟩ := bs hm45
            clear hm45
            refine r_c (s_w (o_call ca52 rfl (ring_Rings_Back.ok b28 r35.2 g36 0 r46 hr46))) ?_
            refine r_u (o_mv rfl) ?_
            refine r_u (o_ext rfl rfl) ?_
            refine r_u (o_ext rfl rfl) ?_
            refine r_u (o_as rfl) ?_
            refine r_u (o_as rfl) ?_
            refine r_nil ?_
            refine x_seq ?_
            refine c_seq ?_
            refine c_seq ?_
            obtain ⟨r48, hr48, hm49⟩ := bs hm47
            clear hm47
            refine c_any mixed (effs := []) (V := []) ?_
            refine stage_ext [(0, pt b0_ 0), (1, vI r48), (2, pt b0_ 0), (3, pt b0_ 0), (4, pt b0_ 0), (5, vI p6.2.most), (6, vB (decide (r48 ≤ p6.2.most)))] rfl ?_
            refine stage rfl rfl rfl rfl [0, 1, 0, 4, 12, 28, 63] [0, 1, 2, 3, 4, 5, 6] [] rfl rfl rfl (qc rfl rfl (s_u (o_mv rfl)) (qc rfl rfl (s_u (o_callqP ca24 rfl (tiny_Tiny_Len.ok b0_ (⟨p6.2.most, (some r25), (some r35.2)⟩ : tiny_Tiny) (⟨(pt b20 0, g10), (pt b28 0, g36)⟩ : tiny_Tiny.G) r48 hr48) (fun _ h => mv2 (mv1 (st_some (f := ring_Rings.op g36) (a := r35.2) (st_star_f (A := ring_Rings.fl b28 r35.2 g36) (mv5 (mv5 (mv5 (mv5 (mv5 (st_some (f := sketch_Sketch.op g10) (a := r25) (st_star_f (A := sketch_Sketch.fl b20 r25 g10) (mv7 (mv7 (mv7 h)))))))))))))) (fun _ h => st_pk 9 [0, 1, 2, 3, 4, 5, 6, 7, 8] (by decide) (st_star_o (st_some_o (mv4 (st_star_o (st_some_o (mv1 h))))))))) (qc rfl rfl (s_u (o_mv rfl)) (qc rfl rfl (s_u (o_nc rfl)) (qc rfl rfl (s_u (o_fa fa57_0 rfl)) (qc rfl rfl (s_u (o_ld 8 sc3 rfl rfl rfl)) (qc rfl rfl (s_u (o_bin rfl rfl (bI_le r48 p6.2.most))) qn))))))) en ?_
            intro _
            refine ex_sub (E' := [(0, pt b0_ 0), (5, vS r46.1), (59, vB (decide (r48 ≤ p6.2.most)))]) ⟨rfl, rfl, rfl, trivial⟩ ?_
            refine x_seq ?_
            refine c_if (b := decide (r48 ≤ p6.2.most)) rfl (fun h50 => ?_) fun h50 => ?_
            · have hm51 := ift hm49 h50
              clear hm49
              refine c_seq ?_
              refine c_reg ?_
              refine r_u (o_mv rfl) ?_
              refine r_u (o_nc rfl) ?_
              refine r_u (o_fa fa57_2 rfl) ?_
              refine r_u (o_ld 8 sc53 rfl rfl rfl) ?_
              refine r_u (o_mv rfl) ?_
              obtain ⟨r52, hr52, hm58⟩ := bs hm51
              clear hm51
              refine r_sw (s_w (o_call ca49 rfl (ring_Rings_Front.ok b28 r35.2 g36 1 r46.1 r52 hr52))) ?_
              rintro _ R _ _ ⟨g53, rfl, rfl, rfl⟩
              refine r_nil ?_
              refine x_seq ?_
              refine c_seq ?_
              refine c_reg ?_
              refine r_u (o_as rfl) ?_
              refine r_nil ?_
              refine x_seq ?_
              refine c_ret ?_
              refine ex_st (fun _ h => st_nil (ap := true) (T := 9) (sz := 1) (en := eS) h) ?_
              refine ex_st (fun _ h => mv8 (mv8 (mv8 h))) ?_
              refine ex_st (fun _ h => st_some (f := sketch_Sketch.op g10) (a := r25) (st_star_f (A := sketch_Sketch.fl b20 r25 g10) h)) ?_
              refine ex_st (fun _ h => mv6 (mv6 (mv6 (mv6 (mv6 h))))) ?_
              refine ex_st (fun _ h => st_some (f := ring_Rings.op g53) (a := r52.2) (st_star_f (A := ring_Rings.fl b28 r52.2 g53) h)) ?_
              obtain rfl := Option.some.inj hm58
              refine ex_st (fun _ h => st_pk 4 [2, 3, 1, 0] (by decide) h) ?_
              exact x_r1 rfl (rv_t rfl) (Le.refl _) ⟨_, rfl, (.slice none 0 0), (⟨(pt b20 0, g10), (pt b28 0, g53)⟩ : tiny_Tiny.G), rfl, rfl, rfl⟩
            · have hm51 := iff_ hm49 h50
              clear hm49
              refine c_skip ?_
              refine x_seq ?_
              refine c_seq ?_
              refine c_reg ?_
              refine r_u (o_mv rfl) ?_
              refine rl_st (fun _ h => mv7 (mv7 (mv7 h))) ?_
              refine rl_st (fun _ h => st_some (f := sketch_Sketch.op g10) (a := r25) (st_star_f (A := sketch_Sketch.fl b20 r25 g10) h)) ?_
              refine rl_st (fun _ h => mv5 (mv5 (mv5 (mv5 (mv5 h))))) ?_
              refine rl_st (fun _ h => st_some (f := ring_Rings.op g36) (a := r35.2) (st_star_f (A := ring_Rings.fl b28 r35.2 g36) h)) ?_
              obtain ⟨r59, hr59, hm60⟩ := bs hm51
              clear hm51
              refine rl_st (fun _ h => mv2 (mv1 h)) ?_
              refine r_c (s_w (o_call ca53 rfl (tiny_Tiny_last.ok b0_ (⟨p6.2.most, (some r25), (some r35.2)⟩ : tiny_Tiny) (⟨(pt b20 0, g10), (pt b28 0, g36)⟩ : tiny_Tiny.G) r59 hr59))) ?_
              refine r_u (o_mv rfl) ?_
              refine r_u (o_ext rfl rfl) ?_
              refine r_u (o_ext rfl rfl) ?_
              refine r_u (o_as rfl) ?_
              refine r_u (o_as rfl) ?_
              refine r_nil ?_
              refine x_seq ?_
              refine c_seq ?_
              refine c_seq ?_
              refine cd_st (fun _ h => mv1 h) ?_
              refine cd_st (fun _ h => st_some_o h) ?_
              refine cd_st (fun _ h => st_star_o h) ?_
              obtain ⟨p61, hp62, hm63⟩ := bs hm60
              refine cd_join (E' := [(0, pt b0_ 0), (5, vS r46.1), (7, vS r59.1), (86, vB p61)]) (L' := Bk b20 84 [vI r25.wide, vW r25.seed, g10.rows.1, g10.rows.2.1, g10.rows.2.2.1, g10.rows.2.2.2, g10.door, vI r25.added] :: Bk b0_ 57 [vI p6.2.most, pt b20 0, pt b28 0] :: OwL (OwS false 5 1 eY) [g10.rows.1, g10.rows.2.1, g10.rows.2.2.1, g10.rows.2.2.2] r25.rows :: OwS true 4 1 eB g10.door r25.door :: rO (ring_Rings.op g36) (pt b28 0) (some r35.2) :: F) ?_ fun K64 => ?_
              · refine x_seq ?_
                refine c_if (b := p61) rfl (fun h65 => ?_) fun h65 => ?_
                · have hm66 := ift hm63 h65
                  clear hm63
                  refine c_seq ?_
                  refine c_reg ?_
                  refine r_u (o_mv rfl) ?_
                  refine r_u (o_nc rfl) ?_
                  refine r_u (o_fa fa57_2 rfl) ?_
                  refine r_u (o_ld 1 sc53 rfl rfl rfl) ?_
                  refine r_u (o_mv rfl) ?_
                  refine rl_st (fun _ h => mv4 h) ?_
                  refine rl_st (fun _ h => st_some_o h) ?_
                  refine rl_st (fun _ h => st_star_o h) ?_
                  obtain ⟨r67, hr67, hm73⟩ := bs hm66
                  clear hm66
                  refine r_sw (s_w (o_call ca54 rfl (ring_Rings_Drop.ok b28 r35.2 g36 r59.1 r67 hr67))) ?_
                  rintro _ R _ _ ⟨g68, rfl, rfl, rfl⟩
                  refine r_nil ?_
                  refine x_seq ?_
                  refine c_seq ?_
                  refine c_reg ?_
                  refine r_u (o_mv rfl) ?_
                  refine r_u (o_nc rfl) ?_
                  refine r_u (o_fa fa57_2 rfl) ?_
                  refine r_u (o_ld 6 sc53 rfl rfl rfl) ?_
                  refine r_u (o_mv rfl) ?_
                  obtain ⟨r74, hr74, hm80⟩ := bs hm73
                  clear hm73
                  refine r_sw (s_w (o_call ca49 rfl (ring_Rings_Front.ok b28 r67.2 g68 1 r46.1 r74 hr74))) ?_
                  rintro _ R _ _ ⟨g75, rfl, rfl, rfl⟩
                  refine r_nil ?_
                  refine x_seq ?_
                  refine c_seq ?_
                  refine c_reg ?_
                  refine r_u (o_mv rfl) ?_
                  refine r_sw (s_w (o_bsl (en := eS) (sz := 1) (e := 9) (cs := [vS r59.1]) (r := [r59.1]) rfl (fun _ => by kernel_rfl) rfl (by decide) rfl (fun _ => rfl))) ?_
                  rintro v81 R _ _ ⟨rfl, rfl⟩
                  refine r_u (o_as rfl) ?_
                  refine r_nil ?_
                  refine x_seq ?_
                  refine c_ret ?_
                  refine ex_st (fun _ h => mv8 (mv9 (mv9 h))) ?_
                  refine ex_st (fun _ h => st_some (f := sketch_Sketch.op g10) (a := r25) (st_star_f (A := sketch_Sketch.fl b20 r25 g10) h)) ?_
                  refine ex_st (fun _ h => mv6 (mv6 (mv6 (mv6 (mv6 h))))) ?_
                  refine ex_st (fun _ h => st_some (f := ring_Rings.op g75) (a := r74.2) (st_star_f (A := ring_Rings.fl b28 r74.2 g75) h)) ?_
                  obtain rfl := Option.some.inj hm80
                  refine ex_st (fun _ h => st_pk 4 [2, 3, 1, 0] (by decide) h) ?_
                  exact x_r1 rfl (rv_t rfl) (Le.refl _) ⟨_, rfl, v81, (⟨(pt b20 0, g10), (pt b28 0, g75)⟩ : tiny_Tiny.G), rfl, rfl, rfl⟩
                · have hm66 := iff_ hm63 h65
                  clear hm63
                  refine c_skip ?_
                  refine x_seq ?_
                  refine c_seq ?_
                  refine c_reg ?_
                  refine r_u (o_mv rfl) ?_
                  refine r_u (o_nc rfl) ?_
                  refine r_u (o_fa fa57_2 rfl) ?_
                  refine r_u (o_ld 1 sc53 rfl rfl rfl) ?_
                  refine r_u (o_mv rfl) ?_
                  refine rl_st (fun _ h => mv4 h) ?_
                  refine rl_st (fun _ h => st_some_o h) ?_
                  refine rl_st (fun _ h => st_star_o h) ?_
                  obtain ⟨r82, hr82, hm88⟩ := bs hm66
                  clear hm66
                  refine r_sw (s_w (o_call ca54 rfl (ring_Rings_Drop.ok b28 r35.2 g36 r46.1 r82 hr82))) ?_
                  rintro _ R _ _ ⟨g83, rfl, rfl, rfl⟩
                  refine r_nil ?_
                  refine x_seq ?_
                  refine c_seq ?_
                  refine c_reg ?_
                  refine r_u (o_mv rfl) ?_
                  refine r_sw (s_w (o_bsl (en := eS) (sz := 1) (e := 9) (cs := [vS r46.1]) (r := [r46.1]) rfl (fun _ => by kernel_rfl) rfl (by decide) rfl (fun _ => rfl))) ?_
                  rintro v89 R _ _ ⟨rfl, rfl⟩
                  refine r_u (o_as rfl) ?_
                  refine r_nil ?_
                  refine x_seq ?_
                  refine c_ret ?_
                  refine ex_st (fun _ h => mv8 (mv9 (mv9 h))) ?_
                  refine ex_st (fun _ h => st_some (f := sketch_Sketch.op g10) (a := r25) (st_star_f (A := sketch_Sketch.fl b20 r25 g10) h)) ?_
                  refine ex_st (fun _ h => mv6 (mv6 (mv6 (mv6 (mv6 h))))) ?_
                  refine ex_st (fun _ h => st_some (f := ring_Rings.op g83) (a := r82.2) (st_star_f (A := ring_Rings.fl b28 r82.2 g83) h)) ?_
                  obtain rfl := Option.some.inj hm88
                  refine ex_st (fun _ h => st_pk 4 [2, 3, 1, 0] (by decide) h) ?_
                  exact x_r1 rfl (rv_t rfl) (Le.refl _) ⟨_, rfl, v89, (⟨(pt b20 0, g10), (pt b28 0, g83)⟩ : tiny_Tiny.G), rfl, rfl, rfl⟩
              · refine cd_by r59.2 (fun h90 => ?_) fun h90 => ?_
                · have hm91 := ift hp62 h90
                  clear hp62
                  obtain ⟨r92, hr92, hm93⟩ := bs hm91
                  clear hm91
                  obtain ⟨r94, hr94, hm95⟩ := bs hm93
                  clear hm93
                  refine c_any mixed (effs := []) (V := []) ?_
                  refine stage_ext [(0, vB r59.2), (1, vB r59.2), (2, pt b0_ 0), (3, pt b0_ 0), (4, pt b0_ 1), (5, pt b20 0), (6, vS r46.1), (7, vI r92), (8, pt b0_ 0), (9, pt b0_ 0), (10, pt b0_ 1), (11, pt b20 0), (12, vS r59.1), (13, vI r94), (14, vB (decide (r94 < r92))), (15, vB (decide (r94 < r92)))] rfl ?_
                  refine stage rfl rfl rfl rfl [0, 1, 3, 7, 15, 31, 3, 127, 3, 259, 771, 1795, 3, 8191, 16383, 32767] [0, 1, 2, 3, 4, 5, 6, 7, 8, 9, 10, 11, 12, 13, 14, 15] [] rfl rfl rfl (qc rfl rfl (s_u (o_mv rfl)) (qc rfl rfl (s_u (o_mv rfl)) (qc rfl rfl (s_y rfl rfl h90 (o_mv rfl)) (qc rfl rfl (s_y rfl rfl h90 (o_nc rfl)) (qc rfl rfl (s_y rfl rfl h90 (o_fa fa57_1 rfl)) (qc rfl rfl (s_y rfl rfl h90 (o_ld 3 sc49 rfl rfl rfl)) (qc rfl rfl (s_y rfl rfl h90 (o_mv rfl)) (qc rfl rfl (s_y rfl rfl h90 (o_callqP ca39 rfl (sketch_Sketch_Seen.ok b20 r25 g10 r46.1 r92 hr92) (fun _ h => st_pk 5 [0, 1, 2, 3, 4] (by decide) h) (fun _ h => st_pk 5 [0, 1, 2, 3, 4] (by decide) h))) (qc rfl rfl (s_y rfl rfl h90 (o_mv rfl)) (qc rfl rfl (s_y rfl rfl h90 (o_nc rfl)) (qc rfl rfl (s_y rfl rfl h90 (o_fa fa57_1 rfl)) (qc rfl rfl (s_y rfl rfl h90 (o_ld 3 sc49 rfl rfl rfl)) (qc rfl rfl (s_y rfl rfl h90 (o_mv rfl)) (qc rfl rfl (s_y rfl rfl h90 (o_callqP ca39 rfl (sketch_Sketch_Seen.ok b20 r25 g10 r59.1 r94 hr94) (fun _ h => st_pk 5 [0, 1, 2, 3, 4] (by decide) h) (fun _ h => st_pk 5 [0, 1, 2, 3, 4] (by decide) h))) (qc rfl rfl (s_y rfl rfl h90 (o_bin rfl rfl (bI_gt r92 r94))) (qc rfl rfl (s_u (o_pt rfl h90 rfl)) qn)))))))))))))))) en ?_
                  intro _
                  refine ex_sub (E' := [(0, pt b0_ 0), (5, vS r46.1), (7, vS r59.1), (86, vB (decide (r94 < r92)))]) ⟨rfl, rfl, rfl, rfl, trivial⟩ ?_
                  obtain rfl := Option.some.inj hm95
                  exact x_sub K64 ⟨rfl, rfl, rfl, rfl, trivial⟩ (fun _ h => st_pk 5 [0, 3, 1, 2, 4] (by decide) h)
                · have hm91 := iff_ hp62 h90
                  clear hp62
                  refine c_any mixed (effs := []) (V := []) ?_
                  refine stage_ext [(0, vB r59.2), (1, vB r59.2), (2, undef), (3, undef), (4, undef), (5, undef), (6, undef), (7, undef), (8, undef), (9, undef), (10, undef), (11, undef), (12, undef), (13, undef), (14, undef), (15, vB false)] rfl ?_
                  refine stage rfl rfl rfl rfl [0, 1, 3, 7, 15, 31, 3, 127, 3, 259, 771, 1795, 3, 8191, 16383, 32767] [0, 1, 2, 3, 4, 5, 6, 7, 8, 9, 10, 11, 12, 13, 14, 15] [] rfl rfl rfl (qc rfl rfl (s_u (o_mv rfl)) (qc rfl rfl (s_u (o_mv rfl)) (qc rfl rfl (s_n rfl rfl h90) (qc rfl rfl (s_n rfl rfl h90) (qc rfl rfl (s_n rfl rfl h90) (qc rfl rfl (s_n rfl rfl h90) (qc rfl rfl (s_n rfl rfl h90) (qc rfl rfl (s_n rfl rfl h90) (qc rfl rfl (s_n rfl rfl h90) (qc rfl rfl (s_n rfl rfl h90) (qc rfl rfl (s_n rfl rfl h90) (qc rfl rfl (s_n rfl rfl h90) (qc rfl rfl (s_n rfl rfl h90) (qc rfl rfl (s_n rfl rfl h90) (qc rfl rfl (s_n rfl rfl h90) (qc rfl rfl (s_u (o_pf rfl h90 rfl)) qn)))))))))))))))) en ?_
                  intro _
                  refine ex_sub (E' := [(0, pt b0_ 0), (5, vS r46.1), (7, vS r59.1), (86, vB false)]) ⟨rfl, rfl, rfl, rfl, trivial⟩ ?_
                  obtain rfl := Option.some.inj hm91
                  exact x_sub K64 ⟨rfl, rfl, rfl, rfl, trivial⟩ (fun _ h => st_pk 5 [0, 3, 1, 2, 4] (by decide) h)
  · refine cd_by (decide (64 < (a1.length : Int))) (fun h96 => ?_) fun h96 => ?_
    · have hm97 := ift hp14 h96
      clear hp14
      refine c_reg ?_
      refine r_u (o_mv rfl) ?_
      refine r_u (o_bin rfl rfl (bP_eqp Tryz.underlying24)) ?_
      refine r_u (o_mv rfl) ?_
      refine r_s (s_y rfl rfl rfl (o_mv rfl)) ?_
      refine r_s (s_y rfl rfl rfl (o_lenS Tryz.underlying9 rfl)) ?_
      refine r_s (s_y rfl rfl rfl (o_bin rfl rfl (bI_gt (a1.length : Int) 64))) ?_
      refine r_u (o_pf rfl rfl rfl) ?_
      refine r_u (o_mv rfl) ?_
      refine r_s (s_n rfl rfl h96) ?_
      refine r_s (s_n rfl rfl h96) ?_
      refine r_s (s_n rfl rfl h96) ?_
      refine r_u (o_pt rfl h96 rfl) ?_
      refine r_nil ?_
      obtain rfl := Option.some.inj hm97
      exact x_sub (K16 (⟨(pv1, g2), (pv4, g5)⟩ : tiny_Tiny.G)) ⟨rfl, rfl, rfl, trivial⟩ (fun _ h => st_pk 3 [0, 1, 2] (by decide) h)
    · have hm97 := iff_ hp14 h96
      clear hp14
      refine c_reg ?_
      refine r_u (o_mv rfl) ?_
      refine r_u (o_bin rfl rfl (bP_eqp Tryz.underlying24)) ?_
      refine r_u (o_mv rfl) ?_
      refine r_s (s_y rfl rfl rfl (o_mv rfl)) ?_
      refine r_s (s_y rfl rfl rfl (o_lenS Tryz.underlying9 rfl)) ?_
      refine r_s (s_y rfl rfl rfl (o_bin rfl rfl (bI_gt (a1.length : Int) 64))) ?_
      refine r_u (o_pf rfl rfl rfl) ?_
      refine r_u (o_mv rfl) ?_
      refine r_s (s_y rfl rfl h96 (o_mv rfl)) ?_
      refine r_s (s_y rfl rfl h96 (o_mv rfl)) ?_
      obtain ⟨r98, hr98, hm106⟩ := bs hm97
      clear hm97
      refine r_sw (s_yw rfl rfl h96 (o_call ca23 rfl (tiny_Tiny_Touch.ok b0_ a0 (⟨(pv1, g2), (pv4, g5)⟩ : tiny_Tiny.G) a1 r98 hr98))) ?_
      rintro _ R _ _ ⟨⟨⟨pv101, g102⟩, ⟨pv104, g105⟩⟩, rfl, rfl, rfl⟩
      refine r_u (o_pf rfl h96 rfl) ?_
      refine r_nil ?_
      obtain rfl := Option.some.inj hm106
      exact x_sub (K16 (⟨(pv101, g102), (pv104, g105)⟩ : tiny_Tiny.G)) ⟨rfl, rfl, rfl, trivial⟩ (fun _ h => st_pk 3 [0, 1, 2] (by decide) h)

def tiny_Tiny_Seen (a0 : tiny_Tiny) (a1 : Str) : Option Int :=
  om a0.s (none) fun x6 => (sketch_Sketch_Seen x6 a1).bind fun r12 => some r12
theorem tiny_Tiny_Seen.ok {G R F} (b0_ : Nat) (a0 : tiny_Tiny) (g0_ : tiny_Tiny.G) (a1 : Str) (r : Int) (hm : tiny_Tiny_Seen a0 a1 = some r) : CO Tryz.prog 12 [pt b0_ 0, vS a1] G R (Bk b0_ 57 [vI a0.most, g0_.s.1, g0_.r.1] :: rO (sketch_Sketch.op g0_.s.2) g0_.s.1 a0.s :: rO (ring_Rings.op g0_.r.2) g0_.r.1 a0.r :: F)
    (Ret fun u R' L' => u = vI r ∧ R' = R ∧ L' = Bk b0_ 57 [vI a0.most, g0_.s.1, g0_.r.1] :: rO (sketch_Sketch.op g0_.s.2) g0_.s.1 a0.s :: rO (ring_Rings.op g0_.r.2) g0_.r.1 a0.r :: F) := by
  obtain ⟨⟨pv1, g2⟩, ⟨pv4, g5⟩⟩ := g0_
  unfold tiny_Tiny_Seen at hm
  refine co_ofN (N := 13) Tryz.func12 rfl rfl ?_
  refine c_seq ?_
  refine c_reg ?_
  refine r_u (o_as rfl) ?_
  refine r_nil ?_
  refine x_seq ?_
  refine c_seq ?_
  refine c_seq ?_
  refine c_reg ?_
  refine r_u (o_mv rfl) ?_
  refine r_u (o_bin rfl rfl (bP_eqp Tryz.underlying24)) ?_
  refine r_nil ?_
  refine x_seq ?_
  refine c_ff rfl ?_
  refine c_skip ?_
  refine x_seq ?_
  refine c_seq ?_
  refine cd_st (fun _ h => mv1 h) ?_
  refine cd_opt (fun ho8 => ?_) (fun x6 b7 ho8 => ?_)
  · rintro rfl
    have hm9 := om_n hm ho8
    clear hm
    cases hm9
  · rintro rfl
    have hm9 := om_s hm ho8
    clear hm
    refine cd_st (fun _ h => st_star_o h) ?_
    refine c_reg ?_
    refine r_u (o_mv rfl) ?_
    refine r_u (o_nc rfl) ?_
    refine r_u (o_fa fa57_1 rfl) ?_
    refine r_u (o_ld 3 sc49 rfl rfl rfl) ?_
    refine r_u (o_mv rfl) ?_
    obtain ⟨r12, hr12, hm13⟩ := bs hm9
    clear hm9
    refine r_c (s_w (o_call ca39 rfl (sketch_Sketch_Seen.ok b7 x6 g2 a1 r12 hr12))) ?_
    refine r_u (o_as rfl) ?_
    refine r_nil ?_
    refine x_seq ?_
    refine c_ret ?_
    refine ex_st (fun _ h => st_some (f := sketch_Sketch.op g2) (a := x6) (st_star_f (A := sketch_Sketch.fl b7 x6 g2) h)) ?_
    refine ex_st (fun _ h => st_back ho8 h) ?_
    obtain rfl := Option.some.inj hm13
    refine ex_st (fun _ h => st_pk 3 [1, 0, 2] (by decide) h) ?_
    exact x_r1 rfl (rv_t rfl) (Le.refl _) ⟨_, rfl, rfl, rfl, rfl⟩

def hawthornlaw08_awake  : Option Bool :=
  (tiny_New 2 1).bind fun r0 => om r0.1 (none) fun x5 => (tiny_Tiny_Insert x5 [120]).bind fun r15 => (tiny_Tiny_Touch r15.2 [120]).bind fun r25 => (tiny_Tiny_Touch r25.2 [120]).bind fun r34 => (tiny_Tiny_Insert r34.2 [121]).bind fun r43 => (tiny_Tiny_Insert r43.2 [122]).bind fun r53 => if ((r0.2 == 0) && ((r53.1.length : Int) == 1)) then (gi r53.1 0).bind fun x65 => if (x65 == [121]) then (tiny_Tiny_Has r53.2 [120]).bind fun r69 => if r69 then (tiny_Tiny_Has r53.2 [122]).bind fun r73 => if r73 then (tiny_Tiny_Len r53.2).bind fun r77 => if (r77 == 2) then (tiny_Tiny_Seen r53.2 [120]).bind fun r81 => some (r81 == 3) else some false else some false else some false else some false else some false
theorem hawthornlaw08_awake.ok {G R F} (r : Bool) (hm : hawthornlaw08_awake = some r) : CO Tryz.prog 6 [] G R (F)
    (Ret fun u R' L' => u = vB r ∧ R' = R ∧ L' = F) := by
  unfold hawthornlaw08_awake at hm
  refine co_ofN (N := 49) Tryz.func6 rfl rfl ?_
  refine c_seq ?_
  refine c_reg ?_
  refine r_u (o_as rfl) ?_
  refine r_nil ?_
  refine x_seq ?_
  refine c_seq ?_
  refine c_reg ?_
  obtain ⟨r0, hr0, hm4⟩ := bs hm
  clear hm
  refine r_sw (s_w (o_call ca4 rfl (tiny_New.ok 2 1 r0 hr0))) ?_
  rintro _ R _ _ ⟨⟨pv2, g3⟩, rfl, rfl, rfl⟩
  refine r_u (o_mv rfl) ?_
  refine r_u (o_ext rfl rfl) ?_
  refine r_u (o_ext rfl rfl) ?_
  refine r_u (o_as rfl) ?_
  refine r_u (o_as rfl) ?_
  refine r_nil ?_
  refine x_seq ?_
  refine c_seq ?_
  refine cd_opt (fun ho7 => ?_) (fun x5 b6 ho7 => ?_)
  · rintro rfl
    have hm8 := om_n hm4 ho7
    clear hm4
    cases hm8
  · rintro rfl
    have hm8 := om_s hm4 ho7
    clear hm4
    obtain ⟨⟨pv10, g11⟩, ⟨pv13, g14⟩⟩ := g3
    refine cd_st (fun _ h => st_star_o h) ?_
    refine c_reg ?_
    refine r_u (o_mv rfl) ?_
    obtain ⟨r15, hr15, hm24⟩ := bs hm8
    clear hm8
    refine r_sw (s_w (o_call ca22 rfl (tiny_Tiny_Insert.ok b6 x5 (⟨(pv10, g11), (pv13, g14)⟩ : tiny_Tiny.G) [120] r15 hr15))) ?_
    rintro v16 R _ _ ⟨_, ⟨⟨pv19, g20⟩, ⟨pv22, g23⟩⟩, rfl, rfl, rfl⟩
    refine r_nil ?_
    refine x_seq ?_
    refine c_seq ?_
    refine c_reg ?_
    refine r_u (o_mv rfl) ?_
    obtain ⟨r25, hr25, hm33⟩ := bs hm24
    clear hm24
    refine rl_st (fun _ h => mv3 (mv3 (mv3 h))) ?_
    refine r_sw (s_w (o_call ca23 rfl (tiny_Tiny_Touch.ok b6 r15.2 (⟨(pv19, g20), (pv22, g23)⟩ : tiny_Tiny.G) [120] r25 hr25))) ?_
    rintro _ R _ _ ⟨⟨⟨pv28, g29⟩, ⟨pv31, g32⟩⟩, rfl, rfl, rfl⟩
    refine r_nil ?_
    refine x_seq ?_
    refine c_seq ?_
    refine c_reg ?_
    refine r_u (o_mv rfl) ?_
    obtain ⟨r34, hr34, hm42⟩ := bs hm33
    clear hm33
    refine r_sw (s_w (o_call ca23 rfl (tiny_Tiny_Touch.ok b6 r25.2 (⟨(pv28, g29), (pv31, g32)⟩ : tiny_Tiny.G) [120] r34 hr34))) ?_
    rintro _ R _ _ ⟨⟨⟨pv37, g38⟩, ⟨pv40, g41⟩⟩, rfl, rfl, rfl⟩
    refine r_nil ?_
    refine x_seq ?_
    refine c_seq ?_
    refine c_reg ?_
    refine r_u (o_mv rfl) ?_
    obtain ⟨r43, hr43, hm52⟩ := bs hm42
    clear hm42
    refine r_sw (s_w (o_call ca22 rfl (tiny_Tiny_Insert.ok b6 r34.2 (⟨(pv37, g38), (pv40, g41)⟩ : tiny_Tiny.G) [121] r43 hr43))) ?_
    rintro v44 R _ _ ⟨_, ⟨⟨pv47, g48⟩, ⟨pv50, g51⟩⟩, rfl, rfl, rfl⟩
    refine r_nil ?_
    refine x_seq ?_
    refine c_seq ?_
    refine c_reg ?_
    refine r_u (o_mv rfl) ?_
    obtain ⟨r53, hr53, hm62⟩ := bs hm52
    clear hm52
    refine rl_st (fun _ h => mv3 (mv3 (mv3 h))) ?_
    refine r_sw (s_w (o_call ca22 rfl (tiny_Tiny_Insert.ok b6 r43.2 (⟨(pv47, g48), (pv50, g51)⟩ : tiny_Tiny.G) [122] r53 hr53))) ?_
    rintro v54 R _ _ ⟨_, ⟨⟨pv57, g58⟩, ⟨pv60, g61⟩⟩, rfl, rfl, rfl⟩
    refine r_u (o_as rfl) ?_
    refine r_nil ?_
    refine x_seq ?_
    refine c_seq ?_
    refine cd_by ((r0.2 == 0) && ((r53.1.length : Int) == 1)) (fun h63 => ?_) fun h63 => ?_
    · have hm64 := ift hm62 h63
      clear hm62
      obtain ⟨x65, hx65, hm66⟩ := bs hm64
      clear hm64
      refine cd_by (x65 == [121]) (fun h67 => ?_) fun h67 => ?_
      · have hm68 := ift hm66 h67
        clear hm66
        obtain ⟨r69, hr69, hm70⟩ := bs hm68
        clear hm68
        refine cd_by r69 (fun h71 => ?_) fun h71 => ?_
        · have hm72 := ift hm70 h71
          clear hm70
          obtain ⟨r73, hr73, hm74⟩ := bs hm72
          clear hm72
          refine cd_by r73 (fun h75 => ?_) fun h75 => ?_
          · have hm76 := ift hm74 h75
            clear hm74
            obtain ⟨r77, hr77, hm78⟩ := bs hm76
            clear hm76
            refine cd_by (r77 == 2) (fun h79 => ?_) fun h79 => ?_
            · have hm80 := ift hm78 h79
              clear hm78
              refine c_reg ?_
              refine r_u (o_mv rfl) ?_
              refine r_u (o_bin rfl rfl (bI_eq r0.2 0)) ?_
              refine r_u (o_mv rfl) ?_
              refine r_s (s_gt rfl rfl fun g => o_mv rfl) ?_
              refine r_s (s_gt rfl rfl fun g => o_lenO 0 Tryz.underlying60 (evg rfl g) rfl) ?_
              refine r_s (s_gt rfl rfl fun g => o_bin (evg rfl g) rfl (bI_eq (r53.1.length : Int) 1)) ?_
              refine r_u (o_and rfl rfl) ?_
              refine r_u (o_mv rfl) ?_
              refine r_s (s_y rfl rfl h63 (o_mv rfl)) ?_
              refine r_s (s_y rfl rfl h63 (o_ixO 0 Tryz.underlying60 (fun _ => by kernel_rfl) rfl rfl rfl hx65)) ?_
              refine r_s (s_y rfl rfl h63 (o_ldO0 0 sc9 rfl rfl hx65 rfl rfl)) ?_
              refine r_s (s_y rfl rfl h63 (o_bin rfl rfl (bS_eq x65 [121]))) ?_
              refine r_u (o_pt rfl h63 rfl) ?_
              refine r_u (o_mv rfl) ?_
              refine r_s (s_y rfl rfl h67 (o_mv rfl)) ?_
              refine rl_st (fun _ h => mv3 (mv3 (mv3 h))) ?_
              refine r_c (s_yw rfl rfl h67 (o_call ca10 rfl (tiny_Tiny_Has.ok b6 r53.2 (⟨(pv57, g58), (pv60, g61)⟩ : tiny_Tiny.G) [120] r69 hr69))) ?_
              refine r_u (o_pt rfl h67 rfl) ?_
              refine r_u (o_mv rfl) ?_
              refine r_s (s_y rfl rfl h71 (o_mv rfl)) ?_
              refine r_c (s_yw rfl rfl h71 (o_call ca10 rfl (tiny_Tiny_Has.ok b6 r53.2 (⟨(pv57, g58), (pv60, g61)⟩ : tiny_Tiny.G) [122] r73 hr73))) ?_
              refine r_u (o_pt rfl h71 rfl) ?_
              refine r_u (o_mv rfl) ?_
              refine r_s (s_y rfl rfl h75 (o_mv rfl)) ?_
              refine r_c (s_yw rfl rfl h75 (o_call ca24 rfl (tiny_Tiny_Len.ok b6 r53.2 (⟨(pv57, g58), (pv60, g61)⟩ : tiny_Tiny.G) r77 hr77))) ?_
              refine r_s (s_y rfl rfl h75 (o_bin rfl rfl (bI_eq r77 2))) ?_
              refine r_u (o_pt rfl h75 rfl) ?_
              refine r_u (o_mv rfl) ?_
              refine r_s (s_y rfl rfl h79 (o_mv rfl)) ?_
              obtain ⟨r81, hr81, hm82⟩ := bs hm80
              clear hm80
              refine r_c (s_yw rfl rfl h79 (o_call ca12 rfl (tiny_Tiny_Seen.ok b6 r53.2 (⟨(pv57, g58), (pv60, g61)⟩ : tiny_Tiny.G) [120] r81 hr81))) ?_
              refine r_s (s_y rfl rfl h79 (o_bin rfl rfl (bI_eq r81 3))) ?_
              refine r_u (o_pt rfl h79 rfl) ?_
              refine r_u (o_as rfl) ?_
              refine r_nil ?_
              refine x_seq ?_
              refine c_ret ?_
              obtain rfl := Option.some.inj hm82
              refine ex_st (fun _ h => st_pk 6 [] (by decide) h) ?_
              exact x_r1 rfl (rv_t rfl) (Le.refl _) ⟨_, rfl, rfl, rfl, rfl⟩
            · have hm80 := iff_ hm78 h79
              clear hm78
              refine c_reg ?_
              refine r_u (o_mv rfl) ?_
              refine r_u (o_bin rfl rfl (bI_eq r0.2 0)) ?_
              refine r_u (o_mv rfl) ?_
              refine r_s (s_gt rfl rfl fun g => o_mv rfl) ?_
              refine r_s (s_gt rfl rfl fun g => o_lenO 0 Tryz.underlying60 (evg rfl g) rfl) ?_
              refine r_s (s_gt rfl rfl fun g => o_bin (evg rfl g) rfl (bI_eq (r53.1.length : Int) 1)) ?_
              refine r_u (o_and rfl rfl) ?_
              refine r_u (o_mv rfl) ?_
              refine r_s (s_y rfl rfl h63 (o_mv rfl)) ?_
              refine r_s (s_y rfl rfl h63 (o_ixO 0 Tryz.underlying60 (fun _ => by kernel_rfl) rfl rfl rfl hx65)) ?_
              refine r_s (s_y rfl rfl h63 (o_ldO0 0 sc9 rfl rfl hx65 rfl rfl)) ?_
              refine r_s (s_y rfl rfl h63 (o_bin rfl rfl (bS_eq x65 [121]))) ?_
              refine r_u (o_pt rfl h63 rfl) ?_
              refine r_u (o_mv rfl) ?_
              refine r_s (s_y rfl rfl h67 (o_mv rfl)) ?_
              refine rl_st (fun _ h => mv3 (mv3 (mv3 h))) ?_
              refine r_c (s_yw rfl rfl h67 (o_call ca10 rfl (tiny_Tiny_Has.ok b6 r53.2 (⟨(pv57, g58), (pv60, g61)⟩ : tiny_Tiny.G) [120] r69 hr69))) ?_
              refine r_u (o_pt rfl h67 rfl) ?_
              refine r_u (o_mv rfl) ?_
              refine r_s (s_y rfl rfl h71 (o_mv rfl)) ?_
              refine r_c (s_yw rfl rfl h71 (o_call ca10 rfl (tiny_Tiny_Has.ok b6 r53.2 (⟨(pv57, g58), (pv60, g61)⟩ : tiny_Tiny.G) [122] r73 hr73))) ?_
              refine r_u (o_pt rfl h71 rfl) ?_
              refine r_u (o_mv rfl) ?_
              refine r_s (s_y rfl rfl h75 (o_mv rfl)) ?_
              refine r_c (s_yw rfl rfl h75 (o_call ca24 rfl (tiny_Tiny_Len.ok b6 r53.2 (⟨(pv57, g58), (pv60, g61)⟩ : tiny_Tiny.G) r77 hr77))) ?_
              refine r_s (s_y rfl rfl h75 (o_bin rfl rfl (bI_eq r77 2))) ?_
              refine r_u (o_pt rfl h75 rfl) ?_
              refine r_u (o_mv rfl) ?_
              refine r_s (s_n rfl rfl h79) ?_
              refine r_s (s_n rfl rfl h79) ?_
              refine r_s (s_n rfl rfl h79) ?_
              refine r_u (o_pf rfl h79 rfl) ?_
              refine r_u (o_as rfl) ?_
              refine r_nil ?_
              refine x_seq ?_
              refine c_ret ?_
              obtain rfl := Option.some.inj hm80
              refine ex_st (fun _ h => st_pk 6 [] (by decide) h) ?_
              exact x_r1 rfl (rv_t rfl) (Le.refl _) ⟨_, rfl, rfl, rfl, rfl⟩
          · have hm76 := iff_ hm74 h75
            clear hm74
            refine c_reg ?_
            refine r_u (o_mv rfl) ?_
            refine r_u (o_bin rfl rfl (bI_eq r0.2 0)) ?_
            refine r_u (o_mv rfl) ?_
            refine r_s (s_gt rfl rfl fun g => o_mv rfl) ?_
            refine r_s (s_gt rfl rfl fun g => o_lenO 0 Tryz.underlying60 (evg rfl g) rfl) ?_
            refine r_s (s_gt rfl rfl fun g => o_bin (evg rfl g) rfl (bI_eq (r53.1.length : Int) 1)) ?_
            refine r_u (o_and rfl rfl) ?_
            refine r_u (o_mv rfl) ?_
            refine r_s (s_y rfl rfl h63 (o_mv rfl)) ?_
            refine r_s (s_y rfl rfl h63 (o_ixO 0 Tryz.underlying60 (fun _ => by kernel_rfl) rfl rfl rfl hx65)) ?_
            refine r_s (s_y rfl rfl h63 (o_ldO0 0 sc9 rfl rfl hx65 rfl rfl)) ?_
            refine r_s (s_y rfl rfl h63 (o_bin rfl rfl (bS_eq x65 [121]))) ?_
            refine r_u (o_pt rfl h63 rfl) ?_
            refine r_u (o_mv rfl) ?_
            refine r_s (s_y rfl rfl h67 (o_mv rfl)) ?_
            refine rl_st (fun _ h => mv3 (mv3 (mv3 h))) ?_
            refine r_c (s_yw rfl rfl h67 (o_call ca10 rfl (tiny_Tiny_Has.ok b6 r53.2 (⟨(pv57, g58), (pv60, g61)⟩ : tiny_Tiny.G) [120] r69 hr69))) ?_
            refine r_u (o_pt rfl h67 rfl) ?_
            refine r_u (o_mv rfl) ?_
            refine r_s (s_y rfl rfl h71 (o_mv rfl)) ?_
            refine r_c (s_yw rfl rfl h71 (o_call ca10 rfl (tiny_Tiny_Has.ok b6 r53.2 (⟨(pv57, g58), (pv60, g61)⟩ : tiny_Tiny.G) [122] r73 hr73))) ?_
            refine r_u (o_pt rfl h71 rfl) ?_
            refine r_u (o_mv rfl) ?_
            refine r_s (s_n rfl rfl h75) ?_
            refine r_s (s_n rfl rfl h75) ?_
            refine r_s (s_n rfl rfl h75) ?_
            refine r_u (o_pf rfl h75 rfl) ?_
            refine r_u (o_mv rfl) ?_
            refine r_s (s_n rfl rfl rfl) ?_
            refine r_s (s_n rfl rfl rfl) ?_
            refine r_s (s_n rfl rfl rfl) ?_
            refine r_u (o_pf rfl rfl rfl) ?_
            refine r_u (o_as rfl) ?_
            refine r_nil ?_
            refine x_seq ?_
            refine c_ret ?_
            obtain rfl := Option.some.inj hm76
            refine ex_st (fun _ h => st_pk 6 [] (by decide) h) ?_
            exact x_r1 rfl (rv_t rfl) (Le.refl _) ⟨_, rfl, rfl, rfl, rfl⟩
        · have hm72 := iff_ hm70 h71
          clear hm70
          refine c_reg ?_
          refine r_u (o_mv rfl) ?_
          refine r_u (o_bin rfl rfl (bI_eq r0.2 0)) ?_
          refine r_u (o_mv rfl) ?_
          refine r_s (s_gt rfl rfl fun g => o_mv rfl) ?_
          refine r_s (s_gt rfl rfl fun g => o_lenO 0 Tryz.underlying60 (evg rfl g) rfl) ?_
          refine r_s (s_gt rfl rfl fun g => o_bin (evg rfl g) rfl (bI_eq (r53.1.length : Int) 1)) ?_
          refine r_u (o_and rfl rfl) ?_
          refine r_u (o_mv rfl) ?_
          refine r_s (s_y rfl rfl h63 (o_mv rfl)) ?_
          refine r_s (s_y rfl rfl h63 (o_ixO 0 Tryz.underlying60 (fun _ => by kernel_rfl) rfl rfl rfl hx65)) ?_
          refine r_s (s_y rfl rfl h63 (o_ldO0 0 sc9 rfl rfl hx65 rfl rfl)) ?_
          refine r_s (s_y rfl rfl h63 (o_bin rfl rfl (bS_eq x65 [121]))) ?_
          refine r_u (o_pt rfl h63 rfl) ?_
          refine r_u (o_mv rfl) ?_
          refine r_s (s_y rfl rfl h67 (o_mv rfl)) ?_
          refine rl_st (fun _ h => mv3 (mv3 (mv3 h))) ?_
          refine r_c (s_yw rfl rfl h67 (o_call ca10 rfl (tiny_Tiny_Has.ok b6 r53.2 (⟨(pv57, g58), (pv60, g61)⟩ : tiny_Tiny.G) [120] r69 hr69))) ?_
          refine r_u (o_pt rfl h67 rfl) ?_
          refine r_u (o_mv rfl) ?_
          refine r_s (s_n rfl rfl h71) ?_
          refine r_s (s_n rfl rfl h71) ?_
          refine r_u (o_pf rfl h71 rfl) ?_
          refine r_u (o_mv rfl) ?_
          refine r_s (s_n rfl rfl rfl) ?_
          refine r_s (s_n rfl rfl rfl) ?_
          refine r_s (s_n rfl rfl rfl) ?_
          refine r_u (o_pf rfl rfl rfl) ?_
          refine r_u (o_mv rfl) ?_
          refine r_s (s_n rfl rfl rfl) ?_
          refine r_s (s_n rfl rfl rfl) ?_
          refine r_s (s_n rfl rfl rfl) ?_
          refine r_u (o_pf rfl rfl rfl) ?_
          refine r_u (o_as rfl) ?_
          refine r_nil ?_
          refine x_seq ?_
          refine c_ret ?_
          obtain rfl := Option.some.inj hm72
          refine ex_st (fun _ h => st_pk 6 [] (by decide) h) ?_
          exact x_r1 rfl (rv_t rfl) (Le.refl _) ⟨_, rfl, rfl, rfl, rfl⟩
      · have hm68 := iff_ hm66 h67
        clear hm66
        refine c_reg ?_
        refine r_u (o_mv rfl) ?_
        refine r_u (o_bin rfl rfl (bI_eq r0.2 0)) ?_
        refine r_u (o_mv rfl) ?_
        refine r_s (s_gt rfl rfl fun g => o_mv rfl) ?_
        refine r_s (s_gt rfl rfl fun g => o_lenO 0 Tryz.underlying60 (evg rfl g) rfl) ?_
        refine r_s (s_gt rfl rfl fun g => o_bin (evg rfl g) rfl (bI_eq (r53.1.length : Int) 1)) ?_
        refine r_u (o_and rfl rfl) ?_
        refine r_u (o_mv rfl) ?_
        refine r_s (s_y rfl rfl h63 (o_mv rfl)) ?_
        refine r_s (s_y rfl rfl h63 (o_ixO 0 Tryz.underlying60 (fun _ => by kernel_rfl) rfl rfl rfl hx65)) ?_
        refine r_s (s_y rfl rfl h63 (o_ldO0 0 sc9 rfl rfl hx65 rfl rfl)) ?_
        refine r_s (s_y rfl rfl h63 (o_bin rfl rfl (bS_eq x65 [121]))) ?_
        refine r_u (o_pt rfl h63 rfl) ?_
        refine r_u (o_mv rfl) ?_
        refine r_s (s_n rfl rfl h67) ?_
        refine r_s (s_n rfl rfl h67) ?_
        refine r_u (o_pf rfl h67 rfl) ?_
        refine r_u (o_mv rfl) ?_
        refine r_s (s_n rfl rfl rfl) ?_
        refine r_s (s_n rfl rfl rfl) ?_
        refine r_u (o_pf rfl rfl rfl) ?_
        refine r_u (o_mv rfl) ?_
        refine r_s (s_n rfl rfl rfl) ?_
        refine r_s (s_n rfl rfl rfl) ?_
        refine r_s (s_n rfl rfl rfl) ?_
        refine r_u (o_pf rfl rfl rfl) ?_
        refine r_u (o_mv rfl) ?_
        refine r_s (s_n rfl rfl rfl) ?_
        refine r_s (s_n rfl rfl rfl) ?_
        refine r_s (s_n rfl rfl rfl) ?_
        refine r_u (o_pf rfl rfl rfl) ?_
        refine r_u (o_as rfl) ?_
        refine r_nil ?_
        refine x_seq ?_
        refine c_ret ?_
        obtain rfl := Option.some.inj hm68
        refine ex_st (fun _ h => st_pk 6 [] (by decide) h) ?_
        exact x_r1 rfl (rv_t rfl) (Le.refl _) ⟨_, rfl, rfl, rfl, rfl⟩
    · have hm64 := iff_ hm62 h63
      clear hm62
      refine c_reg ?_
      refine r_u (o_mv rfl) ?_
      refine r_u (o_bin rfl rfl (bI_eq r0.2 0)) ?_
      refine r_u (o_mv rfl) ?_
      refine r_s (s_gt rfl rfl fun g => o_mv rfl) ?_
      refine r_s (s_gt rfl rfl fun g => o_lenO 0 Tryz.underlying60 (evg rfl g) rfl) ?_
      refine r_s (s_gt rfl rfl fun g => o_bin (evg rfl g) rfl (bI_eq (r53.1.length : Int) 1)) ?_
      refine r_u (o_and rfl rfl) ?_
      refine r_u (o_mv rfl) ?_
      refine r_s (s_n rfl rfl h63) ?_
      refine r_s (s_n rfl rfl h63) ?_
      refine r_s (s_n rfl rfl h63) ?_
      refine r_s (s_n rfl rfl h63) ?_
      refine r_u (o_pf rfl h63 rfl) ?_
      refine r_u (o_mv rfl) ?_
      refine r_s (s_n rfl rfl rfl) ?_
      refine r_s (s_n rfl rfl rfl) ?_
      refine r_u (o_pf rfl rfl rfl) ?_
      refine r_u (o_mv rfl) ?_
      refine r_s (s_n rfl rfl rfl) ?_
      refine r_s (s_n rfl rfl rfl) ?_
      refine r_u (o_pf rfl rfl rfl) ?_
      refine r_u (o_mv rfl) ?_
      refine r_s (s_n rfl rfl rfl) ?_
      refine r_s (s_n rfl rfl rfl) ?_
      refine r_s (s_n rfl rfl rfl) ?_
      refine r_u (o_pf rfl rfl rfl) ?_
      refine r_u (o_mv rfl) ?_
      refine r_s (s_n rfl rfl rfl) ?_
      refine r_s (s_n rfl rfl rfl) ?_
      refine r_s (s_n rfl rfl rfl) ?_
      refine r_u (o_pf rfl rfl rfl) ?_
      refine r_u (o_as rfl) ?_
      refine r_nil ?_
      refine x_seq ?_
      refine c_ret ?_
      obtain rfl := Option.some.inj hm64
      refine ex_st (fun _ h => st_pk 6 [] (by decide) h) ?_
      exact x_r1 rfl (rv_t rfl) (Le.refl _) ⟨_, rfl, rfl, rfl, rfl⟩

def hawthornlaw08_few (a0 : Str) : Option Str :=
  if decide (80 < (a0.length : Int)) then (sl a0 0 80).bind fun s2 => some s2 else some a0
theorem hawthornlaw08_few.ok {G R F} (a0 : Str) (r : Str) (hm : hawthornlaw08_few a0 = some r) : CO Tryz.prog 8 [vS a0] G R (F)
    (Ret fun u R' L' => u = vS r ∧ R' = R ∧ L' = F) := by
  unfold hawthornlaw08_few at hm
  refine co_ofN (N := 9) Tryz.func8 rfl rfl ?_
  refine c_seq ?_
  refine c_reg ?_
  refine r_u (o_as rfl) ?_
  refine r_nil ?_
  refine x_seq ?_
  refine c_seq ?_
  refine c_seq ?_
  refine c_reg ?_
  refine r_u (o_mv rfl) ?_
  refine r_u (o_lenS Tryz.underlying9 rfl) ?_
  refine r_u (o_bin rfl rfl (bI_gt (a0.length : Int) 80)) ?_
  refine r_nil ?_
  refine x_seq ?_
  refine c_if (b := decide (80 < (a0.length : Int))) rfl (fun h0 => ?_) fun h0 => ?_
  · have hm1 := ift hm h0
    clear hm
    refine c_seq ?_
    refine c_reg ?_
    refine r_u (o_mv rfl) ?_
    obtain ⟨s2, hs2, hm3⟩ := bs hm1
    clear hm1
    refine r_u (o_slS (i := 0) (j := 80) Tryz.underlying9 rfl rfl rfl hs2) ?_
    refine r_u (o_as rfl) ?_
    refine r_nil ?_
    refine x_seq ?_
    refine c_ret ?_
    obtain rfl := Option.some.inj hm3
    exact x_r1 rfl (rv_t rfl) (Le.refl _) ⟨_, rfl, rfl, rfl, rfl⟩
  · have hm1 := iff_ hm h0
    clear hm
    refine c_skip ?_
    refine x_seq ?_
    refine c_seq ?_
    refine c_reg ?_
    refine r_u (o_mv rfl) ?_
    refine r_u (o_as rfl) ?_
    refine r_nil ?_
    refine x_seq ?_
    refine c_ret ?_
    obtain rfl := Option.some.inj hm1
    exact x_r1 rfl (rv_t rfl) (Le.refl _) ⟨_, rfl, rfl, rfl, rfl⟩

def hawthornref06_Rings_In_l1 (a0 : hawthornref06_Rings) (a1 : Str) (i_6 : Int) : Nat → Int → Option (Unit ⊕ (Unit ⊕ (Unit ⊕ (Int × Bool))))
  | 0, _ => none
  | k23 + 1, k_22 => (gi a0.L i_6).bind fun x28 => if decide (k_22 < (x28.length : Int)) then (gi x28 k_22).bind fun x33 => if (x33 == a1) then some (Sum.inr (Sum.inr (Sum.inr (i_6, true)))) else hawthornref06_Rings_In_l1 a0 a1 i_6 k23 (i64 (k_22 + 1)) else some (Sum.inl ())
def hawthornref06_Rings_In_l0 (a0 : hawthornref06_Rings) (a1 : Str) : Nat → Int → Option (Unit ⊕ (Int × Bool))
  | 0, _ => none
  | k7 + 1, i_6 => if decide (i_6 < (a0.L.length : Int)) then Option.bind (Option.bind (hawthornref06_Rings_In_l1 a0 a1 i_6 1100 0) fun (p17 : Unit ⊕ (Unit ⊕ (Unit ⊕ (Int × Bool)))) => (match p17 with | Sum.inl q18 => some (Sum.inl ()) | Sum.inr r => some r)) fun (p12 : Unit ⊕ (Unit ⊕ (Int × Bool))) => (match p12 with | Sum.inl q13 => hawthornref06_Rings_In_l0 a0 a1 k7 (i64 (i_6 + 1)) | Sum.inr r => some r) else some (Sum.inl ())
def hawthornref06_Rings_In (a0 : hawthornref06_Rings) (a1 : Str) : Option (Int × Bool) :=
  Option.bind (hawthornref06_Rings_In_l0 a0 a1 (((a0.L.length : Int) - 0).toNat + 1) 0) fun (p1 : Unit ⊕ (Int × Bool)) => (match p1 with | Sum.inl q2 => some (0, false) | Sum.inr r => some r)
theorem hawthornref06_Rings_In.ok {G R F} (a0 : hawthornref06_Rings) (g0_ : hawthornref06_Rings.G) (h0 : hawthornref06_Rings.ro R a0 g0_) (a1 : Str) (r : Int × Bool) (hm : hawthornref06_Rings_In a0 a1 = some r) : CO Tryz.prog 38 [.agg [g0_.L.1, vI a0.Places].toArray, vS a1] G R (F)
    (Ret fun u R' L' => u = .tuple #[vI r.1, vB r.2] ∧ R' = R ∧ L' = F) := by
  unfold hawthornref06_Rings_In at hm
  refine co_ofN (N := 36) Tryz.func38 rfl rfl ?_
  refine c_seq ?_
  refine c_reg ?_
  refine r_new (o_bx [g0_.L.1, vI a0.Places] rfl rfl) fun b0 => ?_
  refine r_u (o_as rfl) ?_
  refine r_u (o_as rfl) ?_
  refine r_nil ?_
  refine x_seq ?_
  refine c_seq ?_
  refine c_seq ?_
  refine c_reg ?_
  refine r_u (o_as rfl) ?_
  refine r_nil ?_
  refine x_seq ?_
  obtain ⟨p1, hp3, hm4⟩ := bs hm
  refine cd_joinS (p := p1) (Ef := fun q2 => []) (Lf := fun q2 => Bk b0 34 [g0_.L.1, vI a0.Places] :: F) (fun q2 hq => ?_) fun K5 => ?_
  · subst hq
    try dsimp only at hm4
    refine x_seq ?_
    refine c_seq ?_
    refine c_reg ?_
    refine r_u (o_as rfl) ?_
    refine r_u (o_as rfl) ?_
    refine r_nil ?_
    refine x_seq ?_
    refine c_ret ?_
    obtain rfl := Option.some.inj hm4
    refine ex_st (fun _ h => st_pk 1 [] (by decide) h) ?_
    exact x_r2 rfl (rv_t rfl) (rv_t rfl) (Le.refl _) ⟨_, rfl, rfl, rfl, rfl⟩
  · refine c_blk ?_
    refine cd_loop (M := fun k7 (i_6 : Int) => hawthornref06_Rings_In_l0 a0 a1 k7 i_6 = some p1) (Ef := fun (i_6 : Int) => [(1, vS a1), (2, pt b0 0), (6, vI i_6)]) (Lf := fun (i_6 : Int) => Bk b0 34 [g0_.L.1, vI a0.Places] :: F) (((a0.L.length : Int) - 0).toNat + 1) 0 hp3 ⟨rfl, rfl, rfl, trivial⟩ (fun _ h => h) (fun _ h => by cases h) fun k7 i_6 hM9 => ?_
    have hm8 : hawthornref06_Rings_In_l0 a0 a1 (k7 + 1) i_6 = some p1 := hM9
    rw [hawthornref06_Rings_In_l0] at hm8
    refine c_seq ?_
    refine c_seq ?_
    refine c_reg ?_
    refine r_u (o_mv rfl) ?_
    refine r_u (o_fa fa34_0 rfl) ?_
    refine r_u (o_ld 0 sc32 rfl rfl rfl) ?_
    refine r_u (o_lenRN Tryz.underlying32 rfl h0) ?_
    refine r_u (o_bin rfl rfl (bI_lt i_6 (a0.L.length : Int))) ?_
    refine r_nil ?_
    refine x_seq ?_
    refine c_if (b := decide (i_6 < (a0.L.length : Int))) rfl (fun h10 => ?_) fun h10 => ?_
    · have hm11 := ift hm8 h10
      clear hm8
      refine c_skip ?_
      refine x_seq ?_
      refine c_seq ?_
      obtain ⟨p12, hp14, hm15⟩ := bs hm11
      refine cd_joinS (p := p12) (Ef := fun q13 => [(1, vS a1), (2, pt b0 0), (6, vI i_6)]) (Lf := fun q13 => Bk b0 34 [g0_.L.1, vI a0.Places] :: F) (fun q13 hq => ?_) fun K16 => ?_
      · subst hq
        try dsimp only at hm15
        refine x_seq ?_
        refine c_reg ?_
        refine r_u (o_mv rfl) ?_
        refine r_u (o_bin rfl rfl (bI_add i_6 1)) ?_
        refine r_u (o_as rfl) ?_
        refine r_nil ?_
        exact x_lp (i64 (i_6 + 1)) hm15 ⟨rfl, rfl, rfl, trivial⟩ (fun _ h => st_pk 1 [0] (by decide) h)
      · refine c_blk ?_
        refine c_seq ?_
        refine c_reg ?_
        refine r_u (o_as rfl) ?_
        refine r_nil ?_
        refine x_seq ?_
        obtain ⟨p17, hp19, hm20⟩ := bs hp14
        refine cd_joinS (p := p17) (Ef := fun q18 => [(1, vS a1), (2, pt b0 0), (6, vI i_6)]) (Lf := fun q18 => Bk b0 34 [g0_.L.1, vI a0.Places] :: F) (fun q18 hq => ?_) fun K21 => ?_
        · subst hq
          try dsimp only at hm20
          refine x_blk ?_
          obtain rfl := Option.some.inj hm20
          exact x_sub (K16 _ rfl) ⟨rfl, rfl, rfl, trivial⟩ (fun _ h => st_pk 1 [0] (by decide) h)
        · refine c_blk ?_
          refine cd_loop (M := fun k23 (k_22 : Int) => hawthornref06_Rings_In_l1 a0 a1 i_6 k23 k_22 = some p17) (Ef := fun (k_22 : Int) => [(1, vS a1), (2, pt b0 0), (6, vI i_6), (7, vI k_22)]) (Lf := fun (k_22 : Int) => Bk b0 34 [g0_.L.1, vI a0.Places] :: F) 1100 0 hp19 ⟨rfl, rfl, rfl, rfl, trivial⟩ (fun _ h => h) (fun _ h => by cases h) fun k23 k_22 hM27 => ?_
          have hm26 : hawthornref06_Rings_In_l1 a0 a1 i_6 (k23 + 1) k_22 = some p17 := hM27
          rw [hawthornref06_Rings_In_l1] at hm26
          refine c_seq ?_
          refine c_seq ?_
          refine c_reg ?_
          refine r_u (o_mv rfl) ?_
          refine r_u (o_fa fa34_0 rfl) ?_
          refine r_u (o_ld 0 sc32 rfl rfl rfl) ?_
          refine r_u (o_mv rfl) ?_
          obtain ⟨x28, hx28, hm30⟩ := bs hm26
          clear hm26
          obtain ⟨b28, o28, l28, T28, fr28, c28, u29, hv28, hR28, he28, hi28, hN28⟩ := RoN.ne h0 hx28
          refine r_u (o_ix (sz := 1) Tryz.underlying32 (fun _ => by kernel_rfl) rfl rfl hv28 hi28) ?_
          refine r_u (o_ldR sc60 rfl hR28 (rok 0 he28 (by decide))) ?_
          refine r_u (o_lenR Tryz.underlying60 rfl hN28) ?_
          refine r_u (o_bin rfl rfl (bI_lt k_22 (x28.length : Int))) ?_
          refine r_nil ?_
          refine x_seq ?_
          refine c_if (b := decide (k_22 < (x28.length : Int))) rfl (fun h31 => ?_) fun h31 => ?_
          · have hm32 := ift hm30 h31
            clear hm30
            refine c_skip ?_
            refine x_seq ?_
            refine c_seq ?_
            refine c_blk ?_
            refine c_seq ?_
            refine c_reg ?_
            refine r_u (o_fa fa34_0 rfl) ?_
            refine r_u (o_ld 0 sc32 rfl rfl rfl) ?_
            refine r_u (o_mv rfl) ?_
            refine r_u (o_ix (sz := 1) Tryz.underlying32 (fun _ => by kernel_rfl) rfl rfl hv28 hi28) ?_
            refine r_u (o_ldR sc60 rfl hR28 (rok 0 he28 (by decide))) ?_
            refine r_u (o_mv rfl) ?_
            obtain ⟨x33, hx33, hm34⟩ := bs hm32
            clear hm32
            obtain ⟨b33, o33, l33, T33, fr33, c33, hv33, hR33, he33, hi33⟩ := RoS.ne hN28 hx33
            refine r_u (o_ix (sz := 1) Tryz.underlying60 (fun _ => by kernel_rfl) rfl rfl hv33 hi33) ?_
            refine r_u (o_ldR sc9 rfl hR33 (rok 0 he33 (by decide))) ?_
            refine r_u (o_mv rfl) ?_
            refine r_u (o_bin rfl rfl (bS_eq x33 a1)) ?_
            refine r_nil ?_
            refine x_seq ?_
            refine c_if (b := (x33 == a1)) rfl (fun h35 => ?_) fun h35 => ?_
            · have hm36 := ift hm34 h35
              clear hm34
              refine c_seq ?_
              refine c_reg ?_
              refine r_u (o_mv rfl) ?_
              refine r_u (o_as rfl) ?_
              refine r_u (o_as rfl) ?_
              refine r_nil ?_
              refine x_seq ?_
              refine c_ret ?_
              obtain rfl := Option.some.inj hm36
              try dsimp only at hm20
              obtain rfl := Option.some.inj hm20
              try dsimp only at hm15
              obtain rfl := Option.some.inj hm15
              try dsimp only at hm4
              obtain rfl := Option.some.inj hm4
              refine ex_st (fun _ h => st_pk 1 [] (by decide) h) ?_
              exact x_r2 rfl (rv_t rfl) (rv_t rfl) (Le.refl _) ⟨_, rfl, rfl, rfl, rfl⟩
            · have hm36 := iff_ hm34 h35
              clear hm34
              refine c_skip ?_
              refine x_blk ?_
              refine x_seq ?_
              refine c_reg ?_
              refine r_u (o_mv rfl) ?_
              refine r_u (o_bin rfl rfl (bI_add k_22 1)) ?_
              refine r_u (o_as rfl) ?_
              refine r_nil ?_
              exact x_lp (i64 (k_22 + 1)) hm36 ⟨rfl, rfl, rfl, rfl, trivial⟩ (fun _ h => st_pk 1 [0] (by decide) h)
          · have hm32 := iff_ hm30 h31
            clear hm30
            refine c_exit (x_exit (ks' := _) rfl ?_)
            obtain rfl := Option.some.inj hm32
            exact x_sub (K21 _ rfl) ⟨rfl, rfl, rfl, trivial⟩ (fun _ h => st_pk 1 [0] (by decide) h)
    · have hm11 := iff_ hm8 h10
      clear hm8
      refine c_exit (x_exit (ks' := _) rfl ?_)
      obtain rfl := Option.some.inj hm11
      exact x_sub (K5 _ rfl) trivial (fun _ h => st_pk 1 [0] (by decide) h)

def hawthornref01_turn_l0 (a1 : Int) : Nat → UInt64 → Int → Option (UInt64)
  | 0, _, _ => none
  | k6 + 1, n_4, i_5 => if decide (i_5 < a1) then hawthornref01_turn_l0 a1 k6 ((n_4 * 2) + (n_4 / 9223372036854775808)) (i64 (i_5 + 1)) else some n_4
def hawthornref01_turn (a0 : UInt64) (a1 : Int) : Option UInt64 :=
  Option.bind (hawthornref01_turn_l0 a1 ((a1 - 0).toNat + 1) a0 0) fun p0 => some p0
theorem hawthornref01_turn.ok {G R F} (a0 : UInt64) (a1 : Int) (r : UInt64) (hm : hawthornref01_turn a0 a1 = some r) : CO Tryz.prog 101 [vW a0, vI a1] G R (F)
    (Ret fun u R' L' => u = vW r ∧ R' = R ∧ L' = F) := by
  unfold hawthornref01_turn at hm
  refine co_ofN (N := 19) Tryz.func101 rfl rfl ?_
  refine c_seq ?_
  refine c_reg ?_
  refine r_u (o_as rfl) ?_
  refine r_nil ?_
  refine x_seq ?_
  refine c_seq ?_
  refine c_seq ?_
  refine c_reg ?_
  refine r_u (o_as rfl) ?_
  refine r_nil ?_
  refine x_seq ?_
  obtain ⟨p0, hp1, hm2⟩ := bs hm
  refine cd_join (E' := [(0, vW p0)]) (L' := F) ?_ fun K3 => ?_
  · refine x_seq ?_
    refine c_seq ?_
    refine c_reg ?_
    refine r_u (o_mv rfl) ?_
    refine r_u (o_as rfl) ?_
    refine r_nil ?_
    refine x_seq ?_
    refine c_ret ?_
    obtain rfl := Option.some.inj hm2
    exact x_r1 rfl (rv_t rfl) (Le.refl _) ⟨_, rfl, rfl, rfl, rfl⟩
  · refine c_blk ?_
    refine cd_loop (M := fun k6 (s : UInt64 × Int) => hawthornref01_turn_l0 a1 k6 s.1 s.2 = some p0) (Ef := fun (s : UInt64 × Int) => [(1, vI a1), (0, vW s.1), (5, vI s.2)]) (Lf := fun (s : UInt64 × Int) => F) ((a1 - 0).toNat + 1) (a0, 0) hp1 ⟨rfl, rfl, rfl, trivial⟩ (fun _ h => h) (fun _ h => by cases h) fun k6 s hM8 => ?_
    obtain ⟨n_4, i_5⟩ := s
    have hm7 : hawthornref01_turn_l0 a1 (k6 + 1) n_4 i_5 = some p0 := hM8
    rw [hawthornref01_turn_l0] at hm7
    refine c_seq ?_
    refine c_seq ?_
    refine c_reg ?_
    refine r_u (o_mv rfl) ?_
    refine r_u (o_mv rfl) ?_
    refine r_u (o_bin rfl rfl (bI_lt i_5 a1)) ?_
    refine r_nil ?_
    refine x_seq ?_
    refine c_if (b := decide (i_5 < a1)) rfl (fun h9 => ?_) fun h9 => ?_
    · have hm10 := ift hm7 h9
      clear hm7
      refine c_skip ?_
      refine x_seq ?_
      refine c_seq ?_
      refine c_blk ?_
      refine c_seq ?_
      refine c_reg ?_
      refine r_u (o_mv rfl) ?_
      refine r_u (o_bin rfl rfl (bW_quo n_4 9223372036854775808 (by decide))) ?_
      refine r_u (o_as rfl) ?_
      refine r_nil ?_
      refine x_seq ?_
      refine c_reg ?_
      refine r_u (o_mv rfl) ?_
      refine r_u (o_bin rfl rfl (bW_mul n_4 2)) ?_
      refine r_u (o_mv rfl) ?_
      refine r_u (o_bin rfl rfl (bW_add (n_4 * 2) (n_4 / 9223372036854775808))) ?_
      refine r_u (o_as rfl) ?_
      refine r_nil ?_
      refine x_blk ?_
      refine x_seq ?_
      refine c_reg ?_
      refine r_u (o_mv rfl) ?_
      refine r_u (o_bin rfl rfl (bI_add i_5 1)) ?_
      refine r_u (o_as rfl) ?_
      refine r_nil ?_
      exact x_lp ((n_4 * 2) + (n_4 / 9223372036854775808), i64 (i_5 + 1)) hm10 ⟨rfl, rfl, rfl, trivial⟩ (fun _ h => st_pk 0 [] (by decide) h)
    · have hm10 := iff_ hm7 h9
      clear hm7
      refine c_exit (x_exit (ks' := _) rfl ?_)
      obtain rfl := Option.some.inj hm10
      exact x_sub K3 ⟨rfl, trivial⟩ (fun _ h => st_pk 0 [] (by decide) h)

def hawthornref01_Mix (a0 : UInt64) : Option UInt64 :=
  (hawthornref01_turn ((a0 ^^^ (a0 / 4294967296)) * 11400714819323198485) 29).bind fun r0 => some ((r0 * 11400714819323198485) ^^^ ((r0 * 11400714819323198485) / 4294967296))
theorem hawthornref01_Mix.ok {G R F} (a0 : UInt64) (r : UInt64) (hm : hawthornref01_Mix a0 = some r) : CO Tryz.prog 93 [vW a0] G R (F)
    (Ret fun u R' L' => u = vW r ∧ R' = R ∧ L' = F) := by
  unfold hawthornref01_Mix at hm
  refine co_ofN (N := 17) Tryz.func93 rfl rfl ?_
  refine c_seq ?_
  refine c_reg ?_
  refine r_u (o_as rfl) ?_
  refine r_nil ?_
  refine x_seq ?_
  refine c_seq ?_
  refine c_reg ?_
  refine r_u (o_mv rfl) ?_
  refine r_u (o_mv rfl) ?_
  refine r_u (o_bin rfl rfl (bW_quo a0 4294967296 (by decide))) ?_
  refine r_u (o_bin rfl rfl (bW_xor a0 (a0 / 4294967296))) ?_
  refine r_u (o_as rfl) ?_
  refine r_nil ?_
  refine x_seq ?_
  refine c_seq ?_
  refine c_reg ?_
  refine r_u (o_mv rfl) ?_
  refine r_u (o_bin rfl rfl (bW_mul (a0 ^^^ (a0 / 4294967296)) 11400714819323198485)) ?_
  refine r_u (o_as rfl) ?_
  refine r_nil ?_
  refine x_seq ?_
  refine c_seq ?_
  refine c_reg ?_
  refine r_u (o_mv rfl) ?_
  obtain ⟨r0, hr0, hm1⟩ := bs hm
  clear hm
  refine r_u (o_callq ca101 rfl (hawthornref01_turn.ok ((a0 ^^^ (a0 / 4294967296)) * 11400714819323198485) 29 r0 hr0)) ?_
  refine r_u (o_as rfl) ?_
  refine r_nil ?_
  refine x_seq ?_
  refine c_seq ?_
  refine c_reg ?_
  refine r_u (o_mv rfl) ?_
  refine r_u (o_bin rfl rfl (bW_mul r0 11400714819323198485)) ?_
  refine r_u (o_as rfl) ?_
  refine r_nil ?_
  refine x_seq ?_
  refine c_seq ?_
  refine c_reg ?_
  refine r_u (o_mv rfl) ?_
  refine r_u (o_mv rfl) ?_
  refine r_u (o_bin rfl rfl (bW_quo (r0 * 11400714819323198485) 4294967296 (by decide))) ?_
  refine r_u (o_bin rfl rfl (bW_xor (r0 * 11400714819323198485) ((r0 * 11400714819323198485) / 4294967296))) ?_
  refine r_u (o_as rfl) ?_
  refine r_nil ?_
  refine x_seq ?_
  refine c_ret ?_
  obtain rfl := Option.some.inj hm1
  exact x_r1 rfl (rv_t rfl) (Le.refl _) ⟨_, rfl, rfl, rfl, rfl⟩

def hawthornref01_Of_l0 (a1 : Str) : Nat → UInt64 → Int → Option (UInt64)
  | 0, _, _ => none
  | k10 + 1, h_8, i_9 => if decide (i_9 < (a1.length : Int)) then (gi a1 i_9).bind fun c15 => hawthornref01_Of_l0 a1 k10 ((h_8 ^^^ c15.toUInt64) * 1099511628211) (i64 (i_9 + 1)) else some h_8
def hawthornref01_Of (a0 : UInt64) (a1 : Str) : Option UInt64 :=
  (hawthornref01_Mix a0).bind fun r0 => Option.bind (hawthornref01_Of_l0 a1 (((a1.length : Int) - 0).toNat + 1) (14695981039346656037 ^^^ r0) 0) fun p2 => (hawthornref01_Mix (p2 ^^^ (toW (a1.length : Int)))).bind fun r6 => some r6
theorem hawthornref01_Of.ok {G R F} (a0 : UInt64) (a1 : Str) (r : UInt64) (hm : hawthornref01_Of a0 a1 = some r) : CO Tryz.prog 68 [vW a0, vS a1] G R (F)
    (Ret fun u R' L' => u = vW r ∧ R' = R ∧ L' = F) := by
  unfold hawthornref01_Of at hm
  refine co_ofN (N := 30) Tryz.func68 rfl rfl ?_
  refine c_seq ?_
  refine c_reg ?_
  refine r_u (o_as rfl) ?_
  refine r_nil ?_
  refine x_seq ?_
  refine c_seq ?_
  refine c_reg ?_
  refine r_u (o_mv rfl) ?_
  obtain ⟨r0, hr0, hm1⟩ := bs hm
  clear hm
  refine r_u (o_callq ca93 rfl (hawthornref01_Mix.ok a0 r0 hr0)) ?_
  refine r_u (o_bin rfl rfl (bW_xor 14695981039346656037 r0)) ?_
  refine r_u (o_as rfl) ?_
  refine r_nil ?_
  refine x_seq ?_
  refine c_seq ?_
  refine c_seq ?_
  refine c_reg ?_
  refine r_u (o_as rfl) ?_
  refine r_nil ?_
  refine x_seq ?_
  obtain ⟨p2, hp3, hm4⟩ := bs hm1
  refine cd_join (E' := [(1, vS a1), (5, vW p2)]) (L' := F) ?_ fun K5 => ?_
  · refine x_seq ?_
    refine c_seq ?_
    refine c_reg ?_
    refine r_u (o_mv rfl) ?_
    refine r_u (o_mv rfl) ?_
    refine r_u (o_lenS Tryz.underlying9 rfl) ?_
    refine r_u (o_cv rfl (cIW Tryz.underlying3 Tryz.underlying22 (a1.length : Int))) ?_
    refine r_u (o_bin rfl rfl (bW_xor p2 (toW (a1.length : Int)))) ?_
    obtain ⟨r6, hr6, hm7⟩ := bs hm4
    clear hm4
    refine r_u (o_callq ca93 rfl (hawthornref01_Mix.ok (p2 ^^^ (toW (a1.length : Int))) r6 hr6)) ?_
    refine r_u (o_as rfl) ?_
    refine r_nil ?_
    refine x_seq ?_
    refine c_ret ?_
    obtain rfl := Option.some.inj hm7
    exact x_r1 rfl (rv_t rfl) (Le.refl _) ⟨_, rfl, rfl, rfl, rfl⟩
  · refine c_blk ?_
    refine cd_loop (M := fun k10 (s : UInt64 × Int) => hawthornref01_Of_l0 a1 k10 s.1 s.2 = some p2) (Ef := fun (s : UInt64 × Int) => [(1, vS a1), (5, vW s.1), (6, vI s.2)]) (Lf := fun (s : UInt64 × Int) => F) (((a1.length : Int) - 0).toNat + 1) (14695981039346656037 ^^^ r0, 0) hp3 ⟨rfl, rfl, rfl, trivial⟩ (fun _ h => h) (fun _ h => by cases h) fun k10 s hM12 => ?_
    obtain ⟨h_8, i_9⟩ := s
    have hm11 : hawthornref01_Of_l0 a1 (k10 + 1) h_8 i_9 = some p2 := hM12
    rw [hawthornref01_Of_l0] at hm11
    refine c_seq ?_
    refine c_seq ?_
    refine c_reg ?_
    refine r_u (o_mv rfl) ?_
    refine r_u (o_mv rfl) ?_
    refine r_u (o_lenS Tryz.underlying9 rfl) ?_
    refine r_u (o_bin rfl rfl (bI_lt i_9 (a1.length : Int))) ?_
    refine r_nil ?_
    refine x_seq ?_
    refine c_if (b := decide (i_9 < (a1.length : Int))) rfl (fun h13 => ?_) fun h13 => ?_
    · have hm14 := ift hm11 h13
      clear hm11
      refine c_skip ?_
      refine x_seq ?_
      refine c_seq ?_
      refine c_blk ?_
      refine c_seq ?_
      refine c_reg ?_
      refine r_u (o_mv rfl) ?_
      refine r_u (o_mv rfl) ?_
      refine r_u (o_mv rfl) ?_
      obtain ⟨c15, hc15, hm16⟩ := bs hm14
      clear hm14
      refine r_u (o_ixS Tryz.underlying9 rfl rfl hc15) ?_
      refine r_u (o_cv rfl (cYW Tryz.underlying5 Tryz.underlying22 c15)) ?_
      refine r_u (o_bin rfl rfl (bW_xor h_8 c15.toUInt64)) ?_
      refine r_u (o_as rfl) ?_
      refine r_nil ?_
      refine x_seq ?_
      refine c_reg ?_
      refine r_u (o_mv rfl) ?_
      refine r_u (o_bin rfl rfl (bW_mul (h_8 ^^^ c15.toUInt64) 1099511628211)) ?_
      refine r_u (o_as rfl) ?_
      refine r_nil ?_
      refine x_blk ?_
      refine x_seq ?_
      refine c_reg ?_
      refine r_u (o_mv rfl) ?_
      refine r_u (o_bin rfl rfl (bI_add i_9 1)) ?_
      refine r_u (o_as rfl) ?_
      refine r_nil ?_
      exact x_lp ((h_8 ^^^ c15.toUInt64) * 1099511628211, i64 (i_9 + 1)) hm16 ⟨rfl, rfl, rfl, trivial⟩ (fun _ h => st_pk 0 [] (by decide) h)
    · have hm14 := iff_ hm11 h13
      clear hm11
      refine c_exit (x_exit (ks' := _) rfl ?_)
      obtain rfl := Option.some.inj hm14
      exact x_sub K5 ⟨rfl, rfl, trivial⟩ (fun _ h => st_pk 0 [] (by decide) h)

def hawthornref01_high (a0 : UInt64) (a1 : UInt64) : UInt64 :=
  (((a0 / 4294967296) * (a1 / 4294967296)) + ((((a0 / 4294967296) * (a1 % 4294967296)) + (((a0 % 4294967296) * (a1 % 4294967296)) / 4294967296)) / 4294967296)) + ((((a0 % 4294967296) * (a1 / 4294967296)) + ((((a0 / 4294967296) * (a1 % 4294967296)) + (((a0 % 4294967296) * (a1 % 4294967296)) / 4294967296)) % 4294967296)) / 4294967296)
theorem hawthornref01_high.ok {G R F} (a0 : UInt64) (a1 : UInt64) (r : UInt64) (hm : hawthornref01_high a0 a1 = r) : CO Tryz.prog 92 [vW a0, vW a1] G R (F)
    (Ret fun u R' L' => u = vW r ∧ R' = R ∧ L' = F) := by
  unfold hawthornref01_high at hm
  refine co_ofN (N := 42) Tryz.func92 rfl rfl ?_
  refine c_seq ?_
  refine c_reg ?_
  refine r_u (o_as rfl) ?_
  refine r_nil ?_
  refine x_seq ?_
  refine c_seq ?_
  refine c_reg ?_
  refine r_u (o_mv rfl) ?_
  refine r_u (o_bin rfl rfl (bW_quo a0 4294967296 (by decide))) ?_
  refine r_u (o_mv rfl) ?_
  refine r_u (o_bin rfl rfl (bW_rem a0 4294967296 (by decide))) ?_
  refine r_u (o_mv rfl) ?_
  refine r_u (o_bin rfl rfl (bW_quo a1 4294967296 (by decide))) ?_
  refine r_u (o_mv rfl) ?_
  refine r_u (o_bin rfl rfl (bW_rem a1 4294967296 (by decide))) ?_
  refine r_u (o_as rfl) ?_
  refine r_u (o_as rfl) ?_
  refine r_u (o_as rfl) ?_
  refine r_u (o_as rfl) ?_
  refine r_nil ?_
  refine x_seq ?_
  refine c_seq ?_
  refine c_reg ?_
  refine r_u (o_mv rfl) ?_
  refine r_u (o_mv rfl) ?_
  refine r_u (o_bin rfl rfl (bW_mul (a0 / 4294967296) (a1 % 4294967296))) ?_
  refine r_u (o_mv rfl) ?_
  refine r_u (o_mv rfl) ?_
  refine r_u (o_bin rfl rfl (bW_mul (a0 % 4294967296) (a1 % 4294967296))) ?_
  refine r_u (o_bin rfl rfl (bW_quo ((a0 % 4294967296) * (a1 % 4294967296)) 4294967296 (by decide))) ?_
  refine r_u (o_bin rfl rfl (bW_add ((a0 / 4294967296) * (a1 % 4294967296)) (((a0 % 4294967296) * (a1 % 4294967296)) / 4294967296))) ?_
  refine r_u (o_as rfl) ?_
  refine r_nil ?_
  refine x_seq ?_
  refine c_seq ?_
  refine c_reg ?_
  refine r_u (o_mv rfl) ?_
  refine r_u (o_mv rfl) ?_
  refine r_u (o_bin rfl rfl (bW_mul (a0 % 4294967296) (a1 / 4294967296))) ?_
  refine r_u (o_mv rfl) ?_
  refine r_u (o_bin rfl rfl (bW_rem (((a0 / 4294967296) * (a1 % 4294967296)) + (((a0 % 4294967296) * (a1 % 4294967296)) / 4294967296)) 4294967296 (by decide))) ?_
  refine r_u (o_bin rfl rfl (bW_add ((a0 % 4294967296) * (a1 / 4294967296)) ((((a0 / 4294967296) * (a1 % 4294967296)) + (((a0 % 4294967296) * (a1 % 4294967296)) / 4294967296)) % 4294967296))) ?_
  refine r_u (o_as rfl) ?_
  refine r_nil ?_
  refine x_seq ?_
  refine c_seq ?_
  refine c_reg ?_
  refine r_u (o_mv rfl) ?_
  refine r_u (o_mv rfl) ?_
  refine r_u (o_bin rfl rfl (bW_mul (a0 / 4294967296) (a1 / 4294967296))) ?_
  refine r_u (o_mv rfl) ?_
  refine r_u (o_bin rfl rfl (bW_quo (((a0 / 4294967296) * (a1 % 4294967296)) + (((a0 % 4294967296) * (a1 % 4294967296)) / 4294967296)) 4294967296 (by decide))) ?_
  refine r_u (o_bin rfl rfl (bW_add ((a0 / 4294967296) * (a1 / 4294967296)) ((((a0 / 4294967296) * (a1 % 4294967296)) + (((a0 % 4294967296) * (a1 % 4294967296)) / 4294967296)) / 4294967296))) ?_
  refine r_u (o_mv rfl) ?_
  refine r_u (o_bin rfl rfl (bW_quo (((a0 % 4294967296) * (a1 / 4294967296)) + ((((a0 / 4294967296) * (a1 % 4294967296)) + (((a0 % 4294967296) * (a1 % 4294967296)) / 4294967296)) % 4294967296)) 4294967296 (by decide))) ?_
  refine r_u (o_bin rfl rfl (bW_add (((a0 / 4294967296) * (a1 / 4294967296)) + ((((a0 / 4294967296) * (a1 % 4294967296)) + (((a0 % 4294967296) * (a1 % 4294967296)) / 4294967296)) / 4294967296)) ((((a0 % 4294967296) * (a1 / 4294967296)) + ((((a0 / 4294967296) * (a1 % 4294967296)) + (((a0 % 4294967296) * (a1 % 4294967296)) / 4294967296)) % 4294967296)) / 4294967296))) ?_
  refine r_u (o_as rfl) ?_
  refine r_nil ?_
  refine x_seq ?_
  refine c_ret ?_
  subst hm
  exact x_r1 rfl (rv_t rfl) (Le.refl _) ⟨_, rfl, rfl, rfl, rfl⟩

def hawthornref01_Place (a0 : UInt64) (a1 : Int) (a2 : Int) : Option Int :=
  if decide (a2 < 1) then some 0 else (hawthornref01_Mix (a0 + ((toW a1) * 11400714819323198485))).bind fun r2 => some (i64 ((hawthornref01_high r2 (toW a2)).toNat : Int))
theorem hawthornref01_Place.ok {G R F} (a0 : UInt64) (a1 : Int) (a2 : Int) (r : Int) (hm : hawthornref01_Place a0 a1 a2 = some r) : CO Tryz.prog 67 [vW a0, vI a1, vI a2] G R (F)
    (Ret fun u R' L' => u = vI r ∧ R' = R ∧ L' = F) := by
  unfold hawthornref01_Place at hm
  refine co_ofN (N := 19) Tryz.func67 rfl rfl ?_
  refine c_seq ?_
  refine c_reg ?_
  refine r_u (o_as rfl) ?_
  refine r_nil ?_
  refine x_seq ?_
  refine c_seq ?_
  refine c_seq ?_
  refine c_reg ?_
  refine r_u (o_mv rfl) ?_
  refine r_u (o_bin rfl rfl (bI_lt a2 1)) ?_
  refine r_nil ?_
  refine x_seq ?_
  refine c_if (b := decide (a2 < 1)) rfl (fun h0 => ?_) fun h0 => ?_
  · have hm1 := ift hm h0
    clear hm
    refine c_seq ?_
    refine c_reg ?_
    refine r_u (o_as rfl) ?_
    refine r_nil ?_
    refine x_seq ?_
    refine c_ret ?_
    obtain rfl := Option.some.inj hm1
    exact x_r1 rfl (rv_t rfl) (Le.refl _) ⟨_, rfl, rfl, rfl, rfl⟩
  · have hm1 := iff_ hm h0
    clear hm
    refine c_skip ?_
    refine x_seq ?_
    refine c_seq ?_
    refine c_reg ?_
    refine r_u (o_mv rfl) ?_
    refine r_u (o_mv rfl) ?_
    refine r_u (o_cv rfl (cIW Tryz.underlying3 Tryz.underlying22 a1)) ?_
    refine r_u (o_bin rfl rfl (bW_mul (toW a1) 11400714819323198485)) ?_
    refine r_u (o_bin rfl rfl (bW_add a0 ((toW a1) * 11400714819323198485))) ?_
    obtain ⟨r2, hr2, hm3⟩ := bs hm1
    clear hm1
    refine r_u (o_callq ca93 rfl (hawthornref01_Mix.ok (a0 + ((toW a1) * 11400714819323198485)) r2 hr2)) ?_
    refine r_u (o_mv rfl) ?_
    refine r_u (o_cv rfl (cIW Tryz.underlying3 Tryz.underlying22 a2)) ?_
    refine r_u (o_callq ca92 rfl (hawthornref01_high.ok r2 (toW a2) _ rfl)) ?_
    refine r_u (o_cv rfl (cWI Tryz.underlying22 Tryz.underlying3 (hawthornref01_high r2 (toW a2)))) ?_
    refine r_u (o_as rfl) ?_
    refine r_nil ?_
    refine x_seq ?_
    refine c_ret ?_
    obtain rfl := Option.some.inj hm3
    exact x_r1 rfl (rv_t rfl) (Le.refl _) ⟨_, rfl, rfl, rfl, rfl⟩

def hawthornref05_Sketch_place (a0 : hawthornref05_Sketch) (a1 : Str) (a2 : Int) : Option Int :=
  (hawthornref01_Of a0.Seed a1).bind fun r1 => (hawthornref01_Place r1 a2 a0.Wide).bind fun r3 => some r3
theorem hawthornref05_Sketch_place.ok {G R F} (a0 : hawthornref05_Sketch) (g0_ : hawthornref05_Sketch.G) (h0 : hawthornref05_Sketch.ro R a0 g0_) (a1 : Str) (a2 : Int) (r : Int) (hm : hawthornref05_Sketch_place a0 a1 a2 = some r) : CO Tryz.prog 41 [.agg [vI a0.Wide, vW a0.Seed, g0_.Rows.1, g0_.Door, vI a0.Added].toArray, vS a1, vI a2] G R (F)
    (Ret fun u R' L' => u = vI r ∧ R' = R ∧ L' = F) := by
  unfold hawthornref05_Sketch_place at hm
  refine co_ofN (N := 15) Tryz.func41 rfl rfl ?_
  refine c_seq ?_
  refine c_reg ?_
  refine r_new (o_bx [vI a0.Wide, vW a0.Seed, g0_.Rows.1, g0_.Door, vI a0.Added] rfl rfl) fun b0 => ?_
  refine r_u (o_as rfl) ?_
  refine r_nil ?_
  refine x_seq ?_
  refine c_seq ?_
  obtain ⟨r1, hr1, hm2⟩ := bs hm
  clear hm
  obtain ⟨r3, hr3, hm4⟩ := bs hm2
  clear hm2
  refine c_any mixed (effs := []) (V := []) ?_
  refine stage_ext [(0, pt b0 1), (1, vW a0.Seed), (2, vS a1), (3, vW r1), (4, vI a2), (5, pt b0 0), (6, vI a0.Wide), (7, vI r3), (8, vI r3)] rfl ?_
  refine stage rfl rfl rfl rfl [0, 1, 0, 7, 0, 0, 32, 127, 255] [0, 1, 2, 3, 4, 5, 6, 7, 8] [] rfl rfl rfl (qc rfl rfl (s_u (o_fa fa31_1 rfl)) (qc rfl rfl (s_u (o_ld 0 sc22 rfl rfl rfl)) (qc rfl rfl (s_u (o_mv rfl)) (qc rfl rfl (s_u (o_callq ca68 rfl (hawthornref01_Of.ok a0.Seed a1 r1 hr1))) (qc rfl rfl (s_u (o_mv rfl)) (qc rfl rfl (s_u (o_fa fa31_0 rfl)) (qc rfl rfl (s_u (o_ld 0 sc3 rfl rfl rfl)) (qc rfl rfl (s_u (o_callq ca67 rfl (hawthornref01_Place.ok r1 a2 a0.Wide r3 hr3))) (qc rfl rfl (s_u (o_as rfl)) qn))))))))) en ?_
  intro _
  refine ex_sub (E' := [(6, vI r3)]) ⟨rfl, trivial⟩ ?_
  refine x_seq ?_
  refine c_ret ?_
  obtain rfl := Option.some.inj hm4
  refine ex_st (fun _ h => st_pk 1 [] (by decide) h) ?_
  exact x_r1 rfl (rv_t rfl) (Le.refl _) ⟨_, rfl, rfl, rfl, rfl⟩

def hawthornref05_Sketch_least_l0 (a0 : hawthornref05_Sketch) (a1 : Str) : Nat → Int → Int → Option (Int)
  | 0, _, _ => none
  | k7 + 1, n_5, i_6 => if decide (i_6 < 4) then (gi a0.Rows i_6).bind fun x12 => (hawthornref05_Sketch_place a0 a1 i_6).bind fun r15 => (gi x12 r15).bind fun x17 => Option.bind (if decide (x17 < n_5) then some x17 else some n_5) fun p19 => hawthornref05_Sketch_least_l0 a0 a1 k7 p19 (i64 (i_6 + 1)) else some n_5
def hawthornref05_Sketch_least (a0 : hawthornref05_Sketch) (a1 : Str) : Option Int :=
  Option.bind (hawthornref05_Sketch_least_l0 a0 a1 5 15 0) fun p1 => some p1
theorem hawthornref05_Sketch_least.ok {G R F} (a0 : hawthornref05_Sketch) (g0_ : hawthornref05_Sketch.G) (h0 : hawthornref05_Sketch.ro R a0 g0_) (a1 : Str) (r : Int) (hm : hawthornref05_Sketch_least a0 a1 = some r) : CO Tryz.prog 40 [.agg [vI a0.Wide, vW a0.Seed, g0_.Rows.1, g0_.Door, vI a0.Added].toArray, vS a1] G R (F)
    (Ret fun u R' L' => u = vI r ∧ R' = R ∧ L' = F) := by
  unfold hawthornref05_Sketch_least at hm
  refine co_ofN (N := 28) Tryz.func40 rfl rfl ?_
  refine c_seq ?_
  refine c_reg ?_
  refine r_new (o_bx [vI a0.Wide, vW a0.Seed, g0_.Rows.1, g0_.Door, vI a0.Added] rfl rfl) fun b0 => ?_
  refine r_u (o_as rfl) ?_
  refine r_nil ?_
  refine x_seq ?_
  refine c_seq ?_
  refine c_reg ?_
  refine r_u (o_as rfl) ?_
  refine r_nil ?_
  refine x_seq ?_
  refine c_seq ?_
  refine c_seq ?_
  refine c_reg ?_
  refine r_u (o_as rfl) ?_
  refine r_nil ?_
  refine x_seq ?_
  obtain ⟨p1, hp2, hm3⟩ := bs hm
  refine cd_join (E' := [(5, vI p1)]) (L' := Bk b0 31 [vI a0.Wide, vW a0.Seed, g0_.Rows.1, g0_.Door, vI a0.Added] :: F) ?_ fun K4 => ?_
  · refine x_seq ?_
    refine c_seq ?_
    refine c_reg ?_
    refine r_u (o_mv rfl) ?_
    refine r_u (o_as rfl) ?_
    refine r_nil ?_
    refine x_seq ?_
    refine c_ret ?_
    obtain rfl := Option.some.inj hm3
    refine ex_st (fun _ h => st_pk 1 [] (by decide) h) ?_
    exact x_r1 rfl (rv_t rfl) (Le.refl _) ⟨_, rfl, rfl, rfl, rfl⟩
  · refine c_blk ?_
    refine cd_loop (M := fun k7 (s : Int × Int) => hawthornref05_Sketch_least_l0 a0 a1 k7 s.1 s.2 = some p1) (Ef := fun (s : Int × Int) => [(1, vS a1), (2, pt b0 0), (5, vI s.1), (6, vI s.2)]) (Lf := fun (s : Int × Int) => Bk b0 31 [vI a0.Wide, vW a0.Seed, g0_.Rows.1, g0_.Door, vI a0.Added] :: F) 5 (15, 0) hp2 ⟨rfl, rfl, rfl, rfl, trivial⟩ (fun _ h => h) (fun _ h => by cases h) fun k7 s hM9 => ?_
    obtain ⟨n_5, i_6⟩ := s
    have hm8 : hawthornref05_Sketch_least_l0 a0 a1 (k7 + 1) n_5 i_6 = some p1 := hM9
    rw [hawthornref05_Sketch_least_l0] at hm8
    refine c_seq ?_
    refine c_seq ?_
    refine c_reg ?_
    refine r_u (o_mv rfl) ?_
    refine r_u (o_bin rfl rfl (bI_lt i_6 4)) ?_
    refine r_nil ?_
    refine x_seq ?_
    refine c_if (b := decide (i_6 < 4)) rfl (fun h10 => ?_) fun h10 => ?_
    · have hm11 := ift hm8 h10
      clear hm8
      refine c_skip ?_
      refine x_seq ?_
      refine c_seq ?_
      refine c_blk ?_
      refine c_seq ?_
      obtain ⟨x12, hx12, hm14⟩ := bs hm11
      clear hm11
      obtain ⟨b12, o12, l12, T12, fr12, c12, u13, hv12, hR12, he12, hi12, hN12⟩ := RoN.ne h0.1 hx12
      obtain ⟨r15, hr15, hm16⟩ := bs hm14
      clear hm14
      obtain ⟨x17, hx17, hm18⟩ := bs hm16
      clear hm16
      obtain ⟨b17, o17, l17, T17, fr17, c17, hv17, hR17, he17, hi17⟩ := RoS.ne hN12 hx17
      refine c_any mixed (effs := []) (V := []) ?_
      refine stage_ext [(0, pt b0 2), (1, g0_.Rows.1), (2, vI i_6), (3, pt b12 (o12 + i_6.toNat * 1)), (4, u13), (5, .agg [vI a0.Wide, vW a0.Seed, g0_.Rows.1, g0_.Door, vI a0.Added].toArray), (6, vS a1), (7, vI i_6), (8, vI r15), (9, pt b17 (o17 + r15.toNat * 1)), (10, vI x17), (11, vI x17)] rfl ?_
      refine stage rfl rfl rfl rfl [0, 1, 0, 7, 15, 0, 0, 0, 224, 511, 1023, 2047] [0, 1, 2, 3, 4, 5, 6, 7, 8, 9, 10, 11] [] rfl rfl rfl (qc rfl rfl (s_u (o_fa fa31_2 rfl)) (qc rfl rfl (s_u (o_ld 0 sc28 rfl rfl rfl)) (qc rfl rfl (s_u (o_mv rfl)) (qc rfl rfl (s_u (o_ix (sz := 1) Tryz.underlying28 (fun _ => by kernel_rfl) rfl rfl hv12 hi12)) (qc rfl rfl (s_u (o_ldR sc86 rfl hR12 (rok 0 he12 (by decide)))) (qc rfl rfl (s_u (o_ldn 0 [vI a0.Wide, vW a0.Seed, g0_.Rows.1, g0_.Door, vI a0.Added] ag31 rfl rfl rfl rfl)) (qc rfl rfl (s_u (o_mv rfl)) (qc rfl rfl (s_u (o_mv rfl)) (qc rfl rfl (s_u (o_callq ca41 rfl (hawthornref05_Sketch_place.ok a0 (⟨(g0_.Rows.1, []), g0_.Door⟩ : hawthornref05_Sketch.G) ⟨h0.1, h0.2⟩ a1 i_6 r15 hr15))) (qc rfl rfl (s_u (o_ix (sz := 1) Tryz.underlying86 (fun _ => by kernel_rfl) rfl rfl hv17 hi17)) (qc rfl rfl (s_u (o_ldR sc3 rfl hR17 (rok 0 he17 (by decide)))) (qc rfl rfl (s_u (o_as rfl)) qn)))))))))))) en ?_
      intro _
      refine ex_sub (E' := [(1, vS a1), (2, pt b0 0), (5, vI n_5), (6, vI i_6), (7, vI x17)]) ⟨rfl, rfl, rfl, rfl, rfl, trivial⟩ ?_
      refine x_seq ?_
      refine c_seq ?_
      refine c_reg ?_
      refine r_u (o_mv rfl) ?_
      refine r_u (o_mv rfl) ?_
      refine r_u (o_bin rfl rfl (bI_lt x17 n_5)) ?_
      refine r_nil ?_
      refine x_seq ?_
      obtain ⟨p19, hp20, hm21⟩ := bs hm18
      refine cd_join (E' := [(1, vS a1), (2, pt b0 0), (6, vI i_6), (5, vI p19)]) (L' := Bk b0 31 [vI a0.Wide, vW a0.Seed, g0_.Rows.1, g0_.Door, vI a0.Added] :: F) ?_ fun K22 => ?_
      · refine x_blk ?_
        refine x_seq ?_
        refine c_reg ?_
        refine r_u (o_mv rfl) ?_
        refine r_u (o_bin rfl rfl (bI_add i_6 1)) ?_
        refine r_u (o_as rfl) ?_
        refine r_nil ?_
        exact x_lp (p19, i64 (i_6 + 1)) hm21 ⟨rfl, rfl, rfl, rfl, trivial⟩ (fun _ h => st_pk 1 [0] (by decide) h)
      · refine c_if (b := decide (x17 < n_5)) rfl (fun h23 => ?_) fun h23 => ?_
        · have hm24 := ift hp20 h23
          clear hp20
          refine c_reg ?_
          refine r_u (o_mv rfl) ?_
          refine r_u (o_as rfl) ?_
          refine r_nil ?_
          obtain rfl := Option.some.inj hm24
          exact x_sub K22 ⟨rfl, rfl, rfl, rfl, trivial⟩ (fun _ h => st_pk 1 [0] (by decide) h)
        · have hm24 := iff_ hp20 h23
          clear hp20
          refine c_skip ?_
          obtain rfl := Option.some.inj hm24
          exact x_sub K22 ⟨rfl, rfl, rfl, rfl, trivial⟩ (fun _ h => st_pk 1 [0] (by decide) h)
    · have hm11 := iff_ hm8 h10
      clear hm8
      refine c_exit (x_exit (ks' := _) rfl ?_)
      obtain rfl := Option.some.inj hm11
      exact x_sub K4 ⟨rfl, trivial⟩ (fun _ h => st_pk 1 [0] (by decide) h)

def hawthornref05_Sketch_Age_l1 (a0 : hawthornref05_Sketch) (i_12 : Int) : Nat → Int → (List (List Int)) → Option (List (List Int))
  | 0, _, _ => none
  | k29 + 1, k_27, c_28 => if decide (k_27 < a0.Wide) then (gi c_28 i_12).bind fun y34 => (gi a0.Rows i_12).bind fun x37 => (gi x37 k_27).bind fun x40 => (gi y34 k_27).bind fun x42 => hawthornref05_Sketch_Age_l1 a0 i_12 k29 (i64 (k_27 + 1)) (ls c_28 i_12 (ls y34 k_27 (i64 (x40.tdiv 2)))) else some c_28
def hawthornref05_Sketch_Age_l0 (a0 : hawthornref05_Sketch) : Nat → Int → (List (List Int)) → Option (List (List Int))
  | 0, _, _ => none
  | k14 + 1, i_12, c_13 => if decide (i_12 < 4) then Option.bind (Option.bind (hawthornref05_Sketch_Age_l1 a0 i_12 ((a0.Wide - 0).toNat + 1) 0 c_13) fun p23 => some p23) fun p19 => hawthornref05_Sketch_Age_l0 a0 k14 (i64 (i_12 + 1)) p19 else some c_13
def hawthornref05_Sketch_Age (a0 : hawthornref05_Sketch) : Option hawthornref05_Sketch :=
  (hawthornref05_New a0.Wide a0.Seed).bind fun r2 => Option.bind (hawthornref05_Sketch_Age_l0 a0 5 0 r2.Rows) fun p8 => some (⟨r2.Wide, r2.Seed, p8, r2.Door, i64 (a0.Added.tdiv 2)⟩ : hawthornref05_Sketch)
theorem hawthornref05_Sketch_Age.ok {G R F} (a0 : hawthornref05_Sketch) (g0_ : hawthornref05_Sketch.G) (h0 : hawthornref05_Sketch.ro R a0 g0_) (r : hawthornref05_Sketch) (hm : hawthornref05_Sketch_Age a0 = some r) : CO Tryz.prog 79 [.agg [vI a0.Wide, vW a0.Seed, g0_.Rows.1, g0_.Door, vI a0.Added].toArray] G R (F)
    (Ret fun u R' L' => ∃ (p0 : hawthornref05_Sketch.G), u = .agg [vI r.Wide, vW r.Seed, p0.Rows.1, p0.Door, vI r.Added].toArray ∧ R' = R ∧ L' = OwS true 86 1 eV p0.Rows.1 p0.Rows.2 :: OwL (OwS true 3 1 eI) p0.Rows.2 r.Rows :: OwS true 4 1 eB p0.Door r.Door :: F) := by
  unfold hawthornref05_Sketch_Age at hm
  refine co_ofN (N := 42) Tryz.func79 rfl rfl ?_
  refine c_seq ?_
  refine c_reg ?_
  refine r_new (o_bx [vI a0.Wide, vW a0.Seed, g0_.Rows.1, g0_.Door, vI a0.Added] rfl rfl) fun b0 => ?_
  refine r_new (o_al ze31) fun b1 => ?_
  refine r_nil ?_
  refine x_seq ?_
  refine c_seq ?_
  refine c_reg ?_
  refine r_u (o_fa fa31_0 rfl) ?_
  refine r_u (o_ld 1 sc3 rfl rfl rfl) ?_
  refine r_u (o_fa fa31_1 rfl) ?_
  refine r_u (o_ld 1 sc22 rfl rfl rfl) ?_
  obtain ⟨r2, hr2, hm6⟩ := bs hm
  clear hm
  refine r_sw (s_w (o_call ca19 rfl (hawthornref05_New.ok a0.Wide a0.Seed r2 hr2))) ?_
  rintro _ R _ _ ⟨v3, rfl, rfl, rfl⟩
  refine r_new (o_al ze31) fun b7 => ?_
  refine rl_st (fun _ h => mv2 (mv2 (mv3 h))) ?_
  refine r_u0 (ou_if (one_o 1 rfl) fun ho0 => ou_if (one_o 2 rfl) fun ho1 => o_stn ag31 rfl rfl rfl (al_c rfl (al_c rfl (al_c ho0 (al_c ho1 (al_c rfl al_n))))) rfl rfl rfl) ?_
  refine r_nil ?_
  refine x_seq ?_
  refine c_seq ?_
  refine c_seq ?_
  refine c_reg ?_
  refine r_u (o_as rfl) ?_
  refine r_nil ?_
  refine x_seq ?_
  obtain ⟨p8, hp9, hm10⟩ := bs hm6
  refine cd_join (E' := [(1, pt b0 0), (2, pt b1 0), (3, pt b7 0)]) (L' := Bk b7 31 [vI r2.Wide, vW r2.Seed, v3.Rows.1, v3.Door, vI r2.Added] :: Bk b1 31 [vI 0, vW 0, .slice none 0 0, .slice none 0 0, vI 0] :: Bk b0 31 [vI a0.Wide, vW a0.Seed, g0_.Rows.1, g0_.Door, vI a0.Added] :: OwS true 86 1 eV v3.Rows.1 v3.Rows.2 :: OwS true 4 1 eB v3.Door r2.Door :: OwL (OwS true 3 1 eI) v3.Rows.2 p8 :: F) ?_ fun K11 => ?_
  · refine x_seq ?_
    refine c_seq ?_
    refine c_reg ?_
    refine r_u (o_fa fa31_4 rfl) ?_
    refine r_u (o_ld 2 sc3 rfl rfl rfl) ?_
    refine r_u (o_bin rfl rfl (bI_quo a0.Added 2 (by decide))) ?_
    refine r_u (o_fa fa31_4 rfl) ?_
    refine r_u0 (o_st sc3 rfl rfl rfl rfl rfl rfl) ?_
    refine r_nil ?_
    refine x_seq ?_
    refine c_seq ?_
    refine c_reg ?_
    refine r_u (o_ldn 0 [vI r2.Wide, vW r2.Seed, v3.Rows.1, v3.Door, vI (i64 (a0.Added.tdiv 2))] ag31 rfl rfl rfl rfl) ?_
    refine rl_st (fun _ h => mv3 (mv4 (mv4 h))) ?_
    refine r_u0 (ou_if (one_o 1 rfl) fun ho0 => ou_if (one_o 2 rfl) fun ho1 => o_stn ag31 rfl rfl rfl (al_c rfl (al_c rfl (al_c ho0 (al_c ho1 (al_c rfl al_n))))) rfl rfl rfl) ?_
    refine r_nil ?_
    refine x_seq ?_
    refine c_ret ?_
    obtain rfl := Option.some.inj hm10
    exact x_d1 rfl (rv_n 0 [vI r2.Wide, vW r2.Seed, v3.Rows.1, v3.Door, vI (i64 (a0.Added.tdiv 2))] ag31 rfl rfl rfl rfl) (fun _ h => st_pk 6 [1, 5, 2] (by decide) h) (Le.refl _) ⟨_, rfl, v3, rfl, rfl, rfl⟩
  · refine c_blk ?_
    refine cd_loop (M := fun k14 (s : Int × List (List Int)) => hawthornref05_Sketch_Age_l0 a0 k14 s.1 s.2 = some p8) (Ef := fun (s : Int × List (List Int)) => [(1, pt b0 0), (2, pt b1 0), (3, pt b7 0), (4, vI s.1)]) (Lf := fun (s : Int × List (List Int)) => Bk b7 31 [vI r2.Wide, vW r2.Seed, v3.Rows.1, v3.Door, vI r2.Added] :: Bk b1 31 [vI 0, vW 0, .slice none 0 0, .slice none 0 0, vI 0] :: Bk b0 31 [vI a0.Wide, vW a0.Seed, g0_.Rows.1, g0_.Door, vI a0.Added] :: OwS true 86 1 eV v3.Rows.1 v3.Rows.2 :: OwS true 4 1 eB v3.Door r2.Door :: OwL (OwS true 3 1 eI) v3.Rows.2 s.2 :: F) 5 (0, r2.Rows) hp9 ⟨rfl, rfl, rfl, rfl, trivial⟩ (fun _ h => st_pk 6 [0, 4, 5, 1, 2, 3] (by decide) h) (fun _ h => by cases h) fun k14 s hM16 => ?_
    obtain ⟨i_12, c_13⟩ := s
    have hm15 : hawthornref05_Sketch_Age_l0 a0 (k14 + 1) i_12 c_13 = some p8 := hM16
    rw [hawthornref05_Sketch_Age_l0] at hm15
    refine c_seq ?_
    refine c_seq ?_
    refine c_reg ?_
    refine r_u (o_mv rfl) ?_
    refine r_u (o_bin rfl rfl (bI_lt i_12 4)) ?_
    refine r_nil ?_
    refine x_seq ?_
    refine c_if (b := decide (i_12 < 4)) rfl (fun h17 => ?_) fun h17 => ?_
    · have hm18 := ift hm15 h17
      clear hm15
      refine c_skip ?_
      refine x_seq ?_
      refine c_seq ?_
      obtain ⟨p19, hp20, hm21⟩ := bs hm18
      refine cd_join (E' := [(1, pt b0 0), (2, pt b1 0), (3, pt b7 0), (4, vI i_12)]) (L' := Bk b7 31 [vI r2.Wide, vW r2.Seed, v3.Rows.1, v3.Door, vI r2.Added] :: Bk b1 31 [vI 0, vW 0, .slice none 0 0, .slice none 0 0, vI 0] :: Bk b0 31 [vI a0.Wide, vW a0.Seed, g0_.Rows.1, g0_.Door, vI a0.Added] :: OwS true 86 1 eV v3.Rows.1 v3.Rows.2 :: OwS true 4 1 eB v3.Door r2.Door :: OwL (OwS true 3 1 eI) v3.Rows.2 p19 :: F) ?_ fun K22 => ?_
      · refine x_seq ?_
        refine c_reg ?_
        refine r_u (o_mv rfl) ?_
        refine r_u (o_bin rfl rfl (bI_add i_12 1)) ?_
        refine r_u (o_as rfl) ?_
        refine r_nil ?_
        exact x_lp (i64 (i_12 + 1), p19) hm21 ⟨rfl, rfl, rfl, rfl, trivial⟩ (fun _ h => st_pk 6 [0, 1, 2, 3, 4, 5] (by decide) h)
      · refine c_blk ?_
        refine c_seq ?_
        refine c_reg ?_
        refine r_u (o_as rfl) ?_
        refine r_nil ?_
        refine x_seq ?_
        obtain ⟨p23, hp24, hm25⟩ := bs hp20
        refine cd_join (E' := [(1, pt b0 0), (2, pt b1 0), (3, pt b7 0), (4, vI i_12)]) (L' := Bk b7 31 [vI r2.Wide, vW r2.Seed, v3.Rows.1, v3.Door, vI r2.Added] :: Bk b1 31 [vI 0, vW 0, .slice none 0 0, .slice none 0 0, vI 0] :: Bk b0 31 [vI a0.Wide, vW a0.Seed, g0_.Rows.1, g0_.Door, vI a0.Added] :: OwS true 86 1 eV v3.Rows.1 v3.Rows.2 :: OwS true 4 1 eB v3.Door r2.Door :: OwL (OwS true 3 1 eI) v3.Rows.2 p23 :: F) ?_ fun K26 => ?_
        · refine x_blk ?_
          obtain rfl := Option.some.inj hm25
          exact x_sub K22 ⟨rfl, rfl, rfl, rfl, trivial⟩ (fun _ h => st_pk 6 [0, 1, 2, 3, 4, 5] (by decide) h)
        · refine c_blk ?_
          refine cd_loop (M := fun k29 (s : Int × List (List Int)) => hawthornref05_Sketch_Age_l1 a0 i_12 k29 s.1 s.2 = some p23) (Ef := fun (s : Int × List (List Int)) => [(1, pt b0 0), (2, pt b1 0), (3, pt b7 0), (4, vI i_12), (5, vI s.1)]) (Lf := fun (s : Int × List (List Int)) => Bk b7 31 [vI r2.Wide, vW r2.Seed, v3.Rows.1, v3.Door, vI r2.Added] :: Bk b1 31 [vI 0, vW 0, .slice none 0 0, .slice none 0 0, vI 0] :: Bk b0 31 [vI a0.Wide, vW a0.Seed, g0_.Rows.1, g0_.Door, vI a0.Added] :: OwS true 86 1 eV v3.Rows.1 v3.Rows.2 :: OwS true 4 1 eB v3.Door r2.Door :: OwL (OwS true 3 1 eI) v3.Rows.2 s.2 :: F) ((a0.Wide - 0).toNat + 1) (0, c_13) hp24 ⟨rfl, rfl, rfl, rfl, rfl, trivial⟩ (fun _ h => h) (fun _ h => by cases h) fun k29 s hM31 => ?_
          obtain ⟨k_27, c_28⟩ := s
          have hm30 : hawthornref05_Sketch_Age_l1 a0 i_12 (k29 + 1) k_27 c_28 = some p23 := hM31
          rw [hawthornref05_Sketch_Age_l1] at hm30
          refine c_seq ?_
          refine c_seq ?_
          refine c_reg ?_
          refine r_u (o_mv rfl) ?_
          refine r_u (o_fa fa31_0 rfl) ?_
          refine r_u (o_ld 2 sc3 rfl rfl rfl) ?_
          refine r_u (o_bin rfl rfl (bI_lt k_27 a0.Wide)) ?_
          refine r_nil ?_
          refine x_seq ?_
          refine c_if (b := decide (k_27 < a0.Wide)) rfl (fun h32 => ?_) fun h32 => ?_
          · have hm33 := ift hm30 h32
            clear hm30
            refine c_skip ?_
            refine x_seq ?_
            refine c_seq ?_
            refine c_blk ?_
            obtain ⟨y34, hy34, hm36⟩ := bs hm33
            clear hm33
            refine cd_ex (fun w h => st_peek 5 hy34 rfl w h) fun u35 hu35 => ?_
            obtain ⟨x37, hx37, hm39⟩ := bs hm36
            clear hm36
            obtain ⟨b37, o37, l37, T37, fr37, c37, u38, hv37, hR37, he37, hi37, hN37⟩ := RoN.ne h0.1 hx37
            obtain ⟨x40, hx40, hm41⟩ := bs hm39
            clear hm39
            obtain ⟨b40, o40, l40, T40, fr40, c40, hv40, hR40, he40, hi40⟩ := RoS.ne hN37 hx40
            obtain ⟨x42, hx42, hm43⟩ := bs hm41
            clear hm41
            refine c_any mixed (effs := [16]) (V := []) ?_
            refine stage_st (fun _ h => mv5 h) ?_
            refine stage_ext [(0, pt b7 2), (1, v3.Rows.1), (2, vI i_12), (3, pt (sb v3.Rows.1) (so v3.Rows.1 + i_12.toNat * 1)), (4, u35), (5, vI k_27), (6, pt b0 2), (7, g0_.Rows.1), (8, vI i_12), (9, pt b37 (o37 + i_12.toNat * 1)), (10, u38), (11, vI k_27), (12, pt b40 (o40 + k_27.toNat * 1)), (13, vI x40), (14, vI (i64 (x40.tdiv 2))), (15, pt (sb u35) (so u35 + k_27.toNat * 1))] rfl ?_
            refine stage rfl rfl rfl rfl [0, 1, 0, 7, 15, 0, 0, 64, 0, 448, 960, 0, 4032, 8128, 16320, 32767, 65535] [0, 1, 2, 3, 4, 5, 6, 7, 8, 9, 10, 11, 12, 13, 14, 15] [16] rfl rfl rfl (qc rfl rfl (s_u (o_fa fa31_2 rfl)) (qc rfl rfl (s_u (o_ld 1 sc28 rfl rfl rfl)) (qc rfl rfl (s_u (o_mv rfl)) (qc rfl rfl (s_u (o_ixO 4 Tryz.underlying28 (fun _ => by kernel_rfl) rfl rfl rfl hu35)) (qc rfl rfl (s_u (o_ldO0 4 sc86 rfl rfl hu35 rfl rfl)) (qc rfl rfl (s_u (o_mv rfl)) (qc rfl rfl (s_u (o_fa fa31_2 rfl)) (qc rfl rfl (s_u (o_ld 3 sc28 rfl rfl rfl)) (qc rfl rfl (s_u (o_mv rfl)) (qc rfl rfl (s_u (o_ix (sz := 1) Tryz.underlying28 (fun _ => by kernel_rfl) rfl rfl hv37 hi37)) (qc rfl rfl (s_u (o_ldR sc86 rfl hR37 (rok 0 he37 (by decide)))) (qc rfl rfl (s_u (o_mv rfl)) (qc rfl rfl (s_u (o_ix (sz := 1) Tryz.underlying86 (fun _ => by kernel_rfl) rfl rfl hv40 hi40)) (qc rfl rfl (s_u (o_ldR sc3 rfl hR40 (rok 0 he40 (by decide)))) (qc rfl rfl (s_u (o_bin rfl rfl (bI_quo x40 2 (by decide)))) (qc rfl rfl (s_u (o_ixK (kn_in 0 rfl hu35 hy34) Tryz.underlying86 (fun _ => by kernel_rfl) rfl rfl hx42)) qn)))))))))))))))) ?_ (fun h => absurd h (by decide))
            refine ec (eo_u rfl (s_u (o_stL (c' := i64 (x40.tdiv 2)) 0 hu35 hy34 sc3 rfl rfl rfl hx42 rfl rfl rfl)) (Le.refl _) ?_) en
            refine stage rfl rfl rfl rfl [0, 1, 0, 7, 15, 0, 0, 64, 0, 448, 960, 0, 4032, 8128, 16320, 32767, 65535] [] [] rfl rfl rfl qn en ?_
            intro _
            refine ex_sub (E' := [(1, pt b0 0), (2, pt b1 0), (3, pt b7 0), (4, vI i_12), (5, vI k_27)]) ⟨rfl, rfl, rfl, rfl, rfl, trivial⟩ ?_
            refine x_blk ?_
            refine x_seq ?_
            refine c_reg ?_
            refine r_u (o_mv rfl) ?_
            refine r_u (o_bin rfl rfl (bI_add k_27 1)) ?_
            refine r_u (o_as rfl) ?_
            refine r_nil ?_
            exact x_lp (i64 (k_27 + 1), ls c_28 i_12 (ls y34 k_27 (i64 (x40.tdiv 2)))) hm43 ⟨rfl, rfl, rfl, rfl, rfl, trivial⟩ (fun _ h => st_pk 6 [1, 2, 3, 4, 5, 0] (by decide) h)
          · have hm33 := iff_ hm30 h32
            clear hm30
            refine c_exit (x_exit (ks' := _) rfl ?_)
            obtain rfl := Option.some.inj hm33
            exact x_sub K26 ⟨rfl, rfl, rfl, rfl, trivial⟩ (fun _ h => st_pk 6 [0, 1, 2, 3, 4, 5] (by decide) h)
    · have hm18 := iff_ hm15 h17
      clear hm15
      refine c_exit (x_exit (ks' := _) rfl ?_)
      obtain rfl := Option.some.inj hm18
      exact x_sub K11 ⟨rfl, rfl, rfl, trivial⟩ (fun _ h => st_pk 6 [0, 1, 2, 3, 4, 5] (by decide) h)

def hawthornref05_Sketch_Add_l0 (a0 : hawthornref05_Sketch) (a1 : Str) (r41 : Int) : Nat → Int → (List (List Int)) → Option (List (List Int))
  | 0, _, _ => none
  | k49 + 1, i_47, c_48 => if decide (i_47 < 4) then (hawthornref05_Sketch_place a0 a1 i_47).bind fun r54 => (gi a0.Rows i_47).bind fun x56 => (gi x56 r54).bind fun x59 => Option.bind (if ((x59 == r41) && decide (r41 < 15)) then (gi c_48 i_47).bind fun y67 => (gi y67 r54).bind fun x70 => some (ls c_48 i_47 (ls y67 r54 (i64 (x70 + 1)))) else some c_48) fun p61 => hawthornref05_Sketch_Add_l0 a0 a1 r41 k49 (i64 (i_47 + 1)) p61 else some c_48
def hawthornref05_Sketch_Add_l1 (a0 : hawthornref05_Sketch) : Nat → Int → (List (List Int)) → Option (List (List Int))
  | 0, _, _ => none
  | k74 + 1, i_72, c_73 => if decide (i_72 < 4) then (gi c_73 i_72).bind fun y79 => (gi a0.Rows i_72).bind fun x82 => (cpy y79 x82).bind fun l85 => hawthornref05_Sketch_Add_l1 a0 k74 (i64 (i_72 + 1)) (ls c_73 i_72 l85) else some c_73
def hawthornref05_Sketch_Add (a0 : hawthornref05_Sketch) (a1 : Str) : Option hawthornref05_Sketch :=
  (hawthornref05_New a0.Wide a0.Seed).bind fun r2 => (cpy r2.Door a0.Door).bind fun l8 => Option.bind (hawthornref05_Sketch_Add_l1 a0 5 0 r2.Rows) fun p10 => (hawthornref05_Sketch_place a0 a1 4).bind fun r14 => (gi a0.Door r14).bind fun x16 => Option.bind (if !x16 then (gi l8 r14).bind fun x39 => some (ls l8 r14 true, p10) else (hawthornref05_Sketch_least a0 a1).bind fun r41 => Option.bind (hawthornref05_Sketch_Add_l0 a0 a1 r41 5 0 p10) fun p43 => some (l8, p43)) fun p18 => if decide ((i64 (10 * a0.Wide)) ≤ (i64 (a0.Added + 1))) then (hawthornref05_Sketch_Age (⟨r2.Wide, r2.Seed, p18.2, p18.1, i64 (a0.Added + 1)⟩ : hawthornref05_Sketch)).bind fun r32 => some r32 else some (⟨r2.Wide, r2.Seed, p18.2, p18.1, i64 (a0.Added + 1)⟩ : hawthornref05_Sketch)
theorem hawthornref05_Sketch_Add.ok {G R F} (a0 : hawthornref05_Sketch) (g0_ : hawthornref05_Sketch.G) (h0 : hawthornref05_Sketch.ro R a0 g0_) (a1 : Str) (r : hawthornref05_Sketch) (hm : hawthornref05_Sketch_Add a0 a1 = some r) : CO Tryz.prog 55 [.agg [vI a0.Wide, vW a0.Seed, g0_.Rows.1, g0_.Door, vI a0.Added].toArray, vS a1] G R (F)
    (Ret fun u R' L' => ∃ (p0 : hawthornref05_Sketch.G), u = .agg [vI r.Wide, vW r.Seed, p0.Rows.1, p0.Door, vI r.Added].toArray ∧ True ∧ L' = OwS true 86 1 eV p0.Rows.1 p0.Rows.2 :: OwL (OwS true 3 1 eI) p0.Rows.2 r.Rows :: OwS true 4 1 eB p0.Door r.Door :: F) := by
  unfold hawthornref05_Sketch_Add at hm
  refine co_ofN (N := 97) Tryz.func55 rfl rfl ?_
  refine c_seq ?_
  refine c_reg ?_
  refine r_new (o_bx [vI a0.Wide, vW a0.Seed, g0_.Rows.1, g0_.Door, vI a0.Added] rfl rfl) fun b0 => ?_
  refine r_new (o_al ze31) fun b1 => ?_
  refine r_nil ?_
  refine x_seq ?_
  refine c_seq ?_
  refine c_reg ?_
  refine r_u (o_fa fa31_0 rfl) ?_
  refine r_u (o_ld 1 sc3 rfl rfl rfl) ?_
  refine r_u (o_fa fa31_1 rfl) ?_
  refine r_u (o_ld 1 sc22 rfl rfl rfl) ?_
  obtain ⟨r2, hr2, hm6⟩ := bs hm
  clear hm
  refine r_sw (s_w (o_call ca19 rfl (hawthornref05_New.ok a0.Wide a0.Seed r2 hr2))) ?_
  rintro _ R _ _ ⟨v3, rfl, rfl, rfl⟩
  refine r_new (o_al ze31) fun b7 => ?_
  refine rl_st (fun _ h => mv2 (mv2 (mv3 h))) ?_
  refine r_u0 (ou_if (one_o 1 rfl) fun ho0 => ou_if (one_o 2 rfl) fun ho1 => o_stn ag31 rfl rfl rfl (al_c rfl (al_c rfl (al_c ho0 (al_c ho1 (al_c rfl al_n))))) rfl rfl rfl) ?_
  refine r_nil ?_
  refine x_seq ?_
  refine c_seq ?_
  refine c_reg ?_
  refine r_u (o_fa fa31_3 rfl) ?_
  refine r_u (o_ld 0 sc29 rfl rfl rfl) ?_
  refine r_u (o_fa fa31_3 rfl) ?_
  refine r_u (o_ld 5 sc29 rfl rfl rfl) ?_
  obtain ⟨l8, hl8, hm9⟩ := bs hm6
  clear hm6
  refine rl_st (fun _ h => mv2 h) ?_
  refine r_u (o_cp Tryz.underlying29 rfl rfl (fun _ => ⟨_, rfl, rfl⟩) rfl rfl rfl h0.2 hl8) ?_
  refine r_nil ?_
  refine x_seq ?_
  refine c_seq ?_
  refine c_seq ?_
  refine c_reg ?_
  refine r_u (o_as rfl) ?_
  refine r_nil ?_
  refine x_seq ?_
  obtain ⟨p10, hp11, hm12⟩ := bs hm9
  refine cd_join (E' := [(1, vS a1), (2, pt b0 0), (4, pt b1 0), (5, pt b7 0)]) (L' := Bk b7 31 [vI r2.Wide, vW r2.Seed, v3.Rows.1, v3.Door, vI r2.Added] :: Bk b1 31 [vI 0, vW 0, .slice none 0 0, .slice none 0 0, vI 0] :: Bk b0 31 [vI a0.Wide, vW a0.Seed, g0_.Rows.1, g0_.Door, vI a0.Added] :: OwS true 4 1 eB v3.Door l8 :: OwS true 86 1 eV v3.Rows.1 v3.Rows.2 :: OwL (OwS true 3 1 eI) v3.Rows.2 p10 :: F) ?_ fun K13 => ?_
  · refine x_seq ?_
    refine c_seq ?_
    refine c_reg ?_
    refine r_u (o_fa fa31_4 rfl) ?_
    refine r_u (o_ld 2 sc3 rfl rfl rfl) ?_
    refine r_u (o_bin rfl rfl (bI_add a0.Added 1)) ?_
    refine r_u (o_fa fa31_4 rfl) ?_
    refine r_u0 (o_st sc3 rfl rfl rfl rfl rfl rfl) ?_
    refine r_nil ?_
    refine x_seq ?_
    refine c_seq ?_
    refine c_seq ?_
    refine c_reg ?_
    refine r_u (o_ldn 2 [vI a0.Wide, vW a0.Seed, g0_.Rows.1, g0_.Door, vI a0.Added] ag31 rfl rfl rfl rfl) ?_
    refine r_u (o_mv rfl) ?_
    obtain ⟨r14, hr14, hm15⟩ := bs hm12
    clear hm12
    refine r_u (o_callq ca41 rfl (hawthornref05_Sketch_place.ok a0 (⟨(g0_.Rows.1, []), g0_.Door⟩ : hawthornref05_Sketch.G) ⟨h0.1, h0.2⟩ a1 4 r14 hr14)) ?_
    refine r_u (o_as rfl) ?_
    refine r_nil ?_
    refine x_seq ?_
    refine c_seq ?_
    refine c_reg ?_
    refine r_u (o_fa fa31_3 rfl) ?_
    refine r_u (o_ld 2 sc29 rfl rfl rfl) ?_
    refine r_u (o_mv rfl) ?_
    obtain ⟨x16, hx16, hm17⟩ := bs hm15
    clear hm15
    obtain ⟨b16, o16, l16, T16, fr16, c16, hv16, hR16, he16, hi16⟩ := RoS.ne h0.2 hx16
    refine r_u (o_ix (sz := 1) Tryz.underlying29 (fun _ => by kernel_rfl) rfl rfl hv16 hi16) ?_
    refine r_u (o_ldR sc4 rfl hR16 (rok 0 he16 (by decide))) ?_
    refine r_u (o_not rfl) ?_
    refine r_nil ?_
    refine x_seq ?_
    obtain ⟨p18, hp19, hm20⟩ := bs hm17
    refine cd_join (E' := [(2, pt b0 0), (4, pt b1 0), (5, pt b7 0)]) (L' := Bk b7 31 [vI r2.Wide, vW r2.Seed, v3.Rows.1, v3.Door, vI (i64 (a0.Added + 1))] :: Bk b1 31 [vI 0, vW 0, .slice none 0 0, .slice none 0 0, vI 0] :: Bk b0 31 [vI a0.Wide, vW a0.Seed, g0_.Rows.1, g0_.Door, vI a0.Added] :: OwS true 4 1 eB v3.Door p18.1 :: OwS true 86 1 eV v3.Rows.1 v3.Rows.2 :: OwL (OwS true 3 1 eI) v3.Rows.2 p18.2 :: F) ?_ fun K21 => ?_
    · refine x_seq ?_
      refine c_seq ?_
      refine c_seq ?_
      refine c_reg ?_
      refine r_u (o_fa fa31_4 rfl) ?_
      refine r_u (o_ld 0 sc3 rfl rfl rfl) ?_
      refine r_u (o_fa fa31_0 rfl) ?_
      refine r_u (o_ld 2 sc3 rfl rfl rfl) ?_
      refine r_u (o_bin rfl rfl (bI_mul 10 a0.Wide)) ?_
      refine r_u (o_bin rfl rfl (bI_ge (i64 (a0.Added + 1)) (i64 (10 * a0.Wide)))) ?_
      refine r_nil ?_
      refine x_seq ?_
      refine c_if (b := decide ((i64 (10 * a0.Wide)) ≤ (i64 (a0.Added + 1)))) rfl (fun h22 => ?_) fun h22 => ?_
      · have hm23 := ift hm20 h22
        clear hm20
        refine c_seq ?_
        refine c_reg ?_
        refine r_u (o_ldn 0 [vI r2.Wide, vW r2.Seed, v3.Rows.1, v3.Door, vI (i64 (a0.Added + 1))] ag31 rfl rfl rfl rfl) ?_
        refine rl_st (fun _ h => mv5 (mv5 h)) ?_
        refine rl_ex (fun w h => st_freezeN w h) fun R24 hf27 => ?_
        obtain ⟨le25, h26⟩ := hf27
        refine rl_st (fun _ h => mv3 h) ?_
        refine rl_ex (fun w h => st_freeze w h) fun R28 hf31 => ?_
        obtain ⟨le29, h30⟩ := hf31
        obtain ⟨r32, hr32, hm36⟩ := bs hm23
        clear hm23
        refine r_sw (s_w (o_call ca79 rfl (hawthornref05_Sketch_Age.ok (⟨r2.Wide, r2.Seed, p18.2, p18.1, i64 (a0.Added + 1)⟩ : hawthornref05_Sketch) (⟨(v3.Rows.1, []), v3.Door⟩ : hawthornref05_Sketch.G) ⟨(RoN.mono le29 h26), h30⟩ r32 hr32))) ?_
        rintro _ R28 _ _ ⟨v33, rfl, rfl, rfl⟩
        refine rl_st (fun _ h => mv4 (mv1 (mv2 h))) ?_
        refine r_u0 (ou_if (one_o 1 rfl) fun ho0 => ou_if (one_o 2 rfl) fun ho1 => o_stn ag31 rfl rfl rfl (al_c rfl (al_c rfl (al_c ho0 (al_c ho1 (al_c rfl al_n))))) rfl rfl rfl) ?_
        refine r_nil ?_
        refine x_seq ?_
        refine c_ret ?_
        obtain rfl := Option.some.inj hm36
        exact x_d1 rfl (rv_n 0 [vI r32.Wide, vW r32.Seed, v33.Rows.1, v33.Door, vI r32.Added] ag31 rfl rfl rfl rfl) (fun _ h => st_pk 6 [1, 3, 2] (by decide) h) (Le.trans le25 le29) ⟨_, rfl, v33, rfl, trivial, rfl⟩
      · have hm23 := iff_ hm20 h22
        clear hm20
        refine c_skip ?_
        refine x_seq ?_
        refine c_seq ?_
        refine c_reg ?_
        refine r_u (o_ldn 0 [vI r2.Wide, vW r2.Seed, v3.Rows.1, v3.Door, vI (i64 (a0.Added + 1))] ag31 rfl rfl rfl rfl) ?_
        refine rl_st (fun _ h => mv3 (mv4 (mv3 h))) ?_
        refine r_u0 (ou_if (one_o 1 rfl) fun ho0 => ou_if (one_o 2 rfl) fun ho1 => o_stn ag31 rfl rfl rfl (al_c rfl (al_c rfl (al_c ho0 (al_c ho1 (al_c rfl al_n))))) rfl rfl rfl) ?_
        refine r_nil ?_
        refine x_seq ?_
        refine c_ret ?_
        obtain rfl := Option.some.inj hm23
        exact x_d1 rfl (rv_n 0 [vI r2.Wide, vW r2.Seed, v3.Rows.1, v3.Door, vI (i64 (a0.Added + 1))] ag31 rfl rfl rfl rfl) (fun _ h => st_pk 6 [1, 5, 2] (by decide) h) (Le.refl _) ⟨_, rfl, v3, rfl, trivial, rfl⟩
    · refine c_if (b := !x16) rfl (fun h37 => ?_) fun h37 => ?_
      · have hm38 := ift hp19 h37
        clear hp19
        refine c_reg ?_
        refine r_u (o_fa fa31_3 rfl) ?_
        refine r_u (o_ld 0 sc29 rfl rfl rfl) ?_
        refine r_u (o_mv rfl) ?_
        obtain ⟨x39, hx39, hm40⟩ := bs hm38
        clear hm38
        refine r_u (o_ixO 3 Tryz.underlying29 (fun _ => by kernel_rfl) rfl rfl rfl hx39) ?_
        refine rl_st (fun _ h => mv3 h) ?_
        refine r_u0 (o_stO0 (c' := true) sc4 rfl rfl rfl hx39 rfl rfl rfl) ?_
        refine r_nil ?_
        obtain rfl := Option.some.inj hm40
        exact x_sub K21 ⟨rfl, rfl, rfl, trivial⟩ (fun _ h => st_pk 6 [1, 2, 3, 0, 4, 5] (by decide) h)
      · have hm38 := iff_ hp19 h37
        clear hp19
        refine c_seq ?_
        refine c_reg ?_
        refine r_u (o_ldn 2 [vI a0.Wide, vW a0.Seed, g0_.Rows.1, g0_.Door, vI a0.Added] ag31 rfl rfl rfl rfl) ?_
        refine r_u (o_mv rfl) ?_
        obtain ⟨r41, hr41, hm42⟩ := bs hm38
        clear hm38
        refine r_u (o_callq ca40 rfl (hawthornref05_Sketch_least.ok a0 (⟨(g0_.Rows.1, []), g0_.Door⟩ : hawthornref05_Sketch.G) ⟨h0.1, h0.2⟩ a1 r41 hr41)) ?_
        refine r_u (o_as rfl) ?_
        refine r_nil ?_
        refine x_seq ?_
        refine c_seq ?_
        refine c_reg ?_
        refine r_u (o_as rfl) ?_
        refine r_nil ?_
        refine x_seq ?_
        obtain ⟨p43, hp44, hm45⟩ := bs hm42
        refine cd_join (E' := [(2, pt b0 0), (4, pt b1 0), (5, pt b7 0)]) (L' := Bk b7 31 [vI r2.Wide, vW r2.Seed, v3.Rows.1, v3.Door, vI (i64 (a0.Added + 1))] :: Bk b1 31 [vI 0, vW 0, .slice none 0 0, .slice none 0 0, vI 0] :: Bk b0 31 [vI a0.Wide, vW a0.Seed, g0_.Rows.1, g0_.Door, vI a0.Added] :: OwS true 4 1 eB v3.Door l8 :: OwS true 86 1 eV v3.Rows.1 v3.Rows.2 :: OwL (OwS true 3 1 eI) v3.Rows.2 p43 :: F) ?_ fun K46 => ?_
        · obtain rfl := Option.some.inj hm45
          exact x_sub K21 ⟨rfl, rfl, rfl, trivial⟩ (fun _ h => st_pk 6 [0, 1, 2, 3, 4, 5] (by decide) h)
        · refine c_blk ?_
          refine cd_loop (M := fun k49 (s : Int × List (List Int)) => hawthornref05_Sketch_Add_l0 a0 a1 r41 k49 s.1 s.2 = some p43) (Ef := fun (s : Int × List (List Int)) => [(1, vS a1), (2, pt b0 0), (4, pt b1 0), (5, pt b7 0), (8, vI r41), (9, vI s.1)]) (Lf := fun (s : Int × List (List Int)) => Bk b7 31 [vI r2.Wide, vW r2.Seed, v3.Rows.1, v3.Door, vI (i64 (a0.Added + 1))] :: Bk b1 31 [vI 0, vW 0, .slice none 0 0, .slice none 0 0, vI 0] :: Bk b0 31 [vI a0.Wide, vW a0.Seed, g0_.Rows.1, g0_.Door, vI a0.Added] :: OwS true 4 1 eB v3.Door l8 :: OwS true 86 1 eV v3.Rows.1 v3.Rows.2 :: OwL (OwS true 3 1 eI) v3.Rows.2 s.2 :: F) 5 (0, p10) hp44 ⟨rfl, rfl, rfl, rfl, rfl, rfl, trivial⟩ (fun _ h => h) (fun _ h => by cases h) fun k49 s hM51 => ?_
          obtain ⟨i_47, c_48⟩ := s
          have hm50 : hawthornref05_Sketch_Add_l0 a0 a1 r41 (k49 + 1) i_47 c_48 = some p43 := hM51
          rw [hawthornref05_Sketch_Add_l0] at hm50
          refine c_seq ?_
          refine c_seq ?_
          refine c_reg ?_
          refine r_u (o_mv rfl) ?_
          refine r_u (o_bin rfl rfl (bI_lt i_47 4)) ?_
          refine r_nil ?_
          refine x_seq ?_
          refine c_if (b := decide (i_47 < 4)) rfl (fun h52 => ?_) fun h52 => ?_
          · have hm53 := ift hm50 h52
            clear hm50
            refine c_skip ?_
            refine x_seq ?_
            refine c_seq ?_
            refine c_blk ?_
            refine c_seq ?_
            refine c_reg ?_
            refine r_u (o_ldn 2 [vI a0.Wide, vW a0.Seed, g0_.Rows.1, g0_.Door, vI a0.Added] ag31 rfl rfl rfl rfl) ?_
            refine r_u (o_mv rfl) ?_
            refine r_u (o_mv rfl) ?_
            obtain ⟨r54, hr54, hm55⟩ := bs hm53
            clear hm53
            refine r_u (o_callq ca41 rfl (hawthornref05_Sketch_place.ok a0 (⟨(g0_.Rows.1, []), g0_.Door⟩ : hawthornref05_Sketch.G) ⟨h0.1, h0.2⟩ a1 i_47 r54 hr54)) ?_
            refine r_u (o_as rfl) ?_
            refine r_nil ?_
            refine x_seq ?_
            refine c_seq ?_
            refine c_reg ?_
            refine r_u (o_fa fa31_2 rfl) ?_
            refine r_u (o_ld 2 sc28 rfl rfl rfl) ?_
            refine r_u (o_mv rfl) ?_
            obtain ⟨x56, hx56, hm58⟩ := bs hm55
            clear hm55
            obtain ⟨b56, o56, l56, T56, fr56, c56, u57, hv56, hR56, he56, hi56, hN56⟩ := RoN.ne h0.1 hx56
            refine r_u (o_ix (sz := 1) Tryz.underlying28 (fun _ => by kernel_rfl) rfl rfl hv56 hi56) ?_
            refine r_u (o_ldR sc86 rfl hR56 (rok 0 he56 (by decide))) ?_
            refine r_u (o_mv rfl) ?_
            obtain ⟨x59, hx59, hm60⟩ := bs hm58
            clear hm58
            obtain ⟨b59, o59, l59, T59, fr59, c59, hv59, hR59, he59, hi59⟩ := RoS.ne hN56 hx59
            refine r_u (o_ix (sz := 1) Tryz.underlying86 (fun _ => by kernel_rfl) rfl rfl hv59 hi59) ?_
            refine r_u (o_ldR sc3 rfl hR59 (rok 0 he59 (by decide))) ?_
            refine r_u (o_mv rfl) ?_
            refine r_u (o_bin rfl rfl (bI_eq x59 r41)) ?_
            refine r_u (o_mv rfl) ?_
            refine r_s (s_gt rfl rfl fun g => o_mv rfl) ?_
            refine r_s (s_gt rfl rfl fun g => o_bin (evg rfl g) rfl (bI_lt r41 15)) ?_
            refine r_u (o_and rfl rfl) ?_
            refine r_nil ?_
            refine x_seq ?_
            obtain ⟨p61, hp62, hm63⟩ := bs hm60
            refine cd_join (E' := [(1, vS a1), (2, pt b0 0), (4, pt b1 0), (5, pt b7 0), (8, vI r41), (9, vI i_47)]) (L' := Bk b7 31 [vI r2.Wide, vW r2.Seed, v3.Rows.1, v3.Door, vI (i64 (a0.Added + 1))] :: Bk b1 31 [vI 0, vW 0, .slice none 0 0, .slice none 0 0, vI 0] :: Bk b0 31 [vI a0.Wide, vW a0.Seed, g0_.Rows.1, g0_.Door, vI a0.Added] :: OwL (OwS true 3 1 eI) v3.Rows.2 p61 :: OwS true 4 1 eB v3.Door l8 :: OwS true 86 1 eV v3.Rows.1 v3.Rows.2 :: F) ?_ fun K64 => ?_
            · refine x_blk ?_
              refine x_seq ?_
              refine c_reg ?_
              refine r_u (o_mv rfl) ?_
              refine r_u (o_bin rfl rfl (bI_add i_47 1)) ?_
              refine r_u (o_as rfl) ?_
              refine r_nil ?_
              exact x_lp (i64 (i_47 + 1), p61) hm63 ⟨rfl, rfl, rfl, rfl, rfl, rfl, trivial⟩ (fun _ h => st_pk 6 [0, 1, 2, 4, 5, 3] (by decide) h)
            · refine c_if (b := ((x59 == r41) && decide (r41 < 15))) rfl (fun h65 => ?_) fun h65 => ?_
              · have hm66 := ift hp62 h65
                clear hp62
                refine c_reg ?_
                refine r_u (o_fa fa31_2 rfl) ?_
                refine r_u (o_ld 0 sc28 rfl rfl rfl) ?_
                refine r_u (o_mv rfl) ?_
                obtain ⟨y67, hy67, hm69⟩ := bs hm66
                clear hm66
                refine rl_ex (fun w h => st_peek 5 hy67 rfl w h) fun u68 hu68 => ?_
                refine r_u (o_ixO 4 Tryz.underlying28 (fun _ => by kernel_rfl) rfl rfl rfl hu68) ?_
                refine r_u (o_ldO0 4 sc86 rfl rfl hu68 rfl rfl) ?_
                refine r_u (o_mv rfl) ?_
                obtain ⟨x70, hx70, hm71⟩ := bs hm69
                clear hm69
                refine r_u (o_ixK (kn_in 5 rfl hu68 hy67) Tryz.underlying86 (fun _ => by kernel_rfl) rfl rfl hx70) ?_
                refine r_u (o_ldK (kn_in 5 rfl hu68 hy67) 0 sc3 rfl hx70 rfl rfl) ?_
                refine r_u (o_bin rfl rfl (bI_add x70 1)) ?_
                refine r_u (o_ixK (kn_in 5 rfl hu68 hy67) Tryz.underlying86 (fun _ => by kernel_rfl) rfl rfl hx70) ?_
                refine rl_st (fun _ h => mv5 h) ?_
                refine r_u0 (o_stL (c' := i64 (x70 + 1)) 0 hu68 hy67 sc3 rfl rfl rfl hx70 rfl rfl rfl) ?_
                refine r_nil ?_
                obtain rfl := Option.some.inj hm71
                exact x_sub K64 ⟨rfl, rfl, rfl, rfl, rfl, rfl, trivial⟩ (fun _ h => st_pk 6 [1, 2, 3, 0, 4, 5] (by decide) h)
              · have hm66 := iff_ hp62 h65
                clear hp62
                refine c_skip ?_
                obtain rfl := Option.some.inj hm66
                exact x_sub K64 ⟨rfl, rfl, rfl, rfl, rfl, rfl, trivial⟩ (fun _ h => st_pk 6 [0, 1, 2, 5, 3, 4] (by decide) h)
          · have hm53 := iff_ hm50 h52
            clear hm50
            refine c_exit (x_exit (ks' := _) rfl ?_)
            obtain rfl := Option.some.inj hm53
            exact x_sub K46 ⟨rfl, rfl, rfl, trivial⟩ (fun _ h => st_pk 6 [0, 1, 2, 3, 4, 5] (by decide) h)
  · refine c_blk ?_
    refine cd_loop (M := fun k74 (s : Int × List (List Int)) => hawthornref05_Sketch_Add_l1 a0 k74 s.1 s.2 = some p10) (Ef := fun (s : Int × List (List Int)) => [(1, vS a1), (2, pt b0 0), (4, pt b1 0), (5, pt b7 0), (6, vI s.1)]) (Lf := fun (s : Int × List (List Int)) => Bk b7 31 [vI r2.Wide, vW r2.Seed, v3.Rows.1, v3.Door, vI r2.Added] :: Bk b1 31 [vI 0, vW 0, .slice none 0 0, .slice none 0 0, vI 0] :: Bk b0 31 [vI a0.Wide, vW a0.Seed, g0_.Rows.1, g0_.Door, vI a0.Added] :: OwS true 4 1 eB v3.Door l8 :: OwS true 86 1 eV v3.Rows.1 v3.Rows.2 :: OwL (OwS true 3 1 eI) v3.Rows.2 s.2 :: F) 5 (0, r2.Rows) hp11 ⟨rfl, rfl, rfl, rfl, rfl, trivial⟩ (fun _ h => st_pk 6 [1, 4, 5, 0, 2, 3] (by decide) h) (fun _ h => by cases h) fun k74 s hM76 => ?_
    obtain ⟨i_72, c_73⟩ := s
    have hm75 : hawthornref05_Sketch_Add_l1 a0 (k74 + 1) i_72 c_73 = some p10 := hM76
    rw [hawthornref05_Sketch_Add_l1] at hm75
    refine c_seq ?_
    refine c_seq ?_
    refine c_reg ?_
    refine r_u (o_mv rfl) ?_
    refine r_u (o_bin rfl rfl (bI_lt i_72 4)) ?_
    refine r_nil ?_
    refine x_seq ?_
    refine c_if (b := decide (i_72 < 4)) rfl (fun h77 => ?_) fun h77 => ?_
    · have hm78 := ift hm75 h77
      clear hm75
      refine c_skip ?_
      refine x_seq ?_
      refine c_seq ?_
      refine c_blk ?_
      obtain ⟨y79, hy79, hm81⟩ := bs hm78
      clear hm78
      refine cd_ex (fun w h => st_peek 5 hy79 rfl w h) fun u80 hu80 => ?_
      obtain ⟨x82, hx82, hm84⟩ := bs hm81
      clear hm81
      obtain ⟨b82, o82, l82, T82, fr82, c82, u83, hv82, hR82, he82, hi82, hN82⟩ := RoN.ne h0.1 hx82
      obtain ⟨l85, hl85, hm86⟩ := bs hm84
      clear hm84
      refine c_any mixed (effs := [10]) (V := []) ?_
      refine stage_st (fun _ h => mv5 h) ?_
      refine stage_ext [(0, pt b7 2), (1, v3.Rows.1), (2, vI i_72), (3, pt (sb v3.Rows.1) (so v3.Rows.1 + i_72.toNat * 1)), (4, u80), (5, pt b0 2), (6, g0_.Rows.1), (7, vI i_72), (8, pt b82 (o82 + i_72.toNat * 1)), (9, u83)] rfl ?_
      refine stage rfl rfl rfl rfl [0, 1, 0, 7, 15, 0, 32, 0, 224, 480, 1023] [0, 1, 2, 3, 4, 5, 6, 7, 8, 9] [10] rfl rfl rfl (qc rfl rfl (s_u (o_fa fa31_2 rfl)) (qc rfl rfl (s_u (o_ld 1 sc28 rfl rfl rfl)) (qc rfl rfl (s_u (o_mv rfl)) (qc rfl rfl (s_u (o_ixO 5 Tryz.underlying28 (fun _ => by kernel_rfl) rfl rfl rfl hu80)) (qc rfl rfl (s_u (o_ldO0 5 sc86 rfl rfl hu80 rfl rfl)) (qc rfl rfl (s_u (o_fa fa31_2 rfl)) (qc rfl rfl (s_u (o_ld 3 sc28 rfl rfl rfl)) (qc rfl rfl (s_u (o_mv rfl)) (qc rfl rfl (s_u (o_ix (sz := 1) Tryz.underlying28 (fun _ => by kernel_rfl) rfl rfl hv82 hi82)) (qc rfl rfl (s_u (o_ldR sc86 rfl hR82 (rok 0 he82 (by decide)))) qn)))))))))) ?_ (fun h => absurd h (by decide))
      refine ec (eo_u rfl (s_u (o_cpL hu80 hy79 Tryz.underlying86 rfl rfl (fun _ => ⟨_, rfl, rfl⟩) rfl rfl rfl hN82 hl85)) (Le.refl _) ?_) en
      refine stage rfl rfl rfl rfl [0, 1, 0, 7, 15, 0, 32, 0, 224, 480, 1023] [] [] rfl rfl rfl qn en ?_
      intro _
      refine ex_sub (E' := [(1, vS a1), (2, pt b0 0), (4, pt b1 0), (5, pt b7 0), (6, vI i_72)]) ⟨rfl, rfl, rfl, rfl, rfl, trivial⟩ ?_
      refine x_blk ?_
      refine x_seq ?_
      refine c_reg ?_
      refine r_u (o_mv rfl) ?_
      refine r_u (o_bin rfl rfl (bI_add i_72 1)) ?_
      refine r_u (o_as rfl) ?_
      refine r_nil ?_
      exact x_lp (i64 (i_72 + 1), ls c_73 i_72 l85) hm86 ⟨rfl, rfl, rfl, rfl, rfl, trivial⟩ (fun _ h => st_pk 6 [1, 2, 3, 4, 5, 0] (by decide) h)
    · have hm78 := iff_ hm75 h77
      clear hm75
      refine c_exit (x_exit (ks' := _) rfl ?_)
      obtain rfl := Option.some.inj hm78
      exact x_sub K13 ⟨rfl, rfl, rfl, rfl, trivial⟩ (fun _ h => st_pk 6 [0, 1, 2, 3, 4, 5] (by decide) h)

def hawthornref06_Rings_Many_l0 (a0 : hawthornref06_Rings) : Nat → Int → Int → Option (Int)
  | 0, _, _ => none
  | k7 + 1, n_5, i_6 => if decide (i_6 < (a0.L.length : Int)) then (gi a0.L i_6).bind fun x12 => hawthornref06_Rings_Many_l0 a0 k7 (i64 (n_5 + (x12.length : Int))) (i64 (i_6 + 1)) else some n_5
def hawthornref06_Rings_Many (a0 : hawthornref06_Rings) : Option Int :=
  Option.bind (hawthornref06_Rings_Many_l0 a0 (((a0.L.length : Int) - 0).toNat + 1) 0 0) fun p1 => some p1
theorem hawthornref06_Rings_Many.ok {G R F} (a0 : hawthornref06_Rings) (g0_ : hawthornref06_Rings.G) (h0 : hawthornref06_Rings.ro R a0 g0_) (r : Int) (hm : hawthornref06_Rings_Many a0 = some r) : CO Tryz.prog 64 [.agg [g0_.L.1, vI a0.Places].toArray] G R (F)
    (Ret fun u R' L' => u = vI r ∧ R' = R ∧ L' = F) := by
  unfold hawthornref06_Rings_Many at hm
  refine co_ofN (N := 21) Tryz.func64 rfl rfl ?_
  refine c_seq ?_
  refine c_reg ?_
  refine r_new (o_bx [g0_.L.1, vI a0.Places] rfl rfl) fun b0 => ?_
  refine r_u (o_as rfl) ?_
  refine r_nil ?_
  refine x_seq ?_
  refine c_seq ?_
  refine c_reg ?_
  refine r_u (o_as rfl) ?_
  refine r_nil ?_
  refine x_seq ?_
  refine c_seq ?_
  refine c_seq ?_
  refine c_reg ?_
  refine r_u (o_as rfl) ?_
  refine r_nil ?_
  refine x_seq ?_
  obtain ⟨p1, hp2, hm3⟩ := bs hm
  refine cd_join (E' := [(3, vI p1)]) (L' := Bk b0 34 [g0_.L.1, vI a0.Places] :: F) ?_ fun K4 => ?_
  · refine x_seq ?_
    refine c_seq ?_
    refine c_reg ?_
    refine r_u (o_mv rfl) ?_
    refine r_u (o_as rfl) ?_
    refine r_nil ?_
    refine x_seq ?_
    refine c_ret ?_
    obtain rfl := Option.some.inj hm3
    refine ex_st (fun _ h => st_pk 1 [] (by decide) h) ?_
    exact x_r1 rfl (rv_t rfl) (Le.refl _) ⟨_, rfl, rfl, rfl, rfl⟩
  · refine c_blk ?_
    refine cd_loop (M := fun k7 (s : Int × Int) => hawthornref06_Rings_Many_l0 a0 k7 s.1 s.2 = some p1) (Ef := fun (s : Int × Int) => [(1, pt b0 0), (3, vI s.1), (4, vI s.2)]) (Lf := fun (s : Int × Int) => Bk b0 34 [g0_.L.1, vI a0.Places] :: F) (((a0.L.length : Int) - 0).toNat + 1) (0, 0) hp2 ⟨rfl, rfl, rfl, trivial⟩ (fun _ h => h) (fun _ h => by cases h) fun k7 s hM9 => ?_
    obtain ⟨n_5, i_6⟩ := s
    have hm8 : hawthornref06_Rings_Many_l0 a0 (k7 + 1) n_5 i_6 = some p1 := hM9
    rw [hawthornref06_Rings_Many_l0] at hm8
    refine c_seq ?_
    refine c_seq ?_
    refine c_reg ?_
    refine r_u (o_mv rfl) ?_
    refine r_u (o_fa fa34_0 rfl) ?_
    refine r_u (o_ld 0 sc32 rfl rfl rfl) ?_
    refine r_u (o_lenRN Tryz.underlying32 rfl h0) ?_
    refine r_u (o_bin rfl rfl (bI_lt i_6 (a0.L.length : Int))) ?_
    refine r_nil ?_
    refine x_seq ?_
    refine c_if (b := decide (i_6 < (a0.L.length : Int))) rfl (fun h10 => ?_) fun h10 => ?_
    · have hm11 := ift hm8 h10
      clear hm8
      refine c_skip ?_
      refine x_seq ?_
      refine c_seq ?_
      refine c_blk ?_
      refine c_reg ?_
      refine r_u (o_mv rfl) ?_
      refine r_u (o_fa fa34_0 rfl) ?_
      refine r_u (o_ld 0 sc32 rfl rfl rfl) ?_
      refine r_u (o_mv rfl) ?_
      obtain ⟨x12, hx12, hm14⟩ := bs hm11
      clear hm11
      obtain ⟨b12, o12, l12, T12, fr12, c12, u13, hv12, hR12, he12, hi12, hN12⟩ := RoN.ne h0 hx12
      refine r_u (o_ix (sz := 1) Tryz.underlying32 (fun _ => by kernel_rfl) rfl rfl hv12 hi12) ?_
      refine r_u (o_ldR sc60 rfl hR12 (rok 0 he12 (by decide))) ?_
      refine r_u (o_lenR Tryz.underlying60 rfl hN12) ?_
      refine r_u (o_bin rfl rfl (bI_add n_5 (x12.length : Int))) ?_
      refine r_u (o_as rfl) ?_
      refine r_nil ?_
      refine x_blk ?_
      refine x_seq ?_
      refine c_reg ?_
      refine r_u (o_mv rfl) ?_
      refine r_u (o_bin rfl rfl (bI_add i_6 1)) ?_
      refine r_u (o_as rfl) ?_
      refine r_nil ?_
      exact x_lp (i64 (n_5 + (x12.length : Int)), i64 (i_6 + 1)) hm14 ⟨rfl, rfl, rfl, trivial⟩ (fun _ h => st_pk 1 [0] (by decide) h)
    · have hm11 := iff_ hm8 h10
      clear hm8
      refine c_exit (x_exit (ks' := _) rfl ?_)
      obtain rfl := Option.some.inj hm11
      exact x_sub K4 ⟨rfl, trivial⟩ (fun _ h => st_pk 1 [0] (by decide) h)

def hawthornref06_Rings_Drop_l1 (a0 : hawthornref06_Rings) (a1 : Str) (i_12 : Int) : Nat → (List Str) → Int → Option (List Str)
  | 0, _, _ => none
  | k37 + 1, l_34, k_35 => (gi a0.L i_12).bind fun x42 => if decide (k_35 < (x42.length : Int)) then (gi x42 k_35).bind fun x47 => Option.bind (if (x47 != a1) then (apd 16 l_34 [x47]).bind fun l58 => some l58 else some l_34) fun p49 => hawthornref06_Rings_Drop_l1 a0 a1 i_12 k37 p49 (i64 (k_35 + 1)) else some l_34
def hawthornref06_Rings_Drop_l0 (a0 : hawthornref06_Rings) (a1 : Str) : Nat → Int → (List (List Str)) → Option (List (List Str))
  | 0, _, _ => none
  | k15 + 1, i_12, c_13 => if decide (i_12 < (a0.L.length : Int)) then Option.bind (Option.bind (hawthornref06_Rings_Drop_l1 a0 a1 i_12 1100 [] 0) fun p26 => (gi c_13 i_12).bind fun y31 => some (ls c_13 i_12 p26)) fun p20 => hawthornref06_Rings_Drop_l0 a0 a1 k15 (i64 (i_12 + 1)) p20 else some c_13
def hawthornref06_Rings_Drop (a0 : hawthornref06_Rings) (a1 : Str) : Option hawthornref06_Rings :=
  (hawthornref06_New (a0.L.length : Int) a0.Places).bind fun r2 => Option.bind (hawthornref06_Rings_Drop_l0 a0 a1 (((a0.L.length : Int) - 0).toNat + 1) 0 r2.L) fun p7 => some (⟨p7, r2.Places⟩ : hawthornref06_Rings)
theorem hawthornref06_Rings_Drop.ok {G R F} (a0 : hawthornref06_Rings) (g0_ : hawthornref06_Rings.G) (h0 : hawthornref06_Rings.ro R a0 g0_) (a1 : Str) (r : hawthornref06_Rings) (hm : hawthornref06_Rings_Drop a0 a1 = some r) : CO Tryz.prog 59 [.agg [g0_.L.1, vI a0.Places].toArray, vS a1] G R (F)
    (Ret fun u R' L' => ∃ (p0 : hawthornref06_Rings.G), u = .agg [p0.L.1, vI r.Places].toArray ∧ R' = R ∧ L' = OwS true 60 1 eV p0.L.1 p0.L.2 :: OwL (OwS true 9 1 eS) p0.L.2 r.L :: F) := by
  unfold hawthornref06_Rings_Drop at hm
  refine co_ofN (N := 60) Tryz.func59 rfl rfl ?_
  refine c_seq ?_
  refine c_reg ?_
  refine r_new (o_bx [g0_.L.1, vI a0.Places] rfl rfl) fun b0 => ?_
  refine r_new (o_al ze34) fun b1 => ?_
  refine r_nil ?_
  refine x_seq ?_
  refine c_seq ?_
  refine c_reg ?_
  refine r_u (o_fa fa34_0 rfl) ?_
  refine r_u (o_ld 1 sc32 rfl rfl rfl) ?_
  refine r_u (o_lenRN Tryz.underlying32 rfl h0) ?_
  refine r_u (o_fa fa34_1 rfl) ?_
  refine r_u (o_ld 1 sc3 rfl rfl rfl) ?_
  obtain ⟨r2, hr2, hm5⟩ := bs hm
  clear hm
  refine r_sw (s_w (o_call ca21 rfl (hawthornref06_New.ok (a0.L.length : Int) a0.Places r2 hr2))) ?_
  rintro _ R _ _ ⟨v3, rfl, rfl, rfl⟩
  refine r_new (o_al ze34) fun b6 => ?_
  refine r_u0 (ou_if (one_o 1 rfl) fun ho0 => o_stn ag34 rfl rfl rfl (al_c ho0 (al_c rfl al_n)) rfl rfl rfl) ?_
  refine r_nil ?_
  refine x_seq ?_
  refine c_seq ?_
  refine c_seq ?_
  refine c_reg ?_
  refine r_u (o_as rfl) ?_
  refine r_nil ?_
  refine x_seq ?_
  obtain ⟨p7, hp9, hm10⟩ := bs hm5
  refine cd_cut (fun x ks => ∀ (hs8 : List Value), EX x .normal ks [(4, pt b1 0), (5, pt b6 0)] R (Bk b6 34 [v3.L.1, vI r2.Places] :: Bk b1 34 [.slice none 0 0, vI 0] :: Bk b0 34 [g0_.L.1, vI a0.Places] :: OwS true 60 1 eV v3.L.1 hs8 :: OwL (OwS true 9 1 eS) hs8 p7 :: F)) ?_ fun K11 => ?_
  · intro hs8
    refine x_seq ?_
    refine c_seq ?_
    refine c_reg ?_
    refine r_u (o_ldn 0 [v3.L.1, vI r2.Places] ag34 rfl rfl rfl rfl) ?_
    refine rl_st (fun _ h => mv2 (mv3 h)) ?_
    refine r_u0 (ou_if (one_o 1 rfl) fun ho0 => o_stn ag34 rfl rfl rfl (al_c ho0 (al_c rfl al_n)) rfl rfl rfl) ?_
    refine r_nil ?_
    refine x_seq ?_
    refine c_ret ?_
    obtain rfl := Option.some.inj hm10
    exact x_d1 rfl (rv_n 0 [v3.L.1, vI r2.Places] ag34 rfl rfl rfl rfl) (fun _ h => st_pk 5 [1, 4] (by decide) h) (Le.refl _) ⟨_, rfl, (⟨(v3.L.1, hs8)⟩ : hawthornref06_Rings.G), rfl, rfl, rfl⟩
  · refine c_blk ?_
    refine cd_loopG (M := fun k15 (s : Int × List (List Str) × List Value) => hawthornref06_Rings_Drop_l0 a0 a1 k15 s.1 s.2.1 = some p7) (Ef := fun (s : Int × List (List Str) × List Value) => [(1, vS a1), (2, pt b0 0), (4, pt b1 0), (5, pt b6 0), (6, vI s.1)]) (Rf := fun (s : Int × List (List Str) × List Value) => R) (Lf := fun (s : Int × List (List Str) × List Value) => Bk b6 34 [v3.L.1, vI r2.Places] :: Bk b1 34 [.slice none 0 0, vI 0] :: Bk b0 34 [g0_.L.1, vI a0.Places] :: OwS true 60 1 eV v3.L.1 s.2.2 :: OwL (OwS true 9 1 eS) s.2.2 s.2.1 :: F) (((a0.L.length : Int) - 0).toNat + 1) (0, r2.L, v3.L.2) hp9 ⟨rfl, rfl, rfl, rfl, rfl, trivial⟩ (fun _ h => st_pk 5 [0, 3, 4, 1, 2] (by decide) h) (fun _ h => by cases h) fun k15 s hM17 => ?_
    obtain ⟨i_12, c_13, hs14⟩ := s
    have hm16 : hawthornref06_Rings_Drop_l0 a0 a1 (k15 + 1) i_12 c_13 = some p7 := hM17
    rw [hawthornref06_Rings_Drop_l0] at hm16
    refine c_seq ?_
    refine c_seq ?_
    refine c_reg ?_
    refine r_u (o_mv rfl) ?_
    refine r_u (o_fa fa34_0 rfl) ?_
    refine r_u (o_ld 2 sc32 rfl rfl rfl) ?_
    refine r_u (o_lenRN Tryz.underlying32 rfl h0) ?_
    refine r_u (o_bin rfl rfl (bI_lt i_12 (a0.L.length : Int))) ?_
    refine r_nil ?_
    refine x_seq ?_
    refine c_if (b := decide (i_12 < (a0.L.length : Int))) rfl (fun h18 => ?_) fun h18 => ?_
    · have hm19 := ift hm16 h18
      clear hm16
      refine c_skip ?_
      refine x_seq ?_
      refine c_seq ?_
      obtain ⟨p20, hp22, hm23⟩ := bs hm19
      refine cd_cut (fun x ks => ∀ (hs21 : List Value), EX x .normal ks [(1, vS a1), (2, pt b0 0), (4, pt b1 0), (5, pt b6 0), (6, vI i_12)] R (Bk b6 34 [v3.L.1, vI r2.Places] :: Bk b1 34 [.slice none 0 0, vI 0] :: Bk b0 34 [g0_.L.1, vI a0.Places] :: OwS true 60 1 eV v3.L.1 hs21 :: OwL (OwS true 9 1 eS) hs21 p20 :: F)) ?_ fun K24 => ?_
      · intro hs21
        refine x_seq ?_
        refine c_reg ?_
        refine r_u (o_mv rfl) ?_
        refine r_u (o_bin rfl rfl (bI_add i_12 1)) ?_
        refine r_u (o_as rfl) ?_
        refine r_nil ?_
        exact x_lp (i64 (i_12 + 1), p20, hs21) hm23 ⟨rfl, rfl, rfl, rfl, rfl, trivial⟩ (fun _ h => st_pk 5 [0, 1, 2, 3, 4] (by decide) h)
      · refine c_blk ?_
        refine c_seq ?_
        refine c_reg ?_
        refine r_sw (s_w (o_bsl (en := eS) (sz := 1) (e := 9) (cs := []) (r := []) rfl (fun _ => by kernel_rfl) rfl (by decide) rfl (fun _ => rfl))) ?_
        rintro v25 R _ _ ⟨rfl, rfl⟩
        refine r_u (o_as rfl) ?_
        refine r_nil ?_
        refine x_seq ?_
        refine c_seq ?_
        refine c_seq ?_
        refine c_reg ?_
        refine r_u (o_as rfl) ?_
        refine r_nil ?_
        refine x_seq ?_
        obtain ⟨p26, hp28, hm29⟩ := bs hp22
        refine cd_cut (fun x ks => ∀ (g27 : Value), EX x .normal ks [(1, vS a1), (2, pt b0 0), (4, pt b1 0), (5, pt b6 0), (6, vI i_12), (7, g27)] R (Bk b6 34 [v3.L.1, vI r2.Places] :: Bk b1 34 [.slice none 0 0, vI 0] :: Bk b0 34 [g0_.L.1, vI a0.Places] :: OwS true 60 1 eV v3.L.1 hs14 :: OwL (OwS true 9 1 eS) hs14 c_13 :: OwS true 9 1 eS g27 p26 :: F)) ?_ fun K30 => ?_
        · intro g27
          refine x_seq ?_
          refine c_reg ?_
          refine r_u (o_fa fa34_0 rfl) ?_
          refine r_u (o_ld 0 sc32 rfl rfl rfl) ?_
          refine r_u (o_mv rfl) ?_
          refine r_u (o_mv rfl) ?_
          obtain ⟨y31, hy31, hm33⟩ := bs hm29
          clear hm29
          refine rl_ex (fun w h => st_peek 4 hy31 rfl w h) fun u32 hu32 => ?_
          refine r_u (o_ixO 3 Tryz.underlying32 (fun _ => by kernel_rfl) rfl rfl rfl hu32) ?_
          refine rl_st (fun _ h => mv5 (mv5 (mv5 h))) ?_
          refine r_u0 (ou_if (one_o 2 rfl) fun ho => o_stH hy31 hu32 sc60 rfl rfl rfl ho) ?_
          refine r_nil ?_
          refine x_blk ?_
          obtain rfl := Option.some.inj hm33
          exact x_sub (K24 (ls hs14 i_12 g27)) ⟨rfl, rfl, rfl, rfl, rfl, trivial⟩ (fun _ h => st_pk 5 [2, 3, 4, 0, 1] (by decide) h)
        · refine c_blk ?_
          refine cd_loopG (M := fun k37 (s : List Str × Int × Value) => hawthornref06_Rings_Drop_l1 a0 a1 i_12 k37 s.1 s.2.1 = some p26) (Ef := fun (s : List Str × Int × Value) => [(1, vS a1), (2, pt b0 0), (4, pt b1 0), (5, pt b6 0), (6, vI i_12), (7, s.2.2), (8, vI s.2.1)]) (Rf := fun (s : List Str × Int × Value) => R) (Lf := fun (s : List Str × Int × Value) => Bk b6 34 [v3.L.1, vI r2.Places] :: Bk b1 34 [.slice none 0 0, vI 0] :: Bk b0 34 [g0_.L.1, vI a0.Places] :: OwS true 60 1 eV v3.L.1 hs14 :: OwL (OwS true 9 1 eS) hs14 c_13 :: OwS true 9 1 eS s.2.2 s.1 :: F) 1100 ([], 0, v25) hp28 ⟨rfl, rfl, rfl, rfl, rfl, rfl, rfl, trivial⟩ (fun _ h => st_pk 6 [1, 2, 3, 4, 5, 0] (by decide) h) (fun _ h => by cases h) fun k37 s hM41 => ?_
          obtain ⟨l_34, k_35, g36⟩ := s
          have hm40 : hawthornref06_Rings_Drop_l1 a0 a1 i_12 (k37 + 1) l_34 k_35 = some p26 := hM41
          rw [hawthornref06_Rings_Drop_l1] at hm40
          refine c_seq ?_
          refine c_seq ?_
          refine c_reg ?_
          refine r_u (o_mv rfl) ?_
          refine r_u (o_fa fa34_0 rfl) ?_
          refine r_u (o_ld 2 sc32 rfl rfl rfl) ?_
          refine r_u (o_mv rfl) ?_
          obtain ⟨x42, hx42, hm44⟩ := bs hm40
          clear hm40
          obtain ⟨b42, o42, l42, T42, fr42, c42, u43, hv42, hR42, he42, hi42, hN42⟩ := RoN.ne h0 hx42
          refine r_u (o_ix (sz := 1) Tryz.underlying32 (fun _ => by kernel_rfl) rfl rfl hv42 hi42) ?_
          refine r_u (o_ldR sc60 rfl hR42 (rok 0 he42 (by decide))) ?_
          refine r_u (o_lenR Tryz.underlying60 rfl hN42) ?_
          refine r_u (o_bin rfl rfl (bI_lt k_35 (x42.length : Int))) ?_
          refine r_nil ?_
          refine x_seq ?_
          refine c_if (b := decide (k_35 < (x42.length : Int))) rfl (fun h45 => ?_) fun h45 => ?_
          · have hm46 := ift hm44 h45
            clear hm44
            refine c_skip ?_
            refine x_seq ?_
            refine c_seq ?_
            refine c_blk ?_
            refine c_seq ?_
            refine c_reg ?_
            refine r_u (o_fa fa34_0 rfl) ?_
            refine r_u (o_ld 2 sc32 rfl rfl rfl) ?_
            refine r_u (o_mv rfl) ?_
            refine r_u (o_ix (sz := 1) Tryz.underlying32 (fun _ => by kernel_rfl) rfl rfl hv42 hi42) ?_
            refine r_u (o_ldR sc60 rfl hR42 (rok 0 he42 (by decide))) ?_
            refine r_u (o_mv rfl) ?_
            obtain ⟨x47, hx47, hm48⟩ := bs hm46
            clear hm46
            obtain ⟨b47, o47, l47, T47, fr47, c47, hv47, hR47, he47, hi47⟩ := RoS.ne hN42 hx47
            refine r_u (o_ix (sz := 1) Tryz.underlying60 (fun _ => by kernel_rfl) rfl rfl hv47 hi47) ?_
            refine r_u (o_ldR sc9 rfl hR47 (rok 0 he47 (by decide))) ?_
            refine r_u (o_mv rfl) ?_
            refine r_u (o_bin rfl rfl (bS_ne x47 a1)) ?_
            refine r_nil ?_
            refine x_seq ?_
            obtain ⟨p49, hp51, hm52⟩ := bs hm48
            refine cd_cut (fun x ks => ∀ (g50 : Value), EX x .normal ks [(1, vS a1), (2, pt b0 0), (4, pt b1 0), (5, pt b6 0), (6, vI i_12), (8, vI k_35), (7, g50)] R (Bk b6 34 [v3.L.1, vI r2.Places] :: Bk b1 34 [.slice none 0 0, vI 0] :: Bk b0 34 [g0_.L.1, vI a0.Places] :: OwS true 60 1 eV v3.L.1 hs14 :: OwL (OwS true 9 1 eS) hs14 c_13 :: OwS true 9 1 eS g50 p49 :: F)) ?_ fun K53 => ?_
            · intro g50
              refine x_blk ?_
              refine x_seq ?_
              refine c_reg ?_
              refine r_u (o_mv rfl) ?_
              refine r_u (o_bin rfl rfl (bI_add k_35 1)) ?_
              refine r_u (o_as rfl) ?_
              refine r_nil ?_
              exact x_lp (p49, i64 (k_35 + 1), g50) hm52 ⟨rfl, rfl, rfl, rfl, rfl, rfl, rfl, trivial⟩ (fun _ h => st_pk 6 [0, 1, 2, 3, 4, 5] (by decide) h)
            · refine c_if (b := (x47 != a1)) rfl (fun h54 => ?_) fun h54 => ?_
              · have hm55 := ift hp51 h54
                clear hp51
                refine c_reg ?_
                refine r_u (o_mv rfl) ?_
                refine r_u (o_fa fa34_0 rfl) ?_
                refine r_u (o_ld 2 sc32 rfl rfl rfl) ?_
                refine r_u (o_mv rfl) ?_
                refine r_u (o_ix (sz := 1) Tryz.underlying32 (fun _ => by kernel_rfl) rfl rfl hv42 hi42) ?_
                refine r_u (o_ldR sc60 rfl hR42 (rok 0 he42 (by decide))) ?_
                refine r_u (o_mv rfl) ?_
                refine r_u (o_ix (sz := 1) Tryz.underlying60 (fun _ => by kernel_rfl) rfl rfl hv47 hi47) ?_
                refine r_u (o_ldR sc9 rfl hR47 (rok 0 he47 (by decide))) ?_
                refine r_sw (s_w (o_bsl (en := eS) (sz := 1) (e := 9) (cs := [vS x47]) (r := [x47]) rfl (fun _ => by kernel_rfl) rfl (by decide) rfl (fun _ => rfl))) ?_
                rintro v56 R _ _ ⟨rfl, rfl⟩
                obtain ⟨l58, hl58, hm59⟩ := bs hm55
                clear hm55
                refine rl_st (fun _ h => mv6 h) ?_
                refine r_sw (s_w (o_ap (sz := 1) (bytes := 16) 0 Tryz.underlying60 rfl rfl rfl rfl rfl (by decide) (by decide) (fun _ _ _ h => by simp at h; subst h; rfl) (fun _ => rfl) rfl rfl rfl rfl (Nat.succ_pos _) hl58)) ?_
                rintro v57 R _ _ ⟨rfl, rfl⟩
                refine r_u (o_as rfl) ?_
                refine r_nil ?_
                obtain rfl := Option.some.inj hm59
                exact x_sub (K53 v57) ⟨rfl, rfl, rfl, rfl, rfl, rfl, rfl, trivial⟩ (fun _ h => st_pk 7 [2, 3, 4, 5, 6, 0] (by decide) h)
              · have hm55 := iff_ hp51 h54
                clear hp51
                refine c_skip ?_
                obtain rfl := Option.some.inj hm55
                exact x_sub (K53 g36) ⟨rfl, rfl, rfl, rfl, rfl, rfl, rfl, trivial⟩ (fun _ h => st_pk 6 [0, 1, 2, 3, 4, 5] (by decide) h)
          · have hm46 := iff_ hm44 h45
            clear hm44
            refine c_exit (x_exit (ks' := _) rfl ?_)
            obtain rfl := Option.some.inj hm46
            exact x_sub (K30 g36) ⟨rfl, rfl, rfl, rfl, rfl, rfl, trivial⟩ (fun _ h => st_pk 6 [0, 1, 2, 3, 4, 5] (by decide) h)
    · have hm19 := iff_ hm16 h18
      clear hm16
      refine c_exit (x_exit (ks' := _) rfl ?_)
      obtain rfl := Option.some.inj hm19
      exact x_sub (K11 hs14) ⟨rfl, rfl, trivial⟩ (fun _ h => st_pk 5 [0, 1, 2, 3, 4] (by decide) h)

def hawthornref06_Rings_Front (a0 : hawthornref06_Rings) (a1 : Int) (a2 : Str) : Option (hawthornref06_Rings × Bool) :=
  (hawthornref06_Rings_In a0 a2).bind fun r2 => Option.bind (if ((decide (a1 < 0) || decide ((a0.L.length : Int) ≤ a1)) || decide (64 < (a2.length : Int))) then some true else Option.bind (if r2.2 then some false else (hawthornref06_Rings_Many a0).bind fun r34 => some (decide (a0.Places ≤ r34))) fun p28 => some p28) fun p4 => if p4 then some (a0, false) else (hawthornref06_Rings_Drop a0 a2).bind fun r10 => (gi r10.L a1).bind fun y16 => (apd 16 [a2] y16).bind fun l20 => some ((⟨ls r10.L a1 l20, r10.Places⟩ : hawthornref06_Rings), true)
theorem hawthornref06_Rings_Front.ok {G R F} (a0 : hawthornref06_Rings) (g0_ : hawthornref06_Rings.G) (h0 : hawthornref06_Rings.ro R a0 g0_) (a1 : Int) (a2 : Str) (r : hawthornref06_Rings × Bool) (hm : hawthornref06_Rings_Front a0 a1 a2 = some r) : CO Tryz.prog 80 [.agg [g0_.L.1, vI a0.Places].toArray, vI a1, vS a2] G R (F)
    (Ret fun u R' L' => ∃ (p0 : hawthornref06_Rings.G), u = .tuple #[.agg [p0.L.1, vI r.1.Places].toArray, vB r.2] ∧ (hawthornref06_Rings.ro R' r.1 p0) ∧ L' = F) := by
  unfold hawthornref06_Rings_Front at hm
  refine co_ofN (N := 59) Tryz.func80 rfl rfl ?_
  refine c_seq ?_
  refine c_reg ?_
  refine r_new (o_bx [g0_.L.1, vI a0.Places] rfl rfl) fun b0 => ?_
  refine r_new (o_al ze34) fun b1 => ?_
  refine r_u (o_as rfl) ?_
  refine r_nil ?_
  refine x_seq ?_
  refine c_seq ?_
  refine c_reg ?_
  refine r_u (o_ldn 1 [g0_.L.1, vI a0.Places] ag34 rfl rfl rfl rfl) ?_
  refine r_u (o_mv rfl) ?_
  obtain ⟨r2, hr2, hm3⟩ := bs hm
  clear hm
  refine r_u (o_callq ca38 rfl (hawthornref06_Rings_In.ok a0 (⟨(g0_.L.1, [])⟩ : hawthornref06_Rings.G) h0 a2 r2 hr2)) ?_
  refine r_u (o_mv rfl) ?_
  refine r_u (o_ext rfl rfl) ?_
  refine r_u (o_ext rfl rfl) ?_
  refine r_u (o_as rfl) ?_
  refine r_u (o_as rfl) ?_
  refine r_nil ?_
  refine x_seq ?_
  refine c_seq ?_
  refine c_seq ?_
  obtain ⟨p4, hp5, hm6⟩ := bs hm3
  refine cd_join (E' := [(1, vI a1), (2, vS a2), (3, pt b0 0), (6, pt b1 0), (41, vB p4)]) (L' := Bk b1 34 [.slice none 0 0, vI 0] :: Bk b0 34 [g0_.L.1, vI a0.Places] :: F) ?_ fun K7 => ?_
  · refine x_seq ?_
    refine c_if (b := p4) rfl (fun h8 => ?_) fun h8 => ?_
    · have hm9 := ift hm6 h8
      clear hm6
      refine c_seq ?_
      refine c_reg ?_
      refine r_u (o_ldn 1 [g0_.L.1, vI a0.Places] ag34 rfl rfl rfl rfl) ?_
      refine r_u0 (o_stn ag34 rfl rfl rfl (al_c (RoN.one h0) (al_c rfl al_n)) rfl rfl rfl) ?_
      refine r_u (o_as rfl) ?_
      refine r_nil ?_
      refine x_seq ?_
      refine c_ret ?_
      obtain rfl := Option.some.inj hm9
      exact x_d2 rfl (rv_n 0 [g0_.L.1, vI a0.Places] ag34 rfl rfl rfl rfl) (rv_t rfl) (fun _ h => st_pk 2 [] (by decide) h) (Le.refl _) ⟨_, rfl, (⟨(g0_.L.1, [])⟩ : hawthornref06_Rings.G), rfl, h0, rfl⟩
    · have hm9 := iff_ hm6 h8
      clear hm6
      refine c_skip ?_
      refine x_seq ?_
      refine c_seq ?_
      refine c_reg ?_
      refine r_u (o_ldn 1 [g0_.L.1, vI a0.Places] ag34 rfl rfl rfl rfl) ?_
      refine r_u (o_mv rfl) ?_
      obtain ⟨r10, hr10, hm13⟩ := bs hm9
      clear hm9
      refine r_sw (s_w (o_call ca59 rfl (hawthornref06_Rings_Drop.ok a0 (⟨(g0_.L.1, [])⟩ : hawthornref06_Rings.G) h0 a2 r10 hr10))) ?_
      rintro _ R _ _ ⟨v11, rfl, rfl, rfl⟩
      refine r_new (o_al ze34) fun b14 => ?_
      refine r_u0 (ou_if (one_o 1 rfl) fun ho0 => o_stn ag34 rfl rfl rfl (al_c ho0 (al_c rfl al_n)) rfl rfl rfl) ?_
      refine r_nil ?_
      refine x_seq ?_
      refine c_seq ?_
      obtain ⟨y16, hy16, hm18⟩ := bs hm13
      clear hm13
      refine cd_ex (fun w h => st_peek 2 hy16 rfl w h) fun u17 hu17 => ?_
      obtain ⟨l20, hl20, hm21⟩ := bs hm18
      clear hm18
      refine c_any mixed (effs := [4, 10, 12]) (V := []) ?_
      refine stage_ext [(0, pt b14 0), (1, v11.L.1), (2, vI a1), (3, vS a2), (5, pt b14 0), (6, v11.L.1), (7, vI a1), (8, pt (sb v11.L.1) (so v11.L.1 + a1.toNat * 1)), (9, u17)] rfl ?_
      refine stage rfl rfl rfl rfl [0, 1, 0, 0, 8, 0, 32, 0, 224, 480, 1016, 2047, 4095] [0, 1, 2, 3, 5, 6, 7, 8, 9] [4] rfl rfl rfl (qc rfl rfl (s_u (o_fa fa34_0 rfl)) (qc rfl rfl (s_u (o_ld 0 sc32 rfl rfl rfl)) (qc rfl rfl (s_u (o_mv rfl)) (qc rfl rfl (s_u (o_mv rfl)) (qc rfl rfl (s_u (o_fa fa34_0 rfl)) (qc rfl rfl (s_u (o_ld 0 sc32 rfl rfl rfl)) (qc rfl rfl (s_u (o_mv rfl)) (qc rfl rfl (s_u (o_ixO 1 Tryz.underlying32 (fun _ => by kernel_rfl) rfl rfl rfl hu17)) (qc rfl rfl (s_u (o_ldO0 1 sc60 rfl rfl hu17 rfl rfl)) qn))))))))) ?_ (fun h => absurd h (by decide))
      refine ec (eo_w rfl (s_w (o_bsl (en := eS) (sz := 1) (e := 9) (cs := [vS a2]) (r := [a2]) rfl (fun _ => by kernel_rfl) rfl (by decide) rfl (fun _ => rfl))) ?_) en
      rintro v15 R _ _ ⟨rfl, rfl⟩
      refine stage_st (fun _ h => mv1 (mv3 h)) ?_
      refine stage rfl rfl rfl rfl [0, 1, 0, 0, 8, 0, 32, 0, 224, 480, 1016, 2047, 4095] [0, 1, 2, 5, 6, 7, 8, 9] [10] rfl rfl rfl (qc rfl rfl (s_u (o_fa fa34_0 rfl)) (qc rfl rfl (s_u (o_ld 2 sc32 rfl rfl rfl)) (qc rfl rfl (s_u (o_mv rfl)) (qc rfl rfl (s_u (o_fa fa34_0 rfl)) (qc rfl rfl (s_u (o_ld 2 sc32 rfl rfl rfl)) (qc rfl rfl (s_u (o_mv rfl)) (qc rfl rfl (s_u (o_ixO 3 Tryz.underlying32 (fun _ => by kernel_rfl) rfl rfl rfl hu17)) (qc rfl rfl (s_u (o_ldO0 3 sc60 rfl rfl hu17 rfl rfl)) qn)))))))) ?_ (fun h => absurd h (by decide))
      refine ec (eo_w rfl (s_w (o_apG (sz := 1) (bytes := 16) Tryz.underlying60 rfl rfl rfl rfl rfl (by decide) (by decide) (fun _ _ _ h => by simp at h; subst h; rfl) (fun _ => rfl) rfl rfl rfl (row_k (kn_in 1 rfl hu17 hy16)) hl20)) ?_) en
      rintro v19 R _ _ ⟨rfl, rfl⟩
      refine stage_st (fun _ h => mv3 (mv1 h)) ?_
      refine stage_ext [(11, pt (sb v11.L.1) (so v11.L.1 + a1.toNat * 1))] rfl ?_
      refine stage rfl rfl rfl rfl [0, 1, 0, 0, 8, 0, 32, 0, 224, 480, 1016, 2047, 4095] [0, 1, 2, 11] [12] rfl rfl rfl (qc rfl rfl (s_u (o_fa fa34_0 rfl)) (qc rfl rfl (s_u (o_ld 3 sc32 rfl rfl rfl)) (qc rfl rfl (s_u (o_mv rfl)) (qc rfl rfl (s_u (o_ixO 0 Tryz.underlying32 (fun _ => by kernel_rfl) rfl rfl rfl hu17)) qn)))) ?_ (fun h => absurd h (by decide))
      refine ec (eo_u rfl (s_u (ou_if (one_o 2 rfl) fun ho => o_stH hy16 hu17 sc60 rfl rfl rfl ho)) (Le.refl _) ?_) en
      refine stage rfl rfl rfl rfl [0, 1, 0, 0, 8, 0, 32, 0, 224, 480, 1016, 2047, 4095] [] [] rfl rfl rfl qn en ?_
      intro _
      refine ex_sub (E' := [(6, pt b1 0), (10, pt b14 0)]) ⟨rfl, rfl, trivial⟩ ?_
      refine x_seq ?_
      refine c_seq ?_
      refine c_reg ?_
      refine r_u (o_ldn 2 [v11.L.1, vI r10.Places] ag34 rfl rfl rfl rfl) ?_
      refine rl_st (fun _ h => mv3 h) ?_
      refine r_u0 (ou_if (one_o 1 rfl) fun ho0 => o_stn ag34 rfl rfl rfl (al_c ho0 (al_c rfl al_n)) rfl rfl rfl) ?_
      refine r_u (o_as rfl) ?_
      refine r_nil ?_
      refine x_seq ?_
      refine c_ret ?_
      refine ex_st (fun _ h => mv2 (mv2 h)) ?_
      refine ex_ex (fun w h => st_freezeN w h) fun R22 hf25 => ?_
      obtain ⟨le23, h24⟩ := hf25
      obtain rfl := Option.some.inj hm21
      exact x_d2 rfl (rv_n 0 [v11.L.1, vI r10.Places] ag34 rfl rfl rfl rfl) (rv_t rfl) (fun _ h => st_pk 3 [] (by decide) h) le23 ⟨_, rfl, (⟨(v11.L.1, [])⟩ : hawthornref06_Rings.G), rfl, h24, rfl⟩
  · refine cd_by ((decide (a1 < 0) || decide ((a0.L.length : Int) ≤ a1)) || decide (64 < (a2.length : Int))) (fun h26 => ?_) fun h26 => ?_
    · have hm27 := ift hp5 h26
      clear hp5
      refine c_any mixed (effs := []) (V := []) ?_
      refine stage_ext [(0, vI a1), (1, vB (decide (a1 < 0))), (2, vB (decide (a1 < 0))), (3, gv (!(decide (a1 < 0))) (vI a1)), (4, gv (!(decide (a1 < 0))) (pt b0 0)), (5, gv (!(decide (a1 < 0))) g0_.L.1), (6, gv (!(decide (a1 < 0))) (vI (a0.L.length : Int))), (7, gv (!(decide (a1 < 0))) (vB (decide ((a0.L.length : Int) ≤ a1)))), (8, vB (decide (a1 < 0) || decide ((a0.L.length : Int) ≤ a1))), (9, vB (decide (a1 < 0) || decide ((a0.L.length : Int) ≤ a1))), (10, gv (!(decide (a1 < 0) || decide ((a0.L.length : Int) ≤ a1))) (vS a2)), (11, gv (!(decide (a1 < 0) || decide ((a0.L.length : Int) ≤ a1))) (vI (a2.length : Int))), (12, gv (!(decide (a1 < 0) || decide ((a0.L.length : Int) ≤ a1))) (vB (decide (64 < (a2.length : Int))))), (13, vB ((decide (a1 < 0) || decide ((a0.L.length : Int) ≤ a1)) || decide (64 < (a2.length : Int)))), (14, vB ((decide (a1 < 0) || decide ((a0.L.length : Int) ≤ a1)) || decide (64 < (a2.length : Int)))), (15, undef), (16, undef), (17, undef), (18, undef), (19, undef), (20, undef), (21, undef), (22, undef), (23, undef), (24, vB true)] rfl ?_
      refine stage rfl rfl rfl rfl [0, 1, 3, 7, 7, 23, 55, 127, 255, 511, 1023, 2047, 4095, 8191, 16383, 32767, 65535, 131071, 262143, 524287, 262143, 1310719, 4194303, 8388607, 16777215] [0, 1, 2, 3, 4, 5, 6, 7, 8, 9, 10, 11, 12, 13, 14, 15, 16, 17, 18, 19, 20, 21, 22, 23, 24] [] rfl rfl rfl (qc rfl rfl (s_u (o_mv rfl)) (qc rfl rfl (s_u (o_bin rfl rfl (bI_lt a1 0))) (qc rfl rfl (s_u (o_mv rfl)) (qc rfl rfl (s_gf rfl rfl fun g => o_mv rfl) (qc rfl rfl (s_gf rfl rfl fun g => o_fa fa34_0 rfl) (qc rfl rfl (s_gf rfl rfl fun g => o_ld 1 sc32 (evg rfl g) rfl rfl) (qc rfl rfl (s_gf rfl rfl fun g => o_lenRN Tryz.underlying32 (evg rfl g) h0) (qc rfl rfl (s_gf rfl rfl fun g => o_bin (evg rfl g) (evg rfl g) (bI_ge a1 (a0.L.length : Int))) (qc rfl rfl (s_u (o_or rfl rfl)) (qc rfl rfl (s_u (o_mv rfl)) (qc rfl rfl (s_gf rfl rfl fun g => o_mv rfl) (qc rfl rfl (s_gf rfl rfl fun g => o_lenS Tryz.underlying9 (evg rfl g)) (qc rfl rfl (s_gf rfl rfl fun g => o_bin (evg rfl g) rfl (bI_gt (a2.length : Int) 64)) (qc rfl rfl (s_u (o_or rfl rfl)) (qc rfl rfl (s_u (o_mv rfl)) (qc rfl rfl (s_n rfl rfl h26) (qc rfl rfl (s_n rfl rfl h26) (qc rfl rfl (s_n rfl rfl h26) (qc rfl rfl (s_nu rfl rfl) (qc rfl rfl (s_nu rfl rfl) (qc rfl rfl (s_nu rfl rfl) (qc rfl rfl (s_nu rfl rfl) (qc rfl rfl (s_nu rfl rfl) (qc rfl rfl (s_n rfl rfl h26) (qc rfl rfl (s_u (o_pt rfl h26 rfl)) qn))))))))))))))))))))))))) en ?_
      intro _
      refine ex_sub (E' := [(1, vI a1), (2, vS a2), (3, pt b0 0), (6, pt b1 0), (41, vB true)]) ⟨rfl, rfl, rfl, rfl, rfl, trivial⟩ ?_
      obtain rfl := Option.some.inj hm27
      exact x_sub K7 ⟨rfl, rfl, rfl, rfl, rfl, trivial⟩ (fun _ h => st_pk 2 [0, 1] (by decide) h)
    · have hm27 := iff_ hp5 h26
      clear hp5
      obtain ⟨p28, hp29, hm30⟩ := bs hm27
      refine cd_join (E' := [(1, vI a1), (2, vS a2), (3, pt b0 0), (6, pt b1 0), (41, vB p28)]) (L' := Bk b1 34 [.slice none 0 0, vI 0] :: Bk b0 34 [g0_.L.1, vI a0.Places] :: F) ?_ fun K31 => ?_
      · obtain rfl := Option.some.inj hm30
        exact x_sub K7 ⟨rfl, rfl, rfl, rfl, rfl, trivial⟩ (fun _ h => st_pk 2 [0, 1] (by decide) h)
      · refine cd_by r2.2 (fun h32 => ?_) fun h32 => ?_
        · have hm33 := ift hp29 h32
          clear hp29
          refine c_any mixed (effs := []) (V := []) ?_
          refine stage_ext [(0, vI a1), (1, vB (decide (a1 < 0))), (2, vB (decide (a1 < 0))), (3, gv (!(decide (a1 < 0))) (vI a1)), (4, gv (!(decide (a1 < 0))) (pt b0 0)), (5, gv (!(decide (a1 < 0))) g0_.L.1), (6, gv (!(decide (a1 < 0))) (vI (a0.L.length : Int))), (7, gv (!(decide (a1 < 0))) (vB (decide ((a0.L.length : Int) ≤ a1)))), (8, vB (decide (a1 < 0) || decide ((a0.L.length : Int) ≤ a1))), (9, vB (decide (a1 < 0) || decide ((a0.L.length : Int) ≤ a1))), (10, gv (!(decide (a1 < 0) || decide ((a0.L.length : Int) ≤ a1))) (vS a2)), (11, gv (!(decide (a1 < 0) || decide ((a0.L.length : Int) ≤ a1))) (vI (a2.length : Int))), (12, gv (!(decide (a1 < 0) || decide ((a0.L.length : Int) ≤ a1))) (vB (decide (64 < (a2.length : Int))))), (13, vB ((decide (a1 < 0) || decide ((a0.L.length : Int) ≤ a1)) || decide (64 < (a2.length : Int)))), (14, vB ((decide (a1 < 0) || decide ((a0.L.length : Int) ≤ a1)) || decide (64 < (a2.length : Int)))), (15, vB r2.2), (16, vB (!r2.2)), (17, vB (!r2.2)), (18, undef), (19, undef), (20, undef), (21, undef), (22, undef), (23, vB false), (24, vB false)] rfl ?_
          refine stage rfl rfl rfl rfl [0, 1, 3, 7, 7, 23, 55, 127, 255, 511, 1023, 2047, 4095, 8191, 16383, 32767, 65535, 131071, 262143, 524287, 262143, 1310719, 4194303, 8388607, 16777215] [0, 1, 2, 3, 4, 5, 6, 7, 8, 9, 10, 11, 12, 13, 14, 15, 16, 17, 18, 19, 20, 21, 22, 23, 24] [] rfl rfl rfl (qc rfl rfl (s_u (o_mv rfl)) (qc rfl rfl (s_u (o_bin rfl rfl (bI_lt a1 0))) (qc rfl rfl (s_u (o_mv rfl)) (qc rfl rfl (s_gf rfl rfl fun g => o_mv rfl) (qc rfl rfl (s_gf rfl rfl fun g => o_fa fa34_0 rfl) (qc rfl rfl (s_gf rfl rfl fun g => o_ld 1 sc32 (evg rfl g) rfl rfl) (qc rfl rfl (s_gf rfl rfl fun g => o_lenRN Tryz.underlying32 (evg rfl g) h0) (qc rfl rfl (s_gf rfl rfl fun g => o_bin (evg rfl g) (evg rfl g) (bI_ge a1 (a0.L.length : Int))) (qc rfl rfl (s_u (o_or rfl rfl)) (qc rfl rfl (s_u (o_mv rfl)) (qc rfl rfl (s_gf rfl rfl fun g => o_mv rfl) (qc rfl rfl (s_gf rfl rfl fun g => o_lenS Tryz.underlying9 (evg rfl g)) (qc rfl rfl (s_gf rfl rfl fun g => o_bin (evg rfl g) rfl (bI_gt (a2.length : Int) 64)) (qc rfl rfl (s_u (o_or rfl rfl)) (qc rfl rfl (s_u (o_mv rfl)) (qc rfl rfl (s_y rfl rfl h26 (o_mv rfl)) (qc rfl rfl (s_y rfl rfl h26 (o_not rfl)) (qc rfl rfl (s_y rfl rfl h26 (o_mv rfl)) (qc rfl rfl (s_n rfl rfl (nbf h32)) (qc rfl rfl (s_n rfl rfl (nbf h32)) (qc rfl rfl (s_n rfl rfl (nbf h32)) (qc rfl rfl (s_n rfl rfl (nbf h32)) (qc rfl rfl (s_n rfl rfl (nbf h32)) (qc rfl rfl (s_y rfl rfl h26 (o_pf rfl (nbf h32) rfl)) (qc rfl rfl (s_u (o_pf rfl h26 rfl)) qn))))))))))))))))))))))))) en ?_
          intro _
          refine ex_sub (E' := [(1, vI a1), (2, vS a2), (3, pt b0 0), (6, pt b1 0), (41, vB false)]) ⟨rfl, rfl, rfl, rfl, rfl, trivial⟩ ?_
          obtain rfl := Option.some.inj hm33
          exact x_sub K31 ⟨rfl, rfl, rfl, rfl, rfl, trivial⟩ (fun _ h => st_pk 2 [0, 1] (by decide) h)
        · have hm33 := iff_ hp29 h32
          clear hp29
          obtain ⟨r34, hr34, hm35⟩ := bs hm33
          clear hm33
          refine c_any mixed (effs := []) (V := []) ?_
          refine stage_ext [(0, vI a1), (1, vB (decide (a1 < 0))), (2, vB (decide (a1 < 0))), (3, gv (!(decide (a1 < 0))) (vI a1)), (4, gv (!(decide (a1 < 0))) (pt b0 0)), (5, gv (!(decide (a1 < 0))) g0_.L.1), (6, gv (!(decide (a1 < 0))) (vI (a0.L.length : Int))), (7, gv (!(decide (a1 < 0))) (vB (decide ((a0.L.length : Int) ≤ a1)))), (8, vB (decide (a1 < 0) || decide ((a0.L.length : Int) ≤ a1))), (9, vB (decide (a1 < 0) || decide ((a0.L.length : Int) ≤ a1))), (10, gv (!(decide (a1 < 0) || decide ((a0.L.length : Int) ≤ a1))) (vS a2)), (11, gv (!(decide (a1 < 0) || decide ((a0.L.length : Int) ≤ a1))) (vI (a2.length : Int))), (12, gv (!(decide (a1 < 0) || decide ((a0.L.length : Int) ≤ a1))) (vB (decide (64 < (a2.length : Int))))), (13, vB ((decide (a1 < 0) || decide ((a0.L.length : Int) ≤ a1)) || decide (64 < (a2.length : Int)))), (14, vB ((decide (a1 < 0) || decide ((a0.L.length : Int) ≤ a1)) || decide (64 < (a2.length : Int)))), (15, vB r2.2), (16, vB (!r2.2)), (17, vB (!r2.2)), (18, .agg [g0_.L.1, vI a0.Places].toArray), (19, vI r34), (20, pt b0 1), (21, vI a0.Places), (22, vB (decide (a0.Places ≤ r34))), (23, vB (decide (a0.Places ≤ r34))), (24, vB (decide (a0.Places ≤ r34)))] rfl ?_
          refine stage rfl rfl rfl rfl [0, 1, 3, 7, 7, 23, 55, 127, 255, 511, 1023, 2047, 4095, 8191, 16383, 32767, 65535, 131071, 262143, 524287, 262143, 1310719, 4194303, 8388607, 16777215] [0, 1, 2, 3, 4, 5, 6, 7, 8, 9, 10, 11, 12, 13, 14, 15, 16, 17, 18, 19, 20, 21, 22, 23, 24] [] rfl rfl rfl (qc rfl rfl (s_u (o_mv rfl)) (qc rfl rfl (s_u (o_bin rfl rfl (bI_lt a1 0))) (qc rfl rfl (s_u (o_mv rfl)) (qc rfl rfl (s_gf rfl rfl fun g => o_mv rfl) (qc rfl rfl (s_gf rfl rfl fun g => o_fa fa34_0 rfl) (qc rfl rfl (s_gf rfl rfl fun g => o_ld 1 sc32 (evg rfl g) rfl rfl) (qc rfl rfl (s_gf rfl rfl fun g => o_lenRN Tryz.underlying32 (evg rfl g) h0) (qc rfl rfl (s_gf rfl rfl fun g => o_bin (evg rfl g) (evg rfl g) (bI_ge a1 (a0.L.length : Int))) (qc rfl rfl (s_u (o_or rfl rfl)) (qc rfl rfl (s_u (o_mv rfl)) (qc rfl rfl (s_gf rfl rfl fun g => o_mv rfl) (qc rfl rfl (s_gf rfl rfl fun g => o_lenS Tryz.underlying9 (evg rfl g)) (qc rfl rfl (s_gf rfl rfl fun g => o_bin (evg rfl g) rfl (bI_gt (a2.length : Int) 64)) (qc rfl rfl (s_u (o_or rfl rfl)) (qc rfl rfl (s_u (o_mv rfl)) (qc rfl rfl (s_y rfl rfl h26 (o_mv rfl)) (qc rfl rfl (s_y rfl rfl h26 (o_not rfl)) (qc rfl rfl (s_y rfl rfl h26 (o_mv rfl)) (qc rfl rfl (s_y rfl rfl (nbt h32) (o_ldn 1 [g0_.L.1, vI a0.Places] ag34 rfl rfl rfl rfl)) (qc rfl rfl (s_y rfl rfl (nbt h32) (o_callq ca64 rfl (hawthornref06_Rings_Many.ok a0 (⟨(g0_.L.1, [])⟩ : hawthornref06_Rings.G) h0 r34 hr34))) (qc rfl rfl (s_y rfl rfl (nbt h32) (o_fa fa34_1 rfl)) (qc rfl rfl (s_y rfl rfl (nbt h32) (o_ld 1 sc3 rfl rfl rfl)) (qc rfl rfl (s_y rfl rfl (nbt h32) (o_bin rfl rfl (bI_ge r34 a0.Places))) (qc rfl rfl (s_y rfl rfl h26 (o_pt rfl (nbt h32) rfl)) (qc rfl rfl (s_u (o_pf rfl h26 rfl)) qn))))))))))))))))))))))))) en ?_
          intro _
          refine ex_sub (E' := [(1, vI a1), (2, vS a2), (3, pt b0 0), (6, pt b1 0), (41, vB (decide (a0.Places ≤ r34)))]) ⟨rfl, rfl, rfl, rfl, rfl, trivial⟩ ?_
          obtain rfl := Option.some.inj hm35
          exact x_sub K31 ⟨rfl, rfl, rfl, rfl, rfl, trivial⟩ (fun _ h => st_pk 2 [0, 1] (by decide) h)

def hawthornref08_Tiny_front (a0 : hawthornref08_Tiny) (a1 : Int) (a2 : Str) : Option hawthornref08_Tiny :=
  (hawthornref06_Rings_Front a0.R a1 a2).bind fun r2 => some (⟨a0.Most, a0.S, r2.1⟩ : hawthornref08_Tiny)
theorem hawthornref08_Tiny_front.ok {G R F} (a0 : hawthornref08_Tiny) (g0_ : hawthornref08_Tiny.G) (h0 : hawthornref08_Tiny.ro R a0 g0_) (a1 : Int) (a2 : Str) (r : hawthornref08_Tiny) (hm : hawthornref08_Tiny_front a0 a1 a2 = some r) : CO Tryz.prog 56 [.agg [vI a0.Most, vI a0.S.Wide, vW a0.S.Seed, g0_.S.Rows.1, g0_.S.Door, vI a0.S.Added, g0_.R.L.1, vI a0.R.Places].toArray, vI a1, vS a2] G R (F)
    (Ret fun u R' L' => ∃ (p0 : hawthornref08_Tiny.G), u = .agg [vI r.Most, vI r.S.Wide, vW r.S.Seed, p0.S.Rows.1, p0.S.Door, vI r.S.Added, p0.R.L.1, vI r.R.Places].toArray ∧ (hawthornref08_Tiny.ro R' r p0) ∧ L' = F) := by
  unfold hawthornref08_Tiny_front at hm
  refine co_ofN (N := 17) Tryz.func56 rfl rfl ?_
  refine c_seq ?_
  refine c_reg ?_
  refine r_new (o_bx [vI a0.Most, vI a0.S.Wide, vW a0.S.Seed, g0_.S.Rows.1, g0_.S.Door, vI a0.S.Added, g0_.R.L.1, vI a0.R.Places] rfl rfl) fun b0 => ?_
  refine r_new (o_al ze36) fun b1 => ?_
  refine r_nil ?_
  refine x_seq ?_
  refine c_seq ?_
  refine c_reg ?_
  refine r_u (o_fa fa36_2 rfl) ?_
  refine r_u (o_ldn 1 [g0_.R.L.1, vI a0.R.Places] ag34 rfl rfl rfl rfl) ?_
  refine r_u (o_mv rfl) ?_
  refine r_u (o_mv rfl) ?_
  obtain ⟨r2, hr2, hm8⟩ := bs hm
  clear hm
  refine r_sw (s_w (o_call ca80 rfl (hawthornref06_Rings_Front.ok a0.R (⟨(g0_.R.L.1, [])⟩ : hawthornref06_Rings.G) h0.2 a1 a2 r2 hr2))) ?_
  rintro _ R6 _ le7 ⟨v3, rfl, hf4, rfl⟩
  refine r_u (o_mv rfl) ?_
  refine r_u (o_ext rfl rfl) ?_
  refine r_u (o_ext rfl rfl) ?_
  refine r_u (o_fa fa36_2 rfl) ?_
  refine rl_st (fun _ h => mv1 h) ?_
  refine r_u0 (o_stn ag34 rfl rfl rfl (al_c (RoN.one hf4) (al_c rfl al_n)) rfl rfl rfl) ?_
  refine r_nil ?_
  refine x_seq ?_
  refine c_seq ?_
  refine c_reg ?_
  refine r_u (o_ldn 0 [vI a0.Most, vI a0.S.Wide, vW a0.S.Seed, g0_.S.Rows.1, g0_.S.Door, vI a0.S.Added, v3.L.1, vI r2.1.Places] ag36 rfl rfl rfl rfl) ?_
  refine rl_st (fun _ h => mv1 h) ?_
  refine r_u0 (o_stn ag36 rfl rfl rfl (al_c rfl (al_c rfl (al_c rfl (al_c (RoN.one (RoN.mono le7 h0.1.1)) (al_c (RoS.one (RoS.mono le7 h0.1.2)) (al_c rfl (al_c (RoN.one hf4) (al_c rfl al_n)))))))) rfl rfl rfl) ?_
  refine r_nil ?_
  refine x_seq ?_
  refine c_ret ?_
  obtain rfl := Option.some.inj hm8
  exact x_d1 rfl (rv_n 0 [vI a0.Most, vI a0.S.Wide, vW a0.S.Seed, g0_.S.Rows.1, g0_.S.Door, vI a0.S.Added, v3.L.1, vI r2.1.Places] ag36 rfl rfl rfl rfl) (fun _ h => st_pk 2 [] (by decide) h) le7 ⟨_, rfl, (⟨(⟨(g0_.S.Rows.1, []), g0_.S.Door⟩ : hawthornref05_Sketch.G), (⟨(v3.L.1, [])⟩ : hawthornref06_Rings.G)⟩ : hawthornref08_Tiny.G), rfl, ⟨⟨(RoN.mono le7 h0.1.1), (RoS.mono le7 h0.1.2)⟩, hf4⟩, rfl⟩

def hawthornref08_Parts (a0 : Int) : Int × Int :=
  lt (if decide ((i64 (a0.tdiv 8)) < 1) then 1 else i64 (a0.tdiv 8)) fun p0 => (p0, i64 ((i64 ((i64 (a0 - p0)) * 4)).tdiv 5))
theorem hawthornref08_Parts.ok {G R F} (a0 : Int) (r : Int × Int) (hm : hawthornref08_Parts a0 = r) : CO Tryz.prog 57 [vI a0] G R (F)
    (Ret fun u R' L' => u = .tuple #[vI r.1, vI r.2] ∧ R' = R ∧ L' = F) := by
  unfold hawthornref08_Parts at hm
  refine co_ofN (N := 15) Tryz.func57 rfl rfl ?_
  refine c_seq ?_
  refine c_reg ?_
  refine r_u (o_as rfl) ?_
  refine r_u (o_as rfl) ?_
  refine r_nil ?_
  refine x_seq ?_
  refine c_seq ?_
  refine c_reg ?_
  refine r_u (o_mv rfl) ?_
  refine r_u (o_bin rfl rfl (bI_quo a0 8 (by decide))) ?_
  refine r_u (o_as rfl) ?_
  refine r_nil ?_
  refine x_seq ?_
  refine c_seq ?_
  refine c_seq ?_
  refine c_reg ?_
  refine r_u (o_mv rfl) ?_
  refine r_u (o_bin rfl rfl (bI_lt (i64 (a0.tdiv 8)) 1)) ?_
  refine r_nil ?_
  refine x_seq ?_
  obtain ⟨p0, hp1, hm2⟩ := ltx hm
  refine cd_join (E' := [(0, vI a0), (4, vI p0)]) (L' := F) ?_ fun K3 => ?_
  · refine x_seq ?_
    refine c_seq ?_
    refine c_reg ?_
    refine r_u (o_mv rfl) ?_
    refine r_u (o_mv rfl) ?_
    refine r_u (o_mv rfl) ?_
    refine r_u (o_bin rfl rfl (bI_sub a0 p0)) ?_
    refine r_u (o_bin rfl rfl (bI_mul (i64 (a0 - p0)) 4)) ?_
    refine r_u (o_bin rfl rfl (bI_quo (i64 ((i64 (a0 - p0)) * 4)) 5 (by decide))) ?_
    refine r_u (o_as rfl) ?_
    refine r_u (o_as rfl) ?_
    refine r_nil ?_
    refine x_seq ?_
    refine c_ret ?_
    subst hm2
    exact x_r2 rfl (rv_t rfl) (rv_t rfl) (Le.refl _) ⟨_, rfl, rfl, rfl, rfl⟩
  · refine c_if (b := decide ((i64 (a0.tdiv 8)) < 1)) rfl (fun h4 => ?_) fun h4 => ?_
    · have hm5 := ift hp1 h4
      clear hp1
      refine c_reg ?_
      refine r_u (o_as rfl) ?_
      refine r_nil ?_
      subst hm5
      exact x_sub K3 ⟨rfl, rfl, trivial⟩ (fun _ h => st_pk 0 [] (by decide) h)
    · have hm5 := iff_ hp1 h4
      clear hp1
      refine c_skip ?_
      subst hm5
      exact x_sub K3 ⟨rfl, rfl, trivial⟩ (fun _ h => st_pk 0 [] (by decide) h)

def hawthornref06_Rings_Back (a0 : hawthornref06_Rings) (a1 : Int) : Option (Str × Bool) :=
  Option.bind (if (decide (a1 < 0) || decide ((a0.L.length : Int) ≤ a1)) then some true else (gi a0.L a1).bind fun x14 => some ((x14.length : Int) == 0)) fun p1 => if p1 then some ([], false) else (gi a0.L a1).bind fun x7 => (gi x7 (i64 ((x7.length : Int) - 1))).bind fun x10 => some (x10, true)
theorem hawthornref06_Rings_Back.ok {G R F} (a0 : hawthornref06_Rings) (g0_ : hawthornref06_Rings.G) (h0 : hawthornref06_Rings.ro R a0 g0_) (a1 : Int) (r : Str × Bool) (hm : hawthornref06_Rings_Back a0 a1 = some r) : CO Tryz.prog 58 [.agg [g0_.L.1, vI a0.Places].toArray, vI a1] G R (F)
    (Ret fun u R' L' => u = .tuple #[vS r.1, vB r.2] ∧ R' = R ∧ L' = F) := by
  unfold hawthornref06_Rings_Back at hm
  refine co_ofN (N := 38) Tryz.func58 rfl rfl ?_
  refine c_seq ?_
  refine c_reg ?_
  refine r_new (o_bx [g0_.L.1, vI a0.Places] rfl rfl) fun b0 => ?_
  refine r_u (o_as rfl) ?_
  refine r_u (o_as rfl) ?_
  refine r_nil ?_
  refine x_seq ?_
  refine c_seq ?_
  refine c_seq ?_
  obtain ⟨p1, hp2, hm3⟩ := bs hm
  refine cd_join (E' := [(1, vI a1), (2, pt b0 0), (23, vB p1)]) (L' := Bk b0 34 [g0_.L.1, vI a0.Places] :: F) ?_ fun K4 => ?_
  · refine x_seq ?_
    refine c_if (b := p1) rfl (fun h5 => ?_) fun h5 => ?_
    · have hm6 := ift hm3 h5
      clear hm3
      refine c_seq ?_
      refine c_reg ?_
      refine r_u (o_as rfl) ?_
      refine r_u (o_as rfl) ?_
      refine r_nil ?_
      refine x_seq ?_
      refine c_ret ?_
      obtain rfl := Option.some.inj hm6
      refine ex_st (fun _ h => st_pk 1 [] (by decide) h) ?_
      exact x_r2 rfl (rv_t rfl) (rv_t rfl) (Le.refl _) ⟨_, rfl, rfl, rfl, rfl⟩
    · have hm6 := iff_ hm3 h5
      clear hm3
      refine c_skip ?_
      refine x_seq ?_
      refine c_seq ?_
      obtain ⟨x7, hx7, hm9⟩ := bs hm6
      clear hm6
      obtain ⟨b7, o7, l7, T7, fr7, c7, u8, hv7, hR7, he7, hi7, hN7⟩ := RoN.ne h0 hx7
      obtain ⟨x10, hx10, hm11⟩ := bs hm9
      clear hm9
      obtain ⟨b10, o10, l10, T10, fr10, c10, hv10, hR10, he10, hi10⟩ := RoS.ne hN7 hx10
      refine c_any mixed (effs := []) (V := []) ?_
      refine stage_ext [(0, pt b0 0), (1, g0_.L.1), (2, vI a1), (3, pt b7 (o7 + a1.toNat * 1)), (4, u8), (5, pt b0 0), (6, g0_.L.1), (7, vI a1), (8, pt b7 (o7 + a1.toNat * 1)), (9, u8), (10, vI (x7.length : Int)), (11, vI (i64 ((x7.length : Int) - 1))), (12, pt b10 (o10 + (i64 ((x7.length : Int) - 1)).toNat * 1)), (13, vS x10), (14, vS x10), (15, vB true)] rfl ?_
      refine stage rfl rfl rfl rfl [0, 1, 0, 7, 15, 0, 32, 0, 224, 480, 992, 2016, 4095, 8191, 16383, 32767] [0, 1, 2, 3, 4, 5, 6, 7, 8, 9, 10, 11, 12, 13, 14, 15] [] rfl rfl rfl (qc rfl rfl (s_u (o_fa fa34_0 rfl)) (qc rfl rfl (s_u (o_ld 0 sc32 rfl rfl rfl)) (qc rfl rfl (s_u (o_mv rfl)) (qc rfl rfl (s_u (o_ix (sz := 1) Tryz.underlying32 (fun _ => by kernel_rfl) rfl rfl hv7 hi7)) (qc rfl rfl (s_u (o_ldR sc60 rfl hR7 (rok 0 he7 (by decide)))) (qc rfl rfl (s_u (o_fa fa34_0 rfl)) (qc rfl rfl (s_u (o_ld 0 sc32 rfl rfl rfl)) (qc rfl rfl (s_u (o_mv rfl)) (qc rfl rfl (s_u (o_ix (sz := 1) Tryz.underlying32 (fun _ => by kernel_rfl) rfl rfl hv7 hi7)) (qc rfl rfl (s_u (o_ldR sc60 rfl hR7 (rok 0 he7 (by decide)))) (qc rfl rfl (s_u (o_lenR Tryz.underlying60 rfl hN7)) (qc rfl rfl (s_u (o_bin rfl rfl (bI_sub (x7.length : Int) 1))) (qc rfl rfl (s_u (o_ix (sz := 1) Tryz.underlying60 (fun _ => by kernel_rfl) rfl rfl hv10 hi10)) (qc rfl rfl (s_u (o_ldR sc9 rfl hR10 (rok 0 he10 (by decide)))) (qc rfl rfl (s_u (o_as rfl)) (qc rfl rfl (s_u (o_as rfl)) qn)))))))))))))))) en ?_
      intro _
      refine ex_sub (E' := [(4, vS x10), (5, vB true)]) ⟨rfl, rfl, trivial⟩ ?_
      refine x_seq ?_
      refine c_ret ?_
      obtain rfl := Option.some.inj hm11
      refine ex_st (fun _ h => st_pk 1 [] (by decide) h) ?_
      exact x_r2 rfl (rv_t rfl) (rv_t rfl) (Le.refl _) ⟨_, rfl, rfl, rfl, rfl⟩
  · refine cd_by (decide (a1 < 0) || decide ((a0.L.length : Int) ≤ a1)) (fun h12 => ?_) fun h12 => ?_
    · have hm13 := ift hp2 h12
      clear hp2
      refine c_reg ?_
      refine r_u (o_mv rfl) ?_
      refine r_u (o_bin rfl rfl (bI_lt a1 0)) ?_
      refine r_u (o_mv rfl) ?_
      refine r_s (s_gf rfl rfl fun g => o_mv rfl) ?_
      refine r_s (s_gf rfl rfl fun g => o_fa fa34_0 rfl) ?_
      refine r_s (s_gf rfl rfl fun g => o_ld 0 sc32 (evg rfl g) rfl rfl) ?_
      refine r_s (s_gf rfl rfl fun g => o_lenRN Tryz.underlying32 (evg rfl g) h0) ?_
      refine r_s (s_gf rfl rfl fun g => o_bin (evg rfl g) (evg rfl g) (bI_ge a1 (a0.L.length : Int))) ?_
      refine r_u (o_or rfl rfl) ?_
      refine r_u (o_mv rfl) ?_
      refine r_s (s_n rfl rfl h12) ?_
      refine r_s (s_n rfl rfl h12) ?_
      refine r_s (s_n rfl rfl h12) ?_
      refine r_s (s_n rfl rfl h12) ?_
      refine r_s (s_n rfl rfl h12) ?_
      refine r_s (s_n rfl rfl h12) ?_
      refine r_s (s_n rfl rfl h12) ?_
      refine r_u (o_pt rfl h12 rfl) ?_
      refine r_nil ?_
      obtain rfl := Option.some.inj hm13
      exact x_sub K4 ⟨rfl, rfl, rfl, trivial⟩ (fun _ h => st_pk 1 [0] (by decide) h)
    · have hm13 := iff_ hp2 h12
      clear hp2
      refine c_reg ?_
      refine r_u (o_mv rfl) ?_
      refine r_u (o_bin rfl rfl (bI_lt a1 0)) ?_
      refine r_u (o_mv rfl) ?_
      refine r_s (s_gf rfl rfl fun g => o_mv rfl) ?_
      refine r_s (s_gf rfl rfl fun g => o_fa fa34_0 rfl) ?_
      refine r_s (s_gf rfl rfl fun g => o_ld 0 sc32 (evg rfl g) rfl rfl) ?_
      refine r_s (s_gf rfl rfl fun g => o_lenRN Tryz.underlying32 (evg rfl g) h0) ?_
      refine r_s (s_gf rfl rfl fun g => o_bin (evg rfl g) (evg rfl g) (bI_ge a1 (a0.L.length : Int))) ?_
      refine r_u (o_or rfl rfl) ?_
      refine r_u (o_mv rfl) ?_
      refine r_s (s_y rfl rfl h12 (o_fa fa34_0 rfl)) ?_
      refine r_s (s_y rfl rfl h12 (o_ld 0 sc32 rfl rfl rfl)) ?_
      refine r_s (s_y rfl rfl h12 (o_mv rfl)) ?_
      obtain ⟨x14, hx14, hm16⟩ := bs hm13
      clear hm13
      obtain ⟨b14, o14, l14, T14, fr14, c14, u15, hv14, hR14, he14, hi14, hN14⟩ := RoN.ne h0 hx14
      refine r_s (s_y rfl rfl h12 (o_ix (sz := 1) Tryz.underlying32 (fun _ => by kernel_rfl) rfl rfl hv14 hi14)) ?_
      refine r_s (s_y rfl rfl h12 (o_ldR sc60 rfl hR14 (rok 0 he14 (by decide)))) ?_
      refine r_s (s_y rfl rfl h12 (o_lenR Tryz.underlying60 rfl hN14)) ?_
      refine r_s (s_y rfl rfl h12 (o_bin rfl rfl (bI_eq (x14.length : Int) 0))) ?_
      refine r_u (o_pf rfl h12 rfl) ?_
      refine r_nil ?_
      obtain rfl := Option.some.inj hm16
      exact x_sub K4 ⟨rfl, rfl, rfl, trivial⟩ (fun _ h => st_pk 1 [0] (by decide) h)

def hawthornref08_Tiny_Touch (a0 : hawthornref08_Tiny) (a1 : Str) : Option (hawthornref08_Tiny × Bool) :=
  (hawthornref06_Rings_In a0.R a1).bind fun r2 => if !r2.2 then some (a0, false) else (hawthornref05_Sketch_Add a0.S a1).bind fun r6 => if (r2.1 == 0) then (hawthornref08_Tiny_front (⟨a0.Most, r6, a0.R⟩ : hawthornref08_Tiny) 0 a1).bind fun r23 => some (r23, true) else (hawthornref08_Tiny_front (⟨a0.Most, r6, a0.R⟩ : hawthornref08_Tiny) 2 a1).bind fun r42 => lt (hawthornref08_Parts r42.Most) fun r53 => (gi r42.R.L 2).bind fun x55 => if decide (r53.2 < (x55.length : Int)) then (hawthornref06_Rings_Back r42.R 2).bind fun r60 => (hawthornref08_Tiny_front r42 1 r60.1).bind fun r62 => some (r62, true) else some (r42, true)
theorem hawthornref08_Tiny_Touch.ok {G R F} (a0 : hawthornref08_Tiny) (g0_ : hawthornref08_Tiny.G) (h0 : hawthornref08_Tiny.ro R a0 g0_) (a1 : Str) (r : hawthornref08_Tiny × Bool) (hm : hawthornref08_Tiny_Touch a0 a1 = some r) : CO Tryz.prog 25 [.agg [vI a0.Most, vI a0.S.Wide, vW a0.S.Seed, g0_.S.Rows.1, g0_.S.Door, vI a0.S.Added, g0_.R.L.1, vI a0.R.Places].toArray, vS a1] G R (F)
    (Ret fun u R' L' => ∃ (p0 : hawthornref08_Tiny.G), u = .tuple #[.agg [vI r.1.Most, vI r.1.S.Wide, vW r.1.S.Seed, p0.S.Rows.1, p0.S.Door, vI r.1.S.Added, p0.R.L.1, vI r.1.R.Places].toArray, vB r.2] ∧ (hawthornref08_Tiny.ro R' r.1 p0) ∧ L' = F) := by
  unfold hawthornref08_Tiny_Touch at hm
  refine co_ofN (N := 59) Tryz.func25 rfl rfl ?_
  refine c_seq ?_
  refine c_reg ?_
  refine r_new (o_bx [vI a0.Most, vI a0.S.Wide, vW a0.S.Seed, g0_.S.Rows.1, g0_.S.Door, vI a0.S.Added, g0_.R.L.1, vI a0.R.Places] rfl rfl) fun b0 => ?_
  refine r_new (o_al ze36) fun b1 => ?_
  refine r_u (o_as rfl) ?_
  refine r_nil ?_
  refine x_seq ?_
  refine c_seq ?_
  refine c_reg ?_
  refine r_u (o_fa fa36_2 rfl) ?_
  refine r_u (o_ldn 1 [g0_.R.L.1, vI a0.R.Places] ag34 rfl rfl rfl rfl) ?_
  refine r_u (o_mv rfl) ?_
  obtain ⟨r2, hr2, hm3⟩ := bs hm
  clear hm
  refine r_u (o_callq ca38 rfl (hawthornref06_Rings_In.ok a0.R (⟨(g0_.R.L.1, [])⟩ : hawthornref06_Rings.G) h0.2 a1 r2 hr2)) ?_
  refine r_u (o_mv rfl) ?_
  refine r_u (o_ext rfl rfl) ?_
  refine r_u (o_ext rfl rfl) ?_
  refine r_u (o_as rfl) ?_
  refine r_u (o_as rfl) ?_
  refine r_nil ?_
  refine x_seq ?_
  refine c_seq ?_
  refine c_seq ?_
  refine c_reg ?_
  refine r_u (o_mv rfl) ?_
  refine r_u (o_not rfl) ?_
  refine r_nil ?_
  refine x_seq ?_
  refine c_if (b := !r2.2) rfl (fun h4 => ?_) fun h4 => ?_
  · have hm5 := ift hm3 h4
    clear hm3
    refine c_seq ?_
    refine c_reg ?_
    refine r_u (o_ldn 1 [vI a0.Most, vI a0.S.Wide, vW a0.S.Seed, g0_.S.Rows.1, g0_.S.Door, vI a0.S.Added, g0_.R.L.1, vI a0.R.Places] ag36 rfl rfl rfl rfl) ?_
    refine r_u0 (o_stn ag36 rfl rfl rfl (al_c rfl (al_c rfl (al_c rfl (al_c (RoN.one h0.1.1) (al_c (RoS.one h0.1.2) (al_c rfl (al_c (RoN.one h0.2) (al_c rfl al_n)))))))) rfl rfl rfl) ?_
    refine r_u (o_as rfl) ?_
    refine r_nil ?_
    refine x_seq ?_
    refine c_ret ?_
    obtain rfl := Option.some.inj hm5
    exact x_d2 rfl (rv_n 0 [vI a0.Most, vI a0.S.Wide, vW a0.S.Seed, g0_.S.Rows.1, g0_.S.Door, vI a0.S.Added, g0_.R.L.1, vI a0.R.Places] ag36 rfl rfl rfl rfl) (rv_t rfl) (fun _ h => st_pk 2 [] (by decide) h) (Le.refl _) ⟨_, rfl, (⟨(⟨(g0_.S.Rows.1, []), g0_.S.Door⟩ : hawthornref05_Sketch.G), (⟨(g0_.R.L.1, [])⟩ : hawthornref06_Rings.G)⟩ : hawthornref08_Tiny.G), rfl, ⟨⟨h0.1.1, h0.1.2⟩, h0.2⟩, rfl⟩
  · have hm5 := iff_ hm3 h4
    clear hm3
    refine c_skip ?_
    refine x_seq ?_
    refine c_seq ?_
    refine c_reg ?_
    refine r_u (o_fa fa36_1 rfl) ?_
    refine r_u (o_ldn 1 [vI a0.S.Wide, vW a0.S.Seed, g0_.S.Rows.1, g0_.S.Door, vI a0.S.Added] ag31 rfl rfl rfl rfl) ?_
    refine r_u (o_mv rfl) ?_
    obtain ⟨r6, hr6, hm12⟩ := bs hm5
    clear hm5
    refine r_sw (s_w (o_call ca55 rfl (hawthornref05_Sketch_Add.ok a0.S (⟨(g0_.S.Rows.1, []), g0_.S.Door⟩ : hawthornref05_Sketch.G) ⟨h0.1.1, h0.1.2⟩ a1 r6 hr6))) ?_
    rintro _ R10 _ le11 ⟨v7, rfl, _, rfl⟩
    refine r_u (o_fa fa36_1 rfl) ?_
    refine rl_st (fun _ h => mv4 (mv1 (mv2 h))) ?_
    refine r_u0 (ou_if (one_o 1 rfl) fun ho0 => ou_if (one_o 2 rfl) fun ho1 => o_stn ag31 rfl rfl rfl (al_c rfl (al_c rfl (al_c ho0 (al_c ho1 (al_c rfl al_n))))) rfl rfl rfl) ?_
    refine r_nil ?_
    refine x_seq ?_
    refine c_seq ?_
    refine c_seq ?_
    refine c_reg ?_
    refine r_u (o_mv rfl) ?_
    refine r_u (o_bin rfl rfl (bI_eq r2.1 0)) ?_
    refine r_nil ?_
    refine x_seq ?_
    refine c_if (b := (r2.1 == 0)) rfl (fun h13 => ?_) fun h13 => ?_
    · have hm14 := ift hm12 h13
      clear hm12
      refine c_seq ?_
      refine c_reg ?_
      refine r_u (o_ldn 0 [vI a0.Most, vI r6.Wide, vW r6.Seed, v7.Rows.1, v7.Door, vI r6.Added, g0_.R.L.1, vI a0.R.Places] ag36 rfl rfl rfl rfl) ?_
      refine r_u (o_mv rfl) ?_
      refine rl_st (fun _ h => mv2 (mv3 h)) ?_
      refine rl_ex (fun w h => st_freezeN w h) fun R15 hf18 => ?_
      obtain ⟨le16, h17⟩ := hf18
      refine rl_st (fun _ h => mv1 h) ?_
      refine rl_ex (fun w h => st_freeze w h) fun R19 hf22 => ?_
      obtain ⟨le20, h21⟩ := hf22
      obtain ⟨r23, hr23, hm33⟩ := bs hm14
      clear hm14
      refine r_sw (s_w (o_call ca56 rfl (hawthornref08_Tiny_front.ok (⟨a0.Most, r6, a0.R⟩ : hawthornref08_Tiny) (⟨(⟨(v7.Rows.1, []), v7.Door⟩ : hawthornref05_Sketch.G), (⟨(g0_.R.L.1, [])⟩ : hawthornref06_Rings.G)⟩ : hawthornref08_Tiny.G) ⟨⟨(RoN.mono le20 h17), h21⟩, (RoN.mono (Le.trans (Le.trans le11 le16) le20) h0.2)⟩ 0 a1 r23 hr23))) ?_
      rintro _ R31 _ le32 ⟨v24, rfl, hf25, rfl⟩
      refine rl_st (fun _ h => mv1 h) ?_
      refine r_u0 (o_stn ag36 rfl rfl rfl (al_c rfl (al_c rfl (al_c rfl (al_c (RoN.one hf25.1.1) (al_c (RoS.one hf25.1.2) (al_c rfl (al_c (RoN.one hf25.2) (al_c rfl al_n)))))))) rfl rfl rfl) ?_
      refine r_u (o_as rfl) ?_
      refine r_nil ?_
      refine x_seq ?_
      refine c_ret ?_
      obtain rfl := Option.some.inj hm33
      exact x_d2 rfl (rv_n 0 [vI r23.Most, vI r23.S.Wide, vW r23.S.Seed, v24.S.Rows.1, v24.S.Door, vI r23.S.Added, v24.R.L.1, vI r23.R.Places] ag36 rfl rfl rfl rfl) (rv_t rfl) (fun _ h => st_pk 2 [] (by decide) h) (Le.trans (Le.trans (Le.trans le11 le16) le20) le32) ⟨_, rfl, (⟨(⟨(v24.S.Rows.1, []), v24.S.Door⟩ : hawthornref05_Sketch.G), (⟨(v24.R.L.1, [])⟩ : hawthornref06_Rings.G)⟩ : hawthornref08_Tiny.G), rfl, ⟨⟨hf25.1.1, hf25.1.2⟩, hf25.2⟩, rfl⟩
    · have hm14 := iff_ hm12 h13
      clear hm12
      refine c_skip ?_
      refine x_seq ?_
      refine c_seq ?_
      refine c_reg ?_
      refine r_u (o_ldn 0 [vI a0.Most, vI r6.Wide, vW r6.Seed, v7.Rows.1, v7.Door, vI r6.Added, g0_.R.L.1, vI a0.R.Places] ag36 rfl rfl rfl rfl) ?_
      refine r_u (o_mv rfl) ?_
      refine rl_st (fun _ h => mv2 (mv3 h)) ?_
      refine rl_ex (fun w h => st_freezeN w h) fun R34 hf37 => ?_
      obtain ⟨le35, h36⟩ := hf37
      refine rl_st (fun _ h => mv1 h) ?_
      refine rl_ex (fun w h => st_freeze w h) fun R38 hf41 => ?_
      obtain ⟨le39, h40⟩ := hf41
      obtain ⟨r42, hr42, hm52⟩ := bs hm14
      clear hm14
      refine r_sw (s_w (o_call ca56 rfl (hawthornref08_Tiny_front.ok (⟨a0.Most, r6, a0.R⟩ : hawthornref08_Tiny) (⟨(⟨(v7.Rows.1, []), v7.Door⟩ : hawthornref05_Sketch.G), (⟨(g0_.R.L.1, [])⟩ : hawthornref06_Rings.G)⟩ : hawthornref08_Tiny.G) ⟨⟨(RoN.mono le39 h36), h40⟩, (RoN.mono (Le.trans (Le.trans le11 le35) le39) h0.2)⟩ 2 a1 r42 hr42))) ?_
      rintro _ R50 _ le51 ⟨v43, rfl, hf44, rfl⟩
      refine r_u0 (o_stn ag36 rfl rfl rfl (al_c rfl (al_c rfl (al_c rfl (al_c (RoN.one hf44.1.1) (al_c (RoS.one hf44.1.2) (al_c rfl (al_c (RoN.one hf44.2) (al_c rfl al_n)))))))) rfl rfl rfl) ?_
      refine r_nil ?_
      refine x_seq ?_
      refine c_seq ?_
      refine c_seq ?_
      refine c_reg ?_
      refine r_u (o_fa fa36_0 rfl) ?_
      refine r_u (o_ld 0 sc3 rfl rfl rfl) ?_
      obtain ⟨r53, hr53, hm54⟩ := ltx hm52
      clear hm52
      refine r_u (o_callq ca57 rfl (hawthornref08_Parts.ok r42.Most r53 hr53)) ?_
      refine r_u (o_mv rfl) ?_
      refine r_u (o_ext rfl rfl) ?_
      refine r_u (o_ext rfl rfl) ?_
      refine r_u (o_as rfl) ?_
      refine r_u (o_as rfl) ?_
      refine r_nil ?_
      refine x_seq ?_
      refine c_seq ?_
      refine c_reg ?_
      refine r_u (o_fa fa36_2 rfl) ?_
      refine r_u (o_fa fa34_0 rfl) ?_
      refine r_u (o_ld 0 sc32 rfl rfl rfl) ?_
      obtain ⟨x55, hx55, hm57⟩ := bs hm54
      clear hm54
      obtain ⟨b55, o55, l55, T55, fr55, c55, u56, hv55, hR55, he55, hi55, hN55⟩ := RoN.ne hf44.2 hx55
      refine r_u (o_ix (sz := 1) Tryz.underlying32 (fun _ => by kernel_rfl) rfl rfl hv55 hi55) ?_
      refine r_u (o_ldR sc60 rfl hR55 (rok 0 he55 (by decide))) ?_
      refine r_u (o_lenR Tryz.underlying60 rfl hN55) ?_
      refine r_u (o_mv rfl) ?_
      refine r_u (o_bin rfl rfl (bI_gt (x55.length : Int) r53.2)) ?_
      refine r_nil ?_
      refine x_seq ?_
      refine c_if (b := decide (r53.2 < (x55.length : Int))) rfl (fun h58 => ?_) fun h58 => ?_
      · have hm59 := ift hm57 h58
        clear hm57
        refine c_seq ?_
        refine c_reg ?_
        refine r_u (o_fa fa36_2 rfl) ?_
        refine r_u (o_ldn 0 [v43.R.L.1, vI r42.R.Places] ag34 rfl rfl rfl rfl) ?_
        obtain ⟨r60, hr60, hm61⟩ := bs hm59
        clear hm59
        refine r_u (o_callq ca58 rfl (hawthornref06_Rings_Back.ok r42.R (⟨(v43.R.L.1, [])⟩ : hawthornref06_Rings.G) hf44.2 2 r60 hr60)) ?_
        refine r_u (o_mv rfl) ?_
        refine r_u (o_ext rfl rfl) ?_
        refine r_u (o_ext rfl rfl) ?_
        refine r_u (o_as rfl) ?_
        refine r_u (o_as rfl) ?_
        refine r_nil ?_
        refine x_seq ?_
        refine c_reg ?_
        refine r_u (o_ldn 0 [vI r42.Most, vI r42.S.Wide, vW r42.S.Seed, v43.S.Rows.1, v43.S.Door, vI r42.S.Added, v43.R.L.1, vI r42.R.Places] ag36 rfl rfl rfl rfl) ?_
        refine r_u (o_mv rfl) ?_
        obtain ⟨r62, hr62, hm72⟩ := bs hm61
        clear hm61
        refine r_sw (s_w (o_call ca56 rfl (hawthornref08_Tiny_front.ok r42 (⟨(⟨(v43.S.Rows.1, []), v43.S.Door⟩ : hawthornref05_Sketch.G), (⟨(v43.R.L.1, [])⟩ : hawthornref06_Rings.G)⟩ : hawthornref08_Tiny.G) ⟨⟨hf44.1.1, hf44.1.2⟩, hf44.2⟩ 1 r60.1 r62 hr62))) ?_
        rintro _ R70 _ le71 ⟨v63, rfl, hf64, rfl⟩
        refine r_u0 (o_stn ag36 rfl rfl rfl (al_c rfl (al_c rfl (al_c rfl (al_c (RoN.one hf64.1.1) (al_c (RoS.one hf64.1.2) (al_c rfl (al_c (RoN.one hf64.2) (al_c rfl al_n)))))))) rfl rfl rfl) ?_
        refine r_nil ?_
        refine x_seq ?_
        refine c_seq ?_
        refine c_reg ?_
        refine r_u (o_ldn 0 [vI r62.Most, vI r62.S.Wide, vW r62.S.Seed, v63.S.Rows.1, v63.S.Door, vI r62.S.Added, v63.R.L.1, vI r62.R.Places] ag36 rfl rfl rfl rfl) ?_
        refine rl_st (fun _ h => mv1 h) ?_
        refine r_u0 (o_stn ag36 rfl rfl rfl (al_c rfl (al_c rfl (al_c rfl (al_c (RoN.one hf64.1.1) (al_c (RoS.one hf64.1.2) (al_c rfl (al_c (RoN.one hf64.2) (al_c rfl al_n)))))))) rfl rfl rfl) ?_
        refine r_u (o_as rfl) ?_
        refine r_nil ?_
        refine x_seq ?_
        refine c_ret ?_
        obtain rfl := Option.some.inj hm72
        exact x_d2 rfl (rv_n 0 [vI r62.Most, vI r62.S.Wide, vW r62.S.Seed, v63.S.Rows.1, v63.S.Door, vI r62.S.Added, v63.R.L.1, vI r62.R.Places] ag36 rfl rfl rfl rfl) (rv_t rfl) (fun _ h => st_pk 2 [] (by decide) h) (Le.trans (Le.trans (Le.trans (Le.trans le11 le35) le39) le51) le71) ⟨_, rfl, (⟨(⟨(v63.S.Rows.1, []), v63.S.Door⟩ : hawthornref05_Sketch.G), (⟨(v63.R.L.1, [])⟩ : hawthornref06_Rings.G)⟩ : hawthornref08_Tiny.G), rfl, ⟨⟨hf64.1.1, hf64.1.2⟩, hf64.2⟩, rfl⟩
      · have hm59 := iff_ hm57 h58
        clear hm57
        refine c_skip ?_
        refine x_seq ?_
        refine c_seq ?_
        refine c_reg ?_
        refine r_u (o_ldn 0 [vI r42.Most, vI r42.S.Wide, vW r42.S.Seed, v43.S.Rows.1, v43.S.Door, vI r42.S.Added, v43.R.L.1, vI r42.R.Places] ag36 rfl rfl rfl rfl) ?_
        refine rl_st (fun _ h => mv1 h) ?_
        refine r_u0 (o_stn ag36 rfl rfl rfl (al_c rfl (al_c rfl (al_c rfl (al_c (RoN.one hf44.1.1) (al_c (RoS.one hf44.1.2) (al_c rfl (al_c (RoN.one hf44.2) (al_c rfl al_n)))))))) rfl rfl rfl) ?_
        refine r_u (o_as rfl) ?_
        refine r_nil ?_
        refine x_seq ?_
        refine c_ret ?_
        obtain rfl := Option.some.inj hm59
        exact x_d2 rfl (rv_n 0 [vI r42.Most, vI r42.S.Wide, vW r42.S.Seed, v43.S.Rows.1, v43.S.Door, vI r42.S.Added, v43.R.L.1, vI r42.R.Places] ag36 rfl rfl rfl rfl) (rv_t rfl) (fun _ h => st_pk 2 [] (by decide) h) (Le.trans (Le.trans (Le.trans le11 le35) le39) le51) ⟨_, rfl, (⟨(⟨(v43.S.Rows.1, []), v43.S.Door⟩ : hawthornref05_Sketch.G), (⟨(v43.R.L.1, [])⟩ : hawthornref06_Rings.G)⟩ : hawthornref08_Tiny.G), rfl, ⟨⟨hf44.1.1, hf44.1.2⟩, hf44.2⟩, rfl⟩

def hawthornref08_Tiny_Has (a0 : hawthornref08_Tiny) (a1 : Str) : Option Bool :=
  (hawthornref06_Rings_In a0.R a1).bind fun r1 => some r1.2
theorem hawthornref08_Tiny_Has.ok {G R F} (a0 : hawthornref08_Tiny) (g0_ : hawthornref08_Tiny.G) (h0 : hawthornref08_Tiny.ro R a0 g0_) (a1 : Str) (r : Bool) (hm : hawthornref08_Tiny_Has a0 a1 = some r) : CO Tryz.prog 11 [.agg [vI a0.Most, vI a0.S.Wide, vW a0.S.Seed, g0_.S.Rows.1, g0_.S.Door, vI a0.S.Added, g0_.R.L.1, vI a0.R.Places].toArray, vS a1] G R (F)
    (Ret fun u R' L' => u = vB r ∧ R' = R ∧ L' = F) := by
  unfold hawthornref08_Tiny_Has at hm
  refine co_ofN (N := 15) Tryz.func11 rfl rfl ?_
  refine c_seq ?_
  refine c_reg ?_
  refine r_new (o_bx [vI a0.Most, vI a0.S.Wide, vW a0.S.Seed, g0_.S.Rows.1, g0_.S.Door, vI a0.S.Added, g0_.R.L.1, vI a0.R.Places] rfl rfl) fun b0 => ?_
  refine r_u (o_as rfl) ?_
  refine r_nil ?_
  refine x_seq ?_
  refine c_seq ?_
  refine c_reg ?_
  refine r_u (o_fa fa36_2 rfl) ?_
  refine r_u (o_ldn 0 [g0_.R.L.1, vI a0.R.Places] ag34 rfl rfl rfl rfl) ?_
  refine r_u (o_mv rfl) ?_
  obtain ⟨r1, hr1, hm2⟩ := bs hm
  clear hm
  refine r_u (o_callq ca38 rfl (hawthornref06_Rings_In.ok a0.R (⟨(g0_.R.L.1, [])⟩ : hawthornref06_Rings.G) h0.2 a1 r1 hr1)) ?_
  refine r_u (o_mv rfl) ?_
  refine r_u (o_ext rfl rfl) ?_
  refine r_u (o_ext rfl rfl) ?_
  refine r_u (o_as rfl) ?_
  refine r_u (o_as rfl) ?_
  refine r_nil ?_
  refine x_seq ?_
  refine c_seq ?_
  refine c_reg ?_
  refine r_u (o_mv rfl) ?_
  refine r_u (o_as rfl) ?_
  refine r_nil ?_
  refine x_seq ?_
  refine c_ret ?_
  obtain rfl := Option.some.inj hm2
  refine ex_st (fun _ h => st_pk 1 [] (by decide) h) ?_
  exact x_r1 rfl (rv_t rfl) (Le.refl _) ⟨_, rfl, rfl, rfl, rfl⟩

def hawthornref08_Tiny_Remove (a0 : hawthornref08_Tiny) (a1 : Str) : Option (hawthornref08_Tiny × Bool) :=
  (hawthornref08_Tiny_Has a0 a1).bind fun r2 => (hawthornref06_Rings_Drop a0.R a1).bind fun r4 => some ((⟨a0.Most, a0.S, r4⟩ : hawthornref08_Tiny), r2)
theorem hawthornref08_Tiny_Remove.ok {G R F} (a0 : hawthornref08_Tiny) (g0_ : hawthornref08_Tiny.G) (h0 : hawthornref08_Tiny.ro R a0 g0_) (a1 : Str) (r : hawthornref08_Tiny × Bool) (hm : hawthornref08_Tiny_Remove a0 a1 = some r) : CO Tryz.prog 26 [.agg [vI a0.Most, vI a0.S.Wide, vW a0.S.Seed, g0_.S.Rows.1, g0_.S.Door, vI a0.S.Added, g0_.R.L.1, vI a0.R.Places].toArray, vS a1] G R (F)
    (Ret fun u R' L' => ∃ (p0 : hawthornref08_Tiny.G), u = .tuple #[.agg [vI r.1.Most, vI r.1.S.Wide, vW r.1.S.Seed, p0.S.Rows.1, p0.S.Door, vI r.1.S.Added, p0.R.L.1, vI r.1.R.Places].toArray, vB r.2] ∧ (hawthornref08_Tiny.ro R' r.1 p0) ∧ L' = F) := by
  unfold hawthornref08_Tiny_Remove at hm
  refine co_ofN (N := 17) Tryz.func26 rfl rfl ?_
  refine c_seq ?_
  refine c_reg ?_
  refine r_new (o_bx [vI a0.Most, vI a0.S.Wide, vW a0.S.Seed, g0_.S.Rows.1, g0_.S.Door, vI a0.S.Added, g0_.R.L.1, vI a0.R.Places] rfl rfl) fun b0 => ?_
  refine r_new (o_al ze36) fun b1 => ?_
  refine r_u (o_as rfl) ?_
  refine r_nil ?_
  refine x_seq ?_
  refine c_seq ?_
  refine c_reg ?_
  refine r_u (o_ldn 1 [vI a0.Most, vI a0.S.Wide, vW a0.S.Seed, g0_.S.Rows.1, g0_.S.Door, vI a0.S.Added, g0_.R.L.1, vI a0.R.Places] ag36 rfl rfl rfl rfl) ?_
  refine r_u (o_mv rfl) ?_
  obtain ⟨r2, hr2, hm3⟩ := bs hm
  clear hm
  refine r_u (o_callq ca11 rfl (hawthornref08_Tiny_Has.ok a0 (⟨(⟨(g0_.S.Rows.1, []), g0_.S.Door⟩ : hawthornref05_Sketch.G), (⟨(g0_.R.L.1, [])⟩ : hawthornref06_Rings.G)⟩ : hawthornref08_Tiny.G) ⟨⟨h0.1.1, h0.1.2⟩, h0.2⟩ a1 r2 hr2)) ?_
  refine r_u (o_as rfl) ?_
  refine r_nil ?_
  refine x_seq ?_
  refine c_seq ?_
  refine c_reg ?_
  refine r_u (o_fa fa36_2 rfl) ?_
  refine r_u (o_ldn 1 [g0_.R.L.1, vI a0.R.Places] ag34 rfl rfl rfl rfl) ?_
  refine r_u (o_mv rfl) ?_
  obtain ⟨r4, hr4, hm7⟩ := bs hm3
  clear hm3
  refine r_sw (s_w (o_call ca59 rfl (hawthornref06_Rings_Drop.ok a0.R (⟨(g0_.R.L.1, [])⟩ : hawthornref06_Rings.G) h0.2 a1 r4 hr4))) ?_
  rintro _ R _ _ ⟨v5, rfl, rfl, rfl⟩
  refine r_u (o_fa fa36_2 rfl) ?_
  refine rl_st (fun _ h => mv3 h) ?_
  refine r_u0 (ou_if (one_o 1 rfl) fun ho0 => o_stn ag34 rfl rfl rfl (al_c ho0 (al_c rfl al_n)) rfl rfl rfl) ?_
  refine r_nil ?_
  refine x_seq ?_
  refine c_seq ?_
  refine c_reg ?_
  refine r_u (o_ldn 0 [vI a0.Most, vI a0.S.Wide, vW a0.S.Seed, g0_.S.Rows.1, g0_.S.Door, vI a0.S.Added, v5.L.1, vI r4.Places] ag36 rfl rfl rfl rfl) ?_
  refine r_u (o_mv rfl) ?_
  refine rl_st (fun _ h => mv3 (mv1 h)) ?_
  refine r_u0 (ou_if (one_o 1 rfl) fun ho0 => o_stn ag36 rfl rfl rfl (al_c rfl (al_c rfl (al_c rfl (al_c (RoN.one h0.1.1) (al_c (RoS.one h0.1.2) (al_c rfl (al_c ho0 (al_c rfl al_n)))))))) rfl rfl rfl) ?_
  refine r_u (o_as rfl) ?_
  refine r_nil ?_
  refine x_seq ?_
  refine c_ret ?_
  refine ex_st (fun _ h => mv2 (mv3 h)) ?_
  refine ex_ex (fun w h => st_freezeN w h) fun R8 hf11 => ?_
  obtain ⟨le9, h10⟩ := hf11
  obtain rfl := Option.some.inj hm7
  exact x_d2 rfl (rv_n 0 [vI a0.Most, vI a0.S.Wide, vW a0.S.Seed, g0_.S.Rows.1, g0_.S.Door, vI a0.S.Added, v5.L.1, vI r4.Places] ag36 rfl rfl rfl rfl) (rv_t rfl) (fun _ h => st_pk 2 [] (by decide) h) le9 ⟨_, rfl, (⟨(⟨(g0_.S.Rows.1, []), g0_.S.Door⟩ : hawthornref05_Sketch.G), (⟨(v5.L.1, [])⟩ : hawthornref06_Rings.G)⟩ : hawthornref08_Tiny.G), rfl, ⟨⟨(RoN.mono le9 h0.1.1), (RoS.mono le9 h0.1.2)⟩, h10⟩, rfl⟩

def tiny_Tiny_Remove (a0 : tiny_Tiny) (a1 : Str) : Option (Bool × tiny_Tiny) :=
  om a0.r (none) fun x6 => (ring_Rings_Drop x6 a1).bind fun r14 => some (r14.1, (⟨a0.most, a0.s, (some r14.2)⟩ : tiny_Tiny))
theorem tiny_Tiny_Remove.ok {G R F} (b0_ : Nat) (a0 : tiny_Tiny) (g0_ : tiny_Tiny.G) (a1 : Str) (r : Bool × tiny_Tiny) (hm : tiny_Tiny_Remove a0 a1 = some r) : CO Tryz.prog 27 [pt b0_ 0, vS a1] G R (Bk b0_ 57 [vI a0.most, g0_.s.1, g0_.r.1] :: rO (sketch_Sketch.op g0_.s.2) g0_.s.1 a0.s :: rO (ring_Rings.op g0_.r.2) g0_.r.1 a0.r :: F)
    (Ret fun u R' L' => ∃ (q0 : tiny_Tiny.G), u = vB r.1 ∧ R' = R ∧ L' = Bk b0_ 57 [vI r.2.most, q0.s.1, q0.r.1] :: rO (sketch_Sketch.op q0.s.2) q0.s.1 r.2.s :: rO (ring_Rings.op q0.r.2) q0.r.1 r.2.r :: F) := by
  obtain ⟨⟨pv1, g2⟩, ⟨pv4, g5⟩⟩ := g0_
  unfold tiny_Tiny_Remove at hm
  refine co_ofN (N := 15) Tryz.func27 rfl rfl ?_
  refine c_seq ?_
  refine c_reg ?_
  refine r_u (o_as rfl) ?_
  refine r_nil ?_
  refine x_seq ?_
  refine c_seq ?_
  refine cd_st (fun _ h => mv2 h) ?_
  refine cd_opt (fun ho8 => ?_) (fun x6 b7 ho8 => ?_)
  · rintro rfl
    have hm9 := om_n hm ho8
    clear hm
    cases hm9
  · rintro rfl
    have hm9 := om_s hm ho8
    clear hm
    refine cd_st (fun _ h => st_star_o h) ?_
    refine c_reg ?_
    refine r_u (o_mv rfl) ?_
    refine r_u (o_bin rfl rfl (bP_nep Tryz.underlying24)) ?_
    refine r_u (o_mv rfl) ?_
    refine r_s (s_y rfl rfl rfl (o_mv rfl)) ?_
    refine r_s (s_y rfl rfl rfl (o_nc rfl)) ?_
    refine r_s (s_y rfl rfl rfl (o_fa fa57_2 rfl)) ?_
    refine r_s (s_y rfl rfl rfl (o_ld 5 sc53 rfl rfl rfl)) ?_
    refine r_s (s_y rfl rfl rfl (o_mv rfl)) ?_
    obtain ⟨r14, hr14, hm20⟩ := bs hm9
    clear hm9
    refine r_sw (s_yw rfl rfl rfl (o_call ca54 rfl (ring_Rings_Drop.ok b7 x6 g5 a1 r14 hr14))) ?_
    rintro _ R _ _ ⟨g15, rfl, rfl, rfl⟩
    refine r_u (o_pt rfl rfl rfl) ?_
    refine r_u (o_as rfl) ?_
    refine r_nil ?_
    refine x_seq ?_
    refine c_ret ?_
    refine ex_st (fun _ h => st_some (f := ring_Rings.op g15) (a := r14.2) (st_star_f (A := ring_Rings.fl b7 r14.2 g15) h)) ?_
    obtain rfl := Option.some.inj hm20
    refine ex_st (fun _ h => st_pk 3 [1, 2, 0] (by decide) h) ?_
    exact x_r1 rfl (rv_t rfl) (Le.refl _) ⟨_, rfl, (⟨(pv1, g2), (pt b7 0, g15)⟩ : tiny_Tiny.G), rfl, rfl, rfl⟩

def hawthornref08_Tiny_Evict_l0 (a0 : hawthornref08_Tiny) : Nat → Int → Option (Unit ⊕ (hawthornref08_Tiny × Str × Bool))
  | 0, _ => none
  | k9 + 1, i_8 => if decide (i_8 < 3) then (gi [1, 0, 2] i_8).bind fun x14 => (hawthornref06_Rings_Back a0.R x14).bind fun r16 => if r16.2 then (hawthornref06_Rings_Drop a0.R r16.1).bind fun r20 => some (Sum.inr ((⟨a0.Most, a0.S, r20⟩ : hawthornref08_Tiny), r16.1, true)) else hawthornref08_Tiny_Evict_l0 a0 k9 (i64 (i_8 + 1)) else some (Sum.inl ())
def hawthornref08_Tiny_Evict (a0 : hawthornref08_Tiny) : Option (hawthornref08_Tiny × Str × Bool) :=
  Option.bind (hawthornref08_Tiny_Evict_l0 a0 4 0) fun (p3 : Unit ⊕ (hawthornref08_Tiny × Str × Bool)) => (match p3 with | Sum.inl q4 => some (a0, [], false) | Sum.inr r => some r)
theorem hawthornref08_Tiny_Evict.ok {G R F} (a0 : hawthornref08_Tiny) (g0_ : hawthornref08_Tiny.G) (h0 : hawthornref08_Tiny.ro R a0 g0_) (r : hawthornref08_Tiny × Str × Bool) (hm : hawthornref08_Tiny_Evict a0 = some r) : CO Tryz.prog 28 [.agg [vI a0.Most, vI a0.S.Wide, vW a0.S.Seed, g0_.S.Rows.1, g0_.S.Door, vI a0.S.Added, g0_.R.L.1, vI a0.R.Places].toArray] G R (F)
    (Ret fun u R' L' => ∃ (p0 : hawthornref08_Tiny.G), u = .tuple #[.agg [vI r.1.Most, vI r.1.S.Wide, vW r.1.S.Seed, p0.S.Rows.1, p0.S.Door, vI r.1.S.Added, p0.R.L.1, vI r.1.R.Places].toArray, vS r.2.1, vB r.2.2] ∧ (hawthornref08_Tiny.ro R' r.1 p0) ∧ L' = F) := by
  unfold hawthornref08_Tiny_Evict at hm
  refine co_ofN (N := 33) Tryz.func28 rfl rfl ?_
  refine c_seq ?_
  refine c_reg ?_
  refine r_new (o_bx [vI a0.Most, vI a0.S.Wide, vW a0.S.Seed, g0_.S.Rows.1, g0_.S.Door, vI a0.S.Added, g0_.R.L.1, vI a0.R.Places] rfl rfl) fun b0 => ?_
  refine r_new (o_al ze36) fun b1 => ?_
  refine r_u (o_as rfl) ?_
  refine r_u (o_as rfl) ?_
  refine r_nil ?_
  refine x_seq ?_
  refine c_seq ?_
  refine c_reg ?_
  refine r_sw (s_w (o_bsl (en := eI) (sz := 1) (e := 3) (cs := [vI 1, vI 0, vI 2]) (r := [1, 0, 2]) rfl (fun _ => by kernel_rfl) rfl (by decide) rfl (fun _ => rfl))) ?_
  rintro v2 R _ _ ⟨rfl, rfl⟩
  refine r_u (o_as rfl) ?_
  refine r_nil ?_
  refine x_seq ?_
  refine c_seq ?_
  refine c_seq ?_
  refine c_reg ?_
  refine r_u (o_as rfl) ?_
  refine r_nil ?_
  refine x_seq ?_
  obtain ⟨p3, hp5, hm6⟩ := bs hm
  refine cd_joinS (p := p3) (Ef := fun q4 => [(1, pt b0 0), (2, pt b1 0)]) (Lf := fun q4 => Bk b1 36 [vI 0, vI 0, vW 0, .slice none 0 0, .slice none 0 0, vI 0, .slice none 0 0, vI 0] :: Bk b0 36 [vI a0.Most, vI a0.S.Wide, vW a0.S.Seed, g0_.S.Rows.1, g0_.S.Door, vI a0.S.Added, g0_.R.L.1, vI a0.R.Places] :: OwS true 3 1 eI v2 [1, 0, 2] :: F) (fun q4 hq => ?_) fun K7 => ?_
  · subst hq
    try dsimp only at hm6
    refine x_seq ?_
    refine c_seq ?_
    refine c_reg ?_
    refine r_u (o_ldn 1 [vI a0.Most, vI a0.S.Wide, vW a0.S.Seed, g0_.S.Rows.1, g0_.S.Door, vI a0.S.Added, g0_.R.L.1, vI a0.R.Places] ag36 rfl rfl rfl rfl) ?_
    refine r_u0 (o_stn ag36 rfl rfl rfl (al_c rfl (al_c rfl (al_c rfl (al_c (RoN.one h0.1.1) (al_c (RoS.one h0.1.2) (al_c rfl (al_c (RoN.one h0.2) (al_c rfl al_n)))))))) rfl rfl rfl) ?_
    refine r_u (o_as rfl) ?_
    refine r_u (o_as rfl) ?_
    refine r_nil ?_
    refine x_seq ?_
    refine c_ret ?_
    obtain rfl := Option.some.inj hm6
    exact x_d3 rfl (rv_n 0 [vI a0.Most, vI a0.S.Wide, vW a0.S.Seed, g0_.S.Rows.1, g0_.S.Door, vI a0.S.Added, g0_.R.L.1, vI a0.R.Places] ag36 rfl rfl rfl rfl) (rv_t rfl) (rv_t rfl) (fun _ h => st_pk 3 [] (by decide) h) (Le.refl _) ⟨_, rfl, (⟨(⟨(g0_.S.Rows.1, []), g0_.S.Door⟩ : hawthornref05_Sketch.G), (⟨(g0_.R.L.1, [])⟩ : hawthornref06_Rings.G)⟩ : hawthornref08_Tiny.G), rfl, ⟨⟨h0.1.1, h0.1.2⟩, h0.2⟩, rfl⟩
  · refine c_blk ?_
    refine cd_loop (M := fun k9 (i_8 : Int) => hawthornref08_Tiny_Evict_l0 a0 k9 i_8 = some p3) (Ef := fun (i_8 : Int) => [(1, pt b0 0), (2, pt b1 0), (5, v2), (6, vI i_8)]) (Lf := fun (i_8 : Int) => Bk b1 36 [vI 0, vI 0, vW 0, .slice none 0 0, .slice none 0 0, vI 0, .slice none 0 0, vI 0] :: Bk b0 36 [vI a0.Most, vI a0.S.Wide, vW a0.S.Seed, g0_.S.Rows.1, g0_.S.Door, vI a0.S.Added, g0_.R.L.1, vI a0.R.Places] :: OwS true 3 1 eI v2 [1, 0, 2] :: F) 4 0 hp5 ⟨rfl, rfl, rfl, rfl, trivial⟩ (fun _ h => st_pk 3 [1, 2, 0] (by decide) h) (fun _ h => by cases h) fun k9 i_8 hM11 => ?_
    have hm10 : hawthornref08_Tiny_Evict_l0 a0 (k9 + 1) i_8 = some p3 := hM11
    rw [hawthornref08_Tiny_Evict_l0] at hm10
    refine c_seq ?_
    refine c_seq ?_
    refine c_reg ?_
    refine r_u (o_mv rfl) ?_
    refine r_u (o_bin rfl rfl (bI_lt i_8 3)) ?_
    refine r_nil ?_
    refine x_seq ?_
    refine c_if (b := decide (i_8 < 3)) rfl (fun h12 => ?_) fun h12 => ?_
    · have hm13 := ift hm10 h12
      clear hm10
      refine c_skip ?_
      refine x_seq ?_
      refine c_seq ?_
      refine c_blk ?_
      refine c_seq ?_
      obtain ⟨x14, hx14, hm15⟩ := bs hm13
      clear hm13
      obtain ⟨r16, hr16, hm17⟩ := bs hm15
      clear hm15
      refine c_any mixed (effs := []) (V := []) ?_
      refine stage_ext [(0, pt b0 6), (1, .agg [g0_.R.L.1, vI a0.R.Places].toArray), (2, v2), (3, vI i_8), (4, pt (sb v2) (so v2 + i_8.toNat * 1)), (5, vI x14), (6, .tuple #[vS r16.1, vB r16.2]), (7, .tuple #[vS r16.1, vB r16.2]), (8, vS r16.1), (9, vB r16.2), (10, vS r16.1), (11, vB r16.2)] rfl ?_
      refine stage rfl rfl rfl rfl [0, 1, 0, 0, 12, 28, 63, 127, 255, 255, 511, 2047] [0, 1, 2, 3, 4, 5, 6, 7, 8, 9, 10, 11] [] rfl rfl rfl (qc rfl rfl (s_u (o_fa fa36_2 rfl)) (qc rfl rfl (s_u (o_ldn 1 [g0_.R.L.1, vI a0.R.Places] ag34 rfl rfl rfl rfl)) (qc rfl rfl (s_u (o_mv rfl)) (qc rfl rfl (s_u (o_mv rfl)) (qc rfl rfl (s_u (o_ixO 2 Tryz.underlying86 (fun _ => by kernel_rfl) rfl rfl rfl hx14)) (qc rfl rfl (s_u (o_ldO0 2 sc3 rfl rfl hx14 rfl rfl)) (qc rfl rfl (s_u (o_callq ca58 rfl (hawthornref06_Rings_Back.ok a0.R (⟨(g0_.R.L.1, [])⟩ : hawthornref06_Rings.G) h0.2 x14 r16 hr16))) (qc rfl rfl (s_u (o_mv rfl)) (qc rfl rfl (s_u (o_ext rfl rfl)) (qc rfl rfl (s_u (o_ext rfl rfl)) (qc rfl rfl (s_u (o_as rfl)) (qc rfl rfl (s_u (o_as rfl)) qn)))))))))))) en ?_
      intro _
      refine ex_sub (E' := [(1, pt b0 0), (2, pt b1 0), (5, v2), (6, vI i_8), (7, vS r16.1), (8, vB r16.2)]) ⟨rfl, rfl, rfl, rfl, rfl, rfl, trivial⟩ ?_
      refine x_seq ?_
      refine c_seq ?_
      refine c_reg ?_
      refine r_u (o_mv rfl) ?_
      refine r_nil ?_
      refine x_seq ?_
      refine c_if (b := r16.2) rfl (fun h18 => ?_) fun h18 => ?_
      · have hm19 := ift hm17 h18
        clear hm17
        refine c_seq ?_
        refine c_reg ?_
        refine r_u (o_fa fa36_2 rfl) ?_
        refine r_u (o_ldn 1 [g0_.R.L.1, vI a0.R.Places] ag34 rfl rfl rfl rfl) ?_
        refine r_u (o_mv rfl) ?_
        obtain ⟨r20, hr20, hm23⟩ := bs hm19
        clear hm19
        refine r_sw (s_w (o_call ca59 rfl (hawthornref06_Rings_Drop.ok a0.R (⟨(g0_.R.L.1, [])⟩ : hawthornref06_Rings.G) h0.2 r16.1 r20 hr20))) ?_
        rintro _ R _ _ ⟨v21, rfl, rfl, rfl⟩
        refine r_u (o_fa fa36_2 rfl) ?_
        refine rl_st (fun _ h => mv3 h) ?_
        refine r_u0 (ou_if (one_o 1 rfl) fun ho0 => o_stn ag34 rfl rfl rfl (al_c ho0 (al_c rfl al_n)) rfl rfl rfl) ?_
        refine r_nil ?_
        refine x_seq ?_
        refine c_seq ?_
        refine c_reg ?_
        refine r_u (o_ldn 0 [vI a0.Most, vI a0.S.Wide, vW a0.S.Seed, g0_.S.Rows.1, g0_.S.Door, vI a0.S.Added, v21.L.1, vI r20.Places] ag36 rfl rfl rfl rfl) ?_
        refine r_u (o_mv rfl) ?_
        refine rl_st (fun _ h => mv3 (mv1 h)) ?_
        refine r_u0 (ou_if (one_o 1 rfl) fun ho0 => o_stn ag36 rfl rfl rfl (al_c rfl (al_c rfl (al_c rfl (al_c (RoN.one h0.1.1) (al_c (RoS.one h0.1.2) (al_c rfl (al_c ho0 (al_c rfl al_n)))))))) rfl rfl rfl) ?_
        refine r_u (o_as rfl) ?_
        refine r_u (o_as rfl) ?_
        refine r_nil ?_
        refine x_seq ?_
        refine c_ret ?_
        obtain rfl := Option.some.inj hm23
        try dsimp only at hm6
        refine ex_st (fun _ h => mv2 (mv3 h)) ?_
        refine ex_ex (fun w h => st_freezeN w h) fun R24 hf27 => ?_
        obtain ⟨le25, h26⟩ := hf27
        obtain rfl := Option.some.inj hm6
        exact x_d3 rfl (rv_n 0 [vI a0.Most, vI a0.S.Wide, vW a0.S.Seed, g0_.S.Rows.1, g0_.S.Door, vI a0.S.Added, v21.L.1, vI r20.Places] ag36 rfl rfl rfl rfl) (rv_t rfl) (rv_t rfl) (fun _ h => st_pk 3 [] (by decide) h) le25 ⟨_, rfl, (⟨(⟨(g0_.S.Rows.1, []), g0_.S.Door⟩ : hawthornref05_Sketch.G), (⟨(v21.L.1, [])⟩ : hawthornref06_Rings.G)⟩ : hawthornref08_Tiny.G), rfl, ⟨⟨(RoN.mono le25 h0.1.1), (RoS.mono le25 h0.1.2)⟩, h26⟩, rfl⟩
      · have hm19 := iff_ hm17 h18
        clear hm17
        refine c_skip ?_
        refine x_blk ?_
        refine x_seq ?_
        refine c_reg ?_
        refine r_u (o_mv rfl) ?_
        refine r_u (o_bin rfl rfl (bI_add i_8 1)) ?_
        refine r_u (o_as rfl) ?_
        refine r_nil ?_
        exact x_lp (i64 (i_8 + 1)) hm19 ⟨rfl, rfl, rfl, rfl, trivial⟩ (fun _ h => st_pk 3 [0, 1, 2] (by decide) h)
    · have hm13 := iff_ hm10 h12
      clear hm10
      refine c_exit (x_exit (ks' := _) rfl ?_)
      obtain rfl := Option.some.inj hm13
      exact x_sub (K7 _ rfl) ⟨rfl, rfl, trivial⟩ (fun _ h => st_pk 3 [0, 1, 2] (by decide) h)

def tiny_Tiny_Evict (a0 : tiny_Tiny) : Option (Str × Bool × tiny_Tiny) :=
  (tiny_Tiny_Len a0).bind fun r6 => if (r6 == 0) then some ([], false, a0) else om a0.r (none) fun x10 => (ring_Rings_Back x10 1).bind fun r18 => Option.bind (if !r18.2 then (ring_Rings_Back x10 0).bind fun r41 => some (r41.1, r41.2) else some (r18.1, r18.2)) fun p20 => Option.bind (if !p20.2 then (ring_Rings_Back x10 2).bind fun r37 => some r37.1 else some p20.1) fun p24 => (ring_Rings_Drop x10 p24).bind fun r28 => some (p24, true, (⟨a0.most, a0.s, (some r28.2)⟩ : tiny_Tiny))
theorem tiny_Tiny_Evict.ok {G R F} (b0_ : Nat) (a0 : tiny_Tiny) (g0_ : tiny_Tiny.G) (r : Str × Bool × tiny_Tiny) (hm : tiny_Tiny_Evict a0 = some r) : CO Tryz.prog 29 [pt b0_ 0] G R (Bk b0_ 57 [vI a0.most, g0_.s.1, g0_.r.1] :: rO (sketch_Sketch.op g0_.s.2) g0_.s.1 a0.s :: rO (ring_Rings.op g0_.r.2) g0_.r.1 a0.r :: F)
    (Ret fun u R' L' => ∃ (q0 : tiny_Tiny.G), u = .tuple #[vS r.1, vB r.2.1] ∧ R' = R ∧ L' = Bk b0_ 57 [vI r.2.2.most, q0.s.1, q0.r.1] :: rO (sketch_Sketch.op q0.s.2) q0.s.1 r.2.2.s :: rO (ring_Rings.op q0.r.2) q0.r.1 r.2.2.r :: F) := by
  obtain ⟨⟨pv1, g2⟩, ⟨pv4, g5⟩⟩ := g0_
  unfold tiny_Tiny_Evict at hm
  refine co_ofN (N := 44) Tryz.func29 rfl rfl ?_
  refine c_seq ?_
  refine c_reg ?_
  refine r_u (o_as rfl) ?_
  refine r_u (o_as rfl) ?_
  refine r_nil ?_
  refine x_seq ?_
  refine c_seq ?_
  refine c_seq ?_
  refine c_reg ?_
  refine r_u (o_mv rfl) ?_
  obtain ⟨r6, hr6, hm7⟩ := bs hm
  clear hm
  refine r_c (s_w (o_call ca24 rfl (tiny_Tiny_Len.ok b0_ a0 (⟨(pv1, g2), (pv4, g5)⟩ : tiny_Tiny.G) r6 hr6))) ?_
  refine r_u (o_bin rfl rfl (bI_eq r6 0)) ?_
  refine r_nil ?_
  refine x_seq ?_
  refine c_if (b := (r6 == 0)) rfl (fun h8 => ?_) fun h8 => ?_
  · have hm9 := ift hm7 h8
    clear hm7
    refine c_seq ?_
    refine c_reg ?_
    refine r_u (o_as rfl) ?_
    refine r_u (o_as rfl) ?_
    refine r_nil ?_
    refine x_seq ?_
    refine c_ret ?_
    obtain rfl := Option.some.inj hm9
    exact x_r2 rfl (rv_t rfl) (rv_t rfl) (Le.refl _) ⟨_, rfl, (⟨(pv1, g2), (pv4, g5)⟩ : tiny_Tiny.G), rfl, rfl, rfl⟩
  · have hm9 := iff_ hm7 h8
    clear hm7
    refine c_skip ?_
    refine x_seq ?_
    refine c_seq ?_
    refine cd_st (fun _ h => mv2 h) ?_
    refine cd_opt (fun ho12 => ?_) (fun x10 b11 ho12 => ?_)
    · rintro rfl
      have hm13 := om_n hm9 ho12
      clear hm9
      cases hm13
    · rintro rfl
      have hm13 := om_s hm9 ho12
      clear hm9
      refine cd_st (fun _ h => st_star_o h) ?_
      refine c_reg ?_
      refine r_u (o_mv rfl) ?_
      refine r_u (o_nc rfl) ?_
      refine r_u (o_fa fa57_2 rfl) ?_
      refine r_u (o_ld 5 sc53 rfl rfl rfl) ?_
      obtain ⟨r18, hr18, hm19⟩ := bs hm13
      clear hm13
      refine r_c (s_w (o_call ca52 rfl (ring_Rings_Back.ok b11 x10 g5 1 r18 hr18))) ?_
      refine r_u (o_mv rfl) ?_
      refine r_u (o_ext rfl rfl) ?_
      refine r_u (o_ext rfl rfl) ?_
      refine r_u (o_as rfl) ?_
      refine r_u (o_as rfl) ?_
      refine r_nil ?_
      refine x_seq ?_
      refine c_seq ?_
      refine c_seq ?_
      refine c_reg ?_
      refine r_u (o_mv rfl) ?_
      refine r_u (o_not rfl) ?_
      refine r_nil ?_
      refine x_seq ?_
      obtain ⟨p20, hp21, hm22⟩ := bs hm19
      refine cd_join (E' := [(0, pt b0_ 0), (4, vS p20.1), (5, vB p20.2)]) (L' := Bk b11 89 [vI x10.lists, g5.slots, g5.free, g5.at_, g5.many] :: Bk b0_ 57 [vI a0.most, pv1, pt b11 0] :: OwS true 91 4 ring_slot.c g5.slots x10.slots :: OwS true 3 1 eI g5.free x10.free :: OwM vS vI g5.at_ x10.at_ :: OwS true 3 1 eI g5.many x10.many :: rO (sketch_Sketch.op g2) pv1 a0.s :: F) ?_ fun K23 => ?_
      · refine x_seq ?_
        refine c_seq ?_
        refine c_seq ?_
        refine c_reg ?_
        refine r_u (o_mv rfl) ?_
        refine r_u (o_not rfl) ?_
        refine r_nil ?_
        refine x_seq ?_
        obtain ⟨p24, hp25, hm26⟩ := bs hm22
        refine cd_join (E' := [(0, pt b0_ 0), (4, vS p24)]) (L' := Bk b11 89 [vI x10.lists, g5.slots, g5.free, g5.at_, g5.many] :: Bk b0_ 57 [vI a0.most, pv1, pt b11 0] :: OwS true 91 4 ring_slot.c g5.slots x10.slots :: OwS true 3 1 eI g5.free x10.free :: OwM vS vI g5.at_ x10.at_ :: OwS true 3 1 eI g5.many x10.many :: rO (sketch_Sketch.op g2) pv1 a0.s :: F) ?_ fun K27 => ?_
        · refine x_seq ?_
          refine c_seq ?_
          refine c_reg ?_
          refine r_u (o_mv rfl) ?_
          refine r_u (o_nc rfl) ?_
          refine r_u (o_fa fa57_2 rfl) ?_
          refine r_u (o_ld 1 sc53 rfl rfl rfl) ?_
          refine r_u (o_mv rfl) ?_
          obtain ⟨r28, hr28, hm34⟩ := bs hm26
          clear hm26
          refine rl_st (fun _ h => mv4 (mv5 (mv5 (mv5 (mv5 h))))) ?_
          refine r_sw (s_w (o_call ca54 rfl (ring_Rings_Drop.ok b11 x10 g5 p24 r28 hr28))) ?_
          rintro _ R _ _ ⟨g29, rfl, rfl, rfl⟩
          refine r_nil ?_
          refine x_seq ?_
          refine c_seq ?_
          refine c_reg ?_
          refine r_u (o_mv rfl) ?_
          refine r_u (o_as rfl) ?_
          refine r_u (o_as rfl) ?_
          refine r_nil ?_
          refine x_seq ?_
          refine c_ret ?_
          refine ex_st (fun _ h => st_some (f := ring_Rings.op g29) (a := r28.2) (st_star_f (A := ring_Rings.fl b11 r28.2 g29) h)) ?_
          obtain rfl := Option.some.inj hm34
          refine ex_st (fun _ h => st_pk 3 [1, 2, 0] (by decide) h) ?_
          exact x_r2 rfl (rv_t rfl) (rv_t rfl) (Le.refl _) ⟨_, rfl, (⟨(pv1, g2), (pt b11 0, g29)⟩ : tiny_Tiny.G), rfl, rfl, rfl⟩
        · refine c_if (b := !p20.2) rfl (fun h35 => ?_) fun h35 => ?_
          · have hm36 := ift hp25 h35
            clear hp25
            refine c_reg ?_
            refine r_u (o_mv rfl) ?_
            refine r_u (o_nc rfl) ?_
            refine r_u (o_fa fa57_2 rfl) ?_
            refine r_u (o_ld 1 sc53 rfl rfl rfl) ?_
            obtain ⟨r37, hr37, hm38⟩ := bs hm36
            clear hm36
            refine rl_st (fun _ h => mv4 (mv5 (mv5 (mv5 (mv5 h))))) ?_
            refine r_c (s_w (o_call ca52 rfl (ring_Rings_Back.ok b11 x10 g5 2 r37 hr37))) ?_
            refine r_u (o_mv rfl) ?_
            refine r_u (o_ext rfl rfl) ?_
            refine r_u (o_ext rfl rfl) ?_
            refine r_u (o_as rfl) ?_
            refine r_nil ?_
            obtain rfl := Option.some.inj hm38
            exact x_sub K27 ⟨rfl, rfl, trivial⟩ (fun _ h => st_pk 7 [0, 5, 1, 2, 3, 4, 6] (by decide) h)
          · have hm36 := iff_ hp25 h35
            clear hp25
            refine c_skip ?_
            obtain rfl := Option.some.inj hm36
            exact x_sub K27 ⟨rfl, rfl, trivial⟩ (fun _ h => st_pk 7 [0, 1, 2, 3, 4, 5, 6] (by decide) h)
      · refine c_if (b := !r18.2) rfl (fun h39 => ?_) fun h39 => ?_
        · have hm40 := ift hp21 h39
          clear hp21
          refine c_reg ?_
          refine r_u (o_mv rfl) ?_
          refine r_u (o_nc rfl) ?_
          refine r_u (o_fa fa57_2 rfl) ?_
          refine r_u (o_ld 5 sc53 rfl rfl rfl) ?_
          obtain ⟨r41, hr41, hm42⟩ := bs hm40
          clear hm40
          refine r_c (s_w (o_call ca52 rfl (ring_Rings_Back.ok b11 x10 g5 0 r41 hr41))) ?_
          refine r_u (o_mv rfl) ?_
          refine r_u (o_ext rfl rfl) ?_
          refine r_u (o_ext rfl rfl) ?_
          refine r_u (o_as rfl) ?_
          refine r_u (o_as rfl) ?_
          refine r_nil ?_
          obtain rfl := Option.some.inj hm42
          exact x_sub K23 ⟨rfl, rfl, rfl, trivial⟩ (fun _ h => st_pk 7 [0, 5, 1, 2, 3, 4, 6] (by decide) h)
        · have hm40 := iff_ hp21 h39
          clear hp21
          refine c_skip ?_
          obtain rfl := Option.some.inj hm40
          exact x_sub K23 ⟨rfl, rfl, rfl, trivial⟩ (fun _ h => st_pk 7 [0, 5, 1, 2, 3, 4, 6] (by decide) h)

end Go.Proofs.YtlahbmoebbflbaaGreat
