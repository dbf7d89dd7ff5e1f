import Derived.Test.YtpanhdnglicknaaW3
import Derived.Test.YtpanhdnglicknaaFacts
import Derived.Test.YtpanhdnglicknaaHwZ
set_option linter.unusedVariables false
set_option linter.unusedSectionVars false
set_option linter.unusedSimpArgs false
set_option maxRecDepth 100000
set_option maxHeartbeats 8000000
namespace Go.Proofs.Ytpanhdnglicknaa
open Go Go.Proofs.Ytpanhdnglicknaa.Hw
def arc_Arc_replace (a0 : arc_Arc) (a1 : Bool) : Option (List Str × arc_Arc) :=
  om a0.r (none) fun x3 => (ring_Rings_Len x3 0).bind fun r11 => Option.bind (if decide (0 < r11) then Option.bind (if (decide (a0.target < r11) || (a1 && (r11 == a0.target))) then some true else (ring_Rings_Len x3 1).bind fun r43 => some (r43 == 0)) fun p37 => some p37 else some false) fun p13 => Option.bind (if p13 then some (0, 2) else some (1, 3)) fun p17 => (ring_Rings_Back x3 p17.1).bind fun r21 => if !r21.2 then some ([], a0) else (ring_Rings_Front x3 p17.2 r21.1).bind fun r25 => some ([r21.1], (⟨a0.most, a0.target, (some r25.2)⟩ : arc_Arc))
theorem arc_Arc_replace.ok {G R F} (b0_ : Nat) (a0 : arc_Arc) (g0_ : arc_Arc.G) (a1 : Bool) (r : List Str × arc_Arc) (hm : arc_Arc_replace a0 a1 = some r) : CO Try.prog 74 [pt b0_ 0, vB a1] G R (Bk b0_ 92 [vI a0.most, vI a0.target, g0_.r.1] :: rO (ring_Rings.op g0_.r.2) g0_.r.1 a0.r :: F)
    (Ret fun u R' L' => ∃ (p0 : Value) (q0 : arc_Arc.G), u = p0 ∧ R' = R ∧ L' = OwS true 9 1 eS p0 r.1 :: Bk b0_ 92 [vI r.2.most, vI r.2.target, q0.r.1] :: rO (ring_Rings.op q0.r.2) q0.r.1 r.2.r :: F) := by
  obtain ⟨⟨pv1, g2⟩⟩ := g0_
  unfold arc_Arc_replace at hm
  refine co_ofN (N := 64) Try.func74 rfl rfl ?_
  refine c_seq ?_
  refine c_reg ?_
  refine r_u (o_as rfl) ?_
  refine r_nil ?_
  refine x_seq ?_
  refine c_seq ?_
  refine c_reg ?_
  refine r_u (o_as rfl) ?_
  refine r_u (o_as rfl) ?_
  refine r_nil ?_
  refine x_seq ?_
  refine c_seq ?_
  refine c_seq ?_
  refine cd_st (fun _ h => mv1 h) ?_
  refine cd_opt (fun ho5 => ?_) (fun x3 b4 ho5 => ?_)
  · rintro rfl
    have hm6 := om_n hm ho5
    clear hm
    cases hm6
  · rintro rfl
    have hm6 := om_s hm ho5
    clear hm
    refine cd_st (fun _ h => st_star_o h) ?_
    refine c_reg ?_
    refine r_u (o_mv rfl) ?_
    refine r_u (o_nc rfl) ?_
    refine r_u (o_fa fa92_2 rfl) ?_
    refine r_u (o_ld 5 sc88 rfl rfl rfl) ?_
    obtain ⟨r11, hr11, hm12⟩ := bs hm6
    clear hm6
    refine r_c (s_w (o_call ca56 rfl (ring_Rings_Len.ok b4 x3 g2 0 r11 hr11))) ?_
    refine r_u (o_as rfl) ?_
    refine r_nil ?_
    refine x_seq ?_
    refine c_seq ?_
    obtain ⟨p13, hp14, hm15⟩ := bs hm12
    refine cd_join (E' := [(0, pt b0_ 0), (5, vI 1), (6, vI 3), (43, vB p13)]) (L' := Bk b4 109 [vI x3.lists, g2.slots, g2.free, g2.at_, g2.many] :: Bk b0_ 92 [vI a0.most, vI a0.target, pt b4 0] :: OwS true 111 4 ring_slot.c g2.slots x3.slots :: OwS true 3 1 eI g2.free x3.free :: OwM vS vI g2.at_ x3.at_ :: OwS true 3 1 eI g2.many x3.many :: F) ?_ fun K16 => ?_
    · refine x_seq ?_
      obtain ⟨p17, hp18, hm19⟩ := bs hm15
      refine cd_join (E' := [(0, pt b0_ 0), (5, vI p17.1), (6, vI p17.2)]) (L' := Bk b4 109 [vI x3.lists, g2.slots, g2.free, g2.at_, g2.many] :: Bk b0_ 92 [vI a0.most, vI a0.target, pt b4 0] :: OwS true 111 4 ring_slot.c g2.slots x3.slots :: OwS true 3 1 eI g2.free x3.free :: OwM vS vI g2.at_ x3.at_ :: OwS true 3 1 eI g2.many x3.many :: F) ?_ fun K20 => ?_
      · refine x_seq ?_
        refine c_seq ?_
        refine c_reg ?_
        refine r_u (o_mv rfl) ?_
        refine r_u (o_nc rfl) ?_
        refine r_u (o_fa fa92_2 rfl) ?_
        refine r_u (o_ld 1 sc88 rfl rfl rfl) ?_
        refine r_u (o_mv rfl) ?_
        obtain ⟨r21, hr21, hm22⟩ := bs hm19
        clear hm19
        refine rl_st (fun _ h => mv4 (mv5 (mv5 (mv5 (mv5 h))))) ?_
        refine r_c (s_w (o_call ca58 rfl (ring_Rings_Back.ok b4 x3 g2 p17.1 r21 hr21))) ?_
        refine r_u (o_mv rfl) ?_
        refine r_u (o_ext rfl rfl) ?_
        refine r_u (o_ext rfl rfl) ?_
        refine r_u (o_as rfl) ?_
        refine r_u (o_as rfl) ?_
        refine r_nil ?_
        refine x_seq ?_
        refine c_seq ?_
        refine c_seq ?_
        refine c_reg ?_
        refine r_u (o_mv rfl) ?_
        refine r_u (o_not rfl) ?_
        refine r_nil ?_
        refine x_seq ?_
        refine c_if (b := !r21.2) rfl (fun h23 => ?_) fun h23 => ?_
        · have hm24 := ift hm22 h23
          clear hm22
          refine c_seq ?_
          refine c_reg ?_
          refine r_u (o_as rfl) ?_
          refine r_nil ?_
          refine x_seq ?_
          refine c_ret ?_
          refine ex_st (fun _ h => st_nil (ap := true) (T := 9) (sz := 1) (en := eS) h) ?_
          refine ex_st (fun _ h => mv5 (mv5 (mv5 (mv5 (mv5 h))))) ?_
          refine ex_st (fun _ h => st_some (f := ring_Rings.op g2) (a := x3) (st_star_f (A := ring_Rings.fl b4 x3 g2) h)) ?_
          refine ex_st (fun _ h => st_back ho5 h) ?_
          obtain rfl := Option.some.inj hm24
          refine ex_st (fun _ h => st_pk 3 [1, 2, 0] (by decide) h) ?_
          exact x_r1 rfl (rv_t rfl) (Le.refl _) ⟨_, rfl, (.slice none 0 0), (⟨(pt b4 0, g2)⟩ : arc_Arc.G), rfl, rfl, rfl⟩
        · have hm24 := iff_ hm22 h23
          clear hm22
          refine c_skip ?_
          refine x_seq ?_
          refine c_seq ?_
          refine c_reg ?_
          refine r_u (o_mv rfl) ?_
          refine r_u (o_nc rfl) ?_
          refine r_u (o_fa fa92_2 rfl) ?_
          refine r_u (o_ld 5 sc88 rfl rfl rfl) ?_
          refine r_u (o_mv rfl) ?_
          refine r_u (o_mv rfl) ?_
          obtain ⟨r25, hr25, hm31⟩ := bs hm24
          clear hm24
          refine r_sw (s_w (o_call ca55 rfl (ring_Rings_Front.ok b4 x3 g2 p17.2 r21.1 r25 hr25))) ?_
          rintro _ R _ _ ⟨g26, rfl, rfl, rfl⟩
          refine r_nil ?_
          refine x_seq ?_
          refine c_seq ?_
          refine c_reg ?_
          refine r_u (o_mv rfl) ?_
          refine r_sw (s_w (o_bsl (en := eS) (sz := 1) (e := 9) (cs := [vS r21.1]) (r := [r21.1]) rfl (fun _ => by kernel_rfl) rfl (by decide) rfl (fun _ => rfl))) ?_
          rintro v32 R _ _ ⟨rfl, rfl⟩
          refine r_u (o_as rfl) ?_
          refine r_nil ?_
          refine x_seq ?_
          refine c_ret ?_
          refine ex_st (fun _ h => mv5 (mv5 (mv5 (mv5 (mv5 h))))) ?_
          refine ex_st (fun _ h => st_some (f := ring_Rings.op g26) (a := r25.2) (st_star_f (A := ring_Rings.fl b4 r25.2 g26) h)) ?_
          obtain rfl := Option.some.inj hm31
          refine ex_st (fun _ h => st_pk 3 [1, 2, 0] (by decide) h) ?_
          exact x_r1 rfl (rv_t rfl) (Le.refl _) ⟨_, rfl, v32, (⟨(pt b4 0, g26)⟩ : arc_Arc.G), rfl, rfl, rfl⟩
      · refine c_if (b := p13) rfl (fun h33 => ?_) fun h33 => ?_
        · have hm34 := ift hp18 h33
          clear hp18
          refine c_reg ?_
          refine r_u (o_as rfl) ?_
          refine r_u (o_as rfl) ?_
          refine r_nil ?_
          obtain rfl := Option.some.inj hm34
          exact x_sub K20 ⟨rfl, rfl, rfl, trivial⟩ (fun _ h => st_pk 6 [0, 1, 2, 3, 4, 5] (by decide) h)
        · have hm34 := iff_ hp18 h33
          clear hp18
          refine c_skip ?_
          obtain rfl := Option.some.inj hm34
          exact x_sub K20 ⟨rfl, rfl, rfl, trivial⟩ (fun _ h => st_pk 6 [0, 1, 2, 3, 4, 5] (by decide) h)
    · refine cd_by (decide (0 < r11)) (fun h35 => ?_) fun h35 => ?_
      · have hm36 := ift hp14 h35
        clear hp14
        obtain ⟨p37, hp38, hm39⟩ := bs hm36
        refine cd_join (E' := [(0, pt b0_ 0), (5, vI 1), (6, vI 3), (43, vB p37)]) (L' := Bk b4 109 [vI x3.lists, g2.slots, g2.free, g2.at_, g2.many] :: Bk b0_ 92 [vI a0.most, vI a0.target, pt b4 0] :: OwS true 111 4 ring_slot.c g2.slots x3.slots :: OwS true 3 1 eI g2.free x3.free :: OwM vS vI g2.at_ x3.at_ :: OwS true 3 1 eI g2.many x3.many :: F) ?_ fun K40 => ?_
        · obtain rfl := Option.some.inj hm39
          exact x_sub K16 ⟨rfl, rfl, rfl, rfl, trivial⟩ (fun _ h => st_pk 6 [0, 1, 2, 3, 4, 5] (by decide) h)
        · refine cd_by (decide (a0.target < r11) || (a1 && (r11 == a0.target))) (fun h41 => ?_) fun h41 => ?_
          · have hm42 := ift hp38 h41
            clear hp38
            refine c_reg ?_
            refine r_u (o_mv rfl) ?_
            refine r_u (o_bin rfl rfl (bI_gt r11 0)) ?_
            refine r_u (o_mv rfl) ?_
            refine r_s (s_y rfl rfl h35 (o_mv rfl)) ?_
            refine r_s (s_y rfl rfl h35 (o_mv rfl)) ?_
            refine r_s (s_y rfl rfl h35 (o_nc rfl)) ?_
            refine r_s (s_y rfl rfl h35 (o_fa fa92_1 rfl)) ?_
            refine r_s (s_y rfl rfl h35 (o_ld 5 sc3 rfl rfl rfl)) ?_
            refine r_s (s_y rfl rfl h35 (o_bin rfl rfl (bI_gt r11 a0.target))) ?_
            refine r_s (s_y rfl rfl h35 (o_mv rfl)) ?_
            refine r_s (s_gf rfl rfl fun g => o_mv rfl) ?_
            refine r_s (s_gf rfl rfl fun g => o_mv (evg rfl g)) ?_
            refine r_s (s_ggt rfl rfl fun g => o_mv rfl) ?_
            refine r_s (s_ggt rfl rfl fun g => o_mv rfl) ?_
            refine r_s (s_ggt rfl rfl fun g => o_nc (evg rfl g)) ?_
            refine r_s (s_ggt rfl rfl fun g => o_fa fa92_1 (evg rfl g)) ?_
            refine r_s (s_ggt rfl rfl fun g => o_ld 5 sc3 (evg rfl g) rfl rfl) ?_
            refine r_s (s_ggt rfl rfl fun g => o_bin (evg rfl g) (evg rfl g) (bI_eq r11 a0.target)) ?_
            refine r_s (s_gf rfl rfl fun g => o_and (evg rfl g) (evg2 rfl g)) ?_
            refine r_s (s_y rfl rfl h35 (o_or rfl rfl)) ?_
            refine r_s (s_y rfl rfl h35 (o_mv rfl)) ?_
            refine r_s (s_n rfl rfl h41) ?_
            refine r_s (s_n rfl rfl h41) ?_
            refine r_s (s_n rfl rfl h41) ?_
            refine r_s (s_n rfl rfl h41) ?_
            refine r_s (s_n rfl rfl h41) ?_
            refine r_s (s_n rfl rfl h41) ?_
            refine r_s (s_y rfl rfl h35 (o_pt rfl h41 rfl)) ?_
            refine r_u (o_pt rfl h35 rfl) ?_
            refine r_nil ?_
            obtain rfl := Option.some.inj hm42
            exact x_sub K40 ⟨rfl, rfl, rfl, rfl, trivial⟩ (fun _ h => st_pk 6 [0, 5, 1, 2, 3, 4] (by decide) h)
          · have hm42 := iff_ hp38 h41
            clear hp38
            refine c_reg ?_
            refine r_u (o_mv rfl) ?_
            refine r_u (o_bin rfl rfl (bI_gt r11 0)) ?_
            refine r_u (o_mv rfl) ?_
            refine r_s (s_y rfl rfl h35 (o_mv rfl)) ?_
            refine r_s (s_y rfl rfl h35 (o_mv rfl)) ?_
            refine r_s (s_y rfl rfl h35 (o_nc rfl)) ?_
            refine r_s (s_y rfl rfl h35 (o_fa fa92_1 rfl)) ?_
            refine r_s (s_y rfl rfl h35 (o_ld 5 sc3 rfl rfl rfl)) ?_
            refine r_s (s_y rfl rfl h35 (o_bin rfl rfl (bI_gt r11 a0.target))) ?_
            refine r_s (s_y rfl rfl h35 (o_mv rfl)) ?_
            refine r_s (s_gf rfl rfl fun g => o_mv rfl) ?_
            refine r_s (s_gf rfl rfl fun g => o_mv (evg rfl g)) ?_
            refine r_s (s_ggt rfl rfl fun g => o_mv rfl) ?_
            refine r_s (s_ggt rfl rfl fun g => o_mv rfl) ?_
            refine r_s (s_ggt rfl rfl fun g => o_nc (evg rfl g)) ?_
            refine r_s (s_ggt rfl rfl fun g => o_fa fa92_1 (evg rfl g)) ?_
            refine r_s (s_ggt rfl rfl fun g => o_ld 5 sc3 (evg rfl g) rfl rfl) ?_
            refine r_s (s_ggt rfl rfl fun g => o_bin (evg rfl g) (evg rfl g) (bI_eq r11 a0.target)) ?_
            refine r_s (s_gf rfl rfl fun g => o_and (evg rfl g) (evg2 rfl g)) ?_
            refine r_s (s_y rfl rfl h35 (o_or rfl rfl)) ?_
            refine r_s (s_y rfl rfl h35 (o_mv rfl)) ?_
            refine r_s (s_y rfl rfl h41 (o_mv rfl)) ?_
            refine r_s (s_y rfl rfl h41 (o_nc rfl)) ?_
            refine r_s (s_y rfl rfl h41 (o_fa fa92_2 rfl)) ?_
            refine r_s (s_y rfl rfl h41 (o_ld 5 sc88 rfl rfl rfl)) ?_
            obtain ⟨r43, hr43, hm44⟩ := bs hm42
            clear hm42
            refine r_c (s_yw rfl rfl h41 (o_call ca56 rfl (ring_Rings_Len.ok b4 x3 g2 1 r43 hr43))) ?_
            refine r_s (s_y rfl rfl h41 (o_bin rfl rfl (bI_eq r43 0))) ?_
            refine r_s (s_y rfl rfl h35 (o_pf rfl h41 rfl)) ?_
            refine r_u (o_pt rfl h35 rfl) ?_
            refine r_nil ?_
            obtain rfl := Option.some.inj hm44
            exact x_sub K40 ⟨rfl, rfl, rfl, rfl, trivial⟩ (fun _ h => st_pk 6 [0, 5, 1, 2, 3, 4] (by decide) h)
      · have hm36 := iff_ hp14 h35
        clear hp14
        refine c_reg ?_
        refine r_u (o_mv rfl) ?_
        refine r_u (o_bin rfl rfl (bI_gt r11 0)) ?_
        refine r_u (o_mv rfl) ?_
        refine r_s (s_n rfl rfl h35) ?_
        refine r_s (s_n rfl rfl h35) ?_
        refine r_s (s_n rfl rfl h35) ?_
        refine r_s (s_n rfl rfl h35) ?_
        refine r_s (s_n rfl rfl h35) ?_
        refine r_s (s_n rfl rfl h35) ?_
        refine r_s (s_n rfl rfl h35) ?_
        refine r_s (s_nu rfl rfl) ?_
        refine r_s (s_nu rfl rfl) ?_
        refine r_s (s_nu rfl rfl) ?_
        refine r_s (s_nu rfl rfl) ?_
        refine r_s (s_nu rfl rfl) ?_
        refine r_s (s_nu rfl rfl) ?_
        refine r_s (s_nu rfl rfl) ?_
        refine r_s (s_nu rfl rfl) ?_
        refine r_s (s_nu rfl rfl) ?_
        refine r_s (s_n rfl rfl h35) ?_
        refine r_s (s_n rfl rfl h35) ?_
        refine r_s (s_nu rfl rfl) ?_
        refine r_s (s_nu rfl rfl) ?_
        refine r_s (s_nu rfl rfl) ?_
        refine r_s (s_nu rfl rfl) ?_
        refine r_s (s_nu rfl rfl) ?_
        refine r_s (s_nu rfl rfl) ?_
        refine r_s (s_n rfl rfl h35) ?_
        refine r_u (o_pf rfl h35 rfl) ?_
        refine r_nil ?_
        obtain rfl := Option.some.inj hm36
        exact x_sub K16 ⟨rfl, rfl, rfl, rfl, trivial⟩ (fun _ h => st_pk 6 [0, 5, 1, 2, 3, 4] (by decide) h)

def arc_Arc_again (a0 : arc_Arc) (a1 : Str) (a2 : Int) : Option (List Str × arc_Arc) :=
  om a0.r (none) fun x3 => (ring_Rings_Len x3 2).bind fun r11 => (ring_Rings_Len x3 3).bind fun r13 => Option.bind (if (a2 == 2) then if r11 ≠ 0 then some (if (i64 (a0.target + (if 1 < (i64 (r13.tdiv r11)) then i64 (r13.tdiv r11) else 1))) < a0.most then i64 (a0.target + (if 1 < (i64 (r13.tdiv r11)) then i64 (r13.tdiv r11) else 1)) else a0.most) else none else if r13 ≠ 0 then some (if 0 < (i64 (a0.target - (if 1 < (i64 (r11.tdiv r13)) then i64 (r11.tdiv r13) else 1))) then i64 (a0.target - (if 1 < (i64 (r11.tdiv r13)) then i64 (r11.tdiv r13) else 1)) else 0) else none) fun p15 => (arc_Arc_Len (⟨a0.most, p15, (some x3)⟩ : arc_Arc)).bind fun r19 => Option.bind (if decide (a0.most ≤ r19) then (arc_Arc_replace (⟨a0.most, p15, (some x3)⟩ : arc_Arc) (a2 == 3)).bind fun r47 => some (r47.1, r47.2) else some ([], (⟨a0.most, p15, (some x3)⟩ : arc_Arc))) fun p21 => om p21.2.r (none) fun x30 => (ring_Rings_Front x30 1 a1).bind fun r38 => some (p21.1, (⟨p21.2.most, p21.2.target, (some r38.2)⟩ : arc_Arc))
theorem arc_Arc_again.ok {G R F} (b0_ : Nat) (a0 : arc_Arc) (g0_ : arc_Arc.G) (a1 : Str) (a2 : Int) (r : List Str × arc_Arc) (hm : arc_Arc_again a0 a1 a2 = some r) : CO Try.prog 71 [pt b0_ 0, vS a1, vI a2] G R (Bk b0_ 92 [vI a0.most, vI a0.target, g0_.r.1] :: rO (ring_Rings.op g0_.r.2) g0_.r.1 a0.r :: F)
    (Ret fun u R' L' => ∃ (p0 : Value) (q0 : arc_Arc.G), u = p0 ∧ R' = R ∧ L' = OwS true 9 1 eS p0 r.1 :: Bk b0_ 92 [vI r.2.most, vI r.2.target, q0.r.1] :: rO (ring_Rings.op q0.r.2) q0.r.1 r.2.r :: F) := by
  obtain ⟨⟨pv1, g2⟩⟩ := g0_
  unfold arc_Arc_again at hm
  refine co_ofN (N := 70) Try.func71 rfl rfl ?_
  refine c_seq ?_
  refine c_reg ?_
  refine r_u (o_as rfl) ?_
  refine r_nil ?_
  refine x_seq ?_
  refine c_seq ?_
  refine cd_st (fun _ h => mv1 h) ?_
  refine cd_opt (fun ho5 => ?_) (fun x3 b4 ho5 => ?_)
  · rintro rfl
    have hm6 := om_n hm ho5
    clear hm
    cases hm6
  · rintro rfl
    have hm6 := om_s hm ho5
    clear hm
    refine cd_st (fun _ h => st_star_o h) ?_
    obtain ⟨r11, hr11, hm12⟩ := bs hm6
    clear hm6
    obtain ⟨r13, hr13, hm14⟩ := bs hm12
    clear hm12
    refine c_any mixed (effs := []) (V := []) ?_
    refine stage_ext [(0, pt b0_ 0), (1, pt b0_ 0), (2, pt b0_ 2), (3, pt b4 0), (4, vI r11), (5, pt b0_ 0), (6, pt b0_ 0), (7, pt b0_ 2), (8, pt b4 0), (9, vI r13), (10, vI r11), (11, vI r13)] rfl ?_
    refine stage rfl rfl rfl rfl [0, 1, 3, 7, 15, 0, 32, 96, 224, 511, 1023, 2047] [0, 1, 2, 3, 4, 5, 6, 7, 8, 9, 10, 11] [] rfl rfl rfl (qc rfl rfl (s_u (o_mv rfl)) (qc rfl rfl (s_u (o_nc rfl)) (qc rfl rfl (s_u (o_fa fa92_2 rfl)) (qc rfl rfl (s_u (o_ld 5 sc88 rfl rfl rfl)) (qc rfl rfl (s_u (o_callqP ca56 rfl (ring_Rings_Len.ok b4 x3 g2 2 r11 hr11) (fun _ h => st_pk 6 [0, 1, 2, 3, 4, 5] (by decide) h) (fun _ h => st_pk 6 [0, 1, 2, 3, 4, 5] (by decide) h))) (qc rfl rfl (s_u (o_mv rfl)) (qc rfl rfl (s_u (o_nc rfl)) (qc rfl rfl (s_u (o_fa fa92_2 rfl)) (qc rfl rfl (s_u (o_ld 5 sc88 rfl rfl rfl)) (qc rfl rfl (s_u (o_callqP ca56 rfl (ring_Rings_Len.ok b4 x3 g2 3 r13 hr13) (fun _ h => st_pk 6 [0, 1, 2, 3, 4, 5] (by decide) h) (fun _ h => st_pk 6 [0, 1, 2, 3, 4, 5] (by decide) h))) (qc rfl rfl (s_u (o_as rfl)) (qc rfl rfl (s_u (o_as rfl)) qn)))))))))))) en ?_
    intro _
    refine ex_sub (E' := [(0, pt b0_ 0), (1, vS a1), (2, vI a2), (7, vI r11), (8, vI r13)]) ⟨rfl, rfl, rfl, rfl, rfl, trivial⟩ ?_
    refine x_seq ?_
    refine c_seq ?_
    refine c_seq ?_
    refine c_reg ?_
    refine r_u (o_mv rfl) ?_
    refine r_u (o_bin rfl rfl (bI_eq a2 2)) ?_
    refine r_nil ?_
    refine x_seq ?_
    obtain ⟨p15, hp16, hm17⟩ := bs hm14
    refine cd_join (E' := [(0, pt b0_ 0), (1, vS a1), (2, vI a2)]) (L' := Bk b0_ 92 [vI a0.most, vI p15, pt b4 0] :: Bk b4 109 [vI x3.lists, g2.slots, g2.free, g2.at_, g2.many] :: OwS true 111 4 ring_slot.c g2.slots x3.slots :: OwS true 3 1 eI g2.free x3.free :: OwM vS vI g2.at_ x3.at_ :: OwS true 3 1 eI g2.many x3.many :: F) ?_ fun K18 => ?_
    · refine x_seq ?_
      refine c_seq ?_
      refine c_reg ?_
      refine r_u (o_as rfl) ?_
      refine r_nil ?_
      refine x_seq ?_
      refine c_seq ?_
      refine c_seq ?_
      refine cd_st (fun _ h => mv5 (mv5 (mv5 (mv5 (mv5 h))))) ?_
      refine cd_st (fun _ h => st_some (f := ring_Rings.op g2) (a := x3) (st_star_f (A := ring_Rings.fl b4 x3 g2) h)) ?_
      obtain ⟨r19, hr19, hm20⟩ := bs hm17
      clear hm17
      refine c_any mixed (effs := []) (V := []) ?_
      refine stage_ext [(0, pt b0_ 0), (1, vI r19), (2, pt b0_ 0), (3, pt b0_ 0), (4, pt b0_ 0), (5, vI a0.most), (6, vB (decide (a0.most ≤ r19)))] rfl ?_
      refine stage rfl rfl rfl rfl [0, 1, 0, 4, 12, 28, 63] [0, 1, 2, 3, 4, 5, 6] [] rfl rfl rfl (qc rfl rfl (s_u (o_mv rfl)) (qc rfl rfl (s_u (o_callqP ca73 rfl (arc_Arc_Len.ok b0_ (⟨a0.most, p15, (some x3)⟩ : arc_Arc) (⟨(pt b4 0, g2)⟩ : arc_Arc.G) r19 hr19) (fun _ h => st_pk 2 [1, 0] (by decide) h) (fun _ h => st_pk 2 [1, 0] (by decide) h))) (qc rfl rfl (s_u (o_mv rfl)) (qc rfl rfl (s_u (o_nc rfl)) (qc rfl rfl (s_u (o_fa fa92_0 rfl)) (qc rfl rfl (s_u (o_ld 1 sc3 rfl rfl rfl)) (qc rfl rfl (s_u (o_bin rfl rfl (bI_ge r19 a0.most))) qn))))))) en ?_
      intro _
      refine ex_sub (E' := [(0, pt b0_ 0), (1, vS a1), (2, vI a2), (9, .slice none 0 0), (58, vB (decide (a0.most ≤ r19)))]) ⟨rfl, rfl, rfl, rfl, rfl, trivial⟩ ?_
      refine x_seq ?_
      obtain ⟨p21, hp27, hm28⟩ := bs hm20
      refine cd_cut (fun x ks => ∀ (g22 : Value), ∀ (g23 : arc_Arc.G), EX x .normal ks [(0, pt b0_ 0), (1, vS a1), (9, g22)] R (Bk b0_ 92 [vI p21.2.most, vI p21.2.target, g23.r.1] :: OwS true 9 1 eS g22 p21.1 :: rO (ring_Rings.op g23.r.2) g23.r.1 p21.2.r :: F)) ?_ fun K29 => ?_
      · intro g22 g23
        obtain ⟨⟨pv25, g26⟩⟩ := g23
        refine x_seq ?_
        refine c_seq ?_
        refine cd_st (fun _ h => mv2 h) ?_
        refine cd_opt (fun ho32 => ?_) (fun x30 b31 ho32 => ?_)
        · rintro rfl
          have hm33 := om_n hm28 ho32
          clear hm28
          cases hm33
        · rintro rfl
          have hm33 := om_s hm28 ho32
          clear hm28
          refine cd_st (fun _ h => st_star_o h) ?_
          refine c_reg ?_
          refine r_u (o_mv rfl) ?_
          refine r_u (o_nc rfl) ?_
          refine r_u (o_fa fa92_2 rfl) ?_
          refine r_u (o_ld 5 sc88 rfl rfl rfl) ?_
          refine r_u (o_mv rfl) ?_
          obtain ⟨r38, hr38, hm44⟩ := bs hm33
          clear hm33
          refine r_sw (s_w (o_call ca55 rfl (ring_Rings_Front.ok b31 x30 g26 1 a1 r38 hr38))) ?_
          rintro _ R _ _ ⟨g39, rfl, rfl, rfl⟩
          refine r_nil ?_
          refine x_seq ?_
          refine c_seq ?_
          refine c_reg ?_
          refine r_u (o_mv rfl) ?_
          refine r_u (o_as rfl) ?_
          refine r_nil ?_
          refine x_seq ?_
          refine c_ret ?_
          refine ex_st (fun _ h => st_some (f := ring_Rings.op g39) (a := r38.2) (st_star_f (A := ring_Rings.fl b31 r38.2 g39) h)) ?_
          obtain rfl := Option.some.inj hm44
          refine ex_st (fun _ h => st_pk 3 [2, 1, 0] (by decide) h) ?_
          exact x_r1 rfl (rv_t rfl) (Le.refl _) ⟨_, rfl, g22, (⟨(pt b31 0, g39)⟩ : arc_Arc.G), rfl, rfl, rfl⟩
      · refine c_if (b := decide (a0.most ≤ r19)) rfl (fun h45 => ?_) fun h45 => ?_
        · have hm46 := ift hp27 h45
          clear hp27
          refine c_reg ?_
          refine r_u (o_mv rfl) ?_
          refine r_u (o_mv rfl) ?_
          refine r_u (o_bin rfl rfl (bI_eq a2 3)) ?_
          obtain ⟨r47, hr47, hm53⟩ := bs hm46
          clear hm46
          refine rl_st (fun _ h => mv1 h) ?_
          refine r_sw (s_w (o_call ca74 rfl (arc_Arc_replace.ok b0_ (⟨a0.most, p15, (some x3)⟩ : arc_Arc) (⟨(pt b4 0, g2)⟩ : arc_Arc.G) (a2 == 3) r47 hr47))) ?_
          rintro v48 R _ _ ⟨_, ⟨⟨pv51, g52⟩⟩, rfl, rfl, rfl⟩
          refine r_u (o_as rfl) ?_
          refine r_nil ?_
          obtain rfl := Option.some.inj hm53
          exact x_sub (K29 v48 (⟨(pv51, g52)⟩ : arc_Arc.G)) ⟨rfl, rfl, rfl, trivial⟩ (fun _ h => st_pk 3 [1, 0, 2] (by decide) h)
        · have hm46 := iff_ hp27 h45
          clear hp27
          refine c_skip ?_
          refine ex_st (fun _ h => st_nil (ap := true) (T := 9) (sz := 1) (en := eS) h) ?_
          obtain rfl := Option.some.inj hm46
          exact x_sub (K29 (.slice none 0 0) (⟨(pt b4 0, g2)⟩ : arc_Arc.G)) ⟨rfl, rfl, rfl, trivial⟩ (fun _ h => st_pk 3 [2, 0, 1] (by decide) h)
    · refine c_if (b := (a2 == 2)) rfl (fun h54 => ?_) fun h54 => ?_
      · have hm55 := ift hp16 h54
        clear hp16
        obtain ⟨h56, hm57⟩ := ig hm55
        clear hm55
        refine c_any mixed (effs := [17]) (V := []) ?_
        refine stage_st (fun _ h => mv5 h) ?_
        refine stage_ext [(0, pt b0_ 0), (1, pt b0_ 0), (2, pt b0_ 0), (3, pt b0_ 0), (4, vI a0.most), (5, pt b0_ 0), (6, pt b0_ 0), (7, pt b0_ 1), (8, vI a0.target), (9, vI r13), (10, vI r11), (11, vI (i64 (r13.tdiv r11))), (12, vI (if 1 < (i64 (r13.tdiv r11)) then i64 (r13.tdiv r11) else 1)), (13, vI (i64 (a0.target + (if 1 < (i64 (r13.tdiv r11)) then i64 (r13.tdiv r11) else 1)))), (14, vI (if (i64 (a0.target + (if 1 < (i64 (r13.tdiv r11)) then i64 (r13.tdiv r11) else 1))) < a0.most then i64 (a0.target + (if 1 < (i64 (r13.tdiv r11)) then i64 (r13.tdiv r11) else 1)) else a0.most)), (15, pt b0_ 0), (16, pt b0_ 1)] rfl ?_
        refine stage rfl rfl rfl rfl [0, 0, 2, 6, 14, 0, 32, 96, 224, 0, 0, 1536, 3584, 8160, 16382, 32767, 65535, 131071] [0, 1, 2, 3, 4, 5, 6, 7, 8, 9, 10, 11, 12, 13, 14, 15, 16] [17] rfl rfl rfl (qc rfl rfl (s_u (o_mv rfl)) (qc rfl rfl (s_u (o_mv rfl)) (qc rfl rfl (s_u (o_nc rfl)) (qc rfl rfl (s_u (o_fa fa92_0 rfl)) (qc rfl rfl (s_u (o_ld 0 sc3 rfl rfl rfl)) (qc rfl rfl (s_u (o_mv rfl)) (qc rfl rfl (s_u (o_nc rfl)) (qc rfl rfl (s_u (o_fa fa92_1 rfl)) (qc rfl rfl (s_u (o_ld 0 sc3 rfl rfl rfl)) (qc rfl rfl (s_u (o_mv rfl)) (qc rfl rfl (s_u (o_mv rfl)) (qc rfl rfl (s_u (o_bin rfl rfl (bI_quo r13 r11 h56))) (qc rfl rfl (s_u (o_maxI rfl rfl)) (qc rfl rfl (s_u (o_bin rfl rfl (bI_add a0.target (if 1 < (i64 (r13.tdiv r11)) then i64 (r13.tdiv r11) else 1)))) (qc rfl rfl (s_u (o_minI rfl rfl)) (qc rfl rfl (s_u (o_nc rfl)) (qc rfl rfl (s_u (o_fa fa92_1 rfl)) qn))))))))))))))))) ?_ (fun h => absurd h (by decide))
        refine ec (eo_u rfl (s_u (o_st sc3 rfl rfl rfl rfl rfl rfl)) (Le.refl _) ?_) en
        refine stage rfl rfl rfl rfl [0, 0, 2, 6, 14, 0, 32, 96, 224, 0, 0, 1536, 3584, 8160, 16382, 32767, 65535, 131071] [] [] rfl rfl rfl qn en ?_
        intro _
        refine ex_sub (E' := [(0, pt b0_ 0), (1, vS a1), (2, vI a2)]) ⟨rfl, rfl, rfl, trivial⟩ ?_
        obtain rfl := Option.some.inj hm57
        exact x_sub K18 ⟨rfl, rfl, rfl, trivial⟩ (fun _ h => st_pk 6 [0, 1, 2, 3, 4, 5] (by decide) h)
      · have hm55 := iff_ hp16 h54
        clear hp16
        obtain ⟨h58, hm59⟩ := ig hm55
        clear hm55
        refine c_any mixed (effs := [13]) (V := []) ?_
        refine stage_st (fun _ h => mv5 h) ?_
        refine stage_ext [(0, pt b0_ 0), (1, pt b0_ 0), (2, pt b0_ 0), (3, pt b0_ 1), (4, vI a0.target), (5, vI r11), (6, vI r13), (7, vI (i64 (r11.tdiv r13))), (8, vI (if 1 < (i64 (r11.tdiv r13)) then i64 (r11.tdiv r13) else 1)), (9, vI (i64 (a0.target - (if 1 < (i64 (r11.tdiv r13)) then i64 (r11.tdiv r13) else 1)))), (10, vI (if 0 < (i64 (a0.target - (if 1 < (i64 (r11.tdiv r13)) then i64 (r11.tdiv r13) else 1))) then i64 (a0.target - (if 1 < (i64 (r11.tdiv r13)) then i64 (r11.tdiv r13) else 1)) else 0)), (11, pt b0_ 0), (12, pt b0_ 1)] rfl ?_
        refine stage rfl rfl rfl rfl [0, 0, 2, 6, 14, 0, 0, 96, 224, 510, 1022, 2047, 4095, 8191] [0, 1, 2, 3, 4, 5, 6, 7, 8, 9, 10, 11, 12] [13] rfl rfl rfl (qc rfl rfl (s_u (o_mv rfl)) (qc rfl rfl (s_u (o_mv rfl)) (qc rfl rfl (s_u (o_nc rfl)) (qc rfl rfl (s_u (o_fa fa92_1 rfl)) (qc rfl rfl (s_u (o_ld 0 sc3 rfl rfl rfl)) (qc rfl rfl (s_u (o_mv rfl)) (qc rfl rfl (s_u (o_mv rfl)) (qc rfl rfl (s_u (o_bin rfl rfl (bI_quo r11 r13 h58))) (qc rfl rfl (s_u (o_maxI rfl rfl)) (qc rfl rfl (s_u (o_bin rfl rfl (bI_sub a0.target (if 1 < (i64 (r11.tdiv r13)) then i64 (r11.tdiv r13) else 1)))) (qc rfl rfl (s_u (o_maxI rfl rfl)) (qc rfl rfl (s_u (o_nc rfl)) (qc rfl rfl (s_u (o_fa fa92_1 rfl)) qn))))))))))))) ?_ (fun h => absurd h (by decide))
        refine ec (eo_u rfl (s_u (o_st sc3 rfl rfl rfl rfl rfl rfl)) (Le.refl _) ?_) en
        refine stage rfl rfl rfl rfl [0, 0, 2, 6, 14, 0, 0, 96, 224, 510, 1022, 2047, 4095, 8191] [] [] rfl rfl rfl qn en ?_
        intro _
        refine ex_sub (E' := [(0, pt b0_ 0), (1, vS a1), (2, vI a2)]) ⟨rfl, rfl, rfl, trivial⟩ ?_
        obtain rfl := Option.some.inj hm59
        exact x_sub K18 ⟨rfl, rfl, rfl, trivial⟩ (fun _ h => st_pk 6 [0, 1, 2, 3, 4, 5] (by decide) h)

def arc_Arc_forget (a0 : arc_Arc) (a1 : Int) : Option arc_Arc :=
  om a0.r (none) fun x3 => (ring_Rings_Back x3 a1).bind fun r11 => if r11.2 then (ring_Rings_Drop x3 r11.1).bind fun r15 => some (⟨a0.most, a0.target, (some r15.2)⟩ : arc_Arc) else some a0
theorem arc_Arc_forget.ok {G R F} (b0_ : Nat) (a0 : arc_Arc) (g0_ : arc_Arc.G) (a1 : Int) (r : arc_Arc) (hm : arc_Arc_forget a0 a1 = some r) : CO Try.prog 72 [pt b0_ 0, vI a1] G R (Bk b0_ 92 [vI a0.most, vI a0.target, g0_.r.1] :: rO (ring_Rings.op g0_.r.2) g0_.r.1 a0.r :: F)
    (Ret fun u R' L' => ∃ (q0 : arc_Arc.G), u = .tuple #[] ∧ R' = R ∧ L' = Bk b0_ 92 [vI r.most, vI r.target, q0.r.1] :: rO (ring_Rings.op q0.r.2) q0.r.1 r.r :: F) := by
  obtain ⟨⟨pv1, g2⟩⟩ := g0_
  unfold arc_Arc_forget at hm
  refine co_ofN (N := 22) Try.func72 rfl rfl ?_
  refine c_seq ?_
  refine cd_st (fun _ h => mv1 h) ?_
  refine cd_opt (fun ho5 => ?_) (fun x3 b4 ho5 => ?_)
  · rintro rfl
    have hm6 := om_n hm ho5
    clear hm
    cases hm6
  · rintro rfl
    have hm6 := om_s hm ho5
    clear hm
    refine cd_st (fun _ h => st_star_o h) ?_
    refine c_reg ?_
    refine r_u (o_mv rfl) ?_
    refine r_u (o_nc rfl) ?_
    refine r_u (o_fa fa92_2 rfl) ?_
    refine r_u (o_ld 5 sc88 rfl rfl rfl) ?_
    refine r_u (o_mv rfl) ?_
    obtain ⟨r11, hr11, hm12⟩ := bs hm6
    clear hm6
    refine r_c (s_w (o_call ca58 rfl (ring_Rings_Back.ok b4 x3 g2 a1 r11 hr11))) ?_
    refine r_u (o_mv rfl) ?_
    refine r_u (o_ext rfl rfl) ?_
    refine r_u (o_ext rfl rfl) ?_
    refine r_u (o_as rfl) ?_
    refine r_u (o_as rfl) ?_
    refine r_nil ?_
    refine x_seq ?_
    refine c_seq ?_
    refine c_reg ?_
    refine r_u (o_mv rfl) ?_
    refine r_nil ?_
    refine x_seq ?_
    refine c_if (b := r11.2) rfl (fun h13 => ?_) fun h13 => ?_
    · have hm14 := ift hm12 h13
      clear hm12
      refine c_reg ?_
      refine r_u (o_mv rfl) ?_
      refine r_u (o_nc rfl) ?_
      refine r_u (o_fa fa92_2 rfl) ?_
      refine r_u (o_ld 5 sc88 rfl rfl rfl) ?_
      refine r_u (o_mv rfl) ?_
      obtain ⟨r15, hr15, hm21⟩ := bs hm14
      clear hm14
      refine r_sw (s_w (o_call ca40 rfl (ring_Rings_Drop.ok b4 x3 g2 r11.1 r15 hr15))) ?_
      rintro _ R _ _ ⟨g16, rfl, rfl, rfl⟩
      refine r_nil ?_
      refine x_end ?_
      refine ex_st (fun _ h => st_some (f := ring_Rings.op g16) (a := r15.2) (st_star_f (A := ring_Rings.fl b4 r15.2 g16) h)) ?_
      obtain rfl := Option.some.inj hm21
      refine ex_st (fun _ h => st_pk 2 [1, 0] (by decide) h) ?_
      exact x_r0 rfl (Le.refl _) ⟨_, rfl, (⟨(pt b4 0, g16)⟩ : arc_Arc.G), rfl, rfl, rfl⟩
    · have hm14 := iff_ hm12 h13
      clear hm12
      refine c_skip ?_
      refine x_end ?_
      refine ex_st (fun _ h => st_some (f := ring_Rings.op g2) (a := x3) (st_star_f (A := ring_Rings.fl b4 x3 g2) h)) ?_
      refine ex_st (fun _ h => st_back ho5 h) ?_
      obtain rfl := Option.some.inj hm14
      refine ex_st (fun _ h => st_pk 2 [1, 0] (by decide) h) ?_
      exact x_r0 rfl (Le.refl _) ⟨_, rfl, (⟨(pt b4 0, g2)⟩ : arc_Arc.G), rfl, rfl, rfl⟩

end Go.Proofs.Ytpanhdnglicknaa
