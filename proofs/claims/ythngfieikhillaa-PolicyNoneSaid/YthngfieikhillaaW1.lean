import Derived.Test.YthngfieikhillaaW0
import Derived.Test.YthngfieikhillaaFacts
import Derived.Test.YthngfieikhillaaHwT
set_option linter.unusedVariables false
set_option linter.unusedSectionVars false
set_option linter.unusedSimpArgs false
set_option maxRecDepth 100000
set_option maxHeartbeats 8000000
namespace Go.Proofs.Ythngfieikhillaa
open Go Go.Proofs.Ythngfieikhillaa.Hw
def arc_Arc_Len (a0 : arc_Arc) : Option Int :=
  om a0.r (none) fun x3 => (ring_Rings_Len x3 0).bind fun r11 => (ring_Rings_Len x3 1).bind fun r13 => some (i64 (r11 + r13))
theorem arc_Arc_Len.ok {G R F} (b0_ : Nat) (a0 : arc_Arc) (g0_ : arc_Arc.G) (r : Int) (hm : arc_Arc_Len a0 = some r) : CO Try.prog 60 [pt b0_ 0] G R (Bk b0_ 144 [vI a0.most, vI a0.target, g0_.r.1] :: rO (ring_Rings.op g0_.r.2) g0_.r.1 a0.r :: F)
    (Ret fun u R' L' => u = vI r ∧ R' = R ∧ L' = Bk b0_ 144 [vI a0.most, vI a0.target, g0_.r.1] :: rO (ring_Rings.op g0_.r.2) g0_.r.1 a0.r :: F) := by
  obtain ⟨⟨pv1, g2⟩⟩ := g0_
  unfold arc_Arc_Len at hm
  refine co_ofN (N := 16) Try.func60 rfl rfl ?_
  refine c_seq ?_
  refine c_reg ?_
  refine r_u (o_as rfl) ?_
  refine r_nil ?_
  refine x_seq ?_
  refine c_seq ?_
  refine c_seq ?_
  refine c_reg ?_
  refine r_u (o_mv rfl) ?_
  refine r_u (o_bin rfl rfl (bP_eqp Try.underlying102)) ?_
  refine r_nil ?_
  refine x_seq ?_
  refine c_ff rfl ?_
  refine c_skip ?_
  refine x_seq ?_
  refine c_seq ?_
  refine cd_st (fun _ h => st_pk 2 [1, 0] (by decide) h) ?_
  refine cd_opt (fun ho5 => ?_) (fun x3 b4 ho5 => ?_)
  · rintro rfl
    have hm6 := om_n hm ho5
    cases hm6
  · rintro rfl
    have hm6 := om_s hm ho5
    refine cd_st (fun _ h => st_star_o h) ?_
    obtain ⟨r11, hr11, hm12⟩ := bs hm6
    obtain ⟨r13, hr13, hm14⟩ := bs hm12
    refine c_any mixed (effs := [4, 9]) (V := []) ?_
    refine stage_ext [(0, pt b0_ 0), (1, pt b0_ 0), (2, pt b0_ 2), (3, pt b4 0), (5, pt b0_ 0), (6, pt b0_ 0), (7, pt b0_ 2), (8, pt b4 0)] rfl ?_
    refine stage rfl rfl rfl rfl [0, 1, 3, 7, 15, 0, 32, 96, 224, 511, 1023, 2047] [0, 1, 2, 3, 5, 6, 7, 8] [4] rfl rfl rfl (qc rfl rfl (s_u (o_mv rfl)) (qc rfl rfl (s_u (o_nc rfl)) (qc rfl rfl (s_u (o_fa fa144_2 rfl)) (qc rfl rfl (s_u (o_ld 5 sc135 rfl rfl rfl)) (qc rfl rfl (s_u (o_mv rfl)) (qc rfl rfl (s_u (o_nc rfl)) (qc rfl rfl (s_u (o_fa fa144_2 rfl)) (qc rfl rfl (s_u (o_ld 5 sc135 rfl rfl rfl)) qn)))))))) ?_ (fun h => absurd h (by decide))
    refine ec (eo_c rfl (s_w (o_call ca104 rfl (ring_Rings_Len.ok b4 x3 g2 0 r11 hr11))) ?_) en
    refine stage rfl rfl rfl rfl [0, 1, 3, 7, 15, 0, 32, 96, 224, 511, 1023, 2047] [5, 6, 7, 8] [9] rfl rfl rfl (qc rfl rfl (s_u (o_mv rfl)) (qc rfl rfl (s_u (o_nc rfl)) (qc rfl rfl (s_u (o_fa fa144_2 rfl)) (qc rfl rfl (s_u (o_ld 5 sc135 rfl rfl rfl)) qn)))) ?_ (fun h => absurd h (by decide))
    refine ec (eo_c rfl (s_w (o_call ca104 rfl (ring_Rings_Len.ok b4 x3 g2 1 r13 hr13))) ?_) en
    refine stage_ext [(10, vI (i64 (r11 + r13))), (11, vI (i64 (r11 + r13)))] rfl ?_
    refine stage rfl rfl rfl rfl [0, 1, 3, 7, 15, 0, 32, 96, 224, 511, 1023, 2047] [10, 11] [] rfl rfl rfl (qc rfl rfl (s_u (o_bin rfl rfl (bI_add r11 r13))) (qc rfl rfl (s_u (o_as rfl)) qn)) en ?_
    intro _
    refine ex_sub (E' := [(2, vI (i64 (r11 + r13)))]) ⟨rfl, trivial⟩ ?_
    refine x_seq ?_
    refine c_ret ?_
    refine ex_st (fun _ h => st_some (f := ring_Rings.op g2) (a := x3) (st_star_f (A := ring_Rings.fl b4 x3 g2) h)) ?_
    refine ex_st (fun _ h => st_back ho5 h) ?_
    obtain rfl := Option.some.inj hm14
    refine ex_st (fun _ h => st_pk 2 [1, 0] (by decide) h) ?_
    exact x_r1 rfl (rv_t rfl) (Le.refl _) ⟨_, rfl, rfl, rfl, rfl⟩

def ring_Rings_Back (a0 : ring_Rings) (a1 : Int) : Option (Str × Bool) :=
  (ring_Rings_Len a0 a1).bind fun r4 => if (r4 == 0) then some ([], false) else (gi a0.slots a1).bind fun x8 => (gi a0.slots x8.prev).bind fun x10 => some (x10.key, true)
theorem ring_Rings_Back.ok {G R F} (b0_ : Nat) (a0 : ring_Rings) (g0_ : ring_Rings.G) (a1 : Int) (r : Str × Bool) (hm : ring_Rings_Back a0 a1 = some r) : CO Try.prog 99 [pt b0_ 0, vI a1] G R (Bk b0_ 168 [vI a0.lists, g0_.slots, g0_.free, g0_.at_, g0_.many] :: OwS true 170 4 ring_slot.c g0_.slots a0.slots :: OwS true 3 1 eI g0_.free a0.free :: OwM vS vI g0_.at_ a0.at_ :: OwS true 3 1 eI g0_.many a0.many :: F)
    (Ret fun u R' L' => u = .tuple #[vS r.1, vB r.2] ∧ R' = R ∧ L' = Bk b0_ 168 [vI a0.lists, g0_.slots, g0_.free, g0_.at_, g0_.many] :: OwS true 170 4 ring_slot.c g0_.slots a0.slots :: OwS true 3 1 eI g0_.free a0.free :: OwM vS vI g0_.at_ a0.at_ :: OwS true 3 1 eI g0_.many a0.many :: F) := by
  unfold ring_Rings_Back at hm
  refine co_ofN (N := 25) Try.func99 rfl rfl ?_
  refine c_seq ?_
  refine c_reg ?_
  refine r_u (o_as rfl) ?_
  refine r_u (o_as rfl) ?_
  refine r_nil ?_
  refine x_seq ?_
  refine c_seq ?_
  refine c_seq ?_
  refine c_reg ?_
  refine r_u (o_mv rfl) ?_
  refine r_u (o_mv rfl) ?_
  obtain ⟨r4, hr4, hm5⟩ := bs hm
  refine r_c (s_w (o_call ca104 rfl (ring_Rings_Len.ok b0_ a0 g0_ a1 r4 hr4))) ?_
  refine r_u (o_bin rfl rfl (bI_eq r4 0)) ?_
  refine r_nil ?_
  refine x_seq ?_
  refine c_if (b := (r4 == 0)) rfl (fun h6 => ?_) fun h6 => ?_
  · have hm7 := ift hm5 h6
    refine c_seq ?_
    refine c_reg ?_
    refine r_u (o_as rfl) ?_
    refine r_u (o_as rfl) ?_
    refine r_nil ?_
    refine x_seq ?_
    refine c_ret ?_
    obtain rfl := Option.some.inj hm7
    exact x_r2 rfl (rv_t rfl) (rv_t rfl) (Le.refl _) ⟨_, rfl, rfl, rfl, rfl⟩
  · have hm7 := iff_ hm5 h6
    refine c_skip ?_
    refine x_seq ?_
    refine c_seq ?_
    obtain ⟨x8, hx8, hm9⟩ := bs hm7
    obtain ⟨x10, hx10, hm11⟩ := bs hm9
    refine c_any mixed (effs := []) (V := []) ?_
    refine stage_ext [(0, pt b0_ 0), (1, pt b0_ 0), (2, pt b0_ 1), (3, g0_.slots), (4, pt b0_ 0), (5, pt b0_ 0), (6, pt b0_ 1), (7, g0_.slots), (8, vI a1), (9, pt (sb g0_.slots) (so g0_.slots + a1.toNat * 4)), (10, pt (sb g0_.slots) (so g0_.slots + a1.toNat * 4 + 2)), (11, vI x8.prev), (12, pt (sb g0_.slots) (so g0_.slots + x8.prev.toNat * 4)), (13, pt (sb g0_.slots) (so g0_.slots + x8.prev.toNat * 4)), (14, vS x10.key), (15, vS x10.key), (16, vB true)] rfl ?_
    refine stage rfl rfl rfl rfl [0, 1, 3, 7, 0, 16, 48, 112, 0, 496, 1008, 2032, 4095, 8191, 16383, 32767, 65535] [0, 1, 2, 3, 4, 5, 6, 7, 8, 9, 10, 11, 12, 13, 14, 15, 16] [] rfl rfl rfl (qc rfl rfl (s_u (o_mv rfl)) (qc rfl rfl (s_u (o_nc rfl)) (qc rfl rfl (s_u (o_fa fa168_1 rfl)) (qc rfl rfl (s_u (o_ld 0 sc164 rfl rfl rfl)) (qc rfl rfl (s_u (o_mv rfl)) (qc rfl rfl (s_u (o_nc rfl)) (qc rfl rfl (s_u (o_fa fa168_1 rfl)) (qc rfl rfl (s_u (o_ld 0 sc164 rfl rfl rfl)) (qc rfl rfl (s_u (o_mv rfl)) (qc rfl rfl (s_u (o_ixO 1 Try.underlying164 (fun _ => by kernel_rfl) rfl rfl rfl hx8)) (qc rfl rfl (s_u (o_fa fa170_2 rfl)) (qc rfl rfl (s_u (o_ldO 1 2 sc3 rfl rfl hx8 rfl rfl)) (qc rfl rfl (s_u (o_ixO 1 Try.underlying164 (fun _ => by kernel_rfl) rfl rfl rfl hx10)) (qc rfl rfl (s_u (o_fa fa170_0 rfl)) (qc rfl rfl (s_u (o_ldO0 1 sc9 rfl rfl hx10 rfl rfl)) (qc rfl rfl (s_u (o_as rfl)) (qc rfl rfl (s_u (o_as rfl)) qn))))))))))))))))) en ?_
    intro _
    refine ex_sub (E' := [(4, vS x10.key), (5, vB true)]) ⟨rfl, rfl, trivial⟩ ?_
    refine x_seq ?_
    refine c_ret ?_
    obtain rfl := Option.some.inj hm11
    exact x_r2 rfl (rv_t rfl) (rv_t rfl) (Le.refl _) ⟨_, rfl, rfl, rfl, rfl⟩

def arc_Arc_replace (a0 : arc_Arc) (a1 : Bool) : Option (List Str × arc_Arc) :=
  om a0.r (none) fun x3 => (ring_Rings_Len x3 0).bind fun r11 => Option.bind (if decide (0 < r11) then Option.bind (if (decide (a0.target < r11) || (a1 && (r11 == a0.target))) then some true else (ring_Rings_Len x3 1).bind fun r43 => some (r43 == 0)) fun p37 => some p37 else some false) fun p13 => Option.bind (if p13 then some (0, 2) else some (1, 3)) fun p17 => (ring_Rings_Back x3 p17.1).bind fun r21 => if !r21.2 then some ([], a0) else (ring_Rings_Front x3 p17.2 r21.1).bind fun r25 => some ([r21.1], (⟨a0.most, a0.target, (some r25.2)⟩ : arc_Arc))
theorem arc_Arc_replace.ok {G R F} (b0_ : Nat) (a0 : arc_Arc) (g0_ : arc_Arc.G) (a1 : Bool) (r : List Str × arc_Arc) (hm : arc_Arc_replace a0 a1 = some r) : CO Try.prog 98 [pt b0_ 0, vB a1] G R (Bk b0_ 144 [vI a0.most, vI a0.target, g0_.r.1] :: rO (ring_Rings.op g0_.r.2) g0_.r.1 a0.r :: F)
    (Ret fun u R' L' => ∃ (p0 : Value) (q0 : arc_Arc.G), u = p0 ∧ R' = R ∧ L' = OwS true 9 1 eS p0 r.1 :: Bk b0_ 144 [vI r.2.most, vI r.2.target, q0.r.1] :: rO (ring_Rings.op q0.r.2) q0.r.1 r.2.r :: F) := by
  obtain ⟨⟨pv1, g2⟩⟩ := g0_
  unfold arc_Arc_replace at hm
  refine co_ofN (N := 64) Try.func98 rfl rfl ?_
  refine c_seq ?_
  refine c_reg ?_
  refine r_u (o_as rfl) ?_
  refine r_nil ?_
  refine x_seq ?_
  refine c_seq ?_
  refine c_reg ?_
  refine r_u (o_as rfl) ?_
  refine r_u (o_as rfl) ?_
  refine r_nil ?_
  refine x_seq ?_
  refine c_seq ?_
  refine c_seq ?_
  refine cd_st (fun _ h => st_pk 2 [1, 0] (by decide) h) ?_
  refine cd_opt (fun ho5 => ?_) (fun x3 b4 ho5 => ?_)
  · rintro rfl
    have hm6 := om_n hm ho5
    cases hm6
  · rintro rfl
    have hm6 := om_s hm ho5
    refine cd_st (fun _ h => st_star_o h) ?_
    refine c_reg ?_
    refine r_u (o_mv rfl) ?_
    refine r_u (o_nc rfl) ?_
    refine r_u (o_fa fa144_2 rfl) ?_
    refine r_u (o_ld 5 sc135 rfl rfl rfl) ?_
    obtain ⟨r11, hr11, hm12⟩ := bs hm6
    refine r_c (s_w (o_call ca104 rfl (ring_Rings_Len.ok b4 x3 g2 0 r11 hr11))) ?_
    refine r_u (o_as rfl) ?_
    refine r_nil ?_
    refine x_seq ?_
    refine c_seq ?_
    obtain ⟨p13, hp14, hm15⟩ := bs hm12
    refine cd_join (E' := [(0, pt b0_ 0), (5, vI 1), (6, vI 3), (43, vB p13)]) (L' := Bk b4 168 [vI x3.lists, g2.slots, g2.free, g2.at_, g2.many] :: Bk b0_ 144 [vI a0.most, vI a0.target, pt b4 0] :: OwS true 170 4 ring_slot.c g2.slots x3.slots :: OwS true 3 1 eI g2.free x3.free :: OwM vS vI g2.at_ x3.at_ :: OwS true 3 1 eI g2.many x3.many :: F) ?_ fun K16 => ?_
    · refine x_seq ?_
      obtain ⟨p17, hp18, hm19⟩ := bs hm15
      refine cd_join (E' := [(0, pt b0_ 0), (5, vI p17.1), (6, vI p17.2)]) (L' := Bk b4 168 [vI x3.lists, g2.slots, g2.free, g2.at_, g2.many] :: Bk b0_ 144 [vI a0.most, vI a0.target, pt b4 0] :: OwS true 170 4 ring_slot.c g2.slots x3.slots :: OwS true 3 1 eI g2.free x3.free :: OwM vS vI g2.at_ x3.at_ :: OwS true 3 1 eI g2.many x3.many :: F) ?_ fun K20 => ?_
      · refine x_seq ?_
        refine c_seq ?_
        refine c_reg ?_
        refine r_u (o_mv rfl) ?_
        refine r_u (o_nc rfl) ?_
        refine r_u (o_fa fa144_2 rfl) ?_
        refine r_u (o_ld 1 sc135 rfl rfl rfl) ?_
        refine r_u (o_mv rfl) ?_
        obtain ⟨r21, hr21, hm22⟩ := bs hm19
        refine rl_st (fun _ h => st_pk 6 [0, 2, 3, 4, 5, 1] (by decide) h) ?_
        refine r_c (s_w (o_call ca99 rfl (ring_Rings_Back.ok b4 x3 g2 p17.1 r21 hr21))) ?_
        refine r_u (o_mv rfl) ?_
        refine r_u (o_ext rfl rfl) ?_
        refine r_u (o_ext rfl rfl) ?_
        refine r_u (o_as rfl) ?_
        refine r_u (o_as rfl) ?_
        refine r_nil ?_
        refine x_seq ?_
        refine c_seq ?_
        refine c_seq ?_
        refine c_reg ?_
        refine r_u (o_mv rfl) ?_
        refine r_u (o_not rfl) ?_
        refine r_nil ?_
        refine x_seq ?_
        refine c_if (b := !r21.2) rfl (fun h23 => ?_) fun h23 => ?_
        · have hm24 := ift hm22 h23
          refine c_seq ?_
          refine c_reg ?_
          refine r_u (o_as rfl) ?_
          refine r_nil ?_
          refine x_seq ?_
          refine c_ret ?_
          refine ex_st (fun _ h => st_nil (ap := true) (T := 9) (sz := 1) (en := eS) h) ?_
          refine ex_st (fun _ h => st_pk 7 [1, 2, 3, 4, 5, 0, 6] (by decide) h) ?_
          refine ex_st (fun _ h => st_some (f := ring_Rings.op g2) (a := x3) (st_star_f (A := ring_Rings.fl b4 x3 g2) h)) ?_
          refine ex_st (fun _ h => st_back ho5 h) ?_
          obtain rfl := Option.some.inj hm24
          refine ex_st (fun _ h => st_pk 3 [1, 2, 0] (by decide) h) ?_
          exact x_r1 rfl (rv_t rfl) (Le.refl _) ⟨_, rfl, (.slice none 0 0), (⟨(pt b4 0, g2)⟩ : arc_Arc.G), rfl, rfl, rfl⟩
        · have hm24 := iff_ hm22 h23
          refine c_skip ?_
          refine x_seq ?_
          refine c_seq ?_
          refine c_reg ?_
          refine r_u (o_mv rfl) ?_
          refine r_u (o_nc rfl) ?_
          refine r_u (o_fa fa144_2 rfl) ?_
          refine r_u (o_ld 5 sc135 rfl rfl rfl) ?_
          refine r_u (o_mv rfl) ?_
          refine r_u (o_mv rfl) ?_
          obtain ⟨r25, hr25, hm31⟩ := bs hm24
          refine r_sw (s_w (o_call ca105 rfl (ring_Rings_Front.ok b4 x3 g2 p17.2 r21.1 r25 hr25))) ?_
          rintro _ R _ _ ⟨g26, rfl, rfl, rfl⟩
          refine r_nil ?_
          refine x_seq ?_
          refine c_seq ?_
          refine c_reg ?_
          refine r_u (o_mv rfl) ?_
          refine r_sw (s_w (o_bsl (en := eS) (sz := 1) (e := 9) (cs := [vS r21.1]) (r := [r21.1]) rfl (fun _ => by kernel_rfl) rfl (by decide) rfl (fun _ => rfl))) ?_
          rintro v32 R _ _ ⟨rfl, rfl⟩
          refine r_u (o_as rfl) ?_
          refine r_nil ?_
          refine x_seq ?_
          refine c_ret ?_
          refine ex_st (fun _ h => st_pk 7 [1, 2, 3, 4, 5, 0, 6] (by decide) h) ?_
          refine ex_st (fun _ h => st_some (f := ring_Rings.op g26) (a := r25.2) (st_star_f (A := ring_Rings.fl b4 r25.2 g26) h)) ?_
          obtain rfl := Option.some.inj hm31
          refine ex_st (fun _ h => st_pk 3 [1, 2, 0] (by decide) h) ?_
          exact x_r1 rfl (rv_t rfl) (Le.refl _) ⟨_, rfl, v32, (⟨(pt b4 0, g26)⟩ : arc_Arc.G), rfl, rfl, rfl⟩
      · refine c_if (b := p13) rfl (fun h33 => ?_) fun h33 => ?_
        · have hm34 := ift hp18 h33
          refine c_reg ?_
          refine r_u (o_as rfl) ?_
          refine r_u (o_as rfl) ?_
          refine r_nil ?_
          obtain rfl := Option.some.inj hm34
          exact x_sub K20 ⟨rfl, rfl, rfl, trivial⟩ (fun _ h => st_pk 6 [0, 1, 2, 3, 4, 5] (by decide) h)
        · have hm34 := iff_ hp18 h33
          refine c_skip ?_
          obtain rfl := Option.some.inj hm34
          exact x_sub K20 ⟨rfl, rfl, rfl, trivial⟩ (fun _ h => st_pk 6 [0, 1, 2, 3, 4, 5] (by decide) h)
    · refine cd_by (decide (0 < r11)) (fun h35 => ?_) fun h35 => ?_
      · have hm36 := ift hp14 h35
        obtain ⟨p37, hp38, hm39⟩ := bs hm36
        refine cd_join (E' := [(0, pt b0_ 0), (5, vI 1), (6, vI 3), (43, vB p37)]) (L' := Bk b4 168 [vI x3.lists, g2.slots, g2.free, g2.at_, g2.many] :: Bk b0_ 144 [vI a0.most, vI a0.target, pt b4 0] :: OwS true 170 4 ring_slot.c g2.slots x3.slots :: OwS true 3 1 eI g2.free x3.free :: OwM vS vI g2.at_ x3.at_ :: OwS true 3 1 eI g2.many x3.many :: F) ?_ fun K40 => ?_
        · obtain rfl := Option.some.inj hm39
          exact x_sub K16 ⟨rfl, rfl, rfl, rfl, trivial⟩ (fun _ h => st_pk 6 [0, 1, 2, 3, 4, 5] (by decide) h)
        · refine cd_by (decide (a0.target < r11) || (a1 && (r11 == a0.target))) (fun h41 => ?_) fun h41 => ?_
          · have hm42 := ift hp38 h41
            refine c_reg ?_
            refine r_u (o_mv rfl) ?_
            refine r_u (o_bin rfl rfl (bI_gt r11 0)) ?_
            refine r_u (o_mv rfl) ?_
            refine r_s (s_y rfl rfl h35 (o_mv rfl)) ?_
            refine r_s (s_y rfl rfl h35 (o_mv rfl)) ?_
            refine r_s (s_y rfl rfl h35 (o_nc rfl)) ?_
            refine r_s (s_y rfl rfl h35 (o_fa fa144_1 rfl)) ?_
            refine r_s (s_y rfl rfl h35 (o_ld 5 sc3 rfl rfl rfl)) ?_
            refine r_s (s_y rfl rfl h35 (o_bin rfl rfl (bI_gt r11 a0.target))) ?_
            refine r_s (s_y rfl rfl h35 (o_mv rfl)) ?_
            refine r_s (s_gf rfl rfl fun g => o_mv rfl) ?_
            refine r_s (s_gf rfl rfl fun g => o_mv (evg rfl g)) ?_
            refine r_s (s_ggt rfl rfl fun g => o_mv rfl) ?_
            refine r_s (s_ggt rfl rfl fun g => o_mv rfl) ?_
            refine r_s (s_ggt rfl rfl fun g => o_nc (evg rfl g)) ?_
            refine r_s (s_ggt rfl rfl fun g => o_fa fa144_1 (evg rfl g)) ?_
            refine r_s (s_ggt rfl rfl fun g => o_ld 5 sc3 (evg rfl g) rfl rfl) ?_
            refine r_s (s_ggt rfl rfl fun g => o_bin (evg rfl g) (evg rfl g) (bI_eq r11 a0.target)) ?_
            refine r_s (s_gf rfl rfl fun g => o_and (evg rfl g) (evg2 rfl g)) ?_
            refine r_s (s_y rfl rfl h35 (o_or rfl rfl)) ?_
            refine r_s (s_y rfl rfl h35 (o_mv rfl)) ?_
            refine r_s (s_n rfl rfl h41) ?_
            refine r_s (s_n rfl rfl h41) ?_
            refine r_s (s_n rfl rfl h41) ?_
            refine r_s (s_n rfl rfl h41) ?_
            refine r_s (s_n rfl rfl h41) ?_
            refine r_s (s_n rfl rfl h41) ?_
            refine r_s (s_y rfl rfl h35 (o_pt rfl h41 rfl)) ?_
            refine r_u (o_pt rfl h35 rfl) ?_
            refine r_nil ?_
            obtain rfl := Option.some.inj hm42
            exact x_sub K40 ⟨rfl, rfl, rfl, rfl, trivial⟩ (fun _ h => st_pk 6 [0, 5, 1, 2, 3, 4] (by decide) h)
          · have hm42 := iff_ hp38 h41
            refine c_reg ?_
            refine r_u (o_mv rfl) ?_
            refine r_u (o_bin rfl rfl (bI_gt r11 0)) ?_
            refine r_u (o_mv rfl) ?_
            refine r_s (s_y rfl rfl h35 (o_mv rfl)) ?_
            refine r_s (s_y rfl rfl h35 (o_mv rfl)) ?_
            refine r_s (s_y rfl rfl h35 (o_nc rfl)) ?_
            refine r_s (s_y rfl rfl h35 (o_fa fa144_1 rfl)) ?_
            refine r_s (s_y rfl rfl h35 (o_ld 5 sc3 rfl rfl rfl)) ?_
            refine r_s (s_y rfl rfl h35 (o_bin rfl rfl (bI_gt r11 a0.target))) ?_
            refine r_s (s_y rfl rfl h35 (o_mv rfl)) ?_
            refine r_s (s_gf rfl rfl fun g => o_mv rfl) ?_
            refine r_s (s_gf rfl rfl fun g => o_mv (evg rfl g)) ?_
            refine r_s (s_ggt rfl rfl fun g => o_mv rfl) ?_
            refine r_s (s_ggt rfl rfl fun g => o_mv rfl) ?_
            refine r_s (s_ggt rfl rfl fun g => o_nc (evg rfl g)) ?_
            refine r_s (s_ggt rfl rfl fun g => o_fa fa144_1 (evg rfl g)) ?_
            refine r_s (s_ggt rfl rfl fun g => o_ld 5 sc3 (evg rfl g) rfl rfl) ?_
            refine r_s (s_ggt rfl rfl fun g => o_bin (evg rfl g) (evg rfl g) (bI_eq r11 a0.target)) ?_
            refine r_s (s_gf rfl rfl fun g => o_and (evg rfl g) (evg2 rfl g)) ?_
            refine r_s (s_y rfl rfl h35 (o_or rfl rfl)) ?_
            refine r_s (s_y rfl rfl h35 (o_mv rfl)) ?_
            refine r_s (s_y rfl rfl h41 (o_mv rfl)) ?_
            refine r_s (s_y rfl rfl h41 (o_nc rfl)) ?_
            refine r_s (s_y rfl rfl h41 (o_fa fa144_2 rfl)) ?_
            refine r_s (s_y rfl rfl h41 (o_ld 5 sc135 rfl rfl rfl)) ?_
            obtain ⟨r43, hr43, hm44⟩ := bs hm42
            refine r_c (s_yw rfl rfl h41 (o_call ca104 rfl (ring_Rings_Len.ok b4 x3 g2 1 r43 hr43))) ?_
            refine r_s (s_y rfl rfl h41 (o_bin rfl rfl (bI_eq r43 0))) ?_
            refine r_s (s_y rfl rfl h35 (o_pf rfl h41 rfl)) ?_
            refine r_u (o_pt rfl h35 rfl) ?_
            refine r_nil ?_
            obtain rfl := Option.some.inj hm44
            exact x_sub K40 ⟨rfl, rfl, rfl, rfl, trivial⟩ (fun _ h => st_pk 6 [0, 5, 1, 2, 3, 4] (by decide) h)
      · have hm36 := iff_ hp14 h35
        refine c_reg ?_
        refine r_u (o_mv rfl) ?_
        refine r_u (o_bin rfl rfl (bI_gt r11 0)) ?_
        refine r_u (o_mv rfl) ?_
        refine r_s (s_n rfl rfl h35) ?_
        refine r_s (s_n rfl rfl h35) ?_
        refine r_s (s_n rfl rfl h35) ?_
        refine r_s (s_n rfl rfl h35) ?_
        refine r_s (s_n rfl rfl h35) ?_
        refine r_s (s_n rfl rfl h35) ?_
        refine r_s (s_n rfl rfl h35) ?_
        refine r_s (s_nu rfl rfl) ?_
        refine r_s (s_nu rfl rfl) ?_
        refine r_s (s_nu rfl rfl) ?_
        refine r_s (s_nu rfl rfl) ?_
        refine r_s (s_nu rfl rfl) ?_
        refine r_s (s_nu rfl rfl) ?_
        refine r_s (s_nu rfl rfl) ?_
        refine r_s (s_nu rfl rfl) ?_
        refine r_s (s_nu rfl rfl) ?_
        refine r_s (s_n rfl rfl h35) ?_
        refine r_s (s_n rfl rfl h35) ?_
        refine r_s (s_nu rfl rfl) ?_
        refine r_s (s_nu rfl rfl) ?_
        refine r_s (s_nu rfl rfl) ?_
        refine r_s (s_nu rfl rfl) ?_
        refine r_s (s_nu rfl rfl) ?_
        refine r_s (s_nu rfl rfl) ?_
        refine r_s (s_n rfl rfl h35) ?_
        refine r_u (o_pf rfl h35 rfl) ?_
        refine r_nil ?_
        obtain rfl := Option.some.inj hm36
        exact x_sub K16 ⟨rfl, rfl, rfl, rfl, trivial⟩ (fun _ h => st_pk 6 [0, 5, 1, 2, 3, 4] (by decide) h)

def arc_Arc_again (a0 : arc_Arc) (a1 : Str) (a2 : Int) : Option (List Str × arc_Arc) :=
  om a0.r (none) fun x3 => (ring_Rings_Len x3 2).bind fun r11 => (ring_Rings_Len x3 3).bind fun r13 => Option.bind (if (a2 == 2) then if r11 ≠ 0 then some (if (i64 (a0.target + (if 1 < (i64 (r13.tdiv r11)) then i64 (r13.tdiv r11) else 1))) < a0.most then i64 (a0.target + (if 1 < (i64 (r13.tdiv r11)) then i64 (r13.tdiv r11) else 1)) else a0.most) else none else if r13 ≠ 0 then some (if 0 < (i64 (a0.target - (if 1 < (i64 (r11.tdiv r13)) then i64 (r11.tdiv r13) else 1))) then i64 (a0.target - (if 1 < (i64 (r11.tdiv r13)) then i64 (r11.tdiv r13) else 1)) else 0) else none) fun p15 => (arc_Arc_Len (⟨a0.most, p15, (some x3)⟩ : arc_Arc)).bind fun r19 => Option.bind (if decide (a0.most ≤ r19) then (arc_Arc_replace (⟨a0.most, p15, (some x3)⟩ : arc_Arc) (a2 == 3)).bind fun r47 => some (r47.1, r47.2) else some ([], (⟨a0.most, p15, (some x3)⟩ : arc_Arc))) fun p21 => om p21.2.r (none) fun x30 => (ring_Rings_Front x30 1 a1).bind fun r38 => some (p21.1, (⟨p21.2.most, p21.2.target, (some r38.2)⟩ : arc_Arc))
theorem arc_Arc_again.ok {G R F} (b0_ : Nat) (a0 : arc_Arc) (g0_ : arc_Arc.G) (a1 : Str) (a2 : Int) (r : List Str × arc_Arc) (hm : arc_Arc_again a0 a1 a2 = some r) : CO Try.prog 107 [pt b0_ 0, vS a1, vI a2] G R (Bk b0_ 144 [vI a0.most, vI a0.target, g0_.r.1] :: rO (ring_Rings.op g0_.r.2) g0_.r.1 a0.r :: F)
    (Ret fun u R' L' => ∃ (p0 : Value) (q0 : arc_Arc.G), u = p0 ∧ R' = R ∧ L' = OwS true 9 1 eS p0 r.1 :: Bk b0_ 144 [vI r.2.most, vI r.2.target, q0.r.1] :: rO (ring_Rings.op q0.r.2) q0.r.1 r.2.r :: F) := by
  obtain ⟨⟨pv1, g2⟩⟩ := g0_
  unfold arc_Arc_again at hm
  refine co_ofN (N := 70) Try.func107 rfl rfl ?_
  refine c_seq ?_
  refine c_reg ?_
  refine r_u (o_as rfl) ?_
  refine r_nil ?_
  refine x_seq ?_
  refine c_seq ?_
  refine cd_st (fun _ h => st_pk 2 [1, 0] (by decide) h) ?_
  refine cd_opt (fun ho5 => ?_) (fun x3 b4 ho5 => ?_)
  · rintro rfl
    have hm6 := om_n hm ho5
    cases hm6
  · rintro rfl
    have hm6 := om_s hm ho5
    refine cd_st (fun _ h => st_star_o h) ?_
    obtain ⟨r11, hr11, hm12⟩ := bs hm6
    obtain ⟨r13, hr13, hm14⟩ := bs hm12
    refine c_any mixed (effs := [4, 9]) (V := []) ?_
    refine stage_ext [(0, pt b0_ 0), (1, pt b0_ 0), (2, pt b0_ 2), (3, pt b4 0), (5, pt b0_ 0), (6, pt b0_ 0), (7, pt b0_ 2), (8, pt b4 0)] rfl ?_
    refine stage rfl rfl rfl rfl [0, 1, 3, 7, 15, 0, 32, 96, 224, 511, 1023, 2047] [0, 1, 2, 3, 5, 6, 7, 8] [4] rfl rfl rfl (qc rfl rfl (s_u (o_mv rfl)) (qc rfl rfl (s_u (o_nc rfl)) (qc rfl rfl (s_u (o_fa fa144_2 rfl)) (qc rfl rfl (s_u (o_ld 5 sc135 rfl rfl rfl)) (qc rfl rfl (s_u (o_mv rfl)) (qc rfl rfl (s_u (o_nc rfl)) (qc rfl rfl (s_u (o_fa fa144_2 rfl)) (qc rfl rfl (s_u (o_ld 5 sc135 rfl rfl rfl)) qn)))))))) ?_ (fun h => absurd h (by decide))
    refine ec (eo_c rfl (s_w (o_call ca104 rfl (ring_Rings_Len.ok b4 x3 g2 2 r11 hr11))) ?_) en
    refine stage rfl rfl rfl rfl [0, 1, 3, 7, 15, 0, 32, 96, 224, 511, 1023, 2047] [5, 6, 7, 8] [9] rfl rfl rfl (qc rfl rfl (s_u (o_mv rfl)) (qc rfl rfl (s_u (o_nc rfl)) (qc rfl rfl (s_u (o_fa fa144_2 rfl)) (qc rfl rfl (s_u (o_ld 5 sc135 rfl rfl rfl)) qn)))) ?_ (fun h => absurd h (by decide))
    refine ec (eo_c rfl (s_w (o_call ca104 rfl (ring_Rings_Len.ok b4 x3 g2 3 r13 hr13))) ?_) en
    refine stage_ext [(10, vI r11), (11, vI r13)] rfl ?_
    refine stage rfl rfl rfl rfl [0, 1, 3, 7, 15, 0, 32, 96, 224, 511, 1023, 2047] [10, 11] [] rfl rfl rfl (qc rfl rfl (s_u (o_as rfl)) (qc rfl rfl (s_u (o_as rfl)) qn)) en ?_
    intro _
    refine ex_sub (E' := [(0, pt b0_ 0), (1, vS a1), (2, vI a2), (7, vI r11), (8, vI r13)]) ⟨rfl, rfl, rfl, rfl, rfl, trivial⟩ ?_
    refine x_seq ?_
    refine c_seq ?_
    refine c_seq ?_
    refine c_reg ?_
    refine r_u (o_mv rfl) ?_
    refine r_u (o_bin rfl rfl (bI_eq a2 2)) ?_
    refine r_nil ?_
    refine x_seq ?_
    obtain ⟨p15, hp16, hm17⟩ := bs hm14
    refine cd_join (E' := [(0, pt b0_ 0), (1, vS a1), (2, vI a2)]) (L' := Bk b0_ 144 [vI a0.most, vI p15, pt b4 0] :: Bk b4 168 [vI x3.lists, g2.slots, g2.free, g2.at_, g2.many] :: OwS true 170 4 ring_slot.c g2.slots x3.slots :: OwS true 3 1 eI g2.free x3.free :: OwM vS vI g2.at_ x3.at_ :: OwS true 3 1 eI g2.many x3.many :: F) ?_ fun K18 => ?_
    · refine x_seq ?_
      refine c_seq ?_
      refine c_reg ?_
      refine r_u (o_as rfl) ?_
      refine r_nil ?_
      refine x_seq ?_
      refine c_seq ?_
      refine c_seq ?_
      refine cd_st (fun _ h => st_pk 6 [1, 2, 3, 4, 5, 0] (by decide) h) ?_
      refine cd_st (fun _ h => st_some (f := ring_Rings.op g2) (a := x3) (st_star_f (A := ring_Rings.fl b4 x3 g2) h)) ?_
      obtain ⟨r19, hr19, hm20⟩ := bs hm17
      refine c_any mixed (effs := [1]) (V := []) ?_
      refine stage_st (fun _ h => st_pk 2 [1, 0] (by decide) h) ?_
      refine stage_ext [(0, pt b0_ 0), (2, pt b0_ 0), (3, pt b0_ 0), (4, pt b0_ 0), (5, vI a0.most)] rfl ?_
      refine stage rfl rfl rfl rfl [0, 1, 0, 4, 12, 28, 63] [0, 2, 3, 4, 5] [1] rfl rfl rfl (qc rfl rfl (s_u (o_mv rfl)) (qc rfl rfl (s_u (o_mv rfl)) (qc rfl rfl (s_u (o_nc rfl)) (qc rfl rfl (s_u (o_fa fa144_0 rfl)) (qc rfl rfl (s_u (o_ld 0 sc3 rfl rfl rfl)) qn))))) ?_ (fun h => absurd h (by decide))
      refine ec (eo_c rfl (s_w (o_call ca60 rfl (arc_Arc_Len.ok b0_ (⟨a0.most, p15, (some x3)⟩ : arc_Arc) (⟨(pt b4 0, g2)⟩ : arc_Arc.G) r19 hr19))) ?_) en
      refine stage_ext [(6, vB (decide (a0.most ≤ r19)))] rfl ?_
      refine stage rfl rfl rfl rfl [0, 1, 0, 4, 12, 28, 63] [2, 3, 4, 5, 6] [] rfl rfl rfl (qc rfl rfl (s_u (o_mv rfl)) (qc rfl rfl (s_u (o_nc rfl)) (qc rfl rfl (s_u (o_fa fa144_0 rfl)) (qc rfl rfl (s_u (o_ld 0 sc3 rfl rfl rfl)) (qc rfl rfl (s_u (o_bin rfl rfl (bI_ge r19 a0.most))) qn))))) en ?_
      intro _
      refine ex_sub (E' := [(0, pt b0_ 0), (1, vS a1), (2, vI a2), (9, .slice none 0 0), (58, vB (decide (a0.most ≤ r19)))]) ⟨rfl, rfl, rfl, rfl, rfl, trivial⟩ ?_
      refine x_seq ?_
      obtain ⟨p21, hp27, hm28⟩ := bs hm20
      refine cd_cut (fun x ks => ∀ (g22 : Value), ∀ (g23 : arc_Arc.G), EX x .normal ks [(0, pt b0_ 0), (1, vS a1), (9, g22)] R (Bk b0_ 144 [vI p21.2.most, vI p21.2.target, g23.r.1] :: OwS true 9 1 eS g22 p21.1 :: rO (ring_Rings.op g23.r.2) g23.r.1 p21.2.r :: F)) ?_ fun K29 => ?_
      · intro g22 g23
        obtain ⟨⟨pv25, g26⟩⟩ := g23
        refine x_seq ?_
        refine c_seq ?_
        refine cd_st (fun _ h => st_pk 3 [2, 0, 1] (by decide) h) ?_
        refine cd_opt (fun ho32 => ?_) (fun x30 b31 ho32 => ?_)
        · rintro rfl
          have hm33 := om_n hm28 ho32
          cases hm33
        · rintro rfl
          have hm33 := om_s hm28 ho32
          refine cd_st (fun _ h => st_star_o h) ?_
          refine c_reg ?_
          refine r_u (o_mv rfl) ?_
          refine r_u (o_nc rfl) ?_
          refine r_u (o_fa fa144_2 rfl) ?_
          refine r_u (o_ld 5 sc135 rfl rfl rfl) ?_
          refine r_u (o_mv rfl) ?_
          obtain ⟨r38, hr38, hm44⟩ := bs hm33
          refine r_sw (s_w (o_call ca105 rfl (ring_Rings_Front.ok b31 x30 g26 1 a1 r38 hr38))) ?_
          rintro _ R _ _ ⟨g39, rfl, rfl, rfl⟩
          refine r_nil ?_
          refine x_seq ?_
          refine c_seq ?_
          refine c_reg ?_
          refine r_u (o_mv rfl) ?_
          refine r_u (o_as rfl) ?_
          refine r_nil ?_
          refine x_seq ?_
          refine c_ret ?_
          refine ex_st (fun _ h => st_some (f := ring_Rings.op g39) (a := r38.2) (st_star_f (A := ring_Rings.fl b31 r38.2 g39) h)) ?_
          obtain rfl := Option.some.inj hm44
          refine ex_st (fun _ h => st_pk 3 [2, 1, 0] (by decide) h) ?_
          exact x_r1 rfl (rv_t rfl) (Le.refl _) ⟨_, rfl, g22, (⟨(pt b31 0, g39)⟩ : arc_Arc.G), rfl, rfl, rfl⟩
      · refine c_if (b := decide (a0.most ≤ r19)) rfl (fun h45 => ?_) fun h45 => ?_
        · have hm46 := ift hp27 h45
          refine c_reg ?_
          refine r_u (o_mv rfl) ?_
          refine r_u (o_mv rfl) ?_
          refine r_u (o_bin rfl rfl (bI_eq a2 3)) ?_
          obtain ⟨r47, hr47, hm53⟩ := bs hm46
          refine r_sw (s_w (o_call ca98 rfl (arc_Arc_replace.ok b0_ (⟨a0.most, p15, (some x3)⟩ : arc_Arc) (⟨(pt b4 0, g2)⟩ : arc_Arc.G) (a2 == 3) r47 hr47))) ?_
          rintro v48 R _ _ ⟨_, ⟨⟨pv51, g52⟩⟩, rfl, rfl, rfl⟩
          refine r_u (o_as rfl) ?_
          refine r_nil ?_
          obtain rfl := Option.some.inj hm53
          exact x_sub (K29 v48 (⟨(pv51, g52)⟩ : arc_Arc.G)) ⟨rfl, rfl, rfl, trivial⟩ (fun _ h => st_pk 3 [1, 0, 2] (by decide) h)
        · have hm46 := iff_ hp27 h45
          refine c_skip ?_
          refine ex_st (fun _ h => st_nil (ap := true) (T := 9) (sz := 1) (en := eS) h) ?_
          obtain rfl := Option.some.inj hm46
          exact x_sub (K29 (.slice none 0 0) (⟨(pt b4 0, g2)⟩ : arc_Arc.G)) ⟨rfl, rfl, rfl, trivial⟩ (fun _ h => st_pk 3 [1, 0, 2] (by decide) h)
    · refine c_if (b := (a2 == 2)) rfl (fun h54 => ?_) fun h54 => ?_
      · have hm55 := ift hp16 h54
        obtain ⟨h56, hm57⟩ := ig hm55
        refine c_any mixed (effs := [17]) (V := []) ?_
        refine stage_st (fun _ h => st_pk 6 [5, 0, 1, 2, 3, 4] (by decide) h) ?_
        refine stage_ext [(0, pt b0_ 0), (1, pt b0_ 0), (2, pt b0_ 0), (3, pt b0_ 0), (4, vI a0.most), (5, pt b0_ 0), (6, pt b0_ 0), (7, pt b0_ 1), (8, vI a0.target), (9, vI r13), (10, vI r11), (11, vI (i64 (r13.tdiv r11))), (12, vI (if 1 < (i64 (r13.tdiv r11)) then i64 (r13.tdiv r11) else 1)), (13, vI (i64 (a0.target + (if 1 < (i64 (r13.tdiv r11)) then i64 (r13.tdiv r11) else 1)))), (14, vI (if (i64 (a0.target + (if 1 < (i64 (r13.tdiv r11)) then i64 (r13.tdiv r11) else 1))) < a0.most then i64 (a0.target + (if 1 < (i64 (r13.tdiv r11)) then i64 (r13.tdiv r11) else 1)) else a0.most)), (15, pt b0_ 0), (16, pt b0_ 1)] rfl ?_
        refine stage rfl rfl rfl rfl [0, 0, 2, 6, 14, 0, 32, 96, 224, 0, 0, 1536, 3584, 8160, 16382, 32767, 65535, 131071] [0, 1, 2, 3, 4, 5, 6, 7, 8, 9, 10, 11, 12, 13, 14, 15, 16] [17] rfl rfl rfl (qc rfl rfl (s_u (o_mv rfl)) (qc rfl rfl (s_u (o_mv rfl)) (qc rfl rfl (s_u (o_nc rfl)) (qc rfl rfl (s_u (o_fa fa144_0 rfl)) (qc rfl rfl (s_u (o_ld 0 sc3 rfl rfl rfl)) (qc rfl rfl (s_u (o_mv rfl)) (qc rfl rfl (s_u (o_nc rfl)) (qc rfl rfl (s_u (o_fa fa144_1 rfl)) (qc rfl rfl (s_u (o_ld 0 sc3 rfl rfl rfl)) (qc rfl rfl (s_u (o_mv rfl)) (qc rfl rfl (s_u (o_mv rfl)) (qc rfl rfl (s_u (o_bin rfl rfl (bI_quo r13 r11 h56))) (qc rfl rfl (s_u (o_maxI rfl rfl)) (qc rfl rfl (s_u (o_bin rfl rfl (bI_add a0.target (if 1 < (i64 (r13.tdiv r11)) then i64 (r13.tdiv r11) else 1)))) (qc rfl rfl (s_u (o_minI rfl rfl)) (qc rfl rfl (s_u (o_nc rfl)) (qc rfl rfl (s_u (o_fa fa144_1 rfl)) qn))))))))))))))))) ?_ (fun h => absurd h (by decide))
        refine ec (eo_u rfl (s_u (o_st sc3 rfl rfl rfl rfl rfl rfl)) (Le.refl _) ?_) en
        refine stage rfl rfl rfl rfl [0, 0, 2, 6, 14, 0, 32, 96, 224, 0, 0, 1536, 3584, 8160, 16382, 32767, 65535, 131071] [] [] rfl rfl rfl qn en ?_
        intro _
        refine ex_sub (E' := [(0, pt b0_ 0), (1, vS a1), (2, vI a2)]) ⟨rfl, rfl, rfl, trivial⟩ ?_
        obtain rfl := Option.some.inj hm57
        exact x_sub K18 ⟨rfl, rfl, rfl, trivial⟩ (fun _ h => st_pk 6 [0, 1, 2, 3, 4, 5] (by decide) h)
      · have hm55 := iff_ hp16 h54
        obtain ⟨h58, hm59⟩ := ig hm55
        refine c_any mixed (effs := [13]) (V := []) ?_
        refine stage_st (fun _ h => st_pk 6 [5, 0, 1, 2, 3, 4] (by decide) h) ?_
        refine stage_ext [(0, pt b0_ 0), (1, pt b0_ 0), (2, pt b0_ 0), (3, pt b0_ 1), (4, vI a0.target), (5, vI r11), (6, vI r13), (7, vI (i64 (r11.tdiv r13))), (8, vI (if 1 < (i64 (r11.tdiv r13)) then i64 (r11.tdiv r13) else 1)), (9, vI (i64 (a0.target - (if 1 < (i64 (r11.tdiv r13)) then i64 (r11.tdiv r13) else 1)))), (10, vI (if 0 < (i64 (a0.target - (if 1 < (i64 (r11.tdiv r13)) then i64 (r11.tdiv r13) else 1))) then i64 (a0.target - (if 1 < (i64 (r11.tdiv r13)) then i64 (r11.tdiv r13) else 1)) else 0)), (11, pt b0_ 0), (12, pt b0_ 1)] rfl ?_
        refine stage rfl rfl rfl rfl [0, 0, 2, 6, 14, 0, 0, 96, 224, 510, 1022, 2047, 4095, 8191] [0, 1, 2, 3, 4, 5, 6, 7, 8, 9, 10, 11, 12] [13] rfl rfl rfl (qc rfl rfl (s_u (o_mv rfl)) (qc rfl rfl (s_u (o_mv rfl)) (qc rfl rfl (s_u (o_nc rfl)) (qc rfl rfl (s_u (o_fa fa144_1 rfl)) (qc rfl rfl (s_u (o_ld 0 sc3 rfl rfl rfl)) (qc rfl rfl (s_u (o_mv rfl)) (qc rfl rfl (s_u (o_mv rfl)) (qc rfl rfl (s_u (o_bin rfl rfl (bI_quo r11 r13 h58))) (qc rfl rfl (s_u (o_maxI rfl rfl)) (qc rfl rfl (s_u (o_bin rfl rfl (bI_sub a0.target (if 1 < (i64 (r11.tdiv r13)) then i64 (r11.tdiv r13) else 1)))) (qc rfl rfl (s_u (o_maxI rfl rfl)) (qc rfl rfl (s_u (o_nc rfl)) (qc rfl rfl (s_u (o_fa fa144_1 rfl)) qn))))))))))))) ?_ (fun h => absurd h (by decide))
        refine ec (eo_u rfl (s_u (o_st sc3 rfl rfl rfl rfl rfl rfl)) (Le.refl _) ?_) en
        refine stage rfl rfl rfl rfl [0, 0, 2, 6, 14, 0, 0, 96, 224, 510, 1022, 2047, 4095, 8191] [] [] rfl rfl rfl qn en ?_
        intro _
        refine ex_sub (E' := [(0, pt b0_ 0), (1, vS a1), (2, vI a2)]) ⟨rfl, rfl, rfl, trivial⟩ ?_
        obtain rfl := Option.some.inj hm59
        exact x_sub K18 ⟨rfl, rfl, rfl, trivial⟩ (fun _ h => st_pk 6 [0, 1, 2, 3, 4, 5] (by decide) h)

def ring_Rings_Drop (a0 : ring_Rings) (a1 : Str) : Option (Bool × ring_Rings) :=
  if (mget a0.at_ a1).isSome then (ring_Rings_cut a0 ((mget a0.at_ a1).getD (0 : Int))).bind fun r6 => (gi r6.slots ((mget a0.at_ a1).getD (0 : Int))).bind fun x8 => (apd 8 r6.free [((mget a0.at_ a1).getD (0 : Int))]).bind fun l12 => some ((mget a0.at_ a1).isSome, (⟨r6.lists, ls r6.slots ((mget a0.at_ a1).getD (0 : Int)) (⟨[], 0, 0, 0⟩ : ring_slot), l12, mdel r6.at_ a1, r6.many⟩ : ring_Rings)) else some ((mget a0.at_ a1).isSome, a0)
theorem ring_Rings_Drop.ok {G R F} (b0_ : Nat) (a0 : ring_Rings) (g0_ : ring_Rings.G) (a1 : Str) (r : Bool × ring_Rings) (hm : ring_Rings_Drop a0 a1 = some r) : CO Try.prog 100 [pt b0_ 0, vS a1] G R (Bk b0_ 168 [vI a0.lists, g0_.slots, g0_.free, g0_.at_, g0_.many] :: OwS true 170 4 ring_slot.c g0_.slots a0.slots :: OwS true 3 1 eI g0_.free a0.free :: OwM vS vI g0_.at_ a0.at_ :: OwS true 3 1 eI g0_.many a0.many :: F)
    (Ret fun u R' L' => ∃ (q0 : ring_Rings.G), u = vB r.1 ∧ R' = R ∧ L' = Bk b0_ 168 [vI r.2.lists, q0.slots, q0.free, q0.at_, q0.many] :: OwS true 170 4 ring_slot.c q0.slots r.2.slots :: OwS true 3 1 eI q0.free r.2.free :: OwM vS vI q0.at_ r.2.at_ :: OwS true 3 1 eI q0.many r.2.many :: F) := by
  unfold ring_Rings_Drop at hm
  refine co_ofN (N := 45) Try.func100 rfl rfl ?_
  refine c_seq ?_
  refine c_reg ?_
  refine r_u (o_as rfl) ?_
  refine r_nil ?_
  refine x_seq ?_
  refine c_seq ?_
  refine c_seq ?_
  refine c_reg ?_
  refine r_u (o_mv rfl) ?_
  refine r_u (o_bin rfl rfl (bP_eqp Try.underlying135)) ?_
  refine r_nil ?_
  refine x_seq ?_
  refine c_ff rfl ?_
  refine c_skip ?_
  refine x_seq ?_
  refine c_seq ?_
  refine c_reg ?_
  refine r_u (o_mv rfl) ?_
  refine r_u (o_nc rfl) ?_
  refine r_u (o_fa fa168_3 rfl) ?_
  refine r_u (o_ld 0 sc166 rfl rfl rfl) ?_
  refine r_u (o_mv rfl) ?_
  refine r_u (o_lk (kv := vS) (vv := vI) (key := a1) (z0 := (0 : Int)) 3 Try.underlying166 (kok_S Try.underlying9) (fun _ => by kernel_rfl) rfl rfl rfl) ?_
  refine r_u (o_mv rfl) ?_
  refine r_u (o_ext rfl rfl) ?_
  refine r_u (o_ext rfl rfl) ?_
  refine r_u (o_as rfl) ?_
  refine r_u (o_as rfl) ?_
  refine r_nil ?_
  refine x_seq ?_
  refine c_seq ?_
  refine c_seq ?_
  refine c_reg ?_
  refine r_u (o_mv rfl) ?_
  refine r_nil ?_
  refine x_seq ?_
  refine c_if (b := (mget a0.at_ a1).isSome) rfl (fun h4 => ?_) fun h4 => ?_
  · have hm5 := ift hm h4
    refine c_seq ?_
    refine c_reg ?_
    refine r_u (o_mv rfl) ?_
    refine r_u (o_mv rfl) ?_
    obtain ⟨r6, hr6, hm7⟩ := bs hm5
    refine r_c (s_w (o_call ca123 rfl (ring_Rings_cut.ok b0_ a0 g0_ ((mget a0.at_ a1).getD (0 : Int)) r6 hr6))) ?_
    refine r_nil ?_
    refine x_seq ?_
    refine c_seq ?_
    refine c_reg ?_
    refine r_u (o_mv rfl) ?_
    refine r_u (o_nc rfl) ?_
    refine r_u (o_fa fa168_3 rfl) ?_
    refine r_u (o_ld 0 sc166 rfl rfl rfl) ?_
    refine r_u (o_mv rfl) ?_
    refine rl_st (fun _ h => st_pk 5 [3, 0, 1, 2, 4] (by decide) h) ?_
    refine r_u0 (o_del (kv := vS) (vv := vI) (key := a1) Try.underlying166 (kok_S Try.underlying9) rfl rfl rfl rfl) ?_
    refine r_nil ?_
    refine x_seq ?_
    refine c_seq ?_
    refine c_reg ?_
    refine r_u (o_mv rfl) ?_
    refine r_u (o_nc rfl) ?_
    refine r_u (o_fa fa168_1 rfl) ?_
    refine r_u (o_ld 1 sc164 rfl rfl rfl) ?_
    refine r_u (o_mv rfl) ?_
    refine r_u (o_bld [vS [], vI 0, vI 0, vI 0] rfl (fun _ => by kernel_rfl)) ?_
    obtain ⟨x8, hx8, hm9⟩ := bs hm7
    refine r_u (o_ixO 2 Try.underlying164 (fun _ => by kernel_rfl) rfl rfl rfl hx8) ?_
    refine rl_st (fun _ h => st_pk 5 [2, 0, 1, 3, 4] (by decide) h) ?_
    refine r_u0 (o_stnO (c' := (⟨[], 0, 0, 0⟩ : ring_slot)) ag170 rfl rfl rfl hx8 rfl rfl rfl) ?_
    refine r_nil ?_
    refine x_seq ?_
    refine c_reg ?_
    refine r_u (o_mv rfl) ?_
    refine r_u (o_mv rfl) ?_
    refine r_u (o_nc rfl) ?_
    refine r_u (o_fa fa168_2 rfl) ?_
    refine r_u (o_ld 2 sc165 rfl rfl rfl) ?_
    refine r_u (o_mv rfl) ?_
    refine r_sw (s_w (o_bsl (en := eI) (sz := 1) (e := 3) (cs := [vI ((mget a0.at_ a1).getD (0 : Int))]) (r := [((mget a0.at_ a1).getD (0 : Int))]) rfl (fun _ => by kernel_rfl) rfl (by decide) rfl (fun _ => rfl))) ?_
    rintro v10 R _ _ ⟨rfl, rfl⟩
    obtain ⟨l12, hl12, hm13⟩ := bs hm9
    refine rl_st (fun _ h => st_pk 6 [4, 0, 1, 2, 3, 5] (by decide) h) ?_
    refine r_sw (s_w (o_ap (sz := 1) (bytes := 8) 0 Try.underlying165 rfl rfl rfl rfl rfl (by decide) (by decide) (fun _ _ _ h => by simp at h; subst h; rfl) (fun _ => rfl) rfl rfl rfl rfl (Nat.succ_pos _) hl12)) ?_
    rintro v11 R _ _ ⟨rfl, rfl⟩
    refine r_u (o_nc rfl) ?_
    refine r_u (o_fa fa168_2 rfl) ?_
    refine rl_st (fun _ h => st_pk 6 [4, 0, 1, 2, 3, 5] (by decide) h) ?_
    refine r_u0 (ou_if (one_o 1 rfl) fun ho0 => o_st sc165 rfl rfl rfl ho0 rfl rfl) ?_
    refine r_nil ?_
    refine x_seq ?_
    refine c_seq ?_
    refine c_reg ?_
    refine r_u (o_mv rfl) ?_
    refine r_u (o_as rfl) ?_
    refine r_nil ?_
    refine x_seq ?_
    refine c_ret ?_
    obtain rfl := Option.some.inj hm13
    refine ex_st (fun _ h => st_pk 6 [0, 3, 1, 4, 5] (by decide) h) ?_
    exact x_r1 rfl (rv_t rfl) (Le.refl _) ⟨_, rfl, (⟨g0_.slots, v11, g0_.at_, g0_.many⟩ : ring_Rings.G), rfl, rfl, rfl⟩
  · have hm5 := iff_ hm h4
    refine c_skip ?_
    refine x_seq ?_
    refine c_seq ?_
    refine c_reg ?_
    refine r_u (o_mv rfl) ?_
    refine r_u (o_as rfl) ?_
    refine r_nil ?_
    refine x_seq ?_
    refine c_ret ?_
    obtain rfl := Option.some.inj hm5
    exact x_r1 rfl (rv_t rfl) (Le.refl _) ⟨_, rfl, g0_, rfl, rfl, rfl⟩

def arc_Arc_forget (a0 : arc_Arc) (a1 : Int) : Option arc_Arc :=
  om a0.r (none) fun x3 => (ring_Rings_Back x3 a1).bind fun r11 => if r11.2 then (ring_Rings_Drop x3 r11.1).bind fun r15 => some (⟨a0.most, a0.target, (some r15.2)⟩ : arc_Arc) else some a0
theorem arc_Arc_forget.ok {G R F} (b0_ : Nat) (a0 : arc_Arc) (g0_ : arc_Arc.G) (a1 : Int) (r : arc_Arc) (hm : arc_Arc_forget a0 a1 = some r) : CO Try.prog 108 [pt b0_ 0, vI a1] G R (Bk b0_ 144 [vI a0.most, vI a0.target, g0_.r.1] :: rO (ring_Rings.op g0_.r.2) g0_.r.1 a0.r :: F)
    (Ret fun u R' L' => ∃ (q0 : arc_Arc.G), u = .tuple #[] ∧ R' = R ∧ L' = Bk b0_ 144 [vI r.most, vI r.target, q0.r.1] :: rO (ring_Rings.op q0.r.2) q0.r.1 r.r :: F) := by
  obtain ⟨⟨pv1, g2⟩⟩ := g0_
  unfold arc_Arc_forget at hm
  refine co_ofN (N := 22) Try.func108 rfl rfl ?_
  refine c_seq ?_
  refine cd_st (fun _ h => st_pk 2 [1, 0] (by decide) h) ?_
  refine cd_opt (fun ho5 => ?_) (fun x3 b4 ho5 => ?_)
  · rintro rfl
    have hm6 := om_n hm ho5
    cases hm6
  · rintro rfl
    have hm6 := om_s hm ho5
    refine cd_st (fun _ h => st_star_o h) ?_
    refine c_reg ?_
    refine r_u (o_mv rfl) ?_
    refine r_u (o_nc rfl) ?_
    refine r_u (o_fa fa144_2 rfl) ?_
    refine r_u (o_ld 5 sc135 rfl rfl rfl) ?_
    refine r_u (o_mv rfl) ?_
    obtain ⟨r11, hr11, hm12⟩ := bs hm6
    refine r_c (s_w (o_call ca99 rfl (ring_Rings_Back.ok b4 x3 g2 a1 r11 hr11))) ?_
    refine r_u (o_mv rfl) ?_
    refine r_u (o_ext rfl rfl) ?_
    refine r_u (o_ext rfl rfl) ?_
    refine r_u (o_as rfl) ?_
    refine r_u (o_as rfl) ?_
    refine r_nil ?_
    refine x_seq ?_
    refine c_seq ?_
    refine c_reg ?_
    refine r_u (o_mv rfl) ?_
    refine r_nil ?_
    refine x_seq ?_
    refine c_if (b := r11.2) rfl (fun h13 => ?_) fun h13 => ?_
    · have hm14 := ift hm12 h13
      refine c_reg ?_
      refine r_u (o_mv rfl) ?_
      refine r_u (o_nc rfl) ?_
      refine r_u (o_fa fa144_2 rfl) ?_
      refine r_u (o_ld 5 sc135 rfl rfl rfl) ?_
      refine r_u (o_mv rfl) ?_
      obtain ⟨r15, hr15, hm21⟩ := bs hm14
      refine r_sw (s_w (o_call ca100 rfl (ring_Rings_Drop.ok b4 x3 g2 r11.1 r15 hr15))) ?_
      rintro _ R _ _ ⟨g16, rfl, rfl, rfl⟩
      refine r_nil ?_
      refine x_end ?_
      refine ex_st (fun _ h => st_some (f := ring_Rings.op g16) (a := r15.2) (st_star_f (A := ring_Rings.fl b4 r15.2 g16) h)) ?_
      obtain rfl := Option.some.inj hm21
      refine ex_st (fun _ h => st_pk 2 [1, 0] (by decide) h) ?_
      exact x_r0 rfl (Le.refl _) ⟨_, rfl, (⟨(pt b4 0, g16)⟩ : arc_Arc.G), rfl, rfl, rfl⟩
    · have hm14 := iff_ hm12 h13
      refine c_skip ?_
      refine x_end ?_
      refine ex_st (fun _ h => st_some (f := ring_Rings.op g2) (a := x3) (st_star_f (A := ring_Rings.fl b4 x3 g2) h)) ?_
      refine ex_st (fun _ h => st_back ho5 h) ?_
      obtain rfl := Option.some.inj hm14
      refine ex_st (fun _ h => st_pk 2 [1, 0] (by decide) h) ?_
      exact x_r0 rfl (Le.refl _) ⟨_, rfl, (⟨(pt b4 0, g2)⟩ : arc_Arc.G), rfl, rfl, rfl⟩

def arc_Arc_Insert (a0 : arc_Arc) (a1 : Str) : Option (List Str × arc_Arc) :=
  Option.bind (if decide (64 < (a1.length : Int)) then some (true, a0) else (arc_Arc_Touch a0 a1).bind fun r168 => some (r168.1, r168.2)) fun p3 => if p3.1 then some ([], p3.2) else om p3.2.r (none) fun x13 => (ring_Rings_In x13 a1).bind fun r21 => if r21.2 then (arc_Arc_again (⟨p3.2.most, p3.2.target, (some x13)⟩ : arc_Arc) a1 r21.1).bind fun r25 => some (r25.1, r25.2) else (ring_Rings_Len x13 0).bind fun r32 => (ring_Rings_Len x13 2).bind fun r34 => (ring_Rings_Len x13 1).bind fun r36 => (ring_Rings_Len x13 3).bind fun r38 => Option.bind (if decide (p3.2.most ≤ (i64 (r32 + r34))) then some (decide (r32 < p3.2.most)) else some false) fun p40 => Option.bind (if p40 then (arc_Arc_forget (⟨p3.2.most, p3.2.target, (some x13)⟩ : arc_Arc) 2).bind fun r70 => (arc_Arc_Len r70).bind fun r76 => Option.bind (if decide (r70.most ≤ r76) then (arc_Arc_replace r70 false).bind fun r89 => some (r89.1, r89.2) else some ([], r70)) fun p78 => some (p78.1, p78.2) else Option.bind (if decide (p3.2.most ≤ (i64 (r32 + r34))) then (ring_Rings_Back x13 0).bind fun r107 => (ring_Rings_Drop x13 r107.1).bind fun r109 => some ([r107.1], (⟨p3.2.most, p3.2.target, (some r109.2)⟩ : arc_Arc)) else Option.bind (if decide (p3.2.most ≤ (i64 ((i64 ((i64 (r32 + r34)) + r36)) + r38))) then Option.bind (if decide ((i64 (2 * p3.2.most)) ≤ (i64 ((i64 ((i64 (r32 + r34)) + r36)) + r38))) then (arc_Arc_forget (⟨p3.2.most, p3.2.target, (some x13)⟩ : arc_Arc) 3).bind fun r158 => some r158 else some (⟨p3.2.most, p3.2.target, (some x13)⟩ : arc_Arc)) fun p128 => (arc_Arc_Len p128).bind fun r136 => Option.bind (if decide (p128.most ≤ r136) then (arc_Arc_replace p128 false).bind fun r149 => some (r149.1, r149.2) else some ([], p128)) fun p138 => some (p138.1, p138.2) else some ([], (⟨p3.2.most, p3.2.target, (some x13)⟩ : arc_Arc))) fun p117 => some (p117.1, p117.2)) fun p96 => some (p96.1, p96.2)) fun p44 => om p44.2.r (none) fun x53 => (ring_Rings_Front x53 0 a1).bind fun r61 => some (p44.1, (⟨p44.2.most, p44.2.target, (some r61.2)⟩ : arc_Arc))
theorem arc_Arc_Insert.ok {G R F} (b0_ : Nat) (a0 : arc_Arc) (g0_ : arc_Arc.G) (a1 : Str) (r : List Str × arc_Arc) (hm : arc_Arc_Insert a0 a1 = some r) : CO Try.prog 64 [pt b0_ 0, vS a1] G R (Bk b0_ 144 [vI a0.most, vI a0.target, g0_.r.1] :: rO (ring_Rings.op g0_.r.2) g0_.r.1 a0.r :: F)
    (Ret fun u R' L' => ∃ (p0 : Value) (q0 : arc_Arc.G), u = p0 ∧ R' = R ∧ L' = OwS true 9 1 eS p0 r.1 :: Bk b0_ 144 [vI r.2.most, vI r.2.target, q0.r.1] :: rO (ring_Rings.op q0.r.2) q0.r.1 r.2.r :: F) := by
  obtain ⟨⟨pv1, g2⟩⟩ := g0_
  unfold arc_Arc_Insert at hm
  refine co_ofN (N := 147) Try.func64 rfl rfl ?_
  refine c_seq ?_
  refine c_reg ?_
  refine r_u (o_as rfl) ?_
  refine r_nil ?_
  refine x_seq ?_
  refine c_seq ?_
  refine c_seq ?_
  obtain ⟨p3, hp8, hm9⟩ := bs hm
  refine cd_cut (fun x ks => ∀ (g4 : arc_Arc.G), EX x .normal ks [(0, pt b0_ 0), (1, vS a1), (23, vB p3.1)] R (Bk b0_ 144 [vI p3.2.most, vI p3.2.target, g4.r.1] :: rO (ring_Rings.op g4.r.2) g4.r.1 p3.2.r :: F)) ?_ fun K10 => ?_
  · intro g4
    obtain ⟨⟨pv6, g7⟩⟩ := g4
    refine x_seq ?_
    refine c_if (b := p3.1) rfl (fun h11 => ?_) fun h11 => ?_
    · have hm12 := ift hm9 h11
      refine c_seq ?_
      refine c_reg ?_
      refine r_u (o_as rfl) ?_
      refine r_nil ?_
      refine x_seq ?_
      refine c_ret ?_
      refine ex_st (fun _ h => st_nil (ap := true) (T := 9) (sz := 1) (en := eS) h) ?_
      obtain rfl := Option.some.inj hm12
      exact x_r1 rfl (rv_t rfl) (Le.refl _) ⟨_, rfl, (.slice none 0 0), (⟨(pv6, g7)⟩ : arc_Arc.G), rfl, rfl, rfl⟩
    · have hm12 := iff_ hm9 h11
      refine c_skip ?_
      refine x_seq ?_
      refine c_seq ?_
      refine c_seq ?_
      refine cd_st (fun _ h => st_pk 2 [1, 0] (by decide) h) ?_
      refine cd_opt (fun ho15 => ?_) (fun x13 b14 ho15 => ?_)
      · rintro rfl
        have hm16 := om_n hm12 ho15
        cases hm16
      · rintro rfl
        have hm16 := om_s hm12 ho15
        refine cd_st (fun _ h => st_star_o h) ?_
        refine c_reg ?_
        refine r_u (o_mv rfl) ?_
        refine r_u (o_nc rfl) ?_
        refine r_u (o_fa fa144_2 rfl) ?_
        refine r_u (o_ld 5 sc135 rfl rfl rfl) ?_
        refine r_u (o_mv rfl) ?_
        obtain ⟨r21, hr21, hm22⟩ := bs hm16
        refine r_c (s_w (o_call ca96 rfl (ring_Rings_In.ok b14 x13 g7 a1 r21 hr21))) ?_
        refine r_u (o_mv rfl) ?_
        refine r_u (o_ext rfl rfl) ?_
        refine r_u (o_ext rfl rfl) ?_
        refine r_u (o_as rfl) ?_
        refine r_u (o_as rfl) ?_
        refine r_nil ?_
        refine x_seq ?_
        refine c_seq ?_
        refine c_reg ?_
        refine r_u (o_mv rfl) ?_
        refine r_nil ?_
        refine x_seq ?_
        refine c_if (b := r21.2) rfl (fun h23 => ?_) fun h23 => ?_
        · have hm24 := ift hm22 h23
          refine c_seq ?_
          refine c_reg ?_
          refine r_u (o_mv rfl) ?_
          refine r_u (o_mv rfl) ?_
          refine r_u (o_mv rfl) ?_
          refine rl_st (fun _ h => st_some (f := ring_Rings.op g7) (a := x13) (st_star_f (A := ring_Rings.fl b14 x13 g7) h)) ?_
          obtain ⟨r25, hr25, hm31⟩ := bs hm24
          refine rl_st (fun _ h => st_pk 2 [1, 0] (by decide) h) ?_
          refine r_sw (s_w (o_call ca107 rfl (arc_Arc_again.ok b0_ (⟨p3.2.most, p3.2.target, (some x13)⟩ : arc_Arc) (⟨(pt b14 0, g7)⟩ : arc_Arc.G) a1 r21.1 r25 hr25))) ?_
          rintro v26 R _ _ ⟨_, ⟨⟨pv29, g30⟩⟩, rfl, rfl, rfl⟩
          refine r_u (o_as rfl) ?_
          refine r_nil ?_
          refine x_seq ?_
          refine c_ret ?_
          obtain rfl := Option.some.inj hm31
          exact x_r1 rfl (rv_t rfl) (Le.refl _) ⟨_, rfl, v26, (⟨(pv29, g30)⟩ : arc_Arc.G), rfl, rfl, rfl⟩
        · have hm24 := iff_ hm22 h23
          refine c_skip ?_
          refine x_seq ?_
          refine c_seq ?_
          refine c_reg ?_
          refine r_u (o_as rfl) ?_
          refine r_nil ?_
          refine x_seq ?_
          refine c_seq ?_
          obtain ⟨r32, hr32, hm33⟩ := bs hm24
          obtain ⟨r34, hr34, hm35⟩ := bs hm33
          refine c_any mixed (effs := [4, 9]) (V := []) ?_
          refine stage_ext [(0, pt b0_ 0), (1, pt b0_ 0), (2, pt b0_ 2), (3, pt b14 0), (5, pt b0_ 0), (6, pt b0_ 0), (7, pt b0_ 2), (8, pt b14 0)] rfl ?_
          refine stage rfl rfl rfl rfl [0, 1, 3, 7, 15, 0, 32, 96, 224, 511, 1023, 2047] [0, 1, 2, 3, 5, 6, 7, 8] [4] rfl rfl rfl (qc rfl rfl (s_u (o_mv rfl)) (qc rfl rfl (s_u (o_nc rfl)) (qc rfl rfl (s_u (o_fa fa144_2 rfl)) (qc rfl rfl (s_u (o_ld 5 sc135 rfl rfl rfl)) (qc rfl rfl (s_u (o_mv rfl)) (qc rfl rfl (s_u (o_nc rfl)) (qc rfl rfl (s_u (o_fa fa144_2 rfl)) (qc rfl rfl (s_u (o_ld 5 sc135 rfl rfl rfl)) qn)))))))) ?_ (fun h => absurd h (by decide))
          refine ec (eo_c rfl (s_w (o_call ca104 rfl (ring_Rings_Len.ok b14 x13 g7 0 r32 hr32))) ?_) en
          refine stage rfl rfl rfl rfl [0, 1, 3, 7, 15, 0, 32, 96, 224, 511, 1023, 2047] [5, 6, 7, 8] [9] rfl rfl rfl (qc rfl rfl (s_u (o_mv rfl)) (qc rfl rfl (s_u (o_nc rfl)) (qc rfl rfl (s_u (o_fa fa144_2 rfl)) (qc rfl rfl (s_u (o_ld 5 sc135 rfl rfl rfl)) qn)))) ?_ (fun h => absurd h (by decide))
          refine ec (eo_c rfl (s_w (o_call ca104 rfl (ring_Rings_Len.ok b14 x13 g7 2 r34 hr34))) ?_) en
          refine stage_ext [(10, vI (i64 (r32 + r34))), (11, vI (i64 (r32 + r34)))] rfl ?_
          refine stage rfl rfl rfl rfl [0, 1, 3, 7, 15, 0, 32, 96, 224, 511, 1023, 2047] [10, 11] [] rfl rfl rfl (qc rfl rfl (s_u (o_bin rfl rfl (bI_add r32 r34))) (qc rfl rfl (s_u (o_as rfl)) qn)) en ?_
          intro _
          refine ex_sub (E' := [(0, pt b0_ 0), (1, vS a1), (7, .slice none 0 0), (8, vI (i64 (r32 + r34)))]) ⟨rfl, rfl, rfl, rfl, trivial⟩ ?_
          refine x_seq ?_
          refine c_seq ?_
          obtain ⟨r36, hr36, hm37⟩ := bs hm35
          obtain ⟨r38, hr38, hm39⟩ := bs hm37
          refine c_any mixed (effs := [5, 11]) (V := []) ?_
          refine stage_ext [(0, vI (i64 (r32 + r34))), (1, pt b0_ 0), (2, pt b0_ 0), (3, pt b0_ 2), (4, pt b14 0), (7, pt b0_ 0), (8, pt b0_ 0), (9, pt b0_ 2), (10, pt b14 0)] rfl ?_
          refine stage rfl rfl rfl rfl [0, 0, 2, 6, 14, 30, 63, 0, 128, 384, 896, 1982, 4095, 8191] [0, 1, 2, 3, 4, 7, 8, 9, 10] [5] rfl rfl rfl (qc rfl rfl (s_u (o_mv rfl)) (qc rfl rfl (s_u (o_mv rfl)) (qc rfl rfl (s_u (o_nc rfl)) (qc rfl rfl (s_u (o_fa fa144_2 rfl)) (qc rfl rfl (s_u (o_ld 5 sc135 rfl rfl rfl)) (qc rfl rfl (s_u (o_mv rfl)) (qc rfl rfl (s_u (o_nc rfl)) (qc rfl rfl (s_u (o_fa fa144_2 rfl)) (qc rfl rfl (s_u (o_ld 5 sc135 rfl rfl rfl)) qn))))))))) ?_ (fun h => absurd h (by decide))
          refine ec (eo_c rfl (s_w (o_call ca104 rfl (ring_Rings_Len.ok b14 x13 g7 1 r36 hr36))) ?_) en
          refine stage_ext [(6, vI (i64 ((i64 (r32 + r34)) + r36)))] rfl ?_
          refine stage rfl rfl rfl rfl [0, 0, 2, 6, 14, 30, 63, 0, 128, 384, 896, 1982, 4095, 8191] [0, 6, 7, 8, 9, 10] [11] rfl rfl rfl (qc rfl rfl (s_u (o_mv rfl)) (qc rfl rfl (s_u (o_bin rfl rfl (bI_add (i64 (r32 + r34)) r36))) (qc rfl rfl (s_u (o_mv rfl)) (qc rfl rfl (s_u (o_nc rfl)) (qc rfl rfl (s_u (o_fa fa144_2 rfl)) (qc rfl rfl (s_u (o_ld 5 sc135 rfl rfl rfl)) qn)))))) ?_ (fun h => absurd h (by decide))
          refine ec (eo_c rfl (s_w (o_call ca104 rfl (ring_Rings_Len.ok b14 x13 g7 3 r38 hr38))) ?_) en
          refine stage_ext [(12, vI (i64 ((i64 ((i64 (r32 + r34)) + r36)) + r38))), (13, vI (i64 ((i64 ((i64 (r32 + r34)) + r36)) + r38)))] rfl ?_
          refine stage rfl rfl rfl rfl [0, 0, 2, 6, 14, 30, 63, 0, 128, 384, 896, 1982, 4095, 8191] [0, 6, 12, 13] [] rfl rfl rfl (qc rfl rfl (s_u (o_mv rfl)) (qc rfl rfl (s_u (o_bin rfl rfl (bI_add (i64 (r32 + r34)) r36))) (qc rfl rfl (s_u (o_bin rfl rfl (bI_add (i64 ((i64 (r32 + r34)) + r36)) r38))) (qc rfl rfl (s_u (o_as rfl)) qn)))) en ?_
          intro _
          refine ex_sub (E' := [(0, pt b0_ 0), (1, vS a1), (7, .slice none 0 0), (8, vI (i64 (r32 + r34))), (9, vI (i64 ((i64 ((i64 (r32 + r34)) + r36)) + r38)))]) ⟨rfl, rfl, rfl, rfl, rfl, trivial⟩ ?_
          refine x_seq ?_
          refine c_seq ?_
          refine c_blk ?_
          refine c_seq ?_
          obtain ⟨p40, hp41, hm42⟩ := bs hm39
          refine cd_join (E' := [(0, pt b0_ 0), (1, vS a1), (7, .slice none 0 0), (8, vI (i64 (r32 + r34))), (9, vI (i64 ((i64 ((i64 (r32 + r34)) + r36)) + r38))), (62, vB p40)]) (L' := Bk b14 168 [vI x13.lists, g7.slots, g7.free, g7.at_, g7.many] :: Bk b0_ 144 [vI p3.2.most, vI p3.2.target, pt b14 0] :: OwS true 170 4 ring_slot.c g7.slots x13.slots :: OwS true 3 1 eI g7.free x13.free :: OwM vS vI g7.at_ x13.at_ :: OwS true 3 1 eI g7.many x13.many :: F) ?_ fun K43 => ?_
          · refine x_seq ?_
            obtain ⟨p44, hp50, hm51⟩ := bs hm42
            refine cd_cut (fun x ks => ∀ (g45 : Value), ∀ (g46 : arc_Arc.G), EX x .normal ks [(0, pt b0_ 0), (1, vS a1), (7, g45)] R (Bk b0_ 144 [vI p44.2.most, vI p44.2.target, g46.r.1] :: OwS true 9 1 eS g45 p44.1 :: rO (ring_Rings.op g46.r.2) g46.r.1 p44.2.r :: F)) ?_ fun K52 => ?_
            · intro g45 g46
              obtain ⟨⟨pv48, g49⟩⟩ := g46
              refine x_blk ?_
              refine x_seq ?_
              refine c_seq ?_
              refine cd_st (fun _ h => st_pk 3 [2, 0, 1] (by decide) h) ?_
              refine cd_opt (fun ho55 => ?_) (fun x53 b54 ho55 => ?_)
              · rintro rfl
                have hm56 := om_n hm51 ho55
                cases hm56
              · rintro rfl
                have hm56 := om_s hm51 ho55
                refine cd_st (fun _ h => st_star_o h) ?_
                refine c_reg ?_
                refine r_u (o_mv rfl) ?_
                refine r_u (o_nc rfl) ?_
                refine r_u (o_fa fa144_2 rfl) ?_
                refine r_u (o_ld 5 sc135 rfl rfl rfl) ?_
                refine r_u (o_mv rfl) ?_
                obtain ⟨r61, hr61, hm67⟩ := bs hm56
                refine r_sw (s_w (o_call ca105 rfl (ring_Rings_Front.ok b54 x53 g49 0 a1 r61 hr61))) ?_
                rintro _ R _ _ ⟨g62, rfl, rfl, rfl⟩
                refine r_nil ?_
                refine x_seq ?_
                refine c_seq ?_
                refine c_reg ?_
                refine r_u (o_mv rfl) ?_
                refine r_u (o_as rfl) ?_
                refine r_nil ?_
                refine x_seq ?_
                refine c_ret ?_
                refine ex_st (fun _ h => st_some (f := ring_Rings.op g62) (a := r61.2) (st_star_f (A := ring_Rings.fl b54 r61.2 g62) h)) ?_
                obtain rfl := Option.some.inj hm67
                refine ex_st (fun _ h => st_pk 3 [2, 1, 0] (by decide) h) ?_
                exact x_r1 rfl (rv_t rfl) (Le.refl _) ⟨_, rfl, g45, (⟨(pt b54 0, g62)⟩ : arc_Arc.G), rfl, rfl, rfl⟩
            · refine c_if (b := p40) rfl (fun h68 => ?_) fun h68 => ?_
              · have hm69 := ift hp50 h68
                refine c_seq ?_
                refine c_reg ?_
                refine r_u (o_mv rfl) ?_
                refine rl_st (fun _ h => st_pk 6 [0, 2, 3, 4, 5, 1] (by decide) h) ?_
                refine rl_st (fun _ h => st_some (f := ring_Rings.op g7) (a := x13) (st_star_f (A := ring_Rings.fl b14 x13 g7) h)) ?_
                obtain ⟨r70, hr70, hm75⟩ := bs hm69
                refine rl_st (fun _ h => st_pk 2 [1, 0] (by decide) h) ?_
                refine r_sw (s_w (o_call ca108 rfl (arc_Arc_forget.ok b0_ (⟨p3.2.most, p3.2.target, (some x13)⟩ : arc_Arc) (⟨(pt b14 0, g7)⟩ : arc_Arc.G) 2 r70 hr70))) ?_
                rintro _ R _ _ ⟨⟨⟨pv73, g74⟩⟩, rfl, rfl, rfl⟩
                refine r_nil ?_
                refine x_seq ?_
                refine c_seq ?_
                obtain ⟨r76, hr76, hm77⟩ := bs hm75
                refine c_any mixed (effs := [1]) (V := []) ?_
                refine stage_ext [(0, pt b0_ 0), (2, pt b0_ 0), (3, pt b0_ 0), (4, pt b0_ 0), (5, vI r70.most)] rfl ?_
                refine stage rfl rfl rfl rfl [0, 1, 0, 4, 12, 28, 63] [0, 2, 3, 4, 5] [1] rfl rfl rfl (qc rfl rfl (s_u (o_mv rfl)) (qc rfl rfl (s_u (o_mv rfl)) (qc rfl rfl (s_u (o_nc rfl)) (qc rfl rfl (s_u (o_fa fa144_0 rfl)) (qc rfl rfl (s_u (o_ld 0 sc3 rfl rfl rfl)) qn))))) ?_ (fun h => absurd h (by decide))
                refine ec (eo_c rfl (s_w (o_call ca60 rfl (arc_Arc_Len.ok b0_ r70 (⟨(pv73, g74)⟩ : arc_Arc.G) r76 hr76))) ?_) en
                refine stage_ext [(6, vB (decide (r70.most ≤ r76)))] rfl ?_
                refine stage rfl rfl rfl rfl [0, 1, 0, 4, 12, 28, 63] [2, 3, 4, 5, 6] [] rfl rfl rfl (qc rfl rfl (s_u (o_mv rfl)) (qc rfl rfl (s_u (o_nc rfl)) (qc rfl rfl (s_u (o_fa fa144_0 rfl)) (qc rfl rfl (s_u (o_ld 0 sc3 rfl rfl rfl)) (qc rfl rfl (s_u (o_bin rfl rfl (bI_ge r76 r70.most))) qn))))) en ?_
                intro _
                refine ex_sub (E' := [(0, pt b0_ 0), (1, vS a1), (7, .slice none 0 0), (89, vB (decide (r70.most ≤ r76)))]) ⟨rfl, rfl, rfl, rfl, trivial⟩ ?_
                refine x_seq ?_
                obtain ⟨p78, hp84, hm85⟩ := bs hm77
                refine cd_cut (fun x ks => ∀ (g79 : Value), ∀ (g80 : arc_Arc.G), EX x .normal ks [(0, pt b0_ 0), (1, vS a1), (7, g79)] R (Bk b0_ 144 [vI p78.2.most, vI p78.2.target, g80.r.1] :: OwS true 9 1 eS g79 p78.1 :: rO (ring_Rings.op g80.r.2) g80.r.1 p78.2.r :: F)) ?_ fun K86 => ?_
                · intro g79 g80
                  obtain ⟨⟨pv82, g83⟩⟩ := g80
                  obtain rfl := Option.some.inj hm85
                  exact x_sub (K52 g79 (⟨(pv82, g83)⟩ : arc_Arc.G)) ⟨rfl, rfl, rfl, trivial⟩ (fun _ h => st_pk 3 [0, 1, 2] (by decide) h)
                · refine c_if (b := decide (r70.most ≤ r76)) rfl (fun h87 => ?_) fun h87 => ?_
                  · have hm88 := ift hp84 h87
                    refine c_reg ?_
                    refine r_u (o_mv rfl) ?_
                    obtain ⟨r89, hr89, hm95⟩ := bs hm88
                    refine r_sw (s_w (o_call ca98 rfl (arc_Arc_replace.ok b0_ r70 (⟨(pv73, g74)⟩ : arc_Arc.G) false r89 hr89))) ?_
                    rintro v90 R _ _ ⟨_, ⟨⟨pv93, g94⟩⟩, rfl, rfl, rfl⟩
                    refine r_u (o_as rfl) ?_
                    refine r_nil ?_
                    obtain rfl := Option.some.inj hm95
                    exact x_sub (K86 v90 (⟨(pv93, g94)⟩ : arc_Arc.G)) ⟨rfl, rfl, rfl, trivial⟩ (fun _ h => st_pk 3 [1, 0, 2] (by decide) h)
                  · have hm88 := iff_ hp84 h87
                    refine c_skip ?_
                    refine ex_st (fun _ h => st_nil (ap := true) (T := 9) (sz := 1) (en := eS) h) ?_
                    obtain rfl := Option.some.inj hm88
                    exact x_sub (K86 (.slice none 0 0) (⟨(pv73, g74)⟩ : arc_Arc.G)) ⟨rfl, rfl, rfl, trivial⟩ (fun _ h => st_pk 3 [1, 0, 2] (by decide) h)
              · have hm69 := iff_ hp50 h68
                refine c_seq ?_
                refine c_reg ?_
                refine r_u (o_mv rfl) ?_
                refine r_u (o_mv rfl) ?_
                refine r_u (o_nc rfl) ?_
                refine r_u (o_fa fa144_0 rfl) ?_
                refine r_u (o_ld 1 sc3 rfl rfl rfl) ?_
                refine r_u (o_bin rfl rfl (bI_ge (i64 (r32 + r34)) p3.2.most)) ?_
                refine r_u (o_as rfl) ?_
                refine r_nil ?_
                refine x_seq ?_
                obtain ⟨p96, hp102, hm103⟩ := bs hm69
                refine cd_cut (fun x ks => ∀ (g97 : Value), ∀ (g98 : arc_Arc.G), EX x .normal ks [(0, pt b0_ 0), (1, vS a1), (7, g97)] R (Bk b0_ 144 [vI p96.2.most, vI p96.2.target, g98.r.1] :: OwS true 9 1 eS g97 p96.1 :: rO (ring_Rings.op g98.r.2) g98.r.1 p96.2.r :: F)) ?_ fun K104 => ?_
                · intro g97 g98
                  obtain ⟨⟨pv100, g101⟩⟩ := g98
                  obtain rfl := Option.some.inj hm103
                  exact x_sub (K52 g97 (⟨(pv100, g101)⟩ : arc_Arc.G)) ⟨rfl, rfl, rfl, trivial⟩ (fun _ h => st_pk 3 [0, 1, 2] (by decide) h)
                · refine c_if (b := decide (p3.2.most ≤ (i64 (r32 + r34)))) rfl (fun h105 => ?_) fun h105 => ?_
                  · have hm106 := ift hp102 h105
                    refine c_seq ?_
                    refine c_reg ?_
                    refine r_u (o_mv rfl) ?_
                    refine r_u (o_nc rfl) ?_
                    refine r_u (o_fa fa144_2 rfl) ?_
                    refine r_u (o_ld 1 sc135 rfl rfl rfl) ?_
                    obtain ⟨r107, hr107, hm108⟩ := bs hm106
                    refine rl_st (fun _ h => st_pk 6 [0, 2, 3, 4, 5, 1] (by decide) h) ?_
                    refine r_c (s_w (o_call ca99 rfl (ring_Rings_Back.ok b14 x13 g7 0 r107 hr107))) ?_
                    refine r_u (o_mv rfl) ?_
                    refine r_u (o_ext rfl rfl) ?_
                    refine r_u (o_ext rfl rfl) ?_
                    refine r_u (o_as rfl) ?_
                    refine r_u (o_as rfl) ?_
                    refine r_nil ?_
                    refine x_seq ?_
                    refine c_seq ?_
                    refine c_reg ?_
                    refine r_u (o_mv rfl) ?_
                    refine r_u (o_nc rfl) ?_
                    refine r_u (o_fa fa144_2 rfl) ?_
                    refine r_u (o_ld 5 sc135 rfl rfl rfl) ?_
                    refine r_u (o_mv rfl) ?_
                    obtain ⟨r109, hr109, hm115⟩ := bs hm108
                    refine r_sw (s_w (o_call ca100 rfl (ring_Rings_Drop.ok b14 x13 g7 r107.1 r109 hr109))) ?_
                    rintro _ R _ _ ⟨g110, rfl, rfl, rfl⟩
                    refine r_nil ?_
                    refine x_seq ?_
                    refine c_reg ?_
                    refine r_u (o_mv rfl) ?_
                    refine r_sw (s_w (o_bsl (en := eS) (sz := 1) (e := 9) (cs := [vS r107.1]) (r := [r107.1]) rfl (fun _ => by kernel_rfl) rfl (by decide) rfl (fun _ => rfl))) ?_
                    rintro v116 R _ _ ⟨rfl, rfl⟩
                    refine r_u (o_as rfl) ?_
                    refine r_nil ?_
                    refine ex_st (fun _ h => st_pk 7 [1, 2, 3, 4, 5, 0, 6] (by decide) h) ?_
                    refine ex_st (fun _ h => st_some (f := ring_Rings.op g110) (a := r109.2) (st_star_f (A := ring_Rings.fl b14 r109.2 g110) h)) ?_
                    obtain rfl := Option.some.inj hm115
                    exact x_sub (K104 v116 (⟨(pt b14 0, g110)⟩ : arc_Arc.G)) ⟨rfl, rfl, rfl, trivial⟩ (fun _ h => st_pk 3 [2, 1, 0] (by decide) h)
                  · have hm106 := iff_ hp102 h105
                    refine c_seq ?_
                    refine c_reg ?_
                    refine r_u (o_mv rfl) ?_
                    refine r_u (o_mv rfl) ?_
                    refine r_u (o_nc rfl) ?_
                    refine r_u (o_fa fa144_0 rfl) ?_
                    refine r_u (o_ld 1 sc3 rfl rfl rfl) ?_
                    refine r_u (o_bin rfl rfl (bI_ge (i64 ((i64 ((i64 (r32 + r34)) + r36)) + r38)) p3.2.most)) ?_
                    refine r_u (o_as rfl) ?_
                    refine r_nil ?_
                    refine x_seq ?_
                    obtain ⟨p117, hp123, hm124⟩ := bs hm106
                    refine cd_cut (fun x ks => ∀ (g118 : Value), ∀ (g119 : arc_Arc.G), EX x .normal ks [(0, pt b0_ 0), (1, vS a1), (7, g118)] R (Bk b0_ 144 [vI p117.2.most, vI p117.2.target, g119.r.1] :: OwS true 9 1 eS g118 p117.1 :: rO (ring_Rings.op g119.r.2) g119.r.1 p117.2.r :: F)) ?_ fun K125 => ?_
                    · intro g118 g119
                      obtain ⟨⟨pv121, g122⟩⟩ := g119
                      obtain rfl := Option.some.inj hm124
                      exact x_sub (K104 g118 (⟨(pv121, g122)⟩ : arc_Arc.G)) ⟨rfl, rfl, rfl, trivial⟩ (fun _ h => st_pk 3 [0, 1, 2] (by decide) h)
                    · refine c_if (b := decide (p3.2.most ≤ (i64 ((i64 ((i64 (r32 + r34)) + r36)) + r38)))) rfl (fun h126 => ?_) fun h126 => ?_
                      · have hm127 := ift hp123 h126
                        refine c_seq ?_
                        refine c_seq ?_
                        refine c_reg ?_
                        refine r_u (o_mv rfl) ?_
                        refine r_u (o_mv rfl) ?_
                        refine r_u (o_nc rfl) ?_
                        refine r_u (o_fa fa144_0 rfl) ?_
                        refine r_u (o_ld 1 sc3 rfl rfl rfl) ?_
                        refine r_u (o_bin rfl rfl (bI_mul 2 p3.2.most)) ?_
                        refine r_u (o_bin rfl rfl (bI_ge (i64 ((i64 ((i64 (r32 + r34)) + r36)) + r38)) (i64 (2 * p3.2.most)))) ?_
                        refine r_nil ?_
                        refine x_seq ?_
                        obtain ⟨p128, hp133, hm134⟩ := bs hm127
                        refine cd_cut (fun x ks => ∀ (g129 : arc_Arc.G), EX x .normal ks [(0, pt b0_ 0), (1, vS a1), (7, .slice none 0 0)] R (Bk b0_ 144 [vI p128.most, vI p128.target, g129.r.1] :: rO (ring_Rings.op g129.r.2) g129.r.1 p128.r :: F)) ?_ fun K135 => ?_
                        · intro g129
                          obtain ⟨⟨pv131, g132⟩⟩ := g129
                          refine x_seq ?_
                          refine c_seq ?_
                          obtain ⟨r136, hr136, hm137⟩ := bs hm134
                          refine c_any mixed (effs := [1]) (V := []) ?_
                          refine stage_ext [(0, pt b0_ 0), (2, pt b0_ 0), (3, pt b0_ 0), (4, pt b0_ 0), (5, vI p128.most)] rfl ?_
                          refine stage rfl rfl rfl rfl [0, 1, 0, 4, 12, 28, 63] [0, 2, 3, 4, 5] [1] rfl rfl rfl (qc rfl rfl (s_u (o_mv rfl)) (qc rfl rfl (s_u (o_mv rfl)) (qc rfl rfl (s_u (o_nc rfl)) (qc rfl rfl (s_u (o_fa fa144_0 rfl)) (qc rfl rfl (s_u (o_ld 0 sc3 rfl rfl rfl)) qn))))) ?_ (fun h => absurd h (by decide))
                          refine ec (eo_c rfl (s_w (o_call ca60 rfl (arc_Arc_Len.ok b0_ p128 (⟨(pv131, g132)⟩ : arc_Arc.G) r136 hr136))) ?_) en
                          refine stage_ext [(6, vB (decide (p128.most ≤ r136)))] rfl ?_
                          refine stage rfl rfl rfl rfl [0, 1, 0, 4, 12, 28, 63] [2, 3, 4, 5, 6] [] rfl rfl rfl (qc rfl rfl (s_u (o_mv rfl)) (qc rfl rfl (s_u (o_nc rfl)) (qc rfl rfl (s_u (o_fa fa144_0 rfl)) (qc rfl rfl (s_u (o_ld 0 sc3 rfl rfl rfl)) (qc rfl rfl (s_u (o_bin rfl rfl (bI_ge r136 p128.most))) qn))))) en ?_
                          intro _
                          refine ex_sub (E' := [(0, pt b0_ 0), (1, vS a1), (7, .slice none 0 0), (137, vB (decide (p128.most ≤ r136)))]) ⟨rfl, rfl, rfl, rfl, trivial⟩ ?_
                          refine x_seq ?_
                          obtain ⟨p138, hp144, hm145⟩ := bs hm137
                          refine cd_cut (fun x ks => ∀ (g139 : Value), ∀ (g140 : arc_Arc.G), EX x .normal ks [(0, pt b0_ 0), (1, vS a1), (7, g139)] R (Bk b0_ 144 [vI p138.2.most, vI p138.2.target, g140.r.1] :: OwS true 9 1 eS g139 p138.1 :: rO (ring_Rings.op g140.r.2) g140.r.1 p138.2.r :: F)) ?_ fun K146 => ?_
                          · intro g139 g140
                            obtain ⟨⟨pv142, g143⟩⟩ := g140
                            obtain rfl := Option.some.inj hm145
                            exact x_sub (K125 g139 (⟨(pv142, g143)⟩ : arc_Arc.G)) ⟨rfl, rfl, rfl, trivial⟩ (fun _ h => st_pk 3 [0, 1, 2] (by decide) h)
                          · refine c_if (b := decide (p128.most ≤ r136)) rfl (fun h147 => ?_) fun h147 => ?_
                            · have hm148 := ift hp144 h147
                              refine c_reg ?_
                              refine r_u (o_mv rfl) ?_
                              obtain ⟨r149, hr149, hm155⟩ := bs hm148
                              refine r_sw (s_w (o_call ca98 rfl (arc_Arc_replace.ok b0_ p128 (⟨(pv131, g132)⟩ : arc_Arc.G) false r149 hr149))) ?_
                              rintro v150 R _ _ ⟨_, ⟨⟨pv153, g154⟩⟩, rfl, rfl, rfl⟩
                              refine r_u (o_as rfl) ?_
                              refine r_nil ?_
                              obtain rfl := Option.some.inj hm155
                              exact x_sub (K146 v150 (⟨(pv153, g154)⟩ : arc_Arc.G)) ⟨rfl, rfl, rfl, trivial⟩ (fun _ h => st_pk 3 [1, 0, 2] (by decide) h)
                            · have hm148 := iff_ hp144 h147
                              refine c_skip ?_
                              refine ex_st (fun _ h => st_nil (ap := true) (T := 9) (sz := 1) (en := eS) h) ?_
                              obtain rfl := Option.some.inj hm148
                              exact x_sub (K146 (.slice none 0 0) (⟨(pv131, g132)⟩ : arc_Arc.G)) ⟨rfl, rfl, rfl, trivial⟩ (fun _ h => st_pk 3 [1, 0, 2] (by decide) h)
                        · refine c_if (b := decide ((i64 (2 * p3.2.most)) ≤ (i64 ((i64 ((i64 (r32 + r34)) + r36)) + r38)))) rfl (fun h156 => ?_) fun h156 => ?_
                          · have hm157 := ift hp133 h156
                            refine c_reg ?_
                            refine r_u (o_mv rfl) ?_
                            refine rl_st (fun _ h => st_pk 6 [0, 2, 3, 4, 5, 1] (by decide) h) ?_
                            refine rl_st (fun _ h => st_some (f := ring_Rings.op g7) (a := x13) (st_star_f (A := ring_Rings.fl b14 x13 g7) h)) ?_
                            obtain ⟨r158, hr158, hm163⟩ := bs hm157
                            refine rl_st (fun _ h => st_pk 2 [1, 0] (by decide) h) ?_
                            refine r_sw (s_w (o_call ca108 rfl (arc_Arc_forget.ok b0_ (⟨p3.2.most, p3.2.target, (some x13)⟩ : arc_Arc) (⟨(pt b14 0, g7)⟩ : arc_Arc.G) 3 r158 hr158))) ?_
                            rintro _ R _ _ ⟨⟨⟨pv161, g162⟩⟩, rfl, rfl, rfl⟩
                            refine r_nil ?_
                            obtain rfl := Option.some.inj hm163
                            exact x_sub (K135 (⟨(pv161, g162)⟩ : arc_Arc.G)) ⟨rfl, rfl, rfl, trivial⟩ (fun _ h => st_pk 2 [0, 1] (by decide) h)
                          · have hm157 := iff_ hp133 h156
                            refine c_skip ?_
                            refine ex_st (fun _ h => st_pk 6 [0, 2, 3, 4, 5, 1] (by decide) h) ?_
                            refine ex_st (fun _ h => st_some (f := ring_Rings.op g7) (a := x13) (st_star_f (A := ring_Rings.fl b14 x13 g7) h)) ?_
                            obtain rfl := Option.some.inj hm157
                            exact x_sub (K135 (⟨(pt b14 0, g7)⟩ : arc_Arc.G)) ⟨rfl, rfl, rfl, trivial⟩ (fun _ h => st_pk 2 [1, 0] (by decide) h)
                      · have hm127 := iff_ hp123 h126
                        refine c_skip ?_
                        refine ex_st (fun _ h => st_nil (ap := true) (T := 9) (sz := 1) (en := eS) h) ?_
                        refine ex_st (fun _ h => st_pk 7 [1, 3, 4, 5, 6, 0, 2] (by decide) h) ?_
                        refine ex_st (fun _ h => st_some (f := ring_Rings.op g7) (a := x13) (st_star_f (A := ring_Rings.fl b14 x13 g7) h)) ?_
                        obtain rfl := Option.some.inj hm127
                        exact x_sub (K125 (.slice none 0 0) (⟨(pt b14 0, g7)⟩ : arc_Arc.G)) ⟨rfl, rfl, rfl, trivial⟩ (fun _ h => st_pk 3 [2, 1, 0] (by decide) h)
          · refine cd_by (decide (p3.2.most ≤ (i64 (r32 + r34)))) (fun h164 => ?_) fun h164 => ?_
            · have hm165 := ift hp41 h164
              refine c_any mixed (effs := [11]) (V := []) ?_
              refine stage_ext [(0, vI (i64 (r32 + r34))), (1, pt b0_ 0), (2, pt b0_ 0), (3, pt b0_ 0), (4, vI p3.2.most), (5, vB (decide (p3.2.most ≤ (i64 (r32 + r34))))), (6, vB (decide (p3.2.most ≤ (i64 (r32 + r34))))), (7, pt b0_ 0), (8, pt b0_ 0), (9, pt b0_ 2), (10, pt b14 0), (12, pt b0_ 0), (13, pt b0_ 0), (14, pt b0_ 0), (15, vI p3.2.most)] rfl ?_
              refine stage rfl rfl rfl rfl [0, 0, 2, 6, 14, 31, 63, 127, 255, 511, 1023, 2047, 127, 4223, 12415, 28799, 65535, 131071, 262143] [0, 1, 2, 3, 4, 5, 6, 7, 8, 9, 10, 12, 13, 14, 15] [11] rfl rfl rfl (qc rfl rfl (s_u (o_mv rfl)) (qc rfl rfl (s_u (o_mv rfl)) (qc rfl rfl (s_u (o_nc rfl)) (qc rfl rfl (s_u (o_fa fa144_0 rfl)) (qc rfl rfl (s_u (o_ld 5 sc3 rfl rfl rfl)) (qc rfl rfl (s_u (o_bin rfl rfl (bI_ge (i64 (r32 + r34)) p3.2.most))) (qc rfl rfl (s_u (o_mv rfl)) (qc rfl rfl (s_y rfl rfl h164 (o_mv rfl)) (qc rfl rfl (s_y rfl rfl h164 (o_nc rfl)) (qc rfl rfl (s_y rfl rfl h164 (o_fa fa144_2 rfl)) (qc rfl rfl (s_y rfl rfl h164 (o_ld 5 sc135 rfl rfl rfl)) (qc rfl rfl (s_y rfl rfl h164 (o_mv rfl)) (qc rfl rfl (s_y rfl rfl h164 (o_nc rfl)) (qc rfl rfl (s_y rfl rfl h164 (o_fa fa144_0 rfl)) (qc rfl rfl (s_y rfl rfl h164 (o_ld 5 sc3 rfl rfl rfl)) qn))))))))))))))) ?_ (fun h => absurd h (by decide))
              refine ec (eo_c rfl (s_yw rfl rfl h164 (o_call ca104 rfl (ring_Rings_Len.ok b14 x13 g7 0 r32 hr32))) ?_) en
              refine stage_ext [(16, vB (decide (r32 < p3.2.most))), (17, vB (decide (r32 < p3.2.most))), (18, vB (decide (r32 < p3.2.most)))] rfl ?_
              refine stage rfl rfl rfl rfl [0, 0, 2, 6, 14, 31, 63, 127, 255, 511, 1023, 2047, 127, 4223, 12415, 28799, 65535, 131071, 262143] [12, 13, 14, 15, 16, 17, 18] [] rfl rfl rfl (qc rfl rfl (s_y rfl rfl h164 (o_mv rfl)) (qc rfl rfl (s_y rfl rfl h164 (o_nc rfl)) (qc rfl rfl (s_y rfl rfl h164 (o_fa fa144_0 rfl)) (qc rfl rfl (s_y rfl rfl h164 (o_ld 5 sc3 rfl rfl rfl)) (qc rfl rfl (s_y rfl rfl h164 (o_bin rfl rfl (bI_lt r32 p3.2.most))) (qc rfl rfl (s_u (o_pt rfl h164 rfl)) (qc rfl rfl (s_u (o_as rfl)) qn))))))) en ?_
              intro _
              refine ex_sub (E' := [(0, pt b0_ 0), (1, vS a1), (7, .slice none 0 0), (8, vI (i64 (r32 + r34))), (9, vI (i64 ((i64 ((i64 (r32 + r34)) + r36)) + r38))), (62, vB (decide (r32 < p3.2.most)))]) ⟨rfl, rfl, rfl, rfl, rfl, rfl, trivial⟩ ?_
              obtain rfl := Option.some.inj hm165
              exact x_sub K43 ⟨rfl, rfl, rfl, rfl, rfl, rfl, trivial⟩ (fun _ h => st_pk 6 [0, 5, 1, 2, 3, 4] (by decide) h)
            · have hm165 := iff_ hp41 h164
              refine c_any mixed (effs := []) (V := []) ?_
              refine stage_ext [(0, vI (i64 (r32 + r34))), (1, pt b0_ 0), (2, pt b0_ 0), (3, pt b0_ 0), (4, vI p3.2.most), (5, vB (decide (p3.2.most ≤ (i64 (r32 + r34))))), (6, vB (decide (p3.2.most ≤ (i64 (r32 + r34))))), (7, undef), (8, undef), (9, undef), (10, undef), (11, undef), (12, undef), (13, undef), (14, undef), (15, undef), (16, undef), (17, vB false), (18, vB false)] rfl ?_
              refine stage rfl rfl rfl rfl [0, 0, 2, 6, 14, 31, 63, 127, 255, 511, 1023, 2047, 127, 4223, 12415, 28799, 65535, 131071, 262143] [0, 1, 2, 3, 4, 5, 6, 7, 8, 9, 10, 11, 12, 13, 14, 15, 16, 17, 18] [] rfl rfl rfl (qc rfl rfl (s_u (o_mv rfl)) (qc rfl rfl (s_u (o_mv rfl)) (qc rfl rfl (s_u (o_nc rfl)) (qc rfl rfl (s_u (o_fa fa144_0 rfl)) (qc rfl rfl (s_u (o_ld 5 sc3 rfl rfl rfl)) (qc rfl rfl (s_u (o_bin rfl rfl (bI_ge (i64 (r32 + r34)) p3.2.most))) (qc rfl rfl (s_u (o_mv rfl)) (qc rfl rfl (s_n rfl rfl h164) (qc rfl rfl (s_n rfl rfl h164) (qc rfl rfl (s_n rfl rfl h164) (qc rfl rfl (s_n rfl rfl h164) (qc rfl rfl (s_n rfl rfl h164) (qc rfl rfl (s_n rfl rfl h164) (qc rfl rfl (s_n rfl rfl h164) (qc rfl rfl (s_n rfl rfl h164) (qc rfl rfl (s_n rfl rfl h164) (qc rfl rfl (s_n rfl rfl h164) (qc rfl rfl (s_u (o_pf rfl h164 rfl)) (qc rfl rfl (s_u (o_as rfl)) qn))))))))))))))))))) en ?_
              intro _
              refine ex_sub (E' := [(0, pt b0_ 0), (1, vS a1), (7, .slice none 0 0), (8, vI (i64 (r32 + r34))), (9, vI (i64 ((i64 ((i64 (r32 + r34)) + r36)) + r38))), (62, vB false)]) ⟨rfl, rfl, rfl, rfl, rfl, rfl, trivial⟩ ?_
              obtain rfl := Option.some.inj hm165
              exact x_sub K43 ⟨rfl, rfl, rfl, rfl, rfl, rfl, trivial⟩ (fun _ h => st_pk 6 [0, 5, 1, 2, 3, 4] (by decide) h)
  · refine cd_by (decide (64 < (a1.length : Int))) (fun h166 => ?_) fun h166 => ?_
    · have hm167 := ift hp8 h166
      refine c_reg ?_
      refine r_u (o_mv rfl) ?_
      refine r_u (o_bin rfl rfl (bP_eqp Try.underlying102)) ?_
      refine r_u (o_mv rfl) ?_
      refine r_s (s_y rfl rfl rfl (o_mv rfl)) ?_
      refine r_s (s_y rfl rfl rfl (o_lenS Try.underlying9 rfl)) ?_
      refine r_s (s_y rfl rfl rfl (o_bin rfl rfl (bI_gt (a1.length : Int) 64))) ?_
      refine r_u (o_pf rfl rfl rfl) ?_
      refine r_u (o_mv rfl) ?_
      refine r_s (s_n rfl rfl h166) ?_
      refine r_s (s_n rfl rfl h166) ?_
      refine r_s (s_n rfl rfl h166) ?_
      refine r_u (o_pt rfl h166 rfl) ?_
      refine r_nil ?_
      obtain rfl := Option.some.inj hm167
      exact x_sub (K10 (⟨(pv1, g2)⟩ : arc_Arc.G)) ⟨rfl, rfl, rfl, trivial⟩ (fun _ h => st_pk 2 [0, 1] (by decide) h)
    · have hm167 := iff_ hp8 h166
      refine c_reg ?_
      refine r_u (o_mv rfl) ?_
      refine r_u (o_bin rfl rfl (bP_eqp Try.underlying102)) ?_
      refine r_u (o_mv rfl) ?_
      refine r_s (s_y rfl rfl rfl (o_mv rfl)) ?_
      refine r_s (s_y rfl rfl rfl (o_lenS Try.underlying9 rfl)) ?_
      refine r_s (s_y rfl rfl rfl (o_bin rfl rfl (bI_gt (a1.length : Int) 64))) ?_
      refine r_u (o_pf rfl rfl rfl) ?_
      refine r_u (o_mv rfl) ?_
      refine r_s (s_y rfl rfl h166 (o_mv rfl)) ?_
      refine r_s (s_y rfl rfl h166 (o_mv rfl)) ?_
      obtain ⟨r168, hr168, hm173⟩ := bs hm167
      refine r_sw (s_yw rfl rfl h166 (o_call ca62 rfl (arc_Arc_Touch.ok b0_ a0 (⟨(pv1, g2)⟩ : arc_Arc.G) a1 r168 hr168))) ?_
      rintro _ R _ _ ⟨⟨⟨pv171, g172⟩⟩, rfl, rfl, rfl⟩
      refine r_u (o_pf rfl h166 rfl) ?_
      refine r_nil ?_
      obtain rfl := Option.some.inj hm173
      exact x_sub (K10 (⟨(pv171, g172)⟩ : arc_Arc.G)) ⟨rfl, rfl, rfl, trivial⟩ (fun _ h => st_pk 2 [0, 1] (by decide) h)

def tiny_Tiny_Has (a0 : tiny_Tiny) (a1 : Str) : Option Bool :=
  om a0.r (none) fun x6 => (ring_Rings_In x6 a1).bind fun r14 => some r14.2
theorem tiny_Tiny_Has.ok {G R F} (b0_ : Nat) (a0 : tiny_Tiny) (g0_ : tiny_Tiny.G) (a1 : Str) (r : Bool) (hm : tiny_Tiny_Has a0 a1 = some r) : CO Try.prog 53 [pt b0_ 0, vS a1] G R (Bk b0_ 137 [vI a0.most, g0_.s.1, g0_.r.1] :: rO (sketch_Sketch.op g0_.s.2) g0_.s.1 a0.s :: rO (ring_Rings.op g0_.r.2) g0_.r.1 a0.r :: F)
    (Ret fun u R' L' => u = vB r ∧ R' = R ∧ L' = Bk b0_ 137 [vI a0.most, g0_.s.1, g0_.r.1] :: rO (sketch_Sketch.op g0_.s.2) g0_.s.1 a0.s :: rO (ring_Rings.op g0_.r.2) g0_.r.1 a0.r :: F) := by
  obtain ⟨⟨pv1, g2⟩, ⟨pv4, g5⟩⟩ := g0_
  unfold tiny_Tiny_Has at hm
  refine co_ofN (N := 19) Try.func53 rfl rfl ?_
  refine c_seq ?_
  refine c_reg ?_
  refine r_u (o_as rfl) ?_
  refine r_nil ?_
  refine x_seq ?_
  refine c_seq ?_
  refine c_seq ?_
  refine c_reg ?_
  refine r_u (o_mv rfl) ?_
  refine r_u (o_bin rfl rfl (bP_eqp Try.underlying103)) ?_
  refine r_nil ?_
  refine x_seq ?_
  refine c_ff rfl ?_
  refine c_skip ?_
  refine x_seq ?_
  refine c_seq ?_
  refine cd_st (fun _ h => st_pk 3 [2, 0, 1] (by decide) h) ?_
  refine cd_opt (fun ho8 => ?_) (fun x6 b7 ho8 => ?_)
  · rintro rfl
    have hm9 := om_n hm ho8
    cases hm9
  · rintro rfl
    have hm9 := om_s hm ho8
    refine cd_st (fun _ h => st_star_o h) ?_
    refine c_reg ?_
    refine r_u (o_mv rfl) ?_
    refine r_u (o_nc rfl) ?_
    refine r_u (o_fa fa137_2 rfl) ?_
    refine r_u (o_ld 5 sc135 rfl rfl rfl) ?_
    refine r_u (o_mv rfl) ?_
    obtain ⟨r14, hr14, hm15⟩ := bs hm9
    refine r_c (s_w (o_call ca96 rfl (ring_Rings_In.ok b7 x6 g5 a1 r14 hr14))) ?_
    refine r_u (o_mv rfl) ?_
    refine r_u (o_ext rfl rfl) ?_
    refine r_u (o_ext rfl rfl) ?_
    refine r_u (o_as rfl) ?_
    refine r_u (o_as rfl) ?_
    refine r_nil ?_
    refine x_seq ?_
    refine c_seq ?_
    refine c_reg ?_
    refine r_u (o_mv rfl) ?_
    refine r_u (o_as rfl) ?_
    refine r_nil ?_
    refine x_seq ?_
    refine c_ret ?_
    refine ex_st (fun _ h => st_some (f := ring_Rings.op g5) (a := x6) (st_star_f (A := ring_Rings.fl b7 x6 g5) h)) ?_
    refine ex_st (fun _ h => st_back ho8 h) ?_
    obtain rfl := Option.some.inj hm15
    refine ex_st (fun _ h => st_pk 3 [1, 2, 0] (by decide) h) ?_
    exact x_r1 rfl (rv_t rfl) (Le.refl _) ⟨_, rfl, rfl, rfl, rfl⟩

def bits_RotateLeft64 (a0 : UInt64) (a1 : Int) : UInt64 :=
  (shWl a0 (((toW a1) &&& 63).toNat : Int)) ||| (shWr a0 ((64 - ((toW a1) &&& 63)).toNat : Int))
theorem bits_RotateLeft64.ok {G R F} (a0 : UInt64) (a1 : Int) (r : UInt64) (hm : bits_RotateLeft64 a0 a1 = r) : CO Try.prog 134 [vW a0, vI a1] G R (F)
    (Ret fun u R' L' => u = vW r ∧ R' = R ∧ L' = F) := by
  unfold bits_RotateLeft64 at hm
  refine co_ofN (N := 17) Try.func134 rfl rfl ?_
  refine c_seq ?_
  refine c_reg ?_
  refine r_u (o_as rfl) ?_
  refine r_nil ?_
  refine x_seq ?_
  refine c_seq ?_
  refine c_reg ?_
  refine r_u (o_mv rfl) ?_
  refine r_u (o_cv rfl (cIW Try.underlying3 Try.underlying131 a1)) ?_
  refine r_u (o_bin rfl rfl (bW_and (toW a1) 63)) ?_
  refine r_u (o_as rfl) ?_
  refine r_nil ?_
  refine x_seq ?_
  refine c_seq ?_
  refine c_reg ?_
  refine r_u (o_mv rfl) ?_
  refine r_u (o_mv rfl) ?_
  refine r_u (o_bin rfl rfl (bWW_shl a0 ((toW a1) &&& 63))) ?_
  refine r_u (o_mv rfl) ?_
  refine r_u (o_mv rfl) ?_
  refine r_u (o_bin rfl rfl (bW_sub 64 ((toW a1) &&& 63))) ?_
  refine r_u (o_bin rfl rfl (bWW_shr a0 (64 - ((toW a1) &&& 63)))) ?_
  refine r_u (o_bin rfl rfl (bW_or (shWl a0 (((toW a1) &&& 63).toNat : Int)) (shWr a0 ((64 - ((toW a1) &&& 63)).toNat : Int)))) ?_
  refine r_u (o_as rfl) ?_
  refine r_nil ?_
  refine x_seq ?_
  refine c_ret ?_
  subst hm
  exact x_r1 rfl (rv_t rfl) (Le.refl _) ⟨_, rfl, rfl, rfl, rfl⟩

def mix_Mix (a0 : UInt64) : UInt64 :=
  ((bits_RotateLeft64 ((a0 ^^^ (shWr a0 ((32 : UInt64).toNat : Int))) * 11400714819323198485) 29) * 11400714819323198485) ^^^ (shWr ((bits_RotateLeft64 ((a0 ^^^ (shWr a0 ((32 : UInt64).toNat : Int))) * 11400714819323198485) 29) * 11400714819323198485) ((32 : UInt64).toNat : Int))
theorem mix_Mix.ok {G R F} (a0 : UInt64) (r : UInt64) (hm : mix_Mix a0 = r) : CO Try.prog 133 [vW a0] G R (F)
    (Ret fun u R' L' => u = vW r ∧ R' = R ∧ L' = F) := by
  unfold mix_Mix at hm
  refine co_ofN (N := 17) Try.func133 rfl rfl ?_
  refine c_seq ?_
  refine c_reg ?_
  refine r_u (o_as rfl) ?_
  refine r_nil ?_
  refine x_seq ?_
  refine c_seq ?_
  refine c_reg ?_
  refine r_u (o_mv rfl) ?_
  refine r_u (o_mv rfl) ?_
  refine r_u (o_bin rfl rfl (bWW_shr a0 32)) ?_
  refine r_u (o_bin rfl rfl (bW_xor a0 (shWr a0 ((32 : UInt64).toNat : Int)))) ?_
  refine r_u (o_as rfl) ?_
  refine r_nil ?_
  refine x_seq ?_
  refine c_seq ?_
  refine c_reg ?_
  refine r_u (o_mv rfl) ?_
  refine r_u (o_bin rfl rfl (bW_mul (a0 ^^^ (shWr a0 ((32 : UInt64).toNat : Int))) 11400714819323198485)) ?_
  refine r_u (o_as rfl) ?_
  refine r_nil ?_
  refine x_seq ?_
  refine c_seq ?_
  refine c_reg ?_
  refine r_u (o_mv rfl) ?_
  refine r_u (o_callq ca134 rfl (bits_RotateLeft64.ok ((a0 ^^^ (shWr a0 ((32 : UInt64).toNat : Int))) * 11400714819323198485) 29 _ rfl)) ?_
  refine r_u (o_as rfl) ?_
  refine r_nil ?_
  refine x_seq ?_
  refine c_seq ?_
  refine c_reg ?_
  refine r_u (o_mv rfl) ?_
  refine r_u (o_bin rfl rfl (bW_mul (bits_RotateLeft64 ((a0 ^^^ (shWr a0 ((32 : UInt64).toNat : Int))) * 11400714819323198485) 29) 11400714819323198485)) ?_
  refine r_u (o_as rfl) ?_
  refine r_nil ?_
  refine x_seq ?_
  refine c_seq ?_
  refine c_reg ?_
  refine r_u (o_mv rfl) ?_
  refine r_u (o_mv rfl) ?_
  refine r_u (o_bin rfl rfl (bWW_shr ((bits_RotateLeft64 ((a0 ^^^ (shWr a0 ((32 : UInt64).toNat : Int))) * 11400714819323198485) 29) * 11400714819323198485) 32)) ?_
  refine r_u (o_bin rfl rfl (bW_xor ((bits_RotateLeft64 ((a0 ^^^ (shWr a0 ((32 : UInt64).toNat : Int))) * 11400714819323198485) 29) * 11400714819323198485) (shWr ((bits_RotateLeft64 ((a0 ^^^ (shWr a0 ((32 : UInt64).toNat : Int))) * 11400714819323198485) 29) * 11400714819323198485) ((32 : UInt64).toNat : Int)))) ?_
  refine r_u (o_as rfl) ?_
  refine r_nil ?_
  refine x_seq ?_
  refine c_ret ?_
  subst hm
  exact x_r1 rfl (rv_t rfl) (Le.refl _) ⟨_, rfl, rfl, rfl, rfl⟩

def mix_Of_l1 (a1 : Str) : Nat → UInt64 → Int → Option (UInt64)
  | 0, _, _ => none
  | k9 + 1, h_7, s_8 => if decide (s_8 < (a1.length : Int)) then (gi a1 s_8).bind fun x14 => mix_Of_l1 a1 k9 ((h_7 ^^^ x14.toUInt64) * 1099511628211) (i64 (s_8 + 1)) else some h_7
def mix_Of (a0 : UInt64) (a1 : Str) : Option UInt64 :=
  if a1.length ≤ maxLen then Option.bind (mix_Of_l1 a1 (((a1.length : Int) - 0).toNat + 1) (14695981039346656037 ^^^ (mix_Mix a0)) 0) fun p3 => some (mix_Mix (p3 ^^^ (toW (a1.length : Int)))) else none
theorem mix_Of.ok {G R F} (a0 : UInt64) (a1 : Str) (r : UInt64) (hm : mix_Of a0 a1 = some r) : CO Try.prog 129 [vW a0, vS a1] G R (F)
    (Ret fun u R' L' => u = vW r ∧ R' = R ∧ L' = F) := by
  unfold mix_Of at hm
  refine co_ofN (N := 30) Try.func129 rfl rfl ?_
  refine c_seq ?_
  refine c_reg ?_
  refine r_u (o_as rfl) ?_
  refine r_nil ?_
  refine x_seq ?_
  refine c_seq ?_
  refine c_reg ?_
  refine r_u (o_mv rfl) ?_
  refine r_u (o_callq ca133 rfl (mix_Mix.ok a0 _ rfl)) ?_
  refine r_u (o_bin rfl rfl (bW_xor 14695981039346656037 (mix_Mix a0))) ?_
  refine r_u (o_as rfl) ?_
  refine r_nil ?_
  refine x_seq ?_
  refine c_seq ?_
  refine c_seq ?_
  refine c_reg ?_
  refine r_u (o_mv rfl) ?_
  obtain ⟨h0, hm2⟩ := ig hm
  refine r_sw (s_w (o_sb Try.underlying9 Try.underlying45 Try.underlying5 rfl h0)) ?_
  rintro v1 R _ _ ⟨rfl, rfl⟩
  refine r_u (o_lenO 0 Try.underlying45 rfl rfl) ?_
  refine r_u (o_mv rfl) ?_
  refine r_nil ?_
  refine x_seq ?_
  obtain ⟨p3, hp4, hm5⟩ := bs hm2
  refine cd_join (E' := [(1, vS a1), (5, vW p3)]) (L' := OwS false 5 1 eY v1 a1 :: F) ?_ fun K6 => ?_
  · refine x_seq ?_
    refine c_seq ?_
    refine c_reg ?_
    refine r_u (o_mv rfl) ?_
    refine r_u (o_mv rfl) ?_
    refine r_u (o_lenS Try.underlying9 rfl) ?_
    refine r_u (o_cv rfl (cIW Try.underlying3 Try.underlying22 (a1.length : Int))) ?_
    refine r_u (o_bin rfl rfl (bW_xor p3 (toW (a1.length : Int)))) ?_
    refine r_u (o_callq ca133 rfl (mix_Mix.ok (p3 ^^^ (toW (a1.length : Int))) _ rfl)) ?_
    refine r_u (o_as rfl) ?_
    refine r_nil ?_
    refine x_seq ?_
    refine c_ret ?_
    obtain rfl := Option.some.inj hm5
    refine ex_st (fun _ h => st_pk 1 [] (by decide) h) ?_
    exact x_r1 rfl (rv_t rfl) (Le.refl _) ⟨_, rfl, rfl, rfl, rfl⟩
  · refine c_blk ?_
    refine cd_loop (M := fun k9 (s : UInt64 × Int) => mix_Of_l1 a1 k9 s.1 s.2 = some p3) (Ef := fun (s : UInt64 × Int) => [(1, vS a1), (12, v1), (13, vI (a1.length : Int)), (5, vW s.1), (14, vI s.2)]) (Lf := fun (s : UInt64 × Int) => OwS false 5 1 eY v1 a1 :: F) (((a1.length : Int) - 0).toNat + 1) (14695981039346656037 ^^^ (mix_Mix a0), 0) hp4 ⟨rfl, rfl, rfl, rfl, rfl, trivial⟩ (fun _ h => h) (fun _ h => by cases h) fun k9 s hM11 => ?_
    obtain ⟨h_7, s_8⟩ := s
    have hm10 : mix_Of_l1 a1 (k9 + 1) h_7 s_8 = some p3 := hM11
    rw [mix_Of_l1] at hm10
    refine c_seq ?_
    refine c_reg ?_
    refine r_u (o_bin rfl rfl (bI_lt s_8 (a1.length : Int))) ?_
    refine r_nil ?_
    refine x_seq ?_
    refine c_seq ?_
    refine c_if (b := decide (s_8 < (a1.length : Int))) rfl (fun h12 => ?_) fun h12 => ?_
    · have hm13 := ift hm10 h12
      refine c_skip ?_
      refine x_seq ?_
      refine c_seq ?_
      refine c_blk ?_
      refine c_seq ?_
      refine c_reg ?_
      obtain ⟨x14, hx14, hm15⟩ := bs hm13
      refine r_u (o_ixO 0 Try.underlying45 (fun _ => by kernel_rfl) rfl rfl rfl hx14) ?_
      refine r_u (o_ldO0 0 sc5 rfl rfl hx14 rfl rfl) ?_
      refine r_u (o_as rfl) ?_
      refine r_nil ?_
      refine x_seq ?_
      refine c_reg ?_
      refine r_u (o_mv rfl) ?_
      refine r_u (o_mv rfl) ?_
      refine r_u (o_cv rfl (cYW Try.underlying5 Try.underlying22 x14)) ?_
      refine r_u (o_bin rfl rfl (bW_xor h_7 x14.toUInt64)) ?_
      refine r_u (o_bin rfl rfl (bW_mul (h_7 ^^^ x14.toUInt64) 1099511628211)) ?_
      refine r_u (o_as rfl) ?_
      refine r_nil ?_
      refine x_blk ?_
      refine x_seq ?_
      refine c_reg ?_
      refine r_u (o_bin rfl rfl (bI_add s_8 1)) ?_
      refine r_u (o_mv rfl) ?_
      refine r_nil ?_
      exact x_lp ((h_7 ^^^ x14.toUInt64) * 1099511628211, i64 (s_8 + 1)) hm15 ⟨rfl, rfl, rfl, rfl, rfl, trivial⟩ (fun _ h => st_pk 1 [0] (by decide) h)
    · have hm13 := iff_ hm10 h12
      refine c_exit (x_exit (ks' := _) rfl ?_)
      obtain rfl := Option.some.inj hm13
      exact x_sub K6 ⟨rfl, rfl, trivial⟩ (fun _ h => st_pk 1 [0] (by decide) h)

end Go.Proofs.Ythngfieikhillaa
