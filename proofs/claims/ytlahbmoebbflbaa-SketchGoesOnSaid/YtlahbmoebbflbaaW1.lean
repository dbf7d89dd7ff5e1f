import Derived.Test.YtlahbmoebbflbaaW0
import Derived.Test.YtlahbmoebbflbaaFacts
import Derived.Test.YtlahbmoebbflbaaHwT
set_option linter.unusedVariables false
set_option linter.unusedSectionVars false
set_option linter.unusedSimpArgs false
set_option maxRecDepth 100000
set_option maxHeartbeats 8000000
namespace Go.Proofs.Ytlahbmoebbflbaa
open Go Go.Proofs.Ytlahbmoebbflbaa.Hw
def hawthornlaw05_awake_l1  : Nat → (Option sketch_Sketch) → Int → Option (Option sketch_Sketch)
  | 0, _, _ => none
  | k31 + 1, s_26, i_27 => if decide (i_27 < 3) then om s_26 (none) fun x36 => (sketch_Sketch_Add x36 [107, 101, 121]).bind fun r42 => hawthornlaw05_awake_l1 k31 (some r42) (i64 (i_27 + 1)) else some s_26
def hawthornlaw05_awake  : Option Bool :=
  (sketch_New 64 1).bind fun r0 => Option.bind (hawthornlaw05_awake_l1 4 r0.1 0) fun p5 => om p5 (none) fun x12 => if (r0.2 == 0) then (sketch_Sketch_Seen x12 [107, 101, 121]).bind fun r20 => if (r20 == 3) then if ((sketch_Sketch_Added x12) == 3) then some ((sketch_Sketch_Wide x12) == 64) else some false else some false else some false
theorem hawthornlaw05_awake.ok {G R F} (r : Bool) (hm : hawthornlaw05_awake = some r) : CO Try.prog 13 [] G R (F)
    (Ret fun u R' L' => u = vB r ∧ R' = R ∧ L' = F) := by
  unfold hawthornlaw05_awake at hm
  refine co_ofN (N := 31) Try.func13 rfl rfl ?_
  refine c_seq ?_
  refine c_reg ?_
  refine r_u (o_as rfl) ?_
  refine r_nil ?_
  refine x_seq ?_
  refine c_seq ?_
  refine c_reg ?_
  obtain ⟨r0, hr0, hm4⟩ := bs hm
  refine r_sw (s_w (o_call ca12 rfl (sketch_New.ok 64 1 r0 hr0))) ?_
  rintro _ R _ _ ⟨⟨pv2, g3⟩, rfl, rfl, rfl⟩
  refine r_u (o_mv rfl) ?_
  refine r_u (o_ext rfl rfl) ?_
  refine r_u (o_ext rfl rfl) ?_
  refine r_u (o_as rfl) ?_
  refine r_u (o_as rfl) ?_
  refine r_nil ?_
  refine x_seq ?_
  refine c_seq ?_
  refine c_seq ?_
  refine c_reg ?_
  refine r_u (o_as rfl) ?_
  refine r_nil ?_
  refine x_seq ?_
  obtain ⟨p5, hp9, hm10⟩ := bs hm4
  refine cd_cut (fun x ks => ∀ (pv6 : Value × sketch_Sketch.G), EX x .normal ks [(2, vI r0.2), (1, pv6.1)] R (rO (sketch_Sketch.op pv6.2) pv6.1 p5 :: F)) ?_ fun K11 => ?_
  · intro pv6
    obtain ⟨pv7, g8⟩ := pv6
    refine x_seq ?_
    refine c_seq ?_
    refine cd_opt (fun ho14 => ?_) (fun x12 b13 ho14 => ?_)
    · rintro rfl
      have hm15 := om_n hm10 ho14
      cases hm15
    · rintro rfl
      have hm15 := om_s hm10 ho14
      refine cd_st (fun _ h => st_star_o h) ?_
      refine cd_by (r0.2 == 0) (fun h18 => ?_) fun h18 => ?_
      · have hm19 := ift hm15 h18
        obtain ⟨r20, hr20, hm21⟩ := bs hm19
        refine cd_by (r20 == 3) (fun h22 => ?_) fun h22 => ?_
        · have hm23 := ift hm21 h22
          refine cd_by ((sketch_Sketch_Added x12) == 3) (fun h24 => ?_) fun h24 => ?_
          · have hm25 := ift hm23 h24
            refine c_reg ?_
            refine r_u (o_mv rfl) ?_
            refine r_u (o_bin rfl rfl (bI_eq r0.2 0)) ?_
            refine r_u (o_mv rfl) ?_
            refine r_s (s_y rfl rfl h18 (o_mv rfl)) ?_
            refine r_c (s_yw rfl rfl h18 (o_call ca16 rfl (sketch_Sketch_Seen.ok b13 x12 g8 [107, 101, 121] r20 hr20))) ?_
            refine r_s (s_y rfl rfl h18 (o_bin rfl rfl (bI_eq r20 3))) ?_
            refine r_u (o_pt rfl h18 rfl) ?_
            refine r_u (o_mv rfl) ?_
            refine r_s (s_y rfl rfl h22 (o_mv rfl)) ?_
            refine r_c (s_yw rfl rfl h22 (o_call ca20 rfl (sketch_Sketch_Added.ok b13 x12 g8 _ rfl))) ?_
            refine r_s (s_y rfl rfl h22 (o_bin rfl rfl (bI_eq (sketch_Sketch_Added x12) 3))) ?_
            refine r_u (o_pt rfl h22 rfl) ?_
            refine r_u (o_mv rfl) ?_
            refine r_s (s_y rfl rfl h24 (o_mv rfl)) ?_
            refine r_c (s_yw rfl rfl h24 (o_call ca25 rfl (sketch_Sketch_Wide.ok b13 x12 g8 _ rfl))) ?_
            refine r_s (s_y rfl rfl h24 (o_bin rfl rfl (bI_eq (sketch_Sketch_Wide x12) 64))) ?_
            refine r_u (o_pt rfl h24 rfl) ?_
            refine r_u (o_as rfl) ?_
            refine r_nil ?_
            refine x_seq ?_
            refine c_ret ?_
            obtain rfl := Option.some.inj hm25
            refine ex_st (fun _ h => st_pk 3 [] (by decide) h) ?_
            exact x_r1 rfl (rv_t rfl) (Le.refl _) ⟨_, rfl, rfl, rfl, rfl⟩
          · have hm25 := iff_ hm23 h24
            refine c_reg ?_
            refine r_u (o_mv rfl) ?_
            refine r_u (o_bin rfl rfl (bI_eq r0.2 0)) ?_
            refine r_u (o_mv rfl) ?_
            refine r_s (s_y rfl rfl h18 (o_mv rfl)) ?_
            refine r_c (s_yw rfl rfl h18 (o_call ca16 rfl (sketch_Sketch_Seen.ok b13 x12 g8 [107, 101, 121] r20 hr20))) ?_
            refine r_s (s_y rfl rfl h18 (o_bin rfl rfl (bI_eq r20 3))) ?_
            refine r_u (o_pt rfl h18 rfl) ?_
            refine r_u (o_mv rfl) ?_
            refine r_s (s_y rfl rfl h22 (o_mv rfl)) ?_
            refine r_c (s_yw rfl rfl h22 (o_call ca20 rfl (sketch_Sketch_Added.ok b13 x12 g8 _ rfl))) ?_
            refine r_s (s_y rfl rfl h22 (o_bin rfl rfl (bI_eq (sketch_Sketch_Added x12) 3))) ?_
            refine r_u (o_pt rfl h22 rfl) ?_
            refine r_u (o_mv rfl) ?_
            refine r_s (s_n rfl rfl h24) ?_
            refine r_s (s_n rfl rfl h24) ?_
            refine r_s (s_n rfl rfl h24) ?_
            refine r_u (o_pf rfl h24 rfl) ?_
            refine r_u (o_as rfl) ?_
            refine r_nil ?_
            refine x_seq ?_
            refine c_ret ?_
            obtain rfl := Option.some.inj hm25
            refine ex_st (fun _ h => st_pk 3 [] (by decide) h) ?_
            exact x_r1 rfl (rv_t rfl) (Le.refl _) ⟨_, rfl, rfl, rfl, rfl⟩
        · have hm23 := iff_ hm21 h22
          refine c_reg ?_
          refine r_u (o_mv rfl) ?_
          refine r_u (o_bin rfl rfl (bI_eq r0.2 0)) ?_
          refine r_u (o_mv rfl) ?_
          refine r_s (s_y rfl rfl h18 (o_mv rfl)) ?_
          refine r_c (s_yw rfl rfl h18 (o_call ca16 rfl (sketch_Sketch_Seen.ok b13 x12 g8 [107, 101, 121] r20 hr20))) ?_
          refine r_s (s_y rfl rfl h18 (o_bin rfl rfl (bI_eq r20 3))) ?_
          refine r_u (o_pt rfl h18 rfl) ?_
          refine r_u (o_mv rfl) ?_
          refine r_s (s_n rfl rfl h22) ?_
          refine r_s (s_n rfl rfl h22) ?_
          refine r_s (s_n rfl rfl h22) ?_
          refine r_u (o_pf rfl h22 rfl) ?_
          refine r_u (o_mv rfl) ?_
          refine r_s (s_n rfl rfl rfl) ?_
          refine r_s (s_n rfl rfl rfl) ?_
          refine r_s (s_n rfl rfl rfl) ?_
          refine r_u (o_pf rfl rfl rfl) ?_
          refine r_u (o_as rfl) ?_
          refine r_nil ?_
          refine x_seq ?_
          refine c_ret ?_
          obtain rfl := Option.some.inj hm23
          refine ex_st (fun _ h => st_pk 3 [] (by decide) h) ?_
          exact x_r1 rfl (rv_t rfl) (Le.refl _) ⟨_, rfl, rfl, rfl, rfl⟩
      · have hm19 := iff_ hm15 h18
        refine c_reg ?_
        refine r_u (o_mv rfl) ?_
        refine r_u (o_bin rfl rfl (bI_eq r0.2 0)) ?_
        refine r_u (o_mv rfl) ?_
        refine r_s (s_n rfl rfl h18) ?_
        refine r_s (s_n rfl rfl h18) ?_
        refine r_s (s_n rfl rfl h18) ?_
        refine r_u (o_pf rfl h18 rfl) ?_
        refine r_u (o_mv rfl) ?_
        refine r_s (s_n rfl rfl rfl) ?_
        refine r_s (s_n rfl rfl rfl) ?_
        refine r_s (s_n rfl rfl rfl) ?_
        refine r_u (o_pf rfl rfl rfl) ?_
        refine r_u (o_mv rfl) ?_
        refine r_s (s_n rfl rfl rfl) ?_
        refine r_s (s_n rfl rfl rfl) ?_
        refine r_s (s_n rfl rfl rfl) ?_
        refine r_u (o_pf rfl rfl rfl) ?_
        refine r_u (o_as rfl) ?_
        refine r_nil ?_
        refine x_seq ?_
        refine c_ret ?_
        obtain rfl := Option.some.inj hm19
        refine ex_st (fun _ h => st_pk 3 [] (by decide) h) ?_
        exact x_r1 rfl (rv_t rfl) (Le.refl _) ⟨_, rfl, rfl, rfl, rfl⟩
  · refine c_blk ?_
    refine cd_loopG (M := fun k31 (s : Option sketch_Sketch × Int × (Value × sketch_Sketch.G)) => hawthornlaw05_awake_l1 k31 s.1 s.2.1 = some p5) (Ef := fun (s : Option sketch_Sketch × Int × (Value × sketch_Sketch.G)) => [(2, vI r0.2), (1, s.2.2.1), (3, vI s.2.1)]) (Rf := fun (s : Option sketch_Sketch × Int × (Value × sketch_Sketch.G)) => R) (Lf := fun (s : Option sketch_Sketch × Int × (Value × sketch_Sketch.G)) => rO (sketch_Sketch.op s.2.2.2) s.2.2.1 s.1 :: F) 4 (r0.1, 0, (pv2, g3)) hp9 ⟨rfl, rfl, rfl, trivial⟩ (fun _ h => st_pk 1 [0] (by decide) h) (fun _ h => by cases h) fun k31 s hM33 => ?_
    obtain ⟨s_26, i_27, pv28⟩ := s
    have hm32 : hawthornlaw05_awake_l1 (k31 + 1) s_26 i_27 = some p5 := hM33
    rw [hawthornlaw05_awake_l1] at hm32
    obtain ⟨pv29, g30⟩ := pv28
    refine c_seq ?_
    refine c_seq ?_
    refine c_reg ?_
    refine r_u (o_mv rfl) ?_
    refine r_u (o_bin rfl rfl (bI_lt i_27 3)) ?_
    refine r_nil ?_
    refine x_seq ?_
    refine c_if (b := decide (i_27 < 3)) rfl (fun h34 => ?_) fun h34 => ?_
    · have hm35 := ift hm32 h34
      refine c_skip ?_
      refine x_seq ?_
      refine c_seq ?_
      refine c_blk ?_
      refine cd_opt (fun ho38 => ?_) (fun x36 b37 ho38 => ?_)
      · rintro rfl
        have hm39 := om_n hm35 ho38
        cases hm39
      · rintro rfl
        have hm39 := om_s hm35 ho38
        refine cd_st (fun _ h => st_star_o h) ?_
        refine c_reg ?_
        refine r_u (o_mv rfl) ?_
        obtain ⟨r42, hr42, hm43⟩ := bs hm39
        refine r_c (s_w (o_call ca14 rfl (sketch_Sketch_Add.ok b37 x36 g30 [107, 101, 121] r42 hr42))) ?_
        refine r_nil ?_
        refine x_blk ?_
        refine x_seq ?_
        refine c_reg ?_
        refine r_u (o_mv rfl) ?_
        refine r_u (o_bin rfl rfl (bI_add i_27 1)) ?_
        refine r_u (o_as rfl) ?_
        refine r_nil ?_
        refine ex_st (fun _ h => st_some (f := sketch_Sketch.op g30) (a := r42) (st_star_f (A := sketch_Sketch.fl b37 r42 g30) h)) ?_
        exact x_lp ((some r42), i64 (i_27 + 1), (pt b37 0, g30)) hm43 ⟨rfl, rfl, rfl, trivial⟩ (fun _ h => st_pk 1 [0] (by decide) h)
    · have hm35 := iff_ hm32 h34
      refine c_exit (x_exit (ks' := _) rfl ?_)
      obtain rfl := Option.some.inj hm35
      exact x_sub (K11 (pv29, g30)) ⟨rfl, rfl, trivial⟩ (fun _ h => st_pk 1 [0] (by decide) h)

def sketch_Sketch_Seen_n (a1 : Str) : Int :=
  0
theorem sketch_Sketch_Seen_n.ok {G R F} (a1 : Str) (r : Int) (hm : sketch_Sketch_Seen_n a1 = r) : CO Try.prog 16 [nl, vS a1] G R (F)
    (Ret fun u R' L' => u = vI r ∧ R' = R ∧ L' = F) := by
  unfold sketch_Sketch_Seen_n at hm
  refine co_ofN (N := 24) Try.func16 rfl rfl ?_
  refine c_seq ?_
  refine c_reg ?_
  refine r_u (o_as rfl) ?_
  refine r_nil ?_
  refine x_seq ?_
  refine c_seq ?_
  refine c_seq ?_
  refine c_reg ?_
  refine r_u (o_mv rfl) ?_
  refine r_u (o_bin rfl rfl (bP_eqn Try.underlying24)) ?_
  refine r_nil ?_
  refine x_seq ?_
  refine c_tt rfl ?_
  refine c_seq ?_
  refine c_reg ?_
  refine r_u (o_as rfl) ?_
  refine r_nil ?_
  refine x_seq ?_
  refine c_ret ?_
  subst hm
  exact x_r1 rfl (rv_t rfl) (Le.refl _) ⟨_, rfl, rfl, rfl, rfl⟩

def sketch_Sketch_Added_n  : Int :=
  0
theorem sketch_Sketch_Added_n.ok {G R F} (r : Int) (hm : sketch_Sketch_Added_n = r) : CO Try.prog 20 [nl] G R (F)
    (Ret fun u R' L' => u = vI r ∧ R' = R ∧ L' = F) := by
  unfold sketch_Sketch_Added_n at hm
  refine co_ofN (N := 9) Try.func20 rfl rfl ?_
  refine c_seq ?_
  refine c_reg ?_
  refine r_u (o_as rfl) ?_
  refine r_nil ?_
  refine x_seq ?_
  refine c_seq ?_
  refine c_seq ?_
  refine c_reg ?_
  refine r_u (o_mv rfl) ?_
  refine r_u (o_bin rfl rfl (bP_eqn Try.underlying24)) ?_
  refine r_nil ?_
  refine x_seq ?_
  refine c_tt rfl ?_
  refine c_seq ?_
  refine c_reg ?_
  refine r_u (o_as rfl) ?_
  refine r_nil ?_
  refine x_seq ?_
  refine c_ret ?_
  subst hm
  exact x_r1 rfl (rv_t rfl) (Le.refl _) ⟨_, rfl, rfl, rfl, rfl⟩

def sketch_Sketch_Wide_n  : Int :=
  0
theorem sketch_Sketch_Wide_n.ok {G R F} (r : Int) (hm : sketch_Sketch_Wide_n = r) : CO Try.prog 25 [nl] G R (F)
    (Ret fun u R' L' => u = vI r ∧ R' = R ∧ L' = F) := by
  unfold sketch_Sketch_Wide_n at hm
  refine co_ofN (N := 9) Try.func25 rfl rfl ?_
  refine c_seq ?_
  refine c_reg ?_
  refine r_u (o_as rfl) ?_
  refine r_nil ?_
  refine x_seq ?_
  refine c_seq ?_
  refine c_seq ?_
  refine c_reg ?_
  refine r_u (o_mv rfl) ?_
  refine r_u (o_bin rfl rfl (bP_eqn Try.underlying24)) ?_
  refine r_nil ?_
  refine x_seq ?_
  refine c_tt rfl ?_
  refine c_seq ?_
  refine c_reg ?_
  refine r_u (o_as rfl) ?_
  refine r_nil ?_
  refine x_seq ?_
  refine c_ret ?_
  subst hm
  exact x_r1 rfl (rv_t rfl) (Le.refl _) ⟨_, rfl, rfl, rfl, rfl⟩

def sketch_Sketch_Export_n  : Str :=
  []
theorem sketch_Sketch_Export_n.ok {G R F} (r : Str) (hm : sketch_Sketch_Export_n = r) : CO Try.prog 21 [nl] G R (F)
    (Ret fun u R' L' => u = vS r ∧ R' = R ∧ L' = F) := by
  unfold sketch_Sketch_Export_n at hm
  refine co_ofN (N := 56) Try.func21 rfl rfl ?_
  refine c_seq ?_
  refine c_reg ?_
  refine r_u (o_as rfl) ?_
  refine r_nil ?_
  refine x_seq ?_
  refine c_seq ?_
  refine c_seq ?_
  refine c_reg ?_
  refine r_u (o_mv rfl) ?_
  refine r_u (o_bin rfl rfl (bP_eqn Try.underlying24)) ?_
  refine r_nil ?_
  refine x_seq ?_
  refine c_tt rfl ?_
  refine c_seq ?_
  refine c_reg ?_
  refine r_u (o_as rfl) ?_
  refine r_nil ?_
  refine x_seq ?_
  refine c_ret ?_
  subst hm
  exact x_r1 rfl (rv_t rfl) (Le.refl _) ⟨_, rfl, rfl, rfl, rfl⟩

def hawthornlaw05_SketchNone (a0 : Int) (a1 : Str) : Option Bool :=
  (hawthornlaw05_few a1).bind fun r0 => (sketch_New (iand a0 8191) 1).bind fun r2 => (sketch_New (i64 ((-1) - (iand a0 7))) 1).bind fun r7 => (hawthornlaw05_awake).bind fun r12 => if r12 then om r2.1 (some ((((((((sketch_Sketch_Seen_n r0) == 0) && (sketch_Sketch_Added_n == 0)) && (sketch_Sketch_Wide_n == 0)) && (sketch_Sketch_Export_n == [])) && ((r2.2 == 0) == (decide (1 ≤ (iand a0 8191)) && decide ((iand a0 8191) ≤ 4096)))) && (false == (r2.2 == 0))) && (r7.2 == 1))) fun x16 => some ((((((((sketch_Sketch_Seen_n r0) == 0) && (sketch_Sketch_Added_n == 0)) && (sketch_Sketch_Wide_n == 0)) && (sketch_Sketch_Export_n == [])) && ((r2.2 == 0) == (decide (1 ≤ (iand a0 8191)) && decide ((iand a0 8191) ≤ 4096)))) && (true == (r2.2 == 0))) && (r7.2 == 1)) else some false
theorem hawthornlaw05_SketchNone.ok {G R F} (a0 : Int) (a1 : Str) (r : Bool) (hm : hawthornlaw05_SketchNone a0 a1 = some r) : CO Try.prog 6 [vI a0, vS a1] G R (F)
    (Ret fun u R' L' => u = vB r ∧ R' = R ∧ L' = F) := by
  unfold hawthornlaw05_SketchNone at hm
  refine co_ofN (N := 76) Try.func6 rfl rfl ?_
  refine c_seq ?_
  refine c_reg ?_
  refine r_u (o_as rfl) ?_
  refine r_nil ?_
  refine x_seq ?_
  refine c_seq ?_
  refine c_reg ?_
  refine r_u (o_as rfl) ?_
  refine r_nil ?_
  refine x_seq ?_
  refine c_seq ?_
  refine c_reg ?_
  refine r_u (o_mv rfl) ?_
  refine r_u (o_mv rfl) ?_
  obtain ⟨r0, hr0, hm1⟩ := bs hm
  refine r_u (o_callq ca15 rfl (hawthornlaw05_few.ok a1 r0 hr0)) ?_
  refine r_u (o_callq ca14 rfl (sketch_Sketch_Add_n.ok r0)) ?_
  refine r_nil ?_
  refine x_seq ?_
  refine c_seq ?_
  refine c_reg ?_
  refine r_u (o_mv rfl) ?_
  refine r_u (o_callq ca23 rfl sketch_Sketch_Age_n.ok) ?_
  refine r_nil ?_
  refine x_seq ?_
  refine c_seq ?_
  refine c_reg ?_
  refine r_u (o_mv rfl) ?_
  refine r_u (o_bin rfl rfl (bI_and a0 8191)) ?_
  refine r_u (o_as rfl) ?_
  refine r_nil ?_
  refine x_seq ?_
  refine c_seq ?_
  refine c_reg ?_
  refine r_u (o_mv rfl) ?_
  obtain ⟨r2, hr2, hm6⟩ := bs hm1
  refine r_sw (s_w (o_call ca12 rfl (sketch_New.ok (iand a0 8191) 1 r2 hr2))) ?_
  rintro _ R _ _ ⟨⟨pv4, g5⟩, rfl, rfl, rfl⟩
  refine r_u (o_mv rfl) ?_
  refine r_u (o_ext rfl rfl) ?_
  refine r_u (o_ext rfl rfl) ?_
  refine r_u (o_as rfl) ?_
  refine r_u (o_as rfl) ?_
  refine r_nil ?_
  refine x_seq ?_
  refine c_seq ?_
  refine c_reg ?_
  refine r_u (o_mv rfl) ?_
  refine r_u (o_bin rfl rfl (bI_and a0 7)) ?_
  refine r_u (o_bin rfl rfl (bI_sub (-1) (iand a0 7))) ?_
  obtain ⟨r7, hr7, hm11⟩ := bs hm6
  refine r_sw (s_w (o_call ca12 rfl (sketch_New.ok (i64 ((-1) - (iand a0 7))) 1 r7 hr7))) ?_
  rintro _ R _ _ ⟨⟨pv9, g10⟩, rfl, rfl, rfl⟩
  refine r_u (o_mv rfl) ?_
  refine r_u (o_ext rfl rfl) ?_
  refine r_u (o_ext rfl rfl) ?_
  refine r_u (o_as rfl) ?_
  refine r_u (o_as rfl) ?_
  refine r_nil ?_
  refine x_seq ?_
  refine c_seq ?_
  obtain ⟨r12, hr12, hm13⟩ := bs hm11
  refine cd_by r12 (fun h14 => ?_) fun h14 => ?_
  · have hm15 := ift hm13 h14
    refine cd_st (fun _ h => st_pk 2 [1, 0] (by decide) h) ?_
    refine cd_opt (fun ho18 => ?_) (fun x16 b17 ho18 => ?_)
    · rintro rfl
      have hm19 := om_n hm15 ho18
      refine c_reg ?_
      refine r_u (o_callq ca13 rfl (hawthornlaw05_awake.ok r12 hr12)) ?_
      refine r_u (o_mv rfl) ?_
      refine r_s (s_y rfl rfl h14 (o_mv rfl)) ?_
      refine r_s (s_y rfl rfl h14 (o_mv rfl)) ?_
      refine r_s (s_y rfl rfl h14 (o_callq ca15 rfl (hawthornlaw05_few.ok a1 r0 hr0))) ?_
      refine r_s (s_y rfl rfl h14 (o_callq ca16 rfl (sketch_Sketch_Seen_n.ok r0 _ rfl))) ?_
      refine r_s (s_y rfl rfl h14 (o_bin rfl rfl (bI_eq (sketch_Sketch_Seen_n r0) 0))) ?_
      refine r_u (o_pt rfl h14 rfl) ?_
      refine r_u (o_mv rfl) ?_
      refine r_s (s_gt rfl rfl fun g => o_mv rfl) ?_
      refine r_s (s_gt rfl rfl fun g => o_callq ca20 (evs1 (evg rfl g) evs0) (sketch_Sketch_Added_n.ok _ rfl)) ?_
      refine r_s (s_gt rfl rfl fun g => o_bin (evg rfl g) rfl (bI_eq sketch_Sketch_Added_n 0)) ?_
      refine r_u (o_and rfl rfl) ?_
      refine r_u (o_mv rfl) ?_
      refine r_s (s_gt rfl rfl fun g => o_mv rfl) ?_
      refine r_s (s_gt rfl rfl fun g => o_callq ca25 (evs1 (evg rfl g) evs0) (sketch_Sketch_Wide_n.ok _ rfl)) ?_
      refine r_s (s_gt rfl rfl fun g => o_bin (evg rfl g) rfl (bI_eq sketch_Sketch_Wide_n 0)) ?_
      refine r_u (o_and rfl rfl) ?_
      refine r_u (o_mv rfl) ?_
      refine r_s (s_gt rfl rfl fun g => o_mv rfl) ?_
      refine r_s (s_gt rfl rfl fun g => o_callq ca21 (evs1 (evg rfl g) evs0) (sketch_Sketch_Export_n.ok _ rfl)) ?_
      refine r_s (s_gt rfl rfl fun g => o_bin (evg rfl g) rfl (bS_eq sketch_Sketch_Export_n [])) ?_
      refine r_u (o_and rfl rfl) ?_
      refine r_u (o_mv rfl) ?_
      refine r_s (s_gt rfl rfl fun g => o_mv rfl) ?_
      refine r_s (s_gt rfl rfl fun g => o_bin (evg rfl g) rfl (bI_eq r2.2 0)) ?_
      refine r_s (s_gt rfl rfl fun g => o_mv rfl) ?_
      refine r_s (s_gt rfl rfl fun g => o_bin (evg rfl g) rfl (bI_ge (iand a0 8191) 1)) ?_
      refine r_s (s_gt rfl rfl fun g => o_mv (evg rfl g)) ?_
      refine r_s (s_ggt rfl rfl fun g => o_mv rfl) ?_
      refine r_s (s_ggt rfl rfl fun g => o_bin (evg rfl g) rfl (bI_le (iand a0 8191) 4096)) ?_
      refine r_s (s_gt rfl rfl fun g => o_and (evg rfl g) (evg2 rfl g)) ?_
      refine r_s (s_gt rfl rfl fun g => o_bin (evg rfl g) (evg rfl g) (bB_eq Try.underlying4 (r2.2 == 0) (decide (1 ≤ (iand a0 8191)) && decide ((iand a0 8191) ≤ 4096)))) ?_
      refine r_u (o_and rfl rfl) ?_
      refine r_u (o_mv rfl) ?_
      refine r_s (s_gt rfl rfl fun g => o_mv rfl) ?_
      refine r_s (s_gt rfl rfl fun g => o_bin (evg rfl g) rfl (bP_nen Try.underlying24)) ?_
      refine r_s (s_gt rfl rfl fun g => o_mv rfl) ?_
      refine r_s (s_gt rfl rfl fun g => o_bin (evg rfl g) rfl (bI_eq r2.2 0)) ?_
      refine r_s (s_gt rfl rfl fun g => o_bin (evg rfl g) (evg rfl g) (bB_eq Try.underlying4 false (r2.2 == 0))) ?_
      refine r_u (o_and rfl rfl) ?_
      refine r_u (o_mv rfl) ?_
      refine r_s (s_gt rfl rfl fun g => o_mv rfl) ?_
      refine r_s (s_gt rfl rfl fun g => o_bin (evg rfl g) rfl (bI_eq r7.2 1)) ?_
      refine r_u (o_and rfl rfl) ?_
      refine r_u (o_as rfl) ?_
      refine r_nil ?_
      refine x_seq ?_
      refine c_ret ?_
      obtain rfl := Option.some.inj hm19
      refine ex_st (fun _ h => st_pk 1 [] (by decide) h) ?_
      exact x_r1 rfl (rv_t rfl) (Le.refl _) ⟨_, rfl, rfl, rfl, rfl⟩
    · rintro rfl
      have hm19 := om_s hm15 ho18
      refine cd_st (fun _ h => st_star_o h) ?_
      refine c_reg ?_
      refine r_u (o_callq ca13 rfl (hawthornlaw05_awake.ok r12 hr12)) ?_
      refine r_u (o_mv rfl) ?_
      refine r_s (s_y rfl rfl h14 (o_mv rfl)) ?_
      refine r_s (s_y rfl rfl h14 (o_mv rfl)) ?_
      refine r_s (s_y rfl rfl h14 (o_callq ca15 rfl (hawthornlaw05_few.ok a1 r0 hr0))) ?_
      refine r_s (s_y rfl rfl h14 (o_callq ca16 rfl (sketch_Sketch_Seen_n.ok r0 _ rfl))) ?_
      refine r_s (s_y rfl rfl h14 (o_bin rfl rfl (bI_eq (sketch_Sketch_Seen_n r0) 0))) ?_
      refine r_u (o_pt rfl h14 rfl) ?_
      refine r_u (o_mv rfl) ?_
      refine r_s (s_gt rfl rfl fun g => o_mv rfl) ?_
      refine r_s (s_gt rfl rfl fun g => o_callq ca20 (evs1 (evg rfl g) evs0) (sketch_Sketch_Added_n.ok _ rfl)) ?_
      refine r_s (s_gt rfl rfl fun g => o_bin (evg rfl g) rfl (bI_eq sketch_Sketch_Added_n 0)) ?_
      refine r_u (o_and rfl rfl) ?_
      refine r_u (o_mv rfl) ?_
      refine r_s (s_gt rfl rfl fun g => o_mv rfl) ?_
      refine r_s (s_gt rfl rfl fun g => o_callq ca25 (evs1 (evg rfl g) evs0) (sketch_Sketch_Wide_n.ok _ rfl)) ?_
      refine r_s (s_gt rfl rfl fun g => o_bin (evg rfl g) rfl (bI_eq sketch_Sketch_Wide_n 0)) ?_
      refine r_u (o_and rfl rfl) ?_
      refine r_u (o_mv rfl) ?_
      refine r_s (s_gt rfl rfl fun g => o_mv rfl) ?_
      refine r_s (s_gt rfl rfl fun g => o_callq ca21 (evs1 (evg rfl g) evs0) (sketch_Sketch_Export_n.ok _ rfl)) ?_
      refine r_s (s_gt rfl rfl fun g => o_bin (evg rfl g) rfl (bS_eq sketch_Sketch_Export_n [])) ?_
      refine r_u (o_and rfl rfl) ?_
      refine r_u (o_mv rfl) ?_
      refine r_s (s_gt rfl rfl fun g => o_mv rfl) ?_
      refine r_s (s_gt rfl rfl fun g => o_bin (evg rfl g) rfl (bI_eq r2.2 0)) ?_
      refine r_s (s_gt rfl rfl fun g => o_mv rfl) ?_
      refine r_s (s_gt rfl rfl fun g => o_bin (evg rfl g) rfl (bI_ge (iand a0 8191) 1)) ?_
      refine r_s (s_gt rfl rfl fun g => o_mv (evg rfl g)) ?_
      refine r_s (s_ggt rfl rfl fun g => o_mv rfl) ?_
      refine r_s (s_ggt rfl rfl fun g => o_bin (evg rfl g) rfl (bI_le (iand a0 8191) 4096)) ?_
      refine r_s (s_gt rfl rfl fun g => o_and (evg rfl g) (evg2 rfl g)) ?_
      refine r_s (s_gt rfl rfl fun g => o_bin (evg rfl g) (evg rfl g) (bB_eq Try.underlying4 (r2.2 == 0) (decide (1 ≤ (iand a0 8191)) && decide ((iand a0 8191) ≤ 4096)))) ?_
      refine r_u (o_and rfl rfl) ?_
      refine r_u (o_mv rfl) ?_
      refine r_s (s_gt rfl rfl fun g => o_mv rfl) ?_
      refine r_s (s_gt rfl rfl fun g => o_bin (evg rfl g) rfl (bP_nep Try.underlying24)) ?_
      refine r_s (s_gt rfl rfl fun g => o_mv rfl) ?_
      refine r_s (s_gt rfl rfl fun g => o_bin (evg rfl g) rfl (bI_eq r2.2 0)) ?_
      refine r_s (s_gt rfl rfl fun g => o_bin (evg rfl g) (evg rfl g) (bB_eq Try.underlying4 true (r2.2 == 0))) ?_
      refine r_u (o_and rfl rfl) ?_
      refine r_u (o_mv rfl) ?_
      refine r_s (s_gt rfl rfl fun g => o_mv rfl) ?_
      refine r_s (s_gt rfl rfl fun g => o_bin (evg rfl g) rfl (bI_eq r7.2 1)) ?_
      refine r_u (o_and rfl rfl) ?_
      refine r_u (o_as rfl) ?_
      refine r_nil ?_
      refine x_seq ?_
      refine c_ret ?_
      obtain rfl := Option.some.inj hm19
      refine ex_st (fun _ h => st_pk 4 [] (by decide) h) ?_
      exact x_r1 rfl (rv_t rfl) (Le.refl _) ⟨_, rfl, rfl, rfl, rfl⟩
  · have hm15 := iff_ hm13 h14
    refine c_reg ?_
    refine r_u (o_callq ca13 rfl (hawthornlaw05_awake.ok r12 hr12)) ?_
    refine r_u (o_mv rfl) ?_
    refine r_s (s_n rfl rfl h14) ?_
    refine r_s (s_n rfl rfl h14) ?_
    refine r_s (s_n rfl rfl h14) ?_
    refine r_s (s_n rfl rfl h14) ?_
    refine r_s (s_n rfl rfl h14) ?_
    refine r_u (o_pf rfl h14 rfl) ?_
    refine r_u (o_mv rfl) ?_
    refine r_s (s_n rfl rfl rfl) ?_
    refine r_s (s_n rfl rfl rfl) ?_
    refine r_s (s_n rfl rfl rfl) ?_
    refine r_u (o_pf rfl rfl rfl) ?_
    refine r_u (o_mv rfl) ?_
    refine r_s (s_n rfl rfl rfl) ?_
    refine r_s (s_n rfl rfl rfl) ?_
    refine r_s (s_n rfl rfl rfl) ?_
    refine r_u (o_pf rfl rfl rfl) ?_
    refine r_u (o_mv rfl) ?_
    refine r_s (s_n rfl rfl rfl) ?_
    refine r_s (s_n rfl rfl rfl) ?_
    refine r_s (s_n rfl rfl rfl) ?_
    refine r_u (o_pf rfl rfl rfl) ?_
    refine r_u (o_mv rfl) ?_
    refine r_s (s_n rfl rfl rfl) ?_
    refine r_s (s_n rfl rfl rfl) ?_
    refine r_s (s_n rfl rfl rfl) ?_
    refine r_s (s_n rfl rfl rfl) ?_
    refine r_s (s_n rfl rfl rfl) ?_
    refine r_s (s_nu rfl rfl) ?_
    refine r_s (s_nu rfl rfl) ?_
    refine r_s (s_n rfl rfl rfl) ?_
    refine r_s (s_n rfl rfl rfl) ?_
    refine r_u (o_pf rfl rfl rfl) ?_
    refine r_u (o_mv rfl) ?_
    refine r_s (s_n rfl rfl rfl) ?_
    refine r_s (s_n rfl rfl rfl) ?_
    refine r_s (s_n rfl rfl rfl) ?_
    refine r_s (s_n rfl rfl rfl) ?_
    refine r_s (s_n rfl rfl rfl) ?_
    refine r_u (o_pf rfl rfl rfl) ?_
    refine r_u (o_mv rfl) ?_
    refine r_s (s_n rfl rfl rfl) ?_
    refine r_s (s_n rfl rfl rfl) ?_
    refine r_u (o_pf rfl rfl rfl) ?_
    refine r_u (o_as rfl) ?_
    refine r_nil ?_
    refine x_seq ?_
    refine c_ret ?_
    obtain rfl := Option.some.inj hm15
    refine ex_st (fun _ h => st_pk 2 [] (by decide) h) ?_
    exact x_r1 rfl (rv_t rfl) (Le.refl _) ⟨_, rfl, rfl, rfl, rfl⟩

def hawthornlaw05_SketchLeast_l1 (a1 : List Str) (a2 : Str) : Nat → (Option sketch_Sketch) → Int → Int → Option (Option sketch_Sketch × Int)
  | 0, _, _, _ => none
  | k38 + 1, s_32, n_33, i_34 => if (decide (i_34 < (a1.length : Int)) && decide (i_34 < 300)) then (gi a1 i_34).bind fun x43 => (hawthornlaw05_few x43).bind fun r45 => om s_32 (none) fun x47 => (sketch_Sketch_Add x47 r45).bind fun r53 => (hawthornlaw05_few a2).bind fun r55 => Option.bind (if (r45 == r55) then some (i64 (n_33 + 1)) else some n_33) fun p57 => hawthornlaw05_SketchLeast_l1 a1 a2 k38 (some r53) p57 (i64 (i_34 + 1)) else some (s_32, n_33)
def hawthornlaw05_SketchLeast (a0 : UInt64) (a1 : List Str) (a2 : Str) : Option Bool :=
  (sketch_New 64 a0).bind fun r0 => (hawthornlaw05_awake).bind fun r5 => if (!r5 || (r0.2 != 0)) then some false else Option.bind (hawthornlaw05_SketchLeast_l1 a1 a2 (((a1.length : Int) - 0).toNat + 1) r0.1 0 0) fun p9 => Option.bind (if decide (16 < p9.2) then some 16 else some p9.2) fun p16 => (hawthornlaw05_few a2).bind fun r20 => om p9.1 (none) fun x22 => (sketch_Sketch_Seen x22 r20).bind fun r28 => some (decide (p16 ≤ r28))
theorem hawthornlaw05_SketchLeast.ok {G R F} (a0 : UInt64) (v1 : Value) (a1 : List Str) (h1 : RoS R v1 1 (fun x => [vS x]) a1) (a2 : Str) (r : Bool) (hm : hawthornlaw05_SketchLeast a0 a1 a2 = some r) : CO Try.prog 3 [vW a0, v1, vS a2] G R (F)
    (Ret fun u R' L' => u = vB r ∧ R' = R ∧ L' = F) := by
  unfold hawthornlaw05_SketchLeast at hm
  refine co_ofN (N := 57) Try.func3 rfl rfl ?_
  refine c_seq ?_
  refine c_reg ?_
  refine r_u (o_as rfl) ?_
  refine r_nil ?_
  refine x_seq ?_
  refine c_seq ?_
  refine c_reg ?_
  refine r_u (o_mv rfl) ?_
  obtain ⟨r0, hr0, hm4⟩ := bs hm
  refine r_sw (s_w (o_call ca12 rfl (sketch_New.ok 64 a0 r0 hr0))) ?_
  rintro _ R _ _ ⟨⟨pv2, g3⟩, rfl, rfl, rfl⟩
  refine r_u (o_mv rfl) ?_
  refine r_u (o_ext rfl rfl) ?_
  refine r_u (o_ext rfl rfl) ?_
  refine r_u (o_as rfl) ?_
  refine r_u (o_as rfl) ?_
  refine r_nil ?_
  refine x_seq ?_
  refine c_seq ?_
  refine c_seq ?_
  refine c_reg ?_
  obtain ⟨r5, hr5, hm6⟩ := bs hm4
  refine r_u (o_callq ca13 rfl (hawthornlaw05_awake.ok r5 hr5)) ?_
  refine r_u (o_not rfl) ?_
  refine r_u (o_mv rfl) ?_
  refine r_s (s_gf rfl rfl fun g => o_mv rfl) ?_
  refine r_s (s_gf rfl rfl fun g => o_bin (evg rfl g) rfl (bI_ne r0.2 0)) ?_
  refine r_u (o_or rfl rfl) ?_
  refine r_nil ?_
  refine x_seq ?_
  refine c_if (b := (!r5 || (r0.2 != 0))) rfl (fun h7 => ?_) fun h7 => ?_
  · have hm8 := ift hm6 h7
    refine c_seq ?_
    refine c_reg ?_
    refine r_u (o_as rfl) ?_
    refine r_nil ?_
    refine x_seq ?_
    refine c_ret ?_
    obtain rfl := Option.some.inj hm8
    refine ex_st (fun _ h => st_pk 1 [] (by decide) h) ?_
    exact x_r1 rfl (rv_t rfl) (Le.refl _) ⟨_, rfl, rfl, rfl, rfl⟩
  · have hm8 := iff_ hm6 h7
    refine c_skip ?_
    refine x_seq ?_
    refine c_seq ?_
    refine c_reg ?_
    refine r_u (o_as rfl) ?_
    refine r_nil ?_
    refine x_seq ?_
    refine c_seq ?_
    refine c_seq ?_
    refine c_reg ?_
    refine r_u (o_as rfl) ?_
    refine r_nil ?_
    refine x_seq ?_
    obtain ⟨p9, hp13, hm14⟩ := bs hm8
    refine cd_cut (fun x ks => ∀ (pv10 : Value × sketch_Sketch.G), EX x .normal ks [(2, vS a2), (7, pv10.1), (9, vI p9.2)] R (rO (sketch_Sketch.op pv10.2) pv10.1 p9.1 :: F)) ?_ fun K15 => ?_
    · intro pv10
      obtain ⟨pv11, g12⟩ := pv10
      refine x_seq ?_
      refine c_seq ?_
      refine c_seq ?_
      refine c_reg ?_
      refine r_u (o_mv rfl) ?_
      refine r_u (o_bin rfl rfl (bI_gt p9.2 16)) ?_
      refine r_nil ?_
      refine x_seq ?_
      obtain ⟨p16, hp17, hm18⟩ := bs hm14
      refine cd_join (E' := [(2, vS a2), (7, pv11), (9, vI p16)]) (L' := rO (sketch_Sketch.op g12) pv11 p9.1 :: F) ?_ fun K19 => ?_
      · refine x_seq ?_
        refine c_seq ?_
        obtain ⟨r20, hr20, hm21⟩ := bs hm18
        refine cd_opt (fun ho24 => ?_) (fun x22 b23 ho24 => ?_)
        · rintro rfl
          have hm25 := om_n hm21 ho24
          cases hm25
        · rintro rfl
          have hm25 := om_s hm21 ho24
          refine cd_st (fun _ h => st_star_o h) ?_
          refine c_reg ?_
          refine r_u (o_mv rfl) ?_
          refine r_u (o_mv rfl) ?_
          refine r_u (o_callq ca15 rfl (hawthornlaw05_few.ok a2 r20 hr20)) ?_
          obtain ⟨r28, hr28, hm29⟩ := bs hm25
          refine r_c (s_w (o_call ca16 rfl (sketch_Sketch_Seen.ok b23 x22 g12 r20 r28 hr28))) ?_
          refine r_u (o_mv rfl) ?_
          refine r_u (o_bin rfl rfl (bI_ge r28 p16)) ?_
          refine r_u (o_as rfl) ?_
          refine r_nil ?_
          refine x_seq ?_
          refine c_ret ?_
          obtain rfl := Option.some.inj hm29
          refine ex_st (fun _ h => st_pk 3 [] (by decide) h) ?_
          exact x_r1 rfl (rv_t rfl) (Le.refl _) ⟨_, rfl, rfl, rfl, rfl⟩
      · refine c_if (b := decide (16 < p9.2)) rfl (fun h30 => ?_) fun h30 => ?_
        · have hm31 := ift hp17 h30
          refine c_reg ?_
          refine r_u (o_as rfl) ?_
          refine r_nil ?_
          obtain rfl := Option.some.inj hm31
          exact x_sub K19 ⟨rfl, rfl, rfl, trivial⟩ (fun _ h => st_pk 1 [0] (by decide) h)
        · have hm31 := iff_ hp17 h30
          refine c_skip ?_
          obtain rfl := Option.some.inj hm31
          exact x_sub K19 ⟨rfl, rfl, rfl, trivial⟩ (fun _ h => st_pk 1 [0] (by decide) h)
    · refine c_blk ?_
      refine cd_loopG (M := fun k38 (s : Option sketch_Sketch × Int × Int × (Value × sketch_Sketch.G)) => hawthornlaw05_SketchLeast_l1 a1 a2 k38 s.1 s.2.1 s.2.2.1 = some p9) (Ef := fun (s : Option sketch_Sketch × Int × Int × (Value × sketch_Sketch.G)) => [(1, v1), (2, vS a2), (7, s.2.2.2.1), (9, vI s.2.1), (10, vI s.2.2.1)]) (Rf := fun (s : Option sketch_Sketch × Int × Int × (Value × sketch_Sketch.G)) => R) (Lf := fun (s : Option sketch_Sketch × Int × Int × (Value × sketch_Sketch.G)) => rO (sketch_Sketch.op s.2.2.2.2) s.2.2.2.1 s.1 :: F) (((a1.length : Int) - 0).toNat + 1) (r0.1, 0, 0, (pv2, g3)) hp13 ⟨rfl, rfl, rfl, rfl, rfl, trivial⟩ (fun _ h => st_pk 1 [0] (by decide) h) (fun _ h => by cases h) fun k38 s hM40 => ?_
      obtain ⟨s_32, n_33, i_34, pv35⟩ := s
      have hm39 : hawthornlaw05_SketchLeast_l1 a1 a2 (k38 + 1) s_32 n_33 i_34 = some p9 := hM40
      rw [hawthornlaw05_SketchLeast_l1] at hm39
      obtain ⟨pv36, g37⟩ := pv35
      refine c_seq ?_
      refine c_seq ?_
      refine c_reg ?_
      refine r_u (o_mv rfl) ?_
      refine r_u (o_mv rfl) ?_
      refine r_u (o_lenR Try.underlying23 rfl h1) ?_
      refine r_u (o_bin rfl rfl (bI_lt i_34 (a1.length : Int))) ?_
      refine r_u (o_mv rfl) ?_
      refine r_s (s_gt rfl rfl fun g => o_mv rfl) ?_
      refine r_s (s_gt rfl rfl fun g => o_bin (evg rfl g) rfl (bI_lt i_34 300)) ?_
      refine r_u (o_and rfl rfl) ?_
      refine r_nil ?_
      refine x_seq ?_
      refine c_if (b := (decide (i_34 < (a1.length : Int)) && decide (i_34 < 300))) rfl (fun h41 => ?_) fun h41 => ?_
      · have hm42 := ift hm39 h41
        refine c_skip ?_
        refine x_seq ?_
        refine c_seq ?_
        refine c_blk ?_
        refine c_seq ?_
        obtain ⟨x43, hx43, hm44⟩ := bs hm42
        obtain ⟨b43, o43, l43, T43, fr43, c43, hv43, hR43, he43, hi43⟩ := RoS.ne h1 hx43
        obtain ⟨r45, hr45, hm46⟩ := bs hm44
        refine cd_opt (fun ho49 => ?_) (fun x47 b48 ho49 => ?_)
        · rintro rfl
          have hm50 := om_n hm46 ho49
          cases hm50
        · rintro rfl
          have hm50 := om_s hm46 ho49
          refine cd_st (fun _ h => st_star_o h) ?_
          refine c_reg ?_
          refine r_u (o_mv rfl) ?_
          refine r_u (o_mv rfl) ?_
          refine r_u (o_mv rfl) ?_
          refine r_u (o_ix (sz := 1) Try.underlying23 (fun _ => by kernel_rfl) rfl rfl hv43 hi43) ?_
          refine r_u (o_ldR sc9 rfl hR43 (rok 0 he43 (by decide))) ?_
          refine r_u (o_callq ca15 rfl (hawthornlaw05_few.ok x43 r45 hr45)) ?_
          obtain ⟨r53, hr53, hm54⟩ := bs hm50
          refine r_c (s_w (o_call ca14 rfl (sketch_Sketch_Add.ok b48 x47 g37 r45 r53 hr53))) ?_
          refine r_nil ?_
          refine x_seq ?_
          refine c_seq ?_
          refine c_reg ?_
          refine r_u (o_mv rfl) ?_
          refine r_u (o_mv rfl) ?_
          refine r_u (o_ix (sz := 1) Try.underlying23 (fun _ => by kernel_rfl) rfl rfl hv43 hi43) ?_
          refine r_u (o_ldR sc9 rfl hR43 (rok 0 he43 (by decide))) ?_
          refine r_u (o_callq ca15 rfl (hawthornlaw05_few.ok x43 r45 hr45)) ?_
          refine r_u (o_mv rfl) ?_
          obtain ⟨r55, hr55, hm56⟩ := bs hm54
          refine r_u (o_callq ca15 rfl (hawthornlaw05_few.ok a2 r55 hr55)) ?_
          refine r_u (o_bin rfl rfl (bS_eq r45 r55)) ?_
          refine r_nil ?_
          refine x_seq ?_
          obtain ⟨p57, hp58, hm59⟩ := bs hm56
          refine cd_join (E' := [(1, v1), (2, vS a2), (7, pt b48 0), (10, vI i_34), (9, vI p57)]) (L' := Bk b48 70 [vI r53.wide, vW r53.seed, g37.rows.1, g37.rows.2.1, g37.rows.2.2.1, g37.rows.2.2.2, g37.door, vI r53.added] :: OwL (OwS false 5 1 eY) [g37.rows.1, g37.rows.2.1, g37.rows.2.2.1, g37.rows.2.2.2] r53.rows :: OwS true 4 1 eB g37.door r53.door :: F) ?_ fun K60 => ?_
          · refine x_blk ?_
            refine x_seq ?_
            refine c_reg ?_
            refine r_u (o_mv rfl) ?_
            refine r_u (o_bin rfl rfl (bI_add i_34 1)) ?_
            refine r_u (o_as rfl) ?_
            refine r_nil ?_
            refine ex_st (fun _ h => st_some (f := sketch_Sketch.op g37) (a := r53) (st_star_f (A := sketch_Sketch.fl b48 r53 g37) h)) ?_
            exact x_lp ((some r53), p57, i64 (i_34 + 1), (pt b48 0, g37)) hm59 ⟨rfl, rfl, rfl, rfl, rfl, trivial⟩ (fun _ h => st_pk 1 [0] (by decide) h)
          · refine c_if (b := (r45 == r55)) rfl (fun h61 => ?_) fun h61 => ?_
            · have hm62 := ift hp58 h61
              refine c_reg ?_
              refine r_u (o_mv rfl) ?_
              refine r_u (o_bin rfl rfl (bI_add n_33 1)) ?_
              refine r_u (o_as rfl) ?_
              refine r_nil ?_
              obtain rfl := Option.some.inj hm62
              exact x_sub K60 ⟨rfl, rfl, rfl, rfl, rfl, trivial⟩ (fun _ h => st_pk 3 [0, 1, 2] (by decide) h)
            · have hm62 := iff_ hp58 h61
              refine c_skip ?_
              obtain rfl := Option.some.inj hm62
              exact x_sub K60 ⟨rfl, rfl, rfl, rfl, rfl, trivial⟩ (fun _ h => st_pk 3 [0, 1, 2] (by decide) h)
      · have hm42 := iff_ hm39 h41
        refine c_exit (x_exit (ks' := _) rfl ?_)
        obtain rfl := Option.some.inj hm42
        exact x_sub (K15 (pv36, g37)) ⟨rfl, rfl, rfl, trivial⟩ (fun _ h => st_pk 1 [0] (by decide) h)

def hawthornref05_New_l1 (a0 : Int) : Nat → Int → (List (List Int)) → Option (List (List Int))
  | 0, _, _ => none
  | k13 + 1, i_10, c_11 => if decide (i_10 < 4) then (mks 8 a0 (0 : Int)).bind fun l19 => (apd 24 c_11 [l19]).bind fun l23 => hawthornref05_New_l1 a0 k13 (i64 (i_10 + 1)) l23 else some c_11
def hawthornref05_New (a0 : Int) (a1 : UInt64) : Option hawthornref05_Sketch :=
  (mks 1 a0 (false : Bool)).bind fun l2 => Option.bind (hawthornref05_New_l1 a0 5 0 []) fun p5 => some (⟨a0, a1, p5, l2, 0⟩ : hawthornref05_Sketch)
theorem hawthornref05_New.ok {G R F} (a0 : Int) (a1 : UInt64) (r : hawthornref05_Sketch) (hm : hawthornref05_New a0 a1 = some r) : CO Try.prog 44 [vI a0, vW a1] G R (F)
    (Ret fun u R' L' => ∃ (p0 : hawthornref05_Sketch.G), u = .agg [vI r.Wide, vW r.Seed, p0.Rows.1, p0.Door, vI r.Added].toArray ∧ R' = R ∧ L' = OwS true 74 1 eV p0.Rows.1 p0.Rows.2 :: OwL (OwS true 3 1 eI) p0.Rows.2 r.Rows :: OwS true 4 1 eB p0.Door r.Door :: F) := by
  unfold hawthornref05_New at hm
  refine co_ofN (N := 24) Try.func44 rfl rfl ?_
  refine c_seq ?_
  refine c_reg ?_
  refine r_new (o_al ze36) fun b0 => ?_
  refine r_nil ?_
  refine x_seq ?_
  refine c_seq ?_
  refine c_reg ?_
  refine r_u (o_mv rfl) ?_
  refine r_u (o_mv rfl) ?_
  refine r_u (o_mv rfl) ?_
  obtain ⟨l2, hl2, hm3⟩ := bs hm
  refine r_sw (s_w (o_mk (sz := 1) (bytes := 1) (e := 4) (en := eB) Try.underlying34 rfl rfl rfl rfl rfl rfl rfl rfl rfl hl2)) ?_
  rintro v1 R _ _ ⟨rfl, rfl⟩
  refine r_u (ou_if (hd_o 0 rfl) fun hb0 => o_bld [vI a0, vW a1, .slice none 0 0, v1, vI 0] rfl (fun _ => by obtain ⟨_, _, rfl⟩ := hb0; kernel_rfl)) ?_
  refine r_new (o_al ze36) fun b4 => ?_
  refine r_u0 (ou_if (one_o 1 rfl) fun ho0 => o_stn ag36 rfl rfl rfl (al_c rfl (al_c rfl (al_c rfl (al_c ho0 (al_c rfl al_n))))) rfl rfl rfl) ?_
  refine r_nil ?_
  refine x_seq ?_
  refine c_seq ?_
  refine c_seq ?_
  refine c_reg ?_
  refine r_u (o_as rfl) ?_
  refine r_nil ?_
  refine x_seq ?_
  obtain ⟨p5, hp7, hm8⟩ := bs hm3
  refine cd_cut (fun x ks => ∀ (g6 : Value × List Value), EX x .normal ks [(4, pt b0 0), (5, pt b4 0)] R (Bk b4 36 [vI a0, vW a1, g6.1, v1, vI 0] :: Bk b0 36 [vI 0, vW 0, .slice none 0 0, .slice none 0 0, vI 0] :: OwS true 4 1 eB v1 l2 :: OwS true 74 1 eV g6.1 g6.2 :: OwL (OwS true 3 1 eI) g6.2 p5 :: F)) ?_ fun K9 => ?_
  · intro g6
    refine x_seq ?_
    refine c_seq ?_
    refine c_reg ?_
    refine r_u (o_ldn 0 [vI a0, vW a1, g6.1, v1, vI 0] ag36 rfl rfl rfl rfl) ?_
    refine rl_st (fun _ h => st_pk 5 [1, 3, 2, 0, 4] (by decide) h) ?_
    refine r_u0 (ou_if (one_o 1 rfl) fun ho0 => ou_if (one_o 2 rfl) fun ho1 => o_stn ag36 rfl rfl rfl (al_c rfl (al_c rfl (al_c ho0 (al_c ho1 (al_c rfl al_n))))) rfl rfl rfl) ?_
    refine r_nil ?_
    refine x_seq ?_
    refine c_ret ?_
    obtain rfl := Option.some.inj hm8
    exact x_d1 rfl (rv_n 0 [vI a0, vW a1, g6.1, v1, vI 0] ag36 rfl rfl rfl rfl) (fun _ h => st_pk 5 [1, 4, 2] (by decide) h) (Le.refl _) ⟨_, rfl, (⟨g6, v1⟩ : hawthornref05_Sketch.G), rfl, rfl, rfl⟩
  · refine c_blk ?_
    refine cd_st (fun _ h => st_nil (ap := true) (T := 74) (sz := 1) (en := eV) (st_lnil (own := OwS true 3 1 eI) h)) ?_
    refine cd_loopG (M := fun k13 (s : Int × List (List Int) × (Value × List Value)) => hawthornref05_New_l1 a0 k13 s.1 s.2.1 = some p5) (Ef := fun (s : Int × List (List Int) × (Value × List Value)) => [(0, vI a0), (4, pt b0 0), (5, pt b4 0), (6, vI s.1)]) (Rf := fun (s : Int × List (List Int) × (Value × List Value)) => R) (Lf := fun (s : Int × List (List Int) × (Value × List Value)) => Bk b4 36 [vI a0, vW a1, s.2.2.1, v1, vI 0] :: Bk b0 36 [vI 0, vW 0, .slice none 0 0, .slice none 0 0, vI 0] :: OwS true 4 1 eB v1 l2 :: OwS true 74 1 eV s.2.2.1 s.2.2.2 :: OwL (OwS true 3 1 eI) s.2.2.2 s.2.1 :: F) 5 (0, [], (.slice none 0 0, [])) hp7 ⟨rfl, rfl, rfl, rfl, trivial⟩ (fun _ h => st_pk 5 [2, 4, 3, 0, 1] (by decide) h) (fun _ h => by cases h) fun k13 s hM15 => ?_
    obtain ⟨i_10, c_11, g12⟩ := s
    have hm14 : hawthornref05_New_l1 a0 (k13 + 1) i_10 c_11 = some p5 := hM15
    rw [hawthornref05_New_l1] at hm14
    refine c_seq ?_
    refine c_seq ?_
    refine c_reg ?_
    refine r_u (o_mv rfl) ?_
    refine r_u (o_bin rfl rfl (bI_lt i_10 4)) ?_
    refine r_nil ?_
    refine x_seq ?_
    refine c_if (b := decide (i_10 < 4)) rfl (fun h16 => ?_) fun h16 => ?_
    · have hm17 := ift hm14 h16
      refine c_skip ?_
      refine x_seq ?_
      refine c_seq ?_
      refine c_blk ?_
      obtain ⟨l19, hl19, hm20⟩ := bs hm17
      obtain ⟨l23, hl23, hm25⟩ := bs hm20
      refine c_any mixed (effs := [3, 4, 5, 7]) (V := []) ?_
      refine stage_ext [(0, pt b4 2), (1, g12.1), (2, vI a0)] rfl ?_
      refine stage rfl rfl rfl rfl [0, 1, 0, 4, 12, 31, 63, 127] [0, 1, 2] [3] rfl rfl rfl (qc rfl rfl (s_u (o_fa fa36_2 rfl)) (qc rfl rfl (s_u (o_ld 0 sc33 rfl rfl rfl)) (qc rfl rfl (s_u (o_mv rfl)) qn))) ?_ (fun h => absurd h (by decide))
      refine ec (eo_w rfl (s_w (o_mk (sz := 1) (bytes := 8) (e := 3) (en := eI) Try.underlying74 rfl rfl rfl rfl rfl rfl rfl rfl rfl hl19)) ?_) en
      rintro v18 R _ _ ⟨rfl, rfl⟩
      refine stage rfl rfl rfl rfl [0, 1, 0, 4, 12, 31, 63, 127] [0, 1] [4] rfl rfl rfl (qc rfl rfl (s_u (o_fa fa36_2 rfl)) (qc rfl rfl (s_u (o_ld 1 sc33 rfl rfl rfl)) qn)) ?_ (fun h => absurd h (by decide))
      refine ec (eo_w rfl (s_w (ow_if (hd_o 0 rfl) fun hb => o_bsl (en := eV) (sz := 1) (e := 74) (cs := [v18]) (r := [v18]) rfl (fun _ => by obtain ⟨_, _, rfl⟩ := hb; kernel_rfl) rfl (by decide) rfl (fun _ => rfl))) ?_) en
      rintro v21 R _ _ ⟨rfl, rfl⟩
      refine stage_st (fun _ h => st_pk 7 [1, 0, 2, 3, 4, 5, 6] (by decide) h) ?_
      refine stage_st (fun _ h => st_l1 h) ?_
      refine stage_st (fun _ h => st_pk 7 [5, 6, 1, 0, 2, 3, 4] (by decide) h) ?_
      refine stage rfl rfl rfl rfl [0, 1, 0, 4, 12, 31, 63, 127] [0, 1] [5] rfl rfl rfl (qc rfl rfl (s_u (o_fa fa36_2 rfl)) (qc rfl rfl (s_u (o_ld 4 sc33 rfl rfl rfl)) qn)) ?_ (fun h => absurd h (by decide))
      refine ec (eo_w rfl (s_w (o_apN (bytes := 24) Try.underlying33 rfl rfl rfl rfl rfl rfl rfl rfl rfl (Nat.succ_pos _) hl23)) ?_) en
      rintro v22 R _ _ ⟨hs24, rfl, rfl⟩
      refine stage_st (fun _ h => st_pk 5 [2, 0, 1, 3, 4] (by decide) h) ?_
      refine stage_ext [(6, pt b4 2)] rfl ?_
      refine stage rfl rfl rfl rfl [0, 1, 0, 4, 12, 31, 63, 127] [6] [7] rfl rfl rfl (qc rfl rfl (s_u (o_fa fa36_2 rfl)) qn) ?_ (fun h => absurd h (by decide))
      refine ec (eo_u rfl (s_u (ou_if (one_o 1 rfl) fun ho0 => o_st sc33 rfl rfl rfl ho0 rfl rfl)) (Le.refl _) ?_) en
      refine stage rfl rfl rfl rfl [0, 1, 0, 4, 12, 31, 63, 127] [] [] rfl rfl rfl qn en ?_
      intro _
      refine ex_sub (E' := [(0, vI a0), (4, pt b0 0), (5, pt b4 0), (6, vI i_10)]) ⟨rfl, rfl, rfl, rfl, trivial⟩ ?_
      refine x_blk ?_
      refine x_seq ?_
      refine c_reg ?_
      refine r_u (o_mv rfl) ?_
      refine r_u (o_bin rfl rfl (bI_add i_10 1)) ?_
      refine r_u (o_as rfl) ?_
      refine r_nil ?_
      exact x_lp (i64 (i_10 + 1), l23, (v22, hs24)) hm25 ⟨rfl, rfl, rfl, rfl, trivial⟩ (fun _ h => st_pk 5 [0, 3, 4, 1, 2] (by decide) h)
    · have hm17 := iff_ hm14 h16
      refine c_exit (x_exit (ks' := _) rfl ?_)
      obtain rfl := Option.some.inj hm17
      exact x_sub (K9 g12) ⟨rfl, rfl, trivial⟩ (fun _ h => st_pk 5 [0, 1, 2, 3, 4] (by decide) h)

def hawthornlaw05_both (a0 : Int) (a1 : UInt64) : Option (Option sketch_Sketch × hawthornref05_Sketch × Bool) :=
  (sketch_New (i64 (1 + (iand a0 31))) a1).bind fun r1 => (hawthornref05_New (i64 (1 + (iand a0 31))) a1).bind fun r6 => some (r1.1, r6, (r1.2 == 0))
theorem hawthornlaw05_both.ok {G R F} (a0 : Int) (a1 : UInt64) (r : Option sketch_Sketch × hawthornref05_Sketch × Bool) (hm : hawthornlaw05_both a0 a1 = some r) : CO Try.prog 17 [vI a0, vW a1] G R (F)
    (Ret fun u R' L' => ∃ (p0 : Value × sketch_Sketch.G) (p1 : hawthornref05_Sketch.G), u = .tuple #[p0.1, .agg [vI r.2.1.Wide, vW r.2.1.Seed, p1.Rows.1, p1.Door, vI r.2.1.Added].toArray, vB r.2.2] ∧ R' = R ∧ L' = rO (sketch_Sketch.op p0.2) p0.1 r.1 :: OwS true 74 1 eV p1.Rows.1 p1.Rows.2 :: OwL (OwS true 3 1 eI) p1.Rows.2 r.2.1.Rows :: OwS true 4 1 eB p1.Door r.2.1.Door :: F) := by
  unfold hawthornlaw05_both at hm
  refine co_ofN (N := 25) Try.func17 rfl rfl ?_
  refine c_seq ?_
  refine c_reg ?_
  refine r_u (o_as rfl) ?_
  refine r_new (o_al ze36) fun b0 => ?_
  refine r_u (o_as rfl) ?_
  refine r_nil ?_
  refine x_seq ?_
  refine c_seq ?_
  refine c_reg ?_
  refine r_u (o_mv rfl) ?_
  refine r_u (o_bin rfl rfl (bI_and a0 31)) ?_
  refine r_u (o_bin rfl rfl (bI_add 1 (iand a0 31))) ?_
  refine r_u (o_as rfl) ?_
  refine r_nil ?_
  refine x_seq ?_
  refine c_seq ?_
  refine c_reg ?_
  refine r_u (o_mv rfl) ?_
  refine r_u (o_mv rfl) ?_
  obtain ⟨r1, hr1, hm5⟩ := bs hm
  refine r_sw (s_w (o_call ca12 rfl (sketch_New.ok (i64 (1 + (iand a0 31))) a1 r1 hr1))) ?_
  rintro _ R _ _ ⟨⟨pv3, g4⟩, rfl, rfl, rfl⟩
  refine r_u (o_mv rfl) ?_
  refine r_u (o_ext rfl rfl) ?_
  refine r_u (o_ext rfl rfl) ?_
  refine r_u (o_as rfl) ?_
  refine r_u (o_as rfl) ?_
  refine r_nil ?_
  refine x_seq ?_
  refine c_seq ?_
  refine c_reg ?_
  refine r_u (o_mv rfl) ?_
  refine r_u (o_mv rfl) ?_
  refine r_u (o_mv rfl) ?_
  obtain ⟨r6, hr6, hm10⟩ := bs hm5
  refine r_sw (s_w (o_call ca44 rfl (hawthornref05_New.ok (i64 (1 + (iand a0 31))) a1 r6 hr6))) ?_
  rintro _ R _ _ ⟨v7, rfl, rfl, rfl⟩
  refine r_u (o_mv rfl) ?_
  refine r_u (o_bin rfl rfl (bI_eq r1.2 0)) ?_
  refine r_u (o_as rfl) ?_
  refine rl_st (fun _ h => st_pk 5 [4, 0, 2, 1, 3] (by decide) h) ?_
  refine r_u0 (ou_if (one_o 1 rfl) fun ho0 => ou_if (one_o 2 rfl) fun ho1 => o_stn ag36 rfl rfl rfl (al_c rfl (al_c rfl (al_c ho0 (al_c ho1 (al_c rfl al_n))))) rfl rfl rfl) ?_
  refine r_u (o_as rfl) ?_
  refine r_nil ?_
  refine x_seq ?_
  refine c_ret ?_
  obtain rfl := Option.some.inj hm10
  exact x_d3 rfl (rv_t rfl) (rv_n 0 [vI r6.Wide, vW r6.Seed, v7.Rows.1, v7.Door, vI r6.Added] ag36 rfl rfl rfl rfl) (rv_t rfl) (fun _ h => st_pk 5 [4, 1, 3, 2] (by decide) h) (Le.refl _) ⟨_, rfl, (pv3, g4), v7, rfl, rfl, rfl⟩

def hawthornref01_turn_l1 (a1 : Int) : Nat → UInt64 → Int → Option (UInt64)
  | 0, _, _ => none
  | k6 + 1, n_4, i_5 => if decide (i_5 < a1) then hawthornref01_turn_l1 a1 k6 ((n_4 * 2) + (n_4 / 9223372036854775808)) (i64 (i_5 + 1)) else some n_4
def hawthornref01_turn (a0 : UInt64) (a1 : Int) : Option UInt64 :=
  Option.bind (hawthornref01_turn_l1 a1 ((a1 - 0).toNat + 1) a0 0) fun p0 => some p0
theorem hawthornref01_turn.ok {G R F} (a0 : UInt64) (a1 : Int) (r : UInt64) (hm : hawthornref01_turn a0 a1 = some r) : CO Try.prog 87 [vW a0, vI a1] G R (F)
    (Ret fun u R' L' => u = vW r ∧ R' = R ∧ L' = F) := by
  unfold hawthornref01_turn at hm
  refine co_ofN (N := 19) Try.func87 rfl rfl ?_
  refine c_seq ?_
  refine c_reg ?_
  refine r_u (o_as rfl) ?_
  refine r_nil ?_
  refine x_seq ?_
  refine c_seq ?_
  refine c_seq ?_
  refine c_reg ?_
  refine r_u (o_as rfl) ?_
  refine r_nil ?_
  refine x_seq ?_
  obtain ⟨p0, hp1, hm2⟩ := bs hm
  refine cd_join (E' := [(0, vW p0)]) (L' := F) ?_ fun K3 => ?_
  · refine x_seq ?_
    refine c_seq ?_
    refine c_reg ?_
    refine r_u (o_mv rfl) ?_
    refine r_u (o_as rfl) ?_
    refine r_nil ?_
    refine x_seq ?_
    refine c_ret ?_
    obtain rfl := Option.some.inj hm2
    exact x_r1 rfl (rv_t rfl) (Le.refl _) ⟨_, rfl, rfl, rfl, rfl⟩
  · refine c_blk ?_
    refine cd_loop (M := fun k6 (s : UInt64 × Int) => hawthornref01_turn_l1 a1 k6 s.1 s.2 = some p0) (Ef := fun (s : UInt64 × Int) => [(1, vI a1), (0, vW s.1), (5, vI s.2)]) (Lf := fun (s : UInt64 × Int) => F) ((a1 - 0).toNat + 1) (a0, 0) hp1 ⟨rfl, rfl, rfl, trivial⟩ (fun _ h => h) (fun _ h => by cases h) fun k6 s hM8 => ?_
    obtain ⟨n_4, i_5⟩ := s
    have hm7 : hawthornref01_turn_l1 a1 (k6 + 1) n_4 i_5 = some p0 := hM8
    rw [hawthornref01_turn_l1] at hm7
    refine c_seq ?_
    refine c_seq ?_
    refine c_reg ?_
    refine r_u (o_mv rfl) ?_
    refine r_u (o_mv rfl) ?_
    refine r_u (o_bin rfl rfl (bI_lt i_5 a1)) ?_
    refine r_nil ?_
    refine x_seq ?_
    refine c_if (b := decide (i_5 < a1)) rfl (fun h9 => ?_) fun h9 => ?_
    · have hm10 := ift hm7 h9
      refine c_skip ?_
      refine x_seq ?_
      refine c_seq ?_
      refine c_blk ?_
      refine c_seq ?_
      refine c_reg ?_
      refine r_u (o_mv rfl) ?_
      refine r_u (o_bin rfl rfl (bW_quo n_4 9223372036854775808 (by decide))) ?_
      refine r_u (o_as rfl) ?_
      refine r_nil ?_
      refine x_seq ?_
      refine c_reg ?_
      refine r_u (o_mv rfl) ?_
      refine r_u (o_bin rfl rfl (bW_mul n_4 2)) ?_
      refine r_u (o_mv rfl) ?_
      refine r_u (o_bin rfl rfl (bW_add (n_4 * 2) (n_4 / 9223372036854775808))) ?_
      refine r_u (o_as rfl) ?_
      refine r_nil ?_
      refine x_blk ?_
      refine x_seq ?_
      refine c_reg ?_
      refine r_u (o_mv rfl) ?_
      refine r_u (o_bin rfl rfl (bI_add i_5 1)) ?_
      refine r_u (o_as rfl) ?_
      refine r_nil ?_
      exact x_lp ((n_4 * 2) + (n_4 / 9223372036854775808), i64 (i_5 + 1)) hm10 ⟨rfl, rfl, rfl, trivial⟩ (fun _ h => st_pk 0 [] (by decide) h)
    · have hm10 := iff_ hm7 h9
      refine c_exit (x_exit (ks' := _) rfl ?_)
      obtain rfl := Option.some.inj hm10
      exact x_sub K3 ⟨rfl, trivial⟩ (fun _ h => st_pk 0 [] (by decide) h)

def hawthornref01_Mix (a0 : UInt64) : Option UInt64 :=
  (hawthornref01_turn ((a0 ^^^ (a0 / 4294967296)) * 11400714819323198485) 29).bind fun r0 => some ((r0 * 11400714819323198485) ^^^ ((r0 * 11400714819323198485) / 4294967296))
theorem hawthornref01_Mix.ok {G R F} (a0 : UInt64) (r : UInt64) (hm : hawthornref01_Mix a0 = some r) : CO Try.prog 83 [vW a0] G R (F)
    (Ret fun u R' L' => u = vW r ∧ R' = R ∧ L' = F) := by
  unfold hawthornref01_Mix at hm
  refine co_ofN (N := 17) Try.func83 rfl rfl ?_
  refine c_seq ?_
  refine c_reg ?_
  refine r_u (o_as rfl) ?_
  refine r_nil ?_
  refine x_seq ?_
  refine c_seq ?_
  refine c_reg ?_
  refine r_u (o_mv rfl) ?_
  refine r_u (o_mv rfl) ?_
  refine r_u (o_bin rfl rfl (bW_quo a0 4294967296 (by decide))) ?_
  refine r_u (o_bin rfl rfl (bW_xor a0 (a0 / 4294967296))) ?_
  refine r_u (o_as rfl) ?_
  refine r_nil ?_
  refine x_seq ?_
  refine c_seq ?_
  refine c_reg ?_
  refine r_u (o_mv rfl) ?_
  refine r_u (o_bin rfl rfl (bW_mul (a0 ^^^ (a0 / 4294967296)) 11400714819323198485)) ?_
  refine r_u (o_as rfl) ?_
  refine r_nil ?_
  refine x_seq ?_
  refine c_seq ?_
  refine c_reg ?_
  refine r_u (o_mv rfl) ?_
  obtain ⟨r0, hr0, hm1⟩ := bs hm
  refine r_u (o_callq ca87 rfl (hawthornref01_turn.ok ((a0 ^^^ (a0 / 4294967296)) * 11400714819323198485) 29 r0 hr0)) ?_
  refine r_u (o_as rfl) ?_
  refine r_nil ?_
  refine x_seq ?_
  refine c_seq ?_
  refine c_reg ?_
  refine r_u (o_mv rfl) ?_
  refine r_u (o_bin rfl rfl (bW_mul r0 11400714819323198485)) ?_
  refine r_u (o_as rfl) ?_
  refine r_nil ?_
  refine x_seq ?_
  refine c_seq ?_
  refine c_reg ?_
  refine r_u (o_mv rfl) ?_
  refine r_u (o_mv rfl) ?_
  refine r_u (o_bin rfl rfl (bW_quo (r0 * 11400714819323198485) 4294967296 (by decide))) ?_
  refine r_u (o_bin rfl rfl (bW_xor (r0 * 11400714819323198485) ((r0 * 11400714819323198485) / 4294967296))) ?_
  refine r_u (o_as rfl) ?_
  refine r_nil ?_
  refine x_seq ?_
  refine c_ret ?_
  obtain rfl := Option.some.inj hm1
  exact x_r1 rfl (rv_t rfl) (Le.refl _) ⟨_, rfl, rfl, rfl, rfl⟩

def hawthornref01_Of_l1 (a1 : Str) : Nat → UInt64 → Int → Option (UInt64)
  | 0, _, _ => none
  | k10 + 1, h_8, i_9 => if decide (i_9 < (a1.length : Int)) then (gi a1 i_9).bind fun c15 => hawthornref01_Of_l1 a1 k10 ((h_8 ^^^ c15.toUInt64) * 1099511628211) (i64 (i_9 + 1)) else some h_8
def hawthornref01_Of (a0 : UInt64) (a1 : Str) : Option UInt64 :=
  (hawthornref01_Mix a0).bind fun r0 => Option.bind (hawthornref01_Of_l1 a1 (((a1.length : Int) - 0).toNat + 1) (14695981039346656037 ^^^ r0) 0) fun p2 => (hawthornref01_Mix (p2 ^^^ (toW (a1.length : Int)))).bind fun r6 => some r6
theorem hawthornref01_Of.ok {G R F} (a0 : UInt64) (a1 : Str) (r : UInt64) (hm : hawthornref01_Of a0 a1 = some r) : CO Try.prog 67 [vW a0, vS a1] G R (F)
    (Ret fun u R' L' => u = vW r ∧ R' = R ∧ L' = F) := by
  unfold hawthornref01_Of at hm
  refine co_ofN (N := 30) Try.func67 rfl rfl ?_
  refine c_seq ?_
  refine c_reg ?_
  refine r_u (o_as rfl) ?_
  refine r_nil ?_
  refine x_seq ?_
  refine c_seq ?_
  refine c_reg ?_
  refine r_u (o_mv rfl) ?_
  obtain ⟨r0, hr0, hm1⟩ := bs hm
  refine r_u (o_callq ca83 rfl (hawthornref01_Mix.ok a0 r0 hr0)) ?_
  refine r_u (o_bin rfl rfl (bW_xor 14695981039346656037 r0)) ?_
  refine r_u (o_as rfl) ?_
  refine r_nil ?_
  refine x_seq ?_
  refine c_seq ?_
  refine c_seq ?_
  refine c_reg ?_
  refine r_u (o_as rfl) ?_
  refine r_nil ?_
  refine x_seq ?_
  obtain ⟨p2, hp3, hm4⟩ := bs hm1
  refine cd_join (E' := [(1, vS a1), (5, vW p2)]) (L' := F) ?_ fun K5 => ?_
  · refine x_seq ?_
    refine c_seq ?_
    refine c_reg ?_
    refine r_u (o_mv rfl) ?_
    refine r_u (o_mv rfl) ?_
    refine r_u (o_lenS Try.underlying9 rfl) ?_
    refine r_u (o_cv rfl (cIW Try.underlying3 Try.underlying22 (a1.length : Int))) ?_
    refine r_u (o_bin rfl rfl (bW_xor p2 (toW (a1.length : Int)))) ?_
    obtain ⟨r6, hr6, hm7⟩ := bs hm4
    refine r_u (o_callq ca83 rfl (hawthornref01_Mix.ok (p2 ^^^ (toW (a1.length : Int))) r6 hr6)) ?_
    refine r_u (o_as rfl) ?_
    refine r_nil ?_
    refine x_seq ?_
    refine c_ret ?_
    obtain rfl := Option.some.inj hm7
    exact x_r1 rfl (rv_t rfl) (Le.refl _) ⟨_, rfl, rfl, rfl, rfl⟩
  · refine c_blk ?_
    refine cd_loop (M := fun k10 (s : UInt64 × Int) => hawthornref01_Of_l1 a1 k10 s.1 s.2 = some p2) (Ef := fun (s : UInt64 × Int) => [(1, vS a1), (5, vW s.1), (6, vI s.2)]) (Lf := fun (s : UInt64 × Int) => F) (((a1.length : Int) - 0).toNat + 1) (14695981039346656037 ^^^ r0, 0) hp3 ⟨rfl, rfl, rfl, trivial⟩ (fun _ h => h) (fun _ h => by cases h) fun k10 s hM12 => ?_
    obtain ⟨h_8, i_9⟩ := s
    have hm11 : hawthornref01_Of_l1 a1 (k10 + 1) h_8 i_9 = some p2 := hM12
    rw [hawthornref01_Of_l1] at hm11
    refine c_seq ?_
    refine c_seq ?_
    refine c_reg ?_
    refine r_u (o_mv rfl) ?_
    refine r_u (o_mv rfl) ?_
    refine r_u (o_lenS Try.underlying9 rfl) ?_
    refine r_u (o_bin rfl rfl (bI_lt i_9 (a1.length : Int))) ?_
    refine r_nil ?_
    refine x_seq ?_
    refine c_if (b := decide (i_9 < (a1.length : Int))) rfl (fun h13 => ?_) fun h13 => ?_
    · have hm14 := ift hm11 h13
      refine c_skip ?_
      refine x_seq ?_
      refine c_seq ?_
      refine c_blk ?_
      refine c_seq ?_
      refine c_reg ?_
      refine r_u (o_mv rfl) ?_
      refine r_u (o_mv rfl) ?_
      refine r_u (o_mv rfl) ?_
      obtain ⟨c15, hc15, hm16⟩ := bs hm14
      refine r_u (o_ixS Try.underlying9 rfl rfl hc15) ?_
      refine r_u (o_cv rfl (cYW Try.underlying5 Try.underlying22 c15)) ?_
      refine r_u (o_bin rfl rfl (bW_xor h_8 c15.toUInt64)) ?_
      refine r_u (o_as rfl) ?_
      refine r_nil ?_
      refine x_seq ?_
      refine c_reg ?_
      refine r_u (o_mv rfl) ?_
      refine r_u (o_bin rfl rfl (bW_mul (h_8 ^^^ c15.toUInt64) 1099511628211)) ?_
      refine r_u (o_as rfl) ?_
      refine r_nil ?_
      refine x_blk ?_
      refine x_seq ?_
      refine c_reg ?_
      refine r_u (o_mv rfl) ?_
      refine r_u (o_bin rfl rfl (bI_add i_9 1)) ?_
      refine r_u (o_as rfl) ?_
      refine r_nil ?_
      exact x_lp ((h_8 ^^^ c15.toUInt64) * 1099511628211, i64 (i_9 + 1)) hm16 ⟨rfl, rfl, rfl, trivial⟩ (fun _ h => st_pk 0 [] (by decide) h)
    · have hm14 := iff_ hm11 h13
      refine c_exit (x_exit (ks' := _) rfl ?_)
      obtain rfl := Option.some.inj hm14
      exact x_sub K5 ⟨rfl, rfl, trivial⟩ (fun _ h => st_pk 0 [] (by decide) h)

def hawthornref01_high (a0 : UInt64) (a1 : UInt64) : UInt64 :=
  (((a0 / 4294967296) * (a1 / 4294967296)) + ((((a0 / 4294967296) * (a1 % 4294967296)) + (((a0 % 4294967296) * (a1 % 4294967296)) / 4294967296)) / 4294967296)) + ((((a0 % 4294967296) * (a1 / 4294967296)) + ((((a0 / 4294967296) * (a1 % 4294967296)) + (((a0 % 4294967296) * (a1 % 4294967296)) / 4294967296)) % 4294967296)) / 4294967296)
theorem hawthornref01_high.ok {G R F} (a0 : UInt64) (a1 : UInt64) (r : UInt64) (hm : hawthornref01_high a0 a1 = r) : CO Try.prog 82 [vW a0, vW a1] G R (F)
    (Ret fun u R' L' => u = vW r ∧ R' = R ∧ L' = F) := by
  unfold hawthornref01_high at hm
  refine co_ofN (N := 42) Try.func82 rfl rfl ?_
  refine c_seq ?_
  refine c_reg ?_
  refine r_u (o_as rfl) ?_
  refine r_nil ?_
  refine x_seq ?_
  refine c_seq ?_
  refine c_reg ?_
  refine r_u (o_mv rfl) ?_
  refine r_u (o_bin rfl rfl (bW_quo a0 4294967296 (by decide))) ?_
  refine r_u (o_mv rfl) ?_
  refine r_u (o_bin rfl rfl (bW_rem a0 4294967296 (by decide))) ?_
  refine r_u (o_mv rfl) ?_
  refine r_u (o_bin rfl rfl (bW_quo a1 4294967296 (by decide))) ?_
  refine r_u (o_mv rfl) ?_
  refine r_u (o_bin rfl rfl (bW_rem a1 4294967296 (by decide))) ?_
  refine r_u (o_as rfl) ?_
  refine r_u (o_as rfl) ?_
  refine r_u (o_as rfl) ?_
  refine r_u (o_as rfl) ?_
  refine r_nil ?_
  refine x_seq ?_
  refine c_seq ?_
  refine c_reg ?_
  refine r_u (o_mv rfl) ?_
  refine r_u (o_mv rfl) ?_
  refine r_u (o_bin rfl rfl (bW_mul (a0 / 4294967296) (a1 % 4294967296))) ?_
  refine r_u (o_mv rfl) ?_
  refine r_u (o_mv rfl) ?_
  refine r_u (o_bin rfl rfl (bW_mul (a0 % 4294967296) (a1 % 4294967296))) ?_
  refine r_u (o_bin rfl rfl (bW_quo ((a0 % 4294967296) * (a1 % 4294967296)) 4294967296 (by decide))) ?_
  refine r_u (o_bin rfl rfl (bW_add ((a0 / 4294967296) * (a1 % 4294967296)) (((a0 % 4294967296) * (a1 % 4294967296)) / 4294967296))) ?_
  refine r_u (o_as rfl) ?_
  refine r_nil ?_
  refine x_seq ?_
  refine c_seq ?_
  refine c_reg ?_
  refine r_u (o_mv rfl) ?_
  refine r_u (o_mv rfl) ?_
  refine r_u (o_bin rfl rfl (bW_mul (a0 % 4294967296) (a1 / 4294967296))) ?_
  refine r_u (o_mv rfl) ?_
  refine r_u (o_bin rfl rfl (bW_rem (((a0 / 4294967296) * (a1 % 4294967296)) + (((a0 % 4294967296) * (a1 % 4294967296)) / 4294967296)) 4294967296 (by decide))) ?_
  refine r_u (o_bin rfl rfl (bW_add ((a0 % 4294967296) * (a1 / 4294967296)) ((((a0 / 4294967296) * (a1 % 4294967296)) + (((a0 % 4294967296) * (a1 % 4294967296)) / 4294967296)) % 4294967296))) ?_
  refine r_u (o_as rfl) ?_
  refine r_nil ?_
  refine x_seq ?_
  refine c_seq ?_
  refine c_reg ?_
  refine r_u (o_mv rfl) ?_
  refine r_u (o_mv rfl) ?_
  refine r_u (o_bin rfl rfl (bW_mul (a0 / 4294967296) (a1 / 4294967296))) ?_
  refine r_u (o_mv rfl) ?_
  refine r_u (o_bin rfl rfl (bW_quo (((a0 / 4294967296) * (a1 % 4294967296)) + (((a0 % 4294967296) * (a1 % 4294967296)) / 4294967296)) 4294967296 (by decide))) ?_
  refine r_u (o_bin rfl rfl (bW_add ((a0 / 4294967296) * (a1 / 4294967296)) ((((a0 / 4294967296) * (a1 % 4294967296)) + (((a0 % 4294967296) * (a1 % 4294967296)) / 4294967296)) / 4294967296))) ?_
  refine r_u (o_mv rfl) ?_
  refine r_u (o_bin rfl rfl (bW_quo (((a0 % 4294967296) * (a1 / 4294967296)) + ((((a0 / 4294967296) * (a1 % 4294967296)) + (((a0 % 4294967296) * (a1 % 4294967296)) / 4294967296)) % 4294967296)) 4294967296 (by decide))) ?_
  refine r_u (o_bin rfl rfl (bW_add (((a0 / 4294967296) * (a1 / 4294967296)) + ((((a0 / 4294967296) * (a1 % 4294967296)) + (((a0 % 4294967296) * (a1 % 4294967296)) / 4294967296)) / 4294967296)) ((((a0 % 4294967296) * (a1 / 4294967296)) + ((((a0 / 4294967296) * (a1 % 4294967296)) + (((a0 % 4294967296) * (a1 % 4294967296)) / 4294967296)) % 4294967296)) / 4294967296))) ?_
  refine r_u (o_as rfl) ?_
  refine r_nil ?_
  refine x_seq ?_
  refine c_ret ?_
  subst hm
  exact x_r1 rfl (rv_t rfl) (Le.refl _) ⟨_, rfl, rfl, rfl, rfl⟩

def hawthornref01_Place (a0 : UInt64) (a1 : Int) (a2 : Int) : Option Int :=
  if decide (a2 < 1) then some 0 else (hawthornref01_Mix (a0 + ((toW a1) * 11400714819323198485))).bind fun r2 => some (i64 ((hawthornref01_high r2 (toW a2)).toNat : Int))
theorem hawthornref01_Place.ok {G R F} (a0 : UInt64) (a1 : Int) (a2 : Int) (r : Int) (hm : hawthornref01_Place a0 a1 a2 = some r) : CO Try.prog 66 [vW a0, vI a1, vI a2] G R (F)
    (Ret fun u R' L' => u = vI r ∧ R' = R ∧ L' = F) := by
  unfold hawthornref01_Place at hm
  refine co_ofN (N := 19) Try.func66 rfl rfl ?_
  refine c_seq ?_
  refine c_reg ?_
  refine r_u (o_as rfl) ?_
  refine r_nil ?_
  refine x_seq ?_
  refine c_seq ?_
  refine c_seq ?_
  refine c_reg ?_
  refine r_u (o_mv rfl) ?_
  refine r_u (o_bin rfl rfl (bI_lt a2 1)) ?_
  refine r_nil ?_
  refine x_seq ?_
  refine c_if (b := decide (a2 < 1)) rfl (fun h0 => ?_) fun h0 => ?_
  · have hm1 := ift hm h0
    refine c_seq ?_
    refine c_reg ?_
    refine r_u (o_as rfl) ?_
    refine r_nil ?_
    refine x_seq ?_
    refine c_ret ?_
    obtain rfl := Option.some.inj hm1
    exact x_r1 rfl (rv_t rfl) (Le.refl _) ⟨_, rfl, rfl, rfl, rfl⟩
  · have hm1 := iff_ hm h0
    refine c_skip ?_
    refine x_seq ?_
    refine c_seq ?_
    refine c_reg ?_
    refine r_u (o_mv rfl) ?_
    refine r_u (o_mv rfl) ?_
    refine r_u (o_cv rfl (cIW Try.underlying3 Try.underlying22 a1)) ?_
    refine r_u (o_bin rfl rfl (bW_mul (toW a1) 11400714819323198485)) ?_
    refine r_u (o_bin rfl rfl (bW_add a0 ((toW a1) * 11400714819323198485))) ?_
    obtain ⟨r2, hr2, hm3⟩ := bs hm1
    refine r_u (o_callq ca83 rfl (hawthornref01_Mix.ok (a0 + ((toW a1) * 11400714819323198485)) r2 hr2)) ?_
    refine r_u (o_mv rfl) ?_
    refine r_u (o_cv rfl (cIW Try.underlying3 Try.underlying22 a2)) ?_
    refine r_u (o_callq ca82 rfl (hawthornref01_high.ok r2 (toW a2) _ rfl)) ?_
    refine r_u (o_cv rfl (cWI Try.underlying22 Try.underlying3 (hawthornref01_high r2 (toW a2)))) ?_
    refine r_u (o_as rfl) ?_
    refine r_nil ?_
    refine x_seq ?_
    refine c_ret ?_
    obtain rfl := Option.some.inj hm3
    exact x_r1 rfl (rv_t rfl) (Le.refl _) ⟨_, rfl, rfl, rfl, rfl⟩

def hawthornref05_Sketch_place (a0 : hawthornref05_Sketch) (a1 : Str) (a2 : Int) : Option Int :=
  (hawthornref01_Of a0.Seed a1).bind fun r1 => (hawthornref01_Place r1 a2 a0.Wide).bind fun r3 => some r3
theorem hawthornref05_Sketch_place.ok {G R F} (a0 : hawthornref05_Sketch) (g0_ : hawthornref05_Sketch.G) (h0 : hawthornref05_Sketch.ro R a0 g0_) (a1 : Str) (a2 : Int) (r : Int) (hm : hawthornref05_Sketch_place a0 a1 a2 = some r) : CO Try.prog 46 [.agg [vI a0.Wide, vW a0.Seed, g0_.Rows.1, g0_.Door, vI a0.Added].toArray, vS a1, vI a2] G R (F)
    (Ret fun u R' L' => u = vI r ∧ R' = R ∧ L' = F) := by
  unfold hawthornref05_Sketch_place at hm
  refine co_ofN (N := 15) Try.func46 rfl rfl ?_
  refine c_seq ?_
  refine c_reg ?_
  refine r_new (o_bx [vI a0.Wide, vW a0.Seed, g0_.Rows.1, g0_.Door, vI a0.Added] rfl rfl) fun b0 => ?_
  refine r_u (o_as rfl) ?_
  refine r_nil ?_
  refine x_seq ?_
  refine c_seq ?_
  obtain ⟨r1, hr1, hm2⟩ := bs hm
  obtain ⟨r3, hr3, hm4⟩ := bs hm2
  refine c_any mixed (effs := []) (V := []) ?_
  refine stage_ext [(0, pt b0 1), (1, vW a0.Seed), (2, vS a1), (3, vW r1), (4, vI a2), (5, pt b0 0), (6, vI a0.Wide), (7, vI r3), (8, vI r3)] rfl ?_
  refine stage rfl rfl rfl rfl [0, 1, 0, 7, 0, 0, 32, 127, 255] [0, 1, 2, 3, 4, 5, 6, 7, 8] [] rfl rfl rfl (qc rfl rfl (s_u (o_fa fa36_1 rfl)) (qc rfl rfl (s_u (o_ld 0 sc22 rfl rfl rfl)) (qc rfl rfl (s_u (o_mv rfl)) (qc rfl rfl (s_u (o_callq ca67 rfl (hawthornref01_Of.ok a0.Seed a1 r1 hr1))) (qc rfl rfl (s_u (o_mv rfl)) (qc rfl rfl (s_u (o_fa fa36_0 rfl)) (qc rfl rfl (s_u (o_ld 0 sc3 rfl rfl rfl)) (qc rfl rfl (s_u (o_callq ca66 rfl (hawthornref01_Place.ok r1 a2 a0.Wide r3 hr3))) (qc rfl rfl (s_u (o_as rfl)) qn))))))))) en ?_
  intro _
  refine ex_sub (E' := [(6, vI r3)]) ⟨rfl, trivial⟩ ?_
  refine x_seq ?_
  refine c_ret ?_
  obtain rfl := Option.some.inj hm4
  refine ex_st (fun _ h => st_pk 1 [] (by decide) h) ?_
  exact x_r1 rfl (rv_t rfl) (Le.refl _) ⟨_, rfl, rfl, rfl, rfl⟩

def hawthornref05_Sketch_least_l1 (a0 : hawthornref05_Sketch) (a1 : Str) : Nat → Int → Int → Option (Int)
  | 0, _, _ => none
  | k7 + 1, n_5, i_6 => if decide (i_6 < 4) then (gi a0.Rows i_6).bind fun x12 => (hawthornref05_Sketch_place a0 a1 i_6).bind fun r15 => (gi x12 r15).bind fun x17 => Option.bind (if decide (x17 < n_5) then some x17 else some n_5) fun p19 => hawthornref05_Sketch_least_l1 a0 a1 k7 p19 (i64 (i_6 + 1)) else some n_5
def hawthornref05_Sketch_least (a0 : hawthornref05_Sketch) (a1 : Str) : Option Int :=
  Option.bind (hawthornref05_Sketch_least_l1 a0 a1 5 15 0) fun p1 => some p1
theorem hawthornref05_Sketch_least.ok {G R F} (a0 : hawthornref05_Sketch) (g0_ : hawthornref05_Sketch.G) (h0 : hawthornref05_Sketch.ro R a0 g0_) (a1 : Str) (r : Int) (hm : hawthornref05_Sketch_least a0 a1 = some r) : CO Try.prog 45 [.agg [vI a0.Wide, vW a0.Seed, g0_.Rows.1, g0_.Door, vI a0.Added].toArray, vS a1] G R (F)
    (Ret fun u R' L' => u = vI r ∧ R' = R ∧ L' = F) := by
  unfold hawthornref05_Sketch_least at hm
  refine co_ofN (N := 28) Try.func45 rfl rfl ?_
  refine c_seq ?_
  refine c_reg ?_
  refine r_new (o_bx [vI a0.Wide, vW a0.Seed, g0_.Rows.1, g0_.Door, vI a0.Added] rfl rfl) fun b0 => ?_
  refine r_u (o_as rfl) ?_
  refine r_nil ?_
  refine x_seq ?_
  refine c_seq ?_
  refine c_reg ?_
  refine r_u (o_as rfl) ?_
  refine r_nil ?_
  refine x_seq ?_
  refine c_seq ?_
  refine c_seq ?_
  refine c_reg ?_
  refine r_u (o_as rfl) ?_
  refine r_nil ?_
  refine x_seq ?_
  obtain ⟨p1, hp2, hm3⟩ := bs hm
  refine cd_join (E' := [(5, vI p1)]) (L' := Bk b0 36 [vI a0.Wide, vW a0.Seed, g0_.Rows.1, g0_.Door, vI a0.Added] :: F) ?_ fun K4 => ?_
  · refine x_seq ?_
    refine c_seq ?_
    refine c_reg ?_
    refine r_u (o_mv rfl) ?_
    refine r_u (o_as rfl) ?_
    refine r_nil ?_
    refine x_seq ?_
    refine c_ret ?_
    obtain rfl := Option.some.inj hm3
    refine ex_st (fun _ h => st_pk 1 [] (by decide) h) ?_
    exact x_r1 rfl (rv_t rfl) (Le.refl _) ⟨_, rfl, rfl, rfl, rfl⟩
  · refine c_blk ?_
    refine cd_loop (M := fun k7 (s : Int × Int) => hawthornref05_Sketch_least_l1 a0 a1 k7 s.1 s.2 = some p1) (Ef := fun (s : Int × Int) => [(1, vS a1), (2, pt b0 0), (5, vI s.1), (6, vI s.2)]) (Lf := fun (s : Int × Int) => Bk b0 36 [vI a0.Wide, vW a0.Seed, g0_.Rows.1, g0_.Door, vI a0.Added] :: F) 5 (15, 0) hp2 ⟨rfl, rfl, rfl, rfl, trivial⟩ (fun _ h => h) (fun _ h => by cases h) fun k7 s hM9 => ?_
    obtain ⟨n_5, i_6⟩ := s
    have hm8 : hawthornref05_Sketch_least_l1 a0 a1 (k7 + 1) n_5 i_6 = some p1 := hM9
    rw [hawthornref05_Sketch_least_l1] at hm8
    refine c_seq ?_
    refine c_seq ?_
    refine c_reg ?_
    refine r_u (o_mv rfl) ?_
    refine r_u (o_bin rfl rfl (bI_lt i_6 4)) ?_
    refine r_nil ?_
    refine x_seq ?_
    refine c_if (b := decide (i_6 < 4)) rfl (fun h10 => ?_) fun h10 => ?_
    · have hm11 := ift hm8 h10
      refine c_skip ?_
      refine x_seq ?_
      refine c_seq ?_
      refine c_blk ?_
      refine c_seq ?_
      obtain ⟨x12, hx12, hm14⟩ := bs hm11
      obtain ⟨b12, o12, l12, T12, fr12, c12, u13, hv12, hR12, he12, hi12, hN12⟩ := RoN.ne h0.1 hx12
      obtain ⟨r15, hr15, hm16⟩ := bs hm14
      obtain ⟨x17, hx17, hm18⟩ := bs hm16
      obtain ⟨b17, o17, l17, T17, fr17, c17, hv17, hR17, he17, hi17⟩ := RoS.ne hN12 hx17
      refine c_any mixed (effs := []) (V := []) ?_
      refine stage_ext [(0, pt b0 2), (1, g0_.Rows.1), (2, vI i_6), (3, pt b12 (o12 + i_6.toNat * 1)), (4, u13), (5, .agg [vI a0.Wide, vW a0.Seed, g0_.Rows.1, g0_.Door, vI a0.Added].toArray), (6, vS a1), (7, vI i_6), (8, vI r15), (9, pt b17 (o17 + r15.toNat * 1)), (10, vI x17), (11, vI x17)] rfl ?_
      refine stage rfl rfl rfl rfl [0, 1, 0, 7, 15, 0, 0, 0, 224, 511, 1023, 2047] [0, 1, 2, 3, 4, 5, 6, 7, 8, 9, 10, 11] [] rfl rfl rfl (qc rfl rfl (s_u (o_fa fa36_2 rfl)) (qc rfl rfl (s_u (o_ld 0 sc33 rfl rfl rfl)) (qc rfl rfl (s_u (o_mv rfl)) (qc rfl rfl (s_u (o_ix (sz := 1) Try.underlying33 (fun _ => by kernel_rfl) rfl rfl hv12 hi12)) (qc rfl rfl (s_u (o_ldR sc74 rfl hR12 (rok 0 he12 (by decide)))) (qc rfl rfl (s_u (o_ldn 0 [vI a0.Wide, vW a0.Seed, g0_.Rows.1, g0_.Door, vI a0.Added] ag36 rfl rfl rfl rfl)) (qc rfl rfl (s_u (o_mv rfl)) (qc rfl rfl (s_u (o_mv rfl)) (qc rfl rfl (s_u (o_callq ca46 rfl (hawthornref05_Sketch_place.ok a0 (⟨(g0_.Rows.1, []), g0_.Door⟩ : hawthornref05_Sketch.G) ⟨h0.1, h0.2⟩ a1 i_6 r15 hr15))) (qc rfl rfl (s_u (o_ix (sz := 1) Try.underlying74 (fun _ => by kernel_rfl) rfl rfl hv17 hi17)) (qc rfl rfl (s_u (o_ldR sc3 rfl hR17 (rok 0 he17 (by decide)))) (qc rfl rfl (s_u (o_as rfl)) qn)))))))))))) en ?_
      intro _
      refine ex_sub (E' := [(1, vS a1), (2, pt b0 0), (5, vI n_5), (6, vI i_6), (7, vI x17)]) ⟨rfl, rfl, rfl, rfl, rfl, trivial⟩ ?_
      refine x_seq ?_
      refine c_seq ?_
      refine c_reg ?_
      refine r_u (o_mv rfl) ?_
      refine r_u (o_mv rfl) ?_
      refine r_u (o_bin rfl rfl (bI_lt x17 n_5)) ?_
      refine r_nil ?_
      refine x_seq ?_
      obtain ⟨p19, hp20, hm21⟩ := bs hm18
      refine cd_join (E' := [(1, vS a1), (2, pt b0 0), (6, vI i_6), (5, vI p19)]) (L' := Bk b0 36 [vI a0.Wide, vW a0.Seed, g0_.Rows.1, g0_.Door, vI a0.Added] :: F) ?_ fun K22 => ?_
      · refine x_blk ?_
        refine x_seq ?_
        refine c_reg ?_
        refine r_u (o_mv rfl) ?_
        refine r_u (o_bin rfl rfl (bI_add i_6 1)) ?_
        refine r_u (o_as rfl) ?_
        refine r_nil ?_
        exact x_lp (p19, i64 (i_6 + 1)) hm21 ⟨rfl, rfl, rfl, rfl, trivial⟩ (fun _ h => st_pk 1 [0] (by decide) h)
      · refine c_if (b := decide (x17 < n_5)) rfl (fun h23 => ?_) fun h23 => ?_
        · have hm24 := ift hp20 h23
          refine c_reg ?_
          refine r_u (o_mv rfl) ?_
          refine r_u (o_as rfl) ?_
          refine r_nil ?_
          obtain rfl := Option.some.inj hm24
          exact x_sub K22 ⟨rfl, rfl, rfl, rfl, trivial⟩ (fun _ h => st_pk 1 [0] (by decide) h)
        · have hm24 := iff_ hp20 h23
          refine c_skip ?_
          obtain rfl := Option.some.inj hm24
          exact x_sub K22 ⟨rfl, rfl, rfl, rfl, trivial⟩ (fun _ h => st_pk 1 [0] (by decide) h)
    · have hm11 := iff_ hm8 h10
      refine c_exit (x_exit (ks' := _) rfl ?_)
      obtain rfl := Option.some.inj hm11
      exact x_sub K4 ⟨rfl, trivial⟩ (fun _ h => st_pk 1 [0] (by decide) h)

def hawthornref05_Sketch_Seen (a0 : hawthornref05_Sketch) (a1 : Str) : Option Int :=
  (hawthornref05_Sketch_least a0 a1).bind fun r1 => (hawthornref05_Sketch_place a0 a1 4).bind fun r3 => (gi a0.Door r3).bind fun x5 => if x5 then some (i64 (r1 + 1)) else some r1
theorem hawthornref05_Sketch_Seen.ok {G R F} (a0 : hawthornref05_Sketch) (g0_ : hawthornref05_Sketch.G) (h0 : hawthornref05_Sketch.ro R a0 g0_) (a1 : Str) (r : Int) (hm : hawthornref05_Sketch_Seen a0 a1 = some r) : CO Try.prog 18 [.agg [vI a0.Wide, vW a0.Seed, g0_.Rows.1, g0_.Door, vI a0.Added].toArray, vS a1] G R (F)
    (Ret fun u R' L' => u = vI r ∧ R' = R ∧ L' = F) := by
  unfold hawthornref05_Sketch_Seen at hm
  refine co_ofN (N := 19) Try.func18 rfl rfl ?_
  refine c_seq ?_
  refine c_reg ?_
  refine r_new (o_bx [vI a0.Wide, vW a0.Seed, g0_.Rows.1, g0_.Door, vI a0.Added] rfl rfl) fun b0 => ?_
  refine r_u (o_as rfl) ?_
  refine r_nil ?_
  refine x_seq ?_
  refine c_seq ?_
  refine c_reg ?_
  refine r_u (o_ldn 0 [vI a0.Wide, vW a0.Seed, g0_.Rows.1, g0_.Door, vI a0.Added] ag36 rfl rfl rfl rfl) ?_
  refine r_u (o_mv rfl) ?_
  obtain ⟨r1, hr1, hm2⟩ := bs hm
  refine r_u (o_callq ca45 rfl (hawthornref05_Sketch_least.ok a0 (⟨(g0_.Rows.1, []), g0_.Door⟩ : hawthornref05_Sketch.G) ⟨h0.1, h0.2⟩ a1 r1 hr1)) ?_
  refine r_u (o_as rfl) ?_
  refine r_nil ?_
  refine x_seq ?_
  refine c_seq ?_
  refine c_seq ?_
  obtain ⟨r3, hr3, hm4⟩ := bs hm2
  obtain ⟨x5, hx5, hm6⟩ := bs hm4
  obtain ⟨b5, o5, l5, T5, fr5, c5, hv5, hR5, he5, hi5⟩ := RoS.ne h0.2 hx5
  refine c_any mixed (effs := []) (V := []) ?_
  refine stage_ext [(0, pt b0 3), (1, g0_.Door), (2, .agg [vI a0.Wide, vW a0.Seed, g0_.Rows.1, g0_.Door, vI a0.Added].toArray), (3, vS a1), (4, vI r3), (5, pt b5 (o5 + r3.toNat * 1)), (6, vB x5)] rfl ?_
  refine stage rfl rfl rfl rfl [0, 1, 0, 0, 12, 31, 63] [0, 1, 2, 3, 4, 5, 6] [] rfl rfl rfl (qc rfl rfl (s_u (o_fa fa36_3 rfl)) (qc rfl rfl (s_u (o_ld 0 sc34 rfl rfl rfl)) (qc rfl rfl (s_u (o_ldn 0 [vI a0.Wide, vW a0.Seed, g0_.Rows.1, g0_.Door, vI a0.Added] ag36 rfl rfl rfl rfl)) (qc rfl rfl (s_u (o_mv rfl)) (qc rfl rfl (s_u (o_callq ca46 rfl (hawthornref05_Sketch_place.ok a0 (⟨(g0_.Rows.1, []), g0_.Door⟩ : hawthornref05_Sketch.G) ⟨h0.1, h0.2⟩ a1 4 r3 hr3))) (qc rfl rfl (s_u (o_ix (sz := 1) Try.underlying34 (fun _ => by kernel_rfl) rfl rfl hv5 hi5)) (qc rfl rfl (s_u (o_ldR sc4 rfl hR5 (rok 0 he5 (by decide)))) qn))))))) en ?_
  intro _
  refine ex_sub (E' := [(5, vI r1), (15, vB x5)]) ⟨rfl, rfl, trivial⟩ ?_
  refine x_seq ?_
  refine c_if (b := x5) rfl (fun h7 => ?_) fun h7 => ?_
  · have hm8 := ift hm6 h7
    refine c_reg ?_
    refine r_u (o_mv rfl) ?_
    refine r_u (o_bin rfl rfl (bI_add r1 1)) ?_
    refine r_u (o_as rfl) ?_
    refine r_nil ?_
    refine x_seq ?_
    refine c_seq ?_
    refine c_reg ?_
    refine r_u (o_mv rfl) ?_
    refine r_u (o_as rfl) ?_
    refine r_nil ?_
    refine x_seq ?_
    refine c_ret ?_
    obtain rfl := Option.some.inj hm8
    refine ex_st (fun _ h => st_pk 1 [] (by decide) h) ?_
    exact x_r1 rfl (rv_t rfl) (Le.refl _) ⟨_, rfl, rfl, rfl, rfl⟩
  · have hm8 := iff_ hm6 h7
    refine c_skip ?_
    refine x_seq ?_
    refine c_seq ?_
    refine c_reg ?_
    refine r_u (o_mv rfl) ?_
    refine r_u (o_as rfl) ?_
    refine r_nil ?_
    refine x_seq ?_
    refine c_ret ?_
    obtain rfl := Option.some.inj hm8
    refine ex_st (fun _ h => st_pk 1 [] (by decide) h) ?_
    exact x_r1 rfl (rv_t rfl) (Le.refl _) ⟨_, rfl, rfl, rfl, rfl⟩

def hawthornref05_Sketch_Age_l25 (a0 : hawthornref05_Sketch) (i_12 : Int) : Nat → Int → (List (List Int)) → Option (List (List Int))
  | 0, _, _ => none
  | k29 + 1, k_27, c_28 => if decide (k_27 < a0.Wide) then (gi c_28 i_12).bind fun y34 => (gi a0.Rows i_12).bind fun x37 => (gi x37 k_27).bind fun x40 => (gi y34 k_27).bind fun x42 => hawthornref05_Sketch_Age_l25 a0 i_12 k29 (i64 (k_27 + 1)) (ls c_28 i_12 (ls y34 k_27 (i64 (x40.tdiv 2)))) else some c_28
def hawthornref05_Sketch_Age_l21 (a0 : hawthornref05_Sketch) : Nat → Int → (List (List Int)) → Option (List (List Int))
  | 0, _, _ => none
  | k14 + 1, i_12, c_13 => if decide (i_12 < 4) then Option.bind (Option.bind (hawthornref05_Sketch_Age_l25 a0 i_12 ((a0.Wide - 0).toNat + 1) 0 c_13) fun p23 => some p23) fun p19 => hawthornref05_Sketch_Age_l21 a0 k14 (i64 (i_12 + 1)) p19 else some c_13
def hawthornref05_Sketch_Age (a0 : hawthornref05_Sketch) : Option hawthornref05_Sketch :=
  (hawthornref05_New a0.Wide a0.Seed).bind fun r2 => Option.bind (hawthornref05_Sketch_Age_l21 a0 5 0 r2.Rows) fun p8 => some (⟨r2.Wide, r2.Seed, p8, r2.Door, i64 (a0.Added.tdiv 2)⟩ : hawthornref05_Sketch)
theorem hawthornref05_Sketch_Age.ok {G R F} (a0 : hawthornref05_Sketch) (g0_ : hawthornref05_Sketch.G) (h0 : hawthornref05_Sketch.ro R a0 g0_) (r : hawthornref05_Sketch) (hm : hawthornref05_Sketch_Age a0 = some r) : CO Try.prog 24 [.agg [vI a0.Wide, vW a0.Seed, g0_.Rows.1, g0_.Door, vI a0.Added].toArray] G R (F)
    (Ret fun u R' L' => ∃ (p0 : hawthornref05_Sketch.G), u = .agg [vI r.Wide, vW r.Seed, p0.Rows.1, p0.Door, vI r.Added].toArray ∧ R' = R ∧ L' = OwS true 74 1 eV p0.Rows.1 p0.Rows.2 :: OwL (OwS true 3 1 eI) p0.Rows.2 r.Rows :: OwS true 4 1 eB p0.Door r.Door :: F) := by
  unfold hawthornref05_Sketch_Age at hm
  refine co_ofN (N := 42) Try.func24 rfl rfl ?_
  refine c_seq ?_
  refine c_reg ?_
  refine r_new (o_bx [vI a0.Wide, vW a0.Seed, g0_.Rows.1, g0_.Door, vI a0.Added] rfl rfl) fun b0 => ?_
  refine r_new (o_al ze36) fun b1 => ?_
  refine r_nil ?_
  refine x_seq ?_
  refine c_seq ?_
  refine c_reg ?_
  refine r_u (o_fa fa36_0 rfl) ?_
  refine r_u (o_ld 1 sc3 rfl rfl rfl) ?_
  refine r_u (o_fa fa36_1 rfl) ?_
  refine r_u (o_ld 1 sc22 rfl rfl rfl) ?_
  obtain ⟨r2, hr2, hm6⟩ := bs hm
  refine r_sw (s_w (o_call ca44 rfl (hawthornref05_New.ok a0.Wide a0.Seed r2 hr2))) ?_
  rintro _ R _ _ ⟨v3, rfl, rfl, rfl⟩
  refine r_new (o_al ze36) fun b7 => ?_
  refine rl_st (fun _ h => st_pk 6 [0, 1, 3, 2, 4, 5] (by decide) h) ?_
  refine r_u0 (ou_if (one_o 1 rfl) fun ho0 => ou_if (one_o 2 rfl) fun ho1 => o_stn ag36 rfl rfl rfl (al_c rfl (al_c rfl (al_c ho0 (al_c ho1 (al_c rfl al_n))))) rfl rfl rfl) ?_
  refine r_nil ?_
  refine x_seq ?_
  refine c_seq ?_
  refine c_seq ?_
  refine c_reg ?_
  refine r_u (o_as rfl) ?_
  refine r_nil ?_
  refine x_seq ?_
  obtain ⟨p8, hp9, hm10⟩ := bs hm6
  refine cd_join (E' := [(1, pt b0 0), (2, pt b1 0), (3, pt b7 0)]) (L' := Bk b7 36 [vI r2.Wide, vW r2.Seed, v3.Rows.1, v3.Door, vI r2.Added] :: Bk b1 36 [vI 0, vW 0, .slice none 0 0, .slice none 0 0, vI 0] :: Bk b0 36 [vI a0.Wide, vW a0.Seed, g0_.Rows.1, g0_.Door, vI a0.Added] :: OwS true 74 1 eV v3.Rows.1 v3.Rows.2 :: OwS true 4 1 eB v3.Door r2.Door :: OwL (OwS true 3 1 eI) v3.Rows.2 p8 :: F) ?_ fun K11 => ?_
  · refine x_seq ?_
    refine c_seq ?_
    refine c_reg ?_
    refine r_u (o_fa fa36_4 rfl) ?_
    refine r_u (o_ld 2 sc3 rfl rfl rfl) ?_
    refine r_u (o_bin rfl rfl (bI_quo a0.Added 2 (by decide))) ?_
    refine r_u (o_fa fa36_4 rfl) ?_
    refine r_u0 (o_st sc3 rfl rfl rfl rfl rfl rfl) ?_
    refine r_nil ?_
    refine x_seq ?_
    refine c_seq ?_
    refine c_reg ?_
    refine r_u (o_ldn 0 [vI r2.Wide, vW r2.Seed, v3.Rows.1, v3.Door, vI (i64 (a0.Added.tdiv 2))] ag36 rfl rfl rfl rfl) ?_
    refine rl_st (fun _ h => st_pk 6 [1, 3, 4, 0, 2, 5] (by decide) h) ?_
    refine r_u0 (ou_if (one_o 1 rfl) fun ho0 => ou_if (one_o 2 rfl) fun ho1 => o_stn ag36 rfl rfl rfl (al_c rfl (al_c rfl (al_c ho0 (al_c ho1 (al_c rfl al_n))))) rfl rfl rfl) ?_
    refine r_nil ?_
    refine x_seq ?_
    refine c_ret ?_
    obtain rfl := Option.some.inj hm10
    exact x_d1 rfl (rv_n 0 [vI r2.Wide, vW r2.Seed, v3.Rows.1, v3.Door, vI (i64 (a0.Added.tdiv 2))] ag36 rfl rfl rfl rfl) (fun _ h => st_pk 6 [1, 5, 2] (by decide) h) (Le.refl _) ⟨_, rfl, v3, rfl, rfl, rfl⟩
  · refine c_blk ?_
    refine cd_loop (M := fun k14 (s : Int × List (List Int)) => hawthornref05_Sketch_Age_l21 a0 k14 s.1 s.2 = some p8) (Ef := fun (s : Int × List (List Int)) => [(1, pt b0 0), (2, pt b1 0), (3, pt b7 0), (4, vI s.1)]) (Lf := fun (s : Int × List (List Int)) => Bk b7 36 [vI r2.Wide, vW r2.Seed, v3.Rows.1, v3.Door, vI r2.Added] :: Bk b1 36 [vI 0, vW 0, .slice none 0 0, .slice none 0 0, vI 0] :: Bk b0 36 [vI a0.Wide, vW a0.Seed, g0_.Rows.1, g0_.Door, vI a0.Added] :: OwS true 74 1 eV v3.Rows.1 v3.Rows.2 :: OwS true 4 1 eB v3.Door r2.Door :: OwL (OwS true 3 1 eI) v3.Rows.2 s.2 :: F) 5 (0, r2.Rows) hp9 ⟨rfl, rfl, rfl, rfl, trivial⟩ (fun _ h => st_pk 6 [0, 4, 5, 1, 2, 3] (by decide) h) (fun _ h => by cases h) fun k14 s hM16 => ?_
    obtain ⟨i_12, c_13⟩ := s
    have hm15 : hawthornref05_Sketch_Age_l21 a0 (k14 + 1) i_12 c_13 = some p8 := hM16
    rw [hawthornref05_Sketch_Age_l21] at hm15
    refine c_seq ?_
    refine c_seq ?_
    refine c_reg ?_
    refine r_u (o_mv rfl) ?_
    refine r_u (o_bin rfl rfl (bI_lt i_12 4)) ?_
    refine r_nil ?_
    refine x_seq ?_
    refine c_if (b := decide (i_12 < 4)) rfl (fun h17 => ?_) fun h17 => ?_
    · have hm18 := ift hm15 h17
      refine c_skip ?_
      refine x_seq ?_
      refine c_seq ?_
      obtain ⟨p19, hp20, hm21⟩ := bs hm18
      refine cd_join (E' := [(1, pt b0 0), (2, pt b1 0), (3, pt b7 0), (4, vI i_12)]) (L' := Bk b7 36 [vI r2.Wide, vW r2.Seed, v3.Rows.1, v3.Door, vI r2.Added] :: Bk b1 36 [vI 0, vW 0, .slice none 0 0, .slice none 0 0, vI 0] :: Bk b0 36 [vI a0.Wide, vW a0.Seed, g0_.Rows.1, g0_.Door, vI a0.Added] :: OwS true 74 1 eV v3.Rows.1 v3.Rows.2 :: OwS true 4 1 eB v3.Door r2.Door :: OwL (OwS true 3 1 eI) v3.Rows.2 p19 :: F) ?_ fun K22 => ?_
      · refine x_seq ?_
        refine c_reg ?_
        refine r_u (o_mv rfl) ?_
        refine r_u (o_bin rfl rfl (bI_add i_12 1)) ?_
        refine r_u (o_as rfl) ?_
        refine r_nil ?_
        exact x_lp (i64 (i_12 + 1), p19) hm21 ⟨rfl, rfl, rfl, rfl, trivial⟩ (fun _ h => st_pk 6 [0, 1, 2, 3, 4, 5] (by decide) h)
      · refine c_blk ?_
        refine c_seq ?_
        refine c_reg ?_
        refine r_u (o_as rfl) ?_
        refine r_nil ?_
        refine x_seq ?_
        obtain ⟨p23, hp24, hm25⟩ := bs hp20
        refine cd_join (E' := [(1, pt b0 0), (2, pt b1 0), (3, pt b7 0), (4, vI i_12)]) (L' := Bk b7 36 [vI r2.Wide, vW r2.Seed, v3.Rows.1, v3.Door, vI r2.Added] :: Bk b1 36 [vI 0, vW 0, .slice none 0 0, .slice none 0 0, vI 0] :: Bk b0 36 [vI a0.Wide, vW a0.Seed, g0_.Rows.1, g0_.Door, vI a0.Added] :: OwS true 74 1 eV v3.Rows.1 v3.Rows.2 :: OwS true 4 1 eB v3.Door r2.Door :: OwL (OwS true 3 1 eI) v3.Rows.2 p23 :: F) ?_ fun K26 => ?_
        · refine x_blk ?_
          obtain rfl := Option.some.inj hm25
          exact x_sub K22 ⟨rfl, rfl, rfl, rfl, trivial⟩ (fun _ h => st_pk 6 [0, 1, 2, 3, 4, 5] (by decide) h)
        · refine c_blk ?_
          refine cd_loop (M := fun k29 (s : Int × List (List Int)) => hawthornref05_Sketch_Age_l25 a0 i_12 k29 s.1 s.2 = some p23) (Ef := fun (s : Int × List (List Int)) => [(1, pt b0 0), (2, pt b1 0), (3, pt b7 0), (4, vI i_12), (5, vI s.1)]) (Lf := fun (s : Int × List (List Int)) => Bk b7 36 [vI r2.Wide, vW r2.Seed, v3.Rows.1, v3.Door, vI r2.Added] :: Bk b1 36 [vI 0, vW 0, .slice none 0 0, .slice none 0 0, vI 0] :: Bk b0 36 [vI a0.Wide, vW a0.Seed, g0_.Rows.1, g0_.Door, vI a0.Added] :: OwS true 74 1 eV v3.Rows.1 v3.Rows.2 :: OwS true 4 1 eB v3.Door r2.Door :: OwL (OwS true 3 1 eI) v3.Rows.2 s.2 :: F) ((a0.Wide - 0).toNat + 1) (0, c_13) hp24 ⟨rfl, rfl, rfl, rfl, rfl, trivial⟩ (fun _ h => h) (fun _ h => by cases h) fun k29 s hM31 => ?_
          obtain ⟨k_27, c_28⟩ := s
          have hm30 : hawthornref05_Sketch_Age_l25 a0 i_12 (k29 + 1) k_27 c_28 = some p23 := hM31
          rw [hawthornref05_Sketch_Age_l25] at hm30
          refine c_seq ?_
          refine c_seq ?_
          refine c_reg ?_
          refine r_u (o_mv rfl) ?_
          refine r_u (o_fa fa36_0 rfl) ?_
          refine r_u (o_ld 2 sc3 rfl rfl rfl) ?_
          refine r_u (o_bin rfl rfl (bI_lt k_27 a0.Wide)) ?_
          refine r_nil ?_
          refine x_seq ?_
          refine c_if (b := decide (k_27 < a0.Wide)) rfl (fun h32 => ?_) fun h32 => ?_
          · have hm33 := ift hm30 h32
            refine c_skip ?_
            refine x_seq ?_
            refine c_seq ?_
            refine c_blk ?_
            obtain ⟨y34, hy34, hm36⟩ := bs hm33
            refine cd_ex (fun w h => st_peek 5 hy34 rfl w h) fun u35 hu35 => ?_
            obtain ⟨x37, hx37, hm39⟩ := bs hm36
            obtain ⟨b37, o37, l37, T37, fr37, c37, u38, hv37, hR37, he37, hi37, hN37⟩ := RoN.ne h0.1 hx37
            obtain ⟨x40, hx40, hm41⟩ := bs hm39
            obtain ⟨b40, o40, l40, T40, fr40, c40, hv40, hR40, he40, hi40⟩ := RoS.ne hN37 hx40
            obtain ⟨x42, hx42, hm43⟩ := bs hm41
            refine c_any mixed (effs := [16]) (V := []) ?_
            refine stage_st (fun _ h => st_pk 6 [5, 0, 1, 2, 3, 4] (by decide) h) ?_
            refine stage_ext [(0, pt b7 2), (1, v3.Rows.1), (2, vI i_12), (3, pt (sb v3.Rows.1) (so v3.Rows.1 + i_12.toNat * 1)), (4, u35), (5, vI k_27), (6, pt b0 2), (7, g0_.Rows.1), (8, vI i_12), (9, pt b37 (o37 + i_12.toNat * 1)), (10, u38), (11, vI k_27), (12, pt b40 (o40 + k_27.toNat * 1)), (13, vI x40), (14, vI (i64 (x40.tdiv 2))), (15, pt (sb u35) (so u35 + k_27.toNat * 1))] rfl ?_
            refine stage rfl rfl rfl rfl [0, 1, 0, 7, 15, 0, 0, 64, 0, 448, 960, 0, 4032, 8128, 16320, 32767, 65535] [0, 1, 2, 3, 4, 5, 6, 7, 8, 9, 10, 11, 12, 13, 14, 15] [16] rfl rfl rfl (qc rfl rfl (s_u (o_fa fa36_2 rfl)) (qc rfl rfl (s_u (o_ld 1 sc33 rfl rfl rfl)) (qc rfl rfl (s_u (o_mv rfl)) (qc rfl rfl (s_u (o_ixO 4 Try.underlying33 (fun _ => by kernel_rfl) rfl rfl rfl hu35)) (qc rfl rfl (s_u (o_ldO0 4 sc74 rfl rfl hu35 rfl rfl)) (qc rfl rfl (s_u (o_mv rfl)) (qc rfl rfl (s_u (o_fa fa36_2 rfl)) (qc rfl rfl (s_u (o_ld 3 sc33 rfl rfl rfl)) (qc rfl rfl (s_u (o_mv rfl)) (qc rfl rfl (s_u (o_ix (sz := 1) Try.underlying33 (fun _ => by kernel_rfl) rfl rfl hv37 hi37)) (qc rfl rfl (s_u (o_ldR sc74 rfl hR37 (rok 0 he37 (by decide)))) (qc rfl rfl (s_u (o_mv rfl)) (qc rfl rfl (s_u (o_ix (sz := 1) Try.underlying74 (fun _ => by kernel_rfl) rfl rfl hv40 hi40)) (qc rfl rfl (s_u (o_ldR sc3 rfl hR40 (rok 0 he40 (by decide)))) (qc rfl rfl (s_u (o_bin rfl rfl (bI_quo x40 2 (by decide)))) (qc rfl rfl (s_u (o_ixK (kn_in 0 rfl hu35 hy34) Try.underlying74 (fun _ => by kernel_rfl) rfl rfl hx42)) qn)))))))))))))))) ?_ (fun h => absurd h (by decide))
            refine ec (eo_u rfl (s_u (o_stL (c' := i64 (x40.tdiv 2)) 0 hu35 hy34 sc3 rfl rfl rfl hx42 rfl rfl rfl)) (Le.refl _) ?_) en
            refine stage rfl rfl rfl rfl [0, 1, 0, 7, 15, 0, 0, 64, 0, 448, 960, 0, 4032, 8128, 16320, 32767, 65535] [] [] rfl rfl rfl qn en ?_
            intro _
            refine ex_sub (E' := [(1, pt b0 0), (2, pt b1 0), (3, pt b7 0), (4, vI i_12), (5, vI k_27)]) ⟨rfl, rfl, rfl, rfl, rfl, trivial⟩ ?_
            refine x_blk ?_
            refine x_seq ?_
            refine c_reg ?_
            refine r_u (o_mv rfl) ?_
            refine r_u (o_bin rfl rfl (bI_add k_27 1)) ?_
            refine r_u (o_as rfl) ?_
            refine r_nil ?_
            exact x_lp (i64 (k_27 + 1), ls c_28 i_12 (ls y34 k_27 (i64 (x40.tdiv 2)))) hm43 ⟨rfl, rfl, rfl, rfl, rfl, trivial⟩ (fun _ h => st_pk 6 [1, 2, 3, 4, 5, 0] (by decide) h)
          · have hm33 := iff_ hm30 h32
            refine c_exit (x_exit (ks' := _) rfl ?_)
            obtain rfl := Option.some.inj hm33
            exact x_sub K26 ⟨rfl, rfl, rfl, rfl, trivial⟩ (fun _ h => st_pk 6 [0, 1, 2, 3, 4, 5] (by decide) h)
    · have hm18 := iff_ hm15 h17
      refine c_exit (x_exit (ks' := _) rfl ?_)
      obtain rfl := Option.some.inj hm18
      exact x_sub K11 ⟨rfl, rfl, rfl, trivial⟩ (fun _ h => st_pk 6 [0, 1, 2, 3, 4, 5] (by decide) h)

end Go.Proofs.Ytlahbmoebbflbaa
