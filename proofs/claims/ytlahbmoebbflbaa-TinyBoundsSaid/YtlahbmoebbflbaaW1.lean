import Derived.Test.YtlahbmoebbflbaaW0
import Derived.Test.YtlahbmoebbflbaaFacts
import Derived.Test.YtlahbmoebbflbaaHwX
set_option linter.unusedVariables false
set_option linter.unusedSectionVars false
set_option linter.unusedSimpArgs false
set_option maxRecDepth 100000
set_option maxHeartbeats 8000000
namespace Go.Proofs.Ytlahbmoebbflbaa
open Go Go.Proofs.Ytlahbmoebbflbaa.Hw
def hawthornlaw05_awake_l0  : Nat → (Option sketch_Sketch) → Int → Option (Option sketch_Sketch)
  | 0, _, _ => none
  | k31 + 1, s_26, i_27 => if decide (i_27 < 3) then om s_26 (none) fun x36 => (sketch_Sketch_Add x36 [107, 101, 121]).bind fun r42 => hawthornlaw05_awake_l0 k31 (some r42) (i64 (i_27 + 1)) else some s_26
def hawthornlaw05_awake  : Option Bool :=
  (sketch_New 64 1).bind fun r0 => Option.bind (hawthornlaw05_awake_l0 4 r0.1 0) fun p5 => om p5 (none) fun x12 => if (r0.2 == 0) then (sketch_Sketch_Seen x12 [107, 101, 121]).bind fun r20 => if (r20 == 3) then if ((sketch_Sketch_Added x12) == 3) then some ((sketch_Sketch_Wide x12) == 64) else some false else some false else some false
theorem hawthornlaw05_awake.ok {G R F} (r : Bool) (hm : hawthornlaw05_awake = some r) : CO Try.prog 13 [] G R (F)
    (Ret fun u R' L' => u = vB r ∧ R' = R ∧ L' = F) := by
  unfold hawthornlaw05_awake at hm
  refine co_ofN (N := 31) Try.func13 rfl rfl ?_
  refine c_seq ?_
  refine c_reg ?_
  refine r_u (o_as rfl) ?_
  refine r_nil ?_
  refine x_seq ?_
  refine c_seq ?_
  refine c_reg ?_
  obtain ⟨r0, hr0, hm4⟩ := bs hm
  clear hm
  refine r_sw (s_w (o_call ca12 rfl (sketch_New.ok 64 1 r0 hr0))) ?_
  rintro _ R _ _ ⟨⟨pv2, g3⟩, rfl, rfl, rfl⟩
  refine r_u (o_mv rfl) ?_
  refine r_u (o_ext rfl rfl) ?_
  refine r_u (o_ext rfl rfl) ?_
  refine r_u (o_as rfl) ?_
  refine r_u (o_as rfl) ?_
  refine r_nil ?_
  refine x_seq ?_
  refine c_seq ?_
  refine c_seq ?_
  refine c_reg ?_
  refine r_u (o_as rfl) ?_
  refine r_nil ?_
  refine x_seq ?_
  obtain ⟨p5, hp9, hm10⟩ := bs hm4
  refine cd_cut (fun x ks => ∀ (pv6 : Value × sketch_Sketch.G), EX x .normal ks [(2, vI r0.2), (1, pv6.1)] R (rO (sketch_Sketch.op pv6.2) pv6.1 p5 :: F)) ?_ fun K11 => ?_
  · intro pv6
    obtain ⟨pv7, g8⟩ := pv6
    refine x_seq ?_
    refine c_seq ?_
    refine cd_opt (fun ho14 => ?_) (fun x12 b13 ho14 => ?_)
    · rintro rfl
      have hm15 := om_n hm10 ho14
      clear hm10
      cases hm15
    · rintro rfl
      have hm15 := om_s hm10 ho14
      clear hm10
      refine cd_st (fun _ h => st_star_o h) ?_
      refine cd_by (r0.2 == 0) (fun h18 => ?_) fun h18 => ?_
      · have hm19 := ift hm15 h18
        clear hm15
        obtain ⟨r20, hr20, hm21⟩ := bs hm19
        clear hm19
        refine cd_by (r20 == 3) (fun h22 => ?_) fun h22 => ?_
        · have hm23 := ift hm21 h22
          clear hm21
          refine cd_by ((sketch_Sketch_Added x12) == 3) (fun h24 => ?_) fun h24 => ?_
          · have hm25 := ift hm23 h24
            clear hm23
            refine c_reg ?_
            refine r_u (o_mv rfl) ?_
            refine r_u (o_bin rfl rfl (bI_eq r0.2 0)) ?_
            refine r_u (o_mv rfl) ?_
            refine r_s (s_y rfl rfl h18 (o_mv rfl)) ?_
            refine r_c (s_yw rfl rfl h18 (o_call ca16 rfl (sketch_Sketch_Seen.ok b13 x12 g8 [107, 101, 121] r20 hr20))) ?_
            refine r_s (s_y rfl rfl h18 (o_bin rfl rfl (bI_eq r20 3))) ?_
            refine r_u (o_pt rfl h18 rfl) ?_
            refine r_u (o_mv rfl) ?_
            refine r_s (s_y rfl rfl h22 (o_mv rfl)) ?_
            refine r_c (s_yw rfl rfl h22 (o_call ca20 rfl (sketch_Sketch_Added.ok b13 x12 g8 _ rfl))) ?_
            refine r_s (s_y rfl rfl h22 (o_bin rfl rfl (bI_eq (sketch_Sketch_Added x12) 3))) ?_
            refine r_u (o_pt rfl h22 rfl) ?_
            refine r_u (o_mv rfl) ?_
            refine r_s (s_y rfl rfl h24 (o_mv rfl)) ?_
            refine r_c (s_yw rfl rfl h24 (o_call ca25 rfl (sketch_Sketch_Wide.ok b13 x12 g8 _ rfl))) ?_
            refine r_s (s_y rfl rfl h24 (o_bin rfl rfl (bI_eq (sketch_Sketch_Wide x12) 64))) ?_
            refine r_u (o_pt rfl h24 rfl) ?_
            refine r_u (o_as rfl) ?_
            refine r_nil ?_
            refine x_seq ?_
            refine c_ret ?_
            obtain rfl := Option.some.inj hm25
            refine ex_st (fun _ h => st_pk 3 [] (by decide) h) ?_
            exact x_r1 rfl (rv_t rfl) (Le.refl _) ⟨_, rfl, rfl, rfl, rfl⟩
          · have hm25 := iff_ hm23 h24
            clear hm23
            refine c_reg ?_
            refine r_u (o_mv rfl) ?_
            refine r_u (o_bin rfl rfl (bI_eq r0.2 0)) ?_
            refine r_u (o_mv rfl) ?_
            refine r_s (s_y rfl rfl h18 (o_mv rfl)) ?_
            refine r_c (s_yw rfl rfl h18 (o_call ca16 rfl (sketch_Sketch_Seen.ok b13 x12 g8 [107, 101, 121] r20 hr20))) ?_
            refine r_s (s_y rfl rfl h18 (o_bin rfl rfl (bI_eq r20 3))) ?_
            refine r_u (o_pt rfl h18 rfl) ?_
            refine r_u (o_mv rfl) ?_
            refine r_s (s_y rfl rfl h22 (o_mv rfl)) ?_
            refine r_c (s_yw rfl rfl h22 (o_call ca20 rfl (sketch_Sketch_Added.ok b13 x12 g8 _ rfl))) ?_
            refine r_s (s_y rfl rfl h22 (o_bin rfl rfl (bI_eq (sketch_Sketch_Added x12) 3))) ?_
            refine r_u (o_pt rfl h22 rfl) ?_
            refine r_u (o_mv rfl) ?_
            refine r_s (s_n rfl rfl h24) ?_
            refine r_s (s_n rfl rfl h24) ?_
            refine r_s (s_n rfl rfl h24) ?_
            refine r_u (o_pf rfl h24 rfl) ?_
            refine r_u (o_as rfl) ?_
            refine r_nil ?_
            refine x_seq ?_
            refine c_ret ?_
            obtain rfl := Option.some.inj hm25
            refine ex_st (fun _ h => st_pk 3 [] (by decide) h) ?_
            exact x_r1 rfl (rv_t rfl) (Le.refl _) ⟨_, rfl, rfl, rfl, rfl⟩
        · have hm23 := iff_ hm21 h22
          clear hm21
          refine c_reg ?_
          refine r_u (o_mv rfl) ?_
          refine r_u (o_bin rfl rfl (bI_eq r0.2 0)) ?_
          refine r_u (o_mv rfl) ?_
          refine r_s (s_y rfl rfl h18 (o_mv rfl)) ?_
          refine r_c (s_yw rfl rfl h18 (o_call ca16 rfl (sketch_Sketch_Seen.ok b13 x12 g8 [107, 101, 121] r20 hr20))) ?_
          refine r_s (s_y rfl rfl h18 (o_bin rfl rfl (bI_eq r20 3))) ?_
          refine r_u (o_pt rfl h18 rfl) ?_
          refine r_u (o_mv rfl) ?_
          refine r_s (s_n rfl rfl h22) ?_
          refine r_s (s_n rfl rfl h22) ?_
          refine r_s (s_n rfl rfl h22) ?_
          refine r_u (o_pf rfl h22 rfl) ?_
          refine r_u (o_mv rfl) ?_
          refine r_s (s_n rfl rfl rfl) ?_
          refine r_s (s_n rfl rfl rfl) ?_
          refine r_s (s_n rfl rfl rfl) ?_
          refine r_u (o_pf rfl rfl rfl) ?_
          refine r_u (o_as rfl) ?_
          refine r_nil ?_
          refine x_seq ?_
          refine c_ret ?_
          obtain rfl := Option.some.inj hm23
          refine ex_st (fun _ h => st_pk 3 [] (by decide) h) ?_
          exact x_r1 rfl (rv_t rfl) (Le.refl _) ⟨_, rfl, rfl, rfl, rfl⟩
      · have hm19 := iff_ hm15 h18
        clear hm15
        refine c_reg ?_
        refine r_u (o_mv rfl) ?_
        refine r_u (o_bin rfl rfl (bI_eq r0.2 0)) ?_
        refine r_u (o_mv rfl) ?_
        refine r_s (s_n rfl rfl h18) ?_
        refine r_s (s_n rfl rfl h18) ?_
        refine r_s (s_n rfl rfl h18) ?_
        refine r_u (o_pf rfl h18 rfl) ?_
        refine r_u (o_mv rfl) ?_
        refine r_s (s_n rfl rfl rfl) ?_
        refine r_s (s_n rfl rfl rfl) ?_
        refine r_s (s_n rfl rfl rfl) ?_
        refine r_u (o_pf rfl rfl rfl) ?_
        refine r_u (o_mv rfl) ?_
        refine r_s (s_n rfl rfl rfl) ?_
        refine r_s (s_n rfl rfl rfl) ?_
        refine r_s (s_n rfl rfl rfl) ?_
        refine r_u (o_pf rfl rfl rfl) ?_
        refine r_u (o_as rfl) ?_
        refine r_nil ?_
        refine x_seq ?_
        refine c_ret ?_
        obtain rfl := Option.some.inj hm19
        refine ex_st (fun _ h => st_pk 3 [] (by decide) h) ?_
        exact x_r1 rfl (rv_t rfl) (Le.refl _) ⟨_, rfl, rfl, rfl, rfl⟩
  · refine c_blk ?_
    refine cd_loopG (M := fun k31 (s : Option sketch_Sketch × Int × (Value × sketch_Sketch.G)) => hawthornlaw05_awake_l0 k31 s.1 s.2.1 = some p5) (Ef := fun (s : Option sketch_Sketch × Int × (Value × sketch_Sketch.G)) => [(2, vI r0.2), (1, s.2.2.1), (3, vI s.2.1)]) (Rf := fun (s : Option sketch_Sketch × Int × (Value × sketch_Sketch.G)) => R) (Lf := fun (s : Option sketch_Sketch × Int × (Value × sketch_Sketch.G)) => rO (sketch_Sketch.op s.2.2.2) s.2.2.1 s.1 :: F) 4 (r0.1, 0, (pv2, g3)) hp9 ⟨rfl, rfl, rfl, trivial⟩ (fun _ h => st_pk 1 [0] (by decide) h) (fun _ h => by cases h) fun k31 s hM33 => ?_
    obtain ⟨s_26, i_27, pv28⟩ := s
    have hm32 : hawthornlaw05_awake_l0 (k31 + 1) s_26 i_27 = some p5 := hM33
    rw [hawthornlaw05_awake_l0] at hm32
    obtain ⟨pv29, g30⟩ := pv28
    refine c_seq ?_
    refine c_seq ?_
    refine c_reg ?_
    refine r_u (o_mv rfl) ?_
    refine r_u (o_bin rfl rfl (bI_lt i_27 3)) ?_
    refine r_nil ?_
    refine x_seq ?_
    refine c_if (b := decide (i_27 < 3)) rfl (fun h34 => ?_) fun h34 => ?_
    · have hm35 := ift hm32 h34
      clear hm32
      refine c_skip ?_
      refine x_seq ?_
      refine c_seq ?_
      refine c_blk ?_
      refine cd_opt (fun ho38 => ?_) (fun x36 b37 ho38 => ?_)
      · rintro rfl
        have hm39 := om_n hm35 ho38
        clear hm35
        cases hm39
      · rintro rfl
        have hm39 := om_s hm35 ho38
        clear hm35
        refine cd_st (fun _ h => st_star_o h) ?_
        refine c_reg ?_
        refine r_u (o_mv rfl) ?_
        obtain ⟨r42, hr42, hm43⟩ := bs hm39
        clear hm39
        refine r_c (s_w (o_call ca14 rfl (sketch_Sketch_Add.ok b37 x36 g30 [107, 101, 121] r42 hr42))) ?_
        refine r_nil ?_
        refine x_blk ?_
        refine x_seq ?_
        refine c_reg ?_
        refine r_u (o_mv rfl) ?_
        refine r_u (o_bin rfl rfl (bI_add i_27 1)) ?_
        refine r_u (o_as rfl) ?_
        refine r_nil ?_
        refine ex_st (fun _ h => st_some (f := sketch_Sketch.op g30) (a := r42) (st_star_f (A := sketch_Sketch.fl b37 r42 g30) h)) ?_
        exact x_lp ((some r42), i64 (i_27 + 1), (pt b37 0, g30)) hm43 ⟨rfl, rfl, rfl, trivial⟩ (fun _ h => st_pk 1 [0] (by decide) h)
    · have hm35 := iff_ hm32 h34
      clear hm32
      refine c_exit (x_exit (ks' := _) rfl ?_)
      obtain rfl := Option.some.inj hm35
      exact x_sub (K11 (pv29, g30)) ⟨rfl, rfl, trivial⟩ (fun _ h => st_pk 1 [0] (by decide) h)

def hawthornlaw05_few (a0 : Str) : Option Str :=
  if decide (80 < (a0.length : Int)) then (sl a0 0 80).bind fun s2 => some s2 else some a0
theorem hawthornlaw05_few.ok {G R F} (a0 : Str) (r : Str) (hm : hawthornlaw05_few a0 = some r) : CO Try.prog 15 [vS a0] G R (F)
    (Ret fun u R' L' => u = vS r ∧ R' = R ∧ L' = F) := by
  unfold hawthornlaw05_few at hm
  refine co_ofN (N := 9) Try.func15 rfl rfl ?_
  refine c_seq ?_
  refine c_reg ?_
  refine r_u (o_as rfl) ?_
  refine r_nil ?_
  refine x_seq ?_
  refine c_seq ?_
  refine c_seq ?_
  refine c_reg ?_
  refine r_u (o_mv rfl) ?_
  refine r_u (o_lenS Try.underlying9 rfl) ?_
  refine r_u (o_bin rfl rfl (bI_gt (a0.length : Int) 80)) ?_
  refine r_nil ?_
  refine x_seq ?_
  refine c_if (b := decide (80 < (a0.length : Int))) rfl (fun h0 => ?_) fun h0 => ?_
  · have hm1 := ift hm h0
    clear hm
    refine c_seq ?_
    refine c_reg ?_
    refine r_u (o_mv rfl) ?_
    obtain ⟨s2, hs2, hm3⟩ := bs hm1
    clear hm1
    refine r_u (o_slS (i := 0) (j := 80) Try.underlying9 rfl rfl rfl hs2) ?_
    refine r_u (o_as rfl) ?_
    refine r_nil ?_
    refine x_seq ?_
    refine c_ret ?_
    obtain rfl := Option.some.inj hm3
    exact x_r1 rfl (rv_t rfl) (Le.refl _) ⟨_, rfl, rfl, rfl, rfl⟩
  · have hm1 := iff_ hm h0
    clear hm
    refine c_skip ?_
    refine x_seq ?_
    refine c_seq ?_
    refine c_reg ?_
    refine r_u (o_mv rfl) ?_
    refine r_u (o_as rfl) ?_
    refine r_nil ?_
    refine x_seq ?_
    refine c_ret ?_
    obtain rfl := Option.some.inj hm1
    exact x_r1 rfl (rv_t rfl) (Le.refl _) ⟨_, rfl, rfl, rfl, rfl⟩

def hawthornref01_turn_l0 (a1 : Int) : Nat → UInt64 → Int → Option (UInt64)
  | 0, _, _ => none
  | k6 + 1, n_4, i_5 => if decide (i_5 < a1) then hawthornref01_turn_l0 a1 k6 ((n_4 * 2) + (n_4 / 9223372036854775808)) (i64 (i_5 + 1)) else some n_4
def hawthornref01_turn (a0 : UInt64) (a1 : Int) : Option UInt64 :=
  Option.bind (hawthornref01_turn_l0 a1 ((a1 - 0).toNat + 1) a0 0) fun p0 => some p0
theorem hawthornref01_turn.ok {G R F} (a0 : UInt64) (a1 : Int) (r : UInt64) (hm : hawthornref01_turn a0 a1 = some r) : CO Try.prog 87 [vW a0, vI a1] G R (F)
    (Ret fun u R' L' => u = vW r ∧ R' = R ∧ L' = F) := by
  unfold hawthornref01_turn at hm
  refine co_ofN (N := 19) Try.func87 rfl rfl ?_
  refine c_seq ?_
  refine c_reg ?_
  refine r_u (o_as rfl) ?_
  refine r_nil ?_
  refine x_seq ?_
  refine c_seq ?_
  refine c_seq ?_
  refine c_reg ?_
  refine r_u (o_as rfl) ?_
  refine r_nil ?_
  refine x_seq ?_
  obtain ⟨p0, hp1, hm2⟩ := bs hm
  refine cd_join (E' := [(0, vW p0)]) (L' := F) ?_ fun K3 => ?_
  · refine x_seq ?_
    refine c_seq ?_
    refine c_reg ?_
    refine r_u (o_mv rfl) ?_
    refine r_u (o_as rfl) ?_
    refine r_nil ?_
    refine x_seq ?_
    refine c_ret ?_
    obtain rfl := Option.some.inj hm2
    exact x_r1 rfl (rv_t rfl) (Le.refl _) ⟨_, rfl, rfl, rfl, rfl⟩
  · refine c_blk ?_
    refine cd_loop (M := fun k6 (s : UInt64 × Int) => hawthornref01_turn_l0 a1 k6 s.1 s.2 = some p0) (Ef := fun (s : UInt64 × Int) => [(1, vI a1), (0, vW s.1), (5, vI s.2)]) (Lf := fun (s : UInt64 × Int) => F) ((a1 - 0).toNat + 1) (a0, 0) hp1 ⟨rfl, rfl, rfl, trivial⟩ (fun _ h => h) (fun _ h => by cases h) fun k6 s hM8 => ?_
    obtain ⟨n_4, i_5⟩ := s
    have hm7 : hawthornref01_turn_l0 a1 (k6 + 1) n_4 i_5 = some p0 := hM8
    rw [hawthornref01_turn_l0] at hm7
    refine c_seq ?_
    refine c_seq ?_
    refine c_reg ?_
    refine r_u (o_mv rfl) ?_
    refine r_u (o_mv rfl) ?_
    refine r_u (o_bin rfl rfl (bI_lt i_5 a1)) ?_
    refine r_nil ?_
    refine x_seq ?_
    refine c_if (b := decide (i_5 < a1)) rfl (fun h9 => ?_) fun h9 => ?_
    · have hm10 := ift hm7 h9
      clear hm7
      refine c_skip ?_
      refine x_seq ?_
      refine c_seq ?_
      refine c_blk ?_
      refine c_seq ?_
      refine c_reg ?_
      refine r_u (o_mv rfl) ?_
      refine r_u (o_bin rfl rfl (bW_quo n_4 9223372036854775808 (by decide))) ?_
      refine r_u (o_as rfl) ?_
      refine r_nil ?_
      refine x_seq ?_
      refine c_reg ?_
      refine r_u (o_mv rfl) ?_
      refine r_u (o_bin rfl rfl (bW_mul n_4 2)) ?_
      refine r_u (o_mv rfl) ?_
      refine r_u (o_bin rfl rfl (bW_add (n_4 * 2) (n_4 / 9223372036854775808))) ?_
      refine r_u (o_as rfl) ?_
      refine r_nil ?_
      refine x_blk ?_
      refine x_seq ?_
      refine c_reg ?_
      refine r_u (o_mv rfl) ?_
      refine r_u (o_bin rfl rfl (bI_add i_5 1)) ?_
      refine r_u (o_as rfl) ?_
      refine r_nil ?_
      exact x_lp ((n_4 * 2) + (n_4 / 9223372036854775808), i64 (i_5 + 1)) hm10 ⟨rfl, rfl, rfl, trivial⟩ (fun _ h => st_pk 0 [] (by decide) h)
    · have hm10 := iff_ hm7 h9
      clear hm7
      refine c_exit (x_exit (ks' := _) rfl ?_)
      obtain rfl := Option.some.inj hm10
      exact x_sub K3 ⟨rfl, trivial⟩ (fun _ h => st_pk 0 [] (by decide) h)

def hawthornref01_Mix (a0 : UInt64) : Option UInt64 :=
  (hawthornref01_turn ((a0 ^^^ (a0 / 4294967296)) * 11400714819323198485) 29).bind fun r0 => some ((r0 * 11400714819323198485) ^^^ ((r0 * 11400714819323198485) / 4294967296))
theorem hawthornref01_Mix.ok {G R F} (a0 : UInt64) (r : UInt64) (hm : hawthornref01_Mix a0 = some r) : CO Try.prog 83 [vW a0] G R (F)
    (Ret fun u R' L' => u = vW r ∧ R' = R ∧ L' = F) := by
  unfold hawthornref01_Mix at hm
  refine co_ofN (N := 17) Try.func83 rfl rfl ?_
  refine c_seq ?_
  refine c_reg ?_
  refine r_u (o_as rfl) ?_
  refine r_nil ?_
  refine x_seq ?_
  refine c_seq ?_
  refine c_reg ?_
  refine r_u (o_mv rfl) ?_
  refine r_u (o_mv rfl) ?_
  refine r_u (o_bin rfl rfl (bW_quo a0 4294967296 (by decide))) ?_
  refine r_u (o_bin rfl rfl (bW_xor a0 (a0 / 4294967296))) ?_
  refine r_u (o_as rfl) ?_
  refine r_nil ?_
  refine x_seq ?_
  refine c_seq ?_
  refine c_reg ?_
  refine r_u (o_mv rfl) ?_
  refine r_u (o_bin rfl rfl (bW_mul (a0 ^^^ (a0 / 4294967296)) 11400714819323198485)) ?_
  refine r_u (o_as rfl) ?_
  refine r_nil ?_
  refine x_seq ?_
  refine c_seq ?_
  refine c_reg ?_
  refine r_u (o_mv rfl) ?_
  obtain ⟨r0, hr0, hm1⟩ := bs hm
  clear hm
  refine r_u (o_callq ca87 rfl (hawthornref01_turn.ok ((a0 ^^^ (a0 / 4294967296)) * 11400714819323198485) 29 r0 hr0)) ?_
  refine r_u (o_as rfl) ?_
  refine r_nil ?_
  refine x_seq ?_
  refine c_seq ?_
  refine c_reg ?_
  refine r_u (o_mv rfl) ?_
  refine r_u (o_bin rfl rfl (bW_mul r0 11400714819323198485)) ?_
  refine r_u (o_as rfl) ?_
  refine r_nil ?_
  refine x_seq ?_
  refine c_seq ?_
  refine c_reg ?_
  refine r_u (o_mv rfl) ?_
  refine r_u (o_mv rfl) ?_
  refine r_u (o_bin rfl rfl (bW_quo (r0 * 11400714819323198485) 4294967296 (by decide))) ?_
  refine r_u (o_bin rfl rfl (bW_xor (r0 * 11400714819323198485) ((r0 * 11400714819323198485) / 4294967296))) ?_
  refine r_u (o_as rfl) ?_
  refine r_nil ?_
  refine x_seq ?_
  refine c_ret ?_
  obtain rfl := Option.some.inj hm1
  exact x_r1 rfl (rv_t rfl) (Le.refl _) ⟨_, rfl, rfl, rfl, rfl⟩

def hawthornref01_Of_l0 (a1 : Str) : Nat → UInt64 → Int → Option (UInt64)
  | 0, _, _ => none
  | k10 + 1, h_8, i_9 => if decide (i_9 < (a1.length : Int)) then (gi a1 i_9).bind fun c15 => hawthornref01_Of_l0 a1 k10 ((h_8 ^^^ c15.toUInt64) * 1099511628211) (i64 (i_9 + 1)) else some h_8
def hawthornref01_Of (a0 : UInt64) (a1 : Str) : Option UInt64 :=
  (hawthornref01_Mix a0).bind fun r0 => Option.bind (hawthornref01_Of_l0 a1 (((a1.length : Int) - 0).toNat + 1) (14695981039346656037 ^^^ r0) 0) fun p2 => (hawthornref01_Mix (p2 ^^^ (toW (a1.length : Int)))).bind fun r6 => some r6
theorem hawthornref01_Of.ok {G R F} (a0 : UInt64) (a1 : Str) (r : UInt64) (hm : hawthornref01_Of a0 a1 = some r) : CO Try.prog 67 [vW a0, vS a1] G R (F)
    (Ret fun u R' L' => u = vW r ∧ R' = R ∧ L' = F) := by
  unfold hawthornref01_Of at hm
  refine co_ofN (N := 30) Try.func67 rfl rfl ?_
  refine c_seq ?_
  refine c_reg ?_
  refine r_u (o_as rfl) ?_
  refine r_nil ?_
  refine x_seq ?_
  refine c_seq ?_
  refine c_reg ?_
  refine r_u (o_mv rfl) ?_
  obtain ⟨r0, hr0, hm1⟩ := bs hm
  clear hm
  refine r_u (o_callq ca83 rfl (hawthornref01_Mix.ok a0 r0 hr0)) ?_
  refine r_u (o_bin rfl rfl (bW_xor 14695981039346656037 r0)) ?_
  refine r_u (o_as rfl) ?_
  refine r_nil ?_
  refine x_seq ?_
  refine c_seq ?_
  refine c_seq ?_
  refine c_reg ?_
  refine r_u (o_as rfl) ?_
  refine r_nil ?_
  refine x_seq ?_
  obtain ⟨p2, hp3, hm4⟩ := bs hm1
  refine cd_join (E' := [(1, vS a1), (5, vW p2)]) (L' := F) ?_ fun K5 => ?_
  · refine x_seq ?_
    refine c_seq ?_
    refine c_reg ?_
    refine r_u (o_mv rfl) ?_
    refine r_u (o_mv rfl) ?_
    refine r_u (o_lenS Try.underlying9 rfl) ?_
    refine r_u (o_cv rfl (cIW Try.underlying3 Try.underlying22 (a1.length : Int))) ?_
    refine r_u (o_bin rfl rfl (bW_xor p2 (toW (a1.length : Int)))) ?_
    obtain ⟨r6, hr6, hm7⟩ := bs hm4
    clear hm4
    refine r_u (o_callq ca83 rfl (hawthornref01_Mix.ok (p2 ^^^ (toW (a1.length : Int))) r6 hr6)) ?_
    refine r_u (o_as rfl) ?_
    refine r_nil ?_
    refine x_seq ?_
    refine c_ret ?_
    obtain rfl := Option.some.inj hm7
    exact x_r1 rfl (rv_t rfl) (Le.refl _) ⟨_, rfl, rfl, rfl, rfl⟩
  · refine c_blk ?_
    refine cd_loop (M := fun k10 (s : UInt64 × Int) => hawthornref01_Of_l0 a1 k10 s.1 s.2 = some p2) (Ef := fun (s : UInt64 × Int) => [(1, vS a1), (5, vW s.1), (6, vI s.2)]) (Lf := fun (s : UInt64 × Int) => F) (((a1.length : Int) - 0).toNat + 1) (14695981039346656037 ^^^ r0, 0) hp3 ⟨rfl, rfl, rfl, trivial⟩ (fun _ h => h) (fun _ h => by cases h) fun k10 s hM12 => ?_
    obtain ⟨h_8, i_9⟩ := s
    have hm11 : hawthornref01_Of_l0 a1 (k10 + 1) h_8 i_9 = some p2 := hM12
    rw [hawthornref01_Of_l0] at hm11
    refine c_seq ?_
    refine c_seq ?_
    refine c_reg ?_
    refine r_u (o_mv rfl) ?_
    refine r_u (o_mv rfl) ?_
    refine r_u (o_lenS Try.underlying9 rfl) ?_
    refine r_u (o_bin rfl rfl (bI_lt i_9 (a1.length : Int))) ?_
    refine r_nil ?_
    refine x_seq ?_
    refine c_if (b := decide (i_9 < (a1.length : Int))) rfl (fun h13 => ?_) fun h13 => ?_
    · have hm14 := ift hm11 h13
      clear hm11
      refine c_skip ?_
      refine x_seq ?_
      refine c_seq ?_
      refine c_blk ?_
      refine c_seq ?_
      refine c_reg ?_
      refine r_u (o_mv rfl) ?_
      refine r_u (o_mv rfl) ?_
      refine r_u (o_mv rfl) ?_
      obtain ⟨c15, hc15, hm16⟩ := bs hm14
      clear hm14
      refine r_u (o_ixS Try.underlying9 rfl rfl hc15) ?_
      refine r_u (o_cv rfl (cYW Try.underlying5 Try.underlying22 c15)) ?_
      refine r_u (o_bin rfl rfl (bW_xor h_8 c15.toUInt64)) ?_
      refine r_u (o_as rfl) ?_
      refine r_nil ?_
      refine x_seq ?_
      refine c_reg ?_
      refine r_u (o_mv rfl) ?_
      refine r_u (o_bin rfl rfl (bW_mul (h_8 ^^^ c15.toUInt64) 1099511628211)) ?_
      refine r_u (o_as rfl) ?_
      refine r_nil ?_
      refine x_blk ?_
      refine x_seq ?_
      refine c_reg ?_
      refine r_u (o_mv rfl) ?_
      refine r_u (o_bin rfl rfl (bI_add i_9 1)) ?_
      refine r_u (o_as rfl) ?_
      refine r_nil ?_
      exact x_lp ((h_8 ^^^ c15.toUInt64) * 1099511628211, i64 (i_9 + 1)) hm16 ⟨rfl, rfl, rfl, trivial⟩ (fun _ h => st_pk 0 [] (by decide) h)
    · have hm14 := iff_ hm11 h13
      clear hm11
      refine c_exit (x_exit (ks' := _) rfl ?_)
      obtain rfl := Option.some.inj hm14
      exact x_sub K5 ⟨rfl, rfl, trivial⟩ (fun _ h => st_pk 0 [] (by decide) h)

def hawthornref01_high (a0 : UInt64) (a1 : UInt64) : UInt64 :=
  (((a0 / 4294967296) * (a1 / 4294967296)) + ((((a0 / 4294967296) * (a1 % 4294967296)) + (((a0 % 4294967296) * (a1 % 4294967296)) / 4294967296)) / 4294967296)) + ((((a0 % 4294967296) * (a1 / 4294967296)) + ((((a0 / 4294967296) * (a1 % 4294967296)) + (((a0 % 4294967296) * (a1 % 4294967296)) / 4294967296)) % 4294967296)) / 4294967296)
theorem hawthornref01_high.ok {G R F} (a0 : UInt64) (a1 : UInt64) (r : UInt64) (hm : hawthornref01_high a0 a1 = r) : CO Try.prog 82 [vW a0, vW a1] G R (F)
    (Ret fun u R' L' => u = vW r ∧ R' = R ∧ L' = F) := by
  unfold hawthornref01_high at hm
  refine co_ofN (N := 42) Try.func82 rfl rfl ?_
  refine c_seq ?_
  refine c_reg ?_
  refine r_u (o_as rfl) ?_
  refine r_nil ?_
  refine x_seq ?_
  refine c_seq ?_
  refine c_reg ?_
  refine r_u (o_mv rfl) ?_
  refine r_u (o_bin rfl rfl (bW_quo a0 4294967296 (by decide))) ?_
  refine r_u (o_mv rfl) ?_
  refine r_u (o_bin rfl rfl (bW_rem a0 4294967296 (by decide))) ?_
  refine r_u (o_mv rfl) ?_
  refine r_u (o_bin rfl rfl (bW_quo a1 4294967296 (by decide))) ?_
  refine r_u (o_mv rfl) ?_
  refine r_u (o_bin rfl rfl (bW_rem a1 4294967296 (by decide))) ?_
  refine r_u (o_as rfl) ?_
  refine r_u (o_as rfl) ?_
  refine r_u (o_as rfl) ?_
  refine r_u (o_as rfl) ?_
  refine r_nil ?_
  refine x_seq ?_
  refine c_seq ?_
  refine c_reg ?_
  refine r_u (o_mv rfl) ?_
  refine r_u (o_mv rfl) ?_
  refine r_u (o_bin rfl rfl (bW_mul (a0 / 4294967296) (a1 % 4294967296))) ?_
  refine r_u (o_mv rfl) ?_
  refine r_u (o_mv rfl) ?_
  refine r_u (o_bin rfl rfl (bW_mul (a0 % 4294967296) (a1 % 4294967296))) ?_
  refine r_u (o_bin rfl rfl (bW_quo ((a0 % 4294967296) * (a1 % 4294967296)) 4294967296 (by decide))) ?_
  refine r_u (o_bin rfl rfl (bW_add ((a0 / 4294967296) * (a1 % 4294967296)) (((a0 % 4294967296) * (a1 % 4294967296)) / 4294967296))) ?_
  refine r_u (o_as rfl) ?_
  refine r_nil ?_
  refine x_seq ?_
  refine c_seq ?_
  refine c_reg ?_
  refine r_u (o_mv rfl) ?_
  refine r_u (o_mv rfl) ?_
  refine r_u (o_bin rfl rfl (bW_mul (a0 % 4294967296) (a1 / 4294967296))) ?_
  refine r_u (o_mv rfl) ?_
  refine r_u (o_bin rfl rfl (bW_rem (((a0 / 4294967296) * (a1 % 4294967296)) + (((a0 % 4294967296) * (a1 % 4294967296)) / 4294967296)) 4294967296 (by decide))) ?_
  refine r_u (o_bin rfl rfl (bW_add ((a0 % 4294967296) * (a1 / 4294967296)) ((((a0 / 4294967296) * (a1 % 4294967296)) + (((a0 % 4294967296) * (a1 % 4294967296)) / 4294967296)) % 4294967296))) ?_
  refine r_u (o_as rfl) ?_
  refine r_nil ?_
  refine x_seq ?_
  refine c_seq ?_
  refine c_reg ?_
  refine r_u (o_mv rfl) ?_
  refine r_u (o_mv rfl) ?_
  refine r_u (o_bin rfl rfl (bW_mul (a0 / 4294967296) (a1 / 4294967296))) ?_
  refine r_u (o_mv rfl) ?_
  refine r_u (o_bin rfl rfl (bW_quo (((a0 / 4294967296) * (a1 % 4294967296)) + (((a0 % 4294967296) * (a1 % 4294967296)) / 4294967296)) 4294967296 (by decide))) ?_
  refine r_u (o_bin rfl rfl (bW_add ((a0 / 4294967296) * (a1 / 4294967296)) ((((a0 / 4294967296) * (a1 % 4294967296)) + (((a0 % 4294967296) * (a1 % 4294967296)) / 4294967296)) / 4294967296))) ?_
  refine r_u (o_mv rfl) ?_
  refine r_u (o_bin rfl rfl (bW_quo (((a0 % 4294967296) * (a1 / 4294967296)) + ((((a0 / 4294967296) * (a1 % 4294967296)) + (((a0 % 4294967296) * (a1 % 4294967296)) / 4294967296)) % 4294967296)) 4294967296 (by decide))) ?_
  refine r_u (o_bin rfl rfl (bW_add (((a0 / 4294967296) * (a1 / 4294967296)) + ((((a0 / 4294967296) * (a1 % 4294967296)) + (((a0 % 4294967296) * (a1 % 4294967296)) / 4294967296)) / 4294967296)) ((((a0 % 4294967296) * (a1 / 4294967296)) + ((((a0 / 4294967296) * (a1 % 4294967296)) + (((a0 % 4294967296) * (a1 % 4294967296)) / 4294967296)) % 4294967296)) / 4294967296))) ?_
  refine r_u (o_as rfl) ?_
  refine r_nil ?_
  refine x_seq ?_
  refine c_ret ?_
  subst hm
  exact x_r1 rfl (rv_t rfl) (Le.refl _) ⟨_, rfl, rfl, rfl, rfl⟩

def hawthornref01_Place (a0 : UInt64) (a1 : Int) (a2 : Int) : Option Int :=
  if decide (a2 < 1) then some 0 else (hawthornref01_Mix (a0 + ((toW a1) * 11400714819323198485))).bind fun r2 => some (i64 ((hawthornref01_high r2 (toW a2)).toNat : Int))
theorem hawthornref01_Place.ok {G R F} (a0 : UInt64) (a1 : Int) (a2 : Int) (r : Int) (hm : hawthornref01_Place a0 a1 a2 = some r) : CO Try.prog 66 [vW a0, vI a1, vI a2] G R (F)
    (Ret fun u R' L' => u = vI r ∧ R' = R ∧ L' = F) := by
  unfold hawthornref01_Place at hm
  refine co_ofN (N := 19) Try.func66 rfl rfl ?_
  refine c_seq ?_
  refine c_reg ?_
  refine r_u (o_as rfl) ?_
  refine r_nil ?_
  refine x_seq ?_
  refine c_seq ?_
  refine c_seq ?_
  refine c_reg ?_
  refine r_u (o_mv rfl) ?_
  refine r_u (o_bin rfl rfl (bI_lt a2 1)) ?_
  refine r_nil ?_
  refine x_seq ?_
  refine c_if (b := decide (a2 < 1)) rfl (fun h0 => ?_) fun h0 => ?_
  · have hm1 := ift hm h0
    clear hm
    refine c_seq ?_
    refine c_reg ?_
    refine r_u (o_as rfl) ?_
    refine r_nil ?_
    refine x_seq ?_
    refine c_ret ?_
    obtain rfl := Option.some.inj hm1
    exact x_r1 rfl (rv_t rfl) (Le.refl _) ⟨_, rfl, rfl, rfl, rfl⟩
  · have hm1 := iff_ hm h0
    clear hm
    refine c_skip ?_
    refine x_seq ?_
    refine c_seq ?_
    refine c_reg ?_
    refine r_u (o_mv rfl) ?_
    refine r_u (o_mv rfl) ?_
    refine r_u (o_cv rfl (cIW Try.underlying3 Try.underlying22 a1)) ?_
    refine r_u (o_bin rfl rfl (bW_mul (toW a1) 11400714819323198485)) ?_
    refine r_u (o_bin rfl rfl (bW_add a0 ((toW a1) * 11400714819323198485))) ?_
    obtain ⟨r2, hr2, hm3⟩ := bs hm1
    clear hm1
    refine r_u (o_callq ca83 rfl (hawthornref01_Mix.ok (a0 + ((toW a1) * 11400714819323198485)) r2 hr2)) ?_
    refine r_u (o_mv rfl) ?_
    refine r_u (o_cv rfl (cIW Try.underlying3 Try.underlying22 a2)) ?_
    refine r_u (o_callq ca82 rfl (hawthornref01_high.ok r2 (toW a2) _ rfl)) ?_
    refine r_u (o_cv rfl (cWI Try.underlying22 Try.underlying3 (hawthornref01_high r2 (toW a2)))) ?_
    refine r_u (o_as rfl) ?_
    refine r_nil ?_
    refine x_seq ?_
    refine c_ret ?_
    obtain rfl := Option.some.inj hm3
    exact x_r1 rfl (rv_t rfl) (Le.refl _) ⟨_, rfl, rfl, rfl, rfl⟩

def hawthornref05_Sketch_place (a0 : hawthornref05_Sketch) (a1 : Str) (a2 : Int) : Option Int :=
  (hawthornref01_Of a0.Seed a1).bind fun r1 => (hawthornref01_Place r1 a2 a0.Wide).bind fun r3 => some r3
theorem hawthornref05_Sketch_place.ok {G R F} (a0 : hawthornref05_Sketch) (g0_ : hawthornref05_Sketch.G) (h0 : hawthornref05_Sketch.ro R a0 g0_) (a1 : Str) (a2 : Int) (r : Int) (hm : hawthornref05_Sketch_place a0 a1 a2 = some r) : CO Try.prog 46 [.agg [vI a0.Wide, vW a0.Seed, g0_.Rows.1, g0_.Door, vI a0.Added].toArray, vS a1, vI a2] G R (F)
    (Ret fun u R' L' => u = vI r ∧ R' = R ∧ L' = F) := by
  unfold hawthornref05_Sketch_place at hm
  refine co_ofN (N := 15) Try.func46 rfl rfl ?_
  refine c_seq ?_
  refine c_reg ?_
  refine r_new (o_bx [vI a0.Wide, vW a0.Seed, g0_.Rows.1, g0_.Door, vI a0.Added] rfl rfl) fun b0 => ?_
  refine r_u (o_as rfl) ?_
  refine r_nil ?_
  refine x_seq ?_
  refine c_seq ?_
  obtain ⟨r1, hr1, hm2⟩ := bs hm
  clear hm
  obtain ⟨r3, hr3, hm4⟩ := bs hm2
  clear hm2
  refine c_any mixed (effs := []) (V := []) ?_
  refine stage_ext [(0, pt b0 1), (1, vW a0.Seed), (2, vS a1), (3, vW r1), (4, vI a2), (5, pt b0 0), (6, vI a0.Wide), (7, vI r3), (8, vI r3)] rfl ?_
  refine stage rfl rfl rfl rfl [0, 1, 0, 7, 0, 0, 32, 127, 255] [0, 1, 2, 3, 4, 5, 6, 7, 8] [] rfl rfl rfl (qc rfl rfl (s_u (o_fa fa36_1 rfl)) (qc rfl rfl (s_u (o_ld 0 sc22 rfl rfl rfl)) (qc rfl rfl (s_u (o_mv rfl)) (qc rfl rfl (s_u (o_callq ca67 rfl (hawthornref01_Of.ok a0.Seed a1 r1 hr1))) (qc rfl rfl (s_u (o_mv rfl)) (qc rfl rfl (s_u (o_fa fa36_0 rfl)) (qc rfl rfl (s_u (o_ld 0 sc3 rfl rfl rfl)) (qc rfl rfl (s_u (o_callq ca66 rfl (hawthornref01_Place.ok r1 a2 a0.Wide r3 hr3))) (qc rfl rfl (s_u (o_as rfl)) qn))))))))) en ?_
  intro _
  refine ex_sub (E' := [(6, vI r3)]) ⟨rfl, trivial⟩ ?_
  refine x_seq ?_
  refine c_ret ?_
  obtain rfl := Option.some.inj hm4
  refine ex_st (fun _ h => st_pk 1 [] (by decide) h) ?_
  exact x_r1 rfl (rv_t rfl) (Le.refl _) ⟨_, rfl, rfl, rfl, rfl⟩

def hawthornref05_Sketch_least_l0 (a0 : hawthornref05_Sketch) (a1 : Str) : Nat → Int → Int → Option (Int)
  | 0, _, _ => none
  | k7 + 1, n_5, i_6 => if decide (i_6 < 4) then (gi a0.Rows i_6).bind fun x12 => (hawthornref05_Sketch_place a0 a1 i_6).bind fun r15 => (gi x12 r15).bind fun x17 => Option.bind (if decide (x17 < n_5) then some x17 else some n_5) fun p19 => hawthornref05_Sketch_least_l0 a0 a1 k7 p19 (i64 (i_6 + 1)) else some n_5
def hawthornref05_Sketch_least (a0 : hawthornref05_Sketch) (a1 : Str) : Option Int :=
  Option.bind (hawthornref05_Sketch_least_l0 a0 a1 5 15 0) fun p1 => some p1
theorem hawthornref05_Sketch_least.ok {G R F} (a0 : hawthornref05_Sketch) (g0_ : hawthornref05_Sketch.G) (h0 : hawthornref05_Sketch.ro R a0 g0_) (a1 : Str) (r : Int) (hm : hawthornref05_Sketch_least a0 a1 = some r) : CO Try.prog 45 [.agg [vI a0.Wide, vW a0.Seed, g0_.Rows.1, g0_.Door, vI a0.Added].toArray, vS a1] G R (F)
    (Ret fun u R' L' => u = vI r ∧ R' = R ∧ L' = F) := by
  unfold hawthornref05_Sketch_least at hm
  refine co_ofN (N := 28) Try.func45 rfl rfl ?_
  refine c_seq ?_
  refine c_reg ?_
  refine r_new (o_bx [vI a0.Wide, vW a0.Seed, g0_.Rows.1, g0_.Door, vI a0.Added] rfl rfl) fun b0 => ?_
  refine r_u (o_as rfl) ?_
  refine r_nil ?_
  refine x_seq ?_
  refine c_seq ?_
  refine c_reg ?_
  refine r_u (o_as rfl) ?_
  refine r_nil ?_
  refine x_seq ?_
  refine c_seq ?_
  refine c_seq ?_
  refine c_reg ?_
  refine r_u (o_as rfl) ?_
  refine r_nil ?_
  refine x_seq ?_
  obtain ⟨p1, hp2, hm3⟩ := bs hm
  refine cd_join (E' := [(5, vI p1)]) (L' := Bk b0 36 [vI a0.Wide, vW a0.Seed, g0_.Rows.1, g0_.Door, vI a0.Added] :: F) ?_ fun K4 => ?_
  · refine x_seq ?_
    refine c_seq ?_
    refine c_reg ?_
    refine r_u (o_mv rfl) ?_
    refine r_u (o_as rfl) ?_
    refine r_nil ?_
    refine x_seq ?_
    refine c_ret ?_
    obtain rfl := Option.some.inj hm3
    refine ex_st (fun _ h => st_pk 1 [] (by decide) h) ?_
    exact x_r1 rfl (rv_t rfl) (Le.refl _) ⟨_, rfl, rfl, rfl, rfl⟩
  · refine c_blk ?_
    refine cd_loop (M := fun k7 (s : Int × Int) => hawthornref05_Sketch_least_l0 a0 a1 k7 s.1 s.2 = some p1) (Ef := fun (s : Int × Int) => [(1, vS a1), (2, pt b0 0), (5, vI s.1), (6, vI s.2)]) (Lf := fun (s : Int × Int) => Bk b0 36 [vI a0.Wide, vW a0.Seed, g0_.Rows.1, g0_.Door, vI a0.Added] :: F) 5 (15, 0) hp2 ⟨rfl, rfl, rfl, rfl, trivial⟩ (fun _ h => h) (fun _ h => by cases h) fun k7 s hM9 => ?_
    obtain ⟨n_5, i_6⟩ := s
    have hm8 : hawthornref05_Sketch_least_l0 a0 a1 (k7 + 1) n_5 i_6 = some p1 := hM9
    rw [hawthornref05_Sketch_least_l0] at hm8
    refine c_seq ?_
    refine c_seq ?_
    refine c_reg ?_
    refine r_u (o_mv rfl) ?_
    refine r_u (o_bin rfl rfl (bI_lt i_6 4)) ?_
    refine r_nil ?_
    refine x_seq ?_
    refine c_if (b := decide (i_6 < 4)) rfl (fun h10 => ?_) fun h10 => ?_
    · have hm11 := ift hm8 h10
      clear hm8
      refine c_skip ?_
      refine x_seq ?_
      refine c_seq ?_
      refine c_blk ?_
      refine c_seq ?_
      obtain ⟨x12, hx12, hm14⟩ := bs hm11
      clear hm11
      obtain ⟨b12, o12, l12, T12, fr12, c12, u13, hv12, hR12, he12, hi12, hN12⟩ := RoN.ne h0.1 hx12
      obtain ⟨r15, hr15, hm16⟩ := bs hm14
      clear hm14
      obtain ⟨x17, hx17, hm18⟩ := bs hm16
      clear hm16
      obtain ⟨b17, o17, l17, T17, fr17, c17, hv17, hR17, he17, hi17⟩ := RoS.ne hN12 hx17
      refine c_any mixed (effs := []) (V := []) ?_
      refine stage_ext [(0, pt b0 2), (1, g0_.Rows.1), (2, vI i_6), (3, pt b12 (o12 + i_6.toNat * 1)), (4, u13), (5, .agg [vI a0.Wide, vW a0.Seed, g0_.Rows.1, g0_.Door, vI a0.Added].toArray), (6, vS a1), (7, vI i_6), (8, vI r15), (9, pt b17 (o17 + r15.toNat * 1)), (10, vI x17), (11, vI x17)] rfl ?_
      refine stage rfl rfl rfl rfl [0, 1, 0, 7, 15, 0, 0, 0, 224, 511, 1023, 2047] [0, 1, 2, 3, 4, 5, 6, 7, 8, 9, 10, 11] [] rfl rfl rfl (qc rfl rfl (s_u (o_fa fa36_2 rfl)) (qc rfl rfl (s_u (o_ld 0 sc33 rfl rfl rfl)) (qc rfl rfl (s_u (o_mv rfl)) (qc rfl rfl (s_u (o_ix (sz := 1) Try.underlying33 (fun _ => by kernel_rfl) rfl rfl hv12 hi12)) (qc rfl rfl (s_u (o_ldR sc74 rfl hR12 (rok 0 he12 (by decide)))) (qc rfl rfl (s_u (o_ldn 0 [vI a0.Wide, vW a0.Seed, g0_.Rows.1, g0_.Door, vI a0.Added] ag36 rfl rfl rfl rfl)) (qc rfl rfl (s_u (o_mv rfl)) (qc rfl rfl (s_u (o_mv rfl)) (qc rfl rfl (s_u (o_callq ca46 rfl (hawthornref05_Sketch_place.ok a0 (⟨(g0_.Rows.1, []), g0_.Door⟩ : hawthornref05_Sketch.G) ⟨h0.1, h0.2⟩ a1 i_6 r15 hr15))) (qc rfl rfl (s_u (o_ix (sz := 1) Try.underlying74 (fun _ => by kernel_rfl) rfl rfl hv17 hi17)) (qc rfl rfl (s_u (o_ldR sc3 rfl hR17 (rok 0 he17 (by decide)))) (qc rfl rfl (s_u (o_as rfl)) qn)))))))))))) en ?_
      intro _
      refine ex_sub (E' := [(1, vS a1), (2, pt b0 0), (5, vI n_5), (6, vI i_6), (7, vI x17)]) ⟨rfl, rfl, rfl, rfl, rfl, trivial⟩ ?_
      refine x_seq ?_
      refine c_seq ?_
      refine c_reg ?_
      refine r_u (o_mv rfl) ?_
      refine r_u (o_mv rfl) ?_
      refine r_u (o_bin rfl rfl (bI_lt x17 n_5)) ?_
      refine r_nil ?_
      refine x_seq ?_
      obtain ⟨p19, hp20, hm21⟩ := bs hm18
      refine cd_join (E' := [(1, vS a1), (2, pt b0 0), (6, vI i_6), (5, vI p19)]) (L' := Bk b0 36 [vI a0.Wide, vW a0.Seed, g0_.Rows.1, g0_.Door, vI a0.Added] :: F) ?_ fun K22 => ?_
      · refine x_blk ?_
        refine x_seq ?_
        refine c_reg ?_
        refine r_u (o_mv rfl) ?_
        refine r_u (o_bin rfl rfl (bI_add i_6 1)) ?_
        refine r_u (o_as rfl) ?_
        refine r_nil ?_
        exact x_lp (p19, i64 (i_6 + 1)) hm21 ⟨rfl, rfl, rfl, rfl, trivial⟩ (fun _ h => st_pk 1 [0] (by decide) h)
      · refine c_if (b := decide (x17 < n_5)) rfl (fun h23 => ?_) fun h23 => ?_
        · have hm24 := ift hp20 h23
          clear hp20
          refine c_reg ?_
          refine r_u (o_mv rfl) ?_
          refine r_u (o_as rfl) ?_
          refine r_nil ?_
          obtain rfl := Option.some.inj hm24
          exact x_sub K22 ⟨rfl, rfl, rfl, rfl, trivial⟩ (fun _ h => st_pk 1 [0] (by decide) h)
        · have hm24 := iff_ hp20 h23
          clear hp20
          refine c_skip ?_
          obtain rfl := Option.some.inj hm24
          exact x_sub K22 ⟨rfl, rfl, rfl, rfl, trivial⟩ (fun _ h => st_pk 1 [0] (by decide) h)
    · have hm11 := iff_ hm8 h10
      clear hm8
      refine c_exit (x_exit (ks' := _) rfl ?_)
      obtain rfl := Option.some.inj hm11
      exact x_sub K4 ⟨rfl, trivial⟩ (fun _ h => st_pk 1 [0] (by decide) h)

def hawthornref05_Sketch_Seen (a0 : hawthornref05_Sketch) (a1 : Str) : Option Int :=
  (hawthornref05_Sketch_least a0 a1).bind fun r1 => (hawthornref05_Sketch_place a0 a1 4).bind fun r3 => (gi a0.Door r3).bind fun x5 => if x5 then some (i64 (r1 + 1)) else some r1
theorem hawthornref05_Sketch_Seen.ok {G R F} (a0 : hawthornref05_Sketch) (g0_ : hawthornref05_Sketch.G) (h0 : hawthornref05_Sketch.ro R a0 g0_) (a1 : Str) (r : Int) (hm : hawthornref05_Sketch_Seen a0 a1 = some r) : CO Try.prog 18 [.agg [vI a0.Wide, vW a0.Seed, g0_.Rows.1, g0_.Door, vI a0.Added].toArray, vS a1] G R (F)
    (Ret fun u R' L' => u = vI r ∧ R' = R ∧ L' = F) := by
  unfold hawthornref05_Sketch_Seen at hm
  refine co_ofN (N := 19) Try.func18 rfl rfl ?_
  refine c_seq ?_
  refine c_reg ?_
  refine r_new (o_bx [vI a0.Wide, vW a0.Seed, g0_.Rows.1, g0_.Door, vI a0.Added] rfl rfl) fun b0 => ?_
  refine r_u (o_as rfl) ?_
  refine r_nil ?_
  refine x_seq ?_
  refine c_seq ?_
  refine c_reg ?_
  refine r_u (o_ldn 0 [vI a0.Wide, vW a0.Seed, g0_.Rows.1, g0_.Door, vI a0.Added] ag36 rfl rfl rfl rfl) ?_
  refine r_u (o_mv rfl) ?_
  obtain ⟨r1, hr1, hm2⟩ := bs hm
  clear hm
  refine r_u (o_callq ca45 rfl (hawthornref05_Sketch_least.ok a0 (⟨(g0_.Rows.1, []), g0_.Door⟩ : hawthornref05_Sketch.G) ⟨h0.1, h0.2⟩ a1 r1 hr1)) ?_
  refine r_u (o_as rfl) ?_
  refine r_nil ?_
  refine x_seq ?_
  refine c_seq ?_
  refine c_seq ?_
  obtain ⟨r3, hr3, hm4⟩ := bs hm2
  clear hm2
  obtain ⟨x5, hx5, hm6⟩ := bs hm4
  clear hm4
  obtain ⟨b5, o5, l5, T5, fr5, c5, hv5, hR5, he5, hi5⟩ := RoS.ne h0.2 hx5
  refine c_any mixed (effs := []) (V := []) ?_
  refine stage_ext [(0, pt b0 3), (1, g0_.Door), (2, .agg [vI a0.Wide, vW a0.Seed, g0_.Rows.1, g0_.Door, vI a0.Added].toArray), (3, vS a1), (4, vI r3), (5, pt b5 (o5 + r3.toNat * 1)), (6, vB x5)] rfl ?_
  refine stage rfl rfl rfl rfl [0, 1, 0, 0, 12, 31, 63] [0, 1, 2, 3, 4, 5, 6] [] rfl rfl rfl (qc rfl rfl (s_u (o_fa fa36_3 rfl)) (qc rfl rfl (s_u (o_ld 0 sc34 rfl rfl rfl)) (qc rfl rfl (s_u (o_ldn 0 [vI a0.Wide, vW a0.Seed, g0_.Rows.1, g0_.Door, vI a0.Added] ag36 rfl rfl rfl rfl)) (qc rfl rfl (s_u (o_mv rfl)) (qc rfl rfl (s_u (o_callq ca46 rfl (hawthornref05_Sketch_place.ok a0 (⟨(g0_.Rows.1, []), g0_.Door⟩ : hawthornref05_Sketch.G) ⟨h0.1, h0.2⟩ a1 4 r3 hr3))) (qc rfl rfl (s_u (o_ix (sz := 1) Try.underlying34 (fun _ => by kernel_rfl) rfl rfl hv5 hi5)) (qc rfl rfl (s_u (o_ldR sc4 rfl hR5 (rok 0 he5 (by decide)))) qn))))))) en ?_
  intro _
  refine ex_sub (E' := [(5, vI r1), (15, vB x5)]) ⟨rfl, rfl, trivial⟩ ?_
  refine x_seq ?_
  refine c_if (b := x5) rfl (fun h7 => ?_) fun h7 => ?_
  · have hm8 := ift hm6 h7
    clear hm6
    refine c_reg ?_
    refine r_u (o_mv rfl) ?_
    refine r_u (o_bin rfl rfl (bI_add r1 1)) ?_
    refine r_u (o_as rfl) ?_
    refine r_nil ?_
    refine x_seq ?_
    refine c_seq ?_
    refine c_reg ?_
    refine r_u (o_mv rfl) ?_
    refine r_u (o_as rfl) ?_
    refine r_nil ?_
    refine x_seq ?_
    refine c_ret ?_
    obtain rfl := Option.some.inj hm8
    refine ex_st (fun _ h => st_pk 1 [] (by decide) h) ?_
    exact x_r1 rfl (rv_t rfl) (Le.refl _) ⟨_, rfl, rfl, rfl, rfl⟩
  · have hm8 := iff_ hm6 h7
    clear hm6
    refine c_skip ?_
    refine x_seq ?_
    refine c_seq ?_
    refine c_reg ?_
    refine r_u (o_mv rfl) ?_
    refine r_u (o_as rfl) ?_
    refine r_nil ?_
    refine x_seq ?_
    refine c_ret ?_
    obtain rfl := Option.some.inj hm8
    refine ex_st (fun _ h => st_pk 1 [] (by decide) h) ?_
    exact x_r1 rfl (rv_t rfl) (Le.refl _) ⟨_, rfl, rfl, rfl, rfl⟩

def hawthornref05_Sketch_Age_l1 (a0 : hawthornref05_Sketch) (i_12 : Int) : Nat → Int → (List (List Int)) → Option (List (List Int))
  | 0, _, _ => none
  | k29 + 1, k_27, c_28 => if decide (k_27 < a0.Wide) then (gi c_28 i_12).bind fun y34 => (gi a0.Rows i_12).bind fun x37 => (gi x37 k_27).bind fun x40 => (gi y34 k_27).bind fun x42 => hawthornref05_Sketch_Age_l1 a0 i_12 k29 (i64 (k_27 + 1)) (ls c_28 i_12 (ls y34 k_27 (i64 (x40.tdiv 2)))) else some c_28
def hawthornref05_Sketch_Age_l0 (a0 : hawthornref05_Sketch) : Nat → Int → (List (List Int)) → Option (List (List Int))
  | 0, _, _ => none
  | k14 + 1, i_12, c_13 => if decide (i_12 < 4) then Option.bind (Option.bind (hawthornref05_Sketch_Age_l1 a0 i_12 ((a0.Wide - 0).toNat + 1) 0 c_13) fun p23 => some p23) fun p19 => hawthornref05_Sketch_Age_l0 a0 k14 (i64 (i_12 + 1)) p19 else some c_13
def hawthornref05_Sketch_Age (a0 : hawthornref05_Sketch) : Option hawthornref05_Sketch :=
  (hawthornref05_New a0.Wide a0.Seed).bind fun r2 => Option.bind (hawthornref05_Sketch_Age_l0 a0 5 0 r2.Rows) fun p8 => some (⟨r2.Wide, r2.Seed, p8, r2.Door, i64 (a0.Added.tdiv 2)⟩ : hawthornref05_Sketch)
theorem hawthornref05_Sketch_Age.ok {G R F} (a0 : hawthornref05_Sketch) (g0_ : hawthornref05_Sketch.G) (h0 : hawthornref05_Sketch.ro R a0 g0_) (r : hawthornref05_Sketch) (hm : hawthornref05_Sketch_Age a0 = some r) : CO Try.prog 24 [.agg [vI a0.Wide, vW a0.Seed, g0_.Rows.1, g0_.Door, vI a0.Added].toArray] G R (F)
    (Ret fun u R' L' => ∃ (p0 : hawthornref05_Sketch.G), u = .agg [vI r.Wide, vW r.Seed, p0.Rows.1, p0.Door, vI r.Added].toArray ∧ R' = R ∧ L' = OwS true 74 1 eV p0.Rows.1 p0.Rows.2 :: OwL (OwS true 3 1 eI) p0.Rows.2 r.Rows :: OwS true 4 1 eB p0.Door r.Door :: F) := by
  unfold hawthornref05_Sketch_Age at hm
  refine co_ofN (N := 42) Try.func24 rfl rfl ?_
  refine c_seq ?_
  refine c_reg ?_
  refine r_new (o_bx [vI a0.Wide, vW a0.Seed, g0_.Rows.1, g0_.Door, vI a0.Added] rfl rfl) fun b0 => ?_
  refine r_new (o_al ze36) fun b1 => ?_
  refine r_nil ?_
  refine x_seq ?_
  refine c_seq ?_
  refine c_reg ?_
  refine r_u (o_fa fa36_0 rfl) ?_
  refine r_u (o_ld 1 sc3 rfl rfl rfl) ?_
  refine r_u (o_fa fa36_1 rfl) ?_
  refine r_u (o_ld 1 sc22 rfl rfl rfl) ?_
  obtain ⟨r2, hr2, hm6⟩ := bs hm
  clear hm
  refine r_sw (s_w (o_call ca44 rfl (hawthornref05_New.ok a0.Wide a0.Seed r2 hr2))) ?_
  rintro _ R _ _ ⟨v3, rfl, rfl, rfl⟩
  refine r_new (o_al ze36) fun b7 => ?_
  refine rl_st (fun _ h => st_pk 6 [0, 1, 3, 2, 4, 5] (by decide) h) ?_
  refine r_u0 (ou_if (one_o 1 rfl) fun ho0 => ou_if (one_o 2 rfl) fun ho1 => o_stn ag36 rfl rfl rfl (al_c rfl (al_c rfl (al_c ho0 (al_c ho1 (al_c rfl al_n))))) rfl rfl rfl) ?_
  refine r_nil ?_
  refine x_seq ?_
  refine c_seq ?_
  refine c_seq ?_
  refine c_reg ?_
  refine r_u (o_as rfl) ?_
  refine r_nil ?_
  refine x_seq ?_
  obtain ⟨p8, hp9, hm10⟩ := bs hm6
  refine cd_join (E' := [(1, pt b0 0), (2, pt b1 0), (3, pt b7 0)]) (L' := Bk b7 36 [vI r2.Wide, vW r2.Seed, v3.Rows.1, v3.Door, vI r2.Added] :: Bk b1 36 [vI 0, vW 0, .slice none 0 0, .slice none 0 0, vI 0] :: Bk b0 36 [vI a0.Wide, vW a0.Seed, g0_.Rows.1, g0_.Door, vI a0.Added] :: OwS true 74 1 eV v3.Rows.1 v3.Rows.2 :: OwS true 4 1 eB v3.Door r2.Door :: OwL (OwS true 3 1 eI) v3.Rows.2 p8 :: F) ?_ fun K11 => ?_
  · refine x_seq ?_
    refine c_seq ?_
    refine c_reg ?_
    refine r_u (o_fa fa36_4 rfl) ?_
    refine r_u (o_ld 2 sc3 rfl rfl rfl) ?_
    refine r_u (o_bin rfl rfl (bI_quo a0.Added 2 (by decide))) ?_
    refine r_u (o_fa fa36_4 rfl) ?_
    refine r_u0 (o_st sc3 rfl rfl rfl rfl rfl rfl) ?_
    refine r_nil ?_
    refine x_seq ?_
    refine c_seq ?_
    refine c_reg ?_
    refine r_u (o_ldn 0 [vI r2.Wide, vW r2.Seed, v3.Rows.1, v3.Door, vI (i64 (a0.Added.tdiv 2))] ag36 rfl rfl rfl rfl) ?_
    refine rl_st (fun _ h => st_pk 6 [1, 3, 4, 0, 2, 5] (by decide) h) ?_
    refine r_u0 (ou_if (one_o 1 rfl) fun ho0 => ou_if (one_o 2 rfl) fun ho1 => o_stn ag36 rfl rfl rfl (al_c rfl (al_c rfl (al_c ho0 (al_c ho1 (al_c rfl al_n))))) rfl rfl rfl) ?_
    refine r_nil ?_
    refine x_seq ?_
    refine c_ret ?_
    obtain rfl := Option.some.inj hm10
    exact x_d1 rfl (rv_n 0 [vI r2.Wide, vW r2.Seed, v3.Rows.1, v3.Door, vI (i64 (a0.Added.tdiv 2))] ag36 rfl rfl rfl rfl) (fun _ h => st_pk 6 [1, 5, 2] (by decide) h) (Le.refl _) ⟨_, rfl, v3, rfl, rfl, rfl⟩
  · refine c_blk ?_
    refine cd_loop (M := fun k14 (s : Int × List (List Int)) => hawthornref05_Sketch_Age_l0 a0 k14 s.1 s.2 = some p8) (Ef := fun (s : Int × List (List Int)) => [(1, pt b0 0), (2, pt b1 0), (3, pt b7 0), (4, vI s.1)]) (Lf := fun (s : Int × List (List Int)) => Bk b7 36 [vI r2.Wide, vW r2.Seed, v3.Rows.1, v3.Door, vI r2.Added] :: Bk b1 36 [vI 0, vW 0, .slice none 0 0, .slice none 0 0, vI 0] :: Bk b0 36 [vI a0.Wide, vW a0.Seed, g0_.Rows.1, g0_.Door, vI a0.Added] :: OwS true 74 1 eV v3.Rows.1 v3.Rows.2 :: OwS true 4 1 eB v3.Door r2.Door :: OwL (OwS true 3 1 eI) v3.Rows.2 s.2 :: F) 5 (0, r2.Rows) hp9 ⟨rfl, rfl, rfl, rfl, trivial⟩ (fun _ h => st_pk 6 [0, 4, 5, 1, 2, 3] (by decide) h) (fun _ h => by cases h) fun k14 s hM16 => ?_
    obtain ⟨i_12, c_13⟩ := s
    have hm15 : hawthornref05_Sketch_Age_l0 a0 (k14 + 1) i_12 c_13 = some p8 := hM16
    rw [hawthornref05_Sketch_Age_l0] at hm15
    refine c_seq ?_
    refine c_seq ?_
    refine c_reg ?_
    refine r_u (o_mv rfl) ?_
    refine r_u (o_bin rfl rfl (bI_lt i_12 4)) ?_
    refine r_nil ?_
    refine x_seq ?_
    refine c_if (b := decide (i_12 < 4)) rfl (fun h17 => ?_) fun h17 => ?_
    · have hm18 := ift hm15 h17
      clear hm15
      refine c_skip ?_
      refine x_seq ?_
      refine c_seq ?_
      obtain ⟨p19, hp20, hm21⟩ := bs hm18
      refine cd_join (E' := [(1, pt b0 0), (2, pt b1 0), (3, pt b7 0), (4, vI i_12)]) (L' := Bk b7 36 [vI r2.Wide, vW r2.Seed, v3.Rows.1, v3.Door, vI r2.Added] :: Bk b1 36 [vI 0, vW 0, .slice none 0 0, .slice none 0 0, vI 0] :: Bk b0 36 [vI a0.Wide, vW a0.Seed, g0_.Rows.1, g0_.Door, vI a0.Added] :: OwS true 74 1 eV v3.Rows.1 v3.Rows.2 :: OwS true 4 1 eB v3.Door r2.Door :: OwL (OwS true 3 1 eI) v3.Rows.2 p19 :: F) ?_ fun K22 => ?_
      · refine x_seq ?_
        refine c_reg ?_
        refine r_u (o_mv rfl) ?_
        refine r_u (o_bin rfl rfl (bI_add i_12 1)) ?_
        refine r_u (o_as rfl) ?_
        refine r_nil ?_
        exact x_lp (i64 (i_12 + 1), p19) hm21 ⟨rfl, rfl, rfl, rfl, trivial⟩ (fun _ h => st_pk 6 [0, 1, 2, 3, 4, 5] (by decide) h)
      · refine c_blk ?_
        refine c_seq ?_
        refine c_reg ?_
        refine r_u (o_as rfl) ?_
        refine r_nil ?_
        refine x_seq ?_
        obtain ⟨p23, hp24, hm25⟩ := bs hp20
        refine cd_join (E' := [(1, pt b0 0), (2, pt b1 0), (3, pt b7 0), (4, vI i_12)]) (L' := Bk b7 36 [vI r2.Wide, vW r2.Seed, v3.Rows.1, v3.Door, vI r2.Added] :: Bk b1 36 [vI 0, vW 0, .slice none 0 0, .slice none 0 0, vI 0] :: Bk b0 36 [vI a0.Wide, vW a0.Seed, g0_.Rows.1, g0_.Door, vI a0.Added] :: OwS true 74 1 eV v3.Rows.1 v3.Rows.2 :: OwS true 4 1 eB v3.Door r2.Door :: OwL (OwS true 3 1 eI) v3.Rows.2 p23 :: F) ?_ fun K26 => ?_
        · refine x_blk ?_
          obtain rfl := Option.some.inj hm25
          exact x_sub K22 ⟨rfl, rfl, rfl, rfl, trivial⟩ (fun _ h => st_pk 6 [0, 1, 2, 3, 4, 5] (by decide) h)
        · refine c_blk ?_
          refine cd_loop (M := fun k29 (s : Int × List (List Int)) => hawthornref05_Sketch_Age_l1 a0 i_12 k29 s.1 s.2 = some p23) (Ef := fun (s : Int × List (List Int)) => [(1, pt b0 0), (2, pt b1 0), (3, pt b7 0), (4, vI i_12), (5, vI s.1)]) (Lf := fun (s : Int × List (List Int)) => Bk b7 36 [vI r2.Wide, vW r2.Seed, v3.Rows.1, v3.Door, vI r2.Added] :: Bk b1 36 [vI 0, vW 0, .slice none 0 0, .slice none 0 0, vI 0] :: Bk b0 36 [vI a0.Wide, vW a0.Seed, g0_.Rows.1, g0_.Door, vI a0.Added] :: OwS true 74 1 eV v3.Rows.1 v3.Rows.2 :: OwS true 4 1 eB v3.Door r2.Door :: OwL (OwS true 3 1 eI) v3.Rows.2 s.2 :: F) ((a0.Wide - 0).toNat + 1) (0, c_13) hp24 ⟨rfl, rfl, rfl, rfl, rfl, trivial⟩ (fun _ h => h) (fun _ h => by cases h) fun k29 s hM31 => ?_
          obtain ⟨k_27, c_28⟩ := s
          have hm30 : hawthornref05_Sketch_Age_l1 a0 i_12 (k29 + 1) k_27 c_28 = some p23 := hM31
          rw [hawthornref05_Sketch_Age_l1] at hm30
          refine c_seq ?_
          refine c_seq ?_
          refine c_reg ?_
          refine r_u (o_mv rfl) ?_
          refine r_u (o_fa fa36_0 rfl) ?_
          refine r_u (o_ld 2 sc3 rfl rfl rfl) ?_
          refine r_u (o_bin rfl rfl (bI_lt k_27 a0.Wide)) ?_
          refine r_nil ?_
          refine x_seq ?_
          refine c_if (b := decide (k_27 < a0.Wide)) rfl (fun h32 => ?_) fun h32 => ?_
          · have hm33 := ift hm30 h32
            clear hm30
            refine c_skip ?_
            refine x_seq ?_
            refine c_seq ?_
            refine c_blk ?_
            obtain ⟨y34, hy34, hm36⟩ := bs hm33
            clear hm33
            refine cd_ex (fun w h => st_peek 5 hy34 rfl w h) fun u35 hu35 => ?_
            obtain ⟨x37, hx37, hm39⟩ := bs hm36
            clear hm36
            obtain ⟨b37, o37, l37, T37, fr37, c37, u38, hv37, hR37, he37, hi37, hN37⟩ := RoN.ne h0.1 hx37
            obtain ⟨x40, hx40, hm41⟩ := bs hm39
            clear hm39
            obtain ⟨b40, o40, l40, T40, fr40, c40, hv40, hR40, he40, hi40⟩ := RoS.ne hN37 hx40
            obtain ⟨x42, hx42, hm43⟩ := bs hm41
            clear hm41
            refine c_any mixed (effs := [16]) (V := []) ?_
            refine stage_st (fun _ h => st_pk 6 [5, 0, 1, 2, 3, 4] (by decide) h) ?_
            refine stage_ext [(0, pt b7 2), (1, v3.Rows.1), (2, vI i_12), (3, pt (sb v3.Rows.1) (so v3.Rows.1 + i_12.toNat * 1)), (4, u35), (5, vI k_27), (6, pt b0 2), (7, g0_.Rows.1), (8, vI i_12), (9, pt b37 (o37 + i_12.toNat * 1)), (10, u38), (11, vI k_27), (12, pt b40 (o40 + k_27.toNat * 1)), (13, vI x40), (14, vI (i64 (x40.tdiv 2))), (15, pt (sb u35) (so u35 + k_27.toNat * 1))] rfl ?_
            refine stage rfl rfl rfl rfl [0, 1, 0, 7, 15, 0, 0, 64, 0, 448, 960, 0, 4032, 8128, 16320, 32767, 65535] [0, 1, 2, 3, 4, 5, 6, 7, 8, 9, 10, 11, 12, 13, 14, 15] [16] rfl rfl rfl (qc rfl rfl (s_u (o_fa fa36_2 rfl)) (qc rfl rfl (s_u (o_ld 1 sc33 rfl rfl rfl)) (qc rfl rfl (s_u (o_mv rfl)) (qc rfl rfl (s_u (o_ixO 4 Try.underlying33 (fun _ => by kernel_rfl) rfl rfl rfl hu35)) (qc rfl rfl (s_u (o_ldO0 4 sc74 rfl rfl hu35 rfl rfl)) (qc rfl rfl (s_u (o_mv rfl)) (qc rfl rfl (s_u (o_fa fa36_2 rfl)) (qc rfl rfl (s_u (o_ld 3 sc33 rfl rfl rfl)) (qc rfl rfl (s_u (o_mv rfl)) (qc rfl rfl (s_u (o_ix (sz := 1) Try.underlying33 (fun _ => by kernel_rfl) rfl rfl hv37 hi37)) (qc rfl rfl (s_u (o_ldR sc74 rfl hR37 (rok 0 he37 (by decide)))) (qc rfl rfl (s_u (o_mv rfl)) (qc rfl rfl (s_u (o_ix (sz := 1) Try.underlying74 (fun _ => by kernel_rfl) rfl rfl hv40 hi40)) (qc rfl rfl (s_u (o_ldR sc3 rfl hR40 (rok 0 he40 (by decide)))) (qc rfl rfl (s_u (o_bin rfl rfl (bI_quo x40 2 (by decide)))) (qc rfl rfl (s_u (o_ixK (kn_in 0 rfl hu35 hy34) Try.underlying74 (fun _ => by kernel_rfl) rfl rfl hx42)) qn)))))))))))))))) ?_ (fun h => absurd h (by decide))
            refine ec (eo_u rfl (s_u (o_stL (c' := i64 (x40.tdiv 2)) 0 hu35 hy34 sc3 rfl rfl rfl hx42 rfl rfl rfl)) (Le.refl _) ?_) en
            refine stage rfl rfl rfl rfl [0, 1, 0, 7, 15, 0, 0, 64, 0, 448, 960, 0, 4032, 8128, 16320, 32767, 65535] [] [] rfl rfl rfl qn en ?_
            intro _
            refine ex_sub (E' := [(1, pt b0 0), (2, pt b1 0), (3, pt b7 0), (4, vI i_12), (5, vI k_27)]) ⟨rfl, rfl, rfl, rfl, rfl, trivial⟩ ?_
            refine x_blk ?_
            refine x_seq ?_
            refine c_reg ?_
            refine r_u (o_mv rfl) ?_
            refine r_u (o_bin rfl rfl (bI_add k_27 1)) ?_
            refine r_u (o_as rfl) ?_
            refine r_nil ?_
            exact x_lp (i64 (k_27 + 1), ls c_28 i_12 (ls y34 k_27 (i64 (x40.tdiv 2)))) hm43 ⟨rfl, rfl, rfl, rfl, rfl, trivial⟩ (fun _ h => st_pk 6 [1, 2, 3, 4, 5, 0] (by decide) h)
          · have hm33 := iff_ hm30 h32
            clear hm30
            refine c_exit (x_exit (ks' := _) rfl ?_)
            obtain rfl := Option.some.inj hm33
            exact x_sub K26 ⟨rfl, rfl, rfl, rfl, trivial⟩ (fun _ h => st_pk 6 [0, 1, 2, 3, 4, 5] (by decide) h)
    · have hm18 := iff_ hm15 h17
      clear hm15
      refine c_exit (x_exit (ks' := _) rfl ?_)
      obtain rfl := Option.some.inj hm18
      exact x_sub K11 ⟨rfl, rfl, rfl, trivial⟩ (fun _ h => st_pk 6 [0, 1, 2, 3, 4, 5] (by decide) h)

def hawthornref05_Sketch_Add_l0 (a0 : hawthornref05_Sketch) (a1 : Str) (r41 : Int) : Nat → Int → (List (List Int)) → Option (List (List Int))
  | 0, _, _ => none
  | k49 + 1, i_47, c_48 => if decide (i_47 < 4) then (hawthornref05_Sketch_place a0 a1 i_47).bind fun r54 => (gi a0.Rows i_47).bind fun x56 => (gi x56 r54).bind fun x59 => Option.bind (if ((x59 == r41) && decide (r41 < 15)) then (gi c_48 i_47).bind fun y67 => (gi y67 r54).bind fun x70 => some (ls c_48 i_47 (ls y67 r54 (i64 (x70 + 1)))) else some c_48) fun p61 => hawthornref05_Sketch_Add_l0 a0 a1 r41 k49 (i64 (i_47 + 1)) p61 else some c_48
def hawthornref05_Sketch_Add_l1 (a0 : hawthornref05_Sketch) : Nat → Int → (List (List Int)) → Option (List (List Int))
  | 0, _, _ => none
  | k74 + 1, i_72, c_73 => if decide (i_72 < 4) then (gi c_73 i_72).bind fun y79 => (gi a0.Rows i_72).bind fun x82 => (cpy y79 x82).bind fun l85 => hawthornref05_Sketch_Add_l1 a0 k74 (i64 (i_72 + 1)) (ls c_73 i_72 l85) else some c_73
def hawthornref05_Sketch_Add (a0 : hawthornref05_Sketch) (a1 : Str) : Option hawthornref05_Sketch :=
  (hawthornref05_New a0.Wide a0.Seed).bind fun r2 => (cpy r2.Door a0.Door).bind fun l8 => Option.bind (hawthornref05_Sketch_Add_l1 a0 5 0 r2.Rows) fun p10 => (hawthornref05_Sketch_place a0 a1 4).bind fun r14 => (gi a0.Door r14).bind fun x16 => Option.bind (if !x16 then (gi l8 r14).bind fun x39 => some (ls l8 r14 true, p10) else (hawthornref05_Sketch_least a0 a1).bind fun r41 => Option.bind (hawthornref05_Sketch_Add_l0 a0 a1 r41 5 0 p10) fun p43 => some (l8, p43)) fun p18 => if decide ((i64 (10 * a0.Wide)) ≤ (i64 (a0.Added + 1))) then (hawthornref05_Sketch_Age (⟨r2.Wide, r2.Seed, p18.2, p18.1, i64 (a0.Added + 1)⟩ : hawthornref05_Sketch)).bind fun r32 => some r32 else some (⟨r2.Wide, r2.Seed, p18.2, p18.1, i64 (a0.Added + 1)⟩ : hawthornref05_Sketch)
theorem hawthornref05_Sketch_Add.ok {G R F} (a0 : hawthornref05_Sketch) (g0_ : hawthornref05_Sketch.G) (h0 : hawthornref05_Sketch.ro R a0 g0_) (a1 : Str) (r : hawthornref05_Sketch) (hm : hawthornref05_Sketch_Add a0 a1 = some r) : CO Try.prog 19 [.agg [vI a0.Wide, vW a0.Seed, g0_.Rows.1, g0_.Door, vI a0.Added].toArray, vS a1] G R (F)
    (Ret fun u R' L' => ∃ (p0 : hawthornref05_Sketch.G), u = .agg [vI r.Wide, vW r.Seed, p0.Rows.1, p0.Door, vI r.Added].toArray ∧ True ∧ L' = OwS true 74 1 eV p0.Rows.1 p0.Rows.2 :: OwL (OwS true 3 1 eI) p0.Rows.2 r.Rows :: OwS true 4 1 eB p0.Door r.Door :: F) := by
  unfold hawthornref05_Sketch_Add at hm
  refine co_ofN (N := 97) Try.func19 rfl rfl ?_
  refine c_seq ?_
  refine c_reg ?_
  refine r_new (o_bx [vI a0.Wide, vW a0.Seed, g0_.Rows.1, g0_.Door, vI a0.Added] rfl rfl) fun b0 => ?_
  refine r_new (o_al ze36) fun b1 => ?_
  refine r_nil ?_
  refine x_seq ?_
  refine c_seq ?_
  refine c_reg ?_
  refine r_u (o_fa fa36_0 rfl) ?_
  refine r_u (o_ld 1 sc3 rfl rfl rfl) ?_
  refine r_u (o_fa fa36_1 rfl) ?_
  refine r_u (o_ld 1 sc22 rfl rfl rfl) ?_
  obtain ⟨r2, hr2, hm6⟩ := bs hm
  clear hm
  refine r_sw (s_w (o_call ca44 rfl (hawthornref05_New.ok a0.Wide a0.Seed r2 hr2))) ?_
  rintro _ R _ _ ⟨v3, rfl, rfl, rfl⟩
  refine r_new (o_al ze36) fun b7 => ?_
  refine rl_st (fun _ h => st_pk 6 [0, 1, 3, 2, 4, 5] (by decide) h) ?_
  refine r_u0 (ou_if (one_o 1 rfl) fun ho0 => ou_if (one_o 2 rfl) fun ho1 => o_stn ag36 rfl rfl rfl (al_c rfl (al_c rfl (al_c ho0 (al_c ho1 (al_c rfl al_n))))) rfl rfl rfl) ?_
  refine r_nil ?_
  refine x_seq ?_
  refine c_seq ?_
  refine c_reg ?_
  refine r_u (o_fa fa36_3 rfl) ?_
  refine r_u (o_ld 0 sc34 rfl rfl rfl) ?_
  refine r_u (o_fa fa36_3 rfl) ?_
  refine r_u (o_ld 5 sc34 rfl rfl rfl) ?_
  obtain ⟨l8, hl8, hm9⟩ := bs hm6
  clear hm6
  refine rl_st (fun _ h => st_pk 6 [2, 0, 1, 3, 4, 5] (by decide) h) ?_
  refine r_u (o_cp Try.underlying34 rfl rfl (fun _ => ⟨_, rfl, rfl⟩) rfl rfl rfl h0.2 hl8) ?_
  refine r_nil ?_
  refine x_seq ?_
  refine c_seq ?_
  refine c_seq ?_
  refine c_reg ?_
  refine r_u (o_as rfl) ?_
  refine r_nil ?_
  refine x_seq ?_
  obtain ⟨p10, hp11, hm12⟩ := bs hm9
  refine cd_join (E' := [(1, vS a1), (2, pt b0 0), (4, pt b1 0), (5, pt b7 0)]) (L' := Bk b7 36 [vI r2.Wide, vW r2.Seed, v3.Rows.1, v3.Door, vI r2.Added] :: Bk b1 36 [vI 0, vW 0, .slice none 0 0, .slice none 0 0, vI 0] :: Bk b0 36 [vI a0.Wide, vW a0.Seed, g0_.Rows.1, g0_.Door, vI a0.Added] :: OwS true 4 1 eB v3.Door l8 :: OwS true 74 1 eV v3.Rows.1 v3.Rows.2 :: OwL (OwS true 3 1 eI) v3.Rows.2 p10 :: F) ?_ fun K13 => ?_
  · refine x_seq ?_
    refine c_seq ?_
    refine c_reg ?_
    refine r_u (o_fa fa36_4 rfl) ?_
    refine r_u (o_ld 2 sc3 rfl rfl rfl) ?_
    refine r_u (o_bin rfl rfl (bI_add a0.Added 1)) ?_
    refine r_u (o_fa fa36_4 rfl) ?_
    refine r_u0 (o_st sc3 rfl rfl rfl rfl rfl rfl) ?_
    refine r_nil ?_
    refine x_seq ?_
    refine c_seq ?_
    refine c_seq ?_
    refine c_reg ?_
    refine r_u (o_ldn 2 [vI a0.Wide, vW a0.Seed, g0_.Rows.1, g0_.Door, vI a0.Added] ag36 rfl rfl rfl rfl) ?_
    refine r_u (o_mv rfl) ?_
    obtain ⟨r14, hr14, hm15⟩ := bs hm12
    clear hm12
    refine r_u (o_callq ca46 rfl (hawthornref05_Sketch_place.ok a0 (⟨(g0_.Rows.1, []), g0_.Door⟩ : hawthornref05_Sketch.G) ⟨h0.1, h0.2⟩ a1 4 r14 hr14)) ?_
    refine r_u (o_as rfl) ?_
    refine r_nil ?_
    refine x_seq ?_
    refine c_seq ?_
    refine c_reg ?_
    refine r_u (o_fa fa36_3 rfl) ?_
    refine r_u (o_ld 2 sc34 rfl rfl rfl) ?_
    refine r_u (o_mv rfl) ?_
    obtain ⟨x16, hx16, hm17⟩ := bs hm15
    clear hm15
    obtain ⟨b16, o16, l16, T16, fr16, c16, hv16, hR16, he16, hi16⟩ := RoS.ne h0.2 hx16
    refine r_u (o_ix (sz := 1) Try.underlying34 (fun _ => by kernel_rfl) rfl rfl hv16 hi16) ?_
    refine r_u (o_ldR sc4 rfl hR16 (rok 0 he16 (by decide))) ?_
    refine r_u (o_not rfl) ?_
    refine r_nil ?_
    refine x_seq ?_
    obtain ⟨p18, hp19, hm20⟩ := bs hm17
    refine cd_join (E' := [(2, pt b0 0), (4, pt b1 0), (5, pt b7 0)]) (L' := Bk b7 36 [vI r2.Wide, vW r2.Seed, v3.Rows.1, v3.Door, vI (i64 (a0.Added + 1))] :: Bk b1 36 [vI 0, vW 0, .slice none 0 0, .slice none 0 0, vI 0] :: Bk b0 36 [vI a0.Wide, vW a0.Seed, g0_.Rows.1, g0_.Door, vI a0.Added] :: OwS true 4 1 eB v3.Door p18.1 :: OwS true 74 1 eV v3.Rows.1 v3.Rows.2 :: OwL (OwS true 3 1 eI) v3.Rows.2 p18.2 :: F) ?_ fun K21 => ?_
    · refine x_seq ?_
      refine c_seq ?_
      refine c_seq ?_
      refine c_reg ?_
      refine r_u (o_fa fa36_4 rfl) ?_
      refine r_u (o_ld 0 sc3 rfl rfl rfl) ?_
      refine r_u (o_fa fa36_0 rfl) ?_
      refine r_u (o_ld 2 sc3 rfl rfl rfl) ?_
      refine r_u (o_bin rfl rfl (bI_mul 10 a0.Wide)) ?_
      refine r_u (o_bin rfl rfl (bI_ge (i64 (a0.Added + 1)) (i64 (10 * a0.Wide)))) ?_
      refine r_nil ?_
      refine x_seq ?_
      refine c_if (b := decide ((i64 (10 * a0.Wide)) ≤ (i64 (a0.Added + 1)))) rfl (fun h22 => ?_) fun h22 => ?_
      · have hm23 := ift hm20 h22
        clear hm20
        refine c_seq ?_
        refine c_reg ?_
        refine r_u (o_ldn 0 [vI r2.Wide, vW r2.Seed, v3.Rows.1, v3.Door, vI (i64 (a0.Added + 1))] ag36 rfl rfl rfl rfl) ?_
        refine rl_st (fun _ h => st_pk 6 [4, 5, 0, 1, 2, 3] (by decide) h) ?_
        refine rl_ex (fun w h => st_freezeN w h) fun R24 hf27 => ?_
        obtain ⟨le25, h26⟩ := hf27
        refine rl_st (fun _ h => st_pk 4 [3, 0, 1, 2] (by decide) h) ?_
        refine rl_ex (fun w h => st_freeze w h) fun R28 hf31 => ?_
        obtain ⟨le29, h30⟩ := hf31
        obtain ⟨r32, hr32, hm36⟩ := bs hm23
        clear hm23
        refine r_sw (s_w (o_call ca24 rfl (hawthornref05_Sketch_Age.ok (⟨r2.Wide, r2.Seed, p18.2, p18.1, i64 (a0.Added + 1)⟩ : hawthornref05_Sketch) (⟨(v3.Rows.1, []), v3.Door⟩ : hawthornref05_Sketch.G) ⟨(RoN.mono le29 h26), h30⟩ r32 hr32))) ?_
        rintro _ R28 _ _ ⟨v33, rfl, rfl, rfl⟩
        refine rl_st (fun _ h => st_pk 6 [4, 0, 2, 1, 3, 5] (by decide) h) ?_
        refine r_u0 (ou_if (one_o 1 rfl) fun ho0 => ou_if (one_o 2 rfl) fun ho1 => o_stn ag36 rfl rfl rfl (al_c rfl (al_c rfl (al_c ho0 (al_c ho1 (al_c rfl al_n))))) rfl rfl rfl) ?_
        refine r_nil ?_
        refine x_seq ?_
        refine c_ret ?_
        obtain rfl := Option.some.inj hm36
        exact x_d1 rfl (rv_n 0 [vI r32.Wide, vW r32.Seed, v33.Rows.1, v33.Door, vI r32.Added] ag36 rfl rfl rfl rfl) (fun _ h => st_pk 6 [1, 3, 2] (by decide) h) (Le.trans le25 le29) ⟨_, rfl, v33, rfl, trivial, rfl⟩
      · have hm23 := iff_ hm20 h22
        clear hm20
        refine c_skip ?_
        refine x_seq ?_
        refine c_seq ?_
        refine c_reg ?_
        refine r_u (o_ldn 0 [vI r2.Wide, vW r2.Seed, v3.Rows.1, v3.Door, vI (i64 (a0.Added + 1))] ag36 rfl rfl rfl rfl) ?_
        refine rl_st (fun _ h => st_pk 6 [1, 4, 3, 0, 2, 5] (by decide) h) ?_
        refine r_u0 (ou_if (one_o 1 rfl) fun ho0 => ou_if (one_o 2 rfl) fun ho1 => o_stn ag36 rfl rfl rfl (al_c rfl (al_c rfl (al_c ho0 (al_c ho1 (al_c rfl al_n))))) rfl rfl rfl) ?_
        refine r_nil ?_
        refine x_seq ?_
        refine c_ret ?_
        obtain rfl := Option.some.inj hm23
        exact x_d1 rfl (rv_n 0 [vI r2.Wide, vW r2.Seed, v3.Rows.1, v3.Door, vI (i64 (a0.Added + 1))] ag36 rfl rfl rfl rfl) (fun _ h => st_pk 6 [1, 5, 2] (by decide) h) (Le.refl _) ⟨_, rfl, v3, rfl, trivial, rfl⟩
    · refine c_if (b := !x16) rfl (fun h37 => ?_) fun h37 => ?_
      · have hm38 := ift hp19 h37
        clear hp19
        refine c_reg ?_
        refine r_u (o_fa fa36_3 rfl) ?_
        refine r_u (o_ld 0 sc34 rfl rfl rfl) ?_
        refine r_u (o_mv rfl) ?_
        obtain ⟨x39, hx39, hm40⟩ := bs hm38
        clear hm38
        refine r_u (o_ixO 3 Try.underlying34 (fun _ => by kernel_rfl) rfl rfl rfl hx39) ?_
        refine rl_st (fun _ h => st_pk 6 [3, 0, 1, 2, 4, 5] (by decide) h) ?_
        refine r_u0 (o_stO0 (c' := true) sc4 rfl rfl rfl hx39 rfl rfl rfl) ?_
        refine r_nil ?_
        obtain rfl := Option.some.inj hm40
        exact x_sub K21 ⟨rfl, rfl, rfl, trivial⟩ (fun _ h => st_pk 6 [1, 2, 3, 0, 4, 5] (by decide) h)
      · have hm38 := iff_ hp19 h37
        clear hp19
        refine c_seq ?_
        refine c_reg ?_
        refine r_u (o_ldn 2 [vI a0.Wide, vW a0.Seed, g0_.Rows.1, g0_.Door, vI a0.Added] ag36 rfl rfl rfl rfl) ?_
        refine r_u (o_mv rfl) ?_
        obtain ⟨r41, hr41, hm42⟩ := bs hm38
        clear hm38
        refine r_u (o_callq ca45 rfl (hawthornref05_Sketch_least.ok a0 (⟨(g0_.Rows.1, []), g0_.Door⟩ : hawthornref05_Sketch.G) ⟨h0.1, h0.2⟩ a1 r41 hr41)) ?_
        refine r_u (o_as rfl) ?_
        refine r_nil ?_
        refine x_seq ?_
        refine c_seq ?_
        refine c_reg ?_
        refine r_u (o_as rfl) ?_
        refine r_nil ?_
        refine x_seq ?_
        obtain ⟨p43, hp44, hm45⟩ := bs hm42
        refine cd_join (E' := [(2, pt b0 0), (4, pt b1 0), (5, pt b7 0)]) (L' := Bk b7 36 [vI r2.Wide, vW r2.Seed, v3.Rows.1, v3.Door, vI (i64 (a0.Added + 1))] :: Bk b1 36 [vI 0, vW 0, .slice none 0 0, .slice none 0 0, vI 0] :: Bk b0 36 [vI a0.Wide, vW a0.Seed, g0_.Rows.1, g0_.Door, vI a0.Added] :: OwS true 4 1 eB v3.Door l8 :: OwS true 74 1 eV v3.Rows.1 v3.Rows.2 :: OwL (OwS true 3 1 eI) v3.Rows.2 p43 :: F) ?_ fun K46 => ?_
        · obtain rfl := Option.some.inj hm45
          exact x_sub K21 ⟨rfl, rfl, rfl, trivial⟩ (fun _ h => st_pk 6 [0, 1, 2, 3, 4, 5] (by decide) h)
        · refine c_blk ?_
          refine cd_loop (M := fun k49 (s : Int × List (List Int)) => hawthornref05_Sketch_Add_l0 a0 a1 r41 k49 s.1 s.2 = some p43) (Ef := fun (s : Int × List (List Int)) => [(1, vS a1), (2, pt b0 0), (4, pt b1 0), (5, pt b7 0), (8, vI r41), (9, vI s.1)]) (Lf := fun (s : Int × List (List Int)) => Bk b7 36 [vI r2.Wide, vW r2.Seed, v3.Rows.1, v3.Door, vI (i64 (a0.Added + 1))] :: Bk b1 36 [vI 0, vW 0, .slice none 0 0, .slice none 0 0, vI 0] :: Bk b0 36 [vI a0.Wide, vW a0.Seed, g0_.Rows.1, g0_.Door, vI a0.Added] :: OwS true 4 1 eB v3.Door l8 :: OwS true 74 1 eV v3.Rows.1 v3.Rows.2 :: OwL (OwS true 3 1 eI) v3.Rows.2 s.2 :: F) 5 (0, p10) hp44 ⟨rfl, rfl, rfl, rfl, rfl, rfl, trivial⟩ (fun _ h => h) (fun _ h => by cases h) fun k49 s hM51 => ?_
          obtain ⟨i_47, c_48⟩ := s
          have hm50 : hawthornref05_Sketch_Add_l0 a0 a1 r41 (k49 + 1) i_47 c_48 = some p43 := hM51
          rw [hawthornref05_Sketch_Add_l0] at hm50
          refine c_seq ?_
          refine c_seq ?_
          refine c_reg ?_
          refine r_u (o_mv rfl) ?_
          refine r_u (o_bin rfl rfl (bI_lt i_47 4)) ?_
          refine r_nil ?_
          refine x_seq ?_
          refine c_if (b := decide (i_47 < 4)) rfl (fun h52 => ?_) fun h52 => ?_
          · have hm53 := ift hm50 h52
            clear hm50
            refine c_skip ?_
            refine x_seq ?_
            refine c_seq ?_
            refine c_blk ?_
            refine c_seq ?_
            refine c_reg ?_
            refine r_u (o_ldn 2 [vI a0.Wide, vW a0.Seed, g0_.Rows.1, g0_.Door, vI a0.Added] ag36 rfl rfl rfl rfl) ?_
            refine r_u (o_mv rfl) ?_
            refine r_u (o_mv rfl) ?_
            obtain ⟨r54, hr54, hm55⟩ := bs hm53
            clear hm53
            refine r_u (o_callq ca46 rfl (hawthornref05_Sketch_place.ok a0 (⟨(g0_.Rows.1, []), g0_.Door⟩ : hawthornref05_Sketch.G) ⟨h0.1, h0.2⟩ a1 i_47 r54 hr54)) ?_
            refine r_u (o_as rfl) ?_
            refine r_nil ?_
            refine x_seq ?_
            refine c_seq ?_
            refine c_reg ?_
            refine r_u (o_fa fa36_2 rfl) ?_
            refine r_u (o_ld 2 sc33 rfl rfl rfl) ?_
            refine r_u (o_mv rfl) ?_
            obtain ⟨x56, hx56, hm58⟩ := bs hm55
            clear hm55
            obtain ⟨b56, o56, l56, T56, fr56, c56, u57, hv56, hR56, he56, hi56, hN56⟩ := RoN.ne h0.1 hx56
            refine r_u (o_ix (sz := 1) Try.underlying33 (fun _ => by kernel_rfl) rfl rfl hv56 hi56) ?_
            refine r_u (o_ldR sc74 rfl hR56 (rok 0 he56 (by decide))) ?_
            refine r_u (o_mv rfl) ?_
            obtain ⟨x59, hx59, hm60⟩ := bs hm58
            clear hm58
            obtain ⟨b59, o59, l59, T59, fr59, c59, hv59, hR59, he59, hi59⟩ := RoS.ne hN56 hx59
            refine r_u (o_ix (sz := 1) Try.underlying74 (fun _ => by kernel_rfl) rfl rfl hv59 hi59) ?_
            refine r_u (o_ldR sc3 rfl hR59 (rok 0 he59 (by decide))) ?_
            refine r_u (o_mv rfl) ?_
            refine r_u (o_bin rfl rfl (bI_eq x59 r41)) ?_
            refine r_u (o_mv rfl) ?_
            refine r_s (s_gt rfl rfl fun g => o_mv rfl) ?_
            refine r_s (s_gt rfl rfl fun g => o_bin (evg rfl g) rfl (bI_lt r41 15)) ?_
            refine r_u (o_and rfl rfl) ?_
            refine r_nil ?_
            refine x_seq ?_
            obtain ⟨p61, hp62, hm63⟩ := bs hm60
            refine cd_join (E' := [(1, vS a1), (2, pt b0 0), (4, pt b1 0), (5, pt b7 0), (8, vI r41), (9, vI i_47)]) (L' := Bk b7 36 [vI r2.Wide, vW r2.Seed, v3.Rows.1, v3.Door, vI (i64 (a0.Added + 1))] :: Bk b1 36 [vI 0, vW 0, .slice none 0 0, .slice none 0 0, vI 0] :: Bk b0 36 [vI a0.Wide, vW a0.Seed, g0_.Rows.1, g0_.Door, vI a0.Added] :: OwL (OwS true 3 1 eI) v3.Rows.2 p61 :: OwS true 4 1 eB v3.Door l8 :: OwS true 74 1 eV v3.Rows.1 v3.Rows.2 :: F) ?_ fun K64 => ?_
            · refine x_blk ?_
              refine x_seq ?_
              refine c_reg ?_
              refine r_u (o_mv rfl) ?_
              refine r_u (o_bin rfl rfl (bI_add i_47 1)) ?_
              refine r_u (o_as rfl) ?_
              refine r_nil ?_
              exact x_lp (i64 (i_47 + 1), p61) hm63 ⟨rfl, rfl, rfl, rfl, rfl, rfl, trivial⟩ (fun _ h => st_pk 6 [0, 1, 2, 4, 5, 3] (by decide) h)
            · refine c_if (b := ((x59 == r41) && decide (r41 < 15))) rfl (fun h65 => ?_) fun h65 => ?_
              · have hm66 := ift hp62 h65
                clear hp62
                refine c_reg ?_
                refine r_u (o_fa fa36_2 rfl) ?_
                refine r_u (o_ld 0 sc33 rfl rfl rfl) ?_
                refine r_u (o_mv rfl) ?_
                obtain ⟨y67, hy67, hm69⟩ := bs hm66
                clear hm66
                refine rl_ex (fun w h => st_peek 5 hy67 rfl w h) fun u68 hu68 => ?_
                refine r_u (o_ixO 4 Try.underlying33 (fun _ => by kernel_rfl) rfl rfl rfl hu68) ?_
                refine r_u (o_ldO0 4 sc74 rfl rfl hu68 rfl rfl) ?_
                refine r_u (o_mv rfl) ?_
                obtain ⟨x70, hx70, hm71⟩ := bs hm69
                clear hm69
                refine r_u (o_ixK (kn_in 5 rfl hu68 hy67) Try.underlying74 (fun _ => by kernel_rfl) rfl rfl hx70) ?_
                refine r_u (o_ldK (kn_in 5 rfl hu68 hy67) 0 sc3 rfl hx70 rfl rfl) ?_
                refine r_u (o_bin rfl rfl (bI_add x70 1)) ?_
                refine r_u (o_ixK (kn_in 5 rfl hu68 hy67) Try.underlying74 (fun _ => by kernel_rfl) rfl rfl hx70) ?_
                refine rl_st (fun _ h => st_pk 6 [5, 0, 1, 2, 3, 4] (by decide) h) ?_
                refine r_u0 (o_stL (c' := i64 (x70 + 1)) 0 hu68 hy67 sc3 rfl rfl rfl hx70 rfl rfl rfl) ?_
                refine r_nil ?_
                obtain rfl := Option.some.inj hm71
                exact x_sub K64 ⟨rfl, rfl, rfl, rfl, rfl, rfl, trivial⟩ (fun _ h => st_pk 6 [1, 2, 3, 0, 4, 5] (by decide) h)
              · have hm66 := iff_ hp62 h65
                clear hp62
                refine c_skip ?_
                obtain rfl := Option.some.inj hm66
                exact x_sub K64 ⟨rfl, rfl, rfl, rfl, rfl, rfl, trivial⟩ (fun _ h => st_pk 6 [0, 1, 2, 5, 3, 4] (by decide) h)
          · have hm53 := iff_ hm50 h52
            clear hm50
            refine c_exit (x_exit (ks' := _) rfl ?_)
            obtain rfl := Option.some.inj hm53
            exact x_sub K46 ⟨rfl, rfl, rfl, trivial⟩ (fun _ h => st_pk 6 [0, 1, 2, 3, 4, 5] (by decide) h)
  · refine c_blk ?_
    refine cd_loop (M := fun k74 (s : Int × List (List Int)) => hawthornref05_Sketch_Add_l1 a0 k74 s.1 s.2 = some p10) (Ef := fun (s : Int × List (List Int)) => [(1, vS a1), (2, pt b0 0), (4, pt b1 0), (5, pt b7 0), (6, vI s.1)]) (Lf := fun (s : Int × List (List Int)) => Bk b7 36 [vI r2.Wide, vW r2.Seed, v3.Rows.1, v3.Door, vI r2.Added] :: Bk b1 36 [vI 0, vW 0, .slice none 0 0, .slice none 0 0, vI 0] :: Bk b0 36 [vI a0.Wide, vW a0.Seed, g0_.Rows.1, g0_.Door, vI a0.Added] :: OwS true 4 1 eB v3.Door l8 :: OwS true 74 1 eV v3.Rows.1 v3.Rows.2 :: OwL (OwS true 3 1 eI) v3.Rows.2 s.2 :: F) 5 (0, r2.Rows) hp11 ⟨rfl, rfl, rfl, rfl, rfl, trivial⟩ (fun _ h => st_pk 6 [1, 4, 5, 0, 2, 3] (by decide) h) (fun _ h => by cases h) fun k74 s hM76 => ?_
    obtain ⟨i_72, c_73⟩ := s
    have hm75 : hawthornref05_Sketch_Add_l1 a0 (k74 + 1) i_72 c_73 = some p10 := hM76
    rw [hawthornref05_Sketch_Add_l1] at hm75
    refine c_seq ?_
    refine c_seq ?_
    refine c_reg ?_
    refine r_u (o_mv rfl) ?_
    refine r_u (o_bin rfl rfl (bI_lt i_72 4)) ?_
    refine r_nil ?_
    refine x_seq ?_
    refine c_if (b := decide (i_72 < 4)) rfl (fun h77 => ?_) fun h77 => ?_
    · have hm78 := ift hm75 h77
      clear hm75
      refine c_skip ?_
      refine x_seq ?_
      refine c_seq ?_
      refine c_blk ?_
      obtain ⟨y79, hy79, hm81⟩ := bs hm78
      clear hm78
      refine cd_ex (fun w h => st_peek 5 hy79 rfl w h) fun u80 hu80 => ?_
      obtain ⟨x82, hx82, hm84⟩ := bs hm81
      clear hm81
      obtain ⟨b82, o82, l82, T82, fr82, c82, u83, hv82, hR82, he82, hi82, hN82⟩ := RoN.ne h0.1 hx82
      obtain ⟨l85, hl85, hm86⟩ := bs hm84
      clear hm84
      refine c_any mixed (effs := [10]) (V := []) ?_
      refine stage_st (fun _ h => st_pk 6 [5, 0, 1, 2, 3, 4] (by decide) h) ?_
      refine stage_ext [(0, pt b7 2), (1, v3.Rows.1), (2, vI i_72), (3, pt (sb v3.Rows.1) (so v3.Rows.1 + i_72.toNat * 1)), (4, u80), (5, pt b0 2), (6, g0_.Rows.1), (7, vI i_72), (8, pt b82 (o82 + i_72.toNat * 1)), (9, u83)] rfl ?_
      refine stage rfl rfl rfl rfl [0, 1, 0, 7, 15, 0, 32, 0, 224, 480, 1023] [0, 1, 2, 3, 4, 5, 6, 7, 8, 9] [10] rfl rfl rfl (qc rfl rfl (s_u (o_fa fa36_2 rfl)) (qc rfl rfl (s_u (o_ld 1 sc33 rfl rfl rfl)) (qc rfl rfl (s_u (o_mv rfl)) (qc rfl rfl (s_u (o_ixO 5 Try.underlying33 (fun _ => by kernel_rfl) rfl rfl rfl hu80)) (qc rfl rfl (s_u (o_ldO0 5 sc74 rfl rfl hu80 rfl rfl)) (qc rfl rfl (s_u (o_fa fa36_2 rfl)) (qc rfl rfl (s_u (o_ld 3 sc33 rfl rfl rfl)) (qc rfl rfl (s_u (o_mv rfl)) (qc rfl rfl (s_u (o_ix (sz := 1) Try.underlying33 (fun _ => by kernel_rfl) rfl rfl hv82 hi82)) (qc rfl rfl (s_u (o_ldR sc74 rfl hR82 (rok 0 he82 (by decide)))) qn)))))))))) ?_ (fun h => absurd h (by decide))
      refine ec (eo_u rfl (s_u (o_cpL hu80 hy79 Try.underlying74 rfl rfl (fun _ => ⟨_, rfl, rfl⟩) rfl rfl rfl hN82 hl85)) (Le.refl _) ?_) en
      refine stage rfl rfl rfl rfl [0, 1, 0, 7, 15, 0, 32, 0, 224, 480, 1023] [] [] rfl rfl rfl qn en ?_
      intro _
      refine ex_sub (E' := [(1, vS a1), (2, pt b0 0), (4, pt b1 0), (5, pt b7 0), (6, vI i_72)]) ⟨rfl, rfl, rfl, rfl, rfl, trivial⟩ ?_
      refine x_blk ?_
      refine x_seq ?_
      refine c_reg ?_
      refine r_u (o_mv rfl) ?_
      refine r_u (o_bin rfl rfl (bI_add i_72 1)) ?_
      refine r_u (o_as rfl) ?_
      refine r_nil ?_
      exact x_lp (i64 (i_72 + 1), ls c_73 i_72 l85) hm86 ⟨rfl, rfl, rfl, rfl, rfl, trivial⟩ (fun _ h => st_pk 6 [1, 2, 3, 4, 5, 0] (by decide) h)
    · have hm78 := iff_ hm75 h77
      clear hm75
      refine c_exit (x_exit (ks' := _) rfl ?_)
      obtain rfl := Option.some.inj hm78
      exact x_sub K13 ⟨rfl, rfl, rfl, rfl, trivial⟩ (fun _ h => st_pk 6 [0, 1, 2, 3, 4, 5] (by decide) h)

def wire_Num_l0  : Nat → UInt64 → Str → Option (UInt64 × Str)
  | 0, _, _ => none
  | k9 + 1, n_7, c_8 => if decide (128 ≤ n_7) then (apd 1 c_8 [((n_7 % 128).toUInt8) + 128]).bind fun l14 => wire_Num_l0 k9 (n_7 / 128) l14 else some (n_7, c_8)
def wire_Num (a0 : UInt64) : Option Str :=
  Option.bind (wire_Num_l0 11 a0 []) fun p1 => (apd 1 p1.2 [p1.1.toUInt8]).bind fun l5 => some l5
theorem wire_Num.ok {G R F} (a0 : UInt64) (r : Str) (hm : wire_Num a0 = some r) : CO Try.prog 47 [vW a0] G R (F)
    (Ret fun u R' L' => u = vS r ∧ R' = R ∧ L' = F) := by
  unfold wire_Num at hm
  refine co_ofN (N := 17) Try.func47 rfl rfl ?_
  refine c_seq ?_
  refine c_reg ?_
  refine r_u (o_as rfl) ?_
  refine r_nil ?_
  refine x_seq ?_
  refine c_seq ?_
  refine c_reg ?_
  refine r_new (o_al ze97) fun b0 => ?_
  refine rl_st (fun _ h => bld_new (e := 5) h) ?_
  refine r_nil ?_
  refine x_seq ?_
  refine c_seq ?_
  obtain ⟨p1, hp2, hm3⟩ := bs hm
  refine cd_join (E' := [(3, pt b0 0), (0, vW p1.1)]) (L' := Bld 97 5 b0 p1.2 :: F) ?_ fun K4 => ?_
  · refine x_seq ?_
    refine c_seq ?_
    refine c_reg ?_
    refine r_u (o_mv rfl) ?_
    refine r_u (o_cv rfl (cWY Try.underlying22 Try.underlying5 p1.1)) ?_
    obtain ⟨l5, hl5, hm6⟩ := bs hm3
    clear hm3
    refine r_c (s_w (o_call ca68 rfl (bld_WriteByte.ok b0 p1.2 p1.1.toUInt8 _ hl5))) ?_
    refine r_nil ?_
    refine x_seq ?_
    refine c_seq ?_
    refine c_reg ?_
    refine r_c (s_w (o_call ca69 rfl (bld_String.ok b0 l5))) ?_
    refine r_u (o_as rfl) ?_
    refine r_nil ?_
    refine x_seq ?_
    refine c_ret ?_
    obtain rfl := Option.some.inj hm6
    exact x_r1 rfl (rv_t rfl) (Le.refl _) ⟨_, rfl, rfl, rfl, rfl⟩
  · refine c_blk ?_
    refine cd_loop (M := fun k9 (s : UInt64 × Str) => wire_Num_l0 k9 s.1 s.2 = some p1) (Ef := fun (s : UInt64 × Str) => [(3, pt b0 0), (0, vW s.1)]) (Lf := fun (s : UInt64 × Str) => Bld 97 5 b0 s.2 :: F) 11 (a0, []) hp2 ⟨rfl, rfl, trivial⟩ (fun _ h => h) (fun _ h => by cases h) fun k9 s hM11 => ?_
    obtain ⟨n_7, c_8⟩ := s
    have hm10 : wire_Num_l0 (k9 + 1) n_7 c_8 = some p1 := hM11
    rw [wire_Num_l0] at hm10
    refine c_seq ?_
    refine c_seq ?_
    refine c_reg ?_
    refine r_u (o_mv rfl) ?_
    refine r_u (o_bin rfl rfl (bW_ge n_7 128)) ?_
    refine r_nil ?_
    refine x_seq ?_
    refine c_if (b := decide (128 ≤ n_7)) rfl (fun h12 => ?_) fun h12 => ?_
    · have hm13 := ift hm10 h12
      clear hm10
      refine c_skip ?_
      refine x_seq ?_
      refine c_seq ?_
      refine c_blk ?_
      refine c_reg ?_
      refine r_u (o_mv rfl) ?_
      refine r_u (o_bin rfl rfl (bW_rem n_7 128 (by decide))) ?_
      refine r_u (o_cv rfl (cWY Try.underlying22 Try.underlying5 (n_7 % 128))) ?_
      refine r_u (o_bin rfl rfl (bY_add ((n_7 % 128).toUInt8) 128)) ?_
      obtain ⟨l14, hl14, hm15⟩ := bs hm13
      clear hm13
      refine r_c (s_w (o_call ca68 rfl (bld_WriteByte.ok b0 c_8 (((n_7 % 128).toUInt8) + 128) _ hl14))) ?_
      refine r_nil ?_
      refine x_blk ?_
      refine x_seq ?_
      refine c_reg ?_
      refine r_u (o_mv rfl) ?_
      refine r_u (o_bin rfl rfl (bW_quo n_7 128 (by decide))) ?_
      refine r_u (o_as rfl) ?_
      refine r_nil ?_
      exact x_lp (n_7 / 128, l14) hm15 ⟨rfl, rfl, trivial⟩ (fun _ h => st_pk 1 [0] (by decide) h)
    · have hm13 := iff_ hm10 h12
      clear hm10
      refine c_exit (x_exit (ks' := _) rfl ?_)
      obtain rfl := Option.some.inj hm13
      exact x_sub K4 ⟨rfl, rfl, trivial⟩ (fun _ h => st_pk 1 [0] (by decide) h)

def wire_Flag (a0 : Bool) : Str :=
  if a0 then [1] else [0]
theorem wire_Flag.ok {G R F} (a0 : Bool) (r : Str) (hm : wire_Flag a0 = r) : CO Try.prog 48 [vB a0] G R (F)
    (Ret fun u R' L' => u = vS r ∧ R' = R ∧ L' = F) := by
  unfold wire_Flag at hm
  refine co_ofN (N := 4) Try.func48 rfl rfl ?_
  refine c_seq ?_
  refine c_reg ?_
  refine r_u (o_as rfl) ?_
  refine r_nil ?_
  refine x_seq ?_
  refine c_seq ?_
  refine c_seq ?_
  refine c_reg ?_
  refine r_u (o_mv rfl) ?_
  refine r_nil ?_
  refine x_seq ?_
  refine c_if (b := a0) rfl (fun h0 => ?_) fun h0 => ?_
  · have hm1 := ift hm h0
    clear hm
    refine c_seq ?_
    refine c_reg ?_
    refine r_u (o_as rfl) ?_
    refine r_nil ?_
    refine x_seq ?_
    refine c_ret ?_
    subst hm1
    exact x_r1 rfl (rv_t rfl) (Le.refl _) ⟨_, rfl, rfl, rfl, rfl⟩
  · have hm1 := iff_ hm h0
    clear hm
    refine c_skip ?_
    refine x_seq ?_
    refine c_seq ?_
    refine c_reg ?_
    refine r_u (o_as rfl) ?_
    refine r_nil ?_
    refine x_seq ?_
    refine c_ret ?_
    subst hm1
    exact x_r1 rfl (rv_t rfl) (Le.refl _) ⟨_, rfl, rfl, rfl, rfl⟩

def sketch_Sketch_Export_l0 (a0 : sketch_Sketch) : Nat → Str → Int → Option (Str)
  | 0, _, _ => none
  | k22 + 1, out_20, s_21 => if decide (s_21 < (a0.door.length : Int)) then (gi a0.door s_21).bind fun x27 => if out_20.length + (wire_Flag x27).length ≤ maxS then sketch_Sketch_Export_l0 a0 k22 (out_20 ++ (wire_Flag x27)) (i64 (s_21 + 1)) else none else some out_20
def sketch_Sketch_Export_l1 (a0 : sketch_Sketch) : Nat → Str → Int → Option (Str)
  | 0, _, _ => none
  | k33 + 1, out_31, s_32 => if decide (s_32 < 4) then (gi a0.rows s_32).bind fun y38 => if out_31.length + y38.length ≤ maxS then sketch_Sketch_Export_l1 a0 k33 (out_31 ++ y38) (i64 (s_32 + 1)) else none else some out_31
def sketch_Sketch_Export (a0 : sketch_Sketch) : Option Str :=
  (wire_Num (toW a0.wide)).bind fun r2 => (wire_Num a0.seed).bind fun r4 => if r2.length + r4.length ≤ maxS then (wire_Num (toW a0.added)).bind fun r8 => if (r2 ++ r4).length + r8.length ≤ maxS then Option.bind (sketch_Sketch_Export_l1 a0 5 ((r2 ++ r4) ++ r8) 0) fun p12 => Option.bind (sketch_Sketch_Export_l0 a0 (((a0.door.length : Int) - 0).toNat + 1) p12 0) fun p16 => some p16 else none else none
theorem sketch_Sketch_Export.ok {G R F} (b0_ : Nat) (a0 : sketch_Sketch) (g0_ : sketch_Sketch.G) (r : Str) (hm : sketch_Sketch_Export a0 = some r) : CO Try.prog 21 [pt b0_ 0] G R (Bk b0_ 70 [vI a0.wide, vW a0.seed, g0_.rows.1, g0_.rows.2.1, g0_.rows.2.2.1, g0_.rows.2.2.2, g0_.door, vI a0.added] :: OwL (OwS false 5 1 eY) [g0_.rows.1, g0_.rows.2.1, g0_.rows.2.2.1, g0_.rows.2.2.2] a0.rows :: OwS true 4 1 eB g0_.door a0.door :: F)
    (Ret fun u R' L' => u = vS r ∧ R' = R ∧ L' = Bk b0_ 70 [vI a0.wide, vW a0.seed, g0_.rows.1, g0_.rows.2.1, g0_.rows.2.2.1, g0_.rows.2.2.2, g0_.door, vI a0.added] :: OwL (OwS false 5 1 eY) [g0_.rows.1, g0_.rows.2.1, g0_.rows.2.2.1, g0_.rows.2.2.2] a0.rows :: OwS true 4 1 eB g0_.door a0.door :: F) := by
  unfold sketch_Sketch_Export at hm
  refine co_ofN (N := 56) Try.func21 rfl rfl ?_
  refine c_seq ?_
  refine c_reg ?_
  refine r_u (o_as rfl) ?_
  refine r_nil ?_
  refine x_seq ?_
  refine c_seq ?_
  refine c_seq ?_
  refine c_reg ?_
  refine r_u (o_mv rfl) ?_
  refine r_u (o_bin rfl rfl (bP_eqp Try.underlying24)) ?_
  refine r_nil ?_
  refine x_seq ?_
  refine c_ff rfl ?_
  refine c_skip ?_
  refine x_seq ?_
  refine c_seq ?_
  obtain ⟨r2, hr2, hm3⟩ := bs hm
  clear hm
  obtain ⟨r4, hr4, hm5⟩ := bs hm3
  clear hm3
  obtain ⟨h6, hm7⟩ := ig hm5
  clear hm5
  obtain ⟨r8, hr8, hm9⟩ := bs hm7
  clear hm7
  obtain ⟨h10, hm11⟩ := ig hm9
  clear hm9
  refine c_any mixed (effs := []) (V := []) ?_
  refine stage_ext [(0, pt b0_ 0), (1, pt b0_ 0), (2, pt b0_ 0), (3, vI a0.wide), (4, vW (toW a0.wide)), (5, vS r2), (6, pt b0_ 0), (7, pt b0_ 0), (8, pt b0_ 1), (9, vW a0.seed), (10, vS r4), (11, vS (r2 ++ r4)), (12, pt b0_ 0), (13, pt b0_ 0), (14, pt b0_ 7), (15, vI a0.added), (16, vW (toW a0.added)), (17, vS r8), (18, vS ((r2 ++ r4) ++ r8)), (19, vS ((r2 ++ r4) ++ r8))] rfl ?_
  refine stage rfl rfl rfl rfl [0, 1, 3, 7, 15, 31, 0, 64, 192, 448, 1023, 2047, 0, 4096, 12288, 28672, 61440, 129023, 262143, 524287] [0, 1, 2, 3, 4, 5, 6, 7, 8, 9, 10, 11, 12, 13, 14, 15, 16, 17, 18, 19] [] rfl rfl rfl (qc rfl rfl (s_u (o_mv rfl)) (qc rfl rfl (s_u (o_nc rfl)) (qc rfl rfl (s_u (o_fa fa70_0 rfl)) (qc rfl rfl (s_u (o_ld 0 sc3 rfl rfl rfl)) (qc rfl rfl (s_u (o_cv rfl (cIW Try.underlying3 Try.underlying22 a0.wide))) (qc rfl rfl (s_u (o_callq ca47 rfl (wire_Num.ok (toW a0.wide) r2 hr2))) (qc rfl rfl (s_u (o_mv rfl)) (qc rfl rfl (s_u (o_nc rfl)) (qc rfl rfl (s_u (o_fa fa70_1 rfl)) (qc rfl rfl (s_u (o_ld 0 sc22 rfl rfl rfl)) (qc rfl rfl (s_u (o_callq ca47 rfl (wire_Num.ok a0.seed r4 hr4))) (qc rfl rfl (s_u (o_bin rfl rfl (bS_add r2 r4 h6))) (qc rfl rfl (s_u (o_mv rfl)) (qc rfl rfl (s_u (o_nc rfl)) (qc rfl rfl (s_u (o_fa fa70_4 rfl)) (qc rfl rfl (s_u (o_ld 0 sc3 rfl rfl rfl)) (qc rfl rfl (s_u (o_cv rfl (cIW Try.underlying3 Try.underlying22 a0.added))) (qc rfl rfl (s_u (o_callq ca47 rfl (wire_Num.ok (toW a0.added) r8 hr8))) (qc rfl rfl (s_u (o_bin rfl rfl (bS_add (r2 ++ r4) r8 h10))) (qc rfl rfl (s_u (o_as rfl)) qn)))))))))))))))))))) en ?_
  intro _
  refine ex_sub (E' := [(0, pt b0_ 0), (3, vS ((r2 ++ r4) ++ r8))]) ⟨rfl, rfl, trivial⟩ ?_
  refine x_seq ?_
  refine c_seq ?_
  refine c_seq ?_
  refine c_reg ?_
  refine r_u (o_mv rfl) ?_
  refine r_u (o_nc rfl) ?_
  refine r_u (o_fa fa70_2 rfl) ?_
  refine r_u (o_ldn 0 [g0_.rows.1, g0_.rows.2.1, g0_.rows.2.2.1, g0_.rows.2.2.2] ag68 rfl rfl rfl rfl) ?_
  refine r_u (o_mv rfl) ?_
  refine r_nil ?_
  refine x_seq ?_
  obtain ⟨p12, hp13, hm14⟩ := bs hm11
  refine cd_join (E' := [(0, pt b0_ 0), (3, vS p12)]) (L' := Bk b0_ 70 [vI a0.wide, vW a0.seed, g0_.rows.1, g0_.rows.2.1, g0_.rows.2.2.1, g0_.rows.2.2.2, g0_.door, vI a0.added] :: OwL (OwS false 5 1 eY) [g0_.rows.1, g0_.rows.2.1, g0_.rows.2.2.1, g0_.rows.2.2.2] a0.rows :: OwS true 4 1 eB g0_.door a0.door :: F) ?_ fun K15 => ?_
  · refine x_seq ?_
    refine c_seq ?_
    refine c_seq ?_
    refine c_reg ?_
    refine r_u (o_mv rfl) ?_
    refine r_u (o_nc rfl) ?_
    refine r_u (o_fa fa70_3 rfl) ?_
    refine r_u (o_ld 0 sc34 rfl rfl rfl) ?_
    refine r_u (o_lenO 2 Try.underlying34 rfl rfl) ?_
    refine r_u (o_mv rfl) ?_
    refine r_nil ?_
    refine x_seq ?_
    obtain ⟨p16, hp17, hm18⟩ := bs hm14
    refine cd_join (E' := [(3, vS p16)]) (L' := Bk b0_ 70 [vI a0.wide, vW a0.seed, g0_.rows.1, g0_.rows.2.1, g0_.rows.2.2.1, g0_.rows.2.2.2, g0_.door, vI a0.added] :: OwL (OwS false 5 1 eY) [g0_.rows.1, g0_.rows.2.1, g0_.rows.2.2.1, g0_.rows.2.2.2] a0.rows :: OwS true 4 1 eB g0_.door a0.door :: F) ?_ fun K19 => ?_
    · refine x_seq ?_
      refine c_seq ?_
      refine c_reg ?_
      refine r_u (o_mv rfl) ?_
      refine r_u (o_as rfl) ?_
      refine r_nil ?_
      refine x_seq ?_
      refine c_ret ?_
      obtain rfl := Option.some.inj hm18
      exact x_r1 rfl (rv_t rfl) (Le.refl _) ⟨_, rfl, rfl, rfl, rfl⟩
    · refine c_blk ?_
      refine cd_loop (M := fun k22 (s : Str × Int) => sketch_Sketch_Export_l0 a0 k22 s.1 s.2 = some p16) (Ef := fun (s : Str × Int) => [(44, g0_.door), (45, vI (a0.door.length : Int)), (3, vS s.1), (46, vI s.2)]) (Lf := fun (s : Str × Int) => Bk b0_ 70 [vI a0.wide, vW a0.seed, g0_.rows.1, g0_.rows.2.1, g0_.rows.2.2.1, g0_.rows.2.2.2, g0_.door, vI a0.added] :: OwL (OwS false 5 1 eY) [g0_.rows.1, g0_.rows.2.1, g0_.rows.2.2.1, g0_.rows.2.2.2] a0.rows :: OwS true 4 1 eB g0_.door a0.door :: F) (((a0.door.length : Int) - 0).toNat + 1) (p12, 0) hp17 ⟨rfl, rfl, rfl, rfl, trivial⟩ (fun _ h => h) (fun _ h => by cases h) fun k22 s hM24 => ?_
      obtain ⟨out_20, s_21⟩ := s
      have hm23 : sketch_Sketch_Export_l0 a0 (k22 + 1) out_20 s_21 = some p16 := hM24
      rw [sketch_Sketch_Export_l0] at hm23
      refine c_seq ?_
      refine c_reg ?_
      refine r_u (o_bin rfl rfl (bI_lt s_21 (a0.door.length : Int))) ?_
      refine r_nil ?_
      refine x_seq ?_
      refine c_seq ?_
      refine c_if (b := decide (s_21 < (a0.door.length : Int))) rfl (fun h25 => ?_) fun h25 => ?_
      · have hm26 := ift hm23 h25
        clear hm23
        refine c_skip ?_
        refine x_seq ?_
        refine c_seq ?_
        refine c_blk ?_
        refine c_seq ?_
        refine c_reg ?_
        obtain ⟨x27, hx27, hm28⟩ := bs hm26
        clear hm26
        refine r_u (o_ixO 2 Try.underlying34 (fun _ => by kernel_rfl) rfl rfl rfl hx27) ?_
        refine r_u (o_ldO0 2 sc4 rfl rfl hx27 rfl rfl) ?_
        refine r_u (o_as rfl) ?_
        refine r_nil ?_
        refine x_seq ?_
        refine c_reg ?_
        refine r_u (o_mv rfl) ?_
        refine r_u (o_mv rfl) ?_
        refine r_u (o_callq ca48 rfl (wire_Flag.ok x27 _ rfl)) ?_
        obtain ⟨h29, hm30⟩ := ig hm28
        clear hm28
        refine r_u (o_bin rfl rfl (bS_add out_20 (wire_Flag x27) h29)) ?_
        refine r_u (o_as rfl) ?_
        refine r_nil ?_
        refine x_blk ?_
        refine x_seq ?_
        refine c_reg ?_
        refine r_u (o_bin rfl rfl (bI_add s_21 1)) ?_
        refine r_u (o_mv rfl) ?_
        refine r_nil ?_
        exact x_lp (out_20 ++ (wire_Flag x27), i64 (s_21 + 1)) hm30 ⟨rfl, rfl, rfl, rfl, trivial⟩ (fun _ h => st_pk 3 [0, 1, 2] (by decide) h)
      · have hm26 := iff_ hm23 h25
        clear hm23
        refine c_exit (x_exit (ks' := _) rfl ?_)
        obtain rfl := Option.some.inj hm26
        exact x_sub K19 ⟨rfl, trivial⟩ (fun _ h => st_pk 3 [0, 1, 2] (by decide) h)
  · refine c_blk ?_
    refine cd_loop (M := fun k33 (s : Str × Int) => sketch_Sketch_Export_l1 a0 k33 s.1 s.2 = some p12) (Ef := fun (s : Str × Int) => [(0, pt b0_ 0), (32, .agg [g0_.rows.1, g0_.rows.2.1, g0_.rows.2.2.1, g0_.rows.2.2.2].toArray), (3, vS s.1), (33, vI s.2)]) (Lf := fun (s : Str × Int) => Bk b0_ 70 [vI a0.wide, vW a0.seed, g0_.rows.1, g0_.rows.2.1, g0_.rows.2.2.1, g0_.rows.2.2.2, g0_.door, vI a0.added] :: OwL (OwS false 5 1 eY) [g0_.rows.1, g0_.rows.2.1, g0_.rows.2.2.1, g0_.rows.2.2.2] a0.rows :: OwS true 4 1 eB g0_.door a0.door :: F) 5 ((r2 ++ r4) ++ r8, 0) hp13 ⟨rfl, rfl, rfl, rfl, trivial⟩ (fun _ h => h) (fun _ h => by cases h) fun k33 s hM35 => ?_
    obtain ⟨out_31, s_32⟩ := s
    have hm34 : sketch_Sketch_Export_l1 a0 (k33 + 1) out_31 s_32 = some p12 := hM35
    rw [sketch_Sketch_Export_l1] at hm34
    refine c_seq ?_
    refine c_reg ?_
    refine r_u (o_bin rfl rfl (bI_lt s_32 4)) ?_
    refine r_nil ?_
    refine x_seq ?_
    refine c_seq ?_
    refine c_if (b := decide (s_32 < 4)) rfl (fun h36 => ?_) fun h36 => ?_
    · have hm37 := ift hm34 h36
      clear hm34
      refine c_skip ?_
      refine x_seq ?_
      refine c_seq ?_
      refine c_blk ?_
      refine c_seq ?_
      refine c_reg ?_
      obtain ⟨y38, hy38, hm40⟩ := bs hm37
      clear hm37
      refine rl_ex (fun w h => st_peek 1 hy38 rfl w h) fun u39 hu39 => ?_
      refine r_u (o_ixG Try.underlying68 (fun _ => by kernel_rfl) sc67.1 rfl rfl rfl hu39) ?_
      refine r_u (o_as rfl) ?_
      refine r_nil ?_
      refine x_seq ?_
      refine c_reg ?_
      refine r_u (o_mv rfl) ?_
      refine r_u (o_mv rfl) ?_
      refine r_u (o_bsK (kn_in 1 rfl hu39 hy38) Try.underlying67 Try.underlying5 Try.underlying9 rfl) ?_
      obtain ⟨h41, hm42⟩ := ig hm40
      clear hm40
      refine r_u (o_bin rfl rfl (bS_add out_31 y38 h41)) ?_
      refine r_u (o_as rfl) ?_
      refine r_nil ?_
      refine x_blk ?_
      refine x_seq ?_
      refine c_reg ?_
      refine r_u (o_bin rfl rfl (bI_add s_32 1)) ?_
      refine r_u (o_mv rfl) ?_
      refine r_nil ?_
      exact x_lp (out_31 ++ y38, i64 (s_32 + 1)) hm42 ⟨rfl, rfl, rfl, rfl, trivial⟩ (fun _ h => st_pk 3 [0, 1, 2] (by decide) h)
    · have hm37 := iff_ hm34 h36
      clear hm34
      refine c_exit (x_exit (ks' := _) rfl ?_)
      obtain rfl := Option.some.inj hm37
      exact x_sub K15 ⟨rfl, rfl, trivial⟩ (fun _ h => st_pk 3 [0, 1, 2] (by decide) h)

end Go.Proofs.Ytlahbmoebbflbaa
