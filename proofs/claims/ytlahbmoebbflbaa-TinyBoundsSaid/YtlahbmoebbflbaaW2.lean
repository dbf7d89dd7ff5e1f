import Derived.Test.YtlahbmoebbflbaaW1
import Derived.Test.YtlahbmoebbflbaaFacts
import Derived.Test.YtlahbmoebbflbaaHwX
set_option linter.unusedVariables false
set_option linter.unusedSectionVars false
set_option linter.unusedSimpArgs false
set_option maxRecDepth 100000
set_option maxHeartbeats 8000000
namespace Go.Proofs.Ytlahbmoebbflbaa
open Go Go.Proofs.Ytlahbmoebbflbaa.Hw
def hawthornref03_Num_l0  : Nat → UInt64 → Str → Option (UInt64 × Str)
  | 0, _, _ => none
  | k9 + 1, n_7, s_8 => if decide (127 < n_7) then if s_8.length + [(128 + (n_7 % 128)).toUInt8].length ≤ maxS then hawthornref03_Num_l0 k9 (n_7 / 128) (s_8 ++ [(128 + (n_7 % 128)).toUInt8]) else none else some (n_7, s_8)
def hawthornref03_Num (a0 : UInt64) : Option Str :=
  Option.bind (hawthornref03_Num_l0 11 a0 []) fun p0 => if p0.2.length + [p0.1.toUInt8].length ≤ maxS then some (p0.2 ++ [p0.1.toUInt8]) else none
theorem hawthornref03_Num.ok {G R F} (a0 : UInt64) (r : Str) (hm : hawthornref03_Num a0 = some r) : CO Try.prog 49 [vW a0] G R (F)
    (Ret fun u R' L' => u = vS r ∧ R' = R ∧ L' = F) := by
  unfold hawthornref03_Num at hm
  refine co_ofN (N := 22) Try.func49 rfl rfl ?_
  refine c_seq ?_
  refine c_reg ?_
  refine r_u (o_as rfl) ?_
  refine r_nil ?_
  refine x_seq ?_
  refine c_seq ?_
  refine c_reg ?_
  refine r_u (o_as rfl) ?_
  refine r_nil ?_
  refine x_seq ?_
  refine c_seq ?_
  obtain ⟨p0, hp1, hm2⟩ := bs hm
  refine cd_join (E' := [(0, vW p0.1), (3, vS p0.2)]) (L' := F) ?_ fun K3 => ?_
  · refine x_seq ?_
    refine c_seq ?_
    refine c_reg ?_
    refine r_u (o_mv rfl) ?_
    refine r_u (o_mv rfl) ?_
    refine r_u (o_cv rfl (cWY Try.underlying22 Try.underlying5 p0.1)) ?_
    refine r_sw (s_w (o_bsl (en := eY) (sz := 1) (e := 5) (cs := [vY p0.1.toUInt8]) (r := [p0.1.toUInt8]) rfl (fun _ => by kernel_rfl) rfl (by decide) rfl (fun _ => rfl))) ?_
    rintro v4 R _ _ ⟨rfl, rfl⟩
    refine r_u (o_bs 0 Try.underlying67 Try.underlying5 Try.underlying9 rfl rfl) ?_
    obtain ⟨h5, hm6⟩ := ig hm2
    clear hm2
    refine r_u (o_bin rfl rfl (bS_add p0.2 [p0.1.toUInt8] h5)) ?_
    refine r_u (o_as rfl) ?_
    refine r_nil ?_
    refine x_seq ?_
    refine c_ret ?_
    obtain rfl := Option.some.inj hm6
    refine ex_st (fun _ h => st_pk 1 [] (by decide) h) ?_
    exact x_r1 rfl (rv_t rfl) (Le.refl _) ⟨_, rfl, rfl, rfl, rfl⟩
  · refine c_blk ?_
    refine cd_loop (M := fun k9 (s : UInt64 × Str) => hawthornref03_Num_l0 k9 s.1 s.2 = some p0) (Ef := fun (s : UInt64 × Str) => [(0, vW s.1), (3, vS s.2)]) (Lf := fun (s : UInt64 × Str) => F) 11 (a0, []) hp1 ⟨rfl, rfl, trivial⟩ (fun _ h => h) (fun _ h => by cases h) fun k9 s hM11 => ?_
    obtain ⟨n_7, s_8⟩ := s
    have hm10 : hawthornref03_Num_l0 (k9 + 1) n_7 s_8 = some p0 := hM11
    rw [hawthornref03_Num_l0] at hm10
    refine c_seq ?_
    refine c_seq ?_
    refine c_reg ?_
    refine r_u (o_mv rfl) ?_
    refine r_u (o_bin rfl rfl (bW_gt n_7 127)) ?_
    refine r_nil ?_
    refine x_seq ?_
    refine c_if (b := decide (127 < n_7)) rfl (fun h12 => ?_) fun h12 => ?_
    · have hm13 := ift hm10 h12
      clear hm10
      refine c_skip ?_
      refine x_seq ?_
      refine c_blk ?_
      refine c_seq ?_
      refine c_reg ?_
      refine r_u (o_mv rfl) ?_
      refine r_u (o_mv rfl) ?_
      refine r_u (o_bin rfl rfl (bW_rem n_7 128 (by decide))) ?_
      refine r_u (o_bin rfl rfl (bW_add 128 (n_7 % 128))) ?_
      refine r_u (o_cv rfl (cWY Try.underlying22 Try.underlying5 (128 + (n_7 % 128)))) ?_
      refine r_sw (s_w (o_bsl (en := eY) (sz := 1) (e := 5) (cs := [vY ((128 + (n_7 % 128)).toUInt8)]) (r := [(128 + (n_7 % 128)).toUInt8]) rfl (fun _ => by kernel_rfl) rfl (by decide) rfl (fun _ => rfl))) ?_
      rintro v14 R _ _ ⟨rfl, rfl⟩
      refine r_u (o_bs 0 Try.underlying67 Try.underlying5 Try.underlying9 rfl rfl) ?_
      obtain ⟨h15, hm16⟩ := ig hm13
      clear hm13
      refine r_u (o_bin rfl rfl (bS_add s_8 [(128 + (n_7 % 128)).toUInt8] h15)) ?_
      refine r_u (o_as rfl) ?_
      refine r_nil ?_
      refine x_seq ?_
      refine c_reg ?_
      refine r_u (o_mv rfl) ?_
      refine r_u (o_bin rfl rfl (bW_quo n_7 128 (by decide))) ?_
      refine r_u (o_as rfl) ?_
      refine r_nil ?_
      refine x_blk ?_
      exact x_lp (n_7 / 128, s_8 ++ [(128 + (n_7 % 128)).toUInt8]) hm16 ⟨rfl, rfl, trivial⟩ (fun _ h => st_pk 1 [] (by decide) h)
    · have hm13 := iff_ hm10 h12
      clear hm10
      refine c_exit (x_exit (ks' := _) rfl ?_)
      obtain rfl := Option.some.inj hm13
      exact x_sub K3 ⟨rfl, rfl, trivial⟩ (fun _ h => st_pk 0 [] (by decide) h)

def hawthornref03_Flag (a0 : Bool) : Str :=
  if a0 then [1] else [0]
theorem hawthornref03_Flag.ok {G R F} (a0 : Bool) (r : Str) (hm : hawthornref03_Flag a0 = r) : CO Try.prog 50 [vB a0] G R (F)
    (Ret fun u R' L' => u = vS r ∧ R' = R ∧ L' = F) := by
  unfold hawthornref03_Flag at hm
  refine co_ofN (N := 4) Try.func50 rfl rfl ?_
  refine c_seq ?_
  refine c_reg ?_
  refine r_u (o_as rfl) ?_
  refine r_nil ?_
  refine x_seq ?_
  refine c_seq ?_
  refine c_seq ?_
  refine c_reg ?_
  refine r_u (o_mv rfl) ?_
  refine r_nil ?_
  refine x_seq ?_
  refine c_if (b := a0) rfl (fun h0 => ?_) fun h0 => ?_
  · have hm1 := ift hm h0
    clear hm
    refine c_seq ?_
    refine c_reg ?_
    refine r_u (o_as rfl) ?_
    refine r_nil ?_
    refine x_seq ?_
    refine c_ret ?_
    subst hm1
    exact x_r1 rfl (rv_t rfl) (Le.refl _) ⟨_, rfl, rfl, rfl, rfl⟩
  · have hm1 := iff_ hm h0
    clear hm
    refine c_skip ?_
    refine x_seq ?_
    refine c_seq ?_
    refine c_reg ?_
    refine r_u (o_as rfl) ?_
    refine r_nil ?_
    refine x_seq ?_
    refine c_ret ?_
    subst hm1
    exact x_r1 rfl (rv_t rfl) (Le.refl _) ⟨_, rfl, rfl, rfl, rfl⟩

def hawthornref05_Sketch_Put_l0 (a0 : hawthornref05_Sketch) : Nat → Str → Int → Option (Str)
  | 0, _, _ => none
  | k21 + 1, out_19, k_20 => if decide (k_20 < a0.Wide) then (gi a0.Door k_20).bind fun x26 => if out_19.length + (hawthornref03_Flag x26).length ≤ maxS then hawthornref05_Sketch_Put_l0 a0 k21 (out_19 ++ (hawthornref03_Flag x26)) (i64 (k_20 + 1)) else none else some out_19
def hawthornref05_Sketch_Put_l2 (a0 : hawthornref05_Sketch) (i_31 : Int) : Nat → Str → Int → Option (Str)
  | 0, _, _ => none
  | k47 + 1, out_45, k_46 => if decide (k_46 < a0.Wide) then (gi a0.Rows i_31).bind fun x52 => (gi x52 k_46).bind fun x55 => if out_45.length + [toY x55].length ≤ maxS then hawthornref05_Sketch_Put_l2 a0 i_31 k47 (out_45 ++ [toY x55]) (i64 (k_46 + 1)) else none else some out_45
def hawthornref05_Sketch_Put_l1 (a0 : hawthornref05_Sketch) : Nat → Str → Int → Option (Str)
  | 0, _, _ => none
  | k32 + 1, out_30, i_31 => if decide (i_31 < 4) then Option.bind (Option.bind (hawthornref05_Sketch_Put_l2 a0 i_31 ((a0.Wide - 0).toNat + 1) out_30 0) fun p41 => some p41) fun p37 => hawthornref05_Sketch_Put_l1 a0 k32 p37 (i64 (i_31 + 1)) else some out_30
def hawthornref05_Sketch_Put (a0 : hawthornref05_Sketch) : Option Str :=
  (hawthornref03_Num (toW a0.Wide)).bind fun r1 => (hawthornref03_Num a0.Seed).bind fun r3 => if r1.length + r3.length ≤ maxS then (hawthornref03_Num (toW a0.Added)).bind fun r7 => if (r1 ++ r3).length + r7.length ≤ maxS then Option.bind (hawthornref05_Sketch_Put_l1 a0 5 ((r1 ++ r3) ++ r7) 0) fun p11 => Option.bind (hawthornref05_Sketch_Put_l0 a0 ((a0.Wide - 0).toNat + 1) p11 0) fun p15 => some p15 else none else none
theorem hawthornref05_Sketch_Put.ok {G R F} (a0 : hawthornref05_Sketch) (g0_ : hawthornref05_Sketch.G) (h0 : hawthornref05_Sketch.ro R a0 g0_) (r : Str) (hm : hawthornref05_Sketch_Put a0 = some r) : CO Try.prog 22 [.agg [vI a0.Wide, vW a0.Seed, g0_.Rows.1, g0_.Door, vI a0.Added].toArray] G R (F)
    (Ret fun u R' L' => u = vS r ∧ R' = R ∧ L' = F) := by
  unfold hawthornref05_Sketch_Put at hm
  refine co_ofN (N := 58) Try.func22 rfl rfl ?_
  refine c_seq ?_
  refine c_reg ?_
  refine r_new (o_bx [vI a0.Wide, vW a0.Seed, g0_.Rows.1, g0_.Door, vI a0.Added] rfl rfl) fun b0 => ?_
  refine r_u (o_as rfl) ?_
  refine r_nil ?_
  refine x_seq ?_
  refine c_seq ?_
  obtain ⟨r1, hr1, hm2⟩ := bs hm
  clear hm
  obtain ⟨r3, hr3, hm4⟩ := bs hm2
  clear hm2
  obtain ⟨h5, hm6⟩ := ig hm4
  clear hm4
  obtain ⟨r7, hr7, hm8⟩ := bs hm6
  clear hm6
  obtain ⟨h9, hm10⟩ := ig hm8
  clear hm8
  refine c_any mixed (effs := []) (V := []) ?_
  refine stage_ext [(0, pt b0 0), (1, vI a0.Wide), (2, vW (toW a0.Wide)), (3, vS r1), (4, pt b0 1), (5, vW a0.Seed), (6, vS r3), (7, vS (r1 ++ r3)), (8, pt b0 4), (9, vI a0.Added), (10, vW (toW a0.Added)), (11, vS r7), (12, vS ((r1 ++ r3) ++ r7)), (13, vS ((r1 ++ r3) ++ r7))] rfl ?_
  refine stage rfl rfl rfl rfl [0, 1, 3, 7, 0, 16, 63, 127, 0, 256, 768, 1919, 4095, 8191] [0, 1, 2, 3, 4, 5, 6, 7, 8, 9, 10, 11, 12, 13] [] rfl rfl rfl (qc rfl rfl (s_u (o_fa fa36_0 rfl)) (qc rfl rfl (s_u (o_ld 0 sc3 rfl rfl rfl)) (qc rfl rfl (s_u (o_cv rfl (cIW Try.underlying3 Try.underlying22 a0.Wide))) (qc rfl rfl (s_u (o_callq ca49 rfl (hawthornref03_Num.ok (toW a0.Wide) r1 hr1))) (qc rfl rfl (s_u (o_fa fa36_1 rfl)) (qc rfl rfl (s_u (o_ld 0 sc22 rfl rfl rfl)) (qc rfl rfl (s_u (o_callq ca49 rfl (hawthornref03_Num.ok a0.Seed r3 hr3))) (qc rfl rfl (s_u (o_bin rfl rfl (bS_add r1 r3 h5))) (qc rfl rfl (s_u (o_fa fa36_4 rfl)) (qc rfl rfl (s_u (o_ld 0 sc3 rfl rfl rfl)) (qc rfl rfl (s_u (o_cv rfl (cIW Try.underlying3 Try.underlying22 a0.Added))) (qc rfl rfl (s_u (o_callq ca49 rfl (hawthornref03_Num.ok (toW a0.Added) r7 hr7))) (qc rfl rfl (s_u (o_bin rfl rfl (bS_add (r1 ++ r3) r7 h9))) (qc rfl rfl (s_u (o_as rfl)) qn)))))))))))))) en ?_
  intro _
  refine ex_sub (E' := [(1, pt b0 0), (3, vS ((r1 ++ r3) ++ r7))]) ⟨rfl, rfl, trivial⟩ ?_
  refine x_seq ?_
  refine c_seq ?_
  refine c_seq ?_
  refine c_reg ?_
  refine r_u (o_as rfl) ?_
  refine r_nil ?_
  refine x_seq ?_
  obtain ⟨p11, hp12, hm13⟩ := bs hm10
  refine cd_join (E' := [(1, pt b0 0), (3, vS p11)]) (L' := Bk b0 36 [vI a0.Wide, vW a0.Seed, g0_.Rows.1, g0_.Door, vI a0.Added] :: F) ?_ fun K14 => ?_
  · refine x_seq ?_
    refine c_seq ?_
    refine c_seq ?_
    refine c_reg ?_
    refine r_u (o_as rfl) ?_
    refine r_nil ?_
    refine x_seq ?_
    obtain ⟨p15, hp16, hm17⟩ := bs hm13
    refine cd_join (E' := [(3, vS p15)]) (L' := Bk b0 36 [vI a0.Wide, vW a0.Seed, g0_.Rows.1, g0_.Door, vI a0.Added] :: F) ?_ fun K18 => ?_
    · refine x_seq ?_
      refine c_seq ?_
      refine c_reg ?_
      refine r_u (o_mv rfl) ?_
      refine r_u (o_as rfl) ?_
      refine r_nil ?_
      refine x_seq ?_
      refine c_ret ?_
      obtain rfl := Option.some.inj hm17
      refine ex_st (fun _ h => st_pk 1 [] (by decide) h) ?_
      exact x_r1 rfl (rv_t rfl) (Le.refl _) ⟨_, rfl, rfl, rfl, rfl⟩
    · refine c_blk ?_
      refine cd_loop (M := fun k21 (s : Str × Int) => hawthornref05_Sketch_Put_l0 a0 k21 s.1 s.2 = some p15) (Ef := fun (s : Str × Int) => [(1, pt b0 0), (3, vS s.1), (6, vI s.2)]) (Lf := fun (s : Str × Int) => Bk b0 36 [vI a0.Wide, vW a0.Seed, g0_.Rows.1, g0_.Door, vI a0.Added] :: F) ((a0.Wide - 0).toNat + 1) (p11, 0) hp16 ⟨rfl, rfl, rfl, trivial⟩ (fun _ h => h) (fun _ h => by cases h) fun k21 s hM23 => ?_
      obtain ⟨out_19, k_20⟩ := s
      have hm22 : hawthornref05_Sketch_Put_l0 a0 (k21 + 1) out_19 k_20 = some p15 := hM23
      rw [hawthornref05_Sketch_Put_l0] at hm22
      refine c_seq ?_
      refine c_seq ?_
      refine c_reg ?_
      refine r_u (o_mv rfl) ?_
      refine r_u (o_fa fa36_0 rfl) ?_
      refine r_u (o_ld 0 sc3 rfl rfl rfl) ?_
      refine r_u (o_bin rfl rfl (bI_lt k_20 a0.Wide)) ?_
      refine r_nil ?_
      refine x_seq ?_
      refine c_if (b := decide (k_20 < a0.Wide)) rfl (fun h24 => ?_) fun h24 => ?_
      · have hm25 := ift hm22 h24
        clear hm22
        refine c_skip ?_
        refine x_seq ?_
        refine c_seq ?_
        refine c_blk ?_
        refine c_reg ?_
        refine r_u (o_mv rfl) ?_
        refine r_u (o_fa fa36_3 rfl) ?_
        refine r_u (o_ld 0 sc34 rfl rfl rfl) ?_
        refine r_u (o_mv rfl) ?_
        obtain ⟨x26, hx26, hm27⟩ := bs hm25
        clear hm25
        obtain ⟨b26, o26, l26, T26, fr26, c26, hv26, hR26, he26, hi26⟩ := RoS.ne h0.2 hx26
        refine r_u (o_ix (sz := 1) Try.underlying34 (fun _ => by kernel_rfl) rfl rfl hv26 hi26) ?_
        refine r_u (o_ldR sc4 rfl hR26 (rok 0 he26 (by decide))) ?_
        refine r_u (o_callq ca50 rfl (hawthornref03_Flag.ok x26 _ rfl)) ?_
        obtain ⟨h28, hm29⟩ := ig hm27
        clear hm27
        refine r_u (o_bin rfl rfl (bS_add out_19 (hawthornref03_Flag x26) h28)) ?_
        refine r_u (o_as rfl) ?_
        refine r_nil ?_
        refine x_blk ?_
        refine x_seq ?_
        refine c_reg ?_
        refine r_u (o_mv rfl) ?_
        refine r_u (o_bin rfl rfl (bI_add k_20 1)) ?_
        refine r_u (o_as rfl) ?_
        refine r_nil ?_
        exact x_lp (out_19 ++ (hawthornref03_Flag x26), i64 (k_20 + 1)) hm29 ⟨rfl, rfl, rfl, trivial⟩ (fun _ h => st_pk 1 [0] (by decide) h)
      · have hm25 := iff_ hm22 h24
        clear hm22
        refine c_exit (x_exit (ks' := _) rfl ?_)
        obtain rfl := Option.some.inj hm25
        exact x_sub K18 ⟨rfl, trivial⟩ (fun _ h => st_pk 1 [0] (by decide) h)
  · refine c_blk ?_
    refine cd_loop (M := fun k32 (s : Str × Int) => hawthornref05_Sketch_Put_l1 a0 k32 s.1 s.2 = some p11) (Ef := fun (s : Str × Int) => [(1, pt b0 0), (3, vS s.1), (4, vI s.2)]) (Lf := fun (s : Str × Int) => Bk b0 36 [vI a0.Wide, vW a0.Seed, g0_.Rows.1, g0_.Door, vI a0.Added] :: F) 5 ((r1 ++ r3) ++ r7, 0) hp12 ⟨rfl, rfl, rfl, trivial⟩ (fun _ h => h) (fun _ h => by cases h) fun k32 s hM34 => ?_
    obtain ⟨out_30, i_31⟩ := s
    have hm33 : hawthornref05_Sketch_Put_l1 a0 (k32 + 1) out_30 i_31 = some p11 := hM34
    rw [hawthornref05_Sketch_Put_l1] at hm33
    refine c_seq ?_
    refine c_seq ?_
    refine c_reg ?_
    refine r_u (o_mv rfl) ?_
    refine r_u (o_bin rfl rfl (bI_lt i_31 4)) ?_
    refine r_nil ?_
    refine x_seq ?_
    refine c_if (b := decide (i_31 < 4)) rfl (fun h35 => ?_) fun h35 => ?_
    · have hm36 := ift hm33 h35
      clear hm33
      refine c_skip ?_
      refine x_seq ?_
      refine c_seq ?_
      obtain ⟨p37, hp38, hm39⟩ := bs hm36
      refine cd_join (E' := [(1, pt b0 0), (4, vI i_31), (3, vS p37)]) (L' := Bk b0 36 [vI a0.Wide, vW a0.Seed, g0_.Rows.1, g0_.Door, vI a0.Added] :: F) ?_ fun K40 => ?_
      · refine x_seq ?_
        refine c_reg ?_
        refine r_u (o_mv rfl) ?_
        refine r_u (o_bin rfl rfl (bI_add i_31 1)) ?_
        refine r_u (o_as rfl) ?_
        refine r_nil ?_
        exact x_lp (p37, i64 (i_31 + 1)) hm39 ⟨rfl, rfl, rfl, trivial⟩ (fun _ h => st_pk 1 [0] (by decide) h)
      · refine c_blk ?_
        refine c_seq ?_
        refine c_reg ?_
        refine r_u (o_as rfl) ?_
        refine r_nil ?_
        refine x_seq ?_
        obtain ⟨p41, hp42, hm43⟩ := bs hp38
        refine cd_join (E' := [(1, pt b0 0), (4, vI i_31), (3, vS p41)]) (L' := Bk b0 36 [vI a0.Wide, vW a0.Seed, g0_.Rows.1, g0_.Door, vI a0.Added] :: F) ?_ fun K44 => ?_
        · refine x_blk ?_
          obtain rfl := Option.some.inj hm43
          exact x_sub K40 ⟨rfl, rfl, rfl, trivial⟩ (fun _ h => st_pk 1 [0] (by decide) h)
        · refine c_blk ?_
          refine cd_loop (M := fun k47 (s : Str × Int) => hawthornref05_Sketch_Put_l2 a0 i_31 k47 s.1 s.2 = some p41) (Ef := fun (s : Str × Int) => [(1, pt b0 0), (4, vI i_31), (3, vS s.1), (5, vI s.2)]) (Lf := fun (s : Str × Int) => Bk b0 36 [vI a0.Wide, vW a0.Seed, g0_.Rows.1, g0_.Door, vI a0.Added] :: F) ((a0.Wide - 0).toNat + 1) (out_30, 0) hp42 ⟨rfl, rfl, rfl, rfl, trivial⟩ (fun _ h => h) (fun _ h => by cases h) fun k47 s hM49 => ?_
          obtain ⟨out_45, k_46⟩ := s
          have hm48 : hawthornref05_Sketch_Put_l2 a0 i_31 (k47 + 1) out_45 k_46 = some p41 := hM49
          rw [hawthornref05_Sketch_Put_l2] at hm48
          refine c_seq ?_
          refine c_seq ?_
          refine c_reg ?_
          refine r_u (o_mv rfl) ?_
          refine r_u (o_fa fa36_0 rfl) ?_
          refine r_u (o_ld 0 sc3 rfl rfl rfl) ?_
          refine r_u (o_bin rfl rfl (bI_lt k_46 a0.Wide)) ?_
          refine r_nil ?_
          refine x_seq ?_
          refine c_if (b := decide (k_46 < a0.Wide)) rfl (fun h50 => ?_) fun h50 => ?_
          · have hm51 := ift hm48 h50
            clear hm48
            refine c_skip ?_
            refine x_seq ?_
            refine c_seq ?_
            refine c_blk ?_
            refine c_reg ?_
            refine r_u (o_mv rfl) ?_
            refine r_u (o_fa fa36_2 rfl) ?_
            refine r_u (o_ld 0 sc33 rfl rfl rfl) ?_
            refine r_u (o_mv rfl) ?_
            obtain ⟨x52, hx52, hm54⟩ := bs hm51
            clear hm51
            obtain ⟨b52, o52, l52, T52, fr52, c52, u53, hv52, hR52, he52, hi52, hN52⟩ := RoN.ne h0.1 hx52
            refine r_u (o_ix (sz := 1) Try.underlying33 (fun _ => by kernel_rfl) rfl rfl hv52 hi52) ?_
            refine r_u (o_ldR sc74 rfl hR52 (rok 0 he52 (by decide))) ?_
            refine r_u (o_mv rfl) ?_
            obtain ⟨x55, hx55, hm56⟩ := bs hm54
            clear hm54
            obtain ⟨b55, o55, l55, T55, fr55, c55, hv55, hR55, he55, hi55⟩ := RoS.ne hN52 hx55
            refine r_u (o_ix (sz := 1) Try.underlying74 (fun _ => by kernel_rfl) rfl rfl hv55 hi55) ?_
            refine r_u (o_ldR sc3 rfl hR55 (rok 0 he55 (by decide))) ?_
            refine r_u (o_cv rfl (cIY Try.underlying3 Try.underlying5 x55)) ?_
            refine r_sw (s_w (o_bsl (en := eY) (sz := 1) (e := 5) (cs := [vY (toY x55)]) (r := [toY x55]) rfl (fun _ => by kernel_rfl) rfl (by decide) rfl (fun _ => rfl))) ?_
            rintro v57 R _ _ ⟨rfl, rfl⟩
            refine r_u (o_bs 0 Try.underlying67 Try.underlying5 Try.underlying9 rfl rfl) ?_
            obtain ⟨h58, hm59⟩ := ig hm56
            clear hm56
            refine r_u (o_bin rfl rfl (bS_add out_45 [toY x55] h58)) ?_
            refine r_u (o_as rfl) ?_
            refine r_nil ?_
            refine x_blk ?_
            refine x_seq ?_
            refine c_reg ?_
            refine r_u (o_mv rfl) ?_
            refine r_u (o_bin rfl rfl (bI_add k_46 1)) ?_
            refine r_u (o_as rfl) ?_
            refine r_nil ?_
            exact x_lp (out_45 ++ [toY x55], i64 (k_46 + 1)) hm59 ⟨rfl, rfl, rfl, rfl, trivial⟩ (fun _ h => st_pk 2 [1] (by decide) h)
          · have hm51 := iff_ hm48 h50
            clear hm48
            refine c_exit (x_exit (ks' := _) rfl ?_)
            obtain rfl := Option.some.inj hm51
            exact x_sub K44 ⟨rfl, rfl, rfl, trivial⟩ (fun _ h => st_pk 1 [0] (by decide) h)
    · have hm36 := iff_ hm33 h35
      clear hm33
      refine c_exit (x_exit (ks' := _) rfl ?_)
      obtain rfl := Option.some.inj hm36
      exact x_sub K14 ⟨rfl, rfl, trivial⟩ (fun _ h => st_pk 1 [0] (by decide) h)

def hawthornlaw05_SketchAdds_l0 (a2 : List Str) : Nat → (Option sketch_Sketch) → Int → hawthornref05_Sketch → Option ((Option sketch_Sketch × hawthornref05_Sketch) ⊕ Bool)
  | 0, _, _, _ => none
  | k49 + 1, s_37, i_38, c_39 => if (decide (i_38 < (a2.length : Int)) && decide (i_38 < 200)) then (gi a2 i_38).bind fun x62 => (hawthornlaw05_few x62).bind fun r64 => om s_37 (none) fun x66 => (sketch_Sketch_Seen x66 r64).bind fun r72 => (hawthornref05_Sketch_Seen c_39 r64).bind fun r74 => if (r72 != r74) then some (Sum.inr false) else (sketch_Sketch_Add x66 r64).bind fun r78 => (hawthornref05_Sketch_Add c_39 r64).bind fun r80 => (sketch_Sketch_Seen r78 r64).bind fun r95 => (hawthornref05_Sketch_Seen r80 r64).bind fun r97 => Option.bind (if (r95 != r97) then some true else some ((sketch_Sketch_Added r78) != r80.Added)) fun p99 => if p99 then some (Sum.inr false) else hawthornlaw05_SketchAdds_l0 a2 k49 (some r78) (i64 (i_38 + 1)) r80 else some (Sum.inl (s_37, c_39))
def hawthornlaw05_SketchAdds (a0 : Int) (a1 : UInt64) (a2 : List Str) : Option Bool :=
  (hawthornlaw05_both a0 a1).bind fun r0 => (hawthornlaw05_awake).bind fun r9 => if (!r9 || !r0.2.2) then some false else Option.bind (hawthornlaw05_SketchAdds_l0 a2 (((a2.length : Int) - 0).toNat + 1) r0.1 0 r0.2.1) fun (p13 : (Option sketch_Sketch × hawthornref05_Sketch) ⊕ Bool) => (match p13 with | Sum.inl q14 => om q14.1 (none) fun x27 => (sketch_Sketch_Export x27).bind fun r33 => (hawthornref05_Sketch_Put q14.2).bind fun r35 => some (r33 == r35) | Sum.inr r => some r)
theorem hawthornlaw05_SketchAdds.ok {G R F} (a0 : Int) (a1 : UInt64) (v2_ : Value) (a2 : List Str) (h2_ : RoS R v2_ 1 (fun x => [vS x]) a2) (r : Bool) (hm : hawthornlaw05_SketchAdds a0 a1 a2 = some r) : CO Try.prog 4 [vI a0, vW a1, v2_] G R (F)
    (Ret fun u R' L' => u = vB r ∧ True ∧ L' = F) := by
  unfold hawthornlaw05_SketchAdds at hm
  refine co_ofN (N := 72) Try.func4 rfl rfl ?_
  refine c_seq ?_
  refine c_reg ?_
  refine r_u (o_as rfl) ?_
  refine r_nil ?_
  refine x_seq ?_
  refine c_seq ?_
  refine c_reg ?_
  refine r_u (o_mv rfl) ?_
  refine r_u (o_mv rfl) ?_
  obtain ⟨r0, hr0, hm7⟩ := bs hm
  clear hm
  refine r_sw (s_w (o_call ca17 rfl (hawthornlaw05_both.ok a0 a1 r0 hr0))) ?_
  rintro _ R _ _ ⟨⟨pv2, g3⟩, v4, rfl, rfl, rfl⟩
  refine r_u (o_mv rfl) ?_
  refine r_u (o_ext rfl rfl) ?_
  refine r_u (o_ext rfl rfl) ?_
  refine r_u (o_ext rfl rfl) ?_
  refine r_new (o_al ze36) fun b8 => ?_
  refine r_u (o_as rfl) ?_
  refine rl_st (fun _ h => st_pk 5 [0, 2, 4, 1, 3] (by decide) h) ?_
  refine r_u0 (ou_if (one_o 1 rfl) fun ho0 => ou_if (one_o 2 rfl) fun ho1 => o_stn ag36 rfl rfl rfl (al_c rfl (al_c rfl (al_c ho0 (al_c ho1 (al_c rfl al_n))))) rfl rfl rfl) ?_
  refine r_u (o_as rfl) ?_
  refine r_nil ?_
  refine x_seq ?_
  refine c_seq ?_
  refine c_seq ?_
  refine c_reg ?_
  obtain ⟨r9, hr9, hm10⟩ := bs hm7
  clear hm7
  refine r_u (o_callq ca13 rfl (hawthornlaw05_awake.ok r9 hr9)) ?_
  refine r_u (o_not rfl) ?_
  refine r_u (o_mv rfl) ?_
  refine r_s (s_gf rfl rfl fun g => o_mv rfl) ?_
  refine r_s (s_gf rfl rfl fun g => o_not (evg rfl g)) ?_
  refine r_u (o_or rfl rfl) ?_
  refine r_nil ?_
  refine x_seq ?_
  refine c_if (b := (!r9 || !r0.2.2)) rfl (fun h11 => ?_) fun h11 => ?_
  · have hm12 := ift hm10 h11
    clear hm10
    refine c_seq ?_
    refine c_reg ?_
    refine r_u (o_as rfl) ?_
    refine r_nil ?_
    refine x_seq ?_
    refine c_ret ?_
    obtain rfl := Option.some.inj hm12
    refine ex_st (fun _ h => st_pk 5 [] (by decide) h) ?_
    exact x_r1 rfl (rv_t rfl) (Le.refl _) ⟨_, rfl, rfl, trivial, rfl⟩
  · have hm12 := iff_ hm10 h11
    clear hm10
    refine c_skip ?_
    refine x_seq ?_
    refine c_seq ?_
    refine c_seq ?_
    refine c_reg ?_
    refine r_u (o_as rfl) ?_
    refine r_nil ?_
    refine x_seq ?_
    obtain ⟨p13, hp24, hm25⟩ := bs hm12
    refine cd_cut (fun x ks => ∀ (q14 : Option sketch_Sketch × hawthornref05_Sketch), ∀ (_ : p13 = Sum.inl q14), ∀ (R15 : PH), ∀ (le16 : Le R R15), ∀ (pv17 : Value × sketch_Sketch.G), ∀ (g21 : hawthornref05_Sketch.G), ∀ (hf20 : hawthornref05_Sketch.ro R15 q14.2 g21), EX x .normal ks [(8, pt b8 0), (7, pv17.1)] R15 (Bk b8 36 [vI q14.2.Wide, vW q14.2.Seed, g21.Rows.1, g21.Door, vI q14.2.Added] :: rO (sketch_Sketch.op pv17.2) pv17.1 q14.1 :: F)) ?_ fun K26 => ?_
    · intro q14 hq R15 le16 pv17 g21 hf20
      subst hq
      try dsimp only at hm25
      obtain ⟨pv18, g19⟩ := pv17
      refine x_seq ?_
      refine c_seq ?_
      refine cd_st (fun _ h => st_pk 2 [1, 0] (by decide) h) ?_
      refine cd_opt (fun ho29 => ?_) (fun x27 b28 ho29 => ?_)
      · rintro rfl
        have hm30 := om_n hm25 ho29
        clear hm25
        cases hm30
      · rintro rfl
        have hm30 := om_s hm25 ho29
        clear hm25
        refine cd_st (fun _ h => st_star_o h) ?_
        obtain ⟨r33, hr33, hm34⟩ := bs hm30
        clear hm30
        obtain ⟨r35, hr35, hm36⟩ := bs hm34
        clear hm34
        refine c_any mixed (effs := [1]) (V := []) ?_
        refine stage_ext [(0, pt b28 0), (2, .agg [vI q14.2.Wide, vW q14.2.Seed, g21.Rows.1, g21.Door, vI q14.2.Added].toArray)] rfl ?_
        refine stage rfl rfl rfl rfl [0, 1, 0, 7, 15, 31] [0, 2] [1] rfl rfl rfl (qc rfl rfl (s_u (o_mv rfl)) (qc rfl rfl (s_u (o_ldn 3 [vI q14.2.Wide, vW q14.2.Seed, g21.Rows.1, g21.Door, vI q14.2.Added] ag36 rfl rfl rfl rfl)) qn)) ?_ (fun h => absurd h (by decide))
        refine ec (eo_c rfl (s_w (o_call ca21 rfl (sketch_Sketch_Export.ok b28 x27 g19 r33 hr33))) ?_) en
        refine stage_ext [(3, vS r35), (4, vB (r33 == r35)), (5, vB (r33 == r35))] rfl ?_
        refine stage rfl rfl rfl rfl [0, 1, 0, 7, 15, 31] [2, 3, 4, 5] [] rfl rfl rfl (qc rfl rfl (s_u (o_ldn 3 [vI q14.2.Wide, vW q14.2.Seed, g21.Rows.1, g21.Door, vI q14.2.Added] ag36 rfl rfl rfl rfl)) (qc rfl rfl (s_u (o_callq ca22 rfl (hawthornref05_Sketch_Put.ok q14.2 (⟨(g21.Rows.1, []), g21.Door⟩ : hawthornref05_Sketch.G) ⟨hf20.1, hf20.2⟩ r35 hr35))) (qc rfl rfl (s_u (o_bin rfl rfl (bS_eq r33 r35))) (qc rfl rfl (s_u (o_as rfl)) qn)))) en ?_
        intro _
        refine ex_sub (E' := [(6, vB (r33 == r35))]) ⟨rfl, trivial⟩ ?_
        refine x_seq ?_
        refine c_ret ?_
        obtain rfl := Option.some.inj hm36
        refine ex_st (fun _ h => st_pk 4 [] (by decide) h) ?_
        exact x_r1 rfl (rv_t rfl) le16 ⟨_, rfl, rfl, trivial, rfl⟩
    · refine c_blk ?_
      refine cd_st (fun _ h => st_pk 5 [1, 4, 0, 2, 3] (by decide) h) ?_
      refine cd_ex (fun w h => st_freezeN w h) fun R50 hf53 => ?_
      obtain ⟨le51, h52⟩ := hf53
      refine cd_st (fun _ h => st_pk 3 [1, 0, 2] (by decide) h) ?_
      refine cd_ex (fun w h => st_freeze w h) fun R54 hf57 => ?_
      obtain ⟨le55, h56⟩ := hf57
      refine cd_loopG (M := fun k49 (s : Option sketch_Sketch × Int × hawthornref05_Sketch × (Value × sketch_Sketch.G) × hawthornref05_Sketch.G × PH) => (hawthornlaw05_SketchAdds_l0 a2 k49 s.1 s.2.1 s.2.2.1 = some p13) ∧ (Le R s.2.2.2.2.2) ∧ (hawthornref05_Sketch.ro s.2.2.2.2.2 s.2.2.1 s.2.2.2.2.1)) (Ef := fun (s : Option sketch_Sketch × Int × hawthornref05_Sketch × (Value × sketch_Sketch.G) × hawthornref05_Sketch.G × PH) => [(2, v2_), (8, pt b8 0), (7, s.2.2.2.1.1), (10, vI s.2.1)]) (Rf := fun (s : Option sketch_Sketch × Int × hawthornref05_Sketch × (Value × sketch_Sketch.G) × hawthornref05_Sketch.G × PH) => s.2.2.2.2.2) (Lf := fun (s : Option sketch_Sketch × Int × hawthornref05_Sketch × (Value × sketch_Sketch.G) × hawthornref05_Sketch.G × PH) => Bk b8 36 [vI s.2.2.1.Wide, vW s.2.2.1.Seed, s.2.2.2.2.1.Rows.1, s.2.2.2.2.1.Door, vI s.2.2.1.Added] :: rO (sketch_Sketch.op s.2.2.2.1.2) s.2.2.2.1.1 s.1 :: F) (((a2.length : Int) - 0).toNat + 1) (r0.1, 0, r0.2.1, (pv2, g3), (⟨(v4.Rows.1, []), v4.Door⟩ : hawthornref05_Sketch.G), R54) ⟨hp24, (Le.trans le51 le55), ⟨(RoN.mono le55 h52), h56⟩⟩ ⟨rfl, rfl, rfl, rfl, trivial⟩ (fun _ h => st_pk 2 [0, 1] (by decide) h) (fun _ h => by cases h.1) fun k49 s hM59 => ?_
      obtain ⟨s_37, i_38, c_39, pv42, g46, R40⟩ := s
      have hm58 : hawthornlaw05_SketchAdds_l0 a2 (k49 + 1) s_37 i_38 c_39 = some p13 := hM59.1
      have le41 : Le R R40 := hM59.2.1
      have hf45 : hawthornref05_Sketch.ro R40 c_39 g46 := hM59.2.2
      rw [hawthornlaw05_SketchAdds_l0] at hm58
      obtain ⟨pv43, g44⟩ := pv42
      refine c_seq ?_
      refine c_seq ?_
      refine c_reg ?_
      refine r_u (o_mv rfl) ?_
      refine r_u (o_mv rfl) ?_
      refine r_u (o_lenR Try.underlying23 rfl (RoS.mono le41 h2_)) ?_
      refine r_u (o_bin rfl rfl (bI_lt i_38 (a2.length : Int))) ?_
      refine r_u (o_mv rfl) ?_
      refine r_s (s_gt rfl rfl fun g => o_mv rfl) ?_
      refine r_s (s_gt rfl rfl fun g => o_bin (evg rfl g) rfl (bI_lt i_38 200)) ?_
      refine r_u (o_and rfl rfl) ?_
      refine r_nil ?_
      refine x_seq ?_
      refine c_if (b := (decide (i_38 < (a2.length : Int)) && decide (i_38 < 200))) rfl (fun h60 => ?_) fun h60 => ?_
      · have hm61 := ift hm58 h60
        clear hm58
        refine c_skip ?_
        refine x_seq ?_
        refine c_seq ?_
        refine c_blk ?_
        refine c_seq ?_
        refine c_reg ?_
        refine r_u (o_mv rfl) ?_
        refine r_u (o_mv rfl) ?_
        obtain ⟨x62, hx62, hm63⟩ := bs hm61
        clear hm61
        obtain ⟨b62, o62, l62, T62, fr62, c62, hv62, hR62, he62, hi62⟩ := RoS.ne (RoS.mono le41 h2_) hx62
        refine r_u (o_ix (sz := 1) Try.underlying23 (fun _ => by kernel_rfl) rfl rfl hv62 hi62) ?_
        refine r_u (o_ldR sc9 rfl hR62 (rok 0 he62 (by decide))) ?_
        obtain ⟨r64, hr64, hm65⟩ := bs hm63
        clear hm63
        refine r_u (o_callq ca15 rfl (hawthornlaw05_few.ok x62 r64 hr64)) ?_
        refine r_u (o_as rfl) ?_
        refine r_nil ?_
        refine x_seq ?_
        refine c_seq ?_
        refine c_seq ?_
        refine cd_st (fun _ h => st_pk 2 [1, 0] (by decide) h) ?_
        refine cd_opt (fun ho68 => ?_) (fun x66 b67 ho68 => ?_)
        · rintro rfl
          have hm69 := om_n hm65 ho68
          clear hm65
          cases hm69
        · rintro rfl
          have hm69 := om_s hm65 ho68
          clear hm65
          refine cd_st (fun _ h => st_star_o h) ?_
          obtain ⟨r72, hr72, hm73⟩ := bs hm69
          clear hm69
          obtain ⟨r74, hr74, hm75⟩ := bs hm73
          clear hm73
          refine c_any mixed (effs := [2]) (V := []) ?_
          refine stage_ext [(0, pt b67 0), (1, vS r64), (3, .agg [vI c_39.Wide, vW c_39.Seed, g46.Rows.1, g46.Door, vI c_39.Added].toArray), (4, vS r64)] rfl ?_
          refine stage rfl rfl rfl rfl [0, 0, 3, 0, 0, 31, 63] [0, 1, 3, 4] [2] rfl rfl rfl (qc rfl rfl (s_u (o_mv rfl)) (qc rfl rfl (s_u (o_mv rfl)) (qc rfl rfl (s_u (o_ldn 3 [vI c_39.Wide, vW c_39.Seed, g46.Rows.1, g46.Door, vI c_39.Added] ag36 rfl rfl rfl rfl)) (qc rfl rfl (s_u (o_mv rfl)) qn)))) ?_ (fun h => absurd h (by decide))
          refine ec (eo_c rfl (s_w (o_call ca16 rfl (sketch_Sketch_Seen.ok b67 x66 g44 r64 r72 hr72))) ?_) en
          refine stage_ext [(5, vI r74), (6, vB (r72 != r74))] rfl ?_
          refine stage rfl rfl rfl rfl [0, 0, 3, 0, 0, 31, 63] [3, 4, 5, 6] [] rfl rfl rfl (qc rfl rfl (s_u (o_ldn 3 [vI c_39.Wide, vW c_39.Seed, g46.Rows.1, g46.Door, vI c_39.Added] ag36 rfl rfl rfl rfl)) (qc rfl rfl (s_u (o_mv rfl)) (qc rfl rfl (s_u (o_callq ca18 rfl (hawthornref05_Sketch_Seen.ok c_39 (⟨(g46.Rows.1, []), g46.Door⟩ : hawthornref05_Sketch.G) ⟨hf45.1, hf45.2⟩ r64 r74 hr74))) (qc rfl rfl (s_u (o_bin rfl rfl (bI_ne r72 r74))) qn)))) en ?_
          intro _
          refine ex_sub (E' := [(2, v2_), (8, pt b8 0), (7, pt b67 0), (10, vI i_38), (11, vS r64), (46, vB (r72 != r74))]) ⟨rfl, rfl, rfl, rfl, rfl, rfl, trivial⟩ ?_
          refine x_seq ?_
          refine c_if (b := (r72 != r74)) rfl (fun h76 => ?_) fun h76 => ?_
          · have hm77 := ift hm75 h76
            clear hm75
            refine c_seq ?_
            refine c_reg ?_
            refine r_u (o_as rfl) ?_
            refine r_nil ?_
            refine x_seq ?_
            refine c_ret ?_
            obtain rfl := Option.some.inj hm77
            try dsimp only at hm25
            obtain rfl := Option.some.inj hm25
            refine ex_st (fun _ h => st_pk 4 [] (by decide) h) ?_
            exact x_r1 rfl (rv_t rfl) le41 ⟨_, rfl, rfl, trivial, rfl⟩
          · have hm77 := iff_ hm75 h76
            clear hm75
            refine c_skip ?_
            refine x_seq ?_
            refine c_seq ?_
            refine c_reg ?_
            refine r_u (o_mv rfl) ?_
            refine r_u (o_mv rfl) ?_
            obtain ⟨r78, hr78, hm79⟩ := bs hm77
            clear hm77
            refine r_c (s_w (o_call ca14 rfl (sketch_Sketch_Add.ok b67 x66 g44 r64 r78 hr78))) ?_
            refine r_nil ?_
            refine x_seq ?_
            refine c_seq ?_
            refine c_reg ?_
            refine r_u (o_ldn 3 [vI c_39.Wide, vW c_39.Seed, g46.Rows.1, g46.Door, vI c_39.Added] ag36 rfl rfl rfl rfl) ?_
            refine r_u (o_mv rfl) ?_
            obtain ⟨r80, hr80, hm86⟩ := bs hm79
            clear hm79
            refine r_sw (s_w (o_call ca19 rfl (hawthornref05_Sketch_Add.ok c_39 (⟨(g46.Rows.1, []), g46.Door⟩ : hawthornref05_Sketch.G) ⟨hf45.1, hf45.2⟩ r64 r80 hr80))) ?_
            rintro _ R84 _ le85 ⟨v81, rfl, _, rfl⟩
            refine rl_st (fun _ h => st_pk 7 [6, 0, 2, 1, 3, 4, 5] (by decide) h) ?_
            refine r_u0 (ou_if (one_o 1 rfl) fun ho0 => ou_if (one_o 2 rfl) fun ho1 => o_stn ag36 rfl rfl rfl (al_c rfl (al_c rfl (al_c ho0 (al_c ho1 (al_c rfl al_n))))) rfl rfl rfl) ?_
            refine r_nil ?_
            refine x_seq ?_
            refine c_seq ?_
            refine cd_st (fun _ h => st_pk 7 [1, 3, 0, 2, 4, 5, 6] (by decide) h) ?_
            refine cd_ex (fun w h => st_freezeN w h) fun R87 hf90 => ?_
            obtain ⟨le88, h89⟩ := hf90
            refine cd_st (fun _ h => st_pk 5 [1, 0, 2, 3, 4] (by decide) h) ?_
            refine cd_ex (fun w h => st_freeze w h) fun R91 hf94 => ?_
            obtain ⟨le92, h93⟩ := hf94
            obtain ⟨r95, hr95, hm96⟩ := bs hm86
            clear hm86
            obtain ⟨r97, hr97, hm98⟩ := bs hm96
            clear hm96
            obtain ⟨p99, hp100, hm101⟩ := bs hm98
            refine cd_join (E' := [(2, v2_), (7, pt b67 0), (8, pt b8 0), (10, vI i_38), (66, vB p99)]) (L' := Bk b67 70 [vI r78.wide, vW r78.seed, g44.rows.1, g44.rows.2.1, g44.rows.2.2.1, g44.rows.2.2.2, g44.door, vI r78.added] :: Bk b8 36 [vI r80.Wide, vW r80.Seed, v81.Rows.1, v81.Door, vI r80.Added] :: OwL (OwS false 5 1 eY) [g44.rows.1, g44.rows.2.1, g44.rows.2.2.1, g44.rows.2.2.2] r78.rows :: OwS true 4 1 eB g44.door r78.door :: F) ?_ fun K102 => ?_
            · refine x_seq ?_
              refine c_if (b := p99) rfl (fun h103 => ?_) fun h103 => ?_
              · have hm104 := ift hm101 h103
                clear hm101
                refine c_seq ?_
                refine c_reg ?_
                refine r_u (o_as rfl) ?_
                refine r_nil ?_
                refine x_seq ?_
                refine c_ret ?_
                obtain rfl := Option.some.inj hm104
                try dsimp only at hm25
                obtain rfl := Option.some.inj hm25
                refine ex_st (fun _ h => st_pk 4 [] (by decide) h) ?_
                exact x_r1 rfl (rv_t rfl) (Le.trans (Le.trans (Le.trans le41 le85) le88) le92) ⟨_, rfl, rfl, trivial, rfl⟩
              · have hm104 := iff_ hm101 h103
                clear hm101
                refine c_skip ?_
                refine x_blk ?_
                refine x_seq ?_
                refine c_reg ?_
                refine r_u (o_mv rfl) ?_
                refine r_u (o_bin rfl rfl (bI_add i_38 1)) ?_
                refine r_u (o_as rfl) ?_
                refine r_nil ?_
                refine ex_st (fun _ h => st_pk 4 [0, 2, 3, 1] (by decide) h) ?_
                refine ex_st (fun _ h => st_some (f := sketch_Sketch.op g44) (a := r78) (st_star_f (A := sketch_Sketch.fl b67 r78 g44) h)) ?_
                exact x_lp ((some r78), i64 (i_38 + 1), r80, (pt b67 0, g44), (⟨(v81.Rows.1, []), v81.Door⟩ : hawthornref05_Sketch.G), R91) ⟨hm104, (Le.trans (Le.trans (Le.trans le41 le85) le88) le92), ⟨(RoN.mono le92 h89), h93⟩⟩ ⟨rfl, rfl, rfl, rfl, trivial⟩ (fun _ h => st_pk 2 [1, 0] (by decide) h)
            · refine cd_by (r95 != r97) (fun h105 => ?_) fun h105 => ?_
              · have hm106 := ift hp100 h105
                clear hp100
                refine c_any mixed (effs := [2]) (V := []) ?_
                refine stage_st (fun _ h => st_pk 4 [1, 2, 3, 0] (by decide) h) ?_
                refine stage_ext [(0, pt b67 0), (1, vS r64), (3, .agg [vI r80.Wide, vW r80.Seed, v81.Rows.1, v81.Door, vI r80.Added].toArray), (4, vS r64)] rfl ?_
                refine stage rfl rfl rfl rfl [0, 0, 3, 0, 0, 31, 63, 127, 255, 511, 255, 1279, 4095, 8191] [0, 1, 3, 4] [2] rfl rfl rfl (qc rfl rfl (s_u (o_mv rfl)) (qc rfl rfl (s_u (o_mv rfl)) (qc rfl rfl (s_u (o_ldn 3 [vI r80.Wide, vW r80.Seed, v81.Rows.1, v81.Door, vI r80.Added] ag36 rfl rfl rfl rfl)) (qc rfl rfl (s_u (o_mv rfl)) qn)))) ?_ (fun h => absurd h (by decide))
                refine ec (eo_c rfl (s_w (o_call ca16 rfl (sketch_Sketch_Seen.ok b67 r78 g44 r64 r95 hr95))) ?_) en
                refine stage_ext [(5, vI r97), (6, vB (r95 != r97)), (7, vB (r95 != r97)), (8, undef), (9, undef), (10, undef), (11, undef), (12, undef), (13, vB true)] rfl ?_
                refine stage rfl rfl rfl rfl [0, 0, 3, 0, 0, 31, 63, 127, 255, 511, 255, 1279, 4095, 8191] [3, 4, 5, 6, 7, 8, 9, 10, 11, 12, 13] [] rfl rfl rfl (qc rfl rfl (s_u (o_ldn 3 [vI r80.Wide, vW r80.Seed, v81.Rows.1, v81.Door, vI r80.Added] ag36 rfl rfl rfl rfl)) (qc rfl rfl (s_u (o_mv rfl)) (qc rfl rfl (s_u (o_callq ca18 rfl (hawthornref05_Sketch_Seen.ok r80 (⟨(v81.Rows.1, []), v81.Door⟩ : hawthornref05_Sketch.G) ⟨(RoN.mono le92 h89), h93⟩ r64 r97 hr97))) (qc rfl rfl (s_u (o_bin rfl rfl (bI_ne r95 r97))) (qc rfl rfl (s_u (o_mv rfl)) (qc rfl rfl (s_n rfl rfl h105) (qc rfl rfl (s_n rfl rfl h105) (qc rfl rfl (s_n rfl rfl h105) (qc rfl rfl (s_n rfl rfl h105) (qc rfl rfl (s_n rfl rfl h105) (qc rfl rfl (s_u (o_pt rfl h105 rfl)) qn))))))))))) en ?_
                intro _
                refine ex_sub (E' := [(2, v2_), (8, pt b8 0), (7, pt b67 0), (10, vI i_38), (66, vB true)]) ⟨rfl, rfl, rfl, rfl, rfl, trivial⟩ ?_
                obtain rfl := Option.some.inj hm106
                exact x_sub K102 ⟨rfl, rfl, rfl, rfl, rfl, trivial⟩ (fun _ h => st_pk 4 [0, 3, 1, 2] (by decide) h)
              · have hm106 := iff_ hp100 h105
                clear hp100
                refine c_any mixed (effs := [2, 9]) (V := []) ?_
                refine stage_st (fun _ h => st_pk 4 [1, 2, 3, 0] (by decide) h) ?_
                refine stage_ext [(0, pt b67 0), (1, vS r64), (3, .agg [vI r80.Wide, vW r80.Seed, v81.Rows.1, v81.Door, vI r80.Added].toArray), (4, vS r64)] rfl ?_
                refine stage rfl rfl rfl rfl [0, 0, 3, 0, 0, 31, 63, 127, 255, 511, 255, 1279, 4095, 8191] [0, 1, 3, 4] [2] rfl rfl rfl (qc rfl rfl (s_u (o_mv rfl)) (qc rfl rfl (s_u (o_mv rfl)) (qc rfl rfl (s_u (o_ldn 3 [vI r80.Wide, vW r80.Seed, v81.Rows.1, v81.Door, vI r80.Added] ag36 rfl rfl rfl rfl)) (qc rfl rfl (s_u (o_mv rfl)) qn)))) ?_ (fun h => absurd h (by decide))
                refine ec (eo_c rfl (s_w (o_call ca16 rfl (sketch_Sketch_Seen.ok b67 r78 g44 r64 r95 hr95))) ?_) en
                refine stage_ext [(5, vI r97), (6, vB (r95 != r97)), (7, vB (r95 != r97)), (8, pt b67 0), (10, pt b8 4), (11, vI r80.Added)] rfl ?_
                refine stage rfl rfl rfl rfl [0, 0, 3, 0, 0, 31, 63, 127, 255, 511, 255, 1279, 4095, 8191] [3, 4, 5, 6, 7, 8, 10, 11] [9] rfl rfl rfl (qc rfl rfl (s_u (o_ldn 3 [vI r80.Wide, vW r80.Seed, v81.Rows.1, v81.Door, vI r80.Added] ag36 rfl rfl rfl rfl)) (qc rfl rfl (s_u (o_mv rfl)) (qc rfl rfl (s_u (o_callq ca18 rfl (hawthornref05_Sketch_Seen.ok r80 (⟨(v81.Rows.1, []), v81.Door⟩ : hawthornref05_Sketch.G) ⟨(RoN.mono le92 h89), h93⟩ r64 r97 hr97))) (qc rfl rfl (s_u (o_bin rfl rfl (bI_ne r95 r97))) (qc rfl rfl (s_u (o_mv rfl)) (qc rfl rfl (s_y rfl rfl h105 (o_mv rfl)) (qc rfl rfl (s_y rfl rfl h105 (o_fa fa36_4 rfl)) (qc rfl rfl (s_y rfl rfl h105 (o_ld 3 sc3 rfl rfl rfl)) qn)))))))) ?_ (fun h => absurd h (by decide))
                refine ec (eo_c rfl (s_yw rfl rfl h105 (o_call ca20 rfl (sketch_Sketch_Added.ok b67 r78 g44 _ rfl))) ?_) en
                refine stage_ext [(12, vB ((sketch_Sketch_Added r78) != r80.Added)), (13, vB ((sketch_Sketch_Added r78) != r80.Added))] rfl ?_
                refine stage rfl rfl rfl rfl [0, 0, 3, 0, 0, 31, 63, 127, 255, 511, 255, 1279, 4095, 8191] [10, 11, 12, 13] [] rfl rfl rfl (qc rfl rfl (s_y rfl rfl h105 (o_fa fa36_4 rfl)) (qc rfl rfl (s_y rfl rfl h105 (o_ld 3 sc3 rfl rfl rfl)) (qc rfl rfl (s_y rfl rfl h105 (o_bin rfl rfl (bI_ne (sketch_Sketch_Added r78) r80.Added))) (qc rfl rfl (s_u (o_pf rfl h105 rfl)) qn)))) en ?_
                intro _
                refine ex_sub (E' := [(2, v2_), (8, pt b8 0), (7, pt b67 0), (10, vI i_38), (66, vB ((sketch_Sketch_Added r78) != r80.Added))]) ⟨rfl, rfl, rfl, rfl, rfl, trivial⟩ ?_
                obtain rfl := Option.some.inj hm106
                exact x_sub K102 ⟨rfl, rfl, rfl, rfl, rfl, trivial⟩ (fun _ h => st_pk 4 [0, 3, 1, 2] (by decide) h)
      · have hm61 := iff_ hm58 h60
        clear hm58
        refine c_exit (x_exit (ks' := _) rfl ?_)
        obtain rfl := Option.some.inj hm61
        exact x_sub (K26 _ rfl _ le41 (pv43, g44) (⟨(g46.Rows.1, []), g46.Door⟩ : hawthornref05_Sketch.G) ⟨hf45.1, hf45.2⟩) ⟨rfl, rfl, trivial⟩ (fun _ h => st_pk 2 [0, 1] (by decide) h)

def tiny_wide (a0 : Int) : Int :=
  (if 4096 < (i64 (8 * a0)) then 4096 else i64 (8 * a0))
theorem tiny_wide.ok {G R F} (a0 : Int) (r : Int) (hm : tiny_wide a0 = r) : CO Try.prog 54 [vI a0] G R (F)
    (Ret fun u R' L' => u = vI r ∧ R' = R ∧ L' = F) := by
  unfold tiny_wide at hm
  refine co_ofN (N := 6) Try.func54 rfl rfl ?_
  refine c_seq ?_
  refine c_reg ?_
  refine r_u (o_as rfl) ?_
  refine r_nil ?_
  refine x_seq ?_
  refine c_seq ?_
  refine c_reg ?_
  refine r_u (o_mv rfl) ?_
  refine r_u (o_bin rfl rfl (bI_mul 8 a0)) ?_
  refine r_u (o_minI rfl rfl) ?_
  refine r_u (o_as rfl) ?_
  refine r_nil ?_
  refine x_seq ?_
  refine c_ret ?_
  subst hm
  exact x_r1 rfl (rv_t rfl) (Le.refl _) ⟨_, rfl, rfl, rfl, rfl⟩

def ring_New_l0 (a0 : Int) : Nat → Int → (List Int) → Option (List Int)
  | 0, _, _ => none
  | k28 + 1, i_25, c_26 => if decide (0 ≤ i_25) then (apd 8 c_26 [i64 (a0 + i_25)]).bind fun l35 => ring_New_l0 a0 k28 (i64 (i_25 - 1)) l35 else some c_26
def ring_New_l1 (a0 : Int) : Nat → Int → (List ring_slot) → Option (List ring_slot)
  | 0, _, _ => none
  | k39 + 1, s_37, c_38 => if decide (s_37 < a0) then (gi c_38 s_37).bind fun x44 => ring_New_l1 a0 k39 (i64 (s_37 + 1)) (ls c_38 s_37 (⟨[], s_37, s_37, s_37⟩ : ring_slot)) else some c_38
def ring_New (a0 : Int) (a1 : Int) : Option (Option ring_Rings × Int) :=
  if (((decide (a0 < 1) || decide (8 < a0)) || decide (a1 < 0)) || decide (4096 < a1)) then some (none, 1) else (mks 8 a0 (0 : Int)).bind fun l11 => (mks 40 (i64 (a0 + a1)) ((⟨[], 0, 0, 0⟩ : ring_slot) : ring_slot)).bind fun l13 => Option.bind (ring_New_l1 a0 ((a0 - 0).toNat + 1) 0 l13) fun p16 => Option.bind (ring_New_l0 a0 (((i64 (a1 - 1)) + 1).toNat + 1) (i64 (a1 - 1)) []) fun p20 => some ((some (⟨a0, p16, p20, [], l11⟩ : ring_Rings)), 0)
theorem ring_New.ok {G R F} (a0 : Int) (a1 : Int) (r : Option ring_Rings × Int) (hm : ring_New a0 a1 = some r) : CO Try.prog 55 [vI a0, vI a1] G R (F)
    (Ret fun u R' L' => ∃ (p0 : Value × ring_Rings.G), u = .tuple #[p0.1, vI r.2] ∧ R' = R ∧ L' = rO (ring_Rings.op p0.2) p0.1 r.1 :: F) := by
  unfold ring_New at hm
  refine co_ofN (N := 67) Try.func55 rfl rfl ?_
  refine c_seq ?_
  refine c_reg ?_
  refine r_u (o_as rfl) ?_
  refine r_u (o_as rfl) ?_
  refine r_nil ?_
  refine x_seq ?_
  refine c_seq ?_
  refine c_seq ?_
  refine c_reg ?_
  refine r_u (o_mv rfl) ?_
  refine r_u (o_bin rfl rfl (bI_lt a0 1)) ?_
  refine r_u (o_mv rfl) ?_
  refine r_s (s_gf rfl rfl fun g => o_mv rfl) ?_
  refine r_s (s_gf rfl rfl fun g => o_bin (evg rfl g) rfl (bI_gt a0 8)) ?_
  refine r_u (o_or rfl rfl) ?_
  refine r_u (o_mv rfl) ?_
  refine r_s (s_gf rfl rfl fun g => o_mv rfl) ?_
  refine r_s (s_gf rfl rfl fun g => o_bin (evg rfl g) rfl (bI_lt a1 0)) ?_
  refine r_u (o_or rfl rfl) ?_
  refine r_u (o_mv rfl) ?_
  refine r_s (s_gf rfl rfl fun g => o_mv rfl) ?_
  refine r_s (s_gf rfl rfl fun g => o_bin (evg rfl g) rfl (bI_gt a1 4096)) ?_
  refine r_u (o_or rfl rfl) ?_
  refine r_nil ?_
  refine x_seq ?_
  refine c_if (b := (((decide (a0 < 1) || decide (8 < a0)) || decide (a1 < 0)) || decide (4096 < a1))) rfl (fun h0 => ?_) fun h0 => ?_
  · have hm1 := ift hm h0
    clear hm
    refine c_seq ?_
    refine c_reg ?_
    refine r_u (o_as rfl) ?_
    refine r_u (o_as rfl) ?_
    refine r_nil ?_
    refine x_seq ?_
    refine c_ret ?_
    refine ex_st (fun _ h => st_none (f := ring_Rings.op default) h) ?_
    obtain rfl := Option.some.inj hm1
    exact x_r2 rfl (rv_t rfl) (rv_t rfl) (Le.refl _) ⟨_, rfl, (nl, default), rfl, rfl, rfl⟩
  · have hm1 := iff_ hm h0
    clear hm
    refine c_skip ?_
    refine x_seq ?_
    refine c_seq ?_
    obtain ⟨l11, hl11, hm12⟩ := bs hm1
    clear hm1
    obtain ⟨l13, hl13, hm14⟩ := bs hm12
    clear hm12
    refine c_anyF mixed (effs := [9]) (fr := [(1, fun u => OwM vS vI u []), (3, fun u => OwS true 3 1 eI u l11), (7, fun u => OwS true 113 4 ring_slot.c u l13)]) (V := []) rfl ?_
    refine stageF_ext [(0, vI a0), (2, vI a0), (4, vI a0), (5, vI a1), (6, vI (i64 (a0 + a1)))] rfl ?_
    refine stageG rfl rfl rfl rfl rfl rfl [0, 0, 0, 4, 0, 0, 48, 112, 255, 511, 1023] [0, 2, 4, 5, 6] [] (by kernel_rfl) (by kernel_rfl) (by kernel_rfl) (by kernel_rfl) (tc rfl rfl (fun A => s_u (o_mv rfl)) (tc rfl rfl (fun A => s_u (o_mv rfl)) (tc rfl rfl (fun A => s_u (o_mv rfl)) (tc rfl rfl (fun A => s_u (o_mv rfl)) (tc rfl rfl (fun A => s_u (o_bin rfl rfl (bI_add a0 a1))) tn))))) (fcons rfl (fun A => s_w (o_mm (kv := vS) (vv := vI))) (fcons rfl (fun A => s_w (o_mk (sz := 1) (bytes := 8) (e := 3) (en := eI) Try.underlying74 rfl rfl rfl rfl rfl rfl rfl rfl rfl hl11)) (fcons rfl (fun A => s_w (o_mk (sz := 4) (bytes := 40) (e := 113) (en := ring_slot.c) Try.underlying109 rfl rfl rfl rfl rfl rfl rfl rfl rfl hl13)) fnil))) etn fun bt10 => ?_
    refine stage_ext [(8, .agg [vI a0, (bt10 7), .slice none 0 0, (bt10 1), (bt10 3)].toArray)] rfl ?_
    refine stage rfl rfl rfl rfl [0, 0, 0, 4, 0, 0, 48, 112, 255, 511, 1023] [0, 8] [9] (by kernel_rfl) (by kernel_rfl) (by kernel_rfl) (qc rfl rfl (s_u (o_mv rfl)) (qc rfl rfl (s_u (ou_if (hd_m 0 rfl) fun hb0 => ou_if (hd_o 1 rfl) fun hb1 => ou_if (hd_o 2 rfl) fun hb2 => o_bld [vI a0, (bt10 7), .slice none 0 0, (bt10 1), (bt10 3)] rfl (fun _ => by obtain ⟨_, he0⟩ := hb0; rw [he0]; obtain ⟨_, _, he1⟩ := hb1; rw [he1]; obtain ⟨_, _, he2⟩ := hb2; rw [he2]; kernel_rfl))) qn)) ?_ (fun h => absurd (show false = true from h) (by decide))
    refine ec (eo_n rfl (s_w (o_bx [vI a0, (bt10 7), .slice none 0 0, (bt10 1), (bt10 3)] rfl rfl)) fun b15 => ?_) en
    refine stage_ext [(10, pt b15 0)] rfl ?_
    refine stage rfl rfl rfl rfl [0, 0, 0, 4, 0, 0, 48, 112, 255, 511, 1023] [10] [] (by kernel_rfl) (by kernel_rfl) (by kernel_rfl) (qc rfl rfl (s_u (o_as rfl)) qn) en ?_
    intro _
    refine ex_sub (E' := [(0, vI a0), (1, vI a1), (6, pt b15 0)]) ⟨rfl, rfl, rfl, trivial⟩ ?_
    refine x_seq ?_
    refine c_seq ?_
    refine c_seq ?_
    refine c_reg ?_
    refine r_u (o_mv rfl) ?_
    refine r_u (o_mv rfl) ?_
    refine r_nil ?_
    refine x_seq ?_
    obtain ⟨p16, hp17, hm18⟩ := bs hm14
    refine cd_join (E' := [(0, vI a0), (1, vI a1), (6, pt b15 0)]) (L' := Bk b15 111 [vI a0, (bt10 7), .slice none 0 0, (bt10 1), (bt10 3)] :: OwM vS vI (bt10 1) [] :: OwS true 3 1 eI (bt10 3) l11 :: OwS true 113 4 ring_slot.c (bt10 7) p16 :: F) ?_ fun K19 => ?_
    · refine x_seq ?_
      refine c_seq ?_
      refine c_seq ?_
      refine c_reg ?_
      refine r_u (o_mv rfl) ?_
      refine r_u (o_bin rfl rfl (bI_sub a1 1)) ?_
      refine r_u (o_as rfl) ?_
      refine r_nil ?_
      refine x_seq ?_
      obtain ⟨p20, hp22, hm23⟩ := bs hm18
      refine cd_cut (fun x ks => ∀ (g21 : Value), EX x .normal ks [(6, pt b15 0)] R (Bk b15 111 [vI a0, (bt10 7), g21, (bt10 1), (bt10 3)] :: OwM vS vI (bt10 1) [] :: OwS true 3 1 eI (bt10 3) l11 :: OwS true 113 4 ring_slot.c (bt10 7) p16 :: OwS true 3 1 eI g21 p20 :: F)) ?_ fun K24 => ?_
      · intro g21
        refine x_seq ?_
        refine c_seq ?_
        refine c_reg ?_
        refine r_u (o_mv rfl) ?_
        refine r_u (o_as rfl) ?_
        refine r_u (o_as rfl) ?_
        refine r_nil ?_
        refine x_seq ?_
        refine c_ret ?_
        refine ex_st (fun _ h => st_pk 5 [0, 3, 4, 1, 2] (by decide) h) ?_
        refine ex_st (fun _ h => st_some (f := ring_Rings.op (⟨(bt10 7), g21, (bt10 1), (bt10 3)⟩ : ring_Rings.G)) (a := (⟨a0, p16, p20, [], l11⟩ : ring_Rings)) (st_star_f (A := ring_Rings.fl b15 (⟨a0, p16, p20, [], l11⟩ : ring_Rings) (⟨(bt10 7), g21, (bt10 1), (bt10 3)⟩ : ring_Rings.G)) h)) ?_
        obtain rfl := Option.some.inj hm23
        exact x_r2 rfl (rv_t rfl) (rv_t rfl) (Le.refl _) ⟨_, rfl, (pt b15 0, (⟨(bt10 7), g21, (bt10 1), (bt10 3)⟩ : ring_Rings.G)), rfl, rfl, rfl⟩
      · refine c_blk ?_
        refine cd_st (fun _ h => st_nil (ap := true) (T := 3) (sz := 1) (en := eI) h) ?_
        refine cd_loopG (M := fun k28 (s : Int × List Int × Value) => ring_New_l0 a0 k28 s.1 s.2.1 = some p20) (Ef := fun (s : Int × List Int × Value) => [(0, vI a0), (6, pt b15 0), (8, vI s.1)]) (Rf := fun (s : Int × List Int × Value) => R) (Lf := fun (s : Int × List Int × Value) => Bk b15 111 [vI a0, (bt10 7), s.2.2, (bt10 1), (bt10 3)] :: OwM vS vI (bt10 1) [] :: OwS true 3 1 eI (bt10 3) l11 :: OwS true 113 4 ring_slot.c (bt10 7) p16 :: OwS true 3 1 eI s.2.2 s.2.1 :: F) (((i64 (a1 - 1)) + 1).toNat + 1) (i64 (a1 - 1), [], .slice none 0 0) hp22 ⟨rfl, rfl, rfl, trivial⟩ (fun _ h => st_pk 5 [1, 2, 3, 4, 0] (by decide) h) (fun _ h => by cases h) fun k28 s hM30 => ?_
        obtain ⟨i_25, c_26, g27⟩ := s
        have hm29 : ring_New_l0 a0 (k28 + 1) i_25 c_26 = some p20 := hM30
        rw [ring_New_l0] at hm29
        refine c_seq ?_
        refine c_seq ?_
        refine c_reg ?_
        refine r_u (o_mv rfl) ?_
        refine r_u (o_bin rfl rfl (bI_ge i_25 0)) ?_
        refine r_nil ?_
        refine x_seq ?_
        refine c_if (b := decide (0 ≤ i_25)) rfl (fun h31 => ?_) fun h31 => ?_
        · have hm32 := ift hm29 h31
          clear hm29
          refine c_skip ?_
          refine x_seq ?_
          refine c_seq ?_
          refine c_blk ?_
          refine c_reg ?_
          refine r_u (o_mv rfl) ?_
          refine r_u (o_mv rfl) ?_
          refine r_u (o_nc rfl) ?_
          refine r_u (o_fa fa111_2 rfl) ?_
          refine r_u (o_ld 0 sc74 rfl rfl rfl) ?_
          refine r_u (o_mv rfl) ?_
          refine r_u (o_mv rfl) ?_
          refine r_u (o_bin rfl rfl (bI_add a0 i_25)) ?_
          refine r_sw (s_w (o_bsl (en := eI) (sz := 1) (e := 3) (cs := [vI (i64 (a0 + i_25))]) (r := [i64 (a0 + i_25)]) rfl (fun _ => by kernel_rfl) rfl (by decide) rfl (fun _ => rfl))) ?_
          rintro v33 R _ _ ⟨rfl, rfl⟩
          obtain ⟨l35, hl35, hm36⟩ := bs hm32
          clear hm32
          refine rl_st (fun _ h => st_pk 6 [5, 0, 1, 2, 3, 4] (by decide) h) ?_
          refine r_sw (s_w (o_ap (sz := 1) (bytes := 8) 0 Try.underlying74 rfl rfl rfl rfl rfl (by decide) (by decide) (fun _ _ _ h => by simp at h; subst h; rfl) (fun _ => rfl) rfl rfl rfl rfl (Nat.succ_pos _) hl35)) ?_
          rintro v34 R _ _ ⟨rfl, rfl⟩
          refine r_u (o_nc rfl) ?_
          refine r_u (o_fa fa111_2 rfl) ?_
          refine rl_st (fun _ h => st_pk 6 [2, 0, 1, 3, 4, 5] (by decide) h) ?_
          refine r_u0 (ou_if (one_o 1 rfl) fun ho0 => o_st sc74 rfl rfl rfl ho0 rfl rfl) ?_
          refine r_nil ?_
          refine x_blk ?_
          refine x_seq ?_
          refine c_reg ?_
          refine r_u (o_mv rfl) ?_
          refine r_u (o_bin rfl rfl (bI_sub i_25 1)) ?_
          refine r_u (o_as rfl) ?_
          refine r_nil ?_
          exact x_lp (i64 (i_25 - 1), l35, v34) hm36 ⟨rfl, rfl, rfl, trivial⟩ (fun _ h => st_pk 6 [0, 3, 4, 5, 1] (by decide) h)
        · have hm32 := iff_ hm29 h31
          clear hm29
          refine c_exit (x_exit (ks' := _) rfl ?_)
          obtain rfl := Option.some.inj hm32
          exact x_sub (K24 g27) ⟨rfl, trivial⟩ (fun _ h => st_pk 5 [0, 1, 2, 3, 4] (by decide) h)
    · refine c_blk ?_
      refine cd_loop (M := fun k39 (s : Int × List ring_slot) => ring_New_l1 a0 k39 s.1 s.2 = some p16) (Ef := fun (s : Int × List ring_slot) => [(0, vI a0), (1, vI a1), (6, pt b15 0), (33, vI a0), (34, vI s.1)]) (Lf := fun (s : Int × List ring_slot) => Bk b15 111 [vI a0, (bt10 7), .slice none 0 0, (bt10 1), (bt10 3)] :: OwM vS vI (bt10 1) [] :: OwS true 3 1 eI (bt10 3) l11 :: OwS true 113 4 ring_slot.c (bt10 7) s.2 :: F) ((a0 - 0).toNat + 1) (0, l13) hp17 ⟨rfl, rfl, rfl, rfl, rfl, trivial⟩ (fun _ h => h) (fun _ h => by cases h) fun k39 s hM41 => ?_
      obtain ⟨s_37, c_38⟩ := s
      have hm40 : ring_New_l1 a0 (k39 + 1) s_37 c_38 = some p16 := hM41
      rw [ring_New_l1] at hm40
      refine c_seq ?_
      refine c_reg ?_
      refine r_u (o_bin rfl rfl (bI_lt s_37 a0)) ?_
      refine r_nil ?_
      refine x_seq ?_
      refine c_seq ?_
      refine c_if (b := decide (s_37 < a0)) rfl (fun h42 => ?_) fun h42 => ?_
      · have hm43 := ift hm40 h42
        clear hm40
        refine c_skip ?_
        refine x_seq ?_
        refine c_seq ?_
        refine c_blk ?_
        refine c_seq ?_
        refine c_reg ?_
        refine r_u (o_mv rfl) ?_
        refine r_u (o_as rfl) ?_
        refine r_nil ?_
        refine x_seq ?_
        refine c_reg ?_
        refine r_u (o_mv rfl) ?_
        refine r_u (o_nc rfl) ?_
        refine r_u (o_fa fa111_1 rfl) ?_
        refine r_u (o_ld 0 sc109 rfl rfl rfl) ?_
        refine r_u (o_mv rfl) ?_
        refine r_u (o_mv rfl) ?_
        refine r_u (o_mv rfl) ?_
        refine r_u (o_mv rfl) ?_
        refine r_u (o_bld [vS [], vI s_37, vI s_37, vI s_37] rfl (fun _ => by kernel_rfl)) ?_
        obtain ⟨x44, hx44, hm45⟩ := bs hm43
        clear hm43
        refine r_u (o_ixO 3 Try.underlying109 (fun _ => by kernel_rfl) rfl rfl rfl hx44) ?_
        refine rl_st (fun _ h => st_pk 4 [3, 0, 1, 2] (by decide) h) ?_
        refine r_u0 (o_stnO (c' := (⟨[], s_37, s_37, s_37⟩ : ring_slot)) ag113 rfl rfl rfl hx44 rfl rfl rfl) ?_
        refine r_nil ?_
        refine x_blk ?_
        refine x_seq ?_
        refine c_reg ?_
        refine r_u (o_bin rfl rfl (bI_add s_37 1)) ?_
        refine r_u (o_mv rfl) ?_
        refine r_nil ?_
        exact x_lp (i64 (s_37 + 1), ls c_38 s_37 (⟨[], s_37, s_37, s_37⟩ : ring_slot)) hm45 ⟨rfl, rfl, rfl, rfl, rfl, trivial⟩ (fun _ h => st_pk 4 [1, 2, 3, 0] (by decide) h)
      · have hm43 := iff_ hm40 h42
        clear hm40
        refine c_exit (x_exit (ks' := _) rfl ?_)
        obtain rfl := Option.some.inj hm43
        exact x_sub K19 ⟨rfl, rfl, rfl, trivial⟩ (fun _ h => st_pk 4 [0, 1, 2, 3] (by decide) h)

def tiny_New (a0 : Int) (a1 : UInt64) : Option (Option tiny_Tiny × Int) :=
  if (decide (a0 < 1) || decide (1000 < a0)) then some (none, 1) else (sketch_New (tiny_wide a0) a1).bind fun r2 => (ring_New 3 (i64 (a0 + 1))).bind fun r7 => some ((some (⟨a0, r2.1, r7.1⟩ : tiny_Tiny)), r7.2)
theorem tiny_New.ok {G R F} (a0 : Int) (a1 : UInt64) (r : Option tiny_Tiny × Int) (hm : tiny_New a0 a1 = some r) : CO Try.prog 27 [vI a0, vW a1] G R (F)
    (Ret fun u R' L' => ∃ (p0 : Value × tiny_Tiny.G), u = .tuple #[p0.1, vI r.2] ∧ R' = R ∧ L' = rO (tiny_Tiny.op p0.2) p0.1 r.1 :: F) := by
  unfold tiny_New at hm
  refine co_ofN (N := 35) Try.func27 rfl rfl ?_
  refine c_seq ?_
  refine c_reg ?_
  refine r_u (o_as rfl) ?_
  refine r_u (o_as rfl) ?_
  refine r_nil ?_
  refine x_seq ?_
  refine c_seq ?_
  refine c_seq ?_
  refine c_reg ?_
  refine r_u (o_mv rfl) ?_
  refine r_u (o_bin rfl rfl (bI_lt a0 1)) ?_
  refine r_u (o_mv rfl) ?_
  refine r_s (s_gf rfl rfl fun g => o_mv rfl) ?_
  refine r_s (s_gf rfl rfl fun g => o_bin (evg rfl g) rfl (bI_gt a0 1000)) ?_
  refine r_u (o_or rfl rfl) ?_
  refine r_nil ?_
  refine x_seq ?_
  refine c_if (b := (decide (a0 < 1) || decide (1000 < a0))) rfl (fun h0 => ?_) fun h0 => ?_
  · have hm1 := ift hm h0
    clear hm
    refine c_seq ?_
    refine c_reg ?_
    refine r_u (o_as rfl) ?_
    refine r_u (o_as rfl) ?_
    refine r_nil ?_
    refine x_seq ?_
    refine c_ret ?_
    refine ex_st (fun _ h => st_none (f := tiny_Tiny.op default) h) ?_
    obtain rfl := Option.some.inj hm1
    exact x_r2 rfl (rv_t rfl) (rv_t rfl) (Le.refl _) ⟨_, rfl, (nl, default), rfl, rfl, rfl⟩
  · have hm1 := iff_ hm h0
    clear hm
    refine c_skip ?_
    refine x_seq ?_
    refine c_seq ?_
    refine c_reg ?_
    refine r_u (o_mv rfl) ?_
    refine r_u (o_callq ca54 rfl (tiny_wide.ok a0 _ rfl)) ?_
    refine r_u (o_mv rfl) ?_
    obtain ⟨r2, hr2, hm6⟩ := bs hm1
    clear hm1
    refine r_sw (s_w (o_call ca12 rfl (sketch_New.ok (tiny_wide a0) a1 r2 hr2))) ?_
    rintro _ R _ _ ⟨⟨pv4, g5⟩, rfl, rfl, rfl⟩
    refine r_u (o_mv rfl) ?_
    refine r_u (o_ext rfl rfl) ?_
    refine r_u (o_ext rfl rfl) ?_
    refine r_u (o_as rfl) ?_
    refine r_u (o_as rfl) ?_
    refine r_nil ?_
    refine x_seq ?_
    refine c_seq ?_
    refine c_reg ?_
    refine r_u (o_mv rfl) ?_
    refine r_u (o_bin rfl rfl (bI_add a0 1)) ?_
    obtain ⟨r7, hr7, hm11⟩ := bs hm6
    clear hm6
    refine r_sw (s_w (o_call ca55 rfl (ring_New.ok 3 (i64 (a0 + 1)) r7 hr7))) ?_
    rintro _ R _ _ ⟨⟨pv9, g10⟩, rfl, rfl, rfl⟩
    refine r_u (o_mv rfl) ?_
    refine r_u (o_ext rfl rfl) ?_
    refine r_u (o_ext rfl rfl) ?_
    refine r_u (o_as rfl) ?_
    refine r_u (o_as rfl) ?_
    refine r_nil ?_
    refine x_seq ?_
    refine c_seq ?_
    refine c_reg ?_
    refine r_u (o_mv rfl) ?_
    refine r_u (o_mv rfl) ?_
    refine r_u (o_mv rfl) ?_
    refine r_u (ou_if (hd_p 1 rfl) fun hb0 => ou_if (hd_p 0 rfl) fun hb1 => o_bld [vI a0, pv4, pv9] rfl (fun _ => by obtain ⟨_, rfl⟩ := hb0; obtain ⟨_, rfl⟩ := hb1; kernel_rfl)) ?_
    refine r_new (o_bx [vI a0, pv4, pv9] rfl rfl) fun b12 => ?_
    refine r_u (o_mv rfl) ?_
    refine r_u (o_as rfl) ?_
    refine r_u (o_as rfl) ?_
    refine r_nil ?_
    refine x_seq ?_
    refine c_ret ?_
    refine ex_st (fun _ h => st_pk 3 [0, 2, 1] (by decide) h) ?_
    refine ex_st (fun _ h => st_some (f := tiny_Tiny.op (⟨(pv4, g5), (pv9, g10)⟩ : tiny_Tiny.G)) (a := (⟨a0, r2.1, r7.1⟩ : tiny_Tiny)) (st_star_f (A := tiny_Tiny.fl b12 (⟨a0, r2.1, r7.1⟩ : tiny_Tiny) (⟨(pv4, g5), (pv9, g10)⟩ : tiny_Tiny.G)) h)) ?_
    obtain rfl := Option.some.inj hm11
    exact x_r2 rfl (rv_t rfl) (rv_t rfl) (Le.refl _) ⟨_, rfl, (pt b12 0, (⟨(pv4, g5), (pv9, g10)⟩ : tiny_Tiny.G)), rfl, rfl, rfl⟩

def ring_Rings_In (a0 : ring_Rings) (a1 : Str) : Option (Int × Bool) :=
  if !((mget a0.at_ a1).isSome) then some (0, false) else (gi a0.slots ((mget a0.at_ a1).getD (0 : Int))).bind fun x6 => some (x6.list, true)
theorem ring_Rings_In.ok {G R F} (b0_ : Nat) (a0 : ring_Rings) (g0_ : ring_Rings.G) (a1 : Str) (r : Int × Bool) (hm : ring_Rings_In a0 a1 = some r) : CO Try.prog 61 [pt b0_ 0, vS a1] G R (Bk b0_ 111 [vI a0.lists, g0_.slots, g0_.free, g0_.at_, g0_.many] :: OwS true 113 4 ring_slot.c g0_.slots a0.slots :: OwS true 3 1 eI g0_.free a0.free :: OwM vS vI g0_.at_ a0.at_ :: OwS true 3 1 eI g0_.many a0.many :: F)
    (Ret fun u R' L' => u = .tuple #[vI r.1, vB r.2] ∧ R' = R ∧ L' = Bk b0_ 111 [vI a0.lists, g0_.slots, g0_.free, g0_.at_, g0_.many] :: OwS true 113 4 ring_slot.c g0_.slots a0.slots :: OwS true 3 1 eI g0_.free a0.free :: OwM vS vI g0_.at_ a0.at_ :: OwS true 3 1 eI g0_.many a0.many :: F) := by
  unfold ring_Rings_In at hm
  refine co_ofN (N := 29) Try.func61 rfl rfl ?_
  refine c_seq ?_
  refine c_reg ?_
  refine r_u (o_as rfl) ?_
  refine r_u (o_as rfl) ?_
  refine r_nil ?_
  refine x_seq ?_
  refine c_seq ?_
  refine c_seq ?_
  refine c_reg ?_
  refine r_u (o_mv rfl) ?_
  refine r_u (o_bin rfl rfl (bP_eqp Try.underlying82)) ?_
  refine r_nil ?_
  refine x_seq ?_
  refine c_ff rfl ?_
  refine c_skip ?_
  refine x_seq ?_
  refine c_seq ?_
  refine c_reg ?_
  refine r_u (o_mv rfl) ?_
  refine r_u (o_nc rfl) ?_
  refine r_u (o_fa fa111_3 rfl) ?_
  refine r_u (o_ld 0 sc108 rfl rfl rfl) ?_
  refine r_u (o_mv rfl) ?_
  refine r_u (o_lk (kv := vS) (vv := vI) (key := a1) (z0 := (0 : Int)) 3 Try.underlying108 (kok_S Try.underlying9) (fun _ => by kernel_rfl) rfl rfl rfl) ?_
  refine r_u (o_mv rfl) ?_
  refine r_u (o_ext rfl rfl) ?_
  refine r_u (o_ext rfl rfl) ?_
  refine r_u (o_as rfl) ?_
  refine r_u (o_as rfl) ?_
  refine r_nil ?_
  refine x_seq ?_
  refine c_seq ?_
  refine c_seq ?_
  refine c_reg ?_
  refine r_u (o_mv rfl) ?_
  refine r_u (o_not rfl) ?_
  refine r_nil ?_
  refine x_seq ?_
  refine c_if (b := !((mget a0.at_ a1).isSome)) rfl (fun h4 => ?_) fun h4 => ?_
  · have hm5 := ift hm h4
    clear hm
    refine c_seq ?_
    refine c_reg ?_
    refine r_u (o_as rfl) ?_
    refine r_u (o_as rfl) ?_
    refine r_nil ?_
    refine x_seq ?_
    refine c_ret ?_
    obtain rfl := Option.some.inj hm5
    exact x_r2 rfl (rv_t rfl) (rv_t rfl) (Le.refl _) ⟨_, rfl, rfl, rfl, rfl⟩
  · have hm5 := iff_ hm h4
    clear hm
    refine c_skip ?_
    refine x_seq ?_
    refine c_seq ?_
    refine c_reg ?_
    refine r_u (o_mv rfl) ?_
    refine r_u (o_nc rfl) ?_
    refine r_u (o_fa fa111_1 rfl) ?_
    refine r_u (o_ld 0 sc109 rfl rfl rfl) ?_
    refine r_u (o_mv rfl) ?_
    obtain ⟨x6, hx6, hm7⟩ := bs hm5
    clear hm5
    refine r_u (o_ixO 1 Try.underlying109 (fun _ => by kernel_rfl) rfl rfl rfl hx6) ?_
    refine r_u (o_fa fa113_1 rfl) ?_
    refine r_u (o_ldO 1 1 sc3 rfl rfl hx6 rfl rfl) ?_
    refine r_u (o_as rfl) ?_
    refine r_u (o_as rfl) ?_
    refine r_nil ?_
    refine x_seq ?_
    refine c_ret ?_
    obtain rfl := Option.some.inj hm7
    exact x_r2 rfl (rv_t rfl) (rv_t rfl) (Le.refl _) ⟨_, rfl, rfl, rfl, rfl⟩

def tiny_Tiny_Has (a0 : tiny_Tiny) (a1 : Str) : Option Bool :=
  om a0.r (none) fun x6 => (ring_Rings_In x6 a1).bind fun r14 => some r14.2
theorem tiny_Tiny_Has.ok {G R F} (b0_ : Nat) (a0 : tiny_Tiny) (g0_ : tiny_Tiny.G) (a1 : Str) (r : Bool) (hm : tiny_Tiny_Has a0 a1 = some r) : CO Try.prog 32 [pt b0_ 0, vS a1] G R (Bk b0_ 86 [vI a0.most, g0_.s.1, g0_.r.1] :: rO (sketch_Sketch.op g0_.s.2) g0_.s.1 a0.s :: rO (ring_Rings.op g0_.r.2) g0_.r.1 a0.r :: F)
    (Ret fun u R' L' => u = vB r ∧ R' = R ∧ L' = Bk b0_ 86 [vI a0.most, g0_.s.1, g0_.r.1] :: rO (sketch_Sketch.op g0_.s.2) g0_.s.1 a0.s :: rO (ring_Rings.op g0_.r.2) g0_.r.1 a0.r :: F) := by
  obtain ⟨⟨pv1, g2⟩, ⟨pv4, g5⟩⟩ := g0_
  unfold tiny_Tiny_Has at hm
  refine co_ofN (N := 19) Try.func32 rfl rfl ?_
  refine c_seq ?_
  refine c_reg ?_
  refine r_u (o_as rfl) ?_
  refine r_nil ?_
  refine x_seq ?_
  refine c_seq ?_
  refine c_seq ?_
  refine c_reg ?_
  refine r_u (o_mv rfl) ?_
  refine r_u (o_bin rfl rfl (bP_eqp Try.underlying47)) ?_
  refine r_nil ?_
  refine x_seq ?_
  refine c_ff rfl ?_
  refine c_skip ?_
  refine x_seq ?_
  refine c_seq ?_
  refine cd_st (fun _ h => st_pk 3 [2, 0, 1] (by decide) h) ?_
  refine cd_opt (fun ho8 => ?_) (fun x6 b7 ho8 => ?_)
  · rintro rfl
    have hm9 := om_n hm ho8
    clear hm
    cases hm9
  · rintro rfl
    have hm9 := om_s hm ho8
    clear hm
    refine cd_st (fun _ h => st_star_o h) ?_
    refine c_reg ?_
    refine r_u (o_mv rfl) ?_
    refine r_u (o_nc rfl) ?_
    refine r_u (o_fa fa86_2 rfl) ?_
    refine r_u (o_ld 5 sc82 rfl rfl rfl) ?_
    refine r_u (o_mv rfl) ?_
    obtain ⟨r14, hr14, hm15⟩ := bs hm9
    clear hm9
    refine r_c (s_w (o_call ca61 rfl (ring_Rings_In.ok b7 x6 g5 a1 r14 hr14))) ?_
    refine r_u (o_mv rfl) ?_
    refine r_u (o_ext rfl rfl) ?_
    refine r_u (o_ext rfl rfl) ?_
    refine r_u (o_as rfl) ?_
    refine r_u (o_as rfl) ?_
    refine r_nil ?_
    refine x_seq ?_
    refine c_seq ?_
    refine c_reg ?_
    refine r_u (o_mv rfl) ?_
    refine r_u (o_as rfl) ?_
    refine r_nil ?_
    refine x_seq ?_
    refine c_ret ?_
    refine ex_st (fun _ h => st_some (f := ring_Rings.op g5) (a := x6) (st_star_f (A := ring_Rings.fl b7 x6 g5) h)) ?_
    refine ex_st (fun _ h => st_back ho8 h) ?_
    obtain rfl := Option.some.inj hm15
    refine ex_st (fun _ h => st_pk 3 [1, 2, 0] (by decide) h) ?_
    exact x_r1 rfl (rv_t rfl) (Le.refl _) ⟨_, rfl, rfl, rfl, rfl⟩

def ring_Rings_is (a0 : ring_Rings) (a1 : Int) : Bool :=
  (decide (0 ≤ a1) && decide (a1 < a0.lists))
theorem ring_Rings_is.ok {G R F} (b0_ : Nat) (a0 : ring_Rings) (g0_ : ring_Rings.G) (a1 : Int) (r : Bool) (hm : ring_Rings_is a0 a1 = r) : CO Try.prog 75 [pt b0_ 0, vI a1] G R (Bk b0_ 111 [vI a0.lists, g0_.slots, g0_.free, g0_.at_, g0_.many] :: OwS true 113 4 ring_slot.c g0_.slots a0.slots :: OwS true 3 1 eI g0_.free a0.free :: OwM vS vI g0_.at_ a0.at_ :: OwS true 3 1 eI g0_.many a0.many :: F)
    (Ret fun u R' L' => u = vB r ∧ R' = R ∧ L' = Bk b0_ 111 [vI a0.lists, g0_.slots, g0_.free, g0_.at_, g0_.many] :: OwS true 113 4 ring_slot.c g0_.slots a0.slots :: OwS true 3 1 eI g0_.free a0.free :: OwM vS vI g0_.at_ a0.at_ :: OwS true 3 1 eI g0_.many a0.many :: F) := by
  unfold ring_Rings_is at hm
  refine co_ofN (N := 19) Try.func75 rfl rfl ?_
  refine c_seq ?_
  refine c_reg ?_
  refine r_u (o_as rfl) ?_
  refine r_nil ?_
  refine x_seq ?_
  refine c_seq ?_
  refine c_reg ?_
  refine r_u (o_mv rfl) ?_
  refine r_u (o_bin rfl rfl (bP_nep Try.underlying82)) ?_
  refine r_u (o_mv rfl) ?_
  refine r_s (s_y rfl rfl rfl (o_mv rfl)) ?_
  refine r_s (s_y rfl rfl rfl (o_bin rfl rfl (bI_ge a1 0))) ?_
  refine r_u (o_pt rfl rfl rfl) ?_
  refine r_u (o_mv rfl) ?_
  refine r_s (s_gt rfl rfl fun g => o_mv rfl) ?_
  refine r_s (s_gt rfl rfl fun g => o_mv rfl) ?_
  refine r_s (s_gt rfl rfl fun g => o_nc (evg rfl g)) ?_
  refine r_s (s_gt rfl rfl fun g => o_fa fa111_0 (evg rfl g)) ?_
  refine r_s (s_gt rfl rfl fun g => o_ld 0 sc3 (evg rfl g) rfl rfl) ?_
  refine r_s (s_gt rfl rfl fun g => o_bin (evg rfl g) (evg rfl g) (bI_lt a1 a0.lists)) ?_
  refine r_u (o_and rfl rfl) ?_
  refine r_u (o_as rfl) ?_
  refine r_nil ?_
  refine x_seq ?_
  refine c_ret ?_
  subst hm
  exact x_r1 rfl (rv_t rfl) (Le.refl _) ⟨_, rfl, rfl, rfl, rfl⟩

def ring_Rings_cut (a0 : ring_Rings) (a1 : Int) : Option ring_Rings :=
  (gi a0.slots a1).bind fun x4 => (gi a0.slots x4.prev).bind fun x6 => (gi (ls a0.slots x4.prev (⟨x6.key, x6.list, x6.prev, x4.next⟩ : ring_slot)) x4.next).bind fun x8 => (gi (ls (ls a0.slots x4.prev (⟨x6.key, x6.list, x6.prev, x4.next⟩ : ring_slot)) x4.next (⟨x8.key, x8.list, x4.prev, x8.next⟩ : ring_slot)) a1).bind fun x10 => (gi a0.many x10.list).bind fun x12 => some (⟨a0.lists, ls (ls a0.slots x4.prev (⟨x6.key, x6.list, x6.prev, x4.next⟩ : ring_slot)) x4.next (⟨x8.key, x8.list, x4.prev, x8.next⟩ : ring_slot), a0.free, a0.at_, ls a0.many x10.list (i64 (x12 - 1))⟩ : ring_Rings)
theorem ring_Rings_cut.ok {G R F} (b0_ : Nat) (a0 : ring_Rings) (g0_ : ring_Rings.G) (a1 : Int) (r : ring_Rings) (hm : ring_Rings_cut a0 a1 = some r) : CO Try.prog 76 [pt b0_ 0, vI a1] G R (Bk b0_ 111 [vI a0.lists, g0_.slots, g0_.free, g0_.at_, g0_.many] :: OwS true 113 4 ring_slot.c g0_.slots a0.slots :: OwS true 3 1 eI g0_.free a0.free :: OwM vS vI g0_.at_ a0.at_ :: OwS true 3 1 eI g0_.many a0.many :: F)
    (Ret fun u R' L' => u = .tuple #[] ∧ R' = R ∧ L' = Bk b0_ 111 [vI r.lists, g0_.slots, g0_.free, g0_.at_, g0_.many] :: OwS true 113 4 ring_slot.c g0_.slots r.slots :: OwS true 3 1 eI g0_.free r.free :: OwM vS vI g0_.at_ r.at_ :: OwS true 3 1 eI g0_.many r.many :: F) := by
  unfold ring_Rings_cut at hm
  refine co_ofN (N := 51) Try.func76 rfl rfl ?_
  refine c_seq ?_
  refine c_reg ?_
  refine r_u (o_mv rfl) ?_
  refine r_u (o_nc rfl) ?_
  refine r_u (o_fa fa111_1 rfl) ?_
  refine r_u (o_ld 0 sc109 rfl rfl rfl) ?_
  refine r_u (o_mv rfl) ?_
  obtain ⟨x4, hx4, hm5⟩ := bs hm
  clear hm
  refine r_u (o_ixO 1 Try.underlying109 (fun _ => by kernel_rfl) rfl rfl rfl hx4) ?_
  refine r_u (o_as rfl) ?_
  refine r_nil ?_
  refine x_seq ?_
  refine c_seq ?_
  obtain ⟨x6, hx6, hm7⟩ := bs hm5
  clear hm5
  obtain ⟨x8, hx8, hm9⟩ := bs hm7
  clear hm7
  refine c_any mixed (effs := [26, 29]) (V := []) ?_
  refine stage_st (fun _ h => st_pk 5 [1, 0, 2, 3, 4] (by decide) h) ?_
  refine stage_ext [(0, pt b0_ 0), (1, pt b0_ 0), (2, pt b0_ 1), (3, g0_.slots), (4, pt (sb g0_.slots) (so g0_.slots + a1.toNat * 4)), (5, pt (sb g0_.slots) (so g0_.slots + a1.toNat * 4)), (6, pt (sb g0_.slots) (so g0_.slots + a1.toNat * 4 + 2)), (7, vI x4.prev), (8, pt b0_ 0), (9, pt b0_ 0), (10, pt b0_ 1), (11, g0_.slots), (12, pt (sb g0_.slots) (so g0_.slots + a1.toNat * 4)), (13, pt (sb g0_.slots) (so g0_.slots + a1.toNat * 4)), (14, pt (sb g0_.slots) (so g0_.slots + a1.toNat * 4 + 3)), (15, vI x4.next), (16, pt (sb g0_.slots) (so g0_.slots + a1.toNat * 4)), (17, pt (sb g0_.slots) (so g0_.slots + a1.toNat * 4)), (18, pt (sb g0_.slots) (so g0_.slots + a1.toNat * 4 + 3)), (19, vI x4.next), (20, pt (sb g0_.slots) (so g0_.slots + a1.toNat * 4)), (21, pt (sb g0_.slots) (so g0_.slots + a1.toNat * 4)), (22, pt (sb g0_.slots) (so g0_.slots + a1.toNat * 4 + 2)), (23, vI x4.prev), (24, pt (sb g0_.slots) (so g0_.slots + x4.prev.toNat * 4)), (25, pt (sb g0_.slots) (so g0_.slots + x4.prev.toNat * 4 + 3))] rfl ?_
  refine stage rfl rfl rfl rfl [0, 1, 3, 7, 0, 16, 48, 112, 0, 256, 768, 1792, 0, 4096, 12288, 28672, 0, 65536, 196608, 458752, 0, 1048576, 3145728, 7340032, 16777215, 33554431, 67108863, 134217727, 268435455, 536870911] [0, 1, 2, 3, 4, 5, 6, 7, 8, 9, 10, 11, 12, 13, 14, 15, 16, 17, 18, 19, 20, 21, 22, 23, 24, 25] [26] rfl rfl rfl (qc rfl rfl (s_u (o_mv rfl)) (qc rfl rfl (s_u (o_nc rfl)) (qc rfl rfl (s_u (o_fa fa111_1 rfl)) (qc rfl rfl (s_u (o_ld 1 sc109 rfl rfl rfl)) (qc rfl rfl (s_u (o_mv rfl)) (qc rfl rfl (s_u (o_nc rfl)) (qc rfl rfl (s_u (o_fa fa113_2 rfl)) (qc rfl rfl (s_u (o_ldO 0 2 sc3 rfl rfl hx4 rfl rfl)) (qc rfl rfl (s_u (o_mv rfl)) (qc rfl rfl (s_u (o_nc rfl)) (qc rfl rfl (s_u (o_fa fa111_1 rfl)) (qc rfl rfl (s_u (o_ld 1 sc109 rfl rfl rfl)) (qc rfl rfl (s_u (o_mv rfl)) (qc rfl rfl (s_u (o_nc rfl)) (qc rfl rfl (s_u (o_fa fa113_3 rfl)) (qc rfl rfl (s_u (o_ldO 0 3 sc3 rfl rfl hx4 rfl rfl)) (qc rfl rfl (s_u (o_mv rfl)) (qc rfl rfl (s_u (o_nc rfl)) (qc rfl rfl (s_u (o_fa fa113_3 rfl)) (qc rfl rfl (s_u (o_ldO 0 3 sc3 rfl rfl hx4 rfl rfl)) (qc rfl rfl (s_u (o_mv rfl)) (qc rfl rfl (s_u (o_nc rfl)) (qc rfl rfl (s_u (o_fa fa113_2 rfl)) (qc rfl rfl (s_u (o_ldO 0 2 sc3 rfl rfl hx4 rfl rfl)) (qc rfl rfl (s_u (o_ixO 0 Try.underlying109 (fun _ => by kernel_rfl) rfl rfl rfl hx6)) (qc rfl rfl (s_u (o_fa fa113_3 rfl)) qn)))))))))))))))))))))))))) ?_ (fun h => absurd h (by decide))
  refine ec (eo_u rfl (s_u (o_stO (c' := (⟨x6.key, x6.list, x6.prev, x4.next⟩ : ring_slot)) 3 sc3 rfl rfl rfl hx6 rfl rfl rfl)) (Le.refl _) ?_) en
  refine stage_ext [(27, pt (sb g0_.slots) (so g0_.slots + x4.next.toNat * 4)), (28, pt (sb g0_.slots) (so g0_.slots + x4.next.toNat * 4 + 2))] rfl ?_
  refine stage rfl rfl rfl rfl [0, 1, 3, 7, 0, 16, 48, 112, 0, 256, 768, 1792, 0, 4096, 12288, 28672, 0, 65536, 196608, 458752, 0, 1048576, 3145728, 7340032, 16777215, 33554431, 67108863, 134217727, 268435455, 536870911] [27, 28] [29] rfl rfl rfl (qc rfl rfl (s_u (o_ixO 0 Try.underlying109 (fun _ => by kernel_rfl) rfl rfl rfl hx8)) (qc rfl rfl (s_u (o_fa fa113_2 rfl)) qn)) ?_ (fun h => absurd h (by decide))
  refine ec (eo_u rfl (s_u (o_stO (c' := (⟨x8.key, x8.list, x4.prev, x8.next⟩ : ring_slot)) 2 sc3 rfl rfl rfl hx8 rfl rfl rfl)) (Le.refl _) ?_) en
  refine stage rfl rfl rfl rfl [0, 1, 3, 7, 0, 16, 48, 112, 0, 256, 768, 1792, 0, 4096, 12288, 28672, 0, 65536, 196608, 458752, 0, 1048576, 3145728, 7340032, 16777215, 33554431, 67108863, 134217727, 268435455, 536870911] [] [] rfl rfl rfl qn en ?_
  intro _
  refine ex_sub (E' := [(0, pt b0_ 0), (4, pt (sb g0_.slots) (so g0_.slots + a1.toNat * 4))]) ⟨rfl, rfl, trivial⟩ ?_
  refine x_seq ?_
  obtain ⟨x10, hx10, hm11⟩ := bs hm9
  clear hm9
  obtain ⟨x12, hx12, hm13⟩ := bs hm11
  clear hm11
  refine c_any mixed (effs := [12]) (V := []) ?_
  refine stage_st (fun _ h => st_pk 5 [4, 0, 1, 2, 3] (by decide) h) ?_
  refine stage_ext [(0, pt b0_ 0), (1, pt b0_ 0), (2, pt b0_ 4), (3, g0_.many), (4, pt (sb g0_.slots) (so g0_.slots + a1.toNat * 4)), (5, pt (sb g0_.slots) (so g0_.slots + a1.toNat * 4)), (6, pt (sb g0_.slots) (so g0_.slots + a1.toNat * 4 + 1)), (7, vI x10.list), (8, pt (sb g0_.many) (so g0_.many + x10.list.toNat * 1)), (9, vI x12), (10, vI (i64 (x12 - 1))), (11, pt (sb g0_.many) (so g0_.many + x10.list.toNat * 1))] rfl ?_
  refine stage rfl rfl rfl rfl [0, 1, 3, 7, 0, 16, 48, 112, 255, 511, 1023, 2047, 4095] [0, 1, 2, 3, 4, 5, 6, 7, 8, 9, 10, 11] [12] rfl rfl rfl (qc rfl rfl (s_u (o_mv rfl)) (qc rfl rfl (s_u (o_nc rfl)) (qc rfl rfl (s_u (o_fa fa111_4 rfl)) (qc rfl rfl (s_u (o_ld 2 sc74 rfl rfl rfl)) (qc rfl rfl (s_u (o_mv rfl)) (qc rfl rfl (s_u (o_nc rfl)) (qc rfl rfl (s_u (o_fa fa113_1 rfl)) (qc rfl rfl (s_u (o_ldO 1 1 sc3 rfl rfl hx10 rfl rfl)) (qc rfl rfl (s_u (o_ixO 0 Try.underlying74 (fun _ => by kernel_rfl) rfl rfl rfl hx12)) (qc rfl rfl (s_u (o_ldO0 0 sc3 rfl rfl hx12 rfl rfl)) (qc rfl rfl (s_u (o_bin rfl rfl (bI_sub x12 1))) (qc rfl rfl (s_u (o_ixO 0 Try.underlying74 (fun _ => by kernel_rfl) rfl rfl rfl hx12)) qn)))))))))))) ?_ (fun h => absurd h (by decide))
  refine ec (eo_u rfl (s_u (o_stO0 (c' := i64 (x12 - 1)) sc3 rfl rfl rfl hx12 rfl rfl rfl)) (Le.refl _) ?_) en
  refine stage rfl rfl rfl rfl [0, 1, 3, 7, 0, 16, 48, 112, 255, 511, 1023, 2047, 4095] [] [] rfl rfl rfl qn en ?_
  intro _
  refine ex_sub (E' := []) trivial ?_
  refine x_end ?_
  obtain rfl := Option.some.inj hm13
  refine ex_st (fun _ h => st_pk 5 [2, 1, 3, 4, 0] (by decide) h) ?_
  exact x_r0 rfl (Le.refl _) ⟨_, rfl, rfl, rfl, rfl⟩

def ring_Rings_link (a0 : ring_Rings) (a1 : Int) (a2 : Int) : Option ring_Rings :=
  (gi a0.slots a1).bind fun x4 => (gi a0.slots a2).bind fun x6 => (gi (ls a0.slots a1 (⟨x4.key, a2, x4.prev, x4.next⟩ : ring_slot)) a1).bind fun x8 => (gi (ls (ls a0.slots a1 (⟨x4.key, a2, x4.prev, x4.next⟩ : ring_slot)) a1 (⟨x8.key, x8.list, a2, x8.next⟩ : ring_slot)) a1).bind fun x10 => (gi (ls (ls (ls a0.slots a1 (⟨x4.key, a2, x4.prev, x4.next⟩ : ring_slot)) a1 (⟨x8.key, x8.list, a2, x8.next⟩ : ring_slot)) a1 (⟨x10.key, x10.list, x10.prev, x6.next⟩ : ring_slot)) a1).bind fun x12 => (gi (ls (ls (ls a0.slots a1 (⟨x4.key, a2, x4.prev, x4.next⟩ : ring_slot)) a1 (⟨x8.key, x8.list, a2, x8.next⟩ : ring_slot)) a1 (⟨x10.key, x10.list, x10.prev, x6.next⟩ : ring_slot)) x12.next).bind fun x14 => (gi (ls (ls (ls (ls a0.slots a1 (⟨x4.key, a2, x4.prev, x4.next⟩ : ring_slot)) a1 (⟨x8.key, x8.list, a2, x8.next⟩ : ring_slot)) a1 (⟨x10.key, x10.list, x10.prev, x6.next⟩ : ring_slot)) x12.next (⟨x14.key, x14.list, a1, x14.next⟩ : ring_slot)) a2).bind fun x16 => (gi a0.many a2).bind fun x18 => some (⟨a0.lists, ls (ls (ls (ls (ls a0.slots a1 (⟨x4.key, a2, x4.prev, x4.next⟩ : ring_slot)) a1 (⟨x8.key, x8.list, a2, x8.next⟩ : ring_slot)) a1 (⟨x10.key, x10.list, x10.prev, x6.next⟩ : ring_slot)) x12.next (⟨x14.key, x14.list, a1, x14.next⟩ : ring_slot)) a2 (⟨x16.key, x16.list, x16.prev, a1⟩ : ring_slot), a0.free, a0.at_, ls a0.many a2 (i64 (x18 + 1))⟩ : ring_Rings)
theorem ring_Rings_link.ok {G R F} (b0_ : Nat) (a0 : ring_Rings) (g0_ : ring_Rings.G) (a1 : Int) (a2 : Int) (r : ring_Rings) (hm : ring_Rings_link a0 a1 a2 = some r) : CO Try.prog 77 [pt b0_ 0, vI a1, vI a2] G R (Bk b0_ 111 [vI a0.lists, g0_.slots, g0_.free, g0_.at_, g0_.many] :: OwS true 113 4 ring_slot.c g0_.slots a0.slots :: OwS true 3 1 eI g0_.free a0.free :: OwM vS vI g0_.at_ a0.at_ :: OwS true 3 1 eI g0_.many a0.many :: F)
    (Ret fun u R' L' => u = .tuple #[] ∧ R' = R ∧ L' = Bk b0_ 111 [vI r.lists, g0_.slots, g0_.free, g0_.at_, g0_.many] :: OwS true 113 4 ring_slot.c g0_.slots r.slots :: OwS true 3 1 eI g0_.free r.free :: OwM vS vI g0_.at_ r.at_ :: OwS true 3 1 eI g0_.many r.many :: F) := by
  unfold ring_Rings_link at hm
  refine co_ofN (N := 60) Try.func77 rfl rfl ?_
  refine c_seq ?_
  refine c_reg ?_
  refine r_u (o_mv rfl) ?_
  refine r_u (o_nc rfl) ?_
  refine r_u (o_fa fa111_1 rfl) ?_
  refine r_u (o_ld 0 sc109 rfl rfl rfl) ?_
  refine r_u (o_mv rfl) ?_
  obtain ⟨x4, hx4, hm5⟩ := bs hm
  clear hm
  refine r_u (o_ixO 1 Try.underlying109 (fun _ => by kernel_rfl) rfl rfl rfl hx4) ?_
  refine r_u (o_as rfl) ?_
  refine r_nil ?_
  refine x_seq ?_
  refine c_seq ?_
  refine c_reg ?_
  refine r_u (o_mv rfl) ?_
  refine r_u (o_mv rfl) ?_
  refine r_u (o_mv rfl) ?_
  refine r_u (o_mv rfl) ?_
  refine r_u (o_mv rfl) ?_
  refine r_u (o_mv rfl) ?_
  refine r_u (o_nc rfl) ?_
  refine r_u (o_fa fa111_1 rfl) ?_
  refine r_u (o_ld 0 sc109 rfl rfl rfl) ?_
  refine r_u (o_mv rfl) ?_
  obtain ⟨x6, hx6, hm7⟩ := bs hm5
  clear hm5
  refine r_u (o_ixO 1 Try.underlying109 (fun _ => by kernel_rfl) rfl rfl rfl hx6) ?_
  refine r_u (o_fa fa113_3 rfl) ?_
  refine r_u (o_ldO 1 3 sc3 rfl rfl hx6 rfl rfl) ?_
  refine r_u (o_nc rfl) ?_
  refine r_u (o_fa fa113_1 rfl) ?_
  refine rl_st (fun _ h => st_pk 5 [1, 0, 2, 3, 4] (by decide) h) ?_
  refine r_u0 (o_stO (c' := (⟨x4.key, a2, x4.prev, x4.next⟩ : ring_slot)) 1 sc3 rfl rfl rfl hx4 rfl rfl rfl) ?_
  refine r_u (o_nc rfl) ?_
  refine r_u (o_fa fa113_2 rfl) ?_
  obtain ⟨x8, hx8, hm9⟩ := bs hm7
  clear hm7
  refine r_u0 (o_stO (c' := (⟨x8.key, x8.list, a2, x8.next⟩ : ring_slot)) 2 sc3 rfl rfl rfl hx8 rfl rfl rfl) ?_
  refine r_u (o_nc rfl) ?_
  refine r_u (o_fa fa113_3 rfl) ?_
  obtain ⟨x10, hx10, hm11⟩ := bs hm9
  clear hm9
  refine r_u0 (o_stO (c' := (⟨x10.key, x10.list, x10.prev, x6.next⟩ : ring_slot)) 3 sc3 rfl rfl rfl hx10 rfl rfl rfl) ?_
  refine r_nil ?_
  refine x_seq ?_
  refine c_seq ?_
  obtain ⟨x12, hx12, hm13⟩ := bs hm11
  clear hm11
  obtain ⟨x14, hx14, hm15⟩ := bs hm13
  clear hm13
  obtain ⟨x16, hx16, hm17⟩ := bs hm15
  clear hm15
  refine c_any mixed (effs := [17, 20]) (V := []) ?_
  refine stage_ext [(0, pt b0_ 0), (1, pt b0_ 0), (2, pt b0_ 1), (3, g0_.slots), (4, pt (sb g0_.slots) (so g0_.slots + a1.toNat * 4)), (5, pt (sb g0_.slots) (so g0_.slots + a1.toNat * 4)), (6, pt (sb g0_.slots) (so g0_.slots + a1.toNat * 4 + 3)), (7, vI x12.next), (8, pt b0_ 0), (9, pt b0_ 0), (10, pt b0_ 1), (11, g0_.slots), (12, vI a2), (13, vI a1), (14, vI a1), (15, pt (sb g0_.slots) (so g0_.slots + x12.next.toNat * 4)), (16, pt (sb g0_.slots) (so g0_.slots + x12.next.toNat * 4 + 2))] rfl ?_
  refine stage rfl rfl rfl rfl [0, 1, 3, 7, 0, 16, 48, 112, 0, 256, 768, 1792, 0, 0, 0, 12287, 45055, 110591, 262143, 524287, 1048575] [0, 1, 2, 3, 4, 5, 6, 7, 8, 9, 10, 11, 12, 13, 14, 15, 16] [17] rfl rfl rfl (qc rfl rfl (s_u (o_mv rfl)) (qc rfl rfl (s_u (o_nc rfl)) (qc rfl rfl (s_u (o_fa fa111_1 rfl)) (qc rfl rfl (s_u (o_ld 1 sc109 rfl rfl rfl)) (qc rfl rfl (s_u (o_mv rfl)) (qc rfl rfl (s_u (o_nc rfl)) (qc rfl rfl (s_u (o_fa fa113_3 rfl)) (qc rfl rfl (s_u (o_ldO 0 3 sc3 rfl rfl hx12 rfl rfl)) (qc rfl rfl (s_u (o_mv rfl)) (qc rfl rfl (s_u (o_nc rfl)) (qc rfl rfl (s_u (o_fa fa111_1 rfl)) (qc rfl rfl (s_u (o_ld 1 sc109 rfl rfl rfl)) (qc rfl rfl (s_u (o_mv rfl)) (qc rfl rfl (s_u (o_mv rfl)) (qc rfl rfl (s_u (o_mv rfl)) (qc rfl rfl (s_u (o_ixO 0 Try.underlying109 (fun _ => by kernel_rfl) rfl rfl rfl hx14)) (qc rfl rfl (s_u (o_fa fa113_2 rfl)) qn))))))))))))))))) ?_ (fun h => absurd h (by decide))
  refine ec (eo_u rfl (s_u (o_stO (c' := (⟨x14.key, x14.list, a1, x14.next⟩ : ring_slot)) 2 sc3 rfl rfl rfl hx14 rfl rfl rfl)) (Le.refl _) ?_) en
  refine stage_ext [(18, pt (sb g0_.slots) (so g0_.slots + a2.toNat * 4)), (19, pt (sb g0_.slots) (so g0_.slots + a2.toNat * 4 + 3))] rfl ?_
  refine stage rfl rfl rfl rfl [0, 1, 3, 7, 0, 16, 48, 112, 0, 256, 768, 1792, 0, 0, 0, 12287, 45055, 110591, 262143, 524287, 1048575] [12, 14, 18, 19] [20] rfl rfl rfl (qc rfl rfl (s_u (o_mv rfl)) (qc rfl rfl (s_u (o_mv rfl)) (qc rfl rfl (s_u (o_ixO 0 Try.underlying109 (fun _ => by kernel_rfl) rfl rfl rfl hx16)) (qc rfl rfl (s_u (o_fa fa113_3 rfl)) qn)))) ?_ (fun h => absurd h (by decide))
  refine ec (eo_u rfl (s_u (o_stO (c' := (⟨x16.key, x16.list, x16.prev, a1⟩ : ring_slot)) 3 sc3 rfl rfl rfl hx16 rfl rfl rfl)) (Le.refl _) ?_) en
  refine stage rfl rfl rfl rfl [0, 1, 3, 7, 0, 16, 48, 112, 0, 256, 768, 1792, 0, 0, 0, 12287, 45055, 110591, 262143, 524287, 1048575] [] [] rfl rfl rfl qn en ?_
  intro _
  refine ex_sub (E' := [(0, pt b0_ 0), (2, vI a2)]) ⟨rfl, rfl, trivial⟩ ?_
  refine x_seq ?_
  refine c_reg ?_
  refine r_u (o_mv rfl) ?_
  refine r_u (o_nc rfl) ?_
  refine r_u (o_fa fa111_4 rfl) ?_
  refine r_u (o_ld 1 sc74 rfl rfl rfl) ?_
  refine r_u (o_mv rfl) ?_
  obtain ⟨x18, hx18, hm19⟩ := bs hm17
  clear hm17
  refine r_u (o_ixO 4 Try.underlying74 (fun _ => by kernel_rfl) rfl rfl rfl hx18) ?_
  refine r_u (o_ldO0 4 sc3 rfl rfl hx18 rfl rfl) ?_
  refine r_u (o_bin rfl rfl (bI_add x18 1)) ?_
  refine r_u (o_ixO 4 Try.underlying74 (fun _ => by kernel_rfl) rfl rfl rfl hx18) ?_
  refine rl_st (fun _ h => st_pk 5 [4, 0, 1, 2, 3] (by decide) h) ?_
  refine r_u0 (o_stO0 (c' := i64 (x18 + 1)) sc3 rfl rfl rfl hx18 rfl rfl rfl) ?_
  refine r_nil ?_
  refine x_end ?_
  obtain rfl := Option.some.inj hm19
  refine ex_st (fun _ h => st_pk 5 [2, 1, 3, 4, 0] (by decide) h) ?_
  exact x_r0 rfl (Le.refl _) ⟨_, rfl, rfl, rfl, rfl⟩

end Go.Proofs.Ytlahbmoebbflbaa
