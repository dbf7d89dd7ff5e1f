import Derived.Test.YthngfieikhillaaW1
import Derived.Test.YthngfieikhillaaFacts
import Derived.Test.YthngfieikhillaaHwT
set_option linter.unusedVariables false
set_option linter.unusedSectionVars false
set_option linter.unusedSimpArgs false
set_option maxRecDepth 100000
set_option maxHeartbeats 8000000
namespace Go.Proofs.Ythngfieikhillaa
open Go Go.Proofs.Ythngfieikhillaa.Hw
def bits_Mul64 (a0 : UInt64) (a1 : UInt64) : UInt64 × UInt64 :=
  ((((shWr a0 ((32 : UInt64).toNat : Int)) * (shWr a1 ((32 : UInt64).toNat : Int))) + (shWr (((shWr a0 ((32 : UInt64).toNat : Int)) * (a1 &&& 4294967295)) + (shWr ((a0 &&& 4294967295) * (a1 &&& 4294967295)) ((32 : UInt64).toNat : Int))) ((32 : UInt64).toNat : Int))) + (shWr (((((shWr a0 ((32 : UInt64).toNat : Int)) * (a1 &&& 4294967295)) + (shWr ((a0 &&& 4294967295) * (a1 &&& 4294967295)) ((32 : UInt64).toNat : Int))) &&& 4294967295) + ((a0 &&& 4294967295) * (shWr a1 ((32 : UInt64).toNat : Int)))) ((32 : UInt64).toNat : Int)), a0 * a1)
theorem bits_Mul64.ok {G R F} (a0 : UInt64) (a1 : UInt64) (r : UInt64 × UInt64) (hm : bits_Mul64 a0 a1 = r) : CO Try.prog 132 [vW a0, vW a1] G R (F)
    (Ret fun u R' L' => u = .tuple #[vW r.1, vW r.2] ∧ R' = R ∧ L' = F) := by
  unfold bits_Mul64 at hm
  refine co_ofN (N := 51) Try.func132 rfl rfl ?_
  refine c_seq ?_
  refine c_reg ?_
  refine r_u (o_as rfl) ?_
  refine r_u (o_as rfl) ?_
  refine r_nil ?_
  refine x_seq ?_
  refine c_seq ?_
  refine c_reg ?_
  refine r_u (o_mv rfl) ?_
  refine r_u (o_bin rfl rfl (bW_and a0 4294967295)) ?_
  refine r_u (o_as rfl) ?_
  refine r_nil ?_
  refine x_seq ?_
  refine c_seq ?_
  refine c_reg ?_
  refine r_u (o_mv rfl) ?_
  refine r_u (o_bin rfl rfl (bWW_shr a0 32)) ?_
  refine r_u (o_as rfl) ?_
  refine r_nil ?_
  refine x_seq ?_
  refine c_seq ?_
  refine c_reg ?_
  refine r_u (o_mv rfl) ?_
  refine r_u (o_bin rfl rfl (bW_and a1 4294967295)) ?_
  refine r_u (o_as rfl) ?_
  refine r_nil ?_
  refine x_seq ?_
  refine c_seq ?_
  refine c_reg ?_
  refine r_u (o_mv rfl) ?_
  refine r_u (o_bin rfl rfl (bWW_shr a1 32)) ?_
  refine r_u (o_as rfl) ?_
  refine r_nil ?_
  refine x_seq ?_
  refine c_seq ?_
  refine c_reg ?_
  refine r_u (o_mv rfl) ?_
  refine r_u (o_mv rfl) ?_
  refine r_u (o_bin rfl rfl (bW_mul (a0 &&& 4294967295) (a1 &&& 4294967295))) ?_
  refine r_u (o_as rfl) ?_
  refine r_nil ?_
  refine x_seq ?_
  refine c_seq ?_
  refine c_reg ?_
  refine r_u (o_mv rfl) ?_
  refine r_u (o_mv rfl) ?_
  refine r_u (o_bin rfl rfl (bW_mul (shWr a0 ((32 : UInt64).toNat : Int)) (a1 &&& 4294967295))) ?_
  refine r_u (o_mv rfl) ?_
  refine r_u (o_bin rfl rfl (bWW_shr ((a0 &&& 4294967295) * (a1 &&& 4294967295)) 32)) ?_
  refine r_u (o_bin rfl rfl (bW_add ((shWr a0 ((32 : UInt64).toNat : Int)) * (a1 &&& 4294967295)) (shWr ((a0 &&& 4294967295) * (a1 &&& 4294967295)) ((32 : UInt64).toNat : Int)))) ?_
  refine r_u (o_as rfl) ?_
  refine r_nil ?_
  refine x_seq ?_
  refine c_seq ?_
  refine c_reg ?_
  refine r_u (o_mv rfl) ?_
  refine r_u (o_bin rfl rfl (bW_and (((shWr a0 ((32 : UInt64).toNat : Int)) * (a1 &&& 4294967295)) + (shWr ((a0 &&& 4294967295) * (a1 &&& 4294967295)) ((32 : UInt64).toNat : Int))) 4294967295)) ?_
  refine r_u (o_as rfl) ?_
  refine r_nil ?_
  refine x_seq ?_
  refine c_seq ?_
  refine c_reg ?_
  refine r_u (o_mv rfl) ?_
  refine r_u (o_bin rfl rfl (bWW_shr (((shWr a0 ((32 : UInt64).toNat : Int)) * (a1 &&& 4294967295)) + (shWr ((a0 &&& 4294967295) * (a1 &&& 4294967295)) ((32 : UInt64).toNat : Int))) 32)) ?_
  refine r_u (o_as rfl) ?_
  refine r_nil ?_
  refine x_seq ?_
  refine c_seq ?_
  refine c_reg ?_
  refine r_u (o_mv rfl) ?_
  refine r_u (o_mv rfl) ?_
  refine r_u (o_mv rfl) ?_
  refine r_u (o_bin rfl rfl (bW_mul (a0 &&& 4294967295) (shWr a1 ((32 : UInt64).toNat : Int)))) ?_
  refine r_u (o_bin rfl rfl (bW_add ((((shWr a0 ((32 : UInt64).toNat : Int)) * (a1 &&& 4294967295)) + (shWr ((a0 &&& 4294967295) * (a1 &&& 4294967295)) ((32 : UInt64).toNat : Int))) &&& 4294967295) ((a0 &&& 4294967295) * (shWr a1 ((32 : UInt64).toNat : Int))))) ?_
  refine r_u (o_as rfl) ?_
  refine r_nil ?_
  refine x_seq ?_
  refine c_seq ?_
  refine c_reg ?_
  refine r_u (o_mv rfl) ?_
  refine r_u (o_mv rfl) ?_
  refine r_u (o_bin rfl rfl (bW_mul (shWr a0 ((32 : UInt64).toNat : Int)) (shWr a1 ((32 : UInt64).toNat : Int)))) ?_
  refine r_u (o_mv rfl) ?_
  refine r_u (o_bin rfl rfl (bW_add ((shWr a0 ((32 : UInt64).toNat : Int)) * (shWr a1 ((32 : UInt64).toNat : Int))) (shWr (((shWr a0 ((32 : UInt64).toNat : Int)) * (a1 &&& 4294967295)) + (shWr ((a0 &&& 4294967295) * (a1 &&& 4294967295)) ((32 : UInt64).toNat : Int))) ((32 : UInt64).toNat : Int)))) ?_
  refine r_u (o_mv rfl) ?_
  refine r_u (o_bin rfl rfl (bWW_shr (((((shWr a0 ((32 : UInt64).toNat : Int)) * (a1 &&& 4294967295)) + (shWr ((a0 &&& 4294967295) * (a1 &&& 4294967295)) ((32 : UInt64).toNat : Int))) &&& 4294967295) + ((a0 &&& 4294967295) * (shWr a1 ((32 : UInt64).toNat : Int)))) 32)) ?_
  refine r_u (o_bin rfl rfl (bW_add (((shWr a0 ((32 : UInt64).toNat : Int)) * (shWr a1 ((32 : UInt64).toNat : Int))) + (shWr (((shWr a0 ((32 : UInt64).toNat : Int)) * (a1 &&& 4294967295)) + (shWr ((a0 &&& 4294967295) * (a1 &&& 4294967295)) ((32 : UInt64).toNat : Int))) ((32 : UInt64).toNat : Int))) (shWr (((((shWr a0 ((32 : UInt64).toNat : Int)) * (a1 &&& 4294967295)) + (shWr ((a0 &&& 4294967295) * (a1 &&& 4294967295)) ((32 : UInt64).toNat : Int))) &&& 4294967295) + ((a0 &&& 4294967295) * (shWr a1 ((32 : UInt64).toNat : Int)))) ((32 : UInt64).toNat : Int)))) ?_
  refine r_u (o_as rfl) ?_
  refine r_nil ?_
  refine x_seq ?_
  refine c_seq ?_
  refine c_reg ?_
  refine r_u (o_mv rfl) ?_
  refine r_u (o_mv rfl) ?_
  refine r_u (o_bin rfl rfl (bW_mul a0 a1)) ?_
  refine r_u (o_as rfl) ?_
  refine r_nil ?_
  refine x_seq ?_
  refine c_ret ?_
  subst hm
  exact x_r2 rfl (rv_t rfl) (rv_t rfl) (Le.refl _) ⟨_, rfl, rfl, rfl, rfl⟩

def mix_Place (a0 : UInt64) (a1 : Int) (a2 : Int) : Int :=
  if decide (a2 < 1) then 0 else lt (bits_Mul64 (mix_Mix (a0 + ((toW a1) * 11400714819323198485))) (toW a2)) fun r2 => i64 (r2.1.toNat : Int)
theorem mix_Place.ok {G R F} (a0 : UInt64) (a1 : Int) (a2 : Int) (r : Int) (hm : mix_Place a0 a1 a2 = r) : CO Try.prog 128 [vW a0, vI a1, vI a2] G R (F)
    (Ret fun u R' L' => u = vI r ∧ R' = R ∧ L' = F) := by
  unfold mix_Place at hm
  refine co_ofN (N := 25) Try.func128 rfl rfl ?_
  refine c_seq ?_
  refine c_reg ?_
  refine r_u (o_as rfl) ?_
  refine r_nil ?_
  refine x_seq ?_
  refine c_seq ?_
  refine c_seq ?_
  refine c_reg ?_
  refine r_u (o_mv rfl) ?_
  refine r_u (o_bin rfl rfl (bI_lt a2 1)) ?_
  refine r_nil ?_
  refine x_seq ?_
  refine c_if (b := decide (a2 < 1)) rfl (fun h0 => ?_) fun h0 => ?_
  · have hm1 := ift hm h0
    refine c_seq ?_
    refine c_reg ?_
    refine r_u (o_as rfl) ?_
    refine r_nil ?_
    refine x_seq ?_
    refine c_ret ?_
    subst hm1
    exact x_r1 rfl (rv_t rfl) (Le.refl _) ⟨_, rfl, rfl, rfl, rfl⟩
  · have hm1 := iff_ hm h0
    refine c_skip ?_
    refine x_seq ?_
    refine c_seq ?_
    refine c_reg ?_
    refine r_u (o_mv rfl) ?_
    refine r_u (o_mv rfl) ?_
    refine r_u (o_cv rfl (cIW Try.underlying3 Try.underlying22 a1)) ?_
    refine r_u (o_bin rfl rfl (bW_mul (toW a1) 11400714819323198485)) ?_
    refine r_u (o_bin rfl rfl (bW_add a0 ((toW a1) * 11400714819323198485))) ?_
    refine r_u (o_callq ca133 rfl (mix_Mix.ok (a0 + ((toW a1) * 11400714819323198485)) _ rfl)) ?_
    refine r_u (o_mv rfl) ?_
    refine r_u (o_cv rfl (cIW Try.underlying3 Try.underlying22 a2)) ?_
    obtain ⟨r2, hr2, hm3⟩ := ltx hm1
    refine r_u (o_callq ca132 rfl (bits_Mul64.ok (mix_Mix (a0 + ((toW a1) * 11400714819323198485))) (toW a2) r2 hr2)) ?_
    refine r_u (o_mv rfl) ?_
    refine r_u (o_ext rfl rfl) ?_
    refine r_u (o_ext rfl rfl) ?_
    refine r_u (o_as rfl) ?_
    refine r_u (o_as rfl) ?_
    refine r_nil ?_
    refine x_seq ?_
    refine c_seq ?_
    refine c_reg ?_
    refine r_u (o_mv rfl) ?_
    refine r_u (o_cv rfl (cWI Try.underlying22 Try.underlying3 r2.1)) ?_
    refine r_u (o_as rfl) ?_
    refine r_nil ?_
    refine x_seq ?_
    refine c_ret ?_
    subst hm3
    exact x_r1 rfl (rv_t rfl) (Le.refl _) ⟨_, rfl, rfl, rfl, rfl⟩

def sketch_Sketch_place (a0 : sketch_Sketch) (a1 : Str) (a2 : Int) : Option Int :=
  (mix_Of a0.seed a1).bind fun r2 => some (mix_Place r2 a2 a0.wide)
theorem sketch_Sketch_place.ok {G R F} (b0_ : Nat) (a0 : sketch_Sketch) (g0_ : sketch_Sketch.G) (a1 : Str) (a2 : Int) (r : Int) (hm : sketch_Sketch_place a0 a1 a2 = some r) : CO Try.prog 120 [pt b0_ 0, vS a1, vI a2] G R (Bk b0_ 175 [vI a0.wide, vW a0.seed, g0_.rows.1, g0_.rows.2.1, g0_.rows.2.2.1, g0_.rows.2.2.2, g0_.door, vI a0.added] :: OwL (OwS false 5 1 eY) [g0_.rows.1, g0_.rows.2.1, g0_.rows.2.2.1, g0_.rows.2.2.2] a0.rows :: OwS true 4 1 eB g0_.door a0.door :: F)
    (Ret fun u R' L' => u = vI r ∧ R' = R ∧ L' = Bk b0_ 175 [vI a0.wide, vW a0.seed, g0_.rows.1, g0_.rows.2.1, g0_.rows.2.2.1, g0_.rows.2.2.2, g0_.door, vI a0.added] :: OwL (OwS false 5 1 eY) [g0_.rows.1, g0_.rows.2.1, g0_.rows.2.2.1, g0_.rows.2.2.2] a0.rows :: OwS true 4 1 eB g0_.door a0.door :: F) := by
  unfold sketch_Sketch_place at hm
  refine co_ofN (N := 19) Try.func120 rfl rfl ?_
  refine c_seq ?_
  refine c_reg ?_
  refine r_u (o_as rfl) ?_
  refine r_nil ?_
  refine x_seq ?_
  refine c_seq ?_
  obtain ⟨r2, hr2, hm3⟩ := bs hm
  refine c_any mixed (effs := []) (V := []) ?_
  refine stage_ext [(0, pt b0_ 0), (1, pt b0_ 0), (2, pt b0_ 1), (3, vW a0.seed), (4, vS a1), (5, vW r2), (6, vI a2), (7, pt b0_ 0), (8, pt b0_ 0), (9, pt b0_ 0), (10, vI a0.wide), (11, vI (mix_Place r2 a2 a0.wide)), (12, vI (mix_Place r2 a2 a0.wide))] rfl ?_
  refine stage rfl rfl rfl rfl [0, 1, 3, 7, 0, 31, 0, 0, 128, 384, 896, 2047, 4095] [0, 1, 2, 3, 4, 5, 6, 7, 8, 9, 10, 11, 12] [] rfl rfl rfl (qc rfl rfl (s_u (o_mv rfl)) (qc rfl rfl (s_u (o_nc rfl)) (qc rfl rfl (s_u (o_fa fa175_1 rfl)) (qc rfl rfl (s_u (o_ld 0 sc22 rfl rfl rfl)) (qc rfl rfl (s_u (o_mv rfl)) (qc rfl rfl (s_u (o_callq ca129 rfl (mix_Of.ok a0.seed a1 r2 hr2))) (qc rfl rfl (s_u (o_mv rfl)) (qc rfl rfl (s_u (o_mv rfl)) (qc rfl rfl (s_u (o_nc rfl)) (qc rfl rfl (s_u (o_fa fa175_0 rfl)) (qc rfl rfl (s_u (o_ld 0 sc3 rfl rfl rfl)) (qc rfl rfl (s_u (o_callq ca128 rfl (mix_Place.ok r2 a2 a0.wide _ rfl))) (qc rfl rfl (s_u (o_as rfl)) qn))))))))))))) en ?_
  intro _
  refine ex_sub (E' := [(6, vI (mix_Place r2 a2 a0.wide))]) ⟨rfl, trivial⟩ ?_
  refine x_seq ?_
  refine c_ret ?_
  obtain rfl := Option.some.inj hm3
  exact x_r1 rfl (rv_t rfl) (Le.refl _) ⟨_, rfl, rfl, rfl, rfl⟩

def sketch_Sketch_least_l1 (a0 : sketch_Sketch) (a1 : Str) : Nat → UInt8 → Int → Option (UInt8)
  | 0, _, _ => none
  | k8 + 1, n_6, s_7 => if decide (s_7 < 4) then (gi a0.rows s_7).bind fun y13 => (sketch_Sketch_place a0 a1 s_7).bind fun r16 => (gi y13 r16).bind fun x18 => sketch_Sketch_least_l1 a0 a1 k8 (if x18 < n_6 then x18 else n_6) (i64 (s_7 + 1)) else some n_6
def sketch_Sketch_least (a0 : sketch_Sketch) (a1 : Str) : Option UInt8 :=
  Option.bind (sketch_Sketch_least_l1 a0 a1 5 15 0) fun p2 => some p2
theorem sketch_Sketch_least.ok {G R F} (b0_ : Nat) (a0 : sketch_Sketch) (g0_ : sketch_Sketch.G) (a1 : Str) (r : UInt8) (hm : sketch_Sketch_least a0 a1 = some r) : CO Try.prog 121 [pt b0_ 0, vS a1] G R (Bk b0_ 175 [vI a0.wide, vW a0.seed, g0_.rows.1, g0_.rows.2.1, g0_.rows.2.2.1, g0_.rows.2.2.2, g0_.door, vI a0.added] :: OwL (OwS false 5 1 eY) [g0_.rows.1, g0_.rows.2.1, g0_.rows.2.2.1, g0_.rows.2.2.2] a0.rows :: OwS true 4 1 eB g0_.door a0.door :: F)
    (Ret fun u R' L' => u = vY r ∧ R' = R ∧ L' = Bk b0_ 175 [vI a0.wide, vW a0.seed, g0_.rows.1, g0_.rows.2.1, g0_.rows.2.2.1, g0_.rows.2.2.2, g0_.door, vI a0.added] :: OwL (OwS false 5 1 eY) [g0_.rows.1, g0_.rows.2.1, g0_.rows.2.2.1, g0_.rows.2.2.2] a0.rows :: OwS true 4 1 eB g0_.door a0.door :: F) := by
  unfold sketch_Sketch_least at hm
  refine co_ofN (N := 26) Try.func121 rfl rfl ?_
  refine c_seq ?_
  refine c_reg ?_
  refine r_u (o_as rfl) ?_
  refine r_nil ?_
  refine x_seq ?_
  refine c_seq ?_
  refine c_reg ?_
  refine r_u (o_as rfl) ?_
  refine r_nil ?_
  refine x_seq ?_
  refine c_seq ?_
  refine c_seq ?_
  refine c_reg ?_
  refine r_u (o_mv rfl) ?_
  refine r_nil ?_
  refine x_seq ?_
  obtain ⟨p2, hp3, hm4⟩ := bs hm
  refine cd_join (E' := [(5, vY p2)]) (L' := Bk b0_ 175 [vI a0.wide, vW a0.seed, g0_.rows.1, g0_.rows.2.1, g0_.rows.2.2.1, g0_.rows.2.2.2, g0_.door, vI a0.added] :: OwL (OwS false 5 1 eY) [g0_.rows.1, g0_.rows.2.1, g0_.rows.2.2.1, g0_.rows.2.2.2] a0.rows :: OwS true 4 1 eB g0_.door a0.door :: F) ?_ fun K5 => ?_
  · refine x_seq ?_
    refine c_seq ?_
    refine c_reg ?_
    refine r_u (o_mv rfl) ?_
    refine r_u (o_as rfl) ?_
    refine r_nil ?_
    refine x_seq ?_
    refine c_ret ?_
    obtain rfl := Option.some.inj hm4
    exact x_r1 rfl (rv_t rfl) (Le.refl _) ⟨_, rfl, rfl, rfl, rfl⟩
  · refine c_blk ?_
    refine cd_loop (M := fun k8 (s : UInt8 × Int) => sketch_Sketch_least_l1 a0 a1 k8 s.1 s.2 = some p2) (Ef := fun (s : UInt8 × Int) => [(0, pt b0_ 0), (1, vS a1), (5, vY s.1), (7, vI s.2)]) (Lf := fun (s : UInt8 × Int) => Bk b0_ 175 [vI a0.wide, vW a0.seed, g0_.rows.1, g0_.rows.2.1, g0_.rows.2.2.1, g0_.rows.2.2.2, g0_.door, vI a0.added] :: OwL (OwS false 5 1 eY) [g0_.rows.1, g0_.rows.2.1, g0_.rows.2.2.1, g0_.rows.2.2.2] a0.rows :: OwS true 4 1 eB g0_.door a0.door :: F) 5 (15, 0) hp3 ⟨rfl, rfl, rfl, rfl, trivial⟩ (fun _ h => h) (fun _ h => by cases h) fun k8 s hM10 => ?_
    obtain ⟨n_6, s_7⟩ := s
    have hm9 : sketch_Sketch_least_l1 a0 a1 (k8 + 1) n_6 s_7 = some p2 := hM10
    rw [sketch_Sketch_least_l1] at hm9
    refine c_seq ?_
    refine c_reg ?_
    refine r_u (o_bin rfl rfl (bI_lt s_7 4)) ?_
    refine r_nil ?_
    refine x_seq ?_
    refine c_seq ?_
    refine c_if (b := decide (s_7 < 4)) rfl (fun h11 => ?_) fun h11 => ?_
    · have hm12 := ift hm9 h11
      refine c_skip ?_
      refine x_seq ?_
      refine c_seq ?_
      refine c_blk ?_
      refine c_seq ?_
      refine c_reg ?_
      refine r_u (o_mv rfl) ?_
      refine r_u (o_as rfl) ?_
      refine r_nil ?_
      refine x_seq ?_
      obtain ⟨y13, hy13, hm15⟩ := bs hm12
      refine cd_ex (fun w h => st_peek 1 hy13 rfl w h) fun u14 hu14 => ?_
      obtain ⟨r16, hr16, hm17⟩ := bs hm15
      obtain ⟨x18, hx18, hm19⟩ := bs hm17
      refine c_any mixed (effs := [10]) (V := []) ?_
      refine stage_ext [(0, vY n_6), (1, pt b0_ 0), (2, vI s_7), (3, pt b0_ 0), (4, pt b0_ 2), (5, pt b0_ (2 + s_7.toNat * 1)), (6, u14), (7, pt b0_ 0), (8, vS a1), (9, vI s_7)] rfl ?_
      refine stage rfl rfl rfl rfl [0, 0, 0, 2, 10, 30, 62, 0, 0, 0, 896, 2046, 4094, 8191, 16383] [0, 1, 2, 3, 4, 5, 6, 7, 8, 9] [10] rfl rfl rfl (qc rfl rfl (s_u (o_mv rfl)) (qc rfl rfl (s_u (o_mv rfl)) (qc rfl rfl (s_u (o_mv rfl)) (qc rfl rfl (s_u (o_nc rfl)) (qc rfl rfl (s_u (o_fa fa175_2 rfl)) (qc rfl rfl (s_u (o_ixA (sz := 1) Try.underlying172 (fun _ => by kernel_rfl) rfl rfl (gi_some hu14).1)) (qc rfl rfl (s_u (o_ldA (o := 2) (n := 4) 0 sc45 rfl rfl hu14)) (qc rfl rfl (s_u (o_mv rfl)) (qc rfl rfl (s_u (o_mv rfl)) (qc rfl rfl (s_u (o_mv rfl)) qn)))))))))) ?_ (fun h => absurd h (by decide))
      refine ec (eo_c rfl (s_w (o_call ca120 rfl (sketch_Sketch_place.ok b0_ a0 g0_ a1 s_7 r16 hr16))) ?_) en
      refine stage_ext [(11, pt (sb u14) (so u14 + r16.toNat * 1)), (12, vY x18), (13, vY (if x18 < n_6 then x18 else n_6)), (14, vY (if x18 < n_6 then x18 else n_6))] rfl ?_
      refine stage rfl rfl rfl rfl [0, 0, 0, 2, 10, 30, 62, 0, 0, 0, 896, 2046, 4094, 8191, 16383] [0, 1, 2, 3, 4, 5, 6, 11, 12, 13, 14] [] rfl rfl rfl (qc rfl rfl (s_u (o_mv rfl)) (qc rfl rfl (s_u (o_mv rfl)) (qc rfl rfl (s_u (o_mv rfl)) (qc rfl rfl (s_u (o_nc rfl)) (qc rfl rfl (s_u (o_fa fa175_2 rfl)) (qc rfl rfl (s_u (o_ixA (sz := 1) Try.underlying172 (fun _ => by kernel_rfl) rfl rfl (gi_some hu14).1)) (qc rfl rfl (s_u (o_ldA (o := 2) (n := 4) 0 sc45 rfl rfl hu14)) (qc rfl rfl (s_u (o_ixK (kn_in 1 rfl hu14 hy13) Try.underlying45 (fun _ => by kernel_rfl) rfl rfl hx18)) (qc rfl rfl (s_u (o_ldK (kn_in 1 rfl hu14 hy13) 0 sc5 rfl hx18 rfl rfl)) (qc rfl rfl (s_u (o_minY rfl rfl)) (qc rfl rfl (s_u (o_as rfl)) qn))))))))))) en ?_
      intro _
      refine ex_sub (E' := [(0, pt b0_ 0), (1, vS a1), (5, vY (if x18 < n_6 then x18 else n_6)), (7, vI s_7)]) ⟨rfl, rfl, rfl, rfl, trivial⟩ ?_
      refine x_blk ?_
      refine x_seq ?_
      refine c_reg ?_
      refine r_u (o_bin rfl rfl (bI_add s_7 1)) ?_
      refine r_u (o_mv rfl) ?_
      refine r_nil ?_
      exact x_lp ((if x18 < n_6 then x18 else n_6), i64 (s_7 + 1)) hm19 ⟨rfl, rfl, rfl, rfl, trivial⟩ (fun _ h => st_pk 3 [0, 1, 2] (by decide) h)
    · have hm12 := iff_ hm9 h11
      refine c_exit (x_exit (ks' := _) rfl ?_)
      obtain rfl := Option.some.inj hm12
      exact x_sub K5 ⟨rfl, trivial⟩ (fun _ h => st_pk 3 [0, 1, 2] (by decide) h)

def sketch_Sketch_Age_l25 (s_6 : Int) (y17 : List UInt8) : Nat → Int → (List (List UInt8)) → Option (List (List UInt8))
  | 0, _, _ => none
  | k26 + 1, s_24, c_25 => if decide (s_24 < (y17.length : Int)) then (gi c_25 s_6).bind fun y31 => (gi y31 s_24).bind fun x34 => sketch_Sketch_Age_l25 s_6 y17 k26 (i64 (s_24 + 1)) (ls c_25 s_6 (ls y31 s_24 (x34 / 2))) else some c_25
def sketch_Sketch_Age_l21  : Nat → Int → (List (List UInt8)) → Option (List (List UInt8))
  | 0, _, _ => none
  | k8 + 1, s_6, c_7 => if decide (s_6 < 4) then Option.bind ((gi c_7 s_6).bind fun y17 => Option.bind (sketch_Sketch_Age_l25 s_6 y17 (((y17.length : Int) - 0).toNat + 1) 0 c_7) fun p20 => some p20) fun p13 => sketch_Sketch_Age_l21 k8 (i64 (s_6 + 1)) p13 else some c_7
def sketch_Sketch_Age (a0 : sketch_Sketch) : Option sketch_Sketch :=
  Option.bind (sketch_Sketch_Age_l21 5 0 a0.rows) fun p2 => some (⟨a0.wide, a0.seed, p2, List.replicate a0.door.length false, i64 (a0.added.tdiv 2)⟩ : sketch_Sketch)
theorem sketch_Sketch_Age.ok {G R F} (b0_ : Nat) (a0 : sketch_Sketch) (g0_ : sketch_Sketch.G) (r : sketch_Sketch) (hm : sketch_Sketch_Age a0 = some r) : CO Try.prog 122 [pt b0_ 0] G R (Bk b0_ 175 [vI a0.wide, vW a0.seed, g0_.rows.1, g0_.rows.2.1, g0_.rows.2.2.1, g0_.rows.2.2.2, g0_.door, vI a0.added] :: OwL (OwS false 5 1 eY) [g0_.rows.1, g0_.rows.2.1, g0_.rows.2.2.1, g0_.rows.2.2.2] a0.rows :: OwS true 4 1 eB g0_.door a0.door :: F)
    (Ret fun u R' L' => u = .tuple #[] ∧ R' = R ∧ L' = Bk b0_ 175 [vI r.wide, vW r.seed, g0_.rows.1, g0_.rows.2.1, g0_.rows.2.2.1, g0_.rows.2.2.2, g0_.door, vI r.added] :: OwL (OwS false 5 1 eY) [g0_.rows.1, g0_.rows.2.1, g0_.rows.2.2.1, g0_.rows.2.2.2] r.rows :: OwS true 4 1 eB g0_.door r.door :: F) := by
  unfold sketch_Sketch_Age at hm
  refine co_ofN (N := 43) Try.func122 rfl rfl ?_
  refine c_seq ?_
  refine c_seq ?_
  refine c_reg ?_
  refine r_u (o_mv rfl) ?_
  refine r_u (o_bin rfl rfl (bP_eqp Try.underlying134)) ?_
  refine r_nil ?_
  refine x_seq ?_
  refine c_ff rfl ?_
  refine c_skip ?_
  refine x_seq ?_
  refine c_seq ?_
  refine c_seq ?_
  refine c_reg ?_
  refine r_u (o_mv rfl) ?_
  refine r_nil ?_
  refine x_seq ?_
  obtain ⟨p2, hp3, hm4⟩ := bs hm
  refine cd_join (E' := [(0, pt b0_ 0)]) (L' := Bk b0_ 175 [vI a0.wide, vW a0.seed, g0_.rows.1, g0_.rows.2.1, g0_.rows.2.2.1, g0_.rows.2.2.2, g0_.door, vI a0.added] :: OwL (OwS false 5 1 eY) [g0_.rows.1, g0_.rows.2.1, g0_.rows.2.2.1, g0_.rows.2.2.2] p2 :: OwS true 4 1 eB g0_.door a0.door :: F) ?_ fun K5 => ?_
  · refine x_seq ?_
    refine c_seq ?_
    refine c_reg ?_
    refine r_u (o_mv rfl) ?_
    refine r_u (o_nc rfl) ?_
    refine r_u (o_fa fa175_3 rfl) ?_
    refine r_u (o_ld 0 sc173 rfl rfl rfl) ?_
    refine rl_st (fun _ h => st_pk 3 [2, 0, 1] (by decide) h) ?_
    refine r_u0 (o_clr (e := 4) (z1 := false) Try.underlying173 rfl rfl rfl rfl ⟨_, rfl, rfl⟩ rfl rfl) ?_
    refine r_nil ?_
    refine x_seq ?_
    refine c_reg ?_
    refine r_u (o_mv rfl) ?_
    refine r_u (o_nc rfl) ?_
    refine r_u (o_fa fa175_4 rfl) ?_
    refine r_u (o_ld 1 sc3 rfl rfl rfl) ?_
    refine r_u (o_bin rfl rfl (bI_quo a0.added 2 (by decide))) ?_
    refine r_u (o_nc rfl) ?_
    refine r_u (o_fa fa175_4 rfl) ?_
    refine rl_st (fun _ h => st_pk 3 [1, 0, 2] (by decide) h) ?_
    refine r_u0 (o_st sc3 rfl rfl rfl rfl rfl rfl) ?_
    refine r_nil ?_
    refine x_end ?_
    obtain rfl := Option.some.inj hm4
    refine ex_st (fun _ h => st_pk 3 [0, 2, 1] (by decide) h) ?_
    exact x_r0 rfl (Le.refl _) ⟨_, rfl, rfl, rfl, rfl⟩
  · refine c_blk ?_
    refine cd_loop (M := fun k8 (s : Int × List (List UInt8)) => sketch_Sketch_Age_l21 k8 s.1 s.2 = some p2) (Ef := fun (s : Int × List (List UInt8)) => [(0, pt b0_ 0), (6, vI s.1)]) (Lf := fun (s : Int × List (List UInt8)) => Bk b0_ 175 [vI a0.wide, vW a0.seed, g0_.rows.1, g0_.rows.2.1, g0_.rows.2.2.1, g0_.rows.2.2.2, g0_.door, vI a0.added] :: OwL (OwS false 5 1 eY) [g0_.rows.1, g0_.rows.2.1, g0_.rows.2.2.1, g0_.rows.2.2.2] s.2 :: OwS true 4 1 eB g0_.door a0.door :: F) 5 (0, a0.rows) hp3 ⟨rfl, rfl, trivial⟩ (fun _ h => h) (fun _ h => by cases h) fun k8 s hM10 => ?_
    obtain ⟨s_6, c_7⟩ := s
    have hm9 : sketch_Sketch_Age_l21 (k8 + 1) s_6 c_7 = some p2 := hM10
    rw [sketch_Sketch_Age_l21] at hm9
    refine c_seq ?_
    refine c_reg ?_
    refine r_u (o_bin rfl rfl (bI_lt s_6 4)) ?_
    refine r_nil ?_
    refine x_seq ?_
    refine c_seq ?_
    refine c_if (b := decide (s_6 < 4)) rfl (fun h11 => ?_) fun h11 => ?_
    · have hm12 := ift hm9 h11
      refine c_skip ?_
      refine x_seq ?_
      refine c_seq ?_
      obtain ⟨p13, hp14, hm15⟩ := bs hm12
      refine cd_join (E' := [(0, pt b0_ 0), (6, vI s_6)]) (L' := Bk b0_ 175 [vI a0.wide, vW a0.seed, g0_.rows.1, g0_.rows.2.1, g0_.rows.2.2.1, g0_.rows.2.2.2, g0_.door, vI a0.added] :: OwL (OwS false 5 1 eY) [g0_.rows.1, g0_.rows.2.1, g0_.rows.2.2.1, g0_.rows.2.2.2] p13 :: OwS true 4 1 eB g0_.door a0.door :: F) ?_ fun K16 => ?_
      · refine x_seq ?_
        refine c_reg ?_
        refine r_u (o_bin rfl rfl (bI_add s_6 1)) ?_
        refine r_u (o_mv rfl) ?_
        refine r_nil ?_
        exact x_lp (i64 (s_6 + 1), p13) hm15 ⟨rfl, rfl, trivial⟩ (fun _ h => st_pk 3 [0, 1, 2] (by decide) h)
      · refine c_blk ?_
        refine c_seq ?_
        refine c_reg ?_
        refine r_u (o_mv rfl) ?_
        refine r_u (o_as rfl) ?_
        refine r_nil ?_
        refine x_seq ?_
        refine c_seq ?_
        refine c_reg ?_
        refine r_u (o_mv rfl) ?_
        refine r_u (o_mv rfl) ?_
        refine r_u (o_nc rfl) ?_
        refine r_u (o_fa fa175_2 rfl) ?_
        obtain ⟨y17, hy17, hm19⟩ := bs hp14
        refine rl_ex (fun w h => st_peek 1 hy17 rfl w h) fun u18 hu18 => ?_
        refine r_u (o_ixA (sz := 1) Try.underlying172 (fun _ => by kernel_rfl) rfl rfl (gi_some hu18).1) ?_
        refine r_u (o_ldA (o := 2) (n := 4) 0 sc45 rfl rfl hu18) ?_
        refine r_u (o_lenK (kn_in 1 rfl hu18 hy17) Try.underlying45 rfl) ?_
        refine r_u (o_mv rfl) ?_
        refine r_nil ?_
        refine x_seq ?_
        obtain ⟨p20, hp21, hm22⟩ := bs hm19
        refine cd_join (E' := [(0, pt b0_ 0), (6, vI s_6)]) (L' := Bk b0_ 175 [vI a0.wide, vW a0.seed, g0_.rows.1, g0_.rows.2.1, g0_.rows.2.2.1, g0_.rows.2.2.2, g0_.door, vI a0.added] :: OwL (OwS false 5 1 eY) [g0_.rows.1, g0_.rows.2.1, g0_.rows.2.2.1, g0_.rows.2.2.2] p20 :: OwS true 4 1 eB g0_.door a0.door :: F) ?_ fun K23 => ?_
        · refine x_blk ?_
          obtain rfl := Option.some.inj hm22
          exact x_sub K16 ⟨rfl, rfl, trivial⟩ (fun _ h => st_pk 3 [0, 1, 2] (by decide) h)
        · refine c_blk ?_
          refine cd_loop (M := fun k26 (s : Int × List (List UInt8)) => sketch_Sketch_Age_l25 s_6 y17 k26 s.1 s.2 = some p20) (Ef := fun (s : Int × List (List UInt8)) => [(0, pt b0_ 0), (2, vI s_6), (6, vI s_6), (15, vI (y17.length : Int)), (16, vI s.1)]) (Lf := fun (s : Int × List (List UInt8)) => Bk b0_ 175 [vI a0.wide, vW a0.seed, g0_.rows.1, g0_.rows.2.1, g0_.rows.2.2.1, g0_.rows.2.2.2, g0_.door, vI a0.added] :: OwL (OwS false 5 1 eY) [g0_.rows.1, g0_.rows.2.1, g0_.rows.2.2.1, g0_.rows.2.2.2] s.2 :: OwS true 4 1 eB g0_.door a0.door :: F) (((y17.length : Int) - 0).toNat + 1) (0, c_7) hp21 ⟨rfl, rfl, rfl, rfl, rfl, trivial⟩ (fun _ h => h) (fun _ h => by cases h) fun k26 s hM28 => ?_
          obtain ⟨s_24, c_25⟩ := s
          have hm27 : sketch_Sketch_Age_l25 s_6 y17 (k26 + 1) s_24 c_25 = some p20 := hM28
          rw [sketch_Sketch_Age_l25] at hm27
          refine c_seq ?_
          refine c_reg ?_
          refine r_u (o_bin rfl rfl (bI_lt s_24 (y17.length : Int))) ?_
          refine r_nil ?_
          refine x_seq ?_
          refine c_seq ?_
          refine c_if (b := decide (s_24 < (y17.length : Int))) rfl (fun h29 => ?_) fun h29 => ?_
          · have hm30 := ift hm27 h29
            refine c_skip ?_
            refine x_seq ?_
            refine c_seq ?_
            refine c_blk ?_
            refine c_seq ?_
            refine c_reg ?_
            refine r_u (o_mv rfl) ?_
            refine r_u (o_as rfl) ?_
            refine r_nil ?_
            refine x_seq ?_
            refine c_reg ?_
            refine r_u (o_mv rfl) ?_
            refine r_u (o_mv rfl) ?_
            refine r_u (o_nc rfl) ?_
            refine r_u (o_fa fa175_2 rfl) ?_
            obtain ⟨y31, hy31, hm33⟩ := bs hm30
            refine rl_ex (fun w h => st_peek 1 hy31 rfl w h) fun u32 hu32 => ?_
            refine r_u (o_ixA (sz := 1) Try.underlying172 (fun _ => by kernel_rfl) rfl rfl (gi_some hu32).1) ?_
            refine r_u (o_ldA (o := 2) (n := 4) 0 sc45 rfl rfl hu32) ?_
            refine r_u (o_mv rfl) ?_
            obtain ⟨x34, hx34, hm35⟩ := bs hm33
            refine r_u (o_ixK (kn_in 1 rfl hu32 hy31) Try.underlying45 (fun _ => by kernel_rfl) rfl rfl hx34) ?_
            refine r_u (o_ldK (kn_in 1 rfl hu32 hy31) 0 sc5 rfl hx34 rfl rfl) ?_
            refine r_u (o_bin rfl rfl (bY_quo x34 2 (by decide))) ?_
            refine r_u (o_ixK (kn_in 1 rfl hu32 hy31) Try.underlying45 (fun _ => by kernel_rfl) rfl rfl hx34) ?_
            refine rl_st (fun _ h => st_pk 3 [1, 0, 2] (by decide) h) ?_
            refine r_u0 (o_stL (c' := x34 / 2) 0 hu32 hy31 sc5 rfl rfl rfl hx34 rfl rfl rfl) ?_
            refine r_nil ?_
            refine x_blk ?_
            refine x_seq ?_
            refine c_reg ?_
            refine r_u (o_bin rfl rfl (bI_add s_24 1)) ?_
            refine r_u (o_mv rfl) ?_
            refine r_nil ?_
            exact x_lp (i64 (s_24 + 1), ls c_25 s_6 (ls y31 s_24 (x34 / 2))) hm35 ⟨rfl, rfl, rfl, rfl, rfl, trivial⟩ (fun _ h => st_pk 3 [1, 0, 2] (by decide) h)
          · have hm30 := iff_ hm27 h29
            refine c_exit (x_exit (ks' := _) rfl ?_)
            obtain rfl := Option.some.inj hm30
            exact x_sub K23 ⟨rfl, rfl, trivial⟩ (fun _ h => st_pk 3 [0, 1, 2] (by decide) h)
    · have hm12 := iff_ hm9 h11
      refine c_exit (x_exit (ks' := _) rfl ?_)
      obtain rfl := Option.some.inj hm12
      exact x_sub K5 ⟨rfl, trivial⟩ (fun _ h => st_pk 3 [0, 1, 2] (by decide) h)

def sketch_Sketch_Add_l3 (a0 : sketch_Sketch) (a1 : Str) (r16 : UInt8) : Nat → Int → (List (List UInt8)) → Option (List (List UInt8))
  | 0, _, _ => none
  | k24 + 1, s_22, c_23 => if decide (s_22 < 4) then (sketch_Sketch_place (⟨a0.wide, a0.seed, c_23, a0.door, a0.added⟩ : sketch_Sketch) a1 s_22).bind fun r29 => (gi c_23 s_22).bind fun y31 => (gi y31 r29).bind fun x34 => Option.bind (if ((x34 == r16) && decide (r16 < 15)) then some (ls c_23 s_22 (ls y31 r29 (x34 + 1))) else some c_23) fun p36 => sketch_Sketch_Add_l3 a0 a1 r16 k24 (i64 (s_22 + 1)) p36 else some c_23
def sketch_Sketch_Add (a0 : sketch_Sketch) (a1 : Str) : Option sketch_Sketch :=
  (sketch_Sketch_place a0 a1 4).bind fun r2 => (gi a0.door r2).bind fun x4 => Option.bind (if !x4 then some (ls a0.door r2 true, a0.rows) else (sketch_Sketch_least a0 a1).bind fun r16 => Option.bind (sketch_Sketch_Add_l3 a0 a1 r16 5 0 a0.rows) fun p18 => some (a0.door, p18)) fun p6 => if decide ((i64 (10 * a0.wide)) ≤ (i64 (a0.added + 1))) then (sketch_Sketch_Age (⟨a0.wide, a0.seed, p6.2, p6.1, i64 (a0.added + 1)⟩ : sketch_Sketch)).bind fun r12 => some r12 else some (⟨a0.wide, a0.seed, p6.2, p6.1, i64 (a0.added + 1)⟩ : sketch_Sketch)
theorem sketch_Sketch_Add.ok {G R F} (b0_ : Nat) (a0 : sketch_Sketch) (g0_ : sketch_Sketch.G) (a1 : Str) (r : sketch_Sketch) (hm : sketch_Sketch_Add a0 a1 = some r) : CO Try.prog 97 [pt b0_ 0, vS a1] G R (Bk b0_ 175 [vI a0.wide, vW a0.seed, g0_.rows.1, g0_.rows.2.1, g0_.rows.2.2.1, g0_.rows.2.2.2, g0_.door, vI a0.added] :: OwL (OwS false 5 1 eY) [g0_.rows.1, g0_.rows.2.1, g0_.rows.2.2.1, g0_.rows.2.2.2] a0.rows :: OwS true 4 1 eB g0_.door a0.door :: F)
    (Ret fun u R' L' => u = .tuple #[] ∧ R' = R ∧ L' = Bk b0_ 175 [vI r.wide, vW r.seed, g0_.rows.1, g0_.rows.2.1, g0_.rows.2.2.1, g0_.rows.2.2.2, g0_.door, vI r.added] :: OwL (OwS false 5 1 eY) [g0_.rows.1, g0_.rows.2.1, g0_.rows.2.2.1, g0_.rows.2.2.2] r.rows :: OwS true 4 1 eB g0_.door r.door :: F) := by
  unfold sketch_Sketch_Add at hm
  refine co_ofN (N := 83) Try.func97 rfl rfl ?_
  refine c_seq ?_
  refine c_seq ?_
  refine c_reg ?_
  refine r_u (o_mv rfl) ?_
  refine r_u (o_bin rfl rfl (bP_eqp Try.underlying134)) ?_
  refine r_nil ?_
  refine x_seq ?_
  refine c_ff rfl ?_
  refine c_skip ?_
  refine x_seq ?_
  refine c_seq ?_
  refine c_seq ?_
  refine c_reg ?_
  refine r_u (o_mv rfl) ?_
  refine r_u (o_mv rfl) ?_
  obtain ⟨r2, hr2, hm3⟩ := bs hm
  refine r_c (s_w (o_call ca120 rfl (sketch_Sketch_place.ok b0_ a0 g0_ a1 4 r2 hr2))) ?_
  refine r_u (o_as rfl) ?_
  refine r_nil ?_
  refine x_seq ?_
  refine c_seq ?_
  refine c_reg ?_
  refine r_u (o_mv rfl) ?_
  refine r_u (o_nc rfl) ?_
  refine r_u (o_fa fa175_3 rfl) ?_
  refine r_u (o_ld 0 sc173 rfl rfl rfl) ?_
  refine r_u (o_mv rfl) ?_
  obtain ⟨x4, hx4, hm5⟩ := bs hm3
  refine r_u (o_ixO 2 Try.underlying173 (fun _ => by kernel_rfl) rfl rfl rfl hx4) ?_
  refine r_u (o_ldO0 2 sc4 rfl rfl hx4 rfl rfl) ?_
  refine r_u (o_not rfl) ?_
  refine r_nil ?_
  refine x_seq ?_
  obtain ⟨p6, hp7, hm8⟩ := bs hm5
  refine cd_join (E' := [(0, pt b0_ 0)]) (L' := Bk b0_ 175 [vI a0.wide, vW a0.seed, g0_.rows.1, g0_.rows.2.1, g0_.rows.2.2.1, g0_.rows.2.2.2, g0_.door, vI a0.added] :: OwS true 4 1 eB g0_.door p6.1 :: OwL (OwS false 5 1 eY) [g0_.rows.1, g0_.rows.2.1, g0_.rows.2.2.1, g0_.rows.2.2.2] p6.2 :: F) ?_ fun K9 => ?_
  · refine x_seq ?_
    refine c_seq ?_
    refine c_reg ?_
    refine r_u (o_mv rfl) ?_
    refine r_u (o_nc rfl) ?_
    refine r_u (o_fa fa175_4 rfl) ?_
    refine r_u (o_ld 0 sc3 rfl rfl rfl) ?_
    refine r_u (o_bin rfl rfl (bI_add a0.added 1)) ?_
    refine r_u (o_nc rfl) ?_
    refine r_u (o_fa fa175_4 rfl) ?_
    refine r_u0 (o_st sc3 rfl rfl rfl rfl rfl rfl) ?_
    refine r_nil ?_
    refine x_seq ?_
    refine c_seq ?_
    refine c_any mixed (effs := []) (V := []) ?_
    refine stage_ext [(0, pt b0_ 0), (1, pt b0_ 0), (2, pt b0_ 7), (3, vI (i64 (a0.added + 1))), (4, pt b0_ 0), (5, pt b0_ 0), (6, pt b0_ 0), (7, vI a0.wide), (8, vI (i64 (10 * a0.wide))), (9, vB (decide ((i64 (10 * a0.wide)) ≤ (i64 (a0.added + 1)))))] rfl ?_
    refine stage rfl rfl rfl rfl [0, 1, 3, 7, 0, 16, 48, 112, 240, 511] [0, 1, 2, 3, 4, 5, 6, 7, 8, 9] [] rfl rfl rfl (qc rfl rfl (s_u (o_mv rfl)) (qc rfl rfl (s_u (o_nc rfl)) (qc rfl rfl (s_u (o_fa fa175_4 rfl)) (qc rfl rfl (s_u (o_ld 0 sc3 rfl rfl rfl)) (qc rfl rfl (s_u (o_mv rfl)) (qc rfl rfl (s_u (o_nc rfl)) (qc rfl rfl (s_u (o_fa fa175_0 rfl)) (qc rfl rfl (s_u (o_ld 0 sc3 rfl rfl rfl)) (qc rfl rfl (s_u (o_bin rfl rfl (bI_mul 10 a0.wide))) (qc rfl rfl (s_u (o_bin rfl rfl (bI_ge (i64 (a0.added + 1)) (i64 (10 * a0.wide))))) qn)))))))))) en ?_
    intro _
    refine ex_sub (E' := [(0, pt b0_ 0), (80, vB (decide ((i64 (10 * a0.wide)) ≤ (i64 (a0.added + 1)))))]) ⟨rfl, rfl, trivial⟩ ?_
    refine x_seq ?_
    refine c_if (b := decide ((i64 (10 * a0.wide)) ≤ (i64 (a0.added + 1)))) rfl (fun h10 => ?_) fun h10 => ?_
    · have hm11 := ift hm8 h10
      refine c_reg ?_
      refine r_u (o_mv rfl) ?_
      obtain ⟨r12, hr12, hm13⟩ := bs hm11
      refine rl_st (fun _ h => st_pk 3 [0, 2, 1] (by decide) h) ?_
      refine r_c (s_w (o_call ca122 rfl (sketch_Sketch_Age.ok b0_ (⟨a0.wide, a0.seed, p6.2, p6.1, i64 (a0.added + 1)⟩ : sketch_Sketch) g0_ r12 hr12))) ?_
      refine r_nil ?_
      refine x_end ?_
      obtain rfl := Option.some.inj hm13
      exact x_r0 rfl (Le.refl _) ⟨_, rfl, rfl, rfl, rfl⟩
    · have hm11 := iff_ hm8 h10
      refine c_skip ?_
      refine x_end ?_
      obtain rfl := Option.some.inj hm11
      refine ex_st (fun _ h => st_pk 3 [0, 2, 1] (by decide) h) ?_
      exact x_r0 rfl (Le.refl _) ⟨_, rfl, rfl, rfl, rfl⟩
  · refine c_if (b := !x4) rfl (fun h14 => ?_) fun h14 => ?_
    · have hm15 := ift hp7 h14
      refine c_reg ?_
      refine r_u (o_mv rfl) ?_
      refine r_u (o_nc rfl) ?_
      refine r_u (o_fa fa175_3 rfl) ?_
      refine r_u (o_ld 0 sc173 rfl rfl rfl) ?_
      refine r_u (o_mv rfl) ?_
      refine r_u (o_ixO 2 Try.underlying173 (fun _ => by kernel_rfl) rfl rfl rfl hx4) ?_
      refine rl_st (fun _ h => st_pk 3 [2, 0, 1] (by decide) h) ?_
      refine r_u0 (o_stO0 (c' := true) sc4 rfl rfl rfl hx4 rfl rfl rfl) ?_
      refine r_nil ?_
      obtain rfl := Option.some.inj hm15
      exact x_sub K9 ⟨rfl, trivial⟩ (fun _ h => st_pk 3 [1, 0, 2] (by decide) h)
    · have hm15 := iff_ hp7 h14
      refine c_seq ?_
      refine c_reg ?_
      refine r_u (o_mv rfl) ?_
      refine r_u (o_mv rfl) ?_
      obtain ⟨r16, hr16, hm17⟩ := bs hm15
      refine r_c (s_w (o_call ca121 rfl (sketch_Sketch_least.ok b0_ a0 g0_ a1 r16 hr16))) ?_
      refine r_u (o_as rfl) ?_
      refine r_nil ?_
      refine x_seq ?_
      refine c_seq ?_
      refine c_reg ?_
      refine r_u (o_mv rfl) ?_
      refine r_nil ?_
      refine x_seq ?_
      obtain ⟨p18, hp19, hm20⟩ := bs hm17
      refine cd_join (E' := [(0, pt b0_ 0)]) (L' := Bk b0_ 175 [vI a0.wide, vW a0.seed, g0_.rows.1, g0_.rows.2.1, g0_.rows.2.2.1, g0_.rows.2.2.2, g0_.door, vI a0.added] :: OwL (OwS false 5 1 eY) [g0_.rows.1, g0_.rows.2.1, g0_.rows.2.2.1, g0_.rows.2.2.2] p18 :: OwS true 4 1 eB g0_.door a0.door :: F) ?_ fun K21 => ?_
      · obtain rfl := Option.some.inj hm20
        exact x_sub K9 ⟨rfl, trivial⟩ (fun _ h => st_pk 3 [0, 2, 1] (by decide) h)
      · refine c_blk ?_
        refine cd_loop (M := fun k24 (s : Int × List (List UInt8)) => sketch_Sketch_Add_l3 a0 a1 r16 k24 s.1 s.2 = some p18) (Ef := fun (s : Int × List (List UInt8)) => [(0, pt b0_ 0), (1, vS a1), (5, vY r16), (30, vI s.1)]) (Lf := fun (s : Int × List (List UInt8)) => Bk b0_ 175 [vI a0.wide, vW a0.seed, g0_.rows.1, g0_.rows.2.1, g0_.rows.2.2.1, g0_.rows.2.2.2, g0_.door, vI a0.added] :: OwL (OwS false 5 1 eY) [g0_.rows.1, g0_.rows.2.1, g0_.rows.2.2.1, g0_.rows.2.2.2] s.2 :: OwS true 4 1 eB g0_.door a0.door :: F) 5 (0, a0.rows) hp19 ⟨rfl, rfl, rfl, rfl, trivial⟩ (fun _ h => h) (fun _ h => by cases h) fun k24 s hM26 => ?_
        obtain ⟨s_22, c_23⟩ := s
        have hm25 : sketch_Sketch_Add_l3 a0 a1 r16 (k24 + 1) s_22 c_23 = some p18 := hM26
        rw [sketch_Sketch_Add_l3] at hm25
        refine c_seq ?_
        refine c_reg ?_
        refine r_u (o_bin rfl rfl (bI_lt s_22 4)) ?_
        refine r_nil ?_
        refine x_seq ?_
        refine c_seq ?_
        refine c_if (b := decide (s_22 < 4)) rfl (fun h27 => ?_) fun h27 => ?_
        · have hm28 := ift hm25 h27
          refine c_skip ?_
          refine x_seq ?_
          refine c_seq ?_
          refine c_blk ?_
          refine c_seq ?_
          refine c_reg ?_
          refine r_u (o_mv rfl) ?_
          refine r_u (o_as rfl) ?_
          refine r_nil ?_
          refine x_seq ?_
          refine c_seq ?_
          refine c_reg ?_
          refine r_u (o_mv rfl) ?_
          refine r_u (o_mv rfl) ?_
          refine r_u (o_mv rfl) ?_
          obtain ⟨r29, hr29, hm30⟩ := bs hm28
          refine r_c (s_w (o_call ca120 rfl (sketch_Sketch_place.ok b0_ (⟨a0.wide, a0.seed, c_23, a0.door, a0.added⟩ : sketch_Sketch) g0_ a1 s_22 r29 hr29))) ?_
          refine r_u (o_as rfl) ?_
          refine r_nil ?_
          refine x_seq ?_
          refine c_seq ?_
          refine c_reg ?_
          refine r_u (o_mv rfl) ?_
          refine r_u (o_mv rfl) ?_
          refine r_u (o_nc rfl) ?_
          refine r_u (o_fa fa175_2 rfl) ?_
          obtain ⟨y31, hy31, hm33⟩ := bs hm30
          refine rl_ex (fun w h => st_peek 1 hy31 rfl w h) fun u32 hu32 => ?_
          refine r_u (o_ixA (sz := 1) Try.underlying172 (fun _ => by kernel_rfl) rfl rfl (gi_some hu32).1) ?_
          refine r_u (o_ldA (o := 2) (n := 4) 0 sc45 rfl rfl hu32) ?_
          refine r_u (o_mv rfl) ?_
          obtain ⟨x34, hx34, hm35⟩ := bs hm33
          refine r_u (o_ixK (kn_in 1 rfl hu32 hy31) Try.underlying45 (fun _ => by kernel_rfl) rfl rfl hx34) ?_
          refine r_u (o_ldK (kn_in 1 rfl hu32 hy31) 0 sc5 rfl hx34 rfl rfl) ?_
          refine r_u (o_mv rfl) ?_
          refine r_u (o_bin rfl rfl (bY_eq x34 r16)) ?_
          refine r_u (o_mv rfl) ?_
          refine r_s (s_gt rfl rfl fun g => o_mv rfl) ?_
          refine r_s (s_gt rfl rfl fun g => o_bin (evg rfl g) rfl (bY_lt r16 15)) ?_
          refine r_u (o_and rfl rfl) ?_
          refine r_nil ?_
          refine x_seq ?_
          obtain ⟨p36, hp37, hm38⟩ := bs hm35
          refine cd_join (E' := [(0, pt b0_ 0), (1, vS a1), (5, vY r16), (30, vI s_22)]) (L' := Bk b0_ 175 [vI a0.wide, vW a0.seed, g0_.rows.1, g0_.rows.2.1, g0_.rows.2.2.1, g0_.rows.2.2.2, g0_.door, vI a0.added] :: OwL (OwS false 5 1 eY) [g0_.rows.1, g0_.rows.2.1, g0_.rows.2.2.1, g0_.rows.2.2.2] p36 :: OwS true 4 1 eB g0_.door a0.door :: F) ?_ fun K39 => ?_
          · refine x_blk ?_
            refine x_seq ?_
            refine c_reg ?_
            refine r_u (o_bin rfl rfl (bI_add s_22 1)) ?_
            refine r_u (o_mv rfl) ?_
            refine r_nil ?_
            exact x_lp (i64 (s_22 + 1), p36) hm38 ⟨rfl, rfl, rfl, rfl, trivial⟩ (fun _ h => st_pk 3 [0, 1, 2] (by decide) h)
          · refine c_if (b := ((x34 == r16) && decide (r16 < 15))) rfl (fun h40 => ?_) fun h40 => ?_
            · have hm41 := ift hp37 h40
              refine c_reg ?_
              refine r_u (o_mv rfl) ?_
              refine r_u (o_mv rfl) ?_
              refine r_u (o_nc rfl) ?_
              refine r_u (o_fa fa175_2 rfl) ?_
              refine r_u (o_ixA (sz := 1) Try.underlying172 (fun _ => by kernel_rfl) rfl rfl (gi_some hu32).1) ?_
              refine r_u (o_ldA (o := 2) (n := 4) 0 sc45 rfl rfl hu32) ?_
              refine r_u (o_mv rfl) ?_
              refine r_u (o_ixK (kn_in 1 rfl hu32 hy31) Try.underlying45 (fun _ => by kernel_rfl) rfl rfl hx34) ?_
              refine r_u (o_ldK (kn_in 1 rfl hu32 hy31) 0 sc5 rfl hx34 rfl rfl) ?_
              refine r_u (o_bin rfl rfl (bY_add x34 1)) ?_
              refine r_u (o_ixK (kn_in 1 rfl hu32 hy31) Try.underlying45 (fun _ => by kernel_rfl) rfl rfl hx34) ?_
              refine rl_st (fun _ h => st_pk 3 [1, 0, 2] (by decide) h) ?_
              refine r_u0 (o_stL (c' := x34 + 1) 0 hu32 hy31 sc5 rfl rfl rfl hx34 rfl rfl rfl) ?_
              refine r_nil ?_
              obtain rfl := Option.some.inj hm41
              exact x_sub K39 ⟨rfl, rfl, rfl, rfl, trivial⟩ (fun _ h => st_pk 3 [1, 0, 2] (by decide) h)
            · have hm41 := iff_ hp37 h40
              refine c_skip ?_
              obtain rfl := Option.some.inj hm41
              exact x_sub K39 ⟨rfl, rfl, rfl, rfl, trivial⟩ (fun _ h => st_pk 3 [0, 1, 2] (by decide) h)
        · have hm28 := iff_ hm25 h27
          refine c_exit (x_exit (ks' := _) rfl ?_)
          obtain rfl := Option.some.inj hm28
          exact x_sub K21 ⟨rfl, trivial⟩ (fun _ h => st_pk 3 [0, 1, 2] (by decide) h)

def tiny_Parts (a0 : Int) : api_Parts :=
  (⟨(if 1 < (i64 (a0.tdiv 8)) then i64 (a0.tdiv 8) else 1), i64 ((i64 ((i64 (a0 - (if 1 < (i64 (a0.tdiv 8)) then i64 (a0.tdiv 8) else 1))) * 4)).tdiv 5)⟩ : api_Parts)
theorem tiny_Parts.ok {G R F} (a0 : Int) (r : api_Parts) (hm : tiny_Parts a0 = r) : CO Try.prog 106 [vI a0] G R (F)
    (Ret fun u R' L' => u = .agg (api_Parts.c r).toArray ∧ R' = R ∧ L' = F) := by
  unfold tiny_Parts at hm
  refine co_ofN (N := 14) Try.func106 rfl rfl ?_
  refine c_seq ?_
  refine c_reg ?_
  refine r_new (o_al ze149) fun b0 => ?_
  refine r_nil ?_
  refine x_seq ?_
  refine c_seq ?_
  refine c_reg ?_
  refine r_u (o_mv rfl) ?_
  refine r_u (o_bin rfl rfl (bI_quo a0 8 (by decide))) ?_
  refine r_u (o_maxI rfl rfl) ?_
  refine r_u (o_as rfl) ?_
  refine r_nil ?_
  refine x_seq ?_
  refine c_seq ?_
  refine c_reg ?_
  refine r_u (o_mv rfl) ?_
  refine r_u (o_mv rfl) ?_
  refine r_u (o_mv rfl) ?_
  refine r_u (o_bin rfl rfl (bI_sub a0 (if 1 < (i64 (a0.tdiv 8)) then i64 (a0.tdiv 8) else 1))) ?_
  refine r_u (o_bin rfl rfl (bI_mul (i64 (a0 - (if 1 < (i64 (a0.tdiv 8)) then i64 (a0.tdiv 8) else 1))) 4)) ?_
  refine r_u (o_bin rfl rfl (bI_quo (i64 ((i64 (a0 - (if 1 < (i64 (a0.tdiv 8)) then i64 (a0.tdiv 8) else 1))) * 4)) 5 (by decide))) ?_
  refine r_u (o_bld [vI (if 1 < (i64 (a0.tdiv 8)) then i64 (a0.tdiv 8) else 1), vI (i64 ((i64 ((i64 (a0 - (if 1 < (i64 (a0.tdiv 8)) then i64 (a0.tdiv 8) else 1))) * 4)).tdiv 5))] rfl (fun _ => by kernel_rfl)) ?_
  refine r_u0 (o_stn ag149 rfl rfl rfl rfl rfl rfl rfl) ?_
  refine r_nil ?_
  refine x_seq ?_
  refine c_ret ?_
  subst hm
  exact x_d1 rfl (rv_n 0 [vI (if 1 < (i64 (a0.tdiv 8)) then i64 (a0.tdiv 8) else 1), vI (i64 ((i64 ((i64 (a0 - (if 1 < (i64 (a0.tdiv 8)) then i64 (a0.tdiv 8) else 1))) * 4)).tdiv 5))] ag149 rfl rfl rfl rfl) (fun _ h => st_pk 1 [] (by decide) h) (Le.refl _) ⟨_, rfl, rfl, rfl, rfl⟩

def tiny_Tiny_Touch (a0 : tiny_Tiny) (a1 : Str) : Option (Bool × tiny_Tiny) :=
  (tiny_Tiny_Has a0 a1).bind fun r6 => if !r6 then some (false, a0) else om a0.s (none) fun x10 => (sketch_Sketch_Add x10 a1).bind fun r16 => om a0.r (none) fun x18 => (ring_Rings_In x18 a1).bind fun r26 => if (r26.1 == 0) then (ring_Rings_Front x18 0 a1).bind fun r30 => some (r30.1, (⟨a0.most, (some r16), (some r30.2)⟩ : tiny_Tiny)) else (ring_Rings_Front x18 2 a1).bind fun r37 => (ring_Rings_Len r37.2 2).bind fun r44 => if decide (((tiny_Parts a0.most).Protected) < r44) then (ring_Rings_Back r37.2 2).bind fun r48 => (ring_Rings_Front r37.2 1 r48.1).bind fun r50 => some (true, (⟨a0.most, (some r16), (some r50.2)⟩ : tiny_Tiny)) else some (true, (⟨a0.most, (some r16), (some r37.2)⟩ : tiny_Tiny))
theorem tiny_Tiny_Touch.ok {G R F} (b0_ : Nat) (a0 : tiny_Tiny) (g0_ : tiny_Tiny.G) (a1 : Str) (r : Bool × tiny_Tiny) (hm : tiny_Tiny_Touch a0 a1 = some r) : CO Try.prog 63 [pt b0_ 0, vS a1] G R (Bk b0_ 137 [vI a0.most, g0_.s.1, g0_.r.1] :: rO (sketch_Sketch.op g0_.s.2) g0_.s.1 a0.s :: rO (ring_Rings.op g0_.r.2) g0_.r.1 a0.r :: F)
    (Ret fun u R' L' => ∃ (q0 : tiny_Tiny.G), u = vB r.1 ∧ R' = R ∧ L' = Bk b0_ 137 [vI r.2.most, q0.s.1, q0.r.1] :: rO (sketch_Sketch.op q0.s.2) q0.s.1 r.2.s :: rO (ring_Rings.op q0.r.2) q0.r.1 r.2.r :: F) := by
  obtain ⟨⟨pv1, g2⟩, ⟨pv4, g5⟩⟩ := g0_
  unfold tiny_Tiny_Touch at hm
  refine co_ofN (N := 68) Try.func63 rfl rfl ?_
  refine c_seq ?_
  refine c_reg ?_
  refine r_u (o_as rfl) ?_
  refine r_nil ?_
  refine x_seq ?_
  refine c_seq ?_
  refine c_seq ?_
  refine c_reg ?_
  refine r_u (o_mv rfl) ?_
  refine r_u (o_mv rfl) ?_
  obtain ⟨r6, hr6, hm7⟩ := bs hm
  refine r_c (s_w (o_call ca53 rfl (tiny_Tiny_Has.ok b0_ a0 (⟨(pv1, g2), (pv4, g5)⟩ : tiny_Tiny.G) a1 r6 hr6))) ?_
  refine r_u (o_not rfl) ?_
  refine r_nil ?_
  refine x_seq ?_
  refine c_if (b := !r6) rfl (fun h8 => ?_) fun h8 => ?_
  · have hm9 := ift hm7 h8
    refine c_seq ?_
    refine c_reg ?_
    refine r_u (o_as rfl) ?_
    refine r_nil ?_
    refine x_seq ?_
    refine c_ret ?_
    obtain rfl := Option.some.inj hm9
    exact x_r1 rfl (rv_t rfl) (Le.refl _) ⟨_, rfl, (⟨(pv1, g2), (pv4, g5)⟩ : tiny_Tiny.G), rfl, rfl, rfl⟩
  · have hm9 := iff_ hm7 h8
    refine c_skip ?_
    refine x_seq ?_
    refine c_seq ?_
    refine cd_st (fun _ h => st_pk 3 [1, 0, 2] (by decide) h) ?_
    refine cd_opt (fun ho12 => ?_) (fun x10 b11 ho12 => ?_)
    · rintro rfl
      have hm13 := om_n hm9 ho12
      cases hm13
    · rintro rfl
      have hm13 := om_s hm9 ho12
      refine cd_st (fun _ h => st_star_o h) ?_
      refine c_reg ?_
      refine r_u (o_mv rfl) ?_
      refine r_u (o_nc rfl) ?_
      refine r_u (o_fa fa137_1 rfl) ?_
      refine r_u (o_ld 3 sc134 rfl rfl rfl) ?_
      refine r_u (o_mv rfl) ?_
      obtain ⟨r16, hr16, hm17⟩ := bs hm13
      refine r_c (s_w (o_call ca97 rfl (sketch_Sketch_Add.ok b11 x10 g2 a1 r16 hr16))) ?_
      refine r_nil ?_
      refine x_seq ?_
      refine c_seq ?_
      refine cd_st (fun _ h => st_pk 5 [4, 0, 1, 2, 3] (by decide) h) ?_
      refine cd_opt (fun ho20 => ?_) (fun x18 b19 ho20 => ?_)
      · rintro rfl
        have hm21 := om_n hm17 ho20
        cases hm21
      · rintro rfl
        have hm21 := om_s hm17 ho20
        refine cd_st (fun _ h => st_star_o h) ?_
        refine c_reg ?_
        refine r_u (o_mv rfl) ?_
        refine r_u (o_nc rfl) ?_
        refine r_u (o_fa fa137_2 rfl) ?_
        refine r_u (o_ld 8 sc135 rfl rfl rfl) ?_
        refine r_u (o_mv rfl) ?_
        obtain ⟨r26, hr26, hm27⟩ := bs hm21
        refine r_c (s_w (o_call ca96 rfl (ring_Rings_In.ok b19 x18 g5 a1 r26 hr26))) ?_
        refine r_u (o_mv rfl) ?_
        refine r_u (o_ext rfl rfl) ?_
        refine r_u (o_ext rfl rfl) ?_
        refine r_u (o_as rfl) ?_
        refine r_u (o_as rfl) ?_
        refine r_nil ?_
        refine x_seq ?_
        refine c_seq ?_
        refine c_seq ?_
        refine c_reg ?_
        refine r_u (o_mv rfl) ?_
        refine r_u (o_bin rfl rfl (bI_eq r26.1 0)) ?_
        refine r_nil ?_
        refine x_seq ?_
        refine c_if (b := (r26.1 == 0)) rfl (fun h28 => ?_) fun h28 => ?_
        · have hm29 := ift hm27 h28
          refine c_seq ?_
          refine c_reg ?_
          refine r_u (o_mv rfl) ?_
          refine r_u (o_nc rfl) ?_
          refine r_u (o_fa fa137_2 rfl) ?_
          refine r_u (o_ld 8 sc135 rfl rfl rfl) ?_
          refine r_u (o_mv rfl) ?_
          obtain ⟨r30, hr30, hm36⟩ := bs hm29
          refine r_sw (s_w (o_call ca105 rfl (ring_Rings_Front.ok b19 x18 g5 0 a1 r30 hr30))) ?_
          rintro _ R _ _ ⟨g31, rfl, rfl, rfl⟩
          refine r_u (o_as rfl) ?_
          refine r_nil ?_
          refine x_seq ?_
          refine c_ret ?_
          refine ex_st (fun _ h => st_pk 9 [5, 6, 7, 0, 1, 2, 3, 4, 8] (by decide) h) ?_
          refine ex_st (fun _ h => st_some (f := sketch_Sketch.op g2) (a := r16) (st_star_f (A := sketch_Sketch.fl b11 r16 g2) h)) ?_
          refine ex_st (fun _ h => st_pk 7 [1, 2, 3, 4, 5, 0, 6] (by decide) h) ?_
          refine ex_st (fun _ h => st_some (f := ring_Rings.op g31) (a := r30.2) (st_star_f (A := ring_Rings.fl b19 r30.2 g31) h)) ?_
          obtain rfl := Option.some.inj hm36
          refine ex_st (fun _ h => st_pk 3 [2, 1, 0] (by decide) h) ?_
          exact x_r1 rfl (rv_t rfl) (Le.refl _) ⟨_, rfl, (⟨(pt b11 0, g2), (pt b19 0, g31)⟩ : tiny_Tiny.G), rfl, rfl, rfl⟩
        · have hm29 := iff_ hm27 h28
          refine c_skip ?_
          refine x_seq ?_
          refine c_seq ?_
          refine c_reg ?_
          refine r_u (o_mv rfl) ?_
          refine r_u (o_nc rfl) ?_
          refine r_u (o_fa fa137_2 rfl) ?_
          refine r_u (o_ld 8 sc135 rfl rfl rfl) ?_
          refine r_u (o_mv rfl) ?_
          obtain ⟨r37, hr37, hm43⟩ := bs hm29
          refine r_sw (s_w (o_call ca105 rfl (ring_Rings_Front.ok b19 x18 g5 2 a1 r37 hr37))) ?_
          rintro _ R _ _ ⟨g38, rfl, rfl, rfl⟩
          refine r_nil ?_
          refine x_seq ?_
          refine c_seq ?_
          refine c_seq ?_
          obtain ⟨r44, hr44, hm45⟩ := bs hm43
          refine c_any mixed (effs := [4]) (V := []) ?_
          refine stage_ext [(0, pt b0_ 0), (1, pt b0_ 0), (2, pt b0_ 2), (3, pt b19 0), (5, pt b0_ 0), (6, pt b0_ 0), (7, pt b0_ 0), (8, vI a0.most)] rfl ?_
          refine stage rfl rfl rfl rfl [0, 1, 3, 7, 15, 0, 32, 96, 224, 511, 1023, 2047] [0, 1, 2, 3, 5, 6, 7, 8] [4] rfl rfl rfl (qc rfl rfl (s_u (o_mv rfl)) (qc rfl rfl (s_u (o_nc rfl)) (qc rfl rfl (s_u (o_fa fa137_2 rfl)) (qc rfl rfl (s_u (o_ld 8 sc135 rfl rfl rfl)) (qc rfl rfl (s_u (o_mv rfl)) (qc rfl rfl (s_u (o_nc rfl)) (qc rfl rfl (s_u (o_fa fa137_0 rfl)) (qc rfl rfl (s_u (o_ld 8 sc3 rfl rfl rfl)) qn)))))))) ?_ (fun h => absurd h (by decide))
          refine ec (eo_c rfl (s_w (o_call ca104 rfl (ring_Rings_Len.ok b19 r37.2 g38 2 r44 hr44))) ?_) en
          refine stage_ext [(9, .agg (api_Parts.c (tiny_Parts a0.most)).toArray), (10, vI ((tiny_Parts a0.most).Protected)), (11, vB (decide (((tiny_Parts a0.most).Protected) < r44)))] rfl ?_
          refine stage rfl rfl rfl rfl [0, 1, 3, 7, 15, 0, 32, 96, 224, 511, 1023, 2047] [5, 6, 7, 8, 9, 10, 11] [] rfl rfl rfl (qc rfl rfl (s_u (o_mv rfl)) (qc rfl rfl (s_u (o_nc rfl)) (qc rfl rfl (s_u (o_fa fa137_0 rfl)) (qc rfl rfl (s_u (o_ld 8 sc3 rfl rfl rfl)) (qc rfl rfl (s_u (o_callq ca106 rfl (tiny_Parts.ok a0.most _ rfl))) (qc rfl rfl (s_u (o_fd (v := vI ((tiny_Parts a0.most).Protected)) rfl (fun _ => by kernel_rfl))) (qc rfl rfl (s_u (o_bin rfl rfl (bI_gt r44 ((tiny_Parts a0.most).Protected)))) qn))))))) en ?_
          intro _
          refine ex_sub (E' := [(0, pt b0_ 0), (53, vB (decide (((tiny_Parts a0.most).Protected) < r44)))]) ⟨rfl, rfl, trivial⟩ ?_
          refine x_seq ?_
          refine c_if (b := decide (((tiny_Parts a0.most).Protected) < r44)) rfl (fun h46 => ?_) fun h46 => ?_
          · have hm47 := ift hm45 h46
            refine c_seq ?_
            refine c_reg ?_
            refine r_u (o_mv rfl) ?_
            refine r_u (o_nc rfl) ?_
            refine r_u (o_fa fa137_2 rfl) ?_
            refine r_u (o_ld 8 sc135 rfl rfl rfl) ?_
            obtain ⟨r48, hr48, hm49⟩ := bs hm47
            refine r_c (s_w (o_call ca99 rfl (ring_Rings_Back.ok b19 r37.2 g38 2 r48 hr48))) ?_
            refine r_u (o_mv rfl) ?_
            refine r_u (o_ext rfl rfl) ?_
            refine r_u (o_ext rfl rfl) ?_
            refine r_u (o_as rfl) ?_
            refine r_u (o_as rfl) ?_
            refine r_nil ?_
            refine x_seq ?_
            refine c_reg ?_
            refine r_u (o_mv rfl) ?_
            refine r_u (o_nc rfl) ?_
            refine r_u (o_fa fa137_2 rfl) ?_
            refine r_u (o_ld 8 sc135 rfl rfl rfl) ?_
            refine r_u (o_mv rfl) ?_
            obtain ⟨r50, hr50, hm56⟩ := bs hm49
            refine r_sw (s_w (o_call ca105 rfl (ring_Rings_Front.ok b19 r37.2 g38 1 r48.1 r50 hr50))) ?_
            rintro _ R _ _ ⟨g51, rfl, rfl, rfl⟩
            refine r_nil ?_
            refine x_seq ?_
            refine c_seq ?_
            refine c_reg ?_
            refine r_u (o_as rfl) ?_
            refine r_nil ?_
            refine x_seq ?_
            refine c_ret ?_
            refine ex_st (fun _ h => st_pk 9 [5, 6, 7, 0, 1, 2, 3, 4, 8] (by decide) h) ?_
            refine ex_st (fun _ h => st_some (f := sketch_Sketch.op g2) (a := r16) (st_star_f (A := sketch_Sketch.fl b11 r16 g2) h)) ?_
            refine ex_st (fun _ h => st_pk 7 [1, 2, 3, 4, 5, 0, 6] (by decide) h) ?_
            refine ex_st (fun _ h => st_some (f := ring_Rings.op g51) (a := r50.2) (st_star_f (A := ring_Rings.fl b19 r50.2 g51) h)) ?_
            obtain rfl := Option.some.inj hm56
            refine ex_st (fun _ h => st_pk 3 [2, 1, 0] (by decide) h) ?_
            exact x_r1 rfl (rv_t rfl) (Le.refl _) ⟨_, rfl, (⟨(pt b11 0, g2), (pt b19 0, g51)⟩ : tiny_Tiny.G), rfl, rfl, rfl⟩
          · have hm47 := iff_ hm45 h46
            refine c_skip ?_
            refine x_seq ?_
            refine c_seq ?_
            refine c_reg ?_
            refine r_u (o_as rfl) ?_
            refine r_nil ?_
            refine x_seq ?_
            refine c_ret ?_
            refine ex_st (fun _ h => st_pk 9 [5, 6, 7, 0, 1, 2, 3, 4, 8] (by decide) h) ?_
            refine ex_st (fun _ h => st_some (f := sketch_Sketch.op g2) (a := r16) (st_star_f (A := sketch_Sketch.fl b11 r16 g2) h)) ?_
            refine ex_st (fun _ h => st_pk 7 [1, 2, 3, 4, 5, 0, 6] (by decide) h) ?_
            refine ex_st (fun _ h => st_some (f := ring_Rings.op g38) (a := r37.2) (st_star_f (A := ring_Rings.fl b19 r37.2 g38) h)) ?_
            obtain rfl := Option.some.inj hm47
            refine ex_st (fun _ h => st_pk 3 [2, 1, 0] (by decide) h) ?_
            exact x_r1 rfl (rv_t rfl) (Le.refl _) ⟨_, rfl, (⟨(pt b11 0, g2), (pt b19 0, g38)⟩ : tiny_Tiny.G), rfl, rfl, rfl⟩

def tiny_Tiny_Len (a0 : tiny_Tiny) : Option Int :=
  om a0.r (none) fun x6 => (ring_Rings_Len x6 0).bind fun r14 => (ring_Rings_Len x6 1).bind fun r16 => (ring_Rings_Len x6 2).bind fun r18 => some (i64 ((i64 (r14 + r16)) + r18))
theorem tiny_Tiny_Len.ok {G R F} (b0_ : Nat) (a0 : tiny_Tiny) (g0_ : tiny_Tiny.G) (r : Int) (hm : tiny_Tiny_Len a0 = some r) : CO Try.prog 61 [pt b0_ 0] G R (Bk b0_ 137 [vI a0.most, g0_.s.1, g0_.r.1] :: rO (sketch_Sketch.op g0_.s.2) g0_.s.1 a0.s :: rO (ring_Rings.op g0_.r.2) g0_.r.1 a0.r :: F)
    (Ret fun u R' L' => u = vI r ∧ R' = R ∧ L' = Bk b0_ 137 [vI a0.most, g0_.s.1, g0_.r.1] :: rO (sketch_Sketch.op g0_.s.2) g0_.s.1 a0.s :: rO (ring_Rings.op g0_.r.2) g0_.r.1 a0.r :: F) := by
  obtain ⟨⟨pv1, g2⟩, ⟨pv4, g5⟩⟩ := g0_
  unfold tiny_Tiny_Len at hm
  refine co_ofN (N := 22) Try.func61 rfl rfl ?_
  refine c_seq ?_
  refine c_reg ?_
  refine r_u (o_as rfl) ?_
  refine r_nil ?_
  refine x_seq ?_
  refine c_seq ?_
  refine c_seq ?_
  refine c_reg ?_
  refine r_u (o_mv rfl) ?_
  refine r_u (o_bin rfl rfl (bP_eqp Try.underlying103)) ?_
  refine r_nil ?_
  refine x_seq ?_
  refine c_ff rfl ?_
  refine c_skip ?_
  refine x_seq ?_
  refine c_seq ?_
  refine cd_st (fun _ h => st_pk 3 [2, 0, 1] (by decide) h) ?_
  refine cd_opt (fun ho8 => ?_) (fun x6 b7 ho8 => ?_)
  · rintro rfl
    have hm9 := om_n hm ho8
    cases hm9
  · rintro rfl
    have hm9 := om_s hm ho8
    refine cd_st (fun _ h => st_star_o h) ?_
    obtain ⟨r14, hr14, hm15⟩ := bs hm9
    obtain ⟨r16, hr16, hm17⟩ := bs hm15
    obtain ⟨r18, hr18, hm19⟩ := bs hm17
    refine c_any mixed (effs := [4, 9, 15]) (V := []) ?_
    refine stage_ext [(0, pt b0_ 0), (1, pt b0_ 0), (2, pt b0_ 2), (3, pt b7 0), (5, pt b0_ 0), (6, pt b0_ 0), (7, pt b0_ 2), (8, pt b7 0), (11, pt b0_ 0), (12, pt b0_ 0), (13, pt b0_ 2), (14, pt b7 0)] rfl ?_
    refine stage rfl rfl rfl rfl [0, 1, 3, 7, 15, 0, 32, 96, 224, 511, 1023, 0, 2048, 6144, 14336, 31743, 65535, 131071] [0, 1, 2, 3, 5, 6, 7, 8, 11, 12, 13, 14] [4] rfl rfl rfl (qc rfl rfl (s_u (o_mv rfl)) (qc rfl rfl (s_u (o_nc rfl)) (qc rfl rfl (s_u (o_fa fa137_2 rfl)) (qc rfl rfl (s_u (o_ld 5 sc135 rfl rfl rfl)) (qc rfl rfl (s_u (o_mv rfl)) (qc rfl rfl (s_u (o_nc rfl)) (qc rfl rfl (s_u (o_fa fa137_2 rfl)) (qc rfl rfl (s_u (o_ld 5 sc135 rfl rfl rfl)) (qc rfl rfl (s_u (o_mv rfl)) (qc rfl rfl (s_u (o_nc rfl)) (qc rfl rfl (s_u (o_fa fa137_2 rfl)) (qc rfl rfl (s_u (o_ld 5 sc135 rfl rfl rfl)) qn)))))))))))) ?_ (fun h => absurd h (by decide))
    refine ec (eo_c rfl (s_w (o_call ca104 rfl (ring_Rings_Len.ok b7 x6 g5 0 r14 hr14))) ?_) en
    refine stage rfl rfl rfl rfl [0, 1, 3, 7, 15, 0, 32, 96, 224, 511, 1023, 0, 2048, 6144, 14336, 31743, 65535, 131071] [5, 6, 7, 8, 11, 12, 13, 14] [9] rfl rfl rfl (qc rfl rfl (s_u (o_mv rfl)) (qc rfl rfl (s_u (o_nc rfl)) (qc rfl rfl (s_u (o_fa fa137_2 rfl)) (qc rfl rfl (s_u (o_ld 5 sc135 rfl rfl rfl)) (qc rfl rfl (s_u (o_mv rfl)) (qc rfl rfl (s_u (o_nc rfl)) (qc rfl rfl (s_u (o_fa fa137_2 rfl)) (qc rfl rfl (s_u (o_ld 5 sc135 rfl rfl rfl)) qn)))))))) ?_ (fun h => absurd h (by decide))
    refine ec (eo_c rfl (s_w (o_call ca104 rfl (ring_Rings_Len.ok b7 x6 g5 1 r16 hr16))) ?_) en
    refine stage_ext [(10, vI (i64 (r14 + r16)))] rfl ?_
    refine stage rfl rfl rfl rfl [0, 1, 3, 7, 15, 0, 32, 96, 224, 511, 1023, 0, 2048, 6144, 14336, 31743, 65535, 131071] [10, 11, 12, 13, 14] [15] rfl rfl rfl (qc rfl rfl (s_u (o_bin rfl rfl (bI_add r14 r16))) (qc rfl rfl (s_u (o_mv rfl)) (qc rfl rfl (s_u (o_nc rfl)) (qc rfl rfl (s_u (o_fa fa137_2 rfl)) (qc rfl rfl (s_u (o_ld 5 sc135 rfl rfl rfl)) qn))))) ?_ (fun h => absurd h (by decide))
    refine ec (eo_c rfl (s_w (o_call ca104 rfl (ring_Rings_Len.ok b7 x6 g5 2 r18 hr18))) ?_) en
    refine stage_ext [(16, vI (i64 ((i64 (r14 + r16)) + r18))), (17, vI (i64 ((i64 (r14 + r16)) + r18)))] rfl ?_
    refine stage rfl rfl rfl rfl [0, 1, 3, 7, 15, 0, 32, 96, 224, 511, 1023, 0, 2048, 6144, 14336, 31743, 65535, 131071] [10, 16, 17] [] rfl rfl rfl (qc rfl rfl (s_u (o_bin rfl rfl (bI_add r14 r16))) (qc rfl rfl (s_u (o_bin rfl rfl (bI_add (i64 (r14 + r16)) r18))) (qc rfl rfl (s_u (o_as rfl)) qn))) en ?_
    intro _
    refine ex_sub (E' := [(2, vI (i64 ((i64 (r14 + r16)) + r18)))]) ⟨rfl, trivial⟩ ?_
    refine x_seq ?_
    refine c_ret ?_
    refine ex_st (fun _ h => st_some (f := ring_Rings.op g5) (a := x6) (st_star_f (A := ring_Rings.fl b7 x6 g5) h)) ?_
    refine ex_st (fun _ h => st_back ho8 h) ?_
    obtain rfl := Option.some.inj hm19
    refine ex_st (fun _ h => st_pk 3 [1, 2, 0] (by decide) h) ?_
    exact x_r1 rfl (rv_t rfl) (Le.refl _) ⟨_, rfl, rfl, rfl, rfl⟩

def tiny_Tiny_last (a0 : tiny_Tiny) : Option (Str × Bool) :=
  om a0.r (none) fun x6 => (ring_Rings_Back x6 1).bind fun r14 => if r14.2 then some (r14.1, true) else (ring_Rings_Back x6 2).bind fun r18 => some (r18.1, r18.2)
theorem tiny_Tiny_last.ok {G R F} (b0_ : Nat) (a0 : tiny_Tiny) (g0_ : tiny_Tiny.G) (r : Str × Bool) (hm : tiny_Tiny_last a0 = some r) : CO Try.prog 109 [pt b0_ 0] G R (Bk b0_ 137 [vI a0.most, g0_.s.1, g0_.r.1] :: rO (sketch_Sketch.op g0_.s.2) g0_.s.1 a0.s :: rO (ring_Rings.op g0_.r.2) g0_.r.1 a0.r :: F)
    (Ret fun u R' L' => u = .tuple #[vS r.1, vB r.2] ∧ R' = R ∧ L' = Bk b0_ 137 [vI a0.most, g0_.s.1, g0_.r.1] :: rO (sketch_Sketch.op g0_.s.2) g0_.s.1 a0.s :: rO (ring_Rings.op g0_.r.2) g0_.r.1 a0.r :: F) := by
  obtain ⟨⟨pv1, g2⟩, ⟨pv4, g5⟩⟩ := g0_
  unfold tiny_Tiny_last at hm
  refine co_ofN (N := 23) Try.func109 rfl rfl ?_
  refine c_seq ?_
  refine c_reg ?_
  refine r_u (o_as rfl) ?_
  refine r_u (o_as rfl) ?_
  refine r_nil ?_
  refine x_seq ?_
  refine c_seq ?_
  refine c_seq ?_
  refine cd_st (fun _ h => st_pk 3 [2, 0, 1] (by decide) h) ?_
  refine cd_opt (fun ho8 => ?_) (fun x6 b7 ho8 => ?_)
  · rintro rfl
    have hm9 := om_n hm ho8
    cases hm9
  · rintro rfl
    have hm9 := om_s hm ho8
    refine cd_st (fun _ h => st_star_o h) ?_
    refine c_reg ?_
    refine r_u (o_mv rfl) ?_
    refine r_u (o_nc rfl) ?_
    refine r_u (o_fa fa137_2 rfl) ?_
    refine r_u (o_ld 5 sc135 rfl rfl rfl) ?_
    obtain ⟨r14, hr14, hm15⟩ := bs hm9
    refine r_c (s_w (o_call ca99 rfl (ring_Rings_Back.ok b7 x6 g5 1 r14 hr14))) ?_
    refine r_u (o_mv rfl) ?_
    refine r_u (o_ext rfl rfl) ?_
    refine r_u (o_ext rfl rfl) ?_
    refine r_u (o_as rfl) ?_
    refine r_u (o_as rfl) ?_
    refine r_nil ?_
    refine x_seq ?_
    refine c_seq ?_
    refine c_reg ?_
    refine r_u (o_mv rfl) ?_
    refine r_nil ?_
    refine x_seq ?_
    refine c_if (b := r14.2) rfl (fun h16 => ?_) fun h16 => ?_
    · have hm17 := ift hm15 h16
      refine c_seq ?_
      refine c_reg ?_
      refine r_u (o_mv rfl) ?_
      refine r_u (o_as rfl) ?_
      refine r_u (o_as rfl) ?_
      refine r_nil ?_
      refine x_seq ?_
      refine c_ret ?_
      refine ex_st (fun _ h => st_some (f := ring_Rings.op g5) (a := x6) (st_star_f (A := ring_Rings.fl b7 x6 g5) h)) ?_
      refine ex_st (fun _ h => st_back ho8 h) ?_
      obtain rfl := Option.some.inj hm17
      refine ex_st (fun _ h => st_pk 3 [1, 2, 0] (by decide) h) ?_
      exact x_r2 rfl (rv_t rfl) (rv_t rfl) (Le.refl _) ⟨_, rfl, rfl, rfl, rfl⟩
    · have hm17 := iff_ hm15 h16
      refine c_skip ?_
      refine x_seq ?_
      refine c_seq ?_
      refine c_reg ?_
      refine r_u (o_mv rfl) ?_
      refine r_u (o_nc rfl) ?_
      refine r_u (o_fa fa137_2 rfl) ?_
      refine r_u (o_ld 5 sc135 rfl rfl rfl) ?_
      obtain ⟨r18, hr18, hm19⟩ := bs hm17
      refine r_c (s_w (o_call ca99 rfl (ring_Rings_Back.ok b7 x6 g5 2 r18 hr18))) ?_
      refine r_u (o_ext rfl rfl) ?_
      refine r_u (o_ext rfl rfl) ?_
      refine r_u (o_as rfl) ?_
      refine r_u (o_as rfl) ?_
      refine r_nil ?_
      refine x_seq ?_
      refine c_ret ?_
      refine ex_st (fun _ h => st_some (f := ring_Rings.op g5) (a := x6) (st_star_f (A := ring_Rings.fl b7 x6 g5) h)) ?_
      refine ex_st (fun _ h => st_back ho8 h) ?_
      obtain rfl := Option.some.inj hm19
      refine ex_st (fun _ h => st_pk 3 [1, 2, 0] (by decide) h) ?_
      exact x_r2 rfl (rv_t rfl) (rv_t rfl) (Le.refl _) ⟨_, rfl, rfl, rfl, rfl⟩

def sketch_Sketch_Seen (a0 : sketch_Sketch) (a1 : Str) : Option Int :=
  (sketch_Sketch_least a0 a1).bind fun r2 => (sketch_Sketch_place a0 a1 4).bind fun r4 => (gi a0.door r4).bind fun x6 => if x6 then some (i64 ((r2.toNat : Int) + 1)) else some (r2.toNat : Int)
theorem sketch_Sketch_Seen.ok {G R F} (b0_ : Nat) (a0 : sketch_Sketch) (g0_ : sketch_Sketch.G) (a1 : Str) (r : Int) (hm : sketch_Sketch_Seen a0 a1 = some r) : CO Try.prog 110 [pt b0_ 0, vS a1] G R (Bk b0_ 175 [vI a0.wide, vW a0.seed, g0_.rows.1, g0_.rows.2.1, g0_.rows.2.2.1, g0_.rows.2.2.2, g0_.door, vI a0.added] :: OwL (OwS false 5 1 eY) [g0_.rows.1, g0_.rows.2.1, g0_.rows.2.2.1, g0_.rows.2.2.2] a0.rows :: OwS true 4 1 eB g0_.door a0.door :: F)
    (Ret fun u R' L' => u = vI r ∧ R' = R ∧ L' = Bk b0_ 175 [vI a0.wide, vW a0.seed, g0_.rows.1, g0_.rows.2.1, g0_.rows.2.2.1, g0_.rows.2.2.2, g0_.door, vI a0.added] :: OwL (OwS false 5 1 eY) [g0_.rows.1, g0_.rows.2.1, g0_.rows.2.2.1, g0_.rows.2.2.2] a0.rows :: OwS true 4 1 eB g0_.door a0.door :: F) := by
  unfold sketch_Sketch_Seen at hm
  refine co_ofN (N := 24) Try.func110 rfl rfl ?_
  refine c_seq ?_
  refine c_reg ?_
  refine r_u (o_as rfl) ?_
  refine r_nil ?_
  refine x_seq ?_
  refine c_seq ?_
  refine c_seq ?_
  refine c_reg ?_
  refine r_u (o_mv rfl) ?_
  refine r_u (o_bin rfl rfl (bP_eqp Try.underlying134)) ?_
  refine r_nil ?_
  refine x_seq ?_
  refine c_ff rfl ?_
  refine c_skip ?_
  refine x_seq ?_
  refine c_seq ?_
  refine c_reg ?_
  refine r_u (o_mv rfl) ?_
  refine r_u (o_mv rfl) ?_
  obtain ⟨r2, hr2, hm3⟩ := bs hm
  refine r_c (s_w (o_call ca121 rfl (sketch_Sketch_least.ok b0_ a0 g0_ a1 r2 hr2))) ?_
  refine r_u (o_cv rfl (cYI Try.underlying5 Try.underlying3 r2)) ?_
  refine r_u (o_as rfl) ?_
  refine r_nil ?_
  refine x_seq ?_
  refine c_seq ?_
  refine c_seq ?_
  obtain ⟨r4, hr4, hm5⟩ := bs hm3
  obtain ⟨x6, hx6, hm7⟩ := bs hm5
  refine c_any mixed (effs := [6]) (V := []) ?_
  refine stage_ext [(0, pt b0_ 0), (1, pt b0_ 0), (2, pt b0_ 6), (3, g0_.door), (4, pt b0_ 0), (5, vS a1)] rfl ?_
  refine stage rfl rfl rfl rfl [0, 1, 3, 7, 0, 0, 48, 127, 255] [0, 1, 2, 3, 4, 5] [6] rfl rfl rfl (qc rfl rfl (s_u (o_mv rfl)) (qc rfl rfl (s_u (o_nc rfl)) (qc rfl rfl (s_u (o_fa fa175_3 rfl)) (qc rfl rfl (s_u (o_ld 0 sc173 rfl rfl rfl)) (qc rfl rfl (s_u (o_mv rfl)) (qc rfl rfl (s_u (o_mv rfl)) qn)))))) ?_ (fun h => absurd h (by decide))
  refine ec (eo_c rfl (s_w (o_call ca120 rfl (sketch_Sketch_place.ok b0_ a0 g0_ a1 4 r4 hr4))) ?_) en
  refine stage_ext [(7, pt (sb g0_.door) (so g0_.door + r4.toNat * 1)), (8, vB x6)] rfl ?_
  refine stage rfl rfl rfl rfl [0, 1, 3, 7, 0, 0, 48, 127, 255] [0, 1, 2, 3, 7, 8] [] rfl rfl rfl (qc rfl rfl (s_u (o_mv rfl)) (qc rfl rfl (s_u (o_nc rfl)) (qc rfl rfl (s_u (o_fa fa175_3 rfl)) (qc rfl rfl (s_u (o_ld 0 sc173 rfl rfl rfl)) (qc rfl rfl (s_u (o_ixO 2 Try.underlying173 (fun _ => by kernel_rfl) rfl rfl rfl hx6)) (qc rfl rfl (s_u (o_ldO0 2 sc4 rfl rfl hx6 rfl rfl)) qn)))))) en ?_
  intro _
  refine ex_sub (E' := [(5, vI (r2.toNat : Int)), (20, vB x6)]) ⟨rfl, rfl, trivial⟩ ?_
  refine x_seq ?_
  refine c_if (b := x6) rfl (fun h8 => ?_) fun h8 => ?_
  · have hm9 := ift hm7 h8
    refine c_reg ?_
    refine r_u (o_mv rfl) ?_
    refine r_u (o_bin rfl rfl (bI_add (r2.toNat : Int) 1)) ?_
    refine r_u (o_as rfl) ?_
    refine r_nil ?_
    refine x_seq ?_
    refine c_seq ?_
    refine c_reg ?_
    refine r_u (o_mv rfl) ?_
    refine r_u (o_as rfl) ?_
    refine r_nil ?_
    refine x_seq ?_
    refine c_ret ?_
    obtain rfl := Option.some.inj hm9
    exact x_r1 rfl (rv_t rfl) (Le.refl _) ⟨_, rfl, rfl, rfl, rfl⟩
  · have hm9 := iff_ hm7 h8
    refine c_skip ?_
    refine x_seq ?_
    refine c_seq ?_
    refine c_reg ?_
    refine r_u (o_mv rfl) ?_
    refine r_u (o_as rfl) ?_
    refine r_nil ?_
    refine x_seq ?_
    refine c_ret ?_
    obtain rfl := Option.some.inj hm9
    exact x_r1 rfl (rv_t rfl) (Le.refl _) ⟨_, rfl, rfl, rfl, rfl⟩

def tiny_Tiny_Insert (a0 : tiny_Tiny) (a1 : Str) : Option (List Str × tiny_Tiny) :=
  Option.bind (if decide (64 < (a1.length : Int)) then some (true, a0) else (tiny_Tiny_Touch a0 a1).bind fun r98 => some (r98.1, r98.2)) fun p6 => if p6.1 then some ([], p6.2) else om p6.2.s (none) fun x19 => (sketch_Sketch_Add x19 a1).bind fun r25 => om p6.2.r (none) fun x27 => (ring_Rings_Front x27 0 a1).bind fun r35 => (ring_Rings_Len r35.2 0).bind fun r42 => if decide (r42 ≤ ((tiny_Parts p6.2.most).Window)) then some ([], (⟨p6.2.most, (some r25), (some r35.2)⟩ : tiny_Tiny)) else (ring_Rings_Back r35.2 0).bind fun r46 => (tiny_Tiny_Len (⟨p6.2.most, (some r25), (some r35.2)⟩ : tiny_Tiny)).bind fun r48 => if decide (r48 ≤ p6.2.most) then (ring_Rings_Front r35.2 1 r46.1).bind fun r52 => some ([], (⟨p6.2.most, (some r25), (some r52.2)⟩ : tiny_Tiny)) else (tiny_Tiny_last (⟨p6.2.most, (some r25), (some r35.2)⟩ : tiny_Tiny)).bind fun r59 => Option.bind (if r59.2 then (sketch_Sketch_Seen r25 r46.1).bind fun r92 => (sketch_Sketch_Seen r25 r59.1).bind fun r94 => some (decide (r94 < r92)) else some false) fun p61 => if p61 then (ring_Rings_Drop r35.2 r59.1).bind fun r67 => (ring_Rings_Front r67.2 1 r46.1).bind fun r74 => some ([r59.1], (⟨p6.2.most, (some r25), (some r74.2)⟩ : tiny_Tiny)) else (ring_Rings_Drop r35.2 r46.1).bind fun r82 => some ([r46.1], (⟨p6.2.most, (some r25), (some r82.2)⟩ : tiny_Tiny))
theorem tiny_Tiny_Insert.ok {G R F} (b0_ : Nat) (a0 : tiny_Tiny) (g0_ : tiny_Tiny.G) (a1 : Str) (r : List Str × tiny_Tiny) (hm : tiny_Tiny_Insert a0 a1 = some r) : CO Try.prog 65 [pt b0_ 0, vS a1] G R (Bk b0_ 137 [vI a0.most, g0_.s.1, g0_.r.1] :: rO (sketch_Sketch.op g0_.s.2) g0_.s.1 a0.s :: rO (ring_Rings.op g0_.r.2) g0_.r.1 a0.r :: F)
    (Ret fun u R' L' => ∃ (p0 : Value) (q0 : tiny_Tiny.G), u = p0 ∧ R' = R ∧ L' = OwS true 9 1 eS p0 r.1 :: Bk b0_ 137 [vI r.2.most, q0.s.1, q0.r.1] :: rO (sketch_Sketch.op q0.s.2) q0.s.1 r.2.s :: rO (ring_Rings.op q0.r.2) q0.r.1 r.2.r :: F) := by
  obtain ⟨⟨pv1, g2⟩, ⟨pv4, g5⟩⟩ := g0_
  unfold tiny_Tiny_Insert at hm
  refine co_ofN (N := 109) Try.func65 rfl rfl ?_
  refine c_seq ?_
  refine c_reg ?_
  refine r_u (o_as rfl) ?_
  refine r_nil ?_
  refine x_seq ?_
  refine c_seq ?_
  refine c_seq ?_
  obtain ⟨p6, hp14, hm15⟩ := bs hm
  refine cd_cut (fun x ks => ∀ (g7 : tiny_Tiny.G), EX x .normal ks [(0, pt b0_ 0), (1, vS a1), (20, vB p6.1)] R (Bk b0_ 137 [vI p6.2.most, g7.s.1, g7.r.1] :: rO (sketch_Sketch.op g7.s.2) g7.s.1 p6.2.s :: rO (ring_Rings.op g7.r.2) g7.r.1 p6.2.r :: F)) ?_ fun K16 => ?_
  · intro g7
    obtain ⟨⟨pv9, g10⟩, ⟨pv12, g13⟩⟩ := g7
    refine x_seq ?_
    refine c_if (b := p6.1) rfl (fun h17 => ?_) fun h17 => ?_
    · have hm18 := ift hm15 h17
      refine c_seq ?_
      refine c_reg ?_
      refine r_u (o_as rfl) ?_
      refine r_nil ?_
      refine x_seq ?_
      refine c_ret ?_
      refine ex_st (fun _ h => st_nil (ap := true) (T := 9) (sz := 1) (en := eS) h) ?_
      obtain rfl := Option.some.inj hm18
      exact x_r1 rfl (rv_t rfl) (Le.refl _) ⟨_, rfl, (.slice none 0 0), (⟨(pv9, g10), (pv12, g13)⟩ : tiny_Tiny.G), rfl, rfl, rfl⟩
    · have hm18 := iff_ hm15 h17
      refine c_skip ?_
      refine x_seq ?_
      refine c_seq ?_
      refine cd_st (fun _ h => st_pk 3 [1, 0, 2] (by decide) h) ?_
      refine cd_opt (fun ho21 => ?_) (fun x19 b20 ho21 => ?_)
      · rintro rfl
        have hm22 := om_n hm18 ho21
        cases hm22
      · rintro rfl
        have hm22 := om_s hm18 ho21
        refine cd_st (fun _ h => st_star_o h) ?_
        refine c_reg ?_
        refine r_u (o_mv rfl) ?_
        refine r_u (o_nc rfl) ?_
        refine r_u (o_fa fa137_1 rfl) ?_
        refine r_u (o_ld 3 sc134 rfl rfl rfl) ?_
        refine r_u (o_mv rfl) ?_
        obtain ⟨r25, hr25, hm26⟩ := bs hm22
        refine r_c (s_w (o_call ca97 rfl (sketch_Sketch_Add.ok b20 x19 g10 a1 r25 hr25))) ?_
        refine r_nil ?_
        refine x_seq ?_
        refine c_seq ?_
        refine cd_st (fun _ h => st_pk 5 [4, 0, 1, 2, 3] (by decide) h) ?_
        refine cd_opt (fun ho29 => ?_) (fun x27 b28 ho29 => ?_)
        · rintro rfl
          have hm30 := om_n hm26 ho29
          cases hm30
        · rintro rfl
          have hm30 := om_s hm26 ho29
          refine cd_st (fun _ h => st_star_o h) ?_
          refine c_reg ?_
          refine r_u (o_mv rfl) ?_
          refine r_u (o_nc rfl) ?_
          refine r_u (o_fa fa137_2 rfl) ?_
          refine r_u (o_ld 8 sc135 rfl rfl rfl) ?_
          refine r_u (o_mv rfl) ?_
          obtain ⟨r35, hr35, hm41⟩ := bs hm30
          refine r_sw (s_w (o_call ca105 rfl (ring_Rings_Front.ok b28 x27 g13 0 a1 r35 hr35))) ?_
          rintro _ R _ _ ⟨g36, rfl, rfl, rfl⟩
          refine r_nil ?_
          refine x_seq ?_
          refine c_seq ?_
          refine c_seq ?_
          obtain ⟨r42, hr42, hm43⟩ := bs hm41
          refine c_any mixed (effs := [4]) (V := []) ?_
          refine stage_ext [(0, pt b0_ 0), (1, pt b0_ 0), (2, pt b0_ 2), (3, pt b28 0), (5, pt b0_ 0), (6, pt b0_ 0), (7, pt b0_ 0), (8, vI p6.2.most)] rfl ?_
          refine stage rfl rfl rfl rfl [0, 1, 3, 7, 15, 0, 32, 96, 224, 511, 1023, 2047] [0, 1, 2, 3, 5, 6, 7, 8] [4] rfl rfl rfl (qc rfl rfl (s_u (o_mv rfl)) (qc rfl rfl (s_u (o_nc rfl)) (qc rfl rfl (s_u (o_fa fa137_2 rfl)) (qc rfl rfl (s_u (o_ld 8 sc135 rfl rfl rfl)) (qc rfl rfl (s_u (o_mv rfl)) (qc rfl rfl (s_u (o_nc rfl)) (qc rfl rfl (s_u (o_fa fa137_0 rfl)) (qc rfl rfl (s_u (o_ld 8 sc3 rfl rfl rfl)) qn)))))))) ?_ (fun h => absurd h (by decide))
          refine ec (eo_c rfl (s_w (o_call ca104 rfl (ring_Rings_Len.ok b28 r35.2 g36 0 r42 hr42))) ?_) en
          refine stage_ext [(9, .agg (api_Parts.c (tiny_Parts p6.2.most)).toArray), (10, vI ((tiny_Parts p6.2.most).Window)), (11, vB (decide (r42 ≤ ((tiny_Parts p6.2.most).Window))))] rfl ?_
          refine stage rfl rfl rfl rfl [0, 1, 3, 7, 15, 0, 32, 96, 224, 511, 1023, 2047] [5, 6, 7, 8, 9, 10, 11] [] rfl rfl rfl (qc rfl rfl (s_u (o_mv rfl)) (qc rfl rfl (s_u (o_nc rfl)) (qc rfl rfl (s_u (o_fa fa137_0 rfl)) (qc rfl rfl (s_u (o_ld 8 sc3 rfl rfl rfl)) (qc rfl rfl (s_u (o_callq ca106 rfl (tiny_Parts.ok p6.2.most _ rfl))) (qc rfl rfl (s_u (o_fd (v := vI ((tiny_Parts p6.2.most).Window)) rfl (fun _ => by kernel_rfl))) (qc rfl rfl (s_u (o_bin rfl rfl (bI_le r42 ((tiny_Parts p6.2.most).Window)))) qn))))))) en ?_
          intro _
          refine ex_sub (E' := [(0, pt b0_ 0), (44, vB (decide (r42 ≤ ((tiny_Parts p6.2.most).Window))))]) ⟨rfl, rfl, trivial⟩ ?_
          refine x_seq ?_
          refine c_if (b := decide (r42 ≤ ((tiny_Parts p6.2.most).Window))) rfl (fun h44 => ?_) fun h44 => ?_
          · have hm45 := ift hm43 h44
            refine c_seq ?_
            refine c_reg ?_
            refine r_u (o_as rfl) ?_
            refine r_nil ?_
            refine x_seq ?_
            refine c_ret ?_
            refine ex_st (fun _ h => st_nil (ap := true) (T := 9) (sz := 1) (en := eS) h) ?_
            refine ex_st (fun _ h => st_pk 10 [6, 7, 8, 0, 1, 2, 3, 4, 5, 9] (by decide) h) ?_
            refine ex_st (fun _ h => st_some (f := sketch_Sketch.op g10) (a := r25) (st_star_f (A := sketch_Sketch.fl b20 r25 g10) h)) ?_
            refine ex_st (fun _ h => st_pk 8 [2, 3, 4, 5, 6, 0, 1, 7] (by decide) h) ?_
            refine ex_st (fun _ h => st_some (f := ring_Rings.op g36) (a := r35.2) (st_star_f (A := ring_Rings.fl b28 r35.2 g36) h)) ?_
            obtain rfl := Option.some.inj hm45
            refine ex_st (fun _ h => st_pk 4 [2, 3, 1, 0] (by decide) h) ?_
            exact x_r1 rfl (rv_t rfl) (Le.refl _) ⟨_, rfl, (.slice none 0 0), (⟨(pt b20 0, g10), (pt b28 0, g36)⟩ : tiny_Tiny.G), rfl, rfl, rfl⟩
          · have hm45 := iff_ hm43 h44
            refine c_skip ?_
            refine x_seq ?_
            refine c_seq ?_
            refine c_reg ?_
            refine r_u (o_mv rfl) ?_
            refine r_u (o_nc rfl) ?_
            refine r_u (o_fa fa137_2 rfl) ?_
            refine r_u (o_ld 8 sc135 rfl rfl rfl) ?_
            obtain ⟨r46, hr46, hm47⟩ := bs hm45
            refine r_c (s_w (o_call ca99 rfl (ring_Rings_Back.ok b28 r35.2 g36 0 r46 hr46))) ?_
            refine r_u (o_mv rfl) ?_
            refine r_u (o_ext rfl rfl) ?_
            refine r_u (o_ext rfl rfl) ?_
            refine r_u (o_as rfl) ?_
            refine r_u (o_as rfl) ?_
            refine r_nil ?_
            refine x_seq ?_
            refine c_seq ?_
            refine c_seq ?_
            refine cd_st (fun _ h => st_pk 9 [5, 6, 7, 0, 1, 2, 3, 4, 8] (by decide) h) ?_
            refine cd_st (fun _ h => st_some (f := sketch_Sketch.op g10) (a := r25) (st_star_f (A := sketch_Sketch.fl b20 r25 g10) h)) ?_
            refine cd_st (fun _ h => st_pk 7 [1, 2, 3, 4, 5, 0, 6] (by decide) h) ?_
            refine cd_st (fun _ h => st_some (f := ring_Rings.op g36) (a := r35.2) (st_star_f (A := ring_Rings.fl b28 r35.2 g36) h)) ?_
            obtain ⟨r48, hr48, hm49⟩ := bs hm47
            refine c_any mixed (effs := [1]) (V := []) ?_
            refine stage_st (fun _ h => st_pk 3 [2, 1, 0] (by decide) h) ?_
            refine stage_ext [(0, pt b0_ 0), (2, pt b0_ 0), (3, pt b0_ 0), (4, pt b0_ 0), (5, vI p6.2.most)] rfl ?_
            refine stage rfl rfl rfl rfl [0, 1, 0, 4, 12, 28, 63] [0, 2, 3, 4, 5] [1] rfl rfl rfl (qc rfl rfl (s_u (o_mv rfl)) (qc rfl rfl (s_u (o_mv rfl)) (qc rfl rfl (s_u (o_nc rfl)) (qc rfl rfl (s_u (o_fa fa137_0 rfl)) (qc rfl rfl (s_u (o_ld 0 sc3 rfl rfl rfl)) qn))))) ?_ (fun h => absurd h (by decide))
            refine ec (eo_c rfl (s_w (o_call ca61 rfl (tiny_Tiny_Len.ok b0_ (⟨p6.2.most, (some r25), (some r35.2)⟩ : tiny_Tiny) (⟨(pt b20 0, g10), (pt b28 0, g36)⟩ : tiny_Tiny.G) r48 hr48))) ?_) en
            refine stage_ext [(6, vB (decide (r48 ≤ p6.2.most)))] rfl ?_
            refine stage rfl rfl rfl rfl [0, 1, 0, 4, 12, 28, 63] [2, 3, 4, 5, 6] [] rfl rfl rfl (qc rfl rfl (s_u (o_mv rfl)) (qc rfl rfl (s_u (o_nc rfl)) (qc rfl rfl (s_u (o_fa fa137_0 rfl)) (qc rfl rfl (s_u (o_ld 0 sc3 rfl rfl rfl)) (qc rfl rfl (s_u (o_bin rfl rfl (bI_le r48 p6.2.most))) qn))))) en ?_
            intro _
            refine ex_sub (E' := [(0, pt b0_ 0), (5, vS r46.1), (59, vB (decide (r48 ≤ p6.2.most)))]) ⟨rfl, rfl, rfl, trivial⟩ ?_
            refine x_seq ?_
            refine c_if (b := decide (r48 ≤ p6.2.most)) rfl (fun h50 => ?_) fun h50 => ?_
            · have hm51 := ift hm49 h50
              refine c_seq ?_
              refine cd_st (fun _ h => st_pk 3 [2, 0, 1] (by decide) h) ?_
              refine cd_st (fun _ h => st_some_o h) ?_
              refine cd_st (fun _ h => st_star_o h) ?_
              refine c_reg ?_
              refine r_u (o_mv rfl) ?_
              refine r_u (o_nc rfl) ?_
              refine r_u (o_fa fa137_2 rfl) ?_
              refine r_u (o_ld 5 sc135 rfl rfl rfl) ?_
              refine r_u (o_mv rfl) ?_
              obtain ⟨r52, hr52, hm58⟩ := bs hm51
              refine r_sw (s_w (o_call ca105 rfl (ring_Rings_Front.ok b28 r35.2 g36 1 r46.1 r52 hr52))) ?_
              rintro _ R _ _ ⟨g53, rfl, rfl, rfl⟩
              refine r_nil ?_
              refine x_seq ?_
              refine c_seq ?_
              refine c_reg ?_
              refine r_u (o_as rfl) ?_
              refine r_nil ?_
              refine x_seq ?_
              refine c_ret ?_
              refine ex_st (fun _ h => st_nil (ap := true) (T := 9) (sz := 1) (en := eS) h) ?_
              refine ex_st (fun _ h => st_pk 8 [1, 2, 3, 4, 5, 0, 6, 7] (by decide) h) ?_
              refine ex_st (fun _ h => st_some (f := ring_Rings.op g53) (a := r52.2) (st_star_f (A := ring_Rings.fl b28 r52.2 g53) h)) ?_
              obtain rfl := Option.some.inj hm58
              refine ex_st (fun _ h => st_pk 4 [1, 2, 3, 0] (by decide) h) ?_
              exact x_r1 rfl (rv_t rfl) (Le.refl _) ⟨_, rfl, (.slice none 0 0), (⟨(pt b20 0, g10), (pt b28 0, g53)⟩ : tiny_Tiny.G), rfl, rfl, rfl⟩
            · have hm51 := iff_ hm49 h50
              refine c_skip ?_
              refine x_seq ?_
              refine c_seq ?_
              refine c_reg ?_
              refine r_u (o_mv rfl) ?_
              obtain ⟨r59, hr59, hm60⟩ := bs hm51
              refine r_c (s_w (o_call ca109 rfl (tiny_Tiny_last.ok b0_ (⟨p6.2.most, (some r25), (some r35.2)⟩ : tiny_Tiny) (⟨(pt b20 0, g10), (pt b28 0, g36)⟩ : tiny_Tiny.G) r59 hr59))) ?_
              refine r_u (o_mv rfl) ?_
              refine r_u (o_ext rfl rfl) ?_
              refine r_u (o_ext rfl rfl) ?_
              refine r_u (o_as rfl) ?_
              refine r_u (o_as rfl) ?_
              refine r_nil ?_
              refine x_seq ?_
              refine c_seq ?_
              refine c_seq ?_
              refine cd_st (fun _ h => st_pk 3 [1, 0, 2] (by decide) h) ?_
              refine cd_st (fun _ h => st_some_o h) ?_
              refine cd_st (fun _ h => st_star_o h) ?_
              obtain ⟨p61, hp62, hm63⟩ := bs hm60
              refine cd_join (E' := [(0, pt b0_ 0), (5, vS r46.1), (7, vS r59.1), (86, vB p61)]) (L' := Bk b20 175 [vI r25.wide, vW r25.seed, g10.rows.1, g10.rows.2.1, g10.rows.2.2.1, g10.rows.2.2.2, g10.door, vI r25.added] :: Bk b0_ 137 [vI p6.2.most, pt b20 0, pt b28 0] :: OwL (OwS false 5 1 eY) [g10.rows.1, g10.rows.2.1, g10.rows.2.2.1, g10.rows.2.2.2] r25.rows :: OwS true 4 1 eB g10.door r25.door :: rO (ring_Rings.op g36) (pt b28 0) (some r35.2) :: F) ?_ fun K64 => ?_
              · refine x_seq ?_
                refine c_if (b := p61) rfl (fun h65 => ?_) fun h65 => ?_
                · have hm66 := ift hm63 h65
                  refine c_seq ?_
                  refine cd_st (fun _ h => st_pk 5 [4, 0, 1, 2, 3] (by decide) h) ?_
                  refine cd_st (fun _ h => st_some_o h) ?_
                  refine cd_st (fun _ h => st_star_o h) ?_
                  refine c_reg ?_
                  refine r_u (o_mv rfl) ?_
                  refine r_u (o_nc rfl) ?_
                  refine r_u (o_fa fa137_2 rfl) ?_
                  refine r_u (o_ld 6 sc135 rfl rfl rfl) ?_
                  refine r_u (o_mv rfl) ?_
                  obtain ⟨r67, hr67, hm73⟩ := bs hm66
                  refine r_sw (s_w (o_call ca100 rfl (ring_Rings_Drop.ok b28 r35.2 g36 r59.1 r67 hr67))) ?_
                  rintro _ R _ _ ⟨g68, rfl, rfl, rfl⟩
                  refine r_nil ?_
                  refine x_seq ?_
                  refine c_seq ?_
                  refine c_reg ?_
                  refine r_u (o_mv rfl) ?_
                  refine r_u (o_nc rfl) ?_
                  refine r_u (o_fa fa137_2 rfl) ?_
                  refine r_u (o_ld 6 sc135 rfl rfl rfl) ?_
                  refine r_u (o_mv rfl) ?_
                  obtain ⟨r74, hr74, hm80⟩ := bs hm73
                  refine r_sw (s_w (o_call ca105 rfl (ring_Rings_Front.ok b28 r67.2 g68 1 r46.1 r74 hr74))) ?_
                  rintro _ R _ _ ⟨g75, rfl, rfl, rfl⟩
                  refine r_nil ?_
                  refine x_seq ?_
                  refine c_seq ?_
                  refine c_reg ?_
                  refine r_u (o_mv rfl) ?_
                  refine r_sw (s_w (o_bsl (en := eS) (sz := 1) (e := 9) (cs := [vS r59.1]) (r := [r59.1]) rfl (fun _ => by kernel_rfl) rfl (by decide) rfl (fun _ => rfl))) ?_
                  rintro v81 R _ _ ⟨rfl, rfl⟩
                  refine r_u (o_as rfl) ?_
                  refine r_nil ?_
                  refine x_seq ?_
                  refine c_ret ?_
                  refine ex_st (fun _ h => st_pk 10 [6, 8, 9, 0, 1, 2, 3, 4, 5, 7] (by decide) h) ?_
                  refine ex_st (fun _ h => st_some (f := sketch_Sketch.op g10) (a := r25) (st_star_f (A := sketch_Sketch.fl b20 r25 g10) h)) ?_
                  refine ex_st (fun _ h => st_pk 8 [2, 3, 4, 5, 6, 0, 1, 7] (by decide) h) ?_
                  refine ex_st (fun _ h => st_some (f := ring_Rings.op g75) (a := r74.2) (st_star_f (A := ring_Rings.fl b28 r74.2 g75) h)) ?_
                  obtain rfl := Option.some.inj hm80
                  refine ex_st (fun _ h => st_pk 4 [2, 3, 1, 0] (by decide) h) ?_
                  exact x_r1 rfl (rv_t rfl) (Le.refl _) ⟨_, rfl, v81, (⟨(pt b20 0, g10), (pt b28 0, g75)⟩ : tiny_Tiny.G), rfl, rfl, rfl⟩
                · have hm66 := iff_ hm63 h65
                  refine c_skip ?_
                  refine x_seq ?_
                  refine c_seq ?_
                  refine cd_st (fun _ h => st_pk 5 [4, 0, 1, 2, 3] (by decide) h) ?_
                  refine cd_st (fun _ h => st_some_o h) ?_
                  refine cd_st (fun _ h => st_star_o h) ?_
                  refine c_reg ?_
                  refine r_u (o_mv rfl) ?_
                  refine r_u (o_nc rfl) ?_
                  refine r_u (o_fa fa137_2 rfl) ?_
                  refine r_u (o_ld 6 sc135 rfl rfl rfl) ?_
                  refine r_u (o_mv rfl) ?_
                  obtain ⟨r82, hr82, hm88⟩ := bs hm66
                  refine r_sw (s_w (o_call ca100 rfl (ring_Rings_Drop.ok b28 r35.2 g36 r46.1 r82 hr82))) ?_
                  rintro _ R _ _ ⟨g83, rfl, rfl, rfl⟩
                  refine r_nil ?_
                  refine x_seq ?_
                  refine c_seq ?_
                  refine c_reg ?_
                  refine r_u (o_mv rfl) ?_
                  refine r_sw (s_w (o_bsl (en := eS) (sz := 1) (e := 9) (cs := [vS r46.1]) (r := [r46.1]) rfl (fun _ => by kernel_rfl) rfl (by decide) rfl (fun _ => rfl))) ?_
                  rintro v89 R _ _ ⟨rfl, rfl⟩
                  refine r_u (o_as rfl) ?_
                  refine r_nil ?_
                  refine x_seq ?_
                  refine c_ret ?_
                  refine ex_st (fun _ h => st_pk 10 [6, 8, 9, 0, 1, 2, 3, 4, 5, 7] (by decide) h) ?_
                  refine ex_st (fun _ h => st_some (f := sketch_Sketch.op g10) (a := r25) (st_star_f (A := sketch_Sketch.fl b20 r25 g10) h)) ?_
                  refine ex_st (fun _ h => st_pk 8 [2, 3, 4, 5, 6, 0, 1, 7] (by decide) h) ?_
                  refine ex_st (fun _ h => st_some (f := ring_Rings.op g83) (a := r82.2) (st_star_f (A := ring_Rings.fl b28 r82.2 g83) h)) ?_
                  obtain rfl := Option.some.inj hm88
                  refine ex_st (fun _ h => st_pk 4 [2, 3, 1, 0] (by decide) h) ?_
                  exact x_r1 rfl (rv_t rfl) (Le.refl _) ⟨_, rfl, v89, (⟨(pt b20 0, g10), (pt b28 0, g83)⟩ : tiny_Tiny.G), rfl, rfl, rfl⟩
              · refine cd_by r59.2 (fun h90 => ?_) fun h90 => ?_
                · have hm91 := ift hp62 h90
                  obtain ⟨r92, hr92, hm93⟩ := bs hm91
                  obtain ⟨r94, hr94, hm95⟩ := bs hm93
                  refine c_any mixed (effs := [7, 13]) (V := []) ?_
                  refine stage_ext [(0, vB r59.2), (1, vB r59.2), (2, pt b0_ 0), (3, pt b0_ 0), (4, pt b0_ 1), (5, pt b20 0), (6, vS r46.1), (8, pt b0_ 0), (9, pt b0_ 0), (10, pt b0_ 1), (11, pt b20 0), (12, vS r59.1)] rfl ?_
                  refine stage rfl rfl rfl rfl [0, 1, 3, 7, 15, 31, 3, 127, 3, 259, 771, 1795, 3, 8191, 16383, 32767] [0, 1, 2, 3, 4, 5, 6, 8, 9, 10, 11, 12] [7] rfl rfl rfl (qc rfl rfl (s_u (o_mv rfl)) (qc rfl rfl (s_u (o_mv rfl)) (qc rfl rfl (s_y rfl rfl h90 (o_mv rfl)) (qc rfl rfl (s_y rfl rfl h90 (o_nc rfl)) (qc rfl rfl (s_y rfl rfl h90 (o_fa fa137_1 rfl)) (qc rfl rfl (s_y rfl rfl h90 (o_ld 3 sc134 rfl rfl rfl)) (qc rfl rfl (s_y rfl rfl h90 (o_mv rfl)) (qc rfl rfl (s_y rfl rfl h90 (o_mv rfl)) (qc rfl rfl (s_y rfl rfl h90 (o_nc rfl)) (qc rfl rfl (s_y rfl rfl h90 (o_fa fa137_1 rfl)) (qc rfl rfl (s_y rfl rfl h90 (o_ld 3 sc134 rfl rfl rfl)) (qc rfl rfl (s_y rfl rfl h90 (o_mv rfl)) qn)))))))))))) ?_ (fun h => absurd h (by decide))
                  refine ec (eo_c rfl (s_yw rfl rfl h90 (o_call ca110 rfl (sketch_Sketch_Seen.ok b20 r25 g10 r46.1 r92 hr92))) ?_) en
                  refine stage rfl rfl rfl rfl [0, 1, 3, 7, 15, 31, 3, 127, 3, 259, 771, 1795, 3, 8191, 16383, 32767] [8, 9, 10, 11, 12] [13] rfl rfl rfl (qc rfl rfl (s_y rfl rfl h90 (o_mv rfl)) (qc rfl rfl (s_y rfl rfl h90 (o_nc rfl)) (qc rfl rfl (s_y rfl rfl h90 (o_fa fa137_1 rfl)) (qc rfl rfl (s_y rfl rfl h90 (o_ld 3 sc134 rfl rfl rfl)) (qc rfl rfl (s_y rfl rfl h90 (o_mv rfl)) qn))))) ?_ (fun h => absurd h (by decide))
                  refine ec (eo_c rfl (s_yw rfl rfl h90 (o_call ca110 rfl (sketch_Sketch_Seen.ok b20 r25 g10 r59.1 r94 hr94))) ?_) en
                  refine stage_ext [(14, vB (decide (r94 < r92))), (15, vB (decide (r94 < r92)))] rfl ?_
                  refine stage rfl rfl rfl rfl [0, 1, 3, 7, 15, 31, 3, 127, 3, 259, 771, 1795, 3, 8191, 16383, 32767] [14, 15] [] rfl rfl rfl (qc rfl rfl (s_y rfl rfl h90 (o_bin rfl rfl (bI_gt r92 r94))) (qc rfl rfl (s_u (o_pt rfl h90 rfl)) qn)) en ?_
                  intro _
                  refine ex_sub (E' := [(0, pt b0_ 0), (5, vS r46.1), (7, vS r59.1), (86, vB (decide (r94 < r92)))]) ⟨rfl, rfl, rfl, rfl, trivial⟩ ?_
                  obtain rfl := Option.some.inj hm95
                  exact x_sub K64 ⟨rfl, rfl, rfl, rfl, trivial⟩ (fun _ h => st_pk 5 [0, 3, 1, 2, 4] (by decide) h)
                · have hm91 := iff_ hp62 h90
                  refine c_any mixed (effs := []) (V := []) ?_
                  refine stage_ext [(0, vB r59.2), (1, vB r59.2), (2, undef), (3, undef), (4, undef), (5, undef), (6, undef), (7, undef), (8, undef), (9, undef), (10, undef), (11, undef), (12, undef), (13, undef), (14, undef), (15, vB false)] rfl ?_
                  refine stage rfl rfl rfl rfl [0, 1, 3, 7, 15, 31, 3, 127, 3, 259, 771, 1795, 3, 8191, 16383, 32767] [0, 1, 2, 3, 4, 5, 6, 7, 8, 9, 10, 11, 12, 13, 14, 15] [] rfl rfl rfl (qc rfl rfl (s_u (o_mv rfl)) (qc rfl rfl (s_u (o_mv rfl)) (qc rfl rfl (s_n rfl rfl h90) (qc rfl rfl (s_n rfl rfl h90) (qc rfl rfl (s_n rfl rfl h90) (qc rfl rfl (s_n rfl rfl h90) (qc rfl rfl (s_n rfl rfl h90) (qc rfl rfl (s_n rfl rfl h90) (qc rfl rfl (s_n rfl rfl h90) (qc rfl rfl (s_n rfl rfl h90) (qc rfl rfl (s_n rfl rfl h90) (qc rfl rfl (s_n rfl rfl h90) (qc rfl rfl (s_n rfl rfl h90) (qc rfl rfl (s_n rfl rfl h90) (qc rfl rfl (s_n rfl rfl h90) (qc rfl rfl (s_u (o_pf rfl h90 rfl)) qn)))))))))))))))) en ?_
                  intro _
                  refine ex_sub (E' := [(0, pt b0_ 0), (5, vS r46.1), (7, vS r59.1), (86, vB false)]) ⟨rfl, rfl, rfl, rfl, trivial⟩ ?_
                  obtain rfl := Option.some.inj hm91
                  exact x_sub K64 ⟨rfl, rfl, rfl, rfl, trivial⟩ (fun _ h => st_pk 5 [0, 3, 1, 2, 4] (by decide) h)
  · refine cd_by (decide (64 < (a1.length : Int))) (fun h96 => ?_) fun h96 => ?_
    · have hm97 := ift hp14 h96
      refine c_reg ?_
      refine r_u (o_mv rfl) ?_
      refine r_u (o_bin rfl rfl (bP_eqp Try.underlying103)) ?_
      refine r_u (o_mv rfl) ?_
      refine r_s (s_y rfl rfl rfl (o_mv rfl)) ?_
      refine r_s (s_y rfl rfl rfl (o_lenS Try.underlying9 rfl)) ?_
      refine r_s (s_y rfl rfl rfl (o_bin rfl rfl (bI_gt (a1.length : Int) 64))) ?_
      refine r_u (o_pf rfl rfl rfl) ?_
      refine r_u (o_mv rfl) ?_
      refine r_s (s_n rfl rfl h96) ?_
      refine r_s (s_n rfl rfl h96) ?_
      refine r_s (s_n rfl rfl h96) ?_
      refine r_u (o_pt rfl h96 rfl) ?_
      refine r_nil ?_
      obtain rfl := Option.some.inj hm97
      exact x_sub (K16 (⟨(pv1, g2), (pv4, g5)⟩ : tiny_Tiny.G)) ⟨rfl, rfl, rfl, trivial⟩ (fun _ h => st_pk 3 [0, 1, 2] (by decide) h)
    · have hm97 := iff_ hp14 h96
      refine c_reg ?_
      refine r_u (o_mv rfl) ?_
      refine r_u (o_bin rfl rfl (bP_eqp Try.underlying103)) ?_
      refine r_u (o_mv rfl) ?_
      refine r_s (s_y rfl rfl rfl (o_mv rfl)) ?_
      refine r_s (s_y rfl rfl rfl (o_lenS Try.underlying9 rfl)) ?_
      refine r_s (s_y rfl rfl rfl (o_bin rfl rfl (bI_gt (a1.length : Int) 64))) ?_
      refine r_u (o_pf rfl rfl rfl) ?_
      refine r_u (o_mv rfl) ?_
      refine r_s (s_y rfl rfl h96 (o_mv rfl)) ?_
      refine r_s (s_y rfl rfl h96 (o_mv rfl)) ?_
      obtain ⟨r98, hr98, hm106⟩ := bs hm97
      refine r_sw (s_yw rfl rfl h96 (o_call ca63 rfl (tiny_Tiny_Touch.ok b0_ a0 (⟨(pv1, g2), (pv4, g5)⟩ : tiny_Tiny.G) a1 r98 hr98))) ?_
      rintro _ R _ _ ⟨⟨⟨pv101, g102⟩, ⟨pv104, g105⟩⟩, rfl, rfl, rfl⟩
      refine r_u (o_pf rfl h96 rfl) ?_
      refine r_nil ?_
      obtain rfl := Option.some.inj hm106
      exact x_sub (K16 (⟨(pv101, g102), (pv104, g105)⟩ : tiny_Tiny.G)) ⟨rfl, rfl, rfl, trivial⟩ (fun _ h => st_pk 3 [0, 1, 2] (by decide) h)

end Go.Proofs.Ythngfieikhillaa
