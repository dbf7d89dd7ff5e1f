import Derived.Test.YtpanhdnglicknaaW1
import Derived.Test.YtpanhdnglicknaaFacts
import Derived.Test.YtpanhdnglicknaaHwZ
set_option linter.unusedVariables false
set_option linter.unusedSectionVars false
set_option linter.unusedSimpArgs false
set_option maxRecDepth 100000
set_option maxHeartbeats 8000000
namespace Go.Proofs.Ytpanhdnglicknaa
open Go Go.Proofs.Ytpanhdnglicknaa.Hw
def policy_Policy_Remove (a0 : policy_Policy) (a1 : Str) : Option (Bool × policy_Policy) :=
  if ((policy_Policy_Kind a0) == 1) then om a0.a (none) fun x8 => (arc_Arc_Remove x8 a1).bind fun r15 => some (r15.1, (⟨a0.kind, (some r15.2), a0.t⟩ : policy_Policy)) else if ((policy_Policy_Kind a0) == 2) then om a0.t (none) fun x23 => (tiny_Tiny_Remove x23 a1).bind fun r33 => some (r33.1, (⟨a0.kind, a0.a, (some r33.2)⟩ : policy_Policy)) else some (false, a0)
theorem policy_Policy_Remove.ok {G R F} (b0_ : Nat) (a0 : policy_Policy) (g0_ : policy_Policy.G) (a1 : Str) (r : Bool × policy_Policy) (hm : policy_Policy_Remove a0 a1 = some r) : CO Try.prog 18 [pt b0_ 0, vS a1] G R (Bk b0_ 72 [vI a0.kind, g0_.a.1, g0_.t.1] :: rO (arc_Arc.op g0_.a.2) g0_.a.1 a0.a :: rO (tiny_Tiny.op g0_.t.2) g0_.t.1 a0.t :: F)
    (Ret fun u R' L' => ∃ (q0 : policy_Policy.G), u = vB r.1 ∧ R' = R ∧ L' = Bk b0_ 72 [vI r.2.kind, q0.a.1, q0.t.1] :: rO (arc_Arc.op q0.a.2) q0.a.1 r.2.a :: rO (tiny_Tiny.op q0.t.2) q0.t.1 r.2.t :: F) := by
  obtain ⟨⟨pv1, g2⟩, ⟨pv4, g5⟩⟩ := g0_
  unfold policy_Policy_Remove at hm
  refine co_ofN (N := 23) Try.func18 rfl rfl ?_
  refine c_seq ?_
  refine c_reg ?_
  refine r_u (o_as rfl) ?_
  refine r_nil ?_
  refine x_seq ?_
  refine c_seq ?_
  refine c_seq ?_
  refine c_reg ?_
  refine r_u (o_mv rfl) ?_
  refine r_c (s_w (o_call ca27 rfl (policy_Policy_Kind.ok b0_ a0 (⟨(pv1, g2), (pv4, g5)⟩ : policy_Policy.G) _ rfl))) ?_
  refine r_nil ?_
  refine x_seq ?_
  refine c_blk ?_
  refine c_seq ?_
  refine c_reg ?_
  refine r_u (o_bin rfl rfl (bI_eq (policy_Policy_Kind a0) 1)) ?_
  refine r_u (o_as rfl) ?_
  refine r_nil ?_
  refine x_seq ?_
  refine c_if (b := ((policy_Policy_Kind a0) == 1)) rfl (fun h6 => ?_) fun h6 => ?_
  · have hm7 := ift hm h6
    clear hm
    refine c_seq ?_
    refine cd_st (fun _ h => mv1 h) ?_
    refine cd_opt (fun ho10 => ?_) (fun x8 b9 ho10 => ?_)
    · rintro rfl
      have hm11 := om_n hm7 ho10
      clear hm7
      cases hm11
    · rintro rfl
      have hm11 := om_s hm7 ho10
      clear hm7
      obtain ⟨⟨pv13, g14⟩⟩ := g2
      refine cd_st (fun _ h => st_star_o h) ?_
      refine c_reg ?_
      refine r_u (o_mv rfl) ?_
      refine r_u (o_nc rfl) ?_
      refine r_u (o_fa fa72_1 rfl) ?_
      refine r_u (o_ld 2 sc69 rfl rfl rfl) ?_
      refine r_u (o_mv rfl) ?_
      obtain ⟨r15, hr15, hm20⟩ := bs hm11
      clear hm11
      refine r_sw (s_w (o_call ca28 rfl (arc_Arc_Remove.ok b9 x8 (⟨(pv13, g14)⟩ : arc_Arc.G) a1 r15 hr15))) ?_
      rintro _ R _ _ ⟨⟨⟨pv18, g19⟩⟩, rfl, rfl, rfl⟩
      refine r_u (o_as rfl) ?_
      refine r_nil ?_
      refine x_seq ?_
      refine c_ret ?_
      refine ex_st (fun _ h => st_some (f := arc_Arc.op (⟨(pv18, g19)⟩ : arc_Arc.G)) (a := r15.2) (st_star_f (A := arc_Arc.fl b9 r15.2 (⟨(pv18, g19)⟩ : arc_Arc.G)) h)) ?_
      obtain rfl := Option.some.inj hm20
      refine ex_st (fun _ h => st_pk 3 [1, 0, 2] (by decide) h) ?_
      exact x_r1 rfl (rv_t rfl) (Le.refl _) ⟨_, rfl, (⟨(pt b9 0, (⟨(pv18, g19)⟩ : arc_Arc.G)), (pv4, g5)⟩ : policy_Policy.G), rfl, rfl, rfl⟩
  · have hm7 := iff_ hm h6
    clear hm
    refine c_seq ?_
    refine c_reg ?_
    refine r_u (o_bin rfl rfl (bI_eq (policy_Policy_Kind a0) 2)) ?_
    refine r_u (o_as rfl) ?_
    refine r_nil ?_
    refine x_seq ?_
    refine c_if (b := ((policy_Policy_Kind a0) == 2)) rfl (fun h21 => ?_) fun h21 => ?_
    · have hm22 := ift hm7 h21
      clear hm7
      refine c_seq ?_
      refine cd_st (fun _ h => mv2 h) ?_
      refine cd_opt (fun ho25 => ?_) (fun x23 b24 ho25 => ?_)
      · rintro rfl
        have hm26 := om_n hm22 ho25
        clear hm22
        cases hm26
      · rintro rfl
        have hm26 := om_s hm22 ho25
        clear hm22
        obtain ⟨⟨pv28, g29⟩, ⟨pv31, g32⟩⟩ := g5
        refine cd_st (fun _ h => st_star_o h) ?_
        refine c_reg ?_
        refine r_u (o_mv rfl) ?_
        refine r_u (o_nc rfl) ?_
        refine r_u (o_fa fa72_2 rfl) ?_
        refine r_u (o_ld 3 sc70 rfl rfl rfl) ?_
        refine r_u (o_mv rfl) ?_
        obtain ⟨r33, hr33, hm41⟩ := bs hm26
        clear hm26
        refine r_sw (s_w (o_call ca29 rfl (tiny_Tiny_Remove.ok b24 x23 (⟨(pv28, g29), (pv31, g32)⟩ : tiny_Tiny.G) a1 r33 hr33))) ?_
        rintro _ R _ _ ⟨⟨⟨pv36, g37⟩, ⟨pv39, g40⟩⟩, rfl, rfl, rfl⟩
        refine r_u (o_as rfl) ?_
        refine r_nil ?_
        refine x_seq ?_
        refine c_ret ?_
        refine ex_st (fun _ h => st_some (f := tiny_Tiny.op (⟨(pv36, g37), (pv39, g40)⟩ : tiny_Tiny.G)) (a := r33.2) (st_star_f (A := tiny_Tiny.fl b24 r33.2 (⟨(pv36, g37), (pv39, g40)⟩ : tiny_Tiny.G)) h)) ?_
        obtain rfl := Option.some.inj hm41
        refine ex_st (fun _ h => st_pk 3 [1, 2, 0] (by decide) h) ?_
        exact x_r1 rfl (rv_t rfl) (Le.refl _) ⟨_, rfl, (⟨(pv1, g2), (pt b24 0, (⟨(pv36, g37), (pv39, g40)⟩ : tiny_Tiny.G))⟩ : policy_Policy.G), rfl, rfl, rfl⟩
    · have hm22 := iff_ hm7 h21
      clear hm7
      refine c_skip ?_
      refine x_blk ?_
      refine x_seq ?_
      refine c_seq ?_
      refine c_reg ?_
      refine r_u (o_as rfl) ?_
      refine r_nil ?_
      refine x_seq ?_
      refine c_ret ?_
      obtain rfl := Option.some.inj hm22
      exact x_r1 rfl (rv_t rfl) (Le.refl _) ⟨_, rfl, (⟨(pv1, g2), (pv4, g5)⟩ : policy_Policy.G), rfl, rfl, rfl⟩

def tiny_Tiny_Has (a0 : tiny_Tiny) (a1 : Str) : Option Bool :=
  om a0.r (none) fun x6 => (ring_Rings_In x6 a1).bind fun r14 => some r14.2
theorem tiny_Tiny_Has.ok {G R F} (b0_ : Nat) (a0 : tiny_Tiny) (g0_ : tiny_Tiny.G) (a1 : Str) (r : Bool) (hm : tiny_Tiny_Has a0 a1 = some r) : CO Try.prog 41 [pt b0_ 0, vS a1] G R (Bk b0_ 98 [vI a0.most, g0_.s.1, g0_.r.1] :: rO (sketch_Sketch.op g0_.s.2) g0_.s.1 a0.s :: rO (ring_Rings.op g0_.r.2) g0_.r.1 a0.r :: F)
    (Ret fun u R' L' => u = vB r ∧ R' = R ∧ L' = Bk b0_ 98 [vI a0.most, g0_.s.1, g0_.r.1] :: rO (sketch_Sketch.op g0_.s.2) g0_.s.1 a0.s :: rO (ring_Rings.op g0_.r.2) g0_.r.1 a0.r :: F) := by
  obtain ⟨⟨pv1, g2⟩, ⟨pv4, g5⟩⟩ := g0_
  unfold tiny_Tiny_Has at hm
  refine co_ofN (N := 19) Try.func41 rfl rfl ?_
  refine c_seq ?_
  refine c_reg ?_
  refine r_u (o_as rfl) ?_
  refine r_nil ?_
  refine x_seq ?_
  refine c_seq ?_
  refine c_seq ?_
  refine c_reg ?_
  refine r_u (o_mv rfl) ?_
  refine r_u (o_bin rfl rfl (bP_eqp Try.underlying70)) ?_
  refine r_nil ?_
  refine x_seq ?_
  refine c_ff rfl ?_
  refine c_skip ?_
  refine x_seq ?_
  refine c_seq ?_
  refine cd_st (fun _ h => mv2 h) ?_
  refine cd_opt (fun ho8 => ?_) (fun x6 b7 ho8 => ?_)
  · rintro rfl
    have hm9 := om_n hm ho8
    clear hm
    cases hm9
  · rintro rfl
    have hm9 := om_s hm ho8
    clear hm
    refine cd_st (fun _ h => st_star_o h) ?_
    refine c_reg ?_
    refine r_u (o_mv rfl) ?_
    refine r_u (o_nc rfl) ?_
    refine r_u (o_fa fa98_2 rfl) ?_
    refine r_u (o_ld 5 sc88 rfl rfl rfl) ?_
    refine r_u (o_mv rfl) ?_
    obtain ⟨r14, hr14, hm15⟩ := bs hm9
    clear hm9
    refine r_c (s_w (o_call ca52 rfl (ring_Rings_In.ok b7 x6 g5 a1 r14 hr14))) ?_
    refine r_u (o_mv rfl) ?_
    refine r_u (o_ext rfl rfl) ?_
    refine r_u (o_ext rfl rfl) ?_
    refine r_u (o_as rfl) ?_
    refine r_u (o_as rfl) ?_
    refine r_nil ?_
    refine x_seq ?_
    refine c_seq ?_
    refine c_reg ?_
    refine r_u (o_mv rfl) ?_
    refine r_u (o_as rfl) ?_
    refine r_nil ?_
    refine x_seq ?_
    refine c_ret ?_
    refine ex_st (fun _ h => st_some (f := ring_Rings.op g5) (a := x6) (st_star_f (A := ring_Rings.fl b7 x6 g5) h)) ?_
    refine ex_st (fun _ h => st_back ho8 h) ?_
    obtain rfl := Option.some.inj hm15
    refine ex_st (fun _ h => st_pk 3 [1, 2, 0] (by decide) h) ?_
    exact x_r1 rfl (rv_t rfl) (Le.refl _) ⟨_, rfl, rfl, rfl, rfl⟩

def bits_RotateLeft64 (a0 : UInt64) (a1 : Int) : UInt64 :=
  (shWl a0 (((toW a1) &&& 63).toNat : Int)) ||| (shWr a0 ((64 - ((toW a1) &&& 63)).toNat : Int))
theorem bits_RotateLeft64.ok {G R F} (a0 : UInt64) (a1 : Int) (r : UInt64) (hm : bits_RotateLeft64 a0 a1 = r) : CO Try.prog 100 [vW a0, vI a1] G R (F)
    (Ret fun u R' L' => u = vW r ∧ R' = R ∧ L' = F) := by
  unfold bits_RotateLeft64 at hm
  refine co_ofN (N := 17) Try.func100 rfl rfl ?_
  refine c_seq ?_
  refine c_reg ?_
  refine r_u (o_as rfl) ?_
  refine r_nil ?_
  refine x_seq ?_
  refine c_seq ?_
  refine c_reg ?_
  refine r_u (o_mv rfl) ?_
  refine r_u (o_cv rfl (cIW Try.underlying3 Try.underlying127 a1)) ?_
  refine r_u (o_bin rfl rfl (bW_and (toW a1) 63)) ?_
  refine r_u (o_as rfl) ?_
  refine r_nil ?_
  refine x_seq ?_
  refine c_seq ?_
  refine c_reg ?_
  refine r_u (o_mv rfl) ?_
  refine r_u (o_mv rfl) ?_
  refine r_u (o_bin rfl rfl (bWW_shl a0 ((toW a1) &&& 63))) ?_
  refine r_u (o_mv rfl) ?_
  refine r_u (o_mv rfl) ?_
  refine r_u (o_bin rfl rfl (bW_sub 64 ((toW a1) &&& 63))) ?_
  refine r_u (o_bin rfl rfl (bWW_shr a0 (64 - ((toW a1) &&& 63)))) ?_
  refine r_u (o_bin rfl rfl (bW_or (shWl a0 (((toW a1) &&& 63).toNat : Int)) (shWr a0 ((64 - ((toW a1) &&& 63)).toNat : Int)))) ?_
  refine r_u (o_as rfl) ?_
  refine r_nil ?_
  refine x_seq ?_
  refine c_ret ?_
  subst hm
  exact x_r1 rfl (rv_t rfl) (Le.refl _) ⟨_, rfl, rfl, rfl, rfl⟩

def mix_Mix (a0 : UInt64) : UInt64 :=
  ((bits_RotateLeft64 ((a0 ^^^ (shWr a0 ((32 : UInt64).toNat : Int))) * 11400714819323198485) 29) * 11400714819323198485) ^^^ (shWr ((bits_RotateLeft64 ((a0 ^^^ (shWr a0 ((32 : UInt64).toNat : Int))) * 11400714819323198485) 29) * 11400714819323198485) ((32 : UInt64).toNat : Int))
theorem mix_Mix.ok {G R F} (a0 : UInt64) (r : UInt64) (hm : mix_Mix a0 = r) : CO Try.prog 98 [vW a0] G R (F)
    (Ret fun u R' L' => u = vW r ∧ R' = R ∧ L' = F) := by
  unfold mix_Mix at hm
  refine co_ofN (N := 17) Try.func98 rfl rfl ?_
  refine c_seq ?_
  refine c_reg ?_
  refine r_u (o_as rfl) ?_
  refine r_nil ?_
  refine x_seq ?_
  refine c_seq ?_
  refine c_reg ?_
  refine r_u (o_mv rfl) ?_
  refine r_u (o_mv rfl) ?_
  refine r_u (o_bin rfl rfl (bWW_shr a0 32)) ?_
  refine r_u (o_bin rfl rfl (bW_xor a0 (shWr a0 ((32 : UInt64).toNat : Int)))) ?_
  refine r_u (o_as rfl) ?_
  refine r_nil ?_
  refine x_seq ?_
  refine c_seq ?_
  refine c_reg ?_
  refine r_u (o_mv rfl) ?_
  refine r_u (o_bin rfl rfl (bW_mul (a0 ^^^ (shWr a0 ((32 : UInt64).toNat : Int))) 11400714819323198485)) ?_
  refine r_u (o_as rfl) ?_
  refine r_nil ?_
  refine x_seq ?_
  refine c_seq ?_
  refine c_reg ?_
  refine r_u (o_mv rfl) ?_
  refine r_u (o_callq ca100 rfl (bits_RotateLeft64.ok ((a0 ^^^ (shWr a0 ((32 : UInt64).toNat : Int))) * 11400714819323198485) 29 _ rfl)) ?_
  refine r_u (o_as rfl) ?_
  refine r_nil ?_
  refine x_seq ?_
  refine c_seq ?_
  refine c_reg ?_
  refine r_u (o_mv rfl) ?_
  refine r_u (o_bin rfl rfl (bW_mul (bits_RotateLeft64 ((a0 ^^^ (shWr a0 ((32 : UInt64).toNat : Int))) * 11400714819323198485) 29) 11400714819323198485)) ?_
  refine r_u (o_as rfl) ?_
  refine r_nil ?_
  refine x_seq ?_
  refine c_seq ?_
  refine c_reg ?_
  refine r_u (o_mv rfl) ?_
  refine r_u (o_mv rfl) ?_
  refine r_u (o_bin rfl rfl (bWW_shr ((bits_RotateLeft64 ((a0 ^^^ (shWr a0 ((32 : UInt64).toNat : Int))) * 11400714819323198485) 29) * 11400714819323198485) 32)) ?_
  refine r_u (o_bin rfl rfl (bW_xor ((bits_RotateLeft64 ((a0 ^^^ (shWr a0 ((32 : UInt64).toNat : Int))) * 11400714819323198485) 29) * 11400714819323198485) (shWr ((bits_RotateLeft64 ((a0 ^^^ (shWr a0 ((32 : UInt64).toNat : Int))) * 11400714819323198485) 29) * 11400714819323198485) ((32 : UInt64).toNat : Int)))) ?_
  refine r_u (o_as rfl) ?_
  refine r_nil ?_
  refine x_seq ?_
  refine c_ret ?_
  subst hm
  exact x_r1 rfl (rv_t rfl) (Le.refl _) ⟨_, rfl, rfl, rfl, rfl⟩

def mix_Of_l0 (a1 : Str) : Nat → UInt64 → Int → Option (UInt64)
  | 0, _, _ => none
  | k9 + 1, h_7, s_8 => if decide (s_8 < (a1.length : Int)) then (gi a1 s_8).bind fun x14 => mix_Of_l0 a1 k9 ((h_7 ^^^ x14.toUInt64) * 1099511628211) (i64 (s_8 + 1)) else some h_7
def mix_Of (a0 : UInt64) (a1 : Str) : Option UInt64 :=
  if a1.length ≤ maxLen then Option.bind (mix_Of_l0 a1 (((a1.length : Int) - 0).toNat + 1) (14695981039346656037 ^^^ (mix_Mix a0)) 0) fun p3 => some (mix_Mix (p3 ^^^ (toW (a1.length : Int)))) else none
theorem mix_Of.ok {G R F} (a0 : UInt64) (a1 : Str) (r : UInt64) (hm : mix_Of a0 a1 = some r) : CO Try.prog 90 [vW a0, vS a1] G R (F)
    (Ret fun u R' L' => u = vW r ∧ R' = R ∧ L' = F) := by
  unfold mix_Of at hm
  refine co_ofN (N := 30) Try.func90 rfl rfl ?_
  refine c_seq ?_
  refine c_reg ?_
  refine r_u (o_as rfl) ?_
  refine r_nil ?_
  refine x_seq ?_
  refine c_seq ?_
  refine c_reg ?_
  refine r_u (o_mv rfl) ?_
  refine r_u (o_callq ca98 rfl (mix_Mix.ok a0 _ rfl)) ?_
  refine r_u (o_bin rfl rfl (bW_xor 14695981039346656037 (mix_Mix a0))) ?_
  refine r_u (o_as rfl) ?_
  refine r_nil ?_
  refine x_seq ?_
  refine c_seq ?_
  refine c_seq ?_
  refine c_reg ?_
  refine r_u (o_mv rfl) ?_
  obtain ⟨h0, hm2⟩ := ig hm
  clear hm
  refine r_sw (s_w (o_sb Try.underlying9 Try.underlying113 Try.underlying5 rfl h0)) ?_
  rintro v1 R _ _ ⟨rfl, rfl⟩
  refine r_u (o_lenO 0 Try.underlying113 rfl rfl) ?_
  refine r_u (o_mv rfl) ?_
  refine r_nil ?_
  refine x_seq ?_
  obtain ⟨p3, hp4, hm5⟩ := bs hm2
  refine cd_join (E' := [(1, vS a1), (5, vW p3)]) (L' := OwS false 5 1 eY v1 a1 :: F) ?_ fun K6 => ?_
  · refine x_seq ?_
    refine c_seq ?_
    refine c_reg ?_
    refine r_u (o_mv rfl) ?_
    refine r_u (o_mv rfl) ?_
    refine r_u (o_lenS Try.underlying9 rfl) ?_
    refine r_u (o_cv rfl (cIW Try.underlying3 Try.underlying22 (a1.length : Int))) ?_
    refine r_u (o_bin rfl rfl (bW_xor p3 (toW (a1.length : Int)))) ?_
    refine r_u (o_callq ca98 rfl (mix_Mix.ok (p3 ^^^ (toW (a1.length : Int))) _ rfl)) ?_
    refine r_u (o_as rfl) ?_
    refine r_nil ?_
    refine x_seq ?_
    refine c_ret ?_
    obtain rfl := Option.some.inj hm5
    refine ex_st (fun _ h => st_pk 1 [] (by decide) h) ?_
    exact x_r1 rfl (rv_t rfl) (Le.refl _) ⟨_, rfl, rfl, rfl, rfl⟩
  · refine c_blk ?_
    refine cd_loop (M := fun k9 (s : UInt64 × Int) => mix_Of_l0 a1 k9 s.1 s.2 = some p3) (Ef := fun (s : UInt64 × Int) => [(1, vS a1), (12, v1), (13, vI (a1.length : Int)), (5, vW s.1), (14, vI s.2)]) (Lf := fun (s : UInt64 × Int) => OwS false 5 1 eY v1 a1 :: F) (((a1.length : Int) - 0).toNat + 1) (14695981039346656037 ^^^ (mix_Mix a0), 0) hp4 ⟨rfl, rfl, rfl, rfl, rfl, trivial⟩ (fun _ h => h) (fun _ h => by cases h) fun k9 s hM11 => ?_
    obtain ⟨h_7, s_8⟩ := s
    have hm10 : mix_Of_l0 a1 (k9 + 1) h_7 s_8 = some p3 := hM11
    rw [mix_Of_l0] at hm10
    refine c_seq ?_
    refine c_reg ?_
    refine r_u (o_bin rfl rfl (bI_lt s_8 (a1.length : Int))) ?_
    refine r_nil ?_
    refine x_seq ?_
    refine c_seq ?_
    refine c_if (b := decide (s_8 < (a1.length : Int))) rfl (fun h12 => ?_) fun h12 => ?_
    · have hm13 := ift hm10 h12
      clear hm10
      refine c_skip ?_
      refine x_seq ?_
      refine c_seq ?_
      refine c_blk ?_
      refine c_seq ?_
      refine c_reg ?_
      obtain ⟨x14, hx14, hm15⟩ := bs hm13
      clear hm13
      refine r_u (o_ixO 0 Try.underlying113 (fun _ => by kernel_rfl) rfl rfl rfl hx14) ?_
      refine r_u (o_ldO0 0 sc5 rfl rfl hx14 rfl rfl) ?_
      refine r_u (o_as rfl) ?_
      refine r_nil ?_
      refine x_seq ?_
      refine c_reg ?_
      refine r_u (o_mv rfl) ?_
      refine r_u (o_mv rfl) ?_
      refine r_u (o_cv rfl (cYW Try.underlying5 Try.underlying22 x14)) ?_
      refine r_u (o_bin rfl rfl (bW_xor h_7 x14.toUInt64)) ?_
      refine r_u (o_bin rfl rfl (bW_mul (h_7 ^^^ x14.toUInt64) 1099511628211)) ?_
      refine r_u (o_as rfl) ?_
      refine r_nil ?_
      refine x_blk ?_
      refine x_seq ?_
      refine c_reg ?_
      refine r_u (o_bin rfl rfl (bI_add s_8 1)) ?_
      refine r_u (o_mv rfl) ?_
      refine r_nil ?_
      exact x_lp ((h_7 ^^^ x14.toUInt64) * 1099511628211, i64 (s_8 + 1)) hm15 ⟨rfl, rfl, rfl, rfl, rfl, trivial⟩ (fun _ h => st_pk 1 [0] (by decide) h)
    · have hm13 := iff_ hm10 h12
      clear hm10
      refine c_exit (x_exit (ks' := _) rfl ?_)
      obtain rfl := Option.some.inj hm13
      exact x_sub K6 ⟨rfl, rfl, trivial⟩ (fun _ h => st_pk 1 [0] (by decide) h)

def bits_Mul64 (a0 : UInt64) (a1 : UInt64) : UInt64 × UInt64 :=
  ((((shWr a0 ((32 : UInt64).toNat : Int)) * (shWr a1 ((32 : UInt64).toNat : Int))) + (shWr (((shWr a0 ((32 : UInt64).toNat : Int)) * (a1 &&& 4294967295)) + (shWr ((a0 &&& 4294967295) * (a1 &&& 4294967295)) ((32 : UInt64).toNat : Int))) ((32 : UInt64).toNat : Int))) + (shWr (((((shWr a0 ((32 : UInt64).toNat : Int)) * (a1 &&& 4294967295)) + (shWr ((a0 &&& 4294967295) * (a1 &&& 4294967295)) ((32 : UInt64).toNat : Int))) &&& 4294967295) + ((a0 &&& 4294967295) * (shWr a1 ((32 : UInt64).toNat : Int)))) ((32 : UInt64).toNat : Int)), a0 * a1)
theorem bits_Mul64.ok {G R F} (a0 : UInt64) (a1 : UInt64) (r : UInt64 × UInt64) (hm : bits_Mul64 a0 a1 = r) : CO Try.prog 97 [vW a0, vW a1] G R (F)
    (Ret fun u R' L' => u = .tuple #[vW r.1, vW r.2] ∧ R' = R ∧ L' = F) := by
  unfold bits_Mul64 at hm
  refine co_ofN (N := 51) Try.func97 rfl rfl ?_
  refine c_seq ?_
  refine c_reg ?_
  refine r_u (o_as rfl) ?_
  refine r_u (o_as rfl) ?_
  refine r_nil ?_
  refine x_seq ?_
  refine c_seq ?_
  refine c_reg ?_
  refine r_u (o_mv rfl) ?_
  refine r_u (o_bin rfl rfl (bW_and a0 4294967295)) ?_
  refine r_u (o_as rfl) ?_
  refine r_nil ?_
  refine x_seq ?_
  refine c_seq ?_
  refine c_reg ?_
  refine r_u (o_mv rfl) ?_
  refine r_u (o_bin rfl rfl (bWW_shr a0 32)) ?_
  refine r_u (o_as rfl) ?_
  refine r_nil ?_
  refine x_seq ?_
  refine c_seq ?_
  refine c_reg ?_
  refine r_u (o_mv rfl) ?_
  refine r_u (o_bin rfl rfl (bW_and a1 4294967295)) ?_
  refine r_u (o_as rfl) ?_
  refine r_nil ?_
  refine x_seq ?_
  refine c_seq ?_
  refine c_reg ?_
  refine r_u (o_mv rfl) ?_
  refine r_u (o_bin rfl rfl (bWW_shr a1 32)) ?_
  refine r_u (o_as rfl) ?_
  refine r_nil ?_
  refine x_seq ?_
  refine c_seq ?_
  refine c_reg ?_
  refine r_u (o_mv rfl) ?_
  refine r_u (o_mv rfl) ?_
  refine r_u (o_bin rfl rfl (bW_mul (a0 &&& 4294967295) (a1 &&& 4294967295))) ?_
  refine r_u (o_as rfl) ?_
  refine r_nil ?_
  refine x_seq ?_
  refine c_seq ?_
  refine c_reg ?_
  refine r_u (o_mv rfl) ?_
  refine r_u (o_mv rfl) ?_
  refine r_u (o_bin rfl rfl (bW_mul (shWr a0 ((32 : UInt64).toNat : Int)) (a1 &&& 4294967295))) ?_
  refine r_u (o_mv rfl) ?_
  refine r_u (o_bin rfl rfl (bWW_shr ((a0 &&& 4294967295) * (a1 &&& 4294967295)) 32)) ?_
  refine r_u (o_bin rfl rfl (bW_add ((shWr a0 ((32 : UInt64).toNat : Int)) * (a1 &&& 4294967295)) (shWr ((a0 &&& 4294967295) * (a1 &&& 4294967295)) ((32 : UInt64).toNat : Int)))) ?_
  refine r_u (o_as rfl) ?_
  refine r_nil ?_
  refine x_seq ?_
  refine c_seq ?_
  refine c_reg ?_
  refine r_u (o_mv rfl) ?_
  refine r_u (o_bin rfl rfl (bW_and (((shWr a0 ((32 : UInt64).toNat : Int)) * (a1 &&& 4294967295)) + (shWr ((a0 &&& 4294967295) * (a1 &&& 4294967295)) ((32 : UInt64).toNat : Int))) 4294967295)) ?_
  refine r_u (o_as rfl) ?_
  refine r_nil ?_
  refine x_seq ?_
  refine c_seq ?_
  refine c_reg ?_
  refine r_u (o_mv rfl) ?_
  refine r_u (o_bin rfl rfl (bWW_shr (((shWr a0 ((32 : UInt64).toNat : Int)) * (a1 &&& 4294967295)) + (shWr ((a0 &&& 4294967295) * (a1 &&& 4294967295)) ((32 : UInt64).toNat : Int))) 32)) ?_
  refine r_u (o_as rfl) ?_
  refine r_nil ?_
  refine x_seq ?_
  refine c_seq ?_
  refine c_reg ?_
  refine r_u (o_mv rfl) ?_
  refine r_u (o_mv rfl) ?_
  refine r_u (o_mv rfl) ?_
  refine r_u (o_bin rfl rfl (bW_mul (a0 &&& 4294967295) (shWr a1 ((32 : UInt64).toNat : Int)))) ?_
  refine r_u (o_bin rfl rfl (bW_add ((((shWr a0 ((32 : UInt64).toNat : Int)) * (a1 &&& 4294967295)) + (shWr ((a0 &&& 4294967295) * (a1 &&& 4294967295)) ((32 : UInt64).toNat : Int))) &&& 4294967295) ((a0 &&& 4294967295) * (shWr a1 ((32 : UInt64).toNat : Int))))) ?_
  refine r_u (o_as rfl) ?_
  refine r_nil ?_
  refine x_seq ?_
  refine c_seq ?_
  refine c_reg ?_
  refine r_u (o_mv rfl) ?_
  refine r_u (o_mv rfl) ?_
  refine r_u (o_bin rfl rfl (bW_mul (shWr a0 ((32 : UInt64).toNat : Int)) (shWr a1 ((32 : UInt64).toNat : Int)))) ?_
  refine r_u (o_mv rfl) ?_
  refine r_u (o_bin rfl rfl (bW_add ((shWr a0 ((32 : UInt64).toNat : Int)) * (shWr a1 ((32 : UInt64).toNat : Int))) (shWr (((shWr a0 ((32 : UInt64).toNat : Int)) * (a1 &&& 4294967295)) + (shWr ((a0 &&& 4294967295) * (a1 &&& 4294967295)) ((32 : UInt64).toNat : Int))) ((32 : UInt64).toNat : Int)))) ?_
  refine r_u (o_mv rfl) ?_
  refine r_u (o_bin rfl rfl (bWW_shr (((((shWr a0 ((32 : UInt64).toNat : Int)) * (a1 &&& 4294967295)) + (shWr ((a0 &&& 4294967295) * (a1 &&& 4294967295)) ((32 : UInt64).toNat : Int))) &&& 4294967295) + ((a0 &&& 4294967295) * (shWr a1 ((32 : UInt64).toNat : Int)))) 32)) ?_
  refine r_u (o_bin rfl rfl (bW_add (((shWr a0 ((32 : UInt64).toNat : Int)) * (shWr a1 ((32 : UInt64).toNat : Int))) + (shWr (((shWr a0 ((32 : UInt64).toNat : Int)) * (a1 &&& 4294967295)) + (shWr ((a0 &&& 4294967295) * (a1 &&& 4294967295)) ((32 : UInt64).toNat : Int))) ((32 : UInt64).toNat : Int))) (shWr (((((shWr a0 ((32 : UInt64).toNat : Int)) * (a1 &&& 4294967295)) + (shWr ((a0 &&& 4294967295) * (a1 &&& 4294967295)) ((32 : UInt64).toNat : Int))) &&& 4294967295) + ((a0 &&& 4294967295) * (shWr a1 ((32 : UInt64).toNat : Int)))) ((32 : UInt64).toNat : Int)))) ?_
  refine r_u (o_as rfl) ?_
  refine r_nil ?_
  refine x_seq ?_
  refine c_seq ?_
  refine c_reg ?_
  refine r_u (o_mv rfl) ?_
  refine r_u (o_mv rfl) ?_
  refine r_u (o_bin rfl rfl (bW_mul a0 a1)) ?_
  refine r_u (o_as rfl) ?_
  refine r_nil ?_
  refine x_seq ?_
  refine c_ret ?_
  subst hm
  exact x_r2 rfl (rv_t rfl) (rv_t rfl) (Le.refl _) ⟨_, rfl, rfl, rfl, rfl⟩

def mix_Place (a0 : UInt64) (a1 : Int) (a2 : Int) : Int :=
  if decide (a2 < 1) then 0 else lt (bits_Mul64 (mix_Mix (a0 + ((toW a1) * 11400714819323198485))) (toW a2)) fun r2 => i64 (r2.1.toNat : Int)
theorem mix_Place.ok {G R F} (a0 : UInt64) (a1 : Int) (a2 : Int) (r : Int) (hm : mix_Place a0 a1 a2 = r) : CO Try.prog 89 [vW a0, vI a1, vI a2] G R (F)
    (Ret fun u R' L' => u = vI r ∧ R' = R ∧ L' = F) := by
  unfold mix_Place at hm
  refine co_ofN (N := 25) Try.func89 rfl rfl ?_
  refine c_seq ?_
  refine c_reg ?_
  refine r_u (o_as rfl) ?_
  refine r_nil ?_
  refine x_seq ?_
  refine c_seq ?_
  refine c_seq ?_
  refine c_reg ?_
  refine r_u (o_mv rfl) ?_
  refine r_u (o_bin rfl rfl (bI_lt a2 1)) ?_
  refine r_nil ?_
  refine x_seq ?_
  refine c_if (b := decide (a2 < 1)) rfl (fun h0 => ?_) fun h0 => ?_
  · have hm1 := ift hm h0
    clear hm
    refine c_seq ?_
    refine c_reg ?_
    refine r_u (o_as rfl) ?_
    refine r_nil ?_
    refine x_seq ?_
    refine c_ret ?_
    subst hm1
    exact x_r1 rfl (rv_t rfl) (Le.refl _) ⟨_, rfl, rfl, rfl, rfl⟩
  · have hm1 := iff_ hm h0
    clear hm
    refine c_skip ?_
    refine x_seq ?_
    refine c_seq ?_
    refine c_reg ?_
    refine r_u (o_mv rfl) ?_
    refine r_u (o_mv rfl) ?_
    refine r_u (o_cv rfl (cIW Try.underlying3 Try.underlying22 a1)) ?_
    refine r_u (o_bin rfl rfl (bW_mul (toW a1) 11400714819323198485)) ?_
    refine r_u (o_bin rfl rfl (bW_add a0 ((toW a1) * 11400714819323198485))) ?_
    refine r_u (o_callq ca98 rfl (mix_Mix.ok (a0 + ((toW a1) * 11400714819323198485)) _ rfl)) ?_
    refine r_u (o_mv rfl) ?_
    refine r_u (o_cv rfl (cIW Try.underlying3 Try.underlying22 a2)) ?_
    obtain ⟨r2, hr2, hm3⟩ := ltx hm1
    clear hm1
    refine r_u (o_callq ca97 rfl (bits_Mul64.ok (mix_Mix (a0 + ((toW a1) * 11400714819323198485))) (toW a2) r2 hr2)) ?_
    refine r_u (o_mv rfl) ?_
    refine r_u (o_ext rfl rfl) ?_
    refine r_u (o_ext rfl rfl) ?_
    refine r_u (o_as rfl) ?_
    refine r_u (o_as rfl) ?_
    refine r_nil ?_
    refine x_seq ?_
    refine c_seq ?_
    refine c_reg ?_
    refine r_u (o_mv rfl) ?_
    refine r_u (o_cv rfl (cWI Try.underlying22 Try.underlying3 r2.1)) ?_
    refine r_u (o_as rfl) ?_
    refine r_nil ?_
    refine x_seq ?_
    refine c_ret ?_
    subst hm3
    exact x_r1 rfl (rv_t rfl) (Le.refl _) ⟨_, rfl, rfl, rfl, rfl⟩

def sketch_Sketch_place (a0 : sketch_Sketch) (a1 : Str) (a2 : Int) : Option Int :=
  (mix_Of a0.seed a1).bind fun r2 => some (mix_Place r2 a2 a0.wide)
theorem sketch_Sketch_place.ok {G R F} (b0_ : Nat) (a0 : sketch_Sketch) (g0_ : sketch_Sketch.G) (a1 : Str) (a2 : Int) (r : Int) (hm : sketch_Sketch_place a0 a1 a2 = some r) : CO Try.prog 66 [pt b0_ 0, vS a1, vI a2] G R (Bk b0_ 116 [vI a0.wide, vW a0.seed, g0_.rows.1, g0_.rows.2.1, g0_.rows.2.2.1, g0_.rows.2.2.2, g0_.door, vI a0.added] :: OwL (OwS false 5 1 eY) [g0_.rows.1, g0_.rows.2.1, g0_.rows.2.2.1, g0_.rows.2.2.2] a0.rows :: OwS true 4 1 eB g0_.door a0.door :: F)
    (Ret fun u R' L' => u = vI r ∧ R' = R ∧ L' = Bk b0_ 116 [vI a0.wide, vW a0.seed, g0_.rows.1, g0_.rows.2.1, g0_.rows.2.2.1, g0_.rows.2.2.2, g0_.door, vI a0.added] :: OwL (OwS false 5 1 eY) [g0_.rows.1, g0_.rows.2.1, g0_.rows.2.2.1, g0_.rows.2.2.2] a0.rows :: OwS true 4 1 eB g0_.door a0.door :: F) := by
  unfold sketch_Sketch_place at hm
  refine co_ofN (N := 19) Try.func66 rfl rfl ?_
  refine c_seq ?_
  refine c_reg ?_
  refine r_u (o_as rfl) ?_
  refine r_nil ?_
  refine x_seq ?_
  refine c_seq ?_
  obtain ⟨r2, hr2, hm3⟩ := bs hm
  clear hm
  refine c_any mixed (effs := []) (V := []) ?_
  refine stage_ext [(0, pt b0_ 0), (1, pt b0_ 0), (2, pt b0_ 1), (3, vW a0.seed), (4, vS a1), (5, vW r2), (6, vI a2), (7, pt b0_ 0), (8, pt b0_ 0), (9, pt b0_ 0), (10, vI a0.wide), (11, vI (mix_Place r2 a2 a0.wide)), (12, vI (mix_Place r2 a2 a0.wide))] rfl ?_
  refine stage rfl rfl rfl rfl [0, 1, 3, 7, 0, 31, 0, 0, 128, 384, 896, 2047, 4095] [0, 1, 2, 3, 4, 5, 6, 7, 8, 9, 10, 11, 12] [] rfl rfl rfl (qc rfl rfl (s_u (o_mv rfl)) (qc rfl rfl (s_u (o_nc rfl)) (qc rfl rfl (s_u (o_fa fa116_1 rfl)) (qc rfl rfl (s_u (o_ld 0 sc22 rfl rfl rfl)) (qc rfl rfl (s_u (o_mv rfl)) (qc rfl rfl (s_u (o_callq ca90 rfl (mix_Of.ok a0.seed a1 r2 hr2))) (qc rfl rfl (s_u (o_mv rfl)) (qc rfl rfl (s_u (o_mv rfl)) (qc rfl rfl (s_u (o_nc rfl)) (qc rfl rfl (s_u (o_fa fa116_0 rfl)) (qc rfl rfl (s_u (o_ld 0 sc3 rfl rfl rfl)) (qc rfl rfl (s_u (o_callq ca89 rfl (mix_Place.ok r2 a2 a0.wide _ rfl))) (qc rfl rfl (s_u (o_as rfl)) qn))))))))))))) en ?_
  intro _
  refine ex_sub (E' := [(6, vI (mix_Place r2 a2 a0.wide))]) ⟨rfl, trivial⟩ ?_
  refine x_seq ?_
  refine c_ret ?_
  obtain rfl := Option.some.inj hm3
  exact x_r1 rfl (rv_t rfl) (Le.refl _) ⟨_, rfl, rfl, rfl, rfl⟩

def sketch_Sketch_least_l0 (a0 : sketch_Sketch) (a1 : Str) : Nat → UInt8 → Int → Option (UInt8)
  | 0, _, _ => none
  | k8 + 1, n_6, s_7 => if decide (s_7 < 4) then (gi a0.rows s_7).bind fun y13 => (sketch_Sketch_place a0 a1 s_7).bind fun r16 => (gi y13 r16).bind fun x18 => sketch_Sketch_least_l0 a0 a1 k8 (if x18 < n_6 then x18 else n_6) (i64 (s_7 + 1)) else some n_6
def sketch_Sketch_least (a0 : sketch_Sketch) (a1 : Str) : Option UInt8 :=
  Option.bind (sketch_Sketch_least_l0 a0 a1 5 15 0) fun p2 => some p2
theorem sketch_Sketch_least.ok {G R F} (b0_ : Nat) (a0 : sketch_Sketch) (g0_ : sketch_Sketch.G) (a1 : Str) (r : UInt8) (hm : sketch_Sketch_least a0 a1 = some r) : CO Try.prog 67 [pt b0_ 0, vS a1] G R (Bk b0_ 116 [vI a0.wide, vW a0.seed, g0_.rows.1, g0_.rows.2.1, g0_.rows.2.2.1, g0_.rows.2.2.2, g0_.door, vI a0.added] :: OwL (OwS false 5 1 eY) [g0_.rows.1, g0_.rows.2.1, g0_.rows.2.2.1, g0_.rows.2.2.2] a0.rows :: OwS true 4 1 eB g0_.door a0.door :: F)
    (Ret fun u R' L' => u = vY r ∧ R' = R ∧ L' = Bk b0_ 116 [vI a0.wide, vW a0.seed, g0_.rows.1, g0_.rows.2.1, g0_.rows.2.2.1, g0_.rows.2.2.2, g0_.door, vI a0.added] :: OwL (OwS false 5 1 eY) [g0_.rows.1, g0_.rows.2.1, g0_.rows.2.2.1, g0_.rows.2.2.2] a0.rows :: OwS true 4 1 eB g0_.door a0.door :: F) := by
  unfold sketch_Sketch_least at hm
  refine co_ofN (N := 26) Try.func67 rfl rfl ?_
  refine c_seq ?_
  refine c_reg ?_
  refine r_u (o_as rfl) ?_
  refine r_nil ?_
  refine x_seq ?_
  refine c_seq ?_
  refine c_reg ?_
  refine r_u (o_as rfl) ?_
  refine r_nil ?_
  refine x_seq ?_
  refine c_seq ?_
  refine c_seq ?_
  refine c_reg ?_
  refine r_u (o_mv rfl) ?_
  refine r_nil ?_
  refine x_seq ?_
  obtain ⟨p2, hp3, hm4⟩ := bs hm
  refine cd_join (E' := [(5, vY p2)]) (L' := Bk b0_ 116 [vI a0.wide, vW a0.seed, g0_.rows.1, g0_.rows.2.1, g0_.rows.2.2.1, g0_.rows.2.2.2, g0_.door, vI a0.added] :: OwL (OwS false 5 1 eY) [g0_.rows.1, g0_.rows.2.1, g0_.rows.2.2.1, g0_.rows.2.2.2] a0.rows :: OwS true 4 1 eB g0_.door a0.door :: F) ?_ fun K5 => ?_
  · refine x_seq ?_
    refine c_seq ?_
    refine c_reg ?_
    refine r_u (o_mv rfl) ?_
    refine r_u (o_as rfl) ?_
    refine r_nil ?_
    refine x_seq ?_
    refine c_ret ?_
    obtain rfl := Option.some.inj hm4
    exact x_r1 rfl (rv_t rfl) (Le.refl _) ⟨_, rfl, rfl, rfl, rfl⟩
  · refine c_blk ?_
    refine cd_loop (M := fun k8 (s : UInt8 × Int) => sketch_Sketch_least_l0 a0 a1 k8 s.1 s.2 = some p2) (Ef := fun (s : UInt8 × Int) => [(0, pt b0_ 0), (1, vS a1), (5, vY s.1), (7, vI s.2)]) (Lf := fun (s : UInt8 × Int) => Bk b0_ 116 [vI a0.wide, vW a0.seed, g0_.rows.1, g0_.rows.2.1, g0_.rows.2.2.1, g0_.rows.2.2.2, g0_.door, vI a0.added] :: OwL (OwS false 5 1 eY) [g0_.rows.1, g0_.rows.2.1, g0_.rows.2.2.1, g0_.rows.2.2.2] a0.rows :: OwS true 4 1 eB g0_.door a0.door :: F) 5 (15, 0) hp3 ⟨rfl, rfl, rfl, rfl, trivial⟩ (fun _ h => h) (fun _ h => by cases h) fun k8 s hM10 => ?_
    obtain ⟨n_6, s_7⟩ := s
    have hm9 : sketch_Sketch_least_l0 a0 a1 (k8 + 1) n_6 s_7 = some p2 := hM10
    rw [sketch_Sketch_least_l0] at hm9
    refine c_seq ?_
    refine c_reg ?_
    refine r_u (o_bin rfl rfl (bI_lt s_7 4)) ?_
    refine r_nil ?_
    refine x_seq ?_
    refine c_seq ?_
    refine c_if (b := decide (s_7 < 4)) rfl (fun h11 => ?_) fun h11 => ?_
    · have hm12 := ift hm9 h11
      clear hm9
      refine c_skip ?_
      refine x_seq ?_
      refine c_seq ?_
      refine c_blk ?_
      refine c_seq ?_
      refine c_reg ?_
      refine r_u (o_mv rfl) ?_
      refine r_u (o_as rfl) ?_
      refine r_nil ?_
      refine x_seq ?_
      obtain ⟨y13, hy13, hm15⟩ := bs hm12
      clear hm12
      refine cd_ex (fun w h => st_peek 1 hy13 rfl w h) fun u14 hu14 => ?_
      obtain ⟨r16, hr16, hm17⟩ := bs hm15
      clear hm15
      obtain ⟨x18, hx18, hm19⟩ := bs hm17
      clear hm17
      refine c_any mixed (effs := []) (V := []) ?_
      refine stage_ext [(0, vY n_6), (1, pt b0_ 0), (2, vI s_7), (3, pt b0_ 0), (4, pt b0_ 2), (5, pt b0_ (2 + s_7.toNat * 1)), (6, u14), (7, pt b0_ 0), (8, vS a1), (9, vI s_7), (10, vI r16), (11, pt (sb u14) (so u14 + r16.toNat * 1)), (12, vY x18), (13, vY (if x18 < n_6 then x18 else n_6)), (14, vY (if x18 < n_6 then x18 else n_6))] rfl ?_
      refine stage rfl rfl rfl rfl [0, 0, 0, 2, 10, 30, 62, 0, 0, 0, 896, 2046, 4094, 8191, 16383] [0, 1, 2, 3, 4, 5, 6, 7, 8, 9, 10, 11, 12, 13, 14] [] rfl rfl rfl (qc rfl rfl (s_u (o_mv rfl)) (qc rfl rfl (s_u (o_mv rfl)) (qc rfl rfl (s_u (o_mv rfl)) (qc rfl rfl (s_u (o_nc rfl)) (qc rfl rfl (s_u (o_fa fa116_2 rfl)) (qc rfl rfl (s_u (o_ixA (sz := 1) Try.underlying114 (fun _ => by kernel_rfl) rfl rfl (gi_some hu14).1)) (qc rfl rfl (s_u (o_ldA (o := 2) (n := 4) 0 sc113 rfl rfl hu14)) (qc rfl rfl (s_u (o_mv rfl)) (qc rfl rfl (s_u (o_mv rfl)) (qc rfl rfl (s_u (o_mv rfl)) (qc rfl rfl (s_u (o_callqP ca66 rfl (sketch_Sketch_place.ok b0_ a0 g0_ a1 s_7 r16 hr16) (fun _ h => st_pk 3 [0, 1, 2] (by decide) h) (fun _ h => st_pk 3 [0, 1, 2] (by decide) h))) (qc rfl rfl (s_u (o_ixK (kn_in 1 rfl hu14 hy13) Try.underlying113 (fun _ => by kernel_rfl) rfl rfl hx18)) (qc rfl rfl (s_u (o_ldK (kn_in 1 rfl hu14 hy13) 0 sc5 rfl hx18 rfl rfl)) (qc rfl rfl (s_u (o_minY rfl rfl)) (qc rfl rfl (s_u (o_as rfl)) qn))))))))))))))) en ?_
      intro _
      refine ex_sub (E' := [(0, pt b0_ 0), (1, vS a1), (5, vY (if x18 < n_6 then x18 else n_6)), (7, vI s_7)]) ⟨rfl, rfl, rfl, rfl, trivial⟩ ?_
      refine x_blk ?_
      refine x_seq ?_
      refine c_reg ?_
      refine r_u (o_bin rfl rfl (bI_add s_7 1)) ?_
      refine r_u (o_mv rfl) ?_
      refine r_nil ?_
      exact x_lp ((if x18 < n_6 then x18 else n_6), i64 (s_7 + 1)) hm19 ⟨rfl, rfl, rfl, rfl, trivial⟩ (fun _ h => st_pk 3 [0, 1, 2] (by decide) h)
    · have hm12 := iff_ hm9 h11
      clear hm9
      refine c_exit (x_exit (ks' := _) rfl ?_)
      obtain rfl := Option.some.inj hm12
      exact x_sub K5 ⟨rfl, trivial⟩ (fun _ h => st_pk 3 [0, 1, 2] (by decide) h)

def sketch_Sketch_Age_l1 (s_6 : Int) (y17 : List UInt8) : Nat → Int → (List (List UInt8)) → Option (List (List UInt8))
  | 0, _, _ => none
  | k26 + 1, s_24, c_25 => if decide (s_24 < (y17.length : Int)) then (gi c_25 s_6).bind fun y31 => (gi y31 s_24).bind fun x34 => sketch_Sketch_Age_l1 s_6 y17 k26 (i64 (s_24 + 1)) (ls c_25 s_6 (ls y31 s_24 (x34 / 2))) else some c_25
def sketch_Sketch_Age_l0  : Nat → Int → (List (List UInt8)) → Option (List (List UInt8))
  | 0, _, _ => none
  | k8 + 1, s_6, c_7 => if decide (s_6 < 4) then Option.bind ((gi c_7 s_6).bind fun y17 => Option.bind (sketch_Sketch_Age_l1 s_6 y17 (((y17.length : Int) - 0).toNat + 1) 0 c_7) fun p20 => some p20) fun p13 => sketch_Sketch_Age_l0 k8 (i64 (s_6 + 1)) p13 else some c_7
def sketch_Sketch_Age (a0 : sketch_Sketch) : Option sketch_Sketch :=
  Option.bind (sketch_Sketch_Age_l0 5 0 a0.rows) fun p2 => some (⟨a0.wide, a0.seed, p2, List.replicate a0.door.length false, i64 (a0.added.tdiv 2)⟩ : sketch_Sketch)
theorem sketch_Sketch_Age.ok {G R F} (b0_ : Nat) (a0 : sketch_Sketch) (g0_ : sketch_Sketch.G) (r : sketch_Sketch) (hm : sketch_Sketch_Age a0 = some r) : CO Try.prog 68 [pt b0_ 0] G R (Bk b0_ 116 [vI a0.wide, vW a0.seed, g0_.rows.1, g0_.rows.2.1, g0_.rows.2.2.1, g0_.rows.2.2.2, g0_.door, vI a0.added] :: OwL (OwS false 5 1 eY) [g0_.rows.1, g0_.rows.2.1, g0_.rows.2.2.1, g0_.rows.2.2.2] a0.rows :: OwS true 4 1 eB g0_.door a0.door :: F)
    (Ret fun u R' L' => u = .tuple #[] ∧ R' = R ∧ L' = Bk b0_ 116 [vI r.wide, vW r.seed, g0_.rows.1, g0_.rows.2.1, g0_.rows.2.2.1, g0_.rows.2.2.2, g0_.door, vI r.added] :: OwL (OwS false 5 1 eY) [g0_.rows.1, g0_.rows.2.1, g0_.rows.2.2.1, g0_.rows.2.2.2] r.rows :: OwS true 4 1 eB g0_.door r.door :: F) := by
  unfold sketch_Sketch_Age at hm
  refine co_ofN (N := 43) Try.func68 rfl rfl ?_
  refine c_seq ?_
  refine c_seq ?_
  refine c_reg ?_
  refine r_u (o_mv rfl) ?_
  refine r_u (o_bin rfl rfl (bP_eqp Try.underlying93)) ?_
  refine r_nil ?_
  refine x_seq ?_
  refine c_ff rfl ?_
  refine c_skip ?_
  refine x_seq ?_
  refine c_seq ?_
  refine c_seq ?_
  refine c_reg ?_
  refine r_u (o_mv rfl) ?_
  refine r_nil ?_
  refine x_seq ?_
  obtain ⟨p2, hp3, hm4⟩ := bs hm
  refine cd_join (E' := [(0, pt b0_ 0)]) (L' := Bk b0_ 116 [vI a0.wide, vW a0.seed, g0_.rows.1, g0_.rows.2.1, g0_.rows.2.2.1, g0_.rows.2.2.2, g0_.door, vI a0.added] :: OwL (OwS false 5 1 eY) [g0_.rows.1, g0_.rows.2.1, g0_.rows.2.2.1, g0_.rows.2.2.2] p2 :: OwS true 4 1 eB g0_.door a0.door :: F) ?_ fun K5 => ?_
  · refine x_seq ?_
    refine c_seq ?_
    refine c_reg ?_
    refine r_u (o_mv rfl) ?_
    refine r_u (o_nc rfl) ?_
    refine r_u (o_fa fa116_3 rfl) ?_
    refine r_u (o_ld 0 sc112 rfl rfl rfl) ?_
    refine rl_st (fun _ h => mv2 h) ?_
    refine r_u0 (o_clr (e := 4) (z1 := false) Try.underlying112 rfl rfl rfl rfl ⟨_, rfl, rfl⟩ rfl rfl) ?_
    refine r_nil ?_
    refine x_seq ?_
    refine c_reg ?_
    refine r_u (o_mv rfl) ?_
    refine r_u (o_nc rfl) ?_
    refine r_u (o_fa fa116_4 rfl) ?_
    refine r_u (o_ld 1 sc3 rfl rfl rfl) ?_
    refine r_u (o_bin rfl rfl (bI_quo a0.added 2 (by decide))) ?_
    refine r_u (o_nc rfl) ?_
    refine r_u (o_fa fa116_4 rfl) ?_
    refine rl_st (fun _ h => mv1 h) ?_
    refine r_u0 (o_st sc3 rfl rfl rfl rfl rfl rfl) ?_
    refine r_nil ?_
    refine x_end ?_
    obtain rfl := Option.some.inj hm4
    refine ex_st (fun _ h => st_pk 3 [0, 2, 1] (by decide) h) ?_
    exact x_r0 rfl (Le.refl _) ⟨_, rfl, rfl, rfl, rfl⟩
  · refine c_blk ?_
    refine cd_loop (M := fun k8 (s : Int × List (List UInt8)) => sketch_Sketch_Age_l0 k8 s.1 s.2 = some p2) (Ef := fun (s : Int × List (List UInt8)) => [(0, pt b0_ 0), (6, vI s.1)]) (Lf := fun (s : Int × List (List UInt8)) => Bk b0_ 116 [vI a0.wide, vW a0.seed, g0_.rows.1, g0_.rows.2.1, g0_.rows.2.2.1, g0_.rows.2.2.2, g0_.door, vI a0.added] :: OwL (OwS false 5 1 eY) [g0_.rows.1, g0_.rows.2.1, g0_.rows.2.2.1, g0_.rows.2.2.2] s.2 :: OwS true 4 1 eB g0_.door a0.door :: F) 5 (0, a0.rows) hp3 ⟨rfl, rfl, trivial⟩ (fun _ h => h) (fun _ h => by cases h) fun k8 s hM10 => ?_
    obtain ⟨s_6, c_7⟩ := s
    have hm9 : sketch_Sketch_Age_l0 (k8 + 1) s_6 c_7 = some p2 := hM10
    rw [sketch_Sketch_Age_l0] at hm9
    refine c_seq ?_
    refine c_reg ?_
    refine r_u (o_bin rfl rfl (bI_lt s_6 4)) ?_
    refine r_nil ?_
    refine x_seq ?_
    refine c_seq ?_
    refine c_if (b := decide (s_6 < 4)) rfl (fun h11 => ?_) fun h11 => ?_
    · have hm12 := ift hm9 h11
      clear hm9
      refine c_skip ?_
      refine x_seq ?_
      refine c_seq ?_
      obtain ⟨p13, hp14, hm15⟩ := bs hm12
      refine cd_join (E' := [(0, pt b0_ 0), (6, vI s_6)]) (L' := Bk b0_ 116 [vI a0.wide, vW a0.seed, g0_.rows.1, g0_.rows.2.1, g0_.rows.2.2.1, g0_.rows.2.2.2, g0_.door, vI a0.added] :: OwL (OwS false 5 1 eY) [g0_.rows.1, g0_.rows.2.1, g0_.rows.2.2.1, g0_.rows.2.2.2] p13 :: OwS true 4 1 eB g0_.door a0.door :: F) ?_ fun K16 => ?_
      · refine x_seq ?_
        refine c_reg ?_
        refine r_u (o_bin rfl rfl (bI_add s_6 1)) ?_
        refine r_u (o_mv rfl) ?_
        refine r_nil ?_
        exact x_lp (i64 (s_6 + 1), p13) hm15 ⟨rfl, rfl, trivial⟩ (fun _ h => st_pk 3 [0, 1, 2] (by decide) h)
      · refine c_blk ?_
        refine c_seq ?_
        refine c_reg ?_
        refine r_u (o_mv rfl) ?_
        refine r_u (o_as rfl) ?_
        refine r_nil ?_
        refine x_seq ?_
        refine c_seq ?_
        refine c_reg ?_
        refine r_u (o_mv rfl) ?_
        refine r_u (o_mv rfl) ?_
        refine r_u (o_nc rfl) ?_
        refine r_u (o_fa fa116_2 rfl) ?_
        obtain ⟨y17, hy17, hm19⟩ := bs hp14
        clear hp14
        refine rl_ex (fun w h => st_peek 1 hy17 rfl w h) fun u18 hu18 => ?_
        refine r_u (o_ixA (sz := 1) Try.underlying114 (fun _ => by kernel_rfl) rfl rfl (gi_some hu18).1) ?_
        refine r_u (o_ldA (o := 2) (n := 4) 0 sc113 rfl rfl hu18) ?_
        refine r_u (o_lenK (kn_in 1 rfl hu18 hy17) Try.underlying113 rfl) ?_
        refine r_u (o_mv rfl) ?_
        refine r_nil ?_
        refine x_seq ?_
        obtain ⟨p20, hp21, hm22⟩ := bs hm19
        refine cd_join (E' := [(0, pt b0_ 0), (6, vI s_6)]) (L' := Bk b0_ 116 [vI a0.wide, vW a0.seed, g0_.rows.1, g0_.rows.2.1, g0_.rows.2.2.1, g0_.rows.2.2.2, g0_.door, vI a0.added] :: OwL (OwS false 5 1 eY) [g0_.rows.1, g0_.rows.2.1, g0_.rows.2.2.1, g0_.rows.2.2.2] p20 :: OwS true 4 1 eB g0_.door a0.door :: F) ?_ fun K23 => ?_
        · refine x_blk ?_
          obtain rfl := Option.some.inj hm22
          exact x_sub K16 ⟨rfl, rfl, trivial⟩ (fun _ h => st_pk 3 [0, 1, 2] (by decide) h)
        · refine c_blk ?_
          refine cd_loop (M := fun k26 (s : Int × List (List UInt8)) => sketch_Sketch_Age_l1 s_6 y17 k26 s.1 s.2 = some p20) (Ef := fun (s : Int × List (List UInt8)) => [(0, pt b0_ 0), (2, vI s_6), (6, vI s_6), (15, vI (y17.length : Int)), (16, vI s.1)]) (Lf := fun (s : Int × List (List UInt8)) => Bk b0_ 116 [vI a0.wide, vW a0.seed, g0_.rows.1, g0_.rows.2.1, g0_.rows.2.2.1, g0_.rows.2.2.2, g0_.door, vI a0.added] :: OwL (OwS false 5 1 eY) [g0_.rows.1, g0_.rows.2.1, g0_.rows.2.2.1, g0_.rows.2.2.2] s.2 :: OwS true 4 1 eB g0_.door a0.door :: F) (((y17.length : Int) - 0).toNat + 1) (0, c_7) hp21 ⟨rfl, rfl, rfl, rfl, rfl, trivial⟩ (fun _ h => h) (fun _ h => by cases h) fun k26 s hM28 => ?_
          obtain ⟨s_24, c_25⟩ := s
          have hm27 : sketch_Sketch_Age_l1 s_6 y17 (k26 + 1) s_24 c_25 = some p20 := hM28
          rw [sketch_Sketch_Age_l1] at hm27
          refine c_seq ?_
          refine c_reg ?_
          refine r_u (o_bin rfl rfl (bI_lt s_24 (y17.length : Int))) ?_
          refine r_nil ?_
          refine x_seq ?_
          refine c_seq ?_
          refine c_if (b := decide (s_24 < (y17.length : Int))) rfl (fun h29 => ?_) fun h29 => ?_
          · have hm30 := ift hm27 h29
            clear hm27
            refine c_skip ?_
            refine x_seq ?_
            refine c_seq ?_
            refine c_blk ?_
            refine c_seq ?_
            refine c_reg ?_
            refine r_u (o_mv rfl) ?_
            refine r_u (o_as rfl) ?_
            refine r_nil ?_
            refine x_seq ?_
            refine c_reg ?_
            refine r_u (o_mv rfl) ?_
            refine r_u (o_mv rfl) ?_
            refine r_u (o_nc rfl) ?_
            refine r_u (o_fa fa116_2 rfl) ?_
            obtain ⟨y31, hy31, hm33⟩ := bs hm30
            clear hm30
            refine rl_ex (fun w h => st_peek 1 hy31 rfl w h) fun u32 hu32 => ?_
            refine r_u (o_ixA (sz := 1) Try.underlying114 (fun _ => by kernel_rfl) rfl rfl (gi_some hu32).1) ?_
            refine r_u (o_ldA (o := 2) (n := 4) 0 sc113 rfl rfl hu32) ?_
            refine r_u (o_mv rfl) ?_
            obtain ⟨x34, hx34, hm35⟩ := bs hm33
            clear hm33
            refine r_u (o_ixK (kn_in 1 rfl hu32 hy31) Try.underlying113 (fun _ => by kernel_rfl) rfl rfl hx34) ?_
            refine r_u (o_ldK (kn_in 1 rfl hu32 hy31) 0 sc5 rfl hx34 rfl rfl) ?_
            refine r_u (o_bin rfl rfl (bY_quo x34 2 (by decide))) ?_
            refine r_u (o_ixK (kn_in 1 rfl hu32 hy31) Try.underlying113 (fun _ => by kernel_rfl) rfl rfl hx34) ?_
            refine rl_st (fun _ h => mv1 h) ?_
            refine r_u0 (o_stL (c' := x34 / 2) 0 hu32 hy31 sc5 rfl rfl rfl hx34 rfl rfl rfl) ?_
            refine r_nil ?_
            refine x_blk ?_
            refine x_seq ?_
            refine c_reg ?_
            refine r_u (o_bin rfl rfl (bI_add s_24 1)) ?_
            refine r_u (o_mv rfl) ?_
            refine r_nil ?_
            exact x_lp (i64 (s_24 + 1), ls c_25 s_6 (ls y31 s_24 (x34 / 2))) hm35 ⟨rfl, rfl, rfl, rfl, rfl, trivial⟩ (fun _ h => st_pk 3 [1, 0, 2] (by decide) h)
          · have hm30 := iff_ hm27 h29
            clear hm27
            refine c_exit (x_exit (ks' := _) rfl ?_)
            obtain rfl := Option.some.inj hm30
            exact x_sub K23 ⟨rfl, rfl, trivial⟩ (fun _ h => st_pk 3 [0, 1, 2] (by decide) h)
    · have hm12 := iff_ hm9 h11
      clear hm9
      refine c_exit (x_exit (ks' := _) rfl ?_)
      obtain rfl := Option.some.inj hm12
      exact x_sub K5 ⟨rfl, trivial⟩ (fun _ h => st_pk 3 [0, 1, 2] (by decide) h)

def sketch_Sketch_Add_l0 (a0 : sketch_Sketch) (a1 : Str) (r16 : UInt8) : Nat → Int → (List (List UInt8)) → Option (List (List UInt8))
  | 0, _, _ => none
  | k24 + 1, s_22, c_23 => if decide (s_22 < 4) then (sketch_Sketch_place (⟨a0.wide, a0.seed, c_23, a0.door, a0.added⟩ : sketch_Sketch) a1 s_22).bind fun r29 => (gi c_23 s_22).bind fun y31 => (gi y31 r29).bind fun x34 => Option.bind (if ((x34 == r16) && decide (r16 < 15)) then some (ls c_23 s_22 (ls y31 r29 (x34 + 1))) else some c_23) fun p36 => sketch_Sketch_Add_l0 a0 a1 r16 k24 (i64 (s_22 + 1)) p36 else some c_23
def sketch_Sketch_Add (a0 : sketch_Sketch) (a1 : Str) : Option sketch_Sketch :=
  (sketch_Sketch_place a0 a1 4).bind fun r2 => (gi a0.door r2).bind fun x4 => Option.bind (if !x4 then some (ls a0.door r2 true, a0.rows) else (sketch_Sketch_least a0 a1).bind fun r16 => Option.bind (sketch_Sketch_Add_l0 a0 a1 r16 5 0 a0.rows) fun p18 => some (a0.door, p18)) fun p6 => if decide ((i64 (10 * a0.wide)) ≤ (i64 (a0.added + 1))) then (sketch_Sketch_Age (⟨a0.wide, a0.seed, p6.2, p6.1, i64 (a0.added + 1)⟩ : sketch_Sketch)).bind fun r12 => some r12 else some (⟨a0.wide, a0.seed, p6.2, p6.1, i64 (a0.added + 1)⟩ : sketch_Sketch)
theorem sketch_Sketch_Add.ok {G R F} (b0_ : Nat) (a0 : sketch_Sketch) (g0_ : sketch_Sketch.G) (a1 : Str) (r : sketch_Sketch) (hm : sketch_Sketch_Add a0 a1 = some r) : CO Try.prog 54 [pt b0_ 0, vS a1] G R (Bk b0_ 116 [vI a0.wide, vW a0.seed, g0_.rows.1, g0_.rows.2.1, g0_.rows.2.2.1, g0_.rows.2.2.2, g0_.door, vI a0.added] :: OwL (OwS false 5 1 eY) [g0_.rows.1, g0_.rows.2.1, g0_.rows.2.2.1, g0_.rows.2.2.2] a0.rows :: OwS true 4 1 eB g0_.door a0.door :: F)
    (Ret fun u R' L' => u = .tuple #[] ∧ R' = R ∧ L' = Bk b0_ 116 [vI r.wide, vW r.seed, g0_.rows.1, g0_.rows.2.1, g0_.rows.2.2.1, g0_.rows.2.2.2, g0_.door, vI r.added] :: OwL (OwS false 5 1 eY) [g0_.rows.1, g0_.rows.2.1, g0_.rows.2.2.1, g0_.rows.2.2.2] r.rows :: OwS true 4 1 eB g0_.door r.door :: F) := by
  unfold sketch_Sketch_Add at hm
  refine co_ofN (N := 83) Try.func54 rfl rfl ?_
  refine c_seq ?_
  refine c_seq ?_
  refine c_reg ?_
  refine r_u (o_mv rfl) ?_
  refine r_u (o_bin rfl rfl (bP_eqp Try.underlying93)) ?_
  refine r_nil ?_
  refine x_seq ?_
  refine c_ff rfl ?_
  refine c_skip ?_
  refine x_seq ?_
  refine c_seq ?_
  refine c_seq ?_
  refine c_reg ?_
  refine r_u (o_mv rfl) ?_
  refine r_u (o_mv rfl) ?_
  obtain ⟨r2, hr2, hm3⟩ := bs hm
  clear hm
  refine r_c (s_w (o_call ca66 rfl (sketch_Sketch_place.ok b0_ a0 g0_ a1 4 r2 hr2))) ?_
  refine r_u (o_as rfl) ?_
  refine r_nil ?_
  refine x_seq ?_
  refine c_seq ?_
  refine c_reg ?_
  refine r_u (o_mv rfl) ?_
  refine r_u (o_nc rfl) ?_
  refine r_u (o_fa fa116_3 rfl) ?_
  refine r_u (o_ld 0 sc112 rfl rfl rfl) ?_
  refine r_u (o_mv rfl) ?_
  obtain ⟨x4, hx4, hm5⟩ := bs hm3
  clear hm3
  refine r_u (o_ixO 2 Try.underlying112 (fun _ => by kernel_rfl) rfl rfl rfl hx4) ?_
  refine r_u (o_ldO0 2 sc4 rfl rfl hx4 rfl rfl) ?_
  refine r_u (o_not rfl) ?_
  refine r_nil ?_
  refine x_seq ?_
  obtain ⟨p6, hp7, hm8⟩ := bs hm5
  refine cd_join (E' := [(0, pt b0_ 0)]) (L' := Bk b0_ 116 [vI a0.wide, vW a0.seed, g0_.rows.1, g0_.rows.2.1, g0_.rows.2.2.1, g0_.rows.2.2.2, g0_.door, vI a0.added] :: OwS true 4 1 eB g0_.door p6.1 :: OwL (OwS false 5 1 eY) [g0_.rows.1, g0_.rows.2.1, g0_.rows.2.2.1, g0_.rows.2.2.2] p6.2 :: F) ?_ fun K9 => ?_
  · refine x_seq ?_
    refine c_seq ?_
    refine c_reg ?_
    refine r_u (o_mv rfl) ?_
    refine r_u (o_nc rfl) ?_
    refine r_u (o_fa fa116_4 rfl) ?_
    refine r_u (o_ld 0 sc3 rfl rfl rfl) ?_
    refine r_u (o_bin rfl rfl (bI_add a0.added 1)) ?_
    refine r_u (o_nc rfl) ?_
    refine r_u (o_fa fa116_4 rfl) ?_
    refine r_u0 (o_st sc3 rfl rfl rfl rfl rfl rfl) ?_
    refine r_nil ?_
    refine x_seq ?_
    refine c_seq ?_
    refine c_any mixed (effs := []) (V := []) ?_
    refine stage_ext [(0, pt b0_ 0), (1, pt b0_ 0), (2, pt b0_ 7), (3, vI (i64 (a0.added + 1))), (4, pt b0_ 0), (5, pt b0_ 0), (6, pt b0_ 0), (7, vI a0.wide), (8, vI (i64 (10 * a0.wide))), (9, vB (decide ((i64 (10 * a0.wide)) ≤ (i64 (a0.added + 1)))))] rfl ?_
    refine stage rfl rfl rfl rfl [0, 1, 3, 7, 0, 16, 48, 112, 240, 511] [0, 1, 2, 3, 4, 5, 6, 7, 8, 9] [] rfl rfl rfl (qc rfl rfl (s_u (o_mv rfl)) (qc rfl rfl (s_u (o_nc rfl)) (qc rfl rfl (s_u (o_fa fa116_4 rfl)) (qc rfl rfl (s_u (o_ld 0 sc3 rfl rfl rfl)) (qc rfl rfl (s_u (o_mv rfl)) (qc rfl rfl (s_u (o_nc rfl)) (qc rfl rfl (s_u (o_fa fa116_0 rfl)) (qc rfl rfl (s_u (o_ld 0 sc3 rfl rfl rfl)) (qc rfl rfl (s_u (o_bin rfl rfl (bI_mul 10 a0.wide))) (qc rfl rfl (s_u (o_bin rfl rfl (bI_ge (i64 (a0.added + 1)) (i64 (10 * a0.wide))))) qn)))))))))) en ?_
    intro _
    refine ex_sub (E' := [(0, pt b0_ 0), (80, vB (decide ((i64 (10 * a0.wide)) ≤ (i64 (a0.added + 1)))))]) ⟨rfl, rfl, trivial⟩ ?_
    refine x_seq ?_
    refine c_if (b := decide ((i64 (10 * a0.wide)) ≤ (i64 (a0.added + 1)))) rfl (fun h10 => ?_) fun h10 => ?_
    · have hm11 := ift hm8 h10
      clear hm8
      refine c_reg ?_
      refine r_u (o_mv rfl) ?_
      obtain ⟨r12, hr12, hm13⟩ := bs hm11
      clear hm11
      refine rl_st (fun _ h => mv2 (mv2 (mv1 h))) ?_
      refine r_c (s_w (o_call ca68 rfl (sketch_Sketch_Age.ok b0_ (⟨a0.wide, a0.seed, p6.2, p6.1, i64 (a0.added + 1)⟩ : sketch_Sketch) g0_ r12 hr12))) ?_
      refine r_nil ?_
      refine x_end ?_
      obtain rfl := Option.some.inj hm13
      exact x_r0 rfl (Le.refl _) ⟨_, rfl, rfl, rfl, rfl⟩
    · have hm11 := iff_ hm8 h10
      clear hm8
      refine c_skip ?_
      refine x_end ?_
      obtain rfl := Option.some.inj hm11
      refine ex_st (fun _ h => st_pk 3 [0, 2, 1] (by decide) h) ?_
      exact x_r0 rfl (Le.refl _) ⟨_, rfl, rfl, rfl, rfl⟩
  · refine c_if (b := !x4) rfl (fun h14 => ?_) fun h14 => ?_
    · have hm15 := ift hp7 h14
      clear hp7
      refine c_reg ?_
      refine r_u (o_mv rfl) ?_
      refine r_u (o_nc rfl) ?_
      refine r_u (o_fa fa116_3 rfl) ?_
      refine r_u (o_ld 0 sc112 rfl rfl rfl) ?_
      refine r_u (o_mv rfl) ?_
      refine r_u (o_ixO 2 Try.underlying112 (fun _ => by kernel_rfl) rfl rfl rfl hx4) ?_
      refine rl_st (fun _ h => mv2 h) ?_
      refine r_u0 (o_stO0 (c' := true) sc4 rfl rfl rfl hx4 rfl rfl rfl) ?_
      refine r_nil ?_
      obtain rfl := Option.some.inj hm15
      exact x_sub K9 ⟨rfl, trivial⟩ (fun _ h => st_pk 3 [1, 0, 2] (by decide) h)
    · have hm15 := iff_ hp7 h14
      clear hp7
      refine c_seq ?_
      refine c_reg ?_
      refine r_u (o_mv rfl) ?_
      refine r_u (o_mv rfl) ?_
      obtain ⟨r16, hr16, hm17⟩ := bs hm15
      clear hm15
      refine r_c (s_w (o_call ca67 rfl (sketch_Sketch_least.ok b0_ a0 g0_ a1 r16 hr16))) ?_
      refine r_u (o_as rfl) ?_
      refine r_nil ?_
      refine x_seq ?_
      refine c_seq ?_
      refine c_reg ?_
      refine r_u (o_mv rfl) ?_
      refine r_nil ?_
      refine x_seq ?_
      obtain ⟨p18, hp19, hm20⟩ := bs hm17
      refine cd_join (E' := [(0, pt b0_ 0)]) (L' := Bk b0_ 116 [vI a0.wide, vW a0.seed, g0_.rows.1, g0_.rows.2.1, g0_.rows.2.2.1, g0_.rows.2.2.2, g0_.door, vI a0.added] :: OwL (OwS false 5 1 eY) [g0_.rows.1, g0_.rows.2.1, g0_.rows.2.2.1, g0_.rows.2.2.2] p18 :: OwS true 4 1 eB g0_.door a0.door :: F) ?_ fun K21 => ?_
      · obtain rfl := Option.some.inj hm20
        exact x_sub K9 ⟨rfl, trivial⟩ (fun _ h => st_pk 3 [0, 2, 1] (by decide) h)
      · refine c_blk ?_
        refine cd_loop (M := fun k24 (s : Int × List (List UInt8)) => sketch_Sketch_Add_l0 a0 a1 r16 k24 s.1 s.2 = some p18) (Ef := fun (s : Int × List (List UInt8)) => [(0, pt b0_ 0), (1, vS a1), (5, vY r16), (30, vI s.1)]) (Lf := fun (s : Int × List (List UInt8)) => Bk b0_ 116 [vI a0.wide, vW a0.seed, g0_.rows.1, g0_.rows.2.1, g0_.rows.2.2.1, g0_.rows.2.2.2, g0_.door, vI a0.added] :: OwL (OwS false 5 1 eY) [g0_.rows.1, g0_.rows.2.1, g0_.rows.2.2.1, g0_.rows.2.2.2] s.2 :: OwS true 4 1 eB g0_.door a0.door :: F) 5 (0, a0.rows) hp19 ⟨rfl, rfl, rfl, rfl, trivial⟩ (fun _ h => h) (fun _ h => by cases h) fun k24 s hM26 => ?_
        obtain ⟨s_22, c_23⟩ := s
        have hm25 : sketch_Sketch_Add_l0 a0 a1 r16 (k24 + 1) s_22 c_23 = some p18 := hM26
        rw [sketch_Sketch_Add_l0] at hm25
        refine c_seq ?_
        refine c_reg ?_
        refine r_u (o_bin rfl rfl (bI_lt s_22 4)) ?_
        refine r_nil ?_
        refine x_seq ?_
        refine c_seq ?_
        refine c_if (b := decide (s_22 < 4)) rfl (fun h27 => ?_) fun h27 => ?_
        · have hm28 := ift hm25 h27
          clear hm25
          refine c_skip ?_
          refine x_seq ?_
          refine c_seq ?_
          refine c_blk ?_
          refine c_seq ?_
          refine c_reg ?_
          refine r_u (o_mv rfl) ?_
          refine r_u (o_as rfl) ?_
          refine r_nil ?_
          refine x_seq ?_
          refine c_seq ?_
          refine c_reg ?_
          refine r_u (o_mv rfl) ?_
          refine r_u (o_mv rfl) ?_
          refine r_u (o_mv rfl) ?_
          obtain ⟨r29, hr29, hm30⟩ := bs hm28
          clear hm28
          refine r_c (s_w (o_call ca66 rfl (sketch_Sketch_place.ok b0_ (⟨a0.wide, a0.seed, c_23, a0.door, a0.added⟩ : sketch_Sketch) g0_ a1 s_22 r29 hr29))) ?_
          refine r_u (o_as rfl) ?_
          refine r_nil ?_
          refine x_seq ?_
          refine c_seq ?_
          refine c_reg ?_
          refine r_u (o_mv rfl) ?_
          refine r_u (o_mv rfl) ?_
          refine r_u (o_nc rfl) ?_
          refine r_u (o_fa fa116_2 rfl) ?_
          obtain ⟨y31, hy31, hm33⟩ := bs hm30
          clear hm30
          refine rl_ex (fun w h => st_peek 1 hy31 rfl w h) fun u32 hu32 => ?_
          refine r_u (o_ixA (sz := 1) Try.underlying114 (fun _ => by kernel_rfl) rfl rfl (gi_some hu32).1) ?_
          refine r_u (o_ldA (o := 2) (n := 4) 0 sc113 rfl rfl hu32) ?_
          refine r_u (o_mv rfl) ?_
          obtain ⟨x34, hx34, hm35⟩ := bs hm33
          clear hm33
          refine r_u (o_ixK (kn_in 1 rfl hu32 hy31) Try.underlying113 (fun _ => by kernel_rfl) rfl rfl hx34) ?_
          refine r_u (o_ldK (kn_in 1 rfl hu32 hy31) 0 sc5 rfl hx34 rfl rfl) ?_
          refine r_u (o_mv rfl) ?_
          refine r_u (o_bin rfl rfl (bY_eq x34 r16)) ?_
          refine r_u (o_mv rfl) ?_
          refine r_s (s_gt rfl rfl fun g => o_mv rfl) ?_
          refine r_s (s_gt rfl rfl fun g => o_bin (evg rfl g) rfl (bY_lt r16 15)) ?_
          refine r_u (o_and rfl rfl) ?_
          refine r_nil ?_
          refine x_seq ?_
          obtain ⟨p36, hp37, hm38⟩ := bs hm35
          refine cd_join (E' := [(0, pt b0_ 0), (1, vS a1), (5, vY r16), (30, vI s_22)]) (L' := Bk b0_ 116 [vI a0.wide, vW a0.seed, g0_.rows.1, g0_.rows.2.1, g0_.rows.2.2.1, g0_.rows.2.2.2, g0_.door, vI a0.added] :: OwL (OwS false 5 1 eY) [g0_.rows.1, g0_.rows.2.1, g0_.rows.2.2.1, g0_.rows.2.2.2] p36 :: OwS true 4 1 eB g0_.door a0.door :: F) ?_ fun K39 => ?_
          · refine x_blk ?_
            refine x_seq ?_
            refine c_reg ?_
            refine r_u (o_bin rfl rfl (bI_add s_22 1)) ?_
            refine r_u (o_mv rfl) ?_
            refine r_nil ?_
            exact x_lp (i64 (s_22 + 1), p36) hm38 ⟨rfl, rfl, rfl, rfl, trivial⟩ (fun _ h => st_pk 3 [0, 1, 2] (by decide) h)
          · refine c_if (b := ((x34 == r16) && decide (r16 < 15))) rfl (fun h40 => ?_) fun h40 => ?_
            · have hm41 := ift hp37 h40
              clear hp37
              refine c_reg ?_
              refine r_u (o_mv rfl) ?_
              refine r_u (o_mv rfl) ?_
              refine r_u (o_nc rfl) ?_
              refine r_u (o_fa fa116_2 rfl) ?_
              refine r_u (o_ixA (sz := 1) Try.underlying114 (fun _ => by kernel_rfl) rfl rfl (gi_some hu32).1) ?_
              refine r_u (o_ldA (o := 2) (n := 4) 0 sc113 rfl rfl hu32) ?_
              refine r_u (o_mv rfl) ?_
              refine r_u (o_ixK (kn_in 1 rfl hu32 hy31) Try.underlying113 (fun _ => by kernel_rfl) rfl rfl hx34) ?_
              refine r_u (o_ldK (kn_in 1 rfl hu32 hy31) 0 sc5 rfl hx34 rfl rfl) ?_
              refine r_u (o_bin rfl rfl (bY_add x34 1)) ?_
              refine r_u (o_ixK (kn_in 1 rfl hu32 hy31) Try.underlying113 (fun _ => by kernel_rfl) rfl rfl hx34) ?_
              refine rl_st (fun _ h => mv1 h) ?_
              refine r_u0 (o_stL (c' := x34 + 1) 0 hu32 hy31 sc5 rfl rfl rfl hx34 rfl rfl rfl) ?_
              refine r_nil ?_
              obtain rfl := Option.some.inj hm41
              exact x_sub K39 ⟨rfl, rfl, rfl, rfl, trivial⟩ (fun _ h => st_pk 3 [1, 0, 2] (by decide) h)
            · have hm41 := iff_ hp37 h40
              clear hp37
              refine c_skip ?_
              obtain rfl := Option.some.inj hm41
              exact x_sub K39 ⟨rfl, rfl, rfl, rfl, trivial⟩ (fun _ h => st_pk 3 [0, 1, 2] (by decide) h)
        · have hm28 := iff_ hm25 h27
          clear hm25
          refine c_exit (x_exit (ks' := _) rfl ?_)
          obtain rfl := Option.some.inj hm28
          exact x_sub K21 ⟨rfl, trivial⟩ (fun _ h => st_pk 3 [0, 1, 2] (by decide) h)

def tiny_Tiny_Miss (a0 : tiny_Tiny) (a1 : Str) : Option tiny_Tiny :=
  if decide ((a1.length : Int) ≤ 64) then om a0.s (none) fun x8 => (sketch_Sketch_Add x8 a1).bind fun r14 => some (⟨a0.most, (some r14), a0.r⟩ : tiny_Tiny) else some a0
theorem tiny_Tiny_Miss.ok {G R F} (b0_ : Nat) (a0 : tiny_Tiny) (g0_ : tiny_Tiny.G) (a1 : Str) (r : tiny_Tiny) (hm : tiny_Tiny_Miss a0 a1 = some r) : CO Try.prog 42 [pt b0_ 0, vS a1] G R (Bk b0_ 98 [vI a0.most, g0_.s.1, g0_.r.1] :: rO (sketch_Sketch.op g0_.s.2) g0_.s.1 a0.s :: rO (ring_Rings.op g0_.r.2) g0_.r.1 a0.r :: F)
    (Ret fun u R' L' => u = .tuple #[] ∧ R' = R ∧ L' = Bk b0_ 98 [vI r.most, g0_.s.1, g0_.r.1] :: rO (sketch_Sketch.op g0_.s.2) g0_.s.1 r.s :: rO (ring_Rings.op g0_.r.2) g0_.r.1 r.r :: F) := by
  obtain ⟨⟨pv1, g2⟩, ⟨pv4, g5⟩⟩ := g0_
  unfold tiny_Tiny_Miss at hm
  refine co_ofN (N := 17) Try.func42 rfl rfl ?_
  refine c_seq ?_
  refine c_reg ?_
  refine r_u (o_mv rfl) ?_
  refine r_u (o_bin rfl rfl (bP_nep Try.underlying70)) ?_
  refine r_u (o_mv rfl) ?_
  refine r_s (s_y rfl rfl rfl (o_mv rfl)) ?_
  refine r_s (s_y rfl rfl rfl (o_lenS Try.underlying9 rfl)) ?_
  refine r_s (s_y rfl rfl rfl (o_bin rfl rfl (bI_le (a1.length : Int) 64))) ?_
  refine r_u (o_pt rfl rfl rfl) ?_
  refine r_nil ?_
  refine x_seq ?_
  refine c_if (b := decide ((a1.length : Int) ≤ 64)) rfl (fun h6 => ?_) fun h6 => ?_
  · have hm7 := ift hm h6
    clear hm
    refine cd_st (fun _ h => mv1 h) ?_
    refine cd_opt (fun ho10 => ?_) (fun x8 b9 ho10 => ?_)
    · rintro rfl
      have hm11 := om_n hm7 ho10
      clear hm7
      cases hm11
    · rintro rfl
      have hm11 := om_s hm7 ho10
      clear hm7
      refine cd_st (fun _ h => st_star_o h) ?_
      refine c_reg ?_
      refine r_u (o_mv rfl) ?_
      refine r_u (o_nc rfl) ?_
      refine r_u (o_fa fa98_1 rfl) ?_
      refine r_u (o_ld 3 sc93 rfl rfl rfl) ?_
      refine r_u (o_mv rfl) ?_
      obtain ⟨r14, hr14, hm15⟩ := bs hm11
      clear hm11
      refine r_c (s_w (o_call ca54 rfl (sketch_Sketch_Add.ok b9 x8 g2 a1 r14 hr14))) ?_
      refine r_nil ?_
      refine x_end ?_
      refine ex_st (fun _ h => st_some (f := sketch_Sketch.op g2) (a := r14) (st_star_f (A := sketch_Sketch.fl b9 r14 g2) h)) ?_
      obtain rfl := Option.some.inj hm15
      refine ex_st (fun _ h => st_pk 3 [1, 0, 2] (by decide) h) ?_
      exact x_r0 rfl (Le.refl _) ⟨_, rfl, rfl, rfl, rfl⟩
  · have hm7 := iff_ hm h6
    clear hm
    refine c_skip ?_
    refine x_end ?_
    obtain rfl := Option.some.inj hm7
    exact x_r0 rfl (Le.refl _) ⟨_, rfl, rfl, rfl, rfl⟩

end Go.Proofs.Ytpanhdnglicknaa
