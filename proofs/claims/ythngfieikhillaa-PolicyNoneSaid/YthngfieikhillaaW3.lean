import Derived.Test.YthngfieikhillaaW2
import Derived.Test.YthngfieikhillaaFacts
import Derived.Test.YthngfieikhillaaHwT
set_option linter.unusedVariables false
set_option linter.unusedSectionVars false
set_option linter.unusedSimpArgs false
set_option maxRecDepth 100000
set_option maxHeartbeats 8000000
namespace Go.Proofs.Ythngfieikhillaa
open Go Go.Proofs.Ythngfieikhillaa.Hw
def policy_Policy_Insert (a0 : policy_Policy) (a1 : Str) : Option (List Str × policy_Policy) :=
  if ((policy_Policy_Kind a0) == 1) then om a0.a (none) fun x8 => (arc_Arc_Insert x8 a1).bind fun r15 => some (r15.1, (⟨a0.kind, (some r15.2), a0.t⟩ : policy_Policy)) else if ((policy_Policy_Kind a0) == 2) then om a0.t (none) fun x24 => (tiny_Tiny_Insert x24 a1).bind fun r34 => some (r34.1, (⟨a0.kind, a0.a, (some r34.2)⟩ : policy_Policy)) else some ([], a0)
theorem policy_Policy_Insert.ok {G R F} (b0_ : Nat) (a0 : policy_Policy) (g0_ : policy_Policy.G) (a1 : Str) (r : List Str × policy_Policy) (hm : policy_Policy_Insert a0 a1 = some r) : CO Try.prog 32 [pt b0_ 0, vS a1] G R (Bk b0_ 105 [vI a0.kind, g0_.a.1, g0_.t.1] :: rO (arc_Arc.op g0_.a.2) g0_.a.1 a0.a :: rO (tiny_Tiny.op g0_.t.2) g0_.t.1 a0.t :: F)
    (Ret fun u R' L' => ∃ (p0 : Value) (q0 : policy_Policy.G), u = p0 ∧ R' = R ∧ L' = OwS true 9 1 eS p0 r.1 :: Bk b0_ 105 [vI r.2.kind, q0.a.1, q0.t.1] :: rO (arc_Arc.op q0.a.2) q0.a.1 r.2.a :: rO (tiny_Tiny.op q0.t.2) q0.t.1 r.2.t :: F) := by
  obtain ⟨⟨pv1, g2⟩, ⟨pv4, g5⟩⟩ := g0_
  unfold policy_Policy_Insert at hm
  refine co_ofN (N := 23) Try.func32 rfl rfl ?_
  refine c_seq ?_
  refine c_reg ?_
  refine r_u (o_as rfl) ?_
  refine r_nil ?_
  refine x_seq ?_
  refine c_seq ?_
  refine c_seq ?_
  refine c_reg ?_
  refine r_u (o_mv rfl) ?_
  refine r_c (s_w (o_call ca34 rfl (policy_Policy_Kind.ok b0_ a0 (⟨(pv1, g2), (pv4, g5)⟩ : policy_Policy.G) _ rfl))) ?_
  refine r_nil ?_
  refine x_seq ?_
  refine c_blk ?_
  refine c_seq ?_
  refine c_reg ?_
  refine r_u (o_bin rfl rfl (bI_eq (policy_Policy_Kind a0) 1)) ?_
  refine r_u (o_as rfl) ?_
  refine r_nil ?_
  refine x_seq ?_
  refine c_if (b := ((policy_Policy_Kind a0) == 1)) rfl (fun h6 => ?_) fun h6 => ?_
  · have hm7 := ift hm h6
    refine c_seq ?_
    refine cd_st (fun _ h => st_pk 3 [1, 0, 2] (by decide) h) ?_
    refine cd_opt (fun ho10 => ?_) (fun x8 b9 ho10 => ?_)
    · rintro rfl
      have hm11 := om_n hm7 ho10
      cases hm11
    · rintro rfl
      have hm11 := om_s hm7 ho10
      obtain ⟨⟨pv13, g14⟩⟩ := g2
      refine cd_st (fun _ h => st_star_o h) ?_
      refine c_reg ?_
      refine r_u (o_mv rfl) ?_
      refine r_u (o_nc rfl) ?_
      refine r_u (o_fa fa105_1 rfl) ?_
      refine r_u (o_ld 2 sc102 rfl rfl rfl) ?_
      refine r_u (o_mv rfl) ?_
      obtain ⟨r15, hr15, hm21⟩ := bs hm11
      refine r_sw (s_w (o_call ca64 rfl (arc_Arc_Insert.ok b9 x8 (⟨(pv13, g14)⟩ : arc_Arc.G) a1 r15 hr15))) ?_
      rintro v16 R _ _ ⟨_, ⟨⟨pv19, g20⟩⟩, rfl, rfl, rfl⟩
      refine r_u (o_as rfl) ?_
      refine r_nil ?_
      refine x_seq ?_
      refine c_ret ?_
      refine ex_st (fun _ h => st_pk 5 [1, 2, 0, 3, 4] (by decide) h) ?_
      refine ex_st (fun _ h => st_some (f := arc_Arc.op (⟨(pv19, g20)⟩ : arc_Arc.G)) (a := r15.2) (st_star_f (A := arc_Arc.fl b9 r15.2 (⟨(pv19, g20)⟩ : arc_Arc.G)) h)) ?_
      obtain rfl := Option.some.inj hm21
      refine ex_st (fun _ h => st_pk 4 [1, 2, 0, 3] (by decide) h) ?_
      exact x_r1 rfl (rv_t rfl) (Le.refl _) ⟨_, rfl, v16, (⟨(pt b9 0, (⟨(pv19, g20)⟩ : arc_Arc.G)), (pv4, g5)⟩ : policy_Policy.G), rfl, rfl, rfl⟩
  · have hm7 := iff_ hm h6
    refine c_seq ?_
    refine c_reg ?_
    refine r_u (o_bin rfl rfl (bI_eq (policy_Policy_Kind a0) 2)) ?_
    refine r_u (o_as rfl) ?_
    refine r_nil ?_
    refine x_seq ?_
    refine c_if (b := ((policy_Policy_Kind a0) == 2)) rfl (fun h22 => ?_) fun h22 => ?_
    · have hm23 := ift hm7 h22
      refine c_seq ?_
      refine cd_st (fun _ h => st_pk 3 [2, 0, 1] (by decide) h) ?_
      refine cd_opt (fun ho26 => ?_) (fun x24 b25 ho26 => ?_)
      · rintro rfl
        have hm27 := om_n hm23 ho26
        cases hm27
      · rintro rfl
        have hm27 := om_s hm23 ho26
        obtain ⟨⟨pv29, g30⟩, ⟨pv32, g33⟩⟩ := g5
        refine cd_st (fun _ h => st_star_o h) ?_
        refine c_reg ?_
        refine r_u (o_mv rfl) ?_
        refine r_u (o_nc rfl) ?_
        refine r_u (o_fa fa105_2 rfl) ?_
        refine r_u (o_ld 3 sc103 rfl rfl rfl) ?_
        refine r_u (o_mv rfl) ?_
        obtain ⟨r34, hr34, hm43⟩ := bs hm27
        refine r_sw (s_w (o_call ca65 rfl (tiny_Tiny_Insert.ok b25 x24 (⟨(pv29, g30), (pv32, g33)⟩ : tiny_Tiny.G) a1 r34 hr34))) ?_
        rintro v35 R _ _ ⟨_, ⟨⟨pv38, g39⟩, ⟨pv41, g42⟩⟩, rfl, rfl, rfl⟩
        refine r_u (o_as rfl) ?_
        refine r_nil ?_
        refine x_seq ?_
        refine c_ret ?_
        refine ex_st (fun _ h => st_pk 6 [1, 2, 3, 0, 4, 5] (by decide) h) ?_
        refine ex_st (fun _ h => st_some (f := tiny_Tiny.op (⟨(pv38, g39), (pv41, g42)⟩ : tiny_Tiny.G)) (a := r34.2) (st_star_f (A := tiny_Tiny.fl b25 r34.2 (⟨(pv38, g39), (pv41, g42)⟩ : tiny_Tiny.G)) h)) ?_
        obtain rfl := Option.some.inj hm43
        refine ex_st (fun _ h => st_pk 4 [1, 2, 3, 0] (by decide) h) ?_
        exact x_r1 rfl (rv_t rfl) (Le.refl _) ⟨_, rfl, v35, (⟨(pv1, g2), (pt b25 0, (⟨(pv38, g39), (pv41, g42)⟩ : tiny_Tiny.G))⟩ : policy_Policy.G), rfl, rfl, rfl⟩
    · have hm23 := iff_ hm7 h22
      refine c_skip ?_
      refine x_blk ?_
      refine x_seq ?_
      refine c_seq ?_
      refine c_reg ?_
      refine r_u (o_as rfl) ?_
      refine r_nil ?_
      refine x_seq ?_
      refine c_ret ?_
      refine ex_st (fun _ h => st_nil (ap := true) (T := 9) (sz := 1) (en := eS) h) ?_
      obtain rfl := Option.some.inj hm23
      exact x_r1 rfl (rv_t rfl) (Le.refl _) ⟨_, rfl, (.slice none 0 0), (⟨(pv1, g2), (pv4, g5)⟩ : policy_Policy.G), rfl, rfl, rfl⟩

def policy_Policy_Has (a0 : policy_Policy) (a1 : Str) : Option Bool :=
  if ((policy_Policy_Kind a0) == 1) then om a0.a (none) fun x8 => (arc_Arc_Has x8 a1).bind fun r15 => some r15 else if ((policy_Policy_Kind a0) == 2) then om a0.t (none) fun x19 => (tiny_Tiny_Has x19 a1).bind fun r29 => some r29 else some false
theorem policy_Policy_Has.ok {G R F} (b0_ : Nat) (a0 : policy_Policy) (g0_ : policy_Policy.G) (a1 : Str) (r : Bool) (hm : policy_Policy_Has a0 a1 = some r) : CO Try.prog 29 [pt b0_ 0, vS a1] G R (Bk b0_ 105 [vI a0.kind, g0_.a.1, g0_.t.1] :: rO (arc_Arc.op g0_.a.2) g0_.a.1 a0.a :: rO (tiny_Tiny.op g0_.t.2) g0_.t.1 a0.t :: F)
    (Ret fun u R' L' => u = vB r ∧ R' = R ∧ L' = Bk b0_ 105 [vI a0.kind, g0_.a.1, g0_.t.1] :: rO (arc_Arc.op g0_.a.2) g0_.a.1 a0.a :: rO (tiny_Tiny.op g0_.t.2) g0_.t.1 a0.t :: F) := by
  obtain ⟨⟨pv1, g2⟩, ⟨pv4, g5⟩⟩ := g0_
  unfold policy_Policy_Has at hm
  refine co_ofN (N := 23) Try.func29 rfl rfl ?_
  refine c_seq ?_
  refine c_reg ?_
  refine r_u (o_as rfl) ?_
  refine r_nil ?_
  refine x_seq ?_
  refine c_seq ?_
  refine c_seq ?_
  refine c_reg ?_
  refine r_u (o_mv rfl) ?_
  refine r_c (s_w (o_call ca34 rfl (policy_Policy_Kind.ok b0_ a0 (⟨(pv1, g2), (pv4, g5)⟩ : policy_Policy.G) _ rfl))) ?_
  refine r_nil ?_
  refine x_seq ?_
  refine c_blk ?_
  refine c_seq ?_
  refine c_reg ?_
  refine r_u (o_bin rfl rfl (bI_eq (policy_Policy_Kind a0) 1)) ?_
  refine r_u (o_as rfl) ?_
  refine r_nil ?_
  refine x_seq ?_
  refine c_if (b := ((policy_Policy_Kind a0) == 1)) rfl (fun h6 => ?_) fun h6 => ?_
  · have hm7 := ift hm h6
    refine c_seq ?_
    refine cd_st (fun _ h => st_pk 3 [1, 0, 2] (by decide) h) ?_
    refine cd_opt (fun ho10 => ?_) (fun x8 b9 ho10 => ?_)
    · rintro rfl
      have hm11 := om_n hm7 ho10
      cases hm11
    · rintro rfl
      have hm11 := om_s hm7 ho10
      obtain ⟨⟨pv13, g14⟩⟩ := g2
      refine cd_st (fun _ h => st_star_o h) ?_
      refine c_reg ?_
      refine r_u (o_mv rfl) ?_
      refine r_u (o_nc rfl) ?_
      refine r_u (o_fa fa105_1 rfl) ?_
      refine r_u (o_ld 2 sc102 rfl rfl rfl) ?_
      refine r_u (o_mv rfl) ?_
      obtain ⟨r15, hr15, hm16⟩ := bs hm11
      refine r_c (s_w (o_call ca59 rfl (arc_Arc_Has.ok b9 x8 (⟨(pv13, g14)⟩ : arc_Arc.G) a1 r15 hr15))) ?_
      refine r_u (o_as rfl) ?_
      refine r_nil ?_
      refine x_seq ?_
      refine c_ret ?_
      refine ex_st (fun _ h => st_some (f := arc_Arc.op (⟨(pv13, g14)⟩ : arc_Arc.G)) (a := x8) (st_star_f (A := arc_Arc.fl b9 x8 (⟨(pv13, g14)⟩ : arc_Arc.G)) h)) ?_
      refine ex_st (fun _ h => st_back ho10 h) ?_
      obtain rfl := Option.some.inj hm16
      refine ex_st (fun _ h => st_pk 3 [1, 0, 2] (by decide) h) ?_
      exact x_r1 rfl (rv_t rfl) (Le.refl _) ⟨_, rfl, rfl, rfl, rfl⟩
  · have hm7 := iff_ hm h6
    refine c_seq ?_
    refine c_reg ?_
    refine r_u (o_bin rfl rfl (bI_eq (policy_Policy_Kind a0) 2)) ?_
    refine r_u (o_as rfl) ?_
    refine r_nil ?_
    refine x_seq ?_
    refine c_if (b := ((policy_Policy_Kind a0) == 2)) rfl (fun h17 => ?_) fun h17 => ?_
    · have hm18 := ift hm7 h17
      refine c_seq ?_
      refine cd_st (fun _ h => st_pk 3 [2, 0, 1] (by decide) h) ?_
      refine cd_opt (fun ho21 => ?_) (fun x19 b20 ho21 => ?_)
      · rintro rfl
        have hm22 := om_n hm18 ho21
        cases hm22
      · rintro rfl
        have hm22 := om_s hm18 ho21
        obtain ⟨⟨pv24, g25⟩, ⟨pv27, g28⟩⟩ := g5
        refine cd_st (fun _ h => st_star_o h) ?_
        refine c_reg ?_
        refine r_u (o_mv rfl) ?_
        refine r_u (o_nc rfl) ?_
        refine r_u (o_fa fa105_2 rfl) ?_
        refine r_u (o_ld 3 sc103 rfl rfl rfl) ?_
        refine r_u (o_mv rfl) ?_
        obtain ⟨r29, hr29, hm30⟩ := bs hm22
        refine r_c (s_w (o_call ca53 rfl (tiny_Tiny_Has.ok b20 x19 (⟨(pv24, g25), (pv27, g28)⟩ : tiny_Tiny.G) a1 r29 hr29))) ?_
        refine r_u (o_as rfl) ?_
        refine r_nil ?_
        refine x_seq ?_
        refine c_ret ?_
        refine ex_st (fun _ h => st_some (f := tiny_Tiny.op (⟨(pv24, g25), (pv27, g28)⟩ : tiny_Tiny.G)) (a := x19) (st_star_f (A := tiny_Tiny.fl b20 x19 (⟨(pv24, g25), (pv27, g28)⟩ : tiny_Tiny.G)) h)) ?_
        refine ex_st (fun _ h => st_back ho21 h) ?_
        obtain rfl := Option.some.inj hm30
        refine ex_st (fun _ h => st_pk 3 [1, 2, 0] (by decide) h) ?_
        exact x_r1 rfl (rv_t rfl) (Le.refl _) ⟨_, rfl, rfl, rfl, rfl⟩
    · have hm18 := iff_ hm7 h17
      refine c_skip ?_
      refine x_blk ?_
      refine x_seq ?_
      refine c_seq ?_
      refine c_reg ?_
      refine r_u (o_as rfl) ?_
      refine r_nil ?_
      refine x_seq ?_
      refine c_ret ?_
      obtain rfl := Option.some.inj hm18
      exact x_r1 rfl (rv_t rfl) (Le.refl _) ⟨_, rfl, rfl, rfl, rfl⟩

def policy_Policy_Len (a0 : policy_Policy) : Option Int :=
  if ((policy_Policy_Kind a0) == 1) then om a0.a (none) fun x8 => (arc_Arc_Len x8).bind fun r15 => some r15 else if ((policy_Policy_Kind a0) == 2) then om a0.t (none) fun x19 => (tiny_Tiny_Len x19).bind fun r29 => some r29 else some 0
theorem policy_Policy_Len.ok {G R F} (b0_ : Nat) (a0 : policy_Policy) (g0_ : policy_Policy.G) (r : Int) (hm : policy_Policy_Len a0 = some r) : CO Try.prog 30 [pt b0_ 0] G R (Bk b0_ 105 [vI a0.kind, g0_.a.1, g0_.t.1] :: rO (arc_Arc.op g0_.a.2) g0_.a.1 a0.a :: rO (tiny_Tiny.op g0_.t.2) g0_.t.1 a0.t :: F)
    (Ret fun u R' L' => u = vI r ∧ R' = R ∧ L' = Bk b0_ 105 [vI a0.kind, g0_.a.1, g0_.t.1] :: rO (arc_Arc.op g0_.a.2) g0_.a.1 a0.a :: rO (tiny_Tiny.op g0_.t.2) g0_.t.1 a0.t :: F) := by
  obtain ⟨⟨pv1, g2⟩, ⟨pv4, g5⟩⟩ := g0_
  unfold policy_Policy_Len at hm
  refine co_ofN (N := 19) Try.func30 rfl rfl ?_
  refine c_seq ?_
  refine c_reg ?_
  refine r_u (o_as rfl) ?_
  refine r_nil ?_
  refine x_seq ?_
  refine c_seq ?_
  refine c_seq ?_
  refine c_reg ?_
  refine r_u (o_mv rfl) ?_
  refine r_c (s_w (o_call ca34 rfl (policy_Policy_Kind.ok b0_ a0 (⟨(pv1, g2), (pv4, g5)⟩ : policy_Policy.G) _ rfl))) ?_
  refine r_nil ?_
  refine x_seq ?_
  refine c_blk ?_
  refine c_seq ?_
  refine c_reg ?_
  refine r_u (o_bin rfl rfl (bI_eq (policy_Policy_Kind a0) 1)) ?_
  refine r_u (o_as rfl) ?_
  refine r_nil ?_
  refine x_seq ?_
  refine c_if (b := ((policy_Policy_Kind a0) == 1)) rfl (fun h6 => ?_) fun h6 => ?_
  · have hm7 := ift hm h6
    refine c_seq ?_
    refine cd_st (fun _ h => st_pk 3 [1, 0, 2] (by decide) h) ?_
    refine cd_opt (fun ho10 => ?_) (fun x8 b9 ho10 => ?_)
    · rintro rfl
      have hm11 := om_n hm7 ho10
      cases hm11
    · rintro rfl
      have hm11 := om_s hm7 ho10
      obtain ⟨⟨pv13, g14⟩⟩ := g2
      refine cd_st (fun _ h => st_star_o h) ?_
      refine c_reg ?_
      refine r_u (o_mv rfl) ?_
      refine r_u (o_nc rfl) ?_
      refine r_u (o_fa fa105_1 rfl) ?_
      refine r_u (o_ld 2 sc102 rfl rfl rfl) ?_
      obtain ⟨r15, hr15, hm16⟩ := bs hm11
      refine r_c (s_w (o_call ca60 rfl (arc_Arc_Len.ok b9 x8 (⟨(pv13, g14)⟩ : arc_Arc.G) r15 hr15))) ?_
      refine r_u (o_as rfl) ?_
      refine r_nil ?_
      refine x_seq ?_
      refine c_ret ?_
      refine ex_st (fun _ h => st_some (f := arc_Arc.op (⟨(pv13, g14)⟩ : arc_Arc.G)) (a := x8) (st_star_f (A := arc_Arc.fl b9 x8 (⟨(pv13, g14)⟩ : arc_Arc.G)) h)) ?_
      refine ex_st (fun _ h => st_back ho10 h) ?_
      obtain rfl := Option.some.inj hm16
      refine ex_st (fun _ h => st_pk 3 [1, 0, 2] (by decide) h) ?_
      exact x_r1 rfl (rv_t rfl) (Le.refl _) ⟨_, rfl, rfl, rfl, rfl⟩
  · have hm7 := iff_ hm h6
    refine c_seq ?_
    refine c_reg ?_
    refine r_u (o_bin rfl rfl (bI_eq (policy_Policy_Kind a0) 2)) ?_
    refine r_u (o_as rfl) ?_
    refine r_nil ?_
    refine x_seq ?_
    refine c_if (b := ((policy_Policy_Kind a0) == 2)) rfl (fun h17 => ?_) fun h17 => ?_
    · have hm18 := ift hm7 h17
      refine c_seq ?_
      refine cd_st (fun _ h => st_pk 3 [2, 0, 1] (by decide) h) ?_
      refine cd_opt (fun ho21 => ?_) (fun x19 b20 ho21 => ?_)
      · rintro rfl
        have hm22 := om_n hm18 ho21
        cases hm22
      · rintro rfl
        have hm22 := om_s hm18 ho21
        obtain ⟨⟨pv24, g25⟩, ⟨pv27, g28⟩⟩ := g5
        refine cd_st (fun _ h => st_star_o h) ?_
        refine c_reg ?_
        refine r_u (o_mv rfl) ?_
        refine r_u (o_nc rfl) ?_
        refine r_u (o_fa fa105_2 rfl) ?_
        refine r_u (o_ld 3 sc103 rfl rfl rfl) ?_
        obtain ⟨r29, hr29, hm30⟩ := bs hm22
        refine r_c (s_w (o_call ca61 rfl (tiny_Tiny_Len.ok b20 x19 (⟨(pv24, g25), (pv27, g28)⟩ : tiny_Tiny.G) r29 hr29))) ?_
        refine r_u (o_as rfl) ?_
        refine r_nil ?_
        refine x_seq ?_
        refine c_ret ?_
        refine ex_st (fun _ h => st_some (f := tiny_Tiny.op (⟨(pv24, g25), (pv27, g28)⟩ : tiny_Tiny.G)) (a := x19) (st_star_f (A := tiny_Tiny.fl b20 x19 (⟨(pv24, g25), (pv27, g28)⟩ : tiny_Tiny.G)) h)) ?_
        refine ex_st (fun _ h => st_back ho21 h) ?_
        obtain rfl := Option.some.inj hm30
        refine ex_st (fun _ h => st_pk 3 [1, 2, 0] (by decide) h) ?_
        exact x_r1 rfl (rv_t rfl) (Le.refl _) ⟨_, rfl, rfl, rfl, rfl⟩
    · have hm18 := iff_ hm7 h17
      refine c_skip ?_
      refine x_blk ?_
      refine x_seq ?_
      refine c_seq ?_
      refine c_reg ?_
      refine r_u (o_as rfl) ?_
      refine r_nil ?_
      refine x_seq ?_
      refine c_ret ?_
      obtain rfl := Option.some.inj hm18
      exact x_r1 rfl (rv_t rfl) (Le.refl _) ⟨_, rfl, rfl, rfl, rfl⟩

def policy_Policy_Touch (a0 : policy_Policy) (a1 : Str) : Option (Bool × policy_Policy) :=
  if ((policy_Policy_Kind a0) == 1) then om a0.a (none) fun x8 => (arc_Arc_Touch x8 a1).bind fun r15 => some (r15.1, (⟨a0.kind, (some r15.2), a0.t⟩ : policy_Policy)) else if ((policy_Policy_Kind a0) == 2) then om a0.t (none) fun x23 => (tiny_Tiny_Touch x23 a1).bind fun r33 => some (r33.1, (⟨a0.kind, a0.a, (some r33.2)⟩ : policy_Policy)) else some (false, a0)
theorem policy_Policy_Touch.ok {G R F} (b0_ : Nat) (a0 : policy_Policy) (g0_ : policy_Policy.G) (a1 : Str) (r : Bool × policy_Policy) (hm : policy_Policy_Touch a0 a1 = some r) : CO Try.prog 31 [pt b0_ 0, vS a1] G R (Bk b0_ 105 [vI a0.kind, g0_.a.1, g0_.t.1] :: rO (arc_Arc.op g0_.a.2) g0_.a.1 a0.a :: rO (tiny_Tiny.op g0_.t.2) g0_.t.1 a0.t :: F)
    (Ret fun u R' L' => ∃ (q0 : policy_Policy.G), u = vB r.1 ∧ R' = R ∧ L' = Bk b0_ 105 [vI r.2.kind, q0.a.1, q0.t.1] :: rO (arc_Arc.op q0.a.2) q0.a.1 r.2.a :: rO (tiny_Tiny.op q0.t.2) q0.t.1 r.2.t :: F) := by
  obtain ⟨⟨pv1, g2⟩, ⟨pv4, g5⟩⟩ := g0_
  unfold policy_Policy_Touch at hm
  refine co_ofN (N := 23) Try.func31 rfl rfl ?_
  refine c_seq ?_
  refine c_reg ?_
  refine r_u (o_as rfl) ?_
  refine r_nil ?_
  refine x_seq ?_
  refine c_seq ?_
  refine c_seq ?_
  refine c_reg ?_
  refine r_u (o_mv rfl) ?_
  refine r_c (s_w (o_call ca34 rfl (policy_Policy_Kind.ok b0_ a0 (⟨(pv1, g2), (pv4, g5)⟩ : policy_Policy.G) _ rfl))) ?_
  refine r_nil ?_
  refine x_seq ?_
  refine c_blk ?_
  refine c_seq ?_
  refine c_reg ?_
  refine r_u (o_bin rfl rfl (bI_eq (policy_Policy_Kind a0) 1)) ?_
  refine r_u (o_as rfl) ?_
  refine r_nil ?_
  refine x_seq ?_
  refine c_if (b := ((policy_Policy_Kind a0) == 1)) rfl (fun h6 => ?_) fun h6 => ?_
  · have hm7 := ift hm h6
    refine c_seq ?_
    refine cd_st (fun _ h => st_pk 3 [1, 0, 2] (by decide) h) ?_
    refine cd_opt (fun ho10 => ?_) (fun x8 b9 ho10 => ?_)
    · rintro rfl
      have hm11 := om_n hm7 ho10
      cases hm11
    · rintro rfl
      have hm11 := om_s hm7 ho10
      obtain ⟨⟨pv13, g14⟩⟩ := g2
      refine cd_st (fun _ h => st_star_o h) ?_
      refine c_reg ?_
      refine r_u (o_mv rfl) ?_
      refine r_u (o_nc rfl) ?_
      refine r_u (o_fa fa105_1 rfl) ?_
      refine r_u (o_ld 2 sc102 rfl rfl rfl) ?_
      refine r_u (o_mv rfl) ?_
      obtain ⟨r15, hr15, hm20⟩ := bs hm11
      refine r_sw (s_w (o_call ca62 rfl (arc_Arc_Touch.ok b9 x8 (⟨(pv13, g14)⟩ : arc_Arc.G) a1 r15 hr15))) ?_
      rintro _ R _ _ ⟨⟨⟨pv18, g19⟩⟩, rfl, rfl, rfl⟩
      refine r_u (o_as rfl) ?_
      refine r_nil ?_
      refine x_seq ?_
      refine c_ret ?_
      refine ex_st (fun _ h => st_some (f := arc_Arc.op (⟨(pv18, g19)⟩ : arc_Arc.G)) (a := r15.2) (st_star_f (A := arc_Arc.fl b9 r15.2 (⟨(pv18, g19)⟩ : arc_Arc.G)) h)) ?_
      obtain rfl := Option.some.inj hm20
      refine ex_st (fun _ h => st_pk 3 [1, 0, 2] (by decide) h) ?_
      exact x_r1 rfl (rv_t rfl) (Le.refl _) ⟨_, rfl, (⟨(pt b9 0, (⟨(pv18, g19)⟩ : arc_Arc.G)), (pv4, g5)⟩ : policy_Policy.G), rfl, rfl, rfl⟩
  · have hm7 := iff_ hm h6
    refine c_seq ?_
    refine c_reg ?_
    refine r_u (o_bin rfl rfl (bI_eq (policy_Policy_Kind a0) 2)) ?_
    refine r_u (o_as rfl) ?_
    refine r_nil ?_
    refine x_seq ?_
    refine c_if (b := ((policy_Policy_Kind a0) == 2)) rfl (fun h21 => ?_) fun h21 => ?_
    · have hm22 := ift hm7 h21
      refine c_seq ?_
      refine cd_st (fun _ h => st_pk 3 [2, 0, 1] (by decide) h) ?_
      refine cd_opt (fun ho25 => ?_) (fun x23 b24 ho25 => ?_)
      · rintro rfl
        have hm26 := om_n hm22 ho25
        cases hm26
      · rintro rfl
        have hm26 := om_s hm22 ho25
        obtain ⟨⟨pv28, g29⟩, ⟨pv31, g32⟩⟩ := g5
        refine cd_st (fun _ h => st_star_o h) ?_
        refine c_reg ?_
        refine r_u (o_mv rfl) ?_
        refine r_u (o_nc rfl) ?_
        refine r_u (o_fa fa105_2 rfl) ?_
        refine r_u (o_ld 3 sc103 rfl rfl rfl) ?_
        refine r_u (o_mv rfl) ?_
        obtain ⟨r33, hr33, hm41⟩ := bs hm26
        refine r_sw (s_w (o_call ca63 rfl (tiny_Tiny_Touch.ok b24 x23 (⟨(pv28, g29), (pv31, g32)⟩ : tiny_Tiny.G) a1 r33 hr33))) ?_
        rintro _ R _ _ ⟨⟨⟨pv36, g37⟩, ⟨pv39, g40⟩⟩, rfl, rfl, rfl⟩
        refine r_u (o_as rfl) ?_
        refine r_nil ?_
        refine x_seq ?_
        refine c_ret ?_
        refine ex_st (fun _ h => st_some (f := tiny_Tiny.op (⟨(pv36, g37), (pv39, g40)⟩ : tiny_Tiny.G)) (a := r33.2) (st_star_f (A := tiny_Tiny.fl b24 r33.2 (⟨(pv36, g37), (pv39, g40)⟩ : tiny_Tiny.G)) h)) ?_
        obtain rfl := Option.some.inj hm41
        refine ex_st (fun _ h => st_pk 3 [1, 2, 0] (by decide) h) ?_
        exact x_r1 rfl (rv_t rfl) (Le.refl _) ⟨_, rfl, (⟨(pv1, g2), (pt b24 0, (⟨(pv36, g37), (pv39, g40)⟩ : tiny_Tiny.G))⟩ : policy_Policy.G), rfl, rfl, rfl⟩
    · have hm22 := iff_ hm7 h21
      refine c_skip ?_
      refine x_blk ?_
      refine x_seq ?_
      refine c_seq ?_
      refine c_reg ?_
      refine r_u (o_as rfl) ?_
      refine r_nil ?_
      refine x_seq ?_
      refine c_ret ?_
      obtain rfl := Option.some.inj hm22
      exact x_r1 rfl (rv_t rfl) (Le.refl _) ⟨_, rfl, (⟨(pv1, g2), (pv4, g5)⟩ : policy_Policy.G), rfl, rfl, rfl⟩

def hawthornlaw09_awake  : Option Bool :=
  (policy_New 1 2 1).bind fun r0 => (policy_New 2 2 1).bind fun r5 => om r0.1 (none) fun x10 => (policy_Policy_Insert x10 [120]).bind fun r20 => om r5.1 (none) fun x30 => (policy_Policy_Insert x30 [120]).bind fun r40 => if ((r0.2 == 0) && (r5.2 == 0)) then (policy_Policy_Has r20.2 [120]).bind fun r52 => if r52 then (policy_Policy_Has r40.2 [120]).bind fun r56 => if r56 then if ((policy_Policy_Kind r20.2) == 1) then if ((policy_Policy_Kind r40.2) == 2) then (policy_Policy_Len r20.2).bind fun r64 => if (r64 == 1) then (policy_Policy_Touch r40.2 [120]).bind fun r68 => some r68.1 else some false else some false else some false else some false else some false else some false
theorem hawthornlaw09_awake.ok {G R F} (r : Bool) (hm : hawthornlaw09_awake = some r) : CO Try.prog 28 [] G R (F)
    (Ret fun u R' L' => u = vB r ∧ R' = R ∧ L' = F) := by
  unfold hawthornlaw09_awake at hm
  refine co_ofN (N := 50) Try.func28 rfl rfl ?_
  refine c_seq ?_
  refine c_reg ?_
  refine r_u (o_as rfl) ?_
  refine r_nil ?_
  refine x_seq ?_
  refine c_seq ?_
  refine c_reg ?_
  obtain ⟨r0, hr0, hm4⟩ := bs hm
  refine r_sw (s_w (o_call ca27 rfl (policy_New.ok 1 2 1 r0 hr0))) ?_
  rintro _ R _ _ ⟨⟨pv2, g3⟩, rfl, rfl, rfl⟩
  refine r_u (o_mv rfl) ?_
  refine r_u (o_ext rfl rfl) ?_
  refine r_u (o_ext rfl rfl) ?_
  refine r_u (o_as rfl) ?_
  refine r_u (o_as rfl) ?_
  refine r_nil ?_
  refine x_seq ?_
  refine c_seq ?_
  refine c_reg ?_
  obtain ⟨r5, hr5, hm9⟩ := bs hm4
  refine r_sw (s_w (o_call ca27 rfl (policy_New.ok 2 2 1 r5 hr5))) ?_
  rintro _ R _ _ ⟨⟨pv7, g8⟩, rfl, rfl, rfl⟩
  refine r_u (o_mv rfl) ?_
  refine r_u (o_ext rfl rfl) ?_
  refine r_u (o_ext rfl rfl) ?_
  refine r_u (o_as rfl) ?_
  refine r_u (o_as rfl) ?_
  refine r_nil ?_
  refine x_seq ?_
  refine c_seq ?_
  refine cd_st (fun _ h => st_pk 2 [1, 0] (by decide) h) ?_
  refine cd_opt (fun ho12 => ?_) (fun x10 b11 ho12 => ?_)
  · rintro rfl
    have hm13 := om_n hm9 ho12
    cases hm13
  · rintro rfl
    have hm13 := om_s hm9 ho12
    obtain ⟨⟨pv15, g16⟩, ⟨pv18, g19⟩⟩ := g3
    refine cd_st (fun _ h => st_star_o h) ?_
    refine c_reg ?_
    refine r_u (o_mv rfl) ?_
    obtain ⟨r20, hr20, hm29⟩ := bs hm13
    refine r_sw (s_w (o_call ca32 rfl (policy_Policy_Insert.ok b11 x10 (⟨(pv15, g16), (pv18, g19)⟩ : policy_Policy.G) [120] r20 hr20))) ?_
    rintro v21 R _ _ ⟨_, ⟨⟨pv24, g25⟩, ⟨pv27, g28⟩⟩, rfl, rfl, rfl⟩
    refine r_nil ?_
    refine x_seq ?_
    refine c_seq ?_
    refine cd_st (fun _ h => st_pk 5 [4, 0, 1, 2, 3] (by decide) h) ?_
    refine cd_opt (fun ho32 => ?_) (fun x30 b31 ho32 => ?_)
    · rintro rfl
      have hm33 := om_n hm29 ho32
      cases hm33
    · rintro rfl
      have hm33 := om_s hm29 ho32
      obtain ⟨⟨pv35, g36⟩, ⟨pv38, g39⟩⟩ := g8
      refine cd_st (fun _ h => st_star_o h) ?_
      refine c_reg ?_
      refine r_u (o_mv rfl) ?_
      obtain ⟨r40, hr40, hm49⟩ := bs hm33
      refine r_sw (s_w (o_call ca32 rfl (policy_Policy_Insert.ok b31 x30 (⟨(pv35, g36), (pv38, g39)⟩ : policy_Policy.G) [120] r40 hr40))) ?_
      rintro v41 R _ _ ⟨_, ⟨⟨pv44, g45⟩, ⟨pv47, g48⟩⟩, rfl, rfl, rfl⟩
      refine r_nil ?_
      refine x_seq ?_
      refine c_seq ?_
      refine cd_by ((r0.2 == 0) && (r5.2 == 0)) (fun h50 => ?_) fun h50 => ?_
      · have hm51 := ift hm49 h50
        obtain ⟨r52, hr52, hm53⟩ := bs hm51
        refine cd_by r52 (fun h54 => ?_) fun h54 => ?_
        · have hm55 := ift hm53 h54
          obtain ⟨r56, hr56, hm57⟩ := bs hm55
          refine cd_by r56 (fun h58 => ?_) fun h58 => ?_
          · have hm59 := ift hm57 h58
            refine cd_by ((policy_Policy_Kind r20.2) == 1) (fun h60 => ?_) fun h60 => ?_
            · have hm61 := ift hm59 h60
              refine cd_by ((policy_Policy_Kind r40.2) == 2) (fun h62 => ?_) fun h62 => ?_
              · have hm63 := ift hm61 h62
                obtain ⟨r64, hr64, hm65⟩ := bs hm63
                refine cd_by (r64 == 1) (fun h66 => ?_) fun h66 => ?_
                · have hm67 := ift hm65 h66
                  refine c_reg ?_
                  refine r_u (o_mv rfl) ?_
                  refine r_u (o_bin rfl rfl (bI_eq r0.2 0)) ?_
                  refine r_u (o_mv rfl) ?_
                  refine r_s (s_gt rfl rfl fun g => o_mv rfl) ?_
                  refine r_s (s_gt rfl rfl fun g => o_bin (evg rfl g) rfl (bI_eq r5.2 0)) ?_
                  refine r_u (o_and rfl rfl) ?_
                  refine r_u (o_mv rfl) ?_
                  refine r_s (s_y rfl rfl h50 (o_mv rfl)) ?_
                  refine rl_st (fun _ h => st_pk 8 [5, 6, 7, 0, 1, 2, 3, 4] (by decide) h) ?_
                  refine r_c (s_yw rfl rfl h50 (o_call ca29 rfl (policy_Policy_Has.ok b11 r20.2 (⟨(pv24, g25), (pv27, g28)⟩ : policy_Policy.G) [120] r52 hr52))) ?_
                  refine r_u (o_pt rfl h50 rfl) ?_
                  refine r_u (o_mv rfl) ?_
                  refine r_s (s_y rfl rfl h54 (o_mv rfl)) ?_
                  refine rl_st (fun _ h => st_pk 8 [4, 5, 6, 0, 1, 2, 3, 7] (by decide) h) ?_
                  refine r_c (s_yw rfl rfl h54 (o_call ca29 rfl (policy_Policy_Has.ok b31 r40.2 (⟨(pv44, g45), (pv47, g48)⟩ : policy_Policy.G) [120] r56 hr56))) ?_
                  refine r_u (o_pt rfl h54 rfl) ?_
                  refine r_u (o_mv rfl) ?_
                  refine r_s (s_y rfl rfl h58 (o_mv rfl)) ?_
                  refine rl_st (fun _ h => st_pk 8 [3, 4, 5, 0, 1, 2, 6, 7] (by decide) h) ?_
                  refine r_c (s_yw rfl rfl h58 (o_call ca34 rfl (policy_Policy_Kind.ok b11 r20.2 (⟨(pv24, g25), (pv27, g28)⟩ : policy_Policy.G) _ rfl))) ?_
                  refine r_s (s_y rfl rfl h58 (o_bin rfl rfl (bI_eq (policy_Policy_Kind r20.2) 1))) ?_
                  refine r_u (o_pt rfl h58 rfl) ?_
                  refine r_u (o_mv rfl) ?_
                  refine r_s (s_y rfl rfl h60 (o_mv rfl)) ?_
                  refine rl_st (fun _ h => st_pk 8 [3, 4, 5, 0, 1, 2, 6, 7] (by decide) h) ?_
                  refine r_c (s_yw rfl rfl h60 (o_call ca34 rfl (policy_Policy_Kind.ok b31 r40.2 (⟨(pv44, g45), (pv47, g48)⟩ : policy_Policy.G) _ rfl))) ?_
                  refine r_s (s_y rfl rfl h60 (o_bin rfl rfl (bI_eq (policy_Policy_Kind r40.2) 2))) ?_
                  refine r_u (o_pt rfl h60 rfl) ?_
                  refine r_u (o_mv rfl) ?_
                  refine r_s (s_y rfl rfl h62 (o_mv rfl)) ?_
                  refine rl_st (fun _ h => st_pk 8 [3, 4, 5, 0, 1, 2, 6, 7] (by decide) h) ?_
                  refine r_c (s_yw rfl rfl h62 (o_call ca30 rfl (policy_Policy_Len.ok b11 r20.2 (⟨(pv24, g25), (pv27, g28)⟩ : policy_Policy.G) r64 hr64))) ?_
                  refine r_s (s_y rfl rfl h62 (o_bin rfl rfl (bI_eq r64 1))) ?_
                  refine r_u (o_pt rfl h62 rfl) ?_
                  refine r_u (o_mv rfl) ?_
                  refine r_s (s_y rfl rfl h66 (o_mv rfl)) ?_
                  obtain ⟨r68, hr68, hm76⟩ := bs hm67
                  refine rl_st (fun _ h => st_pk 8 [3, 4, 5, 0, 1, 2, 6, 7] (by decide) h) ?_
                  refine r_sw (s_yw rfl rfl h66 (o_call ca31 rfl (policy_Policy_Touch.ok b31 r40.2 (⟨(pv44, g45), (pv47, g48)⟩ : policy_Policy.G) [120] r68 hr68))) ?_
                  rintro _ R _ _ ⟨⟨⟨pv71, g72⟩, ⟨pv74, g75⟩⟩, rfl, rfl, rfl⟩
                  refine r_u (o_pt rfl h66 rfl) ?_
                  refine r_u (o_as rfl) ?_
                  refine r_nil ?_
                  refine x_seq ?_
                  refine c_ret ?_
                  obtain rfl := Option.some.inj hm76
                  refine ex_st (fun _ h => st_pk 8 [] (by decide) h) ?_
                  exact x_r1 rfl (rv_t rfl) (Le.refl _) ⟨_, rfl, rfl, rfl, rfl⟩
                · have hm67 := iff_ hm65 h66
                  refine c_reg ?_
                  refine r_u (o_mv rfl) ?_
                  refine r_u (o_bin rfl rfl (bI_eq r0.2 0)) ?_
                  refine r_u (o_mv rfl) ?_
                  refine r_s (s_gt rfl rfl fun g => o_mv rfl) ?_
                  refine r_s (s_gt rfl rfl fun g => o_bin (evg rfl g) rfl (bI_eq r5.2 0)) ?_
                  refine r_u (o_and rfl rfl) ?_
                  refine r_u (o_mv rfl) ?_
                  refine r_s (s_y rfl rfl h50 (o_mv rfl)) ?_
                  refine rl_st (fun _ h => st_pk 8 [5, 6, 7, 0, 1, 2, 3, 4] (by decide) h) ?_
                  refine r_c (s_yw rfl rfl h50 (o_call ca29 rfl (policy_Policy_Has.ok b11 r20.2 (⟨(pv24, g25), (pv27, g28)⟩ : policy_Policy.G) [120] r52 hr52))) ?_
                  refine r_u (o_pt rfl h50 rfl) ?_
                  refine r_u (o_mv rfl) ?_
                  refine r_s (s_y rfl rfl h54 (o_mv rfl)) ?_
                  refine rl_st (fun _ h => st_pk 8 [4, 5, 6, 0, 1, 2, 3, 7] (by decide) h) ?_
                  refine r_c (s_yw rfl rfl h54 (o_call ca29 rfl (policy_Policy_Has.ok b31 r40.2 (⟨(pv44, g45), (pv47, g48)⟩ : policy_Policy.G) [120] r56 hr56))) ?_
                  refine r_u (o_pt rfl h54 rfl) ?_
                  refine r_u (o_mv rfl) ?_
                  refine r_s (s_y rfl rfl h58 (o_mv rfl)) ?_
                  refine rl_st (fun _ h => st_pk 8 [3, 4, 5, 0, 1, 2, 6, 7] (by decide) h) ?_
                  refine r_c (s_yw rfl rfl h58 (o_call ca34 rfl (policy_Policy_Kind.ok b11 r20.2 (⟨(pv24, g25), (pv27, g28)⟩ : policy_Policy.G) _ rfl))) ?_
                  refine r_s (s_y rfl rfl h58 (o_bin rfl rfl (bI_eq (policy_Policy_Kind r20.2) 1))) ?_
                  refine r_u (o_pt rfl h58 rfl) ?_
                  refine r_u (o_mv rfl) ?_
                  refine r_s (s_y rfl rfl h60 (o_mv rfl)) ?_
                  refine rl_st (fun _ h => st_pk 8 [3, 4, 5, 0, 1, 2, 6, 7] (by decide) h) ?_
                  refine r_c (s_yw rfl rfl h60 (o_call ca34 rfl (policy_Policy_Kind.ok b31 r40.2 (⟨(pv44, g45), (pv47, g48)⟩ : policy_Policy.G) _ rfl))) ?_
                  refine r_s (s_y rfl rfl h60 (o_bin rfl rfl (bI_eq (policy_Policy_Kind r40.2) 2))) ?_
                  refine r_u (o_pt rfl h60 rfl) ?_
                  refine r_u (o_mv rfl) ?_
                  refine r_s (s_y rfl rfl h62 (o_mv rfl)) ?_
                  refine rl_st (fun _ h => st_pk 8 [3, 4, 5, 0, 1, 2, 6, 7] (by decide) h) ?_
                  refine r_c (s_yw rfl rfl h62 (o_call ca30 rfl (policy_Policy_Len.ok b11 r20.2 (⟨(pv24, g25), (pv27, g28)⟩ : policy_Policy.G) r64 hr64))) ?_
                  refine r_s (s_y rfl rfl h62 (o_bin rfl rfl (bI_eq r64 1))) ?_
                  refine r_u (o_pt rfl h62 rfl) ?_
                  refine r_u (o_mv rfl) ?_
                  refine r_s (s_n rfl rfl h66) ?_
                  refine r_s (s_n rfl rfl h66) ?_
                  refine r_u (o_pf rfl h66 rfl) ?_
                  refine r_u (o_as rfl) ?_
                  refine r_nil ?_
                  refine x_seq ?_
                  refine c_ret ?_
                  obtain rfl := Option.some.inj hm67
                  refine ex_st (fun _ h => st_pk 8 [] (by decide) h) ?_
                  exact x_r1 rfl (rv_t rfl) (Le.refl _) ⟨_, rfl, rfl, rfl, rfl⟩
              · have hm63 := iff_ hm61 h62
                refine c_reg ?_
                refine r_u (o_mv rfl) ?_
                refine r_u (o_bin rfl rfl (bI_eq r0.2 0)) ?_
                refine r_u (o_mv rfl) ?_
                refine r_s (s_gt rfl rfl fun g => o_mv rfl) ?_
                refine r_s (s_gt rfl rfl fun g => o_bin (evg rfl g) rfl (bI_eq r5.2 0)) ?_
                refine r_u (o_and rfl rfl) ?_
                refine r_u (o_mv rfl) ?_
                refine r_s (s_y rfl rfl h50 (o_mv rfl)) ?_
                refine rl_st (fun _ h => st_pk 8 [5, 6, 7, 0, 1, 2, 3, 4] (by decide) h) ?_
                refine r_c (s_yw rfl rfl h50 (o_call ca29 rfl (policy_Policy_Has.ok b11 r20.2 (⟨(pv24, g25), (pv27, g28)⟩ : policy_Policy.G) [120] r52 hr52))) ?_
                refine r_u (o_pt rfl h50 rfl) ?_
                refine r_u (o_mv rfl) ?_
                refine r_s (s_y rfl rfl h54 (o_mv rfl)) ?_
                refine rl_st (fun _ h => st_pk 8 [4, 5, 6, 0, 1, 2, 3, 7] (by decide) h) ?_
                refine r_c (s_yw rfl rfl h54 (o_call ca29 rfl (policy_Policy_Has.ok b31 r40.2 (⟨(pv44, g45), (pv47, g48)⟩ : policy_Policy.G) [120] r56 hr56))) ?_
                refine r_u (o_pt rfl h54 rfl) ?_
                refine r_u (o_mv rfl) ?_
                refine r_s (s_y rfl rfl h58 (o_mv rfl)) ?_
                refine rl_st (fun _ h => st_pk 8 [3, 4, 5, 0, 1, 2, 6, 7] (by decide) h) ?_
                refine r_c (s_yw rfl rfl h58 (o_call ca34 rfl (policy_Policy_Kind.ok b11 r20.2 (⟨(pv24, g25), (pv27, g28)⟩ : policy_Policy.G) _ rfl))) ?_
                refine r_s (s_y rfl rfl h58 (o_bin rfl rfl (bI_eq (policy_Policy_Kind r20.2) 1))) ?_
                refine r_u (o_pt rfl h58 rfl) ?_
                refine r_u (o_mv rfl) ?_
                refine r_s (s_y rfl rfl h60 (o_mv rfl)) ?_
                refine rl_st (fun _ h => st_pk 8 [3, 4, 5, 0, 1, 2, 6, 7] (by decide) h) ?_
                refine r_c (s_yw rfl rfl h60 (o_call ca34 rfl (policy_Policy_Kind.ok b31 r40.2 (⟨(pv44, g45), (pv47, g48)⟩ : policy_Policy.G) _ rfl))) ?_
                refine r_s (s_y rfl rfl h60 (o_bin rfl rfl (bI_eq (policy_Policy_Kind r40.2) 2))) ?_
                refine r_u (o_pt rfl h60 rfl) ?_
                refine r_u (o_mv rfl) ?_
                refine r_s (s_n rfl rfl h62) ?_
                refine r_s (s_n rfl rfl h62) ?_
                refine r_s (s_n rfl rfl h62) ?_
                refine r_u (o_pf rfl h62 rfl) ?_
                refine r_u (o_mv rfl) ?_
                refine r_s (s_n rfl rfl rfl) ?_
                refine r_s (s_n rfl rfl rfl) ?_
                refine r_u (o_pf rfl rfl rfl) ?_
                refine r_u (o_as rfl) ?_
                refine r_nil ?_
                refine x_seq ?_
                refine c_ret ?_
                obtain rfl := Option.some.inj hm63
                refine ex_st (fun _ h => st_pk 8 [] (by decide) h) ?_
                exact x_r1 rfl (rv_t rfl) (Le.refl _) ⟨_, rfl, rfl, rfl, rfl⟩
            · have hm61 := iff_ hm59 h60
              refine c_reg ?_
              refine r_u (o_mv rfl) ?_
              refine r_u (o_bin rfl rfl (bI_eq r0.2 0)) ?_
              refine r_u (o_mv rfl) ?_
              refine r_s (s_gt rfl rfl fun g => o_mv rfl) ?_
              refine r_s (s_gt rfl rfl fun g => o_bin (evg rfl g) rfl (bI_eq r5.2 0)) ?_
              refine r_u (o_and rfl rfl) ?_
              refine r_u (o_mv rfl) ?_
              refine r_s (s_y rfl rfl h50 (o_mv rfl)) ?_
              refine rl_st (fun _ h => st_pk 8 [5, 6, 7, 0, 1, 2, 3, 4] (by decide) h) ?_
              refine r_c (s_yw rfl rfl h50 (o_call ca29 rfl (policy_Policy_Has.ok b11 r20.2 (⟨(pv24, g25), (pv27, g28)⟩ : policy_Policy.G) [120] r52 hr52))) ?_
              refine r_u (o_pt rfl h50 rfl) ?_
              refine r_u (o_mv rfl) ?_
              refine r_s (s_y rfl rfl h54 (o_mv rfl)) ?_
              refine rl_st (fun _ h => st_pk 8 [4, 5, 6, 0, 1, 2, 3, 7] (by decide) h) ?_
              refine r_c (s_yw rfl rfl h54 (o_call ca29 rfl (policy_Policy_Has.ok b31 r40.2 (⟨(pv44, g45), (pv47, g48)⟩ : policy_Policy.G) [120] r56 hr56))) ?_
              refine r_u (o_pt rfl h54 rfl) ?_
              refine r_u (o_mv rfl) ?_
              refine r_s (s_y rfl rfl h58 (o_mv rfl)) ?_
              refine rl_st (fun _ h => st_pk 8 [3, 4, 5, 0, 1, 2, 6, 7] (by decide) h) ?_
              refine r_c (s_yw rfl rfl h58 (o_call ca34 rfl (policy_Policy_Kind.ok b11 r20.2 (⟨(pv24, g25), (pv27, g28)⟩ : policy_Policy.G) _ rfl))) ?_
              refine r_s (s_y rfl rfl h58 (o_bin rfl rfl (bI_eq (policy_Policy_Kind r20.2) 1))) ?_
              refine r_u (o_pt rfl h58 rfl) ?_
              refine r_u (o_mv rfl) ?_
              refine r_s (s_n rfl rfl h60) ?_
              refine r_s (s_n rfl rfl h60) ?_
              refine r_s (s_n rfl rfl h60) ?_
              refine r_u (o_pf rfl h60 rfl) ?_
              refine r_u (o_mv rfl) ?_
              refine r_s (s_n rfl rfl rfl) ?_
              refine r_s (s_n rfl rfl rfl) ?_
              refine r_s (s_n rfl rfl rfl) ?_
              refine r_u (o_pf rfl rfl rfl) ?_
              refine r_u (o_mv rfl) ?_
              refine r_s (s_n rfl rfl rfl) ?_
              refine r_s (s_n rfl rfl rfl) ?_
              refine r_u (o_pf rfl rfl rfl) ?_
              refine r_u (o_as rfl) ?_
              refine r_nil ?_
              refine x_seq ?_
              refine c_ret ?_
              obtain rfl := Option.some.inj hm61
              refine ex_st (fun _ h => st_pk 8 [] (by decide) h) ?_
              exact x_r1 rfl (rv_t rfl) (Le.refl _) ⟨_, rfl, rfl, rfl, rfl⟩
          · have hm59 := iff_ hm57 h58
            refine c_reg ?_
            refine r_u (o_mv rfl) ?_
            refine r_u (o_bin rfl rfl (bI_eq r0.2 0)) ?_
            refine r_u (o_mv rfl) ?_
            refine r_s (s_gt rfl rfl fun g => o_mv rfl) ?_
            refine r_s (s_gt rfl rfl fun g => o_bin (evg rfl g) rfl (bI_eq r5.2 0)) ?_
            refine r_u (o_and rfl rfl) ?_
            refine r_u (o_mv rfl) ?_
            refine r_s (s_y rfl rfl h50 (o_mv rfl)) ?_
            refine rl_st (fun _ h => st_pk 8 [5, 6, 7, 0, 1, 2, 3, 4] (by decide) h) ?_
            refine r_c (s_yw rfl rfl h50 (o_call ca29 rfl (policy_Policy_Has.ok b11 r20.2 (⟨(pv24, g25), (pv27, g28)⟩ : policy_Policy.G) [120] r52 hr52))) ?_
            refine r_u (o_pt rfl h50 rfl) ?_
            refine r_u (o_mv rfl) ?_
            refine r_s (s_y rfl rfl h54 (o_mv rfl)) ?_
            refine rl_st (fun _ h => st_pk 8 [4, 5, 6, 0, 1, 2, 3, 7] (by decide) h) ?_
            refine r_c (s_yw rfl rfl h54 (o_call ca29 rfl (policy_Policy_Has.ok b31 r40.2 (⟨(pv44, g45), (pv47, g48)⟩ : policy_Policy.G) [120] r56 hr56))) ?_
            refine r_u (o_pt rfl h54 rfl) ?_
            refine r_u (o_mv rfl) ?_
            refine r_s (s_n rfl rfl h58) ?_
            refine r_s (s_n rfl rfl h58) ?_
            refine r_s (s_n rfl rfl h58) ?_
            refine r_u (o_pf rfl h58 rfl) ?_
            refine r_u (o_mv rfl) ?_
            refine r_s (s_n rfl rfl rfl) ?_
            refine r_s (s_n rfl rfl rfl) ?_
            refine r_s (s_n rfl rfl rfl) ?_
            refine r_u (o_pf rfl rfl rfl) ?_
            refine r_u (o_mv rfl) ?_
            refine r_s (s_n rfl rfl rfl) ?_
            refine r_s (s_n rfl rfl rfl) ?_
            refine r_s (s_n rfl rfl rfl) ?_
            refine r_u (o_pf rfl rfl rfl) ?_
            refine r_u (o_mv rfl) ?_
            refine r_s (s_n rfl rfl rfl) ?_
            refine r_s (s_n rfl rfl rfl) ?_
            refine r_u (o_pf rfl rfl rfl) ?_
            refine r_u (o_as rfl) ?_
            refine r_nil ?_
            refine x_seq ?_
            refine c_ret ?_
            obtain rfl := Option.some.inj hm59
            refine ex_st (fun _ h => st_pk 8 [] (by decide) h) ?_
            exact x_r1 rfl (rv_t rfl) (Le.refl _) ⟨_, rfl, rfl, rfl, rfl⟩
        · have hm55 := iff_ hm53 h54
          refine c_reg ?_
          refine r_u (o_mv rfl) ?_
          refine r_u (o_bin rfl rfl (bI_eq r0.2 0)) ?_
          refine r_u (o_mv rfl) ?_
          refine r_s (s_gt rfl rfl fun g => o_mv rfl) ?_
          refine r_s (s_gt rfl rfl fun g => o_bin (evg rfl g) rfl (bI_eq r5.2 0)) ?_
          refine r_u (o_and rfl rfl) ?_
          refine r_u (o_mv rfl) ?_
          refine r_s (s_y rfl rfl h50 (o_mv rfl)) ?_
          refine rl_st (fun _ h => st_pk 8 [5, 6, 7, 0, 1, 2, 3, 4] (by decide) h) ?_
          refine r_c (s_yw rfl rfl h50 (o_call ca29 rfl (policy_Policy_Has.ok b11 r20.2 (⟨(pv24, g25), (pv27, g28)⟩ : policy_Policy.G) [120] r52 hr52))) ?_
          refine r_u (o_pt rfl h50 rfl) ?_
          refine r_u (o_mv rfl) ?_
          refine r_s (s_n rfl rfl h54) ?_
          refine r_s (s_n rfl rfl h54) ?_
          refine r_u (o_pf rfl h54 rfl) ?_
          refine r_u (o_mv rfl) ?_
          refine r_s (s_n rfl rfl rfl) ?_
          refine r_s (s_n rfl rfl rfl) ?_
          refine r_s (s_n rfl rfl rfl) ?_
          refine r_u (o_pf rfl rfl rfl) ?_
          refine r_u (o_mv rfl) ?_
          refine r_s (s_n rfl rfl rfl) ?_
          refine r_s (s_n rfl rfl rfl) ?_
          refine r_s (s_n rfl rfl rfl) ?_
          refine r_u (o_pf rfl rfl rfl) ?_
          refine r_u (o_mv rfl) ?_
          refine r_s (s_n rfl rfl rfl) ?_
          refine r_s (s_n rfl rfl rfl) ?_
          refine r_s (s_n rfl rfl rfl) ?_
          refine r_u (o_pf rfl rfl rfl) ?_
          refine r_u (o_mv rfl) ?_
          refine r_s (s_n rfl rfl rfl) ?_
          refine r_s (s_n rfl rfl rfl) ?_
          refine r_u (o_pf rfl rfl rfl) ?_
          refine r_u (o_as rfl) ?_
          refine r_nil ?_
          refine x_seq ?_
          refine c_ret ?_
          obtain rfl := Option.some.inj hm55
          refine ex_st (fun _ h => st_pk 8 [] (by decide) h) ?_
          exact x_r1 rfl (rv_t rfl) (Le.refl _) ⟨_, rfl, rfl, rfl, rfl⟩
      · have hm51 := iff_ hm49 h50
        refine c_reg ?_
        refine r_u (o_mv rfl) ?_
        refine r_u (o_bin rfl rfl (bI_eq r0.2 0)) ?_
        refine r_u (o_mv rfl) ?_
        refine r_s (s_gt rfl rfl fun g => o_mv rfl) ?_
        refine r_s (s_gt rfl rfl fun g => o_bin (evg rfl g) rfl (bI_eq r5.2 0)) ?_
        refine r_u (o_and rfl rfl) ?_
        refine r_u (o_mv rfl) ?_
        refine r_s (s_n rfl rfl h50) ?_
        refine r_s (s_n rfl rfl h50) ?_
        refine r_u (o_pf rfl h50 rfl) ?_
        refine r_u (o_mv rfl) ?_
        refine r_s (s_n rfl rfl rfl) ?_
        refine r_s (s_n rfl rfl rfl) ?_
        refine r_u (o_pf rfl rfl rfl) ?_
        refine r_u (o_mv rfl) ?_
        refine r_s (s_n rfl rfl rfl) ?_
        refine r_s (s_n rfl rfl rfl) ?_
        refine r_s (s_n rfl rfl rfl) ?_
        refine r_u (o_pf rfl rfl rfl) ?_
        refine r_u (o_mv rfl) ?_
        refine r_s (s_n rfl rfl rfl) ?_
        refine r_s (s_n rfl rfl rfl) ?_
        refine r_s (s_n rfl rfl rfl) ?_
        refine r_u (o_pf rfl rfl rfl) ?_
        refine r_u (o_mv rfl) ?_
        refine r_s (s_n rfl rfl rfl) ?_
        refine r_s (s_n rfl rfl rfl) ?_
        refine r_s (s_n rfl rfl rfl) ?_
        refine r_u (o_pf rfl rfl rfl) ?_
        refine r_u (o_mv rfl) ?_
        refine r_s (s_n rfl rfl rfl) ?_
        refine r_s (s_n rfl rfl rfl) ?_
        refine r_u (o_pf rfl rfl rfl) ?_
        refine r_u (o_as rfl) ?_
        refine r_nil ?_
        refine x_seq ?_
        refine c_ret ?_
        obtain rfl := Option.some.inj hm51
        refine ex_st (fun _ h => st_pk 8 [] (by decide) h) ?_
        exact x_r1 rfl (rv_t rfl) (Le.refl _) ⟨_, rfl, rfl, rfl, rfl⟩

def policy_Policy_Has_n (a1 : Str) : Option Bool :=
  if (policy_Policy_Kind_n == 1) then none else if (policy_Policy_Kind_n == 2) then none else some false
theorem policy_Policy_Has_n.ok {G R F} (a1 : Str) (r : Bool) (hm : policy_Policy_Has_n a1 = some r) : CO Try.prog 29 [nl, vS a1] G R (F)
    (Ret fun u R' L' => u = vB r ∧ R' = R ∧ L' = F) := by
  unfold policy_Policy_Has_n at hm
  refine co_ofN (N := 23) Try.func29 rfl rfl ?_
  refine c_seq ?_
  refine c_reg ?_
  refine r_u (o_as rfl) ?_
  refine r_nil ?_
  refine x_seq ?_
  refine c_seq ?_
  refine c_seq ?_
  refine c_reg ?_
  refine r_u (o_mv rfl) ?_
  refine r_u (o_callq ca34 rfl (policy_Policy_Kind_n.ok _ rfl)) ?_
  refine r_nil ?_
  refine x_seq ?_
  refine c_blk ?_
  refine c_seq ?_
  refine c_reg ?_
  refine r_u (o_bin rfl rfl (bI_eq policy_Policy_Kind_n 1)) ?_
  refine r_u (o_as rfl) ?_
  refine r_nil ?_
  refine x_seq ?_
  refine c_if (b := (policy_Policy_Kind_n == 1)) rfl (fun h0 => ?_) fun h0 => ?_
  · have hm1 := ift hm h0
    refine c_seq ?_
    refine c_reg ?_
    refine r_u (o_mv rfl) ?_
    cases hm1
  · have hm1 := iff_ hm h0
    refine c_seq ?_
    refine c_reg ?_
    refine r_u (o_bin rfl rfl (bI_eq policy_Policy_Kind_n 2)) ?_
    refine r_u (o_as rfl) ?_
    refine r_nil ?_
    refine x_seq ?_
    refine c_if (b := (policy_Policy_Kind_n == 2)) rfl (fun h2 => ?_) fun h2 => ?_
    · have hm3 := ift hm1 h2
      refine c_seq ?_
      refine c_reg ?_
      refine r_u (o_mv rfl) ?_
      cases hm3
    · have hm3 := iff_ hm1 h2
      refine c_skip ?_
      refine x_blk ?_
      refine x_seq ?_
      refine c_seq ?_
      refine c_reg ?_
      refine r_u (o_as rfl) ?_
      refine r_nil ?_
      refine x_seq ?_
      refine c_ret ?_
      obtain rfl := Option.some.inj hm3
      exact x_r1 rfl (rv_t rfl) (Le.refl _) ⟨_, rfl, rfl, rfl, rfl⟩

def policy_Policy_Len_n  : Option Int :=
  if (policy_Policy_Kind_n == 1) then none else if (policy_Policy_Kind_n == 2) then none else some 0
theorem policy_Policy_Len_n.ok {G R F} (r : Int) (hm : policy_Policy_Len_n = some r) : CO Try.prog 30 [nl] G R (F)
    (Ret fun u R' L' => u = vI r ∧ R' = R ∧ L' = F) := by
  unfold policy_Policy_Len_n at hm
  refine co_ofN (N := 19) Try.func30 rfl rfl ?_
  refine c_seq ?_
  refine c_reg ?_
  refine r_u (o_as rfl) ?_
  refine r_nil ?_
  refine x_seq ?_
  refine c_seq ?_
  refine c_seq ?_
  refine c_reg ?_
  refine r_u (o_mv rfl) ?_
  refine r_u (o_callq ca34 rfl (policy_Policy_Kind_n.ok _ rfl)) ?_
  refine r_nil ?_
  refine x_seq ?_
  refine c_blk ?_
  refine c_seq ?_
  refine c_reg ?_
  refine r_u (o_bin rfl rfl (bI_eq policy_Policy_Kind_n 1)) ?_
  refine r_u (o_as rfl) ?_
  refine r_nil ?_
  refine x_seq ?_
  refine c_if (b := (policy_Policy_Kind_n == 1)) rfl (fun h0 => ?_) fun h0 => ?_
  · have hm1 := ift hm h0
    refine c_seq ?_
    refine c_reg ?_
    refine r_u (o_mv rfl) ?_
    cases hm1
  · have hm1 := iff_ hm h0
    refine c_seq ?_
    refine c_reg ?_
    refine r_u (o_bin rfl rfl (bI_eq policy_Policy_Kind_n 2)) ?_
    refine r_u (o_as rfl) ?_
    refine r_nil ?_
    refine x_seq ?_
    refine c_if (b := (policy_Policy_Kind_n == 2)) rfl (fun h2 => ?_) fun h2 => ?_
    · have hm3 := ift hm1 h2
      refine c_seq ?_
      refine c_reg ?_
      refine r_u (o_mv rfl) ?_
      cases hm3
    · have hm3 := iff_ hm1 h2
      refine c_skip ?_
      refine x_blk ?_
      refine x_seq ?_
      refine c_seq ?_
      refine c_reg ?_
      refine r_u (o_as rfl) ?_
      refine r_nil ?_
      refine x_seq ?_
      refine c_ret ?_
      obtain rfl := Option.some.inj hm3
      exact x_r1 rfl (rv_t rfl) (Le.refl _) ⟨_, rfl, rfl, rfl, rfl⟩

def policy_Policy_Touch_n (a1 : Str) : Option Bool :=
  if (policy_Policy_Kind_n == 1) then none else if (policy_Policy_Kind_n == 2) then none else some false
theorem policy_Policy_Touch_n.ok {G R F} (a1 : Str) (r : Bool) (hm : policy_Policy_Touch_n a1 = some r) : CO Try.prog 31 [nl, vS a1] G R (F)
    (Ret fun u R' L' => u = vB r ∧ R' = R ∧ L' = F) := by
  unfold policy_Policy_Touch_n at hm
  refine co_ofN (N := 23) Try.func31 rfl rfl ?_
  refine c_seq ?_
  refine c_reg ?_
  refine r_u (o_as rfl) ?_
  refine r_nil ?_
  refine x_seq ?_
  refine c_seq ?_
  refine c_seq ?_
  refine c_reg ?_
  refine r_u (o_mv rfl) ?_
  refine r_u (o_callq ca34 rfl (policy_Policy_Kind_n.ok _ rfl)) ?_
  refine r_nil ?_
  refine x_seq ?_
  refine c_blk ?_
  refine c_seq ?_
  refine c_reg ?_
  refine r_u (o_bin rfl rfl (bI_eq policy_Policy_Kind_n 1)) ?_
  refine r_u (o_as rfl) ?_
  refine r_nil ?_
  refine x_seq ?_
  refine c_if (b := (policy_Policy_Kind_n == 1)) rfl (fun h0 => ?_) fun h0 => ?_
  · have hm1 := ift hm h0
    refine c_seq ?_
    refine c_reg ?_
    refine r_u (o_mv rfl) ?_
    cases hm1
  · have hm1 := iff_ hm h0
    refine c_seq ?_
    refine c_reg ?_
    refine r_u (o_bin rfl rfl (bI_eq policy_Policy_Kind_n 2)) ?_
    refine r_u (o_as rfl) ?_
    refine r_nil ?_
    refine x_seq ?_
    refine c_if (b := (policy_Policy_Kind_n == 2)) rfl (fun h2 => ?_) fun h2 => ?_
    · have hm3 := ift hm1 h2
      refine c_seq ?_
      refine c_reg ?_
      refine r_u (o_mv rfl) ?_
      cases hm3
    · have hm3 := iff_ hm1 h2
      refine c_skip ?_
      refine x_blk ?_
      refine x_seq ?_
      refine c_seq ?_
      refine c_reg ?_
      refine r_u (o_as rfl) ?_
      refine r_nil ?_
      refine x_seq ?_
      refine c_ret ?_
      obtain rfl := Option.some.inj hm3
      exact x_r1 rfl (rv_t rfl) (Le.refl _) ⟨_, rfl, rfl, rfl, rfl⟩

def policy_Policy_Insert_n (a1 : Str) : Option (List Str) :=
  if (policy_Policy_Kind_n == 1) then none else if (policy_Policy_Kind_n == 2) then none else some []
theorem policy_Policy_Insert_n.ok {G R F} (a1 : Str) (r : List Str) (hm : policy_Policy_Insert_n a1 = some r) : CO Try.prog 32 [nl, vS a1] G R (F)
    (Ret fun u R' L' => ∃ p0, u = p0 ∧ R' = R ∧ L' = OwS true 9 1 eS p0 r :: F) := by
  unfold policy_Policy_Insert_n at hm
  refine co_ofN (N := 23) Try.func32 rfl rfl ?_
  refine c_seq ?_
  refine c_reg ?_
  refine r_u (o_as rfl) ?_
  refine r_nil ?_
  refine x_seq ?_
  refine c_seq ?_
  refine c_seq ?_
  refine c_reg ?_
  refine r_u (o_mv rfl) ?_
  refine r_u (o_callq ca34 rfl (policy_Policy_Kind_n.ok _ rfl)) ?_
  refine r_nil ?_
  refine x_seq ?_
  refine c_blk ?_
  refine c_seq ?_
  refine c_reg ?_
  refine r_u (o_bin rfl rfl (bI_eq policy_Policy_Kind_n 1)) ?_
  refine r_u (o_as rfl) ?_
  refine r_nil ?_
  refine x_seq ?_
  refine c_if (b := (policy_Policy_Kind_n == 1)) rfl (fun h0 => ?_) fun h0 => ?_
  · have hm1 := ift hm h0
    refine c_seq ?_
    refine c_reg ?_
    refine r_u (o_mv rfl) ?_
    cases hm1
  · have hm1 := iff_ hm h0
    refine c_seq ?_
    refine c_reg ?_
    refine r_u (o_bin rfl rfl (bI_eq policy_Policy_Kind_n 2)) ?_
    refine r_u (o_as rfl) ?_
    refine r_nil ?_
    refine x_seq ?_
    refine c_if (b := (policy_Policy_Kind_n == 2)) rfl (fun h2 => ?_) fun h2 => ?_
    · have hm3 := ift hm1 h2
      refine c_seq ?_
      refine c_reg ?_
      refine r_u (o_mv rfl) ?_
      cases hm3
    · have hm3 := iff_ hm1 h2
      refine c_skip ?_
      refine x_blk ?_
      refine x_seq ?_
      refine c_seq ?_
      refine c_reg ?_
      refine r_u (o_as rfl) ?_
      refine r_nil ?_
      refine x_seq ?_
      refine c_ret ?_
      refine ex_st (fun _ h => st_nil (ap := true) (T := 9) (sz := 1) (en := eS) h) ?_
      obtain rfl := Option.some.inj hm3
      exact x_r1 rfl (rv_t rfl) (Le.refl _) ⟨_, rfl, (.slice none 0 0), rfl, rfl, rfl⟩

def policy_Policy_Remove_n (a1 : Str) : Option Bool :=
  if (policy_Policy_Kind_n == 1) then none else if (policy_Policy_Kind_n == 2) then none else some false
theorem policy_Policy_Remove_n.ok {G R F} (a1 : Str) (r : Bool) (hm : policy_Policy_Remove_n a1 = some r) : CO Try.prog 33 [nl, vS a1] G R (F)
    (Ret fun u R' L' => u = vB r ∧ R' = R ∧ L' = F) := by
  unfold policy_Policy_Remove_n at hm
  refine co_ofN (N := 23) Try.func33 rfl rfl ?_
  refine c_seq ?_
  refine c_reg ?_
  refine r_u (o_as rfl) ?_
  refine r_nil ?_
  refine x_seq ?_
  refine c_seq ?_
  refine c_seq ?_
  refine c_reg ?_
  refine r_u (o_mv rfl) ?_
  refine r_u (o_callq ca34 rfl (policy_Policy_Kind_n.ok _ rfl)) ?_
  refine r_nil ?_
  refine x_seq ?_
  refine c_blk ?_
  refine c_seq ?_
  refine c_reg ?_
  refine r_u (o_bin rfl rfl (bI_eq policy_Policy_Kind_n 1)) ?_
  refine r_u (o_as rfl) ?_
  refine r_nil ?_
  refine x_seq ?_
  refine c_if (b := (policy_Policy_Kind_n == 1)) rfl (fun h0 => ?_) fun h0 => ?_
  · have hm1 := ift hm h0
    refine c_seq ?_
    refine c_reg ?_
    refine r_u (o_mv rfl) ?_
    cases hm1
  · have hm1 := iff_ hm h0
    refine c_seq ?_
    refine c_reg ?_
    refine r_u (o_bin rfl rfl (bI_eq policy_Policy_Kind_n 2)) ?_
    refine r_u (o_as rfl) ?_
    refine r_nil ?_
    refine x_seq ?_
    refine c_if (b := (policy_Policy_Kind_n == 2)) rfl (fun h2 => ?_) fun h2 => ?_
    · have hm3 := ift hm1 h2
      refine c_seq ?_
      refine c_reg ?_
      refine r_u (o_mv rfl) ?_
      cases hm3
    · have hm3 := iff_ hm1 h2
      refine c_skip ?_
      refine x_blk ?_
      refine x_seq ?_
      refine c_seq ?_
      refine c_reg ?_
      refine r_u (o_as rfl) ?_
      refine r_nil ?_
      refine x_seq ?_
      refine c_ret ?_
      obtain rfl := Option.some.inj hm3
      exact x_r1 rfl (rv_t rfl) (Le.refl _) ⟨_, rfl, rfl, rfl, rfl⟩

def wire_Num_l1  : Nat → UInt64 → Str → Option (UInt64 × Str)
  | 0, _, _ => none
  | k9 + 1, n_7, c_8 => if decide (128 ≤ n_7) then (apd 1 c_8 [((n_7 % 128).toUInt8) + 128]).bind fun l14 => wire_Num_l1 k9 (n_7 / 128) l14 else some (n_7, c_8)
def wire_Num (a0 : UInt64) : Option Str :=
  Option.bind (wire_Num_l1 11 a0 []) fun p1 => (apd 1 p1.2 [p1.1.toUInt8]).bind fun l5 => some l5
theorem wire_Num.ok {G R F} (a0 : UInt64) (r : Str) (hm : wire_Num a0 = some r) : CO Try.prog 68 [vW a0] G R (F)
    (Ret fun u R' L' => u = vS r ∧ R' = R ∧ L' = F) := by
  unfold wire_Num at hm
  refine co_ofN (N := 17) Try.func68 rfl rfl ?_
  refine c_seq ?_
  refine c_reg ?_
  refine r_u (o_as rfl) ?_
  refine r_nil ?_
  refine x_seq ?_
  refine c_seq ?_
  refine c_reg ?_
  refine r_new (o_al ze156) fun b0 => ?_
  refine rl_st (fun _ h => bld_new (e := 5) h) ?_
  refine r_nil ?_
  refine x_seq ?_
  refine c_seq ?_
  obtain ⟨p1, hp2, hm3⟩ := bs hm
  refine cd_join (E' := [(3, pt b0 0), (0, vW p1.1)]) (L' := Bld 156 5 b0 p1.2 :: F) ?_ fun K4 => ?_
  · refine x_seq ?_
    refine c_seq ?_
    refine c_reg ?_
    refine r_u (o_mv rfl) ?_
    refine r_u (o_cv rfl (cWY Try.underlying22 Try.underlying5 p1.1)) ?_
    obtain ⟨l5, hl5, hm6⟩ := bs hm3
    refine r_c (s_w (o_call ca111 rfl (bld_WriteByte.ok b0 p1.2 p1.1.toUInt8 _ hl5))) ?_
    refine r_nil ?_
    refine x_seq ?_
    refine c_seq ?_
    refine c_reg ?_
    refine r_c (s_w (o_call ca112 rfl (bld_String.ok b0 l5))) ?_
    refine r_u (o_as rfl) ?_
    refine r_nil ?_
    refine x_seq ?_
    refine c_ret ?_
    obtain rfl := Option.some.inj hm6
    exact x_r1 rfl (rv_t rfl) (Le.refl _) ⟨_, rfl, rfl, rfl, rfl⟩
  · refine c_blk ?_
    refine cd_loop (M := fun k9 (s : UInt64 × Str) => wire_Num_l1 k9 s.1 s.2 = some p1) (Ef := fun (s : UInt64 × Str) => [(3, pt b0 0), (0, vW s.1)]) (Lf := fun (s : UInt64 × Str) => Bld 156 5 b0 s.2 :: F) 11 (a0, []) hp2 ⟨rfl, rfl, trivial⟩ (fun _ h => h) (fun _ h => by cases h) fun k9 s hM11 => ?_
    obtain ⟨n_7, c_8⟩ := s
    have hm10 : wire_Num_l1 (k9 + 1) n_7 c_8 = some p1 := hM11
    rw [wire_Num_l1] at hm10
    refine c_seq ?_
    refine c_seq ?_
    refine c_reg ?_
    refine r_u (o_mv rfl) ?_
    refine r_u (o_bin rfl rfl (bW_ge n_7 128)) ?_
    refine r_nil ?_
    refine x_seq ?_
    refine c_if (b := decide (128 ≤ n_7)) rfl (fun h12 => ?_) fun h12 => ?_
    · have hm13 := ift hm10 h12
      refine c_skip ?_
      refine x_seq ?_
      refine c_seq ?_
      refine c_blk ?_
      refine c_reg ?_
      refine r_u (o_mv rfl) ?_
      refine r_u (o_bin rfl rfl (bW_rem n_7 128 (by decide))) ?_
      refine r_u (o_cv rfl (cWY Try.underlying22 Try.underlying5 (n_7 % 128))) ?_
      refine r_u (o_bin rfl rfl (bY_add ((n_7 % 128).toUInt8) 128)) ?_
      obtain ⟨l14, hl14, hm15⟩ := bs hm13
      refine r_c (s_w (o_call ca111 rfl (bld_WriteByte.ok b0 c_8 (((n_7 % 128).toUInt8) + 128) _ hl14))) ?_
      refine r_nil ?_
      refine x_blk ?_
      refine x_seq ?_
      refine c_reg ?_
      refine r_u (o_mv rfl) ?_
      refine r_u (o_bin rfl rfl (bW_quo n_7 128 (by decide))) ?_
      refine r_u (o_as rfl) ?_
      refine r_nil ?_
      exact x_lp (n_7 / 128, l14) hm15 ⟨rfl, rfl, trivial⟩ (fun _ h => st_pk 1 [0] (by decide) h)
    · have hm13 := iff_ hm10 h12
      refine c_exit (x_exit (ks' := _) rfl ?_)
      obtain rfl := Option.some.inj hm13
      exact x_sub K4 ⟨rfl, rfl, trivial⟩ (fun _ h => st_pk 1 [0] (by decide) h)

def policy_Policy_Export_n  : Option Str :=
  if (policy_Policy_Kind_n == 1) then (wire_Num 1).bind fun r2 => none else if (policy_Policy_Kind_n == 2) then (wire_Num 2).bind fun r6 => none else some []
theorem policy_Policy_Export_n.ok {G R F} (r : Str) (hm : policy_Policy_Export_n = some r) : CO Try.prog 35 [nl] G R (F)
    (Ret fun u R' L' => u = vS r ∧ R' = R ∧ L' = F) := by
  unfold policy_Policy_Export_n at hm
  refine co_ofN (N := 23) Try.func35 rfl rfl ?_
  refine c_seq ?_
  refine c_reg ?_
  refine r_u (o_as rfl) ?_
  refine r_nil ?_
  refine x_seq ?_
  refine c_seq ?_
  refine c_seq ?_
  refine c_reg ?_
  refine r_u (o_mv rfl) ?_
  refine r_u (o_callq ca34 rfl (policy_Policy_Kind_n.ok _ rfl)) ?_
  refine r_nil ?_
  refine x_seq ?_
  refine c_blk ?_
  refine c_seq ?_
  refine c_reg ?_
  refine r_u (o_bin rfl rfl (bI_eq policy_Policy_Kind_n 1)) ?_
  refine r_u (o_as rfl) ?_
  refine r_nil ?_
  refine x_seq ?_
  refine c_if (b := (policy_Policy_Kind_n == 1)) rfl (fun h0 => ?_) fun h0 => ?_
  · have hm1 := ift hm h0
    refine c_seq ?_
    obtain ⟨r2, hr2, hm3⟩ := bs hm1
    cases hm3
  · have hm1 := iff_ hm h0
    refine c_seq ?_
    refine c_reg ?_
    refine r_u (o_bin rfl rfl (bI_eq policy_Policy_Kind_n 2)) ?_
    refine r_u (o_as rfl) ?_
    refine r_nil ?_
    refine x_seq ?_
    refine c_if (b := (policy_Policy_Kind_n == 2)) rfl (fun h4 => ?_) fun h4 => ?_
    · have hm5 := ift hm1 h4
      refine c_seq ?_
      obtain ⟨r6, hr6, hm7⟩ := bs hm5
      cases hm7
    · have hm5 := iff_ hm1 h4
      refine c_skip ?_
      refine x_blk ?_
      refine x_seq ?_
      refine c_seq ?_
      refine c_reg ?_
      refine r_u (o_as rfl) ?_
      refine r_nil ?_
      refine x_seq ?_
      refine c_ret ?_
      obtain rfl := Option.some.inj hm5
      exact x_r1 rfl (rv_t rfl) (Le.refl _) ⟨_, rfl, rfl, rfl, rfl⟩

end Go.Proofs.Ythngfieikhillaa
