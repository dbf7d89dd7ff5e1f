import Derived.Test.YthngfieikhillaaW0
import Derived.Test.YthngfieikhillaaFacts
import Derived.Test.YthngfieikhillaaHwU
set_option linter.unusedVariables false
set_option linter.unusedSectionVars false
set_option linter.unusedSimpArgs false
set_option maxRecDepth 100000
set_option maxHeartbeats 8000000
namespace Go.Proofs.Ythngfieikhillaa
open Go Go.Proofs.Ythngfieikhillaa.Hw
def say_takePromise (a0 : wire_Reader) : Option ((api_Promise × wire_Reader) ⊕ (Int × wire_Reader)) :=
  (wire_Reader_Flag a0).bind fun r1 => sm r1 (fun (ra3 : Bool × wire_Reader) => (wire_Reader_Num ra3.2 18446744073709551615).bind fun r7 => sm r7 (fun (ra9 : UInt64 × wire_Reader) => (wire_Reader_Num ra9.2 18446744073709551615).bind fun r13 => sm r13 (fun (ra15 : UInt64 × wire_Reader) => (wire_Reader_Num ra15.2 18446744073709551615).bind fun r19 => sm r19 (fun (ra21 : UInt64 × wire_Reader) => (cell_TakeView ra21.2).bind fun r25 => sm r25 (fun (ra27 : api_View × wire_Reader) => (cell_TakeView ra27.2).bind fun r31 => sm r31 (fun (ra33 : api_View × wire_Reader) => some (Sum.inl ((⟨ra3.1, ra9.1, ra15.1, ra21.1, ra27.1, ra33.1⟩ : api_Promise), ra33.2))) fun ((rn34, ro35) : Int × wire_Reader) => some (Sum.inr (rn34, ro35))) fun ((rn28, ro29) : Int × wire_Reader) => some (Sum.inr (rn28, ro29))) fun ((rn22, ro23) : Int × wire_Reader) => some (Sum.inr (rn22, ro23))) fun ((rn16, ro17) : Int × wire_Reader) => some (Sum.inr (rn16, ro17))) fun ((rn10, ro11) : Int × wire_Reader) => some (Sum.inr (rn10, ro11))) fun ((rn4, ro5) : Int × wire_Reader) => some (Sum.inr (rn4, ro5))
theorem say_takePromise.ok {G R F} (b0_ : Nat) (a0 : wire_Reader) (r : (api_Promise × wire_Reader) ⊕ (Int × wire_Reader)) (hm : say_takePromise a0 = some r) : CO Try.prog 75 [pt b0_ 0] G R (Bk b0_ 114 (wire_Reader.c a0) :: F)
    (PK 112 r (fun (a : api_Promise × wire_Reader) u R' L' => u = .agg (api_Promise.c a.1).toArray ∧ R' = R ∧ L' = Bk b0_ 114 (wire_Reader.c a.2) :: F) (fun n (o : wire_Reader) R' L' => R' = R ∧ L' = Bk b0_ 114 (wire_Reader.c o) :: F)) := by
  unfold say_takePromise at hm
  refine co_ofN (N := 16) Try.func75 rfl rfl ?_
  refine c_seq ?_
  refine c_reg ?_
  refine r_new (o_al ze26) fun b0 => ?_
  refine r_nil ?_
  refine x_seq ?_
  refine c_seq ?_
  obtain ⟨r1, hr1, hm2⟩ := bs hm
  clear hm
  rcases r1 with ra3 | ⟨rn4, ro5⟩
  · have hm6 := sm_l hm2
    clear hm2
    obtain ⟨r7, hr7, hm8⟩ := bs hm6
    clear hm6
    rcases r7 with ra9 | ⟨rn10, ro11⟩
    · have hm12 := sm_l hm8
      clear hm8
      obtain ⟨r13, hr13, hm14⟩ := bs hm12
      clear hm12
      rcases r13 with ra15 | ⟨rn16, ro17⟩
      · have hm18 := sm_l hm14
        clear hm14
        obtain ⟨r19, hr19, hm20⟩ := bs hm18
        clear hm18
        rcases r19 with ra21 | ⟨rn22, ro23⟩
        · have hm24 := sm_l hm20
          clear hm20
          obtain ⟨r25, hr25, hm26⟩ := bs hm24
          clear hm24
          rcases r25 with ra27 | ⟨rn28, ro29⟩
          · have hm30 := sm_l hm26
            clear hm26
            obtain ⟨r31, hr31, hm32⟩ := bs hm30
            clear hm30
            rcases r31 with ra33 | ⟨rn34, ro35⟩
            · have hm36 := sm_l hm32
              clear hm32
              refine c_reg ?_
              refine r_u (o_mv rfl) ?_
              refine rl_st (fun _ h => st_pk 2 [1, 0] (by decide) h) ?_
              refine r_c (s_w (o_callL ca117 rfl (wire_Reader_Flag.ok b0_ a0 (Sum.inl ra3) hr1) (fun _ _ _ h => h))) ?_
              refine r_u (o_mv rfl) ?_
              refine r_c (s_w (o_callL ca72 rfl (wire_Reader_Num.ok b0_ ra3.2 18446744073709551615 (Sum.inl ra9) hr7) (fun _ _ _ h => h))) ?_
              refine r_u (o_mv rfl) ?_
              refine r_c (s_w (o_callL ca72 rfl (wire_Reader_Num.ok b0_ ra9.2 18446744073709551615 (Sum.inl ra15) hr13) (fun _ _ _ h => h))) ?_
              refine r_u (o_mv rfl) ?_
              refine r_c (s_w (o_callL ca72 rfl (wire_Reader_Num.ok b0_ ra15.2 18446744073709551615 (Sum.inl ra21) hr19) (fun _ _ _ h => h))) ?_
              refine r_u (o_mv rfl) ?_
              refine r_c (s_w (o_callL ca74 rfl (cell_TakeView.ok b0_ ra21.2 (Sum.inl ra27) hr25) (fun _ _ _ h => h))) ?_
              refine r_u (o_mv rfl) ?_
              refine r_c (s_w (o_callL ca74 rfl (cell_TakeView.ok b0_ ra27.2 (Sum.inl ra33) hr31) (fun _ _ _ h => h))) ?_
              refine r_u (o_bld [vB ra3.1, vW ra9.1, vW ra15.1, vW ra21.1, vW ra27.1.V, vI ra27.1.Primary, vW ra27.1.PLife, vI ra27.1.Backup, vW ra27.1.BLife, vW ra27.1.Epoch, vW ra33.1.V, vI ra33.1.Primary, vW ra33.1.PLife, vI ra33.1.Backup, vW ra33.1.BLife, vW ra33.1.Epoch] rfl (fun _ => by kernel_rfl)) ?_
              refine rl_st (fun _ h => st_pk 2 [1, 0] (by decide) h) ?_
              refine r_u0 (o_stn ag26 rfl rfl rfl rfl rfl rfl rfl) ?_
              refine r_nil ?_
              refine x_seq ?_
              refine c_ret ?_
              obtain rfl := Option.some.inj hm36
              exact x_d1 rfl (rv_n 0 [vB ra3.1, vW ra9.1, vW ra15.1, vW ra21.1, vW ra27.1.V, vI ra27.1.Primary, vW ra27.1.PLife, vI ra27.1.Backup, vW ra27.1.BLife, vW ra27.1.Epoch, vW ra33.1.V, vI ra33.1.Primary, vW ra33.1.PLife, vI ra33.1.Backup, vW ra33.1.BLife, vW ra33.1.Epoch] ag26 rfl rfl rfl rfl) (fun _ h => st_pk 2 [1] (by decide) h) (Le.refl _) (.inl ⟨_, rfl, _, rfl, rfl, rfl, rfl⟩)
            · have hm36 := sm_r hm32
              clear hm32
              refine c_reg ?_
              refine r_u (o_mv rfl) ?_
              refine rl_st (fun _ h => st_pk 2 [1, 0] (by decide) h) ?_
              refine r_c (s_w (o_callL ca117 rfl (wire_Reader_Flag.ok b0_ a0 (Sum.inl ra3) hr1) (fun _ _ _ h => h))) ?_
              refine r_u (o_mv rfl) ?_
              refine r_c (s_w (o_callL ca72 rfl (wire_Reader_Num.ok b0_ ra3.2 18446744073709551615 (Sum.inl ra9) hr7) (fun _ _ _ h => h))) ?_
              refine r_u (o_mv rfl) ?_
              refine r_c (s_w (o_callL ca72 rfl (wire_Reader_Num.ok b0_ ra9.2 18446744073709551615 (Sum.inl ra15) hr13) (fun _ _ _ h => h))) ?_
              refine r_u (o_mv rfl) ?_
              refine r_c (s_w (o_callL ca72 rfl (wire_Reader_Num.ok b0_ ra15.2 18446744073709551615 (Sum.inl ra21) hr19) (fun _ _ _ h => h))) ?_
              refine r_u (o_mv rfl) ?_
              refine r_c (s_w (o_callL ca74 rfl (cell_TakeView.ok b0_ ra21.2 (Sum.inl ra27) hr25) (fun _ _ _ h => h))) ?_
              refine r_u (o_mv rfl) ?_
              obtain rfl := Option.some.inj hm36
              exact r_sw (s_w (o_callR ca74 rfl (cell_TakeView.ok b0_ ra27.2 (Sum.inr (rn34, ro35)) hr31) (by rintro _ _ _ ⟨rfl, rfl⟩; exact (px_st (fun _ h => st_pk 2 [0] (by decide) h) (px_of (Le.refl _) (.inr ⟨_, rfl, _, rfl, rfl, rfl⟩)))))) (fun _ _ _ _ h => h.elim)
          · have hm30 := sm_r hm26
            clear hm26
            refine c_reg ?_
            refine r_u (o_mv rfl) ?_
            refine rl_st (fun _ h => st_pk 2 [1, 0] (by decide) h) ?_
            refine r_c (s_w (o_callL ca117 rfl (wire_Reader_Flag.ok b0_ a0 (Sum.inl ra3) hr1) (fun _ _ _ h => h))) ?_
            refine r_u (o_mv rfl) ?_
            refine r_c (s_w (o_callL ca72 rfl (wire_Reader_Num.ok b0_ ra3.2 18446744073709551615 (Sum.inl ra9) hr7) (fun _ _ _ h => h))) ?_
            refine r_u (o_mv rfl) ?_
            refine r_c (s_w (o_callL ca72 rfl (wire_Reader_Num.ok b0_ ra9.2 18446744073709551615 (Sum.inl ra15) hr13) (fun _ _ _ h => h))) ?_
            refine r_u (o_mv rfl) ?_
            refine r_c (s_w (o_callL ca72 rfl (wire_Reader_Num.ok b0_ ra15.2 18446744073709551615 (Sum.inl ra21) hr19) (fun _ _ _ h => h))) ?_
            refine r_u (o_mv rfl) ?_
            obtain rfl := Option.some.inj hm30
            exact r_sw (s_w (o_callR ca74 rfl (cell_TakeView.ok b0_ ra21.2 (Sum.inr (rn28, ro29)) hr25) (by rintro _ _ _ ⟨rfl, rfl⟩; exact (px_st (fun _ h => st_pk 2 [0] (by decide) h) (px_of (Le.refl _) (.inr ⟨_, rfl, _, rfl, rfl, rfl⟩)))))) (fun _ _ _ _ h => h.elim)
        · have hm24 := sm_r hm20
          clear hm20
          refine c_reg ?_
          refine r_u (o_mv rfl) ?_
          refine rl_st (fun _ h => st_pk 2 [1, 0] (by decide) h) ?_
          refine r_c (s_w (o_callL ca117 rfl (wire_Reader_Flag.ok b0_ a0 (Sum.inl ra3) hr1) (fun _ _ _ h => h))) ?_
          refine r_u (o_mv rfl) ?_
          refine r_c (s_w (o_callL ca72 rfl (wire_Reader_Num.ok b0_ ra3.2 18446744073709551615 (Sum.inl ra9) hr7) (fun _ _ _ h => h))) ?_
          refine r_u (o_mv rfl) ?_
          refine r_c (s_w (o_callL ca72 rfl (wire_Reader_Num.ok b0_ ra9.2 18446744073709551615 (Sum.inl ra15) hr13) (fun _ _ _ h => h))) ?_
          refine r_u (o_mv rfl) ?_
          obtain rfl := Option.some.inj hm24
          exact r_sw (s_w (o_callR ca72 rfl (wire_Reader_Num.ok b0_ ra15.2 18446744073709551615 (Sum.inr (rn22, ro23)) hr19) (by rintro _ _ _ ⟨rfl, rfl⟩; exact (px_st (fun _ h => st_pk 2 [0] (by decide) h) (px_of (Le.refl _) (.inr ⟨_, rfl, _, rfl, rfl, rfl⟩)))))) (fun _ _ _ _ h => h.elim)
      · have hm18 := sm_r hm14
        clear hm14
        refine c_reg ?_
        refine r_u (o_mv rfl) ?_
        refine rl_st (fun _ h => st_pk 2 [1, 0] (by decide) h) ?_
        refine r_c (s_w (o_callL ca117 rfl (wire_Reader_Flag.ok b0_ a0 (Sum.inl ra3) hr1) (fun _ _ _ h => h))) ?_
        refine r_u (o_mv rfl) ?_
        refine r_c (s_w (o_callL ca72 rfl (wire_Reader_Num.ok b0_ ra3.2 18446744073709551615 (Sum.inl ra9) hr7) (fun _ _ _ h => h))) ?_
        refine r_u (o_mv rfl) ?_
        obtain rfl := Option.some.inj hm18
        exact r_sw (s_w (o_callR ca72 rfl (wire_Reader_Num.ok b0_ ra9.2 18446744073709551615 (Sum.inr (rn16, ro17)) hr13) (by rintro _ _ _ ⟨rfl, rfl⟩; exact (px_st (fun _ h => st_pk 2 [0] (by decide) h) (px_of (Le.refl _) (.inr ⟨_, rfl, _, rfl, rfl, rfl⟩)))))) (fun _ _ _ _ h => h.elim)
    · have hm12 := sm_r hm8
      clear hm8
      refine c_reg ?_
      refine r_u (o_mv rfl) ?_
      refine rl_st (fun _ h => st_pk 2 [1, 0] (by decide) h) ?_
      refine r_c (s_w (o_callL ca117 rfl (wire_Reader_Flag.ok b0_ a0 (Sum.inl ra3) hr1) (fun _ _ _ h => h))) ?_
      refine r_u (o_mv rfl) ?_
      obtain rfl := Option.some.inj hm12
      exact r_sw (s_w (o_callR ca72 rfl (wire_Reader_Num.ok b0_ ra3.2 18446744073709551615 (Sum.inr (rn10, ro11)) hr7) (by rintro _ _ _ ⟨rfl, rfl⟩; exact (px_st (fun _ h => st_pk 2 [0] (by decide) h) (px_of (Le.refl _) (.inr ⟨_, rfl, _, rfl, rfl, rfl⟩)))))) (fun _ _ _ _ h => h.elim)
  · have hm6 := sm_r hm2
    clear hm2
    refine c_reg ?_
    refine r_u (o_mv rfl) ?_
    refine rl_st (fun _ h => st_pk 2 [1, 0] (by decide) h) ?_
    obtain rfl := Option.some.inj hm6
    exact r_sw (s_w (o_callR ca117 rfl (wire_Reader_Flag.ok b0_ a0 (Sum.inr (rn4, ro5)) hr1) (by rintro _ _ _ ⟨rfl, rfl⟩; exact (px_st (fun _ h => st_pk 2 [0] (by decide) h) (px_of (Le.refl _) (.inr ⟨_, rfl, _, rfl, rfl, rfl⟩)))))) (fun _ _ _ _ h => h.elim)

def wire_Reader_Text (a0 : wire_Reader) (a1 : Int) : Option ((Str × wire_Reader) ⊕ (Int × wire_Reader)) :=
  (wire_Reader_Num a0 (toW (if a1 < 0 then 0 else a1))).bind fun r0 => sm r0 (fun (ra2 : UInt64 × wire_Reader) => (wire_Reader_Bytes ra2.2 (i64 (ra2.1.toNat : Int))).bind fun r6 => sm r6 (fun (ra8 : Str × wire_Reader) => some (Sum.inl (ra8.1, ra8.2))) fun ((rn9, ro10) : Int × wire_Reader) => some (Sum.inr (rn9, ro10))) fun ((rn3, ro4) : Int × wire_Reader) => some (Sum.inr (rn3, ro4))
theorem wire_Reader_Text.ok {G R F} (b0_ : Nat) (a0 : wire_Reader) (a1 : Int) (r : (Str × wire_Reader) ⊕ (Int × wire_Reader)) (hm : wire_Reader_Text a0 a1 = some r) : CO Try.prog 92 [pt b0_ 0, vI a1] G R (Bk b0_ 114 (wire_Reader.c a0) :: F)
    (PK 112 r (fun (a : Str × wire_Reader) u R' L' => u = vS a.1 ∧ R' = R ∧ L' = Bk b0_ 114 (wire_Reader.c a.2) :: F) (fun n (o : wire_Reader) R' L' => R' = R ∧ L' = Bk b0_ 114 (wire_Reader.c o) :: F)) := by
  unfold wire_Reader_Text at hm
  refine co_ofN (N := 13) Try.func92 rfl rfl ?_
  refine c_seq ?_
  refine c_reg ?_
  refine r_u (o_as rfl) ?_
  refine r_nil ?_
  refine x_seq ?_
  refine c_seq ?_
  obtain ⟨r0, hr0, hm1⟩ := bs hm
  clear hm
  rcases r0 with ra2 | ⟨rn3, ro4⟩
  · have hm5 := sm_l hm1
    clear hm1
    obtain ⟨r6, hr6, hm7⟩ := bs hm5
    clear hm5
    rcases r6 with ra8 | ⟨rn9, ro10⟩
    · have hm11 := sm_l hm7
      clear hm7
      refine c_reg ?_
      refine r_u (o_mv rfl) ?_
      refine r_u (o_mv rfl) ?_
      refine r_u (o_mv rfl) ?_
      refine r_u (o_maxI rfl rfl) ?_
      refine r_u (o_cv rfl (cIW Try.underlying3 Try.underlying22 (if a1 < 0 then 0 else a1))) ?_
      refine r_c (s_w (o_callL ca72 rfl (wire_Reader_Num.ok b0_ a0 (toW (if a1 < 0 then 0 else a1)) (Sum.inl ra2) hr0) (fun _ _ _ h => h))) ?_
      refine r_u (o_cv rfl (cWI Try.underlying22 Try.underlying3 ra2.1)) ?_
      refine r_c (s_w (o_callL ca78 rfl (wire_Reader_Bytes.ok b0_ ra2.2 (i64 (ra2.1.toNat : Int)) (Sum.inl ra8) hr6) (fun _ _ _ h => h))) ?_
      refine r_u (o_as rfl) ?_
      refine r_nil ?_
      refine x_seq ?_
      refine c_ret ?_
      obtain rfl := Option.some.inj hm11
      exact x_r1 rfl (rv_t rfl) (Le.refl _) (.inl ⟨_, rfl, _, rfl, rfl, rfl, rfl⟩)
    · have hm11 := sm_r hm7
      clear hm7
      refine c_reg ?_
      refine r_u (o_mv rfl) ?_
      refine r_u (o_mv rfl) ?_
      refine r_u (o_mv rfl) ?_
      refine r_u (o_maxI rfl rfl) ?_
      refine r_u (o_cv rfl (cIW Try.underlying3 Try.underlying22 (if a1 < 0 then 0 else a1))) ?_
      refine r_c (s_w (o_callL ca72 rfl (wire_Reader_Num.ok b0_ a0 (toW (if a1 < 0 then 0 else a1)) (Sum.inl ra2) hr0) (fun _ _ _ h => h))) ?_
      refine r_u (o_cv rfl (cWI Try.underlying22 Try.underlying3 ra2.1)) ?_
      obtain rfl := Option.some.inj hm11
      exact r_sw (s_w (o_callR ca78 rfl (wire_Reader_Bytes.ok b0_ ra2.2 (i64 (ra2.1.toNat : Int)) (Sum.inr (rn9, ro10)) hr6) (by rintro _ _ _ ⟨rfl, rfl⟩; exact (px_st (fun _ h => st_pk 1 [0] (by decide) h) (px_of (Le.refl _) (.inr ⟨_, rfl, _, rfl, rfl, rfl⟩)))))) (fun _ _ _ _ h => h.elim)
  · have hm5 := sm_r hm1
    clear hm1
    refine c_reg ?_
    refine r_u (o_mv rfl) ?_
    refine r_u (o_mv rfl) ?_
    refine r_u (o_mv rfl) ?_
    refine r_u (o_maxI rfl rfl) ?_
    refine r_u (o_cv rfl (cIW Try.underlying3 Try.underlying22 (if a1 < 0 then 0 else a1))) ?_
    obtain rfl := Option.some.inj hm5
    exact r_sw (s_w (o_callR ca72 rfl (wire_Reader_Num.ok b0_ a0 (toW (if a1 < 0 then 0 else a1)) (Sum.inr (rn3, ro4)) hr0) (by rintro _ _ _ ⟨rfl, rfl⟩; exact (px_st (fun _ h => st_pk 1 [0] (by decide) h) (px_of (Le.refl _) (.inr ⟨_, rfl, _, rfl, rfl, rfl⟩)))))) (fun _ _ _ _ h => h.elim)

def op_Check (a0 : api_Op) : Bool :=
  if ((decide (64 < (a0.Key.length : Int)) || decide (4096 < (a0.Value.length : Int))) || decide (1073741824 < a0.TTL)) then false else lt (if (a0.Kind == 1) then (a0.Kind == 1) else (a0.Kind == 3)) fun p3 => if p3 then ((((a0.Key != []) && (a0.Value == [])) && (a0.TTL == 0)) && (a0.Version == 0)) else if (a0.Kind == 2) then ((a0.Key != []) && (a0.Version == 0)) else if (a0.Kind == 4) then ((a0.Key != []) && decide (1 ≤ a0.Version)) else if (a0.Kind == 5) then decide (a0 = (⟨5, [], [], 0, 0⟩ : api_Op)) else false
theorem op_Check.ok {G R F} (a0 : api_Op) (r : Bool) (hm : op_Check a0 = r) : CO Try.prog 46 [.agg (api_Op.c a0).toArray] G R (F)
    (Ret fun u R' L' => u = vB r ∧ R' = R ∧ L' = F) := by
  unfold op_Check at hm
  refine co_ofN (N := 66) Try.func46 rfl rfl ?_
  refine c_seq ?_
  refine c_reg ?_
  refine r_new (o_bx (api_Op.c a0) rfl rfl) fun b0 => ?_
  refine r_u (o_as rfl) ?_
  refine r_nil ?_
  refine x_seq ?_
  refine c_seq ?_
  refine c_seq ?_
  refine c_reg ?_
  refine r_u (o_fa fa32_1 rfl) ?_
  refine r_u (o_ld 0 sc9 rfl rfl rfl) ?_
  refine r_u (o_lenS Try.underlying9 rfl) ?_
  refine r_u (o_bin rfl rfl (bI_gt (a0.Key.length : Int) 64)) ?_
  refine r_u (o_mv rfl) ?_
  refine r_s (s_gf rfl rfl fun g => o_fa fa32_2 rfl) ?_
  refine r_s (s_gf rfl rfl fun g => o_ld 0 sc9 (evg rfl g) rfl rfl) ?_
  refine r_s (s_gf rfl rfl fun g => o_lenS Try.underlying9 (evg rfl g)) ?_
  refine r_s (s_gf rfl rfl fun g => o_bin (evg rfl g) rfl (bI_gt (a0.Value.length : Int) 4096)) ?_
  refine r_u (o_or rfl rfl) ?_
  refine r_u (o_mv rfl) ?_
  refine r_s (s_gf rfl rfl fun g => o_fa fa32_3 rfl) ?_
  refine r_s (s_gf rfl rfl fun g => o_ld 0 sc22 (evg rfl g) rfl rfl) ?_
  refine r_s (s_gf rfl rfl fun g => o_bin (evg rfl g) rfl (bW_gt a0.TTL 1073741824)) ?_
  refine r_u (o_or rfl rfl) ?_
  refine r_nil ?_
  refine x_seq ?_
  refine c_if (b := ((decide (64 < (a0.Key.length : Int)) || decide (4096 < (a0.Value.length : Int))) || decide (1073741824 < a0.TTL))) rfl (fun h1 => ?_) fun h1 => ?_
  · have hm2 := ift hm h1
    clear hm
    refine c_seq ?_
    refine c_reg ?_
    refine r_u (o_as rfl) ?_
    refine r_nil ?_
    refine x_seq ?_
    refine c_ret ?_
    subst hm2
    refine ex_st (fun _ h => st_pk 1 [] (by decide) h) ?_
    exact x_r1 rfl (rv_t rfl) (Le.refl _) ⟨_, rfl, rfl, rfl, rfl⟩
  · have hm2 := iff_ hm h1
    clear hm
    refine c_skip ?_
    refine x_seq ?_
    refine c_seq ?_
    refine c_seq ?_
    refine c_reg ?_
    refine r_u (o_fa fa32_0 rfl) ?_
    refine r_u (o_ld 0 sc3 rfl rfl rfl) ?_
    refine r_nil ?_
    refine x_seq ?_
    refine c_blk ?_
    refine c_seq ?_
    refine c_seq ?_
    refine c_reg ?_
    refine r_u (o_bin rfl rfl (bI_eq a0.Kind 1)) ?_
    refine r_u (o_as rfl) ?_
    refine r_nil ?_
    refine x_seq ?_
    obtain ⟨p3, hp4, hm5⟩ := ltx hm2
    refine cd_join (E' := [(1, pt b0 0), (19, vI a0.Kind), (20, vB p3)]) (L' := Bk b0 32 (api_Op.c a0) :: F) ?_ fun K6 => ?_
    · refine x_seq ?_
      refine c_if (b := p3) rfl (fun h7 => ?_) fun h7 => ?_
      · have hm8 := ift hm5 h7
        clear hm5
        refine c_seq ?_
        refine c_reg ?_
        refine r_u (o_fa fa32_1 rfl) ?_
        refine r_u (o_ld 0 sc9 rfl rfl rfl) ?_
        refine r_u (o_bin rfl rfl (bS_ne a0.Key [])) ?_
        refine r_u (o_mv rfl) ?_
        refine r_s (s_gt rfl rfl fun g => o_fa fa32_2 rfl) ?_
        refine r_s (s_gt rfl rfl fun g => o_ld 0 sc9 (evg rfl g) rfl rfl) ?_
        refine r_s (s_gt rfl rfl fun g => o_bin (evg rfl g) rfl (bS_eq a0.Value [])) ?_
        refine r_u (o_and rfl rfl) ?_
        refine r_u (o_mv rfl) ?_
        refine r_s (s_gt rfl rfl fun g => o_fa fa32_3 rfl) ?_
        refine r_s (s_gt rfl rfl fun g => o_ld 0 sc22 (evg rfl g) rfl rfl) ?_
        refine r_s (s_gt rfl rfl fun g => o_bin (evg rfl g) rfl (bW_eq a0.TTL 0)) ?_
        refine r_u (o_and rfl rfl) ?_
        refine r_u (o_mv rfl) ?_
        refine r_s (s_gt rfl rfl fun g => o_fa fa32_4 rfl) ?_
        refine r_s (s_gt rfl rfl fun g => o_ld 0 sc22 (evg rfl g) rfl rfl) ?_
        refine r_s (s_gt rfl rfl fun g => o_bin (evg rfl g) rfl (bW_eq a0.Version 0)) ?_
        refine r_u (o_and rfl rfl) ?_
        refine r_u (o_as rfl) ?_
        refine r_nil ?_
        refine x_seq ?_
        refine c_ret ?_
        subst hm8
        refine ex_st (fun _ h => st_pk 1 [] (by decide) h) ?_
        exact x_r1 rfl (rv_t rfl) (Le.refl _) ⟨_, rfl, rfl, rfl, rfl⟩
      · have hm8 := iff_ hm5 h7
        clear hm5
        refine c_seq ?_
        refine c_reg ?_
        refine r_u (o_bin rfl rfl (bI_eq a0.Kind 2)) ?_
        refine r_u (o_as rfl) ?_
        refine r_nil ?_
        refine x_seq ?_
        refine c_if (b := (a0.Kind == 2)) rfl (fun h9 => ?_) fun h9 => ?_
        · have hm10 := ift hm8 h9
          clear hm8
          refine c_seq ?_
          refine c_reg ?_
          refine r_u (o_fa fa32_1 rfl) ?_
          refine r_u (o_ld 0 sc9 rfl rfl rfl) ?_
          refine r_u (o_bin rfl rfl (bS_ne a0.Key [])) ?_
          refine r_u (o_mv rfl) ?_
          refine r_s (s_gt rfl rfl fun g => o_fa fa32_4 rfl) ?_
          refine r_s (s_gt rfl rfl fun g => o_ld 0 sc22 (evg rfl g) rfl rfl) ?_
          refine r_s (s_gt rfl rfl fun g => o_bin (evg rfl g) rfl (bW_eq a0.Version 0)) ?_
          refine r_u (o_and rfl rfl) ?_
          refine r_u (o_as rfl) ?_
          refine r_nil ?_
          refine x_seq ?_
          refine c_ret ?_
          subst hm10
          refine ex_st (fun _ h => st_pk 1 [] (by decide) h) ?_
          exact x_r1 rfl (rv_t rfl) (Le.refl _) ⟨_, rfl, rfl, rfl, rfl⟩
        · have hm10 := iff_ hm8 h9
          clear hm8
          refine c_seq ?_
          refine c_reg ?_
          refine r_u (o_bin rfl rfl (bI_eq a0.Kind 4)) ?_
          refine r_u (o_as rfl) ?_
          refine r_nil ?_
          refine x_seq ?_
          refine c_if (b := (a0.Kind == 4)) rfl (fun h11 => ?_) fun h11 => ?_
          · have hm12 := ift hm10 h11
            clear hm10
            refine c_seq ?_
            refine c_reg ?_
            refine r_u (o_fa fa32_1 rfl) ?_
            refine r_u (o_ld 0 sc9 rfl rfl rfl) ?_
            refine r_u (o_bin rfl rfl (bS_ne a0.Key [])) ?_
            refine r_u (o_mv rfl) ?_
            refine r_s (s_gt rfl rfl fun g => o_fa fa32_4 rfl) ?_
            refine r_s (s_gt rfl rfl fun g => o_ld 0 sc22 (evg rfl g) rfl rfl) ?_
            refine r_s (s_gt rfl rfl fun g => o_bin (evg rfl g) rfl (bW_ge a0.Version 1)) ?_
            refine r_u (o_and rfl rfl) ?_
            refine r_u (o_as rfl) ?_
            refine r_nil ?_
            refine x_seq ?_
            refine c_ret ?_
            subst hm12
            refine ex_st (fun _ h => st_pk 1 [] (by decide) h) ?_
            exact x_r1 rfl (rv_t rfl) (Le.refl _) ⟨_, rfl, rfl, rfl, rfl⟩
          · have hm12 := iff_ hm10 h11
            clear hm10
            refine c_seq ?_
            refine c_reg ?_
            refine r_u (o_bin rfl rfl (bI_eq a0.Kind 5)) ?_
            refine r_u (o_as rfl) ?_
            refine r_nil ?_
            refine x_seq ?_
            refine c_if (b := (a0.Kind == 5)) rfl (fun h13 => ?_) fun h13 => ?_
            · have hm14 := ift hm12 h13
              clear hm12
              refine c_seq ?_
              refine c_reg ?_
              refine r_u (o_ldn 0 (api_Op.c a0) ag32 rfl rfl rfl rfl) ?_
              refine r_u (o_bld [vI 5, vS [], vS [], vW 0, vW 0] rfl (fun _ => by kernel_rfl)) ?_
              refine r_u (o_bin rfl rfl (api_Op.beq_32 a0 (⟨5, [], [], 0, 0⟩ : api_Op))) ?_
              refine r_u (o_as rfl) ?_
              refine r_nil ?_
              refine x_seq ?_
              refine c_ret ?_
              subst hm14
              refine ex_st (fun _ h => st_pk 1 [] (by decide) h) ?_
              exact x_r1 rfl (rv_t rfl) (Le.refl _) ⟨_, rfl, rfl, rfl, rfl⟩
            · have hm14 := iff_ hm12 h13
              clear hm12
              refine c_skip ?_
              refine x_blk ?_
              refine x_seq ?_
              refine c_seq ?_
              refine c_reg ?_
              refine r_u (o_as rfl) ?_
              refine r_nil ?_
              refine x_seq ?_
              refine c_ret ?_
              subst hm14
              refine ex_st (fun _ h => st_pk 1 [] (by decide) h) ?_
              exact x_r1 rfl (rv_t rfl) (Le.refl _) ⟨_, rfl, rfl, rfl, rfl⟩
    · refine c_if (b := (a0.Kind == 1)) rfl (fun h15 => ?_) fun h15 => ?_
      · have hm16 := ift hp4 h15
        clear hp4
        refine c_skip ?_
        subst hm16
        exact x_sub K6 ⟨rfl, rfl, rfl, trivial⟩ (fun _ h => st_pk 1 [0] (by decide) h)
      · have hm16 := iff_ hp4 h15
        clear hp4
        refine c_reg ?_
        refine r_u (o_bin rfl rfl (bI_eq a0.Kind 3)) ?_
        refine r_u (o_as rfl) ?_
        refine r_nil ?_
        subst hm16
        exact x_sub K6 ⟨rfl, rfl, rfl, trivial⟩ (fun _ h => st_pk 1 [0] (by decide) h)

def op_Take (a0 : wire_Reader) : Option ((api_Op × wire_Reader) ⊕ (Int × wire_Reader)) :=
  (wire_Reader_Num a0 5).bind fun r1 => sm r1 (fun (ra3 : UInt64 × wire_Reader) => lt (wire_Reader_Must ra3.2 (decide (1 ≤ (i64 (ra3.1.toNat : Int))))) fun r8 => sm r8 (fun (ra10 : Unit) => if ((i64 (ra3.1.toNat : Int)) == 5) then some (Sum.inl ((⟨i64 (ra3.1.toNat : Int), [], [], 0, 0⟩ : api_Op), ra3.2)) else (wire_Reader_Text ra3.2 64).bind fun r16 => sm r16 (fun (ra18 : Str × wire_Reader) => Option.bind (if (((i64 (ra3.1.toNat : Int)) == 2) || ((i64 (ra3.1.toNat : Int)) == 4)) then (wire_Reader_Text ra18.2 4096).bind fun r49 => sm r49 (fun (ra51 : Str × wire_Reader) => (wire_Reader_Num ra51.2 1073741824).bind fun r55 => sm r55 (fun (ra57 : UInt64 × wire_Reader) => some (Sum.inl ((⟨i64 (ra3.1.toNat : Int), ra18.1, ra51.1, ra57.1, 0⟩ : api_Op), ra57.2.s))) fun ((rn58, ro59) : Int × wire_Reader) => some (Sum.inr (Sum.inr (rn58, ro59)))) fun ((rn52, ro53) : Int × wire_Reader) => some (Sum.inr (Sum.inr (rn52, ro53))) else some (Sum.inl ((⟨i64 (ra3.1.toNat : Int), ra18.1, [], 0, 0⟩ : api_Op), ra18.2.s))) fun (p22 : (api_Op × Str) ⊕ ((api_Op × wire_Reader) ⊕ (Int × wire_Reader))) => (match p22 with | Sum.inl q23 => if (q23.1.Kind == 4) then (wire_Reader_Num (⟨q23.2⟩ : wire_Reader) 18446744073709551615).bind fun r29 => sm r29 (fun (ra31 : UInt64 × wire_Reader) => lt (wire_Reader_Must ra31.2 (op_Check (⟨q23.1.Kind, q23.1.Key, q23.1.Value, q23.1.TTL, ra31.1⟩ : api_Op))) fun r35 => sm r35 (fun (ra37 : Unit) => some (Sum.inl ((⟨q23.1.Kind, q23.1.Key, q23.1.Value, q23.1.TTL, ra31.1⟩ : api_Op), ra31.2))) fun ((rn38, ro39) : Int × Unit) => some (Sum.inr (rn38, ra31.2))) fun ((rn32, ro33) : Int × wire_Reader) => some (Sum.inr (rn32, ro33)) else lt (wire_Reader_Must (⟨q23.2⟩ : wire_Reader) (op_Check q23.1)) fun r41 => sm r41 (fun (ra43 : Unit) => some (Sum.inl (q23.1, (⟨q23.2⟩ : wire_Reader)))) fun ((rn44, ro45) : Int × Unit) => some (Sum.inr (rn44, (⟨q23.2⟩ : wire_Reader))) | Sum.inr r => some r)) fun ((rn19, ro20) : Int × wire_Reader) => some (Sum.inr (rn19, ro20))) fun ((rn11, ro12) : Int × Unit) => some (Sum.inr (rn11, ra3.2))) fun ((rn4, ro5) : Int × wire_Reader) => some (Sum.inr (rn4, ro5))
theorem op_Take.ok {G R F} (b0_ : Nat) (a0 : wire_Reader) (r : (api_Op × wire_Reader) ⊕ (Int × wire_Reader)) (hm : op_Take a0 = some r) : CO Try.prog 79 [pt b0_ 0] G R (Bk b0_ 114 (wire_Reader.c a0) :: F)
    (PK 112 r (fun (a : api_Op × wire_Reader) u R' L' => u = .agg (api_Op.c a.1).toArray ∧ R' = R ∧ L' = Bk b0_ 114 (wire_Reader.c a.2) :: F) (fun n (o : wire_Reader) R' L' => R' = R ∧ L' = Bk b0_ 114 (wire_Reader.c o) :: F)) := by
  unfold op_Take at hm
  refine co_ofN (N := 45) Try.func79 rfl rfl ?_
  refine c_seq ?_
  refine c_reg ?_
  refine r_new (o_al ze32) fun b0 => ?_
  refine r_nil ?_
  refine x_seq ?_
  refine c_seq ?_
  obtain ⟨r1, hr1, hm2⟩ := bs hm
  clear hm
  rcases r1 with ra3 | ⟨rn4, ro5⟩
  · have hm6 := sm_l hm2
    clear hm2
    refine c_reg ?_
    refine r_u (o_mv rfl) ?_
    refine rl_st (fun _ h => st_pk 2 [1, 0] (by decide) h) ?_
    refine r_c (s_w (o_callL ca72 rfl (wire_Reader_Num.ok b0_ a0 5 (Sum.inl ra3) hr1) (fun _ _ _ h => h))) ?_
    refine r_u (o_cv rfl (cWI Try.underlying22 Try.underlying3 ra3.1)) ?_
    refine r_u (o_bld [vI (i64 (ra3.1.toNat : Int)), vS [], vS [], vW 0, vW 0] rfl (fun _ => by kernel_rfl)) ?_
    refine r_new (o_al ze32) fun b7 => ?_
    refine r_u0 (o_stn ag32 rfl rfl rfl rfl rfl rfl rfl) ?_
    refine r_nil ?_
    refine x_seq ?_
    refine c_seq ?_
    obtain ⟨r8, hr8, hm9⟩ := ltx hm6
    clear hm6
    rcases r8 with ra10 | ⟨rn11, ro12⟩
    · have hm13 := sm_l hm9
      clear hm9
      refine c_reg ?_
      refine r_u (o_mv rfl) ?_
      refine r_u (o_fa fa32_0 rfl) ?_
      refine r_u (o_ld 0 sc3 rfl rfl rfl) ?_
      refine r_u (o_bin rfl rfl (bI_ge (i64 (ra3.1.toNat : Int)) 1)) ?_
      refine rl_st (fun _ h => st_pk 3 [1, 0, 2] (by decide) h) ?_
      refine r_c (s_w (o_callL ca73 rfl (wire_Reader_Must.ok b0_ ra3.2 (decide (1 ≤ (i64 (ra3.1.toNat : Int)))) (Sum.inl ra10) hr8) (fun _ _ _ h => h))) ?_
      refine r_nil ?_
      refine x_seq ?_
      refine c_seq ?_
      refine c_seq ?_
      refine c_reg ?_
      refine r_u (o_fa fa32_0 rfl) ?_
      refine r_u (o_ld 1 sc3 rfl rfl rfl) ?_
      refine r_u (o_bin rfl rfl (bI_eq (i64 (ra3.1.toNat : Int)) 5)) ?_
      refine r_nil ?_
      refine x_seq ?_
      refine c_if (b := ((i64 (ra3.1.toNat : Int)) == 5)) rfl (fun h14 => ?_) fun h14 => ?_
      · have hm15 := ift hm13 h14
        clear hm13
        refine c_seq ?_
        refine c_reg ?_
        refine r_u (o_ldn 1 [vI (i64 (ra3.1.toNat : Int)), vS [], vS [], vW 0, vW 0] ag32 rfl rfl rfl rfl) ?_
        refine rl_st (fun _ h => st_pk 3 [2, 0, 1] (by decide) h) ?_
        refine r_u0 (o_stn ag32 rfl rfl rfl rfl rfl rfl rfl) ?_
        refine r_nil ?_
        refine x_seq ?_
        refine c_ret ?_
        obtain rfl := Option.some.inj hm15
        exact x_d1 rfl (rv_n 0 [vI (i64 (ra3.1.toNat : Int)), vS [], vS [], vW 0, vW 0] ag32 rfl rfl rfl rfl) (fun _ h => st_pk 3 [1] (by decide) h) (Le.refl _) (.inl ⟨_, rfl, _, rfl, rfl, rfl, rfl⟩)
      · have hm15 := iff_ hm13 h14
        clear hm13
        refine c_skip ?_
        refine x_seq ?_
        refine c_seq ?_
        obtain ⟨r16, hr16, hm17⟩ := bs hm15
        clear hm15
        rcases r16 with ra18 | ⟨rn19, ro20⟩
        · have hm21 := sm_l hm17
          clear hm17
          refine c_reg ?_
          refine r_u (o_mv rfl) ?_
          refine r_c (s_w (o_callL ca92 rfl (wire_Reader_Text.ok b0_ ra3.2 64 (Sum.inl ra18) hr16) (fun _ _ _ h => h))) ?_
          refine r_u (o_fa fa32_1 rfl) ?_
          refine rl_st (fun _ h => st_pk 3 [1, 0, 2] (by decide) h) ?_
          refine r_u0 (o_st sc9 rfl rfl rfl rfl rfl rfl) ?_
          refine r_nil ?_
          refine x_seq ?_
          refine c_seq ?_
          refine c_seq ?_
          refine c_reg ?_
          refine r_u (o_fa fa32_0 rfl) ?_
          refine r_u (o_ld 0 sc3 rfl rfl rfl) ?_
          refine r_u (o_bin rfl rfl (bI_eq (i64 (ra3.1.toNat : Int)) 2)) ?_
          refine r_u (o_mv rfl) ?_
          refine r_s (s_gf rfl rfl fun g => o_fa fa32_0 rfl) ?_
          refine r_s (s_gf rfl rfl fun g => o_ld 0 sc3 (evg rfl g) rfl rfl) ?_
          refine r_s (s_gf rfl rfl fun g => o_bin (evg rfl g) rfl (bI_eq (i64 (ra3.1.toNat : Int)) 4)) ?_
          refine r_u (o_or rfl rfl) ?_
          refine r_nil ?_
          refine x_seq ?_
          obtain ⟨p22, hp24, hm25⟩ := bs hm21
          refine cd_joinS (p := p22) (Ef := fun q23 => [(0, pt b0_ 0), (2, pt b0 0), (3, pt b7 0)]) (Lf := fun q23 => Bk b7 32 (api_Op.c q23.1) :: Bk b0_ 114 [vS q23.2] :: Bk b0 32 [vI 0, vS [], vS [], vW 0, vW 0] :: F) (fun q23 hq => ?_) fun K26 => ?_
          · subst hq
            try dsimp only at hm25
            refine x_seq ?_
            refine c_seq ?_
            refine c_seq ?_
            refine c_reg ?_
            refine r_u (o_fa fa32_0 rfl) ?_
            refine r_u (o_ld 0 sc3 rfl rfl rfl) ?_
            refine r_u (o_bin rfl rfl (bI_eq q23.1.Kind 4)) ?_
            refine r_nil ?_
            refine x_seq ?_
            refine c_if (b := (q23.1.Kind == 4)) rfl (fun h27 => ?_) fun h27 => ?_
            · have hm28 := ift hm25 h27
              clear hm25
              obtain ⟨r29, hr29, hm30⟩ := bs hm28
              clear hm28
              rcases r29 with ra31 | ⟨rn32, ro33⟩
              · have hm34 := sm_l hm30
                clear hm30
                refine c_reg ?_
                refine r_u (o_mv rfl) ?_
                refine rl_st (fun _ h => st_pk 3 [1, 0, 2] (by decide) h) ?_
                refine r_c (s_w (o_callL ca72 rfl (wire_Reader_Num.ok b0_ (⟨q23.2⟩ : wire_Reader) 18446744073709551615 (Sum.inl ra31) hr29) (fun _ _ _ h => h))) ?_
                refine r_u (o_fa fa32_4 rfl) ?_
                refine rl_st (fun _ h => st_pk 3 [1, 0, 2] (by decide) h) ?_
                refine r_u0 (o_st sc22 rfl rfl rfl rfl rfl rfl) ?_
                refine r_nil ?_
                refine x_seq ?_
                refine c_seq ?_
                obtain ⟨r35, hr35, hm36⟩ := ltx hm34
                clear hm34
                rcases r35 with ra37 | ⟨rn38, ro39⟩
                · have hm40 := sm_l hm36
                  clear hm36
                  refine c_reg ?_
                  refine r_u (o_mv rfl) ?_
                  refine r_u (o_ldn 0 [vI q23.1.Kind, vS q23.1.Key, vS q23.1.Value, vW q23.1.TTL, vW ra31.1] ag32 rfl rfl rfl rfl) ?_
                  refine r_u (o_callq ca46 rfl (op_Check.ok (⟨q23.1.Kind, q23.1.Key, q23.1.Value, q23.1.TTL, ra31.1⟩ : api_Op) _ rfl)) ?_
                  refine rl_st (fun _ h => st_pk 3 [1, 0, 2] (by decide) h) ?_
                  refine r_c (s_w (o_callL ca73 rfl (wire_Reader_Must.ok b0_ ra31.2 (op_Check (⟨q23.1.Kind, q23.1.Key, q23.1.Value, q23.1.TTL, ra31.1⟩ : api_Op)) (Sum.inl ra37) hr35) (fun _ _ _ h => h))) ?_
                  refine r_nil ?_
                  refine x_seq ?_
                  refine c_seq ?_
                  refine c_reg ?_
                  refine r_u (o_ldn 1 [vI q23.1.Kind, vS q23.1.Key, vS q23.1.Value, vW q23.1.TTL, vW ra31.1] ag32 rfl rfl rfl rfl) ?_
                  refine rl_st (fun _ h => st_pk 3 [2, 0, 1] (by decide) h) ?_
                  refine r_u0 (o_stn ag32 rfl rfl rfl rfl rfl rfl rfl) ?_
                  refine r_nil ?_
                  refine x_seq ?_
                  refine c_ret ?_
                  obtain rfl := Option.some.inj hm40
                  exact x_d1 rfl (rv_n 0 [vI q23.1.Kind, vS q23.1.Key, vS q23.1.Value, vW q23.1.TTL, vW ra31.1] ag32 rfl rfl rfl rfl) (fun _ h => st_pk 3 [1] (by decide) h) (Le.refl _) (.inl ⟨_, rfl, _, rfl, rfl, rfl, rfl⟩)
                · have hm40 := sm_r hm36
                  clear hm36
                  refine c_reg ?_
                  refine r_u (o_mv rfl) ?_
                  refine r_u (o_ldn 0 [vI q23.1.Kind, vS q23.1.Key, vS q23.1.Value, vW q23.1.TTL, vW ra31.1] ag32 rfl rfl rfl rfl) ?_
                  refine r_u (o_callq ca46 rfl (op_Check.ok (⟨q23.1.Kind, q23.1.Key, q23.1.Value, q23.1.TTL, ra31.1⟩ : api_Op) _ rfl)) ?_
                  refine rl_st (fun _ h => st_pk 3 [1, 0, 2] (by decide) h) ?_
                  obtain rfl := Option.some.inj hm40
                  exact r_sw (s_w (o_callR ca73 rfl (wire_Reader_Must.ok b0_ ra31.2 (op_Check (⟨q23.1.Kind, q23.1.Key, q23.1.Value, q23.1.TTL, ra31.1⟩ : api_Op)) (Sum.inr (rn38, ro39)) hr35) (by rintro _ _ _ ⟨rfl, rfl⟩; exact (px_st (fun _ h => st_pk 3 [0] (by decide) h) (px_of (Le.refl _) (.inr ⟨_, rfl, _, rfl, rfl, rfl⟩)))))) (fun _ _ _ _ h => h.elim)
              · have hm34 := sm_r hm30
                clear hm30
                refine c_reg ?_
                refine r_u (o_mv rfl) ?_
                refine rl_st (fun _ h => st_pk 3 [1, 0, 2] (by decide) h) ?_
                obtain rfl := Option.some.inj hm34
                exact r_sw (s_w (o_callR ca72 rfl (wire_Reader_Num.ok b0_ (⟨q23.2⟩ : wire_Reader) 18446744073709551615 (Sum.inr (rn32, ro33)) hr29) (by rintro _ _ _ ⟨rfl, rfl⟩; exact (px_st (fun _ h => st_pk 3 [0] (by decide) h) (px_of (Le.refl _) (.inr ⟨_, rfl, _, rfl, rfl, rfl⟩)))))) (fun _ _ _ _ h => h.elim)
            · have hm28 := iff_ hm25 h27
              clear hm25
              refine c_skip ?_
              refine x_seq ?_
              refine c_seq ?_
              obtain ⟨r41, hr41, hm42⟩ := ltx hm28
              clear hm28
              rcases r41 with ra43 | ⟨rn44, ro45⟩
              · have hm46 := sm_l hm42
                clear hm42
                refine c_reg ?_
                refine r_u (o_mv rfl) ?_
                refine r_u (o_ldn 0 (api_Op.c q23.1) ag32 rfl rfl rfl rfl) ?_
                refine r_u (o_callq ca46 rfl (op_Check.ok q23.1 _ rfl)) ?_
                refine rl_st (fun _ h => st_pk 3 [1, 0, 2] (by decide) h) ?_
                refine r_c (s_w (o_callL ca73 rfl (wire_Reader_Must.ok b0_ (⟨q23.2⟩ : wire_Reader) (op_Check q23.1) (Sum.inl ra43) hr41) (fun _ _ _ h => h))) ?_
                refine r_nil ?_
                refine x_seq ?_
                refine c_seq ?_
                refine c_reg ?_
                refine r_u (o_ldn 1 (api_Op.c q23.1) ag32 rfl rfl rfl rfl) ?_
                refine rl_st (fun _ h => st_pk 3 [2, 0, 1] (by decide) h) ?_
                refine r_u0 (o_stn ag32 rfl rfl rfl rfl rfl rfl rfl) ?_
                refine r_nil ?_
                refine x_seq ?_
                refine c_ret ?_
                obtain rfl := Option.some.inj hm46
                exact x_d1 rfl (rv_n 0 (api_Op.c q23.1) ag32 rfl rfl rfl rfl) (fun _ h => st_pk 3 [1] (by decide) h) (Le.refl _) (.inl ⟨_, rfl, _, rfl, rfl, rfl, rfl⟩)
              · have hm46 := sm_r hm42
                clear hm42
                refine c_reg ?_
                refine r_u (o_mv rfl) ?_
                refine r_u (o_ldn 0 (api_Op.c q23.1) ag32 rfl rfl rfl rfl) ?_
                refine r_u (o_callq ca46 rfl (op_Check.ok q23.1 _ rfl)) ?_
                refine rl_st (fun _ h => st_pk 3 [1, 0, 2] (by decide) h) ?_
                obtain rfl := Option.some.inj hm46
                exact r_sw (s_w (o_callR ca73 rfl (wire_Reader_Must.ok b0_ (⟨q23.2⟩ : wire_Reader) (op_Check q23.1) (Sum.inr (rn44, ro45)) hr41) (by rintro _ _ _ ⟨rfl, rfl⟩; exact (px_st (fun _ h => st_pk 3 [0] (by decide) h) (px_of (Le.refl _) (.inr ⟨_, rfl, _, rfl, rfl, rfl⟩)))))) (fun _ _ _ _ h => h.elim)
          · refine c_if (b := (((i64 (ra3.1.toNat : Int)) == 2) || ((i64 (ra3.1.toNat : Int)) == 4))) rfl (fun h47 => ?_) fun h47 => ?_
            · have hm48 := ift hp24 h47
              clear hp24
              refine c_seq ?_
              obtain ⟨r49, hr49, hm50⟩ := bs hm48
              clear hm48
              rcases r49 with ra51 | ⟨rn52, ro53⟩
              · have hm54 := sm_l hm50
                clear hm50
                refine c_reg ?_
                refine r_u (o_mv rfl) ?_
                refine rl_st (fun _ h => st_pk 3 [1, 0, 2] (by decide) h) ?_
                refine r_c (s_w (o_callL ca92 rfl (wire_Reader_Text.ok b0_ ra18.2 4096 (Sum.inl ra51) hr49) (fun _ _ _ h => h))) ?_
                refine r_u (o_fa fa32_2 rfl) ?_
                refine rl_st (fun _ h => st_pk 3 [1, 0, 2] (by decide) h) ?_
                refine r_u0 (o_st sc9 rfl rfl rfl rfl rfl rfl) ?_
                refine r_nil ?_
                refine x_seq ?_
                obtain ⟨r55, hr55, hm56⟩ := bs hm54
                clear hm54
                rcases r55 with ra57 | ⟨rn58, ro59⟩
                · have hm60 := sm_l hm56
                  clear hm56
                  refine c_reg ?_
                  refine r_u (o_mv rfl) ?_
                  refine rl_st (fun _ h => st_pk 3 [1, 0, 2] (by decide) h) ?_
                  refine r_c (s_w (o_callL ca72 rfl (wire_Reader_Num.ok b0_ ra51.2 1073741824 (Sum.inl ra57) hr55) (fun _ _ _ h => h))) ?_
                  refine r_u (o_fa fa32_3 rfl) ?_
                  refine rl_st (fun _ h => st_pk 3 [1, 0, 2] (by decide) h) ?_
                  refine r_u0 (o_st sc22 rfl rfl rfl rfl rfl rfl) ?_
                  refine r_nil ?_
                  obtain rfl := Option.some.inj hm60
                  exact x_sub (K26 _ rfl) ⟨rfl, rfl, rfl, trivial⟩ (fun _ h => st_pk 3 [0, 1, 2] (by decide) h)
                · have hm60 := sm_r hm56
                  clear hm56
                  refine c_reg ?_
                  refine r_u (o_mv rfl) ?_
                  refine rl_st (fun _ h => st_pk 3 [1, 0, 2] (by decide) h) ?_
                  obtain rfl := Option.some.inj hm60
                  try dsimp only at hm25
                  obtain rfl := Option.some.inj hm25
                  exact r_sw (s_w (o_callR ca72 rfl (wire_Reader_Num.ok b0_ ra51.2 1073741824 (Sum.inr (rn58, ro59)) hr55) (by rintro _ _ _ ⟨rfl, rfl⟩; exact (px_st (fun _ h => st_pk 3 [0] (by decide) h) (px_of (Le.refl _) (.inr ⟨_, rfl, _, rfl, rfl, rfl⟩)))))) (fun _ _ _ _ h => h.elim)
              · have hm54 := sm_r hm50
                clear hm50
                refine c_reg ?_
                refine r_u (o_mv rfl) ?_
                refine rl_st (fun _ h => st_pk 3 [1, 0, 2] (by decide) h) ?_
                obtain rfl := Option.some.inj hm54
                try dsimp only at hm25
                obtain rfl := Option.some.inj hm25
                exact r_sw (s_w (o_callR ca92 rfl (wire_Reader_Text.ok b0_ ra18.2 4096 (Sum.inr (rn52, ro53)) hr49) (by rintro _ _ _ ⟨rfl, rfl⟩; exact (px_st (fun _ h => st_pk 3 [0] (by decide) h) (px_of (Le.refl _) (.inr ⟨_, rfl, _, rfl, rfl, rfl⟩)))))) (fun _ _ _ _ h => h.elim)
            · have hm48 := iff_ hp24 h47
              clear hp24
              refine c_skip ?_
              obtain rfl := Option.some.inj hm48
              exact x_sub (K26 _ rfl) ⟨rfl, rfl, rfl, trivial⟩ (fun _ h => st_pk 3 [0, 1, 2] (by decide) h)
        · have hm21 := sm_r hm17
          clear hm17
          refine c_reg ?_
          refine r_u (o_mv rfl) ?_
          obtain rfl := Option.some.inj hm21
          exact r_sw (s_w (o_callR ca92 rfl (wire_Reader_Text.ok b0_ ra3.2 64 (Sum.inr (rn19, ro20)) hr16) (by rintro _ _ _ ⟨rfl, rfl⟩; exact (px_st (fun _ h => st_pk 3 [0] (by decide) h) (px_of (Le.refl _) (.inr ⟨_, rfl, _, rfl, rfl, rfl⟩)))))) (fun _ _ _ _ h => h.elim)
    · have hm13 := sm_r hm9
      clear hm9
      refine c_reg ?_
      refine r_u (o_mv rfl) ?_
      refine r_u (o_fa fa32_0 rfl) ?_
      refine r_u (o_ld 0 sc3 rfl rfl rfl) ?_
      refine r_u (o_bin rfl rfl (bI_ge (i64 (ra3.1.toNat : Int)) 1)) ?_
      refine rl_st (fun _ h => st_pk 3 [1, 0, 2] (by decide) h) ?_
      obtain rfl := Option.some.inj hm13
      exact r_sw (s_w (o_callR ca73 rfl (wire_Reader_Must.ok b0_ ra3.2 (decide (1 ≤ (i64 (ra3.1.toNat : Int)))) (Sum.inr (rn11, ro12)) hr8) (by rintro _ _ _ ⟨rfl, rfl⟩; exact (px_st (fun _ h => st_pk 3 [0] (by decide) h) (px_of (Le.refl _) (.inr ⟨_, rfl, _, rfl, rfl, rfl⟩)))))) (fun _ _ _ _ h => h.elim)
  · have hm6 := sm_r hm2
    clear hm2
    refine c_reg ?_
    refine r_u (o_mv rfl) ?_
    refine rl_st (fun _ h => st_pk 2 [1, 0] (by decide) h) ?_
    obtain rfl := Option.some.inj hm6
    exact r_sw (s_w (o_callR ca72 rfl (wire_Reader_Num.ok b0_ a0 5 (Sum.inr (rn4, ro5)) hr1) (by rintro _ _ _ ⟨rfl, rfl⟩; exact (px_st (fun _ h => st_pk 2 [0] (by decide) h) (px_of (Le.refl _) (.inr ⟨_, rfl, _, rfl, rfl, rfl⟩)))))) (fun _ _ _ _ h => h.elim)

def op_TakeRecord (a0 : wire_Reader) : Option ((api_Record × wire_Reader) ⊕ (Int × wire_Reader)) :=
  (wire_Reader_Num a0 18446744073709551615).bind fun r1 => sm r1 (fun (ra3 : UInt64 × wire_Reader) => (wire_Reader_Num ra3.2 18446744073709551615).bind fun r7 => sm r7 (fun (ra9 : UInt64 × wire_Reader) => (wire_Reader_Num ra9.2 18446744073709551615).bind fun r13 => sm r13 (fun (ra15 : UInt64 × wire_Reader) => (wire_Reader_Num ra15.2 18446744073709551615).bind fun r19 => sm r19 (fun (ra21 : UInt64 × wire_Reader) => (op_Take ra21.2).bind fun r25 => sm r25 (fun (ra27 : api_Op × wire_Reader) => some (Sum.inl ((⟨ra3.1, ra9.1, ra15.1, ra21.1, ra27.1⟩ : api_Record), ra27.2))) fun ((rn28, ro29) : Int × wire_Reader) => some (Sum.inr (rn28, ro29))) fun ((rn22, ro23) : Int × wire_Reader) => some (Sum.inr (rn22, ro23))) fun ((rn16, ro17) : Int × wire_Reader) => some (Sum.inr (rn16, ro17))) fun ((rn10, ro11) : Int × wire_Reader) => some (Sum.inr (rn10, ro11))) fun ((rn4, ro5) : Int × wire_Reader) => some (Sum.inr (rn4, ro5))
theorem op_TakeRecord.ok {G R F} (b0_ : Nat) (a0 : wire_Reader) (r : (api_Record × wire_Reader) ⊕ (Int × wire_Reader)) (hm : op_TakeRecord a0 = some r) : CO Try.prog 118 [pt b0_ 0] G R (Bk b0_ 114 (wire_Reader.c a0) :: F)
    (PK 112 r (fun (a : api_Record × wire_Reader) u R' L' => u = .agg (api_Record.c a.1).toArray ∧ R' = R ∧ L' = Bk b0_ 114 (wire_Reader.c a.2) :: F) (fun n (o : wire_Reader) R' L' => R' = R ∧ L' = Bk b0_ 114 (wire_Reader.c o) :: F)) := by
  unfold op_TakeRecord at hm
  refine co_ofN (N := 14) Try.func118 rfl rfl ?_
  refine c_seq ?_
  refine c_reg ?_
  refine r_new (o_al ze89) fun b0 => ?_
  refine r_nil ?_
  refine x_seq ?_
  refine c_seq ?_
  obtain ⟨r1, hr1, hm2⟩ := bs hm
  clear hm
  rcases r1 with ra3 | ⟨rn4, ro5⟩
  · have hm6 := sm_l hm2
    clear hm2
    obtain ⟨r7, hr7, hm8⟩ := bs hm6
    clear hm6
    rcases r7 with ra9 | ⟨rn10, ro11⟩
    · have hm12 := sm_l hm8
      clear hm8
      obtain ⟨r13, hr13, hm14⟩ := bs hm12
      clear hm12
      rcases r13 with ra15 | ⟨rn16, ro17⟩
      · have hm18 := sm_l hm14
        clear hm14
        obtain ⟨r19, hr19, hm20⟩ := bs hm18
        clear hm18
        rcases r19 with ra21 | ⟨rn22, ro23⟩
        · have hm24 := sm_l hm20
          clear hm20
          obtain ⟨r25, hr25, hm26⟩ := bs hm24
          clear hm24
          rcases r25 with ra27 | ⟨rn28, ro29⟩
          · have hm30 := sm_l hm26
            clear hm26
            refine c_reg ?_
            refine r_u (o_mv rfl) ?_
            refine rl_st (fun _ h => st_pk 2 [1, 0] (by decide) h) ?_
            refine r_c (s_w (o_callL ca72 rfl (wire_Reader_Num.ok b0_ a0 18446744073709551615 (Sum.inl ra3) hr1) (fun _ _ _ h => h))) ?_
            refine r_u (o_mv rfl) ?_
            refine r_c (s_w (o_callL ca72 rfl (wire_Reader_Num.ok b0_ ra3.2 18446744073709551615 (Sum.inl ra9) hr7) (fun _ _ _ h => h))) ?_
            refine r_u (o_mv rfl) ?_
            refine r_c (s_w (o_callL ca72 rfl (wire_Reader_Num.ok b0_ ra9.2 18446744073709551615 (Sum.inl ra15) hr13) (fun _ _ _ h => h))) ?_
            refine r_u (o_mv rfl) ?_
            refine r_c (s_w (o_callL ca72 rfl (wire_Reader_Num.ok b0_ ra15.2 18446744073709551615 (Sum.inl ra21) hr19) (fun _ _ _ h => h))) ?_
            refine r_u (o_mv rfl) ?_
            refine r_c (s_w (o_callL ca79 rfl (op_Take.ok b0_ ra21.2 (Sum.inl ra27) hr25) (fun _ _ _ h => h))) ?_
            refine r_u (o_bld [vW ra3.1, vW ra9.1, vW ra15.1, vW ra21.1, vI ra27.1.Kind, vS ra27.1.Key, vS ra27.1.Value, vW ra27.1.TTL, vW ra27.1.Version] rfl (fun _ => by kernel_rfl)) ?_
            refine rl_st (fun _ h => st_pk 2 [1, 0] (by decide) h) ?_
            refine r_u0 (o_stn ag89 rfl rfl rfl rfl rfl rfl rfl) ?_
            refine r_nil ?_
            refine x_seq ?_
            refine c_ret ?_
            obtain rfl := Option.some.inj hm30
            exact x_d1 rfl (rv_n 0 [vW ra3.1, vW ra9.1, vW ra15.1, vW ra21.1, vI ra27.1.Kind, vS ra27.1.Key, vS ra27.1.Value, vW ra27.1.TTL, vW ra27.1.Version] ag89 rfl rfl rfl rfl) (fun _ h => st_pk 2 [1] (by decide) h) (Le.refl _) (.inl ⟨_, rfl, _, rfl, rfl, rfl, rfl⟩)
          · have hm30 := sm_r hm26
            clear hm26
            refine c_reg ?_
            refine r_u (o_mv rfl) ?_
            refine rl_st (fun _ h => st_pk 2 [1, 0] (by decide) h) ?_
            refine r_c (s_w (o_callL ca72 rfl (wire_Reader_Num.ok b0_ a0 18446744073709551615 (Sum.inl ra3) hr1) (fun _ _ _ h => h))) ?_
            refine r_u (o_mv rfl) ?_
            refine r_c (s_w (o_callL ca72 rfl (wire_Reader_Num.ok b0_ ra3.2 18446744073709551615 (Sum.inl ra9) hr7) (fun _ _ _ h => h))) ?_
            refine r_u (o_mv rfl) ?_
            refine r_c (s_w (o_callL ca72 rfl (wire_Reader_Num.ok b0_ ra9.2 18446744073709551615 (Sum.inl ra15) hr13) (fun _ _ _ h => h))) ?_
            refine r_u (o_mv rfl) ?_
            refine r_c (s_w (o_callL ca72 rfl (wire_Reader_Num.ok b0_ ra15.2 18446744073709551615 (Sum.inl ra21) hr19) (fun _ _ _ h => h))) ?_
            refine r_u (o_mv rfl) ?_
            obtain rfl := Option.some.inj hm30
            exact r_sw (s_w (o_callR ca79 rfl (op_Take.ok b0_ ra21.2 (Sum.inr (rn28, ro29)) hr25) (by rintro _ _ _ ⟨rfl, rfl⟩; exact (px_st (fun _ h => st_pk 2 [0] (by decide) h) (px_of (Le.refl _) (.inr ⟨_, rfl, _, rfl, rfl, rfl⟩)))))) (fun _ _ _ _ h => h.elim)
        · have hm24 := sm_r hm20
          clear hm20
          refine c_reg ?_
          refine r_u (o_mv rfl) ?_
          refine rl_st (fun _ h => st_pk 2 [1, 0] (by decide) h) ?_
          refine r_c (s_w (o_callL ca72 rfl (wire_Reader_Num.ok b0_ a0 18446744073709551615 (Sum.inl ra3) hr1) (fun _ _ _ h => h))) ?_
          refine r_u (o_mv rfl) ?_
          refine r_c (s_w (o_callL ca72 rfl (wire_Reader_Num.ok b0_ ra3.2 18446744073709551615 (Sum.inl ra9) hr7) (fun _ _ _ h => h))) ?_
          refine r_u (o_mv rfl) ?_
          refine r_c (s_w (o_callL ca72 rfl (wire_Reader_Num.ok b0_ ra9.2 18446744073709551615 (Sum.inl ra15) hr13) (fun _ _ _ h => h))) ?_
          refine r_u (o_mv rfl) ?_
          obtain rfl := Option.some.inj hm24
          exact r_sw (s_w (o_callR ca72 rfl (wire_Reader_Num.ok b0_ ra15.2 18446744073709551615 (Sum.inr (rn22, ro23)) hr19) (by rintro _ _ _ ⟨rfl, rfl⟩; exact (px_st (fun _ h => st_pk 2 [0] (by decide) h) (px_of (Le.refl _) (.inr ⟨_, rfl, _, rfl, rfl, rfl⟩)))))) (fun _ _ _ _ h => h.elim)
      · have hm18 := sm_r hm14
        clear hm14
        refine c_reg ?_
        refine r_u (o_mv rfl) ?_
        refine rl_st (fun _ h => st_pk 2 [1, 0] (by decide) h) ?_
        refine r_c (s_w (o_callL ca72 rfl (wire_Reader_Num.ok b0_ a0 18446744073709551615 (Sum.inl ra3) hr1) (fun _ _ _ h => h))) ?_
        refine r_u (o_mv rfl) ?_
        refine r_c (s_w (o_callL ca72 rfl (wire_Reader_Num.ok b0_ ra3.2 18446744073709551615 (Sum.inl ra9) hr7) (fun _ _ _ h => h))) ?_
        refine r_u (o_mv rfl) ?_
        obtain rfl := Option.some.inj hm18
        exact r_sw (s_w (o_callR ca72 rfl (wire_Reader_Num.ok b0_ ra9.2 18446744073709551615 (Sum.inr (rn16, ro17)) hr13) (by rintro _ _ _ ⟨rfl, rfl⟩; exact (px_st (fun _ h => st_pk 2 [0] (by decide) h) (px_of (Le.refl _) (.inr ⟨_, rfl, _, rfl, rfl, rfl⟩)))))) (fun _ _ _ _ h => h.elim)
    · have hm12 := sm_r hm8
      clear hm8
      refine c_reg ?_
      refine r_u (o_mv rfl) ?_
      refine rl_st (fun _ h => st_pk 2 [1, 0] (by decide) h) ?_
      refine r_c (s_w (o_callL ca72 rfl (wire_Reader_Num.ok b0_ a0 18446744073709551615 (Sum.inl ra3) hr1) (fun _ _ _ h => h))) ?_
      refine r_u (o_mv rfl) ?_
      obtain rfl := Option.some.inj hm12
      exact r_sw (s_w (o_callR ca72 rfl (wire_Reader_Num.ok b0_ ra3.2 18446744073709551615 (Sum.inr (rn10, ro11)) hr7) (by rintro _ _ _ ⟨rfl, rfl⟩; exact (px_st (fun _ h => st_pk 2 [0] (by decide) h) (px_of (Le.refl _) (.inr ⟨_, rfl, _, rfl, rfl, rfl⟩)))))) (fun _ _ _ _ h => h.elim)
  · have hm6 := sm_r hm2
    clear hm2
    refine c_reg ?_
    refine r_u (o_mv rfl) ?_
    refine rl_st (fun _ h => st_pk 2 [1, 0] (by decide) h) ?_
    obtain rfl := Option.some.inj hm6
    exact r_sw (s_w (o_callR ca72 rfl (wire_Reader_Num.ok b0_ a0 18446744073709551615 (Sum.inr (rn4, ro5)) hr1) (by rintro _ _ _ ⟨rfl, rfl⟩; exact (px_st (fun _ h => st_pk 2 [0] (by decide) h) (px_of (Le.refl _) (.inr ⟨_, rfl, _, rfl, rfl, rfl⟩)))))) (fun _ _ _ _ h => h.elim)

def say_takeRecords_l0  : Nat → (List api_Record) → UInt64 → Str → Option ((List api_Record × Str) ⊕ ((List api_Record × wire_Reader) ⊕ (Int × wire_Reader)))
  | 0, _, _, _ => none
  | k16 + 1, out_12, n_13, c_14 => if decide (0 < n_13) then (op_TakeRecord (⟨c_14⟩ : wire_Reader)).bind fun r21 => sm r21 (fun (ra23 : api_Record × wire_Reader) => (apd 88 out_12 [ra23.1]).bind fun l29 => say_takeRecords_l0 k16 l29 (n_13 - 1) ra23.2.s) fun ((rn24, ro25) : Int × wire_Reader) => some (Sum.inr (Sum.inr (rn24, ro25))) else some (Sum.inl (out_12, c_14))
def say_takeRecords (a0 : wire_Reader) : Option ((List api_Record × wire_Reader) ⊕ (Int × wire_Reader)) :=
  (wire_Reader_Num a0 16).bind fun r0 => sm r0 (fun (ra2 : UInt64 × wire_Reader) => Option.bind (say_takeRecords_l0 ((ra2.1).toNat + 1) [] ra2.1 ra2.2.s) fun (p6 : (List api_Record × Str) ⊕ ((List api_Record × wire_Reader) ⊕ (Int × wire_Reader))) => (match p6 with | Sum.inl q7 => some (Sum.inl (q7.1, (⟨q7.2⟩ : wire_Reader))) | Sum.inr r => some r)) fun ((rn3, ro4) : Int × wire_Reader) => some (Sum.inr (rn3, ro4))
theorem say_takeRecords.ok {G R F} (b0_ : Nat) (a0 : wire_Reader) (r : (List api_Record × wire_Reader) ⊕ (Int × wire_Reader)) (hm : say_takeRecords a0 = some r) : CO Try.prog 76 [pt b0_ 0] G R (Bk b0_ 114 (wire_Reader.c a0) :: F)
    (PK 112 r (fun (a : List api_Record × wire_Reader) u R' L' => ∃ p0, u = p0 ∧ R' = R ∧ L' = OwS true 89 9 api_Record.c p0 a.1 :: Bk b0_ 114 (wire_Reader.c a.2) :: F) (fun n (o : wire_Reader) R' L' => R' = R ∧ L' = Bk b0_ 114 (wire_Reader.c o) :: F)) := by
  unfold say_takeRecords at hm
  refine co_ofN (N := 17) Try.func76 rfl rfl ?_
  refine c_seq ?_
  refine c_reg ?_
  refine r_u (o_as rfl) ?_
  refine r_nil ?_
  refine x_seq ?_
  refine c_seq ?_
  refine c_reg ?_
  refine r_u (o_as rfl) ?_
  refine r_nil ?_
  refine x_seq ?_
  refine c_seq ?_
  refine c_seq ?_
  obtain ⟨r0, hr0, hm1⟩ := bs hm
  clear hm
  rcases r0 with ra2 | ⟨rn3, ro4⟩
  · have hm5 := sm_l hm1
    clear hm1
    refine c_reg ?_
    refine r_u (o_mv rfl) ?_
    refine r_c (s_w (o_callL ca72 rfl (wire_Reader_Num.ok b0_ a0 16 (Sum.inl ra2) hr0) (fun _ _ _ h => h))) ?_
    refine r_u (o_as rfl) ?_
    refine r_nil ?_
    refine x_seq ?_
    obtain ⟨p6, hp9, hm10⟩ := bs hm5
    refine cd_cut (fun x ks => ∀ (q7 : List api_Record × Str), ∀ (_ : p6 = Sum.inl q7), ∀ (g8 : Value), EX x .normal ks [(3, g8)] R (Bk b0_ 114 [vS q7.2] :: OwS true 89 9 api_Record.c g8 q7.1 :: F)) ?_ fun K11 => ?_
    · intro q7 hq g8
      subst hq
      try dsimp only at hm10
      refine x_seq ?_
      refine c_seq ?_
      refine c_reg ?_
      refine r_u (o_mv rfl) ?_
      refine r_u (o_as rfl) ?_
      refine r_nil ?_
      refine x_seq ?_
      refine c_ret ?_
      obtain rfl := Option.some.inj hm10
      refine ex_st (fun _ h => st_pk 2 [1, 0] (by decide) h) ?_
      exact x_r1 rfl (rv_t rfl) (Le.refl _) (.inl ⟨_, rfl, _, rfl, g8, rfl, rfl, rfl⟩)
    · refine c_blk ?_
      refine cd_st (fun _ h => st_nil (ap := true) (T := 89) (sz := 9) (en := api_Record.c) h) ?_
      refine cd_loopG (M := fun k16 (s : List api_Record × UInt64 × Str × Value) => say_takeRecords_l0 k16 s.1 s.2.1 s.2.2.1 = some p6) (Ef := fun (s : List api_Record × UInt64 × Str × Value) => [(0, pt b0_ 0), (3, s.2.2.2), (4, vW s.2.1)]) (Rf := fun (s : List api_Record × UInt64 × Str × Value) => R) (Lf := fun (s : List api_Record × UInt64 × Str × Value) => Bk b0_ 114 [vS s.2.2.1] :: OwS true 89 9 api_Record.c s.2.2.2 s.1 :: F) ((ra2.1).toNat + 1) ([], ra2.1, ra2.2.s, .slice none 0 0) hp9 ⟨rfl, rfl, rfl, trivial⟩ (fun _ h => st_pk 2 [1, 0] (by decide) h) (fun _ h => by cases h) fun k16 s hM18 => ?_
      obtain ⟨out_12, n_13, c_14, g15⟩ := s
      have hm17 : say_takeRecords_l0 (k16 + 1) out_12 n_13 c_14 = some p6 := hM18
      rw [say_takeRecords_l0] at hm17
      refine c_seq ?_
      refine c_seq ?_
      refine c_reg ?_
      refine r_u (o_mv rfl) ?_
      refine r_u (o_bin rfl rfl (bW_gt n_13 0)) ?_
      refine r_nil ?_
      refine x_seq ?_
      refine c_if (b := decide (0 < n_13)) rfl (fun h19 => ?_) fun h19 => ?_
      · have hm20 := ift hm17 h19
        clear hm17
        refine c_skip ?_
        refine x_seq ?_
        refine c_seq ?_
        refine c_blk ?_
        obtain ⟨r21, hr21, hm22⟩ := bs hm20
        clear hm20
        rcases r21 with ra23 | ⟨rn24, ro25⟩
        · have hm26 := sm_l hm22
          clear hm22
          refine c_reg ?_
          refine r_u (o_mv rfl) ?_
          refine r_u (o_mv rfl) ?_
          refine r_c (s_w (o_callL ca118 rfl (op_TakeRecord.ok b0_ (⟨c_14⟩ : wire_Reader) (Sum.inl ra23) hr21) (fun _ _ _ h => h))) ?_
          refine r_sw (s_w (o_bsl (en := api_Record.c) (sz := 9) (e := 89) (cs := [vW ra23.1.Seq, vW ra23.1.Now, vW ra23.1.Session, vW ra23.1.Num, vI ra23.1.Op.Kind, vS ra23.1.Op.Key, vS ra23.1.Op.Value, vW ra23.1.Op.TTL, vW ra23.1.Op.Version]) (r := [ra23.1]) rfl (fun _ => by kernel_rfl) rfl (by decide) rfl (fun _ => rfl))) ?_
          rintro v27 R _ _ ⟨rfl, rfl⟩
          obtain ⟨l29, hl29, hm30⟩ := bs hm26
          clear hm26
          refine rl_st (fun _ h => st_pk 3 [2, 0, 1] (by decide) h) ?_
          refine r_sw (s_w (o_ap (sz := 9) (bytes := 88) 0 Try.underlying27 rfl rfl rfl rfl rfl (by decide) (by decide) (fun _ _ _ h => by simp [api_Record.c] at h; rcases h with rfl | rfl | rfl | rfl | rfl | rfl | rfl | rfl | rfl <;> rfl) (fun _ => rfl) rfl rfl rfl rfl (Nat.succ_pos _) hl29)) ?_
          rintro v28 R _ _ ⟨rfl, rfl⟩
          refine r_u (o_as rfl) ?_
          refine r_nil ?_
          refine x_blk ?_
          refine x_seq ?_
          refine c_reg ?_
          refine r_u (o_mv rfl) ?_
          refine r_u (o_bin rfl rfl (bW_sub n_13 1)) ?_
          refine r_u (o_as rfl) ?_
          refine r_nil ?_
          exact x_lp (l29, n_13 - 1, ra23.2.s, v28) hm30 ⟨rfl, rfl, rfl, trivial⟩ (fun _ h => st_pk 3 [2, 0] (by decide) h)
        · have hm26 := sm_r hm22
          clear hm22
          refine c_reg ?_
          refine r_u (o_mv rfl) ?_
          refine r_u (o_mv rfl) ?_
          obtain rfl := Option.some.inj hm26
          try dsimp only at hm10
          obtain rfl := Option.some.inj hm10
          exact r_sw (s_w (o_callR ca118 rfl (op_TakeRecord.ok b0_ (⟨c_14⟩ : wire_Reader) (Sum.inr (rn24, ro25)) hr21) (by rintro _ _ _ ⟨rfl, rfl⟩; exact (px_st (fun _ h => st_pk 2 [0] (by decide) h) (px_of (Le.refl _) (.inr ⟨_, rfl, _, rfl, rfl, rfl⟩)))))) (fun _ _ _ _ h => h.elim)
      · have hm20 := iff_ hm17 h19
        clear hm17
        refine c_exit (x_exit (ks' := _) rfl ?_)
        obtain rfl := Option.some.inj hm20
        exact x_sub (K11 _ rfl g15) ⟨rfl, trivial⟩ (fun _ h => st_pk 2 [0, 1] (by decide) h)
  · have hm5 := sm_r hm1
    clear hm1
    refine c_reg ?_
    refine r_u (o_mv rfl) ?_
    obtain rfl := Option.some.inj hm5
    exact r_sw (s_w (o_callR ca72 rfl (wire_Reader_Num.ok b0_ a0 16 (Sum.inr (rn3, ro4)) hr0) (by rintro _ _ _ ⟨rfl, rfl⟩; exact (px_st (fun _ h => st_pk 1 [0] (by decide) h) (px_of (Le.refl _) (.inr ⟨_, rfl, _, rfl, rfl, rfl⟩)))))) (fun _ _ _ _ h => h.elim)

def say_takePiece (a0 : wire_Reader) : Option ((api_Piece × wire_Reader) ⊕ (Int × wire_Reader)) :=
  (wire_Reader_Num a0 8192).bind fun r1 => sm r1 (fun (ra3 : UInt64 × wire_Reader) => lt (i64 (ra3.1.toNat : Int)) fun n7 => (wire_Reader_Num ra3.2 8192).bind fun r9 => sm r9 (fun (ra11 : UInt64 × wire_Reader) => lt (i64 (ra11.1.toNat : Int)) fun n15 => (wire_Reader_Text ra11.2 1024).bind fun r17 => sm r17 (fun (ra19 : Str × wire_Reader) => (wire_Reader_Bytes ra19.2 32).bind fun r23 => sm r23 (fun (ra25 : Str × wire_Reader) => (wire_Reader_Bytes ra25.2 32).bind fun r29 => sm r29 (fun (ra31 : Str × wire_Reader) => some (Sum.inl ((⟨n7, n15, ra19.1, ra25.1, ra31.1⟩ : api_Piece), ra31.2))) fun ((rn32, ro33) : Int × wire_Reader) => some (Sum.inr (rn32, ro33))) fun ((rn26, ro27) : Int × wire_Reader) => some (Sum.inr (rn26, ro27))) fun ((rn20, ro21) : Int × wire_Reader) => some (Sum.inr (rn20, ro21))) fun ((rn12, ro13) : Int × wire_Reader) => some (Sum.inr (rn12, ro13))) fun ((rn4, ro5) : Int × wire_Reader) => some (Sum.inr (rn4, ro5))
theorem say_takePiece.ok {G R F} (b0_ : Nat) (a0 : wire_Reader) (r : (api_Piece × wire_Reader) ⊕ (Int × wire_Reader)) (hm : say_takePiece a0 = some r) : CO Try.prog 77 [pt b0_ 0] G R (Bk b0_ 114 (wire_Reader.c a0) :: F)
    (PK 112 r (fun (a : api_Piece × wire_Reader) u R' L' => u = .agg (api_Piece.c a.1).toArray ∧ R' = R ∧ L' = Bk b0_ 114 (wire_Reader.c a.2) :: F) (fun n (o : wire_Reader) R' L' => R' = R ∧ L' = Bk b0_ 114 (wire_Reader.c o) :: F)) := by
  unfold say_takePiece at hm
  refine co_ofN (N := 16) Try.func77 rfl rfl ?_
  refine c_seq ?_
  refine c_reg ?_
  refine r_new (o_al ze29) fun b0 => ?_
  refine r_nil ?_
  refine x_seq ?_
  refine c_seq ?_
  obtain ⟨r1, hr1, hm2⟩ := bs hm
  clear hm
  rcases r1 with ra3 | ⟨rn4, ro5⟩
  · have hm6 := sm_l hm2
    clear hm2
    obtain ⟨n7, hn7, hm8⟩ := ltx hm6
    clear hm6
    obtain ⟨r9, hr9, hm10⟩ := bs hm8
    clear hm8
    rcases r9 with ra11 | ⟨rn12, ro13⟩
    · have hm14 := sm_l hm10
      clear hm10
      obtain ⟨n15, hn15, hm16⟩ := ltx hm14
      clear hm14
      obtain ⟨r17, hr17, hm18⟩ := bs hm16
      clear hm16
      rcases r17 with ra19 | ⟨rn20, ro21⟩
      · have hm22 := sm_l hm18
        clear hm18
        obtain ⟨r23, hr23, hm24⟩ := bs hm22
        clear hm22
        rcases r23 with ra25 | ⟨rn26, ro27⟩
        · have hm28 := sm_l hm24
          clear hm24
          obtain ⟨r29, hr29, hm30⟩ := bs hm28
          clear hm28
          rcases r29 with ra31 | ⟨rn32, ro33⟩
          · have hm34 := sm_l hm30
            clear hm30
            refine c_reg ?_
            refine r_u (o_mv rfl) ?_
            refine rl_st (fun _ h => st_pk 2 [1, 0] (by decide) h) ?_
            refine r_c (s_w (o_callL ca72 rfl (wire_Reader_Num.ok b0_ a0 8192 (Sum.inl ra3) hr1) (fun _ _ _ h => h))) ?_
            refine r_u (o_cv rfl (cvI (cWI Try.underlying22 Try.underlying3 ra3.1) hn7)) ?_
            refine r_u (o_mv rfl) ?_
            refine r_c (s_w (o_callL ca72 rfl (wire_Reader_Num.ok b0_ ra3.2 8192 (Sum.inl ra11) hr9) (fun _ _ _ h => h))) ?_
            refine r_u (o_cv rfl (cvI (cWI Try.underlying22 Try.underlying3 ra11.1) hn15)) ?_
            refine r_u (o_mv rfl) ?_
            refine r_c (s_w (o_callL ca92 rfl (wire_Reader_Text.ok b0_ ra11.2 1024 (Sum.inl ra19) hr17) (fun _ _ _ h => h))) ?_
            refine r_u (o_mv rfl) ?_
            refine r_c (s_w (o_callL ca78 rfl (wire_Reader_Bytes.ok b0_ ra19.2 32 (Sum.inl ra25) hr23) (fun _ _ _ h => h))) ?_
            refine r_u (o_mv rfl) ?_
            refine r_c (s_w (o_callL ca78 rfl (wire_Reader_Bytes.ok b0_ ra25.2 32 (Sum.inl ra31) hr29) (fun _ _ _ h => h))) ?_
            refine r_u (o_bld [vI n7, vI n15, vS ra19.1, vS ra25.1, vS ra31.1] rfl (fun _ => by kernel_rfl)) ?_
            refine rl_st (fun _ h => st_pk 2 [1, 0] (by decide) h) ?_
            refine r_u0 (o_stn ag29 rfl rfl rfl rfl rfl rfl rfl) ?_
            refine r_nil ?_
            refine x_seq ?_
            refine c_ret ?_
            obtain rfl := Option.some.inj hm34
            exact x_d1 rfl (rv_n 0 [vI n7, vI n15, vS ra19.1, vS ra25.1, vS ra31.1] ag29 rfl rfl rfl rfl) (fun _ h => st_pk 2 [1] (by decide) h) (Le.refl _) (.inl ⟨_, rfl, _, rfl, rfl, rfl, rfl⟩)
          · have hm34 := sm_r hm30
            clear hm30
            refine c_reg ?_
            refine r_u (o_mv rfl) ?_
            refine rl_st (fun _ h => st_pk 2 [1, 0] (by decide) h) ?_
            refine r_c (s_w (o_callL ca72 rfl (wire_Reader_Num.ok b0_ a0 8192 (Sum.inl ra3) hr1) (fun _ _ _ h => h))) ?_
            refine r_u (o_cv rfl (cvI (cWI Try.underlying22 Try.underlying3 ra3.1) hn7)) ?_
            refine r_u (o_mv rfl) ?_
            refine r_c (s_w (o_callL ca72 rfl (wire_Reader_Num.ok b0_ ra3.2 8192 (Sum.inl ra11) hr9) (fun _ _ _ h => h))) ?_
            refine r_u (o_cv rfl (cvI (cWI Try.underlying22 Try.underlying3 ra11.1) hn15)) ?_
            refine r_u (o_mv rfl) ?_
            refine r_c (s_w (o_callL ca92 rfl (wire_Reader_Text.ok b0_ ra11.2 1024 (Sum.inl ra19) hr17) (fun _ _ _ h => h))) ?_
            refine r_u (o_mv rfl) ?_
            refine r_c (s_w (o_callL ca78 rfl (wire_Reader_Bytes.ok b0_ ra19.2 32 (Sum.inl ra25) hr23) (fun _ _ _ h => h))) ?_
            refine r_u (o_mv rfl) ?_
            obtain rfl := Option.some.inj hm34
            exact r_sw (s_w (o_callR ca78 rfl (wire_Reader_Bytes.ok b0_ ra25.2 32 (Sum.inr (rn32, ro33)) hr29) (by rintro _ _ _ ⟨rfl, rfl⟩; exact (px_st (fun _ h => st_pk 2 [0] (by decide) h) (px_of (Le.refl _) (.inr ⟨_, rfl, _, rfl, rfl, rfl⟩)))))) (fun _ _ _ _ h => h.elim)
        · have hm28 := sm_r hm24
          clear hm24
          refine c_reg ?_
          refine r_u (o_mv rfl) ?_
          refine rl_st (fun _ h => st_pk 2 [1, 0] (by decide) h) ?_
          refine r_c (s_w (o_callL ca72 rfl (wire_Reader_Num.ok b0_ a0 8192 (Sum.inl ra3) hr1) (fun _ _ _ h => h))) ?_
          refine r_u (o_cv rfl (cvI (cWI Try.underlying22 Try.underlying3 ra3.1) hn7)) ?_
          refine r_u (o_mv rfl) ?_
          refine r_c (s_w (o_callL ca72 rfl (wire_Reader_Num.ok b0_ ra3.2 8192 (Sum.inl ra11) hr9) (fun _ _ _ h => h))) ?_
          refine r_u (o_cv rfl (cvI (cWI Try.underlying22 Try.underlying3 ra11.1) hn15)) ?_
          refine r_u (o_mv rfl) ?_
          refine r_c (s_w (o_callL ca92 rfl (wire_Reader_Text.ok b0_ ra11.2 1024 (Sum.inl ra19) hr17) (fun _ _ _ h => h))) ?_
          refine r_u (o_mv rfl) ?_
          obtain rfl := Option.some.inj hm28
          exact r_sw (s_w (o_callR ca78 rfl (wire_Reader_Bytes.ok b0_ ra19.2 32 (Sum.inr (rn26, ro27)) hr23) (by rintro _ _ _ ⟨rfl, rfl⟩; exact (px_st (fun _ h => st_pk 2 [0] (by decide) h) (px_of (Le.refl _) (.inr ⟨_, rfl, _, rfl, rfl, rfl⟩)))))) (fun _ _ _ _ h => h.elim)
      · have hm22 := sm_r hm18
        clear hm18
        refine c_reg ?_
        refine r_u (o_mv rfl) ?_
        refine rl_st (fun _ h => st_pk 2 [1, 0] (by decide) h) ?_
        refine r_c (s_w (o_callL ca72 rfl (wire_Reader_Num.ok b0_ a0 8192 (Sum.inl ra3) hr1) (fun _ _ _ h => h))) ?_
        refine r_u (o_cv rfl (cvI (cWI Try.underlying22 Try.underlying3 ra3.1) hn7)) ?_
        refine r_u (o_mv rfl) ?_
        refine r_c (s_w (o_callL ca72 rfl (wire_Reader_Num.ok b0_ ra3.2 8192 (Sum.inl ra11) hr9) (fun _ _ _ h => h))) ?_
        refine r_u (o_cv rfl (cvI (cWI Try.underlying22 Try.underlying3 ra11.1) hn15)) ?_
        refine r_u (o_mv rfl) ?_
        obtain rfl := Option.some.inj hm22
        exact r_sw (s_w (o_callR ca92 rfl (wire_Reader_Text.ok b0_ ra11.2 1024 (Sum.inr (rn20, ro21)) hr17) (by rintro _ _ _ ⟨rfl, rfl⟩; exact (px_st (fun _ h => st_pk 2 [0] (by decide) h) (px_of (Le.refl _) (.inr ⟨_, rfl, _, rfl, rfl, rfl⟩)))))) (fun _ _ _ _ h => h.elim)
    · have hm14 := sm_r hm10
      clear hm10
      refine c_reg ?_
      refine r_u (o_mv rfl) ?_
      refine rl_st (fun _ h => st_pk 2 [1, 0] (by decide) h) ?_
      refine r_c (s_w (o_callL ca72 rfl (wire_Reader_Num.ok b0_ a0 8192 (Sum.inl ra3) hr1) (fun _ _ _ h => h))) ?_
      refine r_u (o_cv rfl (cvI (cWI Try.underlying22 Try.underlying3 ra3.1) hn7)) ?_
      refine r_u (o_mv rfl) ?_
      obtain rfl := Option.some.inj hm14
      exact r_sw (s_w (o_callR ca72 rfl (wire_Reader_Num.ok b0_ ra3.2 8192 (Sum.inr (rn12, ro13)) hr9) (by rintro _ _ _ ⟨rfl, rfl⟩; exact (px_st (fun _ h => st_pk 2 [0] (by decide) h) (px_of (Le.refl _) (.inr ⟨_, rfl, _, rfl, rfl, rfl⟩)))))) (fun _ _ _ _ h => h.elim)
  · have hm6 := sm_r hm2
    clear hm2
    refine c_reg ?_
    refine r_u (o_mv rfl) ?_
    refine rl_st (fun _ h => st_pk 2 [1, 0] (by decide) h) ?_
    obtain rfl := Option.some.inj hm6
    exact r_sw (s_w (o_callR ca72 rfl (wire_Reader_Num.ok b0_ a0 8192 (Sum.inr (rn4, ro5)) hr1) (by rintro _ _ _ ⟨rfl, rfl⟩; exact (px_st (fun _ h => st_pk 2 [0] (by decide) h) (px_of (Le.refl _) (.inr ⟨_, rfl, _, rfl, rfl, rfl⟩)))))) (fun _ _ _ _ h => h.elim)

def op_TakeReply (a0 : wire_Reader) : Option ((api_Reply × wire_Reader) ⊕ (Int × wire_Reader)) :=
  (wire_Reader_Num a0 65535).bind fun r1 => sm r1 (fun (ra3 : UInt64 × wire_Reader) => (wire_Reader_Text ra3.2 4096).bind fun r7 => sm r7 (fun (ra9 : Str × wire_Reader) => (wire_Reader_Num ra9.2 18446744073709551615).bind fun r13 => sm r13 (fun (ra15 : UInt64 × wire_Reader) => some (Sum.inl ((⟨i64 (ra3.1.toNat : Int), ra9.1, ra15.1⟩ : api_Reply), ra15.2))) fun ((rn16, ro17) : Int × wire_Reader) => some (Sum.inr (rn16, ro17))) fun ((rn10, ro11) : Int × wire_Reader) => some (Sum.inr (rn10, ro11))) fun ((rn4, ro5) : Int × wire_Reader) => some (Sum.inr (rn4, ro5))
theorem op_TakeReply.ok {G R F} (b0_ : Nat) (a0 : wire_Reader) (r : (api_Reply × wire_Reader) ⊕ (Int × wire_Reader)) (hm : op_TakeReply a0 = some r) : CO Try.prog 80 [pt b0_ 0] G R (Bk b0_ 114 (wire_Reader.c a0) :: F)
    (PK 112 r (fun (a : api_Reply × wire_Reader) u R' L' => u = .agg (api_Reply.c a.1).toArray ∧ R' = R ∧ L' = Bk b0_ 114 (wire_Reader.c a.2) :: F) (fun n (o : wire_Reader) R' L' => R' = R ∧ L' = Bk b0_ 114 (wire_Reader.c o) :: F)) := by
  unfold op_TakeReply at hm
  refine co_ofN (N := 11) Try.func80 rfl rfl ?_
  refine c_seq ?_
  refine c_reg ?_
  refine r_new (o_al ze35) fun b0 => ?_
  refine r_nil ?_
  refine x_seq ?_
  refine c_seq ?_
  obtain ⟨r1, hr1, hm2⟩ := bs hm
  clear hm
  rcases r1 with ra3 | ⟨rn4, ro5⟩
  · have hm6 := sm_l hm2
    clear hm2
    obtain ⟨r7, hr7, hm8⟩ := bs hm6
    clear hm6
    rcases r7 with ra9 | ⟨rn10, ro11⟩
    · have hm12 := sm_l hm8
      clear hm8
      obtain ⟨r13, hr13, hm14⟩ := bs hm12
      clear hm12
      rcases r13 with ra15 | ⟨rn16, ro17⟩
      · have hm18 := sm_l hm14
        clear hm14
        refine c_reg ?_
        refine r_u (o_mv rfl) ?_
        refine rl_st (fun _ h => st_pk 2 [1, 0] (by decide) h) ?_
        refine r_c (s_w (o_callL ca72 rfl (wire_Reader_Num.ok b0_ a0 65535 (Sum.inl ra3) hr1) (fun _ _ _ h => h))) ?_
        refine r_u (o_cv rfl (cWI Try.underlying22 Try.underlying33 ra3.1)) ?_
        refine r_u (o_mv rfl) ?_
        refine r_c (s_w (o_callL ca92 rfl (wire_Reader_Text.ok b0_ ra3.2 4096 (Sum.inl ra9) hr7) (fun _ _ _ h => h))) ?_
        refine r_u (o_mv rfl) ?_
        refine r_c (s_w (o_callL ca72 rfl (wire_Reader_Num.ok b0_ ra9.2 18446744073709551615 (Sum.inl ra15) hr13) (fun _ _ _ h => h))) ?_
        refine r_u (o_bld [vI (i64 (ra3.1.toNat : Int)), vS ra9.1, vW ra15.1] rfl (fun _ => by kernel_rfl)) ?_
        refine rl_st (fun _ h => st_pk 2 [1, 0] (by decide) h) ?_
        refine r_u0 (o_stn ag35 rfl rfl rfl rfl rfl rfl rfl) ?_
        refine r_nil ?_
        refine x_seq ?_
        refine c_ret ?_
        obtain rfl := Option.some.inj hm18
        exact x_d1 rfl (rv_n 0 [vI (i64 (ra3.1.toNat : Int)), vS ra9.1, vW ra15.1] ag35 rfl rfl rfl rfl) (fun _ h => st_pk 2 [1] (by decide) h) (Le.refl _) (.inl ⟨_, rfl, _, rfl, rfl, rfl, rfl⟩)
      · have hm18 := sm_r hm14
        clear hm14
        refine c_reg ?_
        refine r_u (o_mv rfl) ?_
        refine rl_st (fun _ h => st_pk 2 [1, 0] (by decide) h) ?_
        refine r_c (s_w (o_callL ca72 rfl (wire_Reader_Num.ok b0_ a0 65535 (Sum.inl ra3) hr1) (fun _ _ _ h => h))) ?_
        refine r_u (o_cv rfl (cWI Try.underlying22 Try.underlying33 ra3.1)) ?_
        refine r_u (o_mv rfl) ?_
        refine r_c (s_w (o_callL ca92 rfl (wire_Reader_Text.ok b0_ ra3.2 4096 (Sum.inl ra9) hr7) (fun _ _ _ h => h))) ?_
        refine r_u (o_mv rfl) ?_
        obtain rfl := Option.some.inj hm18
        exact r_sw (s_w (o_callR ca72 rfl (wire_Reader_Num.ok b0_ ra9.2 18446744073709551615 (Sum.inr (rn16, ro17)) hr13) (by rintro _ _ _ ⟨rfl, rfl⟩; exact (px_st (fun _ h => st_pk 2 [0] (by decide) h) (px_of (Le.refl _) (.inr ⟨_, rfl, _, rfl, rfl, rfl⟩)))))) (fun _ _ _ _ h => h.elim)
    · have hm12 := sm_r hm8
      clear hm8
      refine c_reg ?_
      refine r_u (o_mv rfl) ?_
      refine rl_st (fun _ h => st_pk 2 [1, 0] (by decide) h) ?_
      refine r_c (s_w (o_callL ca72 rfl (wire_Reader_Num.ok b0_ a0 65535 (Sum.inl ra3) hr1) (fun _ _ _ h => h))) ?_
      refine r_u (o_cv rfl (cWI Try.underlying22 Try.underlying33 ra3.1)) ?_
      refine r_u (o_mv rfl) ?_
      obtain rfl := Option.some.inj hm12
      exact r_sw (s_w (o_callR ca92 rfl (wire_Reader_Text.ok b0_ ra3.2 4096 (Sum.inr (rn10, ro11)) hr7) (by rintro _ _ _ ⟨rfl, rfl⟩; exact (px_st (fun _ h => st_pk 2 [0] (by decide) h) (px_of (Le.refl _) (.inr ⟨_, rfl, _, rfl, rfl, rfl⟩)))))) (fun _ _ _ _ h => h.elim)
  · have hm6 := sm_r hm2
    clear hm2
    refine c_reg ?_
    refine r_u (o_mv rfl) ?_
    refine rl_st (fun _ h => st_pk 2 [1, 0] (by decide) h) ?_
    obtain rfl := Option.some.inj hm6
    exact r_sw (s_w (o_callR ca72 rfl (wire_Reader_Num.ok b0_ a0 65535 (Sum.inr (rn4, ro5)) hr1) (by rintro _ _ _ ⟨rfl, rfl⟩; exact (px_st (fun _ h => st_pk 2 [0] (by decide) h) (px_of (Le.refl _) (.inr ⟨_, rfl, _, rfl, rfl, rfl⟩)))))) (fun _ _ _ _ h => h.elim)

end Go.Proofs.Ythngfieikhillaa
