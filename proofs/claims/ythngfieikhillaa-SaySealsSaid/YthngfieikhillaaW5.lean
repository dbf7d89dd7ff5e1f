import Derived.Test.YthngfieikhillaaW4
import Derived.Test.YthngfieikhillaaFacts
import Derived.Test.YthngfieikhillaaHwU
set_option linter.unusedVariables false
set_option linter.unusedSectionVars false
set_option linter.unusedSimpArgs false
set_option maxRecDepth 100000
set_option maxHeartbeats 8000000
namespace Go.Proofs.Ythngfieikhillaa
open Go Go.Proofs.Ythngfieikhillaa.Hw
def wire_Open_1 (a0 : wire_Reader) (a1 : Str) (a2 : Str) : Option ((wire_Reader × Str) ⊕ (Int × (wire_Reader × Str))) :=
  (wire_Reader_Bytes a0 1).bind fun r0 => sm r0 (fun (ra2 : Str × wire_Reader) => (gi ra2.1 0).bind fun c6 => lt (wire_Reader_Must ra2.2 (c6 == 49)) fun r8 => sm r8 (fun (ra10 : Unit) => (wire_Reader_Text ra2.2 65536).bind fun r14 => sm r14 (fun (ra16 : Str × wire_Reader) => (wire_Reader_Bytes ra16.2 4).bind fun r20 => sm r20 (fun (ra22 : Str × wire_Reader) => (sl a2 0 (i64 ((i64 ((a2.length : Int) - 4)) - (wire_Reader_Left ra22.2)))).bind fun s26 => (wire_Check s26).bind fun r28 => lt (wire_Reader_Must ra22.2 (ra22.1 == (wire_sum r28))) fun r30 => sm r30 (fun (ra32 : Unit) => some (Sum.inl (ra22.2, ra16.1))) fun ((rn33, ro34) : Int × Unit) => some (Sum.inr (rn33, (ra22.2, ra16.1)))) fun ((rn23, ro24) : Int × wire_Reader) => some (Sum.inr (rn23, (ro24, ra16.1)))) fun ((rn17, ro18) : Int × wire_Reader) => some (Sum.inr (rn17, (ro18, a1)))) fun ((rn11, ro12) : Int × Unit) => some (Sum.inr (rn11, (ra2.2, a1)))) fun ((rn3, ro4) : Int × wire_Reader) => some (Sum.inr (rn3, (ro4, a1)))
theorem wire_Open_1.ok {G R F} (b0_ : Nat) (a0 : wire_Reader) (b1_ : Nat) (a1 : Str) (b2_ : Nat) (a2 : Str) (r : (wire_Reader × Str) ⊕ (Int × (wire_Reader × Str))) (hm : wire_Open_1 a0 a1 a2 = some r) : CO Try.prog 91 [pt b0_ 0, pt b1_ 0, pt b2_ 0] G R (Bk b0_ 114 (wire_Reader.c a0) :: Bk b1_ 9 [vS a1] :: Bk b2_ 9 [vS a2] :: F)
    (PK 112 r (fun (a : wire_Reader × Str) u R' L' => u = .tuple #[] ∧ R' = R ∧ L' = Bk b0_ 114 (wire_Reader.c a.1) :: Bk b1_ 9 [vS a.2] :: Bk b2_ 9 [vS a2] :: F) (fun n (o : wire_Reader × Str) R' L' => R' = R ∧ L' = Bk b0_ 114 (wire_Reader.c o.1) :: Bk b1_ 9 [vS o.2] :: Bk b2_ 9 [vS a2] :: F)) := by
  unfold wire_Open_1 at hm
  refine co_ofN (N := 29) Try.func91 rfl rfl ?_
  refine c_seq ?_
  obtain ⟨r0, hr0, hm1⟩ := bs hm
  clear hm
  rcases r0 with ra2 | ⟨rn3, ro4⟩
  · have hm5 := sm_l hm1
    clear hm1
    obtain ⟨c6, hc6, hm7⟩ := bs hm5
    clear hm5
    obtain ⟨r8, hr8, hm9⟩ := ltx hm7
    clear hm7
    rcases r8 with ra10 | ⟨rn11, ro12⟩
    · have hm13 := sm_l hm9
      clear hm9
      refine c_reg ?_
      refine r_u (o_mv rfl) ?_
      refine r_u (o_mv rfl) ?_
      refine r_c (s_w (o_callL ca78 rfl (wire_Reader_Bytes.ok b0_ a0 1 (Sum.inl ra2) hr0) (fun _ _ _ h => h))) ?_
      refine r_u (o_ixS Try.underlying9 rfl rfl hc6) ?_
      refine r_u (o_bin rfl rfl (bY_eq c6 49)) ?_
      refine r_c (s_w (o_callL ca73 rfl (wire_Reader_Must.ok b0_ ra2.2 (c6 == 49) (Sum.inl ra10) hr8) (fun _ _ _ h => h))) ?_
      refine r_nil ?_
      refine x_seq ?_
      refine c_seq ?_
      obtain ⟨r14, hr14, hm15⟩ := bs hm13
      clear hm13
      rcases r14 with ra16 | ⟨rn17, ro18⟩
      · have hm19 := sm_l hm15
        clear hm15
        refine c_reg ?_
        refine r_u (o_mv rfl) ?_
        refine r_c (s_w (o_callL ca92 rfl (wire_Reader_Text.ok b0_ ra2.2 65536 (Sum.inl ra16) hr14) (fun _ _ _ h => h))) ?_
        refine rl_st (fun _ h => st_pk 3 [1, 0, 2] (by decide) h) ?_
        refine r_u0 (o_st sc9 rfl rfl rfl rfl rfl rfl) ?_
        refine r_nil ?_
        refine x_seq ?_
        refine c_seq ?_
        obtain ⟨r20, hr20, hm21⟩ := bs hm19
        clear hm19
        rcases r20 with ra22 | ⟨rn23, ro24⟩
        · have hm25 := sm_l hm21
          clear hm21
          refine c_reg ?_
          refine r_u (o_mv rfl) ?_
          refine rl_st (fun _ h => st_pk 3 [1, 0, 2] (by decide) h) ?_
          refine r_c (s_w (o_callL ca78 rfl (wire_Reader_Bytes.ok b0_ ra16.2 4 (Sum.inl ra22) hr20) (fun _ _ _ h => h))) ?_
          refine r_u (o_as rfl) ?_
          refine r_nil ?_
          refine x_seq ?_
          obtain ⟨s26, hs26, hm27⟩ := bs hm25
          clear hm25
          obtain ⟨r28, hr28, hm29⟩ := bs hm27
          clear hm27
          obtain ⟨r30, hr30, hm31⟩ := ltx hm29
          clear hm29
          rcases r30 with ra32 | ⟨rn33, ro34⟩
          · have hm35 := sm_l hm31
            clear hm31
            refine c_any mixed (effs := [7, 13]) (V := []) ?_
            refine stage_ext [(0, pt b0_ 0), (1, vS ra22.1), (2, vS a2), (3, vS a2), (4, vI (a2.length : Int)), (5, vI (i64 ((a2.length : Int) - 4))), (6, pt b0_ 0)] rfl ?_
            refine stage rfl rfl rfl rfl [0, 0, 0, 0, 8, 24, 0, 64, 248, 508, 1020, 2044, 4094, 8191] [0, 1, 2, 3, 4, 5, 6] [7] rfl rfl rfl (qc rfl rfl (s_u (o_mv rfl)) (qc rfl rfl (s_u (o_mv rfl)) (qc rfl rfl (s_u (o_ld 2 sc9 rfl rfl rfl)) (qc rfl rfl (s_u (o_ld 2 sc9 rfl rfl rfl)) (qc rfl rfl (s_u (o_lenS Try.underlying9 rfl)) (qc rfl rfl (s_u (o_bin rfl rfl (bI_sub (a2.length : Int) 4))) (qc rfl rfl (s_u (o_mv rfl)) qn))))))) ?_ (fun h => absurd h (by decide))
            refine ec (eo_c rfl (s_w (o_call ca93 rfl (wire_Reader_Left.ok b0_ ra22.2 _ rfl))) ?_) en
            refine stage_ext [(8, vI (i64 ((i64 ((a2.length : Int) - 4)) - (wire_Reader_Left ra22.2)))), (9, vS s26), (10, vD r28), (11, vS (wire_sum r28)), (12, vB (ra22.1 == (wire_sum r28)))] rfl ?_
            refine stage rfl rfl rfl rfl [0, 0, 0, 0, 8, 24, 0, 64, 248, 508, 1020, 2044, 4094, 8191] [0, 1, 2, 3, 4, 5, 8, 9, 10, 11, 12] [13] rfl rfl rfl (qc rfl rfl (s_u (o_mv rfl)) (qc rfl rfl (s_u (o_mv rfl)) (qc rfl rfl (s_u (o_ld 2 sc9 rfl rfl rfl)) (qc rfl rfl (s_u (o_ld 2 sc9 rfl rfl rfl)) (qc rfl rfl (s_u (o_lenS Try.underlying9 rfl)) (qc rfl rfl (s_u (o_bin rfl rfl (bI_sub (a2.length : Int) 4))) (qc rfl rfl (s_u (o_bin rfl rfl (bI_sub (i64 ((a2.length : Int) - 4)) (wire_Reader_Left ra22.2)))) (qc rfl rfl (s_u (o_slS (i := 0) (j := i64 ((i64 ((a2.length : Int) - 4)) - (wire_Reader_Left ra22.2))) Try.underlying9 rfl rfl rfl hs26)) (qc rfl rfl (s_u (o_callq ca90 rfl (wire_Check.ok s26 r28 hr28))) (qc rfl rfl (s_u (o_callq ca89 rfl (wire_sum.ok r28 _ rfl))) (qc rfl rfl (s_u (o_bin rfl rfl (bS_eq ra22.1 (wire_sum r28)))) qn))))))))))) ?_ (fun h => absurd h (by decide))
            refine ec (eo_c rfl (s_w (o_callL ca73 rfl (wire_Reader_Must.ok b0_ ra22.2 (ra22.1 == (wire_sum r28)) (Sum.inl ra32) hr30) (fun _ _ _ h => h))) ?_) en
            refine stage rfl rfl rfl rfl [0, 0, 0, 0, 8, 24, 0, 64, 248, 508, 1020, 2044, 4094, 8191] [] [] rfl rfl rfl qn en ?_
            intro _
            refine ex_sub (E' := []) trivial ?_
            refine x_end ?_
            obtain rfl := Option.some.inj hm35
            exact x_r0 rfl (Le.refl _) (.inl ⟨_, rfl, _, rfl, rfl, rfl, rfl⟩)
          · have hm35 := sm_r hm31
            clear hm31
            refine c_any mixed (effs := [7, 13]) (V := []) ?_
            refine stage_ext [(0, pt b0_ 0), (1, vS ra22.1), (2, vS a2), (3, vS a2), (4, vI (a2.length : Int)), (5, vI (i64 ((a2.length : Int) - 4))), (6, pt b0_ 0)] rfl ?_
            refine stage rfl rfl rfl rfl [0, 0, 0, 0, 8, 24, 0, 64, 248, 508, 1020, 2044, 4094, 8191] [0, 1, 2, 3, 4, 5, 6] [7] rfl rfl rfl (qc rfl rfl (s_u (o_mv rfl)) (qc rfl rfl (s_u (o_mv rfl)) (qc rfl rfl (s_u (o_ld 2 sc9 rfl rfl rfl)) (qc rfl rfl (s_u (o_ld 2 sc9 rfl rfl rfl)) (qc rfl rfl (s_u (o_lenS Try.underlying9 rfl)) (qc rfl rfl (s_u (o_bin rfl rfl (bI_sub (a2.length : Int) 4))) (qc rfl rfl (s_u (o_mv rfl)) qn))))))) ?_ (fun h => absurd h (by decide))
            refine ec (eo_c rfl (s_w (o_call ca93 rfl (wire_Reader_Left.ok b0_ ra22.2 _ rfl))) ?_) en
            refine stage_ext [(8, vI (i64 ((i64 ((a2.length : Int) - 4)) - (wire_Reader_Left ra22.2)))), (9, vS s26), (10, vD r28), (11, vS (wire_sum r28)), (12, vB (ra22.1 == (wire_sum r28)))] rfl ?_
            refine stage rfl rfl rfl rfl [0, 0, 0, 0, 8, 24, 0, 64, 248, 508, 1020, 2044, 4094, 8191] [0, 1, 2, 3, 4, 5, 8, 9, 10, 11, 12] [13] rfl rfl rfl (qc rfl rfl (s_u (o_mv rfl)) (qc rfl rfl (s_u (o_mv rfl)) (qc rfl rfl (s_u (o_ld 2 sc9 rfl rfl rfl)) (qc rfl rfl (s_u (o_ld 2 sc9 rfl rfl rfl)) (qc rfl rfl (s_u (o_lenS Try.underlying9 rfl)) (qc rfl rfl (s_u (o_bin rfl rfl (bI_sub (a2.length : Int) 4))) (qc rfl rfl (s_u (o_bin rfl rfl (bI_sub (i64 ((a2.length : Int) - 4)) (wire_Reader_Left ra22.2)))) (qc rfl rfl (s_u (o_slS (i := 0) (j := i64 ((i64 ((a2.length : Int) - 4)) - (wire_Reader_Left ra22.2))) Try.underlying9 rfl rfl rfl hs26)) (qc rfl rfl (s_u (o_callq ca90 rfl (wire_Check.ok s26 r28 hr28))) (qc rfl rfl (s_u (o_callq ca89 rfl (wire_sum.ok r28 _ rfl))) (qc rfl rfl (s_u (o_bin rfl rfl (bS_eq ra22.1 (wire_sum r28)))) qn))))))))))) ?_ (fun h => absurd h (by decide))
            obtain rfl := Option.some.inj hm35
            exact ec (eo_w rfl (s_w (o_callR ca73 rfl (wire_Reader_Must.ok b0_ ra22.2 (ra22.1 == (wire_sum r28)) (Sum.inr (rn33, ro34)) hr30) (by rintro _ _ _ ⟨rfl, rfl⟩; exact (px_st (fun _ h => st_pk 3 [0, 1, 2] (by decide) h) (px_of (Le.refl _) (.inr ⟨_, rfl, _, rfl, rfl, rfl⟩)))))) (fun _ _ _ _ h => h.elim)) en
        · have hm25 := sm_r hm21
          clear hm21
          refine c_reg ?_
          refine r_u (o_mv rfl) ?_
          refine rl_st (fun _ h => st_pk 3 [1, 0, 2] (by decide) h) ?_
          obtain rfl := Option.some.inj hm25
          exact r_sw (s_w (o_callR ca78 rfl (wire_Reader_Bytes.ok b0_ ra16.2 4 (Sum.inr (rn23, ro24)) hr20) (by rintro _ _ _ ⟨rfl, rfl⟩; exact (px_st (fun _ h => st_pk 3 [0, 1, 2] (by decide) h) (px_of (Le.refl _) (.inr ⟨_, rfl, _, rfl, rfl, rfl⟩)))))) (fun _ _ _ _ h => h.elim)
      · have hm19 := sm_r hm15
        clear hm15
        refine c_reg ?_
        refine r_u (o_mv rfl) ?_
        obtain rfl := Option.some.inj hm19
        exact r_sw (s_w (o_callR ca92 rfl (wire_Reader_Text.ok b0_ ra2.2 65536 (Sum.inr (rn17, ro18)) hr14) (by rintro _ _ _ ⟨rfl, rfl⟩; exact (px_st (fun _ h => st_pk 3 [0, 1, 2] (by decide) h) (px_of (Le.refl _) (.inr ⟨_, rfl, _, rfl, rfl, rfl⟩)))))) (fun _ _ _ _ h => h.elim)
    · have hm13 := sm_r hm9
      clear hm9
      refine c_reg ?_
      refine r_u (o_mv rfl) ?_
      refine r_u (o_mv rfl) ?_
      refine r_c (s_w (o_callL ca78 rfl (wire_Reader_Bytes.ok b0_ a0 1 (Sum.inl ra2) hr0) (fun _ _ _ h => h))) ?_
      refine r_u (o_ixS Try.underlying9 rfl rfl hc6) ?_
      refine r_u (o_bin rfl rfl (bY_eq c6 49)) ?_
      obtain rfl := Option.some.inj hm13
      exact r_sw (s_w (o_callR ca73 rfl (wire_Reader_Must.ok b0_ ra2.2 (c6 == 49) (Sum.inr (rn11, ro12)) hr8) (by rintro _ _ _ ⟨rfl, rfl⟩; exact (px_st (fun _ h => st_pk 3 [0, 1, 2] (by decide) h) (px_of (Le.refl _) (.inr ⟨_, rfl, _, rfl, rfl, rfl⟩)))))) (fun _ _ _ _ h => h.elim)
  · have hm5 := sm_r hm1
    clear hm1
    refine c_reg ?_
    refine r_u (o_mv rfl) ?_
    refine r_u (o_mv rfl) ?_
    obtain rfl := Option.some.inj hm5
    exact r_sw (s_w (o_callR ca78 rfl (wire_Reader_Bytes.ok b0_ a0 1 (Sum.inr (rn3, ro4)) hr0) (by rintro _ _ _ ⟨rfl, rfl⟩; exact (px_st (fun _ h => st_pk 3 [0, 1, 2] (by decide) h) (px_of (Le.refl _) (.inr ⟨_, rfl, _, rfl, rfl, rfl⟩)))))) (fun _ _ _ _ h => h.elim)

def wire_Open (a0 : Str) : Option (Str × Int) :=
  (wire_Open_1 (⟨a0⟩ : wire_Reader) [] a0).bind fun r2 => Option.bind (sm r2 (fun (ra10 : wire_Reader × Str) => some ((if ra10.1.s == [] then 0 else 5), ra10.2)) fun ((rn11, ro12) : Int × (wire_Reader × Str)) => some (rn11, ro12.2)) fun p4 => if (p4.1 != 0) then some ([], p4.1) else some (p4.2, 0)
theorem wire_Open.ok {G R F} (a0 : Str) (r : Str × Int) (hm : wire_Open a0 = some r) : CO Try.prog 41 [vS a0] G R (F)
    (Ret fun u R' L' => u = .tuple #[vS r.1, vI r.2] ∧ R' = R ∧ L' = F) := by
  unfold wire_Open at hm
  refine co_ofN (N := 13) Try.func41 rfl rfl ?_
  refine c_seq ?_
  refine c_reg ?_
  refine r_new (o_bx [vS a0] rfl rfl) fun b0 => ?_
  refine r_u (o_as rfl) ?_
  refine r_u (o_as rfl) ?_
  refine r_nil ?_
  refine x_seq ?_
  refine c_seq ?_
  refine c_reg ?_
  refine r_new (o_al ze9) fun b1 => ?_
  refine r_u0 (o_st sc9 rfl rfl rfl rfl rfl rfl) ?_
  refine r_nil ?_
  refine x_seq ?_
  refine c_seq ?_
  obtain ⟨r2, hr2, hm3⟩ := bs hm
  clear hm
  obtain ⟨p4, hp5, hm6⟩ := bs hm3
  refine cd_join (E' := [(4, pt b1 0), (5, vI p4.1)]) (L' := Bk b1 9 [vS p4.2] :: Bk b0 9 [vS a0] :: F) ?_ fun K7 => ?_
  · refine x_seq ?_
    refine c_seq ?_
    refine c_seq ?_
    refine c_reg ?_
    refine r_u (o_mv rfl) ?_
    refine r_u (o_bin rfl rfl (bI_ne p4.1 0)) ?_
    refine r_nil ?_
    refine x_seq ?_
    refine c_if (b := (p4.1 != 0)) rfl (fun h8 => ?_) fun h8 => ?_
    · have hm9 := ift hm6 h8
      clear hm6
      refine c_seq ?_
      refine c_reg ?_
      refine r_u (o_mv rfl) ?_
      refine r_u (o_as rfl) ?_
      refine r_u (o_as rfl) ?_
      refine r_nil ?_
      refine x_seq ?_
      refine c_ret ?_
      obtain rfl := Option.some.inj hm9
      refine ex_st (fun _ h => st_pk 2 [] (by decide) h) ?_
      exact x_r2 rfl (rv_t rfl) (rv_t rfl) (Le.refl _) ⟨_, rfl, rfl, rfl, rfl⟩
    · have hm9 := iff_ hm6 h8
      clear hm6
      refine c_skip ?_
      refine x_seq ?_
      refine c_seq ?_
      refine c_reg ?_
      refine r_u (o_ld 0 sc9 rfl rfl rfl) ?_
      refine r_u (o_as rfl) ?_
      refine r_u (o_as rfl) ?_
      refine r_nil ?_
      refine x_seq ?_
      refine c_ret ?_
      obtain rfl := Option.some.inj hm9
      refine ex_st (fun _ h => st_pk 2 [] (by decide) h) ?_
      exact x_r2 rfl (rv_t rfl) (rv_t rfl) (Le.refl _) ⟨_, rfl, rfl, rfl, rfl⟩
  · rcases r2 with ra10 | ⟨rn11, ro12⟩
    · have hm13 := sm_l hp5
      clear hp5
      refine c_reg ?_
      refine r_u (o_ld 1 sc9 rfl rfl rfl) ?_
      refine r_u (o_mf rfl) ?_
      refine r_c (s_w (o_call ca36 rfl (wire_Read.okL (A := [Bk b1 9 [vS []], Bk b0 9 [vS a0]]) (M := [Bk b1 9 [vS ra10.2], Bk b0 9 [vS a0]]) (s' := ra10.1.s) ca91 (fun b F => co_l (wire_Open_1.ok b (⟨a0⟩ : wire_Reader) b1 [] b0 a0 (Sum.inl ra10) hr2) (fun _ _ _ h => h))))) ?_
      refine r_u (o_as rfl) ?_
      refine r_nil ?_
      obtain rfl := Option.some.inj hm13
      exact x_sub K7 ⟨rfl, rfl, trivial⟩ (fun _ h => st_pk 2 [0, 1] (by decide) h)
    · have hm13 := sm_r hp5
      clear hp5
      refine c_reg ?_
      refine r_u (o_ld 1 sc9 rfl rfl rfl) ?_
      refine r_u (o_mf rfl) ?_
      refine r_c (s_w (o_call ca36 rfl (wire_Read.okR (A := [Bk b1 9 [vS []], Bk b0 9 [vS a0]]) (M := [Bk b1 9 [vS ro12.2], Bk b0 9 [vS a0]]) (cs := [vS ro12.1.s]) ca91 (fun b F => co_r (wire_Open_1.ok b (⟨a0⟩ : wire_Reader) b1 [] b0 a0 (Sum.inr (rn11, ro12)) hr2) (fun _ _ h => h))))) ?_
      refine r_u (o_as rfl) ?_
      refine r_nil ?_
      obtain rfl := Option.some.inj hm13
      exact x_sub K7 ⟨rfl, rfl, trivial⟩ (fun _ h => st_pk 2 [0, 1] (by decide) h)

def say_Open (a0 : Str) : Option (api_Say × Int) :=
  (wire_Open a0).bind fun r1 => if (r1.2 != 0) then some ((⟨0, (⟨0, 0, 0, 0, 0, 0⟩ : api_View), (⟨0, 0, 0, 0, 0, 0⟩ : api_View), 0, (⟨false, 0, 0, 0, (⟨0, 0, 0, 0, 0, 0⟩ : api_View), (⟨0, 0, 0, 0, 0, 0⟩ : api_View)⟩ : api_Promise), 0, 0, 0, [], (⟨0, 0, [], [], []⟩ : api_Piece), [], [], 0, 0, (⟨0, [], [], 0, 0⟩ : api_Op), (⟨0, [], 0⟩ : api_Reply)⟩ : api_Say), r1.2) else (say_Get r1.1).bind fun r5 => some (r5.1, r5.2)
theorem say_Open.ok {G R F} (a0 : Str) (r : api_Say × Int) (hm : say_Open a0 = some r) : CO Try.prog 10 [vS a0] G R (F)
    (Ret fun u R' L' => ∃ (p0 : api_Say.G), u = .tuple #[.agg [vI r.1.Kind, vW r.1.View.V, vI r.1.View.Primary, vW r.1.View.PLife, vI r.1.View.Backup, vW r.1.View.BLife, vW r.1.View.Epoch, vW r.1.Value.V, vI r.1.Value.Primary, vW r.1.Value.PLife, vI r.1.Value.Backup, vW r.1.Value.BLife, vW r.1.Value.Epoch, vW r.1.Ballot, vB r.1.Promise.OK, vW r.1.Promise.V, vW r.1.Promise.Most, vW r.1.Promise.Ballot, vW r.1.Promise.Value.V, vI r.1.Promise.Value.Primary, vW r.1.Promise.Value.PLife, vI r.1.Promise.Value.Backup, vW r.1.Promise.Value.BLife, vW r.1.Promise.Value.Epoch, vW r.1.Promise.Chosen.V, vI r.1.Promise.Chosen.Primary, vW r.1.Promise.Chosen.PLife, vI r.1.Promise.Chosen.Backup, vW r.1.Promise.Chosen.BLife, vW r.1.Promise.Chosen.Epoch, vW r.1.Seq, vW r.1.Done, vW r.1.Life, p0.Records, vI r.1.Piece.N, vI r.1.Piece.Of, vS r.1.Piece.Data, vS r.1.Piece.Sum, vS r.1.Piece.Whole, vS r.1.Digest, p0.Sums, vW r.1.Session, vW r.1.Num, vI r.1.Op.Kind, vS r.1.Op.Key, vS r.1.Op.Value, vW r.1.Op.TTL, vW r.1.Op.Version, vI r.1.Reply.E, vS r.1.Reply.Value, vW r.1.Reply.Version].toArray, vI r.2] ∧ R' = R ∧ L' = OwS true 89 9 api_Record.c p0.Records r.1.Records :: OwS true 9 1 eS p0.Sums r.1.Sums :: F) := by
  unfold say_Open at hm
  refine co_ofN (N := 19) Try.func10 rfl rfl ?_
  refine c_seq ?_
  refine c_reg ?_
  refine r_new (o_al ze37) fun b0 => ?_
  refine r_u (o_as rfl) ?_
  refine r_nil ?_
  refine x_seq ?_
  refine c_seq ?_
  refine c_reg ?_
  refine r_u (o_mv rfl) ?_
  obtain ⟨r1, hr1, hm2⟩ := bs hm
  clear hm
  refine r_u (o_callq ca41 rfl (wire_Open.ok a0 r1 hr1)) ?_
  refine r_u (o_mv rfl) ?_
  refine r_u (o_ext rfl rfl) ?_
  refine r_u (o_ext rfl rfl) ?_
  refine r_u (o_as rfl) ?_
  refine r_u (o_as rfl) ?_
  refine r_nil ?_
  refine x_seq ?_
  refine c_seq ?_
  refine c_seq ?_
  refine c_reg ?_
  refine r_u (o_mv rfl) ?_
  refine r_u (o_bin rfl rfl (bI_ne r1.2 0)) ?_
  refine r_nil ?_
  refine x_seq ?_
  refine c_if (b := (r1.2 != 0)) rfl (fun h3 => ?_) fun h3 => ?_
  · have hm4 := ift hm2 h3
    clear hm2
    refine c_seq ?_
    refine c_reg ?_
    refine r_u (o_bld [vI 0, vW 0, vI 0, vW 0, vI 0, vW 0, vW 0, vW 0, vI 0, vW 0, vI 0, vW 0, vW 0, vW 0, vB false, vW 0, vW 0, vW 0, vW 0, vI 0, vW 0, vI 0, vW 0, vW 0, vW 0, vI 0, vW 0, vI 0, vW 0, vW 0, vW 0, vW 0, vW 0, .slice none 0 0, vI 0, vI 0, vS [], vS [], vS [], vS [], .slice none 0 0, vW 0, vW 0, vI 0, vS [], vS [], vW 0, vW 0, vI 0, vS [], vW 0] rfl (fun _ => by kernel_rfl)) ?_
    refine r_u (o_mv rfl) ?_
    refine r_u0 (o_stn ag37 rfl rfl rfl (al_c rfl (al_c rfl (al_c rfl (al_c rfl (al_c rfl (al_c rfl (al_c rfl (al_c rfl (al_c rfl (al_c rfl (al_c rfl (al_c rfl (al_c rfl (al_c rfl (al_c rfl (al_c rfl (al_c rfl (al_c rfl (al_c rfl (al_c rfl (al_c rfl (al_c rfl (al_c rfl (al_c rfl (al_c rfl (al_c rfl (al_c rfl (al_c rfl (al_c rfl (al_c rfl (al_c rfl (al_c rfl (al_c rfl (al_c rfl (al_c rfl (al_c rfl (al_c rfl (al_c rfl (al_c rfl (al_c rfl (al_c rfl (al_c rfl (al_c rfl (al_c rfl (al_c rfl (al_c rfl (al_c rfl (al_c rfl (al_c rfl (al_c rfl (al_c rfl al_n))))))))))))))))))))))))))))))))))))))))))))))))))) rfl rfl rfl) ?_
    refine r_u (o_as rfl) ?_
    refine r_nil ?_
    refine x_seq ?_
    refine c_ret ?_
    refine ex_st (fun _ h => st_nil (ap := true) (T := 89) (sz := 9) (en := api_Record.c) h) ?_
    refine ex_st (fun _ h => st_nil (ap := true) (T := 9) (sz := 1) (en := eS) h) ?_
    obtain rfl := Option.some.inj hm4
    exact x_d2 rfl (rv_n 2 [vI 0, vW 0, vI 0, vW 0, vI 0, vW 0, vW 0, vW 0, vI 0, vW 0, vI 0, vW 0, vW 0, vW 0, vB false, vW 0, vW 0, vW 0, vW 0, vI 0, vW 0, vI 0, vW 0, vW 0, vW 0, vI 0, vW 0, vI 0, vW 0, vW 0, vW 0, vW 0, vW 0, .slice none 0 0, vI 0, vI 0, vS [], vS [], vS [], vS [], .slice none 0 0 , vW 0, vW 0, vI 0, vS [], vS [], vW 0, vW 0, vI 0, vS [], vW 0] ag37 rfl rfl rfl rfl) (rv_t rfl) (fun _ h => st_pk 3 [1, 0] (by decide) h) (Le.refl _) ⟨_, rfl, (⟨.slice none 0 0, .slice none 0 0 ⟩ : api_Say.G), rfl, rfl, rfl⟩
  · have hm4 := iff_ hm2 h3
    clear hm2
    refine c_skip ?_
    refine x_seq ?_
    refine c_seq ?_
    refine c_reg ?_
    refine r_u (o_mv rfl) ?_
    obtain ⟨r5, hr5, hm9⟩ := bs hm4
    clear hm4
    refine r_sw (s_w (o_call ca7 rfl (say_Get.ok r1.1 r5 hr5))) ?_
    rintro _ R _ _ ⟨v6, rfl, rfl, rfl⟩
    refine r_u (o_ext rfl rfl) ?_
    refine r_u (o_ext rfl rfl) ?_
    refine rl_st (fun _ h => st_pk 3 [2, 0, 1] (by decide) h) ?_
    refine r_u0 (ou_if (one_o 1 rfl) fun ho0 => ou_if (one_o 2 rfl) fun ho1 => o_stn ag37 rfl rfl rfl (al_c rfl (al_c rfl (al_c rfl (al_c rfl (al_c rfl (al_c rfl (al_c rfl (al_c rfl (al_c rfl (al_c rfl (al_c rfl (al_c rfl (al_c rfl (al_c rfl (al_c rfl (al_c rfl (al_c rfl (al_c rfl (al_c rfl (al_c rfl (al_c rfl (al_c rfl (al_c rfl (al_c rfl (al_c rfl (al_c rfl (al_c rfl (al_c rfl (al_c rfl (al_c rfl (al_c rfl (al_c rfl (al_c rfl (al_c ho0 (al_c rfl (al_c rfl (al_c rfl (al_c rfl (al_c rfl (al_c rfl (al_c ho1 (al_c rfl (al_c rfl (al_c rfl (al_c rfl (al_c rfl (al_c rfl (al_c rfl (al_c rfl (al_c rfl (al_c rfl al_n))))))))))))))))))))))))))))))))))))))))))))))))))) rfl rfl rfl) ?_
    refine r_u (o_as rfl) ?_
    refine r_nil ?_
    refine x_seq ?_
    refine c_ret ?_
    obtain rfl := Option.some.inj hm9
    exact x_d2 rfl (rv_n 0 [vI r5.1.Kind, vW r5.1.View.V, vI r5.1.View.Primary, vW r5.1.View.PLife, vI r5.1.View.Backup, vW r5.1.View.BLife, vW r5.1.View.Epoch, vW r5.1.Value.V, vI r5.1.Value.Primary, vW r5.1.Value.PLife, vI r5.1.Value.Backup, vW r5.1.Value.BLife, vW r5.1.Value.Epoch, vW r5.1.Ballot, vB r5.1.Promise.OK, vW r5.1.Promise.V, vW r5.1.Promise.Most, vW r5.1.Promise.Ballot, vW r5.1.Promise.Value.V, vI r5.1.Promise.Value.Primary, vW r5.1.Promise.Value.PLife, vI r5.1.Promise.Value.Backup, vW r5.1.Promise.Value.BLife, vW r5.1.Promise.Value.Epoch, vW r5.1.Promise.Chosen.V, vI r5.1.Promise.Chosen.Primary, vW r5.1.Promise.Chosen.PLife, vI r5.1.Promise.Chosen.Backup, vW r5.1.Promise.Chosen.BLife, vW r5.1.Promise.Chosen.Epoch, vW r5.1.Seq, vW r5.1.Done, vW r5.1.Life, v6.Records, vI r5.1.Piece.N, vI r5.1.Piece.Of, vS r5.1.Piece.Data, vS r5.1.Piece.Sum, vS r5.1.Piece.Whole, vS r5.1.Digest, v6.Sums, vW r5.1.Session, vW r5.1.Num, vI r5.1.Op.Kind, vS r5.1.Op.Key, vS r5.1.Op.Value, vW r5.1.Op.TTL, vW r5.1.Op.Version, vI r5.1.Reply.E, vS r5.1.Reply.Value, vW r5.1.Reply.Version] ag37 rfl rfl rfl rfl) (rv_t rfl) (fun _ h => st_pk 3 [1, 2] (by decide) h) (Le.refl _) ⟨_, rfl, v6, rfl, rfl, rfl⟩

def hawthornlaw18_awake  : Option Bool :=
  (say_Seal (⟨13, (⟨0, 0, 0, 0, 0, 0⟩ : api_View), (⟨0, 0, 0, 0, 0, 0⟩ : api_View), 0, (⟨false, 0, 0, 0, (⟨0, 0, 0, 0, 0, 0⟩ : api_View), (⟨0, 0, 0, 0, 0, 0⟩ : api_View)⟩ : api_Promise), 0, 0, 0, [], (⟨0, 0, [], [], []⟩ : api_Piece), [], [], 10, 1, (⟨1, [107], [], 0, 0⟩ : api_Op), (⟨0, [], 0⟩ : api_Reply)⟩ : api_Say)).bind fun r1 => (say_Open r1.1).bind fun r3 => if ((((r1.2 == 0) && (r3.2 == 0)) && (r3.1.Kind == 13)) && decide (r3.1.Op = (⟨1, [107], [], 0, 0⟩ : api_Op))) then (say_Put (⟨1, (⟨0, 0, 0, 0, 0, 0⟩ : api_View), (⟨0, 0, 0, 0, 0, 0⟩ : api_View), 0, (⟨false, 0, 0, 0, (⟨0, 0, 0, 0, 0, 0⟩ : api_View), (⟨0, 0, 0, 0, 0, 0⟩ : api_View)⟩ : api_Promise), 0, 0, 0, [], (⟨0, 0, [], [], []⟩ : api_Piece), [], [], 0, 0, (⟨0, [], [], 0, 0⟩ : api_Op), (⟨0, [], 0⟩ : api_Reply)⟩ : api_Say)).bind fun r11 => some (r11 == [1]) else some false
theorem hawthornlaw18_awake.ok {G R F} (r : Bool) (hm : hawthornlaw18_awake = some r) : CO Try.prog 8 [] G R (F)
    (Ret fun u R' L' => u = vB r ∧ R' = R ∧ L' = F) := by
  unfold hawthornlaw18_awake at hm
  refine co_ofN (N := 41) Try.func8 rfl rfl ?_
  refine c_seq ?_
  refine c_reg ?_
  refine r_u (o_as rfl) ?_
  refine r_nil ?_
  refine x_seq ?_
  refine c_seq ?_
  refine c_reg ?_
  refine r_u (o_bld [vI 1, vS [107], vS [], vW 0, vW 0] rfl (fun _ => by kernel_rfl)) ?_
  refine r_u (o_bld [vI 13, vW 0, vI 0, vW 0, vI 0, vW 0, vW 0, vW 0, vI 0, vW 0, vI 0, vW 0, vW 0, vW 0, vB false, vW 0, vW 0, vW 0, vW 0, vI 0, vW 0, vI 0, vW 0, vW 0, vW 0, vI 0, vW 0, vI 0, vW 0, vW 0, vW 0, vW 0, vW 0, .slice none 0 0, vI 0, vI 0, vS [], vS [], vS [], vS [], .slice none 0 0, vW 10, vW 1, vI 1, vS [107], vS [], vW 0, vW 0, vI 0, vS [], vW 0] rfl (fun _ => by kernel_rfl)) ?_
  refine r_new (o_al ze37) fun b0 => ?_
  refine r_u0 (o_stn ag37 rfl rfl rfl (al_c rfl (al_c rfl (al_c rfl (al_c rfl (al_c rfl (al_c rfl (al_c rfl (al_c rfl (al_c rfl (al_c rfl (al_c rfl (al_c rfl (al_c rfl (al_c rfl (al_c rfl (al_c rfl (al_c rfl (al_c rfl (al_c rfl (al_c rfl (al_c rfl (al_c rfl (al_c rfl (al_c rfl (al_c rfl (al_c rfl (al_c rfl (al_c rfl (al_c rfl (al_c rfl (al_c rfl (al_c rfl (al_c rfl (al_c rfl (al_c rfl (al_c rfl (al_c rfl (al_c rfl (al_c rfl (al_c rfl (al_c rfl (al_c rfl (al_c rfl (al_c rfl (al_c rfl (al_c rfl (al_c rfl (al_c rfl (al_c rfl (al_c rfl (al_c rfl al_n))))))))))))))))))))))))))))))))))))))))))))))))))) rfl rfl rfl) ?_
  refine r_nil ?_
  refine x_seq ?_
  refine c_seq ?_
  refine c_reg ?_
  refine r_u (o_ldn 0 [vI 13, vW 0, vI 0, vW 0, vI 0, vW 0, vW 0, vW 0, vI 0, vW 0, vI 0, vW 0, vW 0, vW 0, vB false, vW 0, vW 0, vW 0, vW 0, vI 0, vW 0, vI 0, vW 0, vW 0, vW 0, vI 0, vW 0, vI 0, vW 0, vW 0, vW 0, vW 0, vW 0, .slice none 0 0, vI 0, vI 0, vS [], vS [], vS [], vS [], .slice none 0 0, vW 10, vW 1, vI 1, vS [107], vS [], vW 0, vW 0, vI 0, vS [], vW 0] ag37 rfl rfl rfl rfl) ?_
  obtain ⟨r1, hr1, hm2⟩ := bs hm
  clear hm
  refine r_u (o_callq ca9 rfl (say_Seal.ok (⟨13, (⟨0, 0, 0, 0, 0, 0⟩ : api_View), (⟨0, 0, 0, 0, 0, 0⟩ : api_View), 0, (⟨false, 0, 0, 0, (⟨0, 0, 0, 0, 0, 0⟩ : api_View), (⟨0, 0, 0, 0, 0, 0⟩ : api_View)⟩ : api_Promise), 0, 0, 0, [], (⟨0, 0, [], [], []⟩ : api_Piece), [], [], 10, 1, (⟨1, [107], [], 0, 0⟩ : api_Op), (⟨0, [], 0⟩ : api_Reply)⟩ : api_Say) (⟨.slice none 0 0, .slice none 0 0⟩ : api_Say.G) ⟨RoS.nil, RoS.nil⟩ r1 hr1)) ?_
  refine r_u (o_mv rfl) ?_
  refine r_u (o_ext rfl rfl) ?_
  refine r_u (o_ext rfl rfl) ?_
  refine r_u (o_as rfl) ?_
  refine r_u (o_as rfl) ?_
  refine r_nil ?_
  refine x_seq ?_
  refine c_seq ?_
  refine c_reg ?_
  refine r_u (o_mv rfl) ?_
  obtain ⟨r3, hr3, hm7⟩ := bs hm2
  clear hm2
  refine r_sw (s_w (o_call ca10 rfl (say_Open.ok r1.1 r3 hr3))) ?_
  rintro _ R _ _ ⟨v4, rfl, rfl, rfl⟩
  refine r_u (o_mv rfl) ?_
  refine r_u (o_ext rfl rfl) ?_
  refine r_u (o_ext rfl rfl) ?_
  refine r_new (o_al ze37) fun b8 => ?_
  refine r_u0 (ou_if (one_o 1 rfl) fun ho0 => ou_if (one_o 2 rfl) fun ho1 => o_stn ag37 rfl rfl rfl (al_c rfl (al_c rfl (al_c rfl (al_c rfl (al_c rfl (al_c rfl (al_c rfl (al_c rfl (al_c rfl (al_c rfl (al_c rfl (al_c rfl (al_c rfl (al_c rfl (al_c rfl (al_c rfl (al_c rfl (al_c rfl (al_c rfl (al_c rfl (al_c rfl (al_c rfl (al_c rfl (al_c rfl (al_c rfl (al_c rfl (al_c rfl (al_c rfl (al_c rfl (al_c rfl (al_c rfl (al_c rfl (al_c rfl (al_c ho0 (al_c rfl (al_c rfl (al_c rfl (al_c rfl (al_c rfl (al_c rfl (al_c ho1 (al_c rfl (al_c rfl (al_c rfl (al_c rfl (al_c rfl (al_c rfl (al_c rfl (al_c rfl (al_c rfl (al_c rfl al_n))))))))))))))))))))))))))))))))))))))))))))))))))) rfl rfl rfl) ?_
  refine r_u (o_as rfl) ?_
  refine r_nil ?_
  refine x_seq ?_
  refine c_seq ?_
  refine cd_by ((((r1.2 == 0) && (r3.2 == 0)) && (r3.1.Kind == 13)) && decide (r3.1.Op = (⟨1, [107], [], 0, 0⟩ : api_Op))) (fun h9 => ?_) fun h9 => ?_
  · have hm10 := ift hm7 h9
    clear hm7
    refine c_reg ?_
    refine r_u (o_mv rfl) ?_
    refine r_u (o_bin rfl rfl (bI_eq r1.2 0)) ?_
    refine r_u (o_mv rfl) ?_
    refine r_s (s_gt rfl rfl fun g => o_mv rfl) ?_
    refine r_s (s_gt rfl rfl fun g => o_bin (evg rfl g) rfl (bI_eq r3.2 0)) ?_
    refine r_u (o_and rfl rfl) ?_
    refine r_u (o_mv rfl) ?_
    refine r_s (s_gt rfl rfl fun g => o_fa fa37_0 rfl) ?_
    refine r_s (s_gt rfl rfl fun g => o_ld 0 sc3 (evg rfl g) rfl rfl) ?_
    refine r_s (s_gt rfl rfl fun g => o_bin (evg rfl g) rfl (bI_eq r3.1.Kind 13)) ?_
    refine r_u (o_and rfl rfl) ?_
    refine r_u (o_mv rfl) ?_
    refine r_s (s_gt rfl rfl fun g => o_fa fa37_14 rfl) ?_
    refine r_s (s_gt rfl rfl fun g => o_ldn 0 (api_Op.c r3.1.Op) ag32 (evg rfl g) rfl rfl rfl) ?_
    refine r_s (s_gt rfl rfl fun g => o_fa fa37_14 rfl) ?_
    refine r_s (s_gt rfl rfl fun g => o_ldn 3 [vI 1, vS [107], vS [], vW 0, vW 0] ag32 (evg rfl g) rfl rfl rfl) ?_
    refine r_s (s_gt rfl rfl fun g => o_bin (evg rfl g) (evg rfl g) (api_Op.beq_32 r3.1.Op (⟨1, [107], [], 0, 0⟩ : api_Op))) ?_
    refine r_u (o_and rfl rfl) ?_
    refine r_u (o_mv rfl) ?_
    refine r_s (s_y rfl rfl h9 (o_bld [vI 1, vW 0, vI 0, vW 0, vI 0, vW 0, vW 0, vW 0, vI 0, vW 0, vI 0, vW 0, vW 0, vW 0, vB false, vW 0, vW 0, vW 0, vW 0, vI 0, vW 0, vI 0, vW 0, vW 0, vW 0, vI 0, vW 0, vI 0, vW 0, vW 0, vW 0, vW 0, vW 0, .slice none 0 0, vI 0, vI 0, vS [], vS [], vS [], vS [], .slice none 0 0, vW 0, vW 0, vI 0, vS [], vS [], vW 0, vW 0, vI 0, vS [], vW 0] rfl (fun _ => by kernel_rfl))) ?_
    obtain ⟨r11, hr11, hm12⟩ := bs hm10
    clear hm10
    refine r_s (s_y rfl rfl h9 (o_callq ca39 rfl (say_Put.ok (⟨1, (⟨0, 0, 0, 0, 0, 0⟩ : api_View), (⟨0, 0, 0, 0, 0, 0⟩ : api_View), 0, (⟨false, 0, 0, 0, (⟨0, 0, 0, 0, 0, 0⟩ : api_View), (⟨0, 0, 0, 0, 0, 0⟩ : api_View)⟩ : api_Promise), 0, 0, 0, [], (⟨0, 0, [], [], []⟩ : api_Piece), [], [], 0, 0, (⟨0, [], [], 0, 0⟩ : api_Op), (⟨0, [], 0⟩ : api_Reply)⟩ : api_Say) (⟨.slice none 0 0, .slice none 0 0⟩ : api_Say.G) ⟨RoS.nil, RoS.nil⟩ r11 hr11))) ?_
    refine r_s (s_y rfl rfl h9 (o_bin rfl rfl (bS_eq r11 [1]))) ?_
    refine r_u (o_pt rfl h9 rfl) ?_
    refine r_u (o_as rfl) ?_
    refine r_nil ?_
    refine x_seq ?_
    refine c_ret ?_
    obtain rfl := Option.some.inj hm12
    refine ex_st (fun _ h => st_pk 4 [] (by decide) h) ?_
    exact x_r1 rfl (rv_t rfl) (Le.refl _) ⟨_, rfl, rfl, rfl, rfl⟩
  · have hm10 := iff_ hm7 h9
    clear hm7
    refine c_reg ?_
    refine r_u (o_mv rfl) ?_
    refine r_u (o_bin rfl rfl (bI_eq r1.2 0)) ?_
    refine r_u (o_mv rfl) ?_
    refine r_s (s_gt rfl rfl fun g => o_mv rfl) ?_
    refine r_s (s_gt rfl rfl fun g => o_bin (evg rfl g) rfl (bI_eq r3.2 0)) ?_
    refine r_u (o_and rfl rfl) ?_
    refine r_u (o_mv rfl) ?_
    refine r_s (s_gt rfl rfl fun g => o_fa fa37_0 rfl) ?_
    refine r_s (s_gt rfl rfl fun g => o_ld 0 sc3 (evg rfl g) rfl rfl) ?_
    refine r_s (s_gt rfl rfl fun g => o_bin (evg rfl g) rfl (bI_eq r3.1.Kind 13)) ?_
    refine r_u (o_and rfl rfl) ?_
    refine r_u (o_mv rfl) ?_
    refine r_s (s_gt rfl rfl fun g => o_fa fa37_14 rfl) ?_
    refine r_s (s_gt rfl rfl fun g => o_ldn 0 (api_Op.c r3.1.Op) ag32 (evg rfl g) rfl rfl rfl) ?_
    refine r_s (s_gt rfl rfl fun g => o_fa fa37_14 rfl) ?_
    refine r_s (s_gt rfl rfl fun g => o_ldn 3 [vI 1, vS [107], vS [], vW 0, vW 0] ag32 (evg rfl g) rfl rfl rfl) ?_
    refine r_s (s_gt rfl rfl fun g => o_bin (evg rfl g) (evg rfl g) (api_Op.beq_32 r3.1.Op (⟨1, [107], [], 0, 0⟩ : api_Op))) ?_
    refine r_u (o_and rfl rfl) ?_
    refine r_u (o_mv rfl) ?_
    refine r_s (s_n rfl rfl h9) ?_
    refine r_s (s_n rfl rfl h9) ?_
    refine r_s (s_n rfl rfl h9) ?_
    refine r_u (o_pf rfl h9 rfl) ?_
    refine r_u (o_as rfl) ?_
    refine r_nil ?_
    refine x_seq ?_
    refine c_ret ?_
    obtain rfl := Option.some.inj hm10
    refine ex_st (fun _ h => st_pk 4 [] (by decide) h) ?_
    exact x_r1 rfl (rv_t rfl) (Le.refl _) ⟨_, rfl, rfl, rfl, rfl⟩

def hawthornref18_Same_l0 (a0 : api_Say) (a1 : api_Say) : Nat → Int → Option (Unit ⊕ Bool)
  | 0, _ => none
  | k15 + 1, i_14 => if decide (i_14 < (a0.Sums.length : Int)) then (gi a0.Sums i_14).bind fun x20 => (gi a1.Sums i_14).bind fun x22 => if (x20 != x22) then some (Sum.inr false) else hawthornref18_Same_l0 a0 a1 k15 (i64 (i_14 + 1)) else some (Sum.inl ())
def hawthornref18_Same_l1 (a0 : api_Say) (a1 : api_Say) : Nat → Int → Option (Unit ⊕ Bool)
  | 0, _ => none
  | k27 + 1, i_26 => if decide (i_26 < (a0.Records.length : Int)) then (gi a0.Records i_26).bind fun x32 => (gi a1.Records i_26).bind fun x34 => if !(decide (x32 = x34)) then some (Sum.inr false) else hawthornref18_Same_l1 a0 a1 k27 (i64 (i_26 + 1)) else some (Sum.inl ())
def hawthornref18_Same (a0 : api_Say) (a1 : api_Say) : Option Bool :=
  if (((a0.Records.length : Int) != (a1.Records.length : Int)) || ((a0.Sums.length : Int) != (a1.Sums.length : Int))) then some false else Option.bind (hawthornref18_Same_l1 a0 a1 (((a0.Records.length : Int) - 0).toNat + 1) 0) fun (p4 : Unit ⊕ Bool) => (match p4 with | Sum.inl q5 => Option.bind (hawthornref18_Same_l0 a0 a1 (((a0.Sums.length : Int) - 0).toNat + 1) 0) fun (p9 : Unit ⊕ Bool) => (match p9 with | Sum.inl q10 => some ((((((((a0.Kind == a1.Kind) && decide (a0.View = a1.View)) && decide (a0.Value = a1.Value)) && (a0.Ballot == a1.Ballot)) && decide (a0.Promise = a1.Promise)) && (a0.Seq == a1.Seq)) && (a0.Done == a1.Done)) && (((((((a0.Life == a1.Life) && decide (a0.Piece = a1.Piece)) && (a0.Digest == a1.Digest)) && (a0.Session == a1.Session)) && (a0.Num == a1.Num)) && decide (a0.Op = a1.Op)) && decide (a0.Reply = a1.Reply))) | Sum.inr r => some r) | Sum.inr r => some r)
theorem hawthornref18_Same.ok {G R F} (a0 : api_Say) (g0_ : api_Say.G) (h0 : api_Say.ro R a0 g0_) (a1 : api_Say) (g1_ : api_Say.G) (h1 : api_Say.ro R a1 g1_) (r : Bool) (hm : hawthornref18_Same a0 a1 = some r) : CO Try.prog 11 [.agg [vI a0.Kind, vW a0.View.V, vI a0.View.Primary, vW a0.View.PLife, vI a0.View.Backup, vW a0.View.BLife, vW a0.View.Epoch, vW a0.Value.V, vI a0.Value.Primary, vW a0.Value.PLife, vI a0.Value.Backup, vW a0.Value.BLife, vW a0.Value.Epoch, vW a0.Ballot, vB a0.Promise.OK, vW a0.Promise.V, vW a0.Promise.Most, vW a0.Promise.Ballot, vW a0.Promise.Value.V, vI a0.Promise.Value.Primary, vW a0.Promise.Value.PLife, vI a0.Promise.Value.Backup, vW a0.Promise.Value.BLife, vW a0.Promise.Value.Epoch, vW a0.Promise.Chosen.V, vI a0.Promise.Chosen.Primary, vW a0.Promise.Chosen.PLife, vI a0.Promise.Chosen.Backup, vW a0.Promise.Chosen.BLife, vW a0.Promise.Chosen.Epoch, vW a0.Seq, vW a0.Done, vW a0.Life, g0_.Records, vI a0.Piece.N, vI a0.Piece.Of, vS a0.Piece.Data, vS a0.Piece.Sum, vS a0.Piece.Whole, vS a0.Digest, g0_.Sums, vW a0.Session, vW a0.Num, vI a0.Op.Kind, vS a0.Op.Key, vS a0.Op.Value, vW a0.Op.TTL, vW a0.Op.Version, vI a0.Reply.E, vS a0.Reply.Value, vW a0.Reply.Version].toArray, .agg [vI a1.Kind, vW a1.View.V, vI a1.View.Primary, vW a1.View.PLife, vI a1.View.Backup, vW a1.View.BLife, vW a1.View.Epoch, vW a1.Value.V, vI a1.Value.Primary, vW a1.Value.PLife, vI a1.Value.Backup, vW a1.Value.BLife, vW a1.Value.Epoch, vW a1.Ballot, vB a1.Promise.OK, vW a1.Promise.V, vW a1.Promise.Most, vW a1.Promise.Ballot, vW a1.Promise.Value.V, vI a1.Promise.Value.Primary, vW a1.Promise.Value.PLife, vI a1.Promise.Value.Backup, vW a1.Promise.Value.BLife, vW a1.Promise.Value.Epoch, vW a1.Promise.Chosen.V, vI a1.Promise.Chosen.Primary, vW a1.Promise.Chosen.PLife, vI a1.Promise.Chosen.Backup, vW a1.Promise.Chosen.BLife, vW a1.Promise.Chosen.Epoch, vW a1.Seq, vW a1.Done, vW a1.Life, g1_.Records, vI a1.Piece.N, vI a1.Piece.Of, vS a1.Piece.Data, vS a1.Piece.Sum, vS a1.Piece.Whole, vS a1.Digest, g1_.Sums, vW a1.Session, vW a1.Num, vI a1.Op.Kind, vS a1.Op.Key, vS a1.Op.Value, vW a1.Op.TTL, vW a1.Op.Version, vI a1.Reply.E, vS a1.Reply.Value, vW a1.Reply.Version].toArray] G R (F)
    (Ret fun u R' L' => u = vB r ∧ R' = R ∧ L' = F) := by
  unfold hawthornref18_Same at hm
  refine co_ofN (N := 159) Try.func11 rfl rfl ?_
  refine c_seq ?_
  refine c_reg ?_
  refine r_new (o_bx [vI a0.Kind, vW a0.View.V, vI a0.View.Primary, vW a0.View.PLife, vI a0.View.Backup, vW a0.View.BLife, vW a0.View.Epoch, vW a0.Value.V, vI a0.Value.Primary, vW a0.Value.PLife, vI a0.Value.Backup, vW a0.Value.BLife, vW a0.Value.Epoch, vW a0.Ballot, vB a0.Promise.OK, vW a0.Promise.V, vW a0.Promise.Most, vW a0.Promise.Ballot, vW a0.Promise.Value.V, vI a0.Promise.Value.Primary, vW a0.Promise.Value.PLife, vI a0.Promise.Value.Backup, vW a0.Promise.Value.BLife, vW a0.Promise.Value.Epoch, vW a0.Promise.Chosen.V, vI a0.Promise.Chosen.Primary, vW a0.Promise.Chosen.PLife, vI a0.Promise.Chosen.Backup, vW a0.Promise.Chosen.BLife, vW a0.Promise.Chosen.Epoch, vW a0.Seq, vW a0.Done, vW a0.Life, g0_.Records, vI a0.Piece.N, vI a0.Piece.Of, vS a0.Piece.Data, vS a0.Piece.Sum, vS a0.Piece.Whole, vS a0.Digest, g0_.Sums, vW a0.Session, vW a0.Num, vI a0.Op.Kind, vS a0.Op.Key, vS a0.Op.Value, vW a0.Op.TTL, vW a0.Op.Version, vI a0.Reply.E, vS a0.Reply.Value, vW a0.Reply.Version] rfl rfl) fun b0 => ?_
  refine r_new (o_bx [vI a1.Kind, vW a1.View.V, vI a1.View.Primary, vW a1.View.PLife, vI a1.View.Backup, vW a1.View.BLife, vW a1.View.Epoch, vW a1.Value.V, vI a1.Value.Primary, vW a1.Value.PLife, vI a1.Value.Backup, vW a1.Value.BLife, vW a1.Value.Epoch, vW a1.Ballot, vB a1.Promise.OK, vW a1.Promise.V, vW a1.Promise.Most, vW a1.Promise.Ballot, vW a1.Promise.Value.V, vI a1.Promise.Value.Primary, vW a1.Promise.Value.PLife, vI a1.Promise.Value.Backup, vW a1.Promise.Value.BLife, vW a1.Promise.Value.Epoch, vW a1.Promise.Chosen.V, vI a1.Promise.Chosen.Primary, vW a1.Promise.Chosen.PLife, vI a1.Promise.Chosen.Backup, vW a1.Promise.Chosen.BLife, vW a1.Promise.Chosen.Epoch, vW a1.Seq, vW a1.Done, vW a1.Life, g1_.Records, vI a1.Piece.N, vI a1.Piece.Of, vS a1.Piece.Data, vS a1.Piece.Sum, vS a1.Piece.Whole, vS a1.Digest, g1_.Sums, vW a1.Session, vW a1.Num, vI a1.Op.Kind, vS a1.Op.Key, vS a1.Op.Value, vW a1.Op.TTL, vW a1.Op.Version, vI a1.Reply.E, vS a1.Reply.Value, vW a1.Reply.Version] rfl rfl) fun b1 => ?_
  refine r_u (o_as rfl) ?_
  refine r_nil ?_
  refine x_seq ?_
  refine c_seq ?_
  refine c_seq ?_
  refine c_reg ?_
  refine r_u (o_fa fa37_8 rfl) ?_
  refine r_u (o_ld 1 sc27 rfl rfl rfl) ?_
  refine r_u (o_lenR Try.underlying27 rfl h0.1) ?_
  refine r_u (o_fa fa37_8 rfl) ?_
  refine r_u (o_ld 0 sc27 rfl rfl rfl) ?_
  refine r_u (o_lenR Try.underlying27 rfl h1.1) ?_
  refine r_u (o_bin rfl rfl (bI_ne (a0.Records.length : Int) (a1.Records.length : Int))) ?_
  refine r_u (o_mv rfl) ?_
  refine r_s (s_gf rfl rfl fun g => o_fa fa37_11 rfl) ?_
  refine r_s (s_gf rfl rfl fun g => o_ld 1 sc30 (evg rfl g) rfl rfl) ?_
  refine r_s (s_gf rfl rfl fun g => o_lenR Try.underlying30 (evg rfl g) h0.2) ?_
  refine r_s (s_gf rfl rfl fun g => o_fa fa37_11 rfl) ?_
  refine r_s (s_gf rfl rfl fun g => o_ld 0 sc30 (evg rfl g) rfl rfl) ?_
  refine r_s (s_gf rfl rfl fun g => o_lenR Try.underlying30 (evg rfl g) h1.2) ?_
  refine r_s (s_gf rfl rfl fun g => o_bin (evg rfl g) (evg rfl g) (bI_ne (a0.Sums.length : Int) (a1.Sums.length : Int))) ?_
  refine r_u (o_or rfl rfl) ?_
  refine r_nil ?_
  refine x_seq ?_
  refine c_if (b := (((a0.Records.length : Int) != (a1.Records.length : Int)) || ((a0.Sums.length : Int) != (a1.Sums.length : Int)))) rfl (fun h2 => ?_) fun h2 => ?_
  · have hm3 := ift hm h2
    clear hm
    refine c_seq ?_
    refine c_reg ?_
    refine r_u (o_as rfl) ?_
    refine r_nil ?_
    refine x_seq ?_
    refine c_ret ?_
    obtain rfl := Option.some.inj hm3
    refine ex_st (fun _ h => st_pk 2 [] (by decide) h) ?_
    exact x_r1 rfl (rv_t rfl) (Le.refl _) ⟨_, rfl, rfl, rfl, rfl⟩
  · have hm3 := iff_ hm h2
    clear hm
    refine c_skip ?_
    refine x_seq ?_
    refine c_seq ?_
    refine c_seq ?_
    refine c_reg ?_
    refine r_u (o_as rfl) ?_
    refine r_nil ?_
    refine x_seq ?_
    obtain ⟨p4, hp6, hm7⟩ := bs hm3
    refine cd_joinS (p := p4) (Ef := fun q5 => [(2, pt b0 0), (3, pt b1 0)]) (Lf := fun q5 => Bk b1 37 [vI a1.Kind, vW a1.View.V, vI a1.View.Primary, vW a1.View.PLife, vI a1.View.Backup, vW a1.View.BLife, vW a1.View.Epoch, vW a1.Value.V, vI a1.Value.Primary, vW a1.Value.PLife, vI a1.Value.Backup, vW a1.Value.BLife, vW a1.Value.Epoch, vW a1.Ballot, vB a1.Promise.OK, vW a1.Promise.V, vW a1.Promise.Most, vW a1.Promise.Ballot, vW a1.Promise.Value.V, vI a1.Promise.Value.Primary, vW a1.Promise.Value.PLife, vI a1.Promise.Value.Backup, vW a1.Promise.Value.BLife, vW a1.Promise.Value.Epoch, vW a1.Promise.Chosen.V, vI a1.Promise.Chosen.Primary, vW a1.Promise.Chosen.PLife, vI a1.Promise.Chosen.Backup, vW a1.Promise.Chosen.BLife, vW a1.Promise.Chosen.Epoch, vW a1.Seq, vW a1.Done, vW a1.Life, g1_.Records, vI a1.Piece.N, vI a1.Piece.Of, vS a1.Piece.Data, vS a1.Piece.Sum, vS a1.Piece.Whole, vS a1.Digest, g1_.Sums, vW a1.Session, vW a1.Num, vI a1.Op.Kind, vS a1.Op.Key, vS a1.Op.Value, vW a1.Op.TTL, vW a1.Op.Version, vI a1.Reply.E, vS a1.Reply.Value, vW a1.Reply.Version] :: Bk b0 37 [vI a0.Kind, vW a0.View.V, vI a0.View.Primary, vW a0.View.PLife, vI a0.View.Backup, vW a0.View.BLife, vW a0.View.Epoch, vW a0.Value.V, vI a0.Value.Primary, vW a0.Value.PLife, vI a0.Value.Backup, vW a0.Value.BLife, vW a0.Value.Epoch, vW a0.Ballot, vB a0.Promise.OK, vW a0.Promise.V, vW a0.Promise.Most, vW a0.Promise.Ballot, vW a0.Promise.Value.V, vI a0.Promise.Value.Primary, vW a0.Promise.Value.PLife, vI a0.Promise.Value.Backup, vW a0.Promise.Value.BLife, vW a0.Promise.Value.Epoch, vW a0.Promise.Chosen.V, vI a0.Promise.Chosen.Primary, vW a0.Promise.Chosen.PLife, vI a0.Promise.Chosen.Backup, vW a0.Promise.Chosen.BLife, vW a0.Promise.Chosen.Epoch, vW a0.Seq, vW a0.Done, vW a0.Life, g0_.Records, vI a0.Piece.N, vI a0.Piece.Of, vS a0.Piece.Data, vS a0.Piece.Sum, vS a0.Piece.Whole, vS a0.Digest, g0_.Sums, vW a0.Session, vW a0.Num, vI a0.Op.Kind, vS a0.Op.Key, vS a0.Op.Value, vW a0.Op.TTL, vW a0.Op.Version, vI a0.Reply.E, vS a0.Reply.Value, vW a0.Reply.Version] :: F) (fun q5 hq => ?_) fun K8 => ?_
    · subst hq
      try dsimp only at hm7
      refine x_seq ?_
      refine c_seq ?_
      refine c_seq ?_
      refine c_reg ?_
      refine r_u (o_as rfl) ?_
      refine r_nil ?_
      refine x_seq ?_
      obtain ⟨p9, hp11, hm12⟩ := bs hm7
      refine cd_joinS (p := p9) (Ef := fun q10 => [(2, pt b0 0), (3, pt b1 0)]) (Lf := fun q10 => Bk b1 37 [vI a1.Kind, vW a1.View.V, vI a1.View.Primary, vW a1.View.PLife, vI a1.View.Backup, vW a1.View.BLife, vW a1.View.Epoch, vW a1.Value.V, vI a1.Value.Primary, vW a1.Value.PLife, vI a1.Value.Backup, vW a1.Value.BLife, vW a1.Value.Epoch, vW a1.Ballot, vB a1.Promise.OK, vW a1.Promise.V, vW a1.Promise.Most, vW a1.Promise.Ballot, vW a1.Promise.Value.V, vI a1.Promise.Value.Primary, vW a1.Promise.Value.PLife, vI a1.Promise.Value.Backup, vW a1.Promise.Value.BLife, vW a1.Promise.Value.Epoch, vW a1.Promise.Chosen.V, vI a1.Promise.Chosen.Primary, vW a1.Promise.Chosen.PLife, vI a1.Promise.Chosen.Backup, vW a1.Promise.Chosen.BLife, vW a1.Promise.Chosen.Epoch, vW a1.Seq, vW a1.Done, vW a1.Life, g1_.Records, vI a1.Piece.N, vI a1.Piece.Of, vS a1.Piece.Data, vS a1.Piece.Sum, vS a1.Piece.Whole, vS a1.Digest, g1_.Sums, vW a1.Session, vW a1.Num, vI a1.Op.Kind, vS a1.Op.Key, vS a1.Op.Value, vW a1.Op.TTL, vW a1.Op.Version, vI a1.Reply.E, vS a1.Reply.Value, vW a1.Reply.Version] :: Bk b0 37 [vI a0.Kind, vW a0.View.V, vI a0.View.Primary, vW a0.View.PLife, vI a0.View.Backup, vW a0.View.BLife, vW a0.View.Epoch, vW a0.Value.V, vI a0.Value.Primary, vW a0.Value.PLife, vI a0.Value.Backup, vW a0.Value.BLife, vW a0.Value.Epoch, vW a0.Ballot, vB a0.Promise.OK, vW a0.Promise.V, vW a0.Promise.Most, vW a0.Promise.Ballot, vW a0.Promise.Value.V, vI a0.Promise.Value.Primary, vW a0.Promise.Value.PLife, vI a0.Promise.Value.Backup, vW a0.Promise.Value.BLife, vW a0.Promise.Value.Epoch, vW a0.Promise.Chosen.V, vI a0.Promise.Chosen.Primary, vW a0.Promise.Chosen.PLife, vI a0.Promise.Chosen.Backup, vW a0.Promise.Chosen.BLife, vW a0.Promise.Chosen.Epoch, vW a0.Seq, vW a0.Done, vW a0.Life, g0_.Records, vI a0.Piece.N, vI a0.Piece.Of, vS a0.Piece.Data, vS a0.Piece.Sum, vS a0.Piece.Whole, vS a0.Digest, g0_.Sums, vW a0.Session, vW a0.Num, vI a0.Op.Kind, vS a0.Op.Key, vS a0.Op.Value, vW a0.Op.TTL, vW a0.Op.Version, vI a0.Reply.E, vS a0.Reply.Value, vW a0.Reply.Version] :: F) (fun q10 hq => ?_) fun K13 => ?_
      · subst hq
        try dsimp only at hm12
        refine x_seq ?_
        refine c_seq ?_
        refine c_reg ?_
        refine r_u (o_fa fa37_0 rfl) ?_
        refine r_u (o_ld 1 sc3 rfl rfl rfl) ?_
        refine r_u (o_fa fa37_0 rfl) ?_
        refine r_u (o_ld 0 sc3 rfl rfl rfl) ?_
        refine r_u (o_bin rfl rfl (bI_eq a0.Kind a1.Kind)) ?_
        refine r_u (o_mv rfl) ?_
        refine r_s (s_gt rfl rfl fun g => o_fa fa37_1 rfl) ?_
        refine r_s (s_gt rfl rfl fun g => o_ldn 1 (api_View.c a0.View) ag24 (evg rfl g) rfl rfl rfl) ?_
        refine r_s (s_gt rfl rfl fun g => o_fa fa37_1 rfl) ?_
        refine r_s (s_gt rfl rfl fun g => o_ldn 0 (api_View.c a1.View) ag24 (evg rfl g) rfl rfl rfl) ?_
        refine r_s (s_gt rfl rfl fun g => o_bin (evg rfl g) (evg rfl g) (api_View.beq_24 a0.View a1.View)) ?_
        refine r_u (o_and rfl rfl) ?_
        refine r_u (o_mv rfl) ?_
        refine r_s (s_gt rfl rfl fun g => o_fa fa37_2 rfl) ?_
        refine r_s (s_gt rfl rfl fun g => o_ldn 1 (api_View.c a0.Value) ag24 (evg rfl g) rfl rfl rfl) ?_
        refine r_s (s_gt rfl rfl fun g => o_fa fa37_2 rfl) ?_
        refine r_s (s_gt rfl rfl fun g => o_ldn 0 (api_View.c a1.Value) ag24 (evg rfl g) rfl rfl rfl) ?_
        refine r_s (s_gt rfl rfl fun g => o_bin (evg rfl g) (evg rfl g) (api_View.beq_24 a0.Value a1.Value)) ?_
        refine r_u (o_and rfl rfl) ?_
        refine r_u (o_mv rfl) ?_
        refine r_s (s_gt rfl rfl fun g => o_fa fa37_3 rfl) ?_
        refine r_s (s_gt rfl rfl fun g => o_ld 1 sc22 (evg rfl g) rfl rfl) ?_
        refine r_s (s_gt rfl rfl fun g => o_fa fa37_3 rfl) ?_
        refine r_s (s_gt rfl rfl fun g => o_ld 0 sc22 (evg rfl g) rfl rfl) ?_
        refine r_s (s_gt rfl rfl fun g => o_bin (evg rfl g) (evg rfl g) (bW_eq a0.Ballot a1.Ballot)) ?_
        refine r_u (o_and rfl rfl) ?_
        refine r_u (o_mv rfl) ?_
        refine r_s (s_gt rfl rfl fun g => o_fa fa37_4 rfl) ?_
        refine r_s (s_gt rfl rfl fun g => o_ldn 1 (api_Promise.c a0.Promise) ag26 (evg rfl g) rfl rfl rfl) ?_
        refine r_s (s_gt rfl rfl fun g => o_fa fa37_4 rfl) ?_
        refine r_s (s_gt rfl rfl fun g => o_ldn 0 (api_Promise.c a1.Promise) ag26 (evg rfl g) rfl rfl rfl) ?_
        refine r_s (s_gt rfl rfl fun g => o_bin (evg rfl g) (evg rfl g) (api_Promise.beq_26 a0.Promise a1.Promise)) ?_
        refine r_u (o_and rfl rfl) ?_
        refine r_u (o_mv rfl) ?_
        refine r_s (s_gt rfl rfl fun g => o_fa fa37_5 rfl) ?_
        refine r_s (s_gt rfl rfl fun g => o_ld 1 sc22 (evg rfl g) rfl rfl) ?_
        refine r_s (s_gt rfl rfl fun g => o_fa fa37_5 rfl) ?_
        refine r_s (s_gt rfl rfl fun g => o_ld 0 sc22 (evg rfl g) rfl rfl) ?_
        refine r_s (s_gt rfl rfl fun g => o_bin (evg rfl g) (evg rfl g) (bW_eq a0.Seq a1.Seq)) ?_
        refine r_u (o_and rfl rfl) ?_
        refine r_u (o_mv rfl) ?_
        refine r_s (s_gt rfl rfl fun g => o_fa fa37_6 rfl) ?_
        refine r_s (s_gt rfl rfl fun g => o_ld 1 sc22 (evg rfl g) rfl rfl) ?_
        refine r_s (s_gt rfl rfl fun g => o_fa fa37_6 rfl) ?_
        refine r_s (s_gt rfl rfl fun g => o_ld 0 sc22 (evg rfl g) rfl rfl) ?_
        refine r_s (s_gt rfl rfl fun g => o_bin (evg rfl g) (evg rfl g) (bW_eq a0.Done a1.Done)) ?_
        refine r_u (o_and rfl rfl) ?_
        refine r_u (o_as rfl) ?_
        refine r_nil ?_
        refine x_seq ?_
        refine c_seq ?_
        refine c_reg ?_
        refine r_u (o_fa fa37_7 rfl) ?_
        refine r_u (o_ld 1 sc22 rfl rfl rfl) ?_
        refine r_u (o_fa fa37_7 rfl) ?_
        refine r_u (o_ld 0 sc22 rfl rfl rfl) ?_
        refine r_u (o_bin rfl rfl (bW_eq a0.Life a1.Life)) ?_
        refine r_u (o_mv rfl) ?_
        refine r_s (s_gt rfl rfl fun g => o_fa fa37_9 rfl) ?_
        refine r_s (s_gt rfl rfl fun g => o_ldn 1 (api_Piece.c a0.Piece) ag29 (evg rfl g) rfl rfl rfl) ?_
        refine r_s (s_gt rfl rfl fun g => o_fa fa37_9 rfl) ?_
        refine r_s (s_gt rfl rfl fun g => o_ldn 0 (api_Piece.c a1.Piece) ag29 (evg rfl g) rfl rfl rfl) ?_
        refine r_s (s_gt rfl rfl fun g => o_bin (evg rfl g) (evg rfl g) (api_Piece.beq_29 a0.Piece a1.Piece)) ?_
        refine r_u (o_and rfl rfl) ?_
        refine r_u (o_mv rfl) ?_
        refine r_s (s_gt rfl rfl fun g => o_fa fa37_10 rfl) ?_
        refine r_s (s_gt rfl rfl fun g => o_ld 1 sc9 (evg rfl g) rfl rfl) ?_
        refine r_s (s_gt rfl rfl fun g => o_fa fa37_10 rfl) ?_
        refine r_s (s_gt rfl rfl fun g => o_ld 0 sc9 (evg rfl g) rfl rfl) ?_
        refine r_s (s_gt rfl rfl fun g => o_bin (evg rfl g) (evg rfl g) (bS_eq a0.Digest a1.Digest)) ?_
        refine r_u (o_and rfl rfl) ?_
        refine r_u (o_mv rfl) ?_
        refine r_s (s_gt rfl rfl fun g => o_fa fa37_12 rfl) ?_
        refine r_s (s_gt rfl rfl fun g => o_ld 1 sc22 (evg rfl g) rfl rfl) ?_
        refine r_s (s_gt rfl rfl fun g => o_fa fa37_12 rfl) ?_
        refine r_s (s_gt rfl rfl fun g => o_ld 0 sc22 (evg rfl g) rfl rfl) ?_
        refine r_s (s_gt rfl rfl fun g => o_bin (evg rfl g) (evg rfl g) (bW_eq a0.Session a1.Session)) ?_
        refine r_u (o_and rfl rfl) ?_
        refine r_u (o_mv rfl) ?_
        refine r_s (s_gt rfl rfl fun g => o_fa fa37_13 rfl) ?_
        refine r_s (s_gt rfl rfl fun g => o_ld 1 sc22 (evg rfl g) rfl rfl) ?_
        refine r_s (s_gt rfl rfl fun g => o_fa fa37_13 rfl) ?_
        refine r_s (s_gt rfl rfl fun g => o_ld 0 sc22 (evg rfl g) rfl rfl) ?_
        refine r_s (s_gt rfl rfl fun g => o_bin (evg rfl g) (evg rfl g) (bW_eq a0.Num a1.Num)) ?_
        refine r_u (o_and rfl rfl) ?_
        refine r_u (o_mv rfl) ?_
        refine r_s (s_gt rfl rfl fun g => o_fa fa37_14 rfl) ?_
        refine r_s (s_gt rfl rfl fun g => o_ldn 1 (api_Op.c a0.Op) ag32 (evg rfl g) rfl rfl rfl) ?_
        refine r_s (s_gt rfl rfl fun g => o_fa fa37_14 rfl) ?_
        refine r_s (s_gt rfl rfl fun g => o_ldn 0 (api_Op.c a1.Op) ag32 (evg rfl g) rfl rfl rfl) ?_
        refine r_s (s_gt rfl rfl fun g => o_bin (evg rfl g) (evg rfl g) (api_Op.beq_32 a0.Op a1.Op)) ?_
        refine r_u (o_and rfl rfl) ?_
        refine r_u (o_mv rfl) ?_
        refine r_s (s_gt rfl rfl fun g => o_fa fa37_15 rfl) ?_
        refine r_s (s_gt rfl rfl fun g => o_ldn 1 (api_Reply.c a0.Reply) ag35 (evg rfl g) rfl rfl rfl) ?_
        refine r_s (s_gt rfl rfl fun g => o_fa fa37_15 rfl) ?_
        refine r_s (s_gt rfl rfl fun g => o_ldn 0 (api_Reply.c a1.Reply) ag35 (evg rfl g) rfl rfl rfl) ?_
        refine r_s (s_gt rfl rfl fun g => o_bin (evg rfl g) (evg rfl g) (api_Reply.beq_35 a0.Reply a1.Reply)) ?_
        refine r_u (o_and rfl rfl) ?_
        refine r_u (o_as rfl) ?_
        refine r_nil ?_
        refine x_seq ?_
        refine c_seq ?_
        refine c_reg ?_
        refine r_u (o_mv rfl) ?_
        refine r_u (o_mv rfl) ?_
        refine r_s (s_gt rfl rfl fun g => o_mv rfl) ?_
        refine r_u (o_and rfl rfl) ?_
        refine r_u (o_as rfl) ?_
        refine r_nil ?_
        refine x_seq ?_
        refine c_ret ?_
        obtain rfl := Option.some.inj hm12
        refine ex_st (fun _ h => st_pk 2 [] (by decide) h) ?_
        exact x_r1 rfl (rv_t rfl) (Le.refl _) ⟨_, rfl, rfl, rfl, rfl⟩
      · refine c_blk ?_
        refine cd_loop (M := fun k15 (i_14 : Int) => hawthornref18_Same_l0 a0 a1 k15 i_14 = some p9) (Ef := fun (i_14 : Int) => [(2, pt b0 0), (3, pt b1 0), (6, vI i_14)]) (Lf := fun (i_14 : Int) => Bk b1 37 [vI a1.Kind, vW a1.View.V, vI a1.View.Primary, vW a1.View.PLife, vI a1.View.Backup, vW a1.View.BLife, vW a1.View.Epoch, vW a1.Value.V, vI a1.Value.Primary, vW a1.Value.PLife, vI a1.Value.Backup, vW a1.Value.BLife, vW a1.Value.Epoch, vW a1.Ballot, vB a1.Promise.OK, vW a1.Promise.V, vW a1.Promise.Most, vW a1.Promise.Ballot, vW a1.Promise.Value.V, vI a1.Promise.Value.Primary, vW a1.Promise.Value.PLife, vI a1.Promise.Value.Backup, vW a1.Promise.Value.BLife, vW a1.Promise.Value.Epoch, vW a1.Promise.Chosen.V, vI a1.Promise.Chosen.Primary, vW a1.Promise.Chosen.PLife, vI a1.Promise.Chosen.Backup, vW a1.Promise.Chosen.BLife, vW a1.Promise.Chosen.Epoch, vW a1.Seq, vW a1.Done, vW a1.Life, g1_.Records, vI a1.Piece.N, vI a1.Piece.Of, vS a1.Piece.Data, vS a1.Piece.Sum, vS a1.Piece.Whole, vS a1.Digest, g1_.Sums, vW a1.Session, vW a1.Num, vI a1.Op.Kind, vS a1.Op.Key, vS a1.Op.Value, vW a1.Op.TTL, vW a1.Op.Version, vI a1.Reply.E, vS a1.Reply.Value, vW a1.Reply.Version] :: Bk b0 37 [vI a0.Kind, vW a0.View.V, vI a0.View.Primary, vW a0.View.PLife, vI a0.View.Backup, vW a0.View.BLife, vW a0.View.Epoch, vW a0.Value.V, vI a0.Value.Primary, vW a0.Value.PLife, vI a0.Value.Backup, vW a0.Value.BLife, vW a0.Value.Epoch, vW a0.Ballot, vB a0.Promise.OK, vW a0.Promise.V, vW a0.Promise.Most, vW a0.Promise.Ballot, vW a0.Promise.Value.V, vI a0.Promise.Value.Primary, vW a0.Promise.Value.PLife, vI a0.Promise.Value.Backup, vW a0.Promise.Value.BLife, vW a0.Promise.Value.Epoch, vW a0.Promise.Chosen.V, vI a0.Promise.Chosen.Primary, vW a0.Promise.Chosen.PLife, vI a0.Promise.Chosen.Backup, vW a0.Promise.Chosen.BLife, vW a0.Promise.Chosen.Epoch, vW a0.Seq, vW a0.Done, vW a0.Life, g0_.Records, vI a0.Piece.N, vI a0.Piece.Of, vS a0.Piece.Data, vS a0.Piece.Sum, vS a0.Piece.Whole, vS a0.Digest, g0_.Sums, vW a0.Session, vW a0.Num, vI a0.Op.Kind, vS a0.Op.Key, vS a0.Op.Value, vW a0.Op.TTL, vW a0.Op.Version, vI a0.Reply.E, vS a0.Reply.Value, vW a0.Reply.Version] :: F) (((a0.Sums.length : Int) - 0).toNat + 1) 0 hp11 ⟨rfl, rfl, rfl, trivial⟩ (fun _ h => h) (fun _ h => by cases h) fun k15 i_14 hM17 => ?_
        have hm16 : hawthornref18_Same_l0 a0 a1 (k15 + 1) i_14 = some p9 := hM17
        rw [hawthornref18_Same_l0] at hm16
        refine c_seq ?_
        refine c_seq ?_
        refine c_reg ?_
        refine r_u (o_mv rfl) ?_
        refine r_u (o_fa fa37_11 rfl) ?_
        refine r_u (o_ld 1 sc30 rfl rfl rfl) ?_
        refine r_u (o_lenR Try.underlying30 rfl h0.2) ?_
        refine r_u (o_bin rfl rfl (bI_lt i_14 (a0.Sums.length : Int))) ?_
        refine r_nil ?_
        refine x_seq ?_
        refine c_if (b := decide (i_14 < (a0.Sums.length : Int))) rfl (fun h18 => ?_) fun h18 => ?_
        · have hm19 := ift hm16 h18
          clear hm16
          refine c_skip ?_
          refine x_seq ?_
          refine c_seq ?_
          refine c_blk ?_
          refine c_seq ?_
          obtain ⟨x20, hx20, hm21⟩ := bs hm19
          clear hm19
          obtain ⟨b20, o20, l20, T20, fr20, c20, hv20, hR20, he20, hi20⟩ := RoS.ne h0.2 hx20
          obtain ⟨x22, hx22, hm23⟩ := bs hm21
          clear hm21
          obtain ⟨b22, o22, l22, T22, fr22, c22, hv22, hR22, he22, hi22⟩ := RoS.ne h1.2 hx22
          refine c_any mixed (effs := []) (V := []) ?_
          refine stage_ext [(0, pt b0 40), (1, g0_.Sums), (2, vI i_14), (3, pt b20 (o20 + i_14.toNat * 1)), (4, vS x20), (5, pt b1 40), (6, g1_.Sums), (7, vI i_14), (8, pt b22 (o22 + i_14.toNat * 1)), (9, vS x22), (10, vB (x20 != x22))] rfl ?_
          refine stage rfl rfl rfl rfl [0, 1, 0, 7, 15, 0, 32, 0, 224, 480, 1023] [0, 1, 2, 3, 4, 5, 6, 7, 8, 9, 10] [] rfl rfl rfl (qc rfl rfl (s_u (o_fa fa37_11 rfl)) (qc rfl rfl (s_u (o_ld 1 sc30 rfl rfl rfl)) (qc rfl rfl (s_u (o_mv rfl)) (qc rfl rfl (s_u (o_ix (sz := 1) Try.underlying30 (fun _ => by kernel_rfl) rfl rfl hv20 hi20)) (qc rfl rfl (s_u (o_ldR sc9 rfl hR20 (rok 0 he20 (by decide)))) (qc rfl rfl (s_u (o_fa fa37_11 rfl)) (qc rfl rfl (s_u (o_ld 0 sc30 rfl rfl rfl)) (qc rfl rfl (s_u (o_mv rfl)) (qc rfl rfl (s_u (o_ix (sz := 1) Try.underlying30 (fun _ => by kernel_rfl) rfl rfl hv22 hi22)) (qc rfl rfl (s_u (o_ldR sc9 rfl hR22 (rok 0 he22 (by decide)))) (qc rfl rfl (s_u (o_bin rfl rfl (bS_ne x20 x22))) qn))))))))))) en ?_
          intro _
          refine ex_sub (E' := [(2, pt b0 0), (3, pt b1 0), (6, vI i_14), (60, vB (x20 != x22))]) ⟨rfl, rfl, rfl, rfl, trivial⟩ ?_
          refine x_seq ?_
          refine c_if (b := (x20 != x22)) rfl (fun h24 => ?_) fun h24 => ?_
          · have hm25 := ift hm23 h24
            clear hm23
            refine c_seq ?_
            refine c_reg ?_
            refine r_u (o_as rfl) ?_
            refine r_nil ?_
            refine x_seq ?_
            refine c_ret ?_
            obtain rfl := Option.some.inj hm25
            try dsimp only at hm12
            obtain rfl := Option.some.inj hm12
            refine ex_st (fun _ h => st_pk 2 [] (by decide) h) ?_
            exact x_r1 rfl (rv_t rfl) (Le.refl _) ⟨_, rfl, rfl, rfl, rfl⟩
          · have hm25 := iff_ hm23 h24
            clear hm23
            refine c_skip ?_
            refine x_blk ?_
            refine x_seq ?_
            refine c_reg ?_
            refine r_u (o_mv rfl) ?_
            refine r_u (o_bin rfl rfl (bI_add i_14 1)) ?_
            refine r_u (o_as rfl) ?_
            refine r_nil ?_
            exact x_lp (i64 (i_14 + 1)) hm25 ⟨rfl, rfl, rfl, trivial⟩ (fun _ h => st_pk 2 [0, 1] (by decide) h)
        · have hm19 := iff_ hm16 h18
          clear hm16
          refine c_exit (x_exit (ks' := _) rfl ?_)
          obtain rfl := Option.some.inj hm19
          exact x_sub (K13 _ rfl) ⟨rfl, rfl, trivial⟩ (fun _ h => st_pk 2 [0, 1] (by decide) h)
    · refine c_blk ?_
      refine cd_loop (M := fun k27 (i_26 : Int) => hawthornref18_Same_l1 a0 a1 k27 i_26 = some p4) (Ef := fun (i_26 : Int) => [(2, pt b0 0), (3, pt b1 0), (5, vI i_26)]) (Lf := fun (i_26 : Int) => Bk b1 37 [vI a1.Kind, vW a1.View.V, vI a1.View.Primary, vW a1.View.PLife, vI a1.View.Backup, vW a1.View.BLife, vW a1.View.Epoch, vW a1.Value.V, vI a1.Value.Primary, vW a1.Value.PLife, vI a1.Value.Backup, vW a1.Value.BLife, vW a1.Value.Epoch, vW a1.Ballot, vB a1.Promise.OK, vW a1.Promise.V, vW a1.Promise.Most, vW a1.Promise.Ballot, vW a1.Promise.Value.V, vI a1.Promise.Value.Primary, vW a1.Promise.Value.PLife, vI a1.Promise.Value.Backup, vW a1.Promise.Value.BLife, vW a1.Promise.Value.Epoch, vW a1.Promise.Chosen.V, vI a1.Promise.Chosen.Primary, vW a1.Promise.Chosen.PLife, vI a1.Promise.Chosen.Backup, vW a1.Promise.Chosen.BLife, vW a1.Promise.Chosen.Epoch, vW a1.Seq, vW a1.Done, vW a1.Life, g1_.Records, vI a1.Piece.N, vI a1.Piece.Of, vS a1.Piece.Data, vS a1.Piece.Sum, vS a1.Piece.Whole, vS a1.Digest, g1_.Sums, vW a1.Session, vW a1.Num, vI a1.Op.Kind, vS a1.Op.Key, vS a1.Op.Value, vW a1.Op.TTL, vW a1.Op.Version, vI a1.Reply.E, vS a1.Reply.Value, vW a1.Reply.Version] :: Bk b0 37 [vI a0.Kind, vW a0.View.V, vI a0.View.Primary, vW a0.View.PLife, vI a0.View.Backup, vW a0.View.BLife, vW a0.View.Epoch, vW a0.Value.V, vI a0.Value.Primary, vW a0.Value.PLife, vI a0.Value.Backup, vW a0.Value.BLife, vW a0.Value.Epoch, vW a0.Ballot, vB a0.Promise.OK, vW a0.Promise.V, vW a0.Promise.Most, vW a0.Promise.Ballot, vW a0.Promise.Value.V, vI a0.Promise.Value.Primary, vW a0.Promise.Value.PLife, vI a0.Promise.Value.Backup, vW a0.Promise.Value.BLife, vW a0.Promise.Value.Epoch, vW a0.Promise.Chosen.V, vI a0.Promise.Chosen.Primary, vW a0.Promise.Chosen.PLife, vI a0.Promise.Chosen.Backup, vW a0.Promise.Chosen.BLife, vW a0.Promise.Chosen.Epoch, vW a0.Seq, vW a0.Done, vW a0.Life, g0_.Records, vI a0.Piece.N, vI a0.Piece.Of, vS a0.Piece.Data, vS a0.Piece.Sum, vS a0.Piece.Whole, vS a0.Digest, g0_.Sums, vW a0.Session, vW a0.Num, vI a0.Op.Kind, vS a0.Op.Key, vS a0.Op.Value, vW a0.Op.TTL, vW a0.Op.Version, vI a0.Reply.E, vS a0.Reply.Value, vW a0.Reply.Version] :: F) (((a0.Records.length : Int) - 0).toNat + 1) 0 hp6 ⟨rfl, rfl, rfl, trivial⟩ (fun _ h => h) (fun _ h => by cases h) fun k27 i_26 hM29 => ?_
      have hm28 : hawthornref18_Same_l1 a0 a1 (k27 + 1) i_26 = some p4 := hM29
      rw [hawthornref18_Same_l1] at hm28
      refine c_seq ?_
      refine c_seq ?_
      refine c_reg ?_
      refine r_u (o_mv rfl) ?_
      refine r_u (o_fa fa37_8 rfl) ?_
      refine r_u (o_ld 1 sc27 rfl rfl rfl) ?_
      refine r_u (o_lenR Try.underlying27 rfl h0.1) ?_
      refine r_u (o_bin rfl rfl (bI_lt i_26 (a0.Records.length : Int))) ?_
      refine r_nil ?_
      refine x_seq ?_
      refine c_if (b := decide (i_26 < (a0.Records.length : Int))) rfl (fun h30 => ?_) fun h30 => ?_
      · have hm31 := ift hm28 h30
        clear hm28
        refine c_skip ?_
        refine x_seq ?_
        refine c_seq ?_
        refine c_blk ?_
        refine c_seq ?_
        obtain ⟨x32, hx32, hm33⟩ := bs hm31
        clear hm31
        obtain ⟨b32, o32, l32, T32, fr32, c32, hv32, hR32, he32, hi32⟩ := RoS.ne h0.1 hx32
        obtain ⟨x34, hx34, hm35⟩ := bs hm33
        clear hm33
        obtain ⟨b34, o34, l34, T34, fr34, c34, hv34, hR34, he34, hi34⟩ := RoS.ne h1.1 hx34
        refine c_any mixed (effs := []) (V := []) ?_
        refine stage_ext [(0, pt b0 33), (1, g0_.Records), (2, vI i_26), (3, pt b32 (o32 + i_26.toNat * 9)), (4, .agg (api_Record.c x32).toArray), (5, pt b1 33), (6, g1_.Records), (7, vI i_26), (8, pt b34 (o34 + i_26.toNat * 9)), (9, .agg (api_Record.c x34).toArray), (10, vB (!(decide (x32 = x34))))] rfl ?_
        refine stage rfl rfl rfl rfl [0, 1, 0, 7, 15, 0, 32, 0, 224, 480, 1023] [0, 1, 2, 3, 4, 5, 6, 7, 8, 9, 10] [] rfl rfl rfl (qc rfl rfl (s_u (o_fa fa37_8 rfl)) (qc rfl rfl (s_u (o_ld 1 sc27 rfl rfl rfl)) (qc rfl rfl (s_u (o_mv rfl)) (qc rfl rfl (s_u (o_ix (sz := 9) Try.underlying27 (fun _ => by kernel_rfl) rfl rfl hv32 hi32)) (qc rfl rfl (s_u (o_ldnR (api_Record.c x32) ag89 rfl hR32 he32 rfl)) (qc rfl rfl (s_u (o_fa fa37_8 rfl)) (qc rfl rfl (s_u (o_ld 0 sc27 rfl rfl rfl)) (qc rfl rfl (s_u (o_mv rfl)) (qc rfl rfl (s_u (o_ix (sz := 9) Try.underlying27 (fun _ => by kernel_rfl) rfl rfl hv34 hi34)) (qc rfl rfl (s_u (o_ldnR (api_Record.c x34) ag89 rfl hR34 he34 rfl)) (qc rfl rfl (s_u (o_bin rfl rfl (api_Record.bne_89 x32 x34))) qn))))))))))) en ?_
        intro _
        refine ex_sub (E' := [(2, pt b0 0), (3, pt b1 0), (5, vI i_26), (42, vB (!(decide (x32 = x34))))]) ⟨rfl, rfl, rfl, rfl, trivial⟩ ?_
        refine x_seq ?_
        refine c_if (b := !(decide (x32 = x34))) rfl (fun h36 => ?_) fun h36 => ?_
        · have hm37 := ift hm35 h36
          clear hm35
          refine c_seq ?_
          refine c_reg ?_
          refine r_u (o_as rfl) ?_
          refine r_nil ?_
          refine x_seq ?_
          refine c_ret ?_
          obtain rfl := Option.some.inj hm37
          try dsimp only at hm7
          obtain rfl := Option.some.inj hm7
          refine ex_st (fun _ h => st_pk 2 [] (by decide) h) ?_
          exact x_r1 rfl (rv_t rfl) (Le.refl _) ⟨_, rfl, rfl, rfl, rfl⟩
        · have hm37 := iff_ hm35 h36
          clear hm35
          refine c_skip ?_
          refine x_blk ?_
          refine x_seq ?_
          refine c_reg ?_
          refine r_u (o_mv rfl) ?_
          refine r_u (o_bin rfl rfl (bI_add i_26 1)) ?_
          refine r_u (o_as rfl) ?_
          refine r_nil ?_
          exact x_lp (i64 (i_26 + 1)) hm37 ⟨rfl, rfl, rfl, trivial⟩ (fun _ h => st_pk 2 [0, 1] (by decide) h)
      · have hm31 := iff_ hm28 h30
        clear hm28
        refine c_exit (x_exit (ks' := _) rfl ?_)
        obtain rfl := Option.some.inj hm31
        exact x_sub (K8 _ rfl) ⟨rfl, rfl, trivial⟩ (fun _ h => st_pk 2 [0, 1] (by decide) h)

def hawthornref03_Num_l0  : Nat → UInt64 → Str → Option (UInt64 × Str)
  | 0, _, _ => none
  | k9 + 1, n_7, s_8 => if decide (127 < n_7) then if s_8.length + [(128 + (n_7 % 128)).toUInt8].length ≤ maxS then hawthornref03_Num_l0 k9 (n_7 / 128) (s_8 ++ [(128 + (n_7 % 128)).toUInt8]) else none else some (n_7, s_8)
def hawthornref03_Num (a0 : UInt64) : Option Str :=
  Option.bind (hawthornref03_Num_l0 11 a0 []) fun p0 => if p0.2.length + [p0.1.toUInt8].length ≤ maxS then some (p0.2 ++ [p0.1.toUInt8]) else none
theorem hawthornref03_Num.ok {G R F} (a0 : UInt64) (r : Str) (hm : hawthornref03_Num a0 = some r) : CO Try.prog 94 [vW a0] G R (F)
    (Ret fun u R' L' => u = vS r ∧ R' = R ∧ L' = F) := by
  unfold hawthornref03_Num at hm
  refine co_ofN (N := 22) Try.func94 rfl rfl ?_
  refine c_seq ?_
  refine c_reg ?_
  refine r_u (o_as rfl) ?_
  refine r_nil ?_
  refine x_seq ?_
  refine c_seq ?_
  refine c_reg ?_
  refine r_u (o_as rfl) ?_
  refine r_nil ?_
  refine x_seq ?_
  refine c_seq ?_
  obtain ⟨p0, hp1, hm2⟩ := bs hm
  refine cd_join (E' := [(0, vW p0.1), (3, vS p0.2)]) (L' := F) ?_ fun K3 => ?_
  · refine x_seq ?_
    refine c_seq ?_
    refine c_reg ?_
    refine r_u (o_mv rfl) ?_
    refine r_u (o_mv rfl) ?_
    refine r_u (o_cv rfl (cWY Try.underlying22 Try.underlying5 p0.1)) ?_
    refine r_sw (s_w (o_bsl (en := eY) (sz := 1) (e := 5) (cs := [vY p0.1.toUInt8]) (r := [p0.1.toUInt8]) rfl (fun _ => by kernel_rfl) rfl (by decide) rfl (fun _ => rfl))) ?_
    rintro v4 R _ _ ⟨rfl, rfl⟩
    refine r_u (o_bs 0 Try.underlying45 Try.underlying5 Try.underlying9 rfl rfl) ?_
    obtain ⟨h5, hm6⟩ := ig hm2
    clear hm2
    refine r_u (o_bin rfl rfl (bS_add p0.2 [p0.1.toUInt8] h5)) ?_
    refine r_u (o_as rfl) ?_
    refine r_nil ?_
    refine x_seq ?_
    refine c_ret ?_
    obtain rfl := Option.some.inj hm6
    refine ex_st (fun _ h => st_pk 1 [] (by decide) h) ?_
    exact x_r1 rfl (rv_t rfl) (Le.refl _) ⟨_, rfl, rfl, rfl, rfl⟩
  · refine c_blk ?_
    refine cd_loop (M := fun k9 (s : UInt64 × Str) => hawthornref03_Num_l0 k9 s.1 s.2 = some p0) (Ef := fun (s : UInt64 × Str) => [(0, vW s.1), (3, vS s.2)]) (Lf := fun (s : UInt64 × Str) => F) 11 (a0, []) hp1 ⟨rfl, rfl, trivial⟩ (fun _ h => h) (fun _ h => by cases h) fun k9 s hM11 => ?_
    obtain ⟨n_7, s_8⟩ := s
    have hm10 : hawthornref03_Num_l0 (k9 + 1) n_7 s_8 = some p0 := hM11
    rw [hawthornref03_Num_l0] at hm10
    refine c_seq ?_
    refine c_seq ?_
    refine c_reg ?_
    refine r_u (o_mv rfl) ?_
    refine r_u (o_bin rfl rfl (bW_gt n_7 127)) ?_
    refine r_nil ?_
    refine x_seq ?_
    refine c_if (b := decide (127 < n_7)) rfl (fun h12 => ?_) fun h12 => ?_
    · have hm13 := ift hm10 h12
      clear hm10
      refine c_skip ?_
      refine x_seq ?_
      refine c_blk ?_
      refine c_seq ?_
      refine c_reg ?_
      refine r_u (o_mv rfl) ?_
      refine r_u (o_mv rfl) ?_
      refine r_u (o_bin rfl rfl (bW_rem n_7 128 (by decide))) ?_
      refine r_u (o_bin rfl rfl (bW_add 128 (n_7 % 128))) ?_
      refine r_u (o_cv rfl (cWY Try.underlying22 Try.underlying5 (128 + (n_7 % 128)))) ?_
      refine r_sw (s_w (o_bsl (en := eY) (sz := 1) (e := 5) (cs := [vY ((128 + (n_7 % 128)).toUInt8)]) (r := [(128 + (n_7 % 128)).toUInt8]) rfl (fun _ => by kernel_rfl) rfl (by decide) rfl (fun _ => rfl))) ?_
      rintro v14 R _ _ ⟨rfl, rfl⟩
      refine r_u (o_bs 0 Try.underlying45 Try.underlying5 Try.underlying9 rfl rfl) ?_
      obtain ⟨h15, hm16⟩ := ig hm13
      clear hm13
      refine r_u (o_bin rfl rfl (bS_add s_8 [(128 + (n_7 % 128)).toUInt8] h15)) ?_
      refine r_u (o_as rfl) ?_
      refine r_nil ?_
      refine x_seq ?_
      refine c_reg ?_
      refine r_u (o_mv rfl) ?_
      refine r_u (o_bin rfl rfl (bW_quo n_7 128 (by decide))) ?_
      refine r_u (o_as rfl) ?_
      refine r_nil ?_
      refine x_blk ?_
      exact x_lp (n_7 / 128, s_8 ++ [(128 + (n_7 % 128)).toUInt8]) hm16 ⟨rfl, rfl, trivial⟩ (fun _ h => st_pk 1 [] (by decide) h)
    · have hm13 := iff_ hm10 h12
      clear hm10
      refine c_exit (x_exit (ks' := _) rfl ?_)
      obtain rfl := Option.some.inj hm13
      exact x_sub K3 ⟨rfl, rfl, trivial⟩ (fun _ h => st_pk 0 [] (by decide) h)

def hawthornref03_Text (a0 : Str) : Option Str :=
  (hawthornref03_Num (toW (a0.length : Int))).bind fun r0 => if r0.length + a0.length ≤ maxS then some (r0 ++ a0) else none
theorem hawthornref03_Text.ok {G R F} (a0 : Str) (r : Str) (hm : hawthornref03_Text a0 = some r) : CO Try.prog 42 [vS a0] G R (F)
    (Ret fun u R' L' => u = vS r ∧ R' = R ∧ L' = F) := by
  unfold hawthornref03_Text at hm
  refine co_ofN (N := 9) Try.func42 rfl rfl ?_
  refine c_seq ?_
  refine c_reg ?_
  refine r_u (o_as rfl) ?_
  refine r_nil ?_
  refine x_seq ?_
  refine c_seq ?_
  refine c_reg ?_
  refine r_u (o_mv rfl) ?_
  refine r_u (o_lenS Try.underlying9 rfl) ?_
  refine r_u (o_cv rfl (cIW Try.underlying3 Try.underlying22 (a0.length : Int))) ?_
  obtain ⟨r0, hr0, hm1⟩ := bs hm
  clear hm
  refine r_u (o_callq ca94 rfl (hawthornref03_Num.ok (toW (a0.length : Int)) r0 hr0)) ?_
  refine r_u (o_mv rfl) ?_
  obtain ⟨h2, hm3⟩ := ig hm1
  clear hm1
  refine r_u (o_bin rfl rfl (bS_add r0 a0 h2)) ?_
  refine r_u (o_as rfl) ?_
  refine r_nil ?_
  refine x_seq ?_
  refine c_ret ?_
  obtain rfl := Option.some.inj hm3
  exact x_r1 rfl (rv_t rfl) (Le.refl _) ⟨_, rfl, rfl, rfl, rfl⟩

def hawthornref03_Check_l1 (a0 : Str) (i_5 : Int) : Nat → UInt32 → Int → Option (UInt32)
  | 0, _, _ => none
  | k21 + 1, r_19, k_20 => if decide (k_20 < 8) then (gi a0 i_5).bind fun c26 => Option.bind (if (((r_19 &&& 1) ^^^ (((shYr c26 ((toW k_20).toNat : Int)).toUInt32) &&& 1)) == 1) then some ((r_19 / 2) ^^^ 3945912366) else some (r_19 / 2)) fun p28 => hawthornref03_Check_l1 a0 i_5 k21 p28 (i64 (k_20 + 1)) else some r_19
def hawthornref03_Check_l0 (a0 : Str) : Nat → UInt32 → Int → Option (UInt32)
  | 0, _, _ => none
  | k6 + 1, r_4, i_5 => if decide (i_5 < (a0.length : Int)) then Option.bind (Option.bind (hawthornref03_Check_l1 a0 i_5 9 r_4 0) fun p15 => some p15) fun p11 => hawthornref03_Check_l0 a0 k6 p11 (i64 (i_5 + 1)) else some r_4
def hawthornref03_Check (a0 : Str) : Option UInt32 :=
  Option.bind (hawthornref03_Check_l0 a0 (((a0.length : Int) - 0).toNat + 1) 4294967295 0) fun p0 => some (4294967295 - p0)
theorem hawthornref03_Check.ok {G R F} (a0 : Str) (r : UInt32) (hm : hawthornref03_Check a0 = some r) : CO Try.prog 44 [vS a0] G R (F)
    (Ret fun u R' L' => u = vD r ∧ R' = R ∧ L' = F) := by
  unfold hawthornref03_Check at hm
  refine co_ofN (N := 37) Try.func44 rfl rfl ?_
  refine c_seq ?_
  refine c_reg ?_
  refine r_u (o_as rfl) ?_
  refine r_nil ?_
  refine x_seq ?_
  refine c_seq ?_
  refine c_reg ?_
  refine r_u (o_as rfl) ?_
  refine r_nil ?_
  refine x_seq ?_
  refine c_seq ?_
  refine c_seq ?_
  refine c_reg ?_
  refine r_u (o_as rfl) ?_
  refine r_nil ?_
  refine x_seq ?_
  obtain ⟨p0, hp1, hm2⟩ := bs hm
  refine cd_join (E' := [(3, vD p0)]) (L' := F) ?_ fun K3 => ?_
  · refine x_seq ?_
    refine c_seq ?_
    refine c_reg ?_
    refine r_u (o_mv rfl) ?_
    refine r_u (o_bin rfl rfl (bD_sub 4294967295 p0)) ?_
    refine r_u (o_as rfl) ?_
    refine r_nil ?_
    refine x_seq ?_
    refine c_ret ?_
    obtain rfl := Option.some.inj hm2
    exact x_r1 rfl (rv_t rfl) (Le.refl _) ⟨_, rfl, rfl, rfl, rfl⟩
  · refine c_blk ?_
    refine cd_loop (M := fun k6 (s : UInt32 × Int) => hawthornref03_Check_l0 a0 k6 s.1 s.2 = some p0) (Ef := fun (s : UInt32 × Int) => [(0, vS a0), (3, vD s.1), (4, vI s.2)]) (Lf := fun (s : UInt32 × Int) => F) (((a0.length : Int) - 0).toNat + 1) (4294967295, 0) hp1 ⟨rfl, rfl, rfl, trivial⟩ (fun _ h => h) (fun _ h => by cases h) fun k6 s hM8 => ?_
    obtain ⟨r_4, i_5⟩ := s
    have hm7 : hawthornref03_Check_l0 a0 (k6 + 1) r_4 i_5 = some p0 := hM8
    rw [hawthornref03_Check_l0] at hm7
    refine c_seq ?_
    refine c_seq ?_
    refine c_reg ?_
    refine r_u (o_mv rfl) ?_
    refine r_u (o_mv rfl) ?_
    refine r_u (o_lenS Try.underlying9 rfl) ?_
    refine r_u (o_bin rfl rfl (bI_lt i_5 (a0.length : Int))) ?_
    refine r_nil ?_
    refine x_seq ?_
    refine c_if (b := decide (i_5 < (a0.length : Int))) rfl (fun h9 => ?_) fun h9 => ?_
    · have hm10 := ift hm7 h9
      clear hm7
      refine c_skip ?_
      refine x_seq ?_
      refine c_seq ?_
      obtain ⟨p11, hp12, hm13⟩ := bs hm10
      refine cd_join (E' := [(0, vS a0), (4, vI i_5), (3, vD p11)]) (L' := F) ?_ fun K14 => ?_
      · refine x_seq ?_
        refine c_reg ?_
        refine r_u (o_mv rfl) ?_
        refine r_u (o_bin rfl rfl (bI_add i_5 1)) ?_
        refine r_u (o_as rfl) ?_
        refine r_nil ?_
        exact x_lp (p11, i64 (i_5 + 1)) hm13 ⟨rfl, rfl, rfl, trivial⟩ (fun _ h => st_pk 0 [] (by decide) h)
      · refine c_blk ?_
        refine c_seq ?_
        refine c_reg ?_
        refine r_u (o_as rfl) ?_
        refine r_nil ?_
        refine x_seq ?_
        obtain ⟨p15, hp16, hm17⟩ := bs hp12
        refine cd_join (E' := [(0, vS a0), (4, vI i_5), (3, vD p15)]) (L' := F) ?_ fun K18 => ?_
        · refine x_blk ?_
          obtain rfl := Option.some.inj hm17
          exact x_sub K14 ⟨rfl, rfl, rfl, trivial⟩ (fun _ h => st_pk 0 [] (by decide) h)
        · refine c_blk ?_
          refine cd_loop (M := fun k21 (s : UInt32 × Int) => hawthornref03_Check_l1 a0 i_5 k21 s.1 s.2 = some p15) (Ef := fun (s : UInt32 × Int) => [(0, vS a0), (4, vI i_5), (3, vD s.1), (5, vI s.2)]) (Lf := fun (s : UInt32 × Int) => F) 9 (r_4, 0) hp16 ⟨rfl, rfl, rfl, rfl, trivial⟩ (fun _ h => h) (fun _ h => by cases h) fun k21 s hM23 => ?_
          obtain ⟨r_19, k_20⟩ := s
          have hm22 : hawthornref03_Check_l1 a0 i_5 (k21 + 1) r_19 k_20 = some p15 := hM23
          rw [hawthornref03_Check_l1] at hm22
          refine c_seq ?_
          refine c_seq ?_
          refine c_reg ?_
          refine r_u (o_mv rfl) ?_
          refine r_u (o_bin rfl rfl (bI_lt k_20 8)) ?_
          refine r_nil ?_
          refine x_seq ?_
          refine c_if (b := decide (k_20 < 8)) rfl (fun h24 => ?_) fun h24 => ?_
          · have hm25 := ift hm22 h24
            clear hm22
            refine c_skip ?_
            refine x_seq ?_
            refine c_seq ?_
            refine c_blk ?_
            refine c_seq ?_
            refine c_reg ?_
            refine r_u (o_mv rfl) ?_
            refine r_u (o_mv rfl) ?_
            obtain ⟨c26, hc26, hm27⟩ := bs hm25
            clear hm25
            refine r_u (o_ixS Try.underlying9 rfl rfl hc26) ?_
            refine r_u (o_mv rfl) ?_
            refine r_u (o_cv rfl (cIW Try.underlying3 Try.underlying131 k_20)) ?_
            refine r_u (o_bin rfl rfl (bYW_shr c26 (toW k_20))) ?_
            refine r_u (o_cv rfl (cYD Try.underlying5 Try.underlying91 (shYr c26 ((toW k_20).toNat : Int)))) ?_
            refine r_u (o_bin rfl rfl (bD_and ((shYr c26 ((toW k_20).toNat : Int)).toUInt32) 1)) ?_
            refine r_u (o_as rfl) ?_
            refine r_nil ?_
            refine x_seq ?_
            refine c_seq ?_
            refine c_reg ?_
            refine r_u (o_mv rfl) ?_
            refine r_u (o_bin rfl rfl (bD_and r_19 1)) ?_
            refine r_u (o_mv rfl) ?_
            refine r_u (o_bin rfl rfl (bD_xor (r_19 &&& 1) (((shYr c26 ((toW k_20).toNat : Int)).toUInt32) &&& 1))) ?_
            refine r_u (o_bin rfl rfl (bD_eq ((r_19 &&& 1) ^^^ (((shYr c26 ((toW k_20).toNat : Int)).toUInt32) &&& 1)) 1)) ?_
            refine r_nil ?_
            refine x_seq ?_
            obtain ⟨p28, hp29, hm30⟩ := bs hm27
            refine cd_join (E' := [(0, vS a0), (4, vI i_5), (5, vI k_20), (3, vD p28)]) (L' := F) ?_ fun K31 => ?_
            · refine x_blk ?_
              refine x_seq ?_
              refine c_reg ?_
              refine r_u (o_mv rfl) ?_
              refine r_u (o_bin rfl rfl (bI_add k_20 1)) ?_
              refine r_u (o_as rfl) ?_
              refine r_nil ?_
              exact x_lp (p28, i64 (k_20 + 1)) hm30 ⟨rfl, rfl, rfl, rfl, trivial⟩ (fun _ h => st_pk 0 [] (by decide) h)
            · refine c_if (b := (((r_19 &&& 1) ^^^ (((shYr c26 ((toW k_20).toNat : Int)).toUInt32) &&& 1)) == 1)) rfl (fun h32 => ?_) fun h32 => ?_
              · have hm33 := ift hp29 h32
                clear hp29
                refine c_reg ?_
                refine r_u (o_mv rfl) ?_
                refine r_u (o_bin rfl rfl (bD_quo r_19 2 (by decide))) ?_
                refine r_u (o_bin rfl rfl (bD_xor (r_19 / 2) 3945912366)) ?_
                refine r_u (o_as rfl) ?_
                refine r_nil ?_
                obtain rfl := Option.some.inj hm33
                exact x_sub K31 ⟨rfl, rfl, rfl, rfl, trivial⟩ (fun _ h => st_pk 0 [] (by decide) h)
              · have hm33 := iff_ hp29 h32
                clear hp29
                refine c_reg ?_
                refine r_u (o_mv rfl) ?_
                refine r_u (o_bin rfl rfl (bD_quo r_19 2 (by decide))) ?_
                refine r_u (o_as rfl) ?_
                refine r_nil ?_
                obtain rfl := Option.some.inj hm33
                exact x_sub K31 ⟨rfl, rfl, rfl, rfl, trivial⟩ (fun _ h => st_pk 0 [] (by decide) h)
          · have hm25 := iff_ hm22 h24
            clear hm22
            refine c_exit (x_exit (ks' := _) rfl ?_)
            obtain rfl := Option.some.inj hm25
            exact x_sub K18 ⟨rfl, rfl, rfl, trivial⟩ (fun _ h => st_pk 0 [] (by decide) h)
    · have hm10 := iff_ hm7 h9
      clear hm7
      refine c_exit (x_exit (ks' := _) rfl ?_)
      obtain rfl := Option.some.inj hm10
      exact x_sub K3 ⟨rfl, trivial⟩ (fun _ h => st_pk 0 [] (by decide) h)

def hawthornref03_Four (a0 : UInt32) : Str :=
  [(a0 % 256).toUInt8, ((a0 / 256) % 256).toUInt8, ((a0 / 65536) % 256).toUInt8, (a0 / 16777216).toUInt8]
theorem hawthornref03_Four.ok {G R F} (a0 : UInt32) (r : Str) (hm : hawthornref03_Four a0 = r) : CO Try.prog 43 [vD a0] G R (F)
    (Ret fun u R' L' => u = vS r ∧ R' = R ∧ L' = F) := by
  unfold hawthornref03_Four at hm
  refine co_ofN (N := 19) Try.func43 rfl rfl ?_
  refine c_seq ?_
  refine c_reg ?_
  refine r_u (o_as rfl) ?_
  refine r_nil ?_
  refine x_seq ?_
  refine c_seq ?_
  refine c_reg ?_
  refine r_u (o_mv rfl) ?_
  refine r_u (o_bin rfl rfl (bD_rem a0 256 (by decide))) ?_
  refine r_u (o_cv rfl (cDY Try.underlying91 Try.underlying5 (a0 % 256))) ?_
  refine r_u (o_mv rfl) ?_
  refine r_u (o_bin rfl rfl (bD_quo a0 256 (by decide))) ?_
  refine r_u (o_bin rfl rfl (bD_rem (a0 / 256) 256 (by decide))) ?_
  refine r_u (o_cv rfl (cDY Try.underlying91 Try.underlying5 ((a0 / 256) % 256))) ?_
  refine r_u (o_mv rfl) ?_
  refine r_u (o_bin rfl rfl (bD_quo a0 65536 (by decide))) ?_
  refine r_u (o_bin rfl rfl (bD_rem (a0 / 65536) 256 (by decide))) ?_
  refine r_u (o_cv rfl (cDY Try.underlying91 Try.underlying5 ((a0 / 65536) % 256))) ?_
  refine r_u (o_mv rfl) ?_
  refine r_u (o_bin rfl rfl (bD_quo a0 16777216 (by decide))) ?_
  refine r_u (o_cv rfl (cDY Try.underlying91 Try.underlying5 (a0 / 16777216))) ?_
  refine r_sw (s_w (o_bsl (en := eY) (sz := 1) (e := 5) (cs := [vY ((a0 % 256).toUInt8), vY (((a0 / 256) % 256).toUInt8), vY (((a0 / 65536) % 256).toUInt8), vY ((a0 / 16777216).toUInt8)]) (r := [(a0 % 256).toUInt8, ((a0 / 256) % 256).toUInt8, ((a0 / 65536) % 256).toUInt8, (a0 / 16777216).toUInt8]) rfl (fun _ => by kernel_rfl) rfl (by decide) rfl (fun _ => rfl))) ?_
  rintro v0 R _ _ ⟨rfl, rfl⟩
  refine r_u (o_bs 0 Try.underlying45 Try.underlying5 Try.underlying9 rfl rfl) ?_
  refine r_u (o_as rfl) ?_
  refine r_nil ?_
  refine x_seq ?_
  refine c_ret ?_
  subst hm
  refine ex_st (fun _ h => st_pk 1 [] (by decide) h) ?_
  exact x_r1 rfl (rv_t rfl) (Le.refl _) ⟨_, rfl, rfl, rfl, rfl⟩

def hawthornref03_Frame (a0 : Str) : Option Str :=
  (hawthornref03_Text a0).bind fun r0 => if [49].length + r0.length ≤ maxS then (hawthornref03_Check ([49] ++ r0)).bind fun r4 => if ([49] ++ r0).length + (hawthornref03_Four r4).length ≤ maxS then some (([49] ++ r0) ++ (hawthornref03_Four r4)) else none else none
theorem hawthornref03_Frame.ok {G R F} (a0 : Str) (r : Str) (hm : hawthornref03_Frame a0 = some r) : CO Try.prog 12 [vS a0] G R (F)
    (Ret fun u R' L' => u = vS r ∧ R' = R ∧ L' = F) := by
  unfold hawthornref03_Frame at hm
  refine co_ofN (N := 12) Try.func12 rfl rfl ?_
  refine c_seq ?_
  refine c_reg ?_
  refine r_u (o_as rfl) ?_
  refine r_nil ?_
  refine x_seq ?_
  refine c_seq ?_
  refine c_reg ?_
  refine r_u (o_mv rfl) ?_
  obtain ⟨r0, hr0, hm1⟩ := bs hm
  clear hm
  refine r_u (o_callq ca42 rfl (hawthornref03_Text.ok a0 r0 hr0)) ?_
  obtain ⟨h2, hm3⟩ := ig hm1
  clear hm1
  refine r_u (o_bin rfl rfl (bS_add [49] r0 h2)) ?_
  refine r_u (o_as rfl) ?_
  refine r_nil ?_
  refine x_seq ?_
  refine c_seq ?_
  refine c_reg ?_
  refine r_u (o_mv rfl) ?_
  refine r_u (o_mv rfl) ?_
  obtain ⟨r4, hr4, hm5⟩ := bs hm3
  clear hm3
  refine r_u (o_callq ca44 rfl (hawthornref03_Check.ok ([49] ++ r0) r4 hr4)) ?_
  refine r_u (o_callq ca43 rfl (hawthornref03_Four.ok r4 _ rfl)) ?_
  obtain ⟨h6, hm7⟩ := ig hm5
  clear hm5
  refine r_u (o_bin rfl rfl (bS_add ([49] ++ r0) (hawthornref03_Four r4) h6)) ?_
  refine r_u (o_as rfl) ?_
  refine r_nil ?_
  refine x_seq ?_
  refine c_ret ?_
  obtain rfl := Option.some.inj hm7
  exact x_r1 rfl (rv_t rfl) (Le.refl _) ⟨_, rfl, rfl, rfl, rfl⟩

end Go.Proofs.Ythngfieikhillaa
