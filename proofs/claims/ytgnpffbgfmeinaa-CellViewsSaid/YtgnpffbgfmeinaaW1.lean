import Derived.Test.YtgnpffbgfmeinaaW0
import Derived.Test.YtgnpffbgfmeinaaFacts
import Derived.Test.YtgnpffbgfmeinaaHwP
set_option linter.unusedVariables false
set_option linter.unusedSimpArgs false
set_option maxRecDepth 100000
set_option maxHeartbeats 8000000
namespace Go.Proofs.Ytgnpffbgfmeinaa
open Go Go.Proofs.Ytgnpffbgfmeinaa.Hw
def op_TakeRecord (a0 : wire_Reader) : Option ((api_Record × wire_Reader) ⊕ (Int × wire_Reader)) :=
  (wire_Reader_Num a0 18446744073709551615).bind fun r1 => sm r1 (fun (ra3 : UInt64 × wire_Reader) => (wire_Reader_Num ra3.2 18446744073709551615).bind fun r7 => sm r7 (fun (ra9 : UInt64 × wire_Reader) => (wire_Reader_Num ra9.2 18446744073709551615).bind fun r13 => sm r13 (fun (ra15 : UInt64 × wire_Reader) => (wire_Reader_Num ra15.2 18446744073709551615).bind fun r19 => sm r19 (fun (ra21 : UInt64 × wire_Reader) => (op_Take ra21.2).bind fun r25 => sm r25 (fun (ra27 : api_Op × wire_Reader) => some (Sum.inl ((⟨ra3.1, ra9.1, ra15.1, ra21.1, ra27.1⟩ : api_Record), ra27.2))) fun ((rn28, ro29) : Int × wire_Reader) => some (Sum.inr (rn28, ro29))) fun ((rn22, ro23) : Int × wire_Reader) => some (Sum.inr (rn22, ro23))) fun ((rn16, ro17) : Int × wire_Reader) => some (Sum.inr (rn16, ro17))) fun ((rn10, ro11) : Int × wire_Reader) => some (Sum.inr (rn10, ro11))) fun ((rn4, ro5) : Int × wire_Reader) => some (Sum.inr (rn4, ro5))
theorem op_TakeRecord.ok {G R F} (b0_ : Nat) (a0 : wire_Reader) (r : (api_Record × wire_Reader) ⊕ (Int × wire_Reader)) (hm : op_TakeRecord a0 = some r) : CO Try.prog 66 [pt b0_ 0] G R (Bk b0_ 101 (wire_Reader.c a0) :: F)
    (PK 99 r (fun (a : api_Record × wire_Reader) u R' L' => u = .agg (api_Record.c a.1).toArray ∧ R' = R ∧ L' = Bk b0_ 101 (wire_Reader.c a.2) :: F) (fun n (o : wire_Reader) R' L' => R' = R ∧ L' = Bk b0_ 101 (wire_Reader.c o) :: F)) := by
  unfold op_TakeRecord at hm
  refine co_ofN (N := 14) Try.func66 rfl rfl ?_
  refine c_seq ?_
  refine c_reg ?_
  refine r_new (o_al ze78) fun b0 => ?_
  refine r_nil ?_
  refine x_seq ?_
  refine c_seq ?_
  obtain ⟨r1, hr1, hm2⟩ := bs hm
  rcases r1 with ra3 | ⟨rn4, ro5⟩
  · have hm6 := sm_l hm2
    obtain ⟨r7, hr7, hm8⟩ := bs hm6
    rcases r7 with ra9 | ⟨rn10, ro11⟩
    · have hm12 := sm_l hm8
      obtain ⟨r13, hr13, hm14⟩ := bs hm12
      rcases r13 with ra15 | ⟨rn16, ro17⟩
      · have hm18 := sm_l hm14
        obtain ⟨r19, hr19, hm20⟩ := bs hm18
        rcases r19 with ra21 | ⟨rn22, ro23⟩
        · have hm24 := sm_l hm20
          obtain ⟨r25, hr25, hm26⟩ := bs hm24
          rcases r25 with ra27 | ⟨rn28, ro29⟩
          · have hm30 := sm_l hm26
            refine c_reg ?_
            refine r_u (o_mv rfl) ?_
            refine rl_st (fun _ h => st_pk 2 [1, 0] (by decide) h) ?_
            refine r_c (s_w (o_callL ca30 rfl (wire_Reader_Num.ok b0_ a0 18446744073709551615 (Sum.inl ra3) hr1) (fun _ _ _ h => h))) ?_
            refine r_u (o_mv rfl) ?_
            refine r_c (s_w (o_callL ca30 rfl (wire_Reader_Num.ok b0_ ra3.2 18446744073709551615 (Sum.inl ra9) hr7) (fun _ _ _ h => h))) ?_
            refine r_u (o_mv rfl) ?_
            refine r_c (s_w (o_callL ca30 rfl (wire_Reader_Num.ok b0_ ra9.2 18446744073709551615 (Sum.inl ra15) hr13) (fun _ _ _ h => h))) ?_
            refine r_u (o_mv rfl) ?_
            refine r_c (s_w (o_callL ca30 rfl (wire_Reader_Num.ok b0_ ra15.2 18446744073709551615 (Sum.inl ra21) hr19) (fun _ _ _ h => h))) ?_
            refine r_u (o_mv rfl) ?_
            refine r_c (s_w (o_callL ca58 rfl (op_Take.ok b0_ ra21.2 (Sum.inl ra27) hr25) (fun _ _ _ h => h))) ?_
            refine r_u (o_bld [vW ra3.1, vW ra9.1, vW ra15.1, vW ra21.1, vI ra27.1.Kind, vS ra27.1.Key, vS ra27.1.Value, vW ra27.1.TTL, vW ra27.1.Version] rfl (fun _ => by kernel_rfl)) ?_
            refine rl_st (fun _ h => st_pk 2 [1, 0] (by decide) h) ?_
            refine r_u0 (o_stn ag78 rfl rfl rfl rfl rfl rfl rfl) ?_
            refine r_nil ?_
            refine x_seq ?_
            refine c_ret ?_
            obtain rfl := Option.some.inj hm30
            exact x_d1 rfl (rv_n 0 [vW ra3.1, vW ra9.1, vW ra15.1, vW ra21.1, vI ra27.1.Kind, vS ra27.1.Key, vS ra27.1.Value, vW ra27.1.TTL, vW ra27.1.Version] ag78 rfl rfl rfl rfl) (fun _ h => st_pk 2 [1] (by decide) h) (Le.refl _) (.inl ⟨_, rfl, _, rfl, rfl, rfl, rfl⟩)
          · have hm30 := sm_r hm26
            refine c_reg ?_
            refine r_u (o_mv rfl) ?_
            refine rl_st (fun _ h => st_pk 2 [1, 0] (by decide) h) ?_
            refine r_c (s_w (o_callL ca30 rfl (wire_Reader_Num.ok b0_ a0 18446744073709551615 (Sum.inl ra3) hr1) (fun _ _ _ h => h))) ?_
            refine r_u (o_mv rfl) ?_
            refine r_c (s_w (o_callL ca30 rfl (wire_Reader_Num.ok b0_ ra3.2 18446744073709551615 (Sum.inl ra9) hr7) (fun _ _ _ h => h))) ?_
            refine r_u (o_mv rfl) ?_
            refine r_c (s_w (o_callL ca30 rfl (wire_Reader_Num.ok b0_ ra9.2 18446744073709551615 (Sum.inl ra15) hr13) (fun _ _ _ h => h))) ?_
            refine r_u (o_mv rfl) ?_
            refine r_c (s_w (o_callL ca30 rfl (wire_Reader_Num.ok b0_ ra15.2 18446744073709551615 (Sum.inl ra21) hr19) (fun _ _ _ h => h))) ?_
            refine r_u (o_mv rfl) ?_
            obtain rfl := Option.some.inj hm30
            exact r_sw (s_w (o_callR ca58 rfl (op_Take.ok b0_ ra21.2 (Sum.inr (rn28, ro29)) hr25) (by rintro _ _ _ ⟨rfl, rfl⟩; exact (px_st (fun _ h => st_pk 2 [0] (by decide) h) (px_of (Le.refl _) (.inr ⟨_, rfl, _, rfl, rfl, rfl⟩)))))) (fun _ _ _ _ h => h.elim)
        · have hm24 := sm_r hm20
          refine c_reg ?_
          refine r_u (o_mv rfl) ?_
          refine rl_st (fun _ h => st_pk 2 [1, 0] (by decide) h) ?_
          refine r_c (s_w (o_callL ca30 rfl (wire_Reader_Num.ok b0_ a0 18446744073709551615 (Sum.inl ra3) hr1) (fun _ _ _ h => h))) ?_
          refine r_u (o_mv rfl) ?_
          refine r_c (s_w (o_callL ca30 rfl (wire_Reader_Num.ok b0_ ra3.2 18446744073709551615 (Sum.inl ra9) hr7) (fun _ _ _ h => h))) ?_
          refine r_u (o_mv rfl) ?_
          refine r_c (s_w (o_callL ca30 rfl (wire_Reader_Num.ok b0_ ra9.2 18446744073709551615 (Sum.inl ra15) hr13) (fun _ _ _ h => h))) ?_
          refine r_u (o_mv rfl) ?_
          obtain rfl := Option.some.inj hm24
          exact r_sw (s_w (o_callR ca30 rfl (wire_Reader_Num.ok b0_ ra15.2 18446744073709551615 (Sum.inr (rn22, ro23)) hr19) (by rintro _ _ _ ⟨rfl, rfl⟩; exact (px_st (fun _ h => st_pk 2 [0] (by decide) h) (px_of (Le.refl _) (.inr ⟨_, rfl, _, rfl, rfl, rfl⟩)))))) (fun _ _ _ _ h => h.elim)
      · have hm18 := sm_r hm14
        refine c_reg ?_
        refine r_u (o_mv rfl) ?_
        refine rl_st (fun _ h => st_pk 2 [1, 0] (by decide) h) ?_
        refine r_c (s_w (o_callL ca30 rfl (wire_Reader_Num.ok b0_ a0 18446744073709551615 (Sum.inl ra3) hr1) (fun _ _ _ h => h))) ?_
        refine r_u (o_mv rfl) ?_
        refine r_c (s_w (o_callL ca30 rfl (wire_Reader_Num.ok b0_ ra3.2 18446744073709551615 (Sum.inl ra9) hr7) (fun _ _ _ h => h))) ?_
        refine r_u (o_mv rfl) ?_
        obtain rfl := Option.some.inj hm18
        exact r_sw (s_w (o_callR ca30 rfl (wire_Reader_Num.ok b0_ ra9.2 18446744073709551615 (Sum.inr (rn16, ro17)) hr13) (by rintro _ _ _ ⟨rfl, rfl⟩; exact (px_st (fun _ h => st_pk 2 [0] (by decide) h) (px_of (Le.refl _) (.inr ⟨_, rfl, _, rfl, rfl, rfl⟩)))))) (fun _ _ _ _ h => h.elim)
    · have hm12 := sm_r hm8
      refine c_reg ?_
      refine r_u (o_mv rfl) ?_
      refine rl_st (fun _ h => st_pk 2 [1, 0] (by decide) h) ?_
      refine r_c (s_w (o_callL ca30 rfl (wire_Reader_Num.ok b0_ a0 18446744073709551615 (Sum.inl ra3) hr1) (fun _ _ _ h => h))) ?_
      refine r_u (o_mv rfl) ?_
      obtain rfl := Option.some.inj hm12
      exact r_sw (s_w (o_callR ca30 rfl (wire_Reader_Num.ok b0_ ra3.2 18446744073709551615 (Sum.inr (rn10, ro11)) hr7) (by rintro _ _ _ ⟨rfl, rfl⟩; exact (px_st (fun _ h => st_pk 2 [0] (by decide) h) (px_of (Le.refl _) (.inr ⟨_, rfl, _, rfl, rfl, rfl⟩)))))) (fun _ _ _ _ h => h.elim)
  · have hm6 := sm_r hm2
    refine c_reg ?_
    refine r_u (o_mv rfl) ?_
    refine rl_st (fun _ h => st_pk 2 [1, 0] (by decide) h) ?_
    obtain rfl := Option.some.inj hm6
    exact r_sw (s_w (o_callR ca30 rfl (wire_Reader_Num.ok b0_ a0 18446744073709551615 (Sum.inr (rn4, ro5)) hr1) (by rintro _ _ _ ⟨rfl, rfl⟩; exact (px_st (fun _ h => st_pk 2 [0] (by decide) h) (px_of (Le.refl _) (.inr ⟨_, rfl, _, rfl, rfl, rfl⟩)))))) (fun _ _ _ _ h => h.elim)

def op_Get_1 (a0 : wire_Reader) (a1 : api_Record) : Option ((wire_Reader × api_Record) ⊕ (Int × (wire_Reader × api_Record))) :=
  (op_TakeRecord a0).bind fun r0 => sm r0 (fun (ra2 : api_Record × wire_Reader) => some (Sum.inl (ra2.2, ra2.1))) fun ((rn3, ro4) : Int × wire_Reader) => some (Sum.inr (rn3, (ro4, a1)))
theorem op_Get_1.ok {G R F} (b0_ : Nat) (a0 : wire_Reader) (b1_ : Nat) (a1 : api_Record) (r : (wire_Reader × api_Record) ⊕ (Int × (wire_Reader × api_Record))) (hm : op_Get_1 a0 a1 = some r) : CO Try.prog 84 [pt b0_ 0, pt b1_ 0] G R (Bk b0_ 101 (wire_Reader.c a0) :: Bk b1_ 78 (api_Record.c a1) :: F)
    (PK 99 r (fun (a : wire_Reader × api_Record) u R' L' => u = .tuple #[] ∧ R' = R ∧ L' = Bk b0_ 101 (wire_Reader.c a.1) :: Bk b1_ 78 (api_Record.c a.2) :: F) (fun n (o : wire_Reader × api_Record) R' L' => R' = R ∧ L' = Bk b0_ 101 (wire_Reader.c o.1) :: Bk b1_ 78 (api_Record.c o.2) :: F)) := by
  unfold op_Get_1 at hm
  refine co_ofN (N := 5) Try.func84 rfl rfl ?_
  obtain ⟨r0, hr0, hm1⟩ := bs hm
  rcases r0 with ra2 | ⟨rn3, ro4⟩
  · have hm5 := sm_l hm1
    refine c_reg ?_
    refine r_u (o_mv rfl) ?_
    refine r_c (s_w (o_callL ca66 rfl (op_TakeRecord.ok b0_ a0 (Sum.inl ra2) hr0) (fun _ _ _ h => h))) ?_
    refine rl_st (fun _ h => st_pk 2 [1, 0] (by decide) h) ?_
    refine r_u0 (o_stn ag78 rfl rfl rfl rfl rfl rfl rfl) ?_
    refine r_nil ?_
    refine x_end ?_
    obtain rfl := Option.some.inj hm5
    refine ex_st (fun _ h => st_pk 2 [1, 0] (by decide) h) ?_
    exact x_r0 rfl (Le.refl _) (.inl ⟨_, rfl, _, rfl, rfl, rfl, rfl⟩)
  · have hm5 := sm_r hm1
    refine c_reg ?_
    refine r_u (o_mv rfl) ?_
    obtain rfl := Option.some.inj hm5
    exact r_sw (s_w (o_callR ca66 rfl (op_TakeRecord.ok b0_ a0 (Sum.inr (rn3, ro4)) hr0) (by rintro _ _ _ ⟨rfl, rfl⟩; exact (px_st (fun _ h => st_pk 2 [0, 1] (by decide) h) (px_of (Le.refl _) (.inr ⟨_, rfl, _, rfl, rfl, rfl⟩)))))) (fun _ _ _ _ h => h.elim)

def op_Get (a0 : Str) : Option (api_Record × Int) :=
  (op_Get_1 (⟨a0⟩ : wire_Reader) (⟨0, 0, 0, 0, (⟨0, [], [], 0, 0⟩ : api_Op)⟩ : api_Record)).bind fun r2 => Option.bind (sm r2 (fun (ra10 : wire_Reader × api_Record) => some ((if ra10.1.s == [] then 0 else 5), ra10.2)) fun ((rn11, ro12) : Int × (wire_Reader × api_Record)) => some (rn11, ro12.2)) fun p4 => if (p4.1 != 0) then some ((⟨0, 0, 0, 0, (⟨0, [], [], 0, 0⟩ : api_Op)⟩ : api_Record), p4.1) else some (p4.2, 0)
theorem op_Get.ok {G R F} (a0 : Str) (r : api_Record × Int) (hm : op_Get a0 = some r) : CO Try.prog 63 [vS a0] G R (F)
    (Ret fun u R' L' => u = .tuple #[.agg (api_Record.c r.1).toArray, vI r.2] ∧ R' = R ∧ L' = F) := by
  unfold op_Get at hm
  refine co_ofN (N := 14) Try.func63 rfl rfl ?_
  refine c_seq ?_
  refine c_reg ?_
  refine r_new (o_al ze78) fun b0 => ?_
  refine r_u (o_as rfl) ?_
  refine r_nil ?_
  refine x_seq ?_
  refine c_seq ?_
  refine c_reg ?_
  refine r_new (o_al ze78) fun b1 => ?_
  refine r_nil ?_
  refine x_seq ?_
  refine c_seq ?_
  refine c_seq ?_
  obtain ⟨r2, hr2, hm3⟩ := bs hm
  obtain ⟨p4, hp5, hm6⟩ := bs hm3
  refine cd_join (E' := [(2, pt b0 0), (4, pt b1 0), (5, vI p4.1)]) (L' := Bk b1 78 (api_Record.c p4.2) :: Bk b0 78 [vW 0, vW 0, vW 0, vW 0, vI 0, vS [], vS [], vW 0, vW 0] :: F) ?_ fun K7 => ?_
  · refine x_seq ?_
    refine c_seq ?_
    refine c_reg ?_
    refine r_u (o_mv rfl) ?_
    refine r_u (o_bin rfl rfl (bI_ne p4.1 0)) ?_
    refine r_nil ?_
    refine x_seq ?_
    refine c_if (b := (p4.1 != 0)) rfl (fun h8 => ?_) fun h8 => ?_
    · have hm9 := ift hm6 h8
      refine c_seq ?_
      refine c_reg ?_
      refine r_u (o_bld [vW 0, vW 0, vW 0, vW 0, vI 0, vS [], vS [], vW 0, vW 0] rfl (fun _ => by kernel_rfl)) ?_
      refine r_u (o_mv rfl) ?_
      refine rl_st (fun _ h => st_pk 2 [1, 0] (by decide) h) ?_
      refine r_u0 (o_stn ag78 rfl rfl rfl rfl rfl rfl rfl) ?_
      refine r_u (o_as rfl) ?_
      refine r_nil ?_
      refine x_seq ?_
      refine c_ret ?_
      obtain rfl := Option.some.inj hm9
      exact x_d2 rfl (rv_n 0 [vW 0, vW 0, vW 0, vW 0, vI 0, vS [], vS [], vW 0, vW 0] ag78 rfl rfl rfl rfl) (rv_t rfl) (fun _ h => st_pk 2 [] (by decide) h) (Le.refl _) ⟨_, rfl, rfl, rfl, rfl⟩
    · have hm9 := iff_ hm6 h8
      refine c_skip ?_
      refine x_seq ?_
      refine c_seq ?_
      refine c_reg ?_
      refine r_u (o_ldn 0 (api_Record.c p4.2) ag78 rfl rfl rfl rfl) ?_
      refine rl_st (fun _ h => st_pk 2 [1, 0] (by decide) h) ?_
      refine r_u0 (o_stn ag78 rfl rfl rfl rfl rfl rfl rfl) ?_
      refine r_u (o_as rfl) ?_
      refine r_nil ?_
      refine x_seq ?_
      refine c_ret ?_
      obtain rfl := Option.some.inj hm9
      exact x_d2 rfl (rv_n 0 (api_Record.c p4.2) ag78 rfl rfl rfl rfl) (rv_t rfl) (fun _ h => st_pk 2 [] (by decide) h) (Le.refl _) ⟨_, rfl, rfl, rfl, rfl⟩
  · rcases r2 with ra10 | ⟨rn11, ro12⟩
    · have hm13 := sm_l hp5
      refine c_reg ?_
      refine r_u (o_mv rfl) ?_
      refine r_u (o_mf rfl) ?_
      refine r_c (s_w (o_call ca27 rfl (wire_Read.okL (A := [Bk b1 78 [vW 0, vW 0, vW 0, vW 0, vI 0, vS [], vS [], vW 0, vW 0]]) (M := [Bk b1 78 (api_Record.c ra10.2)]) (s' := ra10.1.s) ca84 (fun b F => co_l (op_Get_1.ok b (⟨a0⟩ : wire_Reader) b1 (⟨0, 0, 0, 0, (⟨0, [], [], 0, 0⟩ : api_Op)⟩ : api_Record) (Sum.inl ra10) hr2) (fun _ _ _ h => h))))) ?_
      refine r_u (o_as rfl) ?_
      refine r_nil ?_
      obtain rfl := Option.some.inj hm13
      exact x_sub (K7) ⟨rfl, rfl, rfl, trivial⟩ (fun _ h => st_pk 2 [0, 1] (by decide) h)
    · have hm13 := sm_r hp5
      refine c_reg ?_
      refine r_u (o_mv rfl) ?_
      refine r_u (o_mf rfl) ?_
      refine r_c (s_w (o_call ca27 rfl (wire_Read.okR (A := [Bk b1 78 [vW 0, vW 0, vW 0, vW 0, vI 0, vS [], vS [], vW 0, vW 0]]) (M := [Bk b1 78 (api_Record.c ro12.2)]) (cs := [vS ro12.1.s]) ca84 (fun b F => co_r (op_Get_1.ok b (⟨a0⟩ : wire_Reader) b1 (⟨0, 0, 0, 0, (⟨0, [], [], 0, 0⟩ : api_Op)⟩ : api_Record) (Sum.inr (rn11, ro12)) hr2) (fun _ _ h => h))))) ?_
      refine r_u (o_as rfl) ?_
      refine r_nil ?_
      obtain rfl := Option.some.inj hm13
      exact x_sub (K7) ⟨rfl, rfl, rfl, trivial⟩ (fun _ h => st_pk 2 [0, 1] (by decide) h)

def hawthornlaw10_awake  : Option Bool :=
  (op_PutRecord (⟨5, 0, 7, 1, (⟨2, [97], [118], 3, 0⟩ : api_Op)⟩ : api_Record)).bind fun r1 => (op_Get r1).bind fun r3 => some ((((r3.2 == 0) && decide ((⟨5, 0, 7, 1, (⟨2, [97], [118], 3, 0⟩ : api_Op)⟩ : api_Record) = r3.1)) && (op_Check (⟨2, [97], [118], 3, 0⟩ : api_Op))) && !(op_Check (⟨0, [], [], 0, 0⟩ : api_Op)))
theorem hawthornlaw10_awake.ok {G R F} (r : Bool) (hm : hawthornlaw10_awake = some r) : CO Try.prog 53 [] G R (F)
    (Ret fun u R' L' => u = vB r ∧ R' = R ∧ L' = F) := by
  unfold hawthornlaw10_awake at hm
  refine co_ofN (N := 29) Try.func53 rfl rfl ?_
  refine c_seq ?_
  refine c_reg ?_
  refine r_u (o_as rfl) ?_
  refine r_nil ?_
  refine x_seq ?_
  refine c_seq ?_
  refine c_reg ?_
  refine r_u (o_bld [vI 2, vS [97], vS [118], vW 3, vW 0] rfl (fun _ => by kernel_rfl)) ?_
  refine r_u (o_bld [vW 5, vW 0, vW 7, vW 1, vI 2, vS [97], vS [118], vW 3, vW 0] rfl (fun _ => by kernel_rfl)) ?_
  refine r_new (o_al ze78) fun b0 => ?_
  refine r_u0 (o_stn ag78 rfl rfl rfl rfl rfl rfl rfl) ?_
  refine r_nil ?_
  refine x_seq ?_
  refine c_seq ?_
  refine c_reg ?_
  refine r_u (o_ldn 0 [vW 5, vW 0, vW 7, vW 1, vI 2, vS [97], vS [118], vW 3, vW 0] ag78 rfl rfl rfl rfl) ?_
  obtain ⟨r1, hr1, hm2⟩ := bs hm
  refine r_u (o_callq ca64 rfl (op_PutRecord.ok (⟨5, 0, 7, 1, (⟨2, [97], [118], 3, 0⟩ : api_Op)⟩ : api_Record) r1 hr1)) ?_
  obtain ⟨r3, hr3, hm4⟩ := bs hm2
  refine r_u (o_callq ca63 rfl (op_Get.ok r1 r3 hr3)) ?_
  refine r_u (o_mv rfl) ?_
  refine r_u (o_ext rfl rfl) ?_
  refine r_u (o_ext rfl rfl) ?_
  refine r_new (o_al ze78) fun b5 => ?_
  refine r_u0 (o_stn ag78 rfl rfl rfl rfl rfl rfl rfl) ?_
  refine r_u (o_as rfl) ?_
  refine r_nil ?_
  refine x_seq ?_
  refine c_seq ?_
  refine c_reg ?_
  refine r_u (o_mv rfl) ?_
  refine r_u (o_bin rfl rfl (bI_eq r3.2 0)) ?_
  refine r_u (o_mv rfl) ?_
  refine r_s (s_gt rfl rfl fun g => o_ldn 1 [vW 5, vW 0, vW 7, vW 1, vI 2, vS [97], vS [118], vW 3, vW 0] ag78 rfl rfl rfl rfl) ?_
  refine r_s (s_gt rfl rfl fun g => o_ldn 0 (api_Record.c r3.1) ag78 rfl rfl rfl rfl) ?_
  refine r_s (s_gt rfl rfl fun g => o_bin (evg rfl g) (evg rfl g) (api_Record.beq_78 (⟨5, 0, 7, 1, (⟨2, [97], [118], 3, 0⟩ : api_Op)⟩ : api_Record) r3.1)) ?_
  refine r_u (o_and rfl rfl) ?_
  refine r_u (o_mv rfl) ?_
  refine r_s (s_gt rfl rfl fun g => o_fa fa78_4 rfl) ?_
  refine r_s (s_gt rfl rfl fun g => o_ldn 1 [vI 2, vS [97], vS [118], vW 3, vW 0] ag72 (evg rfl g) rfl rfl rfl) ?_
  refine r_s (s_gt rfl rfl fun g => o_callq ca54 (evs1 (evg rfl g) evs0) (op_Check.ok (⟨2, [97], [118], 3, 0⟩ : api_Op) _ rfl)) ?_
  refine r_u (o_and rfl rfl) ?_
  refine r_u (o_mv rfl) ?_
  refine r_s (s_gt rfl rfl fun g => o_bld [vI 0, vS [], vS [], vW 0, vW 0] rfl (fun _ => by kernel_rfl)) ?_
  refine r_s (s_gt rfl rfl fun g => o_callq ca54 (evs1 (evg rfl g) evs0) (op_Check.ok (⟨0, [], [], 0, 0⟩ : api_Op) _ rfl)) ?_
  refine r_s (s_gt rfl rfl fun g => o_not (evg rfl g)) ?_
  refine r_u (o_and rfl rfl) ?_
  refine r_u (o_as rfl) ?_
  refine r_nil ?_
  refine x_seq ?_
  refine c_ret ?_
  obtain rfl := Option.some.inj hm4
  refine ex_st (fun _ h => st_pk 2 [] (by decide) h) ?_
  exact x_r1 rfl (rv_t rfl) (Le.refl _) ⟨_, rfl, rfl, rfl, rfl⟩

def hawthornref10_Check (a0 : api_Op) : Bool :=
  if ((decide (64 < (a0.Key.length : Int)) || decide (4096 < (a0.Value.length : Int))) || decide (1073741824 < a0.TTL)) then false else lt (if (a0.Kind == 1) then (a0.Kind == 1) else (a0.Kind == 3)) fun p3 => if p3 then (((a0.Key != []) && ((a0.Value == []) && (a0.TTL == 0))) && (a0.Version == 0)) else if (a0.Kind == 2) then ((a0.Key != []) && (a0.Version == 0)) else if (a0.Kind == 4) then ((a0.Key != []) && decide (0 < a0.Version)) else if (a0.Kind == 5) then (((a0.Key == []) && ((a0.Value == []) && (a0.TTL == 0))) && (a0.Version == 0)) else false
theorem hawthornref10_Check.ok {G R F} (a0 : api_Op) (r : Bool) (hm : hawthornref10_Check a0 = r) : CO Try.prog 55 [.agg (api_Op.c a0).toArray] G R (F)
    (Ret fun u R' L' => u = vB r ∧ R' = R ∧ L' = F) := by
  unfold hawthornref10_Check at hm
  refine co_ofN (N := 76) Try.func55 rfl rfl ?_
  refine c_seq ?_
  refine c_reg ?_
  refine r_new (o_bx (api_Op.c a0) rfl rfl) fun b0 => ?_
  refine r_u (o_as rfl) ?_
  refine r_nil ?_
  refine x_seq ?_
  refine c_seq ?_
  refine c_seq ?_
  refine c_reg ?_
  refine r_u (o_fa fa72_1 rfl) ?_
  refine r_u (o_ld 0 sc9 rfl rfl rfl) ?_
  refine r_u (o_lenS Try.underlying9 rfl) ?_
  refine r_u (o_bin rfl rfl (bI_gt (a0.Key.length : Int) 64)) ?_
  refine r_u (o_mv rfl) ?_
  refine r_s (s_gf rfl rfl fun g => o_fa fa72_2 rfl) ?_
  refine r_s (s_gf rfl rfl fun g => o_ld 0 sc9 (evg rfl g) rfl rfl) ?_
  refine r_s (s_gf rfl rfl fun g => o_lenS Try.underlying9 (evg rfl g)) ?_
  refine r_s (s_gf rfl rfl fun g => o_bin (evg rfl g) rfl (bI_gt (a0.Value.length : Int) 4096)) ?_
  refine r_u (o_or rfl rfl) ?_
  refine r_u (o_mv rfl) ?_
  refine r_s (s_gf rfl rfl fun g => o_fa fa72_3 rfl) ?_
  refine r_s (s_gf rfl rfl fun g => o_ld 0 sc22 (evg rfl g) rfl rfl) ?_
  refine r_s (s_gf rfl rfl fun g => o_bin (evg rfl g) rfl (bW_gt a0.TTL 1073741824)) ?_
  refine r_u (o_or rfl rfl) ?_
  refine r_nil ?_
  refine x_seq ?_
  refine c_if (b := ((decide (64 < (a0.Key.length : Int)) || decide (4096 < (a0.Value.length : Int))) || decide (1073741824 < a0.TTL))) rfl (fun h1 => ?_) fun h1 => ?_
  · have hm2 := ift hm h1
    refine c_seq ?_
    refine c_reg ?_
    refine r_u (o_as rfl) ?_
    refine r_nil ?_
    refine x_seq ?_
    refine c_ret ?_
    subst hm2
    refine ex_st (fun _ h => st_pk 1 [] (by decide) h) ?_
    exact x_r1 rfl (rv_t rfl) (Le.refl _) ⟨_, rfl, rfl, rfl, rfl⟩
  · have hm2 := iff_ hm h1
    refine c_skip ?_
    refine x_seq ?_
    refine c_seq ?_
    refine c_reg ?_
    refine r_u (o_fa fa72_2 rfl) ?_
    refine r_u (o_ld 0 sc9 rfl rfl rfl) ?_
    refine r_u (o_bin rfl rfl (bS_eq a0.Value [])) ?_
    refine r_u (o_mv rfl) ?_
    refine r_s (s_gt rfl rfl fun g => o_fa fa72_3 rfl) ?_
    refine r_s (s_gt rfl rfl fun g => o_ld 0 sc22 (evg rfl g) rfl rfl) ?_
    refine r_s (s_gt rfl rfl fun g => o_bin (evg rfl g) rfl (bW_eq a0.TTL 0)) ?_
    refine r_u (o_and rfl rfl) ?_
    refine r_u (o_as rfl) ?_
    refine r_nil ?_
    refine x_seq ?_
    refine c_seq ?_
    refine c_seq ?_
    refine c_reg ?_
    refine r_u (o_fa fa72_0 rfl) ?_
    refine r_u (o_ld 0 sc3 rfl rfl rfl) ?_
    refine r_nil ?_
    refine x_seq ?_
    refine c_blk ?_
    refine c_seq ?_
    refine c_seq ?_
    refine c_reg ?_
    refine r_u (o_bin rfl rfl (bI_eq a0.Kind 1)) ?_
    refine r_u (o_as rfl) ?_
    refine r_nil ?_
    refine x_seq ?_
    obtain ⟨p3, hp4, hm5⟩ := ltx hm2
    refine cd_join (E' := [(1, pt b0 0), (3, vB ((a0.Value == []) && (a0.TTL == 0))), (28, vI a0.Kind), (29, vB p3)]) (L' := Bk b0 72 (api_Op.c a0) :: F) ?_ fun K6 => ?_
    · refine x_seq ?_
      refine c_if (b := p3) rfl (fun h7 => ?_) fun h7 => ?_
      · have hm8 := ift hm5 h7
        refine c_seq ?_
        refine c_reg ?_
        refine r_u (o_fa fa72_1 rfl) ?_
        refine r_u (o_ld 0 sc9 rfl rfl rfl) ?_
        refine r_u (o_bin rfl rfl (bS_ne a0.Key [])) ?_
        refine r_u (o_mv rfl) ?_
        refine r_s (s_gt rfl rfl fun g => o_mv rfl) ?_
        refine r_u (o_and rfl rfl) ?_
        refine r_u (o_mv rfl) ?_
        refine r_s (s_gt rfl rfl fun g => o_fa fa72_4 rfl) ?_
        refine r_s (s_gt rfl rfl fun g => o_ld 0 sc22 (evg rfl g) rfl rfl) ?_
        refine r_s (s_gt rfl rfl fun g => o_bin (evg rfl g) rfl (bW_eq a0.Version 0)) ?_
        refine r_u (o_and rfl rfl) ?_
        refine r_u (o_as rfl) ?_
        refine r_nil ?_
        refine x_seq ?_
        refine c_ret ?_
        subst hm8
        refine ex_st (fun _ h => st_pk 1 [] (by decide) h) ?_
        exact x_r1 rfl (rv_t rfl) (Le.refl _) ⟨_, rfl, rfl, rfl, rfl⟩
      · have hm8 := iff_ hm5 h7
        refine c_seq ?_
        refine c_reg ?_
        refine r_u (o_bin rfl rfl (bI_eq a0.Kind 2)) ?_
        refine r_u (o_as rfl) ?_
        refine r_nil ?_
        refine x_seq ?_
        refine c_if (b := (a0.Kind == 2)) rfl (fun h9 => ?_) fun h9 => ?_
        · have hm10 := ift hm8 h9
          refine c_seq ?_
          refine c_reg ?_
          refine r_u (o_fa fa72_1 rfl) ?_
          refine r_u (o_ld 0 sc9 rfl rfl rfl) ?_
          refine r_u (o_bin rfl rfl (bS_ne a0.Key [])) ?_
          refine r_u (o_mv rfl) ?_
          refine r_s (s_gt rfl rfl fun g => o_fa fa72_4 rfl) ?_
          refine r_s (s_gt rfl rfl fun g => o_ld 0 sc22 (evg rfl g) rfl rfl) ?_
          refine r_s (s_gt rfl rfl fun g => o_bin (evg rfl g) rfl (bW_eq a0.Version 0)) ?_
          refine r_u (o_and rfl rfl) ?_
          refine r_u (o_as rfl) ?_
          refine r_nil ?_
          refine x_seq ?_
          refine c_ret ?_
          subst hm10
          refine ex_st (fun _ h => st_pk 1 [] (by decide) h) ?_
          exact x_r1 rfl (rv_t rfl) (Le.refl _) ⟨_, rfl, rfl, rfl, rfl⟩
        · have hm10 := iff_ hm8 h9
          refine c_seq ?_
          refine c_reg ?_
          refine r_u (o_bin rfl rfl (bI_eq a0.Kind 4)) ?_
          refine r_u (o_as rfl) ?_
          refine r_nil ?_
          refine x_seq ?_
          refine c_if (b := (a0.Kind == 4)) rfl (fun h11 => ?_) fun h11 => ?_
          · have hm12 := ift hm10 h11
            refine c_seq ?_
            refine c_reg ?_
            refine r_u (o_fa fa72_1 rfl) ?_
            refine r_u (o_ld 0 sc9 rfl rfl rfl) ?_
            refine r_u (o_bin rfl rfl (bS_ne a0.Key [])) ?_
            refine r_u (o_mv rfl) ?_
            refine r_s (s_gt rfl rfl fun g => o_fa fa72_4 rfl) ?_
            refine r_s (s_gt rfl rfl fun g => o_ld 0 sc22 (evg rfl g) rfl rfl) ?_
            refine r_s (s_gt rfl rfl fun g => o_bin (evg rfl g) rfl (bW_gt a0.Version 0)) ?_
            refine r_u (o_and rfl rfl) ?_
            refine r_u (o_as rfl) ?_
            refine r_nil ?_
            refine x_seq ?_
            refine c_ret ?_
            subst hm12
            refine ex_st (fun _ h => st_pk 1 [] (by decide) h) ?_
            exact x_r1 rfl (rv_t rfl) (Le.refl _) ⟨_, rfl, rfl, rfl, rfl⟩
          · have hm12 := iff_ hm10 h11
            refine c_seq ?_
            refine c_reg ?_
            refine r_u (o_bin rfl rfl (bI_eq a0.Kind 5)) ?_
            refine r_u (o_as rfl) ?_
            refine r_nil ?_
            refine x_seq ?_
            refine c_if (b := (a0.Kind == 5)) rfl (fun h13 => ?_) fun h13 => ?_
            · have hm14 := ift hm12 h13
              refine c_seq ?_
              refine c_reg ?_
              refine r_u (o_fa fa72_1 rfl) ?_
              refine r_u (o_ld 0 sc9 rfl rfl rfl) ?_
              refine r_u (o_bin rfl rfl (bS_eq a0.Key [])) ?_
              refine r_u (o_mv rfl) ?_
              refine r_s (s_gt rfl rfl fun g => o_mv rfl) ?_
              refine r_u (o_and rfl rfl) ?_
              refine r_u (o_mv rfl) ?_
              refine r_s (s_gt rfl rfl fun g => o_fa fa72_4 rfl) ?_
              refine r_s (s_gt rfl rfl fun g => o_ld 0 sc22 (evg rfl g) rfl rfl) ?_
              refine r_s (s_gt rfl rfl fun g => o_bin (evg rfl g) rfl (bW_eq a0.Version 0)) ?_
              refine r_u (o_and rfl rfl) ?_
              refine r_u (o_as rfl) ?_
              refine r_nil ?_
              refine x_seq ?_
              refine c_ret ?_
              subst hm14
              refine ex_st (fun _ h => st_pk 1 [] (by decide) h) ?_
              exact x_r1 rfl (rv_t rfl) (Le.refl _) ⟨_, rfl, rfl, rfl, rfl⟩
            · have hm14 := iff_ hm12 h13
              refine c_skip ?_
              refine x_blk ?_
              refine x_seq ?_
              refine c_seq ?_
              refine c_reg ?_
              refine r_u (o_as rfl) ?_
              refine r_nil ?_
              refine x_seq ?_
              refine c_ret ?_
              subst hm14
              refine ex_st (fun _ h => st_pk 1 [] (by decide) h) ?_
              exact x_r1 rfl (rv_t rfl) (Le.refl _) ⟨_, rfl, rfl, rfl, rfl⟩
    · refine c_if (b := (a0.Kind == 1)) rfl (fun h15 => ?_) fun h15 => ?_
      · have hm16 := ift hp4 h15
        refine c_skip ?_
        subst hm16
        exact x_sub (K6) ⟨rfl, rfl, rfl, rfl, trivial⟩ (fun _ h => st_pk 1 [0] (by decide) h)
      · have hm16 := iff_ hp4 h15
        refine c_reg ?_
        refine r_u (o_bin rfl rfl (bI_eq a0.Kind 3)) ?_
        refine r_u (o_as rfl) ?_
        refine r_nil ?_
        subst hm16
        exact x_sub (K6) ⟨rfl, rfl, rfl, rfl, trivial⟩ (fun _ h => st_pk 1 [0] (by decide) h)

def hawthornlaw10_OpChecks_1 (a0 : wire_Reader) (a1 : api_Op) : Option ((wire_Reader × api_Op) ⊕ (Int × (wire_Reader × api_Op))) :=
  (op_Take a0).bind fun r0 => sm r0 (fun (ra2 : api_Op × wire_Reader) => some (Sum.inl (ra2.2, ra2.1))) fun ((rn3, ro4) : Int × wire_Reader) => some (Sum.inr (rn3, (ro4, a1)))
theorem hawthornlaw10_OpChecks_1.ok {G R F} (b0_ : Nat) (a0 : wire_Reader) (b1_ : Nat) (a1 : api_Op) (r : (wire_Reader × api_Op) ⊕ (Int × (wire_Reader × api_Op))) (hm : hawthornlaw10_OpChecks_1 a0 a1 = some r) : CO Try.prog 57 [pt b0_ 0, pt b1_ 0] G R (Bk b0_ 101 (wire_Reader.c a0) :: Bk b1_ 72 (api_Op.c a1) :: F)
    (PK 99 r (fun (a : wire_Reader × api_Op) u R' L' => u = .tuple #[] ∧ R' = R ∧ L' = Bk b0_ 101 (wire_Reader.c a.1) :: Bk b1_ 72 (api_Op.c a.2) :: F) (fun n (o : wire_Reader × api_Op) R' L' => R' = R ∧ L' = Bk b0_ 101 (wire_Reader.c o.1) :: Bk b1_ 72 (api_Op.c o.2) :: F)) := by
  unfold hawthornlaw10_OpChecks_1 at hm
  refine co_ofN (N := 5) Try.func57 rfl rfl ?_
  obtain ⟨r0, hr0, hm1⟩ := bs hm
  rcases r0 with ra2 | ⟨rn3, ro4⟩
  · have hm5 := sm_l hm1
    refine c_reg ?_
    refine r_u (o_mv rfl) ?_
    refine r_c (s_w (o_callL ca58 rfl (op_Take.ok b0_ a0 (Sum.inl ra2) hr0) (fun _ _ _ h => h))) ?_
    refine rl_st (fun _ h => st_pk 2 [1, 0] (by decide) h) ?_
    refine r_u0 (o_stn ag72 rfl rfl rfl rfl rfl rfl rfl) ?_
    refine r_nil ?_
    refine x_end ?_
    obtain rfl := Option.some.inj hm5
    refine ex_st (fun _ h => st_pk 2 [1, 0] (by decide) h) ?_
    exact x_r0 rfl (Le.refl _) (.inl ⟨_, rfl, _, rfl, rfl, rfl, rfl⟩)
  · have hm5 := sm_r hm1
    refine c_reg ?_
    refine r_u (o_mv rfl) ?_
    obtain rfl := Option.some.inj hm5
    exact r_sw (s_w (o_callR ca58 rfl (op_Take.ok b0_ a0 (Sum.inr (rn3, ro4)) hr0) (by rintro _ _ _ ⟨rfl, rfl⟩; exact (px_st (fun _ h => st_pk 2 [0, 1] (by decide) h) (px_of (Le.refl _) (.inr ⟨_, rfl, _, rfl, rfl, rfl⟩)))))) (fun _ _ _ _ h => h.elim)

def hawthornref10_Put (a0 : api_Op) : Option Str :=
  (hawthornref03_Num (toW a0.Kind)).bind fun r1 => Option.bind (if (a0.Kind != 5) then (hawthornref03_Text a0.Key).bind fun r29 => if r1.length + r29.length ≤ maxS then some (r1 ++ r29) else none else some r1) fun p3 => Option.bind (if ((a0.Kind == 2) || (a0.Kind == 4)) then (hawthornref03_Text a0.Value).bind fun r19 => (hawthornref03_Num a0.TTL).bind fun r21 => if r19.length + r21.length ≤ maxS then if p3.length + (r19 ++ r21).length ≤ maxS then some (p3 ++ (r19 ++ r21)) else none else none else some p3) fun p7 => if (a0.Kind == 4) then (hawthornref03_Num a0.Version).bind fun r13 => if p7.length + r13.length ≤ maxS then some (p7 ++ r13) else none else some p7
theorem hawthornref10_Put.ok {G R F} (a0 : api_Op) (r : Str) (hm : hawthornref10_Put a0 = some r) : CO Try.prog 59 [.agg (api_Op.c a0).toArray] G R (F)
    (Ret fun u R' L' => u = vS r ∧ R' = R ∧ L' = F) := by
  unfold hawthornref10_Put at hm
  refine co_ofN (N := 42) Try.func59 rfl rfl ?_
  refine c_seq ?_
  refine c_reg ?_
  refine r_new (o_bx (api_Op.c a0) rfl rfl) fun b0 => ?_
  refine r_u (o_as rfl) ?_
  refine r_nil ?_
  refine x_seq ?_
  refine c_seq ?_
  refine c_reg ?_
  refine r_u (o_fa fa72_0 rfl) ?_
  refine r_u (o_ld 0 sc3 rfl rfl rfl) ?_
  refine r_u (o_cv rfl (cIW Try.underlying3 Try.underlying22 a0.Kind)) ?_
  obtain ⟨r1, hr1, hm2⟩ := bs hm
  refine r_u (o_callq ca19 rfl (hawthornref03_Num.ok (toW a0.Kind) r1 hr1)) ?_
  refine r_u (o_as rfl) ?_
  refine r_nil ?_
  refine x_seq ?_
  refine c_seq ?_
  refine c_seq ?_
  refine c_reg ?_
  refine r_u (o_fa fa72_0 rfl) ?_
  refine r_u (o_ld 0 sc3 rfl rfl rfl) ?_
  refine r_u (o_bin rfl rfl (bI_ne a0.Kind 5)) ?_
  refine r_nil ?_
  refine x_seq ?_
  obtain ⟨p3, hp4, hm5⟩ := bs hm2
  refine cd_join (E' := [(1, pt b0 0), (3, vS p3)]) (L' := Bk b0 72 (api_Op.c a0) :: F) ?_ fun K6 => ?_
  · refine x_seq ?_
    refine c_seq ?_
    refine c_seq ?_
    refine c_reg ?_
    refine r_u (o_fa fa72_0 rfl) ?_
    refine r_u (o_ld 0 sc3 rfl rfl rfl) ?_
    refine r_u (o_bin rfl rfl (bI_eq a0.Kind 2)) ?_
    refine r_u (o_mv rfl) ?_
    refine r_s (s_gf rfl rfl fun g => o_fa fa72_0 rfl) ?_
    refine r_s (s_gf rfl rfl fun g => o_ld 0 sc3 (evg rfl g) rfl rfl) ?_
    refine r_s (s_gf rfl rfl fun g => o_bin (evg rfl g) rfl (bI_eq a0.Kind 4)) ?_
    refine r_u (o_or rfl rfl) ?_
    refine r_nil ?_
    refine x_seq ?_
    obtain ⟨p7, hp8, hm9⟩ := bs hm5
    refine cd_join (E' := [(1, pt b0 0), (3, vS p7)]) (L' := Bk b0 72 (api_Op.c a0) :: F) ?_ fun K10 => ?_
    · refine x_seq ?_
      refine c_seq ?_
      refine c_seq ?_
      refine c_reg ?_
      refine r_u (o_fa fa72_0 rfl) ?_
      refine r_u (o_ld 0 sc3 rfl rfl rfl) ?_
      refine r_u (o_bin rfl rfl (bI_eq a0.Kind 4)) ?_
      refine r_nil ?_
      refine x_seq ?_
      refine c_if (b := (a0.Kind == 4)) rfl (fun h11 => ?_) fun h11 => ?_
      · have hm12 := ift hm9 h11
        refine c_reg ?_
        refine r_u (o_mv rfl) ?_
        refine r_u (o_fa fa72_4 rfl) ?_
        refine r_u (o_ld 0 sc22 rfl rfl rfl) ?_
        obtain ⟨r13, hr13, hm14⟩ := bs hm12
        refine r_u (o_callq ca19 rfl (hawthornref03_Num.ok a0.Version r13 hr13)) ?_
        obtain ⟨h15, hm16⟩ := ig hm14
        refine r_u (o_bin rfl rfl (bS_add p7 r13 h15)) ?_
        refine r_u (o_as rfl) ?_
        refine r_nil ?_
        refine x_seq ?_
        refine c_seq ?_
        refine c_reg ?_
        refine r_u (o_mv rfl) ?_
        refine r_u (o_as rfl) ?_
        refine r_nil ?_
        refine x_seq ?_
        refine c_ret ?_
        obtain rfl := Option.some.inj hm16
        refine ex_st (fun _ h => st_pk 1 [] (by decide) h) ?_
        exact x_r1 rfl (rv_t rfl) (Le.refl _) ⟨_, rfl, rfl, rfl, rfl⟩
      · have hm12 := iff_ hm9 h11
        refine c_skip ?_
        refine x_seq ?_
        refine c_seq ?_
        refine c_reg ?_
        refine r_u (o_mv rfl) ?_
        refine r_u (o_as rfl) ?_
        refine r_nil ?_
        refine x_seq ?_
        refine c_ret ?_
        obtain rfl := Option.some.inj hm12
        refine ex_st (fun _ h => st_pk 1 [] (by decide) h) ?_
        exact x_r1 rfl (rv_t rfl) (Le.refl _) ⟨_, rfl, rfl, rfl, rfl⟩
    · refine c_if (b := ((a0.Kind == 2) || (a0.Kind == 4))) rfl (fun h17 => ?_) fun h17 => ?_
      · have hm18 := ift hp8 h17
        obtain ⟨r19, hr19, hm20⟩ := bs hm18
        obtain ⟨r21, hr21, hm22⟩ := bs hm20
        obtain ⟨h23, hm24⟩ := ig hm22
        obtain ⟨h25, hm26⟩ := ig hm24
        refine c_any mixed (effs := []) (V := []) ?_
        refine stage_ext [(0, vS p3), (1, pt b0 2), (2, vS a0.Value), (3, vS r19), (4, pt b0 3), (5, vW a0.TTL), (6, vS r21), (7, vS (r19 ++ r21)), (8, vS (p3 ++ (r19 ++ r21))), (9, vS (p3 ++ (r19 ++ r21)))] rfl ?_
        refine stage rfl rfl rfl rfl [0, 0, 2, 6, 0, 16, 62, 126, 255, 511] [0, 1, 2, 3, 4, 5, 6, 7, 8, 9] [] rfl rfl rfl (qc rfl rfl (s_u (o_mv rfl)) (qc rfl rfl (s_u (o_fa fa72_2 rfl)) (qc rfl rfl (s_u (o_ld 0 sc9 rfl rfl rfl)) (qc rfl rfl (s_u (o_callq ca43 rfl (hawthornref03_Text.ok a0.Value r19 hr19))) (qc rfl rfl (s_u (o_fa fa72_3 rfl)) (qc rfl rfl (s_u (o_ld 0 sc22 rfl rfl rfl)) (qc rfl rfl (s_u (o_callq ca19 rfl (hawthornref03_Num.ok a0.TTL r21 hr21))) (qc rfl rfl (s_u (o_bin rfl rfl (bS_add r19 r21 h23))) (qc rfl rfl (s_u (o_bin rfl rfl (bS_add p3 (r19 ++ r21) h25))) (qc rfl rfl (s_u (o_as rfl)) qn)))))))))) en ?_
        intro _
        refine ex_sub (E' := [(1, pt b0 0), (3, vS (p3 ++ (r19 ++ r21)))]) ⟨rfl, rfl, trivial⟩ ?_
        obtain rfl := Option.some.inj hm26
        exact x_sub (K10) ⟨rfl, rfl, trivial⟩ (fun _ h => st_pk 1 [0] (by decide) h)
      · have hm18 := iff_ hp8 h17
        refine c_skip ?_
        obtain rfl := Option.some.inj hm18
        exact x_sub (K10) ⟨rfl, rfl, trivial⟩ (fun _ h => st_pk 1 [0] (by decide) h)
  · refine c_if (b := (a0.Kind != 5)) rfl (fun h27 => ?_) fun h27 => ?_
    · have hm28 := ift hp4 h27
      refine c_reg ?_
      refine r_u (o_mv rfl) ?_
      refine r_u (o_fa fa72_1 rfl) ?_
      refine r_u (o_ld 0 sc9 rfl rfl rfl) ?_
      obtain ⟨r29, hr29, hm30⟩ := bs hm28
      refine r_u (o_callq ca43 rfl (hawthornref03_Text.ok a0.Key r29 hr29)) ?_
      obtain ⟨h31, hm32⟩ := ig hm30
      refine r_u (o_bin rfl rfl (bS_add r1 r29 h31)) ?_
      refine r_u (o_as rfl) ?_
      refine r_nil ?_
      obtain rfl := Option.some.inj hm32
      exact x_sub (K6) ⟨rfl, rfl, trivial⟩ (fun _ h => st_pk 1 [0] (by decide) h)
    · have hm28 := iff_ hp4 h27
      refine c_skip ?_
      obtain rfl := Option.some.inj hm28
      exact x_sub (K6) ⟨rfl, rfl, trivial⟩ (fun _ h => st_pk 1 [0] (by decide) h)

def hawthornlaw10_OpChecks (a0 : api_Op) : Option Bool :=
  (hawthornlaw10_cut a0).bind fun r1 => (hawthornlaw10_awake).bind fun r4 => if (!r4 || ((op_Check r1) != (hawthornref10_Check r1))) then some false else if !(op_Check r1) then some true else (op_Put r1).bind fun r11 => (hawthornlaw10_OpChecks_1 (⟨r11⟩ : wire_Reader) (⟨0, [], [], 0, 0⟩ : api_Op)).bind fun r13 => Option.bind (sm r13 (fun (ra21 : wire_Reader × api_Op) => some ((if ra21.1.s == [] then 0 else 5), ra21.2)) fun ((rn22, ro23) : Int × (wire_Reader × api_Op)) => some (rn22, ro23.2)) fun p15 => (hawthornref10_Put r1).bind fun r19 => some (((r11 == r19) && (p15.1 == 0)) && decide (p15.2 = r1))
theorem hawthornlaw10_OpChecks.ok {G R F} (a0 : api_Op) (r : Bool) (hm : hawthornlaw10_OpChecks a0 = some r) : CO Try.prog 12 [.agg (api_Op.c a0).toArray] G R (F)
    (Ret fun u R' L' => u = vB r ∧ R' = R ∧ L' = F) := by
  unfold hawthornlaw10_OpChecks at hm
  refine co_ofN (N := 39) Try.func12 rfl rfl ?_
  refine c_seq ?_
  refine c_reg ?_
  refine r_new (o_bx (api_Op.c a0) rfl rfl) fun b0 => ?_
  refine r_u (o_as rfl) ?_
  refine r_nil ?_
  refine x_seq ?_
  refine c_seq ?_
  refine c_reg ?_
  refine r_u (o_ldn 0 (api_Op.c a0) ag72 rfl rfl rfl rfl) ?_
  obtain ⟨r1, hr1, hm2⟩ := bs hm
  refine r_u (o_callq ca52 rfl (hawthornlaw10_cut.ok a0 r1 hr1)) ?_
  refine r_new (o_al ze72) fun b3 => ?_
  refine r_u0 (o_stn ag72 rfl rfl rfl rfl rfl rfl rfl) ?_
  refine r_nil ?_
  refine x_seq ?_
  refine c_seq ?_
  refine c_seq ?_
  obtain ⟨r4, hr4, hm5⟩ := bs hm2
  refine c_any mixed (effs := []) (V := []) ?_
  refine stage_ext [(0, vB r4), (1, vB (!r4)), (2, vB (!r4)), (3, gv (!(!r4)) (.agg (api_Op.c r1).toArray)), (4, gv (!(!r4)) (vB (op_Check r1))), (5, gv (!(!r4)) (.agg (api_Op.c r1).toArray)), (6, gv (!(!r4)) (vB (hawthornref10_Check r1))), (7, gv (!(!r4)) (vB ((op_Check r1) != (hawthornref10_Check r1)))), (8, vB (!r4 || ((op_Check r1) != (hawthornref10_Check r1))))] rfl ?_
  refine stage rfl rfl rfl rfl [0, 1, 3, 7, 15, 7, 63, 127, 255] [0, 1, 2, 3, 4, 5, 6, 7, 8] [] rfl rfl rfl (qc rfl rfl (s_u (o_callq ca53 rfl (hawthornlaw10_awake.ok r4 hr4))) (qc rfl rfl (s_u (o_not rfl)) (qc rfl rfl (s_u (o_mv rfl)) (qc rfl rfl (s_gf rfl rfl fun g => o_ldn 0 (api_Op.c r1) ag72 rfl rfl rfl rfl) (qc rfl rfl (s_gf rfl rfl fun g => o_callq ca54 (evs1 (evg rfl g) evs0) (op_Check.ok r1 _ rfl)) (qc rfl rfl (s_gf rfl rfl fun g => o_ldn 0 (api_Op.c r1) ag72 rfl rfl rfl rfl) (qc rfl rfl (s_gf rfl rfl fun g => o_callq ca55 (evs1 (evg rfl g) evs0) (hawthornref10_Check.ok r1 _ rfl)) (qc rfl rfl (s_gf rfl rfl fun g => o_bin (evg rfl g) (evg rfl g) (bB_ne Try.underlying4 (op_Check r1) (hawthornref10_Check r1))) (qc rfl rfl (s_u (o_or rfl rfl)) qn))))))))) en ?_
  intro _
  refine ex_sub (E' := [(3, pt b3 0), (16, vB (!r4 || ((op_Check r1) != (hawthornref10_Check r1))))]) ⟨rfl, rfl, trivial⟩ ?_
  refine x_seq ?_
  refine c_if (b := (!r4 || ((op_Check r1) != (hawthornref10_Check r1)))) rfl (fun h6 => ?_) fun h6 => ?_
  · have hm7 := ift hm5 h6
    refine c_seq ?_
    refine c_reg ?_
    refine r_u (o_as rfl) ?_
    refine r_nil ?_
    refine x_seq ?_
    refine c_ret ?_
    obtain rfl := Option.some.inj hm7
    refine ex_st (fun _ h => st_pk 2 [] (by decide) h) ?_
    exact x_r1 rfl (rv_t rfl) (Le.refl _) ⟨_, rfl, rfl, rfl, rfl⟩
  · have hm7 := iff_ hm5 h6
    refine c_skip ?_
    refine x_seq ?_
    refine c_seq ?_
    refine c_seq ?_
    refine c_reg ?_
    refine r_u (o_ldn 0 (api_Op.c r1) ag72 rfl rfl rfl rfl) ?_
    refine r_u (o_callq ca54 rfl (op_Check.ok r1 _ rfl)) ?_
    refine r_u (o_not rfl) ?_
    refine r_nil ?_
    refine x_seq ?_
    refine c_if (b := !(op_Check r1)) rfl (fun h8 => ?_) fun h8 => ?_
    · have hm9 := ift hm7 h8
      refine c_seq ?_
      refine c_reg ?_
      refine r_u (o_as rfl) ?_
      refine r_nil ?_
      refine x_seq ?_
      refine c_ret ?_
      obtain rfl := Option.some.inj hm9
      refine ex_st (fun _ h => st_pk 2 [] (by decide) h) ?_
      exact x_r1 rfl (rv_t rfl) (Le.refl _) ⟨_, rfl, rfl, rfl, rfl⟩
    · have hm9 := iff_ hm7 h8
      refine c_skip ?_
      refine x_seq ?_
      refine c_seq ?_
      refine c_reg ?_
      refine r_u (o_bld [vI 0, vS [], vS [], vW 0, vW 0] rfl (fun _ => by kernel_rfl)) ?_
      refine r_new (o_al ze72) fun b10 => ?_
      refine r_u0 (o_stn ag72 rfl rfl rfl rfl rfl rfl rfl) ?_
      refine r_nil ?_
      refine x_seq ?_
      refine c_seq ?_
      obtain ⟨r11, hr11, hm12⟩ := bs hm9
      obtain ⟨r13, hr13, hm14⟩ := bs hm12
      obtain ⟨p15, hp16, hm17⟩ := bs hm14
      refine cd_join (E' := [(3, pt b3 0), (4, pt b10 0), (5, vI p15.1)]) (L' := Bk b10 72 (api_Op.c p15.2) :: Bk b3 72 (api_Op.c r1) :: Bk b0 72 (api_Op.c a0) :: F) ?_ fun K18 => ?_
      · refine x_seq ?_
        refine c_seq ?_
        obtain ⟨r19, hr19, hm20⟩ := bs hm17
        refine c_any mixed (effs := []) (V := []) ?_
        refine stage_ext [(0, .agg (api_Op.c r1).toArray), (1, vS r11), (2, .agg (api_Op.c r1).toArray), (3, vS r19), (4, vB (r11 == r19)), (5, vB (r11 == r19)), (6, gv (r11 == r19) (vI p15.1)), (7, gv (r11 == r19) (vB (p15.1 == 0))), (8, vB ((r11 == r19) && (p15.1 == 0))), (9, vB ((r11 == r19) && (p15.1 == 0))), (10, gv ((r11 == r19) && (p15.1 == 0)) (.agg (api_Op.c p15.2).toArray)), (11, gv ((r11 == r19) && (p15.1 == 0)) (.agg (api_Op.c r1).toArray)), (12, gv ((r11 == r19) && (p15.1 == 0)) (vB (decide (p15.2 = r1)))), (13, vB (((r11 == r19) && (p15.1 == 0)) && decide (p15.2 = r1))), (14, vB (((r11 == r19) && (p15.1 == 0)) && decide (p15.2 = r1)))] rfl ?_
        refine stage rfl rfl rfl rfl [0, 1, 0, 7, 15, 31, 63, 127, 255, 511, 1023, 1023, 4095, 8191, 16383] [0, 1, 2, 3, 4, 5, 6, 7, 8, 9, 10, 11, 12, 13, 14] [] rfl rfl rfl (qc rfl rfl (s_u (o_ldn 1 (api_Op.c r1) ag72 rfl rfl rfl rfl)) (qc rfl rfl (s_u (o_callq ca56 rfl (op_Put.ok r1 r11 hr11))) (qc rfl rfl (s_u (o_ldn 1 (api_Op.c r1) ag72 rfl rfl rfl rfl)) (qc rfl rfl (s_u (o_callq ca59 rfl (hawthornref10_Put.ok r1 r19 hr19))) (qc rfl rfl (s_u (o_bin rfl rfl (bS_eq r11 r19))) (qc rfl rfl (s_u (o_mv rfl)) (qc rfl rfl (s_gt rfl rfl fun g => o_mv rfl) (qc rfl rfl (s_gt rfl rfl fun g => o_bin (evg rfl g) rfl (bI_eq p15.1 0)) (qc rfl rfl (s_u (o_and rfl rfl)) (qc rfl rfl (s_u (o_mv rfl)) (qc rfl rfl (s_gt rfl rfl fun g => o_ldn 0 (api_Op.c p15.2) ag72 rfl rfl rfl rfl) (qc rfl rfl (s_gt rfl rfl fun g => o_ldn 1 (api_Op.c r1) ag72 rfl rfl rfl rfl) (qc rfl rfl (s_gt rfl rfl fun g => o_bin (evg rfl g) (evg rfl g) (api_Op.beq_72 p15.2 r1)) (qc rfl rfl (s_u (o_and rfl rfl)) (qc rfl rfl (s_u (o_as rfl)) qn))))))))))))))) en ?_
        intro _
        refine ex_sub (E' := [(2, vB (((r11 == r19) && (p15.1 == 0)) && decide (p15.2 = r1)))]) ⟨rfl, trivial⟩ ?_
        refine x_seq ?_
        refine c_ret ?_
        obtain rfl := Option.some.inj hm20
        refine ex_st (fun _ h => st_pk 3 [] (by decide) h) ?_
        exact x_r1 rfl (rv_t rfl) (Le.refl _) ⟨_, rfl, rfl, rfl, rfl⟩
      · rcases r13 with ra21 | ⟨rn22, ro23⟩
        · have hm24 := sm_l hp16
          refine c_reg ?_
          refine r_u (o_ldn 1 (api_Op.c r1) ag72 rfl rfl rfl rfl) ?_
          refine r_u (o_callq ca56 rfl (op_Put.ok r1 r11 hr11)) ?_
          refine r_u (o_mf rfl) ?_
          refine r_c (s_w (o_call ca27 rfl (wire_Read.okL (A := [Bk b10 72 [vI 0, vS [], vS [], vW 0, vW 0]]) (M := [Bk b10 72 (api_Op.c ra21.2)]) (s' := ra21.1.s) ca57 (fun b F => co_l (hawthornlaw10_OpChecks_1.ok b (⟨r11⟩ : wire_Reader) b10 (⟨0, [], [], 0, 0⟩ : api_Op) (Sum.inl ra21) hr13) (fun _ _ _ h => h))))) ?_
          refine r_u (o_as rfl) ?_
          refine r_nil ?_
          obtain rfl := Option.some.inj hm24
          exact x_sub (K18) ⟨rfl, rfl, rfl, trivial⟩ (fun _ h => st_pk 3 [0, 1, 2] (by decide) h)
        · have hm24 := sm_r hp16
          refine c_reg ?_
          refine r_u (o_ldn 1 (api_Op.c r1) ag72 rfl rfl rfl rfl) ?_
          refine r_u (o_callq ca56 rfl (op_Put.ok r1 r11 hr11)) ?_
          refine r_u (o_mf rfl) ?_
          refine r_c (s_w (o_call ca27 rfl (wire_Read.okR (A := [Bk b10 72 [vI 0, vS [], vS [], vW 0, vW 0]]) (M := [Bk b10 72 (api_Op.c ro23.2)]) (cs := [vS ro23.1.s]) ca57 (fun b F => co_r (hawthornlaw10_OpChecks_1.ok b (⟨r11⟩ : wire_Reader) b10 (⟨0, [], [], 0, 0⟩ : api_Op) (Sum.inr (rn22, ro23)) hr13) (fun _ _ h => h))))) ?_
          refine r_u (o_as rfl) ?_
          refine r_nil ?_
          obtain rfl := Option.some.inj hm24
          exact x_sub (K18) ⟨rfl, rfl, rfl, trivial⟩ (fun _ h => st_pk 3 [0, 1, 2] (by decide) h)

def op_PutReply (a0 : api_Reply) : Option Str :=
  (wire_Num (toW a0.E)).bind fun r1 => (wire_Text a0.Value).bind fun r3 => if r1.length + r3.length ≤ maxS then (wire_Num a0.Version).bind fun r7 => if (r1 ++ r3).length + r7.length ≤ maxS then some ((r1 ++ r3) ++ r7) else none else none
theorem op_PutReply.ok {G R F} (a0 : api_Reply) (r : Str) (hm : op_PutReply a0 = some r) : CO Try.prog 61 [.agg (api_Reply.c a0).toArray] G R (F)
    (Ret fun u R' L' => u = vS r ∧ R' = R ∧ L' = F) := by
  unfold op_PutReply at hm
  refine co_ofN (N := 15) Try.func61 rfl rfl ?_
  refine c_seq ?_
  refine c_reg ?_
  refine r_new (o_bx (api_Reply.c a0) rfl rfl) fun b0 => ?_
  refine r_u (o_as rfl) ?_
  refine r_nil ?_
  refine x_seq ?_
  refine c_seq ?_
  obtain ⟨r1, hr1, hm2⟩ := bs hm
  obtain ⟨r3, hr3, hm4⟩ := bs hm2
  obtain ⟨h5, hm6⟩ := ig hm4
  obtain ⟨r7, hr7, hm8⟩ := bs hm6
  obtain ⟨h9, hm10⟩ := ig hm8
  refine c_any mixed (effs := []) (V := []) ?_
  refine stage_ext [(0, pt b0 0), (1, vI a0.E), (2, vW (toW a0.E)), (3, vS r1), (4, pt b0 1), (5, vS a0.Value), (6, vS r3), (7, vS (r1 ++ r3)), (8, pt b0 2), (9, vW a0.Version), (10, vS r7), (11, vS ((r1 ++ r3) ++ r7)), (12, vS ((r1 ++ r3) ++ r7))] rfl ?_
  refine stage rfl rfl rfl rfl [0, 1, 3, 7, 0, 16, 63, 127, 0, 256, 895, 2047, 4095] [0, 1, 2, 3, 4, 5, 6, 7, 8, 9, 10, 11, 12] [] rfl rfl rfl (qc rfl rfl (s_u (o_fa fa80_0 rfl)) (qc rfl rfl (s_u (o_ld 0 sc23 rfl rfl rfl)) (qc rfl rfl (s_u (o_cv rfl (cIW Try.underlying23 Try.underlying22 a0.E))) (qc rfl rfl (s_u (o_callq ca17 rfl (wire_Num.ok (toW a0.E) r1 hr1))) (qc rfl rfl (s_u (o_fa fa80_1 rfl)) (qc rfl rfl (s_u (o_ld 0 sc9 rfl rfl rfl)) (qc rfl rfl (s_u (o_callq ca28 rfl (wire_Text.ok a0.Value r3 hr3))) (qc rfl rfl (s_u (o_bin rfl rfl (bS_add r1 r3 h5))) (qc rfl rfl (s_u (o_fa fa80_2 rfl)) (qc rfl rfl (s_u (o_ld 0 sc22 rfl rfl rfl)) (qc rfl rfl (s_u (o_callq ca17 rfl (wire_Num.ok a0.Version r7 hr7))) (qc rfl rfl (s_u (o_bin rfl rfl (bS_add (r1 ++ r3) r7 h9))) (qc rfl rfl (s_u (o_as rfl)) qn))))))))))))) en ?_
  intro _
  refine ex_sub (E' := [(2, vS ((r1 ++ r3) ++ r7))]) ⟨rfl, trivial⟩ ?_
  refine x_seq ?_
  refine c_ret ?_
  obtain rfl := Option.some.inj hm10
  refine ex_st (fun _ h => st_pk 1 [] (by decide) h) ?_
  exact x_r1 rfl (rv_t rfl) (Le.refl _) ⟨_, rfl, rfl, rfl, rfl⟩

def op_TakeReply (a0 : wire_Reader) : Option ((api_Reply × wire_Reader) ⊕ (Int × wire_Reader)) :=
  (wire_Reader_Num a0 65535).bind fun r1 => sm r1 (fun (ra3 : UInt64 × wire_Reader) => (wire_Reader_Text ra3.2 4096).bind fun r7 => sm r7 (fun (ra9 : Str × wire_Reader) => (wire_Reader_Num ra9.2 18446744073709551615).bind fun r13 => sm r13 (fun (ra15 : UInt64 × wire_Reader) => some (Sum.inl ((⟨i64 (ra3.1.toNat : Int), ra9.1, ra15.1⟩ : api_Reply), ra15.2))) fun ((rn16, ro17) : Int × wire_Reader) => some (Sum.inr (rn16, ro17))) fun ((rn10, ro11) : Int × wire_Reader) => some (Sum.inr (rn10, ro11))) fun ((rn4, ro5) : Int × wire_Reader) => some (Sum.inr (rn4, ro5))
theorem op_TakeReply.ok {G R F} (b0_ : Nat) (a0 : wire_Reader) (r : (api_Reply × wire_Reader) ⊕ (Int × wire_Reader)) (hm : op_TakeReply a0 = some r) : CO Try.prog 83 [pt b0_ 0] G R (Bk b0_ 101 (wire_Reader.c a0) :: F)
    (PK 99 r (fun (a : api_Reply × wire_Reader) u R' L' => u = .agg (api_Reply.c a.1).toArray ∧ R' = R ∧ L' = Bk b0_ 101 (wire_Reader.c a.2) :: F) (fun n (o : wire_Reader) R' L' => R' = R ∧ L' = Bk b0_ 101 (wire_Reader.c o) :: F)) := by
  unfold op_TakeReply at hm
  refine co_ofN (N := 11) Try.func83 rfl rfl ?_
  refine c_seq ?_
  refine c_reg ?_
  refine r_new (o_al ze80) fun b0 => ?_
  refine r_nil ?_
  refine x_seq ?_
  refine c_seq ?_
  obtain ⟨r1, hr1, hm2⟩ := bs hm
  rcases r1 with ra3 | ⟨rn4, ro5⟩
  · have hm6 := sm_l hm2
    obtain ⟨r7, hr7, hm8⟩ := bs hm6
    rcases r7 with ra9 | ⟨rn10, ro11⟩
    · have hm12 := sm_l hm8
      obtain ⟨r13, hr13, hm14⟩ := bs hm12
      rcases r13 with ra15 | ⟨rn16, ro17⟩
      · have hm18 := sm_l hm14
        refine c_reg ?_
        refine r_u (o_mv rfl) ?_
        refine rl_st (fun _ h => st_pk 2 [1, 0] (by decide) h) ?_
        refine r_c (s_w (o_callL ca30 rfl (wire_Reader_Num.ok b0_ a0 65535 (Sum.inl ra3) hr1) (fun _ _ _ h => h))) ?_
        refine r_u (o_cv rfl (cWI Try.underlying22 Try.underlying23 ra3.1)) ?_
        refine r_u (o_mv rfl) ?_
        refine r_c (s_w (o_callL ca31 rfl (wire_Reader_Text.ok b0_ ra3.2 4096 (Sum.inl ra9) hr7) (fun _ _ _ h => h))) ?_
        refine r_u (o_mv rfl) ?_
        refine r_c (s_w (o_callL ca30 rfl (wire_Reader_Num.ok b0_ ra9.2 18446744073709551615 (Sum.inl ra15) hr13) (fun _ _ _ h => h))) ?_
        refine r_u (o_bld [vI (i64 (ra3.1.toNat : Int)), vS ra9.1, vW ra15.1] rfl (fun _ => by kernel_rfl)) ?_
        refine rl_st (fun _ h => st_pk 2 [1, 0] (by decide) h) ?_
        refine r_u0 (o_stn ag80 rfl rfl rfl rfl rfl rfl rfl) ?_
        refine r_nil ?_
        refine x_seq ?_
        refine c_ret ?_
        obtain rfl := Option.some.inj hm18
        exact x_d1 rfl (rv_n 0 [vI (i64 (ra3.1.toNat : Int)), vS ra9.1, vW ra15.1] ag80 rfl rfl rfl rfl) (fun _ h => st_pk 2 [1] (by decide) h) (Le.refl _) (.inl ⟨_, rfl, _, rfl, rfl, rfl, rfl⟩)
      · have hm18 := sm_r hm14
        refine c_reg ?_
        refine r_u (o_mv rfl) ?_
        refine rl_st (fun _ h => st_pk 2 [1, 0] (by decide) h) ?_
        refine r_c (s_w (o_callL ca30 rfl (wire_Reader_Num.ok b0_ a0 65535 (Sum.inl ra3) hr1) (fun _ _ _ h => h))) ?_
        refine r_u (o_cv rfl (cWI Try.underlying22 Try.underlying23 ra3.1)) ?_
        refine r_u (o_mv rfl) ?_
        refine r_c (s_w (o_callL ca31 rfl (wire_Reader_Text.ok b0_ ra3.2 4096 (Sum.inl ra9) hr7) (fun _ _ _ h => h))) ?_
        refine r_u (o_mv rfl) ?_
        obtain rfl := Option.some.inj hm18
        exact r_sw (s_w (o_callR ca30 rfl (wire_Reader_Num.ok b0_ ra9.2 18446744073709551615 (Sum.inr (rn16, ro17)) hr13) (by rintro _ _ _ ⟨rfl, rfl⟩; exact (px_st (fun _ h => st_pk 2 [0] (by decide) h) (px_of (Le.refl _) (.inr ⟨_, rfl, _, rfl, rfl, rfl⟩)))))) (fun _ _ _ _ h => h.elim)
    · have hm12 := sm_r hm8
      refine c_reg ?_
      refine r_u (o_mv rfl) ?_
      refine rl_st (fun _ h => st_pk 2 [1, 0] (by decide) h) ?_
      refine r_c (s_w (o_callL ca30 rfl (wire_Reader_Num.ok b0_ a0 65535 (Sum.inl ra3) hr1) (fun _ _ _ h => h))) ?_
      refine r_u (o_cv rfl (cWI Try.underlying22 Try.underlying23 ra3.1)) ?_
      refine r_u (o_mv rfl) ?_
      obtain rfl := Option.some.inj hm12
      exact r_sw (s_w (o_callR ca31 rfl (wire_Reader_Text.ok b0_ ra3.2 4096 (Sum.inr (rn10, ro11)) hr7) (by rintro _ _ _ ⟨rfl, rfl⟩; exact (px_st (fun _ h => st_pk 2 [0] (by decide) h) (px_of (Le.refl _) (.inr ⟨_, rfl, _, rfl, rfl, rfl⟩)))))) (fun _ _ _ _ h => h.elim)
  · have hm6 := sm_r hm2
    refine c_reg ?_
    refine r_u (o_mv rfl) ?_
    refine rl_st (fun _ h => st_pk 2 [1, 0] (by decide) h) ?_
    obtain rfl := Option.some.inj hm6
    exact r_sw (s_w (o_callR ca30 rfl (wire_Reader_Num.ok b0_ a0 65535 (Sum.inr (rn4, ro5)) hr1) (by rintro _ _ _ ⟨rfl, rfl⟩; exact (px_st (fun _ h => st_pk 2 [0] (by decide) h) (px_of (Le.refl _) (.inr ⟨_, rfl, _, rfl, rfl, rfl⟩)))))) (fun _ _ _ _ h => h.elim)

def hawthornlaw10_reply_1 (a0 : wire_Reader) (a1 : api_Reply) : Option ((wire_Reader × api_Reply) ⊕ (Int × (wire_Reader × api_Reply))) :=
  (op_TakeReply a0).bind fun r0 => sm r0 (fun (ra2 : api_Reply × wire_Reader) => some (Sum.inl (ra2.2, ra2.1))) fun ((rn3, ro4) : Int × wire_Reader) => some (Sum.inr (rn3, (ro4, a1)))
theorem hawthornlaw10_reply_1.ok {G R F} (b0_ : Nat) (a0 : wire_Reader) (b1_ : Nat) (a1 : api_Reply) (r : (wire_Reader × api_Reply) ⊕ (Int × (wire_Reader × api_Reply))) (hm : hawthornlaw10_reply_1 a0 a1 = some r) : CO Try.prog 82 [pt b0_ 0, pt b1_ 0] G R (Bk b0_ 101 (wire_Reader.c a0) :: Bk b1_ 80 (api_Reply.c a1) :: F)
    (PK 99 r (fun (a : wire_Reader × api_Reply) u R' L' => u = .tuple #[] ∧ R' = R ∧ L' = Bk b0_ 101 (wire_Reader.c a.1) :: Bk b1_ 80 (api_Reply.c a.2) :: F) (fun n (o : wire_Reader × api_Reply) R' L' => R' = R ∧ L' = Bk b0_ 101 (wire_Reader.c o.1) :: Bk b1_ 80 (api_Reply.c o.2) :: F)) := by
  unfold hawthornlaw10_reply_1 at hm
  refine co_ofN (N := 5) Try.func82 rfl rfl ?_
  obtain ⟨r0, hr0, hm1⟩ := bs hm
  rcases r0 with ra2 | ⟨rn3, ro4⟩
  · have hm5 := sm_l hm1
    refine c_reg ?_
    refine r_u (o_mv rfl) ?_
    refine r_c (s_w (o_callL ca83 rfl (op_TakeReply.ok b0_ a0 (Sum.inl ra2) hr0) (fun _ _ _ h => h))) ?_
    refine rl_st (fun _ h => st_pk 2 [1, 0] (by decide) h) ?_
    refine r_u0 (o_stn ag80 rfl rfl rfl rfl rfl rfl rfl) ?_
    refine r_nil ?_
    refine x_end ?_
    obtain rfl := Option.some.inj hm5
    refine ex_st (fun _ h => st_pk 2 [1, 0] (by decide) h) ?_
    exact x_r0 rfl (Le.refl _) (.inl ⟨_, rfl, _, rfl, rfl, rfl, rfl⟩)
  · have hm5 := sm_r hm1
    refine c_reg ?_
    refine r_u (o_mv rfl) ?_
    obtain rfl := Option.some.inj hm5
    exact r_sw (s_w (o_callR ca83 rfl (op_TakeReply.ok b0_ a0 (Sum.inr (rn3, ro4)) hr0) (by rintro _ _ _ ⟨rfl, rfl⟩; exact (px_st (fun _ h => st_pk 2 [0, 1] (by decide) h) (px_of (Le.refl _) (.inr ⟨_, rfl, _, rfl, rfl, rfl⟩)))))) (fun _ _ _ _ h => h.elim)

def hawthornlaw10_reply (a0 : Str) : Option (api_Reply × Int) :=
  (hawthornlaw10_reply_1 (⟨a0⟩ : wire_Reader) (⟨0, [], 0⟩ : api_Reply)).bind fun r2 => sm r2 (fun (ra4 : wire_Reader × api_Reply) => some (ra4.2, (if ra4.1.s == [] then 0 else 5))) fun ((rn5, ro6) : Int × (wire_Reader × api_Reply)) => some (ro6.2, rn5)
theorem hawthornlaw10_reply.ok {G R F} (a0 : Str) (r : api_Reply × Int) (hm : hawthornlaw10_reply a0 = some r) : CO Try.prog 60 [vS a0] G R (F)
    (Ret fun u R' L' => u = .tuple #[.agg (api_Reply.c r.1).toArray, vI r.2] ∧ R' = R ∧ L' = F) := by
  unfold hawthornlaw10_reply at hm
  refine co_ofN (N := 12) Try.func60 rfl rfl ?_
  refine c_seq ?_
  refine c_reg ?_
  refine r_new (o_al ze80) fun b0 => ?_
  refine r_u (o_as rfl) ?_
  refine r_nil ?_
  refine x_seq ?_
  refine c_seq ?_
  refine c_reg ?_
  refine r_u (o_bld [vI 0, vS [], vW 0] rfl (fun _ => by kernel_rfl)) ?_
  refine r_new (o_al ze80) fun b1 => ?_
  refine r_u0 (o_stn ag80 rfl rfl rfl rfl rfl rfl rfl) ?_
  refine r_nil ?_
  refine x_seq ?_
  refine c_seq ?_
  obtain ⟨r2, hr2, hm3⟩ := bs hm
  rcases r2 with ra4 | ⟨rn5, ro6⟩
  · have hm7 := sm_l hm3
    refine c_reg ?_
    refine r_u (o_mv rfl) ?_
    refine r_u (o_mf rfl) ?_
    refine r_c (s_w (o_call ca27 rfl (wire_Read.okL (A := [Bk b1 80 [vI 0, vS [], vW 0]]) (M := [Bk b1 80 (api_Reply.c ra4.2)]) (s' := ra4.1.s) ca82 (fun b F => co_l (hawthornlaw10_reply_1.ok b (⟨a0⟩ : wire_Reader) b1 (⟨0, [], 0⟩ : api_Reply) (Sum.inl ra4) hr2) (fun _ _ _ h => h))))) ?_
    refine r_u (o_as rfl) ?_
    refine r_nil ?_
    refine x_seq ?_
    refine c_seq ?_
    refine c_reg ?_
    refine r_u (o_ldn 0 (api_Reply.c ra4.2) ag80 rfl rfl rfl rfl) ?_
    refine r_u (o_mv rfl) ?_
    refine rl_st (fun _ h => st_pk 2 [1, 0] (by decide) h) ?_
    refine r_u0 (o_stn ag80 rfl rfl rfl rfl rfl rfl rfl) ?_
    refine r_u (o_as rfl) ?_
    refine r_nil ?_
    refine x_seq ?_
    refine c_ret ?_
    obtain rfl := Option.some.inj hm7
    exact x_d2 rfl (rv_n 0 (api_Reply.c ra4.2) ag80 rfl rfl rfl rfl) (rv_t rfl) (fun _ h => st_pk 2 [] (by decide) h) (Le.refl _) ⟨_, rfl, rfl, rfl, rfl⟩
  · have hm7 := sm_r hm3
    refine c_reg ?_
    refine r_u (o_mv rfl) ?_
    refine r_u (o_mf rfl) ?_
    refine r_c (s_w (o_call ca27 rfl (wire_Read.okR (A := [Bk b1 80 [vI 0, vS [], vW 0]]) (M := [Bk b1 80 (api_Reply.c ro6.2)]) (cs := [vS ro6.1.s]) ca82 (fun b F => co_r (hawthornlaw10_reply_1.ok b (⟨a0⟩ : wire_Reader) b1 (⟨0, [], 0⟩ : api_Reply) (Sum.inr (rn5, ro6)) hr2) (fun _ _ h => h))))) ?_
    refine r_u (o_as rfl) ?_
    refine r_nil ?_
    refine x_seq ?_
    refine c_seq ?_
    refine c_reg ?_
    refine r_u (o_ldn 0 (api_Reply.c ro6.2) ag80 rfl rfl rfl rfl) ?_
    refine r_u (o_mv rfl) ?_
    refine rl_st (fun _ h => st_pk 2 [1, 0] (by decide) h) ?_
    refine r_u0 (o_stn ag80 rfl rfl rfl rfl rfl rfl rfl) ?_
    refine r_u (o_as rfl) ?_
    refine r_nil ?_
    refine x_seq ?_
    refine c_ret ?_
    obtain rfl := Option.some.inj hm7
    exact x_d2 rfl (rv_n 0 (api_Reply.c ro6.2) ag80 rfl rfl rfl rfl) (rv_t rfl) (fun _ h => st_pk 2 [] (by decide) h) (Le.refl _) ⟨_, rfl, rfl, rfl, rfl⟩

def hawthornref10_PutReply (a0 : api_Reply) : Option Str :=
  (hawthornref03_Num (toW a0.E)).bind fun r1 => (hawthornref03_Text a0.Value).bind fun r3 => if r1.length + r3.length ≤ maxS then (hawthornref03_Num a0.Version).bind fun r7 => if (r1 ++ r3).length + r7.length ≤ maxS then some ((r1 ++ r3) ++ r7) else none else none
theorem hawthornref10_PutReply.ok {G R F} (a0 : api_Reply) (r : Str) (hm : hawthornref10_PutReply a0 = some r) : CO Try.prog 62 [.agg (api_Reply.c a0).toArray] G R (F)
    (Ret fun u R' L' => u = vS r ∧ R' = R ∧ L' = F) := by
  unfold hawthornref10_PutReply at hm
  refine co_ofN (N := 15) Try.func62 rfl rfl ?_
  refine c_seq ?_
  refine c_reg ?_
  refine r_new (o_bx (api_Reply.c a0) rfl rfl) fun b0 => ?_
  refine r_u (o_as rfl) ?_
  refine r_nil ?_
  refine x_seq ?_
  refine c_seq ?_
  obtain ⟨r1, hr1, hm2⟩ := bs hm
  obtain ⟨r3, hr3, hm4⟩ := bs hm2
  obtain ⟨h5, hm6⟩ := ig hm4
  obtain ⟨r7, hr7, hm8⟩ := bs hm6
  obtain ⟨h9, hm10⟩ := ig hm8
  refine c_any mixed (effs := []) (V := []) ?_
  refine stage_ext [(0, pt b0 0), (1, vI a0.E), (2, vW (toW a0.E)), (3, vS r1), (4, pt b0 1), (5, vS a0.Value), (6, vS r3), (7, vS (r1 ++ r3)), (8, pt b0 2), (9, vW a0.Version), (10, vS r7), (11, vS ((r1 ++ r3) ++ r7)), (12, vS ((r1 ++ r3) ++ r7))] rfl ?_
  refine stage rfl rfl rfl rfl [0, 1, 3, 7, 0, 16, 63, 127, 0, 256, 895, 2047, 4095] [0, 1, 2, 3, 4, 5, 6, 7, 8, 9, 10, 11, 12] [] rfl rfl rfl (qc rfl rfl (s_u (o_fa fa80_0 rfl)) (qc rfl rfl (s_u (o_ld 0 sc23 rfl rfl rfl)) (qc rfl rfl (s_u (o_cv rfl (cIW Try.underlying23 Try.underlying22 a0.E))) (qc rfl rfl (s_u (o_callq ca19 rfl (hawthornref03_Num.ok (toW a0.E) r1 hr1))) (qc rfl rfl (s_u (o_fa fa80_1 rfl)) (qc rfl rfl (s_u (o_ld 0 sc9 rfl rfl rfl)) (qc rfl rfl (s_u (o_callq ca43 rfl (hawthornref03_Text.ok a0.Value r3 hr3))) (qc rfl rfl (s_u (o_bin rfl rfl (bS_add r1 r3 h5))) (qc rfl rfl (s_u (o_fa fa80_2 rfl)) (qc rfl rfl (s_u (o_ld 0 sc22 rfl rfl rfl)) (qc rfl rfl (s_u (o_callq ca19 rfl (hawthornref03_Num.ok a0.Version r7 hr7))) (qc rfl rfl (s_u (o_bin rfl rfl (bS_add (r1 ++ r3) r7 h9))) (qc rfl rfl (s_u (o_as rfl)) qn))))))))))))) en ?_
  intro _
  refine ex_sub (E' := [(2, vS ((r1 ++ r3) ++ r7))]) ⟨rfl, trivial⟩ ?_
  refine x_seq ?_
  refine c_ret ?_
  obtain rfl := Option.some.inj hm10
  refine ex_st (fun _ h => st_pk 1 [] (by decide) h) ?_
  exact x_r1 rfl (rv_t rfl) (Le.refl _) ⟨_, rfl, rfl, rfl, rfl⟩

def hawthornlaw10_OpRecords_1 (a0 : wire_Reader) (a1 : api_Record) : Option ((wire_Reader × api_Record) ⊕ (Int × (wire_Reader × api_Record))) :=
  (op_TakeRecord a0).bind fun r0 => sm r0 (fun (ra2 : api_Record × wire_Reader) => some (Sum.inl (ra2.2, ra2.1))) fun ((rn3, ro4) : Int × wire_Reader) => some (Sum.inr (rn3, (ro4, a1)))
theorem hawthornlaw10_OpRecords_1.ok {G R F} (b0_ : Nat) (a0 : wire_Reader) (b1_ : Nat) (a1 : api_Record) (r : (wire_Reader × api_Record) ⊕ (Int × (wire_Reader × api_Record))) (hm : hawthornlaw10_OpRecords_1 a0 a1 = some r) : CO Try.prog 65 [pt b0_ 0, pt b1_ 0] G R (Bk b0_ 101 (wire_Reader.c a0) :: Bk b1_ 78 (api_Record.c a1) :: F)
    (PK 99 r (fun (a : wire_Reader × api_Record) u R' L' => u = .tuple #[] ∧ R' = R ∧ L' = Bk b0_ 101 (wire_Reader.c a.1) :: Bk b1_ 78 (api_Record.c a.2) :: F) (fun n (o : wire_Reader × api_Record) R' L' => R' = R ∧ L' = Bk b0_ 101 (wire_Reader.c o.1) :: Bk b1_ 78 (api_Record.c o.2) :: F)) := by
  unfold hawthornlaw10_OpRecords_1 at hm
  refine co_ofN (N := 5) Try.func65 rfl rfl ?_
  obtain ⟨r0, hr0, hm1⟩ := bs hm
  rcases r0 with ra2 | ⟨rn3, ro4⟩
  · have hm5 := sm_l hm1
    refine c_reg ?_
    refine r_u (o_mv rfl) ?_
    refine r_c (s_w (o_callL ca66 rfl (op_TakeRecord.ok b0_ a0 (Sum.inl ra2) hr0) (fun _ _ _ h => h))) ?_
    refine rl_st (fun _ h => st_pk 2 [1, 0] (by decide) h) ?_
    refine r_u0 (o_stn ag78 rfl rfl rfl rfl rfl rfl rfl) ?_
    refine r_nil ?_
    refine x_end ?_
    obtain rfl := Option.some.inj hm5
    refine ex_st (fun _ h => st_pk 2 [1, 0] (by decide) h) ?_
    exact x_r0 rfl (Le.refl _) (.inl ⟨_, rfl, _, rfl, rfl, rfl, rfl⟩)
  · have hm5 := sm_r hm1
    refine c_reg ?_
    refine r_u (o_mv rfl) ?_
    obtain rfl := Option.some.inj hm5
    exact r_sw (s_w (o_callR ca66 rfl (op_TakeRecord.ok b0_ a0 (Sum.inr (rn3, ro4)) hr0) (by rintro _ _ _ ⟨rfl, rfl⟩; exact (px_st (fun _ h => st_pk 2 [0, 1] (by decide) h) (px_of (Le.refl _) (.inr ⟨_, rfl, _, rfl, rfl, rfl⟩)))))) (fun _ _ _ _ h => h.elim)

def hawthornref10_PutRecord (a0 : api_Record) : Option Str :=
  (hawthornref03_Num a0.Seq).bind fun r1 => (hawthornref03_Num a0.Now).bind fun r3 => if r1.length + r3.length ≤ maxS then (hawthornref03_Num a0.Session).bind fun r7 => if (r1 ++ r3).length + r7.length ≤ maxS then (hawthornref03_Num a0.Num).bind fun r11 => if ((r1 ++ r3) ++ r7).length + r11.length ≤ maxS then (hawthornref10_Put a0.Op).bind fun r15 => if (((r1 ++ r3) ++ r7) ++ r11).length + r15.length ≤ maxS then some ((((r1 ++ r3) ++ r7) ++ r11) ++ r15) else none else none else none else none
theorem hawthornref10_PutRecord.ok {G R F} (a0 : api_Record) (r : Str) (hm : hawthornref10_PutRecord a0 = some r) : CO Try.prog 67 [.agg (api_Record.c a0).toArray] G R (F)
    (Ret fun u R' L' => u = vS r ∧ R' = R ∧ L' = F) := by
  unfold hawthornref10_PutRecord at hm
  refine co_ofN (N := 22) Try.func67 rfl rfl ?_
  refine c_seq ?_
  refine c_reg ?_
  refine r_new (o_bx (api_Record.c a0) rfl rfl) fun b0 => ?_
  refine r_u (o_as rfl) ?_
  refine r_nil ?_
  refine x_seq ?_
  refine c_seq ?_
  obtain ⟨r1, hr1, hm2⟩ := bs hm
  obtain ⟨r3, hr3, hm4⟩ := bs hm2
  obtain ⟨h5, hm6⟩ := ig hm4
  obtain ⟨r7, hr7, hm8⟩ := bs hm6
  obtain ⟨h9, hm10⟩ := ig hm8
  obtain ⟨r11, hr11, hm12⟩ := bs hm10
  obtain ⟨h13, hm14⟩ := ig hm12
  obtain ⟨r15, hr15, hm16⟩ := bs hm14
  obtain ⟨h17, hm18⟩ := ig hm16
  refine c_any mixed (effs := []) (V := []) ?_
  refine stage_ext [(0, pt b0 0), (1, vW a0.Seq), (2, vS r1), (3, pt b0 1), (4, vW a0.Now), (5, vS r3), (6, vS (r1 ++ r3)), (7, pt b0 2), (8, vW a0.Session), (9, vS r7), (10, vS ((r1 ++ r3) ++ r7)), (11, pt b0 3), (12, vW a0.Num), (13, vS r11), (14, vS (((r1 ++ r3) ++ r7) ++ r11)), (15, pt b0 4), (16, .agg (api_Op.c a0.Op).toArray), (17, vS r15), (18, vS ((((r1 ++ r3) ++ r7) ++ r11) ++ r15)), (19, vS ((((r1 ++ r3) ++ r7) ++ r11) ++ r15))] rfl ?_
  refine stage rfl rfl rfl rfl [0, 1, 3, 0, 8, 31, 63, 0, 128, 447, 1023, 0, 2048, 7103, 16383, 0, 32768, 113599, 262143, 524287] [0, 1, 2, 3, 4, 5, 6, 7, 8, 9, 10, 11, 12, 13, 14, 15, 16, 17, 18, 19] [] rfl rfl rfl (qc rfl rfl (s_u (o_fa fa78_0 rfl)) (qc rfl rfl (s_u (o_ld 0 sc22 rfl rfl rfl)) (qc rfl rfl (s_u (o_callq ca19 rfl (hawthornref03_Num.ok a0.Seq r1 hr1))) (qc rfl rfl (s_u (o_fa fa78_1 rfl)) (qc rfl rfl (s_u (o_ld 0 sc22 rfl rfl rfl)) (qc rfl rfl (s_u (o_callq ca19 rfl (hawthornref03_Num.ok a0.Now r3 hr3))) (qc rfl rfl (s_u (o_bin rfl rfl (bS_add r1 r3 h5))) (qc rfl rfl (s_u (o_fa fa78_2 rfl)) (qc rfl rfl (s_u (o_ld 0 sc22 rfl rfl rfl)) (qc rfl rfl (s_u (o_callq ca19 rfl (hawthornref03_Num.ok a0.Session r7 hr7))) (qc rfl rfl (s_u (o_bin rfl rfl (bS_add (r1 ++ r3) r7 h9))) (qc rfl rfl (s_u (o_fa fa78_3 rfl)) (qc rfl rfl (s_u (o_ld 0 sc22 rfl rfl rfl)) (qc rfl rfl (s_u (o_callq ca19 rfl (hawthornref03_Num.ok a0.Num r11 hr11))) (qc rfl rfl (s_u (o_bin rfl rfl (bS_add ((r1 ++ r3) ++ r7) r11 h13))) (qc rfl rfl (s_u (o_fa fa78_4 rfl)) (qc rfl rfl (s_u (o_ldn 0 (api_Op.c a0.Op) ag72 rfl rfl rfl rfl)) (qc rfl rfl (s_u (o_callq ca59 rfl (hawthornref10_Put.ok a0.Op r15 hr15))) (qc rfl rfl (s_u (o_bin rfl rfl (bS_add (((r1 ++ r3) ++ r7) ++ r11) r15 h17))) (qc rfl rfl (s_u (o_as rfl)) qn)))))))))))))))))))) en ?_
  intro _
  refine ex_sub (E' := [(2, vS ((((r1 ++ r3) ++ r7) ++ r11) ++ r15))]) ⟨rfl, trivial⟩ ?_
  refine x_seq ?_
  refine c_ret ?_
  obtain rfl := Option.some.inj hm18
  refine ex_st (fun _ h => st_pk 1 [] (by decide) h) ?_
  exact x_r1 rfl (rv_t rfl) (Le.refl _) ⟨_, rfl, rfl, rfl, rfl⟩

def hawthornlaw10_OpRecords (a0 : api_Record) (a1 : api_Reply) : Option Bool :=
  (hawthornlaw10_cut a0.Op).bind fun r2 => Option.bind (if decide (4096 < (a1.Value.length : Int)) then (sl a1.Value 0 4096).bind fun s55 => some s55 else some a1.Value) fun p4 => Option.bind (if (decide (a1.E < 0) || decide (65535 < a1.E)) then some 5 else some a1.E) fun p8 => (op_PutReply (⟨p8, p4, a1.Version⟩ : api_Reply)).bind fun r12 => (hawthornlaw10_reply r12).bind fun r14 => (hawthornlaw10_awake).bind fun r17 => Option.bind (if r17 then (hawthornref10_PutReply (⟨p8, p4, a1.Version⟩ : api_Reply)).bind fun r49 => some (((r12 != r49) || (r14.2 != 0)) || !(decide (r14.1 = (⟨p8, p4, a1.Version⟩ : api_Reply)))) else some true) fun p19 => if p19 then some false else if !(hawthornref10_Check r2) then some true else (op_PutRecord (⟨a0.Seq, a0.Now, a0.Session, a0.Num, r2⟩ : api_Record)).bind fun r27 => (op_Get r27).bind fun r29 => (hawthornlaw10_OpRecords_1 (⟨r27⟩ : wire_Reader) (⟨0, 0, 0, 0, (⟨0, [], [], 0, 0⟩ : api_Op)⟩ : api_Record)).bind fun r33 => Option.bind (sm r33 (fun (ra43 : wire_Reader × api_Record) => some ((if ra43.1.s == [] then 0 else 5), ra43.2)) fun ((rn44, ro45) : Int × (wire_Reader × api_Record)) => some (rn44, ro45.2)) fun p35 => if ((p35.1 != 0) || !(decide (p35.2 = (⟨a0.Seq, a0.Now, a0.Session, a0.Num, r2⟩ : api_Record)))) then some false else (hawthornref10_PutRecord (⟨a0.Seq, a0.Now, a0.Session, a0.Num, r2⟩ : api_Record)).bind fun r41 => some (((r27 == r41) && (r29.2 == 0)) && decide (r29.1 = (⟨a0.Seq, a0.Now, a0.Session, a0.Num, r2⟩ : api_Record)))
theorem hawthornlaw10_OpRecords.ok {G R F} (a0 : api_Record) (a1 : api_Reply) (r : Bool) (hm : hawthornlaw10_OpRecords a0 a1 = some r) : CO Try.prog 13 [.agg (api_Record.c a0).toArray, .agg (api_Reply.c a1).toArray] G R (F)
    (Ret fun u R' L' => u = vB r ∧ R' = R ∧ L' = F) := by
  unfold hawthornlaw10_OpRecords at hm
  refine co_ofN (N := 92) Try.func13 rfl rfl ?_
  refine c_seq ?_
  refine c_reg ?_
  refine r_new (o_bx (api_Record.c a0) rfl rfl) fun b0 => ?_
  refine r_new (o_bx (api_Reply.c a1) rfl rfl) fun b1 => ?_
  refine r_u (o_as rfl) ?_
  refine r_nil ?_
  refine x_seq ?_
  refine c_seq ?_
  refine c_reg ?_
  refine r_u (o_fa fa78_4 rfl) ?_
  refine r_u (o_ldn 1 (api_Op.c a0.Op) ag72 rfl rfl rfl rfl) ?_
  obtain ⟨r2, hr2, hm3⟩ := bs hm
  refine r_u (o_callq ca52 rfl (hawthornlaw10_cut.ok a0.Op r2 hr2)) ?_
  refine r_u (o_fa fa78_4 rfl) ?_
  refine rl_st (fun _ h => st_pk 2 [1, 0] (by decide) h) ?_
  refine r_u0 (o_stn ag72 rfl rfl rfl rfl rfl rfl rfl) ?_
  refine r_nil ?_
  refine x_seq ?_
  refine c_seq ?_
  refine c_seq ?_
  refine c_reg ?_
  refine r_u (o_fa fa80_1 rfl) ?_
  refine r_u (o_ld 1 sc9 rfl rfl rfl) ?_
  refine r_u (o_lenS Try.underlying9 rfl) ?_
  refine r_u (o_bin rfl rfl (bI_gt (a1.Value.length : Int) 4096)) ?_
  refine r_nil ?_
  refine x_seq ?_
  obtain ⟨p4, hp5, hm6⟩ := bs hm3
  refine cd_join (E' := [(2, pt b0 0), (3, pt b1 0)]) (L' := Bk b1 80 [vI a1.E, vS p4, vW a1.Version] :: Bk b0 78 [vW a0.Seq, vW a0.Now, vW a0.Session, vW a0.Num, vI r2.Kind, vS r2.Key, vS r2.Value, vW r2.TTL, vW r2.Version] :: F) ?_ fun K7 => ?_
  · refine x_seq ?_
    refine c_seq ?_
    refine c_seq ?_
    refine c_reg ?_
    refine r_u (o_fa fa80_0 rfl) ?_
    refine r_u (o_ld 0 sc23 rfl rfl rfl) ?_
    refine r_u (o_bin rfl rfl (bI_lt a1.E 0)) ?_
    refine r_u (o_mv rfl) ?_
    refine r_s (s_gf rfl rfl fun g => o_fa fa80_0 rfl) ?_
    refine r_s (s_gf rfl rfl fun g => o_ld 0 sc23 (evg rfl g) rfl rfl) ?_
    refine r_s (s_gf rfl rfl fun g => o_bin (evg rfl g) rfl (bI_gt a1.E 65535)) ?_
    refine r_u (o_or rfl rfl) ?_
    refine r_nil ?_
    refine x_seq ?_
    obtain ⟨p8, hp9, hm10⟩ := bs hm6
    refine cd_join (E' := [(2, pt b0 0), (3, pt b1 0)]) (L' := Bk b1 80 [vI p8, vS p4, vW a1.Version] :: Bk b0 78 [vW a0.Seq, vW a0.Now, vW a0.Session, vW a0.Num, vI r2.Kind, vS r2.Key, vS r2.Value, vW r2.TTL, vW r2.Version] :: F) ?_ fun K11 => ?_
    · refine x_seq ?_
      refine c_seq ?_
      refine c_reg ?_
      refine r_u (o_ldn 0 [vI p8, vS p4, vW a1.Version] ag80 rfl rfl rfl rfl) ?_
      obtain ⟨r12, hr12, hm13⟩ := bs hm10
      refine r_u (o_callq ca61 rfl (op_PutReply.ok (⟨p8, p4, a1.Version⟩ : api_Reply) r12 hr12)) ?_
      obtain ⟨r14, hr14, hm15⟩ := bs hm13
      refine r_u (o_callq ca60 rfl (hawthornlaw10_reply.ok r12 r14 hr14)) ?_
      refine r_u (o_mv rfl) ?_
      refine r_u (o_ext rfl rfl) ?_
      refine r_u (o_ext rfl rfl) ?_
      refine r_new (o_al ze80) fun b16 => ?_
      refine r_u0 (o_stn ag80 rfl rfl rfl rfl rfl rfl rfl) ?_
      refine r_u (o_as rfl) ?_
      refine r_nil ?_
      refine x_seq ?_
      refine c_seq ?_
      refine c_seq ?_
      obtain ⟨r17, hr17, hm18⟩ := bs hm15
      obtain ⟨p19, hp20, hm21⟩ := bs hm18
      refine cd_join (E' := [(2, pt b0 0), (55, vB p19)]) (L' := Bk b16 80 (api_Reply.c r14.1) :: Bk b1 80 [vI p8, vS p4, vW a1.Version] :: Bk b0 78 [vW a0.Seq, vW a0.Now, vW a0.Session, vW a0.Num, vI r2.Kind, vS r2.Key, vS r2.Value, vW r2.TTL, vW r2.Version] :: F) ?_ fun K22 => ?_
      · refine x_seq ?_
        refine c_if (b := p19) rfl (fun h23 => ?_) fun h23 => ?_
        · have hm24 := ift hm21 h23
          refine c_seq ?_
          refine c_reg ?_
          refine r_u (o_as rfl) ?_
          refine r_nil ?_
          refine x_seq ?_
          refine c_ret ?_
          obtain rfl := Option.some.inj hm24
          refine ex_st (fun _ h => st_pk 3 [] (by decide) h) ?_
          exact x_r1 rfl (rv_t rfl) (Le.refl _) ⟨_, rfl, rfl, rfl, rfl⟩
        · have hm24 := iff_ hm21 h23
          refine c_skip ?_
          refine x_seq ?_
          refine c_seq ?_
          refine c_seq ?_
          refine c_reg ?_
          refine r_u (o_fa fa78_4 rfl) ?_
          refine r_u (o_ldn 2 (api_Op.c r2) ag72 rfl rfl rfl rfl) ?_
          refine r_u (o_callq ca55 rfl (hawthornref10_Check.ok r2 _ rfl)) ?_
          refine r_u (o_not rfl) ?_
          refine r_nil ?_
          refine x_seq ?_
          refine c_if (b := !(hawthornref10_Check r2)) rfl (fun h25 => ?_) fun h25 => ?_
          · have hm26 := ift hm24 h25
            refine c_seq ?_
            refine c_reg ?_
            refine r_u (o_as rfl) ?_
            refine r_nil ?_
            refine x_seq ?_
            refine c_ret ?_
            obtain rfl := Option.some.inj hm26
            refine ex_st (fun _ h => st_pk 3 [] (by decide) h) ?_
            exact x_r1 rfl (rv_t rfl) (Le.refl _) ⟨_, rfl, rfl, rfl, rfl⟩
          · have hm26 := iff_ hm24 h25
            refine c_skip ?_
            refine x_seq ?_
            refine c_seq ?_
            refine c_reg ?_
            refine r_u (o_ldn 2 [vW a0.Seq, vW a0.Now, vW a0.Session, vW a0.Num, vI r2.Kind, vS r2.Key, vS r2.Value, vW r2.TTL, vW r2.Version] ag78 rfl rfl rfl rfl) ?_
            obtain ⟨r27, hr27, hm28⟩ := bs hm26
            refine r_u (o_callq ca64 rfl (op_PutRecord.ok (⟨a0.Seq, a0.Now, a0.Session, a0.Num, r2⟩ : api_Record) r27 hr27)) ?_
            obtain ⟨r29, hr29, hm30⟩ := bs hm28
            refine r_u (o_callq ca63 rfl (op_Get.ok r27 r29 hr29)) ?_
            refine r_u (o_mv rfl) ?_
            refine r_u (o_ext rfl rfl) ?_
            refine r_u (o_ext rfl rfl) ?_
            refine r_new (o_al ze78) fun b31 => ?_
            refine r_u0 (o_stn ag78 rfl rfl rfl rfl rfl rfl rfl) ?_
            refine r_u (o_as rfl) ?_
            refine r_nil ?_
            refine x_seq ?_
            refine c_seq ?_
            refine c_reg ?_
            refine r_u (o_bld [vW 0, vW 0, vW 0, vW 0, vI 0, vS [], vS [], vW 0, vW 0] rfl (fun _ => by kernel_rfl)) ?_
            refine r_new (o_al ze78) fun b32 => ?_
            refine r_u0 (o_stn ag78 rfl rfl rfl rfl rfl rfl rfl) ?_
            refine r_nil ?_
            refine x_seq ?_
            refine c_seq ?_
            refine c_seq ?_
            obtain ⟨r33, hr33, hm34⟩ := bs hm30
            obtain ⟨p35, hp36, hm37⟩ := bs hm34
            refine cd_join (E' := [(2, pt b0 0), (7, pt b31 0), (8, vI r29.2), (9, pt b32 0), (10, vI p35.1)]) (L' := Bk b32 78 (api_Record.c p35.2) :: Bk b31 78 (api_Record.c r29.1) :: Bk b16 80 (api_Reply.c r14.1) :: Bk b1 80 [vI p8, vS p4, vW a1.Version] :: Bk b0 78 [vW a0.Seq, vW a0.Now, vW a0.Session, vW a0.Num, vI r2.Kind, vS r2.Key, vS r2.Value, vW r2.TTL, vW r2.Version] :: F) ?_ fun K38 => ?_
            · refine x_seq ?_
              refine c_seq ?_
              refine c_reg ?_
              refine r_u (o_mv rfl) ?_
              refine r_u (o_bin rfl rfl (bI_ne p35.1 0)) ?_
              refine r_u (o_mv rfl) ?_
              refine r_s (s_gf rfl rfl fun g => o_ldn 0 (api_Record.c p35.2) ag78 rfl rfl rfl rfl) ?_
              refine r_s (s_gf rfl rfl fun g => o_ldn 4 [vW a0.Seq, vW a0.Now, vW a0.Session, vW a0.Num, vI r2.Kind, vS r2.Key, vS r2.Value, vW r2.TTL, vW r2.Version] ag78 rfl rfl rfl rfl) ?_
              refine r_s (s_gf rfl rfl fun g => o_bin (evg rfl g) (evg rfl g) (api_Record.bne_78 p35.2 (⟨a0.Seq, a0.Now, a0.Session, a0.Num, r2⟩ : api_Record))) ?_
              refine r_u (o_or rfl rfl) ?_
              refine r_nil ?_
              refine x_seq ?_
              refine c_if (b := ((p35.1 != 0) || !(decide (p35.2 = (⟨a0.Seq, a0.Now, a0.Session, a0.Num, r2⟩ : api_Record))))) rfl (fun h39 => ?_) fun h39 => ?_
              · have hm40 := ift hm37 h39
                refine c_seq ?_
                refine c_reg ?_
                refine r_u (o_as rfl) ?_
                refine r_nil ?_
                refine x_seq ?_
                refine c_ret ?_
                obtain rfl := Option.some.inj hm40
                refine ex_st (fun _ h => st_pk 5 [] (by decide) h) ?_
                exact x_r1 rfl (rv_t rfl) (Le.refl _) ⟨_, rfl, rfl, rfl, rfl⟩
              · have hm40 := iff_ hm37 h39
                refine c_skip ?_
                refine x_seq ?_
                refine c_seq ?_
                obtain ⟨r41, hr41, hm42⟩ := bs hm40
                refine c_any mixed (effs := []) (V := []) ?_
                refine stage_ext [(0, .agg [vW a0.Seq, vW a0.Now, vW a0.Session, vW a0.Num, vI r2.Kind, vS r2.Key, vS r2.Value, vW r2.TTL, vW r2.Version].toArray), (1, vS r27), (2, .agg [vW a0.Seq, vW a0.Now, vW a0.Session, vW a0.Num, vI r2.Kind, vS r2.Key, vS r2.Value, vW r2.TTL, vW r2.Version].toArray), (3, vS r41), (4, vB (r27 == r41)), (5, vB (r27 == r41)), (6, gv (r27 == r41) (vI r29.2)), (7, gv (r27 == r41) (vB (r29.2 == 0))), (8, vB ((r27 == r41) && (r29.2 == 0))), (9, vB ((r27 == r41) && (r29.2 == 0))), (10, gv ((r27 == r41) && (r29.2 == 0)) (.agg (api_Record.c r29.1).toArray)), (11, gv ((r27 == r41) && (r29.2 == 0)) (.agg [vW a0.Seq, vW a0.Now, vW a0.Session, vW a0.Num, vI r2.Kind, vS r2.Key, vS r2.Value, vW r2.TTL, vW r2.Version].toArray)), (12, gv ((r27 == r41) && (r29.2 == 0)) (vB (decide (r29.1 = (⟨a0.Seq, a0.Now, a0.Session, a0.Num, r2⟩ : api_Record))))), (13, vB (((r27 == r41) && (r29.2 == 0)) && decide (r29.1 = (⟨a0.Seq, a0.Now, a0.Session, a0.Num, r2⟩ : api_Record)))), (14, vB (((r27 == r41) && (r29.2 == 0)) && decide (r29.1 = (⟨a0.Seq, a0.Now, a0.Session, a0.Num, r2⟩ : api_Record))))] rfl ?_
                refine stage rfl rfl rfl rfl [0, 1, 0, 7, 15, 31, 63, 127, 255, 511, 1023, 1023, 4095, 8191, 16383] [0, 1, 2, 3, 4, 5, 6, 7, 8, 9, 10, 11, 12, 13, 14] [] rfl rfl rfl (qc rfl rfl (s_u (o_ldn 4 [vW a0.Seq, vW a0.Now, vW a0.Session, vW a0.Num, vI r2.Kind, vS r2.Key, vS r2.Value, vW r2.TTL, vW r2.Version] ag78 rfl rfl rfl rfl)) (qc rfl rfl (s_u (o_callq ca64 rfl (op_PutRecord.ok (⟨a0.Seq, a0.Now, a0.Session, a0.Num, r2⟩ : api_Record) r27 hr27))) (qc rfl rfl (s_u (o_ldn 4 [vW a0.Seq, vW a0.Now, vW a0.Session, vW a0.Num, vI r2.Kind, vS r2.Key, vS r2.Value, vW r2.TTL, vW r2.Version] ag78 rfl rfl rfl rfl)) (qc rfl rfl (s_u (o_callq ca67 rfl (hawthornref10_PutRecord.ok (⟨a0.Seq, a0.Now, a0.Session, a0.Num, r2⟩ : api_Record) r41 hr41))) (qc rfl rfl (s_u (o_bin rfl rfl (bS_eq r27 r41))) (qc rfl rfl (s_u (o_mv rfl)) (qc rfl rfl (s_gt rfl rfl fun g => o_mv rfl) (qc rfl rfl (s_gt rfl rfl fun g => o_bin (evg rfl g) rfl (bI_eq r29.2 0)) (qc rfl rfl (s_u (o_and rfl rfl)) (qc rfl rfl (s_u (o_mv rfl)) (qc rfl rfl (s_gt rfl rfl fun g => o_ldn 1 (api_Record.c r29.1) ag78 rfl rfl rfl rfl) (qc rfl rfl (s_gt rfl rfl fun g => o_ldn 4 [vW a0.Seq, vW a0.Now, vW a0.Session, vW a0.Num, vI r2.Kind, vS r2.Key, vS r2.Value, vW r2.TTL, vW r2.Version] ag78 rfl rfl rfl rfl) (qc rfl rfl (s_gt rfl rfl fun g => o_bin (evg rfl g) (evg rfl g) (api_Record.beq_78 r29.1 (⟨a0.Seq, a0.Now, a0.Session, a0.Num, r2⟩ : api_Record))) (qc rfl rfl (s_u (o_and rfl rfl)) (qc rfl rfl (s_u (o_as rfl)) qn))))))))))))))) en ?_
                intro _
                refine ex_sub (E' := [(4, vB (((r27 == r41) && (r29.2 == 0)) && decide (r29.1 = (⟨a0.Seq, a0.Now, a0.Session, a0.Num, r2⟩ : api_Record))))]) ⟨rfl, trivial⟩ ?_
                refine x_seq ?_
                refine c_ret ?_
                obtain rfl := Option.some.inj hm42
                refine ex_st (fun _ h => st_pk 5 [] (by decide) h) ?_
                exact x_r1 rfl (rv_t rfl) (Le.refl _) ⟨_, rfl, rfl, rfl, rfl⟩
            · rcases r33 with ra43 | ⟨rn44, ro45⟩
              · have hm46 := sm_l hp36
                refine c_reg ?_
                refine r_u (o_ldn 4 [vW a0.Seq, vW a0.Now, vW a0.Session, vW a0.Num, vI r2.Kind, vS r2.Key, vS r2.Value, vW r2.TTL, vW r2.Version] ag78 rfl rfl rfl rfl) ?_
                refine r_u (o_callq ca64 rfl (op_PutRecord.ok (⟨a0.Seq, a0.Now, a0.Session, a0.Num, r2⟩ : api_Record) r27 hr27)) ?_
                refine r_u (o_mf rfl) ?_
                refine r_c (s_w (o_call ca27 rfl (wire_Read.okL (A := [Bk b32 78 [vW 0, vW 0, vW 0, vW 0, vI 0, vS [], vS [], vW 0, vW 0]]) (M := [Bk b32 78 (api_Record.c ra43.2)]) (s' := ra43.1.s) ca65 (fun b F => co_l (hawthornlaw10_OpRecords_1.ok b (⟨r27⟩ : wire_Reader) b32 (⟨0, 0, 0, 0, (⟨0, [], [], 0, 0⟩ : api_Op)⟩ : api_Record) (Sum.inl ra43) hr33) (fun _ _ _ h => h))))) ?_
                refine r_u (o_as rfl) ?_
                refine r_nil ?_
                obtain rfl := Option.some.inj hm46
                exact x_sub (K38) ⟨rfl, rfl, rfl, rfl, rfl, trivial⟩ (fun _ h => st_pk 5 [0, 1, 2, 3, 4] (by decide) h)
              · have hm46 := sm_r hp36
                refine c_reg ?_
                refine r_u (o_ldn 4 [vW a0.Seq, vW a0.Now, vW a0.Session, vW a0.Num, vI r2.Kind, vS r2.Key, vS r2.Value, vW r2.TTL, vW r2.Version] ag78 rfl rfl rfl rfl) ?_
                refine r_u (o_callq ca64 rfl (op_PutRecord.ok (⟨a0.Seq, a0.Now, a0.Session, a0.Num, r2⟩ : api_Record) r27 hr27)) ?_
                refine r_u (o_mf rfl) ?_
                refine r_c (s_w (o_call ca27 rfl (wire_Read.okR (A := [Bk b32 78 [vW 0, vW 0, vW 0, vW 0, vI 0, vS [], vS [], vW 0, vW 0]]) (M := [Bk b32 78 (api_Record.c ro45.2)]) (cs := [vS ro45.1.s]) ca65 (fun b F => co_r (hawthornlaw10_OpRecords_1.ok b (⟨r27⟩ : wire_Reader) b32 (⟨0, 0, 0, 0, (⟨0, [], [], 0, 0⟩ : api_Op)⟩ : api_Record) (Sum.inr (rn44, ro45)) hr33) (fun _ _ h => h))))) ?_
                refine r_u (o_as rfl) ?_
                refine r_nil ?_
                obtain rfl := Option.some.inj hm46
                exact x_sub (K38) ⟨rfl, rfl, rfl, rfl, rfl, trivial⟩ (fun _ h => st_pk 5 [0, 1, 2, 3, 4] (by decide) h)
      · refine cd_by r17 (fun h47 => ?_) fun h47 => ?_
        · have hm48 := ift hp20 h47
          obtain ⟨r49, hr49, hm50⟩ := bs hm48
          refine c_any mixed (effs := []) (V := []) ?_
          refine stage_ext [(0, vB r17), (1, vB (!r17)), (2, vB (!r17)), (3, .agg [vI p8, vS p4, vW a1.Version].toArray), (4, vS r12), (5, .agg [vI p8, vS p4, vW a1.Version].toArray), (6, vS r49), (7, vB (r12 != r49)), (8, vB (r12 != r49)), (9, vB (r12 != r49)), (10, gv (!(r12 != r49)) (vI r14.2)), (11, gv (!(r12 != r49)) (vB (r14.2 != 0))), (12, vB ((r12 != r49) || (r14.2 != 0))), (13, vB ((r12 != r49) || (r14.2 != 0))), (14, gv (!((r12 != r49) || (r14.2 != 0))) (.agg (api_Reply.c r14.1).toArray)), (15, gv (!((r12 != r49) || (r14.2 != 0))) (.agg [vI p8, vS p4, vW a1.Version].toArray)), (16, gv (!((r12 != r49) || (r14.2 != 0))) (vB (!(decide (r14.1 = (⟨p8, p4, a1.Version⟩ : api_Reply)))))), (17, vB (((r12 != r49) || (r14.2 != 0)) || !(decide (r14.1 = (⟨p8, p4, a1.Version⟩ : api_Reply)))))] rfl ?_
          refine stage rfl rfl rfl rfl [0, 1, 3, 7, 15, 7, 63, 127, 255, 511, 1023, 2047, 4095, 8191, 16383, 16383, 65535, 131071] [0, 1, 2, 3, 4, 5, 6, 7, 8, 9, 10, 11, 12, 13, 14, 15, 16, 17] [] rfl rfl rfl (qc rfl rfl (s_u (o_callq ca53 rfl (hawthornlaw10_awake.ok r17 hr17))) (qc rfl rfl (s_u (o_not rfl)) (qc rfl rfl (s_u (o_mv rfl)) (qc rfl rfl (s_y rfl rfl (nbf h47) (o_ldn 1 [vI p8, vS p4, vW a1.Version] ag80 rfl rfl rfl rfl)) (qc rfl rfl (s_y rfl rfl (nbf h47) (o_callq ca61 rfl (op_PutReply.ok (⟨p8, p4, a1.Version⟩ : api_Reply) r12 hr12))) (qc rfl rfl (s_y rfl rfl (nbf h47) (o_ldn 1 [vI p8, vS p4, vW a1.Version] ag80 rfl rfl rfl rfl)) (qc rfl rfl (s_y rfl rfl (nbf h47) (o_callq ca62 rfl (hawthornref10_PutReply.ok (⟨p8, p4, a1.Version⟩ : api_Reply) r49 hr49))) (qc rfl rfl (s_y rfl rfl (nbf h47) (o_bin rfl rfl (bS_ne r12 r49))) (qc rfl rfl (s_u (o_pf rfl (nbf h47) rfl)) (qc rfl rfl (s_u (o_mv rfl)) (qc rfl rfl (s_gf rfl rfl fun g => o_mv rfl) (qc rfl rfl (s_gf rfl rfl fun g => o_bin (evg rfl g) rfl (bI_ne r14.2 0)) (qc rfl rfl (s_u (o_or rfl rfl)) (qc rfl rfl (s_u (o_mv rfl)) (qc rfl rfl (s_gf rfl rfl fun g => o_ldn 0 (api_Reply.c r14.1) ag80 rfl rfl rfl rfl) (qc rfl rfl (s_gf rfl rfl fun g => o_ldn 1 [vI p8, vS p4, vW a1.Version] ag80 rfl rfl rfl rfl) (qc rfl rfl (s_gf rfl rfl fun g => o_bin (evg rfl g) (evg rfl g) (api_Reply.bne_80 r14.1 (⟨p8, p4, a1.Version⟩ : api_Reply))) (qc rfl rfl (s_u (o_or rfl rfl)) qn)))))))))))))))))) en ?_
          intro _
          refine ex_sub (E' := [(2, pt b0 0), (55, vB (((r12 != r49) || (r14.2 != 0)) || !(decide (r14.1 = (⟨p8, p4, a1.Version⟩ : api_Reply)))))]) ⟨rfl, rfl, trivial⟩ ?_
          obtain rfl := Option.some.inj hm50
          exact x_sub (K22) ⟨rfl, rfl, trivial⟩ (fun _ h => st_pk 3 [0, 1, 2] (by decide) h)
        · have hm48 := iff_ hp20 h47
          refine c_any mixed (effs := []) (V := []) ?_
          refine stage_ext [(0, vB r17), (1, vB (!r17)), (2, vB (!r17)), (3, undef), (4, undef), (5, undef), (6, undef), (7, undef), (8, vB true), (9, vB true), (10, undef), (11, undef), (12, vB true), (13, vB true), (14, undef), (15, undef), (16, undef), (17, vB true)] rfl ?_
          refine stage rfl rfl rfl rfl [0, 1, 3, 7, 15, 7, 63, 127, 255, 511, 1023, 2047, 4095, 8191, 16383, 16383, 65535, 131071] [0, 1, 2, 3, 4, 5, 6, 7, 8, 9, 10, 11, 12, 13, 14, 15, 16, 17] [] rfl rfl rfl (qc rfl rfl (s_u (o_callq ca53 rfl (hawthornlaw10_awake.ok r17 hr17))) (qc rfl rfl (s_u (o_not rfl)) (qc rfl rfl (s_u (o_mv rfl)) (qc rfl rfl (s_n rfl rfl (nbt h47)) (qc rfl rfl (s_n rfl rfl (nbt h47)) (qc rfl rfl (s_n rfl rfl (nbt h47)) (qc rfl rfl (s_n rfl rfl (nbt h47)) (qc rfl rfl (s_n rfl rfl (nbt h47)) (qc rfl rfl (s_u (o_pt rfl (nbt h47) rfl)) (qc rfl rfl (s_u (o_mv rfl)) (qc rfl rfl (s_n rfl rfl rfl) (qc rfl rfl (s_n rfl rfl rfl) (qc rfl rfl (s_u (o_pt rfl rfl rfl)) (qc rfl rfl (s_u (o_mv rfl)) (qc rfl rfl (s_n rfl rfl rfl) (qc rfl rfl (s_n rfl rfl rfl) (qc rfl rfl (s_n rfl rfl rfl) (qc rfl rfl (s_u (o_pt rfl rfl rfl)) qn)))))))))))))))))) en ?_
          intro _
          refine ex_sub (E' := [(2, pt b0 0), (55, vB true)]) ⟨rfl, rfl, trivial⟩ ?_
          obtain rfl := Option.some.inj hm48
          exact x_sub (K22) ⟨rfl, rfl, trivial⟩ (fun _ h => st_pk 3 [0, 1, 2] (by decide) h)
    · refine c_if (b := (decide (a1.E < 0) || decide (65535 < a1.E))) rfl (fun h51 => ?_) fun h51 => ?_
      · have hm52 := ift hp9 h51
        refine c_reg ?_
        refine r_u (o_fa fa80_0 rfl) ?_
        refine r_u0 (o_st sc23 rfl rfl rfl rfl rfl rfl) ?_
        refine r_nil ?_
        obtain rfl := Option.some.inj hm52
        exact x_sub (K11) ⟨rfl, rfl, trivial⟩ (fun _ h => st_pk 2 [0, 1] (by decide) h)
      · have hm52 := iff_ hp9 h51
        refine c_skip ?_
        obtain rfl := Option.some.inj hm52
        exact x_sub (K11) ⟨rfl, rfl, trivial⟩ (fun _ h => st_pk 2 [0, 1] (by decide) h)
  · refine c_if (b := decide (4096 < (a1.Value.length : Int))) rfl (fun h53 => ?_) fun h53 => ?_
    · have hm54 := ift hp5 h53
      refine c_reg ?_
      refine r_u (o_fa fa80_1 rfl) ?_
      refine r_u (o_ld 1 sc9 rfl rfl rfl) ?_
      obtain ⟨s55, hs55, hm56⟩ := bs hm54
      refine r_u (o_slS (i := 0) (j := 4096) Try.underlying9 rfl rfl rfl hs55) ?_
      refine r_u (o_fa fa80_1 rfl) ?_
      refine rl_st (fun _ h => st_pk 2 [1, 0] (by decide) h) ?_
      refine r_u0 (o_st sc9 rfl rfl rfl rfl rfl rfl) ?_
      refine r_nil ?_
      obtain rfl := Option.some.inj hm56
      exact x_sub (K7) ⟨rfl, rfl, trivial⟩ (fun _ h => st_pk 2 [0, 1] (by decide) h)
    · have hm54 := iff_ hp5 h53
      refine c_skip ?_
      obtain rfl := Option.some.inj hm54
      exact x_sub (K7) ⟨rfl, rfl, trivial⟩ (fun _ h => st_pk 2 [1, 0] (by decide) h)

def hawthornlaw16_first  : api_View :=
  (⟨1, 0, 1, (-1), 0, 1⟩ : api_View)
theorem hawthornlaw16_first.ok {G R F} (r : api_View) (hm : hawthornlaw16_first = r) : CO Try.prog 79 [] G R (F)
    (Ret fun u R' L' => u = .agg (api_View.c r).toArray ∧ R' = R ∧ L' = F) := by
  unfold hawthornlaw16_first at hm
  refine co_ofN (N := 2) Try.func79 rfl rfl ?_
  refine c_seq ?_
  refine c_reg ?_
  refine r_new (o_al ze67) fun b0 => ?_
  refine r_nil ?_
  refine x_seq ?_
  refine c_seq ?_
  refine c_reg ?_
  refine r_u (o_bld [vW 1, vI 0, vW 1, vI (-1), vW 0, vW 1] rfl (fun _ => by kernel_rfl)) ?_
  refine r_u0 (o_stn ag67 rfl rfl rfl rfl rfl rfl rfl) ?_
  refine r_nil ?_
  refine x_seq ?_
  refine c_ret ?_
  subst hm
  exact x_d1 rfl (rv_n 0 [vW 1, vI 0, vW 1, vI (-1), vW 0, vW 1] ag67 rfl rfl rfl rfl) (fun _ h => st_pk 1 [] (by decide) h) (Le.refl _) ⟨_, rfl, rfl, rfl, rfl⟩

def cell_Check (a0 : api_View) : Bool :=
  (((decide (1 ≤ a0.V) && decide (1 ≤ a0.Epoch)) && ((decide (0 ≤ a0.Primary) && decide (a0.Primary < 1048576)) && decide (1 ≤ a0.PLife))) && (((a0.Backup == (-1)) && (a0.BLife == 0)) || (((decide (0 ≤ a0.Backup) && decide (a0.Backup < 1048576)) && decide (1 ≤ a0.BLife)) && (a0.Backup != a0.Primary))))
theorem cell_Check.ok {G R F} (a0 : api_View) (r : Bool) (hm : cell_Check a0 = r) : CO Try.prog 46 [.agg (api_View.c a0).toArray] G R (F)
    (Ret fun u R' L' => u = vB r ∧ R' = R ∧ L' = F) := by
  unfold cell_Check at hm
  refine co_ofN (N := 62) Try.func46 rfl rfl ?_
  refine c_seq ?_
  refine c_reg ?_
  refine r_new (o_bx (api_View.c a0) rfl rfl) fun b0 => ?_
  refine r_u (o_as rfl) ?_
  refine r_nil ?_
  refine x_seq ?_
  refine c_seq ?_
  refine c_reg ?_
  refine r_u (o_fa fa67_1 rfl) ?_
  refine r_u (o_ld 0 sc3 rfl rfl rfl) ?_
  refine r_u (o_bin rfl rfl (bI_ge a0.Primary 0)) ?_
  refine r_u (o_mv rfl) ?_
  refine r_s (s_gt rfl rfl fun g => o_fa fa67_1 rfl) ?_
  refine r_s (s_gt rfl rfl fun g => o_ld 0 sc3 (evg rfl g) rfl rfl) ?_
  refine r_s (s_gt rfl rfl fun g => o_bin (evg rfl g) rfl (bI_lt a0.Primary 1048576)) ?_
  refine r_u (o_and rfl rfl) ?_
  refine r_u (o_mv rfl) ?_
  refine r_s (s_gt rfl rfl fun g => o_fa fa67_2 rfl) ?_
  refine r_s (s_gt rfl rfl fun g => o_ld 0 sc22 (evg rfl g) rfl rfl) ?_
  refine r_s (s_gt rfl rfl fun g => o_bin (evg rfl g) rfl (bW_ge a0.PLife 1)) ?_
  refine r_u (o_and rfl rfl) ?_
  refine r_u (o_as rfl) ?_
  refine r_nil ?_
  refine x_seq ?_
  refine c_seq ?_
  refine c_reg ?_
  refine r_u (o_fa fa67_3 rfl) ?_
  refine r_u (o_ld 0 sc3 rfl rfl rfl) ?_
  refine r_u (o_bin rfl rfl (bI_eq a0.Backup (-1))) ?_
  refine r_u (o_mv rfl) ?_
  refine r_s (s_gt rfl rfl fun g => o_fa fa67_4 rfl) ?_
  refine r_s (s_gt rfl rfl fun g => o_ld 0 sc22 (evg rfl g) rfl rfl) ?_
  refine r_s (s_gt rfl rfl fun g => o_bin (evg rfl g) rfl (bW_eq a0.BLife 0)) ?_
  refine r_u (o_and rfl rfl) ?_
  refine r_u (o_mv rfl) ?_
  refine r_s (s_gf rfl rfl fun g => o_fa fa67_3 rfl) ?_
  refine r_s (s_gf rfl rfl fun g => o_ld 0 sc3 (evg rfl g) rfl rfl) ?_
  refine r_s (s_gf rfl rfl fun g => o_bin (evg rfl g) rfl (bI_ge a0.Backup 0)) ?_
  refine r_s (s_gf rfl rfl fun g => o_mv (evg rfl g)) ?_
  refine r_s (s_ggt rfl rfl fun g => o_fa fa67_3 rfl) ?_
  refine r_s (s_ggt rfl rfl fun g => o_ld 0 sc3 (evg rfl g) rfl rfl) ?_
  refine r_s (s_ggt rfl rfl fun g => o_bin (evg rfl g) rfl (bI_lt a0.Backup 1048576)) ?_
  refine r_s (s_gf rfl rfl fun g => o_and (evg rfl g) (evg2 rfl g)) ?_
  refine r_s (s_gf rfl rfl fun g => o_mv (evg rfl g)) ?_
  refine r_s (s_ggt rfl rfl fun g => o_fa fa67_4 rfl) ?_
  refine r_s (s_ggt rfl rfl fun g => o_ld 0 sc22 (evg rfl g) rfl rfl) ?_
  refine r_s (s_ggt rfl rfl fun g => o_bin (evg rfl g) rfl (bW_ge a0.BLife 1)) ?_
  refine r_s (s_gf rfl rfl fun g => o_and (evg rfl g) (evg2 rfl g)) ?_
  refine r_s (s_gf rfl rfl fun g => o_mv (evg rfl g)) ?_
  refine r_s (s_ggt rfl rfl fun g => o_fa fa67_3 rfl) ?_
  refine r_s (s_ggt rfl rfl fun g => o_ld 0 sc3 (evg rfl g) rfl rfl) ?_
  refine r_s (s_ggt rfl rfl fun g => o_fa fa67_1 rfl) ?_
  refine r_s (s_ggt rfl rfl fun g => o_ld 0 sc3 (evg rfl g) rfl rfl) ?_
  refine r_s (s_ggt rfl rfl fun g => o_bin (evg rfl g) (evg rfl g) (bI_ne a0.Backup a0.Primary)) ?_
  refine r_s (s_gf rfl rfl fun g => o_and (evg rfl g) (evg2 rfl g)) ?_
  refine r_u (o_or rfl rfl) ?_
  refine r_u (o_as rfl) ?_
  refine r_nil ?_
  refine x_seq ?_
  refine c_seq ?_
  refine c_reg ?_
  refine r_u (o_fa fa67_0 rfl) ?_
  refine r_u (o_ld 0 sc22 rfl rfl rfl) ?_
  refine r_u (o_bin rfl rfl (bW_ge a0.V 1)) ?_
  refine r_u (o_mv rfl) ?_
  refine r_s (s_gt rfl rfl fun g => o_fa fa67_5 rfl) ?_
  refine r_s (s_gt rfl rfl fun g => o_ld 0 sc22 (evg rfl g) rfl rfl) ?_
  refine r_s (s_gt rfl rfl fun g => o_bin (evg rfl g) rfl (bW_ge a0.Epoch 1)) ?_
  refine r_u (o_and rfl rfl) ?_
  refine r_u (o_mv rfl) ?_
  refine r_s (s_gt rfl rfl fun g => o_mv rfl) ?_
  refine r_u (o_and rfl rfl) ?_
  refine r_u (o_mv rfl) ?_
  refine r_s (s_gt rfl rfl fun g => o_mv rfl) ?_
  refine r_u (o_and rfl rfl) ?_
  refine r_u (o_as rfl) ?_
  refine r_nil ?_
  refine x_seq ?_
  refine c_ret ?_
  subst hm
  refine ex_st (fun _ h => st_pk 1 [] (by decide) h) ?_
  exact x_r1 rfl (rv_t rfl) (Le.refl _) ⟨_, rfl, rfl, rfl, rfl⟩

def cell_New (a0 : api_View) : Option cell_Cell × Int :=
  if !(cell_Check a0) then (none, 1) else ((some (⟨a0, 0, 0, (⟨0, 0, 0, 0, 0, 0⟩ : api_View)⟩ : cell_Cell)), 0)
theorem cell_New.ok {G R F} (a0 : api_View) (r : Option cell_Cell × Int) (hm : cell_New a0 = r) : CO Try.prog 78 [.agg (api_View.c a0).toArray] G R (F)
    (Ret fun u R' L' => ∃ p0, u = .tuple #[p0, vI r.2] ∧ R' = R ∧ L' = rO (fun b x => Bk b 114 (cell_Cell.c x)) p0 r.1 :: F) := by
  unfold cell_New at hm
  refine co_ofN (N := 10) Try.func78 rfl rfl ?_
  refine c_seq ?_
  refine c_reg ?_
  refine r_new (o_bx (api_View.c a0) rfl rfl) fun b0 => ?_
  refine r_u (o_as rfl) ?_
  refine r_u (o_as rfl) ?_
  refine r_nil ?_
  refine x_seq ?_
  refine c_seq ?_
  refine c_seq ?_
  refine c_reg ?_
  refine r_u (o_ldn 0 (api_View.c a0) ag67 rfl rfl rfl rfl) ?_
  refine r_u (o_callq ca46 rfl (cell_Check.ok a0 _ rfl)) ?_
  refine r_u (o_not rfl) ?_
  refine r_nil ?_
  refine x_seq ?_
  refine c_if (b := !(cell_Check a0)) rfl (fun h1 => ?_) fun h1 => ?_
  · have hm2 := ift hm h1
    refine c_seq ?_
    refine c_reg ?_
    refine r_u (o_as rfl) ?_
    refine r_u (o_as rfl) ?_
    refine r_nil ?_
    refine x_seq ?_
    refine c_ret ?_
    refine ex_st (fun _ h => st_none (f := (fun b x => Bk b 114 (cell_Cell.c x))) h) ?_
    subst hm2
    refine ex_st (fun _ h => st_pk 2 [0] (by decide) h) ?_
    exact x_r2 rfl (rv_t rfl) (rv_t rfl) (Le.refl _) ⟨_, rfl, nl, rfl, rfl, rfl⟩
  · have hm2 := iff_ hm h1
    refine c_skip ?_
    refine x_seq ?_
    refine c_seq ?_
    refine c_reg ?_
    refine r_u (o_ldn 0 (api_View.c a0) ag67 rfl rfl rfl rfl) ?_
    refine r_u (o_bld [vW a0.V, vI a0.Primary, vW a0.PLife, vI a0.Backup, vW a0.BLife, vW a0.Epoch, vW 0, vW 0, vW 0, vI 0, vW 0, vI 0, vW 0, vW 0] rfl (fun _ => by kernel_rfl)) ?_
    refine r_new (o_bx [vW a0.V, vI a0.Primary, vW a0.PLife, vI a0.Backup, vW a0.BLife, vW a0.Epoch, vW 0, vW 0, vW 0, vI 0, vW 0, vI 0, vW 0, vW 0] rfl rfl) fun b3 => ?_
    refine r_u (o_as rfl) ?_
    refine r_u (o_as rfl) ?_
    refine r_nil ?_
    refine x_seq ?_
    refine c_ret ?_
    refine ex_st (fun _ h => st_some (f := (fun b x => Bk b 114 (cell_Cell.c x))) (a := (⟨a0, 0, 0, (⟨0, 0, 0, 0, 0, 0⟩ : api_View)⟩ : cell_Cell)) h) ?_
    subst hm2
    refine ex_st (fun _ h => st_pk 2 [0] (by decide) h) ?_
    exact x_r2 rfl (rv_t rfl) (rv_t rfl) (Le.refl _) ⟨_, rfl, (pt b3 0), rfl, rfl, rfl⟩

def cell_Cell_Learn (a0 : cell_Cell) (a1 : api_View) : Bool × cell_Cell :=
  if (!(cell_Check a1) || decide (a1.V ≤ a0.chosen.V)) then (false, a0) else (true, (⟨a1, 0, 0, (⟨0, 0, 0, 0, 0, 0⟩ : api_View)⟩ : cell_Cell))
theorem cell_Cell_Learn.ok {G R F} (b0_ : Nat) (a0 : cell_Cell) (a1 : api_View) (r : Bool × cell_Cell) (hm : cell_Cell_Learn a0 a1 = r) : CO Try.prog 86 [pt b0_ 0, .agg (api_View.c a1).toArray] G R (Bk b0_ 114 (cell_Cell.c a0) :: F)
    (Ret fun u R' L' => u = vB r.1 ∧ R' = R ∧ L' = Bk b0_ 114 (cell_Cell.c r.2) :: F) := by
  unfold cell_Cell_Learn at hm
  refine co_ofN (N := 26) Try.func86 rfl rfl ?_
  refine c_seq ?_
  refine c_reg ?_
  refine r_new (o_bx (api_View.c a1) rfl rfl) fun b0 => ?_
  refine r_u (o_as rfl) ?_
  refine r_nil ?_
  refine x_seq ?_
  refine c_seq ?_
  refine c_seq ?_
  refine c_any mixed (effs := []) (V := []) ?_
  refine stage_ext [(0, pt b0_ 0), (1, vB false), (2, vB false), (3, .agg (api_View.c a1).toArray), (4, vB (cell_Check a1)), (5, vB (!(cell_Check a1))), (6, vB (!(cell_Check a1))), (7, vB (!(cell_Check a1))), (8, gv (!(!(cell_Check a1))) (pt b0 0)), (9, gv (!(!(cell_Check a1))) (vW a1.V)), (10, gv (!(!(cell_Check a1))) (pt b0_ 0)), (11, gv (!(!(cell_Check a1))) (pt b0_ 0)), (12, gv (!(!(cell_Check a1))) (pt b0_ 0)), (13, gv (!(!(cell_Check a1))) (pt b0_ 0)), (14, gv (!(!(cell_Check a1))) (vW a0.chosen.V)), (15, gv (!(!(cell_Check a1))) (vB (decide (a1.V ≤ a0.chosen.V)))), (16, vB (!(cell_Check a1) || decide (a1.V ≤ a0.chosen.V)))] rfl ?_
  refine stage rfl rfl rfl rfl [0, 1, 3, 7, 15, 31, 63, 127, 255, 511, 255, 1279, 3327, 7423, 15615, 32767, 65535] [0, 1, 2, 3, 4, 5, 6, 7, 8, 9, 10, 11, 12, 13, 14, 15, 16] [] rfl rfl rfl (qc rfl rfl (s_u (o_mv rfl)) (qc rfl rfl (s_u (o_bin rfl rfl (bP_eqp Try.underlying103))) (qc rfl rfl (s_u (o_mv rfl)) (qc rfl rfl (s_y rfl rfl rfl (o_ldn 0 (api_View.c a1) ag67 rfl rfl rfl rfl)) (qc rfl rfl (s_y rfl rfl rfl (o_callq ca46 rfl (cell_Check.ok a1 _ rfl))) (qc rfl rfl (s_y rfl rfl rfl (o_not rfl)) (qc rfl rfl (s_u (o_pf rfl rfl rfl)) (qc rfl rfl (s_u (o_mv rfl)) (qc rfl rfl (s_gf rfl rfl fun g => o_fa fa67_0 rfl) (qc rfl rfl (s_gf rfl rfl fun g => o_ld 0 sc22 (evg rfl g) rfl rfl) (qc rfl rfl (s_gf rfl rfl fun g => o_mv rfl) (qc rfl rfl (s_gf rfl rfl fun g => o_nc (evg rfl g)) (qc rfl rfl (s_gf rfl rfl fun g => o_fa fa114_0 (evg rfl g)) (qc rfl rfl (s_gf rfl rfl fun g => o_fa fa67_0 (evg rfl g)) (qc rfl rfl (s_gf rfl rfl fun g => o_ld 1 sc22 (evg rfl g) rfl rfl) (qc rfl rfl (s_gf rfl rfl fun g => o_bin (evg rfl g) (evg rfl g) (bW_le a1.V a0.chosen.V)) (qc rfl rfl (s_u (o_or rfl rfl)) qn))))))))))))))))) en ?_
  intro _
  refine ex_sub (E' := [(0, pt b0_ 0), (3, pt b0 0), (21, vB (!(cell_Check a1) || decide (a1.V ≤ a0.chosen.V)))]) ⟨rfl, rfl, rfl, trivial⟩ ?_
  refine x_seq ?_
  refine c_if (b := (!(cell_Check a1) || decide (a1.V ≤ a0.chosen.V))) rfl (fun h1 => ?_) fun h1 => ?_
  · have hm2 := ift hm h1
    refine c_seq ?_
    refine c_reg ?_
    refine r_u (o_as rfl) ?_
    refine r_nil ?_
    refine x_seq ?_
    refine c_ret ?_
    subst hm2
    refine ex_st (fun _ h => st_pk 2 [1] (by decide) h) ?_
    exact x_r1 rfl (rv_t rfl) (Le.refl _) ⟨_, rfl, rfl, rfl, rfl⟩
  · have hm2 := iff_ hm h1
    refine c_skip ?_
    refine x_seq ?_
    refine c_seq ?_
    refine c_reg ?_
    refine r_u (o_mv rfl) ?_
    refine r_u (o_ldn 0 (api_View.c a1) ag67 rfl rfl rfl rfl) ?_
    refine r_u (o_bld [vW a1.V, vI a1.Primary, vW a1.PLife, vI a1.Backup, vW a1.BLife, vW a1.Epoch, vW 0, vW 0, vW 0, vI 0, vW 0, vI 0, vW 0, vW 0] rfl (fun _ => by kernel_rfl)) ?_
    refine r_u (o_nc rfl) ?_
    refine rl_st (fun _ h => st_pk 2 [1, 0] (by decide) h) ?_
    refine r_u0 (o_stn ag114 rfl rfl rfl rfl rfl rfl rfl) ?_
    refine r_nil ?_
    refine x_seq ?_
    refine c_seq ?_
    refine c_reg ?_
    refine r_u (o_as rfl) ?_
    refine r_nil ?_
    refine x_seq ?_
    refine c_ret ?_
    subst hm2
    refine ex_st (fun _ h => st_pk 2 [0] (by decide) h) ?_
    exact x_r1 rfl (rv_t rfl) (Le.refl _) ⟨_, rfl, rfl, rfl, rfl⟩

def cell_Cell_promise (a0 : cell_Cell) (a1 : Bool) : api_Promise :=
  (⟨a1, a0.chosen.V + 1, a0.most, a0.ballot, a0.value, a0.chosen⟩ : api_Promise)
theorem cell_Cell_promise.ok {G R F} (b0_ : Nat) (a0 : cell_Cell) (a1 : Bool) (r : api_Promise) (hm : cell_Cell_promise a0 a1 = r) : CO Try.prog 87 [pt b0_ 0, vB a1] G R (Bk b0_ 114 (cell_Cell.c a0) :: F)
    (Ret fun u R' L' => u = .agg (api_Promise.c r).toArray ∧ R' = R ∧ L' = Bk b0_ 114 (cell_Cell.c a0) :: F) := by
  unfold cell_Cell_promise at hm
  refine co_ofN (N := 29) Try.func87 rfl rfl ?_
  refine c_seq ?_
  refine c_reg ?_
  refine r_new (o_al ze108) fun b0 => ?_
  refine r_nil ?_
  refine x_seq ?_
  refine c_seq ?_
  refine c_any mixed (effs := [24]) (V := []) ?_
  refine stage_ext [(0, vB a1), (1, pt b0_ 0), (2, pt b0_ 0), (3, pt b0_ 0), (4, pt b0_ 0), (5, vW a0.chosen.V), (6, vW (a0.chosen.V + 1)), (7, pt b0_ 0), (8, pt b0_ 0), (9, pt b0_ 6), (10, vW a0.most), (11, pt b0_ 0), (12, pt b0_ 0), (13, pt b0_ 7), (14, vW a0.ballot), (15, pt b0_ 0), (16, pt b0_ 0), (17, pt b0_ 8), (18, .agg (api_View.c a0.value).toArray), (19, pt b0_ 0), (20, pt b0_ 0), (21, pt b0_ 0), (22, .agg (api_View.c a0.chosen).toArray), (23, .agg [vB a1, vW (a0.chosen.V + 1), vW a0.most, vW a0.ballot, vW a0.value.V, vI a0.value.Primary, vW a0.value.PLife, vI a0.value.Backup, vW a0.value.BLife, vW a0.value.Epoch, vW a0.chosen.V, vI a0.chosen.Primary, vW a0.chosen.PLife, vI a0.chosen.Backup, vW a0.chosen.BLife, vW a0.chosen.Epoch].toArray)] rfl ?_
  refine stage rfl rfl rfl rfl [0, 0, 2, 6, 14, 30, 62, 0, 128, 384, 896, 0, 2048, 6144, 14336, 0, 32768, 98304, 229376, 0, 524288, 1572864, 3670016, 8388607, 16777215] [0, 1, 2, 3, 4, 5, 6, 7, 8, 9, 10, 11, 12, 13, 14, 15, 16, 17, 18, 19, 20, 21, 22, 23] [24] rfl rfl rfl (qc rfl rfl (s_u (o_mv rfl)) (qc rfl rfl (s_u (o_mv rfl)) (qc rfl rfl (s_u (o_nc rfl)) (qc rfl rfl (s_u (o_fa fa114_0 rfl)) (qc rfl rfl (s_u (o_fa fa67_0 rfl)) (qc rfl rfl (s_u (o_ld 1 sc22 rfl rfl rfl)) (qc rfl rfl (s_u (o_bin rfl rfl (bW_add a0.chosen.V 1))) (qc rfl rfl (s_u (o_mv rfl)) (qc rfl rfl (s_u (o_nc rfl)) (qc rfl rfl (s_u (o_fa fa114_1 rfl)) (qc rfl rfl (s_u (o_ld 1 sc22 rfl rfl rfl)) (qc rfl rfl (s_u (o_mv rfl)) (qc rfl rfl (s_u (o_nc rfl)) (qc rfl rfl (s_u (o_fa fa114_2 rfl)) (qc rfl rfl (s_u (o_ld 1 sc22 rfl rfl rfl)) (qc rfl rfl (s_u (o_mv rfl)) (qc rfl rfl (s_u (o_nc rfl)) (qc rfl rfl (s_u (o_fa fa114_3 rfl)) (qc rfl rfl (s_u (o_ldn 1 (api_View.c a0.value) ag67 rfl rfl rfl rfl)) (qc rfl rfl (s_u (o_mv rfl)) (qc rfl rfl (s_u (o_nc rfl)) (qc rfl rfl (s_u (o_fa fa114_0 rfl)) (qc rfl rfl (s_u (o_ldn 1 (api_View.c a0.chosen) ag67 rfl rfl rfl rfl)) (qc rfl rfl (s_u (o_bld [vB a1, vW (a0.chosen.V + 1), vW a0.most, vW a0.ballot, vW a0.value.V, vI a0.value.Primary, vW a0.value.PLife, vI a0.value.Backup, vW a0.value.BLife, vW a0.value.Epoch, vW a0.chosen.V, vI a0.chosen.Primary, vW a0.chosen.PLife, vI a0.chosen.Backup, vW a0.chosen.BLife, vW a0.chosen.Epoch] rfl (fun _ => by kernel_rfl))) qn)))))))))))))))))))))))) ?_ (fun h => absurd h (by decide))
  refine ec (eo_u rfl (s_u (o_stn ag108 rfl rfl rfl rfl rfl rfl rfl)) (Le.refl _) ?_) en
  refine stage rfl rfl rfl rfl [0, 0, 2, 6, 14, 30, 62, 0, 128, 384, 896, 0, 2048, 6144, 14336, 0, 32768, 98304, 229376, 0, 524288, 1572864, 3670016, 8388607, 16777215] [] [] rfl rfl rfl qn en ?_
  intro _
  refine ex_sub (E' := [(4, pt b0 0)]) ⟨rfl, trivial⟩ ?_
  refine x_seq ?_
  refine c_ret ?_
  subst hm
  exact x_d1 rfl (rv_n 0 [vB a1, vW (a0.chosen.V + 1), vW a0.most, vW a0.ballot, vW a0.value.V, vI a0.value.Primary, vW a0.value.PLife, vI a0.value.Backup, vW a0.value.BLife, vW a0.value.Epoch, vW a0.chosen.V, vI a0.chosen.Primary, vW a0.chosen.PLife, vI a0.chosen.Backup, vW a0.chosen.BLife, vW a0.chosen.Epoch] ag108 rfl rfl rfl rfl) (fun _ h => st_pk 2 [1] (by decide) h) (Le.refl _) ⟨_, rfl, rfl, rfl, rfl⟩

def cell_Cell_Prepare (a0 : cell_Cell) (a1 : api_View) (a2 : UInt64) : api_Promise × cell_Cell :=
  lt (cell_Cell_Learn a0 a1) fun r2 => if (!(decide (a1 = r2.2.chosen)) || decide (a2 ≤ r2.2.most)) then ((⟨(cell_Cell_promise r2.2 false).OK, (cell_Cell_promise r2.2 false).V, (cell_Cell_promise r2.2 false).Most, (cell_Cell_promise r2.2 false).Ballot, ((cell_Cell_promise r2.2 false).Value), ((cell_Cell_promise r2.2 false).Chosen)⟩ : api_Promise), r2.2) else ((⟨(cell_Cell_promise (⟨r2.2.chosen, a2, r2.2.ballot, r2.2.value⟩ : cell_Cell) true).OK, (cell_Cell_promise (⟨r2.2.chosen, a2, r2.2.ballot, r2.2.value⟩ : cell_Cell) true).V, (cell_Cell_promise (⟨r2.2.chosen, a2, r2.2.ballot, r2.2.value⟩ : cell_Cell) true).Most, (cell_Cell_promise (⟨r2.2.chosen, a2, r2.2.ballot, r2.2.value⟩ : cell_Cell) true).Ballot, ((cell_Cell_promise (⟨r2.2.chosen, a2, r2.2.ballot, r2.2.value⟩ : cell_Cell) true).Value), ((cell_Cell_promise (⟨r2.2.chosen, a2, r2.2.ballot, r2.2.value⟩ : cell_Cell) true).Chosen)⟩ : api_Promise), (⟨r2.2.chosen, a2, r2.2.ballot, r2.2.value⟩ : cell_Cell))
theorem cell_Cell_Prepare.ok {G R F} (b0_ : Nat) (a0 : cell_Cell) (a1 : api_View) (a2 : UInt64) (r : api_Promise × cell_Cell) (hm : cell_Cell_Prepare a0 a1 a2 = r) : CO Try.prog 80 [pt b0_ 0, .agg (api_View.c a1).toArray, vW a2] G R (Bk b0_ 114 (cell_Cell.c a0) :: F)
    (Ret fun u R' L' => u = .agg (api_Promise.c r.1).toArray ∧ R' = R ∧ L' = Bk b0_ 114 (cell_Cell.c r.2) :: F) := by
  unfold cell_Cell_Prepare at hm
  refine co_ofN (N := 35) Try.func80 rfl rfl ?_
  refine c_seq ?_
  refine c_reg ?_
  refine r_new (o_bx (api_View.c a1) rfl rfl) fun b0 => ?_
  refine r_new (o_al ze108) fun b1 => ?_
  refine r_nil ?_
  refine x_seq ?_
  refine c_seq ?_
  refine c_seq ?_
  refine c_reg ?_
  refine r_u (o_mv rfl) ?_
  refine r_u (o_bin rfl rfl (bP_eqp Try.underlying103)) ?_
  refine r_nil ?_
  refine x_seq ?_
  refine c_ff rfl ?_
  refine c_skip ?_
  refine x_seq ?_
  refine c_seq ?_
  refine c_reg ?_
  refine r_u (o_mv rfl) ?_
  refine r_u (o_ldn 1 (api_View.c a1) ag67 rfl rfl rfl rfl) ?_
  obtain ⟨r2, hr2, hm3⟩ := ltx hm
  refine rl_st (fun _ h => st_pk 3 [2, 0, 1] (by decide) h) ?_
  refine r_c (s_w (o_call ca86 rfl (cell_Cell_Learn.ok b0_ a0 a1 r2 hr2))) ?_
  refine r_nil ?_
  refine x_seq ?_
  refine c_seq ?_
  refine c_seq ?_
  refine c_any mixed (effs := []) (V := []) ?_
  refine stage_ext [(0, .agg (api_View.c a1).toArray), (1, pt b0_ 0), (2, pt b0_ 0), (3, pt b0_ 0), (4, .agg (api_View.c r2.2.chosen).toArray), (5, vB (!(decide (a1 = r2.2.chosen)))), (6, vB (!(decide (a1 = r2.2.chosen)))), (7, gv (!(!(decide (a1 = r2.2.chosen)))) (vW a2)), (8, gv (!(!(decide (a1 = r2.2.chosen)))) (pt b0_ 0)), (9, gv (!(!(decide (a1 = r2.2.chosen)))) (pt b0_ 0)), (10, gv (!(!(decide (a1 = r2.2.chosen)))) (pt b0_ 6)), (11, gv (!(!(decide (a1 = r2.2.chosen)))) (vW r2.2.most)), (12, gv (!(!(decide (a1 = r2.2.chosen)))) (vB (decide (a2 ≤ r2.2.most)))), (13, vB (!(decide (a1 = r2.2.chosen)) || decide (a2 ≤ r2.2.most)))] rfl ?_
  refine stage rfl rfl rfl rfl [0, 0, 2, 6, 14, 31, 63, 127, 127, 383, 895, 1919, 4095, 8191] [0, 1, 2, 3, 4, 5, 6, 7, 8, 9, 10, 11, 12, 13] [] rfl rfl rfl (qc rfl rfl (s_u (o_ldn 2 (api_View.c a1) ag67 rfl rfl rfl rfl)) (qc rfl rfl (s_u (o_mv rfl)) (qc rfl rfl (s_u (o_nc rfl)) (qc rfl rfl (s_u (o_fa fa114_0 rfl)) (qc rfl rfl (s_u (o_ldn 0 (api_View.c r2.2.chosen) ag67 rfl rfl rfl rfl)) (qc rfl rfl (s_u (o_bin rfl rfl (api_View.bne_67 a1 r2.2.chosen))) (qc rfl rfl (s_u (o_mv rfl)) (qc rfl rfl (s_gf rfl rfl fun g => o_mv rfl) (qc rfl rfl (s_gf rfl rfl fun g => o_mv rfl) (qc rfl rfl (s_gf rfl rfl fun g => o_nc (evg rfl g)) (qc rfl rfl (s_gf rfl rfl fun g => o_fa fa114_1 (evg rfl g)) (qc rfl rfl (s_gf rfl rfl fun g => o_ld 0 sc22 (evg rfl g) rfl rfl) (qc rfl rfl (s_gf rfl rfl fun g => o_bin (evg rfl g) (evg rfl g) (bW_le a2 r2.2.most)) (qc rfl rfl (s_u (o_or rfl rfl)) qn)))))))))))))) en ?_
  intro _
  refine ex_sub (E' := [(0, pt b0_ 0), (2, vW a2), (6, pt b1 0), (26, vB (!(decide (a1 = r2.2.chosen)) || decide (a2 ≤ r2.2.most)))]) ⟨rfl, rfl, rfl, rfl, trivial⟩ ?_
  refine x_seq ?_
  refine c_if (b := (!(decide (a1 = r2.2.chosen)) || decide (a2 ≤ r2.2.most))) rfl (fun h4 => ?_) fun h4 => ?_
  · have hm5 := ift hm3 h4
    refine c_seq ?_
    refine c_reg ?_
    refine r_u (o_mv rfl) ?_
    refine r_c (s_w (o_call ca87 rfl (cell_Cell_promise.ok b0_ r2.2 false _ rfl))) ?_
    refine rl_st (fun _ h => st_pk 3 [1, 0, 2] (by decide) h) ?_
    refine r_u0 (o_stn ag108 rfl rfl rfl rfl rfl rfl rfl) ?_
    refine r_nil ?_
    refine x_seq ?_
    refine c_ret ?_
    subst hm5
    exact x_d1 rfl (rv_n 0 [vB ((cell_Cell_promise r2.2 false).OK), vW ((cell_Cell_promise r2.2 false).V), vW ((cell_Cell_promise r2.2 false).Most), vW ((cell_Cell_promise r2.2 false).Ballot), vW (((cell_Cell_promise r2.2 false).Value).V), vI (((cell_Cell_promise r2.2 false).Value).Primary), vW (((cell_Cell_promise r2.2 false).Value).PLife), vI (((cell_Cell_promise r2.2 false).Value).Backup), vW (((cell_Cell_promise r2.2 false).Value).BLife), vW (((cell_Cell_promise r2.2 false).Value).Epoch), vW (((cell_Cell_promise r2.2 false).Chosen).V), vI (((cell_Cell_promise r2.2 false).Chosen).Primary), vW (((cell_Cell_promise r2.2 false).Chosen).PLife), vI (((cell_Cell_promise r2.2 false).Chosen).Backup), vW (((cell_Cell_promise r2.2 false).Chosen).BLife), vW (((cell_Cell_promise r2.2 false).Chosen).Epoch)] ag108 rfl rfl rfl rfl) (fun _ h => st_pk 3 [1] (by decide) h) (Le.refl _) ⟨_, rfl, rfl, rfl, rfl⟩
  · have hm5 := iff_ hm3 h4
    refine c_skip ?_
    refine x_seq ?_
    refine c_seq ?_
    refine c_reg ?_
    refine r_u (o_mv rfl) ?_
    refine r_u (o_mv rfl) ?_
    refine r_u (o_nc rfl) ?_
    refine r_u (o_fa fa114_1 rfl) ?_
    refine r_u0 (o_st sc22 rfl rfl rfl rfl rfl rfl) ?_
    refine r_nil ?_
    refine x_seq ?_
    refine c_seq ?_
    refine c_reg ?_
    refine r_u (o_mv rfl) ?_
    refine r_c (s_w (o_call ca87 rfl (cell_Cell_promise.ok b0_ (⟨r2.2.chosen, a2, r2.2.ballot, r2.2.value⟩ : cell_Cell) true _ rfl))) ?_
    refine rl_st (fun _ h => st_pk 3 [1, 0, 2] (by decide) h) ?_
    refine r_u0 (o_stn ag108 rfl rfl rfl rfl rfl rfl rfl) ?_
    refine r_nil ?_
    refine x_seq ?_
    refine c_ret ?_
    subst hm5
    exact x_d1 rfl (rv_n 0 [vB ((cell_Cell_promise (⟨r2.2.chosen, a2, r2.2.ballot, r2.2.value⟩ : cell_Cell) true).OK), vW ((cell_Cell_promise (⟨r2.2.chosen, a2, r2.2.ballot, r2.2.value⟩ : cell_Cell) true).V), vW ((cell_Cell_promise (⟨r2.2.chosen, a2, r2.2.ballot, r2.2.value⟩ : cell_Cell) true).Most), vW ((cell_Cell_promise (⟨r2.2.chosen, a2, r2.2.ballot, r2.2.value⟩ : cell_Cell) true).Ballot), vW (((cell_Cell_promise (⟨r2.2.chosen, a2, r2.2.ballot, r2.2.value⟩ : cell_Cell) true).Value).V), vI (((cell_Cell_promise (⟨r2.2.chosen, a2, r2.2.ballot, r2.2.value⟩ : cell_Cell) true).Value).Primary), vW (((cell_Cell_promise (⟨r2.2.chosen, a2, r2.2.ballot, r2.2.value⟩ : cell_Cell) true).Value).PLife), vI (((cell_Cell_promise (⟨r2.2.chosen, a2, r2.2.ballot, r2.2.value⟩ : cell_Cell) true).Value).Backup), vW (((cell_Cell_promise (⟨r2.2.chosen, a2, r2.2.ballot, r2.2.value⟩ : cell_Cell) true).Value).BLife), vW (((cell_Cell_promise (⟨r2.2.chosen, a2, r2.2.ballot, r2.2.value⟩ : cell_Cell) true).Value).Epoch), vW (((cell_Cell_promise (⟨r2.2.chosen, a2, r2.2.ballot, r2.2.value⟩ : cell_Cell) true).Chosen).V), vI (((cell_Cell_promise (⟨r2.2.chosen, a2, r2.2.ballot, r2.2.value⟩ : cell_Cell) true).Chosen).Primary), vW (((cell_Cell_promise (⟨r2.2.chosen, a2, r2.2.ballot, r2.2.value⟩ : cell_Cell) true).Chosen).PLife), vI (((cell_Cell_promise (⟨r2.2.chosen, a2, r2.2.ballot, r2.2.value⟩ : cell_Cell) true).Chosen).Backup), vW (((cell_Cell_promise (⟨r2.2.chosen, a2, r2.2.ballot, r2.2.value⟩ : cell_Cell) true).Chosen).BLife), vW (((cell_Cell_promise (⟨r2.2.chosen, a2, r2.2.ballot, r2.2.value⟩ : cell_Cell) true).Chosen).Epoch)] ag108 rfl rfl rfl rfl) (fun _ h => st_pk 3 [1] (by decide) h) (Le.refl _) ⟨_, rfl, rfl, rfl, rfl⟩

def cell_Cell_Accept (a0 : cell_Cell) (a1 : api_View) (a2 : UInt64) : api_Promise × cell_Cell :=
  if (((!(cell_Check a1) || (a1.V != (a0.chosen.V + 1))) || decide (a2 < a0.most)) || (a2 == 0)) then ((⟨(cell_Cell_promise a0 false).OK, (cell_Cell_promise a0 false).V, (cell_Cell_promise a0 false).Most, (cell_Cell_promise a0 false).Ballot, ((cell_Cell_promise a0 false).Value), ((cell_Cell_promise a0 false).Chosen)⟩ : api_Promise), a0) else ((⟨(cell_Cell_promise (⟨a0.chosen, a2, a2, a1⟩ : cell_Cell) true).OK, (cell_Cell_promise (⟨a0.chosen, a2, a2, a1⟩ : cell_Cell) true).V, (cell_Cell_promise (⟨a0.chosen, a2, a2, a1⟩ : cell_Cell) true).Most, (cell_Cell_promise (⟨a0.chosen, a2, a2, a1⟩ : cell_Cell) true).Ballot, ((cell_Cell_promise (⟨a0.chosen, a2, a2, a1⟩ : cell_Cell) true).Value), ((cell_Cell_promise (⟨a0.chosen, a2, a2, a1⟩ : cell_Cell) true).Chosen)⟩ : api_Promise), (⟨a0.chosen, a2, a2, a1⟩ : cell_Cell))
theorem cell_Cell_Accept.ok {G R F} (b0_ : Nat) (a0 : cell_Cell) (a1 : api_View) (a2 : UInt64) (r : api_Promise × cell_Cell) (hm : cell_Cell_Accept a0 a1 a2 = r) : CO Try.prog 81 [pt b0_ 0, .agg (api_View.c a1).toArray, vW a2] G R (Bk b0_ 114 (cell_Cell.c a0) :: F)
    (Ret fun u R' L' => u = .agg (api_Promise.c r.1).toArray ∧ R' = R ∧ L' = Bk b0_ 114 (cell_Cell.c r.2) :: F) := by
  unfold cell_Cell_Accept at hm
  refine co_ofN (N := 52) Try.func81 rfl rfl ?_
  refine c_seq ?_
  refine c_reg ?_
  refine r_new (o_bx (api_View.c a1) rfl rfl) fun b0 => ?_
  refine r_new (o_al ze108) fun b1 => ?_
  refine r_nil ?_
  refine x_seq ?_
  refine c_seq ?_
  refine c_seq ?_
  refine c_reg ?_
  refine r_u (o_mv rfl) ?_
  refine r_u (o_bin rfl rfl (bP_eqp Try.underlying103)) ?_
  refine r_nil ?_
  refine x_seq ?_
  refine c_ff rfl ?_
  refine c_skip ?_
  refine x_seq ?_
  refine c_seq ?_
  refine c_seq ?_
  refine c_any mixed (effs := []) (V := []) ?_
  refine stage_ext [(0, .agg (api_View.c a1).toArray), (1, vB (cell_Check a1)), (2, vB (!(cell_Check a1))), (3, vB (!(cell_Check a1))), (4, gv (!(!(cell_Check a1))) (pt b0 0)), (5, gv (!(!(cell_Check a1))) (vW a1.V)), (6, gv (!(!(cell_Check a1))) (pt b0_ 0)), (7, gv (!(!(cell_Check a1))) (pt b0_ 0)), (8, gv (!(!(cell_Check a1))) (pt b0_ 0)), (9, gv (!(!(cell_Check a1))) (pt b0_ 0)), (10, gv (!(!(cell_Check a1))) (vW a0.chosen.V)), (11, gv (!(!(cell_Check a1))) (vW (a0.chosen.V + 1))), (12, gv (!(!(cell_Check a1))) (vB (a1.V != (a0.chosen.V + 1)))), (13, vB (!(cell_Check a1) || (a1.V != (a0.chosen.V + 1)))), (14, vB (!(cell_Check a1) || (a1.V != (a0.chosen.V + 1)))), (15, gv (!(!(cell_Check a1) || (a1.V != (a0.chosen.V + 1)))) (vW a2)), (16, gv (!(!(cell_Check a1) || (a1.V != (a0.chosen.V + 1)))) (pt b0_ 0)), (17, gv (!(!(cell_Check a1) || (a1.V != (a0.chosen.V + 1)))) (pt b0_ 0)), (18, gv (!(!(cell_Check a1) || (a1.V != (a0.chosen.V + 1)))) (pt b0_ 6)), (19, gv (!(!(cell_Check a1) || (a1.V != (a0.chosen.V + 1)))) (vW a0.most)), (20, gv (!(!(cell_Check a1) || (a1.V != (a0.chosen.V + 1)))) (vB (decide (a2 < a0.most)))), (21, vB ((!(cell_Check a1) || (a1.V != (a0.chosen.V + 1))) || decide (a2 < a0.most))), (22, vB ((!(cell_Check a1) || (a1.V != (a0.chosen.V + 1))) || decide (a2 < a0.most))), (23, gv (!((!(cell_Check a1) || (a1.V != (a0.chosen.V + 1))) || decide (a2 < a0.most))) (vW a2)), (24, gv (!((!(cell_Check a1) || (a1.V != (a0.chosen.V + 1))) || decide (a2 < a0.most))) (vB (a2 == 0))), (25, vB (((!(cell_Check a1) || (a1.V != (a0.chosen.V + 1))) || decide (a2 < a0.most)) || (a2 == 0)))] rfl ?_
  refine stage rfl rfl rfl rfl [0, 1, 3, 7, 15, 31, 15, 79, 207, 463, 975, 1999, 4095, 8191, 16383, 32767, 32767, 98303, 229375, 491519, 1048575, 2097151, 4194303, 8388607, 16777215, 33554431] [0, 1, 2, 3, 4, 5, 6, 7, 8, 9, 10, 11, 12, 13, 14, 15, 16, 17, 18, 19, 20, 21, 22, 23, 24, 25] [] rfl rfl rfl (qc rfl rfl (s_u (o_ldn 1 (api_View.c a1) ag67 rfl rfl rfl rfl)) (qc rfl rfl (s_u (o_callq ca46 rfl (cell_Check.ok a1 _ rfl))) (qc rfl rfl (s_u (o_not rfl)) (qc rfl rfl (s_u (o_mv rfl)) (qc rfl rfl (s_gf rfl rfl fun g => o_fa fa67_0 rfl) (qc rfl rfl (s_gf rfl rfl fun g => o_ld 1 sc22 (evg rfl g) rfl rfl) (qc rfl rfl (s_gf rfl rfl fun g => o_mv rfl) (qc rfl rfl (s_gf rfl rfl fun g => o_nc (evg rfl g)) (qc rfl rfl (s_gf rfl rfl fun g => o_fa fa114_0 (evg rfl g)) (qc rfl rfl (s_gf rfl rfl fun g => o_fa fa67_0 (evg rfl g)) (qc rfl rfl (s_gf rfl rfl fun g => o_ld 2 sc22 (evg rfl g) rfl rfl) (qc rfl rfl (s_gf rfl rfl fun g => o_bin (evg rfl g) rfl (bW_add a0.chosen.V 1)) (qc rfl rfl (s_gf rfl rfl fun g => o_bin (evg rfl g) (evg rfl g) (bW_ne a1.V (a0.chosen.V + 1))) (qc rfl rfl (s_u (o_or rfl rfl)) (qc rfl rfl (s_u (o_mv rfl)) (qc rfl rfl (s_gf rfl rfl fun g => o_mv rfl) (qc rfl rfl (s_gf rfl rfl fun g => o_mv rfl) (qc rfl rfl (s_gf rfl rfl fun g => o_nc (evg rfl g)) (qc rfl rfl (s_gf rfl rfl fun g => o_fa fa114_1 (evg rfl g)) (qc rfl rfl (s_gf rfl rfl fun g => o_ld 2 sc22 (evg rfl g) rfl rfl) (qc rfl rfl (s_gf rfl rfl fun g => o_bin (evg rfl g) (evg rfl g) (bW_lt a2 a0.most)) (qc rfl rfl (s_u (o_or rfl rfl)) (qc rfl rfl (s_u (o_mv rfl)) (qc rfl rfl (s_gf rfl rfl fun g => o_mv rfl) (qc rfl rfl (s_gf rfl rfl fun g => o_bin (evg rfl g) rfl (bW_eq a2 0)) (qc rfl rfl (s_u (o_or rfl rfl)) qn)))))))))))))))))))))))))) en ?_
  intro _
  refine ex_sub (E' := [(0, pt b0_ 0), (2, vW a2), (4, pt b0 0), (6, pt b1 0), (35, vB (((!(cell_Check a1) || (a1.V != (a0.chosen.V + 1))) || decide (a2 < a0.most)) || (a2 == 0)))]) ⟨rfl, rfl, rfl, rfl, rfl, trivial⟩ ?_
  refine x_seq ?_
  refine c_if (b := (((!(cell_Check a1) || (a1.V != (a0.chosen.V + 1))) || decide (a2 < a0.most)) || (a2 == 0))) rfl (fun h2 => ?_) fun h2 => ?_
  · have hm3 := ift hm h2
    refine c_seq ?_
    refine c_reg ?_
    refine r_u (o_mv rfl) ?_
    refine rl_st (fun _ h => st_pk 3 [2, 0, 1] (by decide) h) ?_
    refine r_c (s_w (o_call ca87 rfl (cell_Cell_promise.ok b0_ a0 false _ rfl))) ?_
    refine rl_st (fun _ h => st_pk 3 [1, 0, 2] (by decide) h) ?_
    refine r_u0 (o_stn ag108 rfl rfl rfl rfl rfl rfl rfl) ?_
    refine r_nil ?_
    refine x_seq ?_
    refine c_ret ?_
    subst hm3
    exact x_d1 rfl (rv_n 0 [vB ((cell_Cell_promise a0 false).OK), vW ((cell_Cell_promise a0 false).V), vW ((cell_Cell_promise a0 false).Most), vW ((cell_Cell_promise a0 false).Ballot), vW (((cell_Cell_promise a0 false).Value).V), vI (((cell_Cell_promise a0 false).Value).Primary), vW (((cell_Cell_promise a0 false).Value).PLife), vI (((cell_Cell_promise a0 false).Value).Backup), vW (((cell_Cell_promise a0 false).Value).BLife), vW (((cell_Cell_promise a0 false).Value).Epoch), vW (((cell_Cell_promise a0 false).Chosen).V), vI (((cell_Cell_promise a0 false).Chosen).Primary), vW (((cell_Cell_promise a0 false).Chosen).PLife), vI (((cell_Cell_promise a0 false).Chosen).Backup), vW (((cell_Cell_promise a0 false).Chosen).BLife), vW (((cell_Cell_promise a0 false).Chosen).Epoch)] ag108 rfl rfl rfl rfl) (fun _ h => st_pk 3 [1] (by decide) h) (Le.refl _) ⟨_, rfl, rfl, rfl, rfl⟩
  · have hm3 := iff_ hm h2
    refine c_skip ?_
    refine x_seq ?_
    refine c_seq ?_
    refine c_any mixed (effs := [8, 11, 14]) (V := []) ?_
    refine stage_st (fun _ h => st_pk 3 [2, 0, 1] (by decide) h) ?_
    refine stage_ext [(0, pt b0_ 0), (1, pt b0_ 0), (2, pt b0_ 0), (3, vW a2), (4, vW a2), (5, .agg (api_View.c a1).toArray), (6, pt b0_ 0), (7, pt b0_ 6)] rfl ?_
    refine stage rfl rfl rfl rfl [0, 0, 0, 0, 0, 0, 9, 73, 201, 475, 987, 2011, 4095, 8191, 16383] [0, 1, 2, 3, 4, 5, 6, 7] [8] rfl rfl rfl (qc rfl rfl (s_u (o_mv rfl)) (qc rfl rfl (s_u (o_mv rfl)) (qc rfl rfl (s_u (o_mv rfl)) (qc rfl rfl (s_u (o_mv rfl)) (qc rfl rfl (s_u (o_mv rfl)) (qc rfl rfl (s_u (o_ldn 2 (api_View.c a1) ag67 rfl rfl rfl rfl)) (qc rfl rfl (s_u (o_nc rfl)) (qc rfl rfl (s_u (o_fa fa114_1 rfl)) qn)))))))) ?_ (fun h => absurd h (by decide))
    refine ec (eo_u rfl (s_u (o_st sc22 rfl rfl rfl rfl rfl rfl)) (Le.refl _) ?_) en
    refine stage_ext [(9, pt b0_ 0), (10, pt b0_ 7)] rfl ?_
    refine stage rfl rfl rfl rfl [0, 0, 0, 0, 0, 0, 9, 73, 201, 475, 987, 2011, 4095, 8191, 16383] [1, 2, 4, 5, 9, 10] [11] rfl rfl rfl (qc rfl rfl (s_u (o_mv rfl)) (qc rfl rfl (s_u (o_mv rfl)) (qc rfl rfl (s_u (o_mv rfl)) (qc rfl rfl (s_u (o_ldn 2 (api_View.c a1) ag67 rfl rfl rfl rfl)) (qc rfl rfl (s_u (o_nc rfl)) (qc rfl rfl (s_u (o_fa fa114_2 rfl)) qn)))))) ?_ (fun h => absurd h (by decide))
    refine ec (eo_u rfl (s_u (o_st sc22 rfl rfl rfl rfl rfl rfl)) (Le.refl _) ?_) en
    refine stage_ext [(12, pt b0_ 0), (13, pt b0_ 8)] rfl ?_
    refine stage rfl rfl rfl rfl [0, 0, 0, 0, 0, 0, 9, 73, 201, 475, 987, 2011, 4095, 8191, 16383] [2, 5, 12, 13] [14] rfl rfl rfl (qc rfl rfl (s_u (o_mv rfl)) (qc rfl rfl (s_u (o_ldn 2 (api_View.c a1) ag67 rfl rfl rfl rfl)) (qc rfl rfl (s_u (o_nc rfl)) (qc rfl rfl (s_u (o_fa fa114_3 rfl)) qn)))) ?_ (fun h => absurd h (by decide))
    refine ec (eo_u rfl (s_u (o_stn ag67 rfl rfl rfl rfl rfl rfl rfl)) (Le.refl _) ?_) en
    refine stage rfl rfl rfl rfl [0, 0, 0, 0, 0, 0, 9, 73, 201, 475, 987, 2011, 4095, 8191, 16383] [] [] rfl rfl rfl qn en ?_
    intro _
    refine ex_sub (E' := [(0, pt b0_ 0), (6, pt b1 0)]) ⟨rfl, rfl, trivial⟩ ?_
    refine x_seq ?_
    refine c_seq ?_
    refine c_reg ?_
    refine r_u (o_mv rfl) ?_
    refine r_c (s_w (o_call ca87 rfl (cell_Cell_promise.ok b0_ (⟨a0.chosen, a2, a2, a1⟩ : cell_Cell) true _ rfl))) ?_
    refine rl_st (fun _ h => st_pk 3 [1, 0, 2] (by decide) h) ?_
    refine r_u0 (o_stn ag108 rfl rfl rfl rfl rfl rfl rfl) ?_
    refine r_nil ?_
    refine x_seq ?_
    refine c_ret ?_
    subst hm3
    exact x_d1 rfl (rv_n 0 [vB ((cell_Cell_promise (⟨a0.chosen, a2, a2, a1⟩ : cell_Cell) true).OK), vW ((cell_Cell_promise (⟨a0.chosen, a2, a2, a1⟩ : cell_Cell) true).V), vW ((cell_Cell_promise (⟨a0.chosen, a2, a2, a1⟩ : cell_Cell) true).Most), vW ((cell_Cell_promise (⟨a0.chosen, a2, a2, a1⟩ : cell_Cell) true).Ballot), vW (((cell_Cell_promise (⟨a0.chosen, a2, a2, a1⟩ : cell_Cell) true).Value).V), vI (((cell_Cell_promise (⟨a0.chosen, a2, a2, a1⟩ : cell_Cell) true).Value).Primary), vW (((cell_Cell_promise (⟨a0.chosen, a2, a2, a1⟩ : cell_Cell) true).Value).PLife), vI (((cell_Cell_promise (⟨a0.chosen, a2, a2, a1⟩ : cell_Cell) true).Value).Backup), vW (((cell_Cell_promise (⟨a0.chosen, a2, a2, a1⟩ : cell_Cell) true).Value).BLife), vW (((cell_Cell_promise (⟨a0.chosen, a2, a2, a1⟩ : cell_Cell) true).Value).Epoch), vW (((cell_Cell_promise (⟨a0.chosen, a2, a2, a1⟩ : cell_Cell) true).Chosen).V), vI (((cell_Cell_promise (⟨a0.chosen, a2, a2, a1⟩ : cell_Cell) true).Chosen).Primary), vW (((cell_Cell_promise (⟨a0.chosen, a2, a2, a1⟩ : cell_Cell) true).Chosen).PLife), vI (((cell_Cell_promise (⟨a0.chosen, a2, a2, a1⟩ : cell_Cell) true).Chosen).Backup), vW (((cell_Cell_promise (⟨a0.chosen, a2, a2, a1⟩ : cell_Cell) true).Chosen).BLife), vW (((cell_Cell_promise (⟨a0.chosen, a2, a2, a1⟩ : cell_Cell) true).Chosen).Epoch)] ag108 rfl rfl rfl rfl) (fun _ h => st_pk 3 [1] (by decide) h) (Le.refl _) ⟨_, rfl, rfl, rfl, rfl⟩

def hawthornlaw16_awake  : Option Bool :=
  lt (cell_New hawthornlaw16_first) fun r0 => om r0.1 (none) fun x3 => lt (cell_Cell_Prepare x3 hawthornlaw16_first 5) fun r8 => lt (cell_Cell_Accept r8.2 (⟨2, 1, 1, (-1), 0, 1⟩ : api_View) 5) fun r10 => lt (cell_Cell_Prepare r10.2 hawthornlaw16_first 6) fun r12 => some (((((((r0.2 == 0) && r8.1.OK) && r10.1.OK) && r12.1.OK) && (r12.1.Ballot == 5)) && decide (r12.1.Value = (⟨2, 1, 1, (-1), 0, 1⟩ : api_View))) && (cell_Check (⟨2, 1, 1, (-1), 0, 1⟩ : api_View)))
theorem hawthornlaw16_awake.ok {G R F} (r : Bool) (hm : hawthornlaw16_awake = some r) : CO Try.prog 45 [] G R (F)
    (Ret fun u R' L' => u = vB r ∧ R' = R ∧ L' = F) := by
  unfold hawthornlaw16_awake at hm
  refine co_ofN (N := 51) Try.func45 rfl rfl ?_
  refine c_seq ?_
  refine c_reg ?_
  refine r_u (o_as rfl) ?_
  refine r_nil ?_
  refine x_seq ?_
  refine c_seq ?_
  refine c_reg ?_
  refine r_u (o_callq ca79 rfl (hawthornlaw16_first.ok _ rfl)) ?_
  obtain ⟨r0, hr0, hm2⟩ := ltx hm
  refine r_sw (s_w (o_call ca78 rfl (cell_New.ok hawthornlaw16_first r0 hr0))) ?_
  rintro _ _ _ _ ⟨pv1, rfl, rfl, rfl⟩
  refine r_u (o_mv rfl) ?_
  refine r_u (o_ext rfl rfl) ?_
  refine r_u (o_ext rfl rfl) ?_
  refine r_u (o_as rfl) ?_
  refine r_u (o_as rfl) ?_
  refine r_nil ?_
  refine x_seq ?_
  refine c_seq ?_
  refine cd_opt (fun ho5 => ?_) (fun x3 b4 ho5 => ?_)
  · rintro rfl
    have hm6 := om_n hm2 ho5
    cases hm6
  · rintro rfl
    have hm6 := om_s hm2 ho5
    refine c_reg ?_
    refine r_u (o_bld [vW 2, vI 1, vW 1, vI (-1), vW 0, vW 1] rfl (fun _ => by kernel_rfl)) ?_
    refine r_new (o_al ze67) fun b7 => ?_
    refine r_u0 (o_stn ag67 rfl rfl rfl rfl rfl rfl rfl) ?_
    refine r_nil ?_
    refine x_seq ?_
    refine c_seq ?_
    obtain ⟨r8, hr8, hm9⟩ := ltx hm6
    obtain ⟨r10, hr10, hm11⟩ := ltx hm9
    obtain ⟨r12, hr12, hm13⟩ := ltx hm11
    refine c_anyF mixed (effs := [2, 5, 8, 12, 13, 14]) (fr := alF [(9, 108, [vB false, vW 0, vW 0, vW 0, vW 0, vI 0, vW 0, vI 0, vW 0, vW 0, vW 0, vI 0, vW 0, vI 0, vW 0, vW 0]), (10, 108, [vB false, vW 0, vW 0, vW 0, vW 0, vI 0, vW 0, vI 0, vW 0, vW 0, vW 0, vI 0, vW 0, vI 0, vW 0, vW 0]), (11, 108, [vB false, vW 0, vW 0, vW 0, vW 0, vI 0, vW 0, vI 0, vW 0, vW 0, vW 0, vI 0, vW 0, vI 0, vW 0, vW 0])]) (V := []) rfl ?_
    refine cutT (al := [(9, 108, [vB false, vW 0, vW 0, vW 0, vW 0, vI 0, vW 0, vI 0, vW 0, vW 0, vW 0, vI 0, vW 0, vI 0, vW 0, vW 0]), (10, 108, [vB false, vW 0, vW 0, vW 0, vW 0, vI 0, vW 0, vI 0, vW 0, vW 0, vW 0, vI 0, vW 0, vI 0, vW 0, vW 0]), (11, 108, [vB false, vW 0, vW 0, vW 0, vW 0, vI 0, vW 0, vI 0, vW 0, vW 0, vW 0, vI 0, vW 0, vI 0, vW 0, vW 0])]) [8, 5, 2] [(8, .agg (api_Promise.c r12.1).toArray), (7, .agg (api_View.c hawthornlaw16_first).toArray), (5, .agg (api_Promise.c r10.1).toArray), (2, .agg (api_Promise.c r8.1).toArray), (0, pt b4 0), (1, .agg (api_View.c hawthornlaw16_first).toArray), (3, pt b4 0), (4, .agg [vW 2, vI 1, vW 1, vI (-1), vW 0, vW 1].toArray), (6, pt b4 0)] (Bk b4 114 (cell_Cell.c r12.2) :: Bk b7 67 [vW 2, vI 1, vW 1, vI (-1), vW 0, vW 1] :: F) (fun bs17 => ?_) fun T22 => ?_
    · refine stage rfl rfl rfl rfl [0, 0, 3, 0, 0, 31, 0, 63, 255, 0, 0, 0, 4095, 8191, 16383] [] [12] rfl rfl rfl qn ?_ (fun h => absurd h (by decide))
      refine ec (eo_u rfl (s_u (o_stn ag108 rfl rfl rfl rfl rfl rfl rfl)) (Le.refl _) ?_) en
      refine stage_st (fun _ h => st_pk 5 [1, 0, 2, 3, 4] (by decide) h) ?_
      refine stage rfl rfl rfl rfl [0, 0, 3, 0, 0, 31, 0, 63, 255, 0, 0, 0, 4095, 8191, 16383] [] [13] rfl rfl rfl qn ?_ (fun h => absurd h (by decide))
      refine ec (eo_u rfl (s_u (o_stn ag108 rfl rfl rfl rfl rfl rfl rfl)) (Le.refl _) ?_) en
      refine stage_st (fun _ h => st_pk 5 [2, 0, 1, 3, 4] (by decide) h) ?_
      refine stage rfl rfl rfl rfl [0, 0, 3, 0, 0, 31, 0, 63, 255, 0, 0, 0, 4095, 8191, 16383] [] [14] rfl rfl rfl qn ?_ (fun h => absurd h (by decide))
      refine ec (eo_u rfl (s_u (o_stn ag108 rfl rfl rfl rfl rfl rfl rfl)) (Le.refl _) ?_) en
      refine stage rfl rfl rfl rfl [0, 0, 3, 0, 0, 31, 0, 63, 255, 0, 0, 0, 4095, 8191, 16383] [] [] rfl rfl rfl qn en ?_
      intro _
      refine ex_sub (E' := [(2, vI r0.2), (3, pt b7 0), (4, pt (bs17 9) 0), (5, pt (bs17 10) 0), (6, pt (bs17 11) 0)]) ⟨rfl, rfl, rfl, rfl, rfl, trivial⟩ ?_
      refine x_seq ?_
      refine c_seq ?_
      refine c_reg ?_
      refine r_u (o_mv rfl) ?_
      refine r_u (o_bin rfl rfl (bI_eq r0.2 0)) ?_
      refine r_u (o_mv rfl) ?_
      refine r_s (s_gt rfl rfl fun g => o_fa fa108_0 rfl) ?_
      refine r_s (s_gt rfl rfl fun g => o_ld 2 sc4 (evg rfl g) rfl rfl) ?_
      refine r_u (o_and rfl rfl) ?_
      refine r_u (o_mv rfl) ?_
      refine r_s (s_gt rfl rfl fun g => o_fa fa108_0 rfl) ?_
      refine r_s (s_gt rfl rfl fun g => o_ld 1 sc4 (evg rfl g) rfl rfl) ?_
      refine r_u (o_and rfl rfl) ?_
      refine r_u (o_mv rfl) ?_
      refine r_s (s_gt rfl rfl fun g => o_fa fa108_0 rfl) ?_
      refine r_s (s_gt rfl rfl fun g => o_ld 0 sc4 (evg rfl g) rfl rfl) ?_
      refine r_u (o_and rfl rfl) ?_
      refine r_u (o_mv rfl) ?_
      refine r_s (s_gt rfl rfl fun g => o_fa fa108_3 rfl) ?_
      refine r_s (s_gt rfl rfl fun g => o_ld 0 sc22 (evg rfl g) rfl rfl) ?_
      refine r_s (s_gt rfl rfl fun g => o_bin (evg rfl g) rfl (bW_eq r12.1.Ballot 5)) ?_
      refine r_u (o_and rfl rfl) ?_
      refine r_u (o_mv rfl) ?_
      refine r_s (s_gt rfl rfl fun g => o_fa fa108_4 rfl) ?_
      refine r_s (s_gt rfl rfl fun g => o_ldn 0 (api_View.c r12.1.Value) ag67 (evg rfl g) rfl rfl rfl) ?_
      refine r_s (s_gt rfl rfl fun g => o_ldn 4 [vW 2, vI 1, vW 1, vI (-1), vW 0, vW 1] ag67 rfl rfl rfl rfl) ?_
      refine r_s (s_gt rfl rfl fun g => o_bin (evg rfl g) (evg rfl g) (api_View.beq_67 r12.1.Value (⟨2, 1, 1, (-1), 0, 1⟩ : api_View))) ?_
      refine r_u (o_and rfl rfl) ?_
      refine r_u (o_mv rfl) ?_
      refine r_s (s_gt rfl rfl fun g => o_ldn 4 [vW 2, vI 1, vW 1, vI (-1), vW 0, vW 1] ag67 rfl rfl rfl rfl) ?_
      refine r_s (s_gt rfl rfl fun g => o_callq ca46 (evs1 (evg rfl g) evs0) (cell_Check.ok (⟨2, 1, 1, (-1), 0, 1⟩ : api_View) _ rfl)) ?_
      refine r_u (o_and rfl rfl) ?_
      refine r_u (o_as rfl) ?_
      refine r_nil ?_
      refine x_seq ?_
      refine c_ret ?_
      obtain rfl := Option.some.inj hm13
      refine ex_st (fun _ h => st_pk 5 [] (by decide) h) ?_
      exact x_r1 rfl (rv_t rfl) (Le.refl _) ⟨_, rfl, rfl, rfl, rfl⟩
    refine cutT (al := [(9, 108, [vB false, vW 0, vW 0, vW 0, vW 0, vI 0, vW 0, vI 0, vW 0, vW 0, vW 0, vI 0, vW 0, vI 0, vW 0, vW 0]), (10, 108, [vB false, vW 0, vW 0, vW 0, vW 0, vI 0, vW 0, vI 0, vW 0, vW 0, vW 0, vI 0, vW 0, vI 0, vW 0, vW 0]), (11, 108, [vB false, vW 0, vW 0, vW 0, vW 0, vI 0, vW 0, vI 0, vW 0, vW 0, vW 0, vI 0, vW 0, vI 0, vW 0, vW 0])]) [5, 2] [(7, .agg (api_View.c hawthornlaw16_first).toArray), (5, .agg (api_Promise.c r10.1).toArray), (2, .agg (api_Promise.c r8.1).toArray), (0, pt b4 0), (1, .agg (api_View.c hawthornlaw16_first).toArray), (3, pt b4 0), (4, .agg [vW 2, vI 1, vW 1, vI (-1), vW 0, vW 1].toArray), (6, pt b4 0)] (Bk b4 114 (cell_Cell.c r10.2) :: Bk b7 67 [vW 2, vI 1, vW 1, vI (-1), vW 0, vW 1] :: F) (fun bs17 => ?_) fun T21 => ?_
    · refine stage_st (fun _ h => st_pk 5 [3, 0, 1, 2, 4] (by decide) h) ?_
      refine stage rfl rfl rfl rfl [0, 0, 3, 0, 0, 31, 0, 63, 255, 0, 0, 0, 4095, 8191, 16383] [6, 7] [8] rfl rfl rfl (qc rfl rfl (s_u (o_mv rfl)) (qc rfl rfl (s_u (o_callq ca79 rfl (hawthornlaw16_first.ok _ rfl))) qn)) ?_ (fun h => absurd h (by decide))
      refine ec (eo_c rfl (s_w (o_call ca80 rfl (cell_Cell_Prepare.ok b4 r10.2 hawthornlaw16_first 6 r12 hr12))) ?_) en
      exact stage_st (fun _ h => st_pk 5 [1, 2, 3, 0, 4] (by decide) h) (T22 bs17)
    refine cutT (al := [(9, 108, [vB false, vW 0, vW 0, vW 0, vW 0, vI 0, vW 0, vI 0, vW 0, vW 0, vW 0, vI 0, vW 0, vI 0, vW 0, vW 0]), (10, 108, [vB false, vW 0, vW 0, vW 0, vW 0, vI 0, vW 0, vI 0, vW 0, vW 0, vW 0, vI 0, vW 0, vI 0, vW 0, vW 0]), (11, 108, [vB false, vW 0, vW 0, vW 0, vW 0, vI 0, vW 0, vI 0, vW 0, vW 0, vW 0, vI 0, vW 0, vI 0, vW 0, vW 0])]) [2] [(2, .agg (api_Promise.c r8.1).toArray), (0, pt b4 0), (1, .agg (api_View.c hawthornlaw16_first).toArray), (3, pt b4 0), (4, .agg [vW 2, vI 1, vW 1, vI (-1), vW 0, vW 1].toArray), (6, pt b4 0)] (Bk b4 114 (cell_Cell.c r8.2) :: Bk b7 67 [vW 2, vI 1, vW 1, vI (-1), vW 0, vW 1] :: F) (fun bs17 => ?_) fun T20 => ?_
    · refine stage_st (fun _ h => st_pk 5 [3, 0, 1, 2, 4] (by decide) h) ?_
      refine stage rfl rfl rfl rfl [0, 0, 3, 0, 0, 31, 0, 63, 255, 0, 0, 0, 4095, 8191, 16383] [3, 4, 6] [5] rfl rfl rfl (qc rfl rfl (s_u (o_mv rfl)) (qc rfl rfl (s_u (o_ldn 4 [vW 2, vI 1, vW 1, vI (-1), vW 0, vW 1] ag67 rfl rfl rfl rfl)) (qc rfl rfl (s_u (o_mv rfl)) qn))) ?_ (fun h => absurd h (by decide))
      refine ec (eo_c rfl (s_w (o_call ca81 rfl (cell_Cell_Accept.ok b4 r8.2 (⟨2, 1, 1, (-1), 0, 1⟩ : api_View) 5 r10 hr10))) ?_) en
      refine stage_ext [(7, .agg (api_View.c hawthornlaw16_first).toArray)] rfl ?_
      exact stage_st (fun _ h => st_pk 5 [1, 2, 3, 0, 4] (by decide) h) (T21 bs17)
    refine cutT (al := [(9, 108, [vB false, vW 0, vW 0, vW 0, vW 0, vI 0, vW 0, vI 0, vW 0, vW 0, vW 0, vI 0, vW 0, vI 0, vW 0, vW 0]), (10, 108, [vB false, vW 0, vW 0, vW 0, vW 0, vI 0, vW 0, vI 0, vW 0, vW 0, vW 0, vI 0, vW 0, vI 0, vW 0, vW 0]), (11, 108, [vB false, vW 0, vW 0, vW 0, vW 0, vI 0, vW 0, vI 0, vW 0, vW 0, vW 0, vI 0, vW 0, vI 0, vW 0, vW 0])]) [] [(0, pt b4 0), (1, .agg (api_View.c hawthornlaw16_first).toArray), (3, pt b4 0), (4, .agg [vW 2, vI 1, vW 1, vI (-1), vW 0, vW 1].toArray), (6, pt b4 0)] (Bk b4 114 (cell_Cell.c x3) :: Bk b7 67 [vW 2, vI 1, vW 1, vI (-1), vW 0, vW 1] :: F) (fun bs17 => ?_) fun T19 => ?_
    · refine stage_st (fun _ h => st_pk 5 [3, 0, 1, 2, 4] (by decide) h) ?_
      refine stage rfl rfl rfl rfl [0, 0, 3, 0, 0, 31, 0, 63, 255, 0, 0, 0, 4095, 8191, 16383] [0, 1, 3, 4, 6] [2] rfl rfl rfl (qc rfl rfl (s_u (o_mv rfl)) (qc rfl rfl (s_u (o_callq ca79 rfl (hawthornlaw16_first.ok _ rfl))) (qc rfl rfl (s_u (o_mv rfl)) (qc rfl rfl (s_u (o_ldn 4 [vW 2, vI 1, vW 1, vI (-1), vW 0, vW 1] ag67 rfl rfl rfl rfl)) (qc rfl rfl (s_u (o_mv rfl)) qn))))) ?_ (fun h => absurd h (by decide))
      refine ec (eo_c rfl (s_w (o_call ca80 rfl (cell_Cell_Prepare.ok b4 x3 hawthornlaw16_first 5 r8 hr8))) ?_) en
      exact stage_st (fun _ h => st_pk 5 [1, 2, 3, 0, 4] (by decide) h) (T20 bs17)
    refine stageF_st (L' := Bk b4 114 (cell_Cell.c x3) :: Bk b7 67 [vW 2, vI 1, vW 1, vI (-1), vW 0, vW 1] :: F) (fun _ _ h => st_pk 2 [1, 0] (by decide) h) ?_
    refine stageF_ext [(0, pt b4 0), (1, .agg (api_View.c hawthornlaw16_first).toArray), (3, pt b4 0), (4, .agg [vW 2, vI 1, vW 1, vI (-1), vW 0, vW 1].toArray), (6, pt b4 0)] rfl ?_
    refine stageA rfl rfl rfl rfl rfl rfl rfl [0, 0, 3, 0, 0, 31, 0, 63, 255, 0, 0, 0, 4095, 8191, 16383] [0, 1, 3, 4, 6] [2] rfl rfl rfl (tc rfl rfl (fun A => s_u (o_mv rfl)) (tc rfl rfl (fun A => s_u (o_callq ca79 rfl (hawthornlaw16_first.ok _ rfl))) (tc rfl rfl (fun A => s_u (o_mv rfl)) (tc rfl rfl (fun A => s_u (o_ldn 1 [vW 2, vI 1, vW 1, vI (-1), vW 0, vW 1] ag67 rfl rfl rfl rfl)) (tc rfl rfl (fun A => s_u (o_mv rfl)) tn))))) (ac rfl (fun A => s_w (o_al ze108)) (ac rfl (fun A => s_w (o_al ze108)) (ac rfl (fun A => s_w (o_al ze108)) an))) ?_ T19
    refine et_c (v := .agg (api_Promise.c r8.1).toArray) (L' := Bk b4 114 (cell_Cell.c r8.2) :: Bk b7 67 [vW 2, vI 1, vW 1, vI (-1), vW 0, vW 1] :: F) rfl (fun A => s_w (o_call ca80 rfl (cell_Cell_Prepare.ok b4 x3 hawthornlaw16_first 5 r8 hr8))) ?_
    refine stageA rfl rfl rfl rfl rfl rfl rfl [0, 0, 3, 0, 0, 31, 0, 63, 255, 0, 0, 0, 4095, 8191, 16383] [3, 4, 6] [5] rfl rfl rfl (tc rfl rfl (fun A => s_u (o_mv rfl)) (tc rfl rfl (fun A => s_u (o_ldn 1 [vW 2, vI 1, vW 1, vI (-1), vW 0, vW 1] ag67 rfl rfl rfl rfl)) (tc rfl rfl (fun A => s_u (o_mv rfl)) tn))) (ac rfl (fun A => s_w (o_al ze108)) (ac rfl (fun A => s_w (o_al ze108)) (ac rfl (fun A => s_w (o_al ze108)) an))) ?_ T20
    refine et_c (v := .agg (api_Promise.c r10.1).toArray) (L' := Bk b4 114 (cell_Cell.c r10.2) :: Bk b7 67 [vW 2, vI 1, vW 1, vI (-1), vW 0, vW 1] :: F) rfl (fun A => s_w (o_call ca81 rfl (cell_Cell_Accept.ok b4 r8.2 (⟨2, 1, 1, (-1), 0, 1⟩ : api_View) 5 r10 hr10))) ?_
    refine stageF_ext [(7, .agg (api_View.c hawthornlaw16_first).toArray)] rfl ?_
    refine stageA rfl rfl rfl rfl rfl rfl rfl [0, 0, 3, 0, 0, 31, 0, 63, 255, 0, 0, 0, 4095, 8191, 16383] [6, 7] [8] rfl rfl rfl (tc rfl rfl (fun A => s_u (o_mv rfl)) (tc rfl rfl (fun A => s_u (o_callq ca79 rfl (hawthornlaw16_first.ok _ rfl))) tn)) (ac rfl (fun A => s_w (o_al ze108)) (ac rfl (fun A => s_w (o_al ze108)) (ac rfl (fun A => s_w (o_al ze108)) an))) ?_ T21
    refine et_c (v := .agg (api_Promise.c r12.1).toArray) (L' := Bk b4 114 (cell_Cell.c r12.2) :: Bk b7 67 [vW 2, vI 1, vW 1, vI (-1), vW 0, vW 1] :: F) rfl (fun A => s_w (o_call ca80 rfl (cell_Cell_Prepare.ok b4 r10.2 hawthornlaw16_first 6 r12 hr12))) ?_
    exact stageA rfl rfl rfl rfl rfl rfl rfl [0, 0, 3, 0, 0, 31, 0, 63, 255, 0, 0, 0, 4095, 8191, 16383] [] [] rfl rfl rfl tn (ac rfl (fun A => s_w (o_al ze108)) (ac rfl (fun A => s_w (o_al ze108)) (ac rfl (fun A => s_w (o_al ze108)) an))) etn T22

def hawthornref16_Check (a0 : api_View) : Bool :=
  if (((((a0.V == 0) || (a0.Epoch == 0)) || decide (a0.Primary < 0)) || decide (1048576 ≤ a0.Primary)) || (a0.PLife == 0)) then false else if (a0.Backup == (-1)) then (a0.BLife == 0) else (((decide (0 ≤ a0.Backup) && decide (a0.Backup < 1048576)) && decide (0 < a0.BLife)) && (a0.Backup != a0.Primary))
theorem hawthornref16_Check.ok {G R F} (a0 : api_View) (r : Bool) (hm : hawthornref16_Check a0 = r) : CO Try.prog 47 [.agg (api_View.c a0).toArray] G R (F)
    (Ret fun u R' L' => u = vB r ∧ R' = R ∧ L' = F) := by
  unfold hawthornref16_Check at hm
  refine co_ofN (N := 52) Try.func47 rfl rfl ?_
  refine c_seq ?_
  refine c_reg ?_
  refine r_new (o_bx (api_View.c a0) rfl rfl) fun b0 => ?_
  refine r_u (o_as rfl) ?_
  refine r_nil ?_
  refine x_seq ?_
  refine c_seq ?_
  refine c_seq ?_
  refine c_reg ?_
  refine r_u (o_fa fa67_0 rfl) ?_
  refine r_u (o_ld 0 sc22 rfl rfl rfl) ?_
  refine r_u (o_bin rfl rfl (bW_eq a0.V 0)) ?_
  refine r_u (o_mv rfl) ?_
  refine r_s (s_gf rfl rfl fun g => o_fa fa67_5 rfl) ?_
  refine r_s (s_gf rfl rfl fun g => o_ld 0 sc22 (evg rfl g) rfl rfl) ?_
  refine r_s (s_gf rfl rfl fun g => o_bin (evg rfl g) rfl (bW_eq a0.Epoch 0)) ?_
  refine r_u (o_or rfl rfl) ?_
  refine r_u (o_mv rfl) ?_
  refine r_s (s_gf rfl rfl fun g => o_fa fa67_1 rfl) ?_
  refine r_s (s_gf rfl rfl fun g => o_ld 0 sc3 (evg rfl g) rfl rfl) ?_
  refine r_s (s_gf rfl rfl fun g => o_bin (evg rfl g) rfl (bI_lt a0.Primary 0)) ?_
  refine r_u (o_or rfl rfl) ?_
  refine r_u (o_mv rfl) ?_
  refine r_s (s_gf rfl rfl fun g => o_fa fa67_1 rfl) ?_
  refine r_s (s_gf rfl rfl fun g => o_ld 0 sc3 (evg rfl g) rfl rfl) ?_
  refine r_s (s_gf rfl rfl fun g => o_bin (evg rfl g) rfl (bI_ge a0.Primary 1048576)) ?_
  refine r_u (o_or rfl rfl) ?_
  refine r_u (o_mv rfl) ?_
  refine r_s (s_gf rfl rfl fun g => o_fa fa67_2 rfl) ?_
  refine r_s (s_gf rfl rfl fun g => o_ld 0 sc22 (evg rfl g) rfl rfl) ?_
  refine r_s (s_gf rfl rfl fun g => o_bin (evg rfl g) rfl (bW_eq a0.PLife 0)) ?_
  refine r_u (o_or rfl rfl) ?_
  refine r_nil ?_
  refine x_seq ?_
  refine c_if (b := (((((a0.V == 0) || (a0.Epoch == 0)) || decide (a0.Primary < 0)) || decide (1048576 ≤ a0.Primary)) || (a0.PLife == 0))) rfl (fun h1 => ?_) fun h1 => ?_
  · have hm2 := ift hm h1
    refine c_seq ?_
    refine c_reg ?_
    refine r_u (o_as rfl) ?_
    refine r_nil ?_
    refine x_seq ?_
    refine c_ret ?_
    subst hm2
    refine ex_st (fun _ h => st_pk 1 [] (by decide) h) ?_
    exact x_r1 rfl (rv_t rfl) (Le.refl _) ⟨_, rfl, rfl, rfl, rfl⟩
  · have hm2 := iff_ hm h1
    refine c_skip ?_
    refine x_seq ?_
    refine c_seq ?_
    refine c_seq ?_
    refine c_reg ?_
    refine r_u (o_fa fa67_3 rfl) ?_
    refine r_u (o_ld 0 sc3 rfl rfl rfl) ?_
    refine r_u (o_bin rfl rfl (bI_eq a0.Backup (-1))) ?_
    refine r_nil ?_
    refine x_seq ?_
    refine c_if (b := (a0.Backup == (-1))) rfl (fun h3 => ?_) fun h3 => ?_
    · have hm4 := ift hm2 h3
      refine c_seq ?_
      refine c_reg ?_
      refine r_u (o_fa fa67_4 rfl) ?_
      refine r_u (o_ld 0 sc22 rfl rfl rfl) ?_
      refine r_u (o_bin rfl rfl (bW_eq a0.BLife 0)) ?_
      refine r_u (o_as rfl) ?_
      refine r_nil ?_
      refine x_seq ?_
      refine c_ret ?_
      subst hm4
      refine ex_st (fun _ h => st_pk 1 [] (by decide) h) ?_
      exact x_r1 rfl (rv_t rfl) (Le.refl _) ⟨_, rfl, rfl, rfl, rfl⟩
    · have hm4 := iff_ hm2 h3
      refine c_skip ?_
      refine x_seq ?_
      refine c_seq ?_
      refine c_reg ?_
      refine r_u (o_fa fa67_3 rfl) ?_
      refine r_u (o_ld 0 sc3 rfl rfl rfl) ?_
      refine r_u (o_bin rfl rfl (bI_ge a0.Backup 0)) ?_
      refine r_u (o_mv rfl) ?_
      refine r_s (s_gt rfl rfl fun g => o_fa fa67_3 rfl) ?_
      refine r_s (s_gt rfl rfl fun g => o_ld 0 sc3 (evg rfl g) rfl rfl) ?_
      refine r_s (s_gt rfl rfl fun g => o_bin (evg rfl g) rfl (bI_lt a0.Backup 1048576)) ?_
      refine r_u (o_and rfl rfl) ?_
      refine r_u (o_mv rfl) ?_
      refine r_s (s_gt rfl rfl fun g => o_fa fa67_4 rfl) ?_
      refine r_s (s_gt rfl rfl fun g => o_ld 0 sc22 (evg rfl g) rfl rfl) ?_
      refine r_s (s_gt rfl rfl fun g => o_bin (evg rfl g) rfl (bW_gt a0.BLife 0)) ?_
      refine r_u (o_and rfl rfl) ?_
      refine r_u (o_mv rfl) ?_
      refine r_s (s_gt rfl rfl fun g => o_fa fa67_3 rfl) ?_
      refine r_s (s_gt rfl rfl fun g => o_ld 0 sc3 (evg rfl g) rfl rfl) ?_
      refine r_s (s_gt rfl rfl fun g => o_fa fa67_1 rfl) ?_
      refine r_s (s_gt rfl rfl fun g => o_ld 0 sc3 (evg rfl g) rfl rfl) ?_
      refine r_s (s_gt rfl rfl fun g => o_bin (evg rfl g) (evg rfl g) (bI_ne a0.Backup a0.Primary)) ?_
      refine r_u (o_and rfl rfl) ?_
      refine r_u (o_as rfl) ?_
      refine r_nil ?_
      refine x_seq ?_
      refine c_ret ?_
      subst hm4
      refine ex_st (fun _ h => st_pk 1 [] (by decide) h) ?_
      exact x_r1 rfl (rv_t rfl) (Le.refl _) ⟨_, rfl, rfl, rfl, rfl⟩

def cell_Put (a0 : api_View) : Option Str :=
  Option.bind (if decide (a0 = (⟨0, 0, 0, 0, 0, 0⟩ : api_View)) then some (-1) else some a0.Backup) fun p1 => (wire_Num a0.V).bind fun r5 => (wire_Num (toW a0.Primary)).bind fun r7 => if r5.length + r7.length ≤ maxS then (wire_Num a0.PLife).bind fun r11 => if (r5 ++ r7).length + r11.length ≤ maxS then (wire_Num (toW (i64 (p1 + 1)))).bind fun r15 => if ((r5 ++ r7) ++ r11).length + r15.length ≤ maxS then (wire_Num a0.BLife).bind fun r19 => if (((r5 ++ r7) ++ r11) ++ r15).length + r19.length ≤ maxS then (wire_Num a0.Epoch).bind fun r23 => if ((((r5 ++ r7) ++ r11) ++ r15) ++ r19).length + r23.length ≤ maxS then some (((((r5 ++ r7) ++ r11) ++ r15) ++ r19) ++ r23) else none else none else none else none else none
theorem cell_Put.ok {G R F} (a0 : api_View) (r : Str) (hm : cell_Put a0 = some r) : CO Try.prog 48 [.agg (api_View.c a0).toArray] G R (F)
    (Ret fun u R' L' => u = vS r ∧ R' = R ∧ L' = F) := by
  unfold cell_Put at hm
  refine co_ofN (N := 33) Try.func48 rfl rfl ?_
  refine c_seq ?_
  refine c_reg ?_
  refine r_new (o_bx (api_View.c a0) rfl rfl) fun b0 => ?_
  refine r_u (o_as rfl) ?_
  refine r_nil ?_
  refine x_seq ?_
  refine c_seq ?_
  refine c_seq ?_
  refine c_reg ?_
  refine r_u (o_ldn 0 (api_View.c a0) ag67 rfl rfl rfl rfl) ?_
  refine r_u (o_bld [vW 0, vI 0, vW 0, vI 0, vW 0, vW 0] rfl (fun _ => by kernel_rfl)) ?_
  refine r_u (o_bin rfl rfl (api_View.beq_67 a0 (⟨0, 0, 0, 0, 0, 0⟩ : api_View))) ?_
  refine r_nil ?_
  refine x_seq ?_
  obtain ⟨p1, hp2, hm3⟩ := bs hm
  refine cd_join (E' := [(1, pt b0 0)]) (L' := Bk b0 67 [vW a0.V, vI a0.Primary, vW a0.PLife, vI p1, vW a0.BLife, vW a0.Epoch] :: F) ?_ fun K4 => ?_
  · refine x_seq ?_
    refine c_seq ?_
    obtain ⟨r5, hr5, hm6⟩ := bs hm3
    obtain ⟨r7, hr7, hm8⟩ := bs hm6
    obtain ⟨h9, hm10⟩ := ig hm8
    obtain ⟨r11, hr11, hm12⟩ := bs hm10
    obtain ⟨h13, hm14⟩ := ig hm12
    obtain ⟨r15, hr15, hm16⟩ := bs hm14
    obtain ⟨h17, hm18⟩ := ig hm16
    obtain ⟨r19, hr19, hm20⟩ := bs hm18
    obtain ⟨h21, hm22⟩ := ig hm20
    obtain ⟨r23, hr23, hm24⟩ := bs hm22
    obtain ⟨h25, hm26⟩ := ig hm24
    refine c_any mixed (effs := []) (V := []) ?_
    refine stage_ext [(0, pt b0 0), (1, vW a0.V), (2, vS r5), (3, pt b0 1), (4, vI a0.Primary), (5, vW (toW a0.Primary)), (6, vS r7), (7, vS (r5 ++ r7)), (8, pt b0 2), (9, vW a0.PLife), (10, vS r11), (11, vS ((r5 ++ r7) ++ r11)), (12, pt b0 3), (13, vI p1), (14, vI (i64 (p1 + 1))), (15, vW (toW (i64 (p1 + 1)))), (16, vS r15), (17, vS (((r5 ++ r7) ++ r11) ++ r15)), (18, pt b0 4), (19, vW a0.BLife), (20, vS r19), (21, vS ((((r5 ++ r7) ++ r11) ++ r15) ++ r19)), (22, pt b0 5), (23, vW a0.Epoch), (24, vS r23), (25, vS (((((r5 ++ r7) ++ r11) ++ r15) ++ r19) ++ r23)), (26, vS (((((r5 ++ r7) ++ r11) ++ r15) ++ r19) ++ r23))] rfl ?_
    refine stage rfl rfl rfl rfl [0, 1, 3, 0, 8, 24, 63, 127, 0, 256, 895, 2047, 0, 4096, 12288, 28672, 63359, 131071, 0, 262144, 915327, 2097151, 0, 4194304, 14546815, 33554431, 67108863] [0, 1, 2, 3, 4, 5, 6, 7, 8, 9, 10, 11, 12, 13, 14, 15, 16, 17, 18, 19, 20, 21, 22, 23, 24, 25, 26] [] rfl rfl rfl (qc rfl rfl (s_u (o_fa fa67_0 rfl)) (qc rfl rfl (s_u (o_ld 0 sc22 rfl rfl rfl)) (qc rfl rfl (s_u (o_callq ca17 rfl (wire_Num.ok a0.V r5 hr5))) (qc rfl rfl (s_u (o_fa fa67_1 rfl)) (qc rfl rfl (s_u (o_ld 0 sc3 rfl rfl rfl)) (qc rfl rfl (s_u (o_cv rfl (cIW Try.underlying3 Try.underlying22 a0.Primary))) (qc rfl rfl (s_u (o_callq ca17 rfl (wire_Num.ok (toW a0.Primary) r7 hr7))) (qc rfl rfl (s_u (o_bin rfl rfl (bS_add r5 r7 h9))) (qc rfl rfl (s_u (o_fa fa67_2 rfl)) (qc rfl rfl (s_u (o_ld 0 sc22 rfl rfl rfl)) (qc rfl rfl (s_u (o_callq ca17 rfl (wire_Num.ok a0.PLife r11 hr11))) (qc rfl rfl (s_u (o_bin rfl rfl (bS_add (r5 ++ r7) r11 h13))) (qc rfl rfl (s_u (o_fa fa67_3 rfl)) (qc rfl rfl (s_u (o_ld 0 sc3 rfl rfl rfl)) (qc rfl rfl (s_u (o_bin rfl rfl (bI_add p1 1))) (qc rfl rfl (s_u (o_cv rfl (cIW Try.underlying3 Try.underlying22 (i64 (p1 + 1))))) (qc rfl rfl (s_u (o_callq ca17 rfl (wire_Num.ok (toW (i64 (p1 + 1))) r15 hr15))) (qc rfl rfl (s_u (o_bin rfl rfl (bS_add ((r5 ++ r7) ++ r11) r15 h17))) (qc rfl rfl (s_u (o_fa fa67_4 rfl)) (qc rfl rfl (s_u (o_ld 0 sc22 rfl rfl rfl)) (qc rfl rfl (s_u (o_callq ca17 rfl (wire_Num.ok a0.BLife r19 hr19))) (qc rfl rfl (s_u (o_bin rfl rfl (bS_add (((r5 ++ r7) ++ r11) ++ r15) r19 h21))) (qc rfl rfl (s_u (o_fa fa67_5 rfl)) (qc rfl rfl (s_u (o_ld 0 sc22 rfl rfl rfl)) (qc rfl rfl (s_u (o_callq ca17 rfl (wire_Num.ok a0.Epoch r23 hr23))) (qc rfl rfl (s_u (o_bin rfl rfl (bS_add ((((r5 ++ r7) ++ r11) ++ r15) ++ r19) r23 h25))) (qc rfl rfl (s_u (o_as rfl)) qn))))))))))))))))))))))))))) en ?_
    intro _
    refine ex_sub (E' := [(2, vS (((((r5 ++ r7) ++ r11) ++ r15) ++ r19) ++ r23))]) ⟨rfl, trivial⟩ ?_
    refine x_seq ?_
    refine c_ret ?_
    obtain rfl := Option.some.inj hm26
    refine ex_st (fun _ h => st_pk 1 [] (by decide) h) ?_
    exact x_r1 rfl (rv_t rfl) (Le.refl _) ⟨_, rfl, rfl, rfl, rfl⟩
  · refine c_if (b := decide (a0 = (⟨0, 0, 0, 0, 0, 0⟩ : api_View))) rfl (fun h27 => ?_) fun h27 => ?_
    · have hm28 := ift hp2 h27
      refine c_reg ?_
      refine r_u (o_fa fa67_3 rfl) ?_
      refine r_u0 (o_st sc3 rfl rfl rfl rfl rfl rfl) ?_
      refine r_nil ?_
      obtain rfl := Option.some.inj hm28
      exact x_sub (K4) ⟨rfl, trivial⟩ (fun _ h => st_pk 1 [0] (by decide) h)
    · have hm28 := iff_ hp2 h27
      refine c_skip ?_
      obtain rfl := Option.some.inj hm28
      exact x_sub (K4) ⟨rfl, trivial⟩ (fun _ h => st_pk 1 [0] (by decide) h)

def cell_TakeView (a0 : wire_Reader) : Option ((api_View × wire_Reader) ⊕ (Int × wire_Reader)) :=
  (wire_Reader_Num a0 18446744073709551615).bind fun r1 => sm r1 (fun (ra3 : UInt64 × wire_Reader) => (wire_Reader_Num ra3.2 1048576).bind fun r7 => sm r7 (fun (ra9 : UInt64 × wire_Reader) => (wire_Reader_Num ra9.2 18446744073709551615).bind fun r13 => sm r13 (fun (ra15 : UInt64 × wire_Reader) => (wire_Reader_Num ra15.2 1048576).bind fun r19 => sm r19 (fun (ra21 : UInt64 × wire_Reader) => (wire_Reader_Num ra21.2 18446744073709551615).bind fun r25 => sm r25 (fun (ra27 : UInt64 × wire_Reader) => (wire_Reader_Num ra27.2 18446744073709551615).bind fun r31 => sm r31 (fun (ra33 : UInt64 × wire_Reader) => if decide ((⟨ra3.1, i64 (ra9.1.toNat : Int), ra15.1, i64 ((i64 (ra21.1.toNat : Int)) - 1), ra27.1, ra33.1⟩ : api_View) = (⟨0, 0, 0, (-1), 0, 0⟩ : api_View)) then some (Sum.inl ((⟨0, 0, 0, 0, 0, 0⟩ : api_View), ra33.2)) else lt (wire_Reader_Must ra33.2 (cell_Check (⟨ra3.1, i64 (ra9.1.toNat : Int), ra15.1, i64 ((i64 (ra21.1.toNat : Int)) - 1), ra27.1, ra33.1⟩ : api_View))) fun r40 => sm r40 (fun (ra42 : Unit) => some (Sum.inl ((⟨ra3.1, i64 (ra9.1.toNat : Int), ra15.1, i64 ((i64 (ra21.1.toNat : Int)) - 1), ra27.1, ra33.1⟩ : api_View), ra33.2))) fun ((rn43, ro44) : Int × Unit) => some (Sum.inr (rn43, ra33.2))) fun ((rn34, ro35) : Int × wire_Reader) => some (Sum.inr (rn34, ro35))) fun ((rn28, ro29) : Int × wire_Reader) => some (Sum.inr (rn28, ro29))) fun ((rn22, ro23) : Int × wire_Reader) => some (Sum.inr (rn22, ro23))) fun ((rn16, ro17) : Int × wire_Reader) => some (Sum.inr (rn16, ro17))) fun ((rn10, ro11) : Int × wire_Reader) => some (Sum.inr (rn10, ro11))) fun ((rn4, ro5) : Int × wire_Reader) => some (Sum.inr (rn4, ro5))
theorem cell_TakeView.ok {G R F} (b0_ : Nat) (a0 : wire_Reader) (r : (api_View × wire_Reader) ⊕ (Int × wire_Reader)) (hm : cell_TakeView a0 = some r) : CO Try.prog 50 [pt b0_ 0] G R (Bk b0_ 101 (wire_Reader.c a0) :: F)
    (PK 99 r (fun (a : api_View × wire_Reader) u R' L' => u = .agg (api_View.c a.1).toArray ∧ R' = R ∧ L' = Bk b0_ 101 (wire_Reader.c a.2) :: F) (fun n (o : wire_Reader) R' L' => R' = R ∧ L' = Bk b0_ 101 (wire_Reader.c o) :: F)) := by
  unfold cell_TakeView at hm
  refine co_ofN (N := 29) Try.func50 rfl rfl ?_
  refine c_seq ?_
  refine c_reg ?_
  refine r_new (o_al ze67) fun b0 => ?_
  refine r_nil ?_
  refine x_seq ?_
  refine c_seq ?_
  obtain ⟨r1, hr1, hm2⟩ := bs hm
  rcases r1 with ra3 | ⟨rn4, ro5⟩
  · have hm6 := sm_l hm2
    obtain ⟨r7, hr7, hm8⟩ := bs hm6
    rcases r7 with ra9 | ⟨rn10, ro11⟩
    · have hm12 := sm_l hm8
      obtain ⟨r13, hr13, hm14⟩ := bs hm12
      rcases r13 with ra15 | ⟨rn16, ro17⟩
      · have hm18 := sm_l hm14
        obtain ⟨r19, hr19, hm20⟩ := bs hm18
        rcases r19 with ra21 | ⟨rn22, ro23⟩
        · have hm24 := sm_l hm20
          obtain ⟨r25, hr25, hm26⟩ := bs hm24
          rcases r25 with ra27 | ⟨rn28, ro29⟩
          · have hm30 := sm_l hm26
            obtain ⟨r31, hr31, hm32⟩ := bs hm30
            rcases r31 with ra33 | ⟨rn34, ro35⟩
            · have hm36 := sm_l hm32
              refine c_reg ?_
              refine r_u (o_mv rfl) ?_
              refine rl_st (fun _ h => st_pk 2 [1, 0] (by decide) h) ?_
              refine r_c (s_w (o_callL ca30 rfl (wire_Reader_Num.ok b0_ a0 18446744073709551615 (Sum.inl ra3) hr1) (fun _ _ _ h => h))) ?_
              refine r_u (o_mv rfl) ?_
              refine r_c (s_w (o_callL ca30 rfl (wire_Reader_Num.ok b0_ ra3.2 1048576 (Sum.inl ra9) hr7) (fun _ _ _ h => h))) ?_
              refine r_u (o_cv rfl (cWI Try.underlying22 Try.underlying3 ra9.1)) ?_
              refine r_u (o_mv rfl) ?_
              refine r_c (s_w (o_callL ca30 rfl (wire_Reader_Num.ok b0_ ra9.2 18446744073709551615 (Sum.inl ra15) hr13) (fun _ _ _ h => h))) ?_
              refine r_u (o_mv rfl) ?_
              refine r_c (s_w (o_callL ca30 rfl (wire_Reader_Num.ok b0_ ra15.2 1048576 (Sum.inl ra21) hr19) (fun _ _ _ h => h))) ?_
              refine r_u (o_cv rfl (cWI Try.underlying22 Try.underlying3 ra21.1)) ?_
              refine r_u (o_bin rfl rfl (bI_sub (i64 (ra21.1.toNat : Int)) 1)) ?_
              refine r_u (o_mv rfl) ?_
              refine r_c (s_w (o_callL ca30 rfl (wire_Reader_Num.ok b0_ ra21.2 18446744073709551615 (Sum.inl ra27) hr25) (fun _ _ _ h => h))) ?_
              refine r_u (o_mv rfl) ?_
              refine r_c (s_w (o_callL ca30 rfl (wire_Reader_Num.ok b0_ ra27.2 18446744073709551615 (Sum.inl ra33) hr31) (fun _ _ _ h => h))) ?_
              refine r_u (o_bld [vW ra3.1, vI (i64 (ra9.1.toNat : Int)), vW ra15.1, vI (i64 ((i64 (ra21.1.toNat : Int)) - 1)), vW ra27.1, vW ra33.1] rfl (fun _ => by kernel_rfl)) ?_
              refine r_new (o_al ze67) fun b37 => ?_
              refine r_u0 (o_stn ag67 rfl rfl rfl rfl rfl rfl rfl) ?_
              refine r_nil ?_
              refine x_seq ?_
              refine c_seq ?_
              refine c_seq ?_
              refine c_reg ?_
              refine r_u (o_ldn 0 [vW ra3.1, vI (i64 (ra9.1.toNat : Int)), vW ra15.1, vI (i64 ((i64 (ra21.1.toNat : Int)) - 1)), vW ra27.1, vW ra33.1] ag67 rfl rfl rfl rfl) ?_
              refine r_u (o_bld [vW 0, vI 0, vW 0, vI (-1), vW 0, vW 0] rfl (fun _ => by kernel_rfl)) ?_
              refine r_u (o_bin rfl rfl (api_View.beq_67 (⟨ra3.1, i64 (ra9.1.toNat : Int), ra15.1, i64 ((i64 (ra21.1.toNat : Int)) - 1), ra27.1, ra33.1⟩ : api_View) (⟨0, 0, 0, (-1), 0, 0⟩ : api_View))) ?_
              refine r_nil ?_
              refine x_seq ?_
              refine c_if (b := decide ((⟨ra3.1, i64 (ra9.1.toNat : Int), ra15.1, i64 ((i64 (ra21.1.toNat : Int)) - 1), ra27.1, ra33.1⟩ : api_View) = (⟨0, 0, 0, (-1), 0, 0⟩ : api_View))) rfl (fun h38 => ?_) fun h38 => ?_
              · have hm39 := ift hm36 h38
                refine c_seq ?_
                refine c_reg ?_
                refine r_u (o_bld [vW 0, vI 0, vW 0, vI 0, vW 0, vW 0] rfl (fun _ => by kernel_rfl)) ?_
                refine rl_st (fun _ h => st_pk 3 [2, 0, 1] (by decide) h) ?_
                refine r_u0 (o_stn ag67 rfl rfl rfl rfl rfl rfl rfl) ?_
                refine r_nil ?_
                refine x_seq ?_
                refine c_ret ?_
                obtain rfl := Option.some.inj hm39
                exact x_d1 rfl (rv_n 0 [vW 0, vI 0, vW 0, vI 0, vW 0, vW 0] ag67 rfl rfl rfl rfl) (fun _ h => st_pk 3 [2] (by decide) h) (Le.refl _) (.inl ⟨_, rfl, _, rfl, rfl, rfl, rfl⟩)
              · have hm39 := iff_ hm36 h38
                refine c_skip ?_
                refine x_seq ?_
                refine c_seq ?_
                obtain ⟨r40, hr40, hm41⟩ := ltx hm39
                rcases r40 with ra42 | ⟨rn43, ro44⟩
                · have hm45 := sm_l hm41
                  refine c_reg ?_
                  refine r_u (o_mv rfl) ?_
                  refine r_u (o_ldn 0 [vW ra3.1, vI (i64 (ra9.1.toNat : Int)), vW ra15.1, vI (i64 ((i64 (ra21.1.toNat : Int)) - 1)), vW ra27.1, vW ra33.1] ag67 rfl rfl rfl rfl) ?_
                  refine r_u (o_callq ca46 rfl (cell_Check.ok (⟨ra3.1, i64 (ra9.1.toNat : Int), ra15.1, i64 ((i64 (ra21.1.toNat : Int)) - 1), ra27.1, ra33.1⟩ : api_View) _ rfl)) ?_
                  refine rl_st (fun _ h => st_pk 3 [1, 0, 2] (by decide) h) ?_
                  refine r_c (s_w (o_callL ca35 rfl (wire_Reader_Must.ok b0_ ra33.2 (cell_Check (⟨ra3.1, i64 (ra9.1.toNat : Int), ra15.1, i64 ((i64 (ra21.1.toNat : Int)) - 1), ra27.1, ra33.1⟩ : api_View)) (Sum.inl ra42) hr40) (fun _ _ _ h => h))) ?_
                  refine r_nil ?_
                  refine x_seq ?_
                  refine c_seq ?_
                  refine c_reg ?_
                  refine r_u (o_ldn 1 [vW ra3.1, vI (i64 (ra9.1.toNat : Int)), vW ra15.1, vI (i64 ((i64 (ra21.1.toNat : Int)) - 1)), vW ra27.1, vW ra33.1] ag67 rfl rfl rfl rfl) ?_
                  refine rl_st (fun _ h => st_pk 3 [2, 0, 1] (by decide) h) ?_
                  refine r_u0 (o_stn ag67 rfl rfl rfl rfl rfl rfl rfl) ?_
                  refine r_nil ?_
                  refine x_seq ?_
                  refine c_ret ?_
                  obtain rfl := Option.some.inj hm45
                  exact x_d1 rfl (rv_n 0 [vW ra3.1, vI (i64 (ra9.1.toNat : Int)), vW ra15.1, vI (i64 ((i64 (ra21.1.toNat : Int)) - 1)), vW ra27.1, vW ra33.1] ag67 rfl rfl rfl rfl) (fun _ h => st_pk 3 [1] (by decide) h) (Le.refl _) (.inl ⟨_, rfl, _, rfl, rfl, rfl, rfl⟩)
                · have hm45 := sm_r hm41
                  refine c_reg ?_
                  refine r_u (o_mv rfl) ?_
                  refine r_u (o_ldn 0 [vW ra3.1, vI (i64 (ra9.1.toNat : Int)), vW ra15.1, vI (i64 ((i64 (ra21.1.toNat : Int)) - 1)), vW ra27.1, vW ra33.1] ag67 rfl rfl rfl rfl) ?_
                  refine r_u (o_callq ca46 rfl (cell_Check.ok (⟨ra3.1, i64 (ra9.1.toNat : Int), ra15.1, i64 ((i64 (ra21.1.toNat : Int)) - 1), ra27.1, ra33.1⟩ : api_View) _ rfl)) ?_
                  refine rl_st (fun _ h => st_pk 3 [1, 0, 2] (by decide) h) ?_
                  obtain rfl := Option.some.inj hm45
                  exact r_sw (s_w (o_callR ca35 rfl (wire_Reader_Must.ok b0_ ra33.2 (cell_Check (⟨ra3.1, i64 (ra9.1.toNat : Int), ra15.1, i64 ((i64 (ra21.1.toNat : Int)) - 1), ra27.1, ra33.1⟩ : api_View)) (Sum.inr (rn43, ro44)) hr40) (by rintro _ _ _ ⟨rfl, rfl⟩; exact (px_st (fun _ h => st_pk 3 [0] (by decide) h) (px_of (Le.refl _) (.inr ⟨_, rfl, _, rfl, rfl, rfl⟩)))))) (fun _ _ _ _ h => h.elim)
            · have hm36 := sm_r hm32
              refine c_reg ?_
              refine r_u (o_mv rfl) ?_
              refine rl_st (fun _ h => st_pk 2 [1, 0] (by decide) h) ?_
              refine r_c (s_w (o_callL ca30 rfl (wire_Reader_Num.ok b0_ a0 18446744073709551615 (Sum.inl ra3) hr1) (fun _ _ _ h => h))) ?_
              refine r_u (o_mv rfl) ?_
              refine r_c (s_w (o_callL ca30 rfl (wire_Reader_Num.ok b0_ ra3.2 1048576 (Sum.inl ra9) hr7) (fun _ _ _ h => h))) ?_
              refine r_u (o_cv rfl (cWI Try.underlying22 Try.underlying3 ra9.1)) ?_
              refine r_u (o_mv rfl) ?_
              refine r_c (s_w (o_callL ca30 rfl (wire_Reader_Num.ok b0_ ra9.2 18446744073709551615 (Sum.inl ra15) hr13) (fun _ _ _ h => h))) ?_
              refine r_u (o_mv rfl) ?_
              refine r_c (s_w (o_callL ca30 rfl (wire_Reader_Num.ok b0_ ra15.2 1048576 (Sum.inl ra21) hr19) (fun _ _ _ h => h))) ?_
              refine r_u (o_cv rfl (cWI Try.underlying22 Try.underlying3 ra21.1)) ?_
              refine r_u (o_bin rfl rfl (bI_sub (i64 (ra21.1.toNat : Int)) 1)) ?_
              refine r_u (o_mv rfl) ?_
              refine r_c (s_w (o_callL ca30 rfl (wire_Reader_Num.ok b0_ ra21.2 18446744073709551615 (Sum.inl ra27) hr25) (fun _ _ _ h => h))) ?_
              refine r_u (o_mv rfl) ?_
              obtain rfl := Option.some.inj hm36
              exact r_sw (s_w (o_callR ca30 rfl (wire_Reader_Num.ok b0_ ra27.2 18446744073709551615 (Sum.inr (rn34, ro35)) hr31) (by rintro _ _ _ ⟨rfl, rfl⟩; exact (px_st (fun _ h => st_pk 2 [0] (by decide) h) (px_of (Le.refl _) (.inr ⟨_, rfl, _, rfl, rfl, rfl⟩)))))) (fun _ _ _ _ h => h.elim)
          · have hm30 := sm_r hm26
            refine c_reg ?_
            refine r_u (o_mv rfl) ?_
            refine rl_st (fun _ h => st_pk 2 [1, 0] (by decide) h) ?_
            refine r_c (s_w (o_callL ca30 rfl (wire_Reader_Num.ok b0_ a0 18446744073709551615 (Sum.inl ra3) hr1) (fun _ _ _ h => h))) ?_
            refine r_u (o_mv rfl) ?_
            refine r_c (s_w (o_callL ca30 rfl (wire_Reader_Num.ok b0_ ra3.2 1048576 (Sum.inl ra9) hr7) (fun _ _ _ h => h))) ?_
            refine r_u (o_cv rfl (cWI Try.underlying22 Try.underlying3 ra9.1)) ?_
            refine r_u (o_mv rfl) ?_
            refine r_c (s_w (o_callL ca30 rfl (wire_Reader_Num.ok b0_ ra9.2 18446744073709551615 (Sum.inl ra15) hr13) (fun _ _ _ h => h))) ?_
            refine r_u (o_mv rfl) ?_
            refine r_c (s_w (o_callL ca30 rfl (wire_Reader_Num.ok b0_ ra15.2 1048576 (Sum.inl ra21) hr19) (fun _ _ _ h => h))) ?_
            refine r_u (o_cv rfl (cWI Try.underlying22 Try.underlying3 ra21.1)) ?_
            refine r_u (o_bin rfl rfl (bI_sub (i64 (ra21.1.toNat : Int)) 1)) ?_
            refine r_u (o_mv rfl) ?_
            obtain rfl := Option.some.inj hm30
            exact r_sw (s_w (o_callR ca30 rfl (wire_Reader_Num.ok b0_ ra21.2 18446744073709551615 (Sum.inr (rn28, ro29)) hr25) (by rintro _ _ _ ⟨rfl, rfl⟩; exact (px_st (fun _ h => st_pk 2 [0] (by decide) h) (px_of (Le.refl _) (.inr ⟨_, rfl, _, rfl, rfl, rfl⟩)))))) (fun _ _ _ _ h => h.elim)
        · have hm24 := sm_r hm20
          refine c_reg ?_
          refine r_u (o_mv rfl) ?_
          refine rl_st (fun _ h => st_pk 2 [1, 0] (by decide) h) ?_
          refine r_c (s_w (o_callL ca30 rfl (wire_Reader_Num.ok b0_ a0 18446744073709551615 (Sum.inl ra3) hr1) (fun _ _ _ h => h))) ?_
          refine r_u (o_mv rfl) ?_
          refine r_c (s_w (o_callL ca30 rfl (wire_Reader_Num.ok b0_ ra3.2 1048576 (Sum.inl ra9) hr7) (fun _ _ _ h => h))) ?_
          refine r_u (o_cv rfl (cWI Try.underlying22 Try.underlying3 ra9.1)) ?_
          refine r_u (o_mv rfl) ?_
          refine r_c (s_w (o_callL ca30 rfl (wire_Reader_Num.ok b0_ ra9.2 18446744073709551615 (Sum.inl ra15) hr13) (fun _ _ _ h => h))) ?_
          refine r_u (o_mv rfl) ?_
          obtain rfl := Option.some.inj hm24
          exact r_sw (s_w (o_callR ca30 rfl (wire_Reader_Num.ok b0_ ra15.2 1048576 (Sum.inr (rn22, ro23)) hr19) (by rintro _ _ _ ⟨rfl, rfl⟩; exact (px_st (fun _ h => st_pk 2 [0] (by decide) h) (px_of (Le.refl _) (.inr ⟨_, rfl, _, rfl, rfl, rfl⟩)))))) (fun _ _ _ _ h => h.elim)
      · have hm18 := sm_r hm14
        refine c_reg ?_
        refine r_u (o_mv rfl) ?_
        refine rl_st (fun _ h => st_pk 2 [1, 0] (by decide) h) ?_
        refine r_c (s_w (o_callL ca30 rfl (wire_Reader_Num.ok b0_ a0 18446744073709551615 (Sum.inl ra3) hr1) (fun _ _ _ h => h))) ?_
        refine r_u (o_mv rfl) ?_
        refine r_c (s_w (o_callL ca30 rfl (wire_Reader_Num.ok b0_ ra3.2 1048576 (Sum.inl ra9) hr7) (fun _ _ _ h => h))) ?_
        refine r_u (o_cv rfl (cWI Try.underlying22 Try.underlying3 ra9.1)) ?_
        refine r_u (o_mv rfl) ?_
        obtain rfl := Option.some.inj hm18
        exact r_sw (s_w (o_callR ca30 rfl (wire_Reader_Num.ok b0_ ra9.2 18446744073709551615 (Sum.inr (rn16, ro17)) hr13) (by rintro _ _ _ ⟨rfl, rfl⟩; exact (px_st (fun _ h => st_pk 2 [0] (by decide) h) (px_of (Le.refl _) (.inr ⟨_, rfl, _, rfl, rfl, rfl⟩)))))) (fun _ _ _ _ h => h.elim)
    · have hm12 := sm_r hm8
      refine c_reg ?_
      refine r_u (o_mv rfl) ?_
      refine rl_st (fun _ h => st_pk 2 [1, 0] (by decide) h) ?_
      refine r_c (s_w (o_callL ca30 rfl (wire_Reader_Num.ok b0_ a0 18446744073709551615 (Sum.inl ra3) hr1) (fun _ _ _ h => h))) ?_
      refine r_u (o_mv rfl) ?_
      obtain rfl := Option.some.inj hm12
      exact r_sw (s_w (o_callR ca30 rfl (wire_Reader_Num.ok b0_ ra3.2 1048576 (Sum.inr (rn10, ro11)) hr7) (by rintro _ _ _ ⟨rfl, rfl⟩; exact (px_st (fun _ h => st_pk 2 [0] (by decide) h) (px_of (Le.refl _) (.inr ⟨_, rfl, _, rfl, rfl, rfl⟩)))))) (fun _ _ _ _ h => h.elim)
  · have hm6 := sm_r hm2
    refine c_reg ?_
    refine r_u (o_mv rfl) ?_
    refine rl_st (fun _ h => st_pk 2 [1, 0] (by decide) h) ?_
    obtain rfl := Option.some.inj hm6
    exact r_sw (s_w (o_callR ca30 rfl (wire_Reader_Num.ok b0_ a0 18446744073709551615 (Sum.inr (rn4, ro5)) hr1) (by rintro _ _ _ ⟨rfl, rfl⟩; exact (px_st (fun _ h => st_pk 2 [0] (by decide) h) (px_of (Le.refl _) (.inr ⟨_, rfl, _, rfl, rfl, rfl⟩)))))) (fun _ _ _ _ h => h.elim)

def hawthornlaw16_CellViews_1 (a0 : wire_Reader) (a1 : api_View) : Option ((wire_Reader × api_View) ⊕ (Int × (wire_Reader × api_View))) :=
  (cell_TakeView a0).bind fun r0 => sm r0 (fun (ra2 : api_View × wire_Reader) => some (Sum.inl (ra2.2, ra2.1))) fun ((rn3, ro4) : Int × wire_Reader) => some (Sum.inr (rn3, (ro4, a1)))
theorem hawthornlaw16_CellViews_1.ok {G R F} (b0_ : Nat) (a0 : wire_Reader) (b1_ : Nat) (a1 : api_View) (r : (wire_Reader × api_View) ⊕ (Int × (wire_Reader × api_View))) (hm : hawthornlaw16_CellViews_1 a0 a1 = some r) : CO Try.prog 49 [pt b0_ 0, pt b1_ 0] G R (Bk b0_ 101 (wire_Reader.c a0) :: Bk b1_ 67 (api_View.c a1) :: F)
    (PK 99 r (fun (a : wire_Reader × api_View) u R' L' => u = .tuple #[] ∧ R' = R ∧ L' = Bk b0_ 101 (wire_Reader.c a.1) :: Bk b1_ 67 (api_View.c a.2) :: F) (fun n (o : wire_Reader × api_View) R' L' => R' = R ∧ L' = Bk b0_ 101 (wire_Reader.c o.1) :: Bk b1_ 67 (api_View.c o.2) :: F)) := by
  unfold hawthornlaw16_CellViews_1 at hm
  refine co_ofN (N := 5) Try.func49 rfl rfl ?_
  obtain ⟨r0, hr0, hm1⟩ := bs hm
  rcases r0 with ra2 | ⟨rn3, ro4⟩
  · have hm5 := sm_l hm1
    refine c_reg ?_
    refine r_u (o_mv rfl) ?_
    refine r_c (s_w (o_callL ca50 rfl (cell_TakeView.ok b0_ a0 (Sum.inl ra2) hr0) (fun _ _ _ h => h))) ?_
    refine rl_st (fun _ h => st_pk 2 [1, 0] (by decide) h) ?_
    refine r_u0 (o_stn ag67 rfl rfl rfl rfl rfl rfl rfl) ?_
    refine r_nil ?_
    refine x_end ?_
    obtain rfl := Option.some.inj hm5
    refine ex_st (fun _ h => st_pk 2 [1, 0] (by decide) h) ?_
    exact x_r0 rfl (Le.refl _) (.inl ⟨_, rfl, _, rfl, rfl, rfl, rfl⟩)
  · have hm5 := sm_r hm1
    refine c_reg ?_
    refine r_u (o_mv rfl) ?_
    obtain rfl := Option.some.inj hm5
    exact r_sw (s_w (o_callR ca50 rfl (cell_TakeView.ok b0_ a0 (Sum.inr (rn3, ro4)) hr0) (by rintro _ _ _ ⟨rfl, rfl⟩; exact (px_st (fun _ h => st_pk 2 [0, 1] (by decide) h) (px_of (Le.refl _) (.inr ⟨_, rfl, _, rfl, rfl, rfl⟩)))))) (fun _ _ _ _ h => h.elim)

def hawthornref16_PutView_l1 (a0 : api_View) (p1 : UInt64) : Nat → Str → Int → Option (Str)
  | 0, _, _ => none
  | k12 + 1, s_10, i_11 => if decide (i_11 < ([a0.V, toW a0.Primary, a0.PLife, p1, a0.BLife, a0.Epoch].length : Int)) then (gi [a0.V, toW a0.Primary, a0.PLife, p1, a0.BLife, a0.Epoch] i_11).bind fun x17 => (hawthornref03_Num x17).bind fun r19 => if s_10.length + r19.length ≤ maxS then hawthornref16_PutView_l1 a0 p1 k12 (s_10 ++ r19) (i64 (i_11 + 1)) else none else some s_10
def hawthornref16_PutView (a0 : api_View) : Option Str :=
  Option.bind (if decide (a0 = (⟨0, 0, 0, 0, 0, 0⟩ : api_View)) then some 0 else some (toW (i64 (a0.Backup + 1)))) fun p1 => Option.bind (hawthornref16_PutView_l1 a0 p1 ((([a0.V, toW a0.Primary, a0.PLife, p1, a0.BLife, a0.Epoch].length : Int) - 0).toNat + 1) [] 0) fun p6 => some p6
theorem hawthornref16_PutView.ok {G R F} (a0 : api_View) (r : Str) (hm : hawthornref16_PutView a0 = some r) : CO Try.prog 51 [.agg (api_View.c a0).toArray] G R (F)
    (Ret fun u R' L' => u = vS r ∧ R' = R ∧ L' = F) := by
  unfold hawthornref16_PutView at hm
  refine co_ofN (N := 41) Try.func51 rfl rfl ?_
  refine c_seq ?_
  refine c_reg ?_
  refine r_new (o_bx (api_View.c a0) rfl rfl) fun b0 => ?_
  refine r_u (o_as rfl) ?_
  refine r_nil ?_
  refine x_seq ?_
  refine c_seq ?_
  refine c_reg ?_
  refine r_u (o_fa fa67_3 rfl) ?_
  refine r_u (o_ld 0 sc3 rfl rfl rfl) ?_
  refine r_u (o_bin rfl rfl (bI_add a0.Backup 1)) ?_
  refine r_u (o_cv rfl (cIW Try.underlying3 Try.underlying22 (i64 (a0.Backup + 1)))) ?_
  refine r_u (o_as rfl) ?_
  refine r_nil ?_
  refine x_seq ?_
  refine c_seq ?_
  refine c_seq ?_
  refine c_reg ?_
  refine r_u (o_ldn 0 (api_View.c a0) ag67 rfl rfl rfl rfl) ?_
  refine r_u (o_bld [vW 0, vI 0, vW 0, vI 0, vW 0, vW 0] rfl (fun _ => by kernel_rfl)) ?_
  refine r_u (o_bin rfl rfl (api_View.beq_67 a0 (⟨0, 0, 0, 0, 0, 0⟩ : api_View))) ?_
  refine r_nil ?_
  refine x_seq ?_
  obtain ⟨p1, hp2, hm3⟩ := bs hm
  refine cd_join (E' := [(1, pt b0 0), (3, vW p1)]) (L' := Bk b0 67 (api_View.c a0) :: F) ?_ fun K4 => ?_
  · refine x_seq ?_
    refine c_seq ?_
    refine c_reg ?_
    refine r_u (o_fa fa67_0 rfl) ?_
    refine r_u (o_ld 0 sc22 rfl rfl rfl) ?_
    refine r_u (o_fa fa67_1 rfl) ?_
    refine r_u (o_ld 0 sc3 rfl rfl rfl) ?_
    refine r_u (o_cv rfl (cIW Try.underlying3 Try.underlying22 a0.Primary)) ?_
    refine r_u (o_fa fa67_2 rfl) ?_
    refine r_u (o_ld 0 sc22 rfl rfl rfl) ?_
    refine r_u (o_mv rfl) ?_
    refine r_u (o_fa fa67_4 rfl) ?_
    refine r_u (o_ld 0 sc22 rfl rfl rfl) ?_
    refine r_u (o_fa fa67_5 rfl) ?_
    refine r_u (o_ld 0 sc22 rfl rfl rfl) ?_
    refine r_sw (s_w (o_bsl (en := eW) (sz := 1) (e := 22) (cs := [vW a0.V, vW (toW a0.Primary), vW a0.PLife, vW p1, vW a0.BLife, vW a0.Epoch]) (r := [a0.V, toW a0.Primary, a0.PLife, p1, a0.BLife, a0.Epoch]) rfl (fun _ => by kernel_rfl) rfl (by decide) rfl (fun _ => rfl))) ?_
    rintro v5 _ _ _ ⟨rfl, rfl⟩
    refine r_u (o_as rfl) ?_
    refine r_nil ?_
    refine x_seq ?_
    refine c_seq ?_
    refine c_reg ?_
    refine r_u (o_as rfl) ?_
    refine r_nil ?_
    refine x_seq ?_
    refine c_seq ?_
    refine c_seq ?_
    refine c_reg ?_
    refine r_u (o_as rfl) ?_
    refine r_nil ?_
    refine x_seq ?_
    obtain ⟨p6, hp7, hm8⟩ := bs hm3
    refine cd_join (E' := [(5, vS p6)]) (L' := OwS true 22 1 eW v5 [a0.V, toW a0.Primary, a0.PLife, p1, a0.BLife, a0.Epoch] :: Bk b0 67 (api_View.c a0) :: F) ?_ fun K9 => ?_
    · refine x_seq ?_
      refine c_seq ?_
      refine c_reg ?_
      refine r_u (o_mv rfl) ?_
      refine r_u (o_as rfl) ?_
      refine r_nil ?_
      refine x_seq ?_
      refine c_ret ?_
      obtain rfl := Option.some.inj hm8
      refine ex_st (fun _ h => st_pk 2 [] (by decide) h) ?_
      exact x_r1 rfl (rv_t rfl) (Le.refl _) ⟨_, rfl, rfl, rfl, rfl⟩
    · refine c_blk ?_
      refine cd_loop (M := fun k12 (s : Str × Int) => hawthornref16_PutView_l1 a0 p1 k12 s.1 s.2 = some p6) (Ef := fun (s : Str × Int) => [(4, v5), (5, vS s.1), (6, vI s.2)]) (Lf := fun (s : Str × Int) => OwS true 22 1 eW v5 [a0.V, toW a0.Primary, a0.PLife, p1, a0.BLife, a0.Epoch] :: Bk b0 67 (api_View.c a0) :: F) ((([a0.V, toW a0.Primary, a0.PLife, p1, a0.BLife, a0.Epoch].length : Int) - 0).toNat + 1) ([], 0) hp7 ⟨rfl, rfl, rfl, trivial⟩ (fun _ h => h) (fun _ h => by cases h) fun k12 s hM14 => ?_
      obtain ⟨s_10, i_11⟩ := s
      have hm13 : hawthornref16_PutView_l1 a0 p1 (k12 + 1) s_10 i_11 = some p6 := hM14
      rw [hawthornref16_PutView_l1] at hm13
      refine c_seq ?_
      refine c_seq ?_
      refine c_reg ?_
      refine r_u (o_mv rfl) ?_
      refine r_u (o_mv rfl) ?_
      refine r_u (o_lenO 0 Try.underlying110 rfl rfl) ?_
      refine r_u (o_bin rfl rfl (bI_lt i_11 ([a0.V, toW a0.Primary, a0.PLife, p1, a0.BLife, a0.Epoch].length : Int))) ?_
      refine r_nil ?_
      refine x_seq ?_
      refine c_if (b := decide (i_11 < ([a0.V, toW a0.Primary, a0.PLife, p1, a0.BLife, a0.Epoch].length : Int))) rfl (fun h15 => ?_) fun h15 => ?_
      · have hm16 := ift hm13 h15
        refine c_skip ?_
        refine x_seq ?_
        refine c_seq ?_
        refine c_blk ?_
        refine c_reg ?_
        refine r_u (o_mv rfl) ?_
        refine r_u (o_mv rfl) ?_
        refine r_u (o_mv rfl) ?_
        obtain ⟨x17, hx17, hm18⟩ := bs hm16
        refine r_u (o_ixO 0 Try.underlying110 (fun _ => by kernel_rfl) rfl rfl rfl hx17) ?_
        refine r_u (o_ldO0 0 sc22 rfl rfl hx17 rfl rfl) ?_
        obtain ⟨r19, hr19, hm20⟩ := bs hm18
        refine r_u (o_callq ca19 rfl (hawthornref03_Num.ok x17 r19 hr19)) ?_
        obtain ⟨h21, hm22⟩ := ig hm20
        refine r_u (o_bin rfl rfl (bS_add s_10 r19 h21)) ?_
        refine r_u (o_as rfl) ?_
        refine r_nil ?_
        refine x_blk ?_
        refine x_seq ?_
        refine c_reg ?_
        refine r_u (o_mv rfl) ?_
        refine r_u (o_bin rfl rfl (bI_add i_11 1)) ?_
        refine r_u (o_as rfl) ?_
        refine r_nil ?_
        exact x_lp (s_10 ++ r19, i64 (i_11 + 1)) hm22 ⟨rfl, rfl, rfl, trivial⟩ (fun _ h => st_pk 2 [0, 1] (by decide) h)
      · have hm16 := iff_ hm13 h15
        refine c_exit (x_exit (ks' := _) rfl ?_)
        obtain rfl := Option.some.inj hm16
        exact x_sub (K9) ⟨rfl, trivial⟩ (fun _ h => st_pk 2 [0, 1] (by decide) h)
  · refine c_if (b := decide (a0 = (⟨0, 0, 0, 0, 0, 0⟩ : api_View))) rfl (fun h23 => ?_) fun h23 => ?_
    · have hm24 := ift hp2 h23
      refine c_reg ?_
      refine r_u (o_as rfl) ?_
      refine r_nil ?_
      obtain rfl := Option.some.inj hm24
      exact x_sub (K4) ⟨rfl, rfl, trivial⟩ (fun _ h => st_pk 1 [0] (by decide) h)
    · have hm24 := iff_ hp2 h23
      refine c_skip ?_
      obtain rfl := Option.some.inj hm24
      exact x_sub (K4) ⟨rfl, rfl, trivial⟩ (fun _ h => st_pk 1 [0] (by decide) h)

def hawthornlaw16_CellViews (a0 : api_View) : Option Bool :=
  (hawthornlaw16_awake).bind fun r1 => if (!r1 || ((cell_Check a0) != (hawthornref16_Check a0))) then some false else if (!(cell_Check a0) && !(decide (a0 = (⟨0, 0, 0, 0, 0, 0⟩ : api_View)))) then some true else (cell_Put a0).bind fun r8 => (hawthornlaw16_CellViews_1 (⟨r8⟩ : wire_Reader) (⟨9, 0, 0, 0, 0, 0⟩ : api_View)).bind fun r10 => Option.bind (sm r10 (fun (ra18 : wire_Reader × api_View) => some ((if ra18.1.s == [] then 0 else 5), ra18.2)) fun ((rn19, ro20) : Int × (wire_Reader × api_View)) => some (rn19, ro20.2)) fun p12 => (hawthornref16_PutView a0).bind fun r16 => some (((r8 == r16) && (p12.1 == 0)) && decide (p12.2 = a0))
theorem hawthornlaw16_CellViews.ok {G R F} (a0 : api_View) (r : Bool) (hm : hawthornlaw16_CellViews a0 = some r) : CO Try.prog 11 [.agg (api_View.c a0).toArray] G R (F)
    (Ret fun u R' L' => u = vB r ∧ R' = R ∧ L' = F) := by
  unfold hawthornlaw16_CellViews at hm
  refine co_ofN (N := 41) Try.func11 rfl rfl ?_
  refine c_seq ?_
  refine c_reg ?_
  refine r_new (o_bx (api_View.c a0) rfl rfl) fun b0 => ?_
  refine r_u (o_as rfl) ?_
  refine r_nil ?_
  refine x_seq ?_
  refine c_seq ?_
  refine c_seq ?_
  obtain ⟨r1, hr1, hm2⟩ := bs hm
  refine c_any mixed (effs := []) (V := []) ?_
  refine stage_ext [(0, vB r1), (1, vB (!r1)), (2, vB (!r1)), (3, gv (!(!r1)) (.agg (api_View.c a0).toArray)), (4, gv (!(!r1)) (vB (cell_Check a0))), (5, gv (!(!r1)) (.agg (api_View.c a0).toArray)), (6, gv (!(!r1)) (vB (hawthornref16_Check a0))), (7, gv (!(!r1)) (vB ((cell_Check a0) != (hawthornref16_Check a0)))), (8, vB (!r1 || ((cell_Check a0) != (hawthornref16_Check a0))))] rfl ?_
  refine stage rfl rfl rfl rfl [0, 1, 3, 7, 15, 7, 63, 127, 255] [0, 1, 2, 3, 4, 5, 6, 7, 8] [] rfl rfl rfl (qc rfl rfl (s_u (o_callq ca45 rfl (hawthornlaw16_awake.ok r1 hr1))) (qc rfl rfl (s_u (o_not rfl)) (qc rfl rfl (s_u (o_mv rfl)) (qc rfl rfl (s_gf rfl rfl fun g => o_ldn 0 (api_View.c a0) ag67 rfl rfl rfl rfl) (qc rfl rfl (s_gf rfl rfl fun g => o_callq ca46 (evs1 (evg rfl g) evs0) (cell_Check.ok a0 _ rfl)) (qc rfl rfl (s_gf rfl rfl fun g => o_ldn 0 (api_View.c a0) ag67 rfl rfl rfl rfl) (qc rfl rfl (s_gf rfl rfl fun g => o_callq ca47 (evs1 (evg rfl g) evs0) (hawthornref16_Check.ok a0 _ rfl)) (qc rfl rfl (s_gf rfl rfl fun g => o_bin (evg rfl g) (evg rfl g) (bB_ne Try.underlying4 (cell_Check a0) (hawthornref16_Check a0))) (qc rfl rfl (s_u (o_or rfl rfl)) qn))))))))) en ?_
  intro _
  refine ex_sub (E' := [(1, pt b0 0), (13, vB (!r1 || ((cell_Check a0) != (hawthornref16_Check a0))))]) ⟨rfl, rfl, trivial⟩ ?_
  refine x_seq ?_
  refine c_if (b := (!r1 || ((cell_Check a0) != (hawthornref16_Check a0)))) rfl (fun h3 => ?_) fun h3 => ?_
  · have hm4 := ift hm2 h3
    refine c_seq ?_
    refine c_reg ?_
    refine r_u (o_as rfl) ?_
    refine r_nil ?_
    refine x_seq ?_
    refine c_ret ?_
    obtain rfl := Option.some.inj hm4
    refine ex_st (fun _ h => st_pk 1 [] (by decide) h) ?_
    exact x_r1 rfl (rv_t rfl) (Le.refl _) ⟨_, rfl, rfl, rfl, rfl⟩
  · have hm4 := iff_ hm2 h3
    refine c_skip ?_
    refine x_seq ?_
    refine c_seq ?_
    refine c_seq ?_
    refine c_reg ?_
    refine r_u (o_ldn 0 (api_View.c a0) ag67 rfl rfl rfl rfl) ?_
    refine r_u (o_callq ca46 rfl (cell_Check.ok a0 _ rfl)) ?_
    refine r_u (o_not rfl) ?_
    refine r_u (o_mv rfl) ?_
    refine r_s (s_gt rfl rfl fun g => o_ldn 0 (api_View.c a0) ag67 rfl rfl rfl rfl) ?_
    refine r_s (s_gt rfl rfl fun g => o_bld [vW 0, vI 0, vW 0, vI 0, vW 0, vW 0] rfl (fun _ => by kernel_rfl)) ?_
    refine r_s (s_gt rfl rfl fun g => o_bin (evg rfl g) (evg rfl g) (api_View.bne_67 a0 (⟨0, 0, 0, 0, 0, 0⟩ : api_View))) ?_
    refine r_u (o_and rfl rfl) ?_
    refine r_nil ?_
    refine x_seq ?_
    refine c_if (b := (!(cell_Check a0) && !(decide (a0 = (⟨0, 0, 0, 0, 0, 0⟩ : api_View))))) rfl (fun h5 => ?_) fun h5 => ?_
    · have hm6 := ift hm4 h5
      refine c_seq ?_
      refine c_reg ?_
      refine r_u (o_as rfl) ?_
      refine r_nil ?_
      refine x_seq ?_
      refine c_ret ?_
      obtain rfl := Option.some.inj hm6
      refine ex_st (fun _ h => st_pk 1 [] (by decide) h) ?_
      exact x_r1 rfl (rv_t rfl) (Le.refl _) ⟨_, rfl, rfl, rfl, rfl⟩
    · have hm6 := iff_ hm4 h5
      refine c_skip ?_
      refine x_seq ?_
      refine c_seq ?_
      refine c_reg ?_
      refine r_u (o_bld [vW 9, vI 0, vW 0, vI 0, vW 0, vW 0] rfl (fun _ => by kernel_rfl)) ?_
      refine r_new (o_al ze67) fun b7 => ?_
      refine r_u0 (o_stn ag67 rfl rfl rfl rfl rfl rfl rfl) ?_
      refine r_nil ?_
      refine x_seq ?_
      refine c_seq ?_
      obtain ⟨r8, hr8, hm9⟩ := bs hm6
      obtain ⟨r10, hr10, hm11⟩ := bs hm9
      obtain ⟨p12, hp13, hm14⟩ := bs hm11
      refine cd_join (E' := [(1, pt b0 0), (3, pt b7 0), (4, vI p12.1)]) (L' := Bk b7 67 (api_View.c p12.2) :: Bk b0 67 (api_View.c a0) :: F) ?_ fun K15 => ?_
      · refine x_seq ?_
        refine c_seq ?_
        obtain ⟨r16, hr16, hm17⟩ := bs hm14
        refine c_any mixed (effs := []) (V := []) ?_
        refine stage_ext [(0, .agg (api_View.c a0).toArray), (1, vS r8), (2, .agg (api_View.c a0).toArray), (3, vS r16), (4, vB (r8 == r16)), (5, vB (r8 == r16)), (6, gv (r8 == r16) (vI p12.1)), (7, gv (r8 == r16) (vB (p12.1 == 0))), (8, vB ((r8 == r16) && (p12.1 == 0))), (9, vB ((r8 == r16) && (p12.1 == 0))), (10, gv ((r8 == r16) && (p12.1 == 0)) (.agg (api_View.c p12.2).toArray)), (11, gv ((r8 == r16) && (p12.1 == 0)) (.agg (api_View.c a0).toArray)), (12, gv ((r8 == r16) && (p12.1 == 0)) (vB (decide (p12.2 = a0)))), (13, vB (((r8 == r16) && (p12.1 == 0)) && decide (p12.2 = a0))), (14, vB (((r8 == r16) && (p12.1 == 0)) && decide (p12.2 = a0)))] rfl ?_
        refine stage rfl rfl rfl rfl [0, 1, 0, 7, 15, 31, 63, 127, 255, 511, 1023, 1023, 4095, 8191, 16383] [0, 1, 2, 3, 4, 5, 6, 7, 8, 9, 10, 11, 12, 13, 14] [] rfl rfl rfl (qc rfl rfl (s_u (o_ldn 1 (api_View.c a0) ag67 rfl rfl rfl rfl)) (qc rfl rfl (s_u (o_callq ca48 rfl (cell_Put.ok a0 r8 hr8))) (qc rfl rfl (s_u (o_ldn 1 (api_View.c a0) ag67 rfl rfl rfl rfl)) (qc rfl rfl (s_u (o_callq ca51 rfl (hawthornref16_PutView.ok a0 r16 hr16))) (qc rfl rfl (s_u (o_bin rfl rfl (bS_eq r8 r16))) (qc rfl rfl (s_u (o_mv rfl)) (qc rfl rfl (s_gt rfl rfl fun g => o_mv rfl) (qc rfl rfl (s_gt rfl rfl fun g => o_bin (evg rfl g) rfl (bI_eq p12.1 0)) (qc rfl rfl (s_u (o_and rfl rfl)) (qc rfl rfl (s_u (o_mv rfl)) (qc rfl rfl (s_gt rfl rfl fun g => o_ldn 0 (api_View.c p12.2) ag67 rfl rfl rfl rfl) (qc rfl rfl (s_gt rfl rfl fun g => o_ldn 1 (api_View.c a0) ag67 rfl rfl rfl rfl) (qc rfl rfl (s_gt rfl rfl fun g => o_bin (evg rfl g) (evg rfl g) (api_View.beq_67 p12.2 a0)) (qc rfl rfl (s_u (o_and rfl rfl)) (qc rfl rfl (s_u (o_as rfl)) qn))))))))))))))) en ?_
        intro _
        refine ex_sub (E' := [(2, vB (((r8 == r16) && (p12.1 == 0)) && decide (p12.2 = a0)))]) ⟨rfl, trivial⟩ ?_
        refine x_seq ?_
        refine c_ret ?_
        obtain rfl := Option.some.inj hm17
        refine ex_st (fun _ h => st_pk 2 [] (by decide) h) ?_
        exact x_r1 rfl (rv_t rfl) (Le.refl _) ⟨_, rfl, rfl, rfl, rfl⟩
      · rcases r10 with ra18 | ⟨rn19, ro20⟩
        · have hm21 := sm_l hp13
          refine c_reg ?_
          refine r_u (o_ldn 1 (api_View.c a0) ag67 rfl rfl rfl rfl) ?_
          refine r_u (o_callq ca48 rfl (cell_Put.ok a0 r8 hr8)) ?_
          refine r_u (o_mf rfl) ?_
          refine r_c (s_w (o_call ca27 rfl (wire_Read.okL (A := [Bk b7 67 [vW 9, vI 0, vW 0, vI 0, vW 0, vW 0]]) (M := [Bk b7 67 (api_View.c ra18.2)]) (s' := ra18.1.s) ca49 (fun b F => co_l (hawthornlaw16_CellViews_1.ok b (⟨r8⟩ : wire_Reader) b7 (⟨9, 0, 0, 0, 0, 0⟩ : api_View) (Sum.inl ra18) hr10) (fun _ _ _ h => h))))) ?_
          refine r_u (o_as rfl) ?_
          refine r_nil ?_
          obtain rfl := Option.some.inj hm21
          exact x_sub (K15) ⟨rfl, rfl, rfl, trivial⟩ (fun _ h => st_pk 2 [0, 1] (by decide) h)
        · have hm21 := sm_r hp13
          refine c_reg ?_
          refine r_u (o_ldn 1 (api_View.c a0) ag67 rfl rfl rfl rfl) ?_
          refine r_u (o_callq ca48 rfl (cell_Put.ok a0 r8 hr8)) ?_
          refine r_u (o_mf rfl) ?_
          refine r_c (s_w (o_call ca27 rfl (wire_Read.okR (A := [Bk b7 67 [vW 9, vI 0, vW 0, vI 0, vW 0, vW 0]]) (M := [Bk b7 67 (api_View.c ro20.2)]) (cs := [vS ro20.1.s]) ca49 (fun b F => co_r (hawthornlaw16_CellViews_1.ok b (⟨r8⟩ : wire_Reader) b7 (⟨9, 0, 0, 0, 0, 0⟩ : api_View) (Sum.inr (rn19, ro20)) hr10) (fun _ _ h => h))))) ?_
          refine r_u (o_as rfl) ?_
          refine r_nil ?_
          obtain rfl := Option.some.inj hm21
          exact x_sub (K15) ⟨rfl, rfl, rfl, trivial⟩ (fun _ h => st_pk 2 [0, 1] (by decide) h)

end Go.Proofs.Ytgnpffbgfmeinaa
