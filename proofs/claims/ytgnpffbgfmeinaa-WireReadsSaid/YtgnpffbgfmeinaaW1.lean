import Derived.Test.YtgnpffbgfmeinaaW0
import Derived.Test.YtgnpffbgfmeinaaFacts
import Derived.Test.YtgnpffbgfmeinaaHwT
set_option linter.unusedVariables false
set_option linter.unusedSectionVars false
set_option linter.unusedSimpArgs false
set_option maxRecDepth 100000
set_option maxHeartbeats 8000000
namespace Go.Proofs.Ytgnpffbgfmeinaa
open Go Go.Proofs.Ytgnpffbgfmeinaa.Hw
def hawthornlaw03_WireReads_l0 (p12 : Int × List Int) (p19 : List Int × hawthornref03_At) : Nat → Int → Option (Unit ⊕ Bool)
  | 0, _ => none
  | k34 + 1, i_33 => if decide (i_33 < (p19.1.length : Int)) then (gi p12.2 i_33).bind fun x39 => (gi p19.1 i_33).bind fun x41 => if (x39 != x41) then some (Sum.inr false) else hawthornlaw03_WireReads_l0 p12 p19 k34 (i64 (i_33 + 1)) else some (Sum.inl ())
def hawthornlaw03_WireReads_l1 (a1 : List hawthornlaw03_Step) (p4 : Int) : Nat → (List Int) → Int → hawthornref03_At → Option (List Int × hawthornref03_At)
  | 0, _, _, _ => none
  | k49 + 1, want_45, i_46, c_47 => if decide (i_46 < p4) then (gi a1 i_46).bind fun x54 => Option.bind (if (x54.Kind == 0) then (hawthornref03_At_Num c_47 (toW x54.N)).bind fun r73 => some r73.1 else Option.bind (if (x54.Kind == 1) then (hawthornref03_At_Text c_47 x54.N).bind fun r81 => some r81.1 else Option.bind (if (x54.Kind == 2) then (hawthornref03_At_Flag c_47).bind fun r89 => some r89.1 else Option.bind (if (x54.Kind == 3) then (hawthornref03_At_Bytes c_47 x54.N).bind fun r97 => some r97.1 else some (hawthornref03_At_Must c_47 x54.OK)) fun p91 => some p91) fun p83 => some p83) fun p75 => some p75) fun p56 => Option.bind (if (p56.Err == 0) then (apd 8 want_45 [(p56.S.length : Int)]).bind fun l69 => some l69 else some want_45) fun p60 => hawthornlaw03_WireReads_l1 a1 p4 k49 p60 (i64 (i_46 + 1)) p56 else some (want_45, c_47)
def hawthornlaw03_WireReads (a0 : Str) (a1 : List hawthornlaw03_Step) : Option Bool :=
  (hawthornlaw03_few a0).bind fun r1 => Option.bind (if decide (12 < (a1.length : Int)) then some 12 else some (a1.length : Int)) fun p4 => (hawthornlaw03_WireReads_1 (⟨r1⟩ : wire_Reader) p4 a1 []).bind fun r10 => Option.bind (sm r10 (fun (ra99 : wire_Reader × List Int) => some ((if ra99.1.s == [] then 0 else 5), ra99.2)) fun ((rn100, ro101) : Int × (wire_Reader × List Int)) => some (rn100, ro101.2)) fun p12 => Option.bind (hawthornlaw03_WireReads_l1 a1 p4 ((p4 - 0).toNat + 1) [] 0 (⟨r1, 0⟩ : hawthornref03_At)) fun p19 => (hawthornlaw03_awake).bind fun r24 => if ((!r24 || (p12.1 != (hawthornref03_At_End p19.2))) || ((p12.2.length : Int) != (p19.1.length : Int))) then some false else Option.bind (hawthornlaw03_WireReads_l0 p12 p19 (((p19.1.length : Int) - 0).toNat + 1) 0) fun (p28 : Unit ⊕ Bool) => (match p28 with | Sum.inl q29 => some true | Sum.inr r => some r)
theorem hawthornlaw03_WireReads.ok {G R F} (a0 : Str) (v1 : Value) (a1 : List hawthornlaw03_Step) (h1 : RoS R v1 3 hawthornlaw03_Step.c a1) (r : Bool) (hm : hawthornlaw03_WireReads a0 a1 = some r) : CO Try.prog 9 [vS a0, v1] G R (F)
    (Ret fun u R' L' => u = vB r ∧ R' = R ∧ L' = F) := by
  unfold hawthornlaw03_WireReads at hm
  refine co_ofN (N := 126) Try.func9 rfl rfl ?_
  refine c_seq ?_
  refine c_reg ?_
  refine r_new (o_bx [v1] rfl (sl_cells (RoS.hd h1))) fun b0 => ?_
  refine r_u (o_as rfl) ?_
  refine r_nil ?_
  refine x_seq ?_
  refine c_seq ?_
  obtain ⟨r1, hr1, hm2⟩ := bs hm
  refine c_any mixed (effs := [4, 6]) (V := []) ?_
  refine stage_ext [(0, vS a0), (1, vS r1), (2, v1), (3, vI (a1.length : Int))] rfl ?_
  refine stage rfl rfl rfl rfl [0, 1, 0, 4, 0, 19, 63] [0, 1, 2, 3] [4] rfl rfl rfl (qc rfl rfl (s_u (o_mv rfl)) (qc rfl rfl (s_u (o_callq ca15 rfl (hawthornlaw03_few.ok a0 r1 hr1))) (qc rfl rfl (s_u (o_ld 0 sc50 rfl rfl rfl)) (qc rfl rfl (s_u (o_lenR Try.underlying50 rfl h1)) qn)))) ?_ (fun h => absurd h (by decide))
  refine ec (eo_n rfl (s_w (o_al ze3)) fun b3 => ?_) en
  refine stage_ext [(5, vS r1)] rfl ?_
  refine stage rfl rfl rfl rfl [0, 1, 0, 4, 0, 19, 63] [0, 1, 2, 3, 5] [6] rfl rfl rfl (qc rfl rfl (s_u (o_mv rfl)) (qc rfl rfl (s_u (o_callq ca15 rfl (hawthornlaw03_few.ok a0 r1 hr1))) (qc rfl rfl (s_u (o_ld 1 sc50 rfl rfl rfl)) (qc rfl rfl (s_u (o_lenR Try.underlying50 rfl h1)) (qc rfl rfl (s_u (o_as rfl)) qn))))) ?_ (fun h => absurd h (by decide))
  refine ec (eo_u rfl (s_u (o_st sc3 rfl rfl rfl rfl rfl rfl)) (Le.refl _) ?_) en
  refine stage rfl rfl rfl rfl [0, 1, 0, 4, 0, 19, 63] [] [] rfl rfl rfl qn en ?_
  intro _
  refine ex_sub (E' := [(3, pt b0 0), (6, pt b3 0), (5, vS r1)]) ⟨rfl, rfl, rfl, trivial⟩ ?_
  refine x_seq ?_
  refine c_seq ?_
  refine c_seq ?_
  refine c_reg ?_
  refine r_u (o_ld 0 sc3 rfl rfl rfl) ?_
  refine r_u (o_bin rfl rfl (bI_gt (a1.length : Int) 12)) ?_
  refine r_nil ?_
  refine x_seq ?_
  obtain ⟨p4, hp5, hm6⟩ := bs hm2
  refine cd_join (E' := [(3, pt b0 0), (5, vS r1), (6, pt b3 0)]) (L' := Bk b3 3 [vI p4] :: Bk b0 50 [v1] :: F) ?_ fun K7 => ?_
  · refine x_seq ?_
    refine c_seq ?_
    refine c_reg ?_
    refine r_sw (s_w (o_bsl (en := eI) (sz := 1) (e := 3) (cs := []) (r := []) rfl (fun _ => by kernel_rfl) rfl (by decide) rfl (fun _ => rfl))) ?_
    rintro v8 R _ _ ⟨rfl, rfl⟩
    refine r_new (o_al ze51) fun b9 => ?_
    refine r_u0 (ou_if (one_o 1 rfl) fun ho0 => o_st sc51 rfl rfl rfl ho0 rfl rfl) ?_
    refine r_nil ?_
    refine x_seq ?_
    refine c_seq ?_
    obtain ⟨r10, hr10, hm11⟩ := bs hm6
    obtain ⟨p12, hp14, hm15⟩ := bs hm11
    refine cd_cut (fun x ks => ∀ (g13 : Value), EX x .normal ks [(3, pt b0 0), (5, vS r1), (6, pt b3 0), (7, pt b9 0), (8, vI p12.1)] R (Bk b9 51 [g13] :: Bk b3 3 [vI p4] :: Bk b0 50 [v1] :: OwS true 3 1 eI g13 p12.2 :: F)) ?_ fun K16 => ?_
    · intro g13
      refine x_seq ?_
      refine c_seq ?_
      refine c_reg ?_
      refine r_u (o_mv rfl) ?_
      refine r_u (o_bld [vS r1, vI 0] rfl (fun _ => by kernel_rfl)) ?_
      refine r_new (o_al ze28) fun b17 => ?_
      refine r_u0 (o_stn ag28 rfl rfl rfl rfl rfl rfl rfl) ?_
      refine r_nil ?_
      refine x_seq ?_
      refine c_seq ?_
      refine c_reg ?_
      refine r_sw (s_w (o_bsl (en := eI) (sz := 1) (e := 3) (cs := []) (r := []) rfl (fun _ => by kernel_rfl) rfl (by decide) rfl (fun _ => rfl))) ?_
      rintro v18 R _ _ ⟨rfl, rfl⟩
      refine r_u (o_as rfl) ?_
      refine r_nil ?_
      refine x_seq ?_
      refine c_seq ?_
      refine c_seq ?_
      refine c_reg ?_
      refine r_u (o_as rfl) ?_
      refine r_nil ?_
      refine x_seq ?_
      obtain ⟨p19, hp21, hm22⟩ := bs hm15
      refine cd_cut (fun x ks => ∀ (g20 : Value), EX x .normal ks [(7, pt b9 0), (8, vI p12.1), (9, pt b17 0), (10, g20)] R (Bk b17 28 (hawthornref03_At.c p19.2) :: Bk b9 51 [g13] :: Bk b3 3 [vI p4] :: Bk b0 50 [v1] :: OwS true 3 1 eI g13 p12.2 :: OwS true 3 1 eI g20 p19.1 :: F)) ?_ fun K23 => ?_
      · intro g20
        refine x_seq ?_
        refine c_seq ?_
        refine c_seq ?_
        refine c_reg ?_
        obtain ⟨r24, hr24, hm25⟩ := bs hm22
        refine r_u (o_callq ca18 rfl (hawthornlaw03_awake.ok r24 hr24)) ?_
        refine r_u (o_not rfl) ?_
        refine r_u (o_mv rfl) ?_
        refine r_s (s_gf rfl rfl fun g => o_mv rfl) ?_
        refine r_s (s_gf rfl rfl fun g => o_ldn 0 (hawthornref03_At.c p19.2) ag28 rfl rfl rfl rfl) ?_
        refine r_s (s_gf rfl rfl fun g => o_callq ca20 (evs1 (evg rfl g) evs0) (hawthornref03_At_End.ok p19.2 _ rfl)) ?_
        refine r_s (s_gf rfl rfl fun g => o_bin (evg rfl g) (evg rfl g) (bI_ne p12.1 (hawthornref03_At_End p19.2))) ?_
        refine r_u (o_or rfl rfl) ?_
        refine r_u (o_mv rfl) ?_
        refine r_s (s_gf rfl rfl fun g => o_ld 1 sc51 rfl rfl rfl) ?_
        refine r_s (s_gf rfl rfl fun g => o_lenO 4 Try.underlying51 (evg rfl g) rfl) ?_
        refine r_s (s_gf rfl rfl fun g => o_mv rfl) ?_
        refine r_s (s_gf rfl rfl fun g => o_lenO 5 Try.underlying51 (evg rfl g) rfl) ?_
        refine r_s (s_gf rfl rfl fun g => o_bin (evg rfl g) (evg rfl g) (bI_ne (p12.2.length : Int) (p19.1.length : Int))) ?_
        refine r_u (o_or rfl rfl) ?_
        refine r_nil ?_
        refine x_seq ?_
        refine c_if (b := ((!r24 || (p12.1 != (hawthornref03_At_End p19.2))) || ((p12.2.length : Int) != (p19.1.length : Int)))) rfl (fun h26 => ?_) fun h26 => ?_
        · have hm27 := ift hm25 h26
          refine c_seq ?_
          refine c_reg ?_
          refine r_u (o_as rfl) ?_
          refine r_nil ?_
          refine x_seq ?_
          refine c_ret ?_
          obtain rfl := Option.some.inj hm27
          refine ex_st (fun _ h => st_pk 6 [] (by decide) h) ?_
          exact x_r1 rfl (rv_t rfl) (Le.refl _) ⟨_, rfl, rfl, rfl, rfl⟩
        · have hm27 := iff_ hm25 h26
          refine c_skip ?_
          refine x_seq ?_
          refine c_seq ?_
          refine c_seq ?_
          refine c_reg ?_
          refine r_u (o_as rfl) ?_
          refine r_nil ?_
          refine x_seq ?_
          obtain ⟨p28, hp30, hm31⟩ := bs hm27
          refine cd_joinS (p := p28) (Ef := fun q29 => []) (Lf := fun q29 => Bk b17 28 (hawthornref03_At.c p19.2) :: Bk b9 51 [g13] :: Bk b3 3 [vI p4] :: Bk b0 50 [v1] :: OwS true 3 1 eI g13 p12.2 :: OwS true 3 1 eI g20 p19.1 :: F) (fun q29 hq => ?_) fun K32 => ?_
          · subst hq
            try dsimp only at hm31
            refine x_seq ?_
            refine c_seq ?_
            refine c_reg ?_
            refine r_u (o_as rfl) ?_
            refine r_nil ?_
            refine x_seq ?_
            refine c_ret ?_
            obtain rfl := Option.some.inj hm31
            refine ex_st (fun _ h => st_pk 6 [] (by decide) h) ?_
            exact x_r1 rfl (rv_t rfl) (Le.refl _) ⟨_, rfl, rfl, rfl, rfl⟩
          · refine c_blk ?_
            refine cd_loop (M := fun k34 (i_33 : Int) => hawthornlaw03_WireReads_l0 p12 p19 k34 i_33 = some p28) (Ef := fun (i_33 : Int) => [(7, pt b9 0), (10, g20), (12, vI i_33)]) (Lf := fun (i_33 : Int) => Bk b17 28 (hawthornref03_At.c p19.2) :: Bk b9 51 [g13] :: Bk b3 3 [vI p4] :: Bk b0 50 [v1] :: OwS true 3 1 eI g13 p12.2 :: OwS true 3 1 eI g20 p19.1 :: F) (((p19.1.length : Int) - 0).toNat + 1) 0 hp30 ⟨rfl, rfl, rfl, trivial⟩ (fun _ h => h) (fun _ h => by cases h) fun k34 i_33 hM36 => ?_
            have hm35 : hawthornlaw03_WireReads_l0 p12 p19 (k34 + 1) i_33 = some p28 := hM36
            rw [hawthornlaw03_WireReads_l0] at hm35
            refine c_seq ?_
            refine c_seq ?_
            refine c_reg ?_
            refine r_u (o_mv rfl) ?_
            refine r_u (o_mv rfl) ?_
            refine r_u (o_lenO 5 Try.underlying51 rfl rfl) ?_
            refine r_u (o_bin rfl rfl (bI_lt i_33 (p19.1.length : Int))) ?_
            refine r_nil ?_
            refine x_seq ?_
            refine c_if (b := decide (i_33 < (p19.1.length : Int))) rfl (fun h37 => ?_) fun h37 => ?_
            · have hm38 := ift hm35 h37
              refine c_skip ?_
              refine x_seq ?_
              refine c_seq ?_
              refine c_blk ?_
              refine c_seq ?_
              obtain ⟨x39, hx39, hm40⟩ := bs hm38
              obtain ⟨x41, hx41, hm42⟩ := bs hm40
              refine c_any mixed (effs := []) (V := []) ?_
              refine stage_ext [(0, g13), (1, vI i_33), (2, pt (sb g13) (so g13 + i_33.toNat * 1)), (3, vI x39), (4, g20), (5, vI i_33), (6, pt (sb g20) (so g20 + i_33.toNat * 1)), (7, vI x41), (8, vB (x39 != x41))] rfl ?_
              refine stage rfl rfl rfl rfl [0, 0, 3, 7, 0, 0, 48, 112, 255] [0, 1, 2, 3, 4, 5, 6, 7, 8] [] rfl rfl rfl (qc rfl rfl (s_u (o_ld 1 sc51 rfl rfl rfl)) (qc rfl rfl (s_u (o_mv rfl)) (qc rfl rfl (s_u (o_ixO 4 Try.underlying51 (fun _ => by kernel_rfl) rfl rfl rfl hx39)) (qc rfl rfl (s_u (o_ldO0 4 sc3 rfl rfl hx39 rfl rfl)) (qc rfl rfl (s_u (o_mv rfl)) (qc rfl rfl (s_u (o_mv rfl)) (qc rfl rfl (s_u (o_ixO 5 Try.underlying51 (fun _ => by kernel_rfl) rfl rfl rfl hx41)) (qc rfl rfl (s_u (o_ldO0 5 sc3 rfl rfl hx41 rfl rfl)) (qc rfl rfl (s_u (o_bin rfl rfl (bI_ne x39 x41))) qn))))))))) en ?_
              intro _
              refine ex_sub (E' := [(7, pt b9 0), (10, g20), (12, vI i_33), (125, vB (x39 != x41))]) ⟨rfl, rfl, rfl, rfl, trivial⟩ ?_
              refine x_seq ?_
              refine c_if (b := (x39 != x41)) rfl (fun h43 => ?_) fun h43 => ?_
              · have hm44 := ift hm42 h43
                refine c_seq ?_
                refine c_reg ?_
                refine r_u (o_as rfl) ?_
                refine r_nil ?_
                refine x_seq ?_
                refine c_ret ?_
                obtain rfl := Option.some.inj hm44
                try dsimp only at hm31
                obtain rfl := Option.some.inj hm31
                refine ex_st (fun _ h => st_pk 6 [] (by decide) h) ?_
                exact x_r1 rfl (rv_t rfl) (Le.refl _) ⟨_, rfl, rfl, rfl, rfl⟩
              · have hm44 := iff_ hm42 h43
                refine c_skip ?_
                refine x_blk ?_
                refine x_seq ?_
                refine c_reg ?_
                refine r_u (o_mv rfl) ?_
                refine r_u (o_bin rfl rfl (bI_add i_33 1)) ?_
                refine r_u (o_as rfl) ?_
                refine r_nil ?_
                exact x_lp (i64 (i_33 + 1)) hm44 ⟨rfl, rfl, rfl, trivial⟩ (fun _ h => st_pk 6 [0, 1, 2, 3, 4, 5] (by decide) h)
            · have hm38 := iff_ hm35 h37
              refine c_exit (x_exit (ks' := _) rfl ?_)
              obtain rfl := Option.some.inj hm38
              exact x_sub (K32 _ rfl) trivial (fun _ h => st_pk 6 [0, 1, 2, 3, 4, 5] (by decide) h)
      · refine c_blk ?_
        refine cd_loopG (M := fun k49 (s : List Int × Int × hawthornref03_At × Value) => hawthornlaw03_WireReads_l1 a1 p4 k49 s.1 s.2.1 s.2.2.1 = some p19) (Ef := fun (s : List Int × Int × hawthornref03_At × Value) => [(3, pt b0 0), (6, pt b3 0), (7, pt b9 0), (8, vI p12.1), (9, pt b17 0), (10, s.2.2.2), (11, vI s.2.1)]) (Rf := fun (s : List Int × Int × hawthornref03_At × Value) => R) (Lf := fun (s : List Int × Int × hawthornref03_At × Value) => Bk b17 28 (hawthornref03_At.c s.2.2.1) :: Bk b9 51 [g13] :: Bk b3 3 [vI p4] :: Bk b0 50 [v1] :: OwS true 3 1 eI g13 p12.2 :: OwS true 3 1 eI s.2.2.2 s.1 :: F) ((p4 - 0).toNat + 1) ([], 0, (⟨r1, 0⟩ : hawthornref03_At), v18) hp21 ⟨rfl, rfl, rfl, rfl, rfl, rfl, rfl, trivial⟩ (fun _ h => st_pk 6 [1, 2, 3, 4, 5, 0] (by decide) h) (fun _ h => by cases h) fun k49 s hM51 => ?_
        obtain ⟨want_45, i_46, c_47, g48⟩ := s
        have hm50 : hawthornlaw03_WireReads_l1 a1 p4 (k49 + 1) want_45 i_46 c_47 = some p19 := hM51
        rw [hawthornlaw03_WireReads_l1] at hm50
        refine c_seq ?_
        refine c_seq ?_
        refine c_reg ?_
        refine r_u (o_mv rfl) ?_
        refine r_u (o_ld 2 sc3 rfl rfl rfl) ?_
        refine r_u (o_bin rfl rfl (bI_lt i_46 p4)) ?_
        refine r_nil ?_
        refine x_seq ?_
        refine c_if (b := decide (i_46 < p4)) rfl (fun h52 => ?_) fun h52 => ?_
        · have hm53 := ift hm50 h52
          refine c_skip ?_
          refine x_seq ?_
          refine c_seq ?_
          refine c_blk ?_
          refine c_seq ?_
          refine c_seq ?_
          refine c_reg ?_
          refine r_u (o_ld 3 sc50 rfl rfl rfl) ?_
          refine r_u (o_mv rfl) ?_
          obtain ⟨x54, hx54, hm55⟩ := bs hm53
          obtain ⟨b54, o54, l54, T54, fr54, c54, hv54, hR54, he54, hi54⟩ := RoS.ne h1 hx54
          refine r_u (o_ix (sz := 3) Try.underlying50 (fun _ => by kernel_rfl) rfl rfl hv54 hi54) ?_
          refine r_u (o_fa fa53_0 rfl) ?_
          refine r_u (o_ldR sc3 rfl hR54 (rok 0 he54 (by decide))) ?_
          refine r_nil ?_
          refine x_seq ?_
          refine c_blk ?_
          refine c_seq ?_
          refine c_reg ?_
          refine r_u (o_bin rfl rfl (bI_eq x54.Kind 0)) ?_
          refine r_u (o_as rfl) ?_
          refine r_nil ?_
          refine x_seq ?_
          obtain ⟨p56, hp57, hm58⟩ := bs hm55
          refine cd_join (E' := [(3, pt b0 0), (6, pt b3 0), (7, pt b9 0), (8, vI p12.1), (9, pt b17 0), (10, g48), (11, vI i_46)]) (L' := Bk b17 28 (hawthornref03_At.c p56) :: Bk b9 51 [g13] :: Bk b3 3 [vI p4] :: Bk b0 50 [v1] :: OwS true 3 1 eI g13 p12.2 :: OwS true 3 1 eI g48 want_45 :: F) ?_ fun K59 => ?_
          · refine x_blk ?_
            refine x_seq ?_
            refine c_seq ?_
            refine c_reg ?_
            refine r_u (o_fa fa28_1 rfl) ?_
            refine r_u (o_ld 0 sc3 rfl rfl rfl) ?_
            refine r_u (o_bin rfl rfl (bI_eq p56.Err 0)) ?_
            refine r_nil ?_
            refine x_seq ?_
            obtain ⟨p60, hp62, hm63⟩ := bs hm58
            refine cd_cut (fun x ks => ∀ (g61 : Value), EX x .normal ks [(3, pt b0 0), (6, pt b3 0), (7, pt b9 0), (8, vI p12.1), (9, pt b17 0), (11, vI i_46), (10, g61)] R (Bk b17 28 (hawthornref03_At.c p56) :: Bk b9 51 [g13] :: Bk b3 3 [vI p4] :: Bk b0 50 [v1] :: OwS true 3 1 eI g13 p12.2 :: OwS true 3 1 eI g61 p60 :: F)) ?_ fun K64 => ?_
            · intro g61
              refine x_blk ?_
              refine x_seq ?_
              refine c_reg ?_
              refine r_u (o_mv rfl) ?_
              refine r_u (o_bin rfl rfl (bI_add i_46 1)) ?_
              refine r_u (o_as rfl) ?_
              refine r_nil ?_
              exact x_lp (p60, i64 (i_46 + 1), p56, g61) hm63 ⟨rfl, rfl, rfl, rfl, rfl, rfl, rfl, trivial⟩ (fun _ h => st_pk 6 [0, 1, 2, 3, 4, 5] (by decide) h)
            · refine c_if (b := (p56.Err == 0)) rfl (fun h65 => ?_) fun h65 => ?_
              · have hm66 := ift hp62 h65
                refine c_reg ?_
                refine r_u (o_mv rfl) ?_
                refine r_u (o_fa fa28_0 rfl) ?_
                refine r_u (o_ld 0 sc9 rfl rfl rfl) ?_
                refine r_u (o_lenS Try.underlying9 rfl) ?_
                refine r_sw (s_w (o_bsl (en := eI) (sz := 1) (e := 3) (cs := [vI (p56.S.length : Int)]) (r := [(p56.S.length : Int)]) rfl (fun _ => by kernel_rfl) rfl (by decide) rfl (fun _ => rfl))) ?_
                rintro v67 R _ _ ⟨rfl, rfl⟩
                obtain ⟨l69, hl69, hm70⟩ := bs hm66
                refine rl_st (fun _ h => st_pk 7 [6, 0, 1, 2, 3, 4, 5] (by decide) h) ?_
                refine r_sw (s_w (o_ap (sz := 1) (bytes := 8) 0 Try.underlying51 rfl rfl rfl rfl rfl (by decide) (by decide) (fun _ _ _ h => by simp at h; subst h; rfl) (fun _ => rfl) rfl rfl rfl rfl (Nat.succ_pos _) hl69)) ?_
                rintro v68 R _ _ ⟨rfl, rfl⟩
                refine r_u (o_as rfl) ?_
                refine r_nil ?_
                obtain rfl := Option.some.inj hm70
                exact x_sub (K64 v68) ⟨rfl, rfl, rfl, rfl, rfl, rfl, rfl, trivial⟩ (fun _ h => st_pk 7 [2, 3, 4, 5, 6, 0] (by decide) h)
              · have hm66 := iff_ hp62 h65
                refine c_skip ?_
                obtain rfl := Option.some.inj hm66
                exact x_sub (K64 g48) ⟨rfl, rfl, rfl, rfl, rfl, rfl, rfl, trivial⟩ (fun _ h => st_pk 6 [0, 1, 2, 3, 4, 5] (by decide) h)
          · refine c_if (b := (x54.Kind == 0)) rfl (fun h71 => ?_) fun h71 => ?_
            · have hm72 := ift hp57 h71
              obtain ⟨r73, hr73, hm74⟩ := bs hm72
              refine c_any mixed (effs := [11]) (V := []) ?_
              refine stage_ext [(0, .agg (hawthornref03_At.c c_47).toArray), (1, v1), (2, vI i_46), (3, pt b54 (o54 + i_46.toNat * 3)), (4, pt b54 (o54 + i_46.toNat * 3 + 1)), (5, vI x54.N), (6, vW (toW x54.N)), (7, .tuple #[.agg (hawthornref03_At.c r73.1).toArray, vW r73.2]), (8, .tuple #[.agg (hawthornref03_At.c r73.1).toArray, vW r73.2]), (9, .agg (hawthornref03_At.c r73.1).toArray), (10, vW r73.2)] rfl ?_
              refine stage rfl rfl rfl rfl [0, 0, 0, 6, 14, 30, 62, 127, 255, 511, 511, 1023] [0, 1, 2, 3, 4, 5, 6, 7, 8, 9, 10] [11] rfl rfl rfl (qc rfl rfl (s_u (o_ldn 0 (hawthornref03_At.c c_47) ag28 rfl rfl rfl rfl)) (qc rfl rfl (s_u (o_ld 3 sc50 rfl rfl rfl)) (qc rfl rfl (s_u (o_mv rfl)) (qc rfl rfl (s_u (o_ix (sz := 3) Try.underlying50 (fun _ => by kernel_rfl) rfl rfl hv54 hi54)) (qc rfl rfl (s_u (o_fa fa53_1 rfl)) (qc rfl rfl (s_u (o_ldR sc3 rfl hR54 (rok 1 he54 (by decide)))) (qc rfl rfl (s_u (o_cv rfl (cIW Try.underlying3 Try.underlying22 x54.N))) (qc rfl rfl (s_u (o_callq ca16 rfl (hawthornref03_At_Num.ok c_47 (toW x54.N) r73 hr73))) (qc rfl rfl (s_u (o_mv rfl)) (qc rfl rfl (s_u (o_ext rfl rfl)) (qc rfl rfl (s_u (o_ext rfl rfl)) qn))))))))))) ?_ (fun h => absurd h (by decide))
              refine ec (eo_u rfl (s_u (o_stn ag28 rfl rfl rfl rfl rfl rfl rfl)) (Le.refl _) ?_) en
              refine stage rfl rfl rfl rfl [0, 0, 0, 6, 14, 30, 62, 127, 255, 511, 511, 1023] [10] [] rfl rfl rfl (qc rfl rfl (s_u (o_ext rfl rfl)) qn) en ?_
              intro _
              refine ex_sub (E' := [(3, pt b0 0), (6, pt b3 0), (7, pt b9 0), (8, vI p12.1), (9, pt b17 0), (10, g48), (11, vI i_46)]) ⟨rfl, rfl, rfl, rfl, rfl, rfl, rfl, trivial⟩ ?_
              obtain rfl := Option.some.inj hm74
              exact x_sub K59 ⟨rfl, rfl, rfl, rfl, rfl, rfl, rfl, trivial⟩ (fun _ h => st_pk 6 [0, 1, 2, 3, 4, 5] (by decide) h)
            · have hm72 := iff_ hp57 h71
              refine c_seq ?_
              refine c_reg ?_
              refine r_u (o_bin rfl rfl (bI_eq x54.Kind 1)) ?_
              refine r_u (o_as rfl) ?_
              refine r_nil ?_
              refine x_seq ?_
              obtain ⟨p75, hp76, hm77⟩ := bs hm72
              refine cd_join (E' := [(3, pt b0 0), (6, pt b3 0), (7, pt b9 0), (8, vI p12.1), (9, pt b17 0), (10, g48), (11, vI i_46)]) (L' := Bk b17 28 (hawthornref03_At.c p75) :: Bk b9 51 [g13] :: Bk b3 3 [vI p4] :: Bk b0 50 [v1] :: OwS true 3 1 eI g13 p12.2 :: OwS true 3 1 eI g48 want_45 :: F) ?_ fun K78 => ?_
              · obtain rfl := Option.some.inj hm77
                exact x_sub K59 ⟨rfl, rfl, rfl, rfl, rfl, rfl, rfl, trivial⟩ (fun _ h => st_pk 6 [0, 1, 2, 3, 4, 5] (by decide) h)
              · refine c_if (b := (x54.Kind == 1)) rfl (fun h79 => ?_) fun h79 => ?_
                · have hm80 := ift hp76 h79
                  obtain ⟨r81, hr81, hm82⟩ := bs hm80
                  refine c_any mixed (effs := [10]) (V := []) ?_
                  refine stage_ext [(0, .agg (hawthornref03_At.c c_47).toArray), (1, v1), (2, vI i_46), (3, pt b54 (o54 + i_46.toNat * 3)), (4, pt b54 (o54 + i_46.toNat * 3 + 1)), (5, vI x54.N), (6, .tuple #[.agg (hawthornref03_At.c r81.1).toArray, vS r81.2]), (7, .tuple #[.agg (hawthornref03_At.c r81.1).toArray, vS r81.2]), (8, .agg (hawthornref03_At.c r81.1).toArray), (9, vS r81.2)] rfl ?_
                  refine stage rfl rfl rfl rfl [0, 0, 0, 6, 14, 30, 63, 127, 255, 255, 511] [0, 1, 2, 3, 4, 5, 6, 7, 8, 9] [10] rfl rfl rfl (qc rfl rfl (s_u (o_ldn 0 (hawthornref03_At.c c_47) ag28 rfl rfl rfl rfl)) (qc rfl rfl (s_u (o_ld 3 sc50 rfl rfl rfl)) (qc rfl rfl (s_u (o_mv rfl)) (qc rfl rfl (s_u (o_ix (sz := 3) Try.underlying50 (fun _ => by kernel_rfl) rfl rfl hv54 hi54)) (qc rfl rfl (s_u (o_fa fa53_1 rfl)) (qc rfl rfl (s_u (o_ldR sc3 rfl hR54 (rok 1 he54 (by decide)))) (qc rfl rfl (s_u (o_callq ca37 rfl (hawthornref03_At_Text.ok c_47 x54.N r81 hr81))) (qc rfl rfl (s_u (o_mv rfl)) (qc rfl rfl (s_u (o_ext rfl rfl)) (qc rfl rfl (s_u (o_ext rfl rfl)) qn)))))))))) ?_ (fun h => absurd h (by decide))
                  refine ec (eo_u rfl (s_u (o_stn ag28 rfl rfl rfl rfl rfl rfl rfl)) (Le.refl _) ?_) en
                  refine stage rfl rfl rfl rfl [0, 0, 0, 6, 14, 30, 63, 127, 255, 255, 511] [9] [] rfl rfl rfl (qc rfl rfl (s_u (o_ext rfl rfl)) qn) en ?_
                  intro _
                  refine ex_sub (E' := [(3, pt b0 0), (6, pt b3 0), (7, pt b9 0), (8, vI p12.1), (9, pt b17 0), (10, g48), (11, vI i_46)]) ⟨rfl, rfl, rfl, rfl, rfl, rfl, rfl, trivial⟩ ?_
                  obtain rfl := Option.some.inj hm82
                  exact x_sub K78 ⟨rfl, rfl, rfl, rfl, rfl, rfl, rfl, trivial⟩ (fun _ h => st_pk 6 [0, 1, 2, 3, 4, 5] (by decide) h)
                · have hm80 := iff_ hp76 h79
                  refine c_seq ?_
                  refine c_reg ?_
                  refine r_u (o_bin rfl rfl (bI_eq x54.Kind 2)) ?_
                  refine r_u (o_as rfl) ?_
                  refine r_nil ?_
                  refine x_seq ?_
                  obtain ⟨p83, hp84, hm85⟩ := bs hm80
                  refine cd_join (E' := [(3, pt b0 0), (6, pt b3 0), (7, pt b9 0), (8, vI p12.1), (9, pt b17 0), (10, g48), (11, vI i_46)]) (L' := Bk b17 28 (hawthornref03_At.c p83) :: Bk b9 51 [g13] :: Bk b3 3 [vI p4] :: Bk b0 50 [v1] :: OwS true 3 1 eI g13 p12.2 :: OwS true 3 1 eI g48 want_45 :: F) ?_ fun K86 => ?_
                  · obtain rfl := Option.some.inj hm85
                    exact x_sub K78 ⟨rfl, rfl, rfl, rfl, rfl, rfl, rfl, trivial⟩ (fun _ h => st_pk 6 [0, 1, 2, 3, 4, 5] (by decide) h)
                  · refine c_if (b := (x54.Kind == 2)) rfl (fun h87 => ?_) fun h87 => ?_
                    · have hm88 := ift hp84 h87
                      refine c_reg ?_
                      refine r_u (o_ldn 0 (hawthornref03_At.c c_47) ag28 rfl rfl rfl rfl) ?_
                      obtain ⟨r89, hr89, hm90⟩ := bs hm88
                      refine r_u (o_callq ca38 rfl (hawthornref03_At_Flag.ok c_47 r89 hr89)) ?_
                      refine r_u (o_mv rfl) ?_
                      refine r_u (o_ext rfl rfl) ?_
                      refine r_u (o_ext rfl rfl) ?_
                      refine r_u0 (o_stn ag28 rfl rfl rfl rfl rfl rfl rfl) ?_
                      refine r_nil ?_
                      obtain rfl := Option.some.inj hm90
                      exact x_sub K86 ⟨rfl, rfl, rfl, rfl, rfl, rfl, rfl, trivial⟩ (fun _ h => st_pk 6 [0, 1, 2, 3, 4, 5] (by decide) h)
                    · have hm88 := iff_ hp84 h87
                      refine c_seq ?_
                      refine c_reg ?_
                      refine r_u (o_bin rfl rfl (bI_eq x54.Kind 3)) ?_
                      refine r_u (o_as rfl) ?_
                      refine r_nil ?_
                      refine x_seq ?_
                      obtain ⟨p91, hp92, hm93⟩ := bs hm88
                      refine cd_join (E' := [(3, pt b0 0), (6, pt b3 0), (7, pt b9 0), (8, vI p12.1), (9, pt b17 0), (10, g48), (11, vI i_46)]) (L' := Bk b17 28 (hawthornref03_At.c p91) :: Bk b9 51 [g13] :: Bk b3 3 [vI p4] :: Bk b0 50 [v1] :: OwS true 3 1 eI g13 p12.2 :: OwS true 3 1 eI g48 want_45 :: F) ?_ fun K94 => ?_
                      · obtain rfl := Option.some.inj hm93
                        exact x_sub K86 ⟨rfl, rfl, rfl, rfl, rfl, rfl, rfl, trivial⟩ (fun _ h => st_pk 6 [0, 1, 2, 3, 4, 5] (by decide) h)
                      · refine c_if (b := (x54.Kind == 3)) rfl (fun h95 => ?_) fun h95 => ?_
                        · have hm96 := ift hp92 h95
                          obtain ⟨r97, hr97, hm98⟩ := bs hm96
                          refine c_any mixed (effs := [10]) (V := []) ?_
                          refine stage_ext [(0, .agg (hawthornref03_At.c c_47).toArray), (1, v1), (2, vI i_46), (3, pt b54 (o54 + i_46.toNat * 3)), (4, pt b54 (o54 + i_46.toNat * 3 + 1)), (5, vI x54.N), (6, .tuple #[.agg (hawthornref03_At.c r97.1).toArray, vS r97.2]), (7, .tuple #[.agg (hawthornref03_At.c r97.1).toArray, vS r97.2]), (8, .agg (hawthornref03_At.c r97.1).toArray), (9, vS r97.2)] rfl ?_
                          refine stage rfl rfl rfl rfl [0, 0, 0, 6, 14, 30, 63, 127, 255, 255, 511] [0, 1, 2, 3, 4, 5, 6, 7, 8, 9] [10] rfl rfl rfl (qc rfl rfl (s_u (o_ldn 0 (hawthornref03_At.c c_47) ag28 rfl rfl rfl rfl)) (qc rfl rfl (s_u (o_ld 3 sc50 rfl rfl rfl)) (qc rfl rfl (s_u (o_mv rfl)) (qc rfl rfl (s_u (o_ix (sz := 3) Try.underlying50 (fun _ => by kernel_rfl) rfl rfl hv54 hi54)) (qc rfl rfl (s_u (o_fa fa53_1 rfl)) (qc rfl rfl (s_u (o_ldR sc3 rfl hR54 (rok 1 he54 (by decide)))) (qc rfl rfl (s_u (o_callq ca39 rfl (hawthornref03_At_Bytes.ok c_47 x54.N r97 hr97))) (qc rfl rfl (s_u (o_mv rfl)) (qc rfl rfl (s_u (o_ext rfl rfl)) (qc rfl rfl (s_u (o_ext rfl rfl)) qn)))))))))) ?_ (fun h => absurd h (by decide))
                          refine ec (eo_u rfl (s_u (o_stn ag28 rfl rfl rfl rfl rfl rfl rfl)) (Le.refl _) ?_) en
                          refine stage rfl rfl rfl rfl [0, 0, 0, 6, 14, 30, 63, 127, 255, 255, 511] [9] [] rfl rfl rfl (qc rfl rfl (s_u (o_ext rfl rfl)) qn) en ?_
                          intro _
                          refine ex_sub (E' := [(3, pt b0 0), (6, pt b3 0), (7, pt b9 0), (8, vI p12.1), (9, pt b17 0), (10, g48), (11, vI i_46)]) ⟨rfl, rfl, rfl, rfl, rfl, rfl, rfl, trivial⟩ ?_
                          obtain rfl := Option.some.inj hm98
                          exact x_sub K94 ⟨rfl, rfl, rfl, rfl, rfl, rfl, rfl, trivial⟩ (fun _ h => st_pk 6 [0, 1, 2, 3, 4, 5] (by decide) h)
                        · have hm96 := iff_ hp92 h95
                          refine c_any mixed (effs := [7]) (V := []) ?_
                          refine stage_ext [(0, .agg (hawthornref03_At.c c_47).toArray), (1, v1), (2, vI i_46), (3, pt b54 (o54 + i_46.toNat * 3)), (4, pt b54 (o54 + i_46.toNat * 3 + 2)), (5, vB x54.OK), (6, .agg (hawthornref03_At.c (hawthornref03_At_Must c_47 x54.OK)).toArray)] rfl ?_
                          refine stage rfl rfl rfl rfl [0, 0, 0, 6, 14, 30, 63, 127] [0, 1, 2, 3, 4, 5, 6] [7] rfl rfl rfl (qc rfl rfl (s_u (o_ldn 0 (hawthornref03_At.c c_47) ag28 rfl rfl rfl rfl)) (qc rfl rfl (s_u (o_ld 3 sc50 rfl rfl rfl)) (qc rfl rfl (s_u (o_mv rfl)) (qc rfl rfl (s_u (o_ix (sz := 3) Try.underlying50 (fun _ => by kernel_rfl) rfl rfl hv54 hi54)) (qc rfl rfl (s_u (o_fa fa53_2 rfl)) (qc rfl rfl (s_u (o_ldR sc4 rfl hR54 (rok 2 he54 (by decide)))) (qc rfl rfl (s_u (o_callq ca40 rfl (hawthornref03_At_Must.ok c_47 x54.OK _ rfl))) qn))))))) ?_ (fun h => absurd h (by decide))
                          refine ec (eo_u rfl (s_u (o_stn ag28 rfl rfl rfl rfl rfl rfl rfl)) (Le.refl _) ?_) en
                          refine stage rfl rfl rfl rfl [0, 0, 0, 6, 14, 30, 63, 127] [] [] rfl rfl rfl qn en ?_
                          intro _
                          refine ex_sub (E' := [(3, pt b0 0), (6, pt b3 0), (7, pt b9 0), (8, vI p12.1), (9, pt b17 0), (10, g48), (11, vI i_46)]) ⟨rfl, rfl, rfl, rfl, rfl, rfl, rfl, trivial⟩ ?_
                          obtain rfl := Option.some.inj hm96
                          exact x_sub K94 ⟨rfl, rfl, rfl, rfl, rfl, rfl, rfl, trivial⟩ (fun _ h => st_pk 6 [0, 1, 2, 3, 4, 5] (by decide) h)
        · have hm53 := iff_ hm50 h52
          refine c_exit (x_exit (ks' := _) rfl ?_)
          obtain rfl := Option.some.inj hm53
          exact x_sub (K23 g48) ⟨rfl, rfl, rfl, rfl, trivial⟩ (fun _ h => st_pk 6 [0, 1, 2, 3, 4, 5] (by decide) h)
    · rcases r10 with ra99 | ⟨rn100, ro101⟩
      · have hm102 := sm_l hp14
        refine c_reg ?_
        refine r_u (o_mv rfl) ?_
        refine r_u (o_mf rfl) ?_
        refine rl_st (fun _ h => st_pk 4 [2, 3, 0, 1] (by decide) h) ?_
        refine r_c (s_w (o_call ca27 rfl (wire_Read.okL (A := [Bk b3 3 [vI p4], Bk b0 50 [v1], Bk b9 51 [v8], OwS true 3 1 eI v8 []]) (M := [Bk b3 3 [vI p4], Bk b0 50 [v1], exP (fun (g : Value) => [Bk b9 51 [g], OwS true 3 1 eI g ra99.2])]) (s' := ra99.1.s) ca32 (fun b F => co_lx (hawthornlaw03_WireReads_1.ok b (⟨r1⟩ : wire_Reader) b3 p4 b0 a1 v1 h1 b9 [] v8 (Sum.inl ra99) hr10) (fun _ _ _ _ ⟨q0, hu, hR, hL⟩ hs => by subst hL; exact ⟨_, ⟨hu, hR, rfl⟩, (st_pk 4 [1, 2, 3, 0] (by decide) (st_exP_f (f := fun (g : Value) => [Bk b9 51 [g], OwS true 3 1 eI g ra99.2]) q0 (st_pk 5 [3, 4, 0, 1, 2] (by decide) hs)))⟩))))) ?_
        refine rl_st (fun _ h => st_pk 3 [2, 0, 1] (by decide) h) ?_
        refine rl_ex (fun w h => st_exP_o w h) fun g103 _ => ?_
        refine r_u (o_as rfl) ?_
        refine r_nil ?_
        obtain rfl := Option.some.inj hm102
        exact x_sub (K16 g103) ⟨rfl, rfl, rfl, rfl, rfl, trivial⟩ (fun _ h => st_pk 4 [0, 2, 3, 1] (by decide) h)
      · have hm102 := sm_r hp14
        refine c_reg ?_
        refine r_u (o_mv rfl) ?_
        refine r_u (o_mf rfl) ?_
        refine rl_st (fun _ h => st_pk 4 [2, 3, 0, 1] (by decide) h) ?_
        refine r_c (s_w (o_call ca27 rfl (wire_Read.okR (A := [Bk b3 3 [vI p4], Bk b0 50 [v1], Bk b9 51 [v8], OwS true 3 1 eI v8 []]) (M := [Bk b3 3 [vI p4], Bk b0 50 [v1], exP (fun (g : Value) => [Bk b9 51 [g], OwS true 3 1 eI g ro101.2])]) (cs := [vS ro101.1.s]) ca32 (fun b F => co_rx (hawthornlaw03_WireReads_1.ok b (⟨r1⟩ : wire_Reader) b3 p4 b0 a1 v1 h1 b9 [] v8 (Sum.inr (rn100, ro101)) hr10) (fun _ _ _ ⟨q0, hR, hL⟩ hs => by subst hL; exact ⟨_, ⟨hR, rfl⟩, (st_pk 4 [1, 2, 3, 0] (by decide) (st_exP_f (f := fun (g : Value) => [Bk b9 51 [g], OwS true 3 1 eI g ro101.2]) q0 (st_pk 5 [3, 4, 0, 1, 2] (by decide) hs)))⟩))))) ?_
        refine rl_st (fun _ h => st_pk 3 [2, 0, 1] (by decide) h) ?_
        refine rl_ex (fun w h => st_exP_o w h) fun g104 _ => ?_
        refine r_u (o_as rfl) ?_
        refine r_nil ?_
        obtain rfl := Option.some.inj hm102
        exact x_sub (K16 g104) ⟨rfl, rfl, rfl, rfl, rfl, trivial⟩ (fun _ h => st_pk 4 [0, 2, 3, 1] (by decide) h)
  · refine c_if (b := decide (12 < (a1.length : Int))) rfl (fun h105 => ?_) fun h105 => ?_
    · have hm106 := ift hp5 h105
      refine c_reg ?_
      refine r_u0 (o_st sc3 rfl rfl rfl rfl rfl rfl) ?_
      refine r_nil ?_
      obtain rfl := Option.some.inj hm106
      exact x_sub K7 ⟨rfl, rfl, rfl, trivial⟩ (fun _ h => st_pk 2 [0, 1] (by decide) h)
    · have hm106 := iff_ hp5 h105
      refine c_skip ?_
      obtain rfl := Option.some.inj hm106
      exact x_sub K7 ⟨rfl, rfl, rfl, trivial⟩ (fun _ h => st_pk 2 [0, 1] (by decide) h)

end Go.Proofs.Ytgnpffbgfmeinaa
