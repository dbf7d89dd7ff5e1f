import Derived.Test.YtlahbmoebbflbaaW2
import Derived.Test.YtlahbmoebbflbaaFacts
import Derived.Test.YtlahbmoebbflbaaHwT
set_option linter.unusedVariables false
set_option linter.unusedSectionVars false
set_option linter.unusedSimpArgs false
set_option maxRecDepth 100000
set_option maxHeartbeats 8000000
namespace Go.Proofs.Ytlahbmoebbflbaa
open Go Go.Proofs.Ytlahbmoebbflbaa.Hw
def hawthornlaw05_SketchAges_l2 (a2 : Int) : Nat → (Option sketch_Sketch) → Int → hawthornref05_Sketch → Option (Option sketch_Sketch × hawthornref05_Sketch)
  | 0, _, _, _ => none
  | k66 + 1, s_55, i_56, c_57 => if decide (i_56 < (iand a2 7)) then om s_55 (none) fun x71 => (sketch_Sketch_Age x71).bind fun r77 => (hawthornref05_Sketch_Age c_57).bind fun r87 => hawthornlaw05_SketchAges_l2 a2 k66 (some r77) (i64 (i_56 + 1)) r87 else some (s_55, c_57)
def hawthornlaw05_SketchAges_l3 (a1 : List Str) : Nat → (Option sketch_Sketch) → Int → hawthornref05_Sketch → Option (Option sketch_Sketch × hawthornref05_Sketch)
  | 0, _, _, _ => none
  | k103 + 1, s_92, i_93, c_94 => if (decide (i_93 < (a1.length : Int)) && decide (i_93 < 100)) then (gi a1 i_93).bind fun x108 => (hawthornlaw05_few x108).bind fun r110 => om s_92 (none) fun x112 => (sketch_Sketch_Add x112 r110).bind fun r118 => (hawthornref05_Sketch_Add c_94 r110).bind fun r128 => hawthornlaw05_SketchAges_l3 a1 k103 (some r118) (i64 (i_93 + 1)) r128 else some (s_92, c_94)
def hawthornlaw05_SketchAges (a0 : Int) (a1 : List Str) (a2 : Int) : Option Bool :=
  (hawthornlaw05_both a0 5).bind fun r0 => (hawthornlaw05_awake).bind fun r9 => if (!r9 || !r0.2.2) then some false else Option.bind (hawthornlaw05_SketchAges_l3 a1 (((a1.length : Int) - 0).toNat + 1) r0.1 0 r0.2.1) fun p13 => Option.bind (hawthornlaw05_SketchAges_l2 a2 (((iand a2 7) - 0).toNat + 1) p13.1 0 p13.2) fun p25 => om p25.1 (none) fun x37 => (sketch_Sketch_Export x37).bind fun r51 => (hawthornref05_Sketch_Put p25.2).bind fun r53 => some (r51 == r53)
theorem hawthornlaw05_SketchAges.ok {G R F} (a0 : Int) (v1 : Value) (a1 : List Str) (h1 : RoS R v1 1 (fun x => [vS x]) a1) (a2 : Int) (r : Bool) (hm : hawthornlaw05_SketchAges a0 a1 a2 = some r) : CO Try.prog 5 [vI a0, v1, vI a2] G R (F)
    (Ret fun u R' L' => u = vB r ∧ True ∧ L' = F) := by
  unfold hawthornlaw05_SketchAges at hm
  refine co_ofN (N := 63) Try.func5 rfl rfl ?_
  refine c_seq ?_
  refine c_reg ?_
  refine r_u (o_as rfl) ?_
  refine r_nil ?_
  refine x_seq ?_
  refine c_seq ?_
  refine c_reg ?_
  refine r_u (o_mv rfl) ?_
  obtain ⟨r0, hr0, hm7⟩ := bs hm
  refine r_sw (s_w (o_call ca17 rfl (hawthornlaw05_both.ok a0 5 r0 hr0))) ?_
  rintro _ R _ _ ⟨⟨pv2, g3⟩, v4, rfl, rfl, rfl⟩
  refine r_u (o_mv rfl) ?_
  refine r_u (o_ext rfl rfl) ?_
  refine r_u (o_ext rfl rfl) ?_
  refine r_u (o_ext rfl rfl) ?_
  refine r_new (o_al ze36) fun b8 => ?_
  refine r_u (o_as rfl) ?_
  refine rl_st (fun _ h => st_pk 5 [0, 2, 4, 1, 3] (by decide) h) ?_
  refine r_u0 (ou_if (one_o 1 rfl) fun ho0 => ou_if (one_o 2 rfl) fun ho1 => o_stn ag36 rfl rfl rfl (al_c rfl (al_c rfl (al_c ho0 (al_c ho1 (al_c rfl al_n))))) rfl rfl rfl) ?_
  refine r_u (o_as rfl) ?_
  refine r_nil ?_
  refine x_seq ?_
  refine c_seq ?_
  refine c_seq ?_
  refine c_reg ?_
  obtain ⟨r9, hr9, hm10⟩ := bs hm7
  refine r_u (o_callq ca13 rfl (hawthornlaw05_awake.ok r9 hr9)) ?_
  refine r_u (o_not rfl) ?_
  refine r_u (o_mv rfl) ?_
  refine r_s (s_gf rfl rfl fun g => o_mv rfl) ?_
  refine r_s (s_gf rfl rfl fun g => o_not (evg rfl g)) ?_
  refine r_u (o_or rfl rfl) ?_
  refine r_nil ?_
  refine x_seq ?_
  refine c_if (b := (!r9 || !r0.2.2)) rfl (fun h11 => ?_) fun h11 => ?_
  · have hm12 := ift hm10 h11
    refine c_seq ?_
    refine c_reg ?_
    refine r_u (o_as rfl) ?_
    refine r_nil ?_
    refine x_seq ?_
    refine c_ret ?_
    obtain rfl := Option.some.inj hm12
    refine ex_st (fun _ h => st_pk 5 [] (by decide) h) ?_
    exact x_r1 rfl (rv_t rfl) (Le.refl _) ⟨_, rfl, rfl, trivial, rfl⟩
  · have hm12 := iff_ hm10 h11
    refine c_skip ?_
    refine x_seq ?_
    refine c_seq ?_
    refine c_seq ?_
    refine c_reg ?_
    refine r_u (o_as rfl) ?_
    refine r_nil ?_
    refine x_seq ?_
    obtain ⟨p13, hp22, hm23⟩ := bs hm12
    refine cd_cut (fun x ks => ∀ (R14 : PH), ∀ (le15 : Le R R14), ∀ (pv16 : Value × sketch_Sketch.G), ∀ (g19 : hawthornref05_Sketch.G), EX x .normal ks [(2, vI a2), (8, pt b8 0), (7, pv16.1)] R14 (Bk b8 36 [vI p13.2.Wide, vW p13.2.Seed, g19.Rows.1, g19.Door, vI p13.2.Added] :: rO (sketch_Sketch.op pv16.2) pv16.1 p13.1 :: OwS true 74 1 eV g19.Rows.1 g19.Rows.2 :: OwL (OwS true 3 1 eI) g19.Rows.2 p13.2.Rows :: OwS true 4 1 eB g19.Door p13.2.Door :: F)) ?_ fun K24 => ?_
    · intro R14 le15 pv16 g19
      obtain ⟨pv17, g18⟩ := pv16
      refine x_seq ?_
      refine c_seq ?_
      refine c_seq ?_
      refine c_reg ?_
      refine r_u (o_as rfl) ?_
      refine r_nil ?_
      refine x_seq ?_
      obtain ⟨p25, hp34, hm35⟩ := bs hm23
      refine cd_cut (fun x ks => ∀ (R26 : PH), ∀ (le27 : Le R14 R26), ∀ (pv28 : Value × sketch_Sketch.G), ∀ (g31 : hawthornref05_Sketch.G), EX x .normal ks [(8, pt b8 0), (7, pv28.1)] R26 (Bk b8 36 [vI p25.2.Wide, vW p25.2.Seed, g31.Rows.1, g31.Door, vI p25.2.Added] :: rO (sketch_Sketch.op pv28.2) pv28.1 p25.1 :: OwS true 74 1 eV g31.Rows.1 g31.Rows.2 :: OwL (OwS true 3 1 eI) g31.Rows.2 p25.2.Rows :: OwS true 4 1 eB g31.Door p25.2.Door :: F)) ?_ fun K36 => ?_
      · intro R26 le27 pv28 g31
        obtain ⟨pv29, g30⟩ := pv28
        refine x_seq ?_
        refine c_seq ?_
        refine cd_st (fun _ h => st_pk 5 [1, 0, 2, 3, 4] (by decide) h) ?_
        refine cd_opt (fun ho39 => ?_) (fun x37 b38 ho39 => ?_)
        · rintro rfl
          have hm40 := om_n hm35 ho39
          cases hm40
        · rintro rfl
          have hm40 := om_s hm35 ho39
          refine cd_st (fun _ h => st_star_o h) ?_
          refine cd_st (fun _ h => st_pk 7 [4, 5, 0, 1, 2, 3, 6] (by decide) h) ?_
          refine cd_ex (fun w h => st_freezeN w h) fun R43 hf46 => ?_
          obtain ⟨le44, h45⟩ := hf46
          refine cd_st (fun _ h => st_pk 5 [4, 0, 1, 2, 3] (by decide) h) ?_
          refine cd_ex (fun w h => st_freeze w h) fun R47 hf50 => ?_
          obtain ⟨le48, h49⟩ := hf50
          obtain ⟨r51, hr51, hm52⟩ := bs hm40
          obtain ⟨r53, hr53, hm54⟩ := bs hm52
          refine c_any mixed (effs := [1]) (V := []) ?_
          refine stage_ext [(0, pt b38 0), (2, .agg [vI p25.2.Wide, vW p25.2.Seed, g31.Rows.1, g31.Door, vI p25.2.Added].toArray)] rfl ?_
          refine stage rfl rfl rfl rfl [0, 1, 0, 7, 15, 31] [0, 2] [1] rfl rfl rfl (qc rfl rfl (s_u (o_mv rfl)) (qc rfl rfl (s_u (o_ldn 3 [vI p25.2.Wide, vW p25.2.Seed, g31.Rows.1, g31.Door, vI p25.2.Added] ag36 rfl rfl rfl rfl)) qn)) ?_ (fun h => absurd h (by decide))
          refine ec (eo_c rfl (s_w (o_call ca21 rfl (sketch_Sketch_Export.ok b38 x37 g30 r51 hr51))) ?_) en
          refine stage_ext [(3, vS r53), (4, vB (r51 == r53)), (5, vB (r51 == r53))] rfl ?_
          refine stage rfl rfl rfl rfl [0, 1, 0, 7, 15, 31] [2, 3, 4, 5] [] rfl rfl rfl (qc rfl rfl (s_u (o_ldn 3 [vI p25.2.Wide, vW p25.2.Seed, g31.Rows.1, g31.Door, vI p25.2.Added] ag36 rfl rfl rfl rfl)) (qc rfl rfl (s_u (o_callq ca22 rfl (hawthornref05_Sketch_Put.ok p25.2 (⟨(g31.Rows.1, []), g31.Door⟩ : hawthornref05_Sketch.G) ⟨(RoN.mono le48 h45), h49⟩ r53 hr53))) (qc rfl rfl (s_u (o_bin rfl rfl (bS_eq r51 r53))) (qc rfl rfl (s_u (o_as rfl)) qn)))) en ?_
          intro _
          refine ex_sub (E' := [(6, vB (r51 == r53))]) ⟨rfl, trivial⟩ ?_
          refine x_seq ?_
          refine c_ret ?_
          obtain rfl := Option.some.inj hm54
          refine ex_st (fun _ h => st_pk 4 [] (by decide) h) ?_
          exact x_r1 rfl (rv_t rfl) (Le.trans (Le.trans (Le.trans le15 le27) le44) le48) ⟨_, rfl, rfl, trivial, rfl⟩
      · refine c_blk ?_
        refine cd_loopG (M := fun k66 (s : Option sketch_Sketch × Int × hawthornref05_Sketch × (Value × sketch_Sketch.G) × hawthornref05_Sketch.G × PH) => (hawthornlaw05_SketchAges_l2 a2 k66 s.1 s.2.1 s.2.2.1 = some p25) ∧ (Le R14 s.2.2.2.2.2)) (Ef := fun (s : Option sketch_Sketch × Int × hawthornref05_Sketch × (Value × sketch_Sketch.G) × hawthornref05_Sketch.G × PH) => [(2, vI a2), (8, pt b8 0), (7, s.2.2.2.1.1), (11, vI s.2.1)]) (Rf := fun (s : Option sketch_Sketch × Int × hawthornref05_Sketch × (Value × sketch_Sketch.G) × hawthornref05_Sketch.G × PH) => s.2.2.2.2.2) (Lf := fun (s : Option sketch_Sketch × Int × hawthornref05_Sketch × (Value × sketch_Sketch.G) × hawthornref05_Sketch.G × PH) => Bk b8 36 [vI s.2.2.1.Wide, vW s.2.2.1.Seed, s.2.2.2.2.1.Rows.1, s.2.2.2.2.1.Door, vI s.2.2.1.Added] :: rO (sketch_Sketch.op s.2.2.2.1.2) s.2.2.2.1.1 s.1 :: OwS true 74 1 eV s.2.2.2.2.1.Rows.1 s.2.2.2.2.1.Rows.2 :: OwL (OwS true 3 1 eI) s.2.2.2.2.1.Rows.2 s.2.2.1.Rows :: OwS true 4 1 eB s.2.2.2.2.1.Door s.2.2.1.Door :: F) (((iand a2 7) - 0).toNat + 1) (p13.1, 0, p13.2, (pv17, g18), g19, R14) ⟨hp34, (Le.refl _)⟩ ⟨rfl, rfl, rfl, rfl, trivial⟩ (fun _ h => st_pk 5 [0, 1, 2, 3, 4] (by decide) h) (fun _ h => by cases h.1) fun k66 s hM68 => ?_
        obtain ⟨s_55, i_56, c_57, pv60, g63, R58⟩ := s
        have hm67 : hawthornlaw05_SketchAges_l2 a2 (k66 + 1) s_55 i_56 c_57 = some p25 := hM68.1
        have le59 : Le R14 R58 := hM68.2
        rw [hawthornlaw05_SketchAges_l2] at hm67
        obtain ⟨pv61, g62⟩ := pv60
        refine c_seq ?_
        refine c_seq ?_
        refine c_reg ?_
        refine r_u (o_mv rfl) ?_
        refine r_u (o_mv rfl) ?_
        refine r_u (o_bin rfl rfl (bI_and a2 7)) ?_
        refine r_u (o_bin rfl rfl (bI_lt i_56 (iand a2 7))) ?_
        refine r_nil ?_
        refine x_seq ?_
        refine c_if (b := decide (i_56 < (iand a2 7))) rfl (fun h69 => ?_) fun h69 => ?_
        · have hm70 := ift hm67 h69
          refine c_skip ?_
          refine x_seq ?_
          refine c_seq ?_
          refine c_blk ?_
          refine c_seq ?_
          refine cd_st (fun _ h => st_pk 5 [1, 0, 2, 3, 4] (by decide) h) ?_
          refine cd_opt (fun ho73 => ?_) (fun x71 b72 ho73 => ?_)
          · rintro rfl
            have hm74 := om_n hm70 ho73
            cases hm74
          · rintro rfl
            have hm74 := om_s hm70 ho73
            refine cd_st (fun _ h => st_star_o h) ?_
            refine c_reg ?_
            refine r_u (o_mv rfl) ?_
            obtain ⟨r77, hr77, hm78⟩ := bs hm74
            refine r_c (s_w (o_call ca23 rfl (sketch_Sketch_Age.ok b72 x71 g62 r77 hr77))) ?_
            refine r_nil ?_
            refine x_seq ?_
            refine c_reg ?_
            refine r_u (o_ldn 3 [vI c_57.Wide, vW c_57.Seed, g63.Rows.1, g63.Door, vI c_57.Added] ag36 rfl rfl rfl rfl) ?_
            refine rl_st (fun _ h => st_pk 7 [4, 5, 0, 1, 2, 3, 6] (by decide) h) ?_
            refine rl_ex (fun w h => st_freezeN w h) fun R79 hf82 => ?_
            obtain ⟨le80, h81⟩ := hf82
            refine rl_st (fun _ h => st_pk 5 [4, 0, 1, 2, 3] (by decide) h) ?_
            refine rl_ex (fun w h => st_freeze w h) fun R83 hf86 => ?_
            obtain ⟨le84, h85⟩ := hf86
            obtain ⟨r87, hr87, hm91⟩ := bs hm78
            refine r_sw (s_w (o_call ca24 rfl (hawthornref05_Sketch_Age.ok c_57 (⟨(g63.Rows.1, []), g63.Door⟩ : hawthornref05_Sketch.G) ⟨(RoN.mono le84 h81), h85⟩ r87 hr87))) ?_
            rintro _ R83 _ _ ⟨v88, rfl, rfl, rfl⟩
            refine rl_st (fun _ h => st_pk 7 [6, 0, 2, 1, 3, 4, 5] (by decide) h) ?_
            refine r_u0 (ou_if (one_o 1 rfl) fun ho0 => ou_if (one_o 2 rfl) fun ho1 => o_stn ag36 rfl rfl rfl (al_c rfl (al_c rfl (al_c ho0 (al_c ho1 (al_c rfl al_n))))) rfl rfl rfl) ?_
            refine r_nil ?_
            refine x_blk ?_
            refine x_seq ?_
            refine c_reg ?_
            refine r_u (o_mv rfl) ?_
            refine r_u (o_bin rfl rfl (bI_add i_56 1)) ?_
            refine r_u (o_as rfl) ?_
            refine r_nil ?_
            refine ex_st (fun _ h => st_pk 7 [4, 5, 6, 0, 1, 2, 3] (by decide) h) ?_
            refine ex_st (fun _ h => st_some (f := sketch_Sketch.op g62) (a := r77) (st_star_f (A := sketch_Sketch.fl b72 r77 g62) h)) ?_
            exact x_lp ((some r77), i64 (i_56 + 1), r87, (pt b72 0, g62), v88, R83) ⟨hm91, (Le.trans (Le.trans le59 le80) le84)⟩ ⟨rfl, rfl, rfl, rfl, trivial⟩ (fun _ h => st_pk 5 [1, 0, 2, 4, 3] (by decide) h)
        · have hm70 := iff_ hm67 h69
          refine c_exit (x_exit (ks' := _) rfl ?_)
          obtain rfl := Option.some.inj hm70
          exact x_sub (K36 _ le59 (pv61, g62) g63) ⟨rfl, rfl, trivial⟩ (fun _ h => st_pk 5 [0, 1, 2, 3, 4] (by decide) h)
    · refine c_blk ?_
      refine cd_loopG (M := fun k103 (s : Option sketch_Sketch × Int × hawthornref05_Sketch × (Value × sketch_Sketch.G) × hawthornref05_Sketch.G × PH) => (hawthornlaw05_SketchAges_l3 a1 k103 s.1 s.2.1 s.2.2.1 = some p13) ∧ (Le R s.2.2.2.2.2)) (Ef := fun (s : Option sketch_Sketch × Int × hawthornref05_Sketch × (Value × sketch_Sketch.G) × hawthornref05_Sketch.G × PH) => [(1, v1), (2, vI a2), (8, pt b8 0), (7, s.2.2.2.1.1), (10, vI s.2.1)]) (Rf := fun (s : Option sketch_Sketch × Int × hawthornref05_Sketch × (Value × sketch_Sketch.G) × hawthornref05_Sketch.G × PH) => s.2.2.2.2.2) (Lf := fun (s : Option sketch_Sketch × Int × hawthornref05_Sketch × (Value × sketch_Sketch.G) × hawthornref05_Sketch.G × PH) => Bk b8 36 [vI s.2.2.1.Wide, vW s.2.2.1.Seed, s.2.2.2.2.1.Rows.1, s.2.2.2.2.1.Door, vI s.2.2.1.Added] :: rO (sketch_Sketch.op s.2.2.2.1.2) s.2.2.2.1.1 s.1 :: OwS true 74 1 eV s.2.2.2.2.1.Rows.1 s.2.2.2.2.1.Rows.2 :: OwL (OwS true 3 1 eI) s.2.2.2.2.1.Rows.2 s.2.2.1.Rows :: OwS true 4 1 eB s.2.2.2.2.1.Door s.2.2.1.Door :: F) (((a1.length : Int) - 0).toNat + 1) (r0.1, 0, r0.2.1, (pv2, g3), v4, R) ⟨hp22, (Le.refl _)⟩ ⟨rfl, rfl, rfl, rfl, rfl, trivial⟩ (fun _ h => st_pk 5 [0, 3, 1, 4, 2] (by decide) h) (fun _ h => by cases h.1) fun k103 s hM105 => ?_
      obtain ⟨s_92, i_93, c_94, pv97, g100, R95⟩ := s
      have hm104 : hawthornlaw05_SketchAges_l3 a1 (k103 + 1) s_92 i_93 c_94 = some p13 := hM105.1
      have le96 : Le R R95 := hM105.2
      rw [hawthornlaw05_SketchAges_l3] at hm104
      obtain ⟨pv98, g99⟩ := pv97
      refine c_seq ?_
      refine c_seq ?_
      refine c_reg ?_
      refine r_u (o_mv rfl) ?_
      refine r_u (o_mv rfl) ?_
      refine r_u (o_lenR Try.underlying23 rfl (RoS.mono le96 h1)) ?_
      refine r_u (o_bin rfl rfl (bI_lt i_93 (a1.length : Int))) ?_
      refine r_u (o_mv rfl) ?_
      refine r_s (s_gt rfl rfl fun g => o_mv rfl) ?_
      refine r_s (s_gt rfl rfl fun g => o_bin (evg rfl g) rfl (bI_lt i_93 100)) ?_
      refine r_u (o_and rfl rfl) ?_
      refine r_nil ?_
      refine x_seq ?_
      refine c_if (b := (decide (i_93 < (a1.length : Int)) && decide (i_93 < 100))) rfl (fun h106 => ?_) fun h106 => ?_
      · have hm107 := ift hm104 h106
        refine c_skip ?_
        refine x_seq ?_
        refine c_seq ?_
        refine c_blk ?_
        refine c_seq ?_
        obtain ⟨x108, hx108, hm109⟩ := bs hm107
        obtain ⟨b108, o108, l108, T108, fr108, c108, hv108, hR108, he108, hi108⟩ := RoS.ne (RoS.mono le96 h1) hx108
        obtain ⟨r110, hr110, hm111⟩ := bs hm109
        refine cd_st (fun _ h => st_pk 5 [1, 0, 2, 3, 4] (by decide) h) ?_
        refine cd_opt (fun ho114 => ?_) (fun x112 b113 ho114 => ?_)
        · rintro rfl
          have hm115 := om_n hm111 ho114
          cases hm115
        · rintro rfl
          have hm115 := om_s hm111 ho114
          refine cd_st (fun _ h => st_star_o h) ?_
          refine c_reg ?_
          refine r_u (o_mv rfl) ?_
          refine r_u (o_mv rfl) ?_
          refine r_u (o_mv rfl) ?_
          refine r_u (o_ix (sz := 1) Try.underlying23 (fun _ => by kernel_rfl) rfl rfl hv108 hi108) ?_
          refine r_u (o_ldR sc9 rfl hR108 (rok 0 he108 (by decide))) ?_
          refine r_u (o_callq ca15 rfl (hawthornlaw05_few.ok x108 r110 hr110)) ?_
          obtain ⟨r118, hr118, hm119⟩ := bs hm115
          refine r_c (s_w (o_call ca14 rfl (sketch_Sketch_Add.ok b113 x112 g99 r110 r118 hr118))) ?_
          refine r_nil ?_
          refine x_seq ?_
          refine cd_st (fun _ h => st_pk 7 [4, 5, 0, 1, 2, 3, 6] (by decide) h) ?_
          refine cd_ex (fun w h => st_freezeN w h) fun R120 hf123 => ?_
          obtain ⟨le121, h122⟩ := hf123
          refine cd_st (fun _ h => st_pk 5 [4, 0, 1, 2, 3] (by decide) h) ?_
          refine cd_ex (fun w h => st_freeze w h) fun R124 hf127 => ?_
          obtain ⟨le125, h126⟩ := hf127
          obtain ⟨r128, hr128, hm134⟩ := bs hm119
          refine c_any mixed (effs := [6, 7]) (V := []) ?_
          refine stage_ext [(0, .agg [vI c_94.Wide, vW c_94.Seed, g100.Rows.1, g100.Door, vI c_94.Added].toArray), (1, v1), (2, vI i_93), (3, pt b108 (o108 + i_93.toNat * 1)), (4, vS x108), (5, vS r110)] rfl ?_
          refine stage rfl rfl rfl rfl [0, 0, 0, 6, 14, 30, 63, 127] [0, 1, 2, 3, 4, 5] [6] rfl rfl rfl (qc rfl rfl (s_u (o_ldn 3 [vI c_94.Wide, vW c_94.Seed, g100.Rows.1, g100.Door, vI c_94.Added] ag36 rfl rfl rfl rfl)) (qc rfl rfl (s_u (o_mv rfl)) (qc rfl rfl (s_u (o_mv rfl)) (qc rfl rfl (s_u (o_ix (sz := 1) Try.underlying23 (fun _ => by kernel_rfl) rfl rfl hv108 hi108)) (qc rfl rfl (s_u (o_ldR sc9 rfl ((Le.trans le121 le125) _ _ hR108) (rok 0 he108 (by decide)))) (qc rfl rfl (s_u (o_callq ca15 rfl (hawthornlaw05_few.ok x108 r110 hr110))) qn)))))) ?_ (fun h => absurd h (by decide))
          refine ec (eo_w rfl (s_w (o_call ca19 rfl (hawthornref05_Sketch_Add.ok c_94 (⟨(g100.Rows.1, []), g100.Door⟩ : hawthornref05_Sketch.G) ⟨(RoN.mono le125 h122), h126⟩ r110 r128 hr128))) ?_) en
          rintro _ R132 _ le133 ⟨v129, rfl, _, rfl⟩
          refine stage_st (fun _ h => st_pk 7 [6, 0, 2, 1, 3, 4, 5] (by decide) h) ?_
          refine stage rfl rfl rfl rfl [0, 0, 0, 6, 14, 30, 63, 127] [] [7] rfl rfl rfl qn ?_ (fun h => absurd h (by decide))
          refine ec (eo_u rfl (s_u (ou_if (one_o 1 rfl) fun ho0 => ou_if (one_o 2 rfl) fun ho1 => o_stn ag36 rfl rfl rfl (al_c rfl (al_c rfl (al_c ho0 (al_c ho1 (al_c rfl al_n))))) rfl rfl rfl)) (Le.refl _) ?_) en
          refine stage rfl rfl rfl rfl [0, 0, 0, 6, 14, 30, 63, 127] [] [] rfl rfl rfl qn en ?_
          intro _
          refine ex_sub (E' := [(1, v1), (2, vI a2), (8, pt b8 0), (7, pt b113 0), (10, vI i_93)]) ⟨rfl, rfl, rfl, rfl, rfl, trivial⟩ ?_
          refine x_blk ?_
          refine x_seq ?_
          refine c_reg ?_
          refine r_u (o_mv rfl) ?_
          refine r_u (o_bin rfl rfl (bI_add i_93 1)) ?_
          refine r_u (o_as rfl) ?_
          refine r_nil ?_
          refine ex_st (fun _ h => st_pk 7 [4, 5, 6, 0, 1, 2, 3] (by decide) h) ?_
          refine ex_st (fun _ h => st_some (f := sketch_Sketch.op g99) (a := r118) (st_star_f (A := sketch_Sketch.fl b113 r118 g99) h)) ?_
          exact x_lp ((some r118), i64 (i_93 + 1), r128, (pt b113 0, g99), v129, R132) ⟨hm134, (Le.trans (Le.trans (Le.trans le96 le121) le125) le133)⟩ ⟨rfl, rfl, rfl, rfl, rfl, trivial⟩ (fun _ h => st_pk 5 [1, 0, 2, 4, 3] (by decide) h)
      · have hm107 := iff_ hm104 h106
        refine c_exit (x_exit (ks' := _) rfl ?_)
        obtain rfl := Option.some.inj hm107
        exact x_sub (K24 _ le96 (pv98, g99) g100) ⟨rfl, rfl, rfl, trivial⟩ (fun _ h => st_pk 5 [0, 1, 2, 3, 4] (by decide) h)

def wire_fail (a0 : Int) : (Unit) ⊕ (Int × Unit) :=
  Sum.inr (a0, ())
theorem wire_fail.ok {G R F} (a0 : Int) (r : (Unit) ⊕ (Int × Unit)) (hm : wire_fail a0 = r) : CO Try.prog 85 [vI a0] G R (F)
    (PK 102 r (fun (a : Unit) u R' L' => u = .tuple #[] ∧ R' = R ∧ L' = F) (fun n (o : Unit) R' L' => R' = R ∧ L' = F)) := by
  unfold wire_fail at hm
  refine co_ofN (N := 5) Try.func85 rfl rfl ?_
  refine c_reg ?_
  refine r_u (o_mv rfl) ?_
  refine r_u (o_bld [vI a0] rfl (fun _ => by kernel_rfl)) ?_
  refine r_u (o_mi (v := .iface 102 (.agg #[vI a0])) rfl (fun _ => by kernel_rfl)) ?_
  subst hm
  exact r_sw0 (s_w (o_panic rfl (px_st (fun _ h => st_pk 0 [] (by decide) h) (px_of (Le.refl _) (.inr ⟨_, rfl, _, rfl, rfl, rfl⟩))))) (fun _ _ _ _ h => h.elim)

def wire_Reader_Bytes (a0 : wire_Reader) (a1 : Int) : Option ((Str × wire_Reader) ⊕ (Int × wire_Reader)) :=
  Option.bind (if (decide (a1 < 0) || decide ((a0.s.length : Int) < a1)) then lt (wire_fail 4) fun r11 => sm r11 (fun (ra13 : Unit) => some (Sum.inl ())) fun ((rn14, ro15) : Int × Unit) => some (Sum.inr (Sum.inr (rn14, a0))) else some (Sum.inl ())) fun (p0 : Unit ⊕ ((Str × wire_Reader) ⊕ (Int × wire_Reader))) => (match p0 with | Sum.inl q1 => (sl a0.s 0 a1).bind fun s5 => (sl a0.s a1 (a0.s.length : Int)).bind fun s7 => some (Sum.inl (s5, (⟨s7⟩ : wire_Reader))) | Sum.inr r => some r)
theorem wire_Reader_Bytes.ok {G R F} (b0_ : Nat) (a0 : wire_Reader) (a1 : Int) (r : (Str × wire_Reader) ⊕ (Int × wire_Reader)) (hm : wire_Reader_Bytes a0 a1 = some r) : CO Try.prog 73 [pt b0_ 0, vI a1] G R (Bk b0_ 104 (wire_Reader.c a0) :: F)
    (PK 102 r (fun (a : Str × wire_Reader) u R' L' => u = vS a.1 ∧ R' = R ∧ L' = Bk b0_ 104 (wire_Reader.c a.2) :: F) (fun n (o : wire_Reader) R' L' => R' = R ∧ L' = Bk b0_ 104 (wire_Reader.c o) :: F)) := by
  unfold wire_Reader_Bytes at hm
  refine co_ofN (N := 34) Try.func73 rfl rfl ?_
  refine c_seq ?_
  refine c_reg ?_
  refine r_u (o_as rfl) ?_
  refine r_nil ?_
  refine x_seq ?_
  refine c_seq ?_
  refine c_seq ?_
  refine c_reg ?_
  refine r_u (o_mv rfl) ?_
  refine r_u (o_bin rfl rfl (bI_lt a1 0)) ?_
  refine r_u (o_mv rfl) ?_
  refine r_s (s_gf rfl rfl fun g => o_mv rfl) ?_
  refine r_s (s_gf rfl rfl fun g => o_mv rfl) ?_
  refine r_s (s_gf rfl rfl fun g => o_nc (evg rfl g)) ?_
  refine r_s (s_gf rfl rfl fun g => o_fa fa104_0 (evg rfl g)) ?_
  refine r_s (s_gf rfl rfl fun g => o_ld 0 sc9 (evg rfl g) rfl rfl) ?_
  refine r_s (s_gf rfl rfl fun g => o_lenS Try.underlying9 (evg rfl g)) ?_
  refine r_s (s_gf rfl rfl fun g => o_bin (evg rfl g) (evg rfl g) (bI_gt a1 (a0.s.length : Int))) ?_
  refine r_u (o_or rfl rfl) ?_
  refine r_nil ?_
  refine x_seq ?_
  obtain ⟨p0, hp2, hm3⟩ := bs hm
  refine cd_joinS (p := p0) (Ef := fun q1 => [(0, pt b0_ 0), (1, vI a1)]) (Lf := fun q1 => Bk b0_ 104 (wire_Reader.c a0) :: F) (fun q1 hq => ?_) fun K4 => ?_
  · subst hq
    try dsimp only at hm3
    refine x_seq ?_
    refine c_seq ?_
    refine c_reg ?_
    refine r_u (o_mv rfl) ?_
    refine r_u (o_nc rfl) ?_
    refine r_u (o_fa fa104_0 rfl) ?_
    refine r_u (o_ld 0 sc9 rfl rfl rfl) ?_
    refine r_u (o_mv rfl) ?_
    obtain ⟨s5, hs5, hm6⟩ := bs hm3
    refine r_u (o_slS (i := 0) (j := a1) Try.underlying9 rfl rfl rfl hs5) ?_
    refine r_u (o_as rfl) ?_
    refine r_nil ?_
    refine x_seq ?_
    refine c_seq ?_
    refine c_reg ?_
    refine r_u (o_mv rfl) ?_
    refine r_u (o_mv rfl) ?_
    refine r_u (o_nc rfl) ?_
    refine r_u (o_fa fa104_0 rfl) ?_
    refine r_u (o_ld 0 sc9 rfl rfl rfl) ?_
    refine r_u (o_mv rfl) ?_
    obtain ⟨s7, hs7, hm8⟩ := bs hm6
    refine r_u (o_slS (i := a1) (j := (a0.s.length : Int)) Try.underlying9 rfl rfl rfl hs7) ?_
    refine r_u (o_nc rfl) ?_
    refine r_u (o_fa fa104_0 rfl) ?_
    refine r_u0 (o_st sc9 rfl rfl rfl rfl rfl rfl) ?_
    refine r_nil ?_
    refine x_seq ?_
    refine c_seq ?_
    refine c_reg ?_
    refine r_u (o_mv rfl) ?_
    refine r_u (o_as rfl) ?_
    refine r_nil ?_
    refine x_seq ?_
    refine c_ret ?_
    obtain rfl := Option.some.inj hm8
    exact x_r1 rfl (rv_t rfl) (Le.refl _) (.inl ⟨_, rfl, _, rfl, rfl, rfl, rfl⟩)
  · refine c_if (b := (decide (a1 < 0) || decide ((a0.s.length : Int) < a1))) rfl (fun h9 => ?_) fun h9 => ?_
    · have hm10 := ift hp2 h9
      obtain ⟨r11, hr11, hm12⟩ := ltx hm10
      rcases r11 with ra13 | ⟨rn14, ro15⟩
      · have hm16 := sm_l hm12
        refine c_reg ?_
        refine r_c (s_w (o_callL ca85 rfl (wire_fail.ok 4 (Sum.inl ra13) hr11) (fun _ _ _ h => h))) ?_
        refine r_nil ?_
        obtain rfl := Option.some.inj hm16
        exact x_sub (K4 _ rfl) ⟨rfl, rfl, trivial⟩ (fun _ h => st_pk 1 [0] (by decide) h)
      · have hm16 := sm_r hm12
        refine c_reg ?_
        obtain rfl := Option.some.inj hm16
        try dsimp only at hm3
        obtain rfl := Option.some.inj hm3
        exact r_sw (s_w (o_callR ca85 rfl (wire_fail.ok 4 (Sum.inr (rn14, ro15)) hr11) (by rintro _ _ _ ⟨rfl, rfl⟩; exact (px_st (fun _ h => st_pk 1 [0] (by decide) h) (px_of (Le.refl _) (.inr ⟨_, rfl, _, rfl, rfl, rfl⟩)))))) (fun _ _ _ _ h => h.elim)
    · have hm10 := iff_ hp2 h9
      refine c_skip ?_
      obtain rfl := Option.some.inj hm10
      exact x_sub (K4 _ rfl) ⟨rfl, rfl, trivial⟩ (fun _ h => st_pk 1 [0] (by decide) h)

def wire_Reader_Num_l1  : Nat → UInt64 → Int → Str → Option ((UInt64 × Str) ⊕ ((UInt64 × wire_Reader) ⊕ (Int × wire_Reader)))
  | 0, _, _, _ => none
  | k16 + 1, n_13, s_14, c_15 => if decide (s_14 < 10) then (wire_Reader_Bytes (⟨c_15⟩ : wire_Reader) 1).bind fun r21 => sm r21 (fun (ra23 : Str × wire_Reader) => (gi ra23.1 0).bind fun c27 => Option.bind (if (((s_14 == 9) && decide (1 < c27)) || (decide (0 < s_14) && (c27 == 0))) then lt (wire_fail 6) fun r40 => sm r40 (fun (ra42 : Unit) => some (Sum.inl ())) fun ((rn43, ro44) : Int × Unit) => some (Sum.inr (Sum.inr (Sum.inr (rn43, ra23.2)))) else some (Sum.inl ())) fun (p29 : Unit ⊕ ((UInt64 × Str) ⊕ ((UInt64 × wire_Reader) ⊕ (Int × wire_Reader)))) => (match p29 with | Sum.inl q30 => if 0 ≤ (i64 (7 * s_14)) then if decide (c27 < 128) then some (Sum.inl (n_13 ||| (shWl ((c27 % 128).toUInt64) (i64 (7 * s_14))), ra23.2.s)) else wire_Reader_Num_l1 k16 (n_13 ||| (shWl ((c27 % 128).toUInt64) (i64 (7 * s_14)))) (i64 (s_14 + 1)) ra23.2.s else none | Sum.inr r => some r)) fun ((rn24, ro25) : Int × wire_Reader) => some (Sum.inr (Sum.inr (rn24, ro25))) else some (Sum.inl (n_13, c_15))
def wire_Reader_Num (a0 : wire_Reader) (a1 : UInt64) : Option ((UInt64 × wire_Reader) ⊕ (Int × wire_Reader)) :=
  Option.bind (wire_Reader_Num_l1 11 0 0 a0.s) fun (p0 : (UInt64 × Str) ⊕ ((UInt64 × wire_Reader) ⊕ (Int × wire_Reader))) => (match p0 with | Sum.inl q1 => if decide (a1 < q1.1) then lt (wire_fail 3) fun r7 => sm r7 (fun (ra9 : Unit) => some (Sum.inl (q1.1, (⟨q1.2⟩ : wire_Reader)))) fun ((rn10, ro11) : Int × Unit) => some (Sum.inr (rn10, (⟨q1.2⟩ : wire_Reader))) else some (Sum.inl (q1.1, (⟨q1.2⟩ : wire_Reader))) | Sum.inr r => some r)
theorem wire_Reader_Num.ok {G R F} (b0_ : Nat) (a0 : wire_Reader) (a1 : UInt64) (r : (UInt64 × wire_Reader) ⊕ (Int × wire_Reader)) (hm : wire_Reader_Num a0 a1 = some r) : CO Try.prog 71 [pt b0_ 0, vW a1] G R (Bk b0_ 104 (wire_Reader.c a0) :: F)
    (PK 102 r (fun (a : UInt64 × wire_Reader) u R' L' => u = vW a.1 ∧ R' = R ∧ L' = Bk b0_ 104 (wire_Reader.c a.2) :: F) (fun n (o : wire_Reader) R' L' => R' = R ∧ L' = Bk b0_ 104 (wire_Reader.c o) :: F)) := by
  unfold wire_Reader_Num at hm
  refine co_ofN (N := 45) Try.func71 rfl rfl ?_
  refine c_seq ?_
  refine c_reg ?_
  refine r_u (o_as rfl) ?_
  refine r_nil ?_
  refine x_seq ?_
  refine c_seq ?_
  refine c_reg ?_
  refine r_u (o_as rfl) ?_
  refine r_nil ?_
  refine x_seq ?_
  refine c_seq ?_
  refine c_seq ?_
  refine c_reg ?_
  refine r_u (o_mv rfl) ?_
  refine r_nil ?_
  refine x_seq ?_
  obtain ⟨p0, hp2, hm3⟩ := bs hm
  refine cd_joinS (p := p0) (Ef := fun q1 => [(1, vW a1), (5, vW q1.1)]) (Lf := fun q1 => Bk b0_ 104 [vS q1.2] :: F) (fun q1 hq => ?_) fun K4 => ?_
  · subst hq
    try dsimp only at hm3
    refine x_seq ?_
    refine c_seq ?_
    refine c_seq ?_
    refine c_reg ?_
    refine r_u (o_mv rfl) ?_
    refine r_u (o_mv rfl) ?_
    refine r_u (o_bin rfl rfl (bW_gt q1.1 a1)) ?_
    refine r_nil ?_
    refine x_seq ?_
    refine c_if (b := decide (a1 < q1.1)) rfl (fun h5 => ?_) fun h5 => ?_
    · have hm6 := ift hm3 h5
      obtain ⟨r7, hr7, hm8⟩ := ltx hm6
      rcases r7 with ra9 | ⟨rn10, ro11⟩
      · have hm12 := sm_l hm8
        refine c_reg ?_
        refine r_c (s_w (o_callL ca85 rfl (wire_fail.ok 3 (Sum.inl ra9) hr7) (fun _ _ _ h => h))) ?_
        refine r_nil ?_
        refine x_seq ?_
        refine c_seq ?_
        refine c_reg ?_
        refine r_u (o_mv rfl) ?_
        refine r_u (o_as rfl) ?_
        refine r_nil ?_
        refine x_seq ?_
        refine c_ret ?_
        obtain rfl := Option.some.inj hm12
        exact x_r1 rfl (rv_t rfl) (Le.refl _) (.inl ⟨_, rfl, _, rfl, rfl, rfl, rfl⟩)
      · have hm12 := sm_r hm8
        refine c_reg ?_
        obtain rfl := Option.some.inj hm12
        exact r_sw (s_w (o_callR ca85 rfl (wire_fail.ok 3 (Sum.inr (rn10, ro11)) hr7) (by rintro _ _ _ ⟨rfl, rfl⟩; exact (px_st (fun _ h => st_pk 1 [0] (by decide) h) (px_of (Le.refl _) (.inr ⟨_, rfl, _, rfl, rfl, rfl⟩)))))) (fun _ _ _ _ h => h.elim)
    · have hm6 := iff_ hm3 h5
      refine c_skip ?_
      refine x_seq ?_
      refine c_seq ?_
      refine c_reg ?_
      refine r_u (o_mv rfl) ?_
      refine r_u (o_as rfl) ?_
      refine r_nil ?_
      refine x_seq ?_
      refine c_ret ?_
      obtain rfl := Option.some.inj hm6
      exact x_r1 rfl (rv_t rfl) (Le.refl _) (.inl ⟨_, rfl, _, rfl, rfl, rfl, rfl⟩)
  · refine c_blk ?_
    refine cd_loop (M := fun k16 (s : UInt64 × Int × Str) => wire_Reader_Num_l1 k16 s.1 s.2.1 s.2.2 = some p0) (Ef := fun (s : UInt64 × Int × Str) => [(0, pt b0_ 0), (1, vW a1), (5, vW s.1), (8, vI s.2.1)]) (Lf := fun (s : UInt64 × Int × Str) => Bk b0_ 104 [vS s.2.2] :: F) 11 (0, 0, a0.s) hp2 ⟨rfl, rfl, rfl, rfl, trivial⟩ (fun _ h => h) (fun _ h => by cases h) fun k16 s hM18 => ?_
    obtain ⟨n_13, s_14, c_15⟩ := s
    have hm17 : wire_Reader_Num_l1 (k16 + 1) n_13 s_14 c_15 = some p0 := hM18
    rw [wire_Reader_Num_l1] at hm17
    refine c_seq ?_
    refine c_reg ?_
    refine r_u (o_bin rfl rfl (bI_lt s_14 10)) ?_
    refine r_nil ?_
    refine x_seq ?_
    refine c_seq ?_
    refine c_if (b := decide (s_14 < 10)) rfl (fun h19 => ?_) fun h19 => ?_
    · have hm20 := ift hm17 h19
      refine c_skip ?_
      refine x_seq ?_
      refine c_seq ?_
      refine c_blk ?_
      refine c_seq ?_
      refine c_reg ?_
      refine r_u (o_mv rfl) ?_
      refine r_u (o_as rfl) ?_
      refine r_nil ?_
      refine x_seq ?_
      refine c_seq ?_
      obtain ⟨r21, hr21, hm22⟩ := bs hm20
      rcases r21 with ra23 | ⟨rn24, ro25⟩
      · have hm26 := sm_l hm22
        refine c_reg ?_
        refine r_u (o_mv rfl) ?_
        refine r_c (s_w (o_callL ca73 rfl (wire_Reader_Bytes.ok b0_ (⟨c_15⟩ : wire_Reader) 1 (Sum.inl ra23) hr21) (fun _ _ _ h => h))) ?_
        obtain ⟨c27, hc27, hm28⟩ := bs hm26
        refine r_u (o_ixS Try.underlying9 rfl rfl hc27) ?_
        refine r_u (o_as rfl) ?_
        refine r_nil ?_
        refine x_seq ?_
        refine c_seq ?_
        refine c_seq ?_
        refine c_reg ?_
        refine r_u (o_mv rfl) ?_
        refine r_u (o_bin rfl rfl (bI_eq s_14 9)) ?_
        refine r_u (o_mv rfl) ?_
        refine r_s (s_gt rfl rfl fun g => o_mv rfl) ?_
        refine r_s (s_gt rfl rfl fun g => o_bin (evg rfl g) rfl (bY_gt c27 1)) ?_
        refine r_u (o_and rfl rfl) ?_
        refine r_u (o_mv rfl) ?_
        refine r_s (s_gf rfl rfl fun g => o_mv rfl) ?_
        refine r_s (s_gf rfl rfl fun g => o_bin (evg rfl g) rfl (bI_gt s_14 0)) ?_
        refine r_s (s_gf rfl rfl fun g => o_mv (evg rfl g)) ?_
        refine r_s (s_ggt rfl rfl fun g => o_mv rfl) ?_
        refine r_s (s_ggt rfl rfl fun g => o_bin (evg rfl g) rfl (bY_eq c27 0)) ?_
        refine r_s (s_gf rfl rfl fun g => o_and (evg rfl g) (evg2 rfl g)) ?_
        refine r_u (o_or rfl rfl) ?_
        refine r_nil ?_
        refine x_seq ?_
        obtain ⟨p29, hp31, hm32⟩ := bs hm28
        refine cd_joinS (p := p29) (Ef := fun q30 => [(0, pt b0_ 0), (1, vW a1), (5, vW n_13), (6, vI s_14), (7, vY c27), (8, vI s_14)]) (Lf := fun q30 => Bk b0_ 104 (wire_Reader.c ra23.2) :: F) (fun q30 hq => ?_) fun K33 => ?_
        · subst hq
          try dsimp only at hm32
          refine x_seq ?_
          refine c_seq ?_
          refine c_reg ?_
          refine r_u (o_mv rfl) ?_
          refine r_u (o_mv rfl) ?_
          refine r_u (o_bin rfl rfl (bY_rem c27 128 (by decide))) ?_
          refine r_u (o_cv rfl (cYW Try.underlying5 Try.underlying22 (c27 % 128))) ?_
          refine r_u (o_mv rfl) ?_
          refine r_u (o_bin rfl rfl (bI_mul 7 s_14)) ?_
          obtain ⟨h34, hm35⟩ := ig hm32
          refine r_u (o_bin rfl rfl (bWI_shl ((c27 % 128).toUInt64) (i64 (7 * s_14)) h34)) ?_
          refine r_u (o_bin rfl rfl (bW_or n_13 (shWl ((c27 % 128).toUInt64) (i64 (7 * s_14))))) ?_
          refine r_u (o_as rfl) ?_
          refine r_nil ?_
          refine x_seq ?_
          refine c_seq ?_
          refine c_reg ?_
          refine r_u (o_mv rfl) ?_
          refine r_u (o_bin rfl rfl (bY_lt c27 128)) ?_
          refine r_nil ?_
          refine x_seq ?_
          refine c_if (b := decide (c27 < 128)) rfl (fun h36 => ?_) fun h36 => ?_
          · have hm37 := ift hm35 h36
            refine c_exit (x_exit (ks' := _) rfl ?_)
            obtain rfl := Option.some.inj hm37
            exact x_sub (K4 _ rfl) ⟨rfl, rfl, trivial⟩ (fun _ h => st_pk 1 [0] (by decide) h)
          · have hm37 := iff_ hm35 h36
            refine c_skip ?_
            refine x_blk ?_
            refine x_seq ?_
            refine c_reg ?_
            refine r_u (o_bin rfl rfl (bI_add s_14 1)) ?_
            refine r_u (o_mv rfl) ?_
            refine r_nil ?_
            exact x_lp (n_13 ||| (shWl ((c27 % 128).toUInt64) (i64 (7 * s_14))), i64 (s_14 + 1), ra23.2.s) hm37 ⟨rfl, rfl, rfl, rfl, trivial⟩ (fun _ h => st_pk 1 [0] (by decide) h)
        · refine c_if (b := (((s_14 == 9) && decide (1 < c27)) || (decide (0 < s_14) && (c27 == 0)))) rfl (fun h38 => ?_) fun h38 => ?_
          · have hm39 := ift hp31 h38
            obtain ⟨r40, hr40, hm41⟩ := ltx hm39
            rcases r40 with ra42 | ⟨rn43, ro44⟩
            · have hm45 := sm_l hm41
              refine c_reg ?_
              refine r_c (s_w (o_callL ca85 rfl (wire_fail.ok 6 (Sum.inl ra42) hr40) (fun _ _ _ h => h))) ?_
              refine r_nil ?_
              obtain rfl := Option.some.inj hm45
              exact x_sub (K33 _ rfl) ⟨rfl, rfl, rfl, rfl, rfl, rfl, trivial⟩ (fun _ h => st_pk 1 [0] (by decide) h)
            · have hm45 := sm_r hm41
              refine c_reg ?_
              obtain rfl := Option.some.inj hm45
              try dsimp only at hm32
              obtain rfl := Option.some.inj hm32
              try dsimp only at hm3
              obtain rfl := Option.some.inj hm3
              exact r_sw (s_w (o_callR ca85 rfl (wire_fail.ok 6 (Sum.inr (rn43, ro44)) hr40) (by rintro _ _ _ ⟨rfl, rfl⟩; exact (px_st (fun _ h => st_pk 1 [0] (by decide) h) (px_of (Le.refl _) (.inr ⟨_, rfl, _, rfl, rfl, rfl⟩)))))) (fun _ _ _ _ h => h.elim)
          · have hm39 := iff_ hp31 h38
            refine c_skip ?_
            obtain rfl := Option.some.inj hm39
            exact x_sub (K33 _ rfl) ⟨rfl, rfl, rfl, rfl, rfl, rfl, trivial⟩ (fun _ h => st_pk 1 [0] (by decide) h)
      · have hm26 := sm_r hm22
        refine c_reg ?_
        refine r_u (o_mv rfl) ?_
        obtain rfl := Option.some.inj hm26
        try dsimp only at hm3
        obtain rfl := Option.some.inj hm3
        exact r_sw (s_w (o_callR ca73 rfl (wire_Reader_Bytes.ok b0_ (⟨c_15⟩ : wire_Reader) 1 (Sum.inr (rn24, ro25)) hr21) (by rintro _ _ _ ⟨rfl, rfl⟩; exact (px_st (fun _ h => st_pk 1 [0] (by decide) h) (px_of (Le.refl _) (.inr ⟨_, rfl, _, rfl, rfl, rfl⟩)))))) (fun _ _ _ _ h => h.elim)
    · have hm20 := iff_ hm17 h19
      refine c_exit (x_exit (ks' := _) rfl ?_)
      obtain rfl := Option.some.inj hm20
      exact x_sub (K4 _ rfl) ⟨rfl, rfl, trivial⟩ (fun _ h => st_pk 1 [0] (by decide) h)

def wire_Reader_Must (a0 : wire_Reader) (a1 : Bool) : (Unit) ⊕ (Int × Unit) :=
  if !a1 then lt (wire_fail 6) fun r2 => sm r2 (fun (ra4 : Unit) => Sum.inl ()) fun ((rn5, ro6) : Int × Unit) => Sum.inr (rn5, ()) else Sum.inl ()
theorem wire_Reader_Must.ok {G R F} (b0_ : Nat) (a0 : wire_Reader) (a1 : Bool) (r : (Unit) ⊕ (Int × Unit)) (hm : wire_Reader_Must a0 a1 = r) : CO Try.prog 72 [pt b0_ 0, vB a1] G R (Bk b0_ 104 (wire_Reader.c a0) :: F)
    (PK 102 r (fun (a : Unit) u R' L' => u = .tuple #[] ∧ R' = R ∧ L' = Bk b0_ 104 (wire_Reader.c a0) :: F) (fun n (o : Unit) R' L' => R' = R ∧ L' = Bk b0_ 104 (wire_Reader.c a0) :: F)) := by
  unfold wire_Reader_Must at hm
  refine co_ofN (N := 7) Try.func72 rfl rfl ?_
  refine c_seq ?_
  refine c_reg ?_
  refine r_u (o_mv rfl) ?_
  refine r_u (o_not rfl) ?_
  refine r_nil ?_
  refine x_seq ?_
  refine c_if (b := !a1) rfl (fun h0 => ?_) fun h0 => ?_
  · have hm1 := ift hm h0
    obtain ⟨r2, hr2, hm3⟩ := ltx hm1
    rcases r2 with ra4 | ⟨rn5, ro6⟩
    · have hm7 := sm_l hm3
      refine c_reg ?_
      refine r_c (s_w (o_callL ca85 rfl (wire_fail.ok 6 (Sum.inl ra4) hr2) (fun _ _ _ h => h))) ?_
      refine r_nil ?_
      refine x_end ?_
      subst hm7
      exact x_r0 rfl (Le.refl _) (.inl ⟨_, rfl, _, rfl, rfl, rfl, rfl⟩)
    · have hm7 := sm_r hm3
      refine c_reg ?_
      subst hm7
      exact r_sw (s_w (o_callR ca85 rfl (wire_fail.ok 6 (Sum.inr (rn5, ro6)) hr2) (by rintro _ _ _ ⟨rfl, rfl⟩; exact (px_st (fun _ h => st_pk 1 [0] (by decide) h) (px_of (Le.refl _) (.inr ⟨_, rfl, _, rfl, rfl, rfl⟩)))))) (fun _ _ _ _ h => h.elim)
  · have hm1 := iff_ hm h0
    refine c_skip ?_
    refine x_end ?_
    subst hm1
    exact x_r0 rfl (Le.refl _) (.inl ⟨_, rfl, _, rfl, rfl, rfl, rfl⟩)

def wire_Reader_Flag (a0 : wire_Reader) : Option ((Bool × wire_Reader) ⊕ (Int × wire_Reader)) :=
  (wire_Reader_Bytes a0 1).bind fun r0 => sm r0 (fun (ra2 : Str × wire_Reader) => (gi ra2.1 0).bind fun c6 => if decide (1 < c6) then lt (wire_fail 6) fun r10 => sm r10 (fun (ra12 : Unit) => some (Sum.inl ((c6 == 1), ra2.2))) fun ((rn13, ro14) : Int × Unit) => some (Sum.inr (rn13, ra2.2)) else some (Sum.inl ((c6 == 1), ra2.2))) fun ((rn3, ro4) : Int × wire_Reader) => some (Sum.inr (rn3, ro4))
theorem wire_Reader_Flag.ok {G R F} (b0_ : Nat) (a0 : wire_Reader) (r : (Bool × wire_Reader) ⊕ (Int × wire_Reader)) (hm : wire_Reader_Flag a0 = some r) : CO Try.prog 74 [pt b0_ 0] G R (Bk b0_ 104 (wire_Reader.c a0) :: F)
    (PK 102 r (fun (a : Bool × wire_Reader) u R' L' => u = vB a.1 ∧ R' = R ∧ L' = Bk b0_ 104 (wire_Reader.c a.2) :: F) (fun n (o : wire_Reader) R' L' => R' = R ∧ L' = Bk b0_ 104 (wire_Reader.c o) :: F)) := by
  unfold wire_Reader_Flag at hm
  refine co_ofN (N := 12) Try.func74 rfl rfl ?_
  refine c_seq ?_
  refine c_reg ?_
  refine r_u (o_as rfl) ?_
  refine r_nil ?_
  refine x_seq ?_
  refine c_seq ?_
  obtain ⟨r0, hr0, hm1⟩ := bs hm
  rcases r0 with ra2 | ⟨rn3, ro4⟩
  · have hm5 := sm_l hm1
    refine c_reg ?_
    refine r_u (o_mv rfl) ?_
    refine r_c (s_w (o_callL ca73 rfl (wire_Reader_Bytes.ok b0_ a0 1 (Sum.inl ra2) hr0) (fun _ _ _ h => h))) ?_
    obtain ⟨c6, hc6, hm7⟩ := bs hm5
    refine r_u (o_ixS Try.underlying9 rfl rfl hc6) ?_
    refine r_u (o_as rfl) ?_
    refine r_nil ?_
    refine x_seq ?_
    refine c_seq ?_
    refine c_seq ?_
    refine c_reg ?_
    refine r_u (o_mv rfl) ?_
    refine r_u (o_bin rfl rfl (bY_gt c6 1)) ?_
    refine r_nil ?_
    refine x_seq ?_
    refine c_if (b := decide (1 < c6)) rfl (fun h8 => ?_) fun h8 => ?_
    · have hm9 := ift hm7 h8
      obtain ⟨r10, hr10, hm11⟩ := ltx hm9
      rcases r10 with ra12 | ⟨rn13, ro14⟩
      · have hm15 := sm_l hm11
        refine c_reg ?_
        refine r_c (s_w (o_callL ca85 rfl (wire_fail.ok 6 (Sum.inl ra12) hr10) (fun _ _ _ h => h))) ?_
        refine r_nil ?_
        refine x_seq ?_
        refine c_seq ?_
        refine c_reg ?_
        refine r_u (o_mv rfl) ?_
        refine r_u (o_bin rfl rfl (bY_eq c6 1)) ?_
        refine r_u (o_as rfl) ?_
        refine r_nil ?_
        refine x_seq ?_
        refine c_ret ?_
        obtain rfl := Option.some.inj hm15
        exact x_r1 rfl (rv_t rfl) (Le.refl _) (.inl ⟨_, rfl, _, rfl, rfl, rfl, rfl⟩)
      · have hm15 := sm_r hm11
        refine c_reg ?_
        obtain rfl := Option.some.inj hm15
        exact r_sw (s_w (o_callR ca85 rfl (wire_fail.ok 6 (Sum.inr (rn13, ro14)) hr10) (by rintro _ _ _ ⟨rfl, rfl⟩; exact (px_st (fun _ h => st_pk 1 [0] (by decide) h) (px_of (Le.refl _) (.inr ⟨_, rfl, _, rfl, rfl, rfl⟩)))))) (fun _ _ _ _ h => h.elim)
    · have hm9 := iff_ hm7 h8
      refine c_skip ?_
      refine x_seq ?_
      refine c_seq ?_
      refine c_reg ?_
      refine r_u (o_mv rfl) ?_
      refine r_u (o_bin rfl rfl (bY_eq c6 1)) ?_
      refine r_u (o_as rfl) ?_
      refine r_nil ?_
      refine x_seq ?_
      refine c_ret ?_
      obtain rfl := Option.some.inj hm9
      exact x_r1 rfl (rv_t rfl) (Le.refl _) (.inl ⟨_, rfl, _, rfl, rfl, rfl, rfl⟩)
  · have hm5 := sm_r hm1
    refine c_reg ?_
    refine r_u (o_mv rfl) ?_
    obtain rfl := Option.some.inj hm5
    exact r_sw (s_w (o_callR ca73 rfl (wire_Reader_Bytes.ok b0_ a0 1 (Sum.inr (rn3, ro4)) hr0) (by rintro _ _ _ ⟨rfl, rfl⟩; exact (px_st (fun _ h => st_pk 1 [0] (by decide) h) (px_of (Le.refl _) (.inr ⟨_, rfl, _, rfl, rfl, rfl⟩)))))) (fun _ _ _ _ h => h.elim)

def sketch_Take_l14 (x29 : sketch_Sketch) : Nat → Int → Str → (List Bool) → Option ((Str × List Bool) ⊕ ((Option sketch_Sketch × wire_Reader) ⊕ (Int × wire_Reader)))
  | 0, _, _, _ => none
  | k49 + 1, s_46, c_47, c_48 => if decide (s_46 < (x29.door.length : Int)) then (wire_Reader_Flag (⟨c_47⟩ : wire_Reader)).bind fun r54 => sm r54 (fun (ra56 : Bool × wire_Reader) => (gi c_48 s_46).bind fun x60 => sketch_Take_l14 x29 k49 (i64 (s_46 + 1)) ra56.2.s (ls c_48 s_46 ra56.1)) fun ((rn57, ro58) : Int × wire_Reader) => some (Sum.inr (Sum.inr (rn57, ro58))) else some (Sum.inl (c_47, c_48))
def sketch_Take_l27 (ra79 : Str × wire_Reader) (y93 : List UInt8) : Nat → Int → Option (Unit ⊕ ((List (List UInt8) × Str) ⊕ ((List (List UInt8) × Str) ⊕ ((Option sketch_Sketch × wire_Reader) ⊕ (Int × wire_Reader)))))
  | 0, _ => none
  | k102 + 1, s_101 => if decide (s_101 < (y93.length : Int)) then (gi y93 s_101).bind fun x107 => lt (wire_Reader_Must ra79.2 (decide (x107 ≤ 15))) fun r109 => sm r109 (fun (ra111 : Unit) => sketch_Take_l27 ra79 y93 k102 (i64 (s_101 + 1))) fun ((rn112, ro113) : Int × Unit) => some (Sum.inr (Sum.inr (Sum.inr (Sum.inr (rn112, ra79.2))))) else some (Sum.inl ())
def sketch_Take_l23 (ra2 : UInt64 × wire_Reader) : Nat → Int → (List (List UInt8)) → Str → Option ((List (List UInt8) × Str) ⊕ ((Option sketch_Sketch × wire_Reader) ⊕ (Int × wire_Reader)))
  | 0, _, _, _ => none
  | k66 + 1, s_62, c_63, c_64 => if decide (s_62 < 4) then Option.bind ((wire_Reader_Bytes (⟨c_64⟩ : wire_Reader) (i64 (ra2.1.toNat : Int))).bind fun r77 => sm r77 (fun (ra79 : Str × wire_Reader) => if ra79.1.length ≤ maxLen then (gi c_63 s_62).bind fun y86 => (gi (ls c_63 s_62 ra79.1) s_62).bind fun y93 => Option.bind (sketch_Take_l27 ra79 y93 (((y93.length : Int) - 0).toNat + 1) 0) fun (p96 : Unit ⊕ ((List (List UInt8) × Str) ⊕ ((List (List UInt8) × Str) ⊕ ((Option sketch_Sketch × wire_Reader) ⊕ (Int × wire_Reader))))) => (match p96 with | Sum.inl q97 => some (Sum.inl (ls c_63 s_62 ra79.1, ra79.2.s)) | Sum.inr r => some r) else none) fun ((rn80, ro81) : Int × wire_Reader) => some (Sum.inr (Sum.inr (Sum.inr (rn80, ro81))))) fun (p71 : (List (List UInt8) × Str) ⊕ ((List (List UInt8) × Str) ⊕ ((Option sketch_Sketch × wire_Reader) ⊕ (Int × wire_Reader)))) => (match p71 with | Sum.inl q72 => sketch_Take_l23 ra2 k66 (i64 (s_62 + 1)) q72.1 q72.2 | Sum.inr r => some r) else some (Sum.inl (c_63, c_64))
def sketch_Take (a0 : wire_Reader) : Option ((Option sketch_Sketch × wire_Reader) ⊕ (Int × wire_Reader)) :=
  (wire_Reader_Num a0 4096).bind fun r0 => sm r0 (fun (ra2 : UInt64 × wire_Reader) => lt (wire_Reader_Must ra2.2 (decide (1 ≤ (i64 (ra2.1.toNat : Int))))) fun r6 => sm r6 (fun (ra8 : Unit) => (wire_Reader_Num ra2.2 18446744073709551615).bind fun r12 => sm r12 (fun (ra14 : UInt64 × wire_Reader) => (sketch_New (i64 (ra2.1.toNat : Int)) ra14.1).bind fun r18 => (wire_Reader_Num ra14.2 ((toW (i64 (10 * (i64 (ra2.1.toNat : Int))))) - 1)).bind fun r23 => sm r23 (fun (ra25 : UInt64 × wire_Reader) => om r18.1 (none) fun x29 => Option.bind (sketch_Take_l23 ra2 5 0 x29.rows ra25.2.s) fun (p35 : (List (List UInt8) × Str) ⊕ ((Option sketch_Sketch × wire_Reader) ⊕ (Int × wire_Reader))) => (match p35 with | Sum.inl q36 => Option.bind (sketch_Take_l14 x29 (((x29.door.length : Int) - 0).toNat + 1) 0 q36.2 x29.door) fun (p41 : (Str × List Bool) ⊕ ((Option sketch_Sketch × wire_Reader) ⊕ (Int × wire_Reader))) => (match p41 with | Sum.inl q42 => some (Sum.inl ((some (⟨x29.wide, x29.seed, q36.1, q42.2, i64 (ra25.1.toNat : Int)⟩ : sketch_Sketch)), (⟨q42.1⟩ : wire_Reader))) | Sum.inr r => some r) | Sum.inr r => some r)) fun ((rn26, ro27) : Int × wire_Reader) => some (Sum.inr (rn26, ro27))) fun ((rn15, ro16) : Int × wire_Reader) => some (Sum.inr (rn15, ro16))) fun ((rn9, ro10) : Int × Unit) => some (Sum.inr (rn9, ra2.2))) fun ((rn3, ro4) : Int × wire_Reader) => some (Sum.inr (rn3, ro4))
theorem sketch_Take.ok {G R F} (b0_ : Nat) (a0 : wire_Reader) (r : (Option sketch_Sketch × wire_Reader) ⊕ (Int × wire_Reader)) (hm : sketch_Take a0 = some r) : CO Try.prog 53 [pt b0_ 0] G R (Bk b0_ 104 (wire_Reader.c a0) :: F)
    (PK 102 r (fun (a : Option sketch_Sketch × wire_Reader) u R' L' => ∃ (p0 : Value × sketch_Sketch.G), u = p0.1 ∧ R' = R ∧ L' = rO (sketch_Sketch.op p0.2) p0.1 a.1 :: Bk b0_ 104 (wire_Reader.c a.2) :: F) (fun n (o : wire_Reader) R' L' => R' = R ∧ L' = Bk b0_ 104 (wire_Reader.c o) :: F)) := by
  unfold sketch_Take at hm
  refine co_ofN (N := 81) Try.func53 rfl rfl ?_
  refine c_seq ?_
  refine c_reg ?_
  refine r_u (o_as rfl) ?_
  refine r_nil ?_
  refine x_seq ?_
  refine c_seq ?_
  obtain ⟨r0, hr0, hm1⟩ := bs hm
  rcases r0 with ra2 | ⟨rn3, ro4⟩
  · have hm5 := sm_l hm1
    refine c_reg ?_
    refine r_u (o_mv rfl) ?_
    refine r_c (s_w (o_callL ca71 rfl (wire_Reader_Num.ok b0_ a0 4096 (Sum.inl ra2) hr0) (fun _ _ _ h => h))) ?_
    refine r_u (o_cv rfl (cWI Try.underlying22 Try.underlying3 ra2.1)) ?_
    refine r_u (o_as rfl) ?_
    refine r_nil ?_
    refine x_seq ?_
    refine c_seq ?_
    obtain ⟨r6, hr6, hm7⟩ := ltx hm5
    rcases r6 with ra8 | ⟨rn9, ro10⟩
    · have hm11 := sm_l hm7
      refine c_reg ?_
      refine r_u (o_mv rfl) ?_
      refine r_u (o_mv rfl) ?_
      refine r_u (o_bin rfl rfl (bI_ge (i64 (ra2.1.toNat : Int)) 1)) ?_
      refine r_c (s_w (o_callL ca72 rfl (wire_Reader_Must.ok b0_ ra2.2 (decide (1 ≤ (i64 (ra2.1.toNat : Int)))) (Sum.inl ra8) hr6) (fun _ _ _ h => h))) ?_
      refine r_nil ?_
      refine x_seq ?_
      refine c_seq ?_
      obtain ⟨r12, hr12, hm13⟩ := bs hm11
      rcases r12 with ra14 | ⟨rn15, ro16⟩
      · have hm17 := sm_l hm13
        refine c_reg ?_
        refine r_u (o_mv rfl) ?_
        refine r_u (o_mv rfl) ?_
        refine r_c (s_w (o_callL ca71 rfl (wire_Reader_Num.ok b0_ ra2.2 18446744073709551615 (Sum.inl ra14) hr12) (fun _ _ _ h => h))) ?_
        obtain ⟨r18, hr18, hm22⟩ := bs hm17
        refine r_sw (s_w (o_call ca12 rfl (sketch_New.ok (i64 (ra2.1.toNat : Int)) ra14.1 r18 hr18))) ?_
        rintro _ R _ _ ⟨⟨pv20, g21⟩, rfl, rfl, rfl⟩
        refine r_u (o_mv rfl) ?_
        refine r_u (o_ext rfl rfl) ?_
        refine r_u (o_ext rfl rfl) ?_
        refine r_u (o_as rfl) ?_
        refine r_u (o_as rfl) ?_
        refine r_nil ?_
        refine x_seq ?_
        refine c_seq ?_
        obtain ⟨r23, hr23, hm24⟩ := bs hm22
        rcases r23 with ra25 | ⟨rn26, ro27⟩
        · have hm28 := sm_l hm24
          refine cd_opt (fun ho31 => ?_) (fun x29 b30 ho31 => ?_)
          · rintro rfl
            have hm32 := om_n hm28 ho31
            cases hm32
          · rintro rfl
            have hm32 := om_s hm28 ho31
            refine cd_st (fun _ h => st_star_o h) ?_
            refine c_reg ?_
            refine r_u (o_mv rfl) ?_
            refine r_u (o_mv rfl) ?_
            refine r_u (o_mv rfl) ?_
            refine r_u (o_bin rfl rfl (bI_mul 10 (i64 (ra2.1.toNat : Int)))) ?_
            refine r_u (o_cv rfl (cIW Try.underlying3 Try.underlying22 (i64 (10 * (i64 (ra2.1.toNat : Int)))))) ?_
            refine r_u (o_bin rfl rfl (bW_sub (toW (i64 (10 * (i64 (ra2.1.toNat : Int))))) 1)) ?_
            refine rl_st (fun _ h => st_pk 4 [3, 0, 1, 2] (by decide) h) ?_
            refine r_c (s_w (o_callL ca71 rfl (wire_Reader_Num.ok b0_ ra14.2 ((toW (i64 (10 * (i64 (ra2.1.toNat : Int))))) - 1) (Sum.inl ra25) hr23) (fun _ _ _ h => h))) ?_
            refine r_u (o_cv rfl (cWI Try.underlying22 Try.underlying3 ra25.1)) ?_
            refine r_u (o_nc rfl) ?_
            refine r_u (o_fa fa70_4 rfl) ?_
            refine rl_st (fun _ h => st_pk 4 [1, 0, 2, 3] (by decide) h) ?_
            refine r_u0 (o_st sc3 rfl rfl rfl rfl rfl rfl) ?_
            refine r_nil ?_
            refine x_seq ?_
            refine c_seq ?_
            refine c_seq ?_
            refine c_reg ?_
            refine r_u (o_mv rfl) ?_
            refine r_nil ?_
            refine x_seq ?_
            obtain ⟨p35, hp38, hm39⟩ := bs hm32
            refine cd_cut (fun x ks => ∀ (q36 : List (List UInt8) × Str), ∀ (_ : p35 = Sum.inl q36), ∀ (g37 : Value × Value × Value × Value), EX x .normal ks [(0, pt b0_ 0), (4, pt b30 0)] R (Bk b30 70 [vI x29.wide, vW x29.seed, g37.1, g37.2.1, g37.2.2.1, g37.2.2.2, g21.door, vI (i64 (ra25.1.toNat : Int))] :: Bk b0_ 104 [vS q36.2] :: OwS true 4 1 eB g21.door x29.door :: OwL (OwS false 5 1 eY) [g37.1, g37.2.1, g37.2.2.1, g37.2.2.2] q36.1 :: F)) ?_ fun K40 => ?_
            · intro q36 hq g37
              subst hq
              try dsimp only at hm39
              refine x_seq ?_
              refine c_seq ?_
              refine c_seq ?_
              refine c_reg ?_
              refine r_u (o_mv rfl) ?_
              refine r_u (o_nc rfl) ?_
              refine r_u (o_fa fa70_3 rfl) ?_
              refine r_u (o_ld 0 sc34 rfl rfl rfl) ?_
              refine r_u (o_lenO 2 Try.underlying34 rfl rfl) ?_
              refine r_u (o_mv rfl) ?_
              refine r_nil ?_
              refine x_seq ?_
              obtain ⟨p41, hp43, hm44⟩ := bs hm39
              refine cd_joinS (p := p41) (Ef := fun q42 => [(4, pt b30 0)]) (Lf := fun q42 => Bk b30 70 [vI x29.wide, vW x29.seed, g37.1, g37.2.1, g37.2.2.1, g37.2.2.2, g21.door, vI (i64 (ra25.1.toNat : Int))] :: Bk b0_ 104 [vS q42.1] :: OwS true 4 1 eB g21.door q42.2 :: OwL (OwS false 5 1 eY) [g37.1, g37.2.1, g37.2.2.1, g37.2.2.2] q36.1 :: F) (fun q42 hq => ?_) fun K45 => ?_
              · subst hq
                try dsimp only at hm44
                refine x_seq ?_
                refine c_seq ?_
                refine c_reg ?_
                refine r_u (o_mv rfl) ?_
                refine r_u (o_as rfl) ?_
                refine r_nil ?_
                refine x_seq ?_
                refine c_ret ?_
                refine ex_st (fun _ h => st_pk 4 [0, 3, 2, 1] (by decide) h) ?_
                refine ex_st (fun _ h => st_some (f := sketch_Sketch.op (⟨g37, g21.door⟩ : sketch_Sketch.G)) (a := (⟨x29.wide, x29.seed, q36.1, q42.2, i64 (ra25.1.toNat : Int)⟩ : sketch_Sketch)) (st_star_f (A := sketch_Sketch.fl b30 (⟨x29.wide, x29.seed, q36.1, q42.2, i64 (ra25.1.toNat : Int)⟩ : sketch_Sketch) (⟨g37, g21.door⟩ : sketch_Sketch.G)) h)) ?_
                obtain rfl := Option.some.inj hm44
                exact x_r1 rfl (rv_t rfl) (Le.refl _) (.inl ⟨_, rfl, _, rfl, (pt b30 0, (⟨g37, g21.door⟩ : sketch_Sketch.G)), rfl, rfl, rfl⟩)
              · refine c_blk ?_
                refine cd_loop (M := fun k49 (s : Int × Str × List Bool) => sketch_Take_l14 x29 k49 s.1 s.2.1 s.2.2 = some p41) (Ef := fun (s : Int × Str × List Bool) => [(0, pt b0_ 0), (4, pt b30 0), (67, vI (x29.door.length : Int)), (68, vI s.1)]) (Lf := fun (s : Int × Str × List Bool) => Bk b30 70 [vI x29.wide, vW x29.seed, g37.1, g37.2.1, g37.2.2.1, g37.2.2.2, g21.door, vI (i64 (ra25.1.toNat : Int))] :: Bk b0_ 104 [vS s.2.1] :: OwS true 4 1 eB g21.door s.2.2 :: OwL (OwS false 5 1 eY) [g37.1, g37.2.1, g37.2.2.1, g37.2.2.2] q36.1 :: F) (((x29.door.length : Int) - 0).toNat + 1) (0, q36.2, x29.door) hp43 ⟨rfl, rfl, rfl, rfl, trivial⟩ (fun _ h => h) (fun _ h => by cases h) fun k49 s hM51 => ?_
                obtain ⟨s_46, c_47, c_48⟩ := s
                have hm50 : sketch_Take_l14 x29 (k49 + 1) s_46 c_47 c_48 = some p41 := hM51
                rw [sketch_Take_l14] at hm50
                refine c_seq ?_
                refine c_reg ?_
                refine r_u (o_bin rfl rfl (bI_lt s_46 (x29.door.length : Int))) ?_
                refine r_nil ?_
                refine x_seq ?_
                refine c_seq ?_
                refine c_if (b := decide (s_46 < (x29.door.length : Int))) rfl (fun h52 => ?_) fun h52 => ?_
                · have hm53 := ift hm50 h52
                  refine c_skip ?_
                  refine x_seq ?_
                  refine c_seq ?_
                  refine c_blk ?_
                  refine c_seq ?_
                  refine c_reg ?_
                  refine r_u (o_mv rfl) ?_
                  refine r_u (o_as rfl) ?_
                  refine r_nil ?_
                  refine x_seq ?_
                  obtain ⟨r54, hr54, hm55⟩ := bs hm53
                  rcases r54 with ra56 | ⟨rn57, ro58⟩
                  · have hm59 := sm_l hm55
                    obtain ⟨x60, hx60, hm61⟩ := bs hm59
                    refine c_any mixed (effs := [6, 8]) (V := []) ?_
                    refine stage_st (fun _ h => st_pk 4 [1, 0, 2, 3] (by decide) h) ?_
                    refine stage_ext [(0, pt b30 0), (1, pt b30 0), (2, pt b30 6), (3, g21.door), (4, vI s_46), (5, pt b0_ 0)] rfl ?_
                    refine stage rfl rfl rfl rfl [0, 1, 3, 7, 0, 0, 32, 127, 255] [0, 1, 2, 3, 4, 5] [6] rfl rfl rfl (qc rfl rfl (s_u (o_mv rfl)) (qc rfl rfl (s_u (o_nc rfl)) (qc rfl rfl (s_u (o_fa fa70_3 rfl)) (qc rfl rfl (s_u (o_ld 1 sc34 rfl rfl rfl)) (qc rfl rfl (s_u (o_mv rfl)) (qc rfl rfl (s_u (o_mv rfl)) qn)))))) ?_ (fun h => absurd h (by decide))
                    refine ec (eo_c rfl (s_w (o_callL ca74 rfl (wire_Reader_Flag.ok b0_ (⟨c_47⟩ : wire_Reader) (Sum.inl ra56) hr54) (fun _ _ _ h => h))) ?_) en
                    refine stage_st (fun _ h => st_pk 4 [2, 0, 1, 3] (by decide) h) ?_
                    refine stage_ext [(7, pt (sb g21.door) (so g21.door + s_46.toNat * 1))] rfl ?_
                    refine stage rfl rfl rfl rfl [0, 1, 3, 7, 0, 0, 32, 127, 255] [0, 1, 2, 3, 4, 7] [8] rfl rfl rfl (qc rfl rfl (s_u (o_mv rfl)) (qc rfl rfl (s_u (o_nc rfl)) (qc rfl rfl (s_u (o_fa fa70_3 rfl)) (qc rfl rfl (s_u (o_ld 2 sc34 rfl rfl rfl)) (qc rfl rfl (s_u (o_mv rfl)) (qc rfl rfl (s_u (o_ixO 0 Try.underlying34 (fun _ => by kernel_rfl) rfl rfl rfl hx60)) qn)))))) ?_ (fun h => absurd h (by decide))
                    refine ec (eo_u rfl (s_u (o_stO0 (c' := ra56.1) sc4 rfl rfl rfl hx60 rfl rfl rfl)) (Le.refl _) ?_) en
                    refine stage rfl rfl rfl rfl [0, 1, 3, 7, 0, 0, 32, 127, 255] [] [] rfl rfl rfl qn en ?_
                    intro _
                    refine ex_sub (E' := [(0, pt b0_ 0), (4, pt b30 0), (67, vI (x29.door.length : Int)), (68, vI s_46)]) ⟨rfl, rfl, rfl, rfl, trivial⟩ ?_
                    refine x_blk ?_
                    refine x_seq ?_
                    refine c_reg ?_
                    refine r_u (o_bin rfl rfl (bI_add s_46 1)) ?_
                    refine r_u (o_mv rfl) ?_
                    refine r_nil ?_
                    exact x_lp (i64 (s_46 + 1), ra56.2.s, ls c_48 s_46 ra56.1) hm61 ⟨rfl, rfl, rfl, rfl, trivial⟩ (fun _ h => st_pk 4 [2, 1, 0, 3] (by decide) h)
                  · have hm59 := sm_r hm55
                    refine c_any mixed (effs := [6]) (V := []) ?_
                    refine stage_st (fun _ h => st_pk 4 [1, 0, 2, 3] (by decide) h) ?_
                    refine stage_ext [(0, pt b30 0), (1, pt b30 0), (2, pt b30 6), (3, g21.door), (4, vI s_46), (5, pt b0_ 0)] rfl ?_
                    refine stage rfl rfl rfl rfl [0, 1, 3, 7, 0, 0, 32, 127, 255] [0, 1, 2, 3, 4, 5] [6] rfl rfl rfl (qc rfl rfl (s_u (o_mv rfl)) (qc rfl rfl (s_u (o_nc rfl)) (qc rfl rfl (s_u (o_fa fa70_3 rfl)) (qc rfl rfl (s_u (o_ld 1 sc34 rfl rfl rfl)) (qc rfl rfl (s_u (o_mv rfl)) (qc rfl rfl (s_u (o_mv rfl)) qn)))))) ?_ (fun h => absurd h (by decide))
                    obtain rfl := Option.some.inj hm59
                    try dsimp only at hm44
                    obtain rfl := Option.some.inj hm44
                    exact ec (eo_w rfl (s_w (o_callR ca74 rfl (wire_Reader_Flag.ok b0_ (⟨c_47⟩ : wire_Reader) (Sum.inr (rn57, ro58)) hr54) (by rintro _ _ _ ⟨rfl, rfl⟩; exact (px_st (fun _ h => st_pk 4 [0] (by decide) h) (px_of (Le.refl _) (.inr ⟨_, rfl, _, rfl, rfl, rfl⟩)))))) (fun _ _ _ _ h => h.elim)) en
                · have hm53 := iff_ hm50 h52
                  refine c_exit (x_exit (ks' := _) rfl ?_)
                  obtain rfl := Option.some.inj hm53
                  exact x_sub (K45 _ rfl) ⟨rfl, trivial⟩ (fun _ h => st_pk 4 [0, 1, 2, 3] (by decide) h)
            · refine c_blk ?_
              refine cd_loopG (M := fun k66 (s : Int × List (List UInt8) × Str × (Value × Value × Value × Value)) => sketch_Take_l23 ra2 k66 s.1 s.2.1 s.2.2.1 = some p35) (Ef := fun (s : Int × List (List UInt8) × Str × (Value × Value × Value × Value)) => [(0, pt b0_ 0), (3, vI (i64 (ra2.1.toNat : Int))), (4, pt b30 0), (34, vI s.1)]) (Rf := fun (s : Int × List (List UInt8) × Str × (Value × Value × Value × Value)) => R) (Lf := fun (s : Int × List (List UInt8) × Str × (Value × Value × Value × Value)) => Bk b30 70 [vI x29.wide, vW x29.seed, s.2.2.2.1, s.2.2.2.2.1, s.2.2.2.2.2.1, s.2.2.2.2.2.2, g21.door, vI (i64 (ra25.1.toNat : Int))] :: Bk b0_ 104 [vS s.2.2.1] :: OwS true 4 1 eB g21.door x29.door :: OwL (OwS false 5 1 eY) [s.2.2.2.1, s.2.2.2.2.1, s.2.2.2.2.2.1, s.2.2.2.2.2.2] s.2.1 :: F) 5 (0, x29.rows, ra25.2.s, g21.rows) hp38 ⟨rfl, rfl, rfl, rfl, trivial⟩ (fun _ h => st_pk 4 [0, 1, 3, 2] (by decide) h) (fun _ h => by cases h) fun k66 s hM68 => ?_
              obtain ⟨s_62, c_63, c_64, g65⟩ := s
              have hm67 : sketch_Take_l23 ra2 (k66 + 1) s_62 c_63 c_64 = some p35 := hM68
              rw [sketch_Take_l23] at hm67
              refine c_seq ?_
              refine c_reg ?_
              refine r_u (o_bin rfl rfl (bI_lt s_62 4)) ?_
              refine r_nil ?_
              refine x_seq ?_
              refine c_seq ?_
              refine c_if (b := decide (s_62 < 4)) rfl (fun h69 => ?_) fun h69 => ?_
              · have hm70 := ift hm67 h69
                refine c_skip ?_
                refine x_seq ?_
                refine c_seq ?_
                obtain ⟨p71, hp74, hm75⟩ := bs hm70
                refine cd_cut (fun x ks => ∀ (q72 : List (List UInt8) × Str), ∀ (_ : p71 = Sum.inl q72), ∀ (g73 : Value × Value × Value × Value), EX x .normal ks [(0, pt b0_ 0), (3, vI (i64 (ra2.1.toNat : Int))), (4, pt b30 0), (34, vI s_62)] R (Bk b30 70 [vI x29.wide, vW x29.seed, g73.1, g73.2.1, g73.2.2.1, g73.2.2.2, g21.door, vI (i64 (ra25.1.toNat : Int))] :: Bk b0_ 104 [vS q72.2] :: OwS true 4 1 eB g21.door x29.door :: OwL (OwS false 5 1 eY) [g73.1, g73.2.1, g73.2.2.1, g73.2.2.2] q72.1 :: F)) ?_ fun K76 => ?_
                · intro q72 hq g73
                  subst hq
                  try dsimp only at hm75
                  refine x_seq ?_
                  refine c_reg ?_
                  refine r_u (o_bin rfl rfl (bI_add s_62 1)) ?_
                  refine r_u (o_mv rfl) ?_
                  refine r_nil ?_
                  exact x_lp (i64 (s_62 + 1), q72.1, q72.2, g73) hm75 ⟨rfl, rfl, rfl, rfl, trivial⟩ (fun _ h => st_pk 4 [0, 1, 2, 3] (by decide) h)
                · refine c_blk ?_
                  refine c_seq ?_
                  refine c_reg ?_
                  refine r_u (o_mv rfl) ?_
                  refine r_u (o_as rfl) ?_
                  refine r_nil ?_
                  refine x_seq ?_
                  refine c_seq ?_
                  obtain ⟨r77, hr77, hm78⟩ := bs hp74
                  rcases r77 with ra79 | ⟨rn80, ro81⟩
                  · have hm82 := sm_l hm78
                    obtain ⟨h83, hm85⟩ := ig hm82
                    obtain ⟨y86, hy86, hm88⟩ := bs hm85
                    refine cd_ex (fun w h => st_peek 3 hy86 rfl w h) fun u87 hu87 => ?_
                    refine c_any mixed (effs := [4, 5, 9]) (V := []) ?_
                    refine stage_st (fun _ h => st_pk 4 [1, 0, 2, 3] (by decide) h) ?_
                    refine stage_ext [(0, pt b30 0), (1, vI s_62), (2, pt b0_ 0), (3, vI (i64 (ra2.1.toNat : Int))), (6, pt b30 0), (7, pt b30 2)] rfl ?_
                    refine stage rfl rfl rfl rfl [0, 0, 0, 0, 12, 28, 1, 65, 255, 511] [0, 1, 2, 3, 6, 7] [4] rfl rfl rfl (qc rfl rfl (s_u (o_mv rfl)) (qc rfl rfl (s_u (o_mv rfl)) (qc rfl rfl (s_u (o_mv rfl)) (qc rfl rfl (s_u (o_mv rfl)) (qc rfl rfl (s_u (o_nc rfl)) (qc rfl rfl (s_u (o_fa fa70_2 rfl)) qn)))))) ?_ (fun h => absurd h (by decide))
                    refine ec (eo_c rfl (s_w (o_callL ca73 rfl (wire_Reader_Bytes.ok b0_ (⟨c_64⟩ : wire_Reader) (i64 (ra2.1.toNat : Int)) (Sum.inl ra79) hr77) (fun _ _ _ h => h))) ?_) en
                    refine stage rfl rfl rfl rfl [0, 0, 0, 0, 12, 28, 1, 65, 255, 511] [0, 1, 6, 7] [5] rfl rfl rfl (qc rfl rfl (s_u (o_mv rfl)) (qc rfl rfl (s_u (o_mv rfl)) (qc rfl rfl (s_u (o_nc rfl)) (qc rfl rfl (s_u (o_fa fa70_2 rfl)) qn)))) ?_ (fun h => absurd h (by decide))
                    refine ec (eo_w rfl (s_w (o_sb Try.underlying9 Try.underlying67 Try.underlying5 rfl h83)) ?_) en
                    rintro v84 R _ _ ⟨rfl, rfl⟩
                    refine stage_st (fun _ h => st_pk 5 [2, 4, 0, 1, 3] (by decide) h) ?_
                    refine stage_ext [(8, pt b30 (2 + s_62.toNat * 1))] rfl ?_
                    refine stage rfl rfl rfl rfl [0, 0, 0, 0, 12, 28, 1, 65, 255, 511] [0, 1, 6, 7, 8] [9] rfl rfl rfl (qc rfl rfl (s_u (o_mv rfl)) (qc rfl rfl (s_u (o_mv rfl)) (qc rfl rfl (s_u (o_nc rfl)) (qc rfl rfl (s_u (o_fa fa70_2 rfl)) (qc rfl rfl (s_u (o_ixA (sz := 1) Try.underlying68 (fun _ => by kernel_rfl) rfl rfl (gi_some hu87).1)) qn))))) ?_ (fun h => absurd h (by decide))
                    refine ec (eo_w rfl (s_w (ow_if (one_o 2 rfl) fun ho => o_stA4 (A := [vI x29.wide, vW x29.seed]) (B := [g21.door, vI (i64 (ra25.1.toNat : Int))]) hy86 hu87 sc67 rfl rfl rfl ho)) ?_) en
                    rintro _ R _ _ ⟨p89, p90, p91, p92, rfl, rfl, rfl⟩
                    refine stage rfl rfl rfl rfl [0, 0, 0, 0, 12, 28, 1, 65, 255, 511] [] [] rfl rfl rfl qn en ?_
                    intro _
                    refine ex_sub (E' := [(0, pt b0_ 0), (3, vI (i64 (ra2.1.toNat : Int))), (4, pt b30 0), (34, vI s_62), (6, vI s_62)]) ⟨rfl, rfl, rfl, rfl, rfl, trivial⟩ ?_
                    refine x_seq ?_
                    refine c_seq ?_
                    refine c_reg ?_
                    refine r_u (o_mv rfl) ?_
                    refine r_u (o_mv rfl) ?_
                    refine r_u (o_nc rfl) ?_
                    refine r_u (o_fa fa70_2 rfl) ?_
                    obtain ⟨y93, hy93, hm95⟩ := bs hm88
                    refine rl_ex (fun w h => st_peek 1 hy93 rfl w h) fun u94 hu94 => ?_
                    refine r_u (o_ixA (sz := 1) Try.underlying68 (fun _ => by kernel_rfl) rfl rfl (gi_some hu94).1) ?_
                    refine r_u (o_ldA (o := 2) (n := 4) 0 sc67 rfl rfl hu94) ?_
                    refine r_u (o_lenK (kn_in 1 rfl hu94 hy93) Try.underlying67 rfl) ?_
                    refine r_u (o_mv rfl) ?_
                    refine r_nil ?_
                    refine x_seq ?_
                    obtain ⟨p96, hp98, hm99⟩ := bs hm95
                    refine cd_joinS (p := p96) (Ef := fun q97 => [(0, pt b0_ 0), (3, vI (i64 (ra2.1.toNat : Int))), (4, pt b30 0), (34, vI s_62)]) (Lf := fun q97 => Bk b30 70 [vI x29.wide, vW x29.seed, p89, p90, p91, p92, g21.door, vI (i64 (ra25.1.toNat : Int))] :: Bk b0_ 104 (wire_Reader.c ra79.2) :: OwL (OwS false 5 1 eY) [p89, p90, p91, p92] (ls c_63 s_62 ra79.1) :: OwS true 4 1 eB g21.door x29.door :: F) (fun q97 hq => ?_) fun K100 => ?_
                    · subst hq
                      try dsimp only at hm99
                      refine x_blk ?_
                      obtain rfl := Option.some.inj hm99
                      exact x_sub (K76 _ rfl (p89, p90, p91, p92)) ⟨rfl, rfl, rfl, rfl, trivial⟩ (fun _ h => st_pk 4 [0, 1, 3, 2] (by decide) h)
                    · refine c_blk ?_
                      refine cd_loop (M := fun k102 (s_101 : Int) => sketch_Take_l27 ra79 y93 k102 s_101 = some p96) (Ef := fun (s_101 : Int) => [(0, pt b0_ 0), (3, vI (i64 (ra2.1.toNat : Int))), (4, pt b30 0), (34, vI s_62), (51, u94), (52, vI (y93.length : Int)), (53, vI s_101)]) (Lf := fun (s_101 : Int) => Bk b30 70 [vI x29.wide, vW x29.seed, p89, p90, p91, p92, g21.door, vI (i64 (ra25.1.toNat : Int))] :: Bk b0_ 104 (wire_Reader.c ra79.2) :: OwL (OwS false 5 1 eY) [p89, p90, p91, p92] (ls c_63 s_62 ra79.1) :: OwS true 4 1 eB g21.door x29.door :: F) (((y93.length : Int) - 0).toNat + 1) 0 hp98 ⟨rfl, rfl, rfl, rfl, rfl, rfl, rfl, trivial⟩ (fun _ h => st_pk 4 [0, 2, 1, 3] (by decide) h) (fun _ h => by cases h) fun k102 s_101 hM104 => ?_
                      have hm103 : sketch_Take_l27 ra79 y93 (k102 + 1) s_101 = some p96 := hM104
                      rw [sketch_Take_l27] at hm103
                      refine c_seq ?_
                      refine c_reg ?_
                      refine r_u (o_bin rfl rfl (bI_lt s_101 (y93.length : Int))) ?_
                      refine r_nil ?_
                      refine x_seq ?_
                      refine c_seq ?_
                      refine c_if (b := decide (s_101 < (y93.length : Int))) rfl (fun h105 => ?_) fun h105 => ?_
                      · have hm106 := ift hm103 h105
                        refine c_skip ?_
                        refine x_seq ?_
                        refine c_seq ?_
                        refine c_blk ?_
                        refine c_seq ?_
                        refine c_reg ?_
                        obtain ⟨x107, hx107, hm108⟩ := bs hm106
                        refine r_u (o_ixK (kn_in 2 rfl hu94 hy93) Try.underlying67 (fun _ => by kernel_rfl) rfl rfl hx107) ?_
                        refine r_u (o_ldK (kn_in 2 rfl hu94 hy93) 0 sc5 rfl hx107 rfl rfl) ?_
                        refine r_u (o_as rfl) ?_
                        refine r_nil ?_
                        refine x_seq ?_
                        obtain ⟨r109, hr109, hm110⟩ := ltx hm108
                        rcases r109 with ra111 | ⟨rn112, ro113⟩
                        · have hm114 := sm_l hm110
                          refine c_reg ?_
                          refine r_u (o_mv rfl) ?_
                          refine r_u (o_mv rfl) ?_
                          refine r_u (o_bin rfl rfl (bY_le x107 15)) ?_
                          refine rl_st (fun _ h => st_pk 4 [1, 0, 2, 3] (by decide) h) ?_
                          refine r_c (s_w (o_callL ca72 rfl (wire_Reader_Must.ok b0_ ra79.2 (decide (x107 ≤ 15)) (Sum.inl ra111) hr109) (fun _ _ _ h => h))) ?_
                          refine r_nil ?_
                          refine x_blk ?_
                          refine x_seq ?_
                          refine c_reg ?_
                          refine r_u (o_bin rfl rfl (bI_add s_101 1)) ?_
                          refine r_u (o_mv rfl) ?_
                          refine r_nil ?_
                          exact x_lp (i64 (s_101 + 1)) hm114 ⟨rfl, rfl, rfl, rfl, rfl, rfl, rfl, trivial⟩ (fun _ h => st_pk 4 [1, 0, 2, 3] (by decide) h)
                        · have hm114 := sm_r hm110
                          refine c_reg ?_
                          refine r_u (o_mv rfl) ?_
                          refine r_u (o_mv rfl) ?_
                          refine r_u (o_bin rfl rfl (bY_le x107 15)) ?_
                          refine rl_st (fun _ h => st_pk 4 [1, 0, 2, 3] (by decide) h) ?_
                          obtain rfl := Option.some.inj hm114
                          try dsimp only at hm99
                          obtain rfl := Option.some.inj hm99
                          try dsimp only at hm75
                          obtain rfl := Option.some.inj hm75
                          try dsimp only at hm39
                          obtain rfl := Option.some.inj hm39
                          exact r_sw (s_w (o_callR ca72 rfl (wire_Reader_Must.ok b0_ ra79.2 (decide (x107 ≤ 15)) (Sum.inr (rn112, ro113)) hr109) (by rintro _ _ _ ⟨rfl, rfl⟩; exact (px_st (fun _ h => st_pk 4 [0] (by decide) h) (px_of (Le.refl _) (.inr ⟨_, rfl, _, rfl, rfl, rfl⟩)))))) (fun _ _ _ _ h => h.elim)
                      · have hm106 := iff_ hm103 h105
                        refine c_exit (x_exit (ks' := _) rfl ?_)
                        obtain rfl := Option.some.inj hm106
                        exact x_sub (K100 _ rfl) ⟨rfl, rfl, rfl, rfl, trivial⟩ (fun _ h => st_pk 4 [0, 1, 2, 3] (by decide) h)
                  · have hm82 := sm_r hm78
                    refine c_any mixed (effs := [4]) (V := []) ?_
                    refine stage_st (fun _ h => st_pk 4 [1, 0, 2, 3] (by decide) h) ?_
                    refine stage_ext [(0, pt b30 0), (1, vI s_62), (2, pt b0_ 0), (3, vI (i64 (ra2.1.toNat : Int))), (6, pt b30 0), (7, pt b30 2)] rfl ?_
                    refine stage rfl rfl rfl rfl [0, 0, 0, 0, 12, 28, 1, 65, 255, 511] [0, 1, 2, 3, 6, 7] [4] rfl rfl rfl (qc rfl rfl (s_u (o_mv rfl)) (qc rfl rfl (s_u (o_mv rfl)) (qc rfl rfl (s_u (o_mv rfl)) (qc rfl rfl (s_u (o_mv rfl)) (qc rfl rfl (s_u (o_nc rfl)) (qc rfl rfl (s_u (o_fa fa70_2 rfl)) qn)))))) ?_ (fun h => absurd h (by decide))
                    obtain rfl := Option.some.inj hm82
                    try dsimp only at hm75
                    obtain rfl := Option.some.inj hm75
                    try dsimp only at hm39
                    obtain rfl := Option.some.inj hm39
                    exact ec (eo_w rfl (s_w (o_callR ca73 rfl (wire_Reader_Bytes.ok b0_ (⟨c_64⟩ : wire_Reader) (i64 (ra2.1.toNat : Int)) (Sum.inr (rn80, ro81)) hr77) (by rintro _ _ _ ⟨rfl, rfl⟩; exact (px_st (fun _ h => st_pk 4 [0] (by decide) h) (px_of (Le.refl _) (.inr ⟨_, rfl, _, rfl, rfl, rfl⟩)))))) (fun _ _ _ _ h => h.elim)) en
              · have hm70 := iff_ hm67 h69
                refine c_exit (x_exit (ks' := _) rfl ?_)
                obtain rfl := Option.some.inj hm70
                exact x_sub (K40 _ rfl g65) ⟨rfl, rfl, trivial⟩ (fun _ h => st_pk 4 [0, 1, 2, 3] (by decide) h)
        · have hm28 := sm_r hm24
          refine c_reg ?_
          refine r_u (o_mv rfl) ?_
          refine r_u (o_mv rfl) ?_
          refine r_u (o_mv rfl) ?_
          refine r_u (o_bin rfl rfl (bI_mul 10 (i64 (ra2.1.toNat : Int)))) ?_
          refine r_u (o_cv rfl (cIW Try.underlying3 Try.underlying22 (i64 (10 * (i64 (ra2.1.toNat : Int)))))) ?_
          refine r_u (o_bin rfl rfl (bW_sub (toW (i64 (10 * (i64 (ra2.1.toNat : Int))))) 1)) ?_
          refine rl_st (fun _ h => st_pk 2 [1, 0] (by decide) h) ?_
          obtain rfl := Option.some.inj hm28
          exact r_sw (s_w (o_callR ca71 rfl (wire_Reader_Num.ok b0_ ra14.2 ((toW (i64 (10 * (i64 (ra2.1.toNat : Int))))) - 1) (Sum.inr (rn26, ro27)) hr23) (by rintro _ _ _ ⟨rfl, rfl⟩; exact (px_st (fun _ h => st_pk 2 [0] (by decide) h) (px_of (Le.refl _) (.inr ⟨_, rfl, _, rfl, rfl, rfl⟩)))))) (fun _ _ _ _ h => h.elim)
      · have hm17 := sm_r hm13
        refine c_reg ?_
        refine r_u (o_mv rfl) ?_
        refine r_u (o_mv rfl) ?_
        obtain rfl := Option.some.inj hm17
        exact r_sw (s_w (o_callR ca71 rfl (wire_Reader_Num.ok b0_ ra2.2 18446744073709551615 (Sum.inr (rn15, ro16)) hr12) (by rintro _ _ _ ⟨rfl, rfl⟩; exact (px_st (fun _ h => st_pk 1 [0] (by decide) h) (px_of (Le.refl _) (.inr ⟨_, rfl, _, rfl, rfl, rfl⟩)))))) (fun _ _ _ _ h => h.elim)
    · have hm11 := sm_r hm7
      refine c_reg ?_
      refine r_u (o_mv rfl) ?_
      refine r_u (o_mv rfl) ?_
      refine r_u (o_bin rfl rfl (bI_ge (i64 (ra2.1.toNat : Int)) 1)) ?_
      obtain rfl := Option.some.inj hm11
      exact r_sw (s_w (o_callR ca72 rfl (wire_Reader_Must.ok b0_ ra2.2 (decide (1 ≤ (i64 (ra2.1.toNat : Int)))) (Sum.inr (rn9, ro10)) hr6) (by rintro _ _ _ ⟨rfl, rfl⟩; exact (px_st (fun _ h => st_pk 1 [0] (by decide) h) (px_of (Le.refl _) (.inr ⟨_, rfl, _, rfl, rfl, rfl⟩)))))) (fun _ _ _ _ h => h.elim)
  · have hm5 := sm_r hm1
    refine c_reg ?_
    refine r_u (o_mv rfl) ?_
    obtain rfl := Option.some.inj hm5
    exact r_sw (s_w (o_callR ca71 rfl (wire_Reader_Num.ok b0_ a0 4096 (Sum.inr (rn3, ro4)) hr0) (by rintro _ _ _ ⟨rfl, rfl⟩; exact (px_st (fun _ h => st_pk 1 [0] (by decide) h) (px_of (Le.refl _) (.inr ⟨_, rfl, _, rfl, rfl, rfl⟩)))))) (fun _ _ _ _ h => h.elim)

def sketch_Import_1 (a0 : wire_Reader) (a1 : Option sketch_Sketch) : Option ((wire_Reader × Option sketch_Sketch) ⊕ (Int × (wire_Reader × Option sketch_Sketch))) :=
  (sketch_Take a0).bind fun r2 => sm r2 (fun (ra4 : Option sketch_Sketch × wire_Reader) => some (Sum.inl (ra4.2, ra4.1))) fun ((rn5, ro6) : Int × wire_Reader) => some (Sum.inr (rn5, (ro6, a1)))
theorem sketch_Import_1.ok {G R F} (b0_ : Nat) (a0 : wire_Reader) (b1_ : Nat) (a1 : Option sketch_Sketch) (g1_ : Value × sketch_Sketch.G) (r : (wire_Reader × Option sketch_Sketch) ⊕ (Int × (wire_Reader × Option sketch_Sketch))) (hm : sketch_Import_1 a0 a1 = some r) : CO Try.prog 52 [pt b0_ 0, pt b1_ 0] G R (Bk b0_ 104 (wire_Reader.c a0) :: Bk b1_ 24 [g1_.1] :: rO (sketch_Sketch.op g1_.2) g1_.1 a1 :: F)
    (PK 102 r (fun (a : wire_Reader × Option sketch_Sketch) u R' L' => ∃ (q1 : Value × sketch_Sketch.G), u = .tuple #[] ∧ R' = R ∧ L' = Bk b0_ 104 (wire_Reader.c a.1) :: Bk b1_ 24 [q1.1] :: rO (sketch_Sketch.op q1.2) q1.1 a.2 :: F) (fun n (o : wire_Reader × Option sketch_Sketch) R' L' => ∃ (q1 : Value × sketch_Sketch.G), R' = R ∧ L' = Bk b0_ 104 (wire_Reader.c o.1) :: Bk b1_ 24 [q1.1] :: rO (sketch_Sketch.op q1.2) q1.1 o.2 :: F)) := by
  obtain ⟨pv0, g1⟩ := g1_
  unfold sketch_Import_1 at hm
  refine co_ofN (N := 5) Try.func52 rfl rfl ?_
  obtain ⟨r2, hr2, hm3⟩ := bs hm
  rcases r2 with ra4 | ⟨rn5, ro6⟩
  · have hm7 := sm_l hm3
    refine c_reg ?_
    refine r_u (o_mv rfl) ?_
    refine r_sw (s_w (o_callL ca53 rfl (sketch_Take.ok b0_ a0 (Sum.inl ra4) hr2) (fun _ _ _ h => h))) ?_
    rintro pv9 R _ _ ⟨⟨_, g10⟩, rfl, rfl, rfl⟩
    refine rl_st (fun _ h => st_pk 4 [2, 0, 1, 3] (by decide) h) ?_
    refine r_u0 (ou_if (one_p 1 rfl) fun ho0 => o_st sc24 rfl rfl rfl ho0 rfl rfl) ?_
    refine r_nil ?_
    refine x_end ?_
    obtain rfl := Option.some.inj hm7
    refine ex_st (fun _ h => st_pk 4 [2, 0, 1] (by decide) h) ?_
    exact x_r0 rfl (Le.refl _) (.inl ⟨_, rfl, _, rfl, (pv9, g10), rfl, rfl, rfl⟩)
  · have hm7 := sm_r hm3
    refine c_reg ?_
    refine r_u (o_mv rfl) ?_
    obtain rfl := Option.some.inj hm7
    exact r_sw (s_w (o_callR ca53 rfl (sketch_Take.ok b0_ a0 (Sum.inr (rn5, ro6)) hr2) (by rintro _ _ _ ⟨rfl, rfl⟩; exact (px_st (fun _ h => st_pk 3 [0, 1, 2] (by decide) h) (px_of (Le.refl _) (.inr ⟨_, rfl, _, rfl, (pv0, g1), rfl, rfl⟩)))))) (fun _ _ _ _ h => h.elim)

def sketch_Import (a0 : Str) : Option (Option sketch_Sketch × Int) :=
  (sketch_Import_1 (⟨a0⟩ : wire_Reader) none).bind fun r1 => Option.bind (sm r1 (fun (ra12 : wire_Reader × Option sketch_Sketch) => some ((if ra12.1.s == [] then 0 else 5), ra12.2)) fun ((rn13, ro14) : Int × (wire_Reader × Option sketch_Sketch)) => some (rn13, ro14.2)) fun p3 => if (p3.1 != 0) then some (none, p3.1) else some (p3.2, 0)
theorem sketch_Import.ok {G R F} (a0 : Str) (r : Option sketch_Sketch × Int) (hm : sketch_Import a0 = some r) : CO Try.prog 26 [vS a0] G R (F)
    (Ret fun u R' L' => ∃ (p0 : Value × sketch_Sketch.G), u = .tuple #[p0.1, vI r.2] ∧ R' = R ∧ L' = rO (sketch_Sketch.op p0.2) p0.1 r.1 :: F) := by
  unfold sketch_Import at hm
  refine co_ofN (N := 13) Try.func26 rfl rfl ?_
  refine c_seq ?_
  refine c_reg ?_
  refine r_u (o_as rfl) ?_
  refine r_u (o_as rfl) ?_
  refine r_nil ?_
  refine x_seq ?_
  refine c_seq ?_
  refine c_reg ?_
  refine r_new (o_al ze24) fun b0 => ?_
  refine r_nil ?_
  refine x_seq ?_
  refine c_seq ?_
  refine c_seq ?_
  obtain ⟨r1, hr1, hm2⟩ := bs hm
  obtain ⟨p3, hp7, hm8⟩ := bs hm2
  refine cd_cut (fun x ks => ∀ (pv4 : Value × sketch_Sketch.G), EX x .normal ks [(4, pt b0 0), (5, vI p3.1)] R (Bk b0 24 [pv4.1] :: rO (sketch_Sketch.op pv4.2) pv4.1 p3.2 :: F)) ?_ fun K9 => ?_
  · intro pv4
    obtain ⟨pv5, g6⟩ := pv4
    refine x_seq ?_
    refine c_seq ?_
    refine c_reg ?_
    refine r_u (o_mv rfl) ?_
    refine r_u (o_bin rfl rfl (bI_ne p3.1 0)) ?_
    refine r_nil ?_
    refine x_seq ?_
    refine c_if (b := (p3.1 != 0)) rfl (fun h10 => ?_) fun h10 => ?_
    · have hm11 := ift hm8 h10
      refine c_seq ?_
      refine c_reg ?_
      refine r_u (o_mv rfl) ?_
      refine r_u (o_as rfl) ?_
      refine r_u (o_as rfl) ?_
      refine r_nil ?_
      refine x_seq ?_
      refine c_ret ?_
      refine ex_st (fun _ h => st_none (f := sketch_Sketch.op default) h) ?_
      obtain rfl := Option.some.inj hm11
      refine ex_st (fun _ h => st_pk 3 [0] (by decide) h) ?_
      exact x_r2 rfl (rv_t rfl) (rv_t rfl) (Le.refl _) ⟨_, rfl, (nl, default), rfl, rfl, rfl⟩
    · have hm11 := iff_ hm8 h10
      refine c_skip ?_
      refine x_seq ?_
      refine c_seq ?_
      refine c_reg ?_
      refine r_u (o_ld 0 sc24 rfl rfl rfl) ?_
      refine r_u (o_as rfl) ?_
      refine r_u (o_as rfl) ?_
      refine r_nil ?_
      refine x_seq ?_
      refine c_ret ?_
      obtain rfl := Option.some.inj hm11
      refine ex_st (fun _ h => st_pk 2 [1] (by decide) h) ?_
      exact x_r2 rfl (rv_t rfl) (rv_t rfl) (Le.refl _) ⟨_, rfl, (pv5, g6), rfl, rfl, rfl⟩
  · rcases r1 with ra12 | ⟨rn13, ro14⟩
    · have hm15 := sm_l hp7
      refine c_reg ?_
      refine r_u (o_mv rfl) ?_
      refine r_u (o_mf rfl) ?_
      refine rl_st (fun _ h => st_none (f := sketch_Sketch.op default) h) ?_
      refine rl_st (fun _ h => st_pk 2 [1, 0] (by decide) h) ?_
      refine r_c (s_w (o_call ca51 rfl (wire_Read.okL (A := [Bk b0 24 [nl], rO (sketch_Sketch.op default) nl none]) (M := [exP (fun (g : Value × sketch_Sketch.G) => [Bk b0 24 [g.1], rO (sketch_Sketch.op g.2) g.1 ra12.2])]) (s' := ra12.1.s) ca52 (fun b F => co_lx (sketch_Import_1.ok b (⟨a0⟩ : wire_Reader) b0 none (nl, default) (Sum.inl ra12) hr1) (fun _ _ _ _ ⟨q0, hu, hR, hL⟩ hs => by subst hL; exact ⟨_, ⟨hu, hR, rfl⟩, (st_pk 2 [1, 0] (by decide) (st_exP_f (f := fun (g : Value × sketch_Sketch.G) => [Bk b0 24 [g.1], rO (sketch_Sketch.op g.2) g.1 ra12.2]) q0 (st_pk 3 [1, 2, 0] (by decide) hs)))⟩))))) ?_
      refine rl_ex (fun w h => st_exP_o w h) fun g16 _ => ?_
      obtain ⟨pv17, g18⟩ := g16
      refine r_u (o_as rfl) ?_
      refine r_nil ?_
      obtain rfl := Option.some.inj hm15
      exact x_sub (K9 (pv17, g18)) ⟨rfl, rfl, trivial⟩ (fun _ h => st_pk 2 [0, 1] (by decide) h)
    · have hm15 := sm_r hp7
      refine c_reg ?_
      refine r_u (o_mv rfl) ?_
      refine r_u (o_mf rfl) ?_
      refine rl_st (fun _ h => st_none (f := sketch_Sketch.op default) h) ?_
      refine rl_st (fun _ h => st_pk 2 [1, 0] (by decide) h) ?_
      refine r_c (s_w (o_call ca51 rfl (wire_Read.okR (A := [Bk b0 24 [nl], rO (sketch_Sketch.op default) nl none]) (M := [exP (fun (g : Value × sketch_Sketch.G) => [Bk b0 24 [g.1], rO (sketch_Sketch.op g.2) g.1 ro14.2])]) (cs := [vS ro14.1.s]) ca52 (fun b F => co_rx (sketch_Import_1.ok b (⟨a0⟩ : wire_Reader) b0 none (nl, default) (Sum.inr (rn13, ro14)) hr1) (fun _ _ _ ⟨q0, hR, hL⟩ hs => by subst hL; exact ⟨_, ⟨hR, rfl⟩, (st_pk 2 [1, 0] (by decide) (st_exP_f (f := fun (g : Value × sketch_Sketch.G) => [Bk b0 24 [g.1], rO (sketch_Sketch.op g.2) g.1 ro14.2]) q0 (st_pk 3 [1, 2, 0] (by decide) hs)))⟩))))) ?_
      refine rl_ex (fun w h => st_exP_o w h) fun g19 _ => ?_
      obtain ⟨pv20, g21⟩ := g19
      refine r_u (o_as rfl) ?_
      refine r_nil ?_
      obtain rfl := Option.some.inj hm15
      exact x_sub (K9 (pv20, g21)) ⟨rfl, rfl, trivial⟩ (fun _ h => st_pk 2 [0, 1] (by decide) h)

end Go.Proofs.Ytlahbmoebbflbaa
