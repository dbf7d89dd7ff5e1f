import Derived.Test.YtlahbmoebbflbaaW3
import Derived.Test.YtlahbmoebbflbaaFacts
import Derived.Test.YtlahbmoebbflbaaHwT
set_option linter.unusedVariables false
set_option linter.unusedSectionVars false
set_option linter.unusedSimpArgs false
set_option maxRecDepth 100000
set_option maxHeartbeats 8000000
namespace Go.Proofs.Ytlahbmoebbflbaa
open Go Go.Proofs.Ytlahbmoebbflbaa.Hw
def hawthornlaw05_SketchGoesOn_l1 (a2 : List Str) : Nat → (Option sketch_Sketch) → Int → Option (Unit ⊕ Bool)
  | 0, _, _ => none
  | k23 + 1, s_18, i_19 => if (decide (i_19 < (a2.length : Int)) && decide (i_19 < 100)) then Option.bind (if ((i_19.tmod 7) == 3) then om s_18 (none) fun x38 => (sketch_Sketch_Export x38).bind fun r44 => (sketch_Import r44).bind fun r46 => if (r46.2 != 0) then some (Sum.inr (Sum.inr false)) else (gi a2 i_19).bind fun x53 => (hawthornlaw05_few x53).bind fun r55 => om r46.1 (none) fun x57 => (sketch_Sketch_Add x57 r55).bind fun r63 => (sketch_Sketch_Add x38 r55).bind fun r65 => (sketch_Sketch_Export r65).bind fun r67 => (sketch_Sketch_Export r63).bind fun r69 => if (r67 != r69) then some (Sum.inr (Sum.inr false)) else some (Sum.inl (some r65)) else (gi a2 i_19).bind fun x73 => (hawthornlaw05_few x73).bind fun r75 => om s_18 (none) fun x77 => (sketch_Sketch_Add x77 r75).bind fun r83 => some (Sum.inl (some r83))) fun (p28 : (Option sketch_Sketch) ⊕ (Unit ⊕ Bool)) => (match p28 with | Sum.inl q29 => hawthornlaw05_SketchGoesOn_l1 a2 k23 q29 (i64 (i_19 + 1)) | Sum.inr r => some r) else some (Sum.inl ())
def hawthornlaw05_SketchGoesOn (a0 : Int) (a1 : UInt64) (a2 : List Str) : Option Bool :=
  (hawthornlaw05_both a0 a1).bind fun r0 => (hawthornlaw05_awake).bind fun r9 => if (!r9 || !r0.2.2) then some false else Option.bind (hawthornlaw05_SketchGoesOn_l1 a2 (((a2.length : Int) - 0).toNat + 1) r0.1 0) fun (p13 : Unit ⊕ Bool) => (match p13 with | Sum.inl q14 => some true | Sum.inr r => some r)
theorem hawthornlaw05_SketchGoesOn.ok {G R F} (a0 : Int) (a1 : UInt64) (v2 : Value) (a2 : List Str) (h2 : RoS R v2 1 (fun x => [vS x]) a2) (r : Bool) (hm : hawthornlaw05_SketchGoesOn a0 a1 a2 = some r) : CO Try.prog 7 [vI a0, vW a1, v2] G R (F)
    (Ret fun u R' L' => u = vB r ∧ R' = R ∧ L' = F) := by
  unfold hawthornlaw05_SketchGoesOn at hm
  refine co_ofN (N := 73) Try.func7 rfl rfl ?_
  refine c_seq ?_
  refine c_reg ?_
  refine r_u (o_as rfl) ?_
  refine r_nil ?_
  refine x_seq ?_
  refine c_seq ?_
  refine c_reg ?_
  refine r_u (o_mv rfl) ?_
  refine r_u (o_mv rfl) ?_
  obtain ⟨r0, hr0, hm7⟩ := bs hm
  refine r_sw (s_w (o_call ca17 rfl (hawthornlaw05_both.ok a0 a1 r0 hr0))) ?_
  rintro _ R _ _ ⟨⟨pv2, g3⟩, v4, rfl, rfl, rfl⟩
  refine r_u (o_mv rfl) ?_
  refine r_u (o_ext rfl rfl) ?_
  refine r_u (o_ext rfl rfl) ?_
  refine r_u (o_ext rfl rfl) ?_
  refine r_new (o_al ze36) fun b8 => ?_
  refine r_u (o_as rfl) ?_
  refine rl_st (fun _ h => st_pk 5 [0, 2, 4, 1, 3] (by decide) h) ?_
  refine r_u0 (ou_if (one_o 1 rfl) fun ho0 => ou_if (one_o 2 rfl) fun ho1 => o_stn ag36 rfl rfl rfl (al_c rfl (al_c rfl (al_c ho0 (al_c ho1 (al_c rfl al_n))))) rfl rfl rfl) ?_
  refine r_u (o_as rfl) ?_
  refine r_nil ?_
  refine x_seq ?_
  refine c_seq ?_
  refine c_seq ?_
  refine c_reg ?_
  obtain ⟨r9, hr9, hm10⟩ := bs hm7
  refine r_u (o_callq ca13 rfl (hawthornlaw05_awake.ok r9 hr9)) ?_
  refine r_u (o_not rfl) ?_
  refine r_u (o_mv rfl) ?_
  refine r_s (s_gf rfl rfl fun g => o_mv rfl) ?_
  refine r_s (s_gf rfl rfl fun g => o_not (evg rfl g)) ?_
  refine r_u (o_or rfl rfl) ?_
  refine r_nil ?_
  refine x_seq ?_
  refine c_if (b := (!r9 || !r0.2.2)) rfl (fun h11 => ?_) fun h11 => ?_
  · have hm12 := ift hm10 h11
    refine c_seq ?_
    refine c_reg ?_
    refine r_u (o_as rfl) ?_
    refine r_nil ?_
    refine x_seq ?_
    refine c_ret ?_
    obtain rfl := Option.some.inj hm12
    refine ex_st (fun _ h => st_pk 5 [] (by decide) h) ?_
    exact x_r1 rfl (rv_t rfl) (Le.refl _) ⟨_, rfl, rfl, rfl, rfl⟩
  · have hm12 := iff_ hm10 h11
    refine c_skip ?_
    refine x_seq ?_
    refine c_seq ?_
    refine c_seq ?_
    refine c_reg ?_
    refine r_u (o_as rfl) ?_
    refine r_nil ?_
    refine x_seq ?_
    obtain ⟨p13, hp15, hm16⟩ := bs hm12
    refine cd_joinS (p := p13) (Ef := fun q14 => []) (Lf := fun q14 => Bk b8 36 [vI r0.2.1.Wide, vW r0.2.1.Seed, v4.Rows.1, v4.Door, vI r0.2.1.Added] :: OwS true 74 1 eV v4.Rows.1 v4.Rows.2 :: OwS true 4 1 eB v4.Door r0.2.1.Door :: OwL (OwS true 3 1 eI) v4.Rows.2 r0.2.1.Rows :: F) (fun q14 hq => ?_) fun K17 => ?_
    · subst hq
      try dsimp only at hm16
      refine x_seq ?_
      refine c_seq ?_
      refine c_reg ?_
      refine r_u (o_as rfl) ?_
      refine r_nil ?_
      refine x_seq ?_
      refine c_ret ?_
      obtain rfl := Option.some.inj hm16
      refine ex_st (fun _ h => st_pk 4 [] (by decide) h) ?_
      exact x_r1 rfl (rv_t rfl) (Le.refl _) ⟨_, rfl, rfl, rfl, rfl⟩
    · refine c_blk ?_
      refine cd_loopG (M := fun k23 (s : Option sketch_Sketch × Int × (Value × sketch_Sketch.G)) => hawthornlaw05_SketchGoesOn_l1 a2 k23 s.1 s.2.1 = some p13) (Ef := fun (s : Option sketch_Sketch × Int × (Value × sketch_Sketch.G)) => [(2, v2), (7, s.2.2.1), (10, vI s.2.1)]) (Rf := fun (s : Option sketch_Sketch × Int × (Value × sketch_Sketch.G)) => R) (Lf := fun (s : Option sketch_Sketch × Int × (Value × sketch_Sketch.G)) => Bk b8 36 [vI r0.2.1.Wide, vW r0.2.1.Seed, v4.Rows.1, v4.Door, vI r0.2.1.Added] :: OwS true 74 1 eV v4.Rows.1 v4.Rows.2 :: OwS true 4 1 eB v4.Door r0.2.1.Door :: OwL (OwS true 3 1 eI) v4.Rows.2 r0.2.1.Rows :: rO (sketch_Sketch.op s.2.2.2) s.2.2.1 s.1 :: F) (((a2.length : Int) - 0).toNat + 1) (r0.1, 0, (pv2, g3)) hp15 ⟨rfl, rfl, rfl, trivial⟩ (fun _ h => st_pk 5 [0, 1, 2, 4, 3] (by decide) h) (fun _ h => by cases h) fun k23 s hM25 => ?_
      obtain ⟨s_18, i_19, pv20⟩ := s
      have hm24 : hawthornlaw05_SketchGoesOn_l1 a2 (k23 + 1) s_18 i_19 = some p13 := hM25
      rw [hawthornlaw05_SketchGoesOn_l1] at hm24
      obtain ⟨pv21, g22⟩ := pv20
      refine c_seq ?_
      refine c_seq ?_
      refine c_reg ?_
      refine r_u (o_mv rfl) ?_
      refine r_u (o_mv rfl) ?_
      refine r_u (o_lenR Try.underlying23 rfl h2) ?_
      refine r_u (o_bin rfl rfl (bI_lt i_19 (a2.length : Int))) ?_
      refine r_u (o_mv rfl) ?_
      refine r_s (s_gt rfl rfl fun g => o_mv rfl) ?_
      refine r_s (s_gt rfl rfl fun g => o_bin (evg rfl g) rfl (bI_lt i_19 100)) ?_
      refine r_u (o_and rfl rfl) ?_
      refine r_nil ?_
      refine x_seq ?_
      refine c_if (b := (decide (i_19 < (a2.length : Int)) && decide (i_19 < 100))) rfl (fun h26 => ?_) fun h26 => ?_
      · have hm27 := ift hm24 h26
        refine c_skip ?_
        refine x_seq ?_
        refine c_seq ?_
        obtain ⟨p28, hp33, hm34⟩ := bs hm27
        refine cd_cut (fun x ks => ∀ (q29 : Option sketch_Sketch), ∀ (_ : p28 = Sum.inl q29), ∀ (pv30 : Value × sketch_Sketch.G), EX x .normal ks [(2, v2), (10, vI i_19), (7, pv30.1)] R (Bk b8 36 [vI r0.2.1.Wide, vW r0.2.1.Seed, v4.Rows.1, v4.Door, vI r0.2.1.Added] :: OwS true 74 1 eV v4.Rows.1 v4.Rows.2 :: OwS true 4 1 eB v4.Door r0.2.1.Door :: OwL (OwS true 3 1 eI) v4.Rows.2 r0.2.1.Rows :: rO (sketch_Sketch.op pv30.2) pv30.1 q29 :: F)) ?_ fun K35 => ?_
        · intro q29 hq pv30
          subst hq
          try dsimp only at hm34
          obtain ⟨pv31, g32⟩ := pv30
          refine x_seq ?_
          refine c_reg ?_
          refine r_u (o_mv rfl) ?_
          refine r_u (o_bin rfl rfl (bI_add i_19 1)) ?_
          refine r_u (o_as rfl) ?_
          refine r_nil ?_
          exact x_lp (q29, i64 (i_19 + 1), (pv31, g32)) hm34 ⟨rfl, rfl, rfl, trivial⟩ (fun _ h => st_pk 5 [0, 1, 2, 3, 4] (by decide) h)
        · refine c_blk ?_
          refine c_seq ?_
          refine c_seq ?_
          refine c_reg ?_
          refine r_u (o_mv rfl) ?_
          refine r_u (o_bin rfl rfl (bI_rem i_19 7 (by decide))) ?_
          refine r_u (o_bin rfl rfl (bI_eq (i_19.tmod 7) 3)) ?_
          refine r_nil ?_
          refine x_seq ?_
          refine c_if (b := ((i_19.tmod 7) == 3)) rfl (fun h36 => ?_) fun h36 => ?_
          · have hm37 := ift hp33 h36
            refine c_seq ?_
            refine cd_st (fun _ h => st_pk 5 [4, 0, 1, 2, 3] (by decide) h) ?_
            refine cd_opt (fun ho40 => ?_) (fun x38 b39 ho40 => ?_)
            · rintro rfl
              have hm41 := om_n hm37 ho40
              cases hm41
            · rintro rfl
              have hm41 := om_s hm37 ho40
              refine cd_st (fun _ h => st_star_o h) ?_
              refine c_reg ?_
              refine r_u (o_mv rfl) ?_
              obtain ⟨r44, hr44, hm45⟩ := bs hm41
              refine r_c (s_w (o_call ca21 rfl (sketch_Sketch_Export.ok b39 x38 g22 r44 hr44))) ?_
              obtain ⟨r46, hr46, hm50⟩ := bs hm45
              refine r_sw (s_w (o_call ca26 rfl (sketch_Import.ok r44 r46 hr46))) ?_
              rintro _ R _ _ ⟨⟨pv48, g49⟩, rfl, rfl, rfl⟩
              refine r_u (o_mv rfl) ?_
              refine r_u (o_ext rfl rfl) ?_
              refine r_u (o_ext rfl rfl) ?_
              refine r_u (o_as rfl) ?_
              refine r_u (o_as rfl) ?_
              refine r_nil ?_
              refine x_seq ?_
              refine c_seq ?_
              refine c_seq ?_
              refine c_reg ?_
              refine r_u (o_mv rfl) ?_
              refine r_u (o_bin rfl rfl (bI_ne r46.2 0)) ?_
              refine r_nil ?_
              refine x_seq ?_
              refine c_if (b := (r46.2 != 0)) rfl (fun h51 => ?_) fun h51 => ?_
              · have hm52 := ift hm50 h51
                refine c_seq ?_
                refine c_reg ?_
                refine r_u (o_as rfl) ?_
                refine r_nil ?_
                refine x_seq ?_
                refine c_ret ?_
                obtain rfl := Option.some.inj hm52
                try dsimp only at hm34
                obtain rfl := Option.some.inj hm34
                try dsimp only at hm16
                obtain rfl := Option.some.inj hm16
                refine ex_st (fun _ h => st_pk 8 [] (by decide) h) ?_
                exact x_r1 rfl (rv_t rfl) (Le.refl _) ⟨_, rfl, rfl, rfl, rfl⟩
              · have hm52 := iff_ hm50 h51
                refine c_skip ?_
                refine x_seq ?_
                refine c_seq ?_
                obtain ⟨x53, hx53, hm54⟩ := bs hm52
                obtain ⟨b53, o53, l53, T53, fr53, c53, hv53, hR53, he53, hi53⟩ := RoS.ne h2 hx53
                obtain ⟨r55, hr55, hm56⟩ := bs hm54
                refine cd_opt (fun ho59 => ?_) (fun x57 b58 ho59 => ?_)
                · rintro rfl
                  have hm60 := om_n hm56 ho59
                  cases hm60
                · rintro rfl
                  have hm60 := om_s hm56 ho59
                  refine cd_st (fun _ h => st_star_o h) ?_
                  refine c_reg ?_
                  refine r_u (o_mv rfl) ?_
                  refine r_u (o_mv rfl) ?_
                  refine r_u (o_mv rfl) ?_
                  refine r_u (o_ix (sz := 1) Try.underlying23 (fun _ => by kernel_rfl) rfl rfl hv53 hi53) ?_
                  refine r_u (o_ldR sc9 rfl hR53 (rok 0 he53 (by decide))) ?_
                  refine r_u (o_callq ca15 rfl (hawthornlaw05_few.ok x53 r55 hr55)) ?_
                  obtain ⟨r63, hr63, hm64⟩ := bs hm60
                  refine r_c (s_w (o_call ca14 rfl (sketch_Sketch_Add.ok b58 x57 g49 r55 r63 hr63))) ?_
                  refine r_nil ?_
                  refine x_seq ?_
                  refine c_seq ?_
                  refine c_reg ?_
                  refine r_u (o_mv rfl) ?_
                  refine r_u (o_mv rfl) ?_
                  refine r_u (o_mv rfl) ?_
                  refine r_u (o_ix (sz := 1) Try.underlying23 (fun _ => by kernel_rfl) rfl rfl hv53 hi53) ?_
                  refine r_u (o_ldR sc9 rfl hR53 (rok 0 he53 (by decide))) ?_
                  refine r_u (o_callq ca15 rfl (hawthornlaw05_few.ok x53 r55 hr55)) ?_
                  obtain ⟨r65, hr65, hm66⟩ := bs hm64
                  refine rl_st (fun _ h => st_pk 10 [3, 4, 5, 0, 1, 2, 6, 7, 8, 9] (by decide) h) ?_
                  refine r_c (s_w (o_call ca14 rfl (sketch_Sketch_Add.ok b39 x38 g22 r55 r65 hr65))) ?_
                  refine r_nil ?_
                  refine x_seq ?_
                  refine c_seq ?_
                  refine c_seq ?_
                  refine c_reg ?_
                  refine r_u (o_mv rfl) ?_
                  obtain ⟨r67, hr67, hm68⟩ := bs hm66
                  refine r_c (s_w (o_call ca21 rfl (sketch_Sketch_Export.ok b39 r65 g22 r67 hr67))) ?_
                  refine r_u (o_mv rfl) ?_
                  obtain ⟨r69, hr69, hm70⟩ := bs hm68
                  refine rl_st (fun _ h => st_pk 10 [3, 4, 5, 0, 1, 2, 6, 7, 8, 9] (by decide) h) ?_
                  refine r_c (s_w (o_call ca21 rfl (sketch_Sketch_Export.ok b58 r63 g49 r69 hr69))) ?_
                  refine r_u (o_bin rfl rfl (bS_ne r67 r69)) ?_
                  refine r_nil ?_
                  refine x_seq ?_
                  refine c_if (b := (r67 != r69)) rfl (fun h71 => ?_) fun h71 => ?_
                  · have hm72 := ift hm70 h71
                    refine c_seq ?_
                    refine c_reg ?_
                    refine r_u (o_as rfl) ?_
                    refine r_nil ?_
                    refine x_seq ?_
                    refine c_ret ?_
                    obtain rfl := Option.some.inj hm72
                    try dsimp only at hm34
                    obtain rfl := Option.some.inj hm34
                    try dsimp only at hm16
                    obtain rfl := Option.some.inj hm16
                    refine ex_st (fun _ h => st_pk 10 [] (by decide) h) ?_
                    exact x_r1 rfl (rv_t rfl) (Le.refl _) ⟨_, rfl, rfl, rfl, rfl⟩
                  · have hm72 := iff_ hm70 h71
                    refine c_skip ?_
                    refine x_seq ?_
                    refine c_exit (x_exit (ks' := _) rfl ?_)
                    refine ex_st (fun _ h => st_pk 10 [3, 4, 5, 0, 1, 2, 6, 7, 8, 9] (by decide) h) ?_
                    refine ex_st (fun _ h => st_some (f := sketch_Sketch.op g22) (a := r65) (st_star_f (A := sketch_Sketch.fl b39 r65 g22) h)) ?_
                    obtain rfl := Option.some.inj hm72
                    exact x_sub (K35 _ rfl (pt b39 0, g22)) ⟨rfl, rfl, rfl, trivial⟩ (fun _ h => st_pk 8 [4, 5, 6, 7, 0] (by decide) h)
          · have hm37 := iff_ hp33 h36
            refine c_skip ?_
            refine x_seq ?_
            obtain ⟨x73, hx73, hm74⟩ := bs hm37
            obtain ⟨b73, o73, l73, T73, fr73, c73, hv73, hR73, he73, hi73⟩ := RoS.ne h2 hx73
            obtain ⟨r75, hr75, hm76⟩ := bs hm74
            refine cd_st (fun _ h => st_pk 5 [4, 0, 1, 2, 3] (by decide) h) ?_
            refine cd_opt (fun ho79 => ?_) (fun x77 b78 ho79 => ?_)
            · rintro rfl
              have hm80 := om_n hm76 ho79
              cases hm80
            · rintro rfl
              have hm80 := om_s hm76 ho79
              refine cd_st (fun _ h => st_star_o h) ?_
              refine c_reg ?_
              refine r_u (o_mv rfl) ?_
              refine r_u (o_mv rfl) ?_
              refine r_u (o_mv rfl) ?_
              refine r_u (o_ix (sz := 1) Try.underlying23 (fun _ => by kernel_rfl) rfl rfl hv73 hi73) ?_
              refine r_u (o_ldR sc9 rfl hR73 (rok 0 he73 (by decide))) ?_
              refine r_u (o_callq ca15 rfl (hawthornlaw05_few.ok x73 r75 hr75)) ?_
              obtain ⟨r83, hr83, hm84⟩ := bs hm80
              refine r_c (s_w (o_call ca14 rfl (sketch_Sketch_Add.ok b78 x77 g22 r75 r83 hr83))) ?_
              refine r_nil ?_
              refine x_blk ?_
              refine ex_st (fun _ h => st_some (f := sketch_Sketch.op g22) (a := r83) (st_star_f (A := sketch_Sketch.fl b78 r83 g22) h)) ?_
              obtain rfl := Option.some.inj hm84
              exact x_sub (K35 _ rfl (pt b78 0, g22)) ⟨rfl, rfl, rfl, trivial⟩ (fun _ h => st_pk 5 [1, 2, 3, 4, 0] (by decide) h)
      · have hm27 := iff_ hm24 h26
        refine c_exit (x_exit (ks' := _) rfl ?_)
        obtain rfl := Option.some.inj hm27
        exact x_sub (K17 _ rfl) trivial (fun _ h => st_pk 5 [0, 1, 2, 3] (by decide) h)

end Go.Proofs.Ytlahbmoebbflbaa
