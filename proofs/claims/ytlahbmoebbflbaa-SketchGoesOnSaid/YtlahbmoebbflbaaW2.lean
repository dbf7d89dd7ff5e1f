import Derived.Test.YtlahbmoebbflbaaW1
import Derived.Test.YtlahbmoebbflbaaFacts
import Derived.Test.YtlahbmoebbflbaaHwT
set_option linter.unusedVariables false
set_option linter.unusedSectionVars false
set_option linter.unusedSimpArgs false
set_option maxRecDepth 100000
set_option maxHeartbeats 8000000
namespace Go.Proofs.Ytlahbmoebbflbaa
open Go Go.Proofs.Ytlahbmoebbflbaa.Hw
def hawthornref05_Sketch_Add_l4 (a0 : hawthornref05_Sketch) (a1 : Str) (r41 : Int) : Nat → Int → (List (List Int)) → Option (List (List Int))
  | 0, _, _ => none
  | k49 + 1, i_47, c_48 => if decide (i_47 < 4) then (hawthornref05_Sketch_place a0 a1 i_47).bind fun r54 => (gi a0.Rows i_47).bind fun x56 => (gi x56 r54).bind fun x59 => Option.bind (if ((x59 == r41) && decide (r41 < 15)) then (gi c_48 i_47).bind fun y67 => (gi y67 r54).bind fun x70 => some (ls c_48 i_47 (ls y67 r54 (i64 (x70 + 1)))) else some c_48) fun p61 => hawthornref05_Sketch_Add_l4 a0 a1 r41 k49 (i64 (i_47 + 1)) p61 else some c_48
def hawthornref05_Sketch_Add_l5 (a0 : hawthornref05_Sketch) : Nat → Int → (List (List Int)) → Option (List (List Int))
  | 0, _, _ => none
  | k74 + 1, i_72, c_73 => if decide (i_72 < 4) then (gi c_73 i_72).bind fun y79 => (gi a0.Rows i_72).bind fun x82 => (cpy y79 x82).bind fun l85 => hawthornref05_Sketch_Add_l5 a0 k74 (i64 (i_72 + 1)) (ls c_73 i_72 l85) else some c_73
def hawthornref05_Sketch_Add (a0 : hawthornref05_Sketch) (a1 : Str) : Option hawthornref05_Sketch :=
  (hawthornref05_New a0.Wide a0.Seed).bind fun r2 => (cpy r2.Door a0.Door).bind fun l8 => Option.bind (hawthornref05_Sketch_Add_l5 a0 5 0 r2.Rows) fun p10 => (hawthornref05_Sketch_place a0 a1 4).bind fun r14 => (gi a0.Door r14).bind fun x16 => Option.bind (if !x16 then (gi l8 r14).bind fun x39 => some (ls l8 r14 true, p10) else (hawthornref05_Sketch_least a0 a1).bind fun r41 => Option.bind (hawthornref05_Sketch_Add_l4 a0 a1 r41 5 0 p10) fun p43 => some (l8, p43)) fun p18 => if decide ((i64 (10 * a0.Wide)) ≤ (i64 (a0.Added + 1))) then (hawthornref05_Sketch_Age (⟨r2.Wide, r2.Seed, p18.2, p18.1, i64 (a0.Added + 1)⟩ : hawthornref05_Sketch)).bind fun r32 => some r32 else some (⟨r2.Wide, r2.Seed, p18.2, p18.1, i64 (a0.Added + 1)⟩ : hawthornref05_Sketch)
theorem hawthornref05_Sketch_Add.ok {G R F} (a0 : hawthornref05_Sketch) (g0_ : hawthornref05_Sketch.G) (h0 : hawthornref05_Sketch.ro R a0 g0_) (a1 : Str) (r : hawthornref05_Sketch) (hm : hawthornref05_Sketch_Add a0 a1 = some r) : CO Try.prog 19 [.agg [vI a0.Wide, vW a0.Seed, g0_.Rows.1, g0_.Door, vI a0.Added].toArray, vS a1] G R (F)
    (Ret fun u R' L' => ∃ (p0 : hawthornref05_Sketch.G), u = .agg [vI r.Wide, vW r.Seed, p0.Rows.1, p0.Door, vI r.Added].toArray ∧ True ∧ L' = OwS true 74 1 eV p0.Rows.1 p0.Rows.2 :: OwL (OwS true 3 1 eI) p0.Rows.2 r.Rows :: OwS true 4 1 eB p0.Door r.Door :: F) := by
  unfold hawthornref05_Sketch_Add at hm
  refine co_ofN (N := 97) Try.func19 rfl rfl ?_
  refine c_seq ?_
  refine c_reg ?_
  refine r_new (o_bx [vI a0.Wide, vW a0.Seed, g0_.Rows.1, g0_.Door, vI a0.Added] rfl rfl) fun b0 => ?_
  refine r_new (o_al ze36) fun b1 => ?_
  refine r_nil ?_
  refine x_seq ?_
  refine c_seq ?_
  refine c_reg ?_
  refine r_u (o_fa fa36_0 rfl) ?_
  refine r_u (o_ld 1 sc3 rfl rfl rfl) ?_
  refine r_u (o_fa fa36_1 rfl) ?_
  refine r_u (o_ld 1 sc22 rfl rfl rfl) ?_
  obtain ⟨r2, hr2, hm6⟩ := bs hm
  refine r_sw (s_w (o_call ca44 rfl (hawthornref05_New.ok a0.Wide a0.Seed r2 hr2))) ?_
  rintro _ R _ _ ⟨v3, rfl, rfl, rfl⟩
  refine r_new (o_al ze36) fun b7 => ?_
  refine rl_st (fun _ h => st_pk 6 [0, 1, 3, 2, 4, 5] (by decide) h) ?_
  refine r_u0 (ou_if (one_o 1 rfl) fun ho0 => ou_if (one_o 2 rfl) fun ho1 => o_stn ag36 rfl rfl rfl (al_c rfl (al_c rfl (al_c ho0 (al_c ho1 (al_c rfl al_n))))) rfl rfl rfl) ?_
  refine r_nil ?_
  refine x_seq ?_
  refine c_seq ?_
  refine c_reg ?_
  refine r_u (o_fa fa36_3 rfl) ?_
  refine r_u (o_ld 0 sc34 rfl rfl rfl) ?_
  refine r_u (o_fa fa36_3 rfl) ?_
  refine r_u (o_ld 5 sc34 rfl rfl rfl) ?_
  obtain ⟨l8, hl8, hm9⟩ := bs hm6
  refine rl_st (fun _ h => st_pk 6 [2, 0, 1, 3, 4, 5] (by decide) h) ?_
  refine r_u (o_cp Try.underlying34 rfl rfl (fun _ => ⟨_, rfl, rfl⟩) rfl rfl rfl h0.2 hl8) ?_
  refine r_nil ?_
  refine x_seq ?_
  refine c_seq ?_
  refine c_seq ?_
  refine c_reg ?_
  refine r_u (o_as rfl) ?_
  refine r_nil ?_
  refine x_seq ?_
  obtain ⟨p10, hp11, hm12⟩ := bs hm9
  refine cd_join (E' := [(1, vS a1), (2, pt b0 0), (4, pt b1 0), (5, pt b7 0)]) (L' := Bk b7 36 [vI r2.Wide, vW r2.Seed, v3.Rows.1, v3.Door, vI r2.Added] :: Bk b1 36 [vI 0, vW 0, .slice none 0 0, .slice none 0 0, vI 0] :: Bk b0 36 [vI a0.Wide, vW a0.Seed, g0_.Rows.1, g0_.Door, vI a0.Added] :: OwS true 4 1 eB v3.Door l8 :: OwS true 74 1 eV v3.Rows.1 v3.Rows.2 :: OwL (OwS true 3 1 eI) v3.Rows.2 p10 :: F) ?_ fun K13 => ?_
  · refine x_seq ?_
    refine c_seq ?_
    refine c_reg ?_
    refine r_u (o_fa fa36_4 rfl) ?_
    refine r_u (o_ld 2 sc3 rfl rfl rfl) ?_
    refine r_u (o_bin rfl rfl (bI_add a0.Added 1)) ?_
    refine r_u (o_fa fa36_4 rfl) ?_
    refine r_u0 (o_st sc3 rfl rfl rfl rfl rfl rfl) ?_
    refine r_nil ?_
    refine x_seq ?_
    refine c_seq ?_
    refine c_seq ?_
    refine c_reg ?_
    refine r_u (o_ldn 2 [vI a0.Wide, vW a0.Seed, g0_.Rows.1, g0_.Door, vI a0.Added] ag36 rfl rfl rfl rfl) ?_
    refine r_u (o_mv rfl) ?_
    obtain ⟨r14, hr14, hm15⟩ := bs hm12
    refine r_u (o_callq ca46 rfl (hawthornref05_Sketch_place.ok a0 (⟨(g0_.Rows.1, []), g0_.Door⟩ : hawthornref05_Sketch.G) ⟨h0.1, h0.2⟩ a1 4 r14 hr14)) ?_
    refine r_u (o_as rfl) ?_
    refine r_nil ?_
    refine x_seq ?_
    refine c_seq ?_
    refine c_reg ?_
    refine r_u (o_fa fa36_3 rfl) ?_
    refine r_u (o_ld 2 sc34 rfl rfl rfl) ?_
    refine r_u (o_mv rfl) ?_
    obtain ⟨x16, hx16, hm17⟩ := bs hm15
    obtain ⟨b16, o16, l16, T16, fr16, c16, hv16, hR16, he16, hi16⟩ := RoS.ne h0.2 hx16
    refine r_u (o_ix (sz := 1) Try.underlying34 (fun _ => by kernel_rfl) rfl rfl hv16 hi16) ?_
    refine r_u (o_ldR sc4 rfl hR16 (rok 0 he16 (by decide))) ?_
    refine r_u (o_not rfl) ?_
    refine r_nil ?_
    refine x_seq ?_
    obtain ⟨p18, hp19, hm20⟩ := bs hm17
    refine cd_join (E' := [(2, pt b0 0), (4, pt b1 0), (5, pt b7 0)]) (L' := Bk b7 36 [vI r2.Wide, vW r2.Seed, v3.Rows.1, v3.Door, vI (i64 (a0.Added + 1))] :: Bk b1 36 [vI 0, vW 0, .slice none 0 0, .slice none 0 0, vI 0] :: Bk b0 36 [vI a0.Wide, vW a0.Seed, g0_.Rows.1, g0_.Door, vI a0.Added] :: OwS true 4 1 eB v3.Door p18.1 :: OwS true 74 1 eV v3.Rows.1 v3.Rows.2 :: OwL (OwS true 3 1 eI) v3.Rows.2 p18.2 :: F) ?_ fun K21 => ?_
    · refine x_seq ?_
      refine c_seq ?_
      refine c_seq ?_
      refine c_reg ?_
      refine r_u (o_fa fa36_4 rfl) ?_
      refine r_u (o_ld 0 sc3 rfl rfl rfl) ?_
      refine r_u (o_fa fa36_0 rfl) ?_
      refine r_u (o_ld 2 sc3 rfl rfl rfl) ?_
      refine r_u (o_bin rfl rfl (bI_mul 10 a0.Wide)) ?_
      refine r_u (o_bin rfl rfl (bI_ge (i64 (a0.Added + 1)) (i64 (10 * a0.Wide)))) ?_
      refine r_nil ?_
      refine x_seq ?_
      refine c_if (b := decide ((i64 (10 * a0.Wide)) ≤ (i64 (a0.Added + 1)))) rfl (fun h22 => ?_) fun h22 => ?_
      · have hm23 := ift hm20 h22
        refine c_seq ?_
        refine c_reg ?_
        refine r_u (o_ldn 0 [vI r2.Wide, vW r2.Seed, v3.Rows.1, v3.Door, vI (i64 (a0.Added + 1))] ag36 rfl rfl rfl rfl) ?_
        refine rl_st (fun _ h => st_pk 6 [4, 5, 0, 1, 2, 3] (by decide) h) ?_
        refine rl_ex (fun w h => st_freezeN w h) fun R24 hf27 => ?_
        obtain ⟨le25, h26⟩ := hf27
        refine rl_st (fun _ h => st_pk 4 [3, 0, 1, 2] (by decide) h) ?_
        refine rl_ex (fun w h => st_freeze w h) fun R28 hf31 => ?_
        obtain ⟨le29, h30⟩ := hf31
        obtain ⟨r32, hr32, hm36⟩ := bs hm23
        refine r_sw (s_w (o_call ca24 rfl (hawthornref05_Sketch_Age.ok (⟨r2.Wide, r2.Seed, p18.2, p18.1, i64 (a0.Added + 1)⟩ : hawthornref05_Sketch) (⟨(v3.Rows.1, []), v3.Door⟩ : hawthornref05_Sketch.G) ⟨(RoN.mono le29 h26), h30⟩ r32 hr32))) ?_
        rintro _ R28 _ _ ⟨v33, rfl, rfl, rfl⟩
        refine rl_st (fun _ h => st_pk 6 [4, 0, 2, 1, 3, 5] (by decide) h) ?_
        refine r_u0 (ou_if (one_o 1 rfl) fun ho0 => ou_if (one_o 2 rfl) fun ho1 => o_stn ag36 rfl rfl rfl (al_c rfl (al_c rfl (al_c ho0 (al_c ho1 (al_c rfl al_n))))) rfl rfl rfl) ?_
        refine r_nil ?_
        refine x_seq ?_
        refine c_ret ?_
        obtain rfl := Option.some.inj hm36
        exact x_d1 rfl (rv_n 0 [vI r32.Wide, vW r32.Seed, v33.Rows.1, v33.Door, vI r32.Added] ag36 rfl rfl rfl rfl) (fun _ h => st_pk 6 [1, 3, 2] (by decide) h) (Le.trans le25 le29) ⟨_, rfl, v33, rfl, trivial, rfl⟩
      · have hm23 := iff_ hm20 h22
        refine c_skip ?_
        refine x_seq ?_
        refine c_seq ?_
        refine c_reg ?_
        refine r_u (o_ldn 0 [vI r2.Wide, vW r2.Seed, v3.Rows.1, v3.Door, vI (i64 (a0.Added + 1))] ag36 rfl rfl rfl rfl) ?_
        refine rl_st (fun _ h => st_pk 6 [1, 4, 3, 0, 2, 5] (by decide) h) ?_
        refine r_u0 (ou_if (one_o 1 rfl) fun ho0 => ou_if (one_o 2 rfl) fun ho1 => o_stn ag36 rfl rfl rfl (al_c rfl (al_c rfl (al_c ho0 (al_c ho1 (al_c rfl al_n))))) rfl rfl rfl) ?_
        refine r_nil ?_
        refine x_seq ?_
        refine c_ret ?_
        obtain rfl := Option.some.inj hm23
        exact x_d1 rfl (rv_n 0 [vI r2.Wide, vW r2.Seed, v3.Rows.1, v3.Door, vI (i64 (a0.Added + 1))] ag36 rfl rfl rfl rfl) (fun _ h => st_pk 6 [1, 5, 2] (by decide) h) (Le.refl _) ⟨_, rfl, v3, rfl, trivial, rfl⟩
    · refine c_if (b := !x16) rfl (fun h37 => ?_) fun h37 => ?_
      · have hm38 := ift hp19 h37
        refine c_reg ?_
        refine r_u (o_fa fa36_3 rfl) ?_
        refine r_u (o_ld 0 sc34 rfl rfl rfl) ?_
        refine r_u (o_mv rfl) ?_
        obtain ⟨x39, hx39, hm40⟩ := bs hm38
        refine r_u (o_ixO 3 Try.underlying34 (fun _ => by kernel_rfl) rfl rfl rfl hx39) ?_
        refine rl_st (fun _ h => st_pk 6 [3, 0, 1, 2, 4, 5] (by decide) h) ?_
        refine r_u0 (o_stO0 (c' := true) sc4 rfl rfl rfl hx39 rfl rfl rfl) ?_
        refine r_nil ?_
        obtain rfl := Option.some.inj hm40
        exact x_sub K21 ⟨rfl, rfl, rfl, trivial⟩ (fun _ h => st_pk 6 [1, 2, 3, 0, 4, 5] (by decide) h)
      · have hm38 := iff_ hp19 h37
        refine c_seq ?_
        refine c_reg ?_
        refine r_u (o_ldn 2 [vI a0.Wide, vW a0.Seed, g0_.Rows.1, g0_.Door, vI a0.Added] ag36 rfl rfl rfl rfl) ?_
        refine r_u (o_mv rfl) ?_
        obtain ⟨r41, hr41, hm42⟩ := bs hm38
        refine r_u (o_callq ca45 rfl (hawthornref05_Sketch_least.ok a0 (⟨(g0_.Rows.1, []), g0_.Door⟩ : hawthornref05_Sketch.G) ⟨h0.1, h0.2⟩ a1 r41 hr41)) ?_
        refine r_u (o_as rfl) ?_
        refine r_nil ?_
        refine x_seq ?_
        refine c_seq ?_
        refine c_reg ?_
        refine r_u (o_as rfl) ?_
        refine r_nil ?_
        refine x_seq ?_
        obtain ⟨p43, hp44, hm45⟩ := bs hm42
        refine cd_join (E' := [(2, pt b0 0), (4, pt b1 0), (5, pt b7 0)]) (L' := Bk b7 36 [vI r2.Wide, vW r2.Seed, v3.Rows.1, v3.Door, vI (i64 (a0.Added + 1))] :: Bk b1 36 [vI 0, vW 0, .slice none 0 0, .slice none 0 0, vI 0] :: Bk b0 36 [vI a0.Wide, vW a0.Seed, g0_.Rows.1, g0_.Door, vI a0.Added] :: OwS true 4 1 eB v3.Door l8 :: OwS true 74 1 eV v3.Rows.1 v3.Rows.2 :: OwL (OwS true 3 1 eI) v3.Rows.2 p43 :: F) ?_ fun K46 => ?_
        · obtain rfl := Option.some.inj hm45
          exact x_sub K21 ⟨rfl, rfl, rfl, trivial⟩ (fun _ h => st_pk 6 [0, 1, 2, 3, 4, 5] (by decide) h)
        · refine c_blk ?_
          refine cd_loop (M := fun k49 (s : Int × List (List Int)) => hawthornref05_Sketch_Add_l4 a0 a1 r41 k49 s.1 s.2 = some p43) (Ef := fun (s : Int × List (List Int)) => [(1, vS a1), (2, pt b0 0), (4, pt b1 0), (5, pt b7 0), (8, vI r41), (9, vI s.1)]) (Lf := fun (s : Int × List (List Int)) => Bk b7 36 [vI r2.Wide, vW r2.Seed, v3.Rows.1, v3.Door, vI (i64 (a0.Added + 1))] :: Bk b1 36 [vI 0, vW 0, .slice none 0 0, .slice none 0 0, vI 0] :: Bk b0 36 [vI a0.Wide, vW a0.Seed, g0_.Rows.1, g0_.Door, vI a0.Added] :: OwS true 4 1 eB v3.Door l8 :: OwS true 74 1 eV v3.Rows.1 v3.Rows.2 :: OwL (OwS true 3 1 eI) v3.Rows.2 s.2 :: F) 5 (0, p10) hp44 ⟨rfl, rfl, rfl, rfl, rfl, rfl, trivial⟩ (fun _ h => h) (fun _ h => by cases h) fun k49 s hM51 => ?_
          obtain ⟨i_47, c_48⟩ := s
          have hm50 : hawthornref05_Sketch_Add_l4 a0 a1 r41 (k49 + 1) i_47 c_48 = some p43 := hM51
          rw [hawthornref05_Sketch_Add_l4] at hm50
          refine c_seq ?_
          refine c_seq ?_
          refine c_reg ?_
          refine r_u (o_mv rfl) ?_
          refine r_u (o_bin rfl rfl (bI_lt i_47 4)) ?_
          refine r_nil ?_
          refine x_seq ?_
          refine c_if (b := decide (i_47 < 4)) rfl (fun h52 => ?_) fun h52 => ?_
          · have hm53 := ift hm50 h52
            refine c_skip ?_
            refine x_seq ?_
            refine c_seq ?_
            refine c_blk ?_
            refine c_seq ?_
            refine c_reg ?_
            refine r_u (o_ldn 2 [vI a0.Wide, vW a0.Seed, g0_.Rows.1, g0_.Door, vI a0.Added] ag36 rfl rfl rfl rfl) ?_
            refine r_u (o_mv rfl) ?_
            refine r_u (o_mv rfl) ?_
            obtain ⟨r54, hr54, hm55⟩ := bs hm53
            refine r_u (o_callq ca46 rfl (hawthornref05_Sketch_place.ok a0 (⟨(g0_.Rows.1, []), g0_.Door⟩ : hawthornref05_Sketch.G) ⟨h0.1, h0.2⟩ a1 i_47 r54 hr54)) ?_
            refine r_u (o_as rfl) ?_
            refine r_nil ?_
            refine x_seq ?_
            refine c_seq ?_
            refine c_reg ?_
            refine r_u (o_fa fa36_2 rfl) ?_
            refine r_u (o_ld 2 sc33 rfl rfl rfl) ?_
            refine r_u (o_mv rfl) ?_
            obtain ⟨x56, hx56, hm58⟩ := bs hm55
            obtain ⟨b56, o56, l56, T56, fr56, c56, u57, hv56, hR56, he56, hi56, hN56⟩ := RoN.ne h0.1 hx56
            refine r_u (o_ix (sz := 1) Try.underlying33 (fun _ => by kernel_rfl) rfl rfl hv56 hi56) ?_
            refine r_u (o_ldR sc74 rfl hR56 (rok 0 he56 (by decide))) ?_
            refine r_u (o_mv rfl) ?_
            obtain ⟨x59, hx59, hm60⟩ := bs hm58
            obtain ⟨b59, o59, l59, T59, fr59, c59, hv59, hR59, he59, hi59⟩ := RoS.ne hN56 hx59
            refine r_u (o_ix (sz := 1) Try.underlying74 (fun _ => by kernel_rfl) rfl rfl hv59 hi59) ?_
            refine r_u (o_ldR sc3 rfl hR59 (rok 0 he59 (by decide))) ?_
            refine r_u (o_mv rfl) ?_
            refine r_u (o_bin rfl rfl (bI_eq x59 r41)) ?_
            refine r_u (o_mv rfl) ?_
            refine r_s (s_gt rfl rfl fun g => o_mv rfl) ?_
            refine r_s (s_gt rfl rfl fun g => o_bin (evg rfl g) rfl (bI_lt r41 15)) ?_
            refine r_u (o_and rfl rfl) ?_
            refine r_nil ?_
            refine x_seq ?_
            obtain ⟨p61, hp62, hm63⟩ := bs hm60
            refine cd_join (E' := [(1, vS a1), (2, pt b0 0), (4, pt b1 0), (5, pt b7 0), (8, vI r41), (9, vI i_47)]) (L' := Bk b7 36 [vI r2.Wide, vW r2.Seed, v3.Rows.1, v3.Door, vI (i64 (a0.Added + 1))] :: Bk b1 36 [vI 0, vW 0, .slice none 0 0, .slice none 0 0, vI 0] :: Bk b0 36 [vI a0.Wide, vW a0.Seed, g0_.Rows.1, g0_.Door, vI a0.Added] :: OwL (OwS true 3 1 eI) v3.Rows.2 p61 :: OwS true 4 1 eB v3.Door l8 :: OwS true 74 1 eV v3.Rows.1 v3.Rows.2 :: F) ?_ fun K64 => ?_
            · refine x_blk ?_
              refine x_seq ?_
              refine c_reg ?_
              refine r_u (o_mv rfl) ?_
              refine r_u (o_bin rfl rfl (bI_add i_47 1)) ?_
              refine r_u (o_as rfl) ?_
              refine r_nil ?_
              exact x_lp (i64 (i_47 + 1), p61) hm63 ⟨rfl, rfl, rfl, rfl, rfl, rfl, trivial⟩ (fun _ h => st_pk 6 [0, 1, 2, 4, 5, 3] (by decide) h)
            · refine c_if (b := ((x59 == r41) && decide (r41 < 15))) rfl (fun h65 => ?_) fun h65 => ?_
              · have hm66 := ift hp62 h65
                refine c_reg ?_
                refine r_u (o_fa fa36_2 rfl) ?_
                refine r_u (o_ld 0 sc33 rfl rfl rfl) ?_
                refine r_u (o_mv rfl) ?_
                obtain ⟨y67, hy67, hm69⟩ := bs hm66
                refine rl_ex (fun w h => st_peek 5 hy67 rfl w h) fun u68 hu68 => ?_
                refine r_u (o_ixO 4 Try.underlying33 (fun _ => by kernel_rfl) rfl rfl rfl hu68) ?_
                refine r_u (o_ldO0 4 sc74 rfl rfl hu68 rfl rfl) ?_
                refine r_u (o_mv rfl) ?_
                obtain ⟨x70, hx70, hm71⟩ := bs hm69
                refine r_u (o_ixK (kn_in 5 rfl hu68 hy67) Try.underlying74 (fun _ => by kernel_rfl) rfl rfl hx70) ?_
                refine r_u (o_ldK (kn_in 5 rfl hu68 hy67) 0 sc3 rfl hx70 rfl rfl) ?_
                refine r_u (o_bin rfl rfl (bI_add x70 1)) ?_
                refine r_u (o_ixK (kn_in 5 rfl hu68 hy67) Try.underlying74 (fun _ => by kernel_rfl) rfl rfl hx70) ?_
                refine rl_st (fun _ h => st_pk 6 [5, 0, 1, 2, 3, 4] (by decide) h) ?_
                refine r_u0 (o_stL (c' := i64 (x70 + 1)) 0 hu68 hy67 sc3 rfl rfl rfl hx70 rfl rfl rfl) ?_
                refine r_nil ?_
                obtain rfl := Option.some.inj hm71
                exact x_sub K64 ⟨rfl, rfl, rfl, rfl, rfl, rfl, trivial⟩ (fun _ h => st_pk 6 [1, 2, 3, 0, 4, 5] (by decide) h)
              · have hm66 := iff_ hp62 h65
                refine c_skip ?_
                obtain rfl := Option.some.inj hm66
                exact x_sub K64 ⟨rfl, rfl, rfl, rfl, rfl, rfl, trivial⟩ (fun _ h => st_pk 6 [0, 1, 2, 5, 3, 4] (by decide) h)
          · have hm53 := iff_ hm50 h52
            refine c_exit (x_exit (ks' := _) rfl ?_)
            obtain rfl := Option.some.inj hm53
            exact x_sub K46 ⟨rfl, rfl, rfl, trivial⟩ (fun _ h => st_pk 6 [0, 1, 2, 3, 4, 5] (by decide) h)
  · refine c_blk ?_
    refine cd_loop (M := fun k74 (s : Int × List (List Int)) => hawthornref05_Sketch_Add_l5 a0 k74 s.1 s.2 = some p10) (Ef := fun (s : Int × List (List Int)) => [(1, vS a1), (2, pt b0 0), (4, pt b1 0), (5, pt b7 0), (6, vI s.1)]) (Lf := fun (s : Int × List (List Int)) => Bk b7 36 [vI r2.Wide, vW r2.Seed, v3.Rows.1, v3.Door, vI r2.Added] :: Bk b1 36 [vI 0, vW 0, .slice none 0 0, .slice none 0 0, vI 0] :: Bk b0 36 [vI a0.Wide, vW a0.Seed, g0_.Rows.1, g0_.Door, vI a0.Added] :: OwS true 4 1 eB v3.Door l8 :: OwS true 74 1 eV v3.Rows.1 v3.Rows.2 :: OwL (OwS true 3 1 eI) v3.Rows.2 s.2 :: F) 5 (0, r2.Rows) hp11 ⟨rfl, rfl, rfl, rfl, rfl, trivial⟩ (fun _ h => st_pk 6 [1, 4, 5, 0, 2, 3] (by decide) h) (fun _ h => by cases h) fun k74 s hM76 => ?_
    obtain ⟨i_72, c_73⟩ := s
    have hm75 : hawthornref05_Sketch_Add_l5 a0 (k74 + 1) i_72 c_73 = some p10 := hM76
    rw [hawthornref05_Sketch_Add_l5] at hm75
    refine c_seq ?_
    refine c_seq ?_
    refine c_reg ?_
    refine r_u (o_mv rfl) ?_
    refine r_u (o_bin rfl rfl (bI_lt i_72 4)) ?_
    refine r_nil ?_
    refine x_seq ?_
    refine c_if (b := decide (i_72 < 4)) rfl (fun h77 => ?_) fun h77 => ?_
    · have hm78 := ift hm75 h77
      refine c_skip ?_
      refine x_seq ?_
      refine c_seq ?_
      refine c_blk ?_
      obtain ⟨y79, hy79, hm81⟩ := bs hm78
      refine cd_ex (fun w h => st_peek 5 hy79 rfl w h) fun u80 hu80 => ?_
      obtain ⟨x82, hx82, hm84⟩ := bs hm81
      obtain ⟨b82, o82, l82, T82, fr82, c82, u83, hv82, hR82, he82, hi82, hN82⟩ := RoN.ne h0.1 hx82
      obtain ⟨l85, hl85, hm86⟩ := bs hm84
      refine c_any mixed (effs := [10]) (V := []) ?_
      refine stage_st (fun _ h => st_pk 6 [5, 0, 1, 2, 3, 4] (by decide) h) ?_
      refine stage_ext [(0, pt b7 2), (1, v3.Rows.1), (2, vI i_72), (3, pt (sb v3.Rows.1) (so v3.Rows.1 + i_72.toNat * 1)), (4, u80), (5, pt b0 2), (6, g0_.Rows.1), (7, vI i_72), (8, pt b82 (o82 + i_72.toNat * 1)), (9, u83)] rfl ?_
      refine stage rfl rfl rfl rfl [0, 1, 0, 7, 15, 0, 32, 0, 224, 480, 1023] [0, 1, 2, 3, 4, 5, 6, 7, 8, 9] [10] rfl rfl rfl (qc rfl rfl (s_u (o_fa fa36_2 rfl)) (qc rfl rfl (s_u (o_ld 1 sc33 rfl rfl rfl)) (qc rfl rfl (s_u (o_mv rfl)) (qc rfl rfl (s_u (o_ixO 5 Try.underlying33 (fun _ => by kernel_rfl) rfl rfl rfl hu80)) (qc rfl rfl (s_u (o_ldO0 5 sc74 rfl rfl hu80 rfl rfl)) (qc rfl rfl (s_u (o_fa fa36_2 rfl)) (qc rfl rfl (s_u (o_ld 3 sc33 rfl rfl rfl)) (qc rfl rfl (s_u (o_mv rfl)) (qc rfl rfl (s_u (o_ix (sz := 1) Try.underlying33 (fun _ => by kernel_rfl) rfl rfl hv82 hi82)) (qc rfl rfl (s_u (o_ldR sc74 rfl hR82 (rok 0 he82 (by decide)))) qn)))))))))) ?_ (fun h => absurd h (by decide))
      refine ec (eo_u rfl (s_u (o_cpL hu80 hy79 Try.underlying74 rfl rfl (fun _ => ⟨_, rfl, rfl⟩) rfl rfl rfl hN82 hl85)) (Le.refl _) ?_) en
      refine stage rfl rfl rfl rfl [0, 1, 0, 7, 15, 0, 32, 0, 224, 480, 1023] [] [] rfl rfl rfl qn en ?_
      intro _
      refine ex_sub (E' := [(1, vS a1), (2, pt b0 0), (4, pt b1 0), (5, pt b7 0), (6, vI i_72)]) ⟨rfl, rfl, rfl, rfl, rfl, trivial⟩ ?_
      refine x_blk ?_
      refine x_seq ?_
      refine c_reg ?_
      refine r_u (o_mv rfl) ?_
      refine r_u (o_bin rfl rfl (bI_add i_72 1)) ?_
      refine r_u (o_as rfl) ?_
      refine r_nil ?_
      exact x_lp (i64 (i_72 + 1), ls c_73 i_72 l85) hm86 ⟨rfl, rfl, rfl, rfl, rfl, trivial⟩ (fun _ h => st_pk 6 [1, 2, 3, 4, 5, 0] (by decide) h)
    · have hm78 := iff_ hm75 h77
      refine c_exit (x_exit (ks' := _) rfl ?_)
      obtain rfl := Option.some.inj hm78
      exact x_sub K13 ⟨rfl, rfl, rfl, rfl, trivial⟩ (fun _ h => st_pk 6 [0, 1, 2, 3, 4, 5] (by decide) h)

def wire_Num_l1  : Nat → UInt64 → Str → Option (UInt64 × Str)
  | 0, _, _ => none
  | k9 + 1, n_7, c_8 => if decide (128 ≤ n_7) then (apd 1 c_8 [((n_7 % 128).toUInt8) + 128]).bind fun l14 => wire_Num_l1 k9 (n_7 / 128) l14 else some (n_7, c_8)
def wire_Num (a0 : UInt64) : Option Str :=
  Option.bind (wire_Num_l1 11 a0 []) fun p1 => (apd 1 p1.2 [p1.1.toUInt8]).bind fun l5 => some l5
theorem wire_Num.ok {G R F} (a0 : UInt64) (r : Str) (hm : wire_Num a0 = some r) : CO Try.prog 47 [vW a0] G R (F)
    (Ret fun u R' L' => u = vS r ∧ R' = R ∧ L' = F) := by
  unfold wire_Num at hm
  refine co_ofN (N := 17) Try.func47 rfl rfl ?_
  refine c_seq ?_
  refine c_reg ?_
  refine r_u (o_as rfl) ?_
  refine r_nil ?_
  refine x_seq ?_
  refine c_seq ?_
  refine c_reg ?_
  refine r_new (o_al ze97) fun b0 => ?_
  refine rl_st (fun _ h => bld_new (e := 5) h) ?_
  refine r_nil ?_
  refine x_seq ?_
  refine c_seq ?_
  obtain ⟨p1, hp2, hm3⟩ := bs hm
  refine cd_join (E' := [(3, pt b0 0), (0, vW p1.1)]) (L' := Bld 97 5 b0 p1.2 :: F) ?_ fun K4 => ?_
  · refine x_seq ?_
    refine c_seq ?_
    refine c_reg ?_
    refine r_u (o_mv rfl) ?_
    refine r_u (o_cv rfl (cWY Try.underlying22 Try.underlying5 p1.1)) ?_
    obtain ⟨l5, hl5, hm6⟩ := bs hm3
    refine r_c (s_w (o_call ca68 rfl (bld_WriteByte.ok b0 p1.2 p1.1.toUInt8 _ hl5))) ?_
    refine r_nil ?_
    refine x_seq ?_
    refine c_seq ?_
    refine c_reg ?_
    refine r_c (s_w (o_call ca69 rfl (bld_String.ok b0 l5))) ?_
    refine r_u (o_as rfl) ?_
    refine r_nil ?_
    refine x_seq ?_
    refine c_ret ?_
    obtain rfl := Option.some.inj hm6
    exact x_r1 rfl (rv_t rfl) (Le.refl _) ⟨_, rfl, rfl, rfl, rfl⟩
  · refine c_blk ?_
    refine cd_loop (M := fun k9 (s : UInt64 × Str) => wire_Num_l1 k9 s.1 s.2 = some p1) (Ef := fun (s : UInt64 × Str) => [(3, pt b0 0), (0, vW s.1)]) (Lf := fun (s : UInt64 × Str) => Bld 97 5 b0 s.2 :: F) 11 (a0, []) hp2 ⟨rfl, rfl, trivial⟩ (fun _ h => h) (fun _ h => by cases h) fun k9 s hM11 => ?_
    obtain ⟨n_7, c_8⟩ := s
    have hm10 : wire_Num_l1 (k9 + 1) n_7 c_8 = some p1 := hM11
    rw [wire_Num_l1] at hm10
    refine c_seq ?_
    refine c_seq ?_
    refine c_reg ?_
    refine r_u (o_mv rfl) ?_
    refine r_u (o_bin rfl rfl (bW_ge n_7 128)) ?_
    refine r_nil ?_
    refine x_seq ?_
    refine c_if (b := decide (128 ≤ n_7)) rfl (fun h12 => ?_) fun h12 => ?_
    · have hm13 := ift hm10 h12
      refine c_skip ?_
      refine x_seq ?_
      refine c_seq ?_
      refine c_blk ?_
      refine c_reg ?_
      refine r_u (o_mv rfl) ?_
      refine r_u (o_bin rfl rfl (bW_rem n_7 128 (by decide))) ?_
      refine r_u (o_cv rfl (cWY Try.underlying22 Try.underlying5 (n_7 % 128))) ?_
      refine r_u (o_bin rfl rfl (bY_add ((n_7 % 128).toUInt8) 128)) ?_
      obtain ⟨l14, hl14, hm15⟩ := bs hm13
      refine r_c (s_w (o_call ca68 rfl (bld_WriteByte.ok b0 c_8 (((n_7 % 128).toUInt8) + 128) _ hl14))) ?_
      refine r_nil ?_
      refine x_blk ?_
      refine x_seq ?_
      refine c_reg ?_
      refine r_u (o_mv rfl) ?_
      refine r_u (o_bin rfl rfl (bW_quo n_7 128 (by decide))) ?_
      refine r_u (o_as rfl) ?_
      refine r_nil ?_
      exact x_lp (n_7 / 128, l14) hm15 ⟨rfl, rfl, trivial⟩ (fun _ h => st_pk 1 [0] (by decide) h)
    · have hm13 := iff_ hm10 h12
      refine c_exit (x_exit (ks' := _) rfl ?_)
      obtain rfl := Option.some.inj hm13
      exact x_sub K4 ⟨rfl, rfl, trivial⟩ (fun _ h => st_pk 1 [0] (by decide) h)

def wire_Flag (a0 : Bool) : Str :=
  if a0 then [1] else [0]
theorem wire_Flag.ok {G R F} (a0 : Bool) (r : Str) (hm : wire_Flag a0 = r) : CO Try.prog 48 [vB a0] G R (F)
    (Ret fun u R' L' => u = vS r ∧ R' = R ∧ L' = F) := by
  unfold wire_Flag at hm
  refine co_ofN (N := 4) Try.func48 rfl rfl ?_
  refine c_seq ?_
  refine c_reg ?_
  refine r_u (o_as rfl) ?_
  refine r_nil ?_
  refine x_seq ?_
  refine c_seq ?_
  refine c_seq ?_
  refine c_reg ?_
  refine r_u (o_mv rfl) ?_
  refine r_nil ?_
  refine x_seq ?_
  refine c_if (b := a0) rfl (fun h0 => ?_) fun h0 => ?_
  · have hm1 := ift hm h0
    refine c_seq ?_
    refine c_reg ?_
    refine r_u (o_as rfl) ?_
    refine r_nil ?_
    refine x_seq ?_
    refine c_ret ?_
    subst hm1
    exact x_r1 rfl (rv_t rfl) (Le.refl _) ⟨_, rfl, rfl, rfl, rfl⟩
  · have hm1 := iff_ hm h0
    refine c_skip ?_
    refine x_seq ?_
    refine c_seq ?_
    refine c_reg ?_
    refine r_u (o_as rfl) ?_
    refine r_nil ?_
    refine x_seq ?_
    refine c_ret ?_
    subst hm1
    exact x_r1 rfl (rv_t rfl) (Le.refl _) ⟨_, rfl, rfl, rfl, rfl⟩

def sketch_Sketch_Export_l2 (a0 : sketch_Sketch) : Nat → Str → Int → Option (Str)
  | 0, _, _ => none
  | k22 + 1, out_20, s_21 => if decide (s_21 < (a0.door.length : Int)) then (gi a0.door s_21).bind fun x27 => if out_20.length + (wire_Flag x27).length ≤ maxS then sketch_Sketch_Export_l2 a0 k22 (out_20 ++ (wire_Flag x27)) (i64 (s_21 + 1)) else none else some out_20
def sketch_Sketch_Export_l3 (a0 : sketch_Sketch) : Nat → Str → Int → Option (Str)
  | 0, _, _ => none
  | k33 + 1, out_31, s_32 => if decide (s_32 < 4) then (gi a0.rows s_32).bind fun y38 => if out_31.length + y38.length ≤ maxS then sketch_Sketch_Export_l3 a0 k33 (out_31 ++ y38) (i64 (s_32 + 1)) else none else some out_31
def sketch_Sketch_Export (a0 : sketch_Sketch) : Option Str :=
  (wire_Num (toW a0.wide)).bind fun r2 => (wire_Num a0.seed).bind fun r4 => if r2.length + r4.length ≤ maxS then (wire_Num (toW a0.added)).bind fun r8 => if (r2 ++ r4).length + r8.length ≤ maxS then Option.bind (sketch_Sketch_Export_l3 a0 5 ((r2 ++ r4) ++ r8) 0) fun p12 => Option.bind (sketch_Sketch_Export_l2 a0 (((a0.door.length : Int) - 0).toNat + 1) p12 0) fun p16 => some p16 else none else none
theorem sketch_Sketch_Export.ok {G R F} (b0_ : Nat) (a0 : sketch_Sketch) (g0_ : sketch_Sketch.G) (r : Str) (hm : sketch_Sketch_Export a0 = some r) : CO Try.prog 21 [pt b0_ 0] G R (Bk b0_ 70 [vI a0.wide, vW a0.seed, g0_.rows.1, g0_.rows.2.1, g0_.rows.2.2.1, g0_.rows.2.2.2, g0_.door, vI a0.added] :: OwL (OwS false 5 1 eY) [g0_.rows.1, g0_.rows.2.1, g0_.rows.2.2.1, g0_.rows.2.2.2] a0.rows :: OwS true 4 1 eB g0_.door a0.door :: F)
    (Ret fun u R' L' => u = vS r ∧ R' = R ∧ L' = Bk b0_ 70 [vI a0.wide, vW a0.seed, g0_.rows.1, g0_.rows.2.1, g0_.rows.2.2.1, g0_.rows.2.2.2, g0_.door, vI a0.added] :: OwL (OwS false 5 1 eY) [g0_.rows.1, g0_.rows.2.1, g0_.rows.2.2.1, g0_.rows.2.2.2] a0.rows :: OwS true 4 1 eB g0_.door a0.door :: F) := by
  unfold sketch_Sketch_Export at hm
  refine co_ofN (N := 56) Try.func21 rfl rfl ?_
  refine c_seq ?_
  refine c_reg ?_
  refine r_u (o_as rfl) ?_
  refine r_nil ?_
  refine x_seq ?_
  refine c_seq ?_
  refine c_seq ?_
  refine c_reg ?_
  refine r_u (o_mv rfl) ?_
  refine r_u (o_bin rfl rfl (bP_eqp Try.underlying24)) ?_
  refine r_nil ?_
  refine x_seq ?_
  refine c_ff rfl ?_
  refine c_skip ?_
  refine x_seq ?_
  refine c_seq ?_
  obtain ⟨r2, hr2, hm3⟩ := bs hm
  obtain ⟨r4, hr4, hm5⟩ := bs hm3
  obtain ⟨h6, hm7⟩ := ig hm5
  obtain ⟨r8, hr8, hm9⟩ := bs hm7
  obtain ⟨h10, hm11⟩ := ig hm9
  refine c_any mixed (effs := []) (V := []) ?_
  refine stage_ext [(0, pt b0_ 0), (1, pt b0_ 0), (2, pt b0_ 0), (3, vI a0.wide), (4, vW (toW a0.wide)), (5, vS r2), (6, pt b0_ 0), (7, pt b0_ 0), (8, pt b0_ 1), (9, vW a0.seed), (10, vS r4), (11, vS (r2 ++ r4)), (12, pt b0_ 0), (13, pt b0_ 0), (14, pt b0_ 7), (15, vI a0.added), (16, vW (toW a0.added)), (17, vS r8), (18, vS ((r2 ++ r4) ++ r8)), (19, vS ((r2 ++ r4) ++ r8))] rfl ?_
  refine stage rfl rfl rfl rfl [0, 1, 3, 7, 15, 31, 0, 64, 192, 448, 1023, 2047, 0, 4096, 12288, 28672, 61440, 129023, 262143, 524287] [0, 1, 2, 3, 4, 5, 6, 7, 8, 9, 10, 11, 12, 13, 14, 15, 16, 17, 18, 19] [] rfl rfl rfl (qc rfl rfl (s_u (o_mv rfl)) (qc rfl rfl (s_u (o_nc rfl)) (qc rfl rfl (s_u (o_fa fa70_0 rfl)) (qc rfl rfl (s_u (o_ld 0 sc3 rfl rfl rfl)) (qc rfl rfl (s_u (o_cv rfl (cIW Try.underlying3 Try.underlying22 a0.wide))) (qc rfl rfl (s_u (o_callq ca47 rfl (wire_Num.ok (toW a0.wide) r2 hr2))) (qc rfl rfl (s_u (o_mv rfl)) (qc rfl rfl (s_u (o_nc rfl)) (qc rfl rfl (s_u (o_fa fa70_1 rfl)) (qc rfl rfl (s_u (o_ld 0 sc22 rfl rfl rfl)) (qc rfl rfl (s_u (o_callq ca47 rfl (wire_Num.ok a0.seed r4 hr4))) (qc rfl rfl (s_u (o_bin rfl rfl (bS_add r2 r4 h6))) (qc rfl rfl (s_u (o_mv rfl)) (qc rfl rfl (s_u (o_nc rfl)) (qc rfl rfl (s_u (o_fa fa70_4 rfl)) (qc rfl rfl (s_u (o_ld 0 sc3 rfl rfl rfl)) (qc rfl rfl (s_u (o_cv rfl (cIW Try.underlying3 Try.underlying22 a0.added))) (qc rfl rfl (s_u (o_callq ca47 rfl (wire_Num.ok (toW a0.added) r8 hr8))) (qc rfl rfl (s_u (o_bin rfl rfl (bS_add (r2 ++ r4) r8 h10))) (qc rfl rfl (s_u (o_as rfl)) qn)))))))))))))))))))) en ?_
  intro _
  refine ex_sub (E' := [(0, pt b0_ 0), (3, vS ((r2 ++ r4) ++ r8))]) ⟨rfl, rfl, trivial⟩ ?_
  refine x_seq ?_
  refine c_seq ?_
  refine c_seq ?_
  refine c_reg ?_
  refine r_u (o_mv rfl) ?_
  refine r_u (o_nc rfl) ?_
  refine r_u (o_fa fa70_2 rfl) ?_
  refine r_u (o_ldn 0 [g0_.rows.1, g0_.rows.2.1, g0_.rows.2.2.1, g0_.rows.2.2.2] ag68 rfl rfl rfl rfl) ?_
  refine r_u (o_mv rfl) ?_
  refine r_nil ?_
  refine x_seq ?_
  obtain ⟨p12, hp13, hm14⟩ := bs hm11
  refine cd_join (E' := [(0, pt b0_ 0), (3, vS p12)]) (L' := Bk b0_ 70 [vI a0.wide, vW a0.seed, g0_.rows.1, g0_.rows.2.1, g0_.rows.2.2.1, g0_.rows.2.2.2, g0_.door, vI a0.added] :: OwL (OwS false 5 1 eY) [g0_.rows.1, g0_.rows.2.1, g0_.rows.2.2.1, g0_.rows.2.2.2] a0.rows :: OwS true 4 1 eB g0_.door a0.door :: F) ?_ fun K15 => ?_
  · refine x_seq ?_
    refine c_seq ?_
    refine c_seq ?_
    refine c_reg ?_
    refine r_u (o_mv rfl) ?_
    refine r_u (o_nc rfl) ?_
    refine r_u (o_fa fa70_3 rfl) ?_
    refine r_u (o_ld 0 sc34 rfl rfl rfl) ?_
    refine r_u (o_lenO 2 Try.underlying34 rfl rfl) ?_
    refine r_u (o_mv rfl) ?_
    refine r_nil ?_
    refine x_seq ?_
    obtain ⟨p16, hp17, hm18⟩ := bs hm14
    refine cd_join (E' := [(3, vS p16)]) (L' := Bk b0_ 70 [vI a0.wide, vW a0.seed, g0_.rows.1, g0_.rows.2.1, g0_.rows.2.2.1, g0_.rows.2.2.2, g0_.door, vI a0.added] :: OwL (OwS false 5 1 eY) [g0_.rows.1, g0_.rows.2.1, g0_.rows.2.2.1, g0_.rows.2.2.2] a0.rows :: OwS true 4 1 eB g0_.door a0.door :: F) ?_ fun K19 => ?_
    · refine x_seq ?_
      refine c_seq ?_
      refine c_reg ?_
      refine r_u (o_mv rfl) ?_
      refine r_u (o_as rfl) ?_
      refine r_nil ?_
      refine x_seq ?_
      refine c_ret ?_
      obtain rfl := Option.some.inj hm18
      exact x_r1 rfl (rv_t rfl) (Le.refl _) ⟨_, rfl, rfl, rfl, rfl⟩
    · refine c_blk ?_
      refine cd_loop (M := fun k22 (s : Str × Int) => sketch_Sketch_Export_l2 a0 k22 s.1 s.2 = some p16) (Ef := fun (s : Str × Int) => [(44, g0_.door), (45, vI (a0.door.length : Int)), (3, vS s.1), (46, vI s.2)]) (Lf := fun (s : Str × Int) => Bk b0_ 70 [vI a0.wide, vW a0.seed, g0_.rows.1, g0_.rows.2.1, g0_.rows.2.2.1, g0_.rows.2.2.2, g0_.door, vI a0.added] :: OwL (OwS false 5 1 eY) [g0_.rows.1, g0_.rows.2.1, g0_.rows.2.2.1, g0_.rows.2.2.2] a0.rows :: OwS true 4 1 eB g0_.door a0.door :: F) (((a0.door.length : Int) - 0).toNat + 1) (p12, 0) hp17 ⟨rfl, rfl, rfl, rfl, trivial⟩ (fun _ h => h) (fun _ h => by cases h) fun k22 s hM24 => ?_
      obtain ⟨out_20, s_21⟩ := s
      have hm23 : sketch_Sketch_Export_l2 a0 (k22 + 1) out_20 s_21 = some p16 := hM24
      rw [sketch_Sketch_Export_l2] at hm23
      refine c_seq ?_
      refine c_reg ?_
      refine r_u (o_bin rfl rfl (bI_lt s_21 (a0.door.length : Int))) ?_
      refine r_nil ?_
      refine x_seq ?_
      refine c_seq ?_
      refine c_if (b := decide (s_21 < (a0.door.length : Int))) rfl (fun h25 => ?_) fun h25 => ?_
      · have hm26 := ift hm23 h25
        refine c_skip ?_
        refine x_seq ?_
        refine c_seq ?_
        refine c_blk ?_
        refine c_seq ?_
        refine c_reg ?_
        obtain ⟨x27, hx27, hm28⟩ := bs hm26
        refine r_u (o_ixO 2 Try.underlying34 (fun _ => by kernel_rfl) rfl rfl rfl hx27) ?_
        refine r_u (o_ldO0 2 sc4 rfl rfl hx27 rfl rfl) ?_
        refine r_u (o_as rfl) ?_
        refine r_nil ?_
        refine x_seq ?_
        refine c_reg ?_
        refine r_u (o_mv rfl) ?_
        refine r_u (o_mv rfl) ?_
        refine r_u (o_callq ca48 rfl (wire_Flag.ok x27 _ rfl)) ?_
        obtain ⟨h29, hm30⟩ := ig hm28
        refine r_u (o_bin rfl rfl (bS_add out_20 (wire_Flag x27) h29)) ?_
        refine r_u (o_as rfl) ?_
        refine r_nil ?_
        refine x_blk ?_
        refine x_seq ?_
        refine c_reg ?_
        refine r_u (o_bin rfl rfl (bI_add s_21 1)) ?_
        refine r_u (o_mv rfl) ?_
        refine r_nil ?_
        exact x_lp (out_20 ++ (wire_Flag x27), i64 (s_21 + 1)) hm30 ⟨rfl, rfl, rfl, rfl, trivial⟩ (fun _ h => st_pk 3 [0, 1, 2] (by decide) h)
      · have hm26 := iff_ hm23 h25
        refine c_exit (x_exit (ks' := _) rfl ?_)
        obtain rfl := Option.some.inj hm26
        exact x_sub K19 ⟨rfl, trivial⟩ (fun _ h => st_pk 3 [0, 1, 2] (by decide) h)
  · refine c_blk ?_
    refine cd_loop (M := fun k33 (s : Str × Int) => sketch_Sketch_Export_l3 a0 k33 s.1 s.2 = some p12) (Ef := fun (s : Str × Int) => [(0, pt b0_ 0), (32, .agg [g0_.rows.1, g0_.rows.2.1, g0_.rows.2.2.1, g0_.rows.2.2.2].toArray), (3, vS s.1), (33, vI s.2)]) (Lf := fun (s : Str × Int) => Bk b0_ 70 [vI a0.wide, vW a0.seed, g0_.rows.1, g0_.rows.2.1, g0_.rows.2.2.1, g0_.rows.2.2.2, g0_.door, vI a0.added] :: OwL (OwS false 5 1 eY) [g0_.rows.1, g0_.rows.2.1, g0_.rows.2.2.1, g0_.rows.2.2.2] a0.rows :: OwS true 4 1 eB g0_.door a0.door :: F) 5 ((r2 ++ r4) ++ r8, 0) hp13 ⟨rfl, rfl, rfl, rfl, trivial⟩ (fun _ h => h) (fun _ h => by cases h) fun k33 s hM35 => ?_
    obtain ⟨out_31, s_32⟩ := s
    have hm34 : sketch_Sketch_Export_l3 a0 (k33 + 1) out_31 s_32 = some p12 := hM35
    rw [sketch_Sketch_Export_l3] at hm34
    refine c_seq ?_
    refine c_reg ?_
    refine r_u (o_bin rfl rfl (bI_lt s_32 4)) ?_
    refine r_nil ?_
    refine x_seq ?_
    refine c_seq ?_
    refine c_if (b := decide (s_32 < 4)) rfl (fun h36 => ?_) fun h36 => ?_
    · have hm37 := ift hm34 h36
      refine c_skip ?_
      refine x_seq ?_
      refine c_seq ?_
      refine c_blk ?_
      refine c_seq ?_
      refine c_reg ?_
      obtain ⟨y38, hy38, hm40⟩ := bs hm37
      refine rl_ex (fun w h => st_peek 1 hy38 rfl w h) fun u39 hu39 => ?_
      refine r_u (o_ixG Try.underlying68 (fun _ => by kernel_rfl) sc67.1 rfl rfl rfl hu39) ?_
      refine r_u (o_as rfl) ?_
      refine r_nil ?_
      refine x_seq ?_
      refine c_reg ?_
      refine r_u (o_mv rfl) ?_
      refine r_u (o_mv rfl) ?_
      refine r_u (o_bsK (kn_in 1 rfl hu39 hy38) Try.underlying67 Try.underlying5 Try.underlying9 rfl) ?_
      obtain ⟨h41, hm42⟩ := ig hm40
      refine r_u (o_bin rfl rfl (bS_add out_31 y38 h41)) ?_
      refine r_u (o_as rfl) ?_
      refine r_nil ?_
      refine x_blk ?_
      refine x_seq ?_
      refine c_reg ?_
      refine r_u (o_bin rfl rfl (bI_add s_32 1)) ?_
      refine r_u (o_mv rfl) ?_
      refine r_nil ?_
      exact x_lp (out_31 ++ y38, i64 (s_32 + 1)) hm42 ⟨rfl, rfl, rfl, rfl, trivial⟩ (fun _ h => st_pk 3 [0, 1, 2] (by decide) h)
    · have hm37 := iff_ hm34 h36
      refine c_exit (x_exit (ks' := _) rfl ?_)
      obtain rfl := Option.some.inj hm37
      exact x_sub K15 ⟨rfl, rfl, trivial⟩ (fun _ h => st_pk 3 [0, 1, 2] (by decide) h)

def hawthornref03_Num_l1  : Nat → UInt64 → Str → Option (UInt64 × Str)
  | 0, _, _ => none
  | k9 + 1, n_7, s_8 => if decide (127 < n_7) then if s_8.length + [(128 + (n_7 % 128)).toUInt8].length ≤ maxS then hawthornref03_Num_l1 k9 (n_7 / 128) (s_8 ++ [(128 + (n_7 % 128)).toUInt8]) else none else some (n_7, s_8)
def hawthornref03_Num (a0 : UInt64) : Option Str :=
  Option.bind (hawthornref03_Num_l1 11 a0 []) fun p0 => if p0.2.length + [p0.1.toUInt8].length ≤ maxS then some (p0.2 ++ [p0.1.toUInt8]) else none
theorem hawthornref03_Num.ok {G R F} (a0 : UInt64) (r : Str) (hm : hawthornref03_Num a0 = some r) : CO Try.prog 49 [vW a0] G R (F)
    (Ret fun u R' L' => u = vS r ∧ R' = R ∧ L' = F) := by
  unfold hawthornref03_Num at hm
  refine co_ofN (N := 22) Try.func49 rfl rfl ?_
  refine c_seq ?_
  refine c_reg ?_
  refine r_u (o_as rfl) ?_
  refine r_nil ?_
  refine x_seq ?_
  refine c_seq ?_
  refine c_reg ?_
  refine r_u (o_as rfl) ?_
  refine r_nil ?_
  refine x_seq ?_
  refine c_seq ?_
  obtain ⟨p0, hp1, hm2⟩ := bs hm
  refine cd_join (E' := [(0, vW p0.1), (3, vS p0.2)]) (L' := F) ?_ fun K3 => ?_
  · refine x_seq ?_
    refine c_seq ?_
    refine c_reg ?_
    refine r_u (o_mv rfl) ?_
    refine r_u (o_mv rfl) ?_
    refine r_u (o_cv rfl (cWY Try.underlying22 Try.underlying5 p0.1)) ?_
    refine r_sw (s_w (o_bsl (en := eY) (sz := 1) (e := 5) (cs := [vY p0.1.toUInt8]) (r := [p0.1.toUInt8]) rfl (fun _ => by kernel_rfl) rfl (by decide) rfl (fun _ => rfl))) ?_
    rintro v4 R _ _ ⟨rfl, rfl⟩
    refine r_u (o_bs 0 Try.underlying67 Try.underlying5 Try.underlying9 rfl rfl) ?_
    obtain ⟨h5, hm6⟩ := ig hm2
    refine r_u (o_bin rfl rfl (bS_add p0.2 [p0.1.toUInt8] h5)) ?_
    refine r_u (o_as rfl) ?_
    refine r_nil ?_
    refine x_seq ?_
    refine c_ret ?_
    obtain rfl := Option.some.inj hm6
    refine ex_st (fun _ h => st_pk 1 [] (by decide) h) ?_
    exact x_r1 rfl (rv_t rfl) (Le.refl _) ⟨_, rfl, rfl, rfl, rfl⟩
  · refine c_blk ?_
    refine cd_loop (M := fun k9 (s : UInt64 × Str) => hawthornref03_Num_l1 k9 s.1 s.2 = some p0) (Ef := fun (s : UInt64 × Str) => [(0, vW s.1), (3, vS s.2)]) (Lf := fun (s : UInt64 × Str) => F) 11 (a0, []) hp1 ⟨rfl, rfl, trivial⟩ (fun _ h => h) (fun _ h => by cases h) fun k9 s hM11 => ?_
    obtain ⟨n_7, s_8⟩ := s
    have hm10 : hawthornref03_Num_l1 (k9 + 1) n_7 s_8 = some p0 := hM11
    rw [hawthornref03_Num_l1] at hm10
    refine c_seq ?_
    refine c_seq ?_
    refine c_reg ?_
    refine r_u (o_mv rfl) ?_
    refine r_u (o_bin rfl rfl (bW_gt n_7 127)) ?_
    refine r_nil ?_
    refine x_seq ?_
    refine c_if (b := decide (127 < n_7)) rfl (fun h12 => ?_) fun h12 => ?_
    · have hm13 := ift hm10 h12
      refine c_skip ?_
      refine x_seq ?_
      refine c_blk ?_
      refine c_seq ?_
      refine c_reg ?_
      refine r_u (o_mv rfl) ?_
      refine r_u (o_mv rfl) ?_
      refine r_u (o_bin rfl rfl (bW_rem n_7 128 (by decide))) ?_
      refine r_u (o_bin rfl rfl (bW_add 128 (n_7 % 128))) ?_
      refine r_u (o_cv rfl (cWY Try.underlying22 Try.underlying5 (128 + (n_7 % 128)))) ?_
      refine r_sw (s_w (o_bsl (en := eY) (sz := 1) (e := 5) (cs := [vY ((128 + (n_7 % 128)).toUInt8)]) (r := [(128 + (n_7 % 128)).toUInt8]) rfl (fun _ => by kernel_rfl) rfl (by decide) rfl (fun _ => rfl))) ?_
      rintro v14 R _ _ ⟨rfl, rfl⟩
      refine r_u (o_bs 0 Try.underlying67 Try.underlying5 Try.underlying9 rfl rfl) ?_
      obtain ⟨h15, hm16⟩ := ig hm13
      refine r_u (o_bin rfl rfl (bS_add s_8 [(128 + (n_7 % 128)).toUInt8] h15)) ?_
      refine r_u (o_as rfl) ?_
      refine r_nil ?_
      refine x_seq ?_
      refine c_reg ?_
      refine r_u (o_mv rfl) ?_
      refine r_u (o_bin rfl rfl (bW_quo n_7 128 (by decide))) ?_
      refine r_u (o_as rfl) ?_
      refine r_nil ?_
      refine x_blk ?_
      exact x_lp (n_7 / 128, s_8 ++ [(128 + (n_7 % 128)).toUInt8]) hm16 ⟨rfl, rfl, trivial⟩ (fun _ h => st_pk 1 [] (by decide) h)
    · have hm13 := iff_ hm10 h12
      refine c_exit (x_exit (ks' := _) rfl ?_)
      obtain rfl := Option.some.inj hm13
      exact x_sub K3 ⟨rfl, rfl, trivial⟩ (fun _ h => st_pk 0 [] (by decide) h)

def hawthornref03_Flag (a0 : Bool) : Str :=
  if a0 then [1] else [0]
theorem hawthornref03_Flag.ok {G R F} (a0 : Bool) (r : Str) (hm : hawthornref03_Flag a0 = r) : CO Try.prog 50 [vB a0] G R (F)
    (Ret fun u R' L' => u = vS r ∧ R' = R ∧ L' = F) := by
  unfold hawthornref03_Flag at hm
  refine co_ofN (N := 4) Try.func50 rfl rfl ?_
  refine c_seq ?_
  refine c_reg ?_
  refine r_u (o_as rfl) ?_
  refine r_nil ?_
  refine x_seq ?_
  refine c_seq ?_
  refine c_seq ?_
  refine c_reg ?_
  refine r_u (o_mv rfl) ?_
  refine r_nil ?_
  refine x_seq ?_
  refine c_if (b := a0) rfl (fun h0 => ?_) fun h0 => ?_
  · have hm1 := ift hm h0
    refine c_seq ?_
    refine c_reg ?_
    refine r_u (o_as rfl) ?_
    refine r_nil ?_
    refine x_seq ?_
    refine c_ret ?_
    subst hm1
    exact x_r1 rfl (rv_t rfl) (Le.refl _) ⟨_, rfl, rfl, rfl, rfl⟩
  · have hm1 := iff_ hm h0
    refine c_skip ?_
    refine x_seq ?_
    refine c_seq ?_
    refine c_reg ?_
    refine r_u (o_as rfl) ?_
    refine r_nil ?_
    refine x_seq ?_
    refine c_ret ?_
    subst hm1
    exact x_r1 rfl (rv_t rfl) (Le.refl _) ⟨_, rfl, rfl, rfl, rfl⟩

def hawthornref05_Sketch_Put_l14 (a0 : hawthornref05_Sketch) : Nat → Str → Int → Option (Str)
  | 0, _, _ => none
  | k21 + 1, out_19, k_20 => if decide (k_20 < a0.Wide) then (gi a0.Door k_20).bind fun x26 => if out_19.length + (hawthornref03_Flag x26).length ≤ maxS then hawthornref05_Sketch_Put_l14 a0 k21 (out_19 ++ (hawthornref03_Flag x26)) (i64 (k_20 + 1)) else none else some out_19
def hawthornref05_Sketch_Put_l27 (a0 : hawthornref05_Sketch) (i_31 : Int) : Nat → Str → Int → Option (Str)
  | 0, _, _ => none
  | k47 + 1, out_45, k_46 => if decide (k_46 < a0.Wide) then (gi a0.Rows i_31).bind fun x52 => (gi x52 k_46).bind fun x55 => if out_45.length + [toY x55].length ≤ maxS then hawthornref05_Sketch_Put_l27 a0 i_31 k47 (out_45 ++ [toY x55]) (i64 (k_46 + 1)) else none else some out_45
def hawthornref05_Sketch_Put_l23 (a0 : hawthornref05_Sketch) : Nat → Str → Int → Option (Str)
  | 0, _, _ => none
  | k32 + 1, out_30, i_31 => if decide (i_31 < 4) then Option.bind (Option.bind (hawthornref05_Sketch_Put_l27 a0 i_31 ((a0.Wide - 0).toNat + 1) out_30 0) fun p41 => some p41) fun p37 => hawthornref05_Sketch_Put_l23 a0 k32 p37 (i64 (i_31 + 1)) else some out_30
def hawthornref05_Sketch_Put (a0 : hawthornref05_Sketch) : Option Str :=
  (hawthornref03_Num (toW a0.Wide)).bind fun r1 => (hawthornref03_Num a0.Seed).bind fun r3 => if r1.length + r3.length ≤ maxS then (hawthornref03_Num (toW a0.Added)).bind fun r7 => if (r1 ++ r3).length + r7.length ≤ maxS then Option.bind (hawthornref05_Sketch_Put_l23 a0 5 ((r1 ++ r3) ++ r7) 0) fun p11 => Option.bind (hawthornref05_Sketch_Put_l14 a0 ((a0.Wide - 0).toNat + 1) p11 0) fun p15 => some p15 else none else none
theorem hawthornref05_Sketch_Put.ok {G R F} (a0 : hawthornref05_Sketch) (g0_ : hawthornref05_Sketch.G) (h0 : hawthornref05_Sketch.ro R a0 g0_) (r : Str) (hm : hawthornref05_Sketch_Put a0 = some r) : CO Try.prog 22 [.agg [vI a0.Wide, vW a0.Seed, g0_.Rows.1, g0_.Door, vI a0.Added].toArray] G R (F)
    (Ret fun u R' L' => u = vS r ∧ R' = R ∧ L' = F) := by
  unfold hawthornref05_Sketch_Put at hm
  refine co_ofN (N := 58) Try.func22 rfl rfl ?_
  refine c_seq ?_
  refine c_reg ?_
  refine r_new (o_bx [vI a0.Wide, vW a0.Seed, g0_.Rows.1, g0_.Door, vI a0.Added] rfl rfl) fun b0 => ?_
  refine r_u (o_as rfl) ?_
  refine r_nil ?_
  refine x_seq ?_
  refine c_seq ?_
  obtain ⟨r1, hr1, hm2⟩ := bs hm
  obtain ⟨r3, hr3, hm4⟩ := bs hm2
  obtain ⟨h5, hm6⟩ := ig hm4
  obtain ⟨r7, hr7, hm8⟩ := bs hm6
  obtain ⟨h9, hm10⟩ := ig hm8
  refine c_any mixed (effs := []) (V := []) ?_
  refine stage_ext [(0, pt b0 0), (1, vI a0.Wide), (2, vW (toW a0.Wide)), (3, vS r1), (4, pt b0 1), (5, vW a0.Seed), (6, vS r3), (7, vS (r1 ++ r3)), (8, pt b0 4), (9, vI a0.Added), (10, vW (toW a0.Added)), (11, vS r7), (12, vS ((r1 ++ r3) ++ r7)), (13, vS ((r1 ++ r3) ++ r7))] rfl ?_
  refine stage rfl rfl rfl rfl [0, 1, 3, 7, 0, 16, 63, 127, 0, 256, 768, 1919, 4095, 8191] [0, 1, 2, 3, 4, 5, 6, 7, 8, 9, 10, 11, 12, 13] [] rfl rfl rfl (qc rfl rfl (s_u (o_fa fa36_0 rfl)) (qc rfl rfl (s_u (o_ld 0 sc3 rfl rfl rfl)) (qc rfl rfl (s_u (o_cv rfl (cIW Try.underlying3 Try.underlying22 a0.Wide))) (qc rfl rfl (s_u (o_callq ca49 rfl (hawthornref03_Num.ok (toW a0.Wide) r1 hr1))) (qc rfl rfl (s_u (o_fa fa36_1 rfl)) (qc rfl rfl (s_u (o_ld 0 sc22 rfl rfl rfl)) (qc rfl rfl (s_u (o_callq ca49 rfl (hawthornref03_Num.ok a0.Seed r3 hr3))) (qc rfl rfl (s_u (o_bin rfl rfl (bS_add r1 r3 h5))) (qc rfl rfl (s_u (o_fa fa36_4 rfl)) (qc rfl rfl (s_u (o_ld 0 sc3 rfl rfl rfl)) (qc rfl rfl (s_u (o_cv rfl (cIW Try.underlying3 Try.underlying22 a0.Added))) (qc rfl rfl (s_u (o_callq ca49 rfl (hawthornref03_Num.ok (toW a0.Added) r7 hr7))) (qc rfl rfl (s_u (o_bin rfl rfl (bS_add (r1 ++ r3) r7 h9))) (qc rfl rfl (s_u (o_as rfl)) qn)))))))))))))) en ?_
  intro _
  refine ex_sub (E' := [(1, pt b0 0), (3, vS ((r1 ++ r3) ++ r7))]) ⟨rfl, rfl, trivial⟩ ?_
  refine x_seq ?_
  refine c_seq ?_
  refine c_seq ?_
  refine c_reg ?_
  refine r_u (o_as rfl) ?_
  refine r_nil ?_
  refine x_seq ?_
  obtain ⟨p11, hp12, hm13⟩ := bs hm10
  refine cd_join (E' := [(1, pt b0 0), (3, vS p11)]) (L' := Bk b0 36 [vI a0.Wide, vW a0.Seed, g0_.Rows.1, g0_.Door, vI a0.Added] :: F) ?_ fun K14 => ?_
  · refine x_seq ?_
    refine c_seq ?_
    refine c_seq ?_
    refine c_reg ?_
    refine r_u (o_as rfl) ?_
    refine r_nil ?_
    refine x_seq ?_
    obtain ⟨p15, hp16, hm17⟩ := bs hm13
    refine cd_join (E' := [(3, vS p15)]) (L' := Bk b0 36 [vI a0.Wide, vW a0.Seed, g0_.Rows.1, g0_.Door, vI a0.Added] :: F) ?_ fun K18 => ?_
    · refine x_seq ?_
      refine c_seq ?_
      refine c_reg ?_
      refine r_u (o_mv rfl) ?_
      refine r_u (o_as rfl) ?_
      refine r_nil ?_
      refine x_seq ?_
      refine c_ret ?_
      obtain rfl := Option.some.inj hm17
      refine ex_st (fun _ h => st_pk 1 [] (by decide) h) ?_
      exact x_r1 rfl (rv_t rfl) (Le.refl _) ⟨_, rfl, rfl, rfl, rfl⟩
    · refine c_blk ?_
      refine cd_loop (M := fun k21 (s : Str × Int) => hawthornref05_Sketch_Put_l14 a0 k21 s.1 s.2 = some p15) (Ef := fun (s : Str × Int) => [(1, pt b0 0), (3, vS s.1), (6, vI s.2)]) (Lf := fun (s : Str × Int) => Bk b0 36 [vI a0.Wide, vW a0.Seed, g0_.Rows.1, g0_.Door, vI a0.Added] :: F) ((a0.Wide - 0).toNat + 1) (p11, 0) hp16 ⟨rfl, rfl, rfl, trivial⟩ (fun _ h => h) (fun _ h => by cases h) fun k21 s hM23 => ?_
      obtain ⟨out_19, k_20⟩ := s
      have hm22 : hawthornref05_Sketch_Put_l14 a0 (k21 + 1) out_19 k_20 = some p15 := hM23
      rw [hawthornref05_Sketch_Put_l14] at hm22
      refine c_seq ?_
      refine c_seq ?_
      refine c_reg ?_
      refine r_u (o_mv rfl) ?_
      refine r_u (o_fa fa36_0 rfl) ?_
      refine r_u (o_ld 0 sc3 rfl rfl rfl) ?_
      refine r_u (o_bin rfl rfl (bI_lt k_20 a0.Wide)) ?_
      refine r_nil ?_
      refine x_seq ?_
      refine c_if (b := decide (k_20 < a0.Wide)) rfl (fun h24 => ?_) fun h24 => ?_
      · have hm25 := ift hm22 h24
        refine c_skip ?_
        refine x_seq ?_
        refine c_seq ?_
        refine c_blk ?_
        refine c_reg ?_
        refine r_u (o_mv rfl) ?_
        refine r_u (o_fa fa36_3 rfl) ?_
        refine r_u (o_ld 0 sc34 rfl rfl rfl) ?_
        refine r_u (o_mv rfl) ?_
        obtain ⟨x26, hx26, hm27⟩ := bs hm25
        obtain ⟨b26, o26, l26, T26, fr26, c26, hv26, hR26, he26, hi26⟩ := RoS.ne h0.2 hx26
        refine r_u (o_ix (sz := 1) Try.underlying34 (fun _ => by kernel_rfl) rfl rfl hv26 hi26) ?_
        refine r_u (o_ldR sc4 rfl hR26 (rok 0 he26 (by decide))) ?_
        refine r_u (o_callq ca50 rfl (hawthornref03_Flag.ok x26 _ rfl)) ?_
        obtain ⟨h28, hm29⟩ := ig hm27
        refine r_u (o_bin rfl rfl (bS_add out_19 (hawthornref03_Flag x26) h28)) ?_
        refine r_u (o_as rfl) ?_
        refine r_nil ?_
        refine x_blk ?_
        refine x_seq ?_
        refine c_reg ?_
        refine r_u (o_mv rfl) ?_
        refine r_u (o_bin rfl rfl (bI_add k_20 1)) ?_
        refine r_u (o_as rfl) ?_
        refine r_nil ?_
        exact x_lp (out_19 ++ (hawthornref03_Flag x26), i64 (k_20 + 1)) hm29 ⟨rfl, rfl, rfl, trivial⟩ (fun _ h => st_pk 1 [0] (by decide) h)
      · have hm25 := iff_ hm22 h24
        refine c_exit (x_exit (ks' := _) rfl ?_)
        obtain rfl := Option.some.inj hm25
        exact x_sub K18 ⟨rfl, trivial⟩ (fun _ h => st_pk 1 [0] (by decide) h)
  · refine c_blk ?_
    refine cd_loop (M := fun k32 (s : Str × Int) => hawthornref05_Sketch_Put_l23 a0 k32 s.1 s.2 = some p11) (Ef := fun (s : Str × Int) => [(1, pt b0 0), (3, vS s.1), (4, vI s.2)]) (Lf := fun (s : Str × Int) => Bk b0 36 [vI a0.Wide, vW a0.Seed, g0_.Rows.1, g0_.Door, vI a0.Added] :: F) 5 ((r1 ++ r3) ++ r7, 0) hp12 ⟨rfl, rfl, rfl, trivial⟩ (fun _ h => h) (fun _ h => by cases h) fun k32 s hM34 => ?_
    obtain ⟨out_30, i_31⟩ := s
    have hm33 : hawthornref05_Sketch_Put_l23 a0 (k32 + 1) out_30 i_31 = some p11 := hM34
    rw [hawthornref05_Sketch_Put_l23] at hm33
    refine c_seq ?_
    refine c_seq ?_
    refine c_reg ?_
    refine r_u (o_mv rfl) ?_
    refine r_u (o_bin rfl rfl (bI_lt i_31 4)) ?_
    refine r_nil ?_
    refine x_seq ?_
    refine c_if (b := decide (i_31 < 4)) rfl (fun h35 => ?_) fun h35 => ?_
    · have hm36 := ift hm33 h35
      refine c_skip ?_
      refine x_seq ?_
      refine c_seq ?_
      obtain ⟨p37, hp38, hm39⟩ := bs hm36
      refine cd_join (E' := [(1, pt b0 0), (4, vI i_31), (3, vS p37)]) (L' := Bk b0 36 [vI a0.Wide, vW a0.Seed, g0_.Rows.1, g0_.Door, vI a0.Added] :: F) ?_ fun K40 => ?_
      · refine x_seq ?_
        refine c_reg ?_
        refine r_u (o_mv rfl) ?_
        refine r_u (o_bin rfl rfl (bI_add i_31 1)) ?_
        refine r_u (o_as rfl) ?_
        refine r_nil ?_
        exact x_lp (p37, i64 (i_31 + 1)) hm39 ⟨rfl, rfl, rfl, trivial⟩ (fun _ h => st_pk 1 [0] (by decide) h)
      · refine c_blk ?_
        refine c_seq ?_
        refine c_reg ?_
        refine r_u (o_as rfl) ?_
        refine r_nil ?_
        refine x_seq ?_
        obtain ⟨p41, hp42, hm43⟩ := bs hp38
        refine cd_join (E' := [(1, pt b0 0), (4, vI i_31), (3, vS p41)]) (L' := Bk b0 36 [vI a0.Wide, vW a0.Seed, g0_.Rows.1, g0_.Door, vI a0.Added] :: F) ?_ fun K44 => ?_
        · refine x_blk ?_
          obtain rfl := Option.some.inj hm43
          exact x_sub K40 ⟨rfl, rfl, rfl, trivial⟩ (fun _ h => st_pk 1 [0] (by decide) h)
        · refine c_blk ?_
          refine cd_loop (M := fun k47 (s : Str × Int) => hawthornref05_Sketch_Put_l27 a0 i_31 k47 s.1 s.2 = some p41) (Ef := fun (s : Str × Int) => [(1, pt b0 0), (4, vI i_31), (3, vS s.1), (5, vI s.2)]) (Lf := fun (s : Str × Int) => Bk b0 36 [vI a0.Wide, vW a0.Seed, g0_.Rows.1, g0_.Door, vI a0.Added] :: F) ((a0.Wide - 0).toNat + 1) (out_30, 0) hp42 ⟨rfl, rfl, rfl, rfl, trivial⟩ (fun _ h => h) (fun _ h => by cases h) fun k47 s hM49 => ?_
          obtain ⟨out_45, k_46⟩ := s
          have hm48 : hawthornref05_Sketch_Put_l27 a0 i_31 (k47 + 1) out_45 k_46 = some p41 := hM49
          rw [hawthornref05_Sketch_Put_l27] at hm48
          refine c_seq ?_
          refine c_seq ?_
          refine c_reg ?_
          refine r_u (o_mv rfl) ?_
          refine r_u (o_fa fa36_0 rfl) ?_
          refine r_u (o_ld 0 sc3 rfl rfl rfl) ?_
          refine r_u (o_bin rfl rfl (bI_lt k_46 a0.Wide)) ?_
          refine r_nil ?_
          refine x_seq ?_
          refine c_if (b := decide (k_46 < a0.Wide)) rfl (fun h50 => ?_) fun h50 => ?_
          · have hm51 := ift hm48 h50
            refine c_skip ?_
            refine x_seq ?_
            refine c_seq ?_
            refine c_blk ?_
            refine c_reg ?_
            refine r_u (o_mv rfl) ?_
            refine r_u (o_fa fa36_2 rfl) ?_
            refine r_u (o_ld 0 sc33 rfl rfl rfl) ?_
            refine r_u (o_mv rfl) ?_
            obtain ⟨x52, hx52, hm54⟩ := bs hm51
            obtain ⟨b52, o52, l52, T52, fr52, c52, u53, hv52, hR52, he52, hi52, hN52⟩ := RoN.ne h0.1 hx52
            refine r_u (o_ix (sz := 1) Try.underlying33 (fun _ => by kernel_rfl) rfl rfl hv52 hi52) ?_
            refine r_u (o_ldR sc74 rfl hR52 (rok 0 he52 (by decide))) ?_
            refine r_u (o_mv rfl) ?_
            obtain ⟨x55, hx55, hm56⟩ := bs hm54
            obtain ⟨b55, o55, l55, T55, fr55, c55, hv55, hR55, he55, hi55⟩ := RoS.ne hN52 hx55
            refine r_u (o_ix (sz := 1) Try.underlying74 (fun _ => by kernel_rfl) rfl rfl hv55 hi55) ?_
            refine r_u (o_ldR sc3 rfl hR55 (rok 0 he55 (by decide))) ?_
            refine r_u (o_cv rfl (cIY Try.underlying3 Try.underlying5 x55)) ?_
            refine r_sw (s_w (o_bsl (en := eY) (sz := 1) (e := 5) (cs := [vY (toY x55)]) (r := [toY x55]) rfl (fun _ => by kernel_rfl) rfl (by decide) rfl (fun _ => rfl))) ?_
            rintro v57 R _ _ ⟨rfl, rfl⟩
            refine r_u (o_bs 0 Try.underlying67 Try.underlying5 Try.underlying9 rfl rfl) ?_
            obtain ⟨h58, hm59⟩ := ig hm56
            refine r_u (o_bin rfl rfl (bS_add out_45 [toY x55] h58)) ?_
            refine r_u (o_as rfl) ?_
            refine r_nil ?_
            refine x_blk ?_
            refine x_seq ?_
            refine c_reg ?_
            refine r_u (o_mv rfl) ?_
            refine r_u (o_bin rfl rfl (bI_add k_46 1)) ?_
            refine r_u (o_as rfl) ?_
            refine r_nil ?_
            exact x_lp (out_45 ++ [toY x55], i64 (k_46 + 1)) hm59 ⟨rfl, rfl, rfl, rfl, trivial⟩ (fun _ h => st_pk 2 [1] (by decide) h)
          · have hm51 := iff_ hm48 h50
            refine c_exit (x_exit (ks' := _) rfl ?_)
            obtain rfl := Option.some.inj hm51
            exact x_sub K44 ⟨rfl, rfl, rfl, trivial⟩ (fun _ h => st_pk 1 [0] (by decide) h)
    · have hm36 := iff_ hm33 h35
      refine c_exit (x_exit (ks' := _) rfl ?_)
      obtain rfl := Option.some.inj hm36
      exact x_sub K14 ⟨rfl, rfl, trivial⟩ (fun _ h => st_pk 1 [0] (by decide) h)

def hawthornlaw05_SketchAdds_l1 (a2 : List Str) : Nat → (Option sketch_Sketch) → Int → hawthornref05_Sketch → Option ((Option sketch_Sketch × hawthornref05_Sketch) ⊕ Bool)
  | 0, _, _, _ => none
  | k49 + 1, s_37, i_38, c_39 => if (decide (i_38 < (a2.length : Int)) && decide (i_38 < 200)) then (gi a2 i_38).bind fun x62 => (hawthornlaw05_few x62).bind fun r64 => om s_37 (none) fun x66 => (sketch_Sketch_Seen x66 r64).bind fun r72 => (hawthornref05_Sketch_Seen c_39 r64).bind fun r74 => if (r72 != r74) then some (Sum.inr false) else (sketch_Sketch_Add x66 r64).bind fun r78 => (hawthornref05_Sketch_Add c_39 r64).bind fun r80 => (sketch_Sketch_Seen r78 r64).bind fun r95 => (hawthornref05_Sketch_Seen r80 r64).bind fun r97 => Option.bind (if (r95 != r97) then some true else some ((sketch_Sketch_Added r78) != r80.Added)) fun p99 => if p99 then some (Sum.inr false) else hawthornlaw05_SketchAdds_l1 a2 k49 (some r78) (i64 (i_38 + 1)) r80 else some (Sum.inl (s_37, c_39))
def hawthornlaw05_SketchAdds (a0 : Int) (a1 : UInt64) (a2 : List Str) : Option Bool :=
  (hawthornlaw05_both a0 a1).bind fun r0 => (hawthornlaw05_awake).bind fun r9 => if (!r9 || !r0.2.2) then some false else Option.bind (hawthornlaw05_SketchAdds_l1 a2 (((a2.length : Int) - 0).toNat + 1) r0.1 0 r0.2.1) fun (p13 : (Option sketch_Sketch × hawthornref05_Sketch) ⊕ Bool) => (match p13 with | Sum.inl q14 => om q14.1 (none) fun x27 => (sketch_Sketch_Export x27).bind fun r33 => (hawthornref05_Sketch_Put q14.2).bind fun r35 => some (r33 == r35) | Sum.inr r => some r)
theorem hawthornlaw05_SketchAdds.ok {G R F} (a0 : Int) (a1 : UInt64) (v2 : Value) (a2 : List Str) (h2 : RoS R v2 1 (fun x => [vS x]) a2) (r : Bool) (hm : hawthornlaw05_SketchAdds a0 a1 a2 = some r) : CO Try.prog 4 [vI a0, vW a1, v2] G R (F)
    (Ret fun u R' L' => u = vB r ∧ True ∧ L' = F) := by
  unfold hawthornlaw05_SketchAdds at hm
  refine co_ofN (N := 72) Try.func4 rfl rfl ?_
  refine c_seq ?_
  refine c_reg ?_
  refine r_u (o_as rfl) ?_
  refine r_nil ?_
  refine x_seq ?_
  refine c_seq ?_
  refine c_reg ?_
  refine r_u (o_mv rfl) ?_
  refine r_u (o_mv rfl) ?_
  obtain ⟨r0, hr0, hm7⟩ := bs hm
  refine r_sw (s_w (o_call ca17 rfl (hawthornlaw05_both.ok a0 a1 r0 hr0))) ?_
  rintro _ R _ _ ⟨⟨pv2, g3⟩, v4, rfl, rfl, rfl⟩
  refine r_u (o_mv rfl) ?_
  refine r_u (o_ext rfl rfl) ?_
  refine r_u (o_ext rfl rfl) ?_
  refine r_u (o_ext rfl rfl) ?_
  refine r_new (o_al ze36) fun b8 => ?_
  refine r_u (o_as rfl) ?_
  refine rl_st (fun _ h => st_pk 5 [0, 2, 4, 1, 3] (by decide) h) ?_
  refine r_u0 (ou_if (one_o 1 rfl) fun ho0 => ou_if (one_o 2 rfl) fun ho1 => o_stn ag36 rfl rfl rfl (al_c rfl (al_c rfl (al_c ho0 (al_c ho1 (al_c rfl al_n))))) rfl rfl rfl) ?_
  refine r_u (o_as rfl) ?_
  refine r_nil ?_
  refine x_seq ?_
  refine c_seq ?_
  refine c_seq ?_
  refine c_reg ?_
  obtain ⟨r9, hr9, hm10⟩ := bs hm7
  refine r_u (o_callq ca13 rfl (hawthornlaw05_awake.ok r9 hr9)) ?_
  refine r_u (o_not rfl) ?_
  refine r_u (o_mv rfl) ?_
  refine r_s (s_gf rfl rfl fun g => o_mv rfl) ?_
  refine r_s (s_gf rfl rfl fun g => o_not (evg rfl g)) ?_
  refine r_u (o_or rfl rfl) ?_
  refine r_nil ?_
  refine x_seq ?_
  refine c_if (b := (!r9 || !r0.2.2)) rfl (fun h11 => ?_) fun h11 => ?_
  · have hm12 := ift hm10 h11
    refine c_seq ?_
    refine c_reg ?_
    refine r_u (o_as rfl) ?_
    refine r_nil ?_
    refine x_seq ?_
    refine c_ret ?_
    obtain rfl := Option.some.inj hm12
    refine ex_st (fun _ h => st_pk 5 [] (by decide) h) ?_
    exact x_r1 rfl (rv_t rfl) (Le.refl _) ⟨_, rfl, rfl, trivial, rfl⟩
  · have hm12 := iff_ hm10 h11
    refine c_skip ?_
    refine x_seq ?_
    refine c_seq ?_
    refine c_seq ?_
    refine c_reg ?_
    refine r_u (o_as rfl) ?_
    refine r_nil ?_
    refine x_seq ?_
    obtain ⟨p13, hp24, hm25⟩ := bs hm12
    refine cd_cut (fun x ks => ∀ (q14 : Option sketch_Sketch × hawthornref05_Sketch), ∀ (_ : p13 = Sum.inl q14), ∀ (R15 : PH), ∀ (le16 : Le R R15), ∀ (pv17 : Value × sketch_Sketch.G), ∀ (g21 : hawthornref05_Sketch.G), ∀ (hf20 : hawthornref05_Sketch.ro R15 q14.2 g21), EX x .normal ks [(8, pt b8 0), (7, pv17.1)] R15 (Bk b8 36 [vI q14.2.Wide, vW q14.2.Seed, g21.Rows.1, g21.Door, vI q14.2.Added] :: rO (sketch_Sketch.op pv17.2) pv17.1 q14.1 :: F)) ?_ fun K26 => ?_
    · intro q14 hq R15 le16 pv17 g21 hf20
      subst hq
      try dsimp only at hm25
      obtain ⟨pv18, g19⟩ := pv17
      refine x_seq ?_
      refine c_seq ?_
      refine cd_st (fun _ h => st_pk 2 [1, 0] (by decide) h) ?_
      refine cd_opt (fun ho29 => ?_) (fun x27 b28 ho29 => ?_)
      · rintro rfl
        have hm30 := om_n hm25 ho29
        cases hm30
      · rintro rfl
        have hm30 := om_s hm25 ho29
        refine cd_st (fun _ h => st_star_o h) ?_
        obtain ⟨r33, hr33, hm34⟩ := bs hm30
        obtain ⟨r35, hr35, hm36⟩ := bs hm34
        refine c_any mixed (effs := [1]) (V := []) ?_
        refine stage_ext [(0, pt b28 0), (2, .agg [vI q14.2.Wide, vW q14.2.Seed, g21.Rows.1, g21.Door, vI q14.2.Added].toArray)] rfl ?_
        refine stage rfl rfl rfl rfl [0, 1, 0, 7, 15, 31] [0, 2] [1] rfl rfl rfl (qc rfl rfl (s_u (o_mv rfl)) (qc rfl rfl (s_u (o_ldn 3 [vI q14.2.Wide, vW q14.2.Seed, g21.Rows.1, g21.Door, vI q14.2.Added] ag36 rfl rfl rfl rfl)) qn)) ?_ (fun h => absurd h (by decide))
        refine ec (eo_c rfl (s_w (o_call ca21 rfl (sketch_Sketch_Export.ok b28 x27 g19 r33 hr33))) ?_) en
        refine stage_ext [(3, vS r35), (4, vB (r33 == r35)), (5, vB (r33 == r35))] rfl ?_
        refine stage rfl rfl rfl rfl [0, 1, 0, 7, 15, 31] [2, 3, 4, 5] [] rfl rfl rfl (qc rfl rfl (s_u (o_ldn 3 [vI q14.2.Wide, vW q14.2.Seed, g21.Rows.1, g21.Door, vI q14.2.Added] ag36 rfl rfl rfl rfl)) (qc rfl rfl (s_u (o_callq ca22 rfl (hawthornref05_Sketch_Put.ok q14.2 (⟨(g21.Rows.1, []), g21.Door⟩ : hawthornref05_Sketch.G) ⟨hf20.1, hf20.2⟩ r35 hr35))) (qc rfl rfl (s_u (o_bin rfl rfl (bS_eq r33 r35))) (qc rfl rfl (s_u (o_as rfl)) qn)))) en ?_
        intro _
        refine ex_sub (E' := [(6, vB (r33 == r35))]) ⟨rfl, trivial⟩ ?_
        refine x_seq ?_
        refine c_ret ?_
        obtain rfl := Option.some.inj hm36
        refine ex_st (fun _ h => st_pk 4 [] (by decide) h) ?_
        exact x_r1 rfl (rv_t rfl) le16 ⟨_, rfl, rfl, trivial, rfl⟩
    · refine c_blk ?_
      refine cd_st (fun _ h => st_pk 5 [1, 4, 0, 2, 3] (by decide) h) ?_
      refine cd_ex (fun w h => st_freezeN w h) fun R50 hf53 => ?_
      obtain ⟨le51, h52⟩ := hf53
      refine cd_st (fun _ h => st_pk 3 [1, 0, 2] (by decide) h) ?_
      refine cd_ex (fun w h => st_freeze w h) fun R54 hf57 => ?_
      obtain ⟨le55, h56⟩ := hf57
      refine cd_loopG (M := fun k49 (s : Option sketch_Sketch × Int × hawthornref05_Sketch × (Value × sketch_Sketch.G) × hawthornref05_Sketch.G × PH) => (hawthornlaw05_SketchAdds_l1 a2 k49 s.1 s.2.1 s.2.2.1 = some p13) ∧ (Le R s.2.2.2.2.2) ∧ (hawthornref05_Sketch.ro s.2.2.2.2.2 s.2.2.1 s.2.2.2.2.1)) (Ef := fun (s : Option sketch_Sketch × Int × hawthornref05_Sketch × (Value × sketch_Sketch.G) × hawthornref05_Sketch.G × PH) => [(2, v2), (8, pt b8 0), (7, s.2.2.2.1.1), (10, vI s.2.1)]) (Rf := fun (s : Option sketch_Sketch × Int × hawthornref05_Sketch × (Value × sketch_Sketch.G) × hawthornref05_Sketch.G × PH) => s.2.2.2.2.2) (Lf := fun (s : Option sketch_Sketch × Int × hawthornref05_Sketch × (Value × sketch_Sketch.G) × hawthornref05_Sketch.G × PH) => Bk b8 36 [vI s.2.2.1.Wide, vW s.2.2.1.Seed, s.2.2.2.2.1.Rows.1, s.2.2.2.2.1.Door, vI s.2.2.1.Added] :: rO (sketch_Sketch.op s.2.2.2.1.2) s.2.2.2.1.1 s.1 :: F) (((a2.length : Int) - 0).toNat + 1) (r0.1, 0, r0.2.1, (pv2, g3), (⟨(v4.Rows.1, []), v4.Door⟩ : hawthornref05_Sketch.G), R54) ⟨hp24, (Le.trans le51 le55), ⟨(RoN.mono le55 h52), h56⟩⟩ ⟨rfl, rfl, rfl, rfl, trivial⟩ (fun _ h => st_pk 2 [0, 1] (by decide) h) (fun _ h => by cases h.1) fun k49 s hM59 => ?_
      obtain ⟨s_37, i_38, c_39, pv42, g46, R40⟩ := s
      have hm58 : hawthornlaw05_SketchAdds_l1 a2 (k49 + 1) s_37 i_38 c_39 = some p13 := hM59.1
      have le41 : Le R R40 := hM59.2.1
      have hf45 : hawthornref05_Sketch.ro R40 c_39 g46 := hM59.2.2
      rw [hawthornlaw05_SketchAdds_l1] at hm58
      obtain ⟨pv43, g44⟩ := pv42
      refine c_seq ?_
      refine c_seq ?_
      refine c_reg ?_
      refine r_u (o_mv rfl) ?_
      refine r_u (o_mv rfl) ?_
      refine r_u (o_lenR Try.underlying23 rfl (RoS.mono le41 h2)) ?_
      refine r_u (o_bin rfl rfl (bI_lt i_38 (a2.length : Int))) ?_
      refine r_u (o_mv rfl) ?_
      refine r_s (s_gt rfl rfl fun g => o_mv rfl) ?_
      refine r_s (s_gt rfl rfl fun g => o_bin (evg rfl g) rfl (bI_lt i_38 200)) ?_
      refine r_u (o_and rfl rfl) ?_
      refine r_nil ?_
      refine x_seq ?_
      refine c_if (b := (decide (i_38 < (a2.length : Int)) && decide (i_38 < 200))) rfl (fun h60 => ?_) fun h60 => ?_
      · have hm61 := ift hm58 h60
        refine c_skip ?_
        refine x_seq ?_
        refine c_seq ?_
        refine c_blk ?_
        refine c_seq ?_
        refine c_reg ?_
        refine r_u (o_mv rfl) ?_
        refine r_u (o_mv rfl) ?_
        obtain ⟨x62, hx62, hm63⟩ := bs hm61
        obtain ⟨b62, o62, l62, T62, fr62, c62, hv62, hR62, he62, hi62⟩ := RoS.ne (RoS.mono le41 h2) hx62
        refine r_u (o_ix (sz := 1) Try.underlying23 (fun _ => by kernel_rfl) rfl rfl hv62 hi62) ?_
        refine r_u (o_ldR sc9 rfl hR62 (rok 0 he62 (by decide))) ?_
        obtain ⟨r64, hr64, hm65⟩ := bs hm63
        refine r_u (o_callq ca15 rfl (hawthornlaw05_few.ok x62 r64 hr64)) ?_
        refine r_u (o_as rfl) ?_
        refine r_nil ?_
        refine x_seq ?_
        refine c_seq ?_
        refine c_seq ?_
        refine cd_st (fun _ h => st_pk 2 [1, 0] (by decide) h) ?_
        refine cd_opt (fun ho68 => ?_) (fun x66 b67 ho68 => ?_)
        · rintro rfl
          have hm69 := om_n hm65 ho68
          cases hm69
        · rintro rfl
          have hm69 := om_s hm65 ho68
          refine cd_st (fun _ h => st_star_o h) ?_
          obtain ⟨r72, hr72, hm73⟩ := bs hm69
          obtain ⟨r74, hr74, hm75⟩ := bs hm73
          refine c_any mixed (effs := [2]) (V := []) ?_
          refine stage_ext [(0, pt b67 0), (1, vS r64), (3, .agg [vI c_39.Wide, vW c_39.Seed, g46.Rows.1, g46.Door, vI c_39.Added].toArray), (4, vS r64)] rfl ?_
          refine stage rfl rfl rfl rfl [0, 0, 3, 0, 0, 31, 63] [0, 1, 3, 4] [2] rfl rfl rfl (qc rfl rfl (s_u (o_mv rfl)) (qc rfl rfl (s_u (o_mv rfl)) (qc rfl rfl (s_u (o_ldn 3 [vI c_39.Wide, vW c_39.Seed, g46.Rows.1, g46.Door, vI c_39.Added] ag36 rfl rfl rfl rfl)) (qc rfl rfl (s_u (o_mv rfl)) qn)))) ?_ (fun h => absurd h (by decide))
          refine ec (eo_c rfl (s_w (o_call ca16 rfl (sketch_Sketch_Seen.ok b67 x66 g44 r64 r72 hr72))) ?_) en
          refine stage_ext [(5, vI r74), (6, vB (r72 != r74))] rfl ?_
          refine stage rfl rfl rfl rfl [0, 0, 3, 0, 0, 31, 63] [3, 4, 5, 6] [] rfl rfl rfl (qc rfl rfl (s_u (o_ldn 3 [vI c_39.Wide, vW c_39.Seed, g46.Rows.1, g46.Door, vI c_39.Added] ag36 rfl rfl rfl rfl)) (qc rfl rfl (s_u (o_mv rfl)) (qc rfl rfl (s_u (o_callq ca18 rfl (hawthornref05_Sketch_Seen.ok c_39 (⟨(g46.Rows.1, []), g46.Door⟩ : hawthornref05_Sketch.G) ⟨hf45.1, hf45.2⟩ r64 r74 hr74))) (qc rfl rfl (s_u (o_bin rfl rfl (bI_ne r72 r74))) qn)))) en ?_
          intro _
          refine ex_sub (E' := [(2, v2), (8, pt b8 0), (7, pt b67 0), (10, vI i_38), (11, vS r64), (46, vB (r72 != r74))]) ⟨rfl, rfl, rfl, rfl, rfl, rfl, trivial⟩ ?_
          refine x_seq ?_
          refine c_if (b := (r72 != r74)) rfl (fun h76 => ?_) fun h76 => ?_
          · have hm77 := ift hm75 h76
            refine c_seq ?_
            refine c_reg ?_
            refine r_u (o_as rfl) ?_
            refine r_nil ?_
            refine x_seq ?_
            refine c_ret ?_
            obtain rfl := Option.some.inj hm77
            try dsimp only at hm25
            obtain rfl := Option.some.inj hm25
            refine ex_st (fun _ h => st_pk 4 [] (by decide) h) ?_
            exact x_r1 rfl (rv_t rfl) le41 ⟨_, rfl, rfl, trivial, rfl⟩
          · have hm77 := iff_ hm75 h76
            refine c_skip ?_
            refine x_seq ?_
            refine c_seq ?_
            refine c_reg ?_
            refine r_u (o_mv rfl) ?_
            refine r_u (o_mv rfl) ?_
            obtain ⟨r78, hr78, hm79⟩ := bs hm77
            refine r_c (s_w (o_call ca14 rfl (sketch_Sketch_Add.ok b67 x66 g44 r64 r78 hr78))) ?_
            refine r_nil ?_
            refine x_seq ?_
            refine c_seq ?_
            refine c_reg ?_
            refine r_u (o_ldn 3 [vI c_39.Wide, vW c_39.Seed, g46.Rows.1, g46.Door, vI c_39.Added] ag36 rfl rfl rfl rfl) ?_
            refine r_u (o_mv rfl) ?_
            obtain ⟨r80, hr80, hm86⟩ := bs hm79
            refine r_sw (s_w (o_call ca19 rfl (hawthornref05_Sketch_Add.ok c_39 (⟨(g46.Rows.1, []), g46.Door⟩ : hawthornref05_Sketch.G) ⟨hf45.1, hf45.2⟩ r64 r80 hr80))) ?_
            rintro _ R84 _ le85 ⟨v81, rfl, _, rfl⟩
            refine rl_st (fun _ h => st_pk 7 [6, 0, 2, 1, 3, 4, 5] (by decide) h) ?_
            refine r_u0 (ou_if (one_o 1 rfl) fun ho0 => ou_if (one_o 2 rfl) fun ho1 => o_stn ag36 rfl rfl rfl (al_c rfl (al_c rfl (al_c ho0 (al_c ho1 (al_c rfl al_n))))) rfl rfl rfl) ?_
            refine r_nil ?_
            refine x_seq ?_
            refine c_seq ?_
            refine cd_st (fun _ h => st_pk 7 [1, 3, 0, 2, 4, 5, 6] (by decide) h) ?_
            refine cd_ex (fun w h => st_freezeN w h) fun R87 hf90 => ?_
            obtain ⟨le88, h89⟩ := hf90
            refine cd_st (fun _ h => st_pk 5 [1, 0, 2, 3, 4] (by decide) h) ?_
            refine cd_ex (fun w h => st_freeze w h) fun R91 hf94 => ?_
            obtain ⟨le92, h93⟩ := hf94
            obtain ⟨r95, hr95, hm96⟩ := bs hm86
            obtain ⟨r97, hr97, hm98⟩ := bs hm96
            obtain ⟨p99, hp100, hm101⟩ := bs hm98
            refine cd_join (E' := [(2, v2), (7, pt b67 0), (8, pt b8 0), (10, vI i_38), (66, vB p99)]) (L' := Bk b67 70 [vI r78.wide, vW r78.seed, g44.rows.1, g44.rows.2.1, g44.rows.2.2.1, g44.rows.2.2.2, g44.door, vI r78.added] :: Bk b8 36 [vI r80.Wide, vW r80.Seed, v81.Rows.1, v81.Door, vI r80.Added] :: OwL (OwS false 5 1 eY) [g44.rows.1, g44.rows.2.1, g44.rows.2.2.1, g44.rows.2.2.2] r78.rows :: OwS true 4 1 eB g44.door r78.door :: F) ?_ fun K102 => ?_
            · refine x_seq ?_
              refine c_if (b := p99) rfl (fun h103 => ?_) fun h103 => ?_
              · have hm104 := ift hm101 h103
                refine c_seq ?_
                refine c_reg ?_
                refine r_u (o_as rfl) ?_
                refine r_nil ?_
                refine x_seq ?_
                refine c_ret ?_
                obtain rfl := Option.some.inj hm104
                try dsimp only at hm25
                obtain rfl := Option.some.inj hm25
                refine ex_st (fun _ h => st_pk 4 [] (by decide) h) ?_
                exact x_r1 rfl (rv_t rfl) (Le.trans (Le.trans (Le.trans le41 le85) le88) le92) ⟨_, rfl, rfl, trivial, rfl⟩
              · have hm104 := iff_ hm101 h103
                refine c_skip ?_
                refine x_blk ?_
                refine x_seq ?_
                refine c_reg ?_
                refine r_u (o_mv rfl) ?_
                refine r_u (o_bin rfl rfl (bI_add i_38 1)) ?_
                refine r_u (o_as rfl) ?_
                refine r_nil ?_
                refine ex_st (fun _ h => st_pk 4 [0, 2, 3, 1] (by decide) h) ?_
                refine ex_st (fun _ h => st_some (f := sketch_Sketch.op g44) (a := r78) (st_star_f (A := sketch_Sketch.fl b67 r78 g44) h)) ?_
                exact x_lp ((some r78), i64 (i_38 + 1), r80, (pt b67 0, g44), (⟨(v81.Rows.1, []), v81.Door⟩ : hawthornref05_Sketch.G), R91) ⟨hm104, (Le.trans (Le.trans (Le.trans le41 le85) le88) le92), ⟨(RoN.mono le92 h89), h93⟩⟩ ⟨rfl, rfl, rfl, rfl, trivial⟩ (fun _ h => st_pk 2 [1, 0] (by decide) h)
            · refine cd_by (r95 != r97) (fun h105 => ?_) fun h105 => ?_
              · have hm106 := ift hp100 h105
                refine c_any mixed (effs := [2]) (V := []) ?_
                refine stage_st (fun _ h => st_pk 4 [1, 2, 3, 0] (by decide) h) ?_
                refine stage_ext [(0, pt b67 0), (1, vS r64), (3, .agg [vI r80.Wide, vW r80.Seed, v81.Rows.1, v81.Door, vI r80.Added].toArray), (4, vS r64)] rfl ?_
                refine stage rfl rfl rfl rfl [0, 0, 3, 0, 0, 31, 63, 127, 255, 511, 255, 1279, 4095, 8191] [0, 1, 3, 4] [2] rfl rfl rfl (qc rfl rfl (s_u (o_mv rfl)) (qc rfl rfl (s_u (o_mv rfl)) (qc rfl rfl (s_u (o_ldn 3 [vI r80.Wide, vW r80.Seed, v81.Rows.1, v81.Door, vI r80.Added] ag36 rfl rfl rfl rfl)) (qc rfl rfl (s_u (o_mv rfl)) qn)))) ?_ (fun h => absurd h (by decide))
                refine ec (eo_c rfl (s_w (o_call ca16 rfl (sketch_Sketch_Seen.ok b67 r78 g44 r64 r95 hr95))) ?_) en
                refine stage_ext [(5, vI r97), (6, vB (r95 != r97)), (7, vB (r95 != r97)), (8, undef), (9, undef), (10, undef), (11, undef), (12, undef), (13, vB true)] rfl ?_
                refine stage rfl rfl rfl rfl [0, 0, 3, 0, 0, 31, 63, 127, 255, 511, 255, 1279, 4095, 8191] [3, 4, 5, 6, 7, 8, 9, 10, 11, 12, 13] [] rfl rfl rfl (qc rfl rfl (s_u (o_ldn 3 [vI r80.Wide, vW r80.Seed, v81.Rows.1, v81.Door, vI r80.Added] ag36 rfl rfl rfl rfl)) (qc rfl rfl (s_u (o_mv rfl)) (qc rfl rfl (s_u (o_callq ca18 rfl (hawthornref05_Sketch_Seen.ok r80 (⟨(v81.Rows.1, []), v81.Door⟩ : hawthornref05_Sketch.G) ⟨(RoN.mono le92 h89), h93⟩ r64 r97 hr97))) (qc rfl rfl (s_u (o_bin rfl rfl (bI_ne r95 r97))) (qc rfl rfl (s_u (o_mv rfl)) (qc rfl rfl (s_n rfl rfl h105) (qc rfl rfl (s_n rfl rfl h105) (qc rfl rfl (s_n rfl rfl h105) (qc rfl rfl (s_n rfl rfl h105) (qc rfl rfl (s_n rfl rfl h105) (qc rfl rfl (s_u (o_pt rfl h105 rfl)) qn))))))))))) en ?_
                intro _
                refine ex_sub (E' := [(2, v2), (8, pt b8 0), (7, pt b67 0), (10, vI i_38), (66, vB true)]) ⟨rfl, rfl, rfl, rfl, rfl, trivial⟩ ?_
                obtain rfl := Option.some.inj hm106
                exact x_sub K102 ⟨rfl, rfl, rfl, rfl, rfl, trivial⟩ (fun _ h => st_pk 4 [0, 3, 1, 2] (by decide) h)
              · have hm106 := iff_ hp100 h105
                refine c_any mixed (effs := [2, 9]) (V := []) ?_
                refine stage_st (fun _ h => st_pk 4 [1, 2, 3, 0] (by decide) h) ?_
                refine stage_ext [(0, pt b67 0), (1, vS r64), (3, .agg [vI r80.Wide, vW r80.Seed, v81.Rows.1, v81.Door, vI r80.Added].toArray), (4, vS r64)] rfl ?_
                refine stage rfl rfl rfl rfl [0, 0, 3, 0, 0, 31, 63, 127, 255, 511, 255, 1279, 4095, 8191] [0, 1, 3, 4] [2] rfl rfl rfl (qc rfl rfl (s_u (o_mv rfl)) (qc rfl rfl (s_u (o_mv rfl)) (qc rfl rfl (s_u (o_ldn 3 [vI r80.Wide, vW r80.Seed, v81.Rows.1, v81.Door, vI r80.Added] ag36 rfl rfl rfl rfl)) (qc rfl rfl (s_u (o_mv rfl)) qn)))) ?_ (fun h => absurd h (by decide))
                refine ec (eo_c rfl (s_w (o_call ca16 rfl (sketch_Sketch_Seen.ok b67 r78 g44 r64 r95 hr95))) ?_) en
                refine stage_ext [(5, vI r97), (6, vB (r95 != r97)), (7, vB (r95 != r97)), (8, pt b67 0), (10, pt b8 4), (11, vI r80.Added)] rfl ?_
                refine stage rfl rfl rfl rfl [0, 0, 3, 0, 0, 31, 63, 127, 255, 511, 255, 1279, 4095, 8191] [3, 4, 5, 6, 7, 8, 10, 11] [9] rfl rfl rfl (qc rfl rfl (s_u (o_ldn 3 [vI r80.Wide, vW r80.Seed, v81.Rows.1, v81.Door, vI r80.Added] ag36 rfl rfl rfl rfl)) (qc rfl rfl (s_u (o_mv rfl)) (qc rfl rfl (s_u (o_callq ca18 rfl (hawthornref05_Sketch_Seen.ok r80 (⟨(v81.Rows.1, []), v81.Door⟩ : hawthornref05_Sketch.G) ⟨(RoN.mono le92 h89), h93⟩ r64 r97 hr97))) (qc rfl rfl (s_u (o_bin rfl rfl (bI_ne r95 r97))) (qc rfl rfl (s_u (o_mv rfl)) (qc rfl rfl (s_y rfl rfl h105 (o_mv rfl)) (qc rfl rfl (s_y rfl rfl h105 (o_fa fa36_4 rfl)) (qc rfl rfl (s_y rfl rfl h105 (o_ld 3 sc3 rfl rfl rfl)) qn)))))))) ?_ (fun h => absurd h (by decide))
                refine ec (eo_c rfl (s_yw rfl rfl h105 (o_call ca20 rfl (sketch_Sketch_Added.ok b67 r78 g44 _ rfl))) ?_) en
                refine stage_ext [(12, vB ((sketch_Sketch_Added r78) != r80.Added)), (13, vB ((sketch_Sketch_Added r78) != r80.Added))] rfl ?_
                refine stage rfl rfl rfl rfl [0, 0, 3, 0, 0, 31, 63, 127, 255, 511, 255, 1279, 4095, 8191] [10, 11, 12, 13] [] rfl rfl rfl (qc rfl rfl (s_y rfl rfl h105 (o_fa fa36_4 rfl)) (qc rfl rfl (s_y rfl rfl h105 (o_ld 3 sc3 rfl rfl rfl)) (qc rfl rfl (s_y rfl rfl h105 (o_bin rfl rfl (bI_ne (sketch_Sketch_Added r78) r80.Added))) (qc rfl rfl (s_u (o_pf rfl h105 rfl)) qn)))) en ?_
                intro _
                refine ex_sub (E' := [(2, v2), (8, pt b8 0), (7, pt b67 0), (10, vI i_38), (66, vB ((sketch_Sketch_Added r78) != r80.Added))]) ⟨rfl, rfl, rfl, rfl, rfl, trivial⟩ ?_
                obtain rfl := Option.some.inj hm106
                exact x_sub K102 ⟨rfl, rfl, rfl, rfl, rfl, trivial⟩ (fun _ h => st_pk 4 [0, 3, 1, 2] (by decide) h)
      · have hm61 := iff_ hm58 h60
        refine c_exit (x_exit (ks' := _) rfl ?_)
        obtain rfl := Option.some.inj hm61
        exact x_sub (K26 _ rfl _ le41 (pv43, g44) (⟨(g46.Rows.1, []), g46.Door⟩ : hawthornref05_Sketch.G) ⟨hf45.1, hf45.2⟩) ⟨rfl, rfl, trivial⟩ (fun _ h => st_pk 2 [0, 1] (by decide) h)

end Go.Proofs.Ytlahbmoebbflbaa
