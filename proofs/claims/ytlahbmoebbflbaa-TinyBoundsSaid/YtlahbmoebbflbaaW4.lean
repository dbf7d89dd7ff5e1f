import Derived.Test.YtlahbmoebbflbaaW3
import Derived.Test.YtlahbmoebbflbaaFacts
import Derived.Test.YtlahbmoebbflbaaHwX
set_option linter.unusedVariables false
set_option linter.unusedSectionVars false
set_option linter.unusedSimpArgs false
set_option maxRecDepth 100000
set_option maxHeartbeats 8000000
namespace Go.Proofs.Ytlahbmoebbflbaa
open Go Go.Proofs.Ytlahbmoebbflbaa.Hw
def tiny_Tiny_Miss (a0 : tiny_Tiny) (a1 : Str) : Option tiny_Tiny :=
  if decide ((a1.length : Int) ≤ 64) then om a0.s (none) fun x8 => (sketch_Sketch_Add x8 a1).bind fun r14 => some (⟨a0.most, (some r14), a0.r⟩ : tiny_Tiny) else some a0
theorem tiny_Tiny_Miss.ok {G R F} (b0_ : Nat) (a0 : tiny_Tiny) (g0_ : tiny_Tiny.G) (a1 : Str) (r : tiny_Tiny) (hm : tiny_Tiny_Miss a0 a1 = some r) : CO Try.prog 33 [pt b0_ 0, vS a1] G R (Bk b0_ 86 [vI a0.most, g0_.s.1, g0_.r.1] :: rO (sketch_Sketch.op g0_.s.2) g0_.s.1 a0.s :: rO (ring_Rings.op g0_.r.2) g0_.r.1 a0.r :: F)
    (Ret fun u R' L' => u = .tuple #[] ∧ R' = R ∧ L' = Bk b0_ 86 [vI r.most, g0_.s.1, g0_.r.1] :: rO (sketch_Sketch.op g0_.s.2) g0_.s.1 r.s :: rO (ring_Rings.op g0_.r.2) g0_.r.1 r.r :: F) := by
  obtain ⟨⟨pv1, g2⟩, ⟨pv4, g5⟩⟩ := g0_
  unfold tiny_Tiny_Miss at hm
  refine co_ofN (N := 17) Try.func33 rfl rfl ?_
  refine c_seq ?_
  refine c_reg ?_
  refine r_u (o_mv rfl) ?_
  refine r_u (o_bin rfl rfl (bP_nep Try.underlying47)) ?_
  refine r_u (o_mv rfl) ?_
  refine r_s (s_y rfl rfl rfl (o_mv rfl)) ?_
  refine r_s (s_y rfl rfl rfl (o_lenS Try.underlying9 rfl)) ?_
  refine r_s (s_y rfl rfl rfl (o_bin rfl rfl (bI_le (a1.length : Int) 64))) ?_
  refine r_u (o_pt rfl rfl rfl) ?_
  refine r_nil ?_
  refine x_seq ?_
  refine c_if (b := decide ((a1.length : Int) ≤ 64)) rfl (fun h6 => ?_) fun h6 => ?_
  · have hm7 := ift hm h6
    clear hm
    refine cd_st (fun _ h => st_pk 3 [1, 0, 2] (by decide) h) ?_
    refine cd_opt (fun ho10 => ?_) (fun x8 b9 ho10 => ?_)
    · rintro rfl
      have hm11 := om_n hm7 ho10
      clear hm7
      cases hm11
    · rintro rfl
      have hm11 := om_s hm7 ho10
      clear hm7
      refine cd_st (fun _ h => st_star_o h) ?_
      refine c_reg ?_
      refine r_u (o_mv rfl) ?_
      refine r_u (o_nc rfl) ?_
      refine r_u (o_fa fa86_1 rfl) ?_
      refine r_u (o_ld 3 sc24 rfl rfl rfl) ?_
      refine r_u (o_mv rfl) ?_
      obtain ⟨r14, hr14, hm15⟩ := bs hm11
      clear hm11
      refine r_c (s_w (o_call ca14 rfl (sketch_Sketch_Add.ok b9 x8 g2 a1 r14 hr14))) ?_
      refine r_nil ?_
      refine x_end ?_
      refine ex_st (fun _ h => st_some (f := sketch_Sketch.op g2) (a := r14) (st_star_f (A := sketch_Sketch.fl b9 r14 g2) h)) ?_
      obtain rfl := Option.some.inj hm15
      refine ex_st (fun _ h => st_pk 3 [1, 0, 2] (by decide) h) ?_
      exact x_r0 rfl (Le.refl _) ⟨_, rfl, rfl, rfl, rfl⟩
  · have hm7 := iff_ hm h6
    clear hm
    refine c_skip ?_
    refine x_end ?_
    obtain rfl := Option.some.inj hm7
    exact x_r0 rfl (Le.refl _) ⟨_, rfl, rfl, rfl, rfl⟩

def hawthornlaw08_TinyDuel_l0 (a1 : Int) : Nat → Int → tiny_Tiny → Option (tiny_Tiny)
  | 0, _, _ => none
  | k93 + 1, i_84, c_85 => if decide (i_84 < (iand a1 7)) then (tiny_Tiny_Touch c_85 [98]).bind fun r98 => hawthornlaw08_TinyDuel_l0 a1 k93 (i64 (i_84 + 1)) r98.2 else some c_85
def hawthornlaw08_TinyDuel_l1 (a0 : Int) : Nat → Int → Int → (Option sketch_Sketch) → (Option ring_Rings) → Option (Int × Option sketch_Sketch × Option ring_Rings)
  | 0, _, _, _, _ => none
  | k113 + 1, i_107, c_108, c_109, c_110 => if decide (i_107 < (iand a0 7)) then (tiny_Tiny_Miss (⟨c_108, c_109, c_110⟩ : tiny_Tiny) [97]).bind fun r118 => hawthornlaw08_TinyDuel_l1 a0 k113 (i64 (i_107 + 1)) r118.most r118.s r118.r else some (c_108, c_109, c_110)
def hawthornlaw08_TinyDuel (a0 : Int) (a1 : Int) : Option Bool :=
  (tiny_New 2 7).bind fun r0 => (hawthornlaw08_awake).bind fun r5 => if (!r5 || (r0.2 != 0)) then some false else om r0.1 (none) fun x9 => (tiny_Tiny_Insert x9 [97]).bind fun r19 => Option.bind (hawthornlaw08_TinyDuel_l1 a0 (((iand a0 7) - 0).toNat + 1) 0 r19.2.most r19.2.s r19.2.r) fun p29 => (tiny_Tiny_Insert (⟨p29.1, p29.2.1, p29.2.2⟩ : tiny_Tiny) [98]).bind fun r35 => Option.bind (hawthornlaw08_TinyDuel_l0 a1 (((iand a1 7) - 0).toNat + 1) 0 r35.2) fun p45 => (tiny_Tiny_Seen p45 [97]).bind fun r56 => (tiny_Tiny_Seen p45 [98]).bind fun r58 => (tiny_Tiny_Insert p45 [99]).bind fun r60 => Option.bind (if decide (r56 < r58) then some [97] else some [98]) fun p70 => if ((r60.1.length : Int) == 1) then (gi r60.1 0).bind fun x76 => if (x76 == p70) then (tiny_Tiny_Has r60.2 [99]).bind fun r80 => some r80 else some false else some false
theorem hawthornlaw08_TinyDuel.ok {G R F} (a0 : Int) (a1 : Int) (r : Bool) (hm : hawthornlaw08_TinyDuel a0 a1 = some r) : CO Try.prog 9 [vI a0, vI a1] G R (F)
    (Ret fun u R' L' => u = vB r ∧ R' = R ∧ L' = F) := by
  unfold hawthornlaw08_TinyDuel at hm
  refine co_ofN (N := 70) Try.func9 rfl rfl ?_
  refine c_seq ?_
  refine c_reg ?_
  refine r_u (o_as rfl) ?_
  refine r_nil ?_
  refine x_seq ?_
  refine c_seq ?_
  refine c_reg ?_
  obtain ⟨r0, hr0, hm4⟩ := bs hm
  clear hm
  refine r_sw (s_w (o_call ca27 rfl (tiny_New.ok 2 7 r0 hr0))) ?_
  rintro _ R _ _ ⟨⟨pv2, g3⟩, rfl, rfl, rfl⟩
  refine r_u (o_mv rfl) ?_
  refine r_u (o_ext rfl rfl) ?_
  refine r_u (o_ext rfl rfl) ?_
  refine r_u (o_as rfl) ?_
  refine r_u (o_as rfl) ?_
  refine r_nil ?_
  refine x_seq ?_
  refine c_seq ?_
  refine c_seq ?_
  refine c_reg ?_
  obtain ⟨r5, hr5, hm6⟩ := bs hm4
  clear hm4
  refine r_u (o_callq ca28 rfl (hawthornlaw08_awake.ok r5 hr5)) ?_
  refine r_u (o_not rfl) ?_
  refine r_u (o_mv rfl) ?_
  refine r_s (s_gf rfl rfl fun g => o_mv rfl) ?_
  refine r_s (s_gf rfl rfl fun g => o_bin (evg rfl g) rfl (bI_ne r0.2 0)) ?_
  refine r_u (o_or rfl rfl) ?_
  refine r_nil ?_
  refine x_seq ?_
  refine c_if (b := (!r5 || (r0.2 != 0))) rfl (fun h7 => ?_) fun h7 => ?_
  · have hm8 := ift hm6 h7
    clear hm6
    refine c_seq ?_
    refine c_reg ?_
    refine r_u (o_as rfl) ?_
    refine r_nil ?_
    refine x_seq ?_
    refine c_ret ?_
    obtain rfl := Option.some.inj hm8
    refine ex_st (fun _ h => st_pk 1 [] (by decide) h) ?_
    exact x_r1 rfl (rv_t rfl) (Le.refl _) ⟨_, rfl, rfl, rfl, rfl⟩
  · have hm8 := iff_ hm6 h7
    clear hm6
    refine c_skip ?_
    refine x_seq ?_
    refine c_seq ?_
    refine c_reg ?_
    refine r_u (o_mv rfl) ?_
    refine r_u (o_bin rfl rfl (bI_and a0 7)) ?_
    refine r_u (o_mv rfl) ?_
    refine r_u (o_bin rfl rfl (bI_and a1 7)) ?_
    refine r_u (o_as rfl) ?_
    refine r_u (o_as rfl) ?_
    refine r_nil ?_
    refine x_seq ?_
    refine c_seq ?_
    refine cd_opt (fun ho11 => ?_) (fun x9 b10 ho11 => ?_)
    · rintro rfl
      have hm12 := om_n hm8 ho11
      clear hm8
      cases hm12
    · rintro rfl
      have hm12 := om_s hm8 ho11
      clear hm8
      obtain ⟨⟨pv14, g15⟩, ⟨pv17, g18⟩⟩ := g3
      refine cd_st (fun _ h => st_star_o h) ?_
      refine c_reg ?_
      refine r_u (o_mv rfl) ?_
      obtain ⟨r19, hr19, hm28⟩ := bs hm12
      clear hm12
      refine r_sw (s_w (o_call ca30 rfl (tiny_Tiny_Insert.ok b10 x9 (⟨(pv14, g15), (pv17, g18)⟩ : tiny_Tiny.G) [97] r19 hr19))) ?_
      rintro v20 R _ _ ⟨_, ⟨⟨pv23, g24⟩, ⟨pv26, g27⟩⟩, rfl, rfl, rfl⟩
      refine r_nil ?_
      refine x_seq ?_
      refine c_seq ?_
      refine c_seq ?_
      refine c_reg ?_
      refine r_u (o_as rfl) ?_
      refine r_nil ?_
      refine x_seq ?_
      obtain ⟨p29, hp32, hm33⟩ := bs hm28
      refine cd_cut (fun x ks => ∀ (g30 : sketch_Sketch.G), ∀ (g31 : ring_Rings.G), EX x .normal ks [(5, pt b10 0), (8, vI (iand a1 7))] R (Bk b10 86 [vI p29.1, pv23, pv26] :: OwS true 9 1 eS v20 r19.1 :: rO (sketch_Sketch.op g30) pv23 p29.2.1 :: rO (ring_Rings.op g31) pv26 p29.2.2 :: F)) ?_ fun K34 => ?_
      · intro g30 g31
        refine x_seq ?_
        refine c_seq ?_
        refine c_reg ?_
        refine r_u (o_mv rfl) ?_
        obtain ⟨r35, hr35, hm44⟩ := bs hm33
        clear hm33
        refine rl_st (fun _ h => st_pk 4 [0, 2, 3, 1] (by decide) h) ?_
        refine r_sw (s_w (o_call ca30 rfl (tiny_Tiny_Insert.ok b10 (⟨p29.1, p29.2.1, p29.2.2⟩ : tiny_Tiny) (⟨(pv23, g30), (pv26, g31)⟩ : tiny_Tiny.G) [98] r35 hr35))) ?_
        rintro v36 R _ _ ⟨_, ⟨⟨pv39, g40⟩, ⟨pv42, g43⟩⟩, rfl, rfl, rfl⟩
        refine r_nil ?_
        refine x_seq ?_
        refine c_seq ?_
        refine c_seq ?_
        refine c_reg ?_
        refine r_u (o_as rfl) ?_
        refine r_nil ?_
        refine x_seq ?_
        obtain ⟨p45, hp53, hm54⟩ := bs hm44
        refine cd_cut (fun x ks => ∀ (g46 : tiny_Tiny.G), EX x .normal ks [(5, pt b10 0)] R (Bk b10 86 [vI p45.most, g46.s.1, g46.r.1] :: OwS true 9 1 eS v36 r35.1 :: OwS true 9 1 eS v20 r19.1 :: rO (sketch_Sketch.op g46.s.2) g46.s.1 p45.s :: rO (ring_Rings.op g46.r.2) g46.r.1 p45.r :: F)) ?_ fun K55 => ?_
        · intro g46
          obtain ⟨⟨pv48, g49⟩, ⟨pv51, g52⟩⟩ := g46
          refine x_seq ?_
          refine c_seq ?_
          refine c_reg ?_
          refine r_u (o_mv rfl) ?_
          obtain ⟨r56, hr56, hm57⟩ := bs hm54
          clear hm54
          refine rl_st (fun _ h => st_pk 5 [0, 3, 4, 1, 2] (by decide) h) ?_
          refine r_c (s_w (o_call ca35 rfl (tiny_Tiny_Seen.ok b10 p45 (⟨(pv48, g49), (pv51, g52)⟩ : tiny_Tiny.G) [97] r56 hr56))) ?_
          refine r_u (o_mv rfl) ?_
          obtain ⟨r58, hr58, hm59⟩ := bs hm57
          clear hm57
          refine r_c (s_w (o_call ca35 rfl (tiny_Tiny_Seen.ok b10 p45 (⟨(pv48, g49), (pv51, g52)⟩ : tiny_Tiny.G) [98] r58 hr58))) ?_
          refine r_u (o_as rfl) ?_
          refine r_u (o_as rfl) ?_
          refine r_nil ?_
          refine x_seq ?_
          refine c_seq ?_
          refine c_reg ?_
          refine r_u (o_mv rfl) ?_
          obtain ⟨r60, hr60, hm69⟩ := bs hm59
          clear hm59
          refine r_sw (s_w (o_call ca30 rfl (tiny_Tiny_Insert.ok b10 p45 (⟨(pv48, g49), (pv51, g52)⟩ : tiny_Tiny.G) [99] r60 hr60))) ?_
          rintro v61 R _ _ ⟨_, ⟨⟨pv64, g65⟩, ⟨pv67, g68⟩⟩, rfl, rfl, rfl⟩
          refine r_u (o_as rfl) ?_
          refine r_nil ?_
          refine x_seq ?_
          refine c_seq ?_
          refine c_reg ?_
          refine r_u (o_as rfl) ?_
          refine r_nil ?_
          refine x_seq ?_
          refine c_seq ?_
          refine c_seq ?_
          refine c_reg ?_
          refine r_u (o_mv rfl) ?_
          refine r_u (o_mv rfl) ?_
          refine r_u (o_bin rfl rfl (bI_gt r58 r56)) ?_
          refine r_nil ?_
          refine x_seq ?_
          obtain ⟨p70, hp71, hm72⟩ := bs hm69
          refine cd_join (E' := [(5, pt b10 0), (13, v61), (14, vS p70)]) (L' := Bk b10 86 [vI r60.2.most, pv64, pv67] :: OwS true 9 1 eS v61 r60.1 :: rO (sketch_Sketch.op g65) pv64 r60.2.s :: rO (ring_Rings.op g68) pv67 r60.2.r :: OwS true 9 1 eS v36 r35.1 :: OwS true 9 1 eS v20 r19.1 :: F) ?_ fun K73 => ?_
          · refine x_seq ?_
            refine c_seq ?_
            refine cd_by ((r60.1.length : Int) == 1) (fun h74 => ?_) fun h74 => ?_
            · have hm75 := ift hm72 h74
              clear hm72
              obtain ⟨x76, hx76, hm77⟩ := bs hm75
              clear hm75
              refine cd_by (x76 == p70) (fun h78 => ?_) fun h78 => ?_
              · have hm79 := ift hm77 h78
                clear hm77
                refine c_reg ?_
                refine r_u (o_mv rfl) ?_
                refine r_u (o_lenO 1 Try.underlying23 rfl rfl) ?_
                refine r_u (o_bin rfl rfl (bI_eq (r60.1.length : Int) 1)) ?_
                refine r_u (o_mv rfl) ?_
                refine r_s (s_y rfl rfl h74 (o_mv rfl)) ?_
                refine r_s (s_y rfl rfl h74 (o_ixO 1 Try.underlying23 (fun _ => by kernel_rfl) rfl rfl rfl hx76)) ?_
                refine r_s (s_y rfl rfl h74 (o_ldO0 1 sc9 rfl rfl hx76 rfl rfl)) ?_
                refine r_s (s_y rfl rfl h74 (o_mv rfl)) ?_
                refine r_s (s_y rfl rfl h74 (o_bin rfl rfl (bS_eq x76 p70))) ?_
                refine r_u (o_pt rfl h74 rfl) ?_
                refine r_u (o_mv rfl) ?_
                refine r_s (s_y rfl rfl h78 (o_mv rfl)) ?_
                obtain ⟨r80, hr80, hm81⟩ := bs hm79
                clear hm79
                refine rl_st (fun _ h => st_pk 6 [0, 2, 3, 1, 4, 5] (by decide) h) ?_
                refine r_c (s_yw rfl rfl h78 (o_call ca32 rfl (tiny_Tiny_Has.ok b10 r60.2 (⟨(pv64, g65), (pv67, g68)⟩ : tiny_Tiny.G) [99] r80 hr80))) ?_
                refine r_u (o_pt rfl h78 rfl) ?_
                refine r_u (o_as rfl) ?_
                refine r_nil ?_
                refine x_seq ?_
                refine c_ret ?_
                obtain rfl := Option.some.inj hm81
                refine ex_st (fun _ h => st_pk 6 [] (by decide) h) ?_
                exact x_r1 rfl (rv_t rfl) (Le.refl _) ⟨_, rfl, rfl, rfl, rfl⟩
              · have hm79 := iff_ hm77 h78
                clear hm77
                refine c_reg ?_
                refine r_u (o_mv rfl) ?_
                refine r_u (o_lenO 1 Try.underlying23 rfl rfl) ?_
                refine r_u (o_bin rfl rfl (bI_eq (r60.1.length : Int) 1)) ?_
                refine r_u (o_mv rfl) ?_
                refine r_s (s_y rfl rfl h74 (o_mv rfl)) ?_
                refine r_s (s_y rfl rfl h74 (o_ixO 1 Try.underlying23 (fun _ => by kernel_rfl) rfl rfl rfl hx76)) ?_
                refine r_s (s_y rfl rfl h74 (o_ldO0 1 sc9 rfl rfl hx76 rfl rfl)) ?_
                refine r_s (s_y rfl rfl h74 (o_mv rfl)) ?_
                refine r_s (s_y rfl rfl h74 (o_bin rfl rfl (bS_eq x76 p70))) ?_
                refine r_u (o_pt rfl h74 rfl) ?_
                refine r_u (o_mv rfl) ?_
                refine r_s (s_n rfl rfl h78) ?_
                refine r_s (s_n rfl rfl h78) ?_
                refine r_u (o_pf rfl h78 rfl) ?_
                refine r_u (o_as rfl) ?_
                refine r_nil ?_
                refine x_seq ?_
                refine c_ret ?_
                obtain rfl := Option.some.inj hm79
                refine ex_st (fun _ h => st_pk 6 [] (by decide) h) ?_
                exact x_r1 rfl (rv_t rfl) (Le.refl _) ⟨_, rfl, rfl, rfl, rfl⟩
            · have hm75 := iff_ hm72 h74
              clear hm72
              refine c_reg ?_
              refine r_u (o_mv rfl) ?_
              refine r_u (o_lenO 1 Try.underlying23 rfl rfl) ?_
              refine r_u (o_bin rfl rfl (bI_eq (r60.1.length : Int) 1)) ?_
              refine r_u (o_mv rfl) ?_
              refine r_s (s_n rfl rfl h74) ?_
              refine r_s (s_n rfl rfl h74) ?_
              refine r_s (s_n rfl rfl h74) ?_
              refine r_s (s_n rfl rfl h74) ?_
              refine r_s (s_n rfl rfl h74) ?_
              refine r_u (o_pf rfl h74 rfl) ?_
              refine r_u (o_mv rfl) ?_
              refine r_s (s_n rfl rfl rfl) ?_
              refine r_s (s_n rfl rfl rfl) ?_
              refine r_u (o_pf rfl rfl rfl) ?_
              refine r_u (o_as rfl) ?_
              refine r_nil ?_
              refine x_seq ?_
              refine c_ret ?_
              obtain rfl := Option.some.inj hm75
              refine ex_st (fun _ h => st_pk 6 [] (by decide) h) ?_
              exact x_r1 rfl (rv_t rfl) (Le.refl _) ⟨_, rfl, rfl, rfl, rfl⟩
          · refine c_if (b := decide (r56 < r58)) rfl (fun h82 => ?_) fun h82 => ?_
            · have hm83 := ift hp71 h82
              clear hp71
              refine c_reg ?_
              refine r_u (o_as rfl) ?_
              refine r_nil ?_
              obtain rfl := Option.some.inj hm83
              exact x_sub K73 ⟨rfl, rfl, rfl, trivial⟩ (fun _ h => st_pk 6 [1, 0, 2, 3, 4, 5] (by decide) h)
            · have hm83 := iff_ hp71 h82
              clear hp71
              refine c_skip ?_
              obtain rfl := Option.some.inj hm83
              exact x_sub K73 ⟨rfl, rfl, rfl, trivial⟩ (fun _ h => st_pk 6 [1, 0, 2, 3, 4, 5] (by decide) h)
        · refine c_blk ?_
          refine cd_loopG (M := fun k93 (s : Int × tiny_Tiny × tiny_Tiny.G) => hawthornlaw08_TinyDuel_l0 a1 k93 s.1 s.2.1 = some p45) (Ef := fun (s : Int × tiny_Tiny × tiny_Tiny.G) => [(5, pt b10 0), (8, vI (iand a1 7)), (10, vI s.1)]) (Rf := fun (s : Int × tiny_Tiny × tiny_Tiny.G) => R) (Lf := fun (s : Int × tiny_Tiny × tiny_Tiny.G) => Bk b10 86 [vI s.2.1.most, s.2.2.s.1, s.2.2.r.1] :: OwS true 9 1 eS v36 r35.1 :: OwS true 9 1 eS v20 r19.1 :: rO (sketch_Sketch.op s.2.2.s.2) s.2.2.s.1 s.2.1.s :: rO (ring_Rings.op s.2.2.r.2) s.2.2.r.1 s.2.1.r :: F) (((iand a1 7) - 0).toNat + 1) (0, r35.2, (⟨(pv39, g40), (pv42, g43)⟩ : tiny_Tiny.G)) hp53 ⟨rfl, rfl, rfl, trivial⟩ (fun _ h => st_pk 5 [1, 0, 4, 2, 3] (by decide) h) (fun _ h => by cases h) fun k93 s hM95 => ?_
          obtain ⟨i_84, c_85, g86⟩ := s
          have hm94 : hawthornlaw08_TinyDuel_l0 a1 (k93 + 1) i_84 c_85 = some p45 := hM95
          rw [hawthornlaw08_TinyDuel_l0] at hm94
          obtain ⟨⟨pv88, g89⟩, ⟨pv91, g92⟩⟩ := g86
          refine c_seq ?_
          refine c_seq ?_
          refine c_reg ?_
          refine r_u (o_mv rfl) ?_
          refine r_u (o_mv rfl) ?_
          refine r_u (o_bin rfl rfl (bI_lt i_84 (iand a1 7))) ?_
          refine r_nil ?_
          refine x_seq ?_
          refine c_if (b := decide (i_84 < (iand a1 7))) rfl (fun h96 => ?_) fun h96 => ?_
          · have hm97 := ift hm94 h96
            clear hm94
            refine c_skip ?_
            refine x_seq ?_
            refine c_seq ?_
            refine c_blk ?_
            refine c_reg ?_
            refine r_u (o_mv rfl) ?_
            obtain ⟨r98, hr98, hm106⟩ := bs hm97
            clear hm97
            refine rl_st (fun _ h => st_pk 5 [0, 3, 4, 1, 2] (by decide) h) ?_
            refine r_sw (s_w (o_call ca34 rfl (tiny_Tiny_Touch.ok b10 c_85 (⟨(pv88, g89), (pv91, g92)⟩ : tiny_Tiny.G) [98] r98 hr98))) ?_
            rintro _ R _ _ ⟨⟨⟨pv101, g102⟩, ⟨pv104, g105⟩⟩, rfl, rfl, rfl⟩
            refine r_nil ?_
            refine x_blk ?_
            refine x_seq ?_
            refine c_reg ?_
            refine r_u (o_mv rfl) ?_
            refine r_u (o_bin rfl rfl (bI_add i_84 1)) ?_
            refine r_u (o_as rfl) ?_
            refine r_nil ?_
            exact x_lp (i64 (i_84 + 1), r98.2, (⟨(pv101, g102), (pv104, g105)⟩ : tiny_Tiny.G)) hm106 ⟨rfl, rfl, rfl, trivial⟩ (fun _ h => st_pk 5 [0, 3, 4, 1, 2] (by decide) h)
          · have hm97 := iff_ hm94 h96
            clear hm94
            refine c_exit (x_exit (ks' := _) rfl ?_)
            obtain rfl := Option.some.inj hm97
            exact x_sub (K55 (⟨(pv88, g89), (pv91, g92)⟩ : tiny_Tiny.G)) ⟨rfl, trivial⟩ (fun _ h => st_pk 5 [0, 1, 2, 3, 4] (by decide) h)
      · refine c_blk ?_
        refine cd_loopG (M := fun k113 (s : Int × Int × Option sketch_Sketch × Option ring_Rings × sketch_Sketch.G × ring_Rings.G) => hawthornlaw08_TinyDuel_l1 a0 k113 s.1 s.2.1 s.2.2.1 s.2.2.2.1 = some p29) (Ef := fun (s : Int × Int × Option sketch_Sketch × Option ring_Rings × sketch_Sketch.G × ring_Rings.G) => [(5, pt b10 0), (7, vI (iand a0 7)), (8, vI (iand a1 7)), (9, vI s.1)]) (Rf := fun (s : Int × Int × Option sketch_Sketch × Option ring_Rings × sketch_Sketch.G × ring_Rings.G) => R) (Lf := fun (s : Int × Int × Option sketch_Sketch × Option ring_Rings × sketch_Sketch.G × ring_Rings.G) => Bk b10 86 [vI s.2.1, pv23, pv26] :: OwS true 9 1 eS v20 r19.1 :: rO (sketch_Sketch.op s.2.2.2.2.1) pv23 s.2.2.1 :: rO (ring_Rings.op s.2.2.2.2.2) pv26 s.2.2.2.1 :: F) (((iand a0 7) - 0).toNat + 1) (0, r19.2.most, r19.2.s, r19.2.r, g24, g27) hp32 ⟨rfl, rfl, rfl, rfl, trivial⟩ (fun _ h => st_pk 4 [1, 0, 2, 3] (by decide) h) (fun _ h => by cases h) fun k113 s hM115 => ?_
        obtain ⟨i_107, c_108, c_109, c_110, g111, g112⟩ := s
        have hm114 : hawthornlaw08_TinyDuel_l1 a0 (k113 + 1) i_107 c_108 c_109 c_110 = some p29 := hM115
        rw [hawthornlaw08_TinyDuel_l1] at hm114
        refine c_seq ?_
        refine c_seq ?_
        refine c_reg ?_
        refine r_u (o_mv rfl) ?_
        refine r_u (o_mv rfl) ?_
        refine r_u (o_bin rfl rfl (bI_lt i_107 (iand a0 7))) ?_
        refine r_nil ?_
        refine x_seq ?_
        refine c_if (b := decide (i_107 < (iand a0 7))) rfl (fun h116 => ?_) fun h116 => ?_
        · have hm117 := ift hm114 h116
          clear hm114
          refine c_skip ?_
          refine x_seq ?_
          refine c_seq ?_
          refine c_blk ?_
          refine c_reg ?_
          refine r_u (o_mv rfl) ?_
          obtain ⟨r118, hr118, hm119⟩ := bs hm117
          clear hm117
          refine rl_st (fun _ h => st_pk 4 [0, 2, 3, 1] (by decide) h) ?_
          refine r_c (s_w (o_call ca33 rfl (tiny_Tiny_Miss.ok b10 (⟨c_108, c_109, c_110⟩ : tiny_Tiny) (⟨(pv23, g111), (pv26, g112)⟩ : tiny_Tiny.G) [97] r118 hr118))) ?_
          refine r_nil ?_
          refine x_blk ?_
          refine x_seq ?_
          refine c_reg ?_
          refine r_u (o_mv rfl) ?_
          refine r_u (o_bin rfl rfl (bI_add i_107 1)) ?_
          refine r_u (o_as rfl) ?_
          refine r_nil ?_
          exact x_lp (i64 (i_107 + 1), r118.most, r118.s, r118.r, g111, g112) hm119 ⟨rfl, rfl, rfl, rfl, trivial⟩ (fun _ h => st_pk 4 [0, 3, 1, 2] (by decide) h)
        · have hm117 := iff_ hm114 h116
          clear hm114
          refine c_exit (x_exit (ks' := _) rfl ?_)
          obtain rfl := Option.some.inj hm117
          exact x_sub (K34 g111 g112) ⟨rfl, rfl, trivial⟩ (fun _ h => st_pk 4 [0, 1, 2, 3] (by decide) h)

def hawthornlaw08_few (a0 : Str) : Option Str :=
  if decide (80 < (a0.length : Int)) then (sl a0 0 80).bind fun s2 => some s2 else some a0
theorem hawthornlaw08_few.ok {G R F} (a0 : Str) (r : Str) (hm : hawthornlaw08_few a0 = some r) : CO Try.prog 29 [vS a0] G R (F)
    (Ret fun u R' L' => u = vS r ∧ R' = R ∧ L' = F) := by
  unfold hawthornlaw08_few at hm
  refine co_ofN (N := 9) Try.func29 rfl rfl ?_
  refine c_seq ?_
  refine c_reg ?_
  refine r_u (o_as rfl) ?_
  refine r_nil ?_
  refine x_seq ?_
  refine c_seq ?_
  refine c_seq ?_
  refine c_reg ?_
  refine r_u (o_mv rfl) ?_
  refine r_u (o_lenS Try.underlying9 rfl) ?_
  refine r_u (o_bin rfl rfl (bI_gt (a0.length : Int) 80)) ?_
  refine r_nil ?_
  refine x_seq ?_
  refine c_if (b := decide (80 < (a0.length : Int))) rfl (fun h0 => ?_) fun h0 => ?_
  · have hm1 := ift hm h0
    clear hm
    refine c_seq ?_
    refine c_reg ?_
    refine r_u (o_mv rfl) ?_
    obtain ⟨s2, hs2, hm3⟩ := bs hm1
    clear hm1
    refine r_u (o_slS (i := 0) (j := 80) Try.underlying9 rfl rfl rfl hs2) ?_
    refine r_u (o_as rfl) ?_
    refine r_nil ?_
    refine x_seq ?_
    refine c_ret ?_
    obtain rfl := Option.some.inj hm3
    exact x_r1 rfl (rv_t rfl) (Le.refl _) ⟨_, rfl, rfl, rfl, rfl⟩
  · have hm1 := iff_ hm h0
    clear hm
    refine c_skip ?_
    refine x_seq ?_
    refine c_seq ?_
    refine c_reg ?_
    refine r_u (o_mv rfl) ?_
    refine r_u (o_as rfl) ?_
    refine r_nil ?_
    refine x_seq ?_
    refine c_ret ?_
    obtain rfl := Option.some.inj hm1
    exact x_r1 rfl (rv_t rfl) (Le.refl _) ⟨_, rfl, rfl, rfl, rfl⟩

def hawthornlaw08_TinyKeeps_l1 (p73 : List Str) (r52 : List Str × tiny_Tiny) : Nat → Int → Option (Unit ⊕ ((Option tiny_Tiny × List Str) ⊕ (Unit ⊕ Bool)))
  | 0, _ => none
  | k90 + 1, j_89 => if decide (j_89 < (p73.length : Int)) then (gi p73 j_89).bind fun x95 => (tiny_Tiny_Has r52.2 x95).bind fun r97 => if !r97 then some (Sum.inr (Sum.inr (Sum.inr false))) else hawthornlaw08_TinyKeeps_l1 p73 r52 k90 (i64 (j_89 + 1)) else some (Sum.inl ())
def hawthornlaw08_TinyKeeps_l2 (l70 : List Str) (r52 : List Str × tiny_Tiny) : Nat → (List Str) → Int → Option (List Str)
  | 0, _, _ => none
  | k108 + 1, have_105, j_106 => if decide (j_106 < (l70.length : Int)) then Option.bind (if ((r52.1.length : Int) == 0) then some true else (gi l70 j_106).bind fun x132 => (gi r52.1 0).bind fun x134 => some (x132 != x134)) fun p113 => Option.bind (if p113 then (gi l70 j_106).bind fun x124 => (apd 16 have_105 [x124]).bind fun l128 => some l128 else some have_105) fun p117 => hawthornlaw08_TinyKeeps_l2 l70 r52 k108 p117 (i64 (j_106 + 1)) else some have_105
def hawthornlaw08_TinyKeeps_l3 (have_16 : List Str) (r38 : Str) : Nat → (List Str) → Int → Option (List Str)
  | 0, _, _ => none
  | k139 + 1, next_136, j_137 => if decide (j_137 < (have_16.length : Int)) then (gi have_16 j_137).bind fun x144 => Option.bind (if (x144 != r38) then (apd 16 next_136 [x144]).bind fun l155 => some l155 else some next_136) fun p146 => hawthornlaw08_TinyKeeps_l3 have_16 r38 k139 p146 (i64 (j_137 + 1)) else some next_136
def hawthornlaw08_TinyKeeps_l0 (a1 : List Str) : Nat → (Option tiny_Tiny) → (List Str) → Int → Option (Unit ⊕ Bool)
  | 0, _, _, _ => none
  | k22 + 1, t_15, have_16, i_17 => if (decide (i_17 < (a1.length : Int)) && decide (i_17 < 100)) then Option.bind ((gi a1 i_17).bind fun x36 => (hawthornlaw08_few x36).bind fun r38 => if decide (64 < (r38.length : Int)) then some (Sum.inl (t_15, have_16)) else om t_15 (none) fun x42 => (tiny_Tiny_Insert x42 r38).bind fun r52 => Option.bind (hawthornlaw08_TinyKeeps_l3 have_16 r38 (((have_16.length : Int) - 0).toNat + 1) [] 0) fun p63 => (apd 16 p63 [r38]).bind fun l70 => Option.bind (hawthornlaw08_TinyKeeps_l2 l70 r52 (((l70.length : Int) - 0).toNat + 1) [] 0) fun p73 => Option.bind (if decide (1 < (r52.1.length : Int)) then some true else (tiny_Tiny_Len r52.2).bind fun r103 => some (r103 != (p73.length : Int))) fun p78 => if p78 then some (Sum.inr (Sum.inr false)) else Option.bind (hawthornlaw08_TinyKeeps_l1 p73 r52 (((p73.length : Int) - 0).toNat + 1) 0) fun (p84 : Unit ⊕ ((Option tiny_Tiny × List Str) ⊕ (Unit ⊕ Bool))) => (match p84 with | Sum.inl q85 => some (Sum.inl ((some r52.2), p73)) | Sum.inr r => some r)) fun (p27 : (Option tiny_Tiny × List Str) ⊕ (Unit ⊕ Bool)) => (match p27 with | Sum.inl q28 => hawthornlaw08_TinyKeeps_l0 a1 k22 q28.1 q28.2 (i64 (i_17 + 1)) | Sum.inr r => some r) else some (Sum.inl ())
def hawthornlaw08_TinyKeeps (a0 : Int) (a1 : List Str) : Option Bool :=
  (tiny_New (i64 (1 + (iand a0 15))) 9).bind fun r0 => (hawthornlaw08_awake).bind fun r5 => if (!r5 || (r0.2 != 0)) then some false else Option.bind (hawthornlaw08_TinyKeeps_l0 a1 (((a1.length : Int) - 0).toNat + 1) r0.1 [] 0) fun (p10 : Unit ⊕ Bool) => (match p10 with | Sum.inl q11 => some true | Sum.inr r => some r)
theorem hawthornlaw08_TinyKeeps.ok {G R F} (a0 : Int) (v1_ : Value) (a1 : List Str) (h1_ : RoS R v1_ 1 (fun x => [vS x]) a1) (r : Bool) (hm : hawthornlaw08_TinyKeeps a0 a1 = some r) : CO Try.prog 8 [vI a0, v1_] G R (F)
    (Ret fun u R' L' => u = vB r ∧ R' = R ∧ L' = F) := by
  unfold hawthornlaw08_TinyKeeps at hm
  refine co_ofN (N := 126) Try.func8 rfl rfl ?_
  refine c_seq ?_
  refine c_reg ?_
  refine r_u (o_as rfl) ?_
  refine r_nil ?_
  refine x_seq ?_
  refine c_seq ?_
  refine c_reg ?_
  refine r_u (o_mv rfl) ?_
  refine r_u (o_bin rfl rfl (bI_and a0 15)) ?_
  refine r_u (o_bin rfl rfl (bI_add 1 (iand a0 15))) ?_
  refine r_u (o_as rfl) ?_
  refine r_nil ?_
  refine x_seq ?_
  refine c_seq ?_
  refine c_reg ?_
  refine r_u (o_mv rfl) ?_
  obtain ⟨r0, hr0, hm4⟩ := bs hm
  clear hm
  refine r_sw (s_w (o_call ca27 rfl (tiny_New.ok (i64 (1 + (iand a0 15))) 9 r0 hr0))) ?_
  rintro _ R _ _ ⟨⟨pv2, g3⟩, rfl, rfl, rfl⟩
  refine r_u (o_mv rfl) ?_
  refine r_u (o_ext rfl rfl) ?_
  refine r_u (o_ext rfl rfl) ?_
  refine r_u (o_as rfl) ?_
  refine r_u (o_as rfl) ?_
  refine r_nil ?_
  refine x_seq ?_
  refine c_seq ?_
  refine c_seq ?_
  refine c_reg ?_
  obtain ⟨r5, hr5, hm6⟩ := bs hm4
  clear hm4
  refine r_u (o_callq ca28 rfl (hawthornlaw08_awake.ok r5 hr5)) ?_
  refine r_u (o_not rfl) ?_
  refine r_u (o_mv rfl) ?_
  refine r_s (s_gf rfl rfl fun g => o_mv rfl) ?_
  refine r_s (s_gf rfl rfl fun g => o_bin (evg rfl g) rfl (bI_ne r0.2 0)) ?_
  refine r_u (o_or rfl rfl) ?_
  refine r_nil ?_
  refine x_seq ?_
  refine c_if (b := (!r5 || (r0.2 != 0))) rfl (fun h7 => ?_) fun h7 => ?_
  · have hm8 := ift hm6 h7
    clear hm6
    refine c_seq ?_
    refine c_reg ?_
    refine r_u (o_as rfl) ?_
    refine r_nil ?_
    refine x_seq ?_
    refine c_ret ?_
    obtain rfl := Option.some.inj hm8
    refine ex_st (fun _ h => st_pk 1 [] (by decide) h) ?_
    exact x_r1 rfl (rv_t rfl) (Le.refl _) ⟨_, rfl, rfl, rfl, rfl⟩
  · have hm8 := iff_ hm6 h7
    clear hm6
    refine c_skip ?_
    refine x_seq ?_
    refine c_seq ?_
    refine c_reg ?_
    refine r_sw (s_w (o_bsl (en := eS) (sz := 1) (e := 9) (cs := []) (r := []) rfl (fun _ => by kernel_rfl) rfl (by decide) rfl (fun _ => rfl))) ?_
    rintro v9 R _ _ ⟨rfl, rfl⟩
    refine r_u (o_as rfl) ?_
    refine r_nil ?_
    refine x_seq ?_
    refine c_seq ?_
    refine c_seq ?_
    refine c_reg ?_
    refine r_u (o_as rfl) ?_
    refine r_nil ?_
    refine x_seq ?_
    obtain ⟨p10, hp12, hm13⟩ := bs hm8
    refine cd_joinS (p := p10) (Ef := fun q11 => []) (Lf := fun q11 => F) (fun q11 hq => ?_) fun K14 => ?_
    · subst hq
      try dsimp only at hm13
      refine x_seq ?_
      refine c_seq ?_
      refine c_reg ?_
      refine r_u (o_as rfl) ?_
      refine r_nil ?_
      refine x_seq ?_
      refine c_ret ?_
      obtain rfl := Option.some.inj hm13
      exact x_r1 rfl (rv_t rfl) (Le.refl _) ⟨_, rfl, rfl, rfl, rfl⟩
    · refine c_blk ?_
      refine cd_loopG (M := fun k22 (s : Option tiny_Tiny × List Str × Int × (Value × tiny_Tiny.G) × Value) => hawthornlaw08_TinyKeeps_l0 a1 k22 s.1 s.2.1 s.2.2.1 = some p10) (Ef := fun (s : Option tiny_Tiny × List Str × Int × (Value × tiny_Tiny.G) × Value) => [(1, v1_), (6, s.2.2.2.1.1), (8, s.2.2.2.2), (9, vI s.2.2.1)]) (Rf := fun (s : Option tiny_Tiny × List Str × Int × (Value × tiny_Tiny.G) × Value) => R) (Lf := fun (s : Option tiny_Tiny × List Str × Int × (Value × tiny_Tiny.G) × Value) => rO (tiny_Tiny.op s.2.2.2.1.2) s.2.2.2.1.1 s.1 :: OwS true 9 1 eS s.2.2.2.2 s.2.1 :: F) (((a1.length : Int) - 0).toNat + 1) (r0.1, [], 0, (pv2, g3), v9) hp12 ⟨rfl, rfl, rfl, rfl, trivial⟩ (fun _ h => st_pk 2 [1, 0] (by decide) h) (fun _ h => by cases h) fun k22 s hM24 => ?_
      obtain ⟨t_15, have_16, i_17, pv18, g21⟩ := s
      have hm23 : hawthornlaw08_TinyKeeps_l0 a1 (k22 + 1) t_15 have_16 i_17 = some p10 := hM24
      rw [hawthornlaw08_TinyKeeps_l0] at hm23
      obtain ⟨pv19, g20⟩ := pv18
      refine c_seq ?_
      refine c_seq ?_
      refine c_reg ?_
      refine r_u (o_mv rfl) ?_
      refine r_u (o_mv rfl) ?_
      refine r_u (o_lenR Try.underlying23 rfl h1_) ?_
      refine r_u (o_bin rfl rfl (bI_lt i_17 (a1.length : Int))) ?_
      refine r_u (o_mv rfl) ?_
      refine r_s (s_gt rfl rfl fun g => o_mv rfl) ?_
      refine r_s (s_gt rfl rfl fun g => o_bin (evg rfl g) rfl (bI_lt i_17 100)) ?_
      refine r_u (o_and rfl rfl) ?_
      refine r_nil ?_
      refine x_seq ?_
      refine c_if (b := (decide (i_17 < (a1.length : Int)) && decide (i_17 < 100))) rfl (fun h25 => ?_) fun h25 => ?_
      · have hm26 := ift hm23 h25
        clear hm23
        refine c_skip ?_
        refine x_seq ?_
        refine c_seq ?_
        obtain ⟨p27, hp33, hm34⟩ := bs hm26
        refine cd_cut (fun x ks => ∀ (q28 : Option tiny_Tiny × List Str), ∀ (_ : p27 = Sum.inl q28), ∀ (pv29 : Value × tiny_Tiny.G), ∀ (g32 : Value), EX x .normal ks [(1, v1_), (9, vI i_17), (6, pv29.1), (8, g32)] R (rO (tiny_Tiny.op pv29.2) pv29.1 q28.1 :: OwS true 9 1 eS g32 q28.2 :: F)) ?_ fun K35 => ?_
        · intro q28 hq pv29 g32
          subst hq
          try dsimp only at hm34
          obtain ⟨pv30, g31⟩ := pv29
          refine x_seq ?_
          refine c_reg ?_
          refine r_u (o_mv rfl) ?_
          refine r_u (o_bin rfl rfl (bI_add i_17 1)) ?_
          refine r_u (o_as rfl) ?_
          refine r_nil ?_
          exact x_lp (q28.1, q28.2, i64 (i_17 + 1), (pv30, g31), g32) hm34 ⟨rfl, rfl, rfl, rfl, trivial⟩ (fun _ h => st_pk 2 [0, 1] (by decide) h)
        · refine c_blk ?_
          refine c_seq ?_
          refine c_reg ?_
          refine r_u (o_mv rfl) ?_
          refine r_u (o_mv rfl) ?_
          obtain ⟨x36, hx36, hm37⟩ := bs hp33
          clear hp33
          obtain ⟨b36, o36, l36, T36, fr36, c36, hv36, hR36, he36, hi36⟩ := RoS.ne h1_ hx36
          refine r_u (o_ix (sz := 1) Try.underlying23 (fun _ => by kernel_rfl) rfl rfl hv36 hi36) ?_
          refine r_u (o_ldR sc9 rfl hR36 (rok 0 he36 (by decide))) ?_
          obtain ⟨r38, hr38, hm39⟩ := bs hm37
          clear hm37
          refine r_u (o_callq ca29 rfl (hawthornlaw08_few.ok x36 r38 hr38)) ?_
          refine r_u (o_as rfl) ?_
          refine r_nil ?_
          refine x_seq ?_
          refine c_seq ?_
          refine c_seq ?_
          refine c_reg ?_
          refine r_u (o_mv rfl) ?_
          refine r_u (o_lenS Try.underlying9 rfl) ?_
          refine r_u (o_bin rfl rfl (bI_gt (r38.length : Int) 64)) ?_
          refine r_nil ?_
          refine x_seq ?_
          refine c_if (b := decide (64 < (r38.length : Int))) rfl (fun h40 => ?_) fun h40 => ?_
          · have hm41 := ift hm39 h40
            clear hm39
            refine c_exit (x_exit (ks' := _) rfl ?_)
            obtain rfl := Option.some.inj hm41
            exact x_sub (K35 _ rfl (pv19, g20) g21) ⟨rfl, rfl, rfl, rfl, trivial⟩ (fun _ h => st_pk 2 [0, 1] (by decide) h)
          · have hm41 := iff_ hm39 h40
            clear hm39
            refine c_skip ?_
            refine x_seq ?_
            refine c_seq ?_
            refine cd_opt (fun ho44 => ?_) (fun x42 b43 ho44 => ?_)
            · rintro rfl
              have hm45 := om_n hm41 ho44
              clear hm41
              cases hm45
            · rintro rfl
              have hm45 := om_s hm41 ho44
              clear hm41
              obtain ⟨⟨pv47, g48⟩, ⟨pv50, g51⟩⟩ := g20
              refine cd_st (fun _ h => st_star_o h) ?_
              refine c_reg ?_
              refine r_u (o_mv rfl) ?_
              refine r_u (o_mv rfl) ?_
              obtain ⟨r52, hr52, hm61⟩ := bs hm45
              clear hm45
              refine r_sw (s_w (o_call ca30 rfl (tiny_Tiny_Insert.ok b43 x42 (⟨(pv47, g48), (pv50, g51)⟩ : tiny_Tiny.G) r38 r52 hr52))) ?_
              rintro v53 R _ _ ⟨_, ⟨⟨pv56, g57⟩, ⟨pv59, g60⟩⟩, rfl, rfl, rfl⟩
              refine r_u (o_as rfl) ?_
              refine r_nil ?_
              refine x_seq ?_
              refine c_seq ?_
              refine c_reg ?_
              refine r_sw (s_w (o_bsl (en := eS) (sz := 1) (e := 9) (cs := []) (r := []) rfl (fun _ => by kernel_rfl) rfl (by decide) rfl (fun _ => rfl))) ?_
              rintro v62 R _ _ ⟨rfl, rfl⟩
              refine r_u (o_as rfl) ?_
              refine r_nil ?_
              refine x_seq ?_
              refine c_seq ?_
              refine c_seq ?_
              refine c_reg ?_
              refine r_u (o_as rfl) ?_
              refine r_nil ?_
              refine x_seq ?_
              obtain ⟨p63, hp65, hm66⟩ := bs hm61
              refine cd_cut (fun x ks => ∀ (g64 : Value), EX x .normal ks [(1, v1_), (6, pt b43 0), (9, vI i_17), (10, vS r38), (11, v53), (12, g64)] R (Bk b43 86 [vI r52.2.most, pv56, pv59] :: OwS true 9 1 eS v53 r52.1 :: rO (sketch_Sketch.op g57) pv56 r52.2.s :: rO (ring_Rings.op g60) pv59 r52.2.r :: OwS true 9 1 eS g21 have_16 :: OwS true 9 1 eS g64 p63 :: F)) ?_ fun K67 => ?_
              · intro g64
                refine x_seq ?_
                refine c_seq ?_
                refine c_reg ?_
                refine r_u (o_mv rfl) ?_
                refine r_u (o_mv rfl) ?_
                refine r_sw (s_w (o_bsl (en := eS) (sz := 1) (e := 9) (cs := [vS r38]) (r := [r38]) rfl (fun _ => by kernel_rfl) rfl (by decide) rfl (fun _ => rfl))) ?_
                rintro v68 R _ _ ⟨rfl, rfl⟩
                obtain ⟨l70, hl70, hm71⟩ := bs hm66
                clear hm66
                refine rl_st (fun _ h => st_pk 7 [6, 0, 1, 2, 3, 4, 5] (by decide) h) ?_
                refine r_sw (s_w (o_ap (sz := 1) (bytes := 16) 0 Try.underlying23 rfl rfl rfl rfl rfl (by decide) (by decide) (fun _ _ _ h => by simp at h; subst h; rfl) (fun _ => rfl) rfl rfl rfl rfl (Nat.succ_pos _) hl70)) ?_
                rintro v69 R _ _ ⟨rfl, rfl⟩
                refine r_u (o_as rfl) ?_
                refine r_nil ?_
                refine x_seq ?_
                refine c_seq ?_
                refine c_reg ?_
                refine r_sw (s_w (o_bsl (en := eS) (sz := 1) (e := 9) (cs := []) (r := []) rfl (fun _ => by kernel_rfl) rfl (by decide) rfl (fun _ => rfl))) ?_
                rintro v72 R _ _ ⟨rfl, rfl⟩
                refine r_u (o_as rfl) ?_
                refine r_nil ?_
                refine x_seq ?_
                refine c_seq ?_
                refine c_seq ?_
                refine c_reg ?_
                refine r_u (o_as rfl) ?_
                refine r_nil ?_
                refine x_seq ?_
                obtain ⟨p73, hp75, hm76⟩ := bs hm71
                refine cd_cut (fun x ks => ∀ (g74 : Value), EX x .normal ks [(1, v1_), (6, pt b43 0), (9, vI i_17), (11, v53), (8, g74)] R (Bk b43 86 [vI r52.2.most, pv56, pv59] :: OwS true 9 1 eS v69 l70 :: OwS true 9 1 eS v68 [r38] :: OwS true 9 1 eS v53 r52.1 :: rO (sketch_Sketch.op g57) pv56 r52.2.s :: rO (ring_Rings.op g60) pv59 r52.2.r :: OwS true 9 1 eS g21 have_16 :: OwS true 9 1 eS g74 p73 :: F)) ?_ fun K77 => ?_
                · intro g74
                  refine x_seq ?_
                  refine c_seq ?_
                  refine c_seq ?_
                  obtain ⟨p78, hp79, hm80⟩ := bs hm76
                  refine cd_join (E' := [(1, v1_), (6, pt b43 0), (8, g74), (9, vI i_17), (112, vB p78)]) (L' := Bk b43 86 [vI r52.2.most, pv56, pv59] :: OwS true 9 1 eS v69 l70 :: OwS true 9 1 eS v68 [r38] :: OwS true 9 1 eS v53 r52.1 :: rO (sketch_Sketch.op g57) pv56 r52.2.s :: rO (ring_Rings.op g60) pv59 r52.2.r :: OwS true 9 1 eS g21 have_16 :: OwS true 9 1 eS g74 p73 :: F) ?_ fun K81 => ?_
                  · refine x_seq ?_
                    refine c_if (b := p78) rfl (fun h82 => ?_) fun h82 => ?_
                    · have hm83 := ift hm80 h82
                      clear hm80
                      refine c_seq ?_
                      refine c_reg ?_
                      refine r_u (o_as rfl) ?_
                      refine r_nil ?_
                      refine x_seq ?_
                      refine c_ret ?_
                      obtain rfl := Option.some.inj hm83
                      try dsimp only at hm34
                      obtain rfl := Option.some.inj hm34
                      try dsimp only at hm13
                      obtain rfl := Option.some.inj hm13
                      refine ex_st (fun _ h => st_pk 8 [] (by decide) h) ?_
                      exact x_r1 rfl (rv_t rfl) (Le.refl _) ⟨_, rfl, rfl, rfl, rfl⟩
                    · have hm83 := iff_ hm80 h82
                      clear hm80
                      refine c_skip ?_
                      refine x_seq ?_
                      refine c_seq ?_
                      refine c_reg ?_
                      refine r_u (o_as rfl) ?_
                      refine r_nil ?_
                      refine x_seq ?_
                      obtain ⟨p84, hp86, hm87⟩ := bs hm83
                      refine cd_joinS (p := p84) (Ef := fun q85 => [(1, v1_), (6, pt b43 0), (8, g74), (9, vI i_17)]) (Lf := fun q85 => Bk b43 86 [vI r52.2.most, pv56, pv59] :: OwS true 9 1 eS v69 l70 :: OwS true 9 1 eS v68 [r38] :: OwS true 9 1 eS v53 r52.1 :: rO (sketch_Sketch.op g57) pv56 r52.2.s :: rO (ring_Rings.op g60) pv59 r52.2.r :: OwS true 9 1 eS g21 have_16 :: OwS true 9 1 eS g74 p73 :: F) (fun q85 hq => ?_) fun K88 => ?_
                      · subst hq
                        try dsimp only at hm87
                        refine x_blk ?_
                        refine ex_st (fun _ h => st_pk 8 [0, 4, 5, 1, 2, 3, 6, 7] (by decide) h) ?_
                        refine ex_st (fun _ h => st_some (f := tiny_Tiny.op (⟨(pv56, g57), (pv59, g60)⟩ : tiny_Tiny.G)) (a := r52.2) (st_star_f (A := tiny_Tiny.fl b43 r52.2 (⟨(pv56, g57), (pv59, g60)⟩ : tiny_Tiny.G)) h)) ?_
                        obtain rfl := Option.some.inj hm87
                        exact x_sub (K35 _ rfl (pt b43 0, (⟨(pv56, g57), (pv59, g60)⟩ : tiny_Tiny.G)) g74) ⟨rfl, rfl, rfl, rfl, trivial⟩ (fun _ h => st_pk 6 [0, 5] (by decide) h)
                      · refine c_blk ?_
                        refine cd_loop (M := fun k90 (j_89 : Int) => hawthornlaw08_TinyKeeps_l1 p73 r52 k90 j_89 = some p84) (Ef := fun (j_89 : Int) => [(1, v1_), (6, pt b43 0), (8, g74), (9, vI i_17), (15, vI j_89)]) (Lf := fun (j_89 : Int) => Bk b43 86 [vI r52.2.most, pv56, pv59] :: OwS true 9 1 eS v69 l70 :: OwS true 9 1 eS v68 [r38] :: OwS true 9 1 eS v53 r52.1 :: rO (sketch_Sketch.op g57) pv56 r52.2.s :: rO (ring_Rings.op g60) pv59 r52.2.r :: OwS true 9 1 eS g21 have_16 :: OwS true 9 1 eS g74 p73 :: F) (((p73.length : Int) - 0).toNat + 1) 0 hp86 ⟨rfl, rfl, rfl, rfl, rfl, trivial⟩ (fun _ h => h) (fun _ h => by cases h) fun k90 j_89 hM92 => ?_
                        have hm91 : hawthornlaw08_TinyKeeps_l1 p73 r52 (k90 + 1) j_89 = some p84 := hM92
                        rw [hawthornlaw08_TinyKeeps_l1] at hm91
                        refine c_seq ?_
                        refine c_seq ?_
                        refine c_reg ?_
                        refine r_u (o_mv rfl) ?_
                        refine r_u (o_mv rfl) ?_
                        refine r_u (o_lenO 7 Try.underlying23 rfl rfl) ?_
                        refine r_u (o_bin rfl rfl (bI_lt j_89 (p73.length : Int))) ?_
                        refine r_nil ?_
                        refine x_seq ?_
                        refine c_if (b := decide (j_89 < (p73.length : Int))) rfl (fun h93 => ?_) fun h93 => ?_
                        · have hm94 := ift hm91 h93
                          clear hm91
                          refine c_skip ?_
                          refine x_seq ?_
                          refine c_seq ?_
                          refine c_blk ?_
                          refine c_seq ?_
                          refine c_reg ?_
                          refine r_u (o_mv rfl) ?_
                          refine r_u (o_mv rfl) ?_
                          refine r_u (o_mv rfl) ?_
                          obtain ⟨x95, hx95, hm96⟩ := bs hm94
                          clear hm94
                          refine r_u (o_ixO 7 Try.underlying23 (fun _ => by kernel_rfl) rfl rfl rfl hx95) ?_
                          refine r_u (o_ldO0 7 sc9 rfl rfl hx95 rfl rfl) ?_
                          obtain ⟨r97, hr97, hm98⟩ := bs hm96
                          clear hm96
                          refine rl_st (fun _ h => st_pk 8 [0, 4, 5, 1, 2, 3, 6, 7] (by decide) h) ?_
                          refine r_c (s_w (o_call ca32 rfl (tiny_Tiny_Has.ok b43 r52.2 (⟨(pv56, g57), (pv59, g60)⟩ : tiny_Tiny.G) x95 r97 hr97))) ?_
                          refine r_u (o_not rfl) ?_
                          refine r_nil ?_
                          refine x_seq ?_
                          refine c_if (b := !r97) rfl (fun h99 => ?_) fun h99 => ?_
                          · have hm100 := ift hm98 h99
                            clear hm98
                            refine c_seq ?_
                            refine c_reg ?_
                            refine r_u (o_as rfl) ?_
                            refine r_nil ?_
                            refine x_seq ?_
                            refine c_ret ?_
                            obtain rfl := Option.some.inj hm100
                            try dsimp only at hm87
                            obtain rfl := Option.some.inj hm87
                            try dsimp only at hm34
                            obtain rfl := Option.some.inj hm34
                            try dsimp only at hm13
                            obtain rfl := Option.some.inj hm13
                            refine ex_st (fun _ h => st_pk 8 [] (by decide) h) ?_
                            exact x_r1 rfl (rv_t rfl) (Le.refl _) ⟨_, rfl, rfl, rfl, rfl⟩
                          · have hm100 := iff_ hm98 h99
                            clear hm98
                            refine c_skip ?_
                            refine x_blk ?_
                            refine x_seq ?_
                            refine c_reg ?_
                            refine r_u (o_mv rfl) ?_
                            refine r_u (o_bin rfl rfl (bI_add j_89 1)) ?_
                            refine r_u (o_as rfl) ?_
                            refine r_nil ?_
                            exact x_lp (i64 (j_89 + 1)) hm100 ⟨rfl, rfl, rfl, rfl, rfl, trivial⟩ (fun _ h => st_pk 8 [0, 3, 4, 5, 1, 2, 6, 7] (by decide) h)
                        · have hm94 := iff_ hm91 h93
                          clear hm91
                          refine c_exit (x_exit (ks' := _) rfl ?_)
                          obtain rfl := Option.some.inj hm94
                          exact x_sub (K88 _ rfl) ⟨rfl, rfl, rfl, rfl, trivial⟩ (fun _ h => st_pk 8 [0, 1, 2, 3, 4, 5, 6, 7] (by decide) h)
                  · refine cd_by (decide (1 < (r52.1.length : Int))) (fun h101 => ?_) fun h101 => ?_
                    · have hm102 := ift hp79 h101
                      clear hp79
                      refine c_reg ?_
                      refine r_u (o_mv rfl) ?_
                      refine r_u (o_lenO 3 Try.underlying23 rfl rfl) ?_
                      refine r_u (o_bin rfl rfl (bI_gt (r52.1.length : Int) 1)) ?_
                      refine r_u (o_mv rfl) ?_
                      refine r_s (s_n rfl rfl h101) ?_
                      refine r_s (s_n rfl rfl h101) ?_
                      refine r_s (s_n rfl rfl h101) ?_
                      refine r_s (s_n rfl rfl h101) ?_
                      refine r_s (s_n rfl rfl h101) ?_
                      refine r_u (o_pt rfl h101 rfl) ?_
                      refine r_nil ?_
                      obtain rfl := Option.some.inj hm102
                      exact x_sub K81 ⟨rfl, rfl, rfl, rfl, rfl, trivial⟩ (fun _ h => st_pk 8 [0, 1, 2, 3, 4, 5, 6, 7] (by decide) h)
                    · have hm102 := iff_ hp79 h101
                      clear hp79
                      refine c_reg ?_
                      refine r_u (o_mv rfl) ?_
                      refine r_u (o_lenO 3 Try.underlying23 rfl rfl) ?_
                      refine r_u (o_bin rfl rfl (bI_gt (r52.1.length : Int) 1)) ?_
                      refine r_u (o_mv rfl) ?_
                      refine r_s (s_y rfl rfl h101 (o_mv rfl)) ?_
                      obtain ⟨r103, hr103, hm104⟩ := bs hm102
                      clear hm102
                      refine rl_st (fun _ h => st_pk 8 [0, 4, 5, 1, 2, 3, 6, 7] (by decide) h) ?_
                      refine r_c (s_yw rfl rfl h101 (o_call ca31 rfl (tiny_Tiny_Len.ok b43 r52.2 (⟨(pv56, g57), (pv59, g60)⟩ : tiny_Tiny.G) r103 hr103))) ?_
                      refine r_s (s_y rfl rfl h101 (o_mv rfl)) ?_
                      refine r_s (s_y rfl rfl h101 (o_lenO 7 Try.underlying23 rfl rfl)) ?_
                      refine r_s (s_y rfl rfl h101 (o_bin rfl rfl (bI_ne r103 (p73.length : Int)))) ?_
                      refine r_u (o_pf rfl h101 rfl) ?_
                      refine r_nil ?_
                      obtain rfl := Option.some.inj hm104
                      exact x_sub K81 ⟨rfl, rfl, rfl, rfl, rfl, trivial⟩ (fun _ h => st_pk 8 [0, 3, 4, 5, 1, 2, 6, 7] (by decide) h)
                · refine c_blk ?_
                  refine cd_loopG (M := fun k108 (s : List Str × Int × Value) => hawthornlaw08_TinyKeeps_l2 l70 r52 k108 s.1 s.2.1 = some p73) (Ef := fun (s : List Str × Int × Value) => [(1, v1_), (6, pt b43 0), (9, vI i_17), (11, v53), (12, v69), (8, s.2.2), (14, vI s.2.1)]) (Rf := fun (s : List Str × Int × Value) => R) (Lf := fun (s : List Str × Int × Value) => Bk b43 86 [vI r52.2.most, pv56, pv59] :: OwS true 9 1 eS v69 l70 :: OwS true 9 1 eS v68 [r38] :: OwS true 9 1 eS v53 r52.1 :: rO (sketch_Sketch.op g57) pv56 r52.2.s :: rO (ring_Rings.op g60) pv59 r52.2.r :: OwS true 9 1 eS g21 have_16 :: OwS true 9 1 eS s.2.2 s.1 :: F) (((l70.length : Int) - 0).toNat + 1) ([], 0, v72) hp75 ⟨rfl, rfl, rfl, rfl, rfl, rfl, rfl, trivial⟩ (fun _ h => st_pk 8 [3, 1, 2, 4, 5, 6, 7, 0] (by decide) h) (fun _ h => by cases h) fun k108 s hM110 => ?_
                  obtain ⟨have_105, j_106, g107⟩ := s
                  have hm109 : hawthornlaw08_TinyKeeps_l2 l70 r52 (k108 + 1) have_105 j_106 = some p73 := hM110
                  rw [hawthornlaw08_TinyKeeps_l2] at hm109
                  refine c_seq ?_
                  refine c_seq ?_
                  refine c_reg ?_
                  refine r_u (o_mv rfl) ?_
                  refine r_u (o_mv rfl) ?_
                  refine r_u (o_lenO 1 Try.underlying23 rfl rfl) ?_
                  refine r_u (o_bin rfl rfl (bI_lt j_106 (l70.length : Int))) ?_
                  refine r_nil ?_
                  refine x_seq ?_
                  refine c_if (b := decide (j_106 < (l70.length : Int))) rfl (fun h111 => ?_) fun h111 => ?_
                  · have hm112 := ift hm109 h111
                    clear hm109
                    refine c_skip ?_
                    refine x_seq ?_
                    refine c_seq ?_
                    refine c_blk ?_
                    refine c_seq ?_
                    obtain ⟨p113, hp114, hm115⟩ := bs hm112
                    refine cd_join (E' := [(1, v1_), (6, pt b43 0), (8, g107), (9, vI i_17), (11, v53), (12, v69), (14, vI j_106), (95, vB p113)]) (L' := Bk b43 86 [vI r52.2.most, pv56, pv59] :: OwS true 9 1 eS v69 l70 :: OwS true 9 1 eS v68 [r38] :: OwS true 9 1 eS v53 r52.1 :: rO (sketch_Sketch.op g57) pv56 r52.2.s :: rO (ring_Rings.op g60) pv59 r52.2.r :: OwS true 9 1 eS g21 have_16 :: OwS true 9 1 eS g107 have_105 :: F) ?_ fun K116 => ?_
                    · refine x_seq ?_
                      obtain ⟨p117, hp119, hm120⟩ := bs hm115
                      refine cd_cut (fun x ks => ∀ (g118 : Value), EX x .normal ks [(1, v1_), (6, pt b43 0), (9, vI i_17), (11, v53), (12, v69), (14, vI j_106), (8, g118)] R (Bk b43 86 [vI r52.2.most, pv56, pv59] :: OwS true 9 1 eS v69 l70 :: OwS true 9 1 eS v68 [r38] :: OwS true 9 1 eS v53 r52.1 :: rO (sketch_Sketch.op g57) pv56 r52.2.s :: rO (ring_Rings.op g60) pv59 r52.2.r :: OwS true 9 1 eS g21 have_16 :: OwS true 9 1 eS g118 p117 :: F)) ?_ fun K121 => ?_
                      · intro g118
                        refine x_blk ?_
                        refine x_seq ?_
                        refine c_reg ?_
                        refine r_u (o_mv rfl) ?_
                        refine r_u (o_bin rfl rfl (bI_add j_106 1)) ?_
                        refine r_u (o_as rfl) ?_
                        refine r_nil ?_
                        exact x_lp (p117, i64 (j_106 + 1), g118) hm120 ⟨rfl, rfl, rfl, rfl, rfl, rfl, rfl, trivial⟩ (fun _ h => st_pk 8 [0, 1, 2, 3, 4, 5, 6, 7] (by decide) h)
                      · refine c_if (b := p113) rfl (fun h122 => ?_) fun h122 => ?_
                        · have hm123 := ift hp119 h122
                          clear hp119
                          refine c_reg ?_
                          refine r_u (o_mv rfl) ?_
                          refine r_u (o_mv rfl) ?_
                          refine r_u (o_mv rfl) ?_
                          obtain ⟨x124, hx124, hm125⟩ := bs hm123
                          clear hm123
                          refine r_u (o_ixO 1 Try.underlying23 (fun _ => by kernel_rfl) rfl rfl rfl hx124) ?_
                          refine r_u (o_ldO0 1 sc9 rfl rfl hx124 rfl rfl) ?_
                          refine r_sw (s_w (o_bsl (en := eS) (sz := 1) (e := 9) (cs := [vS x124]) (r := [x124]) rfl (fun _ => by kernel_rfl) rfl (by decide) rfl (fun _ => rfl))) ?_
                          rintro v126 R _ _ ⟨rfl, rfl⟩
                          obtain ⟨l128, hl128, hm129⟩ := bs hm125
                          clear hm125
                          refine rl_st (fun _ h => st_pk 9 [8, 0, 1, 2, 3, 4, 5, 6, 7] (by decide) h) ?_
                          refine r_sw (s_w (o_ap (sz := 1) (bytes := 16) 0 Try.underlying23 rfl rfl rfl rfl rfl (by decide) (by decide) (fun _ _ _ h => by simp at h; subst h; rfl) (fun _ => rfl) rfl rfl rfl rfl (Nat.succ_pos _) hl128)) ?_
                          rintro v127 R _ _ ⟨rfl, rfl⟩
                          refine r_u (o_as rfl) ?_
                          refine r_nil ?_
                          obtain rfl := Option.some.inj hm129
                          exact x_sub (K121 v127) ⟨rfl, rfl, rfl, rfl, rfl, rfl, rfl, trivial⟩ (fun _ h => st_pk 9 [2, 3, 4, 5, 6, 7, 8, 0] (by decide) h)
                        · have hm123 := iff_ hp119 h122
                          clear hp119
                          refine c_skip ?_
                          obtain rfl := Option.some.inj hm123
                          exact x_sub (K121 g107) ⟨rfl, rfl, rfl, rfl, rfl, rfl, rfl, trivial⟩ (fun _ h => st_pk 8 [0, 1, 2, 3, 4, 5, 6, 7] (by decide) h)
                    · refine cd_by ((r52.1.length : Int) == 0) (fun h130 => ?_) fun h130 => ?_
                      · have hm131 := ift hp114 h130
                        clear hp114
                        refine c_any mixed (effs := []) (V := []) ?_
                        refine stage_ext [(0, v53), (1, vI (r52.1.length : Int)), (2, vB ((r52.1.length : Int) == 0)), (3, vB ((r52.1.length : Int) == 0)), (4, undef), (5, undef), (6, undef), (7, undef), (8, undef), (9, undef), (10, undef), (11, undef), (12, vB true)] rfl ?_
                        refine stage rfl rfl rfl rfl [0, 1, 3, 7, 15, 15, 63, 127, 15, 271, 783, 2047, 4095] [0, 1, 2, 3, 4, 5, 6, 7, 8, 9, 10, 11, 12] [] rfl rfl rfl (qc rfl rfl (s_u (o_mv rfl)) (qc rfl rfl (s_u (o_lenO 3 Try.underlying23 rfl rfl)) (qc rfl rfl (s_u (o_bin rfl rfl (bI_eq (r52.1.length : Int) 0))) (qc rfl rfl (s_u (o_mv rfl)) (qc rfl rfl (s_n rfl rfl h130) (qc rfl rfl (s_n rfl rfl h130) (qc rfl rfl (s_n rfl rfl h130) (qc rfl rfl (s_n rfl rfl h130) (qc rfl rfl (s_n rfl rfl h130) (qc rfl rfl (s_n rfl rfl h130) (qc rfl rfl (s_n rfl rfl h130) (qc rfl rfl (s_n rfl rfl h130) (qc rfl rfl (s_u (o_pt rfl h130 rfl)) qn))))))))))))) en ?_
                        intro _
                        refine ex_sub (E' := [(1, v1_), (6, pt b43 0), (9, vI i_17), (11, v53), (12, v69), (8, g107), (14, vI j_106), (95, vB true)]) ⟨rfl, rfl, rfl, rfl, rfl, rfl, rfl, rfl, trivial⟩ ?_
                        obtain rfl := Option.some.inj hm131
                        exact x_sub K116 ⟨rfl, rfl, rfl, rfl, rfl, rfl, rfl, rfl, trivial⟩ (fun _ h => st_pk 8 [0, 1, 2, 3, 4, 5, 6, 7] (by decide) h)
                      · have hm131 := iff_ hp114 h130
                        clear hp114
                        obtain ⟨x132, hx132, hm133⟩ := bs hm131
                        clear hm131
                        obtain ⟨x134, hx134, hm135⟩ := bs hm133
                        clear hm133
                        refine c_any mixed (effs := []) (V := []) ?_
                        refine stage_ext [(0, v53), (1, vI (r52.1.length : Int)), (2, vB ((r52.1.length : Int) == 0)), (3, vB ((r52.1.length : Int) == 0)), (4, v69), (5, vI j_106), (6, pt (sb v69) (so v69 + j_106.toNat * 1)), (7, vS x132), (8, v53), (9, pt (sb v53) (so v53 + (0 : Int).toNat * 1)), (10, vS x134), (11, vB (x132 != x134)), (12, vB (x132 != x134))] rfl ?_
                        refine stage rfl rfl rfl rfl [0, 1, 3, 7, 15, 15, 63, 127, 15, 271, 783, 2047, 4095] [0, 1, 2, 3, 4, 5, 6, 7, 8, 9, 10, 11, 12] [] rfl rfl rfl (qc rfl rfl (s_u (o_mv rfl)) (qc rfl rfl (s_u (o_lenO 3 Try.underlying23 rfl rfl)) (qc rfl rfl (s_u (o_bin rfl rfl (bI_eq (r52.1.length : Int) 0))) (qc rfl rfl (s_u (o_mv rfl)) (qc rfl rfl (s_y rfl rfl h130 (o_mv rfl)) (qc rfl rfl (s_y rfl rfl h130 (o_mv rfl)) (qc rfl rfl (s_y rfl rfl h130 (o_ixO 1 Try.underlying23 (fun _ => by kernel_rfl) rfl rfl rfl hx132)) (qc rfl rfl (s_y rfl rfl h130 (o_ldO0 1 sc9 rfl rfl hx132 rfl rfl)) (qc rfl rfl (s_y rfl rfl h130 (o_mv rfl)) (qc rfl rfl (s_y rfl rfl h130 (o_ixO 3 Try.underlying23 (fun _ => by kernel_rfl) rfl rfl rfl hx134)) (qc rfl rfl (s_y rfl rfl h130 (o_ldO0 3 sc9 rfl rfl hx134 rfl rfl)) (qc rfl rfl (s_y rfl rfl h130 (o_bin rfl rfl (bS_ne x132 x134))) (qc rfl rfl (s_u (o_pf rfl h130 rfl)) qn))))))))))))) en ?_
                        intro _
                        refine ex_sub (E' := [(1, v1_), (6, pt b43 0), (9, vI i_17), (11, v53), (12, v69), (8, g107), (14, vI j_106), (95, vB (x132 != x134))]) ⟨rfl, rfl, rfl, rfl, rfl, rfl, rfl, rfl, trivial⟩ ?_
                        obtain rfl := Option.some.inj hm135
                        exact x_sub K116 ⟨rfl, rfl, rfl, rfl, rfl, rfl, rfl, rfl, trivial⟩ (fun _ h => st_pk 8 [0, 1, 2, 3, 4, 5, 6, 7] (by decide) h)
                  · have hm112 := iff_ hm109 h111
                    clear hm109
                    refine c_exit (x_exit (ks' := _) rfl ?_)
                    obtain rfl := Option.some.inj hm112
                    exact x_sub (K77 g107) ⟨rfl, rfl, rfl, rfl, rfl, trivial⟩ (fun _ h => st_pk 8 [0, 1, 2, 3, 4, 5, 6, 7] (by decide) h)
              · refine c_blk ?_
                refine cd_loopG (M := fun k139 (s : List Str × Int × Value) => hawthornlaw08_TinyKeeps_l3 have_16 r38 k139 s.1 s.2.1 = some p63) (Ef := fun (s : List Str × Int × Value) => [(1, v1_), (6, pt b43 0), (8, g21), (9, vI i_17), (10, vS r38), (11, v53), (12, s.2.2), (13, vI s.2.1)]) (Rf := fun (s : List Str × Int × Value) => R) (Lf := fun (s : List Str × Int × Value) => Bk b43 86 [vI r52.2.most, pv56, pv59] :: OwS true 9 1 eS v53 r52.1 :: rO (sketch_Sketch.op g57) pv56 r52.2.s :: rO (ring_Rings.op g60) pv59 r52.2.r :: OwS true 9 1 eS g21 have_16 :: OwS true 9 1 eS s.2.2 s.1 :: F) (((have_16.length : Int) - 0).toNat + 1) ([], 0, v62) hp65 ⟨rfl, rfl, rfl, rfl, rfl, rfl, rfl, rfl, trivial⟩ (fun _ h => st_pk 6 [2, 1, 3, 4, 5, 0] (by decide) h) (fun _ h => by cases h) fun k139 s hM141 => ?_
                obtain ⟨next_136, j_137, g138⟩ := s
                have hm140 : hawthornlaw08_TinyKeeps_l3 have_16 r38 (k139 + 1) next_136 j_137 = some p63 := hM141
                rw [hawthornlaw08_TinyKeeps_l3] at hm140
                refine c_seq ?_
                refine c_seq ?_
                refine c_reg ?_
                refine r_u (o_mv rfl) ?_
                refine r_u (o_mv rfl) ?_
                refine r_u (o_lenO 4 Try.underlying23 rfl rfl) ?_
                refine r_u (o_bin rfl rfl (bI_lt j_137 (have_16.length : Int))) ?_
                refine r_nil ?_
                refine x_seq ?_
                refine c_if (b := decide (j_137 < (have_16.length : Int))) rfl (fun h142 => ?_) fun h142 => ?_
                · have hm143 := ift hm140 h142
                  clear hm140
                  refine c_skip ?_
                  refine x_seq ?_
                  refine c_seq ?_
                  refine c_blk ?_
                  refine c_seq ?_
                  refine c_reg ?_
                  refine r_u (o_mv rfl) ?_
                  refine r_u (o_mv rfl) ?_
                  obtain ⟨x144, hx144, hm145⟩ := bs hm143
                  clear hm143
                  refine r_u (o_ixO 4 Try.underlying23 (fun _ => by kernel_rfl) rfl rfl rfl hx144) ?_
                  refine r_u (o_ldO0 4 sc9 rfl rfl hx144 rfl rfl) ?_
                  refine r_u (o_mv rfl) ?_
                  refine r_u (o_bin rfl rfl (bS_ne x144 r38)) ?_
                  refine r_nil ?_
                  refine x_seq ?_
                  obtain ⟨p146, hp148, hm149⟩ := bs hm145
                  refine cd_cut (fun x ks => ∀ (g147 : Value), EX x .normal ks [(1, v1_), (6, pt b43 0), (8, g21), (9, vI i_17), (10, vS r38), (11, v53), (13, vI j_137), (12, g147)] R (Bk b43 86 [vI r52.2.most, pv56, pv59] :: OwS true 9 1 eS v53 r52.1 :: rO (sketch_Sketch.op g57) pv56 r52.2.s :: rO (ring_Rings.op g60) pv59 r52.2.r :: OwS true 9 1 eS g21 have_16 :: OwS true 9 1 eS g147 p146 :: F)) ?_ fun K150 => ?_
                  · intro g147
                    refine x_blk ?_
                    refine x_seq ?_
                    refine c_reg ?_
                    refine r_u (o_mv rfl) ?_
                    refine r_u (o_bin rfl rfl (bI_add j_137 1)) ?_
                    refine r_u (o_as rfl) ?_
                    refine r_nil ?_
                    exact x_lp (p146, i64 (j_137 + 1), g147) hm149 ⟨rfl, rfl, rfl, rfl, rfl, rfl, rfl, rfl, trivial⟩ (fun _ h => st_pk 6 [0, 1, 2, 3, 4, 5] (by decide) h)
                  · refine c_if (b := (x144 != r38)) rfl (fun h151 => ?_) fun h151 => ?_
                    · have hm152 := ift hp148 h151
                      clear hp148
                      refine c_reg ?_
                      refine r_u (o_mv rfl) ?_
                      refine r_u (o_mv rfl) ?_
                      refine r_u (o_mv rfl) ?_
                      refine r_u (o_ixO 4 Try.underlying23 (fun _ => by kernel_rfl) rfl rfl rfl hx144) ?_
                      refine r_u (o_ldO0 4 sc9 rfl rfl hx144 rfl rfl) ?_
                      refine r_sw (s_w (o_bsl (en := eS) (sz := 1) (e := 9) (cs := [vS x144]) (r := [x144]) rfl (fun _ => by kernel_rfl) rfl (by decide) rfl (fun _ => rfl))) ?_
                      rintro v153 R _ _ ⟨rfl, rfl⟩
                      obtain ⟨l155, hl155, hm156⟩ := bs hm152
                      clear hm152
                      refine rl_st (fun _ h => st_pk 7 [6, 0, 1, 2, 3, 4, 5] (by decide) h) ?_
                      refine r_sw (s_w (o_ap (sz := 1) (bytes := 16) 0 Try.underlying23 rfl rfl rfl rfl rfl (by decide) (by decide) (fun _ _ _ h => by simp at h; subst h; rfl) (fun _ => rfl) rfl rfl rfl rfl (Nat.succ_pos _) hl155)) ?_
                      rintro v154 R _ _ ⟨rfl, rfl⟩
                      refine r_u (o_as rfl) ?_
                      refine r_nil ?_
                      obtain rfl := Option.some.inj hm156
                      exact x_sub (K150 v154) ⟨rfl, rfl, rfl, rfl, rfl, rfl, rfl, rfl, trivial⟩ (fun _ h => st_pk 7 [2, 3, 4, 5, 6, 0] (by decide) h)
                    · have hm152 := iff_ hp148 h151
                      clear hp148
                      refine c_skip ?_
                      obtain rfl := Option.some.inj hm152
                      exact x_sub (K150 g138) ⟨rfl, rfl, rfl, rfl, rfl, rfl, rfl, rfl, trivial⟩ (fun _ h => st_pk 6 [0, 1, 2, 3, 4, 5] (by decide) h)
                · have hm143 := iff_ hm140 h142
                  clear hm140
                  refine c_exit (x_exit (ks' := _) rfl ?_)
                  obtain rfl := Option.some.inj hm143
                  exact x_sub (K67 g138) ⟨rfl, rfl, rfl, rfl, rfl, rfl, trivial⟩ (fun _ h => st_pk 6 [0, 1, 2, 3, 4, 5] (by decide) h)
      · have hm26 := iff_ hm23 h25
        clear hm23
        refine c_exit (x_exit (ks' := _) rfl ?_)
        obtain rfl := Option.some.inj hm26
        exact x_sub (K14 _ rfl) trivial (fun _ h => st_pk 2 [] (by decide) h)

def tiny_Tiny_Miss_n (a1 : Str) : Unit :=
  ()
theorem tiny_Tiny_Miss_n.ok {G R F} (a1 : Str) : CO Try.prog 33 [nl, vS a1] G R (F)
    (Ret fun u R' L' => u = .tuple #[] ∧ R' = R ∧ L' = F) := by
  refine co_ofN (N := 17) Try.func33 rfl rfl ?_
  refine c_seq ?_
  refine c_reg ?_
  refine r_u (o_mv rfl) ?_
  refine r_u (o_bin rfl rfl (bP_nen Try.underlying47)) ?_
  refine r_u (o_mv rfl) ?_
  refine r_s (s_n rfl rfl rfl) ?_
  refine r_s (s_n rfl rfl rfl) ?_
  refine r_s (s_n rfl rfl rfl) ?_
  refine r_u (o_pf rfl rfl rfl) ?_
  refine r_nil ?_
  refine x_seq ?_
  refine c_ff rfl ?_
  refine c_skip ?_
  refine x_end ?_
  exact x_r0 rfl (Le.refl _) ⟨_, rfl, rfl, rfl, rfl⟩

def tiny_Tiny_Len_n  : Int :=
  0
theorem tiny_Tiny_Len_n.ok {G R F} (r : Int) (hm : tiny_Tiny_Len_n = r) : CO Try.prog 31 [nl] G R (F)
    (Ret fun u R' L' => u = vI r ∧ R' = R ∧ L' = F) := by
  unfold tiny_Tiny_Len_n at hm
  refine co_ofN (N := 22) Try.func31 rfl rfl ?_
  refine c_seq ?_
  refine c_reg ?_
  refine r_u (o_as rfl) ?_
  refine r_nil ?_
  refine x_seq ?_
  refine c_seq ?_
  refine c_seq ?_
  refine c_reg ?_
  refine r_u (o_mv rfl) ?_
  refine r_u (o_bin rfl rfl (bP_eqn Try.underlying47)) ?_
  refine r_nil ?_
  refine x_seq ?_
  refine c_tt rfl ?_
  refine c_seq ?_
  refine c_reg ?_
  refine r_u (o_as rfl) ?_
  refine r_nil ?_
  refine x_seq ?_
  refine c_ret ?_
  subst hm
  exact x_r1 rfl (rv_t rfl) (Le.refl _) ⟨_, rfl, rfl, rfl, rfl⟩

def tiny_Tiny_Evict_n  : Option (Str × Bool) :=
  if (tiny_Tiny_Len_n == 0) then some ([], false) else none
theorem tiny_Tiny_Evict_n.ok {G R F} (r : Str × Bool) (hm : tiny_Tiny_Evict_n = some r) : CO Try.prog 39 [nl] G R (F)
    (Ret fun u R' L' => u = .tuple #[vS r.1, vB r.2] ∧ R' = R ∧ L' = F) := by
  unfold tiny_Tiny_Evict_n at hm
  refine co_ofN (N := 44) Try.func39 rfl rfl ?_
  refine c_seq ?_
  refine c_reg ?_
  refine r_u (o_as rfl) ?_
  refine r_u (o_as rfl) ?_
  refine r_nil ?_
  refine x_seq ?_
  refine c_seq ?_
  refine c_seq ?_
  refine c_reg ?_
  refine r_u (o_mv rfl) ?_
  refine r_u (o_callq ca31 rfl (tiny_Tiny_Len_n.ok _ rfl)) ?_
  refine r_u (o_bin rfl rfl (bI_eq tiny_Tiny_Len_n 0)) ?_
  refine r_nil ?_
  refine x_seq ?_
  refine c_if (b := (tiny_Tiny_Len_n == 0)) rfl (fun h0 => ?_) fun h0 => ?_
  · have hm1 := ift hm h0
    clear hm
    refine c_seq ?_
    refine c_reg ?_
    refine r_u (o_as rfl) ?_
    refine r_u (o_as rfl) ?_
    refine r_nil ?_
    refine x_seq ?_
    refine c_ret ?_
    obtain rfl := Option.some.inj hm1
    exact x_r2 rfl (rv_t rfl) (rv_t rfl) (Le.refl _) ⟨_, rfl, rfl, rfl, rfl⟩
  · have hm1 := iff_ hm h0
    clear hm
    refine c_skip ?_
    refine x_seq ?_
    refine c_seq ?_
    refine c_reg ?_
    refine r_u (o_mv rfl) ?_
    cases hm1

def tiny_Tiny_Insert_n (a1 : Str) : List Str :=
  []
theorem tiny_Tiny_Insert_n.ok {G R F} (a1 : Str) (r : List Str) (hm : tiny_Tiny_Insert_n a1 = r) : CO Try.prog 30 [nl, vS a1] G R (F)
    (Ret fun u R' L' => ∃ p0, u = p0 ∧ R' = R ∧ L' = OwS true 9 1 eS p0 r :: F) := by
  unfold tiny_Tiny_Insert_n at hm
  refine co_ofN (N := 109) Try.func30 rfl rfl ?_
  refine c_seq ?_
  refine c_reg ?_
  refine r_u (o_as rfl) ?_
  refine r_nil ?_
  refine x_seq ?_
  refine c_seq ?_
  refine c_seq ?_
  refine c_reg ?_
  refine r_u (o_mv rfl) ?_
  refine r_u (o_bin rfl rfl (bP_eqn Try.underlying47)) ?_
  refine r_u (o_mv rfl) ?_
  refine r_s (s_n rfl rfl rfl) ?_
  refine r_s (s_n rfl rfl rfl) ?_
  refine r_s (s_n rfl rfl rfl) ?_
  refine r_u (o_pt rfl rfl rfl) ?_
  refine r_u (o_mv rfl) ?_
  refine r_s (s_n rfl rfl rfl) ?_
  refine r_s (s_n rfl rfl rfl) ?_
  refine r_s (s_n rfl rfl rfl) ?_
  refine r_u (o_pt rfl rfl rfl) ?_
  refine r_nil ?_
  refine x_seq ?_
  refine c_tt rfl ?_
  refine c_seq ?_
  refine c_reg ?_
  refine r_u (o_as rfl) ?_
  refine r_nil ?_
  refine x_seq ?_
  refine c_ret ?_
  refine ex_st (fun _ h => st_nil (ap := true) (T := 9) (sz := 1) (en := eS) h) ?_
  subst hm
  exact x_r1 rfl (rv_t rfl) (Le.refl _) ⟨_, rfl, (.slice none 0 0), rfl, rfl, rfl⟩

def tiny_Tiny_Lists_n  : List (List Str) :=
  [[], [], []]
theorem tiny_Tiny_Lists_n.ok {G R F} (r : List (List Str)) (hm : tiny_Tiny_Lists_n = r) : CO Try.prog 40 [nl] G R (F)
    (Ret fun u R' L' => ∃ (p0 : Value × Value × Value), u = .agg [p0.1, p0.2.1, p0.2.2].toArray ∧ R' = R ∧ L' = OwL (OwS true 9 1 eS) [p0.1, p0.2.1, p0.2.2] r :: F) := by
  unfold tiny_Tiny_Lists_n at hm
  refine co_ofN (N := 29) Try.func40 rfl rfl ?_
  refine c_seq ?_
  refine c_reg ?_
  refine r_new (o_al ze64) fun b0 => ?_
  refine r_nil ?_
  refine x_seq ?_
  refine c_seq ?_
  refine c_reg ?_
  refine r_new (o_al ze64) fun b1 => ?_
  refine r_nil ?_
  refine x_seq ?_
  refine c_seq ?_
  refine c_seq ?_
  refine c_reg ?_
  refine r_u (o_mv rfl) ?_
  refine r_u (o_bin rfl rfl (bP_eqn Try.underlying47)) ?_
  refine r_nil ?_
  refine x_seq ?_
  refine c_tt rfl ?_
  refine c_seq ?_
  refine c_reg ?_
  refine r_u (o_ldn 0 [.slice none 0 0, .slice none 0 0, .slice none 0 0] ag64 rfl rfl rfl rfl) ?_
  refine rl_st (fun _ h => st_pk 2 [1, 0] (by decide) h) ?_
  refine r_u0 (o_stn ag64 rfl rfl rfl (al_c rfl (al_c rfl (al_c rfl al_n))) rfl rfl rfl) ?_
  refine r_nil ?_
  refine x_seq ?_
  refine c_ret ?_
  refine ex_st (fun _ h => st_lnil3 (own := OwS true 9 1 eS) (fun _ => OwS.nil) h) ?_
  subst hm
  exact x_d1 rfl (rv_n 1 [.slice none 0 0, .slice none 0 0, .slice none 0 0] ag64 rfl rfl rfl rfl) (fun _ h => st_pk 3 [0] (by decide) h) (Le.refl _) ⟨_, rfl, (.slice none 0 0, .slice none 0 0, .slice none 0 0), rfl, rfl, rfl⟩

def tiny_Tiny_Has_n (a1 : Str) : Bool :=
  false
theorem tiny_Tiny_Has_n.ok {G R F} (a1 : Str) (r : Bool) (hm : tiny_Tiny_Has_n a1 = r) : CO Try.prog 32 [nl, vS a1] G R (F)
    (Ret fun u R' L' => u = vB r ∧ R' = R ∧ L' = F) := by
  unfold tiny_Tiny_Has_n at hm
  refine co_ofN (N := 19) Try.func32 rfl rfl ?_
  refine c_seq ?_
  refine c_reg ?_
  refine r_u (o_as rfl) ?_
  refine r_nil ?_
  refine x_seq ?_
  refine c_seq ?_
  refine c_seq ?_
  refine c_reg ?_
  refine r_u (o_mv rfl) ?_
  refine r_u (o_bin rfl rfl (bP_eqn Try.underlying47)) ?_
  refine r_nil ?_
  refine x_seq ?_
  refine c_tt rfl ?_
  refine c_seq ?_
  refine c_reg ?_
  refine r_u (o_as rfl) ?_
  refine r_nil ?_
  refine x_seq ?_
  refine c_ret ?_
  subst hm
  exact x_r1 rfl (rv_t rfl) (Le.refl _) ⟨_, rfl, rfl, rfl, rfl⟩

def tiny_Tiny_Touch_n (a1 : Str) : Option Bool :=
  if !(tiny_Tiny_Has_n a1) then some false else none
theorem tiny_Tiny_Touch_n.ok {G R F} (a1 : Str) (r : Bool) (hm : tiny_Tiny_Touch_n a1 = some r) : CO Try.prog 34 [nl, vS a1] G R (F)
    (Ret fun u R' L' => u = vB r ∧ R' = R ∧ L' = F) := by
  unfold tiny_Tiny_Touch_n at hm
  refine co_ofN (N := 68) Try.func34 rfl rfl ?_
  refine c_seq ?_
  refine c_reg ?_
  refine r_u (o_as rfl) ?_
  refine r_nil ?_
  refine x_seq ?_
  refine c_seq ?_
  refine c_seq ?_
  refine c_reg ?_
  refine r_u (o_mv rfl) ?_
  refine r_u (o_mv rfl) ?_
  refine r_u (o_callq ca32 rfl (tiny_Tiny_Has_n.ok a1 _ rfl)) ?_
  refine r_u (o_not rfl) ?_
  refine r_nil ?_
  refine x_seq ?_
  refine c_if (b := !(tiny_Tiny_Has_n a1)) rfl (fun h0 => ?_) fun h0 => ?_
  · have hm1 := ift hm h0
    clear hm
    refine c_seq ?_
    refine c_reg ?_
    refine r_u (o_as rfl) ?_
    refine r_nil ?_
    refine x_seq ?_
    refine c_ret ?_
    obtain rfl := Option.some.inj hm1
    exact x_r1 rfl (rv_t rfl) (Le.refl _) ⟨_, rfl, rfl, rfl, rfl⟩
  · have hm1 := iff_ hm h0
    clear hm
    refine c_skip ?_
    refine x_seq ?_
    refine c_seq ?_
    refine c_reg ?_
    refine r_u (o_mv rfl) ?_
    cases hm1

def tiny_Tiny_Remove_n (a1 : Str) : Bool :=
  false
theorem tiny_Tiny_Remove_n.ok {G R F} (a1 : Str) (r : Bool) (hm : tiny_Tiny_Remove_n a1 = r) : CO Try.prog 38 [nl, vS a1] G R (F)
    (Ret fun u R' L' => u = vB r ∧ R' = R ∧ L' = F) := by
  unfold tiny_Tiny_Remove_n at hm
  refine co_ofN (N := 15) Try.func38 rfl rfl ?_
  refine c_seq ?_
  refine c_reg ?_
  refine r_u (o_as rfl) ?_
  refine r_nil ?_
  refine x_seq ?_
  refine c_seq ?_
  refine c_reg ?_
  refine r_u (o_mv rfl) ?_
  refine r_u (o_bin rfl rfl (bP_nen Try.underlying47)) ?_
  refine r_u (o_mv rfl) ?_
  refine r_s (s_n rfl rfl rfl) ?_
  refine r_s (s_n rfl rfl rfl) ?_
  refine r_s (s_n rfl rfl rfl) ?_
  refine r_s (s_n rfl rfl rfl) ?_
  refine r_s (s_n rfl rfl rfl) ?_
  refine r_s (s_n rfl rfl rfl) ?_
  refine r_u (o_pf rfl rfl rfl) ?_
  refine r_u (o_as rfl) ?_
  refine r_nil ?_
  refine x_seq ?_
  refine c_ret ?_
  subst hm
  exact x_r1 rfl (rv_t rfl) (Le.refl _) ⟨_, rfl, rfl, rfl, rfl⟩

def tiny_Tiny_Seen_n (a1 : Str) : Int :=
  0
theorem tiny_Tiny_Seen_n.ok {G R F} (a1 : Str) (r : Int) (hm : tiny_Tiny_Seen_n a1 = r) : CO Try.prog 35 [nl, vS a1] G R (F)
    (Ret fun u R' L' => u = vI r ∧ R' = R ∧ L' = F) := by
  unfold tiny_Tiny_Seen_n at hm
  refine co_ofN (N := 13) Try.func35 rfl rfl ?_
  refine c_seq ?_
  refine c_reg ?_
  refine r_u (o_as rfl) ?_
  refine r_nil ?_
  refine x_seq ?_
  refine c_seq ?_
  refine c_seq ?_
  refine c_reg ?_
  refine r_u (o_mv rfl) ?_
  refine r_u (o_bin rfl rfl (bP_eqn Try.underlying47)) ?_
  refine r_nil ?_
  refine x_seq ?_
  refine c_tt rfl ?_
  refine c_seq ?_
  refine c_reg ?_
  refine r_u (o_as rfl) ?_
  refine r_nil ?_
  refine x_seq ?_
  refine c_ret ?_
  subst hm
  exact x_r1 rfl (rv_t rfl) (Le.refl _) ⟨_, rfl, rfl, rfl, rfl⟩

def tiny_Tiny_Export_n  : Str :=
  []
theorem tiny_Tiny_Export_n.ok {G R F} (r : Str) (hm : tiny_Tiny_Export_n = r) : CO Try.prog 41 [nl] G R (F)
    (Ret fun u R' L' => u = vS r ∧ R' = R ∧ L' = F) := by
  unfold tiny_Tiny_Export_n at hm
  refine co_ofN (N := 23) Try.func41 rfl rfl ?_
  refine c_seq ?_
  refine c_reg ?_
  refine r_u (o_as rfl) ?_
  refine r_nil ?_
  refine x_seq ?_
  refine c_seq ?_
  refine c_seq ?_
  refine c_reg ?_
  refine r_u (o_mv rfl) ?_
  refine r_u (o_bin rfl rfl (bP_eqn Try.underlying47)) ?_
  refine r_nil ?_
  refine x_seq ?_
  refine c_tt rfl ?_
  refine c_seq ?_
  refine c_reg ?_
  refine r_u (o_as rfl) ?_
  refine r_nil ?_
  refine x_seq ?_
  refine c_ret ?_
  subst hm
  exact x_r1 rfl (rv_t rfl) (Le.refl _) ⟨_, rfl, rfl, rfl, rfl⟩

end Go.Proofs.Ytlahbmoebbflbaa
