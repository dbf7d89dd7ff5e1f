import Derived.Test.YtlahbmoebbflbaaGreatW3
import Derived.Test.YtlahbmoebbflbaaGreatFacts
import Derived.Test.YtlahbmoebbflbaaGreatHwY
set_option linter.unusedVariables false
set_option linter.unusedSectionVars false
set_option linter.unusedSimpArgs false
set_option maxRecDepth 100000
set_option maxHeartbeats 8000000
namespace Go.Proofs.YtlahbmoebbflbaaGreat
open Go Go.Proofs.YtlahbmoebbflbaaGreat.Hw
def hawthornlaw08_do (a0 : tiny_Tiny) (a1 : hawthornref08_Tiny) (a2 : hawthornlaw08_Act) : Option (Option tiny_Tiny × hawthornref08_Tiny × Bool) :=
  (hawthornlaw08_few a2.Key).bind fun r9 => Option.bind (if (a2.Kind == 4) then some (a2.Kind == 4) else some (a2.Kind == 5)) fun p11 => if p11 then (hawthornref08_Tiny_Touch a1 r9).bind fun r17 => (tiny_Tiny_Touch a0 r9).bind fun r29 => some ((some r29.2), r17.1, (r29.1 == r17.2)) else if (a2.Kind == 6) then (hawthornref08_Tiny_Remove a1 r9).bind fun r40 => (tiny_Tiny_Remove a0 r9).bind fun r52 => some ((some r52.2), r40.1, (r52.1 == r40.2)) else if (a2.Kind == 7) then (hawthornref08_Tiny_Evict a1).bind fun r63 => (tiny_Tiny_Evict a0).bind fun r75 => some ((some r75.2.2), r63.1, ((r75.2.1 == r63.2.2) && (r75.1 == r63.2.1))) else if (a2.Kind == 8) then (tiny_Tiny_Miss a0 r9).bind fun r86 => (hawthornref08_Tiny_Miss a1 r9).bind fun r88 => some ((some r86), r88, true) else if (a2.Kind == 9) then (tiny_Tiny_Export a0).bind fun r101 => (tiny_Import r101).bind fun r103 => Option.bind (if (r103.2 == 0) then (hawthornref08_Tiny_Put a1).bind fun r114 => some (r101 == r114) else some false) fun p108 => some (r103.1, a1, p108) else (hawthornref08_Tiny_Insert a1 r9).bind fun r116 => (tiny_Tiny_Insert a0 r9).bind fun r133 => (hawthornlaw08_texts r133.1 r116.2).bind fun r147 => some ((some r133.2), r116.1, r147)
theorem hawthornlaw08_do.ok {G R F} (b0_ : Nat) (a0 : tiny_Tiny) (g0_ : tiny_Tiny.G) (a1 : hawthornref08_Tiny) (g1_ : hawthornref08_Tiny.G) (h1 : hawthornref08_Tiny.ro R a1 g1_) (a2 : hawthornlaw08_Act) (r : Option tiny_Tiny × hawthornref08_Tiny × Bool) (hm : hawthornlaw08_do a0 a1 a2 = some r) : CO Tryz.prog 7 [pt b0_ 0, .agg [vI a1.Most, vI a1.S.Wide, vW a1.S.Seed, g1_.S.Rows.1, g1_.S.Door, vI a1.S.Added, g1_.R.L.1, vI a1.R.Places].toArray, .agg (hawthornlaw08_Act.c a2).toArray] G R (Bk b0_ 57 [vI a0.most, g0_.s.1, g0_.r.1] :: rO (sketch_Sketch.op g0_.s.2) g0_.s.1 a0.s :: rO (ring_Rings.op g0_.r.2) g0_.r.1 a0.r :: F)
    (Ret fun u R' L' => ∃ (p0 : Value × tiny_Tiny.G) (p1 : hawthornref08_Tiny.G), u = .tuple #[p0.1, .agg [vI r.2.1.Most, vI r.2.1.S.Wide, vW r.2.1.S.Seed, p1.S.Rows.1, p1.S.Door, vI r.2.1.S.Added, p1.R.L.1, vI r.2.1.R.Places].toArray, vB r.2.2] ∧ (hawthornref08_Tiny.ro R' r.2.1 p1) ∧ L' = rO (tiny_Tiny.op p0.2) p0.1 r.1 :: F) := by
  obtain ⟨⟨pv1, g2⟩, ⟨pv4, g5⟩⟩ := g0_
  unfold hawthornlaw08_do at hm
  refine co_ofN (N := 123) Tryz.func7 rfl rfl ?_
  refine c_seq ?_
  refine c_reg ?_
  refine r_new (o_bx [vI a1.Most, vI a1.S.Wide, vW a1.S.Seed, g1_.S.Rows.1, g1_.S.Door, vI a1.S.Added, g1_.R.L.1, vI a1.R.Places] rfl rfl) fun b6 => ?_
  refine r_new (o_bx (hawthornlaw08_Act.c a2) rfl rfl) fun b7 => ?_
  refine r_u (o_as rfl) ?_
  refine r_new (o_al ze36) fun b8 => ?_
  refine r_u (o_as rfl) ?_
  refine r_nil ?_
  refine x_seq ?_
  refine c_seq ?_
  refine c_reg ?_
  refine r_u (o_fa fa42_1 rfl) ?_
  refine r_u (o_ld 1 sc9 rfl rfl rfl) ?_
  obtain ⟨r9, hr9, hm10⟩ := bs hm
  clear hm
  refine r_u (o_callq ca8 rfl (hawthornlaw08_few.ok a2.Key r9 hr9)) ?_
  refine r_u (o_as rfl) ?_
  refine r_nil ?_
  refine x_seq ?_
  refine c_seq ?_
  refine c_seq ?_
  refine c_reg ?_
  refine r_u (o_fa fa42_0 rfl) ?_
  refine r_u (o_ld 1 sc3 rfl rfl rfl) ?_
  refine r_nil ?_
  refine x_seq ?_
  refine c_blk ?_
  refine c_seq ?_
  refine c_seq ?_
  refine c_reg ?_
  refine r_u (o_bin rfl rfl (bI_eq a2.Kind 4)) ?_
  refine r_u (o_as rfl) ?_
  refine r_nil ?_
  refine x_seq ?_
  obtain ⟨p11, hp12, hm13⟩ := bs hm10
  refine cd_join (E' := [(0, pt b0_ 0), (4, pt b6 0), (7, pt b8 0), (9, vS r9), (27, vI a2.Kind), (28, vB p11)]) (L' := Bk b8 36 [vI 0, vI 0, vW 0, .slice none 0 0, .slice none 0 0, vI 0, .slice none 0 0, vI 0] :: Bk b7 42 (hawthornlaw08_Act.c a2) :: Bk b6 36 [vI a1.Most, vI a1.S.Wide, vW a1.S.Seed, g1_.S.Rows.1, g1_.S.Door, vI a1.S.Added, g1_.R.L.1, vI a1.R.Places] :: Bk b0_ 57 [vI a0.most, pv1, pv4] :: rO (sketch_Sketch.op g2) pv1 a0.s :: rO (ring_Rings.op g5) pv4 a0.r :: F) ?_ fun K14 => ?_
  · refine x_seq ?_
    refine c_if (b := p11) rfl (fun h15 => ?_) fun h15 => ?_
    · have hm16 := ift hm13 h15
      clear hm13
      refine c_seq ?_
      refine c_reg ?_
      refine r_u (o_ldn 2 [vI a1.Most, vI a1.S.Wide, vW a1.S.Seed, g1_.S.Rows.1, g1_.S.Door, vI a1.S.Added, g1_.R.L.1, vI a1.R.Places] ag36 rfl rfl rfl rfl) ?_
      refine r_u (o_mv rfl) ?_
      obtain ⟨r17, hr17, hm27⟩ := bs hm16
      clear hm16
      refine r_sw (s_w (o_call ca25 rfl (hawthornref08_Tiny_Touch.ok a1 (⟨(⟨(g1_.S.Rows.1, []), g1_.S.Door⟩ : hawthornref05_Sketch.G), (⟨(g1_.R.L.1, [])⟩ : hawthornref06_Rings.G)⟩ : hawthornref08_Tiny.G) ⟨⟨h1.1.1, h1.1.2⟩, h1.2⟩ r9 r17 hr17))) ?_
      rintro _ R25 _ le26 ⟨v18, rfl, hf19, rfl⟩
      refine r_u (o_mv rfl) ?_
      refine r_u (o_ext rfl rfl) ?_
      refine r_u (o_ext rfl rfl) ?_
      refine r_new (o_al ze36) fun b28 => ?_
      refine r_u0 (o_stn ag36 rfl rfl rfl (al_c rfl (al_c rfl (al_c rfl (al_c (RoN.one hf19.1.1) (al_c (RoS.one hf19.1.2) (al_c rfl (al_c (RoN.one hf19.2) (al_c rfl al_n)))))))) rfl rfl rfl) ?_
      refine r_u (o_as rfl) ?_
      refine r_nil ?_
      refine x_seq ?_
      refine c_seq ?_
      obtain ⟨r29, hr29, hm37⟩ := bs hm27
      clear hm27
      refine c_any mixed (effs := [4, 8]) (V := []) ?_
      refine stage_st (fun _ h => mv6 (mv6 (mv6 h))) ?_
      refine stage_ext [(0, pt b0_ 0), (1, .agg [vI r17.1.Most, vI r17.1.S.Wide, vW r17.1.S.Seed, v18.S.Rows.1, v18.S.Door, vI r17.1.S.Added, v18.R.L.1, vI r17.1.R.Places].toArray), (2, pt b0_ 0), (3, vS r9), (5, vB r17.2)] rfl ?_
      refine stage rfl rfl rfl rfl [0, 0, 0, 0, 12, 0, 60, 29, 159, 511] [0, 1, 2, 3, 5] [4] rfl rfl rfl (qc rfl rfl (s_u (o_mv rfl)) (qc rfl rfl (s_u (o_ldn 3 [vI r17.1.Most, vI r17.1.S.Wide, vW r17.1.S.Seed, v18.S.Rows.1, v18.S.Door, vI r17.1.S.Added, v18.R.L.1, vI r17.1.R.Places] ag36 rfl rfl rfl rfl)) (qc rfl rfl (s_u (o_mv rfl)) (qc rfl rfl (s_u (o_mv rfl)) (qc rfl rfl (s_u (o_mv rfl)) qn))))) ?_ (fun h => absurd h (by decide))
      refine ec (eo_w rfl (s_w (o_call ca23 rfl (tiny_Tiny_Touch.ok b0_ a0 (⟨(pv1, g2), (pv4, g5)⟩ : tiny_Tiny.G) r9 r29 hr29))) ?_) en
      rintro _ R25 _ _ ⟨⟨⟨pv32, g33⟩, ⟨pv35, g36⟩⟩, rfl, rfl, rfl⟩
      refine stage_st (fun _ h => mv4 h) ?_
      refine stage_ext [(6, vB (r29.1 == r17.2)), (7, pt b0_ 0)] rfl ?_
      refine stage rfl rfl rfl rfl [0, 0, 0, 0, 12, 0, 60, 29, 159, 511] [0, 1, 5, 6, 7] [8] rfl rfl rfl (qc rfl rfl (s_u (o_mv rfl)) (qc rfl rfl (s_u (o_ldn 4 [vI r17.1.Most, vI r17.1.S.Wide, vW r17.1.S.Seed, v18.S.Rows.1, v18.S.Door, vI r17.1.S.Added, v18.R.L.1, vI r17.1.R.Places] ag36 rfl rfl rfl rfl)) (qc rfl rfl (s_u (o_mv rfl)) (qc rfl rfl (s_u (o_bin rfl rfl (bB_eq Tryz.underlying4 r29.1 r17.2))) (qc rfl rfl (s_u (o_as rfl)) qn))))) ?_ (fun h => absurd h (by decide))
      refine ec (eo_u rfl (s_u (o_stn ag36 rfl rfl rfl (al_c rfl (al_c rfl (al_c rfl (al_c (RoN.one hf19.1.1) (al_c (RoS.one hf19.1.2) (al_c rfl (al_c (RoN.one hf19.2) (al_c rfl al_n)))))))) rfl rfl rfl)) (Le.refl _) ?_) en
      refine stage_ext [(9, vB (r29.1 == r17.2))] rfl ?_
      refine stage rfl rfl rfl rfl [0, 0, 0, 0, 12, 0, 60, 29, 159, 511] [5, 6, 9] [] rfl rfl rfl (qc rfl rfl (s_u (o_mv rfl)) (qc rfl rfl (s_u (o_bin rfl rfl (bB_eq Tryz.underlying4 r29.1 r17.2))) (qc rfl rfl (s_u (o_as rfl)) qn))) en ?_
      intro _
      refine ex_sub (E' := [(7, pt b8 0), (6, pt b0_ 0), (8, vB (r29.1 == r17.2))]) ⟨rfl, rfl, rfl, trivial⟩ ?_
      refine x_seq ?_
      refine c_ret ?_
      refine ex_st (fun _ h => mv3 (mv3 (mv3 h))) ?_
      refine ex_st (fun _ h => st_some (f := tiny_Tiny.op (⟨(pv32, g33), (pv35, g36)⟩ : tiny_Tiny.G)) (a := r29.2) (st_star_f (A := tiny_Tiny.fl b0_ r29.2 (⟨(pv32, g33), (pv35, g36)⟩ : tiny_Tiny.G)) h)) ?_
      obtain rfl := Option.some.inj hm37
      exact x_d3 rfl (rv_t rfl) (rv_n 1 [vI r17.1.Most, vI r17.1.S.Wide, vW r17.1.S.Seed, v18.S.Rows.1, v18.S.Door, vI r17.1.S.Added, v18.R.L.1, vI r17.1.R.Places] ag36 rfl rfl rfl rfl) (rv_t rfl) (fun _ h => st_pk 5 [0] (by decide) h) le26 ⟨_, rfl, (pt b0_ 0, (⟨(pv32, g33), (pv35, g36)⟩ : tiny_Tiny.G)), (⟨(⟨(v18.S.Rows.1, []), v18.S.Door⟩ : hawthornref05_Sketch.G), (⟨(v18.R.L.1, [])⟩ : hawthornref06_Rings.G)⟩ : hawthornref08_Tiny.G), rfl, ⟨⟨hf19.1.1, hf19.1.2⟩, hf19.2⟩, rfl⟩
    · have hm16 := iff_ hm13 h15
      clear hm13
      refine c_seq ?_
      refine c_reg ?_
      refine r_u (o_bin rfl rfl (bI_eq a2.Kind 6)) ?_
      refine r_u (o_as rfl) ?_
      refine r_nil ?_
      refine x_seq ?_
      refine c_if (b := (a2.Kind == 6)) rfl (fun h38 => ?_) fun h38 => ?_
      · have hm39 := ift hm16 h38
        clear hm16
        refine c_seq ?_
        refine c_reg ?_
        refine r_u (o_ldn 2 [vI a1.Most, vI a1.S.Wide, vW a1.S.Seed, g1_.S.Rows.1, g1_.S.Door, vI a1.S.Added, g1_.R.L.1, vI a1.R.Places] ag36 rfl rfl rfl rfl) ?_
        refine r_u (o_mv rfl) ?_
        obtain ⟨r40, hr40, hm50⟩ := bs hm39
        clear hm39
        refine r_sw (s_w (o_call ca26 rfl (hawthornref08_Tiny_Remove.ok a1 (⟨(⟨(g1_.S.Rows.1, []), g1_.S.Door⟩ : hawthornref05_Sketch.G), (⟨(g1_.R.L.1, [])⟩ : hawthornref06_Rings.G)⟩ : hawthornref08_Tiny.G) ⟨⟨h1.1.1, h1.1.2⟩, h1.2⟩ r9 r40 hr40))) ?_
        rintro _ R48 _ le49 ⟨v41, rfl, hf42, rfl⟩
        refine r_u (o_mv rfl) ?_
        refine r_u (o_ext rfl rfl) ?_
        refine r_u (o_ext rfl rfl) ?_
        refine r_new (o_al ze36) fun b51 => ?_
        refine r_u0 (o_stn ag36 rfl rfl rfl (al_c rfl (al_c rfl (al_c rfl (al_c (RoN.one hf42.1.1) (al_c (RoS.one hf42.1.2) (al_c rfl (al_c (RoN.one hf42.2) (al_c rfl al_n)))))))) rfl rfl rfl) ?_
        refine r_u (o_as rfl) ?_
        refine r_nil ?_
        refine x_seq ?_
        refine c_seq ?_
        obtain ⟨r52, hr52, hm60⟩ := bs hm50
        clear hm50
        refine c_any mixed (effs := [4, 8]) (V := []) ?_
        refine stage_st (fun _ h => mv6 (mv6 (mv6 h))) ?_
        refine stage_ext [(0, pt b0_ 0), (1, .agg [vI r40.1.Most, vI r40.1.S.Wide, vW r40.1.S.Seed, v41.S.Rows.1, v41.S.Door, vI r40.1.S.Added, v41.R.L.1, vI r40.1.R.Places].toArray), (2, pt b0_ 0), (3, vS r9), (5, vB r40.2)] rfl ?_
        refine stage rfl rfl rfl rfl [0, 0, 0, 0, 12, 0, 60, 29, 159, 511] [0, 1, 2, 3, 5] [4] rfl rfl rfl (qc rfl rfl (s_u (o_mv rfl)) (qc rfl rfl (s_u (o_ldn 3 [vI r40.1.Most, vI r40.1.S.Wide, vW r40.1.S.Seed, v41.S.Rows.1, v41.S.Door, vI r40.1.S.Added, v41.R.L.1, vI r40.1.R.Places] ag36 rfl rfl rfl rfl)) (qc rfl rfl (s_u (o_mv rfl)) (qc rfl rfl (s_u (o_mv rfl)) (qc rfl rfl (s_u (o_mv rfl)) qn))))) ?_ (fun h => absurd h (by decide))
        refine ec (eo_w rfl (s_w (o_call ca27 rfl (tiny_Tiny_Remove.ok b0_ a0 (⟨(pv1, g2), (pv4, g5)⟩ : tiny_Tiny.G) r9 r52 hr52))) ?_) en
        rintro _ R48 _ _ ⟨⟨⟨pv55, g56⟩, ⟨pv58, g59⟩⟩, rfl, rfl, rfl⟩
        refine stage_st (fun _ h => mv4 h) ?_
        refine stage_ext [(6, vB (r52.1 == r40.2)), (7, pt b0_ 0)] rfl ?_
        refine stage rfl rfl rfl rfl [0, 0, 0, 0, 12, 0, 60, 29, 159, 511] [0, 1, 5, 6, 7] [8] rfl rfl rfl (qc rfl rfl (s_u (o_mv rfl)) (qc rfl rfl (s_u (o_ldn 4 [vI r40.1.Most, vI r40.1.S.Wide, vW r40.1.S.Seed, v41.S.Rows.1, v41.S.Door, vI r40.1.S.Added, v41.R.L.1, vI r40.1.R.Places] ag36 rfl rfl rfl rfl)) (qc rfl rfl (s_u (o_mv rfl)) (qc rfl rfl (s_u (o_bin rfl rfl (bB_eq Tryz.underlying4 r52.1 r40.2))) (qc rfl rfl (s_u (o_as rfl)) qn))))) ?_ (fun h => absurd h (by decide))
        refine ec (eo_u rfl (s_u (o_stn ag36 rfl rfl rfl (al_c rfl (al_c rfl (al_c rfl (al_c (RoN.one hf42.1.1) (al_c (RoS.one hf42.1.2) (al_c rfl (al_c (RoN.one hf42.2) (al_c rfl al_n)))))))) rfl rfl rfl)) (Le.refl _) ?_) en
        refine stage_ext [(9, vB (r52.1 == r40.2))] rfl ?_
        refine stage rfl rfl rfl rfl [0, 0, 0, 0, 12, 0, 60, 29, 159, 511] [5, 6, 9] [] rfl rfl rfl (qc rfl rfl (s_u (o_mv rfl)) (qc rfl rfl (s_u (o_bin rfl rfl (bB_eq Tryz.underlying4 r52.1 r40.2))) (qc rfl rfl (s_u (o_as rfl)) qn))) en ?_
        intro _
        refine ex_sub (E' := [(7, pt b8 0), (6, pt b0_ 0), (8, vB (r52.1 == r40.2))]) ⟨rfl, rfl, rfl, trivial⟩ ?_
        refine x_seq ?_
        refine c_ret ?_
        refine ex_st (fun _ h => mv3 (mv3 (mv3 h))) ?_
        refine ex_st (fun _ h => st_some (f := tiny_Tiny.op (⟨(pv55, g56), (pv58, g59)⟩ : tiny_Tiny.G)) (a := r52.2) (st_star_f (A := tiny_Tiny.fl b0_ r52.2 (⟨(pv55, g56), (pv58, g59)⟩ : tiny_Tiny.G)) h)) ?_
        obtain rfl := Option.some.inj hm60
        exact x_d3 rfl (rv_t rfl) (rv_n 1 [vI r40.1.Most, vI r40.1.S.Wide, vW r40.1.S.Seed, v41.S.Rows.1, v41.S.Door, vI r40.1.S.Added, v41.R.L.1, vI r40.1.R.Places] ag36 rfl rfl rfl rfl) (rv_t rfl) (fun _ h => st_pk 5 [0] (by decide) h) le49 ⟨_, rfl, (pt b0_ 0, (⟨(pv55, g56), (pv58, g59)⟩ : tiny_Tiny.G)), (⟨(⟨(v41.S.Rows.1, []), v41.S.Door⟩ : hawthornref05_Sketch.G), (⟨(v41.R.L.1, [])⟩ : hawthornref06_Rings.G)⟩ : hawthornref08_Tiny.G), rfl, ⟨⟨hf42.1.1, hf42.1.2⟩, hf42.2⟩, rfl⟩
      · have hm39 := iff_ hm16 h38
        clear hm16
        refine c_seq ?_
        refine c_reg ?_
        refine r_u (o_bin rfl rfl (bI_eq a2.Kind 7)) ?_
        refine r_u (o_as rfl) ?_
        refine r_nil ?_
        refine x_seq ?_
        refine c_if (b := (a2.Kind == 7)) rfl (fun h61 => ?_) fun h61 => ?_
        · have hm62 := ift hm39 h61
          clear hm39
          refine c_seq ?_
          refine c_reg ?_
          refine r_u (o_ldn 2 [vI a1.Most, vI a1.S.Wide, vW a1.S.Seed, g1_.S.Rows.1, g1_.S.Door, vI a1.S.Added, g1_.R.L.1, vI a1.R.Places] ag36 rfl rfl rfl rfl) ?_
          obtain ⟨r63, hr63, hm73⟩ := bs hm62
          clear hm62
          refine r_sw (s_w (o_call ca28 rfl (hawthornref08_Tiny_Evict.ok a1 (⟨(⟨(g1_.S.Rows.1, []), g1_.S.Door⟩ : hawthornref05_Sketch.G), (⟨(g1_.R.L.1, [])⟩ : hawthornref06_Rings.G)⟩ : hawthornref08_Tiny.G) ⟨⟨h1.1.1, h1.1.2⟩, h1.2⟩ r63 hr63))) ?_
          rintro _ R71 _ le72 ⟨v64, rfl, hf65, rfl⟩
          refine r_u (o_mv rfl) ?_
          refine r_u (o_ext rfl rfl) ?_
          refine r_u (o_ext rfl rfl) ?_
          refine r_u (o_ext rfl rfl) ?_
          refine r_new (o_al ze36) fun b74 => ?_
          refine r_u0 (o_stn ag36 rfl rfl rfl (al_c rfl (al_c rfl (al_c rfl (al_c (RoN.one hf65.1.1) (al_c (RoS.one hf65.1.2) (al_c rfl (al_c (RoN.one hf65.2) (al_c rfl al_n)))))))) rfl rfl rfl) ?_
          refine r_u (o_as rfl) ?_
          refine r_u (o_as rfl) ?_
          refine r_nil ?_
          refine x_seq ?_
          refine c_seq ?_
          refine c_reg ?_
          refine r_u (o_mv rfl) ?_
          obtain ⟨r75, hr75, hm83⟩ := bs hm73
          clear hm73
          refine rl_st (fun _ h => mv6 (mv6 (mv6 h))) ?_
          refine r_sw (s_w (o_call ca29 rfl (tiny_Tiny_Evict.ok b0_ a0 (⟨(pv1, g2), (pv4, g5)⟩ : tiny_Tiny.G) r75 hr75))) ?_
          rintro _ R71 _ _ ⟨⟨⟨pv78, g79⟩, ⟨pv81, g82⟩⟩, rfl, rfl, rfl⟩
          refine r_u (o_mv rfl) ?_
          refine r_u (o_ext rfl rfl) ?_
          refine r_u (o_ext rfl rfl) ?_
          refine r_u (o_as rfl) ?_
          refine r_u (o_as rfl) ?_
          refine r_nil ?_
          refine x_seq ?_
          refine c_seq ?_
          refine c_any mixed (effs := [11]) (V := []) ?_
          refine stage_st (fun _ h => mv4 h) ?_
          refine stage_ext [(0, pt b0_ 0), (1, .agg [vI r63.1.Most, vI r63.1.S.Wide, vW r63.1.S.Seed, v64.S.Rows.1, v64.S.Door, vI r63.1.S.Added, v64.R.L.1, vI r63.1.R.Places].toArray), (2, vB r75.2.1), (3, vB r63.2.2), (4, vB (r75.2.1 == r63.2.2)), (5, vB (r75.2.1 == r63.2.2)), (6, gv (r75.2.1 == r63.2.2) (vS r75.1)), (7, gv (r75.2.1 == r63.2.2) (vS r63.2.1)), (8, gv (r75.2.1 == r63.2.2) (vB (r75.1 == r63.2.1))), (9, vB ((r75.2.1 == r63.2.2) && (r75.1 == r63.2.1))), (10, pt b0_ 0)] rfl ?_
          refine stage rfl rfl rfl rfl [0, 0, 0, 0, 12, 28, 60, 60, 252, 508, 61, 1087, 4095] [0, 1, 2, 3, 4, 5, 6, 7, 8, 9, 10] [11] rfl rfl rfl (qc rfl rfl (s_u (o_mv rfl)) (qc rfl rfl (s_u (o_ldn 4 [vI r63.1.Most, vI r63.1.S.Wide, vW r63.1.S.Seed, v64.S.Rows.1, v64.S.Door, vI r63.1.S.Added, v64.R.L.1, vI r63.1.R.Places] ag36 rfl rfl rfl rfl)) (qc rfl rfl (s_u (o_mv rfl)) (qc rfl rfl (s_u (o_mv rfl)) (qc rfl rfl (s_u (o_bin rfl rfl (bB_eq Tryz.underlying4 r75.2.1 r63.2.2))) (qc rfl rfl (s_u (o_mv rfl)) (qc rfl rfl (s_gt rfl rfl fun g => o_mv rfl) (qc rfl rfl (s_gt rfl rfl fun g => o_mv rfl) (qc rfl rfl (s_gt rfl rfl fun g => o_bin (evg rfl g) (evg rfl g) (bS_eq r75.1 r63.2.1)) (qc rfl rfl (s_u (o_and rfl rfl)) (qc rfl rfl (s_u (o_as rfl)) qn))))))))))) ?_ (fun h => absurd h (by decide))
          refine ec (eo_u rfl (s_u (o_stn ag36 rfl rfl rfl (al_c rfl (al_c rfl (al_c rfl (al_c (RoN.one hf65.1.1) (al_c (RoS.one hf65.1.2) (al_c rfl (al_c (RoN.one hf65.2) (al_c rfl al_n)))))))) rfl rfl rfl)) (Le.refl _) ?_) en
          refine stage_ext [(12, vB ((r75.2.1 == r63.2.2) && (r75.1 == r63.2.1)))] rfl ?_
          refine stage rfl rfl rfl rfl [0, 0, 0, 0, 12, 28, 60, 60, 252, 508, 61, 1087, 4095] [6, 7, 8, 9, 12] [] rfl rfl rfl (qc rfl rfl (s_gt rfl rfl fun g => o_mv rfl) (qc rfl rfl (s_gt rfl rfl fun g => o_mv rfl) (qc rfl rfl (s_gt rfl rfl fun g => o_bin (evg rfl g) (evg rfl g) (bS_eq r75.1 r63.2.1)) (qc rfl rfl (s_u (o_and rfl rfl)) (qc rfl rfl (s_u (o_as rfl)) qn))))) en ?_
          intro _
          refine ex_sub (E' := [(7, pt b8 0), (6, pt b0_ 0), (8, vB ((r75.2.1 == r63.2.2) && (r75.1 == r63.2.1)))]) ⟨rfl, rfl, rfl, trivial⟩ ?_
          refine x_seq ?_
          refine c_ret ?_
          refine ex_st (fun _ h => mv3 (mv3 (mv3 h))) ?_
          refine ex_st (fun _ h => st_some (f := tiny_Tiny.op (⟨(pv78, g79), (pv81, g82)⟩ : tiny_Tiny.G)) (a := r75.2.2) (st_star_f (A := tiny_Tiny.fl b0_ r75.2.2 (⟨(pv78, g79), (pv81, g82)⟩ : tiny_Tiny.G)) h)) ?_
          obtain rfl := Option.some.inj hm83
          exact x_d3 rfl (rv_t rfl) (rv_n 1 [vI r63.1.Most, vI r63.1.S.Wide, vW r63.1.S.Seed, v64.S.Rows.1, v64.S.Door, vI r63.1.S.Added, v64.R.L.1, vI r63.1.R.Places] ag36 rfl rfl rfl rfl) (rv_t rfl) (fun _ h => st_pk 5 [0] (by decide) h) le72 ⟨_, rfl, (pt b0_ 0, (⟨(pv78, g79), (pv81, g82)⟩ : tiny_Tiny.G)), (⟨(⟨(v64.S.Rows.1, []), v64.S.Door⟩ : hawthornref05_Sketch.G), (⟨(v64.R.L.1, [])⟩ : hawthornref06_Rings.G)⟩ : hawthornref08_Tiny.G), rfl, ⟨⟨hf65.1.1, hf65.1.2⟩, hf65.2⟩, rfl⟩
        · have hm62 := iff_ hm39 h61
          clear hm39
          refine c_seq ?_
          refine c_reg ?_
          refine r_u (o_bin rfl rfl (bI_eq a2.Kind 8)) ?_
          refine r_u (o_as rfl) ?_
          refine r_nil ?_
          refine x_seq ?_
          refine c_if (b := (a2.Kind == 8)) rfl (fun h84 => ?_) fun h84 => ?_
          · have hm85 := ift hm62 h84
            clear hm62
            refine c_seq ?_
            refine c_reg ?_
            refine r_u (o_mv rfl) ?_
            refine r_u (o_mv rfl) ?_
            obtain ⟨r86, hr86, hm87⟩ := bs hm85
            clear hm85
            refine rl_st (fun _ h => mv5 (mv5 (mv5 h))) ?_
            refine r_c (s_w (o_call ca30 rfl (tiny_Tiny_Miss.ok b0_ a0 (⟨(pv1, g2), (pv4, g5)⟩ : tiny_Tiny.G) r9 r86 hr86))) ?_
            refine r_nil ?_
            refine x_seq ?_
            refine c_seq ?_
            refine c_reg ?_
            refine r_u (o_mv rfl) ?_
            refine r_u (o_ldn 5 [vI a1.Most, vI a1.S.Wide, vW a1.S.Seed, g1_.S.Rows.1, g1_.S.Door, vI a1.S.Added, g1_.R.L.1, vI a1.R.Places] ag36 rfl rfl rfl rfl) ?_
            refine r_u (o_mv rfl) ?_
            obtain ⟨r88, hr88, hm98⟩ := bs hm87
            clear hm87
            refine r_sw (s_w (o_call ca31 rfl (hawthornref08_Tiny_Miss.ok a1 (⟨(⟨(g1_.S.Rows.1, []), g1_.S.Door⟩ : hawthornref05_Sketch.G), (⟨(g1_.R.L.1, [])⟩ : hawthornref06_Rings.G)⟩ : hawthornref08_Tiny.G) ⟨⟨h1.1.1, h1.1.2⟩, h1.2⟩ r9 r88 hr88))) ?_
            rintro _ R96 _ le97 ⟨v89, rfl, hf90, rfl⟩
            refine r_u (o_as rfl) ?_
            refine rl_st (fun _ h => mv3 h) ?_
            refine r_u0 (o_stn ag36 rfl rfl rfl (al_c rfl (al_c rfl (al_c rfl (al_c (RoN.one hf90.1.1) (al_c (RoS.one hf90.1.2) (al_c rfl (al_c (RoN.one hf90.2) (al_c rfl al_n)))))))) rfl rfl rfl) ?_
            refine r_u (o_as rfl) ?_
            refine r_nil ?_
            refine x_seq ?_
            refine c_ret ?_
            refine ex_st (fun _ h => mv3 (mv3 (mv3 h))) ?_
            refine ex_st (fun _ h => st_some (f := tiny_Tiny.op (⟨(pv1, g2), (pv4, g5)⟩ : tiny_Tiny.G)) (a := r86) (st_star_f (A := tiny_Tiny.fl b0_ r86 (⟨(pv1, g2), (pv4, g5)⟩ : tiny_Tiny.G)) h)) ?_
            obtain rfl := Option.some.inj hm98
            exact x_d3 rfl (rv_t rfl) (rv_n 1 [vI r88.Most, vI r88.S.Wide, vW r88.S.Seed, v89.S.Rows.1, v89.S.Door, vI r88.S.Added, v89.R.L.1, vI r88.R.Places] ag36 rfl rfl rfl rfl) (rv_t rfl) (fun _ h => st_pk 4 [0] (by decide) h) le97 ⟨_, rfl, (pt b0_ 0, (⟨(pv1, g2), (pv4, g5)⟩ : tiny_Tiny.G)), (⟨(⟨(v89.S.Rows.1, []), v89.S.Door⟩ : hawthornref05_Sketch.G), (⟨(v89.R.L.1, [])⟩ : hawthornref06_Rings.G)⟩ : hawthornref08_Tiny.G), rfl, ⟨⟨hf90.1.1, hf90.1.2⟩, hf90.2⟩, rfl⟩
          · have hm85 := iff_ hm62 h84
            clear hm62
            refine c_seq ?_
            refine c_reg ?_
            refine r_u (o_bin rfl rfl (bI_eq a2.Kind 9)) ?_
            refine r_u (o_as rfl) ?_
            refine r_nil ?_
            refine x_seq ?_
            refine c_if (b := (a2.Kind == 9)) rfl (fun h99 => ?_) fun h99 => ?_
            · have hm100 := ift hm85 h99
              clear hm85
              refine c_seq ?_
              refine c_reg ?_
              refine r_u (o_mv rfl) ?_
              obtain ⟨r101, hr101, hm102⟩ := bs hm100
              clear hm100
              refine rl_st (fun _ h => mv5 (mv5 (mv5 h))) ?_
              refine r_c (s_w (o_call ca14 rfl (tiny_Tiny_Export.ok b0_ a0 (⟨(pv1, g2), (pv4, g5)⟩ : tiny_Tiny.G) r101 hr101))) ?_
              obtain ⟨r103, hr103, hm107⟩ := bs hm102
              clear hm102
              refine r_sw (s_w (o_call ca32 rfl (tiny_Import.ok r101 r103 hr103))) ?_
              rintro _ R _ _ ⟨⟨pv105, g106⟩, rfl, rfl, rfl⟩
              refine r_u (o_mv rfl) ?_
              refine r_u (o_ext rfl rfl) ?_
              refine r_u (o_ext rfl rfl) ?_
              refine r_u (o_as rfl) ?_
              refine r_u (o_as rfl) ?_
              refine r_nil ?_
              refine x_seq ?_
              refine c_seq ?_
              obtain ⟨p108, hp109, hm110⟩ := bs hm107
              refine cd_join (E' := [(6, pv105), (7, pt b8 0), (8, vB p108)]) (L' := Bk b8 36 [vI a1.Most, vI a1.S.Wide, vW a1.S.Seed, g1_.S.Rows.1, g1_.S.Door, vI a1.S.Added, g1_.R.L.1, vI a1.R.Places] :: Bk b0_ 57 [vI a0.most, pv1, pv4] :: Bk b7 42 (hawthornlaw08_Act.c a2) :: Bk b6 36 [vI a1.Most, vI a1.S.Wide, vW a1.S.Seed, g1_.S.Rows.1, g1_.S.Door, vI a1.S.Added, g1_.R.L.1, vI a1.R.Places] :: rO (tiny_Tiny.op g106) pv105 r103.1 :: rO (sketch_Sketch.op g2) pv1 a0.s :: rO (ring_Rings.op g5) pv4 a0.r :: F) ?_ fun K111 => ?_
              · refine x_seq ?_
                refine c_ret ?_
                obtain rfl := Option.some.inj hm110
                exact x_d3 rfl (rv_t rfl) (rv_n 0 [vI a1.Most, vI a1.S.Wide, vW a1.S.Seed, g1_.S.Rows.1, g1_.S.Door, vI a1.S.Added, g1_.R.L.1, vI a1.R.Places] ag36 rfl rfl rfl rfl) (rv_t rfl) (fun _ h => st_pk 7 [4] (by decide) h) (Le.refl _) ⟨_, rfl, (pv105, g106), (⟨(⟨(g1_.S.Rows.1, []), g1_.S.Door⟩ : hawthornref05_Sketch.G), (⟨(g1_.R.L.1, [])⟩ : hawthornref06_Rings.G)⟩ : hawthornref08_Tiny.G), rfl, ⟨⟨h1.1.1, h1.1.2⟩, h1.2⟩, rfl⟩
              · refine cd_by (r103.2 == 0) (fun h112 => ?_) fun h112 => ?_
                · have hm113 := ift hp109 h112
                  clear hp109
                  obtain ⟨r114, hr114, hm115⟩ := bs hm113
                  clear hm113
                  refine c_any mixed (effs := [12]) (V := []) ?_
                  refine stage_st (fun _ h => mv4 h) ?_
                  refine stage_ext [(0, pv105), (1, .agg [vI a1.Most, vI a1.S.Wide, vW a1.S.Seed, g1_.S.Rows.1, g1_.S.Door, vI a1.S.Added, g1_.R.L.1, vI a1.R.Places].toArray), (2, vI r103.2), (3, vB (r103.2 == 0)), (4, vB (r103.2 == 0)), (5, pt b0_ 0), (6, vS r101), (7, .agg [vI a1.Most, vI a1.S.Wide, vW a1.S.Seed, g1_.S.Rows.1, g1_.S.Door, vI a1.S.Added, g1_.R.L.1, vI a1.R.Places].toArray), (8, vS r114), (9, vB (r101 == r114)), (10, vB (r101 == r114)), (11, pv105)] rfl ?_
                  refine stage rfl rfl rfl rfl [0, 0, 0, 4, 12, 28, 60, 28, 252, 508, 1020, 509, 2559, 8191] [0, 1, 2, 3, 4, 5, 6, 7, 8, 9, 10, 11] [12] rfl rfl rfl (qc rfl rfl (s_u (o_mv rfl)) (qc rfl rfl (s_u (o_ldn 6 [vI a1.Most, vI a1.S.Wide, vW a1.S.Seed, g1_.S.Rows.1, g1_.S.Door, vI a1.S.Added, g1_.R.L.1, vI a1.R.Places] ag36 rfl rfl rfl rfl)) (qc rfl rfl (s_u (o_mv rfl)) (qc rfl rfl (s_u (o_bin rfl rfl (bI_eq r103.2 0))) (qc rfl rfl (s_u (o_mv rfl)) (qc rfl rfl (s_y rfl rfl h112 (o_mv rfl)) (qc rfl rfl (s_y rfl rfl h112 (o_callqP ca14 rfl (tiny_Tiny_Export.ok b0_ a0 (⟨(pv1, g2), (pv4, g5)⟩ : tiny_Tiny.G) r101 hr101) (fun _ h => st_pk 7 [2, 3, 4, 0, 1, 5, 6] (by decide) h) (fun _ h => st_pk 7 [3, 4, 0, 1, 2, 5, 6] (by decide) h))) (qc rfl rfl (s_y rfl rfl h112 (o_ldn 6 [vI a1.Most, vI a1.S.Wide, vW a1.S.Seed, g1_.S.Rows.1, g1_.S.Door, vI a1.S.Added, g1_.R.L.1, vI a1.R.Places] ag36 rfl rfl rfl rfl)) (qc rfl rfl (s_y rfl rfl h112 (o_callq ca15 rfl (hawthornref08_Tiny_Put.ok a1 (⟨(⟨(g1_.S.Rows.1, []), g1_.S.Door⟩ : hawthornref05_Sketch.G), (⟨(g1_.R.L.1, [])⟩ : hawthornref06_Rings.G)⟩ : hawthornref08_Tiny.G) ⟨⟨h1.1.1, h1.1.2⟩, h1.2⟩ r114 hr114))) (qc rfl rfl (s_y rfl rfl h112 (o_bin rfl rfl (bS_eq r101 r114))) (qc rfl rfl (s_u (o_pt rfl h112 rfl)) (qc rfl rfl (s_u (o_as rfl)) qn)))))))))))) ?_ (fun h => absurd h (by decide))
                  refine ec (eo_u rfl (s_u (o_stn ag36 rfl rfl rfl (al_c rfl (al_c rfl (al_c rfl (al_c (RoN.one h1.1.1) (al_c (RoS.one h1.1.2) (al_c rfl (al_c (RoN.one h1.2) (al_c rfl al_n)))))))) rfl rfl rfl)) (Le.refl _) ?_) en
                  refine stage_ext [(13, vB (r101 == r114))] rfl ?_
                  refine stage rfl rfl rfl rfl [0, 0, 0, 4, 12, 28, 60, 28, 252, 508, 1020, 509, 2559, 8191] [9, 10, 13] [] rfl rfl rfl (qc rfl rfl (s_y rfl rfl h112 (o_bin rfl rfl (bS_eq r101 r114))) (qc rfl rfl (s_u (o_pt rfl h112 rfl)) (qc rfl rfl (s_u (o_as rfl)) qn))) en ?_
                  intro _
                  refine ex_sub (E' := [(7, pt b8 0), (6, pv105), (8, vB (r101 == r114))]) ⟨rfl, rfl, rfl, trivial⟩ ?_
                  obtain rfl := Option.some.inj hm115
                  exact x_sub K111 ⟨rfl, rfl, rfl, trivial⟩ (fun _ h => st_pk 7 [0, 2, 5, 6, 1, 3, 4] (by decide) h)
                · have hm113 := iff_ hp109 h112
                  clear hp109
                  refine c_any mixed (effs := [12]) (V := []) ?_
                  refine stage_st (fun _ h => mv4 h) ?_
                  refine stage_ext [(0, pv105), (1, .agg [vI a1.Most, vI a1.S.Wide, vW a1.S.Seed, g1_.S.Rows.1, g1_.S.Door, vI a1.S.Added, g1_.R.L.1, vI a1.R.Places].toArray), (2, vI r103.2), (3, vB (r103.2 == 0)), (4, vB (r103.2 == 0)), (5, undef), (6, undef), (7, undef), (8, undef), (9, undef), (10, vB false), (11, pv105)] rfl ?_
                  refine stage rfl rfl rfl rfl [0, 0, 0, 4, 12, 28, 60, 28, 252, 508, 1020, 509, 2559, 8191] [0, 1, 2, 3, 4, 5, 6, 7, 8, 9, 10, 11] [12] rfl rfl rfl (qc rfl rfl (s_u (o_mv rfl)) (qc rfl rfl (s_u (o_ldn 6 [vI a1.Most, vI a1.S.Wide, vW a1.S.Seed, g1_.S.Rows.1, g1_.S.Door, vI a1.S.Added, g1_.R.L.1, vI a1.R.Places] ag36 rfl rfl rfl rfl)) (qc rfl rfl (s_u (o_mv rfl)) (qc rfl rfl (s_u (o_bin rfl rfl (bI_eq r103.2 0))) (qc rfl rfl (s_u (o_mv rfl)) (qc rfl rfl (s_n rfl rfl h112) (qc rfl rfl (s_n rfl rfl h112) (qc rfl rfl (s_n rfl rfl h112) (qc rfl rfl (s_n rfl rfl h112) (qc rfl rfl (s_n rfl rfl h112) (qc rfl rfl (s_u (o_pf rfl h112 rfl)) (qc rfl rfl (s_u (o_as rfl)) qn)))))))))))) ?_ (fun h => absurd h (by decide))
                  refine ec (eo_u rfl (s_u (o_stn ag36 rfl rfl rfl (al_c rfl (al_c rfl (al_c rfl (al_c (RoN.one h1.1.1) (al_c (RoS.one h1.1.2) (al_c rfl (al_c (RoN.one h1.2) (al_c rfl al_n)))))))) rfl rfl rfl)) (Le.refl _) ?_) en
                  refine stage_ext [(13, vB false)] rfl ?_
                  refine stage rfl rfl rfl rfl [0, 0, 0, 4, 12, 28, 60, 28, 252, 508, 1020, 509, 2559, 8191] [9, 10, 13] [] rfl rfl rfl (qc rfl rfl (s_n rfl rfl h112) (qc rfl rfl (s_u (o_pf rfl h112 rfl)) (qc rfl rfl (s_u (o_as rfl)) qn))) en ?_
                  intro _
                  refine ex_sub (E' := [(7, pt b8 0), (6, pv105), (8, vB false)]) ⟨rfl, rfl, rfl, trivial⟩ ?_
                  obtain rfl := Option.some.inj hm113
                  exact x_sub K111 ⟨rfl, rfl, rfl, trivial⟩ (fun _ h => st_pk 7 [0, 2, 5, 6, 1, 3, 4] (by decide) h)
            · have hm100 := iff_ hm85 h99
              clear hm85
              refine c_skip ?_
              refine x_blk ?_
              refine x_seq ?_
              refine c_seq ?_
              refine c_reg ?_
              refine r_u (o_ldn 2 [vI a1.Most, vI a1.S.Wide, vW a1.S.Seed, g1_.S.Rows.1, g1_.S.Door, vI a1.S.Added, g1_.R.L.1, vI a1.R.Places] ag36 rfl rfl rfl rfl) ?_
              refine r_u (o_mv rfl) ?_
              obtain ⟨r116, hr116, hm127⟩ := bs hm100
              clear hm100
              refine r_sw (s_w (o_call ca33 rfl (hawthornref08_Tiny_Insert.ok a1 (⟨(⟨(g1_.S.Rows.1, []), g1_.S.Door⟩ : hawthornref05_Sketch.G), (⟨(g1_.R.L.1, [])⟩ : hawthornref06_Rings.G)⟩ : hawthornref08_Tiny.G) ⟨⟨h1.1.1, h1.1.2⟩, h1.2⟩ r9 r116 hr116))) ?_
              rintro _ R125 _ le126 ⟨v117, v124, rfl, hf118, rfl⟩
              refine r_u (o_mv rfl) ?_
              refine r_u (o_ext rfl rfl) ?_
              refine r_u (o_ext rfl rfl) ?_
              refine r_new (o_al ze36) fun b128 => ?_
              refine r_u0 (o_stn ag36 rfl rfl rfl (al_c rfl (al_c rfl (al_c rfl (al_c (RoN.one hf118.1.1) (al_c (RoS.one hf118.1.2) (al_c rfl (al_c (RoN.one hf118.2) (al_c rfl al_n)))))))) rfl rfl rfl) ?_
              refine r_u (o_as rfl) ?_
              refine r_nil ?_
              refine x_seq ?_
              refine c_seq ?_
              refine cd_st (fun _ h => mv1 h) ?_
              refine cd_ex (fun w h => st_freeze w h) fun R129 hf132 => ?_
              obtain ⟨le130, h131⟩ := hf132
              obtain ⟨r133, hr133, hm142⟩ := bs hm127
              clear hm127
              obtain ⟨r147, hr147, hm148⟩ := bs hm142
              clear hm142
              refine c_any mixed (effs := [4, 6, 8]) (V := []) ?_
              refine stage_st (fun _ h => mv6 (mv6 (mv6 h))) ?_
              refine stage_ext [(0, pt b0_ 0), (1, .agg [vI r116.1.Most, vI r116.1.S.Wide, vW r116.1.S.Seed, v117.S.Rows.1, v117.S.Door, vI r116.1.S.Added, v117.R.L.1, vI r116.1.R.Places].toArray), (2, pt b0_ 0), (3, vS r9), (5, v124)] rfl ?_
              refine stage rfl rfl rfl rfl [0, 0, 0, 0, 12, 0, 60, 125, 255, 511] [0, 1, 2, 3, 5] [4] rfl rfl rfl (qc rfl rfl (s_u (o_mv rfl)) (qc rfl rfl (s_u (o_ldn 3 [vI r116.1.Most, vI r116.1.S.Wide, vW r116.1.S.Seed, v117.S.Rows.1, v117.S.Door, vI r116.1.S.Added, v117.R.L.1, vI r116.1.R.Places] ag36 rfl rfl rfl rfl)) (qc rfl rfl (s_u (o_mv rfl)) (qc rfl rfl (s_u (o_mv rfl)) (qc rfl rfl (s_u (o_mv rfl)) qn))))) ?_ (fun h => absurd h (by decide))
              refine ec (eo_w rfl (s_w (o_call ca22 rfl (tiny_Tiny_Insert.ok b0_ a0 (⟨(pv1, g2), (pv4, g5)⟩ : tiny_Tiny.G) r9 r133 hr133))) ?_) en
              rintro v134 R129 _ _ ⟨_, ⟨⟨pv137, g138⟩, ⟨pv140, g141⟩⟩, rfl, rfl, rfl⟩
              refine stage_ex (fun w h => st_freeze w h) fun R143 hf146 => ?_
              obtain ⟨le144, h145⟩ := hf146
              refine stage rfl rfl rfl rfl [0, 0, 0, 0, 12, 0, 60, 125, 255, 511] [0, 1, 5] [6] rfl rfl rfl (qc rfl rfl (s_u (o_mv rfl)) (qc rfl rfl (s_u (o_ldn 3 [vI r116.1.Most, vI r116.1.S.Wide, vW r116.1.S.Seed, v117.S.Rows.1, v117.S.Door, vI r116.1.S.Added, v117.R.L.1, vI r116.1.R.Places] ag36 rfl rfl rfl rfl)) (qc rfl rfl (s_u (o_mv rfl)) qn))) ?_ (fun h => absurd h (by decide))
              refine ec (eo_c rfl (s_w (o_call ca34 rfl (hawthornlaw08_texts.ok v134 r133.1 h145 v124 r116.2 (RoS.mono le144 h131) r147 hr147))) ?_) en
              refine stage_st (fun _ h => mv4 h) ?_
              refine stage_ext [(7, pt b0_ 0)] rfl ?_
              refine stage rfl rfl rfl rfl [0, 0, 0, 0, 12, 0, 60, 125, 255, 511] [0, 1, 7] [8] rfl rfl rfl (qc rfl rfl (s_u (o_mv rfl)) (qc rfl rfl (s_u (o_ldn 4 [vI r116.1.Most, vI r116.1.S.Wide, vW r116.1.S.Seed, v117.S.Rows.1, v117.S.Door, vI r116.1.S.Added, v117.R.L.1, vI r116.1.R.Places] ag36 rfl rfl rfl rfl)) (qc rfl rfl (s_u (o_as rfl)) qn))) ?_ (fun h => absurd h (by decide))
              refine ec (eo_u rfl (s_u (o_stn ag36 rfl rfl rfl (al_c rfl (al_c rfl (al_c rfl (al_c (RoN.one (RoN.mono (Le.trans le130 le144) hf118.1.1)) (al_c (RoS.one (RoS.mono (Le.trans le130 le144) hf118.1.2)) (al_c rfl (al_c (RoN.one (RoN.mono (Le.trans le130 le144) hf118.2)) (al_c rfl al_n)))))))) rfl rfl rfl)) (Le.refl _) ?_) en
              refine stage_ext [(9, vB r147)] rfl ?_
              refine stage rfl rfl rfl rfl [0, 0, 0, 0, 12, 0, 60, 125, 255, 511] [9] [] rfl rfl rfl (qc rfl rfl (s_u (o_as rfl)) qn) en ?_
              intro _
              refine ex_sub (E' := [(7, pt b8 0), (6, pt b0_ 0), (8, vB r147)]) ⟨rfl, rfl, rfl, trivial⟩ ?_
              refine x_seq ?_
              refine c_ret ?_
              refine ex_st (fun _ h => mv3 (mv3 (mv3 h))) ?_
              refine ex_st (fun _ h => st_some (f := tiny_Tiny.op (⟨(pv137, g138), (pv140, g141)⟩ : tiny_Tiny.G)) (a := r133.2) (st_star_f (A := tiny_Tiny.fl b0_ r133.2 (⟨(pv137, g138), (pv140, g141)⟩ : tiny_Tiny.G)) h)) ?_
              obtain rfl := Option.some.inj hm148
              exact x_d3 rfl (rv_t rfl) (rv_n 1 [vI r116.1.Most, vI r116.1.S.Wide, vW r116.1.S.Seed, v117.S.Rows.1, v117.S.Door, vI r116.1.S.Added, v117.R.L.1, vI r116.1.R.Places] ag36 rfl rfl rfl rfl) (rv_t rfl) (fun _ h => st_pk 5 [0] (by decide) h) (Le.trans (Le.trans le126 le130) le144) ⟨_, rfl, (pt b0_ 0, (⟨(pv137, g138), (pv140, g141)⟩ : tiny_Tiny.G)), (⟨(⟨(v117.S.Rows.1, []), v117.S.Door⟩ : hawthornref05_Sketch.G), (⟨(v117.R.L.1, [])⟩ : hawthornref06_Rings.G)⟩ : hawthornref08_Tiny.G), rfl, ⟨⟨(RoN.mono (Le.trans le130 le144) hf118.1.1), (RoS.mono (Le.trans le130 le144) hf118.1.2)⟩, (RoN.mono (Le.trans le130 le144) hf118.2)⟩, rfl⟩
  · refine c_if (b := (a2.Kind == 4)) rfl (fun h149 => ?_) fun h149 => ?_
    · have hm150 := ift hp12 h149
      clear hp12
      refine c_skip ?_
      obtain rfl := Option.some.inj hm150
      exact x_sub K14 ⟨rfl, rfl, rfl, rfl, rfl, rfl, trivial⟩ (fun _ h => st_pk 6 [0, 1, 2, 3, 4, 5] (by decide) h)
    · have hm150 := iff_ hp12 h149
      clear hp12
      refine c_reg ?_
      refine r_u (o_bin rfl rfl (bI_eq a2.Kind 5)) ?_
      refine r_u (o_as rfl) ?_
      refine r_nil ?_
      obtain rfl := Option.some.inj hm150
      exact x_sub K14 ⟨rfl, rfl, rfl, rfl, rfl, rfl, trivial⟩ (fun _ h => st_pk 6 [0, 1, 2, 3, 4, 5] (by decide) h)

def tiny_Tiny_Lists_l0 (a0 : tiny_Tiny) : Nat → Int → List (List Str) → Option (List (List Str))
  | 0, _, _ => none
  | k13 + 1, s_12, o => if decide (s_12 < 3) then (ring_Rings_Keys_1 a0.r s_12).bind fun kz => (gi o s_12).bind fun y => (apd 16 y kz).bind fun y2 => tiny_Tiny_Lists_l0 a0 k13 (i64 (s_12 + 1)) (ls o s_12 y2) else some o
def tiny_Tiny_Lists (a0 : tiny_Tiny) : Option (List (List Str)) := tiny_Tiny_Lists_l0 a0 4 0 [[], [], []]
theorem ls_same {α : Type} {o : List α} {i : Int} {y : α} (h : gi o i = some y) : ls o i y = o := by
  obtain ⟨h0, h1⟩ := gi_some h
  obtain ⟨h2, h3⟩ := List.getElem?_eq_some_iff.1 h1
  unfold ls
  rw [← h3]
  exact List.set_getElem_self h2
theorem gi_ls' {α : Type} {o : List α} {i : Int} {y z : α} (h : gi o i = some y) : gi (ls o i z) i = some z := by
  obtain ⟨h0, h1⟩ := gi_some h
  unfold gi ls
  have : i.toNat < o.length := by omega
  rw [if_pos h0.1]
  simp [this]
theorem gi_len {α : Type} {l : List α} {i : Int} (h0 : 0 ≤ i) (h1 : i < (l.length : Int)) : ∃ v, gi l i = some v := by
  have : i.toNat < l.length := by omega
  exact ⟨l[i.toNat], by unfold gi; rw [if_pos h0]; simp [this]⟩
theorem ls_ls {α : Type} {o : List α} {i : Int} {y z : α} : ls (ls o i y) i z = ls o i z := by simp [ls]
theorem apd_some {α : Type} {n : Nat} {l r s : List α} (h : apd n l r = some s) : s = l ++ r ∧ (l.length + r.length) * n ≤ 140737488355328 := by
  unfold apd at h; split at h
  · exact ⟨(Option.some.inj h).symm, by assumption⟩
  · cases h
theorem tiny_Tiny_Lists.ok {G R F} (b0_ : Nat) (a0 : tiny_Tiny) (g0_ : tiny_Tiny.G) (r : List (List Str)) (hm : tiny_Tiny_Lists a0 = some r) : CO Tryz.prog 35 [pt b0_ 0] G R (Bk b0_ 57 [vI a0.most, g0_.s.1, g0_.r.1] :: rO (sketch_Sketch.op g0_.s.2) g0_.s.1 a0.s :: rO (ring_Rings.op g0_.r.2) g0_.r.1 a0.r :: F)
    (Ret fun u R' L' => ∃ (p0 : Value × Value × Value), u = .agg [p0.1, p0.2.1, p0.2.2].toArray ∧ R' = R ∧ L' = OwL (OwS true 9 1 eS) [p0.1, p0.2.1, p0.2.2] r :: Bk b0_ 57 [vI a0.most, g0_.s.1, g0_.r.1] :: rO (sketch_Sketch.op g0_.s.2) g0_.s.1 a0.s :: rO (ring_Rings.op g0_.r.2) g0_.r.1 a0.r :: F) := by
  obtain ⟨⟨pv1, g2⟩, ⟨pv4, g5⟩⟩ := g0_
  unfold tiny_Tiny_Lists at hm
  refine co_ofM (N := 29) Tryz.func35 rfl rfl ?_
  refine c_seq ?_
  refine c_reg ?_
  refine r_new (o_al ze75) fun b6 => ?_
  refine r_nil ?_
  refine x_seq ?_
  refine c_seq ?_
  refine c_reg ?_
  refine r_new (o_al ze75) fun b7 => ?_
  refine r_nil ?_
  refine x_seq ?_
  refine c_seq ?_
  refine c_seq ?_
  refine c_reg ?_
  refine r_u (o_mv rfl) ?_
  refine r_u (o_bin rfl rfl (bP_eqp Tryz.underlying24)) ?_
  refine r_nil ?_
  refine x_seq ?_
  refine c_ff rfl ?_
  refine c_skip ?_
  refine x_seq ?_
  refine c_seq ?_
  refine c_seq ?_
  refine c_reg ?_
  refine r_u (o_mv rfl) ?_
  refine r_nil ?_
  refine x_seq ?_
  refine c_blk ?_
  refine cd_st (fun w h => st_emp (p := OwL (OwS true 9 1 eS) [.slice none 0 0, .slice none 0 0, .slice none 0 0] [[], [], []]) (OwL.rep (fun h => OwS.nil) 3 _) h) ?_
  refine cd_loopD (σ := Int × List (List Str) × List Value × List Deferred) (M := fun k s => tiny_Tiny_Lists_l0 a0 k s.1 s.2.1 = some r ∧ s.2.2.1.length = 3) (Df := fun s => s.2.2.2)
    (Ef := fun s => [(0, pt b0_ 0), (2, pt b6 0), (3, pt b7 0), (9, vI s.1)]) (Rf := fun _ => R)
    (Lf := fun s => MkC s.2.2.2 :: Bk b7 75 s.2.2.1 :: OwL (OwS true 9 1 eS) s.2.2.1 s.2.1 :: Bk b6 75 [.slice none 0 0, .slice none 0 0, .slice none 0 0] :: Bk b0_ 57 [vI a0.most, pv1, pv4] :: rO (sketch_Sketch.op g2) pv1 a0.s :: rO (ring_Rings.op g5) pv4 a0.r :: F)
    4 (0, [[], [], []], [.slice none 0 0, .slice none 0 0, .slice none 0 0], []) ⟨hm, rfl⟩ rfl ⟨rfl, rfl, rfl, rfl, trivial⟩ (fun _ h => st_pk 7 [3, 1, 0, 2, 4, 5, 6] (by decide) h) (fun s h => by simp [tiny_Tiny_Lists_l0] at h) fun k13 s hM15 => ?_
  obtain ⟨s_12, o, vs, ds⟩ := s
  obtain ⟨hm14, hlen⟩ := hM15
  replace hm14 : tiny_Tiny_Lists_l0 a0 (k13 + 1) s_12 o = some r := hm14
  replace hlen : vs.length = 3 := hlen
  rw [tiny_Tiny_Lists_l0] at hm14
  change CD _ _ _ [(0, pt b0_ 0), (2, pt b6 0), (3, pt b7 0), (9, vI s_12)] R (MkC ds :: Bk b7 75 vs :: OwL (OwS true 9 1 eS) vs o :: Bk b6 75 [.slice none 0 0, .slice none 0 0, .slice none 0 0] :: Bk b0_ 57 [vI a0.most, pv1, pv4] :: rO (sketch_Sketch.op g2) pv1 a0.s :: rO (ring_Rings.op g5) pv4 a0.r :: F)
  refine c_seq ?_
  refine c_reg ?_
  refine r_u (o_bin rfl rfl (bI_lt s_12 3)) ?_
  refine r_nil ?_
  refine x_seq ?_
  refine c_seq ?_
  refine c_if (b := decide (s_12 < 3)) rfl (fun h16 => ?_) fun h16 => ?_
  · have hm17 := ift hm14 h16
    clear hm14
    obtain ⟨kz, hkz, hm18⟩ := bs hm17
    obtain ⟨y, hy, hm19⟩ := bs hm18
    obtain ⟨y2, hy2, hm20⟩ := bs hm19
    obtain ⟨rfl, hbnd⟩ := apd_some hy2
    refine c_skip ?_
    refine x_seq ?_
    refine c_seq ?_
    refine c_blk ?_
    refine c_seq ?_
    refine c_reg ?_
    refine r_u (o_mv rfl) ?_
    refine r_new (o_al ze3) fun b18 => ?_
    refine r_u0 (o_st sc3 rfl rfl rfl rfl rfl rfl) ?_
    refine r_nil ?_
    refine x_seq ?_
    refine c_seq ?_
    refine cd_st (fun _ h => st_pk 8 [7, 0, 1, 2, 3, 4, 5, 6] (by decide) h) ?_
    refine cd_opt (fun ho4 => ?_) (fun x2 b3 ho4 => ?_)
    · rintro rfl
      rw [ho4] at hkz
      cases hkz
    · rintro rfl
      rw [ho4] at hkz
      refine cd_st (fun _ h => st_some (f := ring_Rings.op g5) (a := x2) h) ?_
      refine c_any mixed (effs := [5]) (V := []) ?_
      refine stage_ext [(0, pt b0_ 0), (1, pt b0_ 0), (2, pt b0_ 2), (3, pt b3 0), (4, vI s_12)] rfl ?_
      refine stage rfl rfl rfl rfl [0, 1, 3, 7, 0, 31] [0, 1, 2, 3, 4] [5] rfl rfl rfl (qc rfl rfl (s_u (o_mv rfl)) (qc rfl rfl (s_u (o_nc rfl)) (qc rfl rfl (s_u (o_fa fa57_2 rfl)) (qc rfl rfl (s_u (o_ld 6 sc53 rfl rfl rfl)) (qc rfl rfl (s_u (o_ld 1 sc3 rfl rfl rfl)) qn))))) ?_ (fun h => absurd h (by decide))
      refine ec (eo_w rfl (s_w (o_call ca63 rfl (ring_Rings_Keys.ok (pt b3 0) rfl s_12))) ?_) en
      rintro u R _ _ ⟨c0, c1, rfl, rfl, rfl⟩
      refine stage rfl rfl rfl rfl [0, 1, 3, 7, 0, 31] [] [] rfl rfl rfl qn en ?_
      intro _
      refine ex_sub (E' := [(0, pt b0_ 0), (2, pt b6 0), (3, pt b7 0), (4, pt b18 0), (9, vI s_12), (17, .func (.func 89) #[] #[pt c0 0, pt c1 0])]) ⟨rfl, rfl, rfl, rfl, rfl, rfl, trivial⟩ ?_
      refine x_seq ?_
      refine c_blk ?_
      refine cd_st (fun _ h => st_pk 10 [1, 2, 0, 5, 6, 3, 4, 7, 8, 9] (by decide) h) ?_
      refine c_rangeR (kz := kz) (A0 := [Bk c0 53 [pt b3 0], rO (ring_Rings.op g5) (pt b3 0) (some x2), Bk c1 3 [vI s_12]])
        (L0 := Bk b7 75 vs :: OwL (OwS true 9 1 eS) vs o :: Bk b18 3 [vI s_12] :: MkC ds :: Bk b6 75 [.slice none 0 0, .slice none 0 0, .slice none 0 0] :: Bk b0_ 57 [vI a0.most, pv1, pt b3 0] :: rO (sketch_Sketch.op g2) pv1 a0.s :: F)
        (fun pre L => ∃ vs' : List Value, vs'.length = 3 ∧ L = Bk b7 75 vs' :: OwL (OwS true 9 1 eS) vs' (ls o s_12 (y ++ pre)) :: Bk b18 3 [vI s_12] :: MkC ds :: Bk b6 75 [.slice none 0 0, .slice none 0 0, .slice none 0 0] :: Bk b0_ 57 [vI a0.most, pv1, pt b3 0] :: rO (sketch_Sketch.op g2) pv1 a0.s :: F)
        rfl ca89 rfl (ring_Rings_Keys_1.ok c0 (some x2) (pt b3 0, g5) c1 s_12 kz hkz) ⟨vs, hlen, by rw [List.append_nil, ls_same hy]⟩
        (E1 := fun k => [(0, pt b0_ 0), (2, pt b6 0), (3, pt b7 0), (4, pt b18 0), (5, vS k), (9, vI s_12)]) (fun k y e1 e2 e3 e4 ks L hx => ?_) (fun l T pre k L1 hi hl => ?_) (fun D L1 hi => ?_)
      · refine c_reg ?_
        refine r_u (o_as rfl) ?_ (by rw [e3]; rfl)
        refine r_nil ?_
        exact ex_sub (E' := [(0, pt b0_ 0), (2, pt b6 0), (3, pt b7 0), (4, pt b18 0), (5, vS k), (9, vI s_12)]) ⟨rfl, rfl, rfl, rfl, rfl, rfl, trivial⟩ hx
      · obtain ⟨vs', hlen', rfl⟩ := hi
        replace hl : pre.length < kz.length := by obtain ⟨rest, e⟩ := hl; rw [e]; simp
        have h3 : s_12 < 3 := by simpa using h16
        have h0 : 0 ≤ s_12 := (gi_some hy).1.1
        obtain ⟨v, hv⟩ := gi_len (l := vs') h0 (by omega)
        have hy' : gi (ls o s_12 (y ++ pre)) s_12 = some (y ++ pre) := gi_ls' hy
        have hb : apd 16 (y ++ pre) [k] = some (y ++ pre ++ [k]) := by
          unfold apd; rw [if_pos]; simp only [List.length_append, List.length_cons, List.length_nil]; omega
        have hv3 : gi ((vs'.drop 0).take 3) s_12 = some v := by rw [List.drop_zero, List.take_of_length_le (by omega)]; exact hv
        change CD _ _ _ _ R (Bk b7 75 vs' :: OwL (OwS true 9 1 eS) vs' (ls o s_12 (y ++ pre)) :: Bk b18 3 [vI s_12] :: MkC ds :: Bk b6 75 [.slice none 0 0, .slice none 0 0, .slice none 0 0] :: Bk b0_ 57 [vI a0.most, pv1, pt b3 0] :: rO (sketch_Sketch.op g2) pv1 a0.s :: (F ++ T))
        refine c_blk ?_
        refine cd_st (fun _ h => st_pk 7 [1, 0, 2, 3, 4, 5, 6] (by decide) h) ?_
        refine cd_st (fun _ h => st_foc hv hy' h) ?_
        refine c_any mixed (effs := [5, 6, 8]) (V := []) ?_
        refine stage_ext [(0, vI s_12), (1, vI s_12), (2, pt b7 (0 + s_12.toNat * 1)), (3, v), (4, vS k)] rfl ?_
        refine stage rfl rfl rfl rfl [0, 0, 2, 6, 0, 16, 62, 127, 255] [0, 1, 2, 3, 4] [5] rfl rfl rfl (qc rfl rfl (s_u (o_ld 3 sc3 rfl rfl rfl)) (qc rfl rfl (s_u (o_ld 3 sc3 rfl rfl rfl)) (qc rfl rfl (s_u (o_ixA Tryz.underlying75 (fun _ => by kernel_rfl) rfl rfl ⟨h0, h3⟩)) (qc rfl rfl (s_u (o_ldA (o := 0) (n := 3) 2 sc60 rfl rfl hv3)) (qc rfl rfl (s_u (o_mv rfl)) qn))))) ?_ (fun h => absurd h (by decide))
        refine ec (eo_w rfl (s_w (o_bsl (en := eS) (sz := 1) (e := 9) (cs := [vS k]) (r := [k]) rfl (fun _ => by kernel_rfl) rfl (by decide) rfl (fun _ => rfl))) ?_) en
        rintro v22 R _ _ ⟨rfl, rfl⟩
        refine stage_st (fun _ h => st_pk 2 [1, 0] (by decide) h) ?_
        refine stage rfl rfl rfl rfl [0, 0, 2, 6, 0, 16, 62, 127, 255] [0, 1, 2, 3] [6] rfl rfl rfl (qc rfl rfl (s_u (o_ld 4 sc3 rfl rfl rfl)) (qc rfl rfl (s_u (o_ld 4 sc3 rfl rfl rfl)) (qc rfl rfl (s_u (o_ixA Tryz.underlying75 (fun _ => by kernel_rfl) rfl rfl ⟨h0, h3⟩)) (qc rfl rfl (s_u (o_ldA (o := 0) (n := 3) 3 sc60 rfl rfl hv3)) qn)))) ?_ (fun h => absurd h (by decide))
        refine ec (eo_w rfl (s_w (o_ap (sz := 1) (bytes := 16) 0 Tryz.underlying60 rfl rfl rfl rfl rfl (by decide) (by decide) (fun _ _ _ h => by simp at h; subst h; rfl) (fun _ => rfl) rfl rfl rfl rfl (Nat.succ_pos _) hb)) ?_) en
        rintro v23 R _ _ ⟨rfl, rfl⟩
        refine stage_ext [(7, pt b7 (0 + s_12.toNat * 1))] rfl ?_
        refine stage_st (fun _ h => st_pk 4 [3, 0, 1, 2] (by decide) h) ?_
        refine stage rfl rfl rfl rfl [0, 0, 2, 6, 0, 16, 62, 127, 255] [0, 7] [8] rfl rfl rfl (qc rfl rfl (s_u (o_ld 4 sc3 rfl rfl rfl)) (qc rfl rfl (s_u (o_ixA Tryz.underlying75 (fun _ => by kernel_rfl) rfl rfl ⟨h0, h3⟩)) qn)) ?_ (fun h => absurd h (by decide))
        refine ec (eo_u rfl (s_u (ou_if (one_o 1 rfl) fun ho0 => o_stA (o := 0) (n := 3) sc60 rfl rfl rfl hv3 ho0)) (Le.refl _) ?_) en
        refine stage rfl rfl rfl rfl [0, 0, 2, 6, 0, 16, 62, 127, 255] [] [] rfl rfl rfl qn en ?_
        intro _
        refine x_blk ?_
        refine ex_st (R' := R) (L' := Bk b7 75 (vs'.set s_12.toNat v23) :: OwL (OwS true 9 1 eS) (vs'.set s_12.toNat v23) (ls o s_12 (y ++ (pre ++ [k]))) :: Bk b18 3 [vI s_12] :: MkC ds :: Bk b6 75 [.slice none 0 0, .slice none 0 0, .slice none 0 0] :: Bk b0_ 57 [vI a0.most, pv1, pt b3 0] :: rO (sketch_Sketch.op g2) pv1 a0.s :: (F ++ T)) (fun w h => ?_) ?_
        · have h1 := st_pk 4 [1, 3, 0] (by decide) h
          have h2 := st_unfocus h1
          have h3 : St _ _ (Bk b7 75 (vs'.set (0 + s_12.toNat) v23) :: OwL (OwS true 9 1 eS) (vs'.set s_12.toNat v23) ((ls o s_12 (y ++ pre)).set s_12.toNat (y ++ pre ++ [k])) :: Bk b18 3 [vI s_12] :: MkC ds :: Bk b6 75 [.slice none 0 0, .slice none 0 0, .slice none 0 0] :: Bk b0_ 57 [vI a0.most, pv1, pt b3 0] :: rO (sketch_Sketch.op g2) pv1 a0.s :: (F ++ T)) w := st_pk 2 [1, 0] (by decide) h2
          rw [Nat.zero_add] at h3
          have e : (ls o s_12 (y ++ pre)).set s_12.toNat (y ++ pre ++ [k]) = ls o s_12 (y ++ (pre ++ [k])) := by simp [ls]
          rw [e] at h3
          exact h3
        · exact x_round rfl (Le.refl _) ⟨rfl, rfl, _, (List.cons_append ..).symm ▸ rfl, vs'.set s_12.toNat v23, by simp [hlen'], rfl⟩
      · obtain ⟨vs', hlen', rfl⟩ := hi
        refine x_blk ?_
        refine x_blk ?_
        refine x_seq ?_
        refine c_reg ?_
        refine r_u (o_bin rfl rfl (bI_add s_12 1)) ?_
        refine r_u (o_mv rfl) ?_
        refine r_nil ?_
        exact x_lpD (i64 (s_12 + 1), ls o s_12 (y ++ kz), vs', Hw.mark D :: ds) ⟨hm20, hlen'⟩ rfl ⟨rfl, rfl, rfl, rfl, trivial⟩ (fun w h => by rw [ho4]; exact mk_add (st_pk 11 [0, 7, 4, 5, 8, 9, 10, 2] (by decide) h))
  · have hm17 := iff_ hm14 h16
    clear hm14
    refine c_exit (x_exit (ks' := _) rfl ?_)
    obtain rfl := Option.some.inj hm17
    obtain ⟨p, q, t, rfl⟩ : ∃ p q t, vs = [p, q, t] := by
      match vs, hlen with
      | [p, q, t], _ => exact ⟨p, q, t, rfl⟩
    refine x_seq ?_
    refine c_seq ?_
    refine c_reg ?_
    refine r_u (o_ldn 1 [p, q, t] ag75 rfl rfl rfl rfl) ?_
    refine rl_st (fun _ h => st_pk 7 [3, 0, 1, 2, 4, 5, 6] (by decide) h) ?_
    refine r_u0 (ou_if (one_l 3 0 rfl rfl) fun h1 => ou_if (one_l 3 1 rfl rfl) fun h2 => ou_if (one_l 3 2 rfl rfl) fun h3 => o_stn ag75 rfl rfl rfl (al_c h1 (al_c h2 (al_c h3 al_n))) rfl rfl rfl) ?_
    refine r_nil ?_
    refine x_seq ?_
    refine c_ret ?_
    refine ex_st (fun _ h => st_pk 7 [1, 0, 2, 3, 4, 5, 6] (by decide) h) ?_
    exact x_m1 rfl (rv_n 0 [p, q, t] ag75 rfl rfl rfl rfl) (fun _ h => st_pk 6 [2, 3, 4, 5] (by decide) h) (Le.refl _) ⟨_, rfl, (p, q, t), rfl, rfl, rfl⟩

def hawthornlaw08_same (a0 : tiny_Tiny) (a1 : hawthornref08_Tiny) : Option Bool :=
  (tiny_Tiny_Lists a0).bind fun r7 => (gi r7 0).bind fun y15 => (gi a1.R.L 0).bind fun x18 => (hawthornlaw08_texts y15 x18).bind fun r21 => if r21 then (gi r7 1).bind fun y26 => (gi a1.R.L 1).bind fun x29 => (hawthornlaw08_texts y26 x29).bind fun r32 => if r32 then (gi r7 2).bind fun y38 => (gi a1.R.L 2).bind fun x41 => (hawthornlaw08_texts y38 x41).bind fun r44 => if r44 then (tiny_Tiny_Len a0).bind fun r51 => (hawthornref08_Tiny_Len a1).bind fun r53 => some (r51 == r53) else some false else some false else some false
theorem hawthornlaw08_same.ok {G R F} (b0_ : Nat) (a0 : tiny_Tiny) (g0_ : tiny_Tiny.G) (a1 : hawthornref08_Tiny) (g1_ : hawthornref08_Tiny.G) (h1 : hawthornref08_Tiny.ro R a1 g1_) (r : Bool) (hm : hawthornlaw08_same a0 a1 = some r) : CO Tryz.prog 9 [pt b0_ 0, .agg [vI a1.Most, vI a1.S.Wide, vW a1.S.Seed, g1_.S.Rows.1, g1_.S.Door, vI a1.S.Added, g1_.R.L.1, vI a1.R.Places].toArray] G R (Bk b0_ 57 [vI a0.most, g0_.s.1, g0_.r.1] :: rO (sketch_Sketch.op g0_.s.2) g0_.s.1 a0.s :: rO (ring_Rings.op g0_.r.2) g0_.r.1 a0.r :: F)
    (Ret fun u R' L' => u = vB r ∧ True ∧ L' = Bk b0_ 57 [vI a0.most, g0_.s.1, g0_.r.1] :: rO (sketch_Sketch.op g0_.s.2) g0_.s.1 a0.s :: rO (ring_Rings.op g0_.r.2) g0_.r.1 a0.r :: F) := by
  obtain ⟨⟨pv1, g2⟩, ⟨pv4, g5⟩⟩ := g0_
  unfold hawthornlaw08_same at hm
  refine co_ofN (N := 43) Tryz.func9 rfl rfl ?_
  refine c_seq ?_
  refine c_reg ?_
  refine r_new (o_bx [vI a1.Most, vI a1.S.Wide, vW a1.S.Seed, g1_.S.Rows.1, g1_.S.Door, vI a1.S.Added, g1_.R.L.1, vI a1.R.Places] rfl rfl) fun b6 => ?_
  refine r_u (o_as rfl) ?_
  refine r_nil ?_
  refine x_seq ?_
  refine c_seq ?_
  refine c_reg ?_
  refine r_u (o_mv rfl) ?_
  obtain ⟨r7, hr7, hm9⟩ := bs hm
  clear hm
  refine rl_st (fun _ h => mv3 (mv3 (mv3 h))) ?_
  refine r_sw (s_w (o_call ca35 rfl (tiny_Tiny_Lists.ok b0_ a0 (⟨(pv1, g2), (pv4, g5)⟩ : tiny_Tiny.G) r7 hr7))) ?_
  rintro _ R _ _ ⟨v8, rfl, rfl, rfl⟩
  refine r_new (o_al ze75) fun b10 => ?_
  refine r_u0 (ou_if (one_l 1 0 rfl rfl) fun ho0 => ou_if (one_l 1 1 rfl rfl) fun ho1 => ou_if (one_l 1 2 rfl rfl) fun ho2 => o_stn ag75 rfl rfl rfl (al_c ho0 (al_c ho1 (al_c ho2 al_n))) rfl rfl rfl) ?_
  refine r_nil ?_
  refine x_seq ?_
  refine c_seq ?_
  refine cd_st (fun _ h => mv1 h) ?_
  refine cd_ex (fun w h => st_freezeL w h) fun R11 hf14 => ?_
  obtain ⟨le12, h13, h13'⟩ := hf14
  obtain ⟨y15, hy15, hm17⟩ := bs hm9
  clear hm9
  obtain ⟨x18, hx18, hm20⟩ := bs hm17
  clear hm17
  obtain ⟨b18, o18, l18, T18, fr18, c18, u19, hv18, hR18, he18, hi18, hN18⟩ := RoN.ne (RoN.mono le12 h1.2) hx18
  obtain ⟨r21, hr21, hm22⟩ := bs hm20
  clear hm20
  refine cd_by r21 (fun h23 => ?_) fun h23 => ?_
  · have hm24 := ift hm22 h23
    clear hm22
    obtain ⟨y26, hy26, hm28⟩ := bs hm24
    clear hm24
    obtain ⟨x29, hx29, hm31⟩ := bs hm28
    clear hm28
    obtain ⟨b29, o29, l29, T29, fr29, c29, u30, hv29, hR29, he29, hi29, hN29⟩ := RoN.ne (RoN.mono le12 h1.2) hx29
    obtain ⟨r32, hr32, hm33⟩ := bs hm31
    clear hm31
    refine cd_by r32 (fun h34 => ?_) fun h34 => ?_
    · have hm35 := ift hm33 h34
      clear hm33
      obtain ⟨y38, hy38, hm40⟩ := bs hm35
      clear hm35
      obtain ⟨x41, hx41, hm43⟩ := bs hm40
      clear hm40
      obtain ⟨b41, o41, l41, T41, fr41, c41, u42, hv41, hR41, he41, hi41, hN41⟩ := RoN.ne (RoN.mono le12 h1.2) hx41
      obtain ⟨r44, hr44, hm45⟩ := bs hm43
      clear hm43
      refine cd_by r44 (fun h46 => ?_) fun h46 => ?_
      · have hm47 := ift hm45 h46
        clear hm45
        obtain ⟨u48, hu48⟩ := h13' _ _ hy15
        obtain ⟨u49, hu49⟩ := h13' _ _ hy26
        obtain ⟨u50, hu50⟩ := h13' _ _ hy38
        obtain ⟨r51, hr51, hm52⟩ := bs hm47
        clear hm47
        obtain ⟨r53, hr53, hm54⟩ := bs hm52
        clear hm52
        refine c_any mixed (effs := []) (V := []) ?_
        refine stage_ext [(0, pt b10 (0 + (0 : Int).toNat * 1)), (1, u48), (2, pt b6 6), (3, pt b6 6), (4, g1_.R.L.1), (5, pt b18 (o18 + (0 : Int).toNat * 1)), (6, u19), (7, vB r21), (8, vB r21), (9, pt b10 (0 + (1 : Int).toNat * 1)), (10, u49), (11, pt b6 6), (12, pt b6 6), (13, g1_.R.L.1), (14, pt b29 (o29 + (1 : Int).toNat * 1)), (15, u30), (16, vB r32), (17, vB r32), (18, vB r32), (19, pt b10 (0 + (2 : Int).toNat * 1)), (20, u50), (21, pt b6 6), (22, pt b6 6), (23, g1_.R.L.1), (24, pt b41 (o41 + (2 : Int).toNat * 1)), (25, u42), (26, vB r44), (27, vB r44), (28, vB r44), (29, pt b0_ 0), (30, vI r51), (31, .agg [vI a1.Most, vI a1.S.Wide, vW a1.S.Seed, g1_.S.Rows.1, g1_.S.Door, vI a1.S.Added, g1_.R.L.1, vI a1.R.Places].toArray), (32, vI r53), (33, vB (r51 == r53)), (34, vB (r51 == r53)), (35, vB (r51 == r53))] rfl ?_
        refine stage rfl rfl rfl rfl [0, 1, 0, 4, 12, 28, 60, 127, 255, 511, 1023, 511, 2559, 6655, 14847, 31231, 65535, 131071, 262143, 524287, 1048575, 524287, 2621439, 6815743, 15204351, 31981567, 67108863, 134217727, 268435455, 536870911, 1073741823, 536870911, 4294967295, 8589934591, 17179869183, 34359738367] [0, 1, 2, 3, 4, 5, 6, 7, 8, 9, 10, 11, 12, 13, 14, 15, 16, 17, 18, 19, 20, 21, 22, 23, 24, 25, 26, 27, 28, 29, 30, 31, 32, 33, 34, 35] [] rfl rfl rfl (qc rfl rfl (s_u (o_ixA (sz := 1) Tryz.underlying75 (fun _ => by kernel_rfl) rfl rfl (gi_some hu48).1)) (qc rfl rfl (s_u (o_ldA (o := 0) (n := 3) 0 sc60 rfl rfl hu48)) (qc rfl rfl (s_u (o_fa fa36_2 rfl)) (qc rfl rfl (s_u (o_fa fa34_0 rfl)) (qc rfl rfl (s_u (o_ld 4 sc32 rfl rfl rfl)) (qc rfl rfl (s_u (o_ix (sz := 1) Tryz.underlying32 (fun _ => by kernel_rfl) rfl rfl hv18 hi18)) (qc rfl rfl (s_u (o_ldR sc60 rfl hR18 (rok 0 he18 (by decide)))) (qc rfl rfl (s_u (o_callq ca34 rfl (hawthornlaw08_texts.ok u48 y15 (h13 _ _ _ (gi_some hu48).2 (gi_some hy15).2) u19 x18 hN18 r21 hr21))) (qc rfl rfl (s_u (o_mv rfl)) (qc rfl rfl (s_y rfl rfl h23 (o_ixA (sz := 1) Tryz.underlying75 (fun _ => by kernel_rfl) rfl rfl (gi_some hu49).1)) (qc rfl rfl (s_y rfl rfl h23 (o_ldA (o := 0) (n := 3) 0 sc60 rfl rfl hu49)) (qc rfl rfl (s_y rfl rfl h23 (o_fa fa36_2 rfl)) (qc rfl rfl (s_y rfl rfl h23 (o_fa fa34_0 rfl)) (qc rfl rfl (s_y rfl rfl h23 (o_ld 4 sc32 rfl rfl rfl)) (qc rfl rfl (s_y rfl rfl h23 (o_ix (sz := 1) Tryz.underlying32 (fun _ => by kernel_rfl) rfl rfl hv29 hi29)) (qc rfl rfl (s_y rfl rfl h23 (o_ldR sc60 rfl hR29 (rok 0 he29 (by decide)))) (qc rfl rfl (s_y rfl rfl h23 (o_callq ca34 rfl (hawthornlaw08_texts.ok u49 y26 (h13 _ _ _ (gi_some hu49).2 (gi_some hy26).2) u30 x29 hN29 r32 hr32))) (qc rfl rfl (s_u (o_pt rfl h23 rfl)) (qc rfl rfl (s_u (o_mv rfl)) (qc rfl rfl (s_y rfl rfl h34 (o_ixA (sz := 1) Tryz.underlying75 (fun _ => by kernel_rfl) rfl rfl (gi_some hu50).1)) (qc rfl rfl (s_y rfl rfl h34 (o_ldA (o := 0) (n := 3) 0 sc60 rfl rfl hu50)) (qc rfl rfl (s_y rfl rfl h34 (o_fa fa36_2 rfl)) (qc rfl rfl (s_y rfl rfl h34 (o_fa fa34_0 rfl)) (qc rfl rfl (s_y rfl rfl h34 (o_ld 4 sc32 rfl rfl rfl)) (qc rfl rfl (s_y rfl rfl h34 (o_ix (sz := 1) Tryz.underlying32 (fun _ => by kernel_rfl) rfl rfl hv41 hi41)) (qc rfl rfl (s_y rfl rfl h34 (o_ldR sc60 rfl hR41 (rok 0 he41 (by decide)))) (qc rfl rfl (s_y rfl rfl h34 (o_callq ca34 rfl (hawthornlaw08_texts.ok u50 y38 (h13 _ _ _ (gi_some hu50).2 (gi_some hy38).2) u42 x41 hN41 r44 hr44))) (qc rfl rfl (s_u (o_pt rfl h34 rfl)) (qc rfl rfl (s_u (o_mv rfl)) (qc rfl rfl (s_y rfl rfl h46 (o_mv rfl)) (qc rfl rfl (s_y rfl rfl h46 (o_callqP ca24 rfl (tiny_Tiny_Len.ok b0_ a0 (⟨(pv1, g2), (pv4, g5)⟩ : tiny_Tiny.G) r51 hr51) (fun _ h => st_pk 5 [1, 2, 3, 0, 4] (by decide) h) (fun _ h => st_pk 5 [3, 0, 1, 2, 4] (by decide) h))) (qc rfl rfl (s_y rfl rfl h46 (o_ldn 4 [vI a1.Most, vI a1.S.Wide, vW a1.S.Seed, g1_.S.Rows.1, g1_.S.Door, vI a1.S.Added, g1_.R.L.1, vI a1.R.Places] ag36 rfl rfl rfl rfl)) (qc rfl rfl (s_y rfl rfl h46 (o_callq ca36 rfl (hawthornref08_Tiny_Len.ok a1 (⟨(⟨(g1_.S.Rows.1, []), g1_.S.Door⟩ : hawthornref05_Sketch.G), (⟨(g1_.R.L.1, [])⟩ : hawthornref06_Rings.G)⟩ : hawthornref08_Tiny.G) ⟨⟨(RoN.mono le12 h1.1.1), (RoS.mono le12 h1.1.2)⟩, (RoN.mono le12 h1.2)⟩ r53 hr53))) (qc rfl rfl (s_y rfl rfl h46 (o_bin rfl rfl (bI_eq r51 r53))) (qc rfl rfl (s_u (o_pt rfl h46 rfl)) (qc rfl rfl (s_u (o_as rfl)) qn)))))))))))))))))))))))))))))))))))) en ?_
        intro _
        refine ex_sub (E' := [(4, vB (r51 == r53))]) ⟨rfl, trivial⟩ ?_
        refine x_seq ?_
        refine c_ret ?_
        obtain rfl := Option.some.inj hm54
        refine ex_st (fun _ h => st_pk 5 [1, 2, 3] (by decide) h) ?_
        exact x_r1 rfl (rv_t rfl) le12 ⟨_, rfl, rfl, trivial, rfl⟩
      · have hm47 := iff_ hm45 h46
        clear hm45
        obtain ⟨u55, hu55⟩ := h13' _ _ hy15
        obtain ⟨u56, hu56⟩ := h13' _ _ hy26
        obtain ⟨u57, hu57⟩ := h13' _ _ hy38
        refine c_any mixed (effs := []) (V := []) ?_
        refine stage_ext [(0, pt b10 (0 + (0 : Int).toNat * 1)), (1, u55), (2, pt b6 6), (3, pt b6 6), (4, g1_.R.L.1), (5, pt b18 (o18 + (0 : Int).toNat * 1)), (6, u19), (7, vB r21), (8, vB r21), (9, pt b10 (0 + (1 : Int).toNat * 1)), (10, u56), (11, pt b6 6), (12, pt b6 6), (13, g1_.R.L.1), (14, pt b29 (o29 + (1 : Int).toNat * 1)), (15, u30), (16, vB r32), (17, vB r32), (18, vB r32), (19, pt b10 (0 + (2 : Int).toNat * 1)), (20, u57), (21, pt b6 6), (22, pt b6 6), (23, g1_.R.L.1), (24, pt b41 (o41 + (2 : Int).toNat * 1)), (25, u42), (26, vB r44), (27, vB r44), (28, vB r44), (29, undef), (30, undef), (31, undef), (32, undef), (33, undef), (34, vB false), (35, vB false)] rfl ?_
        refine stage rfl rfl rfl rfl [0, 1, 0, 4, 12, 28, 60, 127, 255, 511, 1023, 511, 2559, 6655, 14847, 31231, 65535, 131071, 262143, 524287, 1048575, 524287, 2621439, 6815743, 15204351, 31981567, 67108863, 134217727, 268435455, 536870911, 1073741823, 536870911, 4294967295, 8589934591, 17179869183, 34359738367] [0, 1, 2, 3, 4, 5, 6, 7, 8, 9, 10, 11, 12, 13, 14, 15, 16, 17, 18, 19, 20, 21, 22, 23, 24, 25, 26, 27, 28, 29, 30, 31, 32, 33, 34, 35] [] rfl rfl rfl (qc rfl rfl (s_u (o_ixA (sz := 1) Tryz.underlying75 (fun _ => by kernel_rfl) rfl rfl (gi_some hu55).1)) (qc rfl rfl (s_u (o_ldA (o := 0) (n := 3) 0 sc60 rfl rfl hu55)) (qc rfl rfl (s_u (o_fa fa36_2 rfl)) (qc rfl rfl (s_u (o_fa fa34_0 rfl)) (qc rfl rfl (s_u (o_ld 4 sc32 rfl rfl rfl)) (qc rfl rfl (s_u (o_ix (sz := 1) Tryz.underlying32 (fun _ => by kernel_rfl) rfl rfl hv18 hi18)) (qc rfl rfl (s_u (o_ldR sc60 rfl hR18 (rok 0 he18 (by decide)))) (qc rfl rfl (s_u (o_callq ca34 rfl (hawthornlaw08_texts.ok u55 y15 (h13 _ _ _ (gi_some hu55).2 (gi_some hy15).2) u19 x18 hN18 r21 hr21))) (qc rfl rfl (s_u (o_mv rfl)) (qc rfl rfl (s_y rfl rfl h23 (o_ixA (sz := 1) Tryz.underlying75 (fun _ => by kernel_rfl) rfl rfl (gi_some hu56).1)) (qc rfl rfl (s_y rfl rfl h23 (o_ldA (o := 0) (n := 3) 0 sc60 rfl rfl hu56)) (qc rfl rfl (s_y rfl rfl h23 (o_fa fa36_2 rfl)) (qc rfl rfl (s_y rfl rfl h23 (o_fa fa34_0 rfl)) (qc rfl rfl (s_y rfl rfl h23 (o_ld 4 sc32 rfl rfl rfl)) (qc rfl rfl (s_y rfl rfl h23 (o_ix (sz := 1) Tryz.underlying32 (fun _ => by kernel_rfl) rfl rfl hv29 hi29)) (qc rfl rfl (s_y rfl rfl h23 (o_ldR sc60 rfl hR29 (rok 0 he29 (by decide)))) (qc rfl rfl (s_y rfl rfl h23 (o_callq ca34 rfl (hawthornlaw08_texts.ok u56 y26 (h13 _ _ _ (gi_some hu56).2 (gi_some hy26).2) u30 x29 hN29 r32 hr32))) (qc rfl rfl (s_u (o_pt rfl h23 rfl)) (qc rfl rfl (s_u (o_mv rfl)) (qc rfl rfl (s_y rfl rfl h34 (o_ixA (sz := 1) Tryz.underlying75 (fun _ => by kernel_rfl) rfl rfl (gi_some hu57).1)) (qc rfl rfl (s_y rfl rfl h34 (o_ldA (o := 0) (n := 3) 0 sc60 rfl rfl hu57)) (qc rfl rfl (s_y rfl rfl h34 (o_fa fa36_2 rfl)) (qc rfl rfl (s_y rfl rfl h34 (o_fa fa34_0 rfl)) (qc rfl rfl (s_y rfl rfl h34 (o_ld 4 sc32 rfl rfl rfl)) (qc rfl rfl (s_y rfl rfl h34 (o_ix (sz := 1) Tryz.underlying32 (fun _ => by kernel_rfl) rfl rfl hv41 hi41)) (qc rfl rfl (s_y rfl rfl h34 (o_ldR sc60 rfl hR41 (rok 0 he41 (by decide)))) (qc rfl rfl (s_y rfl rfl h34 (o_callq ca34 rfl (hawthornlaw08_texts.ok u57 y38 (h13 _ _ _ (gi_some hu57).2 (gi_some hy38).2) u42 x41 hN41 r44 hr44))) (qc rfl rfl (s_u (o_pt rfl h34 rfl)) (qc rfl rfl (s_u (o_mv rfl)) (qc rfl rfl (s_n rfl rfl h46) (qc rfl rfl (s_n rfl rfl h46) (qc rfl rfl (s_n rfl rfl h46) (qc rfl rfl (s_n rfl rfl h46) (qc rfl rfl (s_n rfl rfl h46) (qc rfl rfl (s_u (o_pf rfl h46 rfl)) (qc rfl rfl (s_u (o_as rfl)) qn)))))))))))))))))))))))))))))))))))) en ?_
        intro _
        refine ex_sub (E' := [(4, vB false)]) ⟨rfl, trivial⟩ ?_
        refine x_seq ?_
        refine c_ret ?_
        obtain rfl := Option.some.inj hm47
        refine ex_st (fun _ h => st_pk 5 [1, 2, 3] (by decide) h) ?_
        exact x_r1 rfl (rv_t rfl) le12 ⟨_, rfl, rfl, trivial, rfl⟩
    · have hm35 := iff_ hm33 h34
      clear hm33
      obtain ⟨u58, hu58⟩ := h13' _ _ hy15
      obtain ⟨u59, hu59⟩ := h13' _ _ hy26
      refine c_any mixed (effs := []) (V := []) ?_
      refine stage_ext [(0, pt b10 (0 + (0 : Int).toNat * 1)), (1, u58), (2, pt b6 6), (3, pt b6 6), (4, g1_.R.L.1), (5, pt b18 (o18 + (0 : Int).toNat * 1)), (6, u19), (7, vB r21), (8, vB r21), (9, pt b10 (0 + (1 : Int).toNat * 1)), (10, u59), (11, pt b6 6), (12, pt b6 6), (13, g1_.R.L.1), (14, pt b29 (o29 + (1 : Int).toNat * 1)), (15, u30), (16, vB r32), (17, vB r32), (18, vB r32), (19, undef), (20, undef), (21, undef), (22, undef), (23, undef), (24, undef), (25, undef), (26, undef), (27, vB false), (28, vB false), (29, undef), (30, undef), (31, undef), (32, undef), (33, undef), (34, vB false), (35, vB false)] rfl ?_
      refine stage rfl rfl rfl rfl [0, 1, 0, 4, 12, 28, 60, 127, 255, 511, 1023, 511, 2559, 6655, 14847, 31231, 65535, 131071, 262143, 524287, 1048575, 524287, 2621439, 6815743, 15204351, 31981567, 67108863, 134217727, 268435455, 536870911, 1073741823, 536870911, 4294967295, 8589934591, 17179869183, 34359738367] [0, 1, 2, 3, 4, 5, 6, 7, 8, 9, 10, 11, 12, 13, 14, 15, 16, 17, 18, 19, 20, 21, 22, 23, 24, 25, 26, 27, 28, 29, 30, 31, 32, 33, 34, 35] [] rfl rfl rfl (qc rfl rfl (s_u (o_ixA (sz := 1) Tryz.underlying75 (fun _ => by kernel_rfl) rfl rfl (gi_some hu58).1)) (qc rfl rfl (s_u (o_ldA (o := 0) (n := 3) 0 sc60 rfl rfl hu58)) (qc rfl rfl (s_u (o_fa fa36_2 rfl)) (qc rfl rfl (s_u (o_fa fa34_0 rfl)) (qc rfl rfl (s_u (o_ld 4 sc32 rfl rfl rfl)) (qc rfl rfl (s_u (o_ix (sz := 1) Tryz.underlying32 (fun _ => by kernel_rfl) rfl rfl hv18 hi18)) (qc rfl rfl (s_u (o_ldR sc60 rfl hR18 (rok 0 he18 (by decide)))) (qc rfl rfl (s_u (o_callq ca34 rfl (hawthornlaw08_texts.ok u58 y15 (h13 _ _ _ (gi_some hu58).2 (gi_some hy15).2) u19 x18 hN18 r21 hr21))) (qc rfl rfl (s_u (o_mv rfl)) (qc rfl rfl (s_y rfl rfl h23 (o_ixA (sz := 1) Tryz.underlying75 (fun _ => by kernel_rfl) rfl rfl (gi_some hu59).1)) (qc rfl rfl (s_y rfl rfl h23 (o_ldA (o := 0) (n := 3) 0 sc60 rfl rfl hu59)) (qc rfl rfl (s_y rfl rfl h23 (o_fa fa36_2 rfl)) (qc rfl rfl (s_y rfl rfl h23 (o_fa fa34_0 rfl)) (qc rfl rfl (s_y rfl rfl h23 (o_ld 4 sc32 rfl rfl rfl)) (qc rfl rfl (s_y rfl rfl h23 (o_ix (sz := 1) Tryz.underlying32 (fun _ => by kernel_rfl) rfl rfl hv29 hi29)) (qc rfl rfl (s_y rfl rfl h23 (o_ldR sc60 rfl hR29 (rok 0 he29 (by decide)))) (qc rfl rfl (s_y rfl rfl h23 (o_callq ca34 rfl (hawthornlaw08_texts.ok u59 y26 (h13 _ _ _ (gi_some hu59).2 (gi_some hy26).2) u30 x29 hN29 r32 hr32))) (qc rfl rfl (s_u (o_pt rfl h23 rfl)) (qc rfl rfl (s_u (o_mv rfl)) (qc rfl rfl (s_n rfl rfl h34) (qc rfl rfl (s_n rfl rfl h34) (qc rfl rfl (s_n rfl rfl h34) (qc rfl rfl (s_n rfl rfl h34) (qc rfl rfl (s_n rfl rfl h34) (qc rfl rfl (s_n rfl rfl h34) (qc rfl rfl (s_n rfl rfl h34) (qc rfl rfl (s_n rfl rfl h34) (qc rfl rfl (s_u (o_pf rfl h34 rfl)) (qc rfl rfl (s_u (o_mv rfl)) (qc rfl rfl (s_n rfl rfl rfl) (qc rfl rfl (s_n rfl rfl rfl) (qc rfl rfl (s_n rfl rfl rfl) (qc rfl rfl (s_n rfl rfl rfl) (qc rfl rfl (s_n rfl rfl rfl) (qc rfl rfl (s_u (o_pf rfl rfl rfl)) (qc rfl rfl (s_u (o_as rfl)) qn)))))))))))))))))))))))))))))))))))) en ?_
      intro _
      refine ex_sub (E' := [(4, vB false)]) ⟨rfl, trivial⟩ ?_
      refine x_seq ?_
      refine c_ret ?_
      obtain rfl := Option.some.inj hm35
      refine ex_st (fun _ h => st_pk 5 [1, 2, 3] (by decide) h) ?_
      exact x_r1 rfl (rv_t rfl) le12 ⟨_, rfl, rfl, trivial, rfl⟩
  · have hm24 := iff_ hm22 h23
    clear hm22
    obtain ⟨u60, hu60⟩ := h13' _ _ hy15
    refine c_any mixed (effs := []) (V := []) ?_
    refine stage_ext [(0, pt b10 (0 + (0 : Int).toNat * 1)), (1, u60), (2, pt b6 6), (3, pt b6 6), (4, g1_.R.L.1), (5, pt b18 (o18 + (0 : Int).toNat * 1)), (6, u19), (7, vB r21), (8, vB r21), (9, undef), (10, undef), (11, undef), (12, undef), (13, undef), (14, undef), (15, undef), (16, undef), (17, vB false), (18, vB false), (19, undef), (20, undef), (21, undef), (22, undef), (23, undef), (24, undef), (25, undef), (26, undef), (27, vB false), (28, vB false), (29, undef), (30, undef), (31, undef), (32, undef), (33, undef), (34, vB false), (35, vB false)] rfl ?_
    refine stage rfl rfl rfl rfl [0, 1, 0, 4, 12, 28, 60, 127, 255, 511, 1023, 511, 2559, 6655, 14847, 31231, 65535, 131071, 262143, 524287, 1048575, 524287, 2621439, 6815743, 15204351, 31981567, 67108863, 134217727, 268435455, 536870911, 1073741823, 536870911, 4294967295, 8589934591, 17179869183, 34359738367] [0, 1, 2, 3, 4, 5, 6, 7, 8, 9, 10, 11, 12, 13, 14, 15, 16, 17, 18, 19, 20, 21, 22, 23, 24, 25, 26, 27, 28, 29, 30, 31, 32, 33, 34, 35] [] rfl rfl rfl (qc rfl rfl (s_u (o_ixA (sz := 1) Tryz.underlying75 (fun _ => by kernel_rfl) rfl rfl (gi_some hu60).1)) (qc rfl rfl (s_u (o_ldA (o := 0) (n := 3) 0 sc60 rfl rfl hu60)) (qc rfl rfl (s_u (o_fa fa36_2 rfl)) (qc rfl rfl (s_u (o_fa fa34_0 rfl)) (qc rfl rfl (s_u (o_ld 4 sc32 rfl rfl rfl)) (qc rfl rfl (s_u (o_ix (sz := 1) Tryz.underlying32 (fun _ => by kernel_rfl) rfl rfl hv18 hi18)) (qc rfl rfl (s_u (o_ldR sc60 rfl hR18 (rok 0 he18 (by decide)))) (qc rfl rfl (s_u (o_callq ca34 rfl (hawthornlaw08_texts.ok u60 y15 (h13 _ _ _ (gi_some hu60).2 (gi_some hy15).2) u19 x18 hN18 r21 hr21))) (qc rfl rfl (s_u (o_mv rfl)) (qc rfl rfl (s_n rfl rfl h23) (qc rfl rfl (s_n rfl rfl h23) (qc rfl rfl (s_n rfl rfl h23) (qc rfl rfl (s_n rfl rfl h23) (qc rfl rfl (s_n rfl rfl h23) (qc rfl rfl (s_n rfl rfl h23) (qc rfl rfl (s_n rfl rfl h23) (qc rfl rfl (s_n rfl rfl h23) (qc rfl rfl (s_u (o_pf rfl h23 rfl)) (qc rfl rfl (s_u (o_mv rfl)) (qc rfl rfl (s_n rfl rfl rfl) (qc rfl rfl (s_n rfl rfl rfl) (qc rfl rfl (s_n rfl rfl rfl) (qc rfl rfl (s_n rfl rfl rfl) (qc rfl rfl (s_n rfl rfl rfl) (qc rfl rfl (s_n rfl rfl rfl) (qc rfl rfl (s_n rfl rfl rfl) (qc rfl rfl (s_n rfl rfl rfl) (qc rfl rfl (s_u (o_pf rfl rfl rfl)) (qc rfl rfl (s_u (o_mv rfl)) (qc rfl rfl (s_n rfl rfl rfl) (qc rfl rfl (s_n rfl rfl rfl) (qc rfl rfl (s_n rfl rfl rfl) (qc rfl rfl (s_n rfl rfl rfl) (qc rfl rfl (s_n rfl rfl rfl) (qc rfl rfl (s_u (o_pf rfl rfl rfl)) (qc rfl rfl (s_u (o_as rfl)) qn)))))))))))))))))))))))))))))))))))) en ?_
    intro _
    refine ex_sub (E' := [(4, vB false)]) ⟨rfl, trivial⟩ ?_
    refine x_seq ?_
    refine c_ret ?_
    obtain rfl := Option.some.inj hm24
    refine ex_st (fun _ h => st_pk 5 [1, 2, 3] (by decide) h) ?_
    exact x_r1 rfl (rv_t rfl) le12 ⟨_, rfl, rfl, trivial, rfl⟩

def hawthornlaw08_TinyPlays_l0 (a2 : List hawthornlaw08_Act) : Nat → (Option tiny_Tiny) → Int → hawthornref08_Tiny → Option ((Option tiny_Tiny × hawthornref08_Tiny) ⊕ Bool)
  | 0, _, _, _ => none
  | k64 + 1, t_49, i_50, c_51 => if (decide (i_50 < (a2.length : Int)) && decide (i_50 < 80)) then Option.bind ((gi a2 i_50).bind fun x98 => om t_49 (none) fun x100 => (hawthornlaw08_do x100 c_51 x98).bind fun r110 => (hawthornlaw08_few x98.Key).bind fun r125 => om r110.1 (none) fun x127 => Option.bind (if r110.2.2 then (hawthornlaw08_same x127 r110.2.1).bind fun r147 => Option.bind (if r147 then (tiny_Tiny_Has x127 r125).bind fun r161 => (hawthornref08_Tiny_Has r110.2.1 r125).bind fun r163 => Option.bind (if (r161 != r163) then some true else (tiny_Tiny_Seen x127 r125).bind fun r177 => (hawthornref05_Sketch_Seen r110.2.1.S r125).bind fun r179 => some (r177 != r179)) fun p165 => some p165 else some true) fun p151 => some p151 else some true) fun p137 => if p137 then some (Sum.inr (Sum.inr false)) else some (Sum.inl ((some x127), r110.2.1))) fun (p81 : (Option tiny_Tiny × hawthornref08_Tiny) ⊕ ((Option tiny_Tiny × hawthornref08_Tiny) ⊕ Bool)) => (match p81 with | Sum.inl q82 => hawthornlaw08_TinyPlays_l0 a2 k64 q82.1 (i64 (i_50 + 1)) q82.2 | Sum.inr r => some r) else some (Sum.inl (t_49, c_51))
def hawthornlaw08_TinyPlays (a0 : Int) (a1 : UInt64) (a2 : List hawthornlaw08_Act) : Option Bool :=
  (tiny_New (i64 (1 + (iand a0 15))) a1).bind fun r0 => (hawthornref08_New (i64 (1 + (iand a0 15))) a1).bind fun r5 => (hawthornlaw08_awake).bind fun r14 => if (!r14 || (r0.2 != 0)) then some false else Option.bind (hawthornlaw08_TinyPlays_l0 a2 (((a2.length : Int) - 0).toNat + 1) r0.1 0 r5) fun (p18 : (Option tiny_Tiny × hawthornref08_Tiny) ⊕ Bool) => (match p18 with | Sum.inl q19 => om q19.1 (none) fun x35 => (tiny_Tiny_Export x35).bind fun r45 => (hawthornref08_Tiny_Put q19.2).bind fun r47 => some (r45 == r47) | Sum.inr r => some r)
theorem hawthornlaw08_TinyPlays.ok {G R F} (a0 : Int) (a1 : UInt64) (v2_ : Value) (a2 : List hawthornlaw08_Act) (h2_ : RoS R v2_ 2 hawthornlaw08_Act.c a2) (r : Bool) (hm : hawthornlaw08_TinyPlays a0 a1 a2 = some r) : CO Tryz.prog 3 [vI a0, vW a1, v2_] G R (F)
    (Ret fun u R' L' => u = vB r ∧ True ∧ L' = F) := by
  unfold hawthornlaw08_TinyPlays at hm
  refine co_ofN (N := 95) Tryz.func3 rfl rfl ?_
  refine c_seq ?_
  refine c_reg ?_
  refine r_u (o_as rfl) ?_
  refine r_nil ?_
  refine x_seq ?_
  refine c_seq ?_
  refine c_reg ?_
  refine r_u (o_mv rfl) ?_
  refine r_u (o_bin rfl rfl (bI_and a0 15)) ?_
  refine r_u (o_bin rfl rfl (bI_add 1 (iand a0 15))) ?_
  refine r_u (o_as rfl) ?_
  refine r_nil ?_
  refine x_seq ?_
  refine c_seq ?_
  refine c_reg ?_
  refine r_u (o_mv rfl) ?_
  refine r_u (o_mv rfl) ?_
  obtain ⟨r0, hr0, hm4⟩ := bs hm
  clear hm
  refine r_sw (s_w (o_call ca4 rfl (tiny_New.ok (i64 (1 + (iand a0 15))) a1 r0 hr0))) ?_
  rintro _ R _ _ ⟨⟨pv2, g3⟩, rfl, rfl, rfl⟩
  refine r_u (o_mv rfl) ?_
  refine r_u (o_ext rfl rfl) ?_
  refine r_u (o_ext rfl rfl) ?_
  refine r_u (o_as rfl) ?_
  refine r_u (o_as rfl) ?_
  refine r_nil ?_
  refine x_seq ?_
  refine c_seq ?_
  refine c_reg ?_
  refine r_u (o_mv rfl) ?_
  refine r_u (o_mv rfl) ?_
  obtain ⟨r5, hr5, hm12⟩ := bs hm4
  clear hm4
  refine r_sw (s_w (o_call ca5 rfl (hawthornref08_New.ok (i64 (1 + (iand a0 15))) a1 r5 hr5))) ?_
  rintro _ R _ _ ⟨v6, rfl, rfl, rfl⟩
  refine r_new (o_al ze36) fun b13 => ?_
  refine rl_st (fun _ h => mv3 (mv3 (mv4 (mv4 h)))) ?_
  refine r_u0 (ou_if (one_o 1 rfl) fun ho0 => ou_if (one_o 2 rfl) fun ho1 => ou_if (one_o 3 rfl) fun ho2 => o_stn ag36 rfl rfl rfl (al_c rfl (al_c rfl (al_c rfl (al_c ho0 (al_c ho1 (al_c rfl (al_c ho2 (al_c rfl al_n)))))))) rfl rfl rfl) ?_
  refine r_nil ?_
  refine x_seq ?_
  refine c_seq ?_
  refine c_seq ?_
  refine c_reg ?_
  obtain ⟨r14, hr14, hm15⟩ := bs hm12
  clear hm12
  refine r_u (o_callq ca6 rfl (hawthornlaw08_awake.ok r14 hr14)) ?_
  refine r_u (o_not rfl) ?_
  refine r_u (o_mv rfl) ?_
  refine r_s (s_gf rfl rfl fun g => o_mv rfl) ?_
  refine r_s (s_gf rfl rfl fun g => o_bin (evg rfl g) rfl (bI_ne r0.2 0)) ?_
  refine r_u (o_or rfl rfl) ?_
  refine r_nil ?_
  refine x_seq ?_
  refine c_if (b := (!r14 || (r0.2 != 0))) rfl (fun h16 => ?_) fun h16 => ?_
  · have hm17 := ift hm15 h16
    clear hm15
    refine c_seq ?_
    refine c_reg ?_
    refine r_u (o_as rfl) ?_
    refine r_nil ?_
    refine x_seq ?_
    refine c_ret ?_
    obtain rfl := Option.some.inj hm17
    refine ex_st (fun _ h => st_pk 7 [] (by decide) h) ?_
    exact x_r1 rfl (rv_t rfl) (Le.refl _) ⟨_, rfl, rfl, trivial, rfl⟩
  · have hm17 := iff_ hm15 h16
    clear hm15
    refine c_skip ?_
    refine x_seq ?_
    refine c_seq ?_
    refine c_seq ?_
    refine c_reg ?_
    refine r_u (o_as rfl) ?_
    refine r_nil ?_
    refine x_seq ?_
    obtain ⟨p18, hp32, hm33⟩ := bs hm17
    refine cd_cut (fun x ks => ∀ (q19 : Option tiny_Tiny × hawthornref08_Tiny), ∀ (_ : p18 = Sum.inl q19), ∀ (R20 : PH), ∀ (le21 : Le R R20), ∀ (pv22 : Value × tiny_Tiny.G), ∀ (g26 : hawthornref08_Tiny.G), ∀ (hf25 : hawthornref08_Tiny.ro R20 q19.2 g26), EX x .normal ks [(10, pt b13 0), (8, pv22.1)] R20 (Bk b13 36 [vI q19.2.Most, vI q19.2.S.Wide, vW q19.2.S.Seed, g26.S.Rows.1, g26.S.Door, vI q19.2.S.Added, g26.R.L.1, vI q19.2.R.Places] :: rO (tiny_Tiny.op pv22.2) pv22.1 q19.1 :: F)) ?_ fun K34 => ?_
    · intro q19 hq R20 le21 pv22 g26 hf25
      subst hq
      try dsimp only at hm33
      obtain ⟨pv23, g24⟩ := pv22
      refine x_seq ?_
      refine c_seq ?_
      refine cd_st (fun _ h => mv1 h) ?_
      refine cd_opt (fun ho37 => ?_) (fun x35 b36 ho37 => ?_)
      · rintro rfl
        have hm38 := om_n hm33 ho37
        clear hm33
        cases hm38
      · rintro rfl
        have hm38 := om_s hm33 ho37
        clear hm33
        obtain ⟨⟨pv40, g41⟩, ⟨pv43, g44⟩⟩ := g24
        refine cd_st (fun _ h => st_star_o h) ?_
        obtain ⟨r45, hr45, hm46⟩ := bs hm38
        clear hm38
        obtain ⟨r47, hr47, hm48⟩ := bs hm46
        clear hm46
        refine c_any mixed (effs := []) (V := []) ?_
        refine stage_ext [(0, pt b36 0), (1, vS r45), (2, .agg [vI q19.2.Most, vI q19.2.S.Wide, vW q19.2.S.Seed, g26.S.Rows.1, g26.S.Door, vI q19.2.S.Added, g26.R.L.1, vI q19.2.R.Places].toArray), (3, vS r47), (4, vB (r45 == r47)), (5, vB (r45 == r47))] rfl ?_
        refine stage rfl rfl rfl rfl [0, 1, 0, 7, 15, 31] [0, 1, 2, 3, 4, 5] [] rfl rfl rfl (qc rfl rfl (s_u (o_mv rfl)) (qc rfl rfl (s_u (o_callqP ca14 rfl (tiny_Tiny_Export.ok b36 x35 (⟨(pv40, g41), (pv43, g44)⟩ : tiny_Tiny.G) r45 hr45) (fun _ h => st_pk 4 [0, 1, 2, 3] (by decide) h) (fun _ h => st_pk 4 [0, 1, 2, 3] (by decide) h))) (qc rfl rfl (s_u (o_ldn 3 [vI q19.2.Most, vI q19.2.S.Wide, vW q19.2.S.Seed, g26.S.Rows.1, g26.S.Door, vI q19.2.S.Added, g26.R.L.1, vI q19.2.R.Places] ag36 rfl rfl rfl rfl)) (qc rfl rfl (s_u (o_callq ca15 rfl (hawthornref08_Tiny_Put.ok q19.2 (⟨(⟨(g26.S.Rows.1, []), g26.S.Door⟩ : hawthornref05_Sketch.G), (⟨(g26.R.L.1, [])⟩ : hawthornref06_Rings.G)⟩ : hawthornref08_Tiny.G) ⟨⟨hf25.1.1, hf25.1.2⟩, hf25.2⟩ r47 hr47))) (qc rfl rfl (s_u (o_bin rfl rfl (bS_eq r45 r47))) (qc rfl rfl (s_u (o_as rfl)) qn)))))) en ?_
        intro _
        refine ex_sub (E' := [(6, vB (r45 == r47))]) ⟨rfl, trivial⟩ ?_
        refine x_seq ?_
        refine c_ret ?_
        obtain rfl := Option.some.inj hm48
        refine ex_st (fun _ h => st_pk 4 [] (by decide) h) ?_
        exact x_r1 rfl (rv_t rfl) le21 ⟨_, rfl, rfl, trivial, rfl⟩
    · refine c_blk ?_
      refine cd_st (fun _ h => mv2 (mv4 h)) ?_
      refine cd_ex (fun w h => st_freezeN w h) fun R65 hf68 => ?_
      obtain ⟨le66, h67⟩ := hf68
      refine cd_st (fun _ h => mv1 h) ?_
      refine cd_ex (fun w h => st_freeze w h) fun R69 hf72 => ?_
      obtain ⟨le70, h71⟩ := hf72
      refine cd_st (fun _ h => mv2 (mv2 h)) ?_
      refine cd_ex (fun w h => st_freezeN w h) fun R73 hf76 => ?_
      obtain ⟨le74, h75⟩ := hf76
      refine cd_loopG (M := fun k64 (s : Option tiny_Tiny × Int × hawthornref08_Tiny × (Value × tiny_Tiny.G) × hawthornref08_Tiny.G × PH) => (hawthornlaw08_TinyPlays_l0 a2 k64 s.1 s.2.1 s.2.2.1 = some p18) ∧ (Le R s.2.2.2.2.2) ∧ (hawthornref08_Tiny.ro s.2.2.2.2.2 s.2.2.1 s.2.2.2.2.1)) (Ef := fun (s : Option tiny_Tiny × Int × hawthornref08_Tiny × (Value × tiny_Tiny.G) × hawthornref08_Tiny.G × PH) => [(2, v2_), (10, pt b13 0), (8, s.2.2.2.1.1), (11, vI s.2.1)]) (Rf := fun (s : Option tiny_Tiny × Int × hawthornref08_Tiny × (Value × tiny_Tiny.G) × hawthornref08_Tiny.G × PH) => s.2.2.2.2.2) (Lf := fun (s : Option tiny_Tiny × Int × hawthornref08_Tiny × (Value × tiny_Tiny.G) × hawthornref08_Tiny.G × PH) => Bk b13 36 [vI s.2.2.1.Most, vI s.2.2.1.S.Wide, vW s.2.2.1.S.Seed, s.2.2.2.2.1.S.Rows.1, s.2.2.2.2.1.S.Door, vI s.2.2.1.S.Added, s.2.2.2.2.1.R.L.1, vI s.2.2.1.R.Places] :: rO (tiny_Tiny.op s.2.2.2.1.2) s.2.2.2.1.1 s.1 :: F) (((a2.length : Int) - 0).toNat + 1) (r0.1, 0, r5, (pv2, g3), (⟨(⟨(v6.S.Rows.1, []), v6.S.Door⟩ : hawthornref05_Sketch.G), (⟨(v6.R.L.1, [])⟩ : hawthornref06_Rings.G)⟩ : hawthornref08_Tiny.G), R73) ⟨hp32, (Le.trans (Le.trans le66 le70) le74), ⟨⟨(RoN.mono (Le.trans le70 le74) h67), (RoS.mono le74 h71)⟩, h75⟩⟩ ⟨rfl, rfl, rfl, rfl, trivial⟩ (fun _ h => st_pk 2 [0, 1] (by decide) h) (fun _ h => by cases h.1) fun k64 s hM78 => ?_
      obtain ⟨t_49, i_50, c_51, pv54, g58, R52⟩ := s
      have hm77 : hawthornlaw08_TinyPlays_l0 a2 (k64 + 1) t_49 i_50 c_51 = some p18 := hM78.1
      have le53 : Le R R52 := hM78.2.1
      have hf57 : hawthornref08_Tiny.ro R52 c_51 g58 := hM78.2.2
      rw [hawthornlaw08_TinyPlays_l0] at hm77
      obtain ⟨pv55, g56⟩ := pv54
      refine c_seq ?_
      refine c_seq ?_
      refine c_reg ?_
      refine r_u (o_mv rfl) ?_
      refine r_u (o_mv rfl) ?_
      refine r_u (o_lenR Tryz.underlying23 rfl (RoS.mono le53 h2_)) ?_
      refine r_u (o_bin rfl rfl (bI_lt i_50 (a2.length : Int))) ?_
      refine r_u (o_mv rfl) ?_
      refine r_s (s_gt rfl rfl fun g => o_mv rfl) ?_
      refine r_s (s_gt rfl rfl fun g => o_bin (evg rfl g) rfl (bI_lt i_50 80)) ?_
      refine r_u (o_and rfl rfl) ?_
      refine r_nil ?_
      refine x_seq ?_
      refine c_if (b := (decide (i_50 < (a2.length : Int)) && decide (i_50 < 80))) rfl (fun h79 => ?_) fun h79 => ?_
      · have hm80 := ift hm77 h79
        clear hm77
        refine c_skip ?_
        refine x_seq ?_
        refine c_seq ?_
        obtain ⟨p81, hp95, hm96⟩ := bs hm80
        refine cd_cut (fun x ks => ∀ (q82 : Option tiny_Tiny × hawthornref08_Tiny), ∀ (_ : p81 = Sum.inl q82), ∀ (R83 : PH), ∀ (le84 : Le R52 R83), ∀ (pv85 : Value × tiny_Tiny.G), ∀ (g89 : hawthornref08_Tiny.G), ∀ (hf88 : hawthornref08_Tiny.ro R83 q82.2 g89), EX x .normal ks [(2, v2_), (10, pt b13 0), (11, vI i_50), (8, pv85.1)] R83 (Bk b13 36 [vI q82.2.Most, vI q82.2.S.Wide, vW q82.2.S.Seed, g89.S.Rows.1, g89.S.Door, vI q82.2.S.Added, g89.R.L.1, vI q82.2.R.Places] :: rO (tiny_Tiny.op pv85.2) pv85.1 q82.1 :: F)) ?_ fun K97 => ?_
        · intro q82 hq R83 le84 pv85 g89 hf88
          subst hq
          try dsimp only at hm96
          obtain ⟨pv86, g87⟩ := pv85
          refine x_seq ?_
          refine c_reg ?_
          refine r_u (o_mv rfl) ?_
          refine r_u (o_bin rfl rfl (bI_add i_50 1)) ?_
          refine r_u (o_as rfl) ?_
          refine r_nil ?_
          exact x_lp (q82.1, i64 (i_50 + 1), q82.2, (pv86, g87), (⟨(⟨(g89.S.Rows.1, []), g89.S.Door⟩ : hawthornref05_Sketch.G), (⟨(g89.R.L.1, [])⟩ : hawthornref06_Rings.G)⟩ : hawthornref08_Tiny.G), R83) ⟨hm96, (Le.trans le53 le84), ⟨⟨hf88.1.1, hf88.1.2⟩, hf88.2⟩⟩ ⟨rfl, rfl, rfl, rfl, trivial⟩ (fun _ h => st_pk 2 [0, 1] (by decide) h)
        · refine c_blk ?_
          refine c_seq ?_
          obtain ⟨x98, hx98, hm99⟩ := bs hp95
          clear hp95
          obtain ⟨b98, o98, l98, T98, fr98, c98, hv98, hR98, he98, hi98⟩ := RoS.ne (RoS.mono le53 h2_) hx98
          refine cd_st (fun _ h => mv1 h) ?_
          refine cd_opt (fun ho102 => ?_) (fun x100 b101 ho102 => ?_)
          · rintro rfl
            have hm103 := om_n hm99 ho102
            clear hm99
            cases hm103
          · rintro rfl
            have hm103 := om_s hm99 ho102
            clear hm99
            obtain ⟨⟨pv105, g106⟩, ⟨pv108, g109⟩⟩ := g56
            refine cd_st (fun _ h => st_star_o h) ?_
            obtain ⟨r110, hr110, hm123⟩ := bs hm103
            clear hm103
            refine c_any mixed (effs := [6, 11, 13]) (V := []) ?_
            refine stage_ext [(0, pt b101 0), (1, .agg [vI c_51.Most, vI c_51.S.Wide, vW c_51.S.Seed, g58.S.Rows.1, g58.S.Door, vI c_51.S.Added, g58.R.L.1, vI c_51.R.Places].toArray), (2, v2_), (3, vI i_50), (4, pt b98 (o98 + i_50.toNat * 2)), (5, .agg (hawthornlaw08_Act.c x98).toArray)] rfl ?_
            refine stage rfl rfl rfl rfl [0, 0, 0, 0, 12, 28, 63, 127, 255, 255, 255, 0, 2559, 7167, 16383] [0, 1, 2, 3, 4, 5] [6, 11] rfl rfl rfl (qc rfl rfl (s_u (o_mv rfl)) (qc rfl rfl (s_u (o_ldn 3 [vI c_51.Most, vI c_51.S.Wide, vW c_51.S.Seed, g58.S.Rows.1, g58.S.Door, vI c_51.S.Added, g58.R.L.1, vI c_51.R.Places] ag36 rfl rfl rfl rfl)) (qc rfl rfl (s_u (o_mv rfl)) (qc rfl rfl (s_u (o_mv rfl)) (qc rfl rfl (s_u (o_ix (sz := 2) Tryz.underlying23 (fun _ => by kernel_rfl) rfl rfl hv98 hi98)) (qc rfl rfl (s_u (o_ldnR (hawthornlaw08_Act.c x98) ag42 rfl hR98 he98 rfl)) qn)))))) ?_ (fun h => absurd h (by decide))
            refine ec (eo_w rfl (s_w (o_call ca7 rfl (hawthornlaw08_do.ok b101 x100 (⟨(pv105, g106), (pv108, g109)⟩ : tiny_Tiny.G) c_51 (⟨(⟨(g58.S.Rows.1, []), g58.S.Door⟩ : hawthornref05_Sketch.G), (⟨(g58.R.L.1, [])⟩ : hawthornref06_Rings.G)⟩ : hawthornref08_Tiny.G) ⟨⟨hf57.1.1, hf57.1.2⟩, hf57.2⟩ x98 r110 hr110))) ?_) (ec (eo_n rfl (s_w (o_al ze36)) fun b124 => ?_) en)
            · rintro _ R121 _ le122 ⟨⟨pv112, g113⟩, v114, rfl, hf115, rfl⟩
              refine stage_ext [(7, .tuple #[pv112, .agg [vI r110.2.1.Most, vI r110.2.1.S.Wide, vW r110.2.1.S.Seed, v114.S.Rows.1, v114.S.Door, vI r110.2.1.S.Added, v114.R.L.1, vI r110.2.1.R.Places].toArray, vB r110.2.2]), (8, pv112), (9, .agg [vI r110.2.1.Most, vI r110.2.1.S.Wide, vW r110.2.1.S.Seed, v114.S.Rows.1, v114.S.Door, vI r110.2.1.S.Added, v114.R.L.1, vI r110.2.1.R.Places].toArray), (10, vB r110.2.2)] rfl ?_
              refine stage rfl rfl rfl rfl [0, 0, 0, 0, 12, 28, 63, 127, 255, 255, 255, 0, 2559, 7167, 16383] [7, 8, 9, 10] [11] rfl rfl rfl (qc rfl rfl (s_u (o_mv rfl)) (qc rfl rfl (s_u (o_ext rfl rfl)) (qc rfl rfl (s_u (o_ext rfl rfl)) (qc rfl rfl (s_u (o_ext rfl rfl)) qn)))) ?_ (fun h => absurd h (by decide))
              refine ec (eo_n rfl (s_w (o_al ze36)) fun b124 => ?_) en
              refine stage_ext [(12, pv112)] rfl ?_
              refine stage rfl rfl rfl rfl [0, 0, 0, 0, 12, 28, 63, 127, 255, 255, 255, 0, 2559, 7167, 16383] [7, 8, 9, 10, 12] [13] rfl rfl rfl (qc rfl rfl (s_u (o_mv rfl)) (qc rfl rfl (s_u (o_ext rfl rfl)) (qc rfl rfl (s_u (o_ext rfl rfl)) (qc rfl rfl (s_u (o_ext rfl rfl)) (qc rfl rfl (s_u (o_as rfl)) qn))))) ?_ (fun h => absurd h (by decide))
              refine ec (eo_u rfl (s_u (o_stn ag36 rfl rfl rfl (al_c rfl (al_c rfl (al_c rfl (al_c (RoN.one hf115.1.1) (al_c (RoS.one hf115.1.2) (al_c rfl (al_c (RoN.one hf115.2) (al_c rfl al_n)))))))) rfl rfl rfl)) (Le.refl _) ?_) en
              refine stage_ext [(14, vB r110.2.2)] rfl ?_
              refine stage rfl rfl rfl rfl [0, 0, 0, 0, 12, 28, 63, 127, 255, 255, 255, 0, 2559, 7167, 16383] [10, 14] [] rfl rfl rfl (qc rfl rfl (s_u (o_ext rfl rfl)) (qc rfl rfl (s_u (o_as rfl)) qn)) en ?_
              intro _
              refine ex_sub (E' := [(2, v2_), (10, pt b13 0), (11, vI i_50), (13, pt b124 0), (12, pv112), (14, vB r110.2.2)]) ⟨rfl, rfl, rfl, rfl, rfl, rfl, trivial⟩ ?_
              refine x_seq ?_
              refine c_seq ?_
              refine c_any mixed (effs := [3]) (V := []) ?_
              refine stage_st (fun _ h => mv2 h) ?_
              refine stage_ext [(0, pv112), (1, .agg [vI r110.2.1.Most, vI r110.2.1.S.Wide, vW r110.2.1.S.Seed, v114.S.Rows.1, v114.S.Door, vI r110.2.1.S.Added, v114.R.L.1, vI r110.2.1.R.Places].toArray), (2, pv112)] rfl ?_
              refine stage rfl rfl rfl rfl [0, 0, 1, 7] [0, 1, 2] [3] rfl rfl rfl (qc rfl rfl (s_u (o_mv rfl)) (qc rfl rfl (s_u (o_ldn 1 [vI r110.2.1.Most, vI r110.2.1.S.Wide, vW r110.2.1.S.Seed, v114.S.Rows.1, v114.S.Door, vI r110.2.1.S.Added, v114.R.L.1, vI r110.2.1.R.Places] ag36 rfl rfl rfl rfl)) (qc rfl rfl (s_u (o_as rfl)) qn))) ?_ (fun h => absurd h (by decide))
              refine ec (eo_u rfl (s_u (o_stn ag36 rfl rfl rfl (al_c rfl (al_c rfl (al_c rfl (al_c (RoN.one hf115.1.1) (al_c (RoS.one hf115.1.2) (al_c rfl (al_c (RoN.one hf115.2) (al_c rfl al_n)))))))) rfl rfl rfl)) (Le.refl _) ?_) en
              refine stage rfl rfl rfl rfl [0, 0, 1, 7] [] [] rfl rfl rfl qn en ?_
              intro _
              refine ex_sub (E' := [(2, v2_), (10, pt b13 0), (11, vI i_50), (14, vB r110.2.2), (8, pv112)]) ⟨rfl, rfl, rfl, rfl, rfl, trivial⟩ ?_
              refine x_seq ?_
              refine c_seq ?_
              refine c_reg ?_
              refine r_u (o_mv rfl) ?_
              refine r_u (o_mv rfl) ?_
              refine r_u (o_ix (sz := 2) Tryz.underlying23 (fun _ => by kernel_rfl) rfl rfl hv98 hi98) ?_
              refine r_u (o_fa fa42_1 rfl) ?_
              refine r_u (o_ldR sc9 rfl (le122 _ _ hR98) (rok 1 he98 (by decide))) ?_
              obtain ⟨r125, hr125, hm126⟩ := bs hm123
              clear hm123
              refine r_u (o_callq ca8 rfl (hawthornlaw08_few.ok x98.Key r125 hr125)) ?_
              refine r_u (o_as rfl) ?_
              refine r_nil ?_
              refine x_seq ?_
              refine c_seq ?_
              refine cd_st (fun _ h => mv2 h) ?_
              refine cd_opt (fun ho129 => ?_) (fun x127 b128 ho129 => ?_)
              · rintro rfl
                have hm130 := om_n hm126 ho129
                clear hm126
                cases hm130
              · rintro rfl
                have hm130 := om_s hm126 ho129
                clear hm126
                obtain ⟨⟨pv132, g133⟩, ⟨pv135, g136⟩⟩ := g113
                refine cd_st (fun _ h => st_star_o h) ?_
                obtain ⟨p137, hp140, hm141⟩ := bs hm130
                refine cd_cut (fun x ks => ∀ (R138 : PH), ∀ (le139 : Le R121 R138), EX x .normal ks [(2, v2_), (8, pt b128 0), (10, pt b13 0), (11, vI i_50), (89, vB p137)] R138 (Bk b128 57 [vI x127.most, pv132, pv135] :: Bk b13 36 [vI r110.2.1.Most, vI r110.2.1.S.Wide, vW r110.2.1.S.Seed, v114.S.Rows.1, v114.S.Door, vI r110.2.1.S.Added, v114.R.L.1, vI r110.2.1.R.Places] :: Bk b124 36 [vI r110.2.1.Most, vI r110.2.1.S.Wide, vW r110.2.1.S.Seed, v114.S.Rows.1, v114.S.Door, vI r110.2.1.S.Added, v114.R.L.1, vI r110.2.1.R.Places] :: rO (sketch_Sketch.op g133) pv132 x127.s :: rO (ring_Rings.op g136) pv135 x127.r :: F)) ?_ fun K142 => ?_
                · intro R138 le139
                  refine x_seq ?_
                  refine c_if (b := p137) rfl (fun h143 => ?_) fun h143 => ?_
                  · have hm144 := ift hm141 h143
                    clear hm141
                    refine c_seq ?_
                    refine c_reg ?_
                    refine r_u (o_as rfl) ?_
                    refine r_nil ?_
                    refine x_seq ?_
                    refine c_ret ?_
                    obtain rfl := Option.some.inj hm144
                    try dsimp only at hm96
                    obtain rfl := Option.some.inj hm96
                    try dsimp only at hm33
                    obtain rfl := Option.some.inj hm33
                    refine ex_st (fun _ h => st_pk 5 [] (by decide) h) ?_
                    exact x_r1 rfl (rv_t rfl) (Le.trans (Le.trans le53 le122) le139) ⟨_, rfl, rfl, trivial, rfl⟩
                  · have hm144 := iff_ hm141 h143
                    clear hm141
                    refine c_skip ?_
                    refine x_blk ?_
                    refine ex_st (fun _ h => mv2 (mv4 (mv4 h))) ?_
                    refine ex_st (fun _ h => st_some (f := tiny_Tiny.op (⟨(pv132, g133), (pv135, g136)⟩ : tiny_Tiny.G)) (a := x127) (st_star_f (A := tiny_Tiny.fl b128 x127 (⟨(pv132, g133), (pv135, g136)⟩ : tiny_Tiny.G)) h)) ?_
                    obtain rfl := Option.some.inj hm144
                    exact x_sub (K97 _ rfl _ (Le.trans le122 le139) (pt b128 0, (⟨(pv132, g133), (pv135, g136)⟩ : tiny_Tiny.G)) (⟨(⟨(v114.S.Rows.1, []), v114.S.Door⟩ : hawthornref05_Sketch.G), (⟨(v114.R.L.1, [])⟩ : hawthornref06_Rings.G)⟩ : hawthornref08_Tiny.G) ⟨⟨(RoN.mono le139 hf115.1.1), (RoS.mono le139 hf115.1.2)⟩, (RoN.mono le139 hf115.2)⟩) ⟨rfl, rfl, rfl, rfl, trivial⟩ (fun _ h => st_pk 3 [1, 0] (by decide) h)
                · refine cd_by r110.2.2 (fun h145 => ?_) fun h145 => ?_
                  · have hm146 := ift hp140 h145
                    clear hp140
                    obtain ⟨r147, hr147, hm150⟩ := bs hm146
                    clear hm146
                    obtain ⟨p151, hp154, hm155⟩ := bs hm150
                    refine cd_cut (fun x ks => ∀ (R152 : PH), ∀ (le153 : Le R121 R152), EX x .normal ks [(2, v2_), (8, pt b128 0), (10, pt b13 0), (11, vI i_50), (89, vB p151)] R152 (Bk b128 57 [vI x127.most, pv132, pv135] :: Bk b13 36 [vI r110.2.1.Most, vI r110.2.1.S.Wide, vW r110.2.1.S.Seed, v114.S.Rows.1, v114.S.Door, vI r110.2.1.S.Added, v114.R.L.1, vI r110.2.1.R.Places] :: Bk b124 36 [vI r110.2.1.Most, vI r110.2.1.S.Wide, vW r110.2.1.S.Seed, v114.S.Rows.1, v114.S.Door, vI r110.2.1.S.Added, v114.R.L.1, vI r110.2.1.R.Places] :: rO (sketch_Sketch.op g133) pv132 x127.s :: rO (ring_Rings.op g136) pv135 x127.r :: F)) ?_ fun K156 => ?_
                    · intro R152 le153
                      obtain rfl := Option.some.inj hm155
                      exact x_sub (K142 _ le153) ⟨rfl, rfl, rfl, rfl, rfl, trivial⟩ (fun _ h => st_pk 5 [0, 1, 2, 3, 4] (by decide) h)
                    · refine cd_by r147 (fun h157 => ?_) fun h157 => ?_
                      · have hm158 := ift hp154 h157
                        clear hp154
                        obtain ⟨r161, hr161, hm162⟩ := bs hm158
                        clear hm158
                        obtain ⟨r163, hr163, hm164⟩ := bs hm162
                        clear hm162
                        obtain ⟨p165, hp168, hm169⟩ := bs hm164
                        refine cd_cut (fun x ks => ∀ (R166 : PH), ∀ (le167 : Le R121 R166), EX x .normal ks [(2, v2_), (8, pt b128 0), (10, pt b13 0), (11, vI i_50), (89, vB p165)] R166 (Bk b128 57 [vI x127.most, pv132, pv135] :: Bk b13 36 [vI r110.2.1.Most, vI r110.2.1.S.Wide, vW r110.2.1.S.Seed, v114.S.Rows.1, v114.S.Door, vI r110.2.1.S.Added, v114.R.L.1, vI r110.2.1.R.Places] :: Bk b124 36 [vI r110.2.1.Most, vI r110.2.1.S.Wide, vW r110.2.1.S.Seed, v114.S.Rows.1, v114.S.Door, vI r110.2.1.S.Added, v114.R.L.1, vI r110.2.1.R.Places] :: rO (sketch_Sketch.op g133) pv132 x127.s :: rO (ring_Rings.op g136) pv135 x127.r :: F)) ?_ fun K170 => ?_
                        · intro R166 le167
                          obtain rfl := Option.some.inj hm169
                          exact x_sub (K156 _ le167) ⟨rfl, rfl, rfl, rfl, rfl, trivial⟩ (fun _ h => st_pk 5 [0, 1, 2, 3, 4] (by decide) h)
                        · refine cd_by (r161 != r163) (fun h171 => ?_) fun h171 => ?_
                          · have hm172 := ift hp168 h171
                            clear hp168
                            refine c_any mixed (effs := [5]) (V := []) ?_
                            refine stage_ext [(0, vB r110.2.2), (1, vB (!r110.2.2)), (2, vB (!r110.2.2)), (3, pt b128 0), (4, .agg [vI r110.2.1.Most, vI r110.2.1.S.Wide, vW r110.2.1.S.Seed, v114.S.Rows.1, v114.S.Door, vI r110.2.1.S.Added, v114.R.L.1, vI r110.2.1.R.Places].toArray)] rfl ?_
                            refine stage rfl rfl rfl rfl [0, 1, 3, 7, 7, 31, 63, 127, 255, 511, 511, 2047, 511, 511, 16383, 32767, 65535, 131071, 262143, 262143, 1048575, 262143, 2359295, 262143, 16777215, 33554431, 67108863] [0, 1, 2, 3, 4] [5] rfl rfl rfl (qc rfl rfl (s_u (o_mv rfl)) (qc rfl rfl (s_u (o_not rfl)) (qc rfl rfl (s_u (o_mv rfl)) (qc rfl rfl (s_y rfl rfl (nbf h145) (o_mv rfl)) (qc rfl rfl (s_y rfl rfl (nbf h145) (o_ldn 3 [vI r110.2.1.Most, vI r110.2.1.S.Wide, vW r110.2.1.S.Seed, v114.S.Rows.1, v114.S.Door, vI r110.2.1.S.Added, v114.R.L.1, vI r110.2.1.R.Places] ag36 rfl rfl rfl rfl)) qn))))) ?_ (fun h => absurd h (by decide))
                            refine ec (eo_w rfl (s_yw rfl rfl (nbf h145) (o_call ca9 rfl (hawthornlaw08_same.ok b128 x127 (⟨(pv132, g133), (pv135, g136)⟩ : tiny_Tiny.G) r110.2.1 (⟨(⟨(v114.S.Rows.1, []), v114.S.Door⟩ : hawthornref05_Sketch.G), (⟨(v114.R.L.1, [])⟩ : hawthornref06_Rings.G)⟩ : hawthornref08_Tiny.G) ⟨⟨hf115.1.1, hf115.1.2⟩, hf115.2⟩ r147 hr147))) ?_) en
                            rintro _ R173 _ le174 ⟨rfl, _, rfl⟩
                            refine stage_ext [(6, vB (!r147)), (7, vB (!r147)), (8, vB (!r147)), (9, pt b128 0), (10, vS r125), (11, vB r161), (12, .agg [vI r110.2.1.Most, vI r110.2.1.S.Wide, vW r110.2.1.S.Seed, v114.S.Rows.1, v114.S.Door, vI r110.2.1.S.Added, v114.R.L.1, vI r110.2.1.R.Places].toArray), (13, vS r125), (14, vB r163), (15, vB (r161 != r163)), (16, vB (r161 != r163)), (17, vB (r161 != r163)), (18, undef), (19, undef), (20, undef), (21, undef), (22, undef), (23, undef), (24, undef), (25, undef), (26, vB true)] rfl ?_
                            refine stage rfl rfl rfl rfl [0, 1, 3, 7, 7, 31, 63, 127, 255, 511, 511, 2047, 511, 511, 16383, 32767, 65535, 131071, 262143, 262143, 1048575, 262143, 2359295, 262143, 16777215, 33554431, 67108863] [6, 7, 8, 9, 10, 11, 12, 13, 14, 15, 16, 17, 18, 19, 20, 21, 22, 23, 24, 25, 26] [] rfl rfl rfl (qc rfl rfl (s_y rfl rfl (nbf h145) (o_not rfl)) (qc rfl rfl (s_u (o_pf rfl (nbf h145) rfl)) (qc rfl rfl (s_u (o_mv rfl)) (qc rfl rfl (s_y rfl rfl (nbf h157) (o_mv rfl)) (qc rfl rfl (s_y rfl rfl (nbf h157) (o_mv rfl)) (qc rfl rfl (s_y rfl rfl (nbf h157) (o_callqP ca10 rfl (tiny_Tiny_Has.ok b128 x127 (⟨(pv132, g133), (pv135, g136)⟩ : tiny_Tiny.G) r125 r161 hr161) (fun _ h => st_pk 5 [0, 1, 2, 3, 4] (by decide) h) (fun _ h => st_pk 5 [0, 1, 2, 3, 4] (by decide) h))) (qc rfl rfl (s_y rfl rfl (nbf h157) (o_ldn 3 [vI r110.2.1.Most, vI r110.2.1.S.Wide, vW r110.2.1.S.Seed, v114.S.Rows.1, v114.S.Door, vI r110.2.1.S.Added, v114.R.L.1, vI r110.2.1.R.Places] ag36 rfl rfl rfl rfl)) (qc rfl rfl (s_y rfl rfl (nbf h157) (o_mv rfl)) (qc rfl rfl (s_y rfl rfl (nbf h157) (o_callq ca11 rfl (hawthornref08_Tiny_Has.ok r110.2.1 (⟨(⟨(v114.S.Rows.1, []), v114.S.Door⟩ : hawthornref05_Sketch.G), (⟨(v114.R.L.1, [])⟩ : hawthornref06_Rings.G)⟩ : hawthornref08_Tiny.G) ⟨⟨(RoN.mono le174 hf115.1.1), (RoS.mono le174 hf115.1.2)⟩, (RoN.mono le174 hf115.2)⟩ r125 r163 hr163))) (qc rfl rfl (s_y rfl rfl (nbf h157) (o_bin rfl rfl (bB_ne Tryz.underlying4 r161 r163))) (qc rfl rfl (s_u (o_pf rfl (nbf h157) rfl)) (qc rfl rfl (s_u (o_mv rfl)) (qc rfl rfl (s_n rfl rfl h171) (qc rfl rfl (s_n rfl rfl h171) (qc rfl rfl (s_n rfl rfl h171) (qc rfl rfl (s_n rfl rfl h171) (qc rfl rfl (s_n rfl rfl h171) (qc rfl rfl (s_n rfl rfl h171) (qc rfl rfl (s_n rfl rfl h171) (qc rfl rfl (s_n rfl rfl h171) (qc rfl rfl (s_u (o_pt rfl h171 rfl)) qn))))))))))))))))))))) en ?_
                            intro _
                            refine ex_sub (E' := [(2, v2_), (10, pt b13 0), (11, vI i_50), (8, pt b128 0), (89, vB true)]) ⟨rfl, rfl, rfl, rfl, rfl, trivial⟩ ?_
                            obtain rfl := Option.some.inj hm172
                            exact x_sub (K170 _ le174) ⟨rfl, rfl, rfl, rfl, rfl, trivial⟩ (fun _ h => st_pk 5 [0, 3, 4, 1, 2] (by decide) h)
                          · have hm172 := iff_ hp168 h171
                            clear hp168
                            obtain ⟨r177, hr177, hm178⟩ := bs hm172
                            clear hm172
                            obtain ⟨r179, hr179, hm180⟩ := bs hm178
                            clear hm178
                            refine c_any mixed (effs := [5]) (V := []) ?_
                            refine stage_ext [(0, vB r110.2.2), (1, vB (!r110.2.2)), (2, vB (!r110.2.2)), (3, pt b128 0), (4, .agg [vI r110.2.1.Most, vI r110.2.1.S.Wide, vW r110.2.1.S.Seed, v114.S.Rows.1, v114.S.Door, vI r110.2.1.S.Added, v114.R.L.1, vI r110.2.1.R.Places].toArray)] rfl ?_
                            refine stage rfl rfl rfl rfl [0, 1, 3, 7, 7, 31, 63, 127, 255, 511, 511, 2047, 511, 511, 16383, 32767, 65535, 131071, 262143, 262143, 1048575, 262143, 2359295, 262143, 16777215, 33554431, 67108863] [0, 1, 2, 3, 4] [5] rfl rfl rfl (qc rfl rfl (s_u (o_mv rfl)) (qc rfl rfl (s_u (o_not rfl)) (qc rfl rfl (s_u (o_mv rfl)) (qc rfl rfl (s_y rfl rfl (nbf h145) (o_mv rfl)) (qc rfl rfl (s_y rfl rfl (nbf h145) (o_ldn 3 [vI r110.2.1.Most, vI r110.2.1.S.Wide, vW r110.2.1.S.Seed, v114.S.Rows.1, v114.S.Door, vI r110.2.1.S.Added, v114.R.L.1, vI r110.2.1.R.Places] ag36 rfl rfl rfl rfl)) qn))))) ?_ (fun h => absurd h (by decide))
                            refine ec (eo_w rfl (s_yw rfl rfl (nbf h145) (o_call ca9 rfl (hawthornlaw08_same.ok b128 x127 (⟨(pv132, g133), (pv135, g136)⟩ : tiny_Tiny.G) r110.2.1 (⟨(⟨(v114.S.Rows.1, []), v114.S.Door⟩ : hawthornref05_Sketch.G), (⟨(v114.R.L.1, [])⟩ : hawthornref06_Rings.G)⟩ : hawthornref08_Tiny.G) ⟨⟨hf115.1.1, hf115.1.2⟩, hf115.2⟩ r147 hr147))) ?_) en
                            rintro _ R175 _ le176 ⟨rfl, _, rfl⟩
                            refine stage_ext [(6, vB (!r147)), (7, vB (!r147)), (8, vB (!r147)), (9, pt b128 0), (10, vS r125), (11, vB r161), (12, .agg [vI r110.2.1.Most, vI r110.2.1.S.Wide, vW r110.2.1.S.Seed, v114.S.Rows.1, v114.S.Door, vI r110.2.1.S.Added, v114.R.L.1, vI r110.2.1.R.Places].toArray), (13, vS r125), (14, vB r163), (15, vB (r161 != r163)), (16, vB (r161 != r163)), (17, vB (r161 != r163)), (18, pt b128 0), (19, vS r125), (20, vI r177), (21, pt b13 1), (22, .agg [vI r110.2.1.S.Wide, vW r110.2.1.S.Seed, v114.S.Rows.1, v114.S.Door, vI r110.2.1.S.Added].toArray), (23, vS r125), (24, vI r179), (25, vB (r177 != r179)), (26, vB (r177 != r179))] rfl ?_
                            refine stage rfl rfl rfl rfl [0, 1, 3, 7, 7, 31, 63, 127, 255, 511, 511, 2047, 511, 511, 16383, 32767, 65535, 131071, 262143, 262143, 1048575, 262143, 2359295, 262143, 16777215, 33554431, 67108863] [6, 7, 8, 9, 10, 11, 12, 13, 14, 15, 16, 17, 18, 19, 20, 21, 22, 23, 24, 25, 26] [] rfl rfl rfl (qc rfl rfl (s_y rfl rfl (nbf h145) (o_not rfl)) (qc rfl rfl (s_u (o_pf rfl (nbf h145) rfl)) (qc rfl rfl (s_u (o_mv rfl)) (qc rfl rfl (s_y rfl rfl (nbf h157) (o_mv rfl)) (qc rfl rfl (s_y rfl rfl (nbf h157) (o_mv rfl)) (qc rfl rfl (s_y rfl rfl (nbf h157) (o_callqP ca10 rfl (tiny_Tiny_Has.ok b128 x127 (⟨(pv132, g133), (pv135, g136)⟩ : tiny_Tiny.G) r125 r161 hr161) (fun _ h => st_pk 5 [0, 1, 2, 3, 4] (by decide) h) (fun _ h => st_pk 5 [0, 1, 2, 3, 4] (by decide) h))) (qc rfl rfl (s_y rfl rfl (nbf h157) (o_ldn 3 [vI r110.2.1.Most, vI r110.2.1.S.Wide, vW r110.2.1.S.Seed, v114.S.Rows.1, v114.S.Door, vI r110.2.1.S.Added, v114.R.L.1, vI r110.2.1.R.Places] ag36 rfl rfl rfl rfl)) (qc rfl rfl (s_y rfl rfl (nbf h157) (o_mv rfl)) (qc rfl rfl (s_y rfl rfl (nbf h157) (o_callq ca11 rfl (hawthornref08_Tiny_Has.ok r110.2.1 (⟨(⟨(v114.S.Rows.1, []), v114.S.Door⟩ : hawthornref05_Sketch.G), (⟨(v114.R.L.1, [])⟩ : hawthornref06_Rings.G)⟩ : hawthornref08_Tiny.G) ⟨⟨(RoN.mono le176 hf115.1.1), (RoS.mono le176 hf115.1.2)⟩, (RoN.mono le176 hf115.2)⟩ r125 r163 hr163))) (qc rfl rfl (s_y rfl rfl (nbf h157) (o_bin rfl rfl (bB_ne Tryz.underlying4 r161 r163))) (qc rfl rfl (s_u (o_pf rfl (nbf h157) rfl)) (qc rfl rfl (s_u (o_mv rfl)) (qc rfl rfl (s_y rfl rfl h171 (o_mv rfl)) (qc rfl rfl (s_y rfl rfl h171 (o_mv rfl)) (qc rfl rfl (s_y rfl rfl h171 (o_callqP ca12 rfl (tiny_Tiny_Seen.ok b128 x127 (⟨(pv132, g133), (pv135, g136)⟩ : tiny_Tiny.G) r125 r177 hr177) (fun _ h => st_pk 5 [0, 1, 2, 3, 4] (by decide) h) (fun _ h => st_pk 5 [0, 1, 2, 3, 4] (by decide) h))) (qc rfl rfl (s_y rfl rfl h171 (o_fa fa36_1 rfl)) (qc rfl rfl (s_y rfl rfl h171 (o_ldn 3 [vI r110.2.1.S.Wide, vW r110.2.1.S.Seed, v114.S.Rows.1, v114.S.Door, vI r110.2.1.S.Added] ag31 rfl rfl rfl rfl)) (qc rfl rfl (s_y rfl rfl h171 (o_mv rfl)) (qc rfl rfl (s_y rfl rfl h171 (o_callq ca13 rfl (hawthornref05_Sketch_Seen.ok r110.2.1.S (⟨(v114.S.Rows.1, []), v114.S.Door⟩ : hawthornref05_Sketch.G) ⟨(RoN.mono le176 hf115.1.1), (RoS.mono le176 hf115.1.2)⟩ r125 r179 hr179))) (qc rfl rfl (s_y rfl rfl h171 (o_bin rfl rfl (bI_ne r177 r179))) (qc rfl rfl (s_u (o_pf rfl h171 rfl)) qn))))))))))))))))))))) en ?_
                            intro _
                            refine ex_sub (E' := [(2, v2_), (10, pt b13 0), (11, vI i_50), (8, pt b128 0), (89, vB (r177 != r179))]) ⟨rfl, rfl, rfl, rfl, rfl, trivial⟩ ?_
                            obtain rfl := Option.some.inj hm180
                            exact x_sub (K170 _ le176) ⟨rfl, rfl, rfl, rfl, rfl, trivial⟩ (fun _ h => st_pk 5 [0, 3, 4, 1, 2] (by decide) h)
                      · have hm158 := iff_ hp154 h157
                        clear hp154
                        refine c_any mixed (effs := [5]) (V := []) ?_
                        refine stage_ext [(0, vB r110.2.2), (1, vB (!r110.2.2)), (2, vB (!r110.2.2)), (3, pt b128 0), (4, .agg [vI r110.2.1.Most, vI r110.2.1.S.Wide, vW r110.2.1.S.Seed, v114.S.Rows.1, v114.S.Door, vI r110.2.1.S.Added, v114.R.L.1, vI r110.2.1.R.Places].toArray)] rfl ?_
                        refine stage rfl rfl rfl rfl [0, 1, 3, 7, 7, 31, 63, 127, 255, 511, 511, 2047, 511, 511, 16383, 32767, 65535, 131071, 262143, 262143, 1048575, 262143, 2359295, 262143, 16777215, 33554431, 67108863] [0, 1, 2, 3, 4] [5] rfl rfl rfl (qc rfl rfl (s_u (o_mv rfl)) (qc rfl rfl (s_u (o_not rfl)) (qc rfl rfl (s_u (o_mv rfl)) (qc rfl rfl (s_y rfl rfl (nbf h145) (o_mv rfl)) (qc rfl rfl (s_y rfl rfl (nbf h145) (o_ldn 3 [vI r110.2.1.Most, vI r110.2.1.S.Wide, vW r110.2.1.S.Seed, v114.S.Rows.1, v114.S.Door, vI r110.2.1.S.Added, v114.R.L.1, vI r110.2.1.R.Places] ag36 rfl rfl rfl rfl)) qn))))) ?_ (fun h => absurd h (by decide))
                        refine ec (eo_w rfl (s_yw rfl rfl (nbf h145) (o_call ca9 rfl (hawthornlaw08_same.ok b128 x127 (⟨(pv132, g133), (pv135, g136)⟩ : tiny_Tiny.G) r110.2.1 (⟨(⟨(v114.S.Rows.1, []), v114.S.Door⟩ : hawthornref05_Sketch.G), (⟨(v114.R.L.1, [])⟩ : hawthornref06_Rings.G)⟩ : hawthornref08_Tiny.G) ⟨⟨hf115.1.1, hf115.1.2⟩, hf115.2⟩ r147 hr147))) ?_) en
                        rintro _ R181 _ le182 ⟨rfl, _, rfl⟩
                        refine stage_ext [(6, vB (!r147)), (7, vB (!r147)), (8, vB (!r147)), (9, undef), (10, undef), (11, undef), (12, undef), (13, undef), (14, undef), (15, undef), (16, vB true), (17, vB true), (18, undef), (19, undef), (20, undef), (21, undef), (22, undef), (23, undef), (24, undef), (25, undef), (26, vB true)] rfl ?_
                        refine stage rfl rfl rfl rfl [0, 1, 3, 7, 7, 31, 63, 127, 255, 511, 511, 2047, 511, 511, 16383, 32767, 65535, 131071, 262143, 262143, 1048575, 262143, 2359295, 262143, 16777215, 33554431, 67108863] [6, 7, 8, 9, 10, 11, 12, 13, 14, 15, 16, 17, 18, 19, 20, 21, 22, 23, 24, 25, 26] [] rfl rfl rfl (qc rfl rfl (s_y rfl rfl (nbf h145) (o_not rfl)) (qc rfl rfl (s_u (o_pf rfl (nbf h145) rfl)) (qc rfl rfl (s_u (o_mv rfl)) (qc rfl rfl (s_n rfl rfl (nbt h157)) (qc rfl rfl (s_n rfl rfl (nbt h157)) (qc rfl rfl (s_n rfl rfl (nbt h157)) (qc rfl rfl (s_n rfl rfl (nbt h157)) (qc rfl rfl (s_n rfl rfl (nbt h157)) (qc rfl rfl (s_n rfl rfl (nbt h157)) (qc rfl rfl (s_n rfl rfl (nbt h157)) (qc rfl rfl (s_u (o_pt rfl (nbt h157) rfl)) (qc rfl rfl (s_u (o_mv rfl)) (qc rfl rfl (s_n rfl rfl rfl) (qc rfl rfl (s_n rfl rfl rfl) (qc rfl rfl (s_n rfl rfl rfl) (qc rfl rfl (s_n rfl rfl rfl) (qc rfl rfl (s_n rfl rfl rfl) (qc rfl rfl (s_n rfl rfl rfl) (qc rfl rfl (s_n rfl rfl rfl) (qc rfl rfl (s_n rfl rfl rfl) (qc rfl rfl (s_u (o_pt rfl rfl rfl)) qn))))))))))))))))))))) en ?_
                        intro _
                        refine ex_sub (E' := [(2, v2_), (10, pt b13 0), (11, vI i_50), (8, pt b128 0), (89, vB true)]) ⟨rfl, rfl, rfl, rfl, rfl, trivial⟩ ?_
                        obtain rfl := Option.some.inj hm158
                        exact x_sub (K156 _ le182) ⟨rfl, rfl, rfl, rfl, rfl, trivial⟩ (fun _ h => st_pk 5 [0, 3, 4, 1, 2] (by decide) h)
                  · have hm146 := iff_ hp140 h145
                    clear hp140
                    refine c_any mixed (effs := []) (V := []) ?_
                    refine stage_ext [(0, vB r110.2.2), (1, vB (!r110.2.2)), (2, vB (!r110.2.2)), (3, undef), (4, undef), (5, undef), (6, undef), (7, vB true), (8, vB true), (9, undef), (10, undef), (11, undef), (12, undef), (13, undef), (14, undef), (15, undef), (16, vB true), (17, vB true), (18, undef), (19, undef), (20, undef), (21, undef), (22, undef), (23, undef), (24, undef), (25, undef), (26, vB true)] rfl ?_
                    refine stage rfl rfl rfl rfl [0, 1, 3, 7, 7, 31, 63, 127, 255, 511, 511, 2047, 511, 511, 16383, 32767, 65535, 131071, 262143, 262143, 1048575, 262143, 2359295, 262143, 16777215, 33554431, 67108863] [0, 1, 2, 3, 4, 5, 6, 7, 8, 9, 10, 11, 12, 13, 14, 15, 16, 17, 18, 19, 20, 21, 22, 23, 24, 25, 26] [] rfl rfl rfl (qc rfl rfl (s_u (o_mv rfl)) (qc rfl rfl (s_u (o_not rfl)) (qc rfl rfl (s_u (o_mv rfl)) (qc rfl rfl (s_n rfl rfl (nbt h145)) (qc rfl rfl (s_n rfl rfl (nbt h145)) (qc rfl rfl (s_n rfl rfl (nbt h145)) (qc rfl rfl (s_n rfl rfl (nbt h145)) (qc rfl rfl (s_u (o_pt rfl (nbt h145) rfl)) (qc rfl rfl (s_u (o_mv rfl)) (qc rfl rfl (s_n rfl rfl rfl) (qc rfl rfl (s_n rfl rfl rfl) (qc rfl rfl (s_n rfl rfl rfl) (qc rfl rfl (s_n rfl rfl rfl) (qc rfl rfl (s_n rfl rfl rfl) (qc rfl rfl (s_n rfl rfl rfl) (qc rfl rfl (s_n rfl rfl rfl) (qc rfl rfl (s_u (o_pt rfl rfl rfl)) (qc rfl rfl (s_u (o_mv rfl)) (qc rfl rfl (s_n rfl rfl rfl) (qc rfl rfl (s_n rfl rfl rfl) (qc rfl rfl (s_n rfl rfl rfl) (qc rfl rfl (s_n rfl rfl rfl) (qc rfl rfl (s_n rfl rfl rfl) (qc rfl rfl (s_n rfl rfl rfl) (qc rfl rfl (s_n rfl rfl rfl) (qc rfl rfl (s_n rfl rfl rfl) (qc rfl rfl (s_u (o_pt rfl rfl rfl)) qn))))))))))))))))))))))))))) en ?_
                    intro _
                    refine ex_sub (E' := [(2, v2_), (10, pt b13 0), (11, vI i_50), (8, pt b128 0), (89, vB true)]) ⟨rfl, rfl, rfl, rfl, rfl, trivial⟩ ?_
                    obtain rfl := Option.some.inj hm146
                    exact x_sub (K142 _ (Le.refl _)) ⟨rfl, rfl, rfl, rfl, rfl, trivial⟩ (fun _ h => st_pk 5 [0, 3, 4, 1, 2] (by decide) h)
            · refine stage_st (fun _ h => mv3 (mv3 (mv3 h))) ?_
              refine stage rfl rfl rfl rfl [0, 0, 0, 0, 12, 28, 63, 127, 255, 255, 255, 0, 2559, 7167, 16383] [0, 1, 2, 3, 4, 5] [6] rfl rfl rfl (qc rfl rfl (s_u (o_mv rfl)) (qc rfl rfl (s_u (o_ldn 4 [vI c_51.Most, vI c_51.S.Wide, vW c_51.S.Seed, g58.S.Rows.1, g58.S.Door, vI c_51.S.Added, g58.R.L.1, vI c_51.R.Places] ag36 rfl rfl rfl rfl)) (qc rfl rfl (s_u (o_mv rfl)) (qc rfl rfl (s_u (o_mv rfl)) (qc rfl rfl (s_u (o_ix (sz := 2) Tryz.underlying23 (fun _ => by kernel_rfl) rfl rfl hv98 hi98)) (qc rfl rfl (s_u (o_ldnR (hawthornlaw08_Act.c x98) ag42 rfl hR98 he98 rfl)) qn)))))) ?_ (fun h => absurd h (by decide))
              refine ec (eo_w rfl (s_w (o_call ca7 rfl (hawthornlaw08_do.ok b101 x100 (⟨(pv105, g106), (pv108, g109)⟩ : tiny_Tiny.G) c_51 (⟨(⟨(g58.S.Rows.1, []), g58.S.Door⟩ : hawthornref05_Sketch.G), (⟨(g58.R.L.1, [])⟩ : hawthornref06_Rings.G)⟩ : hawthornref08_Tiny.G) ⟨⟨hf57.1.1, hf57.1.2⟩, hf57.2⟩ x98 r110 hr110))) ?_) en
              rintro _ R121 _ le122 ⟨⟨pv112, g113⟩, v114, rfl, hf115, rfl⟩
              refine stage_st (fun _ h => mv1 h) ?_
              refine stage_ext [(7, .tuple #[pv112, .agg [vI r110.2.1.Most, vI r110.2.1.S.Wide, vW r110.2.1.S.Seed, v114.S.Rows.1, v114.S.Door, vI r110.2.1.S.Added, v114.R.L.1, vI r110.2.1.R.Places].toArray, vB r110.2.2]), (8, pv112), (9, .agg [vI r110.2.1.Most, vI r110.2.1.S.Wide, vW r110.2.1.S.Seed, v114.S.Rows.1, v114.S.Door, vI r110.2.1.S.Added, v114.R.L.1, vI r110.2.1.R.Places].toArray), (10, vB r110.2.2), (12, pv112)] rfl ?_
              refine stage rfl rfl rfl rfl [0, 0, 0, 0, 12, 28, 63, 127, 255, 255, 255, 0, 2559, 7167, 16383] [7, 8, 9, 10, 12] [13] rfl rfl rfl (qc rfl rfl (s_u (o_mv rfl)) (qc rfl rfl (s_u (o_ext rfl rfl)) (qc rfl rfl (s_u (o_ext rfl rfl)) (qc rfl rfl (s_u (o_ext rfl rfl)) (qc rfl rfl (s_u (o_as rfl)) qn))))) ?_ (fun h => absurd h (by decide))
              refine ec (eo_u rfl (s_u (o_stn ag36 rfl rfl rfl (al_c rfl (al_c rfl (al_c rfl (al_c (RoN.one hf115.1.1) (al_c (RoS.one hf115.1.2) (al_c rfl (al_c (RoN.one hf115.2) (al_c rfl al_n)))))))) rfl rfl rfl)) (Le.refl _) ?_) en
              refine stage_ext [(14, vB r110.2.2)] rfl ?_
              refine stage rfl rfl rfl rfl [0, 0, 0, 0, 12, 28, 63, 127, 255, 255, 255, 0, 2559, 7167, 16383] [10, 14] [] rfl rfl rfl (qc rfl rfl (s_u (o_ext rfl rfl)) (qc rfl rfl (s_u (o_as rfl)) qn)) en ?_
              intro _
              refine ex_sub (E' := [(2, v2_), (10, pt b13 0), (11, vI i_50), (13, pt b124 0), (12, pv112), (14, vB r110.2.2)]) ⟨rfl, rfl, rfl, rfl, rfl, rfl, trivial⟩ ?_
              refine x_seq ?_
              refine c_seq ?_
              refine c_any mixed (effs := [3]) (V := []) ?_
              refine stage_st (fun _ h => mv2 h) ?_
              refine stage_ext [(0, pv112), (1, .agg [vI r110.2.1.Most, vI r110.2.1.S.Wide, vW r110.2.1.S.Seed, v114.S.Rows.1, v114.S.Door, vI r110.2.1.S.Added, v114.R.L.1, vI r110.2.1.R.Places].toArray), (2, pv112)] rfl ?_
              refine stage rfl rfl rfl rfl [0, 0, 1, 7] [0, 1, 2] [3] rfl rfl rfl (qc rfl rfl (s_u (o_mv rfl)) (qc rfl rfl (s_u (o_ldn 1 [vI r110.2.1.Most, vI r110.2.1.S.Wide, vW r110.2.1.S.Seed, v114.S.Rows.1, v114.S.Door, vI r110.2.1.S.Added, v114.R.L.1, vI r110.2.1.R.Places] ag36 rfl rfl rfl rfl)) (qc rfl rfl (s_u (o_as rfl)) qn))) ?_ (fun h => absurd h (by decide))
              refine ec (eo_u rfl (s_u (o_stn ag36 rfl rfl rfl (al_c rfl (al_c rfl (al_c rfl (al_c (RoN.one hf115.1.1) (al_c (RoS.one hf115.1.2) (al_c rfl (al_c (RoN.one hf115.2) (al_c rfl al_n)))))))) rfl rfl rfl)) (Le.refl _) ?_) en
              refine stage rfl rfl rfl rfl [0, 0, 1, 7] [] [] rfl rfl rfl qn en ?_
              intro _
              refine ex_sub (E' := [(2, v2_), (10, pt b13 0), (11, vI i_50), (14, vB r110.2.2), (8, pv112)]) ⟨rfl, rfl, rfl, rfl, rfl, trivial⟩ ?_
              refine x_seq ?_
              refine c_seq ?_
              refine c_reg ?_
              refine r_u (o_mv rfl) ?_
              refine r_u (o_mv rfl) ?_
              refine r_u (o_ix (sz := 2) Tryz.underlying23 (fun _ => by kernel_rfl) rfl rfl hv98 hi98) ?_
              refine r_u (o_fa fa42_1 rfl) ?_
              refine r_u (o_ldR sc9 rfl (le122 _ _ hR98) (rok 1 he98 (by decide))) ?_
              obtain ⟨r183, hr183, hm184⟩ := bs hm123
              clear hm123
              refine r_u (o_callq ca8 rfl (hawthornlaw08_few.ok x98.Key r183 hr183)) ?_
              refine r_u (o_as rfl) ?_
              refine r_nil ?_
              refine x_seq ?_
              refine c_seq ?_
              refine cd_st (fun _ h => mv2 h) ?_
              refine cd_opt (fun ho187 => ?_) (fun x185 b186 ho187 => ?_)
              · rintro rfl
                have hm188 := om_n hm184 ho187
                clear hm184
                cases hm188
              · rintro rfl
                have hm188 := om_s hm184 ho187
                clear hm184
                obtain ⟨⟨pv190, g191⟩, ⟨pv193, g194⟩⟩ := g113
                refine cd_st (fun _ h => st_star_o h) ?_
                obtain ⟨p195, hp198, hm199⟩ := bs hm188
                refine cd_cut (fun x ks => ∀ (R196 : PH), ∀ (le197 : Le R121 R196), EX x .normal ks [(2, v2_), (8, pt b186 0), (10, pt b13 0), (11, vI i_50), (89, vB p195)] R196 (Bk b186 57 [vI x185.most, pv190, pv193] :: Bk b13 36 [vI r110.2.1.Most, vI r110.2.1.S.Wide, vW r110.2.1.S.Seed, v114.S.Rows.1, v114.S.Door, vI r110.2.1.S.Added, v114.R.L.1, vI r110.2.1.R.Places] :: Bk b124 36 [vI r110.2.1.Most, vI r110.2.1.S.Wide, vW r110.2.1.S.Seed, v114.S.Rows.1, v114.S.Door, vI r110.2.1.S.Added, v114.R.L.1, vI r110.2.1.R.Places] :: rO (sketch_Sketch.op g191) pv190 x185.s :: rO (ring_Rings.op g194) pv193 x185.r :: F)) ?_ fun K200 => ?_
                · intro R196 le197
                  refine x_seq ?_
                  refine c_if (b := p195) rfl (fun h201 => ?_) fun h201 => ?_
                  · have hm202 := ift hm199 h201
                    clear hm199
                    refine c_seq ?_
                    refine c_reg ?_
                    refine r_u (o_as rfl) ?_
                    refine r_nil ?_
                    refine x_seq ?_
                    refine c_ret ?_
                    obtain rfl := Option.some.inj hm202
                    try dsimp only at hm96
                    obtain rfl := Option.some.inj hm96
                    try dsimp only at hm33
                    obtain rfl := Option.some.inj hm33
                    refine ex_st (fun _ h => st_pk 5 [] (by decide) h) ?_
                    exact x_r1 rfl (rv_t rfl) (Le.trans (Le.trans le53 le122) le197) ⟨_, rfl, rfl, trivial, rfl⟩
                  · have hm202 := iff_ hm199 h201
                    clear hm199
                    refine c_skip ?_
                    refine x_blk ?_
                    refine ex_st (fun _ h => mv2 (mv4 (mv4 h))) ?_
                    refine ex_st (fun _ h => st_some (f := tiny_Tiny.op (⟨(pv190, g191), (pv193, g194)⟩ : tiny_Tiny.G)) (a := x185) (st_star_f (A := tiny_Tiny.fl b186 x185 (⟨(pv190, g191), (pv193, g194)⟩ : tiny_Tiny.G)) h)) ?_
                    obtain rfl := Option.some.inj hm202
                    exact x_sub (K97 _ rfl _ (Le.trans le122 le197) (pt b186 0, (⟨(pv190, g191), (pv193, g194)⟩ : tiny_Tiny.G)) (⟨(⟨(v114.S.Rows.1, []), v114.S.Door⟩ : hawthornref05_Sketch.G), (⟨(v114.R.L.1, [])⟩ : hawthornref06_Rings.G)⟩ : hawthornref08_Tiny.G) ⟨⟨(RoN.mono le197 hf115.1.1), (RoS.mono le197 hf115.1.2)⟩, (RoN.mono le197 hf115.2)⟩) ⟨rfl, rfl, rfl, rfl, trivial⟩ (fun _ h => st_pk 3 [1, 0] (by decide) h)
                · refine cd_by r110.2.2 (fun h203 => ?_) fun h203 => ?_
                  · have hm204 := ift hp198 h203
                    clear hp198
                    obtain ⟨r205, hr205, hm208⟩ := bs hm204
                    clear hm204
                    obtain ⟨p209, hp212, hm213⟩ := bs hm208
                    refine cd_cut (fun x ks => ∀ (R210 : PH), ∀ (le211 : Le R121 R210), EX x .normal ks [(2, v2_), (8, pt b186 0), (10, pt b13 0), (11, vI i_50), (89, vB p209)] R210 (Bk b186 57 [vI x185.most, pv190, pv193] :: Bk b13 36 [vI r110.2.1.Most, vI r110.2.1.S.Wide, vW r110.2.1.S.Seed, v114.S.Rows.1, v114.S.Door, vI r110.2.1.S.Added, v114.R.L.1, vI r110.2.1.R.Places] :: Bk b124 36 [vI r110.2.1.Most, vI r110.2.1.S.Wide, vW r110.2.1.S.Seed, v114.S.Rows.1, v114.S.Door, vI r110.2.1.S.Added, v114.R.L.1, vI r110.2.1.R.Places] :: rO (sketch_Sketch.op g191) pv190 x185.s :: rO (ring_Rings.op g194) pv193 x185.r :: F)) ?_ fun K214 => ?_
                    · intro R210 le211
                      obtain rfl := Option.some.inj hm213
                      exact x_sub (K200 _ le211) ⟨rfl, rfl, rfl, rfl, rfl, trivial⟩ (fun _ h => st_pk 5 [0, 1, 2, 3, 4] (by decide) h)
                    · refine cd_by r205 (fun h215 => ?_) fun h215 => ?_
                      · have hm216 := ift hp212 h215
                        clear hp212
                        obtain ⟨r219, hr219, hm220⟩ := bs hm216
                        clear hm216
                        obtain ⟨r221, hr221, hm222⟩ := bs hm220
                        clear hm220
                        obtain ⟨p223, hp226, hm227⟩ := bs hm222
                        refine cd_cut (fun x ks => ∀ (R224 : PH), ∀ (le225 : Le R121 R224), EX x .normal ks [(2, v2_), (8, pt b186 0), (10, pt b13 0), (11, vI i_50), (89, vB p223)] R224 (Bk b186 57 [vI x185.most, pv190, pv193] :: Bk b13 36 [vI r110.2.1.Most, vI r110.2.1.S.Wide, vW r110.2.1.S.Seed, v114.S.Rows.1, v114.S.Door, vI r110.2.1.S.Added, v114.R.L.1, vI r110.2.1.R.Places] :: Bk b124 36 [vI r110.2.1.Most, vI r110.2.1.S.Wide, vW r110.2.1.S.Seed, v114.S.Rows.1, v114.S.Door, vI r110.2.1.S.Added, v114.R.L.1, vI r110.2.1.R.Places] :: rO (sketch_Sketch.op g191) pv190 x185.s :: rO (ring_Rings.op g194) pv193 x185.r :: F)) ?_ fun K228 => ?_
                        · intro R224 le225
                          obtain rfl := Option.some.inj hm227
                          exact x_sub (K214 _ le225) ⟨rfl, rfl, rfl, rfl, rfl, trivial⟩ (fun _ h => st_pk 5 [0, 1, 2, 3, 4] (by decide) h)
                        · refine cd_by (r219 != r221) (fun h229 => ?_) fun h229 => ?_
                          · have hm230 := ift hp226 h229
                            clear hp226
                            refine c_any mixed (effs := [5]) (V := []) ?_
                            refine stage_ext [(0, vB r110.2.2), (1, vB (!r110.2.2)), (2, vB (!r110.2.2)), (3, pt b186 0), (4, .agg [vI r110.2.1.Most, vI r110.2.1.S.Wide, vW r110.2.1.S.Seed, v114.S.Rows.1, v114.S.Door, vI r110.2.1.S.Added, v114.R.L.1, vI r110.2.1.R.Places].toArray)] rfl ?_
                            refine stage rfl rfl rfl rfl [0, 1, 3, 7, 7, 31, 63, 127, 255, 511, 511, 2047, 511, 511, 16383, 32767, 65535, 131071, 262143, 262143, 1048575, 262143, 2359295, 262143, 16777215, 33554431, 67108863] [0, 1, 2, 3, 4] [5] rfl rfl rfl (qc rfl rfl (s_u (o_mv rfl)) (qc rfl rfl (s_u (o_not rfl)) (qc rfl rfl (s_u (o_mv rfl)) (qc rfl rfl (s_y rfl rfl (nbf h203) (o_mv rfl)) (qc rfl rfl (s_y rfl rfl (nbf h203) (o_ldn 3 [vI r110.2.1.Most, vI r110.2.1.S.Wide, vW r110.2.1.S.Seed, v114.S.Rows.1, v114.S.Door, vI r110.2.1.S.Added, v114.R.L.1, vI r110.2.1.R.Places] ag36 rfl rfl rfl rfl)) qn))))) ?_ (fun h => absurd h (by decide))
                            refine ec (eo_w rfl (s_yw rfl rfl (nbf h203) (o_call ca9 rfl (hawthornlaw08_same.ok b186 x185 (⟨(pv190, g191), (pv193, g194)⟩ : tiny_Tiny.G) r110.2.1 (⟨(⟨(v114.S.Rows.1, []), v114.S.Door⟩ : hawthornref05_Sketch.G), (⟨(v114.R.L.1, [])⟩ : hawthornref06_Rings.G)⟩ : hawthornref08_Tiny.G) ⟨⟨hf115.1.1, hf115.1.2⟩, hf115.2⟩ r205 hr205))) ?_) en
                            rintro _ R231 _ le232 ⟨rfl, _, rfl⟩
                            refine stage_ext [(6, vB (!r205)), (7, vB (!r205)), (8, vB (!r205)), (9, pt b186 0), (10, vS r183), (11, vB r219), (12, .agg [vI r110.2.1.Most, vI r110.2.1.S.Wide, vW r110.2.1.S.Seed, v114.S.Rows.1, v114.S.Door, vI r110.2.1.S.Added, v114.R.L.1, vI r110.2.1.R.Places].toArray), (13, vS r183), (14, vB r221), (15, vB (r219 != r221)), (16, vB (r219 != r221)), (17, vB (r219 != r221)), (18, undef), (19, undef), (20, undef), (21, undef), (22, undef), (23, undef), (24, undef), (25, undef), (26, vB true)] rfl ?_
                            refine stage rfl rfl rfl rfl [0, 1, 3, 7, 7, 31, 63, 127, 255, 511, 511, 2047, 511, 511, 16383, 32767, 65535, 131071, 262143, 262143, 1048575, 262143, 2359295, 262143, 16777215, 33554431, 67108863] [6, 7, 8, 9, 10, 11, 12, 13, 14, 15, 16, 17, 18, 19, 20, 21, 22, 23, 24, 25, 26] [] rfl rfl rfl (qc rfl rfl (s_y rfl rfl (nbf h203) (o_not rfl)) (qc rfl rfl (s_u (o_pf rfl (nbf h203) rfl)) (qc rfl rfl (s_u (o_mv rfl)) (qc rfl rfl (s_y rfl rfl (nbf h215) (o_mv rfl)) (qc rfl rfl (s_y rfl rfl (nbf h215) (o_mv rfl)) (qc rfl rfl (s_y rfl rfl (nbf h215) (o_callqP ca10 rfl (tiny_Tiny_Has.ok b186 x185 (⟨(pv190, g191), (pv193, g194)⟩ : tiny_Tiny.G) r183 r219 hr219) (fun _ h => st_pk 5 [0, 1, 2, 3, 4] (by decide) h) (fun _ h => st_pk 5 [0, 1, 2, 3, 4] (by decide) h))) (qc rfl rfl (s_y rfl rfl (nbf h215) (o_ldn 3 [vI r110.2.1.Most, vI r110.2.1.S.Wide, vW r110.2.1.S.Seed, v114.S.Rows.1, v114.S.Door, vI r110.2.1.S.Added, v114.R.L.1, vI r110.2.1.R.Places] ag36 rfl rfl rfl rfl)) (qc rfl rfl (s_y rfl rfl (nbf h215) (o_mv rfl)) (qc rfl rfl (s_y rfl rfl (nbf h215) (o_callq ca11 rfl (hawthornref08_Tiny_Has.ok r110.2.1 (⟨(⟨(v114.S.Rows.1, []), v114.S.Door⟩ : hawthornref05_Sketch.G), (⟨(v114.R.L.1, [])⟩ : hawthornref06_Rings.G)⟩ : hawthornref08_Tiny.G) ⟨⟨(RoN.mono le232 hf115.1.1), (RoS.mono le232 hf115.1.2)⟩, (RoN.mono le232 hf115.2)⟩ r183 r221 hr221))) (qc rfl rfl (s_y rfl rfl (nbf h215) (o_bin rfl rfl (bB_ne Tryz.underlying4 r219 r221))) (qc rfl rfl (s_u (o_pf rfl (nbf h215) rfl)) (qc rfl rfl (s_u (o_mv rfl)) (qc rfl rfl (s_n rfl rfl h229) (qc rfl rfl (s_n rfl rfl h229) (qc rfl rfl (s_n rfl rfl h229) (qc rfl rfl (s_n rfl rfl h229) (qc rfl rfl (s_n rfl rfl h229) (qc rfl rfl (s_n rfl rfl h229) (qc rfl rfl (s_n rfl rfl h229) (qc rfl rfl (s_n rfl rfl h229) (qc rfl rfl (s_u (o_pt rfl h229 rfl)) qn))))))))))))))))))))) en ?_
                            intro _
                            refine ex_sub (E' := [(2, v2_), (10, pt b13 0), (11, vI i_50), (8, pt b186 0), (89, vB true)]) ⟨rfl, rfl, rfl, rfl, rfl, trivial⟩ ?_
                            obtain rfl := Option.some.inj hm230
                            exact x_sub (K228 _ le232) ⟨rfl, rfl, rfl, rfl, rfl, trivial⟩ (fun _ h => st_pk 5 [0, 3, 4, 1, 2] (by decide) h)
                          · have hm230 := iff_ hp226 h229
                            clear hp226
                            obtain ⟨r235, hr235, hm236⟩ := bs hm230
                            clear hm230
                            obtain ⟨r237, hr237, hm238⟩ := bs hm236
                            clear hm236
                            refine c_any mixed (effs := [5]) (V := []) ?_
                            refine stage_ext [(0, vB r110.2.2), (1, vB (!r110.2.2)), (2, vB (!r110.2.2)), (3, pt b186 0), (4, .agg [vI r110.2.1.Most, vI r110.2.1.S.Wide, vW r110.2.1.S.Seed, v114.S.Rows.1, v114.S.Door, vI r110.2.1.S.Added, v114.R.L.1, vI r110.2.1.R.Places].toArray)] rfl ?_
                            refine stage rfl rfl rfl rfl [0, 1, 3, 7, 7, 31, 63, 127, 255, 511, 511, 2047, 511, 511, 16383, 32767, 65535, 131071, 262143, 262143, 1048575, 262143, 2359295, 262143, 16777215, 33554431, 67108863] [0, 1, 2, 3, 4] [5] rfl rfl rfl (qc rfl rfl (s_u (o_mv rfl)) (qc rfl rfl (s_u (o_not rfl)) (qc rfl rfl (s_u (o_mv rfl)) (qc rfl rfl (s_y rfl rfl (nbf h203) (o_mv rfl)) (qc rfl rfl (s_y rfl rfl (nbf h203) (o_ldn 3 [vI r110.2.1.Most, vI r110.2.1.S.Wide, vW r110.2.1.S.Seed, v114.S.Rows.1, v114.S.Door, vI r110.2.1.S.Added, v114.R.L.1, vI r110.2.1.R.Places] ag36 rfl rfl rfl rfl)) qn))))) ?_ (fun h => absurd h (by decide))
                            refine ec (eo_w rfl (s_yw rfl rfl (nbf h203) (o_call ca9 rfl (hawthornlaw08_same.ok b186 x185 (⟨(pv190, g191), (pv193, g194)⟩ : tiny_Tiny.G) r110.2.1 (⟨(⟨(v114.S.Rows.1, []), v114.S.Door⟩ : hawthornref05_Sketch.G), (⟨(v114.R.L.1, [])⟩ : hawthornref06_Rings.G)⟩ : hawthornref08_Tiny.G) ⟨⟨hf115.1.1, hf115.1.2⟩, hf115.2⟩ r205 hr205))) ?_) en
                            rintro _ R233 _ le234 ⟨rfl, _, rfl⟩
                            refine stage_ext [(6, vB (!r205)), (7, vB (!r205)), (8, vB (!r205)), (9, pt b186 0), (10, vS r183), (11, vB r219), (12, .agg [vI r110.2.1.Most, vI r110.2.1.S.Wide, vW r110.2.1.S.Seed, v114.S.Rows.1, v114.S.Door, vI r110.2.1.S.Added, v114.R.L.1, vI r110.2.1.R.Places].toArray), (13, vS r183), (14, vB r221), (15, vB (r219 != r221)), (16, vB (r219 != r221)), (17, vB (r219 != r221)), (18, pt b186 0), (19, vS r183), (20, vI r235), (21, pt b13 1), (22, .agg [vI r110.2.1.S.Wide, vW r110.2.1.S.Seed, v114.S.Rows.1, v114.S.Door, vI r110.2.1.S.Added].toArray), (23, vS r183), (24, vI r237), (25, vB (r235 != r237)), (26, vB (r235 != r237))] rfl ?_
                            refine stage rfl rfl rfl rfl [0, 1, 3, 7, 7, 31, 63, 127, 255, 511, 511, 2047, 511, 511, 16383, 32767, 65535, 131071, 262143, 262143, 1048575, 262143, 2359295, 262143, 16777215, 33554431, 67108863] [6, 7, 8, 9, 10, 11, 12, 13, 14, 15, 16, 17, 18, 19, 20, 21, 22, 23, 24, 25, 26] [] rfl rfl rfl (qc rfl rfl (s_y rfl rfl (nbf h203) (o_not rfl)) (qc rfl rfl (s_u (o_pf rfl (nbf h203) rfl)) (qc rfl rfl (s_u (o_mv rfl)) (qc rfl rfl (s_y rfl rfl (nbf h215) (o_mv rfl)) (qc rfl rfl (s_y rfl rfl (nbf h215) (o_mv rfl)) (qc rfl rfl (s_y rfl rfl (nbf h215) (o_callqP ca10 rfl (tiny_Tiny_Has.ok b186 x185 (⟨(pv190, g191), (pv193, g194)⟩ : tiny_Tiny.G) r183 r219 hr219) (fun _ h => st_pk 5 [0, 1, 2, 3, 4] (by decide) h) (fun _ h => st_pk 5 [0, 1, 2, 3, 4] (by decide) h))) (qc rfl rfl (s_y rfl rfl (nbf h215) (o_ldn 3 [vI r110.2.1.Most, vI r110.2.1.S.Wide, vW r110.2.1.S.Seed, v114.S.Rows.1, v114.S.Door, vI r110.2.1.S.Added, v114.R.L.1, vI r110.2.1.R.Places] ag36 rfl rfl rfl rfl)) (qc rfl rfl (s_y rfl rfl (nbf h215) (o_mv rfl)) (qc rfl rfl (s_y rfl rfl (nbf h215) (o_callq ca11 rfl (hawthornref08_Tiny_Has.ok r110.2.1 (⟨(⟨(v114.S.Rows.1, []), v114.S.Door⟩ : hawthornref05_Sketch.G), (⟨(v114.R.L.1, [])⟩ : hawthornref06_Rings.G)⟩ : hawthornref08_Tiny.G) ⟨⟨(RoN.mono le234 hf115.1.1), (RoS.mono le234 hf115.1.2)⟩, (RoN.mono le234 hf115.2)⟩ r183 r221 hr221))) (qc rfl rfl (s_y rfl rfl (nbf h215) (o_bin rfl rfl (bB_ne Tryz.underlying4 r219 r221))) (qc rfl rfl (s_u (o_pf rfl (nbf h215) rfl)) (qc rfl rfl (s_u (o_mv rfl)) (qc rfl rfl (s_y rfl rfl h229 (o_mv rfl)) (qc rfl rfl (s_y rfl rfl h229 (o_mv rfl)) (qc rfl rfl (s_y rfl rfl h229 (o_callqP ca12 rfl (tiny_Tiny_Seen.ok b186 x185 (⟨(pv190, g191), (pv193, g194)⟩ : tiny_Tiny.G) r183 r235 hr235) (fun _ h => st_pk 5 [0, 1, 2, 3, 4] (by decide) h) (fun _ h => st_pk 5 [0, 1, 2, 3, 4] (by decide) h))) (qc rfl rfl (s_y rfl rfl h229 (o_fa fa36_1 rfl)) (qc rfl rfl (s_y rfl rfl h229 (o_ldn 3 [vI r110.2.1.S.Wide, vW r110.2.1.S.Seed, v114.S.Rows.1, v114.S.Door, vI r110.2.1.S.Added] ag31 rfl rfl rfl rfl)) (qc rfl rfl (s_y rfl rfl h229 (o_mv rfl)) (qc rfl rfl (s_y rfl rfl h229 (o_callq ca13 rfl (hawthornref05_Sketch_Seen.ok r110.2.1.S (⟨(v114.S.Rows.1, []), v114.S.Door⟩ : hawthornref05_Sketch.G) ⟨(RoN.mono le234 hf115.1.1), (RoS.mono le234 hf115.1.2)⟩ r183 r237 hr237))) (qc rfl rfl (s_y rfl rfl h229 (o_bin rfl rfl (bI_ne r235 r237))) (qc rfl rfl (s_u (o_pf rfl h229 rfl)) qn))))))))))))))))))))) en ?_
                            intro _
                            refine ex_sub (E' := [(2, v2_), (10, pt b13 0), (11, vI i_50), (8, pt b186 0), (89, vB (r235 != r237))]) ⟨rfl, rfl, rfl, rfl, rfl, trivial⟩ ?_
                            obtain rfl := Option.some.inj hm238
                            exact x_sub (K228 _ le234) ⟨rfl, rfl, rfl, rfl, rfl, trivial⟩ (fun _ h => st_pk 5 [0, 3, 4, 1, 2] (by decide) h)
                      · have hm216 := iff_ hp212 h215
                        clear hp212
                        refine c_any mixed (effs := [5]) (V := []) ?_
                        refine stage_ext [(0, vB r110.2.2), (1, vB (!r110.2.2)), (2, vB (!r110.2.2)), (3, pt b186 0), (4, .agg [vI r110.2.1.Most, vI r110.2.1.S.Wide, vW r110.2.1.S.Seed, v114.S.Rows.1, v114.S.Door, vI r110.2.1.S.Added, v114.R.L.1, vI r110.2.1.R.Places].toArray)] rfl ?_
                        refine stage rfl rfl rfl rfl [0, 1, 3, 7, 7, 31, 63, 127, 255, 511, 511, 2047, 511, 511, 16383, 32767, 65535, 131071, 262143, 262143, 1048575, 262143, 2359295, 262143, 16777215, 33554431, 67108863] [0, 1, 2, 3, 4] [5] rfl rfl rfl (qc rfl rfl (s_u (o_mv rfl)) (qc rfl rfl (s_u (o_not rfl)) (qc rfl rfl (s_u (o_mv rfl)) (qc rfl rfl (s_y rfl rfl (nbf h203) (o_mv rfl)) (qc rfl rfl (s_y rfl rfl (nbf h203) (o_ldn 3 [vI r110.2.1.Most, vI r110.2.1.S.Wide, vW r110.2.1.S.Seed, v114.S.Rows.1, v114.S.Door, vI r110.2.1.S.Added, v114.R.L.1, vI r110.2.1.R.Places] ag36 rfl rfl rfl rfl)) qn))))) ?_ (fun h => absurd h (by decide))
                        refine ec (eo_w rfl (s_yw rfl rfl (nbf h203) (o_call ca9 rfl (hawthornlaw08_same.ok b186 x185 (⟨(pv190, g191), (pv193, g194)⟩ : tiny_Tiny.G) r110.2.1 (⟨(⟨(v114.S.Rows.1, []), v114.S.Door⟩ : hawthornref05_Sketch.G), (⟨(v114.R.L.1, [])⟩ : hawthornref06_Rings.G)⟩ : hawthornref08_Tiny.G) ⟨⟨hf115.1.1, hf115.1.2⟩, hf115.2⟩ r205 hr205))) ?_) en
                        rintro _ R239 _ le240 ⟨rfl, _, rfl⟩
                        refine stage_ext [(6, vB (!r205)), (7, vB (!r205)), (8, vB (!r205)), (9, undef), (10, undef), (11, undef), (12, undef), (13, undef), (14, undef), (15, undef), (16, vB true), (17, vB true), (18, undef), (19, undef), (20, undef), (21, undef), (22, undef), (23, undef), (24, undef), (25, undef), (26, vB true)] rfl ?_
                        refine stage rfl rfl rfl rfl [0, 1, 3, 7, 7, 31, 63, 127, 255, 511, 511, 2047, 511, 511, 16383, 32767, 65535, 131071, 262143, 262143, 1048575, 262143, 2359295, 262143, 16777215, 33554431, 67108863] [6, 7, 8, 9, 10, 11, 12, 13, 14, 15, 16, 17, 18, 19, 20, 21, 22, 23, 24, 25, 26] [] rfl rfl rfl (qc rfl rfl (s_y rfl rfl (nbf h203) (o_not rfl)) (qc rfl rfl (s_u (o_pf rfl (nbf h203) rfl)) (qc rfl rfl (s_u (o_mv rfl)) (qc rfl rfl (s_n rfl rfl (nbt h215)) (qc rfl rfl (s_n rfl rfl (nbt h215)) (qc rfl rfl (s_n rfl rfl (nbt h215)) (qc rfl rfl (s_n rfl rfl (nbt h215)) (qc rfl rfl (s_n rfl rfl (nbt h215)) (qc rfl rfl (s_n rfl rfl (nbt h215)) (qc rfl rfl (s_n rfl rfl (nbt h215)) (qc rfl rfl (s_u (o_pt rfl (nbt h215) rfl)) (qc rfl rfl (s_u (o_mv rfl)) (qc rfl rfl (s_n rfl rfl rfl) (qc rfl rfl (s_n rfl rfl rfl) (qc rfl rfl (s_n rfl rfl rfl) (qc rfl rfl (s_n rfl rfl rfl) (qc rfl rfl (s_n rfl rfl rfl) (qc rfl rfl (s_n rfl rfl rfl) (qc rfl rfl (s_n rfl rfl rfl) (qc rfl rfl (s_n rfl rfl rfl) (qc rfl rfl (s_u (o_pt rfl rfl rfl)) qn))))))))))))))))))))) en ?_
                        intro _
                        refine ex_sub (E' := [(2, v2_), (10, pt b13 0), (11, vI i_50), (8, pt b186 0), (89, vB true)]) ⟨rfl, rfl, rfl, rfl, rfl, trivial⟩ ?_
                        obtain rfl := Option.some.inj hm216
                        exact x_sub (K214 _ le240) ⟨rfl, rfl, rfl, rfl, rfl, trivial⟩ (fun _ h => st_pk 5 [0, 3, 4, 1, 2] (by decide) h)
                  · have hm204 := iff_ hp198 h203
                    clear hp198
                    refine c_any mixed (effs := []) (V := []) ?_
                    refine stage_ext [(0, vB r110.2.2), (1, vB (!r110.2.2)), (2, vB (!r110.2.2)), (3, undef), (4, undef), (5, undef), (6, undef), (7, vB true), (8, vB true), (9, undef), (10, undef), (11, undef), (12, undef), (13, undef), (14, undef), (15, undef), (16, vB true), (17, vB true), (18, undef), (19, undef), (20, undef), (21, undef), (22, undef), (23, undef), (24, undef), (25, undef), (26, vB true)] rfl ?_
                    refine stage rfl rfl rfl rfl [0, 1, 3, 7, 7, 31, 63, 127, 255, 511, 511, 2047, 511, 511, 16383, 32767, 65535, 131071, 262143, 262143, 1048575, 262143, 2359295, 262143, 16777215, 33554431, 67108863] [0, 1, 2, 3, 4, 5, 6, 7, 8, 9, 10, 11, 12, 13, 14, 15, 16, 17, 18, 19, 20, 21, 22, 23, 24, 25, 26] [] rfl rfl rfl (qc rfl rfl (s_u (o_mv rfl)) (qc rfl rfl (s_u (o_not rfl)) (qc rfl rfl (s_u (o_mv rfl)) (qc rfl rfl (s_n rfl rfl (nbt h203)) (qc rfl rfl (s_n rfl rfl (nbt h203)) (qc rfl rfl (s_n rfl rfl (nbt h203)) (qc rfl rfl (s_n rfl rfl (nbt h203)) (qc rfl rfl (s_u (o_pt rfl (nbt h203) rfl)) (qc rfl rfl (s_u (o_mv rfl)) (qc rfl rfl (s_n rfl rfl rfl) (qc rfl rfl (s_n rfl rfl rfl) (qc rfl rfl (s_n rfl rfl rfl) (qc rfl rfl (s_n rfl rfl rfl) (qc rfl rfl (s_n rfl rfl rfl) (qc rfl rfl (s_n rfl rfl rfl) (qc rfl rfl (s_n rfl rfl rfl) (qc rfl rfl (s_u (o_pt rfl rfl rfl)) (qc rfl rfl (s_u (o_mv rfl)) (qc rfl rfl (s_n rfl rfl rfl) (qc rfl rfl (s_n rfl rfl rfl) (qc rfl rfl (s_n rfl rfl rfl) (qc rfl rfl (s_n rfl rfl rfl) (qc rfl rfl (s_n rfl rfl rfl) (qc rfl rfl (s_n rfl rfl rfl) (qc rfl rfl (s_n rfl rfl rfl) (qc rfl rfl (s_n rfl rfl rfl) (qc rfl rfl (s_u (o_pt rfl rfl rfl)) qn))))))))))))))))))))))))))) en ?_
                    intro _
                    refine ex_sub (E' := [(2, v2_), (10, pt b13 0), (11, vI i_50), (8, pt b186 0), (89, vB true)]) ⟨rfl, rfl, rfl, rfl, rfl, trivial⟩ ?_
                    obtain rfl := Option.some.inj hm204
                    exact x_sub (K200 _ (Le.refl _)) ⟨rfl, rfl, rfl, rfl, rfl, trivial⟩ (fun _ h => st_pk 5 [0, 3, 4, 1, 2] (by decide) h)
      · have hm80 := iff_ hm77 h79
        clear hm77
        refine c_exit (x_exit (ks' := _) rfl ?_)
        obtain rfl := Option.some.inj hm80
        exact x_sub (K34 _ rfl _ le53 (pv55, g56) (⟨(⟨(g58.S.Rows.1, []), g58.S.Door⟩ : hawthornref05_Sketch.G), (⟨(g58.R.L.1, [])⟩ : hawthornref06_Rings.G)⟩ : hawthornref08_Tiny.G) ⟨⟨hf57.1.1, hf57.1.2⟩, hf57.2⟩) ⟨rfl, rfl, trivial⟩ (fun _ h => st_pk 2 [0, 1] (by decide) h)

end Go.Proofs.YtlahbmoebbflbaaGreat
