import Derived.Test.YtlahbmoebbflbaaGreatW2
import Derived.Test.YtlahbmoebbflbaaGreatFacts
import Derived.Test.YtlahbmoebbflbaaGreatHwY
set_option linter.unusedVariables false
set_option linter.unusedSectionVars false
set_option linter.unusedSimpArgs false
set_option maxRecDepth 100000
set_option maxHeartbeats 8000000
namespace Go.Proofs.YtlahbmoebbflbaaGreat
open Go Go.Proofs.YtlahbmoebbflbaaGreat.Hw
def tiny_Take (a0 : wire_Reader) : Option ((Option tiny_Tiny × wire_Reader) ⊕ (Int × wire_Reader)) :=
  (wire_Reader_Num a0 1000).bind fun r0 => sm r0 (fun (ra2 : UInt64 × wire_Reader) => lt (wire_Reader_Must ra2.2 (decide (1 ≤ (i64 (ra2.1.toNat : Int))))) fun r7 => sm r7 (fun (ra9 : Unit) => (sketch_Take ra2.2).bind fun r13 => sm r13 (fun (ra15 : Option sketch_Sketch × wire_Reader) => om ra15.1 (none) fun x22 => lt (wire_Reader_Must ra15.2 ((sketch_Sketch_Wide x22) == (tiny_wide (i64 (ra2.1.toNat : Int))))) fun r28 => sm r28 (fun (ra30 : Unit) => (ring_Take ra15.2).bind fun r34 => sm r34 (fun (ra36 : Option ring_Rings × wire_Reader) => om ra36.1 (none) fun x44 => if ((ring_Rings_Lists x44) == 3) then (tiny_Tiny_Len (⟨i64 (ra2.1.toNat : Int), (some x22), (some x44)⟩ : tiny_Tiny)).bind fun r54 => if ((i64 ((ring_Rings_Free x44) + r54)) == (i64 ((i64 (ra2.1.toNat : Int)) + 1))) then if decide (r54 ≤ (i64 (ra2.1.toNat : Int))) then (ring_Rings_Len x44 0).bind fun r60 => if decide (r60 ≤ ((tiny_Parts (i64 (ra2.1.toNat : Int))).Window)) then (ring_Rings_Len x44 2).bind fun r64 => lt (wire_Reader_Must ra36.2 (decide (r64 ≤ ((tiny_Parts (i64 (ra2.1.toNat : Int))).Protected)))) fun r66 => sm r66 (fun (ra68 : Unit) => some (Sum.inl ((some (⟨i64 (ra2.1.toNat : Int), (some x22), (some x44)⟩ : tiny_Tiny)), ra36.2))) fun ((rn69, ro70) : Int × Unit) => some (Sum.inr (rn69, ra36.2)) else lt (wire_Reader_Must ra36.2 false) fun r72 => sm r72 (fun (ra74 : Unit) => some (Sum.inl ((some (⟨i64 (ra2.1.toNat : Int), (some x22), (some x44)⟩ : tiny_Tiny)), ra36.2))) fun ((rn75, ro76) : Int × Unit) => some (Sum.inr (rn75, ra36.2)) else lt (wire_Reader_Must ra36.2 false) fun r78 => sm r78 (fun (ra80 : Unit) => some (Sum.inl ((some (⟨i64 (ra2.1.toNat : Int), (some x22), (some x44)⟩ : tiny_Tiny)), ra36.2))) fun ((rn81, ro82) : Int × Unit) => some (Sum.inr (rn81, ra36.2)) else lt (wire_Reader_Must ra36.2 false) fun r84 => sm r84 (fun (ra86 : Unit) => some (Sum.inl ((some (⟨i64 (ra2.1.toNat : Int), (some x22), (some x44)⟩ : tiny_Tiny)), ra36.2))) fun ((rn87, ro88) : Int × Unit) => some (Sum.inr (rn87, ra36.2)) else lt (wire_Reader_Must ra36.2 false) fun r90 => sm r90 (fun (ra92 : Unit) => some (Sum.inl ((some (⟨i64 (ra2.1.toNat : Int), (some x22), (some x44)⟩ : tiny_Tiny)), ra36.2))) fun ((rn93, ro94) : Int × Unit) => some (Sum.inr (rn93, ra36.2))) fun ((rn37, ro38) : Int × wire_Reader) => some (Sum.inr (rn37, ro38))) fun ((rn31, ro32) : Int × Unit) => some (Sum.inr (rn31, ra15.2))) fun ((rn16, ro17) : Int × wire_Reader) => some (Sum.inr (rn16, ro17))) fun ((rn10, ro11) : Int × Unit) => some (Sum.inr (rn10, ra2.2))) fun ((rn3, ro4) : Int × wire_Reader) => some (Sum.inr (rn3, ro4))
theorem tiny_Take.ok {G R F} (b0_ : Nat) (a0 : wire_Reader) (r : (Option tiny_Tiny × wire_Reader) ⊕ (Int × wire_Reader)) (hm : tiny_Take a0 = some r) : CO Tryz.prog 62 [pt b0_ 0] G R (Bk b0_ 128 (wire_Reader.c a0) :: F)
    (PK 126 r (fun (a : Option tiny_Tiny × wire_Reader) u R' L' => ∃ (p0 : Value × tiny_Tiny.G), u = p0.1 ∧ R' = R ∧ L' = rO (tiny_Tiny.op p0.2) p0.1 a.1 :: Bk b0_ 128 (wire_Reader.c a.2) :: F) (fun n (o : wire_Reader) R' L' => R' = R ∧ L' = Bk b0_ 128 (wire_Reader.c o) :: F)) := by
  unfold tiny_Take at hm
  refine co_ofN (N := 99) Tryz.func62 rfl rfl ?_
  refine c_seq ?_
  refine c_reg ?_
  refine r_u (o_as rfl) ?_
  refine r_nil ?_
  refine x_seq ?_
  refine c_seq ?_
  obtain ⟨r0, hr0, hm1⟩ := bs hm
  clear hm
  rcases r0 with ra2 | ⟨rn3, ro4⟩
  · have hm5 := sm_l hm1
    clear hm1
    refine c_reg ?_
    refine r_u (o_mv rfl) ?_
    refine r_c (s_w (o_callL ca82 rfl (wire_Reader_Num.ok b0_ a0 1000 (Sum.inl ra2) hr0) (fun _ _ _ h => h))) ?_
    refine r_u (o_cv rfl (cWI Tryz.underlying22 Tryz.underlying3 ra2.1)) ?_
    refine r_u (o_bld [vI (i64 (ra2.1.toNat : Int)), nl, nl] rfl (fun _ => by kernel_rfl)) ?_
    refine r_new (o_bx [vI (i64 (ra2.1.toNat : Int)), nl, nl] rfl rfl) fun b6 => ?_
    refine r_u (o_as rfl) ?_
    refine r_nil ?_
    refine x_seq ?_
    refine c_seq ?_
    obtain ⟨r7, hr7, hm8⟩ := ltx hm5
    clear hm5
    rcases r7 with ra9 | ⟨rn10, ro11⟩
    · have hm12 := sm_l hm8
      clear hm8
      refine c_reg ?_
      refine r_u (o_mv rfl) ?_
      refine r_u (o_mv rfl) ?_
      refine r_u (o_nc rfl) ?_
      refine r_u (o_fa fa57_0 rfl) ?_
      refine r_u (o_ld 0 sc3 rfl rfl rfl) ?_
      refine r_u (o_bin rfl rfl (bI_ge (i64 (ra2.1.toNat : Int)) 1)) ?_
      refine rl_st (fun _ h => mv1 h) ?_
      refine r_c (s_w (o_callL ca83 rfl (wire_Reader_Must.ok b0_ ra2.2 (decide (1 ≤ (i64 (ra2.1.toNat : Int)))) (Sum.inl ra9) hr7) (fun _ _ _ h => h))) ?_
      refine r_nil ?_
      refine x_seq ?_
      refine c_seq ?_
      obtain ⟨r13, hr13, hm14⟩ := bs hm12
      clear hm12
      rcases r13 with ra15 | ⟨rn16, ro17⟩
      · have hm18 := sm_l hm14
        clear hm14
        refine c_reg ?_
        refine r_u (o_mv rfl) ?_
        refine r_u (o_mv rfl) ?_
        refine r_sw (s_w (o_callL ca84 rfl (sketch_Take.ok b0_ ra2.2 (Sum.inl ra15) hr13) (fun _ _ _ h => h))) ?_
        rintro pv20 R _ _ ⟨⟨_, g21⟩, rfl, rfl, rfl⟩
        refine r_u (o_nc rfl) ?_
        refine r_u (o_fa fa57_1 rfl) ?_
        refine rl_st (fun _ h => mv2 h) ?_
        refine r_u0 (ou_if (one_p 1 rfl) fun ho0 => o_st sc49 rfl rfl rfl ho0 rfl rfl) ?_
        refine r_nil ?_
        refine x_seq ?_
        refine c_seq ?_
        refine cd_st (fun _ h => mv1 h) ?_
        refine cd_opt (fun ho24 => ?_) (fun x22 b23 ho24 => ?_)
        · rintro rfl
          have hm25 := om_n hm18 ho24
          clear hm18
          cases hm25
        · rintro rfl
          have hm25 := om_s hm18 ho24
          clear hm18
          refine cd_st (fun _ h => st_star_o h) ?_
          obtain ⟨r28, hr28, hm29⟩ := ltx hm25
          clear hm25
          rcases r28 with ra30 | ⟨rn31, ro32⟩
          · have hm33 := sm_l hm29
            clear hm29
            refine c_any mixed (effs := [12]) (V := []) ?_
            refine stage_st (fun _ h => mv4 h) ?_
            refine stage_ext [(0, pt b0_ 0), (1, pt b6 0), (2, pt b6 0), (3, pt b6 1), (4, pt b23 0), (5, vI (sketch_Sketch_Wide x22)), (6, pt b6 0), (7, pt b6 0), (8, pt b6 0), (9, vI (i64 (ra2.1.toNat : Int))), (10, vI (tiny_wide (i64 (ra2.1.toNat : Int)))), (11, vB ((sketch_Sketch_Wide x22) == (tiny_wide (i64 (ra2.1.toNat : Int)))))] rfl ?_
            refine stage rfl rfl rfl rfl [0, 0, 2, 6, 14, 30, 0, 64, 192, 448, 1022, 2046, 4095] [0, 1, 2, 3, 4, 5, 6, 7, 8, 9, 10, 11] [12] rfl rfl rfl (qc rfl rfl (s_u (o_mv rfl)) (qc rfl rfl (s_u (o_mv rfl)) (qc rfl rfl (s_u (o_nc rfl)) (qc rfl rfl (s_u (o_fa fa57_1 rfl)) (qc rfl rfl (s_u (o_ld 4 sc49 rfl rfl rfl)) (qc rfl rfl (s_u (o_callqP ca85 rfl (sketch_Sketch_Wide.ok b23 x22 g21 _ rfl) (fun _ h => st_pk 5 [1, 2, 3, 0, 4] (by decide) h) (fun _ h => st_pk 5 [3, 0, 1, 2, 4] (by decide) h))) (qc rfl rfl (s_u (o_mv rfl)) (qc rfl rfl (s_u (o_nc rfl)) (qc rfl rfl (s_u (o_fa fa57_0 rfl)) (qc rfl rfl (s_u (o_ld 4 sc3 rfl rfl rfl)) (qc rfl rfl (s_u (o_callq ca17 rfl (tiny_wide.ok (i64 (ra2.1.toNat : Int)) _ rfl))) (qc rfl rfl (s_u (o_bin rfl rfl (bI_eq (sketch_Sketch_Wide x22) (tiny_wide (i64 (ra2.1.toNat : Int)))))) qn)))))))))))) ?_ (fun h => absurd h (by decide))
            refine ec (eo_c rfl (s_w (o_callL ca83 rfl (wire_Reader_Must.ok b0_ ra15.2 ((sketch_Sketch_Wide x22) == (tiny_wide (i64 (ra2.1.toNat : Int)))) (Sum.inl ra30) hr28) (fun _ _ _ h => h))) ?_) en
            refine stage rfl rfl rfl rfl [0, 0, 2, 6, 14, 30, 0, 64, 192, 448, 1022, 2046, 4095] [] [] rfl rfl rfl qn en ?_
            intro _
            refine ex_sub (E' := [(0, pt b0_ 0), (3, pt b6 0)]) ⟨rfl, rfl, trivial⟩ ?_
            refine x_seq ?_
            refine c_seq ?_
            obtain ⟨r34, hr34, hm35⟩ := bs hm33
            clear hm33
            rcases r34 with ra36 | ⟨rn37, ro38⟩
            · have hm39 := sm_l hm35
              clear hm35
              refine c_reg ?_
              refine r_u (o_mv rfl) ?_
              refine r_u (o_mv rfl) ?_
              refine r_sw (s_w (o_callL ca86 rfl (ring_Take.ok b0_ ra15.2 (Sum.inl ra36) hr34) (fun _ _ _ h => h))) ?_
              rintro pv41 R _ _ ⟨⟨_, g42⟩, rfl, rfl, rfl⟩
              refine r_u (o_nc rfl) ?_
              refine r_u (o_fa fa57_2 rfl) ?_
              refine rl_st (fun _ h => mv5 h) ?_
              refine r_u0 (ou_if (one_p 1 rfl) fun ho0 => o_st sc53 rfl rfl rfl ho0 rfl rfl) ?_
              refine r_nil ?_
              refine x_seq ?_
              refine c_seq ?_
              refine c_reg ?_
              refine r_u (o_mv rfl) ?_
              refine r_u (o_nc rfl) ?_
              refine r_u (o_fa fa57_0 rfl) ?_
              refine r_u (o_ld 0 sc3 rfl rfl rfl) ?_
              refine r_u (o_callq ca51 rfl (tiny_Parts.ok (i64 (ra2.1.toNat : Int)) _ rfl)) ?_
              refine r_new (o_al ze94) fun b43 => ?_
              refine r_u0 (o_stn ag94 rfl rfl rfl rfl rfl rfl rfl) ?_
              refine r_nil ?_
              refine x_seq ?_
              refine c_seq ?_
              refine cd_st (fun _ h => mv2 h) ?_
              refine cd_opt (fun ho46 => ?_) (fun x44 b45 ho46 => ?_)
              · rintro rfl
                have hm47 := om_n hm39 ho46
                clear hm39
                cases hm47
              · rintro rfl
                have hm47 := om_s hm39 ho46
                clear hm39
                refine cd_st (fun _ h => st_star_o h) ?_
                refine cd_by ((ring_Rings_Lists x44) == 3) (fun h52 => ?_) fun h52 => ?_
                · have hm53 := ift hm47 h52
                  clear hm47
                  obtain ⟨r54, hr54, hm55⟩ := bs hm53
                  clear hm53
                  refine cd_by ((i64 ((ring_Rings_Free x44) + r54)) == (i64 ((i64 (ra2.1.toNat : Int)) + 1))) (fun h56 => ?_) fun h56 => ?_
                  · have hm57 := ift hm55 h56
                    clear hm55
                    refine cd_by (decide (r54 ≤ (i64 (ra2.1.toNat : Int)))) (fun h58 => ?_) fun h58 => ?_
                    · have hm59 := ift hm57 h58
                      clear hm57
                      obtain ⟨r60, hr60, hm61⟩ := bs hm59
                      clear hm59
                      refine cd_by (decide (r60 ≤ ((tiny_Parts (i64 (ra2.1.toNat : Int))).Window))) (fun h62 => ?_) fun h62 => ?_
                      · have hm63 := ift hm61 h62
                        clear hm61
                        obtain ⟨r64, hr64, hm65⟩ := bs hm63
                        clear hm63
                        obtain ⟨r66, hr66, hm67⟩ := ltx hm65
                        clear hm65
                        rcases r66 with ra68 | ⟨rn69, ro70⟩
                        · have hm71 := sm_l hm67
                          clear hm67
                          refine c_any mixed (effs := [52]) (V := []) ?_
                          refine stage_st (fun _ h => mv7 h) ?_
                          refine stage_ext [(0, pt b0_ 0), (1, pt b6 0), (2, pt b6 0), (3, pt b6 2), (4, pt b45 0), (5, vI (ring_Rings_Lists x44)), (6, vB ((ring_Rings_Lists x44) == 3)), (7, vB ((ring_Rings_Lists x44) == 3)), (8, pt b6 0), (9, pt b6 0), (10, pt b6 2), (11, pt b45 0), (12, vI (ring_Rings_Free x44)), (13, pt b6 0), (14, vI r54), (15, vI (i64 ((ring_Rings_Free x44) + r54))), (16, pt b6 0), (17, pt b6 0), (18, pt b6 0), (19, vI (i64 (ra2.1.toNat : Int))), (20, vI (i64 ((i64 (ra2.1.toNat : Int)) + 1))), (21, vB ((i64 ((ring_Rings_Free x44) + r54)) == (i64 ((i64 (ra2.1.toNat : Int)) + 1)))), (22, vB ((i64 ((ring_Rings_Free x44) + r54)) == (i64 ((i64 (ra2.1.toNat : Int)) + 1)))), (23, vB ((i64 ((ring_Rings_Free x44) + r54)) == (i64 ((i64 (ra2.1.toNat : Int)) + 1)))), (24, pt b6 0), (25, vI r54), (26, pt b6 0), (27, pt b6 0), (28, pt b6 0), (29, vI (i64 (ra2.1.toNat : Int))), (30, vB (decide (r54 ≤ (i64 (ra2.1.toNat : Int))))), (31, vB (decide (r54 ≤ (i64 (ra2.1.toNat : Int))))), (32, vB (decide (r54 ≤ (i64 (ra2.1.toNat : Int))))), (33, pt b6 0), (34, pt b6 0), (35, pt b6 2), (36, pt b45 0), (37, vI r60), (38, pt b43 0), (39, vI ((tiny_Parts (i64 (ra2.1.toNat : Int))).Window)), (40, vB (decide (r60 ≤ ((tiny_Parts (i64 (ra2.1.toNat : Int))).Window)))), (41, vB (decide (r60 ≤ ((tiny_Parts (i64 (ra2.1.toNat : Int))).Window)))), (42, vB (decide (r60 ≤ ((tiny_Parts (i64 (ra2.1.toNat : Int))).Window)))), (43, pt b6 0), (44, pt b6 0), (45, pt b6 2), (46, pt b45 0), (47, vI r64), (48, pt b43 1), (49, vI ((tiny_Parts (i64 (ra2.1.toNat : Int))).Protected)), (50, vB (decide (r64 ≤ ((tiny_Parts (i64 (ra2.1.toNat : Int))).Protected)))), (51, vB (decide (r64 ≤ ((tiny_Parts (i64 (ra2.1.toNat : Int))).Protected))))] rfl ?_
                          refine stage rfl rfl rfl rfl [0, 0, 2, 6, 14, 30, 62, 126, 254, 510, 1022, 2046, 4094, 254, 16382, 32766, 254, 65790, 196862, 459006, 983294, 2097150, 4194302, 8388606, 16777214, 33554430, 16777214, 83886078, 218103806, 486539262, 1073741822, 2147483646, 4294967294, 8589934590, 17179869182, 34359738366, 68719476734, 137438953470, 8589934590, 283467841534, 1099511627774, 2199023255550, 4398046511102, 8796093022206, 17592186044414, 35184372088830, 70368744177662, 140737488355326, 8796093022206, 290271069732862, 1125899906842622, 2251799813685246, 4503599627370495] [0, 1, 2, 3, 4, 5, 6, 7, 8, 9, 10, 11, 12, 13, 14, 15, 16, 17, 18, 19, 20, 21, 22, 23, 24, 25, 26, 27, 28, 29, 30, 31, 32, 33, 34, 35, 36, 37, 38, 39, 40, 41, 42, 43, 44, 45, 46, 47, 48, 49, 50, 51] [52] rfl rfl rfl (qc rfl rfl (s_u (o_mv rfl)) (qc rfl rfl (s_u (o_mv rfl)) (qc rfl rfl (s_u (o_nc rfl)) (qc rfl rfl (s_u (o_fa fa57_2 rfl)) (qc rfl rfl (s_u (o_ld 7 sc53 rfl rfl rfl)) (qc rfl rfl (s_u (o_callqP ca87 rfl (ring_Rings_Lists.ok b45 x44 g42 _ rfl) (fun _ h => st_pk 11 [1, 2, 3, 4, 5, 0, 6, 7, 8, 9, 10] (by decide) h) (fun _ h => st_pk 11 [5, 0, 1, 2, 3, 4, 6, 7, 8, 9, 10] (by decide) h))) (qc rfl rfl (s_u (o_bin rfl rfl (bI_eq (ring_Rings_Lists x44) 3))) (qc rfl rfl (s_u (o_mv rfl)) (qc rfl rfl (s_y rfl rfl h52 (o_mv rfl)) (qc rfl rfl (s_y rfl rfl h52 (o_nc rfl)) (qc rfl rfl (s_y rfl rfl h52 (o_fa fa57_2 rfl)) (qc rfl rfl (s_y rfl rfl h52 (o_ld 7 sc53 rfl rfl rfl)) (qc rfl rfl (s_y rfl rfl h52 (o_callqP ca88 rfl (ring_Rings_Free.ok b45 x44 g42 _ rfl) (fun _ h => st_pk 11 [1, 2, 3, 4, 5, 0, 6, 7, 8, 9, 10] (by decide) h) (fun _ h => st_pk 11 [5, 0, 1, 2, 3, 4, 6, 7, 8, 9, 10] (by decide) h))) (qc rfl rfl (s_y rfl rfl h52 (o_mv rfl)) (qc rfl rfl (s_y rfl rfl h52 (o_callqP ca24 rfl (tiny_Tiny_Len.ok b6 (⟨i64 (ra2.1.toNat : Int), (some x22), (some x44)⟩ : tiny_Tiny) (⟨(pt b23 0, g21), (pt b45 0, g42)⟩ : tiny_Tiny.G) r54 hr54) (fun _ h => mv4 (mv1 (st_some (f := ring_Rings.op g42) (a := x44) (st_star_f (A := ring_Rings.fl b45 x44 g42) (mv6 (mv6 (mv6 (mv6 (mv6 (st_some (f := sketch_Sketch.op g21) (a := x22) (st_star_f (A := sketch_Sketch.fl b23 x22 g21) (mv10 (mv10 (mv10 h)))))))))))))) (fun _ h => st_pk 11 [9, 0, 1, 2, 3, 4, 10, 8, 5, 6, 7] (by decide) (st_star_o (st_some_o (mv4 (st_star_o (st_some_o (mv1 h))))))))) (qc rfl rfl (s_y rfl rfl h52 (o_bin rfl rfl (bI_add (ring_Rings_Free x44) r54))) (qc rfl rfl (s_y rfl rfl h52 (o_mv rfl)) (qc rfl rfl (s_y rfl rfl h52 (o_nc rfl)) (qc rfl rfl (s_y rfl rfl h52 (o_fa fa57_0 rfl)) (qc rfl rfl (s_y rfl rfl h52 (o_ld 7 sc3 rfl rfl rfl)) (qc rfl rfl (s_y rfl rfl h52 (o_bin rfl rfl (bI_add (i64 (ra2.1.toNat : Int)) 1))) (qc rfl rfl (s_y rfl rfl h52 (o_bin rfl rfl (bI_eq (i64 ((ring_Rings_Free x44) + r54)) (i64 ((i64 (ra2.1.toNat : Int)) + 1))))) (qc rfl rfl (s_u (o_pt rfl h52 rfl)) (qc rfl rfl (s_u (o_mv rfl)) (qc rfl rfl (s_y rfl rfl h56 (o_mv rfl)) (qc rfl rfl (s_y rfl rfl h56 (o_callqP ca24 rfl (tiny_Tiny_Len.ok b6 (⟨i64 (ra2.1.toNat : Int), (some x22), (some x44)⟩ : tiny_Tiny) (⟨(pt b23 0, g21), (pt b45 0, g42)⟩ : tiny_Tiny.G) r54 hr54) (fun _ h => mv4 (mv1 (st_some (f := ring_Rings.op g42) (a := x44) (st_star_f (A := ring_Rings.fl b45 x44 g42) (mv6 (mv6 (mv6 (mv6 (mv6 (st_some (f := sketch_Sketch.op g21) (a := x22) (st_star_f (A := sketch_Sketch.fl b23 x22 g21) (mv10 (mv10 (mv10 h)))))))))))))) (fun _ h => st_pk 11 [9, 0, 1, 2, 3, 4, 10, 8, 5, 6, 7] (by decide) (st_star_o (st_some_o (mv4 (st_star_o (st_some_o (mv1 h))))))))) (qc rfl rfl (s_y rfl rfl h56 (o_mv rfl)) (qc rfl rfl (s_y rfl rfl h56 (o_nc rfl)) (qc rfl rfl (s_y rfl rfl h56 (o_fa fa57_0 rfl)) (qc rfl rfl (s_y rfl rfl h56 (o_ld 7 sc3 rfl rfl rfl)) (qc rfl rfl (s_y rfl rfl h56 (o_bin rfl rfl (bI_le r54 (i64 (ra2.1.toNat : Int))))) (qc rfl rfl (s_u (o_pt rfl h56 rfl)) (qc rfl rfl (s_u (o_mv rfl)) (qc rfl rfl (s_y rfl rfl h58 (o_mv rfl)) (qc rfl rfl (s_y rfl rfl h58 (o_nc rfl)) (qc rfl rfl (s_y rfl rfl h58 (o_fa fa57_2 rfl)) (qc rfl rfl (s_y rfl rfl h58 (o_ld 7 sc53 rfl rfl rfl)) (qc rfl rfl (s_y rfl rfl h58 (o_callqP ca50 rfl (ring_Rings_Len.ok b45 x44 g42 0 r60 hr60) (fun _ h => st_pk 11 [1, 2, 3, 4, 5, 0, 6, 7, 8, 9, 10] (by decide) h) (fun _ h => st_pk 11 [5, 0, 1, 2, 3, 4, 6, 7, 8, 9, 10] (by decide) h))) (qc rfl rfl (s_y rfl rfl h58 (o_fa fa94_0 rfl)) (qc rfl rfl (s_y rfl rfl h58 (o_ld 6 sc3 rfl rfl rfl)) (qc rfl rfl (s_y rfl rfl h58 (o_bin rfl rfl (bI_le r60 ((tiny_Parts (i64 (ra2.1.toNat : Int))).Window)))) (qc rfl rfl (s_u (o_pt rfl h58 rfl)) (qc rfl rfl (s_u (o_mv rfl)) (qc rfl rfl (s_y rfl rfl h62 (o_mv rfl)) (qc rfl rfl (s_y rfl rfl h62 (o_nc rfl)) (qc rfl rfl (s_y rfl rfl h62 (o_fa fa57_2 rfl)) (qc rfl rfl (s_y rfl rfl h62 (o_ld 7 sc53 rfl rfl rfl)) (qc rfl rfl (s_y rfl rfl h62 (o_callqP ca50 rfl (ring_Rings_Len.ok b45 x44 g42 2 r64 hr64) (fun _ h => st_pk 11 [1, 2, 3, 4, 5, 0, 6, 7, 8, 9, 10] (by decide) h) (fun _ h => st_pk 11 [5, 0, 1, 2, 3, 4, 6, 7, 8, 9, 10] (by decide) h))) (qc rfl rfl (s_y rfl rfl h62 (o_fa fa94_1 rfl)) (qc rfl rfl (s_y rfl rfl h62 (o_ld 6 sc3 rfl rfl rfl)) (qc rfl rfl (s_y rfl rfl h62 (o_bin rfl rfl (bI_le r64 ((tiny_Parts (i64 (ra2.1.toNat : Int))).Protected)))) (qc rfl rfl (s_u (o_pt rfl h62 rfl)) qn)))))))))))))))))))))))))))))))))))))))))))))))))))) ?_ (fun h => absurd h (by decide))
                          refine ec (eo_c rfl (s_w (o_callL ca83 rfl (wire_Reader_Must.ok b0_ ra36.2 (decide (r64 ≤ ((tiny_Parts (i64 (ra2.1.toNat : Int))).Protected))) (Sum.inl ra68) hr66) (fun _ _ _ h => h))) ?_) en
                          refine stage rfl rfl rfl rfl [0, 0, 2, 6, 14, 30, 62, 126, 254, 510, 1022, 2046, 4094, 254, 16382, 32766, 254, 65790, 196862, 459006, 983294, 2097150, 4194302, 8388606, 16777214, 33554430, 16777214, 83886078, 218103806, 486539262, 1073741822, 2147483646, 4294967294, 8589934590, 17179869182, 34359738366, 68719476734, 137438953470, 8589934590, 283467841534, 1099511627774, 2199023255550, 4398046511102, 8796093022206, 17592186044414, 35184372088830, 70368744177662, 140737488355326, 8796093022206, 290271069732862, 1125899906842622, 2251799813685246, 4503599627370495] [] [] rfl rfl rfl qn en ?_
                          intro _
                          refine ex_sub (E' := [(3, pt b6 0)]) ⟨rfl, trivial⟩ ?_
                          refine x_seq ?_
                          refine c_seq ?_
                          refine c_reg ?_
                          refine r_u (o_mv rfl) ?_
                          refine r_u (o_as rfl) ?_
                          refine r_nil ?_
                          refine x_seq ?_
                          refine c_ret ?_
                          refine ex_st (fun _ h => mv10 (mv10 (mv10 h))) ?_
                          refine ex_st (fun _ h => st_some (f := sketch_Sketch.op g21) (a := x22) (st_star_f (A := sketch_Sketch.fl b23 x22 g21) h)) ?_
                          refine ex_st (fun _ h => mv6 (mv6 (mv6 (mv6 (mv6 h))))) ?_
                          refine ex_st (fun _ h => st_some (f := ring_Rings.op g42) (a := x44) (st_star_f (A := ring_Rings.fl b45 x44 g42) h)) ?_
                          refine ex_st (fun _ h => mv4 (mv1 h)) ?_
                          refine ex_st (fun _ h => st_some (f := tiny_Tiny.op (⟨(pt b23 0, g21), (pt b45 0, g42)⟩ : tiny_Tiny.G)) (a := (⟨i64 (ra2.1.toNat : Int), (some x22), (some x44)⟩ : tiny_Tiny)) (st_star_f (A := tiny_Tiny.fl b6 (⟨i64 (ra2.1.toNat : Int), (some x22), (some x44)⟩ : tiny_Tiny) (⟨(pt b23 0, g21), (pt b45 0, g42)⟩ : tiny_Tiny.G)) h)) ?_
                          obtain rfl := Option.some.inj hm71
                          refine ex_st (fun _ h => st_pk 3 [0, 1] (by decide) h) ?_
                          exact x_r1 rfl (rv_t rfl) (Le.refl _) (.inl ⟨_, rfl, _, rfl, (pt b6 0, (⟨(pt b23 0, g21), (pt b45 0, g42)⟩ : tiny_Tiny.G)), rfl, rfl, rfl⟩)
                        · have hm71 := sm_r hm67
                          clear hm67
                          refine c_any mixed (effs := [52]) (V := []) ?_
                          refine stage_st (fun _ h => mv7 h) ?_
                          refine stage_ext [(0, pt b0_ 0), (1, pt b6 0), (2, pt b6 0), (3, pt b6 2), (4, pt b45 0), (5, vI (ring_Rings_Lists x44)), (6, vB ((ring_Rings_Lists x44) == 3)), (7, vB ((ring_Rings_Lists x44) == 3)), (8, pt b6 0), (9, pt b6 0), (10, pt b6 2), (11, pt b45 0), (12, vI (ring_Rings_Free x44)), (13, pt b6 0), (14, vI r54), (15, vI (i64 ((ring_Rings_Free x44) + r54))), (16, pt b6 0), (17, pt b6 0), (18, pt b6 0), (19, vI (i64 (ra2.1.toNat : Int))), (20, vI (i64 ((i64 (ra2.1.toNat : Int)) + 1))), (21, vB ((i64 ((ring_Rings_Free x44) + r54)) == (i64 ((i64 (ra2.1.toNat : Int)) + 1)))), (22, vB ((i64 ((ring_Rings_Free x44) + r54)) == (i64 ((i64 (ra2.1.toNat : Int)) + 1)))), (23, vB ((i64 ((ring_Rings_Free x44) + r54)) == (i64 ((i64 (ra2.1.toNat : Int)) + 1)))), (24, pt b6 0), (25, vI r54), (26, pt b6 0), (27, pt b6 0), (28, pt b6 0), (29, vI (i64 (ra2.1.toNat : Int))), (30, vB (decide (r54 ≤ (i64 (ra2.1.toNat : Int))))), (31, vB (decide (r54 ≤ (i64 (ra2.1.toNat : Int))))), (32, vB (decide (r54 ≤ (i64 (ra2.1.toNat : Int))))), (33, pt b6 0), (34, pt b6 0), (35, pt b6 2), (36, pt b45 0), (37, vI r60), (38, pt b43 0), (39, vI ((tiny_Parts (i64 (ra2.1.toNat : Int))).Window)), (40, vB (decide (r60 ≤ ((tiny_Parts (i64 (ra2.1.toNat : Int))).Window)))), (41, vB (decide (r60 ≤ ((tiny_Parts (i64 (ra2.1.toNat : Int))).Window)))), (42, vB (decide (r60 ≤ ((tiny_Parts (i64 (ra2.1.toNat : Int))).Window)))), (43, pt b6 0), (44, pt b6 0), (45, pt b6 2), (46, pt b45 0), (47, vI r64), (48, pt b43 1), (49, vI ((tiny_Parts (i64 (ra2.1.toNat : Int))).Protected)), (50, vB (decide (r64 ≤ ((tiny_Parts (i64 (ra2.1.toNat : Int))).Protected)))), (51, vB (decide (r64 ≤ ((tiny_Parts (i64 (ra2.1.toNat : Int))).Protected))))] rfl ?_
                          refine stage rfl rfl rfl rfl [0, 0, 2, 6, 14, 30, 62, 126, 254, 510, 1022, 2046, 4094, 254, 16382, 32766, 254, 65790, 196862, 459006, 983294, 2097150, 4194302, 8388606, 16777214, 33554430, 16777214, 83886078, 218103806, 486539262, 1073741822, 2147483646, 4294967294, 8589934590, 17179869182, 34359738366, 68719476734, 137438953470, 8589934590, 283467841534, 1099511627774, 2199023255550, 4398046511102, 8796093022206, 17592186044414, 35184372088830, 70368744177662, 140737488355326, 8796093022206, 290271069732862, 1125899906842622, 2251799813685246, 4503599627370495] [0, 1, 2, 3, 4, 5, 6, 7, 8, 9, 10, 11, 12, 13, 14, 15, 16, 17, 18, 19, 20, 21, 22, 23, 24, 25, 26, 27, 28, 29, 30, 31, 32, 33, 34, 35, 36, 37, 38, 39, 40, 41, 42, 43, 44, 45, 46, 47, 48, 49, 50, 51] [52] rfl rfl rfl (qc rfl rfl (s_u (o_mv rfl)) (qc rfl rfl (s_u (o_mv rfl)) (qc rfl rfl (s_u (o_nc rfl)) (qc rfl rfl (s_u (o_fa fa57_2 rfl)) (qc rfl rfl (s_u (o_ld 7 sc53 rfl rfl rfl)) (qc rfl rfl (s_u (o_callqP ca87 rfl (ring_Rings_Lists.ok b45 x44 g42 _ rfl) (fun _ h => st_pk 11 [1, 2, 3, 4, 5, 0, 6, 7, 8, 9, 10] (by decide) h) (fun _ h => st_pk 11 [5, 0, 1, 2, 3, 4, 6, 7, 8, 9, 10] (by decide) h))) (qc rfl rfl (s_u (o_bin rfl rfl (bI_eq (ring_Rings_Lists x44) 3))) (qc rfl rfl (s_u (o_mv rfl)) (qc rfl rfl (s_y rfl rfl h52 (o_mv rfl)) (qc rfl rfl (s_y rfl rfl h52 (o_nc rfl)) (qc rfl rfl (s_y rfl rfl h52 (o_fa fa57_2 rfl)) (qc rfl rfl (s_y rfl rfl h52 (o_ld 7 sc53 rfl rfl rfl)) (qc rfl rfl (s_y rfl rfl h52 (o_callqP ca88 rfl (ring_Rings_Free.ok b45 x44 g42 _ rfl) (fun _ h => st_pk 11 [1, 2, 3, 4, 5, 0, 6, 7, 8, 9, 10] (by decide) h) (fun _ h => st_pk 11 [5, 0, 1, 2, 3, 4, 6, 7, 8, 9, 10] (by decide) h))) (qc rfl rfl (s_y rfl rfl h52 (o_mv rfl)) (qc rfl rfl (s_y rfl rfl h52 (o_callqP ca24 rfl (tiny_Tiny_Len.ok b6 (⟨i64 (ra2.1.toNat : Int), (some x22), (some x44)⟩ : tiny_Tiny) (⟨(pt b23 0, g21), (pt b45 0, g42)⟩ : tiny_Tiny.G) r54 hr54) (fun _ h => mv4 (mv1 (st_some (f := ring_Rings.op g42) (a := x44) (st_star_f (A := ring_Rings.fl b45 x44 g42) (mv6 (mv6 (mv6 (mv6 (mv6 (st_some (f := sketch_Sketch.op g21) (a := x22) (st_star_f (A := sketch_Sketch.fl b23 x22 g21) (mv10 (mv10 (mv10 h)))))))))))))) (fun _ h => st_pk 11 [9, 0, 1, 2, 3, 4, 10, 8, 5, 6, 7] (by decide) (st_star_o (st_some_o (mv4 (st_star_o (st_some_o (mv1 h))))))))) (qc rfl rfl (s_y rfl rfl h52 (o_bin rfl rfl (bI_add (ring_Rings_Free x44) r54))) (qc rfl rfl (s_y rfl rfl h52 (o_mv rfl)) (qc rfl rfl (s_y rfl rfl h52 (o_nc rfl)) (qc rfl rfl (s_y rfl rfl h52 (o_fa fa57_0 rfl)) (qc rfl rfl (s_y rfl rfl h52 (o_ld 7 sc3 rfl rfl rfl)) (qc rfl rfl (s_y rfl rfl h52 (o_bin rfl rfl (bI_add (i64 (ra2.1.toNat : Int)) 1))) (qc rfl rfl (s_y rfl rfl h52 (o_bin rfl rfl (bI_eq (i64 ((ring_Rings_Free x44) + r54)) (i64 ((i64 (ra2.1.toNat : Int)) + 1))))) (qc rfl rfl (s_u (o_pt rfl h52 rfl)) (qc rfl rfl (s_u (o_mv rfl)) (qc rfl rfl (s_y rfl rfl h56 (o_mv rfl)) (qc rfl rfl (s_y rfl rfl h56 (o_callqP ca24 rfl (tiny_Tiny_Len.ok b6 (⟨i64 (ra2.1.toNat : Int), (some x22), (some x44)⟩ : tiny_Tiny) (⟨(pt b23 0, g21), (pt b45 0, g42)⟩ : tiny_Tiny.G) r54 hr54) (fun _ h => mv4 (mv1 (st_some (f := ring_Rings.op g42) (a := x44) (st_star_f (A := ring_Rings.fl b45 x44 g42) (mv6 (mv6 (mv6 (mv6 (mv6 (st_some (f := sketch_Sketch.op g21) (a := x22) (st_star_f (A := sketch_Sketch.fl b23 x22 g21) (mv10 (mv10 (mv10 h)))))))))))))) (fun _ h => st_pk 11 [9, 0, 1, 2, 3, 4, 10, 8, 5, 6, 7] (by decide) (st_star_o (st_some_o (mv4 (st_star_o (st_some_o (mv1 h))))))))) (qc rfl rfl (s_y rfl rfl h56 (o_mv rfl)) (qc rfl rfl (s_y rfl rfl h56 (o_nc rfl)) (qc rfl rfl (s_y rfl rfl h56 (o_fa fa57_0 rfl)) (qc rfl rfl (s_y rfl rfl h56 (o_ld 7 sc3 rfl rfl rfl)) (qc rfl rfl (s_y rfl rfl h56 (o_bin rfl rfl (bI_le r54 (i64 (ra2.1.toNat : Int))))) (qc rfl rfl (s_u (o_pt rfl h56 rfl)) (qc rfl rfl (s_u (o_mv rfl)) (qc rfl rfl (s_y rfl rfl h58 (o_mv rfl)) (qc rfl rfl (s_y rfl rfl h58 (o_nc rfl)) (qc rfl rfl (s_y rfl rfl h58 (o_fa fa57_2 rfl)) (qc rfl rfl (s_y rfl rfl h58 (o_ld 7 sc53 rfl rfl rfl)) (qc rfl rfl (s_y rfl rfl h58 (o_callqP ca50 rfl (ring_Rings_Len.ok b45 x44 g42 0 r60 hr60) (fun _ h => st_pk 11 [1, 2, 3, 4, 5, 0, 6, 7, 8, 9, 10] (by decide) h) (fun _ h => st_pk 11 [5, 0, 1, 2, 3, 4, 6, 7, 8, 9, 10] (by decide) h))) (qc rfl rfl (s_y rfl rfl h58 (o_fa fa94_0 rfl)) (qc rfl rfl (s_y rfl rfl h58 (o_ld 6 sc3 rfl rfl rfl)) (qc rfl rfl (s_y rfl rfl h58 (o_bin rfl rfl (bI_le r60 ((tiny_Parts (i64 (ra2.1.toNat : Int))).Window)))) (qc rfl rfl (s_u (o_pt rfl h58 rfl)) (qc rfl rfl (s_u (o_mv rfl)) (qc rfl rfl (s_y rfl rfl h62 (o_mv rfl)) (qc rfl rfl (s_y rfl rfl h62 (o_nc rfl)) (qc rfl rfl (s_y rfl rfl h62 (o_fa fa57_2 rfl)) (qc rfl rfl (s_y rfl rfl h62 (o_ld 7 sc53 rfl rfl rfl)) (qc rfl rfl (s_y rfl rfl h62 (o_callqP ca50 rfl (ring_Rings_Len.ok b45 x44 g42 2 r64 hr64) (fun _ h => st_pk 11 [1, 2, 3, 4, 5, 0, 6, 7, 8, 9, 10] (by decide) h) (fun _ h => st_pk 11 [5, 0, 1, 2, 3, 4, 6, 7, 8, 9, 10] (by decide) h))) (qc rfl rfl (s_y rfl rfl h62 (o_fa fa94_1 rfl)) (qc rfl rfl (s_y rfl rfl h62 (o_ld 6 sc3 rfl rfl rfl)) (qc rfl rfl (s_y rfl rfl h62 (o_bin rfl rfl (bI_le r64 ((tiny_Parts (i64 (ra2.1.toNat : Int))).Protected)))) (qc rfl rfl (s_u (o_pt rfl h62 rfl)) qn)))))))))))))))))))))))))))))))))))))))))))))))))))) ?_ (fun h => absurd h (by decide))
                          obtain rfl := Option.some.inj hm71
                          exact ec (eo_w rfl (s_w (o_callR ca83 rfl (wire_Reader_Must.ok b0_ ra36.2 (decide (r64 ≤ ((tiny_Parts (i64 (ra2.1.toNat : Int))).Protected))) (Sum.inr (rn69, ro70)) hr66) (by rintro _ _ _ ⟨rfl, rfl⟩; exact (px_st (fun _ h => st_pk 11 [0] (by decide) h) (px_of (Le.refl _) (.inr ⟨_, rfl, _, rfl, rfl, rfl⟩)))))) (fun _ _ _ _ h => h.elim)) en
                      · have hm63 := iff_ hm61 h62
                        clear hm61
                        obtain ⟨r72, hr72, hm73⟩ := ltx hm63
                        clear hm63
                        rcases r72 with ra74 | ⟨rn75, ro76⟩
                        · have hm77 := sm_l hm73
                          clear hm73
                          refine c_any mixed (effs := [52]) (V := []) ?_
                          refine stage_st (fun _ h => mv7 h) ?_
                          refine stage_ext [(0, pt b0_ 0), (1, pt b6 0), (2, pt b6 0), (3, pt b6 2), (4, pt b45 0), (5, vI (ring_Rings_Lists x44)), (6, vB ((ring_Rings_Lists x44) == 3)), (7, vB ((ring_Rings_Lists x44) == 3)), (8, pt b6 0), (9, pt b6 0), (10, pt b6 2), (11, pt b45 0), (12, vI (ring_Rings_Free x44)), (13, pt b6 0), (14, vI r54), (15, vI (i64 ((ring_Rings_Free x44) + r54))), (16, pt b6 0), (17, pt b6 0), (18, pt b6 0), (19, vI (i64 (ra2.1.toNat : Int))), (20, vI (i64 ((i64 (ra2.1.toNat : Int)) + 1))), (21, vB ((i64 ((ring_Rings_Free x44) + r54)) == (i64 ((i64 (ra2.1.toNat : Int)) + 1)))), (22, vB ((i64 ((ring_Rings_Free x44) + r54)) == (i64 ((i64 (ra2.1.toNat : Int)) + 1)))), (23, vB ((i64 ((ring_Rings_Free x44) + r54)) == (i64 ((i64 (ra2.1.toNat : Int)) + 1)))), (24, pt b6 0), (25, vI r54), (26, pt b6 0), (27, pt b6 0), (28, pt b6 0), (29, vI (i64 (ra2.1.toNat : Int))), (30, vB (decide (r54 ≤ (i64 (ra2.1.toNat : Int))))), (31, vB (decide (r54 ≤ (i64 (ra2.1.toNat : Int))))), (32, vB (decide (r54 ≤ (i64 (ra2.1.toNat : Int))))), (33, pt b6 0), (34, pt b6 0), (35, pt b6 2), (36, pt b45 0), (37, vI r60), (38, pt b43 0), (39, vI ((tiny_Parts (i64 (ra2.1.toNat : Int))).Window)), (40, vB (decide (r60 ≤ ((tiny_Parts (i64 (ra2.1.toNat : Int))).Window)))), (41, vB (decide (r60 ≤ ((tiny_Parts (i64 (ra2.1.toNat : Int))).Window)))), (42, vB (decide (r60 ≤ ((tiny_Parts (i64 (ra2.1.toNat : Int))).Window)))), (43, undef), (44, undef), (45, undef), (46, undef), (47, undef), (48, undef), (49, undef), (50, undef), (51, vB false)] rfl ?_
                          refine stage rfl rfl rfl rfl [0, 0, 2, 6, 14, 30, 62, 126, 254, 510, 1022, 2046, 4094, 254, 16382, 32766, 254, 65790, 196862, 459006, 983294, 2097150, 4194302, 8388606, 16777214, 33554430, 16777214, 83886078, 218103806, 486539262, 1073741822, 2147483646, 4294967294, 8589934590, 17179869182, 34359738366, 68719476734, 137438953470, 8589934590, 283467841534, 1099511627774, 2199023255550, 4398046511102, 8796093022206, 17592186044414, 35184372088830, 70368744177662, 140737488355326, 8796093022206, 290271069732862, 1125899906842622, 2251799813685246, 4503599627370495] [0, 1, 2, 3, 4, 5, 6, 7, 8, 9, 10, 11, 12, 13, 14, 15, 16, 17, 18, 19, 20, 21, 22, 23, 24, 25, 26, 27, 28, 29, 30, 31, 32, 33, 34, 35, 36, 37, 38, 39, 40, 41, 42, 43, 44, 45, 46, 47, 48, 49, 50, 51] [52] rfl rfl rfl (qc rfl rfl (s_u (o_mv rfl)) (qc rfl rfl (s_u (o_mv rfl)) (qc rfl rfl (s_u (o_nc rfl)) (qc rfl rfl (s_u (o_fa fa57_2 rfl)) (qc rfl rfl (s_u (o_ld 7 sc53 rfl rfl rfl)) (qc rfl rfl (s_u (o_callqP ca87 rfl (ring_Rings_Lists.ok b45 x44 g42 _ rfl) (fun _ h => st_pk 11 [1, 2, 3, 4, 5, 0, 6, 7, 8, 9, 10] (by decide) h) (fun _ h => st_pk 11 [5, 0, 1, 2, 3, 4, 6, 7, 8, 9, 10] (by decide) h))) (qc rfl rfl (s_u (o_bin rfl rfl (bI_eq (ring_Rings_Lists x44) 3))) (qc rfl rfl (s_u (o_mv rfl)) (qc rfl rfl (s_y rfl rfl h52 (o_mv rfl)) (qc rfl rfl (s_y rfl rfl h52 (o_nc rfl)) (qc rfl rfl (s_y rfl rfl h52 (o_fa fa57_2 rfl)) (qc rfl rfl (s_y rfl rfl h52 (o_ld 7 sc53 rfl rfl rfl)) (qc rfl rfl (s_y rfl rfl h52 (o_callqP ca88 rfl (ring_Rings_Free.ok b45 x44 g42 _ rfl) (fun _ h => st_pk 11 [1, 2, 3, 4, 5, 0, 6, 7, 8, 9, 10] (by decide) h) (fun _ h => st_pk 11 [5, 0, 1, 2, 3, 4, 6, 7, 8, 9, 10] (by decide) h))) (qc rfl rfl (s_y rfl rfl h52 (o_mv rfl)) (qc rfl rfl (s_y rfl rfl h52 (o_callqP ca24 rfl (tiny_Tiny_Len.ok b6 (⟨i64 (ra2.1.toNat : Int), (some x22), (some x44)⟩ : tiny_Tiny) (⟨(pt b23 0, g21), (pt b45 0, g42)⟩ : tiny_Tiny.G) r54 hr54) (fun _ h => mv4 (mv1 (st_some (f := ring_Rings.op g42) (a := x44) (st_star_f (A := ring_Rings.fl b45 x44 g42) (mv6 (mv6 (mv6 (mv6 (mv6 (st_some (f := sketch_Sketch.op g21) (a := x22) (st_star_f (A := sketch_Sketch.fl b23 x22 g21) (mv10 (mv10 (mv10 h)))))))))))))) (fun _ h => st_pk 11 [9, 0, 1, 2, 3, 4, 10, 8, 5, 6, 7] (by decide) (st_star_o (st_some_o (mv4 (st_star_o (st_some_o (mv1 h))))))))) (qc rfl rfl (s_y rfl rfl h52 (o_bin rfl rfl (bI_add (ring_Rings_Free x44) r54))) (qc rfl rfl (s_y rfl rfl h52 (o_mv rfl)) (qc rfl rfl (s_y rfl rfl h52 (o_nc rfl)) (qc rfl rfl (s_y rfl rfl h52 (o_fa fa57_0 rfl)) (qc rfl rfl (s_y rfl rfl h52 (o_ld 7 sc3 rfl rfl rfl)) (qc rfl rfl (s_y rfl rfl h52 (o_bin rfl rfl (bI_add (i64 (ra2.1.toNat : Int)) 1))) (qc rfl rfl (s_y rfl rfl h52 (o_bin rfl rfl (bI_eq (i64 ((ring_Rings_Free x44) + r54)) (i64 ((i64 (ra2.1.toNat : Int)) + 1))))) (qc rfl rfl (s_u (o_pt rfl h52 rfl)) (qc rfl rfl (s_u (o_mv rfl)) (qc rfl rfl (s_y rfl rfl h56 (o_mv rfl)) (qc rfl rfl (s_y rfl rfl h56 (o_callqP ca24 rfl (tiny_Tiny_Len.ok b6 (⟨i64 (ra2.1.toNat : Int), (some x22), (some x44)⟩ : tiny_Tiny) (⟨(pt b23 0, g21), (pt b45 0, g42)⟩ : tiny_Tiny.G) r54 hr54) (fun _ h => mv4 (mv1 (st_some (f := ring_Rings.op g42) (a := x44) (st_star_f (A := ring_Rings.fl b45 x44 g42) (mv6 (mv6 (mv6 (mv6 (mv6 (st_some (f := sketch_Sketch.op g21) (a := x22) (st_star_f (A := sketch_Sketch.fl b23 x22 g21) (mv10 (mv10 (mv10 h)))))))))))))) (fun _ h => st_pk 11 [9, 0, 1, 2, 3, 4, 10, 8, 5, 6, 7] (by decide) (st_star_o (st_some_o (mv4 (st_star_o (st_some_o (mv1 h))))))))) (qc rfl rfl (s_y rfl rfl h56 (o_mv rfl)) (qc rfl rfl (s_y rfl rfl h56 (o_nc rfl)) (qc rfl rfl (s_y rfl rfl h56 (o_fa fa57_0 rfl)) (qc rfl rfl (s_y rfl rfl h56 (o_ld 7 sc3 rfl rfl rfl)) (qc rfl rfl (s_y rfl rfl h56 (o_bin rfl rfl (bI_le r54 (i64 (ra2.1.toNat : Int))))) (qc rfl rfl (s_u (o_pt rfl h56 rfl)) (qc rfl rfl (s_u (o_mv rfl)) (qc rfl rfl (s_y rfl rfl h58 (o_mv rfl)) (qc rfl rfl (s_y rfl rfl h58 (o_nc rfl)) (qc rfl rfl (s_y rfl rfl h58 (o_fa fa57_2 rfl)) (qc rfl rfl (s_y rfl rfl h58 (o_ld 7 sc53 rfl rfl rfl)) (qc rfl rfl (s_y rfl rfl h58 (o_callqP ca50 rfl (ring_Rings_Len.ok b45 x44 g42 0 r60 hr60) (fun _ h => st_pk 11 [1, 2, 3, 4, 5, 0, 6, 7, 8, 9, 10] (by decide) h) (fun _ h => st_pk 11 [5, 0, 1, 2, 3, 4, 6, 7, 8, 9, 10] (by decide) h))) (qc rfl rfl (s_y rfl rfl h58 (o_fa fa94_0 rfl)) (qc rfl rfl (s_y rfl rfl h58 (o_ld 6 sc3 rfl rfl rfl)) (qc rfl rfl (s_y rfl rfl h58 (o_bin rfl rfl (bI_le r60 ((tiny_Parts (i64 (ra2.1.toNat : Int))).Window)))) (qc rfl rfl (s_u (o_pt rfl h58 rfl)) (qc rfl rfl (s_u (o_mv rfl)) (qc rfl rfl (s_n rfl rfl h62) (qc rfl rfl (s_n rfl rfl h62) (qc rfl rfl (s_n rfl rfl h62) (qc rfl rfl (s_n rfl rfl h62) (qc rfl rfl (s_n rfl rfl h62) (qc rfl rfl (s_n rfl rfl h62) (qc rfl rfl (s_n rfl rfl h62) (qc rfl rfl (s_n rfl rfl h62) (qc rfl rfl (s_u (o_pf rfl h62 rfl)) qn)))))))))))))))))))))))))))))))))))))))))))))))))))) ?_ (fun h => absurd h (by decide))
                          refine ec (eo_c rfl (s_w (o_callL ca83 rfl (wire_Reader_Must.ok b0_ ra36.2 false (Sum.inl ra74) hr72) (fun _ _ _ h => h))) ?_) en
                          refine stage rfl rfl rfl rfl [0, 0, 2, 6, 14, 30, 62, 126, 254, 510, 1022, 2046, 4094, 254, 16382, 32766, 254, 65790, 196862, 459006, 983294, 2097150, 4194302, 8388606, 16777214, 33554430, 16777214, 83886078, 218103806, 486539262, 1073741822, 2147483646, 4294967294, 8589934590, 17179869182, 34359738366, 68719476734, 137438953470, 8589934590, 283467841534, 1099511627774, 2199023255550, 4398046511102, 8796093022206, 17592186044414, 35184372088830, 70368744177662, 140737488355326, 8796093022206, 290271069732862, 1125899906842622, 2251799813685246, 4503599627370495] [] [] rfl rfl rfl qn en ?_
                          intro _
                          refine ex_sub (E' := [(3, pt b6 0)]) ⟨rfl, trivial⟩ ?_
                          refine x_seq ?_
                          refine c_seq ?_
                          refine c_reg ?_
                          refine r_u (o_mv rfl) ?_
                          refine r_u (o_as rfl) ?_
                          refine r_nil ?_
                          refine x_seq ?_
                          refine c_ret ?_
                          refine ex_st (fun _ h => mv10 (mv10 (mv10 h))) ?_
                          refine ex_st (fun _ h => st_some (f := sketch_Sketch.op g21) (a := x22) (st_star_f (A := sketch_Sketch.fl b23 x22 g21) h)) ?_
                          refine ex_st (fun _ h => mv6 (mv6 (mv6 (mv6 (mv6 h))))) ?_
                          refine ex_st (fun _ h => st_some (f := ring_Rings.op g42) (a := x44) (st_star_f (A := ring_Rings.fl b45 x44 g42) h)) ?_
                          refine ex_st (fun _ h => mv4 (mv1 h)) ?_
                          refine ex_st (fun _ h => st_some (f := tiny_Tiny.op (⟨(pt b23 0, g21), (pt b45 0, g42)⟩ : tiny_Tiny.G)) (a := (⟨i64 (ra2.1.toNat : Int), (some x22), (some x44)⟩ : tiny_Tiny)) (st_star_f (A := tiny_Tiny.fl b6 (⟨i64 (ra2.1.toNat : Int), (some x22), (some x44)⟩ : tiny_Tiny) (⟨(pt b23 0, g21), (pt b45 0, g42)⟩ : tiny_Tiny.G)) h)) ?_
                          obtain rfl := Option.some.inj hm77
                          refine ex_st (fun _ h => st_pk 3 [0, 1] (by decide) h) ?_
                          exact x_r1 rfl (rv_t rfl) (Le.refl _) (.inl ⟨_, rfl, _, rfl, (pt b6 0, (⟨(pt b23 0, g21), (pt b45 0, g42)⟩ : tiny_Tiny.G)), rfl, rfl, rfl⟩)
                        · have hm77 := sm_r hm73
                          clear hm73
                          refine c_any mixed (effs := [52]) (V := []) ?_
                          refine stage_st (fun _ h => mv7 h) ?_
                          refine stage_ext [(0, pt b0_ 0), (1, pt b6 0), (2, pt b6 0), (3, pt b6 2), (4, pt b45 0), (5, vI (ring_Rings_Lists x44)), (6, vB ((ring_Rings_Lists x44) == 3)), (7, vB ((ring_Rings_Lists x44) == 3)), (8, pt b6 0), (9, pt b6 0), (10, pt b6 2), (11, pt b45 0), (12, vI (ring_Rings_Free x44)), (13, pt b6 0), (14, vI r54), (15, vI (i64 ((ring_Rings_Free x44) + r54))), (16, pt b6 0), (17, pt b6 0), (18, pt b6 0), (19, vI (i64 (ra2.1.toNat : Int))), (20, vI (i64 ((i64 (ra2.1.toNat : Int)) + 1))), (21, vB ((i64 ((ring_Rings_Free x44) + r54)) == (i64 ((i64 (ra2.1.toNat : Int)) + 1)))), (22, vB ((i64 ((ring_Rings_Free x44) + r54)) == (i64 ((i64 (ra2.1.toNat : Int)) + 1)))), (23, vB ((i64 ((ring_Rings_Free x44) + r54)) == (i64 ((i64 (ra2.1.toNat : Int)) + 1)))), (24, pt b6 0), (25, vI r54), (26, pt b6 0), (27, pt b6 0), (28, pt b6 0), (29, vI (i64 (ra2.1.toNat : Int))), (30, vB (decide (r54 ≤ (i64 (ra2.1.toNat : Int))))), (31, vB (decide (r54 ≤ (i64 (ra2.1.toNat : Int))))), (32, vB (decide (r54 ≤ (i64 (ra2.1.toNat : Int))))), (33, pt b6 0), (34, pt b6 0), (35, pt b6 2), (36, pt b45 0), (37, vI r60), (38, pt b43 0), (39, vI ((tiny_Parts (i64 (ra2.1.toNat : Int))).Window)), (40, vB (decide (r60 ≤ ((tiny_Parts (i64 (ra2.1.toNat : Int))).Window)))), (41, vB (decide (r60 ≤ ((tiny_Parts (i64 (ra2.1.toNat : Int))).Window)))), (42, vB (decide (r60 ≤ ((tiny_Parts (i64 (ra2.1.toNat : Int))).Window)))), (43, undef), (44, undef), (45, undef), (46, undef), (47, undef), (48, undef), (49, undef), (50, undef), (51, vB false)] rfl ?_
                          refine stage rfl rfl rfl rfl [0, 0, 2, 6, 14, 30, 62, 126, 254, 510, 1022, 2046, 4094, 254, 16382, 32766, 254, 65790, 196862, 459006, 983294, 2097150, 4194302, 8388606, 16777214, 33554430, 16777214, 83886078, 218103806, 486539262, 1073741822, 2147483646, 4294967294, 8589934590, 17179869182, 34359738366, 68719476734, 137438953470, 8589934590, 283467841534, 1099511627774, 2199023255550, 4398046511102, 8796093022206, 17592186044414, 35184372088830, 70368744177662, 140737488355326, 8796093022206, 290271069732862, 1125899906842622, 2251799813685246, 4503599627370495] [0, 1, 2, 3, 4, 5, 6, 7, 8, 9, 10, 11, 12, 13, 14, 15, 16, 17, 18, 19, 20, 21, 22, 23, 24, 25, 26, 27, 28, 29, 30, 31, 32, 33, 34, 35, 36, 37, 38, 39, 40, 41, 42, 43, 44, 45, 46, 47, 48, 49, 50, 51] [52] rfl rfl rfl (qc rfl rfl (s_u (o_mv rfl)) (qc rfl rfl (s_u (o_mv rfl)) (qc rfl rfl (s_u (o_nc rfl)) (qc rfl rfl (s_u (o_fa fa57_2 rfl)) (qc rfl rfl (s_u (o_ld 7 sc53 rfl rfl rfl)) (qc rfl rfl (s_u (o_callqP ca87 rfl (ring_Rings_Lists.ok b45 x44 g42 _ rfl) (fun _ h => st_pk 11 [1, 2, 3, 4, 5, 0, 6, 7, 8, 9, 10] (by decide) h) (fun _ h => st_pk 11 [5, 0, 1, 2, 3, 4, 6, 7, 8, 9, 10] (by decide) h))) (qc rfl rfl (s_u (o_bin rfl rfl (bI_eq (ring_Rings_Lists x44) 3))) (qc rfl rfl (s_u (o_mv rfl)) (qc rfl rfl (s_y rfl rfl h52 (o_mv rfl)) (qc rfl rfl (s_y rfl rfl h52 (o_nc rfl)) (qc rfl rfl (s_y rfl rfl h52 (o_fa fa57_2 rfl)) (qc rfl rfl (s_y rfl rfl h52 (o_ld 7 sc53 rfl rfl rfl)) (qc rfl rfl (s_y rfl rfl h52 (o_callqP ca88 rfl (ring_Rings_Free.ok b45 x44 g42 _ rfl) (fun _ h => st_pk 11 [1, 2, 3, 4, 5, 0, 6, 7, 8, 9, 10] (by decide) h) (fun _ h => st_pk 11 [5, 0, 1, 2, 3, 4, 6, 7, 8, 9, 10] (by decide) h))) (qc rfl rfl (s_y rfl rfl h52 (o_mv rfl)) (qc rfl rfl (s_y rfl rfl h52 (o_callqP ca24 rfl (tiny_Tiny_Len.ok b6 (⟨i64 (ra2.1.toNat : Int), (some x22), (some x44)⟩ : tiny_Tiny) (⟨(pt b23 0, g21), (pt b45 0, g42)⟩ : tiny_Tiny.G) r54 hr54) (fun _ h => mv4 (mv1 (st_some (f := ring_Rings.op g42) (a := x44) (st_star_f (A := ring_Rings.fl b45 x44 g42) (mv6 (mv6 (mv6 (mv6 (mv6 (st_some (f := sketch_Sketch.op g21) (a := x22) (st_star_f (A := sketch_Sketch.fl b23 x22 g21) (mv10 (mv10 (mv10 h)))))))))))))) (fun _ h => st_pk 11 [9, 0, 1, 2, 3, 4, 10, 8, 5, 6, 7] (by decide) (st_star_o (st_some_o (mv4 (st_star_o (st_some_o (mv1 h))))))))) (qc rfl rfl (s_y rfl rfl h52 (o_bin rfl rfl (bI_add (ring_Rings_Free x44) r54))) (qc rfl rfl (s_y rfl rfl h52 (o_mv rfl)) (qc rfl rfl (s_y rfl rfl h52 (o_nc rfl)) (qc rfl rfl (s_y rfl rfl h52 (o_fa fa57_0 rfl)) (qc rfl rfl (s_y rfl rfl h52 (o_ld 7 sc3 rfl rfl rfl)) (qc rfl rfl (s_y rfl rfl h52 (o_bin rfl rfl (bI_add (i64 (ra2.1.toNat : Int)) 1))) (qc rfl rfl (s_y rfl rfl h52 (o_bin rfl rfl (bI_eq (i64 ((ring_Rings_Free x44) + r54)) (i64 ((i64 (ra2.1.toNat : Int)) + 1))))) (qc rfl rfl (s_u (o_pt rfl h52 rfl)) (qc rfl rfl (s_u (o_mv rfl)) (qc rfl rfl (s_y rfl rfl h56 (o_mv rfl)) (qc rfl rfl (s_y rfl rfl h56 (o_callqP ca24 rfl (tiny_Tiny_Len.ok b6 (⟨i64 (ra2.1.toNat : Int), (some x22), (some x44)⟩ : tiny_Tiny) (⟨(pt b23 0, g21), (pt b45 0, g42)⟩ : tiny_Tiny.G) r54 hr54) (fun _ h => mv4 (mv1 (st_some (f := ring_Rings.op g42) (a := x44) (st_star_f (A := ring_Rings.fl b45 x44 g42) (mv6 (mv6 (mv6 (mv6 (mv6 (st_some (f := sketch_Sketch.op g21) (a := x22) (st_star_f (A := sketch_Sketch.fl b23 x22 g21) (mv10 (mv10 (mv10 h)))))))))))))) (fun _ h => st_pk 11 [9, 0, 1, 2, 3, 4, 10, 8, 5, 6, 7] (by decide) (st_star_o (st_some_o (mv4 (st_star_o (st_some_o (mv1 h))))))))) (qc rfl rfl (s_y rfl rfl h56 (o_mv rfl)) (qc rfl rfl (s_y rfl rfl h56 (o_nc rfl)) (qc rfl rfl (s_y rfl rfl h56 (o_fa fa57_0 rfl)) (qc rfl rfl (s_y rfl rfl h56 (o_ld 7 sc3 rfl rfl rfl)) (qc rfl rfl (s_y rfl rfl h56 (o_bin rfl rfl (bI_le r54 (i64 (ra2.1.toNat : Int))))) (qc rfl rfl (s_u (o_pt rfl h56 rfl)) (qc rfl rfl (s_u (o_mv rfl)) (qc rfl rfl (s_y rfl rfl h58 (o_mv rfl)) (qc rfl rfl (s_y rfl rfl h58 (o_nc rfl)) (qc rfl rfl (s_y rfl rfl h58 (o_fa fa57_2 rfl)) (qc rfl rfl (s_y rfl rfl h58 (o_ld 7 sc53 rfl rfl rfl)) (qc rfl rfl (s_y rfl rfl h58 (o_callqP ca50 rfl (ring_Rings_Len.ok b45 x44 g42 0 r60 hr60) (fun _ h => st_pk 11 [1, 2, 3, 4, 5, 0, 6, 7, 8, 9, 10] (by decide) h) (fun _ h => st_pk 11 [5, 0, 1, 2, 3, 4, 6, 7, 8, 9, 10] (by decide) h))) (qc rfl rfl (s_y rfl rfl h58 (o_fa fa94_0 rfl)) (qc rfl rfl (s_y rfl rfl h58 (o_ld 6 sc3 rfl rfl rfl)) (qc rfl rfl (s_y rfl rfl h58 (o_bin rfl rfl (bI_le r60 ((tiny_Parts (i64 (ra2.1.toNat : Int))).Window)))) (qc rfl rfl (s_u (o_pt rfl h58 rfl)) (qc rfl rfl (s_u (o_mv rfl)) (qc rfl rfl (s_n rfl rfl h62) (qc rfl rfl (s_n rfl rfl h62) (qc rfl rfl (s_n rfl rfl h62) (qc rfl rfl (s_n rfl rfl h62) (qc rfl rfl (s_n rfl rfl h62) (qc rfl rfl (s_n rfl rfl h62) (qc rfl rfl (s_n rfl rfl h62) (qc rfl rfl (s_n rfl rfl h62) (qc rfl rfl (s_u (o_pf rfl h62 rfl)) qn)))))))))))))))))))))))))))))))))))))))))))))))))))) ?_ (fun h => absurd h (by decide))
                          obtain rfl := Option.some.inj hm77
                          exact ec (eo_w rfl (s_w (o_callR ca83 rfl (wire_Reader_Must.ok b0_ ra36.2 false (Sum.inr (rn75, ro76)) hr72) (by rintro _ _ _ ⟨rfl, rfl⟩; exact (px_st (fun _ h => st_pk 11 [0] (by decide) h) (px_of (Le.refl _) (.inr ⟨_, rfl, _, rfl, rfl, rfl⟩)))))) (fun _ _ _ _ h => h.elim)) en
                    · have hm59 := iff_ hm57 h58
                      clear hm57
                      obtain ⟨r78, hr78, hm79⟩ := ltx hm59
                      clear hm59
                      rcases r78 with ra80 | ⟨rn81, ro82⟩
                      · have hm83 := sm_l hm79
                        clear hm79
                        refine c_any mixed (effs := [52]) (V := []) ?_
                        refine stage_st (fun _ h => mv7 h) ?_
                        refine stage_ext [(0, pt b0_ 0), (1, pt b6 0), (2, pt b6 0), (3, pt b6 2), (4, pt b45 0), (5, vI (ring_Rings_Lists x44)), (6, vB ((ring_Rings_Lists x44) == 3)), (7, vB ((ring_Rings_Lists x44) == 3)), (8, pt b6 0), (9, pt b6 0), (10, pt b6 2), (11, pt b45 0), (12, vI (ring_Rings_Free x44)), (13, pt b6 0), (14, vI r54), (15, vI (i64 ((ring_Rings_Free x44) + r54))), (16, pt b6 0), (17, pt b6 0), (18, pt b6 0), (19, vI (i64 (ra2.1.toNat : Int))), (20, vI (i64 ((i64 (ra2.1.toNat : Int)) + 1))), (21, vB ((i64 ((ring_Rings_Free x44) + r54)) == (i64 ((i64 (ra2.1.toNat : Int)) + 1)))), (22, vB ((i64 ((ring_Rings_Free x44) + r54)) == (i64 ((i64 (ra2.1.toNat : Int)) + 1)))), (23, vB ((i64 ((ring_Rings_Free x44) + r54)) == (i64 ((i64 (ra2.1.toNat : Int)) + 1)))), (24, pt b6 0), (25, vI r54), (26, pt b6 0), (27, pt b6 0), (28, pt b6 0), (29, vI (i64 (ra2.1.toNat : Int))), (30, vB (decide (r54 ≤ (i64 (ra2.1.toNat : Int))))), (31, vB (decide (r54 ≤ (i64 (ra2.1.toNat : Int))))), (32, vB (decide (r54 ≤ (i64 (ra2.1.toNat : Int))))), (33, undef), (34, undef), (35, undef), (36, undef), (37, undef), (38, undef), (39, undef), (40, undef), (41, vB false), (42, vB false), (43, undef), (44, undef), (45, undef), (46, undef), (47, undef), (48, undef), (49, undef), (50, undef), (51, vB false)] rfl ?_
                        refine stage rfl rfl rfl rfl [0, 0, 2, 6, 14, 30, 62, 126, 254, 510, 1022, 2046, 4094, 254, 16382, 32766, 254, 65790, 196862, 459006, 983294, 2097150, 4194302, 8388606, 16777214, 33554430, 16777214, 83886078, 218103806, 486539262, 1073741822, 2147483646, 4294967294, 8589934590, 17179869182, 34359738366, 68719476734, 137438953470, 8589934590, 283467841534, 1099511627774, 2199023255550, 4398046511102, 8796093022206, 17592186044414, 35184372088830, 70368744177662, 140737488355326, 8796093022206, 290271069732862, 1125899906842622, 2251799813685246, 4503599627370495] [0, 1, 2, 3, 4, 5, 6, 7, 8, 9, 10, 11, 12, 13, 14, 15, 16, 17, 18, 19, 20, 21, 22, 23, 24, 25, 26, 27, 28, 29, 30, 31, 32, 33, 34, 35, 36, 37, 38, 39, 40, 41, 42, 43, 44, 45, 46, 47, 48, 49, 50, 51] [52] rfl rfl rfl (qc rfl rfl (s_u (o_mv rfl)) (qc rfl rfl (s_u (o_mv rfl)) (qc rfl rfl (s_u (o_nc rfl)) (qc rfl rfl (s_u (o_fa fa57_2 rfl)) (qc rfl rfl (s_u (o_ld 7 sc53 rfl rfl rfl)) (qc rfl rfl (s_u (o_callqP ca87 rfl (ring_Rings_Lists.ok b45 x44 g42 _ rfl) (fun _ h => st_pk 11 [1, 2, 3, 4, 5, 0, 6, 7, 8, 9, 10] (by decide) h) (fun _ h => st_pk 11 [5, 0, 1, 2, 3, 4, 6, 7, 8, 9, 10] (by decide) h))) (qc rfl rfl (s_u (o_bin rfl rfl (bI_eq (ring_Rings_Lists x44) 3))) (qc rfl rfl (s_u (o_mv rfl)) (qc rfl rfl (s_y rfl rfl h52 (o_mv rfl)) (qc rfl rfl (s_y rfl rfl h52 (o_nc rfl)) (qc rfl rfl (s_y rfl rfl h52 (o_fa fa57_2 rfl)) (qc rfl rfl (s_y rfl rfl h52 (o_ld 7 sc53 rfl rfl rfl)) (qc rfl rfl (s_y rfl rfl h52 (o_callqP ca88 rfl (ring_Rings_Free.ok b45 x44 g42 _ rfl) (fun _ h => st_pk 11 [1, 2, 3, 4, 5, 0, 6, 7, 8, 9, 10] (by decide) h) (fun _ h => st_pk 11 [5, 0, 1, 2, 3, 4, 6, 7, 8, 9, 10] (by decide) h))) (qc rfl rfl (s_y rfl rfl h52 (o_mv rfl)) (qc rfl rfl (s_y rfl rfl h52 (o_callqP ca24 rfl (tiny_Tiny_Len.ok b6 (⟨i64 (ra2.1.toNat : Int), (some x22), (some x44)⟩ : tiny_Tiny) (⟨(pt b23 0, g21), (pt b45 0, g42)⟩ : tiny_Tiny.G) r54 hr54) (fun _ h => mv4 (mv1 (st_some (f := ring_Rings.op g42) (a := x44) (st_star_f (A := ring_Rings.fl b45 x44 g42) (mv6 (mv6 (mv6 (mv6 (mv6 (st_some (f := sketch_Sketch.op g21) (a := x22) (st_star_f (A := sketch_Sketch.fl b23 x22 g21) (mv10 (mv10 (mv10 h)))))))))))))) (fun _ h => st_pk 11 [9, 0, 1, 2, 3, 4, 10, 8, 5, 6, 7] (by decide) (st_star_o (st_some_o (mv4 (st_star_o (st_some_o (mv1 h))))))))) (qc rfl rfl (s_y rfl rfl h52 (o_bin rfl rfl (bI_add (ring_Rings_Free x44) r54))) (qc rfl rfl (s_y rfl rfl h52 (o_mv rfl)) (qc rfl rfl (s_y rfl rfl h52 (o_nc rfl)) (qc rfl rfl (s_y rfl rfl h52 (o_fa fa57_0 rfl)) (qc rfl rfl (s_y rfl rfl h52 (o_ld 7 sc3 rfl rfl rfl)) (qc rfl rfl (s_y rfl rfl h52 (o_bin rfl rfl (bI_add (i64 (ra2.1.toNat : Int)) 1))) (qc rfl rfl (s_y rfl rfl h52 (o_bin rfl rfl (bI_eq (i64 ((ring_Rings_Free x44) + r54)) (i64 ((i64 (ra2.1.toNat : Int)) + 1))))) (qc rfl rfl (s_u (o_pt rfl h52 rfl)) (qc rfl rfl (s_u (o_mv rfl)) (qc rfl rfl (s_y rfl rfl h56 (o_mv rfl)) (qc rfl rfl (s_y rfl rfl h56 (o_callqP ca24 rfl (tiny_Tiny_Len.ok b6 (⟨i64 (ra2.1.toNat : Int), (some x22), (some x44)⟩ : tiny_Tiny) (⟨(pt b23 0, g21), (pt b45 0, g42)⟩ : tiny_Tiny.G) r54 hr54) (fun _ h => mv4 (mv1 (st_some (f := ring_Rings.op g42) (a := x44) (st_star_f (A := ring_Rings.fl b45 x44 g42) (mv6 (mv6 (mv6 (mv6 (mv6 (st_some (f := sketch_Sketch.op g21) (a := x22) (st_star_f (A := sketch_Sketch.fl b23 x22 g21) (mv10 (mv10 (mv10 h)))))))))))))) (fun _ h => st_pk 11 [9, 0, 1, 2, 3, 4, 10, 8, 5, 6, 7] (by decide) (st_star_o (st_some_o (mv4 (st_star_o (st_some_o (mv1 h))))))))) (qc rfl rfl (s_y rfl rfl h56 (o_mv rfl)) (qc rfl rfl (s_y rfl rfl h56 (o_nc rfl)) (qc rfl rfl (s_y rfl rfl h56 (o_fa fa57_0 rfl)) (qc rfl rfl (s_y rfl rfl h56 (o_ld 7 sc3 rfl rfl rfl)) (qc rfl rfl (s_y rfl rfl h56 (o_bin rfl rfl (bI_le r54 (i64 (ra2.1.toNat : Int))))) (qc rfl rfl (s_u (o_pt rfl h56 rfl)) (qc rfl rfl (s_u (o_mv rfl)) (qc rfl rfl (s_n rfl rfl h58) (qc rfl rfl (s_n rfl rfl h58) (qc rfl rfl (s_n rfl rfl h58) (qc rfl rfl (s_n rfl rfl h58) (qc rfl rfl (s_n rfl rfl h58) (qc rfl rfl (s_n rfl rfl h58) (qc rfl rfl (s_n rfl rfl h58) (qc rfl rfl (s_n rfl rfl h58) (qc rfl rfl (s_u (o_pf rfl h58 rfl)) (qc rfl rfl (s_u (o_mv rfl)) (qc rfl rfl (s_n rfl rfl rfl) (qc rfl rfl (s_n rfl rfl rfl) (qc rfl rfl (s_n rfl rfl rfl) (qc rfl rfl (s_n rfl rfl rfl) (qc rfl rfl (s_n rfl rfl rfl) (qc rfl rfl (s_n rfl rfl rfl) (qc rfl rfl (s_n rfl rfl rfl) (qc rfl rfl (s_n rfl rfl rfl) (qc rfl rfl (s_u (o_pf rfl rfl rfl)) qn)))))))))))))))))))))))))))))))))))))))))))))))))))) ?_ (fun h => absurd h (by decide))
                        refine ec (eo_c rfl (s_w (o_callL ca83 rfl (wire_Reader_Must.ok b0_ ra36.2 false (Sum.inl ra80) hr78) (fun _ _ _ h => h))) ?_) en
                        refine stage rfl rfl rfl rfl [0, 0, 2, 6, 14, 30, 62, 126, 254, 510, 1022, 2046, 4094, 254, 16382, 32766, 254, 65790, 196862, 459006, 983294, 2097150, 4194302, 8388606, 16777214, 33554430, 16777214, 83886078, 218103806, 486539262, 1073741822, 2147483646, 4294967294, 8589934590, 17179869182, 34359738366, 68719476734, 137438953470, 8589934590, 283467841534, 1099511627774, 2199023255550, 4398046511102, 8796093022206, 17592186044414, 35184372088830, 70368744177662, 140737488355326, 8796093022206, 290271069732862, 1125899906842622, 2251799813685246, 4503599627370495] [] [] rfl rfl rfl qn en ?_
                        intro _
                        refine ex_sub (E' := [(3, pt b6 0)]) ⟨rfl, trivial⟩ ?_
                        refine x_seq ?_
                        refine c_seq ?_
                        refine c_reg ?_
                        refine r_u (o_mv rfl) ?_
                        refine r_u (o_as rfl) ?_
                        refine r_nil ?_
                        refine x_seq ?_
                        refine c_ret ?_
                        refine ex_st (fun _ h => mv10 (mv10 (mv10 h))) ?_
                        refine ex_st (fun _ h => st_some (f := sketch_Sketch.op g21) (a := x22) (st_star_f (A := sketch_Sketch.fl b23 x22 g21) h)) ?_
                        refine ex_st (fun _ h => mv6 (mv6 (mv6 (mv6 (mv6 h))))) ?_
                        refine ex_st (fun _ h => st_some (f := ring_Rings.op g42) (a := x44) (st_star_f (A := ring_Rings.fl b45 x44 g42) h)) ?_
                        refine ex_st (fun _ h => mv4 (mv1 h)) ?_
                        refine ex_st (fun _ h => st_some (f := tiny_Tiny.op (⟨(pt b23 0, g21), (pt b45 0, g42)⟩ : tiny_Tiny.G)) (a := (⟨i64 (ra2.1.toNat : Int), (some x22), (some x44)⟩ : tiny_Tiny)) (st_star_f (A := tiny_Tiny.fl b6 (⟨i64 (ra2.1.toNat : Int), (some x22), (some x44)⟩ : tiny_Tiny) (⟨(pt b23 0, g21), (pt b45 0, g42)⟩ : tiny_Tiny.G)) h)) ?_
                        obtain rfl := Option.some.inj hm83
                        refine ex_st (fun _ h => st_pk 3 [0, 1] (by decide) h) ?_
                        exact x_r1 rfl (rv_t rfl) (Le.refl _) (.inl ⟨_, rfl, _, rfl, (pt b6 0, (⟨(pt b23 0, g21), (pt b45 0, g42)⟩ : tiny_Tiny.G)), rfl, rfl, rfl⟩)
                      · have hm83 := sm_r hm79
                        clear hm79
                        refine c_any mixed (effs := [52]) (V := []) ?_
                        refine stage_st (fun _ h => mv7 h) ?_
                        refine stage_ext [(0, pt b0_ 0), (1, pt b6 0), (2, pt b6 0), (3, pt b6 2), (4, pt b45 0), (5, vI (ring_Rings_Lists x44)), (6, vB ((ring_Rings_Lists x44) == 3)), (7, vB ((ring_Rings_Lists x44) == 3)), (8, pt b6 0), (9, pt b6 0), (10, pt b6 2), (11, pt b45 0), (12, vI (ring_Rings_Free x44)), (13, pt b6 0), (14, vI r54), (15, vI (i64 ((ring_Rings_Free x44) + r54))), (16, pt b6 0), (17, pt b6 0), (18, pt b6 0), (19, vI (i64 (ra2.1.toNat : Int))), (20, vI (i64 ((i64 (ra2.1.toNat : Int)) + 1))), (21, vB ((i64 ((ring_Rings_Free x44) + r54)) == (i64 ((i64 (ra2.1.toNat : Int)) + 1)))), (22, vB ((i64 ((ring_Rings_Free x44) + r54)) == (i64 ((i64 (ra2.1.toNat : Int)) + 1)))), (23, vB ((i64 ((ring_Rings_Free x44) + r54)) == (i64 ((i64 (ra2.1.toNat : Int)) + 1)))), (24, pt b6 0), (25, vI r54), (26, pt b6 0), (27, pt b6 0), (28, pt b6 0), (29, vI (i64 (ra2.1.toNat : Int))), (30, vB (decide (r54 ≤ (i64 (ra2.1.toNat : Int))))), (31, vB (decide (r54 ≤ (i64 (ra2.1.toNat : Int))))), (32, vB (decide (r54 ≤ (i64 (ra2.1.toNat : Int))))), (33, undef), (34, undef), (35, undef), (36, undef), (37, undef), (38, undef), (39, undef), (40, undef), (41, vB false), (42, vB false), (43, undef), (44, undef), (45, undef), (46, undef), (47, undef), (48, undef), (49, undef), (50, undef), (51, vB false)] rfl ?_
                        refine stage rfl rfl rfl rfl [0, 0, 2, 6, 14, 30, 62, 126, 254, 510, 1022, 2046, 4094, 254, 16382, 32766, 254, 65790, 196862, 459006, 983294, 2097150, 4194302, 8388606, 16777214, 33554430, 16777214, 83886078, 218103806, 486539262, 1073741822, 2147483646, 4294967294, 8589934590, 17179869182, 34359738366, 68719476734, 137438953470, 8589934590, 283467841534, 1099511627774, 2199023255550, 4398046511102, 8796093022206, 17592186044414, 35184372088830, 70368744177662, 140737488355326, 8796093022206, 290271069732862, 1125899906842622, 2251799813685246, 4503599627370495] [0, 1, 2, 3, 4, 5, 6, 7, 8, 9, 10, 11, 12, 13, 14, 15, 16, 17, 18, 19, 20, 21, 22, 23, 24, 25, 26, 27, 28, 29, 30, 31, 32, 33, 34, 35, 36, 37, 38, 39, 40, 41, 42, 43, 44, 45, 46, 47, 48, 49, 50, 51] [52] rfl rfl rfl (qc rfl rfl (s_u (o_mv rfl)) (qc rfl rfl (s_u (o_mv rfl)) (qc rfl rfl (s_u (o_nc rfl)) (qc rfl rfl (s_u (o_fa fa57_2 rfl)) (qc rfl rfl (s_u (o_ld 7 sc53 rfl rfl rfl)) (qc rfl rfl (s_u (o_callqP ca87 rfl (ring_Rings_Lists.ok b45 x44 g42 _ rfl) (fun _ h => st_pk 11 [1, 2, 3, 4, 5, 0, 6, 7, 8, 9, 10] (by decide) h) (fun _ h => st_pk 11 [5, 0, 1, 2, 3, 4, 6, 7, 8, 9, 10] (by decide) h))) (qc rfl rfl (s_u (o_bin rfl rfl (bI_eq (ring_Rings_Lists x44) 3))) (qc rfl rfl (s_u (o_mv rfl)) (qc rfl rfl (s_y rfl rfl h52 (o_mv rfl)) (qc rfl rfl (s_y rfl rfl h52 (o_nc rfl)) (qc rfl rfl (s_y rfl rfl h52 (o_fa fa57_2 rfl)) (qc rfl rfl (s_y rfl rfl h52 (o_ld 7 sc53 rfl rfl rfl)) (qc rfl rfl (s_y rfl rfl h52 (o_callqP ca88 rfl (ring_Rings_Free.ok b45 x44 g42 _ rfl) (fun _ h => st_pk 11 [1, 2, 3, 4, 5, 0, 6, 7, 8, 9, 10] (by decide) h) (fun _ h => st_pk 11 [5, 0, 1, 2, 3, 4, 6, 7, 8, 9, 10] (by decide) h))) (qc rfl rfl (s_y rfl rfl h52 (o_mv rfl)) (qc rfl rfl (s_y rfl rfl h52 (o_callqP ca24 rfl (tiny_Tiny_Len.ok b6 (⟨i64 (ra2.1.toNat : Int), (some x22), (some x44)⟩ : tiny_Tiny) (⟨(pt b23 0, g21), (pt b45 0, g42)⟩ : tiny_Tiny.G) r54 hr54) (fun _ h => mv4 (mv1 (st_some (f := ring_Rings.op g42) (a := x44) (st_star_f (A := ring_Rings.fl b45 x44 g42) (mv6 (mv6 (mv6 (mv6 (mv6 (st_some (f := sketch_Sketch.op g21) (a := x22) (st_star_f (A := sketch_Sketch.fl b23 x22 g21) (mv10 (mv10 (mv10 h)))))))))))))) (fun _ h => st_pk 11 [9, 0, 1, 2, 3, 4, 10, 8, 5, 6, 7] (by decide) (st_star_o (st_some_o (mv4 (st_star_o (st_some_o (mv1 h))))))))) (qc rfl rfl (s_y rfl rfl h52 (o_bin rfl rfl (bI_add (ring_Rings_Free x44) r54))) (qc rfl rfl (s_y rfl rfl h52 (o_mv rfl)) (qc rfl rfl (s_y rfl rfl h52 (o_nc rfl)) (qc rfl rfl (s_y rfl rfl h52 (o_fa fa57_0 rfl)) (qc rfl rfl (s_y rfl rfl h52 (o_ld 7 sc3 rfl rfl rfl)) (qc rfl rfl (s_y rfl rfl h52 (o_bin rfl rfl (bI_add (i64 (ra2.1.toNat : Int)) 1))) (qc rfl rfl (s_y rfl rfl h52 (o_bin rfl rfl (bI_eq (i64 ((ring_Rings_Free x44) + r54)) (i64 ((i64 (ra2.1.toNat : Int)) + 1))))) (qc rfl rfl (s_u (o_pt rfl h52 rfl)) (qc rfl rfl (s_u (o_mv rfl)) (qc rfl rfl (s_y rfl rfl h56 (o_mv rfl)) (qc rfl rfl (s_y rfl rfl h56 (o_callqP ca24 rfl (tiny_Tiny_Len.ok b6 (⟨i64 (ra2.1.toNat : Int), (some x22), (some x44)⟩ : tiny_Tiny) (⟨(pt b23 0, g21), (pt b45 0, g42)⟩ : tiny_Tiny.G) r54 hr54) (fun _ h => mv4 (mv1 (st_some (f := ring_Rings.op g42) (a := x44) (st_star_f (A := ring_Rings.fl b45 x44 g42) (mv6 (mv6 (mv6 (mv6 (mv6 (st_some (f := sketch_Sketch.op g21) (a := x22) (st_star_f (A := sketch_Sketch.fl b23 x22 g21) (mv10 (mv10 (mv10 h)))))))))))))) (fun _ h => st_pk 11 [9, 0, 1, 2, 3, 4, 10, 8, 5, 6, 7] (by decide) (st_star_o (st_some_o (mv4 (st_star_o (st_some_o (mv1 h))))))))) (qc rfl rfl (s_y rfl rfl h56 (o_mv rfl)) (qc rfl rfl (s_y rfl rfl h56 (o_nc rfl)) (qc rfl rfl (s_y rfl rfl h56 (o_fa fa57_0 rfl)) (qc rfl rfl (s_y rfl rfl h56 (o_ld 7 sc3 rfl rfl rfl)) (qc rfl rfl (s_y rfl rfl h56 (o_bin rfl rfl (bI_le r54 (i64 (ra2.1.toNat : Int))))) (qc rfl rfl (s_u (o_pt rfl h56 rfl)) (qc rfl rfl (s_u (o_mv rfl)) (qc rfl rfl (s_n rfl rfl h58) (qc rfl rfl (s_n rfl rfl h58) (qc rfl rfl (s_n rfl rfl h58) (qc rfl rfl (s_n rfl rfl h58) (qc rfl rfl (s_n rfl rfl h58) (qc rfl rfl (s_n rfl rfl h58) (qc rfl rfl (s_n rfl rfl h58) (qc rfl rfl (s_n rfl rfl h58) (qc rfl rfl (s_u (o_pf rfl h58 rfl)) (qc rfl rfl (s_u (o_mv rfl)) (qc rfl rfl (s_n rfl rfl rfl) (qc rfl rfl (s_n rfl rfl rfl) (qc rfl rfl (s_n rfl rfl rfl) (qc rfl rfl (s_n rfl rfl rfl) (qc rfl rfl (s_n rfl rfl rfl) (qc rfl rfl (s_n rfl rfl rfl) (qc rfl rfl (s_n rfl rfl rfl) (qc rfl rfl (s_n rfl rfl rfl) (qc rfl rfl (s_u (o_pf rfl rfl rfl)) qn)))))))))))))))))))))))))))))))))))))))))))))))))))) ?_ (fun h => absurd h (by decide))
                        obtain rfl := Option.some.inj hm83
                        exact ec (eo_w rfl (s_w (o_callR ca83 rfl (wire_Reader_Must.ok b0_ ra36.2 false (Sum.inr (rn81, ro82)) hr78) (by rintro _ _ _ ⟨rfl, rfl⟩; exact (px_st (fun _ h => st_pk 11 [0] (by decide) h) (px_of (Le.refl _) (.inr ⟨_, rfl, _, rfl, rfl, rfl⟩)))))) (fun _ _ _ _ h => h.elim)) en
                  · have hm57 := iff_ hm55 h56
                    clear hm55
                    obtain ⟨r84, hr84, hm85⟩ := ltx hm57
                    clear hm57
                    rcases r84 with ra86 | ⟨rn87, ro88⟩
                    · have hm89 := sm_l hm85
                      clear hm85
                      refine c_any mixed (effs := [52]) (V := []) ?_
                      refine stage_st (fun _ h => mv7 h) ?_
                      refine stage_ext [(0, pt b0_ 0), (1, pt b6 0), (2, pt b6 0), (3, pt b6 2), (4, pt b45 0), (5, vI (ring_Rings_Lists x44)), (6, vB ((ring_Rings_Lists x44) == 3)), (7, vB ((ring_Rings_Lists x44) == 3)), (8, pt b6 0), (9, pt b6 0), (10, pt b6 2), (11, pt b45 0), (12, vI (ring_Rings_Free x44)), (13, pt b6 0), (14, vI r54), (15, vI (i64 ((ring_Rings_Free x44) + r54))), (16, pt b6 0), (17, pt b6 0), (18, pt b6 0), (19, vI (i64 (ra2.1.toNat : Int))), (20, vI (i64 ((i64 (ra2.1.toNat : Int)) + 1))), (21, vB ((i64 ((ring_Rings_Free x44) + r54)) == (i64 ((i64 (ra2.1.toNat : Int)) + 1)))), (22, vB ((i64 ((ring_Rings_Free x44) + r54)) == (i64 ((i64 (ra2.1.toNat : Int)) + 1)))), (23, vB ((i64 ((ring_Rings_Free x44) + r54)) == (i64 ((i64 (ra2.1.toNat : Int)) + 1)))), (24, undef), (25, undef), (26, undef), (27, undef), (28, undef), (29, undef), (30, undef), (31, vB false), (32, vB false), (33, undef), (34, undef), (35, undef), (36, undef), (37, undef), (38, undef), (39, undef), (40, undef), (41, vB false), (42, vB false), (43, undef), (44, undef), (45, undef), (46, undef), (47, undef), (48, undef), (49, undef), (50, undef), (51, vB false)] rfl ?_
                      refine stage rfl rfl rfl rfl [0, 0, 2, 6, 14, 30, 62, 126, 254, 510, 1022, 2046, 4094, 254, 16382, 32766, 254, 65790, 196862, 459006, 983294, 2097150, 4194302, 8388606, 16777214, 33554430, 16777214, 83886078, 218103806, 486539262, 1073741822, 2147483646, 4294967294, 8589934590, 17179869182, 34359738366, 68719476734, 137438953470, 8589934590, 283467841534, 1099511627774, 2199023255550, 4398046511102, 8796093022206, 17592186044414, 35184372088830, 70368744177662, 140737488355326, 8796093022206, 290271069732862, 1125899906842622, 2251799813685246, 4503599627370495] [0, 1, 2, 3, 4, 5, 6, 7, 8, 9, 10, 11, 12, 13, 14, 15, 16, 17, 18, 19, 20, 21, 22, 23, 24, 25, 26, 27, 28, 29, 30, 31, 32, 33, 34, 35, 36, 37, 38, 39, 40, 41, 42, 43, 44, 45, 46, 47, 48, 49, 50, 51] [52] rfl rfl rfl (qc rfl rfl (s_u (o_mv rfl)) (qc rfl rfl (s_u (o_mv rfl)) (qc rfl rfl (s_u (o_nc rfl)) (qc rfl rfl (s_u (o_fa fa57_2 rfl)) (qc rfl rfl (s_u (o_ld 7 sc53 rfl rfl rfl)) (qc rfl rfl (s_u (o_callqP ca87 rfl (ring_Rings_Lists.ok b45 x44 g42 _ rfl) (fun _ h => st_pk 11 [1, 2, 3, 4, 5, 0, 6, 7, 8, 9, 10] (by decide) h) (fun _ h => st_pk 11 [5, 0, 1, 2, 3, 4, 6, 7, 8, 9, 10] (by decide) h))) (qc rfl rfl (s_u (o_bin rfl rfl (bI_eq (ring_Rings_Lists x44) 3))) (qc rfl rfl (s_u (o_mv rfl)) (qc rfl rfl (s_y rfl rfl h52 (o_mv rfl)) (qc rfl rfl (s_y rfl rfl h52 (o_nc rfl)) (qc rfl rfl (s_y rfl rfl h52 (o_fa fa57_2 rfl)) (qc rfl rfl (s_y rfl rfl h52 (o_ld 7 sc53 rfl rfl rfl)) (qc rfl rfl (s_y rfl rfl h52 (o_callqP ca88 rfl (ring_Rings_Free.ok b45 x44 g42 _ rfl) (fun _ h => st_pk 11 [1, 2, 3, 4, 5, 0, 6, 7, 8, 9, 10] (by decide) h) (fun _ h => st_pk 11 [5, 0, 1, 2, 3, 4, 6, 7, 8, 9, 10] (by decide) h))) (qc rfl rfl (s_y rfl rfl h52 (o_mv rfl)) (qc rfl rfl (s_y rfl rfl h52 (o_callqP ca24 rfl (tiny_Tiny_Len.ok b6 (⟨i64 (ra2.1.toNat : Int), (some x22), (some x44)⟩ : tiny_Tiny) (⟨(pt b23 0, g21), (pt b45 0, g42)⟩ : tiny_Tiny.G) r54 hr54) (fun _ h => mv4 (mv1 (st_some (f := ring_Rings.op g42) (a := x44) (st_star_f (A := ring_Rings.fl b45 x44 g42) (mv6 (mv6 (mv6 (mv6 (mv6 (st_some (f := sketch_Sketch.op g21) (a := x22) (st_star_f (A := sketch_Sketch.fl b23 x22 g21) (mv10 (mv10 (mv10 h)))))))))))))) (fun _ h => st_pk 11 [9, 0, 1, 2, 3, 4, 10, 8, 5, 6, 7] (by decide) (st_star_o (st_some_o (mv4 (st_star_o (st_some_o (mv1 h))))))))) (qc rfl rfl (s_y rfl rfl h52 (o_bin rfl rfl (bI_add (ring_Rings_Free x44) r54))) (qc rfl rfl (s_y rfl rfl h52 (o_mv rfl)) (qc rfl rfl (s_y rfl rfl h52 (o_nc rfl)) (qc rfl rfl (s_y rfl rfl h52 (o_fa fa57_0 rfl)) (qc rfl rfl (s_y rfl rfl h52 (o_ld 7 sc3 rfl rfl rfl)) (qc rfl rfl (s_y rfl rfl h52 (o_bin rfl rfl (bI_add (i64 (ra2.1.toNat : Int)) 1))) (qc rfl rfl (s_y rfl rfl h52 (o_bin rfl rfl (bI_eq (i64 ((ring_Rings_Free x44) + r54)) (i64 ((i64 (ra2.1.toNat : Int)) + 1))))) (qc rfl rfl (s_u (o_pt rfl h52 rfl)) (qc rfl rfl (s_u (o_mv rfl)) (qc rfl rfl (s_n rfl rfl h56) (qc rfl rfl (s_n rfl rfl h56) (qc rfl rfl (s_n rfl rfl h56) (qc rfl rfl (s_n rfl rfl h56) (qc rfl rfl (s_n rfl rfl h56) (qc rfl rfl (s_n rfl rfl h56) (qc rfl rfl (s_n rfl rfl h56) (qc rfl rfl (s_u (o_pf rfl h56 rfl)) (qc rfl rfl (s_u (o_mv rfl)) (qc rfl rfl (s_n rfl rfl rfl) (qc rfl rfl (s_n rfl rfl rfl) (qc rfl rfl (s_n rfl rfl rfl) (qc rfl rfl (s_n rfl rfl rfl) (qc rfl rfl (s_n rfl rfl rfl) (qc rfl rfl (s_n rfl rfl rfl) (qc rfl rfl (s_n rfl rfl rfl) (qc rfl rfl (s_n rfl rfl rfl) (qc rfl rfl (s_u (o_pf rfl rfl rfl)) (qc rfl rfl (s_u (o_mv rfl)) (qc rfl rfl (s_n rfl rfl rfl) (qc rfl rfl (s_n rfl rfl rfl) (qc rfl rfl (s_n rfl rfl rfl) (qc rfl rfl (s_n rfl rfl rfl) (qc rfl rfl (s_n rfl rfl rfl) (qc rfl rfl (s_n rfl rfl rfl) (qc rfl rfl (s_n rfl rfl rfl) (qc rfl rfl (s_n rfl rfl rfl) (qc rfl rfl (s_u (o_pf rfl rfl rfl)) qn)))))))))))))))))))))))))))))))))))))))))))))))))))) ?_ (fun h => absurd h (by decide))
                      refine ec (eo_c rfl (s_w (o_callL ca83 rfl (wire_Reader_Must.ok b0_ ra36.2 false (Sum.inl ra86) hr84) (fun _ _ _ h => h))) ?_) en
                      refine stage rfl rfl rfl rfl [0, 0, 2, 6, 14, 30, 62, 126, 254, 510, 1022, 2046, 4094, 254, 16382, 32766, 254, 65790, 196862, 459006, 983294, 2097150, 4194302, 8388606, 16777214, 33554430, 16777214, 83886078, 218103806, 486539262, 1073741822, 2147483646, 4294967294, 8589934590, 17179869182, 34359738366, 68719476734, 137438953470, 8589934590, 283467841534, 1099511627774, 2199023255550, 4398046511102, 8796093022206, 17592186044414, 35184372088830, 70368744177662, 140737488355326, 8796093022206, 290271069732862, 1125899906842622, 2251799813685246, 4503599627370495] [] [] rfl rfl rfl qn en ?_
                      intro _
                      refine ex_sub (E' := [(3, pt b6 0)]) ⟨rfl, trivial⟩ ?_
                      refine x_seq ?_
                      refine c_seq ?_
                      refine c_reg ?_
                      refine r_u (o_mv rfl) ?_
                      refine r_u (o_as rfl) ?_
                      refine r_nil ?_
                      refine x_seq ?_
                      refine c_ret ?_
                      refine ex_st (fun _ h => mv10 (mv10 (mv10 h))) ?_
                      refine ex_st (fun _ h => st_some (f := sketch_Sketch.op g21) (a := x22) (st_star_f (A := sketch_Sketch.fl b23 x22 g21) h)) ?_
                      refine ex_st (fun _ h => mv6 (mv6 (mv6 (mv6 (mv6 h))))) ?_
                      refine ex_st (fun _ h => st_some (f := ring_Rings.op g42) (a := x44) (st_star_f (A := ring_Rings.fl b45 x44 g42) h)) ?_
                      refine ex_st (fun _ h => mv4 (mv1 h)) ?_
                      refine ex_st (fun _ h => st_some (f := tiny_Tiny.op (⟨(pt b23 0, g21), (pt b45 0, g42)⟩ : tiny_Tiny.G)) (a := (⟨i64 (ra2.1.toNat : Int), (some x22), (some x44)⟩ : tiny_Tiny)) (st_star_f (A := tiny_Tiny.fl b6 (⟨i64 (ra2.1.toNat : Int), (some x22), (some x44)⟩ : tiny_Tiny) (⟨(pt b23 0, g21), (pt b45 0, g42)⟩ : tiny_Tiny.G)) h)) ?_
                      obtain rfl := Option.some.inj hm89
                      refine ex_st (fun _ h => st_pk 3 [0, 1] (by decide) h) ?_
                      exact x_r1 rfl (rv_t rfl) (Le.refl _) (.inl ⟨_, rfl, _, rfl, (pt b6 0, (⟨(pt b23 0, g21), (pt b45 0, g42)⟩ : tiny_Tiny.G)), rfl, rfl, rfl⟩)
                    · have hm89 := sm_r hm85
                      clear hm85
                      refine c_any mixed (effs := [52]) (V := []) ?_
                      refine stage_st (fun _ h => mv7 h) ?_
                      refine stage_ext [(0, pt b0_ 0), (1, pt b6 0), (2, pt b6 0), (3, pt b6 2), (4, pt b45 0), (5, vI (ring_Rings_Lists x44)), (6, vB ((ring_Rings_Lists x44) == 3)), (7, vB ((ring_Rings_Lists x44) == 3)), (8, pt b6 0), (9, pt b6 0), (10, pt b6 2), (11, pt b45 0), (12, vI (ring_Rings_Free x44)), (13, pt b6 0), (14, vI r54), (15, vI (i64 ((ring_Rings_Free x44) + r54))), (16, pt b6 0), (17, pt b6 0), (18, pt b6 0), (19, vI (i64 (ra2.1.toNat : Int))), (20, vI (i64 ((i64 (ra2.1.toNat : Int)) + 1))), (21, vB ((i64 ((ring_Rings_Free x44) + r54)) == (i64 ((i64 (ra2.1.toNat : Int)) + 1)))), (22, vB ((i64 ((ring_Rings_Free x44) + r54)) == (i64 ((i64 (ra2.1.toNat : Int)) + 1)))), (23, vB ((i64 ((ring_Rings_Free x44) + r54)) == (i64 ((i64 (ra2.1.toNat : Int)) + 1)))), (24, undef), (25, undef), (26, undef), (27, undef), (28, undef), (29, undef), (30, undef), (31, vB false), (32, vB false), (33, undef), (34, undef), (35, undef), (36, undef), (37, undef), (38, undef), (39, undef), (40, undef), (41, vB false), (42, vB false), (43, undef), (44, undef), (45, undef), (46, undef), (47, undef), (48, undef), (49, undef), (50, undef), (51, vB false)] rfl ?_
                      refine stage rfl rfl rfl rfl [0, 0, 2, 6, 14, 30, 62, 126, 254, 510, 1022, 2046, 4094, 254, 16382, 32766, 254, 65790, 196862, 459006, 983294, 2097150, 4194302, 8388606, 16777214, 33554430, 16777214, 83886078, 218103806, 486539262, 1073741822, 2147483646, 4294967294, 8589934590, 17179869182, 34359738366, 68719476734, 137438953470, 8589934590, 283467841534, 1099511627774, 2199023255550, 4398046511102, 8796093022206, 17592186044414, 35184372088830, 70368744177662, 140737488355326, 8796093022206, 290271069732862, 1125899906842622, 2251799813685246, 4503599627370495] [0, 1, 2, 3, 4, 5, 6, 7, 8, 9, 10, 11, 12, 13, 14, 15, 16, 17, 18, 19, 20, 21, 22, 23, 24, 25, 26, 27, 28, 29, 30, 31, 32, 33, 34, 35, 36, 37, 38, 39, 40, 41, 42, 43, 44, 45, 46, 47, 48, 49, 50, 51] [52] rfl rfl rfl (qc rfl rfl (s_u (o_mv rfl)) (qc rfl rfl (s_u (o_mv rfl)) (qc rfl rfl (s_u (o_nc rfl)) (qc rfl rfl (s_u (o_fa fa57_2 rfl)) (qc rfl rfl (s_u (o_ld 7 sc53 rfl rfl rfl)) (qc rfl rfl (s_u (o_callqP ca87 rfl (ring_Rings_Lists.ok b45 x44 g42 _ rfl) (fun _ h => st_pk 11 [1, 2, 3, 4, 5, 0, 6, 7, 8, 9, 10] (by decide) h) (fun _ h => st_pk 11 [5, 0, 1, 2, 3, 4, 6, 7, 8, 9, 10] (by decide) h))) (qc rfl rfl (s_u (o_bin rfl rfl (bI_eq (ring_Rings_Lists x44) 3))) (qc rfl rfl (s_u (o_mv rfl)) (qc rfl rfl (s_y rfl rfl h52 (o_mv rfl)) (qc rfl rfl (s_y rfl rfl h52 (o_nc rfl)) (qc rfl rfl (s_y rfl rfl h52 (o_fa fa57_2 rfl)) (qc rfl rfl (s_y rfl rfl h52 (o_ld 7 sc53 rfl rfl rfl)) (qc rfl rfl (s_y rfl rfl h52 (o_callqP ca88 rfl (ring_Rings_Free.ok b45 x44 g42 _ rfl) (fun _ h => st_pk 11 [1, 2, 3, 4, 5, 0, 6, 7, 8, 9, 10] (by decide) h) (fun _ h => st_pk 11 [5, 0, 1, 2, 3, 4, 6, 7, 8, 9, 10] (by decide) h))) (qc rfl rfl (s_y rfl rfl h52 (o_mv rfl)) (qc rfl rfl (s_y rfl rfl h52 (o_callqP ca24 rfl (tiny_Tiny_Len.ok b6 (⟨i64 (ra2.1.toNat : Int), (some x22), (some x44)⟩ : tiny_Tiny) (⟨(pt b23 0, g21), (pt b45 0, g42)⟩ : tiny_Tiny.G) r54 hr54) (fun _ h => mv4 (mv1 (st_some (f := ring_Rings.op g42) (a := x44) (st_star_f (A := ring_Rings.fl b45 x44 g42) (mv6 (mv6 (mv6 (mv6 (mv6 (st_some (f := sketch_Sketch.op g21) (a := x22) (st_star_f (A := sketch_Sketch.fl b23 x22 g21) (mv10 (mv10 (mv10 h)))))))))))))) (fun _ h => st_pk 11 [9, 0, 1, 2, 3, 4, 10, 8, 5, 6, 7] (by decide) (st_star_o (st_some_o (mv4 (st_star_o (st_some_o (mv1 h))))))))) (qc rfl rfl (s_y rfl rfl h52 (o_bin rfl rfl (bI_add (ring_Rings_Free x44) r54))) (qc rfl rfl (s_y rfl rfl h52 (o_mv rfl)) (qc rfl rfl (s_y rfl rfl h52 (o_nc rfl)) (qc rfl rfl (s_y rfl rfl h52 (o_fa fa57_0 rfl)) (qc rfl rfl (s_y rfl rfl h52 (o_ld 7 sc3 rfl rfl rfl)) (qc rfl rfl (s_y rfl rfl h52 (o_bin rfl rfl (bI_add (i64 (ra2.1.toNat : Int)) 1))) (qc rfl rfl (s_y rfl rfl h52 (o_bin rfl rfl (bI_eq (i64 ((ring_Rings_Free x44) + r54)) (i64 ((i64 (ra2.1.toNat : Int)) + 1))))) (qc rfl rfl (s_u (o_pt rfl h52 rfl)) (qc rfl rfl (s_u (o_mv rfl)) (qc rfl rfl (s_n rfl rfl h56) (qc rfl rfl (s_n rfl rfl h56) (qc rfl rfl (s_n rfl rfl h56) (qc rfl rfl (s_n rfl rfl h56) (qc rfl rfl (s_n rfl rfl h56) (qc rfl rfl (s_n rfl rfl h56) (qc rfl rfl (s_n rfl rfl h56) (qc rfl rfl (s_u (o_pf rfl h56 rfl)) (qc rfl rfl (s_u (o_mv rfl)) (qc rfl rfl (s_n rfl rfl rfl) (qc rfl rfl (s_n rfl rfl rfl) (qc rfl rfl (s_n rfl rfl rfl) (qc rfl rfl (s_n rfl rfl rfl) (qc rfl rfl (s_n rfl rfl rfl) (qc rfl rfl (s_n rfl rfl rfl) (qc rfl rfl (s_n rfl rfl rfl) (qc rfl rfl (s_n rfl rfl rfl) (qc rfl rfl (s_u (o_pf rfl rfl rfl)) (qc rfl rfl (s_u (o_mv rfl)) (qc rfl rfl (s_n rfl rfl rfl) (qc rfl rfl (s_n rfl rfl rfl) (qc rfl rfl (s_n rfl rfl rfl) (qc rfl rfl (s_n rfl rfl rfl) (qc rfl rfl (s_n rfl rfl rfl) (qc rfl rfl (s_n rfl rfl rfl) (qc rfl rfl (s_n rfl rfl rfl) (qc rfl rfl (s_n rfl rfl rfl) (qc rfl rfl (s_u (o_pf rfl rfl rfl)) qn)))))))))))))))))))))))))))))))))))))))))))))))))))) ?_ (fun h => absurd h (by decide))
                      obtain rfl := Option.some.inj hm89
                      exact ec (eo_w rfl (s_w (o_callR ca83 rfl (wire_Reader_Must.ok b0_ ra36.2 false (Sum.inr (rn87, ro88)) hr84) (by rintro _ _ _ ⟨rfl, rfl⟩; exact (px_st (fun _ h => st_pk 11 [0] (by decide) h) (px_of (Le.refl _) (.inr ⟨_, rfl, _, rfl, rfl, rfl⟩)))))) (fun _ _ _ _ h => h.elim)) en
                · have hm53 := iff_ hm47 h52
                  clear hm47
                  obtain ⟨r90, hr90, hm91⟩ := ltx hm53
                  clear hm53
                  rcases r90 with ra92 | ⟨rn93, ro94⟩
                  · have hm95 := sm_l hm91
                    clear hm91
                    refine c_any mixed (effs := [52]) (V := []) ?_
                    refine stage_st (fun _ h => mv7 h) ?_
                    refine stage_ext [(0, pt b0_ 0), (1, pt b6 0), (2, pt b6 0), (3, pt b6 2), (4, pt b45 0), (5, vI (ring_Rings_Lists x44)), (6, vB ((ring_Rings_Lists x44) == 3)), (7, vB ((ring_Rings_Lists x44) == 3)), (8, undef), (9, undef), (10, undef), (11, undef), (12, undef), (13, undef), (14, undef), (15, undef), (16, undef), (17, undef), (18, undef), (19, undef), (20, undef), (21, undef), (22, vB false), (23, vB false), (24, undef), (25, undef), (26, undef), (27, undef), (28, undef), (29, undef), (30, undef), (31, vB false), (32, vB false), (33, undef), (34, undef), (35, undef), (36, undef), (37, undef), (38, undef), (39, undef), (40, undef), (41, vB false), (42, vB false), (43, undef), (44, undef), (45, undef), (46, undef), (47, undef), (48, undef), (49, undef), (50, undef), (51, vB false)] rfl ?_
                    refine stage rfl rfl rfl rfl [0, 0, 2, 6, 14, 30, 62, 126, 254, 510, 1022, 2046, 4094, 254, 16382, 32766, 254, 65790, 196862, 459006, 983294, 2097150, 4194302, 8388606, 16777214, 33554430, 16777214, 83886078, 218103806, 486539262, 1073741822, 2147483646, 4294967294, 8589934590, 17179869182, 34359738366, 68719476734, 137438953470, 8589934590, 283467841534, 1099511627774, 2199023255550, 4398046511102, 8796093022206, 17592186044414, 35184372088830, 70368744177662, 140737488355326, 8796093022206, 290271069732862, 1125899906842622, 2251799813685246, 4503599627370495] [0, 1, 2, 3, 4, 5, 6, 7, 8, 9, 10, 11, 12, 13, 14, 15, 16, 17, 18, 19, 20, 21, 22, 23, 24, 25, 26, 27, 28, 29, 30, 31, 32, 33, 34, 35, 36, 37, 38, 39, 40, 41, 42, 43, 44, 45, 46, 47, 48, 49, 50, 51] [52] rfl rfl rfl (qc rfl rfl (s_u (o_mv rfl)) (qc rfl rfl (s_u (o_mv rfl)) (qc rfl rfl (s_u (o_nc rfl)) (qc rfl rfl (s_u (o_fa fa57_2 rfl)) (qc rfl rfl (s_u (o_ld 7 sc53 rfl rfl rfl)) (qc rfl rfl (s_u (o_callqP ca87 rfl (ring_Rings_Lists.ok b45 x44 g42 _ rfl) (fun _ h => st_pk 11 [1, 2, 3, 4, 5, 0, 6, 7, 8, 9, 10] (by decide) h) (fun _ h => st_pk 11 [5, 0, 1, 2, 3, 4, 6, 7, 8, 9, 10] (by decide) h))) (qc rfl rfl (s_u (o_bin rfl rfl (bI_eq (ring_Rings_Lists x44) 3))) (qc rfl rfl (s_u (o_mv rfl)) (qc rfl rfl (s_n rfl rfl h52) (qc rfl rfl (s_n rfl rfl h52) (qc rfl rfl (s_n rfl rfl h52) (qc rfl rfl (s_n rfl rfl h52) (qc rfl rfl (s_n rfl rfl h52) (qc rfl rfl (s_n rfl rfl h52) (qc rfl rfl (s_n rfl rfl h52) (qc rfl rfl (s_n rfl rfl h52) (qc rfl rfl (s_n rfl rfl h52) (qc rfl rfl (s_n rfl rfl h52) (qc rfl rfl (s_n rfl rfl h52) (qc rfl rfl (s_n rfl rfl h52) (qc rfl rfl (s_n rfl rfl h52) (qc rfl rfl (s_n rfl rfl h52) (qc rfl rfl (s_u (o_pf rfl h52 rfl)) (qc rfl rfl (s_u (o_mv rfl)) (qc rfl rfl (s_n rfl rfl rfl) (qc rfl rfl (s_n rfl rfl rfl) (qc rfl rfl (s_n rfl rfl rfl) (qc rfl rfl (s_n rfl rfl rfl) (qc rfl rfl (s_n rfl rfl rfl) (qc rfl rfl (s_n rfl rfl rfl) (qc rfl rfl (s_n rfl rfl rfl) (qc rfl rfl (s_u (o_pf rfl rfl rfl)) (qc rfl rfl (s_u (o_mv rfl)) (qc rfl rfl (s_n rfl rfl rfl) (qc rfl rfl (s_n rfl rfl rfl) (qc rfl rfl (s_n rfl rfl rfl) (qc rfl rfl (s_n rfl rfl rfl) (qc rfl rfl (s_n rfl rfl rfl) (qc rfl rfl (s_n rfl rfl rfl) (qc rfl rfl (s_n rfl rfl rfl) (qc rfl rfl (s_n rfl rfl rfl) (qc rfl rfl (s_u (o_pf rfl rfl rfl)) (qc rfl rfl (s_u (o_mv rfl)) (qc rfl rfl (s_n rfl rfl rfl) (qc rfl rfl (s_n rfl rfl rfl) (qc rfl rfl (s_n rfl rfl rfl) (qc rfl rfl (s_n rfl rfl rfl) (qc rfl rfl (s_n rfl rfl rfl) (qc rfl rfl (s_n rfl rfl rfl) (qc rfl rfl (s_n rfl rfl rfl) (qc rfl rfl (s_n rfl rfl rfl) (qc rfl rfl (s_u (o_pf rfl rfl rfl)) qn)))))))))))))))))))))))))))))))))))))))))))))))))))) ?_ (fun h => absurd h (by decide))
                    refine ec (eo_c rfl (s_w (o_callL ca83 rfl (wire_Reader_Must.ok b0_ ra36.2 false (Sum.inl ra92) hr90) (fun _ _ _ h => h))) ?_) en
                    refine stage rfl rfl rfl rfl [0, 0, 2, 6, 14, 30, 62, 126, 254, 510, 1022, 2046, 4094, 254, 16382, 32766, 254, 65790, 196862, 459006, 983294, 2097150, 4194302, 8388606, 16777214, 33554430, 16777214, 83886078, 218103806, 486539262, 1073741822, 2147483646, 4294967294, 8589934590, 17179869182, 34359738366, 68719476734, 137438953470, 8589934590, 283467841534, 1099511627774, 2199023255550, 4398046511102, 8796093022206, 17592186044414, 35184372088830, 70368744177662, 140737488355326, 8796093022206, 290271069732862, 1125899906842622, 2251799813685246, 4503599627370495] [] [] rfl rfl rfl qn en ?_
                    intro _
                    refine ex_sub (E' := [(3, pt b6 0)]) ⟨rfl, trivial⟩ ?_
                    refine x_seq ?_
                    refine c_seq ?_
                    refine c_reg ?_
                    refine r_u (o_mv rfl) ?_
                    refine r_u (o_as rfl) ?_
                    refine r_nil ?_
                    refine x_seq ?_
                    refine c_ret ?_
                    refine ex_st (fun _ h => mv10 (mv10 (mv10 h))) ?_
                    refine ex_st (fun _ h => st_some (f := sketch_Sketch.op g21) (a := x22) (st_star_f (A := sketch_Sketch.fl b23 x22 g21) h)) ?_
                    refine ex_st (fun _ h => mv6 (mv6 (mv6 (mv6 (mv6 h))))) ?_
                    refine ex_st (fun _ h => st_some (f := ring_Rings.op g42) (a := x44) (st_star_f (A := ring_Rings.fl b45 x44 g42) h)) ?_
                    refine ex_st (fun _ h => mv4 (mv1 h)) ?_
                    refine ex_st (fun _ h => st_some (f := tiny_Tiny.op (⟨(pt b23 0, g21), (pt b45 0, g42)⟩ : tiny_Tiny.G)) (a := (⟨i64 (ra2.1.toNat : Int), (some x22), (some x44)⟩ : tiny_Tiny)) (st_star_f (A := tiny_Tiny.fl b6 (⟨i64 (ra2.1.toNat : Int), (some x22), (some x44)⟩ : tiny_Tiny) (⟨(pt b23 0, g21), (pt b45 0, g42)⟩ : tiny_Tiny.G)) h)) ?_
                    obtain rfl := Option.some.inj hm95
                    refine ex_st (fun _ h => st_pk 3 [0, 1] (by decide) h) ?_
                    exact x_r1 rfl (rv_t rfl) (Le.refl _) (.inl ⟨_, rfl, _, rfl, (pt b6 0, (⟨(pt b23 0, g21), (pt b45 0, g42)⟩ : tiny_Tiny.G)), rfl, rfl, rfl⟩)
                  · have hm95 := sm_r hm91
                    clear hm91
                    refine c_any mixed (effs := [52]) (V := []) ?_
                    refine stage_st (fun _ h => mv7 h) ?_
                    refine stage_ext [(0, pt b0_ 0), (1, pt b6 0), (2, pt b6 0), (3, pt b6 2), (4, pt b45 0), (5, vI (ring_Rings_Lists x44)), (6, vB ((ring_Rings_Lists x44) == 3)), (7, vB ((ring_Rings_Lists x44) == 3)), (8, undef), (9, undef), (10, undef), (11, undef), (12, undef), (13, undef), (14, undef), (15, undef), (16, undef), (17, undef), (18, undef), (19, undef), (20, undef), (21, undef), (22, vB false), (23, vB false), (24, undef), (25, undef), (26, undef), (27, undef), (28, undef), (29, undef), (30, undef), (31, vB false), (32, vB false), (33, undef), (34, undef), (35, undef), (36, undef), (37, undef), (38, undef), (39, undef), (40, undef), (41, vB false), (42, vB false), (43, undef), (44, undef), (45, undef), (46, undef), (47, undef), (48, undef), (49, undef), (50, undef), (51, vB false)] rfl ?_
                    refine stage rfl rfl rfl rfl [0, 0, 2, 6, 14, 30, 62, 126, 254, 510, 1022, 2046, 4094, 254, 16382, 32766, 254, 65790, 196862, 459006, 983294, 2097150, 4194302, 8388606, 16777214, 33554430, 16777214, 83886078, 218103806, 486539262, 1073741822, 2147483646, 4294967294, 8589934590, 17179869182, 34359738366, 68719476734, 137438953470, 8589934590, 283467841534, 1099511627774, 2199023255550, 4398046511102, 8796093022206, 17592186044414, 35184372088830, 70368744177662, 140737488355326, 8796093022206, 290271069732862, 1125899906842622, 2251799813685246, 4503599627370495] [0, 1, 2, 3, 4, 5, 6, 7, 8, 9, 10, 11, 12, 13, 14, 15, 16, 17, 18, 19, 20, 21, 22, 23, 24, 25, 26, 27, 28, 29, 30, 31, 32, 33, 34, 35, 36, 37, 38, 39, 40, 41, 42, 43, 44, 45, 46, 47, 48, 49, 50, 51] [52] rfl rfl rfl (qc rfl rfl (s_u (o_mv rfl)) (qc rfl rfl (s_u (o_mv rfl)) (qc rfl rfl (s_u (o_nc rfl)) (qc rfl rfl (s_u (o_fa fa57_2 rfl)) (qc rfl rfl (s_u (o_ld 7 sc53 rfl rfl rfl)) (qc rfl rfl (s_u (o_callqP ca87 rfl (ring_Rings_Lists.ok b45 x44 g42 _ rfl) (fun _ h => st_pk 11 [1, 2, 3, 4, 5, 0, 6, 7, 8, 9, 10] (by decide) h) (fun _ h => st_pk 11 [5, 0, 1, 2, 3, 4, 6, 7, 8, 9, 10] (by decide) h))) (qc rfl rfl (s_u (o_bin rfl rfl (bI_eq (ring_Rings_Lists x44) 3))) (qc rfl rfl (s_u (o_mv rfl)) (qc rfl rfl (s_n rfl rfl h52) (qc rfl rfl (s_n rfl rfl h52) (qc rfl rfl (s_n rfl rfl h52) (qc rfl rfl (s_n rfl rfl h52) (qc rfl rfl (s_n rfl rfl h52) (qc rfl rfl (s_n rfl rfl h52) (qc rfl rfl (s_n rfl rfl h52) (qc rfl rfl (s_n rfl rfl h52) (qc rfl rfl (s_n rfl rfl h52) (qc rfl rfl (s_n rfl rfl h52) (qc rfl rfl (s_n rfl rfl h52) (qc rfl rfl (s_n rfl rfl h52) (qc rfl rfl (s_n rfl rfl h52) (qc rfl rfl (s_n rfl rfl h52) (qc rfl rfl (s_u (o_pf rfl h52 rfl)) (qc rfl rfl (s_u (o_mv rfl)) (qc rfl rfl (s_n rfl rfl rfl) (qc rfl rfl (s_n rfl rfl rfl) (qc rfl rfl (s_n rfl rfl rfl) (qc rfl rfl (s_n rfl rfl rfl) (qc rfl rfl (s_n rfl rfl rfl) (qc rfl rfl (s_n rfl rfl rfl) (qc rfl rfl (s_n rfl rfl rfl) (qc rfl rfl (s_u (o_pf rfl rfl rfl)) (qc rfl rfl (s_u (o_mv rfl)) (qc rfl rfl (s_n rfl rfl rfl) (qc rfl rfl (s_n rfl rfl rfl) (qc rfl rfl (s_n rfl rfl rfl) (qc rfl rfl (s_n rfl rfl rfl) (qc rfl rfl (s_n rfl rfl rfl) (qc rfl rfl (s_n rfl rfl rfl) (qc rfl rfl (s_n rfl rfl rfl) (qc rfl rfl (s_n rfl rfl rfl) (qc rfl rfl (s_u (o_pf rfl rfl rfl)) (qc rfl rfl (s_u (o_mv rfl)) (qc rfl rfl (s_n rfl rfl rfl) (qc rfl rfl (s_n rfl rfl rfl) (qc rfl rfl (s_n rfl rfl rfl) (qc rfl rfl (s_n rfl rfl rfl) (qc rfl rfl (s_n rfl rfl rfl) (qc rfl rfl (s_n rfl rfl rfl) (qc rfl rfl (s_n rfl rfl rfl) (qc rfl rfl (s_n rfl rfl rfl) (qc rfl rfl (s_u (o_pf rfl rfl rfl)) qn)))))))))))))))))))))))))))))))))))))))))))))))))))) ?_ (fun h => absurd h (by decide))
                    obtain rfl := Option.some.inj hm95
                    exact ec (eo_w rfl (s_w (o_callR ca83 rfl (wire_Reader_Must.ok b0_ ra36.2 false (Sum.inr (rn93, ro94)) hr90) (by rintro _ _ _ ⟨rfl, rfl⟩; exact (px_st (fun _ h => st_pk 11 [0] (by decide) h) (px_of (Le.refl _) (.inr ⟨_, rfl, _, rfl, rfl, rfl⟩)))))) (fun _ _ _ _ h => h.elim)) en
            · have hm39 := sm_r hm35
              clear hm35
              refine c_reg ?_
              refine r_u (o_mv rfl) ?_
              refine r_u (o_mv rfl) ?_
              obtain rfl := Option.some.inj hm39
              exact r_sw (s_w (o_callR ca86 rfl (ring_Take.ok b0_ ra15.2 (Sum.inr (rn37, ro38)) hr34) (by rintro _ _ _ ⟨rfl, rfl⟩; exact (px_st (fun _ h => st_pk 5 [0] (by decide) h) (px_of (Le.refl _) (.inr ⟨_, rfl, _, rfl, rfl, rfl⟩)))))) (fun _ _ _ _ h => h.elim)
          · have hm33 := sm_r hm29
            clear hm29
            refine c_any mixed (effs := [12]) (V := []) ?_
            refine stage_st (fun _ h => mv4 h) ?_
            refine stage_ext [(0, pt b0_ 0), (1, pt b6 0), (2, pt b6 0), (3, pt b6 1), (4, pt b23 0), (5, vI (sketch_Sketch_Wide x22)), (6, pt b6 0), (7, pt b6 0), (8, pt b6 0), (9, vI (i64 (ra2.1.toNat : Int))), (10, vI (tiny_wide (i64 (ra2.1.toNat : Int)))), (11, vB ((sketch_Sketch_Wide x22) == (tiny_wide (i64 (ra2.1.toNat : Int)))))] rfl ?_
            refine stage rfl rfl rfl rfl [0, 0, 2, 6, 14, 30, 0, 64, 192, 448, 1022, 2046, 4095] [0, 1, 2, 3, 4, 5, 6, 7, 8, 9, 10, 11] [12] rfl rfl rfl (qc rfl rfl (s_u (o_mv rfl)) (qc rfl rfl (s_u (o_mv rfl)) (qc rfl rfl (s_u (o_nc rfl)) (qc rfl rfl (s_u (o_fa fa57_1 rfl)) (qc rfl rfl (s_u (o_ld 4 sc49 rfl rfl rfl)) (qc rfl rfl (s_u (o_callqP ca85 rfl (sketch_Sketch_Wide.ok b23 x22 g21 _ rfl) (fun _ h => st_pk 5 [1, 2, 3, 0, 4] (by decide) h) (fun _ h => st_pk 5 [3, 0, 1, 2, 4] (by decide) h))) (qc rfl rfl (s_u (o_mv rfl)) (qc rfl rfl (s_u (o_nc rfl)) (qc rfl rfl (s_u (o_fa fa57_0 rfl)) (qc rfl rfl (s_u (o_ld 4 sc3 rfl rfl rfl)) (qc rfl rfl (s_u (o_callq ca17 rfl (tiny_wide.ok (i64 (ra2.1.toNat : Int)) _ rfl))) (qc rfl rfl (s_u (o_bin rfl rfl (bI_eq (sketch_Sketch_Wide x22) (tiny_wide (i64 (ra2.1.toNat : Int)))))) qn)))))))))))) ?_ (fun h => absurd h (by decide))
            obtain rfl := Option.some.inj hm33
            exact ec (eo_w rfl (s_w (o_callR ca83 rfl (wire_Reader_Must.ok b0_ ra15.2 ((sketch_Sketch_Wide x22) == (tiny_wide (i64 (ra2.1.toNat : Int)))) (Sum.inr (rn31, ro32)) hr28) (by rintro _ _ _ ⟨rfl, rfl⟩; exact (px_st (fun _ h => st_pk 5 [0] (by decide) h) (px_of (Le.refl _) (.inr ⟨_, rfl, _, rfl, rfl, rfl⟩)))))) (fun _ _ _ _ h => h.elim)) en
      · have hm18 := sm_r hm14
        clear hm14
        refine c_reg ?_
        refine r_u (o_mv rfl) ?_
        refine r_u (o_mv rfl) ?_
        obtain rfl := Option.some.inj hm18
        exact r_sw (s_w (o_callR ca84 rfl (sketch_Take.ok b0_ ra2.2 (Sum.inr (rn16, ro17)) hr13) (by rintro _ _ _ ⟨rfl, rfl⟩; exact (px_st (fun _ h => st_pk 2 [0] (by decide) h) (px_of (Le.refl _) (.inr ⟨_, rfl, _, rfl, rfl, rfl⟩)))))) (fun _ _ _ _ h => h.elim)
    · have hm12 := sm_r hm8
      clear hm8
      refine c_reg ?_
      refine r_u (o_mv rfl) ?_
      refine r_u (o_mv rfl) ?_
      refine r_u (o_nc rfl) ?_
      refine r_u (o_fa fa57_0 rfl) ?_
      refine r_u (o_ld 0 sc3 rfl rfl rfl) ?_
      refine r_u (o_bin rfl rfl (bI_ge (i64 (ra2.1.toNat : Int)) 1)) ?_
      refine rl_st (fun _ h => mv1 h) ?_
      obtain rfl := Option.some.inj hm12
      exact r_sw (s_w (o_callR ca83 rfl (wire_Reader_Must.ok b0_ ra2.2 (decide (1 ≤ (i64 (ra2.1.toNat : Int)))) (Sum.inr (rn10, ro11)) hr7) (by rintro _ _ _ ⟨rfl, rfl⟩; exact (px_st (fun _ h => st_pk 2 [0] (by decide) h) (px_of (Le.refl _) (.inr ⟨_, rfl, _, rfl, rfl, rfl⟩)))))) (fun _ _ _ _ h => h.elim)
  · have hm5 := sm_r hm1
    clear hm1
    refine c_reg ?_
    refine r_u (o_mv rfl) ?_
    obtain rfl := Option.some.inj hm5
    exact r_sw (s_w (o_callR ca82 rfl (wire_Reader_Num.ok b0_ a0 1000 (Sum.inr (rn3, ro4)) hr0) (by rintro _ _ _ ⟨rfl, rfl⟩; exact (px_st (fun _ h => st_pk 1 [0] (by decide) h) (px_of (Le.refl _) (.inr ⟨_, rfl, _, rfl, rfl, rfl⟩)))))) (fun _ _ _ _ h => h.elim)

def tiny_Import_1 (a0 : wire_Reader) (a1 : Option tiny_Tiny) : Option ((wire_Reader × Option tiny_Tiny) ⊕ (Int × (wire_Reader × Option tiny_Tiny))) :=
  (tiny_Take a0).bind fun r2 => sm r2 (fun (ra4 : Option tiny_Tiny × wire_Reader) => some (Sum.inl (ra4.2, ra4.1))) fun ((rn5, ro6) : Int × wire_Reader) => some (Sum.inr (rn5, (ro6, a1)))
theorem tiny_Import_1.ok {G R F} (b0_ : Nat) (a0 : wire_Reader) (b1_ : Nat) (a1 : Option tiny_Tiny) (g1_ : Value × tiny_Tiny.G) (r : (wire_Reader × Option tiny_Tiny) ⊕ (Int × (wire_Reader × Option tiny_Tiny))) (hm : tiny_Import_1 a0 a1 = some r) : CO Tryz.prog 61 [pt b0_ 0, pt b1_ 0] G R (Bk b0_ 128 (wire_Reader.c a0) :: Bk b1_ 24 [g1_.1] :: rO (tiny_Tiny.op g1_.2) g1_.1 a1 :: F)
    (PK 126 r (fun (a : wire_Reader × Option tiny_Tiny) u R' L' => ∃ (q1 : Value × tiny_Tiny.G), u = .tuple #[] ∧ R' = R ∧ L' = Bk b0_ 128 (wire_Reader.c a.1) :: Bk b1_ 24 [q1.1] :: rO (tiny_Tiny.op q1.2) q1.1 a.2 :: F) (fun n (o : wire_Reader × Option tiny_Tiny) R' L' => ∃ (q1 : Value × tiny_Tiny.G), R' = R ∧ L' = Bk b0_ 128 (wire_Reader.c o.1) :: Bk b1_ 24 [q1.1] :: rO (tiny_Tiny.op q1.2) q1.1 o.2 :: F)) := by
  obtain ⟨pv0, g1⟩ := g1_
  unfold tiny_Import_1 at hm
  refine co_ofN (N := 5) Tryz.func61 rfl rfl ?_
  obtain ⟨r2, hr2, hm3⟩ := bs hm
  clear hm
  rcases r2 with ra4 | ⟨rn5, ro6⟩
  · have hm7 := sm_l hm3
    clear hm3
    refine c_reg ?_
    refine r_u (o_mv rfl) ?_
    refine r_sw (s_w (o_callL ca62 rfl (tiny_Take.ok b0_ a0 (Sum.inl ra4) hr2) (fun _ _ _ h => h))) ?_
    rintro pv9 R _ _ ⟨⟨_, g10⟩, rfl, rfl, rfl⟩
    refine rl_st (fun _ h => mv2 h) ?_
    refine r_u0 (ou_if (one_p 1 rfl) fun ho0 => o_st sc24 rfl rfl rfl ho0 rfl rfl) ?_
    refine r_nil ?_
    refine x_end ?_
    obtain rfl := Option.some.inj hm7
    refine ex_st (fun _ h => st_pk 4 [2, 0, 1] (by decide) h) ?_
    exact x_r0 rfl (Le.refl _) (.inl ⟨_, rfl, _, rfl, (pv9, g10), rfl, rfl, rfl⟩)
  · have hm7 := sm_r hm3
    clear hm3
    refine c_reg ?_
    refine r_u (o_mv rfl) ?_
    obtain rfl := Option.some.inj hm7
    exact r_sw (s_w (o_callR ca62 rfl (tiny_Take.ok b0_ a0 (Sum.inr (rn5, ro6)) hr2) (by rintro _ _ _ ⟨rfl, rfl⟩; exact (px_st (fun _ h => st_pk 3 [0, 1, 2] (by decide) h) (px_of (Le.refl _) (.inr ⟨_, rfl, _, rfl, (pv0, g1), rfl, rfl⟩)))))) (fun _ _ _ _ h => h.elim)

def tiny_Import (a0 : Str) : Option (Option tiny_Tiny × Int) :=
  (tiny_Import_1 (⟨a0⟩ : wire_Reader) none).bind fun r1 => Option.bind (sm r1 (fun (ra12 : wire_Reader × Option tiny_Tiny) => some ((if ra12.1.s == [] then 0 else 5), ra12.2)) fun ((rn13, ro14) : Int × (wire_Reader × Option tiny_Tiny)) => some (rn13, ro14.2)) fun p3 => if (p3.1 != 0) then some (none, p3.1) else some (p3.2, 0)
theorem tiny_Import.ok {G R F} (a0 : Str) (r : Option tiny_Tiny × Int) (hm : tiny_Import a0 = some r) : CO Tryz.prog 32 [vS a0] G R (F)
    (Ret fun u R' L' => ∃ (p0 : Value × tiny_Tiny.G), u = .tuple #[p0.1, vI r.2] ∧ R' = R ∧ L' = rO (tiny_Tiny.op p0.2) p0.1 r.1 :: F) := by
  unfold tiny_Import at hm
  refine co_ofN (N := 13) Tryz.func32 rfl rfl ?_
  refine c_seq ?_
  refine c_reg ?_
  refine r_u (o_as rfl) ?_
  refine r_u (o_as rfl) ?_
  refine r_nil ?_
  refine x_seq ?_
  refine c_seq ?_
  refine c_reg ?_
  refine r_new (o_al ze24) fun b0 => ?_
  refine r_nil ?_
  refine x_seq ?_
  refine c_seq ?_
  refine c_seq ?_
  obtain ⟨r1, hr1, hm2⟩ := bs hm
  clear hm
  obtain ⟨p3, hp7, hm8⟩ := bs hm2
  refine cd_cut (fun x ks => ∀ (pv4 : Value × tiny_Tiny.G), EX x .normal ks [(4, pt b0 0), (5, vI p3.1)] R (Bk b0 24 [pv4.1] :: rO (tiny_Tiny.op pv4.2) pv4.1 p3.2 :: F)) ?_ fun K9 => ?_
  · intro pv4
    obtain ⟨pv5, g6⟩ := pv4
    refine x_seq ?_
    refine c_seq ?_
    refine c_reg ?_
    refine r_u (o_mv rfl) ?_
    refine r_u (o_bin rfl rfl (bI_ne p3.1 0)) ?_
    refine r_nil ?_
    refine x_seq ?_
    refine c_if (b := (p3.1 != 0)) rfl (fun h10 => ?_) fun h10 => ?_
    · have hm11 := ift hm8 h10
      clear hm8
      refine c_seq ?_
      refine c_reg ?_
      refine r_u (o_mv rfl) ?_
      refine r_u (o_as rfl) ?_
      refine r_u (o_as rfl) ?_
      refine r_nil ?_
      refine x_seq ?_
      refine c_ret ?_
      refine ex_st (fun _ h => st_none (f := tiny_Tiny.op default) h) ?_
      obtain rfl := Option.some.inj hm11
      refine ex_st (fun _ h => st_pk 3 [0] (by decide) h) ?_
      exact x_r2 rfl (rv_t rfl) (rv_t rfl) (Le.refl _) ⟨_, rfl, (nl, default), rfl, rfl, rfl⟩
    · have hm11 := iff_ hm8 h10
      clear hm8
      refine c_skip ?_
      refine x_seq ?_
      refine c_seq ?_
      refine c_reg ?_
      refine r_u (o_ld 0 sc24 rfl rfl rfl) ?_
      refine r_u (o_as rfl) ?_
      refine r_u (o_as rfl) ?_
      refine r_nil ?_
      refine x_seq ?_
      refine c_ret ?_
      obtain rfl := Option.some.inj hm11
      refine ex_st (fun _ h => st_pk 2 [1] (by decide) h) ?_
      exact x_r2 rfl (rv_t rfl) (rv_t rfl) (Le.refl _) ⟨_, rfl, (pv5, g6), rfl, rfl, rfl⟩
  · rcases r1 with ra12 | ⟨rn13, ro14⟩
    · have hm15 := sm_l hp7
      clear hp7
      refine c_reg ?_
      refine r_u (o_mv rfl) ?_
      refine r_u (o_mf rfl) ?_
      refine rl_st (fun _ h => st_none (f := tiny_Tiny.op default) h) ?_
      refine rl_st (fun _ h => mv1 h) ?_
      refine r_c (s_w (o_call ca60 rfl (wire_Read.okL (A := [Bk b0 24 [nl], rO (tiny_Tiny.op default) nl none]) (M := [exP (fun (g : Value × tiny_Tiny.G) => [Bk b0 24 [g.1], rO (tiny_Tiny.op g.2) g.1 ra12.2])]) (s' := ra12.1.s) ca61 (fun b F => co_lx (tiny_Import_1.ok b (⟨a0⟩ : wire_Reader) b0 none (nl, default) (Sum.inl ra12) hr1) (fun _ _ _ _ ⟨q0, hu, hR, hL⟩ hs => by subst hL; exact ⟨_, ⟨hu, hR, rfl⟩, (st_pk 2 [1, 0] (by decide) (st_exP_f (f := fun (g : Value × tiny_Tiny.G) => [Bk b0 24 [g.1], rO (tiny_Tiny.op g.2) g.1 ra12.2]) q0 (st_pk 3 [1, 2, 0] (by decide) hs)))⟩))))) ?_
      refine rl_ex (fun w h => st_exP_o w h) fun g16 _ => ?_
      obtain ⟨pv17, g18⟩ := g16
      refine r_u (o_as rfl) ?_
      refine r_nil ?_
      obtain rfl := Option.some.inj hm15
      exact x_sub (K9 (pv17, g18)) ⟨rfl, rfl, trivial⟩ (fun _ h => st_pk 2 [0, 1] (by decide) h)
    · have hm15 := sm_r hp7
      clear hp7
      refine c_reg ?_
      refine r_u (o_mv rfl) ?_
      refine r_u (o_mf rfl) ?_
      refine rl_st (fun _ h => st_none (f := tiny_Tiny.op default) h) ?_
      refine rl_st (fun _ h => mv1 h) ?_
      refine r_c (s_w (o_call ca60 rfl (wire_Read.okR (A := [Bk b0 24 [nl], rO (tiny_Tiny.op default) nl none]) (M := [exP (fun (g : Value × tiny_Tiny.G) => [Bk b0 24 [g.1], rO (tiny_Tiny.op g.2) g.1 ro14.2])]) (cs := [vS ro14.1.s]) ca61 (fun b F => co_rx (tiny_Import_1.ok b (⟨a0⟩ : wire_Reader) b0 none (nl, default) (Sum.inr (rn13, ro14)) hr1) (fun _ _ _ ⟨q0, hR, hL⟩ hs => by subst hL; exact ⟨_, ⟨hR, rfl⟩, (st_pk 2 [1, 0] (by decide) (st_exP_f (f := fun (g : Value × tiny_Tiny.G) => [Bk b0 24 [g.1], rO (tiny_Tiny.op g.2) g.1 ro14.2]) q0 (st_pk 3 [1, 2, 0] (by decide) hs)))⟩))))) ?_
      refine rl_ex (fun w h => st_exP_o w h) fun g19 _ => ?_
      obtain ⟨pv20, g21⟩ := g19
      refine r_u (o_as rfl) ?_
      refine r_nil ?_
      obtain rfl := Option.some.inj hm15
      exact x_sub (K9 (pv20, g21)) ⟨rfl, rfl, trivial⟩ (fun _ h => st_pk 2 [0, 1] (by decide) h)

def hawthornref03_Num_l0  : Nat → UInt64 → Str → Option (UInt64 × Str)
  | 0, _, _ => none
  | k9 + 1, n_7, s_8 => if decide (127 < n_7) then if s_8.length + [(128 + (n_7 % 128)).toUInt8].length ≤ maxS then hawthornref03_Num_l0 k9 (n_7 / 128) (s_8 ++ [(128 + (n_7 % 128)).toUInt8]) else none else some (n_7, s_8)
def hawthornref03_Num (a0 : UInt64) : Option Str :=
  Option.bind (hawthornref03_Num_l0 11 a0 []) fun p0 => if p0.2.length + [p0.1.toUInt8].length ≤ maxS then some (p0.2 ++ [p0.1.toUInt8]) else none
theorem hawthornref03_Num.ok {G R F} (a0 : UInt64) (r : Str) (hm : hawthornref03_Num a0 = some r) : CO Tryz.prog 45 [vW a0] G R (F)
    (Ret fun u R' L' => u = vS r ∧ R' = R ∧ L' = F) := by
  unfold hawthornref03_Num at hm
  refine co_ofN (N := 22) Tryz.func45 rfl rfl ?_
  refine c_seq ?_
  refine c_reg ?_
  refine r_u (o_as rfl) ?_
  refine r_nil ?_
  refine x_seq ?_
  refine c_seq ?_
  refine c_reg ?_
  refine r_u (o_as rfl) ?_
  refine r_nil ?_
  refine x_seq ?_
  refine c_seq ?_
  obtain ⟨p0, hp1, hm2⟩ := bs hm
  refine cd_join (E' := [(0, vW p0.1), (3, vS p0.2)]) (L' := F) ?_ fun K3 => ?_
  · refine x_seq ?_
    refine c_seq ?_
    refine c_reg ?_
    refine r_u (o_mv rfl) ?_
    refine r_u (o_mv rfl) ?_
    refine r_u (o_cv rfl (cWY Tryz.underlying22 Tryz.underlying5 p0.1)) ?_
    refine r_sw (s_w (o_bsl (en := eY) (sz := 1) (e := 5) (cs := [vY p0.1.toUInt8]) (r := [p0.1.toUInt8]) rfl (fun _ => by kernel_rfl) rfl (by decide) rfl (fun _ => rfl))) ?_
    rintro v4 R _ _ ⟨rfl, rfl⟩
    refine r_u (o_bs 0 Tryz.underlying81 Tryz.underlying5 Tryz.underlying9 rfl rfl) ?_
    obtain ⟨h5, hm6⟩ := ig hm2
    clear hm2
    refine r_u (o_bin rfl rfl (bS_add p0.2 [p0.1.toUInt8] h5)) ?_
    refine r_u (o_as rfl) ?_
    refine r_nil ?_
    refine x_seq ?_
    refine c_ret ?_
    obtain rfl := Option.some.inj hm6
    refine ex_st (fun _ h => st_pk 1 [] (by decide) h) ?_
    exact x_r1 rfl (rv_t rfl) (Le.refl _) ⟨_, rfl, rfl, rfl, rfl⟩
  · refine c_blk ?_
    refine cd_loop (M := fun k9 (s : UInt64 × Str) => hawthornref03_Num_l0 k9 s.1 s.2 = some p0) (Ef := fun (s : UInt64 × Str) => [(0, vW s.1), (3, vS s.2)]) (Lf := fun (s : UInt64 × Str) => F) 11 (a0, []) hp1 ⟨rfl, rfl, trivial⟩ (fun _ h => h) (fun _ h => by cases h) fun k9 s hM11 => ?_
    obtain ⟨n_7, s_8⟩ := s
    have hm10 : hawthornref03_Num_l0 (k9 + 1) n_7 s_8 = some p0 := hM11
    rw [hawthornref03_Num_l0] at hm10
    refine c_seq ?_
    refine c_seq ?_
    refine c_reg ?_
    refine r_u (o_mv rfl) ?_
    refine r_u (o_bin rfl rfl (bW_gt n_7 127)) ?_
    refine r_nil ?_
    refine x_seq ?_
    refine c_if (b := decide (127 < n_7)) rfl (fun h12 => ?_) fun h12 => ?_
    · have hm13 := ift hm10 h12
      clear hm10
      refine c_skip ?_
      refine x_seq ?_
      refine c_blk ?_
      refine c_seq ?_
      refine c_reg ?_
      refine r_u (o_mv rfl) ?_
      refine r_u (o_mv rfl) ?_
      refine r_u (o_bin rfl rfl (bW_rem n_7 128 (by decide))) ?_
      refine r_u (o_bin rfl rfl (bW_add 128 (n_7 % 128))) ?_
      refine r_u (o_cv rfl (cWY Tryz.underlying22 Tryz.underlying5 (128 + (n_7 % 128)))) ?_
      refine r_sw (s_w (o_bsl (en := eY) (sz := 1) (e := 5) (cs := [vY ((128 + (n_7 % 128)).toUInt8)]) (r := [(128 + (n_7 % 128)).toUInt8]) rfl (fun _ => by kernel_rfl) rfl (by decide) rfl (fun _ => rfl))) ?_
      rintro v14 R _ _ ⟨rfl, rfl⟩
      refine r_u (o_bs 0 Tryz.underlying81 Tryz.underlying5 Tryz.underlying9 rfl rfl) ?_
      obtain ⟨h15, hm16⟩ := ig hm13
      clear hm13
      refine r_u (o_bin rfl rfl (bS_add s_8 [(128 + (n_7 % 128)).toUInt8] h15)) ?_
      refine r_u (o_as rfl) ?_
      refine r_nil ?_
      refine x_seq ?_
      refine c_reg ?_
      refine r_u (o_mv rfl) ?_
      refine r_u (o_bin rfl rfl (bW_quo n_7 128 (by decide))) ?_
      refine r_u (o_as rfl) ?_
      refine r_nil ?_
      refine x_blk ?_
      exact x_lp (n_7 / 128, s_8 ++ [(128 + (n_7 % 128)).toUInt8]) hm16 ⟨rfl, rfl, trivial⟩ (fun _ h => st_pk 1 [] (by decide) h)
    · have hm13 := iff_ hm10 h12
      clear hm10
      refine c_exit (x_exit (ks' := _) rfl ?_)
      obtain rfl := Option.some.inj hm13
      exact x_sub K3 ⟨rfl, rfl, trivial⟩ (fun _ h => st_pk 0 [] (by decide) h)

def hawthornref03_Flag (a0 : Bool) : Str :=
  if a0 then [1] else [0]
theorem hawthornref03_Flag.ok {G R F} (a0 : Bool) (r : Str) (hm : hawthornref03_Flag a0 = r) : CO Tryz.prog 73 [vB a0] G R (F)
    (Ret fun u R' L' => u = vS r ∧ R' = R ∧ L' = F) := by
  unfold hawthornref03_Flag at hm
  refine co_ofN (N := 4) Tryz.func73 rfl rfl ?_
  refine c_seq ?_
  refine c_reg ?_
  refine r_u (o_as rfl) ?_
  refine r_nil ?_
  refine x_seq ?_
  refine c_seq ?_
  refine c_seq ?_
  refine c_reg ?_
  refine r_u (o_mv rfl) ?_
  refine r_nil ?_
  refine x_seq ?_
  refine c_if (b := a0) rfl (fun h0 => ?_) fun h0 => ?_
  · have hm1 := ift hm h0
    clear hm
    refine c_seq ?_
    refine c_reg ?_
    refine r_u (o_as rfl) ?_
    refine r_nil ?_
    refine x_seq ?_
    refine c_ret ?_
    subst hm1
    exact x_r1 rfl (rv_t rfl) (Le.refl _) ⟨_, rfl, rfl, rfl, rfl⟩
  · have hm1 := iff_ hm h0
    clear hm
    refine c_skip ?_
    refine x_seq ?_
    refine c_seq ?_
    refine c_reg ?_
    refine r_u (o_as rfl) ?_
    refine r_nil ?_
    refine x_seq ?_
    refine c_ret ?_
    subst hm1
    exact x_r1 rfl (rv_t rfl) (Le.refl _) ⟨_, rfl, rfl, rfl, rfl⟩

def hawthornref05_Sketch_Put_l0 (a0 : hawthornref05_Sketch) : Nat → Str → Int → Option (Str)
  | 0, _, _ => none
  | k21 + 1, out_19, k_20 => if decide (k_20 < a0.Wide) then (gi a0.Door k_20).bind fun x26 => if out_19.length + (hawthornref03_Flag x26).length ≤ maxS then hawthornref05_Sketch_Put_l0 a0 k21 (out_19 ++ (hawthornref03_Flag x26)) (i64 (k_20 + 1)) else none else some out_19
def hawthornref05_Sketch_Put_l2 (a0 : hawthornref05_Sketch) (i_31 : Int) : Nat → Str → Int → Option (Str)
  | 0, _, _ => none
  | k47 + 1, out_45, k_46 => if decide (k_46 < a0.Wide) then (gi a0.Rows i_31).bind fun x52 => (gi x52 k_46).bind fun x55 => if out_45.length + [toY x55].length ≤ maxS then hawthornref05_Sketch_Put_l2 a0 i_31 k47 (out_45 ++ [toY x55]) (i64 (k_46 + 1)) else none else some out_45
def hawthornref05_Sketch_Put_l1 (a0 : hawthornref05_Sketch) : Nat → Str → Int → Option (Str)
  | 0, _, _ => none
  | k32 + 1, out_30, i_31 => if decide (i_31 < 4) then Option.bind (Option.bind (hawthornref05_Sketch_Put_l2 a0 i_31 ((a0.Wide - 0).toNat + 1) out_30 0) fun p41 => some p41) fun p37 => hawthornref05_Sketch_Put_l1 a0 k32 p37 (i64 (i_31 + 1)) else some out_30
def hawthornref05_Sketch_Put (a0 : hawthornref05_Sketch) : Option Str :=
  (hawthornref03_Num (toW a0.Wide)).bind fun r1 => (hawthornref03_Num a0.Seed).bind fun r3 => if r1.length + r3.length ≤ maxS then (hawthornref03_Num (toW a0.Added)).bind fun r7 => if (r1 ++ r3).length + r7.length ≤ maxS then Option.bind (hawthornref05_Sketch_Put_l1 a0 5 ((r1 ++ r3) ++ r7) 0) fun p11 => Option.bind (hawthornref05_Sketch_Put_l0 a0 ((a0.Wide - 0).toNat + 1) p11 0) fun p15 => some p15 else none else none
theorem hawthornref05_Sketch_Put.ok {G R F} (a0 : hawthornref05_Sketch) (g0_ : hawthornref05_Sketch.G) (h0 : hawthornref05_Sketch.ro R a0 g0_) (r : Str) (hm : hawthornref05_Sketch_Put a0 = some r) : CO Tryz.prog 46 [.agg [vI a0.Wide, vW a0.Seed, g0_.Rows.1, g0_.Door, vI a0.Added].toArray] G R (F)
    (Ret fun u R' L' => u = vS r ∧ R' = R ∧ L' = F) := by
  unfold hawthornref05_Sketch_Put at hm
  refine co_ofN (N := 58) Tryz.func46 rfl rfl ?_
  refine c_seq ?_
  refine c_reg ?_
  refine r_new (o_bx [vI a0.Wide, vW a0.Seed, g0_.Rows.1, g0_.Door, vI a0.Added] rfl rfl) fun b0 => ?_
  refine r_u (o_as rfl) ?_
  refine r_nil ?_
  refine x_seq ?_
  refine c_seq ?_
  obtain ⟨r1, hr1, hm2⟩ := bs hm
  clear hm
  obtain ⟨r3, hr3, hm4⟩ := bs hm2
  clear hm2
  obtain ⟨h5, hm6⟩ := ig hm4
  clear hm4
  obtain ⟨r7, hr7, hm8⟩ := bs hm6
  clear hm6
  obtain ⟨h9, hm10⟩ := ig hm8
  clear hm8
  refine c_any mixed (effs := []) (V := []) ?_
  refine stage_ext [(0, pt b0 0), (1, vI a0.Wide), (2, vW (toW a0.Wide)), (3, vS r1), (4, pt b0 1), (5, vW a0.Seed), (6, vS r3), (7, vS (r1 ++ r3)), (8, pt b0 4), (9, vI a0.Added), (10, vW (toW a0.Added)), (11, vS r7), (12, vS ((r1 ++ r3) ++ r7)), (13, vS ((r1 ++ r3) ++ r7))] rfl ?_
  refine stage rfl rfl rfl rfl [0, 1, 3, 7, 0, 16, 63, 127, 0, 256, 768, 1919, 4095, 8191] [0, 1, 2, 3, 4, 5, 6, 7, 8, 9, 10, 11, 12, 13] [] rfl rfl rfl (qc rfl rfl (s_u (o_fa fa31_0 rfl)) (qc rfl rfl (s_u (o_ld 0 sc3 rfl rfl rfl)) (qc rfl rfl (s_u (o_cv rfl (cIW Tryz.underlying3 Tryz.underlying22 a0.Wide))) (qc rfl rfl (s_u (o_callq ca45 rfl (hawthornref03_Num.ok (toW a0.Wide) r1 hr1))) (qc rfl rfl (s_u (o_fa fa31_1 rfl)) (qc rfl rfl (s_u (o_ld 0 sc22 rfl rfl rfl)) (qc rfl rfl (s_u (o_callq ca45 rfl (hawthornref03_Num.ok a0.Seed r3 hr3))) (qc rfl rfl (s_u (o_bin rfl rfl (bS_add r1 r3 h5))) (qc rfl rfl (s_u (o_fa fa31_4 rfl)) (qc rfl rfl (s_u (o_ld 0 sc3 rfl rfl rfl)) (qc rfl rfl (s_u (o_cv rfl (cIW Tryz.underlying3 Tryz.underlying22 a0.Added))) (qc rfl rfl (s_u (o_callq ca45 rfl (hawthornref03_Num.ok (toW a0.Added) r7 hr7))) (qc rfl rfl (s_u (o_bin rfl rfl (bS_add (r1 ++ r3) r7 h9))) (qc rfl rfl (s_u (o_as rfl)) qn)))))))))))))) en ?_
  intro _
  refine ex_sub (E' := [(1, pt b0 0), (3, vS ((r1 ++ r3) ++ r7))]) ⟨rfl, rfl, trivial⟩ ?_
  refine x_seq ?_
  refine c_seq ?_
  refine c_seq ?_
  refine c_reg ?_
  refine r_u (o_as rfl) ?_
  refine r_nil ?_
  refine x_seq ?_
  obtain ⟨p11, hp12, hm13⟩ := bs hm10
  refine cd_join (E' := [(1, pt b0 0), (3, vS p11)]) (L' := Bk b0 31 [vI a0.Wide, vW a0.Seed, g0_.Rows.1, g0_.Door, vI a0.Added] :: F) ?_ fun K14 => ?_
  · refine x_seq ?_
    refine c_seq ?_
    refine c_seq ?_
    refine c_reg ?_
    refine r_u (o_as rfl) ?_
    refine r_nil ?_
    refine x_seq ?_
    obtain ⟨p15, hp16, hm17⟩ := bs hm13
    refine cd_join (E' := [(3, vS p15)]) (L' := Bk b0 31 [vI a0.Wide, vW a0.Seed, g0_.Rows.1, g0_.Door, vI a0.Added] :: F) ?_ fun K18 => ?_
    · refine x_seq ?_
      refine c_seq ?_
      refine c_reg ?_
      refine r_u (o_mv rfl) ?_
      refine r_u (o_as rfl) ?_
      refine r_nil ?_
      refine x_seq ?_
      refine c_ret ?_
      obtain rfl := Option.some.inj hm17
      refine ex_st (fun _ h => st_pk 1 [] (by decide) h) ?_
      exact x_r1 rfl (rv_t rfl) (Le.refl _) ⟨_, rfl, rfl, rfl, rfl⟩
    · refine c_blk ?_
      refine cd_loop (M := fun k21 (s : Str × Int) => hawthornref05_Sketch_Put_l0 a0 k21 s.1 s.2 = some p15) (Ef := fun (s : Str × Int) => [(1, pt b0 0), (3, vS s.1), (6, vI s.2)]) (Lf := fun (s : Str × Int) => Bk b0 31 [vI a0.Wide, vW a0.Seed, g0_.Rows.1, g0_.Door, vI a0.Added] :: F) ((a0.Wide - 0).toNat + 1) (p11, 0) hp16 ⟨rfl, rfl, rfl, trivial⟩ (fun _ h => h) (fun _ h => by cases h) fun k21 s hM23 => ?_
      obtain ⟨out_19, k_20⟩ := s
      have hm22 : hawthornref05_Sketch_Put_l0 a0 (k21 + 1) out_19 k_20 = some p15 := hM23
      rw [hawthornref05_Sketch_Put_l0] at hm22
      refine c_seq ?_
      refine c_seq ?_
      refine c_reg ?_
      refine r_u (o_mv rfl) ?_
      refine r_u (o_fa fa31_0 rfl) ?_
      refine r_u (o_ld 0 sc3 rfl rfl rfl) ?_
      refine r_u (o_bin rfl rfl (bI_lt k_20 a0.Wide)) ?_
      refine r_nil ?_
      refine x_seq ?_
      refine c_if (b := decide (k_20 < a0.Wide)) rfl (fun h24 => ?_) fun h24 => ?_
      · have hm25 := ift hm22 h24
        clear hm22
        refine c_skip ?_
        refine x_seq ?_
        refine c_seq ?_
        refine c_blk ?_
        refine c_reg ?_
        refine r_u (o_mv rfl) ?_
        refine r_u (o_fa fa31_3 rfl) ?_
        refine r_u (o_ld 0 sc29 rfl rfl rfl) ?_
        refine r_u (o_mv rfl) ?_
        obtain ⟨x26, hx26, hm27⟩ := bs hm25
        clear hm25
        obtain ⟨b26, o26, l26, T26, fr26, c26, hv26, hR26, he26, hi26⟩ := RoS.ne h0.2 hx26
        refine r_u (o_ix (sz := 1) Tryz.underlying29 (fun _ => by kernel_rfl) rfl rfl hv26 hi26) ?_
        refine r_u (o_ldR sc4 rfl hR26 (rok 0 he26 (by decide))) ?_
        refine r_u (o_callq ca73 rfl (hawthornref03_Flag.ok x26 _ rfl)) ?_
        obtain ⟨h28, hm29⟩ := ig hm27
        clear hm27
        refine r_u (o_bin rfl rfl (bS_add out_19 (hawthornref03_Flag x26) h28)) ?_
        refine r_u (o_as rfl) ?_
        refine r_nil ?_
        refine x_blk ?_
        refine x_seq ?_
        refine c_reg ?_
        refine r_u (o_mv rfl) ?_
        refine r_u (o_bin rfl rfl (bI_add k_20 1)) ?_
        refine r_u (o_as rfl) ?_
        refine r_nil ?_
        exact x_lp (out_19 ++ (hawthornref03_Flag x26), i64 (k_20 + 1)) hm29 ⟨rfl, rfl, rfl, trivial⟩ (fun _ h => st_pk 1 [0] (by decide) h)
      · have hm25 := iff_ hm22 h24
        clear hm22
        refine c_exit (x_exit (ks' := _) rfl ?_)
        obtain rfl := Option.some.inj hm25
        exact x_sub K18 ⟨rfl, trivial⟩ (fun _ h => st_pk 1 [0] (by decide) h)
  · refine c_blk ?_
    refine cd_loop (M := fun k32 (s : Str × Int) => hawthornref05_Sketch_Put_l1 a0 k32 s.1 s.2 = some p11) (Ef := fun (s : Str × Int) => [(1, pt b0 0), (3, vS s.1), (4, vI s.2)]) (Lf := fun (s : Str × Int) => Bk b0 31 [vI a0.Wide, vW a0.Seed, g0_.Rows.1, g0_.Door, vI a0.Added] :: F) 5 ((r1 ++ r3) ++ r7, 0) hp12 ⟨rfl, rfl, rfl, trivial⟩ (fun _ h => h) (fun _ h => by cases h) fun k32 s hM34 => ?_
    obtain ⟨out_30, i_31⟩ := s
    have hm33 : hawthornref05_Sketch_Put_l1 a0 (k32 + 1) out_30 i_31 = some p11 := hM34
    rw [hawthornref05_Sketch_Put_l1] at hm33
    refine c_seq ?_
    refine c_seq ?_
    refine c_reg ?_
    refine r_u (o_mv rfl) ?_
    refine r_u (o_bin rfl rfl (bI_lt i_31 4)) ?_
    refine r_nil ?_
    refine x_seq ?_
    refine c_if (b := decide (i_31 < 4)) rfl (fun h35 => ?_) fun h35 => ?_
    · have hm36 := ift hm33 h35
      clear hm33
      refine c_skip ?_
      refine x_seq ?_
      refine c_seq ?_
      obtain ⟨p37, hp38, hm39⟩ := bs hm36
      refine cd_join (E' := [(1, pt b0 0), (4, vI i_31), (3, vS p37)]) (L' := Bk b0 31 [vI a0.Wide, vW a0.Seed, g0_.Rows.1, g0_.Door, vI a0.Added] :: F) ?_ fun K40 => ?_
      · refine x_seq ?_
        refine c_reg ?_
        refine r_u (o_mv rfl) ?_
        refine r_u (o_bin rfl rfl (bI_add i_31 1)) ?_
        refine r_u (o_as rfl) ?_
        refine r_nil ?_
        exact x_lp (p37, i64 (i_31 + 1)) hm39 ⟨rfl, rfl, rfl, trivial⟩ (fun _ h => st_pk 1 [0] (by decide) h)
      · refine c_blk ?_
        refine c_seq ?_
        refine c_reg ?_
        refine r_u (o_as rfl) ?_
        refine r_nil ?_
        refine x_seq ?_
        obtain ⟨p41, hp42, hm43⟩ := bs hp38
        refine cd_join (E' := [(1, pt b0 0), (4, vI i_31), (3, vS p41)]) (L' := Bk b0 31 [vI a0.Wide, vW a0.Seed, g0_.Rows.1, g0_.Door, vI a0.Added] :: F) ?_ fun K44 => ?_
        · refine x_blk ?_
          obtain rfl := Option.some.inj hm43
          exact x_sub K40 ⟨rfl, rfl, rfl, trivial⟩ (fun _ h => st_pk 1 [0] (by decide) h)
        · refine c_blk ?_
          refine cd_loop (M := fun k47 (s : Str × Int) => hawthornref05_Sketch_Put_l2 a0 i_31 k47 s.1 s.2 = some p41) (Ef := fun (s : Str × Int) => [(1, pt b0 0), (4, vI i_31), (3, vS s.1), (5, vI s.2)]) (Lf := fun (s : Str × Int) => Bk b0 31 [vI a0.Wide, vW a0.Seed, g0_.Rows.1, g0_.Door, vI a0.Added] :: F) ((a0.Wide - 0).toNat + 1) (out_30, 0) hp42 ⟨rfl, rfl, rfl, rfl, trivial⟩ (fun _ h => h) (fun _ h => by cases h) fun k47 s hM49 => ?_
          obtain ⟨out_45, k_46⟩ := s
          have hm48 : hawthornref05_Sketch_Put_l2 a0 i_31 (k47 + 1) out_45 k_46 = some p41 := hM49
          rw [hawthornref05_Sketch_Put_l2] at hm48
          refine c_seq ?_
          refine c_seq ?_
          refine c_reg ?_
          refine r_u (o_mv rfl) ?_
          refine r_u (o_fa fa31_0 rfl) ?_
          refine r_u (o_ld 0 sc3 rfl rfl rfl) ?_
          refine r_u (o_bin rfl rfl (bI_lt k_46 a0.Wide)) ?_
          refine r_nil ?_
          refine x_seq ?_
          refine c_if (b := decide (k_46 < a0.Wide)) rfl (fun h50 => ?_) fun h50 => ?_
          · have hm51 := ift hm48 h50
            clear hm48
            refine c_skip ?_
            refine x_seq ?_
            refine c_seq ?_
            refine c_blk ?_
            refine c_reg ?_
            refine r_u (o_mv rfl) ?_
            refine r_u (o_fa fa31_2 rfl) ?_
            refine r_u (o_ld 0 sc28 rfl rfl rfl) ?_
            refine r_u (o_mv rfl) ?_
            obtain ⟨x52, hx52, hm54⟩ := bs hm51
            clear hm51
            obtain ⟨b52, o52, l52, T52, fr52, c52, u53, hv52, hR52, he52, hi52, hN52⟩ := RoN.ne h0.1 hx52
            refine r_u (o_ix (sz := 1) Tryz.underlying28 (fun _ => by kernel_rfl) rfl rfl hv52 hi52) ?_
            refine r_u (o_ldR sc86 rfl hR52 (rok 0 he52 (by decide))) ?_
            refine r_u (o_mv rfl) ?_
            obtain ⟨x55, hx55, hm56⟩ := bs hm54
            clear hm54
            obtain ⟨b55, o55, l55, T55, fr55, c55, hv55, hR55, he55, hi55⟩ := RoS.ne hN52 hx55
            refine r_u (o_ix (sz := 1) Tryz.underlying86 (fun _ => by kernel_rfl) rfl rfl hv55 hi55) ?_
            refine r_u (o_ldR sc3 rfl hR55 (rok 0 he55 (by decide))) ?_
            refine r_u (o_cv rfl (cIY Tryz.underlying3 Tryz.underlying5 x55)) ?_
            refine r_sw (s_w (o_bsl (en := eY) (sz := 1) (e := 5) (cs := [vY (toY x55)]) (r := [toY x55]) rfl (fun _ => by kernel_rfl) rfl (by decide) rfl (fun _ => rfl))) ?_
            rintro v57 R _ _ ⟨rfl, rfl⟩
            refine r_u (o_bs 0 Tryz.underlying81 Tryz.underlying5 Tryz.underlying9 rfl rfl) ?_
            obtain ⟨h58, hm59⟩ := ig hm56
            clear hm56
            refine r_u (o_bin rfl rfl (bS_add out_45 [toY x55] h58)) ?_
            refine r_u (o_as rfl) ?_
            refine r_nil ?_
            refine x_blk ?_
            refine x_seq ?_
            refine c_reg ?_
            refine r_u (o_mv rfl) ?_
            refine r_u (o_bin rfl rfl (bI_add k_46 1)) ?_
            refine r_u (o_as rfl) ?_
            refine r_nil ?_
            exact x_lp (out_45 ++ [toY x55], i64 (k_46 + 1)) hm59 ⟨rfl, rfl, rfl, rfl, trivial⟩ (fun _ h => st_pk 2 [1] (by decide) h)
          · have hm51 := iff_ hm48 h50
            clear hm48
            refine c_exit (x_exit (ks' := _) rfl ?_)
            obtain rfl := Option.some.inj hm51
            exact x_sub K44 ⟨rfl, rfl, rfl, trivial⟩ (fun _ h => st_pk 1 [0] (by decide) h)
    · have hm36 := iff_ hm33 h35
      clear hm33
      refine c_exit (x_exit (ks' := _) rfl ?_)
      obtain rfl := Option.some.inj hm36
      exact x_sub K14 ⟨rfl, rfl, trivial⟩ (fun _ h => st_pk 1 [0] (by decide) h)

def hawthornref03_Text (a0 : Str) : Option Str :=
  (hawthornref03_Num (toW (a0.length : Int))).bind fun r0 => if r0.length + a0.length ≤ maxS then some (r0 ++ a0) else none
theorem hawthornref03_Text.ok {G R F} (a0 : Str) (r : Str) (hm : hawthornref03_Text a0 = some r) : CO Tryz.prog 74 [vS a0] G R (F)
    (Ret fun u R' L' => u = vS r ∧ R' = R ∧ L' = F) := by
  unfold hawthornref03_Text at hm
  refine co_ofN (N := 9) Tryz.func74 rfl rfl ?_
  refine c_seq ?_
  refine c_reg ?_
  refine r_u (o_as rfl) ?_
  refine r_nil ?_
  refine x_seq ?_
  refine c_seq ?_
  refine c_reg ?_
  refine r_u (o_mv rfl) ?_
  refine r_u (o_lenS Tryz.underlying9 rfl) ?_
  refine r_u (o_cv rfl (cIW Tryz.underlying3 Tryz.underlying22 (a0.length : Int))) ?_
  obtain ⟨r0, hr0, hm1⟩ := bs hm
  clear hm
  refine r_u (o_callq ca45 rfl (hawthornref03_Num.ok (toW (a0.length : Int)) r0 hr0)) ?_
  refine r_u (o_mv rfl) ?_
  obtain ⟨h2, hm3⟩ := ig hm1
  clear hm1
  refine r_u (o_bin rfl rfl (bS_add r0 a0 h2)) ?_
  refine r_u (o_as rfl) ?_
  refine r_nil ?_
  refine x_seq ?_
  refine c_ret ?_
  obtain rfl := Option.some.inj hm3
  exact x_r1 rfl (rv_t rfl) (Le.refl _) ⟨_, rfl, rfl, rfl, rfl⟩

def hawthornref06_Rings_Put_l1 (x22 : List Str) : Nat → Str → Int → Option (Str)
  | 0, _, _ => none
  | k35 + 1, out_33, k_34 => if decide (k_34 < (x22.length : Int)) then (gi x22 k_34).bind fun x40 => (hawthornref03_Text x40).bind fun r42 => if out_33.length + r42.length ≤ maxS then hawthornref06_Rings_Put_l1 x22 k35 (out_33 ++ r42) (i64 (k_34 + 1)) else none else some out_33
def hawthornref06_Rings_Put_l0 (a0 : hawthornref06_Rings) : Nat → Str → Int → Option (Str)
  | 0, _, _ => none
  | k13 + 1, out_11, i_12 => if decide (i_12 < (a0.L.length : Int)) then Option.bind ((gi a0.L i_12).bind fun x22 => (hawthornref03_Num (toW (x22.length : Int))).bind fun r25 => if out_11.length + r25.length ≤ maxS then Option.bind (hawthornref06_Rings_Put_l1 x22 (((x22.length : Int) - 0).toNat + 1) (out_11 ++ r25) 0) fun p29 => some p29 else none) fun p18 => hawthornref06_Rings_Put_l0 a0 k13 p18 (i64 (i_12 + 1)) else some out_11
def hawthornref06_Rings_Put (a0 : hawthornref06_Rings) : Option Str :=
  (hawthornref03_Num (toW (a0.L.length : Int))).bind fun r1 => (hawthornref03_Num (toW a0.Places)).bind fun r3 => if r1.length + r3.length ≤ maxS then Option.bind (hawthornref06_Rings_Put_l0 a0 (((a0.L.length : Int) - 0).toNat + 1) (r1 ++ r3) 0) fun p7 => some p7 else none
theorem hawthornref06_Rings_Put.ok {G R F} (a0 : hawthornref06_Rings) (g0_ : hawthornref06_Rings.G) (h0 : hawthornref06_Rings.ro R a0 g0_) (r : Str) (hm : hawthornref06_Rings_Put a0 = some r) : CO Tryz.prog 47 [.agg [g0_.L.1, vI a0.Places].toArray] G R (F)
    (Ret fun u R' L' => u = vS r ∧ R' = R ∧ L' = F) := by
  unfold hawthornref06_Rings_Put at hm
  refine co_ofN (N := 55) Tryz.func47 rfl rfl ?_
  refine c_seq ?_
  refine c_reg ?_
  refine r_new (o_bx [g0_.L.1, vI a0.Places] rfl rfl) fun b0 => ?_
  refine r_u (o_as rfl) ?_
  refine r_nil ?_
  refine x_seq ?_
  refine c_seq ?_
  obtain ⟨r1, hr1, hm2⟩ := bs hm
  clear hm
  obtain ⟨r3, hr3, hm4⟩ := bs hm2
  clear hm2
  obtain ⟨h5, hm6⟩ := ig hm4
  clear hm4
  refine c_any mixed (effs := []) (V := []) ?_
  refine stage_ext [(0, pt b0 0), (1, g0_.L.1), (2, vI (a0.L.length : Int)), (3, vW (toW (a0.L.length : Int))), (4, vS r1), (5, pt b0 1), (6, vI a0.Places), (7, vW (toW a0.Places)), (8, vS r3), (9, vS (r1 ++ r3)), (10, vS (r1 ++ r3))] rfl ?_
  refine stage rfl rfl rfl rfl [0, 1, 3, 7, 15, 0, 32, 96, 255, 511, 1023] [0, 1, 2, 3, 4, 5, 6, 7, 8, 9, 10] [] rfl rfl rfl (qc rfl rfl (s_u (o_fa fa34_0 rfl)) (qc rfl rfl (s_u (o_ld 0 sc32 rfl rfl rfl)) (qc rfl rfl (s_u (o_lenRN Tryz.underlying32 rfl h0)) (qc rfl rfl (s_u (o_cv rfl (cIW Tryz.underlying3 Tryz.underlying22 (a0.L.length : Int)))) (qc rfl rfl (s_u (o_callq ca45 rfl (hawthornref03_Num.ok (toW (a0.L.length : Int)) r1 hr1))) (qc rfl rfl (s_u (o_fa fa34_1 rfl)) (qc rfl rfl (s_u (o_ld 0 sc3 rfl rfl rfl)) (qc rfl rfl (s_u (o_cv rfl (cIW Tryz.underlying3 Tryz.underlying22 a0.Places))) (qc rfl rfl (s_u (o_callq ca45 rfl (hawthornref03_Num.ok (toW a0.Places) r3 hr3))) (qc rfl rfl (s_u (o_bin rfl rfl (bS_add r1 r3 h5))) (qc rfl rfl (s_u (o_as rfl)) qn))))))))))) en ?_
  intro _
  refine ex_sub (E' := [(1, pt b0 0), (3, vS (r1 ++ r3))]) ⟨rfl, rfl, trivial⟩ ?_
  refine x_seq ?_
  refine c_seq ?_
  refine c_seq ?_
  refine c_reg ?_
  refine r_u (o_as rfl) ?_
  refine r_nil ?_
  refine x_seq ?_
  obtain ⟨p7, hp8, hm9⟩ := bs hm6
  refine cd_join (E' := [(3, vS p7)]) (L' := Bk b0 34 [g0_.L.1, vI a0.Places] :: F) ?_ fun K10 => ?_
  · refine x_seq ?_
    refine c_seq ?_
    refine c_reg ?_
    refine r_u (o_mv rfl) ?_
    refine r_u (o_as rfl) ?_
    refine r_nil ?_
    refine x_seq ?_
    refine c_ret ?_
    obtain rfl := Option.some.inj hm9
    refine ex_st (fun _ h => st_pk 1 [] (by decide) h) ?_
    exact x_r1 rfl (rv_t rfl) (Le.refl _) ⟨_, rfl, rfl, rfl, rfl⟩
  · refine c_blk ?_
    refine cd_loop (M := fun k13 (s : Str × Int) => hawthornref06_Rings_Put_l0 a0 k13 s.1 s.2 = some p7) (Ef := fun (s : Str × Int) => [(1, pt b0 0), (3, vS s.1), (4, vI s.2)]) (Lf := fun (s : Str × Int) => Bk b0 34 [g0_.L.1, vI a0.Places] :: F) (((a0.L.length : Int) - 0).toNat + 1) (r1 ++ r3, 0) hp8 ⟨rfl, rfl, rfl, trivial⟩ (fun _ h => h) (fun _ h => by cases h) fun k13 s hM15 => ?_
    obtain ⟨out_11, i_12⟩ := s
    have hm14 : hawthornref06_Rings_Put_l0 a0 (k13 + 1) out_11 i_12 = some p7 := hM15
    rw [hawthornref06_Rings_Put_l0] at hm14
    refine c_seq ?_
    refine c_seq ?_
    refine c_reg ?_
    refine r_u (o_mv rfl) ?_
    refine r_u (o_fa fa34_0 rfl) ?_
    refine r_u (o_ld 0 sc32 rfl rfl rfl) ?_
    refine r_u (o_lenRN Tryz.underlying32 rfl h0) ?_
    refine r_u (o_bin rfl rfl (bI_lt i_12 (a0.L.length : Int))) ?_
    refine r_nil ?_
    refine x_seq ?_
    refine c_if (b := decide (i_12 < (a0.L.length : Int))) rfl (fun h16 => ?_) fun h16 => ?_
    · have hm17 := ift hm14 h16
      clear hm14
      refine c_skip ?_
      refine x_seq ?_
      refine c_seq ?_
      obtain ⟨p18, hp19, hm20⟩ := bs hm17
      refine cd_join (E' := [(1, pt b0 0), (4, vI i_12), (3, vS p18)]) (L' := Bk b0 34 [g0_.L.1, vI a0.Places] :: F) ?_ fun K21 => ?_
      · refine x_seq ?_
        refine c_reg ?_
        refine r_u (o_mv rfl) ?_
        refine r_u (o_bin rfl rfl (bI_add i_12 1)) ?_
        refine r_u (o_as rfl) ?_
        refine r_nil ?_
        exact x_lp (p18, i64 (i_12 + 1)) hm20 ⟨rfl, rfl, rfl, trivial⟩ (fun _ h => st_pk 1 [0] (by decide) h)
      · refine c_blk ?_
        refine c_seq ?_
        refine c_reg ?_
        refine r_u (o_mv rfl) ?_
        refine r_u (o_fa fa34_0 rfl) ?_
        refine r_u (o_ld 0 sc32 rfl rfl rfl) ?_
        refine r_u (o_mv rfl) ?_
        obtain ⟨x22, hx22, hm24⟩ := bs hp19
        clear hp19
        obtain ⟨b22, o22, l22, T22, fr22, c22, u23, hv22, hR22, he22, hi22, hN22⟩ := RoN.ne h0 hx22
        refine r_u (o_ix (sz := 1) Tryz.underlying32 (fun _ => by kernel_rfl) rfl rfl hv22 hi22) ?_
        refine r_u (o_ldR sc60 rfl hR22 (rok 0 he22 (by decide))) ?_
        refine r_u (o_lenR Tryz.underlying60 rfl hN22) ?_
        refine r_u (o_cv rfl (cIW Tryz.underlying3 Tryz.underlying22 (x22.length : Int))) ?_
        obtain ⟨r25, hr25, hm26⟩ := bs hm24
        clear hm24
        refine r_u (o_callq ca45 rfl (hawthornref03_Num.ok (toW (x22.length : Int)) r25 hr25)) ?_
        obtain ⟨h27, hm28⟩ := ig hm26
        clear hm26
        refine r_u (o_bin rfl rfl (bS_add out_11 r25 h27)) ?_
        refine r_u (o_as rfl) ?_
        refine r_nil ?_
        refine x_seq ?_
        refine c_seq ?_
        refine c_reg ?_
        refine r_u (o_as rfl) ?_
        refine r_nil ?_
        refine x_seq ?_
        obtain ⟨p29, hp30, hm31⟩ := bs hm28
        refine cd_join (E' := [(1, pt b0 0), (4, vI i_12), (3, vS p29)]) (L' := Bk b0 34 [g0_.L.1, vI a0.Places] :: F) ?_ fun K32 => ?_
        · refine x_blk ?_
          obtain rfl := Option.some.inj hm31
          exact x_sub K21 ⟨rfl, rfl, rfl, trivial⟩ (fun _ h => st_pk 1 [0] (by decide) h)
        · refine c_blk ?_
          refine cd_loop (M := fun k35 (s : Str × Int) => hawthornref06_Rings_Put_l1 x22 k35 s.1 s.2 = some p29) (Ef := fun (s : Str × Int) => [(1, pt b0 0), (4, vI i_12), (3, vS s.1), (5, vI s.2)]) (Lf := fun (s : Str × Int) => Bk b0 34 [g0_.L.1, vI a0.Places] :: F) (((x22.length : Int) - 0).toNat + 1) (out_11 ++ r25, 0) hp30 ⟨rfl, rfl, rfl, rfl, trivial⟩ (fun _ h => h) (fun _ h => by cases h) fun k35 s hM37 => ?_
          obtain ⟨out_33, k_34⟩ := s
          have hm36 : hawthornref06_Rings_Put_l1 x22 (k35 + 1) out_33 k_34 = some p29 := hM37
          rw [hawthornref06_Rings_Put_l1] at hm36
          refine c_seq ?_
          refine c_seq ?_
          refine c_reg ?_
          refine r_u (o_mv rfl) ?_
          refine r_u (o_fa fa34_0 rfl) ?_
          refine r_u (o_ld 0 sc32 rfl rfl rfl) ?_
          refine r_u (o_mv rfl) ?_
          refine r_u (o_ix (sz := 1) Tryz.underlying32 (fun _ => by kernel_rfl) rfl rfl hv22 hi22) ?_
          refine r_u (o_ldR sc60 rfl hR22 (rok 0 he22 (by decide))) ?_
          refine r_u (o_lenR Tryz.underlying60 rfl hN22) ?_
          refine r_u (o_bin rfl rfl (bI_lt k_34 (x22.length : Int))) ?_
          refine r_nil ?_
          refine x_seq ?_
          refine c_if (b := decide (k_34 < (x22.length : Int))) rfl (fun h38 => ?_) fun h38 => ?_
          · have hm39 := ift hm36 h38
            clear hm36
            refine c_skip ?_
            refine x_seq ?_
            refine c_seq ?_
            refine c_blk ?_
            refine c_reg ?_
            refine r_u (o_mv rfl) ?_
            refine r_u (o_fa fa34_0 rfl) ?_
            refine r_u (o_ld 0 sc32 rfl rfl rfl) ?_
            refine r_u (o_mv rfl) ?_
            refine r_u (o_ix (sz := 1) Tryz.underlying32 (fun _ => by kernel_rfl) rfl rfl hv22 hi22) ?_
            refine r_u (o_ldR sc60 rfl hR22 (rok 0 he22 (by decide))) ?_
            refine r_u (o_mv rfl) ?_
            obtain ⟨x40, hx40, hm41⟩ := bs hm39
            clear hm39
            obtain ⟨b40, o40, l40, T40, fr40, c40, hv40, hR40, he40, hi40⟩ := RoS.ne hN22 hx40
            refine r_u (o_ix (sz := 1) Tryz.underlying60 (fun _ => by kernel_rfl) rfl rfl hv40 hi40) ?_
            refine r_u (o_ldR sc9 rfl hR40 (rok 0 he40 (by decide))) ?_
            obtain ⟨r42, hr42, hm43⟩ := bs hm41
            clear hm41
            refine r_u (o_callq ca74 rfl (hawthornref03_Text.ok x40 r42 hr42)) ?_
            obtain ⟨h44, hm45⟩ := ig hm43
            clear hm43
            refine r_u (o_bin rfl rfl (bS_add out_33 r42 h44)) ?_
            refine r_u (o_as rfl) ?_
            refine r_nil ?_
            refine x_blk ?_
            refine x_seq ?_
            refine c_reg ?_
            refine r_u (o_mv rfl) ?_
            refine r_u (o_bin rfl rfl (bI_add k_34 1)) ?_
            refine r_u (o_as rfl) ?_
            refine r_nil ?_
            exact x_lp (out_33 ++ r42, i64 (k_34 + 1)) hm45 ⟨rfl, rfl, rfl, rfl, trivial⟩ (fun _ h => st_pk 1 [0] (by decide) h)
          · have hm39 := iff_ hm36 h38
            clear hm36
            refine c_exit (x_exit (ks' := _) rfl ?_)
            obtain rfl := Option.some.inj hm39
            exact x_sub K32 ⟨rfl, rfl, rfl, trivial⟩ (fun _ h => st_pk 1 [0] (by decide) h)
    · have hm17 := iff_ hm14 h16
      clear hm14
      refine c_exit (x_exit (ks' := _) rfl ?_)
      obtain rfl := Option.some.inj hm17
      exact x_sub K10 ⟨rfl, trivial⟩ (fun _ h => st_pk 1 [0] (by decide) h)

def hawthornref08_Tiny_Put (a0 : hawthornref08_Tiny) : Option Str :=
  (hawthornref03_Num (toW a0.Most)).bind fun r1 => (hawthornref05_Sketch_Put a0.S).bind fun r3 => if r1.length + r3.length ≤ maxS then (hawthornref06_Rings_Put a0.R).bind fun r7 => if (r1 ++ r3).length + r7.length ≤ maxS then some ((r1 ++ r3) ++ r7) else none else none
theorem hawthornref08_Tiny_Put.ok {G R F} (a0 : hawthornref08_Tiny) (g0_ : hawthornref08_Tiny.G) (h0 : hawthornref08_Tiny.ro R a0 g0_) (r : Str) (hm : hawthornref08_Tiny_Put a0 = some r) : CO Tryz.prog 15 [.agg [vI a0.Most, vI a0.S.Wide, vW a0.S.Seed, g0_.S.Rows.1, g0_.S.Door, vI a0.S.Added, g0_.R.L.1, vI a0.R.Places].toArray] G R (F)
    (Ret fun u R' L' => u = vS r ∧ R' = R ∧ L' = F) := by
  unfold hawthornref08_Tiny_Put at hm
  refine co_ofN (N := 15) Tryz.func15 rfl rfl ?_
  refine c_seq ?_
  refine c_reg ?_
  refine r_new (o_bx [vI a0.Most, vI a0.S.Wide, vW a0.S.Seed, g0_.S.Rows.1, g0_.S.Door, vI a0.S.Added, g0_.R.L.1, vI a0.R.Places] rfl rfl) fun b0 => ?_
  refine r_u (o_as rfl) ?_
  refine r_nil ?_
  refine x_seq ?_
  refine c_seq ?_
  obtain ⟨r1, hr1, hm2⟩ := bs hm
  clear hm
  obtain ⟨r3, hr3, hm4⟩ := bs hm2
  clear hm2
  obtain ⟨h5, hm6⟩ := ig hm4
  clear hm4
  obtain ⟨r7, hr7, hm8⟩ := bs hm6
  clear hm6
  obtain ⟨h9, hm10⟩ := ig hm8
  clear hm8
  refine c_any mixed (effs := []) (V := []) ?_
  refine stage_ext [(0, pt b0 0), (1, vI a0.Most), (2, vW (toW a0.Most)), (3, vS r1), (4, pt b0 1), (5, .agg [vI a0.S.Wide, vW a0.S.Seed, g0_.S.Rows.1, g0_.S.Door, vI a0.S.Added].toArray), (6, vS r3), (7, vS (r1 ++ r3)), (8, pt b0 6), (9, .agg [g0_.R.L.1, vI a0.R.Places].toArray), (10, vS r7), (11, vS ((r1 ++ r3) ++ r7)), (12, vS ((r1 ++ r3) ++ r7))] rfl ?_
  refine stage rfl rfl rfl rfl [0, 1, 3, 7, 0, 16, 63, 127, 0, 256, 895, 2047, 4095] [0, 1, 2, 3, 4, 5, 6, 7, 8, 9, 10, 11, 12] [] rfl rfl rfl (qc rfl rfl (s_u (o_fa fa36_0 rfl)) (qc rfl rfl (s_u (o_ld 0 sc3 rfl rfl rfl)) (qc rfl rfl (s_u (o_cv rfl (cIW Tryz.underlying3 Tryz.underlying22 a0.Most))) (qc rfl rfl (s_u (o_callq ca45 rfl (hawthornref03_Num.ok (toW a0.Most) r1 hr1))) (qc rfl rfl (s_u (o_fa fa36_1 rfl)) (qc rfl rfl (s_u (o_ldn 0 [vI a0.S.Wide, vW a0.S.Seed, g0_.S.Rows.1, g0_.S.Door, vI a0.S.Added] ag31 rfl rfl rfl rfl)) (qc rfl rfl (s_u (o_callq ca46 rfl (hawthornref05_Sketch_Put.ok a0.S (⟨(g0_.S.Rows.1, []), g0_.S.Door⟩ : hawthornref05_Sketch.G) ⟨h0.1.1, h0.1.2⟩ r3 hr3))) (qc rfl rfl (s_u (o_bin rfl rfl (bS_add r1 r3 h5))) (qc rfl rfl (s_u (o_fa fa36_2 rfl)) (qc rfl rfl (s_u (o_ldn 0 [g0_.R.L.1, vI a0.R.Places] ag34 rfl rfl rfl rfl)) (qc rfl rfl (s_u (o_callq ca47 rfl (hawthornref06_Rings_Put.ok a0.R (⟨(g0_.R.L.1, [])⟩ : hawthornref06_Rings.G) h0.2 r7 hr7))) (qc rfl rfl (s_u (o_bin rfl rfl (bS_add (r1 ++ r3) r7 h9))) (qc rfl rfl (s_u (o_as rfl)) qn))))))))))))) en ?_
  intro _
  refine ex_sub (E' := [(2, vS ((r1 ++ r3) ++ r7))]) ⟨rfl, trivial⟩ ?_
  refine x_seq ?_
  refine c_ret ?_
  obtain rfl := Option.some.inj hm10
  refine ex_st (fun _ h => st_pk 1 [] (by decide) h) ?_
  exact x_r1 rfl (rv_t rfl) (Le.refl _) ⟨_, rfl, rfl, rfl, rfl⟩

def hawthornref08_Tiny_Len (a0 : hawthornref08_Tiny) : Option Int :=
  (hawthornref06_Rings_Many a0.R).bind fun r1 => some r1
theorem hawthornref08_Tiny_Len.ok {G R F} (a0 : hawthornref08_Tiny) (g0_ : hawthornref08_Tiny.G) (h0 : hawthornref08_Tiny.ro R a0 g0_) (r : Int) (hm : hawthornref08_Tiny_Len a0 = some r) : CO Tryz.prog 36 [.agg [vI a0.Most, vI a0.S.Wide, vW a0.S.Seed, g0_.S.Rows.1, g0_.S.Door, vI a0.S.Added, g0_.R.L.1, vI a0.R.Places].toArray] G R (F)
    (Ret fun u R' L' => u = vI r ∧ R' = R ∧ L' = F) := by
  unfold hawthornref08_Tiny_Len at hm
  refine co_ofN (N := 6) Tryz.func36 rfl rfl ?_
  refine c_seq ?_
  refine c_reg ?_
  refine r_new (o_bx [vI a0.Most, vI a0.S.Wide, vW a0.S.Seed, g0_.S.Rows.1, g0_.S.Door, vI a0.S.Added, g0_.R.L.1, vI a0.R.Places] rfl rfl) fun b0 => ?_
  refine r_u (o_as rfl) ?_
  refine r_nil ?_
  refine x_seq ?_
  refine c_seq ?_
  refine c_reg ?_
  refine r_u (o_fa fa36_2 rfl) ?_
  refine r_u (o_ldn 0 [g0_.R.L.1, vI a0.R.Places] ag34 rfl rfl rfl rfl) ?_
  obtain ⟨r1, hr1, hm2⟩ := bs hm
  clear hm
  refine r_u (o_callq ca64 rfl (hawthornref06_Rings_Many.ok a0.R (⟨(g0_.R.L.1, [])⟩ : hawthornref06_Rings.G) h0.2 r1 hr1)) ?_
  refine r_u (o_as rfl) ?_
  refine r_nil ?_
  refine x_seq ?_
  refine c_ret ?_
  obtain rfl := Option.some.inj hm2
  refine ex_st (fun _ h => st_pk 1 [] (by decide) h) ?_
  exact x_r1 rfl (rv_t rfl) (Le.refl _) ⟨_, rfl, rfl, rfl, rfl⟩

def hawthornref05_Sketch_Seen (a0 : hawthornref05_Sketch) (a1 : Str) : Option Int :=
  (hawthornref05_Sketch_least a0 a1).bind fun r1 => (hawthornref05_Sketch_place a0 a1 4).bind fun r3 => (gi a0.Door r3).bind fun x5 => if x5 then some (i64 (r1 + 1)) else some r1
theorem hawthornref05_Sketch_Seen.ok {G R F} (a0 : hawthornref05_Sketch) (g0_ : hawthornref05_Sketch.G) (h0 : hawthornref05_Sketch.ro R a0 g0_) (a1 : Str) (r : Int) (hm : hawthornref05_Sketch_Seen a0 a1 = some r) : CO Tryz.prog 13 [.agg [vI a0.Wide, vW a0.Seed, g0_.Rows.1, g0_.Door, vI a0.Added].toArray, vS a1] G R (F)
    (Ret fun u R' L' => u = vI r ∧ R' = R ∧ L' = F) := by
  unfold hawthornref05_Sketch_Seen at hm
  refine co_ofN (N := 19) Tryz.func13 rfl rfl ?_
  refine c_seq ?_
  refine c_reg ?_
  refine r_new (o_bx [vI a0.Wide, vW a0.Seed, g0_.Rows.1, g0_.Door, vI a0.Added] rfl rfl) fun b0 => ?_
  refine r_u (o_as rfl) ?_
  refine r_nil ?_
  refine x_seq ?_
  refine c_seq ?_
  refine c_reg ?_
  refine r_u (o_ldn 0 [vI a0.Wide, vW a0.Seed, g0_.Rows.1, g0_.Door, vI a0.Added] ag31 rfl rfl rfl rfl) ?_
  refine r_u (o_mv rfl) ?_
  obtain ⟨r1, hr1, hm2⟩ := bs hm
  clear hm
  refine r_u (o_callq ca40 rfl (hawthornref05_Sketch_least.ok a0 (⟨(g0_.Rows.1, []), g0_.Door⟩ : hawthornref05_Sketch.G) ⟨h0.1, h0.2⟩ a1 r1 hr1)) ?_
  refine r_u (o_as rfl) ?_
  refine r_nil ?_
  refine x_seq ?_
  refine c_seq ?_
  refine c_seq ?_
  obtain ⟨r3, hr3, hm4⟩ := bs hm2
  clear hm2
  obtain ⟨x5, hx5, hm6⟩ := bs hm4
  clear hm4
  obtain ⟨b5, o5, l5, T5, fr5, c5, hv5, hR5, he5, hi5⟩ := RoS.ne h0.2 hx5
  refine c_any mixed (effs := []) (V := []) ?_
  refine stage_ext [(0, pt b0 3), (1, g0_.Door), (2, .agg [vI a0.Wide, vW a0.Seed, g0_.Rows.1, g0_.Door, vI a0.Added].toArray), (3, vS a1), (4, vI r3), (5, pt b5 (o5 + r3.toNat * 1)), (6, vB x5)] rfl ?_
  refine stage rfl rfl rfl rfl [0, 1, 0, 0, 12, 31, 63] [0, 1, 2, 3, 4, 5, 6] [] rfl rfl rfl (qc rfl rfl (s_u (o_fa fa31_3 rfl)) (qc rfl rfl (s_u (o_ld 0 sc29 rfl rfl rfl)) (qc rfl rfl (s_u (o_ldn 0 [vI a0.Wide, vW a0.Seed, g0_.Rows.1, g0_.Door, vI a0.Added] ag31 rfl rfl rfl rfl)) (qc rfl rfl (s_u (o_mv rfl)) (qc rfl rfl (s_u (o_callq ca41 rfl (hawthornref05_Sketch_place.ok a0 (⟨(g0_.Rows.1, []), g0_.Door⟩ : hawthornref05_Sketch.G) ⟨h0.1, h0.2⟩ a1 4 r3 hr3))) (qc rfl rfl (s_u (o_ix (sz := 1) Tryz.underlying29 (fun _ => by kernel_rfl) rfl rfl hv5 hi5)) (qc rfl rfl (s_u (o_ldR sc4 rfl hR5 (rok 0 he5 (by decide)))) qn))))))) en ?_
  intro _
  refine ex_sub (E' := [(5, vI r1), (15, vB x5)]) ⟨rfl, rfl, trivial⟩ ?_
  refine x_seq ?_
  refine c_if (b := x5) rfl (fun h7 => ?_) fun h7 => ?_
  · have hm8 := ift hm6 h7
    clear hm6
    refine c_reg ?_
    refine r_u (o_mv rfl) ?_
    refine r_u (o_bin rfl rfl (bI_add r1 1)) ?_
    refine r_u (o_as rfl) ?_
    refine r_nil ?_
    refine x_seq ?_
    refine c_seq ?_
    refine c_reg ?_
    refine r_u (o_mv rfl) ?_
    refine r_u (o_as rfl) ?_
    refine r_nil ?_
    refine x_seq ?_
    refine c_ret ?_
    obtain rfl := Option.some.inj hm8
    refine ex_st (fun _ h => st_pk 1 [] (by decide) h) ?_
    exact x_r1 rfl (rv_t rfl) (Le.refl _) ⟨_, rfl, rfl, rfl, rfl⟩
  · have hm8 := iff_ hm6 h7
    clear hm6
    refine c_skip ?_
    refine x_seq ?_
    refine c_seq ?_
    refine c_reg ?_
    refine r_u (o_mv rfl) ?_
    refine r_u (o_as rfl) ?_
    refine r_nil ?_
    refine x_seq ?_
    refine c_ret ?_
    obtain rfl := Option.some.inj hm8
    refine ex_st (fun _ h => st_pk 1 [] (by decide) h) ?_
    exact x_r1 rfl (rv_t rfl) (Le.refl _) ⟨_, rfl, rfl, rfl, rfl⟩

def hawthornref08_Tiny_Insert (a0 : hawthornref08_Tiny) (a1 : Str) : Option (hawthornref08_Tiny × List Str) :=
  if decide (64 < (a1.length : Int)) then some (a0, []) else (hawthornref08_Tiny_Touch a0 a1).bind fun r4 => if r4.2 then some (r4.1, []) else (hawthornref05_Sketch_Add a0.S a1).bind fun r18 => (hawthornref08_Tiny_front (⟨a0.Most, r18, a0.R⟩ : hawthornref08_Tiny) 0 a1).bind fun r33 => lt (hawthornref08_Parts r33.Most) fun r44 => (gi r33.R.L 0).bind fun x46 => if decide ((x46.length : Int) ≤ r44.1) then some (r33, []) else (hawthornref06_Rings_Back r33.R 0).bind fun r51 => (hawthornref08_Tiny_Len r33).bind fun r53 => if decide (r53 ≤ r33.Most) then (hawthornref08_Tiny_front r33 1 r51.1).bind fun r57 => some (r57, []) else (hawthornref06_Rings_Back r33.R 1).bind fun r68 => Option.bind (if !r68.2 then (hawthornref06_Rings_Back r33.R 2).bind fun r117 => some (r117.1, r117.2) else some (r68.1, r68.2)) fun p70 => Option.bind (if p70.2 then (hawthornref05_Sketch_Seen r33.S r51.1).bind fun r111 => (hawthornref05_Sketch_Seen r33.S p70.1).bind fun r113 => some (decide (r113 < r111)) else some false) fun p74 => if p74 then (hawthornref06_Rings_Drop r33.R p70.1).bind fun r80 => (hawthornref08_Tiny_front (⟨r33.Most, r33.S, r80⟩ : hawthornref08_Tiny) 1 r51.1).bind fun r88 => some (r88, [p70.1]) else (hawthornref06_Rings_Drop r33.R r51.1).bind fun r100 => some ((⟨r33.Most, r33.S, r100⟩ : hawthornref08_Tiny), [r51.1])
theorem hawthornref08_Tiny_Insert.ok {G R F} (a0 : hawthornref08_Tiny) (g0_ : hawthornref08_Tiny.G) (h0 : hawthornref08_Tiny.ro R a0 g0_) (a1 : Str) (r : hawthornref08_Tiny × List Str) (hm : hawthornref08_Tiny_Insert a0 a1 = some r) : CO Tryz.prog 33 [.agg [vI a0.Most, vI a0.S.Wide, vW a0.S.Seed, g0_.S.Rows.1, g0_.S.Door, vI a0.S.Added, g0_.R.L.1, vI a0.R.Places].toArray, vS a1] G R (F)
    (Ret fun u R' L' => ∃ (p0 : hawthornref08_Tiny.G) (p1 : Value), u = .tuple #[.agg [vI r.1.Most, vI r.1.S.Wide, vW r.1.S.Seed, p0.S.Rows.1, p0.S.Door, vI r.1.S.Added, p0.R.L.1, vI r.1.R.Places].toArray, p1] ∧ (hawthornref08_Tiny.ro R' r.1 p0) ∧ L' = OwS true 9 1 eS p1 r.2 :: F) := by
  unfold hawthornref08_Tiny_Insert at hm
  refine co_ofN (N := 107) Tryz.func33 rfl rfl ?_
  refine c_seq ?_
  refine c_reg ?_
  refine r_new (o_bx [vI a0.Most, vI a0.S.Wide, vW a0.S.Seed, g0_.S.Rows.1, g0_.S.Door, vI a0.S.Added, g0_.R.L.1, vI a0.R.Places] rfl rfl) fun b0 => ?_
  refine r_new (o_al ze36) fun b1 => ?_
  refine r_u (o_as rfl) ?_
  refine r_nil ?_
  refine x_seq ?_
  refine c_seq ?_
  refine c_seq ?_
  refine c_reg ?_
  refine r_u (o_mv rfl) ?_
  refine r_u (o_lenS Tryz.underlying9 rfl) ?_
  refine r_u (o_bin rfl rfl (bI_gt (a1.length : Int) 64)) ?_
  refine r_nil ?_
  refine x_seq ?_
  refine c_if (b := decide (64 < (a1.length : Int))) rfl (fun h2 => ?_) fun h2 => ?_
  · have hm3 := ift hm h2
    clear hm
    refine c_seq ?_
    refine c_reg ?_
    refine r_u (o_ldn 1 [vI a0.Most, vI a0.S.Wide, vW a0.S.Seed, g0_.S.Rows.1, g0_.S.Door, vI a0.S.Added, g0_.R.L.1, vI a0.R.Places] ag36 rfl rfl rfl rfl) ?_
    refine r_u0 (o_stn ag36 rfl rfl rfl (al_c rfl (al_c rfl (al_c rfl (al_c (RoN.one h0.1.1) (al_c (RoS.one h0.1.2) (al_c rfl (al_c (RoN.one h0.2) (al_c rfl al_n)))))))) rfl rfl rfl) ?_
    refine r_u (o_as rfl) ?_
    refine r_nil ?_
    refine x_seq ?_
    refine c_ret ?_
    refine ex_st (fun _ h => st_nil (ap := true) (T := 9) (sz := 1) (en := eS) h) ?_
    obtain rfl := Option.some.inj hm3
    exact x_d2 rfl (rv_n 1 [vI a0.Most, vI a0.S.Wide, vW a0.S.Seed, g0_.S.Rows.1, g0_.S.Door, vI a0.S.Added, g0_.R.L.1, vI a0.R.Places] ag36 rfl rfl rfl rfl) (rv_t rfl) (fun _ h => st_pk 3 [0] (by decide) h) (Le.refl _) ⟨_, rfl, (⟨(⟨(g0_.S.Rows.1, []), g0_.S.Door⟩ : hawthornref05_Sketch.G), (⟨(g0_.R.L.1, [])⟩ : hawthornref06_Rings.G)⟩ : hawthornref08_Tiny.G), (.slice none 0 0), rfl, ⟨⟨h0.1.1, h0.1.2⟩, h0.2⟩, rfl⟩
  · have hm3 := iff_ hm h2
    clear hm
    refine c_skip ?_
    refine x_seq ?_
    refine c_seq ?_
    refine c_seq ?_
    refine c_reg ?_
    refine r_u (o_ldn 1 [vI a0.Most, vI a0.S.Wide, vW a0.S.Seed, g0_.S.Rows.1, g0_.S.Door, vI a0.S.Added, g0_.R.L.1, vI a0.R.Places] ag36 rfl rfl rfl rfl) ?_
    refine r_u (o_mv rfl) ?_
    obtain ⟨r4, hr4, hm14⟩ := bs hm3
    clear hm3
    refine r_sw (s_w (o_call ca25 rfl (hawthornref08_Tiny_Touch.ok a0 (⟨(⟨(g0_.S.Rows.1, []), g0_.S.Door⟩ : hawthornref05_Sketch.G), (⟨(g0_.R.L.1, [])⟩ : hawthornref06_Rings.G)⟩ : hawthornref08_Tiny.G) ⟨⟨h0.1.1, h0.1.2⟩, h0.2⟩ a1 r4 hr4))) ?_
    rintro _ R12 _ le13 ⟨v5, rfl, hf6, rfl⟩
    refine r_u (o_mv rfl) ?_
    refine r_u (o_ext rfl rfl) ?_
    refine r_u (o_ext rfl rfl) ?_
    refine r_new (o_al ze36) fun b15 => ?_
    refine r_u0 (o_stn ag36 rfl rfl rfl (al_c rfl (al_c rfl (al_c rfl (al_c (RoN.one hf6.1.1) (al_c (RoS.one hf6.1.2) (al_c rfl (al_c (RoN.one hf6.2) (al_c rfl al_n)))))))) rfl rfl rfl) ?_
    refine r_u (o_as rfl) ?_
    refine r_nil ?_
    refine x_seq ?_
    refine c_seq ?_
    refine c_reg ?_
    refine r_u (o_mv rfl) ?_
    refine r_nil ?_
    refine x_seq ?_
    refine c_if (b := r4.2) rfl (fun h16 => ?_) fun h16 => ?_
    · have hm17 := ift hm14 h16
      clear hm14
      refine c_seq ?_
      refine c_reg ?_
      refine r_u (o_ldn 0 [vI r4.1.Most, vI r4.1.S.Wide, vW r4.1.S.Seed, v5.S.Rows.1, v5.S.Door, vI r4.1.S.Added, v5.R.L.1, vI r4.1.R.Places] ag36 rfl rfl rfl rfl) ?_
      refine rl_st (fun _ h => mv1 h) ?_
      refine r_u0 (o_stn ag36 rfl rfl rfl (al_c rfl (al_c rfl (al_c rfl (al_c (RoN.one hf6.1.1) (al_c (RoS.one hf6.1.2) (al_c rfl (al_c (RoN.one hf6.2) (al_c rfl al_n)))))))) rfl rfl rfl) ?_
      refine r_u (o_as rfl) ?_
      refine r_nil ?_
      refine x_seq ?_
      refine c_ret ?_
      refine ex_st (fun _ h => st_nil (ap := true) (T := 9) (sz := 1) (en := eS) h) ?_
      obtain rfl := Option.some.inj hm17
      exact x_d2 rfl (rv_n 1 [vI r4.1.Most, vI r4.1.S.Wide, vW r4.1.S.Seed, v5.S.Rows.1, v5.S.Door, vI r4.1.S.Added, v5.R.L.1, vI r4.1.R.Places] ag36 rfl rfl rfl rfl) (rv_t rfl) (fun _ h => st_pk 4 [0] (by decide) h) le13 ⟨_, rfl, (⟨(⟨(v5.S.Rows.1, []), v5.S.Door⟩ : hawthornref05_Sketch.G), (⟨(v5.R.L.1, [])⟩ : hawthornref06_Rings.G)⟩ : hawthornref08_Tiny.G), (.slice none 0 0), rfl, ⟨⟨hf6.1.1, hf6.1.2⟩, hf6.2⟩, rfl⟩
    · have hm17 := iff_ hm14 h16
      clear hm14
      refine c_skip ?_
      refine x_seq ?_
      refine c_seq ?_
      refine c_reg ?_
      refine r_u (o_fa fa36_1 rfl) ?_
      refine r_u (o_ldn 2 [vI a0.S.Wide, vW a0.S.Seed, g0_.S.Rows.1, g0_.S.Door, vI a0.S.Added] ag31 rfl rfl rfl rfl) ?_
      refine r_u (o_mv rfl) ?_
      obtain ⟨r18, hr18, hm24⟩ := bs hm17
      clear hm17
      refine r_sw (s_w (o_call ca55 rfl (hawthornref05_Sketch_Add.ok a0.S (⟨(g0_.S.Rows.1, []), g0_.S.Door⟩ : hawthornref05_Sketch.G) ⟨(RoN.mono le13 h0.1.1), (RoS.mono le13 h0.1.2)⟩ a1 r18 hr18))) ?_
      rintro _ R22 _ le23 ⟨v19, rfl, _, rfl⟩
      refine r_u (o_fa fa36_1 rfl) ?_
      refine rl_st (fun _ h => mv5 (mv1 (mv2 h))) ?_
      refine r_u0 (ou_if (one_o 1 rfl) fun ho0 => ou_if (one_o 2 rfl) fun ho1 => o_stn ag31 rfl rfl rfl (al_c rfl (al_c rfl (al_c ho0 (al_c ho1 (al_c rfl al_n))))) rfl rfl rfl) ?_
      refine r_nil ?_
      refine x_seq ?_
      refine c_seq ?_
      refine c_reg ?_
      refine r_u (o_ldn 0 [vI a0.Most, vI r18.Wide, vW r18.Seed, v19.Rows.1, v19.Door, vI r18.Added, g0_.R.L.1, vI a0.R.Places] ag36 rfl rfl rfl rfl) ?_
      refine r_u (o_mv rfl) ?_
      refine rl_st (fun _ h => mv2 (mv3 h)) ?_
      refine rl_ex (fun w h => st_freezeN w h) fun R25 hf28 => ?_
      obtain ⟨le26, h27⟩ := hf28
      refine rl_st (fun _ h => mv1 h) ?_
      refine rl_ex (fun w h => st_freeze w h) fun R29 hf32 => ?_
      obtain ⟨le30, h31⟩ := hf32
      obtain ⟨r33, hr33, hm43⟩ := bs hm24
      clear hm24
      refine r_sw (s_w (o_call ca56 rfl (hawthornref08_Tiny_front.ok (⟨a0.Most, r18, a0.R⟩ : hawthornref08_Tiny) (⟨(⟨(v19.Rows.1, []), v19.Door⟩ : hawthornref05_Sketch.G), (⟨(g0_.R.L.1, [])⟩ : hawthornref06_Rings.G)⟩ : hawthornref08_Tiny.G) ⟨⟨(RoN.mono le30 h27), h31⟩, (RoN.mono (Le.trans (Le.trans (Le.trans le13 le23) le26) le30) h0.2)⟩ 0 a1 r33 hr33))) ?_
      rintro _ R41 _ le42 ⟨v34, rfl, hf35, rfl⟩
      refine r_u0 (o_stn ag36 rfl rfl rfl (al_c rfl (al_c rfl (al_c rfl (al_c (RoN.one hf35.1.1) (al_c (RoS.one hf35.1.2) (al_c rfl (al_c (RoN.one hf35.2) (al_c rfl al_n)))))))) rfl rfl rfl) ?_
      refine r_nil ?_
      refine x_seq ?_
      refine c_seq ?_
      refine c_reg ?_
      refine r_u (o_fa fa36_0 rfl) ?_
      refine r_u (o_ld 0 sc3 rfl rfl rfl) ?_
      obtain ⟨r44, hr44, hm45⟩ := ltx hm43
      clear hm43
      refine r_u (o_callq ca57 rfl (hawthornref08_Parts.ok r33.Most r44 hr44)) ?_
      refine r_u (o_mv rfl) ?_
      refine r_u (o_ext rfl rfl) ?_
      refine r_u (o_ext rfl rfl) ?_
      refine r_u (o_as rfl) ?_
      refine r_u (o_as rfl) ?_
      refine r_nil ?_
      refine x_seq ?_
      refine c_seq ?_
      refine c_seq ?_
      refine c_reg ?_
      refine r_u (o_fa fa36_2 rfl) ?_
      refine r_u (o_fa fa34_0 rfl) ?_
      refine r_u (o_ld 0 sc32 rfl rfl rfl) ?_
      obtain ⟨x46, hx46, hm48⟩ := bs hm45
      clear hm45
      obtain ⟨b46, o46, l46, T46, fr46, c46, u47, hv46, hR46, he46, hi46, hN46⟩ := RoN.ne hf35.2 hx46
      refine r_u (o_ix (sz := 1) Tryz.underlying32 (fun _ => by kernel_rfl) rfl rfl hv46 hi46) ?_
      refine r_u (o_ldR sc60 rfl hR46 (rok 0 he46 (by decide))) ?_
      refine r_u (o_lenR Tryz.underlying60 rfl hN46) ?_
      refine r_u (o_mv rfl) ?_
      refine r_u (o_bin rfl rfl (bI_le (x46.length : Int) r44.1)) ?_
      refine r_nil ?_
      refine x_seq ?_
      refine c_if (b := decide ((x46.length : Int) ≤ r44.1)) rfl (fun h49 => ?_) fun h49 => ?_
      · have hm50 := ift hm48 h49
        clear hm48
        refine c_seq ?_
        refine c_reg ?_
        refine r_u (o_ldn 0 [vI r33.Most, vI r33.S.Wide, vW r33.S.Seed, v34.S.Rows.1, v34.S.Door, vI r33.S.Added, v34.R.L.1, vI r33.R.Places] ag36 rfl rfl rfl rfl) ?_
        refine rl_st (fun _ h => mv2 h) ?_
        refine r_u0 (o_stn ag36 rfl rfl rfl (al_c rfl (al_c rfl (al_c rfl (al_c (RoN.one hf35.1.1) (al_c (RoS.one hf35.1.2) (al_c rfl (al_c (RoN.one hf35.2) (al_c rfl al_n)))))))) rfl rfl rfl) ?_
        refine r_u (o_as rfl) ?_
        refine r_nil ?_
        refine x_seq ?_
        refine c_ret ?_
        refine ex_st (fun _ h => st_nil (ap := true) (T := 9) (sz := 1) (en := eS) h) ?_
        obtain rfl := Option.some.inj hm50
        exact x_d2 rfl (rv_n 1 [vI r33.Most, vI r33.S.Wide, vW r33.S.Seed, v34.S.Rows.1, v34.S.Door, vI r33.S.Added, v34.R.L.1, vI r33.R.Places] ag36 rfl rfl rfl rfl) (rv_t rfl) (fun _ h => st_pk 4 [0] (by decide) h) (Le.trans (Le.trans (Le.trans (Le.trans le13 le23) le26) le30) le42) ⟨_, rfl, (⟨(⟨(v34.S.Rows.1, []), v34.S.Door⟩ : hawthornref05_Sketch.G), (⟨(v34.R.L.1, [])⟩ : hawthornref06_Rings.G)⟩ : hawthornref08_Tiny.G), (.slice none 0 0), rfl, ⟨⟨hf35.1.1, hf35.1.2⟩, hf35.2⟩, rfl⟩
      · have hm50 := iff_ hm48 h49
        clear hm48
        refine c_skip ?_
        refine x_seq ?_
        refine c_seq ?_
        refine c_reg ?_
        refine r_u (o_fa fa36_2 rfl) ?_
        refine r_u (o_ldn 0 [v34.R.L.1, vI r33.R.Places] ag34 rfl rfl rfl rfl) ?_
        obtain ⟨r51, hr51, hm52⟩ := bs hm50
        clear hm50
        refine r_u (o_callq ca58 rfl (hawthornref06_Rings_Back.ok r33.R (⟨(v34.R.L.1, [])⟩ : hawthornref06_Rings.G) hf35.2 0 r51 hr51)) ?_
        refine r_u (o_mv rfl) ?_
        refine r_u (o_ext rfl rfl) ?_
        refine r_u (o_ext rfl rfl) ?_
        refine r_u (o_as rfl) ?_
        refine r_u (o_as rfl) ?_
        refine r_nil ?_
        refine x_seq ?_
        refine c_seq ?_
        refine c_seq ?_
        obtain ⟨r53, hr53, hm54⟩ := bs hm52
        clear hm52
        refine c_any mixed (effs := []) (V := []) ?_
        refine stage_ext [(0, .agg [vI r33.Most, vI r33.S.Wide, vW r33.S.Seed, v34.S.Rows.1, v34.S.Door, vI r33.S.Added, v34.R.L.1, vI r33.R.Places].toArray), (1, vI r53), (2, pt b0 0), (3, vI r33.Most), (4, vB (decide (r53 ≤ r33.Most)))] rfl ?_
        refine stage rfl rfl rfl rfl [0, 1, 0, 4, 15] [0, 1, 2, 3, 4] [] rfl rfl rfl (qc rfl rfl (s_u (o_ldn 0 [vI r33.Most, vI r33.S.Wide, vW r33.S.Seed, v34.S.Rows.1, v34.S.Door, vI r33.S.Added, v34.R.L.1, vI r33.R.Places] ag36 rfl rfl rfl rfl)) (qc rfl rfl (s_u (o_callq ca36 rfl (hawthornref08_Tiny_Len.ok r33 (⟨(⟨(v34.S.Rows.1, []), v34.S.Door⟩ : hawthornref05_Sketch.G), (⟨(v34.R.L.1, [])⟩ : hawthornref06_Rings.G)⟩ : hawthornref08_Tiny.G) ⟨⟨hf35.1.1, hf35.1.2⟩, hf35.2⟩ r53 hr53))) (qc rfl rfl (s_u (o_fa fa36_0 rfl)) (qc rfl rfl (s_u (o_ld 0 sc3 rfl rfl rfl)) (qc rfl rfl (s_u (o_bin rfl rfl (bI_le r53 r33.Most))) qn))))) en ?_
        intro _
        refine ex_sub (E' := [(2, pt b0 0), (4, pt b1 0), (10, vS r51.1), (59, vB (decide (r53 ≤ r33.Most)))]) ⟨rfl, rfl, rfl, rfl, trivial⟩ ?_
        refine x_seq ?_
        refine c_if (b := decide (r53 ≤ r33.Most)) rfl (fun h55 => ?_) fun h55 => ?_
        · have hm56 := ift hm54 h55
          clear hm54
          refine c_seq ?_
          refine c_reg ?_
          refine r_u (o_ldn 0 [vI r33.Most, vI r33.S.Wide, vW r33.S.Seed, v34.S.Rows.1, v34.S.Door, vI r33.S.Added, v34.R.L.1, vI r33.R.Places] ag36 rfl rfl rfl rfl) ?_
          refine r_u (o_mv rfl) ?_
          obtain ⟨r57, hr57, hm67⟩ := bs hm56
          clear hm56
          refine r_sw (s_w (o_call ca56 rfl (hawthornref08_Tiny_front.ok r33 (⟨(⟨(v34.S.Rows.1, []), v34.S.Door⟩ : hawthornref05_Sketch.G), (⟨(v34.R.L.1, [])⟩ : hawthornref06_Rings.G)⟩ : hawthornref08_Tiny.G) ⟨⟨hf35.1.1, hf35.1.2⟩, hf35.2⟩ 1 r51.1 r57 hr57))) ?_
          rintro _ R65 _ le66 ⟨v58, rfl, hf59, rfl⟩
          refine rl_st (fun _ h => mv2 h) ?_
          refine r_u0 (o_stn ag36 rfl rfl rfl (al_c rfl (al_c rfl (al_c rfl (al_c (RoN.one hf59.1.1) (al_c (RoS.one hf59.1.2) (al_c rfl (al_c (RoN.one hf59.2) (al_c rfl al_n)))))))) rfl rfl rfl) ?_
          refine r_u (o_as rfl) ?_
          refine r_nil ?_
          refine x_seq ?_
          refine c_ret ?_
          refine ex_st (fun _ h => st_nil (ap := true) (T := 9) (sz := 1) (en := eS) h) ?_
          obtain rfl := Option.some.inj hm67
          exact x_d2 rfl (rv_n 1 [vI r57.Most, vI r57.S.Wide, vW r57.S.Seed, v58.S.Rows.1, v58.S.Door, vI r57.S.Added, v58.R.L.1, vI r57.R.Places] ag36 rfl rfl rfl rfl) (rv_t rfl) (fun _ h => st_pk 4 [0] (by decide) h) (Le.trans (Le.trans (Le.trans (Le.trans (Le.trans le13 le23) le26) le30) le42) le66) ⟨_, rfl, (⟨(⟨(v58.S.Rows.1, []), v58.S.Door⟩ : hawthornref05_Sketch.G), (⟨(v58.R.L.1, [])⟩ : hawthornref06_Rings.G)⟩ : hawthornref08_Tiny.G), (.slice none 0 0), rfl, ⟨⟨hf59.1.1, hf59.1.2⟩, hf59.2⟩, rfl⟩
        · have hm56 := iff_ hm54 h55
          clear hm54
          refine c_skip ?_
          refine x_seq ?_
          refine c_seq ?_
          refine c_reg ?_
          refine r_u (o_fa fa36_2 rfl) ?_
          refine r_u (o_ldn 0 [v34.R.L.1, vI r33.R.Places] ag34 rfl rfl rfl rfl) ?_
          obtain ⟨r68, hr68, hm69⟩ := bs hm56
          clear hm56
          refine r_u (o_callq ca58 rfl (hawthornref06_Rings_Back.ok r33.R (⟨(v34.R.L.1, [])⟩ : hawthornref06_Rings.G) hf35.2 1 r68 hr68)) ?_
          refine r_u (o_mv rfl) ?_
          refine r_u (o_ext rfl rfl) ?_
          refine r_u (o_ext rfl rfl) ?_
          refine r_u (o_as rfl) ?_
          refine r_u (o_as rfl) ?_
          refine r_nil ?_
          refine x_seq ?_
          refine c_seq ?_
          refine c_seq ?_
          refine c_reg ?_
          refine r_u (o_mv rfl) ?_
          refine r_u (o_not rfl) ?_
          refine r_nil ?_
          refine x_seq ?_
          obtain ⟨p70, hp71, hm72⟩ := bs hm69
          refine cd_join (E' := [(2, pt b0 0), (4, pt b1 0), (10, vS r51.1), (12, vS p70.1), (13, vB p70.2)]) (L' := Bk b0 36 [vI r33.Most, vI r33.S.Wide, vW r33.S.Seed, v34.S.Rows.1, v34.S.Door, vI r33.S.Added, v34.R.L.1, vI r33.R.Places] :: Bk b15 36 [vI r4.1.Most, vI r4.1.S.Wide, vW r4.1.S.Seed, v5.S.Rows.1, v5.S.Door, vI r4.1.S.Added, v5.R.L.1, vI r4.1.R.Places] :: Bk b1 36 [vI 0, vI 0, vW 0, .slice none 0 0, .slice none 0 0, vI 0, .slice none 0 0, vI 0] :: F) ?_ fun K73 => ?_
          · refine x_seq ?_
            refine c_seq ?_
            refine c_seq ?_
            obtain ⟨p74, hp75, hm76⟩ := bs hm72
            refine cd_join (E' := [(2, pt b0 0), (4, pt b1 0), (10, vS r51.1), (12, vS p70.1), (88, vB p74)]) (L' := Bk b0 36 [vI r33.Most, vI r33.S.Wide, vW r33.S.Seed, v34.S.Rows.1, v34.S.Door, vI r33.S.Added, v34.R.L.1, vI r33.R.Places] :: Bk b15 36 [vI r4.1.Most, vI r4.1.S.Wide, vW r4.1.S.Seed, v5.S.Rows.1, v5.S.Door, vI r4.1.S.Added, v5.R.L.1, vI r4.1.R.Places] :: Bk b1 36 [vI 0, vI 0, vW 0, .slice none 0 0, .slice none 0 0, vI 0, .slice none 0 0, vI 0] :: F) ?_ fun K77 => ?_
            · refine x_seq ?_
              refine c_if (b := p74) rfl (fun h78 => ?_) fun h78 => ?_
              · have hm79 := ift hm76 h78
                clear hm76
                refine c_seq ?_
                refine c_reg ?_
                refine r_u (o_fa fa36_2 rfl) ?_
                refine r_u (o_ldn 0 [v34.R.L.1, vI r33.R.Places] ag34 rfl rfl rfl rfl) ?_
                refine r_u (o_mv rfl) ?_
                obtain ⟨r80, hr80, hm83⟩ := bs hm79
                clear hm79
                refine r_sw (s_w (o_call ca59 rfl (hawthornref06_Rings_Drop.ok r33.R (⟨(v34.R.L.1, [])⟩ : hawthornref06_Rings.G) hf35.2 p70.1 r80 hr80))) ?_
                rintro _ R41 _ _ ⟨v81, rfl, rfl, rfl⟩
                refine r_u (o_fa fa36_2 rfl) ?_
                refine rl_st (fun _ h => mv2 h) ?_
                refine r_u0 (ou_if (one_o 1 rfl) fun ho0 => o_stn ag34 rfl rfl rfl (al_c ho0 (al_c rfl al_n)) rfl rfl rfl) ?_
                refine r_nil ?_
                refine x_seq ?_
                refine c_seq ?_
                refine c_reg ?_
                refine r_u (o_ldn 0 [vI r33.Most, vI r33.S.Wide, vW r33.S.Seed, v34.S.Rows.1, v34.S.Door, vI r33.S.Added, v81.L.1, vI r80.Places] ag36 rfl rfl rfl rfl) ?_
                refine r_u (o_mv rfl) ?_
                refine rl_st (fun _ h => mv2 (mv2 h)) ?_
                refine rl_ex (fun w h => st_freezeN w h) fun R84 hf87 => ?_
                obtain ⟨le85, h86⟩ := hf87
                obtain ⟨r88, hr88, hm98⟩ := bs hm83
                clear hm83
                refine r_sw (s_w (o_call ca56 rfl (hawthornref08_Tiny_front.ok (⟨r33.Most, r33.S, r80⟩ : hawthornref08_Tiny) (⟨(⟨(v34.S.Rows.1, []), v34.S.Door⟩ : hawthornref05_Sketch.G), (⟨(v81.L.1, [])⟩ : hawthornref06_Rings.G)⟩ : hawthornref08_Tiny.G) ⟨⟨(RoN.mono le85 hf35.1.1), (RoS.mono le85 hf35.1.2)⟩, h86⟩ 1 r51.1 r88 hr88))) ?_
                rintro _ R96 _ le97 ⟨v89, rfl, hf90, rfl⟩
                refine r_u (o_mv rfl) ?_
                refine r_sw (s_w (o_bsl (en := eS) (sz := 1) (e := 9) (cs := [vS p70.1]) (r := [p70.1]) rfl (fun _ => by kernel_rfl) rfl (by decide) rfl (fun _ => rfl))) ?_
                rintro v99 R96 _ _ ⟨rfl, rfl⟩
                refine rl_st (fun _ h => mv3 h) ?_
                refine r_u0 (o_stn ag36 rfl rfl rfl (al_c rfl (al_c rfl (al_c rfl (al_c (RoN.one hf90.1.1) (al_c (RoS.one hf90.1.2) (al_c rfl (al_c (RoN.one hf90.2) (al_c rfl al_n)))))))) rfl rfl rfl) ?_
                refine r_u (o_as rfl) ?_
                refine r_nil ?_
                refine x_seq ?_
                refine c_ret ?_
                obtain rfl := Option.some.inj hm98
                exact x_d2 rfl (rv_n 0 [vI r88.Most, vI r88.S.Wide, vW r88.S.Seed, v89.S.Rows.1, v89.S.Door, vI r88.S.Added, v89.R.L.1, vI r88.R.Places] ag36 rfl rfl rfl rfl) (rv_t rfl) (fun _ h => st_pk 4 [1] (by decide) h) (Le.trans (Le.trans (Le.trans (Le.trans (Le.trans (Le.trans le13 le23) le26) le30) le42) le85) le97) ⟨_, rfl, (⟨(⟨(v89.S.Rows.1, []), v89.S.Door⟩ : hawthornref05_Sketch.G), (⟨(v89.R.L.1, [])⟩ : hawthornref06_Rings.G)⟩ : hawthornref08_Tiny.G), v99, rfl, ⟨⟨hf90.1.1, hf90.1.2⟩, hf90.2⟩, rfl⟩
              · have hm79 := iff_ hm76 h78
                clear hm76
                refine c_skip ?_
                refine x_seq ?_
                refine c_seq ?_
                refine c_reg ?_
                refine r_u (o_fa fa36_2 rfl) ?_
                refine r_u (o_ldn 0 [v34.R.L.1, vI r33.R.Places] ag34 rfl rfl rfl rfl) ?_
                refine r_u (o_mv rfl) ?_
                obtain ⟨r100, hr100, hm103⟩ := bs hm79
                clear hm79
                refine r_sw (s_w (o_call ca59 rfl (hawthornref06_Rings_Drop.ok r33.R (⟨(v34.R.L.1, [])⟩ : hawthornref06_Rings.G) hf35.2 r51.1 r100 hr100))) ?_
                rintro _ R41 _ _ ⟨v101, rfl, rfl, rfl⟩
                refine r_u (o_fa fa36_2 rfl) ?_
                refine rl_st (fun _ h => mv2 h) ?_
                refine r_u0 (ou_if (one_o 1 rfl) fun ho0 => o_stn ag34 rfl rfl rfl (al_c ho0 (al_c rfl al_n)) rfl rfl rfl) ?_
                refine r_nil ?_
                refine x_seq ?_
                refine c_seq ?_
                refine c_reg ?_
                refine r_u (o_ldn 0 [vI r33.Most, vI r33.S.Wide, vW r33.S.Seed, v34.S.Rows.1, v34.S.Door, vI r33.S.Added, v101.L.1, vI r100.Places] ag36 rfl rfl rfl rfl) ?_
                refine r_u (o_mv rfl) ?_
                refine r_sw (s_w (o_bsl (en := eS) (sz := 1) (e := 9) (cs := [vS r51.1]) (r := [r51.1]) rfl (fun _ => by kernel_rfl) rfl (by decide) rfl (fun _ => rfl))) ?_
                rintro v104 R41 _ _ ⟨rfl, rfl⟩
                refine rl_st (fun _ h => mv5 (mv2 h)) ?_
                refine r_u0 (ou_if (one_o 1 rfl) fun ho0 => o_stn ag36 rfl rfl rfl (al_c rfl (al_c rfl (al_c rfl (al_c (RoN.one hf35.1.1) (al_c (RoS.one hf35.1.2) (al_c rfl (al_c ho0 (al_c rfl al_n)))))))) rfl rfl rfl) ?_
                refine r_u (o_as rfl) ?_
                refine r_nil ?_
                refine x_seq ?_
                refine c_ret ?_
                refine ex_st (fun _ h => mv2 (mv4 h)) ?_
                refine ex_ex (fun w h => st_freezeN w h) fun R105 hf108 => ?_
                obtain ⟨le106, h107⟩ := hf108
                obtain rfl := Option.some.inj hm103
                exact x_d2 rfl (rv_n 0 [vI r33.Most, vI r33.S.Wide, vW r33.S.Seed, v34.S.Rows.1, v34.S.Door, vI r33.S.Added, v101.L.1, vI r100.Places] ag36 rfl rfl rfl rfl) (rv_t rfl) (fun _ h => st_pk 4 [1] (by decide) h) (Le.trans (Le.trans (Le.trans (Le.trans (Le.trans le13 le23) le26) le30) le42) le106) ⟨_, rfl, (⟨(⟨(v34.S.Rows.1, []), v34.S.Door⟩ : hawthornref05_Sketch.G), (⟨(v101.L.1, [])⟩ : hawthornref06_Rings.G)⟩ : hawthornref08_Tiny.G), v104, rfl, ⟨⟨(RoN.mono le106 hf35.1.1), (RoS.mono le106 hf35.1.2)⟩, h107⟩, rfl⟩
            · refine cd_by p70.2 (fun h109 => ?_) fun h109 => ?_
              · have hm110 := ift hp75 h109
                clear hp75
                obtain ⟨r111, hr111, hm112⟩ := bs hm110
                clear hm110
                obtain ⟨r113, hr113, hm114⟩ := bs hm112
                clear hm112
                refine c_any mixed (effs := []) (V := []) ?_
                refine stage_ext [(0, vB p70.2), (1, vB p70.2), (2, pt b0 1), (3, .agg [vI r33.S.Wide, vW r33.S.Seed, v34.S.Rows.1, v34.S.Door, vI r33.S.Added].toArray), (4, vS r51.1), (5, vI r111), (6, pt b0 1), (7, .agg [vI r33.S.Wide, vW r33.S.Seed, v34.S.Rows.1, v34.S.Door, vI r33.S.Added].toArray), (8, vS p70.1), (9, vI r113), (10, vB (decide (r113 < r111))), (11, vB (decide (r113 < r111)))] rfl ?_
                refine stage rfl rfl rfl rfl [0, 1, 3, 7, 3, 31, 3, 67, 3, 511, 1023, 2047] [0, 1, 2, 3, 4, 5, 6, 7, 8, 9, 10, 11] [] rfl rfl rfl (qc rfl rfl (s_u (o_mv rfl)) (qc rfl rfl (s_u (o_mv rfl)) (qc rfl rfl (s_y rfl rfl h109 (o_fa fa36_1 rfl)) (qc rfl rfl (s_y rfl rfl h109 (o_ldn 0 [vI r33.S.Wide, vW r33.S.Seed, v34.S.Rows.1, v34.S.Door, vI r33.S.Added] ag31 rfl rfl rfl rfl)) (qc rfl rfl (s_y rfl rfl h109 (o_mv rfl)) (qc rfl rfl (s_y rfl rfl h109 (o_callq ca13 rfl (hawthornref05_Sketch_Seen.ok r33.S (⟨(v34.S.Rows.1, []), v34.S.Door⟩ : hawthornref05_Sketch.G) ⟨hf35.1.1, hf35.1.2⟩ r51.1 r111 hr111))) (qc rfl rfl (s_y rfl rfl h109 (o_fa fa36_1 rfl)) (qc rfl rfl (s_y rfl rfl h109 (o_ldn 0 [vI r33.S.Wide, vW r33.S.Seed, v34.S.Rows.1, v34.S.Door, vI r33.S.Added] ag31 rfl rfl rfl rfl)) (qc rfl rfl (s_y rfl rfl h109 (o_mv rfl)) (qc rfl rfl (s_y rfl rfl h109 (o_callq ca13 rfl (hawthornref05_Sketch_Seen.ok r33.S (⟨(v34.S.Rows.1, []), v34.S.Door⟩ : hawthornref05_Sketch.G) ⟨hf35.1.1, hf35.1.2⟩ p70.1 r113 hr113))) (qc rfl rfl (s_y rfl rfl h109 (o_bin rfl rfl (bI_gt r111 r113))) (qc rfl rfl (s_u (o_pt rfl h109 rfl)) qn)))))))))))) en ?_
                intro _
                refine ex_sub (E' := [(2, pt b0 0), (4, pt b1 0), (10, vS r51.1), (12, vS p70.1), (88, vB (decide (r113 < r111)))]) ⟨rfl, rfl, rfl, rfl, rfl, trivial⟩ ?_
                obtain rfl := Option.some.inj hm114
                exact x_sub K77 ⟨rfl, rfl, rfl, rfl, rfl, trivial⟩ (fun _ h => st_pk 3 [0, 1, 2] (by decide) h)
              · have hm110 := iff_ hp75 h109
                clear hp75
                refine c_any mixed (effs := []) (V := []) ?_
                refine stage_ext [(0, vB p70.2), (1, vB p70.2), (2, undef), (3, undef), (4, undef), (5, undef), (6, undef), (7, undef), (8, undef), (9, undef), (10, undef), (11, vB false)] rfl ?_
                refine stage rfl rfl rfl rfl [0, 1, 3, 7, 3, 31, 3, 67, 3, 511, 1023, 2047] [0, 1, 2, 3, 4, 5, 6, 7, 8, 9, 10, 11] [] rfl rfl rfl (qc rfl rfl (s_u (o_mv rfl)) (qc rfl rfl (s_u (o_mv rfl)) (qc rfl rfl (s_n rfl rfl h109) (qc rfl rfl (s_n rfl rfl h109) (qc rfl rfl (s_n rfl rfl h109) (qc rfl rfl (s_n rfl rfl h109) (qc rfl rfl (s_n rfl rfl h109) (qc rfl rfl (s_n rfl rfl h109) (qc rfl rfl (s_n rfl rfl h109) (qc rfl rfl (s_n rfl rfl h109) (qc rfl rfl (s_n rfl rfl h109) (qc rfl rfl (s_u (o_pf rfl h109 rfl)) qn)))))))))))) en ?_
                intro _
                refine ex_sub (E' := [(2, pt b0 0), (4, pt b1 0), (10, vS r51.1), (12, vS p70.1), (88, vB false)]) ⟨rfl, rfl, rfl, rfl, rfl, trivial⟩ ?_
                obtain rfl := Option.some.inj hm110
                exact x_sub K77 ⟨rfl, rfl, rfl, rfl, rfl, trivial⟩ (fun _ h => st_pk 3 [0, 1, 2] (by decide) h)
          · refine c_if (b := !r68.2) rfl (fun h115 => ?_) fun h115 => ?_
            · have hm116 := ift hp71 h115
              clear hp71
              refine c_reg ?_
              refine r_u (o_fa fa36_2 rfl) ?_
              refine r_u (o_ldn 0 [v34.R.L.1, vI r33.R.Places] ag34 rfl rfl rfl rfl) ?_
              obtain ⟨r117, hr117, hm118⟩ := bs hm116
              clear hm116
              refine r_u (o_callq ca58 rfl (hawthornref06_Rings_Back.ok r33.R (⟨(v34.R.L.1, [])⟩ : hawthornref06_Rings.G) hf35.2 2 r117 hr117)) ?_
              refine r_u (o_mv rfl) ?_
              refine r_u (o_ext rfl rfl) ?_
              refine r_u (o_ext rfl rfl) ?_
              refine r_u (o_as rfl) ?_
              refine r_u (o_as rfl) ?_
              refine r_nil ?_
              obtain rfl := Option.some.inj hm118
              exact x_sub K73 ⟨rfl, rfl, rfl, rfl, rfl, trivial⟩ (fun _ h => st_pk 3 [0, 1, 2] (by decide) h)
            · have hm116 := iff_ hp71 h115
              clear hp71
              refine c_skip ?_
              obtain rfl := Option.some.inj hm116
              exact x_sub K73 ⟨rfl, rfl, rfl, rfl, rfl, trivial⟩ (fun _ h => st_pk 3 [0, 1, 2] (by decide) h)

def hawthornlaw08_texts_l0 (a0 : List Str) (a1 : List Str) : Nat → Int → Option (Unit ⊕ Bool)
  | 0, _ => none
  | k8 + 1, i_7 => if decide (i_7 < (a0.length : Int)) then (gi a0 i_7).bind fun x13 => (gi a1 i_7).bind fun x15 => if (x13 != x15) then some (Sum.inr false) else hawthornlaw08_texts_l0 a0 a1 k8 (i64 (i_7 + 1)) else some (Sum.inl ())
def hawthornlaw08_texts (a0 : List Str) (a1 : List Str) : Option Bool :=
  if ((a0.length : Int) != (a1.length : Int)) then some false else Option.bind (hawthornlaw08_texts_l0 a0 a1 (((a0.length : Int) - 0).toNat + 1) 0) fun (p2 : Unit ⊕ Bool) => (match p2 with | Sum.inl q3 => some true | Sum.inr r => some r)
theorem hawthornlaw08_texts.ok {G R F} (v0_ : Value) (a0 : List Str) (h0_ : RoS R v0_ 1 (fun x => [vS x]) a0) (v1_ : Value) (a1 : List Str) (h1_ : RoS R v1_ 1 (fun x => [vS x]) a1) (r : Bool) (hm : hawthornlaw08_texts a0 a1 = some r) : CO Tryz.prog 34 [v0_, v1_] G R (F)
    (Ret fun u R' L' => u = vB r ∧ R' = R ∧ L' = F) := by
  unfold hawthornlaw08_texts at hm
  refine co_ofN (N := 26) Tryz.func34 rfl rfl ?_
  refine c_seq ?_
  refine c_reg ?_
  refine r_u (o_as rfl) ?_
  refine r_nil ?_
  refine x_seq ?_
  refine c_seq ?_
  refine c_seq ?_
  refine c_reg ?_
  refine r_u (o_mv rfl) ?_
  refine r_u (o_lenR Tryz.underlying60 rfl h0_) ?_
  refine r_u (o_mv rfl) ?_
  refine r_u (o_lenR Tryz.underlying60 rfl h1_) ?_
  refine r_u (o_bin rfl rfl (bI_ne (a0.length : Int) (a1.length : Int))) ?_
  refine r_nil ?_
  refine x_seq ?_
  refine c_if (b := ((a0.length : Int) != (a1.length : Int))) rfl (fun h0 => ?_) fun h0 => ?_
  · have hm1 := ift hm h0
    clear hm
    refine c_seq ?_
    refine c_reg ?_
    refine r_u (o_as rfl) ?_
    refine r_nil ?_
    refine x_seq ?_
    refine c_ret ?_
    obtain rfl := Option.some.inj hm1
    exact x_r1 rfl (rv_t rfl) (Le.refl _) ⟨_, rfl, rfl, rfl, rfl⟩
  · have hm1 := iff_ hm h0
    clear hm
    refine c_skip ?_
    refine x_seq ?_
    refine c_seq ?_
    refine c_seq ?_
    refine c_reg ?_
    refine r_u (o_as rfl) ?_
    refine r_nil ?_
    refine x_seq ?_
    obtain ⟨p2, hp4, hm5⟩ := bs hm1
    refine cd_joinS (p := p2) (Ef := fun q3 => []) (Lf := fun q3 => F) (fun q3 hq => ?_) fun K6 => ?_
    · subst hq
      try dsimp only at hm5
      refine x_seq ?_
      refine c_seq ?_
      refine c_reg ?_
      refine r_u (o_as rfl) ?_
      refine r_nil ?_
      refine x_seq ?_
      refine c_ret ?_
      obtain rfl := Option.some.inj hm5
      exact x_r1 rfl (rv_t rfl) (Le.refl _) ⟨_, rfl, rfl, rfl, rfl⟩
    · refine c_blk ?_
      refine cd_loop (M := fun k8 (i_7 : Int) => hawthornlaw08_texts_l0 a0 a1 k8 i_7 = some p2) (Ef := fun (i_7 : Int) => [(0, v0_), (1, v1_), (5, vI i_7)]) (Lf := fun (i_7 : Int) => F) (((a0.length : Int) - 0).toNat + 1) 0 hp4 ⟨rfl, rfl, rfl, trivial⟩ (fun _ h => h) (fun _ h => by cases h) fun k8 i_7 hM10 => ?_
      have hm9 : hawthornlaw08_texts_l0 a0 a1 (k8 + 1) i_7 = some p2 := hM10
      rw [hawthornlaw08_texts_l0] at hm9
      refine c_seq ?_
      refine c_seq ?_
      refine c_reg ?_
      refine r_u (o_mv rfl) ?_
      refine r_u (o_mv rfl) ?_
      refine r_u (o_lenR Tryz.underlying60 rfl h0_) ?_
      refine r_u (o_bin rfl rfl (bI_lt i_7 (a0.length : Int))) ?_
      refine r_nil ?_
      refine x_seq ?_
      refine c_if (b := decide (i_7 < (a0.length : Int))) rfl (fun h11 => ?_) fun h11 => ?_
      · have hm12 := ift hm9 h11
        clear hm9
        refine c_skip ?_
        refine x_seq ?_
        refine c_seq ?_
        refine c_blk ?_
        refine c_seq ?_
        obtain ⟨x13, hx13, hm14⟩ := bs hm12
        clear hm12
        obtain ⟨b13, o13, l13, T13, fr13, c13, hv13, hR13, he13, hi13⟩ := RoS.ne h0_ hx13
        obtain ⟨x15, hx15, hm16⟩ := bs hm14
        clear hm14
        obtain ⟨b15, o15, l15, T15, fr15, c15, hv15, hR15, he15, hi15⟩ := RoS.ne h1_ hx15
        refine c_any mixed (effs := []) (V := []) ?_
        refine stage_ext [(0, v0_), (1, vI i_7), (2, pt b13 (o13 + i_7.toNat * 1)), (3, vS x13), (4, v1_), (5, vI i_7), (6, pt b15 (o15 + i_7.toNat * 1)), (7, vS x15), (8, vB (x13 != x15))] rfl ?_
        refine stage rfl rfl rfl rfl [0, 0, 3, 7, 0, 0, 48, 112, 255] [0, 1, 2, 3, 4, 5, 6, 7, 8] [] rfl rfl rfl (qc rfl rfl (s_u (o_mv rfl)) (qc rfl rfl (s_u (o_mv rfl)) (qc rfl rfl (s_u (o_ix (sz := 1) Tryz.underlying60 (fun _ => by kernel_rfl) rfl rfl hv13 hi13)) (qc rfl rfl (s_u (o_ldR sc9 rfl hR13 (rok 0 he13 (by decide)))) (qc rfl rfl (s_u (o_mv rfl)) (qc rfl rfl (s_u (o_mv rfl)) (qc rfl rfl (s_u (o_ix (sz := 1) Tryz.underlying60 (fun _ => by kernel_rfl) rfl rfl hv15 hi15)) (qc rfl rfl (s_u (o_ldR sc9 rfl hR15 (rok 0 he15 (by decide)))) (qc rfl rfl (s_u (o_bin rfl rfl (bS_ne x13 x15))) qn))))))))) en ?_
        intro _
        refine ex_sub (E' := [(0, v0_), (1, v1_), (5, vI i_7), (25, vB (x13 != x15))]) ⟨rfl, rfl, rfl, rfl, trivial⟩ ?_
        refine x_seq ?_
        refine c_if (b := (x13 != x15)) rfl (fun h17 => ?_) fun h17 => ?_
        · have hm18 := ift hm16 h17
          clear hm16
          refine c_seq ?_
          refine c_reg ?_
          refine r_u (o_as rfl) ?_
          refine r_nil ?_
          refine x_seq ?_
          refine c_ret ?_
          obtain rfl := Option.some.inj hm18
          try dsimp only at hm5
          obtain rfl := Option.some.inj hm5
          exact x_r1 rfl (rv_t rfl) (Le.refl _) ⟨_, rfl, rfl, rfl, rfl⟩
        · have hm18 := iff_ hm16 h17
          clear hm16
          refine c_skip ?_
          refine x_blk ?_
          refine x_seq ?_
          refine c_reg ?_
          refine r_u (o_mv rfl) ?_
          refine r_u (o_bin rfl rfl (bI_add i_7 1)) ?_
          refine r_u (o_as rfl) ?_
          refine r_nil ?_
          exact x_lp (i64 (i_7 + 1)) hm18 ⟨rfl, rfl, rfl, trivial⟩ (fun _ h => st_pk 0 [] (by decide) h)
      · have hm12 := iff_ hm9 h11
        clear hm9
        refine c_exit (x_exit (ks' := _) rfl ?_)
        obtain rfl := Option.some.inj hm12
        exact x_sub (K6 _ rfl) trivial (fun _ h => st_pk 0 [] (by decide) h)

end Go.Proofs.YtlahbmoebbflbaaGreat
