import Derived.Test.YthngfieikhillaaGreatW2
import Derived.Test.YthngfieikhillaaGreatFacts
import Derived.Test.YthngfieikhillaaGreatHwY
set_option linter.unusedVariables false
set_option linter.unusedSectionVars false
set_option linter.unusedSimpArgs false
set_option maxRecDepth 100000
set_option maxHeartbeats 8000000
namespace Go.Proofs.YthngfieikhillaaGreat
open Go Go.Proofs.YthngfieikhillaaGreat.Hw
def Ci (x29 : Ae) : Nat → Int → Int → (List Int) → Option (Int × List Int)
 | 0, _, _, _ => none
 | k66 + 1, all_63, s_64, c_65 => if decide (s_64 < 4) then (Aq x29 s_64).bind fun r71 => if 0 ≤ s_64 ∧ s_64 < 4 then Ci x29 k66 (i64 (all_63 + (at4 s_64 (pk4 s_64 0 r71 (c_65.getD 0 default)) (pk4 s_64 1 r71 (c_65.getD 1 default)) (pk4 s_64 2 r71 (c_65.getD 2 default)) (pk4 s_64 3 r71 (c_65.getD 3 default))))) (i64 (s_64 + 1)) [(pk4 s_64 0 r71 (c_65.getD 0 default)), (pk4 s_64 1 r71 (c_65.getD 1 default)), (pk4 s_64 2 r71 (c_65.getD 2 default)), (pk4 s_64 3 r71 (c_65.getD 3 default))] else none else some (all_63, [(c_65.getD 0 default), (c_65.getD 1 default), (c_65.getD 2 default), (c_65.getD 3 default)])
def Dr (a0 : Ai) : Option ((Option Al × Ai) ⊕ (Int × Ai)) :=
 (Ax a0 1000).bind fun r0 => sm r0 (fun (ra2 : UInt64 × Ai) => lt (As ra2.2 (decide (1 ≤ (i64 (ra2.1.toNat : Int))))) fun r7 => sm r7 (fun (ra9 : Unit) => (Ax ra2.2 (toW (i64 (ra2.1.toNat : Int)))).bind fun r13 => sm r13 (fun (ra15 : UInt64 × Ai) => (Db ra15.2).bind fun r19 => sm r19 (fun (ra21 : Option Ae × Ai) => om ra21.1 (none) fun x29 => Option.bind (Ci x29 5 (Am x29) 0 [0, 0, 0, 0]) fun p37 => if (((p37.1 == (i64 ((i64 (2 * (i64 (ra2.1.toNat : Int)))) + 1))) && decide ((i64 ((p37.2.getD 0 default) + (p37.2.getD 1 default))) ≤ (i64 (ra2.1.toNat : Int)))) && decide ((i64 ((p37.2.getD 0 default) + (p37.2.getD 2 default))) ≤ (i64 (ra2.1.toNat : Int)))) then if decide ((i64 (p37.1 - (Am x29))) ≤ (i64 (2 * (i64 (ra2.1.toNat : Int))))) then lt (As ra21.2 ((Ao x29) == 4)) fun r45 => sm r45 (fun (ra47 : Unit) => some (Sum.inl ((some (⟨i64 (ra2.1.toNat : Int), i64 (ra15.1.toNat : Int), (some x29)⟩ : Al)), ra21.2))) fun ((rn48, ro49) : Int × Unit) => some (Sum.inr (rn48, ra21.2)) else lt (As ra21.2 false) fun r51 => sm r51 (fun (ra53 : Unit) => some (Sum.inl ((some (⟨i64 (ra2.1.toNat : Int), i64 (ra15.1.toNat : Int), (some x29)⟩ : Al)), ra21.2))) fun ((rn54, ro55) : Int × Unit) => some (Sum.inr (rn54, ra21.2)) else lt (As ra21.2 false) fun r57 => sm r57 (fun (ra59 : Unit) => some (Sum.inl ((some (⟨i64 (ra2.1.toNat : Int), i64 (ra15.1.toNat : Int), (some x29)⟩ : Al)), ra21.2))) fun ((rn60, ro61) : Int × Unit) => some (Sum.inr (rn60, ra21.2))) fun ((rn22, ro23) : Int × Ai) => some (Sum.inr (rn22, ro23))) fun ((rn16, ro17) : Int × Ai) => some (Sum.inr (rn16, ro17))) fun ((rn10, ro11) : Int × Unit) => some (Sum.inr (rn10, ra2.2))) fun ((rn3, ro4) : Int × Ai) => some (Sum.inr (rn3, ro4))
theorem Dr.ok {G R F} (b0_ : Nat) (a0 : Ai) (r : (Option Al × Ai) ⊕ (Int × Ai)) (hm : Dr a0 = some r) : CO Tryz.prog 87 [pt b0_ 0] G R (Bk b0_ 120 (Ai.c a0) :: F)
  (PK 118 r (fun (a : Option Al × Ai) u R' L' => ∃ (p0 : Value × Al.G), u = p0.1 ∧ R' = R ∧ L' = rO (Al.op p0.2) p0.1 a.1 :: Bk b0_ 120 (Ai.c a.2) :: F) (fun n (o : Ai) R' L' => R' = R ∧ L' = Bk b0_ 120 (Ai.c o) :: F)) := by
 unfold Dr at hm
 refine co_ofN (N := 116) Tryz.func87 z z ?_
 refine csr ?_
 refine r_as z ?_
 refine r_nil (x_seq (c_seq ?_))
 obtain ⟨r0, hr0, hm1⟩ := bs hm
 clear hm
 rcases r0 with ra2 | ⟨rn3, ro4⟩
 rotate_left
 ·have hm5 := sm_r hm1
  clear hm1
  refine c_reg ?_
  refine r_mv z ?_
  obtain rfl := si hm5
  exact r_sw (s_w (o_callR ca86 z (Ax.ok b0_ a0 1000 (Sum.inr (rn3, ro4)) hr0) (by rintro _ _ _ ⟨rfl, rfl⟩; exact (px_st (fun _ h => st_pk 1 [0] (by decide) h) (px_of (Le.refl _) (.inr ⟨_, z, _, z, z, z⟩)))))) (fun _ _ _ _ h => h.elim)
 have hm5 := sm_l hm1
 clear hm1
 refine c_reg ?_
 refine r_mv z ?_
 refine r_c (s_w (o_callL ca86 z (Ax.ok b0_ a0 1000 (Sum.inl ra2) hr0) (fun _ _ _ h => h))) ?_
 refine r_u (o_cv z (cWI Tryz.underlying27 Tryz.underlying3 ra2.1)) ?_
 refine r_u (o_bld [vI (i64 (ra2.1.toNat : Int)), vI 0, nl] z (fun _ => by kernel_rfl)) ?_
 refine r_new (o_bx [vI (i64 (ra2.1.toNat : Int)), vI 0, nl] z z) fun b6 => ?_
 refine r_as z ?_
 refine r_nil (x_seq (c_seq ?_))
 obtain ⟨r7, hr7, hm8⟩ := ltx hm5
 clear hm5
 rcases r7 with ra9 | ⟨rn10, ro11⟩
 rotate_left
 ·have hm12 := sm_r hm8
  clear hm8
  refine c_reg ?_
  refine r_mv z (r_mv z (r_nc z (r_fa fa86_0 z (r_ld 0 sc3 z z z (r_bin z z (bI_ge (i64 (ra2.1.toNat : Int)) 1) ?_)))))
  refine rl_st (fun _ h => mv1 h) ?_
  obtain rfl := si hm12
  exact r_sw (s_w (o_callR ca89 z (As.ok b0_ ra2.2 (decide (1 ≤ (i64 (ra2.1.toNat : Int)))) (Sum.inr (rn10, ro11)) hr7) (by rintro _ _ _ ⟨rfl, rfl⟩; exact (px_st (fun _ h => st_pk 2 [0] (by decide) h) (px_of (Le.refl _) (.inr ⟨_, z, _, z, z, z⟩)))))) (fun _ _ _ _ h => h.elim)
 have hm12 := sm_l hm8
 clear hm8
 refine c_reg ?_
 refine r_mv z (r_mv z (r_nc z (r_fa fa86_0 z (r_ld 0 sc3 z z z (r_bin z z (bI_ge (i64 (ra2.1.toNat : Int)) 1) ?_)))))
 refine rl_st (fun _ h => mv1 h) ?_
 refine r_c (s_w (o_callL ca89 z (As.ok b0_ ra2.2 (decide (1 ≤ (i64 (ra2.1.toNat : Int)))) (Sum.inl ra9) hr7) (fun _ _ _ h => h))) ?_
 refine r_nil (x_seq (c_seq ?_))
 obtain ⟨r13, hr13, hm14⟩ := bs hm12
 clear hm12
 rcases r13 with ra15 | ⟨rn16, ro17⟩
 rotate_left
 ·have hm18 := sm_r hm14
  clear hm14
  refine c_reg ?_
  refine r_mv z (r_mv z (r_mv z (r_nc z (r_fa fa86_0 z (r_ld 1 sc3 z z z (r_u (o_cv z (cIW Tryz.underlying3 Tryz.underlying27 (i64 (ra2.1.toNat : Int)))) ?_))))))
  obtain rfl := si hm18
  exact r_sw (s_w (o_callR ca86 z (Ax.ok b0_ ra2.2 (toW (i64 (ra2.1.toNat : Int))) (Sum.inr (rn16, ro17)) hr13) (by rintro _ _ _ ⟨rfl, rfl⟩; exact (px_st (fun _ h => st_pk 2 [0] (by decide) h) (px_of (Le.refl _) (.inr ⟨_, z, _, z, z, z⟩)))))) (fun _ _ _ _ h => h.elim)
 have hm18 := sm_l hm14
 clear hm14
 refine c_reg ?_
 refine r_mv z (r_mv z (r_mv z (r_nc z (r_fa fa86_0 z (r_ld 1 sc3 z z z (r_u (o_cv z (cIW Tryz.underlying3 Tryz.underlying27 (i64 (ra2.1.toNat : Int)))) ?_))))))
 refine r_c (s_w (o_callL ca86 z (Ax.ok b0_ ra2.2 (toW (i64 (ra2.1.toNat : Int))) (Sum.inl ra15) hr13) (fun _ _ _ h => h))) ?_
 refine r_u (o_cv z (cWI Tryz.underlying27 Tryz.underlying3 ra15.1)) (r_nc z (r_fa fa86_1 z ?_))
 refine rl_st (fun _ h => mv1 h) ?_
 refine r_u0 (o_st sc3 z z z z z z) ?_
 refine r_nil (x_seq (c_seq ?_))
 obtain ⟨r19, hr19, hm20⟩ := bs hm18
 clear hm18
 rcases r19 with ra21 | ⟨rn22, ro23⟩
 rotate_left
 ·have hm24 := sm_r hm20
  clear hm20
  refine c_reg ?_
  refine r_mv z (r_mv z ?_)
  refine rl_st (fun _ h => mv1 h) ?_
  obtain rfl := si hm24
  exact r_sw (s_w (o_callR ca118 z (Db.ok b0_ ra15.2 (Sum.inr (rn22, ro23)) hr19) (by rintro _ _ _ ⟨rfl, rfl⟩; exact (px_st (fun _ h => st_pk 2 [0] (by decide) h) (px_of (Le.refl _) (.inr ⟨_, z, _, z, z, z⟩)))))) (fun _ _ _ _ h => h.elim)
 have hm24 := sm_l hm20
 clear hm20
 refine c_reg ?_
 refine r_mv z (r_mv z ?_)
 refine rl_st (fun _ h => mv1 h) ?_
 refine r_sw (s_w (o_callL ca118 z (Db.ok b0_ ra15.2 (Sum.inl ra21) hr19) (fun _ _ _ h => h))) ?_
 rintro pv26 R _ _ ⟨⟨_, g27⟩, rfl, rfl, rfl⟩
 refine r_nc z (r_fa fa86_2 z ?_)
 refine rl_st (fun _ h => mv2 h) ?_
 refine r_u0 (ou_if (one_p 1 z) fun ho0 => o_st sc82 z z z ho0 z z) ?_
 refine nsr ?_
 refine r_u (o_bld [vI 0, vI 0, vI 0, vI 0] z (fun _ => by kernel_rfl)) ?_
 refine r_new (o_al ze160) fun b28 => ?_
 refine r_u0 (o_stn ag160 z z z z z z z) ?_
 refine r_nil (x_seq (c_seq ?_))
 refine cd_st (fun _ h => mv2 h) ?_
 refine cd_opt (fun ho31 => ?_) (fun x29 b30 ho31 => ?_)
 ·rintro rfl
  have hm32 := om_n hm24 ho31
  clear hm24
  cases hm32
 rintro rfl
 have hm32 := om_s hm24 ho31
 clear hm24
 refine cd_st (fun _ h => st_star_o h) ?_
 refine c_reg ?_
 refine r_mv z (r_nc z (r_fa fa86_2 z (r_ld 6 sc82 z z z ?_)))
 refine r_c (s_w (o_call ca119 z (Am.ok b30 x29 g27 _ z))) ?_
 refine r_as z ?_
 refine nssr ?_
 refine r_mv z ?_
 refine nsq ?_
 obtain ⟨p37, hp38, hm39⟩ := bs hm32
 refine cd_join (E' := [(0, pt b0_ 0), (3, pt b6 0), (4, pt b28 0), (5, vI p37.1)]) (L' := Bk b30 138 (Ae.k x29 g27) :: Bk b28 160 [vI (p37.2.getD 0 default), vI (p37.2.getD 1 default), vI (p37.2.getD 2 default), vI (p37.2.getD 3 default)] :: Bk b6 86 [vI (i64 (ra2.1.toNat : Int)), vI (i64 (ra15.1.toNat : Int)), pt b30 0] :: Bk b0_ 120 (Ai.c ra21.2) :: OwS true 140 4 Ap.c g27.slots x29.slots :: OwS true 3 1 eI g27.free x29.free :: OwM vS vI g27.at_ x29.at_ :: OwS true 3 1 eI g27.many x29.many :: F) ?_ fun K40 => ?_
 rotate_left
 ·refine c_blk ?_
  refine cd_loop (M := fun k66 (s : Int × Int × List Int) => Ci x29 k66 s.1 s.2.1 s.2.2 = some p37) (Ef := fun (s : Int × Int × List Int) => [(0, pt b0_ 0), (3, pt b6 0), (4, pt b28 0), (5, vI s.1), (41, vI s.2.1)]) (Lf := fun (s : Int × Int × List Int) => Bk b30 138 (Ae.k x29 g27) :: Bk b28 160 [vI (s.2.2.getD 0 default), vI (s.2.2.getD 1 default), vI (s.2.2.getD 2 default), vI (s.2.2.getD 3 default)] :: Bk b6 86 [vI (i64 (ra2.1.toNat : Int)), vI (i64 (ra15.1.toNat : Int)), pt b30 0] :: Bk b0_ 120 (Ai.c ra21.2) :: OwS true 140 4 Ap.c g27.slots x29.slots :: OwS true 3 1 eI g27.free x29.free :: OwM vS vI g27.at_ x29.at_ :: OwS true 3 1 eI g27.many x29.many :: F) 5 ((Am x29), 0, [0, 0, 0, 0]) hp38 ⟨z, z, z, z, z, trivial⟩ (fun _ h => st_pk 8 [0, 5, 6, 7, 1, 2, 3, 4] (by decide) h) (fun _ h => by cases h) fun k66 s hM68 => ?_
  obtain ⟨all_63, s_64, c_65⟩ := s
  have hm67 : Ci x29 (k66 + 1) all_63 s_64 c_65 = some p37 := hM68
  rw [Ci] at hm67
  refine csr ?_
  refine r_bin z z (bI_lt s_64 4) ?_
  refine r_nil (x_seq (c_seq ?_))
  refine c_if (b := decide (s_64 < 4)) z (fun h69 => ?_) fun h69 => ?_
  rotate_left
  ·have hm70 := iff_ hm67 h69
   clear hm67
   refine c_exit (x_exit (ks' := _) z ?_)
   obtain rfl := si hm70
   exact x_sub K40 ⟨z, z, z, z, trivial⟩ (fun _ h => st_pk 8 [0, 1, 2, 3, 4, 5, 6, 7] (by decide) h)
  have hm70 := ift hm67 h69
  clear hm67
  refine c_skip (x_seq (c_seq (c_blk (csr ?_))))
  refine r_mv z (r_as z ?_)
  refine nsr ?_
  refine r_mv z (r_mv z (r_nc z (r_fa fa86_2 z (r_ld 2 sc82 z z z (r_mv z ?_)))))
  obtain ⟨r71, hr71, hm72⟩ := bs hm70
  clear hm70
  refine rl_st (fun _ h => mv4 (mv7 (mv7 (mv7 (mv7 h))))) ?_
  refine r_c (s_w (o_call ca73 z (Aq.ok b30 x29 g27 s_64 r71 hr71))) ?_
  obtain ⟨h73, hm74⟩ := ig hm72
  clear hm72
  refine r_u (o_ixA (sz := 1) Tryz.underlying160 (fun _ => by kernel_rfl) z z h73) ?_
  refine rl_st (fun _ h => mv5 h) ?_
  refine r_u0 (o_stV4 sc3 z z z h73) ?_
  refine r_nil (x_seq (c_reg ?_))
  refine r_mv z (r_mv z ?_)
  refine r_u (o_ixA (sz := 1) Tryz.underlying160 (fun _ => by kernel_rfl) z z h73) ?_
  refine r_u (o_ldV4 0 sc3 z z h73) (r_bin z z (bI_add all_63 (at4 s_64 (pk4 s_64 0 r71 (c_65.getD 0 default)) (pk4 s_64 1 r71 (c_65.getD 1 default)) (pk4 s_64 2 r71 (c_65.getD 2 default)) (pk4 s_64 3 r71 (c_65.getD 3 default)))) (r_as z ?_))
  refine r_nil (x_blk (x_seq (c_reg ?_)))
  refine r_bin z z (bI_add s_64 1) (r_mv z ?_)
  refine r_nil ?_
  exact x_lp (i64 (all_63 + (at4 s_64 (pk4 s_64 0 r71 (c_65.getD 0 default)) (pk4 s_64 1 r71 (c_65.getD 1 default)) (pk4 s_64 2 r71 (c_65.getD 2 default)) (pk4 s_64 3 r71 (c_65.getD 3 default)))), i64 (s_64 + 1), [(pk4 s_64 0 r71 (c_65.getD 0 default)), (pk4 s_64 1 r71 (c_65.getD 1 default)), (pk4 s_64 2 r71 (c_65.getD 2 default)), (pk4 s_64 3 r71 (c_65.getD 3 default))]) hm74 ⟨z, z, z, z, z, trivial⟩ (fun _ h => st_pk 8 [1, 0, 6, 7, 2, 3, 4, 5] (by decide) h)
 refine x_seq (c_seq ?_)
 refine cd_by (((p37.1 == (i64 ((i64 (2 * (i64 (ra2.1.toNat : Int)))) + 1))) && decide ((i64 ((p37.2.getD 0 default) + (p37.2.getD 1 default))) ≤ (i64 (ra2.1.toNat : Int)))) && decide ((i64 ((p37.2.getD 0 default) + (p37.2.getD 2 default))) ≤ (i64 (ra2.1.toNat : Int)))) (fun h41 => ?_) fun h41 => ?_
 rotate_left
 ·have hm42 := iff_ hm39 h41
  clear hm39
  obtain ⟨r57, hr57, hm58⟩ := ltx hm42
  clear hm42
  rcases r57 with ra59 | ⟨rn60, ro61⟩
  rotate_left
  ·have hm62 := sm_r hm58
   clear hm58
   refine c_any mixed (effs := [56]) (V := []) ?_
   refine stage_st (fun _ h => mv3 h) ?_
   refine stage_ext [(0, pt b0_ 0), (1, vI p37.1), (2, pt b6 0), (3, pt b6 0), (4, pt b6 0), (5, vI (i64 (ra2.1.toNat : Int))), (6, vI (i64 (2 * (i64 (ra2.1.toNat : Int))))), (7, vI (i64 ((i64 (2 * (i64 (ra2.1.toNat : Int)))) + 1))), (8, vB (p37.1 == (i64 ((i64 (2 * (i64 (ra2.1.toNat : Int)))) + 1)))), (9, vB (p37.1 == (i64 ((i64 (2 * (i64 (ra2.1.toNat : Int)))) + 1)))), (10, gv (p37.1 == (i64 ((i64 (2 * (i64 (ra2.1.toNat : Int)))) + 1))) (pt b28 0)), (11, gv (p37.1 == (i64 ((i64 (2 * (i64 (ra2.1.toNat : Int)))) + 1))) (vI (p37.2.getD 0 default))), (12, gv (p37.1 == (i64 ((i64 (2 * (i64 (ra2.1.toNat : Int)))) + 1))) (pt b28 1)), (13, gv (p37.1 == (i64 ((i64 (2 * (i64 (ra2.1.toNat : Int)))) + 1))) (vI (p37.2.getD 1 default))), (14, gv (p37.1 == (i64 ((i64 (2 * (i64 (ra2.1.toNat : Int)))) + 1))) (vI (i64 ((p37.2.getD 0 default) + (p37.2.getD 1 default))))), (15, gv (p37.1 == (i64 ((i64 (2 * (i64 (ra2.1.toNat : Int)))) + 1))) (pt b6 0)), (16, gv (p37.1 == (i64 ((i64 (2 * (i64 (ra2.1.toNat : Int)))) + 1))) (pt b6 0)), (17, gv (p37.1 == (i64 ((i64 (2 * (i64 (ra2.1.toNat : Int)))) + 1))) (pt b6 0)), (18, gv (p37.1 == (i64 ((i64 (2 * (i64 (ra2.1.toNat : Int)))) + 1))) (vI (i64 (ra2.1.toNat : Int)))), (19, gv (p37.1 == (i64 ((i64 (2 * (i64 (ra2.1.toNat : Int)))) + 1))) (vB (decide ((i64 ((p37.2.getD 0 default) + (p37.2.getD 1 default))) ≤ (i64 (ra2.1.toNat : Int)))))), (20, vB ((p37.1 == (i64 ((i64 (2 * (i64 (ra2.1.toNat : Int)))) + 1))) && decide ((i64 ((p37.2.getD 0 default) + (p37.2.getD 1 default))) ≤ (i64 (ra2.1.toNat : Int))))), (21, vB ((p37.1 == (i64 ((i64 (2 * (i64 (ra2.1.toNat : Int)))) + 1))) && decide ((i64 ((p37.2.getD 0 default) + (p37.2.getD 1 default))) ≤ (i64 (ra2.1.toNat : Int))))), (22, gv ((p37.1 == (i64 ((i64 (2 * (i64 (ra2.1.toNat : Int)))) + 1))) && decide ((i64 ((p37.2.getD 0 default) + (p37.2.getD 1 default))) ≤ (i64 (ra2.1.toNat : Int)))) (pt b28 0)), (23, gv ((p37.1 == (i64 ((i64 (2 * (i64 (ra2.1.toNat : Int)))) + 1))) && decide ((i64 ((p37.2.getD 0 default) + (p37.2.getD 1 default))) ≤ (i64 (ra2.1.toNat : Int)))) (vI (p37.2.getD 0 default))), (24, gv ((p37.1 == (i64 ((i64 (2 * (i64 (ra2.1.toNat : Int)))) + 1))) && decide ((i64 ((p37.2.getD 0 default) + (p37.2.getD 1 default))) ≤ (i64 (ra2.1.toNat : Int)))) (pt b28 2)), (25, gv ((p37.1 == (i64 ((i64 (2 * (i64 (ra2.1.toNat : Int)))) + 1))) && decide ((i64 ((p37.2.getD 0 default) + (p37.2.getD 1 default))) ≤ (i64 (ra2.1.toNat : Int)))) (vI (p37.2.getD 2 default))), (26, gv ((p37.1 == (i64 ((i64 (2 * (i64 (ra2.1.toNat : Int)))) + 1))) && decide ((i64 ((p37.2.getD 0 default) + (p37.2.getD 1 default))) ≤ (i64 (ra2.1.toNat : Int)))) (vI (i64 ((p37.2.getD 0 default) + (p37.2.getD 2 default))))), (27, gv ((p37.1 == (i64 ((i64 (2 * (i64 (ra2.1.toNat : Int)))) + 1))) && decide ((i64 ((p37.2.getD 0 default) + (p37.2.getD 1 default))) ≤ (i64 (ra2.1.toNat : Int)))) (pt b6 0)), (28, gv ((p37.1 == (i64 ((i64 (2 * (i64 (ra2.1.toNat : Int)))) + 1))) && decide ((i64 ((p37.2.getD 0 default) + (p37.2.getD 1 default))) ≤ (i64 (ra2.1.toNat : Int)))) (pt b6 0)), (29, gv ((p37.1 == (i64 ((i64 (2 * (i64 (ra2.1.toNat : Int)))) + 1))) && decide ((i64 ((p37.2.getD 0 default) + (p37.2.getD 1 default))) ≤ (i64 (ra2.1.toNat : Int)))) (pt b6 0)), (30, gv ((p37.1 == (i64 ((i64 (2 * (i64 (ra2.1.toNat : Int)))) + 1))) && decide ((i64 ((p37.2.getD 0 default) + (p37.2.getD 1 default))) ≤ (i64 (ra2.1.toNat : Int)))) (vI (i64 (ra2.1.toNat : Int)))), (31, gv ((p37.1 == (i64 ((i64 (2 * (i64 (ra2.1.toNat : Int)))) + 1))) && decide ((i64 ((p37.2.getD 0 default) + (p37.2.getD 1 default))) ≤ (i64 (ra2.1.toNat : Int)))) (vB (decide ((i64 ((p37.2.getD 0 default) + (p37.2.getD 2 default))) ≤ (i64 (ra2.1.toNat : Int)))))), (32, vB (((p37.1 == (i64 ((i64 (2 * (i64 (ra2.1.toNat : Int)))) + 1))) && decide ((i64 ((p37.2.getD 0 default) + (p37.2.getD 1 default))) ≤ (i64 (ra2.1.toNat : Int)))) && decide ((i64 ((p37.2.getD 0 default) + (p37.2.getD 2 default))) ≤ (i64 (ra2.1.toNat : Int))))), (33, vB (((p37.1 == (i64 ((i64 (2 * (i64 (ra2.1.toNat : Int)))) + 1))) && decide ((i64 ((p37.2.getD 0 default) + (p37.2.getD 1 default))) ≤ (i64 (ra2.1.toNat : Int)))) && decide ((i64 ((p37.2.getD 0 default) + (p37.2.getD 2 default))) ≤ (i64 (ra2.1.toNat : Int))))), (34, undef), (35, undef), (36, undef), (37, undef), (38, undef), (39, undef), (40, undef), (41, undef), (42, undef), (43, undef), (44, undef), (45, undef), (46, undef), (47, vB false), (48, vB false), (49, undef), (50, undef), (51, undef), (52, undef), (53, undef), (54, undef), (55, vB false)] z ?_
   refine stage z z z z mk7_ [0, 1, 2, 3, 4, 5, 6, 7, 8, 9, 10, 11, 12, 13, 14, 15, 16, 17, 18, 19, 20, 21, 22, 23, 24, 25, 26, 27, 28, 29, 30, 31, 32, 33, 34, 35, 36, 37, 38, 39, 40, 41, 42, 43, 44, 45, 46, 47, 48, 49, 50, 51, 52, 53, 54, 55] [56] z z z (q_mv z z z (q_mv z z z (q_mv z z z (q_u z z (o_nc z) (q_fa z z fa86_0 z (q_ld z z 3 sc3 z z z (q_u z z (o_bin z z (bI_mul 2 (i64 (ra2.1.toNat : Int)))) (q_u z z (o_bin z z (bI_add (i64 (2 * (i64 (ra2.1.toNat : Int)))) 1)) (q_u z z (o_bin z z (bI_eq p37.1 (i64 ((i64 (2 * (i64 (ra2.1.toNat : Int)))) + 1)))) (q_mv z z z (qc z z (s_gt z z fun g => o_ixA (sz := 1) (n := 4) (i := 0) Tryz.underlying160 (fun _ => by kernel_rfl) z z (by decide)) (qc z z (s_gt z z fun g => o_ld 2 sc3 (evg z g) z z) (qc z z (s_gt z z fun g => o_ixA (sz := 1) (n := 4) (i := 1) Tryz.underlying160 (fun _ => by kernel_rfl) z z (by decide)) (qc z z (s_gt z z fun g => o_ld 2 sc3 (evg z g) z z) (qc z z (s_gt z z fun g => o_bin (evg z g) (evg z g) (bI_add (p37.2.getD 0 default) (p37.2.getD 1 default))) (qc z z (s_gt z z fun g => o_mv z) (qc z z (s_gt z z fun g => o_nc (evg z g)) (qc z z (s_gt z z fun g => o_fa fa86_0 (evg z g)) (qc z z (s_gt z z fun g => o_ld 3 sc3 (evg z g) z z) (qc z z (s_gt z z fun g => o_bin (evg z g) (evg z g) (bI_le (i64 ((p37.2.getD 0 default) + (p37.2.getD 1 default))) (i64 (ra2.1.toNat : Int)))) (q_u z z (o_and z z) (q_mv z z z (qc z z (s_gt z z fun g => o_ixA (sz := 1) (n := 4) (i := 0) Tryz.underlying160 (fun _ => by kernel_rfl) z z (by decide)) (qc z z (s_gt z z fun g => o_ld 2 sc3 (evg z g) z z) (qc z z (s_gt z z fun g => o_ixA (sz := 1) (n := 4) (i := 2) Tryz.underlying160 (fun _ => by kernel_rfl) z z (by decide)) (qc z z (s_gt z z fun g => o_ld 2 sc3 (evg z g) z z) (qc z z (s_gt z z fun g => o_bin (evg z g) (evg z g) (bI_add (p37.2.getD 0 default) (p37.2.getD 2 default))) (qc z z (s_gt z z fun g => o_mv z) (qc z z (s_gt z z fun g => o_nc (evg z g)) (qc z z (s_gt z z fun g => o_fa fa86_0 (evg z g)) (qc z z (s_gt z z fun g => o_ld 3 sc3 (evg z g) z z) (qc z z (s_gt z z fun g => o_bin (evg z g) (evg z g) (bI_le (i64 ((p37.2.getD 0 default) + (p37.2.getD 2 default))) (i64 (ra2.1.toNat : Int)))) (q_u z z (o_and z z) (q_mv z z z (q_n z z z z h41 (q_n z z z z h41 (q_n z z z z h41 (q_n z z z z h41 (q_n z z z z h41 (q_n z z z z h41 (q_n z z z z h41 (q_n z z z z h41 (q_n z z z z h41 (q_n z z z z h41 (q_n z z z z h41 (q_n z z z z h41 (q_n z z z z h41 (q_u z z (o_pf z h41 z) (q_mv z z z (q_n z z z z z (q_n z z z z z (q_n z z z z z (q_n z z z z z (q_n z z z z z (q_n z z z z z (q_u z z (o_pf z z z) qn)))))))))))))))))))))))))))))))))))))))))))))))))))))))) ?_ (nxt z)
   obtain rfl := si hm62
   exact ec (eo_w z (s_w (o_callR ca89 z (As.ok b0_ ra21.2 false (Sum.inr (rn60, ro61)) hr57) (by rintro _ _ _ ⟨rfl, rfl⟩; exact (px_st (fun _ h => st_pk 8 [0] (by decide) h) (px_of (Le.refl _) (.inr ⟨_, z, _, z, z, z⟩)))))) (fun _ _ _ _ h => h.elim)) en
  have hm62 := sm_l hm58
  clear hm58
  refine c_any mixed (effs := [56]) (V := []) ?_
  refine stage_st (fun _ h => mv3 h) ?_
  refine stage_ext [(0, pt b0_ 0), (1, vI p37.1), (2, pt b6 0), (3, pt b6 0), (4, pt b6 0), (5, vI (i64 (ra2.1.toNat : Int))), (6, vI (i64 (2 * (i64 (ra2.1.toNat : Int))))), (7, vI (i64 ((i64 (2 * (i64 (ra2.1.toNat : Int)))) + 1))), (8, vB (p37.1 == (i64 ((i64 (2 * (i64 (ra2.1.toNat : Int)))) + 1)))), (9, vB (p37.1 == (i64 ((i64 (2 * (i64 (ra2.1.toNat : Int)))) + 1)))), (10, gv (p37.1 == (i64 ((i64 (2 * (i64 (ra2.1.toNat : Int)))) + 1))) (pt b28 0)), (11, gv (p37.1 == (i64 ((i64 (2 * (i64 (ra2.1.toNat : Int)))) + 1))) (vI (p37.2.getD 0 default))), (12, gv (p37.1 == (i64 ((i64 (2 * (i64 (ra2.1.toNat : Int)))) + 1))) (pt b28 1)), (13, gv (p37.1 == (i64 ((i64 (2 * (i64 (ra2.1.toNat : Int)))) + 1))) (vI (p37.2.getD 1 default))), (14, gv (p37.1 == (i64 ((i64 (2 * (i64 (ra2.1.toNat : Int)))) + 1))) (vI (i64 ((p37.2.getD 0 default) + (p37.2.getD 1 default))))), (15, gv (p37.1 == (i64 ((i64 (2 * (i64 (ra2.1.toNat : Int)))) + 1))) (pt b6 0)), (16, gv (p37.1 == (i64 ((i64 (2 * (i64 (ra2.1.toNat : Int)))) + 1))) (pt b6 0)), (17, gv (p37.1 == (i64 ((i64 (2 * (i64 (ra2.1.toNat : Int)))) + 1))) (pt b6 0)), (18, gv (p37.1 == (i64 ((i64 (2 * (i64 (ra2.1.toNat : Int)))) + 1))) (vI (i64 (ra2.1.toNat : Int)))), (19, gv (p37.1 == (i64 ((i64 (2 * (i64 (ra2.1.toNat : Int)))) + 1))) (vB (decide ((i64 ((p37.2.getD 0 default) + (p37.2.getD 1 default))) ≤ (i64 (ra2.1.toNat : Int)))))), (20, vB ((p37.1 == (i64 ((i64 (2 * (i64 (ra2.1.toNat : Int)))) + 1))) && decide ((i64 ((p37.2.getD 0 default) + (p37.2.getD 1 default))) ≤ (i64 (ra2.1.toNat : Int))))), (21, vB ((p37.1 == (i64 ((i64 (2 * (i64 (ra2.1.toNat : Int)))) + 1))) && decide ((i64 ((p37.2.getD 0 default) + (p37.2.getD 1 default))) ≤ (i64 (ra2.1.toNat : Int))))), (22, gv ((p37.1 == (i64 ((i64 (2 * (i64 (ra2.1.toNat : Int)))) + 1))) && decide ((i64 ((p37.2.getD 0 default) + (p37.2.getD 1 default))) ≤ (i64 (ra2.1.toNat : Int)))) (pt b28 0)), (23, gv ((p37.1 == (i64 ((i64 (2 * (i64 (ra2.1.toNat : Int)))) + 1))) && decide ((i64 ((p37.2.getD 0 default) + (p37.2.getD 1 default))) ≤ (i64 (ra2.1.toNat : Int)))) (vI (p37.2.getD 0 default))), (24, gv ((p37.1 == (i64 ((i64 (2 * (i64 (ra2.1.toNat : Int)))) + 1))) && decide ((i64 ((p37.2.getD 0 default) + (p37.2.getD 1 default))) ≤ (i64 (ra2.1.toNat : Int)))) (pt b28 2)), (25, gv ((p37.1 == (i64 ((i64 (2 * (i64 (ra2.1.toNat : Int)))) + 1))) && decide ((i64 ((p37.2.getD 0 default) + (p37.2.getD 1 default))) ≤ (i64 (ra2.1.toNat : Int)))) (vI (p37.2.getD 2 default))), (26, gv ((p37.1 == (i64 ((i64 (2 * (i64 (ra2.1.toNat : Int)))) + 1))) && decide ((i64 ((p37.2.getD 0 default) + (p37.2.getD 1 default))) ≤ (i64 (ra2.1.toNat : Int)))) (vI (i64 ((p37.2.getD 0 default) + (p37.2.getD 2 default))))), (27, gv ((p37.1 == (i64 ((i64 (2 * (i64 (ra2.1.toNat : Int)))) + 1))) && decide ((i64 ((p37.2.getD 0 default) + (p37.2.getD 1 default))) ≤ (i64 (ra2.1.toNat : Int)))) (pt b6 0)), (28, gv ((p37.1 == (i64 ((i64 (2 * (i64 (ra2.1.toNat : Int)))) + 1))) && decide ((i64 ((p37.2.getD 0 default) + (p37.2.getD 1 default))) ≤ (i64 (ra2.1.toNat : Int)))) (pt b6 0)), (29, gv ((p37.1 == (i64 ((i64 (2 * (i64 (ra2.1.toNat : Int)))) + 1))) && decide ((i64 ((p37.2.getD 0 default) + (p37.2.getD 1 default))) ≤ (i64 (ra2.1.toNat : Int)))) (pt b6 0)), (30, gv ((p37.1 == (i64 ((i64 (2 * (i64 (ra2.1.toNat : Int)))) + 1))) && decide ((i64 ((p37.2.getD 0 default) + (p37.2.getD 1 default))) ≤ (i64 (ra2.1.toNat : Int)))) (vI (i64 (ra2.1.toNat : Int)))), (31, gv ((p37.1 == (i64 ((i64 (2 * (i64 (ra2.1.toNat : Int)))) + 1))) && decide ((i64 ((p37.2.getD 0 default) + (p37.2.getD 1 default))) ≤ (i64 (ra2.1.toNat : Int)))) (vB (decide ((i64 ((p37.2.getD 0 default) + (p37.2.getD 2 default))) ≤ (i64 (ra2.1.toNat : Int)))))), (32, vB (((p37.1 == (i64 ((i64 (2 * (i64 (ra2.1.toNat : Int)))) + 1))) && decide ((i64 ((p37.2.getD 0 default) + (p37.2.getD 1 default))) ≤ (i64 (ra2.1.toNat : Int)))) && decide ((i64 ((p37.2.getD 0 default) + (p37.2.getD 2 default))) ≤ (i64 (ra2.1.toNat : Int))))), (33, vB (((p37.1 == (i64 ((i64 (2 * (i64 (ra2.1.toNat : Int)))) + 1))) && decide ((i64 ((p37.2.getD 0 default) + (p37.2.getD 1 default))) ≤ (i64 (ra2.1.toNat : Int)))) && decide ((i64 ((p37.2.getD 0 default) + (p37.2.getD 2 default))) ≤ (i64 (ra2.1.toNat : Int))))), (34, undef), (35, undef), (36, undef), (37, undef), (38, undef), (39, undef), (40, undef), (41, undef), (42, undef), (43, undef), (44, undef), (45, undef), (46, undef), (47, vB false), (48, vB false), (49, undef), (50, undef), (51, undef), (52, undef), (53, undef), (54, undef), (55, vB false)] z ?_
  refine stage z z z z mk7_ [0, 1, 2, 3, 4, 5, 6, 7, 8, 9, 10, 11, 12, 13, 14, 15, 16, 17, 18, 19, 20, 21, 22, 23, 24, 25, 26, 27, 28, 29, 30, 31, 32, 33, 34, 35, 36, 37, 38, 39, 40, 41, 42, 43, 44, 45, 46, 47, 48, 49, 50, 51, 52, 53, 54, 55] [56] z z z (q_mv z z z (q_mv z z z (q_mv z z z (q_u z z (o_nc z) (q_fa z z fa86_0 z (q_ld z z 3 sc3 z z z (q_u z z (o_bin z z (bI_mul 2 (i64 (ra2.1.toNat : Int)))) (q_u z z (o_bin z z (bI_add (i64 (2 * (i64 (ra2.1.toNat : Int)))) 1)) (q_u z z (o_bin z z (bI_eq p37.1 (i64 ((i64 (2 * (i64 (ra2.1.toNat : Int)))) + 1)))) (q_mv z z z (qc z z (s_gt z z fun g => o_ixA (sz := 1) (n := 4) (i := 0) Tryz.underlying160 (fun _ => by kernel_rfl) z z (by decide)) (qc z z (s_gt z z fun g => o_ld 2 sc3 (evg z g) z z) (qc z z (s_gt z z fun g => o_ixA (sz := 1) (n := 4) (i := 1) Tryz.underlying160 (fun _ => by kernel_rfl) z z (by decide)) (qc z z (s_gt z z fun g => o_ld 2 sc3 (evg z g) z z) (qc z z (s_gt z z fun g => o_bin (evg z g) (evg z g) (bI_add (p37.2.getD 0 default) (p37.2.getD 1 default))) (qc z z (s_gt z z fun g => o_mv z) (qc z z (s_gt z z fun g => o_nc (evg z g)) (qc z z (s_gt z z fun g => o_fa fa86_0 (evg z g)) (qc z z (s_gt z z fun g => o_ld 3 sc3 (evg z g) z z) (qc z z (s_gt z z fun g => o_bin (evg z g) (evg z g) (bI_le (i64 ((p37.2.getD 0 default) + (p37.2.getD 1 default))) (i64 (ra2.1.toNat : Int)))) (q_u z z (o_and z z) (q_mv z z z (qc z z (s_gt z z fun g => o_ixA (sz := 1) (n := 4) (i := 0) Tryz.underlying160 (fun _ => by kernel_rfl) z z (by decide)) (qc z z (s_gt z z fun g => o_ld 2 sc3 (evg z g) z z) (qc z z (s_gt z z fun g => o_ixA (sz := 1) (n := 4) (i := 2) Tryz.underlying160 (fun _ => by kernel_rfl) z z (by decide)) (qc z z (s_gt z z fun g => o_ld 2 sc3 (evg z g) z z) (qc z z (s_gt z z fun g => o_bin (evg z g) (evg z g) (bI_add (p37.2.getD 0 default) (p37.2.getD 2 default))) (qc z z (s_gt z z fun g => o_mv z) (qc z z (s_gt z z fun g => o_nc (evg z g)) (qc z z (s_gt z z fun g => o_fa fa86_0 (evg z g)) (qc z z (s_gt z z fun g => o_ld 3 sc3 (evg z g) z z) (qc z z (s_gt z z fun g => o_bin (evg z g) (evg z g) (bI_le (i64 ((p37.2.getD 0 default) + (p37.2.getD 2 default))) (i64 (ra2.1.toNat : Int)))) (q_u z z (o_and z z) (q_mv z z z (q_n z z z z h41 (q_n z z z z h41 (q_n z z z z h41 (q_n z z z z h41 (q_n z z z z h41 (q_n z z z z h41 (q_n z z z z h41 (q_n z z z z h41 (q_n z z z z h41 (q_n z z z z h41 (q_n z z z z h41 (q_n z z z z h41 (q_n z z z z h41 (q_u z z (o_pf z h41 z) (q_mv z z z (q_n z z z z z (q_n z z z z z (q_n z z z z z (q_n z z z z z (q_n z z z z z (q_n z z z z z (q_u z z (o_pf z z z) qn)))))))))))))))))))))))))))))))))))))))))))))))))))))))) ?_ (nxt z)
  refine ec (eo_c z (s_w (o_callL ca89 z (As.ok b0_ ra21.2 false (Sum.inl ra59) hr57) (fun _ _ _ h => h))) ?_) en
  refine stage z z z z mk7_ [] [] z z z qn en ?_
  intro _
  refine ex_sub (E' := [(3, pt b6 0)]) ⟨z, trivial⟩ ?_
  refine x_seq (csr ?_)
  refine r_mv z (r_as z ?_)
  refine r_nil (x_seq (c_ret ?_))
  refine ex_st (fun _ h => mv5 (mv7 (mv7 (mv7 (mv7 h))))) ?_
  refine ex_st (fun _ h => st_some (f := Ae.op g27) (a := x29) (st_star_f (A := Ae.fl b30 x29 g27) h)) ?_
  refine ex_st (fun _ h => mv3 h) ?_
  refine ex_st (fun _ h => st_some (f := Al.op (⟨(pt b30 0, g27)⟩ : Al.G)) (a := (⟨i64 (ra2.1.toNat : Int), i64 (ra15.1.toNat : Int), (some x29)⟩ : Al)) (st_star_f (A := Al.fl b6 (⟨i64 (ra2.1.toNat : Int), i64 (ra15.1.toNat : Int), (some x29)⟩ : Al) (⟨(pt b30 0, g27)⟩ : Al.G)) h)) ?_
  obtain rfl := si hm62
  refine ex_st (fun _ h => st_pk 3 [0, 1] (by decide) h) ?_
  exact x_r1 z (rv_t z) (Le.refl _) (.inl ⟨_, z, _, z, (pt b6 0, (⟨(pt b30 0, g27)⟩ : Al.G)), z, z, z⟩)
 have hm42 := ift hm39 h41
 clear hm39
 refine cd_by (decide ((i64 (p37.1 - (Am x29))) ≤ (i64 (2 * (i64 (ra2.1.toNat : Int)))))) (fun h43 => ?_) fun h43 => ?_
 ·have hm44 := ift hm42 h43
  clear hm42
  obtain ⟨r45, hr45, hm46⟩ := ltx hm44
  clear hm44
  rcases r45 with ra47 | ⟨rn48, ro49⟩
  rotate_left
  ·have hm50 := sm_r hm46
   clear hm46
   refine c_any mixed (effs := [56]) (V := []) ?_
   refine stage_st (fun _ h => mv3 h) ?_
   refine stage_ext [(0, pt b0_ 0), (1, vI p37.1), (2, pt b6 0), (3, pt b6 0), (4, pt b6 0), (5, vI (i64 (ra2.1.toNat : Int))), (6, vI (i64 (2 * (i64 (ra2.1.toNat : Int))))), (7, vI (i64 ((i64 (2 * (i64 (ra2.1.toNat : Int)))) + 1))), (8, vB (p37.1 == (i64 ((i64 (2 * (i64 (ra2.1.toNat : Int)))) + 1)))), (9, vB (p37.1 == (i64 ((i64 (2 * (i64 (ra2.1.toNat : Int)))) + 1)))), (10, gv (p37.1 == (i64 ((i64 (2 * (i64 (ra2.1.toNat : Int)))) + 1))) (pt b28 0)), (11, gv (p37.1 == (i64 ((i64 (2 * (i64 (ra2.1.toNat : Int)))) + 1))) (vI (p37.2.getD 0 default))), (12, gv (p37.1 == (i64 ((i64 (2 * (i64 (ra2.1.toNat : Int)))) + 1))) (pt b28 1)), (13, gv (p37.1 == (i64 ((i64 (2 * (i64 (ra2.1.toNat : Int)))) + 1))) (vI (p37.2.getD 1 default))), (14, gv (p37.1 == (i64 ((i64 (2 * (i64 (ra2.1.toNat : Int)))) + 1))) (vI (i64 ((p37.2.getD 0 default) + (p37.2.getD 1 default))))), (15, gv (p37.1 == (i64 ((i64 (2 * (i64 (ra2.1.toNat : Int)))) + 1))) (pt b6 0)), (16, gv (p37.1 == (i64 ((i64 (2 * (i64 (ra2.1.toNat : Int)))) + 1))) (pt b6 0)), (17, gv (p37.1 == (i64 ((i64 (2 * (i64 (ra2.1.toNat : Int)))) + 1))) (pt b6 0)), (18, gv (p37.1 == (i64 ((i64 (2 * (i64 (ra2.1.toNat : Int)))) + 1))) (vI (i64 (ra2.1.toNat : Int)))), (19, gv (p37.1 == (i64 ((i64 (2 * (i64 (ra2.1.toNat : Int)))) + 1))) (vB (decide ((i64 ((p37.2.getD 0 default) + (p37.2.getD 1 default))) ≤ (i64 (ra2.1.toNat : Int)))))), (20, vB ((p37.1 == (i64 ((i64 (2 * (i64 (ra2.1.toNat : Int)))) + 1))) && decide ((i64 ((p37.2.getD 0 default) + (p37.2.getD 1 default))) ≤ (i64 (ra2.1.toNat : Int))))), (21, vB ((p37.1 == (i64 ((i64 (2 * (i64 (ra2.1.toNat : Int)))) + 1))) && decide ((i64 ((p37.2.getD 0 default) + (p37.2.getD 1 default))) ≤ (i64 (ra2.1.toNat : Int))))), (22, gv ((p37.1 == (i64 ((i64 (2 * (i64 (ra2.1.toNat : Int)))) + 1))) && decide ((i64 ((p37.2.getD 0 default) + (p37.2.getD 1 default))) ≤ (i64 (ra2.1.toNat : Int)))) (pt b28 0)), (23, gv ((p37.1 == (i64 ((i64 (2 * (i64 (ra2.1.toNat : Int)))) + 1))) && decide ((i64 ((p37.2.getD 0 default) + (p37.2.getD 1 default))) ≤ (i64 (ra2.1.toNat : Int)))) (vI (p37.2.getD 0 default))), (24, gv ((p37.1 == (i64 ((i64 (2 * (i64 (ra2.1.toNat : Int)))) + 1))) && decide ((i64 ((p37.2.getD 0 default) + (p37.2.getD 1 default))) ≤ (i64 (ra2.1.toNat : Int)))) (pt b28 2)), (25, gv ((p37.1 == (i64 ((i64 (2 * (i64 (ra2.1.toNat : Int)))) + 1))) && decide ((i64 ((p37.2.getD 0 default) + (p37.2.getD 1 default))) ≤ (i64 (ra2.1.toNat : Int)))) (vI (p37.2.getD 2 default))), (26, gv ((p37.1 == (i64 ((i64 (2 * (i64 (ra2.1.toNat : Int)))) + 1))) && decide ((i64 ((p37.2.getD 0 default) + (p37.2.getD 1 default))) ≤ (i64 (ra2.1.toNat : Int)))) (vI (i64 ((p37.2.getD 0 default) + (p37.2.getD 2 default))))), (27, gv ((p37.1 == (i64 ((i64 (2 * (i64 (ra2.1.toNat : Int)))) + 1))) && decide ((i64 ((p37.2.getD 0 default) + (p37.2.getD 1 default))) ≤ (i64 (ra2.1.toNat : Int)))) (pt b6 0)), (28, gv ((p37.1 == (i64 ((i64 (2 * (i64 (ra2.1.toNat : Int)))) + 1))) && decide ((i64 ((p37.2.getD 0 default) + (p37.2.getD 1 default))) ≤ (i64 (ra2.1.toNat : Int)))) (pt b6 0)), (29, gv ((p37.1 == (i64 ((i64 (2 * (i64 (ra2.1.toNat : Int)))) + 1))) && decide ((i64 ((p37.2.getD 0 default) + (p37.2.getD 1 default))) ≤ (i64 (ra2.1.toNat : Int)))) (pt b6 0)), (30, gv ((p37.1 == (i64 ((i64 (2 * (i64 (ra2.1.toNat : Int)))) + 1))) && decide ((i64 ((p37.2.getD 0 default) + (p37.2.getD 1 default))) ≤ (i64 (ra2.1.toNat : Int)))) (vI (i64 (ra2.1.toNat : Int)))), (31, gv ((p37.1 == (i64 ((i64 (2 * (i64 (ra2.1.toNat : Int)))) + 1))) && decide ((i64 ((p37.2.getD 0 default) + (p37.2.getD 1 default))) ≤ (i64 (ra2.1.toNat : Int)))) (vB (decide ((i64 ((p37.2.getD 0 default) + (p37.2.getD 2 default))) ≤ (i64 (ra2.1.toNat : Int)))))), (32, vB (((p37.1 == (i64 ((i64 (2 * (i64 (ra2.1.toNat : Int)))) + 1))) && decide ((i64 ((p37.2.getD 0 default) + (p37.2.getD 1 default))) ≤ (i64 (ra2.1.toNat : Int)))) && decide ((i64 ((p37.2.getD 0 default) + (p37.2.getD 2 default))) ≤ (i64 (ra2.1.toNat : Int))))), (33, vB (((p37.1 == (i64 ((i64 (2 * (i64 (ra2.1.toNat : Int)))) + 1))) && decide ((i64 ((p37.2.getD 0 default) + (p37.2.getD 1 default))) ≤ (i64 (ra2.1.toNat : Int)))) && decide ((i64 ((p37.2.getD 0 default) + (p37.2.getD 2 default))) ≤ (i64 (ra2.1.toNat : Int))))), (34, vI p37.1), (35, pt b6 0), (36, pt b6 0), (37, pt b6 2), (38, pt b30 0), (39, vI (Am x29)), (40, vI (i64 (p37.1 - (Am x29)))), (41, pt b6 0), (42, pt b6 0), (43, pt b6 0), (44, vI (i64 (ra2.1.toNat : Int))), (45, vI (i64 (2 * (i64 (ra2.1.toNat : Int))))), (46, vB (decide ((i64 (p37.1 - (Am x29))) ≤ (i64 (2 * (i64 (ra2.1.toNat : Int))))))), (47, vB (decide ((i64 (p37.1 - (Am x29))) ≤ (i64 (2 * (i64 (ra2.1.toNat : Int))))))), (48, vB (decide ((i64 (p37.1 - (Am x29))) ≤ (i64 (2 * (i64 (ra2.1.toNat : Int))))))), (49, pt b6 0), (50, pt b6 0), (51, pt b6 2), (52, pt b30 0), (53, vI (Ao x29)), (54, vB ((Ao x29) == 4)), (55, vB ((Ao x29) == 4))] z ?_
   refine stage z z z z mk7_ [0, 1, 2, 3, 4, 5, 6, 7, 8, 9, 10, 11, 12, 13, 14, 15, 16, 17, 18, 19, 20, 21, 22, 23, 24, 25, 26, 27, 28, 29, 30, 31, 32, 33, 34, 35, 36, 37, 38, 39, 40, 41, 42, 43, 44, 45, 46, 47, 48, 49, 50, 51, 52, 53, 54, 55] [56] z z z (q_mv z z z (q_mv z z z (q_mv z z z (q_u z z (o_nc z) (q_fa z z fa86_0 z (q_ld z z 3 sc3 z z z (q_u z z (o_bin z z (bI_mul 2 (i64 (ra2.1.toNat : Int)))) (q_u z z (o_bin z z (bI_add (i64 (2 * (i64 (ra2.1.toNat : Int)))) 1)) (q_u z z (o_bin z z (bI_eq p37.1 (i64 ((i64 (2 * (i64 (ra2.1.toNat : Int)))) + 1)))) (q_mv z z z (qc z z (s_gt z z fun g => o_ixA (sz := 1) (n := 4) (i := 0) Tryz.underlying160 (fun _ => by kernel_rfl) z z (by decide)) (qc z z (s_gt z z fun g => o_ld 2 sc3 (evg z g) z z) (qc z z (s_gt z z fun g => o_ixA (sz := 1) (n := 4) (i := 1) Tryz.underlying160 (fun _ => by kernel_rfl) z z (by decide)) (qc z z (s_gt z z fun g => o_ld 2 sc3 (evg z g) z z) (qc z z (s_gt z z fun g => o_bin (evg z g) (evg z g) (bI_add (p37.2.getD 0 default) (p37.2.getD 1 default))) (qc z z (s_gt z z fun g => o_mv z) (qc z z (s_gt z z fun g => o_nc (evg z g)) (qc z z (s_gt z z fun g => o_fa fa86_0 (evg z g)) (qc z z (s_gt z z fun g => o_ld 3 sc3 (evg z g) z z) (qc z z (s_gt z z fun g => o_bin (evg z g) (evg z g) (bI_le (i64 ((p37.2.getD 0 default) + (p37.2.getD 1 default))) (i64 (ra2.1.toNat : Int)))) (q_u z z (o_and z z) (q_mv z z z (qc z z (s_gt z z fun g => o_ixA (sz := 1) (n := 4) (i := 0) Tryz.underlying160 (fun _ => by kernel_rfl) z z (by decide)) (qc z z (s_gt z z fun g => o_ld 2 sc3 (evg z g) z z) (qc z z (s_gt z z fun g => o_ixA (sz := 1) (n := 4) (i := 2) Tryz.underlying160 (fun _ => by kernel_rfl) z z (by decide)) (qc z z (s_gt z z fun g => o_ld 2 sc3 (evg z g) z z) (qc z z (s_gt z z fun g => o_bin (evg z g) (evg z g) (bI_add (p37.2.getD 0 default) (p37.2.getD 2 default))) (qc z z (s_gt z z fun g => o_mv z) (qc z z (s_gt z z fun g => o_nc (evg z g)) (qc z z (s_gt z z fun g => o_fa fa86_0 (evg z g)) (qc z z (s_gt z z fun g => o_ld 3 sc3 (evg z g) z z) (qc z z (s_gt z z fun g => o_bin (evg z g) (evg z g) (bI_le (i64 ((p37.2.getD 0 default) + (p37.2.getD 2 default))) (i64 (ra2.1.toNat : Int)))) (q_u z z (o_and z z) (q_mv z z z (q_y z z z z h41 (o_mv z) (q_y z z z z h41 (o_mv z) (q_y z z z z h41 (o_nc z) (q_y z z z z h41 (o_fa fa86_2 z) (q_y z z z z h41 (o_ld 3 sc82 z z z) (q_y z z z z h41 (o_callqP ca119 z (Am.ok b30 x29 g27 _ z) (fun _ h => st_pk 8 [1, 4, 5, 6, 7, 0, 2, 3] (by decide) h) (fun _ h => st_pk 8 [5, 0, 6, 7, 1, 2, 3, 4] (by decide) h)) (q_y z z z z h41 (o_bin z z (bI_sub p37.1 (Am x29))) (q_y z z z z h41 (o_mv z) (q_y z z z z h41 (o_nc z) (q_y z z z z h41 (o_fa fa86_0 z) (q_y z z z z h41 (o_ld 3 sc3 z z z) (q_y z z z z h41 (o_bin z z (bI_mul 2 (i64 (ra2.1.toNat : Int)))) (q_y z z z z h41 (o_bin z z (bI_le (i64 (p37.1 - (Am x29))) (i64 (2 * (i64 (ra2.1.toNat : Int)))))) (q_u z z (o_pt z h41 z) (q_mv z z z (q_y z z z z h43 (o_mv z) (q_y z z z z h43 (o_nc z) (q_y z z z z h43 (o_fa fa86_2 z) (q_y z z z z h43 (o_ld 3 sc82 z z z) (q_y z z z z h43 (o_callqP ca120 z (Ao.ok b30 x29 g27 _ z) (fun _ h => st_pk 8 [1, 4, 5, 6, 7, 0, 2, 3] (by decide) h) (fun _ h => st_pk 8 [5, 0, 6, 7, 1, 2, 3, 4] (by decide) h)) (q_y z z z z h43 (o_bin z z (bI_eq (Ao x29) 4)) (q_u z z (o_pt z h43 z) qn)))))))))))))))))))))))))))))))))))))))))))))))))))))))) ?_ (nxt z)
   obtain rfl := si hm50
   exact ec (eo_w z (s_w (o_callR ca89 z (As.ok b0_ ra21.2 ((Ao x29) == 4) (Sum.inr (rn48, ro49)) hr45) (by rintro _ _ _ ⟨rfl, rfl⟩; exact (px_st (fun _ h => st_pk 8 [0] (by decide) h) (px_of (Le.refl _) (.inr ⟨_, z, _, z, z, z⟩)))))) (fun _ _ _ _ h => h.elim)) en
  have hm50 := sm_l hm46
  clear hm46
  refine c_any mixed (effs := [56]) (V := []) ?_
  refine stage_st (fun _ h => mv3 h) ?_
  refine stage_ext [(0, pt b0_ 0), (1, vI p37.1), (2, pt b6 0), (3, pt b6 0), (4, pt b6 0), (5, vI (i64 (ra2.1.toNat : Int))), (6, vI (i64 (2 * (i64 (ra2.1.toNat : Int))))), (7, vI (i64 ((i64 (2 * (i64 (ra2.1.toNat : Int)))) + 1))), (8, vB (p37.1 == (i64 ((i64 (2 * (i64 (ra2.1.toNat : Int)))) + 1)))), (9, vB (p37.1 == (i64 ((i64 (2 * (i64 (ra2.1.toNat : Int)))) + 1)))), (10, gv (p37.1 == (i64 ((i64 (2 * (i64 (ra2.1.toNat : Int)))) + 1))) (pt b28 0)), (11, gv (p37.1 == (i64 ((i64 (2 * (i64 (ra2.1.toNat : Int)))) + 1))) (vI (p37.2.getD 0 default))), (12, gv (p37.1 == (i64 ((i64 (2 * (i64 (ra2.1.toNat : Int)))) + 1))) (pt b28 1)), (13, gv (p37.1 == (i64 ((i64 (2 * (i64 (ra2.1.toNat : Int)))) + 1))) (vI (p37.2.getD 1 default))), (14, gv (p37.1 == (i64 ((i64 (2 * (i64 (ra2.1.toNat : Int)))) + 1))) (vI (i64 ((p37.2.getD 0 default) + (p37.2.getD 1 default))))), (15, gv (p37.1 == (i64 ((i64 (2 * (i64 (ra2.1.toNat : Int)))) + 1))) (pt b6 0)), (16, gv (p37.1 == (i64 ((i64 (2 * (i64 (ra2.1.toNat : Int)))) + 1))) (pt b6 0)), (17, gv (p37.1 == (i64 ((i64 (2 * (i64 (ra2.1.toNat : Int)))) + 1))) (pt b6 0)), (18, gv (p37.1 == (i64 ((i64 (2 * (i64 (ra2.1.toNat : Int)))) + 1))) (vI (i64 (ra2.1.toNat : Int)))), (19, gv (p37.1 == (i64 ((i64 (2 * (i64 (ra2.1.toNat : Int)))) + 1))) (vB (decide ((i64 ((p37.2.getD 0 default) + (p37.2.getD 1 default))) ≤ (i64 (ra2.1.toNat : Int)))))), (20, vB ((p37.1 == (i64 ((i64 (2 * (i64 (ra2.1.toNat : Int)))) + 1))) && decide ((i64 ((p37.2.getD 0 default) + (p37.2.getD 1 default))) ≤ (i64 (ra2.1.toNat : Int))))), (21, vB ((p37.1 == (i64 ((i64 (2 * (i64 (ra2.1.toNat : Int)))) + 1))) && decide ((i64 ((p37.2.getD 0 default) + (p37.2.getD 1 default))) ≤ (i64 (ra2.1.toNat : Int))))), (22, gv ((p37.1 == (i64 ((i64 (2 * (i64 (ra2.1.toNat : Int)))) + 1))) && decide ((i64 ((p37.2.getD 0 default) + (p37.2.getD 1 default))) ≤ (i64 (ra2.1.toNat : Int)))) (pt b28 0)), (23, gv ((p37.1 == (i64 ((i64 (2 * (i64 (ra2.1.toNat : Int)))) + 1))) && decide ((i64 ((p37.2.getD 0 default) + (p37.2.getD 1 default))) ≤ (i64 (ra2.1.toNat : Int)))) (vI (p37.2.getD 0 default))), (24, gv ((p37.1 == (i64 ((i64 (2 * (i64 (ra2.1.toNat : Int)))) + 1))) && decide ((i64 ((p37.2.getD 0 default) + (p37.2.getD 1 default))) ≤ (i64 (ra2.1.toNat : Int)))) (pt b28 2)), (25, gv ((p37.1 == (i64 ((i64 (2 * (i64 (ra2.1.toNat : Int)))) + 1))) && decide ((i64 ((p37.2.getD 0 default) + (p37.2.getD 1 default))) ≤ (i64 (ra2.1.toNat : Int)))) (vI (p37.2.getD 2 default))), (26, gv ((p37.1 == (i64 ((i64 (2 * (i64 (ra2.1.toNat : Int)))) + 1))) && decide ((i64 ((p37.2.getD 0 default) + (p37.2.getD 1 default))) ≤ (i64 (ra2.1.toNat : Int)))) (vI (i64 ((p37.2.getD 0 default) + (p37.2.getD 2 default))))), (27, gv ((p37.1 == (i64 ((i64 (2 * (i64 (ra2.1.toNat : Int)))) + 1))) && decide ((i64 ((p37.2.getD 0 default) + (p37.2.getD 1 default))) ≤ (i64 (ra2.1.toNat : Int)))) (pt b6 0)), (28, gv ((p37.1 == (i64 ((i64 (2 * (i64 (ra2.1.toNat : Int)))) + 1))) && decide ((i64 ((p37.2.getD 0 default) + (p37.2.getD 1 default))) ≤ (i64 (ra2.1.toNat : Int)))) (pt b6 0)), (29, gv ((p37.1 == (i64 ((i64 (2 * (i64 (ra2.1.toNat : Int)))) + 1))) && decide ((i64 ((p37.2.getD 0 default) + (p37.2.getD 1 default))) ≤ (i64 (ra2.1.toNat : Int)))) (pt b6 0)), (30, gv ((p37.1 == (i64 ((i64 (2 * (i64 (ra2.1.toNat : Int)))) + 1))) && decide ((i64 ((p37.2.getD 0 default) + (p37.2.getD 1 default))) ≤ (i64 (ra2.1.toNat : Int)))) (vI (i64 (ra2.1.toNat : Int)))), (31, gv ((p37.1 == (i64 ((i64 (2 * (i64 (ra2.1.toNat : Int)))) + 1))) && decide ((i64 ((p37.2.getD 0 default) + (p37.2.getD 1 default))) ≤ (i64 (ra2.1.toNat : Int)))) (vB (decide ((i64 ((p37.2.getD 0 default) + (p37.2.getD 2 default))) ≤ (i64 (ra2.1.toNat : Int)))))), (32, vB (((p37.1 == (i64 ((i64 (2 * (i64 (ra2.1.toNat : Int)))) + 1))) && decide ((i64 ((p37.2.getD 0 default) + (p37.2.getD 1 default))) ≤ (i64 (ra2.1.toNat : Int)))) && decide ((i64 ((p37.2.getD 0 default) + (p37.2.getD 2 default))) ≤ (i64 (ra2.1.toNat : Int))))), (33, vB (((p37.1 == (i64 ((i64 (2 * (i64 (ra2.1.toNat : Int)))) + 1))) && decide ((i64 ((p37.2.getD 0 default) + (p37.2.getD 1 default))) ≤ (i64 (ra2.1.toNat : Int)))) && decide ((i64 ((p37.2.getD 0 default) + (p37.2.getD 2 default))) ≤ (i64 (ra2.1.toNat : Int))))), (34, vI p37.1), (35, pt b6 0), (36, pt b6 0), (37, pt b6 2), (38, pt b30 0), (39, vI (Am x29)), (40, vI (i64 (p37.1 - (Am x29)))), (41, pt b6 0), (42, pt b6 0), (43, pt b6 0), (44, vI (i64 (ra2.1.toNat : Int))), (45, vI (i64 (2 * (i64 (ra2.1.toNat : Int))))), (46, vB (decide ((i64 (p37.1 - (Am x29))) ≤ (i64 (2 * (i64 (ra2.1.toNat : Int))))))), (47, vB (decide ((i64 (p37.1 - (Am x29))) ≤ (i64 (2 * (i64 (ra2.1.toNat : Int))))))), (48, vB (decide ((i64 (p37.1 - (Am x29))) ≤ (i64 (2 * (i64 (ra2.1.toNat : Int))))))), (49, pt b6 0), (50, pt b6 0), (51, pt b6 2), (52, pt b30 0), (53, vI (Ao x29)), (54, vB ((Ao x29) == 4)), (55, vB ((Ao x29) == 4))] z ?_
  refine stage z z z z mk7_ [0, 1, 2, 3, 4, 5, 6, 7, 8, 9, 10, 11, 12, 13, 14, 15, 16, 17, 18, 19, 20, 21, 22, 23, 24, 25, 26, 27, 28, 29, 30, 31, 32, 33, 34, 35, 36, 37, 38, 39, 40, 41, 42, 43, 44, 45, 46, 47, 48, 49, 50, 51, 52, 53, 54, 55] [56] z z z (q_mv z z z (q_mv z z z (q_mv z z z (q_u z z (o_nc z) (q_fa z z fa86_0 z (q_ld z z 3 sc3 z z z (q_u z z (o_bin z z (bI_mul 2 (i64 (ra2.1.toNat : Int)))) (q_u z z (o_bin z z (bI_add (i64 (2 * (i64 (ra2.1.toNat : Int)))) 1)) (q_u z z (o_bin z z (bI_eq p37.1 (i64 ((i64 (2 * (i64 (ra2.1.toNat : Int)))) + 1)))) (q_mv z z z (qc z z (s_gt z z fun g => o_ixA (sz := 1) (n := 4) (i := 0) Tryz.underlying160 (fun _ => by kernel_rfl) z z (by decide)) (qc z z (s_gt z z fun g => o_ld 2 sc3 (evg z g) z z) (qc z z (s_gt z z fun g => o_ixA (sz := 1) (n := 4) (i := 1) Tryz.underlying160 (fun _ => by kernel_rfl) z z (by decide)) (qc z z (s_gt z z fun g => o_ld 2 sc3 (evg z g) z z) (qc z z (s_gt z z fun g => o_bin (evg z g) (evg z g) (bI_add (p37.2.getD 0 default) (p37.2.getD 1 default))) (qc z z (s_gt z z fun g => o_mv z) (qc z z (s_gt z z fun g => o_nc (evg z g)) (qc z z (s_gt z z fun g => o_fa fa86_0 (evg z g)) (qc z z (s_gt z z fun g => o_ld 3 sc3 (evg z g) z z) (qc z z (s_gt z z fun g => o_bin (evg z g) (evg z g) (bI_le (i64 ((p37.2.getD 0 default) + (p37.2.getD 1 default))) (i64 (ra2.1.toNat : Int)))) (q_u z z (o_and z z) (q_mv z z z (qc z z (s_gt z z fun g => o_ixA (sz := 1) (n := 4) (i := 0) Tryz.underlying160 (fun _ => by kernel_rfl) z z (by decide)) (qc z z (s_gt z z fun g => o_ld 2 sc3 (evg z g) z z) (qc z z (s_gt z z fun g => o_ixA (sz := 1) (n := 4) (i := 2) Tryz.underlying160 (fun _ => by kernel_rfl) z z (by decide)) (qc z z (s_gt z z fun g => o_ld 2 sc3 (evg z g) z z) (qc z z (s_gt z z fun g => o_bin (evg z g) (evg z g) (bI_add (p37.2.getD 0 default) (p37.2.getD 2 default))) (qc z z (s_gt z z fun g => o_mv z) (qc z z (s_gt z z fun g => o_nc (evg z g)) (qc z z (s_gt z z fun g => o_fa fa86_0 (evg z g)) (qc z z (s_gt z z fun g => o_ld 3 sc3 (evg z g) z z) (qc z z (s_gt z z fun g => o_bin (evg z g) (evg z g) (bI_le (i64 ((p37.2.getD 0 default) + (p37.2.getD 2 default))) (i64 (ra2.1.toNat : Int)))) (q_u z z (o_and z z) (q_mv z z z (q_y z z z z h41 (o_mv z) (q_y z z z z h41 (o_mv z) (q_y z z z z h41 (o_nc z) (q_y z z z z h41 (o_fa fa86_2 z) (q_y z z z z h41 (o_ld 3 sc82 z z z) (q_y z z z z h41 (o_callqP ca119 z (Am.ok b30 x29 g27 _ z) (fun _ h => st_pk 8 [1, 4, 5, 6, 7, 0, 2, 3] (by decide) h) (fun _ h => st_pk 8 [5, 0, 6, 7, 1, 2, 3, 4] (by decide) h)) (q_y z z z z h41 (o_bin z z (bI_sub p37.1 (Am x29))) (q_y z z z z h41 (o_mv z) (q_y z z z z h41 (o_nc z) (q_y z z z z h41 (o_fa fa86_0 z) (q_y z z z z h41 (o_ld 3 sc3 z z z) (q_y z z z z h41 (o_bin z z (bI_mul 2 (i64 (ra2.1.toNat : Int)))) (q_y z z z z h41 (o_bin z z (bI_le (i64 (p37.1 - (Am x29))) (i64 (2 * (i64 (ra2.1.toNat : Int)))))) (q_u z z (o_pt z h41 z) (q_mv z z z (q_y z z z z h43 (o_mv z) (q_y z z z z h43 (o_nc z) (q_y z z z z h43 (o_fa fa86_2 z) (q_y z z z z h43 (o_ld 3 sc82 z z z) (q_y z z z z h43 (o_callqP ca120 z (Ao.ok b30 x29 g27 _ z) (fun _ h => st_pk 8 [1, 4, 5, 6, 7, 0, 2, 3] (by decide) h) (fun _ h => st_pk 8 [5, 0, 6, 7, 1, 2, 3, 4] (by decide) h)) (q_y z z z z h43 (o_bin z z (bI_eq (Ao x29) 4)) (q_u z z (o_pt z h43 z) qn)))))))))))))))))))))))))))))))))))))))))))))))))))))))) ?_ (nxt z)
  refine ec (eo_c z (s_w (o_callL ca89 z (As.ok b0_ ra21.2 ((Ao x29) == 4) (Sum.inl ra47) hr45) (fun _ _ _ h => h))) ?_) en
  refine stage z z z z mk7_ [] [] z z z qn en ?_
  intro _
  refine ex_sub (E' := [(3, pt b6 0)]) ⟨z, trivial⟩ ?_
  refine x_seq (csr ?_)
  refine r_mv z (r_as z ?_)
  refine r_nil (x_seq (c_ret ?_))
  refine ex_st (fun _ h => mv5 (mv7 (mv7 (mv7 (mv7 h))))) ?_
  refine ex_st (fun _ h => st_some (f := Ae.op g27) (a := x29) (st_star_f (A := Ae.fl b30 x29 g27) h)) ?_
  refine ex_st (fun _ h => mv3 h) ?_
  refine ex_st (fun _ h => st_some (f := Al.op (⟨(pt b30 0, g27)⟩ : Al.G)) (a := (⟨i64 (ra2.1.toNat : Int), i64 (ra15.1.toNat : Int), (some x29)⟩ : Al)) (st_star_f (A := Al.fl b6 (⟨i64 (ra2.1.toNat : Int), i64 (ra15.1.toNat : Int), (some x29)⟩ : Al) (⟨(pt b30 0, g27)⟩ : Al.G)) h)) ?_
  obtain rfl := si hm50
  refine ex_st (fun _ h => st_pk 3 [0, 1] (by decide) h) ?_
  exact x_r1 z (rv_t z) (Le.refl _) (.inl ⟨_, z, _, z, (pt b6 0, (⟨(pt b30 0, g27)⟩ : Al.G)), z, z, z⟩)
 have hm44 := iff_ hm42 h43
 clear hm42
 obtain ⟨r51, hr51, hm52⟩ := ltx hm44
 clear hm44
 rcases r51 with ra53 | ⟨rn54, ro55⟩
 rotate_left
 ·have hm56 := sm_r hm52
  clear hm52
  refine c_any mixed (effs := [56]) (V := []) ?_
  refine stage_st (fun _ h => mv3 h) ?_
  refine stage_ext [(0, pt b0_ 0), (1, vI p37.1), (2, pt b6 0), (3, pt b6 0), (4, pt b6 0), (5, vI (i64 (ra2.1.toNat : Int))), (6, vI (i64 (2 * (i64 (ra2.1.toNat : Int))))), (7, vI (i64 ((i64 (2 * (i64 (ra2.1.toNat : Int)))) + 1))), (8, vB (p37.1 == (i64 ((i64 (2 * (i64 (ra2.1.toNat : Int)))) + 1)))), (9, vB (p37.1 == (i64 ((i64 (2 * (i64 (ra2.1.toNat : Int)))) + 1)))), (10, gv (p37.1 == (i64 ((i64 (2 * (i64 (ra2.1.toNat : Int)))) + 1))) (pt b28 0)), (11, gv (p37.1 == (i64 ((i64 (2 * (i64 (ra2.1.toNat : Int)))) + 1))) (vI (p37.2.getD 0 default))), (12, gv (p37.1 == (i64 ((i64 (2 * (i64 (ra2.1.toNat : Int)))) + 1))) (pt b28 1)), (13, gv (p37.1 == (i64 ((i64 (2 * (i64 (ra2.1.toNat : Int)))) + 1))) (vI (p37.2.getD 1 default))), (14, gv (p37.1 == (i64 ((i64 (2 * (i64 (ra2.1.toNat : Int)))) + 1))) (vI (i64 ((p37.2.getD 0 default) + (p37.2.getD 1 default))))), (15, gv (p37.1 == (i64 ((i64 (2 * (i64 (ra2.1.toNat : Int)))) + 1))) (pt b6 0)), (16, gv (p37.1 == (i64 ((i64 (2 * (i64 (ra2.1.toNat : Int)))) + 1))) (pt b6 0)), (17, gv (p37.1 == (i64 ((i64 (2 * (i64 (ra2.1.toNat : Int)))) + 1))) (pt b6 0)), (18, gv (p37.1 == (i64 ((i64 (2 * (i64 (ra2.1.toNat : Int)))) + 1))) (vI (i64 (ra2.1.toNat : Int)))), (19, gv (p37.1 == (i64 ((i64 (2 * (i64 (ra2.1.toNat : Int)))) + 1))) (vB (decide ((i64 ((p37.2.getD 0 default) + (p37.2.getD 1 default))) ≤ (i64 (ra2.1.toNat : Int)))))), (20, vB ((p37.1 == (i64 ((i64 (2 * (i64 (ra2.1.toNat : Int)))) + 1))) && decide ((i64 ((p37.2.getD 0 default) + (p37.2.getD 1 default))) ≤ (i64 (ra2.1.toNat : Int))))), (21, vB ((p37.1 == (i64 ((i64 (2 * (i64 (ra2.1.toNat : Int)))) + 1))) && decide ((i64 ((p37.2.getD 0 default) + (p37.2.getD 1 default))) ≤ (i64 (ra2.1.toNat : Int))))), (22, gv ((p37.1 == (i64 ((i64 (2 * (i64 (ra2.1.toNat : Int)))) + 1))) && decide ((i64 ((p37.2.getD 0 default) + (p37.2.getD 1 default))) ≤ (i64 (ra2.1.toNat : Int)))) (pt b28 0)), (23, gv ((p37.1 == (i64 ((i64 (2 * (i64 (ra2.1.toNat : Int)))) + 1))) && decide ((i64 ((p37.2.getD 0 default) + (p37.2.getD 1 default))) ≤ (i64 (ra2.1.toNat : Int)))) (vI (p37.2.getD 0 default))), (24, gv ((p37.1 == (i64 ((i64 (2 * (i64 (ra2.1.toNat : Int)))) + 1))) && decide ((i64 ((p37.2.getD 0 default) + (p37.2.getD 1 default))) ≤ (i64 (ra2.1.toNat : Int)))) (pt b28 2)), (25, gv ((p37.1 == (i64 ((i64 (2 * (i64 (ra2.1.toNat : Int)))) + 1))) && decide ((i64 ((p37.2.getD 0 default) + (p37.2.getD 1 default))) ≤ (i64 (ra2.1.toNat : Int)))) (vI (p37.2.getD 2 default))), (26, gv ((p37.1 == (i64 ((i64 (2 * (i64 (ra2.1.toNat : Int)))) + 1))) && decide ((i64 ((p37.2.getD 0 default) + (p37.2.getD 1 default))) ≤ (i64 (ra2.1.toNat : Int)))) (vI (i64 ((p37.2.getD 0 default) + (p37.2.getD 2 default))))), (27, gv ((p37.1 == (i64 ((i64 (2 * (i64 (ra2.1.toNat : Int)))) + 1))) && decide ((i64 ((p37.2.getD 0 default) + (p37.2.getD 1 default))) ≤ (i64 (ra2.1.toNat : Int)))) (pt b6 0)), (28, gv ((p37.1 == (i64 ((i64 (2 * (i64 (ra2.1.toNat : Int)))) + 1))) && decide ((i64 ((p37.2.getD 0 default) + (p37.2.getD 1 default))) ≤ (i64 (ra2.1.toNat : Int)))) (pt b6 0)), (29, gv ((p37.1 == (i64 ((i64 (2 * (i64 (ra2.1.toNat : Int)))) + 1))) && decide ((i64 ((p37.2.getD 0 default) + (p37.2.getD 1 default))) ≤ (i64 (ra2.1.toNat : Int)))) (pt b6 0)), (30, gv ((p37.1 == (i64 ((i64 (2 * (i64 (ra2.1.toNat : Int)))) + 1))) && decide ((i64 ((p37.2.getD 0 default) + (p37.2.getD 1 default))) ≤ (i64 (ra2.1.toNat : Int)))) (vI (i64 (ra2.1.toNat : Int)))), (31, gv ((p37.1 == (i64 ((i64 (2 * (i64 (ra2.1.toNat : Int)))) + 1))) && decide ((i64 ((p37.2.getD 0 default) + (p37.2.getD 1 default))) ≤ (i64 (ra2.1.toNat : Int)))) (vB (decide ((i64 ((p37.2.getD 0 default) + (p37.2.getD 2 default))) ≤ (i64 (ra2.1.toNat : Int)))))), (32, vB (((p37.1 == (i64 ((i64 (2 * (i64 (ra2.1.toNat : Int)))) + 1))) && decide ((i64 ((p37.2.getD 0 default) + (p37.2.getD 1 default))) ≤ (i64 (ra2.1.toNat : Int)))) && decide ((i64 ((p37.2.getD 0 default) + (p37.2.getD 2 default))) ≤ (i64 (ra2.1.toNat : Int))))), (33, vB (((p37.1 == (i64 ((i64 (2 * (i64 (ra2.1.toNat : Int)))) + 1))) && decide ((i64 ((p37.2.getD 0 default) + (p37.2.getD 1 default))) ≤ (i64 (ra2.1.toNat : Int)))) && decide ((i64 ((p37.2.getD 0 default) + (p37.2.getD 2 default))) ≤ (i64 (ra2.1.toNat : Int))))), (34, vI p37.1), (35, pt b6 0), (36, pt b6 0), (37, pt b6 2), (38, pt b30 0), (39, vI (Am x29)), (40, vI (i64 (p37.1 - (Am x29)))), (41, pt b6 0), (42, pt b6 0), (43, pt b6 0), (44, vI (i64 (ra2.1.toNat : Int))), (45, vI (i64 (2 * (i64 (ra2.1.toNat : Int))))), (46, vB (decide ((i64 (p37.1 - (Am x29))) ≤ (i64 (2 * (i64 (ra2.1.toNat : Int))))))), (47, vB (decide ((i64 (p37.1 - (Am x29))) ≤ (i64 (2 * (i64 (ra2.1.toNat : Int))))))), (48, vB (decide ((i64 (p37.1 - (Am x29))) ≤ (i64 (2 * (i64 (ra2.1.toNat : Int))))))), (49, undef), (50, undef), (51, undef), (52, undef), (53, undef), (54, undef), (55, vB false)] z ?_
  refine stage z z z z mk7_ [0, 1, 2, 3, 4, 5, 6, 7, 8, 9, 10, 11, 12, 13, 14, 15, 16, 17, 18, 19, 20, 21, 22, 23, 24, 25, 26, 27, 28, 29, 30, 31, 32, 33, 34, 35, 36, 37, 38, 39, 40, 41, 42, 43, 44, 45, 46, 47, 48, 49, 50, 51, 52, 53, 54, 55] [56] z z z (q_mv z z z (q_mv z z z (q_mv z z z (q_u z z (o_nc z) (q_fa z z fa86_0 z (q_ld z z 3 sc3 z z z (q_u z z (o_bin z z (bI_mul 2 (i64 (ra2.1.toNat : Int)))) (q_u z z (o_bin z z (bI_add (i64 (2 * (i64 (ra2.1.toNat : Int)))) 1)) (q_u z z (o_bin z z (bI_eq p37.1 (i64 ((i64 (2 * (i64 (ra2.1.toNat : Int)))) + 1)))) (q_mv z z z (qc z z (s_gt z z fun g => o_ixA (sz := 1) (n := 4) (i := 0) Tryz.underlying160 (fun _ => by kernel_rfl) z z (by decide)) (qc z z (s_gt z z fun g => o_ld 2 sc3 (evg z g) z z) (qc z z (s_gt z z fun g => o_ixA (sz := 1) (n := 4) (i := 1) Tryz.underlying160 (fun _ => by kernel_rfl) z z (by decide)) (qc z z (s_gt z z fun g => o_ld 2 sc3 (evg z g) z z) (qc z z (s_gt z z fun g => o_bin (evg z g) (evg z g) (bI_add (p37.2.getD 0 default) (p37.2.getD 1 default))) (qc z z (s_gt z z fun g => o_mv z) (qc z z (s_gt z z fun g => o_nc (evg z g)) (qc z z (s_gt z z fun g => o_fa fa86_0 (evg z g)) (qc z z (s_gt z z fun g => o_ld 3 sc3 (evg z g) z z) (qc z z (s_gt z z fun g => o_bin (evg z g) (evg z g) (bI_le (i64 ((p37.2.getD 0 default) + (p37.2.getD 1 default))) (i64 (ra2.1.toNat : Int)))) (q_u z z (o_and z z) (q_mv z z z (qc z z (s_gt z z fun g => o_ixA (sz := 1) (n := 4) (i := 0) Tryz.underlying160 (fun _ => by kernel_rfl) z z (by decide)) (qc z z (s_gt z z fun g => o_ld 2 sc3 (evg z g) z z) (qc z z (s_gt z z fun g => o_ixA (sz := 1) (n := 4) (i := 2) Tryz.underlying160 (fun _ => by kernel_rfl) z z (by decide)) (qc z z (s_gt z z fun g => o_ld 2 sc3 (evg z g) z z) (qc z z (s_gt z z fun g => o_bin (evg z g) (evg z g) (bI_add (p37.2.getD 0 default) (p37.2.getD 2 default))) (qc z z (s_gt z z fun g => o_mv z) (qc z z (s_gt z z fun g => o_nc (evg z g)) (qc z z (s_gt z z fun g => o_fa fa86_0 (evg z g)) (qc z z (s_gt z z fun g => o_ld 3 sc3 (evg z g) z z) (qc z z (s_gt z z fun g => o_bin (evg z g) (evg z g) (bI_le (i64 ((p37.2.getD 0 default) + (p37.2.getD 2 default))) (i64 (ra2.1.toNat : Int)))) (q_u z z (o_and z z) (q_mv z z z (q_y z z z z h41 (o_mv z) (q_y z z z z h41 (o_mv z) (q_y z z z z h41 (o_nc z) (q_y z z z z h41 (o_fa fa86_2 z) (q_y z z z z h41 (o_ld 3 sc82 z z z) (q_y z z z z h41 (o_callqP ca119 z (Am.ok b30 x29 g27 _ z) (fun _ h => st_pk 8 [1, 4, 5, 6, 7, 0, 2, 3] (by decide) h) (fun _ h => st_pk 8 [5, 0, 6, 7, 1, 2, 3, 4] (by decide) h)) (q_y z z z z h41 (o_bin z z (bI_sub p37.1 (Am x29))) (q_y z z z z h41 (o_mv z) (q_y z z z z h41 (o_nc z) (q_y z z z z h41 (o_fa fa86_0 z) (q_y z z z z h41 (o_ld 3 sc3 z z z) (q_y z z z z h41 (o_bin z z (bI_mul 2 (i64 (ra2.1.toNat : Int)))) (q_y z z z z h41 (o_bin z z (bI_le (i64 (p37.1 - (Am x29))) (i64 (2 * (i64 (ra2.1.toNat : Int)))))) (q_u z z (o_pt z h41 z) (q_mv z z z (q_n z z z z h43 (q_n z z z z h43 (q_n z z z z h43 (q_n z z z z h43 (q_n z z z z h43 (q_n z z z z h43 (q_u z z (o_pf z h43 z) qn)))))))))))))))))))))))))))))))))))))))))))))))))))))))) ?_ (nxt z)
  obtain rfl := si hm56
  exact ec (eo_w z (s_w (o_callR ca89 z (As.ok b0_ ra21.2 false (Sum.inr (rn54, ro55)) hr51) (by rintro _ _ _ ⟨rfl, rfl⟩; exact (px_st (fun _ h => st_pk 8 [0] (by decide) h) (px_of (Le.refl _) (.inr ⟨_, z, _, z, z, z⟩)))))) (fun _ _ _ _ h => h.elim)) en
 have hm56 := sm_l hm52
 clear hm52
 refine c_any mixed (effs := [56]) (V := []) ?_
 refine stage_st (fun _ h => mv3 h) ?_
 refine stage_ext [(0, pt b0_ 0), (1, vI p37.1), (2, pt b6 0), (3, pt b6 0), (4, pt b6 0), (5, vI (i64 (ra2.1.toNat : Int))), (6, vI (i64 (2 * (i64 (ra2.1.toNat : Int))))), (7, vI (i64 ((i64 (2 * (i64 (ra2.1.toNat : Int)))) + 1))), (8, vB (p37.1 == (i64 ((i64 (2 * (i64 (ra2.1.toNat : Int)))) + 1)))), (9, vB (p37.1 == (i64 ((i64 (2 * (i64 (ra2.1.toNat : Int)))) + 1)))), (10, gv (p37.1 == (i64 ((i64 (2 * (i64 (ra2.1.toNat : Int)))) + 1))) (pt b28 0)), (11, gv (p37.1 == (i64 ((i64 (2 * (i64 (ra2.1.toNat : Int)))) + 1))) (vI (p37.2.getD 0 default))), (12, gv (p37.1 == (i64 ((i64 (2 * (i64 (ra2.1.toNat : Int)))) + 1))) (pt b28 1)), (13, gv (p37.1 == (i64 ((i64 (2 * (i64 (ra2.1.toNat : Int)))) + 1))) (vI (p37.2.getD 1 default))), (14, gv (p37.1 == (i64 ((i64 (2 * (i64 (ra2.1.toNat : Int)))) + 1))) (vI (i64 ((p37.2.getD 0 default) + (p37.2.getD 1 default))))), (15, gv (p37.1 == (i64 ((i64 (2 * (i64 (ra2.1.toNat : Int)))) + 1))) (pt b6 0)), (16, gv (p37.1 == (i64 ((i64 (2 * (i64 (ra2.1.toNat : Int)))) + 1))) (pt b6 0)), (17, gv (p37.1 == (i64 ((i64 (2 * (i64 (ra2.1.toNat : Int)))) + 1))) (pt b6 0)), (18, gv (p37.1 == (i64 ((i64 (2 * (i64 (ra2.1.toNat : Int)))) + 1))) (vI (i64 (ra2.1.toNat : Int)))), (19, gv (p37.1 == (i64 ((i64 (2 * (i64 (ra2.1.toNat : Int)))) + 1))) (vB (decide ((i64 ((p37.2.getD 0 default) + (p37.2.getD 1 default))) ≤ (i64 (ra2.1.toNat : Int)))))), (20, vB ((p37.1 == (i64 ((i64 (2 * (i64 (ra2.1.toNat : Int)))) + 1))) && decide ((i64 ((p37.2.getD 0 default) + (p37.2.getD 1 default))) ≤ (i64 (ra2.1.toNat : Int))))), (21, vB ((p37.1 == (i64 ((i64 (2 * (i64 (ra2.1.toNat : Int)))) + 1))) && decide ((i64 ((p37.2.getD 0 default) + (p37.2.getD 1 default))) ≤ (i64 (ra2.1.toNat : Int))))), (22, gv ((p37.1 == (i64 ((i64 (2 * (i64 (ra2.1.toNat : Int)))) + 1))) && decide ((i64 ((p37.2.getD 0 default) + (p37.2.getD 1 default))) ≤ (i64 (ra2.1.toNat : Int)))) (pt b28 0)), (23, gv ((p37.1 == (i64 ((i64 (2 * (i64 (ra2.1.toNat : Int)))) + 1))) && decide ((i64 ((p37.2.getD 0 default) + (p37.2.getD 1 default))) ≤ (i64 (ra2.1.toNat : Int)))) (vI (p37.2.getD 0 default))), (24, gv ((p37.1 == (i64 ((i64 (2 * (i64 (ra2.1.toNat : Int)))) + 1))) && decide ((i64 ((p37.2.getD 0 default) + (p37.2.getD 1 default))) ≤ (i64 (ra2.1.toNat : Int)))) (pt b28 2)), (25, gv ((p37.1 == (i64 ((i64 (2 * (i64 (ra2.1.toNat : Int)))) + 1))) && decide ((i64 ((p37.2.getD 0 default) + (p37.2.getD 1 default))) ≤ (i64 (ra2.1.toNat : Int)))) (vI (p37.2.getD 2 default))), (26, gv ((p37.1 == (i64 ((i64 (2 * (i64 (ra2.1.toNat : Int)))) + 1))) && decide ((i64 ((p37.2.getD 0 default) + (p37.2.getD 1 default))) ≤ (i64 (ra2.1.toNat : Int)))) (vI (i64 ((p37.2.getD 0 default) + (p37.2.getD 2 default))))), (27, gv ((p37.1 == (i64 ((i64 (2 * (i64 (ra2.1.toNat : Int)))) + 1))) && decide ((i64 ((p37.2.getD 0 default) + (p37.2.getD 1 default))) ≤ (i64 (ra2.1.toNat : Int)))) (pt b6 0)), (28, gv ((p37.1 == (i64 ((i64 (2 * (i64 (ra2.1.toNat : Int)))) + 1))) && decide ((i64 ((p37.2.getD 0 default) + (p37.2.getD 1 default))) ≤ (i64 (ra2.1.toNat : Int)))) (pt b6 0)), (29, gv ((p37.1 == (i64 ((i64 (2 * (i64 (ra2.1.toNat : Int)))) + 1))) && decide ((i64 ((p37.2.getD 0 default) + (p37.2.getD 1 default))) ≤ (i64 (ra2.1.toNat : Int)))) (pt b6 0)), (30, gv ((p37.1 == (i64 ((i64 (2 * (i64 (ra2.1.toNat : Int)))) + 1))) && decide ((i64 ((p37.2.getD 0 default) + (p37.2.getD 1 default))) ≤ (i64 (ra2.1.toNat : Int)))) (vI (i64 (ra2.1.toNat : Int)))), (31, gv ((p37.1 == (i64 ((i64 (2 * (i64 (ra2.1.toNat : Int)))) + 1))) && decide ((i64 ((p37.2.getD 0 default) + (p37.2.getD 1 default))) ≤ (i64 (ra2.1.toNat : Int)))) (vB (decide ((i64 ((p37.2.getD 0 default) + (p37.2.getD 2 default))) ≤ (i64 (ra2.1.toNat : Int)))))), (32, vB (((p37.1 == (i64 ((i64 (2 * (i64 (ra2.1.toNat : Int)))) + 1))) && decide ((i64 ((p37.2.getD 0 default) + (p37.2.getD 1 default))) ≤ (i64 (ra2.1.toNat : Int)))) && decide ((i64 ((p37.2.getD 0 default) + (p37.2.getD 2 default))) ≤ (i64 (ra2.1.toNat : Int))))), (33, vB (((p37.1 == (i64 ((i64 (2 * (i64 (ra2.1.toNat : Int)))) + 1))) && decide ((i64 ((p37.2.getD 0 default) + (p37.2.getD 1 default))) ≤ (i64 (ra2.1.toNat : Int)))) && decide ((i64 ((p37.2.getD 0 default) + (p37.2.getD 2 default))) ≤ (i64 (ra2.1.toNat : Int))))), (34, vI p37.1), (35, pt b6 0), (36, pt b6 0), (37, pt b6 2), (38, pt b30 0), (39, vI (Am x29)), (40, vI (i64 (p37.1 - (Am x29)))), (41, pt b6 0), (42, pt b6 0), (43, pt b6 0), (44, vI (i64 (ra2.1.toNat : Int))), (45, vI (i64 (2 * (i64 (ra2.1.toNat : Int))))), (46, vB (decide ((i64 (p37.1 - (Am x29))) ≤ (i64 (2 * (i64 (ra2.1.toNat : Int))))))), (47, vB (decide ((i64 (p37.1 - (Am x29))) ≤ (i64 (2 * (i64 (ra2.1.toNat : Int))))))), (48, vB (decide ((i64 (p37.1 - (Am x29))) ≤ (i64 (2 * (i64 (ra2.1.toNat : Int))))))), (49, undef), (50, undef), (51, undef), (52, undef), (53, undef), (54, undef), (55, vB false)] z ?_
 refine stage z z z z mk7_ [0, 1, 2, 3, 4, 5, 6, 7, 8, 9, 10, 11, 12, 13, 14, 15, 16, 17, 18, 19, 20, 21, 22, 23, 24, 25, 26, 27, 28, 29, 30, 31, 32, 33, 34, 35, 36, 37, 38, 39, 40, 41, 42, 43, 44, 45, 46, 47, 48, 49, 50, 51, 52, 53, 54, 55] [56] z z z (q_mv z z z (q_mv z z z (q_mv z z z (q_u z z (o_nc z) (q_fa z z fa86_0 z (q_ld z z 3 sc3 z z z (q_u z z (o_bin z z (bI_mul 2 (i64 (ra2.1.toNat : Int)))) (q_u z z (o_bin z z (bI_add (i64 (2 * (i64 (ra2.1.toNat : Int)))) 1)) (q_u z z (o_bin z z (bI_eq p37.1 (i64 ((i64 (2 * (i64 (ra2.1.toNat : Int)))) + 1)))) (q_mv z z z (qc z z (s_gt z z fun g => o_ixA (sz := 1) (n := 4) (i := 0) Tryz.underlying160 (fun _ => by kernel_rfl) z z (by decide)) (qc z z (s_gt z z fun g => o_ld 2 sc3 (evg z g) z z) (qc z z (s_gt z z fun g => o_ixA (sz := 1) (n := 4) (i := 1) Tryz.underlying160 (fun _ => by kernel_rfl) z z (by decide)) (qc z z (s_gt z z fun g => o_ld 2 sc3 (evg z g) z z) (qc z z (s_gt z z fun g => o_bin (evg z g) (evg z g) (bI_add (p37.2.getD 0 default) (p37.2.getD 1 default))) (qc z z (s_gt z z fun g => o_mv z) (qc z z (s_gt z z fun g => o_nc (evg z g)) (qc z z (s_gt z z fun g => o_fa fa86_0 (evg z g)) (qc z z (s_gt z z fun g => o_ld 3 sc3 (evg z g) z z) (qc z z (s_gt z z fun g => o_bin (evg z g) (evg z g) (bI_le (i64 ((p37.2.getD 0 default) + (p37.2.getD 1 default))) (i64 (ra2.1.toNat : Int)))) (q_u z z (o_and z z) (q_mv z z z (qc z z (s_gt z z fun g => o_ixA (sz := 1) (n := 4) (i := 0) Tryz.underlying160 (fun _ => by kernel_rfl) z z (by decide)) (qc z z (s_gt z z fun g => o_ld 2 sc3 (evg z g) z z) (qc z z (s_gt z z fun g => o_ixA (sz := 1) (n := 4) (i := 2) Tryz.underlying160 (fun _ => by kernel_rfl) z z (by decide)) (qc z z (s_gt z z fun g => o_ld 2 sc3 (evg z g) z z) (qc z z (s_gt z z fun g => o_bin (evg z g) (evg z g) (bI_add (p37.2.getD 0 default) (p37.2.getD 2 default))) (qc z z (s_gt z z fun g => o_mv z) (qc z z (s_gt z z fun g => o_nc (evg z g)) (qc z z (s_gt z z fun g => o_fa fa86_0 (evg z g)) (qc z z (s_gt z z fun g => o_ld 3 sc3 (evg z g) z z) (qc z z (s_gt z z fun g => o_bin (evg z g) (evg z g) (bI_le (i64 ((p37.2.getD 0 default) + (p37.2.getD 2 default))) (i64 (ra2.1.toNat : Int)))) (q_u z z (o_and z z) (q_mv z z z (q_y z z z z h41 (o_mv z) (q_y z z z z h41 (o_mv z) (q_y z z z z h41 (o_nc z) (q_y z z z z h41 (o_fa fa86_2 z) (q_y z z z z h41 (o_ld 3 sc82 z z z) (q_y z z z z h41 (o_callqP ca119 z (Am.ok b30 x29 g27 _ z) (fun _ h => st_pk 8 [1, 4, 5, 6, 7, 0, 2, 3] (by decide) h) (fun _ h => st_pk 8 [5, 0, 6, 7, 1, 2, 3, 4] (by decide) h)) (q_y z z z z h41 (o_bin z z (bI_sub p37.1 (Am x29))) (q_y z z z z h41 (o_mv z) (q_y z z z z h41 (o_nc z) (q_y z z z z h41 (o_fa fa86_0 z) (q_y z z z z h41 (o_ld 3 sc3 z z z) (q_y z z z z h41 (o_bin z z (bI_mul 2 (i64 (ra2.1.toNat : Int)))) (q_y z z z z h41 (o_bin z z (bI_le (i64 (p37.1 - (Am x29))) (i64 (2 * (i64 (ra2.1.toNat : Int)))))) (q_u z z (o_pt z h41 z) (q_mv z z z (q_n z z z z h43 (q_n z z z z h43 (q_n z z z z h43 (q_n z z z z h43 (q_n z z z z h43 (q_n z z z z h43 (q_u z z (o_pf z h43 z) qn)))))))))))))))))))))))))))))))))))))))))))))))))))))))) ?_ (nxt z)
 refine ec (eo_c z (s_w (o_callL ca89 z (As.ok b0_ ra21.2 false (Sum.inl ra53) hr51) (fun _ _ _ h => h))) ?_) en
 refine stage z z z z mk7_ [] [] z z z qn en ?_
 intro _
 refine ex_sub (E' := [(3, pt b6 0)]) ⟨z, trivial⟩ ?_
 refine x_seq (csr ?_)
 refine r_mv z (r_as z ?_)
 refine r_nil (x_seq (c_ret ?_))
 refine ex_st (fun _ h => mv5 (mv7 (mv7 (mv7 (mv7 h))))) ?_
 refine ex_st (fun _ h => st_some (f := Ae.op g27) (a := x29) (st_star_f (A := Ae.fl b30 x29 g27) h)) ?_
 refine ex_st (fun _ h => mv3 h) ?_
 refine ex_st (fun _ h => st_some (f := Al.op (⟨(pt b30 0, g27)⟩ : Al.G)) (a := (⟨i64 (ra2.1.toNat : Int), i64 (ra15.1.toNat : Int), (some x29)⟩ : Al)) (st_star_f (A := Al.fl b6 (⟨i64 (ra2.1.toNat : Int), i64 (ra15.1.toNat : Int), (some x29)⟩ : Al) (⟨(pt b30 0, g27)⟩ : Al.G)) h)) ?_
 obtain rfl := si hm56
 refine ex_st (fun _ h => st_pk 3 [0, 1] (by decide) h) ?_
 exact x_r1 z (rv_t z) (Le.refl _) (.inl ⟨_, z, _, z, (pt b6 0, (⟨(pt b30 0, g27)⟩ : Al.G)), z, z, z⟩)
def CA (a0 : Ai) : Option ((Bool × Ai) ⊕ (Int × Ai)) :=
 (AH a0 1).bind fun r0 => sm r0 (fun (ra2 : Str × Ai) => (gi ra2.1 0).bind fun c6 => if decide (1 < c6) then lt (Cc 6) fun r10 => sm r10 (fun (ra12 : Unit) => some (Sum.inl ((c6 == 1), ra2.2))) fun ((rn13, ro14) : Int × Unit) => some (Sum.inr (rn13, ra2.2)) else some (Sum.inl ((c6 == 1), ra2.2))) fun ((rn3, ro4) : Int × Ai) => some (Sum.inr (rn3, ro4))
theorem CA.ok {G R F} (b0_ : Nat) (a0 : Ai) (r : (Bool × Ai) ⊕ (Int × Ai)) (hm : CA a0 = some r) : CO Tryz.prog 135 [pt b0_ 0] G R (Bk b0_ 120 (Ai.c a0) :: F)
  (PK 118 r (fun (a : Bool × Ai) u R' L' => u = vB a.1 ∧ R' = R ∧ L' = Bk b0_ 120 (Ai.c a.2) :: F) (fun n (o : Ai) R' L' => R' = R ∧ L' = Bk b0_ 120 (Ai.c o) :: F)) := by
 unfold CA at hm
 refine co_ofN (N := 12) Tryz.func135 z z ?_
 refine csr ?_
 refine r_as z ?_
 refine r_nil (x_seq (c_seq ?_))
 obtain ⟨r0, hr0, hm1⟩ := bs hm
 clear hm
 rcases r0 with ra2 | ⟨rn3, ro4⟩
 rotate_left
 ·have hm5 := sm_r hm1
  clear hm1
  refine c_reg ?_
  refine r_mv z ?_
  obtain rfl := si hm5
  exact r_sw (s_w (o_callR ca116 z (AH.ok b0_ a0 1 (Sum.inr (rn3, ro4)) hr0) (by rintro _ _ _ ⟨rfl, rfl⟩; exact (px_st (fun _ h => st_pk 1 [0] (by decide) h) (px_of (Le.refl _) (.inr ⟨_, z, _, z, z, z⟩)))))) (fun _ _ _ _ h => h.elim)
 have hm5 := sm_l hm1
 clear hm1
 refine c_reg ?_
 refine r_mv z ?_
 refine r_c (s_w (o_callL ca116 z (AH.ok b0_ a0 1 (Sum.inl ra2) hr0) (fun _ _ _ h => h))) ?_
 obtain ⟨c6, hc6, hm7⟩ := bs hm5
 clear hm5
 refine r_u (o_ixS Tryz.underlying9 z z hc6) (r_as z ?_)
 refine nssr ?_
 refine r_mv z (r_bin z z (bY_gt c6 1) ?_)
 refine nsq ?_
 refine c_if (b := decide (1 < c6)) z (fun h8 => ?_) fun h8 => ?_
 rotate_left
 ·have hm9 := iff_ hm7 h8
  clear hm7
  refine c_skip (x_seq (csr ?_))
  refine r_mv z (r_bin z z (bY_eq c6 1) (r_as z ?_))
  refine r_nil (x_seq (c_ret ?_))
  obtain rfl := si hm9
  exact x_r1 z (rv_t z) (Le.refl _) (.inl ⟨_, z, _, z, z, z, z⟩)
 have hm9 := ift hm7 h8
 clear hm7
 obtain ⟨r10, hr10, hm11⟩ := ltx hm9
 clear hm9
 rcases r10 with ra12 | ⟨rn13, ro14⟩
 ·have hm15 := sm_l hm11
  clear hm11
  refine c_reg ?_
  refine r_c (s_w (o_callL ca117 z (Cc.ok 6 (Sum.inl ra12) hr10) (fun _ _ _ h => h))) ?_
  refine nsr ?_
  refine r_mv z (r_bin z z (bY_eq c6 1) (r_as z ?_))
  refine r_nil (x_seq (c_ret ?_))
  obtain rfl := si hm15
  exact x_r1 z (rv_t z) (Le.refl _) (.inl ⟨_, z, _, z, z, z, z⟩)
 have hm15 := sm_r hm11
 clear hm11
 refine c_reg ?_
 obtain rfl := si hm15
 exact r_sw (s_w (o_callR ca117 z (Cc.ok 6 (Sum.inr (rn13, ro14)) hr10) (by rintro _ _ _ ⟨rfl, rfl⟩; exact (px_st (fun _ h => st_pk 1 [0] (by decide) h) (px_of (Le.refl _) (.inr ⟨_, z, _, z, z, z⟩)))))) (fun _ _ _ _ h => h.elim)
def CF (x29 : Aj) : Nat → Int → Str → (List Bool) → Option ((Str × List Bool) ⊕ ((Option Aj × Ai) ⊕ (Int × Ai)))
 | 0, _, _, _ => none
 | k49 + 1, s_46, c_47, c_48 => if decide (s_46 < (x29.door.length : Int)) then (CA (⟨c_47⟩ : Ai)).bind fun r54 => sm r54 (fun (ra56 : Bool × Ai) => (gi c_48 s_46).bind fun x60 => CF x29 k49 (i64 (s_46 + 1)) ra56.2.s (ls c_48 s_46 ra56.1)) fun ((rn57, ro58) : Int × Ai) => some (Sum.inr (Sum.inr (rn57, ro58))) else some (Sum.inl (c_47, c_48))
def CU (ra79 : Str × Ai) (y93 : List UInt8) : Nat → Int → Option (Unit ⊕ ((List (List UInt8) × Str) ⊕ ((List (List UInt8) × Str) ⊕ ((Option Aj × Ai) ⊕ (Int × Ai)))))
 | 0, _ => none
 | k102 + 1, s_101 => if decide (s_101 < (y93.length : Int)) then (gi y93 s_101).bind fun x107 => lt (As ra79.2 (decide (x107 ≤ 15))) fun r109 => sm r109 (fun (ra111 : Unit) => CU ra79 y93 k102 (i64 (s_101 + 1))) fun ((rn112, ro113) : Int × Unit) => some (Sum.inr (Sum.inr (Sum.inr (Sum.inr (rn112, ra79.2))))) else some (Sum.inl ())
def Cg (ra2 : UInt64 × Ai) : Nat → Int → (List (List UInt8)) → Str → Option ((List (List UInt8) × Str) ⊕ ((Option Aj × Ai) ⊕ (Int × Ai)))
 | 0, _, _, _ => none
 | k66 + 1, s_62, c_63, c_64 => if decide (s_62 < 4) then Option.bind ((AH (⟨c_64⟩ : Ai) (i64 (ra2.1.toNat : Int))).bind fun r77 => sm r77 (fun (ra79 : Str × Ai) => if ra79.1.length ≤ maxLen then (gi c_63 s_62).bind fun y86 => (gi (ls c_63 s_62 ra79.1) s_62).bind fun y93 => Option.bind (CU ra79 y93 (((y93.length : Int) - 0).toNat + 1) 0) fun (p96 : Unit ⊕ ((List (List UInt8) × Str) ⊕ ((List (List UInt8) × Str) ⊕ ((Option Aj × Ai) ⊕ (Int × Ai))))) => (match p96 with | Sum.inl q97 => some (Sum.inl (ls c_63 s_62 ra79.1, ra79.2.s)) | Sum.inr r => some r) else none) fun ((rn80, ro81) : Int × Ai) => some (Sum.inr (Sum.inr (Sum.inr (rn80, ro81))))) fun (p71 : (List (List UInt8) × Str) ⊕ ((List (List UInt8) × Str) ⊕ ((Option Aj × Ai) ⊕ (Int × Ai)))) => (match p71 with | Sum.inl q72 => Cg ra2 k66 (i64 (s_62 + 1)) q72.1 q72.2 | Sum.inr r => some r) else some (Sum.inl (c_63, c_64))
def CW (a0 : Ai) : Option ((Option Aj × Ai) ⊕ (Int × Ai)) :=
 (Ax a0 4096).bind fun r0 => sm r0 (fun (ra2 : UInt64 × Ai) => lt (As ra2.2 (decide (1 ≤ (i64 (ra2.1.toNat : Int))))) fun r6 => sm r6 (fun (ra8 : Unit) => (Ax ra2.2 18446744073709551615).bind fun r12 => sm r12 (fun (ra14 : UInt64 × Ai) => (CY (i64 (ra2.1.toNat : Int)) ra14.1).bind fun r18 => (Ax ra14.2 ((toW (i64 (10 * (i64 (ra2.1.toNat : Int))))) - 1)).bind fun r23 => sm r23 (fun (ra25 : UInt64 × Ai) => om r18.1 (none) fun x29 => Option.bind (Cg ra2 5 0 x29.rows ra25.2.s) fun (p35 : (List (List UInt8) × Str) ⊕ ((Option Aj × Ai) ⊕ (Int × Ai))) => (match p35 with | Sum.inl q36 => Option.bind (CF x29 (((x29.door.length : Int) - 0).toNat + 1) 0 q36.2 x29.door) fun (p41 : (Str × List Bool) ⊕ ((Option Aj × Ai) ⊕ (Int × Ai))) => (match p41 with | Sum.inl q42 => some (Sum.inl ((some (⟨x29.wide, x29.seed, q36.1, q42.2, i64 (ra25.1.toNat : Int)⟩ : Aj)), (⟨q42.1⟩ : Ai))) | Sum.inr r => some r) | Sum.inr r => some r)) fun ((rn26, ro27) : Int × Ai) => some (Sum.inr (rn26, ro27))) fun ((rn15, ro16) : Int × Ai) => some (Sum.inr (rn15, ro16))) fun ((rn9, ro10) : Int × Unit) => some (Sum.inr (rn9, ra2.2))) fun ((rn3, ro4) : Int × Ai) => some (Sum.inr (rn3, ro4))
theorem CW.ok {G R F} (b0_ : Nat) (a0 : Ai) (r : (Option Aj × Ai) ⊕ (Int × Ai)) (hm : CW a0 = some r) : CO Tryz.prog 121 [pt b0_ 0] G R (Bk b0_ 120 (Ai.c a0) :: F)
  (PK 118 r (fun (a : Option Aj × Ai) u R' L' => ∃ (p0 : Value × Aj.G), u = p0.1 ∧ R' = R ∧ L' = rO (Aj.op p0.2) p0.1 a.1 :: Bk b0_ 120 (Ai.c a.2) :: F) (fun n (o : Ai) R' L' => R' = R ∧ L' = Bk b0_ 120 (Ai.c o) :: F)) := by
 unfold CW at hm
 refine co_ofN (N := 81) Tryz.func121 z z ?_
 refine csr ?_
 refine r_as z ?_
 refine r_nil (x_seq (c_seq ?_))
 obtain ⟨r0, hr0, hm1⟩ := bs hm
 clear hm
 rcases r0 with ra2 | ⟨rn3, ro4⟩
 rotate_left
 ·have hm5 := sm_r hm1
  clear hm1
  refine c_reg ?_
  refine r_mv z ?_
  obtain rfl := si hm5
  exact r_sw (s_w (o_callR ca86 z (Ax.ok b0_ a0 4096 (Sum.inr (rn3, ro4)) hr0) (by rintro _ _ _ ⟨rfl, rfl⟩; exact (px_st (fun _ h => st_pk 1 [0] (by decide) h) (px_of (Le.refl _) (.inr ⟨_, z, _, z, z, z⟩)))))) (fun _ _ _ _ h => h.elim)
 have hm5 := sm_l hm1
 clear hm1
 refine c_reg ?_
 refine r_mv z ?_
 refine r_c (s_w (o_callL ca86 z (Ax.ok b0_ a0 4096 (Sum.inl ra2) hr0) (fun _ _ _ h => h))) ?_
 refine r_u (o_cv z (cWI Tryz.underlying27 Tryz.underlying3 ra2.1)) (r_as z ?_)
 refine r_nil (x_seq (c_seq ?_))
 obtain ⟨r6, hr6, hm7⟩ := ltx hm5
 clear hm5
 rcases r6 with ra8 | ⟨rn9, ro10⟩
 rotate_left
 ·have hm11 := sm_r hm7
  clear hm7
  refine c_reg ?_
  refine r_mv z (r_mv z (r_bin z z (bI_ge (i64 (ra2.1.toNat : Int)) 1) ?_))
  obtain rfl := si hm11
  exact r_sw (s_w (o_callR ca89 z (As.ok b0_ ra2.2 (decide (1 ≤ (i64 (ra2.1.toNat : Int)))) (Sum.inr (rn9, ro10)) hr6) (by rintro _ _ _ ⟨rfl, rfl⟩; exact (px_st (fun _ h => st_pk 1 [0] (by decide) h) (px_of (Le.refl _) (.inr ⟨_, z, _, z, z, z⟩)))))) (fun _ _ _ _ h => h.elim)
 have hm11 := sm_l hm7
 clear hm7
 refine c_reg ?_
 refine r_mv z (r_mv z (r_bin z z (bI_ge (i64 (ra2.1.toNat : Int)) 1) ?_))
 refine r_c (s_w (o_callL ca89 z (As.ok b0_ ra2.2 (decide (1 ≤ (i64 (ra2.1.toNat : Int)))) (Sum.inl ra8) hr6) (fun _ _ _ h => h))) ?_
 refine r_nil (x_seq (c_seq ?_))
 obtain ⟨r12, hr12, hm13⟩ := bs hm11
 clear hm11
 rcases r12 with ra14 | ⟨rn15, ro16⟩
 rotate_left
 ·have hm17 := sm_r hm13
  clear hm13
  refine c_reg ?_
  refine r_mv z (r_mv z ?_)
  obtain rfl := si hm17
  exact r_sw (s_w (o_callR ca86 z (Ax.ok b0_ ra2.2 18446744073709551615 (Sum.inr (rn15, ro16)) hr12) (by rintro _ _ _ ⟨rfl, rfl⟩; exact (px_st (fun _ h => st_pk 1 [0] (by decide) h) (px_of (Le.refl _) (.inr ⟨_, z, _, z, z, z⟩)))))) (fun _ _ _ _ h => h.elim)
 have hm17 := sm_l hm13
 clear hm13
 refine c_reg ?_
 refine r_mv z (r_mv z ?_)
 refine r_c (s_w (o_callL ca86 z (Ax.ok b0_ ra2.2 18446744073709551615 (Sum.inl ra14) hr12) (fun _ _ _ h => h))) ?_
 obtain ⟨r18, hr18, hm22⟩ := bs hm17
 clear hm17
 refine r_sw (s_w (o_call ca59 z (CY.ok (i64 (ra2.1.toNat : Int)) ra14.1 r18 hr18))) ?_
 rintro _ R _ _ ⟨⟨pv20, g21⟩, rfl, rfl, rfl⟩
 refine r_mv z ?_
 refine r_ext z z ?_
 refine r_ext z z (r_as z (r_as z ?_))
 refine r_nil (x_seq (c_seq ?_))
 obtain ⟨r23, hr23, hm24⟩ := bs hm22
 clear hm22
 rcases r23 with ra25 | ⟨rn26, ro27⟩
 rotate_left
 ·have hm28 := sm_r hm24
  clear hm24
  refine c_reg ?_
  refine r_mv z (r_mv z (r_mv z (r_bin z z (bI_mul 10 (i64 (ra2.1.toNat : Int))) (r_u (o_cv z (cIW Tryz.underlying3 Tryz.underlying27 (i64 (10 * (i64 (ra2.1.toNat : Int)))))) (r_u (o_bin z z (bW_sub (toW (i64 (10 * (i64 (ra2.1.toNat : Int))))) 1)) ?_)))))
  refine rl_st (fun _ h => mv1 h) ?_
  obtain rfl := si hm28
  exact r_sw (s_w (o_callR ca86 z (Ax.ok b0_ ra14.2 ((toW (i64 (10 * (i64 (ra2.1.toNat : Int))))) - 1) (Sum.inr (rn26, ro27)) hr23) (by rintro _ _ _ ⟨rfl, rfl⟩; exact (px_st (fun _ h => st_pk 2 [0] (by decide) h) (px_of (Le.refl _) (.inr ⟨_, z, _, z, z, z⟩)))))) (fun _ _ _ _ h => h.elim)
 have hm28 := sm_l hm24
 clear hm24
 refine cd_opt (fun ho31 => ?_) (fun x29 b30 ho31 => ?_)
 ·rintro rfl
  have hm32 := om_n hm28 ho31
  clear hm28
  cases hm32
 rintro rfl
 have hm32 := om_s hm28 ho31
 clear hm28
 refine cd_st (fun _ h => st_star_o h) ?_
 refine c_reg ?_
 refine r_mv z (r_mv z (r_mv z (r_bin z z (bI_mul 10 (i64 (ra2.1.toNat : Int))) (r_u (o_cv z (cIW Tryz.underlying3 Tryz.underlying27 (i64 (10 * (i64 (ra2.1.toNat : Int)))))) (r_u (o_bin z z (bW_sub (toW (i64 (10 * (i64 (ra2.1.toNat : Int))))) 1)) ?_)))))
 refine rl_st (fun _ h => mv3 h) ?_
 refine r_c (s_w (o_callL ca86 z (Ax.ok b0_ ra14.2 ((toW (i64 (10 * (i64 (ra2.1.toNat : Int))))) - 1) (Sum.inl ra25) hr23) (fun _ _ _ h => h))) ?_
 refine r_u (o_cv z (cWI Tryz.underlying27 Tryz.underlying3 ra25.1)) (r_nc z (r_fa fa143_4 z ?_))
 refine rl_st (fun _ h => mv1 h) ?_
 refine r_u0 (o_st sc3 z z z z z z) ?_
 refine nssr ?_
 refine r_mv z ?_
 refine nsq ?_
 obtain ⟨p35, hp38, hm39⟩ := bs hm32
 refine cd_cut (fun x ks => ∀ (q36 : List (List UInt8) × Str), ∀ (_ : p35 = Sum.inl q36), ∀ (g37 : Value × Value × Value × Value), EX x .normal ks [(0, pt b0_ 0), (4, pt b30 0)] R (Bk b30 143 [vI x29.wide, vW x29.seed, g37.1, g37.2.1, g37.2.2.1, g37.2.2.2, g21.door, vI (i64 (ra25.1.toNat : Int))] :: Bk b0_ 120 [vS q36.2] :: OwS true 4 1 eB g21.door x29.door :: OwL (OwS false 5 1 eY) [g37.1, g37.2.1, g37.2.2.1, g37.2.2.2] q36.1 :: F)) ?_ fun K40 => ?_
 ·intro q36 hq g37
  subst hq
  try dsimp only at hm39
  refine x_seq (c_seq (csr ?_))
  refine r_mv z (r_nc z (r_fa fa143_3 z (r_ld 0 sc34 z z z (r_u (o_lenO 2 Tryz.underlying34 z z) (r_mv z ?_)))))
  refine nsq ?_
  obtain ⟨p41, hp43, hm44⟩ := bs hm39
  refine cd_joinS (p := p41) (Ef := fun q42 => [(4, pt b30 0)]) (Lf := fun q42 => Bk b30 143 [vI x29.wide, vW x29.seed, g37.1, g37.2.1, g37.2.2.1, g37.2.2.2, g21.door, vI (i64 (ra25.1.toNat : Int))] :: Bk b0_ 120 [vS q42.1] :: OwS true 4 1 eB g21.door q42.2 :: OwL (OwS false 5 1 eY) [g37.1, g37.2.1, g37.2.2.1, g37.2.2.2] q36.1 :: F) (fun q42 hq => ?_) fun K45 => ?_
  ·subst hq
   try dsimp only at hm44
   refine x_seq (csr ?_)
   refine r_mv z (r_as z ?_)
   refine r_nil (x_seq (c_ret ?_))
   refine ex_st (fun _ h => mv2 (mv3 (mv2 h))) ?_
   refine ex_st (fun _ h => st_some (f := Aj.op (⟨g37, g21.door⟩ : Aj.G)) (a := (⟨x29.wide, x29.seed, q36.1, q42.2, i64 (ra25.1.toNat : Int)⟩ : Aj)) (st_star_f (A := Aj.fl b30 (⟨x29.wide, x29.seed, q36.1, q42.2, i64 (ra25.1.toNat : Int)⟩ : Aj) (⟨g37, g21.door⟩ : Aj.G)) h)) ?_
   obtain rfl := si hm44
   exact x_r1 z (rv_t z) (Le.refl _) (.inl ⟨_, z, _, z, (pt b30 0, (⟨g37, g21.door⟩ : Aj.G)), z, z, z⟩)
  refine c_blk ?_
  refine cd_loop (M := fun k49 (s : Int × Str × List Bool) => CF x29 k49 s.1 s.2.1 s.2.2 = some p41) (Ef := fun (s : Int × Str × List Bool) => [(0, pt b0_ 0), (4, pt b30 0), (67, vI (x29.door.length : Int)), (68, vI s.1)]) (Lf := fun (s : Int × Str × List Bool) => Bk b30 143 [vI x29.wide, vW x29.seed, g37.1, g37.2.1, g37.2.2.1, g37.2.2.2, g21.door, vI (i64 (ra25.1.toNat : Int))] :: Bk b0_ 120 [vS s.2.1] :: OwS true 4 1 eB g21.door s.2.2 :: OwL (OwS false 5 1 eY) [g37.1, g37.2.1, g37.2.2.1, g37.2.2.2] q36.1 :: F) (((x29.door.length : Int) - 0).toNat + 1) (0, q36.2, x29.door) hp43 ⟨z, z, z, z, trivial⟩ (fun _ h => h) (fun _ h => by cases h) fun k49 s hM51 => ?_
  obtain ⟨s_46, c_47, c_48⟩ := s
  have hm50 : CF x29 (k49 + 1) s_46 c_47 c_48 = some p41 := hM51
  rw [CF] at hm50
  refine csr ?_
  refine r_bin z z (bI_lt s_46 (x29.door.length : Int)) ?_
  refine r_nil (x_seq (c_seq ?_))
  refine c_if (b := decide (s_46 < (x29.door.length : Int))) z (fun h52 => ?_) fun h52 => ?_
  rotate_left
  ·have hm53 := iff_ hm50 h52
   clear hm50
   refine c_exit (x_exit (ks' := _) z ?_)
   obtain rfl := si hm53
   exact x_sub (K45 _ z) ⟨z, trivial⟩ (fun _ h => st_pk 4 [0, 1, 2, 3] (by decide) h)
  have hm53 := ift hm50 h52
  clear hm50
  refine c_skip (x_seq (c_seq (c_blk (csr ?_))))
  refine r_mv z (r_as z ?_)
  refine nsq ?_
  obtain ⟨r54, hr54, hm55⟩ := bs hm53
  clear hm53
  rcases r54 with ra56 | ⟨rn57, ro58⟩
  ·have hm59 := sm_l hm55
   clear hm55
   obtain ⟨x60, hx60, hm61⟩ := bs hm59
   clear hm59
   refine c_any mixed (effs := [6, 8]) (V := []) ?_
   refine stage_st (fun _ h => mv1 h) ?_
   refine stage_ext [(0, pt b30 0), (1, pt b30 0), (2, pt b30 6), (3, g21.door), (4, vI s_46), (5, pt b0_ 0)] z ?_
   refine stage z z z z mk20_ [0, 1, 2, 3, 4, 5] [6] z z z (q_mv z z z (q_u z z (o_nc z) (q_fa z z fa143_3 z (q_ld z z 1 sc34 z z z (q_mv z z z (q_mv z z z qn)))))) ?_ (nxt z)
   refine ec (eo_c z (s_w (o_callL ca135 z (CA.ok b0_ (⟨c_47⟩ : Ai) (Sum.inl ra56) hr54) (fun _ _ _ h => h))) ?_) en
   refine stage_st (fun _ h => mv2 h) ?_
   refine stage_ext [(7, pt (sb g21.door) (so g21.door + s_46.toNat * 1))] z ?_
   refine stage z z z z mk20_ [0, 1, 2, 3, 4, 7] [8] z z z (q_mv z z z (q_u z z (o_nc z) (q_fa z z fa143_3 z (q_ld z z 2 sc34 z z z (q_mv z z z (q_u z z (o_ixO 0 Tryz.underlying34 (fun _ => by kernel_rfl) z z z hx60) qn)))))) ?_ (nxt z)
   refine ec (eo_u z (s_u (o_stO0 (c' := ra56.1) sc4 z z z hx60 z z z)) (Le.refl _) ?_) en
   refine stage z z z z mk20_ [] [] z z z qn en ?_
   intro _
   refine ex_sub (E' := [(0, pt b0_ 0), (4, pt b30 0), (67, vI (x29.door.length : Int)), (68, vI s_46)]) ⟨z, z, z, z, trivial⟩ ?_
   refine x_blk (x_seq (c_reg ?_))
   refine r_bin z z (bI_add s_46 1) (r_mv z ?_)
   refine r_nil ?_
   exact x_lp (i64 (s_46 + 1), ra56.2.s, ls c_48 s_46 ra56.1) hm61 ⟨z, z, z, z, trivial⟩ (fun _ h => st_pk 4 [2, 1, 0, 3] (by decide) h)
  have hm59 := sm_r hm55
  clear hm55
  refine c_any mixed (effs := [6]) (V := []) ?_
  refine stage_st (fun _ h => mv1 h) ?_
  refine stage_ext [(0, pt b30 0), (1, pt b30 0), (2, pt b30 6), (3, g21.door), (4, vI s_46), (5, pt b0_ 0)] z ?_
  refine stage z z z z mk20_ [0, 1, 2, 3, 4, 5] [6] z z z (q_mv z z z (q_u z z (o_nc z) (q_fa z z fa143_3 z (q_ld z z 1 sc34 z z z (q_mv z z z (q_mv z z z qn)))))) ?_ (nxt z)
  obtain rfl := si hm59
  try dsimp only at hm44
  obtain rfl := si hm44
  exact ec (eo_w z (s_w (o_callR ca135 z (CA.ok b0_ (⟨c_47⟩ : Ai) (Sum.inr (rn57, ro58)) hr54) (by rintro _ _ _ ⟨rfl, rfl⟩; exact (px_st (fun _ h => st_pk 4 [0] (by decide) h) (px_of (Le.refl _) (.inr ⟨_, z, _, z, z, z⟩)))))) (fun _ _ _ _ h => h.elim)) en
 refine c_blk ?_
 refine cd_loopG (M := fun k66 (s : Int × List (List UInt8) × Str × (Value × Value × Value × Value)) => Cg ra2 k66 s.1 s.2.1 s.2.2.1 = some p35) (Ef := fun (s : Int × List (List UInt8) × Str × (Value × Value × Value × Value)) => [(0, pt b0_ 0), (3, vI (i64 (ra2.1.toNat : Int))), (4, pt b30 0), (34, vI s.1)]) (Rf := fun (s : Int × List (List UInt8) × Str × (Value × Value × Value × Value)) => R) (Lf := fun (s : Int × List (List UInt8) × Str × (Value × Value × Value × Value)) => Bk b30 143 [vI x29.wide, vW x29.seed, s.2.2.2.1, s.2.2.2.2.1, s.2.2.2.2.2.1, s.2.2.2.2.2.2, g21.door, vI (i64 (ra25.1.toNat : Int))] :: Bk b0_ 120 [vS s.2.2.1] :: OwS true 4 1 eB g21.door x29.door :: OwL (OwS false 5 1 eY) [s.2.2.2.1, s.2.2.2.2.1, s.2.2.2.2.2.1, s.2.2.2.2.2.2] s.2.1 :: F) 5 (0, x29.rows, ra25.2.s, g21.rows) hp38 ⟨z, z, z, z, trivial⟩ (fun _ h => st_pk 4 [0, 1, 3, 2] (by decide) h) (fun _ h => by cases h) fun k66 s hM68 => ?_
 obtain ⟨s_62, c_63, c_64, g65⟩ := s
 have hm67 : Cg ra2 (k66 + 1) s_62 c_63 c_64 = some p35 := hM68
 rw [Cg] at hm67
 refine csr ?_
 refine r_bin z z (bI_lt s_62 4) ?_
 refine r_nil (x_seq (c_seq ?_))
 refine c_if (b := decide (s_62 < 4)) z (fun h69 => ?_) fun h69 => ?_
 rotate_left
 ·have hm70 := iff_ hm67 h69
  clear hm67
  refine c_exit (x_exit (ks' := _) z ?_)
  obtain rfl := si hm70
  exact x_sub (K40 _ z g65) ⟨z, z, trivial⟩ (fun _ h => st_pk 4 [0, 1, 2, 3] (by decide) h)
 have hm70 := ift hm67 h69
 clear hm67
 refine c_skip (x_seq (c_seq ?_))
 obtain ⟨p71, hp74, hm75⟩ := bs hm70
 refine cd_cut (fun x ks => ∀ (q72 : List (List UInt8) × Str), ∀ (_ : p71 = Sum.inl q72), ∀ (g73 : Value × Value × Value × Value), EX x .normal ks [(0, pt b0_ 0), (3, vI (i64 (ra2.1.toNat : Int))), (4, pt b30 0), (34, vI s_62)] R (Bk b30 143 [vI x29.wide, vW x29.seed, g73.1, g73.2.1, g73.2.2.1, g73.2.2.2, g21.door, vI (i64 (ra25.1.toNat : Int))] :: Bk b0_ 120 [vS q72.2] :: OwS true 4 1 eB g21.door x29.door :: OwL (OwS false 5 1 eY) [g73.1, g73.2.1, g73.2.2.1, g73.2.2.2] q72.1 :: F)) ?_ fun K76 => ?_
 ·intro q72 hq g73
  subst hq
  try dsimp only at hm75
  refine x_seq (c_reg ?_)
  refine r_bin z z (bI_add s_62 1) (r_mv z ?_)
  refine r_nil ?_
  exact x_lp (i64 (s_62 + 1), q72.1, q72.2, g73) hm75 ⟨z, z, z, z, trivial⟩ (fun _ h => st_pk 4 [0, 1, 2, 3] (by decide) h)
 refine c_blk (csr ?_)
 refine r_mv z (r_as z ?_)
 refine r_nil (x_seq (c_seq ?_))
 obtain ⟨r77, hr77, hm78⟩ := bs hp74
 clear hp74
 rcases r77 with ra79 | ⟨rn80, ro81⟩
 rotate_left
 ·have hm82 := sm_r hm78
  clear hm78
  refine c_any mixed (effs := [4]) (V := []) ?_
  refine stage_st (fun _ h => mv1 h) ?_
  refine stage_ext [(0, pt b30 0), (1, vI s_62), (2, pt b0_ 0), (3, vI (i64 (ra2.1.toNat : Int))), (6, pt b30 0), (7, pt b30 2)] z ?_
  refine stage z z z z mk2_ [0, 1, 2, 3, 6, 7] [4] z z z (q_mv z z z (q_mv z z z (q_mv z z z (q_mv z z z (q_u z z (o_nc z) (q_fa z z fa143_2 z qn)))))) ?_ (nxt z)
  obtain rfl := si hm82
  try dsimp only at hm75
  obtain rfl := si hm75
  try dsimp only at hm39
  obtain rfl := si hm39
  exact ec (eo_w z (s_w (o_callR ca116 z (AH.ok b0_ (⟨c_64⟩ : Ai) (i64 (ra2.1.toNat : Int)) (Sum.inr (rn80, ro81)) hr77) (by rintro _ _ _ ⟨rfl, rfl⟩; exact (px_st (fun _ h => st_pk 4 [0] (by decide) h) (px_of (Le.refl _) (.inr ⟨_, z, _, z, z, z⟩)))))) (fun _ _ _ _ h => h.elim)) en
 have hm82 := sm_l hm78
 clear hm78
 obtain ⟨h83, hm85⟩ := ig hm82
 clear hm82
 obtain ⟨y86, hy86, hm88⟩ := bs hm85
 clear hm85
 refine cd_ex (fun w h => st_peek 3 hy86 z w h) fun u87 hu87 => ?_
 refine c_any mixed (effs := [4, 5, 9]) (V := []) ?_
 refine stage_st (fun _ h => mv1 h) ?_
 refine stage_ext [(0, pt b30 0), (1, vI s_62), (2, pt b0_ 0), (3, vI (i64 (ra2.1.toNat : Int))), (6, pt b30 0), (7, pt b30 2)] z ?_
 refine stage z z z z mk2_ [0, 1, 2, 3, 6, 7] [4] z z z (q_mv z z z (q_mv z z z (q_mv z z z (q_mv z z z (q_u z z (o_nc z) (q_fa z z fa143_2 z qn)))))) ?_ (nxt z)
 refine ec (eo_c z (s_w (o_callL ca116 z (AH.ok b0_ (⟨c_64⟩ : Ai) (i64 (ra2.1.toNat : Int)) (Sum.inl ra79) hr77) (fun _ _ _ h => h))) ?_) en
 refine stage z z z z mk2_ [0, 1, 6, 7] [5] z z z (q_mv z z z (q_mv z z z (q_u z z (o_nc z) (q_fa z z fa143_2 z qn)))) ?_ (nxt z)
 refine ec (eo_w z (s_w (o_sb Tryz.underlying9 Tryz.underlying111 Tryz.underlying5 z h83)) ?_) en
 rintro v84 R _ _ ⟨rfl, rfl⟩
 refine stage_st (fun _ h => mv3 (mv4 h)) ?_
 refine stage_ext [(8, pt b30 (2 + s_62.toNat * 1))] z ?_
 refine stage z z z z mk2_ [0, 1, 6, 7, 8] [9] z z z (q_mv z z z (q_mv z z z (q_u z z (o_nc z) (q_fa z z fa143_2 z (q_u z z (o_ixA (sz := 1) Tryz.underlying141 (fun _ => by kernel_rfl) z z (gi_some hu87).1) qn))))) ?_ (nxt z)
 refine ec (eo_w z (s_w (ow_if (one_o 2 z) fun ho => o_stA4 (A := [vI x29.wide, vW x29.seed]) (B := [g21.door, vI (i64 (ra25.1.toNat : Int))]) hy86 hu87 sc111 z z z ho)) ?_) en
 rintro _ R _ _ ⟨p89, p90, p91, p92, rfl, rfl, rfl⟩
 refine stage z z z z mk2_ [] [] z z z qn en ?_
 intro _
 refine ex_sub (E' := [(0, pt b0_ 0), (3, vI (i64 (ra2.1.toNat : Int))), (4, pt b30 0), (34, vI s_62), (6, vI s_62)]) ⟨z, z, z, z, z, trivial⟩ ?_
 refine x_seq (csr ?_)
 refine r_mv z (r_mv z (r_nc z (r_fa fa143_2 z ?_)))
 obtain ⟨y93, hy93, hm95⟩ := bs hm88
 clear hm88
 refine rl_ex (fun w h => st_peek 1 hy93 z w h) fun u94 hu94 => ?_
 refine r_u (o_ixA (sz := 1) Tryz.underlying141 (fun _ => by kernel_rfl) z z (gi_some hu94).1) ?_
 refine r_u (o_ldA (o := 2) (n := 4) 0 sc111 z z hu94) ?_
 refine r_u (o_lenK (kn_in 1 z hu94 hy93) Tryz.underlying111 z) (r_mv z ?_)
 refine nsq ?_
 obtain ⟨p96, hp98, hm99⟩ := bs hm95
 refine cd_joinS (p := p96) (Ef := fun q97 => [(0, pt b0_ 0), (3, vI (i64 (ra2.1.toNat : Int))), (4, pt b30 0), (34, vI s_62)]) (Lf := fun q97 => Bk b30 143 [vI x29.wide, vW x29.seed, p89, p90, p91, p92, g21.door, vI (i64 (ra25.1.toNat : Int))] :: Bk b0_ 120 (Ai.c ra79.2) :: OwL (OwS false 5 1 eY) [p89, p90, p91, p92] (ls c_63 s_62 ra79.1) :: OwS true 4 1 eB g21.door x29.door :: F) (fun q97 hq => ?_) fun K100 => ?_
 ·subst hq
  try dsimp only at hm99
  refine x_blk ?_
  obtain rfl := si hm99
  exact x_sub (K76 _ z (p89, p90, p91, p92)) ⟨z, z, z, z, trivial⟩ (fun _ h => st_pk 4 [0, 1, 3, 2] (by decide) h)
 refine c_blk ?_
 refine cd_loop (M := fun k102 (s_101 : Int) => CU ra79 y93 k102 s_101 = some p96) (Ef := fun (s_101 : Int) => [(0, pt b0_ 0), (3, vI (i64 (ra2.1.toNat : Int))), (4, pt b30 0), (34, vI s_62), (51, u94), (52, vI (y93.length : Int)), (53, vI s_101)]) (Lf := fun (s_101 : Int) => Bk b30 143 [vI x29.wide, vW x29.seed, p89, p90, p91, p92, g21.door, vI (i64 (ra25.1.toNat : Int))] :: Bk b0_ 120 (Ai.c ra79.2) :: OwL (OwS false 5 1 eY) [p89, p90, p91, p92] (ls c_63 s_62 ra79.1) :: OwS true 4 1 eB g21.door x29.door :: F) (((y93.length : Int) - 0).toNat + 1) 0 hp98 ⟨z, z, z, z, z, z, z, trivial⟩ (fun _ h => st_pk 4 [0, 2, 1, 3] (by decide) h) (fun _ h => by cases h) fun k102 s_101 hM104 => ?_
 have hm103 : CU ra79 y93 (k102 + 1) s_101 = some p96 := hM104
 rw [CU] at hm103
 refine csr ?_
 refine r_bin z z (bI_lt s_101 (y93.length : Int)) ?_
 refine r_nil (x_seq (c_seq ?_))
 refine c_if (b := decide (s_101 < (y93.length : Int))) z (fun h105 => ?_) fun h105 => ?_
 rotate_left
 ·have hm106 := iff_ hm103 h105
  clear hm103
  refine c_exit (x_exit (ks' := _) z ?_)
  obtain rfl := si hm106
  exact x_sub (K100 _ z) ⟨z, z, z, z, trivial⟩ (fun _ h => st_pk 4 [0, 1, 2, 3] (by decide) h)
 have hm106 := ift hm103 h105
 clear hm103
 refine c_skip (x_seq (c_seq (c_blk (csr ?_))))
 obtain ⟨x107, hx107, hm108⟩ := bs hm106
 clear hm106
 refine r_u (o_ixK (kn_in 2 z hu94 hy93) Tryz.underlying111 (fun _ => by kernel_rfl) z z hx107) ?_
 refine r_u (o_ldK (kn_in 2 z hu94 hy93) 0 sc5 z hx107 z z) (r_as z ?_)
 refine nsq ?_
 obtain ⟨r109, hr109, hm110⟩ := ltx hm108
 clear hm108
 rcases r109 with ra111 | ⟨rn112, ro113⟩
 ·have hm114 := sm_l hm110
  clear hm110
  refine c_reg ?_
  refine r_mv z (r_mv z (r_bin z z (bY_le x107 15) ?_))
  refine rl_st (fun _ h => mv1 h) ?_
  refine r_c (s_w (o_callL ca89 z (As.ok b0_ ra79.2 (decide (x107 ≤ 15)) (Sum.inl ra111) hr109) (fun _ _ _ h => h))) ?_
  refine r_nil (x_blk (x_seq (c_reg ?_)))
  refine r_bin z z (bI_add s_101 1) (r_mv z ?_)
  refine r_nil ?_
  exact x_lp (i64 (s_101 + 1)) hm114 ⟨z, z, z, z, z, z, z, trivial⟩ (fun _ h => st_pk 4 [1, 0, 2, 3] (by decide) h)
 have hm114 := sm_r hm110
 clear hm110
 refine c_reg ?_
 refine r_mv z (r_mv z (r_bin z z (bY_le x107 15) ?_))
 refine rl_st (fun _ h => mv1 h) ?_
 obtain rfl := si hm114
 try dsimp only at hm99
 obtain rfl := si hm99
 try dsimp only at hm75
 obtain rfl := si hm75
 try dsimp only at hm39
 obtain rfl := si hm39
 exact r_sw (s_w (o_callR ca89 z (As.ok b0_ ra79.2 (decide (x107 ≤ 15)) (Sum.inr (rn112, ro113)) hr109) (by rintro _ _ _ ⟨rfl, rfl⟩; exact (px_st (fun _ h => st_pk 4 [0] (by decide) h) (px_of (Le.refl _) (.inr ⟨_, z, _, z, z, z⟩)))))) (fun _ _ _ _ h => h.elim)
def A3 (a0 : Aj) : Int :=
 a0.wide
theorem A3.ok {G R F} (b0_ : Nat) (a0 : Aj) (g0_ : Aj.G) (r : Int) (hm : A3 a0 = r) : CO Tryz.prog 122 [pt b0_ 0] G R (Bk b0_ 143 (Aj.k a0 g0_) :: OwL (OwS false 5 1 eY) [g0_.rows.1, g0_.rows.2.1, g0_.rows.2.2.1, g0_.rows.2.2.2] a0.rows :: OwS true 4 1 eB g0_.door a0.door :: F)
  (Ret fun u R' L' => u = vI r ∧ R' = R ∧ L' = Bk b0_ 143 (Aj.k a0 g0_) :: OwL (OwS false 5 1 eY) [g0_.rows.1, g0_.rows.2.1, g0_.rows.2.2.1, g0_.rows.2.2.2] a0.rows :: OwS true 4 1 eB g0_.door a0.door :: F) := by
 unfold A3 at hm
 refine co_ofN (N := 9) Tryz.func122 z z ?_
 refine csr ?_
 refine r_as z ?_
 refine nssr ?_
 refine r_mv z (r_bin z z (bP_eqp Tryz.underlying87) ?_)
 refine nsq ?_
 refine c_ff z ?_
 refine c_skip (x_seq (csr ?_))
 refine r_mv z (r_nc z (r_fa fa143_0 z (r_ld 0 sc3 z z z (r_as z ?_))))
 refine r_nil (x_seq (c_ret ?_))
 subst hm
 exact x_r1 z (rv_t z) (Le.refl _) ⟨_, z, z, z, z⟩
def Dp (a0 : Ai) : Option ((Option Ak × Ai) ⊕ (Int × Ai)) :=
 (Ax a0 1000).bind fun r0 => sm r0 (fun (ra2 : UInt64 × Ai) => lt (As ra2.2 (decide (1 ≤ (i64 (ra2.1.toNat : Int))))) fun r7 => sm r7 (fun (ra9 : Unit) => (CW ra2.2).bind fun r13 => sm r13 (fun (ra15 : Option Aj × Ai) => om ra15.1 (none) fun x22 => lt (As ra15.2 ((A3 x22) == (B6 (i64 (ra2.1.toNat : Int))))) fun r28 => sm r28 (fun (ra30 : Unit) => (Db ra15.2).bind fun r34 => sm r34 (fun (ra36 : Option Ae × Ai) => om ra36.1 (none) fun x44 => if ((Ao x44) == 3) then (AI (⟨i64 (ra2.1.toNat : Int), (some x22), (some x44)⟩ : Ak)).bind fun r54 => if ((i64 ((Am x44) + r54)) == (i64 ((i64 (ra2.1.toNat : Int)) + 1))) then if decide (r54 ≤ (i64 (ra2.1.toNat : Int))) then (Aq x44 0).bind fun r60 => if decide (r60 ≤ ((AB (i64 (ra2.1.toNat : Int))).Window)) then (Aq x44 2).bind fun r64 => lt (As ra36.2 (decide (r64 ≤ ((AB (i64 (ra2.1.toNat : Int))).Protected)))) fun r66 => sm r66 (fun (ra68 : Unit) => some (Sum.inl ((some (⟨i64 (ra2.1.toNat : Int), (some x22), (some x44)⟩ : Ak)), ra36.2))) fun ((rn69, ro70) : Int × Unit) => some (Sum.inr (rn69, ra36.2)) else lt (As ra36.2 false) fun r72 => sm r72 (fun (ra74 : Unit) => some (Sum.inl ((some (⟨i64 (ra2.1.toNat : Int), (some x22), (some x44)⟩ : Ak)), ra36.2))) fun ((rn75, ro76) : Int × Unit) => some (Sum.inr (rn75, ra36.2)) else lt (As ra36.2 false) fun r78 => sm r78 (fun (ra80 : Unit) => some (Sum.inl ((some (⟨i64 (ra2.1.toNat : Int), (some x22), (some x44)⟩ : Ak)), ra36.2))) fun ((rn81, ro82) : Int × Unit) => some (Sum.inr (rn81, ra36.2)) else lt (As ra36.2 false) fun r84 => sm r84 (fun (ra86 : Unit) => some (Sum.inl ((some (⟨i64 (ra2.1.toNat : Int), (some x22), (some x44)⟩ : Ak)), ra36.2))) fun ((rn87, ro88) : Int × Unit) => some (Sum.inr (rn87, ra36.2)) else lt (As ra36.2 false) fun r90 => sm r90 (fun (ra92 : Unit) => some (Sum.inl ((some (⟨i64 (ra2.1.toNat : Int), (some x22), (some x44)⟩ : Ak)), ra36.2))) fun ((rn93, ro94) : Int × Unit) => some (Sum.inr (rn93, ra36.2))) fun ((rn37, ro38) : Int × Ai) => some (Sum.inr (rn37, ro38))) fun ((rn31, ro32) : Int × Unit) => some (Sum.inr (rn31, ra15.2))) fun ((rn16, ro17) : Int × Ai) => some (Sum.inr (rn16, ro17))) fun ((rn10, ro11) : Int × Unit) => some (Sum.inr (rn10, ra2.2))) fun ((rn3, ro4) : Int × Ai) => some (Sum.inr (rn3, ro4))
theorem Dp.ok {G R F} (b0_ : Nat) (a0 : Ai) (r : (Option Ak × Ai) ⊕ (Int × Ai)) (hm : Dp a0 = some r) : CO Tryz.prog 88 [pt b0_ 0] G R (Bk b0_ 120 (Ai.c a0) :: F)
  (PK 118 r (fun (a : Option Ak × Ai) u R' L' => ∃ (p0 : Value × Ak.G), u = p0.1 ∧ R' = R ∧ L' = rO (Ak.op p0.2) p0.1 a.1 :: Bk b0_ 120 (Ai.c a.2) :: F) (fun n (o : Ai) R' L' => R' = R ∧ L' = Bk b0_ 120 (Ai.c o) :: F)) := by
 unfold Dp at hm
 refine co_ofN (N := 99) Tryz.func88 z z ?_
 refine csr ?_
 refine r_as z ?_
 refine r_nil (x_seq (c_seq ?_))
 obtain ⟨r0, hr0, hm1⟩ := bs hm
 clear hm
 rcases r0 with ra2 | ⟨rn3, ro4⟩
 rotate_left
 ·have hm5 := sm_r hm1
  clear hm1
  refine c_reg ?_
  refine r_mv z ?_
  obtain rfl := si hm5
  exact r_sw (s_w (o_callR ca86 z (Ax.ok b0_ a0 1000 (Sum.inr (rn3, ro4)) hr0) (by rintro _ _ _ ⟨rfl, rfl⟩; exact (px_st (fun _ h => st_pk 1 [0] (by decide) h) (px_of (Le.refl _) (.inr ⟨_, z, _, z, z, z⟩)))))) (fun _ _ _ _ h => h.elim)
 have hm5 := sm_l hm1
 clear hm1
 refine c_reg ?_
 refine r_mv z ?_
 refine r_c (s_w (o_callL ca86 z (Ax.ok b0_ a0 1000 (Sum.inl ra2) hr0) (fun _ _ _ h => h))) ?_
 refine r_u (o_cv z (cWI Tryz.underlying27 Tryz.underlying3 ra2.1)) ?_
 refine r_u (o_bld [vI (i64 (ra2.1.toNat : Int)), nl, nl] z (fun _ => by kernel_rfl)) ?_
 refine r_new (o_bx [vI (i64 (ra2.1.toNat : Int)), nl, nl] z z) fun b6 => ?_
 refine r_as z ?_
 refine r_nil (x_seq (c_seq ?_))
 obtain ⟨r7, hr7, hm8⟩ := ltx hm5
 clear hm5
 rcases r7 with ra9 | ⟨rn10, ro11⟩
 rotate_left
 ·have hm12 := sm_r hm8
  clear hm8
  refine c_reg ?_
  refine r_mv z (r_mv z (r_nc z (r_fa fa92_0 z (r_ld 0 sc3 z z z (r_bin z z (bI_ge (i64 (ra2.1.toNat : Int)) 1) ?_)))))
  refine rl_st (fun _ h => mv1 h) ?_
  obtain rfl := si hm12
  exact r_sw (s_w (o_callR ca89 z (As.ok b0_ ra2.2 (decide (1 ≤ (i64 (ra2.1.toNat : Int)))) (Sum.inr (rn10, ro11)) hr7) (by rintro _ _ _ ⟨rfl, rfl⟩; exact (px_st (fun _ h => st_pk 2 [0] (by decide) h) (px_of (Le.refl _) (.inr ⟨_, z, _, z, z, z⟩)))))) (fun _ _ _ _ h => h.elim)
 have hm12 := sm_l hm8
 clear hm8
 refine c_reg ?_
 refine r_mv z (r_mv z (r_nc z (r_fa fa92_0 z (r_ld 0 sc3 z z z (r_bin z z (bI_ge (i64 (ra2.1.toNat : Int)) 1) ?_)))))
 refine rl_st (fun _ h => mv1 h) ?_
 refine r_c (s_w (o_callL ca89 z (As.ok b0_ ra2.2 (decide (1 ≤ (i64 (ra2.1.toNat : Int)))) (Sum.inl ra9) hr7) (fun _ _ _ h => h))) ?_
 refine r_nil (x_seq (c_seq ?_))
 obtain ⟨r13, hr13, hm14⟩ := bs hm12
 clear hm12
 rcases r13 with ra15 | ⟨rn16, ro17⟩
 rotate_left
 ·have hm18 := sm_r hm14
  clear hm14
  refine c_reg ?_
  refine r_mv z (r_mv z ?_)
  obtain rfl := si hm18
  exact r_sw (s_w (o_callR ca121 z (CW.ok b0_ ra2.2 (Sum.inr (rn16, ro17)) hr13) (by rintro _ _ _ ⟨rfl, rfl⟩; exact (px_st (fun _ h => st_pk 2 [0] (by decide) h) (px_of (Le.refl _) (.inr ⟨_, z, _, z, z, z⟩)))))) (fun _ _ _ _ h => h.elim)
 have hm18 := sm_l hm14
 clear hm14
 refine c_reg ?_
 refine r_mv z (r_mv z ?_)
 refine r_sw (s_w (o_callL ca121 z (CW.ok b0_ ra2.2 (Sum.inl ra15) hr13) (fun _ _ _ h => h))) ?_
 rintro pv20 R _ _ ⟨⟨_, g21⟩, rfl, rfl, rfl⟩
 refine r_nc z (r_fa fa92_1 z ?_)
 refine rl_st (fun _ h => mv2 h) ?_
 refine r_u0 (ou_if (one_p 1 z) fun ho0 => o_st sc87 z z z ho0 z z) ?_
 refine r_nil (x_seq (c_seq ?_))
 refine cd_st (fun _ h => mv1 h) ?_
 refine cd_opt (fun ho24 => ?_) (fun x22 b23 ho24 => ?_)
 ·rintro rfl
  have hm25 := om_n hm18 ho24
  clear hm18
  cases hm25
 rintro rfl
 have hm25 := om_s hm18 ho24
 clear hm18
 refine cd_st (fun _ h => st_star_o h) ?_
 obtain ⟨r28, hr28, hm29⟩ := ltx hm25
 clear hm25
 rcases r28 with ra30 | ⟨rn31, ro32⟩
 rotate_left
 ·have hm33 := sm_r hm29
  clear hm29
  refine c_any mixed (effs := [12]) (V := []) ?_
  refine stage_st (fun _ h => mv4 h) ?_
  refine stage_ext [(0, pt b0_ 0), (1, pt b6 0), (2, pt b6 0), (3, pt b6 1), (4, pt b23 0), (5, vI (A3 x22)), (6, pt b6 0), (7, pt b6 0), (8, pt b6 0), (9, vI (i64 (ra2.1.toNat : Int))), (10, vI (B6 (i64 (ra2.1.toNat : Int)))), (11, vB ((A3 x22) == (B6 (i64 (ra2.1.toNat : Int)))))] z ?_
  refine stage z z z z mk11_ [0, 1, 2, 3, 4, 5, 6, 7, 8, 9, 10, 11] [12] z z z (q_mv z z z (q_mv z z z (q_u z z (o_nc z) (q_fa z z fa92_1 z (q_ld z z 4 sc87 z z z (q_u z z (o_callqP ca122 z (A3.ok b23 x22 g21 _ z) (fun _ h => st_pk 5 [1, 2, 3, 0, 4] (by decide) h) (fun _ h => st_pk 5 [3, 0, 1, 2, 4] (by decide) h)) (q_mv z z z (q_u z z (o_nc z) (q_fa z z fa92_0 z (q_ld z z 4 sc3 z z z (q_u z z (o_callq ca60 z (B6.ok (i64 (ra2.1.toNat : Int)) _ z)) (q_u z z (o_bin z z (bI_eq (A3 x22) (B6 (i64 (ra2.1.toNat : Int))))) qn)))))))))))) ?_ (nxt z)
  obtain rfl := si hm33
  exact ec (eo_w z (s_w (o_callR ca89 z (As.ok b0_ ra15.2 ((A3 x22) == (B6 (i64 (ra2.1.toNat : Int)))) (Sum.inr (rn31, ro32)) hr28) (by rintro _ _ _ ⟨rfl, rfl⟩; exact (px_st (fun _ h => st_pk 5 [0] (by decide) h) (px_of (Le.refl _) (.inr ⟨_, z, _, z, z, z⟩)))))) (fun _ _ _ _ h => h.elim)) en
 have hm33 := sm_l hm29
 clear hm29
 refine c_any mixed (effs := [12]) (V := []) ?_
 refine stage_st (fun _ h => mv4 h) ?_
 refine stage_ext [(0, pt b0_ 0), (1, pt b6 0), (2, pt b6 0), (3, pt b6 1), (4, pt b23 0), (5, vI (A3 x22)), (6, pt b6 0), (7, pt b6 0), (8, pt b6 0), (9, vI (i64 (ra2.1.toNat : Int))), (10, vI (B6 (i64 (ra2.1.toNat : Int)))), (11, vB ((A3 x22) == (B6 (i64 (ra2.1.toNat : Int)))))] z ?_
 refine stage z z z z mk11_ [0, 1, 2, 3, 4, 5, 6, 7, 8, 9, 10, 11] [12] z z z (q_mv z z z (q_mv z z z (q_u z z (o_nc z) (q_fa z z fa92_1 z (q_ld z z 4 sc87 z z z (q_u z z (o_callqP ca122 z (A3.ok b23 x22 g21 _ z) (fun _ h => st_pk 5 [1, 2, 3, 0, 4] (by decide) h) (fun _ h => st_pk 5 [3, 0, 1, 2, 4] (by decide) h)) (q_mv z z z (q_u z z (o_nc z) (q_fa z z fa92_0 z (q_ld z z 4 sc3 z z z (q_u z z (o_callq ca60 z (B6.ok (i64 (ra2.1.toNat : Int)) _ z)) (q_u z z (o_bin z z (bI_eq (A3 x22) (B6 (i64 (ra2.1.toNat : Int))))) qn)))))))))))) ?_ (nxt z)
 refine ec (eo_c z (s_w (o_callL ca89 z (As.ok b0_ ra15.2 ((A3 x22) == (B6 (i64 (ra2.1.toNat : Int)))) (Sum.inl ra30) hr28) (fun _ _ _ h => h))) ?_) en
 refine stage z z z z mk11_ [] [] z z z qn en ?_
 intro _
 refine ex_sub (E' := [(0, pt b0_ 0), (3, pt b6 0)]) ⟨z, z, trivial⟩ ?_
 refine x_seq (c_seq ?_)
 obtain ⟨r34, hr34, hm35⟩ := bs hm33
 clear hm33
 rcases r34 with ra36 | ⟨rn37, ro38⟩
 rotate_left
 ·have hm39 := sm_r hm35
  clear hm35
  refine c_reg ?_
  refine r_mv z (r_mv z ?_)
  obtain rfl := si hm39
  exact r_sw (s_w (o_callR ca118 z (Db.ok b0_ ra15.2 (Sum.inr (rn37, ro38)) hr34) (by rintro _ _ _ ⟨rfl, rfl⟩; exact (px_st (fun _ h => st_pk 5 [0] (by decide) h) (px_of (Le.refl _) (.inr ⟨_, z, _, z, z, z⟩)))))) (fun _ _ _ _ h => h.elim)
 have hm39 := sm_l hm35
 clear hm35
 refine c_reg ?_
 refine r_mv z (r_mv z ?_)
 refine r_sw (s_w (o_callL ca118 z (Db.ok b0_ ra15.2 (Sum.inl ra36) hr34) (fun _ _ _ h => h))) ?_
 rintro pv41 R _ _ ⟨⟨_, g42⟩, rfl, rfl, rfl⟩
 refine r_nc z (r_fa fa92_2 z ?_)
 refine rl_st (fun _ h => mv5 h) ?_
 refine r_u0 (ou_if (one_p 1 z) fun ho0 => o_st sc82 z z z ho0 z z) ?_
 refine nsr ?_
 refine r_mv z (r_nc z (r_fa fa92_0 z (r_ld 0 sc3 z z z ?_)))
 refine r_u (o_callq ca92 z (AB.ok (i64 (ra2.1.toNat : Int)) _ z)) ?_
 refine r_new (o_al ze127) fun b43 => ?_
 refine r_u0 (o_stn ag127 z z z z z z z) ?_
 refine r_nil (x_seq (c_seq ?_))
 refine cd_st (fun _ h => mv2 h) ?_
 refine cd_opt (fun ho46 => ?_) (fun x44 b45 ho46 => ?_)
 ·rintro rfl
  have hm47 := om_n hm39 ho46
  clear hm39
  cases hm47
 rintro rfl
 have hm47 := om_s hm39 ho46
 clear hm39
 refine cd_st (fun _ h => st_star_o h) ?_
 refine cd_by ((Ao x44) == 3) (fun h52 => ?_) fun h52 => ?_
 rotate_left
 ·have hm53 := iff_ hm47 h52
  clear hm47
  obtain ⟨r90, hr90, hm91⟩ := ltx hm53
  clear hm53
  rcases r90 with ra92 | ⟨rn93, ro94⟩
  rotate_left
  ·have hm95 := sm_r hm91
   clear hm91
   refine c_any mixed (effs := [52]) (V := []) ?_
   refine stage_st (fun _ h => mv7 h) ?_
   refine stage_ext [(0, pt b0_ 0), (1, pt b6 0), (2, pt b6 0), (3, pt b6 2), (4, pt b45 0), (5, vI (Ao x44)), (6, vB ((Ao x44) == 3)), (7, vB ((Ao x44) == 3)), (8, undef), (9, undef), (10, undef), (11, undef), (12, undef), (13, undef), (14, undef), (15, undef), (16, undef), (17, undef), (18, undef), (19, undef), (20, undef), (21, undef), (22, vB false), (23, vB false), (24, undef), (25, undef), (26, undef), (27, undef), (28, undef), (29, undef), (30, undef), (31, vB false), (32, vB false), (33, undef), (34, undef), (35, undef), (36, undef), (37, undef), (38, undef), (39, undef), (40, undef), (41, vB false), (42, vB false), (43, undef), (44, undef), (45, undef), (46, undef), (47, undef), (48, undef), (49, undef), (50, undef), (51, vB false)] z ?_
   refine stage z z z z mk12_ [0, 1, 2, 3, 4, 5, 6, 7, 8, 9, 10, 11, 12, 13, 14, 15, 16, 17, 18, 19, 20, 21, 22, 23, 24, 25, 26, 27, 28, 29, 30, 31, 32, 33, 34, 35, 36, 37, 38, 39, 40, 41, 42, 43, 44, 45, 46, 47, 48, 49, 50, 51] [52] z z z (q_mv z z z (q_mv z z z (q_u z z (o_nc z) (q_fa z z fa92_2 z (q_ld z z 7 sc82 z z z (q_u z z (o_callqP ca120 z (Ao.ok b45 x44 g42 _ z) (fun _ h => st_pk 11 [1, 2, 3, 4, 5, 0, 6, 7, 8, 9, 10] (by decide) h) (fun _ h => st_pk 11 [5, 0, 1, 2, 3, 4, 6, 7, 8, 9, 10] (by decide) h)) (q_u z z (o_bin z z (bI_eq (Ao x44) 3)) (q_mv z z z (q_n z z z z h52 (q_n z z z z h52 (q_n z z z z h52 (q_n z z z z h52 (q_n z z z z h52 (q_n z z z z h52 (q_n z z z z h52 (q_n z z z z h52 (q_n z z z z h52 (q_n z z z z h52 (q_n z z z z h52 (q_n z z z z h52 (q_n z z z z h52 (q_n z z z z h52 (q_u z z (o_pf z h52 z) (q_mv z z z (q_n z z z z z (q_n z z z z z (q_n z z z z z (q_n z z z z z (q_n z z z z z (q_n z z z z z (q_n z z z z z (q_u z z (o_pf z z z) (q_mv z z z (q_n z z z z z (q_n z z z z z (q_n z z z z z (q_n z z z z z (q_n z z z z z (q_n z z z z z (q_n z z z z z (q_n z z z z z (q_u z z (o_pf z z z) (q_mv z z z (q_n z z z z z (q_n z z z z z (q_n z z z z z (q_n z z z z z (q_n z z z z z (q_n z z z z z (q_n z z z z z (q_n z z z z z (q_u z z (o_pf z z z) qn)))))))))))))))))))))))))))))))))))))))))))))))))))) ?_ (nxt z)
   obtain rfl := si hm95
   exact ec (eo_w z (s_w (o_callR ca89 z (As.ok b0_ ra36.2 false (Sum.inr (rn93, ro94)) hr90) (by rintro _ _ _ ⟨rfl, rfl⟩; exact (px_st (fun _ h => st_pk 11 [0] (by decide) h) (px_of (Le.refl _) (.inr ⟨_, z, _, z, z, z⟩)))))) (fun _ _ _ _ h => h.elim)) en
  have hm95 := sm_l hm91
  clear hm91
  refine c_any mixed (effs := [52]) (V := []) ?_
  refine stage_st (fun _ h => mv7 h) ?_
  refine stage_ext [(0, pt b0_ 0), (1, pt b6 0), (2, pt b6 0), (3, pt b6 2), (4, pt b45 0), (5, vI (Ao x44)), (6, vB ((Ao x44) == 3)), (7, vB ((Ao x44) == 3)), (8, undef), (9, undef), (10, undef), (11, undef), (12, undef), (13, undef), (14, undef), (15, undef), (16, undef), (17, undef), (18, undef), (19, undef), (20, undef), (21, undef), (22, vB false), (23, vB false), (24, undef), (25, undef), (26, undef), (27, undef), (28, undef), (29, undef), (30, undef), (31, vB false), (32, vB false), (33, undef), (34, undef), (35, undef), (36, undef), (37, undef), (38, undef), (39, undef), (40, undef), (41, vB false), (42, vB false), (43, undef), (44, undef), (45, undef), (46, undef), (47, undef), (48, undef), (49, undef), (50, undef), (51, vB false)] z ?_
  refine stage z z z z mk12_ [0, 1, 2, 3, 4, 5, 6, 7, 8, 9, 10, 11, 12, 13, 14, 15, 16, 17, 18, 19, 20, 21, 22, 23, 24, 25, 26, 27, 28, 29, 30, 31, 32, 33, 34, 35, 36, 37, 38, 39, 40, 41, 42, 43, 44, 45, 46, 47, 48, 49, 50, 51] [52] z z z (q_mv z z z (q_mv z z z (q_u z z (o_nc z) (q_fa z z fa92_2 z (q_ld z z 7 sc82 z z z (q_u z z (o_callqP ca120 z (Ao.ok b45 x44 g42 _ z) (fun _ h => st_pk 11 [1, 2, 3, 4, 5, 0, 6, 7, 8, 9, 10] (by decide) h) (fun _ h => st_pk 11 [5, 0, 1, 2, 3, 4, 6, 7, 8, 9, 10] (by decide) h)) (q_u z z (o_bin z z (bI_eq (Ao x44) 3)) (q_mv z z z (q_n z z z z h52 (q_n z z z z h52 (q_n z z z z h52 (q_n z z z z h52 (q_n z z z z h52 (q_n z z z z h52 (q_n z z z z h52 (q_n z z z z h52 (q_n z z z z h52 (q_n z z z z h52 (q_n z z z z h52 (q_n z z z z h52 (q_n z z z z h52 (q_n z z z z h52 (q_u z z (o_pf z h52 z) (q_mv z z z (q_n z z z z z (q_n z z z z z (q_n z z z z z (q_n z z z z z (q_n z z z z z (q_n z z z z z (q_n z z z z z (q_u z z (o_pf z z z) (q_mv z z z (q_n z z z z z (q_n z z z z z (q_n z z z z z (q_n z z z z z (q_n z z z z z (q_n z z z z z (q_n z z z z z (q_n z z z z z (q_u z z (o_pf z z z) (q_mv z z z (q_n z z z z z (q_n z z z z z (q_n z z z z z (q_n z z z z z (q_n z z z z z (q_n z z z z z (q_n z z z z z (q_n z z z z z (q_u z z (o_pf z z z) qn)))))))))))))))))))))))))))))))))))))))))))))))))))) ?_ (nxt z)
  refine ec (eo_c z (s_w (o_callL ca89 z (As.ok b0_ ra36.2 false (Sum.inl ra92) hr90) (fun _ _ _ h => h))) ?_) en
  refine stage z z z z mk12_ [] [] z z z qn en ?_
  intro _
  refine ex_sub (E' := [(3, pt b6 0)]) ⟨z, trivial⟩ ?_
  refine x_seq (csr ?_)
  refine r_mv z (r_as z ?_)
  refine r_nil (x_seq (c_ret ?_))
  refine ex_st (fun _ h => mv10 (mv10 (mv10 h))) ?_
  refine ex_st (fun _ h => st_some (f := Aj.op g21) (a := x22) (st_star_f (A := Aj.fl b23 x22 g21) h)) ?_
  refine ex_st (fun _ h => mv6 (mv6 (mv6 (mv6 (mv6 h))))) ?_
  refine ex_st (fun _ h => st_some (f := Ae.op g42) (a := x44) (st_star_f (A := Ae.fl b45 x44 g42) h)) ?_
  refine ex_st (fun _ h => mv4 (mv1 h)) ?_
  refine ex_st (fun _ h => st_some (f := Ak.op (⟨(pt b23 0, g21), (pt b45 0, g42)⟩ : Ak.G)) (a := (⟨i64 (ra2.1.toNat : Int), (some x22), (some x44)⟩ : Ak)) (st_star_f (A := Ak.fl b6 (⟨i64 (ra2.1.toNat : Int), (some x22), (some x44)⟩ : Ak) (⟨(pt b23 0, g21), (pt b45 0, g42)⟩ : Ak.G)) h)) ?_
  obtain rfl := si hm95
  refine ex_st (fun _ h => st_pk 3 [0, 1] (by decide) h) ?_
  exact x_r1 z (rv_t z) (Le.refl _) (.inl ⟨_, z, _, z, (pt b6 0, (⟨(pt b23 0, g21), (pt b45 0, g42)⟩ : Ak.G)), z, z, z⟩)
 have hm53 := ift hm47 h52
 clear hm47
 obtain ⟨r54, hr54, hm55⟩ := bs hm53
 clear hm53
 refine cd_by ((i64 ((Am x44) + r54)) == (i64 ((i64 (ra2.1.toNat : Int)) + 1))) (fun h56 => ?_) fun h56 => ?_
 rotate_left
 ·have hm57 := iff_ hm55 h56
  clear hm55
  obtain ⟨r84, hr84, hm85⟩ := ltx hm57
  clear hm57
  rcases r84 with ra86 | ⟨rn87, ro88⟩
  rotate_left
  ·have hm89 := sm_r hm85
   clear hm85
   refine c_any mixed (effs := [52]) (V := []) ?_
   refine stage_st (fun _ h => mv7 h) ?_
   refine stage_ext [(0, pt b0_ 0), (1, pt b6 0), (2, pt b6 0), (3, pt b6 2), (4, pt b45 0), (5, vI (Ao x44)), (6, vB ((Ao x44) == 3)), (7, vB ((Ao x44) == 3)), (8, pt b6 0), (9, pt b6 0), (10, pt b6 2), (11, pt b45 0), (12, vI (Am x44)), (13, pt b6 0), (14, vI r54), (15, vI (i64 ((Am x44) + r54))), (16, pt b6 0), (17, pt b6 0), (18, pt b6 0), (19, vI (i64 (ra2.1.toNat : Int))), (20, vI (i64 ((i64 (ra2.1.toNat : Int)) + 1))), (21, vB ((i64 ((Am x44) + r54)) == (i64 ((i64 (ra2.1.toNat : Int)) + 1)))), (22, vB ((i64 ((Am x44) + r54)) == (i64 ((i64 (ra2.1.toNat : Int)) + 1)))), (23, vB ((i64 ((Am x44) + r54)) == (i64 ((i64 (ra2.1.toNat : Int)) + 1)))), (24, undef), (25, undef), (26, undef), (27, undef), (28, undef), (29, undef), (30, undef), (31, vB false), (32, vB false), (33, undef), (34, undef), (35, undef), (36, undef), (37, undef), (38, undef), (39, undef), (40, undef), (41, vB false), (42, vB false), (43, undef), (44, undef), (45, undef), (46, undef), (47, undef), (48, undef), (49, undef), (50, undef), (51, vB false)] z ?_
   refine stage z z z z mk12_ [0, 1, 2, 3, 4, 5, 6, 7, 8, 9, 10, 11, 12, 13, 14, 15, 16, 17, 18, 19, 20, 21, 22, 23, 24, 25, 26, 27, 28, 29, 30, 31, 32, 33, 34, 35, 36, 37, 38, 39, 40, 41, 42, 43, 44, 45, 46, 47, 48, 49, 50, 51] [52] z z z (q_mv z z z (q_mv z z z (q_u z z (o_nc z) (q_fa z z fa92_2 z (q_ld z z 7 sc82 z z z (q_u z z (o_callqP ca120 z (Ao.ok b45 x44 g42 _ z) (fun _ h => st_pk 11 [1, 2, 3, 4, 5, 0, 6, 7, 8, 9, 10] (by decide) h) (fun _ h => st_pk 11 [5, 0, 1, 2, 3, 4, 6, 7, 8, 9, 10] (by decide) h)) (q_u z z (o_bin z z (bI_eq (Ao x44) 3)) (q_mv z z z (q_y z z z z h52 (o_mv z) (q_y z z z z h52 (o_nc z) (q_y z z z z h52 (o_fa fa92_2 z) (q_y z z z z h52 (o_ld 7 sc82 z z z) (q_y z z z z h52 (o_callqP ca119 z (Am.ok b45 x44 g42 _ z) (fun _ h => st_pk 11 [1, 2, 3, 4, 5, 0, 6, 7, 8, 9, 10] (by decide) h) (fun _ h => st_pk 11 [5, 0, 1, 2, 3, 4, 6, 7, 8, 9, 10] (by decide) h)) (q_y z z z z h52 (o_mv z) (q_y z z z z h52 (o_callqP ca34 z (AI.ok b6 (⟨i64 (ra2.1.toNat : Int), (some x22), (some x44)⟩ : Ak) (⟨(pt b23 0, g21), (pt b45 0, g42)⟩ : Ak.G) r54 hr54) (fun _ h => mv4 (mv1 (st_some (f := Ae.op g42) (a := x44) (st_star_f (A := Ae.fl b45 x44 g42) (mv6 (mv6 (mv6 (mv6 (mv6 (st_some (f := Aj.op g21) (a := x22) (st_star_f (A := Aj.fl b23 x22 g21) (mv10 (mv10 (mv10 h)))))))))))))) (fun _ h => st_pk 11 [9, 0, 1, 2, 3, 4, 10, 8, 5, 6, 7] (by decide) (st_star_o (st_some_o (mv4 (st_star_o (st_some_o (mv1 h)))))))) (q_y z z z z h52 (o_bin z z (bI_add (Am x44) r54)) (q_y z z z z h52 (o_mv z) (q_y z z z z h52 (o_nc z) (q_y z z z z h52 (o_fa fa92_0 z) (q_y z z z z h52 (o_ld 7 sc3 z z z) (q_y z z z z h52 (o_bin z z (bI_add (i64 (ra2.1.toNat : Int)) 1)) (q_y z z z z h52 (o_bin z z (bI_eq (i64 ((Am x44) + r54)) (i64 ((i64 (ra2.1.toNat : Int)) + 1)))) (q_u z z (o_pt z h52 z) (q_mv z z z (q_n z z z z h56 (q_n z z z z h56 (q_n z z z z h56 (q_n z z z z h56 (q_n z z z z h56 (q_n z z z z h56 (q_n z z z z h56 (q_u z z (o_pf z h56 z) (q_mv z z z (q_n z z z z z (q_n z z z z z (q_n z z z z z (q_n z z z z z (q_n z z z z z (q_n z z z z z (q_n z z z z z (q_n z z z z z (q_u z z (o_pf z z z) (q_mv z z z (q_n z z z z z (q_n z z z z z (q_n z z z z z (q_n z z z z z (q_n z z z z z (q_n z z z z z (q_n z z z z z (q_n z z z z z (q_u z z (o_pf z z z) qn)))))))))))))))))))))))))))))))))))))))))))))))))))) ?_ (nxt z)
   obtain rfl := si hm89
   exact ec (eo_w z (s_w (o_callR ca89 z (As.ok b0_ ra36.2 false (Sum.inr (rn87, ro88)) hr84) (by rintro _ _ _ ⟨rfl, rfl⟩; exact (px_st (fun _ h => st_pk 11 [0] (by decide) h) (px_of (Le.refl _) (.inr ⟨_, z, _, z, z, z⟩)))))) (fun _ _ _ _ h => h.elim)) en
  have hm89 := sm_l hm85
  clear hm85
  refine c_any mixed (effs := [52]) (V := []) ?_
  refine stage_st (fun _ h => mv7 h) ?_
  refine stage_ext [(0, pt b0_ 0), (1, pt b6 0), (2, pt b6 0), (3, pt b6 2), (4, pt b45 0), (5, vI (Ao x44)), (6, vB ((Ao x44) == 3)), (7, vB ((Ao x44) == 3)), (8, pt b6 0), (9, pt b6 0), (10, pt b6 2), (11, pt b45 0), (12, vI (Am x44)), (13, pt b6 0), (14, vI r54), (15, vI (i64 ((Am x44) + r54))), (16, pt b6 0), (17, pt b6 0), (18, pt b6 0), (19, vI (i64 (ra2.1.toNat : Int))), (20, vI (i64 ((i64 (ra2.1.toNat : Int)) + 1))), (21, vB ((i64 ((Am x44) + r54)) == (i64 ((i64 (ra2.1.toNat : Int)) + 1)))), (22, vB ((i64 ((Am x44) + r54)) == (i64 ((i64 (ra2.1.toNat : Int)) + 1)))), (23, vB ((i64 ((Am x44) + r54)) == (i64 ((i64 (ra2.1.toNat : Int)) + 1)))), (24, undef), (25, undef), (26, undef), (27, undef), (28, undef), (29, undef), (30, undef), (31, vB false), (32, vB false), (33, undef), (34, undef), (35, undef), (36, undef), (37, undef), (38, undef), (39, undef), (40, undef), (41, vB false), (42, vB false), (43, undef), (44, undef), (45, undef), (46, undef), (47, undef), (48, undef), (49, undef), (50, undef), (51, vB false)] z ?_
  refine stage z z z z mk12_ [0, 1, 2, 3, 4, 5, 6, 7, 8, 9, 10, 11, 12, 13, 14, 15, 16, 17, 18, 19, 20, 21, 22, 23, 24, 25, 26, 27, 28, 29, 30, 31, 32, 33, 34, 35, 36, 37, 38, 39, 40, 41, 42, 43, 44, 45, 46, 47, 48, 49, 50, 51] [52] z z z (q_mv z z z (q_mv z z z (q_u z z (o_nc z) (q_fa z z fa92_2 z (q_ld z z 7 sc82 z z z (q_u z z (o_callqP ca120 z (Ao.ok b45 x44 g42 _ z) (fun _ h => st_pk 11 [1, 2, 3, 4, 5, 0, 6, 7, 8, 9, 10] (by decide) h) (fun _ h => st_pk 11 [5, 0, 1, 2, 3, 4, 6, 7, 8, 9, 10] (by decide) h)) (q_u z z (o_bin z z (bI_eq (Ao x44) 3)) (q_mv z z z (q_y z z z z h52 (o_mv z) (q_y z z z z h52 (o_nc z) (q_y z z z z h52 (o_fa fa92_2 z) (q_y z z z z h52 (o_ld 7 sc82 z z z) (q_y z z z z h52 (o_callqP ca119 z (Am.ok b45 x44 g42 _ z) (fun _ h => st_pk 11 [1, 2, 3, 4, 5, 0, 6, 7, 8, 9, 10] (by decide) h) (fun _ h => st_pk 11 [5, 0, 1, 2, 3, 4, 6, 7, 8, 9, 10] (by decide) h)) (q_y z z z z h52 (o_mv z) (q_y z z z z h52 (o_callqP ca34 z (AI.ok b6 (⟨i64 (ra2.1.toNat : Int), (some x22), (some x44)⟩ : Ak) (⟨(pt b23 0, g21), (pt b45 0, g42)⟩ : Ak.G) r54 hr54) (fun _ h => mv4 (mv1 (st_some (f := Ae.op g42) (a := x44) (st_star_f (A := Ae.fl b45 x44 g42) (mv6 (mv6 (mv6 (mv6 (mv6 (st_some (f := Aj.op g21) (a := x22) (st_star_f (A := Aj.fl b23 x22 g21) (mv10 (mv10 (mv10 h)))))))))))))) (fun _ h => st_pk 11 [9, 0, 1, 2, 3, 4, 10, 8, 5, 6, 7] (by decide) (st_star_o (st_some_o (mv4 (st_star_o (st_some_o (mv1 h)))))))) (q_y z z z z h52 (o_bin z z (bI_add (Am x44) r54)) (q_y z z z z h52 (o_mv z) (q_y z z z z h52 (o_nc z) (q_y z z z z h52 (o_fa fa92_0 z) (q_y z z z z h52 (o_ld 7 sc3 z z z) (q_y z z z z h52 (o_bin z z (bI_add (i64 (ra2.1.toNat : Int)) 1)) (q_y z z z z h52 (o_bin z z (bI_eq (i64 ((Am x44) + r54)) (i64 ((i64 (ra2.1.toNat : Int)) + 1)))) (q_u z z (o_pt z h52 z) (q_mv z z z (q_n z z z z h56 (q_n z z z z h56 (q_n z z z z h56 (q_n z z z z h56 (q_n z z z z h56 (q_n z z z z h56 (q_n z z z z h56 (q_u z z (o_pf z h56 z) (q_mv z z z (q_n z z z z z (q_n z z z z z (q_n z z z z z (q_n z z z z z (q_n z z z z z (q_n z z z z z (q_n z z z z z (q_n z z z z z (q_u z z (o_pf z z z) (q_mv z z z (q_n z z z z z (q_n z z z z z (q_n z z z z z (q_n z z z z z (q_n z z z z z (q_n z z z z z (q_n z z z z z (q_n z z z z z (q_u z z (o_pf z z z) qn)))))))))))))))))))))))))))))))))))))))))))))))))))) ?_ (nxt z)
  refine ec (eo_c z (s_w (o_callL ca89 z (As.ok b0_ ra36.2 false (Sum.inl ra86) hr84) (fun _ _ _ h => h))) ?_) en
  refine stage z z z z mk12_ [] [] z z z qn en ?_
  intro _
  refine ex_sub (E' := [(3, pt b6 0)]) ⟨z, trivial⟩ ?_
  refine x_seq (csr ?_)
  refine r_mv z (r_as z ?_)
  refine r_nil (x_seq (c_ret ?_))
  refine ex_st (fun _ h => mv10 (mv10 (mv10 h))) ?_
  refine ex_st (fun _ h => st_some (f := Aj.op g21) (a := x22) (st_star_f (A := Aj.fl b23 x22 g21) h)) ?_
  refine ex_st (fun _ h => mv6 (mv6 (mv6 (mv6 (mv6 h))))) ?_
  refine ex_st (fun _ h => st_some (f := Ae.op g42) (a := x44) (st_star_f (A := Ae.fl b45 x44 g42) h)) ?_
  refine ex_st (fun _ h => mv4 (mv1 h)) ?_
  refine ex_st (fun _ h => st_some (f := Ak.op (⟨(pt b23 0, g21), (pt b45 0, g42)⟩ : Ak.G)) (a := (⟨i64 (ra2.1.toNat : Int), (some x22), (some x44)⟩ : Ak)) (st_star_f (A := Ak.fl b6 (⟨i64 (ra2.1.toNat : Int), (some x22), (some x44)⟩ : Ak) (⟨(pt b23 0, g21), (pt b45 0, g42)⟩ : Ak.G)) h)) ?_
  obtain rfl := si hm89
  refine ex_st (fun _ h => st_pk 3 [0, 1] (by decide) h) ?_
  exact x_r1 z (rv_t z) (Le.refl _) (.inl ⟨_, z, _, z, (pt b6 0, (⟨(pt b23 0, g21), (pt b45 0, g42)⟩ : Ak.G)), z, z, z⟩)
 have hm57 := ift hm55 h56
 clear hm55
 refine cd_by (decide (r54 ≤ (i64 (ra2.1.toNat : Int)))) (fun h58 => ?_) fun h58 => ?_
 rotate_left
 ·have hm59 := iff_ hm57 h58
  clear hm57
  obtain ⟨r78, hr78, hm79⟩ := ltx hm59
  clear hm59
  rcases r78 with ra80 | ⟨rn81, ro82⟩
  rotate_left
  ·have hm83 := sm_r hm79
   clear hm79
   refine c_any mixed (effs := [52]) (V := []) ?_
   refine stage_st (fun _ h => mv7 h) ?_
   refine stage_ext [(0, pt b0_ 0), (1, pt b6 0), (2, pt b6 0), (3, pt b6 2), (4, pt b45 0), (5, vI (Ao x44)), (6, vB ((Ao x44) == 3)), (7, vB ((Ao x44) == 3)), (8, pt b6 0), (9, pt b6 0), (10, pt b6 2), (11, pt b45 0), (12, vI (Am x44)), (13, pt b6 0), (14, vI r54), (15, vI (i64 ((Am x44) + r54))), (16, pt b6 0), (17, pt b6 0), (18, pt b6 0), (19, vI (i64 (ra2.1.toNat : Int))), (20, vI (i64 ((i64 (ra2.1.toNat : Int)) + 1))), (21, vB ((i64 ((Am x44) + r54)) == (i64 ((i64 (ra2.1.toNat : Int)) + 1)))), (22, vB ((i64 ((Am x44) + r54)) == (i64 ((i64 (ra2.1.toNat : Int)) + 1)))), (23, vB ((i64 ((Am x44) + r54)) == (i64 ((i64 (ra2.1.toNat : Int)) + 1)))), (24, pt b6 0), (25, vI r54), (26, pt b6 0), (27, pt b6 0), (28, pt b6 0), (29, vI (i64 (ra2.1.toNat : Int))), (30, vB (decide (r54 ≤ (i64 (ra2.1.toNat : Int))))), (31, vB (decide (r54 ≤ (i64 (ra2.1.toNat : Int))))), (32, vB (decide (r54 ≤ (i64 (ra2.1.toNat : Int))))), (33, undef), (34, undef), (35, undef), (36, undef), (37, undef), (38, undef), (39, undef), (40, undef), (41, vB false), (42, vB false), (43, undef), (44, undef), (45, undef), (46, undef), (47, undef), (48, undef), (49, undef), (50, undef), (51, vB false)] z ?_
   refine stage z z z z mk12_ [0, 1, 2, 3, 4, 5, 6, 7, 8, 9, 10, 11, 12, 13, 14, 15, 16, 17, 18, 19, 20, 21, 22, 23, 24, 25, 26, 27, 28, 29, 30, 31, 32, 33, 34, 35, 36, 37, 38, 39, 40, 41, 42, 43, 44, 45, 46, 47, 48, 49, 50, 51] [52] z z z (q_mv z z z (q_mv z z z (q_u z z (o_nc z) (q_fa z z fa92_2 z (q_ld z z 7 sc82 z z z (q_u z z (o_callqP ca120 z (Ao.ok b45 x44 g42 _ z) (fun _ h => st_pk 11 [1, 2, 3, 4, 5, 0, 6, 7, 8, 9, 10] (by decide) h) (fun _ h => st_pk 11 [5, 0, 1, 2, 3, 4, 6, 7, 8, 9, 10] (by decide) h)) (q_u z z (o_bin z z (bI_eq (Ao x44) 3)) (q_mv z z z (q_y z z z z h52 (o_mv z) (q_y z z z z h52 (o_nc z) (q_y z z z z h52 (o_fa fa92_2 z) (q_y z z z z h52 (o_ld 7 sc82 z z z) (q_y z z z z h52 (o_callqP ca119 z (Am.ok b45 x44 g42 _ z) (fun _ h => st_pk 11 [1, 2, 3, 4, 5, 0, 6, 7, 8, 9, 10] (by decide) h) (fun _ h => st_pk 11 [5, 0, 1, 2, 3, 4, 6, 7, 8, 9, 10] (by decide) h)) (q_y z z z z h52 (o_mv z) (q_y z z z z h52 (o_callqP ca34 z (AI.ok b6 (⟨i64 (ra2.1.toNat : Int), (some x22), (some x44)⟩ : Ak) (⟨(pt b23 0, g21), (pt b45 0, g42)⟩ : Ak.G) r54 hr54) (fun _ h => mv4 (mv1 (st_some (f := Ae.op g42) (a := x44) (st_star_f (A := Ae.fl b45 x44 g42) (mv6 (mv6 (mv6 (mv6 (mv6 (st_some (f := Aj.op g21) (a := x22) (st_star_f (A := Aj.fl b23 x22 g21) (mv10 (mv10 (mv10 h)))))))))))))) (fun _ h => st_pk 11 [9, 0, 1, 2, 3, 4, 10, 8, 5, 6, 7] (by decide) (st_star_o (st_some_o (mv4 (st_star_o (st_some_o (mv1 h)))))))) (q_y z z z z h52 (o_bin z z (bI_add (Am x44) r54)) (q_y z z z z h52 (o_mv z) (q_y z z z z h52 (o_nc z) (q_y z z z z h52 (o_fa fa92_0 z) (q_y z z z z h52 (o_ld 7 sc3 z z z) (q_y z z z z h52 (o_bin z z (bI_add (i64 (ra2.1.toNat : Int)) 1)) (q_y z z z z h52 (o_bin z z (bI_eq (i64 ((Am x44) + r54)) (i64 ((i64 (ra2.1.toNat : Int)) + 1)))) (q_u z z (o_pt z h52 z) (q_mv z z z (q_y z z z z h56 (o_mv z) (q_y z z z z h56 (o_callqP ca34 z (AI.ok b6 (⟨i64 (ra2.1.toNat : Int), (some x22), (some x44)⟩ : Ak) (⟨(pt b23 0, g21), (pt b45 0, g42)⟩ : Ak.G) r54 hr54) (fun _ h => mv4 (mv1 (st_some (f := Ae.op g42) (a := x44) (st_star_f (A := Ae.fl b45 x44 g42) (mv6 (mv6 (mv6 (mv6 (mv6 (st_some (f := Aj.op g21) (a := x22) (st_star_f (A := Aj.fl b23 x22 g21) (mv10 (mv10 (mv10 h)))))))))))))) (fun _ h => st_pk 11 [9, 0, 1, 2, 3, 4, 10, 8, 5, 6, 7] (by decide) (st_star_o (st_some_o (mv4 (st_star_o (st_some_o (mv1 h)))))))) (q_y z z z z h56 (o_mv z) (q_y z z z z h56 (o_nc z) (q_y z z z z h56 (o_fa fa92_0 z) (q_y z z z z h56 (o_ld 7 sc3 z z z) (q_y z z z z h56 (o_bin z z (bI_le r54 (i64 (ra2.1.toNat : Int)))) (q_u z z (o_pt z h56 z) (q_mv z z z (q_n z z z z h58 (q_n z z z z h58 (q_n z z z z h58 (q_n z z z z h58 (q_n z z z z h58 (q_n z z z z h58 (q_n z z z z h58 (q_n z z z z h58 (q_u z z (o_pf z h58 z) (q_mv z z z (q_n z z z z z (q_n z z z z z (q_n z z z z z (q_n z z z z z (q_n z z z z z (q_n z z z z z (q_n z z z z z (q_n z z z z z (q_u z z (o_pf z z z) qn)))))))))))))))))))))))))))))))))))))))))))))))))))) ?_ (nxt z)
   obtain rfl := si hm83
   exact ec (eo_w z (s_w (o_callR ca89 z (As.ok b0_ ra36.2 false (Sum.inr (rn81, ro82)) hr78) (by rintro _ _ _ ⟨rfl, rfl⟩; exact (px_st (fun _ h => st_pk 11 [0] (by decide) h) (px_of (Le.refl _) (.inr ⟨_, z, _, z, z, z⟩)))))) (fun _ _ _ _ h => h.elim)) en
  have hm83 := sm_l hm79
  clear hm79
  refine c_any mixed (effs := [52]) (V := []) ?_
  refine stage_st (fun _ h => mv7 h) ?_
  refine stage_ext [(0, pt b0_ 0), (1, pt b6 0), (2, pt b6 0), (3, pt b6 2), (4, pt b45 0), (5, vI (Ao x44)), (6, vB ((Ao x44) == 3)), (7, vB ((Ao x44) == 3)), (8, pt b6 0), (9, pt b6 0), (10, pt b6 2), (11, pt b45 0), (12, vI (Am x44)), (13, pt b6 0), (14, vI r54), (15, vI (i64 ((Am x44) + r54))), (16, pt b6 0), (17, pt b6 0), (18, pt b6 0), (19, vI (i64 (ra2.1.toNat : Int))), (20, vI (i64 ((i64 (ra2.1.toNat : Int)) + 1))), (21, vB ((i64 ((Am x44) + r54)) == (i64 ((i64 (ra2.1.toNat : Int)) + 1)))), (22, vB ((i64 ((Am x44) + r54)) == (i64 ((i64 (ra2.1.toNat : Int)) + 1)))), (23, vB ((i64 ((Am x44) + r54)) == (i64 ((i64 (ra2.1.toNat : Int)) + 1)))), (24, pt b6 0), (25, vI r54), (26, pt b6 0), (27, pt b6 0), (28, pt b6 0), (29, vI (i64 (ra2.1.toNat : Int))), (30, vB (decide (r54 ≤ (i64 (ra2.1.toNat : Int))))), (31, vB (decide (r54 ≤ (i64 (ra2.1.toNat : Int))))), (32, vB (decide (r54 ≤ (i64 (ra2.1.toNat : Int))))), (33, undef), (34, undef), (35, undef), (36, undef), (37, undef), (38, undef), (39, undef), (40, undef), (41, vB false), (42, vB false), (43, undef), (44, undef), (45, undef), (46, undef), (47, undef), (48, undef), (49, undef), (50, undef), (51, vB false)] z ?_
  refine stage z z z z mk12_ [0, 1, 2, 3, 4, 5, 6, 7, 8, 9, 10, 11, 12, 13, 14, 15, 16, 17, 18, 19, 20, 21, 22, 23, 24, 25, 26, 27, 28, 29, 30, 31, 32, 33, 34, 35, 36, 37, 38, 39, 40, 41, 42, 43, 44, 45, 46, 47, 48, 49, 50, 51] [52] z z z (q_mv z z z (q_mv z z z (q_u z z (o_nc z) (q_fa z z fa92_2 z (q_ld z z 7 sc82 z z z (q_u z z (o_callqP ca120 z (Ao.ok b45 x44 g42 _ z) (fun _ h => st_pk 11 [1, 2, 3, 4, 5, 0, 6, 7, 8, 9, 10] (by decide) h) (fun _ h => st_pk 11 [5, 0, 1, 2, 3, 4, 6, 7, 8, 9, 10] (by decide) h)) (q_u z z (o_bin z z (bI_eq (Ao x44) 3)) (q_mv z z z (q_y z z z z h52 (o_mv z) (q_y z z z z h52 (o_nc z) (q_y z z z z h52 (o_fa fa92_2 z) (q_y z z z z h52 (o_ld 7 sc82 z z z) (q_y z z z z h52 (o_callqP ca119 z (Am.ok b45 x44 g42 _ z) (fun _ h => st_pk 11 [1, 2, 3, 4, 5, 0, 6, 7, 8, 9, 10] (by decide) h) (fun _ h => st_pk 11 [5, 0, 1, 2, 3, 4, 6, 7, 8, 9, 10] (by decide) h)) (q_y z z z z h52 (o_mv z) (q_y z z z z h52 (o_callqP ca34 z (AI.ok b6 (⟨i64 (ra2.1.toNat : Int), (some x22), (some x44)⟩ : Ak) (⟨(pt b23 0, g21), (pt b45 0, g42)⟩ : Ak.G) r54 hr54) (fun _ h => mv4 (mv1 (st_some (f := Ae.op g42) (a := x44) (st_star_f (A := Ae.fl b45 x44 g42) (mv6 (mv6 (mv6 (mv6 (mv6 (st_some (f := Aj.op g21) (a := x22) (st_star_f (A := Aj.fl b23 x22 g21) (mv10 (mv10 (mv10 h)))))))))))))) (fun _ h => st_pk 11 [9, 0, 1, 2, 3, 4, 10, 8, 5, 6, 7] (by decide) (st_star_o (st_some_o (mv4 (st_star_o (st_some_o (mv1 h)))))))) (q_y z z z z h52 (o_bin z z (bI_add (Am x44) r54)) (q_y z z z z h52 (o_mv z) (q_y z z z z h52 (o_nc z) (q_y z z z z h52 (o_fa fa92_0 z) (q_y z z z z h52 (o_ld 7 sc3 z z z) (q_y z z z z h52 (o_bin z z (bI_add (i64 (ra2.1.toNat : Int)) 1)) (q_y z z z z h52 (o_bin z z (bI_eq (i64 ((Am x44) + r54)) (i64 ((i64 (ra2.1.toNat : Int)) + 1)))) (q_u z z (o_pt z h52 z) (q_mv z z z (q_y z z z z h56 (o_mv z) (q_y z z z z h56 (o_callqP ca34 z (AI.ok b6 (⟨i64 (ra2.1.toNat : Int), (some x22), (some x44)⟩ : Ak) (⟨(pt b23 0, g21), (pt b45 0, g42)⟩ : Ak.G) r54 hr54) (fun _ h => mv4 (mv1 (st_some (f := Ae.op g42) (a := x44) (st_star_f (A := Ae.fl b45 x44 g42) (mv6 (mv6 (mv6 (mv6 (mv6 (st_some (f := Aj.op g21) (a := x22) (st_star_f (A := Aj.fl b23 x22 g21) (mv10 (mv10 (mv10 h)))))))))))))) (fun _ h => st_pk 11 [9, 0, 1, 2, 3, 4, 10, 8, 5, 6, 7] (by decide) (st_star_o (st_some_o (mv4 (st_star_o (st_some_o (mv1 h)))))))) (q_y z z z z h56 (o_mv z) (q_y z z z z h56 (o_nc z) (q_y z z z z h56 (o_fa fa92_0 z) (q_y z z z z h56 (o_ld 7 sc3 z z z) (q_y z z z z h56 (o_bin z z (bI_le r54 (i64 (ra2.1.toNat : Int)))) (q_u z z (o_pt z h56 z) (q_mv z z z (q_n z z z z h58 (q_n z z z z h58 (q_n z z z z h58 (q_n z z z z h58 (q_n z z z z h58 (q_n z z z z h58 (q_n z z z z h58 (q_n z z z z h58 (q_u z z (o_pf z h58 z) (q_mv z z z (q_n z z z z z (q_n z z z z z (q_n z z z z z (q_n z z z z z (q_n z z z z z (q_n z z z z z (q_n z z z z z (q_n z z z z z (q_u z z (o_pf z z z) qn)))))))))))))))))))))))))))))))))))))))))))))))))))) ?_ (nxt z)
  refine ec (eo_c z (s_w (o_callL ca89 z (As.ok b0_ ra36.2 false (Sum.inl ra80) hr78) (fun _ _ _ h => h))) ?_) en
  refine stage z z z z mk12_ [] [] z z z qn en ?_
  intro _
  refine ex_sub (E' := [(3, pt b6 0)]) ⟨z, trivial⟩ ?_
  refine x_seq (csr ?_)
  refine r_mv z (r_as z ?_)
  refine r_nil (x_seq (c_ret ?_))
  refine ex_st (fun _ h => mv10 (mv10 (mv10 h))) ?_
  refine ex_st (fun _ h => st_some (f := Aj.op g21) (a := x22) (st_star_f (A := Aj.fl b23 x22 g21) h)) ?_
  refine ex_st (fun _ h => mv6 (mv6 (mv6 (mv6 (mv6 h))))) ?_
  refine ex_st (fun _ h => st_some (f := Ae.op g42) (a := x44) (st_star_f (A := Ae.fl b45 x44 g42) h)) ?_
  refine ex_st (fun _ h => mv4 (mv1 h)) ?_
  refine ex_st (fun _ h => st_some (f := Ak.op (⟨(pt b23 0, g21), (pt b45 0, g42)⟩ : Ak.G)) (a := (⟨i64 (ra2.1.toNat : Int), (some x22), (some x44)⟩ : Ak)) (st_star_f (A := Ak.fl b6 (⟨i64 (ra2.1.toNat : Int), (some x22), (some x44)⟩ : Ak) (⟨(pt b23 0, g21), (pt b45 0, g42)⟩ : Ak.G)) h)) ?_
  obtain rfl := si hm83
  refine ex_st (fun _ h => st_pk 3 [0, 1] (by decide) h) ?_
  exact x_r1 z (rv_t z) (Le.refl _) (.inl ⟨_, z, _, z, (pt b6 0, (⟨(pt b23 0, g21), (pt b45 0, g42)⟩ : Ak.G)), z, z, z⟩)
 have hm59 := ift hm57 h58
 clear hm57
 obtain ⟨r60, hr60, hm61⟩ := bs hm59
 clear hm59
 refine cd_by (decide (r60 ≤ ((AB (i64 (ra2.1.toNat : Int))).Window))) (fun h62 => ?_) fun h62 => ?_
 ·have hm63 := ift hm61 h62
  clear hm61
  obtain ⟨r64, hr64, hm65⟩ := bs hm63
  clear hm63
  obtain ⟨r66, hr66, hm67⟩ := ltx hm65
  clear hm65
  rcases r66 with ra68 | ⟨rn69, ro70⟩
  rotate_left
  ·have hm71 := sm_r hm67
   clear hm67
   refine c_any mixed (effs := [52]) (V := []) ?_
   refine stage_st (fun _ h => mv7 h) ?_
   refine stage_ext [(0, pt b0_ 0), (1, pt b6 0), (2, pt b6 0), (3, pt b6 2), (4, pt b45 0), (5, vI (Ao x44)), (6, vB ((Ao x44) == 3)), (7, vB ((Ao x44) == 3)), (8, pt b6 0), (9, pt b6 0), (10, pt b6 2), (11, pt b45 0), (12, vI (Am x44)), (13, pt b6 0), (14, vI r54), (15, vI (i64 ((Am x44) + r54))), (16, pt b6 0), (17, pt b6 0), (18, pt b6 0), (19, vI (i64 (ra2.1.toNat : Int))), (20, vI (i64 ((i64 (ra2.1.toNat : Int)) + 1))), (21, vB ((i64 ((Am x44) + r54)) == (i64 ((i64 (ra2.1.toNat : Int)) + 1)))), (22, vB ((i64 ((Am x44) + r54)) == (i64 ((i64 (ra2.1.toNat : Int)) + 1)))), (23, vB ((i64 ((Am x44) + r54)) == (i64 ((i64 (ra2.1.toNat : Int)) + 1)))), (24, pt b6 0), (25, vI r54), (26, pt b6 0), (27, pt b6 0), (28, pt b6 0), (29, vI (i64 (ra2.1.toNat : Int))), (30, vB (decide (r54 ≤ (i64 (ra2.1.toNat : Int))))), (31, vB (decide (r54 ≤ (i64 (ra2.1.toNat : Int))))), (32, vB (decide (r54 ≤ (i64 (ra2.1.toNat : Int))))), (33, pt b6 0), (34, pt b6 0), (35, pt b6 2), (36, pt b45 0), (37, vI r60), (38, pt b43 0), (39, vI ((AB (i64 (ra2.1.toNat : Int))).Window)), (40, vB (decide (r60 ≤ ((AB (i64 (ra2.1.toNat : Int))).Window)))), (41, vB (decide (r60 ≤ ((AB (i64 (ra2.1.toNat : Int))).Window)))), (42, vB (decide (r60 ≤ ((AB (i64 (ra2.1.toNat : Int))).Window)))), (43, pt b6 0), (44, pt b6 0), (45, pt b6 2), (46, pt b45 0), (47, vI r64), (48, pt b43 1), (49, vI ((AB (i64 (ra2.1.toNat : Int))).Protected)), (50, vB (decide (r64 ≤ ((AB (i64 (ra2.1.toNat : Int))).Protected)))), (51, vB (decide (r64 ≤ ((AB (i64 (ra2.1.toNat : Int))).Protected))))] z ?_
   refine stage z z z z mk12_ [0, 1, 2, 3, 4, 5, 6, 7, 8, 9, 10, 11, 12, 13, 14, 15, 16, 17, 18, 19, 20, 21, 22, 23, 24, 25, 26, 27, 28, 29, 30, 31, 32, 33, 34, 35, 36, 37, 38, 39, 40, 41, 42, 43, 44, 45, 46, 47, 48, 49, 50, 51] [52] z z z (q_mv z z z (q_mv z z z (q_u z z (o_nc z) (q_fa z z fa92_2 z (q_ld z z 7 sc82 z z z (q_u z z (o_callqP ca120 z (Ao.ok b45 x44 g42 _ z) (fun _ h => st_pk 11 [1, 2, 3, 4, 5, 0, 6, 7, 8, 9, 10] (by decide) h) (fun _ h => st_pk 11 [5, 0, 1, 2, 3, 4, 6, 7, 8, 9, 10] (by decide) h)) (q_u z z (o_bin z z (bI_eq (Ao x44) 3)) (q_mv z z z (q_y z z z z h52 (o_mv z) (q_y z z z z h52 (o_nc z) (q_y z z z z h52 (o_fa fa92_2 z) (q_y z z z z h52 (o_ld 7 sc82 z z z) (q_y z z z z h52 (o_callqP ca119 z (Am.ok b45 x44 g42 _ z) (fun _ h => st_pk 11 [1, 2, 3, 4, 5, 0, 6, 7, 8, 9, 10] (by decide) h) (fun _ h => st_pk 11 [5, 0, 1, 2, 3, 4, 6, 7, 8, 9, 10] (by decide) h)) (q_y z z z z h52 (o_mv z) (q_y z z z z h52 (o_callqP ca34 z (AI.ok b6 (⟨i64 (ra2.1.toNat : Int), (some x22), (some x44)⟩ : Ak) (⟨(pt b23 0, g21), (pt b45 0, g42)⟩ : Ak.G) r54 hr54) (fun _ h => mv4 (mv1 (st_some (f := Ae.op g42) (a := x44) (st_star_f (A := Ae.fl b45 x44 g42) (mv6 (mv6 (mv6 (mv6 (mv6 (st_some (f := Aj.op g21) (a := x22) (st_star_f (A := Aj.fl b23 x22 g21) (mv10 (mv10 (mv10 h)))))))))))))) (fun _ h => st_pk 11 [9, 0, 1, 2, 3, 4, 10, 8, 5, 6, 7] (by decide) (st_star_o (st_some_o (mv4 (st_star_o (st_some_o (mv1 h)))))))) (q_y z z z z h52 (o_bin z z (bI_add (Am x44) r54)) (q_y z z z z h52 (o_mv z) (q_y z z z z h52 (o_nc z) (q_y z z z z h52 (o_fa fa92_0 z) (q_y z z z z h52 (o_ld 7 sc3 z z z) (q_y z z z z h52 (o_bin z z (bI_add (i64 (ra2.1.toNat : Int)) 1)) (q_y z z z z h52 (o_bin z z (bI_eq (i64 ((Am x44) + r54)) (i64 ((i64 (ra2.1.toNat : Int)) + 1)))) (q_u z z (o_pt z h52 z) (q_mv z z z (q_y z z z z h56 (o_mv z) (q_y z z z z h56 (o_callqP ca34 z (AI.ok b6 (⟨i64 (ra2.1.toNat : Int), (some x22), (some x44)⟩ : Ak) (⟨(pt b23 0, g21), (pt b45 0, g42)⟩ : Ak.G) r54 hr54) (fun _ h => mv4 (mv1 (st_some (f := Ae.op g42) (a := x44) (st_star_f (A := Ae.fl b45 x44 g42) (mv6 (mv6 (mv6 (mv6 (mv6 (st_some (f := Aj.op g21) (a := x22) (st_star_f (A := Aj.fl b23 x22 g21) (mv10 (mv10 (mv10 h)))))))))))))) (fun _ h => st_pk 11 [9, 0, 1, 2, 3, 4, 10, 8, 5, 6, 7] (by decide) (st_star_o (st_some_o (mv4 (st_star_o (st_some_o (mv1 h)))))))) (q_y z z z z h56 (o_mv z) (q_y z z z z h56 (o_nc z) (q_y z z z z h56 (o_fa fa92_0 z) (q_y z z z z h56 (o_ld 7 sc3 z z z) (q_y z z z z h56 (o_bin z z (bI_le r54 (i64 (ra2.1.toNat : Int)))) (q_u z z (o_pt z h56 z) (q_mv z z z (q_y z z z z h58 (o_mv z) (q_y z z z z h58 (o_nc z) (q_y z z z z h58 (o_fa fa92_2 z) (q_y z z z z h58 (o_ld 7 sc82 z z z) (q_y z z z z h58 (o_callqP ca73 z (Aq.ok b45 x44 g42 0 r60 hr60) (fun _ h => st_pk 11 [1, 2, 3, 4, 5, 0, 6, 7, 8, 9, 10] (by decide) h) (fun _ h => st_pk 11 [5, 0, 1, 2, 3, 4, 6, 7, 8, 9, 10] (by decide) h)) (q_y z z z z h58 (o_fa fa127_0 z) (q_y z z z z h58 (o_ld 6 sc3 z z z) (q_y z z z z h58 (o_bin z z (bI_le r60 ((AB (i64 (ra2.1.toNat : Int))).Window))) (q_u z z (o_pt z h58 z) (q_mv z z z (q_y z z z z h62 (o_mv z) (q_y z z z z h62 (o_nc z) (q_y z z z z h62 (o_fa fa92_2 z) (q_y z z z z h62 (o_ld 7 sc82 z z z) (q_y z z z z h62 (o_callqP ca73 z (Aq.ok b45 x44 g42 2 r64 hr64) (fun _ h => st_pk 11 [1, 2, 3, 4, 5, 0, 6, 7, 8, 9, 10] (by decide) h) (fun _ h => st_pk 11 [5, 0, 1, 2, 3, 4, 6, 7, 8, 9, 10] (by decide) h)) (q_y z z z z h62 (o_fa fa127_1 z) (q_y z z z z h62 (o_ld 6 sc3 z z z) (q_y z z z z h62 (o_bin z z (bI_le r64 ((AB (i64 (ra2.1.toNat : Int))).Protected))) (q_u z z (o_pt z h62 z) qn)))))))))))))))))))))))))))))))))))))))))))))))))))) ?_ (nxt z)
   obtain rfl := si hm71
   exact ec (eo_w z (s_w (o_callR ca89 z (As.ok b0_ ra36.2 (decide (r64 ≤ ((AB (i64 (ra2.1.toNat : Int))).Protected))) (Sum.inr (rn69, ro70)) hr66) (by rintro _ _ _ ⟨rfl, rfl⟩; exact (px_st (fun _ h => st_pk 11 [0] (by decide) h) (px_of (Le.refl _) (.inr ⟨_, z, _, z, z, z⟩)))))) (fun _ _ _ _ h => h.elim)) en
  have hm71 := sm_l hm67
  clear hm67
  refine c_any mixed (effs := [52]) (V := []) ?_
  refine stage_st (fun _ h => mv7 h) ?_
  refine stage_ext [(0, pt b0_ 0), (1, pt b6 0), (2, pt b6 0), (3, pt b6 2), (4, pt b45 0), (5, vI (Ao x44)), (6, vB ((Ao x44) == 3)), (7, vB ((Ao x44) == 3)), (8, pt b6 0), (9, pt b6 0), (10, pt b6 2), (11, pt b45 0), (12, vI (Am x44)), (13, pt b6 0), (14, vI r54), (15, vI (i64 ((Am x44) + r54))), (16, pt b6 0), (17, pt b6 0), (18, pt b6 0), (19, vI (i64 (ra2.1.toNat : Int))), (20, vI (i64 ((i64 (ra2.1.toNat : Int)) + 1))), (21, vB ((i64 ((Am x44) + r54)) == (i64 ((i64 (ra2.1.toNat : Int)) + 1)))), (22, vB ((i64 ((Am x44) + r54)) == (i64 ((i64 (ra2.1.toNat : Int)) + 1)))), (23, vB ((i64 ((Am x44) + r54)) == (i64 ((i64 (ra2.1.toNat : Int)) + 1)))), (24, pt b6 0), (25, vI r54), (26, pt b6 0), (27, pt b6 0), (28, pt b6 0), (29, vI (i64 (ra2.1.toNat : Int))), (30, vB (decide (r54 ≤ (i64 (ra2.1.toNat : Int))))), (31, vB (decide (r54 ≤ (i64 (ra2.1.toNat : Int))))), (32, vB (decide (r54 ≤ (i64 (ra2.1.toNat : Int))))), (33, pt b6 0), (34, pt b6 0), (35, pt b6 2), (36, pt b45 0), (37, vI r60), (38, pt b43 0), (39, vI ((AB (i64 (ra2.1.toNat : Int))).Window)), (40, vB (decide (r60 ≤ ((AB (i64 (ra2.1.toNat : Int))).Window)))), (41, vB (decide (r60 ≤ ((AB (i64 (ra2.1.toNat : Int))).Window)))), (42, vB (decide (r60 ≤ ((AB (i64 (ra2.1.toNat : Int))).Window)))), (43, pt b6 0), (44, pt b6 0), (45, pt b6 2), (46, pt b45 0), (47, vI r64), (48, pt b43 1), (49, vI ((AB (i64 (ra2.1.toNat : Int))).Protected)), (50, vB (decide (r64 ≤ ((AB (i64 (ra2.1.toNat : Int))).Protected)))), (51, vB (decide (r64 ≤ ((AB (i64 (ra2.1.toNat : Int))).Protected))))] z ?_
  refine stage z z z z mk12_ [0, 1, 2, 3, 4, 5, 6, 7, 8, 9, 10, 11, 12, 13, 14, 15, 16, 17, 18, 19, 20, 21, 22, 23, 24, 25, 26, 27, 28, 29, 30, 31, 32, 33, 34, 35, 36, 37, 38, 39, 40, 41, 42, 43, 44, 45, 46, 47, 48, 49, 50, 51] [52] z z z (q_mv z z z (q_mv z z z (q_u z z (o_nc z) (q_fa z z fa92_2 z (q_ld z z 7 sc82 z z z (q_u z z (o_callqP ca120 z (Ao.ok b45 x44 g42 _ z) (fun _ h => st_pk 11 [1, 2, 3, 4, 5, 0, 6, 7, 8, 9, 10] (by decide) h) (fun _ h => st_pk 11 [5, 0, 1, 2, 3, 4, 6, 7, 8, 9, 10] (by decide) h)) (q_u z z (o_bin z z (bI_eq (Ao x44) 3)) (q_mv z z z (q_y z z z z h52 (o_mv z) (q_y z z z z h52 (o_nc z) (q_y z z z z h52 (o_fa fa92_2 z) (q_y z z z z h52 (o_ld 7 sc82 z z z) (q_y z z z z h52 (o_callqP ca119 z (Am.ok b45 x44 g42 _ z) (fun _ h => st_pk 11 [1, 2, 3, 4, 5, 0, 6, 7, 8, 9, 10] (by decide) h) (fun _ h => st_pk 11 [5, 0, 1, 2, 3, 4, 6, 7, 8, 9, 10] (by decide) h)) (q_y z z z z h52 (o_mv z) (q_y z z z z h52 (o_callqP ca34 z (AI.ok b6 (⟨i64 (ra2.1.toNat : Int), (some x22), (some x44)⟩ : Ak) (⟨(pt b23 0, g21), (pt b45 0, g42)⟩ : Ak.G) r54 hr54) (fun _ h => mv4 (mv1 (st_some (f := Ae.op g42) (a := x44) (st_star_f (A := Ae.fl b45 x44 g42) (mv6 (mv6 (mv6 (mv6 (mv6 (st_some (f := Aj.op g21) (a := x22) (st_star_f (A := Aj.fl b23 x22 g21) (mv10 (mv10 (mv10 h)))))))))))))) (fun _ h => st_pk 11 [9, 0, 1, 2, 3, 4, 10, 8, 5, 6, 7] (by decide) (st_star_o (st_some_o (mv4 (st_star_o (st_some_o (mv1 h)))))))) (q_y z z z z h52 (o_bin z z (bI_add (Am x44) r54)) (q_y z z z z h52 (o_mv z) (q_y z z z z h52 (o_nc z) (q_y z z z z h52 (o_fa fa92_0 z) (q_y z z z z h52 (o_ld 7 sc3 z z z) (q_y z z z z h52 (o_bin z z (bI_add (i64 (ra2.1.toNat : Int)) 1)) (q_y z z z z h52 (o_bin z z (bI_eq (i64 ((Am x44) + r54)) (i64 ((i64 (ra2.1.toNat : Int)) + 1)))) (q_u z z (o_pt z h52 z) (q_mv z z z (q_y z z z z h56 (o_mv z) (q_y z z z z h56 (o_callqP ca34 z (AI.ok b6 (⟨i64 (ra2.1.toNat : Int), (some x22), (some x44)⟩ : Ak) (⟨(pt b23 0, g21), (pt b45 0, g42)⟩ : Ak.G) r54 hr54) (fun _ h => mv4 (mv1 (st_some (f := Ae.op g42) (a := x44) (st_star_f (A := Ae.fl b45 x44 g42) (mv6 (mv6 (mv6 (mv6 (mv6 (st_some (f := Aj.op g21) (a := x22) (st_star_f (A := Aj.fl b23 x22 g21) (mv10 (mv10 (mv10 h)))))))))))))) (fun _ h => st_pk 11 [9, 0, 1, 2, 3, 4, 10, 8, 5, 6, 7] (by decide) (st_star_o (st_some_o (mv4 (st_star_o (st_some_o (mv1 h)))))))) (q_y z z z z h56 (o_mv z) (q_y z z z z h56 (o_nc z) (q_y z z z z h56 (o_fa fa92_0 z) (q_y z z z z h56 (o_ld 7 sc3 z z z) (q_y z z z z h56 (o_bin z z (bI_le r54 (i64 (ra2.1.toNat : Int)))) (q_u z z (o_pt z h56 z) (q_mv z z z (q_y z z z z h58 (o_mv z) (q_y z z z z h58 (o_nc z) (q_y z z z z h58 (o_fa fa92_2 z) (q_y z z z z h58 (o_ld 7 sc82 z z z) (q_y z z z z h58 (o_callqP ca73 z (Aq.ok b45 x44 g42 0 r60 hr60) (fun _ h => st_pk 11 [1, 2, 3, 4, 5, 0, 6, 7, 8, 9, 10] (by decide) h) (fun _ h => st_pk 11 [5, 0, 1, 2, 3, 4, 6, 7, 8, 9, 10] (by decide) h)) (q_y z z z z h58 (o_fa fa127_0 z) (q_y z z z z h58 (o_ld 6 sc3 z z z) (q_y z z z z h58 (o_bin z z (bI_le r60 ((AB (i64 (ra2.1.toNat : Int))).Window))) (q_u z z (o_pt z h58 z) (q_mv z z z (q_y z z z z h62 (o_mv z) (q_y z z z z h62 (o_nc z) (q_y z z z z h62 (o_fa fa92_2 z) (q_y z z z z h62 (o_ld 7 sc82 z z z) (q_y z z z z h62 (o_callqP ca73 z (Aq.ok b45 x44 g42 2 r64 hr64) (fun _ h => st_pk 11 [1, 2, 3, 4, 5, 0, 6, 7, 8, 9, 10] (by decide) h) (fun _ h => st_pk 11 [5, 0, 1, 2, 3, 4, 6, 7, 8, 9, 10] (by decide) h)) (q_y z z z z h62 (o_fa fa127_1 z) (q_y z z z z h62 (o_ld 6 sc3 z z z) (q_y z z z z h62 (o_bin z z (bI_le r64 ((AB (i64 (ra2.1.toNat : Int))).Protected))) (q_u z z (o_pt z h62 z) qn)))))))))))))))))))))))))))))))))))))))))))))))))))) ?_ (nxt z)
  refine ec (eo_c z (s_w (o_callL ca89 z (As.ok b0_ ra36.2 (decide (r64 ≤ ((AB (i64 (ra2.1.toNat : Int))).Protected))) (Sum.inl ra68) hr66) (fun _ _ _ h => h))) ?_) en
  refine stage z z z z mk12_ [] [] z z z qn en ?_
  intro _
  refine ex_sub (E' := [(3, pt b6 0)]) ⟨z, trivial⟩ ?_
  refine x_seq (csr ?_)
  refine r_mv z (r_as z ?_)
  refine r_nil (x_seq (c_ret ?_))
  refine ex_st (fun _ h => mv10 (mv10 (mv10 h))) ?_
  refine ex_st (fun _ h => st_some (f := Aj.op g21) (a := x22) (st_star_f (A := Aj.fl b23 x22 g21) h)) ?_
  refine ex_st (fun _ h => mv6 (mv6 (mv6 (mv6 (mv6 h))))) ?_
  refine ex_st (fun _ h => st_some (f := Ae.op g42) (a := x44) (st_star_f (A := Ae.fl b45 x44 g42) h)) ?_
  refine ex_st (fun _ h => mv4 (mv1 h)) ?_
  refine ex_st (fun _ h => st_some (f := Ak.op (⟨(pt b23 0, g21), (pt b45 0, g42)⟩ : Ak.G)) (a := (⟨i64 (ra2.1.toNat : Int), (some x22), (some x44)⟩ : Ak)) (st_star_f (A := Ak.fl b6 (⟨i64 (ra2.1.toNat : Int), (some x22), (some x44)⟩ : Ak) (⟨(pt b23 0, g21), (pt b45 0, g42)⟩ : Ak.G)) h)) ?_
  obtain rfl := si hm71
  refine ex_st (fun _ h => st_pk 3 [0, 1] (by decide) h) ?_
  exact x_r1 z (rv_t z) (Le.refl _) (.inl ⟨_, z, _, z, (pt b6 0, (⟨(pt b23 0, g21), (pt b45 0, g42)⟩ : Ak.G)), z, z, z⟩)
 have hm63 := iff_ hm61 h62
 clear hm61
 obtain ⟨r72, hr72, hm73⟩ := ltx hm63
 clear hm63
 rcases r72 with ra74 | ⟨rn75, ro76⟩
 rotate_left
 ·have hm77 := sm_r hm73
  clear hm73
  refine c_any mixed (effs := [52]) (V := []) ?_
  refine stage_st (fun _ h => mv7 h) ?_
  refine stage_ext [(0, pt b0_ 0), (1, pt b6 0), (2, pt b6 0), (3, pt b6 2), (4, pt b45 0), (5, vI (Ao x44)), (6, vB ((Ao x44) == 3)), (7, vB ((Ao x44) == 3)), (8, pt b6 0), (9, pt b6 0), (10, pt b6 2), (11, pt b45 0), (12, vI (Am x44)), (13, pt b6 0), (14, vI r54), (15, vI (i64 ((Am x44) + r54))), (16, pt b6 0), (17, pt b6 0), (18, pt b6 0), (19, vI (i64 (ra2.1.toNat : Int))), (20, vI (i64 ((i64 (ra2.1.toNat : Int)) + 1))), (21, vB ((i64 ((Am x44) + r54)) == (i64 ((i64 (ra2.1.toNat : Int)) + 1)))), (22, vB ((i64 ((Am x44) + r54)) == (i64 ((i64 (ra2.1.toNat : Int)) + 1)))), (23, vB ((i64 ((Am x44) + r54)) == (i64 ((i64 (ra2.1.toNat : Int)) + 1)))), (24, pt b6 0), (25, vI r54), (26, pt b6 0), (27, pt b6 0), (28, pt b6 0), (29, vI (i64 (ra2.1.toNat : Int))), (30, vB (decide (r54 ≤ (i64 (ra2.1.toNat : Int))))), (31, vB (decide (r54 ≤ (i64 (ra2.1.toNat : Int))))), (32, vB (decide (r54 ≤ (i64 (ra2.1.toNat : Int))))), (33, pt b6 0), (34, pt b6 0), (35, pt b6 2), (36, pt b45 0), (37, vI r60), (38, pt b43 0), (39, vI ((AB (i64 (ra2.1.toNat : Int))).Window)), (40, vB (decide (r60 ≤ ((AB (i64 (ra2.1.toNat : Int))).Window)))), (41, vB (decide (r60 ≤ ((AB (i64 (ra2.1.toNat : Int))).Window)))), (42, vB (decide (r60 ≤ ((AB (i64 (ra2.1.toNat : Int))).Window)))), (43, undef), (44, undef), (45, undef), (46, undef), (47, undef), (48, undef), (49, undef), (50, undef), (51, vB false)] z ?_
  refine stage z z z z mk12_ [0, 1, 2, 3, 4, 5, 6, 7, 8, 9, 10, 11, 12, 13, 14, 15, 16, 17, 18, 19, 20, 21, 22, 23, 24, 25, 26, 27, 28, 29, 30, 31, 32, 33, 34, 35, 36, 37, 38, 39, 40, 41, 42, 43, 44, 45, 46, 47, 48, 49, 50, 51] [52] z z z (q_mv z z z (q_mv z z z (q_u z z (o_nc z) (q_fa z z fa92_2 z (q_ld z z 7 sc82 z z z (q_u z z (o_callqP ca120 z (Ao.ok b45 x44 g42 _ z) (fun _ h => st_pk 11 [1, 2, 3, 4, 5, 0, 6, 7, 8, 9, 10] (by decide) h) (fun _ h => st_pk 11 [5, 0, 1, 2, 3, 4, 6, 7, 8, 9, 10] (by decide) h)) (q_u z z (o_bin z z (bI_eq (Ao x44) 3)) (q_mv z z z (q_y z z z z h52 (o_mv z) (q_y z z z z h52 (o_nc z) (q_y z z z z h52 (o_fa fa92_2 z) (q_y z z z z h52 (o_ld 7 sc82 z z z) (q_y z z z z h52 (o_callqP ca119 z (Am.ok b45 x44 g42 _ z) (fun _ h => st_pk 11 [1, 2, 3, 4, 5, 0, 6, 7, 8, 9, 10] (by decide) h) (fun _ h => st_pk 11 [5, 0, 1, 2, 3, 4, 6, 7, 8, 9, 10] (by decide) h)) (q_y z z z z h52 (o_mv z) (q_y z z z z h52 (o_callqP ca34 z (AI.ok b6 (⟨i64 (ra2.1.toNat : Int), (some x22), (some x44)⟩ : Ak) (⟨(pt b23 0, g21), (pt b45 0, g42)⟩ : Ak.G) r54 hr54) (fun _ h => mv4 (mv1 (st_some (f := Ae.op g42) (a := x44) (st_star_f (A := Ae.fl b45 x44 g42) (mv6 (mv6 (mv6 (mv6 (mv6 (st_some (f := Aj.op g21) (a := x22) (st_star_f (A := Aj.fl b23 x22 g21) (mv10 (mv10 (mv10 h)))))))))))))) (fun _ h => st_pk 11 [9, 0, 1, 2, 3, 4, 10, 8, 5, 6, 7] (by decide) (st_star_o (st_some_o (mv4 (st_star_o (st_some_o (mv1 h)))))))) (q_y z z z z h52 (o_bin z z (bI_add (Am x44) r54)) (q_y z z z z h52 (o_mv z) (q_y z z z z h52 (o_nc z) (q_y z z z z h52 (o_fa fa92_0 z) (q_y z z z z h52 (o_ld 7 sc3 z z z) (q_y z z z z h52 (o_bin z z (bI_add (i64 (ra2.1.toNat : Int)) 1)) (q_y z z z z h52 (o_bin z z (bI_eq (i64 ((Am x44) + r54)) (i64 ((i64 (ra2.1.toNat : Int)) + 1)))) (q_u z z (o_pt z h52 z) (q_mv z z z (q_y z z z z h56 (o_mv z) (q_y z z z z h56 (o_callqP ca34 z (AI.ok b6 (⟨i64 (ra2.1.toNat : Int), (some x22), (some x44)⟩ : Ak) (⟨(pt b23 0, g21), (pt b45 0, g42)⟩ : Ak.G) r54 hr54) (fun _ h => mv4 (mv1 (st_some (f := Ae.op g42) (a := x44) (st_star_f (A := Ae.fl b45 x44 g42) (mv6 (mv6 (mv6 (mv6 (mv6 (st_some (f := Aj.op g21) (a := x22) (st_star_f (A := Aj.fl b23 x22 g21) (mv10 (mv10 (mv10 h)))))))))))))) (fun _ h => st_pk 11 [9, 0, 1, 2, 3, 4, 10, 8, 5, 6, 7] (by decide) (st_star_o (st_some_o (mv4 (st_star_o (st_some_o (mv1 h)))))))) (q_y z z z z h56 (o_mv z) (q_y z z z z h56 (o_nc z) (q_y z z z z h56 (o_fa fa92_0 z) (q_y z z z z h56 (o_ld 7 sc3 z z z) (q_y z z z z h56 (o_bin z z (bI_le r54 (i64 (ra2.1.toNat : Int)))) (q_u z z (o_pt z h56 z) (q_mv z z z (q_y z z z z h58 (o_mv z) (q_y z z z z h58 (o_nc z) (q_y z z z z h58 (o_fa fa92_2 z) (q_y z z z z h58 (o_ld 7 sc82 z z z) (q_y z z z z h58 (o_callqP ca73 z (Aq.ok b45 x44 g42 0 r60 hr60) (fun _ h => st_pk 11 [1, 2, 3, 4, 5, 0, 6, 7, 8, 9, 10] (by decide) h) (fun _ h => st_pk 11 [5, 0, 1, 2, 3, 4, 6, 7, 8, 9, 10] (by decide) h)) (q_y z z z z h58 (o_fa fa127_0 z) (q_y z z z z h58 (o_ld 6 sc3 z z z) (q_y z z z z h58 (o_bin z z (bI_le r60 ((AB (i64 (ra2.1.toNat : Int))).Window))) (q_u z z (o_pt z h58 z) (q_mv z z z (q_n z z z z h62 (q_n z z z z h62 (q_n z z z z h62 (q_n z z z z h62 (q_n z z z z h62 (q_n z z z z h62 (q_n z z z z h62 (q_n z z z z h62 (q_u z z (o_pf z h62 z) qn)))))))))))))))))))))))))))))))))))))))))))))))))))) ?_ (nxt z)
  obtain rfl := si hm77
  exact ec (eo_w z (s_w (o_callR ca89 z (As.ok b0_ ra36.2 false (Sum.inr (rn75, ro76)) hr72) (by rintro _ _ _ ⟨rfl, rfl⟩; exact (px_st (fun _ h => st_pk 11 [0] (by decide) h) (px_of (Le.refl _) (.inr ⟨_, z, _, z, z, z⟩)))))) (fun _ _ _ _ h => h.elim)) en
 have hm77 := sm_l hm73
 clear hm73
 refine c_any mixed (effs := [52]) (V := []) ?_
 refine stage_st (fun _ h => mv7 h) ?_
 refine stage_ext [(0, pt b0_ 0), (1, pt b6 0), (2, pt b6 0), (3, pt b6 2), (4, pt b45 0), (5, vI (Ao x44)), (6, vB ((Ao x44) == 3)), (7, vB ((Ao x44) == 3)), (8, pt b6 0), (9, pt b6 0), (10, pt b6 2), (11, pt b45 0), (12, vI (Am x44)), (13, pt b6 0), (14, vI r54), (15, vI (i64 ((Am x44) + r54))), (16, pt b6 0), (17, pt b6 0), (18, pt b6 0), (19, vI (i64 (ra2.1.toNat : Int))), (20, vI (i64 ((i64 (ra2.1.toNat : Int)) + 1))), (21, vB ((i64 ((Am x44) + r54)) == (i64 ((i64 (ra2.1.toNat : Int)) + 1)))), (22, vB ((i64 ((Am x44) + r54)) == (i64 ((i64 (ra2.1.toNat : Int)) + 1)))), (23, vB ((i64 ((Am x44) + r54)) == (i64 ((i64 (ra2.1.toNat : Int)) + 1)))), (24, pt b6 0), (25, vI r54), (26, pt b6 0), (27, pt b6 0), (28, pt b6 0), (29, vI (i64 (ra2.1.toNat : Int))), (30, vB (decide (r54 ≤ (i64 (ra2.1.toNat : Int))))), (31, vB (decide (r54 ≤ (i64 (ra2.1.toNat : Int))))), (32, vB (decide (r54 ≤ (i64 (ra2.1.toNat : Int))))), (33, pt b6 0), (34, pt b6 0), (35, pt b6 2), (36, pt b45 0), (37, vI r60), (38, pt b43 0), (39, vI ((AB (i64 (ra2.1.toNat : Int))).Window)), (40, vB (decide (r60 ≤ ((AB (i64 (ra2.1.toNat : Int))).Window)))), (41, vB (decide (r60 ≤ ((AB (i64 (ra2.1.toNat : Int))).Window)))), (42, vB (decide (r60 ≤ ((AB (i64 (ra2.1.toNat : Int))).Window)))), (43, undef), (44, undef), (45, undef), (46, undef), (47, undef), (48, undef), (49, undef), (50, undef), (51, vB false)] z ?_
 refine stage z z z z mk12_ [0, 1, 2, 3, 4, 5, 6, 7, 8, 9, 10, 11, 12, 13, 14, 15, 16, 17, 18, 19, 20, 21, 22, 23, 24, 25, 26, 27, 28, 29, 30, 31, 32, 33, 34, 35, 36, 37, 38, 39, 40, 41, 42, 43, 44, 45, 46, 47, 48, 49, 50, 51] [52] z z z (q_mv z z z (q_mv z z z (q_u z z (o_nc z) (q_fa z z fa92_2 z (q_ld z z 7 sc82 z z z (q_u z z (o_callqP ca120 z (Ao.ok b45 x44 g42 _ z) (fun _ h => st_pk 11 [1, 2, 3, 4, 5, 0, 6, 7, 8, 9, 10] (by decide) h) (fun _ h => st_pk 11 [5, 0, 1, 2, 3, 4, 6, 7, 8, 9, 10] (by decide) h)) (q_u z z (o_bin z z (bI_eq (Ao x44) 3)) (q_mv z z z (q_y z z z z h52 (o_mv z) (q_y z z z z h52 (o_nc z) (q_y z z z z h52 (o_fa fa92_2 z) (q_y z z z z h52 (o_ld 7 sc82 z z z) (q_y z z z z h52 (o_callqP ca119 z (Am.ok b45 x44 g42 _ z) (fun _ h => st_pk 11 [1, 2, 3, 4, 5, 0, 6, 7, 8, 9, 10] (by decide) h) (fun _ h => st_pk 11 [5, 0, 1, 2, 3, 4, 6, 7, 8, 9, 10] (by decide) h)) (q_y z z z z h52 (o_mv z) (q_y z z z z h52 (o_callqP ca34 z (AI.ok b6 (⟨i64 (ra2.1.toNat : Int), (some x22), (some x44)⟩ : Ak) (⟨(pt b23 0, g21), (pt b45 0, g42)⟩ : Ak.G) r54 hr54) (fun _ h => mv4 (mv1 (st_some (f := Ae.op g42) (a := x44) (st_star_f (A := Ae.fl b45 x44 g42) (mv6 (mv6 (mv6 (mv6 (mv6 (st_some (f := Aj.op g21) (a := x22) (st_star_f (A := Aj.fl b23 x22 g21) (mv10 (mv10 (mv10 h)))))))))))))) (fun _ h => st_pk 11 [9, 0, 1, 2, 3, 4, 10, 8, 5, 6, 7] (by decide) (st_star_o (st_some_o (mv4 (st_star_o (st_some_o (mv1 h)))))))) (q_y z z z z h52 (o_bin z z (bI_add (Am x44) r54)) (q_y z z z z h52 (o_mv z) (q_y z z z z h52 (o_nc z) (q_y z z z z h52 (o_fa fa92_0 z) (q_y z z z z h52 (o_ld 7 sc3 z z z) (q_y z z z z h52 (o_bin z z (bI_add (i64 (ra2.1.toNat : Int)) 1)) (q_y z z z z h52 (o_bin z z (bI_eq (i64 ((Am x44) + r54)) (i64 ((i64 (ra2.1.toNat : Int)) + 1)))) (q_u z z (o_pt z h52 z) (q_mv z z z (q_y z z z z h56 (o_mv z) (q_y z z z z h56 (o_callqP ca34 z (AI.ok b6 (⟨i64 (ra2.1.toNat : Int), (some x22), (some x44)⟩ : Ak) (⟨(pt b23 0, g21), (pt b45 0, g42)⟩ : Ak.G) r54 hr54) (fun _ h => mv4 (mv1 (st_some (f := Ae.op g42) (a := x44) (st_star_f (A := Ae.fl b45 x44 g42) (mv6 (mv6 (mv6 (mv6 (mv6 (st_some (f := Aj.op g21) (a := x22) (st_star_f (A := Aj.fl b23 x22 g21) (mv10 (mv10 (mv10 h)))))))))))))) (fun _ h => st_pk 11 [9, 0, 1, 2, 3, 4, 10, 8, 5, 6, 7] (by decide) (st_star_o (st_some_o (mv4 (st_star_o (st_some_o (mv1 h)))))))) (q_y z z z z h56 (o_mv z) (q_y z z z z h56 (o_nc z) (q_y z z z z h56 (o_fa fa92_0 z) (q_y z z z z h56 (o_ld 7 sc3 z z z) (q_y z z z z h56 (o_bin z z (bI_le r54 (i64 (ra2.1.toNat : Int)))) (q_u z z (o_pt z h56 z) (q_mv z z z (q_y z z z z h58 (o_mv z) (q_y z z z z h58 (o_nc z) (q_y z z z z h58 (o_fa fa92_2 z) (q_y z z z z h58 (o_ld 7 sc82 z z z) (q_y z z z z h58 (o_callqP ca73 z (Aq.ok b45 x44 g42 0 r60 hr60) (fun _ h => st_pk 11 [1, 2, 3, 4, 5, 0, 6, 7, 8, 9, 10] (by decide) h) (fun _ h => st_pk 11 [5, 0, 1, 2, 3, 4, 6, 7, 8, 9, 10] (by decide) h)) (q_y z z z z h58 (o_fa fa127_0 z) (q_y z z z z h58 (o_ld 6 sc3 z z z) (q_y z z z z h58 (o_bin z z (bI_le r60 ((AB (i64 (ra2.1.toNat : Int))).Window))) (q_u z z (o_pt z h58 z) (q_mv z z z (q_n z z z z h62 (q_n z z z z h62 (q_n z z z z h62 (q_n z z z z h62 (q_n z z z z h62 (q_n z z z z h62 (q_n z z z z h62 (q_n z z z z h62 (q_u z z (o_pf z h62 z) qn)))))))))))))))))))))))))))))))))))))))))))))))))))) ?_ (nxt z)
 refine ec (eo_c z (s_w (o_callL ca89 z (As.ok b0_ ra36.2 false (Sum.inl ra74) hr72) (fun _ _ _ h => h))) ?_) en
 refine stage z z z z mk12_ [] [] z z z qn en ?_
 intro _
 refine ex_sub (E' := [(3, pt b6 0)]) ⟨z, trivial⟩ ?_
 refine x_seq (csr ?_)
 refine r_mv z (r_as z ?_)
 refine r_nil (x_seq (c_ret ?_))
 refine ex_st (fun _ h => mv10 (mv10 (mv10 h))) ?_
 refine ex_st (fun _ h => st_some (f := Aj.op g21) (a := x22) (st_star_f (A := Aj.fl b23 x22 g21) h)) ?_
 refine ex_st (fun _ h => mv6 (mv6 (mv6 (mv6 (mv6 h))))) ?_
 refine ex_st (fun _ h => st_some (f := Ae.op g42) (a := x44) (st_star_f (A := Ae.fl b45 x44 g42) h)) ?_
 refine ex_st (fun _ h => mv4 (mv1 h)) ?_
 refine ex_st (fun _ h => st_some (f := Ak.op (⟨(pt b23 0, g21), (pt b45 0, g42)⟩ : Ak.G)) (a := (⟨i64 (ra2.1.toNat : Int), (some x22), (some x44)⟩ : Ak)) (st_star_f (A := Ak.fl b6 (⟨i64 (ra2.1.toNat : Int), (some x22), (some x44)⟩ : Ak) (⟨(pt b23 0, g21), (pt b45 0, g42)⟩ : Ak.G)) h)) ?_
 obtain rfl := si hm77
 refine ex_st (fun _ h => st_pk 3 [0, 1] (by decide) h) ?_
 exact x_r1 z (rv_t z) (Le.refl _) (.inl ⟨_, z, _, z, (pt b6 0, (⟨(pt b23 0, g21), (pt b45 0, g42)⟩ : Ak.G)), z, z, z⟩)
def CX (a0 : Ai) : Option ((Option Ab × Ai) ⊕ (Int × Ai)) :=
 (Ax a0 2).bind fun r0 => sm r0 (fun (ra2 : UInt64 × Ai) => if ((i64 (ra2.1.toNat : Int)) == 1) then (Dr ra2.2).bind fun r9 => sm r9 (fun (ra11 : Option Al × Ai) => some (Sum.inl ((some (⟨i64 (ra2.1.toNat : Int), ra11.1, none⟩ : Ab)), ra11.2))) fun ((rn12, ro13) : Int × Ai) => some (Sum.inr (rn12, ro13)) else if ((i64 (ra2.1.toNat : Int)) == 2) then (Dp ra2.2).bind fun r20 => sm r20 (fun (ra22 : Option Ak × Ai) => some (Sum.inl ((some (⟨i64 (ra2.1.toNat : Int), none, ra22.1⟩ : Ab)), ra22.2))) fun ((rn23, ro24) : Int × Ai) => some (Sum.inr (rn23, ro24)) else lt (As ra2.2 false) fun r29 => sm r29 (fun (ra31 : Unit) => some (Sum.inl ((some (⟨i64 (ra2.1.toNat : Int), none, none⟩ : Ab)), ra2.2))) fun ((rn32, ro33) : Int × Unit) => some (Sum.inr (rn32, ra2.2))) fun ((rn3, ro4) : Int × Ai) => some (Sum.inr (rn3, ro4))
theorem CX.ok {G R F} (b0_ : Nat) (a0 : Ai) (r : (Option Ab × Ai) ⊕ (Int × Ai)) (hm : CX a0 = some r) : CO Tryz.prog 48 [pt b0_ 0] G R (Bk b0_ 120 (Ai.c a0) :: F)
  (PK 118 r (fun (a : Option Ab × Ai) u R' L' => ∃ (p0 : Value × Ab.G), u = p0.1 ∧ R' = R ∧ L' = rO (Ab.op p0.2) p0.1 a.1 :: Bk b0_ 120 (Ai.c a.2) :: F) (fun n (o : Ai) R' L' => R' = R ∧ L' = Bk b0_ 120 (Ai.c o) :: F)) := by
 unfold CX at hm
 refine co_ofN (N := 30) Tryz.func48 z z ?_
 refine csr ?_
 refine r_as z ?_
 refine r_nil (x_seq (c_seq ?_))
 obtain ⟨r0, hr0, hm1⟩ := bs hm
 clear hm
 rcases r0 with ra2 | ⟨rn3, ro4⟩
 rotate_left
 ·have hm5 := sm_r hm1
  clear hm1
  refine c_reg ?_
  refine r_mv z ?_
  obtain rfl := si hm5
  exact r_sw (s_w (o_callR ca86 z (Ax.ok b0_ a0 2 (Sum.inr (rn3, ro4)) hr0) (by rintro _ _ _ ⟨rfl, rfl⟩; exact (px_st (fun _ h => st_pk 1 [0] (by decide) h) (px_of (Le.refl _) (.inr ⟨_, z, _, z, z, z⟩)))))) (fun _ _ _ _ h => h.elim)
 have hm5 := sm_l hm1
 clear hm1
 refine c_reg ?_
 refine r_mv z ?_
 refine r_c (s_w (o_callL ca86 z (Ax.ok b0_ a0 2 (Sum.inl ra2) hr0) (fun _ _ _ h => h))) ?_
 refine r_u (o_cv z (cWI Tryz.underlying27 Tryz.underlying3 ra2.1)) ?_
 refine r_u (o_bld [vI (i64 (ra2.1.toNat : Int)), nl, nl] z (fun _ => by kernel_rfl)) ?_
 refine r_new (o_bx [vI (i64 (ra2.1.toNat : Int)), nl, nl] z z) fun b6 => ?_
 refine r_as z ?_
 refine nssr ?_
 refine r_mv z (r_nc z (r_fa fa63_0 z (r_ld 0 sc3 z z z ?_)))
 refine r_nil (x_seq (c_blk (csr ?_)))
 refine r_bin z z (bI_eq (i64 (ra2.1.toNat : Int)) 1) (r_as z ?_)
 refine nsq ?_
 refine c_if (b := ((i64 (ra2.1.toNat : Int)) == 1)) z (fun h7 => ?_) fun h7 => ?_
 ·have hm8 := ift hm5 h7
  clear hm5
  obtain ⟨r9, hr9, hm10⟩ := bs hm8
  clear hm8
  rcases r9 with ra11 | ⟨rn12, ro13⟩
  rotate_left
  ·have hm14 := sm_r hm10
   clear hm10
   refine c_reg ?_
   refine r_mv z (r_mv z ?_)
   refine rl_st (fun _ h => mv1 h) ?_
   obtain rfl := si hm14
   exact r_sw (s_w (o_callR ca87 z (Dr.ok b0_ ra2.2 (Sum.inr (rn12, ro13)) hr9) (by rintro _ _ _ ⟨rfl, rfl⟩; exact (px_st (fun _ h => st_pk 2 [0] (by decide) h) (px_of (Le.refl _) (.inr ⟨_, z, _, z, z, z⟩)))))) (fun _ _ _ _ h => h.elim)
  have hm14 := sm_l hm10
  clear hm10
  refine c_reg ?_
  refine r_mv z (r_mv z ?_)
  refine rl_st (fun _ h => mv1 h) ?_
  refine r_sw (s_w (o_callL ca87 z (Dr.ok b0_ ra2.2 (Sum.inl ra11) hr9) (fun _ _ _ h => h))) ?_
  rintro pv16 R _ _ ⟨⟨_, g17⟩, rfl, rfl, rfl⟩
  refine r_nc z (r_fa fa63_1 z ?_)
  refine rl_st (fun _ h => mv2 h) ?_
  refine r_u0 (ou_if (one_p 1 z) fun ho0 => o_st sc60 z z z ho0 z z) ?_
  refine r_nil (x_blk (x_seq (csr ?_)))
  refine r_mv z (r_as z ?_)
  refine r_nil (x_seq (c_ret ?_))
  refine ex_st (fun _ h => st_none (f := Ak.op default) h) ?_
  refine ex_st (fun _ h => mv2 (mv2 h)) ?_
  refine ex_st (fun _ h => st_some (f := Ab.op (⟨(pv16, g17), (nl, default)⟩ : Ab.G)) (a := (⟨i64 (ra2.1.toNat : Int), ra11.1, none⟩ : Ab)) (st_star_f (A := Ab.fl b6 (⟨i64 (ra2.1.toNat : Int), ra11.1, none⟩ : Ab) (⟨(pv16, g17), (nl, default)⟩ : Ab.G)) h)) ?_
  obtain rfl := si hm14
  exact x_r1 z (rv_t z) (Le.refl _) (.inl ⟨_, z, _, z, (pt b6 0, (⟨(pv16, g17), (nl, default)⟩ : Ab.G)), z, z, z⟩)
 have hm8 := iff_ hm5 h7
 clear hm5
 refine csr ?_
 refine r_bin z z (bI_eq (i64 (ra2.1.toNat : Int)) 2) (r_as z ?_)
 refine nsq ?_
 refine c_if (b := ((i64 (ra2.1.toNat : Int)) == 2)) z (fun h18 => ?_) fun h18 => ?_
 ·have hm19 := ift hm8 h18
  clear hm8
  obtain ⟨r20, hr20, hm21⟩ := bs hm19
  clear hm19
  rcases r20 with ra22 | ⟨rn23, ro24⟩
  rotate_left
  ·have hm25 := sm_r hm21
   clear hm21
   refine c_reg ?_
   refine r_mv z (r_mv z ?_)
   refine rl_st (fun _ h => mv1 h) ?_
   obtain rfl := si hm25
   exact r_sw (s_w (o_callR ca88 z (Dp.ok b0_ ra2.2 (Sum.inr (rn23, ro24)) hr20) (by rintro _ _ _ ⟨rfl, rfl⟩; exact (px_st (fun _ h => st_pk 2 [0] (by decide) h) (px_of (Le.refl _) (.inr ⟨_, z, _, z, z, z⟩)))))) (fun _ _ _ _ h => h.elim)
  have hm25 := sm_l hm21
  clear hm21
  refine c_reg ?_
  refine r_mv z (r_mv z ?_)
  refine rl_st (fun _ h => mv1 h) ?_
  refine r_sw (s_w (o_callL ca88 z (Dp.ok b0_ ra2.2 (Sum.inl ra22) hr20) (fun _ _ _ h => h))) ?_
  rintro pv27 R _ _ ⟨⟨_, g28⟩, rfl, rfl, rfl⟩
  refine r_nc z (r_fa fa63_2 z ?_)
  refine rl_st (fun _ h => mv2 h) ?_
  refine r_u0 (ou_if (one_p 1 z) fun ho0 => o_st sc61 z z z ho0 z z) ?_
  refine r_nil (x_blk (x_seq (csr ?_)))
  refine r_mv z (r_as z ?_)
  refine r_nil (x_seq (c_ret ?_))
  refine ex_st (fun _ h => st_none (f := Al.op default) h) ?_
  refine ex_st (fun _ h => mv2 (mv1 (mv2 h))) ?_
  refine ex_st (fun _ h => st_some (f := Ab.op (⟨(nl, default), (pv27, g28)⟩ : Ab.G)) (a := (⟨i64 (ra2.1.toNat : Int), none, ra22.1⟩ : Ab)) (st_star_f (A := Ab.fl b6 (⟨i64 (ra2.1.toNat : Int), none, ra22.1⟩ : Ab) (⟨(nl, default), (pv27, g28)⟩ : Ab.G)) h)) ?_
  obtain rfl := si hm25
  exact x_r1 z (rv_t z) (Le.refl _) (.inl ⟨_, z, _, z, (pt b6 0, (⟨(nl, default), (pv27, g28)⟩ : Ab.G)), z, z, z⟩)
 have hm19 := iff_ hm8 h18
 clear hm8
 obtain ⟨r29, hr29, hm30⟩ := ltx hm19
 clear hm19
 rcases r29 with ra31 | ⟨rn32, ro33⟩
 ·have hm34 := sm_l hm30
  clear hm30
  refine c_reg ?_
  refine r_mv z ?_
  refine rl_st (fun _ h => mv1 h) ?_
  refine r_c (s_w (o_callL ca89 z (As.ok b0_ ra2.2 false (Sum.inl ra31) hr29) (fun _ _ _ h => h))) ?_
  refine r_nil (x_blk (x_seq (csr ?_)))
  refine r_mv z (r_as z ?_)
  refine r_nil (x_seq (c_ret ?_))
  refine ex_st (fun _ h => st_none (f := Al.op default) h) ?_
  refine ex_st (fun _ h => st_none (f := Ak.op default) h) ?_
  refine ex_st (fun _ h => mv3 (mv1 h)) ?_
  refine ex_st (fun _ h => st_some (f := Ab.op (⟨(nl, default), (nl , default)⟩ : Ab.G)) (a := (⟨i64 (ra2.1.toNat : Int), none, none⟩ : Ab)) (st_star_f (A := Ab.fl b6 (⟨i64 (ra2.1.toNat : Int), none, none⟩ : Ab) (⟨(nl, default), (nl , default)⟩ : Ab.G)) h)) ?_
  obtain rfl := si hm34
  exact x_r1 z (rv_t z) (Le.refl _) (.inl ⟨_, z, _, z, (pt b6 0, (⟨(nl, default), (nl , default)⟩ : Ab.G)), z, z, z⟩)
 have hm34 := sm_r hm30
 clear hm30
 refine c_reg ?_
 refine r_mv z ?_
 refine rl_st (fun _ h => mv1 h) ?_
 obtain rfl := si hm34
 exact r_sw (s_w (o_callR ca89 z (As.ok b0_ ra2.2 false (Sum.inr (rn32, ro33)) hr29) (by rintro _ _ _ ⟨rfl, rfl⟩; exact (px_st (fun _ h => st_pk 2 [0] (by decide) h) (px_of (Le.refl _) (.inr ⟨_, z, _, z, z, z⟩)))))) (fun _ _ _ _ h => h.elim)
def CJ (a0 : Ai) (a1 : Option Ab) : Option ((Ai × Option Ab) ⊕ (Int × (Ai × Option Ab))) :=
 (CX a0).bind fun r2 => sm r2 (fun (ra4 : Option Ab × Ai) => some (Sum.inl (ra4.2, ra4.1))) fun ((rn5, ro6) : Int × Ai) => some (Sum.inr (rn5, (ro6, a1)))
theorem CJ.ok {G R F} (b0_ : Nat) (a0 : Ai) (b1_ : Nat) (a1 : Option Ab) (g1_ : Value × Ab.G) (r : (Ai × Option Ab) ⊕ (Int × (Ai × Option Ab))) (hm : CJ a0 a1 = some r) : CO Tryz.prog 47 [pt b0_ 0, pt b1_ 0] G R (Bk b0_ 120 (Ai.c a0) :: Bk b1_ 23 [g1_.1] :: rO (Ab.op g1_.2) g1_.1 a1 :: F)
  (PK 118 r (fun (a : Ai × Option Ab) u R' L' => ∃ (q1 : Value × Ab.G), u = .tuple #[] ∧ R' = R ∧ L' = Bk b0_ 120 (Ai.c a.1) :: Bk b1_ 23 [q1.1] :: rO (Ab.op q1.2) q1.1 a.2 :: F) (fun n (o : Ai × Option Ab) R' L' => ∃ (q1 : Value × Ab.G), R' = R ∧ L' = Bk b0_ 120 (Ai.c o.1) :: Bk b1_ 23 [q1.1] :: rO (Ab.op q1.2) q1.1 o.2 :: F)) := by
 obtain ⟨pv0, g1⟩ := g1_
 unfold CJ at hm
 refine co_ofN (N := 5) Tryz.func47 z z ?_
 obtain ⟨r2, hr2, hm3⟩ := bs hm
 clear hm
 rcases r2 with ra4 | ⟨rn5, ro6⟩
 ·have hm7 := sm_l hm3
  clear hm3
  refine c_reg ?_
  refine r_mv z ?_
  refine r_sw (s_w (o_callL ca48 z (CX.ok b0_ a0 (Sum.inl ra4) hr2) (fun _ _ _ h => h))) ?_
  rintro pv9 R _ _ ⟨⟨_, g10⟩, rfl, rfl, rfl⟩
  refine rl_st (fun _ h => mv2 h) ?_
  refine r_u0 (ou_if (one_p 1 z) fun ho0 => o_st sc23 z z z ho0 z z) ?_
  refine r_nil ?_
  refine x_end ?_
  obtain rfl := si hm7
  refine ex_st (fun _ h => st_pk 4 [2, 0, 1] (by decide) h) ?_
  exact x_r0 z (Le.refl _) (.inl ⟨_, z, _, z, (pv9, g10), z, z, z⟩)
 have hm7 := sm_r hm3
 clear hm3
 refine c_reg ?_
 refine r_mv z ?_
 obtain rfl := si hm7
 exact r_sw (s_w (o_callR ca48 z (CX.ok b0_ a0 (Sum.inr (rn5, ro6)) hr2) (by rintro _ _ _ ⟨rfl, rfl⟩; exact (px_st (fun _ h => st_pk 3 [0, 1, 2] (by decide) h) (px_of (Le.refl _) (.inr ⟨_, z, _, z, (pv0, g1), z, z⟩)))))) (fun _ _ _ _ h => h.elim)
def CC (a0 : Str) : Option (Option Ab × Int) :=
 (CJ (⟨a0⟩ : Ai) none).bind fun r1 => Option.bind (sm r1 (fun (ra12 : Ai × Option Ab) => some ((if ra12.1.s == [] then 0 else 5), ra12.2)) fun ((rn13, ro14) : Int × (Ai × Option Ab)) => some (rn13, ro14.2)) fun p3 => if (p3.1 != 0) then some (none, p3.1) else some (p3.2, 0)
theorem CC.ok {G R F} (a0 : Str) (r : Option Ab × Int) (hm : CC a0 = some r) : CO Tryz.prog 17 [vS a0] G R (F)
  (Ret fun u R' L' => ∃ (p0 : Value × Ab.G), u = .tuple #[p0.1, vI r.2] ∧ R' = R ∧ L' = rO (Ab.op p0.2) p0.1 r.1 :: F) := by
 unfold CC at hm
 refine co_ofN (N := 13) Tryz.func17 z z ?_
 refine csr ?_
 refine r_as z (r_as z ?_)
 refine nsr ?_
 refine r_new (o_al ze23) fun b0 => ?_
 refine r_nil (x_seq (c_seq (c_seq ?_)))
 obtain ⟨r1, hr1, hm2⟩ := bs hm
 clear hm
 obtain ⟨p3, hp7, hm8⟩ := bs hm2
 refine cd_cut (fun x ks => ∀ (pv4 : Value × Ab.G), EX x .normal ks [(4, pt b0 0), (5, vI p3.1)] R (Bk b0 23 [pv4.1] :: rO (Ab.op pv4.2) pv4.1 p3.2 :: F)) ?_ fun K9 => ?_
 ·intro pv4
  obtain ⟨pv5, g6⟩ := pv4
  refine x_seq (csr ?_)
  refine r_mv z (r_bin z z (bI_ne p3.1 0) ?_)
  refine nsq ?_
  refine c_if (b := (p3.1 != 0)) z (fun h10 => ?_) fun h10 => ?_
  ·have hm11 := ift hm8 h10
   clear hm8
   refine csr ?_
   refine r_mv z (r_as z (r_as z ?_))
   refine r_nil (x_seq (c_ret ?_))
   refine ex_st (fun _ h => st_none (f := Ab.op default) h) ?_
   obtain rfl := si hm11
   refine ex_st (fun _ h => st_pk 3 [0] (by decide) h) ?_
   exact x_r2 z (rv_t z) (rv_t z) (Le.refl _) ⟨_, z, (nl, default), z, z, z⟩
  have hm11 := iff_ hm8 h10
  clear hm8
  refine c_skip (x_seq (csr ?_))
  refine r_ld 0 sc23 z z z (r_as z (r_as z ?_))
  refine r_nil (x_seq (c_ret ?_))
  obtain rfl := si hm11
  refine ex_st (fun _ h => st_pk 2 [1] (by decide) h) ?_
  exact x_r2 z (rv_t z) (rv_t z) (Le.refl _) ⟨_, z, (pv5, g6), z, z, z⟩
 rcases r1 with ra12 | ⟨rn13, ro14⟩
 ·have hm15 := sm_l hp7
  clear hp7
  refine c_reg ?_
  refine r_mv z ?_
  refine r_u (o_mf z) ?_
  refine rl_st (fun _ h => st_none (f := Ab.op default) h) ?_
  refine rl_st (fun _ h => mv1 h) ?_
  refine r_c (s_w (o_call ca46 z (DC.okL (A := [Bk b0 23 [nl], rO (Ab.op default) nl none]) (M := [exP (fun (g : Value × Ab.G) => [Bk b0 23 [g.1], rO (Ab.op g.2) g.1 ra12.2])]) (s' := ra12.1.s) ca47 (fun b F => co_lx (CJ.ok b (⟨a0⟩ : Ai) b0 none (nl, default) (Sum.inl ra12) hr1) (fun _ _ _ _ ⟨q0, hu, hR, hL⟩ hs => by subst hL; exact ⟨_, ⟨hu, hR, z⟩, (st_pk 2 [1, 0] (by decide) (st_exP_f (f := fun (g : Value × Ab.G) => [Bk b0 23 [g.1], rO (Ab.op g.2) g.1 ra12.2]) q0 (st_pk 3 [1, 2, 0] (by decide) hs)))⟩))))) ?_
  refine rl_ex (fun w h => st_exP_o w h) fun g16 _ => ?_
  obtain ⟨pv17, g18⟩ := g16
  refine r_as z ?_
  refine r_nil ?_
  obtain rfl := si hm15
  exact x_sub (K9 (pv17, g18)) ⟨z, z, trivial⟩ (fun _ h => st_pk 2 [0, 1] (by decide) h)
 have hm15 := sm_r hp7
 clear hp7
 refine c_reg ?_
 refine r_mv z ?_
 refine r_u (o_mf z) ?_
 refine rl_st (fun _ h => st_none (f := Ab.op default) h) ?_
 refine rl_st (fun _ h => mv1 h) ?_
 refine r_c (s_w (o_call ca46 z (DC.okR (A := [Bk b0 23 [nl], rO (Ab.op default) nl none]) (M := [exP (fun (g : Value × Ab.G) => [Bk b0 23 [g.1], rO (Ab.op g.2) g.1 ro14.2])]) (cs := [vS ro14.1.s]) ca47 (fun b F => co_rx (CJ.ok b (⟨a0⟩ : Ai) b0 none (nl, default) (Sum.inr (rn13, ro14)) hr1) (fun _ _ _ ⟨q0, hR, hL⟩ hs => by subst hL; exact ⟨_, ⟨hR, z⟩, (st_pk 2 [1, 0] (by decide) (st_exP_f (f := fun (g : Value × Ab.G) => [Bk b0 23 [g.1], rO (Ab.op g.2) g.1 ro14.2]) q0 (st_pk 3 [1, 2, 0] (by decide) hs)))⟩))))) ?_
 refine rl_ex (fun w h => st_exP_o w h) fun g19 _ => ?_
 obtain ⟨pv20, g21⟩ := g19
 refine r_as z ?_
 refine r_nil ?_
 obtain rfl := si hm15
 exact x_sub (K9 (pv20, g21)) ⟨z, z, trivial⟩ (fun _ h => st_pk 2 [0, 1] (by decide) h)
def AN (a0 : Aa) (a1 : Int) : Option Aa :=
 (Ar a0.R a1).bind fun r2 => if r2.2 then (Az a0.R r2.1).bind fun r6 => some (⟨a0.Most, a0.Target, r6⟩ : Aa) else some a0
theorem AN.ok {G R F} (a0 : Aa) (g0_ : Aa.G) (h0 : Aa.ro R a0 g0_) (a1 : Int) (r : Aa) (hm : AN a0 a1 = some r) : CO Tryz.prog 107 [.agg (Aa.k a0 g0_).toArray, vI a1] G R (F)
  (Ret fun u R' L' => ∃ (p0 : Aa.G), u = .agg (Aa.k r p0).toArray ∧ (Aa.ro R' r p0) ∧ L' = F) := by
 unfold AN at hm
 refine co_ofN (N := 21) Tryz.func107 z z ?_
 refine csr ?_
 refine r_new (o_bx (Aa.k a0 g0_) z z) fun b0 => ?_
 refine r_new (o_al ze32) fun b1 => ?_
 refine nssr ?_
 refine r_fa fa32_2 z ?_
 refine r_u (o_ldn 1 [g0_.R.L.1, vI a0.R.Places] ag30 z z z z) (r_mv z ?_)
 obtain ⟨r2, hr2, hm3⟩ := bs hm
 clear hm
 refine r_u (o_callq ca104 z (Ar.ok a0.R (⟨(g0_.R.L.1, [])⟩ : Ac.G) h0 a1 r2 hr2)) (r_mv z ?_)
 refine r_ext z z ?_
 refine r_ext z z (r_as z (r_as z ?_))
 refine nsr ?_
 refine r_mv z ?_
 refine nsq ?_
 refine c_if (b := r2.2) z (fun h4 => ?_) fun h4 => ?_
 rotate_left
 ·have hm5 := iff_ hm3 h4
  clear hm3
  refine c_skip (x_seq (csr ?_))
  refine r_u (o_ldn 1 (Aa.k a0 g0_) ag32 z z z z) ?_
  refine r_u0 (o_stn ag32 z z z (al_c z (al_c z (al_c (RoN.one h0) (al_c z al_n)))) z z z) ?_
  refine r_nil (x_seq (c_ret ?_))
  obtain rfl := si hm5
  exact x_d1 z (rv_n 0 (Aa.k a0 g0_) ag32 z z z z) (fun _ h => st_pk 2 [] (by decide) h) (Le.refl _) ⟨_, z, (⟨(⟨(g0_.R.L.1, [])⟩ : Ac.G)⟩ : Aa.G), z, h0, z⟩
 have hm5 := ift hm3 h4
 clear hm3
 refine c_reg ?_
 refine r_fa fa32_2 z ?_
 refine r_u (o_ldn 1 [g0_.R.L.1, vI a0.R.Places] ag30 z z z z) (r_mv z ?_)
 obtain ⟨r6, hr6, hm9⟩ := bs hm5
 clear hm5
 refine r_sw (s_w (o_call ca105 z (Az.ok a0.R (⟨(g0_.R.L.1, [])⟩ : Ac.G) h0 r2.1 r6 hr6))) ?_
 rintro _ R _ _ ⟨v7, rfl, rfl, rfl⟩
 refine r_fa fa32_2 z ?_
 refine rl_st (fun _ h => mv3 h) ?_
 refine r_u0 (ou_if (one_o 1 z) fun ho0 => o_stn ag30 z z z (al_c ho0 (al_c z al_n)) z z z) ?_
 refine nsr ?_
 refine r_u (o_ldn 0 [vI a0.Most, vI a0.Target, v7.L.1, vI r6.Places] ag32 z z z z) ?_
 refine rl_st (fun _ h => mv3 (mv1 h)) ?_
 refine r_u0 (ou_if (one_o 1 z) fun ho0 => o_stn ag32 z z z (al_c z (al_c z (al_c ho0 (al_c z al_n)))) z z z) ?_
 refine r_nil (x_seq (c_ret ?_))
 refine ex_st (fun _ h => mv2 (mv3 h)) ?_
 refine ex_ex (fun w h => st_freezeN w h) fun R10 hf13 => ?_
 obtain ⟨le11, h12⟩ := hf13
 obtain rfl := si hm9
 exact x_d1 z (rv_n 0 [vI a0.Most, vI a0.Target, v7.L.1, vI r6.Places] ag32 z z z z) (fun _ h => st_pk 2 [] (by decide) h) le11 ⟨_, z, (⟨(⟨(v7.L.1, [])⟩ : Ac.G)⟩ : Aa.G), z, h12, z⟩
end Go.Proofs.YthngfieikhillaaGreat
