import Derived.Test.YthngfieikhillaaGreatW1
import Derived.Test.YthngfieikhillaaGreatFacts
import Derived.Test.YthngfieikhillaaGreatHwY
set_option linter.unusedVariables false
set_option linter.unusedSectionVars false
set_option linter.unusedSimpArgs false
set_option maxRecDepth 100000
set_option maxHeartbeats 8000000
namespace Go.Proofs.YthngfieikhillaaGreat
open Go Go.Proofs.YthngfieikhillaaGreat.Hw
def BE (a0 : Ah) (a1 : Str) : Option (Ah × Bool) :=
 if (a0.Kind == 1) then (BV a0.A a1).bind fun r4 => some ((⟨a0.Kind, r4.1, a0.T⟩ : Ah), r4.2) else (BP a0.T a1).bind fun r13 => some ((⟨a0.Kind, a0.A, r13.1⟩ : Ah), r13.2)
theorem BE.ok {G R F} (a0 : Ah) (g0_ : Ah.G) (h0 : Ah.ro R a0 g0_) (a1 : Str) (r : Ah × Bool) (hm : BE a0 a1 = some r) : CO Tryz.prog 29 [.agg (Ah.k a0 g0_).toArray, vS a1] G R (F)
  (Ret fun u R' L' => ∃ (p0 : Ah.G), u = .tuple #[.agg (Ah.k r.1 p0).toArray, vB r.2] ∧ (Ah.ro R' r.1 p0) ∧ L' = F) := by
 unfold BE at hm
 refine co_ofN (N := 28) Tryz.func29 z z ?_
 refine csr ?_
 refine r_new (o_bx (Ah.k a0 g0_) z z) fun b0 => ?_
 refine r_new (o_al ze40) fun b1 => ?_
 refine r_as z ?_
 refine nsr ?_
 refine r_as z ?_
 refine nssr ?_
 refine r_fa fa40_0 z (r_ld 1 sc3 z z z (r_bin z z (bI_eq a0.Kind 1) ?_))
 refine nsq ?_
 refine c_if (b := (a0.Kind == 1)) z (fun h2 => ?_) fun h2 => ?_
 ·have hm3 := ift hm h2
  clear hm
  refine c_reg ?_
  refine r_fa fa40_1 z ?_
  refine r_u (o_ldn 1 (Aa.k a0.A g0_.A) ag32 z z z z) (r_mv z ?_)
  obtain ⟨r4, hr4, hm8⟩ := bs hm3
  clear hm3
  refine r_sw (s_w (o_call ca66 z (BV.ok a0.A (⟨(⟨(g0_.A.R.L.1, [])⟩ : Ac.G)⟩ : Aa.G) h0.1 a1 r4 hr4))) ?_
  rintro _ R _ _ ⟨v5, rfl, rfl, rfl⟩
  refine r_mv z ?_
  refine r_ext z z ?_
  refine r_ext z z (r_fa fa40_1 z ?_)
  refine rl_st (fun _ h => mv3 h) ?_
  refine r_u0 (ou_if (one_o 1 z) fun ho0 => o_stn ag32 z z z (al_c z (al_c z (al_c ho0 (al_c z al_n)))) z z z) ?_
  refine r_as z ?_
  refine nsr ?_
  refine r_u (o_ldn 0 [vI a0.Kind, vI r4.1.Most, vI r4.1.Target, v5.R.L.1, vI r4.1.R.Places, vI a0.T.Most, vI a0.T.S.Wide, vW a0.T.S.Seed, g0_.T.S.Rows.1, g0_.T.S.Door, vI a0.T.S.Added, g0_.T.R.L.1, vI a0.T.R.Places] ag40 z z z z) (r_mv z ?_)
  refine rl_st (fun _ h => mv3 (mv1 h)) ?_
  refine r_u0 (ou_if (one_o 1 z) fun ho0 => o_stn ag40 z z z (al_c z (al_c z (al_c z (al_c ho0 (al_c z (al_c z (al_c z (al_c z (al_c (RoN.one h0.2.1.1) (al_c (RoS.one h0.2.1.2) (al_c z (al_c (RoN.one h0.2.2) (al_c z al_n))))))))))))) z z z) ?_
  refine r_as z ?_
  refine r_nil (x_seq (c_ret ?_))
  refine ex_st (fun _ h => mv2 (mv3 h)) ?_
  refine ex_ex (fun w h => st_freezeN w h) fun R9 hf12 => ?_
  obtain ⟨le10, h11⟩ := hf12
  obtain rfl := si hm8
  exact x_d2 z (rv_n 0 [vI a0.Kind, vI r4.1.Most, vI r4.1.Target, v5.R.L.1, vI r4.1.R.Places, vI a0.T.Most, vI a0.T.S.Wide, vW a0.T.S.Seed, g0_.T.S.Rows.1, g0_.T.S.Door, vI a0.T.S.Added, g0_.T.R.L.1, vI a0.T.R.Places] ag40 z z z z) (rv_t z) (fun _ h => st_pk 2 [] (by decide) h) le10 ⟨_, z, (⟨(⟨(⟨(v5.R.L.1, [])⟩ : Ac.G)⟩ : Aa.G), (⟨(⟨(g0_.T.S.Rows.1, []), g0_.T.S.Door⟩ : Af.G), (⟨(g0_.T.R.L.1, [])⟩ : Ac.G)⟩ : Ad.G)⟩ : Ah.G), z, ⟨h11, ⟨⟨(RoN.mono le10 h0.2.1.1), (RoS.mono le10 h0.2.1.2)⟩, (RoN.mono le10 h0.2.2)⟩⟩, z⟩
 have hm3 := iff_ hm h2
 clear hm
 refine c_reg ?_
 refine r_fa fa40_2 z ?_
 refine r_u (o_ldn 1 (Ad.k a0.T g0_.T) ag38 z z z z) (r_mv z ?_)
 obtain ⟨r13, hr13, hm23⟩ := bs hm3
 clear hm3
 refine r_sw (s_w (o_call ca67 z (BP.ok a0.T (⟨(⟨(g0_.T.S.Rows.1, []), g0_.T.S.Door⟩ : Af.G), (⟨(g0_.T.R.L.1, [])⟩ : Ac.G)⟩ : Ad.G) ⟨⟨h0.2.1.1, h0.2.1.2⟩, h0.2.2⟩ a1 r13 hr13))) ?_
 rintro _ R21 _ le22 ⟨v14, rfl, hf15, rfl⟩
 refine r_mv z ?_
 refine r_ext z z ?_
 refine r_ext z z (r_fa fa40_2 z ?_)
 refine rl_st (fun _ h => mv1 h) ?_
 refine r_u0 (o_stn ag38 z z z (al_c z (al_c z (al_c z (al_c (RoN.one hf15.1.1) (al_c (RoS.one hf15.1.2) (al_c z (al_c (RoN.one hf15.2) (al_c z al_n)))))))) z z z) ?_
 refine r_as z ?_
 refine nsr ?_
 refine r_u (o_ldn 0 [vI a0.Kind, vI a0.A.Most, vI a0.A.Target, g0_.A.R.L.1, vI a0.A.R.Places, vI r13.1.Most, vI r13.1.S.Wide, vW r13.1.S.Seed, v14.S.Rows.1, v14.S.Door, vI r13.1.S.Added, v14.R.L.1, vI r13.1.R.Places] ag40 z z z z) (r_mv z ?_)
 refine rl_st (fun _ h => mv1 h) ?_
 refine r_u0 (o_stn ag40 z z z (al_c z (al_c z (al_c z (al_c (RoN.one (RoN.mono le22 h0.1)) (al_c z (al_c z (al_c z (al_c z (al_c (RoN.one hf15.1.1) (al_c (RoS.one hf15.1.2) (al_c z (al_c (RoN.one hf15.2) (al_c z al_n))))))))))))) z z z) ?_
 refine r_as z ?_
 refine r_nil (x_seq (c_ret ?_))
 obtain rfl := si hm23
 exact x_d2 z (rv_n 0 [vI a0.Kind, vI a0.A.Most, vI a0.A.Target, g0_.A.R.L.1, vI a0.A.R.Places, vI r13.1.Most, vI r13.1.S.Wide, vW r13.1.S.Seed, v14.S.Rows.1, v14.S.Door, vI r13.1.S.Added, v14.R.L.1, vI r13.1.R.Places] ag40 z z z z) (rv_t z) (fun _ h => st_pk 2 [] (by decide) h) le22 ⟨_, z, (⟨(⟨(⟨(g0_.A.R.L.1, [])⟩ : Ac.G)⟩ : Aa.G), (⟨(⟨(v14.S.Rows.1, []), v14.S.Door⟩ : Af.G), (⟨(v14.R.L.1, [])⟩ : Ac.G)⟩ : Ad.G)⟩ : Ah.G), z, ⟨(RoN.mono le22 h0.1), ⟨⟨hf15.1.1, hf15.1.2⟩, hf15.2⟩⟩, z⟩
def C4 (a0 : Al) (a1 : Str) : Option (Bool × Al) :=
 (CL a0 a1).bind fun r3 => om a0.r (none) fun x5 => (AK x5 a1).bind fun r13 => some (r3, (⟨a0.most, a0.target, (some r13.2)⟩ : Al))
theorem C4.ok {G R F} (b0_ : Nat) (a0 : Al) (g0_ : Al.G) (a1 : Str) (r : Bool × Al) (hm : C4 a0 a1 = some r) : CO Tryz.prog 51 [pt b0_ 0, vS a1] G R (Bk b0_ 86 [vI a0.most, vI a0.target, g0_.r.1] :: rO (Ae.op g0_.r.2) g0_.r.1 a0.r :: F)
  (Ret fun u R' L' => ∃ (q0 : Al.G), u = vB r.1 ∧ R' = R ∧ L' = Bk b0_ 86 [vI r.2.most, vI r.2.target, q0.r.1] :: rO (Ae.op q0.r.2) q0.r.1 r.2.r :: F) := by
 obtain ⟨⟨pv1, g2⟩⟩ := g0_
 unfold C4 at hm
 refine co_ofN (N := 18) Tryz.func51 z z ?_
 refine csr ?_
 refine r_as z ?_
 refine nsr ?_
 refine r_mv z (r_mv z ?_)
 obtain ⟨r3, hr3, hm4⟩ := bs hm
 clear hm
 refine r_c (s_w (o_call ca37 z (CL.ok b0_ a0 (⟨(pv1, g2)⟩ : Al.G) a1 r3 hr3))) ?_
 refine r_as z ?_
 refine nssr ?_
 refine r_mv z (r_bin z z (bP_nep Tryz.underlying60) ?_)
 refine nsq ?_
 refine c_tt z ?_
 refine cd_st (fun _ h => mv1 h) ?_
 refine cd_opt (fun ho7 => ?_) (fun x5 b6 ho7 => ?_)
 ·rintro rfl
  have hm8 := om_n hm4 ho7
  clear hm4
  cases hm8
 rintro rfl
 have hm8 := om_s hm4 ho7
 clear hm4
 refine cd_st (fun _ h => st_star_o h) ?_
 refine c_reg ?_
 refine r_mv z (r_nc z (r_fa fa86_2 z (r_ld 5 sc82 z z z (r_mv z ?_))))
 obtain ⟨r13, hr13, hm19⟩ := bs hm8
 clear hm8
 refine r_sw (s_w (o_call ca94 z (AK.ok b6 x5 g2 a1 r13 hr13))) ?_
 rintro _ R _ _ ⟨g14, rfl, rfl, rfl⟩
 refine nsr ?_
 refine r_mv z (r_as z ?_)
 refine r_nil (x_seq (c_ret ?_))
 refine ex_st (fun _ h => st_some (f := Ae.op g14) (a := r13.2) (st_star_f (A := Ae.fl b6 r13.2 g14) h)) ?_
 obtain rfl := si hm19
 refine ex_st (fun _ h => st_pk 2 [1, 0] (by decide) h) ?_
 exact x_r1 z (rv_t z) (Le.refl _) ⟨_, z, (⟨(pt b6 0, g14)⟩ : Al.G), z, z, z⟩
def CQ (a0 : Ak) (a1 : Str) : Option (Bool × Ak) :=
 om a0.r (none) fun x6 => (AK x6 a1).bind fun r14 => some (r14.1, (⟨a0.most, a0.s, (some r14.2)⟩ : Ak))
theorem CQ.ok {G R F} (b0_ : Nat) (a0 : Ak) (g0_ : Ak.G) (a1 : Str) (r : Bool × Ak) (hm : CQ a0 a1 = some r) : CO Tryz.prog 52 [pt b0_ 0, vS a1] G R (Bk b0_ 92 [vI a0.most, g0_.s.1, g0_.r.1] :: rO (Aj.op g0_.s.2) g0_.s.1 a0.s :: rO (Ae.op g0_.r.2) g0_.r.1 a0.r :: F)
  (Ret fun u R' L' => ∃ (q0 : Ak.G), u = vB r.1 ∧ R' = R ∧ L' = Bk b0_ 92 [vI r.2.most, q0.s.1, q0.r.1] :: rO (Aj.op q0.s.2) q0.s.1 r.2.s :: rO (Ae.op q0.r.2) q0.r.1 r.2.r :: F) := by
 obtain ⟨⟨pv1, g2⟩, ⟨pv4, g5⟩⟩ := g0_
 unfold CQ at hm
 refine co_ofN (N := 15) Tryz.func52 z z ?_
 refine csr ?_
 refine r_as z ?_
 refine r_nil (x_seq (c_seq ?_))
 refine cd_st (fun _ h => mv2 h) ?_
 refine cd_opt (fun ho8 => ?_) (fun x6 b7 ho8 => ?_)
 ·rintro rfl
  have hm9 := om_n hm ho8
  clear hm
  cases hm9
 rintro rfl
 have hm9 := om_s hm ho8
 clear hm
 refine cd_st (fun _ h => st_star_o h) ?_
 refine c_reg ?_
 refine r_mv z (r_bin z z (bP_nep Tryz.underlying61) (r_mv z ?_))
 refine r_s (s_y z z z (o_mv z)) ?_
 refine r_s (s_y z z z (o_nc z)) ?_
 refine r_s (s_y z z z (o_fa fa92_2 z)) ?_
 refine r_s (s_y z z z (o_ld 5 sc82 z z z)) ?_
 refine r_s (s_y z z z (o_mv z)) ?_
 obtain ⟨r14, hr14, hm20⟩ := bs hm9
 clear hm9
 refine r_sw (s_yw z z z (o_call ca94 z (AK.ok b7 x6 g5 a1 r14 hr14))) ?_
 rintro _ R _ _ ⟨g15, rfl, rfl, rfl⟩
 refine r_u (o_pt z z z) (r_as z ?_)
 refine r_nil (x_seq (c_ret ?_))
 refine ex_st (fun _ h => st_some (f := Ae.op g15) (a := r14.2) (st_star_f (A := Ae.fl b7 r14.2 g15) h)) ?_
 obtain rfl := si hm20
 refine ex_st (fun _ h => st_pk 3 [1, 2, 0] (by decide) h) ?_
 exact x_r1 z (rv_t z) (Le.refl _) ⟨_, z, (⟨(pv1, g2), (pt b7 0, g15)⟩ : Ak.G), z, z, z⟩
def Bn (a0 : Ab) (a1 : Str) : Option (Bool × Ab) :=
 if ((An a0) == 1) then om a0.a (none) fun x8 => (C4 x8 a1).bind fun r15 => some (r15.1, (⟨a0.kind, (some r15.2), a0.t⟩ : Ab)) else if ((An a0) == 2) then om a0.t (none) fun x23 => (CQ x23 a1).bind fun r33 => some (r33.1, (⟨a0.kind, a0.a, (some r33.2)⟩ : Ab)) else some (false, a0)
theorem Bn.ok {G R F} (b0_ : Nat) (a0 : Ab) (g0_ : Ab.G) (a1 : Str) (r : Bool × Ab) (hm : Bn a0 a1 = some r) : CO Tryz.prog 19 [pt b0_ 0, vS a1] G R (Bk b0_ 63 [vI a0.kind, g0_.a.1, g0_.t.1] :: rO (Al.op g0_.a.2) g0_.a.1 a0.a :: rO (Ak.op g0_.t.2) g0_.t.1 a0.t :: F)
  (Ret fun u R' L' => ∃ (q0 : Ab.G), u = vB r.1 ∧ R' = R ∧ L' = Bk b0_ 63 [vI r.2.kind, q0.a.1, q0.t.1] :: rO (Al.op q0.a.2) q0.a.1 r.2.a :: rO (Ak.op q0.t.2) q0.t.1 r.2.t :: F) := by
 obtain ⟨⟨pv1, g2⟩, ⟨pv4, g5⟩⟩ := g0_
 unfold Bn at hm
 refine co_ofN (N := 23) Tryz.func19 z z ?_
 refine csr ?_
 refine r_as z ?_
 refine nssr ?_
 refine r_mv z ?_
 refine r_c (s_w (o_call ca16 z (An.ok b0_ a0 (⟨(pv1, g2), (pv4, g5)⟩ : Ab.G) _ z))) ?_
 refine r_nil (x_seq (c_blk (csr ?_)))
 refine r_bin z z (bI_eq (An a0) 1) (r_as z ?_)
 refine nsq ?_
 refine c_if (b := ((An a0) == 1)) z (fun h6 => ?_) fun h6 => ?_
 ·have hm7 := ift hm h6
  clear hm
  refine c_seq ?_
  refine cd_st (fun _ h => mv1 h) ?_
  refine cd_opt (fun ho10 => ?_) (fun x8 b9 ho10 => ?_)
  ·rintro rfl
   have hm11 := om_n hm7 ho10
   clear hm7
   cases hm11
  rintro rfl
  have hm11 := om_s hm7 ho10
  clear hm7
  obtain ⟨⟨pv13, g14⟩⟩ := g2
  refine cd_st (fun _ h => st_star_o h) ?_
  refine c_reg ?_
  refine r_mv z (r_nc z (r_fa fa63_1 z (r_ld 2 sc60 z z z (r_mv z ?_))))
  obtain ⟨r15, hr15, hm20⟩ := bs hm11
  clear hm11
  refine r_sw (s_w (o_call ca51 z (C4.ok b9 x8 (⟨(pv13, g14)⟩ : Al.G) a1 r15 hr15))) ?_
  rintro _ R _ _ ⟨⟨⟨pv18, g19⟩⟩, rfl, rfl, rfl⟩
  refine r_as z ?_
  refine r_nil (x_seq (c_ret ?_))
  refine ex_st (fun _ h => st_some (f := Al.op (⟨(pv18, g19)⟩ : Al.G)) (a := r15.2) (st_star_f (A := Al.fl b9 r15.2 (⟨(pv18, g19)⟩ : Al.G)) h)) ?_
  obtain rfl := si hm20
  refine ex_st (fun _ h => st_pk 3 [1, 0, 2] (by decide) h) ?_
  exact x_r1 z (rv_t z) (Le.refl _) ⟨_, z, (⟨(pt b9 0, (⟨(pv18, g19)⟩ : Al.G)), (pv4, g5)⟩ : Ab.G), z, z, z⟩
 have hm7 := iff_ hm h6
 clear hm
 refine csr ?_
 refine r_bin z z (bI_eq (An a0) 2) (r_as z ?_)
 refine nsq ?_
 refine c_if (b := ((An a0) == 2)) z (fun h21 => ?_) fun h21 => ?_
 rotate_left
 ·have hm22 := iff_ hm7 h21
  clear hm7
  refine c_skip (x_blk (x_seq (csr ?_)))
  refine r_as z ?_
  refine r_nil (x_seq (c_ret ?_))
  obtain rfl := si hm22
  exact x_r1 z (rv_t z) (Le.refl _) ⟨_, z, (⟨(pv1, g2), (pv4, g5)⟩ : Ab.G), z, z, z⟩
 have hm22 := ift hm7 h21
 clear hm7
 refine c_seq ?_
 refine cd_st (fun _ h => mv2 h) ?_
 refine cd_opt (fun ho25 => ?_) (fun x23 b24 ho25 => ?_)
 ·rintro rfl
  have hm26 := om_n hm22 ho25
  clear hm22
  cases hm26
 rintro rfl
 have hm26 := om_s hm22 ho25
 clear hm22
 obtain ⟨⟨pv28, g29⟩, ⟨pv31, g32⟩⟩ := g5
 refine cd_st (fun _ h => st_star_o h) ?_
 refine c_reg ?_
 refine r_mv z (r_nc z (r_fa fa63_2 z (r_ld 3 sc61 z z z (r_mv z ?_))))
 obtain ⟨r33, hr33, hm41⟩ := bs hm26
 clear hm26
 refine r_sw (s_w (o_call ca52 z (CQ.ok b24 x23 (⟨(pv28, g29), (pv31, g32)⟩ : Ak.G) a1 r33 hr33))) ?_
 rintro _ R _ _ ⟨⟨⟨pv36, g37⟩, ⟨pv39, g40⟩⟩, rfl, rfl, rfl⟩
 refine r_as z ?_
 refine r_nil (x_seq (c_ret ?_))
 refine ex_st (fun _ h => st_some (f := Ak.op (⟨(pv36, g37), (pv39, g40)⟩ : Ak.G)) (a := r33.2) (st_star_f (A := Ak.fl b24 r33.2 (⟨(pv36, g37), (pv39, g40)⟩ : Ak.G)) h)) ?_
 obtain rfl := si hm41
 refine ex_st (fun _ h => st_pk 3 [1, 2, 0] (by decide) h) ?_
 exact x_r1 z (rv_t z) (Le.refl _) ⟨_, z, (⟨(pv1, g2), (pt b24 0, (⟨(pv36, g37), (pv39, g40)⟩ : Ak.G))⟩ : Ab.G), z, z, z⟩
def Au (a0 : Aa) (a1 : Int) : Option Int :=
 (gi a0.R.L a1).bind fun x1 => some (x1.length : Int)
theorem Au.ok {G R F} (a0 : Aa) (g0_ : Aa.G) (h0 : Aa.ro R a0 g0_) (a1 : Int) (r : Int) (hm : Au a0 a1 = some r) : CO Tryz.prog 74 [.agg (Aa.k a0 g0_).toArray, vI a1] G R (F)
  (Ret fun u R' L' => u = vI r ∧ R' = R ∧ L' = F) := by
 unfold Au at hm
 refine co_ofN (N := 12) Tryz.func74 z z ?_
 refine csr ?_
 refine r_new (o_bx (Aa.k a0 g0_) z z) fun b0 => ?_
 refine r_as z ?_
 refine nsr ?_
 refine r_fa fa32_2 z (r_fa fa30_0 z (r_ld 0 sc28 z z z (r_mv z ?_)))
 obtain ⟨x1, hx1, hm3⟩ := bs hm
 clear hm
 obtain ⟨b1, o1, l1, T1, fr1, c1, u2, hv1, hR1, he1, hi1, hN1⟩ := RoN.ne h0 hx1
 refine r_u (o_ix (sz := 1) Tryz.underlying28 (fun _ => by kernel_rfl) z z hv1 hi1) ?_
 refine r_u (o_ldR sc57 z hR1 (rok 0 he1 (by decide))) ?_
 refine r_u (o_lenR Tryz.underlying57 z hN1) (r_as z ?_)
 refine r_nil (x_seq (c_ret ?_))
 obtain rfl := si hm3
 refine ex_st (fun _ h => st_pk 1 [] (by decide) h) ?_
 exact x_r1 z (rv_t z) (Le.refl _) ⟨_, z, z, z, z⟩
def AF (a0 : Aa) : Option Int :=
 (Au a0 0).bind fun r1 => (Au a0 1).bind fun r3 => some (i64 (r1 + r3))
theorem AF.ok {G R F} (a0 : Aa) (g0_ : Aa.G) (h0 : Aa.ro R a0 g0_) (r : Int) (hm : AF a0 = some r) : CO Tryz.prog 35 [.agg (Aa.k a0 g0_).toArray] G R (F)
  (Ret fun u R' L' => u = vI r ∧ R' = R ∧ L' = F) := by
 unfold AF at hm
 refine co_ofN (N := 8) Tryz.func35 z z ?_
 refine csr ?_
 refine r_new (o_bx (Aa.k a0 g0_) z z) fun b0 => ?_
 refine r_as z ?_
 refine r_nil (x_seq (c_seq ?_))
 obtain ⟨r1, hr1, hm2⟩ := bs hm
 clear hm
 obtain ⟨r3, hr3, hm4⟩ := bs hm2
 clear hm2
 refine c_any mixed (effs := []) (V := []) ?_
 refine stage_ext [(0, .agg (Aa.k a0 g0_).toArray), (1, vI r1), (2, .agg (Aa.k a0 g0_).toArray), (3, vI r3), (4, vI (i64 (r1 + r3))), (5, vI (i64 (r1 + r3)))] z ?_
 refine stage z z z z [0, 1, 0, 7, 15, 31] [0, 1, 2, 3, 4, 5] [] z z z (q_u z z (o_ldn 0 (Aa.k a0 g0_) ag32 z z z z) (q_u z z (o_callq ca74 z (Au.ok a0 (⟨(⟨(g0_.R.L.1, [])⟩ : Ac.G)⟩ : Aa.G) h0 0 r1 hr1)) (q_u z z (o_ldn 0 (Aa.k a0 g0_) ag32 z z z z) (q_u z z (o_callq ca74 z (Au.ok a0 (⟨(⟨(g0_.R.L.1, [])⟩ : Ac.G)⟩ : Aa.G) h0 1 r3 hr3)) (q_u z z (o_bin z z (bI_add r1 r3)) (q_u z z (o_as z) qn)))))) en ?_
 intro _
 refine ex_sub (E' := [(2, vI (i64 (r1 + r3)))]) ⟨z, trivial⟩ ?_
 refine x_seq (c_ret ?_)
 obtain rfl := si hm4
 refine ex_st (fun _ h => st_pk 1 [] (by decide) h) ?_
 exact x_r1 z (rv_t z) (Le.refl _) ⟨_, z, z, z, z⟩
def AE (a0 : Aa) (a1 : Bool) : Option (Aa × List Str) :=
 (Au a0 0).bind fun r2 => Option.bind (if decide (0 < r2) then Option.bind (if decide (a0.Target < r2) then some true else Option.bind (if a1 then Option.bind (if (r2 == a0.Target) then some true else (Au a0 1).bind fun r47 => some (r47 == 0)) fun p41 => some p41 else (Au a0 1).bind fun r49 => some (r49 == 0)) fun p35 => some p35) fun p29 => some p29 else some false) fun p4 => Option.bind (if p4 then some 0 else some 1) fun p8 => (Ar a0.R p8).bind fun r12 => if !r12.2 then some (a0, []) else (Av a0 (i64 (p8 + 2)) r12.1).bind fun r16 => some (r16, [r12.1])
theorem AE.ok {G R F} (a0 : Aa) (g0_ : Aa.G) (h0 : Aa.ro R a0 g0_) (a1 : Bool) (r : Aa × List Str) (hm : AE a0 a1 = some r) : CO Tryz.prog 106 [.agg (Aa.k a0 g0_).toArray, vB a1] G R (F)
  (Ret fun u R' L' => ∃ (p0 : Aa.G) (p1 : Value), u = .tuple #[.agg (Aa.k r.1 p0).toArray, p1] ∧ (Aa.ro R' r.1 p0) ∧ L' = OwS true 9 1 eS p1 r.2 :: F) := by
 unfold AE at hm
 refine co_ofN (N := 51) Tryz.func106 z z ?_
 refine csr ?_
 refine r_new (o_bx (Aa.k a0 g0_) z z) fun b0 => ?_
 refine r_new (o_al ze32) fun b1 => ?_
 refine r_as z ?_
 refine nsr ?_
 refine r_as z ?_
 refine r_nil (x_seq (c_seq (c_seq ?_)))
 obtain ⟨r2, hr2, hm3⟩ := bs hm
 clear hm
 obtain ⟨p4, hp5, hm6⟩ := bs hm3
 refine cd_join (E' := [(2, pt b0 0), (4, pt b1 0), (6, vI 1), (33, vB p4)]) (L' := Bk b1 32 [vI 0, vI 0, .slice none 0 0, vI 0] :: Bk b0 32 (Aa.k a0 g0_) :: F) ?_ fun K7 => ?_
 ·refine x_seq ?_
  obtain ⟨p8, hp9, hm10⟩ := bs hm6
  refine cd_join (E' := [(2, pt b0 0), (4, pt b1 0), (6, vI p8)]) (L' := Bk b1 32 [vI 0, vI 0, .slice none 0 0, vI 0] :: Bk b0 32 (Aa.k a0 g0_) :: F) ?_ fun K11 => ?_
  rotate_left
  ·refine c_if (b := p4) z (fun h25 => ?_) fun h25 => ?_
   ·have hm26 := ift hp9 h25
    clear hp9
    refine c_reg ?_
    refine r_as z ?_
    refine r_nil ?_
    obtain rfl := si hm26
    exact x_sub K11 ⟨z, z, z, trivial⟩ (fun _ h => st_pk 2 [0, 1] (by decide) h)
   have hm26 := iff_ hp9 h25
   clear hp9
   refine c_skip ?_
   obtain rfl := si hm26
   exact x_sub K11 ⟨z, z, z, trivial⟩ (fun _ h => st_pk 2 [0, 1] (by decide) h)
  refine x_seq (csr ?_)
  refine r_fa fa32_2 z ?_
  refine r_u (o_ldn 1 [g0_.R.L.1, vI a0.R.Places] ag30 z z z z) (r_mv z ?_)
  obtain ⟨r12, hr12, hm13⟩ := bs hm10
  clear hm10
  refine r_u (o_callq ca104 z (Ar.ok a0.R (⟨(g0_.R.L.1, [])⟩ : Ac.G) h0 p8 r12 hr12)) (r_mv z ?_)
  refine r_ext z z ?_
  refine r_ext z z (r_as z (r_as z ?_))
  refine nssr ?_
  refine r_mv z ?_
  refine r_u (o_not z) ?_
  refine nsq ?_
  refine c_if (b := !r12.2) z (fun h14 => ?_) fun h14 => ?_
  ·have hm15 := ift hm13 h14
   clear hm13
   refine csr ?_
   refine r_u (o_ldn 1 (Aa.k a0 g0_) ag32 z z z z) ?_
   refine r_u0 (o_stn ag32 z z z (al_c z (al_c z (al_c (RoN.one h0) (al_c z al_n)))) z z z) ?_
   refine r_as z ?_
   refine r_nil (x_seq (c_ret ?_))
   refine ex_st (fun _ h => st_nil (ap := true) (T := 9) (sz := 1) (en := eS) h) ?_
   obtain rfl := si hm15
   exact x_d2 z (rv_n 1 (Aa.k a0 g0_) ag32 z z z z) (rv_t z) (fun _ h => st_pk 3 [0] (by decide) h) (Le.refl _) ⟨_, z, (⟨(⟨(g0_.R.L.1, [])⟩ : Ac.G)⟩ : Aa.G), (.slice none 0 0), z, h0, z⟩
  have hm15 := iff_ hm13 h14
  clear hm13
  refine c_skip (x_seq (csr ?_))
  refine r_u (o_ldn 1 (Aa.k a0 g0_) ag32 z z z z) (r_mv z (r_bin z z (bI_add p8 2) (r_mv z ?_)))
  obtain ⟨r16, hr16, hm23⟩ := bs hm15
  clear hm15
  refine r_sw (s_w (o_call ca100 z (Av.ok a0 (⟨(⟨(g0_.R.L.1, [])⟩ : Ac.G)⟩ : Aa.G) h0 (i64 (p8 + 2)) r12.1 r16 hr16))) ?_
  rintro _ R21 _ le22 ⟨v17, rfl, hf18, rfl⟩
  refine r_mv z ?_
  refine r_sw (s_w (o_bsl (en := eS) (sz := 1) (e := 9) (cs := [vS r12.1]) (r := [r12.1]) z (fun _ => by kernel_rfl) z (by decide) z (fun _ => z))) ?_
  rintro v24 R21 _ _ ⟨rfl, rfl⟩
  refine rl_st (fun _ h => mv1 h) ?_
  refine r_u0 (o_stn ag32 z z z (al_c z (al_c z (al_c (RoN.one hf18) (al_c z al_n)))) z z z) ?_
  refine r_as z ?_
  refine r_nil (x_seq (c_ret ?_))
  obtain rfl := si hm23
  exact x_d2 z (rv_n 0 (Aa.k r16 v17) ag32 z z z z) (rv_t z) (fun _ h => st_pk 3 [1] (by decide) h) le22 ⟨_, z, (⟨(⟨(v17.R.L.1, [])⟩ : Ac.G)⟩ : Aa.G), v24, z, hf18, z⟩
 refine cd_by (decide (0 < r2)) (fun h27 => ?_) fun h27 => ?_
 rotate_left
 ·have hm28 := iff_ hp5 h27
  clear hp5
  refine c_any mixed (effs := []) (V := []) ?_
  refine stage_ext [(0, .agg (Aa.k a0 g0_).toArray), (1, vI r2), (2, vB (decide (0 < r2))), (3, vB (decide (0 < r2))), (4, undef), (5, undef), (6, undef), (7, undef), (8, undef), (9, undef), (10, undef), (11, undef), (12, undef), (13, undef), (14, undef), (15, undef), (16, undef), (17, undef), (18, undef), (19, undef), (20, undef), (21, undef), (22, undef), (23, undef), (24, vB false)] z ?_
  refine stage z z z z mk26_ [0, 1, 2, 3, 4, 5, 6, 7, 8, 9, 10, 11, 12, 13, 14, 15, 16, 17, 18, 19, 20, 21, 22, 23, 24] [] z z z (q_u z z (o_ldn 1 (Aa.k a0 g0_) ag32 z z z z) (q_u z z (o_callq ca74 z (Au.ok a0 (⟨(⟨(g0_.R.L.1, [])⟩ : Ac.G)⟩ : Aa.G) h0 0 r2 hr2)) (q_u z z (o_bin z z (bI_gt r2 0)) (q_mv z z z (q_n z z z z h27 (q_n z z z z h27 (q_n z z z z h27 (q_n z z z z h27 (q_n z z z z h27 (q_n z z z z h27 (qc z z (s_nu z z) (qc z z (s_nu z z) (qc z z (s_nu z z) (qc z z (s_nu z z) (qc z z (s_nu z z) (qc z z (s_nu z z) (qc z z (s_nu z z) (qc z z (s_nu z z) (q_n z z z z h27 (q_n z z z z h27 (qc z z (s_nu z z) (qc z z (s_nu z z) (qc z z (s_nu z z) (q_n z z z z h27 (q_u z z (o_pf z h27 z) qn))))))))))))))))))))))))) en ?_
  intro _
  refine ex_sub (E' := [(2, pt b0 0), (4, pt b1 0), (6, vI 1), (33, vB false)]) ⟨z, z, z, z, trivial⟩ ?_
  obtain rfl := si hm28
  exact x_sub K7 ⟨z, z, z, z, trivial⟩ (fun _ h => st_pk 2 [0, 1] (by decide) h)
 have hm28 := ift hp5 h27
 clear hp5
 obtain ⟨p29, hp30, hm31⟩ := bs hm28
 refine cd_join (E' := [(2, pt b0 0), (4, pt b1 0), (6, vI 1), (33, vB p29)]) (L' := Bk b1 32 [vI 0, vI 0, .slice none 0 0, vI 0] :: Bk b0 32 (Aa.k a0 g0_) :: F) ?_ fun K32 => ?_
 ·obtain rfl := si hm31
  exact x_sub K7 ⟨z, z, z, z, trivial⟩ (fun _ h => st_pk 2 [0, 1] (by decide) h)
 refine cd_by (decide (a0.Target < r2)) (fun h33 => ?_) fun h33 => ?_
 ·have hm34 := ift hp30 h33
  clear hp30
  refine c_any mixed (effs := []) (V := []) ?_
  refine stage_ext [(0, .agg (Aa.k a0 g0_).toArray), (1, vI r2), (2, vB (decide (0 < r2))), (3, vB (decide (0 < r2))), (4, .agg (Aa.k a0 g0_).toArray), (5, vI r2), (6, pt b0 1), (7, vI a0.Target), (8, vB (decide (a0.Target < r2))), (9, vB (decide (a0.Target < r2))), (10, undef), (11, undef), (12, undef), (13, undef), (14, undef), (15, undef), (16, undef), (17, undef), (18, vB true), (19, vB true), (20, undef), (21, undef), (22, undef), (23, vB true), (24, vB true)] z ?_
  refine stage z z z z mk26_ [0, 1, 2, 3, 4, 5, 6, 7, 8, 9, 10, 11, 12, 13, 14, 15, 16, 17, 18, 19, 20, 21, 22, 23, 24] [] z z z (q_u z z (o_ldn 1 (Aa.k a0 g0_) ag32 z z z z) (q_u z z (o_callq ca74 z (Au.ok a0 (⟨(⟨(g0_.R.L.1, [])⟩ : Ac.G)⟩ : Aa.G) h0 0 r2 hr2)) (q_u z z (o_bin z z (bI_gt r2 0)) (q_mv z z z (q_y z z z z h27 (o_ldn 1 (Aa.k a0 g0_) ag32 z z z z) (q_y z z z z h27 (o_callq ca74 z (Au.ok a0 (⟨(⟨(g0_.R.L.1, [])⟩ : Ac.G)⟩ : Aa.G) h0 0 r2 hr2)) (q_y z z z z h27 (o_fa fa32_1 z) (q_y z z z z h27 (o_ld 1 sc3 z z z) (q_y z z z z h27 (o_bin z z (bI_gt r2 a0.Target)) (q_y z z z z h27 (o_mv z) (q_n z z z z h33 (q_n z z z z h33 (qc z z (s_nu z z) (qc z z (s_nu z z) (qc z z (s_nu z z) (qc z z (s_nu z z) (qc z z (s_nu z z) (q_n z z z z h33 (q_y z z z z h27 (o_pt z h33 z) (q_y z z z z h27 (o_mv z) (q_n z z z z z (q_n z z z z z (q_n z z z z z (q_y z z z z h27 (o_pt z z z) (q_u z z (o_pt z h27 z) qn))))))))))))))))))))))))) en ?_
  intro _
  refine ex_sub (E' := [(2, pt b0 0), (4, pt b1 0), (6, vI 1), (33, vB true)]) ⟨z, z, z, z, trivial⟩ ?_
  obtain rfl := si hm34
  exact x_sub K32 ⟨z, z, z, z, trivial⟩ (fun _ h => st_pk 2 [0, 1] (by decide) h)
 have hm34 := iff_ hp30 h33
 clear hp30
 obtain ⟨p35, hp36, hm37⟩ := bs hm34
 refine cd_join (E' := [(2, pt b0 0), (4, pt b1 0), (6, vI 1), (33, vB p35)]) (L' := Bk b1 32 [vI 0, vI 0, .slice none 0 0, vI 0] :: Bk b0 32 (Aa.k a0 g0_) :: F) ?_ fun K38 => ?_
 ·obtain rfl := si hm37
  exact x_sub K32 ⟨z, z, z, z, trivial⟩ (fun _ h => st_pk 2 [0, 1] (by decide) h)
 refine cd_by a1 (fun h39 => ?_) fun h39 => ?_
 rotate_left
 ·have hm40 := iff_ hp36 h39
  clear hp36
  obtain ⟨r49, hr49, hm50⟩ := bs hm40
  clear hm40
  refine c_any mixed (effs := []) (V := []) ?_
  refine stage_ext [(0, .agg (Aa.k a0 g0_).toArray), (1, vI r2), (2, vB (decide (0 < r2))), (3, vB (decide (0 < r2))), (4, .agg (Aa.k a0 g0_).toArray), (5, vI r2), (6, pt b0 1), (7, vI a0.Target), (8, vB (decide (a0.Target < r2))), (9, vB (decide (a0.Target < r2))), (10, vB a1), (11, vB a1), (12, undef), (13, undef), (14, undef), (15, undef), (16, undef), (17, vB false), (18, vB false), (19, vB false), (20, .agg (Aa.k a0 g0_).toArray), (21, vI r49), (22, vB (r49 == 0)), (23, vB (r49 == 0)), (24, vB (r49 == 0))] z ?_
  refine stage z z z z mk26_ [0, 1, 2, 3, 4, 5, 6, 7, 8, 9, 10, 11, 12, 13, 14, 15, 16, 17, 18, 19, 20, 21, 22, 23, 24] [] z z z (q_u z z (o_ldn 1 (Aa.k a0 g0_) ag32 z z z z) (q_u z z (o_callq ca74 z (Au.ok a0 (⟨(⟨(g0_.R.L.1, [])⟩ : Ac.G)⟩ : Aa.G) h0 0 r2 hr2)) (q_u z z (o_bin z z (bI_gt r2 0)) (q_mv z z z (q_y z z z z h27 (o_ldn 1 (Aa.k a0 g0_) ag32 z z z z) (q_y z z z z h27 (o_callq ca74 z (Au.ok a0 (⟨(⟨(g0_.R.L.1, [])⟩ : Ac.G)⟩ : Aa.G) h0 0 r2 hr2)) (q_y z z z z h27 (o_fa fa32_1 z) (q_y z z z z h27 (o_ld 1 sc3 z z z) (q_y z z z z h27 (o_bin z z (bI_gt r2 a0.Target)) (q_y z z z z h27 (o_mv z) (q_y z z z z h33 (o_mv z) (q_y z z z z h33 (o_mv z) (q_n z z z z h39 (q_n z z z z h39 (q_n z z z z h39 (q_n z z z z h39 (q_n z z z z h39 (q_y z z z z h33 (o_pf z h39 z) (q_y z z z z h27 (o_pf z h33 z) (q_y z z z z h27 (o_mv z) (q_y z z z z z (o_ldn 1 (Aa.k a0 g0_) ag32 z z z z) (q_y z z z z z (o_callq ca74 z (Au.ok a0 (⟨(⟨(g0_.R.L.1, [])⟩ : Ac.G)⟩ : Aa.G) h0 1 r49 hr49)) (q_y z z z z z (o_bin z z (bI_eq r49 0)) (q_y z z z z h27 (o_pf z z z) (q_u z z (o_pt z h27 z) qn))))))))))))))))))))))))) en ?_
  intro _
  refine ex_sub (E' := [(2, pt b0 0), (4, pt b1 0), (6, vI 1), (33, vB (r49 == 0))]) ⟨z, z, z, z, trivial⟩ ?_
  obtain rfl := si hm50
  exact x_sub K38 ⟨z, z, z, z, trivial⟩ (fun _ h => st_pk 2 [0, 1] (by decide) h)
 have hm40 := ift hp36 h39
 clear hp36
 obtain ⟨p41, hp42, hm43⟩ := bs hm40
 refine cd_join (E' := [(2, pt b0 0), (4, pt b1 0), (6, vI 1), (33, vB p41)]) (L' := Bk b1 32 [vI 0, vI 0, .slice none 0 0, vI 0] :: Bk b0 32 (Aa.k a0 g0_) :: F) ?_ fun K44 => ?_
 ·obtain rfl := si hm43
  exact x_sub K38 ⟨z, z, z, z, trivial⟩ (fun _ h => st_pk 2 [0, 1] (by decide) h)
 refine cd_by (r2 == a0.Target) (fun h45 => ?_) fun h45 => ?_
 ·have hm46 := ift hp42 h45
  clear hp42
  refine c_any mixed (effs := []) (V := []) ?_
  refine stage_ext [(0, .agg (Aa.k a0 g0_).toArray), (1, vI r2), (2, vB (decide (0 < r2))), (3, vB (decide (0 < r2))), (4, .agg (Aa.k a0 g0_).toArray), (5, vI r2), (6, pt b0 1), (7, vI a0.Target), (8, vB (decide (a0.Target < r2))), (9, vB (decide (a0.Target < r2))), (10, vB a1), (11, vB a1), (12, .agg (Aa.k a0 g0_).toArray), (13, vI r2), (14, pt b0 1), (15, vI a0.Target), (16, vB (r2 == a0.Target)), (17, vB (r2 == a0.Target)), (18, vB (r2 == a0.Target)), (19, vB (r2 == a0.Target)), (20, undef), (21, undef), (22, undef), (23, vB true), (24, vB true)] z ?_
  refine stage z z z z mk26_ [0, 1, 2, 3, 4, 5, 6, 7, 8, 9, 10, 11, 12, 13, 14, 15, 16, 17, 18, 19, 20, 21, 22, 23, 24] [] z z z (q_u z z (o_ldn 1 (Aa.k a0 g0_) ag32 z z z z) (q_u z z (o_callq ca74 z (Au.ok a0 (⟨(⟨(g0_.R.L.1, [])⟩ : Ac.G)⟩ : Aa.G) h0 0 r2 hr2)) (q_u z z (o_bin z z (bI_gt r2 0)) (q_mv z z z (q_y z z z z h27 (o_ldn 1 (Aa.k a0 g0_) ag32 z z z z) (q_y z z z z h27 (o_callq ca74 z (Au.ok a0 (⟨(⟨(g0_.R.L.1, [])⟩ : Ac.G)⟩ : Aa.G) h0 0 r2 hr2)) (q_y z z z z h27 (o_fa fa32_1 z) (q_y z z z z h27 (o_ld 1 sc3 z z z) (q_y z z z z h27 (o_bin z z (bI_gt r2 a0.Target)) (q_y z z z z h27 (o_mv z) (q_y z z z z h33 (o_mv z) (q_y z z z z h33 (o_mv z) (q_y z z z z h39 (o_ldn 1 (Aa.k a0 g0_) ag32 z z z z) (q_y z z z z h39 (o_callq ca74 z (Au.ok a0 (⟨(⟨(g0_.R.L.1, [])⟩ : Ac.G)⟩ : Aa.G) h0 0 r2 hr2)) (q_y z z z z h39 (o_fa fa32_1 z) (q_y z z z z h39 (o_ld 1 sc3 z z z) (q_y z z z z h39 (o_bin z z (bI_eq r2 a0.Target)) (q_y z z z z h33 (o_pt z h39 z) (q_y z z z z h27 (o_pf z h33 z) (q_y z z z z h27 (o_mv z) (q_n z z z z h45 (q_n z z z z h45 (q_n z z z z h45 (q_y z z z z h27 (o_pt z h45 z) (q_u z z (o_pt z h27 z) qn))))))))))))))))))))))))) en ?_
  intro _
  refine ex_sub (E' := [(2, pt b0 0), (4, pt b1 0), (6, vI 1), (33, vB true)]) ⟨z, z, z, z, trivial⟩ ?_
  obtain rfl := si hm46
  exact x_sub K44 ⟨z, z, z, z, trivial⟩ (fun _ h => st_pk 2 [0, 1] (by decide) h)
 have hm46 := iff_ hp42 h45
 clear hp42
 obtain ⟨r47, hr47, hm48⟩ := bs hm46
 clear hm46
 refine c_any mixed (effs := []) (V := []) ?_
 refine stage_ext [(0, .agg (Aa.k a0 g0_).toArray), (1, vI r2), (2, vB (decide (0 < r2))), (3, vB (decide (0 < r2))), (4, .agg (Aa.k a0 g0_).toArray), (5, vI r2), (6, pt b0 1), (7, vI a0.Target), (8, vB (decide (a0.Target < r2))), (9, vB (decide (a0.Target < r2))), (10, vB a1), (11, vB a1), (12, .agg (Aa.k a0 g0_).toArray), (13, vI r2), (14, pt b0 1), (15, vI a0.Target), (16, vB (r2 == a0.Target)), (17, vB (r2 == a0.Target)), (18, vB (r2 == a0.Target)), (19, vB (r2 == a0.Target)), (20, .agg (Aa.k a0 g0_).toArray), (21, vI r47), (22, vB (r47 == 0)), (23, vB (r47 == 0)), (24, vB (r47 == 0))] z ?_
 refine stage z z z z mk26_ [0, 1, 2, 3, 4, 5, 6, 7, 8, 9, 10, 11, 12, 13, 14, 15, 16, 17, 18, 19, 20, 21, 22, 23, 24] [] z z z (q_u z z (o_ldn 1 (Aa.k a0 g0_) ag32 z z z z) (q_u z z (o_callq ca74 z (Au.ok a0 (⟨(⟨(g0_.R.L.1, [])⟩ : Ac.G)⟩ : Aa.G) h0 0 r2 hr2)) (q_u z z (o_bin z z (bI_gt r2 0)) (q_mv z z z (q_y z z z z h27 (o_ldn 1 (Aa.k a0 g0_) ag32 z z z z) (q_y z z z z h27 (o_callq ca74 z (Au.ok a0 (⟨(⟨(g0_.R.L.1, [])⟩ : Ac.G)⟩ : Aa.G) h0 0 r2 hr2)) (q_y z z z z h27 (o_fa fa32_1 z) (q_y z z z z h27 (o_ld 1 sc3 z z z) (q_y z z z z h27 (o_bin z z (bI_gt r2 a0.Target)) (q_y z z z z h27 (o_mv z) (q_y z z z z h33 (o_mv z) (q_y z z z z h33 (o_mv z) (q_y z z z z h39 (o_ldn 1 (Aa.k a0 g0_) ag32 z z z z) (q_y z z z z h39 (o_callq ca74 z (Au.ok a0 (⟨(⟨(g0_.R.L.1, [])⟩ : Ac.G)⟩ : Aa.G) h0 0 r2 hr2)) (q_y z z z z h39 (o_fa fa32_1 z) (q_y z z z z h39 (o_ld 1 sc3 z z z) (q_y z z z z h39 (o_bin z z (bI_eq r2 a0.Target)) (q_y z z z z h33 (o_pt z h39 z) (q_y z z z z h27 (o_pf z h33 z) (q_y z z z z h27 (o_mv z) (q_y z z z z h45 (o_ldn 1 (Aa.k a0 g0_) ag32 z z z z) (q_y z z z z h45 (o_callq ca74 z (Au.ok a0 (⟨(⟨(g0_.R.L.1, [])⟩ : Ac.G)⟩ : Aa.G) h0 1 r47 hr47)) (q_y z z z z h45 (o_bin z z (bI_eq r47 0)) (q_y z z z z h27 (o_pf z h45 z) (q_u z z (o_pt z h27 z) qn))))))))))))))))))))))))) en ?_
 intro _
 refine ex_sub (E' := [(2, pt b0 0), (4, pt b1 0), (6, vI 1), (33, vB (r47 == 0))]) ⟨z, z, z, z, trivial⟩ ?_
 obtain rfl := si hm48
 exact x_sub K44 ⟨z, z, z, z, trivial⟩ (fun _ h => st_pk 2 [0, 1] (by decide) h)
def B4 (a0 : Aa) : Option (Aa × Str × Bool) :=
 (AF a0).bind fun r2 => if (r2 == 0) then some (a0, [], false) else (AE a0 false).bind fun r6 => if ((r6.2.length : Int) == 0) then some (a0, [], false) else (gi r6.2 0).bind fun x18 => some (r6.1, x18, true)
theorem B4.ok {G R F} (a0 : Aa) (g0_ : Aa.G) (h0 : Aa.ro R a0 g0_) (r : Aa × Str × Bool) (hm : B4 a0 = some r) : CO Tryz.prog 68 [.agg (Aa.k a0 g0_).toArray] G R (F)
  (Ret fun u R' L' => ∃ (p0 : Aa.G), u = .tuple #[.agg (Aa.k r.1 p0).toArray, vS r.2.1, vB r.2.2] ∧ (Aa.ro R' r.1 p0) ∧ L' = F) := by
 unfold B4 at hm
 refine co_ofN (N := 24) Tryz.func68 z z ?_
 refine csr ?_
 refine r_new (o_bx (Aa.k a0 g0_) z z) fun b0 => ?_
 refine r_new (o_al ze32) fun b1 => ?_
 refine r_as z (r_as z ?_)
 refine nssr ?_
 refine r_u (o_ldn 1 (Aa.k a0 g0_) ag32 z z z z) ?_
 obtain ⟨r2, hr2, hm3⟩ := bs hm
 clear hm
 refine r_u (o_callq ca35 z (AF.ok a0 (⟨(⟨(g0_.R.L.1, [])⟩ : Ac.G)⟩ : Aa.G) h0 r2 hr2)) (r_bin z z (bI_eq r2 0) ?_)
 refine nsq ?_
 refine c_if (b := (r2 == 0)) z (fun h4 => ?_) fun h4 => ?_
 ·have hm5 := ift hm3 h4
  clear hm3
  refine csr ?_
  refine r_u (o_ldn 1 (Aa.k a0 g0_) ag32 z z z z) ?_
  refine r_u0 (o_stn ag32 z z z (al_c z (al_c z (al_c (RoN.one h0) (al_c z al_n)))) z z z) ?_
  refine r_as z (r_as z ?_)
  refine r_nil (x_seq (c_ret ?_))
  obtain rfl := si hm5
  exact x_d3 z (rv_n 0 (Aa.k a0 g0_) ag32 z z z z) (rv_t z) (rv_t z) (fun _ h => st_pk 2 [] (by decide) h) (Le.refl _) ⟨_, z, (⟨(⟨(g0_.R.L.1, [])⟩ : Ac.G)⟩ : Aa.G), z, h0, z⟩
 have hm5 := iff_ hm3 h4
 clear hm3
 refine c_skip (x_seq (csr ?_))
 refine r_u (o_ldn 1 (Aa.k a0 g0_) ag32 z z z z) ?_
 obtain ⟨r6, hr6, hm14⟩ := bs hm5
 clear hm5
 refine r_sw (s_w (o_call ca106 z (AE.ok a0 (⟨(⟨(g0_.R.L.1, [])⟩ : Ac.G)⟩ : Aa.G) h0 false r6 hr6))) ?_
 rintro _ R12 _ le13 ⟨v7, v11, rfl, hf8, rfl⟩
 refine r_mv z ?_
 refine r_ext z z ?_
 refine r_ext z z ?_
 refine r_new (o_al ze32) fun b15 => ?_
 refine r_u0 (o_stn ag32 z z z (al_c z (al_c z (al_c (RoN.one hf8) (al_c z al_n)))) z z z) ?_
 refine r_as z ?_
 refine nssr ?_
 refine r_mv z (r_u (o_lenO 1 Tryz.underlying57 z z) (r_bin z z (bI_eq (r6.2.length : Int) 0) ?_))
 refine nsq ?_
 refine c_if (b := ((r6.2.length : Int) == 0)) z (fun h16 => ?_) fun h16 => ?_
 ·have hm17 := ift hm14 h16
  clear hm14
  refine csr ?_
  refine r_u (o_ldn 3 (Aa.k a0 g0_) ag32 z z z z) ?_
  refine rl_st (fun _ h => mv2 h) ?_
  refine r_u0 (o_stn ag32 z z z (al_c z (al_c z (al_c (RoN.one (RoN.mono le13 h0)) (al_c z al_n)))) z z z) ?_
  refine r_as z (r_as z ?_)
  refine r_nil (x_seq (c_ret ?_))
  obtain rfl := si hm17
  exact x_d3 z (rv_n 0 (Aa.k a0 g0_) ag32 z z z z) (rv_t z) (rv_t z) (fun _ h => st_pk 4 [] (by decide) h) le13 ⟨_, z, (⟨(⟨(g0_.R.L.1, [])⟩ : Ac.G)⟩ : Aa.G), z, (RoN.mono le13 h0), z⟩
 have hm17 := iff_ hm14 h16
 clear hm14
 refine c_skip (x_seq (c_seq ?_))
 obtain ⟨x18, hx18, hm19⟩ := bs hm17
 clear hm17
 refine c_any mixed (effs := [4]) (V := []) ?_
 refine stage_st (fun _ h => mv2 h) ?_
 refine stage_ext [(0, .agg (Aa.k r6.1 v7).toArray), (1, v11), (2, pt (sb v11) (so v11 + (0 : Int).toNat * 1)), (3, vS x18)] z ?_
 refine stage z z z z [0, 0, 2, 6, 1, 31, 63] [0, 1, 2, 3] [4] z z z (q_u z z (o_ldn 1 (Aa.k r6.1 v7) ag32 z z z z) (q_mv z z z (q_u z z (o_ixO 2 Tryz.underlying57 (fun _ => by kernel_rfl) z z z hx18) (q_u z z (o_ldO0 2 sc9 z z hx18 z z) qn)))) ?_ (nxt z)
 refine ec (eo_u z (s_u (o_stn ag32 z z z (al_c z (al_c z (al_c (RoN.one hf8) (al_c z al_n)))) z z z)) (Le.refl _) ?_) en
 refine stage_ext [(5, vS x18), (6, vB true)] z ?_
 refine stage z z z z [0, 0, 2, 6, 1, 31, 63] [1, 2, 3, 5, 6] [] z z z (q_mv z z z (q_u z z (o_ixO 2 Tryz.underlying57 (fun _ => by kernel_rfl) z z z hx18) (q_u z z (o_ldO0 2 sc9 z z hx18 z z) (q_u z z (o_as z) (q_u z z (o_as z) qn))))) en ?_
 intro _
 refine ex_sub (E' := [(2, pt b1 0), (3, vS x18), (4, vB true)]) ⟨z, z, z, trivial⟩ ?_
 refine x_seq (c_ret ?_)
 obtain rfl := si hm19
 exact x_d3 z (rv_n 0 (Aa.k r6.1 v7) ag32 z z z z) (rv_t z) (rv_t z) (fun _ h => st_pk 4 [] (by decide) h) le13 ⟨_, z, (⟨(⟨(v7.R.L.1, [])⟩ : Ac.G)⟩ : Aa.G), z, hf8, z⟩
def A8 (a0 : Ad) : Nat → Int → Option (Unit ⊕ (Ad × Str × Bool))
 | 0, _ => none
 | k9 + 1, i_8 => if decide (i_8 < 3) then (gi [1, 0, 2] i_8).bind fun x14 => (Ar a0.R x14).bind fun r16 => if r16.2 then (Az a0.R r16.1).bind fun r20 => some (Sum.inr ((⟨a0.Most, a0.S, r20⟩ : Ad), r16.1, true)) else A8 a0 k9 (i64 (i_8 + 1)) else some (Sum.inl ())
def BW (a0 : Ad) : Option (Ad × Str × Bool) :=
 Option.bind (A8 a0 4 0) fun (p3 : Unit ⊕ (Ad × Str × Bool)) => (match p3 with | Sum.inl q4 => some (a0, [], false) | Sum.inr r => some r)
theorem BW.ok {G R F} (a0 : Ad) (g0_ : Ad.G) (h0 : Ad.ro R a0 g0_) (r : Ad × Str × Bool) (hm : BW a0 = some r) : CO Tryz.prog 69 [.agg (Ad.k a0 g0_).toArray] G R (F)
  (Ret fun u R' L' => ∃ (p0 : Ad.G), u = .tuple #[.agg (Ad.k r.1 p0).toArray, vS r.2.1, vB r.2.2] ∧ (Ad.ro R' r.1 p0) ∧ L' = F) := by
 unfold BW at hm
 refine co_ofN (N := 33) Tryz.func69 z z ?_
 refine csr ?_
 refine r_new (o_bx (Ad.k a0 g0_) z z) fun b0 => ?_
 refine r_new (o_al ze38) fun b1 => ?_
 refine r_as z (r_as z ?_)
 refine nsr ?_
 refine r_sw (s_w (o_bsl (en := eI) (sz := 1) (e := 3) (cs := [vI 1, vI 0, vI 2]) (r := [1, 0, 2]) z (fun _ => by kernel_rfl) z (by decide) z (fun _ => z))) ?_
 rintro v2 R _ _ ⟨rfl, rfl⟩
 refine r_as z ?_
 refine nssr ?_
 refine r_as z ?_
 refine nsq ?_
 obtain ⟨p3, hp5, hm6⟩ := bs hm
 refine cd_joinS (p := p3) (Ef := fun q4 => [(1, pt b0 0), (2, pt b1 0)]) (Lf := fun q4 => Bk b1 38 [vI 0, vI 0, vW 0, .slice none 0 0, .slice none 0 0, vI 0, .slice none 0 0, vI 0] :: Bk b0 38 (Ad.k a0 g0_) :: OwS true 3 1 eI v2 [1, 0, 2] :: F) (fun q4 hq => ?_) fun K7 => ?_
 ·subst hq
  try dsimp only at hm6
  refine x_seq (csr ?_)
  refine r_u (o_ldn 1 (Ad.k a0 g0_) ag38 z z z z) ?_
  refine r_u0 (o_stn ag38 z z z (al_c z (al_c z (al_c z (al_c (RoN.one h0.1.1) (al_c (RoS.one h0.1.2) (al_c z (al_c (RoN.one h0.2) (al_c z al_n)))))))) z z z) ?_
  refine r_as z (r_as z ?_)
  refine r_nil (x_seq (c_ret ?_))
  obtain rfl := si hm6
  exact x_d3 z (rv_n 0 (Ad.k a0 g0_) ag38 z z z z) (rv_t z) (rv_t z) (fun _ h => st_pk 3 [] (by decide) h) (Le.refl _) ⟨_, z, (⟨(⟨(g0_.S.Rows.1, []), g0_.S.Door⟩ : Af.G), (⟨(g0_.R.L.1, [])⟩ : Ac.G)⟩ : Ad.G), z, ⟨⟨h0.1.1, h0.1.2⟩, h0.2⟩, z⟩
 refine c_blk ?_
 refine cd_loop (M := fun k9 (i_8 : Int) => A8 a0 k9 i_8 = some p3) (Ef := fun (i_8 : Int) => [(1, pt b0 0), (2, pt b1 0), (5, v2), (6, vI i_8)]) (Lf := fun (i_8 : Int) => Bk b1 38 [vI 0, vI 0, vW 0, .slice none 0 0, .slice none 0 0, vI 0, .slice none 0 0, vI 0] :: Bk b0 38 (Ad.k a0 g0_) :: OwS true 3 1 eI v2 [1, 0, 2] :: F) 4 0 hp5 ⟨z, z, z, z, trivial⟩ (fun _ h => st_pk 3 [1, 2, 0] (by decide) h) (fun _ h => by cases h) fun k9 i_8 hM11 => ?_
 have hm10 : A8 a0 (k9 + 1) i_8 = some p3 := hM11
 rw [A8] at hm10
 refine c_seq (csr ?_)
 refine r_mv z (r_bin z z (bI_lt i_8 3) ?_)
 refine nsq ?_
 refine c_if (b := decide (i_8 < 3)) z (fun h12 => ?_) fun h12 => ?_
 rotate_left
 ·have hm13 := iff_ hm10 h12
  clear hm10
  refine c_exit (x_exit (ks' := _) z ?_)
  obtain rfl := si hm13
  exact x_sub (K7 _ z) ⟨z, z, trivial⟩ (fun _ h => st_pk 3 [0, 1, 2] (by decide) h)
 have hm13 := ift hm10 h12
 clear hm10
 refine c_skip (x_seq (c_seq (c_blk (c_seq ?_))))
 obtain ⟨x14, hx14, hm15⟩ := bs hm13
 clear hm13
 obtain ⟨r16, hr16, hm17⟩ := bs hm15
 clear hm15
 refine c_any mixed (effs := []) (V := []) ?_
 refine stage_ext [(0, pt b0 6), (1, .agg [g0_.R.L.1, vI a0.R.Places].toArray), (2, v2), (3, vI i_8), (4, pt (sb v2) (so v2 + i_8.toNat * 1)), (5, vI x14), (6, .tuple #[vS r16.1, vB r16.2]), (7, .tuple #[vS r16.1, vB r16.2]), (8, vS r16.1), (9, vB r16.2), (10, vS r16.1), (11, vB r16.2)] z ?_
 refine stage z z z z [0, 1, 0, 0, 12, 28, 63, 127, 255, 255, 511, 2047] [0, 1, 2, 3, 4, 5, 6, 7, 8, 9, 10, 11] [] z z z (q_fa z z fa38_2 z (q_u z z (o_ldn 1 [g0_.R.L.1, vI a0.R.Places] ag30 z z z z) (q_mv z z z (q_mv z z z (q_u z z (o_ixO 2 Tryz.underlying135 (fun _ => by kernel_rfl) z z z hx14) (q_u z z (o_ldO0 2 sc3 z z hx14 z z) (q_u z z (o_callq ca104 z (Ar.ok a0.R (⟨(g0_.R.L.1, [])⟩ : Ac.G) h0.2 x14 r16 hr16)) (q_mv z z z (q_u z z (o_ext z z) (q_u z z (o_ext z z) (q_u z z (o_as z) (q_u z z (o_as z) qn)))))))))))) en ?_
 intro _
 refine ex_sub (E' := [(1, pt b0 0), (2, pt b1 0), (5, v2), (6, vI i_8), (7, vS r16.1), (8, vB r16.2)]) ⟨z, z, z, z, z, z, trivial⟩ ?_
 refine x_seq (csr ?_)
 refine r_mv z ?_
 refine nsq ?_
 refine c_if (b := r16.2) z (fun h18 => ?_) fun h18 => ?_
 rotate_left
 ·have hm19 := iff_ hm17 h18
  clear hm17
  refine c_skip (x_blk (x_seq (c_reg ?_)))
  refine r_mv z (r_bin z z (bI_add i_8 1) (r_as z ?_))
  refine r_nil ?_
  exact x_lp (i64 (i_8 + 1)) hm19 ⟨z, z, z, z, trivial⟩ (fun _ h => st_pk 3 [0, 1, 2] (by decide) h)
 have hm19 := ift hm17 h18
 clear hm17
 refine csr ?_
 refine r_fa fa38_2 z ?_
 refine r_u (o_ldn 1 [g0_.R.L.1, vI a0.R.Places] ag30 z z z z) (r_mv z ?_)
 obtain ⟨r20, hr20, hm23⟩ := bs hm19
 clear hm19
 refine r_sw (s_w (o_call ca105 z (Az.ok a0.R (⟨(g0_.R.L.1, [])⟩ : Ac.G) h0.2 r16.1 r20 hr20))) ?_
 rintro _ R _ _ ⟨v21, rfl, rfl, rfl⟩
 refine r_fa fa38_2 z ?_
 refine rl_st (fun _ h => mv3 h) ?_
 refine r_u0 (ou_if (one_o 1 z) fun ho0 => o_stn ag30 z z z (al_c ho0 (al_c z al_n)) z z z) ?_
 refine nsr ?_
 refine r_u (o_ldn 0 [vI a0.Most, vI a0.S.Wide, vW a0.S.Seed, g0_.S.Rows.1, g0_.S.Door, vI a0.S.Added, v21.L.1, vI r20.Places] ag38 z z z z) (r_mv z ?_)
 refine rl_st (fun _ h => mv3 (mv1 h)) ?_
 refine r_u0 (ou_if (one_o 1 z) fun ho0 => o_stn ag38 z z z (al_c z (al_c z (al_c z (al_c (RoN.one h0.1.1) (al_c (RoS.one h0.1.2) (al_c z (al_c ho0 (al_c z al_n)))))))) z z z) ?_
 refine r_as z (r_as z ?_)
 refine r_nil (x_seq (c_ret ?_))
 obtain rfl := si hm23
 try dsimp only at hm6
 refine ex_st (fun _ h => mv2 (mv3 h)) ?_
 refine ex_ex (fun w h => st_freezeN w h) fun R24 hf27 => ?_
 obtain ⟨le25, h26⟩ := hf27
 obtain rfl := si hm6
 exact x_d3 z (rv_n 0 [vI a0.Most, vI a0.S.Wide, vW a0.S.Seed, g0_.S.Rows.1, g0_.S.Door, vI a0.S.Added, v21.L.1, vI r20.Places] ag38 z z z z) (rv_t z) (rv_t z) (fun _ h => st_pk 3 [] (by decide) h) le25 ⟨_, z, (⟨(⟨(g0_.S.Rows.1, []), g0_.S.Door⟩ : Af.G), (⟨(v21.L.1, [])⟩ : Ac.G)⟩ : Ad.G), z, ⟨⟨(RoN.mono le25 h0.1.1), (RoS.mono le25 h0.1.2)⟩, h26⟩, z⟩
def BK (a0 : Ah) : Option (Ah × Str × Bool) :=
 if (a0.Kind == 1) then (B4 a0.A).bind fun r4 => some ((⟨a0.Kind, r4.1, a0.T⟩ : Ah), r4.2.1, r4.2.2) else (BW a0.T).bind fun r12 => some ((⟨a0.Kind, a0.A, r12.1⟩ : Ah), r12.2.1, r12.2.2)
theorem BK.ok {G R F} (a0 : Ah) (g0_ : Ah.G) (h0 : Ah.ro R a0 g0_) (r : Ah × Str × Bool) (hm : BK a0 = some r) : CO Tryz.prog 30 [.agg (Ah.k a0 g0_).toArray] G R (F)
  (Ret fun u R' L' => ∃ (p0 : Ah.G), u = .tuple #[.agg (Ah.k r.1 p0).toArray, vS r.2.1, vB r.2.2] ∧ (Ah.ro R' r.1 p0) ∧ L' = F) := by
 unfold BK at hm
 refine co_ofN (N := 29) Tryz.func30 z z ?_
 refine csr ?_
 refine r_new (o_bx (Ah.k a0 g0_) z z) fun b0 => ?_
 refine r_new (o_al ze40) fun b1 => ?_
 refine r_as z (r_as z ?_)
 refine nsr ?_
 refine r_as z (r_as z ?_)
 refine nssr ?_
 refine r_fa fa40_0 z (r_ld 1 sc3 z z z (r_bin z z (bI_eq a0.Kind 1) ?_))
 refine nsq ?_
 refine c_if (b := (a0.Kind == 1)) z (fun h2 => ?_) fun h2 => ?_
 ·have hm3 := ift hm h2
  clear hm
  refine c_reg ?_
  refine r_fa fa40_1 z ?_
  refine r_u (o_ldn 1 (Aa.k a0.A g0_.A) ag32 z z z z) ?_
  obtain ⟨r4, hr4, hm11⟩ := bs hm3
  clear hm3
  refine r_sw (s_w (o_call ca68 z (B4.ok a0.A (⟨(⟨(g0_.A.R.L.1, [])⟩ : Ac.G)⟩ : Aa.G) h0.1 r4 hr4))) ?_
  rintro _ R9 _ le10 ⟨v5, rfl, hf6, rfl⟩
  refine r_mv z ?_
  refine r_ext z z ?_
  refine r_ext z z ?_
  refine r_ext z z (r_fa fa40_1 z ?_)
  refine rl_st (fun _ h => mv1 h) ?_
  refine r_u0 (o_stn ag32 z z z (al_c z (al_c z (al_c (RoN.one hf6) (al_c z al_n)))) z z z) ?_
  refine r_as z (r_as z ?_)
  refine nsr ?_
  refine r_u (o_ldn 0 [vI a0.Kind, vI r4.1.Most, vI r4.1.Target, v5.R.L.1, vI r4.1.R.Places, vI a0.T.Most, vI a0.T.S.Wide, vW a0.T.S.Seed, g0_.T.S.Rows.1, g0_.T.S.Door, vI a0.T.S.Added, g0_.T.R.L.1, vI a0.T.R.Places] ag40 z z z z) (r_mv z (r_mv z ?_))
  refine rl_st (fun _ h => mv1 h) ?_
  refine r_u0 (o_stn ag40 z z z (al_c z (al_c z (al_c z (al_c (RoN.one hf6) (al_c z (al_c z (al_c z (al_c z (al_c (RoN.one (RoN.mono le10 h0.2.1.1)) (al_c (RoS.one (RoS.mono le10 h0.2.1.2)) (al_c z (al_c (RoN.one (RoN.mono le10 h0.2.2)) (al_c z al_n))))))))))))) z z z) ?_
  refine r_as z (r_as z ?_)
  refine r_nil (x_seq (c_ret ?_))
  obtain rfl := si hm11
  exact x_d3 z (rv_n 0 [vI a0.Kind, vI r4.1.Most, vI r4.1.Target, v5.R.L.1, vI r4.1.R.Places, vI a0.T.Most, vI a0.T.S.Wide, vW a0.T.S.Seed, g0_.T.S.Rows.1, g0_.T.S.Door, vI a0.T.S.Added, g0_.T.R.L.1, vI a0.T.R.Places] ag40 z z z z) (rv_t z) (rv_t z) (fun _ h => st_pk 2 [] (by decide) h) le10 ⟨_, z, (⟨(⟨(⟨(v5.R.L.1, [])⟩ : Ac.G)⟩ : Aa.G), (⟨(⟨(g0_.T.S.Rows.1, []), g0_.T.S.Door⟩ : Af.G), (⟨(g0_.T.R.L.1, [])⟩ : Ac.G)⟩ : Ad.G)⟩ : Ah.G), z, ⟨hf6, ⟨⟨(RoN.mono le10 h0.2.1.1), (RoS.mono le10 h0.2.1.2)⟩, (RoN.mono le10 h0.2.2)⟩⟩, z⟩
 have hm3 := iff_ hm h2
 clear hm
 refine c_reg ?_
 refine r_fa fa40_2 z ?_
 refine r_u (o_ldn 1 (Ad.k a0.T g0_.T) ag38 z z z z) ?_
 obtain ⟨r12, hr12, hm22⟩ := bs hm3
 clear hm3
 refine r_sw (s_w (o_call ca69 z (BW.ok a0.T (⟨(⟨(g0_.T.S.Rows.1, []), g0_.T.S.Door⟩ : Af.G), (⟨(g0_.T.R.L.1, [])⟩ : Ac.G)⟩ : Ad.G) ⟨⟨h0.2.1.1, h0.2.1.2⟩, h0.2.2⟩ r12 hr12))) ?_
 rintro _ R20 _ le21 ⟨v13, rfl, hf14, rfl⟩
 refine r_mv z ?_
 refine r_ext z z ?_
 refine r_ext z z ?_
 refine r_ext z z (r_fa fa40_2 z ?_)
 refine rl_st (fun _ h => mv1 h) ?_
 refine r_u0 (o_stn ag38 z z z (al_c z (al_c z (al_c z (al_c (RoN.one hf14.1.1) (al_c (RoS.one hf14.1.2) (al_c z (al_c (RoN.one hf14.2) (al_c z al_n)))))))) z z z) ?_
 refine r_as z (r_as z ?_)
 refine nsr ?_
 refine r_u (o_ldn 0 [vI a0.Kind, vI a0.A.Most, vI a0.A.Target, g0_.A.R.L.1, vI a0.A.R.Places, vI r12.1.Most, vI r12.1.S.Wide, vW r12.1.S.Seed, v13.S.Rows.1, v13.S.Door, vI r12.1.S.Added, v13.R.L.1, vI r12.1.R.Places] ag40 z z z z) (r_mv z (r_mv z ?_))
 refine rl_st (fun _ h => mv1 h) ?_
 refine r_u0 (o_stn ag40 z z z (al_c z (al_c z (al_c z (al_c (RoN.one (RoN.mono le21 h0.1)) (al_c z (al_c z (al_c z (al_c z (al_c (RoN.one hf14.1.1) (al_c (RoS.one hf14.1.2) (al_c z (al_c (RoN.one hf14.2) (al_c z al_n))))))))))))) z z z) ?_
 refine r_as z (r_as z ?_)
 refine r_nil (x_seq (c_ret ?_))
 obtain rfl := si hm22
 exact x_d3 z (rv_n 0 [vI a0.Kind, vI a0.A.Most, vI a0.A.Target, g0_.A.R.L.1, vI a0.A.R.Places, vI r12.1.Most, vI r12.1.S.Wide, vW r12.1.S.Seed, v13.S.Rows.1, v13.S.Door, vI r12.1.S.Added, v13.R.L.1, vI r12.1.R.Places] ag40 z z z z) (rv_t z) (rv_t z) (fun _ h => st_pk 2 [] (by decide) h) le21 ⟨_, z, (⟨(⟨(⟨(g0_.A.R.L.1, [])⟩ : Ac.G)⟩ : Aa.G), (⟨(⟨(v13.S.Rows.1, []), v13.S.Door⟩ : Af.G), (⟨(v13.R.L.1, [])⟩ : Ac.G)⟩ : Ad.G)⟩ : Ah.G), z, ⟨(RoN.mono le21 h0.1), ⟨⟨hf14.1.1, hf14.1.2⟩, hf14.2⟩⟩, z⟩
def Dd (a0 : Al) : Option (Str × Bool × Al) :=
 (B0 a0).bind fun r3 => if (r3 == 0) then some ([], false, a0) else (Bt a0 false).bind fun r7 => (gi r7.1 0).bind fun x14 => some (x14, true, r7.2)
theorem Dd.ok {G R F} (b0_ : Nat) (a0 : Al) (g0_ : Al.G) (r : Str × Bool × Al) (hm : Dd a0 = some r) : CO Tryz.prog 53 [pt b0_ 0] G R (Bk b0_ 86 [vI a0.most, vI a0.target, g0_.r.1] :: rO (Ae.op g0_.r.2) g0_.r.1 a0.r :: F)
  (Ret fun u R' L' => ∃ (q0 : Al.G), u = .tuple #[vS r.1, vB r.2.1] ∧ R' = R ∧ L' = Bk b0_ 86 [vI r.2.2.most, vI r.2.2.target, q0.r.1] :: rO (Ae.op q0.r.2) q0.r.1 r.2.2.r :: F) := by
 obtain ⟨⟨pv1, g2⟩⟩ := g0_
 unfold Dd at hm
 refine co_ofN (N := 11) Tryz.func53 z z ?_
 refine csr ?_
 refine r_as z (r_as z ?_)
 refine nssr ?_
 refine r_mv z ?_
 obtain ⟨r3, hr3, hm4⟩ := bs hm
 clear hm
 refine r_c (s_w (o_call ca33 z (B0.ok b0_ a0 (⟨(pv1, g2)⟩ : Al.G) r3 hr3))) ?_
 refine r_bin z z (bI_eq r3 0) ?_
 refine nsq ?_
 refine c_if (b := (r3 == 0)) z (fun h5 => ?_) fun h5 => ?_
 ·have hm6 := ift hm4 h5
  clear hm4
  refine csr ?_
  refine r_as z (r_as z ?_)
  refine r_nil (x_seq (c_ret ?_))
  obtain rfl := si hm6
  exact x_r2 z (rv_t z) (rv_t z) (Le.refl _) ⟨_, z, (⟨(pv1, g2)⟩ : Al.G), z, z, z⟩
 have hm6 := iff_ hm4 h5
 clear hm4
 refine c_skip (x_seq (csr ?_))
 refine r_mv z ?_
 obtain ⟨r7, hr7, hm13⟩ := bs hm6
 clear hm6
 refine r_sw (s_w (o_call ca95 z (Bt.ok b0_ a0 (⟨(pv1, g2)⟩ : Al.G) false r7 hr7))) ?_
 rintro v8 R _ _ ⟨_, ⟨⟨pv11, g12⟩⟩, rfl, rfl, rfl⟩
 obtain ⟨x14, hx14, hm15⟩ := bs hm13
 clear hm13
 refine r_u (o_ixO 0 Tryz.underlying57 (fun _ => by kernel_rfl) z z z hx14) (r_u (o_ldO0 0 sc9 z z hx14 z z) (r_as z (r_as z ?_)))
 refine r_nil (x_seq (c_ret ?_))
 obtain rfl := si hm15
 refine ex_st (fun _ h => st_pk 3 [1, 2] (by decide) h) ?_
 exact x_r2 z (rv_t z) (rv_t z) (Le.refl _) ⟨_, z, (⟨(pv11, g12)⟩ : Al.G), z, z, z⟩
def CZ (a0 : Ak) : Option (Str × Bool × Ak) :=
 (AI a0).bind fun r6 => if (r6 == 0) then some ([], false, a0) else om a0.r (none) fun x10 => (Ay x10 1).bind fun r18 => Option.bind (if !r18.2 then (Ay x10 0).bind fun r41 => some (r41.1, r41.2) else some (r18.1, r18.2)) fun p20 => Option.bind (if !p20.2 then (Ay x10 2).bind fun r37 => some r37.1 else some p20.1) fun p24 => (AK x10 p24).bind fun r28 => some (p24, true, (⟨a0.most, a0.s, (some r28.2)⟩ : Ak))
theorem CZ.ok {G R F} (b0_ : Nat) (a0 : Ak) (g0_ : Ak.G) (r : Str × Bool × Ak) (hm : CZ a0 = some r) : CO Tryz.prog 54 [pt b0_ 0] G R (Bk b0_ 92 [vI a0.most, g0_.s.1, g0_.r.1] :: rO (Aj.op g0_.s.2) g0_.s.1 a0.s :: rO (Ae.op g0_.r.2) g0_.r.1 a0.r :: F)
  (Ret fun u R' L' => ∃ (q0 : Ak.G), u = .tuple #[vS r.1, vB r.2.1] ∧ R' = R ∧ L' = Bk b0_ 92 [vI r.2.2.most, q0.s.1, q0.r.1] :: rO (Aj.op q0.s.2) q0.s.1 r.2.2.s :: rO (Ae.op q0.r.2) q0.r.1 r.2.2.r :: F) := by
 obtain ⟨⟨pv1, g2⟩, ⟨pv4, g5⟩⟩ := g0_
 unfold CZ at hm
 refine co_ofN (N := 44) Tryz.func54 z z ?_
 refine csr ?_
 refine r_as z (r_as z ?_)
 refine nssr ?_
 refine r_mv z ?_
 obtain ⟨r6, hr6, hm7⟩ := bs hm
 clear hm
 refine r_c (s_w (o_call ca34 z (AI.ok b0_ a0 (⟨(pv1, g2), (pv4, g5)⟩ : Ak.G) r6 hr6))) ?_
 refine r_bin z z (bI_eq r6 0) ?_
 refine nsq ?_
 refine c_if (b := (r6 == 0)) z (fun h8 => ?_) fun h8 => ?_
 ·have hm9 := ift hm7 h8
  clear hm7
  refine csr ?_
  refine r_as z (r_as z ?_)
  refine r_nil (x_seq (c_ret ?_))
  obtain rfl := si hm9
  exact x_r2 z (rv_t z) (rv_t z) (Le.refl _) ⟨_, z, (⟨(pv1, g2), (pv4, g5)⟩ : Ak.G), z, z, z⟩
 have hm9 := iff_ hm7 h8
 clear hm7
 refine c_skip (x_seq (c_seq ?_))
 refine cd_st (fun _ h => mv2 h) ?_
 refine cd_opt (fun ho12 => ?_) (fun x10 b11 ho12 => ?_)
 ·rintro rfl
  have hm13 := om_n hm9 ho12
  clear hm9
  cases hm13
 rintro rfl
 have hm13 := om_s hm9 ho12
 clear hm9
 refine cd_st (fun _ h => st_star_o h) ?_
 refine c_reg ?_
 refine r_mv z (r_nc z (r_fa fa92_2 z (r_ld 5 sc82 z z z ?_)))
 obtain ⟨r18, hr18, hm19⟩ := bs hm13
 clear hm13
 refine r_c (s_w (o_call ca93 z (Ay.ok b11 x10 g5 1 r18 hr18))) ?_
 refine r_mv z ?_
 refine r_ext z z ?_
 refine r_ext z z (r_as z (r_as z ?_))
 refine nssr ?_
 refine r_mv z ?_
 refine r_u (o_not z) ?_
 refine nsq ?_
 obtain ⟨p20, hp21, hm22⟩ := bs hm19
 refine cd_join (E' := [(0, pt b0_ 0), (4, vS p20.1), (5, vB p20.2)]) (L' := Bk b11 138 (Ae.k x10 g5) :: Bk b0_ 92 [vI a0.most, pv1, pt b11 0] :: OwS true 140 4 Ap.c g5.slots x10.slots :: OwS true 3 1 eI g5.free x10.free :: OwM vS vI g5.at_ x10.at_ :: OwS true 3 1 eI g5.many x10.many :: rO (Aj.op g2) pv1 a0.s :: F) ?_ fun K23 => ?_
 rotate_left
 ·refine c_if (b := !r18.2) z (fun h39 => ?_) fun h39 => ?_
  ·have hm40 := ift hp21 h39
   clear hp21
   refine c_reg ?_
   refine r_mv z (r_nc z (r_fa fa92_2 z (r_ld 5 sc82 z z z ?_)))
   obtain ⟨r41, hr41, hm42⟩ := bs hm40
   clear hm40
   refine r_c (s_w (o_call ca93 z (Ay.ok b11 x10 g5 0 r41 hr41))) ?_
   refine r_mv z ?_
   refine r_ext z z ?_
   refine r_ext z z (r_as z (r_as z ?_))
   refine r_nil ?_
   obtain rfl := si hm42
   exact x_sub K23 ⟨z, z, z, trivial⟩ (fun _ h => st_pk 7 [0, 5, 1, 2, 3, 4, 6] (by decide) h)
  have hm40 := iff_ hp21 h39
  clear hp21
  refine c_skip ?_
  obtain rfl := si hm40
  exact x_sub K23 ⟨z, z, z, trivial⟩ (fun _ h => st_pk 7 [0, 5, 1, 2, 3, 4, 6] (by decide) h)
 refine x_seq (c_seq (csr ?_))
 refine r_mv z ?_
 refine r_u (o_not z) ?_
 refine nsq ?_
 obtain ⟨p24, hp25, hm26⟩ := bs hm22
 refine cd_join (E' := [(0, pt b0_ 0), (4, vS p24)]) (L' := Bk b11 138 (Ae.k x10 g5) :: Bk b0_ 92 [vI a0.most, pv1, pt b11 0] :: OwS true 140 4 Ap.c g5.slots x10.slots :: OwS true 3 1 eI g5.free x10.free :: OwM vS vI g5.at_ x10.at_ :: OwS true 3 1 eI g5.many x10.many :: rO (Aj.op g2) pv1 a0.s :: F) ?_ fun K27 => ?_
 ·refine x_seq (csr ?_)
  refine r_mv z (r_nc z (r_fa fa92_2 z (r_ld 1 sc82 z z z (r_mv z ?_))))
  obtain ⟨r28, hr28, hm34⟩ := bs hm26
  clear hm26
  refine rl_st (fun _ h => mv4 (mv5 (mv5 (mv5 (mv5 h))))) ?_
  refine r_sw (s_w (o_call ca94 z (AK.ok b11 x10 g5 p24 r28 hr28))) ?_
  rintro _ R _ _ ⟨g29, rfl, rfl, rfl⟩
  refine nsr ?_
  refine r_mv z (r_as z (r_as z ?_))
  refine r_nil (x_seq (c_ret ?_))
  refine ex_st (fun _ h => st_some (f := Ae.op g29) (a := r28.2) (st_star_f (A := Ae.fl b11 r28.2 g29) h)) ?_
  obtain rfl := si hm34
  refine ex_st (fun _ h => st_pk 3 [1, 2, 0] (by decide) h) ?_
  exact x_r2 z (rv_t z) (rv_t z) (Le.refl _) ⟨_, z, (⟨(pv1, g2), (pt b11 0, g29)⟩ : Ak.G), z, z, z⟩
 refine c_if (b := !p20.2) z (fun h35 => ?_) fun h35 => ?_
 ·have hm36 := ift hp25 h35
  clear hp25
  refine c_reg ?_
  refine r_mv z (r_nc z (r_fa fa92_2 z (r_ld 1 sc82 z z z ?_)))
  obtain ⟨r37, hr37, hm38⟩ := bs hm36
  clear hm36
  refine rl_st (fun _ h => mv4 (mv5 (mv5 (mv5 (mv5 h))))) ?_
  refine r_c (s_w (o_call ca93 z (Ay.ok b11 x10 g5 2 r37 hr37))) ?_
  refine r_mv z ?_
  refine r_ext z z ?_
  refine r_ext z z (r_as z ?_)
  refine r_nil ?_
  obtain rfl := si hm38
  exact x_sub K27 ⟨z, z, trivial⟩ (fun _ h => st_pk 7 [0, 5, 1, 2, 3, 4, 6] (by decide) h)
 have hm36 := iff_ hp25 h35
 clear hp25
 refine c_skip ?_
 obtain rfl := si hm36
 exact x_sub K27 ⟨z, z, trivial⟩ (fun _ h => st_pk 7 [0, 1, 2, 3, 4, 5, 6] (by decide) h)
def Bs (a0 : Ab) : Option (Str × Bool × Ab) :=
 if ((An a0) == 1) then om a0.a (none) fun x8 => (Dd x8).bind fun r15 => some (r15.1, r15.2.1, (⟨a0.kind, (some r15.2.2), a0.t⟩ : Ab)) else if ((An a0) == 2) then om a0.t (none) fun x23 => (CZ x23).bind fun r33 => some (r33.1, r33.2.1, (⟨a0.kind, a0.a, (some r33.2.2)⟩ : Ab)) else some ([], false, a0)
theorem Bs.ok {G R F} (b0_ : Nat) (a0 : Ab) (g0_ : Ab.G) (r : Str × Bool × Ab) (hm : Bs a0 = some r) : CO Tryz.prog 20 [pt b0_ 0] G R (Bk b0_ 63 [vI a0.kind, g0_.a.1, g0_.t.1] :: rO (Al.op g0_.a.2) g0_.a.1 a0.a :: rO (Ak.op g0_.t.2) g0_.t.1 a0.t :: F)
  (Ret fun u R' L' => ∃ (q0 : Ab.G), u = .tuple #[vS r.1, vB r.2.1] ∧ R' = R ∧ L' = Bk b0_ 63 [vI r.2.2.kind, q0.a.1, q0.t.1] :: rO (Al.op q0.a.2) q0.a.1 r.2.2.a :: rO (Ak.op q0.t.2) q0.t.1 r.2.2.t :: F) := by
 obtain ⟨⟨pv1, g2⟩, ⟨pv4, g5⟩⟩ := g0_
 unfold Bs at hm
 refine co_ofN (N := 24) Tryz.func20 z z ?_
 refine csr ?_
 refine r_as z (r_as z ?_)
 refine nssr ?_
 refine r_mv z ?_
 refine r_c (s_w (o_call ca16 z (An.ok b0_ a0 (⟨(pv1, g2), (pv4, g5)⟩ : Ab.G) _ z))) ?_
 refine r_nil (x_seq (c_blk (csr ?_)))
 refine r_bin z z (bI_eq (An a0) 1) (r_as z ?_)
 refine nsq ?_
 refine c_if (b := ((An a0) == 1)) z (fun h6 => ?_) fun h6 => ?_
 ·have hm7 := ift hm h6
  clear hm
  refine c_seq ?_
  refine cd_st (fun _ h => mv1 h) ?_
  refine cd_opt (fun ho10 => ?_) (fun x8 b9 ho10 => ?_)
  ·rintro rfl
   have hm11 := om_n hm7 ho10
   clear hm7
   cases hm11
  rintro rfl
  have hm11 := om_s hm7 ho10
  clear hm7
  obtain ⟨⟨pv13, g14⟩⟩ := g2
  refine cd_st (fun _ h => st_star_o h) ?_
  refine c_reg ?_
  refine r_mv z (r_nc z (r_fa fa63_1 z (r_ld 2 sc60 z z z ?_)))
  obtain ⟨r15, hr15, hm20⟩ := bs hm11
  clear hm11
  refine r_sw (s_w (o_call ca53 z (Dd.ok b9 x8 (⟨(pv13, g14)⟩ : Al.G) r15 hr15))) ?_
  rintro _ R _ _ ⟨⟨⟨pv18, g19⟩⟩, rfl, rfl, rfl⟩
  refine r_ext z z ?_
  refine r_ext z z (r_as z (r_as z ?_))
  refine r_nil (x_seq (c_ret ?_))
  refine ex_st (fun _ h => st_some (f := Al.op (⟨(pv18, g19)⟩ : Al.G)) (a := r15.2.2) (st_star_f (A := Al.fl b9 r15.2.2 (⟨(pv18, g19)⟩ : Al.G)) h)) ?_
  obtain rfl := si hm20
  refine ex_st (fun _ h => st_pk 3 [1, 0, 2] (by decide) h) ?_
  exact x_r2 z (rv_t z) (rv_t z) (Le.refl _) ⟨_, z, (⟨(pt b9 0, (⟨(pv18, g19)⟩ : Al.G)), (pv4, g5)⟩ : Ab.G), z, z, z⟩
 have hm7 := iff_ hm h6
 clear hm
 refine csr ?_
 refine r_bin z z (bI_eq (An a0) 2) (r_as z ?_)
 refine nsq ?_
 refine c_if (b := ((An a0) == 2)) z (fun h21 => ?_) fun h21 => ?_
 rotate_left
 ·have hm22 := iff_ hm7 h21
  clear hm7
  refine c_skip (x_blk (x_seq (csr ?_)))
  refine r_as z (r_as z ?_)
  refine r_nil (x_seq (c_ret ?_))
  obtain rfl := si hm22
  exact x_r2 z (rv_t z) (rv_t z) (Le.refl _) ⟨_, z, (⟨(pv1, g2), (pv4, g5)⟩ : Ab.G), z, z, z⟩
 have hm22 := ift hm7 h21
 clear hm7
 refine c_seq ?_
 refine cd_st (fun _ h => mv2 h) ?_
 refine cd_opt (fun ho25 => ?_) (fun x23 b24 ho25 => ?_)
 ·rintro rfl
  have hm26 := om_n hm22 ho25
  clear hm22
  cases hm26
 rintro rfl
 have hm26 := om_s hm22 ho25
 clear hm22
 obtain ⟨⟨pv28, g29⟩, ⟨pv31, g32⟩⟩ := g5
 refine cd_st (fun _ h => st_star_o h) ?_
 refine c_reg ?_
 refine r_mv z (r_nc z (r_fa fa63_2 z (r_ld 3 sc61 z z z ?_)))
 obtain ⟨r33, hr33, hm41⟩ := bs hm26
 clear hm26
 refine r_sw (s_w (o_call ca54 z (CZ.ok b24 x23 (⟨(pv28, g29), (pv31, g32)⟩ : Ak.G) r33 hr33))) ?_
 rintro _ R _ _ ⟨⟨⟨pv36, g37⟩, ⟨pv39, g40⟩⟩, rfl, rfl, rfl⟩
 refine r_ext z z ?_
 refine r_ext z z (r_as z (r_as z ?_))
 refine r_nil (x_seq (c_ret ?_))
 refine ex_st (fun _ h => st_some (f := Ak.op (⟨(pv36, g37), (pv39, g40)⟩ : Ak.G)) (a := r33.2.2) (st_star_f (A := Ak.fl b24 r33.2.2 (⟨(pv36, g37), (pv39, g40)⟩ : Ak.G)) h)) ?_
 obtain rfl := si hm41
 refine ex_st (fun _ h => st_pk 3 [1, 2, 0] (by decide) h) ?_
 exact x_r2 z (rv_t z) (rv_t z) (Le.refl _) ⟨_, z, (⟨(pv1, g2), (pt b24 0, (⟨(pv36, g37), (pv39, g40)⟩ : Ak.G))⟩ : Ab.G), z, z, z⟩
def C5 (a0 : Ak) (a1 : Str) : Option Ak :=
 if decide ((a1.length : Int) ≤ 64) then om a0.s (none) fun x8 => (Bw x8 a1).bind fun r14 => some (⟨a0.most, (some r14), a0.r⟩ : Ak) else some a0
theorem C5.ok {G R F} (b0_ : Nat) (a0 : Ak) (g0_ : Ak.G) (a1 : Str) (r : Ak) (hm : C5 a0 a1 = some r) : CO Tryz.prog 55 [pt b0_ 0, vS a1] G R (Bk b0_ 92 [vI a0.most, g0_.s.1, g0_.r.1] :: rO (Aj.op g0_.s.2) g0_.s.1 a0.s :: rO (Ae.op g0_.r.2) g0_.r.1 a0.r :: F)
  (Ret fun u R' L' => u = .tuple #[] ∧ R' = R ∧ L' = Bk b0_ 92 [vI r.most, g0_.s.1, g0_.r.1] :: rO (Aj.op g0_.s.2) g0_.s.1 r.s :: rO (Ae.op g0_.r.2) g0_.r.1 r.r :: F) := by
 obtain ⟨⟨pv1, g2⟩, ⟨pv4, g5⟩⟩ := g0_
 unfold C5 at hm
 refine co_ofN (N := 17) Tryz.func55 z z ?_
 refine csr ?_
 refine r_mv z (r_bin z z (bP_nep Tryz.underlying61) (r_mv z ?_))
 refine r_s (s_y z z z (o_mv z)) ?_
 refine r_s (s_y z z z (o_lenS Tryz.underlying9 z)) ?_
 refine r_s (s_y z z z (o_bin z z (bI_le (a1.length : Int) 64))) ?_
 refine r_u (o_pt z z z) ?_
 refine nsq ?_
 refine c_if (b := decide ((a1.length : Int) ≤ 64)) z (fun h6 => ?_) fun h6 => ?_
 rotate_left
 ·have hm7 := iff_ hm h6
  clear hm
  refine c_skip ?_
  refine x_end ?_
  obtain rfl := si hm7
  exact x_r0 z (Le.refl _) ⟨_, z, z, z, z⟩
 have hm7 := ift hm h6
 clear hm
 refine cd_st (fun _ h => mv1 h) ?_
 refine cd_opt (fun ho10 => ?_) (fun x8 b9 ho10 => ?_)
 ·rintro rfl
  have hm11 := om_n hm7 ho10
  clear hm7
  cases hm11
 rintro rfl
 have hm11 := om_s hm7 ho10
 clear hm7
 refine cd_st (fun _ h => st_star_o h) ?_
 refine c_reg ?_
 refine r_mv z (r_nc z (r_fa fa92_1 z (r_ld 3 sc87 z z z (r_mv z ?_))))
 obtain ⟨r14, hr14, hm15⟩ := bs hm11
 clear hm11
 refine r_c (s_w (o_call ca91 z (Bw.ok b9 x8 g2 a1 r14 hr14))) ?_
 refine r_nil ?_
 refine x_end ?_
 refine ex_st (fun _ h => st_some (f := Aj.op g2) (a := r14) (st_star_f (A := Aj.fl b9 r14 g2) h)) ?_
 obtain rfl := si hm15
 refine ex_st (fun _ h => st_pk 3 [1, 0, 2] (by decide) h) ?_
 exact x_r0 z (Le.refl _) ⟨_, z, z, z, z⟩
def BF (a0 : Ab) (a1 : Str) : Option Ab :=
 if ((An a0) == 2) then om a0.t (none) fun x8 => if ((An (⟨a0.kind, a0.a, (some x8)⟩ : Ab)) == 2) then (Cp x8 a1).bind fun r20 => if !r20 then (C5 x8 a1).bind fun r24 => some (⟨a0.kind, a0.a, (some r24)⟩ : Ab) else some a0 else some a0 else some a0
theorem BF.ok {G R F} (b0_ : Nat) (a0 : Ab) (g0_ : Ab.G) (a1 : Str) (r : Ab) (hm : BF a0 a1 = some r) : CO Tryz.prog 21 [pt b0_ 0, vS a1] G R (Bk b0_ 63 [vI a0.kind, g0_.a.1, g0_.t.1] :: rO (Al.op g0_.a.2) g0_.a.1 a0.a :: rO (Ak.op g0_.t.2) g0_.t.1 a0.t :: F)
  (Ret fun u R' L' => u = .tuple #[] ∧ R' = R ∧ L' = Bk b0_ 63 [vI r.kind, g0_.a.1, g0_.t.1] :: rO (Al.op g0_.a.2) g0_.a.1 r.a :: rO (Ak.op g0_.t.2) g0_.t.1 r.t :: F) := by
 obtain ⟨⟨pv1, g2⟩, ⟨pv4, g5⟩⟩ := g0_
 unfold BF at hm
 refine co_ofN (N := 22) Tryz.func21 z z ?_
 refine c_seq ?_
 refine cd_by ((An a0) == 2) (fun h6 => ?_) fun h6 => ?_
 rotate_left
 ·have hm7 := iff_ hm h6
  clear hm
  refine c_reg ?_
  refine r_mv z ?_
  refine r_c (s_w (o_call ca16 z (An.ok b0_ a0 (⟨(pv1, g2), (pv4, g5)⟩ : Ab.G) _ z))) ?_
  refine r_bin z z (bI_eq (An a0) 2) (r_mv z ?_)
  refine r_s (s_n z z h6) ?_
  refine r_s (s_n z z h6) ?_
  refine r_s (s_n z z h6) ?_
  refine r_s (s_n z z h6) ?_
  refine r_s (s_n z z h6) ?_
  refine r_s (s_n z z h6) ?_
  refine r_s (s_n z z h6) ?_
  refine r_u (o_pf z h6 z) ?_
  refine nsq ?_
  refine c_ff z ?_
  refine c_skip ?_
  refine x_end ?_
  obtain rfl := si hm7
  exact x_r0 z (Le.refl _) ⟨_, z, z, z, z⟩
 have hm7 := ift hm h6
 clear hm
 refine cd_st (fun _ h => mv2 h) ?_
 refine cd_opt (fun ho10 => ?_) (fun x8 b9 ho10 => ?_)
 ·rintro rfl
  have hm11 := om_n hm7 ho10
  clear hm7
  cases hm11
 rintro rfl
 have hm11 := om_s hm7 ho10
 clear hm7
 obtain ⟨⟨pv13, g14⟩, ⟨pv16, g17⟩⟩ := g5
 refine cd_st (fun _ h => st_star_o h) ?_
 refine cd_by ((An (⟨a0.kind, a0.a, (some x8)⟩ : Ab)) == 2) (fun h18 => ?_) fun h18 => ?_
 rotate_left
 ·have hm19 := iff_ hm11 h18
  clear hm11
  refine c_reg ?_
  refine r_mv z ?_
  refine rl_st (fun _ h => st_some (f := Ak.op (⟨(pv13, g14), (pv16, g17)⟩ : Ak.G)) (a := x8) (st_star_f (A := Ak.fl b9 x8 (⟨(pv13, g14), (pv16, g17)⟩ : Ak.G)) h)) ?_
  refine rl_st (fun _ h => mv2 (mv2 h)) ?_
  refine r_c (s_w (o_call ca16 z (An.ok b0_ (⟨a0.kind, a0.a, (some x8)⟩ : Ab) (⟨(pv1, g2), (pt b9 0, (⟨(pv13, g14), (pv16, g17)⟩ : Ak.G))⟩ : Ab.G) _ z))) ?_
  refine r_bin z z (bI_eq (An (⟨a0.kind, a0.a, (some x8)⟩ : Ab)) 2) (r_mv z ?_)
  refine r_s (s_n z z h18) ?_
  refine r_s (s_n z z h18) ?_
  refine r_s (s_n z z h18) ?_
  refine r_s (s_n z z h18) ?_
  refine r_s (s_n z z h18) ?_
  refine r_s (s_n z z h18) ?_
  refine r_s (s_n z z h18) ?_
  refine r_u (o_pf z h18 z) ?_
  refine nsq ?_
  refine c_ff z ?_
  refine c_skip ?_
  refine x_end ?_
  refine ex_st (fun _ h => mv2 h) ?_
  refine ex_st (fun _ h => st_back ho10 h) ?_
  obtain rfl := si hm19
  refine ex_st (fun _ h => st_pk 3 [1, 2, 0] (by decide) h) ?_
  exact x_r0 z (Le.refl _) ⟨_, z, z, z, z⟩
 have hm19 := ift hm11 h18
 clear hm11
 refine c_reg ?_
 refine r_mv z ?_
 refine rl_st (fun _ h => st_some (f := Ak.op (⟨(pv13, g14), (pv16, g17)⟩ : Ak.G)) (a := x8) (st_star_f (A := Ak.fl b9 x8 (⟨(pv13, g14), (pv16, g17)⟩ : Ak.G)) h)) ?_
 refine rl_st (fun _ h => mv2 (mv2 h)) ?_
 refine r_c (s_w (o_call ca16 z (An.ok b0_ (⟨a0.kind, a0.a, (some x8)⟩ : Ab) (⟨(pv1, g2), (pt b9 0, (⟨(pv13, g14), (pv16, g17)⟩ : Ak.G))⟩ : Ab.G) _ z))) ?_
 refine r_bin z z (bI_eq (An (⟨a0.kind, a0.a, (some x8)⟩ : Ab)) 2) (r_mv z ?_)
 refine r_s (s_y z z h18 (o_mv z)) ?_
 refine r_s (s_y z z h18 (o_nc z)) ?_
 refine r_s (s_y z z h18 (o_fa fa63_2 z)) ?_
 refine r_s (s_y z z h18 (o_ld 0 sc61 z z z)) ?_
 refine r_s (s_y z z h18 (o_mv z)) ?_
 refine rl_st (fun _ h => mv2 h) ?_
 refine rl_st (fun _ h => st_some_o h) ?_
 refine rl_st (fun _ h => st_star_o h) ?_
 obtain ⟨r20, hr20, hm21⟩ := bs hm19
 clear hm19
 refine r_c (s_yw z z h18 (o_call ca38 z (Cp.ok b9 x8 (⟨(pv13, g14), (pv16, g17)⟩ : Ak.G) a1 r20 hr20))) ?_
 refine r_s (s_y z z h18 (o_not z)) ?_
 refine r_u (o_pt z h18 z) ?_
 refine nsq ?_
 refine c_if (b := !r20) z (fun h22 => ?_) fun h22 => ?_
 ·have hm23 := ift hm21 h22
  clear hm21
  refine c_reg ?_
  refine r_mv z (r_nc z (r_fa fa63_2 z (r_ld 3 sc61 z z z (r_mv z ?_))))
  obtain ⟨r24, hr24, hm25⟩ := bs hm23
  clear hm23
  refine r_c (s_w (o_call ca55 z (C5.ok b9 x8 (⟨(pv13, g14), (pv16, g17)⟩ : Ak.G) a1 r24 hr24))) ?_
  refine r_nil ?_
  refine x_end ?_
  refine ex_st (fun _ h => st_some (f := Ak.op (⟨(pv13, g14), (pv16, g17)⟩ : Ak.G)) (a := r24) (st_star_f (A := Ak.fl b9 r24 (⟨(pv13, g14), (pv16, g17)⟩ : Ak.G)) h)) ?_
  obtain rfl := si hm25
  refine ex_st (fun _ h => st_pk 3 [1, 2, 0] (by decide) h) ?_
  exact x_r0 z (Le.refl _) ⟨_, z, z, z, z⟩
 have hm23 := iff_ hm21 h22
 clear hm21
 refine c_skip ?_
 refine x_end ?_
 refine ex_st (fun _ h => st_some (f := Ak.op (⟨(pv13, g14), (pv16, g17)⟩ : Ak.G)) (a := x8) (st_star_f (A := Ak.fl b9 x8 (⟨(pv13, g14), (pv16, g17)⟩ : Ak.G)) h)) ?_
 refine ex_st (fun _ h => st_back ho10 h) ?_
 obtain rfl := si hm23
 refine ex_st (fun _ h => st_pk 3 [1, 2, 0] (by decide) h) ?_
 exact x_r0 z (Le.refl _) ⟨_, z, z, z, z⟩
def B5 (a0 : Ad) (a1 : Str) : Option Ad :=
 if decide ((a1.length : Int) ≤ 64) then (AX a0.S a1).bind fun r4 => some (⟨a0.Most, r4, a0.R⟩ : Ad) else some a0
theorem B5.ok {G R F} (a0 : Ad) (g0_ : Ad.G) (h0 : Ad.ro R a0 g0_) (a1 : Str) (r : Ad) (hm : B5 a0 a1 = some r) : CO Tryz.prog 70 [.agg (Ad.k a0 g0_).toArray, vS a1] G R (F)
  (Ret fun u R' L' => ∃ (p0 : Ad.G), u = .agg (Ad.k r p0).toArray ∧ (Ad.ro R' r p0) ∧ L' = F) := by
 unfold B5 at hm
 refine co_ofN (N := 14) Tryz.func70 z z ?_
 refine csr ?_
 refine r_new (o_bx (Ad.k a0 g0_) z z) fun b0 => ?_
 refine r_new (o_al ze38) fun b1 => ?_
 refine nssr ?_
 refine r_mv z (r_u (o_lenS Tryz.underlying9 z) (r_bin z z (bI_le (a1.length : Int) 64) ?_))
 refine nsq ?_
 refine c_if (b := decide ((a1.length : Int) ≤ 64)) z (fun h2 => ?_) fun h2 => ?_
 rotate_left
 ·have hm3 := iff_ hm h2
  clear hm
  refine c_skip (x_seq (csr ?_))
  refine r_u (o_ldn 1 (Ad.k a0 g0_) ag38 z z z z) ?_
  refine r_u0 (o_stn ag38 z z z (al_c z (al_c z (al_c z (al_c (RoN.one h0.1.1) (al_c (RoS.one h0.1.2) (al_c z (al_c (RoN.one h0.2) (al_c z al_n)))))))) z z z) ?_
  refine r_nil (x_seq (c_ret ?_))
  obtain rfl := si hm3
  exact x_d1 z (rv_n 0 (Ad.k a0 g0_) ag38 z z z z) (fun _ h => st_pk 2 [] (by decide) h) (Le.refl _) ⟨_, z, (⟨(⟨(g0_.S.Rows.1, []), g0_.S.Door⟩ : Af.G), (⟨(g0_.R.L.1, [])⟩ : Ac.G)⟩ : Ad.G), z, ⟨⟨h0.1.1, h0.1.2⟩, h0.2⟩, z⟩
 have hm3 := ift hm h2
 clear hm
 refine c_reg ?_
 refine r_fa fa38_1 z ?_
 refine r_u (o_ldn 1 (Af.k a0.S g0_.S) ag36 z z z z) (r_mv z ?_)
 obtain ⟨r4, hr4, hm10⟩ := bs hm3
 clear hm3
 refine r_sw (s_w (o_call ca101 z (AX.ok a0.S (⟨(g0_.S.Rows.1, []), g0_.S.Door⟩ : Af.G) ⟨h0.1.1, h0.1.2⟩ a1 r4 hr4))) ?_
 rintro _ R8 _ le9 ⟨v5, rfl, _, rfl⟩
 refine r_fa fa38_1 z ?_
 refine rl_st (fun _ h => mv4 (mv1 (mv2 h))) ?_
 refine r_u0 (ou_if (one_o 1 z) fun ho0 => ou_if (one_o 2 z) fun ho1 => o_stn ag36 z z z (al_c z (al_c z (al_c ho0 (al_c ho1 (al_c z al_n))))) z z z) ?_
 refine nsr ?_
 refine r_u (o_ldn 0 [vI a0.Most, vI r4.Wide, vW r4.Seed, v5.Rows.1, v5.Door, vI r4.Added, g0_.R.L.1, vI a0.R.Places] ag38 z z z z) ?_
 refine rl_st (fun _ h => mv4 (mv2 (mv2 h))) ?_
 refine r_u0 (ou_if (one_o 1 z) fun ho0 => ou_if (one_o 2 z) fun ho1 => o_stn ag38 z z z (al_c z (al_c z (al_c z (al_c ho0 (al_c ho1 (al_c z (al_c (RoN.one (RoN.mono le9 h0.2)) (al_c z al_n)))))))) z z z) ?_
 refine r_nil (x_seq (c_ret ?_))
 refine ex_st (fun _ h => mv2 (mv4 h)) ?_
 refine ex_ex (fun w h => st_freezeN w h) fun R11 hf14 => ?_
 obtain ⟨le12, h13⟩ := hf14
 refine ex_st (fun _ h => mv1 h) ?_
 refine ex_ex (fun w h => st_freeze w h) fun R15 hf18 => ?_
 obtain ⟨le16, h17⟩ := hf18
 obtain rfl := si hm10
 exact x_d1 z (rv_n 0 [vI a0.Most, vI r4.Wide, vW r4.Seed, v5.Rows.1, v5.Door, vI r4.Added, g0_.R.L.1, vI a0.R.Places] ag38 z z z z) (fun _ h => st_pk 2 [] (by decide) h) (Le.trans (Le.trans le9 le12) le16) ⟨_, z, (⟨(⟨(v5.Rows.1, []), v5.Door⟩ : Af.G), (⟨(g0_.R.L.1, [])⟩ : Ac.G)⟩ : Ad.G), z, ⟨⟨(RoN.mono le16 h13), h17⟩, (RoN.mono (Le.trans (Le.trans le9 le12) le16) h0.2)⟩, z⟩
def BQ (a0 : Ah) (a1 : Str) : Option Ah :=
 Option.bind (if (a0.Kind == 2) then (Bc a0.T a1).bind fun r21 => some (!r21) else some false) fun p2 => if p2 then (B5 a0.T a1).bind fun r8 => some (⟨a0.Kind, a0.A, r8⟩ : Ah) else some a0
theorem BQ.ok {G R F} (a0 : Ah) (g0_ : Ah.G) (h0 : Ah.ro R a0 g0_) (a1 : Str) (r : Ah) (hm : BQ a0 a1 = some r) : CO Tryz.prog 31 [.agg (Ah.k a0 g0_).toArray, vS a1] G R (F)
  (Ret fun u R' L' => ∃ (p0 : Ah.G), u = .agg (Ah.k r p0).toArray ∧ (Ah.ro R' r p0) ∧ L' = F) := by
 unfold BQ at hm
 refine co_ofN (N := 21) Tryz.func31 z z ?_
 refine csr ?_
 refine r_new (o_bx (Ah.k a0 g0_) z z) fun b0 => ?_
 refine r_new (o_al ze40) fun b1 => ?_
 refine r_nil (x_seq (c_seq (c_seq ?_)))
 obtain ⟨p2, hp3, hm4⟩ := bs hm
 refine cd_join (E' := [(1, vS a1), (2, pt b0 0), (4, pt b1 0), (14, vB p2)]) (L' := Bk b1 40 [vI 0, vI 0, vI 0, .slice none 0 0, vI 0, vI 0, vI 0, vW 0, .slice none 0 0, .slice none 0 0, vI 0, .slice none 0 0, vI 0] :: Bk b0 40 (Ah.k a0 g0_) :: F) ?_ fun K5 => ?_
 ·refine x_seq ?_
  refine c_if (b := p2) z (fun h6 => ?_) fun h6 => ?_
  rotate_left
  ·have hm7 := iff_ hm4 h6
   clear hm4
   refine c_skip (x_seq (csr ?_))
   refine r_u (o_ldn 1 (Ah.k a0 g0_) ag40 z z z z) ?_
   refine r_u0 (o_stn ag40 z z z (al_c z (al_c z (al_c z (al_c (RoN.one h0.1) (al_c z (al_c z (al_c z (al_c z (al_c (RoN.one h0.2.1.1) (al_c (RoS.one h0.2.1.2) (al_c z (al_c (RoN.one h0.2.2) (al_c z al_n))))))))))))) z z z) ?_
   refine r_nil (x_seq (c_ret ?_))
   obtain rfl := si hm7
   exact x_d1 z (rv_n 0 (Ah.k a0 g0_) ag40 z z z z) (fun _ h => st_pk 2 [] (by decide) h) (Le.refl _) ⟨_, z, (⟨(⟨(⟨(g0_.A.R.L.1, [])⟩ : Ac.G)⟩ : Aa.G), (⟨(⟨(g0_.T.S.Rows.1, []), g0_.T.S.Door⟩ : Af.G), (⟨(g0_.T.R.L.1, [])⟩ : Ac.G)⟩ : Ad.G)⟩ : Ah.G), z, ⟨h0.1, ⟨⟨h0.2.1.1, h0.2.1.2⟩, h0.2.2⟩⟩, z⟩
  have hm7 := ift hm4 h6
  clear hm4
  refine c_reg ?_
  refine r_fa fa40_2 z ?_
  refine r_u (o_ldn 1 (Ad.k a0.T g0_.T) ag38 z z z z) (r_mv z ?_)
  obtain ⟨r8, hr8, hm18⟩ := bs hm7
  clear hm7
  refine r_sw (s_w (o_call ca70 z (B5.ok a0.T (⟨(⟨(g0_.T.S.Rows.1, []), g0_.T.S.Door⟩ : Af.G), (⟨(g0_.T.R.L.1, [])⟩ : Ac.G)⟩ : Ad.G) ⟨⟨h0.2.1.1, h0.2.1.2⟩, h0.2.2⟩ a1 r8 hr8))) ?_
  rintro _ R16 _ le17 ⟨v9, rfl, hf10, rfl⟩
  refine r_fa fa40_2 z ?_
  refine rl_st (fun _ h => mv1 h) ?_
  refine r_u0 (o_stn ag38 z z z (al_c z (al_c z (al_c z (al_c (RoN.one hf10.1.1) (al_c (RoS.one hf10.1.2) (al_c z (al_c (RoN.one hf10.2) (al_c z al_n)))))))) z z z) ?_
  refine nsr ?_
  refine r_u (o_ldn 0 [vI a0.Kind, vI a0.A.Most, vI a0.A.Target, g0_.A.R.L.1, vI a0.A.R.Places, vI r8.Most, vI r8.S.Wide, vW r8.S.Seed, v9.S.Rows.1, v9.S.Door, vI r8.S.Added, v9.R.L.1, vI r8.R.Places] ag40 z z z z) ?_
  refine rl_st (fun _ h => mv1 h) ?_
  refine r_u0 (o_stn ag40 z z z (al_c z (al_c z (al_c z (al_c (RoN.one (RoN.mono le17 h0.1)) (al_c z (al_c z (al_c z (al_c z (al_c (RoN.one hf10.1.1) (al_c (RoS.one hf10.1.2) (al_c z (al_c (RoN.one hf10.2) (al_c z al_n))))))))))))) z z z) ?_
  refine r_nil (x_seq (c_ret ?_))
  obtain rfl := si hm18
  exact x_d1 z (rv_n 0 [vI a0.Kind, vI a0.A.Most, vI a0.A.Target, g0_.A.R.L.1, vI a0.A.R.Places, vI r8.Most, vI r8.S.Wide, vW r8.S.Seed, v9.S.Rows.1, v9.S.Door, vI r8.S.Added, v9.R.L.1, vI r8.R.Places] ag40 z z z z) (fun _ h => st_pk 2 [] (by decide) h) le17 ⟨_, z, (⟨(⟨(⟨(g0_.A.R.L.1, [])⟩ : Ac.G)⟩ : Aa.G), (⟨(⟨(v9.S.Rows.1, []), v9.S.Door⟩ : Af.G), (⟨(v9.R.L.1, [])⟩ : Ac.G)⟩ : Ad.G)⟩ : Ah.G), z, ⟨(RoN.mono le17 h0.1), ⟨⟨hf10.1.1, hf10.1.2⟩, hf10.2⟩⟩, z⟩
 refine cd_by (a0.Kind == 2) (fun h19 => ?_) fun h19 => ?_
 ·have hm20 := ift hp3 h19
  clear hp3
  refine c_reg ?_
  refine r_fa fa40_0 z (r_ld 1 sc3 z z z (r_bin z z (bI_eq a0.Kind 2) (r_mv z ?_)))
  refine r_s (s_y z z h19 (o_fa fa40_2 z)) ?_
  refine r_s (s_y z z h19 (o_ldn 1 (Ad.k a0.T g0_.T) ag38 z z z z)) ?_
  refine r_s (s_y z z h19 (o_mv z)) ?_
  obtain ⟨r21, hr21, hm22⟩ := bs hm20
  clear hm20
  refine r_s (s_y z z h19 (o_callq ca40 z (Bc.ok a0.T (⟨(⟨(g0_.T.S.Rows.1, []), g0_.T.S.Door⟩ : Af.G), (⟨(g0_.T.R.L.1, [])⟩ : Ac.G)⟩ : Ad.G) ⟨⟨h0.2.1.1, h0.2.1.2⟩, h0.2.2⟩ a1 r21 hr21))) ?_
  refine r_s (s_y z z h19 (o_not z)) ?_
  refine r_u (o_pt z h19 z) ?_
  refine r_nil ?_
  obtain rfl := si hm22
  exact x_sub K5 ⟨z, z, z, z, trivial⟩ (fun _ h => st_pk 2 [0, 1] (by decide) h)
 have hm20 := iff_ hp3 h19
 clear hp3
 refine c_reg ?_
 refine r_fa fa40_0 z (r_ld 1 sc3 z z z (r_bin z z (bI_eq a0.Kind 2) (r_mv z ?_)))
 refine r_s (s_n z z h19) ?_
 refine r_s (s_n z z h19) ?_
 refine r_s (s_n z z h19) ?_
 refine r_s (s_n z z h19) ?_
 refine r_s (s_n z z h19) ?_
 refine r_u (o_pf z h19 z) ?_
 refine r_nil ?_
 obtain rfl := si hm20
 exact x_sub K5 ⟨z, z, z, z, trivial⟩ (fun _ h => st_pk 2 [0, 1] (by decide) h)
def DH : Option Ae → Nat
 | none => 1
 | some r => r.slots.length + 1
def BR (a2 : Int) (x2 : Ae) : Nat → Int → Option (List Str)
 | 0, _ => none
 | k19 + 1, i_18 => if (i_18 != a2) then (gi x2.slots i_18).bind fun x24 => (BR a2 x2 k19 x24.next).bind fun r_ => some (x24.key :: r_) else some []
def CI (a1 : Option Ae) (a2 : Int) : Option (List Str) :=
 om a1 (none) fun x2 => if !(BT x2 a2) then some [] else (gi x2.slots a2).bind fun x12 => Option.bind (BR a2 x2 (DH a1) x12.next) fun p14 => some p14
theorem CI.ok {G R} (b1_ : Nat) (a1 : Option Ae) (g1_ : Value × Ae.G) (b2_ : Nat) (a2 : Int) (r : List Str) (hm : CI a1 a2 = some r) :
  Gives Tryz.prog G R 133 [pt b1_ 0, pt b2_ 0] vS r [Bk b1_ 82 [g1_.1], rO (Ae.op g1_.2) g1_.1 a1, Bk b2_ 3 [vI a2]] := by
 intro l F Inv h0 hY
 change CO Tryz.prog 133 [.func (.yield l) #[] #[], pt b1_ 0, pt b2_ 0] G R (Bk b1_ 82 [g1_.1] :: rO (Ae.op g1_.2) g1_.1 a1 :: Bk b2_ 3 [vI a2] :: F) (Ret fun u R' L' => u = .tuple #[] ∧ R' = R ∧ ∃ F', L' = Bk b1_ 82 [g1_.1] :: rO (Ae.op g1_.2) g1_.1 a1 :: Bk b2_ 3 [vI a2] :: F' ∧ Inv r F')
 obtain ⟨pv0, g1⟩ := g1_
 unfold CI at hm
 refine co_ofN (N := 39) Tryz.func133 rfl rfl ?_
 refine c_seq (c_seq ?_)
 refine cd_st (fun _ h => st_pk 3 [1, 0, 2] (by decide) h) ?_
 refine cd_opt (fun ho4 => ?_) (fun x2 b3 ho4 => ?_)
 ·rintro rfl
  have hm5 := om_n hm ho4
  clear hm
  cases hm5
 rintro rfl
 have hm5 := om_s hm ho4
 clear hm
 refine cd_st (fun _ h => st_star_o h) ?_
 refine c_reg ?_
 refine r_u (o_ld 5 sc82 rfl rfl rfl) (r_u (o_ld 6 sc3 rfl rfl rfl) ?_)
 refine r_c (s_w (o_call ca109 rfl (BT.ok b3 x2 g1 a2 _ rfl))) ?_
 refine r_u (o_not rfl) ?_
 refine r_nil (x_seq ?_)
 refine c_if (b := !(BT x2 a2)) rfl (fun h10 => ?_) fun h10 => ?_
 ·have hm11 := ift hm5 h10
  clear hm5
  refine c_ret ?_
  refine ex_st (fun _ h => st_some (f := Ae.op g1) (a := x2) (st_star_f (A := Ae.fl b3 x2 g1) h)) ?_
  refine ex_st (fun _ h => st_back ho4 h) ?_
  obtain rfl := si hm11
  refine ex_st (fun _ h => st_pk 3 [1, 0, 2] (by decide) h) ?_
  exact x_r0 rfl (Le.refl _) ⟨_, rfl, rfl, rfl, F, rfl, h0⟩
 have hm11 := iff_ hm5 h10
 clear hm5
 refine c_skip (x_seq (c_seq ?_))
 obtain ⟨x12, hx12, hm13⟩ := bs hm11
 clear hm11
 refine c_any mixed (effs := []) (V := []) ?_
 refine stage_ext [(0, pt b3 0), (1, pt b3 0), (2, pt b3 1), (3, g1.slots), (4, vI a2), (5, pt (sb g1.slots) (so g1.slots + a2.toNat * 4)), (6, pt (sb g1.slots) (so g1.slots + a2.toNat * 4 + 3)), (7, vI x12.next), (8, vI x12.next)] rfl ?_
 refine stage rfl rfl rfl rfl [0, 1, 3, 7, 0, 31, 63, 127, 255] [0, 1, 2, 3, 4, 5, 6, 7, 8] [] rfl rfl rfl (qc rfl rfl (s_u (o_ld 5 sc82 rfl rfl rfl)) (qc rfl rfl (s_u (o_nc rfl)) (qc rfl rfl (s_u (o_fa fa138_1 rfl)) (qc rfl rfl (s_u (o_ld 0 sc136 rfl rfl rfl)) (qc rfl rfl (s_u (o_ld 6 sc3 rfl rfl rfl)) (qc rfl rfl (s_u (o_ixO 1 Tryz.underlying136 (fun _ => by kernel_rfl) rfl rfl rfl hx12)) (qc rfl rfl (s_u (o_fa fa140_3 rfl)) (qc rfl rfl (s_u (o_ldO 1 3 sc3 rfl rfl hx12 rfl rfl)) (qc rfl rfl (s_u (o_as rfl)) qn))))))))) en ?_
 intro _
 refine ex_sub (E' := [(0, .func (.yield l) #[] #[]), (1, pt b1_ 0), (2, pt b2_ 0), (4, vI x12.next)]) ⟨rfl, rfl, rfl, rfl, trivial⟩ ?_
 refine x_seq ?_
 obtain ⟨p14, hp15, hm16⟩ := bs hm13
 obtain rfl := si hm16
 refine c_blk ?_
 refine cd_loop (σ := Int × List HP × List Str) (M := fun k19 s => ∃ rest, BR a2 x2 k19 s.1 = some rest ∧ p14 = s.2.2 ++ rest ∧ Inv s.2.2 s.2.1) (Ef := fun s => [(0, .func (.yield l) #[] #[]), (1, pt b1_ 0), (2, pt b2_ 0), (4, vI s.1)]) (Lf := fun s => Bk b3 138 [vI x2.lists, g1.slots, g1.free, g1.at_, g1.many] :: Bk b1_ 82 [pt b3 0] :: Bk b2_ 3 [vI a2] :: OwS true 140 4 Ap.c g1.slots x2.slots :: OwS true 3 1 eI g1.free x2.free :: OwM vS vI g1.at_ x2.at_ :: OwS true 3 1 eI g1.many x2.many :: s.2.1) (DH a1) (x12.next, F, []) ⟨p14, hp15, rfl, h0⟩ ⟨rfl, rfl, rfl, rfl, trivial⟩ (fun _ h => st_pk 7 [0, 5, 6, 1, 2, 3, 4] (by decide) h) (fun s h => by obtain ⟨_, h, _⟩ := h; simp [BR] at h) fun k19 s hM21 => ?_
 obtain ⟨i_18, Fc, pre⟩ := s
 obtain ⟨rest, hm20, hpre, hInv⟩ := hM21
 replace hpre : p14 = pre ++ rest := hpre
 replace hInv : Inv pre Fc := hInv
 change CD _ _ _ [(0, .func (.yield l) #[] #[]), (1, pt b1_ 0), (2, pt b2_ 0), (4, vI i_18)] R (Bk b3 138 [vI x2.lists, g1.slots, g1.free, g1.at_, g1.many] :: Bk b1_ 82 [pt b3 0] :: Bk b2_ 3 [vI a2] :: OwS true 140 4 Ap.c g1.slots x2.slots :: OwS true 3 1 eI g1.free x2.free :: OwM vS vI g1.at_ x2.at_ :: OwS true 3 1 eI g1.many x2.many :: Fc)
 replace hm20 : BR a2 x2 (k19 + 1) i_18 = some rest := hm20
 rw [BR] at hm20
 refine c_seq (c_seq (c_reg ?_))
 refine r_u (o_mv rfl) (r_u (o_ld 2 sc3 rfl rfl rfl) (r_u (o_bin rfl rfl (bI_ne i_18 a2)) ?_))
 refine r_nil (x_seq ?_)
 refine c_if (b := (i_18 != a2)) rfl (fun h22 => ?_) fun h22 => ?_
 ·have hm23 := ift hm20 h22
  clear hm20
  refine c_skip (x_seq (c_seq (c_blk (c_seq (c_reg ?_)))))
  refine r_u (o_mv rfl) (r_u (o_ld 1 sc82 rfl rfl rfl) (r_u (o_nc rfl) (r_u (o_fa fa138_1 rfl) (r_u (o_ld 0 sc136 rfl rfl rfl) (r_u (o_mv rfl) ?_)))))
  obtain ⟨x24, hx24, hm25⟩ := bs hm23
  clear hm23
  refine r_u (o_ixO 3 Tryz.underlying136 (fun _ => by kernel_rfl) rfl rfl rfl hx24) (r_u (o_fa fa140_0 rfl) (r_u (o_ldO0 3 sc9 rfl rfl hx24 rfl rfl) ?_))
  obtain ⟨r2, hr2, hm26⟩ := bs hm25
  obtain rfl := si hm26
  refine r_w (o_yield rfl rfl (hY [Bk b3 138 [vI x2.lists, g1.slots, g1.free, g1.at_, g1.many], Bk b1_ 82 [pt b3 0], Bk b2_ 3 [vI a2], OwS true 140 4 Ap.c g1.slots x2.slots, OwS true 3 1 eI g1.free x2.free, OwM vS vI g1.at_ x2.at_, OwS true 3 1 eI g1.many x2.many] pre x24.key Fc hInv ⟨_, hpre⟩)) (fun v R' L' _ hC => ?_)
  obtain ⟨hv, hR', F', hL', hInv'⟩ := hC
  subst hv; subst hL'; subst hR'
  refine r_u (o_not rfl) ?_
  refine r_nil (x_seq ?_)
  refine c_ff rfl ?_
  refine c_skip (x_blk (x_seq (c_reg ?_)))
  refine r_u (o_ld 1 sc82 rfl rfl rfl) (r_u (o_nc rfl) (r_u (o_fa fa138_1 rfl) (r_u (o_ld 0 sc136 rfl rfl rfl) (r_u (o_mv rfl) ?_))))
  refine r_u (o_ixO 3 Tryz.underlying136 (fun _ => by kernel_rfl) rfl rfl rfl hx24) (r_u (o_fa fa140_3 rfl) (r_u (o_ldO 3 3 sc3 rfl rfl hx24 rfl rfl) (r_u (o_as rfl) ?_)))
  refine r_nil ?_
  exact x_lp (x24.next, F', pre ++ [x24.key]) ⟨r2, hr2, by rw [hpre]; simp, hInv'⟩ ⟨rfl, rfl, rfl, rfl, trivial⟩ (fun _ h => st_pk 7 [0, 1, 2, 3, 4, 5, 6] (by decide) h)
 have hm23 := iff_ hm20 h22
 clear hm20
 refine c_exit (x_exit (ks' := _) rfl ?_)
 obtain rfl := si hm23
 rw [List.append_nil] at hpre
 subst hpre
 refine x_end ?_
 refine ex_st (fun _ h => st_pk 7 [0, 3, 4, 5, 6, 1, 2] (by decide) h) ?_
 refine ex_st (fun _ h => st_some (f := Ae.op g1) (a := x2) (st_star_f (A := Ae.fl b3 x2 g1) h)) ?_
 refine ex_st (fun _ h => st_back ho4 h) ?_
 refine ex_st (fun _ h => st_pk 3 [1, 0, 2] (by decide) h) ?_
 exact x_r0 rfl (Le.refl _) ⟨_, rfl, rfl, rfl, Fc, rfl, hInv⟩
theorem DG.ok {G R F} (pv : Value) (hpv : pv.cells = #[pv]) (a1 : Int) : CO Tryz.prog 111 [pv, vI a1] G R F
  (Ret fun u R' L' => ∃ b0 b1, u = .func (.func 133) #[] #[pt b0 0, pt b1 0] ∧ R' = R ∧ L' = Bk b1 3 [vI a1] :: Bk b0 82 [pv] :: F) := by
 refine co_ofN (N := 6) Tryz.func111 rfl rfl ?_
 refine c_seq (c_reg ?_)
 refine r_new (o_bx [pv] rfl hpv) fun b0 => ?_
 refine r_new (o_bx [vI a1] rfl rfl) fun b1 => ?_
 refine r_u (o_as rfl) ?_
 refine r_nil (x_seq (c_seq (c_reg ?_)))
 refine r_u (o_mf rfl) (r_u (o_as rfl) ?_)
 refine r_nil (x_seq (c_ret ?_))
 exact x_r1 rfl (rv_t rfl) (Le.refl _) ⟨_, rfl, b0, b1, rfl, rfl, rfl⟩
def CT : List Str → Str → Option Str
 | [], c => some c
 | k :: l, c => (Dn k).bind fun t => if c.length + t.length ≤ maxS then CT l (c ++ t) else none
theorem DB {l r : List Str} : ∀ {c : Str}, CT (l ++ r) c = (CT l c).bind fun d => CT r d := by
 induction l with
 | nil => intro c; rfl
 | cons k l ih =>
  intro c
  simp only [List.cons_append, CT]
  cases Dn k with
  | none => rfl
  | some t =>
   simp only [Option.bind_some]
   split
   ·exact ih
   ·rfl
def B8 (a0 : Ae) : Nat → Int → Str → Option (Str)
 | 0, _, _ => none
 | k17 + 1, s_15, c_16 => if decide (s_15 < a0.lists) then (gi a0.many s_15).bind fun x22 => (A4 (toW x22)).bind fun r24 => if c_16.length + r24.length ≤ maxS then (CI (some a0) s_15).bind fun kz => (CT kz (c_16 ++ r24)).bind fun c2 => B8 a0 k17 (i64 (s_15 + 1)) c2 else none else some c_16
def Cd (a0 : Ae) : Option Str :=
 (A4 (toW a0.lists)).bind fun r4 => (A4 (toW (i64 ((a0.slots.length : Int) - a0.lists)))).bind fun r6 => if r4.length + r6.length ≤ maxS then Option.bind (B8 a0 ((a0.lists - 0).toNat + 1) 0 (r4 ++ r6)) fun p11 => some p11 else none
theorem Cd.ok {G R F} (b0_ : Nat) (a0 : Ae) (g0_ : Ae.G) (r : Str) (hm : Cd a0 = some r) : CO Tryz.prog 80 [pt b0_ 0] G R (Bk b0_ 138 [vI a0.lists, g0_.slots, g0_.free, g0_.at_, g0_.many] :: OwS true 140 4 Ap.c g0_.slots a0.slots :: OwS true 3 1 eI g0_.free a0.free :: OwM vS vI g0_.at_ a0.at_ :: OwS true 3 1 eI g0_.many a0.many :: F)
  (Ret fun u R' L' => u = vS r ∧ R' = R ∧ L' = Bk b0_ 138 [vI a0.lists, g0_.slots, g0_.free, g0_.at_, g0_.many] :: OwS true 140 4 Ap.c g0_.slots a0.slots :: OwS true 3 1 eI g0_.free a0.free :: OwM vS vI g0_.at_ a0.at_ :: OwS true 3 1 eI g0_.many a0.many :: F) := by
 unfold Cd at hm
 refine co_ofM (N := 55) Tryz.func80 rfl rfl ?_
 refine cd_st (fun _ h => st_pk 6 [1, 2, 3, 4, 5, 0] (by decide) h) ?_
 refine c_seq (c_reg ?_)
 refine r_u (o_as rfl) ?_
 refine r_nil (x_seq (c_seq (c_seq (c_reg ?_))))
 refine r_u (o_mv rfl) (r_u (o_bin rfl rfl (bP_eqp Tryz.underlying82)) ?_)
 refine r_nil (x_seq ?_)
 refine c_ff rfl ?_
 refine c_skip (x_seq (c_seq ?_))
 obtain ⟨r4, hr4, hm5⟩ := bs hm
 clear hm
 obtain ⟨r6, hr6, hm7⟩ := bs hm5
 clear hm5
 obtain ⟨h8, hm9⟩ := ig hm7
 clear hm7
 refine c_any mixed (effs := [19, 20]) (V := []) ?_
 refine stage_ext [(0, pt b0_ 0), (1, pt b0_ 0), (2, pt b0_ 0), (3, vI a0.lists), (4, vW (toW a0.lists)), (5, vS r4), (6, pt b0_ 0), (7, pt b0_ 0), (8, pt b0_ 1), (9, g0_.slots), (10, vI (a0.slots.length : Int)), (11, pt b0_ 0), (12, pt b0_ 0), (13, pt b0_ 0), (14, vI a0.lists), (15, vI (i64 ((a0.slots.length : Int) - a0.lists))), (16, vW (toW (i64 ((a0.slots.length : Int) - a0.lists)))), (17, vS r6), (18, vS (r4 ++ r6))] rfl ?_
 refine stage rfl rfl rfl rfl mk25_ [0, 1, 2, 3, 4, 5, 6, 7, 8, 9, 10, 11, 12, 13, 14, 15, 16, 17, 18] [19] rfl rfl rfl (qc rfl rfl (s_u (o_mv rfl)) (qc rfl rfl (s_u (o_nc rfl)) (qc rfl rfl (s_u (o_fa fa138_0 rfl)) (qc rfl rfl (s_u (o_ld 0 sc3 rfl rfl rfl)) (qc rfl rfl (s_u (o_cv rfl (cIW Tryz.underlying3 Tryz.underlying27 a0.lists))) (qc rfl rfl (s_u (o_callq ca41 rfl (A4.ok (toW a0.lists) r4 hr4))) (qc rfl rfl (s_u (o_mv rfl)) (qc rfl rfl (s_u (o_nc rfl)) (qc rfl rfl (s_u (o_fa fa138_1 rfl)) (qc rfl rfl (s_u (o_ld 0 sc136 rfl rfl rfl)) (qc rfl rfl (s_u (o_lenO 1 Tryz.underlying136 rfl rfl)) (qc rfl rfl (s_u (o_mv rfl)) (qc rfl rfl (s_u (o_nc rfl)) (qc rfl rfl (s_u (o_fa fa138_0 rfl)) (qc rfl rfl (s_u (o_ld 0 sc3 rfl rfl rfl)) (qc rfl rfl (s_u (o_bin rfl rfl (bI_sub (a0.slots.length : Int) a0.lists))) (qc rfl rfl (s_u (o_cv rfl (cIW Tryz.underlying3 Tryz.underlying27 (i64 ((a0.slots.length : Int) - a0.lists))))) (qc rfl rfl (s_u (o_callq ca41 rfl (A4.ok (toW (i64 ((a0.slots.length : Int) - a0.lists))) r6 hr6))) (qc rfl rfl (s_u (o_bin rfl rfl (bS_add r4 r6 h8))) qn))))))))))))))))))) ?_ (nxt rfl)
 refine ec (eo_n rfl (s_w (o_al ze9)) fun b10 => ?_) en
 refine stage rfl rfl rfl rfl mk25_ [0, 1, 2, 3, 4, 5, 6, 7, 8, 9, 10, 11, 12, 13, 14, 15, 16, 17, 18] [20] rfl rfl rfl (qc rfl rfl (s_u (o_mv rfl)) (qc rfl rfl (s_u (o_nc rfl)) (qc rfl rfl (s_u (o_fa fa138_0 rfl)) (qc rfl rfl (s_u (o_ld 1 sc3 rfl rfl rfl)) (qc rfl rfl (s_u (o_cv rfl (cIW Tryz.underlying3 Tryz.underlying27 a0.lists))) (qc rfl rfl (s_u (o_callq ca41 rfl (A4.ok (toW a0.lists) r4 hr4))) (qc rfl rfl (s_u (o_mv rfl)) (qc rfl rfl (s_u (o_nc rfl)) (qc rfl rfl (s_u (o_fa fa138_1 rfl)) (qc rfl rfl (s_u (o_ld 1 sc136 rfl rfl rfl)) (qc rfl rfl (s_u (o_lenO 2 Tryz.underlying136 rfl rfl)) (qc rfl rfl (s_u (o_mv rfl)) (qc rfl rfl (s_u (o_nc rfl)) (qc rfl rfl (s_u (o_fa fa138_0 rfl)) (qc rfl rfl (s_u (o_ld 1 sc3 rfl rfl rfl)) (qc rfl rfl (s_u (o_bin rfl rfl (bI_sub (a0.slots.length : Int) a0.lists))) (qc rfl rfl (s_u (o_cv rfl (cIW Tryz.underlying3 Tryz.underlying27 (i64 ((a0.slots.length : Int) - a0.lists))))) (qc rfl rfl (s_u (o_callq ca41 rfl (A4.ok (toW (i64 ((a0.slots.length : Int) - a0.lists))) r6 hr6))) (qc rfl rfl (s_u (o_bin rfl rfl (bS_add r4 r6 h8))) qn))))))))))))))))))) ?_ (nxt rfl)
 refine ec (eo_u rfl (s_u (o_st sc9 rfl rfl rfl rfl rfl rfl)) (Le.refl _) ?_) en
 refine stage rfl rfl rfl rfl mk25_ [] [] rfl rfl rfl qn en ?_
 intro _
 refine ex_sub (E' := [(0, pt b0_ 0), (3, pt b10 0)]) ⟨rfl, rfl, trivial⟩ ?_
 refine x_seq (c_seq (c_seq (c_reg ?_)))
 refine r_u (o_mv rfl) (r_u (o_nc rfl) (r_u (o_fa fa138_0 rfl) (r_u (o_ld 1 sc3 rfl rfl rfl) (r_u (o_mv rfl) ?_))))
 refine r_nil (x_seq ?_)
 obtain ⟨p11, hp12, hm13⟩ := bs hm9
 obtain rfl := si hm13
 refine c_blk ?_
 refine cd_loopD (σ := Int × Str × List Deferred) (M := fun k s => B8 a0 k s.1 s.2.1 = some p11) (Df := fun s => s.2.2)
  (Ef := fun s => [(0, pt b0_ 0), (3, pt b10 0), (30, vI a0.lists), (31, vI s.1)]) (Rf := fun _ => R)
  (Lf := fun s => Bk b10 9 [vS s.2.1] :: Bk b0_ 138 [vI a0.lists, g0_.slots, g0_.free, g0_.at_, g0_.many] :: OwS true 140 4 Ap.c g0_.slots a0.slots :: OwS true 3 1 eI g0_.free a0.free :: OwM vS vI g0_.at_ a0.at_ :: OwS true 3 1 eI g0_.many a0.many :: MkC s.2.2 :: F)
  ((a0.lists - 0).toNat + 1) (0, r4 ++ r6, []) hp12 rfl ⟨rfl, rfl, rfl, rfl, trivial⟩ (fun _ h => h) (fun s h => by simp [B8] at h) fun k17 s hM19 => ?_
 obtain ⟨s_15, c_16, ds⟩ := s
 have hm18 : B8 a0 (k17 + 1) s_15 c_16 = some p11 := hM19
 rw [B8] at hm18
 change CD _ _ _ [(0, pt b0_ 0), (3, pt b10 0), (30, vI a0.lists), (31, vI s_15)] R (Bk b10 9 [vS c_16] :: Bk b0_ 138 [vI a0.lists, g0_.slots, g0_.free, g0_.at_, g0_.many] :: OwS true 140 4 Ap.c g0_.slots a0.slots :: OwS true 3 1 eI g0_.free a0.free :: OwM vS vI g0_.at_ a0.at_ :: OwS true 3 1 eI g0_.many a0.many :: MkC ds :: F)
 refine c_seq (c_reg ?_)
 refine r_u (o_bin rfl rfl (bI_lt s_15 a0.lists)) ?_
 refine r_nil (x_seq (c_seq ?_))
 refine c_if (b := decide (s_15 < a0.lists)) rfl (fun h20 => ?_) fun h20 => ?_
 rotate_left
 ·have hm21 := iff_ hm18 h20
  clear hm18
  refine c_exit (x_exit (ks' := _) rfl ?_)
  obtain rfl := si hm21
  refine x_seq (c_seq (c_reg ?_))
  refine r_u (o_ld 0 sc9 rfl rfl rfl) (r_u (o_as rfl) ?_)
  refine r_nil (x_seq (c_ret ?_))
  refine ex_st (fun _ h => st_pk 7 [6, 1, 2, 3, 4, 5] (by decide) h) ?_
  exact x_m1 rfl (rv_t rfl) (fun _ h => h) (Le.refl _) ⟨_, rfl, rfl, rfl, rfl⟩
 have hm21 := ift hm18 h20
 clear hm18
 refine c_skip (x_seq (c_seq (c_blk (c_seq (c_reg ?_)))))
 refine r_u (o_mv rfl) (r_u (o_as rfl) ?_)
 refine r_nil (x_seq (c_seq ?_))
 obtain ⟨x22, hx22, hm23⟩ := bs hm21
 clear hm21
 obtain ⟨r24, hr24, hm25⟩ := bs hm23
 clear hm23
 obtain ⟨h26, hm27⟩ := ig hm25
 clear hm25
 obtain ⟨kz, hkz, hm28⟩ := bs hm27
 obtain ⟨c2, hc2, hm29⟩ := bs hm28
 refine c_any mixed (effs := [11]) (V := []) ?_
 refine stage_ext [(0, vS c_16), (1, pt b0_ 0), (2, pt b0_ 0), (3, pt b0_ 4), (4, g0_.many), (5, vI s_15), (6, pt (sb g0_.many) (so g0_.many + s_15.toNat * 1)), (7, vI x22), (8, vW (toW x22)), (9, vS r24), (10, vS (c_16 ++ r24))] rfl ?_
 refine stage rfl rfl rfl rfl mk10_ [0, 1, 2, 3, 4, 5, 6, 7, 8, 9, 10] [11] rfl rfl rfl (qc rfl rfl (s_u (o_ld 0 sc9 rfl rfl rfl)) (qc rfl rfl (s_u (o_mv rfl)) (qc rfl rfl (s_u (o_nc rfl)) (qc rfl rfl (s_u (o_fa fa138_4 rfl)) (qc rfl rfl (s_u (o_ld 1 sc135 rfl rfl rfl)) (qc rfl rfl (s_u (o_mv rfl)) (qc rfl rfl (s_u (o_ixO 5 Tryz.underlying135 (fun _ => by kernel_rfl) rfl rfl rfl hx22)) (qc rfl rfl (s_u (o_ldO0 5 sc3 rfl rfl hx22 rfl rfl)) (qc rfl rfl (s_u (o_cv rfl (cIW Tryz.underlying3 Tryz.underlying27 x22))) (qc rfl rfl (s_u (o_callq ca41 rfl (A4.ok (toW x22) r24 hr24))) (qc rfl rfl (s_u (o_bin rfl rfl (bS_add c_16 r24 h26))) qn))))))))))) ?_ (nxt rfl)
 refine ec (eo_u rfl (s_u (o_st sc9 rfl rfl rfl rfl rfl rfl)) (Le.refl _) ?_) en
 refine stage rfl rfl rfl rfl mk10_ [] [] rfl rfl rfl qn en ?_
 intro _
 refine ex_sub (E' := [(0, pt b0_ 0), (3, pt b10 0), (30, vI a0.lists), (31, vI s_15), (4, vI s_15)]) ⟨rfl, rfl, rfl, rfl, rfl, trivial⟩ ?_
 refine x_seq (c_seq (c_reg ?_))
 refine r_u (o_mv rfl) (r_u (o_mv rfl) ?_)
 refine r_w (o_call ca111 rfl (DG.ok (pt b0_ 0) rfl s_15)) (fun v R L' _ hC => ?_)
 obtain ⟨c0, c1, rfl, rfl, rfl⟩ := hC
 refine r_nil ?_
 refine ex_sub (E' := [(0, pt b0_ 0), (3, pt b10 0), (30, vI a0.lists), (31, vI s_15), (47, .func (.func 133) #[] #[pt c0 0, pt c1 0])]) ⟨rfl, rfl, rfl, rfl, rfl, trivial⟩ ?_
 refine x_seq (c_blk ?_)
 refine cd_st (fun _ h => st_pk 9 [3, 4, 5, 6, 7, 0, 1, 2, 8] (by decide) h) ?_
 refine cd_st (fun _ h => st_some (f := Ae.op g0_) (a := a0) (st_star_f (A := Ae.fl b0_ a0 g0_) h)) ?_
 refine cd_st (fun _ h => st_pk 5 [2, 0, 1, 3, 4] (by decide) h) ?_
 refine c_rangeR (kz := kz) (A0 := [Bk c0 82 [pt b0_ 0], rO (Ae.op g0_) (pt b0_ 0) (some a0), Bk c1 3 [vI s_15]])
  (L0 := Bk b10 9 [vS (c_16 ++ r24)] :: MkC ds :: F)
  (fun pre L => ∃ c, CT pre (c_16 ++ r24) = some c ∧ L = Bk b10 9 [vS c] :: MkC ds :: F)
  rfl ca133 rfl (CI.ok c0 (some a0) (pt b0_ 0, g0_) c1 s_15 kz hkz) ⟨_, rfl, rfl⟩
  (E1 := fun k => [(0, pt b0_ 0), (3, pt b10 0), (5, vS k), (30, vI a0.lists), (31, vI s_15)]) (fun k y e1 e2 e3 e4 ks L hx => ?_) (fun l T pre k L1 hi hl => ?_) (fun D L1 hi => ?_)
 ·refine c_reg ?_
  refine r_u (o_as rfl) ?_ (by rw [e3]; rfl)
  refine r_nil ?_
  exact ex_sub (E' := [(0, pt b0_ 0), (3, pt b10 0), (5, vS k), (30, vI a0.lists), (31, vI s_15)]) ⟨rfl, rfl, rfl, rfl, rfl, trivial⟩ hx
 ·obtain ⟨c, hc, rfl⟩ := hi
  obtain ⟨rest, hrest⟩ := hl
  have h30 := hc2
  rw [hrest, DB, hc, Option.bind_some, CT] at h30
  obtain ⟨t, ht, h31⟩ := bs h30
  obtain ⟨h32, h33⟩ := ig h31
  change CD _ _ _ _ R (Bk b10 9 [vS c] :: MkC ds :: (F ++ T))
  refine c_blk ?_
  refine c_any mixed (effs := [4]) (V := []) ?_
  refine stage_ext [(0, vS c), (1, vS k), (2, vS t), (3, vS (c ++ t))] rfl ?_
  refine stage rfl rfl rfl rfl [0, 0, 2, 7, 15] [0, 1, 2, 3] [4] rfl rfl rfl (qc rfl rfl (s_u (o_ld 0 sc9 rfl rfl rfl)) (qc rfl rfl (s_u (o_mv rfl)) (qc rfl rfl (s_u (o_callq ca112 rfl (Dn.ok k t ht))) (qc rfl rfl (s_u (o_bin rfl rfl (bS_add c t h32))) qn)))) ?_ (nxt rfl)
  refine ec (eo_u rfl (s_u (o_st sc9 rfl rfl rfl rfl rfl rfl)) (Le.refl _) ?_) en
  refine stage rfl rfl rfl rfl [0, 0, 2, 7, 15] [] [] rfl rfl rfl qn en ?_
  intro _
  refine x_blk ?_
  exact x_round rfl (Le.refl _) ⟨rfl, rfl, _, (List.cons_append ..).symm ▸ rfl, c ++ t, by rw [DB, hc, Option.bind_some, CT, ht, Option.bind_some, if_pos h32]; rfl, rfl⟩
 obtain ⟨c, hc, rfl⟩ := hi
 rw [hc2] at hc
 obtain rfl := si hc
 refine x_blk (x_blk (x_seq (c_reg ?_)))
 refine r_u (o_bin rfl rfl (bI_add s_15 1)) (r_u (o_mv rfl) ?_)
 refine r_nil ?_
 exact x_lpD (i64 (s_15 + 1), c2, Hw.mark D :: ds) hm29 rfl ⟨rfl, rfl, rfl, rfl, trivial⟩ (fun w h => by
  have h1 := st_pk 6 [2, 4, 0, 5] (by decide) h
  have h2 := st_star_o (A := Ae.fl b0_ a0 g0_) (st_some_o h1)
  exact st_pk 7 [1, 2, 3, 4, 5, 6, 0] (by decide) (mk_add (st_pk 8 [6, 7, 5, 0, 1, 2, 3, 4] (by decide) h2)))
def C6 (a0 : Al) : Option Str :=
 (A4 (toW a0.most)).bind fun r3 => (A4 (toW a0.target)).bind fun r5 => if r3.length + r5.length ≤ maxS then om a0.r (none) fun x9 => (Cd x9).bind fun r17 => if (r3 ++ r5).length + r17.length ≤ maxS then some ((r3 ++ r5) ++ r17) else none else none
theorem C6.ok {G R F} (b0_ : Nat) (a0 : Al) (g0_ : Al.G) (r : Str) (hm : C6 a0 = some r) : CO Tryz.prog 42 [pt b0_ 0] G R (Bk b0_ 86 [vI a0.most, vI a0.target, g0_.r.1] :: rO (Ae.op g0_.r.2) g0_.r.1 a0.r :: F)
  (Ret fun u R' L' => u = vS r ∧ R' = R ∧ L' = Bk b0_ 86 [vI a0.most, vI a0.target, g0_.r.1] :: rO (Ae.op g0_.r.2) g0_.r.1 a0.r :: F) := by
 obtain ⟨⟨pv1, g2⟩⟩ := g0_
 unfold C6 at hm
 refine co_ofN (N := 24) Tryz.func42 z z ?_
 refine csr ?_
 refine r_as z ?_
 refine nssr ?_
 refine r_mv z (r_bin z z (bP_eqp Tryz.underlying60) ?_)
 refine nsq ?_
 refine c_ff z ?_
 refine c_skip (x_seq (c_seq ?_))
 obtain ⟨r3, hr3, hm4⟩ := bs hm
 clear hm
 obtain ⟨r5, hr5, hm6⟩ := bs hm4
 clear hm4
 obtain ⟨h7, hm8⟩ := ig hm6
 clear hm6
 refine cd_st (fun _ h => mv1 h) ?_
 refine cd_opt (fun ho11 => ?_) (fun x9 b10 ho11 => ?_)
 ·rintro rfl
  have hm12 := om_n hm8 ho11
  clear hm8
  cases hm12
 rintro rfl
 have hm12 := om_s hm8 ho11
 clear hm8
 refine cd_st (fun _ h => st_star_o h) ?_
 obtain ⟨r17, hr17, hm18⟩ := bs hm12
 clear hm12
 obtain ⟨h19, hm20⟩ := ig hm18
 clear hm18
 refine c_any mixed (effs := []) (V := []) ?_
 refine stage_ext [(0, pt b0_ 0), (1, pt b0_ 0), (2, pt b0_ 0), (3, vI a0.most), (4, vW (toW a0.most)), (5, vS r3), (6, pt b0_ 0), (7, pt b0_ 0), (8, pt b0_ 1), (9, vI a0.target), (10, vW (toW a0.target)), (11, vS r5), (12, vS (r3 ++ r5)), (13, pt b0_ 0), (14, pt b0_ 0), (15, pt b0_ 2), (16, pt b10 0), (17, vS r17), (18, vS ((r3 ++ r5) ++ r17)), (19, vS ((r3 ++ r5) ++ r17))] z ?_
 refine stage z z z z [0, 1, 3, 7, 15, 31, 0, 64, 192, 448, 960, 2047, 4095, 0, 8192, 24576, 57344, 126975, 262143, 524287] [0, 1, 2, 3, 4, 5, 6, 7, 8, 9, 10, 11, 12, 13, 14, 15, 16, 17, 18, 19] [] z z z (q_mv z z z (q_u z z (o_nc z) (q_fa z z fa86_0 z (q_ld z z 5 sc3 z z z (q_u z z (o_cv z (cIW Tryz.underlying3 Tryz.underlying27 a0.most)) (q_u z z (o_callq ca41 z (A4.ok (toW a0.most) r3 hr3)) (q_mv z z z (q_u z z (o_nc z) (q_fa z z fa86_1 z (q_ld z z 5 sc3 z z z (q_u z z (o_cv z (cIW Tryz.underlying3 Tryz.underlying27 a0.target)) (q_u z z (o_callq ca41 z (A4.ok (toW a0.target) r5 hr5)) (q_u z z (o_bin z z (bS_add r3 r5 h7)) (q_mv z z z (q_u z z (o_nc z) (q_fa z z fa86_2 z (q_ld z z 5 sc82 z z z (q_u z z (o_callqP ca80 z (Cd.ok b10 x9 g2 r17 hr17) (fun _ h => st_pk 6 [0, 1, 2, 3, 4, 5] (by decide) h) (fun _ h => st_pk 6 [0, 1, 2, 3, 4, 5] (by decide) h)) (q_u z z (o_bin z z (bS_add (r3 ++ r5) r17 h19)) (q_u z z (o_as z) qn)))))))))))))))))))) en ?_
 intro _
 refine ex_sub (E' := [(2, vS ((r3 ++ r5) ++ r17))]) ⟨z, trivial⟩ ?_
 refine x_seq (c_ret ?_)
 refine ex_st (fun _ h => st_some (f := Ae.op g2) (a := x9) (st_star_f (A := Ae.fl b10 x9 g2) h)) ?_
 refine ex_st (fun _ h => st_back ho11 h) ?_
 obtain rfl := si hm20
 refine ex_st (fun _ h => st_pk 2 [1, 0] (by decide) h) ?_
 exact x_r1 z (rv_t z) (Le.refl _) ⟨_, z, z, z, z⟩
def Dk (a0 : Bool) : Str :=
 if a0 then [1] else [0]
theorem Dk.ok {G R F} (a0 : Bool) (r : Str) (hm : Dk a0 = r) : CO Tryz.prog 113 [vB a0] G R (F)
  (Ret fun u R' L' => u = vS r ∧ R' = R ∧ L' = F) := by
 unfold Dk at hm
 refine co_ofN (N := 4) Tryz.func113 z z ?_
 refine csr ?_
 refine r_as z ?_
 refine nssr ?_
 refine r_mv z ?_
 refine nsq ?_
 refine c_if (b := a0) z (fun h0 => ?_) fun h0 => ?_
 ·have hm1 := ift hm h0
  clear hm
  refine csr ?_
  refine r_as z ?_
  refine r_nil (x_seq (c_ret ?_))
  subst hm1
  exact x_r1 z (rv_t z) (Le.refl _) ⟨_, z, z, z, z⟩
 have hm1 := iff_ hm h0
 clear hm
 refine c_skip (x_seq (csr ?_))
 refine r_as z ?_
 refine r_nil (x_seq (c_ret ?_))
 subst hm1
 exact x_r1 z (rv_t z) (Le.refl _) ⟨_, z, z, z, z⟩
def BL (a0 : Aj) : Nat → Str → Int → Option (Str)
 | 0, _, _ => none
 | k22 + 1, out_20, s_21 => if decide (s_21 < (a0.door.length : Int)) then (gi a0.door s_21).bind fun x27 => if out_20.length + (Dk x27).length ≤ maxS then BL a0 k22 (out_20 ++ (Dk x27)) (i64 (s_21 + 1)) else none else some out_20
def A6 (a0 : Aj) : Nat → Str → Int → Option (Str)
 | 0, _, _ => none
 | k33 + 1, out_31, s_32 => if decide (s_32 < 4) then (gi a0.rows s_32).bind fun y38 => if out_31.length + y38.length ≤ maxS then A6 a0 k33 (out_31 ++ y38) (i64 (s_32 + 1)) else none else some out_31
def Cn (a0 : Aj) : Option Str :=
 (A4 (toW a0.wide)).bind fun r2 => (A4 a0.seed).bind fun r4 => if r2.length + r4.length ≤ maxS then (A4 (toW a0.added)).bind fun r8 => if (r2 ++ r4).length + r8.length ≤ maxS then Option.bind (A6 a0 5 ((r2 ++ r4) ++ r8) 0) fun p12 => Option.bind (BL a0 (((a0.door.length : Int) - 0).toNat + 1) p12 0) fun p16 => some p16 else none else none
theorem Cn.ok {G R F} (b0_ : Nat) (a0 : Aj) (g0_ : Aj.G) (r : Str) (hm : Cn a0 = some r) : CO Tryz.prog 81 [pt b0_ 0] G R (Bk b0_ 143 (Aj.k a0 g0_) :: OwL (OwS false 5 1 eY) [g0_.rows.1, g0_.rows.2.1, g0_.rows.2.2.1, g0_.rows.2.2.2] a0.rows :: OwS true 4 1 eB g0_.door a0.door :: F)
  (Ret fun u R' L' => u = vS r ∧ R' = R ∧ L' = Bk b0_ 143 (Aj.k a0 g0_) :: OwL (OwS false 5 1 eY) [g0_.rows.1, g0_.rows.2.1, g0_.rows.2.2.1, g0_.rows.2.2.2] a0.rows :: OwS true 4 1 eB g0_.door a0.door :: F) := by
 unfold Cn at hm
 refine co_ofN (N := 56) Tryz.func81 z z ?_
 refine csr ?_
 refine r_as z ?_
 refine nssr ?_
 refine r_mv z (r_bin z z (bP_eqp Tryz.underlying87) ?_)
 refine nsq ?_
 refine c_ff z ?_
 refine c_skip (x_seq (c_seq ?_))
 obtain ⟨r2, hr2, hm3⟩ := bs hm
 clear hm
 obtain ⟨r4, hr4, hm5⟩ := bs hm3
 clear hm3
 obtain ⟨h6, hm7⟩ := ig hm5
 clear hm5
 obtain ⟨r8, hr8, hm9⟩ := bs hm7
 clear hm7
 obtain ⟨h10, hm11⟩ := ig hm9
 clear hm9
 refine c_any mixed (effs := []) (V := []) ?_
 refine stage_ext [(0, pt b0_ 0), (1, pt b0_ 0), (2, pt b0_ 0), (3, vI a0.wide), (4, vW (toW a0.wide)), (5, vS r2), (6, pt b0_ 0), (7, pt b0_ 0), (8, pt b0_ 1), (9, vW a0.seed), (10, vS r4), (11, vS (r2 ++ r4)), (12, pt b0_ 0), (13, pt b0_ 0), (14, pt b0_ 7), (15, vI a0.added), (16, vW (toW a0.added)), (17, vS r8), (18, vS ((r2 ++ r4) ++ r8)), (19, vS ((r2 ++ r4) ++ r8))] z ?_
 refine stage z z z z [0, 1, 3, 7, 15, 31, 0, 64, 192, 448, 1023, 2047, 0, 4096, 12288, 28672, 61440, 129023, 262143, 524287] [0, 1, 2, 3, 4, 5, 6, 7, 8, 9, 10, 11, 12, 13, 14, 15, 16, 17, 18, 19] [] z z z (q_mv z z z (q_u z z (o_nc z) (q_fa z z fa143_0 z (q_ld z z 0 sc3 z z z (q_u z z (o_cv z (cIW Tryz.underlying3 Tryz.underlying27 a0.wide)) (q_u z z (o_callq ca41 z (A4.ok (toW a0.wide) r2 hr2)) (q_mv z z z (q_u z z (o_nc z) (q_fa z z fa143_1 z (q_ld z z 0 sc27 z z z (q_u z z (o_callq ca41 z (A4.ok a0.seed r4 hr4)) (q_u z z (o_bin z z (bS_add r2 r4 h6)) (q_mv z z z (q_u z z (o_nc z) (q_fa z z fa143_4 z (q_ld z z 0 sc3 z z z (q_u z z (o_cv z (cIW Tryz.underlying3 Tryz.underlying27 a0.added)) (q_u z z (o_callq ca41 z (A4.ok (toW a0.added) r8 hr8)) (q_u z z (o_bin z z (bS_add (r2 ++ r4) r8 h10)) (q_u z z (o_as z) qn)))))))))))))))))))) en ?_
 intro _
 refine ex_sub (E' := [(0, pt b0_ 0), (3, vS ((r2 ++ r4) ++ r8))]) ⟨z, z, trivial⟩ ?_
 refine x_seq (c_seq (csr ?_))
 refine r_mv z (r_nc z (r_fa fa143_2 z ?_))
 refine r_u (o_ldn 0 [g0_.rows.1, g0_.rows.2.1, g0_.rows.2.2.1, g0_.rows.2.2.2] ag141 z z z z) (r_mv z ?_)
 refine nsq ?_
 obtain ⟨p12, hp13, hm14⟩ := bs hm11
 refine cd_join (E' := [(0, pt b0_ 0), (3, vS p12)]) (L' := Bk b0_ 143 (Aj.k a0 g0_) :: OwL (OwS false 5 1 eY) [g0_.rows.1, g0_.rows.2.1, g0_.rows.2.2.1, g0_.rows.2.2.2] a0.rows :: OwS true 4 1 eB g0_.door a0.door :: F) ?_ fun K15 => ?_
 ·refine x_seq (c_seq (csr ?_))
  refine r_mv z (r_nc z (r_fa fa143_3 z (r_ld 0 sc34 z z z (r_u (o_lenO 2 Tryz.underlying34 z z) (r_mv z ?_)))))
  refine nsq ?_
  obtain ⟨p16, hp17, hm18⟩ := bs hm14
  refine cd_join (E' := [(3, vS p16)]) (L' := Bk b0_ 143 (Aj.k a0 g0_) :: OwL (OwS false 5 1 eY) [g0_.rows.1, g0_.rows.2.1, g0_.rows.2.2.1, g0_.rows.2.2.2] a0.rows :: OwS true 4 1 eB g0_.door a0.door :: F) ?_ fun K19 => ?_
  ·refine x_seq (csr ?_)
   refine r_mv z (r_as z ?_)
   refine r_nil (x_seq (c_ret ?_))
   obtain rfl := si hm18
   exact x_r1 z (rv_t z) (Le.refl _) ⟨_, z, z, z, z⟩
  refine c_blk ?_
  refine cd_loop (M := fun k22 (s : Str × Int) => BL a0 k22 s.1 s.2 = some p16) (Ef := fun (s : Str × Int) => [(44, g0_.door), (45, vI (a0.door.length : Int)), (3, vS s.1), (46, vI s.2)]) (Lf := fun (s : Str × Int) => Bk b0_ 143 (Aj.k a0 g0_) :: OwL (OwS false 5 1 eY) [g0_.rows.1, g0_.rows.2.1, g0_.rows.2.2.1, g0_.rows.2.2.2] a0.rows :: OwS true 4 1 eB g0_.door a0.door :: F) (((a0.door.length : Int) - 0).toNat + 1) (p12, 0) hp17 ⟨z, z, z, z, trivial⟩ (fun _ h => h) (fun _ h => by cases h) fun k22 s hM24 => ?_
  obtain ⟨out_20, s_21⟩ := s
  have hm23 : BL a0 (k22 + 1) out_20 s_21 = some p16 := hM24
  rw [BL] at hm23
  refine csr ?_
  refine r_bin z z (bI_lt s_21 (a0.door.length : Int)) ?_
  refine r_nil (x_seq (c_seq ?_))
  refine c_if (b := decide (s_21 < (a0.door.length : Int))) z (fun h25 => ?_) fun h25 => ?_
  rotate_left
  ·have hm26 := iff_ hm23 h25
   clear hm23
   refine c_exit (x_exit (ks' := _) z ?_)
   obtain rfl := si hm26
   exact x_sub K19 ⟨z, trivial⟩ (fun _ h => st_pk 3 [0, 1, 2] (by decide) h)
  have hm26 := ift hm23 h25
  clear hm23
  refine c_skip (x_seq (c_seq (c_blk (csr ?_))))
  obtain ⟨x27, hx27, hm28⟩ := bs hm26
  clear hm26
  refine r_u (o_ixO 2 Tryz.underlying34 (fun _ => by kernel_rfl) z z z hx27) (r_u (o_ldO0 2 sc4 z z hx27 z z) (r_as z ?_))
  refine r_nil (x_seq (c_reg ?_))
  refine r_mv z (r_mv z ?_)
  refine r_u (o_callq ca113 z (Dk.ok x27 _ z)) ?_
  obtain ⟨h29, hm30⟩ := ig hm28
  clear hm28
  refine r_bin z z (bS_add out_20 (Dk x27) h29) (r_as z ?_)
  refine r_nil (x_blk (x_seq (c_reg ?_)))
  refine r_bin z z (bI_add s_21 1) (r_mv z ?_)
  refine r_nil ?_
  exact x_lp (out_20 ++ (Dk x27), i64 (s_21 + 1)) hm30 ⟨z, z, z, z, trivial⟩ (fun _ h => st_pk 3 [0, 1, 2] (by decide) h)
 refine c_blk ?_
 refine cd_loop (M := fun k33 (s : Str × Int) => A6 a0 k33 s.1 s.2 = some p12) (Ef := fun (s : Str × Int) => [(0, pt b0_ 0), (32, .agg [g0_.rows.1, g0_.rows.2.1, g0_.rows.2.2.1, g0_.rows.2.2.2].toArray), (3, vS s.1), (33, vI s.2)]) (Lf := fun (s : Str × Int) => Bk b0_ 143 (Aj.k a0 g0_) :: OwL (OwS false 5 1 eY) [g0_.rows.1, g0_.rows.2.1, g0_.rows.2.2.1, g0_.rows.2.2.2] a0.rows :: OwS true 4 1 eB g0_.door a0.door :: F) 5 ((r2 ++ r4) ++ r8, 0) hp13 ⟨z, z, z, z, trivial⟩ (fun _ h => h) (fun _ h => by cases h) fun k33 s hM35 => ?_
 obtain ⟨out_31, s_32⟩ := s
 have hm34 : A6 a0 (k33 + 1) out_31 s_32 = some p12 := hM35
 rw [A6] at hm34
 refine csr ?_
 refine r_bin z z (bI_lt s_32 4) ?_
 refine r_nil (x_seq (c_seq ?_))
 refine c_if (b := decide (s_32 < 4)) z (fun h36 => ?_) fun h36 => ?_
 rotate_left
 ·have hm37 := iff_ hm34 h36
  clear hm34
  refine c_exit (x_exit (ks' := _) z ?_)
  obtain rfl := si hm37
  exact x_sub K15 ⟨z, z, trivial⟩ (fun _ h => st_pk 3 [0, 1, 2] (by decide) h)
 have hm37 := ift hm34 h36
 clear hm34
 refine c_skip (x_seq (c_seq (c_blk (csr ?_))))
 obtain ⟨y38, hy38, hm40⟩ := bs hm37
 clear hm37
 refine rl_ex (fun w h => st_peek 1 hy38 z w h) fun u39 hu39 => ?_
 refine r_u (o_ixG Tryz.underlying141 (fun _ => by kernel_rfl) sc111.1 z z z hu39) (r_as z ?_)
 refine r_nil (x_seq (c_reg ?_))
 refine r_mv z (r_mv z ?_)
 refine r_u (o_bsK (kn_in 1 z hu39 hy38) Tryz.underlying111 Tryz.underlying5 Tryz.underlying9 z) ?_
 obtain ⟨h41, hm42⟩ := ig hm40
 clear hm40
 refine r_bin z z (bS_add out_31 y38 h41) (r_as z ?_)
 refine r_nil (x_blk (x_seq (c_reg ?_)))
 refine r_bin z z (bI_add s_32 1) (r_mv z ?_)
 refine r_nil ?_
 exact x_lp (out_31 ++ y38, i64 (s_32 + 1)) hm42 ⟨z, z, z, z, trivial⟩ (fun _ h => st_pk 3 [0, 1, 2] (by decide) h)
def CR (a0 : Ak) : Option Str :=
 (A4 (toW a0.most)).bind fun r6 => om a0.s (none) fun x8 => (Cn x8).bind fun r14 => if r6.length + r14.length ≤ maxS then om a0.r (none) fun x18 => (Cd x18).bind fun r26 => if (r6 ++ r14).length + r26.length ≤ maxS then some ((r6 ++ r14) ++ r26) else none else none
theorem CR.ok {G R F} (b0_ : Nat) (a0 : Ak) (g0_ : Ak.G) (r : Str) (hm : CR a0 = some r) : CO Tryz.prog 43 [pt b0_ 0] G R (Bk b0_ 92 [vI a0.most, g0_.s.1, g0_.r.1] :: rO (Aj.op g0_.s.2) g0_.s.1 a0.s :: rO (Ae.op g0_.r.2) g0_.r.1 a0.r :: F)
  (Ret fun u R' L' => u = vS r ∧ R' = R ∧ L' = Bk b0_ 92 [vI a0.most, g0_.s.1, g0_.r.1] :: rO (Aj.op g0_.s.2) g0_.s.1 a0.s :: rO (Ae.op g0_.r.2) g0_.r.1 a0.r :: F) := by
 obtain ⟨⟨pv1, g2⟩, ⟨pv4, g5⟩⟩ := g0_
 unfold CR at hm
 refine co_ofN (N := 23) Tryz.func43 z z ?_
 refine csr ?_
 refine r_as z ?_
 refine nssr ?_
 refine r_mv z (r_bin z z (bP_eqp Tryz.underlying61) ?_)
 refine nsq ?_
 refine c_ff z ?_
 refine c_skip (x_seq (c_seq ?_))
 obtain ⟨r6, hr6, hm7⟩ := bs hm
 clear hm
 refine cd_st (fun _ h => mv1 h) ?_
 refine cd_opt (fun ho10 => ?_) (fun x8 b9 ho10 => ?_)
 ·rintro rfl
  have hm11 := om_n hm7 ho10
  clear hm7
  cases hm11
 rintro rfl
 have hm11 := om_s hm7 ho10
 clear hm7
 refine cd_st (fun _ h => st_star_o h) ?_
 obtain ⟨r14, hr14, hm15⟩ := bs hm11
 clear hm11
 obtain ⟨h16, hm17⟩ := ig hm15
 clear hm15
 refine cd_st (fun _ h => mv4 h) ?_
 refine cd_opt (fun ho20 => ?_) (fun x18 b19 ho20 => ?_)
 ·rintro rfl
  have hm21 := om_n hm17 ho20
  clear hm17
  cases hm21
 rintro rfl
 have hm21 := om_s hm17 ho20
 clear hm17
 refine cd_st (fun _ h => st_star_o h) ?_
 obtain ⟨r26, hr26, hm27⟩ := bs hm21
 clear hm21
 obtain ⟨h28, hm29⟩ := ig hm27
 clear hm27
 refine c_any mixed (effs := []) (V := []) ?_
 refine stage_ext [(0, pt b0_ 0), (1, pt b0_ 0), (2, pt b0_ 0), (3, vI a0.most), (4, vW (toW a0.most)), (5, vS r6), (6, pt b0_ 0), (7, pt b0_ 0), (8, pt b0_ 1), (9, pt b9 0), (10, vS r14), (11, vS (r6 ++ r14)), (12, pt b0_ 0), (13, pt b0_ 0), (14, pt b0_ 2), (15, pt b19 0), (16, vS r26), (17, vS ((r6 ++ r14) ++ r26)), (18, vS ((r6 ++ r14) ++ r26))] z ?_
 refine stage z z z z [0, 1, 3, 7, 15, 31, 0, 64, 192, 448, 1023, 2047, 0, 4096, 12288, 28672, 63487, 131071, 262143] [0, 1, 2, 3, 4, 5, 6, 7, 8, 9, 10, 11, 12, 13, 14, 15, 16, 17, 18] [] z z z (q_mv z z z (q_u z z (o_nc z) (q_fa z z fa92_0 z (q_ld z z 8 sc3 z z z (q_u z z (o_cv z (cIW Tryz.underlying3 Tryz.underlying27 a0.most)) (q_u z z (o_callq ca41 z (A4.ok (toW a0.most) r6 hr6)) (q_mv z z z (q_u z z (o_nc z) (q_fa z z fa92_1 z (q_ld z z 8 sc87 z z z (q_u z z (o_callqP ca81 z (Cn.ok b9 x8 g2 r14 hr14) (fun _ h => st_pk 9 [5, 6, 7, 0, 1, 2, 3, 4, 8] (by decide) h) (fun _ h => st_pk 9 [3, 4, 5, 6, 7, 0, 1, 2, 8] (by decide) h)) (q_u z z (o_bin z z (bS_add r6 r14 h16)) (q_mv z z z (q_u z z (o_nc z) (q_fa z z fa92_2 z (q_ld z z 8 sc82 z z z (q_u z z (o_callqP ca80 z (Cd.ok b19 x18 g5 r26 hr26) (fun _ h => st_pk 9 [0, 1, 2, 3, 4, 5, 6, 7, 8] (by decide) h) (fun _ h => st_pk 9 [0, 1, 2, 3, 4, 5, 6, 7, 8] (by decide) h)) (q_u z z (o_bin z z (bS_add (r6 ++ r14) r26 h28)) (q_u z z (o_as z) qn))))))))))))))))))) en ?_
 intro _
 refine ex_sub (E' := [(2, vS ((r6 ++ r14) ++ r26))]) ⟨z, trivial⟩ ?_
 refine x_seq (c_ret ?_)
 refine ex_st (fun _ h => mv7 (mv7 (mv7 h))) ?_
 refine ex_st (fun _ h => st_some (f := Aj.op g2) (a := x8) (st_star_f (A := Aj.fl b9 x8 g2) h)) ?_
 refine ex_st (fun _ h => mv5 (mv5 (mv5 (mv5 (mv5 h))))) ?_
 refine ex_st (fun _ h => st_some (f := Ae.op g5) (a := x18) (st_star_f (A := Ae.fl b19 x18 g5) h)) ?_
 refine ex_st (fun _ h => mv1 h) ?_
 refine ex_st (fun _ h => st_back ho10 h) ?_
 refine ex_st (fun _ h => mv1 h) ?_
 refine ex_st (fun _ h => st_back ho20 h) ?_
 obtain rfl := si hm29
 refine ex_st (fun _ h => st_pk 3 [2, 1, 0] (by decide) h) ?_
 exact x_r1 z (rv_t z) (Le.refl _) ⟨_, z, z, z, z⟩
def A5 (a0 : Ab) : Option Str :=
 if ((An a0) == 1) then (A4 1).bind fun r8 => om a0.a (none) fun x10 => (C6 x10).bind fun r17 => if r8.length + r17.length ≤ maxS then some (r8 ++ r17) else none else if ((An a0) == 2) then (A4 2).bind fun r23 => om a0.t (none) fun x25 => (CR x25).bind fun r35 => if r23.length + r35.length ≤ maxS then some (r23 ++ r35) else none else some []
theorem A5.ok {G R F} (b0_ : Nat) (a0 : Ab) (g0_ : Ab.G) (r : Str) (hm : A5 a0 = some r) : CO Tryz.prog 14 [pt b0_ 0] G R (Bk b0_ 63 [vI a0.kind, g0_.a.1, g0_.t.1] :: rO (Al.op g0_.a.2) g0_.a.1 a0.a :: rO (Ak.op g0_.t.2) g0_.t.1 a0.t :: F)
  (Ret fun u R' L' => u = vS r ∧ R' = R ∧ L' = Bk b0_ 63 [vI a0.kind, g0_.a.1, g0_.t.1] :: rO (Al.op g0_.a.2) g0_.a.1 a0.a :: rO (Ak.op g0_.t.2) g0_.t.1 a0.t :: F) := by
 obtain ⟨⟨pv1, g2⟩, ⟨pv4, g5⟩⟩ := g0_
 unfold A5 at hm
 refine co_ofN (N := 23) Tryz.func14 z z ?_
 refine csr ?_
 refine r_as z ?_
 refine nssr ?_
 refine r_mv z ?_
 refine r_c (s_w (o_call ca16 z (An.ok b0_ a0 (⟨(pv1, g2), (pv4, g5)⟩ : Ab.G) _ z))) ?_
 refine r_nil (x_seq (c_blk (csr ?_)))
 refine r_bin z z (bI_eq (An a0) 1) (r_as z ?_)
 refine nsq ?_
 refine c_if (b := ((An a0) == 1)) z (fun h6 => ?_) fun h6 => ?_
 ·have hm7 := ift hm h6
  clear hm
  refine c_seq ?_
  obtain ⟨r8, hr8, hm9⟩ := bs hm7
  clear hm7
  refine cd_st (fun _ h => mv1 h) ?_
  refine cd_opt (fun ho12 => ?_) (fun x10 b11 ho12 => ?_)
  ·rintro rfl
   have hm13 := om_n hm9 ho12
   clear hm9
   cases hm13
  rintro rfl
  have hm13 := om_s hm9 ho12
  clear hm9
  obtain ⟨⟨pv15, g16⟩⟩ := g2
  refine cd_st (fun _ h => st_star_o h) ?_
  obtain ⟨r17, hr17, hm18⟩ := bs hm13
  clear hm13
  obtain ⟨h19, hm20⟩ := ig hm18
  clear hm18
  refine c_any mixed (effs := []) (V := []) ?_
  refine stage_ext [(0, vS r8), (1, pt b0_ 0), (2, pt b0_ 0), (3, pt b0_ 1), (4, pt b11 0), (5, vS r17), (6, vS (r8 ++ r17)), (7, vS (r8 ++ r17))] z ?_
  refine stage z z z z mk14_ [0, 1, 2, 3, 4, 5, 6, 7] [] z z z (q_u z z (o_callq ca41 z (A4.ok 1 r8 hr8)) (q_mv z z z (q_u z z (o_nc z) (q_fa z z fa63_1 z (q_ld z z 2 sc60 z z z (q_u z z (o_callqP ca42 z (C6.ok b11 x10 (⟨(pv15, g16)⟩ : Al.G) r17 hr17) (fun _ h => st_pk 4 [0, 1, 2, 3] (by decide) h) (fun _ h => st_pk 4 [0, 1, 2, 3] (by decide) h)) (q_u z z (o_bin z z (bS_add r8 r17 h19)) (q_u z z (o_as z) qn)))))))) en ?_
  intro _
  refine ex_sub (E' := [(2, vS (r8 ++ r17))]) ⟨z, trivial⟩ ?_
  refine x_seq (c_ret ?_)
  refine ex_st (fun _ h => st_some (f := Al.op (⟨(pv15, g16)⟩ : Al.G)) (a := x10) (st_star_f (A := Al.fl b11 x10 (⟨(pv15, g16)⟩ : Al.G)) h)) ?_
  refine ex_st (fun _ h => st_back ho12 h) ?_
  obtain rfl := si hm20
  refine ex_st (fun _ h => st_pk 3 [1, 0, 2] (by decide) h) ?_
  exact x_r1 z (rv_t z) (Le.refl _) ⟨_, z, z, z, z⟩
 have hm7 := iff_ hm h6
 clear hm
 refine csr ?_
 refine r_bin z z (bI_eq (An a0) 2) (r_as z ?_)
 refine nsq ?_
 refine c_if (b := ((An a0) == 2)) z (fun h21 => ?_) fun h21 => ?_
 rotate_left
 ·have hm22 := iff_ hm7 h21
  clear hm7
  refine c_skip (x_blk (x_seq (csr ?_)))
  refine r_as z ?_
  refine r_nil (x_seq (c_ret ?_))
  obtain rfl := si hm22
  exact x_r1 z (rv_t z) (Le.refl _) ⟨_, z, z, z, z⟩
 have hm22 := ift hm7 h21
 clear hm7
 refine c_seq ?_
 obtain ⟨r23, hr23, hm24⟩ := bs hm22
 clear hm22
 refine cd_st (fun _ h => mv2 h) ?_
 refine cd_opt (fun ho27 => ?_) (fun x25 b26 ho27 => ?_)
 ·rintro rfl
  have hm28 := om_n hm24 ho27
  clear hm24
  cases hm28
 rintro rfl
 have hm28 := om_s hm24 ho27
 clear hm24
 obtain ⟨⟨pv30, g31⟩, ⟨pv33, g34⟩⟩ := g5
 refine cd_st (fun _ h => st_star_o h) ?_
 obtain ⟨r35, hr35, hm36⟩ := bs hm28
 clear hm28
 obtain ⟨h37, hm38⟩ := ig hm36
 clear hm36
 refine c_any mixed (effs := []) (V := []) ?_
 refine stage_ext [(0, vS r23), (1, pt b0_ 0), (2, pt b0_ 0), (3, pt b0_ 2), (4, pt b26 0), (5, vS r35), (6, vS (r23 ++ r35)), (7, vS (r23 ++ r35))] z ?_
 refine stage z z z z mk14_ [0, 1, 2, 3, 4, 5, 6, 7] [] z z z (q_u z z (o_callq ca41 z (A4.ok 2 r23 hr23)) (q_mv z z z (q_u z z (o_nc z) (q_fa z z fa63_2 z (q_ld z z 3 sc61 z z z (q_u z z (o_callqP ca43 z (CR.ok b26 x25 (⟨(pv30, g31), (pv33, g34)⟩ : Ak.G) r35 hr35) (fun _ h => st_pk 5 [0, 1, 2, 3, 4] (by decide) h) (fun _ h => st_pk 5 [0, 1, 2, 3, 4] (by decide) h)) (q_u z z (o_bin z z (bS_add r23 r35 h37)) (q_u z z (o_as z) qn)))))))) en ?_
 intro _
 refine ex_sub (E' := [(2, vS (r23 ++ r35))]) ⟨z, trivial⟩ ?_
 refine x_seq (c_ret ?_)
 refine ex_st (fun _ h => st_some (f := Ak.op (⟨(pv30, g31), (pv33, g34)⟩ : Ak.G)) (a := x25) (st_star_f (A := Ak.fl b26 x25 (⟨(pv30, g31), (pv33, g34)⟩ : Ak.G)) h)) ?_
 refine ex_st (fun _ h => st_back ho27 h) ?_
 obtain rfl := si hm38
 refine ex_st (fun _ h => st_pk 3 [1, 2, 0] (by decide) h) ?_
 exact x_r1 z (rv_t z) (Le.refl _) ⟨_, z, z, z, z⟩
def Cc (a0 : Int) : (Unit) ⊕ (Int × Unit) :=
 Sum.inr (a0, ())
theorem Cc.ok {G R F} (a0 : Int) (r : (Unit) ⊕ (Int × Unit)) (hm : Cc a0 = r) : CO Tryz.prog 117 [vI a0] G R (F)
  (PK 118 r (fun (a : Unit) u R' L' => u = .tuple #[] ∧ R' = R ∧ L' = F) (fun n (o : Unit) R' L' => R' = R ∧ L' = F)) := by
 unfold Cc at hm
 refine co_ofN (N := 5) Tryz.func117 z z ?_
 refine c_reg ?_
 refine r_mv z ?_
 refine r_u (o_bld [vI a0] z (fun _ => by kernel_rfl)) ?_
 refine r_u (o_mi (v := .iface 118 (.agg #[vI a0])) z (fun _ => by kernel_rfl)) ?_
 subst hm
 exact r_sw0 (s_w (o_panic z (px_st (fun _ h => st_pk 0 [] (by decide) h) (px_of (Le.refl _) (.inr ⟨_, z, _, z, z, z⟩))))) (fun _ _ _ _ h => h.elim)
def AH (a0 : Ai) (a1 : Int) : Option ((Str × Ai) ⊕ (Int × Ai)) :=
 Option.bind (if (decide (a1 < 0) || decide ((a0.s.length : Int) < a1)) then lt (Cc 4) fun r11 => sm r11 (fun (ra13 : Unit) => some (Sum.inl ())) fun ((rn14, ro15) : Int × Unit) => some (Sum.inr (Sum.inr (rn14, a0))) else some (Sum.inl ())) fun (p0 : Unit ⊕ ((Str × Ai) ⊕ (Int × Ai))) => (match p0 with | Sum.inl q1 => (sl a0.s 0 a1).bind fun s5 => (sl a0.s a1 (a0.s.length : Int)).bind fun s7 => some (Sum.inl (s5, (⟨s7⟩ : Ai))) | Sum.inr r => some r)
theorem AH.ok {G R F} (b0_ : Nat) (a0 : Ai) (a1 : Int) (r : (Str × Ai) ⊕ (Int × Ai)) (hm : AH a0 a1 = some r) : CO Tryz.prog 116 [pt b0_ 0, vI a1] G R (Bk b0_ 120 (Ai.c a0) :: F)
  (PK 118 r (fun (a : Str × Ai) u R' L' => u = vS a.1 ∧ R' = R ∧ L' = Bk b0_ 120 (Ai.c a.2) :: F) (fun n (o : Ai) R' L' => R' = R ∧ L' = Bk b0_ 120 (Ai.c o) :: F)) := by
 unfold AH at hm
 refine co_ofN (N := 34) Tryz.func116 z z ?_
 refine csr ?_
 refine r_as z ?_
 refine nssr ?_
 refine r_mv z (r_bin z z (bI_lt a1 0) (r_mv z ?_))
 refine r_s (s_gf z z fun g => o_mv z) ?_
 refine r_s (s_gf z z fun g => o_mv z) ?_
 refine r_s (s_gf z z fun g => o_nc (evg z g)) ?_
 refine r_s (s_gf z z fun g => o_fa fa120_0 (evg z g)) ?_
 refine r_s (s_gf z z fun g => o_ld 0 sc9 (evg z g) z z) ?_
 refine r_s (s_gf z z fun g => o_lenS Tryz.underlying9 (evg z g)) ?_
 refine r_s (s_gf z z fun g => o_bin (evg z g) (evg z g) (bI_gt a1 (a0.s.length : Int))) ?_
 refine r_u (o_or z z) ?_
 refine nsq ?_
 obtain ⟨p0, hp2, hm3⟩ := bs hm
 refine cd_joinS (p := p0) (Ef := fun q1 => [(0, pt b0_ 0), (1, vI a1)]) (Lf := fun q1 => Bk b0_ 120 (Ai.c a0) :: F) (fun q1 hq => ?_) fun K4 => ?_
 ·subst hq
  try dsimp only at hm3
  refine x_seq (csr ?_)
  refine r_mv z (r_nc z (r_fa fa120_0 z (r_ld 0 sc9 z z z (r_mv z ?_))))
  obtain ⟨s5, hs5, hm6⟩ := bs hm3
  clear hm3
  refine r_u (o_slS (i := 0) (j := a1) Tryz.underlying9 z z z hs5) (r_as z ?_)
  refine nsr ?_
  refine r_mv z (r_mv z (r_nc z (r_fa fa120_0 z (r_ld 0 sc9 z z z (r_mv z ?_)))))
  obtain ⟨s7, hs7, hm8⟩ := bs hm6
  clear hm6
  refine r_u (o_slS (i := a1) (j := (a0.s.length : Int)) Tryz.underlying9 z z z hs7) (r_nc z (r_fa fa120_0 z ?_))
  refine r_u0 (o_st sc9 z z z z z z) ?_
  refine nsr ?_
  refine r_mv z (r_as z ?_)
  refine r_nil (x_seq (c_ret ?_))
  obtain rfl := si hm8
  exact x_r1 z (rv_t z) (Le.refl _) (.inl ⟨_, z, _, z, z, z, z⟩)
 refine c_if (b := (decide (a1 < 0) || decide ((a0.s.length : Int) < a1))) z (fun h9 => ?_) fun h9 => ?_
 rotate_left
 ·have hm10 := iff_ hp2 h9
  clear hp2
  refine c_skip ?_
  obtain rfl := si hm10
  exact x_sub (K4 _ z) ⟨z, z, trivial⟩ (fun _ h => st_pk 1 [0] (by decide) h)
 have hm10 := ift hp2 h9
 clear hp2
 obtain ⟨r11, hr11, hm12⟩ := ltx hm10
 clear hm10
 rcases r11 with ra13 | ⟨rn14, ro15⟩
 ·have hm16 := sm_l hm12
  clear hm12
  refine c_reg ?_
  refine r_c (s_w (o_callL ca117 z (Cc.ok 4 (Sum.inl ra13) hr11) (fun _ _ _ h => h))) ?_
  refine r_nil ?_
  obtain rfl := si hm16
  exact x_sub (K4 _ z) ⟨z, z, trivial⟩ (fun _ h => st_pk 1 [0] (by decide) h)
 have hm16 := sm_r hm12
 clear hm12
 refine c_reg ?_
 obtain rfl := si hm16
 try dsimp only at hm3
 obtain rfl := si hm3
 exact r_sw (s_w (o_callR ca117 z (Cc.ok 4 (Sum.inr (rn14, ro15)) hr11) (by rintro _ _ _ ⟨rfl, rfl⟩; exact (px_st (fun _ h => st_pk 1 [0] (by decide) h) (px_of (Le.refl _) (.inr ⟨_, z, _, z, z, z⟩)))))) (fun _ _ _ _ h => h.elim)
def BG  : Nat → UInt64 → Int → Str → Option ((UInt64 × Str) ⊕ ((UInt64 × Ai) ⊕ (Int × Ai)))
 | 0, _, _, _ => none
 | k16 + 1, n_13, s_14, c_15 => if decide (s_14 < 10) then (AH (⟨c_15⟩ : Ai) 1).bind fun r21 => sm r21 (fun (ra23 : Str × Ai) => (gi ra23.1 0).bind fun c27 => Option.bind (if (((s_14 == 9) && decide (1 < c27)) || (decide (0 < s_14) && (c27 == 0))) then lt (Cc 6) fun r40 => sm r40 (fun (ra42 : Unit) => some (Sum.inl ())) fun ((rn43, ro44) : Int × Unit) => some (Sum.inr (Sum.inr (Sum.inr (rn43, ra23.2)))) else some (Sum.inl ())) fun (p29 : Unit ⊕ ((UInt64 × Str) ⊕ ((UInt64 × Ai) ⊕ (Int × Ai)))) => (match p29 with | Sum.inl q30 => if 0 ≤ (i64 (7 * s_14)) then if decide (c27 < 128) then some (Sum.inl (n_13 ||| (shWl ((c27 % 128).toUInt64) (i64 (7 * s_14))), ra23.2.s)) else BG k16 (n_13 ||| (shWl ((c27 % 128).toUInt64) (i64 (7 * s_14)))) (i64 (s_14 + 1)) ra23.2.s else none | Sum.inr r => some r)) fun ((rn24, ro25) : Int × Ai) => some (Sum.inr (Sum.inr (rn24, ro25))) else some (Sum.inl (n_13, c_15))
def Ax (a0 : Ai) (a1 : UInt64) : Option ((UInt64 × Ai) ⊕ (Int × Ai)) :=
 Option.bind (BG 11 0 0 a0.s) fun (p0 : (UInt64 × Str) ⊕ ((UInt64 × Ai) ⊕ (Int × Ai))) => (match p0 with | Sum.inl q1 => if decide (a1 < q1.1) then lt (Cc 3) fun r7 => sm r7 (fun (ra9 : Unit) => some (Sum.inl (q1.1, (⟨q1.2⟩ : Ai)))) fun ((rn10, ro11) : Int × Unit) => some (Sum.inr (rn10, (⟨q1.2⟩ : Ai))) else some (Sum.inl (q1.1, (⟨q1.2⟩ : Ai))) | Sum.inr r => some r)
theorem Ax.ok {G R F} (b0_ : Nat) (a0 : Ai) (a1 : UInt64) (r : (UInt64 × Ai) ⊕ (Int × Ai)) (hm : Ax a0 a1 = some r) : CO Tryz.prog 86 [pt b0_ 0, vW a1] G R (Bk b0_ 120 (Ai.c a0) :: F)
  (PK 118 r (fun (a : UInt64 × Ai) u R' L' => u = vW a.1 ∧ R' = R ∧ L' = Bk b0_ 120 (Ai.c a.2) :: F) (fun n (o : Ai) R' L' => R' = R ∧ L' = Bk b0_ 120 (Ai.c o) :: F)) := by
 unfold Ax at hm
 refine co_ofN (N := 45) Tryz.func86 z z ?_
 refine csr ?_
 refine r_as z ?_
 refine nsr ?_
 refine r_as z ?_
 refine nssr ?_
 refine r_mv z ?_
 refine nsq ?_
 obtain ⟨p0, hp2, hm3⟩ := bs hm
 refine cd_joinS (p := p0) (Ef := fun q1 => [(1, vW a1), (5, vW q1.1)]) (Lf := fun q1 => Bk b0_ 120 [vS q1.2] :: F) (fun q1 hq => ?_) fun K4 => ?_
 ·subst hq
  try dsimp only at hm3
  refine x_seq (c_seq (csr ?_))
  refine r_mv z (r_mv z (r_bin z z (bW_gt q1.1 a1) ?_))
  refine nsq ?_
  refine c_if (b := decide (a1 < q1.1)) z (fun h5 => ?_) fun h5 => ?_
  rotate_left
  ·have hm6 := iff_ hm3 h5
   clear hm3
   refine c_skip (x_seq (csr ?_))
   refine r_mv z (r_as z ?_)
   refine r_nil (x_seq (c_ret ?_))
   obtain rfl := si hm6
   exact x_r1 z (rv_t z) (Le.refl _) (.inl ⟨_, z, _, z, z, z, z⟩)
  have hm6 := ift hm3 h5
  clear hm3
  obtain ⟨r7, hr7, hm8⟩ := ltx hm6
  clear hm6
  rcases r7 with ra9 | ⟨rn10, ro11⟩
  ·have hm12 := sm_l hm8
   clear hm8
   refine c_reg ?_
   refine r_c (s_w (o_callL ca117 z (Cc.ok 3 (Sum.inl ra9) hr7) (fun _ _ _ h => h))) ?_
   refine nsr ?_
   refine r_mv z (r_as z ?_)
   refine r_nil (x_seq (c_ret ?_))
   obtain rfl := si hm12
   exact x_r1 z (rv_t z) (Le.refl _) (.inl ⟨_, z, _, z, z, z, z⟩)
  have hm12 := sm_r hm8
  clear hm8
  refine c_reg ?_
  obtain rfl := si hm12
  exact r_sw (s_w (o_callR ca117 z (Cc.ok 3 (Sum.inr (rn10, ro11)) hr7) (by rintro _ _ _ ⟨rfl, rfl⟩; exact (px_st (fun _ h => st_pk 1 [0] (by decide) h) (px_of (Le.refl _) (.inr ⟨_, z, _, z, z, z⟩)))))) (fun _ _ _ _ h => h.elim)
 refine c_blk ?_
 refine cd_loop (M := fun k16 (s : UInt64 × Int × Str) => BG k16 s.1 s.2.1 s.2.2 = some p0) (Ef := fun (s : UInt64 × Int × Str) => [(0, pt b0_ 0), (1, vW a1), (5, vW s.1), (8, vI s.2.1)]) (Lf := fun (s : UInt64 × Int × Str) => Bk b0_ 120 [vS s.2.2] :: F) 11 (0, 0, a0.s) hp2 ⟨z, z, z, z, trivial⟩ (fun _ h => h) (fun _ h => by cases h) fun k16 s hM18 => ?_
 obtain ⟨n_13, s_14, c_15⟩ := s
 have hm17 : BG (k16 + 1) n_13 s_14 c_15 = some p0 := hM18
 rw [BG] at hm17
 refine csr ?_
 refine r_bin z z (bI_lt s_14 10) ?_
 refine r_nil (x_seq (c_seq ?_))
 refine c_if (b := decide (s_14 < 10)) z (fun h19 => ?_) fun h19 => ?_
 rotate_left
 ·have hm20 := iff_ hm17 h19
  clear hm17
  refine c_exit (x_exit (ks' := _) z ?_)
  obtain rfl := si hm20
  exact x_sub (K4 _ z) ⟨z, z, trivial⟩ (fun _ h => st_pk 1 [0] (by decide) h)
 have hm20 := ift hm17 h19
 clear hm17
 refine c_skip (x_seq (c_seq (c_blk (csr ?_))))
 refine r_mv z (r_as z ?_)
 refine r_nil (x_seq (c_seq ?_))
 obtain ⟨r21, hr21, hm22⟩ := bs hm20
 clear hm20
 rcases r21 with ra23 | ⟨rn24, ro25⟩
 rotate_left
 ·have hm26 := sm_r hm22
  clear hm22
  refine c_reg ?_
  refine r_mv z ?_
  obtain rfl := si hm26
  try dsimp only at hm3
  obtain rfl := si hm3
  exact r_sw (s_w (o_callR ca116 z (AH.ok b0_ (⟨c_15⟩ : Ai) 1 (Sum.inr (rn24, ro25)) hr21) (by rintro _ _ _ ⟨rfl, rfl⟩; exact (px_st (fun _ h => st_pk 1 [0] (by decide) h) (px_of (Le.refl _) (.inr ⟨_, z, _, z, z, z⟩)))))) (fun _ _ _ _ h => h.elim)
 have hm26 := sm_l hm22
 clear hm22
 refine c_reg ?_
 refine r_mv z ?_
 refine r_c (s_w (o_callL ca116 z (AH.ok b0_ (⟨c_15⟩ : Ai) 1 (Sum.inl ra23) hr21) (fun _ _ _ h => h))) ?_
 obtain ⟨c27, hc27, hm28⟩ := bs hm26
 clear hm26
 refine r_u (o_ixS Tryz.underlying9 z z hc27) (r_as z ?_)
 refine nssr ?_
 refine r_mv z (r_bin z z (bI_eq s_14 9) (r_mv z ?_))
 refine r_s (s_gt z z fun g => o_mv z) ?_
 refine r_s (s_gt z z fun g => o_bin (evg z g) z (bY_gt c27 1)) ?_
 refine r_u (o_and z z) (r_mv z ?_)
 refine r_s (s_gf z z fun g => o_mv z) ?_
 refine r_s (s_gf z z fun g => o_bin (evg z g) z (bI_gt s_14 0)) ?_
 refine r_s (s_gf z z fun g => o_mv (evg z g)) ?_
 refine r_s (s_ggt z z fun g => o_mv z) ?_
 refine r_s (s_ggt z z fun g => o_bin (evg z g) z (bY_eq c27 0)) ?_
 refine r_s (s_gf z z fun g => o_and (evg z g) (evg2 z g)) ?_
 refine r_u (o_or z z) ?_
 refine nsq ?_
 obtain ⟨p29, hp31, hm32⟩ := bs hm28
 refine cd_joinS (p := p29) (Ef := fun q30 => [(0, pt b0_ 0), (1, vW a1), (5, vW n_13), (6, vI s_14), (7, vY c27), (8, vI s_14)]) (Lf := fun q30 => Bk b0_ 120 (Ai.c ra23.2) :: F) (fun q30 hq => ?_) fun K33 => ?_
 ·subst hq
  try dsimp only at hm32
  refine x_seq (csr ?_)
  refine r_mv z (r_mv z (r_bin z z (bY_rem c27 128 (by decide)) (r_u (o_cv z (cYW Tryz.underlying5 Tryz.underlying27 (c27 % 128))) (r_mv z (r_bin z z (bI_mul 7 s_14) ?_)))))
  obtain ⟨h34, hm35⟩ := ig hm32
  clear hm32
  refine r_bin z z (bWI_shl ((c27 % 128).toUInt64) (i64 (7 * s_14)) h34) (r_bin z z (bW_or n_13 (shWl ((c27 % 128).toUInt64) (i64 (7 * s_14)))) (r_as z ?_))
  refine nsr ?_
  refine r_mv z (r_bin z z (bY_lt c27 128) ?_)
  refine nsq ?_
  refine c_if (b := decide (c27 < 128)) z (fun h36 => ?_) fun h36 => ?_
  ·have hm37 := ift hm35 h36
   clear hm35
   refine c_exit (x_exit (ks' := _) z ?_)
   obtain rfl := si hm37
   exact x_sub (K4 _ z) ⟨z, z, trivial⟩ (fun _ h => st_pk 1 [0] (by decide) h)
  have hm37 := iff_ hm35 h36
  clear hm35
  refine c_skip (x_blk (x_seq (c_reg ?_)))
  refine r_bin z z (bI_add s_14 1) (r_mv z ?_)
  refine r_nil ?_
  exact x_lp (n_13 ||| (shWl ((c27 % 128).toUInt64) (i64 (7 * s_14))), i64 (s_14 + 1), ra23.2.s) hm37 ⟨z, z, z, z, trivial⟩ (fun _ h => st_pk 1 [0] (by decide) h)
 refine c_if (b := (((s_14 == 9) && decide (1 < c27)) || (decide (0 < s_14) && (c27 == 0)))) z (fun h38 => ?_) fun h38 => ?_
 rotate_left
 ·have hm39 := iff_ hp31 h38
  clear hp31
  refine c_skip ?_
  obtain rfl := si hm39
  exact x_sub (K33 _ z) ⟨z, z, z, z, z, z, trivial⟩ (fun _ h => st_pk 1 [0] (by decide) h)
 have hm39 := ift hp31 h38
 clear hp31
 obtain ⟨r40, hr40, hm41⟩ := ltx hm39
 clear hm39
 rcases r40 with ra42 | ⟨rn43, ro44⟩
 ·have hm45 := sm_l hm41
  clear hm41
  refine c_reg ?_
  refine r_c (s_w (o_callL ca117 z (Cc.ok 6 (Sum.inl ra42) hr40) (fun _ _ _ h => h))) ?_
  refine r_nil ?_
  obtain rfl := si hm45
  exact x_sub (K33 _ z) ⟨z, z, z, z, z, z, trivial⟩ (fun _ h => st_pk 1 [0] (by decide) h)
 have hm45 := sm_r hm41
 clear hm41
 refine c_reg ?_
 obtain rfl := si hm45
 try dsimp only at hm32
 obtain rfl := si hm32
 try dsimp only at hm3
 obtain rfl := si hm3
 exact r_sw (s_w (o_callR ca117 z (Cc.ok 6 (Sum.inr (rn43, ro44)) hr40) (by rintro _ _ _ ⟨rfl, rfl⟩; exact (px_st (fun _ h => st_pk 1 [0] (by decide) h) (px_of (Le.refl _) (.inr ⟨_, z, _, z, z, z⟩)))))) (fun _ _ _ _ h => h.elim)
def As (a0 : Ai) (a1 : Bool) : (Unit) ⊕ (Int × Unit) :=
 if !a1 then lt (Cc 6) fun r2 => sm r2 (fun (ra4 : Unit) => Sum.inl ()) fun ((rn5, ro6) : Int × Unit) => Sum.inr (rn5, ()) else Sum.inl ()
theorem As.ok {G R F} (b0_ : Nat) (a0 : Ai) (a1 : Bool) (r : (Unit) ⊕ (Int × Unit)) (hm : As a0 a1 = r) : CO Tryz.prog 89 [pt b0_ 0, vB a1] G R (Bk b0_ 120 (Ai.c a0) :: F)
  (PK 118 r (fun (a : Unit) u R' L' => u = .tuple #[] ∧ R' = R ∧ L' = Bk b0_ 120 (Ai.c a0) :: F) (fun n (o : Unit) R' L' => R' = R ∧ L' = Bk b0_ 120 (Ai.c a0) :: F)) := by
 unfold As at hm
 refine co_ofN (N := 7) Tryz.func89 z z ?_
 refine csr ?_
 refine r_mv z ?_
 refine r_u (o_not z) ?_
 refine nsq ?_
 refine c_if (b := !a1) z (fun h0 => ?_) fun h0 => ?_
 rotate_left
 ·have hm1 := iff_ hm h0
  clear hm
  refine c_skip ?_
  refine x_end ?_
  subst hm1
  exact x_r0 z (Le.refl _) (.inl ⟨_, z, _, z, z, z, z⟩)
 have hm1 := ift hm h0
 clear hm
 obtain ⟨r2, hr2, hm3⟩ := ltx hm1
 clear hm1
 rcases r2 with ra4 | ⟨rn5, ro6⟩
 ·have hm7 := sm_l hm3
  clear hm3
  refine c_reg ?_
  refine r_c (s_w (o_callL ca117 z (Cc.ok 6 (Sum.inl ra4) hr2) (fun _ _ _ h => h))) ?_
  refine r_nil ?_
  refine x_end ?_
  subst hm7
  exact x_r0 z (Le.refl _) (.inl ⟨_, z, _, z, z, z, z⟩)
 have hm7 := sm_r hm3
 clear hm3
 refine c_reg ?_
 subst hm7
 exact r_sw (s_w (o_callR ca117 z (Cc.ok 6 (Sum.inr (rn5, ro6)) hr2) (by rintro _ _ _ ⟨rfl, rfl⟩; exact (px_st (fun _ h => st_pk 1 [0] (by decide) h) (px_of (Le.refl _) (.inr ⟨_, z, _, z, z, z⟩)))))) (fun _ _ _ _ h => h.elim)
def Cz (a0 : Ai) (a1 : Int) : Option ((Str × Ai) ⊕ (Int × Ai)) :=
 (Ax a0 (toW (if a1 < 0 then 0 else a1))).bind fun r0 => sm r0 (fun (ra2 : UInt64 × Ai) => (AH ra2.2 (i64 (ra2.1.toNat : Int))).bind fun r6 => sm r6 (fun (ra8 : Str × Ai) => some (Sum.inl (ra8.1, ra8.2))) fun ((rn9, ro10) : Int × Ai) => some (Sum.inr (rn9, ro10))) fun ((rn3, ro4) : Int × Ai) => some (Sum.inr (rn3, ro4))
theorem Cz.ok {G R F} (b0_ : Nat) (a0 : Ai) (a1 : Int) (r : (Str × Ai) ⊕ (Int × Ai)) (hm : Cz a0 a1 = some r) : CO Tryz.prog 134 [pt b0_ 0, vI a1] G R (Bk b0_ 120 (Ai.c a0) :: F)
  (PK 118 r (fun (a : Str × Ai) u R' L' => u = vS a.1 ∧ R' = R ∧ L' = Bk b0_ 120 (Ai.c a.2) :: F) (fun n (o : Ai) R' L' => R' = R ∧ L' = Bk b0_ 120 (Ai.c o) :: F)) := by
 unfold Cz at hm
 refine co_ofN (N := 13) Tryz.func134 z z ?_
 refine csr ?_
 refine r_as z ?_
 refine r_nil (x_seq (c_seq ?_))
 obtain ⟨r0, hr0, hm1⟩ := bs hm
 clear hm
 rcases r0 with ra2 | ⟨rn3, ro4⟩
 rotate_left
 ·have hm5 := sm_r hm1
  clear hm1
  refine c_reg ?_
  refine r_mv z (r_mv z (r_mv z ?_))
  refine r_u (o_maxI z z) (r_u (o_cv z (cIW Tryz.underlying3 Tryz.underlying27 (if a1 < 0 then 0 else a1))) ?_)
  obtain rfl := si hm5
  exact r_sw (s_w (o_callR ca86 z (Ax.ok b0_ a0 (toW (if a1 < 0 then 0 else a1)) (Sum.inr (rn3, ro4)) hr0) (by rintro _ _ _ ⟨rfl, rfl⟩; exact (px_st (fun _ h => st_pk 1 [0] (by decide) h) (px_of (Le.refl _) (.inr ⟨_, z, _, z, z, z⟩)))))) (fun _ _ _ _ h => h.elim)
 have hm5 := sm_l hm1
 clear hm1
 obtain ⟨r6, hr6, hm7⟩ := bs hm5
 clear hm5
 rcases r6 with ra8 | ⟨rn9, ro10⟩
 ·have hm11 := sm_l hm7
  clear hm7
  refine c_reg ?_
  refine r_mv z (r_mv z (r_mv z ?_))
  refine r_u (o_maxI z z) (r_u (o_cv z (cIW Tryz.underlying3 Tryz.underlying27 (if a1 < 0 then 0 else a1))) ?_)
  refine r_c (s_w (o_callL ca86 z (Ax.ok b0_ a0 (toW (if a1 < 0 then 0 else a1)) (Sum.inl ra2) hr0) (fun _ _ _ h => h))) ?_
  refine r_u (o_cv z (cWI Tryz.underlying27 Tryz.underlying3 ra2.1)) ?_
  refine r_c (s_w (o_callL ca116 z (AH.ok b0_ ra2.2 (i64 (ra2.1.toNat : Int)) (Sum.inl ra8) hr6) (fun _ _ _ h => h))) ?_
  refine r_as z ?_
  refine r_nil (x_seq (c_ret ?_))
  obtain rfl := si hm11
  exact x_r1 z (rv_t z) (Le.refl _) (.inl ⟨_, z, _, z, z, z, z⟩)
 have hm11 := sm_r hm7
 clear hm7
 refine c_reg ?_
 refine r_mv z (r_mv z (r_mv z ?_))
 refine r_u (o_maxI z z) (r_u (o_cv z (cIW Tryz.underlying3 Tryz.underlying27 (if a1 < 0 then 0 else a1))) ?_)
 refine r_c (s_w (o_callL ca86 z (Ax.ok b0_ a0 (toW (if a1 < 0 then 0 else a1)) (Sum.inl ra2) hr0) (fun _ _ _ h => h))) ?_
 refine r_u (o_cv z (cWI Tryz.underlying27 Tryz.underlying3 ra2.1)) ?_
 obtain rfl := si hm11
 exact r_sw (s_w (o_callR ca116 z (AH.ok b0_ ra2.2 (i64 (ra2.1.toNat : Int)) (Sum.inr (rn9, ro10)) hr6) (by rintro _ _ _ ⟨rfl, rfl⟩; exact (px_st (fun _ h => st_pk 1 [0] (by decide) h) (px_of (Le.refl _) (.inr ⟨_, z, _, z, z, z⟩)))))) (fun _ _ _ _ h => h.elim)
def C8 (q57 : List Str × Str) (s_32 : Int) : Nat → (Option Ae) → Int → Option ((Option Ae) ⊕ ((Option Ae × Str) ⊕ ((Option Ae × Str) ⊕ ((Option Ae × Ai) ⊕ (Int × Ai)))))
 | 0, _, _ => none
 | k75 + 1, out_70, k_71 => if decide (0 ≤ k_71) then (gi q57.1 k_71).bind fun x80 => om out_70 (none) fun x82 => (Bd x82 x80).bind fun r90 => Option.bind (if r90.2 then lt (As (⟨q57.2⟩ : Ai) false) fun r104 => sm r104 (fun (ra106 : Unit) => some (Sum.inl x82)) fun ((rn107, ro108) : Int × Unit) => some (Sum.inr (Sum.inr (Sum.inr (Sum.inr (Sum.inr (rn107, (⟨q57.2⟩ : Ai))))))) else (Aw x82 s_32 x80).bind fun r110 => lt (As (⟨q57.2⟩ : Ai) r110.1) fun r117 => sm r117 (fun (ra119 : Unit) => some (Sum.inl r110.2)) fun ((rn120, ro121) : Int × Unit) => some (Sum.inr (Sum.inr (Sum.inr (Sum.inr (Sum.inr (rn120, (⟨q57.2⟩ : Ai)))))))) fun (p92 : Ae ⊕ ((Option Ae) ⊕ ((Option Ae × Str) ⊕ ((Option Ae × Str) ⊕ ((Option Ae × Ai) ⊕ (Int × Ai)))))) => (match p92 with | Sum.inl q93 => C8 q57 s_32 k75 (some q93) (i64 (k_71 - 1)) | Sum.inr r => some r) else some (Sum.inl out_70)
def C9  : Nat → (List Str) → UInt64 → Str → Option ((List Str × Str) ⊕ ((Option Ae × Str) ⊕ ((Option Ae × Str) ⊕ ((Option Ae × Ai) ⊕ (Int × Ai)))))
 | 0, _, _, _ => none
 | k137 + 1, keys_133, n_134, c_135 => if decide (0 < n_134) then (Cz (⟨c_135⟩ : Ai) 64).bind fun r142 => sm r142 (fun (ra144 : Str × Ai) => (apd 16 keys_133 [ra144.1]).bind fun l150 => C9 k137 l150 (n_134 - 1) ra144.2.s) fun ((rn145, ro146) : Int × Ai) => some (Sum.inr (Sum.inr (Sum.inr (Sum.inr (rn145, ro146))))) else some (Sum.inl (keys_133, c_135))
def Da (ra2 : UInt64 × Ai) (ra8 : UInt64 × Ai) : Nat → (Option Ae) → Int → Str → Option ((Option Ae × Str) ⊕ ((Option Ae × Ai) ⊕ (Int × Ai)))
 | 0, _, _, _ => none
 | k37 + 1, out_31, s_32, c_33 => if decide (s_32 < (i64 (ra2.1.toNat : Int))) then Option.bind ((Ax (⟨c_33⟩ : Ai) (toW (i64 (ra8.1.toNat : Int)))).bind fun r50 => sm r50 (fun (ra52 : UInt64 × Ai) => Option.bind (C9 ((ra52.1).toNat + 1) [] ra52.1 ra52.2.s) fun (p56 : (List Str × Str) ⊕ ((Option Ae × Str) ⊕ ((Option Ae × Str) ⊕ ((Option Ae × Ai) ⊕ (Int × Ai))))) => (match p56 with | Sum.inl q57 => Option.bind (C8 q57 s_32 (((i64 ((q57.1.length : Int) - 1)) + 1).toNat + 1) out_31 (i64 ((q57.1.length : Int) - 1))) fun (p62 : (Option Ae) ⊕ ((Option Ae × Str) ⊕ ((Option Ae × Str) ⊕ ((Option Ae × Ai) ⊕ (Int × Ai))))) => (match p62 with | Sum.inl q63 => some (Sum.inl (q63, q57.2)) | Sum.inr r => some r) | Sum.inr r => some r)) fun ((rn53, ro54) : Int × Ai) => some (Sum.inr (Sum.inr (Sum.inr (rn53, ro54))))) fun (p42 : (Option Ae × Str) ⊕ ((Option Ae × Str) ⊕ ((Option Ae × Ai) ⊕ (Int × Ai)))) => (match p42 with | Sum.inl q43 => Da ra2 ra8 k37 q43.1 (i64 (s_32 + 1)) q43.2 | Sum.inr r => some r) else some (Sum.inl (out_31, c_33))
def Db (a0 : Ai) : Option ((Option Ae × Ai) ⊕ (Int × Ai)) :=
 (Ax a0 8).bind fun r0 => sm r0 (fun (ra2 : UInt64 × Ai) => (Ax ra2.2 4096).bind fun r6 => sm r6 (fun (ra8 : UInt64 × Ai) => (C0 (i64 (ra2.1.toNat : Int)) (i64 (ra8.1.toNat : Int))).bind fun r12 => lt (As ra8.2 (r12.2 == 0)) fun r17 => sm r17 (fun (ra19 : Unit) => Option.bind (Da ra2 ra8 (((i64 (ra2.1.toNat : Int)) - 0).toNat + 1) r12.1 0 ra8.2.s) fun (p23 : (Option Ae × Str) ⊕ ((Option Ae × Ai) ⊕ (Int × Ai))) => (match p23 with | Sum.inl q24 => some (Sum.inl (q24.1, (⟨q24.2⟩ : Ai))) | Sum.inr r => some r)) fun ((rn20, ro21) : Int × Unit) => some (Sum.inr (rn20, ra8.2))) fun ((rn9, ro10) : Int × Ai) => some (Sum.inr (rn9, ro10))) fun ((rn3, ro4) : Int × Ai) => some (Sum.inr (rn3, ro4))
theorem Db.ok {G R F} (b0_ : Nat) (a0 : Ai) (r : (Option Ae × Ai) ⊕ (Int × Ai)) (hm : Db a0 = some r) : CO Tryz.prog 118 [pt b0_ 0] G R (Bk b0_ 120 (Ai.c a0) :: F)
  (PK 118 r (fun (a : Option Ae × Ai) u R' L' => ∃ (p0 : Value × Ae.G), u = p0.1 ∧ R' = R ∧ L' = rO (Ae.op p0.2) p0.1 a.1 :: Bk b0_ 120 (Ai.c a.2) :: F) (fun n (o : Ai) R' L' => R' = R ∧ L' = Bk b0_ 120 (Ai.c o) :: F)) := by
 unfold Db at hm
 refine co_ofN (N := 77) Tryz.func118 z z ?_
 refine csr ?_
 refine r_as z ?_
 refine r_nil (x_seq (c_seq ?_))
 obtain ⟨r0, hr0, hm1⟩ := bs hm
 clear hm
 rcases r0 with ra2 | ⟨rn3, ro4⟩
 rotate_left
 ·have hm5 := sm_r hm1
  clear hm1
  refine c_reg ?_
  refine r_mv z ?_
  obtain rfl := si hm5
  exact r_sw (s_w (o_callR ca86 z (Ax.ok b0_ a0 8 (Sum.inr (rn3, ro4)) hr0) (by rintro _ _ _ ⟨rfl, rfl⟩; exact (px_st (fun _ h => st_pk 1 [0] (by decide) h) (px_of (Le.refl _) (.inr ⟨_, z, _, z, z, z⟩)))))) (fun _ _ _ _ h => h.elim)
 have hm5 := sm_l hm1
 clear hm1
 obtain ⟨r6, hr6, hm7⟩ := bs hm5
 clear hm5
 rcases r6 with ra8 | ⟨rn9, ro10⟩
 rotate_left
 ·have hm11 := sm_r hm7
  clear hm7
  refine c_reg ?_
  refine r_mv z ?_
  refine r_c (s_w (o_callL ca86 z (Ax.ok b0_ a0 8 (Sum.inl ra2) hr0) (fun _ _ _ h => h))) ?_
  refine r_u (o_cv z (cWI Tryz.underlying27 Tryz.underlying3 ra2.1)) (r_mv z ?_)
  obtain rfl := si hm11
  exact r_sw (s_w (o_callR ca86 z (Ax.ok b0_ ra2.2 4096 (Sum.inr (rn9, ro10)) hr6) (by rintro _ _ _ ⟨rfl, rfl⟩; exact (px_st (fun _ h => st_pk 1 [0] (by decide) h) (px_of (Le.refl _) (.inr ⟨_, z, _, z, z, z⟩)))))) (fun _ _ _ _ h => h.elim)
 have hm11 := sm_l hm7
 clear hm7
 refine c_reg ?_
 refine r_mv z ?_
 refine r_c (s_w (o_callL ca86 z (Ax.ok b0_ a0 8 (Sum.inl ra2) hr0) (fun _ _ _ h => h))) ?_
 refine r_u (o_cv z (cWI Tryz.underlying27 Tryz.underlying3 ra2.1)) (r_mv z ?_)
 refine r_c (s_w (o_callL ca86 z (Ax.ok b0_ ra2.2 4096 (Sum.inl ra8) hr6) (fun _ _ _ h => h))) ?_
 refine r_u (o_cv z (cWI Tryz.underlying27 Tryz.underlying3 ra8.1)) (r_as z (r_as z ?_))
 refine nsr ?_
 refine r_mv z (r_mv z ?_)
 obtain ⟨r12, hr12, hm16⟩ := bs hm11
 clear hm11
 refine r_sw (s_w (o_call ca58 z (C0.ok (i64 (ra2.1.toNat : Int)) (i64 (ra8.1.toNat : Int)) r12 hr12))) ?_
 rintro _ R _ _ ⟨⟨pv14, g15⟩, rfl, rfl, rfl⟩
 refine r_mv z ?_
 refine r_ext z z ?_
 refine r_ext z z (r_as z (r_as z ?_))
 refine r_nil (x_seq (c_seq ?_))
 obtain ⟨r17, hr17, hm18⟩ := ltx hm16
 clear hm16
 rcases r17 with ra19 | ⟨rn20, ro21⟩
 rotate_left
 ·have hm22 := sm_r hm18
  clear hm18
  refine c_reg ?_
  refine r_mv z (r_mv z (r_bin z z (bI_eq r12.2 0) ?_))
  refine rl_st (fun _ h => mv1 h) ?_
  obtain rfl := si hm22
  exact r_sw (s_w (o_callR ca89 z (As.ok b0_ ra8.2 (r12.2 == 0) (Sum.inr (rn20, ro21)) hr17) (by rintro _ _ _ ⟨rfl, rfl⟩; exact (px_st (fun _ h => st_pk 2 [0] (by decide) h) (px_of (Le.refl _) (.inr ⟨_, z, _, z, z, z⟩)))))) (fun _ _ _ _ h => h.elim)
 have hm22 := sm_l hm18
 clear hm18
 refine c_reg ?_
 refine r_mv z (r_mv z (r_bin z z (bI_eq r12.2 0) ?_))
 refine rl_st (fun _ h => mv1 h) ?_
 refine r_c (s_w (o_callL ca89 z (As.ok b0_ ra8.2 (r12.2 == 0) (Sum.inl ra19) hr17) (fun _ _ _ h => h))) ?_
 refine nssr ?_
 refine r_mv z (r_mv z ?_)
 refine nsq ?_
 obtain ⟨p23, hp28, hm29⟩ := bs hm22
 refine cd_cut (fun x ks => ∀ (q24 : Option Ae × Str), ∀ (_ : p23 = Sum.inl q24), ∀ (pv25 : Value × Ae.G), EX x .normal ks [(5, pv25.1)] R (Bk b0_ 120 [vS q24.2] :: rO (Ae.op pv25.2) pv25.1 q24.1 :: F)) ?_ fun K30 => ?_
 ·intro q24 hq pv25
  subst hq
  try dsimp only at hm29
  obtain ⟨pv26, g27⟩ := pv25
  refine x_seq (csr ?_)
  refine r_mv z (r_as z ?_)
  refine r_nil (x_seq (c_ret ?_))
  obtain rfl := si hm29
  refine ex_st (fun _ h => st_pk 2 [1, 0] (by decide) h) ?_
  exact x_r1 z (rv_t z) (Le.refl _) (.inl ⟨_, z, _, z, (pv26, g27), z, z, z⟩)
 refine c_blk ?_
 refine cd_loopG (M := fun k37 (s : Option Ae × Int × Str × (Value × Ae.G)) => Da ra2 ra8 k37 s.1 s.2.1 s.2.2.1 = some p23) (Ef := fun (s : Option Ae × Int × Str × (Value × Ae.G)) => [(0, pt b0_ 0), (4, vI (i64 (ra8.1.toNat : Int))), (29, vI (i64 (ra2.1.toNat : Int))), (5, s.2.2.2.1), (30, vI s.2.1)]) (Rf := fun (s : Option Ae × Int × Str × (Value × Ae.G)) => R) (Lf := fun (s : Option Ae × Int × Str × (Value × Ae.G)) => Bk b0_ 120 [vS s.2.2.1] :: rO (Ae.op s.2.2.2.2) s.2.2.2.1 s.1 :: F) (((i64 (ra2.1.toNat : Int)) - 0).toNat + 1) (r12.1, 0, ra8.2.s, (pv14, g15)) hp28 ⟨z, z, z, z, z, trivial⟩ (fun _ h => st_pk 2 [0, 1] (by decide) h) (fun _ h => by cases h) fun k37 s hM39 => ?_
 obtain ⟨out_31, s_32, c_33, pv34⟩ := s
 have hm38 : Da ra2 ra8 (k37 + 1) out_31 s_32 c_33 = some p23 := hM39
 rw [Da] at hm38
 obtain ⟨pv35, g36⟩ := pv34
 refine csr ?_
 refine r_bin z z (bI_lt s_32 (i64 (ra2.1.toNat : Int))) ?_
 refine r_nil (x_seq (c_seq ?_))
 refine c_if (b := decide (s_32 < (i64 (ra2.1.toNat : Int)))) z (fun h40 => ?_) fun h40 => ?_
 rotate_left
 ·have hm41 := iff_ hm38 h40
  clear hm38
  refine c_exit (x_exit (ks' := _) z ?_)
  obtain rfl := si hm41
  exact x_sub (K30 _ z (pv35, g36)) ⟨z, trivial⟩ (fun _ h => st_pk 2 [0, 1] (by decide) h)
 have hm41 := ift hm38 h40
 clear hm38
 refine c_skip (x_seq (c_seq ?_))
 obtain ⟨p42, hp47, hm48⟩ := bs hm41
 refine cd_cut (fun x ks => ∀ (q43 : Option Ae × Str), ∀ (_ : p42 = Sum.inl q43), ∀ (pv44 : Value × Ae.G), EX x .normal ks [(0, pt b0_ 0), (4, vI (i64 (ra8.1.toNat : Int))), (29, vI (i64 (ra2.1.toNat : Int))), (30, vI s_32), (5, pv44.1)] R (Bk b0_ 120 [vS q43.2] :: rO (Ae.op pv44.2) pv44.1 q43.1 :: F)) ?_ fun K49 => ?_
 ·intro q43 hq pv44
  subst hq
  try dsimp only at hm48
  obtain ⟨pv45, g46⟩ := pv44
  refine x_seq (c_reg ?_)
  refine r_bin z z (bI_add s_32 1) (r_mv z ?_)
  refine r_nil ?_
  exact x_lp (q43.1, i64 (s_32 + 1), q43.2, (pv45, g46)) hm48 ⟨z, z, z, z, z, trivial⟩ (fun _ h => st_pk 2 [0, 1] (by decide) h)
 refine c_blk (csr ?_)
 refine r_mv z (r_as z ?_)
 refine nsr ?_
 refine r_as z ?_
 refine r_nil (x_seq (c_seq (c_seq ?_)))
 obtain ⟨r50, hr50, hm51⟩ := bs hp47
 clear hp47
 rcases r50 with ra52 | ⟨rn53, ro54⟩
 rotate_left
 ·have hm55 := sm_r hm51
  clear hm51
  refine c_reg ?_
  refine r_mv z (r_mv z (r_u (o_cv z (cIW Tryz.underlying3 Tryz.underlying27 (i64 (ra8.1.toNat : Int)))) ?_))
  obtain rfl := si hm55
  try dsimp only at hm48
  obtain rfl := si hm48
  try dsimp only at hm29
  obtain rfl := si hm29
  exact r_sw (s_w (o_callR ca86 z (Ax.ok b0_ (⟨c_33⟩ : Ai) (toW (i64 (ra8.1.toNat : Int))) (Sum.inr (rn53, ro54)) hr50) (by rintro _ _ _ ⟨rfl, rfl⟩; exact (px_st (fun _ h => st_pk 2 [0] (by decide) h) (px_of (Le.refl _) (.inr ⟨_, z, _, z, z, z⟩)))))) (fun _ _ _ _ h => h.elim)
 have hm55 := sm_l hm51
 clear hm51
 refine c_reg ?_
 refine r_mv z (r_mv z (r_u (o_cv z (cIW Tryz.underlying3 Tryz.underlying27 (i64 (ra8.1.toNat : Int)))) ?_))
 refine r_c (s_w (o_callL ca86 z (Ax.ok b0_ (⟨c_33⟩ : Ai) (toW (i64 (ra8.1.toNat : Int))) (Sum.inl ra52) hr50) (fun _ _ _ h => h))) ?_
 refine r_as z ?_
 refine nsq ?_
 obtain ⟨p56, hp59, hm60⟩ := bs hm55
 refine cd_cut (fun x ks => ∀ (q57 : List Str × Str), ∀ (_ : p56 = Sum.inl q57), ∀ (g58 : Value), EX x .normal ks [(0, pt b0_ 0), (4, vI (i64 (ra8.1.toNat : Int))), (5, pv35), (7, vI s_32), (29, vI (i64 (ra2.1.toNat : Int))), (30, vI s_32), (8, g58)] R (Bk b0_ 120 [vS q57.2] :: rO (Ae.op g36) pv35 out_31 :: OwS true 9 1 eS g58 q57.1 :: F)) ?_ fun K61 => ?_
 rotate_left
 ·refine c_blk ?_
  refine cd_st (fun _ h => st_nil (ap := true) (T := 9) (sz := 1) (en := eS) h) ?_
  refine cd_loopG (M := fun k137 (s : List Str × UInt64 × Str × Value) => C9 k137 s.1 s.2.1 s.2.2.1 = some p56) (Ef := fun (s : List Str × UInt64 × Str × Value) => [(0, pt b0_ 0), (4, vI (i64 (ra8.1.toNat : Int))), (5, pv35), (7, vI s_32), (29, vI (i64 (ra2.1.toNat : Int))), (30, vI s_32), (8, s.2.2.2), (9, vW s.2.1)]) (Rf := fun (s : List Str × UInt64 × Str × Value) => R) (Lf := fun (s : List Str × UInt64 × Str × Value) => Bk b0_ 120 [vS s.2.2.1] :: rO (Ae.op g36) pv35 out_31 :: OwS true 9 1 eS s.2.2.2 s.1 :: F) ((ra52.1).toNat + 1) ([], ra52.1, ra52.2.s, .slice none 0 0) hp59 ⟨z, z, z, z, z, z, z, z, trivial⟩ (fun _ h => st_pk 3 [1, 2, 0] (by decide) h) (fun _ h => by cases h) fun k137 s hM139 => ?_
  obtain ⟨keys_133, n_134, c_135, g136⟩ := s
  have hm138 : C9 (k137 + 1) keys_133 n_134 c_135 = some p56 := hM139
  rw [C9] at hm138
  refine c_seq (csr ?_)
  refine r_mv z (r_bin z z (bW_gt n_134 0) ?_)
  refine nsq ?_
  refine c_if (b := decide (0 < n_134)) z (fun h140 => ?_) fun h140 => ?_
  rotate_left
  ·have hm141 := iff_ hm138 h140
   clear hm138
   refine c_exit (x_exit (ks' := _) z ?_)
   obtain rfl := si hm141
   exact x_sub (K61 _ z g136) ⟨z, z, z, z, z, z, z, trivial⟩ (fun _ h => st_pk 3 [0, 1, 2] (by decide) h)
  have hm141 := ift hm138 h140
  clear hm138
  refine c_skip (x_seq (c_seq (c_blk ?_)))
  obtain ⟨r142, hr142, hm143⟩ := bs hm141
  clear hm141
  rcases r142 with ra144 | ⟨rn145, ro146⟩
  ·have hm147 := sm_l hm143
   clear hm143
   refine c_reg ?_
   refine r_mv z (r_mv z ?_)
   refine r_c (s_w (o_callL ca134 z (Cz.ok b0_ (⟨c_135⟩ : Ai) 64 (Sum.inl ra144) hr142) (fun _ _ _ h => h))) ?_
   refine r_sw (s_w (o_bsl (en := eS) (sz := 1) (e := 9) (cs := [vS ra144.1]) (r := [ra144.1]) z (fun _ => by kernel_rfl) z (by decide) z (fun _ => z))) ?_
   rintro v148 R _ _ ⟨rfl, rfl⟩
   obtain ⟨l150, hl150, hm151⟩ := bs hm147
   clear hm147
   refine rl_st (fun _ h => mv3 h) ?_
   refine r_sw (s_w (o_ap (sz := 1) (bytes := 16) 0 Tryz.underlying57 z z z z z (by decide) (by decide) (fun _ _ _ h => by simp at h; subst h; rfl) (fun _ => z) z z z z (Nat.succ_pos _) hl150)) ?_
   rintro v149 R _ _ ⟨rfl, rfl⟩
   refine r_as z ?_
   refine r_nil (x_blk (x_seq (c_reg ?_)))
   refine r_mv z (r_bin z z (bW_sub n_134 1) (r_as z ?_))
   refine r_nil ?_
   exact x_lp (l150, n_134 - 1, ra144.2.s, v149) hm151 ⟨z, z, z, z, z, z, z, z, trivial⟩ (fun _ h => st_pk 4 [2, 3, 0] (by decide) h)
  have hm147 := sm_r hm143
  clear hm143
  refine c_reg ?_
  refine r_mv z (r_mv z ?_)
  obtain rfl := si hm147
  try dsimp only at hm60
  obtain rfl := si hm60
  try dsimp only at hm48
  obtain rfl := si hm48
  try dsimp only at hm29
  obtain rfl := si hm29
  exact r_sw (s_w (o_callR ca134 z (Cz.ok b0_ (⟨c_135⟩ : Ai) 64 (Sum.inr (rn145, ro146)) hr142) (by rintro _ _ _ ⟨rfl, rfl⟩; exact (px_st (fun _ h => st_pk 3 [0] (by decide) h) (px_of (Le.refl _) (.inr ⟨_, z, _, z, z, z⟩)))))) (fun _ _ _ _ h => h.elim)
 intro q57 hq g58
 subst hq
 try dsimp only at hm60
 refine x_seq (csr ?_)
 refine r_mv z (r_u (o_lenO 2 Tryz.underlying57 z z) (r_bin z z (bI_sub (q57.1.length : Int) 1) (r_as z ?_)))
 refine nsq ?_
 obtain ⟨p62, hp67, hm68⟩ := bs hm60
 refine cd_cut (fun x ks => ∀ (q63 : Option Ae), ∀ (_ : p62 = Sum.inl q63), ∀ (pv64 : Value × Ae.G), EX x .normal ks [(0, pt b0_ 0), (4, vI (i64 (ra8.1.toNat : Int))), (29, vI (i64 (ra2.1.toNat : Int))), (30, vI s_32), (5, pv64.1)] R (Bk b0_ 120 [vS q57.2] :: OwS true 9 1 eS g58 q57.1 :: rO (Ae.op pv64.2) pv64.1 q63 :: F)) ?_ fun K69 => ?_
 ·intro q63 hq pv64
  subst hq
  try dsimp only at hm68
  obtain ⟨pv65, g66⟩ := pv64
  refine x_blk ?_
  obtain rfl := si hm68
  exact x_sub (K49 _ z (pv65, g66)) ⟨z, z, z, z, z, trivial⟩ (fun _ h => st_pk 3 [0, 2] (by decide) h)
 refine c_blk ?_
 refine cd_loopG (M := fun k75 (s : Option Ae × Int × (Value × Ae.G)) => C8 q57 s_32 k75 s.1 s.2.1 = some p62) (Ef := fun (s : Option Ae × Int × (Value × Ae.G)) => [(0, pt b0_ 0), (4, vI (i64 (ra8.1.toNat : Int))), (7, vI s_32), (8, g58), (29, vI (i64 (ra2.1.toNat : Int))), (30, vI s_32), (5, s.2.2.1), (10, vI s.2.1)]) (Rf := fun (s : Option Ae × Int × (Value × Ae.G)) => R) (Lf := fun (s : Option Ae × Int × (Value × Ae.G)) => Bk b0_ 120 [vS q57.2] :: OwS true 9 1 eS g58 q57.1 :: rO (Ae.op s.2.2.2) s.2.2.1 s.1 :: F) (((i64 ((q57.1.length : Int) - 1)) + 1).toNat + 1) (out_31, i64 ((q57.1.length : Int) - 1), (pv35, g36)) hp67 ⟨z, z, z, z, z, z, z, z, trivial⟩ (fun _ h => st_pk 3 [0, 2, 1] (by decide) h) (fun _ h => by cases h) fun k75 s hM77 => ?_
 obtain ⟨out_70, k_71, pv72⟩ := s
 have hm76 : C8 q57 s_32 (k75 + 1) out_70 k_71 = some p62 := hM77
 rw [C8] at hm76
 obtain ⟨pv73, g74⟩ := pv72
 refine c_seq (csr ?_)
 refine r_mv z (r_bin z z (bI_ge k_71 0) ?_)
 refine nsq ?_
 refine c_if (b := decide (0 ≤ k_71)) z (fun h78 => ?_) fun h78 => ?_
 rotate_left
 ·have hm79 := iff_ hm76 h78
  clear hm76
  refine c_exit (x_exit (ks' := _) z ?_)
  obtain rfl := si hm79
  exact x_sub (K69 _ z (pv73, g74)) ⟨z, z, z, z, z, trivial⟩ (fun _ h => st_pk 3 [0, 1, 2] (by decide) h)
 have hm79 := ift hm76 h78
 clear hm76
 refine c_skip (x_seq (c_seq (c_blk (c_seq ?_))))
 obtain ⟨x80, hx80, hm81⟩ := bs hm79
 clear hm79
 refine cd_st (fun _ h => mv2 h) ?_
 refine cd_opt (fun ho84 => ?_) (fun x82 b83 ho84 => ?_)
 ·rintro rfl
  have hm85 := om_n hm81 ho84
  clear hm81
  cases hm85
 rintro rfl
 have hm85 := om_s hm81 ho84
 clear hm81
 refine cd_st (fun _ h => st_star_o h) ?_
 refine c_reg ?_
 refine r_mv z (r_mv z (r_mv z ?_))
 refine r_u (o_ixO 6 Tryz.underlying57 (fun _ => by kernel_rfl) z z z hx80) (r_u (o_ldO0 6 sc9 z z hx80 z z) ?_)
 obtain ⟨r90, hr90, hm91⟩ := bs hm85
 clear hm85
 refine r_c (s_w (o_call ca76 z (Bd.ok b83 x82 g74 x80 r90 hr90))) ?_
 refine r_mv z ?_
 refine r_ext z z ?_
 refine r_ext z z (r_as z (r_as z ?_))
 refine nsq ?_
 obtain ⟨p92, hp99, hm100⟩ := bs hm91
 refine cd_cut (fun x ks => ∀ (q93 : Ae), ∀ (_ : p92 = Sum.inl q93), ∀ (g94 : Ae.G), EX x .normal ks [(0, pt b0_ 0), (4, vI (i64 (ra8.1.toNat : Int))), (5, pt b83 0), (7, vI s_32), (8, g58), (10, vI k_71), (29, vI (i64 (ra2.1.toNat : Int))), (30, vI s_32)] R (Bk b0_ 120 [vS q57.2] :: Bk b83 138 (Ae.k q93 g94) :: OwS true 9 1 eS g58 q57.1 :: OwS true 140 4 Ap.c g94.slots q93.slots :: OwS true 3 1 eI g94.free q93.free :: OwM vS vI g94.at_ q93.at_ :: OwS true 3 1 eI g94.many q93.many :: F)) ?_ fun K101 => ?_
 ·intro q93 hq g94
  subst hq
  try dsimp only at hm100
  refine x_blk (x_seq (c_reg ?_))
  refine r_mv z (r_bin z z (bI_sub k_71 1) (r_as z ?_))
  refine r_nil ?_
  refine ex_st (fun _ h => mv5 (mv6 (mv6 (mv6 (mv6 h))))) ?_
  refine ex_st (fun _ h => st_some (f := Ae.op g94) (a := q93) (st_star_f (A := Ae.fl b83 q93 g94) h)) ?_
  exact x_lp ((some q93), i64 (k_71 - 1), (pt b83 0, g94)) hm100 ⟨z, z, z, z, z, z, z, z, trivial⟩ (fun _ h => st_pk 3 [1, 2, 0] (by decide) h)
 refine cd_by r90.2 (fun h102 => ?_) fun h102 => ?_
 ·have hm103 := ift hp99 h102
  clear hp99
  obtain ⟨r104, hr104, hm105⟩ := ltx hm103
  clear hm103
  rcases r104 with ra106 | ⟨rn107, ro108⟩
  ·have hm109 := sm_l hm105
   clear hm105
   refine c_reg ?_
   refine r_mv z (r_mv z ?_)
   refine r_u (o_not z) (r_mv z ?_)
   refine r_s (s_n z z (nbf h102)) ?_
   refine r_s (s_n z z (nbf h102)) ?_
   refine r_s (s_n z z (nbf h102)) ?_
   refine r_s (s_n z z (nbf h102)) ?_
   refine r_s (s_n z z (nbf h102)) ?_
   refine r_s (s_n z z (nbf h102)) ?_
   refine r_s (s_n z z (nbf h102)) ?_
   refine r_u (o_pf z (nbf h102) z) ?_
   refine rl_st (fun _ h => mv5 h) ?_
   refine r_c (s_w (o_callL ca89 z (As.ok b0_ (⟨q57.2⟩ : Ai) false (Sum.inl ra106) hr104) (fun _ _ _ h => h))) ?_
   refine r_nil ?_
   obtain rfl := si hm109
   exact x_sub (K101 _ z g74) ⟨z, z, z, z, z, z, z, z, trivial⟩ (fun _ h => st_pk 7 [0, 1, 6, 2, 3, 4, 5] (by decide) h)
  have hm109 := sm_r hm105
  clear hm105
  refine c_reg ?_
  refine r_mv z (r_mv z ?_)
  refine r_u (o_not z) (r_mv z ?_)
  refine r_s (s_n z z (nbf h102)) ?_
  refine r_s (s_n z z (nbf h102)) ?_
  refine r_s (s_n z z (nbf h102)) ?_
  refine r_s (s_n z z (nbf h102)) ?_
  refine r_s (s_n z z (nbf h102)) ?_
  refine r_s (s_n z z (nbf h102)) ?_
  refine r_s (s_n z z (nbf h102)) ?_
  refine r_u (o_pf z (nbf h102) z) ?_
  refine rl_st (fun _ h => mv5 h) ?_
  obtain rfl := si hm109
  try dsimp only at hm100
  obtain rfl := si hm100
  try dsimp only at hm68
  obtain rfl := si hm68
  try dsimp only at hm48
  obtain rfl := si hm48
  try dsimp only at hm29
  obtain rfl := si hm29
  exact r_sw (s_w (o_callR ca89 z (As.ok b0_ (⟨q57.2⟩ : Ai) false (Sum.inr (rn107, ro108)) hr104) (by rintro _ _ _ ⟨rfl, rfl⟩; exact (px_st (fun _ h => st_pk 7 [0] (by decide) h) (px_of (Le.refl _) (.inr ⟨_, z, _, z, z, z⟩)))))) (fun _ _ _ _ h => h.elim)
 have hm103 := iff_ hp99 h102
 clear hp99
 obtain ⟨r110, hr110, hm116⟩ := bs hm103
 clear hm103
 obtain ⟨r117, hr117, hm118⟩ := ltx hm116
 clear hm116
 rcases r117 with ra119 | ⟨rn120, ro121⟩
 ·have hm122 := sm_l hm118
  clear hm118
  refine c_reg ?_
  refine r_mv z (r_mv z ?_)
  refine r_u (o_not z) (r_mv z ?_)
  refine r_s (s_y z z (nbt h102) (o_mv z)) ?_
  refine r_s (s_y z z (nbt h102) (o_mv z)) ?_
  refine r_s (s_y z z (nbt h102) (o_mv z)) ?_
  refine r_s (s_y z z (nbt h102) (o_mv z)) ?_
  refine r_s (s_y z z (nbt h102) (o_ixO 6 Tryz.underlying57 (fun _ => by kernel_rfl) z z z hx80)) ?_
  refine r_s (s_y z z (nbt h102) (o_ldO0 6 sc9 z z hx80 z z)) ?_
  refine r_sw (s_yw z z (nbt h102) (o_call ca90 z (Aw.ok b83 x82 g74 s_32 x80 r110 hr110))) ?_
  rintro _ R _ _ ⟨g123, rfl, rfl, rfl⟩
  refine r_u (o_pt z (nbt h102) z) ?_
  refine rl_st (fun _ h => mv5 h) ?_
  refine r_c (s_w (o_callL ca89 z (As.ok b0_ (⟨q57.2⟩ : Ai) r110.1 (Sum.inl ra119) hr117) (fun _ _ _ h => h))) ?_
  refine r_nil ?_
  obtain rfl := si hm122
  exact x_sub (K101 _ z g123) ⟨z, z, z, z, z, z, z, z, trivial⟩ (fun _ h => st_pk 7 [0, 1, 6, 2, 3, 4, 5] (by decide) h)
 have hm122 := sm_r hm118
 clear hm118
 refine c_reg ?_
 refine r_mv z (r_mv z ?_)
 refine r_u (o_not z) (r_mv z ?_)
 refine r_s (s_y z z (nbt h102) (o_mv z)) ?_
 refine r_s (s_y z z (nbt h102) (o_mv z)) ?_
 refine r_s (s_y z z (nbt h102) (o_mv z)) ?_
 refine r_s (s_y z z (nbt h102) (o_mv z)) ?_
 refine r_s (s_y z z (nbt h102) (o_ixO 6 Tryz.underlying57 (fun _ => by kernel_rfl) z z z hx80)) ?_
 refine r_s (s_y z z (nbt h102) (o_ldO0 6 sc9 z z hx80 z z)) ?_
 refine r_sw (s_yw z z (nbt h102) (o_call ca90 z (Aw.ok b83 x82 g74 s_32 x80 r110 hr110))) ?_
 rintro _ R _ _ ⟨g128, rfl, rfl, rfl⟩
 refine r_u (o_pt z (nbt h102) z) ?_
 refine rl_st (fun _ h => mv5 h) ?_
 obtain rfl := si hm122
 try dsimp only at hm100
 obtain rfl := si hm100
 try dsimp only at hm68
 obtain rfl := si hm68
 try dsimp only at hm48
 obtain rfl := si hm48
 try dsimp only at hm29
 obtain rfl := si hm29
 exact r_sw (s_w (o_callR ca89 z (As.ok b0_ (⟨q57.2⟩ : Ai) r110.1 (Sum.inr (rn120, ro121)) hr117) (by rintro _ _ _ ⟨rfl, rfl⟩; exact (px_st (fun _ h => st_pk 7 [0] (by decide) h) (px_of (Le.refl _) (.inr ⟨_, z, _, z, z, z⟩)))))) (fun _ _ _ _ h => h.elim)
def Am (a0 : Ae) : Int :=
 (a0.free.length : Int)
theorem Am.ok {G R F} (b0_ : Nat) (a0 : Ae) (g0_ : Ae.G) (r : Int) (hm : Am a0 = r) : CO Tryz.prog 119 [pt b0_ 0] G R (Bk b0_ 138 (Ae.k a0 g0_) :: OwS true 140 4 Ap.c g0_.slots a0.slots :: OwS true 3 1 eI g0_.free a0.free :: OwM vS vI g0_.at_ a0.at_ :: OwS true 3 1 eI g0_.many a0.many :: F)
  (Ret fun u R' L' => u = vI r ∧ R' = R ∧ L' = Bk b0_ 138 (Ae.k a0 g0_) :: OwS true 140 4 Ap.c g0_.slots a0.slots :: OwS true 3 1 eI g0_.free a0.free :: OwM vS vI g0_.at_ a0.at_ :: OwS true 3 1 eI g0_.many a0.many :: F) := by
 unfold Am at hm
 refine co_ofN (N := 10) Tryz.func119 z z ?_
 refine csr ?_
 refine r_as z ?_
 refine nssr ?_
 refine r_mv z (r_bin z z (bP_eqp Tryz.underlying82) ?_)
 refine nsq ?_
 refine c_ff z ?_
 refine c_skip (x_seq (csr ?_))
 refine r_mv z (r_nc z (r_fa fa138_2 z (r_ld 0 sc135 z z z (r_u (o_lenO 2 Tryz.underlying135 z z) (r_as z ?_)))))
 refine r_nil (x_seq (c_ret ?_))
 subst hm
 exact x_r1 z (rv_t z) (Le.refl _) ⟨_, z, z, z, z⟩
def Ao (a0 : Ae) : Int :=
 a0.lists
theorem Ao.ok {G R F} (b0_ : Nat) (a0 : Ae) (g0_ : Ae.G) (r : Int) (hm : Ao a0 = r) : CO Tryz.prog 120 [pt b0_ 0] G R (Bk b0_ 138 (Ae.k a0 g0_) :: OwS true 140 4 Ap.c g0_.slots a0.slots :: OwS true 3 1 eI g0_.free a0.free :: OwM vS vI g0_.at_ a0.at_ :: OwS true 3 1 eI g0_.many a0.many :: F)
  (Ret fun u R' L' => u = vI r ∧ R' = R ∧ L' = Bk b0_ 138 (Ae.k a0 g0_) :: OwS true 140 4 Ap.c g0_.slots a0.slots :: OwS true 3 1 eI g0_.free a0.free :: OwM vS vI g0_.at_ a0.at_ :: OwS true 3 1 eI g0_.many a0.many :: F) := by
 unfold Ao at hm
 refine co_ofN (N := 9) Tryz.func120 z z ?_
 refine csr ?_
 refine r_as z ?_
 refine nssr ?_
 refine r_mv z (r_bin z z (bP_eqp Tryz.underlying82) ?_)
 refine nsq ?_
 refine c_ff z ?_
 refine c_skip (x_seq (csr ?_))
 refine r_mv z (r_nc z (r_fa fa138_0 z (r_ld 0 sc3 z z z (r_as z ?_))))
 refine r_nil (x_seq (c_ret ?_))
 subst hm
 exact x_r1 z (rv_t z) (Le.refl _) ⟨_, z, z, z, z⟩
end Go.Proofs.YthngfieikhillaaGreat
