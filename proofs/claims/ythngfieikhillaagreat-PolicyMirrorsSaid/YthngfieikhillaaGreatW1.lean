import Derived.Test.YthngfieikhillaaGreatW0
import Derived.Test.YthngfieikhillaaGreatFacts
import Derived.Test.YthngfieikhillaaGreatHwY
set_option linter.unusedVariables false
set_option linter.unusedSectionVars false
set_option linter.unusedSimpArgs false
set_option maxRecDepth 100000
set_option maxHeartbeats 8000000
namespace Go.Proofs.YthngfieikhillaaGreat
open Go Go.Proofs.YthngfieikhillaaGreat.Hw
def Be (a0 : Aj) (a1 : Str) (r16 : UInt8) : Nat → Int → (List (List UInt8)) → Option (List (List UInt8))
 | 0, _, _ => none
 | k24 + 1, s_22, c_23 => if decide (s_22 < 4) then (Ba (⟨a0.wide, a0.seed, c_23, a0.door, a0.added⟩ : Aj) a1 s_22).bind fun r29 => (gi c_23 s_22).bind fun y31 => (gi y31 r29).bind fun x34 => Option.bind (if ((x34 == r16) && decide (r16 < 15)) then some (ls c_23 s_22 (ls y31 r29 (x34 + 1))) else some c_23) fun p36 => Be a0 a1 r16 k24 (i64 (s_22 + 1)) p36 else some c_23
def Bw (a0 : Aj) (a1 : Str) : Option Aj :=
 (Ba a0 a1 4).bind fun r2 => (gi a0.door r2).bind fun x4 => Option.bind (if !x4 then some (ls a0.door r2 true, a0.rows) else (Br a0 a1).bind fun r16 => Option.bind (Be a0 a1 r16 5 0 a0.rows) fun p18 => some (a0.door, p18)) fun p6 => if decide ((i64 (10 * a0.wide)) ≤ (i64 (a0.added + 1))) then (Ct (⟨a0.wide, a0.seed, p6.2, p6.1, i64 (a0.added + 1)⟩ : Aj)).bind fun r12 => some r12 else some (⟨a0.wide, a0.seed, p6.2, p6.1, i64 (a0.added + 1)⟩ : Aj)
theorem Bw.ok {G R F} (b0_ : Nat) (a0 : Aj) (g0_ : Aj.G) (a1 : Str) (r : Aj) (hm : Bw a0 a1 = some r) : CO Tryz.prog 91 [pt b0_ 0, vS a1] G R (Bk b0_ 143 (Aj.k a0 g0_) :: OwL (OwS false 5 1 eY) [g0_.rows.1, g0_.rows.2.1, g0_.rows.2.2.1, g0_.rows.2.2.2] a0.rows :: OwS true 4 1 eB g0_.door a0.door :: F)
  (Ret fun u R' L' => u = .tuple #[] ∧ R' = R ∧ L' = Bk b0_ 143 (Aj.k r g0_) :: OwL (OwS false 5 1 eY) [g0_.rows.1, g0_.rows.2.1, g0_.rows.2.2.1, g0_.rows.2.2.2] r.rows :: OwS true 4 1 eB g0_.door r.door :: F) := by
 unfold Bw at hm
 refine co_ofN (N := 83) Tryz.func91 z z ?_
 refine c_seq (csr ?_)
 refine r_mv z (r_bin z z (bP_eqp Tryz.underlying87) ?_)
 refine nsq ?_
 refine c_ff z ?_
 refine c_skip (x_seq (c_seq (csr ?_)))
 refine r_mv z (r_mv z ?_)
 obtain ⟨r2, hr2, hm3⟩ := bs hm
 clear hm
 refine r_c (s_w (o_call ca125 z (Ba.ok b0_ a0 g0_ a1 4 r2 hr2))) ?_
 refine r_as z ?_
 refine nsr ?_
 refine r_mv z (r_nc z (r_fa fa143_3 z (r_ld 0 sc34 z z z (r_mv z ?_))))
 obtain ⟨x4, hx4, hm5⟩ := bs hm3
 clear hm3
 refine r_u (o_ixO 2 Tryz.underlying34 (fun _ => by kernel_rfl) z z z hx4) (r_u (o_ldO0 2 sc4 z z hx4 z z) ?_)
 refine r_u (o_not z) ?_
 refine nsq ?_
 obtain ⟨p6, hp7, hm8⟩ := bs hm5
 refine cd_join (E' := [(0, pt b0_ 0)]) (L' := Bk b0_ 143 (Aj.k a0 g0_) :: OwS true 4 1 eB g0_.door p6.1 :: OwL (OwS false 5 1 eY) [g0_.rows.1, g0_.rows.2.1, g0_.rows.2.2.1, g0_.rows.2.2.2] p6.2 :: F) ?_ fun K9 => ?_
 ·refine x_seq (csr ?_)
  refine r_mv z (r_nc z (r_fa fa143_4 z (r_ld 0 sc3 z z z (r_bin z z (bI_add a0.added 1) (r_nc z (r_fa fa143_4 z ?_))))))
  refine r_u0 (o_st sc3 z z z z z z) ?_
  refine r_nil (x_seq (c_seq ?_))
  refine c_any mixed (effs := []) (V := []) ?_
  refine stage_ext [(0, pt b0_ 0), (1, pt b0_ 0), (2, pt b0_ 7), (3, vI (i64 (a0.added + 1))), (4, pt b0_ 0), (5, pt b0_ 0), (6, pt b0_ 0), (7, vI a0.wide), (8, vI (i64 (10 * a0.wide))), (9, vB (decide ((i64 (10 * a0.wide)) ≤ (i64 (a0.added + 1)))))] z ?_
  refine stage z z z z [0, 1, 3, 7, 0, 16, 48, 112, 240, 511] [0, 1, 2, 3, 4, 5, 6, 7, 8, 9] [] z z z (q_mv z z z (q_u z z (o_nc z) (q_fa z z fa143_4 z (q_ld z z 0 sc3 z z z (q_mv z z z (q_u z z (o_nc z) (q_fa z z fa143_0 z (q_ld z z 0 sc3 z z z (q_u z z (o_bin z z (bI_mul 10 a0.wide)) (q_u z z (o_bin z z (bI_ge (i64 (a0.added + 1)) (i64 (10 * a0.wide)))) qn)))))))))) en ?_
  intro _
  refine ex_sub (E' := [(0, pt b0_ 0), (80, vB (decide ((i64 (10 * a0.wide)) ≤ (i64 (a0.added + 1)))))]) ⟨z, z, trivial⟩ ?_
  refine x_seq ?_
  refine c_if (b := decide ((i64 (10 * a0.wide)) ≤ (i64 (a0.added + 1)))) z (fun h10 => ?_) fun h10 => ?_
  ·have hm11 := ift hm8 h10
   clear hm8
   refine c_reg ?_
   refine r_mv z ?_
   obtain ⟨r12, hr12, hm13⟩ := bs hm11
   clear hm11
   refine rl_st (fun _ h => mv2 (mv2 (mv1 h))) ?_
   refine r_c (s_w (o_call ca127 z (Ct.ok b0_ (⟨a0.wide, a0.seed, p6.2, p6.1, i64 (a0.added + 1)⟩ : Aj) g0_ r12 hr12))) ?_
   refine r_nil ?_
   refine x_end ?_
   obtain rfl := si hm13
   exact x_r0 z (Le.refl _) ⟨_, z, z, z, z⟩
  have hm11 := iff_ hm8 h10
  clear hm8
  refine c_skip ?_
  refine x_end ?_
  obtain rfl := si hm11
  refine ex_st (fun _ h => st_pk 3 [0, 2, 1] (by decide) h) ?_
  exact x_r0 z (Le.refl _) ⟨_, z, z, z, z⟩
 refine c_if (b := !x4) z (fun h14 => ?_) fun h14 => ?_
 ·have hm15 := ift hp7 h14
  clear hp7
  refine c_reg ?_
  refine r_mv z (r_nc z (r_fa fa143_3 z (r_ld 0 sc34 z z z (r_mv z ?_))))
  refine r_u (o_ixO 2 Tryz.underlying34 (fun _ => by kernel_rfl) z z z hx4) ?_
  refine rl_st (fun _ h => mv2 h) ?_
  refine r_u0 (o_stO0 (c' := true) sc4 z z z hx4 z z z) ?_
  refine r_nil ?_
  obtain rfl := si hm15
  exact x_sub K9 ⟨z, trivial⟩ (fun _ h => st_pk 3 [1, 0, 2] (by decide) h)
 have hm15 := iff_ hp7 h14
 clear hp7
 refine csr ?_
 refine r_mv z (r_mv z ?_)
 obtain ⟨r16, hr16, hm17⟩ := bs hm15
 clear hm15
 refine r_c (s_w (o_call ca126 z (Br.ok b0_ a0 g0_ a1 r16 hr16))) ?_
 refine r_as z ?_
 refine nsr ?_
 refine r_mv z ?_
 refine nsq ?_
 obtain ⟨p18, hp19, hm20⟩ := bs hm17
 refine cd_join (E' := [(0, pt b0_ 0)]) (L' := Bk b0_ 143 (Aj.k a0 g0_) :: OwL (OwS false 5 1 eY) [g0_.rows.1, g0_.rows.2.1, g0_.rows.2.2.1, g0_.rows.2.2.2] p18 :: OwS true 4 1 eB g0_.door a0.door :: F) ?_ fun K21 => ?_
 ·obtain rfl := si hm20
  exact x_sub K9 ⟨z, trivial⟩ (fun _ h => st_pk 3 [0, 2, 1] (by decide) h)
 refine c_blk ?_
 refine cd_loop (M := fun k24 (s : Int × List (List UInt8)) => Be a0 a1 r16 k24 s.1 s.2 = some p18) (Ef := fun (s : Int × List (List UInt8)) => [(0, pt b0_ 0), (1, vS a1), (5, vY r16), (30, vI s.1)]) (Lf := fun (s : Int × List (List UInt8)) => Bk b0_ 143 (Aj.k a0 g0_) :: OwL (OwS false 5 1 eY) [g0_.rows.1, g0_.rows.2.1, g0_.rows.2.2.1, g0_.rows.2.2.2] s.2 :: OwS true 4 1 eB g0_.door a0.door :: F) 5 (0, a0.rows) hp19 ⟨z, z, z, z, trivial⟩ (fun _ h => h) (fun _ h => by cases h) fun k24 s hM26 => ?_
 obtain ⟨s_22, c_23⟩ := s
 have hm25 : Be a0 a1 r16 (k24 + 1) s_22 c_23 = some p18 := hM26
 rw [Be] at hm25
 refine csr ?_
 refine r_bin z z (bI_lt s_22 4) ?_
 refine r_nil (x_seq (c_seq ?_))
 refine c_if (b := decide (s_22 < 4)) z (fun h27 => ?_) fun h27 => ?_
 rotate_left
 ·have hm28 := iff_ hm25 h27
  clear hm25
  refine c_exit (x_exit (ks' := _) z ?_)
  obtain rfl := si hm28
  exact x_sub K21 ⟨z, trivial⟩ (fun _ h => st_pk 3 [0, 1, 2] (by decide) h)
 have hm28 := ift hm25 h27
 clear hm25
 refine c_skip (x_seq (c_seq (c_blk (csr ?_))))
 refine r_mv z (r_as z ?_)
 refine nsr ?_
 refine r_mv z (r_mv z (r_mv z ?_))
 obtain ⟨r29, hr29, hm30⟩ := bs hm28
 clear hm28
 refine r_c (s_w (o_call ca125 z (Ba.ok b0_ (⟨a0.wide, a0.seed, c_23, a0.door, a0.added⟩ : Aj) g0_ a1 s_22 r29 hr29))) ?_
 refine r_as z ?_
 refine nsr ?_
 refine r_mv z (r_mv z (r_nc z (r_fa fa143_2 z ?_)))
 obtain ⟨y31, hy31, hm33⟩ := bs hm30
 clear hm30
 refine rl_ex (fun w h => st_peek 1 hy31 z w h) fun u32 hu32 => ?_
 refine r_u (o_ixA (sz := 1) Tryz.underlying141 (fun _ => by kernel_rfl) z z (gi_some hu32).1) ?_
 refine r_u (o_ldA (o := 2) (n := 4) 0 sc111 z z hu32) (r_mv z ?_)
 obtain ⟨x34, hx34, hm35⟩ := bs hm33
 clear hm33
 refine r_u (o_ixK (kn_in 1 z hu32 hy31) Tryz.underlying111 (fun _ => by kernel_rfl) z z hx34) ?_
 refine r_u (o_ldK (kn_in 1 z hu32 hy31) 0 sc5 z hx34 z z) (r_mv z (r_bin z z (bY_eq x34 r16) (r_mv z ?_)))
 refine r_s (s_gt z z fun g => o_mv z) ?_
 refine r_s (s_gt z z fun g => o_bin (evg z g) z (bY_lt r16 15)) ?_
 refine r_u (o_and z z) ?_
 refine nsq ?_
 obtain ⟨p36, hp37, hm38⟩ := bs hm35
 refine cd_join (E' := [(0, pt b0_ 0), (1, vS a1), (5, vY r16), (30, vI s_22)]) (L' := Bk b0_ 143 (Aj.k a0 g0_) :: OwL (OwS false 5 1 eY) [g0_.rows.1, g0_.rows.2.1, g0_.rows.2.2.1, g0_.rows.2.2.2] p36 :: OwS true 4 1 eB g0_.door a0.door :: F) ?_ fun K39 => ?_
 ·refine x_blk (x_seq (c_reg ?_))
  refine r_bin z z (bI_add s_22 1) (r_mv z ?_)
  refine r_nil ?_
  exact x_lp (i64 (s_22 + 1), p36) hm38 ⟨z, z, z, z, trivial⟩ (fun _ h => st_pk 3 [0, 1, 2] (by decide) h)
 refine c_if (b := ((x34 == r16) && decide (r16 < 15))) z (fun h40 => ?_) fun h40 => ?_
 ·have hm41 := ift hp37 h40
  clear hp37
  refine c_reg ?_
  refine r_mv z (r_mv z (r_nc z (r_fa fa143_2 z ?_)))
  refine r_u (o_ixA (sz := 1) Tryz.underlying141 (fun _ => by kernel_rfl) z z (gi_some hu32).1) ?_
  refine r_u (o_ldA (o := 2) (n := 4) 0 sc111 z z hu32) (r_mv z ?_)
  refine r_u (o_ixK (kn_in 1 z hu32 hy31) Tryz.underlying111 (fun _ => by kernel_rfl) z z hx34) ?_
  refine r_u (o_ldK (kn_in 1 z hu32 hy31) 0 sc5 z hx34 z z) (r_bin z z (bY_add x34 1) ?_)
  refine r_u (o_ixK (kn_in 1 z hu32 hy31) Tryz.underlying111 (fun _ => by kernel_rfl) z z hx34) ?_
  refine rl_st (fun _ h => mv1 h) ?_
  refine r_u0 (o_stL (c' := x34 + 1) 0 hu32 hy31 sc5 z z z hx34 z z z) ?_
  refine r_nil ?_
  obtain rfl := si hm41
  exact x_sub K39 ⟨z, z, z, z, trivial⟩ (fun _ h => st_pk 3 [1, 0, 2] (by decide) h)
 have hm41 := iff_ hp37 h40
 clear hp37
 refine c_skip ?_
 obtain rfl := si hm41
 exact x_sub K39 ⟨z, z, z, z, trivial⟩ (fun _ h => st_pk 3 [0, 1, 2] (by decide) h)
def AB (a0 : Int) : C7 :=
 (⟨(if 1 < (i64 (a0.tdiv 8)) then i64 (a0.tdiv 8) else 1), i64 ((i64 ((i64 (a0 - (if 1 < (i64 (a0.tdiv 8)) then i64 (a0.tdiv 8) else 1))) * 4)).tdiv 5)⟩ : C7)
theorem AB.ok {G R F} (a0 : Int) (r : C7) (hm : AB a0 = r) : CO Tryz.prog 92 [vI a0] G R (F)
  (Ret fun u R' L' => u = .agg (C7.c r).toArray ∧ R' = R ∧ L' = F) := by
 unfold AB at hm
 refine co_ofN (N := 14) Tryz.func92 z z ?_
 refine csr ?_
 refine r_new (o_al ze127) fun b0 => ?_
 refine nsr ?_
 refine r_mv z (r_bin z z (bI_quo a0 8 (by decide)) ?_)
 refine r_u (o_maxI z z) (r_as z ?_)
 refine nsr ?_
 refine r_mv z (r_mv z (r_mv z (r_bin z z (bI_sub a0 (if 1 < (i64 (a0.tdiv 8)) then i64 (a0.tdiv 8) else 1)) (r_u (o_bin z z (bI_mul (i64 (a0 - (if 1 < (i64 (a0.tdiv 8)) then i64 (a0.tdiv 8) else 1))) 4)) (r_u (o_bin z z (bI_quo (i64 ((i64 (a0 - (if 1 < (i64 (a0.tdiv 8)) then i64 (a0.tdiv 8) else 1))) * 4)) 5 (by decide))) ?_)))))
 refine r_u (o_bld [vI (if 1 < (i64 (a0.tdiv 8)) then i64 (a0.tdiv 8) else 1), vI (i64 ((i64 ((i64 (a0 - (if 1 < (i64 (a0.tdiv 8)) then i64 (a0.tdiv 8) else 1))) * 4)).tdiv 5))] z (fun _ => by kernel_rfl)) ?_
 refine r_u0 (o_stn ag127 z z z z z z z) ?_
 refine r_nil (x_seq (c_ret ?_))
 subst hm
 exact x_d1 z (rv_n 0 [vI (if 1 < (i64 (a0.tdiv 8)) then i64 (a0.tdiv 8) else 1), vI (i64 ((i64 ((i64 (a0 - (if 1 < (i64 (a0.tdiv 8)) then i64 (a0.tdiv 8) else 1))) * 4)).tdiv 5))] ag127 z z z z) (fun _ h => st_pk 1 [] (by decide) h) (Le.refl _) ⟨_, z, z, z, z⟩
def B7 (a0 : Ak) (a1 : Str) : Option (Bool × Ak) :=
 (Cp a0 a1).bind fun r6 => if !r6 then some (false, a0) else om a0.s (none) fun x10 => (Bw x10 a1).bind fun r16 => om a0.r (none) fun x18 => (Bd x18 a1).bind fun r26 => if (r26.1 == 0) then (Aw x18 0 a1).bind fun r30 => some (r30.1, (⟨a0.most, (some r16), (some r30.2)⟩ : Ak)) else (Aw x18 2 a1).bind fun r37 => (Aq r37.2 2).bind fun r44 => if decide (((AB a0.most).Protected) < r44) then (Ay r37.2 2).bind fun r48 => (Aw r37.2 1 r48.1).bind fun r50 => some (true, (⟨a0.most, (some r16), (some r50.2)⟩ : Ak)) else some (true, (⟨a0.most, (some r16), (some r37.2)⟩ : Ak))
theorem B7.ok {G R F} (b0_ : Nat) (a0 : Ak) (g0_ : Ak.G) (a1 : Str) (r : Bool × Ak) (hm : B7 a0 a1 = some r) : CO Tryz.prog 50 [pt b0_ 0, vS a1] G R (Bk b0_ 92 [vI a0.most, g0_.s.1, g0_.r.1] :: rO (Aj.op g0_.s.2) g0_.s.1 a0.s :: rO (Ae.op g0_.r.2) g0_.r.1 a0.r :: F)
  (Ret fun u R' L' => ∃ (q0 : Ak.G), u = vB r.1 ∧ R' = R ∧ L' = Bk b0_ 92 [vI r.2.most, q0.s.1, q0.r.1] :: rO (Aj.op q0.s.2) q0.s.1 r.2.s :: rO (Ae.op q0.r.2) q0.r.1 r.2.r :: F) := by
 obtain ⟨⟨pv1, g2⟩, ⟨pv4, g5⟩⟩ := g0_
 unfold B7 at hm
 refine co_ofN (N := 68) Tryz.func50 z z ?_
 refine csr ?_
 refine r_as z ?_
 refine nssr ?_
 refine r_mv z (r_mv z ?_)
 obtain ⟨r6, hr6, hm7⟩ := bs hm
 clear hm
 refine r_c (s_w (o_call ca38 z (Cp.ok b0_ a0 (⟨(pv1, g2), (pv4, g5)⟩ : Ak.G) a1 r6 hr6))) ?_
 refine r_u (o_not z) ?_
 refine nsq ?_
 refine c_if (b := !r6) z (fun h8 => ?_) fun h8 => ?_
 ·have hm9 := ift hm7 h8
  clear hm7
  refine csr ?_
  refine r_as z ?_
  refine r_nil (x_seq (c_ret ?_))
  obtain rfl := si hm9
  exact x_r1 z (rv_t z) (Le.refl _) ⟨_, z, (⟨(pv1, g2), (pv4, g5)⟩ : Ak.G), z, z, z⟩
 have hm9 := iff_ hm7 h8
 clear hm7
 refine c_skip (x_seq (c_seq ?_))
 refine cd_st (fun _ h => mv1 h) ?_
 refine cd_opt (fun ho12 => ?_) (fun x10 b11 ho12 => ?_)
 ·rintro rfl
  have hm13 := om_n hm9 ho12
  clear hm9
  cases hm13
 rintro rfl
 have hm13 := om_s hm9 ho12
 clear hm9
 refine cd_st (fun _ h => st_star_o h) ?_
 refine c_reg ?_
 refine r_mv z (r_nc z (r_fa fa92_1 z (r_ld 3 sc87 z z z (r_mv z ?_))))
 obtain ⟨r16, hr16, hm17⟩ := bs hm13
 clear hm13
 refine r_c (s_w (o_call ca91 z (Bw.ok b11 x10 g2 a1 r16 hr16))) ?_
 refine r_nil (x_seq (c_seq ?_))
 refine cd_st (fun _ h => mv4 h) ?_
 refine cd_opt (fun ho20 => ?_) (fun x18 b19 ho20 => ?_)
 ·rintro rfl
  have hm21 := om_n hm17 ho20
  clear hm17
  cases hm21
 rintro rfl
 have hm21 := om_s hm17 ho20
 clear hm17
 refine cd_st (fun _ h => st_star_o h) ?_
 refine c_reg ?_
 refine r_mv z (r_nc z (r_fa fa92_2 z (r_ld 8 sc82 z z z (r_mv z ?_))))
 obtain ⟨r26, hr26, hm27⟩ := bs hm21
 clear hm21
 refine r_c (s_w (o_call ca76 z (Bd.ok b19 x18 g5 a1 r26 hr26))) ?_
 refine r_mv z ?_
 refine r_ext z z ?_
 refine r_ext z z (r_as z (r_as z ?_))
 refine nssr ?_
 refine r_mv z (r_bin z z (bI_eq r26.1 0) ?_)
 refine nsq ?_
 refine c_if (b := (r26.1 == 0)) z (fun h28 => ?_) fun h28 => ?_
 ·have hm29 := ift hm27 h28
  clear hm27
  refine csr ?_
  refine r_mv z (r_nc z (r_fa fa92_2 z (r_ld 8 sc82 z z z (r_mv z ?_))))
  obtain ⟨r30, hr30, hm36⟩ := bs hm29
  clear hm29
  refine r_sw (s_w (o_call ca90 z (Aw.ok b19 x18 g5 0 a1 r30 hr30))) ?_
  rintro _ R _ _ ⟨g31, rfl, rfl, rfl⟩
  refine r_as z ?_
  refine r_nil (x_seq (c_ret ?_))
  refine ex_st (fun _ h => mv7 (mv7 (mv7 h))) ?_
  refine ex_st (fun _ h => st_some (f := Aj.op g2) (a := r16) (st_star_f (A := Aj.fl b11 r16 g2) h)) ?_
  refine ex_st (fun _ h => mv5 (mv5 (mv5 (mv5 (mv5 h))))) ?_
  refine ex_st (fun _ h => st_some (f := Ae.op g31) (a := r30.2) (st_star_f (A := Ae.fl b19 r30.2 g31) h)) ?_
  obtain rfl := si hm36
  refine ex_st (fun _ h => st_pk 3 [2, 1, 0] (by decide) h) ?_
  exact x_r1 z (rv_t z) (Le.refl _) ⟨_, z, (⟨(pt b11 0, g2), (pt b19 0, g31)⟩ : Ak.G), z, z, z⟩
 have hm29 := iff_ hm27 h28
 clear hm27
 refine c_skip (x_seq (csr ?_))
 refine r_mv z (r_nc z (r_fa fa92_2 z (r_ld 8 sc82 z z z (r_mv z ?_))))
 obtain ⟨r37, hr37, hm43⟩ := bs hm29
 clear hm29
 refine r_sw (s_w (o_call ca90 z (Aw.ok b19 x18 g5 2 a1 r37 hr37))) ?_
 rintro _ R _ _ ⟨g38, rfl, rfl, rfl⟩
 refine r_nil (x_seq (c_seq (c_seq ?_)))
 obtain ⟨r44, hr44, hm45⟩ := bs hm43
 clear hm43
 refine c_any mixed (effs := []) (V := []) ?_
 refine stage_ext [(0, pt b0_ 0), (1, pt b0_ 0), (2, pt b0_ 2), (3, pt b19 0), (4, vI r44), (5, pt b0_ 0), (6, pt b0_ 0), (7, pt b0_ 0), (8, vI a0.most), (9, .agg (C7.c (AB a0.most)).toArray), (10, vI ((AB a0.most).Protected)), (11, vB (decide (((AB a0.most).Protected) < r44)))] z ?_
 refine stage z z z z mk24_ [0, 1, 2, 3, 4, 5, 6, 7, 8, 9, 10, 11] [] z z z (q_mv z z z (q_u z z (o_nc z) (q_fa z z fa92_2 z (q_ld z z 8 sc82 z z z (q_u z z (o_callqP ca73 z (Aq.ok b19 r37.2 g38 2 r44 hr44) (fun _ h => st_pk 9 [0, 1, 2, 3, 4, 5, 6, 7, 8] (by decide) h) (fun _ h => st_pk 9 [0, 1, 2, 3, 4, 5, 6, 7, 8] (by decide) h)) (q_mv z z z (q_u z z (o_nc z) (q_fa z z fa92_0 z (q_ld z z 8 sc3 z z z (q_u z z (o_callq ca92 z (AB.ok a0.most _ z)) (q_u z z (o_fd (v := vI ((AB a0.most).Protected)) z (fun _ => by kernel_rfl)) (q_u z z (o_bin z z (bI_gt r44 ((AB a0.most).Protected))) qn)))))))))))) en ?_
 intro _
 refine ex_sub (E' := [(0, pt b0_ 0), (53, vB (decide (((AB a0.most).Protected) < r44)))]) ⟨z, z, trivial⟩ ?_
 refine x_seq ?_
 refine c_if (b := decide (((AB a0.most).Protected) < r44)) z (fun h46 => ?_) fun h46 => ?_
 rotate_left
 ·have hm47 := iff_ hm45 h46
  clear hm45
  refine c_skip (x_seq (csr ?_))
  refine r_as z ?_
  refine r_nil (x_seq (c_ret ?_))
  refine ex_st (fun _ h => mv7 (mv7 (mv7 h))) ?_
  refine ex_st (fun _ h => st_some (f := Aj.op g2) (a := r16) (st_star_f (A := Aj.fl b11 r16 g2) h)) ?_
  refine ex_st (fun _ h => mv5 (mv5 (mv5 (mv5 (mv5 h))))) ?_
  refine ex_st (fun _ h => st_some (f := Ae.op g38) (a := r37.2) (st_star_f (A := Ae.fl b19 r37.2 g38) h)) ?_
  obtain rfl := si hm47
  refine ex_st (fun _ h => st_pk 3 [2, 1, 0] (by decide) h) ?_
  exact x_r1 z (rv_t z) (Le.refl _) ⟨_, z, (⟨(pt b11 0, g2), (pt b19 0, g38)⟩ : Ak.G), z, z, z⟩
 have hm47 := ift hm45 h46
 clear hm45
 refine csr ?_
 refine r_mv z (r_nc z (r_fa fa92_2 z (r_ld 8 sc82 z z z ?_)))
 obtain ⟨r48, hr48, hm49⟩ := bs hm47
 clear hm47
 refine r_c (s_w (o_call ca93 z (Ay.ok b19 r37.2 g38 2 r48 hr48))) ?_
 refine r_mv z ?_
 refine r_ext z z ?_
 refine r_ext z z (r_as z (r_as z ?_))
 refine r_nil (x_seq (c_reg ?_))
 refine r_mv z (r_nc z (r_fa fa92_2 z (r_ld 8 sc82 z z z (r_mv z ?_))))
 obtain ⟨r50, hr50, hm56⟩ := bs hm49
 clear hm49
 refine r_sw (s_w (o_call ca90 z (Aw.ok b19 r37.2 g38 1 r48.1 r50 hr50))) ?_
 rintro _ R _ _ ⟨g51, rfl, rfl, rfl⟩
 refine nsr ?_
 refine r_as z ?_
 refine r_nil (x_seq (c_ret ?_))
 refine ex_st (fun _ h => mv7 (mv7 (mv7 h))) ?_
 refine ex_st (fun _ h => st_some (f := Aj.op g2) (a := r16) (st_star_f (A := Aj.fl b11 r16 g2) h)) ?_
 refine ex_st (fun _ h => mv5 (mv5 (mv5 (mv5 (mv5 h))))) ?_
 refine ex_st (fun _ h => st_some (f := Ae.op g51) (a := r50.2) (st_star_f (A := Ae.fl b19 r50.2 g51) h)) ?_
 obtain rfl := si hm56
 refine ex_st (fun _ h => st_pk 3 [2, 1, 0] (by decide) h) ?_
 exact x_r1 z (rv_t z) (Le.refl _) ⟨_, z, (⟨(pt b11 0, g2), (pt b19 0, g51)⟩ : Ak.G), z, z, z⟩
def AI (a0 : Ak) : Option Int :=
 om a0.r (none) fun x6 => (Aq x6 0).bind fun r14 => (Aq x6 1).bind fun r16 => (Aq x6 2).bind fun r18 => some (i64 ((i64 (r14 + r16)) + r18))
theorem AI.ok {G R F} (b0_ : Nat) (a0 : Ak) (g0_ : Ak.G) (r : Int) (hm : AI a0 = some r) : CO Tryz.prog 34 [pt b0_ 0] G R (Bk b0_ 92 [vI a0.most, g0_.s.1, g0_.r.1] :: rO (Aj.op g0_.s.2) g0_.s.1 a0.s :: rO (Ae.op g0_.r.2) g0_.r.1 a0.r :: F)
  (Ret fun u R' L' => u = vI r ∧ R' = R ∧ L' = Bk b0_ 92 [vI a0.most, g0_.s.1, g0_.r.1] :: rO (Aj.op g0_.s.2) g0_.s.1 a0.s :: rO (Ae.op g0_.r.2) g0_.r.1 a0.r :: F) := by
 obtain ⟨⟨pv1, g2⟩, ⟨pv4, g5⟩⟩ := g0_
 unfold AI at hm
 refine co_ofN (N := 22) Tryz.func34 z z ?_
 refine csr ?_
 refine r_as z ?_
 refine nssr ?_
 refine r_mv z (r_bin z z (bP_eqp Tryz.underlying61) ?_)
 refine nsq ?_
 refine c_ff z ?_
 refine c_skip (x_seq (c_seq ?_))
 refine cd_st (fun _ h => mv2 h) ?_
 refine cd_opt (fun ho8 => ?_) (fun x6 b7 ho8 => ?_)
 ·rintro rfl
  have hm9 := om_n hm ho8
  clear hm
  cases hm9
 rintro rfl
 have hm9 := om_s hm ho8
 clear hm
 refine cd_st (fun _ h => st_star_o h) ?_
 obtain ⟨r14, hr14, hm15⟩ := bs hm9
 clear hm9
 obtain ⟨r16, hr16, hm17⟩ := bs hm15
 clear hm15
 obtain ⟨r18, hr18, hm19⟩ := bs hm17
 clear hm17
 refine c_any mixed (effs := []) (V := []) ?_
 refine stage_ext [(0, pt b0_ 0), (1, pt b0_ 0), (2, pt b0_ 2), (3, pt b7 0), (4, vI r14), (5, pt b0_ 0), (6, pt b0_ 0), (7, pt b0_ 2), (8, pt b7 0), (9, vI r16), (10, vI (i64 (r14 + r16))), (11, pt b0_ 0), (12, pt b0_ 0), (13, pt b0_ 2), (14, pt b7 0), (15, vI r18), (16, vI (i64 ((i64 (r14 + r16)) + r18))), (17, vI (i64 ((i64 (r14 + r16)) + r18)))] z ?_
 refine stage z z z z [0, 1, 3, 7, 15, 0, 32, 96, 224, 511, 1023, 0, 2048, 6144, 14336, 31743, 65535, 131071] [0, 1, 2, 3, 4, 5, 6, 7, 8, 9, 10, 11, 12, 13, 14, 15, 16, 17] [] z z z (q_mv z z z (q_u z z (o_nc z) (q_fa z z fa92_2 z (q_ld z z 5 sc82 z z z (q_u z z (o_callqP ca73 z (Aq.ok b7 x6 g5 0 r14 hr14) (fun _ h => st_pk 7 [0, 1, 2, 3, 4, 5, 6] (by decide) h) (fun _ h => st_pk 7 [0, 1, 2, 3, 4, 5, 6] (by decide) h)) (q_mv z z z (q_u z z (o_nc z) (q_fa z z fa92_2 z (q_ld z z 5 sc82 z z z (q_u z z (o_callqP ca73 z (Aq.ok b7 x6 g5 1 r16 hr16) (fun _ h => st_pk 7 [0, 1, 2, 3, 4, 5, 6] (by decide) h) (fun _ h => st_pk 7 [0, 1, 2, 3, 4, 5, 6] (by decide) h)) (q_u z z (o_bin z z (bI_add r14 r16)) (q_mv z z z (q_u z z (o_nc z) (q_fa z z fa92_2 z (q_ld z z 5 sc82 z z z (q_u z z (o_callqP ca73 z (Aq.ok b7 x6 g5 2 r18 hr18) (fun _ h => st_pk 7 [0, 1, 2, 3, 4, 5, 6] (by decide) h) (fun _ h => st_pk 7 [0, 1, 2, 3, 4, 5, 6] (by decide) h)) (q_u z z (o_bin z z (bI_add (i64 (r14 + r16)) r18)) (q_u z z (o_as z) qn)))))))))))))))))) en ?_
 intro _
 refine ex_sub (E' := [(2, vI (i64 ((i64 (r14 + r16)) + r18)))]) ⟨z, trivial⟩ ?_
 refine x_seq (c_ret ?_)
 refine ex_st (fun _ h => st_some (f := Ae.op g5) (a := x6) (st_star_f (A := Ae.fl b7 x6 g5) h)) ?_
 refine ex_st (fun _ h => st_back ho8 h) ?_
 obtain rfl := si hm19
 refine ex_st (fun _ h => st_pk 3 [1, 2, 0] (by decide) h) ?_
 exact x_r1 z (rv_t z) (Le.refl _) ⟨_, z, z, z, z⟩
def C3 (a0 : Ak) : Option (Str × Bool) :=
 om a0.r (none) fun x6 => (Ay x6 1).bind fun r14 => if r14.2 then some (r14.1, true) else (Ay x6 2).bind fun r18 => some (r18.1, r18.2)
theorem C3.ok {G R F} (b0_ : Nat) (a0 : Ak) (g0_ : Ak.G) (r : Str × Bool) (hm : C3 a0 = some r) : CO Tryz.prog 98 [pt b0_ 0] G R (Bk b0_ 92 [vI a0.most, g0_.s.1, g0_.r.1] :: rO (Aj.op g0_.s.2) g0_.s.1 a0.s :: rO (Ae.op g0_.r.2) g0_.r.1 a0.r :: F)
  (Ret fun u R' L' => u = .tuple #[vS r.1, vB r.2] ∧ R' = R ∧ L' = Bk b0_ 92 [vI a0.most, g0_.s.1, g0_.r.1] :: rO (Aj.op g0_.s.2) g0_.s.1 a0.s :: rO (Ae.op g0_.r.2) g0_.r.1 a0.r :: F) := by
 obtain ⟨⟨pv1, g2⟩, ⟨pv4, g5⟩⟩ := g0_
 unfold C3 at hm
 refine co_ofN (N := 23) Tryz.func98 z z ?_
 refine csr ?_
 refine r_as z (r_as z ?_)
 refine r_nil (x_seq (c_seq (c_seq ?_)))
 refine cd_st (fun _ h => mv2 h) ?_
 refine cd_opt (fun ho8 => ?_) (fun x6 b7 ho8 => ?_)
 ·rintro rfl
  have hm9 := om_n hm ho8
  clear hm
  cases hm9
 rintro rfl
 have hm9 := om_s hm ho8
 clear hm
 refine cd_st (fun _ h => st_star_o h) ?_
 refine c_reg ?_
 refine r_mv z (r_nc z (r_fa fa92_2 z (r_ld 5 sc82 z z z ?_)))
 obtain ⟨r14, hr14, hm15⟩ := bs hm9
 clear hm9
 refine r_c (s_w (o_call ca93 z (Ay.ok b7 x6 g5 1 r14 hr14))) ?_
 refine r_mv z ?_
 refine r_ext z z ?_
 refine r_ext z z (r_as z (r_as z ?_))
 refine nsr ?_
 refine r_mv z ?_
 refine nsq ?_
 refine c_if (b := r14.2) z (fun h16 => ?_) fun h16 => ?_
 ·have hm17 := ift hm15 h16
  clear hm15
  refine csr ?_
  refine r_mv z (r_as z (r_as z ?_))
  refine r_nil (x_seq (c_ret ?_))
  refine ex_st (fun _ h => st_some (f := Ae.op g5) (a := x6) (st_star_f (A := Ae.fl b7 x6 g5) h)) ?_
  refine ex_st (fun _ h => st_back ho8 h) ?_
  obtain rfl := si hm17
  refine ex_st (fun _ h => st_pk 3 [1, 2, 0] (by decide) h) ?_
  exact x_r2 z (rv_t z) (rv_t z) (Le.refl _) ⟨_, z, z, z, z⟩
 have hm17 := iff_ hm15 h16
 clear hm15
 refine c_skip (x_seq (csr ?_))
 refine r_mv z (r_nc z (r_fa fa92_2 z (r_ld 5 sc82 z z z ?_)))
 obtain ⟨r18, hr18, hm19⟩ := bs hm17
 clear hm17
 refine r_c (s_w (o_call ca93 z (Ay.ok b7 x6 g5 2 r18 hr18))) ?_
 refine r_ext z z ?_
 refine r_ext z z (r_as z (r_as z ?_))
 refine r_nil (x_seq (c_ret ?_))
 refine ex_st (fun _ h => st_some (f := Ae.op g5) (a := x6) (st_star_f (A := Ae.fl b7 x6 g5) h)) ?_
 refine ex_st (fun _ h => st_back ho8 h) ?_
 obtain rfl := si hm19
 refine ex_st (fun _ h => st_pk 3 [1, 2, 0] (by decide) h) ?_
 exact x_r2 z (rv_t z) (rv_t z) (Le.refl _) ⟨_, z, z, z, z⟩
def Bz (a0 : Aj) (a1 : Str) : Option Int :=
 (Br a0 a1).bind fun r2 => (Ba a0 a1 4).bind fun r4 => (gi a0.door r4).bind fun x6 => if x6 then some (i64 ((r2.toNat : Int) + 1)) else some (r2.toNat : Int)
theorem Bz.ok {G R F} (b0_ : Nat) (a0 : Aj) (g0_ : Aj.G) (a1 : Str) (r : Int) (hm : Bz a0 a1 = some r) : CO Tryz.prog 99 [pt b0_ 0, vS a1] G R (Bk b0_ 143 (Aj.k a0 g0_) :: OwL (OwS false 5 1 eY) [g0_.rows.1, g0_.rows.2.1, g0_.rows.2.2.1, g0_.rows.2.2.2] a0.rows :: OwS true 4 1 eB g0_.door a0.door :: F)
  (Ret fun u R' L' => u = vI r ∧ R' = R ∧ L' = Bk b0_ 143 (Aj.k a0 g0_) :: OwL (OwS false 5 1 eY) [g0_.rows.1, g0_.rows.2.1, g0_.rows.2.2.1, g0_.rows.2.2.2] a0.rows :: OwS true 4 1 eB g0_.door a0.door :: F) := by
 unfold Bz at hm
 refine co_ofN (N := 24) Tryz.func99 z z ?_
 refine csr ?_
 refine r_as z ?_
 refine nssr ?_
 refine r_mv z (r_bin z z (bP_eqp Tryz.underlying87) ?_)
 refine nsq ?_
 refine c_ff z ?_
 refine c_skip (x_seq (csr ?_))
 refine r_mv z (r_mv z ?_)
 obtain ⟨r2, hr2, hm3⟩ := bs hm
 clear hm
 refine r_c (s_w (o_call ca126 z (Br.ok b0_ a0 g0_ a1 r2 hr2))) ?_
 refine r_u (o_cv z (cYI Tryz.underlying5 Tryz.underlying3 r2)) (r_as z ?_)
 refine r_nil (x_seq (c_seq (c_seq ?_)))
 obtain ⟨r4, hr4, hm5⟩ := bs hm3
 clear hm3
 obtain ⟨x6, hx6, hm7⟩ := bs hm5
 clear hm5
 refine c_any mixed (effs := []) (V := []) ?_
 refine stage_ext [(0, pt b0_ 0), (1, pt b0_ 0), (2, pt b0_ 6), (3, g0_.door), (4, pt b0_ 0), (5, vS a1), (6, vI r4), (7, pt (sb g0_.door) (so g0_.door + r4.toNat * 1)), (8, vB x6)] z ?_
 refine stage z z z z [0, 1, 3, 7, 0, 0, 48, 127, 255] [0, 1, 2, 3, 4, 5, 6, 7, 8] [] z z z (q_mv z z z (q_u z z (o_nc z) (q_fa z z fa143_3 z (q_ld z z 0 sc34 z z z (q_mv z z z (q_mv z z z (q_u z z (o_callqP ca125 z (Ba.ok b0_ a0 g0_ a1 4 r4 hr4) (fun _ h => st_pk 3 [0, 1, 2] (by decide) h) (fun _ h => st_pk 3 [0, 1, 2] (by decide) h)) (q_u z z (o_ixO 2 Tryz.underlying34 (fun _ => by kernel_rfl) z z z hx6) (q_u z z (o_ldO0 2 sc4 z z hx6 z z) qn))))))))) en ?_
 intro _
 refine ex_sub (E' := [(5, vI (r2.toNat : Int)), (20, vB x6)]) ⟨z, z, trivial⟩ ?_
 refine x_seq ?_
 refine c_if (b := x6) z (fun h8 => ?_) fun h8 => ?_
 ·have hm9 := ift hm7 h8
  clear hm7
  refine c_reg ?_
  refine r_mv z (r_bin z z (bI_add (r2.toNat : Int) 1) (r_as z ?_))
  refine nsr ?_
  refine r_mv z (r_as z ?_)
  refine r_nil (x_seq (c_ret ?_))
  obtain rfl := si hm9
  exact x_r1 z (rv_t z) (Le.refl _) ⟨_, z, z, z, z⟩
 have hm9 := iff_ hm7 h8
 clear hm7
 refine c_skip (x_seq (csr ?_))
 refine r_mv z (r_as z ?_)
 refine r_nil (x_seq (c_ret ?_))
 obtain rfl := si hm9
 exact x_r1 z (rv_t z) (Le.refl _) ⟨_, z, z, z, z⟩
def BU (a0 : Ak) (a1 : Str) : Option (List Str × Ak) :=
 Option.bind (if decide (64 < (a1.length : Int)) then some (true, a0) else (B7 a0 a1).bind fun r98 => some (r98.1, r98.2)) fun p6 => if p6.1 then some ([], p6.2) else om p6.2.s (none) fun x19 => (Bw x19 a1).bind fun r25 => om p6.2.r (none) fun x27 => (Aw x27 0 a1).bind fun r35 => (Aq r35.2 0).bind fun r42 => if decide (r42 ≤ ((AB p6.2.most).Window)) then some ([], (⟨p6.2.most, (some r25), (some r35.2)⟩ : Ak)) else (Ay r35.2 0).bind fun r46 => (AI (⟨p6.2.most, (some r25), (some r35.2)⟩ : Ak)).bind fun r48 => if decide (r48 ≤ p6.2.most) then (Aw r35.2 1 r46.1).bind fun r52 => some ([], (⟨p6.2.most, (some r25), (some r52.2)⟩ : Ak)) else (C3 (⟨p6.2.most, (some r25), (some r35.2)⟩ : Ak)).bind fun r59 => Option.bind (if r59.2 then (Bz r25 r46.1).bind fun r92 => (Bz r25 r59.1).bind fun r94 => some (decide (r94 < r92)) else some false) fun p61 => if p61 then (AK r35.2 r59.1).bind fun r67 => (Aw r67.2 1 r46.1).bind fun r74 => some ([r59.1], (⟨p6.2.most, (some r25), (some r74.2)⟩ : Ak)) else (AK r35.2 r46.1).bind fun r82 => some ([r46.1], (⟨p6.2.most, (some r25), (some r82.2)⟩ : Ak))
theorem BU.ok {G R F} (b0_ : Nat) (a0 : Ak) (g0_ : Ak.G) (a1 : Str) (r : List Str × Ak) (hm : BU a0 a1 = some r) : CO Tryz.prog 57 [pt b0_ 0, vS a1] G R (Bk b0_ 92 [vI a0.most, g0_.s.1, g0_.r.1] :: rO (Aj.op g0_.s.2) g0_.s.1 a0.s :: rO (Ae.op g0_.r.2) g0_.r.1 a0.r :: F)
  (Ret fun u R' L' => ∃ (p0 : Value) (q0 : Ak.G), u = p0 ∧ R' = R ∧ L' = OwS true 9 1 eS p0 r.1 :: Bk b0_ 92 [vI r.2.most, q0.s.1, q0.r.1] :: rO (Aj.op q0.s.2) q0.s.1 r.2.s :: rO (Ae.op q0.r.2) q0.r.1 r.2.r :: F) := by
 obtain ⟨⟨pv1, g2⟩, ⟨pv4, g5⟩⟩ := g0_
 unfold BU at hm
 refine co_ofN (N := 109) Tryz.func57 z z ?_
 refine csr ?_
 refine r_as z ?_
 refine r_nil (x_seq (c_seq (c_seq ?_)))
 obtain ⟨p6, hp14, hm15⟩ := bs hm
 refine cd_cut (fun x ks => ∀ (g7 : Ak.G), EX x .normal ks [(0, pt b0_ 0), (1, vS a1), (20, vB p6.1)] R (Bk b0_ 92 [vI p6.2.most, g7.s.1, g7.r.1] :: rO (Aj.op g7.s.2) g7.s.1 p6.2.s :: rO (Ae.op g7.r.2) g7.r.1 p6.2.r :: F)) ?_ fun K16 => ?_
 rotate_left
 ·refine cd_by (decide (64 < (a1.length : Int))) (fun h96 => ?_) fun h96 => ?_
  ·have hm97 := ift hp14 h96
   clear hp14
   refine c_reg ?_
   refine r_mv z (r_bin z z (bP_eqp Tryz.underlying61) (r_mv z ?_))
   refine r_s (s_y z z z (o_mv z)) ?_
   refine r_s (s_y z z z (o_lenS Tryz.underlying9 z)) ?_
   refine r_s (s_y z z z (o_bin z z (bI_gt (a1.length : Int) 64))) ?_
   refine r_u (o_pf z z z) (r_mv z ?_)
   refine r_s (s_n z z h96) ?_
   refine r_s (s_n z z h96) ?_
   refine r_s (s_n z z h96) ?_
   refine r_u (o_pt z h96 z) ?_
   refine r_nil ?_
   obtain rfl := si hm97
   exact x_sub (K16 (⟨(pv1, g2), (pv4, g5)⟩ : Ak.G)) ⟨z, z, z, trivial⟩ (fun _ h => st_pk 3 [0, 1, 2] (by decide) h)
  have hm97 := iff_ hp14 h96
  clear hp14
  refine c_reg ?_
  refine r_mv z (r_bin z z (bP_eqp Tryz.underlying61) (r_mv z ?_))
  refine r_s (s_y z z z (o_mv z)) ?_
  refine r_s (s_y z z z (o_lenS Tryz.underlying9 z)) ?_
  refine r_s (s_y z z z (o_bin z z (bI_gt (a1.length : Int) 64))) ?_
  refine r_u (o_pf z z z) (r_mv z ?_)
  refine r_s (s_y z z h96 (o_mv z)) ?_
  refine r_s (s_y z z h96 (o_mv z)) ?_
  obtain ⟨r98, hr98, hm106⟩ := bs hm97
  clear hm97
  refine r_sw (s_yw z z h96 (o_call ca50 z (B7.ok b0_ a0 (⟨(pv1, g2), (pv4, g5)⟩ : Ak.G) a1 r98 hr98))) ?_
  rintro _ R _ _ ⟨⟨⟨pv101, g102⟩, ⟨pv104, g105⟩⟩, rfl, rfl, rfl⟩
  refine r_u (o_pf z h96 z) ?_
  refine r_nil ?_
  obtain rfl := si hm106
  exact x_sub (K16 (⟨(pv101, g102), (pv104, g105)⟩ : Ak.G)) ⟨z, z, z, trivial⟩ (fun _ h => st_pk 3 [0, 1, 2] (by decide) h)
 intro g7
 obtain ⟨⟨pv9, g10⟩, ⟨pv12, g13⟩⟩ := g7
 refine x_seq ?_
 refine c_if (b := p6.1) z (fun h17 => ?_) fun h17 => ?_
 ·have hm18 := ift hm15 h17
  clear hm15
  refine csr ?_
  refine r_as z ?_
  refine r_nil (x_seq (c_ret ?_))
  refine ex_st (fun _ h => st_nil (ap := true) (T := 9) (sz := 1) (en := eS) h) ?_
  obtain rfl := si hm18
  exact x_r1 z (rv_t z) (Le.refl _) ⟨_, z, (.slice none 0 0), (⟨(pv9, g10), (pv12, g13)⟩ : Ak.G), z, z, z⟩
 have hm18 := iff_ hm15 h17
 clear hm15
 refine c_skip (x_seq (c_seq ?_))
 refine cd_st (fun _ h => mv1 h) ?_
 refine cd_opt (fun ho21 => ?_) (fun x19 b20 ho21 => ?_)
 ·rintro rfl
  have hm22 := om_n hm18 ho21
  clear hm18
  cases hm22
 rintro rfl
 have hm22 := om_s hm18 ho21
 clear hm18
 refine cd_st (fun _ h => st_star_o h) ?_
 refine c_reg ?_
 refine r_mv z (r_nc z (r_fa fa92_1 z (r_ld 3 sc87 z z z (r_mv z ?_))))
 obtain ⟨r25, hr25, hm26⟩ := bs hm22
 clear hm22
 refine r_c (s_w (o_call ca91 z (Bw.ok b20 x19 g10 a1 r25 hr25))) ?_
 refine r_nil (x_seq (c_seq ?_))
 refine cd_st (fun _ h => mv4 h) ?_
 refine cd_opt (fun ho29 => ?_) (fun x27 b28 ho29 => ?_)
 ·rintro rfl
  have hm30 := om_n hm26 ho29
  clear hm26
  cases hm30
 rintro rfl
 have hm30 := om_s hm26 ho29
 clear hm26
 refine cd_st (fun _ h => st_star_o h) ?_
 refine c_reg ?_
 refine r_mv z (r_nc z (r_fa fa92_2 z (r_ld 8 sc82 z z z (r_mv z ?_))))
 obtain ⟨r35, hr35, hm41⟩ := bs hm30
 clear hm30
 refine r_sw (s_w (o_call ca90 z (Aw.ok b28 x27 g13 0 a1 r35 hr35))) ?_
 rintro _ R _ _ ⟨g36, rfl, rfl, rfl⟩
 refine r_nil (x_seq (c_seq (c_seq ?_)))
 obtain ⟨r42, hr42, hm43⟩ := bs hm41
 clear hm41
 refine c_any mixed (effs := []) (V := []) ?_
 refine stage_ext [(0, pt b0_ 0), (1, pt b0_ 0), (2, pt b0_ 2), (3, pt b28 0), (4, vI r42), (5, pt b0_ 0), (6, pt b0_ 0), (7, pt b0_ 0), (8, vI p6.2.most), (9, .agg (C7.c (AB p6.2.most)).toArray), (10, vI ((AB p6.2.most).Window)), (11, vB (decide (r42 ≤ ((AB p6.2.most).Window))))] z ?_
 refine stage z z z z mk24_ [0, 1, 2, 3, 4, 5, 6, 7, 8, 9, 10, 11] [] z z z (q_mv z z z (q_u z z (o_nc z) (q_fa z z fa92_2 z (q_ld z z 8 sc82 z z z (q_u z z (o_callqP ca73 z (Aq.ok b28 r35.2 g36 0 r42 hr42) (fun _ h => st_pk 9 [0, 1, 2, 3, 4, 5, 6, 7, 8] (by decide) h) (fun _ h => st_pk 9 [0, 1, 2, 3, 4, 5, 6, 7, 8] (by decide) h)) (q_mv z z z (q_u z z (o_nc z) (q_fa z z fa92_0 z (q_ld z z 8 sc3 z z z (q_u z z (o_callq ca92 z (AB.ok p6.2.most _ z)) (q_u z z (o_fd (v := vI ((AB p6.2.most).Window)) z (fun _ => by kernel_rfl)) (q_u z z (o_bin z z (bI_le r42 ((AB p6.2.most).Window))) qn)))))))))))) en ?_
 intro _
 refine ex_sub (E' := [(0, pt b0_ 0), (44, vB (decide (r42 ≤ ((AB p6.2.most).Window))))]) ⟨z, z, trivial⟩ ?_
 refine x_seq ?_
 refine c_if (b := decide (r42 ≤ ((AB p6.2.most).Window))) z (fun h44 => ?_) fun h44 => ?_
 ·have hm45 := ift hm43 h44
  clear hm43
  refine csr ?_
  refine r_as z ?_
  refine r_nil (x_seq (c_ret ?_))
  refine ex_st (fun _ h => st_nil (ap := true) (T := 9) (sz := 1) (en := eS) h) ?_
  refine ex_st (fun _ h => mv8 (mv8 (mv8 h))) ?_
  refine ex_st (fun _ h => st_some (f := Aj.op g10) (a := r25) (st_star_f (A := Aj.fl b20 r25 g10) h)) ?_
  refine ex_st (fun _ h => mv6 (mv6 (mv6 (mv6 (mv6 h))))) ?_
  refine ex_st (fun _ h => st_some (f := Ae.op g36) (a := r35.2) (st_star_f (A := Ae.fl b28 r35.2 g36) h)) ?_
  obtain rfl := si hm45
  refine ex_st (fun _ h => st_pk 4 [2, 3, 1, 0] (by decide) h) ?_
  exact x_r1 z (rv_t z) (Le.refl _) ⟨_, z, (.slice none 0 0), (⟨(pt b20 0, g10), (pt b28 0, g36)⟩ : Ak.G), z, z, z⟩
 have hm45 := iff_ hm43 h44
 clear hm43
 refine c_skip (x_seq (csr ?_))
 refine r_mv z (r_nc z (r_fa fa92_2 z (r_ld 8 sc82 z z z ?_)))
 obtain ⟨r46, hr46, hm47⟩ := bs hm45
 clear hm45
 refine r_c (s_w (o_call ca93 z (Ay.ok b28 r35.2 g36 0 r46 hr46))) ?_
 refine r_mv z ?_
 refine r_ext z z ?_
 refine r_ext z z (r_as z (r_as z ?_))
 refine r_nil (x_seq (c_seq (c_seq ?_)))
 obtain ⟨r48, hr48, hm49⟩ := bs hm47
 clear hm47
 refine c_any mixed (effs := []) (V := []) ?_
 refine stage_ext [(0, pt b0_ 0), (1, vI r48), (2, pt b0_ 0), (3, pt b0_ 0), (4, pt b0_ 0), (5, vI p6.2.most), (6, vB (decide (r48 ≤ p6.2.most)))] z ?_
 refine stage z z z z [0, 1, 0, 4, 12, 28, 63] [0, 1, 2, 3, 4, 5, 6] [] z z z (q_mv z z z (q_u z z (o_callqP ca34 z (AI.ok b0_ (⟨p6.2.most, (some r25), (some r35.2)⟩ : Ak) (⟨(pt b20 0, g10), (pt b28 0, g36)⟩ : Ak.G) r48 hr48) (fun _ h => mv2 (mv1 (st_some (f := Ae.op g36) (a := r35.2) (st_star_f (A := Ae.fl b28 r35.2 g36) (mv5 (mv5 (mv5 (mv5 (mv5 (st_some (f := Aj.op g10) (a := r25) (st_star_f (A := Aj.fl b20 r25 g10) (mv7 (mv7 (mv7 h)))))))))))))) (fun _ h => st_pk 9 [0, 1, 2, 3, 4, 5, 6, 7, 8] (by decide) (st_star_o (st_some_o (mv4 (st_star_o (st_some_o (mv1 h)))))))) (q_mv z z z (q_u z z (o_nc z) (q_fa z z fa92_0 z (q_ld z z 8 sc3 z z z (q_u z z (o_bin z z (bI_le r48 p6.2.most)) qn))))))) en ?_
 intro _
 refine ex_sub (E' := [(0, pt b0_ 0), (5, vS r46.1), (59, vB (decide (r48 ≤ p6.2.most)))]) ⟨z, z, z, trivial⟩ ?_
 refine x_seq ?_
 refine c_if (b := decide (r48 ≤ p6.2.most)) z (fun h50 => ?_) fun h50 => ?_
 ·have hm51 := ift hm49 h50
  clear hm49
  refine csr ?_
  refine r_mv z (r_nc z (r_fa fa92_2 z (r_ld 8 sc82 z z z (r_mv z ?_))))
  obtain ⟨r52, hr52, hm58⟩ := bs hm51
  clear hm51
  refine r_sw (s_w (o_call ca90 z (Aw.ok b28 r35.2 g36 1 r46.1 r52 hr52))) ?_
  rintro _ R _ _ ⟨g53, rfl, rfl, rfl⟩
  refine nsr ?_
  refine r_as z ?_
  refine r_nil (x_seq (c_ret ?_))
  refine ex_st (fun _ h => st_nil (ap := true) (T := 9) (sz := 1) (en := eS) h) ?_
  refine ex_st (fun _ h => mv8 (mv8 (mv8 h))) ?_
  refine ex_st (fun _ h => st_some (f := Aj.op g10) (a := r25) (st_star_f (A := Aj.fl b20 r25 g10) h)) ?_
  refine ex_st (fun _ h => mv6 (mv6 (mv6 (mv6 (mv6 h))))) ?_
  refine ex_st (fun _ h => st_some (f := Ae.op g53) (a := r52.2) (st_star_f (A := Ae.fl b28 r52.2 g53) h)) ?_
  obtain rfl := si hm58
  refine ex_st (fun _ h => st_pk 4 [2, 3, 1, 0] (by decide) h) ?_
  exact x_r1 z (rv_t z) (Le.refl _) ⟨_, z, (.slice none 0 0), (⟨(pt b20 0, g10), (pt b28 0, g53)⟩ : Ak.G), z, z, z⟩
 have hm51 := iff_ hm49 h50
 clear hm49
 refine c_skip (x_seq (csr ?_))
 refine r_mv z ?_
 refine rl_st (fun _ h => mv7 (mv7 (mv7 h))) ?_
 refine rl_st (fun _ h => st_some (f := Aj.op g10) (a := r25) (st_star_f (A := Aj.fl b20 r25 g10) h)) ?_
 refine rl_st (fun _ h => mv5 (mv5 (mv5 (mv5 (mv5 h))))) ?_
 refine rl_st (fun _ h => st_some (f := Ae.op g36) (a := r35.2) (st_star_f (A := Ae.fl b28 r35.2 g36) h)) ?_
 obtain ⟨r59, hr59, hm60⟩ := bs hm51
 clear hm51
 refine rl_st (fun _ h => mv2 (mv1 h)) ?_
 refine r_c (s_w (o_call ca98 z (C3.ok b0_ (⟨p6.2.most, (some r25), (some r35.2)⟩ : Ak) (⟨(pt b20 0, g10), (pt b28 0, g36)⟩ : Ak.G) r59 hr59))) ?_
 refine r_mv z ?_
 refine r_ext z z ?_
 refine r_ext z z (r_as z (r_as z ?_))
 refine r_nil (x_seq (c_seq (c_seq ?_)))
 refine cd_st (fun _ h => mv1 h) ?_
 refine cd_st (fun _ h => st_some_o h) ?_
 refine cd_st (fun _ h => st_star_o h) ?_
 obtain ⟨p61, hp62, hm63⟩ := bs hm60
 refine cd_join (E' := [(0, pt b0_ 0), (5, vS r46.1), (7, vS r59.1), (86, vB p61)]) (L' := Bk b20 143 (Aj.k r25 g10) :: Bk b0_ 92 [vI p6.2.most, pt b20 0, pt b28 0] :: OwL (OwS false 5 1 eY) [g10.rows.1, g10.rows.2.1, g10.rows.2.2.1, g10.rows.2.2.2] r25.rows :: OwS true 4 1 eB g10.door r25.door :: rO (Ae.op g36) (pt b28 0) (some r35.2) :: F) ?_ fun K64 => ?_
 rotate_left
 ·refine cd_by r59.2 (fun h90 => ?_) fun h90 => ?_
  ·have hm91 := ift hp62 h90
   clear hp62
   obtain ⟨r92, hr92, hm93⟩ := bs hm91
   clear hm91
   obtain ⟨r94, hr94, hm95⟩ := bs hm93
   clear hm93
   refine c_any mixed (effs := []) (V := []) ?_
   refine stage_ext [(0, vB r59.2), (1, vB r59.2), (2, pt b0_ 0), (3, pt b0_ 0), (4, pt b0_ 1), (5, pt b20 0), (6, vS r46.1), (7, vI r92), (8, pt b0_ 0), (9, pt b0_ 0), (10, pt b0_ 1), (11, pt b20 0), (12, vS r59.1), (13, vI r94), (14, vB (decide (r94 < r92))), (15, vB (decide (r94 < r92)))] z ?_
   refine stage z z z z mk27_ [0, 1, 2, 3, 4, 5, 6, 7, 8, 9, 10, 11, 12, 13, 14, 15] [] z z z (q_mv z z z (q_mv z z z (q_y z z z z h90 (o_mv z) (q_y z z z z h90 (o_nc z) (q_y z z z z h90 (o_fa fa92_1 z) (q_y z z z z h90 (o_ld 3 sc87 z z z) (q_y z z z z h90 (o_mv z) (q_y z z z z h90 (o_callqP ca99 z (Bz.ok b20 r25 g10 r46.1 r92 hr92) (fun _ h => st_pk 5 [0, 1, 2, 3, 4] (by decide) h) (fun _ h => st_pk 5 [0, 1, 2, 3, 4] (by decide) h)) (q_y z z z z h90 (o_mv z) (q_y z z z z h90 (o_nc z) (q_y z z z z h90 (o_fa fa92_1 z) (q_y z z z z h90 (o_ld 3 sc87 z z z) (q_y z z z z h90 (o_mv z) (q_y z z z z h90 (o_callqP ca99 z (Bz.ok b20 r25 g10 r59.1 r94 hr94) (fun _ h => st_pk 5 [0, 1, 2, 3, 4] (by decide) h) (fun _ h => st_pk 5 [0, 1, 2, 3, 4] (by decide) h)) (q_y z z z z h90 (o_bin z z (bI_gt r92 r94)) (q_u z z (o_pt z h90 z) qn)))))))))))))))) en ?_
   intro _
   refine ex_sub (E' := [(0, pt b0_ 0), (5, vS r46.1), (7, vS r59.1), (86, vB (decide (r94 < r92)))]) ⟨z, z, z, z, trivial⟩ ?_
   obtain rfl := si hm95
   exact x_sub K64 ⟨z, z, z, z, trivial⟩ (fun _ h => st_pk 5 [0, 3, 1, 2, 4] (by decide) h)
  have hm91 := iff_ hp62 h90
  clear hp62
  refine c_any mixed (effs := []) (V := []) ?_
  refine stage_ext [(0, vB r59.2), (1, vB r59.2), (2, undef), (3, undef), (4, undef), (5, undef), (6, undef), (7, undef), (8, undef), (9, undef), (10, undef), (11, undef), (12, undef), (13, undef), (14, undef), (15, vB false)] z ?_
  refine stage z z z z mk27_ [0, 1, 2, 3, 4, 5, 6, 7, 8, 9, 10, 11, 12, 13, 14, 15] [] z z z (q_mv z z z (q_mv z z z (q_n z z z z h90 (q_n z z z z h90 (q_n z z z z h90 (q_n z z z z h90 (q_n z z z z h90 (q_n z z z z h90 (q_n z z z z h90 (q_n z z z z h90 (q_n z z z z h90 (q_n z z z z h90 (q_n z z z z h90 (q_n z z z z h90 (q_n z z z z h90 (q_u z z (o_pf z h90 z) qn)))))))))))))))) en ?_
  intro _
  refine ex_sub (E' := [(0, pt b0_ 0), (5, vS r46.1), (7, vS r59.1), (86, vB false)]) ⟨z, z, z, z, trivial⟩ ?_
  obtain rfl := si hm91
  exact x_sub K64 ⟨z, z, z, z, trivial⟩ (fun _ h => st_pk 5 [0, 3, 1, 2, 4] (by decide) h)
 refine x_seq ?_
 refine c_if (b := p61) z (fun h65 => ?_) fun h65 => ?_
 ·have hm66 := ift hm63 h65
  clear hm63
  refine csr ?_
  refine r_mv z (r_nc z (r_fa fa92_2 z (r_ld 1 sc82 z z z (r_mv z ?_))))
  refine rl_st (fun _ h => mv4 h) ?_
  refine rl_st (fun _ h => st_some_o h) ?_
  refine rl_st (fun _ h => st_star_o h) ?_
  obtain ⟨r67, hr67, hm73⟩ := bs hm66
  clear hm66
  refine r_sw (s_w (o_call ca94 z (AK.ok b28 r35.2 g36 r59.1 r67 hr67))) ?_
  rintro _ R _ _ ⟨g68, rfl, rfl, rfl⟩
  refine nsr ?_
  refine r_mv z (r_nc z (r_fa fa92_2 z (r_ld 6 sc82 z z z (r_mv z ?_))))
  obtain ⟨r74, hr74, hm80⟩ := bs hm73
  clear hm73
  refine r_sw (s_w (o_call ca90 z (Aw.ok b28 r67.2 g68 1 r46.1 r74 hr74))) ?_
  rintro _ R _ _ ⟨g75, rfl, rfl, rfl⟩
  refine nsr ?_
  refine r_mv z ?_
  refine r_sw (s_w (o_bsl (en := eS) (sz := 1) (e := 9) (cs := [vS r59.1]) (r := [r59.1]) z (fun _ => by kernel_rfl) z (by decide) z (fun _ => z))) ?_
  rintro v81 R _ _ ⟨rfl, rfl⟩
  refine r_as z ?_
  refine r_nil (x_seq (c_ret ?_))
  refine ex_st (fun _ h => mv8 (mv9 (mv9 h))) ?_
  refine ex_st (fun _ h => st_some (f := Aj.op g10) (a := r25) (st_star_f (A := Aj.fl b20 r25 g10) h)) ?_
  refine ex_st (fun _ h => mv6 (mv6 (mv6 (mv6 (mv6 h))))) ?_
  refine ex_st (fun _ h => st_some (f := Ae.op g75) (a := r74.2) (st_star_f (A := Ae.fl b28 r74.2 g75) h)) ?_
  obtain rfl := si hm80
  refine ex_st (fun _ h => st_pk 4 [2, 3, 1, 0] (by decide) h) ?_
  exact x_r1 z (rv_t z) (Le.refl _) ⟨_, z, v81, (⟨(pt b20 0, g10), (pt b28 0, g75)⟩ : Ak.G), z, z, z⟩
 have hm66 := iff_ hm63 h65
 clear hm63
 refine c_skip (x_seq (csr ?_))
 refine r_mv z (r_nc z (r_fa fa92_2 z (r_ld 1 sc82 z z z (r_mv z ?_))))
 refine rl_st (fun _ h => mv4 h) ?_
 refine rl_st (fun _ h => st_some_o h) ?_
 refine rl_st (fun _ h => st_star_o h) ?_
 obtain ⟨r82, hr82, hm88⟩ := bs hm66
 clear hm66
 refine r_sw (s_w (o_call ca94 z (AK.ok b28 r35.2 g36 r46.1 r82 hr82))) ?_
 rintro _ R _ _ ⟨g83, rfl, rfl, rfl⟩
 refine nsr ?_
 refine r_mv z ?_
 refine r_sw (s_w (o_bsl (en := eS) (sz := 1) (e := 9) (cs := [vS r46.1]) (r := [r46.1]) z (fun _ => by kernel_rfl) z (by decide) z (fun _ => z))) ?_
 rintro v89 R _ _ ⟨rfl, rfl⟩
 refine r_as z ?_
 refine r_nil (x_seq (c_ret ?_))
 refine ex_st (fun _ h => mv8 (mv9 (mv9 h))) ?_
 refine ex_st (fun _ h => st_some (f := Aj.op g10) (a := r25) (st_star_f (A := Aj.fl b20 r25 g10) h)) ?_
 refine ex_st (fun _ h => mv6 (mv6 (mv6 (mv6 (mv6 h))))) ?_
 refine ex_st (fun _ h => st_some (f := Ae.op g83) (a := r82.2) (st_star_f (A := Ae.fl b28 r82.2 g83) h)) ?_
 obtain rfl := si hm88
 refine ex_st (fun _ h => st_pk 4 [2, 3, 1, 0] (by decide) h) ?_
 exact x_r1 z (rv_t z) (Le.refl _) ⟨_, z, v89, (⟨(pt b20 0, g10), (pt b28 0, g83)⟩ : Ak.G), z, z, z⟩
def AV (a0 : Ab) (a1 : Str) : Option (List Str × Ab) :=
 if ((An a0) == 1) then om a0.a (none) fun x8 => (CE x8 a1).bind fun r15 => some (r15.1, (⟨a0.kind, (some r15.2), a0.t⟩ : Ab)) else if ((An a0) == 2) then om a0.t (none) fun x24 => (BU x24 a1).bind fun r34 => some (r34.1, (⟨a0.kind, a0.a, (some r34.2)⟩ : Ab)) else some ([], a0)
theorem AV.ok {G R F} (b0_ : Nat) (a0 : Ab) (g0_ : Ab.G) (a1 : Str) (r : List Str × Ab) (hm : AV a0 a1 = some r) : CO Tryz.prog 23 [pt b0_ 0, vS a1] G R (Bk b0_ 63 [vI a0.kind, g0_.a.1, g0_.t.1] :: rO (Al.op g0_.a.2) g0_.a.1 a0.a :: rO (Ak.op g0_.t.2) g0_.t.1 a0.t :: F)
  (Ret fun u R' L' => ∃ (p0 : Value) (q0 : Ab.G), u = p0 ∧ R' = R ∧ L' = OwS true 9 1 eS p0 r.1 :: Bk b0_ 63 [vI r.2.kind, q0.a.1, q0.t.1] :: rO (Al.op q0.a.2) q0.a.1 r.2.a :: rO (Ak.op q0.t.2) q0.t.1 r.2.t :: F) := by
 obtain ⟨⟨pv1, g2⟩, ⟨pv4, g5⟩⟩ := g0_
 unfold AV at hm
 refine co_ofN (N := 23) Tryz.func23 z z ?_
 refine csr ?_
 refine r_as z ?_
 refine nssr ?_
 refine r_mv z ?_
 refine r_c (s_w (o_call ca16 z (An.ok b0_ a0 (⟨(pv1, g2), (pv4, g5)⟩ : Ab.G) _ z))) ?_
 refine r_nil (x_seq (c_blk (csr ?_)))
 refine r_bin z z (bI_eq (An a0) 1) (r_as z ?_)
 refine nsq ?_
 refine c_if (b := ((An a0) == 1)) z (fun h6 => ?_) fun h6 => ?_
 ·have hm7 := ift hm h6
  clear hm
  refine c_seq ?_
  refine cd_st (fun _ h => mv1 h) ?_
  refine cd_opt (fun ho10 => ?_) (fun x8 b9 ho10 => ?_)
  ·rintro rfl
   have hm11 := om_n hm7 ho10
   clear hm7
   cases hm11
  rintro rfl
  have hm11 := om_s hm7 ho10
  clear hm7
  obtain ⟨⟨pv13, g14⟩⟩ := g2
  refine cd_st (fun _ h => st_star_o h) ?_
  refine c_reg ?_
  refine r_mv z (r_nc z (r_fa fa63_1 z (r_ld 2 sc60 z z z (r_mv z ?_))))
  obtain ⟨r15, hr15, hm21⟩ := bs hm11
  clear hm11
  refine r_sw (s_w (o_call ca56 z (CE.ok b9 x8 (⟨(pv13, g14)⟩ : Al.G) a1 r15 hr15))) ?_
  rintro v16 R _ _ ⟨_, ⟨⟨pv19, g20⟩⟩, rfl, rfl, rfl⟩
  refine r_as z ?_
  refine r_nil (x_seq (c_ret ?_))
  refine ex_st (fun _ h => mv2 (mv2 h)) ?_
  refine ex_st (fun _ h => st_some (f := Al.op (⟨(pv19, g20)⟩ : Al.G)) (a := r15.2) (st_star_f (A := Al.fl b9 r15.2 (⟨(pv19, g20)⟩ : Al.G)) h)) ?_
  obtain rfl := si hm21
  refine ex_st (fun _ h => st_pk 4 [1, 2, 0, 3] (by decide) h) ?_
  exact x_r1 z (rv_t z) (Le.refl _) ⟨_, z, v16, (⟨(pt b9 0, (⟨(pv19, g20)⟩ : Al.G)), (pv4, g5)⟩ : Ab.G), z, z, z⟩
 have hm7 := iff_ hm h6
 clear hm
 refine csr ?_
 refine r_bin z z (bI_eq (An a0) 2) (r_as z ?_)
 refine nsq ?_
 refine c_if (b := ((An a0) == 2)) z (fun h22 => ?_) fun h22 => ?_
 rotate_left
 ·have hm23 := iff_ hm7 h22
  clear hm7
  refine c_skip (x_blk (x_seq (csr ?_)))
  refine r_as z ?_
  refine r_nil (x_seq (c_ret ?_))
  refine ex_st (fun _ h => st_nil (ap := true) (T := 9) (sz := 1) (en := eS) h) ?_
  obtain rfl := si hm23
  exact x_r1 z (rv_t z) (Le.refl _) ⟨_, z, (.slice none 0 0), (⟨(pv1, g2), (pv4, g5)⟩ : Ab.G), z, z, z⟩
 have hm23 := ift hm7 h22
 clear hm7
 refine c_seq ?_
 refine cd_st (fun _ h => mv2 h) ?_
 refine cd_opt (fun ho26 => ?_) (fun x24 b25 ho26 => ?_)
 ·rintro rfl
  have hm27 := om_n hm23 ho26
  clear hm23
  cases hm27
 rintro rfl
 have hm27 := om_s hm23 ho26
 clear hm23
 obtain ⟨⟨pv29, g30⟩, ⟨pv32, g33⟩⟩ := g5
 refine cd_st (fun _ h => st_star_o h) ?_
 refine c_reg ?_
 refine r_mv z (r_nc z (r_fa fa63_2 z (r_ld 3 sc61 z z z (r_mv z ?_))))
 obtain ⟨r34, hr34, hm43⟩ := bs hm27
 clear hm27
 refine r_sw (s_w (o_call ca57 z (BU.ok b25 x24 (⟨(pv29, g30), (pv32, g33)⟩ : Ak.G) a1 r34 hr34))) ?_
 rintro v35 R _ _ ⟨_, ⟨⟨pv38, g39⟩, ⟨pv41, g42⟩⟩, rfl, rfl, rfl⟩
 refine r_as z ?_
 refine r_nil (x_seq (c_ret ?_))
 refine ex_st (fun _ h => mv3 (mv3 (mv3 h))) ?_
 refine ex_st (fun _ h => st_some (f := Ak.op (⟨(pv38, g39), (pv41, g42)⟩ : Ak.G)) (a := r34.2) (st_star_f (A := Ak.fl b25 r34.2 (⟨(pv38, g39), (pv41, g42)⟩ : Ak.G)) h)) ?_
 obtain rfl := si hm43
 refine ex_st (fun _ h => st_pk 4 [1, 2, 3, 0] (by decide) h) ?_
 exact x_r1 z (rv_t z) (Le.refl _) ⟨_, z, v35, (⟨(pv1, g2), (pt b25 0, (⟨(pv38, g39), (pv41, g42)⟩ : Ak.G))⟩ : Ab.G), z, z, z⟩
def AU (a0 : Ab) (a1 : Str) : Option Bool :=
 if ((An a0) == 1) then om a0.a (none) fun x8 => (CL x8 a1).bind fun r15 => some r15 else if ((An a0) == 2) then om a0.t (none) fun x19 => (Cp x19 a1).bind fun r29 => some r29 else some false
theorem AU.ok {G R F} (b0_ : Nat) (a0 : Ab) (g0_ : Ab.G) (a1 : Str) (r : Bool) (hm : AU a0 a1 = some r) : CO Tryz.prog 11 [pt b0_ 0, vS a1] G R (Bk b0_ 63 [vI a0.kind, g0_.a.1, g0_.t.1] :: rO (Al.op g0_.a.2) g0_.a.1 a0.a :: rO (Ak.op g0_.t.2) g0_.t.1 a0.t :: F)
  (Ret fun u R' L' => u = vB r ∧ R' = R ∧ L' = Bk b0_ 63 [vI a0.kind, g0_.a.1, g0_.t.1] :: rO (Al.op g0_.a.2) g0_.a.1 a0.a :: rO (Ak.op g0_.t.2) g0_.t.1 a0.t :: F) := by
 obtain ⟨⟨pv1, g2⟩, ⟨pv4, g5⟩⟩ := g0_
 unfold AU at hm
 refine co_ofN (N := 23) Tryz.func11 z z ?_
 refine csr ?_
 refine r_as z ?_
 refine nssr ?_
 refine r_mv z ?_
 refine r_c (s_w (o_call ca16 z (An.ok b0_ a0 (⟨(pv1, g2), (pv4, g5)⟩ : Ab.G) _ z))) ?_
 refine r_nil (x_seq (c_blk (csr ?_)))
 refine r_bin z z (bI_eq (An a0) 1) (r_as z ?_)
 refine nsq ?_
 refine c_if (b := ((An a0) == 1)) z (fun h6 => ?_) fun h6 => ?_
 ·have hm7 := ift hm h6
  clear hm
  refine c_seq ?_
  refine cd_st (fun _ h => mv1 h) ?_
  refine cd_opt (fun ho10 => ?_) (fun x8 b9 ho10 => ?_)
  ·rintro rfl
   have hm11 := om_n hm7 ho10
   clear hm7
   cases hm11
  rintro rfl
  have hm11 := om_s hm7 ho10
  clear hm7
  obtain ⟨⟨pv13, g14⟩⟩ := g2
  refine cd_st (fun _ h => st_star_o h) ?_
  refine c_reg ?_
  refine r_mv z (r_nc z (r_fa fa63_1 z (r_ld 2 sc60 z z z (r_mv z ?_))))
  obtain ⟨r15, hr15, hm16⟩ := bs hm11
  clear hm11
  refine r_c (s_w (o_call ca37 z (CL.ok b9 x8 (⟨(pv13, g14)⟩ : Al.G) a1 r15 hr15))) ?_
  refine r_as z ?_
  refine r_nil (x_seq (c_ret ?_))
  refine ex_st (fun _ h => st_some (f := Al.op (⟨(pv13, g14)⟩ : Al.G)) (a := x8) (st_star_f (A := Al.fl b9 x8 (⟨(pv13, g14)⟩ : Al.G)) h)) ?_
  refine ex_st (fun _ h => st_back ho10 h) ?_
  obtain rfl := si hm16
  refine ex_st (fun _ h => st_pk 3 [1, 0, 2] (by decide) h) ?_
  exact x_r1 z (rv_t z) (Le.refl _) ⟨_, z, z, z, z⟩
 have hm7 := iff_ hm h6
 clear hm
 refine csr ?_
 refine r_bin z z (bI_eq (An a0) 2) (r_as z ?_)
 refine nsq ?_
 refine c_if (b := ((An a0) == 2)) z (fun h17 => ?_) fun h17 => ?_
 rotate_left
 ·have hm18 := iff_ hm7 h17
  clear hm7
  refine c_skip (x_blk (x_seq (csr ?_)))
  refine r_as z ?_
  refine r_nil (x_seq (c_ret ?_))
  obtain rfl := si hm18
  exact x_r1 z (rv_t z) (Le.refl _) ⟨_, z, z, z, z⟩
 have hm18 := ift hm7 h17
 clear hm7
 refine c_seq ?_
 refine cd_st (fun _ h => mv2 h) ?_
 refine cd_opt (fun ho21 => ?_) (fun x19 b20 ho21 => ?_)
 ·rintro rfl
  have hm22 := om_n hm18 ho21
  clear hm18
  cases hm22
 rintro rfl
 have hm22 := om_s hm18 ho21
 clear hm18
 obtain ⟨⟨pv24, g25⟩, ⟨pv27, g28⟩⟩ := g5
 refine cd_st (fun _ h => st_star_o h) ?_
 refine c_reg ?_
 refine r_mv z (r_nc z (r_fa fa63_2 z (r_ld 3 sc61 z z z (r_mv z ?_))))
 obtain ⟨r29, hr29, hm30⟩ := bs hm22
 clear hm22
 refine r_c (s_w (o_call ca38 z (Cp.ok b20 x19 (⟨(pv24, g25), (pv27, g28)⟩ : Ak.G) a1 r29 hr29))) ?_
 refine r_as z ?_
 refine r_nil (x_seq (c_ret ?_))
 refine ex_st (fun _ h => st_some (f := Ak.op (⟨(pv24, g25), (pv27, g28)⟩ : Ak.G)) (a := x19) (st_star_f (A := Ak.fl b20 x19 (⟨(pv24, g25), (pv27, g28)⟩ : Ak.G)) h)) ?_
 refine ex_st (fun _ h => st_back ho21 h) ?_
 obtain rfl := si hm30
 refine ex_st (fun _ h => st_pk 3 [1, 2, 0] (by decide) h) ?_
 exact x_r1 z (rv_t z) (Le.refl _) ⟨_, z, z, z, z⟩
def Cu (a0 : Ab) : Option Int :=
 if ((An a0) == 1) then om a0.a (none) fun x8 => (B0 x8).bind fun r15 => some r15 else if ((An a0) == 2) then om a0.t (none) fun x19 => (AI x19).bind fun r29 => some r29 else some 0
theorem Cu.ok {G R F} (b0_ : Nat) (a0 : Ab) (g0_ : Ab.G) (r : Int) (hm : Cu a0 = some r) : CO Tryz.prog 9 [pt b0_ 0] G R (Bk b0_ 63 [vI a0.kind, g0_.a.1, g0_.t.1] :: rO (Al.op g0_.a.2) g0_.a.1 a0.a :: rO (Ak.op g0_.t.2) g0_.t.1 a0.t :: F)
  (Ret fun u R' L' => u = vI r ∧ R' = R ∧ L' = Bk b0_ 63 [vI a0.kind, g0_.a.1, g0_.t.1] :: rO (Al.op g0_.a.2) g0_.a.1 a0.a :: rO (Ak.op g0_.t.2) g0_.t.1 a0.t :: F) := by
 obtain ⟨⟨pv1, g2⟩, ⟨pv4, g5⟩⟩ := g0_
 unfold Cu at hm
 refine co_ofN (N := 19) Tryz.func9 z z ?_
 refine csr ?_
 refine r_as z ?_
 refine nssr ?_
 refine r_mv z ?_
 refine r_c (s_w (o_call ca16 z (An.ok b0_ a0 (⟨(pv1, g2), (pv4, g5)⟩ : Ab.G) _ z))) ?_
 refine r_nil (x_seq (c_blk (csr ?_)))
 refine r_bin z z (bI_eq (An a0) 1) (r_as z ?_)
 refine nsq ?_
 refine c_if (b := ((An a0) == 1)) z (fun h6 => ?_) fun h6 => ?_
 ·have hm7 := ift hm h6
  clear hm
  refine c_seq ?_
  refine cd_st (fun _ h => mv1 h) ?_
  refine cd_opt (fun ho10 => ?_) (fun x8 b9 ho10 => ?_)
  ·rintro rfl
   have hm11 := om_n hm7 ho10
   clear hm7
   cases hm11
  rintro rfl
  have hm11 := om_s hm7 ho10
  clear hm7
  obtain ⟨⟨pv13, g14⟩⟩ := g2
  refine cd_st (fun _ h => st_star_o h) ?_
  refine c_reg ?_
  refine r_mv z (r_nc z (r_fa fa63_1 z (r_ld 2 sc60 z z z ?_)))
  obtain ⟨r15, hr15, hm16⟩ := bs hm11
  clear hm11
  refine r_c (s_w (o_call ca33 z (B0.ok b9 x8 (⟨(pv13, g14)⟩ : Al.G) r15 hr15))) ?_
  refine r_as z ?_
  refine r_nil (x_seq (c_ret ?_))
  refine ex_st (fun _ h => st_some (f := Al.op (⟨(pv13, g14)⟩ : Al.G)) (a := x8) (st_star_f (A := Al.fl b9 x8 (⟨(pv13, g14)⟩ : Al.G)) h)) ?_
  refine ex_st (fun _ h => st_back ho10 h) ?_
  obtain rfl := si hm16
  refine ex_st (fun _ h => st_pk 3 [1, 0, 2] (by decide) h) ?_
  exact x_r1 z (rv_t z) (Le.refl _) ⟨_, z, z, z, z⟩
 have hm7 := iff_ hm h6
 clear hm
 refine csr ?_
 refine r_bin z z (bI_eq (An a0) 2) (r_as z ?_)
 refine nsq ?_
 refine c_if (b := ((An a0) == 2)) z (fun h17 => ?_) fun h17 => ?_
 rotate_left
 ·have hm18 := iff_ hm7 h17
  clear hm7
  refine c_skip (x_blk (x_seq (csr ?_)))
  refine r_as z ?_
  refine r_nil (x_seq (c_ret ?_))
  obtain rfl := si hm18
  exact x_r1 z (rv_t z) (Le.refl _) ⟨_, z, z, z, z⟩
 have hm18 := ift hm7 h17
 clear hm7
 refine c_seq ?_
 refine cd_st (fun _ h => mv2 h) ?_
 refine cd_opt (fun ho21 => ?_) (fun x19 b20 ho21 => ?_)
 ·rintro rfl
  have hm22 := om_n hm18 ho21
  clear hm18
  cases hm22
 rintro rfl
 have hm22 := om_s hm18 ho21
 clear hm18
 obtain ⟨⟨pv24, g25⟩, ⟨pv27, g28⟩⟩ := g5
 refine cd_st (fun _ h => st_star_o h) ?_
 refine c_reg ?_
 refine r_mv z (r_nc z (r_fa fa63_2 z (r_ld 3 sc61 z z z ?_)))
 obtain ⟨r29, hr29, hm30⟩ := bs hm22
 clear hm22
 refine r_c (s_w (o_call ca34 z (AI.ok b20 x19 (⟨(pv24, g25), (pv27, g28)⟩ : Ak.G) r29 hr29))) ?_
 refine r_as z ?_
 refine r_nil (x_seq (c_ret ?_))
 refine ex_st (fun _ h => st_some (f := Ak.op (⟨(pv24, g25), (pv27, g28)⟩ : Ak.G)) (a := x19) (st_star_f (A := Ak.fl b20 x19 (⟨(pv24, g25), (pv27, g28)⟩ : Ak.G)) h)) ?_
 refine ex_st (fun _ h => st_back ho21 h) ?_
 obtain rfl := si hm30
 refine ex_st (fun _ h => st_pk 3 [1, 2, 0] (by decide) h) ?_
 exact x_r1 z (rv_t z) (Le.refl _) ⟨_, z, z, z, z⟩
def Bb (a0 : Ab) (a1 : Str) : Option (Bool × Ab) :=
 if ((An a0) == 1) then om a0.a (none) fun x8 => (Ce x8 a1).bind fun r15 => some (r15.1, (⟨a0.kind, (some r15.2), a0.t⟩ : Ab)) else if ((An a0) == 2) then om a0.t (none) fun x23 => (B7 x23 a1).bind fun r33 => some (r33.1, (⟨a0.kind, a0.a, (some r33.2)⟩ : Ab)) else some (false, a0)
theorem Bb.ok {G R F} (b0_ : Nat) (a0 : Ab) (g0_ : Ab.G) (a1 : Str) (r : Bool × Ab) (hm : Bb a0 a1 = some r) : CO Tryz.prog 18 [pt b0_ 0, vS a1] G R (Bk b0_ 63 [vI a0.kind, g0_.a.1, g0_.t.1] :: rO (Al.op g0_.a.2) g0_.a.1 a0.a :: rO (Ak.op g0_.t.2) g0_.t.1 a0.t :: F)
  (Ret fun u R' L' => ∃ (q0 : Ab.G), u = vB r.1 ∧ R' = R ∧ L' = Bk b0_ 63 [vI r.2.kind, q0.a.1, q0.t.1] :: rO (Al.op q0.a.2) q0.a.1 r.2.a :: rO (Ak.op q0.t.2) q0.t.1 r.2.t :: F) := by
 obtain ⟨⟨pv1, g2⟩, ⟨pv4, g5⟩⟩ := g0_
 unfold Bb at hm
 refine co_ofN (N := 23) Tryz.func18 z z ?_
 refine csr ?_
 refine r_as z ?_
 refine nssr ?_
 refine r_mv z ?_
 refine r_c (s_w (o_call ca16 z (An.ok b0_ a0 (⟨(pv1, g2), (pv4, g5)⟩ : Ab.G) _ z))) ?_
 refine r_nil (x_seq (c_blk (csr ?_)))
 refine r_bin z z (bI_eq (An a0) 1) (r_as z ?_)
 refine nsq ?_
 refine c_if (b := ((An a0) == 1)) z (fun h6 => ?_) fun h6 => ?_
 ·have hm7 := ift hm h6
  clear hm
  refine c_seq ?_
  refine cd_st (fun _ h => mv1 h) ?_
  refine cd_opt (fun ho10 => ?_) (fun x8 b9 ho10 => ?_)
  ·rintro rfl
   have hm11 := om_n hm7 ho10
   clear hm7
   cases hm11
  rintro rfl
  have hm11 := om_s hm7 ho10
  clear hm7
  obtain ⟨⟨pv13, g14⟩⟩ := g2
  refine cd_st (fun _ h => st_star_o h) ?_
  refine c_reg ?_
  refine r_mv z (r_nc z (r_fa fa63_1 z (r_ld 2 sc60 z z z (r_mv z ?_))))
  obtain ⟨r15, hr15, hm20⟩ := bs hm11
  clear hm11
  refine r_sw (s_w (o_call ca49 z (Ce.ok b9 x8 (⟨(pv13, g14)⟩ : Al.G) a1 r15 hr15))) ?_
  rintro _ R _ _ ⟨⟨⟨pv18, g19⟩⟩, rfl, rfl, rfl⟩
  refine r_as z ?_
  refine r_nil (x_seq (c_ret ?_))
  refine ex_st (fun _ h => st_some (f := Al.op (⟨(pv18, g19)⟩ : Al.G)) (a := r15.2) (st_star_f (A := Al.fl b9 r15.2 (⟨(pv18, g19)⟩ : Al.G)) h)) ?_
  obtain rfl := si hm20
  refine ex_st (fun _ h => st_pk 3 [1, 0, 2] (by decide) h) ?_
  exact x_r1 z (rv_t z) (Le.refl _) ⟨_, z, (⟨(pt b9 0, (⟨(pv18, g19)⟩ : Al.G)), (pv4, g5)⟩ : Ab.G), z, z, z⟩
 have hm7 := iff_ hm h6
 clear hm
 refine csr ?_
 refine r_bin z z (bI_eq (An a0) 2) (r_as z ?_)
 refine nsq ?_
 refine c_if (b := ((An a0) == 2)) z (fun h21 => ?_) fun h21 => ?_
 rotate_left
 ·have hm22 := iff_ hm7 h21
  clear hm7
  refine c_skip (x_blk (x_seq (csr ?_)))
  refine r_as z ?_
  refine r_nil (x_seq (c_ret ?_))
  obtain rfl := si hm22
  exact x_r1 z (rv_t z) (Le.refl _) ⟨_, z, (⟨(pv1, g2), (pv4, g5)⟩ : Ab.G), z, z, z⟩
 have hm22 := ift hm7 h21
 clear hm7
 refine c_seq ?_
 refine cd_st (fun _ h => mv2 h) ?_
 refine cd_opt (fun ho25 => ?_) (fun x23 b24 ho25 => ?_)
 ·rintro rfl
  have hm26 := om_n hm22 ho25
  clear hm22
  cases hm26
 rintro rfl
 have hm26 := om_s hm22 ho25
 clear hm22
 obtain ⟨⟨pv28, g29⟩, ⟨pv31, g32⟩⟩ := g5
 refine cd_st (fun _ h => st_star_o h) ?_
 refine c_reg ?_
 refine r_mv z (r_nc z (r_fa fa63_2 z (r_ld 3 sc61 z z z (r_mv z ?_))))
 obtain ⟨r33, hr33, hm41⟩ := bs hm26
 clear hm26
 refine r_sw (s_w (o_call ca50 z (B7.ok b24 x23 (⟨(pv28, g29), (pv31, g32)⟩ : Ak.G) a1 r33 hr33))) ?_
 rintro _ R _ _ ⟨⟨⟨pv36, g37⟩, ⟨pv39, g40⟩⟩, rfl, rfl, rfl⟩
 refine r_as z ?_
 refine r_nil (x_seq (c_ret ?_))
 refine ex_st (fun _ h => st_some (f := Ak.op (⟨(pv36, g37), (pv39, g40)⟩ : Ak.G)) (a := r33.2) (st_star_f (A := Ak.fl b24 r33.2 (⟨(pv36, g37), (pv39, g40)⟩ : Ak.G)) h)) ?_
 obtain rfl := si hm41
 refine ex_st (fun _ h => st_pk 3 [1, 2, 0] (by decide) h) ?_
 exact x_r1 z (rv_t z) (Le.refl _) ⟨_, z, (⟨(pv1, g2), (pt b24 0, (⟨(pv36, g37), (pv39, g40)⟩ : Ak.G))⟩ : Ab.G), z, z, z⟩
def CK  : Option Bool :=
 (CM 1 2 1).bind fun r0 => (CM 2 2 1).bind fun r5 => om r0.1 (none) fun x10 => (AV x10 [120]).bind fun r20 => om r5.1 (none) fun x30 => (AV x30 [120]).bind fun r40 => if ((r0.2 == 0) && (r5.2 == 0)) then (AU r20.2 [120]).bind fun r52 => if r52 then (AU r40.2 [120]).bind fun r56 => if r56 then if ((An r20.2) == 1) then if ((An r40.2) == 2) then (Cu r20.2).bind fun r64 => if (r64 == 1) then (Bb r40.2 [120]).bind fun r68 => some r68.1 else some false else some false else some false else some false else some false else some false
theorem CK.ok {G R F} (r : Bool) (hm : CK = some r) : CO Tryz.prog 7 [] G R (F)
  (Ret fun u R' L' => u = vB r ∧ R' = R ∧ L' = F) := by
 unfold CK at hm
 refine co_ofN (N := 50) Tryz.func7 z z ?_
 refine csr ?_
 refine r_as z ?_
 refine nsr ?_
 obtain ⟨r0, hr0, hm4⟩ := bs hm
 clear hm
 refine r_sw (s_w (o_call ca5 z (CM.ok 1 2 1 r0 hr0))) ?_
 rintro _ R _ _ ⟨⟨pv2, g3⟩, rfl, rfl, rfl⟩
 refine r_mv z ?_
 refine r_ext z z ?_
 refine r_ext z z (r_as z (r_as z ?_))
 refine nsr ?_
 obtain ⟨r5, hr5, hm9⟩ := bs hm4
 clear hm4
 refine r_sw (s_w (o_call ca5 z (CM.ok 2 2 1 r5 hr5))) ?_
 rintro _ R _ _ ⟨⟨pv7, g8⟩, rfl, rfl, rfl⟩
 refine r_mv z ?_
 refine r_ext z z ?_
 refine r_ext z z (r_as z (r_as z ?_))
 refine r_nil (x_seq (c_seq ?_))
 refine cd_st (fun _ h => mv1 h) ?_
 refine cd_opt (fun ho12 => ?_) (fun x10 b11 ho12 => ?_)
 ·rintro rfl
  have hm13 := om_n hm9 ho12
  clear hm9
  cases hm13
 rintro rfl
 have hm13 := om_s hm9 ho12
 clear hm9
 obtain ⟨⟨pv15, g16⟩, ⟨pv18, g19⟩⟩ := g3
 refine cd_st (fun _ h => st_star_o h) ?_
 refine c_reg ?_
 refine r_mv z ?_
 obtain ⟨r20, hr20, hm29⟩ := bs hm13
 clear hm13
 refine r_sw (s_w (o_call ca23 z (AV.ok b11 x10 (⟨(pv15, g16), (pv18, g19)⟩ : Ab.G) [120] r20 hr20))) ?_
 rintro v21 R _ _ ⟨_, ⟨⟨pv24, g25⟩, ⟨pv27, g28⟩⟩, rfl, rfl, rfl⟩
 refine r_nil (x_seq (c_seq ?_))
 refine cd_st (fun _ h => mv4 h) ?_
 refine cd_opt (fun ho32 => ?_) (fun x30 b31 ho32 => ?_)
 ·rintro rfl
  have hm33 := om_n hm29 ho32
  clear hm29
  cases hm33
 rintro rfl
 have hm33 := om_s hm29 ho32
 clear hm29
 obtain ⟨⟨pv35, g36⟩, ⟨pv38, g39⟩⟩ := g8
 refine cd_st (fun _ h => st_star_o h) ?_
 refine c_reg ?_
 refine r_mv z ?_
 obtain ⟨r40, hr40, hm49⟩ := bs hm33
 clear hm33
 refine r_sw (s_w (o_call ca23 z (AV.ok b31 x30 (⟨(pv35, g36), (pv38, g39)⟩ : Ab.G) [120] r40 hr40))) ?_
 rintro v41 R _ _ ⟨_, ⟨⟨pv44, g45⟩, ⟨pv47, g48⟩⟩, rfl, rfl, rfl⟩
 refine r_nil (x_seq (c_seq ?_))
 refine cd_by ((r0.2 == 0) && (r5.2 == 0)) (fun h50 => ?_) fun h50 => ?_
 rotate_left
 ·have hm51 := iff_ hm49 h50
  clear hm49
  refine c_reg ?_
  refine r_mv z (r_bin z z (bI_eq r0.2 0) (r_mv z ?_))
  refine r_s (s_gt z z fun g => o_mv z) ?_
  refine r_s (s_gt z z fun g => o_bin (evg z g) z (bI_eq r5.2 0)) ?_
  refine r_u (o_and z z) (r_mv z ?_)
  refine r_s (s_n z z h50) ?_
  refine r_s (s_n z z h50) ?_
  refine r_u (o_pf z h50 z) (r_mv z ?_)
  refine r_s (s_n z z z) ?_
  refine r_s (s_n z z z) ?_
  refine r_u (o_pf z z z) (r_mv z ?_)
  refine r_s (s_n z z z) ?_
  refine r_s (s_n z z z) ?_
  refine r_s (s_n z z z) ?_
  refine r_u (o_pf z z z) (r_mv z ?_)
  refine r_s (s_n z z z) ?_
  refine r_s (s_n z z z) ?_
  refine r_s (s_n z z z) ?_
  refine r_u (o_pf z z z) (r_mv z ?_)
  refine r_s (s_n z z z) ?_
  refine r_s (s_n z z z) ?_
  refine r_s (s_n z z z) ?_
  refine r_u (o_pf z z z) (r_mv z ?_)
  refine r_s (s_n z z z) ?_
  refine r_s (s_n z z z) ?_
  refine r_u (o_pf z z z) (r_as z ?_)
  refine r_nil (x_seq (c_ret ?_))
  obtain rfl := si hm51
  refine ex_st (fun _ h => st_pk 8 [] (by decide) h) ?_
  exact x_r1 z (rv_t z) (Le.refl _) ⟨_, z, z, z, z⟩
 have hm51 := ift hm49 h50
 clear hm49
 obtain ⟨r52, hr52, hm53⟩ := bs hm51
 clear hm51
 refine cd_by r52 (fun h54 => ?_) fun h54 => ?_
 rotate_left
 ·have hm55 := iff_ hm53 h54
  clear hm53
  refine c_reg ?_
  refine r_mv z (r_bin z z (bI_eq r0.2 0) (r_mv z ?_))
  refine r_s (s_gt z z fun g => o_mv z) ?_
  refine r_s (s_gt z z fun g => o_bin (evg z g) z (bI_eq r5.2 0)) ?_
  refine r_u (o_and z z) (r_mv z ?_)
  refine r_s (s_y z z h50 (o_mv z)) ?_
  refine rl_st (fun _ h => mv7 (mv7 (mv7 h))) ?_
  refine r_c (s_yw z z h50 (o_call ca11 z (AU.ok b11 r20.2 (⟨(pv24, g25), (pv27, g28)⟩ : Ab.G) [120] r52 hr52))) ?_
  refine r_u (o_pt z h50 z) (r_mv z ?_)
  refine r_s (s_n z z h54) ?_
  refine r_s (s_n z z h54) ?_
  refine r_u (o_pf z h54 z) (r_mv z ?_)
  refine r_s (s_n z z z) ?_
  refine r_s (s_n z z z) ?_
  refine r_s (s_n z z z) ?_
  refine r_u (o_pf z z z) (r_mv z ?_)
  refine r_s (s_n z z z) ?_
  refine r_s (s_n z z z) ?_
  refine r_s (s_n z z z) ?_
  refine r_u (o_pf z z z) (r_mv z ?_)
  refine r_s (s_n z z z) ?_
  refine r_s (s_n z z z) ?_
  refine r_s (s_n z z z) ?_
  refine r_u (o_pf z z z) (r_mv z ?_)
  refine r_s (s_n z z z) ?_
  refine r_s (s_n z z z) ?_
  refine r_u (o_pf z z z) (r_as z ?_)
  refine r_nil (x_seq (c_ret ?_))
  obtain rfl := si hm55
  refine ex_st (fun _ h => st_pk 8 [] (by decide) h) ?_
  exact x_r1 z (rv_t z) (Le.refl _) ⟨_, z, z, z, z⟩
 have hm55 := ift hm53 h54
 clear hm53
 obtain ⟨r56, hr56, hm57⟩ := bs hm55
 clear hm55
 refine cd_by r56 (fun h58 => ?_) fun h58 => ?_
 rotate_left
 ·have hm59 := iff_ hm57 h58
  clear hm57
  refine c_reg ?_
  refine r_mv z (r_bin z z (bI_eq r0.2 0) (r_mv z ?_))
  refine r_s (s_gt z z fun g => o_mv z) ?_
  refine r_s (s_gt z z fun g => o_bin (evg z g) z (bI_eq r5.2 0)) ?_
  refine r_u (o_and z z) (r_mv z ?_)
  refine r_s (s_y z z h50 (o_mv z)) ?_
  refine rl_st (fun _ h => mv7 (mv7 (mv7 h))) ?_
  refine r_c (s_yw z z h50 (o_call ca11 z (AU.ok b11 r20.2 (⟨(pv24, g25), (pv27, g28)⟩ : Ab.G) [120] r52 hr52))) ?_
  refine r_u (o_pt z h50 z) (r_mv z ?_)
  refine r_s (s_y z z h54 (o_mv z)) ?_
  refine rl_st (fun _ h => mv6 (mv6 (mv6 h))) ?_
  refine r_c (s_yw z z h54 (o_call ca11 z (AU.ok b31 r40.2 (⟨(pv44, g45), (pv47, g48)⟩ : Ab.G) [120] r56 hr56))) ?_
  refine r_u (o_pt z h54 z) (r_mv z ?_)
  refine r_s (s_n z z h58) ?_
  refine r_s (s_n z z h58) ?_
  refine r_s (s_n z z h58) ?_
  refine r_u (o_pf z h58 z) (r_mv z ?_)
  refine r_s (s_n z z z) ?_
  refine r_s (s_n z z z) ?_
  refine r_s (s_n z z z) ?_
  refine r_u (o_pf z z z) (r_mv z ?_)
  refine r_s (s_n z z z) ?_
  refine r_s (s_n z z z) ?_
  refine r_s (s_n z z z) ?_
  refine r_u (o_pf z z z) (r_mv z ?_)
  refine r_s (s_n z z z) ?_
  refine r_s (s_n z z z) ?_
  refine r_u (o_pf z z z) (r_as z ?_)
  refine r_nil (x_seq (c_ret ?_))
  obtain rfl := si hm59
  refine ex_st (fun _ h => st_pk 8 [] (by decide) h) ?_
  exact x_r1 z (rv_t z) (Le.refl _) ⟨_, z, z, z, z⟩
 have hm59 := ift hm57 h58
 clear hm57
 refine cd_by ((An r20.2) == 1) (fun h60 => ?_) fun h60 => ?_
 rotate_left
 ·have hm61 := iff_ hm59 h60
  clear hm59
  refine c_reg ?_
  refine r_mv z (r_bin z z (bI_eq r0.2 0) (r_mv z ?_))
  refine r_s (s_gt z z fun g => o_mv z) ?_
  refine r_s (s_gt z z fun g => o_bin (evg z g) z (bI_eq r5.2 0)) ?_
  refine r_u (o_and z z) (r_mv z ?_)
  refine r_s (s_y z z h50 (o_mv z)) ?_
  refine rl_st (fun _ h => mv7 (mv7 (mv7 h))) ?_
  refine r_c (s_yw z z h50 (o_call ca11 z (AU.ok b11 r20.2 (⟨(pv24, g25), (pv27, g28)⟩ : Ab.G) [120] r52 hr52))) ?_
  refine r_u (o_pt z h50 z) (r_mv z ?_)
  refine r_s (s_y z z h54 (o_mv z)) ?_
  refine rl_st (fun _ h => mv6 (mv6 (mv6 h))) ?_
  refine r_c (s_yw z z h54 (o_call ca11 z (AU.ok b31 r40.2 (⟨(pv44, g45), (pv47, g48)⟩ : Ab.G) [120] r56 hr56))) ?_
  refine r_u (o_pt z h54 z) (r_mv z ?_)
  refine r_s (s_y z z h58 (o_mv z)) ?_
  refine rl_st (fun _ h => mv5 (mv5 (mv5 h))) ?_
  refine r_c (s_yw z z h58 (o_call ca16 z (An.ok b11 r20.2 (⟨(pv24, g25), (pv27, g28)⟩ : Ab.G) _ z))) ?_
  refine r_s (s_y z z h58 (o_bin z z (bI_eq (An r20.2) 1))) ?_
  refine r_u (o_pt z h58 z) (r_mv z ?_)
  refine r_s (s_n z z h60) ?_
  refine r_s (s_n z z h60) ?_
  refine r_s (s_n z z h60) ?_
  refine r_u (o_pf z h60 z) (r_mv z ?_)
  refine r_s (s_n z z z) ?_
  refine r_s (s_n z z z) ?_
  refine r_s (s_n z z z) ?_
  refine r_u (o_pf z z z) (r_mv z ?_)
  refine r_s (s_n z z z) ?_
  refine r_s (s_n z z z) ?_
  refine r_u (o_pf z z z) (r_as z ?_)
  refine r_nil (x_seq (c_ret ?_))
  obtain rfl := si hm61
  refine ex_st (fun _ h => st_pk 8 [] (by decide) h) ?_
  exact x_r1 z (rv_t z) (Le.refl _) ⟨_, z, z, z, z⟩
 have hm61 := ift hm59 h60
 clear hm59
 refine cd_by ((An r40.2) == 2) (fun h62 => ?_) fun h62 => ?_
 rotate_left
 ·have hm63 := iff_ hm61 h62
  clear hm61
  refine c_reg ?_
  refine r_mv z (r_bin z z (bI_eq r0.2 0) (r_mv z ?_))
  refine r_s (s_gt z z fun g => o_mv z) ?_
  refine r_s (s_gt z z fun g => o_bin (evg z g) z (bI_eq r5.2 0)) ?_
  refine r_u (o_and z z) (r_mv z ?_)
  refine r_s (s_y z z h50 (o_mv z)) ?_
  refine rl_st (fun _ h => mv7 (mv7 (mv7 h))) ?_
  refine r_c (s_yw z z h50 (o_call ca11 z (AU.ok b11 r20.2 (⟨(pv24, g25), (pv27, g28)⟩ : Ab.G) [120] r52 hr52))) ?_
  refine r_u (o_pt z h50 z) (r_mv z ?_)
  refine r_s (s_y z z h54 (o_mv z)) ?_
  refine rl_st (fun _ h => mv6 (mv6 (mv6 h))) ?_
  refine r_c (s_yw z z h54 (o_call ca11 z (AU.ok b31 r40.2 (⟨(pv44, g45), (pv47, g48)⟩ : Ab.G) [120] r56 hr56))) ?_
  refine r_u (o_pt z h54 z) (r_mv z ?_)
  refine r_s (s_y z z h58 (o_mv z)) ?_
  refine rl_st (fun _ h => mv5 (mv5 (mv5 h))) ?_
  refine r_c (s_yw z z h58 (o_call ca16 z (An.ok b11 r20.2 (⟨(pv24, g25), (pv27, g28)⟩ : Ab.G) _ z))) ?_
  refine r_s (s_y z z h58 (o_bin z z (bI_eq (An r20.2) 1))) ?_
  refine r_u (o_pt z h58 z) (r_mv z ?_)
  refine r_s (s_y z z h60 (o_mv z)) ?_
  refine rl_st (fun _ h => mv5 (mv5 (mv5 h))) ?_
  refine r_c (s_yw z z h60 (o_call ca16 z (An.ok b31 r40.2 (⟨(pv44, g45), (pv47, g48)⟩ : Ab.G) _ z))) ?_
  refine r_s (s_y z z h60 (o_bin z z (bI_eq (An r40.2) 2))) ?_
  refine r_u (o_pt z h60 z) (r_mv z ?_)
  refine r_s (s_n z z h62) ?_
  refine r_s (s_n z z h62) ?_
  refine r_s (s_n z z h62) ?_
  refine r_u (o_pf z h62 z) (r_mv z ?_)
  refine r_s (s_n z z z) ?_
  refine r_s (s_n z z z) ?_
  refine r_u (o_pf z z z) (r_as z ?_)
  refine r_nil (x_seq (c_ret ?_))
  obtain rfl := si hm63
  refine ex_st (fun _ h => st_pk 8 [] (by decide) h) ?_
  exact x_r1 z (rv_t z) (Le.refl _) ⟨_, z, z, z, z⟩
 have hm63 := ift hm61 h62
 clear hm61
 obtain ⟨r64, hr64, hm65⟩ := bs hm63
 clear hm63
 refine cd_by (r64 == 1) (fun h66 => ?_) fun h66 => ?_
 ·have hm67 := ift hm65 h66
  clear hm65
  refine c_reg ?_
  refine r_mv z (r_bin z z (bI_eq r0.2 0) (r_mv z ?_))
  refine r_s (s_gt z z fun g => o_mv z) ?_
  refine r_s (s_gt z z fun g => o_bin (evg z g) z (bI_eq r5.2 0)) ?_
  refine r_u (o_and z z) (r_mv z ?_)
  refine r_s (s_y z z h50 (o_mv z)) ?_
  refine rl_st (fun _ h => mv7 (mv7 (mv7 h))) ?_
  refine r_c (s_yw z z h50 (o_call ca11 z (AU.ok b11 r20.2 (⟨(pv24, g25), (pv27, g28)⟩ : Ab.G) [120] r52 hr52))) ?_
  refine r_u (o_pt z h50 z) (r_mv z ?_)
  refine r_s (s_y z z h54 (o_mv z)) ?_
  refine rl_st (fun _ h => mv6 (mv6 (mv6 h))) ?_
  refine r_c (s_yw z z h54 (o_call ca11 z (AU.ok b31 r40.2 (⟨(pv44, g45), (pv47, g48)⟩ : Ab.G) [120] r56 hr56))) ?_
  refine r_u (o_pt z h54 z) (r_mv z ?_)
  refine r_s (s_y z z h58 (o_mv z)) ?_
  refine rl_st (fun _ h => mv5 (mv5 (mv5 h))) ?_
  refine r_c (s_yw z z h58 (o_call ca16 z (An.ok b11 r20.2 (⟨(pv24, g25), (pv27, g28)⟩ : Ab.G) _ z))) ?_
  refine r_s (s_y z z h58 (o_bin z z (bI_eq (An r20.2) 1))) ?_
  refine r_u (o_pt z h58 z) (r_mv z ?_)
  refine r_s (s_y z z h60 (o_mv z)) ?_
  refine rl_st (fun _ h => mv5 (mv5 (mv5 h))) ?_
  refine r_c (s_yw z z h60 (o_call ca16 z (An.ok b31 r40.2 (⟨(pv44, g45), (pv47, g48)⟩ : Ab.G) _ z))) ?_
  refine r_s (s_y z z h60 (o_bin z z (bI_eq (An r40.2) 2))) ?_
  refine r_u (o_pt z h60 z) (r_mv z ?_)
  refine r_s (s_y z z h62 (o_mv z)) ?_
  refine rl_st (fun _ h => mv5 (mv5 (mv5 h))) ?_
  refine r_c (s_yw z z h62 (o_call ca9 z (Cu.ok b11 r20.2 (⟨(pv24, g25), (pv27, g28)⟩ : Ab.G) r64 hr64))) ?_
  refine r_s (s_y z z h62 (o_bin z z (bI_eq r64 1))) ?_
  refine r_u (o_pt z h62 z) (r_mv z ?_)
  refine r_s (s_y z z h66 (o_mv z)) ?_
  obtain ⟨r68, hr68, hm76⟩ := bs hm67
  clear hm67
  refine rl_st (fun _ h => mv5 (mv5 (mv5 h))) ?_
  refine r_sw (s_yw z z h66 (o_call ca18 z (Bb.ok b31 r40.2 (⟨(pv44, g45), (pv47, g48)⟩ : Ab.G) [120] r68 hr68))) ?_
  rintro _ R _ _ ⟨⟨⟨pv71, g72⟩, ⟨pv74, g75⟩⟩, rfl, rfl, rfl⟩
  refine r_u (o_pt z h66 z) (r_as z ?_)
  refine r_nil (x_seq (c_ret ?_))
  obtain rfl := si hm76
  refine ex_st (fun _ h => st_pk 8 [] (by decide) h) ?_
  exact x_r1 z (rv_t z) (Le.refl _) ⟨_, z, z, z, z⟩
 have hm67 := iff_ hm65 h66
 clear hm65
 refine c_reg ?_
 refine r_mv z (r_bin z z (bI_eq r0.2 0) (r_mv z ?_))
 refine r_s (s_gt z z fun g => o_mv z) ?_
 refine r_s (s_gt z z fun g => o_bin (evg z g) z (bI_eq r5.2 0)) ?_
 refine r_u (o_and z z) (r_mv z ?_)
 refine r_s (s_y z z h50 (o_mv z)) ?_
 refine rl_st (fun _ h => mv7 (mv7 (mv7 h))) ?_
 refine r_c (s_yw z z h50 (o_call ca11 z (AU.ok b11 r20.2 (⟨(pv24, g25), (pv27, g28)⟩ : Ab.G) [120] r52 hr52))) ?_
 refine r_u (o_pt z h50 z) (r_mv z ?_)
 refine r_s (s_y z z h54 (o_mv z)) ?_
 refine rl_st (fun _ h => mv6 (mv6 (mv6 h))) ?_
 refine r_c (s_yw z z h54 (o_call ca11 z (AU.ok b31 r40.2 (⟨(pv44, g45), (pv47, g48)⟩ : Ab.G) [120] r56 hr56))) ?_
 refine r_u (o_pt z h54 z) (r_mv z ?_)
 refine r_s (s_y z z h58 (o_mv z)) ?_
 refine rl_st (fun _ h => mv5 (mv5 (mv5 h))) ?_
 refine r_c (s_yw z z h58 (o_call ca16 z (An.ok b11 r20.2 (⟨(pv24, g25), (pv27, g28)⟩ : Ab.G) _ z))) ?_
 refine r_s (s_y z z h58 (o_bin z z (bI_eq (An r20.2) 1))) ?_
 refine r_u (o_pt z h58 z) (r_mv z ?_)
 refine r_s (s_y z z h60 (o_mv z)) ?_
 refine rl_st (fun _ h => mv5 (mv5 (mv5 h))) ?_
 refine r_c (s_yw z z h60 (o_call ca16 z (An.ok b31 r40.2 (⟨(pv44, g45), (pv47, g48)⟩ : Ab.G) _ z))) ?_
 refine r_s (s_y z z h60 (o_bin z z (bI_eq (An r40.2) 2))) ?_
 refine r_u (o_pt z h60 z) (r_mv z ?_)
 refine r_s (s_y z z h62 (o_mv z)) ?_
 refine rl_st (fun _ h => mv5 (mv5 (mv5 h))) ?_
 refine r_c (s_yw z z h62 (o_call ca9 z (Cu.ok b11 r20.2 (⟨(pv24, g25), (pv27, g28)⟩ : Ab.G) r64 hr64))) ?_
 refine r_s (s_y z z h62 (o_bin z z (bI_eq r64 1))) ?_
 refine r_u (o_pt z h62 z) (r_mv z ?_)
 refine r_s (s_n z z h66) ?_
 refine r_s (s_n z z h66) ?_
 refine r_u (o_pf z h66 z) (r_as z ?_)
 refine r_nil (x_seq (c_ret ?_))
 obtain rfl := si hm67
 refine ex_st (fun _ h => st_pk 8 [] (by decide) h) ?_
 exact x_r1 z (rv_t z) (Le.refl _) ⟨_, z, z, z, z⟩
def B2 (a0 : Str) : Option Str :=
 if decide (80 < (a0.length : Int)) then (sl a0 0 80).bind fun s2 => some s2 else some a0
theorem B2.ok {G R F} (a0 : Str) (r : Str) (hm : B2 a0 = some r) : CO Tryz.prog 12 [vS a0] G R (F)
  (Ret fun u R' L' => u = vS r ∧ R' = R ∧ L' = F) := by
 unfold B2 at hm
 refine co_ofN (N := 9) Tryz.func12 z z ?_
 refine csr ?_
 refine r_as z ?_
 refine nssr ?_
 refine r_mv z (r_u (o_lenS Tryz.underlying9 z) (r_bin z z (bI_gt (a0.length : Int) 80) ?_))
 refine nsq ?_
 refine c_if (b := decide (80 < (a0.length : Int))) z (fun h0 => ?_) fun h0 => ?_
 ·have hm1 := ift hm h0
  clear hm
  refine csr ?_
  refine r_mv z ?_
  obtain ⟨s2, hs2, hm3⟩ := bs hm1
  clear hm1
  refine r_u (o_slS (i := 0) (j := 80) Tryz.underlying9 z z z hs2) (r_as z ?_)
  refine r_nil (x_seq (c_ret ?_))
  obtain rfl := si hm3
  exact x_r1 z (rv_t z) (Le.refl _) ⟨_, z, z, z, z⟩
 have hm1 := iff_ hm h0
 clear hm
 refine c_skip (x_seq (csr ?_))
 refine r_mv z (r_as z ?_)
 refine r_nil (x_seq (c_ret ?_))
 obtain rfl := si hm1
 exact x_r1 z (rv_t z) (Le.refl _) ⟨_, z, z, z, z⟩
def BO (a0 : Ac) (a1 : Str) (i_6 : Int) : Nat → Int → Option (Unit ⊕ (Unit ⊕ (Unit ⊕ (Int × Bool))))
 | 0, _ => none
 | k23 + 1, k_22 => (gi a0.L i_6).bind fun x28 => if decide (k_22 < (x28.length : Int)) then (gi x28 k_22).bind fun x33 => if (x33 == a1) then some (Sum.inr (Sum.inr (Sum.inr (i_6, true)))) else BO a0 a1 i_6 k23 (i64 (k_22 + 1)) else some (Sum.inl ())
def Bu (a0 : Ac) (a1 : Str) : Nat → Int → Option (Unit ⊕ (Int × Bool))
 | 0, _ => none
 | k7 + 1, i_6 => if decide (i_6 < (a0.L.length : Int)) then Option.bind (Option.bind (BO a0 a1 i_6 1100 0) fun (p17 : Unit ⊕ (Unit ⊕ (Unit ⊕ (Int × Bool)))) => (match p17 with | Sum.inl q18 => some (Sum.inl ()) | Sum.inr r => some r)) fun (p12 : Unit ⊕ (Unit ⊕ (Int × Bool))) => (match p12 with | Sum.inl q13 => Bu a0 a1 k7 (i64 (i_6 + 1)) | Sum.inr r => some r) else some (Sum.inl ())
def AG (a0 : Ac) (a1 : Str) : Option (Int × Bool) :=
 Option.bind (Bu a0 a1 (((a0.L.length : Int) - 0).toNat + 1) 0) fun (p1 : Unit ⊕ (Int × Bool)) => (match p1 with | Sum.inl q2 => some (0, false) | Sum.inr r => some r)
theorem AG.ok {G R F} (a0 : Ac) (g0_ : Ac.G) (h0 : Ac.ro R a0 g0_) (a1 : Str) (r : Int × Bool) (hm : AG a0 a1 = some r) : CO Tryz.prog 77 [.agg [g0_.L.1, vI a0.Places].toArray, vS a1] G R (F)
  (Ret fun u R' L' => u = .tuple #[vI r.1, vB r.2] ∧ R' = R ∧ L' = F) := by
 unfold AG at hm
 refine co_ofN (N := 36) Tryz.func77 z z ?_
 refine csr ?_
 refine r_new (o_bx [g0_.L.1, vI a0.Places] z z) fun b0 => ?_
 refine r_as z (r_as z ?_)
 refine nssr ?_
 refine r_as z ?_
 refine nsq ?_
 obtain ⟨p1, hp3, hm4⟩ := bs hm
 refine cd_joinS (p := p1) (Ef := fun q2 => []) (Lf := fun q2 => Bk b0 30 [g0_.L.1, vI a0.Places] :: F) (fun q2 hq => ?_) fun K5 => ?_
 ·subst hq
  try dsimp only at hm4
  refine x_seq (csr ?_)
  refine r_as z (r_as z ?_)
  refine r_nil (x_seq (c_ret ?_))
  obtain rfl := si hm4
  refine ex_st (fun _ h => st_pk 1 [] (by decide) h) ?_
  exact x_r2 z (rv_t z) (rv_t z) (Le.refl _) ⟨_, z, z, z, z⟩
 refine c_blk ?_
 refine cd_loop (M := fun k7 (i_6 : Int) => Bu a0 a1 k7 i_6 = some p1) (Ef := fun (i_6 : Int) => [(1, vS a1), (2, pt b0 0), (6, vI i_6)]) (Lf := fun (i_6 : Int) => Bk b0 30 [g0_.L.1, vI a0.Places] :: F) (((a0.L.length : Int) - 0).toNat + 1) 0 hp3 ⟨z, z, z, trivial⟩ (fun _ h => h) (fun _ h => by cases h) fun k7 i_6 hM9 => ?_
 have hm8 : Bu a0 a1 (k7 + 1) i_6 = some p1 := hM9
 rw [Bu] at hm8
 refine c_seq (csr ?_)
 refine r_mv z (r_fa fa30_0 z (r_ld 0 sc28 z z z ?_))
 refine r_u (o_lenRN Tryz.underlying28 z h0) (r_bin z z (bI_lt i_6 (a0.L.length : Int)) ?_)
 refine nsq ?_
 refine c_if (b := decide (i_6 < (a0.L.length : Int))) z (fun h10 => ?_) fun h10 => ?_
 rotate_left
 ·have hm11 := iff_ hm8 h10
  clear hm8
  refine c_exit (x_exit (ks' := _) z ?_)
  obtain rfl := si hm11
  exact x_sub (K5 _ z) trivial (fun _ h => st_pk 1 [0] (by decide) h)
 have hm11 := ift hm8 h10
 clear hm8
 refine c_skip (x_seq (c_seq ?_))
 obtain ⟨p12, hp14, hm15⟩ := bs hm11
 refine cd_joinS (p := p12) (Ef := fun q13 => [(1, vS a1), (2, pt b0 0), (6, vI i_6)]) (Lf := fun q13 => Bk b0 30 [g0_.L.1, vI a0.Places] :: F) (fun q13 hq => ?_) fun K16 => ?_
 ·subst hq
  try dsimp only at hm15
  refine x_seq (c_reg ?_)
  refine r_mv z (r_bin z z (bI_add i_6 1) (r_as z ?_))
  refine r_nil ?_
  exact x_lp (i64 (i_6 + 1)) hm15 ⟨z, z, z, trivial⟩ (fun _ h => st_pk 1 [0] (by decide) h)
 refine c_blk (csr ?_)
 refine r_as z ?_
 refine nsq ?_
 obtain ⟨p17, hp19, hm20⟩ := bs hp14
 refine cd_joinS (p := p17) (Ef := fun q18 => [(1, vS a1), (2, pt b0 0), (6, vI i_6)]) (Lf := fun q18 => Bk b0 30 [g0_.L.1, vI a0.Places] :: F) (fun q18 hq => ?_) fun K21 => ?_
 ·subst hq
  try dsimp only at hm20
  refine x_blk ?_
  obtain rfl := si hm20
  exact x_sub (K16 _ z) ⟨z, z, z, trivial⟩ (fun _ h => st_pk 1 [0] (by decide) h)
 refine c_blk ?_
 refine cd_loop (M := fun k23 (k_22 : Int) => BO a0 a1 i_6 k23 k_22 = some p17) (Ef := fun (k_22 : Int) => [(1, vS a1), (2, pt b0 0), (6, vI i_6), (7, vI k_22)]) (Lf := fun (k_22 : Int) => Bk b0 30 [g0_.L.1, vI a0.Places] :: F) 1100 0 hp19 ⟨z, z, z, z, trivial⟩ (fun _ h => h) (fun _ h => by cases h) fun k23 k_22 hM27 => ?_
 have hm26 : BO a0 a1 i_6 (k23 + 1) k_22 = some p17 := hM27
 rw [BO] at hm26
 refine c_seq (csr ?_)
 refine r_mv z (r_fa fa30_0 z (r_ld 0 sc28 z z z (r_mv z ?_)))
 obtain ⟨x28, hx28, hm30⟩ := bs hm26
 clear hm26
 obtain ⟨b28, o28, l28, T28, fr28, c28, u29, hv28, hR28, he28, hi28, hN28⟩ := RoN.ne h0 hx28
 refine r_u (o_ix (sz := 1) Tryz.underlying28 (fun _ => by kernel_rfl) z z hv28 hi28) ?_
 refine r_u (o_ldR sc57 z hR28 (rok 0 he28 (by decide))) ?_
 refine r_u (o_lenR Tryz.underlying57 z hN28) (r_bin z z (bI_lt k_22 (x28.length : Int)) ?_)
 refine nsq ?_
 refine c_if (b := decide (k_22 < (x28.length : Int))) z (fun h31 => ?_) fun h31 => ?_
 rotate_left
 ·have hm32 := iff_ hm30 h31
  clear hm30
  refine c_exit (x_exit (ks' := _) z ?_)
  obtain rfl := si hm32
  exact x_sub (K21 _ z) ⟨z, z, z, trivial⟩ (fun _ h => st_pk 1 [0] (by decide) h)
 have hm32 := ift hm30 h31
 clear hm30
 refine c_skip (x_seq (c_seq (c_blk (csr ?_))))
 refine r_fa fa30_0 z (r_ld 0 sc28 z z z (r_mv z ?_))
 refine r_u (o_ix (sz := 1) Tryz.underlying28 (fun _ => by kernel_rfl) z z hv28 hi28) ?_
 refine r_u (o_ldR sc57 z hR28 (rok 0 he28 (by decide))) (r_mv z ?_)
 obtain ⟨x33, hx33, hm34⟩ := bs hm32
 clear hm32
 obtain ⟨b33, o33, l33, T33, fr33, c33, hv33, hR33, he33, hi33⟩ := RoS.ne hN28 hx33
 refine r_u (o_ix (sz := 1) Tryz.underlying57 (fun _ => by kernel_rfl) z z hv33 hi33) ?_
 refine r_u (o_ldR sc9 z hR33 (rok 0 he33 (by decide))) (r_mv z (r_bin z z (bS_eq x33 a1) ?_))
 refine nsq ?_
 refine c_if (b := (x33 == a1)) z (fun h35 => ?_) fun h35 => ?_
 ·have hm36 := ift hm34 h35
  clear hm34
  refine csr ?_
  refine r_mv z (r_as z (r_as z ?_))
  refine r_nil (x_seq (c_ret ?_))
  obtain rfl := si hm36
  try dsimp only at hm20
  obtain rfl := si hm20
  try dsimp only at hm15
  obtain rfl := si hm15
  try dsimp only at hm4
  obtain rfl := si hm4
  refine ex_st (fun _ h => st_pk 1 [] (by decide) h) ?_
  exact x_r2 z (rv_t z) (rv_t z) (Le.refl _) ⟨_, z, z, z, z⟩
 have hm36 := iff_ hm34 h35
 clear hm34
 refine c_skip (x_blk (x_seq (c_reg ?_)))
 refine r_mv z (r_bin z z (bI_add k_22 1) (r_as z ?_))
 refine r_nil ?_
 exact x_lp (i64 (k_22 + 1)) hm36 ⟨z, z, z, z, trivial⟩ (fun _ h => st_pk 1 [0] (by decide) h)
def A7 (a0 : Aa) (a1 : Str) : Option Bool :=
 (AG a0.R a1).bind fun r1 => some (r1.2 && decide (r1.1 < 2))
theorem A7.ok {G R F} (a0 : Aa) (g0_ : Aa.G) (h0 : Aa.ro R a0 g0_) (a1 : Str) (r : Bool) (hm : A7 a0 a1 = some r) : CO Tryz.prog 39 [.agg (Aa.k a0 g0_).toArray, vS a1] G R (F)
  (Ret fun u R' L' => u = vB r ∧ R' = R ∧ L' = F) := by
 unfold A7 at hm
 refine co_ofN (N := 19) Tryz.func39 z z ?_
 refine csr ?_
 refine r_new (o_bx (Aa.k a0 g0_) z z) fun b0 => ?_
 refine r_as z ?_
 refine nsr ?_
 refine r_fa fa32_2 z ?_
 refine r_u (o_ldn 0 [g0_.R.L.1, vI a0.R.Places] ag30 z z z z) (r_mv z ?_)
 obtain ⟨r1, hr1, hm2⟩ := bs hm
 clear hm
 refine r_u (o_callq ca77 z (AG.ok a0.R (⟨(g0_.R.L.1, [])⟩ : Ac.G) h0 a1 r1 hr1)) (r_mv z ?_)
 refine r_ext z z ?_
 refine r_ext z z (r_as z (r_as z ?_))
 refine nsr ?_
 refine r_mv z (r_mv z ?_)
 refine r_s (s_gt z z fun g => o_mv z) ?_
 refine r_s (s_gt z z fun g => o_bin (evg z g) z (bI_lt r1.1 2)) ?_
 refine r_u (o_and z z) (r_as z ?_)
 refine r_nil (x_seq (c_ret ?_))
 obtain rfl := si hm2
 refine ex_st (fun _ h => st_pk 1 [] (by decide) h) ?_
 exact x_r1 z (rv_t z) (Le.refl _) ⟨_, z, z, z, z⟩
def BA (a0 : Ac) : Nat → Int → Int → Option (Int)
 | 0, _, _ => none
 | k7 + 1, n_5, i_6 => if decide (i_6 < (a0.L.length : Int)) then (gi a0.L i_6).bind fun x12 => BA a0 k7 (i64 (n_5 + (x12.length : Int))) (i64 (i_6 + 1)) else some n_5
def Bm (a0 : Ac) : Option Int :=
 Option.bind (BA a0 (((a0.L.length : Int) - 0).toNat + 1) 0 0) fun p1 => some p1
theorem Bm.ok {G R F} (a0 : Ac) (g0_ : Ac.G) (h0 : Ac.ro R a0 g0_) (r : Int) (hm : Bm a0 = some r) : CO Tryz.prog 75 [.agg [g0_.L.1, vI a0.Places].toArray] G R (F)
  (Ret fun u R' L' => u = vI r ∧ R' = R ∧ L' = F) := by
 unfold Bm at hm
 refine co_ofN (N := 21) Tryz.func75 z z ?_
 refine csr ?_
 refine r_new (o_bx [g0_.L.1, vI a0.Places] z z) fun b0 => ?_
 refine r_as z ?_
 refine nsr ?_
 refine r_as z ?_
 refine nssr ?_
 refine r_as z ?_
 refine nsq ?_
 obtain ⟨p1, hp2, hm3⟩ := bs hm
 refine cd_join (E' := [(3, vI p1)]) (L' := Bk b0 30 [g0_.L.1, vI a0.Places] :: F) ?_ fun K4 => ?_
 ·refine x_seq (csr ?_)
  refine r_mv z (r_as z ?_)
  refine r_nil (x_seq (c_ret ?_))
  obtain rfl := si hm3
  refine ex_st (fun _ h => st_pk 1 [] (by decide) h) ?_
  exact x_r1 z (rv_t z) (Le.refl _) ⟨_, z, z, z, z⟩
 refine c_blk ?_
 refine cd_loop (M := fun k7 (s : Int × Int) => BA a0 k7 s.1 s.2 = some p1) (Ef := fun (s : Int × Int) => [(1, pt b0 0), (3, vI s.1), (4, vI s.2)]) (Lf := fun (s : Int × Int) => Bk b0 30 [g0_.L.1, vI a0.Places] :: F) (((a0.L.length : Int) - 0).toNat + 1) (0, 0) hp2 ⟨z, z, z, trivial⟩ (fun _ h => h) (fun _ h => by cases h) fun k7 s hM9 => ?_
 obtain ⟨n_5, i_6⟩ := s
 have hm8 : BA a0 (k7 + 1) n_5 i_6 = some p1 := hM9
 rw [BA] at hm8
 refine c_seq (csr ?_)
 refine r_mv z (r_fa fa30_0 z (r_ld 0 sc28 z z z ?_))
 refine r_u (o_lenRN Tryz.underlying28 z h0) (r_bin z z (bI_lt i_6 (a0.L.length : Int)) ?_)
 refine nsq ?_
 refine c_if (b := decide (i_6 < (a0.L.length : Int))) z (fun h10 => ?_) fun h10 => ?_
 ·have hm11 := ift hm8 h10
  clear hm8
  refine c_skip (x_seq (c_seq (c_blk (c_reg ?_))))
  refine r_mv z (r_fa fa30_0 z (r_ld 0 sc28 z z z (r_mv z ?_)))
  obtain ⟨x12, hx12, hm14⟩ := bs hm11
  clear hm11
  obtain ⟨b12, o12, l12, T12, fr12, c12, u13, hv12, hR12, he12, hi12, hN12⟩ := RoN.ne h0 hx12
  refine r_u (o_ix (sz := 1) Tryz.underlying28 (fun _ => by kernel_rfl) z z hv12 hi12) ?_
  refine r_u (o_ldR sc57 z hR12 (rok 0 he12 (by decide))) ?_
  refine r_u (o_lenR Tryz.underlying57 z hN12) (r_bin z z (bI_add n_5 (x12.length : Int)) (r_as z ?_))
  refine r_nil (x_blk (x_seq (c_reg ?_)))
  refine r_mv z (r_bin z z (bI_add i_6 1) (r_as z ?_))
  refine r_nil ?_
  exact x_lp (i64 (n_5 + (x12.length : Int)), i64 (i_6 + 1)) hm14 ⟨z, z, z, trivial⟩ (fun _ h => st_pk 1 [0] (by decide) h)
 have hm11 := iff_ hm8 h10
 clear hm8
 refine c_exit (x_exit (ks' := _) z ?_)
 obtain rfl := si hm11
 exact x_sub K4 ⟨z, trivial⟩ (fun _ h => st_pk 1 [0] (by decide) h)
def BB (a0 : Ac) (a1 : Str) (i_12 : Int) : Nat → (List Str) → Int → Option (List Str)
 | 0, _, _ => none
 | k37 + 1, l_34, k_35 => (gi a0.L i_12).bind fun x42 => if decide (k_35 < (x42.length : Int)) then (gi x42 k_35).bind fun x47 => Option.bind (if (x47 != a1) then (apd 16 l_34 [x47]).bind fun l58 => some l58 else some l_34) fun p49 => BB a0 a1 i_12 k37 p49 (i64 (k_35 + 1)) else some l_34
def BC (a0 : Ac) (a1 : Str) : Nat → Int → (List (List Str)) → Option (List (List Str))
 | 0, _, _ => none
 | k15 + 1, i_12, c_13 => if decide (i_12 < (a0.L.length : Int)) then Option.bind (Option.bind (BB a0 a1 i_12 1100 [] 0) fun p26 => (gi c_13 i_12).bind fun y31 => some (ls c_13 i_12 p26)) fun p20 => BC a0 a1 k15 (i64 (i_12 + 1)) p20 else some c_13
def Az (a0 : Ac) (a1 : Str) : Option Ac :=
 (Bf (a0.L.length : Int) a0.Places).bind fun r2 => Option.bind (BC a0 a1 (((a0.L.length : Int) - 0).toNat + 1) 0 r2.L) fun p7 => some (⟨p7, r2.Places⟩ : Ac)
theorem Az.ok {G R F} (a0 : Ac) (g0_ : Ac.G) (h0 : Ac.ro R a0 g0_) (a1 : Str) (r : Ac) (hm : Az a0 a1 = some r) : CO Tryz.prog 105 [.agg [g0_.L.1, vI a0.Places].toArray, vS a1] G R (F)
  (Ret fun u R' L' => ∃ (p0 : Ac.G), u = .agg [p0.L.1, vI r.Places].toArray ∧ R' = R ∧ L' = OwS true 57 1 eV p0.L.1 p0.L.2 :: OwL (OwS true 9 1 eS) p0.L.2 r.L :: F) := by
 unfold Az at hm
 refine co_ofN (N := 60) Tryz.func105 z z ?_
 refine csr ?_
 refine r_new (o_bx [g0_.L.1, vI a0.Places] z z) fun b0 => ?_
 refine r_new (o_al ze30) fun b1 => ?_
 refine nsr ?_
 refine r_fa fa30_0 z (r_ld 1 sc28 z z z ?_)
 refine r_u (o_lenRN Tryz.underlying28 z h0) (r_fa fa30_1 z (r_ld 1 sc3 z z z ?_))
 obtain ⟨r2, hr2, hm5⟩ := bs hm
 clear hm
 refine r_sw (s_w (o_call ca61 z (Bf.ok (a0.L.length : Int) a0.Places r2 hr2))) ?_
 rintro _ R _ _ ⟨v3, rfl, rfl, rfl⟩
 refine r_new (o_al ze30) fun b6 => ?_
 refine r_u0 (ou_if (one_o 1 z) fun ho0 => o_stn ag30 z z z (al_c ho0 (al_c z al_n)) z z z) ?_
 refine nssr ?_
 refine r_as z ?_
 refine nsq ?_
 obtain ⟨p7, hp9, hm10⟩ := bs hm5
 refine cd_cut (fun x ks => ∀ (hs8 : List Value), EX x .normal ks [(4, pt b1 0), (5, pt b6 0)] R (Bk b6 30 [v3.L.1, vI r2.Places] :: Bk b1 30 [.slice none 0 0, vI 0] :: Bk b0 30 [g0_.L.1, vI a0.Places] :: OwS true 57 1 eV v3.L.1 hs8 :: OwL (OwS true 9 1 eS) hs8 p7 :: F)) ?_ fun K11 => ?_
 ·intro hs8
  refine x_seq (csr ?_)
  refine r_u (o_ldn 0 [v3.L.1, vI r2.Places] ag30 z z z z) ?_
  refine rl_st (fun _ h => mv2 (mv3 h)) ?_
  refine r_u0 (ou_if (one_o 1 z) fun ho0 => o_stn ag30 z z z (al_c ho0 (al_c z al_n)) z z z) ?_
  refine r_nil (x_seq (c_ret ?_))
  obtain rfl := si hm10
  exact x_d1 z (rv_n 0 [v3.L.1, vI r2.Places] ag30 z z z z) (fun _ h => st_pk 5 [1, 4] (by decide) h) (Le.refl _) ⟨_, z, (⟨(v3.L.1, hs8)⟩ : Ac.G), z, z, z⟩
 refine c_blk ?_
 refine cd_loopG (M := fun k15 (s : Int × List (List Str) × List Value) => BC a0 a1 k15 s.1 s.2.1 = some p7) (Ef := fun (s : Int × List (List Str) × List Value) => [(1, vS a1), (2, pt b0 0), (4, pt b1 0), (5, pt b6 0), (6, vI s.1)]) (Rf := fun (s : Int × List (List Str) × List Value) => R) (Lf := fun (s : Int × List (List Str) × List Value) => Bk b6 30 [v3.L.1, vI r2.Places] :: Bk b1 30 [.slice none 0 0, vI 0] :: Bk b0 30 [g0_.L.1, vI a0.Places] :: OwS true 57 1 eV v3.L.1 s.2.2 :: OwL (OwS true 9 1 eS) s.2.2 s.2.1 :: F) (((a0.L.length : Int) - 0).toNat + 1) (0, r2.L, v3.L.2) hp9 ⟨z, z, z, z, z, trivial⟩ (fun _ h => st_pk 5 [0, 3, 4, 1, 2] (by decide) h) (fun _ h => by cases h) fun k15 s hM17 => ?_
 obtain ⟨i_12, c_13, hs14⟩ := s
 have hm16 : BC a0 a1 (k15 + 1) i_12 c_13 = some p7 := hM17
 rw [BC] at hm16
 refine c_seq (csr ?_)
 refine r_mv z (r_fa fa30_0 z (r_ld 2 sc28 z z z ?_))
 refine r_u (o_lenRN Tryz.underlying28 z h0) (r_bin z z (bI_lt i_12 (a0.L.length : Int)) ?_)
 refine nsq ?_
 refine c_if (b := decide (i_12 < (a0.L.length : Int))) z (fun h18 => ?_) fun h18 => ?_
 rotate_left
 ·have hm19 := iff_ hm16 h18
  clear hm16
  refine c_exit (x_exit (ks' := _) z ?_)
  obtain rfl := si hm19
  exact x_sub (K11 hs14) ⟨z, z, trivial⟩ (fun _ h => st_pk 5 [0, 1, 2, 3, 4] (by decide) h)
 have hm19 := ift hm16 h18
 clear hm16
 refine c_skip (x_seq (c_seq ?_))
 obtain ⟨p20, hp22, hm23⟩ := bs hm19
 refine cd_cut (fun x ks => ∀ (hs21 : List Value), EX x .normal ks [(1, vS a1), (2, pt b0 0), (4, pt b1 0), (5, pt b6 0), (6, vI i_12)] R (Bk b6 30 [v3.L.1, vI r2.Places] :: Bk b1 30 [.slice none 0 0, vI 0] :: Bk b0 30 [g0_.L.1, vI a0.Places] :: OwS true 57 1 eV v3.L.1 hs21 :: OwL (OwS true 9 1 eS) hs21 p20 :: F)) ?_ fun K24 => ?_
 ·intro hs21
  refine x_seq (c_reg ?_)
  refine r_mv z (r_bin z z (bI_add i_12 1) (r_as z ?_))
  refine r_nil ?_
  exact x_lp (i64 (i_12 + 1), p20, hs21) hm23 ⟨z, z, z, z, z, trivial⟩ (fun _ h => st_pk 5 [0, 1, 2, 3, 4] (by decide) h)
 refine c_blk (csr ?_)
 refine r_sw (s_w (o_bsl (en := eS) (sz := 1) (e := 9) (cs := []) (r := []) z (fun _ => by kernel_rfl) z (by decide) z (fun _ => z))) ?_
 rintro v25 R _ _ ⟨rfl, rfl⟩
 refine r_as z ?_
 refine nssr ?_
 refine r_as z ?_
 refine nsq ?_
 obtain ⟨p26, hp28, hm29⟩ := bs hp22
 refine cd_cut (fun x ks => ∀ (g27 : Value), EX x .normal ks [(1, vS a1), (2, pt b0 0), (4, pt b1 0), (5, pt b6 0), (6, vI i_12), (7, g27)] R (Bk b6 30 [v3.L.1, vI r2.Places] :: Bk b1 30 [.slice none 0 0, vI 0] :: Bk b0 30 [g0_.L.1, vI a0.Places] :: OwS true 57 1 eV v3.L.1 hs14 :: OwL (OwS true 9 1 eS) hs14 c_13 :: OwS true 9 1 eS g27 p26 :: F)) ?_ fun K30 => ?_
 ·intro g27
  refine x_seq (c_reg ?_)
  refine r_fa fa30_0 z (r_ld 0 sc28 z z z (r_mv z (r_mv z ?_)))
  obtain ⟨y31, hy31, hm33⟩ := bs hm29
  clear hm29
  refine rl_ex (fun w h => st_peek 4 hy31 z w h) fun u32 hu32 => ?_
  refine r_u (o_ixO 3 Tryz.underlying28 (fun _ => by kernel_rfl) z z z hu32) ?_
  refine rl_st (fun _ h => mv5 (mv5 (mv5 h))) ?_
  refine r_u0 (ou_if (one_o 2 z) fun ho => o_stH hy31 hu32 sc57 z z z ho) ?_
  refine r_nil (x_blk ?_)
  obtain rfl := si hm33
  exact x_sub (K24 (ls hs14 i_12 g27)) ⟨z, z, z, z, z, trivial⟩ (fun _ h => st_pk 5 [2, 3, 4, 0, 1] (by decide) h)
 refine c_blk ?_
 refine cd_loopG (M := fun k37 (s : List Str × Int × Value) => BB a0 a1 i_12 k37 s.1 s.2.1 = some p26) (Ef := fun (s : List Str × Int × Value) => [(1, vS a1), (2, pt b0 0), (4, pt b1 0), (5, pt b6 0), (6, vI i_12), (7, s.2.2), (8, vI s.2.1)]) (Rf := fun (s : List Str × Int × Value) => R) (Lf := fun (s : List Str × Int × Value) => Bk b6 30 [v3.L.1, vI r2.Places] :: Bk b1 30 [.slice none 0 0, vI 0] :: Bk b0 30 [g0_.L.1, vI a0.Places] :: OwS true 57 1 eV v3.L.1 hs14 :: OwL (OwS true 9 1 eS) hs14 c_13 :: OwS true 9 1 eS s.2.2 s.1 :: F) 1100 ([], 0, v25) hp28 ⟨z, z, z, z, z, z, z, trivial⟩ (fun _ h => st_pk 6 [1, 2, 3, 4, 5, 0] (by decide) h) (fun _ h => by cases h) fun k37 s hM41 => ?_
 obtain ⟨l_34, k_35, g36⟩ := s
 have hm40 : BB a0 a1 i_12 (k37 + 1) l_34 k_35 = some p26 := hM41
 rw [BB] at hm40
 refine c_seq (csr ?_)
 refine r_mv z (r_fa fa30_0 z (r_ld 2 sc28 z z z (r_mv z ?_)))
 obtain ⟨x42, hx42, hm44⟩ := bs hm40
 clear hm40
 obtain ⟨b42, o42, l42, T42, fr42, c42, u43, hv42, hR42, he42, hi42, hN42⟩ := RoN.ne h0 hx42
 refine r_u (o_ix (sz := 1) Tryz.underlying28 (fun _ => by kernel_rfl) z z hv42 hi42) ?_
 refine r_u (o_ldR sc57 z hR42 (rok 0 he42 (by decide))) ?_
 refine r_u (o_lenR Tryz.underlying57 z hN42) (r_bin z z (bI_lt k_35 (x42.length : Int)) ?_)
 refine nsq ?_
 refine c_if (b := decide (k_35 < (x42.length : Int))) z (fun h45 => ?_) fun h45 => ?_
 rotate_left
 ·have hm46 := iff_ hm44 h45
  clear hm44
  refine c_exit (x_exit (ks' := _) z ?_)
  obtain rfl := si hm46
  exact x_sub (K30 g36) ⟨z, z, z, z, z, z, trivial⟩ (fun _ h => st_pk 6 [0, 1, 2, 3, 4, 5] (by decide) h)
 have hm46 := ift hm44 h45
 clear hm44
 refine c_skip (x_seq (c_seq (c_blk (csr ?_))))
 refine r_fa fa30_0 z (r_ld 2 sc28 z z z (r_mv z ?_))
 refine r_u (o_ix (sz := 1) Tryz.underlying28 (fun _ => by kernel_rfl) z z hv42 hi42) ?_
 refine r_u (o_ldR sc57 z hR42 (rok 0 he42 (by decide))) (r_mv z ?_)
 obtain ⟨x47, hx47, hm48⟩ := bs hm46
 clear hm46
 obtain ⟨b47, o47, l47, T47, fr47, c47, hv47, hR47, he47, hi47⟩ := RoS.ne hN42 hx47
 refine r_u (o_ix (sz := 1) Tryz.underlying57 (fun _ => by kernel_rfl) z z hv47 hi47) ?_
 refine r_u (o_ldR sc9 z hR47 (rok 0 he47 (by decide))) (r_mv z (r_bin z z (bS_ne x47 a1) ?_))
 refine nsq ?_
 obtain ⟨p49, hp51, hm52⟩ := bs hm48
 refine cd_cut (fun x ks => ∀ (g50 : Value), EX x .normal ks [(1, vS a1), (2, pt b0 0), (4, pt b1 0), (5, pt b6 0), (6, vI i_12), (8, vI k_35), (7, g50)] R (Bk b6 30 [v3.L.1, vI r2.Places] :: Bk b1 30 [.slice none 0 0, vI 0] :: Bk b0 30 [g0_.L.1, vI a0.Places] :: OwS true 57 1 eV v3.L.1 hs14 :: OwL (OwS true 9 1 eS) hs14 c_13 :: OwS true 9 1 eS g50 p49 :: F)) ?_ fun K53 => ?_
 ·intro g50
  refine x_blk (x_seq (c_reg ?_))
  refine r_mv z (r_bin z z (bI_add k_35 1) (r_as z ?_))
  refine r_nil ?_
  exact x_lp (p49, i64 (k_35 + 1), g50) hm52 ⟨z, z, z, z, z, z, z, trivial⟩ (fun _ h => st_pk 6 [0, 1, 2, 3, 4, 5] (by decide) h)
 refine c_if (b := (x47 != a1)) z (fun h54 => ?_) fun h54 => ?_
 rotate_left
 ·have hm55 := iff_ hp51 h54
  clear hp51
  refine c_skip ?_
  obtain rfl := si hm55
  exact x_sub (K53 g36) ⟨z, z, z, z, z, z, z, trivial⟩ (fun _ h => st_pk 6 [0, 1, 2, 3, 4, 5] (by decide) h)
 have hm55 := ift hp51 h54
 clear hp51
 refine c_reg ?_
 refine r_mv z (r_fa fa30_0 z (r_ld 2 sc28 z z z (r_mv z ?_)))
 refine r_u (o_ix (sz := 1) Tryz.underlying28 (fun _ => by kernel_rfl) z z hv42 hi42) ?_
 refine r_u (o_ldR sc57 z hR42 (rok 0 he42 (by decide))) (r_mv z ?_)
 refine r_u (o_ix (sz := 1) Tryz.underlying57 (fun _ => by kernel_rfl) z z hv47 hi47) ?_
 refine r_u (o_ldR sc9 z hR47 (rok 0 he47 (by decide))) ?_
 refine r_sw (s_w (o_bsl (en := eS) (sz := 1) (e := 9) (cs := [vS x47]) (r := [x47]) z (fun _ => by kernel_rfl) z (by decide) z (fun _ => z))) ?_
 rintro v56 R _ _ ⟨rfl, rfl⟩
 obtain ⟨l58, hl58, hm59⟩ := bs hm55
 clear hm55
 refine rl_st (fun _ h => mv6 h) ?_
 refine r_sw (s_w (o_ap (sz := 1) (bytes := 16) 0 Tryz.underlying57 z z z z z (by decide) (by decide) (fun _ _ _ h => by simp at h; subst h; rfl) (fun _ => z) z z z z (Nat.succ_pos _) hl58)) ?_
 rintro v57 R _ _ ⟨rfl, rfl⟩
 refine r_as z ?_
 refine r_nil ?_
 obtain rfl := si hm59
 exact x_sub (K53 v57) ⟨z, z, z, z, z, z, z, trivial⟩ (fun _ h => st_pk 7 [2, 3, 4, 5, 6, 0] (by decide) h)
def AP (a0 : Ac) (a1 : Int) (a2 : Str) : Option (Ac × Bool) :=
 (AG a0 a2).bind fun r2 => Option.bind (if ((decide (a1 < 0) || decide ((a0.L.length : Int) ≤ a1)) || decide (64 < (a2.length : Int))) then some true else Option.bind (if r2.2 then some false else (Bm a0).bind fun r34 => some (decide (a0.Places ≤ r34))) fun p28 => some p28) fun p4 => if p4 then some (a0, false) else (Az a0 a2).bind fun r10 => (gi r10.L a1).bind fun y16 => (apd 16 [a2] y16).bind fun l20 => some ((⟨ls r10.L a1 l20, r10.Places⟩ : Ac), true)
theorem AP.ok {G R F} (a0 : Ac) (g0_ : Ac.G) (h0 : Ac.ro R a0 g0_) (a1 : Int) (a2 : Str) (r : Ac × Bool) (hm : AP a0 a1 a2 = some r) : CO Tryz.prog 128 [.agg [g0_.L.1, vI a0.Places].toArray, vI a1, vS a2] G R (F)
  (Ret fun u R' L' => ∃ (p0 : Ac.G), u = .tuple #[.agg [p0.L.1, vI r.1.Places].toArray, vB r.2] ∧ (Ac.ro R' r.1 p0) ∧ L' = F) := by
 unfold AP at hm
 refine co_ofN (N := 59) Tryz.func128 z z ?_
 refine csr ?_
 refine r_new (o_bx [g0_.L.1, vI a0.Places] z z) fun b0 => ?_
 refine r_new (o_al ze30) fun b1 => ?_
 refine r_as z ?_
 refine nsr ?_
 refine r_u (o_ldn 1 [g0_.L.1, vI a0.Places] ag30 z z z z) (r_mv z ?_)
 obtain ⟨r2, hr2, hm3⟩ := bs hm
 clear hm
 refine r_u (o_callq ca77 z (AG.ok a0 (⟨(g0_.L.1, [])⟩ : Ac.G) h0 a2 r2 hr2)) (r_mv z ?_)
 refine r_ext z z ?_
 refine r_ext z z (r_as z (r_as z ?_))
 refine r_nil (x_seq (c_seq (c_seq ?_)))
 obtain ⟨p4, hp5, hm6⟩ := bs hm3
 refine cd_join (E' := [(1, vI a1), (2, vS a2), (3, pt b0 0), (6, pt b1 0), (41, vB p4)]) (L' := Bk b1 30 [.slice none 0 0, vI 0] :: Bk b0 30 [g0_.L.1, vI a0.Places] :: F) ?_ fun K7 => ?_
 rotate_left
 ·refine cd_by ((decide (a1 < 0) || decide ((a0.L.length : Int) ≤ a1)) || decide (64 < (a2.length : Int))) (fun h26 => ?_) fun h26 => ?_
  ·have hm27 := ift hp5 h26
   clear hp5
   refine c_any mixed (effs := []) (V := []) ?_
   refine stage_ext [(0, vI a1), (1, vB (decide (a1 < 0))), (2, vB (decide (a1 < 0))), (3, gv (!(decide (a1 < 0))) (vI a1)), (4, gv (!(decide (a1 < 0))) (pt b0 0)), (5, gv (!(decide (a1 < 0))) g0_.L.1), (6, gv (!(decide (a1 < 0))) (vI (a0.L.length : Int))), (7, gv (!(decide (a1 < 0))) (vB (decide ((a0.L.length : Int) ≤ a1)))), (8, vB (decide (a1 < 0) || decide ((a0.L.length : Int) ≤ a1))), (9, vB (decide (a1 < 0) || decide ((a0.L.length : Int) ≤ a1))), (10, gv (!(decide (a1 < 0) || decide ((a0.L.length : Int) ≤ a1))) (vS a2)), (11, gv (!(decide (a1 < 0) || decide ((a0.L.length : Int) ≤ a1))) (vI (a2.length : Int))), (12, gv (!(decide (a1 < 0) || decide ((a0.L.length : Int) ≤ a1))) (vB (decide (64 < (a2.length : Int))))), (13, vB ((decide (a1 < 0) || decide ((a0.L.length : Int) ≤ a1)) || decide (64 < (a2.length : Int)))), (14, vB ((decide (a1 < 0) || decide ((a0.L.length : Int) ≤ a1)) || decide (64 < (a2.length : Int)))), (15, undef), (16, undef), (17, undef), (18, undef), (19, undef), (20, undef), (21, undef), (22, undef), (23, undef), (24, vB true)] z ?_
   refine stage z z z z mk29_ [0, 1, 2, 3, 4, 5, 6, 7, 8, 9, 10, 11, 12, 13, 14, 15, 16, 17, 18, 19, 20, 21, 22, 23, 24] [] z z z (q_mv z z z (q_u z z (o_bin z z (bI_lt a1 0)) (q_mv z z z (qc z z (s_gf z z fun g => o_mv z) (qc z z (s_gf z z fun g => o_fa fa30_0 z) (qc z z (s_gf z z fun g => o_ld 1 sc28 (evg z g) z z) (qc z z (s_gf z z fun g => o_lenRN Tryz.underlying28 (evg z g) h0) (qc z z (s_gf z z fun g => o_bin (evg z g) (evg z g) (bI_ge a1 (a0.L.length : Int))) (q_u z z (o_or z z) (q_mv z z z (qc z z (s_gf z z fun g => o_mv z) (qc z z (s_gf z z fun g => o_lenS Tryz.underlying9 (evg z g)) (qc z z (s_gf z z fun g => o_bin (evg z g) z (bI_gt (a2.length : Int) 64)) (q_u z z (o_or z z) (q_mv z z z (q_n z z z z h26 (q_n z z z z h26 (q_n z z z z h26 (qc z z (s_nu z z) (qc z z (s_nu z z) (qc z z (s_nu z z) (qc z z (s_nu z z) (qc z z (s_nu z z) (q_n z z z z h26 (q_u z z (o_pt z h26 z) qn))))))))))))))))))))))))) en ?_
   intro _
   refine ex_sub (E' := [(1, vI a1), (2, vS a2), (3, pt b0 0), (6, pt b1 0), (41, vB true)]) ⟨z, z, z, z, z, trivial⟩ ?_
   obtain rfl := si hm27
   exact x_sub K7 ⟨z, z, z, z, z, trivial⟩ (fun _ h => st_pk 2 [0, 1] (by decide) h)
  have hm27 := iff_ hp5 h26
  clear hp5
  obtain ⟨p28, hp29, hm30⟩ := bs hm27
  refine cd_join (E' := [(1, vI a1), (2, vS a2), (3, pt b0 0), (6, pt b1 0), (41, vB p28)]) (L' := Bk b1 30 [.slice none 0 0, vI 0] :: Bk b0 30 [g0_.L.1, vI a0.Places] :: F) ?_ fun K31 => ?_
  ·obtain rfl := si hm30
   exact x_sub K7 ⟨z, z, z, z, z, trivial⟩ (fun _ h => st_pk 2 [0, 1] (by decide) h)
  refine cd_by r2.2 (fun h32 => ?_) fun h32 => ?_
  ·have hm33 := ift hp29 h32
   clear hp29
   refine c_any mixed (effs := []) (V := []) ?_
   refine stage_ext [(0, vI a1), (1, vB (decide (a1 < 0))), (2, vB (decide (a1 < 0))), (3, gv (!(decide (a1 < 0))) (vI a1)), (4, gv (!(decide (a1 < 0))) (pt b0 0)), (5, gv (!(decide (a1 < 0))) g0_.L.1), (6, gv (!(decide (a1 < 0))) (vI (a0.L.length : Int))), (7, gv (!(decide (a1 < 0))) (vB (decide ((a0.L.length : Int) ≤ a1)))), (8, vB (decide (a1 < 0) || decide ((a0.L.length : Int) ≤ a1))), (9, vB (decide (a1 < 0) || decide ((a0.L.length : Int) ≤ a1))), (10, gv (!(decide (a1 < 0) || decide ((a0.L.length : Int) ≤ a1))) (vS a2)), (11, gv (!(decide (a1 < 0) || decide ((a0.L.length : Int) ≤ a1))) (vI (a2.length : Int))), (12, gv (!(decide (a1 < 0) || decide ((a0.L.length : Int) ≤ a1))) (vB (decide (64 < (a2.length : Int))))), (13, vB ((decide (a1 < 0) || decide ((a0.L.length : Int) ≤ a1)) || decide (64 < (a2.length : Int)))), (14, vB ((decide (a1 < 0) || decide ((a0.L.length : Int) ≤ a1)) || decide (64 < (a2.length : Int)))), (15, vB r2.2), (16, vB (!r2.2)), (17, vB (!r2.2)), (18, undef), (19, undef), (20, undef), (21, undef), (22, undef), (23, vB false), (24, vB false)] z ?_
   refine stage z z z z mk29_ [0, 1, 2, 3, 4, 5, 6, 7, 8, 9, 10, 11, 12, 13, 14, 15, 16, 17, 18, 19, 20, 21, 22, 23, 24] [] z z z (q_mv z z z (q_u z z (o_bin z z (bI_lt a1 0)) (q_mv z z z (qc z z (s_gf z z fun g => o_mv z) (qc z z (s_gf z z fun g => o_fa fa30_0 z) (qc z z (s_gf z z fun g => o_ld 1 sc28 (evg z g) z z) (qc z z (s_gf z z fun g => o_lenRN Tryz.underlying28 (evg z g) h0) (qc z z (s_gf z z fun g => o_bin (evg z g) (evg z g) (bI_ge a1 (a0.L.length : Int))) (q_u z z (o_or z z) (q_mv z z z (qc z z (s_gf z z fun g => o_mv z) (qc z z (s_gf z z fun g => o_lenS Tryz.underlying9 (evg z g)) (qc z z (s_gf z z fun g => o_bin (evg z g) z (bI_gt (a2.length : Int) 64)) (q_u z z (o_or z z) (q_mv z z z (q_y z z z z h26 (o_mv z) (q_y z z z z h26 (o_not z) (q_y z z z z h26 (o_mv z) (q_n z z z z (nbf h32) (q_n z z z z (nbf h32) (q_n z z z z (nbf h32) (q_n z z z z (nbf h32) (q_n z z z z (nbf h32) (q_y z z z z h26 (o_pf z (nbf h32) z) (q_u z z (o_pf z h26 z) qn))))))))))))))))))))))))) en ?_
   intro _
   refine ex_sub (E' := [(1, vI a1), (2, vS a2), (3, pt b0 0), (6, pt b1 0), (41, vB false)]) ⟨z, z, z, z, z, trivial⟩ ?_
   obtain rfl := si hm33
   exact x_sub K31 ⟨z, z, z, z, z, trivial⟩ (fun _ h => st_pk 2 [0, 1] (by decide) h)
  have hm33 := iff_ hp29 h32
  clear hp29
  obtain ⟨r34, hr34, hm35⟩ := bs hm33
  clear hm33
  refine c_any mixed (effs := []) (V := []) ?_
  refine stage_ext [(0, vI a1), (1, vB (decide (a1 < 0))), (2, vB (decide (a1 < 0))), (3, gv (!(decide (a1 < 0))) (vI a1)), (4, gv (!(decide (a1 < 0))) (pt b0 0)), (5, gv (!(decide (a1 < 0))) g0_.L.1), (6, gv (!(decide (a1 < 0))) (vI (a0.L.length : Int))), (7, gv (!(decide (a1 < 0))) (vB (decide ((a0.L.length : Int) ≤ a1)))), (8, vB (decide (a1 < 0) || decide ((a0.L.length : Int) ≤ a1))), (9, vB (decide (a1 < 0) || decide ((a0.L.length : Int) ≤ a1))), (10, gv (!(decide (a1 < 0) || decide ((a0.L.length : Int) ≤ a1))) (vS a2)), (11, gv (!(decide (a1 < 0) || decide ((a0.L.length : Int) ≤ a1))) (vI (a2.length : Int))), (12, gv (!(decide (a1 < 0) || decide ((a0.L.length : Int) ≤ a1))) (vB (decide (64 < (a2.length : Int))))), (13, vB ((decide (a1 < 0) || decide ((a0.L.length : Int) ≤ a1)) || decide (64 < (a2.length : Int)))), (14, vB ((decide (a1 < 0) || decide ((a0.L.length : Int) ≤ a1)) || decide (64 < (a2.length : Int)))), (15, vB r2.2), (16, vB (!r2.2)), (17, vB (!r2.2)), (18, .agg [g0_.L.1, vI a0.Places].toArray), (19, vI r34), (20, pt b0 1), (21, vI a0.Places), (22, vB (decide (a0.Places ≤ r34))), (23, vB (decide (a0.Places ≤ r34))), (24, vB (decide (a0.Places ≤ r34)))] z ?_
  refine stage z z z z mk29_ [0, 1, 2, 3, 4, 5, 6, 7, 8, 9, 10, 11, 12, 13, 14, 15, 16, 17, 18, 19, 20, 21, 22, 23, 24] [] z z z (q_mv z z z (q_u z z (o_bin z z (bI_lt a1 0)) (q_mv z z z (qc z z (s_gf z z fun g => o_mv z) (qc z z (s_gf z z fun g => o_fa fa30_0 z) (qc z z (s_gf z z fun g => o_ld 1 sc28 (evg z g) z z) (qc z z (s_gf z z fun g => o_lenRN Tryz.underlying28 (evg z g) h0) (qc z z (s_gf z z fun g => o_bin (evg z g) (evg z g) (bI_ge a1 (a0.L.length : Int))) (q_u z z (o_or z z) (q_mv z z z (qc z z (s_gf z z fun g => o_mv z) (qc z z (s_gf z z fun g => o_lenS Tryz.underlying9 (evg z g)) (qc z z (s_gf z z fun g => o_bin (evg z g) z (bI_gt (a2.length : Int) 64)) (q_u z z (o_or z z) (q_mv z z z (q_y z z z z h26 (o_mv z) (q_y z z z z h26 (o_not z) (q_y z z z z h26 (o_mv z) (q_y z z z z (nbt h32) (o_ldn 1 [g0_.L.1, vI a0.Places] ag30 z z z z) (q_y z z z z (nbt h32) (o_callq ca75 z (Bm.ok a0 (⟨(g0_.L.1, [])⟩ : Ac.G) h0 r34 hr34)) (q_y z z z z (nbt h32) (o_fa fa30_1 z) (q_y z z z z (nbt h32) (o_ld 1 sc3 z z z) (q_y z z z z (nbt h32) (o_bin z z (bI_ge r34 a0.Places)) (q_y z z z z h26 (o_pt z (nbt h32) z) (q_u z z (o_pf z h26 z) qn))))))))))))))))))))))))) en ?_
  intro _
  refine ex_sub (E' := [(1, vI a1), (2, vS a2), (3, pt b0 0), (6, pt b1 0), (41, vB (decide (a0.Places ≤ r34)))]) ⟨z, z, z, z, z, trivial⟩ ?_
  obtain rfl := si hm35
  exact x_sub K31 ⟨z, z, z, z, z, trivial⟩ (fun _ h => st_pk 2 [0, 1] (by decide) h)
 refine x_seq ?_
 refine c_if (b := p4) z (fun h8 => ?_) fun h8 => ?_
 ·have hm9 := ift hm6 h8
  clear hm6
  refine csr ?_
  refine r_u (o_ldn 1 [g0_.L.1, vI a0.Places] ag30 z z z z) ?_
  refine r_u0 (o_stn ag30 z z z (al_c (RoN.one h0) (al_c z al_n)) z z z) ?_
  refine r_as z ?_
  refine r_nil (x_seq (c_ret ?_))
  obtain rfl := si hm9
  exact x_d2 z (rv_n 0 [g0_.L.1, vI a0.Places] ag30 z z z z) (rv_t z) (fun _ h => st_pk 2 [] (by decide) h) (Le.refl _) ⟨_, z, (⟨(g0_.L.1, [])⟩ : Ac.G), z, h0, z⟩
 have hm9 := iff_ hm6 h8
 clear hm6
 refine c_skip (x_seq (csr ?_))
 refine r_u (o_ldn 1 [g0_.L.1, vI a0.Places] ag30 z z z z) (r_mv z ?_)
 obtain ⟨r10, hr10, hm13⟩ := bs hm9
 clear hm9
 refine r_sw (s_w (o_call ca105 z (Az.ok a0 (⟨(g0_.L.1, [])⟩ : Ac.G) h0 a2 r10 hr10))) ?_
 rintro _ R _ _ ⟨v11, rfl, rfl, rfl⟩
 refine r_new (o_al ze30) fun b14 => ?_
 refine r_u0 (ou_if (one_o 1 z) fun ho0 => o_stn ag30 z z z (al_c ho0 (al_c z al_n)) z z z) ?_
 refine r_nil (x_seq (c_seq ?_))
 obtain ⟨y16, hy16, hm18⟩ := bs hm13
 clear hm13
 refine cd_ex (fun w h => st_peek 2 hy16 z w h) fun u17 hu17 => ?_
 obtain ⟨l20, hl20, hm21⟩ := bs hm18
 clear hm18
 refine c_any mixed (effs := [4, 10, 12]) (V := []) ?_
 refine stage_ext [(0, pt b14 0), (1, v11.L.1), (2, vI a1), (3, vS a2), (5, pt b14 0), (6, v11.L.1), (7, vI a1), (8, pt (sb v11.L.1) (so v11.L.1 + a1.toNat * 1)), (9, u17)] z ?_
 refine stage z z z z mk16_ [0, 1, 2, 3, 5, 6, 7, 8, 9] [4] z z z (q_fa z z fa30_0 z (q_ld z z 0 sc28 z z z (q_mv z z z (q_mv z z z (q_fa z z fa30_0 z (q_ld z z 0 sc28 z z z (q_mv z z z (q_u z z (o_ixO 1 Tryz.underlying28 (fun _ => by kernel_rfl) z z z hu17) (q_u z z (o_ldO0 1 sc57 z z hu17 z z) qn))))))))) ?_ (nxt z)
 refine ec (eo_w z (s_w (o_bsl (en := eS) (sz := 1) (e := 9) (cs := [vS a2]) (r := [a2]) z (fun _ => by kernel_rfl) z (by decide) z (fun _ => z))) ?_) en
 rintro v15 R _ _ ⟨rfl, rfl⟩
 refine stage_st (fun _ h => mv1 (mv3 h)) ?_
 refine stage z z z z mk16_ [0, 1, 2, 5, 6, 7, 8, 9] [10] z z z (q_fa z z fa30_0 z (q_ld z z 2 sc28 z z z (q_mv z z z (q_fa z z fa30_0 z (q_ld z z 2 sc28 z z z (q_mv z z z (q_u z z (o_ixO 3 Tryz.underlying28 (fun _ => by kernel_rfl) z z z hu17) (q_u z z (o_ldO0 3 sc57 z z hu17 z z) qn)))))))) ?_ (nxt z)
 refine ec (eo_w z (s_w (o_apG (sz := 1) (bytes := 16) Tryz.underlying57 z z z z z (by decide) (by decide) (fun _ _ _ h => by simp at h; subst h; rfl) (fun _ => z) z z z (row_k (kn_in 1 z hu17 hy16)) hl20)) ?_) en
 rintro v19 R _ _ ⟨rfl, rfl⟩
 refine stage_st (fun _ h => mv3 (mv1 h)) ?_
 refine stage_ext [(11, pt (sb v11.L.1) (so v11.L.1 + a1.toNat * 1))] z ?_
 refine stage z z z z mk16_ [0, 1, 2, 11] [12] z z z (q_fa z z fa30_0 z (q_ld z z 3 sc28 z z z (q_mv z z z (q_u z z (o_ixO 0 Tryz.underlying28 (fun _ => by kernel_rfl) z z z hu17) qn)))) ?_ (nxt z)
 refine ec (eo_u z (s_u (ou_if (one_o 2 z) fun ho => o_stH hy16 hu17 sc57 z z z ho)) (Le.refl _) ?_) en
 refine stage z z z z mk16_ [] [] z z z qn en ?_
 intro _
 refine ex_sub (E' := [(6, pt b1 0), (10, pt b14 0)]) ⟨z, z, trivial⟩ ?_
 refine x_seq (csr ?_)
 refine r_u (o_ldn 2 [v11.L.1, vI r10.Places] ag30 z z z z) ?_
 refine rl_st (fun _ h => mv3 h) ?_
 refine r_u0 (ou_if (one_o 1 z) fun ho0 => o_stn ag30 z z z (al_c ho0 (al_c z al_n)) z z z) ?_
 refine r_as z ?_
 refine r_nil (x_seq (c_ret ?_))
 refine ex_st (fun _ h => mv2 (mv2 h)) ?_
 refine ex_ex (fun w h => st_freezeN w h) fun R22 hf25 => ?_
 obtain ⟨le23, h24⟩ := hf25
 obtain rfl := si hm21
 exact x_d2 z (rv_n 0 [v11.L.1, vI r10.Places] ag30 z z z z) (rv_t z) (fun _ h => st_pk 3 [] (by decide) h) le23 ⟨_, z, (⟨(v11.L.1, [])⟩ : Ac.G), z, h24, z⟩
def Av (a0 : Aa) (a1 : Int) (a2 : Str) : Option Aa :=
 (AP a0.R a1 a2).bind fun r2 => some (⟨a0.Most, a0.Target, r2.1⟩ : Aa)
theorem Av.ok {G R F} (a0 : Aa) (g0_ : Aa.G) (h0 : Aa.ro R a0 g0_) (a1 : Int) (a2 : Str) (r : Aa) (hm : Av a0 a1 a2 = some r) : CO Tryz.prog 100 [.agg (Aa.k a0 g0_).toArray, vI a1, vS a2] G R (F)
  (Ret fun u R' L' => ∃ (p0 : Aa.G), u = .agg (Aa.k r p0).toArray ∧ (Aa.ro R' r p0) ∧ L' = F) := by
 unfold Av at hm
 refine co_ofN (N := 17) Tryz.func100 z z ?_
 refine csr ?_
 refine r_new (o_bx (Aa.k a0 g0_) z z) fun b0 => ?_
 refine r_new (o_al ze32) fun b1 => ?_
 refine nsr ?_
 refine r_fa fa32_2 z ?_
 refine r_u (o_ldn 1 [g0_.R.L.1, vI a0.R.Places] ag30 z z z z) (r_mv z (r_mv z ?_))
 obtain ⟨r2, hr2, hm8⟩ := bs hm
 clear hm
 refine r_sw (s_w (o_call ca128 z (AP.ok a0.R (⟨(g0_.R.L.1, [])⟩ : Ac.G) h0 a1 a2 r2 hr2))) ?_
 rintro _ R6 _ le7 ⟨v3, rfl, hf4, rfl⟩
 refine r_mv z ?_
 refine r_ext z z ?_
 refine r_ext z z (r_fa fa32_2 z ?_)
 refine rl_st (fun _ h => mv1 h) ?_
 refine r_u0 (o_stn ag30 z z z (al_c (RoN.one hf4) (al_c z al_n)) z z z) ?_
 refine nsr ?_
 refine r_u (o_ldn 0 [vI a0.Most, vI a0.Target, v3.L.1, vI r2.1.Places] ag32 z z z z) ?_
 refine rl_st (fun _ h => mv1 h) ?_
 refine r_u0 (o_stn ag32 z z z (al_c z (al_c z (al_c (RoN.one hf4) (al_c z al_n)))) z z z) ?_
 refine r_nil (x_seq (c_ret ?_))
 obtain rfl := si hm8
 exact x_d1 z (rv_n 0 [vI a0.Most, vI a0.Target, v3.L.1, vI r2.1.Places] ag32 z z z z) (fun _ h => st_pk 2 [] (by decide) h) le7 ⟨_, z, (⟨(⟨(v3.L.1, [])⟩ : Ac.G)⟩ : Aa.G), z, hf4, z⟩
def B3 (a0 : Aa) (a1 : Str) : Option (Aa × Bool) :=
 (A7 a0 a1).bind fun r2 => if !r2 then some (a0, false) else (Av a0 1 a1).bind fun r6 => some (r6, true)
theorem B3.ok {G R F} (a0 : Aa) (g0_ : Aa.G) (h0 : Aa.ro R a0 g0_) (a1 : Str) (r : Aa × Bool) (hm : B3 a0 a1 = some r) : CO Tryz.prog 64 [.agg (Aa.k a0 g0_).toArray, vS a1] G R (F)
  (Ret fun u R' L' => ∃ (p0 : Aa.G), u = .tuple #[.agg (Aa.k r.1 p0).toArray, vB r.2] ∧ (Aa.ro R' r.1 p0) ∧ L' = F) := by
 unfold B3 at hm
 refine co_ofN (N := 14) Tryz.func64 z z ?_
 refine csr ?_
 refine r_new (o_bx (Aa.k a0 g0_) z z) fun b0 => ?_
 refine r_new (o_al ze32) fun b1 => ?_
 refine r_as z ?_
 refine nssr ?_
 refine r_u (o_ldn 1 (Aa.k a0 g0_) ag32 z z z z) (r_mv z ?_)
 obtain ⟨r2, hr2, hm3⟩ := bs hm
 clear hm
 refine r_u (o_callq ca39 z (A7.ok a0 (⟨(⟨(g0_.R.L.1, [])⟩ : Ac.G)⟩ : Aa.G) h0 a1 r2 hr2)) ?_
 refine r_u (o_not z) ?_
 refine nsq ?_
 refine c_if (b := !r2) z (fun h4 => ?_) fun h4 => ?_
 ·have hm5 := ift hm3 h4
  clear hm3
  refine csr ?_
  refine r_u (o_ldn 1 (Aa.k a0 g0_) ag32 z z z z) ?_
  refine r_u0 (o_stn ag32 z z z (al_c z (al_c z (al_c (RoN.one h0) (al_c z al_n)))) z z z) ?_
  refine r_as z ?_
  refine r_nil (x_seq (c_ret ?_))
  obtain rfl := si hm5
  exact x_d2 z (rv_n 0 (Aa.k a0 g0_) ag32 z z z z) (rv_t z) (fun _ h => st_pk 2 [] (by decide) h) (Le.refl _) ⟨_, z, (⟨(⟨(g0_.R.L.1, [])⟩ : Ac.G)⟩ : Aa.G), z, h0, z⟩
 have hm5 := iff_ hm3 h4
 clear hm3
 refine c_skip (x_seq (csr ?_))
 refine r_u (o_ldn 1 (Aa.k a0 g0_) ag32 z z z z) (r_mv z ?_)
 obtain ⟨r6, hr6, hm13⟩ := bs hm5
 clear hm5
 refine r_sw (s_w (o_call ca100 z (Av.ok a0 (⟨(⟨(g0_.R.L.1, [])⟩ : Ac.G)⟩ : Aa.G) h0 1 a1 r6 hr6))) ?_
 rintro _ R11 _ le12 ⟨v7, rfl, hf8, rfl⟩
 refine r_u0 (o_stn ag32 z z z (al_c z (al_c z (al_c (RoN.one hf8) (al_c z al_n)))) z z z) ?_
 refine r_as z ?_
 refine r_nil (x_seq (c_ret ?_))
 obtain rfl := si hm13
 exact x_d2 z (rv_n 0 (Aa.k r6 v7) ag32 z z z z) (rv_t z) (fun _ h => st_pk 2 [] (by decide) h) le12 ⟨_, z, (⟨(⟨(v7.R.L.1, [])⟩ : Ac.G)⟩ : Aa.G), z, hf8, z⟩
def BY (a1 : Int) : Nat → UInt64 → Int → Option (UInt64)
 | 0, _, _ => none
 | k6 + 1, n_4, i_5 => if decide (i_5 < a1) then BY a1 k6 ((n_4 * 2) + (n_4 / 9223372036854775808)) (i64 (i_5 + 1)) else some n_4
def Cy (a0 : UInt64) (a1 : Int) : Option UInt64 :=
 Option.bind (BY a1 ((a1 - 0).toNat + 1) a0 0) fun p0 => some p0
theorem Cy.ok {G R F} (a0 : UInt64) (a1 : Int) (r : UInt64) (hm : Cy a0 a1 = some r) : CO Tryz.prog 145 [vW a0, vI a1] G R (F)
  (Ret fun u R' L' => u = vW r ∧ R' = R ∧ L' = F) := by
 unfold Cy at hm
 refine co_ofN (N := 19) Tryz.func145 z z ?_
 refine csr ?_
 refine r_as z ?_
 refine nssr ?_
 refine r_as z ?_
 refine nsq ?_
 obtain ⟨p0, hp1, hm2⟩ := bs hm
 refine cd_join (E' := [(0, vW p0)]) (L' := F) ?_ fun K3 => ?_
 ·refine x_seq (csr ?_)
  refine r_mv z (r_as z ?_)
  refine r_nil (x_seq (c_ret ?_))
  obtain rfl := si hm2
  exact x_r1 z (rv_t z) (Le.refl _) ⟨_, z, z, z, z⟩
 refine c_blk ?_
 refine cd_loop (M := fun k6 (s : UInt64 × Int) => BY a1 k6 s.1 s.2 = some p0) (Ef := fun (s : UInt64 × Int) => [(1, vI a1), (0, vW s.1), (5, vI s.2)]) (Lf := fun (s : UInt64 × Int) => F) ((a1 - 0).toNat + 1) (a0, 0) hp1 ⟨z, z, z, trivial⟩ (fun _ h => h) (fun _ h => by cases h) fun k6 s hM8 => ?_
 obtain ⟨n_4, i_5⟩ := s
 have hm7 : BY a1 (k6 + 1) n_4 i_5 = some p0 := hM8
 rw [BY] at hm7
 refine c_seq (csr ?_)
 refine r_mv z (r_mv z (r_bin z z (bI_lt i_5 a1) ?_))
 refine nsq ?_
 refine c_if (b := decide (i_5 < a1)) z (fun h9 => ?_) fun h9 => ?_
 ·have hm10 := ift hm7 h9
  clear hm7
  refine c_skip (x_seq (c_seq (c_blk (csr ?_))))
  refine r_mv z (r_bin z z (bW_quo n_4 9223372036854775808 (by decide)) (r_as z ?_))
  refine r_nil (x_seq (c_reg ?_))
  refine r_mv z (r_bin z z (bW_mul n_4 2) (r_mv z (r_bin z z (bW_add (n_4 * 2) (n_4 / 9223372036854775808)) (r_as z ?_))))
  refine r_nil (x_blk (x_seq (c_reg ?_)))
  refine r_mv z (r_bin z z (bI_add i_5 1) (r_as z ?_))
  refine r_nil ?_
  exact x_lp ((n_4 * 2) + (n_4 / 9223372036854775808), i64 (i_5 + 1)) hm10 ⟨z, z, z, trivial⟩ (fun _ h => st_pk 0 [] (by decide) h)
 have hm10 := iff_ hm7 h9
 clear hm7
 refine c_exit (x_exit (ks' := _) z ?_)
 obtain rfl := si hm10
 exact x_sub K3 ⟨z, trivial⟩ (fun _ h => st_pk 0 [] (by decide) h)
def BN (a0 : UInt64) : Option UInt64 :=
 (Cy ((a0 ^^^ (a0 / 4294967296)) * 11400714819323198485) 29).bind fun r0 => some ((r0 * 11400714819323198485) ^^^ ((r0 * 11400714819323198485) / 4294967296))
theorem BN.ok {G R F} (a0 : UInt64) (r : UInt64) (hm : BN a0 = some r) : CO Tryz.prog 143 [vW a0] G R (F)
  (Ret fun u R' L' => u = vW r ∧ R' = R ∧ L' = F) := by
 unfold BN at hm
 refine co_ofN (N := 17) Tryz.func143 z z ?_
 refine csr ?_
 refine r_as z ?_
 refine nsr ?_
 refine r_mv z (r_mv z (r_bin z z (bW_quo a0 4294967296 (by decide)) (r_bin z z (bW_xor a0 (a0 / 4294967296)) (r_as z ?_))))
 refine nsr ?_
 refine r_mv z (r_bin z z (bW_mul (a0 ^^^ (a0 / 4294967296)) 11400714819323198485) (r_as z ?_))
 refine nsr ?_
 refine r_mv z ?_
 obtain ⟨r0, hr0, hm1⟩ := bs hm
 clear hm
 refine r_u (o_callq ca145 z (Cy.ok ((a0 ^^^ (a0 / 4294967296)) * 11400714819323198485) 29 r0 hr0)) (r_as z ?_)
 refine nsr ?_
 refine r_mv z (r_bin z z (bW_mul r0 11400714819323198485) (r_as z ?_))
 refine nsr ?_
 refine r_mv z (r_mv z (r_bin z z (bW_quo (r0 * 11400714819323198485) 4294967296 (by decide)) (r_bin z z (bW_xor (r0 * 11400714819323198485) ((r0 * 11400714819323198485) / 4294967296)) (r_as z ?_))))
 refine r_nil (x_seq (c_ret ?_))
 obtain rfl := si hm1
 exact x_r1 z (rv_t z) (Le.refl _) ⟨_, z, z, z, z⟩
def Cb (a1 : Str) : Nat → UInt64 → Int → Option (UInt64)
 | 0, _, _ => none
 | k10 + 1, h_8, i_9 => if decide (i_9 < (a1.length : Int)) then (gi a1 i_9).bind fun c15 => Cb a1 k10 ((h_8 ^^^ c15.toUInt64) * 1099511628211) (i64 (i_9 + 1)) else some h_8
def CP (a0 : UInt64) (a1 : Str) : Option UInt64 :=
 (BN a0).bind fun r0 => Option.bind (Cb a1 (((a1.length : Int) - 0).toNat + 1) (14695981039346656037 ^^^ r0) 0) fun p2 => (BN (p2 ^^^ (toW (a1.length : Int)))).bind fun r6 => some r6
theorem CP.ok {G R F} (a0 : UInt64) (a1 : Str) (r : UInt64) (hm : CP a0 a1 = some r) : CO Tryz.prog 139 [vW a0, vS a1] G R (F)
  (Ret fun u R' L' => u = vW r ∧ R' = R ∧ L' = F) := by
 unfold CP at hm
 refine co_ofN (N := 30) Tryz.func139 z z ?_
 refine csr ?_
 refine r_as z ?_
 refine nsr ?_
 refine r_mv z ?_
 obtain ⟨r0, hr0, hm1⟩ := bs hm
 clear hm
 refine r_u (o_callq ca143 z (BN.ok a0 r0 hr0)) (r_bin z z (bW_xor 14695981039346656037 r0) (r_as z ?_))
 refine nssr ?_
 refine r_as z ?_
 refine nsq ?_
 obtain ⟨p2, hp3, hm4⟩ := bs hm1
 refine cd_join (E' := [(1, vS a1), (5, vW p2)]) (L' := F) ?_ fun K5 => ?_
 ·refine x_seq (csr ?_)
  refine r_mv z (r_mv z (r_u (o_lenS Tryz.underlying9 z) (r_u (o_cv z (cIW Tryz.underlying3 Tryz.underlying27 (a1.length : Int))) (r_bin z z (bW_xor p2 (toW (a1.length : Int))) ?_))))
  obtain ⟨r6, hr6, hm7⟩ := bs hm4
  clear hm4
  refine r_u (o_callq ca143 z (BN.ok (p2 ^^^ (toW (a1.length : Int))) r6 hr6)) (r_as z ?_)
  refine r_nil (x_seq (c_ret ?_))
  obtain rfl := si hm7
  exact x_r1 z (rv_t z) (Le.refl _) ⟨_, z, z, z, z⟩
 refine c_blk ?_
 refine cd_loop (M := fun k10 (s : UInt64 × Int) => Cb a1 k10 s.1 s.2 = some p2) (Ef := fun (s : UInt64 × Int) => [(1, vS a1), (5, vW s.1), (6, vI s.2)]) (Lf := fun (s : UInt64 × Int) => F) (((a1.length : Int) - 0).toNat + 1) (14695981039346656037 ^^^ r0, 0) hp3 ⟨z, z, z, trivial⟩ (fun _ h => h) (fun _ h => by cases h) fun k10 s hM12 => ?_
 obtain ⟨h_8, i_9⟩ := s
 have hm11 : Cb a1 (k10 + 1) h_8 i_9 = some p2 := hM12
 rw [Cb] at hm11
 refine c_seq (csr ?_)
 refine r_mv z (r_mv z (r_u (o_lenS Tryz.underlying9 z) (r_bin z z (bI_lt i_9 (a1.length : Int)) ?_)))
 refine nsq ?_
 refine c_if (b := decide (i_9 < (a1.length : Int))) z (fun h13 => ?_) fun h13 => ?_
 ·have hm14 := ift hm11 h13
  clear hm11
  refine c_skip (x_seq (c_seq (c_blk (csr ?_))))
  refine r_mv z (r_mv z (r_mv z ?_))
  obtain ⟨c15, hc15, hm16⟩ := bs hm14
  clear hm14
  refine r_u (o_ixS Tryz.underlying9 z z hc15) (r_u (o_cv z (cYW Tryz.underlying5 Tryz.underlying27 c15)) (r_bin z z (bW_xor h_8 c15.toUInt64) (r_as z ?_)))
  refine r_nil (x_seq (c_reg ?_))
  refine r_mv z (r_bin z z (bW_mul (h_8 ^^^ c15.toUInt64) 1099511628211) (r_as z ?_))
  refine r_nil (x_blk (x_seq (c_reg ?_)))
  refine r_mv z (r_bin z z (bI_add i_9 1) (r_as z ?_))
  refine r_nil ?_
  exact x_lp ((h_8 ^^^ c15.toUInt64) * 1099511628211, i64 (i_9 + 1)) hm16 ⟨z, z, z, trivial⟩ (fun _ h => st_pk 0 [] (by decide) h)
 have hm14 := iff_ hm11 h13
 clear hm11
 refine c_exit (x_exit (ks' := _) z ?_)
 obtain rfl := si hm14
 exact x_sub K5 ⟨z, z, trivial⟩ (fun _ h => st_pk 0 [] (by decide) h)
def Bg (a0 : UInt64) (a1 : UInt64) : UInt64 :=
 (((a0 / 4294967296) * (a1 / 4294967296)) + ((((a0 / 4294967296) * (a1 % 4294967296)) + (((a0 % 4294967296) * (a1 % 4294967296)) / 4294967296)) / 4294967296)) + ((((a0 % 4294967296) * (a1 / 4294967296)) + ((((a0 / 4294967296) * (a1 % 4294967296)) + (((a0 % 4294967296) * (a1 % 4294967296)) / 4294967296)) % 4294967296)) / 4294967296)
theorem Bg.ok {G R F} (a0 : UInt64) (a1 : UInt64) (r : UInt64) (hm : Bg a0 a1 = r) : CO Tryz.prog 142 [vW a0, vW a1] G R (F)
  (Ret fun u R' L' => u = vW r ∧ R' = R ∧ L' = F) := by
 unfold Bg at hm
 refine co_ofN (N := 42) Tryz.func142 z z ?_
 refine csr ?_
 refine r_as z ?_
 refine nsr ?_
 refine r_mv z (r_bin z z (bW_quo a0 4294967296 (by decide)) (r_mv z (r_bin z z (bW_rem a0 4294967296 (by decide)) (r_mv z (r_bin z z (bW_quo a1 4294967296 (by decide)) (r_mv z (r_bin z z (bW_rem a1 4294967296 (by decide)) (r_as z (r_as z (r_as z (r_as z ?_)))))))))))
 refine nsr ?_
 refine r_mv z (r_mv z (r_bin z z (bW_mul (a0 / 4294967296) (a1 % 4294967296)) (r_mv z (r_mv z (r_bin z z (bW_mul (a0 % 4294967296) (a1 % 4294967296)) (r_bin z z (bW_quo ((a0 % 4294967296) * (a1 % 4294967296)) 4294967296 (by decide)) (r_bin z z (bW_add ((a0 / 4294967296) * (a1 % 4294967296)) (((a0 % 4294967296) * (a1 % 4294967296)) / 4294967296)) (r_as z ?_))))))))
 refine nsr ?_
 refine r_mv z (r_mv z (r_bin z z (bW_mul (a0 % 4294967296) (a1 / 4294967296)) (r_mv z (r_u (o_bin z z (bW_rem (((a0 / 4294967296) * (a1 % 4294967296)) + (((a0 % 4294967296) * (a1 % 4294967296)) / 4294967296)) 4294967296 (by decide))) (r_u (o_bin z z (bW_add ((a0 % 4294967296) * (a1 / 4294967296)) ((((a0 / 4294967296) * (a1 % 4294967296)) + (((a0 % 4294967296) * (a1 % 4294967296)) / 4294967296)) % 4294967296))) (r_as z ?_))))))
 refine nsr ?_
 refine r_mv z (r_mv z (r_bin z z (bW_mul (a0 / 4294967296) (a1 / 4294967296)) (r_mv z (r_u (o_bin z z (bW_quo (((a0 / 4294967296) * (a1 % 4294967296)) + (((a0 % 4294967296) * (a1 % 4294967296)) / 4294967296)) 4294967296 (by decide))) (r_u (o_bin z z (bW_add ((a0 / 4294967296) * (a1 / 4294967296)) ((((a0 / 4294967296) * (a1 % 4294967296)) + (((a0 % 4294967296) * (a1 % 4294967296)) / 4294967296)) / 4294967296))) (r_mv z (r_u (o_bin z z (bW_quo (((a0 % 4294967296) * (a1 / 4294967296)) + ((((a0 / 4294967296) * (a1 % 4294967296)) + (((a0 % 4294967296) * (a1 % 4294967296)) / 4294967296)) % 4294967296)) 4294967296 (by decide))) (r_u (o_bin z z (bW_add (((a0 / 4294967296) * (a1 / 4294967296)) + ((((a0 / 4294967296) * (a1 % 4294967296)) + (((a0 % 4294967296) * (a1 % 4294967296)) / 4294967296)) / 4294967296)) ((((a0 % 4294967296) * (a1 / 4294967296)) + ((((a0 / 4294967296) * (a1 % 4294967296)) + (((a0 % 4294967296) * (a1 % 4294967296)) / 4294967296)) % 4294967296)) / 4294967296))) (r_as z ?_)))))))))
 refine r_nil (x_seq (c_ret ?_))
 subst hm
 exact x_r1 z (rv_t z) (Le.refl _) ⟨_, z, z, z, z⟩
def Cw (a0 : UInt64) (a1 : Int) (a2 : Int) : Option Int :=
 if decide (a2 < 1) then some 0 else (BN (a0 + ((toW a1) * 11400714819323198485))).bind fun r2 => some (i64 ((Bg r2 (toW a2)).toNat : Int))
theorem Cw.ok {G R F} (a0 : UInt64) (a1 : Int) (a2 : Int) (r : Int) (hm : Cw a0 a1 a2 = some r) : CO Tryz.prog 138 [vW a0, vI a1, vI a2] G R (F)
  (Ret fun u R' L' => u = vI r ∧ R' = R ∧ L' = F) := by
 unfold Cw at hm
 refine co_ofN (N := 19) Tryz.func138 z z ?_
 refine csr ?_
 refine r_as z ?_
 refine nssr ?_
 refine r_mv z (r_bin z z (bI_lt a2 1) ?_)
 refine nsq ?_
 refine c_if (b := decide (a2 < 1)) z (fun h0 => ?_) fun h0 => ?_
 ·have hm1 := ift hm h0
  clear hm
  refine csr ?_
  refine r_as z ?_
  refine r_nil (x_seq (c_ret ?_))
  obtain rfl := si hm1
  exact x_r1 z (rv_t z) (Le.refl _) ⟨_, z, z, z, z⟩
 have hm1 := iff_ hm h0
 clear hm
 refine c_skip (x_seq (csr ?_))
 refine r_mv z (r_mv z (r_u (o_cv z (cIW Tryz.underlying3 Tryz.underlying27 a1)) (r_bin z z (bW_mul (toW a1) 11400714819323198485) (r_bin z z (bW_add a0 ((toW a1) * 11400714819323198485)) ?_))))
 obtain ⟨r2, hr2, hm3⟩ := bs hm1
 clear hm1
 refine r_u (o_callq ca143 z (BN.ok (a0 + ((toW a1) * 11400714819323198485)) r2 hr2)) (r_mv z (r_u (o_cv z (cIW Tryz.underlying3 Tryz.underlying27 a2)) ?_))
 refine r_u (o_callq ca142 z (Bg.ok r2 (toW a2) _ z)) (r_u (o_cv z (cWI Tryz.underlying27 Tryz.underlying3 (Bg r2 (toW a2)))) (r_as z ?_))
 refine r_nil (x_seq (c_ret ?_))
 obtain rfl := si hm3
 exact x_r1 z (rv_t z) (Le.refl _) ⟨_, z, z, z, z⟩
def AM (a0 : Af) (a1 : Str) (a2 : Int) : Option Int :=
 (CP a0.Seed a1).bind fun r1 => (Cw r1 a2 a0.Wide).bind fun r3 => some r3
theorem AM.ok {G R F} (a0 : Af) (g0_ : Af.G) (h0 : Af.ro R a0 g0_) (a1 : Str) (a2 : Int) (r : Int) (hm : AM a0 a1 a2 = some r) : CO Tryz.prog 129 [.agg (Af.k a0 g0_).toArray, vS a1, vI a2] G R (F)
  (Ret fun u R' L' => u = vI r ∧ R' = R ∧ L' = F) := by
 unfold AM at hm
 refine co_ofN (N := 15) Tryz.func129 z z ?_
 refine csr ?_
 refine r_new (o_bx (Af.k a0 g0_) z z) fun b0 => ?_
 refine r_as z ?_
 refine r_nil (x_seq (c_seq ?_))
 obtain ⟨r1, hr1, hm2⟩ := bs hm
 clear hm
 obtain ⟨r3, hr3, hm4⟩ := bs hm2
 clear hm2
 refine c_any mixed (effs := []) (V := []) ?_
 refine stage_ext [(0, pt b0 1), (1, vW a0.Seed), (2, vS a1), (3, vW r1), (4, vI a2), (5, pt b0 0), (6, vI a0.Wide), (7, vI r3), (8, vI r3)] z ?_
 refine stage z z z z [0, 1, 0, 7, 0, 0, 32, 127, 255] [0, 1, 2, 3, 4, 5, 6, 7, 8] [] z z z (q_fa z z fa36_1 z (q_ld z z 0 sc27 z z z (q_mv z z z (q_u z z (o_callq ca139 z (CP.ok a0.Seed a1 r1 hr1)) (q_mv z z z (q_fa z z fa36_0 z (q_ld z z 0 sc3 z z z (q_u z z (o_callq ca138 z (Cw.ok r1 a2 a0.Wide r3 hr3)) (q_u z z (o_as z) qn))))))))) en ?_
 intro _
 refine ex_sub (E' := [(6, vI r3)]) ⟨z, trivial⟩ ?_
 refine x_seq (c_ret ?_)
 obtain rfl := si hm4
 refine ex_st (fun _ h => st_pk 1 [] (by decide) h) ?_
 exact x_r1 z (rv_t z) (Le.refl _) ⟨_, z, z, z, z⟩
def AJ (a0 : Af) (a1 : Str) : Nat → Int → Int → Option (Int)
 | 0, _, _ => none
 | k7 + 1, n_5, i_6 => if decide (i_6 < 4) then (gi a0.Rows i_6).bind fun x12 => (AM a0 a1 i_6).bind fun r15 => (gi x12 r15).bind fun x17 => Option.bind (if decide (x17 < n_5) then some x17 else some n_5) fun p19 => AJ a0 a1 k7 p19 (i64 (i_6 + 1)) else some n_5
def AW (a0 : Af) (a1 : Str) : Option Int :=
 Option.bind (AJ a0 a1 5 15 0) fun p1 => some p1
theorem AW.ok {G R F} (a0 : Af) (g0_ : Af.G) (h0 : Af.ro R a0 g0_) (a1 : Str) (r : Int) (hm : AW a0 a1 = some r) : CO Tryz.prog 130 [.agg (Af.k a0 g0_).toArray, vS a1] G R (F)
  (Ret fun u R' L' => u = vI r ∧ R' = R ∧ L' = F) := by
 unfold AW at hm
 refine co_ofN (N := 28) Tryz.func130 z z ?_
 refine csr ?_
 refine r_new (o_bx (Af.k a0 g0_) z z) fun b0 => ?_
 refine r_as z ?_
 refine nsr ?_
 refine r_as z ?_
 refine nssr ?_
 refine r_as z ?_
 refine nsq ?_
 obtain ⟨p1, hp2, hm3⟩ := bs hm
 refine cd_join (E' := [(5, vI p1)]) (L' := Bk b0 36 (Af.k a0 g0_) :: F) ?_ fun K4 => ?_
 ·refine x_seq (csr ?_)
  refine r_mv z (r_as z ?_)
  refine r_nil (x_seq (c_ret ?_))
  obtain rfl := si hm3
  refine ex_st (fun _ h => st_pk 1 [] (by decide) h) ?_
  exact x_r1 z (rv_t z) (Le.refl _) ⟨_, z, z, z, z⟩
 refine c_blk ?_
 refine cd_loop (M := fun k7 (s : Int × Int) => AJ a0 a1 k7 s.1 s.2 = some p1) (Ef := fun (s : Int × Int) => [(1, vS a1), (2, pt b0 0), (5, vI s.1), (6, vI s.2)]) (Lf := fun (s : Int × Int) => Bk b0 36 (Af.k a0 g0_) :: F) 5 (15, 0) hp2 ⟨z, z, z, z, trivial⟩ (fun _ h => h) (fun _ h => by cases h) fun k7 s hM9 => ?_
 obtain ⟨n_5, i_6⟩ := s
 have hm8 : AJ a0 a1 (k7 + 1) n_5 i_6 = some p1 := hM9
 rw [AJ] at hm8
 refine c_seq (csr ?_)
 refine r_mv z (r_bin z z (bI_lt i_6 4) ?_)
 refine nsq ?_
 refine c_if (b := decide (i_6 < 4)) z (fun h10 => ?_) fun h10 => ?_
 rotate_left
 ·have hm11 := iff_ hm8 h10
  clear hm8
  refine c_exit (x_exit (ks' := _) z ?_)
  obtain rfl := si hm11
  exact x_sub K4 ⟨z, trivial⟩ (fun _ h => st_pk 1 [0] (by decide) h)
 have hm11 := ift hm8 h10
 clear hm8
 refine c_skip (x_seq (c_seq (c_blk (c_seq ?_))))
 obtain ⟨x12, hx12, hm14⟩ := bs hm11
 clear hm11
 obtain ⟨b12, o12, l12, T12, fr12, c12, u13, hv12, hR12, he12, hi12, hN12⟩ := RoN.ne h0.1 hx12
 obtain ⟨r15, hr15, hm16⟩ := bs hm14
 clear hm14
 obtain ⟨x17, hx17, hm18⟩ := bs hm16
 clear hm16
 obtain ⟨b17, o17, l17, T17, fr17, c17, hv17, hR17, he17, hi17⟩ := RoS.ne hN12 hx17
 refine c_any mixed (effs := []) (V := []) ?_
 refine stage_ext [(0, pt b0 2), (1, g0_.Rows.1), (2, vI i_6), (3, pt b12 (o12 + i_6.toNat * 1)), (4, u13), (5, .agg (Af.k a0 g0_).toArray), (6, vS a1), (7, vI i_6), (8, vI r15), (9, pt b17 (o17 + r15.toNat * 1)), (10, vI x17), (11, vI x17)] z ?_
 refine stage z z z z [0, 1, 0, 7, 15, 0, 0, 0, 224, 511, 1023, 2047] [0, 1, 2, 3, 4, 5, 6, 7, 8, 9, 10, 11] [] z z z (q_fa z z fa36_2 z (q_ld z z 0 sc33 z z z (q_mv z z z (q_u z z (o_ix (sz := 1) Tryz.underlying33 (fun _ => by kernel_rfl) z z hv12 hi12) (q_u z z (o_ldR sc135 z hR12 (rok 0 he12 (by decide))) (q_u z z (o_ldn 0 (Af.k a0 g0_) ag36 z z z z) (q_mv z z z (q_mv z z z (q_u z z (o_callq ca129 z (AM.ok a0 (⟨(g0_.Rows.1, []), g0_.Door⟩ : Af.G) ⟨h0.1, h0.2⟩ a1 i_6 r15 hr15)) (q_u z z (o_ix (sz := 1) Tryz.underlying135 (fun _ => by kernel_rfl) z z hv17 hi17) (q_u z z (o_ldR sc3 z hR17 (rok 0 he17 (by decide))) (q_u z z (o_as z) qn)))))))))))) en ?_
 intro _
 refine ex_sub (E' := [(1, vS a1), (2, pt b0 0), (5, vI n_5), (6, vI i_6), (7, vI x17)]) ⟨z, z, z, z, z, trivial⟩ ?_
 refine x_seq (csr ?_)
 refine r_mv z (r_mv z (r_bin z z (bI_lt x17 n_5) ?_))
 refine nsq ?_
 obtain ⟨p19, hp20, hm21⟩ := bs hm18
 refine cd_join (E' := [(1, vS a1), (2, pt b0 0), (6, vI i_6), (5, vI p19)]) (L' := Bk b0 36 (Af.k a0 g0_) :: F) ?_ fun K22 => ?_
 ·refine x_blk (x_seq (c_reg ?_))
  refine r_mv z (r_bin z z (bI_add i_6 1) (r_as z ?_))
  refine r_nil ?_
  exact x_lp (p19, i64 (i_6 + 1)) hm21 ⟨z, z, z, z, trivial⟩ (fun _ h => st_pk 1 [0] (by decide) h)
 refine c_if (b := decide (x17 < n_5)) z (fun h23 => ?_) fun h23 => ?_
 ·have hm24 := ift hp20 h23
  clear hp20
  refine c_reg ?_
  refine r_mv z (r_as z ?_)
  refine r_nil ?_
  obtain rfl := si hm24
  exact x_sub K22 ⟨z, z, z, z, trivial⟩ (fun _ h => st_pk 1 [0] (by decide) h)
 have hm24 := iff_ hp20 h23
 clear hp20
 refine c_skip ?_
 obtain rfl := si hm24
 exact x_sub K22 ⟨z, z, z, z, trivial⟩ (fun _ h => st_pk 1 [0] (by decide) h)
def AS (a0 : Af) (i_12 : Int) : Nat → Int → (List (List Int)) → Option (List (List Int))
 | 0, _, _ => none
 | k29 + 1, k_27, c_28 => if decide (k_27 < a0.Wide) then (gi c_28 i_12).bind fun y34 => (gi a0.Rows i_12).bind fun x37 => (gi x37 k_27).bind fun x40 => (gi y34 k_27).bind fun x42 => AS a0 i_12 k29 (i64 (k_27 + 1)) (ls c_28 i_12 (ls y34 k_27 (i64 (x40.tdiv 2)))) else some c_28
def AZ (a0 : Af) : Nat → Int → (List (List Int)) → Option (List (List Int))
 | 0, _, _ => none
 | k14 + 1, i_12, c_13 => if decide (i_12 < 4) then Option.bind (Option.bind (AS a0 i_12 ((a0.Wide - 0).toNat + 1) 0 c_13) fun p23 => some p23) fun p19 => AZ a0 k14 (i64 (i_12 + 1)) p19 else some c_13
def BD (a0 : Af) : Option Af :=
 (BM a0.Wide a0.Seed).bind fun r2 => Option.bind (AZ a0 5 0 r2.Rows) fun p8 => some (⟨r2.Wide, r2.Seed, p8, r2.Door, i64 (a0.Added.tdiv 2)⟩ : Af)
theorem BD.ok {G R F} (a0 : Af) (g0_ : Af.G) (h0 : Af.ro R a0 g0_) (r : Af) (hm : BD a0 = some r) : CO Tryz.prog 131 [.agg (Af.k a0 g0_).toArray] G R (F)
  (Ret fun u R' L' => ∃ (p0 : Af.G), u = .agg (Af.k r p0).toArray ∧ R' = R ∧ L' = OwS true 135 1 eV p0.Rows.1 p0.Rows.2 :: OwL (OwS true 3 1 eI) p0.Rows.2 r.Rows :: OwS true 4 1 eB p0.Door r.Door :: F) := by
 unfold BD at hm
 refine co_ofN (N := 42) Tryz.func131 z z ?_
 refine csr ?_
 refine r_new (o_bx (Af.k a0 g0_) z z) fun b0 => ?_
 refine r_new (o_al ze36) fun b1 => ?_
 refine nsr ?_
 refine r_fa fa36_0 z (r_ld 1 sc3 z z z (r_fa fa36_1 z (r_ld 1 sc27 z z z ?_)))
 obtain ⟨r2, hr2, hm6⟩ := bs hm
 clear hm
 refine r_sw (s_w (o_call ca62 z (BM.ok a0.Wide a0.Seed r2 hr2))) ?_
 rintro _ R _ _ ⟨v3, rfl, rfl, rfl⟩
 refine r_new (o_al ze36) fun b7 => ?_
 refine rl_st (fun _ h => mv2 (mv2 (mv3 h))) ?_
 refine r_u0 (ou_if (one_o 1 z) fun ho0 => ou_if (one_o 2 z) fun ho1 => o_stn ag36 z z z (al_c z (al_c z (al_c ho0 (al_c ho1 (al_c z al_n))))) z z z) ?_
 refine nssr ?_
 refine r_as z ?_
 refine nsq ?_
 obtain ⟨p8, hp9, hm10⟩ := bs hm6
 refine cd_join (E' := [(1, pt b0 0), (2, pt b1 0), (3, pt b7 0)]) (L' := Bk b7 36 (Af.k r2 v3) :: Bk b1 36 [vI 0, vW 0, .slice none 0 0, .slice none 0 0, vI 0] :: Bk b0 36 (Af.k a0 g0_) :: OwS true 135 1 eV v3.Rows.1 v3.Rows.2 :: OwS true 4 1 eB v3.Door r2.Door :: OwL (OwS true 3 1 eI) v3.Rows.2 p8 :: F) ?_ fun K11 => ?_
 ·refine x_seq (csr ?_)
  refine r_fa fa36_4 z (r_ld 2 sc3 z z z (r_bin z z (bI_quo a0.Added 2 (by decide)) (r_fa fa36_4 z ?_)))
  refine r_u0 (o_st sc3 z z z z z z) ?_
  refine nsr ?_
  refine r_u (o_ldn 0 [vI r2.Wide, vW r2.Seed, v3.Rows.1, v3.Door, vI (i64 (a0.Added.tdiv 2))] ag36 z z z z) ?_
  refine rl_st (fun _ h => mv3 (mv4 (mv4 h))) ?_
  refine r_u0 (ou_if (one_o 1 z) fun ho0 => ou_if (one_o 2 z) fun ho1 => o_stn ag36 z z z (al_c z (al_c z (al_c ho0 (al_c ho1 (al_c z al_n))))) z z z) ?_
  refine r_nil (x_seq (c_ret ?_))
  obtain rfl := si hm10
  exact x_d1 z (rv_n 0 [vI r2.Wide, vW r2.Seed, v3.Rows.1, v3.Door, vI (i64 (a0.Added.tdiv 2))] ag36 z z z z) (fun _ h => st_pk 6 [1, 5, 2] (by decide) h) (Le.refl _) ⟨_, z, v3, z, z, z⟩
 refine c_blk ?_
 refine cd_loop (M := fun k14 (s : Int × List (List Int)) => AZ a0 k14 s.1 s.2 = some p8) (Ef := fun (s : Int × List (List Int)) => [(1, pt b0 0), (2, pt b1 0), (3, pt b7 0), (4, vI s.1)]) (Lf := fun (s : Int × List (List Int)) => Bk b7 36 (Af.k r2 v3) :: Bk b1 36 [vI 0, vW 0, .slice none 0 0, .slice none 0 0, vI 0] :: Bk b0 36 (Af.k a0 g0_) :: OwS true 135 1 eV v3.Rows.1 v3.Rows.2 :: OwS true 4 1 eB v3.Door r2.Door :: OwL (OwS true 3 1 eI) v3.Rows.2 s.2 :: F) 5 (0, r2.Rows) hp9 ⟨z, z, z, z, trivial⟩ (fun _ h => st_pk 6 [0, 4, 5, 1, 2, 3] (by decide) h) (fun _ h => by cases h) fun k14 s hM16 => ?_
 obtain ⟨i_12, c_13⟩ := s
 have hm15 : AZ a0 (k14 + 1) i_12 c_13 = some p8 := hM16
 rw [AZ] at hm15
 refine c_seq (csr ?_)
 refine r_mv z (r_bin z z (bI_lt i_12 4) ?_)
 refine nsq ?_
 refine c_if (b := decide (i_12 < 4)) z (fun h17 => ?_) fun h17 => ?_
 rotate_left
 ·have hm18 := iff_ hm15 h17
  clear hm15
  refine c_exit (x_exit (ks' := _) z ?_)
  obtain rfl := si hm18
  exact x_sub K11 ⟨z, z, z, trivial⟩ (fun _ h => st_pk 6 [0, 1, 2, 3, 4, 5] (by decide) h)
 have hm18 := ift hm15 h17
 clear hm15
 refine c_skip (x_seq (c_seq ?_))
 obtain ⟨p19, hp20, hm21⟩ := bs hm18
 refine cd_join (E' := [(1, pt b0 0), (2, pt b1 0), (3, pt b7 0), (4, vI i_12)]) (L' := Bk b7 36 (Af.k r2 v3) :: Bk b1 36 [vI 0, vW 0, .slice none 0 0, .slice none 0 0, vI 0] :: Bk b0 36 (Af.k a0 g0_) :: OwS true 135 1 eV v3.Rows.1 v3.Rows.2 :: OwS true 4 1 eB v3.Door r2.Door :: OwL (OwS true 3 1 eI) v3.Rows.2 p19 :: F) ?_ fun K22 => ?_
 ·refine x_seq (c_reg ?_)
  refine r_mv z (r_bin z z (bI_add i_12 1) (r_as z ?_))
  refine r_nil ?_
  exact x_lp (i64 (i_12 + 1), p19) hm21 ⟨z, z, z, z, trivial⟩ (fun _ h => st_pk 6 [0, 1, 2, 3, 4, 5] (by decide) h)
 refine c_blk (csr ?_)
 refine r_as z ?_
 refine nsq ?_
 obtain ⟨p23, hp24, hm25⟩ := bs hp20
 refine cd_join (E' := [(1, pt b0 0), (2, pt b1 0), (3, pt b7 0), (4, vI i_12)]) (L' := Bk b7 36 (Af.k r2 v3) :: Bk b1 36 [vI 0, vW 0, .slice none 0 0, .slice none 0 0, vI 0] :: Bk b0 36 (Af.k a0 g0_) :: OwS true 135 1 eV v3.Rows.1 v3.Rows.2 :: OwS true 4 1 eB v3.Door r2.Door :: OwL (OwS true 3 1 eI) v3.Rows.2 p23 :: F) ?_ fun K26 => ?_
 ·refine x_blk ?_
  obtain rfl := si hm25
  exact x_sub K22 ⟨z, z, z, z, trivial⟩ (fun _ h => st_pk 6 [0, 1, 2, 3, 4, 5] (by decide) h)
 refine c_blk ?_
 refine cd_loop (M := fun k29 (s : Int × List (List Int)) => AS a0 i_12 k29 s.1 s.2 = some p23) (Ef := fun (s : Int × List (List Int)) => [(1, pt b0 0), (2, pt b1 0), (3, pt b7 0), (4, vI i_12), (5, vI s.1)]) (Lf := fun (s : Int × List (List Int)) => Bk b7 36 (Af.k r2 v3) :: Bk b1 36 [vI 0, vW 0, .slice none 0 0, .slice none 0 0, vI 0] :: Bk b0 36 (Af.k a0 g0_) :: OwS true 135 1 eV v3.Rows.1 v3.Rows.2 :: OwS true 4 1 eB v3.Door r2.Door :: OwL (OwS true 3 1 eI) v3.Rows.2 s.2 :: F) ((a0.Wide - 0).toNat + 1) (0, c_13) hp24 ⟨z, z, z, z, z, trivial⟩ (fun _ h => h) (fun _ h => by cases h) fun k29 s hM31 => ?_
 obtain ⟨k_27, c_28⟩ := s
 have hm30 : AS a0 i_12 (k29 + 1) k_27 c_28 = some p23 := hM31
 rw [AS] at hm30
 refine c_seq (csr ?_)
 refine r_mv z (r_fa fa36_0 z (r_ld 2 sc3 z z z (r_bin z z (bI_lt k_27 a0.Wide) ?_)))
 refine nsq ?_
 refine c_if (b := decide (k_27 < a0.Wide)) z (fun h32 => ?_) fun h32 => ?_
 rotate_left
 ·have hm33 := iff_ hm30 h32
  clear hm30
  refine c_exit (x_exit (ks' := _) z ?_)
  obtain rfl := si hm33
  exact x_sub K26 ⟨z, z, z, z, trivial⟩ (fun _ h => st_pk 6 [0, 1, 2, 3, 4, 5] (by decide) h)
 have hm33 := ift hm30 h32
 clear hm30
 refine c_skip (x_seq (c_seq (c_blk ?_)))
 obtain ⟨y34, hy34, hm36⟩ := bs hm33
 clear hm33
 refine cd_ex (fun w h => st_peek 5 hy34 z w h) fun u35 hu35 => ?_
 obtain ⟨x37, hx37, hm39⟩ := bs hm36
 clear hm36
 obtain ⟨b37, o37, l37, T37, fr37, c37, u38, hv37, hR37, he37, hi37, hN37⟩ := RoN.ne h0.1 hx37
 obtain ⟨x40, hx40, hm41⟩ := bs hm39
 clear hm39
 obtain ⟨b40, o40, l40, T40, fr40, c40, hv40, hR40, he40, hi40⟩ := RoS.ne hN37 hx40
 obtain ⟨x42, hx42, hm43⟩ := bs hm41
 clear hm41
 refine c_any mixed (effs := [16]) (V := []) ?_
 refine stage_st (fun _ h => mv5 h) ?_
 refine stage_ext [(0, pt b7 2), (1, v3.Rows.1), (2, vI i_12), (3, pt (sb v3.Rows.1) (so v3.Rows.1 + i_12.toNat * 1)), (4, u35), (5, vI k_27), (6, pt b0 2), (7, g0_.Rows.1), (8, vI i_12), (9, pt b37 (o37 + i_12.toNat * 1)), (10, u38), (11, vI k_27), (12, pt b40 (o40 + k_27.toNat * 1)), (13, vI x40), (14, vI (i64 (x40.tdiv 2))), (15, pt (sb u35) (so u35 + k_27.toNat * 1))] z ?_
 refine stage z z z z mk18_ [0, 1, 2, 3, 4, 5, 6, 7, 8, 9, 10, 11, 12, 13, 14, 15] [16] z z z (q_fa z z fa36_2 z (q_ld z z 1 sc33 z z z (q_mv z z z (q_u z z (o_ixO 4 Tryz.underlying33 (fun _ => by kernel_rfl) z z z hu35) (q_u z z (o_ldO0 4 sc135 z z hu35 z z) (q_mv z z z (q_fa z z fa36_2 z (q_ld z z 3 sc33 z z z (q_mv z z z (q_u z z (o_ix (sz := 1) Tryz.underlying33 (fun _ => by kernel_rfl) z z hv37 hi37) (q_u z z (o_ldR sc135 z hR37 (rok 0 he37 (by decide))) (q_mv z z z (q_u z z (o_ix (sz := 1) Tryz.underlying135 (fun _ => by kernel_rfl) z z hv40 hi40) (q_u z z (o_ldR sc3 z hR40 (rok 0 he40 (by decide))) (q_u z z (o_bin z z (bI_quo x40 2 (by decide))) (q_u z z (o_ixK (kn_in 0 z hu35 hy34) Tryz.underlying135 (fun _ => by kernel_rfl) z z hx42) qn)))))))))))))))) ?_ (nxt z)
 refine ec (eo_u z (s_u (o_stL (c' := i64 (x40.tdiv 2)) 0 hu35 hy34 sc3 z z z hx42 z z z)) (Le.refl _) ?_) en
 refine stage z z z z mk18_ [] [] z z z qn en ?_
 intro _
 refine ex_sub (E' := [(1, pt b0 0), (2, pt b1 0), (3, pt b7 0), (4, vI i_12), (5, vI k_27)]) ⟨z, z, z, z, z, trivial⟩ ?_
 refine x_blk (x_seq (c_reg ?_))
 refine r_mv z (r_bin z z (bI_add k_27 1) (r_as z ?_))
 refine r_nil ?_
 exact x_lp (i64 (k_27 + 1), ls c_28 i_12 (ls y34 k_27 (i64 (x40.tdiv 2)))) hm43 ⟨z, z, z, z, z, trivial⟩ (fun _ h => st_pk 6 [1, 2, 3, 4, 5, 0] (by decide) h)
def AO (a0 : Af) (a1 : Str) (r41 : Int) : Nat → Int → (List (List Int)) → Option (List (List Int))
 | 0, _, _ => none
 | k49 + 1, i_47, c_48 => if decide (i_47 < 4) then (AM a0 a1 i_47).bind fun r54 => (gi a0.Rows i_47).bind fun x56 => (gi x56 r54).bind fun x59 => Option.bind (if ((x59 == r41) && decide (r41 < 15)) then (gi c_48 i_47).bind fun y67 => (gi y67 r54).bind fun x70 => some (ls c_48 i_47 (ls y67 r54 (i64 (x70 + 1)))) else some c_48) fun p61 => AO a0 a1 r41 k49 (i64 (i_47 + 1)) p61 else some c_48
def AT (a0 : Af) : Nat → Int → (List (List Int)) → Option (List (List Int))
 | 0, _, _ => none
 | k74 + 1, i_72, c_73 => if decide (i_72 < 4) then (gi c_73 i_72).bind fun y79 => (gi a0.Rows i_72).bind fun x82 => (cpy y79 x82).bind fun l85 => AT a0 k74 (i64 (i_72 + 1)) (ls c_73 i_72 l85) else some c_73
def AX (a0 : Af) (a1 : Str) : Option Af :=
 (BM a0.Wide a0.Seed).bind fun r2 => (cpy r2.Door a0.Door).bind fun l8 => Option.bind (AT a0 5 0 r2.Rows) fun p10 => (AM a0 a1 4).bind fun r14 => (gi a0.Door r14).bind fun x16 => Option.bind (if !x16 then (gi l8 r14).bind fun x39 => some (ls l8 r14 true, p10) else (AW a0 a1).bind fun r41 => Option.bind (AO a0 a1 r41 5 0 p10) fun p43 => some (l8, p43)) fun p18 => if decide ((i64 (10 * a0.Wide)) ≤ (i64 (a0.Added + 1))) then (BD (⟨r2.Wide, r2.Seed, p18.2, p18.1, i64 (a0.Added + 1)⟩ : Af)).bind fun r32 => some r32 else some (⟨r2.Wide, r2.Seed, p18.2, p18.1, i64 (a0.Added + 1)⟩ : Af)
theorem AX.ok {G R F} (a0 : Af) (g0_ : Af.G) (h0 : Af.ro R a0 g0_) (a1 : Str) (r : Af) (hm : AX a0 a1 = some r) : CO Tryz.prog 101 [.agg (Af.k a0 g0_).toArray, vS a1] G R (F)
  (Ret fun u R' L' => ∃ (p0 : Af.G), u = .agg (Af.k r p0).toArray ∧ True ∧ L' = OwS true 135 1 eV p0.Rows.1 p0.Rows.2 :: OwL (OwS true 3 1 eI) p0.Rows.2 r.Rows :: OwS true 4 1 eB p0.Door r.Door :: F) := by
 unfold AX at hm
 refine co_ofN (N := 97) Tryz.func101 z z ?_
 refine csr ?_
 refine r_new (o_bx (Af.k a0 g0_) z z) fun b0 => ?_
 refine r_new (o_al ze36) fun b1 => ?_
 refine nsr ?_
 refine r_fa fa36_0 z (r_ld 1 sc3 z z z (r_fa fa36_1 z (r_ld 1 sc27 z z z ?_)))
 obtain ⟨r2, hr2, hm6⟩ := bs hm
 clear hm
 refine r_sw (s_w (o_call ca62 z (BM.ok a0.Wide a0.Seed r2 hr2))) ?_
 rintro _ R _ _ ⟨v3, rfl, rfl, rfl⟩
 refine r_new (o_al ze36) fun b7 => ?_
 refine rl_st (fun _ h => mv2 (mv2 (mv3 h))) ?_
 refine r_u0 (ou_if (one_o 1 z) fun ho0 => ou_if (one_o 2 z) fun ho1 => o_stn ag36 z z z (al_c z (al_c z (al_c ho0 (al_c ho1 (al_c z al_n))))) z z z) ?_
 refine nsr ?_
 refine r_fa fa36_3 z (r_ld 0 sc34 z z z (r_fa fa36_3 z (r_ld 5 sc34 z z z ?_)))
 obtain ⟨l8, hl8, hm9⟩ := bs hm6
 clear hm6
 refine rl_st (fun _ h => mv2 h) ?_
 refine r_u (o_cp Tryz.underlying34 z z (fun _ => ⟨_, z, z⟩) z z z h0.2 hl8) ?_
 refine nssr ?_
 refine r_as z ?_
 refine nsq ?_
 obtain ⟨p10, hp11, hm12⟩ := bs hm9
 refine cd_join (E' := [(1, vS a1), (2, pt b0 0), (4, pt b1 0), (5, pt b7 0)]) (L' := Bk b7 36 (Af.k r2 v3) :: Bk b1 36 [vI 0, vW 0, .slice none 0 0, .slice none 0 0, vI 0] :: Bk b0 36 (Af.k a0 g0_) :: OwS true 4 1 eB v3.Door l8 :: OwS true 135 1 eV v3.Rows.1 v3.Rows.2 :: OwL (OwS true 3 1 eI) v3.Rows.2 p10 :: F) ?_ fun K13 => ?_
 rotate_left
 ·refine c_blk ?_
  refine cd_loop (M := fun k74 (s : Int × List (List Int)) => AT a0 k74 s.1 s.2 = some p10) (Ef := fun (s : Int × List (List Int)) => [(1, vS a1), (2, pt b0 0), (4, pt b1 0), (5, pt b7 0), (6, vI s.1)]) (Lf := fun (s : Int × List (List Int)) => Bk b7 36 (Af.k r2 v3) :: Bk b1 36 [vI 0, vW 0, .slice none 0 0, .slice none 0 0, vI 0] :: Bk b0 36 (Af.k a0 g0_) :: OwS true 4 1 eB v3.Door l8 :: OwS true 135 1 eV v3.Rows.1 v3.Rows.2 :: OwL (OwS true 3 1 eI) v3.Rows.2 s.2 :: F) 5 (0, r2.Rows) hp11 ⟨z, z, z, z, z, trivial⟩ (fun _ h => st_pk 6 [1, 4, 5, 0, 2, 3] (by decide) h) (fun _ h => by cases h) fun k74 s hM76 => ?_
  obtain ⟨i_72, c_73⟩ := s
  have hm75 : AT a0 (k74 + 1) i_72 c_73 = some p10 := hM76
  rw [AT] at hm75
  refine c_seq (csr ?_)
  refine r_mv z (r_bin z z (bI_lt i_72 4) ?_)
  refine nsq ?_
  refine c_if (b := decide (i_72 < 4)) z (fun h77 => ?_) fun h77 => ?_
  rotate_left
  ·have hm78 := iff_ hm75 h77
   clear hm75
   refine c_exit (x_exit (ks' := _) z ?_)
   obtain rfl := si hm78
   exact x_sub K13 ⟨z, z, z, z, trivial⟩ (fun _ h => st_pk 6 [0, 1, 2, 3, 4, 5] (by decide) h)
  have hm78 := ift hm75 h77
  clear hm75
  refine c_skip (x_seq (c_seq (c_blk ?_)))
  obtain ⟨y79, hy79, hm81⟩ := bs hm78
  clear hm78
  refine cd_ex (fun w h => st_peek 5 hy79 z w h) fun u80 hu80 => ?_
  obtain ⟨x82, hx82, hm84⟩ := bs hm81
  clear hm81
  obtain ⟨b82, o82, l82, T82, fr82, c82, u83, hv82, hR82, he82, hi82, hN82⟩ := RoN.ne h0.1 hx82
  obtain ⟨l85, hl85, hm86⟩ := bs hm84
  clear hm84
  refine c_any mixed (effs := [10]) (V := []) ?_
  refine stage_st (fun _ h => mv5 h) ?_
  refine stage_ext [(0, pt b7 2), (1, v3.Rows.1), (2, vI i_72), (3, pt (sb v3.Rows.1) (so v3.Rows.1 + i_72.toNat * 1)), (4, u80), (5, pt b0 2), (6, g0_.Rows.1), (7, vI i_72), (8, pt b82 (o82 + i_72.toNat * 1)), (9, u83)] z ?_
  refine stage z z z z mk19_ [0, 1, 2, 3, 4, 5, 6, 7, 8, 9] [10] z z z (q_fa z z fa36_2 z (q_ld z z 1 sc33 z z z (q_mv z z z (q_u z z (o_ixO 5 Tryz.underlying33 (fun _ => by kernel_rfl) z z z hu80) (q_u z z (o_ldO0 5 sc135 z z hu80 z z) (q_fa z z fa36_2 z (q_ld z z 3 sc33 z z z (q_mv z z z (q_u z z (o_ix (sz := 1) Tryz.underlying33 (fun _ => by kernel_rfl) z z hv82 hi82) (q_u z z (o_ldR sc135 z hR82 (rok 0 he82 (by decide))) qn)))))))))) ?_ (nxt z)
  refine ec (eo_u z (s_u (o_cpL hu80 hy79 Tryz.underlying135 z z (fun _ => ⟨_, z, z⟩) z z z hN82 hl85)) (Le.refl _) ?_) en
  refine stage z z z z mk19_ [] [] z z z qn en ?_
  intro _
  refine ex_sub (E' := [(1, vS a1), (2, pt b0 0), (4, pt b1 0), (5, pt b7 0), (6, vI i_72)]) ⟨z, z, z, z, z, trivial⟩ ?_
  refine x_blk (x_seq (c_reg ?_))
  refine r_mv z (r_bin z z (bI_add i_72 1) (r_as z ?_))
  refine r_nil ?_
  exact x_lp (i64 (i_72 + 1), ls c_73 i_72 l85) hm86 ⟨z, z, z, z, z, trivial⟩ (fun _ h => st_pk 6 [1, 2, 3, 4, 5, 0] (by decide) h)
 refine x_seq (csr ?_)
 refine r_fa fa36_4 z (r_ld 2 sc3 z z z (r_bin z z (bI_add a0.Added 1) (r_fa fa36_4 z ?_)))
 refine r_u0 (o_st sc3 z z z z z z) ?_
 refine nssr ?_
 refine r_u (o_ldn 2 (Af.k a0 g0_) ag36 z z z z) (r_mv z ?_)
 obtain ⟨r14, hr14, hm15⟩ := bs hm12
 clear hm12
 refine r_u (o_callq ca129 z (AM.ok a0 (⟨(g0_.Rows.1, []), g0_.Door⟩ : Af.G) ⟨h0.1, h0.2⟩ a1 4 r14 hr14)) (r_as z ?_)
 refine nsr ?_
 refine r_fa fa36_3 z (r_ld 2 sc34 z z z (r_mv z ?_))
 obtain ⟨x16, hx16, hm17⟩ := bs hm15
 clear hm15
 obtain ⟨b16, o16, l16, T16, fr16, c16, hv16, hR16, he16, hi16⟩ := RoS.ne h0.2 hx16
 refine r_u (o_ix (sz := 1) Tryz.underlying34 (fun _ => by kernel_rfl) z z hv16 hi16) ?_
 refine r_u (o_ldR sc4 z hR16 (rok 0 he16 (by decide))) ?_
 refine r_u (o_not z) ?_
 refine nsq ?_
 obtain ⟨p18, hp19, hm20⟩ := bs hm17
 refine cd_join (E' := [(2, pt b0 0), (4, pt b1 0), (5, pt b7 0)]) (L' := Bk b7 36 [vI r2.Wide, vW r2.Seed, v3.Rows.1, v3.Door, vI (i64 (a0.Added + 1))] :: Bk b1 36 [vI 0, vW 0, .slice none 0 0, .slice none 0 0, vI 0] :: Bk b0 36 (Af.k a0 g0_) :: OwS true 4 1 eB v3.Door p18.1 :: OwS true 135 1 eV v3.Rows.1 v3.Rows.2 :: OwL (OwS true 3 1 eI) v3.Rows.2 p18.2 :: F) ?_ fun K21 => ?_
 ·refine x_seq (c_seq (csr ?_))
  refine r_fa fa36_4 z (r_ld 0 sc3 z z z (r_fa fa36_0 z (r_ld 2 sc3 z z z (r_bin z z (bI_mul 10 a0.Wide) (r_bin z z (bI_ge (i64 (a0.Added + 1)) (i64 (10 * a0.Wide))) ?_)))))
  refine nsq ?_
  refine c_if (b := decide ((i64 (10 * a0.Wide)) ≤ (i64 (a0.Added + 1)))) z (fun h22 => ?_) fun h22 => ?_
  ·have hm23 := ift hm20 h22
   clear hm20
   refine csr ?_
   refine r_u (o_ldn 0 [vI r2.Wide, vW r2.Seed, v3.Rows.1, v3.Door, vI (i64 (a0.Added + 1))] ag36 z z z z) ?_
   refine rl_st (fun _ h => mv5 (mv5 h)) ?_
   refine rl_ex (fun w h => st_freezeN w h) fun R24 hf27 => ?_
   obtain ⟨le25, h26⟩ := hf27
   refine rl_st (fun _ h => mv3 h) ?_
   refine rl_ex (fun w h => st_freeze w h) fun R28 hf31 => ?_
   obtain ⟨le29, h30⟩ := hf31
   obtain ⟨r32, hr32, hm36⟩ := bs hm23
   clear hm23
   refine r_sw (s_w (o_call ca131 z (BD.ok (⟨r2.Wide, r2.Seed, p18.2, p18.1, i64 (a0.Added + 1)⟩ : Af) (⟨(v3.Rows.1, []), v3.Door⟩ : Af.G) ⟨(RoN.mono le29 h26), h30⟩ r32 hr32))) ?_
   rintro _ R28 _ _ ⟨v33, rfl, rfl, rfl⟩
   refine rl_st (fun _ h => mv4 (mv1 (mv2 h))) ?_
   refine r_u0 (ou_if (one_o 1 z) fun ho0 => ou_if (one_o 2 z) fun ho1 => o_stn ag36 z z z (al_c z (al_c z (al_c ho0 (al_c ho1 (al_c z al_n))))) z z z) ?_
   refine r_nil (x_seq (c_ret ?_))
   obtain rfl := si hm36
   exact x_d1 z (rv_n 0 (Af.k r32 v33) ag36 z z z z) (fun _ h => st_pk 6 [1, 3, 2] (by decide) h) (Le.trans le25 le29) ⟨_, z, v33, z, trivial, z⟩
  have hm23 := iff_ hm20 h22
  clear hm20
  refine c_skip (x_seq (csr ?_))
  refine r_u (o_ldn 0 [vI r2.Wide, vW r2.Seed, v3.Rows.1, v3.Door, vI (i64 (a0.Added + 1))] ag36 z z z z) ?_
  refine rl_st (fun _ h => mv3 (mv4 (mv3 h))) ?_
  refine r_u0 (ou_if (one_o 1 z) fun ho0 => ou_if (one_o 2 z) fun ho1 => o_stn ag36 z z z (al_c z (al_c z (al_c ho0 (al_c ho1 (al_c z al_n))))) z z z) ?_
  refine r_nil (x_seq (c_ret ?_))
  obtain rfl := si hm23
  exact x_d1 z (rv_n 0 [vI r2.Wide, vW r2.Seed, v3.Rows.1, v3.Door, vI (i64 (a0.Added + 1))] ag36 z z z z) (fun _ h => st_pk 6 [1, 5, 2] (by decide) h) (Le.refl _) ⟨_, z, v3, z, trivial, z⟩
 refine c_if (b := !x16) z (fun h37 => ?_) fun h37 => ?_
 ·have hm38 := ift hp19 h37
  clear hp19
  refine c_reg ?_
  refine r_fa fa36_3 z (r_ld 0 sc34 z z z (r_mv z ?_))
  obtain ⟨x39, hx39, hm40⟩ := bs hm38
  clear hm38
  refine r_u (o_ixO 3 Tryz.underlying34 (fun _ => by kernel_rfl) z z z hx39) ?_
  refine rl_st (fun _ h => mv3 h) ?_
  refine r_u0 (o_stO0 (c' := true) sc4 z z z hx39 z z z) ?_
  refine r_nil ?_
  obtain rfl := si hm40
  exact x_sub K21 ⟨z, z, z, trivial⟩ (fun _ h => st_pk 6 [1, 2, 3, 0, 4, 5] (by decide) h)
 have hm38 := iff_ hp19 h37
 clear hp19
 refine csr ?_
 refine r_u (o_ldn 2 (Af.k a0 g0_) ag36 z z z z) (r_mv z ?_)
 obtain ⟨r41, hr41, hm42⟩ := bs hm38
 clear hm38
 refine r_u (o_callq ca130 z (AW.ok a0 (⟨(g0_.Rows.1, []), g0_.Door⟩ : Af.G) ⟨h0.1, h0.2⟩ a1 r41 hr41)) (r_as z ?_)
 refine nsr ?_
 refine r_as z ?_
 refine nsq ?_
 obtain ⟨p43, hp44, hm45⟩ := bs hm42
 refine cd_join (E' := [(2, pt b0 0), (4, pt b1 0), (5, pt b7 0)]) (L' := Bk b7 36 [vI r2.Wide, vW r2.Seed, v3.Rows.1, v3.Door, vI (i64 (a0.Added + 1))] :: Bk b1 36 [vI 0, vW 0, .slice none 0 0, .slice none 0 0, vI 0] :: Bk b0 36 (Af.k a0 g0_) :: OwS true 4 1 eB v3.Door l8 :: OwS true 135 1 eV v3.Rows.1 v3.Rows.2 :: OwL (OwS true 3 1 eI) v3.Rows.2 p43 :: F) ?_ fun K46 => ?_
 ·obtain rfl := si hm45
  exact x_sub K21 ⟨z, z, z, trivial⟩ (fun _ h => st_pk 6 [0, 1, 2, 3, 4, 5] (by decide) h)
 refine c_blk ?_
 refine cd_loop (M := fun k49 (s : Int × List (List Int)) => AO a0 a1 r41 k49 s.1 s.2 = some p43) (Ef := fun (s : Int × List (List Int)) => [(1, vS a1), (2, pt b0 0), (4, pt b1 0), (5, pt b7 0), (8, vI r41), (9, vI s.1)]) (Lf := fun (s : Int × List (List Int)) => Bk b7 36 [vI r2.Wide, vW r2.Seed, v3.Rows.1, v3.Door, vI (i64 (a0.Added + 1))] :: Bk b1 36 [vI 0, vW 0, .slice none 0 0, .slice none 0 0, vI 0] :: Bk b0 36 (Af.k a0 g0_) :: OwS true 4 1 eB v3.Door l8 :: OwS true 135 1 eV v3.Rows.1 v3.Rows.2 :: OwL (OwS true 3 1 eI) v3.Rows.2 s.2 :: F) 5 (0, p10) hp44 ⟨z, z, z, z, z, z, trivial⟩ (fun _ h => h) (fun _ h => by cases h) fun k49 s hM51 => ?_
 obtain ⟨i_47, c_48⟩ := s
 have hm50 : AO a0 a1 r41 (k49 + 1) i_47 c_48 = some p43 := hM51
 rw [AO] at hm50
 refine c_seq (csr ?_)
 refine r_mv z (r_bin z z (bI_lt i_47 4) ?_)
 refine nsq ?_
 refine c_if (b := decide (i_47 < 4)) z (fun h52 => ?_) fun h52 => ?_
 rotate_left
 ·have hm53 := iff_ hm50 h52
  clear hm50
  refine c_exit (x_exit (ks' := _) z ?_)
  obtain rfl := si hm53
  exact x_sub K46 ⟨z, z, z, trivial⟩ (fun _ h => st_pk 6 [0, 1, 2, 3, 4, 5] (by decide) h)
 have hm53 := ift hm50 h52
 clear hm50
 refine c_skip (x_seq (c_seq (c_blk (csr ?_))))
 refine r_u (o_ldn 2 (Af.k a0 g0_) ag36 z z z z) (r_mv z (r_mv z ?_))
 obtain ⟨r54, hr54, hm55⟩ := bs hm53
 clear hm53
 refine r_u (o_callq ca129 z (AM.ok a0 (⟨(g0_.Rows.1, []), g0_.Door⟩ : Af.G) ⟨h0.1, h0.2⟩ a1 i_47 r54 hr54)) (r_as z ?_)
 refine nsr ?_
 refine r_fa fa36_2 z (r_ld 2 sc33 z z z (r_mv z ?_))
 obtain ⟨x56, hx56, hm58⟩ := bs hm55
 clear hm55
 obtain ⟨b56, o56, l56, T56, fr56, c56, u57, hv56, hR56, he56, hi56, hN56⟩ := RoN.ne h0.1 hx56
 refine r_u (o_ix (sz := 1) Tryz.underlying33 (fun _ => by kernel_rfl) z z hv56 hi56) ?_
 refine r_u (o_ldR sc135 z hR56 (rok 0 he56 (by decide))) (r_mv z ?_)
 obtain ⟨x59, hx59, hm60⟩ := bs hm58
 clear hm58
 obtain ⟨b59, o59, l59, T59, fr59, c59, hv59, hR59, he59, hi59⟩ := RoS.ne hN56 hx59
 refine r_u (o_ix (sz := 1) Tryz.underlying135 (fun _ => by kernel_rfl) z z hv59 hi59) ?_
 refine r_u (o_ldR sc3 z hR59 (rok 0 he59 (by decide))) (r_mv z (r_bin z z (bI_eq x59 r41) (r_mv z ?_)))
 refine r_s (s_gt z z fun g => o_mv z) ?_
 refine r_s (s_gt z z fun g => o_bin (evg z g) z (bI_lt r41 15)) ?_
 refine r_u (o_and z z) ?_
 refine nsq ?_
 obtain ⟨p61, hp62, hm63⟩ := bs hm60
 refine cd_join (E' := [(1, vS a1), (2, pt b0 0), (4, pt b1 0), (5, pt b7 0), (8, vI r41), (9, vI i_47)]) (L' := Bk b7 36 [vI r2.Wide, vW r2.Seed, v3.Rows.1, v3.Door, vI (i64 (a0.Added + 1))] :: Bk b1 36 [vI 0, vW 0, .slice none 0 0, .slice none 0 0, vI 0] :: Bk b0 36 (Af.k a0 g0_) :: OwL (OwS true 3 1 eI) v3.Rows.2 p61 :: OwS true 4 1 eB v3.Door l8 :: OwS true 135 1 eV v3.Rows.1 v3.Rows.2 :: F) ?_ fun K64 => ?_
 ·refine x_blk (x_seq (c_reg ?_))
  refine r_mv z (r_bin z z (bI_add i_47 1) (r_as z ?_))
  refine r_nil ?_
  exact x_lp (i64 (i_47 + 1), p61) hm63 ⟨z, z, z, z, z, z, trivial⟩ (fun _ h => st_pk 6 [0, 1, 2, 4, 5, 3] (by decide) h)
 refine c_if (b := ((x59 == r41) && decide (r41 < 15))) z (fun h65 => ?_) fun h65 => ?_
 rotate_left
 ·have hm66 := iff_ hp62 h65
  clear hp62
  refine c_skip ?_
  obtain rfl := si hm66
  exact x_sub K64 ⟨z, z, z, z, z, z, trivial⟩ (fun _ h => st_pk 6 [0, 1, 2, 5, 3, 4] (by decide) h)
 have hm66 := ift hp62 h65
 clear hp62
 refine c_reg ?_
 refine r_fa fa36_2 z (r_ld 0 sc33 z z z (r_mv z ?_))
 obtain ⟨y67, hy67, hm69⟩ := bs hm66
 clear hm66
 refine rl_ex (fun w h => st_peek 5 hy67 z w h) fun u68 hu68 => ?_
 refine r_u (o_ixO 4 Tryz.underlying33 (fun _ => by kernel_rfl) z z z hu68) (r_u (o_ldO0 4 sc135 z z hu68 z z) (r_mv z ?_))
 obtain ⟨x70, hx70, hm71⟩ := bs hm69
 clear hm69
 refine r_u (o_ixK (kn_in 5 z hu68 hy67) Tryz.underlying135 (fun _ => by kernel_rfl) z z hx70) ?_
 refine r_u (o_ldK (kn_in 5 z hu68 hy67) 0 sc3 z hx70 z z) (r_bin z z (bI_add x70 1) ?_)
 refine r_u (o_ixK (kn_in 5 z hu68 hy67) Tryz.underlying135 (fun _ => by kernel_rfl) z z hx70) ?_
 refine rl_st (fun _ h => mv5 h) ?_
 refine r_u0 (o_stL (c' := i64 (x70 + 1)) 0 hu68 hy67 sc3 z z z hx70 z z z) ?_
 refine r_nil ?_
 obtain rfl := si hm71
 exact x_sub K64 ⟨z, z, z, z, z, z, trivial⟩ (fun _ h => st_pk 6 [1, 2, 3, 0, 4, 5] (by decide) h)
def AA (a0 : Ad) (a1 : Int) (a2 : Str) : Option Ad :=
 (AP a0.R a1 a2).bind fun r2 => some (⟨a0.Most, a0.S, r2.1⟩ : Ad)
theorem AA.ok {G R F} (a0 : Ad) (g0_ : Ad.G) (h0 : Ad.ro R a0 g0_) (a1 : Int) (a2 : Str) (r : Ad) (hm : AA a0 a1 a2 = some r) : CO Tryz.prog 102 [.agg (Ad.k a0 g0_).toArray, vI a1, vS a2] G R (F)
  (Ret fun u R' L' => ∃ (p0 : Ad.G), u = .agg (Ad.k r p0).toArray ∧ (Ad.ro R' r p0) ∧ L' = F) := by
 unfold AA at hm
 refine co_ofN (N := 17) Tryz.func102 z z ?_
 refine csr ?_
 refine r_new (o_bx (Ad.k a0 g0_) z z) fun b0 => ?_
 refine r_new (o_al ze38) fun b1 => ?_
 refine nsr ?_
 refine r_fa fa38_2 z ?_
 refine r_u (o_ldn 1 [g0_.R.L.1, vI a0.R.Places] ag30 z z z z) (r_mv z (r_mv z ?_))
 obtain ⟨r2, hr2, hm8⟩ := bs hm
 clear hm
 refine r_sw (s_w (o_call ca128 z (AP.ok a0.R (⟨(g0_.R.L.1, [])⟩ : Ac.G) h0.2 a1 a2 r2 hr2))) ?_
 rintro _ R6 _ le7 ⟨v3, rfl, hf4, rfl⟩
 refine r_mv z ?_
 refine r_ext z z ?_
 refine r_ext z z (r_fa fa38_2 z ?_)
 refine rl_st (fun _ h => mv1 h) ?_
 refine r_u0 (o_stn ag30 z z z (al_c (RoN.one hf4) (al_c z al_n)) z z z) ?_
 refine nsr ?_
 refine r_u (o_ldn 0 [vI a0.Most, vI a0.S.Wide, vW a0.S.Seed, g0_.S.Rows.1, g0_.S.Door, vI a0.S.Added, v3.L.1, vI r2.1.Places] ag38 z z z z) ?_
 refine rl_st (fun _ h => mv1 h) ?_
 refine r_u0 (o_stn ag38 z z z (al_c z (al_c z (al_c z (al_c (RoN.one (RoN.mono le7 h0.1.1)) (al_c (RoS.one (RoS.mono le7 h0.1.2)) (al_c z (al_c (RoN.one hf4) (al_c z al_n)))))))) z z z) ?_
 refine r_nil (x_seq (c_ret ?_))
 obtain rfl := si hm8
 exact x_d1 z (rv_n 0 [vI a0.Most, vI a0.S.Wide, vW a0.S.Seed, g0_.S.Rows.1, g0_.S.Door, vI a0.S.Added, v3.L.1, vI r2.1.Places] ag38 z z z z) (fun _ h => st_pk 2 [] (by decide) h) le7 ⟨_, z, (⟨(⟨(g0_.S.Rows.1, []), g0_.S.Door⟩ : Af.G), (⟨(v3.L.1, [])⟩ : Ac.G)⟩ : Ad.G), z, ⟨⟨(RoN.mono le7 h0.1.1), (RoS.mono le7 h0.1.2)⟩, hf4⟩, z⟩
def BI (a0 : Int) : Int × Int :=
 lt (if decide ((i64 (a0.tdiv 8)) < 1) then 1 else i64 (a0.tdiv 8)) fun p0 => (p0, i64 ((i64 ((i64 (a0 - p0)) * 4)).tdiv 5))
theorem BI.ok {G R F} (a0 : Int) (r : Int × Int) (hm : BI a0 = r) : CO Tryz.prog 103 [vI a0] G R (F)
  (Ret fun u R' L' => u = .tuple #[vI r.1, vI r.2] ∧ R' = R ∧ L' = F) := by
 unfold BI at hm
 refine co_ofN (N := 15) Tryz.func103 z z ?_
 refine csr ?_
 refine r_as z (r_as z ?_)
 refine nsr ?_
 refine r_mv z (r_bin z z (bI_quo a0 8 (by decide)) (r_as z ?_))
 refine nssr ?_
 refine r_mv z (r_bin z z (bI_lt (i64 (a0.tdiv 8)) 1) ?_)
 refine nsq ?_
 obtain ⟨p0, hp1, hm2⟩ := ltx hm
 refine cd_join (E' := [(0, vI a0), (4, vI p0)]) (L' := F) ?_ fun K3 => ?_
 ·refine x_seq (csr ?_)
  refine r_mv z (r_mv z (r_mv z (r_bin z z (bI_sub a0 p0) (r_bin z z (bI_mul (i64 (a0 - p0)) 4) (r_u (o_bin z z (bI_quo (i64 ((i64 (a0 - p0)) * 4)) 5 (by decide))) (r_as z (r_as z ?_)))))))
  refine r_nil (x_seq (c_ret ?_))
  subst hm2
  exact x_r2 z (rv_t z) (rv_t z) (Le.refl _) ⟨_, z, z, z, z⟩
 refine c_if (b := decide ((i64 (a0.tdiv 8)) < 1)) z (fun h4 => ?_) fun h4 => ?_
 ·have hm5 := ift hp1 h4
  clear hp1
  refine c_reg ?_
  refine r_as z ?_
  refine r_nil ?_
  subst hm5
  exact x_sub K3 ⟨z, z, trivial⟩ (fun _ h => st_pk 0 [] (by decide) h)
 have hm5 := iff_ hp1 h4
 clear hp1
 refine c_skip ?_
 subst hm5
 exact x_sub K3 ⟨z, z, trivial⟩ (fun _ h => st_pk 0 [] (by decide) h)
def Ar (a0 : Ac) (a1 : Int) : Option (Str × Bool) :=
 Option.bind (if (decide (a1 < 0) || decide ((a0.L.length : Int) ≤ a1)) then some true else (gi a0.L a1).bind fun x14 => some ((x14.length : Int) == 0)) fun p1 => if p1 then some ([], false) else (gi a0.L a1).bind fun x7 => (gi x7 (i64 ((x7.length : Int) - 1))).bind fun x10 => some (x10, true)
theorem Ar.ok {G R F} (a0 : Ac) (g0_ : Ac.G) (h0 : Ac.ro R a0 g0_) (a1 : Int) (r : Str × Bool) (hm : Ar a0 a1 = some r) : CO Tryz.prog 104 [.agg [g0_.L.1, vI a0.Places].toArray, vI a1] G R (F)
  (Ret fun u R' L' => u = .tuple #[vS r.1, vB r.2] ∧ R' = R ∧ L' = F) := by
 unfold Ar at hm
 refine co_ofN (N := 38) Tryz.func104 z z ?_
 refine csr ?_
 refine r_new (o_bx [g0_.L.1, vI a0.Places] z z) fun b0 => ?_
 refine r_as z (r_as z ?_)
 refine r_nil (x_seq (c_seq (c_seq ?_)))
 obtain ⟨p1, hp2, hm3⟩ := bs hm
 refine cd_join (E' := [(1, vI a1), (2, pt b0 0), (23, vB p1)]) (L' := Bk b0 30 [g0_.L.1, vI a0.Places] :: F) ?_ fun K4 => ?_
 ·refine x_seq ?_
  refine c_if (b := p1) z (fun h5 => ?_) fun h5 => ?_
  ·have hm6 := ift hm3 h5
   clear hm3
   refine csr ?_
   refine r_as z (r_as z ?_)
   refine r_nil (x_seq (c_ret ?_))
   obtain rfl := si hm6
   refine ex_st (fun _ h => st_pk 1 [] (by decide) h) ?_
   exact x_r2 z (rv_t z) (rv_t z) (Le.refl _) ⟨_, z, z, z, z⟩
  have hm6 := iff_ hm3 h5
  clear hm3
  refine c_skip (x_seq (c_seq ?_))
  obtain ⟨x7, hx7, hm9⟩ := bs hm6
  clear hm6
  obtain ⟨b7, o7, l7, T7, fr7, c7, u8, hv7, hR7, he7, hi7, hN7⟩ := RoN.ne h0 hx7
  obtain ⟨x10, hx10, hm11⟩ := bs hm9
  clear hm9
  obtain ⟨b10, o10, l10, T10, fr10, c10, hv10, hR10, he10, hi10⟩ := RoS.ne hN7 hx10
  refine c_any mixed (effs := []) (V := []) ?_
  refine stage_ext [(0, pt b0 0), (1, g0_.L.1), (2, vI a1), (3, pt b7 (o7 + a1.toNat * 1)), (4, u8), (5, pt b0 0), (6, g0_.L.1), (7, vI a1), (8, pt b7 (o7 + a1.toNat * 1)), (9, u8), (10, vI (x7.length : Int)), (11, vI (i64 ((x7.length : Int) - 1))), (12, pt b10 (o10 + (i64 ((x7.length : Int) - 1)).toNat * 1)), (13, vS x10), (14, vS x10), (15, vB true)] z ?_
  refine stage z z z z [0, 1, 0, 7, 15, 0, 32, 0, 224, 480, 992, 2016, 4095, 8191, 16383, 32767] [0, 1, 2, 3, 4, 5, 6, 7, 8, 9, 10, 11, 12, 13, 14, 15] [] z z z (q_fa z z fa30_0 z (q_ld z z 0 sc28 z z z (q_mv z z z (q_u z z (o_ix (sz := 1) Tryz.underlying28 (fun _ => by kernel_rfl) z z hv7 hi7) (q_u z z (o_ldR sc57 z hR7 (rok 0 he7 (by decide))) (q_fa z z fa30_0 z (q_ld z z 0 sc28 z z z (q_mv z z z (q_u z z (o_ix (sz := 1) Tryz.underlying28 (fun _ => by kernel_rfl) z z hv7 hi7) (q_u z z (o_ldR sc57 z hR7 (rok 0 he7 (by decide))) (q_u z z (o_lenR Tryz.underlying57 z hN7) (q_u z z (o_bin z z (bI_sub (x7.length : Int) 1)) (q_u z z (o_ix (sz := 1) Tryz.underlying57 (fun _ => by kernel_rfl) z z hv10 hi10) (q_u z z (o_ldR sc9 z hR10 (rok 0 he10 (by decide))) (q_u z z (o_as z) (q_u z z (o_as z) qn)))))))))))))))) en ?_
  intro _
  refine ex_sub (E' := [(4, vS x10), (5, vB true)]) ⟨z, z, trivial⟩ ?_
  refine x_seq (c_ret ?_)
  obtain rfl := si hm11
  refine ex_st (fun _ h => st_pk 1 [] (by decide) h) ?_
  exact x_r2 z (rv_t z) (rv_t z) (Le.refl _) ⟨_, z, z, z, z⟩
 refine cd_by (decide (a1 < 0) || decide ((a0.L.length : Int) ≤ a1)) (fun h12 => ?_) fun h12 => ?_
 ·have hm13 := ift hp2 h12
  clear hp2
  refine c_reg ?_
  refine r_mv z (r_bin z z (bI_lt a1 0) (r_mv z ?_))
  refine r_s (s_gf z z fun g => o_mv z) ?_
  refine r_s (s_gf z z fun g => o_fa fa30_0 z) ?_
  refine r_s (s_gf z z fun g => o_ld 0 sc28 (evg z g) z z) ?_
  refine r_s (s_gf z z fun g => o_lenRN Tryz.underlying28 (evg z g) h0) ?_
  refine r_s (s_gf z z fun g => o_bin (evg z g) (evg z g) (bI_ge a1 (a0.L.length : Int))) ?_
  refine r_u (o_or z z) (r_mv z ?_)
  refine r_s (s_n z z h12) ?_
  refine r_s (s_n z z h12) ?_
  refine r_s (s_n z z h12) ?_
  refine r_s (s_n z z h12) ?_
  refine r_s (s_n z z h12) ?_
  refine r_s (s_n z z h12) ?_
  refine r_s (s_n z z h12) ?_
  refine r_u (o_pt z h12 z) ?_
  refine r_nil ?_
  obtain rfl := si hm13
  exact x_sub K4 ⟨z, z, z, trivial⟩ (fun _ h => st_pk 1 [0] (by decide) h)
 have hm13 := iff_ hp2 h12
 clear hp2
 refine c_reg ?_
 refine r_mv z (r_bin z z (bI_lt a1 0) (r_mv z ?_))
 refine r_s (s_gf z z fun g => o_mv z) ?_
 refine r_s (s_gf z z fun g => o_fa fa30_0 z) ?_
 refine r_s (s_gf z z fun g => o_ld 0 sc28 (evg z g) z z) ?_
 refine r_s (s_gf z z fun g => o_lenRN Tryz.underlying28 (evg z g) h0) ?_
 refine r_s (s_gf z z fun g => o_bin (evg z g) (evg z g) (bI_ge a1 (a0.L.length : Int))) ?_
 refine r_u (o_or z z) (r_mv z ?_)
 refine r_s (s_y z z h12 (o_fa fa30_0 z)) ?_
 refine r_s (s_y z z h12 (o_ld 0 sc28 z z z)) ?_
 refine r_s (s_y z z h12 (o_mv z)) ?_
 obtain ⟨x14, hx14, hm16⟩ := bs hm13
 clear hm13
 obtain ⟨b14, o14, l14, T14, fr14, c14, u15, hv14, hR14, he14, hi14, hN14⟩ := RoN.ne h0 hx14
 refine r_s (s_y z z h12 (o_ix (sz := 1) Tryz.underlying28 (fun _ => by kernel_rfl) z z hv14 hi14)) ?_
 refine r_s (s_y z z h12 (o_ldR sc57 z hR14 (rok 0 he14 (by decide)))) ?_
 refine r_s (s_y z z h12 (o_lenR Tryz.underlying57 z hN14)) ?_
 refine r_s (s_y z z h12 (o_bin z z (bI_eq (x14.length : Int) 0))) ?_
 refine r_u (o_pf z h12 z) ?_
 refine r_nil ?_
 obtain rfl := si hm16
 exact x_sub K4 ⟨z, z, z, trivial⟩ (fun _ h => st_pk 1 [0] (by decide) h)
def A2 (a0 : Ad) (a1 : Str) : Option (Ad × Bool) :=
 (AG a0.R a1).bind fun r2 => if !r2.2 then some (a0, false) else (AX a0.S a1).bind fun r6 => if (r2.1 == 0) then (AA (⟨a0.Most, r6, a0.R⟩ : Ad) 0 a1).bind fun r23 => some (r23, true) else (AA (⟨a0.Most, r6, a0.R⟩ : Ad) 2 a1).bind fun r42 => lt (BI r42.Most) fun r53 => (gi r42.R.L 2).bind fun x55 => if decide (r53.2 < (x55.length : Int)) then (Ar r42.R 2).bind fun r60 => (AA r42 1 r60.1).bind fun r62 => some (r62, true) else some (r42, true)
theorem A2.ok {G R F} (a0 : Ad) (g0_ : Ad.G) (h0 : Ad.ro R a0 g0_) (a1 : Str) (r : Ad × Bool) (hm : A2 a0 a1 = some r) : CO Tryz.prog 65 [.agg (Ad.k a0 g0_).toArray, vS a1] G R (F)
  (Ret fun u R' L' => ∃ (p0 : Ad.G), u = .tuple #[.agg (Ad.k r.1 p0).toArray, vB r.2] ∧ (Ad.ro R' r.1 p0) ∧ L' = F) := by
 unfold A2 at hm
 refine co_ofN (N := 59) Tryz.func65 z z ?_
 refine csr ?_
 refine r_new (o_bx (Ad.k a0 g0_) z z) fun b0 => ?_
 refine r_new (o_al ze38) fun b1 => ?_
 refine r_as z ?_
 refine nsr ?_
 refine r_fa fa38_2 z ?_
 refine r_u (o_ldn 1 [g0_.R.L.1, vI a0.R.Places] ag30 z z z z) (r_mv z ?_)
 obtain ⟨r2, hr2, hm3⟩ := bs hm
 clear hm
 refine r_u (o_callq ca77 z (AG.ok a0.R (⟨(g0_.R.L.1, [])⟩ : Ac.G) h0.2 a1 r2 hr2)) (r_mv z ?_)
 refine r_ext z z ?_
 refine r_ext z z (r_as z (r_as z ?_))
 refine nssr ?_
 refine r_mv z ?_
 refine r_u (o_not z) ?_
 refine nsq ?_
 refine c_if (b := !r2.2) z (fun h4 => ?_) fun h4 => ?_
 ·have hm5 := ift hm3 h4
  clear hm3
  refine csr ?_
  refine r_u (o_ldn 1 (Ad.k a0 g0_) ag38 z z z z) ?_
  refine r_u0 (o_stn ag38 z z z (al_c z (al_c z (al_c z (al_c (RoN.one h0.1.1) (al_c (RoS.one h0.1.2) (al_c z (al_c (RoN.one h0.2) (al_c z al_n)))))))) z z z) ?_
  refine r_as z ?_
  refine r_nil (x_seq (c_ret ?_))
  obtain rfl := si hm5
  exact x_d2 z (rv_n 0 (Ad.k a0 g0_) ag38 z z z z) (rv_t z) (fun _ h => st_pk 2 [] (by decide) h) (Le.refl _) ⟨_, z, (⟨(⟨(g0_.S.Rows.1, []), g0_.S.Door⟩ : Af.G), (⟨(g0_.R.L.1, [])⟩ : Ac.G)⟩ : Ad.G), z, ⟨⟨h0.1.1, h0.1.2⟩, h0.2⟩, z⟩
 have hm5 := iff_ hm3 h4
 clear hm3
 refine c_skip (x_seq (csr ?_))
 refine r_fa fa38_1 z ?_
 refine r_u (o_ldn 1 (Af.k a0.S g0_.S) ag36 z z z z) (r_mv z ?_)
 obtain ⟨r6, hr6, hm12⟩ := bs hm5
 clear hm5
 refine r_sw (s_w (o_call ca101 z (AX.ok a0.S (⟨(g0_.S.Rows.1, []), g0_.S.Door⟩ : Af.G) ⟨h0.1.1, h0.1.2⟩ a1 r6 hr6))) ?_
 rintro _ R10 _ le11 ⟨v7, rfl, _, rfl⟩
 refine r_fa fa38_1 z ?_
 refine rl_st (fun _ h => mv4 (mv1 (mv2 h))) ?_
 refine r_u0 (ou_if (one_o 1 z) fun ho0 => ou_if (one_o 2 z) fun ho1 => o_stn ag36 z z z (al_c z (al_c z (al_c ho0 (al_c ho1 (al_c z al_n))))) z z z) ?_
 refine nssr ?_
 refine r_mv z (r_bin z z (bI_eq r2.1 0) ?_)
 refine nsq ?_
 refine c_if (b := (r2.1 == 0)) z (fun h13 => ?_) fun h13 => ?_
 ·have hm14 := ift hm12 h13
  clear hm12
  refine csr ?_
  refine r_u (o_ldn 0 [vI a0.Most, vI r6.Wide, vW r6.Seed, v7.Rows.1, v7.Door, vI r6.Added, g0_.R.L.1, vI a0.R.Places] ag38 z z z z) (r_mv z ?_)
  refine rl_st (fun _ h => mv2 (mv3 h)) ?_
  refine rl_ex (fun w h => st_freezeN w h) fun R15 hf18 => ?_
  obtain ⟨le16, h17⟩ := hf18
  refine rl_st (fun _ h => mv1 h) ?_
  refine rl_ex (fun w h => st_freeze w h) fun R19 hf22 => ?_
  obtain ⟨le20, h21⟩ := hf22
  obtain ⟨r23, hr23, hm33⟩ := bs hm14
  clear hm14
  refine r_sw (s_w (o_call ca102 z (AA.ok (⟨a0.Most, r6, a0.R⟩ : Ad) (⟨(⟨(v7.Rows.1, []), v7.Door⟩ : Af.G), (⟨(g0_.R.L.1, [])⟩ : Ac.G)⟩ : Ad.G) ⟨⟨(RoN.mono le20 h17), h21⟩, (RoN.mono (Le.trans (Le.trans le11 le16) le20) h0.2)⟩ 0 a1 r23 hr23))) ?_
  rintro _ R31 _ le32 ⟨v24, rfl, hf25, rfl⟩
  refine rl_st (fun _ h => mv1 h) ?_
  refine r_u0 (o_stn ag38 z z z (al_c z (al_c z (al_c z (al_c (RoN.one hf25.1.1) (al_c (RoS.one hf25.1.2) (al_c z (al_c (RoN.one hf25.2) (al_c z al_n)))))))) z z z) ?_
  refine r_as z ?_
  refine r_nil (x_seq (c_ret ?_))
  obtain rfl := si hm33
  exact x_d2 z (rv_n 0 (Ad.k r23 v24) ag38 z z z z) (rv_t z) (fun _ h => st_pk 2 [] (by decide) h) (Le.trans (Le.trans (Le.trans le11 le16) le20) le32) ⟨_, z, (⟨(⟨(v24.S.Rows.1, []), v24.S.Door⟩ : Af.G), (⟨(v24.R.L.1, [])⟩ : Ac.G)⟩ : Ad.G), z, ⟨⟨hf25.1.1, hf25.1.2⟩, hf25.2⟩, z⟩
 have hm14 := iff_ hm12 h13
 clear hm12
 refine c_skip (x_seq (csr ?_))
 refine r_u (o_ldn 0 [vI a0.Most, vI r6.Wide, vW r6.Seed, v7.Rows.1, v7.Door, vI r6.Added, g0_.R.L.1, vI a0.R.Places] ag38 z z z z) (r_mv z ?_)
 refine rl_st (fun _ h => mv2 (mv3 h)) ?_
 refine rl_ex (fun w h => st_freezeN w h) fun R34 hf37 => ?_
 obtain ⟨le35, h36⟩ := hf37
 refine rl_st (fun _ h => mv1 h) ?_
 refine rl_ex (fun w h => st_freeze w h) fun R38 hf41 => ?_
 obtain ⟨le39, h40⟩ := hf41
 obtain ⟨r42, hr42, hm52⟩ := bs hm14
 clear hm14
 refine r_sw (s_w (o_call ca102 z (AA.ok (⟨a0.Most, r6, a0.R⟩ : Ad) (⟨(⟨(v7.Rows.1, []), v7.Door⟩ : Af.G), (⟨(g0_.R.L.1, [])⟩ : Ac.G)⟩ : Ad.G) ⟨⟨(RoN.mono le39 h36), h40⟩, (RoN.mono (Le.trans (Le.trans le11 le35) le39) h0.2)⟩ 2 a1 r42 hr42))) ?_
 rintro _ R50 _ le51 ⟨v43, rfl, hf44, rfl⟩
 refine r_u0 (o_stn ag38 z z z (al_c z (al_c z (al_c z (al_c (RoN.one hf44.1.1) (al_c (RoS.one hf44.1.2) (al_c z (al_c (RoN.one hf44.2) (al_c z al_n)))))))) z z z) ?_
 refine nssr ?_
 refine r_fa fa38_0 z (r_ld 0 sc3 z z z ?_)
 obtain ⟨r53, hr53, hm54⟩ := ltx hm52
 clear hm52
 refine r_u (o_callq ca103 z (BI.ok r42.Most r53 hr53)) (r_mv z ?_)
 refine r_ext z z ?_
 refine r_ext z z (r_as z (r_as z ?_))
 refine nsr ?_
 refine r_fa fa38_2 z (r_fa fa30_0 z (r_ld 0 sc28 z z z ?_))
 obtain ⟨x55, hx55, hm57⟩ := bs hm54
 clear hm54
 obtain ⟨b55, o55, l55, T55, fr55, c55, u56, hv55, hR55, he55, hi55, hN55⟩ := RoN.ne hf44.2 hx55
 refine r_u (o_ix (sz := 1) Tryz.underlying28 (fun _ => by kernel_rfl) z z hv55 hi55) ?_
 refine r_u (o_ldR sc57 z hR55 (rok 0 he55 (by decide))) ?_
 refine r_u (o_lenR Tryz.underlying57 z hN55) (r_mv z (r_bin z z (bI_gt (x55.length : Int) r53.2) ?_))
 refine nsq ?_
 refine c_if (b := decide (r53.2 < (x55.length : Int))) z (fun h58 => ?_) fun h58 => ?_
 rotate_left
 ·have hm59 := iff_ hm57 h58
  clear hm57
  refine c_skip (x_seq (csr ?_))
  refine r_u (o_ldn 0 (Ad.k r42 v43) ag38 z z z z) ?_
  refine rl_st (fun _ h => mv1 h) ?_
  refine r_u0 (o_stn ag38 z z z (al_c z (al_c z (al_c z (al_c (RoN.one hf44.1.1) (al_c (RoS.one hf44.1.2) (al_c z (al_c (RoN.one hf44.2) (al_c z al_n)))))))) z z z) ?_
  refine r_as z ?_
  refine r_nil (x_seq (c_ret ?_))
  obtain rfl := si hm59
  exact x_d2 z (rv_n 0 (Ad.k r42 v43) ag38 z z z z) (rv_t z) (fun _ h => st_pk 2 [] (by decide) h) (Le.trans (Le.trans (Le.trans le11 le35) le39) le51) ⟨_, z, (⟨(⟨(v43.S.Rows.1, []), v43.S.Door⟩ : Af.G), (⟨(v43.R.L.1, [])⟩ : Ac.G)⟩ : Ad.G), z, ⟨⟨hf44.1.1, hf44.1.2⟩, hf44.2⟩, z⟩
 have hm59 := ift hm57 h58
 clear hm57
 refine csr ?_
 refine r_fa fa38_2 z ?_
 refine r_u (o_ldn 0 [v43.R.L.1, vI r42.R.Places] ag30 z z z z) ?_
 obtain ⟨r60, hr60, hm61⟩ := bs hm59
 clear hm59
 refine r_u (o_callq ca104 z (Ar.ok r42.R (⟨(v43.R.L.1, [])⟩ : Ac.G) hf44.2 2 r60 hr60)) (r_mv z ?_)
 refine r_ext z z ?_
 refine r_ext z z (r_as z (r_as z ?_))
 refine r_nil (x_seq (c_reg ?_))
 refine r_u (o_ldn 0 (Ad.k r42 v43) ag38 z z z z) (r_mv z ?_)
 obtain ⟨r62, hr62, hm72⟩ := bs hm61
 clear hm61
 refine r_sw (s_w (o_call ca102 z (AA.ok r42 (⟨(⟨(v43.S.Rows.1, []), v43.S.Door⟩ : Af.G), (⟨(v43.R.L.1, [])⟩ : Ac.G)⟩ : Ad.G) ⟨⟨hf44.1.1, hf44.1.2⟩, hf44.2⟩ 1 r60.1 r62 hr62))) ?_
 rintro _ R70 _ le71 ⟨v63, rfl, hf64, rfl⟩
 refine r_u0 (o_stn ag38 z z z (al_c z (al_c z (al_c z (al_c (RoN.one hf64.1.1) (al_c (RoS.one hf64.1.2) (al_c z (al_c (RoN.one hf64.2) (al_c z al_n)))))))) z z z) ?_
 refine nsr ?_
 refine r_u (o_ldn 0 (Ad.k r62 v63) ag38 z z z z) ?_
 refine rl_st (fun _ h => mv1 h) ?_
 refine r_u0 (o_stn ag38 z z z (al_c z (al_c z (al_c z (al_c (RoN.one hf64.1.1) (al_c (RoS.one hf64.1.2) (al_c z (al_c (RoN.one hf64.2) (al_c z al_n)))))))) z z z) ?_
 refine r_as z ?_
 refine r_nil (x_seq (c_ret ?_))
 obtain rfl := si hm72
 exact x_d2 z (rv_n 0 (Ad.k r62 v63) ag38 z z z z) (rv_t z) (fun _ h => st_pk 2 [] (by decide) h) (Le.trans (Le.trans (Le.trans (Le.trans le11 le35) le39) le51) le71) ⟨_, z, (⟨(⟨(v63.S.Rows.1, []), v63.S.Door⟩ : Af.G), (⟨(v63.R.L.1, [])⟩ : Ac.G)⟩ : Ad.G), z, ⟨⟨hf64.1.1, hf64.1.2⟩, hf64.2⟩, z⟩
def BJ (a0 : Ah) (a1 : Str) : Option (Ah × Bool) :=
 if (a0.Kind == 1) then (B3 a0.A a1).bind fun r4 => some ((⟨a0.Kind, r4.1, a0.T⟩ : Ah), r4.2) else (A2 a0.T a1).bind fun r12 => some ((⟨a0.Kind, a0.A, r12.1⟩ : Ah), r12.2)
theorem BJ.ok {G R F} (a0 : Ah) (g0_ : Ah.G) (h0 : Ah.ro R a0 g0_) (a1 : Str) (r : Ah × Bool) (hm : BJ a0 a1 = some r) : CO Tryz.prog 28 [.agg (Ah.k a0 g0_).toArray, vS a1] G R (F)
  (Ret fun u R' L' => ∃ (p0 : Ah.G), u = .tuple #[.agg (Ah.k r.1 p0).toArray, vB r.2] ∧ (Ah.ro R' r.1 p0) ∧ L' = F) := by
 unfold BJ at hm
 refine co_ofN (N := 28) Tryz.func28 z z ?_
 refine csr ?_
 refine r_new (o_bx (Ah.k a0 g0_) z z) fun b0 => ?_
 refine r_new (o_al ze40) fun b1 => ?_
 refine r_as z ?_
 refine nsr ?_
 refine r_as z ?_
 refine nssr ?_
 refine r_fa fa40_0 z (r_ld 1 sc3 z z z (r_bin z z (bI_eq a0.Kind 1) ?_))
 refine nsq ?_
 refine c_if (b := (a0.Kind == 1)) z (fun h2 => ?_) fun h2 => ?_
 ·have hm3 := ift hm h2
  clear hm
  refine c_reg ?_
  refine r_fa fa40_1 z ?_
  refine r_u (o_ldn 1 (Aa.k a0.A g0_.A) ag32 z z z z) (r_mv z ?_)
  obtain ⟨r4, hr4, hm11⟩ := bs hm3
  clear hm3
  refine r_sw (s_w (o_call ca64 z (B3.ok a0.A (⟨(⟨(g0_.A.R.L.1, [])⟩ : Ac.G)⟩ : Aa.G) h0.1 a1 r4 hr4))) ?_
  rintro _ R9 _ le10 ⟨v5, rfl, hf6, rfl⟩
  refine r_mv z ?_
  refine r_ext z z ?_
  refine r_ext z z (r_fa fa40_1 z ?_)
  refine rl_st (fun _ h => mv1 h) ?_
  refine r_u0 (o_stn ag32 z z z (al_c z (al_c z (al_c (RoN.one hf6) (al_c z al_n)))) z z z) ?_
  refine r_as z ?_
  refine nsr ?_
  refine r_u (o_ldn 0 [vI a0.Kind, vI r4.1.Most, vI r4.1.Target, v5.R.L.1, vI r4.1.R.Places, vI a0.T.Most, vI a0.T.S.Wide, vW a0.T.S.Seed, g0_.T.S.Rows.1, g0_.T.S.Door, vI a0.T.S.Added, g0_.T.R.L.1, vI a0.T.R.Places] ag40 z z z z) (r_mv z ?_)
  refine rl_st (fun _ h => mv1 h) ?_
  refine r_u0 (o_stn ag40 z z z (al_c z (al_c z (al_c z (al_c (RoN.one hf6) (al_c z (al_c z (al_c z (al_c z (al_c (RoN.one (RoN.mono le10 h0.2.1.1)) (al_c (RoS.one (RoS.mono le10 h0.2.1.2)) (al_c z (al_c (RoN.one (RoN.mono le10 h0.2.2)) (al_c z al_n))))))))))))) z z z) ?_
  refine r_as z ?_
  refine r_nil (x_seq (c_ret ?_))
  obtain rfl := si hm11
  exact x_d2 z (rv_n 0 [vI a0.Kind, vI r4.1.Most, vI r4.1.Target, v5.R.L.1, vI r4.1.R.Places, vI a0.T.Most, vI a0.T.S.Wide, vW a0.T.S.Seed, g0_.T.S.Rows.1, g0_.T.S.Door, vI a0.T.S.Added, g0_.T.R.L.1, vI a0.T.R.Places] ag40 z z z z) (rv_t z) (fun _ h => st_pk 2 [] (by decide) h) le10 ⟨_, z, (⟨(⟨(⟨(v5.R.L.1, [])⟩ : Ac.G)⟩ : Aa.G), (⟨(⟨(g0_.T.S.Rows.1, []), g0_.T.S.Door⟩ : Af.G), (⟨(g0_.T.R.L.1, [])⟩ : Ac.G)⟩ : Ad.G)⟩ : Ah.G), z, ⟨hf6, ⟨⟨(RoN.mono le10 h0.2.1.1), (RoS.mono le10 h0.2.1.2)⟩, (RoN.mono le10 h0.2.2)⟩⟩, z⟩
 have hm3 := iff_ hm h2
 clear hm
 refine c_reg ?_
 refine r_fa fa40_2 z ?_
 refine r_u (o_ldn 1 (Ad.k a0.T g0_.T) ag38 z z z z) (r_mv z ?_)
 obtain ⟨r12, hr12, hm22⟩ := bs hm3
 clear hm3
 refine r_sw (s_w (o_call ca65 z (A2.ok a0.T (⟨(⟨(g0_.T.S.Rows.1, []), g0_.T.S.Door⟩ : Af.G), (⟨(g0_.T.R.L.1, [])⟩ : Ac.G)⟩ : Ad.G) ⟨⟨h0.2.1.1, h0.2.1.2⟩, h0.2.2⟩ a1 r12 hr12))) ?_
 rintro _ R20 _ le21 ⟨v13, rfl, hf14, rfl⟩
 refine r_mv z ?_
 refine r_ext z z ?_
 refine r_ext z z (r_fa fa40_2 z ?_)
 refine rl_st (fun _ h => mv1 h) ?_
 refine r_u0 (o_stn ag38 z z z (al_c z (al_c z (al_c z (al_c (RoN.one hf14.1.1) (al_c (RoS.one hf14.1.2) (al_c z (al_c (RoN.one hf14.2) (al_c z al_n)))))))) z z z) ?_
 refine r_as z ?_
 refine nsr ?_
 refine r_u (o_ldn 0 [vI a0.Kind, vI a0.A.Most, vI a0.A.Target, g0_.A.R.L.1, vI a0.A.R.Places, vI r12.1.Most, vI r12.1.S.Wide, vW r12.1.S.Seed, v13.S.Rows.1, v13.S.Door, vI r12.1.S.Added, v13.R.L.1, vI r12.1.R.Places] ag40 z z z z) (r_mv z ?_)
 refine rl_st (fun _ h => mv1 h) ?_
 refine r_u0 (o_stn ag40 z z z (al_c z (al_c z (al_c z (al_c (RoN.one (RoN.mono le21 h0.1)) (al_c z (al_c z (al_c z (al_c z (al_c (RoN.one hf14.1.1) (al_c (RoS.one hf14.1.2) (al_c z (al_c (RoN.one hf14.2) (al_c z al_n))))))))))))) z z z) ?_
 refine r_as z ?_
 refine r_nil (x_seq (c_ret ?_))
 obtain rfl := si hm22
 exact x_d2 z (rv_n 0 [vI a0.Kind, vI a0.A.Most, vI a0.A.Target, g0_.A.R.L.1, vI a0.A.R.Places, vI r12.1.Most, vI r12.1.S.Wide, vW r12.1.S.Seed, v13.S.Rows.1, v13.S.Door, vI r12.1.S.Added, v13.R.L.1, vI r12.1.R.Places] ag40 z z z z) (rv_t z) (fun _ h => st_pk 2 [] (by decide) h) le21 ⟨_, z, (⟨(⟨(⟨(g0_.A.R.L.1, [])⟩ : Ac.G)⟩ : Aa.G), (⟨(⟨(v13.S.Rows.1, []), v13.S.Door⟩ : Af.G), (⟨(v13.R.L.1, [])⟩ : Ac.G)⟩ : Ad.G)⟩ : Ah.G), z, ⟨(RoN.mono le21 h0.1), ⟨⟨hf14.1.1, hf14.1.2⟩, hf14.2⟩⟩, z⟩
def BV (a0 : Aa) (a1 : Str) : Option (Aa × Bool) :=
 (A7 a0 a1).bind fun r2 => (Az a0.R a1).bind fun r4 => some ((⟨a0.Most, a0.Target, r4⟩ : Aa), r2)
theorem BV.ok {G R F} (a0 : Aa) (g0_ : Aa.G) (h0 : Aa.ro R a0 g0_) (a1 : Str) (r : Aa × Bool) (hm : BV a0 a1 = some r) : CO Tryz.prog 66 [.agg (Aa.k a0 g0_).toArray, vS a1] G R (F)
  (Ret fun u R' L' => ∃ (p0 : Aa.G), u = .tuple #[.agg (Aa.k r.1 p0).toArray, vB r.2] ∧ R' = R ∧ L' = OwS true 57 1 eV p0.R.L.1 p0.R.L.2 :: OwL (OwS true 9 1 eS) p0.R.L.2 r.1.R.L :: F) := by
 unfold BV at hm
 refine co_ofN (N := 17) Tryz.func66 z z ?_
 refine csr ?_
 refine r_new (o_bx (Aa.k a0 g0_) z z) fun b0 => ?_
 refine r_new (o_al ze32) fun b1 => ?_
 refine r_as z ?_
 refine nsr ?_
 refine r_u (o_ldn 1 (Aa.k a0 g0_) ag32 z z z z) (r_mv z ?_)
 obtain ⟨r2, hr2, hm3⟩ := bs hm
 clear hm
 refine r_u (o_callq ca39 z (A7.ok a0 (⟨(⟨(g0_.R.L.1, [])⟩ : Ac.G)⟩ : Aa.G) h0 a1 r2 hr2)) (r_as z ?_)
 refine nsr ?_
 refine r_fa fa32_2 z ?_
 refine r_u (o_ldn 1 [g0_.R.L.1, vI a0.R.Places] ag30 z z z z) (r_mv z ?_)
 obtain ⟨r4, hr4, hm7⟩ := bs hm3
 clear hm3
 refine r_sw (s_w (o_call ca105 z (Az.ok a0.R (⟨(g0_.R.L.1, [])⟩ : Ac.G) h0 a1 r4 hr4))) ?_
 rintro _ R _ _ ⟨v5, rfl, rfl, rfl⟩
 refine r_fa fa32_2 z ?_
 refine rl_st (fun _ h => mv3 h) ?_
 refine r_u0 (ou_if (one_o 1 z) fun ho0 => o_stn ag30 z z z (al_c ho0 (al_c z al_n)) z z z) ?_
 refine nsr ?_
 refine r_u (o_ldn 0 [vI a0.Most, vI a0.Target, v5.L.1, vI r4.Places] ag32 z z z z) (r_mv z ?_)
 refine rl_st (fun _ h => mv3 (mv1 h)) ?_
 refine r_u0 (ou_if (one_o 1 z) fun ho0 => o_stn ag32 z z z (al_c z (al_c z (al_c ho0 (al_c z al_n)))) z z z) ?_
 refine r_as z ?_
 refine r_nil (x_seq (c_ret ?_))
 obtain rfl := si hm7
 exact x_d2 z (rv_n 0 [vI a0.Most, vI a0.Target, v5.L.1, vI r4.Places] ag32 z z z z) (rv_t z) (fun _ h => st_pk 4 [1, 3] (by decide) h) (Le.refl _) ⟨_, z, (⟨v5⟩ : Aa.G), z, z, z⟩
def Bc (a0 : Ad) (a1 : Str) : Option Bool :=
 (AG a0.R a1).bind fun r1 => some r1.2
theorem Bc.ok {G R F} (a0 : Ad) (g0_ : Ad.G) (h0 : Ad.ro R a0 g0_) (a1 : Str) (r : Bool) (hm : Bc a0 a1 = some r) : CO Tryz.prog 40 [.agg (Ad.k a0 g0_).toArray, vS a1] G R (F)
  (Ret fun u R' L' => u = vB r ∧ R' = R ∧ L' = F) := by
 unfold Bc at hm
 refine co_ofN (N := 15) Tryz.func40 z z ?_
 refine csr ?_
 refine r_new (o_bx (Ad.k a0 g0_) z z) fun b0 => ?_
 refine r_as z ?_
 refine nsr ?_
 refine r_fa fa38_2 z ?_
 refine r_u (o_ldn 0 [g0_.R.L.1, vI a0.R.Places] ag30 z z z z) (r_mv z ?_)
 obtain ⟨r1, hr1, hm2⟩ := bs hm
 clear hm
 refine r_u (o_callq ca77 z (AG.ok a0.R (⟨(g0_.R.L.1, [])⟩ : Ac.G) h0.2 a1 r1 hr1)) (r_mv z ?_)
 refine r_ext z z ?_
 refine r_ext z z (r_as z (r_as z ?_))
 refine nsr ?_
 refine r_mv z (r_as z ?_)
 refine r_nil (x_seq (c_ret ?_))
 obtain rfl := si hm2
 refine ex_st (fun _ h => st_pk 1 [] (by decide) h) ?_
 exact x_r1 z (rv_t z) (Le.refl _) ⟨_, z, z, z, z⟩
def BP (a0 : Ad) (a1 : Str) : Option (Ad × Bool) :=
 (Bc a0 a1).bind fun r2 => (Az a0.R a1).bind fun r4 => some ((⟨a0.Most, a0.S, r4⟩ : Ad), r2)
theorem BP.ok {G R F} (a0 : Ad) (g0_ : Ad.G) (h0 : Ad.ro R a0 g0_) (a1 : Str) (r : Ad × Bool) (hm : BP a0 a1 = some r) : CO Tryz.prog 67 [.agg (Ad.k a0 g0_).toArray, vS a1] G R (F)
  (Ret fun u R' L' => ∃ (p0 : Ad.G), u = .tuple #[.agg (Ad.k r.1 p0).toArray, vB r.2] ∧ (Ad.ro R' r.1 p0) ∧ L' = F) := by
 unfold BP at hm
 refine co_ofN (N := 17) Tryz.func67 z z ?_
 refine csr ?_
 refine r_new (o_bx (Ad.k a0 g0_) z z) fun b0 => ?_
 refine r_new (o_al ze38) fun b1 => ?_
 refine r_as z ?_
 refine nsr ?_
 refine r_u (o_ldn 1 (Ad.k a0 g0_) ag38 z z z z) (r_mv z ?_)
 obtain ⟨r2, hr2, hm3⟩ := bs hm
 clear hm
 refine r_u (o_callq ca40 z (Bc.ok a0 (⟨(⟨(g0_.S.Rows.1, []), g0_.S.Door⟩ : Af.G), (⟨(g0_.R.L.1, [])⟩ : Ac.G)⟩ : Ad.G) ⟨⟨h0.1.1, h0.1.2⟩, h0.2⟩ a1 r2 hr2)) (r_as z ?_)
 refine nsr ?_
 refine r_fa fa38_2 z ?_
 refine r_u (o_ldn 1 [g0_.R.L.1, vI a0.R.Places] ag30 z z z z) (r_mv z ?_)
 obtain ⟨r4, hr4, hm7⟩ := bs hm3
 clear hm3
 refine r_sw (s_w (o_call ca105 z (Az.ok a0.R (⟨(g0_.R.L.1, [])⟩ : Ac.G) h0.2 a1 r4 hr4))) ?_
 rintro _ R _ _ ⟨v5, rfl, rfl, rfl⟩
 refine r_fa fa38_2 z ?_
 refine rl_st (fun _ h => mv3 h) ?_
 refine r_u0 (ou_if (one_o 1 z) fun ho0 => o_stn ag30 z z z (al_c ho0 (al_c z al_n)) z z z) ?_
 refine nsr ?_
 refine r_u (o_ldn 0 [vI a0.Most, vI a0.S.Wide, vW a0.S.Seed, g0_.S.Rows.1, g0_.S.Door, vI a0.S.Added, v5.L.1, vI r4.Places] ag38 z z z z) (r_mv z ?_)
 refine rl_st (fun _ h => mv3 (mv1 h)) ?_
 refine r_u0 (ou_if (one_o 1 z) fun ho0 => o_stn ag38 z z z (al_c z (al_c z (al_c z (al_c (RoN.one h0.1.1) (al_c (RoS.one h0.1.2) (al_c z (al_c ho0 (al_c z al_n)))))))) z z z) ?_
 refine r_as z ?_
 refine r_nil (x_seq (c_ret ?_))
 refine ex_st (fun _ h => mv2 (mv3 h)) ?_
 refine ex_ex (fun w h => st_freezeN w h) fun R8 hf11 => ?_
 obtain ⟨le9, h10⟩ := hf11
 obtain rfl := si hm7
 exact x_d2 z (rv_n 0 [vI a0.Most, vI a0.S.Wide, vW a0.S.Seed, g0_.S.Rows.1, g0_.S.Door, vI a0.S.Added, v5.L.1, vI r4.Places] ag38 z z z z) (rv_t z) (fun _ h => st_pk 2 [] (by decide) h) le9 ⟨_, z, (⟨(⟨(g0_.S.Rows.1, []), g0_.S.Door⟩ : Af.G), (⟨(v5.L.1, [])⟩ : Ac.G)⟩ : Ad.G), z, ⟨⟨(RoN.mono le9 h0.1.1), (RoS.mono le9 h0.1.2)⟩, h10⟩, z⟩
end Go.Proofs.YthngfieikhillaaGreat
