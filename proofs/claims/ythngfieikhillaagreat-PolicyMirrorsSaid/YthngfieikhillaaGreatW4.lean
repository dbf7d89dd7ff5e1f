import Derived.Test.YthngfieikhillaaGreatW3
import Derived.Test.YthngfieikhillaaGreatFacts
import Derived.Test.YthngfieikhillaaGreatHwY
set_option linter.unusedVariables false
set_option linter.unusedSectionVars false
set_option linter.unusedSimpArgs false
set_option maxRecDepth 100000
set_option maxHeartbeats 8000000
namespace Go.Proofs.YthngfieikhillaaGreat
open Go Go.Proofs.YthngfieikhillaaGreat.Hw
def Bo (a0 : Aa) (a1 : Str) : Option (Aa × List Str) :=
 if decide (64 < (a1.length : Int)) then some (a0, []) else (A7 a0 a1).bind fun r4 => if r4 then (Av a0 1 a1).bind fun r8 => some (r8, []) else (AG a0.R a1).bind fun r17 => if r17.2 then (Au a0 2).bind fun r21 => (Au a0 3).bind fun r23 => Option.bind (if (r17.1 == 2) then if r21 ≠ 0 then Option.bind (if decide ((i64 (r23.tdiv r21)) < 1) then some 1 else some (i64 (r23.tdiv r21))) fun p65 => Option.bind (if decide (a0.Most < (i64 (a0.Target + p65))) then some a0.Most else some (i64 (a0.Target + p65))) fun p69 => some p69 else none else if r23 ≠ 0 then Option.bind (if decide ((i64 (r21.tdiv r23)) < 1) then some 1 else some (i64 (r21.tdiv r23))) fun p79 => Option.bind (if decide ((i64 (a0.Target - p79)) < 0) then some 0 else some (i64 (a0.Target - p79))) fun p83 => some p83 else none) fun p25 => (AF (⟨a0.Most, p25, a0.R⟩ : Aa)).bind fun r29 => Option.bind (if decide (a0.Most ≤ r29) then (AE (⟨a0.Most, p25, a0.R⟩ : Aa) (r17.1 == 3)).bind fun r52 => some (r52.2, r52.1) else some ([], (⟨a0.Most, p25, a0.R⟩ : Aa))) fun p31 => (Av p31.2 1 a1).bind fun r42 => some (r42, p31.1) else (Au a0 0).bind fun r91 => (Au a0 2).bind fun r93 => (AF a0).bind fun r95 => (Au a0 3).bind fun r97 => Option.bind (if decide (a0.Most ≤ (i64 (r91 + r93))) then some (r91 == a0.Most) else some false) fun p99 => if p99 then (Ar a0.R 0).bind fun r105 => (AN a0 0).bind fun r108 => (Av r108 0 a1).bind fun r116 => some (r116, [r105.1]) else if decide (a0.Most ≤ (i64 (r91 + r93))) then (AN a0 2).bind fun r126 => (AF r126).bind fun r134 => if decide (r126.Most ≤ r134) then (AE r126 false).bind fun r138 => (Av r138.1 0 a1).bind fun r147 => some (r147, r138.2) else (Av r126 0 a1).bind fun r155 => some (r155, []) else if decide (a0.Most ≤ (i64 ((i64 (r95 + r93)) + r97))) then Option.bind (if decide ((i64 (2 * a0.Most)) ≤ (i64 ((i64 (r95 + r93)) + r97))) then (AN a0 3).bind fun r206 => some r206 else some a0) fun p165 => (AF p165).bind fun r175 => if decide (p165.Most ≤ r175) then (AE p165 false).bind fun r179 => (Av r179.1 0 a1).bind fun r188 => some (r188, r179.2) else (Av p165 0 a1).bind fun r196 => some (r196, []) else (Av a0 0 a1).bind fun r214 => some (r214, [])
theorem Bo.ok {G R F} (a0 : Aa) (g0_ : Aa.G) (h0 : Aa.ro R a0 g0_) (a1 : Str) (r : Aa × List Str) (hm : Bo a0 a1 = some r) : CO Tryz.prog 71 [.agg (Aa.k a0 g0_).toArray, vS a1] G R (F)
  (Ret fun u R' L' => ∃ (p0 : Aa.G) (p1 : Value), u = .tuple #[.agg (Aa.k r.1 p0).toArray, p1] ∧ (Aa.ro R' r.1 p0) ∧ L' = OwS true 9 1 eS p1 r.2 :: F) := by
 unfold Bo at hm
 refine co_ofN (N := 168) Tryz.func71 z z ?_
 refine csr ?_
 refine r_new (o_bx (Aa.k a0 g0_) z z) fun b0 => ?_
 refine r_new (o_al ze32) fun b1 => ?_
 refine r_as z ?_
 refine nssr ?_
 refine r_mv z (r_u (o_lenS Tryz.underlying9 z) (r_bin z z (bI_gt (a1.length : Int) 64) ?_))
 refine nsq ?_
 refine c_if (b := decide (64 < (a1.length : Int))) z (fun h2 => ?_) fun h2 => ?_
 ·have hm3 := ift hm h2
  clear hm
  refine csr ?_
  refine r_u (o_ldn 1 (Aa.k a0 g0_) ag32 z z z z) ?_
  refine r_u0 (o_stn ag32 z z z (al_c z (al_c z (al_c (RoN.one h0) (al_c z al_n)))) z z z) ?_
  refine r_as z ?_
  refine r_nil (x_seq (c_ret ?_))
  refine ex_st (fun _ h => st_nil (ap := true) (T := 9) (sz := 1) (en := eS) h) ?_
  obtain rfl := si hm3
  exact x_d2 z (rv_n 1 (Aa.k a0 g0_) ag32 z z z z) (rv_t z) (fun _ h => st_pk 3 [0] (by decide) h) (Le.refl _) ⟨_, z, (⟨(⟨(g0_.R.L.1, [])⟩ : Ac.G)⟩ : Aa.G), (.slice none 0 0), z, h0, z⟩
 have hm3 := iff_ hm h2
 clear hm
 refine c_skip (x_seq (c_seq (csr ?_)))
 refine r_u (o_ldn 1 (Aa.k a0 g0_) ag32 z z z z) (r_mv z ?_)
 obtain ⟨r4, hr4, hm5⟩ := bs hm3
 clear hm3
 refine r_u (o_callq ca39 z (A7.ok a0 (⟨(⟨(g0_.R.L.1, [])⟩ : Ac.G)⟩ : Aa.G) h0 a1 r4 hr4)) ?_
 refine nsq ?_
 refine c_if (b := r4) z (fun h6 => ?_) fun h6 => ?_
 ·have hm7 := ift hm5 h6
  clear hm5
  refine csr ?_
  refine r_u (o_ldn 1 (Aa.k a0 g0_) ag32 z z z z) (r_mv z ?_)
  obtain ⟨r8, hr8, hm15⟩ := bs hm7
  clear hm7
  refine r_sw (s_w (o_call ca100 z (Av.ok a0 (⟨(⟨(g0_.R.L.1, [])⟩ : Ac.G)⟩ : Aa.G) h0 1 a1 r8 hr8))) ?_
  rintro _ R13 _ le14 ⟨v9, rfl, hf10, rfl⟩
  refine r_u0 (o_stn ag32 z z z (al_c z (al_c z (al_c (RoN.one hf10) (al_c z al_n)))) z z z) ?_
  refine r_as z ?_
  refine r_nil (x_seq (c_ret ?_))
  refine ex_st (fun _ h => st_nil (ap := true) (T := 9) (sz := 1) (en := eS) h) ?_
  obtain rfl := si hm15
  exact x_d2 z (rv_n 1 (Aa.k r8 v9) ag32 z z z z) (rv_t z) (fun _ h => st_pk 3 [0] (by decide) h) le14 ⟨_, z, (⟨(⟨(v9.R.L.1, [])⟩ : Ac.G)⟩ : Aa.G), (.slice none 0 0), z, hf10, z⟩
 have hm7 := iff_ hm5 h6
 clear hm5
 refine c_skip (x_seq (csr ?_))
 refine r_sw (s_w (o_bsl (en := eS) (sz := 1) (e := 9) (cs := []) (r := []) z (fun _ => by kernel_rfl) z (by decide) z (fun _ => z))) ?_
 rintro v16 R _ _ ⟨rfl, rfl⟩
 refine r_as z ?_
 refine nsr ?_
 refine r_fa fa32_2 z ?_
 refine r_u (o_ldn 2 [g0_.R.L.1, vI a0.R.Places] ag30 z z z z) (r_mv z ?_)
 obtain ⟨r17, hr17, hm18⟩ := bs hm7
 clear hm7
 refine r_u (o_callq ca77 z (AG.ok a0.R (⟨(g0_.R.L.1, [])⟩ : Ac.G) h0 a1 r17 hr17)) (r_mv z ?_)
 refine r_ext z z ?_
 refine r_ext z z (r_as z (r_as z ?_))
 refine nssr ?_
 refine r_mv z ?_
 refine nsq ?_
 refine c_if (b := r17.2) z (fun h19 => ?_) fun h19 => ?_
 ·have hm20 := ift hm18 h19
  clear hm18
  refine c_seq ?_
  obtain ⟨r21, hr21, hm22⟩ := bs hm20
  clear hm20
  obtain ⟨r23, hr23, hm24⟩ := bs hm22
  clear hm22
  refine c_any mixed (effs := []) (V := []) ?_
  refine stage_ext [(0, .agg (Aa.k a0 g0_).toArray), (1, vI r21), (2, .agg (Aa.k a0 g0_).toArray), (3, vI r23), (4, vI r21), (5, vI r23)] z ?_
  refine stage z z z z [0, 1, 0, 7, 15, 31] [0, 1, 2, 3, 4, 5] [] z z z (q_u z z (o_ldn 2 (Aa.k a0 g0_) ag32 z z z z) (q_u z z (o_callq ca74 z (Au.ok a0 (⟨(⟨(g0_.R.L.1, [])⟩ : Ac.G)⟩ : Aa.G) h0 2 r21 hr21)) (q_u z z (o_ldn 2 (Aa.k a0 g0_) ag32 z z z z) (q_u z z (o_callq ca74 z (Au.ok a0 (⟨(⟨(g0_.R.L.1, [])⟩ : Ac.G)⟩ : Aa.G) h0 3 r23 hr23)) (q_u z z (o_as z) (q_u z z (o_as z) qn)))))) en ?_
  intro _
  refine ex_sub (E' := [(1, vS a1), (2, pt b0 0), (4, pt b1 0), (6, v16), (7, vI r17.1), (9, vI r21), (10, vI r23)]) ⟨z, z, z, z, z, z, z, trivial⟩ ?_
  refine x_seq (c_seq (csr ?_))
  refine r_mv z (r_bin z z (bI_eq r17.1 2) ?_)
  refine nsq ?_
  obtain ⟨p25, hp26, hm27⟩ := bs hm24
  refine cd_join (E' := [(1, vS a1), (2, pt b0 0), (4, pt b1 0), (6, v16), (7, vI r17.1)]) (L' := Bk b0 32 [vI a0.Most, vI p25, g0_.R.L.1, vI a0.R.Places] :: Bk b1 32 [vI 0, vI 0, .slice none 0 0, vI 0] :: OwS true 9 1 eS v16 [] :: F) ?_ fun K28 => ?_
  ·refine x_seq (c_seq (c_seq ?_))
   obtain ⟨r29, hr29, hm30⟩ := bs hm27
   clear hm27
   refine c_any mixed (effs := []) (V := []) ?_
   refine stage_ext [(0, .agg [vI a0.Most, vI p25, g0_.R.L.1, vI a0.R.Places].toArray), (1, vI r29), (2, pt b0 0), (3, vI a0.Most), (4, vB (decide (a0.Most ≤ r29)))] z ?_
   refine stage z z z z [0, 1, 0, 4, 15] [0, 1, 2, 3, 4] [] z z z (q_u z z (o_ldn 0 [vI a0.Most, vI p25, g0_.R.L.1, vI a0.R.Places] ag32 z z z z) (q_u z z (o_callq ca35 z (AF.ok (⟨a0.Most, p25, a0.R⟩ : Aa) (⟨(⟨(g0_.R.L.1, [])⟩ : Ac.G)⟩ : Aa.G) h0 r29 hr29)) (q_fa z z fa32_0 z (q_ld z z 0 sc3 z z z (q_u z z (o_bin z z (bI_ge r29 a0.Most)) qn))))) en ?_
   intro _
   refine ex_sub (E' := [(1, vS a1), (2, pt b0 0), (4, pt b1 0), (6, v16), (7, vI r17.1), (78, vB (decide (a0.Most ≤ r29)))]) ⟨z, z, z, z, z, z, trivial⟩ ?_
   refine x_seq ?_
   obtain ⟨p31, hp39, hm40⟩ := bs hm30
   refine cd_cut (fun x ks => ∀ (R32 : PH), ∀ (le33 : Le R R32), ∀ (g34 : Value), ∀ (g36 : Aa.G), ∀ (hf35 : Aa.ro R32 p31.2 g36), EX x .normal ks [(1, vS a1), (2, pt b0 0), (4, pt b1 0), (6, g34)] R32 (Bk b0 32 (Aa.k p31.2 g36) :: Bk b1 32 [vI 0, vI 0, .slice none 0 0, vI 0] :: OwS true 9 1 eS g34 p31.1 :: F)) ?_ fun K41 => ?_
   ·intro R32 le33 g34 g36 hf35
    refine x_seq (csr ?_)
    refine r_u (o_ldn 0 (Aa.k p31.2 g36) ag32 z z z z) (r_mv z ?_)
    obtain ⟨r42, hr42, hm49⟩ := bs hm40
    clear hm40
    refine r_sw (s_w (o_call ca100 z (Av.ok p31.2 (⟨(⟨(g36.R.L.1, [])⟩ : Ac.G)⟩ : Aa.G) hf35 1 a1 r42 hr42))) ?_
    rintro _ R47 _ le48 ⟨v43, rfl, hf44, rfl⟩
    refine r_mv z ?_
    refine rl_st (fun _ h => mv1 h) ?_
    refine r_u0 (o_stn ag32 z z z (al_c z (al_c z (al_c (RoN.one hf44) (al_c z al_n)))) z z z) ?_
    refine r_as z ?_
    refine r_nil (x_seq (c_ret ?_))
    obtain rfl := si hm49
    exact x_d2 z (rv_n 0 (Aa.k r42 v43) ag32 z z z z) (rv_t z) (fun _ h => st_pk 3 [2] (by decide) h) (Le.trans le33 le48) ⟨_, z, (⟨(⟨(v43.R.L.1, [])⟩ : Ac.G)⟩ : Aa.G), g34, z, hf44, z⟩
   refine c_if (b := decide (a0.Most ≤ r29)) z (fun h50 => ?_) fun h50 => ?_
   rotate_left
   ·have hm51 := iff_ hp39 h50
    clear hp39
    refine c_skip ?_
    obtain rfl := si hm51
    exact x_sub (K41 _ (Le.refl _) v16 (⟨(⟨(g0_.R.L.1, [])⟩ : Ac.G)⟩ : Aa.G) h0) ⟨z, z, z, z, trivial⟩ (fun _ h => st_pk 3 [0, 1, 2] (by decide) h)
   have hm51 := ift hp39 h50
   clear hp39
   refine c_reg ?_
   refine r_u (o_ldn 0 [vI a0.Most, vI p25, g0_.R.L.1, vI a0.R.Places] ag32 z z z z) (r_mv z (r_bin z z (bI_eq r17.1 3) ?_))
   obtain ⟨r52, hr52, hm60⟩ := bs hm51
   clear hm51
   refine r_sw (s_w (o_call ca106 z (AE.ok (⟨a0.Most, p25, a0.R⟩ : Aa) (⟨(⟨(g0_.R.L.1, [])⟩ : Ac.G)⟩ : Aa.G) h0 (r17.1 == 3) r52 hr52))) ?_
   rintro _ R58 _ le59 ⟨v53, v57, rfl, hf54, rfl⟩
   refine r_mv z ?_
   refine r_ext z z ?_
   refine r_ext z z ?_
   refine rl_st (fun _ h => mv1 h) ?_
   refine r_u0 (o_stn ag32 z z z (al_c z (al_c z (al_c (RoN.one hf54) (al_c z al_n)))) z z z) ?_
   refine r_as z ?_
   refine r_nil ?_
   obtain rfl := si hm60
   exact x_sub (K41 _ le59 v57 (⟨(⟨(v53.R.L.1, [])⟩ : Ac.G)⟩ : Aa.G) hf54) ⟨z, z, z, z, trivial⟩ (fun _ h => st_pk 4 [0, 2, 1] (by decide) h)
  refine c_if (b := (r17.1 == 2)) z (fun h61 => ?_) fun h61 => ?_
  ·have hm62 := ift hp26 h61
   clear hp26
   refine csr ?_
   refine r_mv z (r_mv z ?_)
   obtain ⟨h63, hm64⟩ := ig hm62
   clear hm62
   refine r_bin z z (bI_quo r23 r21 h63) (r_as z ?_)
   refine nssr ?_
   refine r_mv z (r_bin z z (bI_lt (i64 (r23.tdiv r21)) 1) ?_)
   refine nsq ?_
   obtain ⟨p65, hp66, hm67⟩ := bs hm64
   refine cd_join (E' := [(1, vS a1), (2, pt b0 0), (4, pt b1 0), (6, v16), (7, vI r17.1), (11, vI p65)]) (L' := Bk b1 32 [vI 0, vI 0, .slice none 0 0, vI 0] :: Bk b0 32 (Aa.k a0 g0_) :: OwS true 9 1 eS v16 [] :: F) ?_ fun K68 => ?_
   rotate_left
   ·refine c_if (b := decide ((i64 (r23.tdiv r21)) < 1)) z (fun h75 => ?_) fun h75 => ?_
    ·have hm76 := ift hp66 h75
     clear hp66
     refine c_reg ?_
     refine r_as z ?_
     refine r_nil ?_
     obtain rfl := si hm76
     exact x_sub K68 ⟨z, z, z, z, z, z, trivial⟩ (fun _ h => st_pk 3 [1, 2, 0] (by decide) h)
    have hm76 := iff_ hp66 h75
    clear hp66
    refine c_skip ?_
    obtain rfl := si hm76
    exact x_sub K68 ⟨z, z, z, z, z, z, trivial⟩ (fun _ h => st_pk 3 [1, 2, 0] (by decide) h)
   refine x_seq (csr ?_)
   refine r_fa fa32_1 z (r_ld 1 sc3 z z z (r_mv z (r_bin z z (bI_add a0.Target p65) (r_fa fa32_1 z ?_))))
   refine rl_st (fun _ h => mv1 h) ?_
   refine r_u0 (o_st sc3 z z z z z z) ?_
   refine nsr ?_
   refine r_fa fa32_1 z (r_ld 0 sc3 z z z (r_fa fa32_0 z (r_ld 0 sc3 z z z (r_bin z z (bI_gt (i64 (a0.Target + p65)) a0.Most) ?_))))
   refine nsq ?_
   obtain ⟨p69, hp70, hm71⟩ := bs hm67
   refine cd_join (E' := [(1, vS a1), (2, pt b0 0), (4, pt b1 0), (6, v16), (7, vI r17.1)]) (L' := Bk b0 32 [vI a0.Most, vI p69, g0_.R.L.1, vI a0.R.Places] :: Bk b1 32 [vI 0, vI 0, .slice none 0 0, vI 0] :: OwS true 9 1 eS v16 [] :: F) ?_ fun K72 => ?_
   ·obtain rfl := si hm71
    exact x_sub K28 ⟨z, z, z, z, z, trivial⟩ (fun _ h => st_pk 3 [0, 1, 2] (by decide) h)
   refine c_if (b := decide (a0.Most < (i64 (a0.Target + p65)))) z (fun h73 => ?_) fun h73 => ?_
   ·have hm74 := ift hp70 h73
    clear hp70
    refine c_reg ?_
    refine r_fa fa32_0 z (r_ld 0 sc3 z z z (r_fa fa32_1 z ?_))
    refine r_u0 (o_st sc3 z z z z z z) ?_
    refine r_nil ?_
    obtain rfl := si hm74
    exact x_sub K72 ⟨z, z, z, z, z, trivial⟩ (fun _ h => st_pk 3 [0, 1, 2] (by decide) h)
   have hm74 := iff_ hp70 h73
   clear hp70
   refine c_skip ?_
   obtain rfl := si hm74
   exact x_sub K72 ⟨z, z, z, z, z, trivial⟩ (fun _ h => st_pk 3 [0, 1, 2] (by decide) h)
  have hm62 := iff_ hp26 h61
  clear hp26
  refine csr ?_
  refine r_mv z (r_mv z ?_)
  obtain ⟨h77, hm78⟩ := ig hm62
  clear hm62
  refine r_bin z z (bI_quo r21 r23 h77) (r_as z ?_)
  refine nssr ?_
  refine r_mv z (r_bin z z (bI_lt (i64 (r21.tdiv r23)) 1) ?_)
  refine nsq ?_
  obtain ⟨p79, hp80, hm81⟩ := bs hm78
  refine cd_join (E' := [(1, vS a1), (2, pt b0 0), (4, pt b1 0), (6, v16), (7, vI r17.1), (12, vI p79)]) (L' := Bk b1 32 [vI 0, vI 0, .slice none 0 0, vI 0] :: Bk b0 32 (Aa.k a0 g0_) :: OwS true 9 1 eS v16 [] :: F) ?_ fun K82 => ?_
  rotate_left
  ·refine c_if (b := decide ((i64 (r21.tdiv r23)) < 1)) z (fun h89 => ?_) fun h89 => ?_
   ·have hm90 := ift hp80 h89
    clear hp80
    refine c_reg ?_
    refine r_as z ?_
    refine r_nil ?_
    obtain rfl := si hm90
    exact x_sub K82 ⟨z, z, z, z, z, z, trivial⟩ (fun _ h => st_pk 3 [1, 2, 0] (by decide) h)
   have hm90 := iff_ hp80 h89
   clear hp80
   refine c_skip ?_
   obtain rfl := si hm90
   exact x_sub K82 ⟨z, z, z, z, z, z, trivial⟩ (fun _ h => st_pk 3 [1, 2, 0] (by decide) h)
  refine x_seq (csr ?_)
  refine r_fa fa32_1 z (r_ld 1 sc3 z z z (r_mv z (r_bin z z (bI_sub a0.Target p79) (r_fa fa32_1 z ?_))))
  refine rl_st (fun _ h => mv1 h) ?_
  refine r_u0 (o_st sc3 z z z z z z) ?_
  refine nsr ?_
  refine r_fa fa32_1 z (r_ld 0 sc3 z z z (r_bin z z (bI_lt (i64 (a0.Target - p79)) 0) ?_))
  refine nsq ?_
  obtain ⟨p83, hp84, hm85⟩ := bs hm81
  refine cd_join (E' := [(1, vS a1), (2, pt b0 0), (4, pt b1 0), (6, v16), (7, vI r17.1)]) (L' := Bk b0 32 [vI a0.Most, vI p83, g0_.R.L.1, vI a0.R.Places] :: Bk b1 32 [vI 0, vI 0, .slice none 0 0, vI 0] :: OwS true 9 1 eS v16 [] :: F) ?_ fun K86 => ?_
  ·obtain rfl := si hm85
   exact x_sub K28 ⟨z, z, z, z, z, trivial⟩ (fun _ h => st_pk 3 [0, 1, 2] (by decide) h)
  refine c_if (b := decide ((i64 (a0.Target - p79)) < 0)) z (fun h87 => ?_) fun h87 => ?_
  ·have hm88 := ift hp84 h87
   clear hp84
   refine c_reg ?_
   refine r_fa fa32_1 z ?_
   refine r_u0 (o_st sc3 z z z z z z) ?_
   refine r_nil ?_
   obtain rfl := si hm88
   exact x_sub K86 ⟨z, z, z, z, z, trivial⟩ (fun _ h => st_pk 3 [0, 1, 2] (by decide) h)
  have hm88 := iff_ hp84 h87
  clear hp84
  refine c_skip ?_
  obtain rfl := si hm88
  exact x_sub K86 ⟨z, z, z, z, z, trivial⟩ (fun _ h => st_pk 3 [0, 1, 2] (by decide) h)
 have hm20 := iff_ hm18 h19
 clear hm18
 refine c_skip (x_seq (c_seq ?_))
 obtain ⟨r91, hr91, hm92⟩ := bs hm20
 clear hm20
 obtain ⟨r93, hr93, hm94⟩ := bs hm92
 clear hm92
 obtain ⟨r95, hr95, hm96⟩ := bs hm94
 clear hm94
 obtain ⟨r97, hr97, hm98⟩ := bs hm96
 clear hm96
 refine c_any mixed (effs := []) (V := []) ?_
 refine stage_ext [(0, .agg (Aa.k a0 g0_).toArray), (1, vI r91), (2, .agg (Aa.k a0 g0_).toArray), (3, vI r93), (4, vI (i64 (r91 + r93))), (5, .agg (Aa.k a0 g0_).toArray), (6, vI r95), (7, .agg (Aa.k a0 g0_).toArray), (8, vI r93), (9, vI (i64 (r95 + r93))), (10, .agg (Aa.k a0 g0_).toArray), (11, vI r97), (12, vI (i64 ((i64 (r95 + r93)) + r97))), (13, vI (i64 (r91 + r93))), (14, vI (i64 ((i64 (r95 + r93)) + r97)))] z ?_
 refine stage z z z z [0, 1, 0, 7, 15, 0, 47, 0, 239, 495, 0, 1519, 4079, 3583, 16383] [0, 1, 2, 3, 4, 5, 6, 7, 8, 9, 10, 11, 12, 13, 14] [] z z z (q_u z z (o_ldn 2 (Aa.k a0 g0_) ag32 z z z z) (q_u z z (o_callq ca74 z (Au.ok a0 (⟨(⟨(g0_.R.L.1, [])⟩ : Ac.G)⟩ : Aa.G) h0 0 r91 hr91)) (q_u z z (o_ldn 2 (Aa.k a0 g0_) ag32 z z z z) (q_u z z (o_callq ca74 z (Au.ok a0 (⟨(⟨(g0_.R.L.1, [])⟩ : Ac.G)⟩ : Aa.G) h0 2 r93 hr93)) (q_u z z (o_bin z z (bI_add r91 r93)) (q_u z z (o_ldn 2 (Aa.k a0 g0_) ag32 z z z z) (q_u z z (o_callq ca35 z (AF.ok a0 (⟨(⟨(g0_.R.L.1, [])⟩ : Ac.G)⟩ : Aa.G) h0 r95 hr95)) (q_u z z (o_ldn 2 (Aa.k a0 g0_) ag32 z z z z) (q_u z z (o_callq ca74 z (Au.ok a0 (⟨(⟨(g0_.R.L.1, [])⟩ : Ac.G)⟩ : Aa.G) h0 2 r93 hr93)) (q_u z z (o_bin z z (bI_add r95 r93)) (q_u z z (o_ldn 2 (Aa.k a0 g0_) ag32 z z z z) (q_u z z (o_callq ca74 z (Au.ok a0 (⟨(⟨(g0_.R.L.1, [])⟩ : Ac.G)⟩ : Aa.G) h0 3 r97 hr97)) (q_u z z (o_bin z z (bI_add (i64 (r95 + r93)) r97)) (q_u z z (o_as z) (q_u z z (o_as z) qn))))))))))))))) en ?_
 intro _
 refine ex_sub (E' := [(1, vS a1), (2, pt b0 0), (4, pt b1 0), (6, v16), (13, vI (i64 (r91 + r93))), (14, vI (i64 ((i64 (r95 + r93)) + r97)))]) ⟨z, z, z, z, z, z, trivial⟩ ?_
 refine x_seq (c_seq (c_blk (c_seq ?_)))
 obtain ⟨p99, hp100, hm101⟩ := bs hm98
 refine cd_join (E' := [(1, vS a1), (2, pt b0 0), (4, pt b1 0), (6, v16), (13, vI (i64 (r91 + r93))), (14, vI (i64 ((i64 (r95 + r93)) + r97))), (103, vB p99)]) (L' := Bk b1 32 [vI 0, vI 0, .slice none 0 0, vI 0] :: Bk b0 32 (Aa.k a0 g0_) :: OwS true 9 1 eS v16 [] :: F) ?_ fun K102 => ?_
 rotate_left
 ·refine cd_by (decide (a0.Most ≤ (i64 (r91 + r93)))) (fun h222 => ?_) fun h222 => ?_
  ·have hm223 := ift hp100 h222
   clear hp100
   refine c_any mixed (effs := []) (V := []) ?_
   refine stage_ext [(0, vI (i64 (r91 + r93))), (1, pt b0 0), (2, vI a0.Most), (3, vB (decide (a0.Most ≤ (i64 (r91 + r93))))), (4, vB (decide (a0.Most ≤ (i64 (r91 + r93))))), (5, .agg (Aa.k a0 g0_).toArray), (6, vI r91), (7, pt b0 0), (8, vI a0.Most), (9, vB (r91 == a0.Most)), (10, vB (r91 == a0.Most)), (11, vB (r91 == a0.Most))] z ?_
   refine stage z z z z mk15_ [0, 1, 2, 3, 4, 5, 6, 7, 8, 9, 10, 11] [] z z z (q_mv z z z (q_fa z z fa32_0 z (q_ld z z 2 sc3 z z z (q_u z z (o_bin z z (bI_ge (i64 (r91 + r93)) a0.Most)) (q_mv z z z (q_y z z z z h222 (o_ldn 2 (Aa.k a0 g0_) ag32 z z z z) (q_y z z z z h222 (o_callq ca74 z (Au.ok a0 (⟨(⟨(g0_.R.L.1, [])⟩ : Ac.G)⟩ : Aa.G) h0 0 r91 hr91)) (q_y z z z z h222 (o_fa fa32_0 z) (q_y z z z z h222 (o_ld 2 sc3 z z z) (q_y z z z z h222 (o_bin z z (bI_eq r91 a0.Most)) (q_u z z (o_pt z h222 z) (q_u z z (o_as z) qn)))))))))))) en ?_
   intro _
   refine ex_sub (E' := [(1, vS a1), (2, pt b0 0), (4, pt b1 0), (6, v16), (13, vI (i64 (r91 + r93))), (14, vI (i64 ((i64 (r95 + r93)) + r97))), (103, vB (r91 == a0.Most))]) ⟨z, z, z, z, z, z, z, trivial⟩ ?_
   obtain rfl := si hm223
   exact x_sub K102 ⟨z, z, z, z, z, z, z, trivial⟩ (fun _ h => st_pk 3 [1, 2, 0] (by decide) h)
  have hm223 := iff_ hp100 h222
  clear hp100
  refine c_any mixed (effs := []) (V := []) ?_
  refine stage_ext [(0, vI (i64 (r91 + r93))), (1, pt b0 0), (2, vI a0.Most), (3, vB (decide (a0.Most ≤ (i64 (r91 + r93))))), (4, vB (decide (a0.Most ≤ (i64 (r91 + r93))))), (5, undef), (6, undef), (7, undef), (8, undef), (9, undef), (10, vB false), (11, vB false)] z ?_
  refine stage z z z z mk15_ [0, 1, 2, 3, 4, 5, 6, 7, 8, 9, 10, 11] [] z z z (q_mv z z z (q_fa z z fa32_0 z (q_ld z z 2 sc3 z z z (q_u z z (o_bin z z (bI_ge (i64 (r91 + r93)) a0.Most)) (q_mv z z z (q_n z z z z h222 (q_n z z z z h222 (q_n z z z z h222 (q_n z z z z h222 (q_n z z z z h222 (q_u z z (o_pf z h222 z) (q_u z z (o_as z) qn)))))))))))) en ?_
  intro _
  refine ex_sub (E' := [(1, vS a1), (2, pt b0 0), (4, pt b1 0), (6, v16), (13, vI (i64 (r91 + r93))), (14, vI (i64 ((i64 (r95 + r93)) + r97))), (103, vB false)]) ⟨z, z, z, z, z, z, z, trivial⟩ ?_
  obtain rfl := si hm223
  exact x_sub K102 ⟨z, z, z, z, z, z, z, trivial⟩ (fun _ h => st_pk 3 [1, 2, 0] (by decide) h)
 refine x_seq ?_
 refine c_if (b := p99) z (fun h103 => ?_) fun h103 => ?_
 ·have hm104 := ift hm101 h103
  clear hm101
  refine csr ?_
  refine r_fa fa32_2 z ?_
  refine r_u (o_ldn 1 [g0_.R.L.1, vI a0.R.Places] ag30 z z z z) ?_
  obtain ⟨r105, hr105, hm106⟩ := bs hm104
  clear hm104
  refine r_u (o_callq ca104 z (Ar.ok a0.R (⟨(g0_.R.L.1, [])⟩ : Ac.G) h0 0 r105 hr105)) (r_mv z ?_)
  refine r_ext z z ?_
  refine r_ext z z (r_as z (r_as z ?_))
  refine nsr ?_
  refine r_mv z ?_
  refine r_sw (s_w (o_bsl (en := eS) (sz := 1) (e := 9) (cs := [vS r105.1]) (r := [r105.1]) z (fun _ => by kernel_rfl) z (by decide) z (fun _ => z))) ?_
  rintro v107 R _ _ ⟨rfl, rfl⟩
  refine r_as z ?_
  refine r_nil (x_seq (c_reg ?_))
  refine r_u (o_ldn 2 (Aa.k a0 g0_) ag32 z z z z) ?_
  obtain ⟨r108, hr108, hm115⟩ := bs hm106
  clear hm106
  refine r_sw (s_w (o_call ca107 z (AN.ok a0 (⟨(⟨(g0_.R.L.1, [])⟩ : Ac.G)⟩ : Aa.G) h0 0 r108 hr108))) ?_
  rintro _ R113 _ le114 ⟨v109, rfl, hf110, rfl⟩
  refine rl_st (fun _ h => mv2 h) ?_
  refine r_u0 (o_stn ag32 z z z (al_c z (al_c z (al_c (RoN.one hf110) (al_c z al_n)))) z z z) ?_
  refine r_nil (x_blk (x_seq (csr ?_)))
  refine r_u (o_ldn 0 (Aa.k r108 v109) ag32 z z z z) (r_mv z ?_)
  obtain ⟨r116, hr116, hm123⟩ := bs hm115
  clear hm115
  refine r_sw (s_w (o_call ca100 z (Av.ok r108 (⟨(⟨(v109.R.L.1, [])⟩ : Ac.G)⟩ : Aa.G) hf110 0 a1 r116 hr116))) ?_
  rintro _ R121 _ le122 ⟨v117, rfl, hf118, rfl⟩
  refine r_mv z ?_
  refine rl_st (fun _ h => mv2 h) ?_
  refine r_u0 (o_stn ag32 z z z (al_c z (al_c z (al_c (RoN.one hf118) (al_c z al_n)))) z z z) ?_
  refine r_as z ?_
  refine r_nil (x_seq (c_ret ?_))
  obtain rfl := si hm123
  exact x_d2 z (rv_n 0 (Aa.k r116 v117) ag32 z z z z) (rv_t z) (fun _ h => st_pk 4 [2] (by decide) h) (Le.trans le114 le122) ⟨_, z, (⟨(⟨(v117.R.L.1, [])⟩ : Ac.G)⟩ : Aa.G), v107, z, hf118, z⟩
 have hm104 := iff_ hm101 h103
 clear hm101
 refine csr ?_
 refine r_mv z (r_fa fa32_0 z (r_ld 1 sc3 z z z (r_bin z z (bI_ge (i64 (r91 + r93)) a0.Most) (r_as z ?_))))
 refine nsq ?_
 refine c_if (b := decide (a0.Most ≤ (i64 (r91 + r93)))) z (fun h124 => ?_) fun h124 => ?_
 ·have hm125 := ift hm104 h124
  clear hm104
  refine csr ?_
  refine r_u (o_ldn 1 (Aa.k a0 g0_) ag32 z z z z) ?_
  obtain ⟨r126, hr126, hm133⟩ := bs hm125
  clear hm125
  refine r_sw (s_w (o_call ca107 z (AN.ok a0 (⟨(⟨(g0_.R.L.1, [])⟩ : Ac.G)⟩ : Aa.G) h0 2 r126 hr126))) ?_
  rintro _ R131 _ le132 ⟨v127, rfl, hf128, rfl⟩
  refine rl_st (fun _ h => mv1 h) ?_
  refine r_u0 (o_stn ag32 z z z (al_c z (al_c z (al_c (RoN.one hf128) (al_c z al_n)))) z z z) ?_
  refine r_nil (x_seq (c_seq ?_))
  obtain ⟨r134, hr134, hm135⟩ := bs hm133
  clear hm133
  refine c_any mixed (effs := []) (V := []) ?_
  refine stage_ext [(0, .agg (Aa.k r126 v127).toArray), (1, vI r134), (2, pt b0 0), (3, vI r126.Most), (4, vB (decide (r126.Most ≤ r134)))] z ?_
  refine stage z z z z [0, 1, 0, 4, 15] [0, 1, 2, 3, 4] [] z z z (q_u z z (o_ldn 0 (Aa.k r126 v127) ag32 z z z z) (q_u z z (o_callq ca35 z (AF.ok r126 (⟨(⟨(v127.R.L.1, [])⟩ : Ac.G)⟩ : Aa.G) hf128 r134 hr134)) (q_fa z z fa32_0 z (q_ld z z 0 sc3 z z z (q_u z z (o_bin z z (bI_ge r134 r126.Most)) qn))))) en ?_
  intro _
  refine ex_sub (E' := [(1, vS a1), (2, pt b0 0), (4, pt b1 0), (6, v16), (136, vB (decide (r126.Most ≤ r134)))]) ⟨z, z, z, z, z, trivial⟩ ?_
  refine x_seq ?_
  refine c_if (b := decide (r126.Most ≤ r134)) z (fun h136 => ?_) fun h136 => ?_
  rotate_left
  ·have hm137 := iff_ hm135 h136
   clear hm135
   refine c_skip (x_blk (x_seq (csr ?_)))
   refine r_u (o_ldn 0 (Aa.k r126 v127) ag32 z z z z) (r_mv z ?_)
   obtain ⟨r155, hr155, hm162⟩ := bs hm137
   clear hm137
   refine r_sw (s_w (o_call ca100 z (Av.ok r126 (⟨(⟨(v127.R.L.1, [])⟩ : Ac.G)⟩ : Aa.G) hf128 0 a1 r155 hr155))) ?_
   rintro _ R160 _ le161 ⟨v156, rfl, hf157, rfl⟩
   refine r_mv z ?_
   refine rl_st (fun _ h => mv1 h) ?_
   refine r_u0 (o_stn ag32 z z z (al_c z (al_c z (al_c (RoN.one hf157) (al_c z al_n)))) z z z) ?_
   refine r_as z ?_
   refine r_nil (x_seq (c_ret ?_))
   obtain rfl := si hm162
   exact x_d2 z (rv_n 0 (Aa.k r155 v156) ag32 z z z z) (rv_t z) (fun _ h => st_pk 3 [2] (by decide) h) (Le.trans le132 le161) ⟨_, z, (⟨(⟨(v156.R.L.1, [])⟩ : Ac.G)⟩ : Aa.G), v16, z, hf157, z⟩
  have hm137 := ift hm135 h136
  clear hm135
  refine c_reg ?_
  refine r_u (o_ldn 0 (Aa.k r126 v127) ag32 z z z z) ?_
  obtain ⟨r138, hr138, hm146⟩ := bs hm137
  clear hm137
  refine r_sw (s_w (o_call ca106 z (AE.ok r126 (⟨(⟨(v127.R.L.1, [])⟩ : Ac.G)⟩ : Aa.G) hf128 false r138 hr138))) ?_
  rintro _ R144 _ le145 ⟨v139, v143, rfl, hf140, rfl⟩
  refine r_mv z ?_
  refine r_ext z z ?_
  refine r_ext z z ?_
  refine rl_st (fun _ h => mv1 h) ?_
  refine r_u0 (o_stn ag32 z z z (al_c z (al_c z (al_c (RoN.one hf140) (al_c z al_n)))) z z z) ?_
  refine r_as z ?_
  refine r_nil (x_blk (x_seq (csr ?_)))
  refine r_u (o_ldn 0 (Aa.k r138.1 v139) ag32 z z z z) (r_mv z ?_)
  obtain ⟨r147, hr147, hm154⟩ := bs hm146
  clear hm146
  refine r_sw (s_w (o_call ca100 z (Av.ok r138.1 (⟨(⟨(v139.R.L.1, [])⟩ : Ac.G)⟩ : Aa.G) hf140 0 a1 r147 hr147))) ?_
  rintro _ R152 _ le153 ⟨v148, rfl, hf149, rfl⟩
  refine r_mv z ?_
  refine rl_st (fun _ h => mv2 h) ?_
  refine r_u0 (o_stn ag32 z z z (al_c z (al_c z (al_c (RoN.one hf149) (al_c z al_n)))) z z z) ?_
  refine r_as z ?_
  refine r_nil (x_seq (c_ret ?_))
  obtain rfl := si hm154
  exact x_d2 z (rv_n 0 (Aa.k r147 v148) ag32 z z z z) (rv_t z) (fun _ h => st_pk 4 [2] (by decide) h) (Le.trans (Le.trans le132 le145) le153) ⟨_, z, (⟨(⟨(v148.R.L.1, [])⟩ : Ac.G)⟩ : Aa.G), v143, z, hf149, z⟩
 have hm125 := iff_ hm104 h124
 clear hm104
 refine csr ?_
 refine r_mv z (r_fa fa32_0 z (r_ld 1 sc3 z z z (r_u (o_bin z z (bI_ge (i64 ((i64 (r95 + r93)) + r97)) a0.Most)) (r_as z ?_))))
 refine nsq ?_
 refine c_if (b := decide (a0.Most ≤ (i64 ((i64 (r95 + r93)) + r97)))) z (fun h163 => ?_) fun h163 => ?_
 rotate_left
 ·have hm164 := iff_ hm125 h163
  clear hm125
  refine c_skip (x_blk (x_seq (csr ?_)))
  refine r_u (o_ldn 1 (Aa.k a0 g0_) ag32 z z z z) (r_mv z ?_)
  obtain ⟨r214, hr214, hm221⟩ := bs hm164
  clear hm164
  refine r_sw (s_w (o_call ca100 z (Av.ok a0 (⟨(⟨(g0_.R.L.1, [])⟩ : Ac.G)⟩ : Aa.G) h0 0 a1 r214 hr214))) ?_
  rintro _ R219 _ le220 ⟨v215, rfl, hf216, rfl⟩
  refine r_mv z ?_
  refine r_u0 (o_stn ag32 z z z (al_c z (al_c z (al_c (RoN.one hf216) (al_c z al_n)))) z z z) ?_
  refine r_as z ?_
  refine r_nil (x_seq (c_ret ?_))
  obtain rfl := si hm221
  exact x_d2 z (rv_n 0 (Aa.k r214 v215) ag32 z z z z) (rv_t z) (fun _ h => st_pk 3 [2] (by decide) h) le220 ⟨_, z, (⟨(⟨(v215.R.L.1, [])⟩ : Ac.G)⟩ : Aa.G), v16, z, hf216, z⟩
 have hm164 := ift hm125 h163
 clear hm125
 refine c_seq (csr ?_)
 refine r_mv z (r_fa fa32_0 z (r_ld 1 sc3 z z z (r_bin z z (bI_mul 2 a0.Most) (r_u (o_bin z z (bI_ge (i64 ((i64 (r95 + r93)) + r97)) (i64 (2 * a0.Most)))) ?_))))
 refine nsq ?_
 obtain ⟨p165, hp172, hm173⟩ := bs hm164
 refine cd_cut (fun x ks => ∀ (R166 : PH), ∀ (le167 : Le R R166), ∀ (g169 : Aa.G), ∀ (hf168 : Aa.ro R166 p165 g169), EX x .normal ks [(1, vS a1), (2, pt b0 0), (4, pt b1 0), (6, v16)] R166 (Bk b0 32 (Aa.k p165 g169) :: Bk b1 32 [vI 0, vI 0, .slice none 0 0, vI 0] :: OwS true 9 1 eS v16 [] :: F)) ?_ fun K174 => ?_
 rotate_left
 ·refine c_if (b := decide ((i64 (2 * a0.Most)) ≤ (i64 ((i64 (r95 + r93)) + r97)))) z (fun h204 => ?_) fun h204 => ?_
  ·have hm205 := ift hp172 h204
   clear hp172
   refine c_reg ?_
   refine r_u (o_ldn 1 (Aa.k a0 g0_) ag32 z z z z) ?_
   obtain ⟨r206, hr206, hm213⟩ := bs hm205
   clear hm205
   refine r_sw (s_w (o_call ca107 z (AN.ok a0 (⟨(⟨(g0_.R.L.1, [])⟩ : Ac.G)⟩ : Aa.G) h0 3 r206 hr206))) ?_
   rintro _ R211 _ le212 ⟨v207, rfl, hf208, rfl⟩
   refine rl_st (fun _ h => mv1 h) ?_
   refine r_u0 (o_stn ag32 z z z (al_c z (al_c z (al_c (RoN.one hf208) (al_c z al_n)))) z z z) ?_
   refine r_nil ?_
   obtain rfl := si hm213
   exact x_sub (K174 _ le212 (⟨(⟨(v207.R.L.1, [])⟩ : Ac.G)⟩ : Aa.G) hf208) ⟨z, z, z, z, trivial⟩ (fun _ h => st_pk 3 [0, 1, 2] (by decide) h)
  have hm205 := iff_ hp172 h204
  clear hp172
  refine c_skip ?_
  obtain rfl := si hm205
  exact x_sub (K174 _ (Le.refl _) (⟨(⟨(g0_.R.L.1, [])⟩ : Ac.G)⟩ : Aa.G) h0) ⟨z, z, z, z, trivial⟩ (fun _ h => st_pk 3 [1, 0, 2] (by decide) h)
 intro R166 le167 g169 hf168
 refine x_seq (c_seq ?_)
 obtain ⟨r175, hr175, hm176⟩ := bs hm173
 clear hm173
 refine c_any mixed (effs := []) (V := []) ?_
 refine stage_ext [(0, .agg (Aa.k p165 g169).toArray), (1, vI r175), (2, pt b0 0), (3, vI p165.Most), (4, vB (decide (p165.Most ≤ r175)))] z ?_
 refine stage z z z z [0, 1, 0, 4, 15] [0, 1, 2, 3, 4] [] z z z (q_u z z (o_ldn 0 (Aa.k p165 g169) ag32 z z z z) (q_u z z (o_callq ca35 z (AF.ok p165 (⟨(⟨(g169.R.L.1, [])⟩ : Ac.G)⟩ : Aa.G) hf168 r175 hr175)) (q_fa z z fa32_0 z (q_ld z z 0 sc3 z z z (q_u z z (o_bin z z (bI_ge r175 p165.Most)) qn))))) en ?_
 intro _
 refine ex_sub (E' := [(1, vS a1), (2, pt b0 0), (4, pt b1 0), (6, v16), (158, vB (decide (p165.Most ≤ r175)))]) ⟨z, z, z, z, z, trivial⟩ ?_
 refine x_seq ?_
 refine c_if (b := decide (p165.Most ≤ r175)) z (fun h177 => ?_) fun h177 => ?_
 rotate_left
 ·have hm178 := iff_ hm176 h177
  clear hm176
  refine c_skip (x_blk (x_seq (csr ?_)))
  refine r_u (o_ldn 0 (Aa.k p165 g169) ag32 z z z z) (r_mv z ?_)
  obtain ⟨r196, hr196, hm203⟩ := bs hm178
  clear hm178
  refine r_sw (s_w (o_call ca100 z (Av.ok p165 (⟨(⟨(g169.R.L.1, [])⟩ : Ac.G)⟩ : Aa.G) hf168 0 a1 r196 hr196))) ?_
  rintro _ R201 _ le202 ⟨v197, rfl, hf198, rfl⟩
  refine r_mv z ?_
  refine rl_st (fun _ h => mv1 h) ?_
  refine r_u0 (o_stn ag32 z z z (al_c z (al_c z (al_c (RoN.one hf198) (al_c z al_n)))) z z z) ?_
  refine r_as z ?_
  refine r_nil (x_seq (c_ret ?_))
  obtain rfl := si hm203
  exact x_d2 z (rv_n 0 (Aa.k r196 v197) ag32 z z z z) (rv_t z) (fun _ h => st_pk 3 [2] (by decide) h) (Le.trans le167 le202) ⟨_, z, (⟨(⟨(v197.R.L.1, [])⟩ : Ac.G)⟩ : Aa.G), v16, z, hf198, z⟩
 have hm178 := ift hm176 h177
 clear hm176
 refine c_reg ?_
 refine r_u (o_ldn 0 (Aa.k p165 g169) ag32 z z z z) ?_
 obtain ⟨r179, hr179, hm187⟩ := bs hm178
 clear hm178
 refine r_sw (s_w (o_call ca106 z (AE.ok p165 (⟨(⟨(g169.R.L.1, [])⟩ : Ac.G)⟩ : Aa.G) hf168 false r179 hr179))) ?_
 rintro _ R185 _ le186 ⟨v180, v184, rfl, hf181, rfl⟩
 refine r_mv z ?_
 refine r_ext z z ?_
 refine r_ext z z ?_
 refine rl_st (fun _ h => mv1 h) ?_
 refine r_u0 (o_stn ag32 z z z (al_c z (al_c z (al_c (RoN.one hf181) (al_c z al_n)))) z z z) ?_
 refine r_as z ?_
 refine r_nil (x_blk (x_seq (csr ?_)))
 refine r_u (o_ldn 0 (Aa.k r179.1 v180) ag32 z z z z) (r_mv z ?_)
 obtain ⟨r188, hr188, hm195⟩ := bs hm187
 clear hm187
 refine r_sw (s_w (o_call ca100 z (Av.ok r179.1 (⟨(⟨(v180.R.L.1, [])⟩ : Ac.G)⟩ : Aa.G) hf181 0 a1 r188 hr188))) ?_
 rintro _ R193 _ le194 ⟨v189, rfl, hf190, rfl⟩
 refine r_mv z ?_
 refine rl_st (fun _ h => mv2 h) ?_
 refine r_u0 (o_stn ag32 z z z (al_c z (al_c z (al_c (RoN.one hf190) (al_c z al_n)))) z z z) ?_
 refine r_as z ?_
 refine r_nil (x_seq (c_ret ?_))
 obtain rfl := si hm195
 exact x_d2 z (rv_n 0 (Aa.k r188 v189) ag32 z z z z) (rv_t z) (fun _ h => st_pk 4 [2] (by decide) h) (Le.trans (Le.trans le167 le186) le194) ⟨_, z, (⟨(⟨(v189.R.L.1, [])⟩ : Ac.G)⟩ : Aa.G), v184, z, hf190, z⟩
def BS (a0 : Ad) : Option Int :=
 (Bm a0.R).bind fun r1 => some r1
theorem BS.ok {G R F} (a0 : Ad) (g0_ : Ad.G) (h0 : Ad.ro R a0 g0_) (r : Int) (hm : BS a0 = some r) : CO Tryz.prog 36 [.agg (Ad.k a0 g0_).toArray] G R (F)
  (Ret fun u R' L' => u = vI r ∧ R' = R ∧ L' = F) := by
 unfold BS at hm
 refine co_ofN (N := 6) Tryz.func36 z z ?_
 refine csr ?_
 refine r_new (o_bx (Ad.k a0 g0_) z z) fun b0 => ?_
 refine r_as z ?_
 refine nsr ?_
 refine r_fa fa38_2 z ?_
 refine r_u (o_ldn 0 [g0_.R.L.1, vI a0.R.Places] ag30 z z z z) ?_
 obtain ⟨r1, hr1, hm2⟩ := bs hm
 clear hm
 refine r_u (o_callq ca75 z (Bm.ok a0.R (⟨(g0_.R.L.1, [])⟩ : Ac.G) h0.2 r1 hr1)) (r_as z ?_)
 refine r_nil (x_seq (c_ret ?_))
 obtain rfl := si hm2
 refine ex_st (fun _ h => st_pk 1 [] (by decide) h) ?_
 exact x_r1 z (rv_t z) (Le.refl _) ⟨_, z, z, z, z⟩
def AQ (a0 : Af) (a1 : Str) : Option Int :=
 (AW a0 a1).bind fun r1 => (AM a0 a1 4).bind fun r3 => (gi a0.Door r3).bind fun x5 => if x5 then some (i64 (r1 + 1)) else some r1
theorem AQ.ok {G R F} (a0 : Af) (g0_ : Af.G) (h0 : Af.ro R a0 g0_) (a1 : Str) (r : Int) (hm : AQ a0 a1 = some r) : CO Tryz.prog 108 [.agg (Af.k a0 g0_).toArray, vS a1] G R (F)
  (Ret fun u R' L' => u = vI r ∧ R' = R ∧ L' = F) := by
 unfold AQ at hm
 refine co_ofN (N := 19) Tryz.func108 z z ?_
 refine csr ?_
 refine r_new (o_bx (Af.k a0 g0_) z z) fun b0 => ?_
 refine r_as z ?_
 refine nsr ?_
 refine r_u (o_ldn 0 (Af.k a0 g0_) ag36 z z z z) (r_mv z ?_)
 obtain ⟨r1, hr1, hm2⟩ := bs hm
 clear hm
 refine r_u (o_callq ca130 z (AW.ok a0 (⟨(g0_.Rows.1, []), g0_.Door⟩ : Af.G) ⟨h0.1, h0.2⟩ a1 r1 hr1)) (r_as z ?_)
 refine r_nil (x_seq (c_seq (c_seq ?_)))
 obtain ⟨r3, hr3, hm4⟩ := bs hm2
 clear hm2
 obtain ⟨x5, hx5, hm6⟩ := bs hm4
 clear hm4
 obtain ⟨b5, o5, l5, T5, fr5, c5, hv5, hR5, he5, hi5⟩ := RoS.ne h0.2 hx5
 refine c_any mixed (effs := []) (V := []) ?_
 refine stage_ext [(0, pt b0 3), (1, g0_.Door), (2, .agg (Af.k a0 g0_).toArray), (3, vS a1), (4, vI r3), (5, pt b5 (o5 + r3.toNat * 1)), (6, vB x5)] z ?_
 refine stage z z z z [0, 1, 0, 0, 12, 31, 63] [0, 1, 2, 3, 4, 5, 6] [] z z z (q_fa z z fa36_3 z (q_ld z z 0 sc34 z z z (q_u z z (o_ldn 0 (Af.k a0 g0_) ag36 z z z z) (q_mv z z z (q_u z z (o_callq ca129 z (AM.ok a0 (⟨(g0_.Rows.1, []), g0_.Door⟩ : Af.G) ⟨h0.1, h0.2⟩ a1 4 r3 hr3)) (q_u z z (o_ix (sz := 1) Tryz.underlying34 (fun _ => by kernel_rfl) z z hv5 hi5) (q_u z z (o_ldR sc4 z hR5 (rok 0 he5 (by decide))) qn))))))) en ?_
 intro _
 refine ex_sub (E' := [(5, vI r1), (15, vB x5)]) ⟨z, z, trivial⟩ ?_
 refine x_seq ?_
 refine c_if (b := x5) z (fun h7 => ?_) fun h7 => ?_
 ·have hm8 := ift hm6 h7
  clear hm6
  refine c_reg ?_
  refine r_mv z (r_bin z z (bI_add r1 1) (r_as z ?_))
  refine nsr ?_
  refine r_mv z (r_as z ?_)
  refine r_nil (x_seq (c_ret ?_))
  obtain rfl := si hm8
  refine ex_st (fun _ h => st_pk 1 [] (by decide) h) ?_
  exact x_r1 z (rv_t z) (Le.refl _) ⟨_, z, z, z, z⟩
 have hm8 := iff_ hm6 h7
 clear hm6
 refine c_skip (x_seq (csr ?_))
 refine r_mv z (r_as z ?_)
 refine r_nil (x_seq (c_ret ?_))
 obtain rfl := si hm8
 refine ex_st (fun _ h => st_pk 1 [] (by decide) h) ?_
 exact x_r1 z (rv_t z) (Le.refl _) ⟨_, z, z, z, z⟩
def AY (a0 : Ad) (a1 : Str) : Option (Ad × List Str) :=
 if decide (64 < (a1.length : Int)) then some (a0, []) else (A2 a0 a1).bind fun r4 => if r4.2 then some (r4.1, []) else (AX a0.S a1).bind fun r18 => (AA (⟨a0.Most, r18, a0.R⟩ : Ad) 0 a1).bind fun r33 => lt (BI r33.Most) fun r44 => (gi r33.R.L 0).bind fun x46 => if decide ((x46.length : Int) ≤ r44.1) then some (r33, []) else (Ar r33.R 0).bind fun r51 => (BS r33).bind fun r53 => if decide (r53 ≤ r33.Most) then (AA r33 1 r51.1).bind fun r57 => some (r57, []) else (Ar r33.R 1).bind fun r68 => Option.bind (if !r68.2 then (Ar r33.R 2).bind fun r117 => some (r117.1, r117.2) else some (r68.1, r68.2)) fun p70 => Option.bind (if p70.2 then (AQ r33.S r51.1).bind fun r111 => (AQ r33.S p70.1).bind fun r113 => some (decide (r113 < r111)) else some false) fun p74 => if p74 then (Az r33.R p70.1).bind fun r80 => (AA (⟨r33.Most, r33.S, r80⟩ : Ad) 1 r51.1).bind fun r88 => some (r88, [p70.1]) else (Az r33.R r51.1).bind fun r100 => some ((⟨r33.Most, r33.S, r100⟩ : Ad), [r51.1])
theorem AY.ok {G R F} (a0 : Ad) (g0_ : Ad.G) (h0 : Ad.ro R a0 g0_) (a1 : Str) (r : Ad × List Str) (hm : AY a0 a1 = some r) : CO Tryz.prog 72 [.agg (Ad.k a0 g0_).toArray, vS a1] G R (F)
  (Ret fun u R' L' => ∃ (p0 : Ad.G) (p1 : Value), u = .tuple #[.agg (Ad.k r.1 p0).toArray, p1] ∧ (Ad.ro R' r.1 p0) ∧ L' = OwS true 9 1 eS p1 r.2 :: F) := by
 unfold AY at hm
 refine co_ofN (N := 107) Tryz.func72 z z ?_
 refine csr ?_
 refine r_new (o_bx (Ad.k a0 g0_) z z) fun b0 => ?_
 refine r_new (o_al ze38) fun b1 => ?_
 refine r_as z ?_
 refine nssr ?_
 refine r_mv z (r_u (o_lenS Tryz.underlying9 z) (r_bin z z (bI_gt (a1.length : Int) 64) ?_))
 refine nsq ?_
 refine c_if (b := decide (64 < (a1.length : Int))) z (fun h2 => ?_) fun h2 => ?_
 ·have hm3 := ift hm h2
  clear hm
  refine csr ?_
  refine r_u (o_ldn 1 (Ad.k a0 g0_) ag38 z z z z) ?_
  refine r_u0 (o_stn ag38 z z z (al_c z (al_c z (al_c z (al_c (RoN.one h0.1.1) (al_c (RoS.one h0.1.2) (al_c z (al_c (RoN.one h0.2) (al_c z al_n)))))))) z z z) ?_
  refine r_as z ?_
  refine r_nil (x_seq (c_ret ?_))
  refine ex_st (fun _ h => st_nil (ap := true) (T := 9) (sz := 1) (en := eS) h) ?_
  obtain rfl := si hm3
  exact x_d2 z (rv_n 1 (Ad.k a0 g0_) ag38 z z z z) (rv_t z) (fun _ h => st_pk 3 [0] (by decide) h) (Le.refl _) ⟨_, z, (⟨(⟨(g0_.S.Rows.1, []), g0_.S.Door⟩ : Af.G), (⟨(g0_.R.L.1, [])⟩ : Ac.G)⟩ : Ad.G), (.slice none 0 0), z, ⟨⟨h0.1.1, h0.1.2⟩, h0.2⟩, z⟩
 have hm3 := iff_ hm h2
 clear hm
 refine c_skip (x_seq (c_seq (csr ?_)))
 refine r_u (o_ldn 1 (Ad.k a0 g0_) ag38 z z z z) (r_mv z ?_)
 obtain ⟨r4, hr4, hm14⟩ := bs hm3
 clear hm3
 refine r_sw (s_w (o_call ca65 z (A2.ok a0 (⟨(⟨(g0_.S.Rows.1, []), g0_.S.Door⟩ : Af.G), (⟨(g0_.R.L.1, [])⟩ : Ac.G)⟩ : Ad.G) ⟨⟨h0.1.1, h0.1.2⟩, h0.2⟩ a1 r4 hr4))) ?_
 rintro _ R12 _ le13 ⟨v5, rfl, hf6, rfl⟩
 refine r_mv z ?_
 refine r_ext z z ?_
 refine r_ext z z ?_
 refine r_new (o_al ze38) fun b15 => ?_
 refine r_u0 (o_stn ag38 z z z (al_c z (al_c z (al_c z (al_c (RoN.one hf6.1.1) (al_c (RoS.one hf6.1.2) (al_c z (al_c (RoN.one hf6.2) (al_c z al_n)))))))) z z z) ?_
 refine r_as z ?_
 refine nsr ?_
 refine r_mv z ?_
 refine nsq ?_
 refine c_if (b := r4.2) z (fun h16 => ?_) fun h16 => ?_
 ·have hm17 := ift hm14 h16
  clear hm14
  refine csr ?_
  refine r_u (o_ldn 0 (Ad.k r4.1 v5) ag38 z z z z) ?_
  refine rl_st (fun _ h => mv1 h) ?_
  refine r_u0 (o_stn ag38 z z z (al_c z (al_c z (al_c z (al_c (RoN.one hf6.1.1) (al_c (RoS.one hf6.1.2) (al_c z (al_c (RoN.one hf6.2) (al_c z al_n)))))))) z z z) ?_
  refine r_as z ?_
  refine r_nil (x_seq (c_ret ?_))
  refine ex_st (fun _ h => st_nil (ap := true) (T := 9) (sz := 1) (en := eS) h) ?_
  obtain rfl := si hm17
  exact x_d2 z (rv_n 1 (Ad.k r4.1 v5) ag38 z z z z) (rv_t z) (fun _ h => st_pk 4 [0] (by decide) h) le13 ⟨_, z, (⟨(⟨(v5.S.Rows.1, []), v5.S.Door⟩ : Af.G), (⟨(v5.R.L.1, [])⟩ : Ac.G)⟩ : Ad.G), (.slice none 0 0), z, ⟨⟨hf6.1.1, hf6.1.2⟩, hf6.2⟩, z⟩
 have hm17 := iff_ hm14 h16
 clear hm14
 refine c_skip (x_seq (csr ?_))
 refine r_fa fa38_1 z ?_
 refine r_u (o_ldn 2 (Af.k a0.S g0_.S) ag36 z z z z) (r_mv z ?_)
 obtain ⟨r18, hr18, hm24⟩ := bs hm17
 clear hm17
 refine r_sw (s_w (o_call ca101 z (AX.ok a0.S (⟨(g0_.S.Rows.1, []), g0_.S.Door⟩ : Af.G) ⟨(RoN.mono le13 h0.1.1), (RoS.mono le13 h0.1.2)⟩ a1 r18 hr18))) ?_
 rintro _ R22 _ le23 ⟨v19, rfl, _, rfl⟩
 refine r_fa fa38_1 z ?_
 refine rl_st (fun _ h => mv5 (mv1 (mv2 h))) ?_
 refine r_u0 (ou_if (one_o 1 z) fun ho0 => ou_if (one_o 2 z) fun ho1 => o_stn ag36 z z z (al_c z (al_c z (al_c ho0 (al_c ho1 (al_c z al_n))))) z z z) ?_
 refine nsr ?_
 refine r_u (o_ldn 0 [vI a0.Most, vI r18.Wide, vW r18.Seed, v19.Rows.1, v19.Door, vI r18.Added, g0_.R.L.1, vI a0.R.Places] ag38 z z z z) (r_mv z ?_)
 refine rl_st (fun _ h => mv2 (mv3 h)) ?_
 refine rl_ex (fun w h => st_freezeN w h) fun R25 hf28 => ?_
 obtain ⟨le26, h27⟩ := hf28
 refine rl_st (fun _ h => mv1 h) ?_
 refine rl_ex (fun w h => st_freeze w h) fun R29 hf32 => ?_
 obtain ⟨le30, h31⟩ := hf32
 obtain ⟨r33, hr33, hm43⟩ := bs hm24
 clear hm24
 refine r_sw (s_w (o_call ca102 z (AA.ok (⟨a0.Most, r18, a0.R⟩ : Ad) (⟨(⟨(v19.Rows.1, []), v19.Door⟩ : Af.G), (⟨(g0_.R.L.1, [])⟩ : Ac.G)⟩ : Ad.G) ⟨⟨(RoN.mono le30 h27), h31⟩, (RoN.mono (Le.trans (Le.trans (Le.trans le13 le23) le26) le30) h0.2)⟩ 0 a1 r33 hr33))) ?_
 rintro _ R41 _ le42 ⟨v34, rfl, hf35, rfl⟩
 refine r_u0 (o_stn ag38 z z z (al_c z (al_c z (al_c z (al_c (RoN.one hf35.1.1) (al_c (RoS.one hf35.1.2) (al_c z (al_c (RoN.one hf35.2) (al_c z al_n)))))))) z z z) ?_
 refine nsr ?_
 refine r_fa fa38_0 z (r_ld 0 sc3 z z z ?_)
 obtain ⟨r44, hr44, hm45⟩ := ltx hm43
 clear hm43
 refine r_u (o_callq ca103 z (BI.ok r33.Most r44 hr44)) (r_mv z ?_)
 refine r_ext z z ?_
 refine r_ext z z (r_as z (r_as z ?_))
 refine nssr ?_
 refine r_fa fa38_2 z (r_fa fa30_0 z (r_ld 0 sc28 z z z ?_))
 obtain ⟨x46, hx46, hm48⟩ := bs hm45
 clear hm45
 obtain ⟨b46, o46, l46, T46, fr46, c46, u47, hv46, hR46, he46, hi46, hN46⟩ := RoN.ne hf35.2 hx46
 refine r_u (o_ix (sz := 1) Tryz.underlying28 (fun _ => by kernel_rfl) z z hv46 hi46) ?_
 refine r_u (o_ldR sc57 z hR46 (rok 0 he46 (by decide))) ?_
 refine r_u (o_lenR Tryz.underlying57 z hN46) (r_mv z (r_bin z z (bI_le (x46.length : Int) r44.1) ?_))
 refine nsq ?_
 refine c_if (b := decide ((x46.length : Int) ≤ r44.1)) z (fun h49 => ?_) fun h49 => ?_
 ·have hm50 := ift hm48 h49
  clear hm48
  refine csr ?_
  refine r_u (o_ldn 0 (Ad.k r33 v34) ag38 z z z z) ?_
  refine rl_st (fun _ h => mv2 h) ?_
  refine r_u0 (o_stn ag38 z z z (al_c z (al_c z (al_c z (al_c (RoN.one hf35.1.1) (al_c (RoS.one hf35.1.2) (al_c z (al_c (RoN.one hf35.2) (al_c z al_n)))))))) z z z) ?_
  refine r_as z ?_
  refine r_nil (x_seq (c_ret ?_))
  refine ex_st (fun _ h => st_nil (ap := true) (T := 9) (sz := 1) (en := eS) h) ?_
  obtain rfl := si hm50
  exact x_d2 z (rv_n 1 (Ad.k r33 v34) ag38 z z z z) (rv_t z) (fun _ h => st_pk 4 [0] (by decide) h) (Le.trans (Le.trans (Le.trans (Le.trans le13 le23) le26) le30) le42) ⟨_, z, (⟨(⟨(v34.S.Rows.1, []), v34.S.Door⟩ : Af.G), (⟨(v34.R.L.1, [])⟩ : Ac.G)⟩ : Ad.G), (.slice none 0 0), z, ⟨⟨hf35.1.1, hf35.1.2⟩, hf35.2⟩, z⟩
 have hm50 := iff_ hm48 h49
 clear hm48
 refine c_skip (x_seq (csr ?_))
 refine r_fa fa38_2 z ?_
 refine r_u (o_ldn 0 [v34.R.L.1, vI r33.R.Places] ag30 z z z z) ?_
 obtain ⟨r51, hr51, hm52⟩ := bs hm50
 clear hm50
 refine r_u (o_callq ca104 z (Ar.ok r33.R (⟨(v34.R.L.1, [])⟩ : Ac.G) hf35.2 0 r51 hr51)) (r_mv z ?_)
 refine r_ext z z ?_
 refine r_ext z z (r_as z (r_as z ?_))
 refine r_nil (x_seq (c_seq (c_seq ?_)))
 obtain ⟨r53, hr53, hm54⟩ := bs hm52
 clear hm52
 refine c_any mixed (effs := []) (V := []) ?_
 refine stage_ext [(0, .agg (Ad.k r33 v34).toArray), (1, vI r53), (2, pt b0 0), (3, vI r33.Most), (4, vB (decide (r53 ≤ r33.Most)))] z ?_
 refine stage z z z z [0, 1, 0, 4, 15] [0, 1, 2, 3, 4] [] z z z (q_u z z (o_ldn 0 (Ad.k r33 v34) ag38 z z z z) (q_u z z (o_callq ca36 z (BS.ok r33 (⟨(⟨(v34.S.Rows.1, []), v34.S.Door⟩ : Af.G), (⟨(v34.R.L.1, [])⟩ : Ac.G)⟩ : Ad.G) ⟨⟨hf35.1.1, hf35.1.2⟩, hf35.2⟩ r53 hr53)) (q_fa z z fa38_0 z (q_ld z z 0 sc3 z z z (q_u z z (o_bin z z (bI_le r53 r33.Most)) qn))))) en ?_
 intro _
 refine ex_sub (E' := [(2, pt b0 0), (4, pt b1 0), (10, vS r51.1), (59, vB (decide (r53 ≤ r33.Most)))]) ⟨z, z, z, z, trivial⟩ ?_
 refine x_seq ?_
 refine c_if (b := decide (r53 ≤ r33.Most)) z (fun h55 => ?_) fun h55 => ?_
 ·have hm56 := ift hm54 h55
  clear hm54
  refine csr ?_
  refine r_u (o_ldn 0 (Ad.k r33 v34) ag38 z z z z) (r_mv z ?_)
  obtain ⟨r57, hr57, hm67⟩ := bs hm56
  clear hm56
  refine r_sw (s_w (o_call ca102 z (AA.ok r33 (⟨(⟨(v34.S.Rows.1, []), v34.S.Door⟩ : Af.G), (⟨(v34.R.L.1, [])⟩ : Ac.G)⟩ : Ad.G) ⟨⟨hf35.1.1, hf35.1.2⟩, hf35.2⟩ 1 r51.1 r57 hr57))) ?_
  rintro _ R65 _ le66 ⟨v58, rfl, hf59, rfl⟩
  refine rl_st (fun _ h => mv2 h) ?_
  refine r_u0 (o_stn ag38 z z z (al_c z (al_c z (al_c z (al_c (RoN.one hf59.1.1) (al_c (RoS.one hf59.1.2) (al_c z (al_c (RoN.one hf59.2) (al_c z al_n)))))))) z z z) ?_
  refine r_as z ?_
  refine r_nil (x_seq (c_ret ?_))
  refine ex_st (fun _ h => st_nil (ap := true) (T := 9) (sz := 1) (en := eS) h) ?_
  obtain rfl := si hm67
  exact x_d2 z (rv_n 1 (Ad.k r57 v58) ag38 z z z z) (rv_t z) (fun _ h => st_pk 4 [0] (by decide) h) (Le.trans (Le.trans (Le.trans (Le.trans (Le.trans le13 le23) le26) le30) le42) le66) ⟨_, z, (⟨(⟨(v58.S.Rows.1, []), v58.S.Door⟩ : Af.G), (⟨(v58.R.L.1, [])⟩ : Ac.G)⟩ : Ad.G), (.slice none 0 0), z, ⟨⟨hf59.1.1, hf59.1.2⟩, hf59.2⟩, z⟩
 have hm56 := iff_ hm54 h55
 clear hm54
 refine c_skip (x_seq (csr ?_))
 refine r_fa fa38_2 z ?_
 refine r_u (o_ldn 0 [v34.R.L.1, vI r33.R.Places] ag30 z z z z) ?_
 obtain ⟨r68, hr68, hm69⟩ := bs hm56
 clear hm56
 refine r_u (o_callq ca104 z (Ar.ok r33.R (⟨(v34.R.L.1, [])⟩ : Ac.G) hf35.2 1 r68 hr68)) (r_mv z ?_)
 refine r_ext z z ?_
 refine r_ext z z (r_as z (r_as z ?_))
 refine nssr ?_
 refine r_mv z ?_
 refine r_u (o_not z) ?_
 refine nsq ?_
 obtain ⟨p70, hp71, hm72⟩ := bs hm69
 refine cd_join (E' := [(2, pt b0 0), (4, pt b1 0), (10, vS r51.1), (12, vS p70.1), (13, vB p70.2)]) (L' := Bk b0 38 (Ad.k r33 v34) :: Bk b15 38 (Ad.k r4.1 v5) :: Bk b1 38 [vI 0, vI 0, vW 0, .slice none 0 0, .slice none 0 0, vI 0, .slice none 0 0, vI 0] :: F) ?_ fun K73 => ?_
 rotate_left
 ·refine c_if (b := !r68.2) z (fun h115 => ?_) fun h115 => ?_
  ·have hm116 := ift hp71 h115
   clear hp71
   refine c_reg ?_
   refine r_fa fa38_2 z ?_
   refine r_u (o_ldn 0 [v34.R.L.1, vI r33.R.Places] ag30 z z z z) ?_
   obtain ⟨r117, hr117, hm118⟩ := bs hm116
   clear hm116
   refine r_u (o_callq ca104 z (Ar.ok r33.R (⟨(v34.R.L.1, [])⟩ : Ac.G) hf35.2 2 r117 hr117)) (r_mv z ?_)
   refine r_ext z z ?_
   refine r_ext z z (r_as z (r_as z ?_))
   refine r_nil ?_
   obtain rfl := si hm118
   exact x_sub K73 ⟨z, z, z, z, z, trivial⟩ (fun _ h => st_pk 3 [0, 1, 2] (by decide) h)
  have hm116 := iff_ hp71 h115
  clear hp71
  refine c_skip ?_
  obtain rfl := si hm116
  exact x_sub K73 ⟨z, z, z, z, z, trivial⟩ (fun _ h => st_pk 3 [0, 1, 2] (by decide) h)
 refine x_seq (c_seq (c_seq ?_))
 obtain ⟨p74, hp75, hm76⟩ := bs hm72
 refine cd_join (E' := [(2, pt b0 0), (4, pt b1 0), (10, vS r51.1), (12, vS p70.1), (88, vB p74)]) (L' := Bk b0 38 (Ad.k r33 v34) :: Bk b15 38 (Ad.k r4.1 v5) :: Bk b1 38 [vI 0, vI 0, vW 0, .slice none 0 0, .slice none 0 0, vI 0, .slice none 0 0, vI 0] :: F) ?_ fun K77 => ?_
 rotate_left
 ·refine cd_by p70.2 (fun h109 => ?_) fun h109 => ?_
  ·have hm110 := ift hp75 h109
   clear hp75
   obtain ⟨r111, hr111, hm112⟩ := bs hm110
   clear hm110
   obtain ⟨r113, hr113, hm114⟩ := bs hm112
   clear hm112
   refine c_any mixed (effs := []) (V := []) ?_
   refine stage_ext [(0, vB p70.2), (1, vB p70.2), (2, pt b0 1), (3, .agg (Af.k r33.S v34.S).toArray), (4, vS r51.1), (5, vI r111), (6, pt b0 1), (7, .agg (Af.k r33.S v34.S).toArray), (8, vS p70.1), (9, vI r113), (10, vB (decide (r113 < r111))), (11, vB (decide (r113 < r111)))] z ?_
   refine stage z z z z mk28_ [0, 1, 2, 3, 4, 5, 6, 7, 8, 9, 10, 11] [] z z z (q_mv z z z (q_mv z z z (q_y z z z z h109 (o_fa fa38_1 z) (q_y z z z z h109 (o_ldn 0 (Af.k r33.S v34.S) ag36 z z z z) (q_y z z z z h109 (o_mv z) (q_y z z z z h109 (o_callq ca108 z (AQ.ok r33.S (⟨(v34.S.Rows.1, []), v34.S.Door⟩ : Af.G) ⟨hf35.1.1, hf35.1.2⟩ r51.1 r111 hr111)) (q_y z z z z h109 (o_fa fa38_1 z) (q_y z z z z h109 (o_ldn 0 (Af.k r33.S v34.S) ag36 z z z z) (q_y z z z z h109 (o_mv z) (q_y z z z z h109 (o_callq ca108 z (AQ.ok r33.S (⟨(v34.S.Rows.1, []), v34.S.Door⟩ : Af.G) ⟨hf35.1.1, hf35.1.2⟩ p70.1 r113 hr113)) (q_y z z z z h109 (o_bin z z (bI_gt r111 r113)) (q_u z z (o_pt z h109 z) qn)))))))))))) en ?_
   intro _
   refine ex_sub (E' := [(2, pt b0 0), (4, pt b1 0), (10, vS r51.1), (12, vS p70.1), (88, vB (decide (r113 < r111)))]) ⟨z, z, z, z, z, trivial⟩ ?_
   obtain rfl := si hm114
   exact x_sub K77 ⟨z, z, z, z, z, trivial⟩ (fun _ h => st_pk 3 [0, 1, 2] (by decide) h)
  have hm110 := iff_ hp75 h109
  clear hp75
  refine c_any mixed (effs := []) (V := []) ?_
  refine stage_ext [(0, vB p70.2), (1, vB p70.2), (2, undef), (3, undef), (4, undef), (5, undef), (6, undef), (7, undef), (8, undef), (9, undef), (10, undef), (11, vB false)] z ?_
  refine stage z z z z mk28_ [0, 1, 2, 3, 4, 5, 6, 7, 8, 9, 10, 11] [] z z z (q_mv z z z (q_mv z z z (q_n z z z z h109 (q_n z z z z h109 (q_n z z z z h109 (q_n z z z z h109 (q_n z z z z h109 (q_n z z z z h109 (q_n z z z z h109 (q_n z z z z h109 (q_n z z z z h109 (q_u z z (o_pf z h109 z) qn)))))))))))) en ?_
  intro _
  refine ex_sub (E' := [(2, pt b0 0), (4, pt b1 0), (10, vS r51.1), (12, vS p70.1), (88, vB false)]) ⟨z, z, z, z, z, trivial⟩ ?_
  obtain rfl := si hm110
  exact x_sub K77 ⟨z, z, z, z, z, trivial⟩ (fun _ h => st_pk 3 [0, 1, 2] (by decide) h)
 refine x_seq ?_
 refine c_if (b := p74) z (fun h78 => ?_) fun h78 => ?_
 ·have hm79 := ift hm76 h78
  clear hm76
  refine csr ?_
  refine r_fa fa38_2 z ?_
  refine r_u (o_ldn 0 [v34.R.L.1, vI r33.R.Places] ag30 z z z z) (r_mv z ?_)
  obtain ⟨r80, hr80, hm83⟩ := bs hm79
  clear hm79
  refine r_sw (s_w (o_call ca105 z (Az.ok r33.R (⟨(v34.R.L.1, [])⟩ : Ac.G) hf35.2 p70.1 r80 hr80))) ?_
  rintro _ R41 _ _ ⟨v81, rfl, rfl, rfl⟩
  refine r_fa fa38_2 z ?_
  refine rl_st (fun _ h => mv2 h) ?_
  refine r_u0 (ou_if (one_o 1 z) fun ho0 => o_stn ag30 z z z (al_c ho0 (al_c z al_n)) z z z) ?_
  refine nsr ?_
  refine r_u (o_ldn 0 [vI r33.Most, vI r33.S.Wide, vW r33.S.Seed, v34.S.Rows.1, v34.S.Door, vI r33.S.Added, v81.L.1, vI r80.Places] ag38 z z z z) (r_mv z ?_)
  refine rl_st (fun _ h => mv2 (mv2 h)) ?_
  refine rl_ex (fun w h => st_freezeN w h) fun R84 hf87 => ?_
  obtain ⟨le85, h86⟩ := hf87
  obtain ⟨r88, hr88, hm98⟩ := bs hm83
  clear hm83
  refine r_sw (s_w (o_call ca102 z (AA.ok (⟨r33.Most, r33.S, r80⟩ : Ad) (⟨(⟨(v34.S.Rows.1, []), v34.S.Door⟩ : Af.G), (⟨(v81.L.1, [])⟩ : Ac.G)⟩ : Ad.G) ⟨⟨(RoN.mono le85 hf35.1.1), (RoS.mono le85 hf35.1.2)⟩, h86⟩ 1 r51.1 r88 hr88))) ?_
  rintro _ R96 _ le97 ⟨v89, rfl, hf90, rfl⟩
  refine r_mv z ?_
  refine r_sw (s_w (o_bsl (en := eS) (sz := 1) (e := 9) (cs := [vS p70.1]) (r := [p70.1]) z (fun _ => by kernel_rfl) z (by decide) z (fun _ => z))) ?_
  rintro v99 R96 _ _ ⟨rfl, rfl⟩
  refine rl_st (fun _ h => mv3 h) ?_
  refine r_u0 (o_stn ag38 z z z (al_c z (al_c z (al_c z (al_c (RoN.one hf90.1.1) (al_c (RoS.one hf90.1.2) (al_c z (al_c (RoN.one hf90.2) (al_c z al_n)))))))) z z z) ?_
  refine r_as z ?_
  refine r_nil (x_seq (c_ret ?_))
  obtain rfl := si hm98
  exact x_d2 z (rv_n 0 (Ad.k r88 v89) ag38 z z z z) (rv_t z) (fun _ h => st_pk 4 [1] (by decide) h) (Le.trans (Le.trans (Le.trans (Le.trans (Le.trans (Le.trans le13 le23) le26) le30) le42) le85) le97) ⟨_, z, (⟨(⟨(v89.S.Rows.1, []), v89.S.Door⟩ : Af.G), (⟨(v89.R.L.1, [])⟩ : Ac.G)⟩ : Ad.G), v99, z, ⟨⟨hf90.1.1, hf90.1.2⟩, hf90.2⟩, z⟩
 have hm79 := iff_ hm76 h78
 clear hm76
 refine c_skip (x_seq (csr ?_))
 refine r_fa fa38_2 z ?_
 refine r_u (o_ldn 0 [v34.R.L.1, vI r33.R.Places] ag30 z z z z) (r_mv z ?_)
 obtain ⟨r100, hr100, hm103⟩ := bs hm79
 clear hm79
 refine r_sw (s_w (o_call ca105 z (Az.ok r33.R (⟨(v34.R.L.1, [])⟩ : Ac.G) hf35.2 r51.1 r100 hr100))) ?_
 rintro _ R41 _ _ ⟨v101, rfl, rfl, rfl⟩
 refine r_fa fa38_2 z ?_
 refine rl_st (fun _ h => mv2 h) ?_
 refine r_u0 (ou_if (one_o 1 z) fun ho0 => o_stn ag30 z z z (al_c ho0 (al_c z al_n)) z z z) ?_
 refine nsr ?_
 refine r_u (o_ldn 0 [vI r33.Most, vI r33.S.Wide, vW r33.S.Seed, v34.S.Rows.1, v34.S.Door, vI r33.S.Added, v101.L.1, vI r100.Places] ag38 z z z z) (r_mv z ?_)
 refine r_sw (s_w (o_bsl (en := eS) (sz := 1) (e := 9) (cs := [vS r51.1]) (r := [r51.1]) z (fun _ => by kernel_rfl) z (by decide) z (fun _ => z))) ?_
 rintro v104 R41 _ _ ⟨rfl, rfl⟩
 refine rl_st (fun _ h => mv5 (mv2 h)) ?_
 refine r_u0 (ou_if (one_o 1 z) fun ho0 => o_stn ag38 z z z (al_c z (al_c z (al_c z (al_c (RoN.one hf35.1.1) (al_c (RoS.one hf35.1.2) (al_c z (al_c ho0 (al_c z al_n)))))))) z z z) ?_
 refine r_as z ?_
 refine r_nil (x_seq (c_ret ?_))
 refine ex_st (fun _ h => mv2 (mv4 h)) ?_
 refine ex_ex (fun w h => st_freezeN w h) fun R105 hf108 => ?_
 obtain ⟨le106, h107⟩ := hf108
 obtain rfl := si hm103
 exact x_d2 z (rv_n 0 [vI r33.Most, vI r33.S.Wide, vW r33.S.Seed, v34.S.Rows.1, v34.S.Door, vI r33.S.Added, v101.L.1, vI r100.Places] ag38 z z z z) (rv_t z) (fun _ h => st_pk 4 [1] (by decide) h) (Le.trans (Le.trans (Le.trans (Le.trans (Le.trans le13 le23) le26) le30) le42) le106) ⟨_, z, (⟨(⟨(v34.S.Rows.1, []), v34.S.Door⟩ : Af.G), (⟨(v101.L.1, [])⟩ : Ac.G)⟩ : Ad.G), v104, z, ⟨⟨(RoN.mono le106 hf35.1.1), (RoS.mono le106 hf35.1.2)⟩, h107⟩, z⟩
def BH (a0 : Ah) (a1 : Str) : Option (Ah × List Str) :=
 if (a0.Kind == 1) then (Bo a0.A a1).bind fun r5 => some ((⟨a0.Kind, r5.1, a0.T⟩ : Ah), r5.2) else (AY a0.T a1).bind fun r14 => some ((⟨a0.Kind, a0.A, r14.1⟩ : Ah), r14.2)
theorem BH.ok {G R F} (a0 : Ah) (g0_ : Ah.G) (h0 : Ah.ro R a0 g0_) (a1 : Str) (r : Ah × List Str) (hm : BH a0 a1 = some r) : CO Tryz.prog 32 [.agg (Ah.k a0 g0_).toArray, vS a1] G R (F)
  (Ret fun u R' L' => ∃ (p0 : Ah.G) (p1 : Value), u = .tuple #[.agg (Ah.k r.1 p0).toArray, p1] ∧ (Ah.ro R' r.1 p0) ∧ L' = OwS true 9 1 eS p1 r.2 :: F) := by
 unfold BH at hm
 refine co_ofN (N := 29) Tryz.func32 z z ?_
 refine csr ?_
 refine r_new (o_bx (Ah.k a0 g0_) z z) fun b0 => ?_
 refine r_new (o_al ze40) fun b1 => ?_
 refine r_as z ?_
 refine nsr ?_
 refine r_sw (s_w (o_bsl (en := eS) (sz := 1) (e := 9) (cs := []) (r := []) z (fun _ => by kernel_rfl) z (by decide) z (fun _ => z))) ?_
 rintro v2 R _ _ ⟨rfl, rfl⟩
 refine r_as z ?_
 refine nssr ?_
 refine r_fa fa40_0 z (r_ld 2 sc3 z z z (r_bin z z (bI_eq a0.Kind 1) ?_))
 refine nsq ?_
 refine c_if (b := (a0.Kind == 1)) z (fun h3 => ?_) fun h3 => ?_
 ·have hm4 := ift hm h3
  clear hm
  refine c_reg ?_
  refine r_fa fa40_1 z ?_
  refine r_u (o_ldn 2 (Aa.k a0.A g0_.A) ag32 z z z z) (r_mv z ?_)
  obtain ⟨r5, hr5, hm13⟩ := bs hm4
  clear hm4
  refine r_sw (s_w (o_call ca71 z (Bo.ok a0.A (⟨(⟨(g0_.A.R.L.1, [])⟩ : Ac.G)⟩ : Aa.G) h0.1 a1 r5 hr5))) ?_
  rintro _ R11 _ le12 ⟨v6, v10, rfl, hf7, rfl⟩
  refine r_mv z ?_
  refine r_ext z z ?_
  refine r_ext z z (r_fa fa40_1 z ?_)
  refine rl_st (fun _ h => mv3 h) ?_
  refine r_u0 (o_stn ag32 z z z (al_c z (al_c z (al_c (RoN.one hf7) (al_c z al_n)))) z z z) ?_
  refine r_as z ?_
  refine nsr ?_
  refine r_u (o_ldn 0 [vI a0.Kind, vI r5.1.Most, vI r5.1.Target, v6.R.L.1, vI r5.1.R.Places, vI a0.T.Most, vI a0.T.S.Wide, vW a0.T.S.Seed, g0_.T.S.Rows.1, g0_.T.S.Door, vI a0.T.S.Added, g0_.T.R.L.1, vI a0.T.R.Places] ag40 z z z z) (r_mv z ?_)
  refine rl_st (fun _ h => mv3 h) ?_
  refine r_u0 (o_stn ag40 z z z (al_c z (al_c z (al_c z (al_c (RoN.one hf7) (al_c z (al_c z (al_c z (al_c z (al_c (RoN.one (RoN.mono le12 h0.2.1.1)) (al_c (RoS.one (RoS.mono le12 h0.2.1.2)) (al_c z (al_c (RoN.one (RoN.mono le12 h0.2.2)) (al_c z al_n))))))))))))) z z z) ?_
  refine r_as z ?_
  refine r_nil (x_seq (c_ret ?_))
  obtain rfl := si hm13
  exact x_d2 z (rv_n 0 [vI a0.Kind, vI r5.1.Most, vI r5.1.Target, v6.R.L.1, vI r5.1.R.Places, vI a0.T.Most, vI a0.T.S.Wide, vW a0.T.S.Seed, g0_.T.S.Rows.1, g0_.T.S.Door, vI a0.T.S.Added, g0_.T.R.L.1, vI a0.T.R.Places] ag40 z z z z) (rv_t z) (fun _ h => st_pk 4 [2] (by decide) h) le12 ⟨_, z, (⟨(⟨(⟨(v6.R.L.1, [])⟩ : Ac.G)⟩ : Aa.G), (⟨(⟨(g0_.T.S.Rows.1, []), g0_.T.S.Door⟩ : Af.G), (⟨(g0_.T.R.L.1, [])⟩ : Ac.G)⟩ : Ad.G)⟩ : Ah.G), v10, z, ⟨hf7, ⟨⟨(RoN.mono le12 h0.2.1.1), (RoS.mono le12 h0.2.1.2)⟩, (RoN.mono le12 h0.2.2)⟩⟩, z⟩
 have hm4 := iff_ hm h3
 clear hm
 refine c_reg ?_
 refine r_fa fa40_2 z ?_
 refine r_u (o_ldn 2 (Ad.k a0.T g0_.T) ag38 z z z z) (r_mv z ?_)
 obtain ⟨r14, hr14, hm25⟩ := bs hm4
 clear hm4
 refine r_sw (s_w (o_call ca72 z (AY.ok a0.T (⟨(⟨(g0_.T.S.Rows.1, []), g0_.T.S.Door⟩ : Af.G), (⟨(g0_.T.R.L.1, [])⟩ : Ac.G)⟩ : Ad.G) ⟨⟨h0.2.1.1, h0.2.1.2⟩, h0.2.2⟩ a1 r14 hr14))) ?_
 rintro _ R23 _ le24 ⟨v15, v22, rfl, hf16, rfl⟩
 refine r_mv z ?_
 refine r_ext z z ?_
 refine r_ext z z (r_fa fa40_2 z ?_)
 refine rl_st (fun _ h => mv3 h) ?_
 refine r_u0 (o_stn ag38 z z z (al_c z (al_c z (al_c z (al_c (RoN.one hf16.1.1) (al_c (RoS.one hf16.1.2) (al_c z (al_c (RoN.one hf16.2) (al_c z al_n)))))))) z z z) ?_
 refine r_as z ?_
 refine nsr ?_
 refine r_u (o_ldn 0 [vI a0.Kind, vI a0.A.Most, vI a0.A.Target, g0_.A.R.L.1, vI a0.A.R.Places, vI r14.1.Most, vI r14.1.S.Wide, vW r14.1.S.Seed, v15.S.Rows.1, v15.S.Door, vI r14.1.S.Added, v15.R.L.1, vI r14.1.R.Places] ag40 z z z z) (r_mv z ?_)
 refine rl_st (fun _ h => mv3 h) ?_
 refine r_u0 (o_stn ag40 z z z (al_c z (al_c z (al_c z (al_c (RoN.one (RoN.mono le24 h0.1)) (al_c z (al_c z (al_c z (al_c z (al_c (RoN.one hf16.1.1) (al_c (RoS.one hf16.1.2) (al_c z (al_c (RoN.one hf16.2) (al_c z al_n))))))))))))) z z z) ?_
 refine r_as z ?_
 refine r_nil (x_seq (c_ret ?_))
 obtain rfl := si hm25
 exact x_d2 z (rv_n 0 [vI a0.Kind, vI a0.A.Most, vI a0.A.Target, g0_.A.R.L.1, vI a0.A.R.Places, vI r14.1.Most, vI r14.1.S.Wide, vW r14.1.S.Seed, v15.S.Rows.1, v15.S.Door, vI r14.1.S.Added, v15.R.L.1, vI r14.1.R.Places] ag40 z z z z) (rv_t z) (fun _ h => st_pk 4 [2] (by decide) h) le24 ⟨_, z, (⟨(⟨(⟨(g0_.A.R.L.1, [])⟩ : Ac.G)⟩ : Aa.G), (⟨(⟨(v15.S.Rows.1, []), v15.S.Door⟩ : Af.G), (⟨(v15.R.L.1, [])⟩ : Ac.G)⟩ : Ad.G)⟩ : Ah.G), v22, z, ⟨(RoN.mono le24 h0.1), ⟨⟨hf16.1.1, hf16.1.2⟩, hf16.2⟩⟩, z⟩
def B9 (a0 : List Str) (a1 : List Str) : Nat → Int → Option (Unit ⊕ Bool)
 | 0, _ => none
 | k8 + 1, i_7 => if decide (i_7 < (a0.length : Int)) then (gi a0 i_7).bind fun x13 => (gi a1 i_7).bind fun x15 => if (x13 != x15) then some (Sum.inr false) else B9 a0 a1 k8 (i64 (i_7 + 1)) else some (Sum.inl ())
def BX (a0 : List Str) (a1 : List Str) : Option Bool :=
 if ((a0.length : Int) != (a1.length : Int)) then some false else Option.bind (B9 a0 a1 (((a0.length : Int) - 0).toNat + 1) 0) fun (p2 : Unit ⊕ Bool) => (match p2 with | Sum.inl q3 => some true | Sum.inr r => some r)
theorem BX.ok {G R F} (v0_ : Value) (a0 : List Str) (h0_ : RoS R v0_ 1 (fun x => [vS x]) a0) (v1_ : Value) (a1 : List Str) (h1_ : RoS R v1_ 1 (fun x => [vS x]) a1) (r : Bool) (hm : BX a0 a1 = some r) : CO Tryz.prog 22 [v0_, v1_] G R (F)
  (Ret fun u R' L' => u = vB r ∧ R' = R ∧ L' = F) := by
 unfold BX at hm
 refine co_ofN (N := 26) Tryz.func22 z z ?_
 refine csr ?_
 refine r_as z ?_
 refine nssr ?_
 refine r_mv z ?_
 refine r_u (o_lenR Tryz.underlying57 z h0_) (r_mv z ?_)
 refine r_u (o_lenR Tryz.underlying57 z h1_) (r_bin z z (bI_ne (a0.length : Int) (a1.length : Int)) ?_)
 refine nsq ?_
 refine c_if (b := ((a0.length : Int) != (a1.length : Int))) z (fun h0 => ?_) fun h0 => ?_
 ·have hm1 := ift hm h0
  clear hm
  refine csr ?_
  refine r_as z ?_
  refine r_nil (x_seq (c_ret ?_))
  obtain rfl := si hm1
  exact x_r1 z (rv_t z) (Le.refl _) ⟨_, z, z, z, z⟩
 have hm1 := iff_ hm h0
 clear hm
 refine c_skip (x_seq (c_seq (csr ?_)))
 refine r_as z ?_
 refine nsq ?_
 obtain ⟨p2, hp4, hm5⟩ := bs hm1
 refine cd_joinS (p := p2) (Ef := fun q3 => []) (Lf := fun q3 => F) (fun q3 hq => ?_) fun K6 => ?_
 ·subst hq
  try dsimp only at hm5
  refine x_seq (csr ?_)
  refine r_as z ?_
  refine r_nil (x_seq (c_ret ?_))
  obtain rfl := si hm5
  exact x_r1 z (rv_t z) (Le.refl _) ⟨_, z, z, z, z⟩
 refine c_blk ?_
 refine cd_loop (M := fun k8 (i_7 : Int) => B9 a0 a1 k8 i_7 = some p2) (Ef := fun (i_7 : Int) => [(0, v0_), (1, v1_), (5, vI i_7)]) (Lf := fun (i_7 : Int) => F) (((a0.length : Int) - 0).toNat + 1) 0 hp4 ⟨z, z, z, trivial⟩ (fun _ h => h) (fun _ h => by cases h) fun k8 i_7 hM10 => ?_
 have hm9 : B9 a0 a1 (k8 + 1) i_7 = some p2 := hM10
 rw [B9] at hm9
 refine c_seq (csr ?_)
 refine r_mv z (r_mv z ?_)
 refine r_u (o_lenR Tryz.underlying57 z h0_) (r_bin z z (bI_lt i_7 (a0.length : Int)) ?_)
 refine nsq ?_
 refine c_if (b := decide (i_7 < (a0.length : Int))) z (fun h11 => ?_) fun h11 => ?_
 rotate_left
 ·have hm12 := iff_ hm9 h11
  clear hm9
  refine c_exit (x_exit (ks' := _) z ?_)
  obtain rfl := si hm12
  exact x_sub (K6 _ z) trivial (fun _ h => st_pk 0 [] (by decide) h)
 have hm12 := ift hm9 h11
 clear hm9
 refine c_skip (x_seq (c_seq (c_blk (c_seq ?_))))
 obtain ⟨x13, hx13, hm14⟩ := bs hm12
 clear hm12
 obtain ⟨b13, o13, l13, T13, fr13, c13, hv13, hR13, he13, hi13⟩ := RoS.ne h0_ hx13
 obtain ⟨x15, hx15, hm16⟩ := bs hm14
 clear hm14
 obtain ⟨b15, o15, l15, T15, fr15, c15, hv15, hR15, he15, hi15⟩ := RoS.ne h1_ hx15
 refine c_any mixed (effs := []) (V := []) ?_
 refine stage_ext [(0, v0_), (1, vI i_7), (2, pt b13 (o13 + i_7.toNat * 1)), (3, vS x13), (4, v1_), (5, vI i_7), (6, pt b15 (o15 + i_7.toNat * 1)), (7, vS x15), (8, vB (x13 != x15))] z ?_
 refine stage z z z z [0, 0, 3, 7, 0, 0, 48, 112, 255] [0, 1, 2, 3, 4, 5, 6, 7, 8] [] z z z (q_mv z z z (q_mv z z z (q_u z z (o_ix (sz := 1) Tryz.underlying57 (fun _ => by kernel_rfl) z z hv13 hi13) (q_u z z (o_ldR sc9 z hR13 (rok 0 he13 (by decide))) (q_mv z z z (q_mv z z z (q_u z z (o_ix (sz := 1) Tryz.underlying57 (fun _ => by kernel_rfl) z z hv15 hi15) (q_u z z (o_ldR sc9 z hR15 (rok 0 he15 (by decide))) (q_u z z (o_bin z z (bS_ne x13 x15)) qn))))))))) en ?_
 intro _
 refine ex_sub (E' := [(0, v0_), (1, v1_), (5, vI i_7), (25, vB (x13 != x15))]) ⟨z, z, z, z, trivial⟩ ?_
 refine x_seq ?_
 refine c_if (b := (x13 != x15)) z (fun h17 => ?_) fun h17 => ?_
 ·have hm18 := ift hm16 h17
  clear hm16
  refine csr ?_
  refine r_as z ?_
  refine r_nil (x_seq (c_ret ?_))
  obtain rfl := si hm18
  try dsimp only at hm5
  obtain rfl := si hm5
  exact x_r1 z (rv_t z) (Le.refl _) ⟨_, z, z, z, z⟩
 have hm18 := iff_ hm16 h17
 clear hm16
 refine c_skip (x_blk (x_seq (c_reg ?_)))
 refine r_mv z (r_bin z z (bI_add i_7 1) (r_as z ?_))
 refine r_nil ?_
 exact x_lp (i64 (i_7 + 1)) hm18 ⟨z, z, z, trivial⟩ (fun _ h => st_pk 0 [] (by decide) h)
def CS (a0 : Ab) (a1 : Ah) (a2 : AC) : Option (Option Ab × Ah × Bool) :=
 (B2 a2.Key).bind fun r9 => Option.bind (if (a2.Kind == 4) then some (a2.Kind == 4) else some (a2.Kind == 5)) fun p11 => if p11 then (BJ a1 r9).bind fun r17 => (Bb a0 r9).bind fun r33 => some ((some r33.2), r17.1, (r33.1 == r17.2)) else if (a2.Kind == 6) then (BE a1 r9).bind fun r44 => (Bn a0 r9).bind fun r60 => some ((some r60.2), r44.1, (r60.1 == r44.2)) else if (a2.Kind == 7) then (BK a1).bind fun r71 => (Bs a0).bind fun r87 => some ((some r87.2.2), r71.1, ((r87.2.1 == r71.2.2) && (r87.1 == r71.2.1))) else if (a2.Kind == 8) then (BF a0 r9).bind fun r98 => (BQ a1 r9).bind fun r100 => some ((some r98), r100, true) else if (a2.Kind == 9) then (A5 a0).bind fun r117 => (CC r117).bind fun r119 => some (r119.1, a1, (r119.2 == 0)) else (BH a1 r9).bind fun r124 => (AV a0 r9).bind fun r145 => (BX r145.1 r124.2).bind fun r159 => some ((some r145.2), r124.1, r159)
theorem CS.ok {G R F} (b0_ : Nat) (a0 : Ab) (g0_ : Ab.G) (a1 : Ah) (g1_ : Ah.G) (h1 : Ah.ro R a1 g1_) (a2 : AC) (r : Option Ab × Ah × Bool) (hm : CS a0 a1 a2 = some r) : CO Tryz.prog 8 [pt b0_ 0, .agg (Ah.k a1 g1_).toArray, .agg (AC.c a2).toArray] G R (Bk b0_ 63 [vI a0.kind, g0_.a.1, g0_.t.1] :: rO (Al.op g0_.a.2) g0_.a.1 a0.a :: rO (Ak.op g0_.t.2) g0_.t.1 a0.t :: F)
  (Ret fun u R' L' => ∃ (p0 : Value × Ab.G) (p1 : Ah.G), u = .tuple #[p0.1, .agg (Ah.k r.2.1 p1).toArray, vB r.2.2] ∧ (Ah.ro R' r.2.1 p1) ∧ L' = rO (Ab.op p0.2) p0.1 r.1 :: F) := by
 obtain ⟨⟨pv1, g2⟩, ⟨pv4, g5⟩⟩ := g0_
 unfold CS at hm
 refine co_ofN (N := 116) Tryz.func8 z z ?_
 refine csr ?_
 refine r_new (o_bx (Ah.k a1 g1_) z z) fun b6 => ?_
 refine r_new (o_bx (AC.c a2) z z) fun b7 => ?_
 refine r_as z ?_
 refine r_new (o_al ze40) fun b8 => ?_
 refine r_as z ?_
 refine nsr ?_
 refine r_fa fa46_1 z (r_ld 1 sc9 z z z ?_)
 obtain ⟨r9, hr9, hm10⟩ := bs hm
 clear hm
 refine r_u (o_callq ca12 z (B2.ok a2.Key r9 hr9)) (r_as z ?_)
 refine nssr ?_
 refine r_fa fa46_0 z (r_ld 1 sc3 z z z ?_)
 refine r_nil (x_seq (c_blk (c_seq (csr ?_))))
 refine r_bin z z (bI_eq a2.Kind 4) (r_as z ?_)
 refine nsq ?_
 obtain ⟨p11, hp12, hm13⟩ := bs hm10
 refine cd_join (E' := [(0, pt b0_ 0), (4, pt b6 0), (7, pt b8 0), (9, vS r9), (27, vI a2.Kind), (28, vB p11)]) (L' := Bk b8 40 [vI 0, vI 0, vI 0, .slice none 0 0, vI 0, vI 0, vI 0, vW 0, .slice none 0 0, .slice none 0 0, vI 0, .slice none 0 0, vI 0] :: Bk b7 46 (AC.c a2) :: Bk b6 40 (Ah.k a1 g1_) :: Bk b0_ 63 [vI a0.kind, pv1, pv4] :: rO (Al.op g2) pv1 a0.a :: rO (Ak.op g5) pv4 a0.t :: F) ?_ fun K14 => ?_
 rotate_left
 ·refine c_if (b := (a2.Kind == 4)) z (fun h161 => ?_) fun h161 => ?_
  ·have hm162 := ift hp12 h161
   clear hp12
   refine c_skip ?_
   obtain rfl := si hm162
   exact x_sub K14 ⟨z, z, z, z, z, z, trivial⟩ (fun _ h => st_pk 6 [0, 1, 2, 3, 4, 5] (by decide) h)
  have hm162 := iff_ hp12 h161
  clear hp12
  refine c_reg ?_
  refine r_bin z z (bI_eq a2.Kind 5) (r_as z ?_)
  refine r_nil ?_
  obtain rfl := si hm162
  exact x_sub K14 ⟨z, z, z, z, z, z, trivial⟩ (fun _ h => st_pk 6 [0, 1, 2, 3, 4, 5] (by decide) h)
 refine x_seq ?_
 refine c_if (b := p11) z (fun h15 => ?_) fun h15 => ?_
 ·have hm16 := ift hm13 h15
  clear hm13
  refine csr ?_
  refine r_u (o_ldn 2 (Ah.k a1 g1_) ag40 z z z z) (r_mv z ?_)
  obtain ⟨r17, hr17, hm31⟩ := bs hm16
  clear hm16
  refine r_sw (s_w (o_call ca28 z (BJ.ok a1 (⟨(⟨(⟨(g1_.A.R.L.1, [])⟩ : Ac.G)⟩ : Aa.G), (⟨(⟨(g1_.T.S.Rows.1, []), g1_.T.S.Door⟩ : Af.G), (⟨(g1_.T.R.L.1, [])⟩ : Ac.G)⟩ : Ad.G)⟩ : Ah.G) ⟨h1.1, ⟨⟨h1.2.1.1, h1.2.1.2⟩, h1.2.2⟩⟩ r9 r17 hr17))) ?_
  rintro _ R29 _ le30 ⟨v18, rfl, hf19, rfl⟩
  refine r_mv z ?_
  refine r_ext z z ?_
  refine r_ext z z ?_
  refine r_new (o_al ze40) fun b32 => ?_
  refine r_u0 (o_stn ag40 z z z (al_c z (al_c z (al_c z (al_c (RoN.one hf19.1) (al_c z (al_c z (al_c z (al_c z (al_c (RoN.one hf19.2.1.1) (al_c (RoS.one hf19.2.1.2) (al_c z (al_c (RoN.one hf19.2.2) (al_c z al_n))))))))))))) z z z) ?_
  refine r_as z ?_
  refine r_nil (x_seq (c_seq ?_))
  obtain ⟨r33, hr33, hm41⟩ := bs hm31
  clear hm31
  refine c_any mixed (effs := [4, 8]) (V := []) ?_
  refine stage_st (fun _ h => mv6 (mv6 (mv6 h))) ?_
  refine stage_ext [(0, pt b0_ 0), (1, .agg (Ah.k r17.1 v18).toArray), (2, pt b0_ 0), (3, vS r9), (5, vB r17.2)] z ?_
  refine stage z z z z mk1_ [0, 1, 2, 3, 5] [4] z z z (q_mv z z z (q_u z z (o_ldn 3 (Ah.k r17.1 v18) ag40 z z z z) (q_mv z z z (q_mv z z z (q_mv z z z qn))))) ?_ (nxt z)
  refine ec (eo_w z (s_w (o_call ca18 z (Bb.ok b0_ a0 (⟨(pv1, g2), (pv4, g5)⟩ : Ab.G) r9 r33 hr33))) ?_) en
  rintro _ R29 _ _ ⟨⟨⟨pv36, g37⟩, ⟨pv39, g40⟩⟩, rfl, rfl, rfl⟩
  refine stage_st (fun _ h => mv4 h) ?_
  refine stage_ext [(6, vB (r33.1 == r17.2)), (7, pt b0_ 0)] z ?_
  refine stage z z z z mk1_ [0, 1, 5, 6, 7] [8] z z z (q_mv z z z (q_u z z (o_ldn 4 (Ah.k r17.1 v18) ag40 z z z z) (q_mv z z z (q_u z z (o_bin z z (bB_eq Tryz.underlying4 r33.1 r17.2)) (q_u z z (o_as z) qn))))) ?_ (nxt z)
  refine ec (eo_u z (s_u (o_stn ag40 z z z (al_c z (al_c z (al_c z (al_c (RoN.one hf19.1) (al_c z (al_c z (al_c z (al_c z (al_c (RoN.one hf19.2.1.1) (al_c (RoS.one hf19.2.1.2) (al_c z (al_c (RoN.one hf19.2.2) (al_c z al_n))))))))))))) z z z)) (Le.refl _) ?_) en
  refine stage_ext [(9, vB (r33.1 == r17.2))] z ?_
  refine stage z z z z mk1_ [5, 6, 9] [] z z z (q_mv z z z (q_u z z (o_bin z z (bB_eq Tryz.underlying4 r33.1 r17.2)) (q_u z z (o_as z) qn))) en ?_
  intro _
  refine ex_sub (E' := [(7, pt b8 0), (6, pt b0_ 0), (8, vB (r33.1 == r17.2))]) ⟨z, z, z, trivial⟩ ?_
  refine x_seq (c_ret ?_)
  refine ex_st (fun _ h => mv3 (mv3 (mv3 h))) ?_
  refine ex_st (fun _ h => st_some (f := Ab.op (⟨(pv36, g37), (pv39, g40)⟩ : Ab.G)) (a := r33.2) (st_star_f (A := Ab.fl b0_ r33.2 (⟨(pv36, g37), (pv39, g40)⟩ : Ab.G)) h)) ?_
  obtain rfl := si hm41
  exact x_d3 z (rv_t z) (rv_n 1 (Ah.k r17.1 v18) ag40 z z z z) (rv_t z) (fun _ h => st_pk 5 [0] (by decide) h) le30 ⟨_, z, (pt b0_ 0, (⟨(pv36, g37), (pv39, g40)⟩ : Ab.G)), (⟨(⟨(⟨(v18.A.R.L.1, [])⟩ : Ac.G)⟩ : Aa.G), (⟨(⟨(v18.T.S.Rows.1, []), v18.T.S.Door⟩ : Af.G), (⟨(v18.T.R.L.1, [])⟩ : Ac.G)⟩ : Ad.G)⟩ : Ah.G), z, ⟨hf19.1, ⟨⟨hf19.2.1.1, hf19.2.1.2⟩, hf19.2.2⟩⟩, z⟩
 have hm16 := iff_ hm13 h15
 clear hm13
 refine csr ?_
 refine r_bin z z (bI_eq a2.Kind 6) (r_as z ?_)
 refine nsq ?_
 refine c_if (b := (a2.Kind == 6)) z (fun h42 => ?_) fun h42 => ?_
 ·have hm43 := ift hm16 h42
  clear hm16
  refine csr ?_
  refine r_u (o_ldn 2 (Ah.k a1 g1_) ag40 z z z z) (r_mv z ?_)
  obtain ⟨r44, hr44, hm58⟩ := bs hm43
  clear hm43
  refine r_sw (s_w (o_call ca29 z (BE.ok a1 (⟨(⟨(⟨(g1_.A.R.L.1, [])⟩ : Ac.G)⟩ : Aa.G), (⟨(⟨(g1_.T.S.Rows.1, []), g1_.T.S.Door⟩ : Af.G), (⟨(g1_.T.R.L.1, [])⟩ : Ac.G)⟩ : Ad.G)⟩ : Ah.G) ⟨h1.1, ⟨⟨h1.2.1.1, h1.2.1.2⟩, h1.2.2⟩⟩ r9 r44 hr44))) ?_
  rintro _ R56 _ le57 ⟨v45, rfl, hf46, rfl⟩
  refine r_mv z ?_
  refine r_ext z z ?_
  refine r_ext z z ?_
  refine r_new (o_al ze40) fun b59 => ?_
  refine r_u0 (o_stn ag40 z z z (al_c z (al_c z (al_c z (al_c (RoN.one hf46.1) (al_c z (al_c z (al_c z (al_c z (al_c (RoN.one hf46.2.1.1) (al_c (RoS.one hf46.2.1.2) (al_c z (al_c (RoN.one hf46.2.2) (al_c z al_n))))))))))))) z z z) ?_
  refine r_as z ?_
  refine r_nil (x_seq (c_seq ?_))
  obtain ⟨r60, hr60, hm68⟩ := bs hm58
  clear hm58
  refine c_any mixed (effs := [4, 8]) (V := []) ?_
  refine stage_st (fun _ h => mv6 (mv6 (mv6 h))) ?_
  refine stage_ext [(0, pt b0_ 0), (1, .agg (Ah.k r44.1 v45).toArray), (2, pt b0_ 0), (3, vS r9), (5, vB r44.2)] z ?_
  refine stage z z z z mk1_ [0, 1, 2, 3, 5] [4] z z z (q_mv z z z (q_u z z (o_ldn 3 (Ah.k r44.1 v45) ag40 z z z z) (q_mv z z z (q_mv z z z (q_mv z z z qn))))) ?_ (nxt z)
  refine ec (eo_w z (s_w (o_call ca19 z (Bn.ok b0_ a0 (⟨(pv1, g2), (pv4, g5)⟩ : Ab.G) r9 r60 hr60))) ?_) en
  rintro _ R56 _ _ ⟨⟨⟨pv63, g64⟩, ⟨pv66, g67⟩⟩, rfl, rfl, rfl⟩
  refine stage_st (fun _ h => mv4 h) ?_
  refine stage_ext [(6, vB (r60.1 == r44.2)), (7, pt b0_ 0)] z ?_
  refine stage z z z z mk1_ [0, 1, 5, 6, 7] [8] z z z (q_mv z z z (q_u z z (o_ldn 4 (Ah.k r44.1 v45) ag40 z z z z) (q_mv z z z (q_u z z (o_bin z z (bB_eq Tryz.underlying4 r60.1 r44.2)) (q_u z z (o_as z) qn))))) ?_ (nxt z)
  refine ec (eo_u z (s_u (o_stn ag40 z z z (al_c z (al_c z (al_c z (al_c (RoN.one hf46.1) (al_c z (al_c z (al_c z (al_c z (al_c (RoN.one hf46.2.1.1) (al_c (RoS.one hf46.2.1.2) (al_c z (al_c (RoN.one hf46.2.2) (al_c z al_n))))))))))))) z z z)) (Le.refl _) ?_) en
  refine stage_ext [(9, vB (r60.1 == r44.2))] z ?_
  refine stage z z z z mk1_ [5, 6, 9] [] z z z (q_mv z z z (q_u z z (o_bin z z (bB_eq Tryz.underlying4 r60.1 r44.2)) (q_u z z (o_as z) qn))) en ?_
  intro _
  refine ex_sub (E' := [(7, pt b8 0), (6, pt b0_ 0), (8, vB (r60.1 == r44.2))]) ⟨z, z, z, trivial⟩ ?_
  refine x_seq (c_ret ?_)
  refine ex_st (fun _ h => mv3 (mv3 (mv3 h))) ?_
  refine ex_st (fun _ h => st_some (f := Ab.op (⟨(pv63, g64), (pv66, g67)⟩ : Ab.G)) (a := r60.2) (st_star_f (A := Ab.fl b0_ r60.2 (⟨(pv63, g64), (pv66, g67)⟩ : Ab.G)) h)) ?_
  obtain rfl := si hm68
  exact x_d3 z (rv_t z) (rv_n 1 (Ah.k r44.1 v45) ag40 z z z z) (rv_t z) (fun _ h => st_pk 5 [0] (by decide) h) le57 ⟨_, z, (pt b0_ 0, (⟨(pv63, g64), (pv66, g67)⟩ : Ab.G)), (⟨(⟨(⟨(v45.A.R.L.1, [])⟩ : Ac.G)⟩ : Aa.G), (⟨(⟨(v45.T.S.Rows.1, []), v45.T.S.Door⟩ : Af.G), (⟨(v45.T.R.L.1, [])⟩ : Ac.G)⟩ : Ad.G)⟩ : Ah.G), z, ⟨hf46.1, ⟨⟨hf46.2.1.1, hf46.2.1.2⟩, hf46.2.2⟩⟩, z⟩
 have hm43 := iff_ hm16 h42
 clear hm16
 refine csr ?_
 refine r_bin z z (bI_eq a2.Kind 7) (r_as z ?_)
 refine nsq ?_
 refine c_if (b := (a2.Kind == 7)) z (fun h69 => ?_) fun h69 => ?_
 ·have hm70 := ift hm43 h69
  clear hm43
  refine csr ?_
  refine r_u (o_ldn 2 (Ah.k a1 g1_) ag40 z z z z) ?_
  obtain ⟨r71, hr71, hm85⟩ := bs hm70
  clear hm70
  refine r_sw (s_w (o_call ca30 z (BK.ok a1 (⟨(⟨(⟨(g1_.A.R.L.1, [])⟩ : Ac.G)⟩ : Aa.G), (⟨(⟨(g1_.T.S.Rows.1, []), g1_.T.S.Door⟩ : Af.G), (⟨(g1_.T.R.L.1, [])⟩ : Ac.G)⟩ : Ad.G)⟩ : Ah.G) ⟨h1.1, ⟨⟨h1.2.1.1, h1.2.1.2⟩, h1.2.2⟩⟩ r71 hr71))) ?_
  rintro _ R83 _ le84 ⟨v72, rfl, hf73, rfl⟩
  refine r_mv z ?_
  refine r_ext z z ?_
  refine r_ext z z ?_
  refine r_ext z z ?_
  refine r_new (o_al ze40) fun b86 => ?_
  refine r_u0 (o_stn ag40 z z z (al_c z (al_c z (al_c z (al_c (RoN.one hf73.1) (al_c z (al_c z (al_c z (al_c z (al_c (RoN.one hf73.2.1.1) (al_c (RoS.one hf73.2.1.2) (al_c z (al_c (RoN.one hf73.2.2) (al_c z al_n))))))))))))) z z z) ?_
  refine r_as z (r_as z ?_)
  refine nsr ?_
  refine r_mv z ?_
  obtain ⟨r87, hr87, hm95⟩ := bs hm85
  clear hm85
  refine rl_st (fun _ h => mv6 (mv6 (mv6 h))) ?_
  refine r_sw (s_w (o_call ca20 z (Bs.ok b0_ a0 (⟨(pv1, g2), (pv4, g5)⟩ : Ab.G) r87 hr87))) ?_
  rintro _ R83 _ _ ⟨⟨⟨pv90, g91⟩, ⟨pv93, g94⟩⟩, rfl, rfl, rfl⟩
  refine r_mv z ?_
  refine r_ext z z ?_
  refine r_ext z z (r_as z (r_as z ?_))
  refine r_nil (x_seq (c_seq ?_))
  refine c_any mixed (effs := [11]) (V := []) ?_
  refine stage_st (fun _ h => mv4 h) ?_
  refine stage_ext [(0, pt b0_ 0), (1, .agg (Ah.k r71.1 v72).toArray), (2, vB r87.2.1), (3, vB r71.2.2), (4, vB (r87.2.1 == r71.2.2)), (5, vB (r87.2.1 == r71.2.2)), (6, gv (r87.2.1 == r71.2.2) (vS r87.1)), (7, gv (r87.2.1 == r71.2.2) (vS r71.2.1)), (8, gv (r87.2.1 == r71.2.2) (vB (r87.1 == r71.2.1))), (9, vB ((r87.2.1 == r71.2.2) && (r87.1 == r71.2.1))), (10, pt b0_ 0)] z ?_
  refine stage z z z z mk3_ [0, 1, 2, 3, 4, 5, 6, 7, 8, 9, 10] [11] z z z (q_mv z z z (q_u z z (o_ldn 4 (Ah.k r71.1 v72) ag40 z z z z) (q_mv z z z (q_mv z z z (q_u z z (o_bin z z (bB_eq Tryz.underlying4 r87.2.1 r71.2.2)) (q_mv z z z (qc z z (s_gt z z fun g => o_mv z) (qc z z (s_gt z z fun g => o_mv z) (qc z z (s_gt z z fun g => o_bin (evg z g) (evg z g) (bS_eq r87.1 r71.2.1)) (q_u z z (o_and z z) (q_u z z (o_as z) qn))))))))))) ?_ (nxt z)
  refine ec (eo_u z (s_u (o_stn ag40 z z z (al_c z (al_c z (al_c z (al_c (RoN.one hf73.1) (al_c z (al_c z (al_c z (al_c z (al_c (RoN.one hf73.2.1.1) (al_c (RoS.one hf73.2.1.2) (al_c z (al_c (RoN.one hf73.2.2) (al_c z al_n))))))))))))) z z z)) (Le.refl _) ?_) en
  refine stage_ext [(12, vB ((r87.2.1 == r71.2.2) && (r87.1 == r71.2.1)))] z ?_
  refine stage z z z z mk3_ [6, 7, 8, 9, 12] [] z z z (qc z z (s_gt z z fun g => o_mv z) (qc z z (s_gt z z fun g => o_mv z) (qc z z (s_gt z z fun g => o_bin (evg z g) (evg z g) (bS_eq r87.1 r71.2.1)) (q_u z z (o_and z z) (q_u z z (o_as z) qn))))) en ?_
  intro _
  refine ex_sub (E' := [(7, pt b8 0), (6, pt b0_ 0), (8, vB ((r87.2.1 == r71.2.2) && (r87.1 == r71.2.1)))]) ⟨z, z, z, trivial⟩ ?_
  refine x_seq (c_ret ?_)
  refine ex_st (fun _ h => mv3 (mv3 (mv3 h))) ?_
  refine ex_st (fun _ h => st_some (f := Ab.op (⟨(pv90, g91), (pv93, g94)⟩ : Ab.G)) (a := r87.2.2) (st_star_f (A := Ab.fl b0_ r87.2.2 (⟨(pv90, g91), (pv93, g94)⟩ : Ab.G)) h)) ?_
  obtain rfl := si hm95
  exact x_d3 z (rv_t z) (rv_n 1 (Ah.k r71.1 v72) ag40 z z z z) (rv_t z) (fun _ h => st_pk 5 [0] (by decide) h) le84 ⟨_, z, (pt b0_ 0, (⟨(pv90, g91), (pv93, g94)⟩ : Ab.G)), (⟨(⟨(⟨(v72.A.R.L.1, [])⟩ : Ac.G)⟩ : Aa.G), (⟨(⟨(v72.T.S.Rows.1, []), v72.T.S.Door⟩ : Af.G), (⟨(v72.T.R.L.1, [])⟩ : Ac.G)⟩ : Ad.G)⟩ : Ah.G), z, ⟨hf73.1, ⟨⟨hf73.2.1.1, hf73.2.1.2⟩, hf73.2.2⟩⟩, z⟩
 have hm70 := iff_ hm43 h69
 clear hm43
 refine csr ?_
 refine r_bin z z (bI_eq a2.Kind 8) (r_as z ?_)
 refine nsq ?_
 refine c_if (b := (a2.Kind == 8)) z (fun h96 => ?_) fun h96 => ?_
 ·have hm97 := ift hm70 h96
  clear hm70
  refine csr ?_
  refine r_mv z (r_mv z ?_)
  obtain ⟨r98, hr98, hm99⟩ := bs hm97
  clear hm97
  refine rl_st (fun _ h => mv5 (mv5 (mv5 h))) ?_
  refine r_c (s_w (o_call ca21 z (BF.ok b0_ a0 (⟨(pv1, g2), (pv4, g5)⟩ : Ab.G) r9 r98 hr98))) ?_
  refine nsr ?_
  refine r_mv z ?_
  refine r_u (o_ldn 5 (Ah.k a1 g1_) ag40 z z z z) (r_mv z ?_)
  obtain ⟨r100, hr100, hm114⟩ := bs hm99
  clear hm99
  refine r_sw (s_w (o_call ca31 z (BQ.ok a1 (⟨(⟨(⟨(g1_.A.R.L.1, [])⟩ : Ac.G)⟩ : Aa.G), (⟨(⟨(g1_.T.S.Rows.1, []), g1_.T.S.Door⟩ : Af.G), (⟨(g1_.T.R.L.1, [])⟩ : Ac.G)⟩ : Ad.G)⟩ : Ah.G) ⟨h1.1, ⟨⟨h1.2.1.1, h1.2.1.2⟩, h1.2.2⟩⟩ r9 r100 hr100))) ?_
  rintro _ R112 _ le113 ⟨v101, rfl, hf102, rfl⟩
  refine r_as z ?_
  refine rl_st (fun _ h => mv3 h) ?_
  refine r_u0 (o_stn ag40 z z z (al_c z (al_c z (al_c z (al_c (RoN.one hf102.1) (al_c z (al_c z (al_c z (al_c z (al_c (RoN.one hf102.2.1.1) (al_c (RoS.one hf102.2.1.2) (al_c z (al_c (RoN.one hf102.2.2) (al_c z al_n))))))))))))) z z z) ?_
  refine r_as z ?_
  refine r_nil (x_seq (c_ret ?_))
  refine ex_st (fun _ h => mv3 (mv3 (mv3 h))) ?_
  refine ex_st (fun _ h => st_some (f := Ab.op (⟨(pv1, g2), (pv4, g5)⟩ : Ab.G)) (a := r98) (st_star_f (A := Ab.fl b0_ r98 (⟨(pv1, g2), (pv4, g5)⟩ : Ab.G)) h)) ?_
  obtain rfl := si hm114
  exact x_d3 z (rv_t z) (rv_n 1 (Ah.k r100 v101) ag40 z z z z) (rv_t z) (fun _ h => st_pk 4 [0] (by decide) h) le113 ⟨_, z, (pt b0_ 0, (⟨(pv1, g2), (pv4, g5)⟩ : Ab.G)), (⟨(⟨(⟨(v101.A.R.L.1, [])⟩ : Ac.G)⟩ : Aa.G), (⟨(⟨(v101.T.S.Rows.1, []), v101.T.S.Door⟩ : Af.G), (⟨(v101.T.R.L.1, [])⟩ : Ac.G)⟩ : Ad.G)⟩ : Ah.G), z, ⟨hf102.1, ⟨⟨hf102.2.1.1, hf102.2.1.2⟩, hf102.2.2⟩⟩, z⟩
 have hm97 := iff_ hm70 h96
 clear hm70
 refine csr ?_
 refine r_bin z z (bI_eq a2.Kind 9) (r_as z ?_)
 refine nsq ?_
 refine c_if (b := (a2.Kind == 9)) z (fun h115 => ?_) fun h115 => ?_
 ·have hm116 := ift hm97 h115
  clear hm97
  refine csr ?_
  refine r_mv z ?_
  obtain ⟨r117, hr117, hm118⟩ := bs hm116
  clear hm116
  refine rl_st (fun _ h => mv5 (mv5 (mv5 h))) ?_
  refine r_c (s_w (o_call ca14 z (A5.ok b0_ a0 (⟨(pv1, g2), (pv4, g5)⟩ : Ab.G) r117 hr117))) ?_
  obtain ⟨r119, hr119, hm123⟩ := bs hm118
  clear hm118
  refine r_sw (s_w (o_call ca17 z (CC.ok r117 r119 hr119))) ?_
  rintro _ R _ _ ⟨⟨pv121, g122⟩, rfl, rfl, rfl⟩
  refine r_mv z ?_
  refine r_ext z z ?_
  refine r_ext z z (r_as z (r_as z ?_))
  refine r_nil (x_seq (c_seq ?_))
  refine c_any mixed (effs := [5]) (V := []) ?_
  refine stage_st (fun _ h => mv4 h) ?_
  refine stage_ext [(0, pv121), (1, .agg (Ah.k a1 g1_).toArray), (2, vI r119.2), (3, vB (r119.2 == 0)), (4, pv121)] z ?_
  refine stage z z z z [0, 0, 0, 4, 1, 19, 63] [0, 1, 2, 3, 4] [5] z z z (q_mv z z z (q_u z z (o_ldn 6 (Ah.k a1 g1_) ag40 z z z z) (q_mv z z z (q_u z z (o_bin z z (bI_eq r119.2 0)) (q_u z z (o_as z) qn))))) ?_ (nxt z)
  refine ec (eo_u z (s_u (o_stn ag40 z z z (al_c z (al_c z (al_c z (al_c (RoN.one h1.1) (al_c z (al_c z (al_c z (al_c z (al_c (RoN.one h1.2.1.1) (al_c (RoS.one h1.2.1.2) (al_c z (al_c (RoN.one h1.2.2) (al_c z al_n))))))))))))) z z z)) (Le.refl _) ?_) en
  refine stage_ext [(6, vB (r119.2 == 0))] z ?_
  refine stage z z z z [0, 0, 0, 4, 1, 19, 63] [2, 3, 6] [] z z z (q_mv z z z (q_u z z (o_bin z z (bI_eq r119.2 0)) (q_u z z (o_as z) qn))) en ?_
  intro _
  refine ex_sub (E' := [(7, pt b8 0), (6, pv121), (8, vB (r119.2 == 0))]) ⟨z, z, z, trivial⟩ ?_
  refine x_seq (c_ret ?_)
  obtain rfl := si hm123
  exact x_d3 z (rv_t z) (rv_n 0 (Ah.k a1 g1_) ag40 z z z z) (rv_t z) (fun _ h => st_pk 7 [1] (by decide) h) (Le.refl _) ⟨_, z, (pv121, g122), (⟨(⟨(⟨(g1_.A.R.L.1, [])⟩ : Ac.G)⟩ : Aa.G), (⟨(⟨(g1_.T.S.Rows.1, []), g1_.T.S.Door⟩ : Af.G), (⟨(g1_.T.R.L.1, [])⟩ : Ac.G)⟩ : Ad.G)⟩ : Ah.G), z, ⟨h1.1, ⟨⟨h1.2.1.1, h1.2.1.2⟩, h1.2.2⟩⟩, z⟩
 have hm116 := iff_ hm97 h115
 clear hm97
 refine c_skip (x_blk (x_seq (csr ?_)))
 refine r_u (o_ldn 2 (Ah.k a1 g1_) ag40 z z z z) (r_mv z ?_)
 obtain ⟨r124, hr124, hm139⟩ := bs hm116
 clear hm116
 refine r_sw (s_w (o_call ca32 z (BH.ok a1 (⟨(⟨(⟨(g1_.A.R.L.1, [])⟩ : Ac.G)⟩ : Aa.G), (⟨(⟨(g1_.T.S.Rows.1, []), g1_.T.S.Door⟩ : Af.G), (⟨(g1_.T.R.L.1, [])⟩ : Ac.G)⟩ : Ad.G)⟩ : Ah.G) ⟨h1.1, ⟨⟨h1.2.1.1, h1.2.1.2⟩, h1.2.2⟩⟩ r9 r124 hr124))) ?_
 rintro _ R137 _ le138 ⟨v125, v136, rfl, hf126, rfl⟩
 refine r_mv z ?_
 refine r_ext z z ?_
 refine r_ext z z ?_
 refine r_new (o_al ze40) fun b140 => ?_
 refine r_u0 (o_stn ag40 z z z (al_c z (al_c z (al_c z (al_c (RoN.one hf126.1) (al_c z (al_c z (al_c z (al_c z (al_c (RoN.one hf126.2.1.1) (al_c (RoS.one hf126.2.1.2) (al_c z (al_c (RoN.one hf126.2.2) (al_c z al_n))))))))))))) z z z) ?_
 refine r_as z ?_
 refine r_nil (x_seq (c_seq ?_))
 refine cd_st (fun _ h => mv1 h) ?_
 refine cd_ex (fun w h => st_freeze w h) fun R141 hf144 => ?_
 obtain ⟨le142, h143⟩ := hf144
 obtain ⟨r145, hr145, hm154⟩ := bs hm139
 clear hm139
 obtain ⟨r159, hr159, hm160⟩ := bs hm154
 clear hm154
 refine c_any mixed (effs := [4, 6, 8]) (V := []) ?_
 refine stage_st (fun _ h => mv6 (mv6 (mv6 h))) ?_
 refine stage_ext [(0, pt b0_ 0), (1, .agg (Ah.k r124.1 v125).toArray), (2, pt b0_ 0), (3, vS r9), (5, v136)] z ?_
 refine stage z z z z mk0_ [0, 1, 2, 3, 5] [4] z z z (q_mv z z z (q_u z z (o_ldn 3 (Ah.k r124.1 v125) ag40 z z z z) (q_mv z z z (q_mv z z z (q_mv z z z qn))))) ?_ (nxt z)
 refine ec (eo_w z (s_w (o_call ca23 z (AV.ok b0_ a0 (⟨(pv1, g2), (pv4, g5)⟩ : Ab.G) r9 r145 hr145))) ?_) en
 rintro v146 R141 _ _ ⟨_, ⟨⟨pv149, g150⟩, ⟨pv152, g153⟩⟩, rfl, rfl, rfl⟩
 refine stage_ex (fun w h => st_freeze w h) fun R155 hf158 => ?_
 obtain ⟨le156, h157⟩ := hf158
 refine stage z z z z mk0_ [0, 1, 5] [6] z z z (q_mv z z z (q_u z z (o_ldn 3 (Ah.k r124.1 v125) ag40 z z z z) (q_mv z z z qn))) ?_ (nxt z)
 refine ec (eo_c z (s_w (o_call ca22 z (BX.ok v146 r145.1 h157 v136 r124.2 (RoS.mono le156 h143) r159 hr159))) ?_) en
 refine stage_st (fun _ h => mv4 h) ?_
 refine stage_ext [(7, pt b0_ 0)] z ?_
 refine stage z z z z mk0_ [0, 1, 7] [8] z z z (q_mv z z z (q_u z z (o_ldn 4 (Ah.k r124.1 v125) ag40 z z z z) (q_u z z (o_as z) qn))) ?_ (nxt z)
 refine ec (eo_u z (s_u (o_stn ag40 z z z (al_c z (al_c z (al_c z (al_c (RoN.one (RoN.mono (Le.trans le142 le156) hf126.1)) (al_c z (al_c z (al_c z (al_c z (al_c (RoN.one (RoN.mono (Le.trans le142 le156) hf126.2.1.1)) (al_c (RoS.one (RoS.mono (Le.trans le142 le156) hf126.2.1.2)) (al_c z (al_c (RoN.one (RoN.mono (Le.trans le142 le156) hf126.2.2)) (al_c z al_n))))))))))))) z z z)) (Le.refl _) ?_) en
 refine stage_ext [(9, vB r159)] z ?_
 refine stage z z z z mk0_ [9] [] z z z (q_u z z (o_as z) qn) en ?_
 intro _
 refine ex_sub (E' := [(7, pt b8 0), (6, pt b0_ 0), (8, vB r159)]) ⟨z, z, z, trivial⟩ ?_
 refine x_seq (c_ret ?_)
 refine ex_st (fun _ h => mv3 (mv3 (mv3 h))) ?_
 refine ex_st (fun _ h => st_some (f := Ab.op (⟨(pv149, g150), (pv152, g153)⟩ : Ab.G)) (a := r145.2) (st_star_f (A := Ab.fl b0_ r145.2 (⟨(pv149, g150), (pv152, g153)⟩ : Ab.G)) h)) ?_
 obtain rfl := si hm160
 exact x_d3 z (rv_t z) (rv_n 1 (Ah.k r124.1 v125) ag40 z z z z) (rv_t z) (fun _ h => st_pk 5 [0] (by decide) h) (Le.trans (Le.trans le138 le142) le156) ⟨_, z, (pt b0_ 0, (⟨(pv149, g150), (pv152, g153)⟩ : Ab.G)), (⟨(⟨(⟨(v125.A.R.L.1, [])⟩ : Ac.G)⟩ : Aa.G), (⟨(⟨(v125.T.S.Rows.1, []), v125.T.S.Door⟩ : Af.G), (⟨(v125.T.R.L.1, [])⟩ : Ac.G)⟩ : Ad.G)⟩ : Ah.G), z, ⟨(RoN.mono (Le.trans le142 le156) hf126.1), ⟨⟨(RoN.mono (Le.trans le142 le156) hf126.2.1.1), (RoS.mono (Le.trans le142 le156) hf126.2.1.2)⟩, (RoN.mono (Le.trans le142 le156) hf126.2.2)⟩⟩, z⟩
def A9 (a2 : List AC) : Nat → (Option Ab) → Int → Ab → Option ((Option Ab × Ab) ⊕ Bool)
 | 0, _, _, _ => none
 | k107 + 1, q_92, i_93, c_94 => if (decide (i_93 < (a2.length : Int)) && decide (i_93 < 50)) then (gi a2 i_93).bind fun x112 => (B2 x112.Key).bind fun r114 => Option.bind (if (x112.Kind == 4) then some (x112.Kind == 4) else some (x112.Kind == 5)) fun p116 => Option.bind (if p116 then (Bb c_94 r114).bind fun r139 => om q_92 (none) fun x148 => (Bb x148 r114).bind fun r165 => if (r139.1 != r165.1) then some (Sum.inr (Sum.inr false)) else some (Sum.inl ((some r165.2), r139.2)) else Option.bind (if (x112.Kind == 6) then (Bn c_94 r114).bind fun r195 => om q_92 (none) fun x204 => (Bn x204 r114).bind fun r221 => if (r195.1 != r221.1) then some (Sum.inr (Sum.inr (Sum.inr false))) else some (Sum.inl ((some r221.2), r195.2)) else Option.bind (if (x112.Kind == 7) then (Bs c_94).bind fun r251 => om q_92 (none) fun x260 => (Bs x260).bind fun r270 => if ((r251.1 != r270.1) || (r251.2.1 != r270.2.1)) then some (Sum.inr (Sum.inr (Sum.inr (Sum.inr false)))) else some (Sum.inl ((some r270.2.2), r251.2.2)) else Option.bind (if (x112.Kind == 8) then (BF c_94 r114).bind fun r300 => om q_92 (none) fun x302 => (BF x302 r114).bind fun r312 => some (Sum.inl ((some r312), r300)) else (AV c_94 r114).bind fun r314 => om q_92 (none) fun x324 => (AV x324 r114).bind fun r342 => (BX r314.1 r342.1).bind fun r360 => if !r360 then some (Sum.inr (Sum.inr (Sum.inr (Sum.inr (Sum.inr false))))) else some (Sum.inl ((some r342.2), r314.2))) fun (p281 : (Option Ab × Ab) ⊕ ((Option Ab × Ab) ⊕ ((Option Ab × Ab) ⊕ ((Option Ab × Ab) ⊕ ((Option Ab × Ab) ⊕ Bool))))) => (match p281 with | Sum.inl q282 => some (Sum.inl (q282.1, q282.2)) | Sum.inr r => some r)) fun (p232 : (Option Ab × Ab) ⊕ ((Option Ab × Ab) ⊕ ((Option Ab × Ab) ⊕ ((Option Ab × Ab) ⊕ Bool)))) => (match p232 with | Sum.inl q233 => some (Sum.inl (q233.1, q233.2)) | Sum.inr r => some r)) fun (p176 : (Option Ab × Ab) ⊕ ((Option Ab × Ab) ⊕ ((Option Ab × Ab) ⊕ Bool))) => (match p176 with | Sum.inl q177 => some (Sum.inl (q177.1, q177.2)) | Sum.inr r => some r)) fun (p120 : (Option Ab × Ab) ⊕ ((Option Ab × Ab) ⊕ Bool)) => (match p120 with | Sum.inl q121 => A9 a2 k107 q121.1 (i64 (i_93 + 1)) q121.2 | Sum.inr r => some r) else some (Sum.inl (q_92, c_94))
def Bp (a1 : List AC) : Nat → (Option Ab) → Int → Ah → Option (Option Ab × Ah)
 | 0, _, _, _ => none
 | k385 + 1, p_366, i_367, c_368 => if (decide (i_367 < (a1.length : Int)) && decide (i_367 < 50)) then (gi a1 i_367).bind fun x406 => om p_366 (none) fun x408 => (CS x408 c_368 x406).bind fun r418 => Bp a1 k385 r418.1 (i64 (i_367 + 1)) r418.2.1 else some (p_366, c_368)
def BZ (a0 : Int) (a1 : List AC) (a2 : List AC) : Option Bool :=
 (CM (i64 (1 + (iand a0 1))) 6 5).bind fun r0 => (Cs (i64 (1 + (iand a0 1))) 6 5).bind fun r5 => (CK).bind fun r18 => if (!r18 || (r0.2 != 0)) then some false else Option.bind (Bp a1 (((a1.length : Int) - 0).toNat + 1) r0.1 0 r5) fun p22 => om p22.1 (none) fun x42 => (A5 x42).bind fun r52 => (CC r52).bind fun r54 => if (r54.2 != 0) then some false else Option.bind (A9 a2 (((a2.length : Int) - 0).toNat + 1) r54.1 0 x42) fun (p61 : (Option Ab × Ab) ⊕ Bool) => (match p61 with | Sum.inl q62 => (A5 q62.2).bind fun r78 => om q62.1 (none) fun x80 => (A5 x80).bind fun r90 => some (r78 == r90) | Sum.inr r => some r)
theorem BZ.ok {G R F} (a0 : Int) (v1_ : Value) (a1 : List AC) (h1_ : RoS R v1_ 2 AC.c a1) (v2_ : Value) (a2 : List AC) (h2_ : RoS R v2_ 2 AC.c a2) (r : Bool) (hm : BZ a0 a1 a2 = some r) : CO Tryz.prog 4 [vI a0, v1_, v2_] G R (F)
  (Ret fun u R' L' => u = vB r ∧ True ∧ L' = F) := by
 unfold BZ at hm
 refine co_ofN (N := 146) Tryz.func4 z z ?_
 refine csr ?_
 refine r_as z ?_
 refine nsr ?_
 refine r_mv z (r_bin z z (bI_and a0 1) (r_bin z z (bI_add 1 (iand a0 1)) (r_as z ?_)))
 refine nsr ?_
 refine r_mv z ?_
 obtain ⟨r0, hr0, hm4⟩ := bs hm
 clear hm
 refine r_sw (s_w (o_call ca5 z (CM.ok (i64 (1 + (iand a0 1))) 6 5 r0 hr0))) ?_
 rintro _ R _ _ ⟨⟨pv2, g3⟩, rfl, rfl, rfl⟩
 refine r_mv z ?_
 refine r_ext z z ?_
 refine r_ext z z (r_as z (r_as z ?_))
 refine nsr ?_
 refine r_mv z ?_
 obtain ⟨r5, hr5, hm16⟩ := bs hm4
 clear hm4
 refine r_sw (s_w (o_call ca6 z (Cs.ok (i64 (1 + (iand a0 1))) 6 5 r5 hr5))) ?_
 rintro _ R _ _ ⟨v6, rfl, rfl, rfl⟩
 refine r_new (o_al ze40) fun b17 => ?_
 refine rl_st (fun _ h => mv4 (mv4 (mv5 (mv6 (mv6 h))))) ?_
 refine r_u0 (ou_if (one_o 1 z) fun ho0 => ou_if (one_o 2 z) fun ho1 => ou_if (one_o 3 z) fun ho2 => ou_if (one_o 4 z) fun ho3 => o_stn ag40 z z z (al_c z (al_c z (al_c z (al_c ho0 (al_c z (al_c z (al_c z (al_c z (al_c ho1 (al_c ho2 (al_c z (al_c ho3 (al_c z al_n))))))))))))) z z z) ?_
 refine nssr ?_
 obtain ⟨r18, hr18, hm19⟩ := bs hm16
 clear hm16
 refine r_u (o_callq ca7 z (CK.ok r18 hr18)) ?_
 refine r_u (o_not z) (r_mv z ?_)
 refine r_s (s_gf z z fun g => o_mv z) ?_
 refine r_s (s_gf z z fun g => o_bin (evg z g) z (bI_ne r0.2 0)) ?_
 refine r_u (o_or z z) ?_
 refine nsq ?_
 refine c_if (b := (!r18 || (r0.2 != 0))) z (fun h20 => ?_) fun h20 => ?_
 ·have hm21 := ift hm19 h20
  clear hm19
  refine csr ?_
  refine r_as z ?_
  refine r_nil (x_seq (c_ret ?_))
  obtain rfl := si hm21
  refine ex_st (fun _ h => st_pk 9 [] (by decide) h) ?_
  exact x_r1 z (rv_t z) (Le.refl _) ⟨_, z, z, trivial, z⟩
 have hm21 := iff_ hm19 h20
 clear hm19
 refine c_skip (x_seq (c_seq (csr ?_)))
 refine r_as z ?_
 refine nsq ?_
 obtain ⟨p22, hp39, hm40⟩ := bs hm21
 refine cd_cut (fun x ks => ∀ (R23 : PH), ∀ (le24 : Le R R23), ∀ (pv25 : Value × Ab.G), ∀ (g29 : Ah.G), ∀ (hf28 : Ah.ro R23 p22.2 g29), EX x .normal ks [(2, v2_), (8, pv25.1)] R23 (Bk b17 40 (Ah.k p22.2 g29) :: rO (Ab.op pv25.2) pv25.1 p22.1 :: F)) ?_ fun K41 => ?_
 rotate_left
 ·refine c_blk ?_
  refine cd_st (fun _ h => mv2 (mv5 h)) ?_
  refine cd_ex (fun w h => st_freezeN w h) fun R386 hf389 => ?_
  obtain ⟨le387, h388⟩ := hf389
  refine cd_st (fun _ h => mv2 (mv4 h)) ?_
  refine cd_ex (fun w h => st_freezeN w h) fun R390 hf393 => ?_
  obtain ⟨le391, h392⟩ := hf393
  refine cd_st (fun _ h => mv1 h) ?_
  refine cd_ex (fun w h => st_freeze w h) fun R394 hf397 => ?_
  obtain ⟨le395, h396⟩ := hf397
  refine cd_st (fun _ h => mv2 (mv2 h)) ?_
  refine cd_ex (fun w h => st_freezeN w h) fun R398 hf401 => ?_
  obtain ⟨le399, h400⟩ := hf401
  refine cd_loopG (M := fun k385 (s : Option Ab × Int × Ah × (Value × Ab.G) × Ah.G × PH) => (Bp a1 k385 s.1 s.2.1 s.2.2.1 = some p22) ∧ (Le R s.2.2.2.2.2) ∧ (Ah.ro s.2.2.2.2.2 s.2.2.1 s.2.2.2.2.1)) (Ef := fun (s : Option Ab × Int × Ah × (Value × Ab.G) × Ah.G × PH) => [(1, v1_), (2, v2_), (10, pt b17 0), (8, s.2.2.2.1.1), (11, vI s.2.1)]) (Rf := fun (s : Option Ab × Int × Ah × (Value × Ab.G) × Ah.G × PH) => s.2.2.2.2.2) (Lf := fun (s : Option Ab × Int × Ah × (Value × Ab.G) × Ah.G × PH) => Bk b17 40 (Ah.k s.2.2.1 s.2.2.2.2.1) :: rO (Ab.op s.2.2.2.1.2) s.2.2.2.1.1 s.1 :: F) (((a1.length : Int) - 0).toNat + 1) (r0.1, 0, r5, (pv2, g3), (⟨(⟨(⟨(v6.A.R.L.1, [])⟩ : Ac.G)⟩ : Aa.G), (⟨(⟨(v6.T.S.Rows.1, []), v6.T.S.Door⟩ : Af.G), (⟨(v6.T.R.L.1, [])⟩ : Ac.G)⟩ : Ad.G)⟩ : Ah.G), R398) ⟨hp39, (Le.trans (Le.trans (Le.trans le387 le391) le395) le399), ⟨(RoN.mono (Le.trans (Le.trans le391 le395) le399) h388), ⟨⟨(RoN.mono (Le.trans le395 le399) h392), (RoS.mono le399 h396)⟩, h400⟩⟩⟩ ⟨z, z, z, z, z, trivial⟩ (fun _ h => st_pk 2 [0, 1] (by decide) h) (fun _ h => by cases h.1) fun k385 s hM403 => ?_
  obtain ⟨p_366, i_367, c_368, pv371, g375, R369⟩ := s
  have hm402 : Bp a1 (k385 + 1) p_366 i_367 c_368 = some p22 := hM403.1
  have le370 : Le R R369 := hM403.2.1
  have hf374 : Ah.ro R369 c_368 g375 := hM403.2.2
  rw [Bp] at hm402
  obtain ⟨pv372, g373⟩ := pv371
  refine c_seq (csr ?_)
  refine r_mv z (r_mv z ?_)
  refine r_u (o_lenR Tryz.underlying22 z (RoS.mono le370 h1_)) (r_bin z z (bI_lt i_367 (a1.length : Int)) (r_mv z ?_))
  refine r_s (s_gt z z fun g => o_mv z) ?_
  refine r_s (s_gt z z fun g => o_bin (evg z g) z (bI_lt i_367 50)) ?_
  refine r_u (o_and z z) ?_
  refine nsq ?_
  refine c_if (b := (decide (i_367 < (a1.length : Int)) && decide (i_367 < 50))) z (fun h404 => ?_) fun h404 => ?_
  rotate_left
  ·have hm405 := iff_ hm402 h404
   clear hm402
   refine c_exit (x_exit (ks' := _) z ?_)
   obtain rfl := si hm405
   exact x_sub (K41 _ le370 (pv372, g373) (⟨(⟨(⟨(g375.A.R.L.1, [])⟩ : Ac.G)⟩ : Aa.G), (⟨(⟨(g375.T.S.Rows.1, []), g375.T.S.Door⟩ : Af.G), (⟨(g375.T.R.L.1, [])⟩ : Ac.G)⟩ : Ad.G)⟩ : Ah.G) ⟨hf374.1, ⟨⟨hf374.2.1.1, hf374.2.1.2⟩, hf374.2.2⟩⟩) ⟨z, z, trivial⟩ (fun _ h => st_pk 2 [0, 1] (by decide) h)
  have hm405 := ift hm402 h404
  clear hm402
  refine c_skip (x_seq (c_seq (c_blk ?_)))
  obtain ⟨x406, hx406, hm407⟩ := bs hm405
  clear hm405
  obtain ⟨b406, o406, l406, T406, fr406, c406, hv406, hR406, he406, hi406⟩ := RoS.ne (RoS.mono le370 h1_) hx406
  refine cd_st (fun _ h => mv1 h) ?_
  refine cd_opt (fun ho410 => ?_) (fun x408 b409 ho410 => ?_)
  ·rintro rfl
   have hm411 := om_n hm407 ho410
   clear hm407
   cases hm411
  rintro rfl
  have hm411 := om_s hm407 ho410
  clear hm407
  obtain ⟨⟨pv413, g414⟩, ⟨pv416, g417⟩⟩ := g373
  refine cd_st (fun _ h => st_star_o h) ?_
  obtain ⟨r418, hr418, hm435⟩ := bs hm411
  clear hm411
  refine c_any mixed (effs := [6, 12]) (V := []) ?_
  refine stage_ext [(0, pt b409 0), (1, .agg (Ah.k c_368 g375).toArray), (2, v1_), (3, vI i_367), (4, pt b406 (o406 + i_367.toNat * 2)), (5, .agg (AC.c x406).toArray)] z ?_
  refine stage z z z z mk4_ [0, 1, 2, 3, 4, 5] [6] z z z (q_mv z z z (q_u z z (o_ldn 3 (Ah.k c_368 g375) ag40 z z z z) (q_mv z z z (q_mv z z z (q_u z z (o_ix (sz := 2) Tryz.underlying22 (fun _ => by kernel_rfl) z z hv406 hi406) (q_u z z (o_ldnR (AC.c x406) ag46 z hR406 he406 z) qn)))))) ?_ (nxt z)
  refine ec (eo_w z (s_w (o_call ca8 z (CS.ok b409 x408 (⟨(pv413, g414), (pv416, g417)⟩ : Ab.G) c_368 (⟨(⟨(⟨(g375.A.R.L.1, [])⟩ : Ac.G)⟩ : Aa.G), (⟨(⟨(g375.T.S.Rows.1, []), g375.T.S.Door⟩ : Af.G), (⟨(g375.T.R.L.1, [])⟩ : Ac.G)⟩ : Ad.G)⟩ : Ah.G) ⟨hf374.1, ⟨⟨hf374.2.1.1, hf374.2.1.2⟩, hf374.2.2⟩⟩ x406 r418 hr418))) ?_) en
  rintro _ R433 _ le434 ⟨⟨pv420, g421⟩, v422, rfl, hf423, rfl⟩
  refine stage_st (fun _ h => mv1 h) ?_
  refine stage_ext [(7, .tuple #[pv420, .agg (Ah.k r418.2.1 v422).toArray, vB r418.2.2]), (8, pv420), (9, .agg (Ah.k r418.2.1 v422).toArray), (10, vB r418.2.2), (11, pv420)] z ?_
  refine stage z z z z mk4_ [7, 8, 9, 10, 11] [12] z z z (q_mv z z z (q_u z z (o_ext z z) (q_u z z (o_ext z z) (q_u z z (o_ext z z) (q_u z z (o_as z) qn))))) ?_ (nxt z)
  refine ec (eo_u z (s_u (o_stn ag40 z z z (al_c z (al_c z (al_c z (al_c (RoN.one hf423.1) (al_c z (al_c z (al_c z (al_c z (al_c (RoN.one hf423.2.1.1) (al_c (RoS.one hf423.2.1.2) (al_c z (al_c (RoN.one hf423.2.2) (al_c z al_n))))))))))))) z z z)) (Le.refl _) ?_) en
  refine stage z z z z mk4_ [10] [] z z z (q_u z z (o_ext z z) qn) en ?_
  intro _
  refine ex_sub (E' := [(1, v1_), (2, v2_), (10, pt b17 0), (8, pv420), (11, vI i_367)]) ⟨z, z, z, z, z, trivial⟩ ?_
  refine x_blk (x_seq (c_reg ?_))
  refine r_mv z (r_bin z z (bI_add i_367 1) (r_as z ?_))
  refine r_nil ?_
  exact x_lp (r418.1, i64 (i_367 + 1), r418.2.1, (pv420, g421), (⟨(⟨(⟨(v422.A.R.L.1, [])⟩ : Ac.G)⟩ : Aa.G), (⟨(⟨(v422.T.S.Rows.1, []), v422.T.S.Door⟩ : Af.G), (⟨(v422.T.R.L.1, [])⟩ : Ac.G)⟩ : Ad.G)⟩ : Ah.G), R433) ⟨hm435, (Le.trans le370 le434), ⟨hf423.1, ⟨⟨hf423.2.1.1, hf423.2.1.2⟩, hf423.2.2⟩⟩⟩ ⟨z, z, z, z, z, trivial⟩ (fun _ h => st_pk 2 [0, 1] (by decide) h)
 intro R23 le24 pv25 g29 hf28
 obtain ⟨pv26, g27⟩ := pv25
 refine x_seq (c_seq ?_)
 refine cd_st (fun _ h => mv1 h) ?_
 refine cd_opt (fun ho44 => ?_) (fun x42 b43 ho44 => ?_)
 ·rintro rfl
  have hm45 := om_n hm40 ho44
  clear hm40
  cases hm45
 rintro rfl
 have hm45 := om_s hm40 ho44
 clear hm40
 obtain ⟨⟨pv47, g48⟩, ⟨pv50, g51⟩⟩ := g27
 refine cd_st (fun _ h => st_star_o h) ?_
 refine c_reg ?_
 refine r_mv z ?_
 obtain ⟨r52, hr52, hm53⟩ := bs hm45
 clear hm45
 refine r_c (s_w (o_call ca14 z (A5.ok b43 x42 (⟨(pv47, g48), (pv50, g51)⟩ : Ab.G) r52 hr52))) ?_
 obtain ⟨r54, hr54, hm58⟩ := bs hm53
 clear hm53
 refine r_sw (s_w (o_call ca17 z (CC.ok r52 r54 hr54))) ?_
 rintro _ R23 _ _ ⟨⟨pv56, g57⟩, rfl, rfl, rfl⟩
 refine r_mv z ?_
 refine r_ext z z ?_
 refine r_ext z z (r_as z (r_as z ?_))
 refine nssr ?_
 refine r_mv z (r_bin z z (bI_ne r54.2 0) ?_)
 refine nsq ?_
 refine c_if (b := (r54.2 != 0)) z (fun h59 => ?_) fun h59 => ?_
 ·have hm60 := ift hm58 h59
  clear hm58
  refine csr ?_
  refine r_as z ?_
  refine r_nil (x_seq (c_ret ?_))
  obtain rfl := si hm60
  refine ex_st (fun _ h => st_pk 5 [] (by decide) h) ?_
  exact x_r1 z (rv_t z) le24 ⟨_, z, z, trivial, z⟩
 have hm60 := iff_ hm58 h59
 clear hm58
 refine c_skip (x_seq (c_seq (csr ?_)))
 refine r_as z ?_
 refine nsq ?_
 obtain ⟨p61, hp75, hm76⟩ := bs hm60
 refine cd_cut (fun x ks => ∀ (q62 : Option Ab × Ab), ∀ (_ : p61 = Sum.inl q62), ∀ (R63 : PH), ∀ (le64 : Le R23 R63), ∀ (pv65 : Value × Ab.G), ∀ (g68 : Ab.G), EX x .normal ks [(8, pt b43 0), (12, pv65.1)] R63 (Bk b43 63 [vI q62.2.kind, g68.a.1, g68.t.1] :: Bk b17 40 (Ah.k p22.2 g29) :: rO (Ab.op pv65.2) pv65.1 q62.1 :: rO (Al.op g68.a.2) g68.a.1 q62.2.a :: rO (Ak.op g68.t.2) g68.t.1 q62.2.t :: F)) ?_ fun K77 => ?_
 ·intro q62 hq R63 le64 pv65 g68
  subst hq
  try dsimp only at hm76
  obtain ⟨pv66, g67⟩ := pv65
  obtain ⟨⟨pv70, g71⟩, ⟨pv73, g74⟩⟩ := g68
  refine x_seq (c_seq ?_)
  obtain ⟨r78, hr78, hm79⟩ := bs hm76
  clear hm76
  refine cd_st (fun _ h => mv2 h) ?_
  refine cd_opt (fun ho82 => ?_) (fun x80 b81 ho82 => ?_)
  ·rintro rfl
   have hm83 := om_n hm79 ho82
   clear hm79
   cases hm83
  rintro rfl
  have hm83 := om_s hm79 ho82
  clear hm79
  obtain ⟨⟨pv85, g86⟩, ⟨pv88, g89⟩⟩ := g67
  refine cd_st (fun _ h => st_star_o h) ?_
  refine c_reg ?_
  refine r_mv z ?_
  refine rl_st (fun _ h => mv5 (mv6 (mv6 h))) ?_
  refine r_c (s_w (o_call ca14 z (A5.ok b43 q62.2 (⟨(pv70, g71), (pv73, g74)⟩ : Ab.G) r78 hr78))) ?_
  refine r_mv z ?_
  obtain ⟨r90, hr90, hm91⟩ := bs hm83
  clear hm83
  refine rl_st (fun _ h => mv5 (mv5 (mv5 h))) ?_
  refine r_c (s_w (o_call ca14 z (A5.ok b81 x80 (⟨(pv85, g86), (pv88, g89)⟩ : Ab.G) r90 hr90))) ?_
  refine r_bin z z (bS_eq r78 r90) (r_as z ?_)
  refine r_nil (x_seq (c_ret ?_))
  obtain rfl := si hm91
  refine ex_st (fun _ h => st_pk 7 [] (by decide) h) ?_
  exact x_r1 z (rv_t z) (Le.trans le24 le64) ⟨_, z, z, trivial, z⟩
 refine c_blk ?_
 refine cd_loopG (M := fun k107 (s : Option Ab × Int × Ab × (Value × Ab.G) × Ab.G × PH) => (A9 a2 k107 s.1 s.2.1 s.2.2.1 = some p61) ∧ (Le R23 s.2.2.2.2.2)) (Ef := fun (s : Option Ab × Int × Ab × (Value × Ab.G) × Ab.G × PH) => [(2, v2_), (8, pt b43 0), (12, s.2.2.2.1.1), (14, vI s.2.1)]) (Rf := fun (s : Option Ab × Int × Ab × (Value × Ab.G) × Ab.G × PH) => s.2.2.2.2.2) (Lf := fun (s : Option Ab × Int × Ab × (Value × Ab.G) × Ab.G × PH) => Bk b43 63 [vI s.2.2.1.kind, s.2.2.2.2.1.a.1, s.2.2.2.2.1.t.1] :: Bk b17 40 (Ah.k p22.2 g29) :: rO (Ab.op s.2.2.2.1.2) s.2.2.2.1.1 s.1 :: rO (Al.op s.2.2.2.2.1.a.2) s.2.2.2.2.1.a.1 s.2.2.1.a :: rO (Ak.op s.2.2.2.2.1.t.2) s.2.2.2.2.1.t.1 s.2.2.1.t :: F) (((a2.length : Int) - 0).toNat + 1) (r54.1, 0, x42, (pv56, g57), (⟨(pv47, g48), (pv50, g51)⟩ : Ab.G), R23) ⟨hp75, (Le.refl _)⟩ ⟨z, z, z, z, trivial⟩ (fun _ h => st_pk 5 [1, 4, 0, 2, 3] (by decide) h) (fun _ h => by cases h.1) fun k107 s hM109 => ?_
 obtain ⟨q_92, i_93, c_94, pv97, g100, R95⟩ := s
 have hm108 : A9 a2 (k107 + 1) q_92 i_93 c_94 = some p61 := hM109.1
 have le96 : Le R23 R95 := hM109.2
 rw [A9] at hm108
 obtain ⟨pv98, g99⟩ := pv97
 obtain ⟨⟨pv102, g103⟩, ⟨pv105, g106⟩⟩ := g100
 refine c_seq (csr ?_)
 refine r_mv z (r_mv z ?_)
 refine r_u (o_lenR Tryz.underlying22 z (RoS.mono (Le.trans le24 le96) h2_)) (r_bin z z (bI_lt i_93 (a2.length : Int)) (r_mv z ?_))
 refine r_s (s_gt z z fun g => o_mv z) ?_
 refine r_s (s_gt z z fun g => o_bin (evg z g) z (bI_lt i_93 50)) ?_
 refine r_u (o_and z z) ?_
 refine nsq ?_
 refine c_if (b := (decide (i_93 < (a2.length : Int)) && decide (i_93 < 50))) z (fun h110 => ?_) fun h110 => ?_
 rotate_left
 ·have hm111 := iff_ hm108 h110
  clear hm108
  refine c_exit (x_exit (ks' := _) z ?_)
  obtain rfl := si hm111
  exact x_sub (K77 _ z _ le96 (pv98, g99) (⟨(pv102, g103), (pv105, g106)⟩ : Ab.G)) ⟨z, z, trivial⟩ (fun _ h => st_pk 5 [0, 1, 2, 3, 4] (by decide) h)
 have hm111 := ift hm108 h110
 clear hm108
 refine c_skip (x_seq (c_seq (c_blk (csr ?_))))
 refine r_mv z (r_mv z ?_)
 obtain ⟨x112, hx112, hm113⟩ := bs hm111
 clear hm111
 obtain ⟨b112, o112, l112, T112, fr112, c112, hv112, hR112, he112, hi112⟩ := RoS.ne (RoS.mono (Le.trans le24 le96) h2_) hx112
 refine r_u (o_ix (sz := 2) Tryz.underlying22 (fun _ => by kernel_rfl) z z hv112 hi112) (r_fa fa46_1 z ?_)
 refine r_u (o_ldR sc9 z hR112 (rok 1 he112 (by decide))) ?_
 obtain ⟨r114, hr114, hm115⟩ := bs hm113
 clear hm113
 refine r_u (o_callq ca12 z (B2.ok x112.Key r114 hr114)) (r_as z ?_)
 refine nsr ?_
 refine r_mv z (r_mv z ?_)
 refine r_u (o_ix (sz := 2) Tryz.underlying22 (fun _ => by kernel_rfl) z z hv112 hi112) (r_fa fa46_0 z ?_)
 refine r_u (o_ldR sc3 z hR112 (rok 0 he112 (by decide))) ?_
 refine r_nil (x_seq (c_blk (c_seq (csr ?_))))
 refine r_bin z z (bI_eq x112.Kind 4) (r_as z ?_)
 refine nsq ?_
 obtain ⟨p116, hp117, hm118⟩ := bs hm115
 refine cd_join (E' := [(2, v2_), (8, pt b43 0), (12, pv98), (14, vI i_93), (15, vS r114), (85, vI x112.Kind), (94, vB p116)]) (L' := Bk b43 63 [vI c_94.kind, pv102, pv105] :: Bk b17 40 (Ah.k p22.2 g29) :: rO (Ab.op g99) pv98 q_92 :: rO (Al.op g103) pv102 c_94.a :: rO (Ak.op g106) pv105 c_94.t :: F) ?_ fun K119 => ?_
 rotate_left
 ·refine c_if (b := (x112.Kind == 4)) z (fun h364 => ?_) fun h364 => ?_
  ·have hm365 := ift hp117 h364
   clear hp117
   refine c_skip ?_
   obtain rfl := si hm365
   exact x_sub K119 ⟨z, z, z, z, z, z, z, trivial⟩ (fun _ h => st_pk 5 [0, 1, 2, 3, 4] (by decide) h)
  have hm365 := iff_ hp117 h364
  clear hp117
  refine c_reg ?_
  refine r_bin z z (bI_eq x112.Kind 5) (r_as z ?_)
  refine r_nil ?_
  obtain rfl := si hm365
  exact x_sub K119 ⟨z, z, z, z, z, z, z, trivial⟩ (fun _ h => st_pk 5 [0, 1, 2, 3, 4] (by decide) h)
 refine x_seq ?_
 obtain ⟨p120, hp134, hm135⟩ := bs hm118
 refine cd_cut (fun x ks => ∀ (q121 : Option Ab × Ab), ∀ (_ : p120 = Sum.inl q121), ∀ (R122 : PH), ∀ (le123 : Le R95 R122), ∀ (pv124 : Value × Ab.G), ∀ (g127 : Ab.G), EX x .normal ks [(2, v2_), (8, pt b43 0), (14, vI i_93), (12, pv124.1)] R122 (Bk b43 63 [vI q121.2.kind, g127.a.1, g127.t.1] :: Bk b17 40 (Ah.k p22.2 g29) :: rO (Ab.op pv124.2) pv124.1 q121.1 :: rO (Al.op g127.a.2) g127.a.1 q121.2.a :: rO (Ak.op g127.t.2) g127.t.1 q121.2.t :: F)) ?_ fun K136 => ?_
 ·intro q121 hq R122 le123 pv124 g127
  subst hq
  try dsimp only at hm135
  obtain ⟨pv125, g126⟩ := pv124
  obtain ⟨⟨pv129, g130⟩, ⟨pv132, g133⟩⟩ := g127
  refine x_blk (x_blk (x_seq (c_reg ?_)))
  refine r_mv z (r_bin z z (bI_add i_93 1) (r_as z ?_))
  refine r_nil ?_
  exact x_lp (q121.1, i64 (i_93 + 1), q121.2, (pv125, g126), (⟨(pv129, g130), (pv132, g133)⟩ : Ab.G), R122) ⟨hm135, (Le.trans le96 le123)⟩ ⟨z, z, z, z, trivial⟩ (fun _ h => st_pk 5 [0, 1, 2, 3, 4] (by decide) h)
 refine c_if (b := p116) z (fun h137 => ?_) fun h137 => ?_
 ·have hm138 := ift hp134 h137
  clear hp134
  refine c_seq ?_
  obtain ⟨r139, hr139, hm147⟩ := bs hm138
  clear hm138
  refine cd_st (fun _ h => mv2 h) ?_
  refine cd_opt (fun ho150 => ?_) (fun x148 b149 ho150 => ?_)
  ·rintro rfl
   have hm151 := om_n hm147 ho150
   clear hm147
   cases hm151
  rintro rfl
  have hm151 := om_s hm147 ho150
  clear hm147
  obtain ⟨⟨pv153, g154⟩, ⟨pv156, g157⟩⟩ := g99
  refine cd_st (fun _ h => st_star_o h) ?_
  refine c_reg ?_
  refine r_mv z (r_mv z ?_)
  refine rl_st (fun _ h => mv5 (mv6 (mv6 h))) ?_
  refine r_sw (s_w (o_call ca18 z (Bb.ok b43 c_94 (⟨(pv102, g103), (pv105, g106)⟩ : Ab.G) r114 r139 hr139))) ?_
  rintro _ R95 _ _ ⟨⟨⟨pv160, g161⟩, ⟨pv163, g164⟩⟩, rfl, rfl, rfl⟩
  refine r_mv z (r_mv z ?_)
  obtain ⟨r165, hr165, hm173⟩ := bs hm151
  clear hm151
  refine rl_st (fun _ h => mv5 (mv5 (mv5 h))) ?_
  refine r_sw (s_w (o_call ca18 z (Bb.ok b149 x148 (⟨(pv153, g154), (pv156, g157)⟩ : Ab.G) r114 r165 hr165))) ?_
  rintro _ R95 _ _ ⟨⟨⟨pv168, g169⟩, ⟨pv171, g172⟩⟩, rfl, rfl, rfl⟩
  refine r_bin z z (bB_ne Tryz.underlying4 r139.1 r165.1) ?_
  refine nsq ?_
  refine c_if (b := (r139.1 != r165.1)) z (fun h174 => ?_) fun h174 => ?_
  ·have hm175 := ift hm173 h174
   clear hm173
   refine csr ?_
   refine r_as z ?_
   refine r_nil (x_seq (c_ret ?_))
   obtain rfl := si hm175
   try dsimp only at hm135
   obtain rfl := si hm135
   try dsimp only at hm76
   obtain rfl := si hm76
   refine ex_st (fun _ h => st_pk 7 [] (by decide) h) ?_
   exact x_r1 z (rv_t z) (Le.trans le24 le96) ⟨_, z, z, trivial, z⟩
  have hm175 := iff_ hm173 h174
  clear hm173
  refine c_skip ?_
  refine ex_st (fun _ h => st_some (f := Ab.op (⟨(pv168, g169), (pv171, g172)⟩ : Ab.G)) (a := r165.2) (st_star_f (A := Ab.fl b149 r165.2 (⟨(pv168, g169), (pv171, g172)⟩ : Ab.G)) h)) ?_
  obtain rfl := si hm175
  exact x_sub (K136 _ z _ (Le.refl _) (pt b149 0, (⟨(pv168, g169), (pv171, g172)⟩ : Ab.G)) (⟨(pv160, g161), (pv163, g164)⟩ : Ab.G)) ⟨z, z, z, z, trivial⟩ (fun _ h => st_pk 5 [1, 4, 0, 2, 3] (by decide) h)
 have hm138 := iff_ hp134 h137
 clear hp134
 refine csr ?_
 refine r_bin z z (bI_eq x112.Kind 6) (r_as z ?_)
 refine nsq ?_
 obtain ⟨p176, hp190, hm191⟩ := bs hm138
 refine cd_cut (fun x ks => ∀ (q177 : Option Ab × Ab), ∀ (_ : p176 = Sum.inl q177), ∀ (R178 : PH), ∀ (le179 : Le R95 R178), ∀ (pv180 : Value × Ab.G), ∀ (g183 : Ab.G), EX x .normal ks [(2, v2_), (8, pt b43 0), (14, vI i_93), (12, pv180.1)] R178 (Bk b43 63 [vI q177.2.kind, g183.a.1, g183.t.1] :: Bk b17 40 (Ah.k p22.2 g29) :: rO (Ab.op pv180.2) pv180.1 q177.1 :: rO (Al.op g183.a.2) g183.a.1 q177.2.a :: rO (Ak.op g183.t.2) g183.t.1 q177.2.t :: F)) ?_ fun K192 => ?_
 ·intro q177 hq R178 le179 pv180 g183
  subst hq
  try dsimp only at hm191
  obtain ⟨pv181, g182⟩ := pv180
  obtain ⟨⟨pv185, g186⟩, ⟨pv188, g189⟩⟩ := g183
  obtain rfl := si hm191
  exact x_sub (K136 _ z _ le179 (pv181, g182) (⟨(pv185, g186), (pv188, g189)⟩ : Ab.G)) ⟨z, z, z, z, trivial⟩ (fun _ h => st_pk 5 [0, 1, 2, 3, 4] (by decide) h)
 refine c_if (b := (x112.Kind == 6)) z (fun h193 => ?_) fun h193 => ?_
 ·have hm194 := ift hp190 h193
  clear hp190
  refine c_seq ?_
  obtain ⟨r195, hr195, hm203⟩ := bs hm194
  clear hm194
  refine cd_st (fun _ h => mv2 h) ?_
  refine cd_opt (fun ho206 => ?_) (fun x204 b205 ho206 => ?_)
  ·rintro rfl
   have hm207 := om_n hm203 ho206
   clear hm203
   cases hm207
  rintro rfl
  have hm207 := om_s hm203 ho206
  clear hm203
  obtain ⟨⟨pv209, g210⟩, ⟨pv212, g213⟩⟩ := g99
  refine cd_st (fun _ h => st_star_o h) ?_
  refine c_reg ?_
  refine r_mv z (r_mv z ?_)
  refine rl_st (fun _ h => mv5 (mv6 (mv6 h))) ?_
  refine r_sw (s_w (o_call ca19 z (Bn.ok b43 c_94 (⟨(pv102, g103), (pv105, g106)⟩ : Ab.G) r114 r195 hr195))) ?_
  rintro _ R95 _ _ ⟨⟨⟨pv216, g217⟩, ⟨pv219, g220⟩⟩, rfl, rfl, rfl⟩
  refine r_mv z (r_mv z ?_)
  obtain ⟨r221, hr221, hm229⟩ := bs hm207
  clear hm207
  refine rl_st (fun _ h => mv5 (mv5 (mv5 h))) ?_
  refine r_sw (s_w (o_call ca19 z (Bn.ok b205 x204 (⟨(pv209, g210), (pv212, g213)⟩ : Ab.G) r114 r221 hr221))) ?_
  rintro _ R95 _ _ ⟨⟨⟨pv224, g225⟩, ⟨pv227, g228⟩⟩, rfl, rfl, rfl⟩
  refine r_bin z z (bB_ne Tryz.underlying4 r195.1 r221.1) ?_
  refine nsq ?_
  refine c_if (b := (r195.1 != r221.1)) z (fun h230 => ?_) fun h230 => ?_
  ·have hm231 := ift hm229 h230
   clear hm229
   refine csr ?_
   refine r_as z ?_
   refine r_nil (x_seq (c_ret ?_))
   obtain rfl := si hm231
   try dsimp only at hm191
   obtain rfl := si hm191
   try dsimp only at hm135
   obtain rfl := si hm135
   try dsimp only at hm76
   obtain rfl := si hm76
   refine ex_st (fun _ h => st_pk 7 [] (by decide) h) ?_
   exact x_r1 z (rv_t z) (Le.trans le24 le96) ⟨_, z, z, trivial, z⟩
  have hm231 := iff_ hm229 h230
  clear hm229
  refine c_skip ?_
  refine ex_st (fun _ h => st_some (f := Ab.op (⟨(pv224, g225), (pv227, g228)⟩ : Ab.G)) (a := r221.2) (st_star_f (A := Ab.fl b205 r221.2 (⟨(pv224, g225), (pv227, g228)⟩ : Ab.G)) h)) ?_
  obtain rfl := si hm231
  exact x_sub (K192 _ z _ (Le.refl _) (pt b205 0, (⟨(pv224, g225), (pv227, g228)⟩ : Ab.G)) (⟨(pv216, g217), (pv219, g220)⟩ : Ab.G)) ⟨z, z, z, z, trivial⟩ (fun _ h => st_pk 5 [1, 4, 0, 2, 3] (by decide) h)
 have hm194 := iff_ hp190 h193
 clear hp190
 refine csr ?_
 refine r_bin z z (bI_eq x112.Kind 7) (r_as z ?_)
 refine nsq ?_
 obtain ⟨p232, hp246, hm247⟩ := bs hm194
 refine cd_cut (fun x ks => ∀ (q233 : Option Ab × Ab), ∀ (_ : p232 = Sum.inl q233), ∀ (R234 : PH), ∀ (le235 : Le R95 R234), ∀ (pv236 : Value × Ab.G), ∀ (g239 : Ab.G), EX x .normal ks [(2, v2_), (8, pt b43 0), (14, vI i_93), (12, pv236.1)] R234 (Bk b43 63 [vI q233.2.kind, g239.a.1, g239.t.1] :: Bk b17 40 (Ah.k p22.2 g29) :: rO (Ab.op pv236.2) pv236.1 q233.1 :: rO (Al.op g239.a.2) g239.a.1 q233.2.a :: rO (Ak.op g239.t.2) g239.t.1 q233.2.t :: F)) ?_ fun K248 => ?_
 ·intro q233 hq R234 le235 pv236 g239
  subst hq
  try dsimp only at hm247
  obtain ⟨pv237, g238⟩ := pv236
  obtain ⟨⟨pv241, g242⟩, ⟨pv244, g245⟩⟩ := g239
  obtain rfl := si hm247
  exact x_sub (K192 _ z _ le235 (pv237, g238) (⟨(pv241, g242), (pv244, g245)⟩ : Ab.G)) ⟨z, z, z, z, trivial⟩ (fun _ h => st_pk 5 [0, 1, 2, 3, 4] (by decide) h)
 refine c_if (b := (x112.Kind == 7)) z (fun h249 => ?_) fun h249 => ?_
 ·have hm250 := ift hp246 h249
  clear hp246
  refine csr ?_
  refine r_mv z ?_
  obtain ⟨r251, hr251, hm259⟩ := bs hm250
  clear hm250
  refine rl_st (fun _ h => mv2 (mv4 (mv4 h))) ?_
  refine r_sw (s_w (o_call ca20 z (Bs.ok b43 c_94 (⟨(pv102, g103), (pv105, g106)⟩ : Ab.G) r251 hr251))) ?_
  rintro _ R95 _ _ ⟨⟨⟨pv254, g255⟩, ⟨pv257, g258⟩⟩, rfl, rfl, rfl⟩
  refine r_mv z ?_
  refine r_ext z z ?_
  refine r_ext z z (r_as z (r_as z ?_))
  refine r_nil (x_seq (c_seq ?_))
  refine cd_st (fun _ h => mv4 h) ?_
  refine cd_opt (fun ho262 => ?_) (fun x260 b261 ho262 => ?_)
  ·rintro rfl
   have hm263 := om_n hm259 ho262
   clear hm259
   cases hm263
  rintro rfl
  have hm263 := om_s hm259 ho262
  clear hm259
  obtain ⟨⟨pv265, g266⟩, ⟨pv268, g269⟩⟩ := g99
  refine cd_st (fun _ h => st_star_o h) ?_
  refine c_reg ?_
  refine r_mv z ?_
  obtain ⟨r270, hr270, hm278⟩ := bs hm263
  clear hm263
  refine r_sw (s_w (o_call ca20 z (Bs.ok b261 x260 (⟨(pv265, g266), (pv268, g269)⟩ : Ab.G) r270 hr270))) ?_
  rintro _ R95 _ _ ⟨⟨⟨pv273, g274⟩, ⟨pv276, g277⟩⟩, rfl, rfl, rfl⟩
  refine r_mv z ?_
  refine r_ext z z ?_
  refine r_ext z z (r_as z (r_as z ?_))
  refine nsr ?_
  refine r_mv z (r_mv z (r_bin z z (bS_ne r251.1 r270.1) (r_mv z ?_)))
  refine r_s (s_gf z z fun g => o_mv z) ?_
  refine r_s (s_gf z z fun g => o_mv z) ?_
  refine r_s (s_gf z z fun g => o_bin (evg z g) (evg z g) (bB_ne Tryz.underlying4 r251.2.1 r270.2.1)) ?_
  refine r_u (o_or z z) ?_
  refine nsq ?_
  refine c_if (b := ((r251.1 != r270.1) || (r251.2.1 != r270.2.1))) z (fun h279 => ?_) fun h279 => ?_
  ·have hm280 := ift hm278 h279
   clear hm278
   refine csr ?_
   refine r_as z ?_
   refine r_nil (x_seq (c_ret ?_))
   obtain rfl := si hm280
   try dsimp only at hm247
   obtain rfl := si hm247
   try dsimp only at hm191
   obtain rfl := si hm191
   try dsimp only at hm135
   obtain rfl := si hm135
   try dsimp only at hm76
   obtain rfl := si hm76
   refine ex_st (fun _ h => st_pk 7 [] (by decide) h) ?_
   exact x_r1 z (rv_t z) (Le.trans le24 le96) ⟨_, z, z, trivial, z⟩
  have hm280 := iff_ hm278 h279
  clear hm278
  refine c_skip ?_
  refine ex_st (fun _ h => st_some (f := Ab.op (⟨(pv273, g274), (pv276, g277)⟩ : Ab.G)) (a := r270.2.2) (st_star_f (A := Ab.fl b261 r270.2.2 (⟨(pv273, g274), (pv276, g277)⟩ : Ab.G)) h)) ?_
  obtain rfl := si hm280
  exact x_sub (K248 _ z _ (Le.refl _) (pt b261 0, (⟨(pv273, g274), (pv276, g277)⟩ : Ab.G)) (⟨(pv254, g255), (pv257, g258)⟩ : Ab.G)) ⟨z, z, z, z, trivial⟩ (fun _ h => st_pk 5 [1, 4, 0, 2, 3] (by decide) h)
 have hm250 := iff_ hp246 h249
 clear hp246
 refine csr ?_
 refine r_bin z z (bI_eq x112.Kind 8) (r_as z ?_)
 refine nsq ?_
 obtain ⟨p281, hp295, hm296⟩ := bs hm250
 refine cd_cut (fun x ks => ∀ (q282 : Option Ab × Ab), ∀ (_ : p281 = Sum.inl q282), ∀ (R283 : PH), ∀ (le284 : Le R95 R283), ∀ (pv285 : Value × Ab.G), ∀ (g288 : Ab.G), EX x .normal ks [(2, v2_), (8, pt b43 0), (14, vI i_93), (12, pv285.1)] R283 (Bk b43 63 [vI q282.2.kind, g288.a.1, g288.t.1] :: Bk b17 40 (Ah.k p22.2 g29) :: rO (Ab.op pv285.2) pv285.1 q282.1 :: rO (Al.op g288.a.2) g288.a.1 q282.2.a :: rO (Ak.op g288.t.2) g288.t.1 q282.2.t :: F)) ?_ fun K297 => ?_
 ·intro q282 hq R283 le284 pv285 g288
  subst hq
  try dsimp only at hm296
  obtain ⟨pv286, g287⟩ := pv285
  obtain ⟨⟨pv290, g291⟩, ⟨pv293, g294⟩⟩ := g288
  obtain rfl := si hm296
  exact x_sub (K248 _ z _ le284 (pv286, g287) (⟨(pv290, g291), (pv293, g294)⟩ : Ab.G)) ⟨z, z, z, z, trivial⟩ (fun _ h => st_pk 5 [0, 1, 2, 3, 4] (by decide) h)
 refine c_if (b := (x112.Kind == 8)) z (fun h298 => ?_) fun h298 => ?_
 ·have hm299 := ift hp295 h298
  clear hp295
  refine csr ?_
  refine r_mv z (r_mv z ?_)
  obtain ⟨r300, hr300, hm301⟩ := bs hm299
  clear hm299
  refine rl_st (fun _ h => mv2 (mv4 (mv4 h))) ?_
  refine r_c (s_w (o_call ca21 z (BF.ok b43 c_94 (⟨(pv102, g103), (pv105, g106)⟩ : Ab.G) r114 r300 hr300))) ?_
  refine nsq ?_
  refine cd_st (fun _ h => mv4 h) ?_
  refine cd_opt (fun ho304 => ?_) (fun x302 b303 ho304 => ?_)
  ·rintro rfl
   have hm305 := om_n hm301 ho304
   clear hm301
   cases hm305
  rintro rfl
  have hm305 := om_s hm301 ho304
  clear hm301
  obtain ⟨⟨pv307, g308⟩, ⟨pv310, g311⟩⟩ := g99
  refine cd_st (fun _ h => st_star_o h) ?_
  refine c_reg ?_
  refine r_mv z (r_mv z ?_)
  obtain ⟨r312, hr312, hm313⟩ := bs hm305
  clear hm305
  refine r_c (s_w (o_call ca21 z (BF.ok b303 x302 (⟨(pv307, g308), (pv310, g311)⟩ : Ab.G) r114 r312 hr312))) ?_
  refine r_nil ?_
  refine ex_st (fun _ h => st_some (f := Ab.op (⟨(pv307, g308), (pv310, g311)⟩ : Ab.G)) (a := r312) (st_star_f (A := Ab.fl b303 r312 (⟨(pv307, g308), (pv310, g311)⟩ : Ab.G)) h)) ?_
  obtain rfl := si hm313
  exact x_sub (K297 _ z _ (Le.refl _) (pt b303 0, (⟨(pv307, g308), (pv310, g311)⟩ : Ab.G)) (⟨(pv102, g103), (pv105, g106)⟩ : Ab.G)) ⟨z, z, z, z, trivial⟩ (fun _ h => st_pk 5 [1, 4, 0, 2, 3] (by decide) h)
 have hm299 := iff_ hp295 h298
 clear hp295
 refine c_seq ?_
 obtain ⟨r314, hr314, hm323⟩ := bs hm299
 clear hm299
 refine cd_st (fun _ h => mv2 h) ?_
 refine cd_opt (fun ho326 => ?_) (fun x324 b325 ho326 => ?_)
 ·rintro rfl
  have hm327 := om_n hm323 ho326
  clear hm323
  cases hm327
 rintro rfl
 have hm327 := om_s hm323 ho326
 clear hm323
 obtain ⟨⟨pv329, g330⟩, ⟨pv332, g333⟩⟩ := g99
 refine cd_st (fun _ h => st_star_o h) ?_
 refine c_reg ?_
 refine r_mv z (r_mv z ?_)
 refine rl_st (fun _ h => mv5 (mv6 (mv6 h))) ?_
 refine r_sw (s_w (o_call ca23 z (AV.ok b43 c_94 (⟨(pv102, g103), (pv105, g106)⟩ : Ab.G) r114 r314 hr314))) ?_
 rintro v334 R95 _ _ ⟨_, ⟨⟨pv337, g338⟩, ⟨pv340, g341⟩⟩, rfl, rfl, rfl⟩
 refine r_mv z (r_mv z ?_)
 obtain ⟨r342, hr342, hm351⟩ := bs hm327
 clear hm327
 refine rl_st (fun _ h => mv6 (mv6 (mv6 h))) ?_
 refine r_sw (s_w (o_call ca23 z (AV.ok b325 x324 (⟨(pv329, g330), (pv332, g333)⟩ : Ab.G) r114 r342 hr342))) ?_
 rintro v343 R95 _ _ ⟨_, ⟨⟨pv346, g347⟩, ⟨pv349, g350⟩⟩, rfl, rfl, rfl⟩
 refine rl_st (fun _ h => mv4 h) ?_
 refine rl_ex (fun w h => st_freeze w h) fun R352 hf355 => ?_
 obtain ⟨le353, h354⟩ := hf355
 refine rl_ex (fun w h => st_freeze w h) fun R356 hf359 => ?_
 obtain ⟨le357, h358⟩ := hf359
 obtain ⟨r360, hr360, hm361⟩ := bs hm351
 clear hm351
 refine r_u (o_callq ca22 z (BX.ok v334 r314.1 (RoS.mono le357 h354) v343 r342.1 h358 r360 hr360)) ?_
 refine r_u (o_not z) ?_
 refine nsq ?_
 refine c_if (b := !r360) z (fun h362 => ?_) fun h362 => ?_
 rotate_left
 ·have hm363 := iff_ hm361 h362
  clear hm361
  refine c_skip ?_
  refine ex_st (fun _ h => st_some (f := Ab.op (⟨(pv346, g347), (pv349, g350)⟩ : Ab.G)) (a := r342.2) (st_star_f (A := Ab.fl b325 r342.2 (⟨(pv346, g347), (pv349, g350)⟩ : Ab.G)) h)) ?_
  obtain rfl := si hm363
  exact x_sub (K297 _ z _ (Le.trans le353 le357) (pt b325 0, (⟨(pv346, g347), (pv349, g350)⟩ : Ab.G)) (⟨(pv337, g338), (pv340, g341)⟩ : Ab.G)) ⟨z, z, z, z, trivial⟩ (fun _ h => st_pk 5 [1, 4, 0, 2, 3] (by decide) h)
 have hm363 := ift hm361 h362
 clear hm361
 refine csr ?_
 refine r_as z ?_
 refine r_nil (x_seq (c_ret ?_))
 obtain rfl := si hm363
 try dsimp only at hm296
 obtain rfl := si hm296
 try dsimp only at hm247
 obtain rfl := si hm247
 try dsimp only at hm191
 obtain rfl := si hm191
 try dsimp only at hm135
 obtain rfl := si hm135
 try dsimp only at hm76
 obtain rfl := si hm76
 refine ex_st (fun _ h => st_pk 7 [] (by decide) h) ?_
 exact x_r1 z (rv_t z) (Le.trans (Le.trans (Le.trans le24 le96) le353) le357) ⟨_, z, z, trivial, z⟩
def Co  : Nat → UInt64 → Str → Option (UInt64 × Str)
 | 0, _, _ => none
 | k9 + 1, n_7, s_8 => if decide (127 < n_7) then if s_8.length + [(128 + (n_7 % 128)).toUInt8].length ≤ maxS then Co k9 (n_7 / 128) (s_8 ++ [(128 + (n_7 % 128)).toUInt8]) else none else some (n_7, s_8)
def Bq (a0 : UInt64) : Option Str :=
 Option.bind (Co 11 a0 []) fun p0 => if p0.2.length + [p0.1.toUInt8].length ≤ maxS then some (p0.2 ++ [p0.1.toUInt8]) else none
def Ds (a0 : Str) : Option Str :=
 (Bq (toW (a0.length : Int))).bind fun r0 => if r0.length + a0.length ≤ maxS then some (r0 ++ a0) else none
def Cq (x22 : List Str) : Nat → Str → Int → Option (Str)
 | 0, _, _ => none
 | k35 + 1, out_33, k_34 => if decide (k_34 < (x22.length : Int)) then (gi x22 k_34).bind fun x40 => (Ds x40).bind fun r42 => if out_33.length + r42.length ≤ maxS then Cq x22 k35 (out_33 ++ r42) (i64 (k_34 + 1)) else none else some out_33
def CN (a0 : Ac) : Nat → Str → Int → Option (Str)
 | 0, _, _ => none
 | k13 + 1, out_11, i_12 => if decide (i_12 < (a0.L.length : Int)) then Option.bind ((gi a0.L i_12).bind fun x22 => (Bq (toW (x22.length : Int))).bind fun r25 => if out_11.length + r25.length ≤ maxS then Option.bind (Cq x22 (((x22.length : Int) - 0).toNat + 1) (out_11 ++ r25) 0) fun p29 => some p29 else none) fun p18 => CN a0 k13 p18 (i64 (i_12 + 1)) else some out_11
def Cm (a0 : Ac) : Option Str :=
 (Bq (toW (a0.L.length : Int))).bind fun r1 => (Bq (toW a0.Places)).bind fun r3 => if r1.length + r3.length ≤ maxS then Option.bind (CN a0 (((a0.L.length : Int) - 0).toNat + 1) (r1 ++ r3) 0) fun p7 => some p7 else none
def Dm (a0 : Aa) : Option Str :=
 (Bq (toW a0.Most)).bind fun r1 => (Bq (toW a0.Target)).bind fun r3 => if r1.length + r3.length ≤ maxS then (Cm a0.R).bind fun r7 => if (r1 ++ r3).length + r7.length ≤ maxS then some ((r1 ++ r3) ++ r7) else none else none
def Dt (a0 : Bool) : Str :=
 if a0 then [1] else [0]
def Ck (a0 : Af) : Nat → Str → Int → Option (Str)
 | 0, _, _ => none
 | k21 + 1, out_19, k_20 => if decide (k_20 < a0.Wide) then (gi a0.Door k_20).bind fun x26 => if out_19.length + (Dt x26).length ≤ maxS then Ck a0 k21 (out_19 ++ (Dt x26)) (i64 (k_20 + 1)) else none else some out_19
def Bh (a0 : Af) (i_31 : Int) : Nat → Str → Int → Option (Str)
 | 0, _, _ => none
 | k47 + 1, out_45, k_46 => if decide (k_46 < a0.Wide) then (gi a0.Rows i_31).bind fun x52 => (gi x52 k_46).bind fun x55 => if out_45.length + [toY x55].length ≤ maxS then Bh a0 i_31 k47 (out_45 ++ [toY x55]) (i64 (k_46 + 1)) else none else some out_45
def Bi (a0 : Af) : Nat → Str → Int → Option (Str)
 | 0, _, _ => none
 | k32 + 1, out_30, i_31 => if decide (i_31 < 4) then Option.bind (Option.bind (Bh a0 i_31 ((a0.Wide - 0).toNat + 1) out_30 0) fun p41 => some p41) fun p37 => Bi a0 k32 p37 (i64 (i_31 + 1)) else some out_30
def Di (a0 : Af) : Option Str :=
 (Bq (toW a0.Wide)).bind fun r1 => (Bq a0.Seed).bind fun r3 => if r1.length + r3.length ≤ maxS then (Bq (toW a0.Added)).bind fun r7 => if (r1 ++ r3).length + r7.length ≤ maxS then Option.bind (Bi a0 5 ((r1 ++ r3) ++ r7) 0) fun p11 => Option.bind (Ck a0 ((a0.Wide - 0).toNat + 1) p11 0) fun p15 => some p15 else none else none
def Dl (a0 : Ad) : Option Str :=
 (Bq (toW a0.Most)).bind fun r1 => (Di a0.S).bind fun r3 => if r1.length + r3.length ≤ maxS then (Cm a0.R).bind fun r7 => if (r1 ++ r3).length + r7.length ≤ maxS then some ((r1 ++ r3) ++ r7) else none else none
def Du (a0 : Ah) : Option Str :=
 if (a0.Kind == 1) then (Dm a0.A).bind fun r3 => if [1].length + r3.length ≤ maxS then some ([1] ++ r3) else none else (Dl a0.T).bind fun r7 => if [2].length + r7.length ≤ maxS then some ([2] ++ r7) else none
def Dv (a0 : Ah) : Option Int :=
 if (a0.Kind == 1) then (AF a0.A).bind fun r3 => some r3 else (BS a0.T).bind fun r5 => some r5
def Dw (a0 : Ah) (a1 : Str) : Option Bool :=
 if (a0.Kind == 1) then (A7 a0.A a1).bind fun r3 => if r3 then some true else if (a0.Kind == 2) then (Bc a0.T a1).bind fun r9 => some r9 else some false else if (a0.Kind == 2) then (Bc a0.T a1).bind fun r13 => some r13 else some false
end Go.Proofs.YthngfieikhillaaGreat
