import Derived.Test.YthngfieikhillaaGreatW3
import Derived.Test.YthngfieikhillaaGreatFacts
import Derived.Test.YthngfieikhillaaGreatHwY
set_option linter.unusedVariables false
set_option linter.unusedSectionVars false
set_option linter.unusedSimpArgs false
set_option maxRecDepth 100000
set_option maxHeartbeats 8000000
namespace Go.Proofs.YthngfieikhillaaGreat
open Go Go.Proofs.YthngfieikhillaaGreat.Hw
def Bo (a0 : Aa) (a1 : Str) : Option (Aa × List Str) :=
 if decide (64 < (a1.length : Int)) then some (a0, []) else (AT a0 a1).bind fun r4 => if r4 then (Av a0 1 a1).bind fun r8 => some (r8, []) else (AH a0.R a1).bind fun r17 => if r17.2 then (Au a0 2).bind fun r21 => (Au a0 3).bind fun r23 => Option.bind (if (r17.1 == 2) then if r21 ≠ 0 then Option.bind (if decide ((i64 (r23.tdiv r21)) < 1) then some 1 else some (i64 (r23.tdiv r21))) fun p65 => Option.bind (if decide (a0.Most < (i64 (a0.Target + p65))) then some a0.Most else some (i64 (a0.Target + p65))) fun p69 => some p69 else none else if r23 ≠ 0 then Option.bind (if decide ((i64 (r21.tdiv r23)) < 1) then some 1 else some (i64 (r21.tdiv r23))) fun p79 => Option.bind (if decide ((i64 (a0.Target - p79)) < 0) then some 0 else some (i64 (a0.Target - p79))) fun p83 => some p83 else none) fun p25 => (AF (⟨a0.Most, p25, a0.R⟩ : Aa)).bind fun r29 => Option.bind (if decide (a0.Most ≤ r29) then (AG (⟨a0.Most, p25, a0.R⟩ : Aa) (r17.1 == 3)).bind fun r52 => some (r52.2, r52.1) else some ([], (⟨a0.Most, p25, a0.R⟩ : Aa))) fun p31 => (Av p31.2 1 a1).bind fun r42 => some (r42, p31.1) else (Au a0 0).bind fun r91 => (Au a0 2).bind fun r93 => (AF a0).bind fun r95 => (Au a0 3).bind fun r97 => Option.bind (if decide (a0.Most ≤ (i64 (r91 + r93))) then some (r91 == a0.Most) else some false) fun p99 => if p99 then (Ar a0.R 0).bind fun r105 => (AP a0 0).bind fun r108 => (Av r108 0 a1).bind fun r116 => some (r116, [r105.1]) else if decide (a0.Most ≤ (i64 (r91 + r93))) then (AP a0 2).bind fun r126 => (AF r126).bind fun r134 => if decide (r126.Most ≤ r134) then (AG r126 false).bind fun r138 => (Av r138.1 0 a1).bind fun r147 => some (r147, r138.2) else (Av r126 0 a1).bind fun r155 => some (r155, []) else if decide (a0.Most ≤ (i64 ((i64 (r95 + r93)) + r97))) then Option.bind (if decide ((i64 (2 * a0.Most)) ≤ (i64 ((i64 (r95 + r93)) + r97))) then (AP a0 3).bind fun r206 => some r206 else some a0) fun p165 => (AF p165).bind fun r175 => if decide (p165.Most ≤ r175) then (AG p165 false).bind fun r179 => (Av r179.1 0 a1).bind fun r188 => some (r188, r179.2) else (Av p165 0 a1).bind fun r196 => some (r196, []) else (Av a0 0 a1).bind fun r214 => some (r214, [])
theorem Bo.ok {G R F} (a0 : Aa) (g0_ : Aa.G) (h0 : Aa.ro R a0 g0_) (a1 : Str) (r : Aa × List Str) (hm : Bo a0 a1 = some r) : CO Tryz.prog 71 [.agg (Aa.k a0 g0_).toArray, vS a1] G R (F)
  (Ret fun u R' L' => ∃ (p0 : Aa.G) (p1 : Value), u = .tuple #[.agg (Aa.k r.1 p0).toArray, p1] ∧ (Aa.ro R' r.1 p0) ∧ L' = OwS true 9 1 eS p1 r.2 :: F) := by
 unfold Bo at hm
 refine co_ofN (N := 168) Tryz.func71 z z ?_
 refine csr ?_
 refine r_new (o_bx (Aa.k a0 g0_) z z) fun b0 => ?_
 refine r_new (o_al ze32) fun b1 => ?_
 refine r_as z ?_
 refine nssr ?_
 refine r_mv z (r_u (o_lenS Tryz.underlying9 z) (r_bin z z (bI_gt (a1.length : Int) 64) ?_))
 refine nsq ?_
 refine c_if (b := decide (64 < (a1.length : Int))) z (fun h2 => ?_) fun h2 => ?_
 ·have hm3 := ift hm h2
  clear hm
  refine csr ?_
  refine r_u (o_ldn 1 (Aa.k a0 g0_) ag32 z z z z) ?_
  refine r_u0 (o_stn ag32 z z z (al_c z (al_c z (al_c (RoN.one h0) (al_c z al_n)))) z z z) ?_
  refine r_as z ?_
  refine r_nil (x_seq (c_ret ?_))
  refine ex_st (fun _ h => st_nil (ap := true) (T := 9) (sz := 1) (en := eS) h) ?_
  obtain rfl := si hm3
  exact x_d2 z (rv_n 1 (Aa.k a0 g0_) ag32 z z z z) (rv_t z) (fun _ h => st_pk 3 [0] (by decide) h) (Le.refl _) ⟨_, z, (⟨(⟨(g0_.R.L.1, [])⟩ : Ab.G)⟩ : Aa.G), (.slice none 0 0), z, h0, z⟩
 have hm3 := iff_ hm h2
 clear hm
 refine c_skip (x_seq (c_seq (csr ?_)))
 refine r_u (o_ldn 1 (Aa.k a0 g0_) ag32 z z z z) (r_mv z ?_)
 obtain ⟨r4, hr4, hm5⟩ := bs hm3
 clear hm3
 refine r_u (o_callq ca39 z (AT.ok a0 (⟨(⟨(g0_.R.L.1, [])⟩ : Ab.G)⟩ : Aa.G) h0 a1 r4 hr4)) ?_
 refine nsq ?_
 refine c_if (b := r4) z (fun h6 => ?_) fun h6 => ?_
 ·have hm7 := ift hm5 h6
  clear hm5
  refine csr ?_
  refine r_u (o_ldn 1 (Aa.k a0 g0_) ag32 z z z z) (r_mv z ?_)
  obtain ⟨r8, hr8, hm15⟩ := bs hm7
  clear hm7
  refine r_sw (s_w (o_call ca100 z (Av.ok a0 (⟨(⟨(g0_.R.L.1, [])⟩ : Ab.G)⟩ : Aa.G) h0 1 a1 r8 hr8))) ?_
  rintro _ R13 _ le14 ⟨v9, rfl, hf10, rfl⟩
  refine r_u0 (o_stn ag32 z z z (al_c z (al_c z (al_c (RoN.one hf10) (al_c z al_n)))) z z z) ?_
  refine r_as z ?_
  refine r_nil (x_seq (c_ret ?_))
  refine ex_st (fun _ h => st_nil (ap := true) (T := 9) (sz := 1) (en := eS) h) ?_
  obtain rfl := si hm15
  exact x_d2 z (rv_n 1 (Aa.k r8 v9) ag32 z z z z) (rv_t z) (fun _ h => st_pk 3 [0] (by decide) h) le14 ⟨_, z, (⟨(⟨(v9.R.L.1, [])⟩ : Ab.G)⟩ : Aa.G), (.slice none 0 0), z, hf10, z⟩
 have hm7 := iff_ hm5 h6
 clear hm5
 refine c_skip (x_seq (csr ?_))
 refine r_sw (s_w (o_bsl (en := eS) (sz := 1) (e := 9) (cs := []) (r := []) z (fun _ => by kernel_rfl) z (by decide) z (fun _ => z))) ?_
 rintro v16 R _ _ ⟨rfl, rfl⟩
 refine r_as z ?_
 refine nsr ?_
 refine r_fa fa32_2 z ?_
 refine r_u (o_ldn 2 [g0_.R.L.1, vI a0.R.Places] ag30 z z z z) (r_mv z ?_)
 obtain ⟨r17, hr17, hm18⟩ := bs hm7
 clear hm7
 refine r_u (o_callq ca77 z (AH.ok a0.R (⟨(g0_.R.L.1, [])⟩ : Ab.G) h0 a1 r17 hr17)) (r_mv z ?_)
 refine r_ext z z ?_
 refine r_ext z z (r_as z (r_as z ?_))
 refine nssr ?_
 refine r_mv z ?_
 refine nsq ?_
 refine c_if (b := r17.2) z (fun h19 => ?_) fun h19 => ?_
 ·have hm20 := ift hm18 h19
  clear hm18
  refine c_seq ?_
  obtain ⟨r21, hr21, hm22⟩ := bs hm20
  clear hm20
  obtain ⟨r23, hr23, hm24⟩ := bs hm22
  clear hm22
  refine c_any mixed (effs := []) (V := []) ?_
  refine stage_ext [(0, .agg (Aa.k a0 g0_).toArray), (1, vI r21), (2, .agg (Aa.k a0 g0_).toArray), (3, vI r23), (4, vI r21), (5, vI r23)] z ?_
  refine stage z z z z [0, 1, 0, 7, 15, 31] [0, 1, 2, 3, 4, 5] [] z z z (q_u z z (o_ldn 2 (Aa.k a0 g0_) ag32 z z z z) (q_u z z (o_callq ca74 z (Au.ok a0 (⟨(⟨(g0_.R.L.1, [])⟩ : Ab.G)⟩ : Aa.G) h0 2 r21 hr21)) (q_u z z (o_ldn 2 (Aa.k a0 g0_) ag32 z z z z) (q_u z z (o_callq ca74 z (Au.ok a0 (⟨(⟨(g0_.R.L.1, [])⟩ : Ab.G)⟩ : Aa.G) h0 3 r23 hr23)) (q_u z z (o_as z) (q_u z z (o_as z) qn)))))) en ?_
  intro _
  refine ex_sub (E' := [(1, vS a1), (2, pt b0 0), (4, pt b1 0), (6, v16), (7, vI r17.1), (9, vI r21), (10, vI r23)]) ⟨z, z, z, z, z, z, z, trivial⟩ ?_
  refine x_seq (c_seq (csr ?_))
  refine r_mv z (r_bin z z (bI_eq r17.1 2) ?_)
  refine nsq ?_
  obtain ⟨p25, hp26, hm27⟩ := bs hm24
  refine cd_join (E' := [(1, vS a1), (2, pt b0 0), (4, pt b1 0), (6, v16), (7, vI r17.1)]) (L' := Bk b0 32 [vI a0.Most, vI p25, g0_.R.L.1, vI a0.R.Places] :: Bk b1 32 [vI 0, vI 0, .slice none 0 0, vI 0] :: OwS true 9 1 eS v16 [] :: F) ?_ fun K28 => ?_
  ·refine x_seq (c_seq (c_seq ?_))
   obtain ⟨r29, hr29, hm30⟩ := bs hm27
   clear hm27
   refine c_any mixed (effs := []) (V := []) ?_
   refine stage_ext [(0, .agg [vI a0.Most, vI p25, g0_.R.L.1, vI a0.R.Places].toArray), (1, vI r29), (2, pt b0 0), (3, vI a0.Most), (4, vB (decide (a0.Most ≤ r29)))] z ?_
   refine stage z z z z [0, 1, 0, 4, 15] [0, 1, 2, 3, 4] [] z z z (q_u z z (o_ldn 0 [vI a0.Most, vI p25, g0_.R.L.1, vI a0.R.Places] ag32 z z z z) (q_u z z (o_callq ca35 z (AF.ok (⟨a0.Most, p25, a0.R⟩ : Aa) (⟨(⟨(g0_.R.L.1, [])⟩ : Ab.G)⟩ : Aa.G) h0 r29 hr29)) (q_fa z z fa32_0 z (q_ld z z 0 sc3 z z z (q_u z z (o_bin z z (bI_ge r29 a0.Most)) qn))))) en ?_
   intro _
   refine ex_sub (E' := [(1, vS a1), (2, pt b0 0), (4, pt b1 0), (6, v16), (7, vI r17.1), (78, vB (decide (a0.Most ≤ r29)))]) ⟨z, z, z, z, z, z, trivial⟩ ?_
   refine x_seq ?_
   obtain ⟨p31, hp39, hm40⟩ := bs hm30
   refine cd_cut (fun x ks => ∀ (R32 : PH), ∀ (le33 : Le R R32), ∀ (g34 : Value), ∀ (g36 : Aa.G), ∀ (hf35 : Aa.ro R32 p31.2 g36), EX x .normal ks [(1, vS a1), (2, pt b0 0), (4, pt b1 0), (6, g34)] R32 (Bk b0 32 (Aa.k p31.2 g36) :: Bk b1 32 [vI 0, vI 0, .slice none 0 0, vI 0] :: OwS true 9 1 eS g34 p31.1 :: F)) ?_ fun K41 => ?_
   ·intro R32 le33 g34 g36 hf35
    refine x_seq (csr ?_)
    refine r_u (o_ldn 0 (Aa.k p31.2 g36) ag32 z z z z) (r_mv z ?_)
    obtain ⟨r42, hr42, hm49⟩ := bs hm40
    clear hm40
    refine r_sw (s_w (o_call ca100 z (Av.ok p31.2 (⟨(⟨(g36.R.L.1, [])⟩ : Ab.G)⟩ : Aa.G) hf35 1 a1 r42 hr42))) ?_
    rintro _ R47 _ le48 ⟨v43, rfl, hf44, rfl⟩
    refine r_mv z ?_
    refine rl_st (fun _ h => mv1 h) ?_
    refine r_u0 (o_stn ag32 z z z (al_c z (al_c z (al_c (RoN.one hf44) (al_c z al_n)))) z z z) ?_
    refine r_as z ?_
    refine r_nil (x_seq (c_ret ?_))
    obtain rfl := si hm49
    exact x_d2 z (rv_n 0 (Aa.k r42 v43) ag32 z z z z) (rv_t z) (fun _ h => st_pk 3 [2] (by decide) h) (Le.trans le33 le48) ⟨_, z, (⟨(⟨(v43.R.L.1, [])⟩ : Ab.G)⟩ : Aa.G), g34, z, hf44, z⟩
   refine c_if (b := decide (a0.Most ≤ r29)) z (fun h50 => ?_) fun h50 => ?_
   rotate_left
   ·have hm51 := iff_ hp39 h50
    clear hp39
    refine c_skip ?_
    obtain rfl := si hm51
    exact x_sub (K41 _ (Le.refl _) v16 (⟨(⟨(g0_.R.L.1, [])⟩ : Ab.G)⟩ : Aa.G) h0) ⟨z, z, z, z, trivial⟩ (fun _ h => st_pk 3 [0, 1, 2] (by decide) h)
   have hm51 := ift hp39 h50
   clear hp39
   refine c_reg ?_
   refine r_u (o_ldn 0 [vI a0.Most, vI p25, g0_.R.L.1, vI a0.R.Places] ag32 z z z z) (r_mv z (r_bin z z (bI_eq r17.1 3) ?_))
   obtain ⟨r52, hr52, hm60⟩ := bs hm51
   clear hm51
   refine r_sw (s_w (o_call ca106 z (AG.ok (⟨a0.Most, p25, a0.R⟩ : Aa) (⟨(⟨(g0_.R.L.1, [])⟩ : Ab.G)⟩ : Aa.G) h0 (r17.1 == 3) r52 hr52))) ?_
   rintro _ R58 _ le59 ⟨v53, v57, rfl, hf54, rfl⟩
   refine r_mv z ?_
   refine r_ext z z ?_
   refine r_ext z z ?_
   refine rl_st (fun _ h => mv1 h) ?_
   refine r_u0 (o_stn ag32 z z z (al_c z (al_c z (al_c (RoN.one hf54) (al_c z al_n)))) z z z) ?_
   refine r_as z ?_
   refine r_nil ?_
   obtain rfl := si hm60
   exact x_sub (K41 _ le59 v57 (⟨(⟨(v53.R.L.1, [])⟩ : Ab.G)⟩ : Aa.G) hf54) ⟨z, z, z, z, trivial⟩ (fun _ h => st_pk 4 [0, 2, 1] (by decide) h)
  refine c_if (b := (r17.1 == 2)) z (fun h61 => ?_) fun h61 => ?_
  ·have hm62 := ift hp26 h61
   clear hp26
   refine csr ?_
   refine r_mv z (r_mv z ?_)
   obtain ⟨h63, hm64⟩ := ig hm62
   clear hm62
   refine r_bin z z (bI_quo r23 r21 h63) (r_as z ?_)
   refine nssr ?_
   refine r_mv z (r_bin z z (bI_lt (i64 (r23.tdiv r21)) 1) ?_)
   refine nsq ?_
   obtain ⟨p65, hp66, hm67⟩ := bs hm64
   refine cd_join (E' := [(1, vS a1), (2, pt b0 0), (4, pt b1 0), (6, v16), (7, vI r17.1), (11, vI p65)]) (L' := Bk b1 32 [vI 0, vI 0, .slice none 0 0, vI 0] :: Bk b0 32 (Aa.k a0 g0_) :: OwS true 9 1 eS v16 [] :: F) ?_ fun K68 => ?_
   rotate_left
   ·refine c_if (b := decide ((i64 (r23.tdiv r21)) < 1)) z (fun h75 => ?_) fun h75 => ?_
    ·have hm76 := ift hp66 h75
     clear hp66
     refine c_reg ?_
     refine r_as z ?_
     refine r_nil ?_
     obtain rfl := si hm76
     exact x_sub K68 ⟨z, z, z, z, z, z, trivial⟩ (fun _ h => st_pk 3 [1, 2, 0] (by decide) h)
    have hm76 := iff_ hp66 h75
    clear hp66
    refine c_skip ?_
    obtain rfl := si hm76
    exact x_sub K68 ⟨z, z, z, z, z, z, trivial⟩ (fun _ h => st_pk 3 [1, 2, 0] (by decide) h)
   refine x_seq (csr ?_)
   refine r_fa fa32_1 z (r_ld 1 sc3 z z z (r_mv z (r_bin z z (bI_add a0.Target p65) (r_fa fa32_1 z ?_))))
   refine rl_st (fun _ h => mv1 h) ?_
   refine r_u0 (o_st sc3 z z z z z z) ?_
   refine nsr ?_
   refine r_fa fa32_1 z (r_ld 0 sc3 z z z (r_fa fa32_0 z (r_ld 0 sc3 z z z (r_bin z z (bI_gt (i64 (a0.Target + p65)) a0.Most) ?_))))
   refine nsq ?_
   obtain ⟨p69, hp70, hm71⟩ := bs hm67
   refine cd_join (E' := [(1, vS a1), (2, pt b0 0), (4, pt b1 0), (6, v16), (7, vI r17.1)]) (L' := Bk b0 32 [vI a0.Most, vI p69, g0_.R.L.1, vI a0.R.Places] :: Bk b1 32 [vI 0, vI 0, .slice none 0 0, vI 0] :: OwS true 9 1 eS v16 [] :: F) ?_ fun K72 => ?_
   ·obtain rfl := si hm71
    exact x_sub K28 ⟨z, z, z, z, z, trivial⟩ (fun _ h => st_pk 3 [0, 1, 2] (by decide) h)
   refine c_if (b := decide (a0.Most < (i64 (a0.Target + p65)))) z (fun h73 => ?_) fun h73 => ?_
   ·have hm74 := ift hp70 h73
    clear hp70
    refine c_reg ?_
    refine r_fa fa32_0 z (r_ld 0 sc3 z z z (r_fa fa32_1 z ?_))
    refine r_u0 (o_st sc3 z z z z z z) ?_
    refine r_nil ?_
    obtain rfl := si hm74
    exact x_sub K72 ⟨z, z, z, z, z, trivial⟩ (fun _ h => st_pk 3 [0, 1, 2] (by decide) h)
   have hm74 := iff_ hp70 h73
   clear hp70
   refine c_skip ?_
   obtain rfl := si hm74
   exact x_sub K72 ⟨z, z, z, z, z, trivial⟩ (fun _ h => st_pk 3 [0, 1, 2] (by decide) h)
  have hm62 := iff_ hp26 h61
  clear hp26
  refine csr ?_
  refine r_mv z (r_mv z ?_)
  obtain ⟨h77, hm78⟩ := ig hm62
  clear hm62
  refine r_bin z z (bI_quo r21 r23 h77) (r_as z ?_)
  refine nssr ?_
  refine r_mv z (r_bin z z (bI_lt (i64 (r21.tdiv r23)) 1) ?_)
  refine nsq ?_
  obtain ⟨p79, hp80, hm81⟩ := bs hm78
  refine cd_join (E' := [(1, vS a1), (2, pt b0 0), (4, pt b1 0), (6, v16), (7, vI r17.1), (12, vI p79)]) (L' := Bk b1 32 [vI 0, vI 0, .slice none 0 0, vI 0] :: Bk b0 32 (Aa.k a0 g0_) :: OwS true 9 1 eS v16 [] :: F) ?_ fun K82 => ?_
  rotate_left
  ·refine c_if (b := decide ((i64 (r21.tdiv r23)) < 1)) z (fun h89 => ?_) fun h89 => ?_
   ·have hm90 := ift hp80 h89
    clear hp80
    refine c_reg ?_
    refine r_as z ?_
    refine r_nil ?_
    obtain rfl := si hm90
    exact x_sub K82 ⟨z, z, z, z, z, z, trivial⟩ (fun _ h => st_pk 3 [1, 2, 0] (by decide) h)
   have hm90 := iff_ hp80 h89
   clear hp80
   refine c_skip ?_
   obtain rfl := si hm90
   exact x_sub K82 ⟨z, z, z, z, z, z, trivial⟩ (fun _ h => st_pk 3 [1, 2, 0] (by decide) h)
  refine x_seq (csr ?_)
  refine r_fa fa32_1 z (r_ld 1 sc3 z z z (r_mv z (r_bin z z (bI_sub a0.Target p79) (r_fa fa32_1 z ?_))))
  refine rl_st (fun _ h => mv1 h) ?_
  refine r_u0 (o_st sc3 z z z z z z) ?_
  refine nsr ?_
  refine r_fa fa32_1 z (r_ld 0 sc3 z z z (r_bin z z (bI_lt (i64 (a0.Target - p79)) 0) ?_))
  refine nsq ?_
  obtain ⟨p83, hp84, hm85⟩ := bs hm81
  refine cd_join (E' := [(1, vS a1), (2, pt b0 0), (4, pt b1 0), (6, v16), (7, vI r17.1)]) (L' := Bk b0 32 [vI a0.Most, vI p83, g0_.R.L.1, vI a0.R.Places] :: Bk b1 32 [vI 0, vI 0, .slice none 0 0, vI 0] :: OwS true 9 1 eS v16 [] :: F) ?_ fun K86 => ?_
  ·obtain rfl := si hm85
   exact x_sub K28 ⟨z, z, z, z, z, trivial⟩ (fun _ h => st_pk 3 [0, 1, 2] (by decide) h)
  refine c_if (b := decide ((i64 (a0.Target - p79)) < 0)) z (fun h87 => ?_) fun h87 => ?_
  ·have hm88 := ift hp84 h87
   clear hp84
   refine c_reg ?_
   refine r_fa fa32_1 z ?_
   refine r_u0 (o_st sc3 z z z z z z) ?_
   refine r_nil ?_
   obtain rfl := si hm88
   exact x_sub K86 ⟨z, z, z, z, z, trivial⟩ (fun _ h => st_pk 3 [0, 1, 2] (by decide) h)
  have hm88 := iff_ hp84 h87
  clear hp84
  refine c_skip ?_
  obtain rfl := si hm88
  exact x_sub K86 ⟨z, z, z, z, z, trivial⟩ (fun _ h => st_pk 3 [0, 1, 2] (by decide) h)
 have hm20 := iff_ hm18 h19
 clear hm18
 refine c_skip (x_seq (c_seq ?_))
 obtain ⟨r91, hr91, hm92⟩ := bs hm20
 clear hm20
 obtain ⟨r93, hr93, hm94⟩ := bs hm92
 clear hm92
 obtain ⟨r95, hr95, hm96⟩ := bs hm94
 clear hm94
 obtain ⟨r97, hr97, hm98⟩ := bs hm96
 clear hm96
 refine c_any mixed (effs := []) (V := []) ?_
 refine stage_ext [(0, .agg (Aa.k a0 g0_).toArray), (1, vI r91), (2, .agg (Aa.k a0 g0_).toArray), (3, vI r93), (4, vI (i64 (r91 + r93))), (5, .agg (Aa.k a0 g0_).toArray), (6, vI r95), (7, .agg (Aa.k a0 g0_).toArray), (8, vI r93), (9, vI (i64 (r95 + r93))), (10, .agg (Aa.k a0 g0_).toArray), (11, vI r97), (12, vI (i64 ((i64 (r95 + r93)) + r97))), (13, vI (i64 (r91 + r93))), (14, vI (i64 ((i64 (r95 + r93)) + r97)))] z ?_
 refine stage z z z z [0, 1, 0, 7, 15, 0, 47, 0, 239, 495, 0, 1519, 4079, 3583, 16383] [0, 1, 2, 3, 4, 5, 6, 7, 8, 9, 10, 11, 12, 13, 14] [] z z z (q_u z z (o_ldn 2 (Aa.k a0 g0_) ag32 z z z z) (q_u z z (o_callq ca74 z (Au.ok a0 (⟨(⟨(g0_.R.L.1, [])⟩ : Ab.G)⟩ : Aa.G) h0 0 r91 hr91)) (q_u z z (o_ldn 2 (Aa.k a0 g0_) ag32 z z z z) (q_u z z (o_callq ca74 z (Au.ok a0 (⟨(⟨(g0_.R.L.1, [])⟩ : Ab.G)⟩ : Aa.G) h0 2 r93 hr93)) (q_u z z (o_bin z z (bI_add r91 r93)) (q_u z z (o_ldn 2 (Aa.k a0 g0_) ag32 z z z z) (q_u z z (o_callq ca35 z (AF.ok a0 (⟨(⟨(g0_.R.L.1, [])⟩ : Ab.G)⟩ : Aa.G) h0 r95 hr95)) (q_u z z (o_ldn 2 (Aa.k a0 g0_) ag32 z z z z) (q_u z z (o_callq ca74 z (Au.ok a0 (⟨(⟨(g0_.R.L.1, [])⟩ : Ab.G)⟩ : Aa.G) h0 2 r93 hr93)) (q_u z z (o_bin z z (bI_add r95 r93)) (q_u z z (o_ldn 2 (Aa.k a0 g0_) ag32 z z z z) (q_u z z (o_callq ca74 z (Au.ok a0 (⟨(⟨(g0_.R.L.1, [])⟩ : Ab.G)⟩ : Aa.G) h0 3 r97 hr97)) (q_u z z (o_bin z z (bI_add (i64 (r95 + r93)) r97)) (q_u z z (o_as z) (q_u z z (o_as z) qn))))))))))))))) en ?_
 intro _
 refine ex_sub (E' := [(1, vS a1), (2, pt b0 0), (4, pt b1 0), (6, v16), (13, vI (i64 (r91 + r93))), (14, vI (i64 ((i64 (r95 + r93)) + r97)))]) ⟨z, z, z, z, z, z, trivial⟩ ?_
 refine x_seq (c_seq (c_blk (c_seq ?_)))
 obtain ⟨p99, hp100, hm101⟩ := bs hm98
 refine cd_join (E' := [(1, vS a1), (2, pt b0 0), (4, pt b1 0), (6, v16), (13, vI (i64 (r91 + r93))), (14, vI (i64 ((i64 (r95 + r93)) + r97))), (103, vB p99)]) (L' := Bk b1 32 [vI 0, vI 0, .slice none 0 0, vI 0] :: Bk b0 32 (Aa.k a0 g0_) :: OwS true 9 1 eS v16 [] :: F) ?_ fun K102 => ?_
 rotate_left
 ·refine cd_by (decide (a0.Most ≤ (i64 (r91 + r93)))) (fun h222 => ?_) fun h222 => ?_
  ·have hm223 := ift hp100 h222
   clear hp100
   refine c_any mixed (effs := []) (V := []) ?_
   refine stage_ext [(0, vI (i64 (r91 + r93))), (1, pt b0 0), (2, vI a0.Most), (3, vB (decide (a0.Most ≤ (i64 (r91 + r93))))), (4, vB (decide (a0.Most ≤ (i64 (r91 + r93))))), (5, .agg (Aa.k a0 g0_).toArray), (6, vI r91), (7, pt b0 0), (8, vI a0.Most), (9, vB (r91 == a0.Most)), (10, vB (r91 == a0.Most)), (11, vB (r91 == a0.Most))] z ?_
   refine stage z z z z mk15_ [0, 1, 2, 3, 4, 5, 6, 7, 8, 9, 10, 11] [] z z z (q_mv z z z (q_fa z z fa32_0 z (q_ld z z 2 sc3 z z z (q_u z z (o_bin z z (bI_ge (i64 (r91 + r93)) a0.Most)) (q_mv z z z (q_y z z z z h222 (o_ldn 2 (Aa.k a0 g0_) ag32 z z z z) (q_y z z z z h222 (o_callq ca74 z (Au.ok a0 (⟨(⟨(g0_.R.L.1, [])⟩ : Ab.G)⟩ : Aa.G) h0 0 r91 hr91)) (q_y z z z z h222 (o_fa fa32_0 z) (q_y z z z z h222 (o_ld 2 sc3 z z z) (q_y z z z z h222 (o_bin z z (bI_eq r91 a0.Most)) (q_u z z (o_pt z h222 z) (q_u z z (o_as z) qn)))))))))))) en ?_
   intro _
   refine ex_sub (E' := [(1, vS a1), (2, pt b0 0), (4, pt b1 0), (6, v16), (13, vI (i64 (r91 + r93))), (14, vI (i64 ((i64 (r95 + r93)) + r97))), (103, vB (r91 == a0.Most))]) ⟨z, z, z, z, z, z, z, trivial⟩ ?_
   obtain rfl := si hm223
   exact x_sub K102 ⟨z, z, z, z, z, z, z, trivial⟩ (fun _ h => st_pk 3 [1, 2, 0] (by decide) h)
  have hm223 := iff_ hp100 h222
  clear hp100
  refine c_any mixed (effs := []) (V := []) ?_
  refine stage_ext [(0, vI (i64 (r91 + r93))), (1, pt b0 0), (2, vI a0.Most), (3, vB (decide (a0.Most ≤ (i64 (r91 + r93))))), (4, vB (decide (a0.Most ≤ (i64 (r91 + r93))))), (5, undef), (6, undef), (7, undef), (8, undef), (9, undef), (10, vB false), (11, vB false)] z ?_
  refine stage z z z z mk15_ [0, 1, 2, 3, 4, 5, 6, 7, 8, 9, 10, 11] [] z z z (q_mv z z z (q_fa z z fa32_0 z (q_ld z z 2 sc3 z z z (q_u z z (o_bin z z (bI_ge (i64 (r91 + r93)) a0.Most)) (q_mv z z z (q_n z z z z h222 (q_n z z z z h222 (q_n z z z z h222 (q_n z z z z h222 (q_n z z z z h222 (q_u z z (o_pf z h222 z) (q_u z z (o_as z) qn)))))))))))) en ?_
  intro _
  refine ex_sub (E' := [(1, vS a1), (2, pt b0 0), (4, pt b1 0), (6, v16), (13, vI (i64 (r91 + r93))), (14, vI (i64 ((i64 (r95 + r93)) + r97))), (103, vB false)]) ⟨z, z, z, z, z, z, z, trivial⟩ ?_
  obtain rfl := si hm223
  exact x_sub K102 ⟨z, z, z, z, z, z, z, trivial⟩ (fun _ h => st_pk 3 [1, 2, 0] (by decide) h)
 refine x_seq ?_
 refine c_if (b := p99) z (fun h103 => ?_) fun h103 => ?_
 ·have hm104 := ift hm101 h103
  clear hm101
  refine csr ?_
  refine r_fa fa32_2 z ?_
  refine r_u (o_ldn 1 [g0_.R.L.1, vI a0.R.Places] ag30 z z z z) ?_
  obtain ⟨r105, hr105, hm106⟩ := bs hm104
  clear hm104
  refine r_u (o_callq ca104 z (Ar.ok a0.R (⟨(g0_.R.L.1, [])⟩ : Ab.G) h0 0 r105 hr105)) (r_mv z ?_)
  refine r_ext z z ?_
  refine r_ext z z (r_as z (r_as z ?_))
  refine nsr ?_
  refine r_mv z ?_
  refine r_sw (s_w (o_bsl (en := eS) (sz := 1) (e := 9) (cs := [vS r105.1]) (r := [r105.1]) z (fun _ => by kernel_rfl) z (by decide) z (fun _ => z))) ?_
  rintro v107 R _ _ ⟨rfl, rfl⟩
  refine r_as z ?_
  refine r_nil (x_seq (c_reg ?_))
  refine r_u (o_ldn 2 (Aa.k a0 g0_) ag32 z z z z) ?_
  obtain ⟨r108, hr108, hm115⟩ := bs hm106
  clear hm106
  refine r_sw (s_w (o_call ca107 z (AP.ok a0 (⟨(⟨(g0_.R.L.1, [])⟩ : Ab.G)⟩ : Aa.G) h0 0 r108 hr108))) ?_
  rintro _ R113 _ le114 ⟨v109, rfl, hf110, rfl⟩
  refine rl_st (fun _ h => mv2 h) ?_
  refine r_u0 (o_stn ag32 z z z (al_c z (al_c z (al_c (RoN.one hf110) (al_c z al_n)))) z z z) ?_
  refine r_nil (x_blk (x_seq (csr ?_)))
  refine r_u (o_ldn 0 (Aa.k r108 v109) ag32 z z z z) (r_mv z ?_)
  obtain ⟨r116, hr116, hm123⟩ := bs hm115
  clear hm115
  refine r_sw (s_w (o_call ca100 z (Av.ok r108 (⟨(⟨(v109.R.L.1, [])⟩ : Ab.G)⟩ : Aa.G) hf110 0 a1 r116 hr116))) ?_
  rintro _ R121 _ le122 ⟨v117, rfl, hf118, rfl⟩
  refine r_mv z ?_
  refine rl_st (fun _ h => mv2 h) ?_
  refine r_u0 (o_stn ag32 z z z (al_c z (al_c z (al_c (RoN.one hf118) (al_c z al_n)))) z z z) ?_
  refine r_as z ?_
  refine r_nil (x_seq (c_ret ?_))
  obtain rfl := si hm123
  exact x_d2 z (rv_n 0 (Aa.k r116 v117) ag32 z z z z) (rv_t z) (fun _ h => st_pk 4 [2] (by decide) h) (Le.trans le114 le122) ⟨_, z, (⟨(⟨(v117.R.L.1, [])⟩ : Ab.G)⟩ : Aa.G), v107, z, hf118, z⟩
 have hm104 := iff_ hm101 h103
 clear hm101
 refine csr ?_
 refine r_mv z (r_fa fa32_0 z (r_ld 1 sc3 z z z (r_bin z z (bI_ge (i64 (r91 + r93)) a0.Most) (r_as z ?_))))
 refine nsq ?_
 refine c_if (b := decide (a0.Most ≤ (i64 (r91 + r93)))) z (fun h124 => ?_) fun h124 => ?_
 ·have hm125 := ift hm104 h124
  clear hm104
  refine csr ?_
  refine r_u (o_ldn 1 (Aa.k a0 g0_) ag32 z z z z) ?_
  obtain ⟨r126, hr126, hm133⟩ := bs hm125
  clear hm125
  refine r_sw (s_w (o_call ca107 z (AP.ok a0 (⟨(⟨(g0_.R.L.1, [])⟩ : Ab.G)⟩ : Aa.G) h0 2 r126 hr126))) ?_
  rintro _ R131 _ le132 ⟨v127, rfl, hf128, rfl⟩
  refine rl_st (fun _ h => mv1 h) ?_
  refine r_u0 (o_stn ag32 z z z (al_c z (al_c z (al_c (RoN.one hf128) (al_c z al_n)))) z z z) ?_
  refine r_nil (x_seq (c_seq ?_))
  obtain ⟨r134, hr134, hm135⟩ := bs hm133
  clear hm133
  refine c_any mixed (effs := []) (V := []) ?_
  refine stage_ext [(0, .agg (Aa.k r126 v127).toArray), (1, vI r134), (2, pt b0 0), (3, vI r126.Most), (4, vB (decide (r126.Most ≤ r134)))] z ?_
  refine stage z z z z [0, 1, 0, 4, 15] [0, 1, 2, 3, 4] [] z z z (q_u z z (o_ldn 0 (Aa.k r126 v127) ag32 z z z z) (q_u z z (o_callq ca35 z (AF.ok r126 (⟨(⟨(v127.R.L.1, [])⟩ : Ab.G)⟩ : Aa.G) hf128 r134 hr134)) (q_fa z z fa32_0 z (q_ld z z 0 sc3 z z z (q_u z z (o_bin z z (bI_ge r134 r126.Most)) qn))))) en ?_
  intro _
  refine ex_sub (E' := [(1, vS a1), (2, pt b0 0), (4, pt b1 0), (6, v16), (136, vB (decide (r126.Most ≤ r134)))]) ⟨z, z, z, z, z, trivial⟩ ?_
  refine x_seq ?_
  refine c_if (b := decide (r126.Most ≤ r134)) z (fun h136 => ?_) fun h136 => ?_
  rotate_left
  ·have hm137 := iff_ hm135 h136
   clear hm135
   refine c_skip (x_blk (x_seq (csr ?_)))
   refine r_u (o_ldn 0 (Aa.k r126 v127) ag32 z z z z) (r_mv z ?_)
   obtain ⟨r155, hr155, hm162⟩ := bs hm137
   clear hm137
   refine r_sw (s_w (o_call ca100 z (Av.ok r126 (⟨(⟨(v127.R.L.1, [])⟩ : Ab.G)⟩ : Aa.G) hf128 0 a1 r155 hr155))) ?_
   rintro _ R160 _ le161 ⟨v156, rfl, hf157, rfl⟩
   refine r_mv z ?_
   refine rl_st (fun _ h => mv1 h) ?_
   refine r_u0 (o_stn ag32 z z z (al_c z (al_c z (al_c (RoN.one hf157) (al_c z al_n)))) z z z) ?_
   refine r_as z ?_
   refine r_nil (x_seq (c_ret ?_))
   obtain rfl := si hm162
   exact x_d2 z (rv_n 0 (Aa.k r155 v156) ag32 z z z z) (rv_t z) (fun _ h => st_pk 3 [2] (by decide) h) (Le.trans le132 le161) ⟨_, z, (⟨(⟨(v156.R.L.1, [])⟩ : Ab.G)⟩ : Aa.G), v16, z, hf157, z⟩
  have hm137 := ift hm135 h136
  clear hm135
  refine c_reg ?_
  refine r_u (o_ldn 0 (Aa.k r126 v127) ag32 z z z z) ?_
  obtain ⟨r138, hr138, hm146⟩ := bs hm137
  clear hm137
  refine r_sw (s_w (o_call ca106 z (AG.ok r126 (⟨(⟨(v127.R.L.1, [])⟩ : Ab.G)⟩ : Aa.G) hf128 false r138 hr138))) ?_
  rintro _ R144 _ le145 ⟨v139, v143, rfl, hf140, rfl⟩
  refine r_mv z ?_
  refine r_ext z z ?_
  refine r_ext z z ?_
  refine rl_st (fun _ h => mv1 h) ?_
  refine r_u0 (o_stn ag32 z z z (al_c z (al_c z (al_c (RoN.one hf140) (al_c z al_n)))) z z z) ?_
  refine r_as z ?_
  refine r_nil (x_blk (x_seq (csr ?_)))
  refine r_u (o_ldn 0 (Aa.k r138.1 v139) ag32 z z z z) (r_mv z ?_)
  obtain ⟨r147, hr147, hm154⟩ := bs hm146
  clear hm146
  refine r_sw (s_w (o_call ca100 z (Av.ok r138.1 (⟨(⟨(v139.R.L.1, [])⟩ : Ab.G)⟩ : Aa.G) hf140 0 a1 r147 hr147))) ?_
  rintro _ R152 _ le153 ⟨v148, rfl, hf149, rfl⟩
  refine r_mv z ?_
  refine rl_st (fun _ h => mv2 h) ?_
  refine r_u0 (o_stn ag32 z z z (al_c z (al_c z (al_c (RoN.one hf149) (al_c z al_n)))) z z z) ?_
  refine r_as z ?_
  refine r_nil (x_seq (c_ret ?_))
  obtain rfl := si hm154
  exact x_d2 z (rv_n 0 (Aa.k r147 v148) ag32 z z z z) (rv_t z) (fun _ h => st_pk 4 [2] (by decide) h) (Le.trans (Le.trans le132 le145) le153) ⟨_, z, (⟨(⟨(v148.R.L.1, [])⟩ : Ab.G)⟩ : Aa.G), v143, z, hf149, z⟩
 have hm125 := iff_ hm104 h124
 clear hm104
 refine csr ?_
 refine r_mv z (r_fa fa32_0 z (r_ld 1 sc3 z z z (r_u (o_bin z z (bI_ge (i64 ((i64 (r95 + r93)) + r97)) a0.Most)) (r_as z ?_))))
 refine nsq ?_
 refine c_if (b := decide (a0.Most ≤ (i64 ((i64 (r95 + r93)) + r97)))) z (fun h163 => ?_) fun h163 => ?_
 rotate_left
 ·have hm164 := iff_ hm125 h163
  clear hm125
  refine c_skip (x_blk (x_seq (csr ?_)))
  refine r_u (o_ldn 1 (Aa.k a0 g0_) ag32 z z z z) (r_mv z ?_)
  obtain ⟨r214, hr214, hm221⟩ := bs hm164
  clear hm164
  refine r_sw (s_w (o_call ca100 z (Av.ok a0 (⟨(⟨(g0_.R.L.1, [])⟩ : Ab.G)⟩ : Aa.G) h0 0 a1 r214 hr214))) ?_
  rintro _ R219 _ le220 ⟨v215, rfl, hf216, rfl⟩
  refine r_mv z ?_
  refine r_u0 (o_stn ag32 z z z (al_c z (al_c z (al_c (RoN.one hf216) (al_c z al_n)))) z z z) ?_
  refine r_as z ?_
  refine r_nil (x_seq (c_ret ?_))
  obtain rfl := si hm221
  exact x_d2 z (rv_n 0 (Aa.k r214 v215) ag32 z z z z) (rv_t z) (fun _ h => st_pk 3 [2] (by decide) h) le220 ⟨_, z, (⟨(⟨(v215.R.L.1, [])⟩ : Ab.G)⟩ : Aa.G), v16, z, hf216, z⟩
 have hm164 := ift hm125 h163
 clear hm125
 refine c_seq (csr ?_)
 refine r_mv z (r_fa fa32_0 z (r_ld 1 sc3 z z z (r_bin z z (bI_mul 2 a0.Most) (r_u (o_bin z z (bI_ge (i64 ((i64 (r95 + r93)) + r97)) (i64 (2 * a0.Most)))) ?_))))
 refine nsq ?_
 obtain ⟨p165, hp172, hm173⟩ := bs hm164
 refine cd_cut (fun x ks => ∀ (R166 : PH), ∀ (le167 : Le R R166), ∀ (g169 : Aa.G), ∀ (hf168 : Aa.ro R166 p165 g169), EX x .normal ks [(1, vS a1), (2, pt b0 0), (4, pt b1 0), (6, v16)] R166 (Bk b0 32 (Aa.k p165 g169) :: Bk b1 32 [vI 0, vI 0, .slice none 0 0, vI 0] :: OwS true 9 1 eS v16 [] :: F)) ?_ fun K174 => ?_
 rotate_left
 ·refine c_if (b := decide ((i64 (2 * a0.Most)) ≤ (i64 ((i64 (r95 + r93)) + r97)))) z (fun h204 => ?_) fun h204 => ?_
  ·have hm205 := ift hp172 h204
   clear hp172
   refine c_reg ?_
   refine r_u (o_ldn 1 (Aa.k a0 g0_) ag32 z z z z) ?_
   obtain ⟨r206, hr206, hm213⟩ := bs hm205
   clear hm205
   refine r_sw (s_w (o_call ca107 z (AP.ok a0 (⟨(⟨(g0_.R.L.1, [])⟩ : Ab.G)⟩ : Aa.G) h0 3 r206 hr206))) ?_
   rintro _ R211 _ le212 ⟨v207, rfl, hf208, rfl⟩
   refine rl_st (fun _ h => mv1 h) ?_
   refine r_u0 (o_stn ag32 z z z (al_c z (al_c z (al_c (RoN.one hf208) (al_c z al_n)))) z z z) ?_
   refine r_nil ?_
   obtain rfl := si hm213
   exact x_sub (K174 _ le212 (⟨(⟨(v207.R.L.1, [])⟩ : Ab.G)⟩ : Aa.G) hf208) ⟨z, z, z, z, trivial⟩ (fun _ h => st_pk 3 [0, 1, 2] (by decide) h)
  have hm205 := iff_ hp172 h204
  clear hp172
  refine c_skip ?_
  obtain rfl := si hm205
  exact x_sub (K174 _ (Le.refl _) (⟨(⟨(g0_.R.L.1, [])⟩ : Ab.G)⟩ : Aa.G) h0) ⟨z, z, z, z, trivial⟩ (fun _ h => st_pk 3 [1, 0, 2] (by decide) h)
 intro R166 le167 g169 hf168
 refine x_seq (c_seq ?_)
 obtain ⟨r175, hr175, hm176⟩ := bs hm173
 clear hm173
 refine c_any mixed (effs := []) (V := []) ?_
 refine stage_ext [(0, .agg (Aa.k p165 g169).toArray), (1, vI r175), (2, pt b0 0), (3, vI p165.Most), (4, vB (decide (p165.Most ≤ r175)))] z ?_
 refine stage z z z z [0, 1, 0, 4, 15] [0, 1, 2, 3, 4] [] z z z (q_u z z (o_ldn 0 (Aa.k p165 g169) ag32 z z z z) (q_u z z (o_callq ca35 z (AF.ok p165 (⟨(⟨(g169.R.L.1, [])⟩ : Ab.G)⟩ : Aa.G) hf168 r175 hr175)) (q_fa z z fa32_0 z (q_ld z z 0 sc3 z z z (q_u z z (o_bin z z (bI_ge r175 p165.Most)) qn))))) en ?_
 intro _
 refine ex_sub (E' := [(1, vS a1), (2, pt b0 0), (4, pt b1 0), (6, v16), (158, vB (decide (p165.Most ≤ r175)))]) ⟨z, z, z, z, z, trivial⟩ ?_
 refine x_seq ?_
 refine c_if (b := decide (p165.Most ≤ r175)) z (fun h177 => ?_) fun h177 => ?_
 rotate_left
 ·have hm178 := iff_ hm176 h177
  clear hm176
  refine c_skip (x_blk (x_seq (csr ?_)))
  refine r_u (o_ldn 0 (Aa.k p165 g169) ag32 z z z z) (r_mv z ?_)
  obtain ⟨r196, hr196, hm203⟩ := bs hm178
  clear hm178
  refine r_sw (s_w (o_call ca100 z (Av.ok p165 (⟨(⟨(g169.R.L.1, [])⟩ : Ab.G)⟩ : Aa.G) hf168 0 a1 r196 hr196))) ?_
  rintro _ R201 _ le202 ⟨v197, rfl, hf198, rfl⟩
  refine r_mv z ?_
  refine rl_st (fun _ h => mv1 h) ?_
  refine r_u0 (o_stn ag32 z z z (al_c z (al_c z (al_c (RoN.one hf198) (al_c z al_n)))) z z z) ?_
  refine r_as z ?_
  refine r_nil (x_seq (c_ret ?_))
  obtain rfl := si hm203
  exact x_d2 z (rv_n 0 (Aa.k r196 v197) ag32 z z z z) (rv_t z) (fun _ h => st_pk 3 [2] (by decide) h) (Le.trans le167 le202) ⟨_, z, (⟨(⟨(v197.R.L.1, [])⟩ : Ab.G)⟩ : Aa.G), v16, z, hf198, z⟩
 have hm178 := ift hm176 h177
 clear hm176
 refine c_reg ?_
 refine r_u (o_ldn 0 (Aa.k p165 g169) ag32 z z z z) ?_
 obtain ⟨r179, hr179, hm187⟩ := bs hm178
 clear hm178
 refine r_sw (s_w (o_call ca106 z (AG.ok p165 (⟨(⟨(g169.R.L.1, [])⟩ : Ab.G)⟩ : Aa.G) hf168 false r179 hr179))) ?_
 rintro _ R185 _ le186 ⟨v180, v184, rfl, hf181, rfl⟩
 refine r_mv z ?_
 refine r_ext z z ?_
 refine r_ext z z ?_
 refine rl_st (fun _ h => mv1 h) ?_
 refine r_u0 (o_stn ag32 z z z (al_c z (al_c z (al_c (RoN.one hf181) (al_c z al_n)))) z z z) ?_
 refine r_as z ?_
 refine r_nil (x_blk (x_seq (csr ?_)))
 refine r_u (o_ldn 0 (Aa.k r179.1 v180) ag32 z z z z) (r_mv z ?_)
 obtain ⟨r188, hr188, hm195⟩ := bs hm187
 clear hm187
 refine r_sw (s_w (o_call ca100 z (Av.ok r179.1 (⟨(⟨(v180.R.L.1, [])⟩ : Ab.G)⟩ : Aa.G) hf181 0 a1 r188 hr188))) ?_
 rintro _ R193 _ le194 ⟨v189, rfl, hf190, rfl⟩
 refine r_mv z ?_
 refine rl_st (fun _ h => mv2 h) ?_
 refine r_u0 (o_stn ag32 z z z (al_c z (al_c z (al_c (RoN.one hf190) (al_c z al_n)))) z z z) ?_
 refine r_as z ?_
 refine r_nil (x_seq (c_ret ?_))
 obtain rfl := si hm195
 exact x_d2 z (rv_n 0 (Aa.k r188 v189) ag32 z z z z) (rv_t z) (fun _ h => st_pk 4 [2] (by decide) h) (Le.trans (Le.trans le167 le186) le194) ⟨_, z, (⟨(⟨(v189.R.L.1, [])⟩ : Ab.G)⟩ : Aa.G), v184, z, hf190, z⟩
def BB (a0 : Ae) : Option Int :=
 (Bn a0.R).bind fun r1 => some r1
theorem BB.ok {G R F} (a0 : Ae) (g0_ : Ae.G) (h0 : Ae.ro R a0 g0_) (r : Int) (hm : BB a0 = some r) : CO Tryz.prog 36 [.agg (Ae.k a0 g0_).toArray] G R (F)
  (Ret fun u R' L' => u = vI r ∧ R' = R ∧ L' = F) := by
 unfold BB at hm
 refine co_ofN (N := 6) Tryz.func36 z z ?_
 refine csr ?_
 refine r_new (o_bx (Ae.k a0 g0_) z z) fun b0 => ?_
 refine r_as z ?_
 refine nsr ?_
 refine r_fa fa38_2 z ?_
 refine r_u (o_ldn 0 [g0_.R.L.1, vI a0.R.Places] ag30 z z z z) ?_
 obtain ⟨r1, hr1, hm2⟩ := bs hm
 clear hm
 refine r_u (o_callq ca75 z (Bn.ok a0.R (⟨(g0_.R.L.1, [])⟩ : Ab.G) h0.2 r1 hr1)) (r_as z ?_)
 refine r_nil (x_seq (c_ret ?_))
 obtain rfl := si hm2
 refine ex_st (fun _ h => st_pk 1 [] (by decide) h) ?_
 exact x_r1 z (rv_t z) (Le.refl _) ⟨_, z, z, z, z⟩
def AU (a0 : Ad) (a1 : Str) : Option Int :=
 (AZ a0 a1).bind fun r1 => (AO a0 a1 4).bind fun r3 => (gi a0.Door r3).bind fun x5 => if x5 then some (i64 (r1 + 1)) else some r1
theorem AU.ok {G R F} (a0 : Ad) (g0_ : Ad.G) (h0 : Ad.ro R a0 g0_) (a1 : Str) (r : Int) (hm : AU a0 a1 = some r) : CO Tryz.prog 108 [.agg (Ad.k a0 g0_).toArray, vS a1] G R (F)
  (Ret fun u R' L' => u = vI r ∧ R' = R ∧ L' = F) := by
 unfold AU at hm
 refine co_ofN (N := 19) Tryz.func108 z z ?_
 refine csr ?_
 refine r_new (o_bx (Ad.k a0 g0_) z z) fun b0 => ?_
 refine r_as z ?_
 refine nsr ?_
 refine r_u (o_ldn 0 (Ad.k a0 g0_) ag36 z z z z) (r_mv z ?_)
 obtain ⟨r1, hr1, hm2⟩ := bs hm
 clear hm
 refine r_u (o_callq ca130 z (AZ.ok a0 (⟨(g0_.Rows.1, []), g0_.Door⟩ : Ad.G) ⟨h0.1, h0.2⟩ a1 r1 hr1)) (r_as z ?_)
 refine r_nil (x_seq (c_seq (c_seq ?_)))
 obtain ⟨r3, hr3, hm4⟩ := bs hm2
 clear hm2
 obtain ⟨x5, hx5, hm6⟩ := bs hm4
 clear hm4
 obtain ⟨b5, o5, l5, T5, fr5, c5, hv5, hR5, he5, hi5⟩ := RoS.ne h0.2 hx5
 refine c_any mixed (effs := []) (V := []) ?_
 refine stage_ext [(0, pt b0 3), (1, g0_.Door), (2, .agg (Ad.k a0 g0_).toArray), (3, vS a1), (4, vI r3), (5, pt b5 (o5 + r3.toNat * 1)), (6, vB x5)] z ?_
 refine stage z z z z [0, 1, 0, 0, 12, 31, 63] [0, 1, 2, 3, 4, 5, 6] [] z z z (q_fa z z fa36_3 z (q_ld z z 0 sc34 z z z (q_u z z (o_ldn 0 (Ad.k a0 g0_) ag36 z z z z) (q_mv z z z (q_u z z (o_callq ca129 z (AO.ok a0 (⟨(g0_.Rows.1, []), g0_.Door⟩ : Ad.G) ⟨h0.1, h0.2⟩ a1 4 r3 hr3)) (q_u z z (o_ix (sz := 1) Tryz.underlying34 (fun _ => by kernel_rfl) z z hv5 hi5) (q_u z z (o_ldR sc4 z hR5 (rok 0 he5 (by decide))) qn))))))) en ?_
 intro _
 refine ex_sub (E' := [(5, vI r1), (15, vB x5)]) ⟨z, z, trivial⟩ ?_
 refine x_seq ?_
 refine c_if (b := x5) z (fun h7 => ?_) fun h7 => ?_
 ·have hm8 := ift hm6 h7
  clear hm6
  refine c_reg ?_
  refine r_mv z (r_bin z z (bI_add r1 1) (r_as z ?_))
  refine nsr ?_
  refine r_mv z (r_as z ?_)
  refine r_nil (x_seq (c_ret ?_))
  obtain rfl := si hm8
  refine ex_st (fun _ h => st_pk 1 [] (by decide) h) ?_
  exact x_r1 z (rv_t z) (Le.refl _) ⟨_, z, z, z, z⟩
 have hm8 := iff_ hm6 h7
 clear hm6
 refine c_skip (x_seq (csr ?_))
 refine r_mv z (r_as z ?_)
 refine r_nil (x_seq (c_ret ?_))
 obtain rfl := si hm8
 refine ex_st (fun _ h => st_pk 1 [] (by decide) h) ?_
 exact x_r1 z (rv_t z) (Le.refl _) ⟨_, z, z, z, z⟩
def A4 (a0 : Ae) (a1 : Str) : Option (Ae × List Str) :=
 if decide (64 < (a1.length : Int)) then some (a0, []) else (A6 a0 a1).bind fun r4 => if r4.2 then some (r4.1, []) else (A2 a0.S a1).bind fun r18 => (AA (⟨a0.Most, r18, a0.R⟩ : Ae) 0 a1).bind fun r33 => lt (BN r33.Most) fun r44 => (gi r33.R.L 0).bind fun x46 => if decide ((x46.length : Int) ≤ r44.1) then some (r33, []) else (Ar r33.R 0).bind fun r51 => (BB r33).bind fun r53 => if decide (r53 ≤ r33.Most) then (AA r33 1 r51.1).bind fun r57 => some (r57, []) else (Ar r33.R 1).bind fun r68 => Option.bind (if !r68.2 then (Ar r33.R 2).bind fun r117 => some (r117.1, r117.2) else some (r68.1, r68.2)) fun p70 => Option.bind (if p70.2 then (AU r33.S r51.1).bind fun r111 => (AU r33.S p70.1).bind fun r113 => some (decide (r113 < r111)) else some false) fun p74 => if p74 then (Az r33.R p70.1).bind fun r80 => (AA (⟨r33.Most, r33.S, r80⟩ : Ae) 1 r51.1).bind fun r88 => some (r88, [p70.1]) else (Az r33.R r51.1).bind fun r100 => some ((⟨r33.Most, r33.S, r100⟩ : Ae), [r51.1])
theorem A4.ok {G R F} (a0 : Ae) (g0_ : Ae.G) (h0 : Ae.ro R a0 g0_) (a1 : Str) (r : Ae × List Str) (hm : A4 a0 a1 = some r) : CO Tryz.prog 72 [.agg (Ae.k a0 g0_).toArray, vS a1] G R (F)
  (Ret fun u R' L' => ∃ (p0 : Ae.G) (p1 : Value), u = .tuple #[.agg (Ae.k r.1 p0).toArray, p1] ∧ (Ae.ro R' r.1 p0) ∧ L' = OwS true 9 1 eS p1 r.2 :: F) := by
 unfold A4 at hm
 refine co_ofN (N := 107) Tryz.func72 z z ?_
 refine csr ?_
 refine r_new (o_bx (Ae.k a0 g0_) z z) fun b0 => ?_
 refine r_new (o_al ze38) fun b1 => ?_
 refine r_as z ?_
 refine nssr ?_
 refine r_mv z (r_u (o_lenS Tryz.underlying9 z) (r_bin z z (bI_gt (a1.length : Int) 64) ?_))
 refine nsq ?_
 refine c_if (b := decide (64 < (a1.length : Int))) z (fun h2 => ?_) fun h2 => ?_
 ·have hm3 := ift hm h2
  clear hm
  refine csr ?_
  refine r_u (o_ldn 1 (Ae.k a0 g0_) ag38 z z z z) ?_
  refine r_u0 (o_stn ag38 z z z (al_c z (al_c z (al_c z (al_c (RoN.one h0.1.1) (al_c (RoS.one h0.1.2) (al_c z (al_c (RoN.one h0.2) (al_c z al_n)))))))) z z z) ?_
  refine r_as z ?_
  refine r_nil (x_seq (c_ret ?_))
  refine ex_st (fun _ h => st_nil (ap := true) (T := 9) (sz := 1) (en := eS) h) ?_
  obtain rfl := si hm3
  exact x_d2 z (rv_n 1 (Ae.k a0 g0_) ag38 z z z z) (rv_t z) (fun _ h => st_pk 3 [0] (by decide) h) (Le.refl _) ⟨_, z, (⟨(⟨(g0_.S.Rows.1, []), g0_.S.Door⟩ : Ad.G), (⟨(g0_.R.L.1, [])⟩ : Ab.G)⟩ : Ae.G), (.slice none 0 0), z, ⟨⟨h0.1.1, h0.1.2⟩, h0.2⟩, z⟩
 have hm3 := iff_ hm h2
 clear hm
 refine c_skip (x_seq (c_seq (csr ?_)))
 refine r_u (o_ldn 1 (Ae.k a0 g0_) ag38 z z z z) (r_mv z ?_)
 obtain ⟨r4, hr4, hm14⟩ := bs hm3
 clear hm3
 refine r_sw (s_w (o_call ca65 z (A6.ok a0 (⟨(⟨(g0_.S.Rows.1, []), g0_.S.Door⟩ : Ad.G), (⟨(g0_.R.L.1, [])⟩ : Ab.G)⟩ : Ae.G) ⟨⟨h0.1.1, h0.1.2⟩, h0.2⟩ a1 r4 hr4))) ?_
 rintro _ R12 _ le13 ⟨v5, rfl, hf6, rfl⟩
 refine r_mv z ?_
 refine r_ext z z ?_
 refine r_ext z z ?_
 refine r_new (o_al ze38) fun b15 => ?_
 refine r_u0 (o_stn ag38 z z z (al_c z (al_c z (al_c z (al_c (RoN.one hf6.1.1) (al_c (RoS.one hf6.1.2) (al_c z (al_c (RoN.one hf6.2) (al_c z al_n)))))))) z z z) ?_
 refine r_as z ?_
 refine nsr ?_
 refine r_mv z ?_
 refine nsq ?_
 refine c_if (b := r4.2) z (fun h16 => ?_) fun h16 => ?_
 ·have hm17 := ift hm14 h16
  clear hm14
  refine csr ?_
  refine r_u (o_ldn 0 (Ae.k r4.1 v5) ag38 z z z z) ?_
  refine rl_st (fun _ h => mv1 h) ?_
  refine r_u0 (o_stn ag38 z z z (al_c z (al_c z (al_c z (al_c (RoN.one hf6.1.1) (al_c (RoS.one hf6.1.2) (al_c z (al_c (RoN.one hf6.2) (al_c z al_n)))))))) z z z) ?_
  refine r_as z ?_
  refine r_nil (x_seq (c_ret ?_))
  refine ex_st (fun _ h => st_nil (ap := true) (T := 9) (sz := 1) (en := eS) h) ?_
  obtain rfl := si hm17
  exact x_d2 z (rv_n 1 (Ae.k r4.1 v5) ag38 z z z z) (rv_t z) (fun _ h => st_pk 4 [0] (by decide) h) le13 ⟨_, z, (⟨(⟨(v5.S.Rows.1, []), v5.S.Door⟩ : Ad.G), (⟨(v5.R.L.1, [])⟩ : Ab.G)⟩ : Ae.G), (.slice none 0 0), z, ⟨⟨hf6.1.1, hf6.1.2⟩, hf6.2⟩, z⟩
 have hm17 := iff_ hm14 h16
 clear hm14
 refine c_skip (x_seq (csr ?_))
 refine r_fa fa38_1 z ?_
 refine r_u (o_ldn 2 (Ad.k a0.S g0_.S) ag36 z z z z) (r_mv z ?_)
 obtain ⟨r18, hr18, hm24⟩ := bs hm17
 clear hm17
 refine r_sw (s_w (o_call ca101 z (A2.ok a0.S (⟨(g0_.S.Rows.1, []), g0_.S.Door⟩ : Ad.G) ⟨(RoN.mono le13 h0.1.1), (RoS.mono le13 h0.1.2)⟩ a1 r18 hr18))) ?_
 rintro _ R22 _ le23 ⟨v19, rfl, _, rfl⟩
 refine r_fa fa38_1 z ?_
 refine rl_st (fun _ h => mv5 (mv1 (mv2 h))) ?_
 refine r_u0 (ou_if (one_o 1 z) fun ho0 => ou_if (one_o 2 z) fun ho1 => o_stn ag36 z z z (al_c z (al_c z (al_c ho0 (al_c ho1 (al_c z al_n))))) z z z) ?_
 refine nsr ?_
 refine r_u (o_ldn 0 [vI a0.Most, vI r18.Wide, vW r18.Seed, v19.Rows.1, v19.Door, vI r18.Added, g0_.R.L.1, vI a0.R.Places] ag38 z z z z) (r_mv z ?_)
 refine rl_st (fun _ h => mv2 (mv3 h)) ?_
 refine rl_ex (fun w h => st_freezeN w h) fun R25 hf28 => ?_
 obtain ⟨le26, h27⟩ := hf28
 refine rl_st (fun _ h => mv1 h) ?_
 refine rl_ex (fun w h => st_freeze w h) fun R29 hf32 => ?_
 obtain ⟨le30, h31⟩ := hf32
 obtain ⟨r33, hr33, hm43⟩ := bs hm24
 clear hm24
 refine r_sw (s_w (o_call ca102 z (AA.ok (⟨a0.Most, r18, a0.R⟩ : Ae) (⟨(⟨(v19.Rows.1, []), v19.Door⟩ : Ad.G), (⟨(g0_.R.L.1, [])⟩ : Ab.G)⟩ : Ae.G) ⟨⟨(RoN.mono le30 h27), h31⟩, (RoN.mono (Le.trans (Le.trans (Le.trans le13 le23) le26) le30) h0.2)⟩ 0 a1 r33 hr33))) ?_
 rintro _ R41 _ le42 ⟨v34, rfl, hf35, rfl⟩
 refine r_u0 (o_stn ag38 z z z (al_c z (al_c z (al_c z (al_c (RoN.one hf35.1.1) (al_c (RoS.one hf35.1.2) (al_c z (al_c (RoN.one hf35.2) (al_c z al_n)))))))) z z z) ?_
 refine nsr ?_
 refine r_fa fa38_0 z (r_ld 0 sc3 z z z ?_)
 obtain ⟨r44, hr44, hm45⟩ := ltx hm43
 clear hm43
 refine r_u (o_callq ca103 z (BN.ok r33.Most r44 hr44)) (r_mv z ?_)
 refine r_ext z z ?_
 refine r_ext z z (r_as z (r_as z ?_))
 refine nssr ?_
 refine r_fa fa38_2 z (r_fa fa30_0 z (r_ld 0 sc28 z z z ?_))
 obtain ⟨x46, hx46, hm48⟩ := bs hm45
 clear hm45
 obtain ⟨b46, o46, l46, T46, fr46, c46, u47, hv46, hR46, he46, hi46, hN46⟩ := RoN.ne hf35.2 hx46
 refine r_u (o_ix (sz := 1) Tryz.underlying28 (fun _ => by kernel_rfl) z z hv46 hi46) ?_
 refine r_u (o_ldR sc57 z hR46 (rok 0 he46 (by decide))) ?_
 refine r_u (o_lenR Tryz.underlying57 z hN46) (r_mv z (r_bin z z (bI_le (x46.length : Int) r44.1) ?_))
 refine nsq ?_
 refine c_if (b := decide ((x46.length : Int) ≤ r44.1)) z (fun h49 => ?_) fun h49 => ?_
 ·have hm50 := ift hm48 h49
  clear hm48
  refine csr ?_
  refine r_u (o_ldn 0 (Ae.k r33 v34) ag38 z z z z) ?_
  refine rl_st (fun _ h => mv2 h) ?_
  refine r_u0 (o_stn ag38 z z z (al_c z (al_c z (al_c z (al_c (RoN.one hf35.1.1) (al_c (RoS.one hf35.1.2) (al_c z (al_c (RoN.one hf35.2) (al_c z al_n)))))))) z z z) ?_
  refine r_as z ?_
  refine r_nil (x_seq (c_ret ?_))
  refine ex_st (fun _ h => st_nil (ap := true) (T := 9) (sz := 1) (en := eS) h) ?_
  obtain rfl := si hm50
  exact x_d2 z (rv_n 1 (Ae.k r33 v34) ag38 z z z z) (rv_t z) (fun _ h => st_pk 4 [0] (by decide) h) (Le.trans (Le.trans (Le.trans (Le.trans le13 le23) le26) le30) le42) ⟨_, z, (⟨(⟨(v34.S.Rows.1, []), v34.S.Door⟩ : Ad.G), (⟨(v34.R.L.1, [])⟩ : Ab.G)⟩ : Ae.G), (.slice none 0 0), z, ⟨⟨hf35.1.1, hf35.1.2⟩, hf35.2⟩, z⟩
 have hm50 := iff_ hm48 h49
 clear hm48
 refine c_skip (x_seq (csr ?_))
 refine r_fa fa38_2 z ?_
 refine r_u (o_ldn 0 [v34.R.L.1, vI r33.R.Places] ag30 z z z z) ?_
 obtain ⟨r51, hr51, hm52⟩ := bs hm50
 clear hm50
 refine r_u (o_callq ca104 z (Ar.ok r33.R (⟨(v34.R.L.1, [])⟩ : Ab.G) hf35.2 0 r51 hr51)) (r_mv z ?_)
 refine r_ext z z ?_
 refine r_ext z z (r_as z (r_as z ?_))
 refine r_nil (x_seq (c_seq (c_seq ?_)))
 obtain ⟨r53, hr53, hm54⟩ := bs hm52
 clear hm52
 refine c_any mixed (effs := []) (V := []) ?_
 refine stage_ext [(0, .agg (Ae.k r33 v34).toArray), (1, vI r53), (2, pt b0 0), (3, vI r33.Most), (4, vB (decide (r53 ≤ r33.Most)))] z ?_
 refine stage z z z z [0, 1, 0, 4, 15] [0, 1, 2, 3, 4] [] z z z (q_u z z (o_ldn 0 (Ae.k r33 v34) ag38 z z z z) (q_u z z (o_callq ca36 z (BB.ok r33 (⟨(⟨(v34.S.Rows.1, []), v34.S.Door⟩ : Ad.G), (⟨(v34.R.L.1, [])⟩ : Ab.G)⟩ : Ae.G) ⟨⟨hf35.1.1, hf35.1.2⟩, hf35.2⟩ r53 hr53)) (q_fa z z fa38_0 z (q_ld z z 0 sc3 z z z (q_u z z (o_bin z z (bI_le r53 r33.Most)) qn))))) en ?_
 intro _
 refine ex_sub (E' := [(2, pt b0 0), (4, pt b1 0), (10, vS r51.1), (59, vB (decide (r53 ≤ r33.Most)))]) ⟨z, z, z, z, trivial⟩ ?_
 refine x_seq ?_
 refine c_if (b := decide (r53 ≤ r33.Most)) z (fun h55 => ?_) fun h55 => ?_
 ·have hm56 := ift hm54 h55
  clear hm54
  refine csr ?_
  refine r_u (o_ldn 0 (Ae.k r33 v34) ag38 z z z z) (r_mv z ?_)
  obtain ⟨r57, hr57, hm67⟩ := bs hm56
  clear hm56
  refine r_sw (s_w (o_call ca102 z (AA.ok r33 (⟨(⟨(v34.S.Rows.1, []), v34.S.Door⟩ : Ad.G), (⟨(v34.R.L.1, [])⟩ : Ab.G)⟩ : Ae.G) ⟨⟨hf35.1.1, hf35.1.2⟩, hf35.2⟩ 1 r51.1 r57 hr57))) ?_
  rintro _ R65 _ le66 ⟨v58, rfl, hf59, rfl⟩
  refine rl_st (fun _ h => mv2 h) ?_
  refine r_u0 (o_stn ag38 z z z (al_c z (al_c z (al_c z (al_c (RoN.one hf59.1.1) (al_c (RoS.one hf59.1.2) (al_c z (al_c (RoN.one hf59.2) (al_c z al_n)))))))) z z z) ?_
  refine r_as z ?_
  refine r_nil (x_seq (c_ret ?_))
  refine ex_st (fun _ h => st_nil (ap := true) (T := 9) (sz := 1) (en := eS) h) ?_
  obtain rfl := si hm67
  exact x_d2 z (rv_n 1 (Ae.k r57 v58) ag38 z z z z) (rv_t z) (fun _ h => st_pk 4 [0] (by decide) h) (Le.trans (Le.trans (Le.trans (Le.trans (Le.trans le13 le23) le26) le30) le42) le66) ⟨_, z, (⟨(⟨(v58.S.Rows.1, []), v58.S.Door⟩ : Ad.G), (⟨(v58.R.L.1, [])⟩ : Ab.G)⟩ : Ae.G), (.slice none 0 0), z, ⟨⟨hf59.1.1, hf59.1.2⟩, hf59.2⟩, z⟩
 have hm56 := iff_ hm54 h55
 clear hm54
 refine c_skip (x_seq (csr ?_))
 refine r_fa fa38_2 z ?_
 refine r_u (o_ldn 0 [v34.R.L.1, vI r33.R.Places] ag30 z z z z) ?_
 obtain ⟨r68, hr68, hm69⟩ := bs hm56
 clear hm56
 refine r_u (o_callq ca104 z (Ar.ok r33.R (⟨(v34.R.L.1, [])⟩ : Ab.G) hf35.2 1 r68 hr68)) (r_mv z ?_)
 refine r_ext z z ?_
 refine r_ext z z (r_as z (r_as z ?_))
 refine nssr ?_
 refine r_mv z ?_
 refine r_u (o_not z) ?_
 refine nsq ?_
 obtain ⟨p70, hp71, hm72⟩ := bs hm69
 refine cd_join (E' := [(2, pt b0 0), (4, pt b1 0), (10, vS r51.1), (12, vS p70.1), (13, vB p70.2)]) (L' := Bk b0 38 (Ae.k r33 v34) :: Bk b15 38 (Ae.k r4.1 v5) :: Bk b1 38 [vI 0, vI 0, vW 0, .slice none 0 0, .slice none 0 0, vI 0, .slice none 0 0, vI 0] :: F) ?_ fun K73 => ?_
 rotate_left
 ·refine c_if (b := !r68.2) z (fun h115 => ?_) fun h115 => ?_
  ·have hm116 := ift hp71 h115
   clear hp71
   refine c_reg ?_
   refine r_fa fa38_2 z ?_
   refine r_u (o_ldn 0 [v34.R.L.1, vI r33.R.Places] ag30 z z z z) ?_
   obtain ⟨r117, hr117, hm118⟩ := bs hm116
   clear hm116
   refine r_u (o_callq ca104 z (Ar.ok r33.R (⟨(v34.R.L.1, [])⟩ : Ab.G) hf35.2 2 r117 hr117)) (r_mv z ?_)
   refine r_ext z z ?_
   refine r_ext z z (r_as z (r_as z ?_))
   refine r_nil ?_
   obtain rfl := si hm118
   exact x_sub K73 ⟨z, z, z, z, z, trivial⟩ (fun _ h => st_pk 3 [0, 1, 2] (by decide) h)
  have hm116 := iff_ hp71 h115
  clear hp71
  refine c_skip ?_
  obtain rfl := si hm116
  exact x_sub K73 ⟨z, z, z, z, z, trivial⟩ (fun _ h => st_pk 3 [0, 1, 2] (by decide) h)
 refine x_seq (c_seq (c_seq ?_))
 obtain ⟨p74, hp75, hm76⟩ := bs hm72
 refine cd_join (E' := [(2, pt b0 0), (4, pt b1 0), (10, vS r51.1), (12, vS p70.1), (88, vB p74)]) (L' := Bk b0 38 (Ae.k r33 v34) :: Bk b15 38 (Ae.k r4.1 v5) :: Bk b1 38 [vI 0, vI 0, vW 0, .slice none 0 0, .slice none 0 0, vI 0, .slice none 0 0, vI 0] :: F) ?_ fun K77 => ?_
 rotate_left
 ·refine cd_by p70.2 (fun h109 => ?_) fun h109 => ?_
  ·have hm110 := ift hp75 h109
   clear hp75
   obtain ⟨r111, hr111, hm112⟩ := bs hm110
   clear hm110
   obtain ⟨r113, hr113, hm114⟩ := bs hm112
   clear hm112
   refine c_any mixed (effs := []) (V := []) ?_
   refine stage_ext [(0, vB p70.2), (1, vB p70.2), (2, pt b0 1), (3, .agg (Ad.k r33.S v34.S).toArray), (4, vS r51.1), (5, vI r111), (6, pt b0 1), (7, .agg (Ad.k r33.S v34.S).toArray), (8, vS p70.1), (9, vI r113), (10, vB (decide (r113 < r111))), (11, vB (decide (r113 < r111)))] z ?_
   refine stage z z z z mk30_ [0, 1, 2, 3, 4, 5, 6, 7, 8, 9, 10, 11] [] z z z (q_mv z z z (q_mv z z z (q_y z z z z h109 (o_fa fa38_1 z) (q_y z z z z h109 (o_ldn 0 (Ad.k r33.S v34.S) ag36 z z z z) (q_y z z z z h109 (o_mv z) (q_y z z z z h109 (o_callq ca108 z (AU.ok r33.S (⟨(v34.S.Rows.1, []), v34.S.Door⟩ : Ad.G) ⟨hf35.1.1, hf35.1.2⟩ r51.1 r111 hr111)) (q_y z z z z h109 (o_fa fa38_1 z) (q_y z z z z h109 (o_ldn 0 (Ad.k r33.S v34.S) ag36 z z z z) (q_y z z z z h109 (o_mv z) (q_y z z z z h109 (o_callq ca108 z (AU.ok r33.S (⟨(v34.S.Rows.1, []), v34.S.Door⟩ : Ad.G) ⟨hf35.1.1, hf35.1.2⟩ p70.1 r113 hr113)) (q_y z z z z h109 (o_bin z z (bI_gt r111 r113)) (q_u z z (o_pt z h109 z) qn)))))))))))) en ?_
   intro _
   refine ex_sub (E' := [(2, pt b0 0), (4, pt b1 0), (10, vS r51.1), (12, vS p70.1), (88, vB (decide (r113 < r111)))]) ⟨z, z, z, z, z, trivial⟩ ?_
   obtain rfl := si hm114
   exact x_sub K77 ⟨z, z, z, z, z, trivial⟩ (fun _ h => st_pk 3 [0, 1, 2] (by decide) h)
  have hm110 := iff_ hp75 h109
  clear hp75
  refine c_any mixed (effs := []) (V := []) ?_
  refine stage_ext [(0, vB p70.2), (1, vB p70.2), (2, undef), (3, undef), (4, undef), (5, undef), (6, undef), (7, undef), (8, undef), (9, undef), (10, undef), (11, vB false)] z ?_
  refine stage z z z z mk30_ [0, 1, 2, 3, 4, 5, 6, 7, 8, 9, 10, 11] [] z z z (q_mv z z z (q_mv z z z (q_n z z z z h109 (q_n z z z z h109 (q_n z z z z h109 (q_n z z z z h109 (q_n z z z z h109 (q_n z z z z h109 (q_n z z z z h109 (q_n z z z z h109 (q_n z z z z h109 (q_u z z (o_pf z h109 z) qn)))))))))))) en ?_
  intro _
  refine ex_sub (E' := [(2, pt b0 0), (4, pt b1 0), (10, vS r51.1), (12, vS p70.1), (88, vB false)]) ⟨z, z, z, z, z, trivial⟩ ?_
  obtain rfl := si hm110
  exact x_sub K77 ⟨z, z, z, z, z, trivial⟩ (fun _ h => st_pk 3 [0, 1, 2] (by decide) h)
 refine x_seq ?_
 refine c_if (b := p74) z (fun h78 => ?_) fun h78 => ?_
 ·have hm79 := ift hm76 h78
  clear hm76
  refine csr ?_
  refine r_fa fa38_2 z ?_
  refine r_u (o_ldn 0 [v34.R.L.1, vI r33.R.Places] ag30 z z z z) (r_mv z ?_)
  obtain ⟨r80, hr80, hm83⟩ := bs hm79
  clear hm79
  refine r_sw (s_w (o_call ca105 z (Az.ok r33.R (⟨(v34.R.L.1, [])⟩ : Ab.G) hf35.2 p70.1 r80 hr80))) ?_
  rintro _ R41 _ _ ⟨v81, rfl, rfl, rfl⟩
  refine r_fa fa38_2 z ?_
  refine rl_st (fun _ h => mv2 h) ?_
  refine r_u0 (ou_if (one_o 1 z) fun ho0 => o_stn ag30 z z z (al_c ho0 (al_c z al_n)) z z z) ?_
  refine nsr ?_
  refine r_u (o_ldn 0 [vI r33.Most, vI r33.S.Wide, vW r33.S.Seed, v34.S.Rows.1, v34.S.Door, vI r33.S.Added, v81.L.1, vI r80.Places] ag38 z z z z) (r_mv z ?_)
  refine rl_st (fun _ h => mv2 (mv2 h)) ?_
  refine rl_ex (fun w h => st_freezeN w h) fun R84 hf87 => ?_
  obtain ⟨le85, h86⟩ := hf87
  obtain ⟨r88, hr88, hm98⟩ := bs hm83
  clear hm83
  refine r_sw (s_w (o_call ca102 z (AA.ok (⟨r33.Most, r33.S, r80⟩ : Ae) (⟨(⟨(v34.S.Rows.1, []), v34.S.Door⟩ : Ad.G), (⟨(v81.L.1, [])⟩ : Ab.G)⟩ : Ae.G) ⟨⟨(RoN.mono le85 hf35.1.1), (RoS.mono le85 hf35.1.2)⟩, h86⟩ 1 r51.1 r88 hr88))) ?_
  rintro _ R96 _ le97 ⟨v89, rfl, hf90, rfl⟩
  refine r_mv z ?_
  refine r_sw (s_w (o_bsl (en := eS) (sz := 1) (e := 9) (cs := [vS p70.1]) (r := [p70.1]) z (fun _ => by kernel_rfl) z (by decide) z (fun _ => z))) ?_
  rintro v99 R96 _ _ ⟨rfl, rfl⟩
  refine rl_st (fun _ h => mv3 h) ?_
  refine r_u0 (o_stn ag38 z z z (al_c z (al_c z (al_c z (al_c (RoN.one hf90.1.1) (al_c (RoS.one hf90.1.2) (al_c z (al_c (RoN.one hf90.2) (al_c z al_n)))))))) z z z) ?_
  refine r_as z ?_
  refine r_nil (x_seq (c_ret ?_))
  obtain rfl := si hm98
  exact x_d2 z (rv_n 0 (Ae.k r88 v89) ag38 z z z z) (rv_t z) (fun _ h => st_pk 4 [1] (by decide) h) (Le.trans (Le.trans (Le.trans (Le.trans (Le.trans (Le.trans le13 le23) le26) le30) le42) le85) le97) ⟨_, z, (⟨(⟨(v89.S.Rows.1, []), v89.S.Door⟩ : Ad.G), (⟨(v89.R.L.1, [])⟩ : Ab.G)⟩ : Ae.G), v99, z, ⟨⟨hf90.1.1, hf90.1.2⟩, hf90.2⟩, z⟩
 have hm79 := iff_ hm76 h78
 clear hm76
 refine c_skip (x_seq (csr ?_))
 refine r_fa fa38_2 z ?_
 refine r_u (o_ldn 0 [v34.R.L.1, vI r33.R.Places] ag30 z z z z) (r_mv z ?_)
 obtain ⟨r100, hr100, hm103⟩ := bs hm79
 clear hm79
 refine r_sw (s_w (o_call ca105 z (Az.ok r33.R (⟨(v34.R.L.1, [])⟩ : Ab.G) hf35.2 r51.1 r100 hr100))) ?_
 rintro _ R41 _ _ ⟨v101, rfl, rfl, rfl⟩
 refine r_fa fa38_2 z ?_
 refine rl_st (fun _ h => mv2 h) ?_
 refine r_u0 (ou_if (one_o 1 z) fun ho0 => o_stn ag30 z z z (al_c ho0 (al_c z al_n)) z z z) ?_
 refine nsr ?_
 refine r_u (o_ldn 0 [vI r33.Most, vI r33.S.Wide, vW r33.S.Seed, v34.S.Rows.1, v34.S.Door, vI r33.S.Added, v101.L.1, vI r100.Places] ag38 z z z z) (r_mv z ?_)
 refine r_sw (s_w (o_bsl (en := eS) (sz := 1) (e := 9) (cs := [vS r51.1]) (r := [r51.1]) z (fun _ => by kernel_rfl) z (by decide) z (fun _ => z))) ?_
 rintro v104 R41 _ _ ⟨rfl, rfl⟩
 refine rl_st (fun _ h => mv5 (mv2 h)) ?_
 refine r_u0 (ou_if (one_o 1 z) fun ho0 => o_stn ag38 z z z (al_c z (al_c z (al_c z (al_c (RoN.one hf35.1.1) (al_c (RoS.one hf35.1.2) (al_c z (al_c ho0 (al_c z al_n)))))))) z z z) ?_
 refine r_as z ?_
 refine r_nil (x_seq (c_ret ?_))
 refine ex_st (fun _ h => mv2 (mv4 h)) ?_
 refine ex_ex (fun w h => st_freezeN w h) fun R105 hf108 => ?_
 obtain ⟨le106, h107⟩ := hf108
 obtain rfl := si hm103
 exact x_d2 z (rv_n 0 [vI r33.Most, vI r33.S.Wide, vW r33.S.Seed, v34.S.Rows.1, v34.S.Door, vI r33.S.Added, v101.L.1, vI r100.Places] ag38 z z z z) (rv_t z) (fun _ h => st_pk 4 [1] (by decide) h) (Le.trans (Le.trans (Le.trans (Le.trans (Le.trans le13 le23) le26) le30) le42) le106) ⟨_, z, (⟨(⟨(v34.S.Rows.1, []), v34.S.Door⟩ : Ad.G), (⟨(v101.L.1, [])⟩ : Ab.G)⟩ : Ae.G), v104, z, ⟨⟨(RoN.mono le106 hf35.1.1), (RoS.mono le106 hf35.1.2)⟩, h107⟩, z⟩
def BK (a0 : Ac) (a1 : Str) : Option (Ac × List Str) :=
 if (a0.Kind == 1) then (Bo a0.A a1).bind fun r5 => some ((⟨a0.Kind, r5.1, a0.T⟩ : Ac), r5.2) else (A4 a0.T a1).bind fun r14 => some ((⟨a0.Kind, a0.A, r14.1⟩ : Ac), r14.2)
theorem BK.ok {G R F} (a0 : Ac) (g0_ : Ac.G) (h0 : Ac.ro R a0 g0_) (a1 : Str) (r : Ac × List Str) (hm : BK a0 a1 = some r) : CO Tryz.prog 32 [.agg (Ac.k a0 g0_).toArray, vS a1] G R (F)
  (Ret fun u R' L' => ∃ (p0 : Ac.G) (p1 : Value), u = .tuple #[.agg (Ac.k r.1 p0).toArray, p1] ∧ (Ac.ro R' r.1 p0) ∧ L' = OwS true 9 1 eS p1 r.2 :: F) := by
 unfold BK at hm
 refine co_ofN (N := 29) Tryz.func32 z z ?_
 refine csr ?_
 refine r_new (o_bx (Ac.k a0 g0_) z z) fun b0 => ?_
 refine r_new (o_al ze40) fun b1 => ?_
 refine r_as z ?_
 refine nsr ?_
 refine r_sw (s_w (o_bsl (en := eS) (sz := 1) (e := 9) (cs := []) (r := []) z (fun _ => by kernel_rfl) z (by decide) z (fun _ => z))) ?_
 rintro v2 R _ _ ⟨rfl, rfl⟩
 refine r_as z ?_
 refine nssr ?_
 refine r_fa fa40_0 z (r_ld 2 sc3 z z z (r_bin z z (bI_eq a0.Kind 1) ?_))
 refine nsq ?_
 refine c_if (b := (a0.Kind == 1)) z (fun h3 => ?_) fun h3 => ?_
 ·have hm4 := ift hm h3
  clear hm
  refine c_reg ?_
  refine r_fa fa40_1 z ?_
  refine r_u (o_ldn 2 (Aa.k a0.A g0_.A) ag32 z z z z) (r_mv z ?_)
  obtain ⟨r5, hr5, hm13⟩ := bs hm4
  clear hm4
  refine r_sw (s_w (o_call ca71 z (Bo.ok a0.A (⟨(⟨(g0_.A.R.L.1, [])⟩ : Ab.G)⟩ : Aa.G) h0.1 a1 r5 hr5))) ?_
  rintro _ R11 _ le12 ⟨v6, v10, rfl, hf7, rfl⟩
  refine r_mv z ?_
  refine r_ext z z ?_
  refine r_ext z z (r_fa fa40_1 z ?_)
  refine rl_st (fun _ h => mv3 h) ?_
  refine r_u0 (o_stn ag32 z z z (al_c z (al_c z (al_c (RoN.one hf7) (al_c z al_n)))) z z z) ?_
  refine r_as z ?_
  refine nsr ?_
  refine r_u (o_ldn 0 [vI a0.Kind, vI r5.1.Most, vI r5.1.Target, v6.R.L.1, vI r5.1.R.Places, vI a0.T.Most, vI a0.T.S.Wide, vW a0.T.S.Seed, g0_.T.S.Rows.1, g0_.T.S.Door, vI a0.T.S.Added, g0_.T.R.L.1, vI a0.T.R.Places] ag40 z z z z) (r_mv z ?_)
  refine rl_st (fun _ h => mv3 h) ?_
  refine r_u0 (o_stn ag40 z z z (al_c z (al_c z (al_c z (al_c (RoN.one hf7) (al_c z (al_c z (al_c z (al_c z (al_c (RoN.one (RoN.mono le12 h0.2.1.1)) (al_c (RoS.one (RoS.mono le12 h0.2.1.2)) (al_c z (al_c (RoN.one (RoN.mono le12 h0.2.2)) (al_c z al_n))))))))))))) z z z) ?_
  refine r_as z ?_
  refine r_nil (x_seq (c_ret ?_))
  obtain rfl := si hm13
  exact x_d2 z (rv_n 0 [vI a0.Kind, vI r5.1.Most, vI r5.1.Target, v6.R.L.1, vI r5.1.R.Places, vI a0.T.Most, vI a0.T.S.Wide, vW a0.T.S.Seed, g0_.T.S.Rows.1, g0_.T.S.Door, vI a0.T.S.Added, g0_.T.R.L.1, vI a0.T.R.Places] ag40 z z z z) (rv_t z) (fun _ h => st_pk 4 [2] (by decide) h) le12 ⟨_, z, (⟨(⟨(⟨(v6.R.L.1, [])⟩ : Ab.G)⟩ : Aa.G), (⟨(⟨(g0_.T.S.Rows.1, []), g0_.T.S.Door⟩ : Ad.G), (⟨(g0_.T.R.L.1, [])⟩ : Ab.G)⟩ : Ae.G)⟩ : Ac.G), v10, z, ⟨hf7, ⟨⟨(RoN.mono le12 h0.2.1.1), (RoS.mono le12 h0.2.1.2)⟩, (RoN.mono le12 h0.2.2)⟩⟩, z⟩
 have hm4 := iff_ hm h3
 clear hm
 refine c_reg ?_
 refine r_fa fa40_2 z ?_
 refine r_u (o_ldn 2 (Ae.k a0.T g0_.T) ag38 z z z z) (r_mv z ?_)
 obtain ⟨r14, hr14, hm25⟩ := bs hm4
 clear hm4
 refine r_sw (s_w (o_call ca72 z (A4.ok a0.T (⟨(⟨(g0_.T.S.Rows.1, []), g0_.T.S.Door⟩ : Ad.G), (⟨(g0_.T.R.L.1, [])⟩ : Ab.G)⟩ : Ae.G) ⟨⟨h0.2.1.1, h0.2.1.2⟩, h0.2.2⟩ a1 r14 hr14))) ?_
 rintro _ R23 _ le24 ⟨v15, v22, rfl, hf16, rfl⟩
 refine r_mv z ?_
 refine r_ext z z ?_
 refine r_ext z z (r_fa fa40_2 z ?_)
 refine rl_st (fun _ h => mv3 h) ?_
 refine r_u0 (o_stn ag38 z z z (al_c z (al_c z (al_c z (al_c (RoN.one hf16.1.1) (al_c (RoS.one hf16.1.2) (al_c z (al_c (RoN.one hf16.2) (al_c z al_n)))))))) z z z) ?_
 refine r_as z ?_
 refine nsr ?_
 refine r_u (o_ldn 0 [vI a0.Kind, vI a0.A.Most, vI a0.A.Target, g0_.A.R.L.1, vI a0.A.R.Places, vI r14.1.Most, vI r14.1.S.Wide, vW r14.1.S.Seed, v15.S.Rows.1, v15.S.Door, vI r14.1.S.Added, v15.R.L.1, vI r14.1.R.Places] ag40 z z z z) (r_mv z ?_)
 refine rl_st (fun _ h => mv3 h) ?_
 refine r_u0 (o_stn ag40 z z z (al_c z (al_c z (al_c z (al_c (RoN.one (RoN.mono le24 h0.1)) (al_c z (al_c z (al_c z (al_c z (al_c (RoN.one hf16.1.1) (al_c (RoS.one hf16.1.2) (al_c z (al_c (RoN.one hf16.2) (al_c z al_n))))))))))))) z z z) ?_
 refine r_as z ?_
 refine r_nil (x_seq (c_ret ?_))
 obtain rfl := si hm25
 exact x_d2 z (rv_n 0 [vI a0.Kind, vI a0.A.Most, vI a0.A.Target, g0_.A.R.L.1, vI a0.A.R.Places, vI r14.1.Most, vI r14.1.S.Wide, vW r14.1.S.Seed, v15.S.Rows.1, v15.S.Door, vI r14.1.S.Added, v15.R.L.1, vI r14.1.R.Places] ag40 z z z z) (rv_t z) (fun _ h => st_pk 4 [2] (by decide) h) le24 ⟨_, z, (⟨(⟨(⟨(g0_.A.R.L.1, [])⟩ : Ab.G)⟩ : Aa.G), (⟨(⟨(v15.S.Rows.1, []), v15.S.Door⟩ : Ad.G), (⟨(v15.R.L.1, [])⟩ : Ab.G)⟩ : Ae.G)⟩ : Ac.G), v22, z, ⟨(RoN.mono le24 h0.1), ⟨⟨hf16.1.1, hf16.1.2⟩, hf16.2⟩⟩, z⟩
def Cf (a0 : List Str) (a1 : List Str) : Nat → Int → Option (Unit ⊕ Bool)
 | 0, _ => none
 | k8 + 1, i_7 => if decide (i_7 < (a0.length : Int)) then (gi a0 i_7).bind fun x13 => (gi a1 i_7).bind fun x15 => if (x13 != x15) then some (Sum.inr false) else Cf a0 a1 k8 (i64 (i_7 + 1)) else some (Sum.inl ())
def CC (a0 : List Str) (a1 : List Str) : Option Bool :=
 if ((a0.length : Int) != (a1.length : Int)) then some false else Option.bind (Cf a0 a1 (((a0.length : Int) - 0).toNat + 1) 0) fun (p2 : Unit ⊕ Bool) => (match p2 with | Sum.inl q3 => some true | Sum.inr r => some r)
theorem CC.ok {G R F} (v0_ : Value) (a0 : List Str) (h0_ : RoS R v0_ 1 (fun x => [vS x]) a0) (v1_ : Value) (a1 : List Str) (h1_ : RoS R v1_ 1 (fun x => [vS x]) a1) (r : Bool) (hm : CC a0 a1 = some r) : CO Tryz.prog 22 [v0_, v1_] G R (F)
  (Ret fun u R' L' => u = vB r ∧ R' = R ∧ L' = F) := by
 unfold CC at hm
 refine co_ofN (N := 26) Tryz.func22 z z ?_
 refine csr ?_
 refine r_as z ?_
 refine nssr ?_
 refine r_mv z ?_
 refine r_u (o_lenR Tryz.underlying57 z h0_) (r_mv z ?_)
 refine r_u (o_lenR Tryz.underlying57 z h1_) (r_bin z z (bI_ne (a0.length : Int) (a1.length : Int)) ?_)
 refine nsq ?_
 refine c_if (b := ((a0.length : Int) != (a1.length : Int))) z (fun h0 => ?_) fun h0 => ?_
 ·have hm1 := ift hm h0
  clear hm
  refine csr ?_
  refine r_as z ?_
  refine r_nil (x_seq (c_ret ?_))
  obtain rfl := si hm1
  exact x_r1 z (rv_t z) (Le.refl _) ⟨_, z, z, z, z⟩
 have hm1 := iff_ hm h0
 clear hm
 refine c_skip (x_seq (c_seq (csr ?_)))
 refine r_as z ?_
 refine nsq ?_
 obtain ⟨p2, hp4, hm5⟩ := bs hm1
 refine cd_joinS (p := p2) (Ef := fun q3 => []) (Lf := fun q3 => F) (fun q3 hq => ?_) fun K6 => ?_
 ·subst hq
  try dsimp only at hm5
  refine x_seq (csr ?_)
  refine r_as z ?_
  refine r_nil (x_seq (c_ret ?_))
  obtain rfl := si hm5
  exact x_r1 z (rv_t z) (Le.refl _) ⟨_, z, z, z, z⟩
 refine c_blk ?_
 refine cd_loop (M := fun k8 (i_7 : Int) => Cf a0 a1 k8 i_7 = some p2) (Ef := fun (i_7 : Int) => [(0, v0_), (1, v1_), (5, vI i_7)]) (Lf := fun (i_7 : Int) => F) (((a0.length : Int) - 0).toNat + 1) 0 hp4 ⟨z, z, z, trivial⟩ (fun _ h => h) (fun _ h => by cases h) fun k8 i_7 hM10 => ?_
 have hm9 : Cf a0 a1 (k8 + 1) i_7 = some p2 := hM10
 rw [Cf] at hm9
 refine c_seq (csr ?_)
 refine r_mv z (r_mv z ?_)
 refine r_u (o_lenR Tryz.underlying57 z h0_) (r_bin z z (bI_lt i_7 (a0.length : Int)) ?_)
 refine nsq ?_
 refine c_if (b := decide (i_7 < (a0.length : Int))) z (fun h11 => ?_) fun h11 => ?_
 rotate_left
 ·have hm12 := iff_ hm9 h11
  clear hm9
  refine c_exit (x_exit (ks' := _) z ?_)
  obtain rfl := si hm12
  exact x_sub (K6 _ z) trivial (fun _ h => st_pk 0 [] (by decide) h)
 have hm12 := ift hm9 h11
 clear hm9
 refine c_skip (x_seq (c_seq (c_blk (c_seq ?_))))
 obtain ⟨x13, hx13, hm14⟩ := bs hm12
 clear hm12
 obtain ⟨b13, o13, l13, T13, fr13, c13, hv13, hR13, he13, hi13⟩ := RoS.ne h0_ hx13
 obtain ⟨x15, hx15, hm16⟩ := bs hm14
 clear hm14
 obtain ⟨b15, o15, l15, T15, fr15, c15, hv15, hR15, he15, hi15⟩ := RoS.ne h1_ hx15
 refine c_any mixed (effs := []) (V := []) ?_
 refine stage_ext [(0, v0_), (1, vI i_7), (2, pt b13 (o13 + i_7.toNat * 1)), (3, vS x13), (4, v1_), (5, vI i_7), (6, pt b15 (o15 + i_7.toNat * 1)), (7, vS x15), (8, vB (x13 != x15))] z ?_
 refine stage z z z z [0, 0, 3, 7, 0, 0, 48, 112, 255] [0, 1, 2, 3, 4, 5, 6, 7, 8] [] z z z (q_mv z z z (q_mv z z z (q_u z z (o_ix (sz := 1) Tryz.underlying57 (fun _ => by kernel_rfl) z z hv13 hi13) (q_u z z (o_ldR sc9 z hR13 (rok 0 he13 (by decide))) (q_mv z z z (q_mv z z z (q_u z z (o_ix (sz := 1) Tryz.underlying57 (fun _ => by kernel_rfl) z z hv15 hi15) (q_u z z (o_ldR sc9 z hR15 (rok 0 he15 (by decide))) (q_u z z (o_bin z z (bS_ne x13 x15)) qn))))))))) en ?_
 intro _
 refine ex_sub (E' := [(0, v0_), (1, v1_), (5, vI i_7), (25, vB (x13 != x15))]) ⟨z, z, z, z, trivial⟩ ?_
 refine x_seq ?_
 refine c_if (b := (x13 != x15)) z (fun h17 => ?_) fun h17 => ?_
 ·have hm18 := ift hm16 h17
  clear hm16
  refine csr ?_
  refine r_as z ?_
  refine r_nil (x_seq (c_ret ?_))
  obtain rfl := si hm18
  try dsimp only at hm5
  obtain rfl := si hm5
  exact x_r1 z (rv_t z) (Le.refl _) ⟨_, z, z, z, z⟩
 have hm18 := iff_ hm16 h17
 clear hm16
 refine c_skip (x_blk (x_seq (c_reg ?_)))
 refine r_mv z (r_bin z z (bI_add i_7 1) (r_as z ?_))
 refine r_nil ?_
 exact x_lp (i64 (i_7 + 1)) hm18 ⟨z, z, z, trivial⟩ (fun _ h => st_pk 0 [] (by decide) h)
def CI (a0 : Ah) (a1 : Ac) (a2 : AC) : Option (Option Ah × Ac × Bool) :=
 (Bq a2.Key).bind fun r9 => Option.bind (if (a2.Kind == 4) then some (a2.Kind == 4) else some (a2.Kind == 5)) fun p11 => if p11 then (BO a1 r9).bind fun r17 => (B4 a0 r9).bind fun r33 => some ((some r33.2), r17.1, (r33.1 == r17.2)) else if (a2.Kind == 6) then (BI a1 r9).bind fun r44 => (Ct a0 r9).bind fun r60 => some ((some r60.2), r44.1, (r60.1 == r44.2)) else if (a2.Kind == 7) then (BP a1).bind fun r71 => (CB a0).bind fun r87 => some ((some r87.2.2), r71.1, ((r87.2.1 == r71.2.2) && (r87.1 == r71.2.1))) else if (a2.Kind == 8) then (CF a0 r9).bind fun r98 => (BW a1 r9).bind fun r100 => some ((some r98), r100, true) else if (a2.Kind == 9) then (BA a0).bind fun r117 => (C8 r117).bind fun r119 => some (r119.1, a1, (r119.2 == 0)) else (BK a1 r9).bind fun r124 => (Bm a0 r9).bind fun r145 => (CC r145.1 r124.2).bind fun r159 => some ((some r145.2), r124.1, r159)
theorem CI.ok {G R F} (b0_ : Nat) (a0 : Ah) (g0_ : Ah.G) (a1 : Ac) (g1_ : Ac.G) (h1 : Ac.ro R a1 g1_) (a2 : AC) (r : Option Ah × Ac × Bool) (hm : CI a0 a1 a2 = some r) : CO Tryz.prog 8 [pt b0_ 0, .agg (Ac.k a1 g1_).toArray, .agg (AC.c a2).toArray] G R (Bk b0_ 63 [vI a0.kind, g0_.a.1, g0_.t.1] :: rO (Al.op g0_.a.2) g0_.a.1 a0.a :: rO (Ak.op g0_.t.2) g0_.t.1 a0.t :: F)
  (Ret fun u R' L' => ∃ (p0 : Value × Ah.G) (p1 : Ac.G), u = .tuple #[p0.1, .agg (Ac.k r.2.1 p1).toArray, vB r.2.2] ∧ (Ac.ro R' r.2.1 p1) ∧ L' = rO (Ah.op p0.2) p0.1 r.1 :: F) := by
 obtain ⟨⟨pv1, g2⟩, ⟨pv4, g5⟩⟩ := g0_
 unfold CI at hm
 refine co_ofN (N := 116) Tryz.func8 z z ?_
 refine csr ?_
 refine r_new (o_bx (Ac.k a1 g1_) z z) fun b6 => ?_
 refine r_new (o_bx (AC.c a2) z z) fun b7 => ?_
 refine r_as z ?_
 refine r_new (o_al ze40) fun b8 => ?_
 refine r_as z ?_
 refine nsr ?_
 refine r_fa fa46_1 z (r_ld 1 sc9 z z z ?_)
 obtain ⟨r9, hr9, hm10⟩ := bs hm
 clear hm
 refine r_u (o_callq ca12 z (Bq.ok a2.Key r9 hr9)) (r_as z ?_)
 refine nssr ?_
 refine r_fa fa46_0 z (r_ld 1 sc3 z z z ?_)
 refine r_nil (x_seq (c_blk (c_seq (csr ?_))))
 refine r_bin z z (bI_eq a2.Kind 4) (r_as z ?_)
 refine nsq ?_
 obtain ⟨p11, hp12, hm13⟩ := bs hm10
 refine cd_join (E' := [(0, pt b0_ 0), (4, pt b6 0), (7, pt b8 0), (9, vS r9), (27, vI a2.Kind), (28, vB p11)]) (L' := Bk b8 40 [vI 0, vI 0, vI 0, .slice none 0 0, vI 0, vI 0, vI 0, vW 0, .slice none 0 0, .slice none 0 0, vI 0, .slice none 0 0, vI 0] :: Bk b7 46 (AC.c a2) :: Bk b6 40 (Ac.k a1 g1_) :: Bk b0_ 63 [vI a0.kind, pv1, pv4] :: rO (Al.op g2) pv1 a0.a :: rO (Ak.op g5) pv4 a0.t :: F) ?_ fun K14 => ?_
 rotate_left
 ·refine c_if (b := (a2.Kind == 4)) z (fun h161 => ?_) fun h161 => ?_
  ·have hm162 := ift hp12 h161
   clear hp12
   refine c_skip ?_
   obtain rfl := si hm162
   exact x_sub K14 ⟨z, z, z, z, z, z, trivial⟩ (fun _ h => st_pk 6 [0, 1, 2, 3, 4, 5] (by decide) h)
  have hm162 := iff_ hp12 h161
  clear hp12
  refine c_reg ?_
  refine r_bin z z (bI_eq a2.Kind 5) (r_as z ?_)
  refine r_nil ?_
  obtain rfl := si hm162
  exact x_sub K14 ⟨z, z, z, z, z, z, trivial⟩ (fun _ h => st_pk 6 [0, 1, 2, 3, 4, 5] (by decide) h)
 refine x_seq ?_
 refine c_if (b := p11) z (fun h15 => ?_) fun h15 => ?_
 ·have hm16 := ift hm13 h15
  clear hm13
  refine csr ?_
  refine r_u (o_ldn 2 (Ac.k a1 g1_) ag40 z z z z) (r_mv z ?_)
  obtain ⟨r17, hr17, hm31⟩ := bs hm16
  clear hm16
  refine r_sw (s_w (o_call ca28 z (BO.ok a1 (⟨(⟨(⟨(g1_.A.R.L.1, [])⟩ : Ab.G)⟩ : Aa.G), (⟨(⟨(g1_.T.S.Rows.1, []), g1_.T.S.Door⟩ : Ad.G), (⟨(g1_.T.R.L.1, [])⟩ : Ab.G)⟩ : Ae.G)⟩ : Ac.G) ⟨h1.1, ⟨⟨h1.2.1.1, h1.2.1.2⟩, h1.2.2⟩⟩ r9 r17 hr17))) ?_
  rintro _ R29 _ le30 ⟨v18, rfl, hf19, rfl⟩
  refine r_mv z ?_
  refine r_ext z z ?_
  refine r_ext z z ?_
  refine r_new (o_al ze40) fun b32 => ?_
  refine r_u0 (o_stn ag40 z z z (al_c z (al_c z (al_c z (al_c (RoN.one hf19.1) (al_c z (al_c z (al_c z (al_c z (al_c (RoN.one hf19.2.1.1) (al_c (RoS.one hf19.2.1.2) (al_c z (al_c (RoN.one hf19.2.2) (al_c z al_n))))))))))))) z z z) ?_
  refine r_as z ?_
  refine r_nil (x_seq (c_seq ?_))
  obtain ⟨r33, hr33, hm41⟩ := bs hm31
  clear hm31
  refine c_any mixed (effs := [4, 8]) (V := []) ?_
  refine stage_st (fun _ h => mv6 (mv6 (mv6 h))) ?_
  refine stage_ext [(0, pt b0_ 0), (1, .agg (Ac.k r17.1 v18).toArray), (2, pt b0_ 0), (3, vS r9), (5, vB r17.2)] z ?_
  refine stage z z z z mk1_ [0, 1, 2, 3, 5] [4] z z z (q_mv z z z (q_u z z (o_ldn 3 (Ac.k r17.1 v18) ag40 z z z z) (q_mv z z z (q_mv z z z (q_mv z z z qn))))) ?_ (nxt z)
  refine ec (eo_w z (s_w (o_call ca18 z (B4.ok b0_ a0 (⟨(pv1, g2), (pv4, g5)⟩ : Ah.G) r9 r33 hr33))) ?_) en
  rintro _ R29 _ _ ⟨⟨⟨pv36, g37⟩, ⟨pv39, g40⟩⟩, rfl, rfl, rfl⟩
  refine stage_st (fun _ h => mv4 h) ?_
  refine stage_ext [(6, vB (r33.1 == r17.2)), (7, pt b0_ 0)] z ?_
  refine stage z z z z mk1_ [0, 1, 5, 6, 7] [8] z z z (q_mv z z z (q_u z z (o_ldn 4 (Ac.k r17.1 v18) ag40 z z z z) (q_mv z z z (q_u z z (o_bin z z (bB_eq Tryz.underlying4 r33.1 r17.2)) (q_u z z (o_as z) qn))))) ?_ (nxt z)
  refine ec (eo_u z (s_u (o_stn ag40 z z z (al_c z (al_c z (al_c z (al_c (RoN.one hf19.1) (al_c z (al_c z (al_c z (al_c z (al_c (RoN.one hf19.2.1.1) (al_c (RoS.one hf19.2.1.2) (al_c z (al_c (RoN.one hf19.2.2) (al_c z al_n))))))))))))) z z z)) (Le.refl _) ?_) en
  refine stage_ext [(9, vB (r33.1 == r17.2))] z ?_
  refine stage z z z z mk1_ [5, 6, 9] [] z z z (q_mv z z z (q_u z z (o_bin z z (bB_eq Tryz.underlying4 r33.1 r17.2)) (q_u z z (o_as z) qn))) en ?_
  intro _
  refine ex_sub (E' := [(7, pt b8 0), (6, pt b0_ 0), (8, vB (r33.1 == r17.2))]) ⟨z, z, z, trivial⟩ ?_
  refine x_seq (c_ret ?_)
  refine ex_st (fun _ h => mv3 (mv3 (mv3 h))) ?_
  refine ex_st (fun _ h => st_some (f := Ah.op (⟨(pv36, g37), (pv39, g40)⟩ : Ah.G)) (a := r33.2) (st_star_f (A := Ah.fl b0_ r33.2 (⟨(pv36, g37), (pv39, g40)⟩ : Ah.G)) h)) ?_
  obtain rfl := si hm41
  exact x_d3 z (rv_t z) (rv_n 1 (Ac.k r17.1 v18) ag40 z z z z) (rv_t z) (fun _ h => st_pk 5 [0] (by decide) h) le30 ⟨_, z, (pt b0_ 0, (⟨(pv36, g37), (pv39, g40)⟩ : Ah.G)), (⟨(⟨(⟨(v18.A.R.L.1, [])⟩ : Ab.G)⟩ : Aa.G), (⟨(⟨(v18.T.S.Rows.1, []), v18.T.S.Door⟩ : Ad.G), (⟨(v18.T.R.L.1, [])⟩ : Ab.G)⟩ : Ae.G)⟩ : Ac.G), z, ⟨hf19.1, ⟨⟨hf19.2.1.1, hf19.2.1.2⟩, hf19.2.2⟩⟩, z⟩
 have hm16 := iff_ hm13 h15
 clear hm13
 refine csr ?_
 refine r_bin z z (bI_eq a2.Kind 6) (r_as z ?_)
 refine nsq ?_
 refine c_if (b := (a2.Kind == 6)) z (fun h42 => ?_) fun h42 => ?_
 ·have hm43 := ift hm16 h42
  clear hm16
  refine csr ?_
  refine r_u (o_ldn 2 (Ac.k a1 g1_) ag40 z z z z) (r_mv z ?_)
  obtain ⟨r44, hr44, hm58⟩ := bs hm43
  clear hm43
  refine r_sw (s_w (o_call ca29 z (BI.ok a1 (⟨(⟨(⟨(g1_.A.R.L.1, [])⟩ : Ab.G)⟩ : Aa.G), (⟨(⟨(g1_.T.S.Rows.1, []), g1_.T.S.Door⟩ : Ad.G), (⟨(g1_.T.R.L.1, [])⟩ : Ab.G)⟩ : Ae.G)⟩ : Ac.G) ⟨h1.1, ⟨⟨h1.2.1.1, h1.2.1.2⟩, h1.2.2⟩⟩ r9 r44 hr44))) ?_
  rintro _ R56 _ le57 ⟨v45, rfl, hf46, rfl⟩
  refine r_mv z ?_
  refine r_ext z z ?_
  refine r_ext z z ?_
  refine r_new (o_al ze40) fun b59 => ?_
  refine r_u0 (o_stn ag40 z z z (al_c z (al_c z (al_c z (al_c (RoN.one hf46.1) (al_c z (al_c z (al_c z (al_c z (al_c (RoN.one hf46.2.1.1) (al_c (RoS.one hf46.2.1.2) (al_c z (al_c (RoN.one hf46.2.2) (al_c z al_n))))))))))))) z z z) ?_
  refine r_as z ?_
  refine r_nil (x_seq (c_seq ?_))
  obtain ⟨r60, hr60, hm68⟩ := bs hm58
  clear hm58
  refine c_any mixed (effs := [4, 8]) (V := []) ?_
  refine stage_st (fun _ h => mv6 (mv6 (mv6 h))) ?_
  refine stage_ext [(0, pt b0_ 0), (1, .agg (Ac.k r44.1 v45).toArray), (2, pt b0_ 0), (3, vS r9), (5, vB r44.2)] z ?_
  refine stage z z z z mk1_ [0, 1, 2, 3, 5] [4] z z z (q_mv z z z (q_u z z (o_ldn 3 (Ac.k r44.1 v45) ag40 z z z z) (q_mv z z z (q_mv z z z (q_mv z z z qn))))) ?_ (nxt z)
  refine ec (eo_w z (s_w (o_call ca19 z (Ct.ok b0_ a0 (⟨(pv1, g2), (pv4, g5)⟩ : Ah.G) r9 r60 hr60))) ?_) en
  rintro _ R56 _ _ ⟨⟨⟨pv63, g64⟩, ⟨pv66, g67⟩⟩, rfl, rfl, rfl⟩
  refine stage_st (fun _ h => mv4 h) ?_
  refine stage_ext [(6, vB (r60.1 == r44.2)), (7, pt b0_ 0)] z ?_
  refine stage z z z z mk1_ [0, 1, 5, 6, 7] [8] z z z (q_mv z z z (q_u z z (o_ldn 4 (Ac.k r44.1 v45) ag40 z z z z) (q_mv z z z (q_u z z (o_bin z z (bB_eq Tryz.underlying4 r60.1 r44.2)) (q_u z z (o_as z) qn))))) ?_ (nxt z)
  refine ec (eo_u z (s_u (o_stn ag40 z z z (al_c z (al_c z (al_c z (al_c (RoN.one hf46.1) (al_c z (al_c z (al_c z (al_c z (al_c (RoN.one hf46.2.1.1) (al_c (RoS.one hf46.2.1.2) (al_c z (al_c (RoN.one hf46.2.2) (al_c z al_n))))))))))))) z z z)) (Le.refl _) ?_) en
  refine stage_ext [(9, vB (r60.1 == r44.2))] z ?_
  refine stage z z z z mk1_ [5, 6, 9] [] z z z (q_mv z z z (q_u z z (o_bin z z (bB_eq Tryz.underlying4 r60.1 r44.2)) (q_u z z (o_as z) qn))) en ?_
  intro _
  refine ex_sub (E' := [(7, pt b8 0), (6, pt b0_ 0), (8, vB (r60.1 == r44.2))]) ⟨z, z, z, trivial⟩ ?_
  refine x_seq (c_ret ?_)
  refine ex_st (fun _ h => mv3 (mv3 (mv3 h))) ?_
  refine ex_st (fun _ h => st_some (f := Ah.op (⟨(pv63, g64), (pv66, g67)⟩ : Ah.G)) (a := r60.2) (st_star_f (A := Ah.fl b0_ r60.2 (⟨(pv63, g64), (pv66, g67)⟩ : Ah.G)) h)) ?_
  obtain rfl := si hm68
  exact x_d3 z (rv_t z) (rv_n 1 (Ac.k r44.1 v45) ag40 z z z z) (rv_t z) (fun _ h => st_pk 5 [0] (by decide) h) le57 ⟨_, z, (pt b0_ 0, (⟨(pv63, g64), (pv66, g67)⟩ : Ah.G)), (⟨(⟨(⟨(v45.A.R.L.1, [])⟩ : Ab.G)⟩ : Aa.G), (⟨(⟨(v45.T.S.Rows.1, []), v45.T.S.Door⟩ : Ad.G), (⟨(v45.T.R.L.1, [])⟩ : Ab.G)⟩ : Ae.G)⟩ : Ac.G), z, ⟨hf46.1, ⟨⟨hf46.2.1.1, hf46.2.1.2⟩, hf46.2.2⟩⟩, z⟩
 have hm43 := iff_ hm16 h42
 clear hm16
 refine csr ?_
 refine r_bin z z (bI_eq a2.Kind 7) (r_as z ?_)
 refine nsq ?_
 refine c_if (b := (a2.Kind == 7)) z (fun h69 => ?_) fun h69 => ?_
 ·have hm70 := ift hm43 h69
  clear hm43
  refine csr ?_
  refine r_u (o_ldn 2 (Ac.k a1 g1_) ag40 z z z z) ?_
  obtain ⟨r71, hr71, hm85⟩ := bs hm70
  clear hm70
  refine r_sw (s_w (o_call ca30 z (BP.ok a1 (⟨(⟨(⟨(g1_.A.R.L.1, [])⟩ : Ab.G)⟩ : Aa.G), (⟨(⟨(g1_.T.S.Rows.1, []), g1_.T.S.Door⟩ : Ad.G), (⟨(g1_.T.R.L.1, [])⟩ : Ab.G)⟩ : Ae.G)⟩ : Ac.G) ⟨h1.1, ⟨⟨h1.2.1.1, h1.2.1.2⟩, h1.2.2⟩⟩ r71 hr71))) ?_
  rintro _ R83 _ le84 ⟨v72, rfl, hf73, rfl⟩
  refine r_mv z ?_
  refine r_ext z z ?_
  refine r_ext z z ?_
  refine r_ext z z ?_
  refine r_new (o_al ze40) fun b86 => ?_
  refine r_u0 (o_stn ag40 z z z (al_c z (al_c z (al_c z (al_c (RoN.one hf73.1) (al_c z (al_c z (al_c z (al_c z (al_c (RoN.one hf73.2.1.1) (al_c (RoS.one hf73.2.1.2) (al_c z (al_c (RoN.one hf73.2.2) (al_c z al_n))))))))))))) z z z) ?_
  refine r_as z (r_as z ?_)
  refine nsr ?_
  refine r_mv z ?_
  obtain ⟨r87, hr87, hm95⟩ := bs hm85
  clear hm85
  refine rl_st (fun _ h => mv6 (mv6 (mv6 h))) ?_
  refine r_sw (s_w (o_call ca20 z (CB.ok b0_ a0 (⟨(pv1, g2), (pv4, g5)⟩ : Ah.G) r87 hr87))) ?_
  rintro _ R83 _ _ ⟨⟨⟨pv90, g91⟩, ⟨pv93, g94⟩⟩, rfl, rfl, rfl⟩
  refine r_mv z ?_
  refine r_ext z z ?_
  refine r_ext z z (r_as z (r_as z ?_))
  refine r_nil (x_seq (c_seq ?_))
  refine c_any mixed (effs := [11]) (V := []) ?_
  refine stage_st (fun _ h => mv4 h) ?_
  refine stage_ext [(0, pt b0_ 0), (1, .agg (Ac.k r71.1 v72).toArray), (2, vB r87.2.1), (3, vB r71.2.2), (4, vB (r87.2.1 == r71.2.2)), (5, vB (r87.2.1 == r71.2.2)), (6, gv (r87.2.1 == r71.2.2) (vS r87.1)), (7, gv (r87.2.1 == r71.2.2) (vS r71.2.1)), (8, gv (r87.2.1 == r71.2.2) (vB (r87.1 == r71.2.1))), (9, vB ((r87.2.1 == r71.2.2) && (r87.1 == r71.2.1))), (10, pt b0_ 0)] z ?_
  refine stage z z z z mk3_ [0, 1, 2, 3, 4, 5, 6, 7, 8, 9, 10] [11] z z z (q_mv z z z (q_u z z (o_ldn 4 (Ac.k r71.1 v72) ag40 z z z z) (q_mv z z z (q_mv z z z (q_u z z (o_bin z z (bB_eq Tryz.underlying4 r87.2.1 r71.2.2)) (q_mv z z z (qc z z (s_gt z z fun g => o_mv z) (qc z z (s_gt z z fun g => o_mv z) (qc z z (s_gt z z fun g => o_bin (evg z g) (evg z g) (bS_eq r87.1 r71.2.1)) (q_u z z (o_and z z) (q_u z z (o_as z) qn))))))))))) ?_ (nxt z)
  refine ec (eo_u z (s_u (o_stn ag40 z z z (al_c z (al_c z (al_c z (al_c (RoN.one hf73.1) (al_c z (al_c z (al_c z (al_c z (al_c (RoN.one hf73.2.1.1) (al_c (RoS.one hf73.2.1.2) (al_c z (al_c (RoN.one hf73.2.2) (al_c z al_n))))))))))))) z z z)) (Le.refl _) ?_) en
  refine stage_ext [(12, vB ((r87.2.1 == r71.2.2) && (r87.1 == r71.2.1)))] z ?_
  refine stage z z z z mk3_ [6, 7, 8, 9, 12] [] z z z (qc z z (s_gt z z fun g => o_mv z) (qc z z (s_gt z z fun g => o_mv z) (qc z z (s_gt z z fun g => o_bin (evg z g) (evg z g) (bS_eq r87.1 r71.2.1)) (q_u z z (o_and z z) (q_u z z (o_as z) qn))))) en ?_
  intro _
  refine ex_sub (E' := [(7, pt b8 0), (6, pt b0_ 0), (8, vB ((r87.2.1 == r71.2.2) && (r87.1 == r71.2.1)))]) ⟨z, z, z, trivial⟩ ?_
  refine x_seq (c_ret ?_)
  refine ex_st (fun _ h => mv3 (mv3 (mv3 h))) ?_
  refine ex_st (fun _ h => st_some (f := Ah.op (⟨(pv90, g91), (pv93, g94)⟩ : Ah.G)) (a := r87.2.2) (st_star_f (A := Ah.fl b0_ r87.2.2 (⟨(pv90, g91), (pv93, g94)⟩ : Ah.G)) h)) ?_
  obtain rfl := si hm95
  exact x_d3 z (rv_t z) (rv_n 1 (Ac.k r71.1 v72) ag40 z z z z) (rv_t z) (fun _ h => st_pk 5 [0] (by decide) h) le84 ⟨_, z, (pt b0_ 0, (⟨(pv90, g91), (pv93, g94)⟩ : Ah.G)), (⟨(⟨(⟨(v72.A.R.L.1, [])⟩ : Ab.G)⟩ : Aa.G), (⟨(⟨(v72.T.S.Rows.1, []), v72.T.S.Door⟩ : Ad.G), (⟨(v72.T.R.L.1, [])⟩ : Ab.G)⟩ : Ae.G)⟩ : Ac.G), z, ⟨hf73.1, ⟨⟨hf73.2.1.1, hf73.2.1.2⟩, hf73.2.2⟩⟩, z⟩
 have hm70 := iff_ hm43 h69
 clear hm43
 refine csr ?_
 refine r_bin z z (bI_eq a2.Kind 8) (r_as z ?_)
 refine nsq ?_
 refine c_if (b := (a2.Kind == 8)) z (fun h96 => ?_) fun h96 => ?_
 ·have hm97 := ift hm70 h96
  clear hm70
  refine csr ?_
  refine r_mv z (r_mv z ?_)
  obtain ⟨r98, hr98, hm99⟩ := bs hm97
  clear hm97
  refine rl_st (fun _ h => mv5 (mv5 (mv5 h))) ?_
  refine r_c (s_w (o_call ca21 z (CF.ok b0_ a0 (⟨(pv1, g2), (pv4, g5)⟩ : Ah.G) r9 r98 hr98))) ?_
  refine nsr ?_
  refine r_mv z ?_
  refine r_u (o_ldn 5 (Ac.k a1 g1_) ag40 z z z z) (r_mv z ?_)
  obtain ⟨r100, hr100, hm114⟩ := bs hm99
  clear hm99
  refine r_sw (s_w (o_call ca31 z (BW.ok a1 (⟨(⟨(⟨(g1_.A.R.L.1, [])⟩ : Ab.G)⟩ : Aa.G), (⟨(⟨(g1_.T.S.Rows.1, []), g1_.T.S.Door⟩ : Ad.G), (⟨(g1_.T.R.L.1, [])⟩ : Ab.G)⟩ : Ae.G)⟩ : Ac.G) ⟨h1.1, ⟨⟨h1.2.1.1, h1.2.1.2⟩, h1.2.2⟩⟩ r9 r100 hr100))) ?_
  rintro _ R112 _ le113 ⟨v101, rfl, hf102, rfl⟩
  refine r_as z ?_
  refine rl_st (fun _ h => mv3 h) ?_
  refine r_u0 (o_stn ag40 z z z (al_c z (al_c z (al_c z (al_c (RoN.one hf102.1) (al_c z (al_c z (al_c z (al_c z (al_c (RoN.one hf102.2.1.1) (al_c (RoS.one hf102.2.1.2) (al_c z (al_c (RoN.one hf102.2.2) (al_c z al_n))))))))))))) z z z) ?_
  refine r_as z ?_
  refine r_nil (x_seq (c_ret ?_))
  refine ex_st (fun _ h => mv3 (mv3 (mv3 h))) ?_
  refine ex_st (fun _ h => st_some (f := Ah.op (⟨(pv1, g2), (pv4, g5)⟩ : Ah.G)) (a := r98) (st_star_f (A := Ah.fl b0_ r98 (⟨(pv1, g2), (pv4, g5)⟩ : Ah.G)) h)) ?_
  obtain rfl := si hm114
  exact x_d3 z (rv_t z) (rv_n 1 (Ac.k r100 v101) ag40 z z z z) (rv_t z) (fun _ h => st_pk 4 [0] (by decide) h) le113 ⟨_, z, (pt b0_ 0, (⟨(pv1, g2), (pv4, g5)⟩ : Ah.G)), (⟨(⟨(⟨(v101.A.R.L.1, [])⟩ : Ab.G)⟩ : Aa.G), (⟨(⟨(v101.T.S.Rows.1, []), v101.T.S.Door⟩ : Ad.G), (⟨(v101.T.R.L.1, [])⟩ : Ab.G)⟩ : Ae.G)⟩ : Ac.G), z, ⟨hf102.1, ⟨⟨hf102.2.1.1, hf102.2.1.2⟩, hf102.2.2⟩⟩, z⟩
 have hm97 := iff_ hm70 h96
 clear hm70
 refine csr ?_
 refine r_bin z z (bI_eq a2.Kind 9) (r_as z ?_)
 refine nsq ?_
 refine c_if (b := (a2.Kind == 9)) z (fun h115 => ?_) fun h115 => ?_
 ·have hm116 := ift hm97 h115
  clear hm97
  refine csr ?_
  refine r_mv z ?_
  obtain ⟨r117, hr117, hm118⟩ := bs hm116
  clear hm116
  refine rl_st (fun _ h => mv5 (mv5 (mv5 h))) ?_
  refine r_c (s_w (o_call ca14 z (BA.ok b0_ a0 (⟨(pv1, g2), (pv4, g5)⟩ : Ah.G) r117 hr117))) ?_
  obtain ⟨r119, hr119, hm123⟩ := bs hm118
  clear hm118
  refine r_sw (s_w (o_call ca17 z (C8.ok r117 r119 hr119))) ?_
  rintro _ R _ _ ⟨⟨pv121, g122⟩, rfl, rfl, rfl⟩
  refine r_mv z ?_
  refine r_ext z z ?_
  refine r_ext z z (r_as z (r_as z ?_))
  refine r_nil (x_seq (c_seq ?_))
  refine c_any mixed (effs := [5]) (V := []) ?_
  refine stage_st (fun _ h => mv4 h) ?_
  refine stage_ext [(0, pv121), (1, .agg (Ac.k a1 g1_).toArray), (2, vI r119.2), (3, vB (r119.2 == 0)), (4, pv121)] z ?_
  refine stage z z z z [0, 0, 0, 4, 1, 19, 63] [0, 1, 2, 3, 4] [5] z z z (q_mv z z z (q_u z z (o_ldn 6 (Ac.k a1 g1_) ag40 z z z z) (q_mv z z z (q_u z z (o_bin z z (bI_eq r119.2 0)) (q_u z z (o_as z) qn))))) ?_ (nxt z)
  refine ec (eo_u z (s_u (o_stn ag40 z z z (al_c z (al_c z (al_c z (al_c (RoN.one h1.1) (al_c z (al_c z (al_c z (al_c z (al_c (RoN.one h1.2.1.1) (al_c (RoS.one h1.2.1.2) (al_c z (al_c (RoN.one h1.2.2) (al_c z al_n))))))))))))) z z z)) (Le.refl _) ?_) en
  refine stage_ext [(6, vB (r119.2 == 0))] z ?_
  refine stage z z z z [0, 0, 0, 4, 1, 19, 63] [2, 3, 6] [] z z z (q_mv z z z (q_u z z (o_bin z z (bI_eq r119.2 0)) (q_u z z (o_as z) qn))) en ?_
  intro _
  refine ex_sub (E' := [(7, pt b8 0), (6, pv121), (8, vB (r119.2 == 0))]) ⟨z, z, z, trivial⟩ ?_
  refine x_seq (c_ret ?_)
  obtain rfl := si hm123
  exact x_d3 z (rv_t z) (rv_n 0 (Ac.k a1 g1_) ag40 z z z z) (rv_t z) (fun _ h => st_pk 7 [1] (by decide) h) (Le.refl _) ⟨_, z, (pv121, g122), (⟨(⟨(⟨(g1_.A.R.L.1, [])⟩ : Ab.G)⟩ : Aa.G), (⟨(⟨(g1_.T.S.Rows.1, []), g1_.T.S.Door⟩ : Ad.G), (⟨(g1_.T.R.L.1, [])⟩ : Ab.G)⟩ : Ae.G)⟩ : Ac.G), z, ⟨h1.1, ⟨⟨h1.2.1.1, h1.2.1.2⟩, h1.2.2⟩⟩, z⟩
 have hm116 := iff_ hm97 h115
 clear hm97
 refine c_skip (x_blk (x_seq (csr ?_)))
 refine r_u (o_ldn 2 (Ac.k a1 g1_) ag40 z z z z) (r_mv z ?_)
 obtain ⟨r124, hr124, hm139⟩ := bs hm116
 clear hm116
 refine r_sw (s_w (o_call ca32 z (BK.ok a1 (⟨(⟨(⟨(g1_.A.R.L.1, [])⟩ : Ab.G)⟩ : Aa.G), (⟨(⟨(g1_.T.S.Rows.1, []), g1_.T.S.Door⟩ : Ad.G), (⟨(g1_.T.R.L.1, [])⟩ : Ab.G)⟩ : Ae.G)⟩ : Ac.G) ⟨h1.1, ⟨⟨h1.2.1.1, h1.2.1.2⟩, h1.2.2⟩⟩ r9 r124 hr124))) ?_
 rintro _ R137 _ le138 ⟨v125, v136, rfl, hf126, rfl⟩
 refine r_mv z ?_
 refine r_ext z z ?_
 refine r_ext z z ?_
 refine r_new (o_al ze40) fun b140 => ?_
 refine r_u0 (o_stn ag40 z z z (al_c z (al_c z (al_c z (al_c (RoN.one hf126.1) (al_c z (al_c z (al_c z (al_c z (al_c (RoN.one hf126.2.1.1) (al_c (RoS.one hf126.2.1.2) (al_c z (al_c (RoN.one hf126.2.2) (al_c z al_n))))))))))))) z z z) ?_
 refine r_as z ?_
 refine r_nil (x_seq (c_seq ?_))
 refine cd_st (fun _ h => mv1 h) ?_
 refine cd_ex (fun w h => st_freeze w h) fun R141 hf144 => ?_
 obtain ⟨le142, h143⟩ := hf144
 obtain ⟨r145, hr145, hm154⟩ := bs hm139
 clear hm139
 obtain ⟨r159, hr159, hm160⟩ := bs hm154
 clear hm154
 refine c_any mixed (effs := [4, 6, 8]) (V := []) ?_
 refine stage_st (fun _ h => mv6 (mv6 (mv6 h))) ?_
 refine stage_ext [(0, pt b0_ 0), (1, .agg (Ac.k r124.1 v125).toArray), (2, pt b0_ 0), (3, vS r9), (5, v136)] z ?_
 refine stage z z z z mk0_ [0, 1, 2, 3, 5] [4] z z z (q_mv z z z (q_u z z (o_ldn 3 (Ac.k r124.1 v125) ag40 z z z z) (q_mv z z z (q_mv z z z (q_mv z z z qn))))) ?_ (nxt z)
 refine ec (eo_w z (s_w (o_call ca23 z (Bm.ok b0_ a0 (⟨(pv1, g2), (pv4, g5)⟩ : Ah.G) r9 r145 hr145))) ?_) en
 rintro v146 R141 _ _ ⟨_, ⟨⟨pv149, g150⟩, ⟨pv152, g153⟩⟩, rfl, rfl, rfl⟩
 refine stage_ex (fun w h => st_freeze w h) fun R155 hf158 => ?_
 obtain ⟨le156, h157⟩ := hf158
 refine stage z z z z mk0_ [0, 1, 5] [6] z z z (q_mv z z z (q_u z z (o_ldn 3 (Ac.k r124.1 v125) ag40 z z z z) (q_mv z z z qn))) ?_ (nxt z)
 refine ec (eo_c z (s_w (o_call ca22 z (CC.ok v146 r145.1 h157 v136 r124.2 (RoS.mono le156 h143) r159 hr159))) ?_) en
 refine stage_st (fun _ h => mv4 h) ?_
 refine stage_ext [(7, pt b0_ 0)] z ?_
 refine stage z z z z mk0_ [0, 1, 7] [8] z z z (q_mv z z z (q_u z z (o_ldn 4 (Ac.k r124.1 v125) ag40 z z z z) (q_u z z (o_as z) qn))) ?_ (nxt z)
 refine ec (eo_u z (s_u (o_stn ag40 z z z (al_c z (al_c z (al_c z (al_c (RoN.one (RoN.mono (Le.trans le142 le156) hf126.1)) (al_c z (al_c z (al_c z (al_c z (al_c (RoN.one (RoN.mono (Le.trans le142 le156) hf126.2.1.1)) (al_c (RoS.one (RoS.mono (Le.trans le142 le156) hf126.2.1.2)) (al_c z (al_c (RoN.one (RoN.mono (Le.trans le142 le156) hf126.2.2)) (al_c z al_n))))))))))))) z z z)) (Le.refl _) ?_) en
 refine stage_ext [(9, vB r159)] z ?_
 refine stage z z z z mk0_ [9] [] z z z (q_u z z (o_as z) qn) en ?_
 intro _
 refine ex_sub (E' := [(7, pt b8 0), (6, pt b0_ 0), (8, vB r159)]) ⟨z, z, z, trivial⟩ ?_
 refine x_seq (c_ret ?_)
 refine ex_st (fun _ h => mv3 (mv3 (mv3 h))) ?_
 refine ex_st (fun _ h => st_some (f := Ah.op (⟨(pv149, g150), (pv152, g153)⟩ : Ah.G)) (a := r145.2) (st_star_f (A := Ah.fl b0_ r145.2 (⟨(pv149, g150), (pv152, g153)⟩ : Ah.G)) h)) ?_
 obtain rfl := si hm160
 exact x_d3 z (rv_t z) (rv_n 1 (Ac.k r124.1 v125) ag40 z z z z) (rv_t z) (fun _ h => st_pk 5 [0] (by decide) h) (Le.trans (Le.trans le138 le142) le156) ⟨_, z, (pt b0_ 0, (⟨(pv149, g150), (pv152, g153)⟩ : Ah.G)), (⟨(⟨(⟨(v125.A.R.L.1, [])⟩ : Ab.G)⟩ : Aa.G), (⟨(⟨(v125.T.S.Rows.1, []), v125.T.S.Door⟩ : Ad.G), (⟨(v125.T.R.L.1, [])⟩ : Ab.G)⟩ : Ae.G)⟩ : Ac.G), z, ⟨(RoN.mono (Le.trans le142 le156) hf126.1), ⟨⟨(RoN.mono (Le.trans le142 le156) hf126.2.1.1), (RoS.mono (Le.trans le142 le156) hf126.2.1.2)⟩, (RoN.mono (Le.trans le142 le156) hf126.2.2)⟩⟩, z⟩
def Bd (a0 : Ac) : Option Int :=
 if (a0.Kind == 1) then (AF a0.A).bind fun r3 => some r3 else (BB a0.T).bind fun r5 => some r5
theorem Bd.ok {G R F} (a0 : Ac) (g0_ : Ac.G) (h0 : Ac.ro R a0 g0_) (r : Int) (hm : Bd a0 = some r) : CO Tryz.prog 10 [.agg (Ac.k a0 g0_).toArray] G R (F)
  (Ret fun u R' L' => u = vI r ∧ R' = R ∧ L' = F) := by
 unfold Bd at hm
 refine co_ofN (N := 12) Tryz.func10 z z ?_
 refine csr ?_
 refine r_new (o_bx (Ac.k a0 g0_) z z) fun b0 => ?_
 refine r_as z ?_
 refine nssr ?_
 refine r_fa fa40_0 z (r_ld 0 sc3 z z z (r_bin z z (bI_eq a0.Kind 1) ?_))
 refine nsq ?_
 refine c_if (b := (a0.Kind == 1)) z (fun h1 => ?_) fun h1 => ?_
 ·have hm2 := ift hm h1
  clear hm
  refine csr ?_
  refine r_fa fa40_1 z ?_
  refine r_u (o_ldn 0 (Aa.k a0.A g0_.A) ag32 z z z z) ?_
  obtain ⟨r3, hr3, hm4⟩ := bs hm2
  clear hm2
  refine r_u (o_callq ca35 z (AF.ok a0.A (⟨(⟨(g0_.A.R.L.1, [])⟩ : Ab.G)⟩ : Aa.G) h0.1 r3 hr3)) (r_as z ?_)
  refine r_nil (x_seq (c_ret ?_))
  obtain rfl := si hm4
  refine ex_st (fun _ h => st_pk 1 [] (by decide) h) ?_
  exact x_r1 z (rv_t z) (Le.refl _) ⟨_, z, z, z, z⟩
 have hm2 := iff_ hm h1
 clear hm
 refine c_skip (x_seq (csr ?_))
 refine r_fa fa40_2 z ?_
 refine r_u (o_ldn 0 (Ae.k a0.T g0_.T) ag38 z z z z) ?_
 obtain ⟨r5, hr5, hm6⟩ := bs hm2
 clear hm2
 refine r_u (o_callq ca36 z (BB.ok a0.T (⟨(⟨(g0_.T.S.Rows.1, []), g0_.T.S.Door⟩ : Ad.G), (⟨(g0_.T.R.L.1, [])⟩ : Ab.G)⟩ : Ae.G) ⟨⟨h0.2.1.1, h0.2.1.2⟩, h0.2.2⟩ r5 hr5)) (r_as z ?_)
 refine r_nil (x_seq (c_ret ?_))
 obtain rfl := si hm6
 refine ex_st (fun _ h => st_pk 1 [] (by decide) h) ?_
 exact x_r1 z (rv_t z) (Le.refl _) ⟨_, z, z, z, z⟩
def BL (a0 : Ac) (a1 : Str) : Option Bool :=
 if (a0.Kind == 1) then (AT a0.A a1).bind fun r3 => if r3 then some true else if (a0.Kind == 2) then (A3 a0.T a1).bind fun r9 => some r9 else some false else if (a0.Kind == 2) then (A3 a0.T a1).bind fun r13 => some r13 else some false
theorem BL.ok {G R F} (a0 : Ac) (g0_ : Ac.G) (h0 : Ac.ro R a0 g0_) (a1 : Str) (r : Bool) (hm : BL a0 a1 = some r) : CO Tryz.prog 13 [.agg (Ac.k a0 g0_).toArray, vS a1] G R (F)
  (Ret fun u R' L' => u = vB r ∧ R' = R ∧ L' = F) := by
 unfold BL at hm
 refine co_ofN (N := 25) Tryz.func13 z z ?_
 refine csr ?_
 refine r_new (o_bx (Ac.k a0 g0_) z z) fun b0 => ?_
 refine r_as z ?_
 refine r_nil (x_seq (c_seq ?_))
 refine cd_by (a0.Kind == 1) (fun h1 => ?_) fun h1 => ?_
 rotate_left
 ·have hm2 := iff_ hm h1
  clear hm
  refine cd_by (a0.Kind == 2) (fun h11 => ?_) fun h11 => ?_
  ·have hm12 := ift hm2 h11
   clear hm2
   refine c_reg ?_
   refine r_fa fa40_0 z (r_ld 0 sc3 z z z (r_bin z z (bI_eq a0.Kind 1) (r_mv z ?_)))
   refine r_s (s_n z z h1) ?_
   refine r_s (s_n z z h1) ?_
   refine r_s (s_n z z h1) ?_
   refine r_s (s_n z z h1) ?_
   refine r_u (o_pf z h1 z) (r_mv z ?_)
   refine r_s (s_y z z z (o_fa fa40_0 z)) ?_
   refine r_s (s_y z z z (o_ld 0 sc3 z z z)) ?_
   refine r_s (s_y z z z (o_bin z z (bI_eq a0.Kind 2))) ?_
   refine r_s (s_y z z z (o_mv z)) ?_
   refine r_s (s_y z z h11 (o_fa fa40_2 z)) ?_
   refine r_s (s_y z z h11 (o_ldn 0 (Ae.k a0.T g0_.T) ag38 z z z z)) ?_
   refine r_s (s_y z z h11 (o_mv z)) ?_
   obtain ⟨r13, hr13, hm14⟩ := bs hm12
   clear hm12
   refine r_s (s_y z z h11 (o_callq ca40 z (A3.ok a0.T (⟨(⟨(g0_.T.S.Rows.1, []), g0_.T.S.Door⟩ : Ad.G), (⟨(g0_.T.R.L.1, [])⟩ : Ab.G)⟩ : Ae.G) ⟨⟨h0.2.1.1, h0.2.1.2⟩, h0.2.2⟩ a1 r13 hr13))) ?_
   refine r_s (s_y z z z (o_pt z h11 z)) ?_
   refine r_u (o_pf z z z) (r_as z ?_)
   refine r_nil (x_seq (c_ret ?_))
   obtain rfl := si hm14
   refine ex_st (fun _ h => st_pk 1 [] (by decide) h) ?_
   exact x_r1 z (rv_t z) (Le.refl _) ⟨_, z, z, z, z⟩
  have hm12 := iff_ hm2 h11
  clear hm2
  refine c_reg ?_
  refine r_fa fa40_0 z (r_ld 0 sc3 z z z (r_bin z z (bI_eq a0.Kind 1) (r_mv z ?_)))
  refine r_s (s_n z z h1) ?_
  refine r_s (s_n z z h1) ?_
  refine r_s (s_n z z h1) ?_
  refine r_s (s_n z z h1) ?_
  refine r_u (o_pf z h1 z) (r_mv z ?_)
  refine r_s (s_y z z z (o_fa fa40_0 z)) ?_
  refine r_s (s_y z z z (o_ld 0 sc3 z z z)) ?_
  refine r_s (s_y z z z (o_bin z z (bI_eq a0.Kind 2))) ?_
  refine r_s (s_y z z z (o_mv z)) ?_
  refine r_s (s_n z z h11) ?_
  refine r_s (s_n z z h11) ?_
  refine r_s (s_n z z h11) ?_
  refine r_s (s_n z z h11) ?_
  refine r_s (s_y z z z (o_pf z h11 z)) ?_
  refine r_u (o_pf z z z) (r_as z ?_)
  refine r_nil (x_seq (c_ret ?_))
  obtain rfl := si hm12
  refine ex_st (fun _ h => st_pk 1 [] (by decide) h) ?_
  exact x_r1 z (rv_t z) (Le.refl _) ⟨_, z, z, z, z⟩
 have hm2 := ift hm h1
 clear hm
 obtain ⟨r3, hr3, hm4⟩ := bs hm2
 clear hm2
 refine cd_by r3 (fun h5 => ?_) fun h5 => ?_
 ·have hm6 := ift hm4 h5
  clear hm4
  refine c_reg ?_
  refine r_fa fa40_0 z (r_ld 0 sc3 z z z (r_bin z z (bI_eq a0.Kind 1) (r_mv z ?_)))
  refine r_s (s_y z z h1 (o_fa fa40_1 z)) ?_
  refine r_s (s_y z z h1 (o_ldn 0 (Aa.k a0.A g0_.A) ag32 z z z z)) ?_
  refine r_s (s_y z z h1 (o_mv z)) ?_
  refine r_s (s_y z z h1 (o_callq ca39 z (AT.ok a0.A (⟨(⟨(g0_.A.R.L.1, [])⟩ : Ab.G)⟩ : Aa.G) h0.1 a1 r3 hr3))) ?_
  refine r_u (o_pt z h1 z) (r_mv z ?_)
  refine r_s (s_n z z h5) ?_
  refine r_s (s_n z z h5) ?_
  refine r_s (s_n z z h5) ?_
  refine r_s (s_n z z h5) ?_
  refine r_s (s_nu z z) ?_
  refine r_s (s_nu z z) ?_
  refine r_s (s_nu z z) ?_
  refine r_s (s_nu z z) ?_
  refine r_s (s_n z z h5) ?_
  refine r_u (o_pt z h5 z) (r_as z ?_)
  refine r_nil (x_seq (c_ret ?_))
  obtain rfl := si hm6
  refine ex_st (fun _ h => st_pk 1 [] (by decide) h) ?_
  exact x_r1 z (rv_t z) (Le.refl _) ⟨_, z, z, z, z⟩
 have hm6 := iff_ hm4 h5
 clear hm4
 refine cd_by (a0.Kind == 2) (fun h7 => ?_) fun h7 => ?_
 ·have hm8 := ift hm6 h7
  clear hm6
  refine c_reg ?_
  refine r_fa fa40_0 z (r_ld 0 sc3 z z z (r_bin z z (bI_eq a0.Kind 1) (r_mv z ?_)))
  refine r_s (s_y z z h1 (o_fa fa40_1 z)) ?_
  refine r_s (s_y z z h1 (o_ldn 0 (Aa.k a0.A g0_.A) ag32 z z z z)) ?_
  refine r_s (s_y z z h1 (o_mv z)) ?_
  refine r_s (s_y z z h1 (o_callq ca39 z (AT.ok a0.A (⟨(⟨(g0_.A.R.L.1, [])⟩ : Ab.G)⟩ : Aa.G) h0.1 a1 r3 hr3))) ?_
  refine r_u (o_pt z h1 z) (r_mv z ?_)
  refine r_s (s_y z z h5 (o_fa fa40_0 z)) ?_
  refine r_s (s_y z z h5 (o_ld 0 sc3 z z z)) ?_
  refine r_s (s_y z z h5 (o_bin z z (bI_eq a0.Kind 2))) ?_
  refine r_s (s_y z z h5 (o_mv z)) ?_
  refine r_s (s_y z z h7 (o_fa fa40_2 z)) ?_
  refine r_s (s_y z z h7 (o_ldn 0 (Ae.k a0.T g0_.T) ag38 z z z z)) ?_
  refine r_s (s_y z z h7 (o_mv z)) ?_
  obtain ⟨r9, hr9, hm10⟩ := bs hm8
  clear hm8
  refine r_s (s_y z z h7 (o_callq ca40 z (A3.ok a0.T (⟨(⟨(g0_.T.S.Rows.1, []), g0_.T.S.Door⟩ : Ad.G), (⟨(g0_.T.R.L.1, [])⟩ : Ab.G)⟩ : Ae.G) ⟨⟨h0.2.1.1, h0.2.1.2⟩, h0.2.2⟩ a1 r9 hr9))) ?_
  refine r_s (s_y z z h5 (o_pt z h7 z)) ?_
  refine r_u (o_pf z h5 z) (r_as z ?_)
  refine r_nil (x_seq (c_ret ?_))
  obtain rfl := si hm10
  refine ex_st (fun _ h => st_pk 1 [] (by decide) h) ?_
  exact x_r1 z (rv_t z) (Le.refl _) ⟨_, z, z, z, z⟩
 have hm8 := iff_ hm6 h7
 clear hm6
 refine c_reg ?_
 refine r_fa fa40_0 z (r_ld 0 sc3 z z z (r_bin z z (bI_eq a0.Kind 1) (r_mv z ?_)))
 refine r_s (s_y z z h1 (o_fa fa40_1 z)) ?_
 refine r_s (s_y z z h1 (o_ldn 0 (Aa.k a0.A g0_.A) ag32 z z z z)) ?_
 refine r_s (s_y z z h1 (o_mv z)) ?_
 refine r_s (s_y z z h1 (o_callq ca39 z (AT.ok a0.A (⟨(⟨(g0_.A.R.L.1, [])⟩ : Ab.G)⟩ : Aa.G) h0.1 a1 r3 hr3))) ?_
 refine r_u (o_pt z h1 z) (r_mv z ?_)
 refine r_s (s_y z z h5 (o_fa fa40_0 z)) ?_
 refine r_s (s_y z z h5 (o_ld 0 sc3 z z z)) ?_
 refine r_s (s_y z z h5 (o_bin z z (bI_eq a0.Kind 2))) ?_
 refine r_s (s_y z z h5 (o_mv z)) ?_
 refine r_s (s_n z z h7) ?_
 refine r_s (s_n z z h7) ?_
 refine r_s (s_n z z h7) ?_
 refine r_s (s_n z z h7) ?_
 refine r_s (s_y z z h5 (o_pf z h7 z)) ?_
 refine r_u (o_pf z h5 z) (r_as z ?_)
 refine r_nil (x_seq (c_ret ?_))
 obtain rfl := si hm8
 refine ex_st (fun _ h => st_pk 1 [] (by decide) h) ?_
 exact x_r1 z (rv_t z) (Le.refl _) ⟨_, z, z, z, z⟩
def BC  : Nat → UInt64 → Str → Option (UInt64 × Str)
 | 0, _, _ => none
 | k9 + 1, n_7, s_8 => if decide (127 < n_7) then if s_8.length + [(128 + (n_7 % 128)).toUInt8].length ≤ maxS then BC k9 (n_7 / 128) (s_8 ++ [(128 + (n_7 % 128)).toUInt8]) else none else some (n_7, s_8)
def AE (a0 : UInt64) : Option Str :=
 Option.bind (BC 11 a0 []) fun p0 => if p0.2.length + [p0.1.toUInt8].length ≤ maxS then some (p0.2 ++ [p0.1.toUInt8]) else none
theorem AE.ok {G R F} (a0 : UInt64) (r : Str) (hm : AE a0 = some r) : CO Tryz.prog 82 [vW a0] G R (F)
  (Ret fun u R' L' => u = vS r ∧ R' = R ∧ L' = F) := by
 unfold AE at hm
 refine co_ofN (N := 22) Tryz.func82 z z ?_
 refine csr ?_
 refine r_as z ?_
 refine nsr ?_
 refine r_as z ?_
 refine r_nil (x_seq (c_seq ?_))
 obtain ⟨p0, hp1, hm2⟩ := bs hm
 refine cd_join (E' := [(0, vW p0.1), (3, vS p0.2)]) (L' := F) ?_ fun K3 => ?_
 ·refine x_seq (csr ?_)
  refine r_mv z (r_mv z (r_u (o_cv z (cWY Tryz.underlying27 Tryz.underlying5 p0.1)) ?_))
  refine r_sw (s_w (o_bsl (en := eY) (sz := 1) (e := 5) (cs := [vY p0.1.toUInt8]) (r := [p0.1.toUInt8]) z (fun _ => by kernel_rfl) z (by decide) z (fun _ => z))) ?_
  rintro v4 R _ _ ⟨rfl, rfl⟩
  refine r_u (o_bs 0 Tryz.underlying111 Tryz.underlying5 Tryz.underlying9 z z) ?_
  obtain ⟨h5, hm6⟩ := ig hm2
  clear hm2
  refine r_bin z z (bS_add p0.2 [p0.1.toUInt8] h5) (r_as z ?_)
  refine r_nil (x_seq (c_ret ?_))
  obtain rfl := si hm6
  refine ex_st (fun _ h => st_pk 1 [] (by decide) h) ?_
  exact x_r1 z (rv_t z) (Le.refl _) ⟨_, z, z, z, z⟩
 refine c_blk ?_
 refine cd_loop (M := fun k9 (s : UInt64 × Str) => BC k9 s.1 s.2 = some p0) (Ef := fun (s : UInt64 × Str) => [(0, vW s.1), (3, vS s.2)]) (Lf := fun (s : UInt64 × Str) => F) 11 (a0, []) hp1 ⟨z, z, trivial⟩ (fun _ h => h) (fun _ h => by cases h) fun k9 s hM11 => ?_
 obtain ⟨n_7, s_8⟩ := s
 have hm10 : BC (k9 + 1) n_7 s_8 = some p0 := hM11
 rw [BC] at hm10
 refine c_seq (csr ?_)
 refine r_mv z (r_bin z z (bW_gt n_7 127) ?_)
 refine nsq ?_
 refine c_if (b := decide (127 < n_7)) z (fun h12 => ?_) fun h12 => ?_
 ·have hm13 := ift hm10 h12
  clear hm10
  refine c_skip (x_seq (c_blk (csr ?_)))
  refine r_mv z (r_mv z (r_bin z z (bW_rem n_7 128 (by decide)) (r_bin z z (bW_add 128 (n_7 % 128)) (r_u (o_cv z (cWY Tryz.underlying27 Tryz.underlying5 (128 + (n_7 % 128)))) ?_))))
  refine r_sw (s_w (o_bsl (en := eY) (sz := 1) (e := 5) (cs := [vY ((128 + (n_7 % 128)).toUInt8)]) (r := [(128 + (n_7 % 128)).toUInt8]) z (fun _ => by kernel_rfl) z (by decide) z (fun _ => z))) ?_
  rintro v14 R _ _ ⟨rfl, rfl⟩
  refine r_u (o_bs 0 Tryz.underlying111 Tryz.underlying5 Tryz.underlying9 z z) ?_
  obtain ⟨h15, hm16⟩ := ig hm13
  clear hm13
  refine r_bin z z (bS_add s_8 [(128 + (n_7 % 128)).toUInt8] h15) (r_as z ?_)
  refine r_nil (x_seq (c_reg ?_))
  refine r_mv z (r_bin z z (bW_quo n_7 128 (by decide)) (r_as z ?_))
  refine r_nil (x_blk ?_)
  exact x_lp (n_7 / 128, s_8 ++ [(128 + (n_7 % 128)).toUInt8]) hm16 ⟨z, z, trivial⟩ (fun _ h => st_pk 1 [] (by decide) h)
 have hm13 := iff_ hm10 h12
 clear hm10
 refine c_exit (x_exit (ks' := _) z ?_)
 obtain rfl := si hm13
 exact x_sub K3 ⟨z, z, trivial⟩ (fun _ h => st_pk 0 [] (by decide) h)
def CJ (a0 : Str) : Option Str :=
 (AE (toW (a0.length : Int))).bind fun r0 => if r0.length + a0.length ≤ maxS then some (r0 ++ a0) else none
theorem CJ.ok {G R F} (a0 : Str) (r : Str) (hm : CJ a0 = some r) : CO Tryz.prog 114 [vS a0] G R (F)
  (Ret fun u R' L' => u = vS r ∧ R' = R ∧ L' = F) := by
 unfold CJ at hm
 refine co_ofN (N := 9) Tryz.func114 z z ?_
 refine csr ?_
 refine r_as z ?_
 refine nsr ?_
 refine r_mv z (r_u (o_lenS Tryz.underlying9 z) (r_u (o_cv z (cIW Tryz.underlying3 Tryz.underlying27 (a0.length : Int))) ?_))
 obtain ⟨r0, hr0, hm1⟩ := bs hm
 clear hm
 refine r_u (o_callq ca82 z (AE.ok (toW (a0.length : Int)) r0 hr0)) (r_mv z ?_)
 obtain ⟨h2, hm3⟩ := ig hm1
 clear hm1
 refine r_bin z z (bS_add r0 a0 h2) (r_as z ?_)
 refine r_nil (x_seq (c_ret ?_))
 obtain rfl := si hm3
 exact x_r1 z (rv_t z) (Le.refl _) ⟨_, z, z, z, z⟩
def Br (x22 : List Str) : Nat → Str → Int → Option (Str)
 | 0, _, _ => none
 | k35 + 1, out_33, k_34 => if decide (k_34 < (x22.length : Int)) then (gi x22 k_34).bind fun x40 => (CJ x40).bind fun r42 => if out_33.length + r42.length ≤ maxS then Br x22 k35 (out_33 ++ r42) (i64 (k_34 + 1)) else none else some out_33
def BQ (a0 : Ab) : Nat → Str → Int → Option (Str)
 | 0, _, _ => none
 | k13 + 1, out_11, i_12 => if decide (i_12 < (a0.L.length : Int)) then Option.bind ((gi a0.L i_12).bind fun x22 => (AE (toW (x22.length : Int))).bind fun r25 => if out_11.length + r25.length ≤ maxS then Option.bind (Br x22 (((x22.length : Int) - 0).toNat + 1) (out_11 ++ r25) 0) fun p29 => some p29 else none) fun p18 => BQ a0 k13 p18 (i64 (i_12 + 1)) else some out_11
def Ba (a0 : Ab) : Option Str :=
 (AE (toW (a0.L.length : Int))).bind fun r1 => (AE (toW a0.Places)).bind fun r3 => if r1.length + r3.length ≤ maxS then Option.bind (BQ a0 (((a0.L.length : Int) - 0).toNat + 1) (r1 ++ r3) 0) fun p7 => some p7 else none
theorem Ba.ok {G R F} (a0 : Ab) (g0_ : Ab.G) (h0 : Ab.ro R a0 g0_) (r : Str) (hm : Ba a0 = some r) : CO Tryz.prog 83 [.agg [g0_.L.1, vI a0.Places].toArray] G R (F)
  (Ret fun u R' L' => u = vS r ∧ R' = R ∧ L' = F) := by
 unfold Ba at hm
 refine co_ofN (N := 55) Tryz.func83 z z ?_
 refine csr ?_
 refine r_new (o_bx [g0_.L.1, vI a0.Places] z z) fun b0 => ?_
 refine r_as z ?_
 refine r_nil (x_seq (c_seq ?_))
 obtain ⟨r1, hr1, hm2⟩ := bs hm
 clear hm
 obtain ⟨r3, hr3, hm4⟩ := bs hm2
 clear hm2
 obtain ⟨h5, hm6⟩ := ig hm4
 clear hm4
 refine c_any mixed (effs := []) (V := []) ?_
 refine stage_ext [(0, pt b0 0), (1, g0_.L.1), (2, vI (a0.L.length : Int)), (3, vW (toW (a0.L.length : Int))), (4, vS r1), (5, pt b0 1), (6, vI a0.Places), (7, vW (toW a0.Places)), (8, vS r3), (9, vS (r1 ++ r3)), (10, vS (r1 ++ r3))] z ?_
 refine stage z z z z [0, 1, 3, 7, 15, 0, 32, 96, 255, 511, 1023] [0, 1, 2, 3, 4, 5, 6, 7, 8, 9, 10] [] z z z (q_fa z z fa30_0 z (q_ld z z 0 sc28 z z z (q_u z z (o_lenRN Tryz.underlying28 z h0) (q_u z z (o_cv z (cIW Tryz.underlying3 Tryz.underlying27 (a0.L.length : Int))) (q_u z z (o_callq ca82 z (AE.ok (toW (a0.L.length : Int)) r1 hr1)) (q_fa z z fa30_1 z (q_ld z z 0 sc3 z z z (q_u z z (o_cv z (cIW Tryz.underlying3 Tryz.underlying27 a0.Places)) (q_u z z (o_callq ca82 z (AE.ok (toW a0.Places) r3 hr3)) (q_u z z (o_bin z z (bS_add r1 r3 h5)) (q_u z z (o_as z) qn))))))))))) en ?_
 intro _
 refine ex_sub (E' := [(1, pt b0 0), (3, vS (r1 ++ r3))]) ⟨z, z, trivial⟩ ?_
 refine x_seq (c_seq (csr ?_))
 refine r_as z ?_
 refine nsq ?_
 obtain ⟨p7, hp8, hm9⟩ := bs hm6
 refine cd_join (E' := [(3, vS p7)]) (L' := Bk b0 30 [g0_.L.1, vI a0.Places] :: F) ?_ fun K10 => ?_
 ·refine x_seq (csr ?_)
  refine r_mv z (r_as z ?_)
  refine r_nil (x_seq (c_ret ?_))
  obtain rfl := si hm9
  refine ex_st (fun _ h => st_pk 1 [] (by decide) h) ?_
  exact x_r1 z (rv_t z) (Le.refl _) ⟨_, z, z, z, z⟩
 refine c_blk ?_
 refine cd_loop (M := fun k13 (s : Str × Int) => BQ a0 k13 s.1 s.2 = some p7) (Ef := fun (s : Str × Int) => [(1, pt b0 0), (3, vS s.1), (4, vI s.2)]) (Lf := fun (s : Str × Int) => Bk b0 30 [g0_.L.1, vI a0.Places] :: F) (((a0.L.length : Int) - 0).toNat + 1) (r1 ++ r3, 0) hp8 ⟨z, z, z, trivial⟩ (fun _ h => h) (fun _ h => by cases h) fun k13 s hM15 => ?_
 obtain ⟨out_11, i_12⟩ := s
 have hm14 : BQ a0 (k13 + 1) out_11 i_12 = some p7 := hM15
 rw [BQ] at hm14
 refine c_seq (csr ?_)
 refine r_mv z (r_fa fa30_0 z (r_ld 0 sc28 z z z ?_))
 refine r_u (o_lenRN Tryz.underlying28 z h0) (r_bin z z (bI_lt i_12 (a0.L.length : Int)) ?_)
 refine nsq ?_
 refine c_if (b := decide (i_12 < (a0.L.length : Int))) z (fun h16 => ?_) fun h16 => ?_
 rotate_left
 ·have hm17 := iff_ hm14 h16
  clear hm14
  refine c_exit (x_exit (ks' := _) z ?_)
  obtain rfl := si hm17
  exact x_sub K10 ⟨z, trivial⟩ (fun _ h => st_pk 1 [0] (by decide) h)
 have hm17 := ift hm14 h16
 clear hm14
 refine c_skip (x_seq (c_seq ?_))
 obtain ⟨p18, hp19, hm20⟩ := bs hm17
 refine cd_join (E' := [(1, pt b0 0), (4, vI i_12), (3, vS p18)]) (L' := Bk b0 30 [g0_.L.1, vI a0.Places] :: F) ?_ fun K21 => ?_
 ·refine x_seq (c_reg ?_)
  refine r_mv z (r_bin z z (bI_add i_12 1) (r_as z ?_))
  refine r_nil ?_
  exact x_lp (p18, i64 (i_12 + 1)) hm20 ⟨z, z, z, trivial⟩ (fun _ h => st_pk 1 [0] (by decide) h)
 refine c_blk (csr ?_)
 refine r_mv z (r_fa fa30_0 z (r_ld 0 sc28 z z z (r_mv z ?_)))
 obtain ⟨x22, hx22, hm24⟩ := bs hp19
 clear hp19
 obtain ⟨b22, o22, l22, T22, fr22, c22, u23, hv22, hR22, he22, hi22, hN22⟩ := RoN.ne h0 hx22
 refine r_u (o_ix (sz := 1) Tryz.underlying28 (fun _ => by kernel_rfl) z z hv22 hi22) ?_
 refine r_u (o_ldR sc57 z hR22 (rok 0 he22 (by decide))) ?_
 refine r_u (o_lenR Tryz.underlying57 z hN22) (r_u (o_cv z (cIW Tryz.underlying3 Tryz.underlying27 (x22.length : Int))) ?_)
 obtain ⟨r25, hr25, hm26⟩ := bs hm24
 clear hm24
 refine r_u (o_callq ca82 z (AE.ok (toW (x22.length : Int)) r25 hr25)) ?_
 obtain ⟨h27, hm28⟩ := ig hm26
 clear hm26
 refine r_bin z z (bS_add out_11 r25 h27) (r_as z ?_)
 refine nsr ?_
 refine r_as z ?_
 refine nsq ?_
 obtain ⟨p29, hp30, hm31⟩ := bs hm28
 refine cd_join (E' := [(1, pt b0 0), (4, vI i_12), (3, vS p29)]) (L' := Bk b0 30 [g0_.L.1, vI a0.Places] :: F) ?_ fun K32 => ?_
 ·refine x_blk ?_
  obtain rfl := si hm31
  exact x_sub K21 ⟨z, z, z, trivial⟩ (fun _ h => st_pk 1 [0] (by decide) h)
 refine c_blk ?_
 refine cd_loop (M := fun k35 (s : Str × Int) => Br x22 k35 s.1 s.2 = some p29) (Ef := fun (s : Str × Int) => [(1, pt b0 0), (4, vI i_12), (3, vS s.1), (5, vI s.2)]) (Lf := fun (s : Str × Int) => Bk b0 30 [g0_.L.1, vI a0.Places] :: F) (((x22.length : Int) - 0).toNat + 1) (out_11 ++ r25, 0) hp30 ⟨z, z, z, z, trivial⟩ (fun _ h => h) (fun _ h => by cases h) fun k35 s hM37 => ?_
 obtain ⟨out_33, k_34⟩ := s
 have hm36 : Br x22 (k35 + 1) out_33 k_34 = some p29 := hM37
 rw [Br] at hm36
 refine c_seq (csr ?_)
 refine r_mv z (r_fa fa30_0 z (r_ld 0 sc28 z z z (r_mv z ?_)))
 refine r_u (o_ix (sz := 1) Tryz.underlying28 (fun _ => by kernel_rfl) z z hv22 hi22) ?_
 refine r_u (o_ldR sc57 z hR22 (rok 0 he22 (by decide))) ?_
 refine r_u (o_lenR Tryz.underlying57 z hN22) (r_bin z z (bI_lt k_34 (x22.length : Int)) ?_)
 refine nsq ?_
 refine c_if (b := decide (k_34 < (x22.length : Int))) z (fun h38 => ?_) fun h38 => ?_
 rotate_left
 ·have hm39 := iff_ hm36 h38
  clear hm36
  refine c_exit (x_exit (ks' := _) z ?_)
  obtain rfl := si hm39
  exact x_sub K32 ⟨z, z, z, trivial⟩ (fun _ h => st_pk 1 [0] (by decide) h)
 have hm39 := ift hm36 h38
 clear hm36
 refine c_skip (x_seq (c_seq (c_blk (c_reg ?_))))
 refine r_mv z (r_fa fa30_0 z (r_ld 0 sc28 z z z (r_mv z ?_)))
 refine r_u (o_ix (sz := 1) Tryz.underlying28 (fun _ => by kernel_rfl) z z hv22 hi22) ?_
 refine r_u (o_ldR sc57 z hR22 (rok 0 he22 (by decide))) (r_mv z ?_)
 obtain ⟨x40, hx40, hm41⟩ := bs hm39
 clear hm39
 obtain ⟨b40, o40, l40, T40, fr40, c40, hv40, hR40, he40, hi40⟩ := RoS.ne hN22 hx40
 refine r_u (o_ix (sz := 1) Tryz.underlying57 (fun _ => by kernel_rfl) z z hv40 hi40) ?_
 refine r_u (o_ldR sc9 z hR40 (rok 0 he40 (by decide))) ?_
 obtain ⟨r42, hr42, hm43⟩ := bs hm41
 clear hm41
 refine r_u (o_callq ca114 z (CJ.ok x40 r42 hr42)) ?_
 obtain ⟨h44, hm45⟩ := ig hm43
 clear hm43
 refine r_bin z z (bS_add out_33 r42 h44) (r_as z ?_)
 refine r_nil (x_blk (x_seq (c_reg ?_)))
 refine r_mv z (r_bin z z (bI_add k_34 1) (r_as z ?_))
 refine r_nil ?_
 exact x_lp (out_33 ++ r42, i64 (k_34 + 1)) hm45 ⟨z, z, z, z, trivial⟩ (fun _ h => st_pk 1 [0] (by decide) h)
def Co (a0 : Aa) : Option Str :=
 (AE (toW a0.Most)).bind fun r1 => (AE (toW a0.Target)).bind fun r3 => if r1.length + r3.length ≤ maxS then (Ba a0.R).bind fun r7 => if (r1 ++ r3).length + r7.length ≤ maxS then some ((r1 ++ r3) ++ r7) else none else none
theorem Co.ok {G R F} (a0 : Aa) (g0_ : Aa.G) (h0 : Aa.ro R a0 g0_) (r : Str) (hm : Co a0 = some r) : CO Tryz.prog 44 [.agg (Aa.k a0 g0_).toArray] G R (F)
  (Ret fun u R' L' => u = vS r ∧ R' = R ∧ L' = F) := by
 unfold Co at hm
 refine co_ofN (N := 16) Tryz.func44 z z ?_
 refine csr ?_
 refine r_new (o_bx (Aa.k a0 g0_) z z) fun b0 => ?_
 refine r_as z ?_
 refine r_nil (x_seq (c_seq ?_))
 obtain ⟨r1, hr1, hm2⟩ := bs hm
 clear hm
 obtain ⟨r3, hr3, hm4⟩ := bs hm2
 clear hm2
 obtain ⟨h5, hm6⟩ := ig hm4
 clear hm4
 obtain ⟨r7, hr7, hm8⟩ := bs hm6
 clear hm6
 obtain ⟨h9, hm10⟩ := ig hm8
 clear hm8
 refine c_any mixed (effs := []) (V := []) ?_
 refine stage_ext [(0, pt b0 0), (1, vI a0.Most), (2, vW (toW a0.Most)), (3, vS r1), (4, pt b0 1), (5, vI a0.Target), (6, vW (toW a0.Target)), (7, vS r3), (8, vS (r1 ++ r3)), (9, pt b0 2), (10, .agg [g0_.R.L.1, vI a0.R.Places].toArray), (11, vS r7), (12, vS ((r1 ++ r3) ++ r7)), (13, vS ((r1 ++ r3) ++ r7))] z ?_
 refine stage z z z z [0, 1, 3, 7, 0, 16, 48, 127, 255, 0, 512, 1791, 4095, 8191] [0, 1, 2, 3, 4, 5, 6, 7, 8, 9, 10, 11, 12, 13] [] z z z (q_fa z z fa32_0 z (q_ld z z 0 sc3 z z z (q_u z z (o_cv z (cIW Tryz.underlying3 Tryz.underlying27 a0.Most)) (q_u z z (o_callq ca82 z (AE.ok (toW a0.Most) r1 hr1)) (q_fa z z fa32_1 z (q_ld z z 0 sc3 z z z (q_u z z (o_cv z (cIW Tryz.underlying3 Tryz.underlying27 a0.Target)) (q_u z z (o_callq ca82 z (AE.ok (toW a0.Target) r3 hr3)) (q_u z z (o_bin z z (bS_add r1 r3 h5)) (q_fa z z fa32_2 z (q_u z z (o_ldn 0 [g0_.R.L.1, vI a0.R.Places] ag30 z z z z) (q_u z z (o_callq ca83 z (Ba.ok a0.R (⟨(g0_.R.L.1, [])⟩ : Ab.G) h0 r7 hr7)) (q_u z z (o_bin z z (bS_add (r1 ++ r3) r7 h9)) (q_u z z (o_as z) qn)))))))))))))) en ?_
 intro _
 refine ex_sub (E' := [(2, vS ((r1 ++ r3) ++ r7))]) ⟨z, trivial⟩ ?_
 refine x_seq (c_ret ?_)
 obtain rfl := si hm10
 refine ex_st (fun _ h => st_pk 1 [] (by decide) h) ?_
 exact x_r1 z (rv_t z) (Le.refl _) ⟨_, z, z, z, z⟩
def Ce (a0 : Bool) : Str :=
 if a0 then [1] else [0]
theorem Ce.ok {G R F} (a0 : Bool) (r : Str) (hm : Ce a0 = r) : CO Tryz.prog 115 [vB a0] G R (F)
  (Ret fun u R' L' => u = vS r ∧ R' = R ∧ L' = F) := by
 unfold Ce at hm
 refine co_ofN (N := 4) Tryz.func115 z z ?_
 refine csr ?_
 refine r_as z ?_
 refine nssr ?_
 refine r_mv z ?_
 refine nsq ?_
 refine c_if (b := a0) z (fun h0 => ?_) fun h0 => ?_
 ·have hm1 := ift hm h0
  clear hm
  refine csr ?_
  refine r_as z ?_
  refine r_nil (x_seq (c_ret ?_))
  subst hm1
  exact x_r1 z (rv_t z) (Le.refl _) ⟨_, z, z, z, z⟩
 have hm1 := iff_ hm h0
 clear hm
 refine c_skip (x_seq (csr ?_))
 refine r_as z ?_
 refine r_nil (x_seq (c_ret ?_))
 subst hm1
 exact x_r1 z (rv_t z) (Le.refl _) ⟨_, z, z, z, z⟩
def Bi (a0 : Ad) : Nat → Str → Int → Option (Str)
 | 0, _, _ => none
 | k21 + 1, out_19, k_20 => if decide (k_20 < a0.Wide) then (gi a0.Door k_20).bind fun x26 => if out_19.length + (Ce x26).length ≤ maxS then Bi a0 k21 (out_19 ++ (Ce x26)) (i64 (k_20 + 1)) else none else some out_19
def AX (a0 : Ad) (i_31 : Int) : Nat → Str → Int → Option (Str)
 | 0, _, _ => none
 | k47 + 1, out_45, k_46 => if decide (k_46 < a0.Wide) then (gi a0.Rows i_31).bind fun x52 => (gi x52 k_46).bind fun x55 => if out_45.length + [toY x55].length ≤ maxS then AX a0 i_31 k47 (out_45 ++ [toY x55]) (i64 (k_46 + 1)) else none else some out_45
def AY (a0 : Ad) : Nat → Str → Int → Option (Str)
 | 0, _, _ => none
 | k32 + 1, out_30, i_31 => if decide (i_31 < 4) then Option.bind (Option.bind (AX a0 i_31 ((a0.Wide - 0).toNat + 1) out_30 0) fun p41 => some p41) fun p37 => AY a0 k32 p37 (i64 (i_31 + 1)) else some out_30
def B3 (a0 : Ad) : Option Str :=
 (AE (toW a0.Wide)).bind fun r1 => (AE a0.Seed).bind fun r3 => if r1.length + r3.length ≤ maxS then (AE (toW a0.Added)).bind fun r7 => if (r1 ++ r3).length + r7.length ≤ maxS then Option.bind (AY a0 5 ((r1 ++ r3) ++ r7) 0) fun p11 => Option.bind (Bi a0 ((a0.Wide - 0).toNat + 1) p11 0) fun p15 => some p15 else none else none
theorem B3.ok {G R F} (a0 : Ad) (g0_ : Ad.G) (h0 : Ad.ro R a0 g0_) (r : Str) (hm : B3 a0 = some r) : CO Tryz.prog 84 [.agg (Ad.k a0 g0_).toArray] G R (F)
  (Ret fun u R' L' => u = vS r ∧ R' = R ∧ L' = F) := by
 unfold B3 at hm
 refine co_ofN (N := 58) Tryz.func84 z z ?_
 refine csr ?_
 refine r_new (o_bx (Ad.k a0 g0_) z z) fun b0 => ?_
 refine r_as z ?_
 refine r_nil (x_seq (c_seq ?_))
 obtain ⟨r1, hr1, hm2⟩ := bs hm
 clear hm
 obtain ⟨r3, hr3, hm4⟩ := bs hm2
 clear hm2
 obtain ⟨h5, hm6⟩ := ig hm4
 clear hm4
 obtain ⟨r7, hr7, hm8⟩ := bs hm6
 clear hm6
 obtain ⟨h9, hm10⟩ := ig hm8
 clear hm8
 refine c_any mixed (effs := []) (V := []) ?_
 refine stage_ext [(0, pt b0 0), (1, vI a0.Wide), (2, vW (toW a0.Wide)), (3, vS r1), (4, pt b0 1), (5, vW a0.Seed), (6, vS r3), (7, vS (r1 ++ r3)), (8, pt b0 4), (9, vI a0.Added), (10, vW (toW a0.Added)), (11, vS r7), (12, vS ((r1 ++ r3) ++ r7)), (13, vS ((r1 ++ r3) ++ r7))] z ?_
 refine stage z z z z [0, 1, 3, 7, 0, 16, 63, 127, 0, 256, 768, 1919, 4095, 8191] [0, 1, 2, 3, 4, 5, 6, 7, 8, 9, 10, 11, 12, 13] [] z z z (q_fa z z fa36_0 z (q_ld z z 0 sc3 z z z (q_u z z (o_cv z (cIW Tryz.underlying3 Tryz.underlying27 a0.Wide)) (q_u z z (o_callq ca82 z (AE.ok (toW a0.Wide) r1 hr1)) (q_fa z z fa36_1 z (q_ld z z 0 sc27 z z z (q_u z z (o_callq ca82 z (AE.ok a0.Seed r3 hr3)) (q_u z z (o_bin z z (bS_add r1 r3 h5)) (q_fa z z fa36_4 z (q_ld z z 0 sc3 z z z (q_u z z (o_cv z (cIW Tryz.underlying3 Tryz.underlying27 a0.Added)) (q_u z z (o_callq ca82 z (AE.ok (toW a0.Added) r7 hr7)) (q_u z z (o_bin z z (bS_add (r1 ++ r3) r7 h9)) (q_u z z (o_as z) qn)))))))))))))) en ?_
 intro _
 refine ex_sub (E' := [(1, pt b0 0), (3, vS ((r1 ++ r3) ++ r7))]) ⟨z, z, trivial⟩ ?_
 refine x_seq (c_seq (csr ?_))
 refine r_as z ?_
 refine nsq ?_
 obtain ⟨p11, hp12, hm13⟩ := bs hm10
 refine cd_join (E' := [(1, pt b0 0), (3, vS p11)]) (L' := Bk b0 36 (Ad.k a0 g0_) :: F) ?_ fun K14 => ?_
 ·refine x_seq (c_seq (csr ?_))
  refine r_as z ?_
  refine nsq ?_
  obtain ⟨p15, hp16, hm17⟩ := bs hm13
  refine cd_join (E' := [(3, vS p15)]) (L' := Bk b0 36 (Ad.k a0 g0_) :: F) ?_ fun K18 => ?_
  ·refine x_seq (csr ?_)
   refine r_mv z (r_as z ?_)
   refine r_nil (x_seq (c_ret ?_))
   obtain rfl := si hm17
   refine ex_st (fun _ h => st_pk 1 [] (by decide) h) ?_
   exact x_r1 z (rv_t z) (Le.refl _) ⟨_, z, z, z, z⟩
  refine c_blk ?_
  refine cd_loop (M := fun k21 (s : Str × Int) => Bi a0 k21 s.1 s.2 = some p15) (Ef := fun (s : Str × Int) => [(1, pt b0 0), (3, vS s.1), (6, vI s.2)]) (Lf := fun (s : Str × Int) => Bk b0 36 (Ad.k a0 g0_) :: F) ((a0.Wide - 0).toNat + 1) (p11, 0) hp16 ⟨z, z, z, trivial⟩ (fun _ h => h) (fun _ h => by cases h) fun k21 s hM23 => ?_
  obtain ⟨out_19, k_20⟩ := s
  have hm22 : Bi a0 (k21 + 1) out_19 k_20 = some p15 := hM23
  rw [Bi] at hm22
  refine c_seq (csr ?_)
  refine r_mv z (r_fa fa36_0 z (r_ld 0 sc3 z z z (r_bin z z (bI_lt k_20 a0.Wide) ?_)))
  refine nsq ?_
  refine c_if (b := decide (k_20 < a0.Wide)) z (fun h24 => ?_) fun h24 => ?_
  rotate_left
  ·have hm25 := iff_ hm22 h24
   clear hm22
   refine c_exit (x_exit (ks' := _) z ?_)
   obtain rfl := si hm25
   exact x_sub K18 ⟨z, trivial⟩ (fun _ h => st_pk 1 [0] (by decide) h)
  have hm25 := ift hm22 h24
  clear hm22
  refine c_skip (x_seq (c_seq (c_blk (c_reg ?_))))
  refine r_mv z (r_fa fa36_3 z (r_ld 0 sc34 z z z (r_mv z ?_)))
  obtain ⟨x26, hx26, hm27⟩ := bs hm25
  clear hm25
  obtain ⟨b26, o26, l26, T26, fr26, c26, hv26, hR26, he26, hi26⟩ := RoS.ne h0.2 hx26
  refine r_u (o_ix (sz := 1) Tryz.underlying34 (fun _ => by kernel_rfl) z z hv26 hi26) ?_
  refine r_u (o_ldR sc4 z hR26 (rok 0 he26 (by decide))) ?_
  refine r_u (o_callq ca115 z (Ce.ok x26 _ z)) ?_
  obtain ⟨h28, hm29⟩ := ig hm27
  clear hm27
  refine r_bin z z (bS_add out_19 (Ce x26) h28) (r_as z ?_)
  refine r_nil (x_blk (x_seq (c_reg ?_)))
  refine r_mv z (r_bin z z (bI_add k_20 1) (r_as z ?_))
  refine r_nil ?_
  exact x_lp (out_19 ++ (Ce x26), i64 (k_20 + 1)) hm29 ⟨z, z, z, trivial⟩ (fun _ h => st_pk 1 [0] (by decide) h)
 refine c_blk ?_
 refine cd_loop (M := fun k32 (s : Str × Int) => AY a0 k32 s.1 s.2 = some p11) (Ef := fun (s : Str × Int) => [(1, pt b0 0), (3, vS s.1), (4, vI s.2)]) (Lf := fun (s : Str × Int) => Bk b0 36 (Ad.k a0 g0_) :: F) 5 ((r1 ++ r3) ++ r7, 0) hp12 ⟨z, z, z, trivial⟩ (fun _ h => h) (fun _ h => by cases h) fun k32 s hM34 => ?_
 obtain ⟨out_30, i_31⟩ := s
 have hm33 : AY a0 (k32 + 1) out_30 i_31 = some p11 := hM34
 rw [AY] at hm33
 refine c_seq (csr ?_)
 refine r_mv z (r_bin z z (bI_lt i_31 4) ?_)
 refine nsq ?_
 refine c_if (b := decide (i_31 < 4)) z (fun h35 => ?_) fun h35 => ?_
 rotate_left
 ·have hm36 := iff_ hm33 h35
  clear hm33
  refine c_exit (x_exit (ks' := _) z ?_)
  obtain rfl := si hm36
  exact x_sub K14 ⟨z, z, trivial⟩ (fun _ h => st_pk 1 [0] (by decide) h)
 have hm36 := ift hm33 h35
 clear hm33
 refine c_skip (x_seq (c_seq ?_))
 obtain ⟨p37, hp38, hm39⟩ := bs hm36
 refine cd_join (E' := [(1, pt b0 0), (4, vI i_31), (3, vS p37)]) (L' := Bk b0 36 (Ad.k a0 g0_) :: F) ?_ fun K40 => ?_
 ·refine x_seq (c_reg ?_)
  refine r_mv z (r_bin z z (bI_add i_31 1) (r_as z ?_))
  refine r_nil ?_
  exact x_lp (p37, i64 (i_31 + 1)) hm39 ⟨z, z, z, trivial⟩ (fun _ h => st_pk 1 [0] (by decide) h)
 refine c_blk (csr ?_)
 refine r_as z ?_
 refine nsq ?_
 obtain ⟨p41, hp42, hm43⟩ := bs hp38
 refine cd_join (E' := [(1, pt b0 0), (4, vI i_31), (3, vS p41)]) (L' := Bk b0 36 (Ad.k a0 g0_) :: F) ?_ fun K44 => ?_
 ·refine x_blk ?_
  obtain rfl := si hm43
  exact x_sub K40 ⟨z, z, z, trivial⟩ (fun _ h => st_pk 1 [0] (by decide) h)
 refine c_blk ?_
 refine cd_loop (M := fun k47 (s : Str × Int) => AX a0 i_31 k47 s.1 s.2 = some p41) (Ef := fun (s : Str × Int) => [(1, pt b0 0), (4, vI i_31), (3, vS s.1), (5, vI s.2)]) (Lf := fun (s : Str × Int) => Bk b0 36 (Ad.k a0 g0_) :: F) ((a0.Wide - 0).toNat + 1) (out_30, 0) hp42 ⟨z, z, z, z, trivial⟩ (fun _ h => h) (fun _ h => by cases h) fun k47 s hM49 => ?_
 obtain ⟨out_45, k_46⟩ := s
 have hm48 : AX a0 i_31 (k47 + 1) out_45 k_46 = some p41 := hM49
 rw [AX] at hm48
 refine c_seq (csr ?_)
 refine r_mv z (r_fa fa36_0 z (r_ld 0 sc3 z z z (r_bin z z (bI_lt k_46 a0.Wide) ?_)))
 refine nsq ?_
 refine c_if (b := decide (k_46 < a0.Wide)) z (fun h50 => ?_) fun h50 => ?_
 rotate_left
 ·have hm51 := iff_ hm48 h50
  clear hm48
  refine c_exit (x_exit (ks' := _) z ?_)
  obtain rfl := si hm51
  exact x_sub K44 ⟨z, z, z, trivial⟩ (fun _ h => st_pk 1 [0] (by decide) h)
 have hm51 := ift hm48 h50
 clear hm48
 refine c_skip (x_seq (c_seq (c_blk (c_reg ?_))))
 refine r_mv z (r_fa fa36_2 z (r_ld 0 sc33 z z z (r_mv z ?_)))
 obtain ⟨x52, hx52, hm54⟩ := bs hm51
 clear hm51
 obtain ⟨b52, o52, l52, T52, fr52, c52, u53, hv52, hR52, he52, hi52, hN52⟩ := RoN.ne h0.1 hx52
 refine r_u (o_ix (sz := 1) Tryz.underlying33 (fun _ => by kernel_rfl) z z hv52 hi52) ?_
 refine r_u (o_ldR sc135 z hR52 (rok 0 he52 (by decide))) (r_mv z ?_)
 obtain ⟨x55, hx55, hm56⟩ := bs hm54
 clear hm54
 obtain ⟨b55, o55, l55, T55, fr55, c55, hv55, hR55, he55, hi55⟩ := RoS.ne hN52 hx55
 refine r_u (o_ix (sz := 1) Tryz.underlying135 (fun _ => by kernel_rfl) z z hv55 hi55) ?_
 refine r_u (o_ldR sc3 z hR55 (rok 0 he55 (by decide))) (r_u (o_cv z (cIY Tryz.underlying3 Tryz.underlying5 x55)) ?_)
 refine r_sw (s_w (o_bsl (en := eY) (sz := 1) (e := 5) (cs := [vY (toY x55)]) (r := [toY x55]) z (fun _ => by kernel_rfl) z (by decide) z (fun _ => z))) ?_
 rintro v57 R _ _ ⟨rfl, rfl⟩
 refine r_u (o_bs 0 Tryz.underlying111 Tryz.underlying5 Tryz.underlying9 z z) ?_
 obtain ⟨h58, hm59⟩ := ig hm56
 clear hm56
 refine r_bin z z (bS_add out_45 [toY x55] h58) (r_as z ?_)
 refine r_nil (x_blk (x_seq (c_reg ?_)))
 refine r_mv z (r_bin z z (bI_add k_46 1) (r_as z ?_))
 refine r_nil ?_
 exact x_lp (out_45 ++ [toY x55], i64 (k_46 + 1)) hm59 ⟨z, z, z, z, trivial⟩ (fun _ h => st_pk 2 [1] (by decide) h)
def Cg (a0 : Ae) : Option Str :=
 (AE (toW a0.Most)).bind fun r1 => (B3 a0.S).bind fun r3 => if r1.length + r3.length ≤ maxS then (Ba a0.R).bind fun r7 => if (r1 ++ r3).length + r7.length ≤ maxS then some ((r1 ++ r3) ++ r7) else none else none
theorem Cg.ok {G R F} (a0 : Ae) (g0_ : Ae.G) (h0 : Ae.ro R a0 g0_) (r : Str) (hm : Cg a0 = some r) : CO Tryz.prog 45 [.agg (Ae.k a0 g0_).toArray] G R (F)
  (Ret fun u R' L' => u = vS r ∧ R' = R ∧ L' = F) := by
 unfold Cg at hm
 refine co_ofN (N := 15) Tryz.func45 z z ?_
 refine csr ?_
 refine r_new (o_bx (Ae.k a0 g0_) z z) fun b0 => ?_
 refine r_as z ?_
 refine r_nil (x_seq (c_seq ?_))
 obtain ⟨r1, hr1, hm2⟩ := bs hm
 clear hm
 obtain ⟨r3, hr3, hm4⟩ := bs hm2
 clear hm2
 obtain ⟨h5, hm6⟩ := ig hm4
 clear hm4
 obtain ⟨r7, hr7, hm8⟩ := bs hm6
 clear hm6
 obtain ⟨h9, hm10⟩ := ig hm8
 clear hm8
 refine c_any mixed (effs := []) (V := []) ?_
 refine stage_ext [(0, pt b0 0), (1, vI a0.Most), (2, vW (toW a0.Most)), (3, vS r1), (4, pt b0 1), (5, .agg (Ad.k a0.S g0_.S).toArray), (6, vS r3), (7, vS (r1 ++ r3)), (8, pt b0 6), (9, .agg [g0_.R.L.1, vI a0.R.Places].toArray), (10, vS r7), (11, vS ((r1 ++ r3) ++ r7)), (12, vS ((r1 ++ r3) ++ r7))] z ?_
 refine stage z z z z [0, 1, 3, 7, 0, 16, 63, 127, 0, 256, 895, 2047, 4095] [0, 1, 2, 3, 4, 5, 6, 7, 8, 9, 10, 11, 12] [] z z z (q_fa z z fa38_0 z (q_ld z z 0 sc3 z z z (q_u z z (o_cv z (cIW Tryz.underlying3 Tryz.underlying27 a0.Most)) (q_u z z (o_callq ca82 z (AE.ok (toW a0.Most) r1 hr1)) (q_fa z z fa38_1 z (q_u z z (o_ldn 0 (Ad.k a0.S g0_.S) ag36 z z z z) (q_u z z (o_callq ca84 z (B3.ok a0.S (⟨(g0_.S.Rows.1, []), g0_.S.Door⟩ : Ad.G) ⟨h0.1.1, h0.1.2⟩ r3 hr3)) (q_u z z (o_bin z z (bS_add r1 r3 h5)) (q_fa z z fa38_2 z (q_u z z (o_ldn 0 [g0_.R.L.1, vI a0.R.Places] ag30 z z z z) (q_u z z (o_callq ca83 z (Ba.ok a0.R (⟨(g0_.R.L.1, [])⟩ : Ab.G) h0.2 r7 hr7)) (q_u z z (o_bin z z (bS_add (r1 ++ r3) r7 h9)) (q_u z z (o_as z) qn))))))))))))) en ?_
 intro _
 refine ex_sub (E' := [(2, vS ((r1 ++ r3) ++ r7))]) ⟨z, trivial⟩ ?_
 refine x_seq (c_ret ?_)
 obtain rfl := si hm10
 refine ex_st (fun _ h => st_pk 1 [] (by decide) h) ?_
 exact x_r1 z (rv_t z) (Le.refl _) ⟨_, z, z, z, z⟩
def BM (a0 : Ac) : Option Str :=
 if (a0.Kind == 1) then (Co a0.A).bind fun r3 => if [1].length + r3.length ≤ maxS then some ([1] ++ r3) else none else (Cg a0.T).bind fun r7 => if [2].length + r7.length ≤ maxS then some ([2] ++ r7) else none
theorem BM.ok {G R F} (a0 : Ac) (g0_ : Ac.G) (h0 : Ac.ro R a0 g0_) (r : Str) (hm : BM a0 = some r) : CO Tryz.prog 15 [.agg (Ac.k a0 g0_).toArray] G R (F)
  (Ret fun u R' L' => u = vS r ∧ R' = R ∧ L' = F) := by
 unfold BM at hm
 refine co_ofN (N := 14) Tryz.func15 z z ?_
 refine csr ?_
 refine r_new (o_bx (Ac.k a0 g0_) z z) fun b0 => ?_
 refine r_as z ?_
 refine nssr ?_
 refine r_fa fa40_0 z (r_ld 0 sc3 z z z (r_bin z z (bI_eq a0.Kind 1) ?_))
 refine nsq ?_
 refine c_if (b := (a0.Kind == 1)) z (fun h1 => ?_) fun h1 => ?_
 ·have hm2 := ift hm h1
  clear hm
  refine csr ?_
  refine r_fa fa40_1 z ?_
  refine r_u (o_ldn 0 (Aa.k a0.A g0_.A) ag32 z z z z) ?_
  obtain ⟨r3, hr3, hm4⟩ := bs hm2
  clear hm2
  refine r_u (o_callq ca44 z (Co.ok a0.A (⟨(⟨(g0_.A.R.L.1, [])⟩ : Ab.G)⟩ : Aa.G) h0.1 r3 hr3)) ?_
  obtain ⟨h5, hm6⟩ := ig hm4
  clear hm4
  refine r_bin z z (bS_add [1] r3 h5) (r_as z ?_)
  refine r_nil (x_seq (c_ret ?_))
  obtain rfl := si hm6
  refine ex_st (fun _ h => st_pk 1 [] (by decide) h) ?_
  exact x_r1 z (rv_t z) (Le.refl _) ⟨_, z, z, z, z⟩
 have hm2 := iff_ hm h1
 clear hm
 refine c_skip (x_seq (csr ?_))
 refine r_fa fa40_2 z ?_
 refine r_u (o_ldn 0 (Ae.k a0.T g0_.T) ag38 z z z z) ?_
 obtain ⟨r7, hr7, hm8⟩ := bs hm2
 clear hm2
 refine r_u (o_callq ca45 z (Cg.ok a0.T (⟨(⟨(g0_.T.S.Rows.1, []), g0_.T.S.Door⟩ : Ad.G), (⟨(g0_.T.R.L.1, [])⟩ : Ab.G)⟩ : Ae.G) ⟨⟨h0.2.1.1, h0.2.1.2⟩, h0.2.2⟩ r7 hr7)) ?_
 obtain ⟨h9, hm10⟩ := ig hm8
 clear hm8
 refine r_bin z z (bS_add [2] r7 h9) (r_as z ?_)
 refine r_nil (x_seq (c_ret ?_))
 obtain rfl := si hm10
 refine ex_st (fun _ h => st_pk 1 [] (by decide) h) ?_
 exact x_r1 z (rv_t z) (Le.refl _) ⟨_, z, z, z, z⟩
def Bv (a2 : List AC) : Nat → (Option Ah) → Int → Ac → Option ((Option Ah × Ac) ⊕ Bool)
 | 0, _, _, _ => none
 | k78 + 1, p_59, i_60, c_61 => if (decide (i_60 < (a2.length : Int)) && decide (i_60 < 80)) then Option.bind ((gi a2 i_60).bind fun x120 => om p_59 (none) fun x122 => (CI x122 c_61 x120).bind fun r132 => om r132.1 (none) fun x151 => Option.bind (if r132.2.2 then (Bp x151).bind fun r169 => (Bd r132.2.1).bind fun r171 => Option.bind (if (r169 != r171) then some true else (Bq x120.Key).bind fun r179 => (AN x151 r179).bind fun r181 => (BL r132.2.1 r179).bind fun r183 => some (r181 != r183)) fun p173 => some p173 else some true) fun p161 => if p161 then some (Sum.inr (Sum.inr false)) else some (Sum.inl ((some x151), r132.2.1))) fun (p99 : (Option Ah × Ac) ⊕ ((Option Ah × Ac) ⊕ Bool)) => (match p99 with | Sum.inl q100 => Bv a2 k78 q100.1 (i64 (i_60 + 1)) q100.2 | Sum.inr r => some r) else some (Sum.inl (p_59, c_61))
def Ch (a0 : Int) (a1 : Int) (a2 : List AC) : Option Bool :=
 (C6 (i64 (1 + (iand a0 1))) (i64 (1 + (iand a1 15))) 5).bind fun r0 => (CQ (i64 (1 + (iand a0 1))) (i64 (1 + (iand a1 15))) 5).bind fun r5 => (CT).bind fun r18 => if (!r18 || (r0.2 != 0)) then some false else Option.bind (Bv a2 (((a2.length : Int) - 0).toNat + 1) r0.1 0 r5) fun (p22 : (Option Ah × Ac) ⊕ Bool) => (match p22 with | Sum.inl q23 => om q23.1 (none) fun x43 => (BA x43).bind fun r53 => (BM q23.2).bind fun r55 => if (r53 == r55) then some ((Am x43) == (i64 (1 + (iand a0 1)))) else some false | Sum.inr r => some r)
theorem Ch.ok {G R F} (a0 : Int) (a1 : Int) (v2_ : Value) (a2 : List AC) (h2_ : RoS R v2_ 2 AC.c a2) (r : Bool) (hm : Ch a0 a1 a2 = some r) : CO Tryz.prog 3 [vI a0, vI a1, v2_] G R (F)
  (Ret fun u R' L' => u = vB r ∧ True ∧ L' = F) := by
 unfold Ch at hm
 refine co_ofN (N := 99) Tryz.func3 z z ?_
 refine csr ?_
 refine r_as z ?_
 refine nsr ?_
 refine r_mv z (r_bin z z (bI_and a0 1) (r_bin z z (bI_add 1 (iand a0 1)) (r_mv z (r_bin z z (bI_and a1 15) (r_bin z z (bI_add 1 (iand a1 15)) (r_as z (r_as z ?_)))))))
 refine nsr ?_
 refine r_mv z (r_mv z ?_)
 obtain ⟨r0, hr0, hm4⟩ := bs hm
 clear hm
 refine r_sw (s_w (o_call ca5 z (C6.ok (i64 (1 + (iand a0 1))) (i64 (1 + (iand a1 15))) 5 r0 hr0))) ?_
 rintro _ R _ _ ⟨⟨pv2, g3⟩, rfl, rfl, rfl⟩
 refine r_mv z ?_
 refine r_ext z z ?_
 refine r_ext z z (r_as z (r_as z ?_))
 refine nsr ?_
 refine r_mv z (r_mv z ?_)
 obtain ⟨r5, hr5, hm16⟩ := bs hm4
 clear hm4
 refine r_sw (s_w (o_call ca6 z (CQ.ok (i64 (1 + (iand a0 1))) (i64 (1 + (iand a1 15))) 5 r5 hr5))) ?_
 rintro _ R _ _ ⟨v6, rfl, rfl, rfl⟩
 refine r_new (o_al ze40) fun b17 => ?_
 refine rl_st (fun _ h => mv4 (mv4 (mv5 (mv6 (mv6 h))))) ?_
 refine r_u0 (ou_if (one_o 1 z) fun ho0 => ou_if (one_o 2 z) fun ho1 => ou_if (one_o 3 z) fun ho2 => ou_if (one_o 4 z) fun ho3 => o_stn ag40 z z z (al_c z (al_c z (al_c z (al_c ho0 (al_c z (al_c z (al_c z (al_c z (al_c ho1 (al_c ho2 (al_c z (al_c ho3 (al_c z al_n))))))))))))) z z z) ?_
 refine nssr ?_
 obtain ⟨r18, hr18, hm19⟩ := bs hm16
 clear hm16
 refine r_u (o_callq ca7 z (CT.ok r18 hr18)) ?_
 refine r_u (o_not z) (r_mv z ?_)
 refine r_s (s_gf z z fun g => o_mv z) ?_
 refine r_s (s_gf z z fun g => o_bin (evg z g) z (bI_ne r0.2 0)) ?_
 refine r_u (o_or z z) ?_
 refine nsq ?_
 refine c_if (b := (!r18 || (r0.2 != 0))) z (fun h20 => ?_) fun h20 => ?_
 ·have hm21 := ift hm19 h20
  clear hm19
  refine csr ?_
  refine r_as z ?_
  refine r_nil (x_seq (c_ret ?_))
  obtain rfl := si hm21
  refine ex_st (fun _ h => st_pk 9 [] (by decide) h) ?_
  exact x_r1 z (rv_t z) (Le.refl _) ⟨_, z, z, trivial, z⟩
 have hm21 := iff_ hm19 h20
 clear hm19
 refine c_skip (x_seq (c_seq (csr ?_)))
 refine r_as z ?_
 refine nsq ?_
 obtain ⟨p22, hp40, hm41⟩ := bs hm21
 refine cd_cut (fun x ks => ∀ (q23 : Option Ah × Ac), ∀ (_ : p22 = Sum.inl q23), ∀ (R24 : PH), ∀ (le25 : Le R R24), ∀ (pv26 : Value × Ah.G), ∀ (g30 : Ac.G), ∀ (hf29 : Ac.ro R24 q23.2 g30), EX x .normal ks [(7, vI (i64 (1 + (iand a0 1)))), (11, pt b17 0), (9, pv26.1)] R24 (Bk b17 40 (Ac.k q23.2 g30) :: rO (Ah.op pv26.2) pv26.1 q23.1 :: F)) ?_ fun K42 => ?_
 ·intro q23 hq R24 le25 pv26 g30 hf29
  subst hq
  try dsimp only at hm41
  obtain ⟨pv27, g28⟩ := pv26
  refine x_seq (c_seq ?_)
  refine cd_st (fun _ h => mv1 h) ?_
  refine cd_opt (fun ho45 => ?_) (fun x43 b44 ho45 => ?_)
  ·rintro rfl
   have hm46 := om_n hm41 ho45
   clear hm41
   cases hm46
  rintro rfl
  have hm46 := om_s hm41 ho45
  clear hm41
  obtain ⟨⟨pv48, g49⟩, ⟨pv51, g52⟩⟩ := g28
  refine cd_st (fun _ h => st_star_o h) ?_
  obtain ⟨r53, hr53, hm54⟩ := bs hm46
  clear hm46
  obtain ⟨r55, hr55, hm56⟩ := bs hm54
  clear hm54
  refine cd_by (r53 == r55) (fun h57 => ?_) fun h57 => ?_
  ·have hm58 := ift hm56 h57
   clear hm56
   refine c_any mixed (effs := []) (V := []) ?_
   refine stage_ext [(0, pt b44 0), (1, vS r53), (2, .agg (Ac.k q23.2 g30).toArray), (3, vS r55), (4, vB (r53 == r55)), (5, vB (r53 == r55)), (6, pt b44 0), (7, vI (Am x43)), (8, vI (i64 (1 + (iand a0 1)))), (9, vB ((Am x43) == (i64 (1 + (iand a0 1))))), (10, vB ((Am x43) == (i64 (1 + (iand a0 1))))), (11, vB ((Am x43) == (i64 (1 + (iand a0 1)))))] z ?_
   refine stage z z z z mk20_ [0, 1, 2, 3, 4, 5, 6, 7, 8, 9, 10, 11] [] z z z (q_mv z z z (q_u z z (o_callqP ca14 z (BA.ok b44 x43 (⟨(pv48, g49), (pv51, g52)⟩ : Ah.G) r53 hr53) (fun _ h => st_pk 4 [0, 1, 2, 3] (by decide) h) (fun _ h => st_pk 4 [0, 1, 2, 3] (by decide) h)) (q_u z z (o_ldn 3 (Ac.k q23.2 g30) ag40 z z z z) (q_u z z (o_callq ca15 z (BM.ok q23.2 (⟨(⟨(⟨(g30.A.R.L.1, [])⟩ : Ab.G)⟩ : Aa.G), (⟨(⟨(g30.T.S.Rows.1, []), g30.T.S.Door⟩ : Ad.G), (⟨(g30.T.R.L.1, [])⟩ : Ab.G)⟩ : Ae.G)⟩ : Ac.G) ⟨hf29.1, ⟨⟨hf29.2.1.1, hf29.2.1.2⟩, hf29.2.2⟩⟩ r55 hr55)) (q_u z z (o_bin z z (bS_eq r53 r55)) (q_mv z z z (q_y z z z z h57 (o_mv z) (q_y z z z z h57 (o_callqP ca16 z (Am.ok b44 x43 (⟨(pv48, g49), (pv51, g52)⟩ : Ah.G) _ z) (fun _ h => st_pk 4 [0, 1, 2, 3] (by decide) h) (fun _ h => st_pk 4 [0, 1, 2, 3] (by decide) h)) (q_y z z z z h57 (o_mv z) (q_y z z z z h57 (o_bin z z (bI_eq (Am x43) (i64 (1 + (iand a0 1))))) (q_u z z (o_pt z h57 z) (q_u z z (o_as z) qn)))))))))))) en ?_
   intro _
   refine ex_sub (E' := [(6, vB ((Am x43) == (i64 (1 + (iand a0 1)))))]) ⟨z, trivial⟩ ?_
   refine x_seq (c_ret ?_)
   obtain rfl := si hm58
   refine ex_st (fun _ h => st_pk 4 [] (by decide) h) ?_
   exact x_r1 z (rv_t z) le25 ⟨_, z, z, trivial, z⟩
  have hm58 := iff_ hm56 h57
  clear hm56
  refine c_any mixed (effs := []) (V := []) ?_
  refine stage_ext [(0, pt b44 0), (1, vS r53), (2, .agg (Ac.k q23.2 g30).toArray), (3, vS r55), (4, vB (r53 == r55)), (5, vB (r53 == r55)), (6, undef), (7, undef), (8, undef), (9, undef), (10, vB false), (11, vB false)] z ?_
  refine stage z z z z mk20_ [0, 1, 2, 3, 4, 5, 6, 7, 8, 9, 10, 11] [] z z z (q_mv z z z (q_u z z (o_callqP ca14 z (BA.ok b44 x43 (⟨(pv48, g49), (pv51, g52)⟩ : Ah.G) r53 hr53) (fun _ h => st_pk 4 [0, 1, 2, 3] (by decide) h) (fun _ h => st_pk 4 [0, 1, 2, 3] (by decide) h)) (q_u z z (o_ldn 3 (Ac.k q23.2 g30) ag40 z z z z) (q_u z z (o_callq ca15 z (BM.ok q23.2 (⟨(⟨(⟨(g30.A.R.L.1, [])⟩ : Ab.G)⟩ : Aa.G), (⟨(⟨(g30.T.S.Rows.1, []), g30.T.S.Door⟩ : Ad.G), (⟨(g30.T.R.L.1, [])⟩ : Ab.G)⟩ : Ae.G)⟩ : Ac.G) ⟨hf29.1, ⟨⟨hf29.2.1.1, hf29.2.1.2⟩, hf29.2.2⟩⟩ r55 hr55)) (q_u z z (o_bin z z (bS_eq r53 r55)) (q_mv z z z (q_n z z z z h57 (q_n z z z z h57 (q_n z z z z h57 (q_n z z z z h57 (q_u z z (o_pf z h57 z) (q_u z z (o_as z) qn)))))))))))) en ?_
  intro _
  refine ex_sub (E' := [(6, vB false)]) ⟨z, trivial⟩ ?_
  refine x_seq (c_ret ?_)
  obtain rfl := si hm58
  refine ex_st (fun _ h => st_pk 4 [] (by decide) h) ?_
  exact x_r1 z (rv_t z) le25 ⟨_, z, z, trivial, z⟩
 refine c_blk ?_
 refine cd_st (fun _ h => mv2 (mv5 h)) ?_
 refine cd_ex (fun w h => st_freezeN w h) fun R79 hf82 => ?_
 obtain ⟨le80, h81⟩ := hf82
 refine cd_st (fun _ h => mv2 (mv4 h)) ?_
 refine cd_ex (fun w h => st_freezeN w h) fun R83 hf86 => ?_
 obtain ⟨le84, h85⟩ := hf86
 refine cd_st (fun _ h => mv1 h) ?_
 refine cd_ex (fun w h => st_freeze w h) fun R87 hf90 => ?_
 obtain ⟨le88, h89⟩ := hf90
 refine cd_st (fun _ h => mv2 (mv2 h)) ?_
 refine cd_ex (fun w h => st_freezeN w h) fun R91 hf94 => ?_
 obtain ⟨le92, h93⟩ := hf94
 refine cd_loopG (M := fun k78 (s : Option Ah × Int × Ac × (Value × Ah.G) × Ac.G × PH) => (Bv a2 k78 s.1 s.2.1 s.2.2.1 = some p22) ∧ (Le R s.2.2.2.2.2) ∧ (Ac.ro s.2.2.2.2.2 s.2.2.1 s.2.2.2.2.1)) (Ef := fun (s : Option Ah × Int × Ac × (Value × Ah.G) × Ac.G × PH) => [(2, v2_), (7, vI (i64 (1 + (iand a0 1)))), (11, pt b17 0), (9, s.2.2.2.1.1), (12, vI s.2.1)]) (Rf := fun (s : Option Ah × Int × Ac × (Value × Ah.G) × Ac.G × PH) => s.2.2.2.2.2) (Lf := fun (s : Option Ah × Int × Ac × (Value × Ah.G) × Ac.G × PH) => Bk b17 40 (Ac.k s.2.2.1 s.2.2.2.2.1) :: rO (Ah.op s.2.2.2.1.2) s.2.2.2.1.1 s.1 :: F) (((a2.length : Int) - 0).toNat + 1) (r0.1, 0, r5, (pv2, g3), (⟨(⟨(⟨(v6.A.R.L.1, [])⟩ : Ab.G)⟩ : Aa.G), (⟨(⟨(v6.T.S.Rows.1, []), v6.T.S.Door⟩ : Ad.G), (⟨(v6.T.R.L.1, [])⟩ : Ab.G)⟩ : Ae.G)⟩ : Ac.G), R91) ⟨hp40, (Le.trans (Le.trans (Le.trans le80 le84) le88) le92), ⟨(RoN.mono (Le.trans (Le.trans le84 le88) le92) h81), ⟨⟨(RoN.mono (Le.trans le88 le92) h85), (RoS.mono le92 h89)⟩, h93⟩⟩⟩ ⟨z, z, z, z, z, trivial⟩ (fun _ h => st_pk 2 [0, 1] (by decide) h) (fun _ h => by cases h.1) fun k78 s hM96 => ?_
 obtain ⟨p_59, i_60, c_61, pv64, g68, R62⟩ := s
 have hm95 : Bv a2 (k78 + 1) p_59 i_60 c_61 = some p22 := hM96.1
 have le63 : Le R R62 := hM96.2.1
 have hf67 : Ac.ro R62 c_61 g68 := hM96.2.2
 rw [Bv] at hm95
 obtain ⟨pv65, g66⟩ := pv64
 refine c_seq (csr ?_)
 refine r_mv z (r_mv z ?_)
 refine r_u (o_lenR Tryz.underlying22 z (RoS.mono le63 h2_)) (r_bin z z (bI_lt i_60 (a2.length : Int)) (r_mv z ?_))
 refine r_s (s_gt z z fun g => o_mv z) ?_
 refine r_s (s_gt z z fun g => o_bin (evg z g) z (bI_lt i_60 80)) ?_
 refine r_u (o_and z z) ?_
 refine nsq ?_
 refine c_if (b := (decide (i_60 < (a2.length : Int)) && decide (i_60 < 80))) z (fun h97 => ?_) fun h97 => ?_
 rotate_left
 ·have hm98 := iff_ hm95 h97
  clear hm95
  refine c_exit (x_exit (ks' := _) z ?_)
  obtain rfl := si hm98
  exact x_sub (K42 _ z _ le63 (pv65, g66) (⟨(⟨(⟨(g68.A.R.L.1, [])⟩ : Ab.G)⟩ : Aa.G), (⟨(⟨(g68.T.S.Rows.1, []), g68.T.S.Door⟩ : Ad.G), (⟨(g68.T.R.L.1, [])⟩ : Ab.G)⟩ : Ae.G)⟩ : Ac.G) ⟨hf67.1, ⟨⟨hf67.2.1.1, hf67.2.1.2⟩, hf67.2.2⟩⟩) ⟨z, z, z, trivial⟩ (fun _ h => st_pk 2 [0, 1] (by decide) h)
 have hm98 := ift hm95 h97
 clear hm95
 refine c_skip (x_seq (c_seq ?_))
 obtain ⟨p99, hp117, hm118⟩ := bs hm98
 refine cd_cut (fun x ks => ∀ (q100 : Option Ah × Ac), ∀ (_ : p99 = Sum.inl q100), ∀ (R101 : PH), ∀ (le102 : Le R62 R101), ∀ (pv103 : Value × Ah.G), ∀ (g107 : Ac.G), ∀ (hf106 : Ac.ro R101 q100.2 g107), EX x .normal ks [(2, v2_), (7, vI (i64 (1 + (iand a0 1)))), (11, pt b17 0), (12, vI i_60), (9, pv103.1)] R101 (Bk b17 40 (Ac.k q100.2 g107) :: rO (Ah.op pv103.2) pv103.1 q100.1 :: F)) ?_ fun K119 => ?_
 ·intro q100 hq R101 le102 pv103 g107 hf106
  subst hq
  try dsimp only at hm118
  obtain ⟨pv104, g105⟩ := pv103
  refine x_seq (c_reg ?_)
  refine r_mv z (r_bin z z (bI_add i_60 1) (r_as z ?_))
  refine r_nil ?_
  exact x_lp (q100.1, i64 (i_60 + 1), q100.2, (pv104, g105), (⟨(⟨(⟨(g107.A.R.L.1, [])⟩ : Ab.G)⟩ : Aa.G), (⟨(⟨(g107.T.S.Rows.1, []), g107.T.S.Door⟩ : Ad.G), (⟨(g107.T.R.L.1, [])⟩ : Ab.G)⟩ : Ae.G)⟩ : Ac.G), R101) ⟨hm118, (Le.trans le63 le102), ⟨hf106.1, ⟨⟨hf106.2.1.1, hf106.2.1.2⟩, hf106.2.2⟩⟩⟩ ⟨z, z, z, z, z, trivial⟩ (fun _ h => st_pk 2 [0, 1] (by decide) h)
 refine c_blk (c_seq ?_)
 obtain ⟨x120, hx120, hm121⟩ := bs hp117
 clear hp117
 obtain ⟨b120, o120, l120, T120, fr120, c120, hv120, hR120, he120, hi120⟩ := RoS.ne (RoS.mono le63 h2_) hx120
 refine cd_st (fun _ h => mv1 h) ?_
 refine cd_opt (fun ho124 => ?_) (fun x122 b123 ho124 => ?_)
 ·rintro rfl
  have hm125 := om_n hm121 ho124
  clear hm121
  cases hm125
 rintro rfl
 have hm125 := om_s hm121 ho124
 clear hm121
 obtain ⟨⟨pv127, g128⟩, ⟨pv130, g131⟩⟩ := g66
 refine cd_st (fun _ h => st_star_o h) ?_
 obtain ⟨r132, hr132, hm149⟩ := bs hm125
 clear hm125
 refine c_any mixed (effs := [6, 11, 13]) (V := []) ?_
 refine stage_ext [(0, pt b123 0), (1, .agg (Ac.k c_61 g68).toArray), (2, v2_), (3, vI i_60), (4, pt b120 (o120 + i_60.toNat * 2)), (5, .agg (AC.c x120).toArray)] z ?_
 refine stage z z z z mk4_ [0, 1, 2, 3, 4, 5] [6, 11] z z z (q_mv z z z (q_u z z (o_ldn 3 (Ac.k c_61 g68) ag40 z z z z) (q_mv z z z (q_mv z z z (q_u z z (o_ix (sz := 2) Tryz.underlying22 (fun _ => by kernel_rfl) z z hv120 hi120) (q_u z z (o_ldnR (AC.c x120) ag46 z hR120 he120 z) qn)))))) ?_ (nxt z)
 refine ec (eo_w z (s_w (o_call ca8 z (CI.ok b123 x122 (⟨(pv127, g128), (pv130, g131)⟩ : Ah.G) c_61 (⟨(⟨(⟨(g68.A.R.L.1, [])⟩ : Ab.G)⟩ : Aa.G), (⟨(⟨(g68.T.S.Rows.1, []), g68.T.S.Door⟩ : Ad.G), (⟨(g68.T.R.L.1, [])⟩ : Ab.G)⟩ : Ae.G)⟩ : Ac.G) ⟨hf67.1, ⟨⟨hf67.2.1.1, hf67.2.1.2⟩, hf67.2.2⟩⟩ x120 r132 hr132))) ?_) (ec (eo_n z (s_w (o_al ze40)) fun b150 => ?_) en)
 ·rintro _ R147 _ le148 ⟨⟨pv134, g135⟩, v136, rfl, hf137, rfl⟩
  refine stage_ext [(7, .tuple #[pv134, .agg (Ac.k r132.2.1 v136).toArray, vB r132.2.2]), (8, pv134), (9, .agg (Ac.k r132.2.1 v136).toArray), (10, vB r132.2.2)] z ?_
  refine stage z z z z mk4_ [7, 8, 9, 10] [11] z z z (q_mv z z z (q_u z z (o_ext z z) (q_u z z (o_ext z z) (q_u z z (o_ext z z) qn)))) ?_ (nxt z)
  refine ec (eo_n z (s_w (o_al ze40)) fun b150 => ?_) en
  refine stage_ext [(12, pv134)] z ?_
  refine stage z z z z mk4_ [7, 8, 9, 10, 12] [13] z z z (q_mv z z z (q_u z z (o_ext z z) (q_u z z (o_ext z z) (q_u z z (o_ext z z) (q_u z z (o_as z) qn))))) ?_ (nxt z)
  refine ec (eo_u z (s_u (o_stn ag40 z z z (al_c z (al_c z (al_c z (al_c (RoN.one hf137.1) (al_c z (al_c z (al_c z (al_c z (al_c (RoN.one hf137.2.1.1) (al_c (RoS.one hf137.2.1.2) (al_c z (al_c (RoN.one hf137.2.2) (al_c z al_n))))))))))))) z z z)) (Le.refl _) ?_) en
  refine stage_ext [(14, vB r132.2.2)] z ?_
  refine stage z z z z mk4_ [10, 14] [] z z z (q_u z z (o_ext z z) (q_u z z (o_as z) qn)) en ?_
  intro _
  refine ex_sub (E' := [(2, v2_), (7, vI (i64 (1 + (iand a0 1)))), (11, pt b17 0), (12, vI i_60), (14, pt b150 0), (13, pv134), (15, vB r132.2.2)]) ⟨z, z, z, z, z, z, z, trivial⟩ ?_
  refine x_seq (c_seq ?_)
  refine c_any mixed (effs := [3]) (V := []) ?_
  refine stage_st (fun _ h => mv2 h) ?_
  refine stage_ext [(0, pv134), (1, .agg (Ac.k r132.2.1 v136).toArray), (2, pv134)] z ?_
  refine stage z z z z [0, 0, 1, 7] [0, 1, 2] [3] z z z (q_mv z z z (q_u z z (o_ldn 1 (Ac.k r132.2.1 v136) ag40 z z z z) (q_u z z (o_as z) qn))) ?_ (nxt z)
  refine ec (eo_u z (s_u (o_stn ag40 z z z (al_c z (al_c z (al_c z (al_c (RoN.one hf137.1) (al_c z (al_c z (al_c z (al_c z (al_c (RoN.one hf137.2.1.1) (al_c (RoS.one hf137.2.1.2) (al_c z (al_c (RoN.one hf137.2.2) (al_c z al_n))))))))))))) z z z)) (Le.refl _) ?_) en
  refine stage z z z z [0, 0, 1, 7] [] [] z z z qn en ?_
  intro _
  refine ex_sub (E' := [(2, v2_), (7, vI (i64 (1 + (iand a0 1)))), (11, pt b17 0), (12, vI i_60), (15, vB r132.2.2), (9, pv134)]) ⟨z, z, z, z, z, z, trivial⟩ ?_
  refine x_seq (c_seq ?_)
  refine cd_st (fun _ h => mv2 h) ?_
  refine cd_opt (fun ho153 => ?_) (fun x151 b152 ho153 => ?_)
  ·rintro rfl
   have hm154 := om_n hm149 ho153
   clear hm149
   cases hm154
  rintro rfl
  have hm154 := om_s hm149 ho153
  clear hm149
  obtain ⟨⟨pv156, g157⟩, ⟨pv159, g160⟩⟩ := g135
  refine cd_st (fun _ h => st_star_o h) ?_
  obtain ⟨p161, hp162, hm163⟩ := bs hm154
  refine cd_join (E' := [(2, v2_), (7, vI (i64 (1 + (iand a0 1)))), (9, pt b152 0), (11, pt b17 0), (12, vI i_60), (87, vB p161)]) (L' := Bk b152 63 [vI x151.kind, pv156, pv159] :: Bk b17 40 (Ac.k r132.2.1 v136) :: Bk b150 40 (Ac.k r132.2.1 v136) :: rO (Al.op g157) pv156 x151.a :: rO (Ak.op g160) pv159 x151.t :: F) ?_ fun K164 => ?_
  ·refine x_seq ?_
   refine c_if (b := p161) z (fun h165 => ?_) fun h165 => ?_
   ·have hm166 := ift hm163 h165
    clear hm163
    refine csr ?_
    refine r_as z ?_
    refine r_nil (x_seq (c_ret ?_))
    obtain rfl := si hm166
    try dsimp only at hm118
    obtain rfl := si hm118
    try dsimp only at hm41
    obtain rfl := si hm41
    refine ex_st (fun _ h => st_pk 5 [] (by decide) h) ?_
    exact x_r1 z (rv_t z) (Le.trans le63 le148) ⟨_, z, z, trivial, z⟩
   have hm166 := iff_ hm163 h165
   clear hm163
   refine c_skip (x_blk ?_)
   refine ex_st (fun _ h => mv2 (mv4 (mv4 h))) ?_
   refine ex_st (fun _ h => st_some (f := Ah.op (⟨(pv156, g157), (pv159, g160)⟩ : Ah.G)) (a := x151) (st_star_f (A := Ah.fl b152 x151 (⟨(pv156, g157), (pv159, g160)⟩ : Ah.G)) h)) ?_
   obtain rfl := si hm166
   exact x_sub (K119 _ z _ le148 (pt b152 0, (⟨(pv156, g157), (pv159, g160)⟩ : Ah.G)) (⟨(⟨(⟨(v136.A.R.L.1, [])⟩ : Ab.G)⟩ : Aa.G), (⟨(⟨(v136.T.S.Rows.1, []), v136.T.S.Door⟩ : Ad.G), (⟨(v136.T.R.L.1, [])⟩ : Ab.G)⟩ : Ae.G)⟩ : Ac.G) ⟨hf137.1, ⟨⟨hf137.2.1.1, hf137.2.1.2⟩, hf137.2.2⟩⟩) ⟨z, z, z, z, z, trivial⟩ (fun _ h => st_pk 3 [1, 0] (by decide) h)
  refine cd_by r132.2.2 (fun h167 => ?_) fun h167 => ?_
  rotate_left
  ·have hm168 := iff_ hp162 h167
   clear hp162
   refine c_any mixed (effs := []) (V := []) ?_
   refine stage_ext [(0, vB r132.2.2), (1, vB (!r132.2.2)), (2, vB (!r132.2.2)), (3, undef), (4, undef), (5, undef), (6, undef), (7, undef), (8, vB true), (9, vB true), (10, undef), (11, undef), (12, undef), (13, undef), (14, undef), (15, undef), (16, undef), (17, undef), (18, undef), (19, undef), (20, undef), (21, undef), (22, undef), (23, undef), (24, undef), (25, undef), (26, undef), (27, vB true)] z ?_
   refine stage z z z z mk29_ [0, 1, 2, 3, 4, 5, 6, 7, 8, 9, 10, 11, 12, 13, 14, 15, 16, 17, 18, 19, 20, 21, 22, 23, 24, 25, 26, 27] [] z z z (q_mv z z z (q_u z z (o_not z) (q_mv z z z (q_n z z z z (nbt h167) (q_n z z z z (nbt h167) (q_n z z z z (nbt h167) (q_n z z z z (nbt h167) (q_n z z z z (nbt h167) (q_u z z (o_pt z (nbt h167) z) (q_mv z z z (q_n z z z z z (q_n z z z z z (q_n z z z z z (q_n z z z z z (q_n z z z z z (q_n z z z z z (q_n z z z z z (q_n z z z z z (q_n z z z z z (q_n z z z z z (q_n z z z z z (q_n z z z z z (q_n z z z z z (q_n z z z z z (q_n z z z z z (q_n z z z z z (q_n z z z z z (q_u z z (o_pt z z z) qn)))))))))))))))))))))))))))) en ?_
   intro _
   refine ex_sub (E' := [(2, v2_), (7, vI (i64 (1 + (iand a0 1)))), (11, pt b17 0), (12, vI i_60), (9, pt b152 0), (87, vB true)]) ⟨z, z, z, z, z, z, trivial⟩ ?_
   obtain rfl := si hm168
   exact x_sub K164 ⟨z, z, z, z, z, z, trivial⟩ (fun _ h => st_pk 5 [0, 3, 4, 1, 2] (by decide) h)
  have hm168 := ift hp162 h167
  clear hp162
  obtain ⟨r169, hr169, hm170⟩ := bs hm168
  clear hm168
  obtain ⟨r171, hr171, hm172⟩ := bs hm170
  clear hm170
  obtain ⟨p173, hp174, hm175⟩ := bs hm172
  refine cd_join (E' := [(2, v2_), (7, vI (i64 (1 + (iand a0 1)))), (9, pt b152 0), (11, pt b17 0), (12, vI i_60), (87, vB p173)]) (L' := Bk b152 63 [vI x151.kind, pv156, pv159] :: Bk b17 40 (Ac.k r132.2.1 v136) :: Bk b150 40 (Ac.k r132.2.1 v136) :: rO (Al.op g157) pv156 x151.a :: rO (Ak.op g160) pv159 x151.t :: F) ?_ fun K176 => ?_
  ·obtain rfl := si hm175
   exact x_sub K164 ⟨z, z, z, z, z, z, trivial⟩ (fun _ h => st_pk 5 [0, 1, 2, 3, 4] (by decide) h)
  refine cd_by (r169 != r171) (fun h177 => ?_) fun h177 => ?_
  ·have hm178 := ift hp174 h177
   clear hp174
   refine c_any mixed (effs := []) (V := []) ?_
   refine stage_ext [(0, vB r132.2.2), (1, vB (!r132.2.2)), (2, vB (!r132.2.2)), (3, pt b152 0), (4, vI r169), (5, .agg (Ac.k r132.2.1 v136).toArray), (6, vI r171), (7, vB (r169 != r171)), (8, vB (r169 != r171)), (9, vB (r169 != r171)), (10, undef), (11, undef), (12, undef), (13, undef), (14, undef), (15, undef), (16, undef), (17, undef), (18, undef), (19, undef), (20, undef), (21, undef), (22, undef), (23, undef), (24, undef), (25, undef), (26, undef), (27, vB true)] z ?_
   refine stage z z z z mk29_ [0, 1, 2, 3, 4, 5, 6, 7, 8, 9, 10, 11, 12, 13, 14, 15, 16, 17, 18, 19, 20, 21, 22, 23, 24, 25, 26, 27] [] z z z (q_mv z z z (q_u z z (o_not z) (q_mv z z z (q_y z z z z (nbf h167) (o_mv z) (q_y z z z z (nbf h167) (o_callqP ca9 z (Bp.ok b152 x151 (⟨(pv156, g157), (pv159, g160)⟩ : Ah.G) r169 hr169) (fun _ h => st_pk 5 [0, 1, 2, 3, 4] (by decide) h) (fun _ h => st_pk 5 [0, 1, 2, 3, 4] (by decide) h)) (q_y z z z z (nbf h167) (o_ldn 3 (Ac.k r132.2.1 v136) ag40 z z z z) (q_y z z z z (nbf h167) (o_callq ca10 z (Bd.ok r132.2.1 (⟨(⟨(⟨(v136.A.R.L.1, [])⟩ : Ab.G)⟩ : Aa.G), (⟨(⟨(v136.T.S.Rows.1, []), v136.T.S.Door⟩ : Ad.G), (⟨(v136.T.R.L.1, [])⟩ : Ab.G)⟩ : Ae.G)⟩ : Ac.G) ⟨hf137.1, ⟨⟨hf137.2.1.1, hf137.2.1.2⟩, hf137.2.2⟩⟩ r171 hr171)) (q_y z z z z (nbf h167) (o_bin z z (bI_ne r169 r171)) (q_u z z (o_pf z (nbf h167) z) (q_mv z z z (q_n z z z z h177 (q_n z z z z h177 (q_n z z z z h177 (q_n z z z z h177 (q_n z z z z h177 (q_n z z z z h177 (q_n z z z z h177 (q_n z z z z h177 (q_n z z z z h177 (q_n z z z z h177 (q_n z z z z h177 (q_n z z z z h177 (q_n z z z z h177 (q_n z z z z h177 (q_n z z z z h177 (q_n z z z z h177 (q_n z z z z h177 (q_u z z (o_pt z h177 z) qn)))))))))))))))))))))))))))) en ?_
   intro _
   refine ex_sub (E' := [(2, v2_), (7, vI (i64 (1 + (iand a0 1)))), (11, pt b17 0), (12, vI i_60), (9, pt b152 0), (87, vB true)]) ⟨z, z, z, z, z, z, trivial⟩ ?_
   obtain rfl := si hm178
   exact x_sub K176 ⟨z, z, z, z, z, z, trivial⟩ (fun _ h => st_pk 5 [0, 3, 4, 1, 2] (by decide) h)
  have hm178 := iff_ hp174 h177
  clear hp174
  obtain ⟨r179, hr179, hm180⟩ := bs hm178
  clear hm178
  obtain ⟨r181, hr181, hm182⟩ := bs hm180
  clear hm180
  obtain ⟨r183, hr183, hm184⟩ := bs hm182
  clear hm182
  refine c_any mixed (effs := []) (V := []) ?_
  refine stage_ext [(0, vB r132.2.2), (1, vB (!r132.2.2)), (2, vB (!r132.2.2)), (3, pt b152 0), (4, vI r169), (5, .agg (Ac.k r132.2.1 v136).toArray), (6, vI r171), (7, vB (r169 != r171)), (8, vB (r169 != r171)), (9, vB (r169 != r171)), (10, pt b152 0), (11, v2_), (12, vI i_60), (13, pt b120 (o120 + i_60.toNat * 2)), (14, pt b120 (o120 + i_60.toNat * 2 + 1)), (15, vS x120.Key), (16, vS r179), (17, vB r181), (18, .agg (Ac.k r132.2.1 v136).toArray), (19, v2_), (20, vI i_60), (21, pt b120 (o120 + i_60.toNat * 2)), (22, pt b120 (o120 + i_60.toNat * 2 + 1)), (23, vS x120.Key), (24, vS r179), (25, vB r183), (26, vB (r181 != r183)), (27, vB (r181 != r183))] z ?_
  refine stage z z z z mk29_ [0, 1, 2, 3, 4, 5, 6, 7, 8, 9, 10, 11, 12, 13, 14, 15, 16, 17, 18, 19, 20, 21, 22, 23, 24, 25, 26, 27] [] z z z (q_mv z z z (q_u z z (o_not z) (q_mv z z z (q_y z z z z (nbf h167) (o_mv z) (q_y z z z z (nbf h167) (o_callqP ca9 z (Bp.ok b152 x151 (⟨(pv156, g157), (pv159, g160)⟩ : Ah.G) r169 hr169) (fun _ h => st_pk 5 [0, 1, 2, 3, 4] (by decide) h) (fun _ h => st_pk 5 [0, 1, 2, 3, 4] (by decide) h)) (q_y z z z z (nbf h167) (o_ldn 3 (Ac.k r132.2.1 v136) ag40 z z z z) (q_y z z z z (nbf h167) (o_callq ca10 z (Bd.ok r132.2.1 (⟨(⟨(⟨(v136.A.R.L.1, [])⟩ : Ab.G)⟩ : Aa.G), (⟨(⟨(v136.T.S.Rows.1, []), v136.T.S.Door⟩ : Ad.G), (⟨(v136.T.R.L.1, [])⟩ : Ab.G)⟩ : Ae.G)⟩ : Ac.G) ⟨hf137.1, ⟨⟨hf137.2.1.1, hf137.2.1.2⟩, hf137.2.2⟩⟩ r171 hr171)) (q_y z z z z (nbf h167) (o_bin z z (bI_ne r169 r171)) (q_u z z (o_pf z (nbf h167) z) (q_mv z z z (q_y z z z z h177 (o_mv z) (q_y z z z z h177 (o_mv z) (q_y z z z z h177 (o_mv z) (q_y z z z z h177 (o_ix (sz := 2) Tryz.underlying22 (fun _ => by kernel_rfl) z z hv120 hi120) (q_y z z z z h177 (o_fa fa46_1 z) (q_y z z z z h177 (o_ldR sc9 z (le148 _ _ hR120) (rok 1 he120 (by decide))) (q_y z z z z h177 (o_callq ca12 z (Bq.ok x120.Key r179 hr179)) (q_y z z z z h177 (o_callqP ca11 z (AN.ok b152 x151 (⟨(pv156, g157), (pv159, g160)⟩ : Ah.G) r179 r181 hr181) (fun _ h => st_pk 5 [0, 1, 2, 3, 4] (by decide) h) (fun _ h => st_pk 5 [0, 1, 2, 3, 4] (by decide) h)) (q_y z z z z h177 (o_ldn 3 (Ac.k r132.2.1 v136) ag40 z z z z) (q_y z z z z h177 (o_mv z) (q_y z z z z h177 (o_mv z) (q_y z z z z h177 (o_ix (sz := 2) Tryz.underlying22 (fun _ => by kernel_rfl) z z hv120 hi120) (q_y z z z z h177 (o_fa fa46_1 z) (q_y z z z z h177 (o_ldR sc9 z (le148 _ _ hR120) (rok 1 he120 (by decide))) (q_y z z z z h177 (o_callq ca12 z (Bq.ok x120.Key r179 hr179)) (q_y z z z z h177 (o_callq ca13 z (BL.ok r132.2.1 (⟨(⟨(⟨(v136.A.R.L.1, [])⟩ : Ab.G)⟩ : Aa.G), (⟨(⟨(v136.T.S.Rows.1, []), v136.T.S.Door⟩ : Ad.G), (⟨(v136.T.R.L.1, [])⟩ : Ab.G)⟩ : Ae.G)⟩ : Ac.G) ⟨hf137.1, ⟨⟨hf137.2.1.1, hf137.2.1.2⟩, hf137.2.2⟩⟩ r179 r183 hr183)) (q_y z z z z h177 (o_bin z z (bB_ne Tryz.underlying4 r181 r183)) (q_u z z (o_pf z h177 z) qn)))))))))))))))))))))))))))) en ?_
  intro _
  refine ex_sub (E' := [(2, v2_), (7, vI (i64 (1 + (iand a0 1)))), (11, pt b17 0), (12, vI i_60), (9, pt b152 0), (87, vB (r181 != r183))]) ⟨z, z, z, z, z, z, trivial⟩ ?_
  obtain rfl := si hm184
  exact x_sub K176 ⟨z, z, z, z, z, z, trivial⟩ (fun _ h => st_pk 5 [0, 3, 4, 1, 2] (by decide) h)
 refine stage_st (fun _ h => mv3 (mv3 (mv3 h))) ?_
 refine stage z z z z mk4_ [0, 1, 2, 3, 4, 5] [6] z z z (q_mv z z z (q_u z z (o_ldn 4 (Ac.k c_61 g68) ag40 z z z z) (q_mv z z z (q_mv z z z (q_u z z (o_ix (sz := 2) Tryz.underlying22 (fun _ => by kernel_rfl) z z hv120 hi120) (q_u z z (o_ldnR (AC.c x120) ag46 z hR120 he120 z) qn)))))) ?_ (nxt z)
 refine ec (eo_w z (s_w (o_call ca8 z (CI.ok b123 x122 (⟨(pv127, g128), (pv130, g131)⟩ : Ah.G) c_61 (⟨(⟨(⟨(g68.A.R.L.1, [])⟩ : Ab.G)⟩ : Aa.G), (⟨(⟨(g68.T.S.Rows.1, []), g68.T.S.Door⟩ : Ad.G), (⟨(g68.T.R.L.1, [])⟩ : Ab.G)⟩ : Ae.G)⟩ : Ac.G) ⟨hf67.1, ⟨⟨hf67.2.1.1, hf67.2.1.2⟩, hf67.2.2⟩⟩ x120 r132 hr132))) ?_) en
 rintro _ R147 _ le148 ⟨⟨pv134, g135⟩, v136, rfl, hf137, rfl⟩
 refine stage_st (fun _ h => mv1 h) ?_
 refine stage_ext [(7, .tuple #[pv134, .agg (Ac.k r132.2.1 v136).toArray, vB r132.2.2]), (8, pv134), (9, .agg (Ac.k r132.2.1 v136).toArray), (10, vB r132.2.2), (12, pv134)] z ?_
 refine stage z z z z mk4_ [7, 8, 9, 10, 12] [13] z z z (q_mv z z z (q_u z z (o_ext z z) (q_u z z (o_ext z z) (q_u z z (o_ext z z) (q_u z z (o_as z) qn))))) ?_ (nxt z)
 refine ec (eo_u z (s_u (o_stn ag40 z z z (al_c z (al_c z (al_c z (al_c (RoN.one hf137.1) (al_c z (al_c z (al_c z (al_c z (al_c (RoN.one hf137.2.1.1) (al_c (RoS.one hf137.2.1.2) (al_c z (al_c (RoN.one hf137.2.2) (al_c z al_n))))))))))))) z z z)) (Le.refl _) ?_) en
 refine stage_ext [(14, vB r132.2.2)] z ?_
 refine stage z z z z mk4_ [10, 14] [] z z z (q_u z z (o_ext z z) (q_u z z (o_as z) qn)) en ?_
 intro _
 refine ex_sub (E' := [(2, v2_), (7, vI (i64 (1 + (iand a0 1)))), (11, pt b17 0), (12, vI i_60), (14, pt b150 0), (13, pv134), (15, vB r132.2.2)]) ⟨z, z, z, z, z, z, z, trivial⟩ ?_
 refine x_seq (c_seq ?_)
 refine c_any mixed (effs := [3]) (V := []) ?_
 refine stage_st (fun _ h => mv2 h) ?_
 refine stage_ext [(0, pv134), (1, .agg (Ac.k r132.2.1 v136).toArray), (2, pv134)] z ?_
 refine stage z z z z [0, 0, 1, 7] [0, 1, 2] [3] z z z (q_mv z z z (q_u z z (o_ldn 1 (Ac.k r132.2.1 v136) ag40 z z z z) (q_u z z (o_as z) qn))) ?_ (nxt z)
 refine ec (eo_u z (s_u (o_stn ag40 z z z (al_c z (al_c z (al_c z (al_c (RoN.one hf137.1) (al_c z (al_c z (al_c z (al_c z (al_c (RoN.one hf137.2.1.1) (al_c (RoS.one hf137.2.1.2) (al_c z (al_c (RoN.one hf137.2.2) (al_c z al_n))))))))))))) z z z)) (Le.refl _) ?_) en
 refine stage z z z z [0, 0, 1, 7] [] [] z z z qn en ?_
 intro _
 refine ex_sub (E' := [(2, v2_), (7, vI (i64 (1 + (iand a0 1)))), (11, pt b17 0), (12, vI i_60), (15, vB r132.2.2), (9, pv134)]) ⟨z, z, z, z, z, z, trivial⟩ ?_
 refine x_seq (c_seq ?_)
 refine cd_st (fun _ h => mv2 h) ?_
 refine cd_opt (fun ho187 => ?_) (fun x185 b186 ho187 => ?_)
 ·rintro rfl
  have hm188 := om_n hm149 ho187
  clear hm149
  cases hm188
 rintro rfl
 have hm188 := om_s hm149 ho187
 clear hm149
 obtain ⟨⟨pv190, g191⟩, ⟨pv193, g194⟩⟩ := g135
 refine cd_st (fun _ h => st_star_o h) ?_
 obtain ⟨p195, hp196, hm197⟩ := bs hm188
 refine cd_join (E' := [(2, v2_), (7, vI (i64 (1 + (iand a0 1)))), (9, pt b186 0), (11, pt b17 0), (12, vI i_60), (87, vB p195)]) (L' := Bk b186 63 [vI x185.kind, pv190, pv193] :: Bk b17 40 (Ac.k r132.2.1 v136) :: Bk b150 40 (Ac.k r132.2.1 v136) :: rO (Al.op g191) pv190 x185.a :: rO (Ak.op g194) pv193 x185.t :: F) ?_ fun K198 => ?_
 ·refine x_seq ?_
  refine c_if (b := p195) z (fun h199 => ?_) fun h199 => ?_
  ·have hm200 := ift hm197 h199
   clear hm197
   refine csr ?_
   refine r_as z ?_
   refine r_nil (x_seq (c_ret ?_))
   obtain rfl := si hm200
   try dsimp only at hm118
   obtain rfl := si hm118
   try dsimp only at hm41
   obtain rfl := si hm41
   refine ex_st (fun _ h => st_pk 5 [] (by decide) h) ?_
   exact x_r1 z (rv_t z) (Le.trans le63 le148) ⟨_, z, z, trivial, z⟩
  have hm200 := iff_ hm197 h199
  clear hm197
  refine c_skip (x_blk ?_)
  refine ex_st (fun _ h => mv2 (mv4 (mv4 h))) ?_
  refine ex_st (fun _ h => st_some (f := Ah.op (⟨(pv190, g191), (pv193, g194)⟩ : Ah.G)) (a := x185) (st_star_f (A := Ah.fl b186 x185 (⟨(pv190, g191), (pv193, g194)⟩ : Ah.G)) h)) ?_
  obtain rfl := si hm200
  exact x_sub (K119 _ z _ le148 (pt b186 0, (⟨(pv190, g191), (pv193, g194)⟩ : Ah.G)) (⟨(⟨(⟨(v136.A.R.L.1, [])⟩ : Ab.G)⟩ : Aa.G), (⟨(⟨(v136.T.S.Rows.1, []), v136.T.S.Door⟩ : Ad.G), (⟨(v136.T.R.L.1, [])⟩ : Ab.G)⟩ : Ae.G)⟩ : Ac.G) ⟨hf137.1, ⟨⟨hf137.2.1.1, hf137.2.1.2⟩, hf137.2.2⟩⟩) ⟨z, z, z, z, z, trivial⟩ (fun _ h => st_pk 3 [1, 0] (by decide) h)
 refine cd_by r132.2.2 (fun h201 => ?_) fun h201 => ?_
 rotate_left
 ·have hm202 := iff_ hp196 h201
  clear hp196
  refine c_any mixed (effs := []) (V := []) ?_
  refine stage_ext [(0, vB r132.2.2), (1, vB (!r132.2.2)), (2, vB (!r132.2.2)), (3, undef), (4, undef), (5, undef), (6, undef), (7, undef), (8, vB true), (9, vB true), (10, undef), (11, undef), (12, undef), (13, undef), (14, undef), (15, undef), (16, undef), (17, undef), (18, undef), (19, undef), (20, undef), (21, undef), (22, undef), (23, undef), (24, undef), (25, undef), (26, undef), (27, vB true)] z ?_
  refine stage z z z z mk29_ [0, 1, 2, 3, 4, 5, 6, 7, 8, 9, 10, 11, 12, 13, 14, 15, 16, 17, 18, 19, 20, 21, 22, 23, 24, 25, 26, 27] [] z z z (q_mv z z z (q_u z z (o_not z) (q_mv z z z (q_n z z z z (nbt h201) (q_n z z z z (nbt h201) (q_n z z z z (nbt h201) (q_n z z z z (nbt h201) (q_n z z z z (nbt h201) (q_u z z (o_pt z (nbt h201) z) (q_mv z z z (q_n z z z z z (q_n z z z z z (q_n z z z z z (q_n z z z z z (q_n z z z z z (q_n z z z z z (q_n z z z z z (q_n z z z z z (q_n z z z z z (q_n z z z z z (q_n z z z z z (q_n z z z z z (q_n z z z z z (q_n z z z z z (q_n z z z z z (q_n z z z z z (q_n z z z z z (q_u z z (o_pt z z z) qn)))))))))))))))))))))))))))) en ?_
  intro _
  refine ex_sub (E' := [(2, v2_), (7, vI (i64 (1 + (iand a0 1)))), (11, pt b17 0), (12, vI i_60), (9, pt b186 0), (87, vB true)]) ⟨z, z, z, z, z, z, trivial⟩ ?_
  obtain rfl := si hm202
  exact x_sub K198 ⟨z, z, z, z, z, z, trivial⟩ (fun _ h => st_pk 5 [0, 3, 4, 1, 2] (by decide) h)
 have hm202 := ift hp196 h201
 clear hp196
 obtain ⟨r203, hr203, hm204⟩ := bs hm202
 clear hm202
 obtain ⟨r205, hr205, hm206⟩ := bs hm204
 clear hm204
 obtain ⟨p207, hp208, hm209⟩ := bs hm206
 refine cd_join (E' := [(2, v2_), (7, vI (i64 (1 + (iand a0 1)))), (9, pt b186 0), (11, pt b17 0), (12, vI i_60), (87, vB p207)]) (L' := Bk b186 63 [vI x185.kind, pv190, pv193] :: Bk b17 40 (Ac.k r132.2.1 v136) :: Bk b150 40 (Ac.k r132.2.1 v136) :: rO (Al.op g191) pv190 x185.a :: rO (Ak.op g194) pv193 x185.t :: F) ?_ fun K210 => ?_
 ·obtain rfl := si hm209
  exact x_sub K198 ⟨z, z, z, z, z, z, trivial⟩ (fun _ h => st_pk 5 [0, 1, 2, 3, 4] (by decide) h)
 refine cd_by (r203 != r205) (fun h211 => ?_) fun h211 => ?_
 ·have hm212 := ift hp208 h211
  clear hp208
  refine c_any mixed (effs := []) (V := []) ?_
  refine stage_ext [(0, vB r132.2.2), (1, vB (!r132.2.2)), (2, vB (!r132.2.2)), (3, pt b186 0), (4, vI r203), (5, .agg (Ac.k r132.2.1 v136).toArray), (6, vI r205), (7, vB (r203 != r205)), (8, vB (r203 != r205)), (9, vB (r203 != r205)), (10, undef), (11, undef), (12, undef), (13, undef), (14, undef), (15, undef), (16, undef), (17, undef), (18, undef), (19, undef), (20, undef), (21, undef), (22, undef), (23, undef), (24, undef), (25, undef), (26, undef), (27, vB true)] z ?_
  refine stage z z z z mk29_ [0, 1, 2, 3, 4, 5, 6, 7, 8, 9, 10, 11, 12, 13, 14, 15, 16, 17, 18, 19, 20, 21, 22, 23, 24, 25, 26, 27] [] z z z (q_mv z z z (q_u z z (o_not z) (q_mv z z z (q_y z z z z (nbf h201) (o_mv z) (q_y z z z z (nbf h201) (o_callqP ca9 z (Bp.ok b186 x185 (⟨(pv190, g191), (pv193, g194)⟩ : Ah.G) r203 hr203) (fun _ h => st_pk 5 [0, 1, 2, 3, 4] (by decide) h) (fun _ h => st_pk 5 [0, 1, 2, 3, 4] (by decide) h)) (q_y z z z z (nbf h201) (o_ldn 3 (Ac.k r132.2.1 v136) ag40 z z z z) (q_y z z z z (nbf h201) (o_callq ca10 z (Bd.ok r132.2.1 (⟨(⟨(⟨(v136.A.R.L.1, [])⟩ : Ab.G)⟩ : Aa.G), (⟨(⟨(v136.T.S.Rows.1, []), v136.T.S.Door⟩ : Ad.G), (⟨(v136.T.R.L.1, [])⟩ : Ab.G)⟩ : Ae.G)⟩ : Ac.G) ⟨hf137.1, ⟨⟨hf137.2.1.1, hf137.2.1.2⟩, hf137.2.2⟩⟩ r205 hr205)) (q_y z z z z (nbf h201) (o_bin z z (bI_ne r203 r205)) (q_u z z (o_pf z (nbf h201) z) (q_mv z z z (q_n z z z z h211 (q_n z z z z h211 (q_n z z z z h211 (q_n z z z z h211 (q_n z z z z h211 (q_n z z z z h211 (q_n z z z z h211 (q_n z z z z h211 (q_n z z z z h211 (q_n z z z z h211 (q_n z z z z h211 (q_n z z z z h211 (q_n z z z z h211 (q_n z z z z h211 (q_n z z z z h211 (q_n z z z z h211 (q_n z z z z h211 (q_u z z (o_pt z h211 z) qn)))))))))))))))))))))))))))) en ?_
  intro _
  refine ex_sub (E' := [(2, v2_), (7, vI (i64 (1 + (iand a0 1)))), (11, pt b17 0), (12, vI i_60), (9, pt b186 0), (87, vB true)]) ⟨z, z, z, z, z, z, trivial⟩ ?_
  obtain rfl := si hm212
  exact x_sub K210 ⟨z, z, z, z, z, z, trivial⟩ (fun _ h => st_pk 5 [0, 3, 4, 1, 2] (by decide) h)
 have hm212 := iff_ hp208 h211
 clear hp208
 obtain ⟨r213, hr213, hm214⟩ := bs hm212
 clear hm212
 obtain ⟨r215, hr215, hm216⟩ := bs hm214
 clear hm214
 obtain ⟨r217, hr217, hm218⟩ := bs hm216
 clear hm216
 refine c_any mixed (effs := []) (V := []) ?_
 refine stage_ext [(0, vB r132.2.2), (1, vB (!r132.2.2)), (2, vB (!r132.2.2)), (3, pt b186 0), (4, vI r203), (5, .agg (Ac.k r132.2.1 v136).toArray), (6, vI r205), (7, vB (r203 != r205)), (8, vB (r203 != r205)), (9, vB (r203 != r205)), (10, pt b186 0), (11, v2_), (12, vI i_60), (13, pt b120 (o120 + i_60.toNat * 2)), (14, pt b120 (o120 + i_60.toNat * 2 + 1)), (15, vS x120.Key), (16, vS r213), (17, vB r215), (18, .agg (Ac.k r132.2.1 v136).toArray), (19, v2_), (20, vI i_60), (21, pt b120 (o120 + i_60.toNat * 2)), (22, pt b120 (o120 + i_60.toNat * 2 + 1)), (23, vS x120.Key), (24, vS r213), (25, vB r217), (26, vB (r215 != r217)), (27, vB (r215 != r217))] z ?_
 refine stage z z z z mk29_ [0, 1, 2, 3, 4, 5, 6, 7, 8, 9, 10, 11, 12, 13, 14, 15, 16, 17, 18, 19, 20, 21, 22, 23, 24, 25, 26, 27] [] z z z (q_mv z z z (q_u z z (o_not z) (q_mv z z z (q_y z z z z (nbf h201) (o_mv z) (q_y z z z z (nbf h201) (o_callqP ca9 z (Bp.ok b186 x185 (⟨(pv190, g191), (pv193, g194)⟩ : Ah.G) r203 hr203) (fun _ h => st_pk 5 [0, 1, 2, 3, 4] (by decide) h) (fun _ h => st_pk 5 [0, 1, 2, 3, 4] (by decide) h)) (q_y z z z z (nbf h201) (o_ldn 3 (Ac.k r132.2.1 v136) ag40 z z z z) (q_y z z z z (nbf h201) (o_callq ca10 z (Bd.ok r132.2.1 (⟨(⟨(⟨(v136.A.R.L.1, [])⟩ : Ab.G)⟩ : Aa.G), (⟨(⟨(v136.T.S.Rows.1, []), v136.T.S.Door⟩ : Ad.G), (⟨(v136.T.R.L.1, [])⟩ : Ab.G)⟩ : Ae.G)⟩ : Ac.G) ⟨hf137.1, ⟨⟨hf137.2.1.1, hf137.2.1.2⟩, hf137.2.2⟩⟩ r205 hr205)) (q_y z z z z (nbf h201) (o_bin z z (bI_ne r203 r205)) (q_u z z (o_pf z (nbf h201) z) (q_mv z z z (q_y z z z z h211 (o_mv z) (q_y z z z z h211 (o_mv z) (q_y z z z z h211 (o_mv z) (q_y z z z z h211 (o_ix (sz := 2) Tryz.underlying22 (fun _ => by kernel_rfl) z z hv120 hi120) (q_y z z z z h211 (o_fa fa46_1 z) (q_y z z z z h211 (o_ldR sc9 z (le148 _ _ hR120) (rok 1 he120 (by decide))) (q_y z z z z h211 (o_callq ca12 z (Bq.ok x120.Key r213 hr213)) (q_y z z z z h211 (o_callqP ca11 z (AN.ok b186 x185 (⟨(pv190, g191), (pv193, g194)⟩ : Ah.G) r213 r215 hr215) (fun _ h => st_pk 5 [0, 1, 2, 3, 4] (by decide) h) (fun _ h => st_pk 5 [0, 1, 2, 3, 4] (by decide) h)) (q_y z z z z h211 (o_ldn 3 (Ac.k r132.2.1 v136) ag40 z z z z) (q_y z z z z h211 (o_mv z) (q_y z z z z h211 (o_mv z) (q_y z z z z h211 (o_ix (sz := 2) Tryz.underlying22 (fun _ => by kernel_rfl) z z hv120 hi120) (q_y z z z z h211 (o_fa fa46_1 z) (q_y z z z z h211 (o_ldR sc9 z (le148 _ _ hR120) (rok 1 he120 (by decide))) (q_y z z z z h211 (o_callq ca12 z (Bq.ok x120.Key r213 hr213)) (q_y z z z z h211 (o_callq ca13 z (BL.ok r132.2.1 (⟨(⟨(⟨(v136.A.R.L.1, [])⟩ : Ab.G)⟩ : Aa.G), (⟨(⟨(v136.T.S.Rows.1, []), v136.T.S.Door⟩ : Ad.G), (⟨(v136.T.R.L.1, [])⟩ : Ab.G)⟩ : Ae.G)⟩ : Ac.G) ⟨hf137.1, ⟨⟨hf137.2.1.1, hf137.2.1.2⟩, hf137.2.2⟩⟩ r213 r217 hr217)) (q_y z z z z h211 (o_bin z z (bB_ne Tryz.underlying4 r215 r217)) (q_u z z (o_pf z h211 z) qn)))))))))))))))))))))))))))) en ?_
 intro _
 refine ex_sub (E' := [(2, v2_), (7, vI (i64 (1 + (iand a0 1)))), (11, pt b17 0), (12, vI i_60), (9, pt b186 0), (87, vB (r215 != r217))]) ⟨z, z, z, z, z, z, trivial⟩ ?_
 obtain rfl := si hm218
 exact x_sub K210 ⟨z, z, z, z, z, z, trivial⟩ (fun _ h => st_pk 5 [0, 3, 4, 1, 2] (by decide) h)
end Go.Proofs.YthngfieikhillaaGreat
