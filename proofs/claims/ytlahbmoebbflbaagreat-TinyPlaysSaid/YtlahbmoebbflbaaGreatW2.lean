import Derived.Test.YtlahbmoebbflbaaGreatW1
import Derived.Test.YtlahbmoebbflbaaGreatFacts
import Derived.Test.YtlahbmoebbflbaaGreatHwY
set_option linter.unusedVariables false
set_option linter.unusedSectionVars false
set_option linter.unusedSimpArgs false
set_option maxRecDepth 100000
set_option maxHeartbeats 8000000
namespace Go.Proofs.YtlahbmoebbflbaaGreat
open Go Go.Proofs.YtlahbmoebbflbaaGreat.Hw
def tiny_Tiny_Miss (a0 : tiny_Tiny) (a1 : Str) : Option tiny_Tiny :=
  if decide ((a1.length : Int) ≤ 64) then om a0.s (none) fun x8 => (sketch_Sketch_Add x8 a1).bind fun r14 => some (⟨a0.most, (some r14), a0.r⟩ : tiny_Tiny) else some a0
theorem tiny_Tiny_Miss.ok {G R F} (b0_ : Nat) (a0 : tiny_Tiny) (g0_ : tiny_Tiny.G) (a1 : Str) (r : tiny_Tiny) (hm : tiny_Tiny_Miss a0 a1 = some r) : CO Tryz.prog 30 [pt b0_ 0, vS a1] G R (Bk b0_ 57 [vI a0.most, g0_.s.1, g0_.r.1] :: rO (sketch_Sketch.op g0_.s.2) g0_.s.1 a0.s :: rO (ring_Rings.op g0_.r.2) g0_.r.1 a0.r :: F)
    (Ret fun u R' L' => u = .tuple #[] ∧ R' = R ∧ L' = Bk b0_ 57 [vI r.most, g0_.s.1, g0_.r.1] :: rO (sketch_Sketch.op g0_.s.2) g0_.s.1 r.s :: rO (ring_Rings.op g0_.r.2) g0_.r.1 r.r :: F) := by
  obtain ⟨⟨pv1, g2⟩, ⟨pv4, g5⟩⟩ := g0_
  unfold tiny_Tiny_Miss at hm
  refine co_ofN (N := 17) Tryz.func30 rfl rfl ?_
  refine c_seq ?_
  refine c_reg ?_
  refine r_u (o_mv rfl) ?_
  refine r_u (o_bin rfl rfl (bP_nep Tryz.underlying24)) ?_
  refine r_u (o_mv rfl) ?_
  refine r_s (s_y rfl rfl rfl (o_mv rfl)) ?_
  refine r_s (s_y rfl rfl rfl (o_lenS Tryz.underlying9 rfl)) ?_
  refine r_s (s_y rfl rfl rfl (o_bin rfl rfl (bI_le (a1.length : Int) 64))) ?_
  refine r_u (o_pt rfl rfl rfl) ?_
  refine r_nil ?_
  refine x_seq ?_
  refine c_if (b := decide ((a1.length : Int) ≤ 64)) rfl (fun h6 => ?_) fun h6 => ?_
  · have hm7 := ift hm h6
    clear hm
    refine cd_st (fun _ h => mv1 h) ?_
    refine cd_opt (fun ho10 => ?_) (fun x8 b9 ho10 => ?_)
    · rintro rfl
      have hm11 := om_n hm7 ho10
      clear hm7
      cases hm11
    · rintro rfl
      have hm11 := om_s hm7 ho10
      clear hm7
      refine cd_st (fun _ h => st_star_o h) ?_
      refine c_reg ?_
      refine r_u (o_mv rfl) ?_
      refine r_u (o_nc rfl) ?_
      refine r_u (o_fa fa57_1 rfl) ?_
      refine r_u (o_ld 3 sc49 rfl rfl rfl) ?_
      refine r_u (o_mv rfl) ?_
      obtain ⟨r14, hr14, hm15⟩ := bs hm11
      clear hm11
      refine r_c (s_w (o_call ca48 rfl (sketch_Sketch_Add.ok b9 x8 g2 a1 r14 hr14))) ?_
      refine r_nil ?_
      refine x_end ?_
      refine ex_st (fun _ h => st_some (f := sketch_Sketch.op g2) (a := r14) (st_star_f (A := sketch_Sketch.fl b9 r14 g2) h)) ?_
      obtain rfl := Option.some.inj hm15
      refine ex_st (fun _ h => st_pk 3 [1, 0, 2] (by decide) h) ?_
      exact x_r0 rfl (Le.refl _) ⟨_, rfl, rfl, rfl, rfl⟩
  · have hm7 := iff_ hm h6
    clear hm
    refine c_skip ?_
    refine x_end ?_
    obtain rfl := Option.some.inj hm7
    exact x_r0 rfl (Le.refl _) ⟨_, rfl, rfl, rfl, rfl⟩

def hawthornref08_Tiny_Miss (a0 : hawthornref08_Tiny) (a1 : Str) : Option hawthornref08_Tiny :=
  if decide ((a1.length : Int) ≤ 64) then (hawthornref05_Sketch_Add a0.S a1).bind fun r4 => some (⟨a0.Most, r4, a0.R⟩ : hawthornref08_Tiny) else some a0
theorem hawthornref08_Tiny_Miss.ok {G R F} (a0 : hawthornref08_Tiny) (g0_ : hawthornref08_Tiny.G) (h0 : hawthornref08_Tiny.ro R a0 g0_) (a1 : Str) (r : hawthornref08_Tiny) (hm : hawthornref08_Tiny_Miss a0 a1 = some r) : CO Tryz.prog 31 [.agg [vI a0.Most, vI a0.S.Wide, vW a0.S.Seed, g0_.S.Rows.1, g0_.S.Door, vI a0.S.Added, g0_.R.L.1, vI a0.R.Places].toArray, vS a1] G R (F)
    (Ret fun u R' L' => ∃ (p0 : hawthornref08_Tiny.G), u = .agg [vI r.Most, vI r.S.Wide, vW r.S.Seed, p0.S.Rows.1, p0.S.Door, vI r.S.Added, p0.R.L.1, vI r.R.Places].toArray ∧ (hawthornref08_Tiny.ro R' r p0) ∧ L' = F) := by
  unfold hawthornref08_Tiny_Miss at hm
  refine co_ofN (N := 14) Tryz.func31 rfl rfl ?_
  refine c_seq ?_
  refine c_reg ?_
  refine r_new (o_bx [vI a0.Most, vI a0.S.Wide, vW a0.S.Seed, g0_.S.Rows.1, g0_.S.Door, vI a0.S.Added, g0_.R.L.1, vI a0.R.Places] rfl rfl) fun b0 => ?_
  refine r_new (o_al ze36) fun b1 => ?_
  refine r_nil ?_
  refine x_seq ?_
  refine c_seq ?_
  refine c_seq ?_
  refine c_reg ?_
  refine r_u (o_mv rfl) ?_
  refine r_u (o_lenS Tryz.underlying9 rfl) ?_
  refine r_u (o_bin rfl rfl (bI_le (a1.length : Int) 64)) ?_
  refine r_nil ?_
  refine x_seq ?_
  refine c_if (b := decide ((a1.length : Int) ≤ 64)) rfl (fun h2 => ?_) fun h2 => ?_
  · have hm3 := ift hm h2
    clear hm
    refine c_reg ?_
    refine r_u (o_fa fa36_1 rfl) ?_
    refine r_u (o_ldn 1 [vI a0.S.Wide, vW a0.S.Seed, g0_.S.Rows.1, g0_.S.Door, vI a0.S.Added] ag31 rfl rfl rfl rfl) ?_
    refine r_u (o_mv rfl) ?_
    obtain ⟨r4, hr4, hm10⟩ := bs hm3
    clear hm3
    refine r_sw (s_w (o_call ca55 rfl (hawthornref05_Sketch_Add.ok a0.S (⟨(g0_.S.Rows.1, []), g0_.S.Door⟩ : hawthornref05_Sketch.G) ⟨h0.1.1, h0.1.2⟩ a1 r4 hr4))) ?_
    rintro _ R8 _ le9 ⟨v5, rfl, _, rfl⟩
    refine r_u (o_fa fa36_1 rfl) ?_
    refine rl_st (fun _ h => mv4 (mv1 (mv2 h))) ?_
    refine r_u0 (ou_if (one_o 1 rfl) fun ho0 => ou_if (one_o 2 rfl) fun ho1 => o_stn ag31 rfl rfl rfl (al_c rfl (al_c rfl (al_c ho0 (al_c ho1 (al_c rfl al_n))))) rfl rfl rfl) ?_
    refine r_nil ?_
    refine x_seq ?_
    refine c_seq ?_
    refine c_reg ?_
    refine r_u (o_ldn 0 [vI a0.Most, vI r4.Wide, vW r4.Seed, v5.Rows.1, v5.Door, vI r4.Added, g0_.R.L.1, vI a0.R.Places] ag36 rfl rfl rfl rfl) ?_
    refine rl_st (fun _ h => mv4 (mv2 (mv2 h))) ?_
    refine r_u0 (ou_if (one_o 1 rfl) fun ho0 => ou_if (one_o 2 rfl) fun ho1 => o_stn ag36 rfl rfl rfl (al_c rfl (al_c rfl (al_c rfl (al_c ho0 (al_c ho1 (al_c rfl (al_c (RoN.one (RoN.mono le9 h0.2)) (al_c rfl al_n)))))))) rfl rfl rfl) ?_
    refine r_nil ?_
    refine x_seq ?_
    refine c_ret ?_
    refine ex_st (fun _ h => mv2 (mv4 h)) ?_
    refine ex_ex (fun w h => st_freezeN w h) fun R11 hf14 => ?_
    obtain ⟨le12, h13⟩ := hf14
    refine ex_st (fun _ h => mv1 h) ?_
    refine ex_ex (fun w h => st_freeze w h) fun R15 hf18 => ?_
    obtain ⟨le16, h17⟩ := hf18
    obtain rfl := Option.some.inj hm10
    exact x_d1 rfl (rv_n 0 [vI a0.Most, vI r4.Wide, vW r4.Seed, v5.Rows.1, v5.Door, vI r4.Added, g0_.R.L.1, vI a0.R.Places] ag36 rfl rfl rfl rfl) (fun _ h => st_pk 2 [] (by decide) h) (Le.trans (Le.trans le9 le12) le16) ⟨_, rfl, (⟨(⟨(v5.Rows.1, []), v5.Door⟩ : hawthornref05_Sketch.G), (⟨(g0_.R.L.1, [])⟩ : hawthornref06_Rings.G)⟩ : hawthornref08_Tiny.G), rfl, ⟨⟨(RoN.mono le16 h13), h17⟩, (RoN.mono (Le.trans (Le.trans le9 le12) le16) h0.2)⟩, rfl⟩
  · have hm3 := iff_ hm h2
    clear hm
    refine c_skip ?_
    refine x_seq ?_
    refine c_seq ?_
    refine c_reg ?_
    refine r_u (o_ldn 1 [vI a0.Most, vI a0.S.Wide, vW a0.S.Seed, g0_.S.Rows.1, g0_.S.Door, vI a0.S.Added, g0_.R.L.1, vI a0.R.Places] ag36 rfl rfl rfl rfl) ?_
    refine r_u0 (o_stn ag36 rfl rfl rfl (al_c rfl (al_c rfl (al_c rfl (al_c (RoN.one h0.1.1) (al_c (RoS.one h0.1.2) (al_c rfl (al_c (RoN.one h0.2) (al_c rfl al_n)))))))) rfl rfl rfl) ?_
    refine r_nil ?_
    refine x_seq ?_
    refine c_ret ?_
    obtain rfl := Option.some.inj hm3
    exact x_d1 rfl (rv_n 0 [vI a0.Most, vI a0.S.Wide, vW a0.S.Seed, g0_.S.Rows.1, g0_.S.Door, vI a0.S.Added, g0_.R.L.1, vI a0.R.Places] ag36 rfl rfl rfl rfl) (fun _ h => st_pk 2 [] (by decide) h) (Le.refl _) ⟨_, rfl, (⟨(⟨(g0_.S.Rows.1, []), g0_.S.Door⟩ : hawthornref05_Sketch.G), (⟨(g0_.R.L.1, [])⟩ : hawthornref06_Rings.G)⟩ : hawthornref08_Tiny.G), rfl, ⟨⟨h0.1.1, h0.1.2⟩, h0.2⟩, rfl⟩

def wire_Flag (a0 : Bool) : Str :=
  if a0 then [1] else [0]
theorem wire_Flag.ok {G R F} (a0 : Bool) (r : Str) (hm : wire_Flag a0 = r) : CO Tryz.prog 71 [vB a0] G R (F)
    (Ret fun u R' L' => u = vS r ∧ R' = R ∧ L' = F) := by
  unfold wire_Flag at hm
  refine co_ofN (N := 4) Tryz.func71 rfl rfl ?_
  refine c_seq ?_
  refine c_reg ?_
  refine r_u (o_as rfl) ?_
  refine r_nil ?_
  refine x_seq ?_
  refine c_seq ?_
  refine c_seq ?_
  refine c_reg ?_
  refine r_u (o_mv rfl) ?_
  refine r_nil ?_
  refine x_seq ?_
  refine c_if (b := a0) rfl (fun h0 => ?_) fun h0 => ?_
  · have hm1 := ift hm h0
    clear hm
    refine c_seq ?_
    refine c_reg ?_
    refine r_u (o_as rfl) ?_
    refine r_nil ?_
    refine x_seq ?_
    refine c_ret ?_
    subst hm1
    exact x_r1 rfl (rv_t rfl) (Le.refl _) ⟨_, rfl, rfl, rfl, rfl⟩
  · have hm1 := iff_ hm h0
    clear hm
    refine c_skip ?_
    refine x_seq ?_
    refine c_seq ?_
    refine c_reg ?_
    refine r_u (o_as rfl) ?_
    refine r_nil ?_
    refine x_seq ?_
    refine c_ret ?_
    subst hm1
    exact x_r1 rfl (rv_t rfl) (Le.refl _) ⟨_, rfl, rfl, rfl, rfl⟩

def sketch_Sketch_Export_l0 (a0 : sketch_Sketch) : Nat → Str → Int → Option (Str)
  | 0, _, _ => none
  | k22 + 1, out_20, s_21 => if decide (s_21 < (a0.door.length : Int)) then (gi a0.door s_21).bind fun x27 => if out_20.length + (wire_Flag x27).length ≤ maxS then sketch_Sketch_Export_l0 a0 k22 (out_20 ++ (wire_Flag x27)) (i64 (s_21 + 1)) else none else some out_20
def sketch_Sketch_Export_l1 (a0 : sketch_Sketch) : Nat → Str → Int → Option (Str)
  | 0, _, _ => none
  | k33 + 1, out_31, s_32 => if decide (s_32 < 4) then (gi a0.rows s_32).bind fun y38 => if out_31.length + y38.length ≤ maxS then sketch_Sketch_Export_l1 a0 k33 (out_31 ++ y38) (i64 (s_32 + 1)) else none else some out_31
def sketch_Sketch_Export (a0 : sketch_Sketch) : Option Str :=
  (wire_Num (toW a0.wide)).bind fun r2 => (wire_Num a0.seed).bind fun r4 => if r2.length + r4.length ≤ maxS then (wire_Num (toW a0.added)).bind fun r8 => if (r2 ++ r4).length + r8.length ≤ maxS then Option.bind (sketch_Sketch_Export_l1 a0 5 ((r2 ++ r4) ++ r8) 0) fun p12 => Option.bind (sketch_Sketch_Export_l0 a0 (((a0.door.length : Int) - 0).toNat + 1) p12 0) fun p16 => some p16 else none else none
theorem sketch_Sketch_Export.ok {G R F} (b0_ : Nat) (a0 : sketch_Sketch) (g0_ : sketch_Sketch.G) (r : Str) (hm : sketch_Sketch_Export a0 = some r) : CO Tryz.prog 43 [pt b0_ 0] G R (Bk b0_ 84 [vI a0.wide, vW a0.seed, g0_.rows.1, g0_.rows.2.1, g0_.rows.2.2.1, g0_.rows.2.2.2, g0_.door, vI a0.added] :: OwL (OwS false 5 1 eY) [g0_.rows.1, g0_.rows.2.1, g0_.rows.2.2.1, g0_.rows.2.2.2] a0.rows :: OwS true 4 1 eB g0_.door a0.door :: F)
    (Ret fun u R' L' => u = vS r ∧ R' = R ∧ L' = Bk b0_ 84 [vI a0.wide, vW a0.seed, g0_.rows.1, g0_.rows.2.1, g0_.rows.2.2.1, g0_.rows.2.2.2, g0_.door, vI a0.added] :: OwL (OwS false 5 1 eY) [g0_.rows.1, g0_.rows.2.1, g0_.rows.2.2.1, g0_.rows.2.2.2] a0.rows :: OwS true 4 1 eB g0_.door a0.door :: F) := by
  unfold sketch_Sketch_Export at hm
  refine co_ofN (N := 56) Tryz.func43 rfl rfl ?_
  refine c_seq ?_
  refine c_reg ?_
  refine r_u (o_as rfl) ?_
  refine r_nil ?_
  refine x_seq ?_
  refine c_seq ?_
  refine c_seq ?_
  refine c_reg ?_
  refine r_u (o_mv rfl) ?_
  refine r_u (o_bin rfl rfl (bP_eqp Tryz.underlying49)) ?_
  refine r_nil ?_
  refine x_seq ?_
  refine c_ff rfl ?_
  refine c_skip ?_
  refine x_seq ?_
  refine c_seq ?_
  obtain ⟨r2, hr2, hm3⟩ := bs hm
  clear hm
  obtain ⟨r4, hr4, hm5⟩ := bs hm3
  clear hm3
  obtain ⟨h6, hm7⟩ := ig hm5
  clear hm5
  obtain ⟨r8, hr8, hm9⟩ := bs hm7
  clear hm7
  obtain ⟨h10, hm11⟩ := ig hm9
  clear hm9
  refine c_any mixed (effs := []) (V := []) ?_
  refine stage_ext [(0, pt b0_ 0), (1, pt b0_ 0), (2, pt b0_ 0), (3, vI a0.wide), (4, vW (toW a0.wide)), (5, vS r2), (6, pt b0_ 0), (7, pt b0_ 0), (8, pt b0_ 1), (9, vW a0.seed), (10, vS r4), (11, vS (r2 ++ r4)), (12, pt b0_ 0), (13, pt b0_ 0), (14, pt b0_ 7), (15, vI a0.added), (16, vW (toW a0.added)), (17, vS r8), (18, vS ((r2 ++ r4) ++ r8)), (19, vS ((r2 ++ r4) ++ r8))] rfl ?_
  refine stage rfl rfl rfl rfl [0, 1, 3, 7, 15, 31, 0, 64, 192, 448, 1023, 2047, 0, 4096, 12288, 28672, 61440, 129023, 262143, 524287] [0, 1, 2, 3, 4, 5, 6, 7, 8, 9, 10, 11, 12, 13, 14, 15, 16, 17, 18, 19] [] rfl rfl rfl (qc rfl rfl (s_u (o_mv rfl)) (qc rfl rfl (s_u (o_nc rfl)) (qc rfl rfl (s_u (o_fa fa84_0 rfl)) (qc rfl rfl (s_u (o_ld 0 sc3 rfl rfl rfl)) (qc rfl rfl (s_u (o_cv rfl (cIW Tryz.underlying3 Tryz.underlying22 a0.wide))) (qc rfl rfl (s_u (o_callq ca42 rfl (wire_Num.ok (toW a0.wide) r2 hr2))) (qc rfl rfl (s_u (o_mv rfl)) (qc rfl rfl (s_u (o_nc rfl)) (qc rfl rfl (s_u (o_fa fa84_1 rfl)) (qc rfl rfl (s_u (o_ld 0 sc22 rfl rfl rfl)) (qc rfl rfl (s_u (o_callq ca42 rfl (wire_Num.ok a0.seed r4 hr4))) (qc rfl rfl (s_u (o_bin rfl rfl (bS_add r2 r4 h6))) (qc rfl rfl (s_u (o_mv rfl)) (qc rfl rfl (s_u (o_nc rfl)) (qc rfl rfl (s_u (o_fa fa84_4 rfl)) (qc rfl rfl (s_u (o_ld 0 sc3 rfl rfl rfl)) (qc rfl rfl (s_u (o_cv rfl (cIW Tryz.underlying3 Tryz.underlying22 a0.added))) (qc rfl rfl (s_u (o_callq ca42 rfl (wire_Num.ok (toW a0.added) r8 hr8))) (qc rfl rfl (s_u (o_bin rfl rfl (bS_add (r2 ++ r4) r8 h10))) (qc rfl rfl (s_u (o_as rfl)) qn)))))))))))))))))))) en ?_
  intro _
  refine ex_sub (E' := [(0, pt b0_ 0), (3, vS ((r2 ++ r4) ++ r8))]) ⟨rfl, rfl, trivial⟩ ?_
  refine x_seq ?_
  refine c_seq ?_
  refine c_seq ?_
  refine c_reg ?_
  refine r_u (o_mv rfl) ?_
  refine r_u (o_nc rfl) ?_
  refine r_u (o_fa fa84_2 rfl) ?_
  refine r_u (o_ldn 0 [g0_.rows.1, g0_.rows.2.1, g0_.rows.2.2.1, g0_.rows.2.2.2] ag82 rfl rfl rfl rfl) ?_
  refine r_u (o_mv rfl) ?_
  refine r_nil ?_
  refine x_seq ?_
  obtain ⟨p12, hp13, hm14⟩ := bs hm11
  refine cd_join (E' := [(0, pt b0_ 0), (3, vS p12)]) (L' := Bk b0_ 84 [vI a0.wide, vW a0.seed, g0_.rows.1, g0_.rows.2.1, g0_.rows.2.2.1, g0_.rows.2.2.2, g0_.door, vI a0.added] :: OwL (OwS false 5 1 eY) [g0_.rows.1, g0_.rows.2.1, g0_.rows.2.2.1, g0_.rows.2.2.2] a0.rows :: OwS true 4 1 eB g0_.door a0.door :: F) ?_ fun K15 => ?_
  · refine x_seq ?_
    refine c_seq ?_
    refine c_seq ?_
    refine c_reg ?_
    refine r_u (o_mv rfl) ?_
    refine r_u (o_nc rfl) ?_
    refine r_u (o_fa fa84_3 rfl) ?_
    refine r_u (o_ld 0 sc29 rfl rfl rfl) ?_
    refine r_u (o_lenO 2 Tryz.underlying29 rfl rfl) ?_
    refine r_u (o_mv rfl) ?_
    refine r_nil ?_
    refine x_seq ?_
    obtain ⟨p16, hp17, hm18⟩ := bs hm14
    refine cd_join (E' := [(3, vS p16)]) (L' := Bk b0_ 84 [vI a0.wide, vW a0.seed, g0_.rows.1, g0_.rows.2.1, g0_.rows.2.2.1, g0_.rows.2.2.2, g0_.door, vI a0.added] :: OwL (OwS false 5 1 eY) [g0_.rows.1, g0_.rows.2.1, g0_.rows.2.2.1, g0_.rows.2.2.2] a0.rows :: OwS true 4 1 eB g0_.door a0.door :: F) ?_ fun K19 => ?_
    · refine x_seq ?_
      refine c_seq ?_
      refine c_reg ?_
      refine r_u (o_mv rfl) ?_
      refine r_u (o_as rfl) ?_
      refine r_nil ?_
      refine x_seq ?_
      refine c_ret ?_
      obtain rfl := Option.some.inj hm18
      exact x_r1 rfl (rv_t rfl) (Le.refl _) ⟨_, rfl, rfl, rfl, rfl⟩
    · refine c_blk ?_
      refine cd_loop (M := fun k22 (s : Str × Int) => sketch_Sketch_Export_l0 a0 k22 s.1 s.2 = some p16) (Ef := fun (s : Str × Int) => [(44, g0_.door), (45, vI (a0.door.length : Int)), (3, vS s.1), (46, vI s.2)]) (Lf := fun (s : Str × Int) => Bk b0_ 84 [vI a0.wide, vW a0.seed, g0_.rows.1, g0_.rows.2.1, g0_.rows.2.2.1, g0_.rows.2.2.2, g0_.door, vI a0.added] :: OwL (OwS false 5 1 eY) [g0_.rows.1, g0_.rows.2.1, g0_.rows.2.2.1, g0_.rows.2.2.2] a0.rows :: OwS true 4 1 eB g0_.door a0.door :: F) (((a0.door.length : Int) - 0).toNat + 1) (p12, 0) hp17 ⟨rfl, rfl, rfl, rfl, trivial⟩ (fun _ h => h) (fun _ h => by cases h) fun k22 s hM24 => ?_
      obtain ⟨out_20, s_21⟩ := s
      have hm23 : sketch_Sketch_Export_l0 a0 (k22 + 1) out_20 s_21 = some p16 := hM24
      rw [sketch_Sketch_Export_l0] at hm23
      refine c_seq ?_
      refine c_reg ?_
      refine r_u (o_bin rfl rfl (bI_lt s_21 (a0.door.length : Int))) ?_
      refine r_nil ?_
      refine x_seq ?_
      refine c_seq ?_
      refine c_if (b := decide (s_21 < (a0.door.length : Int))) rfl (fun h25 => ?_) fun h25 => ?_
      · have hm26 := ift hm23 h25
        clear hm23
        refine c_skip ?_
        refine x_seq ?_
        refine c_seq ?_
        refine c_blk ?_
        refine c_seq ?_
        refine c_reg ?_
        obtain ⟨x27, hx27, hm28⟩ := bs hm26
        clear hm26
        refine r_u (o_ixO 2 Tryz.underlying29 (fun _ => by kernel_rfl) rfl rfl rfl hx27) ?_
        refine r_u (o_ldO0 2 sc4 rfl rfl hx27 rfl rfl) ?_
        refine r_u (o_as rfl) ?_
        refine r_nil ?_
        refine x_seq ?_
        refine c_reg ?_
        refine r_u (o_mv rfl) ?_
        refine r_u (o_mv rfl) ?_
        refine r_u (o_callq ca71 rfl (wire_Flag.ok x27 _ rfl)) ?_
        obtain ⟨h29, hm30⟩ := ig hm28
        clear hm28
        refine r_u (o_bin rfl rfl (bS_add out_20 (wire_Flag x27) h29)) ?_
        refine r_u (o_as rfl) ?_
        refine r_nil ?_
        refine x_blk ?_
        refine x_seq ?_
        refine c_reg ?_
        refine r_u (o_bin rfl rfl (bI_add s_21 1)) ?_
        refine r_u (o_mv rfl) ?_
        refine r_nil ?_
        exact x_lp (out_20 ++ (wire_Flag x27), i64 (s_21 + 1)) hm30 ⟨rfl, rfl, rfl, rfl, trivial⟩ (fun _ h => st_pk 3 [0, 1, 2] (by decide) h)
      · have hm26 := iff_ hm23 h25
        clear hm23
        refine c_exit (x_exit (ks' := _) rfl ?_)
        obtain rfl := Option.some.inj hm26
        exact x_sub K19 ⟨rfl, trivial⟩ (fun _ h => st_pk 3 [0, 1, 2] (by decide) h)
  · refine c_blk ?_
    refine cd_loop (M := fun k33 (s : Str × Int) => sketch_Sketch_Export_l1 a0 k33 s.1 s.2 = some p12) (Ef := fun (s : Str × Int) => [(0, pt b0_ 0), (32, .agg [g0_.rows.1, g0_.rows.2.1, g0_.rows.2.2.1, g0_.rows.2.2.2].toArray), (3, vS s.1), (33, vI s.2)]) (Lf := fun (s : Str × Int) => Bk b0_ 84 [vI a0.wide, vW a0.seed, g0_.rows.1, g0_.rows.2.1, g0_.rows.2.2.1, g0_.rows.2.2.2, g0_.door, vI a0.added] :: OwL (OwS false 5 1 eY) [g0_.rows.1, g0_.rows.2.1, g0_.rows.2.2.1, g0_.rows.2.2.2] a0.rows :: OwS true 4 1 eB g0_.door a0.door :: F) 5 ((r2 ++ r4) ++ r8, 0) hp13 ⟨rfl, rfl, rfl, rfl, trivial⟩ (fun _ h => h) (fun _ h => by cases h) fun k33 s hM35 => ?_
    obtain ⟨out_31, s_32⟩ := s
    have hm34 : sketch_Sketch_Export_l1 a0 (k33 + 1) out_31 s_32 = some p12 := hM35
    rw [sketch_Sketch_Export_l1] at hm34
    refine c_seq ?_
    refine c_reg ?_
    refine r_u (o_bin rfl rfl (bI_lt s_32 4)) ?_
    refine r_nil ?_
    refine x_seq ?_
    refine c_seq ?_
    refine c_if (b := decide (s_32 < 4)) rfl (fun h36 => ?_) fun h36 => ?_
    · have hm37 := ift hm34 h36
      clear hm34
      refine c_skip ?_
      refine x_seq ?_
      refine c_seq ?_
      refine c_blk ?_
      refine c_seq ?_
      refine c_reg ?_
      obtain ⟨y38, hy38, hm40⟩ := bs hm37
      clear hm37
      refine rl_ex (fun w h => st_peek 1 hy38 rfl w h) fun u39 hu39 => ?_
      refine r_u (o_ixG Tryz.underlying82 (fun _ => by kernel_rfl) sc81.1 rfl rfl rfl hu39) ?_
      refine r_u (o_as rfl) ?_
      refine r_nil ?_
      refine x_seq ?_
      refine c_reg ?_
      refine r_u (o_mv rfl) ?_
      refine r_u (o_mv rfl) ?_
      refine r_u (o_bsK (kn_in 1 rfl hu39 hy38) Tryz.underlying81 Tryz.underlying5 Tryz.underlying9 rfl) ?_
      obtain ⟨h41, hm42⟩ := ig hm40
      clear hm40
      refine r_u (o_bin rfl rfl (bS_add out_31 y38 h41)) ?_
      refine r_u (o_as rfl) ?_
      refine r_nil ?_
      refine x_blk ?_
      refine x_seq ?_
      refine c_reg ?_
      refine r_u (o_bin rfl rfl (bI_add s_32 1)) ?_
      refine r_u (o_mv rfl) ?_
      refine r_nil ?_
      exact x_lp (out_31 ++ y38, i64 (s_32 + 1)) hm42 ⟨rfl, rfl, rfl, rfl, trivial⟩ (fun _ h => st_pk 3 [0, 1, 2] (by decide) h)
    · have hm37 := iff_ hm34 h36
      clear hm34
      refine c_exit (x_exit (ks' := _) rfl ?_)
      obtain rfl := Option.some.inj hm37
      exact x_sub K15 ⟨rfl, rfl, trivial⟩ (fun _ h => st_pk 3 [0, 1, 2] (by decide) h)

def ring_kf : Option ring_Rings → Nat
  | none => 1
  | some r => r.slots.length + 1
def ring_Rings_Keys_1_l0 (a2 : Int) (x2 : ring_Rings) : Nat → Int → Option (List Str)
  | 0, _ => none
  | k19 + 1, i_18 => if (i_18 != a2) then (gi x2.slots i_18).bind fun x24 => (ring_Rings_Keys_1_l0 a2 x2 k19 x24.next).bind fun r_ => some (x24.key :: r_) else some []
def ring_Rings_Keys_1 (a1 : Option ring_Rings) (a2 : Int) : Option (List Str) :=
  om a1 (none) fun x2 => if !(ring_Rings_is x2 a2) then some [] else (gi x2.slots a2).bind fun x12 => Option.bind (ring_Rings_Keys_1_l0 a2 x2 (ring_kf a1) x12.next) fun p14 => some p14
/-- The keys of a list of rings come one behind the other, whatever the body does beside them. -/
theorem ring_Rings_Keys_1.ok {G R} (b1_ : Nat) (a1 : Option ring_Rings) (g1_ : Value × ring_Rings.G) (b2_ : Nat) (a2 : Int) (r : List Str) (hm : ring_Rings_Keys_1 a1 a2 = some r) :
    Gives Tryz.prog G R 89 [pt b1_ 0, pt b2_ 0] vS r [Bk b1_ 53 [g1_.1], rO (ring_Rings.op g1_.2) g1_.1 a1, Bk b2_ 3 [vI a2]] := by
  intro l F Inv h0 hY
  change CO Tryz.prog 89 [.func (.yield l) #[] #[], pt b1_ 0, pt b2_ 0] G R (Bk b1_ 53 [g1_.1] :: rO (ring_Rings.op g1_.2) g1_.1 a1 :: Bk b2_ 3 [vI a2] :: F) (Ret fun u R' L' => u = .tuple #[] ∧ R' = R ∧ ∃ F', L' = Bk b1_ 53 [g1_.1] :: rO (ring_Rings.op g1_.2) g1_.1 a1 :: Bk b2_ 3 [vI a2] :: F' ∧ Inv r F')
  obtain ⟨pv0, g1⟩ := g1_
  unfold ring_Rings_Keys_1 at hm
  refine co_ofN (N := 39) Tryz.func89 rfl rfl ?_
  refine c_seq ?_
  refine c_seq ?_
  refine cd_st (fun _ h => st_pk 3 [1, 0, 2] (by decide) h) ?_
  refine cd_opt (fun ho4 => ?_) (fun x2 b3 ho4 => ?_)
  · rintro rfl
    have hm5 := om_n hm ho4
    clear hm
    cases hm5
  · rintro rfl
    have hm5 := om_s hm ho4
    clear hm
    refine cd_st (fun _ h => st_star_o h) ?_
    refine c_reg ?_
    refine r_u (o_ld 5 sc53 rfl rfl rfl) ?_
    refine r_u (o_ld 6 sc3 rfl rfl rfl) ?_
    refine r_c (s_w (o_call ca76 rfl (ring_Rings_is.ok b3 x2 g1 a2 _ rfl))) ?_
    refine r_u (o_not rfl) ?_
    refine r_nil ?_
    refine x_seq ?_
    refine c_if (b := !(ring_Rings_is x2 a2)) rfl (fun h10 => ?_) fun h10 => ?_
    · have hm11 := ift hm5 h10
      clear hm5
      refine c_ret ?_
      refine ex_st (fun _ h => st_some (f := ring_Rings.op g1) (a := x2) (st_star_f (A := ring_Rings.fl b3 x2 g1) h)) ?_
      refine ex_st (fun _ h => st_back ho4 h) ?_
      obtain rfl := Option.some.inj hm11
      refine ex_st (fun _ h => st_pk 3 [1, 0, 2] (by decide) h) ?_
      exact x_r0 rfl (Le.refl _) ⟨_, rfl, rfl, rfl, F, rfl, h0⟩
    · have hm11 := iff_ hm5 h10
      clear hm5
      refine c_skip ?_
      refine x_seq ?_
      refine c_seq ?_
      obtain ⟨x12, hx12, hm13⟩ := bs hm11
      clear hm11
      refine c_any mixed (effs := []) (V := []) ?_
      refine stage_ext [(0, pt b3 0), (1, pt b3 0), (2, pt b3 1), (3, g1.slots), (4, vI a2), (5, pt (sb g1.slots) (so g1.slots + a2.toNat * 4)), (6, pt (sb g1.slots) (so g1.slots + a2.toNat * 4 + 3)), (7, vI x12.next), (8, vI x12.next)] rfl ?_
      refine stage rfl rfl rfl rfl [0, 1, 3, 7, 0, 31, 63, 127, 255] [0, 1, 2, 3, 4, 5, 6, 7, 8] [] rfl rfl rfl (qc rfl rfl (s_u (o_ld 5 sc53 rfl rfl rfl)) (qc rfl rfl (s_u (o_nc rfl)) (qc rfl rfl (s_u (o_fa fa89_1 rfl)) (qc rfl rfl (s_u (o_ld 0 sc87 rfl rfl rfl)) (qc rfl rfl (s_u (o_ld 6 sc3 rfl rfl rfl)) (qc rfl rfl (s_u (o_ixO 1 Tryz.underlying87 (fun _ => by kernel_rfl) rfl rfl rfl hx12)) (qc rfl rfl (s_u (o_fa fa91_3 rfl)) (qc rfl rfl (s_u (o_ldO 1 3 sc3 rfl rfl hx12 rfl rfl)) (qc rfl rfl (s_u (o_as rfl)) qn))))))))) en ?_
      intro _
      refine ex_sub (E' := [(0, .func (.yield l) #[] #[]), (1, pt b1_ 0), (2, pt b2_ 0), (4, vI x12.next)]) ⟨rfl, rfl, rfl, rfl, trivial⟩ ?_
      refine x_seq ?_
      obtain ⟨p14, hp15, hm16⟩ := bs hm13
      obtain rfl := Option.some.inj hm16
      refine c_blk ?_
      refine cd_loop (σ := Int × List HP × List Str) (M := fun k19 s => ∃ rest, ring_Rings_Keys_1_l0 a2 x2 k19 s.1 = some rest ∧ p14 = s.2.2 ++ rest ∧ Inv s.2.2 s.2.1) (Ef := fun s => [(0, .func (.yield l) #[] #[]), (1, pt b1_ 0), (2, pt b2_ 0), (4, vI s.1)]) (Lf := fun s => Bk b3 89 [vI x2.lists, g1.slots, g1.free, g1.at_, g1.many] :: Bk b1_ 53 [pt b3 0] :: Bk b2_ 3 [vI a2] :: OwS true 91 4 ring_slot.c g1.slots x2.slots :: OwS true 3 1 eI g1.free x2.free :: OwM vS vI g1.at_ x2.at_ :: OwS true 3 1 eI g1.many x2.many :: s.2.1) (ring_kf a1) (x12.next, F, []) ⟨p14, hp15, rfl, h0⟩ ⟨rfl, rfl, rfl, rfl, trivial⟩ (fun _ h => st_pk 7 [0, 5, 6, 1, 2, 3, 4] (by decide) h) (fun s h => by obtain ⟨_, h, _⟩ := h; simp [ring_Rings_Keys_1_l0] at h) fun k19 s hM21 => ?_
      obtain ⟨i_18, Fc, pre⟩ := s
      obtain ⟨rest, hm20, hpre, hInv⟩ := hM21
      replace hpre : p14 = pre ++ rest := hpre
      replace hInv : Inv pre Fc := hInv
      change CD _ _ _ [(0, .func (.yield l) #[] #[]), (1, pt b1_ 0), (2, pt b2_ 0), (4, vI i_18)] R (Bk b3 89 [vI x2.lists, g1.slots, g1.free, g1.at_, g1.many] :: Bk b1_ 53 [pt b3 0] :: Bk b2_ 3 [vI a2] :: OwS true 91 4 ring_slot.c g1.slots x2.slots :: OwS true 3 1 eI g1.free x2.free :: OwM vS vI g1.at_ x2.at_ :: OwS true 3 1 eI g1.many x2.many :: Fc)
      replace hm20 : ring_Rings_Keys_1_l0 a2 x2 (k19 + 1) i_18 = some rest := hm20
      rw [ring_Rings_Keys_1_l0] at hm20
      refine c_seq ?_
      refine c_seq ?_
      refine c_reg ?_
      refine r_u (o_mv rfl) ?_
      refine r_u (o_ld 2 sc3 rfl rfl rfl) ?_
      refine r_u (o_bin rfl rfl (bI_ne i_18 a2)) ?_
      refine r_nil ?_
      refine x_seq ?_
      refine c_if (b := (i_18 != a2)) rfl (fun h22 => ?_) fun h22 => ?_
      · have hm23 := ift hm20 h22
        clear hm20
        refine c_skip ?_
        refine x_seq ?_
        refine c_seq ?_
        refine c_blk ?_
        refine c_seq ?_
        refine c_reg ?_
        refine r_u (o_mv rfl) ?_
        refine r_u (o_ld 1 sc53 rfl rfl rfl) ?_
        refine r_u (o_nc rfl) ?_
        refine r_u (o_fa fa89_1 rfl) ?_
        refine r_u (o_ld 0 sc87 rfl rfl rfl) ?_
        refine r_u (o_mv rfl) ?_
        obtain ⟨x24, hx24, hm25⟩ := bs hm23
        clear hm23
        refine r_u (o_ixO 3 Tryz.underlying87 (fun _ => by kernel_rfl) rfl rfl rfl hx24) ?_
        refine r_u (o_fa fa91_0 rfl) ?_
        refine r_u (o_ldO0 3 sc9 rfl rfl hx24 rfl rfl) ?_
        obtain ⟨r2, hr2, hm26⟩ := bs hm25
        obtain rfl := Option.some.inj hm26
        refine r_w (o_yield rfl rfl (hY [Bk b3 89 [vI x2.lists, g1.slots, g1.free, g1.at_, g1.many], Bk b1_ 53 [pt b3 0], Bk b2_ 3 [vI a2], OwS true 91 4 ring_slot.c g1.slots x2.slots, OwS true 3 1 eI g1.free x2.free, OwM vS vI g1.at_ x2.at_, OwS true 3 1 eI g1.many x2.many] pre x24.key Fc hInv ⟨_, hpre⟩)) (fun v R' L' _ hC => ?_)
        obtain ⟨hv, hR', F', hL', hInv'⟩ := hC
        subst hv; subst hL'; subst hR'
        refine r_u (o_not rfl) ?_
        refine r_nil ?_
        refine x_seq ?_
        refine c_ff rfl ?_
        refine c_skip ?_
        refine x_blk ?_
        refine x_seq ?_
        refine c_reg ?_
        refine r_u (o_ld 1 sc53 rfl rfl rfl) ?_
        refine r_u (o_nc rfl) ?_
        refine r_u (o_fa fa89_1 rfl) ?_
        refine r_u (o_ld 0 sc87 rfl rfl rfl) ?_
        refine r_u (o_mv rfl) ?_
        refine r_u (o_ixO 3 Tryz.underlying87 (fun _ => by kernel_rfl) rfl rfl rfl hx24) ?_
        refine r_u (o_fa fa91_3 rfl) ?_
        refine r_u (o_ldO 3 3 sc3 rfl rfl hx24 rfl rfl) ?_
        refine r_u (o_as rfl) ?_
        refine r_nil ?_
        exact x_lp (x24.next, F', pre ++ [x24.key]) ⟨r2, hr2, by rw [hpre]; simp, hInv'⟩ ⟨rfl, rfl, rfl, rfl, trivial⟩ (fun _ h => st_pk 7 [0, 1, 2, 3, 4, 5, 6] (by decide) h)
      · have hm23 := iff_ hm20 h22
        clear hm20
        refine c_exit (x_exit (ks' := _) rfl ?_)
        obtain rfl := Option.some.inj hm23
        rw [List.append_nil] at hpre
        subst hpre
        refine x_end ?_
        refine ex_st (fun _ h => st_pk 7 [0, 3, 4, 5, 6, 1, 2] (by decide) h) ?_
        refine ex_st (fun _ h => st_some (f := ring_Rings.op g1) (a := x2) (st_star_f (A := ring_Rings.fl b3 x2 g1) h)) ?_
        refine ex_st (fun _ h => st_back ho4 h) ?_
        refine ex_st (fun _ h => st_pk 3 [1, 0, 2] (by decide) h) ?_
        exact x_r0 rfl (Le.refl _) ⟨_, rfl, rfl, rfl, Fc, rfl, hInv⟩

theorem ring_Rings_Keys.ok {G R F} (pv : Value) (hpv : pv.cells = #[pv]) (a1 : Int) : CO Tryz.prog 63 [pv, vI a1] G R F
    (Ret fun u R' L' => ∃ b0 b1, u = .func (.func 89) #[] #[pt b0 0, pt b1 0] ∧ R' = R ∧ L' = Bk b1 3 [vI a1] :: Bk b0 53 [pv] :: F) := by
  refine co_ofN (N := 6) Tryz.func63 rfl rfl ?_
  refine c_seq ?_
  refine c_reg ?_
  refine r_new (o_bx [pv] rfl hpv) fun b0 => ?_
  refine r_new (o_bx [vI a1] rfl rfl) fun b1 => ?_
  refine r_u (o_as rfl) ?_
  refine r_nil ?_
  refine x_seq ?_
  refine c_seq ?_
  refine c_reg ?_
  refine r_u (o_mf rfl) ?_
  refine r_u (o_as rfl) ?_
  refine r_nil ?_
  refine x_seq ?_
  refine c_ret ?_
  exact x_r1 rfl (rv_t rfl) (Le.refl _) ⟨_, rfl, b0, b1, rfl, rfl, rfl⟩
def ring_txts : List Str → Str → Option Str
  | [], c => some c
  | k :: l, c => (wire_Text k).bind fun t => if c.length + t.length ≤ maxS then ring_txts l (c ++ t) else none
theorem ring_txts_app {l r : List Str} : ∀ {c : Str}, ring_txts (l ++ r) c = (ring_txts l c).bind fun d => ring_txts r d := by
  induction l with
  | nil => intro c; rfl
  | cons k l ih =>
    intro c
    simp only [List.cons_append, ring_txts]
    cases wire_Text k with
    | none => rfl
    | some t =>
      simp only [Option.bind_some]
      split
      · exact ih
      · rfl
def ring_Rings_Export_l0 (a0 : ring_Rings) : Nat → Int → Str → Option (Str)
  | 0, _, _ => none
  | k17 + 1, s_15, c_16 => if decide (s_15 < a0.lists) then (gi a0.many s_15).bind fun x22 => (wire_Num (toW x22)).bind fun r24 => if c_16.length + r24.length ≤ maxS then (ring_Rings_Keys_1 (some a0) s_15).bind fun kz => (ring_txts kz (c_16 ++ r24)).bind fun c2 => ring_Rings_Export_l0 a0 k17 (i64 (s_15 + 1)) c2 else none else some c_16
def ring_Rings_Export (a0 : ring_Rings) : Option Str :=
  (wire_Num (toW a0.lists)).bind fun r4 => (wire_Num (toW (i64 ((a0.slots.length : Int) - a0.lists)))).bind fun r6 => if r4.length + r6.length ≤ maxS then Option.bind (ring_Rings_Export_l0 a0 ((a0.lists - 0).toNat + 1) 0 (r4 ++ r6)) fun p11 => some p11 else none
theorem ring_Rings_Export.ok {G R F} (b0_ : Nat) (a0 : ring_Rings) (g0_ : ring_Rings.G) (r : Str) (hm : ring_Rings_Export a0 = some r) : CO Tryz.prog 44 [pt b0_ 0] G R (Bk b0_ 89 [vI a0.lists, g0_.slots, g0_.free, g0_.at_, g0_.many] :: OwS true 91 4 ring_slot.c g0_.slots a0.slots :: OwS true 3 1 eI g0_.free a0.free :: OwM vS vI g0_.at_ a0.at_ :: OwS true 3 1 eI g0_.many a0.many :: F)
    (Ret fun u R' L' => u = vS r ∧ R' = R ∧ L' = Bk b0_ 89 [vI a0.lists, g0_.slots, g0_.free, g0_.at_, g0_.many] :: OwS true 91 4 ring_slot.c g0_.slots a0.slots :: OwS true 3 1 eI g0_.free a0.free :: OwM vS vI g0_.at_ a0.at_ :: OwS true 3 1 eI g0_.many a0.many :: F) := by
  unfold ring_Rings_Export at hm
  refine co_ofM (N := 55) Tryz.func44 rfl rfl ?_
  refine cd_st (fun _ h => st_pk 6 [1, 2, 3, 4, 5, 0] (by decide) h) ?_
  refine c_seq ?_
  refine c_reg ?_
  refine r_u (o_as rfl) ?_
  refine r_nil ?_
  refine x_seq ?_
  refine c_seq ?_
  refine c_seq ?_
  refine c_reg ?_
  refine r_u (o_mv rfl) ?_
  refine r_u (o_bin rfl rfl (bP_eqp Tryz.underlying53)) ?_
  refine r_nil ?_
  refine x_seq ?_
  refine c_ff rfl ?_
  refine c_skip ?_
  refine x_seq ?_
  refine c_seq ?_
  obtain ⟨r4, hr4, hm5⟩ := bs hm
  clear hm
  obtain ⟨r6, hr6, hm7⟩ := bs hm5
  clear hm5
  obtain ⟨h8, hm9⟩ := ig hm7
  clear hm7
  refine c_any mixed (effs := [19, 20]) (V := []) ?_
  refine stage_ext [(0, pt b0_ 0), (1, pt b0_ 0), (2, pt b0_ 0), (3, vI a0.lists), (4, vW (toW a0.lists)), (5, vS r4), (6, pt b0_ 0), (7, pt b0_ 0), (8, pt b0_ 1), (9, g0_.slots), (10, vI (a0.slots.length : Int)), (11, pt b0_ 0), (12, pt b0_ 0), (13, pt b0_ 0), (14, vI a0.lists), (15, vI (i64 ((a0.slots.length : Int) - a0.lists))), (16, vW (toW (i64 ((a0.slots.length : Int) - a0.lists)))), (17, vS r6), (18, vS (r4 ++ r6))] rfl ?_
  refine stage rfl rfl rfl rfl [0, 1, 3, 7, 15, 31, 0, 64, 192, 448, 960, 0, 2048, 6144, 14336, 32704, 65472, 131071, 262143, 0, 1048575] [0, 1, 2, 3, 4, 5, 6, 7, 8, 9, 10, 11, 12, 13, 14, 15, 16, 17, 18] [19] rfl rfl rfl (qc rfl rfl (s_u (o_mv rfl)) (qc rfl rfl (s_u (o_nc rfl)) (qc rfl rfl (s_u (o_fa fa89_0 rfl)) (qc rfl rfl (s_u (o_ld 0 sc3 rfl rfl rfl)) (qc rfl rfl (s_u (o_cv rfl (cIW Tryz.underlying3 Tryz.underlying22 a0.lists))) (qc rfl rfl (s_u (o_callq ca42 rfl (wire_Num.ok (toW a0.lists) r4 hr4))) (qc rfl rfl (s_u (o_mv rfl)) (qc rfl rfl (s_u (o_nc rfl)) (qc rfl rfl (s_u (o_fa fa89_1 rfl)) (qc rfl rfl (s_u (o_ld 0 sc87 rfl rfl rfl)) (qc rfl rfl (s_u (o_lenO 1 Tryz.underlying87 rfl rfl)) (qc rfl rfl (s_u (o_mv rfl)) (qc rfl rfl (s_u (o_nc rfl)) (qc rfl rfl (s_u (o_fa fa89_0 rfl)) (qc rfl rfl (s_u (o_ld 0 sc3 rfl rfl rfl)) (qc rfl rfl (s_u (o_bin rfl rfl (bI_sub (a0.slots.length : Int) a0.lists))) (qc rfl rfl (s_u (o_cv rfl (cIW Tryz.underlying3 Tryz.underlying22 (i64 ((a0.slots.length : Int) - a0.lists))))) (qc rfl rfl (s_u (o_callq ca42 rfl (wire_Num.ok (toW (i64 ((a0.slots.length : Int) - a0.lists))) r6 hr6))) (qc rfl rfl (s_u (o_bin rfl rfl (bS_add r4 r6 h8))) qn))))))))))))))))))) ?_ (fun h => absurd h (by decide))
  refine ec (eo_n rfl (s_w (o_al ze9)) fun b10 => ?_) en
  refine stage rfl rfl rfl rfl [0, 1, 3, 7, 15, 31, 0, 64, 192, 448, 960, 0, 2048, 6144, 14336, 32704, 65472, 131071, 262143, 0, 1048575] [0, 1, 2, 3, 4, 5, 6, 7, 8, 9, 10, 11, 12, 13, 14, 15, 16, 17, 18] [20] rfl rfl rfl (qc rfl rfl (s_u (o_mv rfl)) (qc rfl rfl (s_u (o_nc rfl)) (qc rfl rfl (s_u (o_fa fa89_0 rfl)) (qc rfl rfl (s_u (o_ld 1 sc3 rfl rfl rfl)) (qc rfl rfl (s_u (o_cv rfl (cIW Tryz.underlying3 Tryz.underlying22 a0.lists))) (qc rfl rfl (s_u (o_callq ca42 rfl (wire_Num.ok (toW a0.lists) r4 hr4))) (qc rfl rfl (s_u (o_mv rfl)) (qc rfl rfl (s_u (o_nc rfl)) (qc rfl rfl (s_u (o_fa fa89_1 rfl)) (qc rfl rfl (s_u (o_ld 1 sc87 rfl rfl rfl)) (qc rfl rfl (s_u (o_lenO 2 Tryz.underlying87 rfl rfl)) (qc rfl rfl (s_u (o_mv rfl)) (qc rfl rfl (s_u (o_nc rfl)) (qc rfl rfl (s_u (o_fa fa89_0 rfl)) (qc rfl rfl (s_u (o_ld 1 sc3 rfl rfl rfl)) (qc rfl rfl (s_u (o_bin rfl rfl (bI_sub (a0.slots.length : Int) a0.lists))) (qc rfl rfl (s_u (o_cv rfl (cIW Tryz.underlying3 Tryz.underlying22 (i64 ((a0.slots.length : Int) - a0.lists))))) (qc rfl rfl (s_u (o_callq ca42 rfl (wire_Num.ok (toW (i64 ((a0.slots.length : Int) - a0.lists))) r6 hr6))) (qc rfl rfl (s_u (o_bin rfl rfl (bS_add r4 r6 h8))) qn))))))))))))))))))) ?_ (fun h => absurd h (by decide))
  refine ec (eo_u rfl (s_u (o_st sc9 rfl rfl rfl rfl rfl rfl)) (Le.refl _) ?_) en
  refine stage rfl rfl rfl rfl [0, 1, 3, 7, 15, 31, 0, 64, 192, 448, 960, 0, 2048, 6144, 14336, 32704, 65472, 131071, 262143, 0, 1048575] [] [] rfl rfl rfl qn en ?_
  intro _
  refine ex_sub (E' := [(0, pt b0_ 0), (3, pt b10 0)]) ⟨rfl, rfl, trivial⟩ ?_
  refine x_seq ?_
  refine c_seq ?_
  refine c_seq ?_
  refine c_reg ?_
  refine r_u (o_mv rfl) ?_
  refine r_u (o_nc rfl) ?_
  refine r_u (o_fa fa89_0 rfl) ?_
  refine r_u (o_ld 1 sc3 rfl rfl rfl) ?_
  refine r_u (o_mv rfl) ?_
  refine r_nil ?_
  refine x_seq ?_
  obtain ⟨p11, hp12, hm13⟩ := bs hm9
  obtain rfl := Option.some.inj hm13
  refine c_blk ?_
  refine cd_loopD (σ := Int × Str × List Deferred) (M := fun k s => ring_Rings_Export_l0 a0 k s.1 s.2.1 = some p11) (Df := fun s => s.2.2)
    (Ef := fun s => [(0, pt b0_ 0), (3, pt b10 0), (30, vI a0.lists), (31, vI s.1)]) (Rf := fun _ => R)
    (Lf := fun s => Bk b10 9 [vS s.2.1] :: Bk b0_ 89 [vI a0.lists, g0_.slots, g0_.free, g0_.at_, g0_.many] :: OwS true 91 4 ring_slot.c g0_.slots a0.slots :: OwS true 3 1 eI g0_.free a0.free :: OwM vS vI g0_.at_ a0.at_ :: OwS true 3 1 eI g0_.many a0.many :: MkC s.2.2 :: F)
    ((a0.lists - 0).toNat + 1) (0, r4 ++ r6, []) hp12 rfl ⟨rfl, rfl, rfl, rfl, trivial⟩ (fun _ h => h) (fun s h => by simp [ring_Rings_Export_l0] at h) fun k17 s hM19 => ?_
  obtain ⟨s_15, c_16, ds⟩ := s
  have hm18 : ring_Rings_Export_l0 a0 (k17 + 1) s_15 c_16 = some p11 := hM19
  rw [ring_Rings_Export_l0] at hm18
  change CD _ _ _ [(0, pt b0_ 0), (3, pt b10 0), (30, vI a0.lists), (31, vI s_15)] R (Bk b10 9 [vS c_16] :: Bk b0_ 89 [vI a0.lists, g0_.slots, g0_.free, g0_.at_, g0_.many] :: OwS true 91 4 ring_slot.c g0_.slots a0.slots :: OwS true 3 1 eI g0_.free a0.free :: OwM vS vI g0_.at_ a0.at_ :: OwS true 3 1 eI g0_.many a0.many :: MkC ds :: F)
  refine c_seq ?_
  refine c_reg ?_
  refine r_u (o_bin rfl rfl (bI_lt s_15 a0.lists)) ?_
  refine r_nil ?_
  refine x_seq ?_
  refine c_seq ?_
  refine c_if (b := decide (s_15 < a0.lists)) rfl (fun h20 => ?_) fun h20 => ?_
  · have hm21 := ift hm18 h20
    clear hm18
    refine c_skip ?_
    refine x_seq ?_
    refine c_seq ?_
    refine c_blk ?_
    refine c_seq ?_
    refine c_reg ?_
    refine r_u (o_mv rfl) ?_
    refine r_u (o_as rfl) ?_
    refine r_nil ?_
    refine x_seq ?_
    refine c_seq ?_
    obtain ⟨x22, hx22, hm23⟩ := bs hm21
    clear hm21
    obtain ⟨r24, hr24, hm25⟩ := bs hm23
    clear hm23
    obtain ⟨h26, hm27⟩ := ig hm25
    clear hm25
    obtain ⟨kz, hkz, hm28⟩ := bs hm27
    obtain ⟨c2, hc2, hm29⟩ := bs hm28
    refine c_any mixed (effs := [11]) (V := []) ?_
    refine stage_ext [(0, vS c_16), (1, pt b0_ 0), (2, pt b0_ 0), (3, pt b0_ 4), (4, g0_.many), (5, vI s_15), (6, pt (sb g0_.many) (so g0_.many + s_15.toNat * 1)), (7, vI x22), (8, vW (toW x22)), (9, vS r24), (10, vS (c_16 ++ r24))] rfl ?_
    refine stage rfl rfl rfl rfl [0, 0, 2, 6, 14, 0, 62, 126, 254, 510, 1023, 2047] [0, 1, 2, 3, 4, 5, 6, 7, 8, 9, 10] [11] rfl rfl rfl (qc rfl rfl (s_u (o_ld 0 sc9 rfl rfl rfl)) (qc rfl rfl (s_u (o_mv rfl)) (qc rfl rfl (s_u (o_nc rfl)) (qc rfl rfl (s_u (o_fa fa89_4 rfl)) (qc rfl rfl (s_u (o_ld 1 sc86 rfl rfl rfl)) (qc rfl rfl (s_u (o_mv rfl)) (qc rfl rfl (s_u (o_ixO 5 Tryz.underlying86 (fun _ => by kernel_rfl) rfl rfl rfl hx22)) (qc rfl rfl (s_u (o_ldO0 5 sc3 rfl rfl hx22 rfl rfl)) (qc rfl rfl (s_u (o_cv rfl (cIW Tryz.underlying3 Tryz.underlying22 x22))) (qc rfl rfl (s_u (o_callq ca42 rfl (wire_Num.ok (toW x22) r24 hr24))) (qc rfl rfl (s_u (o_bin rfl rfl (bS_add c_16 r24 h26))) qn))))))))))) ?_ (fun h => absurd h (by decide))
    refine ec (eo_u rfl (s_u (o_st sc9 rfl rfl rfl rfl rfl rfl)) (Le.refl _) ?_) en
    refine stage rfl rfl rfl rfl [0, 0, 2, 6, 14, 0, 62, 126, 254, 510, 1023, 2047] [] [] rfl rfl rfl qn en ?_
    intro _
    refine ex_sub (E' := [(0, pt b0_ 0), (3, pt b10 0), (30, vI a0.lists), (31, vI s_15), (4, vI s_15)]) ⟨rfl, rfl, rfl, rfl, rfl, trivial⟩ ?_
    refine x_seq ?_
    refine c_seq ?_
    refine c_reg ?_
    refine r_u (o_mv rfl) ?_
    refine r_u (o_mv rfl) ?_
    refine r_w (o_call ca63 rfl (ring_Rings_Keys.ok (pt b0_ 0) rfl s_15)) (fun v R L' _ hC => ?_)
    obtain ⟨c0, c1, rfl, rfl, rfl⟩ := hC
    refine r_nil ?_
    refine ex_sub (E' := [(0, pt b0_ 0), (3, pt b10 0), (30, vI a0.lists), (31, vI s_15), (47, .func (.func 89) #[] #[pt c0 0, pt c1 0])]) ⟨rfl, rfl, rfl, rfl, rfl, trivial⟩ ?_
    refine x_seq ?_
    refine c_blk ?_
    refine cd_st (fun _ h => st_pk 9 [3, 4, 5, 6, 7, 0, 1, 2, 8] (by decide) h) ?_
    refine cd_st (fun _ h => st_some (f := ring_Rings.op g0_) (a := a0) (st_star_f (A := ring_Rings.fl b0_ a0 g0_) h)) ?_
    refine cd_st (fun _ h => st_pk 5 [2, 0, 1, 3, 4] (by decide) h) ?_
    refine c_rangeR (kz := kz) (A0 := [Bk c0 53 [pt b0_ 0], rO (ring_Rings.op g0_) (pt b0_ 0) (some a0), Bk c1 3 [vI s_15]])
      (L0 := Bk b10 9 [vS (c_16 ++ r24)] :: MkC ds :: F)
      (fun pre L => ∃ c, ring_txts pre (c_16 ++ r24) = some c ∧ L = Bk b10 9 [vS c] :: MkC ds :: F)
      rfl ca89 rfl (ring_Rings_Keys_1.ok c0 (some a0) (pt b0_ 0, g0_) c1 s_15 kz hkz) ⟨_, rfl, rfl⟩
      (E1 := fun k => [(0, pt b0_ 0), (3, pt b10 0), (5, vS k), (30, vI a0.lists), (31, vI s_15)]) (fun k y e1 e2 e3 e4 ks L hx => ?_) (fun l T pre k L1 hi hl => ?_) (fun D L1 hi => ?_)
    · refine c_reg ?_
      refine r_u (o_as rfl) ?_ (by rw [e3]; rfl)
      refine r_nil ?_
      exact ex_sub (E' := [(0, pt b0_ 0), (3, pt b10 0), (5, vS k), (30, vI a0.lists), (31, vI s_15)]) ⟨rfl, rfl, rfl, rfl, rfl, trivial⟩ hx
    · obtain ⟨c, hc, rfl⟩ := hi
      obtain ⟨rest, hrest⟩ := hl
      have h30 := hc2
      rw [hrest, ring_txts_app, hc, Option.bind_some, ring_txts] at h30
      obtain ⟨t, ht, h31⟩ := bs h30
      obtain ⟨h32, h33⟩ := ig h31
      change CD _ _ _ _ R (Bk b10 9 [vS c] :: MkC ds :: (F ++ T))
      refine c_blk ?_
      refine c_any mixed (effs := [4]) (V := []) ?_
      refine stage_ext [(0, vS c), (1, vS k), (2, vS t), (3, vS (c ++ t))] rfl ?_
      refine stage rfl rfl rfl rfl [0, 0, 2, 7, 15] [0, 1, 2, 3] [4] rfl rfl rfl (qc rfl rfl (s_u (o_ld 0 sc9 rfl rfl rfl)) (qc rfl rfl (s_u (o_mv rfl)) (qc rfl rfl (s_u (o_callq ca72 rfl (wire_Text.ok k t ht))) (qc rfl rfl (s_u (o_bin rfl rfl (bS_add c t h32))) qn)))) ?_ (fun h => absurd h (by decide))
      refine ec (eo_u rfl (s_u (o_st sc9 rfl rfl rfl rfl rfl rfl)) (Le.refl _) ?_) en
      refine stage rfl rfl rfl rfl [0, 0, 2, 7, 15] [] [] rfl rfl rfl qn en ?_
      intro _
      refine x_blk ?_
      exact x_round rfl (Le.refl _) ⟨rfl, rfl, _, (List.cons_append ..).symm ▸ rfl, c ++ t, by rw [ring_txts_app, hc, Option.bind_some, ring_txts, ht, Option.bind_some, if_pos h32]; rfl, rfl⟩
    · obtain ⟨c, hc, rfl⟩ := hi
      rw [hc2] at hc
      obtain rfl := Option.some.inj hc
      refine x_blk ?_
      refine x_blk ?_
      refine x_seq ?_
      refine c_reg ?_
      refine r_u (o_bin rfl rfl (bI_add s_15 1)) ?_
      refine r_u (o_mv rfl) ?_
      refine r_nil ?_
      exact x_lpD (i64 (s_15 + 1), c2, Hw.mark D :: ds) hm29 rfl ⟨rfl, rfl, rfl, rfl, trivial⟩ (fun w h => by
        have h1 := st_pk 6 [2, 4, 0, 5] (by decide) h
        have h2 := st_star_o (A := ring_Rings.fl b0_ a0 g0_) (st_some_o h1)
        exact st_pk 7 [1, 2, 3, 4, 5, 6, 0] (by decide) (mk_add (st_pk 8 [6, 7, 5, 0, 1, 2, 3, 4] (by decide) h2)))
  · have hm21 := iff_ hm18 h20
    clear hm18
    refine c_exit (x_exit (ks' := _) rfl ?_)
    obtain rfl := Option.some.inj hm21
    refine x_seq ?_
    refine c_seq ?_
    refine c_reg ?_
    refine r_u (o_ld 0 sc9 rfl rfl rfl) ?_
    refine r_u (o_as rfl) ?_
    refine r_nil ?_
    refine x_seq ?_
    refine c_ret ?_
    refine ex_st (fun _ h => st_pk 7 [6, 1, 2, 3, 4, 5] (by decide) h) ?_
    exact x_m1 rfl (rv_t rfl) (fun _ h => h) (Le.refl _) ⟨_, rfl, rfl, rfl, rfl⟩

def tiny_Tiny_Export (a0 : tiny_Tiny) : Option Str :=
  (wire_Num (toW a0.most)).bind fun r6 => om a0.s (none) fun x8 => (sketch_Sketch_Export x8).bind fun r14 => if r6.length + r14.length ≤ maxS then om a0.r (none) fun x18 => (ring_Rings_Export x18).bind fun r26 => if (r6 ++ r14).length + r26.length ≤ maxS then some ((r6 ++ r14) ++ r26) else none else none
theorem tiny_Tiny_Export.ok {G R F} (b0_ : Nat) (a0 : tiny_Tiny) (g0_ : tiny_Tiny.G) (r : Str) (hm : tiny_Tiny_Export a0 = some r) : CO Tryz.prog 14 [pt b0_ 0] G R (Bk b0_ 57 [vI a0.most, g0_.s.1, g0_.r.1] :: rO (sketch_Sketch.op g0_.s.2) g0_.s.1 a0.s :: rO (ring_Rings.op g0_.r.2) g0_.r.1 a0.r :: F)
    (Ret fun u R' L' => u = vS r ∧ R' = R ∧ L' = Bk b0_ 57 [vI a0.most, g0_.s.1, g0_.r.1] :: rO (sketch_Sketch.op g0_.s.2) g0_.s.1 a0.s :: rO (ring_Rings.op g0_.r.2) g0_.r.1 a0.r :: F) := by
  obtain ⟨⟨pv1, g2⟩, ⟨pv4, g5⟩⟩ := g0_
  unfold tiny_Tiny_Export at hm
  refine co_ofN (N := 23) Tryz.func14 rfl rfl ?_
  refine c_seq ?_
  refine c_reg ?_
  refine r_u (o_as rfl) ?_
  refine r_nil ?_
  refine x_seq ?_
  refine c_seq ?_
  refine c_seq ?_
  refine c_reg ?_
  refine r_u (o_mv rfl) ?_
  refine r_u (o_bin rfl rfl (bP_eqp Tryz.underlying24)) ?_
  refine r_nil ?_
  refine x_seq ?_
  refine c_ff rfl ?_
  refine c_skip ?_
  refine x_seq ?_
  refine c_seq ?_
  obtain ⟨r6, hr6, hm7⟩ := bs hm
  clear hm
  refine cd_st (fun _ h => mv1 h) ?_
  refine cd_opt (fun ho10 => ?_) (fun x8 b9 ho10 => ?_)
  · rintro rfl
    have hm11 := om_n hm7 ho10
    clear hm7
    cases hm11
  · rintro rfl
    have hm11 := om_s hm7 ho10
    clear hm7
    refine cd_st (fun _ h => st_star_o h) ?_
    obtain ⟨r14, hr14, hm15⟩ := bs hm11
    clear hm11
    obtain ⟨h16, hm17⟩ := ig hm15
    clear hm15
    refine cd_st (fun _ h => mv4 h) ?_
    refine cd_opt (fun ho20 => ?_) (fun x18 b19 ho20 => ?_)
    · rintro rfl
      have hm21 := om_n hm17 ho20
      clear hm17
      cases hm21
    · rintro rfl
      have hm21 := om_s hm17 ho20
      clear hm17
      refine cd_st (fun _ h => st_star_o h) ?_
      obtain ⟨r26, hr26, hm27⟩ := bs hm21
      clear hm21
      obtain ⟨h28, hm29⟩ := ig hm27
      clear hm27
      refine c_any mixed (effs := []) (V := []) ?_
      refine stage_ext [(0, pt b0_ 0), (1, pt b0_ 0), (2, pt b0_ 0), (3, vI a0.most), (4, vW (toW a0.most)), (5, vS r6), (6, pt b0_ 0), (7, pt b0_ 0), (8, pt b0_ 1), (9, pt b9 0), (10, vS r14), (11, vS (r6 ++ r14)), (12, pt b0_ 0), (13, pt b0_ 0), (14, pt b0_ 2), (15, pt b19 0), (16, vS r26), (17, vS ((r6 ++ r14) ++ r26)), (18, vS ((r6 ++ r14) ++ r26))] rfl ?_
      refine stage rfl rfl rfl rfl [0, 1, 3, 7, 15, 31, 0, 64, 192, 448, 1023, 2047, 0, 4096, 12288, 28672, 63487, 131071, 262143] [0, 1, 2, 3, 4, 5, 6, 7, 8, 9, 10, 11, 12, 13, 14, 15, 16, 17, 18] [] rfl rfl rfl (qc rfl rfl (s_u (o_mv rfl)) (qc rfl rfl (s_u (o_nc rfl)) (qc rfl rfl (s_u (o_fa fa57_0 rfl)) (qc rfl rfl (s_u (o_ld 8 sc3 rfl rfl rfl)) (qc rfl rfl (s_u (o_cv rfl (cIW Tryz.underlying3 Tryz.underlying22 a0.most))) (qc rfl rfl (s_u (o_callq ca42 rfl (wire_Num.ok (toW a0.most) r6 hr6))) (qc rfl rfl (s_u (o_mv rfl)) (qc rfl rfl (s_u (o_nc rfl)) (qc rfl rfl (s_u (o_fa fa57_1 rfl)) (qc rfl rfl (s_u (o_ld 8 sc49 rfl rfl rfl)) (qc rfl rfl (s_u (o_callqP ca43 rfl (sketch_Sketch_Export.ok b9 x8 g2 r14 hr14) (fun _ h => st_pk 9 [5, 6, 7, 0, 1, 2, 3, 4, 8] (by decide) h) (fun _ h => st_pk 9 [3, 4, 5, 6, 7, 0, 1, 2, 8] (by decide) h))) (qc rfl rfl (s_u (o_bin rfl rfl (bS_add r6 r14 h16))) (qc rfl rfl (s_u (o_mv rfl)) (qc rfl rfl (s_u (o_nc rfl)) (qc rfl rfl (s_u (o_fa fa57_2 rfl)) (qc rfl rfl (s_u (o_ld 8 sc53 rfl rfl rfl)) (qc rfl rfl (s_u (o_callqP ca44 rfl (ring_Rings_Export.ok b19 x18 g5 r26 hr26) (fun _ h => st_pk 9 [0, 1, 2, 3, 4, 5, 6, 7, 8] (by decide) h) (fun _ h => st_pk 9 [0, 1, 2, 3, 4, 5, 6, 7, 8] (by decide) h))) (qc rfl rfl (s_u (o_bin rfl rfl (bS_add (r6 ++ r14) r26 h28))) (qc rfl rfl (s_u (o_as rfl)) qn))))))))))))))))))) en ?_
      intro _
      refine ex_sub (E' := [(2, vS ((r6 ++ r14) ++ r26))]) ⟨rfl, trivial⟩ ?_
      refine x_seq ?_
      refine c_ret ?_
      refine ex_st (fun _ h => mv7 (mv7 (mv7 h))) ?_
      refine ex_st (fun _ h => st_some (f := sketch_Sketch.op g2) (a := x8) (st_star_f (A := sketch_Sketch.fl b9 x8 g2) h)) ?_
      refine ex_st (fun _ h => mv5 (mv5 (mv5 (mv5 (mv5 h))))) ?_
      refine ex_st (fun _ h => st_some (f := ring_Rings.op g5) (a := x18) (st_star_f (A := ring_Rings.fl b19 x18 g5) h)) ?_
      refine ex_st (fun _ h => mv1 h) ?_
      refine ex_st (fun _ h => st_back ho10 h) ?_
      refine ex_st (fun _ h => mv1 h) ?_
      refine ex_st (fun _ h => st_back ho20 h) ?_
      obtain rfl := Option.some.inj hm29
      refine ex_st (fun _ h => st_pk 3 [2, 1, 0] (by decide) h) ?_
      exact x_r1 rfl (rv_t rfl) (Le.refl _) ⟨_, rfl, rfl, rfl, rfl⟩

def wire_fail (a0 : Int) : (Unit) ⊕ (Int × Unit) :=
  Sum.inr (a0, ())
theorem wire_fail.ok {G R F} (a0 : Int) (r : (Unit) ⊕ (Int × Unit)) (hm : wire_fail a0 = r) : CO Tryz.prog 96 [vI a0] G R (F)
    (PK 126 r (fun (a : Unit) u R' L' => u = .tuple #[] ∧ R' = R ∧ L' = F) (fun n (o : Unit) R' L' => R' = R ∧ L' = F)) := by
  unfold wire_fail at hm
  refine co_ofN (N := 5) Tryz.func96 rfl rfl ?_
  refine c_reg ?_
  refine r_u (o_mv rfl) ?_
  refine r_u (o_bld [vI a0] rfl (fun _ => by kernel_rfl)) ?_
  refine r_u (o_mi (v := .iface 126 (.agg #[vI a0])) rfl (fun _ => by kernel_rfl)) ?_
  subst hm
  exact r_sw0 (s_w (o_panic rfl (px_st (fun _ h => st_pk 0 [] (by decide) h) (px_of (Le.refl _) (.inr ⟨_, rfl, _, rfl, rfl, rfl⟩))))) (fun _ _ _ _ h => h.elim)

def wire_Reader_Bytes (a0 : wire_Reader) (a1 : Int) : Option ((Str × wire_Reader) ⊕ (Int × wire_Reader)) :=
  Option.bind (if (decide (a1 < 0) || decide ((a0.s.length : Int) < a1)) then lt (wire_fail 4) fun r11 => sm r11 (fun (ra13 : Unit) => some (Sum.inl ())) fun ((rn14, ro15) : Int × Unit) => some (Sum.inr (Sum.inr (rn14, a0))) else some (Sum.inl ())) fun (p0 : Unit ⊕ ((Str × wire_Reader) ⊕ (Int × wire_Reader))) => (match p0 with | Sum.inl q1 => (sl a0.s 0 a1).bind fun s5 => (sl a0.s a1 (a0.s.length : Int)).bind fun s7 => some (Sum.inl (s5, (⟨s7⟩ : wire_Reader))) | Sum.inr r => some r)
theorem wire_Reader_Bytes.ok {G R F} (b0_ : Nat) (a0 : wire_Reader) (a1 : Int) (r : (Str × wire_Reader) ⊕ (Int × wire_Reader)) (hm : wire_Reader_Bytes a0 a1 = some r) : CO Tryz.prog 95 [pt b0_ 0, vI a1] G R (Bk b0_ 128 (wire_Reader.c a0) :: F)
    (PK 126 r (fun (a : Str × wire_Reader) u R' L' => u = vS a.1 ∧ R' = R ∧ L' = Bk b0_ 128 (wire_Reader.c a.2) :: F) (fun n (o : wire_Reader) R' L' => R' = R ∧ L' = Bk b0_ 128 (wire_Reader.c o) :: F)) := by
  unfold wire_Reader_Bytes at hm
  refine co_ofN (N := 34) Tryz.func95 rfl rfl ?_
  refine c_seq ?_
  refine c_reg ?_
  refine r_u (o_as rfl) ?_
  refine r_nil ?_
  refine x_seq ?_
  refine c_seq ?_
  refine c_seq ?_
  refine c_reg ?_
  refine r_u (o_mv rfl) ?_
  refine r_u (o_bin rfl rfl (bI_lt a1 0)) ?_
  refine r_u (o_mv rfl) ?_
  refine r_s (s_gf rfl rfl fun g => o_mv rfl) ?_
  refine r_s (s_gf rfl rfl fun g => o_mv rfl) ?_
  refine r_s (s_gf rfl rfl fun g => o_nc (evg rfl g)) ?_
  refine r_s (s_gf rfl rfl fun g => o_fa fa128_0 (evg rfl g)) ?_
  refine r_s (s_gf rfl rfl fun g => o_ld 0 sc9 (evg rfl g) rfl rfl) ?_
  refine r_s (s_gf rfl rfl fun g => o_lenS Tryz.underlying9 (evg rfl g)) ?_
  refine r_s (s_gf rfl rfl fun g => o_bin (evg rfl g) (evg rfl g) (bI_gt a1 (a0.s.length : Int))) ?_
  refine r_u (o_or rfl rfl) ?_
  refine r_nil ?_
  refine x_seq ?_
  obtain ⟨p0, hp2, hm3⟩ := bs hm
  refine cd_joinS (p := p0) (Ef := fun q1 => [(0, pt b0_ 0), (1, vI a1)]) (Lf := fun q1 => Bk b0_ 128 (wire_Reader.c a0) :: F) (fun q1 hq => ?_) fun K4 => ?_
  · subst hq
    try dsimp only at hm3
    refine x_seq ?_
    refine c_seq ?_
    refine c_reg ?_
    refine r_u (o_mv rfl) ?_
    refine r_u (o_nc rfl) ?_
    refine r_u (o_fa fa128_0 rfl) ?_
    refine r_u (o_ld 0 sc9 rfl rfl rfl) ?_
    refine r_u (o_mv rfl) ?_
    obtain ⟨s5, hs5, hm6⟩ := bs hm3
    clear hm3
    refine r_u (o_slS (i := 0) (j := a1) Tryz.underlying9 rfl rfl rfl hs5) ?_
    refine r_u (o_as rfl) ?_
    refine r_nil ?_
    refine x_seq ?_
    refine c_seq ?_
    refine c_reg ?_
    refine r_u (o_mv rfl) ?_
    refine r_u (o_mv rfl) ?_
    refine r_u (o_nc rfl) ?_
    refine r_u (o_fa fa128_0 rfl) ?_
    refine r_u (o_ld 0 sc9 rfl rfl rfl) ?_
    refine r_u (o_mv rfl) ?_
    obtain ⟨s7, hs7, hm8⟩ := bs hm6
    clear hm6
    refine r_u (o_slS (i := a1) (j := (a0.s.length : Int)) Tryz.underlying9 rfl rfl rfl hs7) ?_
    refine r_u (o_nc rfl) ?_
    refine r_u (o_fa fa128_0 rfl) ?_
    refine r_u0 (o_st sc9 rfl rfl rfl rfl rfl rfl) ?_
    refine r_nil ?_
    refine x_seq ?_
    refine c_seq ?_
    refine c_reg ?_
    refine r_u (o_mv rfl) ?_
    refine r_u (o_as rfl) ?_
    refine r_nil ?_
    refine x_seq ?_
    refine c_ret ?_
    obtain rfl := Option.some.inj hm8
    exact x_r1 rfl (rv_t rfl) (Le.refl _) (.inl ⟨_, rfl, _, rfl, rfl, rfl, rfl⟩)
  · refine c_if (b := (decide (a1 < 0) || decide ((a0.s.length : Int) < a1))) rfl (fun h9 => ?_) fun h9 => ?_
    · have hm10 := ift hp2 h9
      clear hp2
      obtain ⟨r11, hr11, hm12⟩ := ltx hm10
      clear hm10
      rcases r11 with ra13 | ⟨rn14, ro15⟩
      · have hm16 := sm_l hm12
        clear hm12
        refine c_reg ?_
        refine r_c (s_w (o_callL ca96 rfl (wire_fail.ok 4 (Sum.inl ra13) hr11) (fun _ _ _ h => h))) ?_
        refine r_nil ?_
        obtain rfl := Option.some.inj hm16
        exact x_sub (K4 _ rfl) ⟨rfl, rfl, trivial⟩ (fun _ h => st_pk 1 [0] (by decide) h)
      · have hm16 := sm_r hm12
        clear hm12
        refine c_reg ?_
        obtain rfl := Option.some.inj hm16
        try dsimp only at hm3
        obtain rfl := Option.some.inj hm3
        exact r_sw (s_w (o_callR ca96 rfl (wire_fail.ok 4 (Sum.inr (rn14, ro15)) hr11) (by rintro _ _ _ ⟨rfl, rfl⟩; exact (px_st (fun _ h => st_pk 1 [0] (by decide) h) (px_of (Le.refl _) (.inr ⟨_, rfl, _, rfl, rfl, rfl⟩)))))) (fun _ _ _ _ h => h.elim)
    · have hm10 := iff_ hp2 h9
      clear hp2
      refine c_skip ?_
      obtain rfl := Option.some.inj hm10
      exact x_sub (K4 _ rfl) ⟨rfl, rfl, trivial⟩ (fun _ h => st_pk 1 [0] (by decide) h)

def wire_Reader_Num_l0  : Nat → UInt64 → Int → Str → Option ((UInt64 × Str) ⊕ ((UInt64 × wire_Reader) ⊕ (Int × wire_Reader)))
  | 0, _, _, _ => none
  | k16 + 1, n_13, s_14, c_15 => if decide (s_14 < 10) then (wire_Reader_Bytes (⟨c_15⟩ : wire_Reader) 1).bind fun r21 => sm r21 (fun (ra23 : Str × wire_Reader) => (gi ra23.1 0).bind fun c27 => Option.bind (if (((s_14 == 9) && decide (1 < c27)) || (decide (0 < s_14) && (c27 == 0))) then lt (wire_fail 6) fun r40 => sm r40 (fun (ra42 : Unit) => some (Sum.inl ())) fun ((rn43, ro44) : Int × Unit) => some (Sum.inr (Sum.inr (Sum.inr (rn43, ra23.2)))) else some (Sum.inl ())) fun (p29 : Unit ⊕ ((UInt64 × Str) ⊕ ((UInt64 × wire_Reader) ⊕ (Int × wire_Reader)))) => (match p29 with | Sum.inl q30 => if 0 ≤ (i64 (7 * s_14)) then if decide (c27 < 128) then some (Sum.inl (n_13 ||| (shWl ((c27 % 128).toUInt64) (i64 (7 * s_14))), ra23.2.s)) else wire_Reader_Num_l0 k16 (n_13 ||| (shWl ((c27 % 128).toUInt64) (i64 (7 * s_14)))) (i64 (s_14 + 1)) ra23.2.s else none | Sum.inr r => some r)) fun ((rn24, ro25) : Int × wire_Reader) => some (Sum.inr (Sum.inr (rn24, ro25))) else some (Sum.inl (n_13, c_15))
def wire_Reader_Num (a0 : wire_Reader) (a1 : UInt64) : Option ((UInt64 × wire_Reader) ⊕ (Int × wire_Reader)) :=
  Option.bind (wire_Reader_Num_l0 11 0 0 a0.s) fun (p0 : (UInt64 × Str) ⊕ ((UInt64 × wire_Reader) ⊕ (Int × wire_Reader))) => (match p0 with | Sum.inl q1 => if decide (a1 < q1.1) then lt (wire_fail 3) fun r7 => sm r7 (fun (ra9 : Unit) => some (Sum.inl (q1.1, (⟨q1.2⟩ : wire_Reader)))) fun ((rn10, ro11) : Int × Unit) => some (Sum.inr (rn10, (⟨q1.2⟩ : wire_Reader))) else some (Sum.inl (q1.1, (⟨q1.2⟩ : wire_Reader))) | Sum.inr r => some r)
theorem wire_Reader_Num.ok {G R F} (b0_ : Nat) (a0 : wire_Reader) (a1 : UInt64) (r : (UInt64 × wire_Reader) ⊕ (Int × wire_Reader)) (hm : wire_Reader_Num a0 a1 = some r) : CO Tryz.prog 82 [pt b0_ 0, vW a1] G R (Bk b0_ 128 (wire_Reader.c a0) :: F)
    (PK 126 r (fun (a : UInt64 × wire_Reader) u R' L' => u = vW a.1 ∧ R' = R ∧ L' = Bk b0_ 128 (wire_Reader.c a.2) :: F) (fun n (o : wire_Reader) R' L' => R' = R ∧ L' = Bk b0_ 128 (wire_Reader.c o) :: F)) := by
  unfold wire_Reader_Num at hm
  refine co_ofN (N := 45) Tryz.func82 rfl rfl ?_
  refine c_seq ?_
  refine c_reg ?_
  refine r_u (o_as rfl) ?_
  refine r_nil ?_
  refine x_seq ?_
  refine c_seq ?_
  refine c_reg ?_
  refine r_u (o_as rfl) ?_
  refine r_nil ?_
  refine x_seq ?_
  refine c_seq ?_
  refine c_seq ?_
  refine c_reg ?_
  refine r_u (o_mv rfl) ?_
  refine r_nil ?_
  refine x_seq ?_
  obtain ⟨p0, hp2, hm3⟩ := bs hm
  refine cd_joinS (p := p0) (Ef := fun q1 => [(1, vW a1), (5, vW q1.1)]) (Lf := fun q1 => Bk b0_ 128 [vS q1.2] :: F) (fun q1 hq => ?_) fun K4 => ?_
  · subst hq
    try dsimp only at hm3
    refine x_seq ?_
    refine c_seq ?_
    refine c_seq ?_
    refine c_reg ?_
    refine r_u (o_mv rfl) ?_
    refine r_u (o_mv rfl) ?_
    refine r_u (o_bin rfl rfl (bW_gt q1.1 a1)) ?_
    refine r_nil ?_
    refine x_seq ?_
    refine c_if (b := decide (a1 < q1.1)) rfl (fun h5 => ?_) fun h5 => ?_
    · have hm6 := ift hm3 h5
      clear hm3
      obtain ⟨r7, hr7, hm8⟩ := ltx hm6
      clear hm6
      rcases r7 with ra9 | ⟨rn10, ro11⟩
      · have hm12 := sm_l hm8
        clear hm8
        refine c_reg ?_
        refine r_c (s_w (o_callL ca96 rfl (wire_fail.ok 3 (Sum.inl ra9) hr7) (fun _ _ _ h => h))) ?_
        refine r_nil ?_
        refine x_seq ?_
        refine c_seq ?_
        refine c_reg ?_
        refine r_u (o_mv rfl) ?_
        refine r_u (o_as rfl) ?_
        refine r_nil ?_
        refine x_seq ?_
        refine c_ret ?_
        obtain rfl := Option.some.inj hm12
        exact x_r1 rfl (rv_t rfl) (Le.refl _) (.inl ⟨_, rfl, _, rfl, rfl, rfl, rfl⟩)
      · have hm12 := sm_r hm8
        clear hm8
        refine c_reg ?_
        obtain rfl := Option.some.inj hm12
        exact r_sw (s_w (o_callR ca96 rfl (wire_fail.ok 3 (Sum.inr (rn10, ro11)) hr7) (by rintro _ _ _ ⟨rfl, rfl⟩; exact (px_st (fun _ h => st_pk 1 [0] (by decide) h) (px_of (Le.refl _) (.inr ⟨_, rfl, _, rfl, rfl, rfl⟩)))))) (fun _ _ _ _ h => h.elim)
    · have hm6 := iff_ hm3 h5
      clear hm3
      refine c_skip ?_
      refine x_seq ?_
      refine c_seq ?_
      refine c_reg ?_
      refine r_u (o_mv rfl) ?_
      refine r_u (o_as rfl) ?_
      refine r_nil ?_
      refine x_seq ?_
      refine c_ret ?_
      obtain rfl := Option.some.inj hm6
      exact x_r1 rfl (rv_t rfl) (Le.refl _) (.inl ⟨_, rfl, _, rfl, rfl, rfl, rfl⟩)
  · refine c_blk ?_
    refine cd_loop (M := fun k16 (s : UInt64 × Int × Str) => wire_Reader_Num_l0 k16 s.1 s.2.1 s.2.2 = some p0) (Ef := fun (s : UInt64 × Int × Str) => [(0, pt b0_ 0), (1, vW a1), (5, vW s.1), (8, vI s.2.1)]) (Lf := fun (s : UInt64 × Int × Str) => Bk b0_ 128 [vS s.2.2] :: F) 11 (0, 0, a0.s) hp2 ⟨rfl, rfl, rfl, rfl, trivial⟩ (fun _ h => h) (fun _ h => by cases h) fun k16 s hM18 => ?_
    obtain ⟨n_13, s_14, c_15⟩ := s
    have hm17 : wire_Reader_Num_l0 (k16 + 1) n_13 s_14 c_15 = some p0 := hM18
    rw [wire_Reader_Num_l0] at hm17
    refine c_seq ?_
    refine c_reg ?_
    refine r_u (o_bin rfl rfl (bI_lt s_14 10)) ?_
    refine r_nil ?_
    refine x_seq ?_
    refine c_seq ?_
    refine c_if (b := decide (s_14 < 10)) rfl (fun h19 => ?_) fun h19 => ?_
    · have hm20 := ift hm17 h19
      clear hm17
      refine c_skip ?_
      refine x_seq ?_
      refine c_seq ?_
      refine c_blk ?_
      refine c_seq ?_
      refine c_reg ?_
      refine r_u (o_mv rfl) ?_
      refine r_u (o_as rfl) ?_
      refine r_nil ?_
      refine x_seq ?_
      refine c_seq ?_
      obtain ⟨r21, hr21, hm22⟩ := bs hm20
      clear hm20
      rcases r21 with ra23 | ⟨rn24, ro25⟩
      · have hm26 := sm_l hm22
        clear hm22
        refine c_reg ?_
        refine r_u (o_mv rfl) ?_
        refine r_c (s_w (o_callL ca95 rfl (wire_Reader_Bytes.ok b0_ (⟨c_15⟩ : wire_Reader) 1 (Sum.inl ra23) hr21) (fun _ _ _ h => h))) ?_
        obtain ⟨c27, hc27, hm28⟩ := bs hm26
        clear hm26
        refine r_u (o_ixS Tryz.underlying9 rfl rfl hc27) ?_
        refine r_u (o_as rfl) ?_
        refine r_nil ?_
        refine x_seq ?_
        refine c_seq ?_
        refine c_seq ?_
        refine c_reg ?_
        refine r_u (o_mv rfl) ?_
        refine r_u (o_bin rfl rfl (bI_eq s_14 9)) ?_
        refine r_u (o_mv rfl) ?_
        refine r_s (s_gt rfl rfl fun g => o_mv rfl) ?_
        refine r_s (s_gt rfl rfl fun g => o_bin (evg rfl g) rfl (bY_gt c27 1)) ?_
        refine r_u (o_and rfl rfl) ?_
        refine r_u (o_mv rfl) ?_
        refine r_s (s_gf rfl rfl fun g => o_mv rfl) ?_
        refine r_s (s_gf rfl rfl fun g => o_bin (evg rfl g) rfl (bI_gt s_14 0)) ?_
        refine r_s (s_gf rfl rfl fun g => o_mv (evg rfl g)) ?_
        refine r_s (s_ggt rfl rfl fun g => o_mv rfl) ?_
        refine r_s (s_ggt rfl rfl fun g => o_bin (evg rfl g) rfl (bY_eq c27 0)) ?_
        refine r_s (s_gf rfl rfl fun g => o_and (evg rfl g) (evg2 rfl g)) ?_
        refine r_u (o_or rfl rfl) ?_
        refine r_nil ?_
        refine x_seq ?_
        obtain ⟨p29, hp31, hm32⟩ := bs hm28
        refine cd_joinS (p := p29) (Ef := fun q30 => [(0, pt b0_ 0), (1, vW a1), (5, vW n_13), (6, vI s_14), (7, vY c27), (8, vI s_14)]) (Lf := fun q30 => Bk b0_ 128 (wire_Reader.c ra23.2) :: F) (fun q30 hq => ?_) fun K33 => ?_
        · subst hq
          try dsimp only at hm32
          refine x_seq ?_
          refine c_seq ?_
          refine c_reg ?_
          refine r_u (o_mv rfl) ?_
          refine r_u (o_mv rfl) ?_
          refine r_u (o_bin rfl rfl (bY_rem c27 128 (by decide))) ?_
          refine r_u (o_cv rfl (cYW Tryz.underlying5 Tryz.underlying22 (c27 % 128))) ?_
          refine r_u (o_mv rfl) ?_
          refine r_u (o_bin rfl rfl (bI_mul 7 s_14)) ?_
          obtain ⟨h34, hm35⟩ := ig hm32
          clear hm32
          refine r_u (o_bin rfl rfl (bWI_shl ((c27 % 128).toUInt64) (i64 (7 * s_14)) h34)) ?_
          refine r_u (o_bin rfl rfl (bW_or n_13 (shWl ((c27 % 128).toUInt64) (i64 (7 * s_14))))) ?_
          refine r_u (o_as rfl) ?_
          refine r_nil ?_
          refine x_seq ?_
          refine c_seq ?_
          refine c_reg ?_
          refine r_u (o_mv rfl) ?_
          refine r_u (o_bin rfl rfl (bY_lt c27 128)) ?_
          refine r_nil ?_
          refine x_seq ?_
          refine c_if (b := decide (c27 < 128)) rfl (fun h36 => ?_) fun h36 => ?_
          · have hm37 := ift hm35 h36
            clear hm35
            refine c_exit (x_exit (ks' := _) rfl ?_)
            obtain rfl := Option.some.inj hm37
            exact x_sub (K4 _ rfl) ⟨rfl, rfl, trivial⟩ (fun _ h => st_pk 1 [0] (by decide) h)
          · have hm37 := iff_ hm35 h36
            clear hm35
            refine c_skip ?_
            refine x_blk ?_
            refine x_seq ?_
            refine c_reg ?_
            refine r_u (o_bin rfl rfl (bI_add s_14 1)) ?_
            refine r_u (o_mv rfl) ?_
            refine r_nil ?_
            exact x_lp (n_13 ||| (shWl ((c27 % 128).toUInt64) (i64 (7 * s_14))), i64 (s_14 + 1), ra23.2.s) hm37 ⟨rfl, rfl, rfl, rfl, trivial⟩ (fun _ h => st_pk 1 [0] (by decide) h)
        · refine c_if (b := (((s_14 == 9) && decide (1 < c27)) || (decide (0 < s_14) && (c27 == 0)))) rfl (fun h38 => ?_) fun h38 => ?_
          · have hm39 := ift hp31 h38
            clear hp31
            obtain ⟨r40, hr40, hm41⟩ := ltx hm39
            clear hm39
            rcases r40 with ra42 | ⟨rn43, ro44⟩
            · have hm45 := sm_l hm41
              clear hm41
              refine c_reg ?_
              refine r_c (s_w (o_callL ca96 rfl (wire_fail.ok 6 (Sum.inl ra42) hr40) (fun _ _ _ h => h))) ?_
              refine r_nil ?_
              obtain rfl := Option.some.inj hm45
              exact x_sub (K33 _ rfl) ⟨rfl, rfl, rfl, rfl, rfl, rfl, trivial⟩ (fun _ h => st_pk 1 [0] (by decide) h)
            · have hm45 := sm_r hm41
              clear hm41
              refine c_reg ?_
              obtain rfl := Option.some.inj hm45
              try dsimp only at hm32
              obtain rfl := Option.some.inj hm32
              try dsimp only at hm3
              obtain rfl := Option.some.inj hm3
              exact r_sw (s_w (o_callR ca96 rfl (wire_fail.ok 6 (Sum.inr (rn43, ro44)) hr40) (by rintro _ _ _ ⟨rfl, rfl⟩; exact (px_st (fun _ h => st_pk 1 [0] (by decide) h) (px_of (Le.refl _) (.inr ⟨_, rfl, _, rfl, rfl, rfl⟩)))))) (fun _ _ _ _ h => h.elim)
          · have hm39 := iff_ hp31 h38
            clear hp31
            refine c_skip ?_
            obtain rfl := Option.some.inj hm39
            exact x_sub (K33 _ rfl) ⟨rfl, rfl, rfl, rfl, rfl, rfl, trivial⟩ (fun _ h => st_pk 1 [0] (by decide) h)
      · have hm26 := sm_r hm22
        clear hm22
        refine c_reg ?_
        refine r_u (o_mv rfl) ?_
        obtain rfl := Option.some.inj hm26
        try dsimp only at hm3
        obtain rfl := Option.some.inj hm3
        exact r_sw (s_w (o_callR ca95 rfl (wire_Reader_Bytes.ok b0_ (⟨c_15⟩ : wire_Reader) 1 (Sum.inr (rn24, ro25)) hr21) (by rintro _ _ _ ⟨rfl, rfl⟩; exact (px_st (fun _ h => st_pk 1 [0] (by decide) h) (px_of (Le.refl _) (.inr ⟨_, rfl, _, rfl, rfl, rfl⟩)))))) (fun _ _ _ _ h => h.elim)
    · have hm20 := iff_ hm17 h19
      clear hm17
      refine c_exit (x_exit (ks' := _) rfl ?_)
      obtain rfl := Option.some.inj hm20
      exact x_sub (K4 _ rfl) ⟨rfl, rfl, trivial⟩ (fun _ h => st_pk 1 [0] (by decide) h)

def wire_Reader_Must (a0 : wire_Reader) (a1 : Bool) : (Unit) ⊕ (Int × Unit) :=
  if !a1 then lt (wire_fail 6) fun r2 => sm r2 (fun (ra4 : Unit) => Sum.inl ()) fun ((rn5, ro6) : Int × Unit) => Sum.inr (rn5, ()) else Sum.inl ()
theorem wire_Reader_Must.ok {G R F} (b0_ : Nat) (a0 : wire_Reader) (a1 : Bool) (r : (Unit) ⊕ (Int × Unit)) (hm : wire_Reader_Must a0 a1 = r) : CO Tryz.prog 83 [pt b0_ 0, vB a1] G R (Bk b0_ 128 (wire_Reader.c a0) :: F)
    (PK 126 r (fun (a : Unit) u R' L' => u = .tuple #[] ∧ R' = R ∧ L' = Bk b0_ 128 (wire_Reader.c a0) :: F) (fun n (o : Unit) R' L' => R' = R ∧ L' = Bk b0_ 128 (wire_Reader.c a0) :: F)) := by
  unfold wire_Reader_Must at hm
  refine co_ofN (N := 7) Tryz.func83 rfl rfl ?_
  refine c_seq ?_
  refine c_reg ?_
  refine r_u (o_mv rfl) ?_
  refine r_u (o_not rfl) ?_
  refine r_nil ?_
  refine x_seq ?_
  refine c_if (b := !a1) rfl (fun h0 => ?_) fun h0 => ?_
  · have hm1 := ift hm h0
    clear hm
    obtain ⟨r2, hr2, hm3⟩ := ltx hm1
    clear hm1
    rcases r2 with ra4 | ⟨rn5, ro6⟩
    · have hm7 := sm_l hm3
      clear hm3
      refine c_reg ?_
      refine r_c (s_w (o_callL ca96 rfl (wire_fail.ok 6 (Sum.inl ra4) hr2) (fun _ _ _ h => h))) ?_
      refine r_nil ?_
      refine x_end ?_
      subst hm7
      exact x_r0 rfl (Le.refl _) (.inl ⟨_, rfl, _, rfl, rfl, rfl, rfl⟩)
    · have hm7 := sm_r hm3
      clear hm3
      refine c_reg ?_
      subst hm7
      exact r_sw (s_w (o_callR ca96 rfl (wire_fail.ok 6 (Sum.inr (rn5, ro6)) hr2) (by rintro _ _ _ ⟨rfl, rfl⟩; exact (px_st (fun _ h => st_pk 1 [0] (by decide) h) (px_of (Le.refl _) (.inr ⟨_, rfl, _, rfl, rfl, rfl⟩)))))) (fun _ _ _ _ h => h.elim)
  · have hm1 := iff_ hm h0
    clear hm
    refine c_skip ?_
    refine x_end ?_
    subst hm1
    exact x_r0 rfl (Le.refl _) (.inl ⟨_, rfl, _, rfl, rfl, rfl, rfl⟩)

def wire_Reader_Flag (a0 : wire_Reader) : Option ((Bool × wire_Reader) ⊕ (Int × wire_Reader)) :=
  (wire_Reader_Bytes a0 1).bind fun r0 => sm r0 (fun (ra2 : Str × wire_Reader) => (gi ra2.1 0).bind fun c6 => if decide (1 < c6) then lt (wire_fail 6) fun r10 => sm r10 (fun (ra12 : Unit) => some (Sum.inl ((c6 == 1), ra2.2))) fun ((rn13, ro14) : Int × Unit) => some (Sum.inr (rn13, ra2.2)) else some (Sum.inl ((c6 == 1), ra2.2))) fun ((rn3, ro4) : Int × wire_Reader) => some (Sum.inr (rn3, ro4))
theorem wire_Reader_Flag.ok {G R F} (b0_ : Nat) (a0 : wire_Reader) (r : (Bool × wire_Reader) ⊕ (Int × wire_Reader)) (hm : wire_Reader_Flag a0 = some r) : CO Tryz.prog 97 [pt b0_ 0] G R (Bk b0_ 128 (wire_Reader.c a0) :: F)
    (PK 126 r (fun (a : Bool × wire_Reader) u R' L' => u = vB a.1 ∧ R' = R ∧ L' = Bk b0_ 128 (wire_Reader.c a.2) :: F) (fun n (o : wire_Reader) R' L' => R' = R ∧ L' = Bk b0_ 128 (wire_Reader.c o) :: F)) := by
  unfold wire_Reader_Flag at hm
  refine co_ofN (N := 12) Tryz.func97 rfl rfl ?_
  refine c_seq ?_
  refine c_reg ?_
  refine r_u (o_as rfl) ?_
  refine r_nil ?_
  refine x_seq ?_
  refine c_seq ?_
  obtain ⟨r0, hr0, hm1⟩ := bs hm
  clear hm
  rcases r0 with ra2 | ⟨rn3, ro4⟩
  · have hm5 := sm_l hm1
    clear hm1
    refine c_reg ?_
    refine r_u (o_mv rfl) ?_
    refine r_c (s_w (o_callL ca95 rfl (wire_Reader_Bytes.ok b0_ a0 1 (Sum.inl ra2) hr0) (fun _ _ _ h => h))) ?_
    obtain ⟨c6, hc6, hm7⟩ := bs hm5
    clear hm5
    refine r_u (o_ixS Tryz.underlying9 rfl rfl hc6) ?_
    refine r_u (o_as rfl) ?_
    refine r_nil ?_
    refine x_seq ?_
    refine c_seq ?_
    refine c_seq ?_
    refine c_reg ?_
    refine r_u (o_mv rfl) ?_
    refine r_u (o_bin rfl rfl (bY_gt c6 1)) ?_
    refine r_nil ?_
    refine x_seq ?_
    refine c_if (b := decide (1 < c6)) rfl (fun h8 => ?_) fun h8 => ?_
    · have hm9 := ift hm7 h8
      clear hm7
      obtain ⟨r10, hr10, hm11⟩ := ltx hm9
      clear hm9
      rcases r10 with ra12 | ⟨rn13, ro14⟩
      · have hm15 := sm_l hm11
        clear hm11
        refine c_reg ?_
        refine r_c (s_w (o_callL ca96 rfl (wire_fail.ok 6 (Sum.inl ra12) hr10) (fun _ _ _ h => h))) ?_
        refine r_nil ?_
        refine x_seq ?_
        refine c_seq ?_
        refine c_reg ?_
        refine r_u (o_mv rfl) ?_
        refine r_u (o_bin rfl rfl (bY_eq c6 1)) ?_
        refine r_u (o_as rfl) ?_
        refine r_nil ?_
        refine x_seq ?_
        refine c_ret ?_
        obtain rfl := Option.some.inj hm15
        exact x_r1 rfl (rv_t rfl) (Le.refl _) (.inl ⟨_, rfl, _, rfl, rfl, rfl, rfl⟩)
      · have hm15 := sm_r hm11
        clear hm11
        refine c_reg ?_
        obtain rfl := Option.some.inj hm15
        exact r_sw (s_w (o_callR ca96 rfl (wire_fail.ok 6 (Sum.inr (rn13, ro14)) hr10) (by rintro _ _ _ ⟨rfl, rfl⟩; exact (px_st (fun _ h => st_pk 1 [0] (by decide) h) (px_of (Le.refl _) (.inr ⟨_, rfl, _, rfl, rfl, rfl⟩)))))) (fun _ _ _ _ h => h.elim)
    · have hm9 := iff_ hm7 h8
      clear hm7
      refine c_skip ?_
      refine x_seq ?_
      refine c_seq ?_
      refine c_reg ?_
      refine r_u (o_mv rfl) ?_
      refine r_u (o_bin rfl rfl (bY_eq c6 1)) ?_
      refine r_u (o_as rfl) ?_
      refine r_nil ?_
      refine x_seq ?_
      refine c_ret ?_
      obtain rfl := Option.some.inj hm9
      exact x_r1 rfl (rv_t rfl) (Le.refl _) (.inl ⟨_, rfl, _, rfl, rfl, rfl, rfl⟩)
  · have hm5 := sm_r hm1
    clear hm1
    refine c_reg ?_
    refine r_u (o_mv rfl) ?_
    obtain rfl := Option.some.inj hm5
    exact r_sw (s_w (o_callR ca95 rfl (wire_Reader_Bytes.ok b0_ a0 1 (Sum.inr (rn3, ro4)) hr0) (by rintro _ _ _ ⟨rfl, rfl⟩; exact (px_st (fun _ h => st_pk 1 [0] (by decide) h) (px_of (Le.refl _) (.inr ⟨_, rfl, _, rfl, rfl, rfl⟩)))))) (fun _ _ _ _ h => h.elim)

def sketch_Take_l0 (x29 : sketch_Sketch) : Nat → Int → Str → (List Bool) → Option ((Str × List Bool) ⊕ ((Option sketch_Sketch × wire_Reader) ⊕ (Int × wire_Reader)))
  | 0, _, _, _ => none
  | k49 + 1, s_46, c_47, c_48 => if decide (s_46 < (x29.door.length : Int)) then (wire_Reader_Flag (⟨c_47⟩ : wire_Reader)).bind fun r54 => sm r54 (fun (ra56 : Bool × wire_Reader) => (gi c_48 s_46).bind fun x60 => sketch_Take_l0 x29 k49 (i64 (s_46 + 1)) ra56.2.s (ls c_48 s_46 ra56.1)) fun ((rn57, ro58) : Int × wire_Reader) => some (Sum.inr (Sum.inr (rn57, ro58))) else some (Sum.inl (c_47, c_48))
def sketch_Take_l2 (ra79 : Str × wire_Reader) (y93 : List UInt8) : Nat → Int → Option (Unit ⊕ ((List (List UInt8) × Str) ⊕ ((List (List UInt8) × Str) ⊕ ((Option sketch_Sketch × wire_Reader) ⊕ (Int × wire_Reader)))))
  | 0, _ => none
  | k102 + 1, s_101 => if decide (s_101 < (y93.length : Int)) then (gi y93 s_101).bind fun x107 => lt (wire_Reader_Must ra79.2 (decide (x107 ≤ 15))) fun r109 => sm r109 (fun (ra111 : Unit) => sketch_Take_l2 ra79 y93 k102 (i64 (s_101 + 1))) fun ((rn112, ro113) : Int × Unit) => some (Sum.inr (Sum.inr (Sum.inr (Sum.inr (rn112, ra79.2))))) else some (Sum.inl ())
def sketch_Take_l1 (ra2 : UInt64 × wire_Reader) : Nat → Int → (List (List UInt8)) → Str → Option ((List (List UInt8) × Str) ⊕ ((Option sketch_Sketch × wire_Reader) ⊕ (Int × wire_Reader)))
  | 0, _, _, _ => none
  | k66 + 1, s_62, c_63, c_64 => if decide (s_62 < 4) then Option.bind ((wire_Reader_Bytes (⟨c_64⟩ : wire_Reader) (i64 (ra2.1.toNat : Int))).bind fun r77 => sm r77 (fun (ra79 : Str × wire_Reader) => if ra79.1.length ≤ maxLen then (gi c_63 s_62).bind fun y86 => (gi (ls c_63 s_62 ra79.1) s_62).bind fun y93 => Option.bind (sketch_Take_l2 ra79 y93 (((y93.length : Int) - 0).toNat + 1) 0) fun (p96 : Unit ⊕ ((List (List UInt8) × Str) ⊕ ((List (List UInt8) × Str) ⊕ ((Option sketch_Sketch × wire_Reader) ⊕ (Int × wire_Reader))))) => (match p96 with | Sum.inl q97 => some (Sum.inl (ls c_63 s_62 ra79.1, ra79.2.s)) | Sum.inr r => some r) else none) fun ((rn80, ro81) : Int × wire_Reader) => some (Sum.inr (Sum.inr (Sum.inr (rn80, ro81))))) fun (p71 : (List (List UInt8) × Str) ⊕ ((List (List UInt8) × Str) ⊕ ((Option sketch_Sketch × wire_Reader) ⊕ (Int × wire_Reader)))) => (match p71 with | Sum.inl q72 => sketch_Take_l1 ra2 k66 (i64 (s_62 + 1)) q72.1 q72.2 | Sum.inr r => some r) else some (Sum.inl (c_63, c_64))
def sketch_Take (a0 : wire_Reader) : Option ((Option sketch_Sketch × wire_Reader) ⊕ (Int × wire_Reader)) :=
  (wire_Reader_Num a0 4096).bind fun r0 => sm r0 (fun (ra2 : UInt64 × wire_Reader) => lt (wire_Reader_Must ra2.2 (decide (1 ≤ (i64 (ra2.1.toNat : Int))))) fun r6 => sm r6 (fun (ra8 : Unit) => (wire_Reader_Num ra2.2 18446744073709551615).bind fun r12 => sm r12 (fun (ra14 : UInt64 × wire_Reader) => (sketch_New (i64 (ra2.1.toNat : Int)) ra14.1).bind fun r18 => (wire_Reader_Num ra14.2 ((toW (i64 (10 * (i64 (ra2.1.toNat : Int))))) - 1)).bind fun r23 => sm r23 (fun (ra25 : UInt64 × wire_Reader) => om r18.1 (none) fun x29 => Option.bind (sketch_Take_l1 ra2 5 0 x29.rows ra25.2.s) fun (p35 : (List (List UInt8) × Str) ⊕ ((Option sketch_Sketch × wire_Reader) ⊕ (Int × wire_Reader))) => (match p35 with | Sum.inl q36 => Option.bind (sketch_Take_l0 x29 (((x29.door.length : Int) - 0).toNat + 1) 0 q36.2 x29.door) fun (p41 : (Str × List Bool) ⊕ ((Option sketch_Sketch × wire_Reader) ⊕ (Int × wire_Reader))) => (match p41 with | Sum.inl q42 => some (Sum.inl ((some (⟨x29.wide, x29.seed, q36.1, q42.2, i64 (ra25.1.toNat : Int)⟩ : sketch_Sketch)), (⟨q42.1⟩ : wire_Reader))) | Sum.inr r => some r) | Sum.inr r => some r)) fun ((rn26, ro27) : Int × wire_Reader) => some (Sum.inr (rn26, ro27))) fun ((rn15, ro16) : Int × wire_Reader) => some (Sum.inr (rn15, ro16))) fun ((rn9, ro10) : Int × Unit) => some (Sum.inr (rn9, ra2.2))) fun ((rn3, ro4) : Int × wire_Reader) => some (Sum.inr (rn3, ro4))
theorem sketch_Take.ok {G R F} (b0_ : Nat) (a0 : wire_Reader) (r : (Option sketch_Sketch × wire_Reader) ⊕ (Int × wire_Reader)) (hm : sketch_Take a0 = some r) : CO Tryz.prog 84 [pt b0_ 0] G R (Bk b0_ 128 (wire_Reader.c a0) :: F)
    (PK 126 r (fun (a : Option sketch_Sketch × wire_Reader) u R' L' => ∃ (p0 : Value × sketch_Sketch.G), u = p0.1 ∧ R' = R ∧ L' = rO (sketch_Sketch.op p0.2) p0.1 a.1 :: Bk b0_ 128 (wire_Reader.c a.2) :: F) (fun n (o : wire_Reader) R' L' => R' = R ∧ L' = Bk b0_ 128 (wire_Reader.c o) :: F)) := by
  unfold sketch_Take at hm
  refine co_ofN (N := 81) Tryz.func84 rfl rfl ?_
  refine c_seq ?_
  refine c_reg ?_
  refine r_u (o_as rfl) ?_
  refine r_nil ?_
  refine x_seq ?_
  refine c_seq ?_
  obtain ⟨r0, hr0, hm1⟩ := bs hm
  clear hm
  rcases r0 with ra2 | ⟨rn3, ro4⟩
  · have hm5 := sm_l hm1
    clear hm1
    refine c_reg ?_
    refine r_u (o_mv rfl) ?_
    refine r_c (s_w (o_callL ca82 rfl (wire_Reader_Num.ok b0_ a0 4096 (Sum.inl ra2) hr0) (fun _ _ _ h => h))) ?_
    refine r_u (o_cv rfl (cWI Tryz.underlying22 Tryz.underlying3 ra2.1)) ?_
    refine r_u (o_as rfl) ?_
    refine r_nil ?_
    refine x_seq ?_
    refine c_seq ?_
    obtain ⟨r6, hr6, hm7⟩ := ltx hm5
    clear hm5
    rcases r6 with ra8 | ⟨rn9, ro10⟩
    · have hm11 := sm_l hm7
      clear hm7
      refine c_reg ?_
      refine r_u (o_mv rfl) ?_
      refine r_u (o_mv rfl) ?_
      refine r_u (o_bin rfl rfl (bI_ge (i64 (ra2.1.toNat : Int)) 1)) ?_
      refine r_c (s_w (o_callL ca83 rfl (wire_Reader_Must.ok b0_ ra2.2 (decide (1 ≤ (i64 (ra2.1.toNat : Int)))) (Sum.inl ra8) hr6) (fun _ _ _ h => h))) ?_
      refine r_nil ?_
      refine x_seq ?_
      refine c_seq ?_
      obtain ⟨r12, hr12, hm13⟩ := bs hm11
      clear hm11
      rcases r12 with ra14 | ⟨rn15, ro16⟩
      · have hm17 := sm_l hm13
        clear hm13
        refine c_reg ?_
        refine r_u (o_mv rfl) ?_
        refine r_u (o_mv rfl) ?_
        refine r_c (s_w (o_callL ca82 rfl (wire_Reader_Num.ok b0_ ra2.2 18446744073709551615 (Sum.inl ra14) hr12) (fun _ _ _ h => h))) ?_
        obtain ⟨r18, hr18, hm22⟩ := bs hm17
        clear hm17
        refine r_sw (s_w (o_call ca16 rfl (sketch_New.ok (i64 (ra2.1.toNat : Int)) ra14.1 r18 hr18))) ?_
        rintro _ R _ _ ⟨⟨pv20, g21⟩, rfl, rfl, rfl⟩
        refine r_u (o_mv rfl) ?_
        refine r_u (o_ext rfl rfl) ?_
        refine r_u (o_ext rfl rfl) ?_
        refine r_u (o_as rfl) ?_
        refine r_u (o_as rfl) ?_
        refine r_nil ?_
        refine x_seq ?_
        refine c_seq ?_
        obtain ⟨r23, hr23, hm24⟩ := bs hm22
        clear hm22
        rcases r23 with ra25 | ⟨rn26, ro27⟩
        · have hm28 := sm_l hm24
          clear hm24
          refine cd_opt (fun ho31 => ?_) (fun x29 b30 ho31 => ?_)
          · rintro rfl
            have hm32 := om_n hm28 ho31
            clear hm28
            cases hm32
          · rintro rfl
            have hm32 := om_s hm28 ho31
            clear hm28
            refine cd_st (fun _ h => st_star_o h) ?_
            refine c_reg ?_
            refine r_u (o_mv rfl) ?_
            refine r_u (o_mv rfl) ?_
            refine r_u (o_mv rfl) ?_
            refine r_u (o_bin rfl rfl (bI_mul 10 (i64 (ra2.1.toNat : Int)))) ?_
            refine r_u (o_cv rfl (cIW Tryz.underlying3 Tryz.underlying22 (i64 (10 * (i64 (ra2.1.toNat : Int)))))) ?_
            refine r_u (o_bin rfl rfl (bW_sub (toW (i64 (10 * (i64 (ra2.1.toNat : Int))))) 1)) ?_
            refine rl_st (fun _ h => mv3 h) ?_
            refine r_c (s_w (o_callL ca82 rfl (wire_Reader_Num.ok b0_ ra14.2 ((toW (i64 (10 * (i64 (ra2.1.toNat : Int))))) - 1) (Sum.inl ra25) hr23) (fun _ _ _ h => h))) ?_
            refine r_u (o_cv rfl (cWI Tryz.underlying22 Tryz.underlying3 ra25.1)) ?_
            refine r_u (o_nc rfl) ?_
            refine r_u (o_fa fa84_4 rfl) ?_
            refine rl_st (fun _ h => mv1 h) ?_
            refine r_u0 (o_st sc3 rfl rfl rfl rfl rfl rfl) ?_
            refine r_nil ?_
            refine x_seq ?_
            refine c_seq ?_
            refine c_seq ?_
            refine c_reg ?_
            refine r_u (o_mv rfl) ?_
            refine r_nil ?_
            refine x_seq ?_
            obtain ⟨p35, hp38, hm39⟩ := bs hm32
            refine cd_cut (fun x ks => ∀ (q36 : List (List UInt8) × Str), ∀ (_ : p35 = Sum.inl q36), ∀ (g37 : Value × Value × Value × Value), EX x .normal ks [(0, pt b0_ 0), (4, pt b30 0)] R (Bk b30 84 [vI x29.wide, vW x29.seed, g37.1, g37.2.1, g37.2.2.1, g37.2.2.2, g21.door, vI (i64 (ra25.1.toNat : Int))] :: Bk b0_ 128 [vS q36.2] :: OwS true 4 1 eB g21.door x29.door :: OwL (OwS false 5 1 eY) [g37.1, g37.2.1, g37.2.2.1, g37.2.2.2] q36.1 :: F)) ?_ fun K40 => ?_
            · intro q36 hq g37
              subst hq
              try dsimp only at hm39
              refine x_seq ?_
              refine c_seq ?_
              refine c_seq ?_
              refine c_reg ?_
              refine r_u (o_mv rfl) ?_
              refine r_u (o_nc rfl) ?_
              refine r_u (o_fa fa84_3 rfl) ?_
              refine r_u (o_ld 0 sc29 rfl rfl rfl) ?_
              refine r_u (o_lenO 2 Tryz.underlying29 rfl rfl) ?_
              refine r_u (o_mv rfl) ?_
              refine r_nil ?_
              refine x_seq ?_
              obtain ⟨p41, hp43, hm44⟩ := bs hm39
              refine cd_joinS (p := p41) (Ef := fun q42 => [(4, pt b30 0)]) (Lf := fun q42 => Bk b30 84 [vI x29.wide, vW x29.seed, g37.1, g37.2.1, g37.2.2.1, g37.2.2.2, g21.door, vI (i64 (ra25.1.toNat : Int))] :: Bk b0_ 128 [vS q42.1] :: OwS true 4 1 eB g21.door q42.2 :: OwL (OwS false 5 1 eY) [g37.1, g37.2.1, g37.2.2.1, g37.2.2.2] q36.1 :: F) (fun q42 hq => ?_) fun K45 => ?_
              · subst hq
                try dsimp only at hm44
                refine x_seq ?_
                refine c_seq ?_
                refine c_reg ?_
                refine r_u (o_mv rfl) ?_
                refine r_u (o_as rfl) ?_
                refine r_nil ?_
                refine x_seq ?_
                refine c_ret ?_
                refine ex_st (fun _ h => mv2 (mv3 (mv2 h))) ?_
                refine ex_st (fun _ h => st_some (f := sketch_Sketch.op (⟨g37, g21.door⟩ : sketch_Sketch.G)) (a := (⟨x29.wide, x29.seed, q36.1, q42.2, i64 (ra25.1.toNat : Int)⟩ : sketch_Sketch)) (st_star_f (A := sketch_Sketch.fl b30 (⟨x29.wide, x29.seed, q36.1, q42.2, i64 (ra25.1.toNat : Int)⟩ : sketch_Sketch) (⟨g37, g21.door⟩ : sketch_Sketch.G)) h)) ?_
                obtain rfl := Option.some.inj hm44
                exact x_r1 rfl (rv_t rfl) (Le.refl _) (.inl ⟨_, rfl, _, rfl, (pt b30 0, (⟨g37, g21.door⟩ : sketch_Sketch.G)), rfl, rfl, rfl⟩)
              · refine c_blk ?_
                refine cd_loop (M := fun k49 (s : Int × Str × List Bool) => sketch_Take_l0 x29 k49 s.1 s.2.1 s.2.2 = some p41) (Ef := fun (s : Int × Str × List Bool) => [(0, pt b0_ 0), (4, pt b30 0), (67, vI (x29.door.length : Int)), (68, vI s.1)]) (Lf := fun (s : Int × Str × List Bool) => Bk b30 84 [vI x29.wide, vW x29.seed, g37.1, g37.2.1, g37.2.2.1, g37.2.2.2, g21.door, vI (i64 (ra25.1.toNat : Int))] :: Bk b0_ 128 [vS s.2.1] :: OwS true 4 1 eB g21.door s.2.2 :: OwL (OwS false 5 1 eY) [g37.1, g37.2.1, g37.2.2.1, g37.2.2.2] q36.1 :: F) (((x29.door.length : Int) - 0).toNat + 1) (0, q36.2, x29.door) hp43 ⟨rfl, rfl, rfl, rfl, trivial⟩ (fun _ h => h) (fun _ h => by cases h) fun k49 s hM51 => ?_
                obtain ⟨s_46, c_47, c_48⟩ := s
                have hm50 : sketch_Take_l0 x29 (k49 + 1) s_46 c_47 c_48 = some p41 := hM51
                rw [sketch_Take_l0] at hm50
                refine c_seq ?_
                refine c_reg ?_
                refine r_u (o_bin rfl rfl (bI_lt s_46 (x29.door.length : Int))) ?_
                refine r_nil ?_
                refine x_seq ?_
                refine c_seq ?_
                refine c_if (b := decide (s_46 < (x29.door.length : Int))) rfl (fun h52 => ?_) fun h52 => ?_
                · have hm53 := ift hm50 h52
                  clear hm50
                  refine c_skip ?_
                  refine x_seq ?_
                  refine c_seq ?_
                  refine c_blk ?_
                  refine c_seq ?_
                  refine c_reg ?_
                  refine r_u (o_mv rfl) ?_
                  refine r_u (o_as rfl) ?_
                  refine r_nil ?_
                  refine x_seq ?_
                  obtain ⟨r54, hr54, hm55⟩ := bs hm53
                  clear hm53
                  rcases r54 with ra56 | ⟨rn57, ro58⟩
                  · have hm59 := sm_l hm55
                    clear hm55
                    obtain ⟨x60, hx60, hm61⟩ := bs hm59
                    clear hm59
                    refine c_any mixed (effs := [6, 8]) (V := []) ?_
                    refine stage_st (fun _ h => mv1 h) ?_
                    refine stage_ext [(0, pt b30 0), (1, pt b30 0), (2, pt b30 6), (3, g21.door), (4, vI s_46), (5, pt b0_ 0)] rfl ?_
                    refine stage rfl rfl rfl rfl [0, 1, 3, 7, 0, 0, 32, 127, 255] [0, 1, 2, 3, 4, 5] [6] rfl rfl rfl (qc rfl rfl (s_u (o_mv rfl)) (qc rfl rfl (s_u (o_nc rfl)) (qc rfl rfl (s_u (o_fa fa84_3 rfl)) (qc rfl rfl (s_u (o_ld 1 sc29 rfl rfl rfl)) (qc rfl rfl (s_u (o_mv rfl)) (qc rfl rfl (s_u (o_mv rfl)) qn)))))) ?_ (fun h => absurd h (by decide))
                    refine ec (eo_c rfl (s_w (o_callL ca97 rfl (wire_Reader_Flag.ok b0_ (⟨c_47⟩ : wire_Reader) (Sum.inl ra56) hr54) (fun _ _ _ h => h))) ?_) en
                    refine stage_st (fun _ h => mv2 h) ?_
                    refine stage_ext [(7, pt (sb g21.door) (so g21.door + s_46.toNat * 1))] rfl ?_
                    refine stage rfl rfl rfl rfl [0, 1, 3, 7, 0, 0, 32, 127, 255] [0, 1, 2, 3, 4, 7] [8] rfl rfl rfl (qc rfl rfl (s_u (o_mv rfl)) (qc rfl rfl (s_u (o_nc rfl)) (qc rfl rfl (s_u (o_fa fa84_3 rfl)) (qc rfl rfl (s_u (o_ld 2 sc29 rfl rfl rfl)) (qc rfl rfl (s_u (o_mv rfl)) (qc rfl rfl (s_u (o_ixO 0 Tryz.underlying29 (fun _ => by kernel_rfl) rfl rfl rfl hx60)) qn)))))) ?_ (fun h => absurd h (by decide))
                    refine ec (eo_u rfl (s_u (o_stO0 (c' := ra56.1) sc4 rfl rfl rfl hx60 rfl rfl rfl)) (Le.refl _) ?_) en
                    refine stage rfl rfl rfl rfl [0, 1, 3, 7, 0, 0, 32, 127, 255] [] [] rfl rfl rfl qn en ?_
                    intro _
                    refine ex_sub (E' := [(0, pt b0_ 0), (4, pt b30 0), (67, vI (x29.door.length : Int)), (68, vI s_46)]) ⟨rfl, rfl, rfl, rfl, trivial⟩ ?_
                    refine x_blk ?_
                    refine x_seq ?_
                    refine c_reg ?_
                    refine r_u (o_bin rfl rfl (bI_add s_46 1)) ?_
                    refine r_u (o_mv rfl) ?_
                    refine r_nil ?_
                    exact x_lp (i64 (s_46 + 1), ra56.2.s, ls c_48 s_46 ra56.1) hm61 ⟨rfl, rfl, rfl, rfl, trivial⟩ (fun _ h => st_pk 4 [2, 1, 0, 3] (by decide) h)
                  · have hm59 := sm_r hm55
                    clear hm55
                    refine c_any mixed (effs := [6]) (V := []) ?_
                    refine stage_st (fun _ h => mv1 h) ?_
                    refine stage_ext [(0, pt b30 0), (1, pt b30 0), (2, pt b30 6), (3, g21.door), (4, vI s_46), (5, pt b0_ 0)] rfl ?_
                    refine stage rfl rfl rfl rfl [0, 1, 3, 7, 0, 0, 32, 127, 255] [0, 1, 2, 3, 4, 5] [6] rfl rfl rfl (qc rfl rfl (s_u (o_mv rfl)) (qc rfl rfl (s_u (o_nc rfl)) (qc rfl rfl (s_u (o_fa fa84_3 rfl)) (qc rfl rfl (s_u (o_ld 1 sc29 rfl rfl rfl)) (qc rfl rfl (s_u (o_mv rfl)) (qc rfl rfl (s_u (o_mv rfl)) qn)))))) ?_ (fun h => absurd h (by decide))
                    obtain rfl := Option.some.inj hm59
                    try dsimp only at hm44
                    obtain rfl := Option.some.inj hm44
                    exact ec (eo_w rfl (s_w (o_callR ca97 rfl (wire_Reader_Flag.ok b0_ (⟨c_47⟩ : wire_Reader) (Sum.inr (rn57, ro58)) hr54) (by rintro _ _ _ ⟨rfl, rfl⟩; exact (px_st (fun _ h => st_pk 4 [0] (by decide) h) (px_of (Le.refl _) (.inr ⟨_, rfl, _, rfl, rfl, rfl⟩)))))) (fun _ _ _ _ h => h.elim)) en
                · have hm53 := iff_ hm50 h52
                  clear hm50
                  refine c_exit (x_exit (ks' := _) rfl ?_)
                  obtain rfl := Option.some.inj hm53
                  exact x_sub (K45 _ rfl) ⟨rfl, trivial⟩ (fun _ h => st_pk 4 [0, 1, 2, 3] (by decide) h)
            · refine c_blk ?_
              refine cd_loopG (M := fun k66 (s : Int × List (List UInt8) × Str × (Value × Value × Value × Value)) => sketch_Take_l1 ra2 k66 s.1 s.2.1 s.2.2.1 = some p35) (Ef := fun (s : Int × List (List UInt8) × Str × (Value × Value × Value × Value)) => [(0, pt b0_ 0), (3, vI (i64 (ra2.1.toNat : Int))), (4, pt b30 0), (34, vI s.1)]) (Rf := fun (s : Int × List (List UInt8) × Str × (Value × Value × Value × Value)) => R) (Lf := fun (s : Int × List (List UInt8) × Str × (Value × Value × Value × Value)) => Bk b30 84 [vI x29.wide, vW x29.seed, s.2.2.2.1, s.2.2.2.2.1, s.2.2.2.2.2.1, s.2.2.2.2.2.2, g21.door, vI (i64 (ra25.1.toNat : Int))] :: Bk b0_ 128 [vS s.2.2.1] :: OwS true 4 1 eB g21.door x29.door :: OwL (OwS false 5 1 eY) [s.2.2.2.1, s.2.2.2.2.1, s.2.2.2.2.2.1, s.2.2.2.2.2.2] s.2.1 :: F) 5 (0, x29.rows, ra25.2.s, g21.rows) hp38 ⟨rfl, rfl, rfl, rfl, trivial⟩ (fun _ h => st_pk 4 [0, 1, 3, 2] (by decide) h) (fun _ h => by cases h) fun k66 s hM68 => ?_
              obtain ⟨s_62, c_63, c_64, g65⟩ := s
              have hm67 : sketch_Take_l1 ra2 (k66 + 1) s_62 c_63 c_64 = some p35 := hM68
              rw [sketch_Take_l1] at hm67
              refine c_seq ?_
              refine c_reg ?_
              refine r_u (o_bin rfl rfl (bI_lt s_62 4)) ?_
              refine r_nil ?_
              refine x_seq ?_
              refine c_seq ?_
              refine c_if (b := decide (s_62 < 4)) rfl (fun h69 => ?_) fun h69 => ?_
              · have hm70 := ift hm67 h69
                clear hm67
                refine c_skip ?_
                refine x_seq ?_
                refine c_seq ?_
                obtain ⟨p71, hp74, hm75⟩ := bs hm70
                refine cd_cut (fun x ks => ∀ (q72 : List (List UInt8) × Str), ∀ (_ : p71 = Sum.inl q72), ∀ (g73 : Value × Value × Value × Value), EX x .normal ks [(0, pt b0_ 0), (3, vI (i64 (ra2.1.toNat : Int))), (4, pt b30 0), (34, vI s_62)] R (Bk b30 84 [vI x29.wide, vW x29.seed, g73.1, g73.2.1, g73.2.2.1, g73.2.2.2, g21.door, vI (i64 (ra25.1.toNat : Int))] :: Bk b0_ 128 [vS q72.2] :: OwS true 4 1 eB g21.door x29.door :: OwL (OwS false 5 1 eY) [g73.1, g73.2.1, g73.2.2.1, g73.2.2.2] q72.1 :: F)) ?_ fun K76 => ?_
                · intro q72 hq g73
                  subst hq
                  try dsimp only at hm75
                  refine x_seq ?_
                  refine c_reg ?_
                  refine r_u (o_bin rfl rfl (bI_add s_62 1)) ?_
                  refine r_u (o_mv rfl) ?_
                  refine r_nil ?_
                  exact x_lp (i64 (s_62 + 1), q72.1, q72.2, g73) hm75 ⟨rfl, rfl, rfl, rfl, trivial⟩ (fun _ h => st_pk 4 [0, 1, 2, 3] (by decide) h)
                · refine c_blk ?_
                  refine c_seq ?_
                  refine c_reg ?_
                  refine r_u (o_mv rfl) ?_
                  refine r_u (o_as rfl) ?_
                  refine r_nil ?_
                  refine x_seq ?_
                  refine c_seq ?_
                  obtain ⟨r77, hr77, hm78⟩ := bs hp74
                  clear hp74
                  rcases r77 with ra79 | ⟨rn80, ro81⟩
                  · have hm82 := sm_l hm78
                    clear hm78
                    obtain ⟨h83, hm85⟩ := ig hm82
                    clear hm82
                    obtain ⟨y86, hy86, hm88⟩ := bs hm85
                    clear hm85
                    refine cd_ex (fun w h => st_peek 3 hy86 rfl w h) fun u87 hu87 => ?_
                    refine c_any mixed (effs := [4, 5, 9]) (V := []) ?_
                    refine stage_st (fun _ h => mv1 h) ?_
                    refine stage_ext [(0, pt b30 0), (1, vI s_62), (2, pt b0_ 0), (3, vI (i64 (ra2.1.toNat : Int))), (6, pt b30 0), (7, pt b30 2)] rfl ?_
                    refine stage rfl rfl rfl rfl [0, 0, 0, 0, 12, 28, 1, 65, 255, 511] [0, 1, 2, 3, 6, 7] [4] rfl rfl rfl (qc rfl rfl (s_u (o_mv rfl)) (qc rfl rfl (s_u (o_mv rfl)) (qc rfl rfl (s_u (o_mv rfl)) (qc rfl rfl (s_u (o_mv rfl)) (qc rfl rfl (s_u (o_nc rfl)) (qc rfl rfl (s_u (o_fa fa84_2 rfl)) qn)))))) ?_ (fun h => absurd h (by decide))
                    refine ec (eo_c rfl (s_w (o_callL ca95 rfl (wire_Reader_Bytes.ok b0_ (⟨c_64⟩ : wire_Reader) (i64 (ra2.1.toNat : Int)) (Sum.inl ra79) hr77) (fun _ _ _ h => h))) ?_) en
                    refine stage rfl rfl rfl rfl [0, 0, 0, 0, 12, 28, 1, 65, 255, 511] [0, 1, 6, 7] [5] rfl rfl rfl (qc rfl rfl (s_u (o_mv rfl)) (qc rfl rfl (s_u (o_mv rfl)) (qc rfl rfl (s_u (o_nc rfl)) (qc rfl rfl (s_u (o_fa fa84_2 rfl)) qn)))) ?_ (fun h => absurd h (by decide))
                    refine ec (eo_w rfl (s_w (o_sb Tryz.underlying9 Tryz.underlying81 Tryz.underlying5 rfl h83)) ?_) en
                    rintro v84 R _ _ ⟨rfl, rfl⟩
                    refine stage_st (fun _ h => mv3 (mv4 h)) ?_
                    refine stage_ext [(8, pt b30 (2 + s_62.toNat * 1))] rfl ?_
                    refine stage rfl rfl rfl rfl [0, 0, 0, 0, 12, 28, 1, 65, 255, 511] [0, 1, 6, 7, 8] [9] rfl rfl rfl (qc rfl rfl (s_u (o_mv rfl)) (qc rfl rfl (s_u (o_mv rfl)) (qc rfl rfl (s_u (o_nc rfl)) (qc rfl rfl (s_u (o_fa fa84_2 rfl)) (qc rfl rfl (s_u (o_ixA (sz := 1) Tryz.underlying82 (fun _ => by kernel_rfl) rfl rfl (gi_some hu87).1)) qn))))) ?_ (fun h => absurd h (by decide))
                    refine ec (eo_w rfl (s_w (ow_if (one_o 2 rfl) fun ho => o_stA4 (A := [vI x29.wide, vW x29.seed]) (B := [g21.door, vI (i64 (ra25.1.toNat : Int))]) hy86 hu87 sc81 rfl rfl rfl ho)) ?_) en
                    rintro _ R _ _ ⟨p89, p90, p91, p92, rfl, rfl, rfl⟩
                    refine stage rfl rfl rfl rfl [0, 0, 0, 0, 12, 28, 1, 65, 255, 511] [] [] rfl rfl rfl qn en ?_
                    intro _
                    refine ex_sub (E' := [(0, pt b0_ 0), (3, vI (i64 (ra2.1.toNat : Int))), (4, pt b30 0), (34, vI s_62), (6, vI s_62)]) ⟨rfl, rfl, rfl, rfl, rfl, trivial⟩ ?_
                    refine x_seq ?_
                    refine c_seq ?_
                    refine c_reg ?_
                    refine r_u (o_mv rfl) ?_
                    refine r_u (o_mv rfl) ?_
                    refine r_u (o_nc rfl) ?_
                    refine r_u (o_fa fa84_2 rfl) ?_
                    obtain ⟨y93, hy93, hm95⟩ := bs hm88
                    clear hm88
                    refine rl_ex (fun w h => st_peek 1 hy93 rfl w h) fun u94 hu94 => ?_
                    refine r_u (o_ixA (sz := 1) Tryz.underlying82 (fun _ => by kernel_rfl) rfl rfl (gi_some hu94).1) ?_
                    refine r_u (o_ldA (o := 2) (n := 4) 0 sc81 rfl rfl hu94) ?_
                    refine r_u (o_lenK (kn_in 1 rfl hu94 hy93) Tryz.underlying81 rfl) ?_
                    refine r_u (o_mv rfl) ?_
                    refine r_nil ?_
                    refine x_seq ?_
                    obtain ⟨p96, hp98, hm99⟩ := bs hm95
                    refine cd_joinS (p := p96) (Ef := fun q97 => [(0, pt b0_ 0), (3, vI (i64 (ra2.1.toNat : Int))), (4, pt b30 0), (34, vI s_62)]) (Lf := fun q97 => Bk b30 84 [vI x29.wide, vW x29.seed, p89, p90, p91, p92, g21.door, vI (i64 (ra25.1.toNat : Int))] :: Bk b0_ 128 (wire_Reader.c ra79.2) :: OwL (OwS false 5 1 eY) [p89, p90, p91, p92] (ls c_63 s_62 ra79.1) :: OwS true 4 1 eB g21.door x29.door :: F) (fun q97 hq => ?_) fun K100 => ?_
                    · subst hq
                      try dsimp only at hm99
                      refine x_blk ?_
                      obtain rfl := Option.some.inj hm99
                      exact x_sub (K76 _ rfl (p89, p90, p91, p92)) ⟨rfl, rfl, rfl, rfl, trivial⟩ (fun _ h => st_pk 4 [0, 1, 3, 2] (by decide) h)
                    · refine c_blk ?_
                      refine cd_loop (M := fun k102 (s_101 : Int) => sketch_Take_l2 ra79 y93 k102 s_101 = some p96) (Ef := fun (s_101 : Int) => [(0, pt b0_ 0), (3, vI (i64 (ra2.1.toNat : Int))), (4, pt b30 0), (34, vI s_62), (51, u94), (52, vI (y93.length : Int)), (53, vI s_101)]) (Lf := fun (s_101 : Int) => Bk b30 84 [vI x29.wide, vW x29.seed, p89, p90, p91, p92, g21.door, vI (i64 (ra25.1.toNat : Int))] :: Bk b0_ 128 (wire_Reader.c ra79.2) :: OwL (OwS false 5 1 eY) [p89, p90, p91, p92] (ls c_63 s_62 ra79.1) :: OwS true 4 1 eB g21.door x29.door :: F) (((y93.length : Int) - 0).toNat + 1) 0 hp98 ⟨rfl, rfl, rfl, rfl, rfl, rfl, rfl, trivial⟩ (fun _ h => st_pk 4 [0, 2, 1, 3] (by decide) h) (fun _ h => by cases h) fun k102 s_101 hM104 => ?_
                      have hm103 : sketch_Take_l2 ra79 y93 (k102 + 1) s_101 = some p96 := hM104
                      rw [sketch_Take_l2] at hm103
                      refine c_seq ?_
                      refine c_reg ?_
                      refine r_u (o_bin rfl rfl (bI_lt s_101 (y93.length : Int))) ?_
                      refine r_nil ?_
                      refine x_seq ?_
                      refine c_seq ?_
                      refine c_if (b := decide (s_101 < (y93.length : Int))) rfl (fun h105 => ?_) fun h105 => ?_
                      · have hm106 := ift hm103 h105
                        clear hm103
                        refine c_skip ?_
                        refine x_seq ?_
                        refine c_seq ?_
                        refine c_blk ?_
                        refine c_seq ?_
                        refine c_reg ?_
                        obtain ⟨x107, hx107, hm108⟩ := bs hm106
                        clear hm106
                        refine r_u (o_ixK (kn_in 2 rfl hu94 hy93) Tryz.underlying81 (fun _ => by kernel_rfl) rfl rfl hx107) ?_
                        refine r_u (o_ldK (kn_in 2 rfl hu94 hy93) 0 sc5 rfl hx107 rfl rfl) ?_
                        refine r_u (o_as rfl) ?_
                        refine r_nil ?_
                        refine x_seq ?_
                        obtain ⟨r109, hr109, hm110⟩ := ltx hm108
                        clear hm108
                        rcases r109 with ra111 | ⟨rn112, ro113⟩
                        · have hm114 := sm_l hm110
                          clear hm110
                          refine c_reg ?_
                          refine r_u (o_mv rfl) ?_
                          refine r_u (o_mv rfl) ?_
                          refine r_u (o_bin rfl rfl (bY_le x107 15)) ?_
                          refine rl_st (fun _ h => mv1 h) ?_
                          refine r_c (s_w (o_callL ca83 rfl (wire_Reader_Must.ok b0_ ra79.2 (decide (x107 ≤ 15)) (Sum.inl ra111) hr109) (fun _ _ _ h => h))) ?_
                          refine r_nil ?_
                          refine x_blk ?_
                          refine x_seq ?_
                          refine c_reg ?_
                          refine r_u (o_bin rfl rfl (bI_add s_101 1)) ?_
                          refine r_u (o_mv rfl) ?_
                          refine r_nil ?_
                          exact x_lp (i64 (s_101 + 1)) hm114 ⟨rfl, rfl, rfl, rfl, rfl, rfl, rfl, trivial⟩ (fun _ h => st_pk 4 [1, 0, 2, 3] (by decide) h)
                        · have hm114 := sm_r hm110
                          clear hm110
                          refine c_reg ?_
                          refine r_u (o_mv rfl) ?_
                          refine r_u (o_mv rfl) ?_
                          refine r_u (o_bin rfl rfl (bY_le x107 15)) ?_
                          refine rl_st (fun _ h => mv1 h) ?_
                          obtain rfl := Option.some.inj hm114
                          try dsimp only at hm99
                          obtain rfl := Option.some.inj hm99
                          try dsimp only at hm75
                          obtain rfl := Option.some.inj hm75
                          try dsimp only at hm39
                          obtain rfl := Option.some.inj hm39
                          exact r_sw (s_w (o_callR ca83 rfl (wire_Reader_Must.ok b0_ ra79.2 (decide (x107 ≤ 15)) (Sum.inr (rn112, ro113)) hr109) (by rintro _ _ _ ⟨rfl, rfl⟩; exact (px_st (fun _ h => st_pk 4 [0] (by decide) h) (px_of (Le.refl _) (.inr ⟨_, rfl, _, rfl, rfl, rfl⟩)))))) (fun _ _ _ _ h => h.elim)
                      · have hm106 := iff_ hm103 h105
                        clear hm103
                        refine c_exit (x_exit (ks' := _) rfl ?_)
                        obtain rfl := Option.some.inj hm106
                        exact x_sub (K100 _ rfl) ⟨rfl, rfl, rfl, rfl, trivial⟩ (fun _ h => st_pk 4 [0, 1, 2, 3] (by decide) h)
                  · have hm82 := sm_r hm78
                    clear hm78
                    refine c_any mixed (effs := [4]) (V := []) ?_
                    refine stage_st (fun _ h => mv1 h) ?_
                    refine stage_ext [(0, pt b30 0), (1, vI s_62), (2, pt b0_ 0), (3, vI (i64 (ra2.1.toNat : Int))), (6, pt b30 0), (7, pt b30 2)] rfl ?_
                    refine stage rfl rfl rfl rfl [0, 0, 0, 0, 12, 28, 1, 65, 255, 511] [0, 1, 2, 3, 6, 7] [4] rfl rfl rfl (qc rfl rfl (s_u (o_mv rfl)) (qc rfl rfl (s_u (o_mv rfl)) (qc rfl rfl (s_u (o_mv rfl)) (qc rfl rfl (s_u (o_mv rfl)) (qc rfl rfl (s_u (o_nc rfl)) (qc rfl rfl (s_u (o_fa fa84_2 rfl)) qn)))))) ?_ (fun h => absurd h (by decide))
                    obtain rfl := Option.some.inj hm82
                    try dsimp only at hm75
                    obtain rfl := Option.some.inj hm75
                    try dsimp only at hm39
                    obtain rfl := Option.some.inj hm39
                    exact ec (eo_w rfl (s_w (o_callR ca95 rfl (wire_Reader_Bytes.ok b0_ (⟨c_64⟩ : wire_Reader) (i64 (ra2.1.toNat : Int)) (Sum.inr (rn80, ro81)) hr77) (by rintro _ _ _ ⟨rfl, rfl⟩; exact (px_st (fun _ h => st_pk 4 [0] (by decide) h) (px_of (Le.refl _) (.inr ⟨_, rfl, _, rfl, rfl, rfl⟩)))))) (fun _ _ _ _ h => h.elim)) en
              · have hm70 := iff_ hm67 h69
                clear hm67
                refine c_exit (x_exit (ks' := _) rfl ?_)
                obtain rfl := Option.some.inj hm70
                exact x_sub (K40 _ rfl g65) ⟨rfl, rfl, trivial⟩ (fun _ h => st_pk 4 [0, 1, 2, 3] (by decide) h)
        · have hm28 := sm_r hm24
          clear hm24
          refine c_reg ?_
          refine r_u (o_mv rfl) ?_
          refine r_u (o_mv rfl) ?_
          refine r_u (o_mv rfl) ?_
          refine r_u (o_bin rfl rfl (bI_mul 10 (i64 (ra2.1.toNat : Int)))) ?_
          refine r_u (o_cv rfl (cIW Tryz.underlying3 Tryz.underlying22 (i64 (10 * (i64 (ra2.1.toNat : Int)))))) ?_
          refine r_u (o_bin rfl rfl (bW_sub (toW (i64 (10 * (i64 (ra2.1.toNat : Int))))) 1)) ?_
          refine rl_st (fun _ h => mv1 h) ?_
          obtain rfl := Option.some.inj hm28
          exact r_sw (s_w (o_callR ca82 rfl (wire_Reader_Num.ok b0_ ra14.2 ((toW (i64 (10 * (i64 (ra2.1.toNat : Int))))) - 1) (Sum.inr (rn26, ro27)) hr23) (by rintro _ _ _ ⟨rfl, rfl⟩; exact (px_st (fun _ h => st_pk 2 [0] (by decide) h) (px_of (Le.refl _) (.inr ⟨_, rfl, _, rfl, rfl, rfl⟩)))))) (fun _ _ _ _ h => h.elim)
      · have hm17 := sm_r hm13
        clear hm13
        refine c_reg ?_
        refine r_u (o_mv rfl) ?_
        refine r_u (o_mv rfl) ?_
        obtain rfl := Option.some.inj hm17
        exact r_sw (s_w (o_callR ca82 rfl (wire_Reader_Num.ok b0_ ra2.2 18446744073709551615 (Sum.inr (rn15, ro16)) hr12) (by rintro _ _ _ ⟨rfl, rfl⟩; exact (px_st (fun _ h => st_pk 1 [0] (by decide) h) (px_of (Le.refl _) (.inr ⟨_, rfl, _, rfl, rfl, rfl⟩)))))) (fun _ _ _ _ h => h.elim)
    · have hm11 := sm_r hm7
      clear hm7
      refine c_reg ?_
      refine r_u (o_mv rfl) ?_
      refine r_u (o_mv rfl) ?_
      refine r_u (o_bin rfl rfl (bI_ge (i64 (ra2.1.toNat : Int)) 1)) ?_
      obtain rfl := Option.some.inj hm11
      exact r_sw (s_w (o_callR ca83 rfl (wire_Reader_Must.ok b0_ ra2.2 (decide (1 ≤ (i64 (ra2.1.toNat : Int)))) (Sum.inr (rn9, ro10)) hr6) (by rintro _ _ _ ⟨rfl, rfl⟩; exact (px_st (fun _ h => st_pk 1 [0] (by decide) h) (px_of (Le.refl _) (.inr ⟨_, rfl, _, rfl, rfl, rfl⟩)))))) (fun _ _ _ _ h => h.elim)
  · have hm5 := sm_r hm1
    clear hm1
    refine c_reg ?_
    refine r_u (o_mv rfl) ?_
    obtain rfl := Option.some.inj hm5
    exact r_sw (s_w (o_callR ca82 rfl (wire_Reader_Num.ok b0_ a0 4096 (Sum.inr (rn3, ro4)) hr0) (by rintro _ _ _ ⟨rfl, rfl⟩; exact (px_st (fun _ h => st_pk 1 [0] (by decide) h) (px_of (Le.refl _) (.inr ⟨_, rfl, _, rfl, rfl, rfl⟩)))))) (fun _ _ _ _ h => h.elim)

def sketch_Sketch_Wide (a0 : sketch_Sketch) : Int :=
  a0.wide
theorem sketch_Sketch_Wide.ok {G R F} (b0_ : Nat) (a0 : sketch_Sketch) (g0_ : sketch_Sketch.G) (r : Int) (hm : sketch_Sketch_Wide a0 = r) : CO Tryz.prog 85 [pt b0_ 0] G R (Bk b0_ 84 [vI a0.wide, vW a0.seed, g0_.rows.1, g0_.rows.2.1, g0_.rows.2.2.1, g0_.rows.2.2.2, g0_.door, vI a0.added] :: OwL (OwS false 5 1 eY) [g0_.rows.1, g0_.rows.2.1, g0_.rows.2.2.1, g0_.rows.2.2.2] a0.rows :: OwS true 4 1 eB g0_.door a0.door :: F)
    (Ret fun u R' L' => u = vI r ∧ R' = R ∧ L' = Bk b0_ 84 [vI a0.wide, vW a0.seed, g0_.rows.1, g0_.rows.2.1, g0_.rows.2.2.1, g0_.rows.2.2.2, g0_.door, vI a0.added] :: OwL (OwS false 5 1 eY) [g0_.rows.1, g0_.rows.2.1, g0_.rows.2.2.1, g0_.rows.2.2.2] a0.rows :: OwS true 4 1 eB g0_.door a0.door :: F) := by
  unfold sketch_Sketch_Wide at hm
  refine co_ofN (N := 9) Tryz.func85 rfl rfl ?_
  refine c_seq ?_
  refine c_reg ?_
  refine r_u (o_as rfl) ?_
  refine r_nil ?_
  refine x_seq ?_
  refine c_seq ?_
  refine c_seq ?_
  refine c_reg ?_
  refine r_u (o_mv rfl) ?_
  refine r_u (o_bin rfl rfl (bP_eqp Tryz.underlying49)) ?_
  refine r_nil ?_
  refine x_seq ?_
  refine c_ff rfl ?_
  refine c_skip ?_
  refine x_seq ?_
  refine c_seq ?_
  refine c_reg ?_
  refine r_u (o_mv rfl) ?_
  refine r_u (o_nc rfl) ?_
  refine r_u (o_fa fa84_0 rfl) ?_
  refine r_u (o_ld 0 sc3 rfl rfl rfl) ?_
  refine r_u (o_as rfl) ?_
  refine r_nil ?_
  refine x_seq ?_
  refine c_ret ?_
  subst hm
  exact x_r1 rfl (rv_t rfl) (Le.refl _) ⟨_, rfl, rfl, rfl, rfl⟩

def wire_Reader_Text (a0 : wire_Reader) (a1 : Int) : Option ((Str × wire_Reader) ⊕ (Int × wire_Reader)) :=
  (wire_Reader_Num a0 (toW (if a1 < 0 then 0 else a1))).bind fun r0 => sm r0 (fun (ra2 : UInt64 × wire_Reader) => (wire_Reader_Bytes ra2.2 (i64 (ra2.1.toNat : Int))).bind fun r6 => sm r6 (fun (ra8 : Str × wire_Reader) => some (Sum.inl (ra8.1, ra8.2))) fun ((rn9, ro10) : Int × wire_Reader) => some (Sum.inr (rn9, ro10))) fun ((rn3, ro4) : Int × wire_Reader) => some (Sum.inr (rn3, ro4))
theorem wire_Reader_Text.ok {G R F} (b0_ : Nat) (a0 : wire_Reader) (a1 : Int) (r : (Str × wire_Reader) ⊕ (Int × wire_Reader)) (hm : wire_Reader_Text a0 a1 = some r) : CO Tryz.prog 98 [pt b0_ 0, vI a1] G R (Bk b0_ 128 (wire_Reader.c a0) :: F)
    (PK 126 r (fun (a : Str × wire_Reader) u R' L' => u = vS a.1 ∧ R' = R ∧ L' = Bk b0_ 128 (wire_Reader.c a.2) :: F) (fun n (o : wire_Reader) R' L' => R' = R ∧ L' = Bk b0_ 128 (wire_Reader.c o) :: F)) := by
  unfold wire_Reader_Text at hm
  refine co_ofN (N := 13) Tryz.func98 rfl rfl ?_
  refine c_seq ?_
  refine c_reg ?_
  refine r_u (o_as rfl) ?_
  refine r_nil ?_
  refine x_seq ?_
  refine c_seq ?_
  obtain ⟨r0, hr0, hm1⟩ := bs hm
  clear hm
  rcases r0 with ra2 | ⟨rn3, ro4⟩
  · have hm5 := sm_l hm1
    clear hm1
    obtain ⟨r6, hr6, hm7⟩ := bs hm5
    clear hm5
    rcases r6 with ra8 | ⟨rn9, ro10⟩
    · have hm11 := sm_l hm7
      clear hm7
      refine c_reg ?_
      refine r_u (o_mv rfl) ?_
      refine r_u (o_mv rfl) ?_
      refine r_u (o_mv rfl) ?_
      refine r_u (o_maxI rfl rfl) ?_
      refine r_u (o_cv rfl (cIW Tryz.underlying3 Tryz.underlying22 (if a1 < 0 then 0 else a1))) ?_
      refine r_c (s_w (o_callL ca82 rfl (wire_Reader_Num.ok b0_ a0 (toW (if a1 < 0 then 0 else a1)) (Sum.inl ra2) hr0) (fun _ _ _ h => h))) ?_
      refine r_u (o_cv rfl (cWI Tryz.underlying22 Tryz.underlying3 ra2.1)) ?_
      refine r_c (s_w (o_callL ca95 rfl (wire_Reader_Bytes.ok b0_ ra2.2 (i64 (ra2.1.toNat : Int)) (Sum.inl ra8) hr6) (fun _ _ _ h => h))) ?_
      refine r_u (o_as rfl) ?_
      refine r_nil ?_
      refine x_seq ?_
      refine c_ret ?_
      obtain rfl := Option.some.inj hm11
      exact x_r1 rfl (rv_t rfl) (Le.refl _) (.inl ⟨_, rfl, _, rfl, rfl, rfl, rfl⟩)
    · have hm11 := sm_r hm7
      clear hm7
      refine c_reg ?_
      refine r_u (o_mv rfl) ?_
      refine r_u (o_mv rfl) ?_
      refine r_u (o_mv rfl) ?_
      refine r_u (o_maxI rfl rfl) ?_
      refine r_u (o_cv rfl (cIW Tryz.underlying3 Tryz.underlying22 (if a1 < 0 then 0 else a1))) ?_
      refine r_c (s_w (o_callL ca82 rfl (wire_Reader_Num.ok b0_ a0 (toW (if a1 < 0 then 0 else a1)) (Sum.inl ra2) hr0) (fun _ _ _ h => h))) ?_
      refine r_u (o_cv rfl (cWI Tryz.underlying22 Tryz.underlying3 ra2.1)) ?_
      obtain rfl := Option.some.inj hm11
      exact r_sw (s_w (o_callR ca95 rfl (wire_Reader_Bytes.ok b0_ ra2.2 (i64 (ra2.1.toNat : Int)) (Sum.inr (rn9, ro10)) hr6) (by rintro _ _ _ ⟨rfl, rfl⟩; exact (px_st (fun _ h => st_pk 1 [0] (by decide) h) (px_of (Le.refl _) (.inr ⟨_, rfl, _, rfl, rfl, rfl⟩)))))) (fun _ _ _ _ h => h.elim)
  · have hm5 := sm_r hm1
    clear hm1
    refine c_reg ?_
    refine r_u (o_mv rfl) ?_
    refine r_u (o_mv rfl) ?_
    refine r_u (o_mv rfl) ?_
    refine r_u (o_maxI rfl rfl) ?_
    refine r_u (o_cv rfl (cIW Tryz.underlying3 Tryz.underlying22 (if a1 < 0 then 0 else a1))) ?_
    obtain rfl := Option.some.inj hm5
    exact r_sw (s_w (o_callR ca82 rfl (wire_Reader_Num.ok b0_ a0 (toW (if a1 < 0 then 0 else a1)) (Sum.inr (rn3, ro4)) hr0) (by rintro _ _ _ ⟨rfl, rfl⟩; exact (px_st (fun _ h => st_pk 1 [0] (by decide) h) (px_of (Le.refl _) (.inr ⟨_, rfl, _, rfl, rfl, rfl⟩)))))) (fun _ _ _ _ h => h.elim)

def ring_Take_l1 (q57 : List Str × Str) (s_32 : Int) : Nat → (Option ring_Rings) → Int → Option ((Option ring_Rings) ⊕ ((Option ring_Rings × Str) ⊕ ((Option ring_Rings × Str) ⊕ ((Option ring_Rings × wire_Reader) ⊕ (Int × wire_Reader)))))
  | 0, _, _ => none
  | k75 + 1, out_70, k_71 => if decide (0 ≤ k_71) then (gi q57.1 k_71).bind fun x80 => om out_70 (none) fun x82 => (ring_Rings_In x82 x80).bind fun r90 => Option.bind (if r90.2 then lt (wire_Reader_Must (⟨q57.2⟩ : wire_Reader) false) fun r104 => sm r104 (fun (ra106 : Unit) => some (Sum.inl x82)) fun ((rn107, ro108) : Int × Unit) => some (Sum.inr (Sum.inr (Sum.inr (Sum.inr (Sum.inr (rn107, (⟨q57.2⟩ : wire_Reader))))))) else (ring_Rings_Front x82 s_32 x80).bind fun r110 => lt (wire_Reader_Must (⟨q57.2⟩ : wire_Reader) r110.1) fun r117 => sm r117 (fun (ra119 : Unit) => some (Sum.inl r110.2)) fun ((rn120, ro121) : Int × Unit) => some (Sum.inr (Sum.inr (Sum.inr (Sum.inr (Sum.inr (rn120, (⟨q57.2⟩ : wire_Reader)))))))) fun (p92 : ring_Rings ⊕ ((Option ring_Rings) ⊕ ((Option ring_Rings × Str) ⊕ ((Option ring_Rings × Str) ⊕ ((Option ring_Rings × wire_Reader) ⊕ (Int × wire_Reader)))))) => (match p92 with | Sum.inl q93 => ring_Take_l1 q57 s_32 k75 (some q93) (i64 (k_71 - 1)) | Sum.inr r => some r) else some (Sum.inl out_70)
def ring_Take_l2  : Nat → (List Str) → UInt64 → Str → Option ((List Str × Str) ⊕ ((Option ring_Rings × Str) ⊕ ((Option ring_Rings × Str) ⊕ ((Option ring_Rings × wire_Reader) ⊕ (Int × wire_Reader)))))
  | 0, _, _, _ => none
  | k137 + 1, keys_133, n_134, c_135 => if decide (0 < n_134) then (wire_Reader_Text (⟨c_135⟩ : wire_Reader) 64).bind fun r142 => sm r142 (fun (ra144 : Str × wire_Reader) => (apd 16 keys_133 [ra144.1]).bind fun l150 => ring_Take_l2 k137 l150 (n_134 - 1) ra144.2.s) fun ((rn145, ro146) : Int × wire_Reader) => some (Sum.inr (Sum.inr (Sum.inr (Sum.inr (rn145, ro146))))) else some (Sum.inl (keys_133, c_135))
def ring_Take_l0 (ra2 : UInt64 × wire_Reader) (ra8 : UInt64 × wire_Reader) : Nat → (Option ring_Rings) → Int → Str → Option ((Option ring_Rings × Str) ⊕ ((Option ring_Rings × wire_Reader) ⊕ (Int × wire_Reader)))
  | 0, _, _, _ => none
  | k37 + 1, out_31, s_32, c_33 => if decide (s_32 < (i64 (ra2.1.toNat : Int))) then Option.bind ((wire_Reader_Num (⟨c_33⟩ : wire_Reader) (toW (i64 (ra8.1.toNat : Int)))).bind fun r50 => sm r50 (fun (ra52 : UInt64 × wire_Reader) => Option.bind (ring_Take_l2 ((ra52.1).toNat + 1) [] ra52.1 ra52.2.s) fun (p56 : (List Str × Str) ⊕ ((Option ring_Rings × Str) ⊕ ((Option ring_Rings × Str) ⊕ ((Option ring_Rings × wire_Reader) ⊕ (Int × wire_Reader))))) => (match p56 with | Sum.inl q57 => Option.bind (ring_Take_l1 q57 s_32 (((i64 ((q57.1.length : Int) - 1)) + 1).toNat + 1) out_31 (i64 ((q57.1.length : Int) - 1))) fun (p62 : (Option ring_Rings) ⊕ ((Option ring_Rings × Str) ⊕ ((Option ring_Rings × Str) ⊕ ((Option ring_Rings × wire_Reader) ⊕ (Int × wire_Reader))))) => (match p62 with | Sum.inl q63 => some (Sum.inl (q63, q57.2)) | Sum.inr r => some r) | Sum.inr r => some r)) fun ((rn53, ro54) : Int × wire_Reader) => some (Sum.inr (Sum.inr (Sum.inr (rn53, ro54))))) fun (p42 : (Option ring_Rings × Str) ⊕ ((Option ring_Rings × Str) ⊕ ((Option ring_Rings × wire_Reader) ⊕ (Int × wire_Reader)))) => (match p42 with | Sum.inl q43 => ring_Take_l0 ra2 ra8 k37 q43.1 (i64 (s_32 + 1)) q43.2 | Sum.inr r => some r) else some (Sum.inl (out_31, c_33))
def ring_Take (a0 : wire_Reader) : Option ((Option ring_Rings × wire_Reader) ⊕ (Int × wire_Reader)) :=
  (wire_Reader_Num a0 8).bind fun r0 => sm r0 (fun (ra2 : UInt64 × wire_Reader) => (wire_Reader_Num ra2.2 4096).bind fun r6 => sm r6 (fun (ra8 : UInt64 × wire_Reader) => (ring_New (i64 (ra2.1.toNat : Int)) (i64 (ra8.1.toNat : Int))).bind fun r12 => lt (wire_Reader_Must ra8.2 (r12.2 == 0)) fun r17 => sm r17 (fun (ra19 : Unit) => Option.bind (ring_Take_l0 ra2 ra8 (((i64 (ra2.1.toNat : Int)) - 0).toNat + 1) r12.1 0 ra8.2.s) fun (p23 : (Option ring_Rings × Str) ⊕ ((Option ring_Rings × wire_Reader) ⊕ (Int × wire_Reader))) => (match p23 with | Sum.inl q24 => some (Sum.inl (q24.1, (⟨q24.2⟩ : wire_Reader))) | Sum.inr r => some r)) fun ((rn20, ro21) : Int × Unit) => some (Sum.inr (rn20, ra8.2))) fun ((rn9, ro10) : Int × wire_Reader) => some (Sum.inr (rn9, ro10))) fun ((rn3, ro4) : Int × wire_Reader) => some (Sum.inr (rn3, ro4))
theorem ring_Take.ok {G R F} (b0_ : Nat) (a0 : wire_Reader) (r : (Option ring_Rings × wire_Reader) ⊕ (Int × wire_Reader)) (hm : ring_Take a0 = some r) : CO Tryz.prog 86 [pt b0_ 0] G R (Bk b0_ 128 (wire_Reader.c a0) :: F)
    (PK 126 r (fun (a : Option ring_Rings × wire_Reader) u R' L' => ∃ (p0 : Value × ring_Rings.G), u = p0.1 ∧ R' = R ∧ L' = rO (ring_Rings.op p0.2) p0.1 a.1 :: Bk b0_ 128 (wire_Reader.c a.2) :: F) (fun n (o : wire_Reader) R' L' => R' = R ∧ L' = Bk b0_ 128 (wire_Reader.c o) :: F)) := by
  unfold ring_Take at hm
  refine co_ofN (N := 77) Tryz.func86 rfl rfl ?_
  refine c_seq ?_
  refine c_reg ?_
  refine r_u (o_as rfl) ?_
  refine r_nil ?_
  refine x_seq ?_
  refine c_seq ?_
  obtain ⟨r0, hr0, hm1⟩ := bs hm
  clear hm
  rcases r0 with ra2 | ⟨rn3, ro4⟩
  · have hm5 := sm_l hm1
    clear hm1
    obtain ⟨r6, hr6, hm7⟩ := bs hm5
    clear hm5
    rcases r6 with ra8 | ⟨rn9, ro10⟩
    · have hm11 := sm_l hm7
      clear hm7
      refine c_reg ?_
      refine r_u (o_mv rfl) ?_
      refine r_c (s_w (o_callL ca82 rfl (wire_Reader_Num.ok b0_ a0 8 (Sum.inl ra2) hr0) (fun _ _ _ h => h))) ?_
      refine r_u (o_cv rfl (cWI Tryz.underlying22 Tryz.underlying3 ra2.1)) ?_
      refine r_u (o_mv rfl) ?_
      refine r_c (s_w (o_callL ca82 rfl (wire_Reader_Num.ok b0_ ra2.2 4096 (Sum.inl ra8) hr6) (fun _ _ _ h => h))) ?_
      refine r_u (o_cv rfl (cWI Tryz.underlying22 Tryz.underlying3 ra8.1)) ?_
      refine r_u (o_as rfl) ?_
      refine r_u (o_as rfl) ?_
      refine r_nil ?_
      refine x_seq ?_
      refine c_seq ?_
      refine c_reg ?_
      refine r_u (o_mv rfl) ?_
      refine r_u (o_mv rfl) ?_
      obtain ⟨r12, hr12, hm16⟩ := bs hm11
      clear hm11
      refine r_sw (s_w (o_call ca18 rfl (ring_New.ok (i64 (ra2.1.toNat : Int)) (i64 (ra8.1.toNat : Int)) r12 hr12))) ?_
      rintro _ R _ _ ⟨⟨pv14, g15⟩, rfl, rfl, rfl⟩
      refine r_u (o_mv rfl) ?_
      refine r_u (o_ext rfl rfl) ?_
      refine r_u (o_ext rfl rfl) ?_
      refine r_u (o_as rfl) ?_
      refine r_u (o_as rfl) ?_
      refine r_nil ?_
      refine x_seq ?_
      refine c_seq ?_
      obtain ⟨r17, hr17, hm18⟩ := ltx hm16
      clear hm16
      rcases r17 with ra19 | ⟨rn20, ro21⟩
      · have hm22 := sm_l hm18
        clear hm18
        refine c_reg ?_
        refine r_u (o_mv rfl) ?_
        refine r_u (o_mv rfl) ?_
        refine r_u (o_bin rfl rfl (bI_eq r12.2 0)) ?_
        refine rl_st (fun _ h => mv1 h) ?_
        refine r_c (s_w (o_callL ca83 rfl (wire_Reader_Must.ok b0_ ra8.2 (r12.2 == 0) (Sum.inl ra19) hr17) (fun _ _ _ h => h))) ?_
        refine r_nil ?_
        refine x_seq ?_
        refine c_seq ?_
        refine c_seq ?_
        refine c_reg ?_
        refine r_u (o_mv rfl) ?_
        refine r_u (o_mv rfl) ?_
        refine r_nil ?_
        refine x_seq ?_
        obtain ⟨p23, hp28, hm29⟩ := bs hm22
        refine cd_cut (fun x ks => ∀ (q24 : Option ring_Rings × Str), ∀ (_ : p23 = Sum.inl q24), ∀ (pv25 : Value × ring_Rings.G), EX x .normal ks [(5, pv25.1)] R (Bk b0_ 128 [vS q24.2] :: rO (ring_Rings.op pv25.2) pv25.1 q24.1 :: F)) ?_ fun K30 => ?_
        · intro q24 hq pv25
          subst hq
          try dsimp only at hm29
          obtain ⟨pv26, g27⟩ := pv25
          refine x_seq ?_
          refine c_seq ?_
          refine c_reg ?_
          refine r_u (o_mv rfl) ?_
          refine r_u (o_as rfl) ?_
          refine r_nil ?_
          refine x_seq ?_
          refine c_ret ?_
          obtain rfl := Option.some.inj hm29
          refine ex_st (fun _ h => st_pk 2 [1, 0] (by decide) h) ?_
          exact x_r1 rfl (rv_t rfl) (Le.refl _) (.inl ⟨_, rfl, _, rfl, (pv26, g27), rfl, rfl, rfl⟩)
        · refine c_blk ?_
          refine cd_loopG (M := fun k37 (s : Option ring_Rings × Int × Str × (Value × ring_Rings.G)) => ring_Take_l0 ra2 ra8 k37 s.1 s.2.1 s.2.2.1 = some p23) (Ef := fun (s : Option ring_Rings × Int × Str × (Value × ring_Rings.G)) => [(0, pt b0_ 0), (4, vI (i64 (ra8.1.toNat : Int))), (29, vI (i64 (ra2.1.toNat : Int))), (5, s.2.2.2.1), (30, vI s.2.1)]) (Rf := fun (s : Option ring_Rings × Int × Str × (Value × ring_Rings.G)) => R) (Lf := fun (s : Option ring_Rings × Int × Str × (Value × ring_Rings.G)) => Bk b0_ 128 [vS s.2.2.1] :: rO (ring_Rings.op s.2.2.2.2) s.2.2.2.1 s.1 :: F) (((i64 (ra2.1.toNat : Int)) - 0).toNat + 1) (r12.1, 0, ra8.2.s, (pv14, g15)) hp28 ⟨rfl, rfl, rfl, rfl, rfl, trivial⟩ (fun _ h => st_pk 2 [0, 1] (by decide) h) (fun _ h => by cases h) fun k37 s hM39 => ?_
          obtain ⟨out_31, s_32, c_33, pv34⟩ := s
          have hm38 : ring_Take_l0 ra2 ra8 (k37 + 1) out_31 s_32 c_33 = some p23 := hM39
          rw [ring_Take_l0] at hm38
          obtain ⟨pv35, g36⟩ := pv34
          refine c_seq ?_
          refine c_reg ?_
          refine r_u (o_bin rfl rfl (bI_lt s_32 (i64 (ra2.1.toNat : Int)))) ?_
          refine r_nil ?_
          refine x_seq ?_
          refine c_seq ?_
          refine c_if (b := decide (s_32 < (i64 (ra2.1.toNat : Int)))) rfl (fun h40 => ?_) fun h40 => ?_
          · have hm41 := ift hm38 h40
            clear hm38
            refine c_skip ?_
            refine x_seq ?_
            refine c_seq ?_
            obtain ⟨p42, hp47, hm48⟩ := bs hm41
            refine cd_cut (fun x ks => ∀ (q43 : Option ring_Rings × Str), ∀ (_ : p42 = Sum.inl q43), ∀ (pv44 : Value × ring_Rings.G), EX x .normal ks [(0, pt b0_ 0), (4, vI (i64 (ra8.1.toNat : Int))), (29, vI (i64 (ra2.1.toNat : Int))), (30, vI s_32), (5, pv44.1)] R (Bk b0_ 128 [vS q43.2] :: rO (ring_Rings.op pv44.2) pv44.1 q43.1 :: F)) ?_ fun K49 => ?_
            · intro q43 hq pv44
              subst hq
              try dsimp only at hm48
              obtain ⟨pv45, g46⟩ := pv44
              refine x_seq ?_
              refine c_reg ?_
              refine r_u (o_bin rfl rfl (bI_add s_32 1)) ?_
              refine r_u (o_mv rfl) ?_
              refine r_nil ?_
              exact x_lp (q43.1, i64 (s_32 + 1), q43.2, (pv45, g46)) hm48 ⟨rfl, rfl, rfl, rfl, rfl, trivial⟩ (fun _ h => st_pk 2 [0, 1] (by decide) h)
            · refine c_blk ?_
              refine c_seq ?_
              refine c_reg ?_
              refine r_u (o_mv rfl) ?_
              refine r_u (o_as rfl) ?_
              refine r_nil ?_
              refine x_seq ?_
              refine c_seq ?_
              refine c_reg ?_
              refine r_u (o_as rfl) ?_
              refine r_nil ?_
              refine x_seq ?_
              refine c_seq ?_
              refine c_seq ?_
              obtain ⟨r50, hr50, hm51⟩ := bs hp47
              clear hp47
              rcases r50 with ra52 | ⟨rn53, ro54⟩
              · have hm55 := sm_l hm51
                clear hm51
                refine c_reg ?_
                refine r_u (o_mv rfl) ?_
                refine r_u (o_mv rfl) ?_
                refine r_u (o_cv rfl (cIW Tryz.underlying3 Tryz.underlying22 (i64 (ra8.1.toNat : Int)))) ?_
                refine r_c (s_w (o_callL ca82 rfl (wire_Reader_Num.ok b0_ (⟨c_33⟩ : wire_Reader) (toW (i64 (ra8.1.toNat : Int))) (Sum.inl ra52) hr50) (fun _ _ _ h => h))) ?_
                refine r_u (o_as rfl) ?_
                refine r_nil ?_
                refine x_seq ?_
                obtain ⟨p56, hp59, hm60⟩ := bs hm55
                refine cd_cut (fun x ks => ∀ (q57 : List Str × Str), ∀ (_ : p56 = Sum.inl q57), ∀ (g58 : Value), EX x .normal ks [(0, pt b0_ 0), (4, vI (i64 (ra8.1.toNat : Int))), (5, pv35), (7, vI s_32), (29, vI (i64 (ra2.1.toNat : Int))), (30, vI s_32), (8, g58)] R (Bk b0_ 128 [vS q57.2] :: rO (ring_Rings.op g36) pv35 out_31 :: OwS true 9 1 eS g58 q57.1 :: F)) ?_ fun K61 => ?_
                · intro q57 hq g58
                  subst hq
                  try dsimp only at hm60
                  refine x_seq ?_
                  refine c_seq ?_
                  refine c_reg ?_
                  refine r_u (o_mv rfl) ?_
                  refine r_u (o_lenO 2 Tryz.underlying60 rfl rfl) ?_
                  refine r_u (o_bin rfl rfl (bI_sub (q57.1.length : Int) 1)) ?_
                  refine r_u (o_as rfl) ?_
                  refine r_nil ?_
                  refine x_seq ?_
                  obtain ⟨p62, hp67, hm68⟩ := bs hm60
                  refine cd_cut (fun x ks => ∀ (q63 : Option ring_Rings), ∀ (_ : p62 = Sum.inl q63), ∀ (pv64 : Value × ring_Rings.G), EX x .normal ks [(0, pt b0_ 0), (4, vI (i64 (ra8.1.toNat : Int))), (29, vI (i64 (ra2.1.toNat : Int))), (30, vI s_32), (5, pv64.1)] R (Bk b0_ 128 [vS q57.2] :: OwS true 9 1 eS g58 q57.1 :: rO (ring_Rings.op pv64.2) pv64.1 q63 :: F)) ?_ fun K69 => ?_
                  · intro q63 hq pv64
                    subst hq
                    try dsimp only at hm68
                    obtain ⟨pv65, g66⟩ := pv64
                    refine x_blk ?_
                    obtain rfl := Option.some.inj hm68
                    exact x_sub (K49 _ rfl (pv65, g66)) ⟨rfl, rfl, rfl, rfl, rfl, trivial⟩ (fun _ h => st_pk 3 [0, 2] (by decide) h)
                  · refine c_blk ?_
                    refine cd_loopG (M := fun k75 (s : Option ring_Rings × Int × (Value × ring_Rings.G)) => ring_Take_l1 q57 s_32 k75 s.1 s.2.1 = some p62) (Ef := fun (s : Option ring_Rings × Int × (Value × ring_Rings.G)) => [(0, pt b0_ 0), (4, vI (i64 (ra8.1.toNat : Int))), (7, vI s_32), (8, g58), (29, vI (i64 (ra2.1.toNat : Int))), (30, vI s_32), (5, s.2.2.1), (10, vI s.2.1)]) (Rf := fun (s : Option ring_Rings × Int × (Value × ring_Rings.G)) => R) (Lf := fun (s : Option ring_Rings × Int × (Value × ring_Rings.G)) => Bk b0_ 128 [vS q57.2] :: OwS true 9 1 eS g58 q57.1 :: rO (ring_Rings.op s.2.2.2) s.2.2.1 s.1 :: F) (((i64 ((q57.1.length : Int) - 1)) + 1).toNat + 1) (out_31, i64 ((q57.1.length : Int) - 1), (pv35, g36)) hp67 ⟨rfl, rfl, rfl, rfl, rfl, rfl, rfl, rfl, trivial⟩ (fun _ h => st_pk 3 [0, 2, 1] (by decide) h) (fun _ h => by cases h) fun k75 s hM77 => ?_
                    obtain ⟨out_70, k_71, pv72⟩ := s
                    have hm76 : ring_Take_l1 q57 s_32 (k75 + 1) out_70 k_71 = some p62 := hM77
                    rw [ring_Take_l1] at hm76
                    obtain ⟨pv73, g74⟩ := pv72
                    refine c_seq ?_
                    refine c_seq ?_
                    refine c_reg ?_
                    refine r_u (o_mv rfl) ?_
                    refine r_u (o_bin rfl rfl (bI_ge k_71 0)) ?_
                    refine r_nil ?_
                    refine x_seq ?_
                    refine c_if (b := decide (0 ≤ k_71)) rfl (fun h78 => ?_) fun h78 => ?_
                    · have hm79 := ift hm76 h78
                      clear hm76
                      refine c_skip ?_
                      refine x_seq ?_
                      refine c_seq ?_
                      refine c_blk ?_
                      refine c_seq ?_
                      obtain ⟨x80, hx80, hm81⟩ := bs hm79
                      clear hm79
                      refine cd_st (fun _ h => mv2 h) ?_
                      refine cd_opt (fun ho84 => ?_) (fun x82 b83 ho84 => ?_)
                      · rintro rfl
                        have hm85 := om_n hm81 ho84
                        clear hm81
                        cases hm85
                      · rintro rfl
                        have hm85 := om_s hm81 ho84
                        clear hm81
                        refine cd_st (fun _ h => st_star_o h) ?_
                        refine c_reg ?_
                        refine r_u (o_mv rfl) ?_
                        refine r_u (o_mv rfl) ?_
                        refine r_u (o_mv rfl) ?_
                        refine r_u (o_ixO 6 Tryz.underlying60 (fun _ => by kernel_rfl) rfl rfl rfl hx80) ?_
                        refine r_u (o_ldO0 6 sc9 rfl rfl hx80 rfl rfl) ?_
                        obtain ⟨r90, hr90, hm91⟩ := bs hm85
                        clear hm85
                        refine r_c (s_w (o_call ca37 rfl (ring_Rings_In.ok b83 x82 g74 x80 r90 hr90))) ?_
                        refine r_u (o_mv rfl) ?_
                        refine r_u (o_ext rfl rfl) ?_
                        refine r_u (o_ext rfl rfl) ?_
                        refine r_u (o_as rfl) ?_
                        refine r_u (o_as rfl) ?_
                        refine r_nil ?_
                        refine x_seq ?_
                        obtain ⟨p92, hp99, hm100⟩ := bs hm91
                        refine cd_cut (fun x ks => ∀ (q93 : ring_Rings), ∀ (_ : p92 = Sum.inl q93), ∀ (g94 : ring_Rings.G), EX x .normal ks [(0, pt b0_ 0), (4, vI (i64 (ra8.1.toNat : Int))), (5, pt b83 0), (7, vI s_32), (8, g58), (10, vI k_71), (29, vI (i64 (ra2.1.toNat : Int))), (30, vI s_32)] R (Bk b0_ 128 [vS q57.2] :: Bk b83 89 [vI q93.lists, g94.slots, g94.free, g94.at_, g94.many] :: OwS true 9 1 eS g58 q57.1 :: OwS true 91 4 ring_slot.c g94.slots q93.slots :: OwS true 3 1 eI g94.free q93.free :: OwM vS vI g94.at_ q93.at_ :: OwS true 3 1 eI g94.many q93.many :: F)) ?_ fun K101 => ?_
                        · intro q93 hq g94
                          subst hq
                          try dsimp only at hm100
                          refine x_blk ?_
                          refine x_seq ?_
                          refine c_reg ?_
                          refine r_u (o_mv rfl) ?_
                          refine r_u (o_bin rfl rfl (bI_sub k_71 1)) ?_
                          refine r_u (o_as rfl) ?_
                          refine r_nil ?_
                          refine ex_st (fun _ h => mv5 (mv6 (mv6 (mv6 (mv6 h))))) ?_
                          refine ex_st (fun _ h => st_some (f := ring_Rings.op g94) (a := q93) (st_star_f (A := ring_Rings.fl b83 q93 g94) h)) ?_
                          exact x_lp ((some q93), i64 (k_71 - 1), (pt b83 0, g94)) hm100 ⟨rfl, rfl, rfl, rfl, rfl, rfl, rfl, rfl, trivial⟩ (fun _ h => st_pk 3 [1, 2, 0] (by decide) h)
                        · refine cd_by r90.2 (fun h102 => ?_) fun h102 => ?_
                          · have hm103 := ift hp99 h102
                            clear hp99
                            obtain ⟨r104, hr104, hm105⟩ := ltx hm103
                            clear hm103
                            rcases r104 with ra106 | ⟨rn107, ro108⟩
                            · have hm109 := sm_l hm105
                              clear hm105
                              refine c_reg ?_
                              refine r_u (o_mv rfl) ?_
                              refine r_u (o_mv rfl) ?_
                              refine r_u (o_not rfl) ?_
                              refine r_u (o_mv rfl) ?_
                              refine r_s (s_n rfl rfl (nbf h102)) ?_
                              refine r_s (s_n rfl rfl (nbf h102)) ?_
                              refine r_s (s_n rfl rfl (nbf h102)) ?_
                              refine r_s (s_n rfl rfl (nbf h102)) ?_
                              refine r_s (s_n rfl rfl (nbf h102)) ?_
                              refine r_s (s_n rfl rfl (nbf h102)) ?_
                              refine r_s (s_n rfl rfl (nbf h102)) ?_
                              refine r_u (o_pf rfl (nbf h102) rfl) ?_
                              refine rl_st (fun _ h => mv5 h) ?_
                              refine r_c (s_w (o_callL ca83 rfl (wire_Reader_Must.ok b0_ (⟨q57.2⟩ : wire_Reader) false (Sum.inl ra106) hr104) (fun _ _ _ h => h))) ?_
                              refine r_nil ?_
                              obtain rfl := Option.some.inj hm109
                              exact x_sub (K101 _ rfl g74) ⟨rfl, rfl, rfl, rfl, rfl, rfl, rfl, rfl, trivial⟩ (fun _ h => st_pk 7 [0, 1, 6, 2, 3, 4, 5] (by decide) h)
                            · have hm109 := sm_r hm105
                              clear hm105
                              refine c_reg ?_
                              refine r_u (o_mv rfl) ?_
                              refine r_u (o_mv rfl) ?_
                              refine r_u (o_not rfl) ?_
                              refine r_u (o_mv rfl) ?_
                              refine r_s (s_n rfl rfl (nbf h102)) ?_
                              refine r_s (s_n rfl rfl (nbf h102)) ?_
                              refine r_s (s_n rfl rfl (nbf h102)) ?_
                              refine r_s (s_n rfl rfl (nbf h102)) ?_
                              refine r_s (s_n rfl rfl (nbf h102)) ?_
                              refine r_s (s_n rfl rfl (nbf h102)) ?_
                              refine r_s (s_n rfl rfl (nbf h102)) ?_
                              refine r_u (o_pf rfl (nbf h102) rfl) ?_
                              refine rl_st (fun _ h => mv5 h) ?_
                              obtain rfl := Option.some.inj hm109
                              try dsimp only at hm100
                              obtain rfl := Option.some.inj hm100
                              try dsimp only at hm68
                              obtain rfl := Option.some.inj hm68
                              try dsimp only at hm48
                              obtain rfl := Option.some.inj hm48
                              try dsimp only at hm29
                              obtain rfl := Option.some.inj hm29
                              exact r_sw (s_w (o_callR ca83 rfl (wire_Reader_Must.ok b0_ (⟨q57.2⟩ : wire_Reader) false (Sum.inr (rn107, ro108)) hr104) (by rintro _ _ _ ⟨rfl, rfl⟩; exact (px_st (fun _ h => st_pk 7 [0] (by decide) h) (px_of (Le.refl _) (.inr ⟨_, rfl, _, rfl, rfl, rfl⟩)))))) (fun _ _ _ _ h => h.elim)
                          · have hm103 := iff_ hp99 h102
                            clear hp99
                            obtain ⟨r110, hr110, hm116⟩ := bs hm103
                            clear hm103
                            obtain ⟨r117, hr117, hm118⟩ := ltx hm116
                            clear hm116
                            rcases r117 with ra119 | ⟨rn120, ro121⟩
                            · have hm122 := sm_l hm118
                              clear hm118
                              refine c_reg ?_
                              refine r_u (o_mv rfl) ?_
                              refine r_u (o_mv rfl) ?_
                              refine r_u (o_not rfl) ?_
                              refine r_u (o_mv rfl) ?_
                              refine r_s (s_y rfl rfl (nbt h102) (o_mv rfl)) ?_
                              refine r_s (s_y rfl rfl (nbt h102) (o_mv rfl)) ?_
                              refine r_s (s_y rfl rfl (nbt h102) (o_mv rfl)) ?_
                              refine r_s (s_y rfl rfl (nbt h102) (o_mv rfl)) ?_
                              refine r_s (s_y rfl rfl (nbt h102) (o_ixO 6 Tryz.underlying60 (fun _ => by kernel_rfl) rfl rfl rfl hx80)) ?_
                              refine r_s (s_y rfl rfl (nbt h102) (o_ldO0 6 sc9 rfl rfl hx80 rfl rfl)) ?_
                              refine r_sw (s_yw rfl rfl (nbt h102) (o_call ca49 rfl (ring_Rings_Front.ok b83 x82 g74 s_32 x80 r110 hr110))) ?_
                              rintro _ R _ _ ⟨g123, rfl, rfl, rfl⟩
                              refine r_u (o_pt rfl (nbt h102) rfl) ?_
                              refine rl_st (fun _ h => mv5 h) ?_
                              refine r_c (s_w (o_callL ca83 rfl (wire_Reader_Must.ok b0_ (⟨q57.2⟩ : wire_Reader) r110.1 (Sum.inl ra119) hr117) (fun _ _ _ h => h))) ?_
                              refine r_nil ?_
                              obtain rfl := Option.some.inj hm122
                              exact x_sub (K101 _ rfl g123) ⟨rfl, rfl, rfl, rfl, rfl, rfl, rfl, rfl, trivial⟩ (fun _ h => st_pk 7 [0, 1, 6, 2, 3, 4, 5] (by decide) h)
                            · have hm122 := sm_r hm118
                              clear hm118
                              refine c_reg ?_
                              refine r_u (o_mv rfl) ?_
                              refine r_u (o_mv rfl) ?_
                              refine r_u (o_not rfl) ?_
                              refine r_u (o_mv rfl) ?_
                              refine r_s (s_y rfl rfl (nbt h102) (o_mv rfl)) ?_
                              refine r_s (s_y rfl rfl (nbt h102) (o_mv rfl)) ?_
                              refine r_s (s_y rfl rfl (nbt h102) (o_mv rfl)) ?_
                              refine r_s (s_y rfl rfl (nbt h102) (o_mv rfl)) ?_
                              refine r_s (s_y rfl rfl (nbt h102) (o_ixO 6 Tryz.underlying60 (fun _ => by kernel_rfl) rfl rfl rfl hx80)) ?_
                              refine r_s (s_y rfl rfl (nbt h102) (o_ldO0 6 sc9 rfl rfl hx80 rfl rfl)) ?_
                              refine r_sw (s_yw rfl rfl (nbt h102) (o_call ca49 rfl (ring_Rings_Front.ok b83 x82 g74 s_32 x80 r110 hr110))) ?_
                              rintro _ R _ _ ⟨g128, rfl, rfl, rfl⟩
                              refine r_u (o_pt rfl (nbt h102) rfl) ?_
                              refine rl_st (fun _ h => mv5 h) ?_
                              obtain rfl := Option.some.inj hm122
                              try dsimp only at hm100
                              obtain rfl := Option.some.inj hm100
                              try dsimp only at hm68
                              obtain rfl := Option.some.inj hm68
                              try dsimp only at hm48
                              obtain rfl := Option.some.inj hm48
                              try dsimp only at hm29
                              obtain rfl := Option.some.inj hm29
                              exact r_sw (s_w (o_callR ca83 rfl (wire_Reader_Must.ok b0_ (⟨q57.2⟩ : wire_Reader) r110.1 (Sum.inr (rn120, ro121)) hr117) (by rintro _ _ _ ⟨rfl, rfl⟩; exact (px_st (fun _ h => st_pk 7 [0] (by decide) h) (px_of (Le.refl _) (.inr ⟨_, rfl, _, rfl, rfl, rfl⟩)))))) (fun _ _ _ _ h => h.elim)
                    · have hm79 := iff_ hm76 h78
                      clear hm76
                      refine c_exit (x_exit (ks' := _) rfl ?_)
                      obtain rfl := Option.some.inj hm79
                      exact x_sub (K69 _ rfl (pv73, g74)) ⟨rfl, rfl, rfl, rfl, rfl, trivial⟩ (fun _ h => st_pk 3 [0, 1, 2] (by decide) h)
                · refine c_blk ?_
                  refine cd_st (fun _ h => st_nil (ap := true) (T := 9) (sz := 1) (en := eS) h) ?_
                  refine cd_loopG (M := fun k137 (s : List Str × UInt64 × Str × Value) => ring_Take_l2 k137 s.1 s.2.1 s.2.2.1 = some p56) (Ef := fun (s : List Str × UInt64 × Str × Value) => [(0, pt b0_ 0), (4, vI (i64 (ra8.1.toNat : Int))), (5, pv35), (7, vI s_32), (29, vI (i64 (ra2.1.toNat : Int))), (30, vI s_32), (8, s.2.2.2), (9, vW s.2.1)]) (Rf := fun (s : List Str × UInt64 × Str × Value) => R) (Lf := fun (s : List Str × UInt64 × Str × Value) => Bk b0_ 128 [vS s.2.2.1] :: rO (ring_Rings.op g36) pv35 out_31 :: OwS true 9 1 eS s.2.2.2 s.1 :: F) ((ra52.1).toNat + 1) ([], ra52.1, ra52.2.s, .slice none 0 0) hp59 ⟨rfl, rfl, rfl, rfl, rfl, rfl, rfl, rfl, trivial⟩ (fun _ h => st_pk 3 [1, 2, 0] (by decide) h) (fun _ h => by cases h) fun k137 s hM139 => ?_
                  obtain ⟨keys_133, n_134, c_135, g136⟩ := s
                  have hm138 : ring_Take_l2 (k137 + 1) keys_133 n_134 c_135 = some p56 := hM139
                  rw [ring_Take_l2] at hm138
                  refine c_seq ?_
                  refine c_seq ?_
                  refine c_reg ?_
                  refine r_u (o_mv rfl) ?_
                  refine r_u (o_bin rfl rfl (bW_gt n_134 0)) ?_
                  refine r_nil ?_
                  refine x_seq ?_
                  refine c_if (b := decide (0 < n_134)) rfl (fun h140 => ?_) fun h140 => ?_
                  · have hm141 := ift hm138 h140
                    clear hm138
                    refine c_skip ?_
                    refine x_seq ?_
                    refine c_seq ?_
                    refine c_blk ?_
                    obtain ⟨r142, hr142, hm143⟩ := bs hm141
                    clear hm141
                    rcases r142 with ra144 | ⟨rn145, ro146⟩
                    · have hm147 := sm_l hm143
                      clear hm143
                      refine c_reg ?_
                      refine r_u (o_mv rfl) ?_
                      refine r_u (o_mv rfl) ?_
                      refine r_c (s_w (o_callL ca98 rfl (wire_Reader_Text.ok b0_ (⟨c_135⟩ : wire_Reader) 64 (Sum.inl ra144) hr142) (fun _ _ _ h => h))) ?_
                      refine r_sw (s_w (o_bsl (en := eS) (sz := 1) (e := 9) (cs := [vS ra144.1]) (r := [ra144.1]) rfl (fun _ => by kernel_rfl) rfl (by decide) rfl (fun _ => rfl))) ?_
                      rintro v148 R _ _ ⟨rfl, rfl⟩
                      obtain ⟨l150, hl150, hm151⟩ := bs hm147
                      clear hm147
                      refine rl_st (fun _ h => mv3 h) ?_
                      refine r_sw (s_w (o_ap (sz := 1) (bytes := 16) 0 Tryz.underlying60 rfl rfl rfl rfl rfl (by decide) (by decide) (fun _ _ _ h => by simp at h; subst h; rfl) (fun _ => rfl) rfl rfl rfl rfl (Nat.succ_pos _) hl150)) ?_
                      rintro v149 R _ _ ⟨rfl, rfl⟩
                      refine r_u (o_as rfl) ?_
                      refine r_nil ?_
                      refine x_blk ?_
                      refine x_seq ?_
                      refine c_reg ?_
                      refine r_u (o_mv rfl) ?_
                      refine r_u (o_bin rfl rfl (bW_sub n_134 1)) ?_
                      refine r_u (o_as rfl) ?_
                      refine r_nil ?_
                      exact x_lp (l150, n_134 - 1, ra144.2.s, v149) hm151 ⟨rfl, rfl, rfl, rfl, rfl, rfl, rfl, rfl, trivial⟩ (fun _ h => st_pk 4 [2, 3, 0] (by decide) h)
                    · have hm147 := sm_r hm143
                      clear hm143
                      refine c_reg ?_
                      refine r_u (o_mv rfl) ?_
                      refine r_u (o_mv rfl) ?_
                      obtain rfl := Option.some.inj hm147
                      try dsimp only at hm60
                      obtain rfl := Option.some.inj hm60
                      try dsimp only at hm48
                      obtain rfl := Option.some.inj hm48
                      try dsimp only at hm29
                      obtain rfl := Option.some.inj hm29
                      exact r_sw (s_w (o_callR ca98 rfl (wire_Reader_Text.ok b0_ (⟨c_135⟩ : wire_Reader) 64 (Sum.inr (rn145, ro146)) hr142) (by rintro _ _ _ ⟨rfl, rfl⟩; exact (px_st (fun _ h => st_pk 3 [0] (by decide) h) (px_of (Le.refl _) (.inr ⟨_, rfl, _, rfl, rfl, rfl⟩)))))) (fun _ _ _ _ h => h.elim)
                  · have hm141 := iff_ hm138 h140
                    clear hm138
                    refine c_exit (x_exit (ks' := _) rfl ?_)
                    obtain rfl := Option.some.inj hm141
                    exact x_sub (K61 _ rfl g136) ⟨rfl, rfl, rfl, rfl, rfl, rfl, rfl, trivial⟩ (fun _ h => st_pk 3 [0, 1, 2] (by decide) h)
              · have hm55 := sm_r hm51
                clear hm51
                refine c_reg ?_
                refine r_u (o_mv rfl) ?_
                refine r_u (o_mv rfl) ?_
                refine r_u (o_cv rfl (cIW Tryz.underlying3 Tryz.underlying22 (i64 (ra8.1.toNat : Int)))) ?_
                obtain rfl := Option.some.inj hm55
                try dsimp only at hm48
                obtain rfl := Option.some.inj hm48
                try dsimp only at hm29
                obtain rfl := Option.some.inj hm29
                exact r_sw (s_w (o_callR ca82 rfl (wire_Reader_Num.ok b0_ (⟨c_33⟩ : wire_Reader) (toW (i64 (ra8.1.toNat : Int))) (Sum.inr (rn53, ro54)) hr50) (by rintro _ _ _ ⟨rfl, rfl⟩; exact (px_st (fun _ h => st_pk 2 [0] (by decide) h) (px_of (Le.refl _) (.inr ⟨_, rfl, _, rfl, rfl, rfl⟩)))))) (fun _ _ _ _ h => h.elim)
          · have hm41 := iff_ hm38 h40
            clear hm38
            refine c_exit (x_exit (ks' := _) rfl ?_)
            obtain rfl := Option.some.inj hm41
            exact x_sub (K30 _ rfl (pv35, g36)) ⟨rfl, trivial⟩ (fun _ h => st_pk 2 [0, 1] (by decide) h)
      · have hm22 := sm_r hm18
        clear hm18
        refine c_reg ?_
        refine r_u (o_mv rfl) ?_
        refine r_u (o_mv rfl) ?_
        refine r_u (o_bin rfl rfl (bI_eq r12.2 0)) ?_
        refine rl_st (fun _ h => mv1 h) ?_
        obtain rfl := Option.some.inj hm22
        exact r_sw (s_w (o_callR ca83 rfl (wire_Reader_Must.ok b0_ ra8.2 (r12.2 == 0) (Sum.inr (rn20, ro21)) hr17) (by rintro _ _ _ ⟨rfl, rfl⟩; exact (px_st (fun _ h => st_pk 2 [0] (by decide) h) (px_of (Le.refl _) (.inr ⟨_, rfl, _, rfl, rfl, rfl⟩)))))) (fun _ _ _ _ h => h.elim)
    · have hm11 := sm_r hm7
      clear hm7
      refine c_reg ?_
      refine r_u (o_mv rfl) ?_
      refine r_c (s_w (o_callL ca82 rfl (wire_Reader_Num.ok b0_ a0 8 (Sum.inl ra2) hr0) (fun _ _ _ h => h))) ?_
      refine r_u (o_cv rfl (cWI Tryz.underlying22 Tryz.underlying3 ra2.1)) ?_
      refine r_u (o_mv rfl) ?_
      obtain rfl := Option.some.inj hm11
      exact r_sw (s_w (o_callR ca82 rfl (wire_Reader_Num.ok b0_ ra2.2 4096 (Sum.inr (rn9, ro10)) hr6) (by rintro _ _ _ ⟨rfl, rfl⟩; exact (px_st (fun _ h => st_pk 1 [0] (by decide) h) (px_of (Le.refl _) (.inr ⟨_, rfl, _, rfl, rfl, rfl⟩)))))) (fun _ _ _ _ h => h.elim)
  · have hm5 := sm_r hm1
    clear hm1
    refine c_reg ?_
    refine r_u (o_mv rfl) ?_
    obtain rfl := Option.some.inj hm5
    exact r_sw (s_w (o_callR ca82 rfl (wire_Reader_Num.ok b0_ a0 8 (Sum.inr (rn3, ro4)) hr0) (by rintro _ _ _ ⟨rfl, rfl⟩; exact (px_st (fun _ h => st_pk 1 [0] (by decide) h) (px_of (Le.refl _) (.inr ⟨_, rfl, _, rfl, rfl, rfl⟩)))))) (fun _ _ _ _ h => h.elim)

def ring_Rings_Lists (a0 : ring_Rings) : Int :=
  a0.lists
theorem ring_Rings_Lists.ok {G R F} (b0_ : Nat) (a0 : ring_Rings) (g0_ : ring_Rings.G) (r : Int) (hm : ring_Rings_Lists a0 = r) : CO Tryz.prog 87 [pt b0_ 0] G R (Bk b0_ 89 [vI a0.lists, g0_.slots, g0_.free, g0_.at_, g0_.many] :: OwS true 91 4 ring_slot.c g0_.slots a0.slots :: OwS true 3 1 eI g0_.free a0.free :: OwM vS vI g0_.at_ a0.at_ :: OwS true 3 1 eI g0_.many a0.many :: F)
    (Ret fun u R' L' => u = vI r ∧ R' = R ∧ L' = Bk b0_ 89 [vI a0.lists, g0_.slots, g0_.free, g0_.at_, g0_.many] :: OwS true 91 4 ring_slot.c g0_.slots a0.slots :: OwS true 3 1 eI g0_.free a0.free :: OwM vS vI g0_.at_ a0.at_ :: OwS true 3 1 eI g0_.many a0.many :: F) := by
  unfold ring_Rings_Lists at hm
  refine co_ofN (N := 9) Tryz.func87 rfl rfl ?_
  refine c_seq ?_
  refine c_reg ?_
  refine r_u (o_as rfl) ?_
  refine r_nil ?_
  refine x_seq ?_
  refine c_seq ?_
  refine c_seq ?_
  refine c_reg ?_
  refine r_u (o_mv rfl) ?_
  refine r_u (o_bin rfl rfl (bP_eqp Tryz.underlying53)) ?_
  refine r_nil ?_
  refine x_seq ?_
  refine c_ff rfl ?_
  refine c_skip ?_
  refine x_seq ?_
  refine c_seq ?_
  refine c_reg ?_
  refine r_u (o_mv rfl) ?_
  refine r_u (o_nc rfl) ?_
  refine r_u (o_fa fa89_0 rfl) ?_
  refine r_u (o_ld 0 sc3 rfl rfl rfl) ?_
  refine r_u (o_as rfl) ?_
  refine r_nil ?_
  refine x_seq ?_
  refine c_ret ?_
  subst hm
  exact x_r1 rfl (rv_t rfl) (Le.refl _) ⟨_, rfl, rfl, rfl, rfl⟩

def ring_Rings_Free (a0 : ring_Rings) : Int :=
  (a0.free.length : Int)
theorem ring_Rings_Free.ok {G R F} (b0_ : Nat) (a0 : ring_Rings) (g0_ : ring_Rings.G) (r : Int) (hm : ring_Rings_Free a0 = r) : CO Tryz.prog 88 [pt b0_ 0] G R (Bk b0_ 89 [vI a0.lists, g0_.slots, g0_.free, g0_.at_, g0_.many] :: OwS true 91 4 ring_slot.c g0_.slots a0.slots :: OwS true 3 1 eI g0_.free a0.free :: OwM vS vI g0_.at_ a0.at_ :: OwS true 3 1 eI g0_.many a0.many :: F)
    (Ret fun u R' L' => u = vI r ∧ R' = R ∧ L' = Bk b0_ 89 [vI a0.lists, g0_.slots, g0_.free, g0_.at_, g0_.many] :: OwS true 91 4 ring_slot.c g0_.slots a0.slots :: OwS true 3 1 eI g0_.free a0.free :: OwM vS vI g0_.at_ a0.at_ :: OwS true 3 1 eI g0_.many a0.many :: F) := by
  unfold ring_Rings_Free at hm
  refine co_ofN (N := 10) Tryz.func88 rfl rfl ?_
  refine c_seq ?_
  refine c_reg ?_
  refine r_u (o_as rfl) ?_
  refine r_nil ?_
  refine x_seq ?_
  refine c_seq ?_
  refine c_seq ?_
  refine c_reg ?_
  refine r_u (o_mv rfl) ?_
  refine r_u (o_bin rfl rfl (bP_eqp Tryz.underlying53)) ?_
  refine r_nil ?_
  refine x_seq ?_
  refine c_ff rfl ?_
  refine c_skip ?_
  refine x_seq ?_
  refine c_seq ?_
  refine c_reg ?_
  refine r_u (o_mv rfl) ?_
  refine r_u (o_nc rfl) ?_
  refine r_u (o_fa fa89_2 rfl) ?_
  refine r_u (o_ld 0 sc86 rfl rfl rfl) ?_
  refine r_u (o_lenO 2 Tryz.underlying86 rfl rfl) ?_
  refine r_u (o_as rfl) ?_
  refine r_nil ?_
  refine x_seq ?_
  refine c_ret ?_
  subst hm
  exact x_r1 rfl (rv_t rfl) (Le.refl _) ⟨_, rfl, rfl, rfl, rfl⟩

end Go.Proofs.YtlahbmoebbflbaaGreat
